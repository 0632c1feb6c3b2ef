/- What is proved: what the reader of declared names does. what the reader of declarations does. what the reader of locals does. Conditions: as each theorem says. -/
import Derived.Test.YtdeejbnhlbddgaaGreatDoorReadA
import Derived.Test.YtdeejbnhlbddgaaGreatDoorPlain
set_option linter.unusedVariables false
set_option linter.unusedSimpArgs false
set_option linter.unusedSectionVars false
namespace Go.Proofs.YtdeejbnhlbddgaaGreatDoor
open Go.Eng Go.Plain
set_option autoImplicit false
set_option maxRecDepth 100000
variable {nat:∀ [Deep],Nats} {L:List Wd} {d:Nat}
def VarSpec (nat:∀ [Deep],Nats) (f:FuncId) (L:List Wd) (d:Nat) (φ:PS→List Vr×PS):Prop :=
 ∀(η:HN) (pb:Nat) (y:AV) (p:PS) (Q:AV→HN→Prop),PA η pb y L d p→(∀v η',OwnA 5 η.nx η' v (φ p).1.length ((φ p).1.map Vr.cells).flatten→PA η' pb y L d (φ p).2→ExtX pb η η'→Q v η')→∃v η',CallN Tryz.prog nat f [.ptr pb 0] η v η'∧Q v η'
theorem own_len {s lo n e w:Nat} {η η':HN} {x:AV} {l:List AV} (o:OwnA s lo η x n l) (hn:n≤9223372036854775807):lenN (.slice e s w) x η'=.ok (.int .i64 n) η':=by
 obtain⟨_,⟨rfl,rfl⟩|⟨c,_,_,⟨rfl,rfl,_⟩|⟨rfl,_⟩⟩⟩:=o
 ·rfl
 ·rw[lenN_sl,lenI_at,if_pos (by decide)]
 ·rw[lenN_sl,lenI_at,if_pos hn]
theorem own_blk {s lo n:Nat} {η:HN} {x:AV} {l:List AV} (o:OwnA s lo η x n l) (hn:0<n):∃b,x=.slice b 0 n (.un s)∧lo≤b∧b<η.nx∧η.f b=.live false l:=by
 obtain⟨_,⟨_,h⟩|⟨c,h1,h2,⟨_,h,_⟩|⟨h3,h4⟩⟩⟩:=o
 ·omega
 ·omega
 ·exact⟨c,h3,h1,h2,h4⟩
theorem own_put {s lo n b:Nat} {η:HN} {l l':List AV} (o:OwnA s lo η (.slice b 0 n (.un s)) n l) (hn:0<n) (hl:l'.length=n*s):OwnA s lo (η.put b (.live false l')) (.slice b 0 n (.un s)) n l':=by
 have hb:=own_at o (b:=b) rfl
 exact⟨hl,.inr ⟨b,hb.1,hb.2,.inr ⟨rfl,if_pos rfl⟩⟩⟩
set_option maxHeartbeats 8000000 in
theorem decl_spec (U:Usual nat):VarSpec nat 98 L d (declF L):=by
 intro η pb y p Q h k
 refine call_of (PT:=pl98) Tryz.func98 rfl (U 98 (by decide)) ok98 rfl ?_
 have hn:=h.hn
 have yl:∀b,blkIs y b→b<η.nx:=fun b hb=>Nat.lt_of_not_le fun g=>h.fresh g hb
 obtain⟨M,hM⟩:∃M:FN→HN→Prop,∀φ ζ,M φ ζ↔∃l x q,φ 0=.ptr pb 0∧φ 3=x∧PA ζ pb y L d q∧OwnA 5 η.nx ζ x l.length (l.map Vr.cells).flatten∧ExtX pb η ζ∧declL L L.length [] p=((l,true),q)∧l.length≤L.length:=⟨_,fun _ _=>Iff.rfl⟩
 refine wp_cut (M:=M) 3 _ _ _ ?_ ?_
 ·intro φ ζ hm
  obtain⟨l,x,q,p0,p3,hq,oq,Xq,eq,bq⟩:=(hM _ _).1 hm
  have hqg:=hq.g.2.1
  have hqn:=hq.hn
  have eF:declF L p=(l.map fun v=>{ v with kd:=if isP L sBool (wantP L sColon q) then 1 else 2 },if isP L sBool (wantP L sColon q) then adv (wantP L sColon q) else wantP L sInt (wantP L sColon q)):=by
   unfold declF
   rw[eq];rfl
  rw[eF]at k
  simp -implicitDefEqProofs(disch:=omega)only[go_sem,p0]
  refine thenN_call (want_then U hq sColon fun η4 h4 x4=>?_)
  have n4:=x4.1
  have o4:=own_keep oq (fun b hb hc=>x4.2 b hc (by omega)) n4
  simp -implicitDefEqProofs(disch:=omega)only[go_sem,p0]
  refine thenN_call (is_then U h4 sBool fun η5 x5=>?_)
  have n5:=x5.1
  have h5:=h4.extB x5
  have o5:=own_keep o4 (fun b hb hc=>x5.2 b hc) n5
  cases e5:isP L sBool (wantP L sColon q) with
  |true =>
   rw[e5]at k
   simp -implicitDefEqProofs(disch:=omega)only[go_sem,p0]
   refine thenN_call (take_then U h5 sBool fun η6 h6 x6=>?_)
   have n6:=x6.1
   unfold takeP at h6
   rw[e5,if_pos rfl]at h6
   have o6:=own_keep o5 (fun b hb hc=>x6.2 b hc (by omega)) n6
   have X6:=((Xq.trans x4).of x5).trans x6
   rw[e5]
   simp -implicitDefEqProofs(disch:=omega)only[go_sem,p0]
   have k:∀v η',OwnA 5 η.nx η' v l.length ((l.map fun v=>{ v with kd:=1 }).map Vr.cells).flatten→PA η' pb y L d (adv (wantP L sColon q))→ExtX pb η η'→Q v η':=fun v η' a b c=>k v η' (by rw[List.length_map];exact a) b c
   obtain⟨J,hJ⟩:∃J:Nat→FN→HN→Prop,∀m φ ζ,J m φ ζ↔∃i,m=l.length-i∧i≤l.length∧(φ 0=.ptr pb 0∧φ 3=x∧φ 5=.int .i64 1∧φ 6=.int .i64 i)∧PA ζ pb y L d (adv (wantP L sColon q))∧ExtX pb η ζ ∧
     OwnA 5 η.nx ζ x l.length (((l.take i).map fun v=>{ v with kd:=1 }).map Vr.cells++(l.drop i).map Vr.cells).flatten:=⟨_,fun _ _ _=>Iff.rfl⟩
   refine wpN_loop J l.length ((hJ _ _ _).2 ⟨0,rfl,Nat.zero_le _,⟨p0,p3,rfl,rfl⟩,h6,X6,o6⟩) ?_
   intro m φ ζ hj
   obtain⟨i,hm,hi,⟨s0,s3,s5,s6⟩,hj',Xj,oj⟩:=(hJ _ _ _).1 hj
   have lj:=fun e w η'=>own_len (e:=e) (w:=w) (η':=η') oj (by omega)
   by_cases hlt:i<l.length
   ·obtain⟨b,rfl,b1,b2,b3⟩:=own_blk oj (by omega)
    have hdr:(l.drop i).map Vr.cells=(l[i]).cells::(l.drop (i+1)).map Vr.cells:=by rw[List.drop_eq_getElem_cons hlt];rfl
    have hrow:∀r∈((l.take i).map fun v=>{ v with kd:=1 }).map Vr.cells,r.length=5:=vr_rows _
    have hlen:(((l.take i).map fun v=>{ v with kd:=1 }).map Vr.cells).length=i:=by simp;omega
    have es:=set_mid _ ((l.drop (i+1)).map Vr.cells) (l[i]).cells 1 (.int .i64 1) hrow (by show 1<5;omega)
    rw[hlen,←hdr]at es
    have e0:((((l.take i).map fun v=>{ v with kd:=1 }).map Vr.cells++(l.drop i).map Vr.cells).flatten).length=l.length*5:=oj.1
    have h5i:i*5+1<l.length*5:=by omega
    simp -implicitDefEqProofs(disch:=omega)only[go_sem,s0,s3,s5,s6,lj,b3,e0,es]
    have e1:((l.take i).map fun v=>{ v with kd:=1 }).map Vr.cells++(l[i]).cells.set 1 (.int .i64 1)::(l.drop (i+1)).map Vr.cells=((l.take (i+1)).map fun v=>{ v with kd:=1 }).map Vr.cells++(l.drop (i+1)).map Vr.cells:=by
     rw[List.take_succ_eq_append_getElem hlt,List.map_append,List.map_append,List.append_assoc];rfl
    rw[e1]
    have e2:((((l.take (i+1)).map fun v=>{ v with kd:=1 }).map Vr.cells++(l.drop (i+1)).map Vr.cells).flatten).length=l.length*5:=by rw[←e1,←es,List.length_set,e0]
    exact⟨l.length-(i+1),by omega,(hJ _ _ _).2 ⟨i+1,rfl,by omega,⟨s0,s3,s5,rfl⟩,hj'.putc (by omega) (fun g=>by have:=yl _ g;omega),Xj.putN (by omega),own_put oj (by omega) e2⟩⟩
   ·obtain rfl:i=l.length:=by omega
    simp -implicitDefEqProofs(disch:=omega)only[go_sem,s0,s3,s5,s6,lj]
    rw[List.take_length,List.drop_length,List.map_nil,List.append_nil]at oj
    exact k _ _ oj hj' Xj
  |false =>
   rw[e5]at k
   simp -implicitDefEqProofs(disch:=omega)only[go_sem,p0]
   refine thenN_call (take_then U h5 sBool fun η6 h6 x6=>?_)
   have n6:=x6.1
   unfold takeP at h6
   rw[e5,if_neg (by decide)]at h6
   have o6:=own_keep o5 (fun b hb hc=>x6.2 b hc (by omega)) n6
   have X6:=((Xq.trans x4).of x5).trans x6
   rw[e5]
   simp -implicitDefEqProofs(disch:=omega)only[go_sem,p0]
   refine thenN_call (want_then U h6 sInt fun η7 h7 x7=>?_)
   have n7:=x7.1
   have o7:=own_keep o6 (fun b hb hc=>x7.2 b hc (by omega)) n7
   have X7:=X6.trans x7
   simp -implicitDefEqProofs(disch:=omega)only[go_sem,p0]
   have k:∀v η',OwnA 5 η.nx η' v l.length ((l.map fun v=>{ v with kd:=2 }).map Vr.cells).flatten→PA η' pb y L d (wantP L sInt (wantP L sColon q))→ExtX pb η η'→Q v η':=fun v η' a b c=>k v η' (by rw[List.length_map];exact a) b c
   obtain⟨J,hJ⟩:∃J:Nat→FN→HN→Prop,∀m φ ζ,J m φ ζ↔∃i,m=l.length-i∧i≤l.length∧(φ 0=.ptr pb 0∧φ 3=x∧φ 5=.int .i64 2∧φ 6=.int .i64 i)∧PA ζ pb y L d (wantP L sInt (wantP L sColon q))∧ExtX pb η ζ ∧
     OwnA 5 η.nx ζ x l.length (((l.take i).map fun v=>{ v with kd:=2 }).map Vr.cells++(l.drop i).map Vr.cells).flatten:=⟨_,fun _ _ _=>Iff.rfl⟩
   refine wpN_loop J l.length ((hJ _ _ _).2 ⟨0,rfl,Nat.zero_le _,⟨p0,p3,rfl,rfl⟩,h7,X7,o7⟩) ?_
   intro m φ ζ hj
   obtain⟨i,hm,hi,⟨s0,s3,s5,s6⟩,hj',Xj,oj⟩:=(hJ _ _ _).1 hj
   have lj:=fun e w η'=>own_len (e:=e) (w:=w) (η':=η') oj (by omega)
   by_cases hlt:i<l.length
   ·obtain⟨b,rfl,b1,b2,b3⟩:=own_blk oj (by omega)
    have hdr:(l.drop i).map Vr.cells=(l[i]).cells::(l.drop (i+1)).map Vr.cells:=by rw[List.drop_eq_getElem_cons hlt];rfl
    have hrow:∀r∈((l.take i).map fun v=>{ v with kd:=2 }).map Vr.cells,r.length=5:=vr_rows _
    have hlen:(((l.take i).map fun v=>{ v with kd:=2 }).map Vr.cells).length=i:=by simp;omega
    have es:=set_mid _ ((l.drop (i+1)).map Vr.cells) (l[i]).cells 1 (.int .i64 2) hrow (by show 1<5;omega)
    rw[hlen,←hdr]at es
    have e0:((((l.take i).map fun v=>{ v with kd:=2 }).map Vr.cells++(l.drop i).map Vr.cells).flatten).length=l.length*5:=oj.1
    have h5i:i*5+1<l.length*5:=by omega
    simp -implicitDefEqProofs(disch:=omega)only[go_sem,s0,s3,s5,s6,lj,b3,e0,es]
    have e1:((l.take i).map fun v=>{ v with kd:=2 }).map Vr.cells++(l[i]).cells.set 1 (.int .i64 2)::(l.drop (i+1)).map Vr.cells=((l.take (i+1)).map fun v=>{ v with kd:=2 }).map Vr.cells++(l.drop (i+1)).map Vr.cells:=by
     rw[List.take_succ_eq_append_getElem hlt,List.map_append,List.map_append,List.append_assoc];rfl
    rw[e1]
    have e2:((((l.take (i+1)).map fun v=>{ v with kd:=2 }).map Vr.cells++(l.drop (i+1)).map Vr.cells).flatten).length=l.length*5:=by rw[←e1,←es,List.length_set,e0]
    exact⟨l.length-(i+1),by omega,(hJ _ _ _).2 ⟨i+1,rfl,by omega,⟨s0,s3,s5,rfl⟩,hj'.putc (by omega) (fun g=>by have:=yl _ g;omega),Xj.putN (by omega),own_put oj (by omega) e2⟩⟩
   ·obtain rfl:i=l.length:=by omega
    simp -implicitDefEqProofs(disch:=omega)only[go_sem,s0,s3,s5,s6,lj]
    rw[List.take_length,List.drop_length,List.map_nil,List.append_nil]at oj
    exact k _ _ oj hj' Xj
 simp -implicitDefEqProofs(disch:=omega)only[go_sem]
 obtain⟨I,hI⟩:∃I:Nat→FN→HN→Prop,∀m φ ζ,I m φ ζ↔∃l x q,(φ 0=.ptr pb 0∧φ 3=x)∧PA ζ pb y L d q∧OwnA 5 η.nx ζ x l.length (l.map Vr.cells).flatten∧ExtX pb η ζ∧declL L m l q=declL L L.length [] p∧(q.e=0→L.length≤q.k+m)∧l.length+m≤L.length:=⟨_,fun _ _ _=>Iff.rfl⟩
 refine wpN_loop I L.length ((hI _ _ _).2 ⟨[],.nilslice,p,⟨rfl,rfl⟩,h,.nil,.refl _ _,rfl,fun _=>Nat.le_add_left _ _,by simp⟩) ?_
 intro m φ ζ hi
 obtain⟨l,x,q,⟨p0,p3⟩,hq,oq,Xq,wq,fq,bq⟩:=(hI _ _ _).1 hi
 have hqb:=hq.hb
 have hqn:=hq.hn
 have hq7:=hq.e
 have hqk:=hq.k
 have hqg:=hq.g.2.1
 have hqm:=hq.n
 by_cases z0:q.e=0
 ·obtain _|m:=m
  ·have:=fq z0;omega
  rw[z0]at hqb
  simp -implicitDefEqProofs(disch:=omega)only[go_sem,p0,hqb]
  refine thenN_call (w_then U hq fun η3 x3=>?_)
  have n3:=x3.1
  have h3:=hq.extB x3
  have b3:η3.f pb=_:=(x3.2 _ hqn).trans hqb
  have hc:(wd L q).cells=[.int .i64 (wd L q).k,.str (wd L q).t.1 (wd L q).t.2,.int .i64 (wd L q).n,.int .i64 (wd L q).a]:=rfl
  have hk5:=(hq.g.2.2.2 _ (wd_mem hqk)).1
  rw[hc]
  by_cases zz:(wd L q).k=1∧q.names=64
  ·have w1:declL L (m+1) l q=(([],false),failP L 2 q):=by
    unfold declL
    rw[if_pos z0,if_pos zz]
   rw[zz.1]
   rw[zz.2]at b3
   simp -implicitDefEqProofs(disch:=omega)only[go_sem,p0,b3]
   refine thenN_call (fail_then U h3 (er:=2) (by omega) fun η4 h4 x4=>?_)
   simp -implicitDefEqProofs(disch:=omega)only[go_sem]
   have eF:declF L p=([],failP L 2 q):=by
    unfold declF
    rw[←wq,w1];rfl
   rw[eF]at k
   exact k _ _ .nil h4 ((Xq.of x3).trans x4)
  have w1:declL L (m+1) l q=(if isP L sComma (nameP L q).2 then declL L m (l++[(⟨(nameP L q).1,0,(0,0),false,(wd L q).a⟩:Vr)]) (adv { (nameP L q).2 with names:=(q.names+1)%18446744073709551616 })
    else((l++[(⟨(nameP L q).1,0,(0,0),false,(wd L q).a⟩:Vr)],true),{ (nameP L q).2 with names:=(q.names+1)%18446744073709551616 })):=by
   conv=>lhs;unfold declL
   rw[if_pos z0,if_neg zz]
  by_cases z1:(wd L q).k=1
  ·have z2:q.names≠64:=fun g=>zz ⟨z1,g⟩
   rw[z1]
   simp -implicitDefEqProofs(disch:=omega)only[go_sem,p0,b3]
   refine thenN_call (w_then U h3 fun η4 x4=>?_)
   have n4:=x4.1
   have h4:=h3.extB x4
   rw[hc]
   simp -implicitDefEqProofs(disch:=omega)only[go_sem,p0]
   obtain⟨η5,e5,h5,c5,n5,X5,B5⟩:=cell_new (w:=.live false [.str 0 0,.int .i64 0,.str 0 0,.bool false,.int .i64 (wd L q).a]) h4
   rw[←e5]
   refine thenN_call (name_then U h5 fun η6 h6 x6=>?_)
   have n6:=x6.1
   have c6:η6.f η4.nx=_:=(x6.2 _ (by omega) (by omega)).trans c5
   have b6:=h6.hb
   have g6:=h6.hn
   rw[nameP_names]at b6
   have X6:ExtX pb ζ η6:=((((ExtX.refl pb ζ).of x3).of x4).trans X5).trans x6
   have o6:=own_keep oq (fun b hb hc=>X6.2 b hc (by omega)) X6.1
   simp -implicitDefEqProofs(disch:=omega)only[go_sem,p0,p3,c6,b6,sV,repL_s,repL_z,setsL_c]
   have e7:(q.names+1)%18446744073709551616=(q.names+1)%18446744073709551616:=rfl
   generalize hnm:(q.names+1)%18446744073709551616=nm at *
   have hnm64:nm<18446744073709551616:=by rw[←hnm];exact Nat.mod_lt _ (by omega)
   have h7:PA (((η6.put η4.nx (.live false [.str (nameP L q).1.1 (nameP L q).1.2,.int .i64 0,.str 0 0,.bool false,.int .i64 (wd L q).a])).put pb (.live false [y,.int .i64 (nameP L q).2.k,.int .i64 (nameP L q).2.e,.int .i64 (nameP L q).2.b,.int .i64 d,.int .i64 (nameP L q).2.parts,.int .i64 nm])).new (.live false [.str (nameP L q).1.1 (nameP L q).1.2,.int .i64 0,.str 0 0,.bool false,.int .i64 (wd L q).a])) pb y L d { (nameP L q).2 with names:=nm } :=
    ((h6.putc (c:=η4.nx) (by omega) (fun g=>by have:=yl _ g;have:=Xq.1;omega)).put (p':={ (nameP L q).2 with names:=nm }) (ExtX.refl pb _).put (if_pos rfl) h6.k h6.e h6.b h6.q hnm64).new
   have o7:OwnA 5 η.nx (((η6.put η4.nx (.live false [.str (nameP L q).1.1 (nameP L q).1.2,.int .i64 0,.str 0 0,.bool false,.int .i64 (wd L q).a])).put pb (.live false [y,.int .i64 (nameP L q).2.k,.int .i64 (nameP L q).2.e,.int .i64 (nameP L q).2.b,.int .i64 d,.int .i64 (nameP L q).2.parts,.int .i64 nm])).new (.live false [.str (nameP L q).1.1 (nameP L q).1.2,.int .i64 0,.str 0 0,.bool false,.int .i64 (wd L q).a])) x l.length (l.map Vr.cells).flatten :=
    own_keep oq (fun b hb hc=>(by simp -implicitDefEqProofs(disch:=omega)only[go_sem];exact X6.2 b hc (by omega))) (by show ζ.nx≤η6.nx+1;have:=X6.1;omega)
   refine thenN_sep (by decide) o7 (RdA.lits (s:=5) (n:=1) rfl) (by decide) (by omega) (by show η.nx≤η6.nx+1;have:=X6.1;have:=Xq.1;omega) fun η8 o8 n8 k8=>?_
   have n8:η8.nx=η6.nx+1+1:=n8
   have h8:PA η8 pb y L d { (nameP L q).2 with names:=nm } :=
    ⟨(k8 pb h7.hn (fun g=>by have:=own_at oq g;omega)).trans h7.hb,by omega,RdR.keep (F:=fun b=>b<η.nx) h7.hy yl (fun b hb hc=>k8 b hc (fun g=>by have:=own_at oq g;omega)) (by rw[n8];show η6.nx+1≤_;omega),h7.hp,h7.g,h7.k,h7.e,h7.b,h7.q,h7.n⟩
   have X8:ExtX pb η η8:=⟨by have:=Xq.1;have:=X6.1;omega,fun b hb hc=>(k8 b (by show b<η6.nx+1;have:=Xq.1;have:=X6.1;omega) (fun g=>by have:=own_at oq g;omega)).trans (by have:=Xq.1;have:=X6.1;simp -implicitDefEqProofs(disch:=omega)only[go_sem];exact(Xq.trans X6).2 b hb hc)⟩
   have o8:OwnA 5 η.nx η8 (.slice (η6.nx+1) 0 (l.length+1) (.un 5)) (l++[(⟨(nameP L q).1,0,(0,0),false,(wd L q).a⟩:Vr)]).length ((l++[(⟨(nameP L q).1,0,(0,0),false,(wd L q).a⟩:Vr)]).map Vr.cells).flatten:=by
    rw[List.map_append,List.map_cons,List.map_nil,flatten_snoc,List.length_append]
    exact o8
   simp -implicitDefEqProofs(disch:=omega)only[go_sem,p0,p3]
   refine thenN_call (take_then U h8 sComma fun η9 h9 x9=>?_)
   have n9:=x9.1
   have o9:=own_keep o8 (fun b hb hc=>x9.2 b hc (by omega)) n9
   have X9:=X8.trans x9
   unfold takeP at h9
   have e8:isP L sComma { (nameP L q).2 with names:=nm }=isP L sComma (nameP L q).2:=rfl
   rw[e8]at h9 ⊢
   cases e9:isP L sComma (nameP L q).2 with
   |true =>
    rw[e9,if_pos rfl]at h9 w1
    simp -implicitDefEqProofs(disch:=omega)only[go_sem,p0,p3]
    refine⟨m,Nat.lt_succ_self _,(hI _ _ _).2 ⟨_,_,_,⟨p0,rfl⟩,h9,o9,X9,by rw[←wq,w1],fun e'=>?_,by rw[List.length_append];simp only[List.length_cons,List.length_nil];omega⟩⟩
    have w2:=nameP_k (L:=L) (p:=q) e'
    have:=fq z0
    show L.length≤(nameP L q).2.k+1+m
    omega
   |false =>
    rw[e9,if_neg (by decide)]at h9 w1
    simp -implicitDefEqProofs(disch:=omega)only[go_sem,p0,p3]
    exact(hM _ _).2 ⟨_,_,_,p0,rfl,h9,o9,X9,by rw[←wq,w1],by rw[List.length_append];simp only[List.length_cons,List.length_nil];omega⟩
  ·simp -implicitDefEqProofs(disch:=omega)only[go_sem,p0,b3]
   refine thenN_call (w_then U h3 fun η4 x4=>?_)
   have n4:=x4.1
   have h4:=h3.extB x4
   rw[hc]
   simp -implicitDefEqProofs(disch:=omega)only[go_sem,p0]
   obtain⟨η5,e5,h5,c5,n5,X5,B5⟩:=cell_new (w:=.live false [.str 0 0,.int .i64 0,.str 0 0,.bool false,.int .i64 (wd L q).a]) h4
   rw[←e5]
   refine thenN_call (name_then U h5 fun η6 h6 x6=>?_)
   have n6:=x6.1
   have c6:η6.f η4.nx=_:=(x6.2 _ (by omega) (by omega)).trans c5
   have b6:=h6.hb
   have g6:=h6.hn
   rw[nameP_names]at b6
   have X6:ExtX pb ζ η6:=((((ExtX.refl pb ζ).of x3).of x4).trans X5).trans x6
   have o6:=own_keep oq (fun b hb hc=>X6.2 b hc (by omega)) X6.1
   simp -implicitDefEqProofs(disch:=omega)only[go_sem,p0,p3,c6,b6,sV,repL_s,repL_z,setsL_c]
   have e7:(q.names+1)%18446744073709551616=(q.names+1)%18446744073709551616:=rfl
   generalize hnm:(q.names+1)%18446744073709551616=nm at *
   have hnm64:nm<18446744073709551616:=by rw[←hnm];exact Nat.mod_lt _ (by omega)
   have h7:PA (((η6.put η4.nx (.live false [.str (nameP L q).1.1 (nameP L q).1.2,.int .i64 0,.str 0 0,.bool false,.int .i64 (wd L q).a])).put pb (.live false [y,.int .i64 (nameP L q).2.k,.int .i64 (nameP L q).2.e,.int .i64 (nameP L q).2.b,.int .i64 d,.int .i64 (nameP L q).2.parts,.int .i64 nm])).new (.live false [.str (nameP L q).1.1 (nameP L q).1.2,.int .i64 0,.str 0 0,.bool false,.int .i64 (wd L q).a])) pb y L d { (nameP L q).2 with names:=nm } :=
    ((h6.putc (c:=η4.nx) (by omega) (fun g=>by have:=yl _ g;have:=Xq.1;omega)).put (p':={ (nameP L q).2 with names:=nm }) (ExtX.refl pb _).put (if_pos rfl) h6.k h6.e h6.b h6.q hnm64).new
   have o7:OwnA 5 η.nx (((η6.put η4.nx (.live false [.str (nameP L q).1.1 (nameP L q).1.2,.int .i64 0,.str 0 0,.bool false,.int .i64 (wd L q).a])).put pb (.live false [y,.int .i64 (nameP L q).2.k,.int .i64 (nameP L q).2.e,.int .i64 (nameP L q).2.b,.int .i64 d,.int .i64 (nameP L q).2.parts,.int .i64 nm])).new (.live false [.str (nameP L q).1.1 (nameP L q).1.2,.int .i64 0,.str 0 0,.bool false,.int .i64 (wd L q).a])) x l.length (l.map Vr.cells).flatten :=
    own_keep oq (fun b hb hc=>(by simp -implicitDefEqProofs(disch:=omega)only[go_sem];exact X6.2 b hc (by omega))) (by show ζ.nx≤η6.nx+1;have:=X6.1;omega)
   refine thenN_sep (by decide) o7 (RdA.lits (s:=5) (n:=1) rfl) (by decide) (by omega) (by show η.nx≤η6.nx+1;have:=X6.1;have:=Xq.1;omega) fun η8 o8 n8 k8=>?_
   have n8:η8.nx=η6.nx+1+1:=n8
   have h8:PA η8 pb y L d { (nameP L q).2 with names:=nm } :=
    ⟨(k8 pb h7.hn (fun g=>by have:=own_at oq g;omega)).trans h7.hb,by omega,RdR.keep (F:=fun b=>b<η.nx) h7.hy yl (fun b hb hc=>k8 b hc (fun g=>by have:=own_at oq g;omega)) (by rw[n8];show η6.nx+1≤_;omega),h7.hp,h7.g,h7.k,h7.e,h7.b,h7.q,h7.n⟩
   have X8:ExtX pb η η8:=⟨by have:=Xq.1;have:=X6.1;omega,fun b hb hc=>(k8 b (by show b<η6.nx+1;have:=Xq.1;have:=X6.1;omega) (fun g=>by have:=own_at oq g;omega)).trans (by have:=Xq.1;have:=X6.1;simp -implicitDefEqProofs(disch:=omega)only[go_sem];exact(Xq.trans X6).2 b hb hc)⟩
   have o8:OwnA 5 η.nx η8 (.slice (η6.nx+1) 0 (l.length+1) (.un 5)) (l++[(⟨(nameP L q).1,0,(0,0),false,(wd L q).a⟩:Vr)]).length ((l++[(⟨(nameP L q).1,0,(0,0),false,(wd L q).a⟩:Vr)]).map Vr.cells).flatten:=by
    rw[List.map_append,List.map_cons,List.map_nil,flatten_snoc,List.length_append]
    exact o8
   simp -implicitDefEqProofs(disch:=omega)only[go_sem,p0,p3]
   refine thenN_call (take_then U h8 sComma fun η9 h9 x9=>?_)
   have n9:=x9.1
   have o9:=own_keep o8 (fun b hb hc=>x9.2 b hc (by omega)) n9
   have X9:=X8.trans x9
   unfold takeP at h9
   have e8:isP L sComma { (nameP L q).2 with names:=nm }=isP L sComma (nameP L q).2:=rfl
   rw[e8]at h9 ⊢
   cases e9:isP L sComma (nameP L q).2 with
   |true =>
    rw[e9,if_pos rfl]at h9 w1
    simp -implicitDefEqProofs(disch:=omega)only[go_sem,p0,p3]
    refine⟨m,Nat.lt_succ_self _,(hI _ _ _).2 ⟨_,_,_,⟨p0,rfl⟩,h9,o9,X9,by rw[←wq,w1],fun e'=>?_,by rw[List.length_append];simp only[List.length_cons,List.length_nil];omega⟩⟩
    have w2:=nameP_k (L:=L) (p:=q) e'
    have:=fq z0
    show L.length≤(nameP L q).2.k+1+m
    omega
   |false =>
    rw[e9,if_neg (by decide)]at h9 w1
    simp -implicitDefEqProofs(disch:=omega)only[go_sem,p0,p3]
    exact(hM _ _).2 ⟨_,_,_,p0,rfl,h9,o9,X9,by rw[←wq,w1],by rw[List.length_append];simp only[List.length_cons,List.length_nil];omega⟩
 ·simp -implicitDefEqProofs(disch:=omega)only[go_sem,p0,p3,hqb]
  rw[declL_bad z0]at wq
  exact(hM _ _).2 ⟨l,x,q,p0,p3,hq,oq,Xq,wq.symm,by omega⟩
end Go.Proofs.YtdeejbnhlbddgaaGreatDoor
namespace Go.Proofs.YtdeejbnhlbddgaaGreatDoor
open Go.Eng Go.Plain
set_option autoImplicit false
set_option maxRecDepth 100000
variable {nat:∀ [Deep],Nats} {L:List Wd} {d:Nat}
theorem pa_base {η η':HN} {pb:Nat} {y:AV} {p:PS} {base:Nat} (h:PA η pb y L d p) (e:ExtB base η η') (hp:pb<base) (hy:∀b,blkIs y b→b<base):PA η' pb y L d p :=
 ⟨(e.2 pb hp).trans h.hb,by have:=h.hn;have:=e.1;omega,RdR.keep (F:=fun b=>b<base) h.hy hy (fun b hb _=>e.2 b hb) e.1,h.hp,h.g,h.k,h.e,h.b,h.q,h.n⟩
theorem extX_base {η η' η'':HN} {pb base:Nat} (x:ExtX pb η η') (e:ExtB base η' η'') (h:η.nx≤base):ExtX pb η η'':=⟨Nat.le_trans x.1 e.1,fun b hb hc=>(e.2 b (by omega)).trans (x.2 b hb hc)⟩
theorem declL_len:∀(n:Nat) (l:List Vr) (p:PS),(declL L n l p).1.1.length≤l.length+n
 |0,l,p=>Nat.le_refl _
 |n+1,l,p=>by
  unfold declL
  split
  ·split
   ·exact Nat.zero_le _
   ·split
    ·refine Nat.le_trans (declL_len n _ _) ?_
     rw[List.length_append]
     simp only[List.length_cons,List.length_nil];omega
    ·show(l++[_]).length≤_
     rw[List.length_append]
     simp only[List.length_cons,List.length_nil];omega
  ·exact Nat.le_add_right _ _
theorem declF_len (p:PS):(declF L p).1.length≤L.length:=by
 have h:=declL_len (L:=L) L.length [] p
 unfold declF
 dsimp only
 split
 ·rw[List.length_map]
  simpa using h
 ·exact Nat.zero_le _
set_option maxHeartbeats 8000000 in
theorem decls_spec (U:Usual nat):VarSpec nat 66 L d (declsF L):=by
 intro η pb y p Q h k
 refine call_of (PT:=pl66) Tryz.func66 rfl (U 66 (by decide)) ok66 rfl ?_
 have hn:=h.hn
 have hg:=h.g.2.1
 have yl:∀b,blkIs y b→b<η.nx:=fun b hb=>Nat.lt_of_not_le fun g=>h.fresh g hb
 simp -implicitDefEqProofs(disch:=omega)only[go_sem]
 refine thenN_call (is_then U h sRp fun η1 x1=>?_)
 have h1:=h.extB x1
 have n1:=x1.1
 cases e1:isP L sRp p with
 |true =>
  have eF:declsF L p=([],p):=if_pos e1
  rw[eF]at k
  simp -implicitDefEqProofs(disch:=omega)only[go_sem]
  exact k _ _ .nil h1 ((ExtX.refl pb η).of x1)
 |false =>
 have eF:declsF L p=declsL L L.length (declF L p).1 (declF L p).2:=if_neg (by rw[e1];decide)
 rw[eF]at k
 simp -implicitDefEqProofs(disch:=omega)only[go_sem]
 refine thenN_call (decl_spec U η1 pb y p _ h1 fun v2 η2 o2 h2 x2=>?_)
 simp -implicitDefEqProofs(disch:=omega)only[go_sem]
 obtain⟨I,hI⟩:∃I:Nat→FN→HN→Prop,∀m φ ζ,I m φ ζ↔∃l x q,(φ 0=.ptr pb 0∧φ 3=x)∧PA ζ pb y L d q∧OwnA 5 η.nx ζ x l.length (l.map Vr.cells).flatten∧ExtX pb η ζ ∧
   declsL L m l q=declsL L L.length (declF L p).1 (declF L p).2∧(q.e=0→L.length≤q.k+m)∧l.length+m*16385≤L.length*16385+16385:=⟨_,fun _ _ _=>Iff.rfl⟩
 refine wpN_loop I L.length ((hI _ _ _).2 ⟨_,v2,_,⟨rfl,rfl⟩,h2,o2.mono n1,((ExtX.refl pb η).of x1).trans x2,rfl,fun _=>Nat.le_add_left _ _,by have:=declF_len (L:=L) p;omega⟩) ?_
 intro m φ ζ hi
 obtain⟨l,x,q,⟨p0,p3⟩,hq,oq,Xq,wq,fq,bq⟩:=(hI _ _ _).1 hi
 have hqn:=hq.hn
 simp -implicitDefEqProofs(disch:=omega)only[go_sem,p0]
 refine thenN_call (take_then U hq sSemi fun η3 h3 x3=>?_)
 have n3:=x3.1
 have o3:=own_keep oq (fun b hb hc=>x3.2 b hc (by omega)) n3
 unfold takeP at h3
 cases e3:isP L sSemi q with
 |true =>
  rw[e3,if_pos rfl]at h3
  have he:=(isP_kind e3).1
  have hqk:=hq.k
  obtain _|m:=m
  ·have:=fq he;omega
  have w1:declsL L m (l++(declF L (adv q)).1) (declF L (adv q)).2=declsL L L.length (declF L p).1 (declF L p).2:=by
   rw[←wq]
   conv=>rhs;unfold declsL
   rw[e3];rfl
  simp -implicitDefEqProofs(disch:=omega)only[go_sem,p0,p3]
  refine thenN_call (decl_spec U η3 pb y _ _ h3 fun v4 η4 o4 h4 x4=>?_)
  have n4:=x4.1
  have o5:=own_keep o3 (fun b hb hc=>x4.2 b hc (by omega)) n4
  have dl:=declF_len (L:=L) (adv q)
  simp -implicitDefEqProofs(disch:=omega)only[go_sem,p0,p3]
  refine thenN_app (by decide) o5 o4.rd (by omega) (by have:=Xq.1;omega) fun x6 η6 o6 e6=>?_
  have X4:=(Xq.trans x3).trans x4
  simp -implicitDefEqProofs(disch:=omega)only[go_sem,p0,p3]
  refine⟨m,Nat.lt_succ_self _,(hI _ _ _).2 ⟨_,_,_,⟨p0,rfl⟩,pa_base h4 e6 hn yl,by rw[List.length_append,List.map_append,List.flatten_append];exact o6,extX_base X4 e6 (Nat.le_refl _),w1,fun e'=>?_,by rw[List.length_append];omega⟩⟩
  have w2:=declF_le (L:=L) (adv q) e'
  have w3:q.k+1≤_:=w2.2
  have:=fq he
  omega
 |false =>
  rw[e3,if_neg (by decide)]at h3
  rw[declsL_stop e3]at wq
  rw[←wq]at k
  simp -implicitDefEqProofs(disch:=omega)only[go_sem,p0,p3]
  exact k _ _ o3 h3 (Xq.trans x3)
end Go.Proofs.YtdeejbnhlbddgaaGreatDoor
namespace Go.Proofs.YtdeejbnhlbddgaaGreatDoor
open Go.Eng Go.Plain
set_option autoImplicit false
set_option maxRecDepth 100000
variable {nat:∀ [Deep],Nats} {L:List Wd} {d:Nat}
theorem clockF_len (q:List Vr×PS):(clockF L q).1.length=q.1.length:=by
 unfold clockF
 split
 ·exact List.length_map _
 ·rfl
theorem clockF_sets (l:List Vr) (f:Vr→Vr) (i:Nat) (h:i<l.length):((l.take i).map f).map Vr.cells++(f l[i]).cells::(l.drop (i+1)).map Vr.cells=((l.take (i+1)).map f).map Vr.cells++(l.drop (i+1)).map Vr.cells:=by
 rw[List.take_succ_eq_append_getElem h,List.map_append,List.map_append,List.append_assoc];rfl
set_option maxHeartbeats 8000000 in
theorem locals_spec (U:Usual nat):VarSpec nat 68 L d (localsF L):=by
 intro η pb y p Q h k
 refine call_of (PT:=pl68) Tryz.func68 rfl (U 68 (by decide)) ok68 rfl ?_
 have hn:=h.hn
 have hg:=h.g.2.1
 have yl:∀b,blkIs y b→b<η.nx:=fun b hb=>Nat.lt_of_not_le fun g=>h.fresh g hb
 simp -implicitDefEqProofs(disch:=omega)only[go_sem]
 refine thenN_call (is_then U h sSemi fun η1 x1=>?_)
 have h1:=h.extB x1
 have n1:=x1.1
 cases e1:isP L sSemi p with
 |true =>
  have eF:localsF L p=([],p):=if_pos e1
  rw[eF]at k
  simp -implicitDefEqProofs(disch:=omega)only[go_sem]
  exact k _ _ .nil h1 ((ExtX.refl pb η).of x1)
 |false =>
 have eF:localsF L p=localsL L L.length [] p:=if_neg (by rw[e1];decide)
 rw[eF]at k
 simp -implicitDefEqProofs(disch:=omega)only[go_sem]
 obtain⟨I,hI⟩:∃I:Nat→FN→HN→Prop,∀m φ ζ,I m φ ζ↔∃l x q,(φ 0=.ptr pb 0∧φ 3=x)∧PA ζ pb y L d q∧OwnA 5 η.nx ζ x l.length (l.map Vr.cells).flatten∧ExtX pb η ζ ∧
   localsL L m l q=localsL L L.length [] p∧(q.e=0→L.length≤q.k+m)∧l.length+m*16385≤L.length*16385:=⟨_,fun _ _ _=>Iff.rfl⟩
 refine wpN_loop I L.length ((hI _ _ _).2 ⟨[],.nilslice,_,⟨rfl,rfl⟩,h1,.nil,(ExtX.refl pb η).of x1,rfl,fun _=>Nat.le_add_left _ _,by simp⟩) ?_
 intro m φ ζ hi
 obtain⟨l,x,q,⟨p0,p3⟩,hq,oq,Xq,wq,fq,bq⟩:=(hI _ _ _).1 hi
 have hqb:=hq.hb
 have hqn:=hq.hn
 have hq7:=hq.e
 have hqk:=hq.k
 by_cases z0:q.e=0
 ·obtain _|m:=m
  ·have:=fq z0;omega
  have w1:localsL L (m+1) l q=if isP L sSemi (clockF L (declF L q)).2=true∧(wd L (adv (clockF L (declF L q)).2)).k=1 then localsL L m (l++(clockF L (declF L q)).1) (adv (clockF L (declF L q)).2) else(l++(clockF L (declF L q)).1,(clockF L (declF L q)).2):=by
   conv=>lhs;unfold localsL
   rw[if_pos z0]
  rw[z0]at hqb
  have dl:(clockF L (declF L q)).1.length≤L.length:=by rw[clockF_len];exact declF_len q
  simp -implicitDefEqProofs(disch:=omega)only[go_sem,p0,hqb]
  refine thenN_call (decl_spec U ζ pb y _ _ hq fun v2 η2 o2 h2 x2=>?_)
  have n2:=x2.1
  have q2:=own_keep oq (fun b hb hc=>x2.2 b hc (by omega)) n2
  simp -implicitDefEqProofs(disch:=omega)only[go_sem,p0]
  refine thenN_call (take_then U h2 sWhen fun η3 h3 x3=>?_)
  have n3:=x3.1
  have q3:=own_keep q2 (fun b hb hc=>x3.2 b hc (by omega)) n3
  have o3:=own_keep o2 (fun b hb hc=>x3.2 b hc (by omega)) n3
  have X3:=(Xq.trans x2).trans x3
  unfold takeP at h3
  cases e3:isP L sWhen (declF L q).2 with
  |false =>
   rw[e3,if_neg (by decide)]at h3
   have eC:clockF L (declF L q)=declF L q:=if_neg (by rw[e3];decide)
   rw[eC]at w1 dl
   have fD:(declF L q).2.e=0→q.k≤(declF L q).2.k:=fun e'=>(declF_le (L:=L) q e').2
   generalize declF L q=D at *
   simp -implicitDefEqProofs(disch:=omega)only[go_sem,p0,p3]
   refine thenN_app (by decide) q3 o3.rd (by omega) (by have:=Xq.1;have:=X3.1;omega) fun x6 η6 o6 e6=>?_
   have X6:=extX_base X3 e6 (Nat.le_refl _)
   have h6:=pa_base h3 e6 hn yl
   have o6:OwnA 5 η.nx η6 x6 (l++D.1).length ((l++D.1).map Vr.cells).flatten:=by rw[List.length_append,List.map_append,List.flatten_append];exact o6
   have b6:=h6.hb
   have m6:=h6.hn
   simp -implicitDefEqProofs(disch:=omega)only[go_sem,p0]
   refine dE_call (is_then U h6 sSemi fun η7 x7=>?_)
   have n7:=x7.1
   have h7:=h6.extB x7
   have o7:=own_keep o6 (fun b hb hc=>x7.2 b hc) n7
   have X7:=X6.of x7
   have b7:=h7.hb
   have m7:=h7.hn
   cases e7:isP L sSemi D.2 with
   |false =>
    rw[if_neg (fun g=>by rw[e7]at g;cases g.1)]at w1
    rw[←wq,w1]at k
    simp -implicitDefEqProofs(disch:=omega)only[go_sem,p0]
    exact k _ _ o7 h7 X7
   |true =>
    have lt7:=isP_lt h7 e7
    have wd7:L[D.2.k+1]=wd L (adv D.2):=wd_at (p:=adv D.2) lt7
    obtain⟨b,off,cap,ro,row,ye,r2,r3,r4,r5⟩:=RdR.at h7.hy (i:=D.2.k+1) (by simpa using lt7)
    rw[List.length_map]at ye
    rw[List.getElem_map,wd7]at r5
    have b60:η6.f b=.live ro row:=by rw[←r2];exact(x7.2 b (by have:b<η.nx:=yl b (by rw[ye];rfl);have:=X6.1;omega)).symm
    have hc:(wd L (adv D.2)).cells=[.int .i64 (wd L (adv D.2)).k,.str (wd L (adv D.2)).t.1 (wd L (adv D.2)).t.2,.int .i64 (wd L (adv D.2)).n,.int .i64 (wd L (adv D.2)).a]:=rfl
    rw[hc]at r5
    have r7:row[off+(D.2.k+1)*4]?=some (.int .i64 (wd L (adv D.2)).k):=by
     have:=congrArg (fun l=>l[0]?) r5
     simpa [List.getElem?_take,List.getElem?_drop] using this
    have r8:off+(D.2.k+1)*4<row.length:=by omega
    have r9:row.getD (off+(D.2.k+1)*4) und=.int .i64 (wd L (adv D.2)).k:=by
     rw[List.getD_eq_getElem?_getD,r7];rfl
    rw[ye]at b6 b7
    have hk5:=(h7.g.2.2.2 _ (wd_mem (p:=adv D.2) lt7)).1
    have hg7:=h7.k
    by_cases k1:(wd L (adv D.2)).k=1
    ·rw[if_pos ⟨e7,k1⟩]at w1
     rw[k1]at r9
     simp -implicitDefEqProofs(disch:=omega)only[go_sem,p0,b6,b7,r2,b60,r9]
     have A:PA (η7.put pb (.live false [y,.int .i64 (D.2.k+1),.int .i64 D.2.e,.int .i64 D.2.b,.int .i64 d,.int .i64 D.2.parts,.int .i64 D.2.names])) pb y L d (adv D.2) :=
      h7.put (p':=adv D.2) (ExtX.refl pb η7).put (if_pos rfl) lt7 h7.e h7.b h7.q h7.n
     rw[ye]at A
     have O:OwnA 5 η.nx (η7.put pb (.live false [y,.int .i64 (D.2.k+1),.int .i64 D.2.e,.int .i64 D.2.b,.int .i64 d,.int .i64 D.2.parts,.int .i64 D.2.names])) x6 (l++D.1).length ((l++D.1).map Vr.cells).flatten:=own_keep o7 (fun b hb _=>if_neg (by omega)) (Nat.le_refl _)
     rw[ye]at O
     refine⟨m,Nat.lt_succ_self _,(hI _ _ _).2 ⟨_,_,_,⟨p0,rfl⟩,by rw[ye];exact A,O,X7.put,by rw[←wq,w1],fun e'=>?_,by rw[List.length_append];omega⟩⟩
     have w2:D.2.e=0:=e'
     have w3:=fD w2
     have:=fq z0
     show L.length≤D.2.k+1+m
     omega
    ·rw[if_neg (fun g=>k1 g.2)]at w1
     rw[←wq,w1]at k
     simp -implicitDefEqProofs(disch:=omega)only[go_sem,p0,b6,b7,r2,b60,r9]
     exact k _ _ o7 h7 X7
  |true =>
   rw[e3,if_pos rfl]at h3
   have eC:clockF L (declF L q)=((declF L q).1.map fun v=>{ v with on:=(nameP L (takeP L sNot (adv (declF L q).2))).1,nt:=isP L sNot (adv (declF L q).2) },(nameP L (takeP L sNot (adv (declF L q).2))).2):=if_pos e3
   simp -implicitDefEqProofs(disch:=omega)only[go_sem,p0,p3]
   refine thenN_call (take_then U h3 sNot fun η4 h4 x4=>?_)
   have n4:=x4.1
   simp -implicitDefEqProofs(disch:=omega)only[go_sem,p0,p3]
   refine thenN_call (name_then U h4 fun η5 h5 x5=>?_)
   have n5:=x5.1
   have x45:=x4.trans x5
   have q5:=own_keep q3 (fun b hb hc=>x45.2 b hc (by omega)) x45.1
   have o5:=own_keep o3 (fun b hb hc=>x45.2 b hc (by omega)) x45.1
   have X5:=X3.trans x45
   have fD:(clockF L (declF L q)).2.e=0→q.k≤(clockF L (declF L q)).2.k:=fun e'=>((declF_le (L:=L) q).trans clockF_le e').2
   have dn:=declF_len (L:=L) q
   generalize nameP L (takeP L sNot (adv (declF L q).2))=nm at *
   generalize isP L sNot (adv (declF L q).2)=nt at *
   generalize clockF L (declF L q)=D at *
   generalize declF L q=D0 at *
   simp -implicitDefEqProofs(disch:=omega)only[go_sem,p0,p3,sV]
   obtain⟨J,hJ⟩:∃J:Nat→FN→HN→Prop,∀m φ ζ',J m φ ζ'↔∃i,m=D0.1.length-i∧i≤D0.1.length∧(φ 0=.ptr pb 0∧φ 3=x∧φ 4=v2∧φ 5=.bool nt∧φ 6=.str nm.1.1 nm.1.2∧φ 7=.int .i64 i)∧PA ζ' pb y L d nm.2∧ExtX pb η ζ'∧ζ.nx≤ζ'.nx ∧
     OwnA 5 η.nx ζ' x l.length (l.map Vr.cells).flatten∧OwnA 5 ζ.nx ζ' v2 D0.1.length (((D0.1.take i).map fun v=>{ v with on:=nm.1,nt:=nt }).map Vr.cells++(D0.1.drop i).map Vr.cells).flatten:=⟨_,fun _ _ _=>Iff.rfl⟩
   refine wpN_loop J D0.1.length ((hJ _ _ _).2 ⟨0,rfl,Nat.zero_le _,⟨p0,p3,rfl,rfl,rfl,rfl⟩,h5,X5,by omega,q5,o5⟩) ?_
   intro m' φ' ζ' hj
   obtain⟨i,hm,hi',⟨s0,s3,s4,s5,s6,s7⟩,hj',Xj,nj,qj,oj⟩:=(hJ _ _ _).1 hj
   have lj:=fun e w η'=>own_len (e:=e) (w:=w) (η':=η') oj (by omega)
   by_cases hlt:i<D0.1.length
   ·obtain⟨b,hv,b1,b2,b3⟩:=own_blk oj (by omega)
    rw[hv]at s4 lj
    have hdr:(D0.1.drop i).map Vr.cells=(D0.1[i]).cells::(D0.1.drop (i+1)).map Vr.cells:=by rw[List.drop_eq_getElem_cons hlt];rfl
    have hrow:∀r∈((D0.1.take i).map fun v=>{ v with on:=nm.1,nt:=nt }).map Vr.cells,r.length=5:=vr_rows _
    have hlen:(((D0.1.take i).map fun v=>{ v with on:=nm.1,nt:=nt }).map Vr.cells).length=i:=by simp;omega
    have es:=set_mid _ ((D0.1.drop (i+1)).map Vr.cells) (D0.1[i]).cells 2 (.str nm.1.1 nm.1.2) hrow (by show 2<5;omega)
    have et:=set_mid _ ((D0.1.drop (i+1)).map Vr.cells) ((D0.1[i]).cells.set 2 (.str nm.1.1 nm.1.2)) 3 (.bool nt) hrow (by show 3<5;omega)
    rw[hlen,←hdr]at es
    rw[hlen]at et
    have e0:((((D0.1.take i).map fun v=>{ v with on:=nm.1,nt:=nt }).map Vr.cells++(D0.1.drop i).map Vr.cells).flatten).length=D0.1.length*5:=oj.1
    have e00:((((D0.1.take i).map fun v=>{ v with on:=nm.1,nt:=nt }).map Vr.cells++(D0.1[i]).cells.set 2 (.str nm.1.1 nm.1.2)::(D0.1.drop (i+1)).map Vr.cells).flatten).length=D0.1.length*5:=by rw[←es,List.length_set,e0]
    have h5i:i*5+3<D0.1.length*5:=by omega
    simp -implicitDefEqProofs(disch:=omega)only[go_sem,s0,s3,s4,s5,s6,s7,lj,b3,e0,es,e00,et]
    have e1:=clockF_sets D0.1 (fun v=>{ v with on:=nm.1,nt:=nt }) i hlt
    have e1':((D0.1[i]).cells.set 2 (.str nm.1.1 nm.1.2)).set 3 (.bool nt)=(({ D0.1[i] with on:=nm.1,nt:=nt }:Vr)).cells:=rfl
    rw[e1',e1]
    have e2:((((D0.1.take (i+1)).map fun v=>{ v with on:=nm.1,nt:=nt }).map Vr.cells++(D0.1.drop (i+1)).map Vr.cells).flatten).length=D0.1.length*5:=by rw[←e1,←e1',←et,List.length_set,e00]
    have cq:∀b',η.nx≤b'→b'<ζ.nx→b'≠b:=fun b' _ g=>by omega
    refine⟨D0.1.length-(i+1),by omega,(hJ _ _ _).2 ⟨i+1,rfl,by omega,⟨s0,s3,by rw[hv];exact s4,s5,s6,rfl⟩,(hj'.putc (by have:=Xq.1;omega) (fun g=>by have:=yl _ g;have:=Xq.1;omega)).putc (by have:=Xq.1;omega) (fun g=>by have:=yl _ g;have:=Xq.1;omega),(Xj.putN (by have:=Xq.1;omega)).putN (by have:=Xq.1;omega),nj,?_,?_⟩⟩
    ·have hx:∀b',blkIs x b'→b'<ζ.nx:=fun b' g=>(own_at oq g).2
     obtain⟨q0,g|⟨c,g1,g2,g3⟩⟩:=qj
     ·exact⟨q0,.inl g⟩
     ·refine⟨q0,.inr ⟨c,g1,g2,?_⟩⟩
      have hcb:c≠b:=by
       have:blkIs x c:=by rcases g3 with ⟨rfl,_⟩|⟨rfl,_⟩<;>rfl
       have:=hx c this
       omega
      have ec:((ζ'.put b (.live false ((((D0.1.take i).map fun v=>{ v with on:=nm.1,nt:=nt }).map Vr.cells++(D0.1[i]).cells.set 2 (.str nm.1.1 nm.1.2)::(D0.1.drop (i+1)).map Vr.cells).flatten))).put b (.live false ((((D0.1.take (i+1)).map fun v=>{ v with on:=nm.1,nt:=nt }).map Vr.cells++(D0.1.drop (i+1)).map Vr.cells).flatten))).f c=ζ'.f c:=(if_neg hcb).trans (if_neg hcb)
      rw[ec];exact g3
    ·rw[hv]at oj ⊢
     exact own_put (own_put oj (by omega) e00) (by omega) e2
   ·obtain rfl:i=D0.1.length:=by omega
    rw[List.take_length,List.drop_length,List.map_nil,List.append_nil]at oj
    have oV:OwnA 5 ζ.nx ζ' v2 D.1.length (D.1.map Vr.cells).flatten:=by rw[eC];rw[List.length_map];exact oj
    have hj2:PA ζ' pb y L d D.2:=by rw[eC];exact hj'
    simp -implicitDefEqProofs(disch:=omega)only[go_sem,s0,s3,s4,s5,s6,s7,lj]
    refine thenN_app (by decide) qj oV.rd (by omega) (by have:=Xq.1;have:=Xj.1;omega) fun x6 η6 o6 e6=>?_
    have X6:=extX_base Xj e6 (Nat.le_refl _)
    have h6:=pa_base hj2 e6 hn yl
    have o6:OwnA 5 η.nx η6 x6 (l++D.1).length ((l++D.1).map Vr.cells).flatten:=by rw[List.length_append,List.map_append,List.flatten_append];exact o6
    have b6:=h6.hb
    have m6:=h6.hn
    simp -implicitDefEqProofs(disch:=omega)only[go_sem,s0]
    refine dE_call (is_then U h6 sSemi fun η7 x7=>?_)
    have n7:=x7.1
    have h7:=h6.extB x7
    have o7:=own_keep o6 (fun b hb hc=>x7.2 b hc) n7
    have X7:=X6.of x7
    have b7:=h7.hb
    have m7:=h7.hn
    cases e7:isP L sSemi D.2 with
    |false =>
     rw[if_neg (fun g=>by rw[e7]at g;cases g.1)]at w1
     rw[←wq,w1]at k
     simp -implicitDefEqProofs(disch:=omega)only[go_sem,s0]
     exact k _ _ o7 h7 X7
    |true =>
     have lt7:=isP_lt h7 e7
     have wd7:L[D.2.k+1]=wd L (adv D.2):=wd_at (p:=adv D.2) lt7
     obtain⟨b,off,cap,ro,row,ye,r2,r3,r4,r5⟩:=RdR.at h7.hy (i:=D.2.k+1) (by simpa using lt7)
     rw[List.length_map]at ye
     rw[List.getElem_map,wd7]at r5
     have b60:η6.f b=.live ro row:=by rw[←r2];exact(x7.2 b (by have:b<η.nx:=yl b (by rw[ye];rfl);have:=X6.1;omega)).symm
     have hc:(wd L (adv D.2)).cells=[.int .i64 (wd L (adv D.2)).k,.str (wd L (adv D.2)).t.1 (wd L (adv D.2)).t.2,.int .i64 (wd L (adv D.2)).n,.int .i64 (wd L (adv D.2)).a]:=rfl
     rw[hc]at r5
     have r7:row[off+(D.2.k+1)*4]?=some (.int .i64 (wd L (adv D.2)).k):=by
      have:=congrArg (fun l=>l[0]?) r5
      simpa [List.getElem?_take,List.getElem?_drop] using this
     have r8:off+(D.2.k+1)*4<row.length:=by omega
     have r9:row.getD (off+(D.2.k+1)*4) und=.int .i64 (wd L (adv D.2)).k:=by
      rw[List.getD_eq_getElem?_getD,r7];rfl
     rw[ye]at b6 b7
     have hk5:=(h7.g.2.2.2 _ (wd_mem (p:=adv D.2) lt7)).1
     have hg7:=h7.k
     by_cases k1:(wd L (adv D.2)).k=1
     ·rw[if_pos ⟨e7,k1⟩]at w1
      rw[k1]at r9
      simp -implicitDefEqProofs(disch:=omega)only[go_sem,s0,b6,b7,r2,b60,r9]
      have A:PA (η7.put pb (.live false [y,.int .i64 (D.2.k+1),.int .i64 D.2.e,.int .i64 D.2.b,.int .i64 d,.int .i64 D.2.parts,.int .i64 D.2.names])) pb y L d (adv D.2) :=
       h7.put (p':=adv D.2) (ExtX.refl pb η7).put (if_pos rfl) lt7 h7.e h7.b h7.q h7.n
      rw[ye]at A
      have O:OwnA 5 η.nx (η7.put pb (.live false [y,.int .i64 (D.2.k+1),.int .i64 D.2.e,.int .i64 D.2.b,.int .i64 d,.int .i64 D.2.parts,.int .i64 D.2.names])) x6 (l++D.1).length ((l++D.1).map Vr.cells).flatten:=own_keep o7 (fun b hb _=>if_neg (by omega)) (Nat.le_refl _)
      rw[ye]at O
      refine⟨m,Nat.lt_succ_self _,(hI _ _ _).2 ⟨_,_,_,⟨s0,rfl⟩,by rw[ye];exact A,O,X7.put,by rw[←wq,w1],fun e'=>?_,by rw[List.length_append];omega⟩⟩
      have w2:D.2.e=0:=e'
      have w3:=fD w2
      have:=fq z0
      show L.length≤D.2.k+1+m
      omega
     ·rw[if_neg (fun g=>k1 g.2)]at w1
      rw[←wq,w1]at k
      simp -implicitDefEqProofs(disch:=omega)only[go_sem,s0,b6,b7,r2,b60,r9]
      exact k _ _ o7 h7 X7
 ·simp -implicitDefEqProofs(disch:=omega)only[go_sem,p0,p3,hqb]
  rw[localsL_bad z0]at wq
  rw[←wq]at k
  exact k _ _ oq hq Xq
end Go.Proofs.YtdeejbnhlbddgaaGreatDoor
