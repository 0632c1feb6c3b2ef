/- What is proved: slices of slices of bytes that come into a law; that what is read there is read again. Conditions: none. -/
import Derived.Test.YtdeejbnhlbddgaaGreatDoorWJ
import Derived.WideKeyArgs
import Derived.Deep.Matrix
set_option linter.unusedVariables false
set_option linter.unusedSimpArgs false
set_option linter.unusedSectionVars false
namespace Go.Eng
set_option autoImplicit false
open Go.ChangeShapes Go.WideShapes
section
variable {H:Type} {enc:TypeId×Value→H} {P:Program} {w:World}
theorem trod_keep (hl:laidOutB P=true) {t:TypeId} (hr:P.readableRec t=true) (hrow:t<P.types.size) {w':World} {sp:Nat→Bool} {v:Value} {d:DataW H} {ps:List MemPlace} (h:DataW.Trod enc P w 0 (fun _=>true) true t v d ps) (hk:Kept w w')
  (hs:∀p∈ps,sp p.block=true):DataW.Trod enc P w' 0 sp true t v d ps:=by
 refine Go.WideElems.Trod_stays hl hr hrow h (fun p hp=>?_) hs
 obtain⟨n,hn⟩:=h
 have hlt:=DataW.trod_lt n _ _ _ hn p hp
 cases p with
 |cell b off =>
  show w'.cell? ⟨b,off,none⟩=w.cell? ⟨b,off,none⟩
  unfold World.cell?
  dsimp only
  rw[hk.2.1 b hlt]
 |map b=>exact hk.2.1 b hlt
end
section
variable {H:Type} {enc:TypeId×Value→H} {P:Program} {w:World}
end
end Go.Eng
namespace Go.Eng
set_option autoImplicit false
def RdR (s:Nat) (η:HN) (y:AV) (ls:List (List AV)):Prop:=(ls=[]∧(y=.nilslice∨∃b off cap,y=.slice b off 0 cap)) ∨
 ∃b off cap ro row,y=.slice b off ls.length cap∧η.f b=.live ro row∧b<η.nx∧off+ls.length*s≤row.length∧(∀l∈ls,l.length=s)∧(row.drop off).take (ls.length*s)=ls.flatten
theorem RdR.ext {s base:Nat} {η η':HN} {y:AV} {ls:List (List AV)} (h:RdR s η y ls) (he:ExtB η.nx η η'):RdR s η' y ls:=by
 rcases h with h|⟨b,off,cap,ro,row,h1,h2,h3,h4⟩
 ·exact .inl h
 ·exact .inr ⟨b,off,cap,ro,row,h1,by rw[he.2 b h3];exact h2,by have:=he.1;omega,h4⟩
theorem RdR.len {s e y':Nat} {η η':HN} {y:AV} {ls:List (List AV)} (h:RdR s η y ls) (hl:ls.length≤9223372036854775807):lenN (.slice e s y') y η'=.ok (.int .i64 ls.length) η':=by
 rcases h with ⟨rfl,rfl|⟨b,off,cap,rfl⟩⟩|⟨b,off,cap,ro,row,rfl,_⟩
 ·rfl
 ·rfl
 ·rw[lenN_sl,lenI_at,if_pos hl]
theorem flat_at {s:Nat}:∀(ls:List (List AV)) (i:Nat),(∀l∈ls,l.length=s)→(h:i<ls.length)→(ls.flatten.drop (i*s)).take s=ls[i]
 | [],i,_,h=>by simp at h
 |l::ls,0,hl,_=>by
  rw[Nat.zero_mul,List.drop_zero,List.flatten_cons,List.take_append_of_le_length (by rw[hl l (by simp)];exact Nat.le_refl _),List.take_of_length_le (by rw[hl l (by simp)];exact Nat.le_refl _)];rfl
 |l::ls,i+1,hl,h=>by
  have:=flat_at ls i (fun x hx=>hl x (List.mem_cons_of_mem _ hx)) (by simpa using h)
  have e:(l++ls.flatten).drop s=ls.flatten:=by
   have:=hl l (by simp)
   subst this
   exact List.drop_left
  rw[List.flatten_cons,Nat.succ_mul,Nat.add_comm,←List.drop_drop,e]
  exact this
theorem RdR.at {s:Nat} {η:HN} {y:AV} {ls:List (List AV)} (h:RdR s η y ls) {i:Nat} (hi:i<ls.length) :
  ∃b off cap ro row,y=.slice b off ls.length cap∧η.f b=.live ro row∧b<η.nx∧off+i*s+s≤row.length∧(row.drop (off+i*s)).take s=ls[i]:=by
 rcases h with ⟨rfl,_⟩|⟨b,off,cap,ro,row,h1,h2,h3,h4,h5,h6⟩
 ·simp at hi
 ·have hle:(i+1)*s≤ls.length*s:=Nat.mul_le_mul_right s hi
  rw[Nat.succ_mul]at hle
  refine⟨b,off,cap,ro,row,h1,h2,h3,by omega,?_⟩
  have:=flat_at ls i h5 hi
  rw[←h6,List.drop_take,List.take_take,List.drop_drop]at this
  rw[←this]
  congr 1
  omega
end Go.Eng
namespace Go.Eng
set_option autoImplicit false
section
variable {P:Program} {C:Spec} {PT:Plans} {K:Kont} {φ:FN} {η:HN}
end
theorem extN {η η':HN} {y:BN} (h:ExtB η.nx η η'):ExtB η.nx η (η'.new y):=h.trans (.new h.1)
theorem extP {η η':HN} {c:Nat} {y:BN} (h:ExtB η.nx η η') (hc:η.nx≤c:=by first|omega|(simp only[new_nx,put_nx,at_nx];omega)):ExtB η.nx η (η'.put c y):=h.trans (.put hc)
theorem extT {η η' η'':HN} (h:ExtB η.nx η η') (e:ExtB η'.nx η' η''):ExtB η.nx η η'':=h.trans (e.mono h.1)
theorem RdR.cells {s:Nat} {η:HN} {y:AV} {ls:List (List AV)} (h:RdR s η y ls):cellsV y=some [y]:=by
 rcases h with ⟨_,rfl|⟨b,off,cap,rfl⟩⟩|⟨b,off,cap,ro,row,rfl,_⟩<;>rfl
@[go_sem] theorem rep_4 {z:AV}:List.replicate 4 z=[z,z,z,z]:=rfl
@[go_sem] theorem rep_5 {z:AV}:List.replicate 5 z=[z,z,z,z,z]:=rfl
@[go_sem] theorem rep_6 {z:AV}:List.replicate 6 z=[z,z,z,z,z,z]:=rfl
@[go_sem] theorem opd_m1 {φ:FN}:opd φ (.const (.int .i64 (-1)))=.int .i64 18446744073709551615:=opd_int rfl rfl
@[go_sem] theorem wantV_und {w:Bool}:wantV und w=false:=rfl
theorem flat_len {s:Nat}:∀(ls:List (List AV)),(∀l∈ls,l.length=s)→ls.flatten.length=ls.length*s
 | [],_=>by simp
 |l::ls,h=>by rw[List.flatten_cons,List.length_append,flat_len ls (fun x hx=>h x (List.mem_cons_of_mem _ hx)),h l (by simp),List.length_cons,Nat.succ_mul];omega
theorem RdR.blk {s:Nat} {η:HN} {b:Nat} {cap:Cp} {ro:Bool} (ls:List (List AV)) (hb:η.f b=.live ro ls.flatten) (hn:b<η.nx) (hl:∀l∈ls,l.length=s):RdR s η (.slice b 0 ls.length cap) ls :=
 .inr ⟨b,0,cap,ro,_,rfl,hb,hn,by rw[flat_len ls hl];omega,hl,by rw[List.drop_zero,List.take_of_length_le (by rw[flat_len ls hl];exact Nat.le_refl _)]⟩
end Go.Eng
