/- What is proved: FlatCounts gives true, whatever its arguments and the world in which the listed variables read as the program's text lays them; with the tie to that text. Conditions: as each theorem says. -/
import Derived.Test.YtdeejbnhlbddgaaGreatDoorSays
import Derived.Test.YtdeejbnhlbddgaaGreatDoorWakeX
import Derived.Test.YtdeejbnhlbddgaaGreatDoorArgX
import Derived.Test.YtdeejbnhlbddgaaGreatDoorFlatFrame
set_option linter.unusedVariables false
set_option linter.unusedSimpArgs false
set_option linter.unusedSectionVars false
namespace Go.Proofs.YtdeejbnhlbddgaaGreatDoor.flatCounts
open Go.ChangeShapes Go.WideShapes Go.ChangeAt Go.WideMaps Go.WideElems Go.RowKit
set_option autoImplicit false
set_option linter.unusedVariables false
set_option maxRecDepth 100000 in
theorem walk {H:Type} {enc:TypeId×Value→H} {W:World} {base:Nat} {v0:Value} {d0:DataW H} {ps0:List MemPlace} {v1:Value} {d1:DataW H} {ps1:List MemPlace} (o0:Value.okWide Tryz.prog W .any base 3 v0) (h0:DataW.Trod enc Tryz.prog W 0 (fun _=>true) true 3 v0 d0 ps0) (o1:Value.okWide Tryz.prog W .any base 3 v1) (h1:DataW.Trod enc Tryz.prog W 0 (fun _=>true) true 3 v1 d1 ps1) :
  Calls Tryz.prog 3 #[v0,v1] W fun e w'=>e=.returned (.bool true)∧Eng.Kept W w':=by
 obtain⟨bs,x,zs,hb,vl,⟨c0,e0,rfl,_,_,rep0,rep1⟩⟩:=Eng.LayC.done ((Eng.lay_int 6 plain3 Tryz.underlying3 o0 h0).app (Eng.lay_int 6 plain3 Tryz.underlying3 o1 h1))
 obtain⟨n0,hn0,rfl⟩:=rep_int (m:=5) Tryz.underlying3 rep0
 obtain⟨n1,hn1,rfl⟩:=rep_int (m:=5) Tryz.underlying3 rep1
 obtain⟨r,η',hc,rfl⟩:=flatCounts_spec usual13 nat13_at (Eng.startH Tryz.prog bs) n0 hn0 n1 hn1
 refine(Eng.law_calls (us:=[v0,v1]) good nat13_ok hc (w:=W) (x:=x) hb vl).mono fun e w' ⟨u,ρ',he,hu,hk⟩=>?_
 letI:Eng.Deep:=⟨0,0⟩
 letI:Eng.Env:=Eng.noEnv
 rw[Eng.VR_bool.1 hu]at he
 exact⟨he,hk⟩
theorem proved:Rows.FlatCountsCardSaid:=proved_of walk
#print axioms proved
end Go.Proofs.YtdeejbnhlbddgaaGreatDoor.flatCounts
