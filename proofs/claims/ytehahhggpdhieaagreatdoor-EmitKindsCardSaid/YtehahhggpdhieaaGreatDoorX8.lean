/- Lemmas of the walk of EmitKinds are proved. Conditions: none. -/
import Derived.KernelRfl
import Derived.Test.YtehahhggpdhieaaGreatDoorProg
import Derived.Test.YtehahhggpdhieaaGreatDoorX7
namespace Go.Proofs.YtehahhggpdhieaaGreatDoor
set_option maxRecDepth 100000
set_option maxHeartbeats 32000000
set_option linter.all false
section
open Tryz renaming prog->tz
variable {g:AV->HN->Prop}{d:HN}
@[go_sem] def tdA:av tz 2=.i .i64/\av tz 3=.i .i64/\av tz 5=.i .u8/\av tz 9=.s/\av tz 25=.a 42 6 120/\av tz 29=.a 34 6 120/\av tz 31=.a 94 5 56/\av tz 32=.a 86 7 96/\av tz 34=.t [⟨false,9,0,1,false⟩,⟨false,31,1,1,false⟩,⟨false,31,2,1,false⟩,⟨false,31,3,1,false⟩,⟨false,32,4,1,false⟩,⟨false,3,5,1,false⟩]/\av tz 39=.a 48 5 56/\av tz 40=.a 54 7 96/\av tz 42=.t [⟨false,9,0,1,false⟩,⟨false,39,1,1,false⟩,⟨false,39,2,1,false⟩,⟨false,39,3,1,false⟩,⟨false,40,4,1,false⟩,⟨false,3,5,1,false⟩]/\av tz 45=.t [⟨false,35,0,1,false⟩,⟨false,3,1,1,false⟩]/\av tz 48=.t [⟨false,9,0,1,false⟩,⟨false,3,1,1,false⟩,⟨false,9,2,1,false⟩,⟨false,4,3,1,false⟩,⟨false,3,4,1,false⟩]/\av tz 50=.a 52 5 72/\av tz 52=.t [⟨false,9,0,1,false⟩,⟨false,9,1,1,false⟩,⟨false,2,2,1,false⟩,⟨false,3,3,1,false⟩,⟨false,50,4,1,false⟩]/\av tz 54=.t [⟨false,9,0,1,false⟩,⟨false,52,1,5,true⟩,⟨false,3,6,1,false⟩]/\av tz 56=.a 2 1 8/\av tz 60=.a 75 1 8/\av tz 61=.a 106 4 32/\av tz 63=.t [⟨false,60,0,1,false⟩,⟨false,60,1,1,false⟩,⟨false,60,2,1,false⟩,⟨false,60,3,1,false⟩,⟨false,56,4,1,false⟩,⟨false,61,5,1,false⟩]/\av tz 81=.a 83 5 72/\av tz 83=.t [⟨false,9,0,1,false⟩,⟨false,9,1,1,false⟩,⟨false,2,2,1,false⟩,⟨false,3,3,1,false⟩,⟨false,81,4,1,false⟩]/\av tz 86=.t [⟨false,9,0,1,false⟩,⟨false,83,1,5,true⟩,⟨false,3,6,1,false⟩]/\av tz 90=.t [⟨false,29,0,1,false⟩,⟨false,34,1,6,true⟩,⟨false,3,7,1,false⟩]/\av tz 94=.t [⟨false,9,0,1,false⟩,⟨false,75,1,1,false⟩,⟨false,9,2,1,false⟩,⟨false,4,3,1,false⟩,⟨false,3,4,1,false⟩]/\av tz 96=.t [⟨false,34,0,6,true⟩,⟨false,9,6,1,false⟩,⟨false,94,7,5,true⟩]/\av tz 106=.t [⟨false,3,0,1,false⟩,⟨false,3,1,1,false⟩,⟨false,3,2,1,false⟩,⟨false,3,3,1,false⟩]/\av tz 107=.a 108 1 24/\av tz 108=.a 4 1 1/\av tz 109=.a 3 1 8/\av tz 123=.a 250 2 24/\av tz 124=.a 126 8 128/\av tz 126=.t [⟨false,83,0,5,true⟩,⟨false,123,5,1,false⟩,⟨false,124,6,1,false⟩,⟨false,4,7,1,false⟩]/\av tz 135=.t [⟨false,45,0,2,true⟩]/\av tz 145=.a 205 2 24/\av tz 150=.a 9 1 16/\av tz 156=.map 9 3/\av tz 157=.map 2 3/\av tz 158=.a 221 10 144/\av tz 159=.a 230 2 32/\av tz 161=.t [⟨false,34,0,6,true⟩,⟨false,63,6,6,true⟩,⟨false,156,12,1,false⟩,⟨false,157,13,1,false⟩,⟨false,158,14,1,false⟩,⟨false,159,15,1,false⟩,⟨false,61,16,1,false⟩]/\av tz 164=.map 9 126/\av tz 182=.a 189 4 40/\av tz 187=.t [⟨false,182,0,1,false⟩,⟨false,3,1,1,false⟩,⟨false,45,2,2,true⟩,⟨false,3,4,1,false⟩,⟨false,3,5,1,false⟩,⟨false,3,6,1,false⟩]/\av tz 189=.t [⟨false,3,0,1,false⟩,⟨false,9,1,1,false⟩,⟨false,2,2,1,false⟩,⟨false,3,3,1,false⟩]/\av tz 196=.t [⟨false,34,0,6,true⟩,⟨false,109,6,1,false⟩]/\av tz 202=.a 145 1 24/\av tz 205=.t [⟨false,9,0,1,false⟩,⟨false,4,1,1,false⟩]/\av tz 212=.map 9 4/\av tz 214=.map 9 150/\av tz 216=.t [⟨false,150,0,1,false⟩,⟨false,214,1,1,false⟩]/\av tz 221=.t [⟨false,3,0,1,false⟩,⟨false,3,1,1,false⟩,⟨false,126,2,8,true⟩]/\av tz 230=.t [⟨false,3,0,1,false⟩,⟨false,123,1,1,false⟩]/\av tz 250=.t [⟨false,9,0,1,false⟩,⟨false,4,1,1,false⟩]/\av tz 257=.a 31 1 24/\av tz 267=.i .u64/\av tz 276=.t [⟨false,212,0,1,false⟩]/\av tz 284=.t [⟨false,29,0,1,false⟩,⟨false,34,1,6,true⟩,⟨false,109,7,1,false⟩]/\av tz 297=.a 150 1 24/\av tz 298=.y 24 5 1 false/\av tz 301=.a 5 1 1/\av tz 308=.y 20 267 1 false/\av tz 309=.i .u32:=by
 repeat' apply And.intro
 all_goals kernel_rfl
@[go_sem] def tyA:bS tz 2=some (1,8,false)/\bS tz 3=some (1,8,false)/\bS tz 4=some (1,1,false)/\bS tz 5=some (1,1,false)/\bS tz 9=some (1,16,false)/\bS tz 29=some (1,24,false)/\bS tz 31=some (1,24,false)/\bS tz 32=some (1,24,false)/\bS tz 34=some (6,120,true)/\bS tz 35=some (1,8,false)/\bS tz 39=some (1,24,false)/\bS tz 40=some (1,24,false)/\bS tz 42=some (6,120,true)/\bS tz 45=some (2,16,true)/\bS tz 48=some (5,56,true)/\bS tz 50=some (1,24,false)/\bS tz 52=some (5,72,true)/\bS tz 54=some (7,96,true)/\bS tz 56=some (1,24,false)/\bS tz 60=some (1,24,false)/\bS tz 61=some (1,24,false)/\bS tz 63=some (6,144,true)/\bS tz 75=some (1,8,false)/\bS tz 81=some (1,24,false)/\bS tz 83=some (5,72,true)/\bS tz 86=some (7,96,true)/\bS tz 94=some (5,56,true)/\bS tz 106=some (4,32,true)/\bS tz 108=some (1,24,false)/\bS tz 109=some (1,24,false)/\bS tz 123=some (1,24,false)/\bS tz 124=some (1,24,false)/\bS tz 126=some (8,128,true)/\bS tz 145=some (1,24,false)/\bS tz 150=some (1,24,false)/\bS tz 155=some (1,8,false)/\bS tz 156=some (1,8,false)/\bS tz 157=some (1,8,false)/\bS tz 158=some (1,24,false)/\bS tz 159=some (1,24,false)/\bS tz 182=some (1,24,false)/\bS tz 189=some (4,40,true)/\bS tz 205=some (2,24,true)/\bS tz 210=some (1,8,false)/\bS tz 212=some (1,8,false)/\bS tz 214=some (1,8,false)/\bS tz 221=some (10,144,true)/\bS tz 230=some (2,32,true)/\bS tz 250=some (2,24,true)/\bS tz 267=some (1,8,false)/\bS tz 274=some (1,8,false):=by
 repeat' apply And.intro
 all_goals kernel_rfl
@[go_sem] def zA:cr tz 2=some (II 0)/\cr tz 3=some (II 0)/\cr tz 4=some (.l false)/\cr tz 9=some (.s 0 0)/\cr tz 31=some .e/\cr tz 34=some (.g [.s 0 0,.e,.e,.e,.e,II 0])/\cr tz 42=some (.g [.s 0 0,.e,.e,.e,.e,II 0])/\cr tz 45=some (.g [II 0,II 0])/\cr tz 48=some (.g [.s 0 0,II 0,.s 0 0,.l false,II 0])/\cr tz 52=some (.g [.s 0 0,.s 0 0,II 0,II 0,.e])/\cr tz 54=some (.g [.s 0 0,.s 0 0,.s 0 0,II 0,II 0,.e,II 0])/\cr tz 63=some (.g [.e,.e,.e,.e,.e,.e])/\cr tz 75=some (II 0)/\cr tz 83=some (.g [.s 0 0,.s 0 0,II 0,II 0,.e])/\cr tz 86=some (.g [.s 0 0,.s 0 0,.s 0 0,II 0,II 0,.e,II 0])/\cr tz 90=some (.g [.e,.s 0 0,.e,.e,.e,.e,II 0,II 0])/\cr tz 94=some (.g [.s 0 0,II 0,.s 0 0,.l false,II 0])/\cr tz 96=some (.g [.s 0 0,.e,.e,.e,.e,II 0,.s 0 0,.s 0 0,II 0,.s 0 0,.l false,II 0])/\cr tz 106=some (.g [II 0,II 0,II 0,II 0])/\cr tz 108=some .e/\cr tz 123=some .e/\cr tz 126=some (.g [.s 0 0,.s 0 0,II 0,II 0,.e,.e,.e,.l false])/\cr tz 135=some (.g [II 0,II 0])/\cr tz 145=some .e/\cr tz 150=some .e/\cr tz 161=some (.g [.s 0 0,.e,.e,.e,.e,II 0,.e,.e,.e,.e,.e,.e,.c,.c,.e,.e,.e])/\cr tz 187=some (.g [.e,II 0,II 0,II 0,II 0,II 0,II 0])/\cr tz 189=some (.g [II 0,.s 0 0,II 0,II 0])/\cr tz 196=some (.g [.s 0 0,.e,.e,.e,.e,II 0,.e])/\cr tz 205=some (.g [.s 0 0,.l false])/\cr tz 210=some .r/\cr tz 212=some .c/\cr tz 216=some (.g [.e,.c])/\cr tz 221=some (.g [II 0,II 0,.s 0 0,.s 0 0,II 0,II 0,.e,.e,.e,.l false])/\cr tz 230=some (.g [II 0,.e])/\cr tz 250=some (.g [.s 0 0,.l false])/\cr tz 274=some .r/\cr tz 276=some (.g [.c])/\cr tz 284=some (.g [.e,.s 0 0,.e,.e,.e,.e,II 0,.e])/\cr tz 298=some (.g (List.replicate 24 (.i .u8 0))):=by
 repeat' apply And.intro
 all_goals kernel_rfl
def pu:Nat->L DK->L DK
 |0,l=>l
 |n+1,l=>.p::pu n l
attribute [go_sem] pu
def Hd:bW:=λ_=>[]
def Wl:bW:=λi=>match i with|15=>pu 12 []|20=>pu 12 []|_=>[]
def Wy:bW:=λi=>match i with|2=>pu 6 []|_=>[]
def Vz:bW:=λi=>match i with|5=>pu 4 (.read 0 3::pu 5 (.az::pu 4 (.read 0 1::.az::pu 4 (.read 0 2::.az::pu 4 (.read 0 3::pu 1 (.alloc::.az::[]))))))|9=>pu 1 (.read 0 1::pu 4 (.read 0 1::pu 3 (.read 0 1::pu 9 (.az::pu 4 (.read 0 1::pu 3 (.read 0 1::pu 1 (.alloc::.az::pu 1 (.az::[]))))))))|_=>[]
def V0:bW:=λi=>match i with|3=>.alloc::pu 1 (.read 0 0::.az::pu 1 (.read 0 1::.az::pu 1 (.read 0 2::.az::pu 1 (.read 0 3::.az::pu 1 []))))|18=>pu 6 (.az::pu 1 [])|31=>pu 11 []|42=>pu 2 (.read 0 1::pu 6 (.az::pu 1 (.az::[])))|46=>pu 12 []|_=>[]
def V5:bW:=λi=>match i with|3=>pu 2 (.az::[])|6=>pu 2 (.az::[])|7=>pu 3 (.az::[])|_=>[]
def V6:bW:=λi=>match i with|5=>pu 27 (.alloc::.az::pu 1 [])|_=>[]
def V8:bW:=λi=>match i with|5=>pu 1 (.read 0 1::pu 5 (.az::.alloc::.az::pu 1 (.az::[])))|_=>[]
def V9:bW:=λi=>match i with|11=>pu 1 (.read 0 1::pu 7 (.az::pu 2 (.az::[])))|_=>[]
def Wa:bW:=λi=>match i with|3=>pu 5 (.az::pu 3 (.alloc::.az::pu 1 []))|4=>pu 4 (.az::pu 2 (.read 0 1::.az::.az::[]))|_=>[]
def Wb:bW:=λi=>match i with|11=>pu 6 (.az::[])|17=>pu 16 (.az::[])|_=>[]
def Wc:bW:=λi=>match i with|6=>pu 5 (.az::pu 7 [])|16=>pu 11 []|18=>pu 15 []|30=>pu 13 []|33=>pu 7 (.az::[])|37=>pu 6 (.az::pu 3 (.alloc::.az::pu 1 []))|_=>[]
def We:bW:=λi=>match i with|17=>pu 7 (.az::pu 3 (.alloc::.az::pu 1 []))|18=>pu 9 (.az::pu 1 (.read 0 1::pu 1 []))|_=>[]
def Wf:bW:=λi=>match i with|9=>pu 8 (.az::pu 5 [])|10=>pu 11 (.az::.az::pu 2 [])|_=>[]
def Wg:bW:=λi=>match i with|16=>pu 13 []|20=>pu 13 []|_=>[]
def Wh:bW:=λi=>match i with|9=>pu 7 (.az::pu 1 [])|13=>pu 5 (.az::pu 1 [])|_=>[]
def Wi:bW:=λi=>match i with|8=>pu 2 (.read 0 1::pu 2 (.az::pu 3 (.az::[])))|13=>pu 4 (.read 0 1::pu 1 (.read 0 1::pu 4 (.az::.alloc::.az::[])))|21=>pu 8 (.alloc::.az::pu 3 (.az::[]))|22=>pu 9 (.alloc::.az::[])|_=>[]
def Wj:bW:=λi=>match i with|8=>pu 7 (.az::pu 1 [])|_=>[]
def Wk:bW:=λi=>match i with|6=>pu 12 []|8=>pu 13 []|10=>pu 13 []|12=>pu 13 []|14=>pu 13 []|22=>pu 20 []|_=>[]
def Wm:bW:=λi=>match i with|3=>pu 2 (.az::[])|12=>pu 5 (.az::[])|_=>[]
def Wn:bW:=λi=>match i with|5=>pu 1 (.read 0 1::pu 6 (.az::pu 1 (.az::[])))|_=>[]
def Wo:bW:=λi=>match i with|1=>pu 9 (.alloc::.az::pu 3 (.az::[]))|_=>[]
def Mc:bW:=λi=>match i with|10=>pu 1 (.read 0 1::pu 3 (.az::.alloc::.az::pu 1 (.az::[])))|_=>[]
def Wp:bW:=λi=>match i with|10=>pu 23 []|15=>pu 8 (.az::[])|_=>[]
def Wq:bW:=λi=>match i with|5=>pu 9 (.az::.alloc::.az::pu 1 [])|29=>pu 9 []|41=>pu 12 []|43=>pu 18 []|46=>pu 8 []|49=>pu 17 []|55=>pu 15 []|_=>[]
def Wr:bW:=λi=>match i with|6=>pu 7 (.az::pu 5 [])|25=>pu 9 (.read 0 1::pu 5 (.az::.az::pu 2 []))|_=>[]
def Ws:bW:=λi=>match i with|6=>pu 9 []|_=>[]
def Wt:bW:=λi=>match i with|3=>pu 8 (.alloc::.az::pu 3 (.az::[]))|4=>pu 3 (.read 0 1::pu 1 (.read 0 1::pu 3 (.az::.az::[])))|5=>pu 9 (.alloc::.az::[])|7=>pu 10 (.alloc::.az::.read 1 1::pu 1 [])|10=>pu 3 (.read 0 1::pu 1 (.read 0 1::pu 3 (.az::.az::[])))|_=>[]
def Wv:bW:=λi=>match i with|9=>pu 8 (.az::[])|_=>[]
def Ww:bW:=λi=>match i with|12=>pu 7 (.alloc::.az::pu 3 (.az::[]))|_=>[]
def zg:bW:=λi=>match i with|4=>pu 12 (.alloc::.az::pu 2 (.az::[]))|9=>pu 12 (.alloc::.az::pu 2 (.az::[]))|10=>pu 3 (.az::pu 2 (.read 0 1::.az::pu 2 (.az::pu 1 [])))|16=>pu 9 []|33=>pu 5 (.az::pu 2 (.read 0 1::pu 2 (.read 0 1::pu 2 (.read 0 1::.az::pu 1 []))))|35=>pu 5 (.az::pu 3 (.read 0 1::pu 2 (.read 0 1::.read 0 1::pu 2 (.read 0 1::pu 2 (.read 0 1::.az::pu 1 [])))))|37=>pu 5 (.az::pu 2 (.read 0 1::.az::pu 2 (.read 0 2::pu 2 (.read 0 2::.az::pu 1 []))))|38=>pu 10 (.az::pu 1 [])|_=>[]
def Wx:bW:=λi=>match i with|4=>pu 17 (.az::[])|6=>pu 5 (.az::pu 4 (.read 0 1::.az::pu 3 (.az::[])))|_=>[]
def Wz:bW:=λi=>match i with|1=>pu 10 (.az::[])|_=>[]
def WA:bW:=λi=>match i with|14=>pu 7 (.alloc::.az::pu 2 (.az::[]))|_=>[]
def WB:bW:=λi=>match i with|8=>pu 4 (.read 0 1::pu 11 (.az::.az::[]))|10=>pu 4 (.read 0 1::pu 13 (.az::.az::[]))|6=>pu 11 (.az::[])|_=>[]
def WC:bW:=λi=>match i with|1=>pu 7 (.az::pu 1 [])|3=>pu 3 (.read 0 2::pu 2 (.read 0 2::pu 4 (.az::pu 3 (.read 0 1::.az::pu 1 (.alloc::pu 1 [])))))|14=>pu 4 (.az::pu 3 (.read 0 1::.az::[]))|16=>pu 10 (.alloc::.az::.read 1 1::pu 1 [])|_=>[]
def VA:bW:=λi=>match i with|5=>pu 3 (.read 0 1::pu 3 (.az::.az::[]))|_=>[]
def VB:bW:=λi=>match i with|2=>pu 4 (.read 0 1::.read 0 1::pu 3 (.az::pu 2 []))|_=>[]
def VC:bW:=λi=>match i with|1=>pu 3 (.read 0 1::.alloc::.read 0 0::.az::.az::pu 1 [])|_=>[]
def VD:bW:=λi=>match i with|4=>pu 8 []|_=>[]
def VE:bW:=λi=>match i with|5=>pu 12 []|11=>pu 6 []|_=>[]
def VF:bW:=λi=>match i with|5=>pu 13 []|_=>[]
def VG:bW:=λi=>match i with|14=>pu 1 (.az::pu 16 [])|_=>[]
def VH:bW:=λi=>match i with|6=>pu 6 (.az::pu 3 [])|8=>pu 6 (.az::pu 1 [])|12=>pu 6 (.az::pu 1 [])|13=>pu 6 (.read 0 1::pu 3 (.az::.az::pu 4 (.read 2 3::pu 3 (.az::.az::pu 2 []))))|_=>[]
def Mb:bW:=λi=>match i with|3=>pu 13 (.az::pu 1 (.az::[]))|_=>[]
def VI:bW:=λi=>match i with|4=>pu 3 (.az::pu 1 (.read 0 1::pu 1 (.az::[])))|_=>[]
def VJ:bW:=λi=>match i with|1=>pu 7 (.alloc::.az::pu 3 (.az::[]))|_=>[]
def VK:bW:=λi=>match i with|2=>pu 9 (.read 0 1::pu 1 (.az::pu 1 (.az::[])))|_=>[]
def VM:bW:=λi=>match i with|3=>pu 8 (.alloc::pu 1 [])|_=>[]
def VN:bW:=λi=>match i with|5=>pu 1 (.read 0 1::pu 1 (.az::.alloc::.az::pu 1 (.az::[])))|_=>[]
def VO:bW:=λi=>match i with|0=>pu 14 (.az::[])|_=>[]
def VP:bW:=λi=>match i with|5=>.read 0 1::pu 2 (.az::pu 4 [])|_=>[]
def VQ:bW:=λi=>match i with|6=>pu 6 (.az::[])|_=>[]
def VT:bW:=λi=>match i with|5=>pu 6 (.az::[])|_=>[]
def VU:bW:=λi=>match i with|12=>pu 7 (.alloc::.az::pu 2 (.az::[]))|_=>[]
def VW:bW:=λi=>match i with|6=>pu 9 []|_=>[]
def VX:bW:=λi=>match i with|39=>pu 19 []|_=>[]
def VY:bW:=λi=>match i with|7=>pu 12 (.az::pu 1 (.az::[]))|8=>pu 12 (.az::pu 1 (.az::[]))|9=>pu 12 (.az::pu 1 (.az::[]))|10=>pu 12 (.az::pu 1 (.az::[]))|17=>pu 12 (.az::pu 1 (.az::[]))|18=>pu 12 (.az::pu 1 (.az::[]))|23=>pu 12 (.az::pu 1 (.az::[]))|_=>[]
def VZ:bW:=λi=>match i with|1=>pu 6 (.az::pu 1 [])|7=>pu 7 []|_=>[]
attribute [go_sem] Hd Wl Wy Vz V0 V5 V6 V8 V9 Wa Wb Wc We Wf Wg Wh Wi Wj Wk Wm Wn Wo Mc Wp Wq Wr Ws Wt Wv Ww zg Wx Wz WA WB WC VA VB VC VD VE VF VG VH Mb VI VJ VK VM VN VO VP VQ VT VU VW VX VY VZ
def jG:tz.follows .mixedOrders=true:=by kernel_rfl
def cf(PT:bW){f:FuncId}{c:Func}{b:Code}{a:L AV}{e:L ResultVar}(i:tz.funcs[f]?=some c)
 (w:dQ tz (aq tz) PT b (Bm tz e g) (ye a) d) (h:c.body=some b:=by rfl) (j:c.results=⟨e⟩:=by rfl) (k:CO tz PT c=true:=by kernel_rfl) (e:Nat.ble (N a) c.ntmps=true:=by rfl):∃v b,aq tz f a d v b/\g v b:=P1 jG i h k e (by unfold Mv;rw[j];exact w)
def c0{f:FuncId}{c:Func}{b:Code}{a:L AV}{e:L ResultVar}(i:tz.funcs[f]?=some c)
 (w:dQ tz (aq tz) Hd b (Bm tz e g) (ye a) d) (h:c.body=some b:=by rfl) (j:c.results=⟨e⟩:=by rfl) (k:CO tz Hd c=true:=by kernel_rfl) (e:Nat.ble (N a) c.ntmps=true:=by rfl):∃v b,aq tz f a d v b/\g v b:=cf Hd i w h j k e
end
section
abbrev S:=Nat×Nat
def sV(s:S):AV:=.s s.1 s.2
structure Wd where
 k:Nat
 t:S
 n:Nat
 a:Nat
def Wd.cells(w:Wd):L AV:=[w.k,sV w.t,w.n,w.a]
inductive Tr where
 |mk (op nm:S) (n a:Nat) (ks:List Tr)
structure Vr where
 n:S
 z:Nat
 p:S
 t:Bool
 a:Nat
def Vr.cells(v:Vr):L AV:=[sV v.n,v.z,sV v.p,v.t,v.a]
structure aX where
 n:S
 e:Tr
 a:Nat
structure Nd where
 n:S
 ins:List Vr
 o:List Vr
 ao:List Vr
 r:List aX
 a:Nat
structure PS where
 k:Nat
 e:Nat
 b:Nat
 p:Nat
 x:Nat
def uo:S:=(4,1701080942)
def tc:S:=(7,32491060197614962)
def bR:S:=(3,7496054)
def pr:S:=(3,7628140)
def D0:S:=(3,7103860)
def cX:S:=(4,1819242338)
def fm:S:=(3,7630441)
def uq:S:=(4,1702195828)
def uk:S:=(5,435728179558)
def fB:S:=(3,7630702)
def gS:S:=(3,6581857)
def gV:S:=(2,29295)
def gX:S:=(3,7499640)
def gA:S:=(3,6582125)
def jK:S:=(2,26217)
def MH:S:=(4,1852139636)
def MG:S:=(4,1702063205)
def eH:S:=(3,6648432)
def dk:S:=(3,7955046)
def bB:S:=(4,1852139639)
def bD:S:=(5,435527247213)
def gU:S:=(2,15676)
def gT:S:=(2,15678)
def il:S:=(2,15932)
def jJ:S:=(2,15917)
def iV:S:=(1,40)
def gW:S:=(1,41)
def uj:S:=(1,58)
def iW:S:=(1,59)
def pR:S:=(1,44)
def dY:S:=(1,61)
def im:S:=(1,43)
def gd:S:=(1,45)
def gL:S:=(1,42)
def gK:S:=(1,47)
def ik:S:=(1,60)
def ij:S:=(1,62)
def ps:S:=(3,6776174)
def bK:S:=(4,1819042147)
def wd(a:L Wd)(p:PS):Wd:=a.getD p.k ⟨0,(0,0),0,0⟩
def iQ(a:L Wd)(b:Nat)(p:PS):PS:=if p.e=0 then{p with e:=b,b:=(wd a p).a} else p
def aN(a:L Wd)(s:S)(p:PS):Bool:=de (p.e=0/\((wd a p).k=2\/(wd a p).k=4)/\(wd a p).t=s)
def bm(p:PS):PS:={p with k:=p.k+1}
def fJ(a:L Wd)(s:S)(p:PS):PS:=if aN a s p then bm p else p
def aV(a:L Wd)(s:S)(p:PS):PS:=if aN a s p then bm p else iQ a 7 p
def aG(a:L Wd)(p:PS):S×PS:=if p.e=0/\(wd a p).k=1 then((wd a p).t,bm p) else((0,0),iQ a 7 p)
def rZ(a:L Wd)(p:PS):PS:=if p.e=0/\300<=p.p/\p.p<9223372036854775808 then iQ a 2 p else p
def bf(a:L Wd)(p:PS):PS:={rZ a p with p:=(p.p+1)%18446744073709551616}
def E0:Tr:=.mk (0,0) (0,0) 0 0 []
structure dn where
 a:PS->Tr×PS
 f:PS->Tr×PS
 B:PS->Tr×PS
 p:PS->Tr×PS
def qn(G:Option dn)(p:PS):Option dn:=if p.e=0 then G else none
def wV(a:L Wd)(G:Option dn)(p:PS):PS:=match G with|none=>iQ a 2 p|some _=>p
def gm(a:L Wd)(G:Option dn)(p:PS)(f:dn->Tr×PS):Tr×PS:=match qn G p with|some F=>f F|none=>(E0,wV a G p)
def dU(a:L Wd)(G:Option dn)(p:PS):Tr×PS:=gm a G p λF=>F.a p
def qX(a:L Wd)(G:Option dn)(p:PS):Tr×PS:=gm a G p λF=>F.p p
def jC(a:L Wd)(G:Option dn):Nat->L Tr->PS->L Tr×PS
 |0,l,p=>(l,p)
 |n+1,l,p=>if p.e=0 then(if aN a pR (dU a G p).2 then jC a G n (l++[(dU a G p).1]) (bm (dU a G p).2) else(l++[(dU a G p).1],(dU a G p).2)) else(l,p)
def lB(a:L Wd)(p:PS):PS:=if(wd a p).k=1\/(wd a p).k=3\/aN a uq p=true\/aN a uk p=true\/aN a jK p=true\/aN a bD p=true then bf a p else p
def C0(d:L Wd)(G:Option dn)(e:Nat)(p:PS):Tr×PS:=
 let a:=dU d G p
 let b:=dU d G (aV d MH a.2)
 let c:=dU d G (aV d MG b.2)
 (.mk jK (0,0) 0 e [a.1,b.1,c.1],c.2)
def Dh(c:L Wd)(G:Option dn)(d:Nat)(p:PS):Tr×PS:=
 let s:=aG c p
 let a:=qX c G s.2
 let b:=qX c G a.2
 (.mk bD s.1 0 d [a.1,b.1],b.2)
def yq(a:L Wd)(G:Option dn)(b:Nat)(c:S)(p:PS):Tr×PS:=
 if aN a gW p then(.mk bK c 0 b [],bm p)
 else(.mk bK c 0 b (jC a G (N a) [] p).1,aV a gW (jC a G (N a) [] p).2)
def pU(b:L Wd)(G:Option dn)(a:Nat)(p:PS):Tr×PS:=
 let s:=aG b p
 if aN b iV s.2 then yq b G a s.1 (bm s.2) else(.mk bR s.1 0 a [],s.2)
def ii(a:L Wd)(G:Option dn)(w:Wd)(p:PS):Tr×PS:=
 if p.e=0/\w.k=3 then(.mk fm (0,0) w.n w.a [],bm p)
 else if aN a uq p then(.mk cX (0,0) 1 w.a [],bm p)
 else if aN a uk p then(.mk cX (0,0) 0 w.a [],bm p)
 else if aN a jK p then C0 a G w.a (bm p)
 else if aN a bD p then Dh a G w.a (bm p)
 else pU a G w.a p
def oB(a:L Wd)(G:Option dn)(p:PS):Tr×PS:=
 if aN a iV p then((dU a G (bm p)).1,aV a gW (dU a G (bm p)).2)
 else ii a G (wd a p) (lB a p)
def nP(a:L Wd)(G:Option dn)(b:S)(p:PS):Tr×PS:=
 if(bf a p).e=0 then gm a G (bm (bf a p)) λF=>(.mk b (0,0) 0 (wd a p).a [(F.B (bm (bf a p))).1],(F.B (bm (bf a p))).2) else(E0,bf a p)
def pA(a:L Wd)(G:Option dn)(p:PS):Tr×PS:=
 if aN a fB p then nP a G fB p
 else if aN a gd p then nP a G ps p
 else if aN a eH p then nP a G eH p
 else oB a G p
def cZ(a:L Wd)(s:S)(p:PS):PS:=fJ a s (bf a p)
def pE(a:L Wd)(p:PS):(Nat×S)×PS:=
 let b:=cZ a bB p
 let s:=aG a (fJ a fB b)
 ((if aN a fB b then 0 else 1,s.1),s.2)
def mZ(b:L Wd):Nat->Tr->PS->Tr×PS
 |0,a,p=>(a,p)
 |n+1,a,p=>if aN b bB p then mZ b n (.mk bB (pE b p).1.2 (pE b p).1.1 (wd b p).a [a]) (pE b p).2 else(a,p)
def lW(a:L Wd)(G:Option dn)(p:PS):Tr×PS:=mZ a (N a) (pA a G p).1 (pA a G p).2
def pK(a:L Wd)(G:Option dn)(p:PS):Tr×PS:=
 let r:=lW a G p
 if aN a dk r.2 then gm a G (cZ a dk r.2) λF=>(.mk dk (0,0) 0 (wd a r.2).a [r.1,(F.f (cZ a dk r.2)).1],(F.f (cZ a dk r.2)).2) else r
def kf(a:L Wd):L S->PS->Option S
 |[],_=>none
 |s::l,p=>if aN a s p then some s else kf a l p
def fO(b:L Wd)(d:PS->Tr×PS)(e:L S)(c:Bool):Nat->Tr->PS->Tr×PS
 |0,a,p=>(a,p)
 |n+1,a,p=>match kf b e p with
  |none=>(a,p)
  |some op=>if c then(.mk op (0,0) 0 (wd b p).a [a,(d (cZ b op p)).1],(d (cZ b op p)).2)
   else fO b d e c n (.mk op (0,0) 0 (wd b p).a [a,(d (cZ b op p)).1]) (d (cZ b op p)).2
def LX:Nat->L S
 |0=>[gV,gX]
 |1=>[gS]
 |2=>[dY,il,ik,gU,ij,gT]
 |3=>[im,gd]
 |_=>[gL,gK,gA]
def bP(a:L Wd)(G:Option dn):Nat->PS->Tr×PS
 |0,p=>pK a G p
 |n+1,p=>fO a (bP a G n) (LX (4-n)) (Nat.beq n 2) (N a) (bP a G n p).1 (bP a G n p).2
def qP(a:L Wd)(G:Option dn)(p:PS):Tr×PS:=
 let r:=bP a G 5 p
 if aN a jJ r.2 then gm a G (cZ a jJ r.2) λF=>(.mk jJ (0,0) 0 (wd a r.2).a [r.1,(F.a (cZ a jJ r.2)).1],(F.a (cZ a jJ r.2)).2) else r
def pN(a:L Wd):Nat->Option dn
 |0=>none
 |m+1=>some ⟨qP a (pN a m),pK a (pN a m),pA a (pN a m),oB a (pN a m)⟩
def iz(a:L Wd):Nat->L Vr->PS->(L Vr×Bool)×PS
 |0,l,p=>((l,true),p)
 |n+1,l,p=>if p.e=0 then(if(wd a p).k=1/\p.x=64 then(([],false),iQ a 2 p) else
   (if aN a pR (aG a p).2 then iz a n (l++[⟨(aG a p).1,0,(0,0),false,(wd a p).a⟩]) (bm {(aG a p).2 with x:=(p.x+1)%18446744073709551616})
    else((l++[⟨(aG a p).1,0,(0,0),false,(wd a p).a⟩],true),{(aG a p).2 with x:=(p.x+1)%18446744073709551616})))
  else((l,true),p)
def cH(a:L Wd)(p:PS):L Vr×PS:=
 let r:=iz a (N a) [] p
 if r.1.2 then
  let b:=aV a uj r.2
  (r.1.1.map λv=>{v with z:=if aN a cX b then 1 else 2},if aN a cX b then bm b else aV a fm b)
 else([],r.2)
def mg(a:L Wd):Nat->L Vr->PS->L Vr×PS
 |0,l,p=>(l,p)
 |n+1,l,p=>if aN a iW p then mg a n (l++(cH a (bm p)).1) (cH a (bm p)).2 else(l,p)
def kU(a:L Wd)(p:PS):L Vr×PS:=if aN a gW p then([],p) else mg a (N a) (cH a p).1 (cH a p).2
def is(a:L Wd)(d:L Vr×PS):L Vr×PS:=
 if aN a bB d.2 then
  let s:=aG a (fJ a fB (bm d.2))
  (d.1.map λv=>{v with p:=s.1,t:=aN a fB (bm d.2)},s.2)
 else d
def nE(a:L Wd):Nat->L Vr->PS->L Vr×PS
 |0,l,p=>(l,p)
 |n+1,l,p=>if p.e=0 then(let d:=is a (cH a p)
  if aN a iW d.2=true/\(wd a (bm d.2)).k=1 then nE a n (l++d.1) (bm d.2) else(l++d.1,d.2)) else(l,p)
def sO(a:L Wd)(p:PS):L Vr×PS:=if aN a iW p then([],p) else nE a (N a) [] p
def mi(a:L Wd)(p:PS):aX×PS:=
 let s:=aG a p
 let e:=dU a (pN a 30) {aV a dY s.2 with p:=0}
 (⟨s.1,e.1,(wd a p).a⟩,aV a iW e.2)
def iG(a:L Wd):Nat->L aX->PS->L aX×PS
 |0,l,p=>(l,p)
 |n+1,l,p=>if p.e=0/\(wd a p).k=1 then iG a n (l++[(mi a p).1]) (mi a p).2 else(l,p)
def dJ(a:L Wd)(p:PS):(S×L Vr×L Vr)×PS:=
 let s:=aG a (aV a uo {p with x:=0})
 let i:=kU a (aV a iV s.2)
 let o:=kU a (aV a iV (aV a tc (aV a gW i.2)))
 ((s.1,i.1,o.1),aV a iW (aV a gW o.2))
def jj(a:L Wd)(p:PS):L Vr×PS:=
 if aN a bR p then((sO a (bm p)).1,aV a iW (sO a (bm p)).2) else([],p)
def jg(a:L Wd)(p:PS):Nd×PS:=
 let h:=dJ a p
 let v:=jj a h.2
 let q:=iG a (N a) [] (aV a pr v.2)
 (⟨h.1.1,h.1.2.1,h.1.2.2,v.1,q.1,(wd a p).a⟩,fJ a iW (aV a D0 q.2))
def fV(a:L Wd):Nat->L Nd->PS->L Nd×PS
 |0,l,p=>(l,p)
 |n+1,l,p=>if p.e=0/\(N l=0\/(wd a p).k≠0) then(if N l=32 then(l,iQ a 2 p) else fV a n (l++[(jg a p).1]) (jg a p).2) else(l,p)
def tn(a:L Wd):L Nd×Nat×Nat:=
 let r:=fV a 34 [] ⟨0,0,0,0,0⟩
 if r.2.e=0 then(r.1,0,0) else([],r.2.e,r.2.b)
end
section
variable {e:HN}{m:L (L AV)}{z:L AV}{s:Nat}
section
def bz(s t:S):aI s.1 s.2 t.1 t.2=decide (s=t):=by
 let⟨a,b⟩:=s;let⟨c,d⟩:=t;rw[rB];simp only[aI,ss,zX,aai,Prod.mk.injEq]
def sA(F:Nat->Prop)(y:AV):Prop:=∀b,ar y b->F b
def uG(F:Nat->Prop)(U a:HN):Prop:=∀b,F b->b<U.h->a.f b=U.f b
def aK.aR{F:Nat->Prop}{U:HN}{y:AV}(h:aK s U y m)(i:sA F y)(j:uG F U e)(a:U.h<=e.h):aK s e y m:=by
 rcases h with h|⟨b,off,cap,k,row,a,c,f,g⟩
 .exact .inl h
 .subst a;exact .inr ⟨b,off,cap,k,row,rfl,(j b (i b rfl) f).t c,Y,g⟩
mutual
def bn(F:Nat->Prop)(U:HN):Tr->List AV->Prop
 |.mk op c n a b,z=>∃y,z=[sV op,sV c,II n,II a,y]/\sA F y/\∃a,aK 5 U y a/\cw F U b a
def cw(F:Nat->Prop)(U:HN):List Tr->List (List AV)->Prop
 |[],a=>a=[]
 |k::b,a=>∃l r,a=l::r/\bn F U k l/\cw F U b r
end
mutual
def gq{F G:Nat->Prop}{U e:HN}(f:uG F U e)(g:U.h<=e.h)(c:∀b,F b->G b):∀(a:Tr) (z:List AV),bn F U a z->bn G e a z
 |.mk op i n a m,z,h=>by
  unfold bn at h|-;let⟨y,j,a,i,k,l⟩:=h;exact⟨y,j,λb h=>c b (a b h),i,k.aR a f g,sa f g c m i l⟩
def sa{F G:Nat->Prop}{U e:HN}(f:uG F U e)(g:U.h<=e.h)(c:∀b,F b->G b):∀(a:List Tr) (b:List (List AV)),cw F U a b->cw G e a b
 |[],b,h=>A
 |k::a,b,h=>by
  unfold cw at h|-;let⟨l,r,b,i,j⟩:=h;exact⟨l,r,b,gq f g c k l i,sa f g c a r j⟩
end
def fN{F:Nat->Prop}{U:HN}:∀{e:Tr} {z:List AV},bn F U e z->z.length=5
 |.mk _ _ _ _ _,_,h=>by
  unfold bn at h;grind
def kI{F:Nat->Prop}{U:HN}:∀{a:List Tr} {b:List (List AV)},cw F U a b->b.length=a.length/\∀l∈b,l.length=5
 |[],_,h=>by
  unfold cw at h;grind
 |k::a,_,h=>by
  unfold cw at h;obtain⟨l,r,rfl,a,b⟩:=h
  have:=kI b
  refine⟨by grind,λx hx=>?_⟩;rcases bY.1 hx with rfl|hx
  .exact fN a
  .exact this.2 x hx
def zi{F:Nat->Prop}{U:HN}:∀{a:List Tr} {b:List (List AV)} {e:Tr} {z:List AV},cw F U a b->bn F U e z->cw F U (a++[e]) (b++[z])
 |[],_,e,z,h,g=>by
  unfold cw at h;subst h;show cw F U [e] [z];unfold cw;exact⟨z,[],rfl,g,by unfold cw;rfl⟩
 |k::a,_,e,z,h,g=>by
  unfold cw at h;obtain⟨l,r,rfl,b,c⟩:=h;show cw F U (k::(a++[e])) (l::(r++[z]));unfold cw;exact⟨l,r++[z],rfl,b,zi c g⟩
def uf(F:Nat->Prop)(U:HN)(q:aX)(z:List AV):Prop:=∃a,z=[sV q.n]++a++[II q.a]/\bn F U q.e a
def mU(F:Nat->Prop)(U:HN):List aX->List (List AV)->Prop
 |[],a=>a=[]
 |k::b,a=>∃l r,a=l::r/\uf F U k l/\mU F U b r
def dL(F:Nat->Prop)(U:HN)(n:Nd)(z:List AV):Prop:=∃a b c e,z=[sV n.n,a,b,c,e,II n.a]/\(sA F a/\sA F b/\sA F c/\sA F e)/\
 aK 5 U a (n.ins.map Vr.cells)/\aK 5 U b (n.o.map Vr.cells)/\aK 5 U c (n.ao.map Vr.cells)/\∃a,aK 7 U e a/\mU F U n.r a
def fZ(F:Nat->Prop)(U:HN):List Nd->List (List AV)->Prop
 |[],a=>a=[]
 |k::b,a=>∃l r,a=l::r/\dL F U k l/\fZ F U b r
def Hl{F G:Nat->Prop}{U:HN}(f:uG F U e)(g:U.h<=e.h)(c:∀b,F b->G b){q:aX}(h:uf F U q z):uf G e q z:=by
 let⟨i,a,b⟩:=h;exact⟨i,a,gq f g c _ _ b⟩
def pp{F G:Nat->Prop}{U e:HN}(c:uG F U e)(f:U.h<=e.h)(a:∀b,F b->G b):∀{b:List aX} {g:List (List AV)},mU F U b g->mU G e b g
 |[],_,h=>h
 |_::_,_,⟨l,r,b,g,h⟩=>⟨l,r,b,Hl c f a g,pp c f a h⟩
def se{F G:Nat->Prop}{U:HN}(f:uG F U e)(g:U.h<=e.h)(c:∀b,F b->G b){q:Nd}(h:dL F U q z):dL G e q z:=by
 let⟨u,v,w,x,a,⟨i,j,k,l⟩,m,n,o,t,r,s⟩:=h;exact⟨u,v,w,x,a,⟨λb a=>c b (i b a),λb a=>c b (j b a),λb a=>c b (k b a),λb a=>c b (l b a)⟩,m.aR i f g,n.aR j f g,o.aR k f g,t,r.aR l f g,pp f g c s⟩
def iJ{F G:Nat->Prop}{U e:HN}(c:uG F U e)(f:U.h<=e.h)(a:∀b,F b->G b):∀{b:List Nd} {g:List (List AV)},fZ F U b g->fZ G e b g
 |[],_,h=>h
 |_::_,_,⟨l,r,b,g,h⟩=>⟨l,r,b,se c f a g,iJ c f a h⟩
def ahT{F:Nat->Prop}{U:HN}{q:aX}(h:uf F U q z):z.length=7:=by
 obtain⟨a,rfl,a⟩:=h;simp[fN a]
def Hj{F:Nat->Prop}{U:HN}{q:Nd}(h:dL F U q z):z.length=6:=by
 obtain⟨a,a,a,a,rfl,_⟩:=h
 rfl
def DP{F:Nat->Prop}{U:HN}{e:aX}{z:List AV}(g:uf F U e z):∀{a:List aX} {b:List (List AV)},mU F U a b->mU F U (a++[e]) (b++[z])
 |[],_,h=>by
  obtain rfl:=h;exact⟨z,[],rfl,g,rfl⟩
 |_::_,_,⟨l,r,a,b,c⟩=>by subst a;exact⟨l,r++[z],rfl,b,DP g c⟩
def Hk{F:Nat->Prop}{U:HN}{e:Nd}{z:List AV}(g:dL F U e z):∀{a:List Nd} {b:List (List AV)},fZ F U a b->fZ F U (a++[e]) (b++[z])
 |[],_,h=>by
  obtain rfl:=h;exact⟨z,[],rfl,g,rfl⟩
 |_::_,_,⟨l,r,a,b,c⟩=>by subst a;exact⟨l,r++[z],rfl,b,Hk g c⟩
def lS{F:Nat->Prop}{U:HN}:∀{b:List aX} {a:List (List AV)},mU F U b a->a.length=b.length/\∀l∈a,l.length=7
 |[],_,h=>by
  obtain rfl:=h;grind
 |_::_,_,⟨l,r,a,b,c⟩=>by
  subst a
  have:=lS c
  refine⟨by grind,λx hx=>?_⟩;rcases bY.1 hx with rfl|hx
  .exact ahT b
  .exact this.2 x hx
def pm{F:Nat->Prop}{U:HN}:∀{b:List Nd} {a:List (List AV)},fZ F U b a->a.length=b.length/\∀l∈a,l.length=6
 |[],_,h=>by
  obtain rfl:=h;grind
 |_::_,_,⟨l,r,a,b,c⟩=>by
  subst a
  have:=pm c
  refine⟨by grind,λx hx=>?_⟩;rcases bY.1 hx with rfl|hx
  .exact Hj b
  .exact this.2 x hx
def kJ(c a:Nat):Nat->Prop:=λb=>c<=b/\b<a
def ax(pb:Nat)(U a:HN):Prop:=U.h<=a.h/\∀b,b<U.h->b≠pb->a.f b=U.f b
def ax.refl(pb:Nat)(U:HN):ax pb U U:=⟨ak _,λ_ _ _=>rfl⟩
def ax.M{pb:Nat}{U a:HN}(h:ax pb U e)(c:ax pb e a):ax pb U a:=⟨bC h.1 c.1,λb f a=>(c.2 b (om h.1) a).t (h.2 b f a)⟩
def ax.X{pb:Nat}{U:HN}{y:BN}(h:ax pb U e):ax pb U (e.X y):=⟨by have:=h.1;show _<=e.h+1;omega,λb a c=>by have:=h.1;rw[<-h.2 b a c];show(if b=e.h then _ else _)=_;grind⟩
def ax.put{pb:Nat}{U:HN}{y:BN}(h:ax pb U e):ax pb U (e.put pb y):=⟨h.1,λb a c=>by rw[<-h.2 b a c];show(if b=pb then _ else _)=_;grind⟩
def ax.be{pb c:Nat}{U:HN}{y:BN}(h:ax pb U e)(a:U.h<=c):ax pb U (e.put c y):=⟨h.1,λb a f=>by rw[<-h.2 b a f];show(if b=c then _ else _)=_;grind⟩
def ax.of{pb:Nat}{U a:HN}(h:ax pb U e)(c:ai e.h e a):ax pb U a:=⟨bC h.1 c.1,λb a f=>(c.2 b (om h.1)).t (h.2 b a f)⟩
def Good(L:List Wd):Prop:=0<L.length/\L.length<=16385/\(L.getD (L.length-1) ⟨0,(0,0),0,0⟩).k=0/\∀w∈L,w.k<5/\w.n<18446744073709551616/\w.a<=16384
structure PA (U:HN) (pb:Nat) (y:AV) (L:List Wd) (d:Nat) (p:PS):Prop where
 D:U.f pb=LL [y,II p.k,II p.e,II p.b,II d,II p.p,II p.x]
 I:pb<U.h
 hy:aK 4 U y (L.map Wd.cells)
 hp:¬ar y pb
 g:Good L
 k:p.k<L.length
 e:p.e<8
 b:p.b<=16384
 q:p.p<18446744073709551616
 n:p.x<18446744073709551616
def PA.ext{U:HN}{pb:Nat}{y:AV}{L:List Wd}{d:Nat}{p:PS}(h:PA U pb y L d p)(x:ax pb U e)(a:e.f pb=U.f pb):PA e pb y L d p:=
 ⟨a.t h.D,by have:=x.1;have:=h.I;omega,aK.aR (F:=λb=>b≠pb) h.hy (λb a c=>h.hp J) (λb a c=>x.2 b c a) x.1,h.hp,h.g,h.k,h.e,h.b,h.q,h.n⟩
def PA.put{U c:HN}{pb:Nat}{y:AV}{L:List Wd}{d g:Nat}{p a:PS}(h:PA U pb y L d p)(x:ax pb U c)
  (f:c.f pb=LL [y,a.k,a.e,a.b,g,a.p,a.x])
  (k:a.k<L.length) (e:a.e<8) (b:a.b<=16384) (q:a.p<18446744073709551616) (n:a.x<18446744073709551616):PA c pb y L g a:=
 ⟨f,by have:=x.1;have:=h.I;omega,aK.aR (F:=λb=>b≠pb) h.hy (λb f e=>h.hp J) (λb f i=>x.2 b i f) x.1,h.hp,h.g,k,e,b,q,n⟩
def ajN{L:List Wd}{p:PS}(h:p.k<L.length):wd L p∈L:=by
 unfold wd;grind
def ND{L:List Wd}{p:PS}(h:p.k<L.length):L[p.k]=wd L p:=by
 unfold wd;grind
def Ae{L:List Wd}{p:PS}(g:Good L)(h:p.k<L.length)(a:(wd L p).k≠0):p.k+1<L.length:=by
 rcases Nat.lt_or_ge (p.k+1) L.length with h1|h1
 .exact h1
 .refine absurd ?_ a
  have:p.k=L.length-1:=Y
  unfold wd;rw[this];exact g.2.2.1
def qo{L:List Wd}{s:S}{p:PS}(h:aN L s p=true):p.e=0/\((wd L p).k=2\/(wd L p).k=4)/\(wd L p).t=s:=eL h
section
variable {U:HN}{pb:Nat}{y:AV}{L:List Wd}{d:Nat}{p:PS}
def PA.row(h:PA U pb y L d p):∃b a e g c,y=.a b a L.length e/\U.f b=.E g c/\b<U.h/\b≠pb/\a+p.k*4+4<=c.length/\(c.drop (a+p.k*4)).take 4=(wd L p).cells:=by
 let⟨b,a,e,g,c,f,i,j,k,l⟩:=aK.at h.hy (i:=p.k) (by simpa using h.k);rw[aC] at f;refine⟨b,a,e,g,c,f,i,j,λe=>h.hp (by rw[f,e];rfl),k,?_⟩;rw[l,kM,ND h.k]
def PA.fresh(h:PA U pb y L d p){c:Nat}(a:U.h<=c):¬ar y c:=by
 obtain⟨b,off,cap,a,row,rfl,_,a,_⟩:=h.row;intro e
 have:b=c:=e
 omega
def PA.fS(h:PA U pb y L d p)(x:ai U.h U e):PA e pb y L d p:=h.ext ((ax.refl pb U).of x) (x.2 pb h.I)
def PA.X{z:BN}(h:PA U pb y L d p):PA (U.X z) pb y L d p:=h.fS (.X Y)
def PA.dh{c:Nat}{z:BN}(h:PA U pb y L d p)(a:c≠pb)(f:¬ar y c):PA (U.put c z) pb y L d p:=
 ⟨(by show(if pb=c then _ else _)=_;rw[ac (λe=>a e.s)];exact h.D),h.I,aK.aR (F:=λb=>b≠c) h.hy (λb a e=>f (e▸a)) (λb a _=>by show(if b=c then _ else _)=_;grind) (ak _),h.hp,h.g,h.k,h.e,h.b,h.q,h.n⟩
def PA.zr{a:Nat}(h:PA U pb y L d p):PA (U.put pb (LL [y,p.k,p.e,p.b,a,p.p,p.x])) pb y L a p:=h.put (ax.refl pb U).put (ae rfl) h.k h.e h.b h.q h.n
end
end
variable {k:Nat}
section
abbrev By:=L UInt8
def sS(l:By):S:=(N l,aY l)
def xq(c:UInt8):Bool:=de (c.toNat=32\/c.toNat=9\/c.toNat=10\/c.toNat=13)
def wN(c:UInt8):Bool:=de (97<=c.toNat/\c.toNat<=122)
def jD(c:UInt8):Bool:=de (48<=c.toNat/\c.toNat<=57)
def mS(c:UInt8):Bool:=wN c||jD c||de (c.toNat=95)
def qx(c:UInt8):Bool:=de (c.toNat≠10)
def fP(a:UInt8->Bool):By->Nat
 |[]=>0
 |c::r=>if a c then fP a r+1 else 0
def ve:L S:=[uo,tc,bR,pr,D0,cX,fm,uq,uk,fB,gS,gV,gX,gA,jK,MH,MG,eH,dk,bB,bD]
def yO(s:S):Bool:=ve.any λx=>decide (x=s)
def pB:Nat->By->Nat
 |v,[]=>v
 |v,c::r=>pB (10*v+(c.toNat-48)) r
def kZ:L S:=[gU,gT,il,jJ]
def sU:L Nat:=[40,41,58,59,44,61,43,45,42,47,60,62]
def ur:By->Nat
 |[]=>0
 |[c]=>if sU.any λx=>decide (x=c.toNat) then 1 else 0
 |c::d::_=>if kZ.any λx=>decide (x=sS [c,d]) then 2 else if sU.any λx=>decide (x=c.toNat) then 1 else 0
def qy(s:By):Bool:=de (¬(1<N s/\s.head?=some 48)/\N s<=19/\pB 0 s<9223372036854775808)
def nf(r:By):Option (Nat×Nat×Nat):=match r with
 |[]=>none
 |c::_=>
  if wN c then(if fP mS r<=24 then some (if yO (sS (r.take (fP mS r))) then 2 else 1,fP mS r,0) else none)
  else if jD c then(if qy (r.take (fP jD r)) then some (3,fP jD r,pB 0 (r.take (fP jD r))) else none)
  else if ur r=0 then none else some (4,ur r,0)
def ww(a:Nat):Wd:=⟨0,(0,0),0,a⟩
def Bk(c:UInt8)(r:By):Bool:=de (c.toNat=45/\(r.head?.map UInt8.toNat)=some 45)
def gQ:Nat->Nat->By->L Wd->L Wd×Nat×Nat
 |0,a,_,l=>(l++[ww a],0,0)
 |_+1,a,[],l=>(l++[ww a],0,0)
 |f+1,a,c::r,l=>
  if xq c then gQ f (a+1) r l
  else if Bk c r then gQ f (a+fP qx (c::r)) ((c::r).drop (fP qx (c::r))) l
  else match nf (c::r) with
   |none=>([],7,a)
   |some (k,n,v)=>gQ f (a+n) ((c::r).drop n) (l++[⟨k,sS ((c::r).take n),v,a⟩])
def ix(t:By):L Wd×Nat×Nat:=if 16384<N t then([],2,N t) else gQ (N t) 0 t []
def ch(t:By):L Nd×Nat×Nat:=if(ix t).2.1=0 then tn (ix t).1 else([],(ix t).2)
def Bq(a:UInt8->Bool):∀r:By,fP a r<=N r
 |[]=>ak _
 |c::r=>by
  unfold fP;split
  .have:=Bq a r
   grind
  omega
def HO{a:UInt8->Bool}{c:UInt8}{r:By}(h:a c=true):0<fP a (c::r):=by
 unfold fP;grind
def Ym:∀r:By,ur r<=N r
 |[]=>ak _
 |[c]=>by
  show(if sU.any (λx=>decide (x=c.toNat)) then 1 else 0)<=1
  grind
 |c::d::r=>by
  show(if kZ.any (λx=>decide (x=sS [c,d])) then 2 else if sU.any (λx=>decide (x=c.toNat)) then 1 else 0)<=N r+1+1
  grind
def Eg{r:By}{n v:Nat}(h:nf r=some (k,n,v)):0<n/\n<=N r/\k<5/\k≠0/\v<9223372036854775808:=by
 unfold nf at h;split at h
 .cases h
 .rename_i c d;split at h
  .rename_i a;split at h
   .cases h;refine⟨HO (by simp[mS,a]),Bq _ _,?_,?_,Y⟩<;>split<;>omega
   .cases h
  .split at h
   .rename_i a;split at h
    .rename_i b;cases h;exact⟨HO a,Bq _ _,Y,Y,(eL b).2.2⟩
    .cases h
   .split at h
    .cases h
    .cases h;exact⟨Y,Ym _,Y,Y,Y⟩
def Fv:∀(f a:Nat) (r:By) (l:L Wd),N r<=f->a+N r<=16384->N l<=a->(∀w∈l,w.k<5/\w.n<18446744073709551616/\w.a<=16384)->(gQ f a r l).2.1=0->Good (gQ f a r l).1
 |f,a,[],l,_,d,j,g,_=>by
  have e:gQ f a [] l=(l++[ww a],0,0):=by cases f<;>rfl
  rw[e];simp only[hN] at d;refine⟨by simp,J,?_,λw hw=>?_⟩
  .rw[cA];simp[ww]
  .rcases bA.1 hw with hw|hw
   .grind
   .rw[dM.1 hw];exact⟨by show 0<5;omega,by show 0<18446744073709551616;omega,A⟩
 |0,a,c::r,l,i,_,_,_,_=>J
 |f+1,a,c::r,l,i,d,j,g,b=>by
  simp only[bt] at i d;unfold gQ at b|-;by_cases hw:xq c=true
  .rw[ae hw] at b|-;exact Fv f _ r l Y Y Y g b
  rw[ac hw] at b|-;by_cases a:Bk c r=true
  .rw[ae a] at b|-;have d:qx c=true:=by
    have:=(eL a).1
    exact aB Y
   have m:=HO (a:=qx) (r:=r) d;have h:=Bq qx (c::r);simp only[bt] at h;exact Fv f _ _ l J J Y g b
  rw[ac a] at b|-;cases e:nf (c::r) with
  |none=>
   grind
  |some t=>
   let⟨k,n,v⟩:=t;rw[e] at b;let⟨m,h,_,_,a⟩:=Eg e;simp only[bt] at h;refine Fv f _ _ _ J J J (λw hw=>?_) b;grind
def Jz{t:By}(h:(ix t).2.1=0):Good (ix t).1:=by
 unfold ix at h|-;split at h
 .cases h
 .rename_i a;rw[ac a];exact Fv _ _ _ _ Y Y (ak _) J h
end
end
end Go.Proofs.YtehahhggpdhieaaGreatDoor
