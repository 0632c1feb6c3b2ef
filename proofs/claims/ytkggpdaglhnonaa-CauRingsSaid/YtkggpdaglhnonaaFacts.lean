/- What is proved: the program's types, as the calculus asks them; that its functions may be walked. Conditions: as each theorem says. -/
import Derived.Test.YtkggpdaglhnonaaWN
import Derived.KernelRfl
import Derived.Test.YtkggpdaglhnonaaProg
set_option linter.unusedVariables false
set_option linter.unusedSimpArgs false
set_option linter.unusedSectionVars false
namespace Go.Proofs.Ytkggpdaglhnonaa
open Go.Eng
set_option autoImplicit false
set_option maxRecDepth 100000
@[go_sem] theorem td_2:tdOf Try.prog 2 = (.int .i64):=by kernel_rfl
@[go_sem] theorem ty_2:tyOf Try.prog 2 = some ((1,(8,false))):=by kernel_rfl
@[go_sem] theorem td_3:tdOf Try.prog 3 = (.int .i64):=by kernel_rfl
@[go_sem] theorem ty_3:tyOf Try.prog 3 = some ((1,(8,false))):=by kernel_rfl
@[go_sem] theorem ty_4:tyOf Try.prog 4 = some ((1,(1,false))):=by kernel_rfl
@[go_sem] theorem z_4:zeroT Try.prog 4 = some ((.bool false)):=by kernel_rfl
@[go_sem] theorem td_5:tdOf Try.prog 5 = (.int .u8):=by kernel_rfl
@[go_sem] theorem z_5:zeroT Try.prog 5 = some ((.int .u8 0)):=by kernel_rfl
@[go_sem] theorem td_9:tdOf Try.prog 9 = .str:=by kernel_rfl
@[go_sem] theorem ty_9:tyOf Try.prog 9 = some ((1,(16,false))):=by kernel_rfl
@[go_sem] theorem z_9:zeroT Try.prog 9 = some ((.str 0 0)):=by kernel_rfl
@[go_sem] theorem ty_24:tyOf Try.prog 24 = some ((1,(8,false))):=by kernel_rfl
@[go_sem] theorem td_26:tdOf Try.prog 26 = (.struct [⟨false,24,0,1,false⟩,⟨false,3,1,1,false⟩]):=by kernel_rfl
@[go_sem] theorem ty_26:tyOf Try.prog 26 = some ((2,(16,true))):=by kernel_rfl
@[go_sem] theorem z_26:zeroT Try.prog 26 = some ((.agg [(.int .i64 0),(.int .i64 0)])):=by kernel_rfl
@[go_sem] theorem td_28:tdOf Try.prog 28 = (.slice 5 1 1):=by kernel_rfl
@[go_sem] theorem td_30:tdOf Try.prog 30 = (.slice 45 6 120):=by kernel_rfl
@[go_sem] theorem td_33:tdOf Try.prog 33 = (.struct [⟨false,24,0,1,false⟩,⟨false,3,1,1,false⟩]):=by kernel_rfl
@[go_sem] theorem ty_33:tyOf Try.prog 33 = some ((2,(16,true))):=by kernel_rfl
@[go_sem] theorem z_33:zeroT Try.prog 33 = some ((.agg [(.int .i64 0),(.int .i64 0)])):=by kernel_rfl
@[go_sem] theorem td_35:tdOf Try.prog 35 = (.slice 52 6 120):=by kernel_rfl
@[go_sem] theorem td_41:tdOf Try.prog 41 = (.slice 54 5 56):=by kernel_rfl
@[go_sem] theorem ty_41:tyOf Try.prog 41 = some ((1,(24,false))):=by kernel_rfl
@[go_sem] theorem td_43:tdOf Try.prog 43 = (.slice 70 7 96):=by kernel_rfl
@[go_sem] theorem ty_43:tyOf Try.prog 43 = some ((1,(24,false))):=by kernel_rfl
@[go_sem] theorem td_45:tdOf Try.prog 45 = (.struct [⟨false,9,0,1,false⟩,⟨false,41,1,1,false⟩,⟨false,41,2,1,false⟩,⟨false,41,3,1,false⟩,⟨false,43,4,1,false⟩,⟨false,3,5,1,false⟩]):=by kernel_rfl
@[go_sem] theorem ty_45:tyOf Try.prog 45 = some ((6,(120,true))):=by kernel_rfl
@[go_sem] theorem z_45:zeroT Try.prog 45 = some ((.agg [(.str 0 0),.nilslice,.nilslice,.nilslice,.nilslice,(.int .i64 0)])):=by kernel_rfl
@[go_sem] theorem td_49:tdOf Try.prog 49 = (.slice 91 5 56):=by kernel_rfl
@[go_sem] theorem ty_49:tyOf Try.prog 49 = some ((1,(24,false))):=by kernel_rfl
@[go_sem] theorem z_49:zeroT Try.prog 49 = some (.nilslice):=by kernel_rfl
@[go_sem] theorem td_50:tdOf Try.prog 50 = (.slice 63 7 96):=by kernel_rfl
@[go_sem] theorem ty_50:tyOf Try.prog 50 = some ((1,(24,false))):=by kernel_rfl
@[go_sem] theorem td_52:tdOf Try.prog 52 = (.struct [⟨false,9,0,1,false⟩,⟨false,49,1,1,false⟩,⟨false,49,2,1,false⟩,⟨false,49,3,1,false⟩,⟨false,50,4,1,false⟩,⟨false,3,5,1,false⟩]):=by kernel_rfl
@[go_sem] theorem ty_52:tyOf Try.prog 52 = some ((6,(120,true))):=by kernel_rfl
@[go_sem] theorem z_52:zeroT Try.prog 52 = some ((.agg [(.str 0 0),.nilslice,.nilslice,.nilslice,.nilslice,(.int .i64 0)])):=by kernel_rfl
@[go_sem] theorem td_54:tdOf Try.prog 54 = (.struct [⟨false,9,0,1,false⟩,⟨false,3,1,1,false⟩,⟨false,9,2,1,false⟩,⟨false,4,3,1,false⟩,⟨false,3,4,1,false⟩]):=by kernel_rfl
@[go_sem] theorem ty_54:tyOf Try.prog 54 = some ((5,(56,true))):=by kernel_rfl
@[go_sem] theorem z_54:zeroT Try.prog 54 = some ((.agg [(.str 0 0),(.int .i64 0),(.str 0 0),(.bool false),(.int .i64 0)])):=by kernel_rfl
@[go_sem] theorem td_59:tdOf Try.prog 59 = (.slice 61 5 72):=by kernel_rfl
@[go_sem] theorem ty_59:tyOf Try.prog 59 = some ((1,(24,false))):=by kernel_rfl
@[go_sem] theorem td_61:tdOf Try.prog 61 = (.struct [⟨false,9,0,1,false⟩,⟨false,9,1,1,false⟩,⟨false,2,2,1,false⟩,⟨false,3,3,1,false⟩,⟨false,59,4,1,false⟩]):=by kernel_rfl
@[go_sem] theorem ty_61:tyOf Try.prog 61 = some ((5,(72,true))):=by kernel_rfl
@[go_sem] theorem z_61:zeroT Try.prog 61 = some ((.agg [(.str 0 0),(.str 0 0),(.int .i64 0),(.int .i64 0),.nilslice])):=by kernel_rfl
@[go_sem] theorem td_63:tdOf Try.prog 63 = (.struct [⟨false,9,0,1,false⟩,⟨false,61,1,5,true⟩,⟨false,3,6,1,false⟩]):=by kernel_rfl
@[go_sem] theorem ty_63:tyOf Try.prog 63 = some ((7,(96,true))):=by kernel_rfl
@[go_sem] theorem z_63:zeroT Try.prog 63 = some ((.agg [(.str 0 0),(.str 0 0),(.str 0 0),(.int .i64 0),(.int .i64 0),.nilslice,(.int .i64 0)])):=by kernel_rfl
@[go_sem] theorem td_66:tdOf Try.prog 66 = (.slice 68 5 72):=by kernel_rfl
@[go_sem] theorem ty_66:tyOf Try.prog 66 = some ((1,(24,false))):=by kernel_rfl
@[go_sem] theorem td_68:tdOf Try.prog 68 = (.struct [⟨false,9,0,1,false⟩,⟨false,9,1,1,false⟩,⟨false,2,2,1,false⟩,⟨false,3,3,1,false⟩,⟨false,66,4,1,false⟩]):=by kernel_rfl
@[go_sem] theorem ty_68:tyOf Try.prog 68 = some ((5,(72,true))):=by kernel_rfl
@[go_sem] theorem z_68:zeroT Try.prog 68 = some ((.agg [(.str 0 0),(.str 0 0),(.int .i64 0),(.int .i64 0),.nilslice])):=by kernel_rfl
@[go_sem] theorem td_70:tdOf Try.prog 70 = (.struct [⟨false,9,0,1,false⟩,⟨false,68,1,5,true⟩,⟨false,3,6,1,false⟩]):=by kernel_rfl
@[go_sem] theorem ty_70:tyOf Try.prog 70 = some ((7,(96,true))):=by kernel_rfl
@[go_sem] theorem z_70:zeroT Try.prog 70 = some ((.agg [(.str 0 0),(.str 0 0),(.str 0 0),(.int .i64 0),(.int .i64 0),.nilslice,(.int .i64 0)])):=by kernel_rfl
@[go_sem] theorem td_76:tdOf Try.prog 76 = (.slice 9 1 16):=by kernel_rfl
@[go_sem] theorem ty_76:tyOf Try.prog 76 = some ((1,(24,false))):=by kernel_rfl
@[go_sem] theorem z_76:zeroT Try.prog 76 = some (.nilslice):=by kernel_rfl
@[go_sem] theorem td_91:tdOf Try.prog 91 = (.struct [⟨false,9,0,1,false⟩,⟨false,78,1,1,false⟩,⟨false,9,2,1,false⟩,⟨false,4,3,1,false⟩,⟨false,3,4,1,false⟩]):=by kernel_rfl
@[go_sem] theorem ty_91:tyOf Try.prog 91 = some ((5,(56,true))):=by kernel_rfl
@[go_sem] theorem z_91:zeroT Try.prog 91 = some ((.agg [(.str 0 0),(.int .i64 0),(.str 0 0),(.bool false),(.int .i64 0)])):=by kernel_rfl
@[go_sem] theorem td_98:tdOf Try.prog 98 = (.slice 105 4 40):=by kernel_rfl
@[go_sem] theorem ty_98:tyOf Try.prog 98 = some ((1,(24,false))):=by kernel_rfl
@[go_sem] theorem td_103:tdOf Try.prog 103 = (.struct [⟨false,98,0,1,false⟩,⟨false,3,1,1,false⟩,⟨false,26,2,2,true⟩,⟨false,3,4,1,false⟩,⟨false,3,5,1,false⟩,⟨false,3,6,1,false⟩]):=by kernel_rfl
@[go_sem] theorem z_103:zeroT Try.prog 103 = some ((.agg [.nilslice,(.int .i64 0),(.int .i64 0),(.int .i64 0),(.int .i64 0),(.int .i64 0),(.int .i64 0)])):=by kernel_rfl
@[go_sem] theorem td_105:tdOf Try.prog 105 = (.struct [⟨false,3,0,1,false⟩,⟨false,9,1,1,false⟩,⟨false,2,2,1,false⟩,⟨false,3,3,1,false⟩]):=by kernel_rfl
@[go_sem] theorem ty_105:tyOf Try.prog 105 = some ((4,(40,true))):=by kernel_rfl
@[go_sem] theorem z_105:zeroT Try.prog 105 = some ((.agg [(.int .i64 0),(.str 0 0),(.int .i64 0),(.int .i64 0)])):=by kernel_rfl
@[go_sem] theorem td_110:tdOf Try.prog 110 = (.map 9 4):=by kernel_rfl
@[go_sem] theorem ty_110:tyOf Try.prog 110 = some ((1,(8,false))):=by kernel_rfl
@[go_sem] theorem z_110:zeroT Try.prog 110 = some (.nilmap):=by kernel_rfl
@[go_sem] theorem ty_143:tyOf Try.prog 143 = some ((1,(8,false))):=by kernel_rfl
@[go_sem] theorem z_143:zeroT Try.prog 143 = some (.nilptr):=by kernel_rfl
@[go_sem] theorem td_146:tdOf Try.prog 146 = (.map 9 76):=by kernel_rfl
@[go_sem] theorem ty_146:tyOf Try.prog 146 = some ((1,(8,false))):=by kernel_rfl
@[go_sem] theorem td_148:tdOf Try.prog 148 = (.struct [⟨false,76,0,1,false⟩,⟨false,146,1,1,false⟩]):=by kernel_rfl
@[go_sem] theorem z_148:zeroT Try.prog 148 = some ((.agg [.nilslice,.nilmap])):=by kernel_rfl
@[go_sem] theorem ty_152:tyOf Try.prog 152 = some ((1,(8,false))):=by kernel_rfl
@[go_sem] theorem z_152:zeroT Try.prog 152 = some (.nilptr):=by kernel_rfl
@[go_sem] theorem td_154:tdOf Try.prog 154 = (.struct [⟨false,110,0,1,false⟩]):=by kernel_rfl
@[go_sem] theorem z_154:zeroT Try.prog 154 = some ((.agg [.nilmap])):=by kernel_rfl
@[go_sem] theorem td_191:tdOf Try.prog 191 = (.int .u64):=by kernel_rfl
@[go_sem] theorem td_200:tdOf Try.prog 200 = (.slice 49 1 24):=by kernel_rfl
@[go_sem] theorem td_210:tdOf Try.prog 210 = (.slice 76 1 24):=by kernel_rfl
def pl3:Plans:=fun i=>match i with | _=>[]
def pl18:Plans:=fun i=>match i with | 27=>[.pure,.pure,.pure,.pure,.pure,.pure,.pure,.pure,.pure,.pure,.pure,.pure,.pure,.pure,.alloc,.pure,.pure,.pure] | _=>[]
@[go_sem] theorem rs18:Try.f18.results.toList = [(.tmp 6)]:=rfl
theorem ok18:fnOk Try.prog pl18 Try.f18 = true:=by kernel_rfl
def pl22:Plans:=fun i=>match i with | 3=>[.pure,.pure,.eff] | 12=>[.pure,.pure,.pure,.pure,.pure,.eff] | _=>[]
@[go_sem] theorem rs22:Try.f22.results.toList = [(.tmp 2),(.cell 3 26)]:=rfl
theorem ok22:fnOk Try.prog pl22 Try.f22 = true:=by kernel_rfl
def pl24:Plans:=fun i=>match i with | 5=>[.pure,.pure,.pure,.pure,(.read 0 3),.pure,.pure,.pure,.pure,.pure,.eff,.pure,.pure,.pure,.pure,(.read 0 1),.eff,.pure,.pure,.pure,.pure,(.read 0 2),.eff,.pure,.pure,.pure,.pure,(.read 0 3),.pure,.alloc,.eff] | 9=>[.pure,(.read 0 1),.pure,.pure,.pure,.pure,(.read 0 1),.pure,.pure,.pure,(.read 0 1),.pure,.pure,.pure,.pure,.pure,.pure,.pure,.pure,.pure,.eff,.pure,.pure,.pure,.pure,(.read 0 1),.pure,.pure,.pure,(.read 0 1),.pure,.alloc,.eff,.pure,.eff] | _=>[]
@[go_sem] theorem rs24:Try.f24.results.toList = [(.tmp 2)]:=rfl
theorem ok24:fnOk Try.prog pl24 Try.f24 = true:=by kernel_rfl
def pl32:Plans:=fun i=>match i with | 6=>[.pure,.pure,.pure,.pure,.pure,.pure,.pure,.pure,.pure,.pure,.pure,.pure,.pure,.pure,.pure,.pure,.pure,.pure,.pure,.pure,.pure,.pure,.pure,.pure] | _=>[]
def pl35:Plans:=fun i=>match i with | 5=>[.pure,.pure,.eff,.pure,(.read 0 1),.pure,.pure,.pure] | _=>[]
def pl40:Plans:=fun i=>match i with | 5=>[.pure,(.read 0 1),.pure,.pure,.pure,.pure,.pure,.eff,.alloc,.eff,.pure,.eff] | _=>[]
@[go_sem] theorem rs40:Try.f40.results.toList = [(.cell 2 61)]:=rfl
theorem ok40:fnOk Try.prog pl40 Try.f40 = true:=by kernel_rfl
def pl48:Plans:=fun i=>match i with | 9=>[.pure,.pure,.pure,.pure,.pure,.pure,.pure,.pure,.eff] | _=>[]
@[go_sem] theorem rs48:Try.f48.results.toList = [(.tmp 2),(.tmp 3)]:=rfl
theorem ok48:fnOk Try.prog pl48 Try.f48 = true:=by kernel_rfl
def pl49:Plans:=fun i=>match i with | _=>[]
@[go_sem] theorem rs49:Try.f49.results.toList = [(.tmp 4)]:=rfl
theorem ok49:fnOk Try.prog pl49 Try.f49 = true:=by kernel_rfl
def pl50:Plans:=fun i=>match i with | _=>[]
@[go_sem] theorem rs50:Try.f50.results.toList = [(.cell 2 33)]:=rfl
theorem ok50:fnOk Try.prog pl50 Try.f50 = true:=by kernel_rfl
def pl51:Plans:=fun i=>match i with | _=>[]
@[go_sem] theorem rs51:Try.f51.results.toList = [(.cell 4 91),(.tmp 5)]:=rfl
theorem ok51:fnOk Try.prog pl51 Try.f51 = true:=by kernel_rfl
def pl52:Plans:=fun i=>match i with | _=>[]
@[go_sem] theorem rs52:Try.f52.results.toList = [(.cell 4 63),(.tmp 5)]:=rfl
theorem ok52:fnOk Try.prog pl52 Try.f52 = true:=by kernel_rfl
def pl55:Plans:=fun i=>match i with | _=>[]
@[go_sem] theorem rs55:Try.f55.results.toList = [(.tmp 2),(.cell 3 26)]:=rfl
theorem ok55:fnOk Try.prog pl55 Try.f55 = true:=by kernel_rfl
def pl56:Plans:=fun i=>match i with | 1=>[.pure,.pure,.pure,.pure,.pure,.pure,.pure,.pure,.pure,.pure,.eff] | _=>[]
@[go_sem] theorem rs56:Try.f56.results.toList = [(.cell 2 105)]:=rfl
theorem ok56:fnOk Try.prog pl56 Try.f56 = true:=by kernel_rfl
def pl57:Plans:=fun i=>match i with | _=>[]
@[go_sem] theorem rs57:Try.f57.results.toList = []:=rfl
theorem ok57:fnOk Try.prog pl57 Try.f57 = true:=by kernel_rfl
def pl58:Plans:=fun i=>match i with | _=>[]
@[go_sem] theorem rs58:Try.f58.results.toList = [(.cell 2 45)]:=rfl
theorem ok58:fnOk Try.prog pl58 Try.f58 = true:=by kernel_rfl
def pl60:Plans:=fun i=>match i with | 5=>[.pure,.pure,.pure,.pure,.pure,.pure,.pure,.pure,.pure,.pure,.pure,.pure,.pure,.pure,.pure,.pure,.pure,.pure,.pure,.pure,.pure,.pure,.pure,.pure,.pure,.pure,.pure,.alloc,.eff,.pure] | _=>[]
@[go_sem] theorem rs60:Try.f60.results.toList = [(.tmp 2)]:=rfl
theorem ok60:fnOk Try.prog pl60 Try.f60 = true:=by kernel_rfl
def pl76:Plans:=fun i=>match i with | 5=>[.pure,.pure,.pure,(.read 0 1),.pure,.pure,.pure,.eff,.eff] | _=>[]
@[go_sem] theorem rs76:Try.f76.results.toList = [(.tmp 2)]:=rfl
theorem ok76:fnOk Try.prog pl76 Try.f76 = true:=by kernel_rfl
def pl77:Plans:=fun i=>match i with | _=>[]
@[go_sem] theorem rs77:Try.f77.results.toList = [(.tmp 4)]:=rfl
theorem ok77:fnOk Try.prog pl77 Try.f77 = true:=by kernel_rfl
def pl78:Plans:=fun i=>match i with | _=>[]
@[go_sem] theorem rs78:Try.f78.results.toList = [(.tmp 4)]:=rfl
theorem ok78:fnOk Try.prog pl78 Try.f78 = true:=by kernel_rfl
def pl79:Plans:=fun i=>match i with | _=>[]
@[go_sem] theorem rs79:Try.f79.results.toList = [(.tmp 3)]:=rfl
theorem ok79:fnOk Try.prog pl79 Try.f79 = true:=by kernel_rfl
def pl80:Plans:=fun i=>match i with | _=>[]
@[go_sem] theorem rs80:Try.f80.results.toList = [(.tmp 4)]:=rfl
theorem ok80:fnOk Try.prog pl80 Try.f80 = true:=by kernel_rfl
def pl81:Plans:=fun i=>match i with | _=>[]
@[go_sem] theorem rs81:Try.f81.results.toList = [(.tmp 2)]:=rfl
theorem ok81:fnOk Try.prog pl81 Try.f81 = true:=by kernel_rfl
def pl82:Plans:=fun i=>match i with | _=>[]
@[go_sem] theorem rs82:Try.f82.results.toList = [(.tmp 4)]:=rfl
theorem ok82:fnOk Try.prog pl82 Try.f82 = true:=by kernel_rfl
def pl83:Plans:=fun i=>match i with | 6=>[.pure,.pure,.pure,.pure,.pure,.pure,.eff] | _=>[]
@[go_sem] theorem rs83:Try.f83.results.toList = []:=rfl
theorem ok83:fnOk Try.prog pl83 Try.f83 = true:=by kernel_rfl
def pl84:Plans:=fun i=>match i with | 5=>[.pure,.pure,.pure,.pure,.pure,.pure,.eff] | _=>[]
@[go_sem] theorem rs84:Try.f84.results.toList = []:=rfl
theorem ok84:fnOk Try.prog pl84 Try.f84 = true:=by kernel_rfl
def pl85:Plans:=fun i=>match i with | _=>[]
@[go_sem] theorem rs85:Try.f85.results.toList = [(.tmp 4)]:=rfl
theorem ok85:fnOk Try.prog pl85 Try.f85 = true:=by kernel_rfl
def pl86:Plans:=fun i=>match i with | _=>[]
@[go_sem] theorem rs86:Try.f86.results.toList = [(.tmp 3)]:=rfl
theorem ok86:fnOk Try.prog pl86 Try.f86 = true:=by kernel_rfl
def pl87:Plans:=fun i=>match i with | _=>[]
@[go_sem] theorem rs87:Try.f87.results.toList = [(.tmp 4)]:=rfl
theorem ok87:fnOk Try.prog pl87 Try.f87 = true:=by kernel_rfl
def pl88:Plans:=fun i=>match i with | _=>[]
@[go_sem] theorem rs88:Try.f88.results.toList = [(.tmp 2)]:=rfl
theorem ok88:fnOk Try.prog pl88 Try.f88 = true:=by kernel_rfl
def pl89:Plans:=fun i=>match i with | _=>[]
@[go_sem] theorem rs89:Try.f89.results.toList = [(.tmp 4)]:=rfl
theorem ok89:fnOk Try.prog pl89 Try.f89 = true:=by kernel_rfl
def pl90:Plans:=fun i=>match i with | _=>[]
@[go_sem] theorem rs90:Try.f90.results.toList = [(.tmp 3)]:=rfl
theorem ok90:fnOk Try.prog pl90 Try.f90 = true:=by kernel_rfl
def pl91:Plans:=fun i=>match i with | _=>[]
@[go_sem] theorem rs91:Try.f91.results.toList = [(.tmp 4)]:=rfl
theorem ok91:fnOk Try.prog pl91 Try.f91 = true:=by kernel_rfl
def pl92:Plans:=fun i=>match i with | _=>[]
@[go_sem] theorem rs92:Try.f92.results.toList = [(.tmp 3)]:=rfl
theorem ok92:fnOk Try.prog pl92 Try.f92 = true:=by kernel_rfl
def pl93:Plans:=fun i=>match i with | _=>[]
@[go_sem] theorem rs93:Try.f93.results.toList = [(.cell 2 63)]:=rfl
theorem ok93:fnOk Try.prog pl93 Try.f93 = true:=by kernel_rfl
def pl94:Plans:=fun i=>match i with | _=>[]
@[go_sem] theorem rs94:Try.f94.results.toList = [(.tmp 2)]:=rfl
theorem ok94:fnOk Try.prog pl94 Try.f94 = true:=by kernel_rfl
def pl95:Plans:=fun i=>match i with | _=>[]
@[go_sem] theorem rs95:Try.f95.results.toList = [(.tmp 2)]:=rfl
theorem ok95:fnOk Try.prog pl95 Try.f95 = true:=by kernel_rfl
def pl96:Plans:=fun i=>match i with | _=>[]
@[go_sem] theorem rs96:Try.f96.results.toList = [(.tmp 2)]:=rfl
theorem ok96:fnOk Try.prog pl96 Try.f96 = true:=by kernel_rfl
def pl97:Plans:=fun i=>match i with | _=>[]
@[go_sem] theorem rs97:Try.f97.results.toList = [(.tmp 2),(.tmp 3)]:=rfl
theorem ok97:fnOk Try.prog pl97 Try.f97 = true:=by kernel_rfl
def pl98:Plans:=fun i=>match i with | 5=>[.pure,.pure,.pure,.pure,.pure,.pure,.pure,.pure,.pure,.pure,.pure,.pure] | 11=>[.pure,.pure,.pure,.pure,.pure,.pure] | _=>[]
@[go_sem] theorem rs98:Try.f98.results.toList = [(.tmp 2)]:=rfl
theorem ok98:fnOk Try.prog pl98 Try.f98 = true:=by kernel_rfl
def pl99:Plans:=fun i=>match i with | _=>[]
@[go_sem] theorem rs99:Try.f99.results.toList = []:=rfl
theorem ok99:fnOk Try.prog pl99 Try.f99 = true:=by kernel_rfl
def pl100:Plans:=fun i=>match i with | 5=>[.pure,.pure,.pure,.pure,.pure,.pure,.pure,.pure,.pure,.pure,.pure,.pure,.pure] | _=>[]
@[go_sem] theorem rs100:Try.f100.results.toList = [(.tmp 2)]:=rfl
theorem ok100:fnOk Try.prog pl100 Try.f100 = true:=by kernel_rfl
def pl101:Plans:=fun i=>match i with | _=>[]
@[go_sem] theorem rs101:Try.f101.results.toList = [(.tmp 2)]:=rfl
theorem ok101:fnOk Try.prog pl101 Try.f101 = true:=by kernel_rfl
def pl102:Plans:=fun i=>match i with | _=>[]
@[go_sem] theorem rs102:Try.f102.results.toList = [(.tmp 4)]:=rfl
theorem ok102:fnOk Try.prog pl102 Try.f102 = true:=by kernel_rfl
def pl103:Plans:=fun i=>match i with | 14=>[.pure,.eff,.pure,.pure,.pure,.pure,.pure,.pure,.pure,.pure,.pure,.pure,.pure,.pure,.pure,.pure,.pure,.pure] | _=>[]
@[go_sem] theorem rs103:Try.f103.results.toList = [(.tmp 2)]:=rfl
theorem ok103:fnOk Try.prog pl103 Try.f103 = true:=by kernel_rfl
def pl104:Plans:=fun i=>match i with | _=>[]
@[go_sem] theorem rs104:Try.f104.results.toList = [(.cell 2 68)]:=rfl
theorem ok104:fnOk Try.prog pl104 Try.f104 = true:=by kernel_rfl
def pl119:Plans:=fun i=>match i with | _=>[]
@[go_sem] theorem rs119:Try.f119.results.toList = [(.tmp 2)]:=rfl
theorem ok119:fnOk Try.prog pl119 Try.f119 = true:=by kernel_rfl
def pl120:Plans:=fun i=>match i with | _=>[]
@[go_sem] theorem rs120:Try.f120.results.toList = [(.tmp 4)]:=rfl
theorem ok120:fnOk Try.prog pl120 Try.f120 = true:=by kernel_rfl
def pl121:Plans:=fun i=>match i with | _=>[]
@[go_sem] theorem rs121:Try.f121.results.toList = [(.tmp 2)]:=rfl
theorem ok121:fnOk Try.prog pl121 Try.f121 = true:=by kernel_rfl
def pl122:Plans:=fun i=>match i with | 5=>[.pure,(.read 0 1),.pure,.pure,.pure,.pure,.pure,.pure,.eff,.pure,.eff] | _=>[]
@[go_sem] theorem rs122:Try.f122.results.toList = [(.cell 2 61)]:=rfl
theorem ok122:fnOk Try.prog pl122 Try.f122 = true:=by kernel_rfl
def pl123:Plans:=fun i=>match i with | _=>[]
@[go_sem] theorem rs123:Try.f123.results.toList = [(.tmp 4)]:=rfl
theorem ok123:fnOk Try.prog pl123 Try.f123 = true:=by kernel_rfl
def pl124:Plans:=fun i=>match i with | _=>[]
@[go_sem] theorem rs124:Try.f124.results.toList = [(.tmp 2)]:=rfl
theorem ok124:fnOk Try.prog pl124 Try.f124 = true:=by kernel_rfl
def pl125:Plans:=fun i=>match i with | _=>[]
@[go_sem] theorem rs125:Try.f125.results.toList = [(.tmp 2)]:=rfl
theorem ok125:fnOk Try.prog pl125 Try.f125 = true:=by kernel_rfl
def pl126:Plans:=fun i=>match i with | _=>[]
@[go_sem] theorem rs126:Try.f126.results.toList = [(.cell 2 68)]:=rfl
theorem ok126:fnOk Try.prog pl126 Try.f126 = true:=by kernel_rfl
def pl137:Plans:=fun i=>match i with | _=>[]
@[go_sem] theorem rs137:Try.f137.results.toList = [(.tmp 4)]:=rfl
theorem ok137:fnOk Try.prog pl137 Try.f137 = true:=by kernel_rfl
def pl138:Plans:=fun i=>match i with | _=>[]
@[go_sem] theorem rs138:Try.f138.results.toList = [(.tmp 2)]:=rfl
theorem ok138:fnOk Try.prog pl138 Try.f138 = true:=by kernel_rfl
def pl139:Plans:=fun i=>match i with | _=>[]
@[go_sem] theorem rs139:Try.f139.results.toList = [(.cell 4 68)]:=rfl
theorem ok139:fnOk Try.prog pl139 Try.f139 = true:=by kernel_rfl
def pl140:Plans:=fun i=>match i with | _=>[]
@[go_sem] theorem rs140:Try.f140.results.toList = []:=rfl
theorem ok140:fnOk Try.prog pl140 Try.f140 = true:=by kernel_rfl
def pl149:Plans:=fun i=>match i with | _=>[]
@[go_sem] theorem rs149:Try.f149.results.toList = [(.cell 2 68)]:=rfl
theorem ok149:fnOk Try.prog pl149 Try.f149 = true:=by kernel_rfl
def pl151:Plans:=fun i=>match i with | _=>[]
@[go_sem] theorem rs151:Try.f151.results.toList = [(.cell 2 68)]:=rfl
theorem ok151:fnOk Try.prog pl151 Try.f151 = true:=by kernel_rfl
def pl152:Plans:=fun i=>match i with | _=>[]
@[go_sem] theorem rs152:Try.f152.results.toList = [(.cell 2 68)]:=rfl
theorem ok152:fnOk Try.prog pl152 Try.f152 = true:=by kernel_rfl
def pl153:Plans:=fun i=>match i with | _=>[]
@[go_sem] theorem rs153:Try.f153.results.toList = [(.cell 2 68)]:=rfl
theorem ok153:fnOk Try.prog pl153 Try.f153 = true:=by kernel_rfl
def pl154:Plans:=fun i=>match i with | _=>[]
@[go_sem] theorem rs154:Try.f154.results.toList = [(.cell 2 68)]:=rfl
theorem ok154:fnOk Try.prog pl154 Try.f154 = true:=by kernel_rfl
attribute [go_sem] pl3 pl18 pl22 pl24 pl32 pl35 pl40 pl48 pl49 pl50 pl51 pl52 pl55 pl56 pl57 pl58 pl60 pl76 pl77 pl78 pl79 pl80 pl81 pl82 pl83 pl84 pl85 pl86 pl87 pl88 pl89 pl90 pl91 pl92 pl93 pl94 pl95 pl96 pl97 pl98 pl99 pl100 pl101 pl102 pl103 pl104 pl119 pl120 pl121 pl122 pl123 pl124 pl125 pl126 pl137 pl138 pl139 pl140 pl149 pl151 pl152 pl153 pl154
end Go.Proofs.Ytkggpdaglhnonaa
