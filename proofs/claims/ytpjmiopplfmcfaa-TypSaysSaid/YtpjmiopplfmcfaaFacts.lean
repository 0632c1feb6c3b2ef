/- What is proved: the program's types, as the calculus asks them; that its functions may be walked. Conditions: as each theorem says. -/
import Derived.Test.YtpjmiopplfmcfaaWJ
import Derived.KernelRfl
import Derived.Test.YtpjmiopplfmcfaaProg
set_option linter.unusedVariables false
set_option linter.unusedSimpArgs false
set_option linter.unusedSectionVars false
namespace Go.Proofs.Ytpjmiopplfmcfaa
open Go.Eng
set_option autoImplicit false
set_option maxRecDepth 100000
@[go_sem] theorem td_2:tdOf Try.prog 2 = (.int .i64):=by kernel_rfl
@[go_sem] theorem ty_2:tyOf Try.prog 2 = some ((1,(8,false))):=by kernel_rfl
@[go_sem] theorem td_3:tdOf Try.prog 3 = (.int .i64):=by kernel_rfl
@[go_sem] theorem ty_3:tyOf Try.prog 3 = some ((1,(8,false))):=by kernel_rfl
@[go_sem] theorem z_3:zeroT Try.prog 3 = some ((.int .i64 0)):=by kernel_rfl
@[go_sem] theorem ty_4:tyOf Try.prog 4 = some ((1,(1,false))):=by kernel_rfl
@[go_sem] theorem z_4:zeroT Try.prog 4 = some ((.bool false)):=by kernel_rfl
@[go_sem] theorem td_5:tdOf Try.prog 5 = (.int .u8):=by kernel_rfl
@[go_sem] theorem td_9:tdOf Try.prog 9 = .str:=by kernel_rfl
@[go_sem] theorem ty_9:tyOf Try.prog 9 = some ((1,(16,false))):=by kernel_rfl
@[go_sem] theorem z_9:zeroT Try.prog 9 = some ((.str 0 0)):=by kernel_rfl
@[go_sem] theorem ty_24:tyOf Try.prog 24 = some ((1,(8,false))):=by kernel_rfl
@[go_sem] theorem td_26:tdOf Try.prog 26 = (.struct [⟨false,24,0,1,false⟩,⟨false,3,1,1,false⟩]):=by kernel_rfl
@[go_sem] theorem ty_26:tyOf Try.prog 26 = some ((2,(16,true))):=by kernel_rfl
@[go_sem] theorem z_26:zeroT Try.prog 26 = some ((.agg [(.int .i64 0),(.int .i64 0)])):=by kernel_rfl
@[go_sem] theorem td_30:tdOf Try.prog 30 = (.slice 45 6 120):=by kernel_rfl
@[go_sem] theorem td_33:tdOf Try.prog 33 = (.struct [⟨false,24,0,1,false⟩,⟨false,3,1,1,false⟩]):=by kernel_rfl
@[go_sem] theorem ty_33:tyOf Try.prog 33 = some ((2,(16,true))):=by kernel_rfl
@[go_sem] theorem z_33:zeroT Try.prog 33 = some ((.agg [(.int .i64 0),(.int .i64 0)])):=by kernel_rfl
@[go_sem] theorem td_35:tdOf Try.prog 35 = (.slice 52 6 120):=by kernel_rfl
@[go_sem] theorem td_41:tdOf Try.prog 41 = (.slice 54 5 56):=by kernel_rfl
@[go_sem] theorem ty_41:tyOf Try.prog 41 = some ((1,(24,false))):=by kernel_rfl
@[go_sem] theorem td_43:tdOf Try.prog 43 = (.slice 70 7 96):=by kernel_rfl
@[go_sem] theorem ty_43:tyOf Try.prog 43 = some ((1,(24,false))):=by kernel_rfl
@[go_sem] theorem td_45:tdOf Try.prog 45 = (.struct [⟨false,9,0,1,false⟩,⟨false,41,1,1,false⟩,⟨false,41,2,1,false⟩,⟨false,41,3,1,false⟩,⟨false,43,4,1,false⟩,⟨false,3,5,1,false⟩]):=by kernel_rfl
@[go_sem] theorem ty_45:tyOf Try.prog 45 = some ((6,(120,true))):=by kernel_rfl
@[go_sem] theorem z_45:zeroT Try.prog 45 = some ((.agg [(.str 0 0),.nilslice,.nilslice,.nilslice,.nilslice,(.int .i64 0)])):=by kernel_rfl
@[go_sem] theorem td_47:tdOf Try.prog 47 = (.slice 74 2 24):=by kernel_rfl
@[go_sem] theorem ty_47:tyOf Try.prog 47 = some ((1,(24,false))):=by kernel_rfl
@[go_sem] theorem z_47:zeroT Try.prog 47 = some (.nilslice):=by kernel_rfl
@[go_sem] theorem td_49:tdOf Try.prog 49 = (.slice 91 5 56):=by kernel_rfl
@[go_sem] theorem ty_49:tyOf Try.prog 49 = some ((1,(24,false))):=by kernel_rfl
@[go_sem] theorem z_49:zeroT Try.prog 49 = some (.nilslice):=by kernel_rfl
@[go_sem] theorem td_50:tdOf Try.prog 50 = (.slice 63 7 96):=by kernel_rfl
@[go_sem] theorem ty_50:tyOf Try.prog 50 = some ((1,(24,false))):=by kernel_rfl
@[go_sem] theorem td_52:tdOf Try.prog 52 = (.struct [⟨false,9,0,1,false⟩,⟨false,49,1,1,false⟩,⟨false,49,2,1,false⟩,⟨false,49,3,1,false⟩,⟨false,50,4,1,false⟩,⟨false,3,5,1,false⟩]):=by kernel_rfl
@[go_sem] theorem ty_52:tyOf Try.prog 52 = some ((6,(120,true))):=by kernel_rfl
@[go_sem] theorem z_52:zeroT Try.prog 52 = some ((.agg [(.str 0 0),.nilslice,.nilslice,.nilslice,.nilslice,(.int .i64 0)])):=by kernel_rfl
@[go_sem] theorem td_54:tdOf Try.prog 54 = (.struct [⟨false,9,0,1,false⟩,⟨false,3,1,1,false⟩,⟨false,9,2,1,false⟩,⟨false,4,3,1,false⟩,⟨false,3,4,1,false⟩]):=by kernel_rfl
@[go_sem] theorem ty_54:tyOf Try.prog 54 = some ((5,(56,true))):=by kernel_rfl
@[go_sem] theorem z_54:zeroT Try.prog 54 = some ((.agg [(.str 0 0),(.int .i64 0),(.str 0 0),(.bool false),(.int .i64 0)])):=by kernel_rfl
@[go_sem] theorem td_55:tdOf Try.prog 55 = (.slice 132 2 24):=by kernel_rfl
@[go_sem] theorem ty_55:tyOf Try.prog 55 = some ((1,(24,false))):=by kernel_rfl
@[go_sem] theorem z_55:zeroT Try.prog 55 = some (.nilslice):=by kernel_rfl
@[go_sem] theorem td_59:tdOf Try.prog 59 = (.slice 61 5 72):=by kernel_rfl
@[go_sem] theorem ty_59:tyOf Try.prog 59 = some ((1,(24,false))):=by kernel_rfl
@[go_sem] theorem td_61:tdOf Try.prog 61 = (.struct [⟨false,9,0,1,false⟩,⟨false,9,1,1,false⟩,⟨false,2,2,1,false⟩,⟨false,3,3,1,false⟩,⟨false,59,4,1,false⟩]):=by kernel_rfl
@[go_sem] theorem ty_61:tyOf Try.prog 61 = some ((5,(72,true))):=by kernel_rfl
@[go_sem] theorem z_61:zeroT Try.prog 61 = some ((.agg [(.str 0 0),(.str 0 0),(.int .i64 0),(.int .i64 0),.nilslice])):=by kernel_rfl
@[go_sem] theorem td_63:tdOf Try.prog 63 = (.struct [⟨false,9,0,1,false⟩,⟨false,61,1,5,true⟩,⟨false,3,6,1,false⟩]):=by kernel_rfl
@[go_sem] theorem ty_63:tyOf Try.prog 63 = some ((7,(96,true))):=by kernel_rfl
@[go_sem] theorem z_63:zeroT Try.prog 63 = some ((.agg [(.str 0 0),(.str 0 0),(.str 0 0),(.int .i64 0),(.int .i64 0),.nilslice,(.int .i64 0)])):=by kernel_rfl
@[go_sem] theorem td_66:tdOf Try.prog 66 = (.slice 68 5 72):=by kernel_rfl
@[go_sem] theorem ty_66:tyOf Try.prog 66 = some ((1,(24,false))):=by kernel_rfl
@[go_sem] theorem td_68:tdOf Try.prog 68 = (.struct [⟨false,9,0,1,false⟩,⟨false,9,1,1,false⟩,⟨false,2,2,1,false⟩,⟨false,3,3,1,false⟩,⟨false,66,4,1,false⟩]):=by kernel_rfl
@[go_sem] theorem ty_68:tyOf Try.prog 68 = some ((5,(72,true))):=by kernel_rfl
@[go_sem] theorem z_68:zeroT Try.prog 68 = some ((.agg [(.str 0 0),(.str 0 0),(.int .i64 0),(.int .i64 0),.nilslice])):=by kernel_rfl
@[go_sem] theorem td_70:tdOf Try.prog 70 = (.struct [⟨false,9,0,1,false⟩,⟨false,68,1,5,true⟩,⟨false,3,6,1,false⟩]):=by kernel_rfl
@[go_sem] theorem ty_70:tyOf Try.prog 70 = some ((7,(96,true))):=by kernel_rfl
@[go_sem] theorem z_70:zeroT Try.prog 70 = some ((.agg [(.str 0 0),(.str 0 0),(.str 0 0),(.int .i64 0),(.int .i64 0),.nilslice,(.int .i64 0)])):=by kernel_rfl
@[go_sem] theorem td_74:tdOf Try.prog 74 = (.struct [⟨false,9,0,1,false⟩,⟨false,4,1,1,false⟩]):=by kernel_rfl
@[go_sem] theorem ty_74:tyOf Try.prog 74 = some ((2,(24,true))):=by kernel_rfl
@[go_sem] theorem z_74:zeroT Try.prog 74 = some ((.agg [(.str 0 0),(.bool false)])):=by kernel_rfl
@[go_sem] theorem td_76:tdOf Try.prog 76 = (.slice 9 1 16):=by kernel_rfl
@[go_sem] theorem ty_76:tyOf Try.prog 76 = some ((1,(24,false))):=by kernel_rfl
@[go_sem] theorem z_76:zeroT Try.prog 76 = some (.nilslice):=by kernel_rfl
@[go_sem] theorem td_91:tdOf Try.prog 91 = (.struct [⟨false,9,0,1,false⟩,⟨false,78,1,1,false⟩,⟨false,9,2,1,false⟩,⟨false,4,3,1,false⟩,⟨false,3,4,1,false⟩]):=by kernel_rfl
@[go_sem] theorem ty_91:tyOf Try.prog 91 = some ((5,(56,true))):=by kernel_rfl
@[go_sem] theorem z_91:zeroT Try.prog 91 = some ((.agg [(.str 0 0),(.int .i64 0),(.str 0 0),(.bool false),(.int .i64 0)])):=by kernel_rfl
@[go_sem] theorem td_98:tdOf Try.prog 98 = (.slice 105 4 40):=by kernel_rfl
@[go_sem] theorem ty_98:tyOf Try.prog 98 = some ((1,(24,false))):=by kernel_rfl
@[go_sem] theorem td_103:tdOf Try.prog 103 = (.struct [⟨false,98,0,1,false⟩,⟨false,3,1,1,false⟩,⟨false,26,2,2,true⟩,⟨false,3,4,1,false⟩,⟨false,3,5,1,false⟩,⟨false,3,6,1,false⟩]):=by kernel_rfl
@[go_sem] theorem z_103:zeroT Try.prog 103 = some ((.agg [.nilslice,(.int .i64 0),(.int .i64 0),(.int .i64 0),(.int .i64 0),(.int .i64 0),(.int .i64 0)])):=by kernel_rfl
@[go_sem] theorem td_105:tdOf Try.prog 105 = (.struct [⟨false,3,0,1,false⟩,⟨false,9,1,1,false⟩,⟨false,2,2,1,false⟩,⟨false,3,3,1,false⟩]):=by kernel_rfl
@[go_sem] theorem ty_105:tyOf Try.prog 105 = some ((4,(40,true))):=by kernel_rfl
@[go_sem] theorem z_105:zeroT Try.prog 105 = some ((.agg [(.int .i64 0),(.str 0 0),(.int .i64 0),(.int .i64 0)])):=by kernel_rfl
@[go_sem] theorem td_116:tdOf Try.prog 116 = (.slice 3 1 8):=by kernel_rfl
@[go_sem] theorem ty_116:tyOf Try.prog 116 = some ((1,(24,false))):=by kernel_rfl
@[go_sem] theorem td_118:tdOf Try.prog 118 = (.struct [⟨false,52,0,6,true⟩,⟨false,116,6,1,false⟩]):=by kernel_rfl
@[go_sem] theorem z_118:zeroT Try.prog 118 = some ((.agg [(.str 0 0),.nilslice,.nilslice,.nilslice,.nilslice,(.int .i64 0),.nilslice])):=by kernel_rfl
@[go_sem] theorem td_119:tdOf Try.prog 119 = (.slice 121 8 128):=by kernel_rfl
@[go_sem] theorem ty_119:tyOf Try.prog 119 = some ((1,(24,false))):=by kernel_rfl
@[go_sem] theorem td_121:tdOf Try.prog 121 = (.struct [⟨false,61,0,5,true⟩,⟨false,47,5,1,false⟩,⟨false,119,6,1,false⟩,⟨false,4,7,1,false⟩]):=by kernel_rfl
@[go_sem] theorem ty_121:tyOf Try.prog 121 = some ((8,(128,true))):=by kernel_rfl
@[go_sem] theorem z_121:zeroT Try.prog 121 = some ((.agg [(.str 0 0),(.str 0 0),(.int .i64 0),(.int .i64 0),.nilslice,.nilslice,.nilslice,(.bool false)])):=by kernel_rfl
@[go_sem] theorem td_127:tdOf Try.prog 127 = (.struct [⟨false,26,0,2,true⟩]):=by kernel_rfl
@[go_sem] theorem z_127:zeroT Try.prog 127 = some ((.agg [(.int .i64 0),(.int .i64 0)])):=by kernel_rfl
@[go_sem] theorem td_132:tdOf Try.prog 132 = (.struct [⟨false,9,0,1,false⟩,⟨false,4,1,1,false⟩]):=by kernel_rfl
@[go_sem] theorem ty_132:tyOf Try.prog 132 = some ((2,(24,true))):=by kernel_rfl
@[go_sem] theorem z_132:zeroT Try.prog 132 = some ((.agg [(.str 0 0),(.bool false)])):=by kernel_rfl
@[go_sem] theorem td_181:tdOf Try.prog 181 = (.slice 55 1 24):=by kernel_rfl
@[go_sem] theorem td_182:tdOf Try.prog 182 = (.slice 4 1 1):=by kernel_rfl
@[go_sem] theorem td_191:tdOf Try.prog 191 = (.int .u64):=by kernel_rfl
@[go_sem] theorem td_200:tdOf Try.prog 200 = (.slice 49 1 24):=by kernel_rfl
@[go_sem] theorem td_210:tdOf Try.prog 210 = (.slice 76 1 24):=by kernel_rfl
def pl3:Plans:=fun i=>match i with | _=>[]
def pl7:Plans:=fun i=>match i with | 18=>[.pure,.pure,.pure,.pure,.pure,.pure,.pure,.pure,.pure,.eff,.pure,.pure,.pure,(.read 0 1),.pure,.pure,.pure,.pure,(.read 0 1),.eff,.eff,.pure] | 23=>[.pure,.pure,.pure,.pure,.pure,.pure,.pure,.pure,.pure,.pure,.pure,.pure,.pure,.eff,.pure,.pure,.pure,.pure,.pure,.pure,.pure] | 24=>[.pure,.pure,.pure,.pure,.pure,.pure,.pure,.pure,.pure,.pure,.pure,.pure,.pure,.eff,.pure,.pure,.pure,.pure,.pure,.pure,.pure] | _=>[]
@[go_sem] theorem rs7:Try.f7.results.toList = [(.tmp 2)]:=rfl
theorem ok7:fnOk Try.prog pl7 Try.f7 = true:=by kernel_rfl
def pl22:Plans:=fun i=>match i with | 3=>[.pure,.pure,.eff] | 12=>[.pure,.pure,.pure,.pure,.pure,.eff] | _=>[]
@[go_sem] theorem rs22:Try.f22.results.toList = [(.tmp 2),(.cell 3 26)]:=rfl
theorem ok22:fnOk Try.prog pl22 Try.f22 = true:=by kernel_rfl
def pl24:Plans:=fun i=>match i with | 5=>[.pure,.pure,.pure,.pure,(.read 0 3),.pure,.pure,.pure,.pure,.pure,.eff,.pure,.pure,.pure,.pure,(.read 0 1),.eff,.pure,.pure,.pure,.pure,(.read 0 2),.eff,.pure,.pure,.pure,.pure,(.read 0 3),.pure,.alloc,.eff] | 9=>[.pure,(.read 0 1),.pure,.pure,.pure,.pure,(.read 0 1),.pure,.pure,.pure,(.read 0 1),.pure,.pure,.pure,.pure,.pure,.pure,.pure,.pure,.pure,.eff,.pure,.pure,.pure,.pure,(.read 0 1),.pure,.pure,.pure,(.read 0 1),.pure,.alloc,.eff,.pure,.eff] | _=>[]
@[go_sem] theorem rs24:Try.f24.results.toList = [(.tmp 2)]:=rfl
theorem ok24:fnOk Try.prog pl24 Try.f24 = true:=by kernel_rfl
def pl27:Plans:=fun i=>match i with | _=>[]
@[go_sem] theorem rs27:Try.f27.results.toList = [(.tmp 4),(.tmp 5)]:=rfl
theorem ok27:fnOk Try.prog pl27 Try.f27 = true:=by kernel_rfl
def pl28:Plans:=fun i=>match i with | _=>[]
@[go_sem] theorem rs28:Try.f28.results.toList = [(.cell 2 26)]:=rfl
theorem ok28:fnOk Try.prog pl28 Try.f28 = true:=by kernel_rfl
def pl29:Plans:=fun i=>match i with | 11=>[(.read 0 1),.pure,.pure,.pure,.eff,.eff,.pure,.pure] | _=>[]
@[go_sem] theorem rs29:Try.f29.results.toList = [(.cell 2 33)]:=rfl
theorem ok29:fnOk Try.prog pl29 Try.f29 = true:=by kernel_rfl
def pl30:Plans:=fun i=>match i with | 9=>[.pure,.pure,.pure,.pure,.pure,.pure,.pure,.pure,.eff,.pure,.pure,.pure,.pure,.pure] | 10=>[.pure,.pure,.pure,.pure,.pure,.pure,.pure,.pure,.pure,.pure,.pure,.eff,.eff,.pure,.pure] | _=>[]
@[go_sem] theorem rs30:Try.f30.results.toList = [(.cell 2 26)]:=rfl
theorem ok30:fnOk Try.prog pl30 Try.f30 = true:=by kernel_rfl
def pl31:Plans:=fun i=>match i with | _=>[]
@[go_sem] theorem rs31:Try.f31.results.toList = [(.tmp 2)]:=rfl
theorem ok31:fnOk Try.prog pl31 Try.f31 = true:=by kernel_rfl
def pl32:Plans:=fun i=>match i with | 6=>[.pure,.pure,.pure,.pure,.pure,.pure,.pure,.pure,.pure,.pure,.pure,.pure,.pure,.pure,.pure,.pure,.pure,.pure,.pure,.pure,.pure,.pure,.pure,.pure] | _=>[]
@[go_sem] theorem rs32:Try.f32.results.toList = [(.tmp 4)]:=rfl
theorem ok32:fnOk Try.prog pl32 Try.f32 = true:=by kernel_rfl
def pl33:Plans:=fun i=>match i with | _=>[]
@[go_sem] theorem rs33:Try.f33.results.toList = [(.tmp 4)]:=rfl
theorem ok33:fnOk Try.prog pl33 Try.f33 = true:=by kernel_rfl
def pl34:Plans:=fun i=>match i with | _=>[]
@[go_sem] theorem rs34:Try.f34.results.toList = [(.tmp 4)]:=rfl
theorem ok34:fnOk Try.prog pl34 Try.f34 = true:=by kernel_rfl
def pl35:Plans:=fun i=>match i with | 5=>[.pure,.pure,.eff,.pure,(.read 0 1),.pure,.pure,.pure] | _=>[]
@[go_sem] theorem rs35:Try.f35.results.toList = [(.tmp 4),(.tmp 5),(.tmp 6)]:=rfl
theorem ok35:fnOk Try.prog pl35 Try.f35 = true:=by kernel_rfl
def pl36:Plans:=fun i=>match i with | _=>[]
@[go_sem] theorem rs36:Try.f36.results.toList = [(.tmp 4),(.tmp 5),(.tmp 6)]:=rfl
theorem ok36:fnOk Try.prog pl36 Try.f36 = true:=by kernel_rfl
def pl40:Plans:=fun i=>match i with | 5=>[.pure,(.read 0 1),.pure,.pure,.pure,.pure,.pure,.eff,.alloc,.eff,.pure,.eff] | _=>[]
@[go_sem] theorem rs40:Try.f40.results.toList = [(.cell 2 61)]:=rfl
theorem ok40:fnOk Try.prog pl40 Try.f40 = true:=by kernel_rfl
def pl42:Plans:=fun i=>match i with | 17=>[.pure,.pure,.pure,.pure,.pure,.pure,.pure,.eff,.pure,.pure,.pure,.alloc,.eff,.pure] | 18=>[.pure,.pure,.pure,.pure,.pure,.pure,.pure,.pure,.pure,.eff,.pure,(.read 0 1),.pure] | _=>[]
@[go_sem] theorem rs42:Try.f42.results.toList = [(.cell 2 26)]:=rfl
theorem ok42:fnOk Try.prog pl42 Try.f42 = true:=by kernel_rfl
def pl51:Plans:=fun i=>match i with | _=>[]
@[go_sem] theorem rs51:Try.f51.results.toList = [(.cell 4 91),(.tmp 5)]:=rfl
theorem ok51:fnOk Try.prog pl51 Try.f51 = true:=by kernel_rfl
def pl55:Plans:=fun i=>match i with | _=>[]
@[go_sem] theorem rs55:Try.f55.results.toList = [(.tmp 2),(.cell 3 26)]:=rfl
theorem ok55:fnOk Try.prog pl55 Try.f55 = true:=by kernel_rfl
def pl56:Plans:=fun i=>match i with | 1=>[.pure,.pure,.pure,.pure,.pure,.pure,.pure,.pure,.pure,.pure,.eff] | _=>[]
@[go_sem] theorem rs56:Try.f56.results.toList = [(.cell 2 105)]:=rfl
theorem ok56:fnOk Try.prog pl56 Try.f56 = true:=by kernel_rfl
def pl57:Plans:=fun i=>match i with | _=>[]
@[go_sem] theorem rs57:Try.f57.results.toList = []:=rfl
theorem ok57:fnOk Try.prog pl57 Try.f57 = true:=by kernel_rfl
def pl58:Plans:=fun i=>match i with | _=>[]
@[go_sem] theorem rs58:Try.f58.results.toList = [(.cell 2 45)]:=rfl
theorem ok58:fnOk Try.prog pl58 Try.f58 = true:=by kernel_rfl
def pl60:Plans:=fun i=>match i with | 5=>[.pure,.pure,.pure,.pure,.pure,.pure,.pure,.pure,.pure,.pure,.pure,.pure,.pure,.pure,.pure,.pure,.pure,.pure,.pure,.pure,.pure,.pure,.pure,.pure,.pure,.pure,.pure,.alloc,.eff,.pure] | _=>[]
@[go_sem] theorem rs60:Try.f60.results.toList = [(.tmp 2)]:=rfl
theorem ok60:fnOk Try.prog pl60 Try.f60 = true:=by kernel_rfl
def pl61:Plans:=fun i=>match i with | 6=>[.pure,.pure,.pure,.pure,.pure,.eff,.pure,.pure,.pure,.pure,.pure,.pure,.pure] | 16=>[.pure,.pure,.pure,.pure,.pure,.pure,.pure,.pure,.pure,.pure,.pure] | 18=>[.pure,.pure,.pure,.pure,.pure,.pure,.pure,.pure,.pure,.pure,.pure,.pure,.pure,.pure,.pure] | 30=>[.pure,.pure,.pure,.pure,.pure,.pure,.pure,.pure,.pure,.pure,.pure,.pure,.pure] | 33=>[.pure,.pure,.pure,.pure,.pure,.pure,.pure,.eff] | 37=>[.pure,.pure,.pure,.pure,.pure,.pure,.eff,.pure,.pure,.pure,.alloc,.eff,.pure] | _=>[]
@[go_sem] theorem rs61:Try.f61.results.toList = [(.cell 2 26)]:=rfl
theorem ok61:fnOk Try.prog pl61 Try.f61 = true:=by kernel_rfl
def pl64:Plans:=fun i=>match i with | 14=>[.pure,.pure,.pure,.pure,.pure,.pure,.pure,.alloc,.eff,.pure,.pure,.eff] | _=>[]
@[go_sem] theorem rs64:Try.f64.results.toList = [(.cell 4 121),(.tmp 5)]:=rfl
theorem ok64:fnOk Try.prog pl64 Try.f64 = true:=by kernel_rfl
def pl65:Plans:=fun i=>match i with | _=>[]
@[go_sem] theorem rs65:Try.f65.results.toList = [(.tmp 4)]:=rfl
theorem ok65:fnOk Try.prog pl65 Try.f65 = true:=by kernel_rfl
def pl66:Plans:=fun i=>match i with | 6=>[.pure,.pure,.pure,.pure,.pure,.pure,.pure,.eff,.pure,.pure,.pure,.pure,.pure] | 25=>[.pure,.pure,.pure,.pure,.pure,.pure,.pure,.pure,.pure,(.read 0 1),.pure,.pure,.pure,.pure,.pure,.eff,.eff,.pure,.pure] | _=>[]
@[go_sem] theorem rs66:Try.f66.results.toList = [(.tmp 6),(.tmp 7)]:=rfl
theorem ok66:fnOk Try.prog pl66 Try.f66 = true:=by kernel_rfl
def pl67:Plans:=fun i=>match i with | 6=>[.pure,.pure,.pure,.pure,.pure,.pure,.pure,.pure,.pure] | _=>[]
@[go_sem] theorem rs67:Try.f67.results.toList = [(.tmp 4)]:=rfl
theorem ok67:fnOk Try.prog pl67 Try.f67 = true:=by kernel_rfl
def pl68:Plans:=fun i=>match i with | _=>[]
@[go_sem] theorem rs68:Try.f68.results.toList = []:=rfl
theorem ok68:fnOk Try.prog pl68 Try.f68 = true:=by kernel_rfl
def pl69:Plans:=fun i=>match i with | 3=>[.pure,.pure,.pure,.pure,.pure,.pure,.pure,.pure,.pure,.pure,.pure,.pure,.pure,.eff,.pure,.eff] | _=>[]
@[go_sem] theorem rs69:Try.f69.results.toList = []:=rfl
theorem ok69:fnOk Try.prog pl69 Try.f69 = true:=by kernel_rfl
def pl70:Plans:=fun i=>match i with | _=>[]
@[go_sem] theorem rs70:Try.f70.results.toList = [(.cell 4 54),(.tmp 5)]:=rfl
theorem ok70:fnOk Try.prog pl70 Try.f70 = true:=by kernel_rfl
def pl71:Plans:=fun i=>match i with | _=>[]
@[go_sem] theorem rs71:Try.f71.results.toList = [(.tmp 2)]:=rfl
theorem ok71:fnOk Try.prog pl71 Try.f71 = true:=by kernel_rfl
def pl74:Plans:=fun i=>match i with | 5=>[.pure,.pure,.pure,.pure,.pure,.pure,.pure,.pure,.pure,.eff,.alloc,.eff,.pure] | 29=>[.pure,.pure,.pure,.pure,.pure,.pure,.pure,.pure,.pure] | 41=>[.pure,.pure,.pure,.pure,.pure,.pure,.pure,.pure,.pure,.pure,.pure,.pure] | 43=>[.pure,.pure,.pure,.pure,.pure,.pure,.pure,.pure,.pure,.pure,.pure,.pure,.pure,.pure,.pure,.pure,.pure,.pure] | 46=>[.pure,.pure,.pure,.pure,.pure,.pure,.pure,.pure] | 49=>[.pure,.pure,.pure,.pure,.pure,.pure,.pure,.pure,.pure,.pure,.pure,.pure,.pure,.pure,.pure,.pure,.pure] | 55=>[.pure,.pure,.pure,.pure,.pure,.pure,.pure,.pure,.pure,.pure,.pure,.pure,.pure,.pure,.pure] | _=>[]
@[go_sem] theorem rs74:Try.f74.results.toList = [(.tmp 8)]:=rfl
theorem ok74:fnOk Try.prog pl74 Try.f74 = true:=by kernel_rfl
def pl75:Plans:=fun i=>match i with | 10=>[.pure,.pure,.pure,.pure,.pure,.pure,.pure,.pure,.pure,.pure,.pure,.pure,.pure,.pure,.pure,.pure,.pure,.pure,.pure,.pure,.pure,.pure,.pure] | 15=>[.pure,.pure,.pure,.pure,.pure,.pure,.pure,.pure,.eff] | _=>[]
@[go_sem] theorem rs75:Try.f75.results.toList = []:=rfl
theorem ok75:fnOk Try.prog pl75 Try.f75 = true:=by kernel_rfl
def pl88:Plans:=fun i=>match i with | _=>[]
@[go_sem] theorem rs88:Try.f88.results.toList = [(.tmp 2)]:=rfl
theorem ok88:fnOk Try.prog pl88 Try.f88 = true:=by kernel_rfl
def pl89:Plans:=fun i=>match i with | _=>[]
@[go_sem] theorem rs89:Try.f89.results.toList = [(.tmp 4)]:=rfl
theorem ok89:fnOk Try.prog pl89 Try.f89 = true:=by kernel_rfl
def pl90:Plans:=fun i=>match i with | _=>[]
@[go_sem] theorem rs90:Try.f90.results.toList = [(.tmp 3)]:=rfl
theorem ok90:fnOk Try.prog pl90 Try.f90 = true:=by kernel_rfl
def pl94:Plans:=fun i=>match i with | _=>[]
@[go_sem] theorem rs94:Try.f94.results.toList = [(.tmp 2)]:=rfl
theorem ok94:fnOk Try.prog pl94 Try.f94 = true:=by kernel_rfl
def pl95:Plans:=fun i=>match i with | _=>[]
@[go_sem] theorem rs95:Try.f95.results.toList = [(.tmp 2)]:=rfl
theorem ok95:fnOk Try.prog pl95 Try.f95 = true:=by kernel_rfl
def pl96:Plans:=fun i=>match i with | _=>[]
@[go_sem] theorem rs96:Try.f96.results.toList = [(.tmp 2)]:=rfl
theorem ok96:fnOk Try.prog pl96 Try.f96 = true:=by kernel_rfl
def pl97:Plans:=fun i=>match i with | _=>[]
@[go_sem] theorem rs97:Try.f97.results.toList = [(.tmp 2),(.tmp 3)]:=rfl
theorem ok97:fnOk Try.prog pl97 Try.f97 = true:=by kernel_rfl
def pl98:Plans:=fun i=>match i with | 5=>[.pure,.pure,.pure,.pure,.pure,.pure,.pure,.pure,.pure,.pure,.pure,.pure] | 11=>[.pure,.pure,.pure,.pure,.pure,.pure] | _=>[]
@[go_sem] theorem rs98:Try.f98.results.toList = [(.tmp 2)]:=rfl
theorem ok98:fnOk Try.prog pl98 Try.f98 = true:=by kernel_rfl
def pl99:Plans:=fun i=>match i with | _=>[]
@[go_sem] theorem rs99:Try.f99.results.toList = []:=rfl
theorem ok99:fnOk Try.prog pl99 Try.f99 = true:=by kernel_rfl
def pl100:Plans:=fun i=>match i with | 5=>[.pure,.pure,.pure,.pure,.pure,.pure,.pure,.pure,.pure,.pure,.pure,.pure,.pure] | _=>[]
@[go_sem] theorem rs100:Try.f100.results.toList = [(.tmp 2)]:=rfl
theorem ok100:fnOk Try.prog pl100 Try.f100 = true:=by kernel_rfl
def pl101:Plans:=fun i=>match i with | _=>[]
@[go_sem] theorem rs101:Try.f101.results.toList = [(.tmp 2)]:=rfl
theorem ok101:fnOk Try.prog pl101 Try.f101 = true:=by kernel_rfl
def pl102:Plans:=fun i=>match i with | _=>[]
@[go_sem] theorem rs102:Try.f102.results.toList = [(.tmp 4)]:=rfl
theorem ok102:fnOk Try.prog pl102 Try.f102 = true:=by kernel_rfl
def pl103:Plans:=fun i=>match i with | 14=>[.pure,.eff,.pure,.pure,.pure,.pure,.pure,.pure,.pure,.pure,.pure,.pure,.pure,.pure,.pure,.pure,.pure,.pure] | _=>[]
@[go_sem] theorem rs103:Try.f103.results.toList = [(.tmp 2)]:=rfl
theorem ok103:fnOk Try.prog pl103 Try.f103 = true:=by kernel_rfl
def pl104:Plans:=fun i=>match i with | _=>[]
@[go_sem] theorem rs104:Try.f104.results.toList = [(.cell 2 68)]:=rfl
theorem ok104:fnOk Try.prog pl104 Try.f104 = true:=by kernel_rfl
def pl107:Plans:=fun i=>match i with | _=>[]
@[go_sem] theorem rs107:Try.f107.results.toList = [(.tmp 4)]:=rfl
theorem ok107:fnOk Try.prog pl107 Try.f107 = true:=by kernel_rfl
def pl108:Plans:=fun i=>match i with | _=>[]
@[go_sem] theorem rs108:Try.f108.results.toList = [(.tmp 4)]:=rfl
theorem ok108:fnOk Try.prog pl108 Try.f108 = true:=by kernel_rfl
def pl109:Plans:=fun i=>match i with | _=>[]
@[go_sem] theorem rs109:Try.f109.results.toList = [(.cell 4 70),(.tmp 5)]:=rfl
theorem ok109:fnOk Try.prog pl109 Try.f109 = true:=by kernel_rfl
def pl114:Plans:=fun i=>match i with | 6=>[.pure,.pure,.pure,.pure,.pure,.pure,.eff,.pure,.pure,.pure] | 8=>[.pure,.pure,.pure,.pure,.pure,.pure,.eff,.pure] | 12=>[.pure,.pure,.pure,.pure,.pure,.pure,.eff,.pure] | 13=>[.pure,.pure,.pure,.pure,.pure,.pure,(.read 0 1),.pure,.pure,.pure,.eff,.eff,.pure,.pure,.pure,.pure,(.read 2 3),.pure,.pure,.pure,.eff,.eff,.pure,.pure] | _=>[]
@[go_sem] theorem rs114:Try.f114.results.toList = [(.tmp 6),(.tmp 7),(.tmp 8)]:=rfl
theorem ok114:fnOk Try.prog pl114 Try.f114 = true:=by kernel_rfl
def pl115:Plans:=fun i=>match i with | 6=>[.pure,.pure,.pure,.pure,.pure,.pure,.pure,.pure,.pure] | _=>[]
@[go_sem] theorem rs115:Try.f115.results.toList = [(.tmp 4)]:=rfl
theorem ok115:fnOk Try.prog pl115 Try.f115 = true:=by kernel_rfl
def pl116:Plans:=fun i=>match i with | _=>[]
@[go_sem] theorem rs116:Try.f116.results.toList = [(.tmp 6)]:=rfl
theorem ok116:fnOk Try.prog pl116 Try.f116 = true:=by kernel_rfl
def pl119:Plans:=fun i=>match i with | _=>[]
@[go_sem] theorem rs119:Try.f119.results.toList = [(.tmp 2)]:=rfl
theorem ok119:fnOk Try.prog pl119 Try.f119 = true:=by kernel_rfl
def pl123:Plans:=fun i=>match i with | _=>[]
@[go_sem] theorem rs123:Try.f123.results.toList = [(.tmp 4)]:=rfl
theorem ok123:fnOk Try.prog pl123 Try.f123 = true:=by kernel_rfl
def pl124:Plans:=fun i=>match i with | _=>[]
@[go_sem] theorem rs124:Try.f124.results.toList = [(.tmp 2)]:=rfl
theorem ok124:fnOk Try.prog pl124 Try.f124 = true:=by kernel_rfl
def pl125:Plans:=fun i=>match i with | _=>[]
@[go_sem] theorem rs125:Try.f125.results.toList = [(.tmp 2)]:=rfl
theorem ok125:fnOk Try.prog pl125 Try.f125 = true:=by kernel_rfl
def pl126:Plans:=fun i=>match i with | _=>[]
@[go_sem] theorem rs126:Try.f126.results.toList = [(.cell 2 68)]:=rfl
theorem ok126:fnOk Try.prog pl126 Try.f126 = true:=by kernel_rfl
def pl132:Plans:=fun i=>match i with | _=>[]
@[go_sem] theorem rs132:Try.f132.results.toList = [(.tmp 6)]:=rfl
theorem ok132:fnOk Try.prog pl132 Try.f132 = true:=by kernel_rfl
def pl133:Plans:=fun i=>match i with | 5=>[(.read 0 1),.pure,.pure,.eff,.pure,.pure,.pure,.pure] | _=>[]
@[go_sem] theorem rs133:Try.f133.results.toList = [(.tmp 2),(.tmp 3),(.tmp 4)]:=rfl
theorem ok133:fnOk Try.prog pl133 Try.f133 = true:=by kernel_rfl
def pl137:Plans:=fun i=>match i with | _=>[]
@[go_sem] theorem rs137:Try.f137.results.toList = [(.tmp 4)]:=rfl
theorem ok137:fnOk Try.prog pl137 Try.f137 = true:=by kernel_rfl
def pl139:Plans:=fun i=>match i with | _=>[]
@[go_sem] theorem rs139:Try.f139.results.toList = [(.cell 4 68)]:=rfl
theorem ok139:fnOk Try.prog pl139 Try.f139 = true:=by kernel_rfl
def pl140:Plans:=fun i=>match i with | _=>[]
@[go_sem] theorem rs140:Try.f140.results.toList = []:=rfl
theorem ok140:fnOk Try.prog pl140 Try.f140 = true:=by kernel_rfl
def pl142:Plans:=fun i=>match i with | _=>[]
@[go_sem] theorem rs142:Try.f142.results.toList = [(.tmp 2)]:=rfl
theorem ok142:fnOk Try.prog pl142 Try.f142 = true:=by kernel_rfl
def pl143:Plans:=fun i=>match i with | _=>[]
@[go_sem] theorem rs143:Try.f143.results.toList = [(.tmp 4)]:=rfl
theorem ok143:fnOk Try.prog pl143 Try.f143 = true:=by kernel_rfl
def pl144:Plans:=fun i=>match i with | _=>[]
@[go_sem] theorem rs144:Try.f144.results.toList = [(.tmp 2)]:=rfl
theorem ok144:fnOk Try.prog pl144 Try.f144 = true:=by kernel_rfl
def pl145:Plans:=fun i=>match i with | _=>[]
@[go_sem] theorem rs145:Try.f145.results.toList = [(.tmp 4)]:=rfl
theorem ok145:fnOk Try.prog pl145 Try.f145 = true:=by kernel_rfl
def pl146:Plans:=fun i=>match i with | _=>[]
@[go_sem] theorem rs146:Try.f146.results.toList = [(.tmp 3)]:=rfl
theorem ok146:fnOk Try.prog pl146 Try.f146 = true:=by kernel_rfl
def pl149:Plans:=fun i=>match i with | _=>[]
@[go_sem] theorem rs149:Try.f149.results.toList = [(.cell 2 68)]:=rfl
theorem ok149:fnOk Try.prog pl149 Try.f149 = true:=by kernel_rfl
def pl151:Plans:=fun i=>match i with | _=>[]
@[go_sem] theorem rs151:Try.f151.results.toList = [(.cell 2 68)]:=rfl
theorem ok151:fnOk Try.prog pl151 Try.f151 = true:=by kernel_rfl
def pl152:Plans:=fun i=>match i with | _=>[]
@[go_sem] theorem rs152:Try.f152.results.toList = [(.cell 2 68)]:=rfl
theorem ok152:fnOk Try.prog pl152 Try.f152 = true:=by kernel_rfl
def pl153:Plans:=fun i=>match i with | _=>[]
@[go_sem] theorem rs153:Try.f153.results.toList = [(.cell 2 68)]:=rfl
theorem ok153:fnOk Try.prog pl153 Try.f153 = true:=by kernel_rfl
def pl154:Plans:=fun i=>match i with | _=>[]
@[go_sem] theorem rs154:Try.f154.results.toList = [(.cell 2 68)]:=rfl
theorem ok154:fnOk Try.prog pl154 Try.f154 = true:=by kernel_rfl
attribute [go_sem] pl3 pl7 pl22 pl24 pl27 pl28 pl29 pl30 pl31 pl32 pl33 pl34 pl35 pl36 pl40 pl42 pl51 pl55 pl56 pl57 pl58 pl60 pl61 pl64 pl65 pl66 pl67 pl68 pl69 pl70 pl71 pl74 pl75 pl88 pl89 pl90 pl94 pl95 pl96 pl97 pl98 pl99 pl100 pl101 pl102 pl103 pl104 pl107 pl108 pl109 pl114 pl115 pl116 pl119 pl123 pl124 pl125 pl126 pl132 pl133 pl137 pl139 pl140 pl142 pl143 pl144 pl145 pl146 pl149 pl151 pl152 pl153 pl154
end Go.Proofs.Ytpjmiopplfmcfaa
