/- What is proved: the program's types, as the calculus asks them; that its functions may be walked. Conditions: as each theorem says. -/
import Derived.Test.YtkggpdaglhnonaaWN
import Derived.KernelRfl
import Derived.Test.YtkggpdaglhnonaaProg
set_option linter.unusedVariables false
set_option linter.unusedSimpArgs false
set_option linter.unusedSectionVars false
namespace Go.Proofs.Ytkggpdaglhnonaa
open Go.Eng
set_option autoImplicit false
set_option maxRecDepth 100000
@[go_sem] theorem td_2:zaz Try.prog 2=(.int .i64):=by kernel_rfl
@[go_sem] theorem ty_2:zcj Try.prog 2=some ((1,(8,false))):=by kernel_rfl
@[go_sem] theorem td_3:zaz Try.prog 3=(.int .i64):=by kernel_rfl
@[go_sem] theorem ty_3:zcj Try.prog 3=some ((1,(8,false))):=by kernel_rfl
@[go_sem] theorem z_3:zaS Try.prog 3=some ((.int .i64 0)):=by kernel_rfl
@[go_sem] theorem ty_4:zcj Try.prog 4=some ((1,(1,false))):=by kernel_rfl
@[go_sem] theorem z_4:zaS Try.prog 4=some ((.bool false)):=by kernel_rfl
@[go_sem] theorem td_5:zaz Try.prog 5=(.int .u8):=by kernel_rfl
@[go_sem] theorem td_9:zaz Try.prog 9=.str:=by kernel_rfl
@[go_sem] theorem ty_9:zcj Try.prog 9=some ((1,(16,false))):=by kernel_rfl
@[go_sem] theorem z_9:zaS Try.prog 9=some ((.str 0 0)):=by kernel_rfl
@[go_sem] theorem ty_24:zcj Try.prog 24=some ((1,(8,false))):=by kernel_rfl
@[go_sem] theorem td_26:zaz Try.prog 26=(.struct [⟨false,24,0,1,false⟩,⟨false,3,1,1,false⟩]):=by kernel_rfl
@[go_sem] theorem ty_26:zcj Try.prog 26=some ((2,(16,true))):=by kernel_rfl
@[go_sem] theorem z_26:zaS Try.prog 26=some ((.agg [(.int .i64 0),(.int .i64 0)])):=by kernel_rfl
@[go_sem] theorem td_30:zaz Try.prog 30=(.slice 45 6 120):=by kernel_rfl
@[go_sem] theorem td_33:zaz Try.prog 33=(.struct [⟨false,24,0,1,false⟩,⟨false,3,1,1,false⟩]):=by kernel_rfl
@[go_sem] theorem ty_33:zcj Try.prog 33=some ((2,(16,true))):=by kernel_rfl
@[go_sem] theorem z_33:zaS Try.prog 33=some ((.agg [(.int .i64 0),(.int .i64 0)])):=by kernel_rfl
@[go_sem] theorem td_35:zaz Try.prog 35=(.slice 52 6 120):=by kernel_rfl
@[go_sem] theorem td_41:zaz Try.prog 41=(.slice 54 5 56):=by kernel_rfl
@[go_sem] theorem ty_41:zcj Try.prog 41=some ((1,(24,false))):=by kernel_rfl
@[go_sem] theorem td_43:zaz Try.prog 43=(.slice 70 7 96):=by kernel_rfl
@[go_sem] theorem ty_43:zcj Try.prog 43=some ((1,(24,false))):=by kernel_rfl
@[go_sem] theorem td_45:zaz Try.prog 45=(.struct [⟨false,9,0,1,false⟩,⟨false,41,1,1,false⟩,⟨false,41,2,1,false⟩,⟨false,41,3,1,false⟩,⟨false,43,4,1,false⟩,⟨false,3,5,1,false⟩]):=by kernel_rfl
@[go_sem] theorem ty_45:zcj Try.prog 45=some ((6,(120,true))):=by kernel_rfl
@[go_sem] theorem z_45:zaS Try.prog 45=some ((.agg [(.str 0 0),.nilslice,.nilslice,.nilslice,.nilslice,(.int .i64 0)])):=by kernel_rfl
@[go_sem] theorem td_49:zaz Try.prog 49=(.slice 91 5 56):=by kernel_rfl
@[go_sem] theorem ty_49:zcj Try.prog 49=some ((1,(24,false))):=by kernel_rfl
@[go_sem] theorem z_49:zaS Try.prog 49=some (.nilslice):=by kernel_rfl
@[go_sem] theorem td_50:zaz Try.prog 50=(.slice 63 7 96):=by kernel_rfl
@[go_sem] theorem ty_50:zcj Try.prog 50=some ((1,(24,false))):=by kernel_rfl
@[go_sem] theorem td_52:zaz Try.prog 52=(.struct [⟨false,9,0,1,false⟩,⟨false,49,1,1,false⟩,⟨false,49,2,1,false⟩,⟨false,49,3,1,false⟩,⟨false,50,4,1,false⟩,⟨false,3,5,1,false⟩]):=by kernel_rfl
@[go_sem] theorem ty_52:zcj Try.prog 52=some ((6,(120,true))):=by kernel_rfl
@[go_sem] theorem z_52:zaS Try.prog 52=some ((.agg [(.str 0 0),.nilslice,.nilslice,.nilslice,.nilslice,(.int .i64 0)])):=by kernel_rfl
@[go_sem] theorem td_54:zaz Try.prog 54=(.struct [⟨false,9,0,1,false⟩,⟨false,3,1,1,false⟩,⟨false,9,2,1,false⟩,⟨false,4,3,1,false⟩,⟨false,3,4,1,false⟩]):=by kernel_rfl
@[go_sem] theorem ty_54:zcj Try.prog 54=some ((5,(56,true))):=by kernel_rfl
@[go_sem] theorem z_54:zaS Try.prog 54=some ((.agg [(.str 0 0),(.int .i64 0),(.str 0 0),(.bool false),(.int .i64 0)])):=by kernel_rfl
@[go_sem] theorem td_55:zaz Try.prog 55=(.slice 132 2 24):=by kernel_rfl
@[go_sem] theorem ty_55:zcj Try.prog 55=some ((1,(24,false))):=by kernel_rfl
@[go_sem] theorem z_55:zaS Try.prog 55=some (.nilslice):=by kernel_rfl
@[go_sem] theorem td_59:zaz Try.prog 59=(.slice 61 5 72):=by kernel_rfl
@[go_sem] theorem ty_59:zcj Try.prog 59=some ((1,(24,false))):=by kernel_rfl
@[go_sem] theorem td_61:zaz Try.prog 61=(.struct [⟨false,9,0,1,false⟩,⟨false,9,1,1,false⟩,⟨false,2,2,1,false⟩,⟨false,3,3,1,false⟩,⟨false,59,4,1,false⟩]):=by kernel_rfl
@[go_sem] theorem ty_61:zcj Try.prog 61=some ((5,(72,true))):=by kernel_rfl
@[go_sem] theorem z_61:zaS Try.prog 61=some ((.agg [(.str 0 0),(.str 0 0),(.int .i64 0),(.int .i64 0),.nilslice])):=by kernel_rfl
@[go_sem] theorem td_63:zaz Try.prog 63=(.struct [⟨false,9,0,1,false⟩,⟨false,61,1,5,true⟩,⟨false,3,6,1,false⟩]):=by kernel_rfl
@[go_sem] theorem ty_63:zcj Try.prog 63=some ((7,(96,true))):=by kernel_rfl
@[go_sem] theorem z_63:zaS Try.prog 63=some ((.agg [(.str 0 0),(.str 0 0),(.str 0 0),(.int .i64 0),(.int .i64 0),.nilslice,(.int .i64 0)])):=by kernel_rfl
@[go_sem] theorem td_66:zaz Try.prog 66=(.slice 68 5 72):=by kernel_rfl
@[go_sem] theorem ty_66:zcj Try.prog 66=some ((1,(24,false))):=by kernel_rfl
@[go_sem] theorem td_68:zaz Try.prog 68=(.struct [⟨false,9,0,1,false⟩,⟨false,9,1,1,false⟩,⟨false,2,2,1,false⟩,⟨false,3,3,1,false⟩,⟨false,66,4,1,false⟩]):=by kernel_rfl
@[go_sem] theorem ty_68:zcj Try.prog 68=some ((5,(72,true))):=by kernel_rfl
@[go_sem] theorem z_68:zaS Try.prog 68=some ((.agg [(.str 0 0),(.str 0 0),(.int .i64 0),(.int .i64 0),.nilslice])):=by kernel_rfl
@[go_sem] theorem td_70:zaz Try.prog 70=(.struct [⟨false,9,0,1,false⟩,⟨false,68,1,5,true⟩,⟨false,3,6,1,false⟩]):=by kernel_rfl
@[go_sem] theorem ty_70:zcj Try.prog 70=some ((7,(96,true))):=by kernel_rfl
@[go_sem] theorem z_70:zaS Try.prog 70=some ((.agg [(.str 0 0),(.str 0 0),(.str 0 0),(.int .i64 0),(.int .i64 0),.nilslice,(.int .i64 0)])):=by kernel_rfl
@[go_sem] theorem td_76:zaz Try.prog 76=(.slice 9 1 16):=by kernel_rfl
@[go_sem] theorem ty_76:zcj Try.prog 76=some ((1,(24,false))):=by kernel_rfl
@[go_sem] theorem z_76:zaS Try.prog 76=some (.nilslice):=by kernel_rfl
@[go_sem] theorem td_91:zaz Try.prog 91=(.struct [⟨false,9,0,1,false⟩,⟨false,78,1,1,false⟩,⟨false,9,2,1,false⟩,⟨false,4,3,1,false⟩,⟨false,3,4,1,false⟩]):=by kernel_rfl
@[go_sem] theorem ty_91:zcj Try.prog 91=some ((5,(56,true))):=by kernel_rfl
@[go_sem] theorem z_91:zaS Try.prog 91=some ((.agg [(.str 0 0),(.int .i64 0),(.str 0 0),(.bool false),(.int .i64 0)])):=by kernel_rfl
@[go_sem] theorem td_98:zaz Try.prog 98=(.slice 105 4 40):=by kernel_rfl
@[go_sem] theorem ty_98:zcj Try.prog 98=some ((1,(24,false))):=by kernel_rfl
@[go_sem] theorem td_103:zaz Try.prog 103=(.struct [⟨false,98,0,1,false⟩,⟨false,3,1,1,false⟩,⟨false,26,2,2,true⟩,⟨false,3,4,1,false⟩,⟨false,3,5,1,false⟩,⟨false,3,6,1,false⟩]):=by kernel_rfl
@[go_sem] theorem z_103:zaS Try.prog 103=some ((.agg [.nilslice,(.int .i64 0),(.int .i64 0),(.int .i64 0),(.int .i64 0),(.int .i64 0),(.int .i64 0)])):=by kernel_rfl
@[go_sem] theorem td_105:zaz Try.prog 105=(.struct [⟨false,3,0,1,false⟩,⟨false,9,1,1,false⟩,⟨false,2,2,1,false⟩,⟨false,3,3,1,false⟩]):=by kernel_rfl
@[go_sem] theorem ty_105:zcj Try.prog 105=some ((4,(40,true))):=by kernel_rfl
@[go_sem] theorem z_105:zaS Try.prog 105=some ((.agg [(.int .i64 0),(.str 0 0),(.int .i64 0),(.int .i64 0)])):=by kernel_rfl
@[go_sem] theorem td_110:zaz Try.prog 110=(.map 9 4):=by kernel_rfl
@[go_sem] theorem ty_110:zcj Try.prog 110=some ((1,(8,false))):=by kernel_rfl
@[go_sem] theorem z_110:zaS Try.prog 110=some (.nilmap):=by kernel_rfl
@[go_sem] theorem td_116:zaz Try.prog 116=(.slice 3 1 8):=by kernel_rfl
@[go_sem] theorem td_127:zaz Try.prog 127=(.struct [⟨false,26,0,2,true⟩]):=by kernel_rfl
@[go_sem] theorem z_127:zaS Try.prog 127=some ((.agg [(.int .i64 0),(.int .i64 0)])):=by kernel_rfl
@[go_sem] theorem td_132:zaz Try.prog 132=(.struct [⟨false,9,0,1,false⟩,⟨false,4,1,1,false⟩]):=by kernel_rfl
@[go_sem] theorem ty_132:zcj Try.prog 132=some ((2,(24,true))):=by kernel_rfl
@[go_sem] theorem z_132:zaS Try.prog 132=some ((.agg [(.str 0 0),(.bool false)])):=by kernel_rfl
@[go_sem] theorem ty_143:zcj Try.prog 143=some ((1,(8,false))):=by kernel_rfl
@[go_sem] theorem z_143:zaS Try.prog 143=some (.nilptr):=by kernel_rfl
@[go_sem] theorem td_146:zaz Try.prog 146=(.map 9 76):=by kernel_rfl
@[go_sem] theorem ty_146:zcj Try.prog 146=some ((1,(8,false))):=by kernel_rfl
@[go_sem] theorem td_148:zaz Try.prog 148=(.struct [⟨false,76,0,1,false⟩,⟨false,146,1,1,false⟩]):=by kernel_rfl
@[go_sem] theorem z_148:zaS Try.prog 148=some ((.agg [.nilslice,.nilmap])):=by kernel_rfl
@[go_sem] theorem ty_152:zcj Try.prog 152=some ((1,(8,false))):=by kernel_rfl
@[go_sem] theorem z_152:zaS Try.prog 152=some (.nilptr):=by kernel_rfl
@[go_sem] theorem td_154:zaz Try.prog 154=(.struct [⟨false,110,0,1,false⟩]):=by kernel_rfl
@[go_sem] theorem z_154:zaS Try.prog 154=some ((.agg [.nilmap])):=by kernel_rfl
@[go_sem] theorem td_181:zaz Try.prog 181=(.slice 55 1 24):=by kernel_rfl
@[go_sem] theorem td_182:zaz Try.prog 182=(.slice 4 1 1):=by kernel_rfl
@[go_sem] theorem td_191:zaz Try.prog 191=(.int .u64):=by kernel_rfl
@[go_sem] theorem td_200:zaz Try.prog 200=(.slice 49 1 24):=by kernel_rfl
@[go_sem] theorem td_210:zaz Try.prog 210=(.slice 76 1 24):=by kernel_rfl
def pl3:Plans:=fun i=>match i with|_=>[]
def pl17:Plans:=fun i=>match i with|16=>[.pure,.pure,.pure,.pure,.pure,.pure,.pure,.pure,.pure,.pure,.pure,.pure,.pure,.pure,.pure,.pure]|21=>[.pure,.pure,.pure,.pure,.pure,.pure,.pure,.pure,.eff,.pure]|29=>[.pure,.pure,.pure,.pure,.pure,.pure,.pure,.pure,.pure]|_=>[]
@[go_sem] theorem rs17:Try.f17.results.toList=[(.tmp 2)]:=rfl
theorem ok17:zbA Try.prog pl17 Try.f17=true:=by kernel_rfl
def pl22:Plans:=fun i=>match i with|3=>[.pure,.pure,.eff]|12=>[.pure,.pure,.pure,.pure,.pure,.eff]|_=>[]
@[go_sem] theorem rs22:Try.f22.results.toList=[(.tmp 2),(.cell 3 26)]:=rfl
theorem ok22:zbA Try.prog pl22 Try.f22=true:=by kernel_rfl
def pl24:Plans:=fun i=>match i with|5=>[.pure,.pure,.pure,.pure,(.read 0 3),.pure,.pure,.pure,.pure,.pure,.eff,.pure,.pure,.pure,.pure,(.read 0 1),.eff,.pure,.pure,.pure,.pure,(.read 0 2),.eff,.pure,.pure,.pure,.pure,(.read 0 3),.pure,.alloc,.eff]|9=>[.pure,(.read 0 1),.pure,.pure,.pure,.pure,(.read 0 1),.pure,.pure,.pure,(.read 0 1),.pure,.pure,.pure,.pure,.pure,.pure,.pure,.pure,.pure,.eff,.pure,.pure,.pure,.pure,(.read 0 1),.pure,.pure,.pure,(.read 0 1),.pure,.alloc,.eff,.pure,.eff]|_=>[]
@[go_sem] theorem rs24:Try.f24.results.toList=[(.tmp 2)]:=rfl
theorem ok24:zbA Try.prog pl24 Try.f24=true:=by kernel_rfl
def pl27:Plans:=fun i=>match i with|_=>[]
@[go_sem] theorem rs27:Try.f27.results.toList=[(.tmp 4),(.tmp 5)]:=rfl
theorem ok27:zbA Try.prog pl27 Try.f27=true:=by kernel_rfl
def pl30:Plans:=fun i=>match i with|9=>[.pure,.pure,.pure,.pure,.pure,.pure,.pure,.pure,.eff,.pure,.pure,.pure,.pure,.pure]|10=>[.pure,.pure,.pure,.pure,.pure,.pure,.pure,.pure,.pure,.pure,.pure,.eff,.eff,.pure,.pure]|_=>[]
@[go_sem] theorem rs30:Try.f30.results.toList=[(.cell 2 26)]:=rfl
theorem ok30:zbA Try.prog pl30 Try.f30=true:=by kernel_rfl
def pl31:Plans:=fun i=>match i with|_=>[]
@[go_sem] theorem rs31:Try.f31.results.toList=[(.tmp 2)]:=rfl
theorem ok31:zbA Try.prog pl31 Try.f31=true:=by kernel_rfl
def pl32:Plans:=fun i=>match i with|6=>[.pure,.pure,.pure,.pure,.pure,.pure,.pure,.pure,.pure,.pure,.pure,.pure,.pure,.pure,.pure,.pure,.pure,.pure,.pure,.pure,.pure,.pure,.pure,.pure]|_=>[]
def pl34:Plans:=fun i=>match i with|_=>[]
@[go_sem] theorem rs34:Try.f34.results.toList=[(.tmp 4)]:=rfl
theorem ok34:zbA Try.prog pl34 Try.f34=true:=by kernel_rfl
def pl35:Plans:=fun i=>match i with|5=>[.pure,.pure,.eff,.pure,(.read 0 1),.pure,.pure,.pure]|_=>[]
def pl40:Plans:=fun i=>match i with|5=>[.pure,(.read 0 1),.pure,.pure,.pure,.pure,.pure,.eff,.alloc,.eff,.pure,.eff]|_=>[]
@[go_sem] theorem rs40:Try.f40.results.toList=[(.cell 2 61)]:=rfl
theorem ok40:zbA Try.prog pl40 Try.f40=true:=by kernel_rfl
def pl42:Plans:=fun i=>match i with|17=>[.pure,.pure,.pure,.pure,.pure,.pure,.pure,.eff,.pure,.pure,.pure,.alloc,.eff,.pure]|18=>[.pure,.pure,.pure,.pure,.pure,.pure,.pure,.pure,.pure,.eff,.pure,(.read 0 1),.pure]|_=>[]
@[go_sem] theorem rs42:Try.f42.results.toList=[(.cell 2 26)]:=rfl
theorem ok42:zbA Try.prog pl42 Try.f42=true:=by kernel_rfl
def pl48:Plans:=fun i=>match i with|9=>[.pure,.pure,.pure,.pure,.pure,.pure,.pure,.pure,.eff]|_=>[]
@[go_sem] theorem rs48:Try.f48.results.toList=[(.tmp 2),(.tmp 3)]:=rfl
theorem ok48:zbA Try.prog pl48 Try.f48=true:=by kernel_rfl
def pl49:Plans:=fun i=>match i with|_=>[]
@[go_sem] theorem rs49:Try.f49.results.toList=[(.tmp 4)]:=rfl
theorem ok49:zbA Try.prog pl49 Try.f49=true:=by kernel_rfl
def pl50:Plans:=fun i=>match i with|_=>[]
@[go_sem] theorem rs50:Try.f50.results.toList=[(.cell 2 33)]:=rfl
theorem ok50:zbA Try.prog pl50 Try.f50=true:=by kernel_rfl
def pl51:Plans:=fun i=>match i with|_=>[]
@[go_sem] theorem rs51:Try.f51.results.toList=[(.cell 4 91),(.tmp 5)]:=rfl
theorem ok51:zbA Try.prog pl51 Try.f51=true:=by kernel_rfl
def pl52:Plans:=fun i=>match i with|_=>[]
@[go_sem] theorem rs52:Try.f52.results.toList=[(.cell 4 63),(.tmp 5)]:=rfl
theorem ok52:zbA Try.prog pl52 Try.f52=true:=by kernel_rfl
def pl55:Plans:=fun i=>match i with|_=>[]
@[go_sem] theorem rs55:Try.f55.results.toList=[(.tmp 2),(.cell 3 26)]:=rfl
theorem ok55:zbA Try.prog pl55 Try.f55=true:=by kernel_rfl
def pl56:Plans:=fun i=>match i with|1=>[.pure,.pure,.pure,.pure,.pure,.pure,.pure,.pure,.pure,.pure,.eff]|_=>[]
@[go_sem] theorem rs56:Try.f56.results.toList=[(.cell 2 105)]:=rfl
theorem ok56:zbA Try.prog pl56 Try.f56=true:=by kernel_rfl
def pl57:Plans:=fun i=>match i with|_=>[]
@[go_sem] theorem rs57:Try.f57.results.toList=[]:=rfl
theorem ok57:zbA Try.prog pl57 Try.f57=true:=by kernel_rfl
def pl58:Plans:=fun i=>match i with|_=>[]
@[go_sem] theorem rs58:Try.f58.results.toList=[(.cell 2 45)]:=rfl
theorem ok58:zbA Try.prog pl58 Try.f58=true:=by kernel_rfl
def pl60:Plans:=fun i=>match i with|5=>[.pure,.pure,.pure,.pure,.pure,.pure,.pure,.pure,.pure,.pure,.pure,.pure,.pure,.pure,.pure,.pure,.pure,.pure,.pure,.pure,.pure,.pure,.pure,.pure,.pure,.pure,.pure,.alloc,.eff,.pure]|_=>[]
@[go_sem] theorem rs60:Try.f60.results.toList=[(.tmp 2)]:=rfl
theorem ok60:zbA Try.prog pl60 Try.f60=true:=by kernel_rfl
def pl61:Plans:=fun i=>match i with|6=>[.pure,.pure,.pure,.pure,.pure,.eff,.pure,.pure,.pure,.pure,.pure,.pure,.pure]|16=>[.pure,.pure,.pure,.pure,.pure,.pure,.pure,.pure,.pure,.pure,.pure]|18=>[.pure,.pure,.pure,.pure,.pure,.pure,.pure,.pure,.pure,.pure,.pure,.pure,.pure,.pure,.pure]|30=>[.pure,.pure,.pure,.pure,.pure,.pure,.pure,.pure,.pure,.pure,.pure,.pure,.pure]|33=>[.pure,.pure,.pure,.pure,.pure,.pure,.pure,.eff]|37=>[.pure,.pure,.pure,.pure,.pure,.pure,.eff,.pure,.pure,.pure,.alloc,.eff,.pure]|_=>[]
@[go_sem] theorem rs61:Try.f61.results.toList=[(.cell 2 26)]:=rfl
theorem ok61:zbA Try.prog pl61 Try.f61=true:=by kernel_rfl
def pl62:Plans:=fun i=>match i with|16=>[.pure,.pure,.pure,.pure,.pure,.pure,.pure,.pure,.pure,.pure,.pure,.pure,.pure]|20=>[.pure,.pure,.pure,.pure,.pure,.pure,.pure,.pure,.pure,.pure,.pure,.pure,.pure]|_=>[]
@[go_sem] theorem rs62:Try.f62.results.toList=[(.cell 2 26)]:=rfl
theorem ok62:zbA Try.prog pl62 Try.f62=true:=by kernel_rfl
def pl66:Plans:=fun i=>match i with|6=>[.pure,.pure,.pure,.pure,.pure,.pure,.pure,.eff,.pure,.pure,.pure,.pure,.pure]|25=>[.pure,.pure,.pure,.pure,.pure,.pure,.pure,.pure,.pure,(.read 0 1),.pure,.pure,.pure,.pure,.pure,.eff,.eff,.pure,.pure]|_=>[]
@[go_sem] theorem rs66:Try.f66.results.toList=[(.tmp 6),(.tmp 7)]:=rfl
theorem ok66:zbA Try.prog pl66 Try.f66=true:=by kernel_rfl
def pl67:Plans:=fun i=>match i with|6=>[.pure,.pure,.pure,.pure,.pure,.pure,.pure,.pure,.pure]|_=>[]
@[go_sem] theorem rs67:Try.f67.results.toList=[(.tmp 4)]:=rfl
theorem ok67:zbA Try.prog pl67 Try.f67=true:=by kernel_rfl
def pl68:Plans:=fun i=>match i with|_=>[]
@[go_sem] theorem rs68:Try.f68.results.toList=[]:=rfl
theorem ok68:zbA Try.prog pl68 Try.f68=true:=by kernel_rfl
def pl70:Plans:=fun i=>match i with|_=>[]
@[go_sem] theorem rs70:Try.f70.results.toList=[(.cell 4 54),(.tmp 5)]:=rfl
theorem ok70:zbA Try.prog pl70 Try.f70=true:=by kernel_rfl
def pl74:Plans:=fun i=>match i with|5=>[.pure,.pure,.pure,.pure,.pure,.pure,.pure,.pure,.pure,.eff,.alloc,.eff,.pure]|29=>[.pure,.pure,.pure,.pure,.pure,.pure,.pure,.pure,.pure]|41=>[.pure,.pure,.pure,.pure,.pure,.pure,.pure,.pure,.pure,.pure,.pure,.pure]|43=>[.pure,.pure,.pure,.pure,.pure,.pure,.pure,.pure,.pure,.pure,.pure,.pure,.pure,.pure,.pure,.pure,.pure,.pure]|46=>[.pure,.pure,.pure,.pure,.pure,.pure,.pure,.pure]|49=>[.pure,.pure,.pure,.pure,.pure,.pure,.pure,.pure,.pure,.pure,.pure,.pure,.pure,.pure,.pure,.pure,.pure]|55=>[.pure,.pure,.pure,.pure,.pure,.pure,.pure,.pure,.pure,.pure,.pure,.pure,.pure,.pure,.pure]|_=>[]
@[go_sem] theorem rs74:Try.f74.results.toList=[(.tmp 8)]:=rfl
theorem ok74:zbA Try.prog pl74 Try.f74=true:=by kernel_rfl
def pl75:Plans:=fun i=>match i with|10=>[.pure,.pure,.pure,.pure,.pure,.pure,.pure,.pure,.pure,.pure,.pure,.pure,.pure,.pure,.pure,.pure,.pure,.pure,.pure,.pure,.pure,.pure,.pure]|15=>[.pure,.pure,.pure,.pure,.pure,.pure,.pure,.pure,.eff]|_=>[]
@[go_sem] theorem rs75:Try.f75.results.toList=[]:=rfl
theorem ok75:zbA Try.prog pl75 Try.f75=true:=by kernel_rfl
def pl76:Plans:=fun i=>match i with|5=>[.pure,.pure,.pure,(.read 0 1),.pure,.pure,.pure,.eff,.eff]|_=>[]
@[go_sem] theorem rs76:Try.f76.results.toList=[(.tmp 2)]:=rfl
theorem ok76:zbA Try.prog pl76 Try.f76=true:=by kernel_rfl
def pl77:Plans:=fun i=>match i with|_=>[]
@[go_sem] theorem rs77:Try.f77.results.toList=[(.tmp 4)]:=rfl
theorem ok77:zbA Try.prog pl77 Try.f77=true:=by kernel_rfl
def pl78:Plans:=fun i=>match i with|_=>[]
@[go_sem] theorem rs78:Try.f78.results.toList=[(.tmp 4)]:=rfl
theorem ok78:zbA Try.prog pl78 Try.f78=true:=by kernel_rfl
def pl79:Plans:=fun i=>match i with|_=>[]
@[go_sem] theorem rs79:Try.f79.results.toList=[(.tmp 3)]:=rfl
theorem ok79:zbA Try.prog pl79 Try.f79=true:=by kernel_rfl
def pl80:Plans:=fun i=>match i with|_=>[]
@[go_sem] theorem rs80:Try.f80.results.toList=[(.tmp 4)]:=rfl
theorem ok80:zbA Try.prog pl80 Try.f80=true:=by kernel_rfl
def pl81:Plans:=fun i=>match i with|_=>[]
@[go_sem] theorem rs81:Try.f81.results.toList=[(.tmp 2)]:=rfl
theorem ok81:zbA Try.prog pl81 Try.f81=true:=by kernel_rfl
def pl82:Plans:=fun i=>match i with|_=>[]
@[go_sem] theorem rs82:Try.f82.results.toList=[(.tmp 4)]:=rfl
theorem ok82:zbA Try.prog pl82 Try.f82=true:=by kernel_rfl
def pl83:Plans:=fun i=>match i with|6=>[.pure,.pure,.pure,.pure,.pure,.pure,.eff]|_=>[]
@[go_sem] theorem rs83:Try.f83.results.toList=[]:=rfl
theorem ok83:zbA Try.prog pl83 Try.f83=true:=by kernel_rfl
def pl84:Plans:=fun i=>match i with|5=>[.pure,.pure,.pure,.pure,.pure,.pure,.eff]|_=>[]
@[go_sem] theorem rs84:Try.f84.results.toList=[]:=rfl
theorem ok84:zbA Try.prog pl84 Try.f84=true:=by kernel_rfl
def pl85:Plans:=fun i=>match i with|_=>[]
@[go_sem] theorem rs85:Try.f85.results.toList=[(.tmp 4)]:=rfl
theorem ok85:zbA Try.prog pl85 Try.f85=true:=by kernel_rfl
def pl86:Plans:=fun i=>match i with|_=>[]
@[go_sem] theorem rs86:Try.f86.results.toList=[(.tmp 3)]:=rfl
theorem ok86:zbA Try.prog pl86 Try.f86=true:=by kernel_rfl
def pl87:Plans:=fun i=>match i with|_=>[]
@[go_sem] theorem rs87:Try.f87.results.toList=[(.tmp 4)]:=rfl
theorem ok87:zbA Try.prog pl87 Try.f87=true:=by kernel_rfl
def pl88:Plans:=fun i=>match i with|_=>[]
@[go_sem] theorem rs88:Try.f88.results.toList=[(.tmp 2)]:=rfl
theorem ok88:zbA Try.prog pl88 Try.f88=true:=by kernel_rfl
def pl89:Plans:=fun i=>match i with|_=>[]
@[go_sem] theorem rs89:Try.f89.results.toList=[(.tmp 4)]:=rfl
theorem ok89:zbA Try.prog pl89 Try.f89=true:=by kernel_rfl
def pl90:Plans:=fun i=>match i with|_=>[]
@[go_sem] theorem rs90:Try.f90.results.toList=[(.tmp 3)]:=rfl
theorem ok90:zbA Try.prog pl90 Try.f90=true:=by kernel_rfl
def pl91:Plans:=fun i=>match i with|_=>[]
@[go_sem] theorem rs91:Try.f91.results.toList=[(.tmp 4)]:=rfl
theorem ok91:zbA Try.prog pl91 Try.f91=true:=by kernel_rfl
def pl92:Plans:=fun i=>match i with|_=>[]
@[go_sem] theorem rs92:Try.f92.results.toList=[(.tmp 3)]:=rfl
theorem ok92:zbA Try.prog pl92 Try.f92=true:=by kernel_rfl
def pl93:Plans:=fun i=>match i with|_=>[]
@[go_sem] theorem rs93:Try.f93.results.toList=[(.cell 2 63)]:=rfl
theorem ok93:zbA Try.prog pl93 Try.f93=true:=by kernel_rfl
def pl94:Plans:=fun i=>match i with|_=>[]
@[go_sem] theorem rs94:Try.f94.results.toList=[(.tmp 2)]:=rfl
theorem ok94:zbA Try.prog pl94 Try.f94=true:=by kernel_rfl
def pl95:Plans:=fun i=>match i with|_=>[]
@[go_sem] theorem rs95:Try.f95.results.toList=[(.tmp 2)]:=rfl
theorem ok95:zbA Try.prog pl95 Try.f95=true:=by kernel_rfl
def pl96:Plans:=fun i=>match i with|_=>[]
@[go_sem] theorem rs96:Try.f96.results.toList=[(.tmp 2)]:=rfl
theorem ok96:zbA Try.prog pl96 Try.f96=true:=by kernel_rfl
def pl97:Plans:=fun i=>match i with|_=>[]
@[go_sem] theorem rs97:Try.f97.results.toList=[(.tmp 2),(.tmp 3)]:=rfl
theorem ok97:zbA Try.prog pl97 Try.f97=true:=by kernel_rfl
def pl98:Plans:=fun i=>match i with|5=>[.pure,.pure,.pure,.pure,.pure,.pure,.pure,.pure,.pure,.pure,.pure,.pure]|11=>[.pure,.pure,.pure,.pure,.pure,.pure]|_=>[]
@[go_sem] theorem rs98:Try.f98.results.toList=[(.tmp 2)]:=rfl
theorem ok98:zbA Try.prog pl98 Try.f98=true:=by kernel_rfl
def pl99:Plans:=fun i=>match i with|_=>[]
@[go_sem] theorem rs99:Try.f99.results.toList=[]:=rfl
theorem ok99:zbA Try.prog pl99 Try.f99=true:=by kernel_rfl
def zwx:Plans:=fun i=>match i with|5=>[.pure,.pure,.pure,.pure,.pure,.pure,.pure,.pure,.pure,.pure,.pure,.pure,.pure]|_=>[]
@[go_sem] theorem rs100:Try.f100.results.toList=[(.tmp 2)]:=rfl
theorem ok100:zbA Try.prog zwx Try.f100=true:=by kernel_rfl
def zww:Plans:=fun i=>match i with|_=>[]
@[go_sem] theorem rs101:Try.f101.results.toList=[(.tmp 2)]:=rfl
theorem ok101:zbA Try.prog zww Try.f101=true:=by kernel_rfl
def zwv:Plans:=fun i=>match i with|_=>[]
@[go_sem] theorem rs102:Try.f102.results.toList=[(.tmp 4)]:=rfl
theorem ok102:zbA Try.prog zwv Try.f102=true:=by kernel_rfl
def zwu:Plans:=fun i=>match i with|14=>[.pure,.eff,.pure,.pure,.pure,.pure,.pure,.pure,.pure,.pure,.pure,.pure,.pure,.pure,.pure,.pure,.pure,.pure]|_=>[]
@[go_sem] theorem rs103:Try.f103.results.toList=[(.tmp 2)]:=rfl
theorem ok103:zbA Try.prog zwu Try.f103=true:=by kernel_rfl
def zwt:Plans:=fun i=>match i with|_=>[]
@[go_sem] theorem rs104:Try.f104.results.toList=[(.cell 2 68)]:=rfl
theorem ok104:zbA Try.prog zwt Try.f104=true:=by kernel_rfl
def zws:Plans:=fun i=>match i with|_=>[]
@[go_sem] theorem rs107:Try.f107.results.toList=[(.tmp 4)]:=rfl
theorem ok107:zbA Try.prog zws Try.f107=true:=by kernel_rfl
def zwr:Plans:=fun i=>match i with|_=>[]
@[go_sem] theorem rs108:Try.f108.results.toList=[(.tmp 4)]:=rfl
theorem ok108:zbA Try.prog zwr Try.f108=true:=by kernel_rfl
def zwq:Plans:=fun i=>match i with|_=>[]
@[go_sem] theorem rs109:Try.f109.results.toList=[(.cell 4 70),(.tmp 5)]:=rfl
theorem ok109:zbA Try.prog zwq Try.f109=true:=by kernel_rfl
def zwp:Plans:=fun i=>match i with|_=>[]
@[go_sem] theorem rs110:Try.f110.results.toList=[(.tmp 2)]:=rfl
theorem ok110:zbA Try.prog zwp Try.f110=true:=by kernel_rfl
def zwo:Plans:=fun i=>match i with|_=>[]
@[go_sem] theorem rs111:Try.f111.results.toList=[]:=rfl
theorem ok111:zbA Try.prog zwo Try.f111=true:=by kernel_rfl
def zwn:Plans:=fun i=>match i with|_=>[]
@[go_sem] theorem rs112:Try.f112.results.toList=[(.tmp 4)]:=rfl
theorem ok112:zbA Try.prog zwn Try.f112=true:=by kernel_rfl
def zwm:Plans:=fun i=>match i with|_=>[]
@[go_sem] theorem rs116:Try.f116.results.toList=[(.tmp 6)]:=rfl
theorem ok116:zbA Try.prog zwm Try.f116=true:=by kernel_rfl
def zwl:Plans:=fun i=>match i with|_=>[]
@[go_sem] theorem rs119:Try.f119.results.toList=[(.tmp 2)]:=rfl
theorem ok119:zbA Try.prog zwl Try.f119=true:=by kernel_rfl
def zwk:Plans:=fun i=>match i with|_=>[]
@[go_sem] theorem rs120:Try.f120.results.toList=[(.tmp 4)]:=rfl
theorem ok120:zbA Try.prog zwk Try.f120=true:=by kernel_rfl
def zwj:Plans:=fun i=>match i with|_=>[]
@[go_sem] theorem rs121:Try.f121.results.toList=[(.tmp 2)]:=rfl
theorem ok121:zbA Try.prog zwj Try.f121=true:=by kernel_rfl
def zwi:Plans:=fun i=>match i with|5=>[.pure,(.read 0 1),.pure,.pure,.pure,.pure,.pure,.pure,.eff,.pure,.eff]|_=>[]
@[go_sem] theorem rs122:Try.f122.results.toList=[(.cell 2 61)]:=rfl
theorem ok122:zbA Try.prog zwi Try.f122=true:=by kernel_rfl
def zwh:Plans:=fun i=>match i with|_=>[]
@[go_sem] theorem rs123:Try.f123.results.toList=[(.tmp 4)]:=rfl
theorem ok123:zbA Try.prog zwh Try.f123=true:=by kernel_rfl
def zwg:Plans:=fun i=>match i with|_=>[]
@[go_sem] theorem rs124:Try.f124.results.toList=[(.tmp 2)]:=rfl
theorem ok124:zbA Try.prog zwg Try.f124=true:=by kernel_rfl
def zwf:Plans:=fun i=>match i with|_=>[]
@[go_sem] theorem rs125:Try.f125.results.toList=[(.tmp 2)]:=rfl
theorem ok125:zbA Try.prog zwf Try.f125=true:=by kernel_rfl
def zwe:Plans:=fun i=>match i with|_=>[]
@[go_sem] theorem rs126:Try.f126.results.toList=[(.cell 2 68)]:=rfl
theorem ok126:zbA Try.prog zwe Try.f126=true:=by kernel_rfl
def zwd:Plans:=fun i=>match i with|_=>[]
@[go_sem] theorem rs130:Try.f130.results.toList=[(.tmp 4)]:=rfl
theorem ok130:zbA Try.prog zwd Try.f130=true:=by kernel_rfl
def zwc:Plans:=fun i=>match i with|_=>[]
@[go_sem] theorem rs137:Try.f137.results.toList=[(.tmp 4)]:=rfl
theorem ok137:zbA Try.prog zwc Try.f137=true:=by kernel_rfl
def zwb:Plans:=fun i=>match i with|_=>[]
@[go_sem] theorem rs138:Try.f138.results.toList=[(.tmp 2)]:=rfl
theorem ok138:zbA Try.prog zwb Try.f138=true:=by kernel_rfl
def zlo:Plans:=fun i=>match i with|_=>[]
@[go_sem] theorem rs139:Try.f139.results.toList=[(.cell 4 68)]:=rfl
theorem zoZ:zbA Try.prog zlo Try.f139=true:=by kernel_rfl
def zwa:Plans:=fun i=>match i with|_=>[]
@[go_sem] theorem rs140:Try.f140.results.toList=[]:=rfl
theorem ok140:zbA Try.prog zwa Try.f140=true:=by kernel_rfl
def zv9:Plans:=fun i=>match i with|_=>[]
@[go_sem] theorem rs149:Try.f149.results.toList=[(.cell 2 68)]:=rfl
theorem ok149:zbA Try.prog zv9 Try.f149=true:=by kernel_rfl
def zv8:Plans:=fun i=>match i with|_=>[]
@[go_sem] theorem rs151:Try.f151.results.toList=[(.cell 2 68)]:=rfl
theorem ok151:zbA Try.prog zv8 Try.f151=true:=by kernel_rfl
def zv7:Plans:=fun i=>match i with|_=>[]
@[go_sem] theorem rs152:Try.f152.results.toList=[(.cell 2 68)]:=rfl
theorem ok152:zbA Try.prog zv7 Try.f152=true:=by kernel_rfl
def zv6:Plans:=fun i=>match i with|_=>[]
@[go_sem] theorem rs153:Try.f153.results.toList=[(.cell 2 68)]:=rfl
theorem ok153:zbA Try.prog zv6 Try.f153=true:=by kernel_rfl
def zv5:Plans:=fun i=>match i with|_=>[]
@[go_sem] theorem rs154:Try.f154.results.toList=[(.cell 2 68)]:=rfl
theorem ok154:zbA Try.prog zv5 Try.f154=true:=by kernel_rfl
attribute [go_sem] pl3 pl17 pl22 pl24 pl27 pl30 pl31 pl32 pl34 pl35 pl40 pl42 pl48 pl49 pl50 pl51 pl52 pl55 pl56 pl57 pl58 pl60 pl61 pl62 pl66 pl67 pl68 pl70 pl74 pl75 pl76 pl77 pl78 pl79 pl80 pl81 pl82 pl83 pl84 pl85 pl86 pl87 pl88 pl89 pl90 pl91 pl92 pl93 pl94 pl95 pl96 pl97 pl98 pl99 zwx zww zwv zwu zwt zws zwr zwq zwp zwo zwn zwm zwl zwk zwj zwi zwh zwg zwf zwe zwd zwc zwb zlo zwa zv9 zv8 zv7 zv6 zv5
end Go.Proofs.Ytkggpdaglhnonaa
