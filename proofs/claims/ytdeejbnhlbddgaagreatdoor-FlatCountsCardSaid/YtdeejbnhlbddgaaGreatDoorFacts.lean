/- What is proved: the program's types, as the calculus asks them; that its functions may be walked. Conditions: as each theorem says. -/
import Derived.Test.YtdeejbnhlbddgaaGreatDoorWN
import Derived.KernelRfl
import Derived.Test.YtdeejbnhlbddgaaGreatDoorProg
set_option linter.unusedVariables false
set_option linter.unusedSimpArgs false
set_option linter.unusedSectionVars false
namespace Go.Proofs.YtdeejbnhlbddgaaGreatDoor
open Go.Eng
set_option autoImplicit false
set_option maxRecDepth 100000
@[go_sem] theorem td_2:tdOf Tryz.prog 2=(.int .i64):=by kernel_rfl
@[go_sem] theorem ty_2:tyOf Tryz.prog 2=some ((1,(8,false))):=by kernel_rfl
@[go_sem] theorem td_3:tdOf Tryz.prog 3=(.int .i64):=by kernel_rfl
@[go_sem] theorem ty_3:tyOf Tryz.prog 3=some ((1,(8,false))):=by kernel_rfl
@[go_sem] theorem z_3:zeroT Tryz.prog 3=some ((.int .i64 0)):=by kernel_rfl
@[go_sem] theorem ty_4:tyOf Tryz.prog 4=some ((1,(1,false))):=by kernel_rfl
@[go_sem] theorem z_4:zeroT Tryz.prog 4=some ((.bool false)):=by kernel_rfl
@[go_sem] theorem td_5:tdOf Tryz.prog 5=(.int .u8):=by kernel_rfl
@[go_sem] theorem z_5:zeroT Tryz.prog 5=some ((.int .u8 0)):=by kernel_rfl
@[go_sem] theorem td_9:tdOf Tryz.prog 9=.str:=by kernel_rfl
@[go_sem] theorem ty_9:tyOf Tryz.prog 9=some ((1,(16,false))):=by kernel_rfl
@[go_sem] theorem z_9:zeroT Tryz.prog 9=some ((.str 0 0)):=by kernel_rfl
@[go_sem] theorem td_23:tdOf Tryz.prog 23=(.slice 5 1 1):=by kernel_rfl
@[go_sem] theorem td_24:tdOf Tryz.prog 24=(.slice 49 6 120):=by kernel_rfl
@[go_sem] theorem td_28:tdOf Tryz.prog 28=(.slice 34 6 120):=by kernel_rfl
@[go_sem] theorem td_31:tdOf Tryz.prog 31=(.slice 70 5 56):=by kernel_rfl
@[go_sem] theorem td_32:tdOf Tryz.prog 32=(.slice 61 7 96):=by kernel_rfl
@[go_sem] theorem ty_32:tyOf Tryz.prog 32=some ((1,(24,false))):=by kernel_rfl
@[go_sem] theorem td_34:tdOf Tryz.prog 34=(.struct [⟨false,9,0,1,false⟩,⟨false,31,1,1,false⟩,⟨false,31,2,1,false⟩,⟨false,31,3,1,false⟩,⟨false,32,4,1,false⟩,⟨false,3,5,1,false⟩]):=by kernel_rfl
@[go_sem] theorem ty_34:tyOf Tryz.prog 34=some ((6,(120,true))):=by kernel_rfl
@[go_sem] theorem z_34:zeroT Tryz.prog 34=some ((.agg [(.str 0 0),.nilslice,.nilslice,.nilslice,.nilslice,(.int .i64 0)])):=by kernel_rfl
@[go_sem] theorem ty_35:tyOf Tryz.prog 35=some ((1,(8,false))):=by kernel_rfl
@[go_sem] theorem td_43:tdOf Tryz.prog 43=(.struct [⟨false,35,0,1,false⟩,⟨false,3,1,1,false⟩]):=by kernel_rfl
@[go_sem] theorem ty_43:tyOf Tryz.prog 43=some ((2,(16,true))):=by kernel_rfl
@[go_sem] theorem z_43:zeroT Tryz.prog 43=some ((.agg [(.int .i64 0),(.int .i64 0)])):=by kernel_rfl
@[go_sem] theorem td_46:tdOf Tryz.prog 46=(.slice 82 5 56):=by kernel_rfl
@[go_sem] theorem ty_46:tyOf Tryz.prog 46=some ((1,(24,false))):=by kernel_rfl
@[go_sem] theorem td_47:tdOf Tryz.prog 47=(.slice 55 7 96):=by kernel_rfl
@[go_sem] theorem ty_47:tyOf Tryz.prog 47=some ((1,(24,false))):=by kernel_rfl
@[go_sem] theorem td_49:tdOf Tryz.prog 49=(.struct [⟨false,9,0,1,false⟩,⟨false,46,1,1,false⟩,⟨false,46,2,1,false⟩,⟨false,46,3,1,false⟩,⟨false,47,4,1,false⟩,⟨false,3,5,1,false⟩]):=by kernel_rfl
@[go_sem] theorem ty_49:tyOf Tryz.prog 49=some ((6,(120,true))):=by kernel_rfl
@[go_sem] theorem z_49:zeroT Tryz.prog 49=some ((.agg [(.str 0 0),.nilslice,.nilslice,.nilslice,.nilslice,(.int .i64 0)])):=by kernel_rfl
@[go_sem] theorem td_51:tdOf Tryz.prog 51=(.slice 53 5 72):=by kernel_rfl
@[go_sem] theorem ty_51:tyOf Tryz.prog 51=some ((1,(24,false))):=by kernel_rfl
@[go_sem] theorem td_53:tdOf Tryz.prog 53=(.struct [⟨false,9,0,1,false⟩,⟨false,9,1,1,false⟩,⟨false,2,2,1,false⟩,⟨false,3,3,1,false⟩,⟨false,51,4,1,false⟩]):=by kernel_rfl
@[go_sem] theorem ty_53:tyOf Tryz.prog 53=some ((5,(72,true))):=by kernel_rfl
@[go_sem] theorem z_53:zeroT Tryz.prog 53=some ((.agg [(.str 0 0),(.str 0 0),(.int .i64 0),(.int .i64 0),.nilslice])):=by kernel_rfl
@[go_sem] theorem td_55:tdOf Tryz.prog 55=(.struct [⟨false,9,0,1,false⟩,⟨false,53,1,5,true⟩,⟨false,3,6,1,false⟩]):=by kernel_rfl
@[go_sem] theorem ty_55:tyOf Tryz.prog 55=some ((7,(96,true))):=by kernel_rfl
@[go_sem] theorem z_55:zeroT Tryz.prog 55=some ((.agg [(.str 0 0),(.str 0 0),(.str 0 0),(.int .i64 0),(.int .i64 0),.nilslice,(.int .i64 0)])):=by kernel_rfl
@[go_sem] theorem td_56:tdOf Tryz.prog 56=(.slice 58 5 72):=by kernel_rfl
@[go_sem] theorem ty_56:tyOf Tryz.prog 56=some ((1,(24,false))):=by kernel_rfl
@[go_sem] theorem td_58:tdOf Tryz.prog 58=(.struct [⟨false,9,0,1,false⟩,⟨false,9,1,1,false⟩,⟨false,2,2,1,false⟩,⟨false,3,3,1,false⟩,⟨false,56,4,1,false⟩]):=by kernel_rfl
@[go_sem] theorem ty_58:tyOf Tryz.prog 58=some ((5,(72,true))):=by kernel_rfl
@[go_sem] theorem z_58:zeroT Tryz.prog 58=some ((.agg [(.str 0 0),(.str 0 0),(.int .i64 0),(.int .i64 0),.nilslice])):=by kernel_rfl
@[go_sem] theorem td_61:tdOf Tryz.prog 61=(.struct [⟨false,9,0,1,false⟩,⟨false,58,1,5,true⟩,⟨false,3,6,1,false⟩]):=by kernel_rfl
@[go_sem] theorem ty_61:tyOf Tryz.prog 61=some ((7,(96,true))):=by kernel_rfl
@[go_sem] theorem z_61:zeroT Tryz.prog 61=some ((.agg [(.str 0 0),(.str 0 0),(.str 0 0),(.int .i64 0),(.int .i64 0),.nilslice,(.int .i64 0)])):=by kernel_rfl
@[go_sem] theorem td_70:tdOf Tryz.prog 70=(.struct [⟨false,9,0,1,false⟩,⟨false,68,1,1,false⟩,⟨false,9,2,1,false⟩,⟨false,4,3,1,false⟩,⟨false,3,4,1,false⟩]):=by kernel_rfl
@[go_sem] theorem z_70:zeroT Tryz.prog 70=some ((.agg [(.str 0 0),(.int .i64 0),(.str 0 0),(.bool false),(.int .i64 0)])):=by kernel_rfl
@[go_sem] theorem td_79:tdOf Tryz.prog 79=(.slice 3 1 8):=by kernel_rfl
@[go_sem] theorem td_82:tdOf Tryz.prog 82=(.struct [⟨false,9,0,1,false⟩,⟨false,3,1,1,false⟩,⟨false,9,2,1,false⟩,⟨false,4,3,1,false⟩,⟨false,3,4,1,false⟩]):=by kernel_rfl
@[go_sem] theorem ty_82:tyOf Tryz.prog 82=some ((5,(56,true))):=by kernel_rfl
@[go_sem] theorem z_82:zeroT Tryz.prog 82=some ((.agg [(.str 0 0),(.int .i64 0),(.str 0 0),(.bool false),(.int .i64 0)])):=by kernel_rfl
@[go_sem] theorem td_100:tdOf Tryz.prog 100=(.slice 107 4 40):=by kernel_rfl
@[go_sem] theorem ty_100:tyOf Tryz.prog 100=some ((1,(24,false))):=by kernel_rfl
@[go_sem] theorem td_105:tdOf Tryz.prog 105=(.struct [⟨false,100,0,1,false⟩,⟨false,3,1,1,false⟩,⟨false,43,2,2,true⟩,⟨false,3,4,1,false⟩,⟨false,3,5,1,false⟩,⟨false,3,6,1,false⟩]):=by kernel_rfl
@[go_sem] theorem z_105:zeroT Tryz.prog 105=some ((.agg [.nilslice,(.int .i64 0),(.int .i64 0),(.int .i64 0),(.int .i64 0),(.int .i64 0),(.int .i64 0)])):=by kernel_rfl
@[go_sem] theorem td_107:tdOf Tryz.prog 107=(.struct [⟨false,3,0,1,false⟩,⟨false,9,1,1,false⟩,⟨false,2,2,1,false⟩,⟨false,3,3,1,false⟩]):=by kernel_rfl
@[go_sem] theorem ty_107:tyOf Tryz.prog 107=some ((4,(40,true))):=by kernel_rfl
@[go_sem] theorem z_107:zeroT Tryz.prog 107=some ((.agg [(.int .i64 0),(.str 0 0),(.int .i64 0),(.int .i64 0)])):=by kernel_rfl
@[go_sem] theorem td_123:tdOf Tryz.prog 123=(.slice 9 1 16):=by kernel_rfl
@[go_sem] theorem ty_123:tyOf Tryz.prog 123=some ((1,(24,false))):=by kernel_rfl
@[go_sem] theorem z_123:zeroT Tryz.prog 123=some (.nilslice):=by kernel_rfl
@[go_sem] theorem td_128:tdOf Tryz.prog 128=(.slice 187 2 24):=by kernel_rfl
@[go_sem] theorem ty_128:tyOf Tryz.prog 128=some ((1,(24,false))):=by kernel_rfl
@[go_sem] theorem z_128:zeroT Tryz.prog 128=some (.nilslice):=by kernel_rfl
@[go_sem] theorem td_150:tdOf Tryz.prog 150=(.struct [⟨false,43,0,2,true⟩]):=by kernel_rfl
@[go_sem] theorem z_150:zeroT Tryz.prog 150=some ((.agg [(.int .i64 0),(.int .i64 0)])):=by kernel_rfl
@[go_sem] theorem td_187:tdOf Tryz.prog 187=(.struct [⟨false,9,0,1,false⟩,⟨false,4,1,1,false⟩]):=by kernel_rfl
@[go_sem] theorem ty_187:tyOf Tryz.prog 187=some ((2,(24,true))):=by kernel_rfl
@[go_sem] theorem z_187:zeroT Tryz.prog 187=some ((.agg [(.str 0 0),(.bool false)])):=by kernel_rfl
@[go_sem] theorem td_189:tdOf Tryz.prog 189=(.int .u64):=by kernel_rfl
@[go_sem] theorem td_190:tdOf Tryz.prog 190=(.slice 128 1 24):=by kernel_rfl
@[go_sem] theorem td_191:tdOf Tryz.prog 191=(.slice 4 1 1):=by kernel_rfl
@[go_sem] theorem td_209:tdOf Tryz.prog 209=(.slice 123 1 24):=by kernel_rfl
def pl3:Plans:=fun i=>match i with|_=>[]
@[go_sem] theorem rs3:Tryz.f3.results.toList=[(.tmp 4)]:=rfl
theorem ok3:fnOk Tryz.prog pl3 Tryz.f3=true:=by kernel_rfl
def pl5:Plans:=fun i=>match i with|2=>[.pure,.pure,.pure,.pure,.pure,.pure]|_=>[]
@[go_sem] theorem rs5:Tryz.f5.results.toList=[(.tmp 2),(.tmp 3)]:=rfl
theorem ok5:fnOk Tryz.prog pl5 Tryz.f5=true:=by kernel_rfl
def pl6:Plans:=fun i=>match i with|_=>[]
@[go_sem] theorem rs6:Tryz.f6.results.toList=[(.tmp 2)]:=rfl
theorem ok6:fnOk Tryz.prog pl6 Tryz.f6=true:=by kernel_rfl
def pl7:Plans:=fun i=>match i with|5=>[.pure,.pure,.pure,.pure,(.read 0 3),.pure,.pure,.pure,.pure,.pure,.eff,.pure,.pure,.pure,.pure,(.read 0 1),.eff,.pure,.pure,.pure,.pure,(.read 0 2),.eff,.pure,.pure,.pure,.pure,(.read 0 3),.pure,.alloc,.eff]|9=>[.pure,(.read 0 1),.pure,.pure,.pure,.pure,(.read 0 1),.pure,.pure,.pure,(.read 0 1),.pure,.pure,.pure,.pure,.pure,.pure,.pure,.pure,.pure,.eff,.pure,.pure,.pure,.pure,(.read 0 1),.pure,.pure,.pure,(.read 0 1),.pure,.alloc,.eff,.pure,.eff]|_=>[]
@[go_sem] theorem rs7:Tryz.f7.results.toList=[(.tmp 2)]:=rfl
theorem ok7:fnOk Tryz.prog pl7 Tryz.f7=true:=by kernel_rfl
def pl10:Plans:=fun i=>match i with|3=>[.pure,.pure,.eff]|6=>[.pure,.pure,.eff]|7=>[.pure,.pure,.pure,.eff]|_=>[]
@[go_sem] theorem rs10:Tryz.f10.results.toList=[(.tmp 2),(.cell 3 43)]:=rfl
theorem ok10:fnOk Tryz.prog pl10 Tryz.f10=true:=by kernel_rfl
def pl11:Plans:=fun i=>match i with|11=>[.pure,.pure,.pure,.pure,.pure,.pure,.eff]|17=>[.pure,.pure,.pure,.pure,.pure,.pure,.pure,.pure,.pure,.pure,.pure,.pure,.pure,.pure,.pure,.pure,.eff]|_=>[]
@[go_sem] theorem rs11:Tryz.f11.results.toList=[(.tmp 2)]:=rfl
theorem ok11:fnOk Tryz.prog pl11 Tryz.f11=true:=by kernel_rfl
def pl12:Plans:=fun i=>match i with|5=>[.pure,.pure,.pure,.pure,.pure,.pure,.pure,.pure,.pure,.pure,.pure,.pure,.pure,.pure,.pure,.pure,.pure,.pure,.pure,.pure,.pure,.pure,.pure,.pure,.pure,.pure,.pure,.alloc,.eff,.pure]|_=>[]
@[go_sem] theorem rs12:Tryz.f12.results.toList=[(.tmp 2)]:=rfl
theorem ok12:fnOk Tryz.prog pl12 Tryz.f12=true:=by kernel_rfl
def pl13:Plans:=fun i=>match i with|5=>[.pure,(.read 0 1),.pure,.pure,.pure,.pure,.pure,.eff,.alloc,.eff,.pure,.eff]|_=>[]
@[go_sem] theorem rs13:Tryz.f13.results.toList=[(.cell 2 58)]:=rfl
theorem ok13:fnOk Tryz.prog pl13 Tryz.f13=true:=by kernel_rfl
def pl20:Plans:=fun i=>match i with|3=>[.pure,.pure,.eff]|12=>[.pure,.pure,.pure,.pure,.pure,.eff]|_=>[]
@[go_sem] theorem rs20:Tryz.f20.results.toList=[(.tmp 2),(.cell 3 43)]:=rfl
theorem ok20:fnOk Tryz.prog pl20 Tryz.f20=true:=by kernel_rfl
def pl21:Plans:=fun i=>match i with|_=>[]
@[go_sem] theorem rs21:Tryz.f21.results.toList=[(.cell 2 43)]:=rfl
theorem ok21:fnOk Tryz.prog pl21 Tryz.f21=true:=by kernel_rfl
def pl22:Plans:=fun i=>match i with|_=>[]
@[go_sem] theorem rs22:Tryz.f22.results.toList=[]:=rfl
theorem ok22:fnOk Tryz.prog pl22 Tryz.f22=true:=by kernel_rfl
def pl34:Plans:=fun i=>match i with|_=>[]
@[go_sem] theorem rs34:Tryz.f34.results.toList=[(.tmp 2),(.cell 3 43)]:=rfl
theorem ok34:fnOk Tryz.prog pl34 Tryz.f34=true:=by kernel_rfl
def pl35:Plans:=fun i=>match i with|1=>[.pure,.pure,.pure,.pure,.pure,.pure,.pure,.pure,.pure,.pure,.eff]|_=>[]
@[go_sem] theorem rs35:Tryz.f35.results.toList=[(.cell 2 107)]:=rfl
theorem ok35:fnOk Tryz.prog pl35 Tryz.f35=true:=by kernel_rfl
def pl36:Plans:=fun i=>match i with|_=>[]
@[go_sem] theorem rs36:Tryz.f36.results.toList=[]:=rfl
theorem ok36:fnOk Tryz.prog pl36 Tryz.f36=true:=by kernel_rfl
def pl37:Plans:=fun i=>match i with|_=>[]
@[go_sem] theorem rs37:Tryz.f37.results.toList=[(.cell 2 49)]:=rfl
theorem ok37:fnOk Tryz.prog pl37 Tryz.f37=true:=by kernel_rfl
def pl38:Plans:=fun i=>match i with|6=>[.pure,.pure,.pure,.pure,.pure,.eff,.pure,.pure,.pure,.pure,.pure,.pure,.pure]|16=>[.pure,.pure,.pure,.pure,.pure,.pure,.pure,.pure,.pure,.pure,.pure]|18=>[.pure,.pure,.pure,.pure,.pure,.pure,.pure,.pure,.pure,.pure,.pure,.pure,.pure,.pure,.pure]|30=>[.pure,.pure,.pure,.pure,.pure,.pure,.pure,.pure,.pure,.pure,.pure,.pure,.pure]|33=>[.pure,.pure,.pure,.pure,.pure,.pure,.pure,.eff]|37=>[.pure,.pure,.pure,.pure,.pure,.pure,.eff,.pure,.pure,.pure,.alloc,.eff,.pure]|_=>[]
@[go_sem] theorem rs38:Tryz.f38.results.toList=[(.cell 2 43)]:=rfl
theorem ok38:fnOk Tryz.prog pl38 Tryz.f38=true:=by kernel_rfl
def pl39:Plans:=fun i=>match i with|17=>[.pure,.pure,.pure,.pure,.pure,.pure,.pure,.eff,.pure,.pure,.pure,.alloc,.eff,.pure]|18=>[.pure,.pure,.pure,.pure,.pure,.pure,.pure,.pure,.pure,.eff,.pure,(.read 0 1),.pure]|_=>[]
@[go_sem] theorem rs39:Tryz.f39.results.toList=[(.cell 2 43)]:=rfl
theorem ok39:fnOk Tryz.prog pl39 Tryz.f39=true:=by kernel_rfl
def pl40:Plans:=fun i=>match i with|9=>[.pure,.pure,.pure,.pure,.pure,.pure,.pure,.pure,.eff,.pure,.pure,.pure,.pure,.pure]|10=>[.pure,.pure,.pure,.pure,.pure,.pure,.pure,.pure,.pure,.pure,.pure,.eff,.eff,.pure,.pure]|_=>[]
@[go_sem] theorem rs40:Tryz.f40.results.toList=[(.cell 2 43)]:=rfl
theorem ok40:fnOk Tryz.prog pl40 Tryz.f40=true:=by kernel_rfl
def pl41:Plans:=fun i=>match i with|16=>[.pure,.pure,.pure,.pure,.pure,.pure,.pure,.pure,.pure,.pure,.pure,.pure,.pure]|20=>[.pure,.pure,.pure,.pure,.pure,.pure,.pure,.pure,.pure,.pure,.pure,.pure,.pure]|_=>[]
@[go_sem] theorem rs41:Tryz.f41.results.toList=[(.cell 2 43)]:=rfl
theorem ok41:fnOk Tryz.prog pl41 Tryz.f41=true:=by kernel_rfl
def pl42:Plans:=fun i=>match i with|9=>[.pure,.pure,.pure,.pure,.pure,.pure,.pure,.eff,.pure]|13=>[.pure,.pure,.pure,.pure,.pure,.eff,.pure]|_=>[]
@[go_sem] theorem rs42:Tryz.f42.results.toList=[(.cell 2 43)]:=rfl
theorem ok42:fnOk Tryz.prog pl42 Tryz.f42=true:=by kernel_rfl
def pl43:Plans:=fun i=>match i with|_=>[]
@[go_sem] theorem rs43:Tryz.f43.results.toList=[(.tmp 4)]:=rfl
theorem ok43:fnOk Tryz.prog pl43 Tryz.f43=true:=by kernel_rfl
def pl45:Plans:=fun i=>match i with|14=>[.pure,.pure,.pure,.pure,.pure,.pure,.pure,.alloc,.eff,.pure,.pure,.eff]|_=>[]
def pl51:Plans:=fun i=>match i with|_=>[]
@[go_sem] theorem rs51:Tryz.f51.results.toList=[(.tmp 4)]:=rfl
theorem ok51:fnOk Tryz.prog pl51 Tryz.f51=true:=by kernel_rfl
def pl58:Plans:=fun i=>match i with|_=>[]
@[go_sem] theorem rs58:Tryz.f58.results.toList=[(.tmp 4)]:=rfl
theorem ok58:fnOk Tryz.prog pl58 Tryz.f58=true:=by kernel_rfl
def pl59:Plans:=fun i=>match i with|_=>[]
@[go_sem] theorem rs59:Tryz.f59.results.toList=[(.tmp 2)]:=rfl
theorem ok59:fnOk Tryz.prog pl59 Tryz.f59=true:=by kernel_rfl
def pl60:Plans:=fun i=>match i with|_=>[]
@[go_sem] theorem rs60:Tryz.f60.results.toList=[(.tmp 2)]:=rfl
theorem ok60:fnOk Tryz.prog pl60 Tryz.f60=true:=by kernel_rfl
def pl61:Plans:=fun i=>match i with|_=>[]
@[go_sem] theorem rs61:Tryz.f61.results.toList=[(.tmp 2)]:=rfl
theorem ok61:fnOk Tryz.prog pl61 Tryz.f61=true:=by kernel_rfl
def pl62:Plans:=fun i=>match i with|_=>[]
@[go_sem] theorem rs62:Tryz.f62.results.toList=[(.tmp 2),(.tmp 3)]:=rfl
theorem ok62:fnOk Tryz.prog pl62 Tryz.f62=true:=by kernel_rfl
def pl63:Plans:=fun i=>match i with|5=>[.pure,.pure,.pure,.pure,.pure,.pure,.pure,.pure,.pure,.pure,.pure,.pure]|11=>[.pure,.pure,.pure,.pure,.pure,.pure]|_=>[]
@[go_sem] theorem rs63:Tryz.f63.results.toList=[(.tmp 2)]:=rfl
theorem ok63:fnOk Tryz.prog pl63 Tryz.f63=true:=by kernel_rfl
def pl64:Plans:=fun i=>match i with|_=>[]
@[go_sem] theorem rs64:Tryz.f64.results.toList=[]:=rfl
theorem ok64:fnOk Tryz.prog pl64 Tryz.f64=true:=by kernel_rfl
def pl65:Plans:=fun i=>match i with|5=>[.pure,.pure,.pure,.pure,.pure,.pure,.pure,.pure,.pure,.pure,.pure,.pure,.pure]|_=>[]
@[go_sem] theorem rs65:Tryz.f65.results.toList=[(.tmp 2)]:=rfl
theorem ok65:fnOk Tryz.prog pl65 Tryz.f65=true:=by kernel_rfl
def pl66:Plans:=fun i=>match i with|_=>[]
@[go_sem] theorem rs66:Tryz.f66.results.toList=[(.tmp 2)]:=rfl
theorem ok66:fnOk Tryz.prog pl66 Tryz.f66=true:=by kernel_rfl
def pl67:Plans:=fun i=>match i with|_=>[]
@[go_sem] theorem rs67:Tryz.f67.results.toList=[(.tmp 4)]:=rfl
theorem ok67:fnOk Tryz.prog pl67 Tryz.f67=true:=by kernel_rfl
def pl68:Plans:=fun i=>match i with|14=>[.pure,.eff,.pure,.pure,.pure,.pure,.pure,.pure,.pure,.pure,.pure,.pure,.pure,.pure,.pure,.pure,.pure,.pure]|_=>[]
@[go_sem] theorem rs68:Tryz.f68.results.toList=[(.tmp 2)]:=rfl
theorem ok68:fnOk Tryz.prog pl68 Tryz.f68=true:=by kernel_rfl
def pl69:Plans:=fun i=>match i with|_=>[]
@[go_sem] theorem rs69:Tryz.f69.results.toList=[(.cell 2 53)]:=rfl
theorem ok69:fnOk Tryz.prog pl69 Tryz.f69=true:=by kernel_rfl
def pl70:Plans:=fun i=>match i with|_=>[]
@[go_sem] theorem rs70:Tryz.f70.results.toList=[]:=rfl
theorem ok70:fnOk Tryz.prog pl70 Tryz.f70=true:=by kernel_rfl
def pl71:Plans:=fun i=>match i with|_=>[]
@[go_sem] theorem rs71:Tryz.f71.results.toList=[(.tmp 2)]:=rfl
theorem ok71:fnOk Tryz.prog pl71 Tryz.f71=true:=by kernel_rfl
def pl72:Plans:=fun i=>match i with|_=>[]
@[go_sem] theorem rs72:Tryz.f72.results.toList=[(.cell 4 82),(.tmp 5)]:=rfl
theorem ok72:fnOk Tryz.prog pl72 Tryz.f72=true:=by kernel_rfl
def pl73:Plans:=fun i=>match i with|_=>[]
@[go_sem] theorem rs73:Tryz.f73.results.toList=[(.tmp 4)]:=rfl
theorem ok73:fnOk Tryz.prog pl73 Tryz.f73=true:=by kernel_rfl
def pl74:Plans:=fun i=>match i with|10=>[.pure,.pure,.pure,.pure,.pure,.pure,.pure,.pure,.pure,.pure,.pure,.pure,.pure,.pure,.pure,.pure,.pure,.pure,.pure,.pure,.pure,.pure,.pure]|15=>[.pure,.pure,.pure,.pure,.pure,.pure,.pure,.pure,.eff]|_=>[]
@[go_sem] theorem rs74:Tryz.f74.results.toList=[]:=rfl
theorem ok74:fnOk Tryz.prog pl74 Tryz.f74=true:=by kernel_rfl
def pl75:Plans:=fun i=>match i with|_=>[]
@[go_sem] theorem rs75:Tryz.f75.results.toList=[(.cell 4 55),(.tmp 5)]:=rfl
theorem ok75:fnOk Tryz.prog pl75 Tryz.f75=true:=by kernel_rfl
def pl76:Plans:=fun i=>match i with|5=>[.pure,.pure,.pure,.pure,.pure,.pure,.pure,.pure,.pure,.eff,.alloc,.eff,.pure]|29=>[.pure,.pure,.pure,.pure,.pure,.pure,.pure,.pure,.pure]|41=>[.pure,.pure,.pure,.pure,.pure,.pure,.pure,.pure,.pure,.pure,.pure,.pure]|43=>[.pure,.pure,.pure,.pure,.pure,.pure,.pure,.pure,.pure,.pure,.pure,.pure,.pure,.pure,.pure,.pure,.pure,.pure]|46=>[.pure,.pure,.pure,.pure,.pure,.pure,.pure,.pure]|49=>[.pure,.pure,.pure,.pure,.pure,.pure,.pure,.pure,.pure,.pure,.pure,.pure,.pure,.pure,.pure,.pure,.pure]|55=>[.pure,.pure,.pure,.pure,.pure,.pure,.pure,.pure,.pure,.pure,.pure,.pure,.pure,.pure,.pure]|_=>[]
@[go_sem] theorem rs76:Tryz.f76.results.toList=[(.tmp 8)]:=rfl
theorem ok76:fnOk Tryz.prog pl76 Tryz.f76=true:=by kernel_rfl
def pl77:Plans:=fun i=>match i with|6=>[.pure,.pure,.pure,.pure,.pure,.pure,.pure,.eff,.pure,.pure,.pure,.pure,.pure]|25=>[.pure,.pure,.pure,.pure,.pure,.pure,.pure,.pure,.pure,(.read 0 1),.pure,.pure,.pure,.pure,.pure,.eff,.eff,.pure,.pure]|_=>[]
@[go_sem] theorem rs77:Tryz.f77.results.toList=[(.tmp 6),(.tmp 7)]:=rfl
theorem ok77:fnOk Tryz.prog pl77 Tryz.f77=true:=by kernel_rfl
def pl78:Plans:=fun i=>match i with|6=>[.pure,.pure,.pure,.pure,.pure,.pure,.pure,.pure,.pure]|_=>[]
@[go_sem] theorem rs78:Tryz.f78.results.toList=[(.tmp 4)]:=rfl
theorem ok78:fnOk Tryz.prog pl78 Tryz.f78=true:=by kernel_rfl
def pl79:Plans:=fun i=>match i with|_=>[]
@[go_sem] theorem rs79:Tryz.f79.results.toList=[(.tmp 2)]:=rfl
theorem ok79:fnOk Tryz.prog pl79 Tryz.f79=true:=by kernel_rfl
def pl80:Plans:=fun i=>match i with|_=>[]
@[go_sem] theorem rs80:Tryz.f80.results.toList=[]:=rfl
theorem ok80:fnOk Tryz.prog pl80 Tryz.f80=true:=by kernel_rfl
def pl81:Plans:=fun i=>match i with|_=>[]
@[go_sem] theorem rs81:Tryz.f81.results.toList=[(.tmp 4)]:=rfl
theorem ok81:fnOk Tryz.prog pl81 Tryz.f81=true:=by kernel_rfl
def pl82:Plans:=fun i=>match i with|_=>[]
@[go_sem] theorem rs82:Tryz.f82.results.toList=[(.tmp 4)]:=rfl
theorem ok82:fnOk Tryz.prog pl82 Tryz.f82=true:=by kernel_rfl
def pl83:Plans:=fun i=>match i with|_=>[]
@[go_sem] theorem rs83:Tryz.f83.results.toList=[(.tmp 4)]:=rfl
theorem ok83:fnOk Tryz.prog pl83 Tryz.f83=true:=by kernel_rfl
def pl84:Plans:=fun i=>match i with|_=>[]
@[go_sem] theorem rs84:Tryz.f84.results.toList=[(.tmp 3)]:=rfl
theorem ok84:fnOk Tryz.prog pl84 Tryz.f84=true:=by kernel_rfl
def pl97:Plans:=fun i=>match i with|_=>[]
@[go_sem] theorem rs97:Tryz.f97.results.toList=[(.tmp 4)]:=rfl
theorem ok97:fnOk Tryz.prog pl97 Tryz.f97=true:=by kernel_rfl
def pl98:Plans:=fun i=>match i with|_=>[]
@[go_sem] theorem rs98:Tryz.f98.results.toList=[(.tmp 2)]:=rfl
theorem ok98:fnOk Tryz.prog pl98 Tryz.f98=true:=by kernel_rfl
def pl99:Plans:=fun i=>match i with|_=>[]
@[go_sem] theorem rs99:Tryz.f99.results.toList=[(.tmp 2)]:=rfl
theorem ok99:fnOk Tryz.prog pl99 Tryz.f99=true:=by kernel_rfl
def pl100:Plans:=fun i=>match i with|_=>[]
@[go_sem] theorem rs100:Tryz.f100.results.toList=[(.cell 2 53)]:=rfl
theorem ok100:fnOk Tryz.prog pl100 Tryz.f100=true:=by kernel_rfl
def pl101:Plans:=fun i=>match i with|_=>[]
@[go_sem] theorem rs101:Tryz.f101.results.toList=[(.tmp 6)]:=rfl
theorem ok101:fnOk Tryz.prog pl101 Tryz.f101=true:=by kernel_rfl
def pl102:Plans:=fun i=>match i with|_=>[]
@[go_sem] theorem rs102:Tryz.f102.results.toList=[(.tmp 4)]:=rfl
theorem ok102:fnOk Tryz.prog pl102 Tryz.f102=true:=by kernel_rfl
def pl103:Plans:=fun i=>match i with|_=>[]
@[go_sem] theorem rs103:Tryz.f103.results.toList=[(.tmp 2)]:=rfl
theorem ok103:fnOk Tryz.prog pl103 Tryz.f103=true:=by kernel_rfl
def pl113:Plans:=fun i=>match i with|_=>[]
@[go_sem] theorem rs113:Tryz.f113.results.toList=[(.cell 4 53)]:=rfl
theorem ok113:fnOk Tryz.prog pl113 Tryz.f113=true:=by kernel_rfl
def pl114:Plans:=fun i=>match i with|_=>[]
@[go_sem] theorem rs114:Tryz.f114.results.toList=[]:=rfl
theorem ok114:fnOk Tryz.prog pl114 Tryz.f114=true:=by kernel_rfl
def pl121:Plans:=fun i=>match i with|_=>[]
@[go_sem] theorem rs121:Tryz.f121.results.toList=[(.cell 2 53)]:=rfl
theorem ok121:fnOk Tryz.prog pl121 Tryz.f121=true:=by kernel_rfl
def pl126:Plans:=fun i=>match i with|_=>[]
@[go_sem] theorem rs126:Tryz.f126.results.toList=[(.cell 2 53)]:=rfl
theorem ok126:fnOk Tryz.prog pl126 Tryz.f126=true:=by kernel_rfl
def pl132:Plans:=fun i=>match i with|_=>[]
@[go_sem] theorem rs132:Tryz.f132.results.toList=[(.cell 2 53)]:=rfl
theorem ok132:fnOk Tryz.prog pl132 Tryz.f132=true:=by kernel_rfl
def pl135:Plans:=fun i=>match i with|_=>[]
@[go_sem] theorem rs135:Tryz.f135.results.toList=[(.cell 2 53)]:=rfl
theorem ok135:fnOk Tryz.prog pl135 Tryz.f135=true:=by kernel_rfl
def pl136:Plans:=fun i=>match i with|_=>[]
@[go_sem] theorem rs136:Tryz.f136.results.toList=[(.cell 2 53)]:=rfl
theorem ok136:fnOk Tryz.prog pl136 Tryz.f136=true:=by kernel_rfl
attribute [go_sem] pl3 pl5 pl6 pl7 pl10 pl11 pl12 pl13 pl20 pl21 pl22 pl34 pl35 pl36 pl37 pl38 pl39 pl40 pl41 pl42 pl43 pl45 pl51 pl58 pl59 pl60 pl61 pl62 pl63 pl64 pl65 pl66 pl67 pl68 pl69 pl70 pl71 pl72 pl73 pl74 pl75 pl76 pl77 pl78 pl79 pl80 pl81 pl82 pl83 pl84 pl97 pl98 pl99 pl100 pl101 pl102 pl103 pl113 pl114 pl121 pl126 pl132 pl135 pl136
end Go.Proofs.YtdeejbnhlbddgaaGreatDoor
