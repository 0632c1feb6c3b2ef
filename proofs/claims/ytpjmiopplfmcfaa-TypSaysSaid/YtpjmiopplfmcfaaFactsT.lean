/- What is proved: facts of more functions. Conditions: as each theorem says. -/
import Derived.Test.YtpjmiopplfmcfaaFacts
set_option linter.unusedVariables false
set_option linter.unusedSimpArgs false
set_option linter.unusedSectionVars false
namespace Go.Proofs.Ytpjmiopplfmcfaa
open Go.Eng
set_option autoImplicit false
set_option maxRecDepth 100000
@[go_sem] theorem ty_35:tyOf Try.prog 35 = some ((1,(24,false))):=by kernel_rfl
@[go_sem] theorem ty_78:tyOf Try.prog 78 = some ((1,(8,false))):=by kernel_rfl
@[go_sem] theorem z_78:zeroT Try.prog 78 = some ((.int .i64 0)):=by kernel_rfl
@[go_sem] theorem td_139:tdOf Try.prog 139 = (.struct [⟨false,35,0,1,false⟩,⟨false,52,1,6,true⟩,⟨false,116,7,1,false⟩]):=by kernel_rfl
@[go_sem] theorem z_139:zeroT Try.prog 139 = some ((.agg [.nilslice,(.str 0 0),.nilslice,.nilslice,.nilslice,.nilslice,(.int .i64 0),.nilslice])):=by kernel_rfl
@[go_sem] theorem td_184:tdOf Try.prog 184 = (.slice 78 1 8):=by kernel_rfl
@[go_sem] theorem ty_184:tyOf Try.prog 184 = some ((1,(24,false))):=by kernel_rfl
def pl12:Plans:=fun i=>match i with | 17=>[.pure,.pure,.pure,.pure,.pure,.pure,.pure,.pure,.pure,.pure,.pure,.eff,.pure,.pure,.pure,.pure,.pure,.pure,(.read 0 1),.pure,.pure,.pure,(.read 0 1),.eff,.pure] | _=>[]
@[go_sem] theorem rs12:Try.f12.results.toList = [(.tmp 2)]:=rfl
theorem ok12:fnOk Try.prog pl12 Try.f12 = true:=by kernel_rfl
def pl20:Plans:=fun i=>match i with | _=>[]
@[go_sem] theorem rs20:Try.f20.results.toList = [(.tmp 4)]:=rfl
theorem ok20:fnOk Try.prog pl20 Try.f20 = true:=by kernel_rfl
def pl23:Plans:=fun i=>match i with | 4=>[.pure,.pure,.pure,.pure,.pure,.alloc,.pure] | _=>[]
def pl39:Plans:=fun i=>match i with | 3=>[.pure,.pure,.pure,.pure,.pure,.pure,.pure,.pure,.alloc,.pure] | _=>[]
@[go_sem] theorem rs39:Try.f39.results.toList = [(.tmp 6)]:=rfl
theorem ok39:fnOk Try.prog pl39 Try.f39 = true:=by kernel_rfl
def pl41:Plans:=fun i=>match i with | 4=>[.pure,.pure,.pure,.pure,.pure,.alloc,.pure] | _=>[]
@[go_sem] theorem rs41:Try.f41.results.toList = [(.cell 2 33)]:=rfl
theorem ok41:fnOk Try.prog pl41 Try.f41 = true:=by kernel_rfl
def pl43:Plans:=fun i=>match i with | 4=>[.pure,.pure,.pure,.pure,.pure,.pure,.pure,.pure,.pure,.eff] | 7=>[.pure,.pure,.pure,.pure,.pure,.pure,.pure,.eff,.pure] | _=>[]
@[go_sem] theorem rs43:Try.f43.results.toList = [(.tmp 6)]:=rfl
theorem ok43:fnOk Try.prog pl43 Try.f43 = true:=by kernel_rfl
def pl53:Plans:=fun i=>match i with | _=>[]
@[go_sem] theorem rs53:Try.f53.results.toList = [(.tmp 4)]:=rfl
theorem ok53:fnOk Try.prog pl53 Try.f53 = true:=by kernel_rfl
def pl54:Plans:=fun i=>match i with | _=>[]
@[go_sem] theorem rs54:Try.f54.results.toList = [(.tmp 3)]:=rfl
theorem ok54:fnOk Try.prog pl54 Try.f54 = true:=by kernel_rfl
def pl72:Plans:=fun i=>match i with | 12=>[.pure,.pure,.pure,.pure,.pure,.pure,.pure,.alloc,.eff,.pure,.pure,.eff] | _=>[]
@[go_sem] theorem rs72:Try.f72.results.toList = [(.tmp 4)]:=rfl
theorem ok72:fnOk Try.prog pl72 Try.f72 = true:=by kernel_rfl
def pl73:Plans:=fun i=>match i with | 4=>[.pure,.pure,.pure,.pure,.pure,.pure,.pure,.alloc,.eff,.pure,.pure,.eff] | 11=>[.pure,.pure,.pure,.pure,.pure,.pure,.pure,.alloc,.eff,.pure,.pure,.eff] | _=>[]
@[go_sem] theorem rs73:Try.f73.results.toList = []:=rfl
theorem ok73:fnOk Try.prog pl73 Try.f73 = true:=by kernel_rfl
def pl117:Plans:=fun i=>match i with | 39=>[.pure,.pure,.pure,.pure,.pure,.pure,.pure,.pure,.pure,.pure,.pure,.pure,.pure,.pure,.pure,.pure,.pure,.pure,.pure] | _=>[]
@[go_sem] theorem rs117:Try.f117.results.toList = [(.tmp 6)]:=rfl
theorem ok117:fnOk Try.prog pl117 Try.f117 = true:=by kernel_rfl
def pl118:Plans:=fun i=>match i with | _=>[]
@[go_sem] theorem rs118:Try.f118.results.toList = [(.tmp 4)]:=rfl
theorem ok118:fnOk Try.prog pl118 Try.f118 = true:=by kernel_rfl
def pl134:Plans:=fun i=>match i with | _=>[]
@[go_sem] theorem rs134:Try.f134.results.toList = [(.tmp 6)]:=rfl
theorem ok134:fnOk Try.prog pl134 Try.f134 = true:=by kernel_rfl
def pl135:Plans:=fun i=>match i with | _=>[]
@[go_sem] theorem rs135:Try.f135.results.toList = [(.tmp 4)]:=rfl
theorem ok135:fnOk Try.prog pl135 Try.f135 = true:=by kernel_rfl
def pl136:Plans:=fun i=>match i with | 1=>[.pure,.pure,.pure,.pure,.pure,.pure,.eff,.pure] | 7=>[.pure,.pure,.pure,.pure,.pure,.pure,.pure] | _=>[]
@[go_sem] theorem rs136:Try.f136.results.toList = [(.tmp 6)]:=rfl
theorem ok136:fnOk Try.prog pl136 Try.f136 = true:=by kernel_rfl
def pl147:Plans:=fun i=>match i with | _=>[]
@[go_sem] theorem rs147:Try.f147.results.toList = [(.tmp 4)]:=rfl
theorem ok147:fnOk Try.prog pl147 Try.f147 = true:=by kernel_rfl
def pl148:Plans:=fun i=>match i with | _=>[]
@[go_sem] theorem rs148:Try.f148.results.toList = [(.tmp 3)]:=rfl
theorem ok148:fnOk Try.prog pl148 Try.f148 = true:=by kernel_rfl
def pl150:Plans:=fun i=>match i with | _=>[]
@[go_sem] theorem rs150:Try.f150.results.toList = [(.tmp 4)]:=rfl
theorem ok150:fnOk Try.prog pl150 Try.f150 = true:=by kernel_rfl
attribute [go_sem] pl12 pl20 pl23 pl39 pl41 pl43 pl53 pl54 pl72 pl73 pl117 pl118 pl134 pl135 pl136 pl147 pl148 pl150
end Go.Proofs.Ytpjmiopplfmcfaa

