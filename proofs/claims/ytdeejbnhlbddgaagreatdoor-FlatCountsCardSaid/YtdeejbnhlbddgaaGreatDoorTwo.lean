/- What is proved: a node of so many outputs, one of them twice, is read as it is written; its first fault of names. NamesTwice, walked. Conditions: as each theorem says. -/
import Derived.Test.YtdeejbnhlbddgaaGreatDoorPlain
import Derived.KernelRfl
import Derived.Test.YtdeejbnhlbddgaaGreatDoorNameB
set_option linter.unusedVariables false
set_option linter.unusedSimpArgs false
set_option linter.unusedSectionVars false
namespace Go.Plain
open Go.Eng
set_option autoImplicit false
set_option maxRecDepth 100000
section
variable {a b n:Nat}
end
section
variable {L:List Wd} {a b:Nat}
end
end Go.Plain
namespace Go.Plain
open Go.Eng
set_option autoImplicit false
theorem codesL_app:∀x y:By,codesL (x++y)=codesL x+256 ^ x.length*codesL y
 | [],y=>by show codesL y=0+1*codesL y;omega
 |c::x,y=>by
  show c.toNat+256*codesL (x++y)=c.toNat+256*codesL x+256 ^ (x.length+1)*codesL y
  rw[codesL_app x y,Nat.pow_succ,Nat.mul_add]
  have:256*(256 ^ x.length*codesL y)=256 ^ x.length*256*codesL y:=by rw[Nat.mul_comm (256 ^ x.length) 256,Nat.mul_assoc]
  omega
theorem cat_codes (x y:By):strCat x.length (codesL x) (codesL y)=codesL (x++y):=by
 rw[codesL_app]
 unfold strCat
 show codesL x+codesL y <<< (8*x.length)=_
 rw[Nat.shiftLeft_eq,Nat.pow_mul,Nat.mul_comm]
theorem u8_of {n:Nat} (h:n<256):(UInt8.ofNat n).toNat=n:=by
 show n%256=n
 exact Nat.mod_eq_of_lt h
end Go.Plain
namespace Go.Proofs.YtdeejbnhlbddgaaGreatDoor
open Go.Eng Go.Plain
set_option autoImplicit false
set_option maxRecDepth 100000
variable {nat:∀ [Deep],Nats}
attribute [local irreducible] wpN
@[go_sem] theorem bytes_1 {x:Nat}:bytesN [.int .u8 x]=some (x+256*0):=rfl
@[go_sem] theorem strO_s {n v:Nat} {η:HN}:strO n (some v) η=.ok (.str n v) η:=rfl
end Go.Proofs.YtdeejbnhlbddgaaGreatDoor
