/- What is proved: several slices that grow side by side; bytes as texts. Conditions: none. -/
import Derived.Test.YtdeejbnhlbddgaaGreatDoorWM
set_option linter.unusedVariables false
set_option linter.unusedSimpArgs false
set_option linter.unusedSectionVars false
namespace Go.Eng
set_option autoImplicit false
theorem app_sep {s w base n m:Nat} {η:HN} {x y:AV} {l k:List AV} (hs:0<s) (hx:OwnA s base η x n l) (hy:RdA s η y m k) (hm:0<m) (hlen:(n+m)*w≤140737488355328) (hb:base≤η.nx) :
  ∃η',apSrcN s w x y η=.ok (.slice η.nx 0 (n+m) (.un s)) η'∧OwnA s base η' (.slice η.nx 0 (n+m) (.un s)) (n+m) (l++k)∧η'.nx=η.nx+1∧∀b,b<η.nx→¬blkIs x b→η'.f b=η.f b:=by
 obtain⟨b,off,cap,ro,row,rfl,h1,h2,h3,h4,h5⟩:∃b off cap ro row,y=.slice b off m cap∧η.f b=.live ro row∧b<η.nx∧off+m*s≤row.length∧k.length=m*s∧(row.drop off).take (m*s)=k:=by
  rcases hy with ⟨h,_⟩|h
  ·omega
  ·exact h
 have hpos:0<m*s:=Nat.mul_pos hm hs
 rw[apSrc_sl,if_neg (by omega),h1,rowN_at,if_pos h3,h5,apRow_s]
 have out:∀(η1:HN),η1.nx=η.nx→(∀b,b<η.nx→¬blkIs x b→η1.f b=η.f b)→OwnA s base (η1.new (.live false (l++k))) (.slice η.nx 0 (n+m) (.un s)) (n+m) (l++k)∧(η1.new (.live false (l++k))).nx=η.nx+1∧∀b,b<η.nx→¬blkIs x b→(η1.new (.live false (l++k))).f b=η.f b:=fun η1 e1 e2 =>
  ⟨⟨by rw[List.length_append,hx.1,h4,Nat.add_mul],.inr ⟨η.nx,hb,by show η.nx<η1.nx+1;omega,.inr ⟨rfl,by show(if η.nx=η1.nx then _ else _)=_;rw[if_pos e1.symm]⟩⟩⟩,by show η1.nx+1=_;omega,fun b hb hne=>by show(if b=η1.nx then _ else _)=_;rw[if_neg (by omega)];exact e2 b hb hne⟩
 obtain⟨h0,⟨rfl,rfl⟩|⟨c,hc1,hc2,⟨rfl,rfl,row2,hr⟩|⟨rfl,hr⟩⟩⟩:=hx
 ·obtain rfl:l=[]:=List.eq_nil_of_length_eq_zero (by omega)
  rw[Nat.zero_add]at hlen
  have e:apN s w .nilslice m k η=.ok (.slice η.nx 0 (0+m) (.un s)) (η.new (.live false ([]++k))):=by
   show(if m=0 then _ else if m*w≤_ then _ else _)=_
   rw[if_neg (by omega),if_pos hlen,Nat.zero_add];rfl
  exact⟨_,e,out η rfl fun _ _ _=>rfl⟩
 ·obtain rfl:l=[]:=List.eq_nil_of_length_eq_zero (by omega)
  have e:apN s w (.slice c 0 0 (.kn 0)) m k η=.ok (.slice η.nx 0 (0+m) (.un s)) (η.new (.live false ([]++k))):=by
   show(if(0+m)*w≤_ then(if m=0 then _ else apKn c 0 0 s m 0 k (η.f c) η) else _)=_
   rw[if_pos hlen,if_neg (by omega),apKn_new (by omega),hr,rowN_at,if_pos (by omega)]
   simp [apNewN]
  exact⟨_,e,out η rfl fun _ _ _=>rfl⟩
 ·have e:apN s w (.slice c 0 n (.un s)) m k η=.ok (.slice η.nx 0 (n+m) (.un s)) ((η.put c .none).new (.live false (l++k))):=by
   show(if(n+m)*w≤_ then(if m=0 then _ else if s=s then apUn c 0 n s m k (η.f c) η else _) else _)=_
   rw[if_pos hlen,if_neg (by omega),if_pos rfl,hr,apUn_at,if_neg (by omega),if_pos ⟨by omega,h4⟩]
   rfl
  exact⟨_,e,out (η.put c .none) rfl fun b _ hne=>by show(if b=c then _ else _)=_;rw[if_neg (fun q=>hne q.symm)]⟩
structure Grow (T:Nat→Nat) (lo:Nat) (η:HN) (t s:Nat) (x:AV) (n:Nat) (l:List AV):Prop where
 own:OwnA s lo η x n l
 tag:∀b,blkIs x b→T b=t
section
variable {P:Program} {C:Spec} {d:Option Nat} {φ:FN}
end
theorem RdA.lits {s n:Nat} {η:HN} {row:List AV} {c:Cp} (h:row.length=n*s):RdA s (η.new (.live false row)) (.slice η.nx 0 n c) n row:=.inr ⟨η.nx,0,c,false,row,rfl,by show(if η.nx=η.nx then _ else _)=_;rw[if_pos rfl],Nat.lt_succ_self _,by omega,h,by rw[List.drop_zero,List.take_of_length_le (by omega)]⟩
end Go.Eng
namespace Go.Eng
set_option autoImplicit false
end Go.Eng
namespace Go.Eng
set_option autoImplicit false
end Go.Eng
namespace Go.Eng
set_option autoImplicit false
section
variable {P:Program} {φ:FN} {η:HN}
end
end Go.Eng
