/- What is proved: arguments of any type out of bools, ints, strings, slices and structs, laid for the calculus. Conditions: none. -/
import Derived.Test.YtkggpdaglhnonaaWL
set_option linter.unusedVariables false
set_option linter.unusedSimpArgs false
set_option linter.unusedSectionVars false
namespace Go.Eng
set_option autoImplicit false
def RdA (s:Nat) (η:HN) (y:AV) (n:Nat) (l:List AV):Prop:=(n = 0 ∧ l = [] ∧ (y = .nilslice ∨ ∃ b off cap,y = .slice b off 0 cap)) ∨
 ∃ b off cap ro row,y = .slice b off n cap ∧ η.f b = .live ro row ∧ b < η.nx ∧ off + n * s ≤ row.length ∧ l.length = n * s ∧ (row.drop off).take (n * s) = l
def OwnA (s base:Nat) (η:HN) (x:AV) (n:Nat) (l:List AV):Prop:=l.length = n * s ∧ ((x = .nilslice ∧ n = 0) ∨ ∃ b,base ≤ b ∧ b < η.nx ∧ ((x = .slice b 0 0 (.kn 0) ∧ n = 0 ∧ ∃ row,η.f b = .live false row) ∨ (x = .slice b 0 n (.un s) ∧ η.f b = .live false l)))
theorem OwnA.rd {s base n:Nat} {η:HN} {x:AV} {l:List AV} (h:OwnA s base η x n l):RdA s η x n l:=by
 obtain ⟨h0,⟨rfl,rfl⟩ | ⟨b,h1,h2,⟨rfl,rfl,_⟩ | ⟨rfl,h3⟩⟩⟩:=h
 ·exact .inl ⟨rfl,List.eq_nil_of_length_eq_zero (by omega),.inl rfl⟩
 ·exact .inl ⟨rfl,List.eq_nil_of_length_eq_zero (by omega),.inr ⟨_,_,_,rfl⟩⟩
 ·exact .inr ⟨b,0,_,false,l,rfl,h3,h2,by omega,h0,by rw [List.drop_zero,List.take_of_length_le (by omega)]⟩
theorem OwnA.nil {s base:Nat} {η:HN}:OwnA s base η .nilslice 0 []:=⟨by simp,.inl ⟨rfl,rfl⟩⟩
theorem OwnA.new0 {s:Nat} {η:HN} {row:List AV}:OwnA s η.nx (η.new (.live false row)) (.slice η.nx 0 0 (.kn 0)) 0 []:=⟨by simp,.inr ⟨η.nx,Nat.le_refl _,Nat.lt_succ_self _,.inl ⟨rfl,rfl,row,by show (if η.nx = η.nx then _ else _) = _; rw [if_pos rfl]⟩⟩⟩
theorem OwnA.mono {s base base' n:Nat} {η:HN} {x:AV} {l:List AV} (h:OwnA s base η x n l) (hb:base' ≤ base):OwnA s base' η x n l:=by
 obtain ⟨h0,h | ⟨b,h1,h2⟩⟩:=h
 ·exact ⟨h0,.inl h⟩
 ·exact ⟨h0,.inr ⟨b,by omega,h2⟩⟩
theorem app_cells {s w base n m:Nat} {η:HN} {x:AV} {l new:List AV} (hs:0 < s) (hx:OwnA s base η x n l) (hm:new.length = m * s) (hlen:(n + m) * w ≤ 140737488355328) (hb:base ≤ η.nx) :
  ∃ x' η',apN s w x m new η = .ok x' η' ∧ OwnA s base η' x' (n + m) (l ++ new) ∧ ExtB base η η':=by
 obtain ⟨h0,hx⟩:=hx
 by_cases hm0:m = 0
 ·subst hm0
  obtain rfl:new = []:=List.eq_nil_of_length_eq_zero (by omega)
  refine ⟨x,η,?_,⟨by rw [List.append_nil]; exact h0,by rw [List.append_nil]; exact hx⟩,.refl _ _⟩
  rcases hx with ⟨rfl,rfl⟩ | ⟨b,_,_,⟨rfl,rfl,_⟩ | ⟨rfl,_⟩⟩
  ·rfl
  ·show (if (0 + 0) * w ≤ _ then _ else _) = _
   rw [if_pos (by omega),if_pos rfl]
  ·show (if (n + 0) * w ≤ _ then _ else _) = _
   rw [if_pos (by omega),if_pos rfl]
 ·rcases hx with ⟨rfl,rfl⟩ | ⟨b,hb1,hb2,⟨rfl,rfl,row,hr⟩ | ⟨rfl,hr⟩⟩
  ·obtain rfl:l = []:=List.eq_nil_of_length_eq_zero (by omega)
   rw [Nat.zero_add] at hlen
   refine ⟨.slice η.nx 0 m (.un s),η.new (.live false new),?_,⟨by rw [List.nil_append,hm,Nat.zero_add],.inr ⟨η.nx,hb,Nat.lt_succ_self _,.inr ⟨by rw [Nat.zero_add],?_⟩⟩⟩,.new hb⟩
   ·show (if m = 0 then _ else if m * w ≤ _ then _ else _) = _
    rw [if_neg hm0,if_pos hlen]
   ·show (if η.nx = η.nx then _ else _) = _; rw [if_pos rfl,List.nil_append]
  ·obtain rfl:l = []:=List.eq_nil_of_length_eq_zero (by omega)
   refine ⟨.slice η.nx 0 (0 + m) (.un s),η.new (.live false new),?_,⟨by rw [List.nil_append,hm,Nat.zero_add],.inr ⟨η.nx,hb,Nat.lt_succ_self _,.inr ⟨rfl,?_⟩⟩⟩,.new hb⟩
   ·show (if (0 + m) * w ≤ _ then (if m = 0 then _ else apKn b 0 0 s m 0 new (η.f b) η) else _) = _
    rw [if_pos hlen,if_neg hm0,apKn_new (by omega),hr,rowN_at,if_pos (by omega)]
    simp [apNewN]
   ·show (if η.nx = η.nx then _ else _) = _; rw [if_pos rfl,List.nil_append]
  ·refine ⟨.slice η.nx 0 (n + m) (.un s),(η.put b .none).new (.live false (l ++ new)),?_,⟨by rw [List.length_append,h0,hm,Nat.add_mul],.inr ⟨η.nx,hb,Nat.lt_succ_self _,.inr ⟨rfl,?_⟩⟩⟩,ExtB.trans (.put hb1) (.new (by show base ≤ η.nx; omega))⟩
   ·show (if (n + m) * w ≤ _ then (if m = 0 then _ else if s = s then apUn b 0 n s m new (η.f b) η else _) else _) = _
    have hpos:0 < m * s:=Nat.mul_pos (by omega) hs
    rw [if_pos hlen,if_neg hm0,if_pos rfl,hr,apUn_at,if_neg (by omega),if_pos ⟨by omega,hm⟩]
    rfl
   ·show (if η.nx = η.nx then _ else _) = _; rw [if_pos rfl]
theorem app_A {s w base n m:Nat} {η:HN} {x y:AV} {l k:List AV} (hs:0 < s) (hx:OwnA s base η x n l) (hy:RdA s η y m k) (hlen:(n + m) * w ≤ 140737488355328) (hb:base ≤ η.nx) :
  ∃ x' η',apSrcN s w x y η = .ok x' η' ∧ OwnA s base η' x' (n + m) (l ++ k) ∧ ExtB base η η':=by
 rcases hy with ⟨rfl,rfl,rfl | ⟨b,off,cap,rfl⟩⟩ | ⟨b,off,cap,ro,row,rfl,h1,_,h2,h3,h4⟩
 ·exact app_cells hs hx (by simp) hlen hb
 ·obtain ⟨x',η',e,r⟩:=app_cells (new:=[]) hs hx (by simp) hlen hb
  exact ⟨x',η',by rw [apSrc_sl,if_pos rfl]; exact e,r⟩
 ·obtain ⟨x',η',e,r⟩:=app_cells hs hx h3 hlen hb
  refine ⟨x',η',?_,r⟩
  rw [apSrc_sl]
  by_cases h0:m = 0
  ·subst h0
   obtain rfl:k = []:=List.eq_nil_of_length_eq_zero (by omega)
   rw [if_pos rfl]; exact e
  ·rw [if_neg h0,h1,rowN_at,if_pos h2,h4]
   exact e
section
variable {P:Program} {C:Spec} {all:List Oper} {K:FN → HN → Prop} {nx0:Nat} {ks:List DK} {r:List Oper} {j:Nat} {d:Option Nat} {φ:FN} {ηs:List HN} {rs:List RecN}
theorem thenN_app {s w base n m:Nat} {η:HN} {x y:AV} {l k:List AV} {kk:FN → HN → Prop} (hs:0 < s) (hx:OwnA s base η x n l) (hy:RdA s η y m k) (hlen:(n + m) * w ≤ 140737488355328) (hb:base ≤ η.nx)
  (h:∀ x' η',OwnA s base η' x' (n + m) (l ++ k) → ExtB base η η' → kk (putN d x' φ) η'):thenN C (apSrcN s w x y η) η d kk φ:=by
 obtain ⟨x',η',e,o,E⟩:=app_A (w:=w) hs hx hy hlen hb
 rw [e]
 exact h x' η' o E
end
theorem RdR.toA {s:Nat} {η:HN} {y:AV} {ls:List (List AV)} (h:RdR s η y ls):RdA s η y ls.length ls.flatten:=by
 rcases h with ⟨rfl,h⟩ | ⟨b,off,cap,ro,row,h1,h2,h3,h4,h5,h6⟩
 ·exact .inl ⟨rfl,rfl,h⟩
 ·exact .inr ⟨b,off,cap,ro,row,h1,h2,h3,h4,flat_len ls h5,h6⟩
end Go.Eng
namespace Go.Eng
set_option autoImplicit false
open Go.ChangeShapes Go.WideShapes
section
variable {P:Program} {w:World}
end
section
variable {H:Type} {enc:TypeId × Value → H} {P:Program} {w:World}
end
end Go.Eng
namespace Go.Eng
set_option autoImplicit false
open Go.ChangeShapes Go.WideShapes
section
variable {H:Type} {enc:TypeId × Value → H} {P:Program} {w:World}
end
end Go.Eng
