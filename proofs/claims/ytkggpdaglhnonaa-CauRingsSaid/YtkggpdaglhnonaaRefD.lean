/- What is proved: what the document's check of kinds does. what the document's clock of an expression does. Conditions: as each theorem says. -/
import Derived.Test.YtkggpdaglhnonaaRefC
set_option linter.unusedVariables false
set_option linter.unusedSimpArgs false
set_option linter.unusedSectionVars false
namespace Go.Plain
open Go.Eng
set_option autoImplicit false
end Go.Plain
namespace Go.Proofs.Ytkggpdaglhnonaa
open Go.Eng Go.Plain
set_option autoImplicit false
set_option maxRecDepth 100000
variable {nat:∀ [Deep],Nats}
end Go.Proofs.Ytkggpdaglhnonaa
namespace Go.Plain
open Go.Eng
set_option autoImplicit false
def RowA (lo:Nat) (η:HN) (x:AV) (l:List AV):Prop:=(x = .nilslice ∧ l = []) ∨ ∃ b,lo ≤ b ∧ b < η.nx ∧ x = .slice b 0 l.length (.un 1) ∧ l ≠ [] ∧ η.f b = .live false l
theorem RowA.own {lo:Nat} {η:HN} {x:AV} {l:List AV} (h:RowA lo η x l):OwnA 1 lo η x l.length l:=by
 rcases h with ⟨rfl,rfl⟩ | ⟨b,h1,h2,rfl,h3,h4⟩
 ·exact ⟨rfl,.inl ⟨rfl,rfl⟩⟩
 ·exact ⟨(Nat.mul_one _).symm,.inr ⟨b,h1,h2,.inr ⟨rfl,h4⟩⟩⟩
theorem RowA.rd {lo:Nat} {η:HN} {x:AV} {l:List AV} (h:RowA lo η x l):RdR 1 η x (l.map fun v=>[v]):=by
 have fl:∀ l:List AV,(l.map fun v=>[v]).flatten = l:=fun l=>by
  induction l with
  | nil=>rfl
  | cons a l ih=>show a :: (l.map fun v=>[v]).flatten = a :: l; rw [ih]
 rcases h with ⟨rfl,rfl⟩ | ⟨b,h1,h2,rfl,h3,h4⟩
 ·exact .inl ⟨rfl,.inl rfl⟩
 ·have:=RdR.blk (s:=1) (cap:=.un 1) (l.map fun v=>[v]) (by rw [fl]; exact h4) h2 (fun l hl=>by obtain ⟨v,_,rfl⟩:=List.mem_map.1 hl; rfl)
  rw [List.length_map] at this
  exact this
theorem rowA_app {w lo:Nat} {η:HN} {x v:AV} {l:List AV} {zb:Nat} {c:Cp} (h:RowA lo η x l) (hz:η.f zb = .live false [v]) (hzn:zb < η.nx) (hlen:(l.length + 1) * w ≤ 140737488355328) (hb:lo ≤ η.nx) :
  ∃ η',apSrcN 1 w x (.slice zb 0 1 c) η = .ok (.slice η.nx 0 (l.length + 1) (.un 1)) η' ∧ RowA lo η' (.slice η.nx 0 (l.length + 1) (.un 1)) (l ++ [v]) ∧ η'.nx = η.nx + 1 ∧ ∀ b,b < η.nx → ¬ blkIs x b → η'.f b = η.f b:=by
 obtain ⟨η',e,o,hn,hk⟩:=app_sep (s:=1) (w:=w) (base:=lo) (m:=1) (k:=[v]) (by decide) h.own (.inr ⟨zb,0,_,false,_,rfl,hz,hzn,Nat.le_refl _,rfl,rfl⟩) (by decide) hlen hb
 refine ⟨η',e,.inr ⟨η.nx,hb,by omega,by rw [List.length_append]; rfl,by simp,?_⟩,hn,hk⟩
 obtain ⟨_,⟨q,_⟩ | ⟨b,h1,h2,⟨q,g,_⟩ | ⟨q,h4⟩⟩⟩:=o
 ·cases q
 ·omega
 ·cases q; exact h4
theorem RowA.keep {lo:Nat} {η η':HN} {x:AV} {l:List AV} (h:RowA lo η x l) (hn:η.nx ≤ η'.nx) (hk:∀ b,lo ≤ b → b < η.nx → η.f b = .live false l → η'.f b = η.f b):RowA lo η' x l:=by
 rcases h with h | ⟨b,h1,h2,h3,h4,h5⟩
 ·exact .inl h
 ·exact .inr ⟨b,h1,by omega,h3,h4,(hk b h1 h2 h5).trans h5⟩
theorem RowA.blk {lo:Nat} {η:HN} {x:AV} {l:List AV} (h:RowA lo η x l) {b:Nat} (hb:blkIs x b):lo ≤ b ∧ b < η.nx ∧ l ≠ [] ∧ η.f b = .live false l:=by
 rcases h with ⟨rfl,_⟩ | ⟨c,h1,h2,rfl,h4,h5⟩
 ·exact hb.elim
 ·obtain rfl:c = b:=hb
  exact ⟨h1,h2,h4,h5⟩
end Go.Plain
namespace Go.Proofs.Ytkggpdaglhnonaa
open Go.Eng Go.Plain
set_option autoImplicit false
set_option maxRecDepth 100000
variable {nat:∀ [Deep],Nats}
end Go.Proofs.Ytkggpdaglhnonaa
