/- What is proved: arguments of any type out of bools, ints, strings, slices and structs, laid for the calculus. Conditions: none. -/
import Derived.Test.YtdeejbnhlbddgaaGreatDoorWL
set_option linter.unusedVariables false
set_option linter.unusedSimpArgs false
set_option linter.unusedSectionVars false
namespace Go.Eng
set_option autoImplicit false
def RdA (s:Nat) (η:HN) (y:AV) (n:Nat) (l:List AV):Prop:=(n=0∧l=[]∧(y=.nilslice∨∃b off cap,y=.slice b off 0 cap)) ∨
 ∃b off cap ro row,y=.slice b off n cap∧η.f b=.live ro row∧b<η.nx∧off+n*s≤row.length∧l.length=n*s∧(row.drop off).take (n*s)=l
def OwnA (s base:Nat) (η:HN) (x:AV) (n:Nat) (l:List AV):Prop:=l.length=n*s∧((x=.nilslice∧n=0)∨∃b,base≤b∧b<η.nx∧((x=.slice b 0 0 (.kn 0)∧n=0∧∃row,η.f b=.live false row)∨(x=.slice b 0 n (.un s)∧η.f b=.live false l)))
theorem OwnA.rd {s base n:Nat} {η:HN} {x:AV} {l:List AV} (h:OwnA s base η x n l):RdA s η x n l:=by
 obtain⟨h0,⟨rfl,rfl⟩|⟨b,h1,h2,⟨rfl,rfl,_⟩|⟨rfl,h3⟩⟩⟩:=h
 ·exact .inl ⟨rfl,List.eq_nil_of_length_eq_zero (by omega),.inl rfl⟩
 ·exact .inl ⟨rfl,List.eq_nil_of_length_eq_zero (by omega),.inr ⟨_,_,_,rfl⟩⟩
 ·exact .inr ⟨b,0,_,false,l,rfl,h3,h2,by omega,h0,by rw[List.drop_zero,List.take_of_length_le (by omega)]⟩
theorem OwnA.nil {s base:Nat} {η:HN}:OwnA s base η .nilslice 0 []:=⟨by simp,.inl ⟨rfl,rfl⟩⟩
theorem OwnA.new0 {s:Nat} {η:HN} {row:List AV}:OwnA s η.nx (η.new (.live false row)) (.slice η.nx 0 0 (.kn 0)) 0 []:=⟨by simp,.inr ⟨η.nx,Nat.le_refl _,Nat.lt_succ_self _,.inl ⟨rfl,rfl,row,by show(if η.nx=η.nx then _ else _)=_;rw[if_pos rfl]⟩⟩⟩
theorem OwnA.mono {s base base' n:Nat} {η:HN} {x:AV} {l:List AV} (h:OwnA s base η x n l) (hb:base'≤base):OwnA s base' η x n l:=by
 obtain⟨h0,h|⟨b,h1,h2⟩⟩:=h
 ·exact⟨h0,.inl h⟩
 ·exact⟨h0,.inr ⟨b,by omega,h2⟩⟩
theorem app_cells {s w base n m:Nat} {η:HN} {x:AV} {l new:List AV} (hs:0<s) (hx:OwnA s base η x n l) (hm:new.length=m*s) (hlen:(n+m)*w≤140737488355328) (hb:base≤η.nx) :
  ∃x' η',apN s w x m new η=.ok x' η'∧OwnA s base η' x' (n+m) (l++new)∧ExtB base η η':=by
 obtain⟨h0,hx⟩:=hx
 by_cases hm0:m=0
 ·subst hm0
  obtain rfl:new=[]:=List.eq_nil_of_length_eq_zero (by omega)
  refine⟨x,η,?_,⟨by rw[List.append_nil];exact h0,by rw[List.append_nil];exact hx⟩,.refl _ _⟩
  rcases hx with ⟨rfl,rfl⟩|⟨b,_,_,⟨rfl,rfl,_⟩|⟨rfl,_⟩⟩
  ·rfl
  ·show(if(0+0)*w≤_ then _ else _)=_
   rw[if_pos (by omega),if_pos rfl]
  ·show(if(n+0)*w≤_ then _ else _)=_
   rw[if_pos (by omega),if_pos rfl]
 ·rcases hx with ⟨rfl,rfl⟩|⟨b,hb1,hb2,⟨rfl,rfl,row,hr⟩|⟨rfl,hr⟩⟩
  ·obtain rfl:l=[]:=List.eq_nil_of_length_eq_zero (by omega)
   rw[Nat.zero_add]at hlen
   refine⟨.slice η.nx 0 m (.un s),η.new (.live false new),?_,⟨by rw[List.nil_append,hm,Nat.zero_add],.inr ⟨η.nx,hb,Nat.lt_succ_self _,.inr ⟨by rw[Nat.zero_add],?_⟩⟩⟩,.new hb⟩
   ·show(if m=0 then _ else if m*w≤_ then _ else _)=_
    rw[if_neg hm0,if_pos hlen]
   ·show(if η.nx=η.nx then _ else _)=_;rw[if_pos rfl,List.nil_append]
  ·obtain rfl:l=[]:=List.eq_nil_of_length_eq_zero (by omega)
   refine⟨.slice η.nx 0 (0+m) (.un s),η.new (.live false new),?_,⟨by rw[List.nil_append,hm,Nat.zero_add],.inr ⟨η.nx,hb,Nat.lt_succ_self _,.inr ⟨rfl,?_⟩⟩⟩,.new hb⟩
   ·show(if(0+m)*w≤_ then(if m=0 then _ else apKn b 0 0 s m 0 new (η.f b) η) else _)=_
    rw[if_pos hlen,if_neg hm0,apKn_new (by omega),hr,rowN_at,if_pos (by omega)]
    simp [apNewN]
   ·show(if η.nx=η.nx then _ else _)=_;rw[if_pos rfl,List.nil_append]
  ·refine⟨.slice η.nx 0 (n+m) (.un s),(η.put b .none).new (.live false (l++new)),?_,⟨by rw[List.length_append,h0,hm,Nat.add_mul],.inr ⟨η.nx,hb,Nat.lt_succ_self _,.inr ⟨rfl,?_⟩⟩⟩,ExtB.trans (.put hb1) (.new (by show base≤η.nx;omega))⟩
   ·show(if(n+m)*w≤_ then(if m=0 then _ else if s=s then apUn b 0 n s m new (η.f b) η else _) else _)=_
    have hpos:0<m*s:=Nat.mul_pos (by omega) hs
    rw[if_pos hlen,if_neg hm0,if_pos rfl,hr,apUn_at,if_neg (by omega),if_pos ⟨by omega,hm⟩]
    rfl
   ·show(if η.nx=η.nx then _ else _)=_;rw[if_pos rfl]
theorem app_A {s w base n m:Nat} {η:HN} {x y:AV} {l k:List AV} (hs:0<s) (hx:OwnA s base η x n l) (hy:RdA s η y m k) (hlen:(n+m)*w≤140737488355328) (hb:base≤η.nx) :
  ∃x' η',apSrcN s w x y η=.ok x' η'∧OwnA s base η' x' (n+m) (l++k)∧ExtB base η η':=by
 rcases hy with ⟨rfl,rfl,rfl|⟨b,off,cap,rfl⟩⟩|⟨b,off,cap,ro,row,rfl,h1,_,h2,h3,h4⟩
 ·exact app_cells hs hx (by simp) hlen hb
 ·obtain⟨x',η',e,r⟩:=app_cells (new:=[]) hs hx (by simp) hlen hb
  exact⟨x',η',by rw[apSrc_sl,if_pos rfl];exact e,r⟩
 ·obtain⟨x',η',e,r⟩:=app_cells hs hx h3 hlen hb
  refine⟨x',η',?_,r⟩
  rw[apSrc_sl]
  by_cases h0:m=0
  ·subst h0
   obtain rfl:k=[]:=List.eq_nil_of_length_eq_zero (by omega)
   rw[if_pos rfl];exact e
  ·rw[if_neg h0,h1,rowN_at,if_pos h2,h4]
   exact e
section
variable {P:Program} {C:Spec} {all:List Oper} {K:FN→HN→Prop} {nx0:Nat} {ks:List DK} {r:List Oper} {j:Nat} {d:Option Nat} {φ:FN} {ηs:List HN} {rs:List RecN}
theorem thenN_app {s w base n m:Nat} {η:HN} {x y:AV} {l k:List AV} {kk:FN→HN→Prop} (hs:0<s) (hx:OwnA s base η x n l) (hy:RdA s η y m k) (hlen:(n+m)*w≤140737488355328) (hb:base≤η.nx)
  (h:∀x' η',OwnA s base η' x' (n+m) (l++k)→ExtB base η η'→kk (putN d x' φ) η'):thenN C (apSrcN s w x y η) η d kk φ:=by
 obtain⟨x',η',e,o,E⟩:=app_A (w:=w) hs hx hy hlen hb
 rw[e]
 exact h x' η' o E
end
end Go.Eng
namespace Go.Eng
set_option autoImplicit false
open Go.ChangeShapes Go.WideShapes
def LayC (P:Program) (w:World) (us:List Value) (R:HN→List AV→Prop):Prop:=∃xs:List (Nat×Nat×Nat),∀p0 T:Nat,∃(bs:List (List AV)) (zs:List AV),bs.length=xs.length ∧
 ∀(all:List (List AV)) (X:Nat→Nat×Nat×Nat),all.length=T→(∀i,i<xs.length→all[p0+i]?=bs[i]?∧X (p0+i)=xs.getD i (0,0,0))→p0+xs.length≤T →
  @VL noEnv (renS P T X) zs us∧(∀i l,bs[i]?=some l→@BR noEnv (renS P T X) (roBlk l) (xs.getD i (0,0,0)).1 (xs.getD i (0,0,0)).2.1 (xs.getD i (0,0,0)).2.2 w)∧R (startH P all) zs
section
variable {P:Program} {w:World}
theorem LayC.mono {us:List Value} {R R':HN→List AV→Prop} (h:LayC P w us R) (k:∀η zs,R η zs→R' η zs):LayC P w us R':=by
 obtain⟨xs,h⟩:=h
 refine⟨xs,fun p0 T=>?_⟩
 obtain⟨bs,zs,h1,h2⟩:=h p0 T
 exact⟨bs,zs,h1,fun all X a b c=>by obtain⟨x,y,z⟩:=h2 all X a b c;exact⟨x,y,k _ _ z⟩⟩
theorem LayC.flat {us:List Value} {zs:List AV} (h:∀ρ,@VL noEnv ρ zs us):LayC P w us fun _ z=>z=zs :=
 ⟨[],fun p0 T=>⟨[],zs,rfl,fun all X _ _ _=>⟨h _,fun i l hi=>by simp at hi,rfl⟩⟩⟩
theorem LayC.app {us vs:List Value} {R S:HN→List AV→Prop} (h:LayC P w us R) (k:LayC P w vs S):LayC P w (us++vs) fun η z=>∃a b,z=a++b∧a.length=us.length∧b.length=vs.length∧R η a∧S η b:=by
 obtain⟨x1,h⟩:=h
 obtain⟨x2,k⟩:=k
 refine⟨x1++x2,fun p0 T=>?_⟩
 obtain⟨b1,z1,e1,h⟩:=h p0 T
 obtain⟨b2,z2,e2,k⟩:=k (p0+x1.length) T
 refine⟨b1++b2,z1++z2,by rw[List.length_append,List.length_append,e1,e2],fun all X hT hX hle=>?_⟩
 rw[List.length_append]at hX hle
 have g1:∀i,i<x1.length→(x1++x2).getD i (0,0,0)=x1.getD i (0,0,0):=fun i hi=>by rw[List.getD_eq_getElem?_getD,List.getElem?_append_left hi,List.getD_eq_getElem?_getD]
 have g2:∀i,(x1++x2).getD (x1.length+i) (0,0,0)=x2.getD i (0,0,0):=fun i=>by rw[List.getD_eq_getElem?_getD,List.getElem?_append_right (by omega),Nat.add_sub_cancel_left,List.getD_eq_getElem?_getD]
 obtain⟨v1,r1,q1⟩:=h all X hT (fun i hi=>by
  obtain⟨a,b⟩:=hX i (by omega)
  rw[List.getElem?_append_left (by omega)]at a
  exact⟨a,by rw[b,g1 i hi]⟩) (by omega)
 obtain⟨v2,r2,q2⟩:=k all X hT (fun i hi=>by
  obtain⟨a,b⟩:=hX (x1.length+i) (by omega)
  rw[List.getElem?_append_right (by omega),show x1.length+i-b1.length=i by omega]at a
  rw[Nat.add_assoc]
  exact⟨a,by rw[b,g2 i]⟩) (by omega)
 letI:Env:=noEnv
 letI:Deep:=⟨0,0⟩
 refine⟨VL.append v1 v2,fun i l hi=>?_,z1,z2,rfl,(VL.length v1).symm,(VL.length v2).symm,q1,q2⟩
 by_cases hb:i<b1.length
 ·rw[List.getElem?_append_left hb]at hi
  rw[g1 i (by omega)]
  exact r1 i l hi
 ·rw[List.getElem?_append_right (by omega)]at hi
  have:=g2 (i-b1.length)
  rw[show x1.length+(i-b1.length)=i by omega]at this
  rw[this]
  exact r2 _ l hi
theorem LayC.withLen {us:List Value} {R:HN→List AV→Prop} (h:LayC P w us R):LayC P w us fun η z=>z.length=us.length∧R η z:=by
 obtain⟨x1,L⟩:=h
 refine⟨x1,fun p0 T=>?_⟩
 obtain⟨b1,z1,e1,L⟩:=L p0 T
 refine⟨b1,z1,e1,fun all X a b c=>?_⟩
 obtain⟨v1,v2,v3⟩:=L all X a b c
 exact⟨v1,v2,(@VL.length ⟨0,0⟩ noEnv _ _ _ v1).symm,v3⟩
theorem LayC.list {α:Type} {U:α→List Value} {R:α→HN→List AV→Prop}:∀(gs:List α),(∀g∈gs,LayC P w (U g) (R g)) →
  LayC P w (gs.map U).flatten fun η z=>∃zss:List (List AV),z=zss.flatten∧zss.length=gs.length∧∀(j:Nat) (g:α),gs[j]?=some g→∃y,zss[j]?=some y∧y.length=(U g).length∧R g η y
 | [],_=>(LayC.flat (us:=[]) (zs:=[]) fun _=>@VL.nil ⟨0,0⟩ noEnv _).mono fun η z e=>⟨[],by rw[e];rfl,rfl,fun j g h=>by simp at h⟩
 |g::gs,h=>by
  have:=(h g (by simp)).app (LayC.list gs fun g' hg=>h g' (List.mem_cons_of_mem _ hg))
  rw[List.map_cons,List.flatten_cons]
  refine this.mono fun η z ⟨a,b,e,la,lb,ra,zss,eb,hl,hz⟩=>⟨a::zss,by rw[e,eb];rfl,by simp [hl],fun j g' hj=>?_⟩
  cases j with
  |zero=>simp at hj;subst hj;exact⟨a,rfl,la,ra⟩
  |succ j=>simpa using hz j g' (by simpa using hj)
end
def contig (P:Program):List Field→Nat→Nat→Bool
 | [],o,n=>Nat.beq o n
 |f::r,o,n=>Nat.beq f.offset o&&contig P r (o+P.cellsOf f.type) n
def plainTy (P:Program):Nat→TypeId→Bool
 |0,_=>false
 |m+1,t=>match P.underlying t with
  |some .bool=>true
  |some (.int _)=>true
  |some .string=>true
  |some (.slice e)=>Nat.ble 1 (P.cellsOf e)&&plainTy P m e
  |some (.struct fs)=>contig P fs.toList 0 (P.cellsOf t)&&fs.toList.all fun f=>plainTy P m f.type
  |_=>false
def RepT {H:Type} (P:Program) (η:HN):Nat→TypeId→List AV→DataW H→Prop
 |0,_,_,_=>False
 |m+1,t,cs,d=>match P.underlying t with
  |some .bool=>∃b,cs=[.bool b]∧d=.lit (.bool b)
  |some (.int k)=>∃z,cs=[.int k (res k z)]∧d=.lit (.int k z)∧(Lit.int k z).wf=true
  |some .string=>∃s:ByteArray,cs=[.str s.data.toList.length (codesL s.data.toList)]∧d=.lit (.string s.data.toList)∧s.size≤maxLen
  |some (.slice e)=>(cs=[.nilslice]∧d=.nil)∨∃xs rest,d=.slice xs rest∧xs.length≤maxLen∧((xs=[]∧∃b c,cs=[.slice b 0 0 c]) ∨
    ∃b c row,cs=[.slice b 0 xs.length (.kn c)]∧η.f b=.live true row∧b<η.nx∧row.length=xs.length*P.cellsOf e∧xs.length≤c∧∀(i:Nat) (x:DataW H),xs[i]?=some x→RepT P η m e ((row.drop (i*P.cellsOf e)).take (P.cellsOf e)) x)
  |some (.struct fs)=>∃xs,d=.agg xs∧xs.length=fs.size∧cs.length=P.cellsOf t∧∀(i:Nat) (f:Field) (x:DataW H),fs[i]?=some f→xs[i]?=some x→RepT P η m f.type ((cs.drop f.offset).take (P.cellsOf f.type)) x
  |_=>False
section
variable {H:Type} {enc:TypeId×Value→H} {P:Program} {w:World}
theorem VL1 {ρ:Ren} {z:AV} {u:Value} (h:@VR noEnv ρ z u):@VL noEnv ρ [z] [u]:=@VL.cons ⟨0,0⟩ noEnv _ _ _ _ _ h (@VL.nil ⟨0,0⟩ noEnv _)
theorem contig_cells:∀(l:List Field) (o n:Nat) (us:List Value),contig P l o n=true→us.length=n→o≤n→(l.map fun f=>(us.drop f.offset).take (P.cellsOf f.type)).flatten=us.drop o∧∀f∈l,f.offset+P.cellsOf f.type≤n
 | [],o,n,us,h,hu,_=>by
  have:o=n:=beq_true.1 h
  exact⟨by rw[List.drop_eq_nil_of_le (by omega)];rfl,fun f hf=>by cases hf⟩
 |f::l,o,n,us,h,hu,ho=>by
  obtain⟨h1,h2⟩:=Bool.and_eq_true_iff.1 h
  have h1:=beq_true.1 h1
  have le:∀(l:List Field) (o:Nat),contig P l o n=true→o≤n:=fun l=>by
   induction l with
   |nil=>intro o h;have:o=n:=beq_true.1 h;omega
   |cons f l ih=>intro o h;have:=ih _ (Bool.and_eq_true_iff.1 h).2;omega
  have hle:=le l _ h2
  obtain⟨e1,e2⟩:=contig_cells l (o+P.cellsOf f.type) n us h2 hu hle
  refine⟨?_,fun g hg=>?_⟩
  ·rw[List.map_cons,List.flatten_cons,e1,h1,←List.drop_drop]
   exact List.take_append_drop _ _
  ·rcases List.mem_cons.1 hg with rfl|hg
   ·omega
   ·exact e2 g hg
theorem wfK {k:IntKind} {n:Int} (h:(Lit.int k n).wf=true):k.wrap n=n:=by
 cases k<;>simp [Lit.wf,IntKind.wrap,IntKind.min,IntKind.max,IntKind.signed,IntKind.bits]at h ⊢<;>(try split)<;>omega
theorem contig_part:∀(l:List Field) (o n:Nat) (zss:List (List AV)),contig P l o n=true→zss.length=l.length→(∀(j:Nat) (f:Field) (z:List AV),l[j]?=some f→zss[j]?=some z→z.length=P.cellsOf f.type) →
  ∀(j:Nat) (f:Field) (z:List AV),l[j]?=some f→zss[j]?=some z→(zss.flatten.drop (f.offset-o)).take (P.cellsOf f.type)=z∧o≤f.offset
 | [],_,_,_,_,_,_,j,f,z,h,_=>by simp at h
 |g::l,o,n,[],_,hl,_,_,_,_,_,_=>by simp at hl
 |g::l,o,n,y::zss,hc,hl,hz,j,f,z,h1,h2=>by
  obtain⟨c1,c2⟩:=Bool.and_eq_true_iff.1 hc
  have c1:=beq_true.1 c1
  have hy:=hz 0 g y rfl rfl
  cases j with
  |zero =>
   simp at h1 h2
   subst h1 h2
   rw[c1,Nat.sub_self,List.drop_zero,List.flatten_cons,List.take_append_of_le_length (by omega),List.take_of_length_le (by omega)]
   exact⟨rfl,Nat.le_refl _⟩
  |succ j =>
   obtain⟨e1,e2⟩:=contig_part l (o+P.cellsOf g.type) n zss c2 (by simpa using hl) (fun j f z a b=>hz (j+1) f z (by simpa using a) (by simpa using b)) j f z (by simpa using h1) (by simpa using h2)
   refine⟨?_,by omega⟩
   rw[List.flatten_cons,show f.offset-o=y.length+(f.offset-(o+P.cellsOf g.type)) by omega,←List.drop_drop,List.drop_left]
   exact e1
theorem rows_cells {c:Array Value} {o s:Nat} {U:Nat→List Value}:∀(n:Nat),(∀j,j<n→(U j).length=s∧∀r,r<s→c[o+(j*s+r)]?=(U j)[r]?)→(((List.range n).map U).flatten).length=n*s∧∀i,i<n*s→c[o+i]?=(((List.range n).map U).flatten)[i]?
 |0,_=>⟨by simp,fun i hi=>by simp at hi⟩
 |n+1,h=>by
  obtain⟨h1,h2⟩:=rows_cells n fun j hj=>h j (by omega)
  obtain⟨e1,e2⟩:=h n (by omega)
  have e:((List.range (n+1)).map U).flatten=((List.range n).map U).flatten++U n:=by rw[List.range_succ,List.map_append,List.flatten_append];simp
  rw[e,Nat.succ_mul]
  refine⟨by rw[List.length_append,h1,e1],fun i hi=>?_⟩
  by_cases hlt:i<n*s
  ·rw[List.getElem?_append_left (by omega)];exact h2 i hlt
  ·rw[List.getElem?_append_right (by omega),h1,←e2 (i-n*s) (by omega)]
   congr 1;omega
theorem lay_trod:∀(m:Nat) (t:TypeId) (us:List Value) (d:DataW H) (ps:List MemPlace) (n:Nat),plainTy P m t=true→DataW.trod enc P w 0 (fun _=>true) true n t us=some (d,ps)→LayC P w us (fun η zs=>RepT P η m t zs d)∧∀u∈us,u.oneCell'=true
 |0,_,_,_,_,_,hp,_=>by cases hp
 |m+1,t,us,d,ps,n,hp,h=>by
  have rep:∀(η:HN) (zs:List AV),RepT P η (m+1) t zs d=(match P.underlying t with
   |some .bool=>∃b,zs=[.bool b]∧d=.lit (.bool b)
   |some (.int k)=>∃z,zs=[.int k (res k z)]∧d=.lit (.int k z)∧(Lit.int k z).wf=true
   |some .string=>∃s:ByteArray,zs=[.str s.data.toList.length (codesL s.data.toList)]∧d=.lit (.string s.data.toList)∧s.size≤maxLen
   |some (.slice e)=>(zs=[.nilslice]∧d=.nil)∨∃xs rest,d=.slice xs rest∧xs.length≤maxLen∧((xs=[]∧∃b c,zs=[.slice b 0 0 c]) ∨
    ∃b c row,zs=[.slice b 0 xs.length (.kn c)]∧η.f b=.live true row∧b<η.nx∧row.length=xs.length*P.cellsOf e∧xs.length≤c∧∀(i:Nat) (x:DataW H),xs[i]?=some x→RepT P η m e ((row.drop (i*P.cellsOf e)).take (P.cellsOf e)) x)
   |some (.struct fs)=>∃xs,d=.agg xs∧xs.length=fs.size∧zs.length=P.cellsOf t∧∀(i:Nat) (f:Field) (x:DataW H),fs[i]?=some f→xs[i]?=some x→RepT P η m f.type ((zs.drop f.offset).take (P.cellsOf f.type)) x
   |_=>False):=fun η zs=>by rw[RepT]
  unfold plainTy at hp
  split at hp
  ·rename_i ht
   obtain⟨b,rfl,e⟩:=DataW.trod_bool ht h
   cases e
   refine⟨(LayC.flat (zs:=[.bool b]) fun ρ=>VL1 (@VR_bool ⟨0,0⟩ noEnv ρ b _ |>.2 rfl)).mono fun η zs e=>?_,fun u hu=>by simp at hu;subst hu;rfl⟩
   rw[rep,ht];exact⟨b,e,rfl⟩
  ·rename_i k ht
   obtain⟨z,rfl,e,hw⟩:=DataW.trod_int ht h
   cases e
   refine⟨(LayC.flat (zs:=[.int k (res k z)]) fun ρ=>VL1 (@arg_int ⟨0,0⟩ noEnv ρ k z (wfK hw))).mono fun η zs e=>?_,fun u hu=>by simp at hu;subst hu;rfl⟩
   rw[rep,ht];exact⟨z,e,rfl,hw⟩
  ·rename_i ht
   obtain⟨s,rfl,e,hw⟩:=DataW.trod_string ht h
   cases e
   refine⟨(LayC.flat (zs:=[.str s.data.toList.length (codesL s.data.toList)]) fun ρ=>VL1 ((@VR_str ⟨0,0⟩ noEnv ρ _ _ _).2 ⟨s,rfl,rfl,rfl⟩)).mono fun η zs e=>?_,fun u hu=>by simp at hu;subst hu;rfl⟩
   rw[rep,ht];exact⟨s,e,rfl,hw⟩
  ·rename_i e ht
   obtain⟨hs,hp⟩:=Bool.and_eq_true_iff.1 hp
   have hs:1≤P.cellsOf e:=ble_true.1 hs
   rcases DataW.trod_slice ht h with ⟨rfl,e0⟩|⟨a,len,cap,elems,rest,n',rfl,rfl,e0,_,hlc,hcm,hel,hE,hR,_⟩
   ·cases e0
    refine⟨(LayC.flat (zs:=[.nilslice]) fun ρ=>VL1 vr_nil).mono fun η zs e=>?_,fun u hu=>by simp at hu;subst hu;rfl⟩
    rw[rep,ht];exact .inl ⟨e,rfl⟩
   cases e0
   refine⟨?_,fun u hu=>by simp at hu;subst hu;rfl⟩
   obtain⟨hrl,hR⟩:=hR rfl
   have hxl:(elems.map (·.1)).length=len:=by rw[List.length_map,hel]
   by_cases hc0:cap=0
   ·subst hc0
    obtain rfl:len=0:=by omega
    refine⟨[],fun p0 T=>⟨[],[.slice (P.globals.size+T) 0 0 (.kn 0)],rfl,fun all X _ _ _=>⟨VL1 vr_zero,fun i l hi=>by simp at hi,?_⟩⟩⟩
    dsimp only
    rw[rep,ht]
    exact .inr ⟨_,_,rfl,by omega,.inl ⟨List.eq_nil_of_length_eq_zero hxl,_,_,rfl⟩⟩
   have allc:∀j,j<cap→∃V,w.cells? 0 (a.add (j*P.cellsOf e)) (P.cellsOf e)=some V∧(j<len→∃y,elems[j]?=some y∧DataW.trod enc P w 0 (fun _=>true) true n' e V=some y):=fun j hj=>by
    by_cases hjl:j<len
    ·have q:=hE j hjl
     rw[List.getElem?_eq_getElem (by omega)]at q
     obtain⟨V,v1,v2⟩:=Option.bind_eq_some_iff.1 q
     exact⟨V,v1,fun _=>⟨_,List.getElem?_eq_getElem (by omega),v2⟩⟩
    ·have q:=hR (j-len) (by omega)
     rw[List.getElem?_eq_getElem (by omega),show len+(j-len)=j by omega]at q
     obtain⟨V,v1,v2⟩:=Option.bind_eq_some_iff.1 q
     exact⟨V,v1,fun h=>absurd h hjl⟩
   obtain⟨B,o,sp⟩:=a
   obtain⟨V0,v0,_⟩:=allc 0 (by omega)
   obtain⟨_,l0,c0⟩:=World.cells?_some v0
   have c00:=c0 0 (by omega)
   rw[List.getElem?_eq_getElem (by omega)]at c00
   have hsp:sp=none:=by
    cases sp with
    |none=>rfl
    |some s =>
     exfalso
     unfold World.cell? Addr.add at c00
     split at c00
     ·simp [Addr.add]at c00
     ·cases c00
   subst hsp
   have hadd:∀x y:Nat,((⟨B,o,none⟩:Addr).add x).add y=⟨B,o+(x+y),none⟩:=fun x y=>by rw[@Addr.add_none ⟨0,0⟩ noEnv,@Addr.add_none ⟨0,0⟩ noEnv,Nat.add_assoc]
   obtain⟨cs,e',fz,hB⟩:∃cs e fz,w.heap[B]?=some (.cells cs e fz):=by
    rw[hadd]at c00
    unfold World.cell? at c00
    dsimp only at c00
    split at c00
    ·rename_i c e fz hh;exact⟨c,e,fz,hh⟩
    ·cases c00
   have hcell:∀x u,w.cell? ⟨B,o+x,none⟩=some u→cs[o+x]?=some u:=fun x u hx=>by
    unfold World.cell? at hx
    rw[hB]at hx
    simpa using hx
   have hex:∀j,∃V:List Value,j<cap→w.cells? 0 ((⟨B,o,none⟩:Addr).add (j*P.cellsOf e)) (P.cellsOf e)=some V∧(j<len→∃y,elems[j]?=some y∧DataW.trod enc P w 0 (fun _=>true) true n' e V=some y):=fun j=>by
    by_cases hj:j<cap
    ·obtain⟨V,q⟩:=allc j hj;exact⟨V,fun _=>q⟩
    ·exact⟨[],fun h=>absurd h hj⟩
   obtain⟨U,hU⟩:=Classical.axiomOfChoice hex
   have hcells:∀j,j<cap→(U j).length=P.cellsOf e∧∀r,r<P.cellsOf e→cs[o+(j*P.cellsOf e+r)]?=(U j)[r]?:=fun j hj=>by
    obtain⟨_,l1,c1⟩:=World.cells?_some (hU j hj).1
    refine⟨l1,fun r hr=>?_⟩
    have:=c1 r hr
    rw[hadd,List.getElem?_eq_getElem (by omega)]at this
    rw[hcell _ _ this,List.getElem?_eq_getElem (by omega)]
   obtain⟨r1,r2⟩:=rows_cells (c:=cs) (o:=o) (s:=P.cellsOf e) (U:=U) len fun j hj=>hcells j (by omega)
   have one:∀j,j<len→∀u∈U j,u.oneCell'=true:=fun j hj=>by
    obtain⟨y,_,y2⟩:=(hU j (by omega)).2 hj
    exact(lay_trod m e (U j) y.1 y.2 n' hp y2).2
   have L:=LayC.list (P:=P) (w:=w) (U:=U) (R:=fun j η z=>∀x,(elems.map (·.1))[j]?=some x→RepT P η m e z x) (List.range len) fun j hj=>by
    have hj:=List.mem_range.1 hj
    obtain⟨y,y1,y2⟩:=(hU j (by omega)).2 hj
    refine(lay_trod m e (U j) y.1 y.2 n' hp y2).1.mono fun η z hz x hx=>?_
    rw[List.getElem?_map,y1]at hx
    cases hx
    exact hz
   obtain⟨x1,L⟩:=L
   refine⟨x1++[(B,o,cs.size)],fun p0 T=>?_⟩
   obtain⟨b1,z1,e1,L⟩:=L p0 T
   refine⟨b1++[z1],[.slice (P.globals.size+(p0+x1.length)) 0 len (.kn cap)],by simp [e1],fun all X hT hX hle=>?_⟩
   simp only[List.length_append,List.length_cons,List.length_nil]at hX hle
   have g1:∀i,i<x1.length→(x1++[(B,o,cs.size)]).getD i (0,0,0)=x1.getD i (0,0,0):=fun i hi=>by rw[List.getD_eq_getElem?_getD,List.getElem?_append_left hi,List.getD_eq_getElem?_getD]
   have g2:(x1++[(B,o,cs.size)]).getD x1.length (0,0,0)=(B,o,cs.size):=by rw[List.getD_eq_getElem?_getD,List.getElem?_append_right (Nat.le_refl _),Nat.sub_self];rfl
   obtain⟨v1,k1,zss,q1,q2,q3⟩:=L all X hT (fun i hi=>by
    obtain⟨a,b⟩:=hX i (by omega)
    rw[List.getElem?_append_left (by omega)]at a
    exact⟨a,by rw[b,g1 i hi]⟩) (by omega)
   obtain⟨a2,a3⟩:=hX x1.length (by omega)
   rw[List.getElem?_append_right (by omega),show x1.length-b1.length=0 by omega]at a2
   rw[g2]at a3
   simp only[List.getElem?_cons_zero]at a2
   have hz1:z1.length=len*P.cellsOf e:=by rw[←r1];exact(@VL.length ⟨0,0⟩ noEnv _ _ _ v1).symm
   have hocs:o+len*P.cellsOf e≤cs.size:=by
    have hlast:=(hcells (cap-1) (by omega)).2 (P.cellsOf e-1) (by omega)
    rw[List.getElem?_eq_getElem (by rw[(hcells (cap-1) (by omega)).1];omega)]at hlast
    have:=(Array.getElem?_eq_some_iff.1 hlast).1
    have h3:len*P.cellsOf e≤cap*P.cellsOf e:=Nat.mul_le_mul_right _ hlc
    have h4:cap*P.cellsOf e=(cap-1)*P.cellsOf e+P.cellsOf e:=by rw[←Nat.succ_mul];congr 1;omega
    omega
   refine⟨VL1 ?_,fun i l hi=>?_,?_⟩
   ·letI:Env:=noEnv
    letI:Deep:=⟨0,0⟩
    refine VR_slice.2 ⟨B,o,cs.size,cap,⟨B,o,none⟩,?_,rfl,hlc,.inl rfl,rfl⟩
    unfold renS
    rw[if_neg (by omega),if_pos (by omega),Nat.add_sub_cancel_left,a3]
   ·by_cases hb:i<b1.length
    ·rw[List.getElem?_append_left hb]at hi
     rw[g1 i (by omega)]
     exact k1 i l hi
    ·rw[List.getElem?_append_right (by omega)]at hi
     obtain rfl:i=b1.length:=by
      have:=(List.getElem?_eq_some_iff.1 hi).1
      simp at this;omega
     rw[Nat.sub_self]at hi
     simp at hi
     subst hi
     rw[e1,g2]
     letI:Env:=noEnv
     letI:Deep:=⟨0,0⟩
     refine⟨cs,e',fz,hB,rfl,by rw[hz1];exact hocs,nofun,fun i hi=>?_⟩
     rw[hz1]at hi
     obtain⟨u,u1,u2⟩:=VL.get v1 i z1[i] (List.getElem?_eq_getElem (by omega))
     refine⟨u,(r2 i hi).trans u1,?_,?_⟩
     ·rw[cget_csets,if_pos ⟨by omega,by omega⟩,Nat.sub_zero,List.getD_eq_getElem?_getD,List.getElem?_eq_getElem (by omega)]
      exact u2
     ·have hm:=List.mem_of_getElem? u1
      obtain⟨l,hl1,hl2⟩:=List.mem_flatten.1 hm
      obtain⟨j,hj1,rfl⟩:=List.mem_map.1 hl1
      exact one j (List.mem_range.1 hj1) u hl2
   ·dsimp only
    rw[rep,ht]
    refine .inr ⟨_,_,rfl,by rw[hxl];omega,.inr ⟨_,cap,z1,by rw[hxl],?_,?_,by rw[hxl];exact hz1,by rw[hxl];exact hlc,fun i x hx=>?_⟩⟩
    ·show(if P.globals.size≤P.globals.size+(p0+x1.length)∧P.globals.size+(p0+x1.length)<P.globals.size+all.length then _ else _)=_
     rw[if_pos ⟨by omega,by omega⟩,Nat.add_sub_cancel_left,List.getD_eq_getElem?_getD,a2];rfl
    ·show _<P.globals.size+all.length+1;omega
    ·have hi:i<len:=by have:=(List.getElem?_eq_some_iff.1 hx).1;omega
     obtain⟨y,y1,y2,y3⟩:=q3 i i (by rw[List.getElem?_range hi])
     have hzl:∀l∈zss,l.length=P.cellsOf e:=fun l hl=>by
      obtain⟨j,hj,rfl⟩:=List.getElem_of_mem hl
      obtain⟨y',p1,p2,_⟩:=q3 j j (by rw[List.getElem?_range (by rw[q2,List.length_range]at hj;exact hj)])
      rw[List.getElem?_eq_getElem hj]at p1
      cases p1
      rw[p2]
      exact(hcells j (by rw[q2,List.length_range]at hj;omega)).1
     have hfl:=flat_at zss i hzl (by rw[q2,List.length_range];exact hi)
     rw[q1,hfl]
     rw[List.getElem?_eq_getElem (by rw[q2,List.length_range];exact hi)]at y1
     cases y1
     exact y3 x hx
  ·rename_i fs ht
   obtain⟨hc,hall⟩:=Bool.and_eq_true_iff.1 hp
   obtain⟨xs,n',rfl,e,hlen,hxl,hf⟩:=DataW.trod_struct ht h
   cases e
   obtain⟨hcat,hin⟩:=contig_cells fs.toList 0 _ us hc hlen (Nat.zero_le _)
   rw[List.drop_zero]at hcat
   have hgo:∀(j:Nat) (f:Field),fs[j]?=some f→LayC P w ((us.drop f.offset).take (P.cellsOf f.type)) (fun η zs=>∀x,(xs.map (·.1))[j]?=some x→RepT P η m f.type zs x)∧∀u∈(us.drop f.offset).take (P.cellsOf f.type),u.oneCell'=true:=fun j f hj=>by
    have hlt:j<fs.size:=(Array.getElem?_eq_some_iff.1 hj).1
    have q:=hf j f hj
    rw[List.getElem?_eq_getElem (by omega)]at q
    have hpf:plainTy P m f.type=true:=(List.all_eq_true.1 hall) f (by rw[←Array.getElem?_toList]at hj;exact List.mem_of_getElem? hj)
    obtain⟨a,b⟩:=lay_trod m f.type _ _ _ n' hpf q
    refine⟨a.mono fun η zs hz x hx=>?_,b⟩
    rw[List.getElem?_map,List.getElem?_eq_getElem (by omega)]at hx
    cases hx
    exact hz
   have hmap:(List.range fs.size).map (fun j=>match fs[j]? with|some f=>(us.drop f.offset).take (P.cellsOf f.type)|none=>[])=fs.toList.map fun f=>(us.drop f.offset).take (P.cellsOf f.type):=by
    apply List.ext_getElem
    ·simp
    ·intro i h1 h2
     simp at h1
     simp [h1]
   have hcat2:us=((List.range fs.size).map (fun j=>match fs[j]? with|some f=>(us.drop f.offset).take (P.cellsOf f.type)|none=>[])).flatten:=by rw[hmap,hcat]
   refine⟨?_,fun u hu=>?_⟩
   ·have L:=LayC.list (P:=P) (w:=w) (U:=fun j=>match fs[j]? with|some f=>(us.drop f.offset).take (P.cellsOf f.type)|none=>[]) (R:=fun j η z=>∀f x,fs[j]?=some f→(xs.map (·.1))[j]?=some x→RepT P η m f.type z x) (List.range fs.size) fun j hj=>by
     have hj:=List.mem_range.1 hj
     have hfj:fs[j]?=some fs[j]:=Array.getElem?_eq_getElem hj
     rw[hfj]
     refine(hgo j fs[j] hfj).1.mono fun η z hz f x h1 h2=>?_
     cases h1
     exact hz x h2
    rw[←hcat2]at L
    have L2:=L.withLen
    refine L2.mono fun η z ⟨hzl,zss,q1,q2,q3⟩=>?_
    rw[rep,ht]
    refine⟨_,rfl,by rw[List.length_map];exact hxl,by omega,fun i f x h1 h2=>?_⟩
    have hi:i<fs.size:=(Array.getElem?_eq_some_iff.1 h1).1
    have hl:∀(j:Nat) (g:Field) (y:List AV),fs.toList[j]?=some g→zss[j]?=some y→y.length=P.cellsOf g.type:=fun j g y a b=>by
     have hj:j<fs.size:=by have:=(List.getElem?_eq_some_iff.1 a).1;simpa using this
     obtain⟨y',p1,p2,_⟩:=q3 j j (by rw[List.getElem?_range hj])
     rw[p1]at b
     cases b
     rw[Array.getElem?_toList]at a
     rw[p2,a]
     dsimp only
     have:=hin g (List.mem_of_getElem? (by rw[Array.getElem?_toList];exact a))
     rw[List.length_take,List.length_drop];omega
    obtain⟨y,p1,p2,p3⟩:=q3 i i (by rw[List.getElem?_range hi])
    have:=(contig_part fs.toList 0 _ zss hc (by rw[q2];simp) hl i f y (by rw[Array.getElem?_toList];exact h1) p1).1
    rw[Nat.sub_zero]at this
    rw[q1,this]
    exact p3 f x h1 h2
   ·rw[hcat2]at hu
    obtain⟨l,hl1,hl2⟩:=List.mem_flatten.1 hu
    obtain⟨j,hj1,rfl⟩:=List.mem_map.1 hl1
    have hj:=List.mem_range.1 hj1
    have hfj:fs[j]?=some fs[j]:=Array.getElem?_eq_getElem hj
    rw[hfj]at hl2
    exact(hgo j fs[j] hfj).2 u hl2
  ·cases hp
end
end Go.Eng
namespace Go.Eng
set_option autoImplicit false
open Go.ChangeShapes Go.WideShapes
section
variable {H:Type} {enc:TypeId×Value→H} {P:Program} {w:World}
theorem LayC.done {vs:List Value} {R:HN→List AV→Prop} (h:LayC P w vs R):∃(bs:List (List AV)) (x:Nat→Nat×Nat×Nat) (zs:List AV),
  (∀i l,bs[i]?=some l→@BR noEnv (renS P bs.length x) (roBlk l) (x i).1 (x i).2.1 (x i).2.2 w)∧@VL noEnv (renS P bs.length x) zs vs∧R (startH P bs) zs:=by
 obtain⟨xs,h⟩:=h
 obtain⟨bs,zs,e,h⟩:=h 0 xs.length
 obtain⟨h1,h2,h3⟩:=h bs (fun i=>xs.getD i (0,0,0)) e (fun i _=>by rw[Nat.zero_add];exact⟨rfl,rfl⟩) (by omega)
 rw[←e]at h1 h2
 exact⟨bs,_,zs,h2,h1,h3⟩
theorem lay_cell {t:TypeId} {v:Value} {d:DataW H} {p:List MemPlace} (m:Nat) (hp:plainTy P m t=true) (hv:v.cells=#[v]) (h:DataW.Trod enc P w 0 (fun _=>true) true t v d p) :
  LayC P w [v] fun η z=>RepT P η m t z d:=by
 obtain⟨n,hn⟩:=h
 rw[hv]at hn
 exact(lay_trod m t _ _ _ n hp hn).1
end
end Go.Eng
