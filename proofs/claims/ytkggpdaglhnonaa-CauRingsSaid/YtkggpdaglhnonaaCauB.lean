/- What is proved: what finds the names that a name leans on does. what makes a node's graph does. the program's check of causes does as the plain one. what finds an order of a node's names does. Conditions: as each theorem says. -/
import Derived.Test.YtkggpdaglhnonaaCauA
set_option linter.unusedVariables false
set_option linter.unusedSimpArgs false
set_option linter.unusedSectionVars false
namespace Go.Plain
open Go.Eng
set_option autoImplicit false
theorem addM_two (a b:List S):addM (addM (fun _=>false) a) b = fun x=>a.contains x || b.contains x:=by
 funext x; unfold addM; rw [Bool.false_or]
theorem rdN_B {η η':HN} {n:Nd} {z:List AV} (r:rdN tt η n z) (x:ExtB η.nx η η'):rdN tt η' n z:=rdN_keep (keep_b x) x.1 (fun _ h=>h) r
end Go.Plain
namespace Go.Proofs.Ytkggpdaglhnonaa
open Go.Eng Go.Plain
set_option autoImplicit false
set_option maxRecDepth 100000
variable {nat:∀ [Deep],Nats}
set_option maxHeartbeats 4000000 in
theorem on10_then (U:Usual nat) {η0:HN} {fb mb:Nat} (hm0:η0.nx ≤ mb) (hne:fb ≠ mb) {η:HN} {n:Nd} {z:List AV} {P:S → Bool} (X0:ExtB η0.nx η0 η) (r:rdN tt η0 n z) (ok:okN n) (s:S) (hmn:mb < η.nx) (hfn:fb < η.nx) (hf:η.f fb = .live false [.map mb]) (M:MapAt η mb (setM P)) {Q:AV → HN → Prop}
  (k:∀ η',ExtX mb η η' → MapAt η' mb (setM (addM P (onN n s))) → Q (.tup []) η'):∃ v' η',CallN Try.prog nat 84 [.ptr fb 0,.agg z,.str s.1 s.2] η v' η' ∧ Q v' η':=by
 have r':=r
 obtain ⟨y1,y2,y3,y4,rfl,-,-,-,r3,-⟩:=r'
 have hV:n.locs.length ≤ 1073741824:=ok.2.2.2.1.1
 have l3:=fun η' e w=>row_len (η':=η') r3 (n:=n.locs.length) (by rw [List.length_map]) (by omega) e w
 refine call_of (PT:=pl84) Try.func84 rfl (U 84 (by decide)) ok84 rfl ?_
 have E:ExtB η.nx η (η.new (.live false [sV n.nm,y1,y2,y3,y4,.int .i64 n.a])):=extN (.refl _ _)
 have c0:(η.new (.live false [sV n.nm,y1,y2,y3,y4,.int .i64 n.a])).f η.nx = .live false [sV n.nm,y1,y2,y3,y4,.int .i64 n.a]:=if_pos rfl
 have n0:(η.new (.live false [sV n.nm,y1,y2,y3,y4,.int .i64 n.a])).nx = η.nx + 1:=rfl
 have hf0:=(E.2 _ hfn).trans hf
 have M0:=MapAt_ext M hmn E
 simp -implicitDefEqProofs (disch:=omega) only [go_sem,l3]
 generalize η.new (.live false [sV n.nm,y1,y2,y3,y4,.int .i64 n.a]) = η1 at *
 obtain ⟨I,hI⟩:∃ I:Nat → FN → HN → Prop,∀ m φ ζ,I m φ ζ ↔ ∃ (i:Nat) (pre:List Stp) (t:S),m = n.locs.length - i ∧ i ≤ n.locs.length ∧ (φ 0 = .ptr fb 0 ∧ φ 2 = .str t.1 t.2 ∧ φ 4 = .ptr η.nx 0 ∧ φ 10 = .int .i64 n.locs.length ∧ φ 11 = .int .i64 i) ∧ MapAt ζ mb (setM (addM P (pre.map Prod.fst))) ∧ ExtX mb η1 ζ ∧ pre ++ ofL n (n.locs.length - i) t = ofL n n.locs.length s:=⟨_,fun _ _ _=>Iff.rfl⟩
 refine wpN_loop I n.locs.length ((hI _ _ _).2 ⟨0,[],s,rfl,Nat.zero_le _,⟨rfl,rfl,rfl,rfl,rfl⟩,by rw [List.map_nil,addM_nil]; exact M0,.refl _ _,rfl⟩) ?_
 intro m φ ζ hi
 obtain ⟨i,pre,t,hm,hi,⟨p0,p2,p4,p10,p11⟩,Mz,Xz,epre⟩:=(hI _ _ _).1 hi
 have nz:=Xz.1
 have cz:ζ.f η.nx = _:=(Xz.2 _ (by omega) (by omega)).trans c0
 have fz:ζ.f fb = _:=(Xz.2 _ (by omega) hne).trans hf0
 have stop:∀ ζ',MapAt ζ' mb (setM (addM P (pre.map Prod.fst))) → ExtX mb η1 ζ' → pre = ofL n n.locs.length s → Q (.tup []) ζ':=fun ζ' a1 a2 a3=>by
  refine k _ ⟨by have:=a2.1; omega,fun c h1 h2=>(a2.2 c (by omega) h2).trans (E.2 c h1)⟩ ?_
  unfold onN
  rw [← a3]; exact a1
 by_cases hlt:i < n.locs.length
 ·obtain ⟨q,hq⟩:∃ q,n.locs.length - i = q + 1:=⟨n.locs.length - i - 1,by omega⟩
  rw [hq] at epre
  simp -implicitDefEqProofs (disch:=omega) only [go_sem,p0,p2,p4,p10,p11,cz]
  refine thenN_call (find_then U (rdN_B r (extX_B (extT X0 E) hm0 Xz)) ok t fun ζ2 x2=>?_)
  have n2:=x2.1
  have unf:ofL n (q + 1) t = match findV n t with | some v=>if v.on = (0,0) then [] else (v.on,v.nt) :: ofL n q v.on | none=>[]:=rfl
  rw [unf] at epre
  have hwc:∀ w:Vr,w.cells = [.str w.nm.1 w.nm.2,.int .i64 w.kd,.str w.on.1 w.on.2,.bool w.nt,.int .i64 w.a]:=fun _=>rfl
  rw [hwc]
  generalize hw:(findV n t).getD zVr = w
  have e6:ExtB ζ2.nx ζ2 (ζ2.new (.live false [.str w.nm.1 w.nm.2,.int .i64 w.kd,.str w.on.1 w.on.2,.bool w.nt,.int .i64 w.a])):=extN (.refl _ _)
  have c6:(ζ2.new (.live false [.str w.nm.1 w.nm.2,.int .i64 w.kd,.str w.on.1 w.on.2,.bool w.nt,.int .i64 w.a])).f ζ2.nx = .live false [.str w.nm.1 w.nm.2,.int .i64 w.kd,.str w.on.1 w.on.2,.bool w.nt,.int .i64 w.a]:=if_pos rfl
  have n6:(ζ2.new (.live false [.str w.nm.1 w.nm.2,.int .i64 w.kd,.str w.on.1 w.on.2,.bool w.nt,.int .i64 w.a])).nx = ζ2.nx + 1:=rfl
  simp -implicitDefEqProofs (disch:=omega) only [go_sem,p0,p2,p4,p10,p11,cz,repL_s,repL_z,setsL_c]
  generalize ζ2.new (.live false [.str w.nm.1 w.nm.2,.int .i64 w.kd,.str w.on.1 w.on.2,.bool w.nt,.int .i64 w.a]) = ζ3 at *
  have x3:=extT x2 e6
  have M3:=MapAt_ext Mz (by omega) x3
  have X3:ExtX mb η1 ζ3:=extX_base Xz x3 nz
  have f3:=(x3.2 _ (by omega:fb < ζ.nx)).trans fz
  have eo:strEq w.on.1 w.on.2 0 0 = decide (w.on = (0,0)):=strEq_S w.on (0,0)
  cases hf:findV n t with
  | none =>
   rw [hf] at epre
   have epre:pre ++ [] = ofL n n.locs.length s:=epre
   rw [List.append_nil] at epre
   have i0:(none:Option Vr).isSome = false:=rfl
   simp -implicitDefEqProofs (disch:=omega) only [go_sem,p0,p2,p4,p10,p11,cz,i0,Bool.not_false]
   exact stop _ M3 X3 epre
  | some w' =>
   rw [hf] at epre hw
   have hw:w' = w:=hw
   subst hw
   have i0:(some w').isSome = true:=rfl
   by_cases on0:w'.on = (0,0)
   ·have epre:pre ++ (if w'.on = (0,0) then [] else (w'.on,w'.nt) :: ofL n q w'.on) = ofL n n.locs.length s:=epre
    rw [if_pos on0,List.append_nil] at epre
    rw [decide_eq_true on0] at eo
    simp -implicitDefEqProofs (disch:=omega) only [go_sem,p0,p2,p4,p10,p11,c6,i0,eo,Bool.not_true]
    exact stop _ M3 X3 epre
   ·have epre:pre ++ (if w'.on = (0,0) then [] else (w'.on,w'.nt) :: ofL n q w'.on) = ofL n n.locs.length s:=epre
    rw [if_neg on0] at epre
    rw [decide_eq_false on0] at eo
    obtain ⟨es,eu,Mu⟩:=setM_put M3 w'.on
    rw [addM_one,addM_app] at Mu
    simp -implicitDefEqProofs (disch:=omega) only [go_sem,p0,p2,p4,p10,p11,c6,f3,i0,eo,eu,Bool.not_true]
    exact ⟨n.locs.length - (i + 1),by omega,(hI _ _ _).2 ⟨i + 1,pre ++ [(w'.on,w'.nt)],w'.on,rfl,hlt,⟨by exact p0,rfl,by exact p4,by exact p10,rfl⟩,by rw [List.map_append]; exact Mu,⟨X3.1,fun c h1 h2=>(if_neg h2).trans (X3.2 c h1 h2)⟩,by rw [List.append_assoc,show n.locs.length - (i + 1) = q by omega]; exact epre⟩⟩
 ·obtain rfl:i = n.locs.length:=by omega
  rw [Nat.sub_self] at epre
  have epre:pre ++ [] = ofL n n.locs.length s:=epre
  rw [List.append_nil] at epre
  simp -implicitDefEqProofs (disch:=omega) only [go_sem,p0,p2,p4,p10,p11]
  exact stop _ Mz Xz epre
theorem leans1_then (U:Usual nat) {η:HN} {c fb mb:Nat} {P:S → Bool} (hc:η.f c = .live false [.ptr fb 0]) (hf:η.f fb = .live false [.map mb]) (M:MapAt η mb (setM P)) (s:S) {Q:AV → HN → Prop} (k:Q (.bool (!P s)) η):∃ v' η',CallN Try.prog nat 86 [.str s.1 s.2,.ptr c 0] η v' η' ∧ Q v' η':=by
 refine call_of (PT:=pl86) Try.func86 rfl (U 86 (by decide)) ok86 rfl ?_
 have lk:=setM_look M s
 simp -implicitDefEqProofs (disch:=omega) only [go_sem,hc,hf,lk]
 exact k
theorem eqE_ok {n:Nd} (ok:okN n) (s:S):okE (eqE n s):=by
 unfold eqE
 split
 ·rename_i q h
  exact (ok.2.2.2.2.2 q (List.mem_of_find?_eq_some h)).2
 ·exact ok_E0
set_option maxHeartbeats 4000000 in
theorem leans_then (U:Usual nat) {η:HN} {n:Nd} {z:List AV} (r:rdN tt η n z) (ok:okN n) (s:S) {Q:AV → HN → Prop} (k:∀ y η',RowT η.nx η' y (leansF n s) → ExtB η.nx η η' → Q y η'):∃ v' η',CallN Try.prog nat 49 [.agg z,.str s.1 s.2] η v' η' ∧ Q v' η':=by
 have r':=r
 obtain ⟨y1,y2,y3,y4,rfl,-⟩:=r'
 refine call_of (PT:=pl49) Try.func49 rfl (U 49 (by decide)) ok49 rfl ?_
 have hsn:sV n.nm = .str n.nm.1 n.nm.2:=rfl
 have E:ExtB η.nx η (η.new (.live false [sV n.nm,y1,y2,y3,y4,.int .i64 n.a])):=extN (.refl _ _)
 have c0:(η.new (.live false [sV n.nm,y1,y2,y3,y4,.int .i64 n.a])).f η.nx = .live false [sV n.nm,y1,y2,y3,y4,.int .i64 n.a]:=if_pos rfl
 have n0:(η.new (.live false [sV n.nm,y1,y2,y3,y4,.int .i64 n.a])).nx = η.nx + 1:=rfl
 simp -implicitDefEqProofs (disch:=omega) only [go_sem]
 generalize η.new (.live false [sV n.nm,y1,y2,y3,y4,.int .i64 n.a]) = η1 at *
 refine thenN_call (own10_then U (rdN_B r E) ok fun x η2 rx E2=>?_)
 have n2:=E2.1
 have E02:=extT E E2
 have hol:=own_lenN ok
 simp -implicitDefEqProofs (disch:=omega) only [go_sem]
 refine thenN_call (holds_then U rx hol s ?_)
 unfold leansF at k
 cases hc:(ownN n).contains s with
 | false =>
  rw [hc] at k
  simp -implicitDefEqProofs (disch:=omega) only [go_sem,Bool.not_false]
  exact k _ _ (.inl ⟨rfl,if_neg (by decide)⟩) E02
 | true =>
  rw [hc] at k
  have d0:=(E2.2 _ (by omega:η.nx < η1.nx)).trans c0
  obtain ⟨η3,h3⟩:∃ η3,η3 = (((η2.new (.mp [])).new (.live false [.map η2.nx])).new (.live false [.nilptr])).put (η2.nx + 1 + 1) (.live false [.ptr (η2.nx + 1) 0]):=⟨_,rfl⟩
  have E3:ExtB η2.nx η2 η3:=by rw [h3]; exact extP (extN (extN (extN (.refl _ _)))) (by omega)
  have n3:η3.nx = η2.nx + 3:=by rw [h3]; rfl
  have m3:MapAt η3 η2.nx (setM fun _=>false):=by
   have M:=setM_new (η:=η2)
   have M:=MapAt_ext M (Nat.lt_succ_self _) (.new (y:=.live false [.map η2.nx]) (Nat.le_refl _))
   have M:=MapAt_ext M (by show η2.nx < η2.nx + 1 + 1; omega) (.new (y:=.live false [.nilptr]) (Nat.le_refl _))
   rw [h3]; exact M.eq (if_neg (by omega))
  have f3:η3.f (η2.nx + 1) = .live false [.map η2.nx]:=by rw [h3]; exact (if_neg (by omega)).trans ((if_neg (by show ¬ η2.nx + 1 = η2.nx + 1 + 1; omega)).trans (if_pos rfl))
  have g3:η3.f (η2.nx + 1 + 1) = .live false [.ptr (η2.nx + 1) 0]:=by rw [h3]; exact if_pos rfl
  have d3:=(E3.2 _ (by omega:η.nx < η2.nx)).trans d0
  simp -implicitDefEqProofs (disch:=omega) only [go_sem,Bool.not_true,repL_s,repL_z,setsL_c,d0]
  rw [← h3]
  clear h3
  have E03:=extT E02 E3
  refine thenN_call (eq_then U (rdN_B r E03) ok s fun nm a bb ze η4 r4 E4=>?_)
  have n4:=E4.1
  obtain ⟨k1,k2,k3,k4,k5,rfl⟩:=rdE_cells r4
  obtain ⟨η5,h5⟩:∃ η5,η5 = η4.new (.live false [.str nm.1 nm.2,.str k1.1 k1.2,.str k2.1 k2.2,.int .i64 k3,.int .i64 k4,k5,.int .i64 a]):=⟨_,rfl⟩
  have e5:ExtB η4.nx η4 η5:=by rw [h5]; exact extN (.refl _ _)
  have n5:η5.nx = η4.nx + 1:=by rw [h5]; rfl
  have c5:η5.f η4.nx = .live false [.str nm.1 nm.2,.str k1.1 k1.2,.str k2.1 k2.2,.int .i64 k3,.int .i64 k4,k5,.int .i64 a]:=by rw [h5]; exact if_pos rfl
  have E5:=extT E4 e5
  have m5:=MapAt_ext m3 (by omega) E5
  have f5:=(E5.2 _ (by omega:η2.nx + 1 < η3.nx)).trans f3
  have g5:=(E5.2 _ (by omega:η2.nx + 1 + 1 < η3.nx)).trans g3
  have d5:=(E5.2 _ (by omega:η.nx < η3.nx)).trans d3
  have g4:=(E4.2 _ (by omega:η2.nx + 1 + 1 < η3.nx)).trans g3
  have bx:=fun c (h:blkIs x c)=>(rx.blk h)
  have r5:=rdE_b r4 e5
  simp -implicitDefEqProofs (disch:=omega) only [go_sem,sV,List.cons_append,List.nil_append,repL_s,repL_z,setsL_c,← h5,g4,g5,c5]
  refine thenN_call (fexpr_then U (F:=fun c=>η3.nx ≤ c) (fb:=η2.nx + 1) (mb:=η2.nx) (by show ¬ η3.nx ≤ η2.nx; omega) (by omega) (eqE n s) (eqE_ok ok s) _ _ _ _ (by omega) (by omega) f5 m5 r5 fun η6 X6 M6=>?_)
  have n6:=X6.1
  have f6:=(X6.2 _ (by omega:η2.nx + 1 < η5.nx) (by omega)).trans f5
  have g6:=(X6.2 _ (by omega:η2.nx + 1 + 1 < η5.nx) (by omega)).trans g5
  have d6:=(X6.2 _ (by omega:η.nx < η5.nx) (by omega)).trans d5
  have E26:ExtB η2.nx η2 η6:=⟨by omega,fun c hc=>(X6.2 c (by omega) (by omega)).trans ((E5.2 c (by omega)).trans (E3.2 c hc))⟩
  simp -implicitDefEqProofs (disch:=omega) only [go_sem,g6,d6]
  refine thenN_call (on10_then U (fb:=η2.nx + 1) (mb:=η2.nx) (η0:=η2) (Nat.le_refl _) (by omega) E26 (rdN_B r E02) ok s (by omega) (by omega) f6 M6 fun η7 X7 M7=>?_)
  have n7:=X7.1
  have f7:=(X7.2 _ (by omega:η2.nx + 1 < η6.nx) (by omega)).trans f6
  have g7:=(X7.2 _ (by omega:η2.nx + 1 + 1 < η6.nx) (by omega)).trans g6
  have E27:ExtB η2.nx η2 η7:=⟨by omega,fun c hc=>(X7.2 c (by omega) (by omega)).trans (E26.2 c hc)⟩
  have rx7:RowA η1.nx η7 x (strc (ownN n)):=rx.keep E27.1 fun b _ hb _=>E27.2 b hb
  rw [addM_two] at M7
  simp -implicitDefEqProofs (disch:=omega) only [go_sem]
  refine thenN_call (delete_then U rx7 hol (p:=fun t=>!((mnE (eqE n s)).contains t || (onN n s).contains t)) ?_ fun y8 η8 r8 n8 k8=>?_)
  ·intro ζ nζ kζ t _ Q' k'
   have hb:∀ c,η2.nx ≤ c → ¬ blkIs x c:=fun c hc h=>by have:=(bx c h).2.1; omega
   exact leans1_then U ((kζ _ (hb _ (by omega))).trans g7) ((kζ _ (hb _ (by omega))).trans f7) (M7.eq (kζ _ (hb _ (Nat.le_refl _)))) t k'
  ·simp -implicitDefEqProofs (disch:=omega) only [go_sem]
   refine k _ _ ?_ ?_
   ·rw [if_pos rfl]
    refine ((by simpa only [Bool.not_not] using r8:RowT η1.nx η8 y8 _)).mono (by omega)
   ·exact ⟨by omega,fun c hc=>(k8 c fun h=>by have:=(bx c h).1; omega).trans ((E27.2 c (by omega)).trans (E02.2 c hc))⟩
end Go.Proofs.Ytkggpdaglhnonaa
namespace Go.Plain
open Go.Eng
set_option autoImplicit false
theorem lkV_get {z:AV} {o:Option AV}:lkV false z o = o.getD z:=by cases o <;> rfl
theorem RowA.down {lo lo':Nat} {η:HN} {x:AV} {l:List AV} (h:RowA lo η x l) (hl:lo' ≤ lo):RowA lo' η x l:=h.imp id fun ⟨b,h1,h2⟩=>⟨b,by omega,h2⟩
def GraphAt (lo:Nat) (η:HN) (gb:Nat) (n:Nd):Prop:=∃ y mb M,lo ≤ gb ∧ gb < η.nx ∧ lo ≤ mb ∧ mb < η.nx ∧ η.f gb = .live false [y,.map mb] ∧ RowA lo η y (strc (ownN n)) ∧ MapAt η mb M ∧ ∀ s,RowT lo η ((M s).getD .nilslice) (leansF n s)
theorem GraphAt.ext {lo gb:Nat} {η η':HN} {n:Nd} (h:GraphAt lo η gb n) (e:ExtB η.nx η η'):GraphAt lo η' gb n:=by
 obtain ⟨y,mb,M,h1,h2,h3,h4,h5,h6,h7,h8⟩:=h
 have:=e.1
 exact ⟨y,mb,M,h1,by omega,h3,by omega,(e.2 _ h2).trans h5,h6.keep e.1 (fun b _ hb _=>e.2 b hb),MapAt_ext h7 h4 e,fun s=>(h8 s).keep e.1 fun b _ hb _ _=>e.2 b hb⟩
theorem leans_not {n:Nd} {s:S} (h:s ∉ ownN n):leansF n s = []:=by
 unfold leansF
 rw [if_neg]
 intro g
 exact h (List.contains_iff_mem.1 g)
end Go.Plain
namespace Go.Proofs.Ytkggpdaglhnonaa
open Go.Eng Go.Plain
set_option autoImplicit false
set_option maxRecDepth 100000
variable {nat:∀ [Deep],Nats}
set_option maxHeartbeats 4000000 in
theorem made_then (U:Usual nat) {η:HN} {n:Nd} {z:List AV} (r:rdN tt η n z) (ok:okN n) {Q:AV → HN → Prop} (k:∀ gb η',GraphAt η.nx η' gb n → ExtB η.nx η η' → Q (.ptr gb 0) η'):∃ v' η',CallN Try.prog nat 76 [.agg z] η v' η' ∧ Q v' η':=by
 have r':=r
 obtain ⟨y1,y2,y3,y4,rfl,-⟩:=r'
 refine call_of (PT:=pl76) Try.func76 rfl (U 76 (by decide)) ok76 rfl ?_
 have E:ExtB η.nx η (η.new (.live false [sV n.nm,y1,y2,y3,y4,.int .i64 n.a])):=extN (.refl _ _)
 have c0:(η.new (.live false [sV n.nm,y1,y2,y3,y4,.int .i64 n.a])).f η.nx = .live false [sV n.nm,y1,y2,y3,y4,.int .i64 n.a]:=if_pos rfl
 have n0:(η.new (.live false [sV n.nm,y1,y2,y3,y4,.int .i64 n.a])).nx = η.nx + 1:=rfl
 simp -implicitDefEqProofs (disch:=omega) only [go_sem]
 generalize η.new (.live false [sV n.nm,y1,y2,y3,y4,.int .i64 n.a]) = η1 at *
 refine thenN_call (own10_then U (rdN_B r E) ok fun x η2 rx E2=>?_)
 have n2:=E2.1
 have E02:=extT E E2
 have hol:=own_lenN ok
 have qx:=rx.rd.cells
 have d0:=(E2.2 _ (by omega:η.nx < η1.nx)).trans c0
 have ln:=fun η' e w=>row_len (η':=η') rx.rd (strc_rows (ownN n)) (by omega) e w
 obtain ⟨η3,h3⟩:∃ η3,η3 = ((η2.new (.mp [])).new (.live false [x,.map η2.nx])):=⟨_,rfl⟩
 have E3:ExtB η2.nx η2 η3:=by rw [h3]; exact extN (extN (.refl _ _))
 have n3:η3.nx = η2.nx + 2:=by rw [h3]; rfl
 have m3:MapAt η3 η2.nx (fun _=>none):=by
  have M:=MapAt.new (η:=η2)
  have M:=MapAt_ext M (Nat.lt_succ_self _) (.new (y:=.live false [x,.map η2.nx]) (Nat.le_refl _))
  rw [h3]; exact M
 have f3:η3.f (η2.nx + 1) = .live false [x,.map η2.nx]:=by rw [h3]; exact if_pos rfl
 have d3:=(E3.2 _ (by omega:η.nx < η2.nx)).trans d0
 simp -implicitDefEqProofs (disch:=omega) only [go_sem,qx,repL_s,repL_z,setsL_c]
 rw [← h3]
 clear h3
 simp -implicitDefEqProofs (disch:=omega) only [go_sem,f3,ln]
 obtain ⟨J,hJ⟩:∃ J:Nat → FN → HN → Prop,∀ j φ ζ,J j φ ζ ↔ ∃ (i:Nat) (M:Nat × Nat → Option AV),j = (ownN n).length - i ∧ i ≤ (ownN n).length ∧ (φ 1 = .ptr η.nx 0 ∧ φ 3 = .ptr (η2.nx + 1) 0 ∧ φ 14 = x ∧ φ 15 = .int .i64 (ownN n).length ∧ φ 16 = .int .i64 i) ∧ MapAt ζ η2.nx M ∧ (∀ s,(s ∈ (ownN n).take i → RowT η.nx ζ ((M s).getD .nilslice) (leansF n s)) ∧ (s ∉ (ownN n).take i → M s = none)) ∧ ExtX η2.nx η3 ζ:=⟨_,fun _ _ _=>Iff.rfl⟩
 refine wpN_loop J (ownN n).length ((hJ _ _ _).2 ⟨0,_,rfl,Nat.zero_le _,⟨rfl,rfl,rfl,rfl,rfl⟩,m3,fun s=>⟨fun h=>(by rw [List.take_zero] at h; cases h),fun _=>rfl⟩,.refl _ _⟩) ?_
 intro j φ ζ hj
 obtain ⟨i,M,hj,hi,⟨p1,p3,p14,p15,p16⟩,Mz,hM,Xz⟩:=(hJ _ _ _).1 hj
 have nz:=Xz.1
 have cz:ζ.f η.nx = _:=(Xz.2 _ (by omega) (by omega)).trans d3
 have fz:ζ.f (η2.nx + 1) = _:=(Xz.2 _ (by omega) (by omega)).trans f3
 have rz:RowA η.nx ζ x (strc (ownN n)):=(rx.down (by omega)).keep (by omega) fun b _ hb _=>(Xz.2 b (by omega) (by omega)).trans (E3.2 b hb)
 have Ez:ExtB η.nx η ζ:=⟨by omega,fun c hc=>(Xz.2 c (by omega) (by omega)).trans ((E3.2 c (by omega)).trans (E02.2 c hc))⟩
 by_cases hlt:i < (ownN n).length
 ·obtain ⟨b,h1,h2,rfl,-,hb⟩:=rz.resolve_left (fun g=>by have:=congrArg List.length g.2; rw [strc_len] at this; have:(ownN n).length = 0:=this; omega)
  have gl:=strc_len (ownN n)
  have gs:=strc_get hlt
  have et:=List.take_succ_eq_append_getElem hlt
  generalize (ownN n)[i] = w at *
  simp -implicitDefEqProofs (disch:=omega) only [go_sem,p1,p3,p14,p15,p16,hb,gl,gs,cz,fz]
  refine dE_call (leans_then U (rdN_B r Ez) ok w fun y5 η5 r5 E5=>?_)
  have n5:=E5.1
  have M5:=MapAt_ext Mz (by omega) E5
  obtain ⟨es,eu,Mu⟩:=M5.upd w y5
  have fz5:=(E5.2 _ (by omega:η2.nx + 1 < ζ.nx)).trans fz
  have cz5:=(E5.2 _ (by omega:η.nx < ζ.nx)).trans cz
  simp -implicitDefEqProofs (disch:=omega) only [go_sem,p1,p3,p14,p15,p16,eu,cz,fz,cz5,fz5,hb,gl,gs]
  obtain ⟨em,eem,-,-⟩:=M5
  refine ⟨(ownN n).length - (i + 1),by omega,(hJ _ _ _).2 ⟨i + 1,_,rfl,hlt,⟨by exact p1,by exact p3,by exact p14,by exact p15,rfl⟩,Mu,fun s=>⟨fun h=>?_,fun h=>?_⟩,⟨by show η3.nx ≤ η5.nx; omega,fun c g1 g2=>(if_neg g2).trans ((E5.2 c (by omega)).trans (Xz.2 c g1 g2))⟩⟩⟩
  ·by_cases e:s = w
   ·subst e
    rw [if_pos rfl]
    exact (r5.mono (by omega)).keep (Nat.le_refl _) fun b' _ _ row g=>if_neg fun e=>by rw [e,eem] at g; cases g
   ·rw [if_neg e]
    have h:s ∈ (ownN n).take i:=by
     rw [et] at h
     exact (List.mem_append.1 h).elim id fun g=>absurd (List.mem_singleton.1 g) e
    refine ((hM s).1 h).keep (by show ζ.nx ≤ η5.nx; omega) fun b' _ hb' row g=>?_
    exact (if_neg fun e=>by rw [← E5.2 b' hb',e,eem] at g; cases g).trans (E5.2 b' hb')
  ·rw [et] at h
   have e:s ≠ w:=fun e=>h (List.mem_append.2 (.inr (List.mem_singleton.2 e)))
   rw [if_neg e]
   exact (hM s).2 fun g=>h (List.mem_append.2 (.inl g))
 ·obtain rfl:i = (ownN n).length:=by omega
  rw [List.take_length] at hM
  simp -implicitDefEqProofs (disch:=omega) only [go_sem,p1,p3,p14,p15,p16]
  refine k _ _ ⟨x,η2.nx,M,by omega,by omega,by omega,by omega,fz,rz,Mz,fun s=>?_⟩ Ez
  by_cases h:s ∈ ownN n
  ·exact (hM s).1 h
  ·rw [(hM s).2 h,leans_not h]
   exact .inl ⟨rfl,rfl⟩
theorem stClone_then (U:Usual nat) {η:HN} {lo:Nat} {y:AV} {m:List S} (r:RowT lo η y m) (hm:m.length ≤ 4294967296) {Q:AV → HN → Prop} (k:∀ y' η',WorkW η.nx η' y' m → ExtB η.nx η η' → Q y' η'):∃ v' η',CallN Try.prog nat 121 [y] η v' η' ∧ Q v' η':=by
 refine call_of (PT:=pl121) Try.func121 rfl (U 121 (by decide)) ok121 rfl ?_
 have E:ExtB η.nx η (η.new (.live false [])):=extN (.refl _ _)
 have ww:WorkW η.nx (η.new (.live false [])) (.slice η.nx 0 0 (.kn 0)) []:=.inl ⟨rfl,.inr ⟨η.nx,Nat.le_refl _,Nat.lt_succ_self _,rfl,_,if_pos rfl⟩⟩
 have r1:RowT lo (η.new (.live false [])) y m:=r.keep E.1 fun b _ hb _ _=>E.2 b hb
 obtain ⟨x',η',e,w',n',k'⟩:=work_app (y0:=16) (by decide) ww r1 (by simpa using hm) (Nat.le_succ _)
 rw [List.nil_append] at w'
 rcases r with ⟨rfl,rfl⟩ | ⟨b,row,h1,h2,rfl,h4⟩
 ·simp -implicitDefEqProofs (disch:=omega) only [go_sem]
  exact k _ _ (.inl ⟨rfl,.inl rfl⟩) (.refl _ _)
 ·simp -implicitDefEqProofs (disch:=omega) only [go_sem,strs_good,strs_eq,e]
  exact k _ _ w' ⟨by have:η.nx + 1 ≤ η'.nx:=n'; omega,fun c hc=>(k' c (Nat.lt_succ_of_lt hc) (fun g=>by have:η.nx = c:=g; omega)).trans (E.2 c hc)⟩
theorem round_step {n:Nd} {s x:S} {k:Nat} {seen w:List S}:roundL n s (k + 1) seen (w ++ [x]) = if x = s then some true else if seen.contains x then roundL n s k seen w else roundL n s k (x :: seen) (w ++ leansF n x):=by
 conv=>lhs; unfold roundL
 rw [List.getLast?_concat,List.dropLast_concat]
theorem round_nil {n:Nd} {s:S} {k:Nat} {seen:List S}:roundL n s (k + 1) seen [] = some false:=by
 unfold roundL; rfl
theorem seen_cons (x:S) (seen:List S):(fun t=>decide (t = x) || seen.contains t) = fun t=>(x :: seen).contains t:=by
 funext t
 rw [List.contains_cons]
 congr 1
 exact Bool.eq_iff_iff.2 (by simp)
set_option maxHeartbeats 4000000 in
theorem round_then (U:Usual nat) {η:HN} {lo gb:Nat} {n:Nd} (G:GraphAt lo η gb n) (hN:(ownN n).length ≤ 16385) (s:S) {b:Bool} (hb:roundF n s = some b) {Q:AV → HN → Prop} (k:∀ η',ExtB η.nx η η' → Q (.bool b) η'):∃ v' η',CallN Try.prog nat 87 [.ptr gb 0,.str s.1 s.2] η v' η' ∧ Q v' η':=by
 have G':=G
 obtain ⟨x,mb,M,h1,h2,h3,h4,h5,h6,h7,h8⟩:=G'
 refine call_of (PT:=pl87) Try.func87 rfl (U 87 (by decide)) ok87 rfl ?_
 obtain ⟨η1,e1⟩:∃ η1,η1 = η.new (.mp []):=⟨_,rfl⟩
 have E:ExtB η.nx η η1:=by rw [e1]; exact extN (.refl _ _)
 have n1:η1.nx = η.nx + 1:=by rw [e1]; rfl
 have M1:MapAt η1 η.nx (setM fun t=>([]:List S).contains t):=by rw [e1]; exact setM_new
 have g1:=(E.2 _ h2).trans h5
 have lk1:=(MapAt_ext h7 h4 E).look s false .nilslice
 rw [lkV_get] at lk1
 have lsl:∀ t,(leansF n t).length ≤ 16385:=fun t=>Nat.le_trans (leans_len t) hN
 have rl:=(h8 s).keep (η':=η1) E.1 fun b _ hb _ _=>E.2 b hb
 simp -implicitDefEqProofs (disch:=omega) only [go_sem]
 rw [← e1]
 simp -implicitDefEqProofs (disch:=omega) only [go_sem,h5,g1,lk1]
 refine thenN_call (stClone_then U rl (by have:=lsl s; omega) fun y2 η2 w2 E2=>?_)
 simp -implicitDefEqProofs (disch:=omega) only [go_sem]
 have n2:=E2.1
 obtain ⟨I,hI⟩:∃ I:Nat → FN → HN → Prop,∀ m φ ζ,I m φ ζ ↔ ∃ (seen work:List S) (y:AV),roundL n s m seen work = some b ∧ (φ 0 = .ptr gb 0 ∧ φ 1 = .str s.1 s.2 ∧ φ 5 = .map η.nx ∧ φ 6 = y) ∧ WorkW η1.nx ζ y work ∧ MapAt ζ η.nx (setM fun t=>seen.contains t) ∧ ExtB η.nx η ζ ∧ η1.nx ≤ ζ.nx ∧ (∀ t ∈ work,t ∈ ownN n) ∧ (∀ t ∈ seen,t ∈ ownN n) ∧ seen.Nodup ∧ work.length ≤ 16385 + seen.length * 16385:=⟨_,fun _ _ _=>Iff.rfl⟩
 refine wpN_loop I (fuelR n) ((hI _ _ _).2 ⟨[],leansF n s,y2,hb,⟨rfl,rfl,rfl,rfl⟩,w2,MapAt_ext M1 (by omega) E2,extT E E2,n2,leans_own s,(fun _ h=>by cases h),List.nodup_nil,by have:=lsl s; omega⟩) ?_
 clear M1 g1 lk1 rl w2 hb
 intro m φ ζ hi
 obtain ⟨seen,work,y,hr,⟨p0,p1,p5,p6⟩,wz,Mz,Ez,nz,how,hos,hnd,hwl⟩:=(hI _ _ _).1 hi
 have hsl:seen.length ≤ 16385:=Nat.le_trans (len_sub hnd hos) hN
 have hsq:seen.length * 16385 ≤ 16385 * 16385:=Nat.mul_le_mul_right _ hsl
 have lw:=fun η' e w=>WorkW.len (η':=η') (e:=e) (sz:=w) wz (by omega)
 cases m with
 | zero=>cases hr
 | succ m =>
  rcases List.eq_nil_or_concat work with rfl | ⟨w',t,rfl⟩
  ·rw [round_nil] at hr
   cases hr
   simp -implicitDefEqProofs (disch:=omega) only [go_sem,p0,p1,p5,p6,lw]
   exact k _ Ez
  ·rw [List.concat_eq_append] at *
   rw [round_step] at hr
   have ht:t ∈ ownN n:=how t (List.mem_append.2 (.inr (List.mem_singleton.2 rfl)))
   obtain ⟨c,row,c1,c2,rfl,c4,c5,c6,c7⟩:=work_cut wz
   rw [List.length_append] at hwl
   have hwl:w'.length + 1 ≤ 16385 + seen.length * 16385:=hwl
   have es:=strEq_S t s
   have lks:=setM_look Mz t
   by_cases hts:t = s
   ·rw [if_pos hts] at hr
    cases hr
    rw [decide_eq_true hts] at es
    simp -implicitDefEqProofs (disch:=omega) only [go_sem,p0,p1,p5,p6,c4,Nat.add_sub_cancel,c6,es]
    exact k _ Ez
   ·rw [if_neg hts] at hr
    rw [decide_eq_false hts] at es
    cases hc:seen.contains t with
    | true =>
     rw [hc] at lks
     rw [hc,if_pos rfl] at hr
     simp -implicitDefEqProofs (disch:=omega) only [go_sem,p0,p1,p5,p6,c4,Nat.add_sub_cancel,c6,es,lks,Bool.not_true]
     exact ⟨m,Nat.lt_succ_self _,(hI _ _ _).2 ⟨seen,w',_,hr,⟨by exact p0,by exact p1,by exact p5,rfl⟩,c7,Mz,Ez,nz,fun u hu=>how u (List.mem_append.2 (.inl hu)),hos,hnd,by omega⟩⟩
    | false =>
     rw [hc] at lks
     rw [hc,if_neg (by decide)] at hr
     obtain ⟨es2,eu,Mu⟩:=setM_put Mz t
     rw [seen_cons] at Mu
     have X9:ExtB η.nx η (ζ.put η.nx (.mp es2)):=extP Ez (Nat.le_refl _)
     obtain ⟨ζ1,eζ⟩:∃ ζ1,ζ1 = ζ.put η.nx (.mp es2):=⟨_,rfl⟩
     rw [← eζ] at X9 Mu eu
     have nz1:ζ1.nx = ζ.nx:=by rw [eζ]; rfl
     obtain ⟨x9,mb9,M9,a1,a2,a3,a4,a5,a6,a7,a8⟩:=G.ext X9
     have lk9:=a7.look t false .nilslice
     rw [lkV_get] at lk9
     have w9:WorkW η1.nx ζ1 (.slice c 0 w'.length (.un 1)) w':=c7.keep (by omega) fun b hb1 _=>by rw [eζ]; exact if_neg (by omega)
     obtain ⟨x',η',e9,v9,n9,k9⟩:=work_app (y0:=16) (by decide) w9 (a8 t) (by have:=lsl t; omega) (by omega)
     have hnc:¬ blkIs (.slice c 0 w'.length (.un 1)) η.nx:=fun g=>by have g:c = η.nx:=g; omega
     simp -implicitDefEqProofs (disch:=omega) only [go_sem,p0,p1,p5,p6,c4,Nat.add_sub_cancel,c6,es,lks,Bool.not_false,eu,a5,lk9,e9]
     refine ⟨m,Nat.lt_succ_self _,(hI _ _ _).2 ⟨t :: seen,w' ++ leansF n t,_,hr,⟨by exact p0,by exact p1,by exact p5,rfl⟩,v9,Mu.eq (k9 _ (by omega) hnc),⟨by have:=X9.1; omega,fun b hb=>(k9 b (by have:=X9.1; omega) (fun g=>by have g:c = b:=g; omega)).trans (X9.2 b hb)⟩,by omega,fun u hu=>?_,fun u hu=>?_,?_,?_⟩⟩
     ·exact (List.mem_append.1 hu).elim (fun g=>how u (List.mem_append.2 (.inl g))) (leans_own t u)
     ·exact (List.mem_cons.1 hu).elim (fun g=>g ▸ ht) (hos u)
     ·exact List.nodup_cons.2 ⟨fun g=>(by rw [List.contains_iff_mem.2 g] at hc; cases hc),hnd⟩
     ·rw [List.length_append,List.length_cons]; have:=lsl t; omega
end Go.Proofs.Ytkggpdaglhnonaa
namespace Go.Plain
open Go.Eng
set_option autoImplicit false
def causV (o:Option Nat):List AV:=match o with | some a=>[.int .i64 12,.int .i64 a] | none=>[.int .i64 0,.int .i64 0]
theorem causQ_drop {n:Nd} {l:List Eqn} {j:Nat} (h:j < l.length):causQ n (l.drop j) = if roundF n l[j].nm = some true then some l[j].a else causQ n (l.drop (j + 1)):=by
 rw [List.drop_eq_getElem_cons h]; rfl
theorem causF_drop {l:List Nd} {i:Nat} (h:i < l.length):causF (l.drop i) = match causQ l[i] l[i].eqs with | some a=>some a | none=>causF (l.drop (i + 1)):=by
 rw [List.drop_eq_getElem_cons h]; rfl
end Go.Plain
namespace Go.Proofs.Ytkggpdaglhnonaa
open Go.Eng Go.Plain
set_option autoImplicit false
set_option maxRecDepth 100000
variable {nat:∀ [Deep],Nats}
set_option maxHeartbeats 4000000 in
theorem causCheck_then (U:Usual nat) {l:List Nd} {ls:List (List AV)} {η:HN} {v:AV} (ok:okL l) (hN:∀ n ∈ l,(ownN n).length ≤ 16385) (rv:RdR 6 η v ls) (rl:rdNs tt η l ls) {Q:AV → HN → Prop}
  (k:∀ η',ExtB η.nx η η' → Q (.agg (causV (causF l))) η'):∃ v' η',CallN Try.prog nat 50 [v] η v' η' ∧ Q v' η':=by
 obtain ⟨hl,okn⟩:=ok
 obtain ⟨lsl,ls6⟩:=rdNs_len rl
 refine call_of (PT:=pl50) Try.func50 rfl (U 50 (by decide)) ok50 rfl ?_
 have ln:=fun η' e w=>row_len (η':=η') rv lsl (by omega) e w
 simp -implicitDefEqProofs (disch:=omega) only [go_sem,ln]
 obtain ⟨I,hI⟩:∃ I:Nat → FN → HN → Prop,∀ m φ ζ,I m φ ζ ↔ ∃ i,m = l.length - i ∧ i ≤ l.length ∧ (φ 0 = v ∧ φ 2 = .ptr η.nx 0 ∧ φ 8 = v ∧ φ 9 = .int .i64 l.length ∧ φ 10 = .int .i64 i) ∧ ExtB η.nx η ζ ∧ ζ.f η.nx = .live false [.int .i64 0,.int .i64 0] ∧ η.nx < ζ.nx ∧ causF (l.drop i) = causF l:=⟨_,fun _ _ _=>Iff.rfl⟩
 refine wpN_loop I l.length ((hI _ _ _).2 ⟨0,rfl,Nat.zero_le _,⟨rfl,rfl,rfl,rfl,rfl⟩,extN (.refl _ _),if_pos rfl,Nat.lt_succ_self _,rfl⟩) ?_
 intro m φ ζ hi
 obtain ⟨i,hm,hi,⟨p0,p2,p10,p11,p12⟩,Ex,c2,nz,en⟩:=(hI _ _ _).1 hi
 by_cases hlt:i < l.length
 ·obtain ⟨hi',ri⟩:=rdNs_at rl i hlt
  obtain ⟨b',off,cap,ro,row,rfl,hbv',hbn',hlen,hrow⟩:=rv.at hi'
  have hbz:ζ.f b' = _:=(Ex.2 b' hbn').trans hbv'
  have okd:=okn _ (List.getElem_mem hlt)
  have hNd:=hN _ (List.getElem_mem hlt)
  rw [causF_drop hlt] at en
  generalize hd:l[i] = d at *
  generalize hz:ls[i] = zd at *
  have ri':=ri
  obtain ⟨y1,y2,y3,y4,rfl,-,-,-,-,qs,r4,r5⟩:=ri'
  have hsn:sV d.nm = .str d.nm.1 d.nm.2:=rfl
  rw [hsn] at ri hrow
  have lq:=(rdQs_len r5).1
  have okq:=okd.2.2.2.2.2
  have hEl:=okd.2.2.2.2.1
  have l4:=fun η' e w=>row_len (η':=η') r4 lq (by have:=okd.2.2.2.2.1; omega) e w
  have E1:ExtB η.nx η (ζ.new (.live false [.str d.nm.1 d.nm.2,y1,y2,y3,y4,.int .i64 d.a])):=extN Ex
  have d4:(ζ.new (.live false [.str d.nm.1 d.nm.2,y1,y2,y3,y4,.int .i64 d.a])).f ζ.nx = .live false [.str d.nm.1 d.nm.2,y1,y2,y3,y4,.int .i64 d.a]:=if_pos rfl
  have d2:(ζ.new (.live false [.str d.nm.1 d.nm.2,y1,y2,y3,y4,.int .i64 d.a])).f η.nx = .live false [.int .i64 0,.int .i64 0]:=(if_neg (by omega)).trans c2
  have n1:(ζ.new (.live false [.str d.nm.1 d.nm.2,y1,y2,y3,y4,.int .i64 d.a])).nx = ζ.nx + 1:=rfl
  simp -implicitDefEqProofs (disch:=omega) only [go_sem,p0,p2,p10,p11,p12,hbz,hrow,repL_s,repL_z,setsL_c]
  generalize ζ.new (.live false [.str d.nm.1 d.nm.2,y1,y2,y3,y4,.int .i64 d.a]) = ζ1 at *
  refine thenN_call (made_then U (rdN_ext ri E1) okd fun gb ζ2 G E2=>?_)
  have n2:=E2.1
  have e2:ζ2.f η.nx = _:=(E2.2 _ (by omega)).trans d2
  have e4:ζ2.f ζ.nx = _:=(E2.2 _ (by omega)).trans d4
  simp -implicitDefEqProofs (disch:=omega) only [go_sem,p0,p2,p10,p11,p12,e4,l4]
  obtain ⟨J,hJ⟩:∃ J:Nat → FN → HN → Prop,∀ m φ ζ',J m φ ζ' ↔ ∃ j,m = d.eqs.length - j ∧ j ≤ d.eqs.length ∧ (φ 0 = .slice b' off ls.length cap ∧ φ 2 = .ptr η.nx 0 ∧ φ 5 = .ptr gb 0 ∧ φ 8 = .slice b' off ls.length cap ∧ φ 9 = .int .i64 l.length ∧ φ 10 = .int .i64 i ∧ φ 17 = y4 ∧ φ 18 = .int .i64 d.eqs.length ∧ φ 19 = .int .i64 j) ∧ ExtB ζ2.nx ζ2 ζ' ∧ causQ d (d.eqs.drop j) = causQ d d.eqs:=⟨_,fun _ _ _=>Iff.rfl⟩
  refine wpN_loop J d.eqs.length ((hJ _ _ _).2 ⟨0,rfl,Nat.zero_le _,⟨by exact p0,by exact p2,rfl,by exact p10,by exact p11,by exact p12,rfl,rfl,rfl⟩,.refl _ _,rfl⟩) ?_
  clear p0 p2 p10 p11 p12
  intro m φ ζ' hj
  obtain ⟨j,hm',hj,⟨p0,p2,p5,p10,p11,p12,p17,p18,p19⟩,Ez,eq⟩:=(hJ _ _ _).1 hj
  have nz':=Ez.1
  have EZ:ExtB η.nx η ζ':=extT (extT E1 E2) Ez
  have f2:ζ'.f η.nx = _:=(Ez.2 _ (by omega)).trans e2
  by_cases hjt:j < d.eqs.length
  ·obtain ⟨hj',rj⟩:=rdQs_at r5 j hjt
   obtain ⟨b,off2,cap2,ro2,row2,rfl,hbv,hbn,hlen2,hrow2⟩:=r4.at hj'
   have hbz2:ζ'.f b = _:=(EZ.2 b hbn).trans hbv
   rw [causQ_drop hjt] at eq
   generalize d.eqs[j] = q at *
   obtain ⟨ze,eze,re⟩:=rj
   have ref:=rdE_cells re
   obtain ⟨g1,g2,g3,g4,g5,rfl⟩:=ref
   rw [eze] at hrow2
   have hrow2:(row2.drop (off2 + j * 7)).take 7 = [.str q.nm.1 q.nm.2,.str g1.1 g1.2,.str g2.1 g2.2,.int .i64 g3,.int .i64 g4,g5,.int .i64 q.a]:=hrow2
   simp -implicitDefEqProofs (disch:=omega) only [go_sem,p0,p2,p5,p10,p11,p12,p17,p18,p19,hbz2,hrow2,repL_s,repL_z,setsL_c]
   obtain ⟨W,eW⟩:∃ W,W = ζ'.new (.live false [.str q.nm.1 q.nm.2,.str g1.1 g1.2,.str g2.1 g2.2,.int .i64 g3,.int .i64 g4,g5,.int .i64 q.a]):=⟨_,rfl⟩
   have E3:ExtB ζ'.nx ζ' W:=by rw [eW]; exact extN (.refl _ _)
   have w6:W.f ζ'.nx = .live false [.str q.nm.1 q.nm.2,.str g1.1 g1.2,.str g2.1 g2.2,.int .i64 g3,.int .i64 g4,g5,.int .i64 q.a]:=by rw [eW]; exact if_pos rfl
   have nW:W.nx = ζ'.nx + 1:=by rw [eW]; rfl
   rw [← eW]
   have EW:ExtB η.nx η W:=extT EZ E3
   obtain ⟨bb,eb,-⟩:=round_is (n:=d) (s:=q.nm)
   rw [eb] at eq
   refine thenN_call (round_then U ((G.ext Ez).ext E3) hNd q.nm eb fun η5 E5=>?_)
   have n5:=E5.1
   have h6:=(E5.2 _ (by omega:ζ'.nx < W.nx)).trans w6
   have h2:=(E5.2 _ (by omega:η.nx < W.nx)).trans ((E3.2 _ (by omega)).trans f2)
   cases bb with
   | true =>
    rw [if_pos rfl] at eq
    rw [← eq] at en
    have en:some q.a = causF l:=en
    rw [← en] at k
    simp -implicitDefEqProofs (disch:=omega) only [go_sem,p0,p2,p5,p10,p11,p12,p17,p18,p19,h6,h2,repL_s,repL_z,setsL_c]
    exact k _ (extP (extT EW E5))
   | false =>
    rw [if_neg (by simp)] at eq
    simp -implicitDefEqProofs (disch:=omega) only [go_sem,p0,p2,p5,p10,p11,p12,p17,p18,p19]
    exact ⟨d.eqs.length - (j + 1),by omega,(hJ _ _ _).2 ⟨j + 1,rfl,hjt,⟨by exact p0,by exact p2,by exact p5,by exact p10,by exact p11,by exact p12,by exact p17,by exact p18,rfl⟩,extT (extT Ez E3) E5,eq⟩⟩
  ·obtain rfl:j = d.eqs.length:=by omega
   rw [List.drop_length] at eq
   have eq:none = causQ d d.eqs:=eq
   rw [← eq] at en
   simp -implicitDefEqProofs (disch:=omega) only [go_sem,p0,p2,p5,p10,p11,p12,p17,p18,p19]
   exact ⟨l.length - (i + 1),by omega,(hI _ _ _).2 ⟨i + 1,rfl,hlt,⟨by exact p0,by exact p2,by exact p10,by exact p11,rfl⟩,EZ,f2,by omega,en⟩⟩
 ·obtain rfl:i = l.length:=by omega
  rw [List.drop_length] at en
  have en:none = causF l:=en
  rw [← en] at k
  simp -implicitDefEqProofs (disch:=omega) only [go_sem,p0,p2,p10,p11,p12,c2,repL_s,repL_z,setsL_c]
  exact k _ (extP Ex)
end Go.Proofs.Ytkggpdaglhnonaa
namespace Go.Plain
open Go.Eng
set_option autoImplicit false
theorem done_app (l:List S) (x:S):(fun t=>decide (t = x) || l.contains t) = fun t=>(l ++ [x]).contains t:=by
 have e:=addM_one (fun t=>l.contains t) x
 rw [e]
 funext t
 unfold addM
 rw [List.contains_append]
end Go.Plain
namespace Go.Proofs.Ytkggpdaglhnonaa
open Go.Eng Go.Plain
set_option autoImplicit false
set_option maxRecDepth 100000
variable {nat:∀ [Deep],Nats}
theorem order11_then (U:Usual nat) {η:HN} {c db:Nat} {P:S → Bool} (hc:η.f c = .live false [.map db]) (M:MapAt η db (setM P)) (s:S) {Q:AV → HN → Prop} (k:Q (.bool (!P s)) η):∃ v' η',CallN Try.prog nat 79 [.str s.1 s.2,.ptr c 0] η v' η' ∧ Q v' η':=by
 refine call_of (PT:=pl79) Try.func79 rfl (U 79 (by decide)) ok79 rfl ?_
 have lk:=setM_look M s
 simp -implicitDefEqProofs (disch:=omega) only [go_sem,hc,lk]
 exact k
theorem contF_then (U:Usual nat) {η:HN} {lo:Nat} {x:AV} {m:List S} (r:RowT lo η x m) (hm:m.length ≤ 4294967296) {p:S → Bool} {f:FuncId} {caps:List AV} (hc:TellsS nat η m p f caps) {Q:AV → HN → Prop} (k:Q (.bool (m.any p)) η):∃ v' η',CallN Try.prog nat 78 [x,.func f [] caps] η v' η' ∧ Q v' η':=by
 refine call_of (PT:=pl78) Try.func78 rfl (U 78 (by decide)) ok78 rfl ?_
 simp -implicitDefEqProofs (disch:=omega) only [go_sem]
 refine thenN_call (stIx_then U r hm hc ?_)
 have ea:=ixL_any p m 0
 cases e:ixL p m 0 with
 | none =>
  rw [e] at ea
  have ea:false = m.any p:=ea
  rw [← ea] at k
  have ee:encO none = 18446744073709551615:=rfl
  simp -implicitDefEqProofs (disch:=omega) only [go_sem,ee,slt_m1]
  exact k
 | some j =>
  rw [e] at ea
  have ea:true = m.any p:=ea
  rw [← ea] at k
  obtain ⟨_,hj,_⟩:=ixL_lt e
  have ee:encO (some j) = j:=rfl
  simp -implicitDefEqProofs (disch:=omega) only [go_sem,ee]
  exact k
theorem order1_then (U:Usual nat) {η:HN} {lo c5 c4 db gb:Nat} {n:Nd} {l:List S} (hc5:η.f c5 = .live false [.map db]) (hc4:η.f c4 = .live false [.ptr gb 0]) (G:GraphAt lo η gb n) (ok:okN n) (M:MapAt η db (setM fun t=>l.contains t)) (s:S) {Q:AV → HN → Prop} (k:Q (.bool (readyF n l s)) η):∃ v' η',CallN Try.prog nat 77 [.str s.1 s.2,.ptr c5 0,.ptr c4 0] η v' η' ∧ Q v' η':=by
 refine call_of (PT:=pl77) Try.func77 rfl (U 77 (by decide)) ok77 rfl ?_
 have lk:=setM_look M s
 obtain ⟨x,mb,M9,h1,h2,h3,h4,h5,h6,h7,h8⟩:=G
 have lk9:=h7.look s false .nilslice
 rw [lkV_get] at lk9
 unfold readyF at k
 cases hs:l.contains s with
 | true =>
  rw [hs] at lk k
  simp -implicitDefEqProofs (disch:=omega) only [go_sem,hc5,hc4,h5,lk,lk9,Bool.not_true]
  exact k
 | false =>
  rw [hs] at lk k
  have hll:(leansF n s).length ≤ 4294967296:=Nat.le_trans (leans_len s) (own_lenN ok)
  simp -implicitDefEqProofs (disch:=omega) only [go_sem,hc5,hc4,h5,lk,lk9,Bool.not_false]
  refine thenN_call (contF_then U (h8 s) hll (p:=fun x=>!l.contains x) (fun t _ Q' k'=>order11_then U hc5 M t k') ?_)
  simp -implicitDefEqProofs (disch:=omega) only [go_sem]
  exact k
set_option maxHeartbeats 4000000 in
theorem order_then (U:Usual nat) {η:HN} {n:Nd} {z:List AV} (r:rdN tt η n z) (ok:okN n) {Q:AV → HN → Prop} (k:∀ y η',(match orderF n with | some o=>RowA η.nx η' y (strc o) | none=>y = .nilslice) → ExtB η.nx η η' → Q (.tup [y,.bool (orderF n).isSome]) η'):∃ v' η',CallN Try.prog nat 48 [.agg z] η v' η' ∧ Q v' η':=by
 have r':=r
 obtain ⟨y1,y2,y3,y4,rfl,-⟩:=r'
 refine call_of (PT:=pl48) Try.func48 rfl (U 48 (by decide)) ok48 rfl ?_
 have E:ExtB η.nx η (η.new (.live false [sV n.nm,y1,y2,y3,y4,.int .i64 n.a])):=extN (.refl _ _)
 have c0:(η.new (.live false [sV n.nm,y1,y2,y3,y4,.int .i64 n.a])).f η.nx = .live false [sV n.nm,y1,y2,y3,y4,.int .i64 n.a]:=if_pos rfl
 have n0:(η.new (.live false [sV n.nm,y1,y2,y3,y4,.int .i64 n.a])).nx = η.nx + 1:=rfl
 simp -implicitDefEqProofs (disch:=omega) only [go_sem]
 generalize η.new (.live false [sV n.nm,y1,y2,y3,y4,.int .i64 n.a]) = η1 at *
 refine thenN_call (made_then U (rdN_B r E) ok fun gb η2 G E2=>?_)
 have n2:=E2.1
 have E02:=extT E E2
 have hol:=own_lenN ok
 obtain ⟨η3,h3⟩:∃ η3,η3 = (((η2.new (.live false [.ptr gb 0])).new (.mp [])).new (.live false [.nilmap])).put (η2.nx + 1 + 1) (.live false [.map (η2.nx + 1)]):=⟨_,rfl⟩
 have E3:ExtB η2.nx η2 η3:=by rw [h3]; exact extP (extN (extN (extN (.refl _ _)))) (by omega)
 have n3:η3.nx = η2.nx + 3:=by rw [h3]; rfl
 have m3:MapAt η3 (η2.nx + 1) (setM fun t=>([]:List S).contains t):=by
  have M:=setM_new (η:=η2.new (.live false [.ptr gb 0]))
  have M:=MapAt_ext M (Nat.lt_succ_self _) (.new (y:=.live false [.nilmap]) (Nat.le_refl _))
  rw [h3]; exact M.eq (if_neg (by show ¬ η2.nx + 1 = η2.nx + 1 + 1; omega))
 have c4:η3.f η2.nx = .live false [.ptr gb 0]:=by rw [h3]; exact (if_neg (by omega)).trans ((if_neg (by show ¬ η2.nx = η2.nx + 1 + 1; omega)).trans ((if_neg (by show ¬ η2.nx = η2.nx + 1; omega)).trans (if_pos rfl)))
 have c5:η3.f (η2.nx + 1 + 1) = .live false [.map (η2.nx + 1)]:=by rw [h3]; exact if_pos rfl
 simp -implicitDefEqProofs (disch:=omega) only [go_sem,repL_s,repL_z,setsL_c]
 rw [← h3]
 clear h3
 obtain ⟨I,hI⟩:∃ I:Nat → FN → HN → Prop,∀ m φ ζ,I m φ ζ ↔ ∃ (l:List S) (y:AV),m = (ownN n).length - l.length ∧ l.length ≤ (ownN n).length ∧ (φ 4 = .ptr η2.nx 0 ∧ φ 5 = .ptr (η2.nx + 1 + 1) 0 ∧ φ 6 = .func 77 [] [.ptr (η2.nx + 1 + 1) 0,.ptr η2.nx 0] ∧ φ 7 = y) ∧ RowA η3.nx ζ y (strc l) ∧ MapAt ζ (η2.nx + 1) (setM fun t=>l.contains t) ∧ ExtX (η2.nx + 1) η3 ζ ∧ orderL n ((ownN n).length - l.length) l = orderF n:=⟨_,fun _ _ _=>Iff.rfl⟩
 refine wpN_loop I (ownN n).length ((hI _ _ _).2 ⟨[],.nilslice,rfl,Nat.zero_le _,⟨rfl,rfl,rfl,rfl⟩,.inl ⟨rfl,rfl⟩,m3,.refl _ _,rfl⟩) ?_
 clear m3
 intro m φ ζ hi
 obtain ⟨l,y,hm,hl,⟨p4,p5,p6,p7⟩,ry,Mz,Xz,eo⟩:=(hI _ _ _).1 hi
 have nz:=Xz.1
 have z4:ζ.f η2.nx = _:=(Xz.2 _ (by omega) (by omega)).trans c4
 have z5:ζ.f (η2.nx + 1 + 1) = _:=(Xz.2 _ (by omega) (by omega)).trans c5
 have Ez:ExtB η2.nx η2 ζ:=⟨by omega,fun c hc=>(Xz.2 c (by omega) (by omega)).trans (E3.2 c hc)⟩
 have G2:=G.ext Ez
 have EE:=extT E02 Ez
 have G3:=G2
 obtain ⟨x,mb,M,h1,h2,h3,h4,h5,h6,h7,h8⟩:=G3
 have lny:=fun η' e w=>row_len (η':=η') ry.rd (strc_rows l) (by omega) e w
 have lnx:=fun η' e w=>row_len (η':=η') h6.rd (strc_rows (ownN n)) (by omega) e w
 by_cases hlt:l.length < (ownN n).length
 ·obtain ⟨q,hq⟩:∃ q,(ownN n).length - l.length = q + 1:=⟨(ownN n).length - l.length - 1,by omega⟩
  rw [hq] at eo
  have eo:(match (ownN n).find? (readyF n l) with | some s=>orderL n q (l ++ [s]) | none=>none) = orderF n:=eo
  simp -implicitDefEqProofs (disch:=omega) only [go_sem,p4,p5,p6,p7,lny,lnx,z4,h5]
  refine thenN_call (stIx_then U h6.t (by omega) (p:=readyF n l) (fun t _ Q' k'=>order1_then U z5 z4 G2 ok Mz t k') ?_)
  have fd:=ixL_find (readyF n l) (ownN n) 0
  cases e:ixL (readyF n l) (ownN n) 0 with
  | none =>
   rw [e] at fd
   have fd:none = (ownN n).find? (readyF n l):=fd
   rw [← fd] at eo
   have eo:none = orderF n:=eo
   rw [← eo] at k
   have ee:encO none = 18446744073709551615:=rfl
   simp -implicitDefEqProofs (disch:=omega) only [go_sem,p4,p5,p6,p7,ee,slt_m1]
   exact k _ _ rfl EE
  | some j =>
   obtain ⟨_,hj,_⟩:=ixL_lt e
   have hj:j < (ownN n).length:=by omega
   rw [e] at fd
   have fd:(ownN n)[j - 0]? = (ownN n).find? (readyF n l):=fd
   rw [Nat.sub_zero,List.getElem?_eq_getElem hj] at fd
   rw [← fd] at eo
   have eo:orderL n q (l ++ [(ownN n)[j]]) = orderF n:=eo
   have ee:encO (some j) = j:=rfl
   obtain ⟨b,b1,b2,rfl,-,hb⟩:=h6.resolve_left (fun g=>by have:=congrArg List.length g.2; rw [strc_len] at this; have:(ownN n).length = 0:=this; omega)
   have gl:=strc_len (ownN n)
   have gs:=strc_get hj
   generalize (ownN n)[j] = w at *
   obtain ⟨es,eu,Mu⟩:=setM_put Mz w
   rw [done_app] at Mu
   obtain ⟨ed,eed,-,-⟩:=Mz
   have hne:∀ c row,ζ.f c = .live false row → c ≠ η2.nx + 1:=fun c row g e=>by rw [e,eed] at g; cases g
   obtain ⟨ζ1,e1⟩:∃ ζ1,ζ1 = ζ.put (η2.nx + 1) (.mp es):=⟨_,rfl⟩
   rw [← e1] at Mu eu
   have n1:ζ1.nx = ζ.nx:=by rw [e1]; rfl
   have k1:∀ c,c ≠ η2.nx + 1 → ζ1.f c = ζ.f c:=fun c hc=>by rw [e1]; exact if_neg hc
   have z4':=(k1 η2.nx (by omega)).trans z4
   have h5':=(k1 gb (hne _ _ h5)).trans h5
   have hb':=(k1 b (hne _ _ hb)).trans hb
   simp -implicitDefEqProofs (disch:=omega) only [go_sem,p4,p5,p6,p7,ee,z4,z5,h5,hb,gl,gs,eu,z4',h5',hb']
   have r1:RowA η3.nx ζ1 y (strc l):=ry.keep (by omega) fun c _ _ g=>k1 c (hne _ _ g)
   obtain ⟨ζ9,e9,ra9,n9,k9⟩:=rowA_app (w:=16) (η:=ζ1.new (.live false [.str w.1 w.2])) (v:=.str w.1 w.2) (zb:=ζ1.nx) (c:=.kn 1) (r1.keep (η':=ζ1.new (.live false [.str w.1 w.2])) (Nat.le_succ _) fun c _ h2 _=>if_neg (by omega)) (if_pos rfl) (Nat.lt_succ_self _) (by rw [strc_len]; omega) (by show η3.nx ≤ ζ1.nx + 1; omega)
   rw [strc_app] at ra9
   rw [strc_len] at e9 ra9
   have n9':ζ9.nx = ζ1.nx + 2:=n9
   have yal:∀ c,blkIs y c → η3.nx ≤ c:=fun c hc=>(r1.blk hc).1
   have ll:(l ++ [w]).length = l.length + 1:=List.length_append
   have k9':∀ c,c < ζ.nx → c < η3.nx → ζ9.f c = ζ1.f c:=fun c h1 h2=>(k9 c (by show c < ζ1.nx + 1; omega) (fun g=>by have:=yal c g; omega)).trans (if_neg (by omega))
   rw [e9]
   simp -implicitDefEqProofs (disch:=omega) only [go_sem,p4,p5,p6,p7]
   refine ⟨(ownN n).length - (l.length + 1),by omega,(hI _ _ _).2 ⟨l ++ [w],_,by rw [ll],by omega,⟨by exact p4,by exact p5,by exact p6,rfl⟩,ra9,Mu.eq (k9' _ (by omega) (by omega)),⟨by omega,fun c g1 g2=>(k9' c (by omega) g1).trans ((k1 c g2).trans (Xz.2 c g1 g2))⟩,by rw [ll,show (ownN n).length - (l.length + 1) = q by omega]; exact eo⟩⟩
 ·have hle:l.length = (ownN n).length:=by omega
  rw [hle,Nat.sub_self] at eo
  have eo:some l = orderF n:=eo
  rw [← eo] at k
  simp -implicitDefEqProofs (disch:=omega) only [go_sem,p4,p5,p6,p7,lny,lnx,z4,h5]
  exact k _ _ (ry.down (by omega)) EE
end Go.Proofs.Ytkggpdaglhnonaa
