/- What is proved: what the finding of names does. what the program's check of an expression's names does. what the program's check of an expression's names does. what the program's check of a node's declarations does. what the program's check of a node's equations' names does. what the program's check of names does. what the program's check of names, of a text, does. Conditions: as each theorem says. -/
import Derived.Test.YtpjmiopplfmcfaaNameA
import Derived.Test.YtpjmiopplfmcfaaPlain
import Derived.Test.YtpjmiopplfmcfaaReadE
set_option linter.unusedVariables false
set_option linter.unusedSimpArgs false
set_option linter.unusedSectionVars false
namespace Go.Proofs.Ytpjmiopplfmcfaa
open Go.Eng Go.Plain
set_option autoImplicit false
set_option maxRecDepth 100000
variable {nat : ∀ [Deep], Nats}
theorem ixVar_spec (U : Usual nat) {α : Type} {l : List α} {ls : List (List AV)} {η : HN} {v : AV} (hl : ls.length = l.length) (hn : l.length ≤ 4294967296) (rv : RdR 5 η v ls) {p : α → Bool} {f : FuncId} {caps : List AV}
  (hc : TellsN nat η l ls p f caps) {Q : AV → HN → Prop} (k : ∀ η', ExtB η.nx η η' → Q (.int .i64 (encO (ixL p l 0))) η') : ∃ v' η', CallN Try.prog nat 89 [v, .func f [] caps] η v' η' ∧ Q v' η' := by
 refine call_of (PT := pl89) Try.func89 rfl (U 89 (by decide)) ok89 rfl ?_
 have ln := fun η' e w => row_len (η' := η') rv hl (by omega) e w
 simp -implicitDefEqProofs (disch := omega) only [go_sem, ln]
 obtain ⟨I, hI⟩ : ∃ I : Nat → FN → HN → Prop, ∀ m φ ζ, I m φ ζ ↔ ∃ i, m = l.length - i ∧ i ≤ l.length ∧ (φ 0 = v ∧ φ 1 = .func f [] caps ∧ φ 7 = .int .i64 l.length ∧ φ 8 = .int .i64 i) ∧ ixL p (l.drop i) i = ixL p l 0 ∧ ExtB η.nx η ζ := ⟨_, fun _ _ _ => Iff.rfl⟩
 refine wpN_loop I l.length ((hI _ _ _).2 ⟨0, rfl, Nat.zero_le _, ⟨rfl, rfl, rfl, rfl⟩, rfl, .refl _ _⟩) ?_
 intro m φ ζ hi
 obtain ⟨i, hm, hi, ⟨p0, p1, p7, p8⟩, ex, Ex⟩ := (hI _ _ _).1 hi
 by_cases hlt : i < l.length
 ·obtain ⟨b, off, cap, ro, row, rfl, hb, hbn, hlen, hrow⟩ := rv.at (i := i) (by omega)
  have hbz : ζ.f b = _ := (Ex.2 b hbn).trans hb
  simp -implicitDefEqProofs (disch := omega) only [go_sem, p0, p1, p7, p8, hbz, hrow]
  refine thenN_call (hc ζ Ex i hlt (by omega) _ fun ζ2 x2 => ?_)
  rw [ixL_drop hlt] at ex
  cases e : p l[i] with
  | true =>
   rw [e, if_pos rfl] at ex
   rw [← ex] at k
   simp -implicitDefEqProofs (disch := omega) only [go_sem, p0, p1, p7, p8]
   exact k _ (extT Ex x2)
  | false =>
   rw [e, if_neg (by decide)] at ex
   simp -implicitDefEqProofs (disch := omega) only [go_sem, p0, p1, p7, p8]
   exact ⟨l.length - (i + 1), by omega, (hI _ _ _).2 ⟨i + 1, rfl, hlt, ⟨by exact p0, by exact p1, by exact p7, rfl⟩, ex, extT Ex x2⟩⟩
 ·obtain rfl : i = l.length := by omega
  rw [List.drop_length] at ex
  rw [← ex] at k
  simp -implicitDefEqProofs (disch := omega) only [go_sem, p0, p1, p7, p8]
  exact k _ Ex
theorem bad_then (U : Usual nat) {η : HN} {a b : Nat} {Q : AV → HN → Prop} (k : ∀ η', ExtB η.nx η η' → Q (.agg [.int .i64 a, .int .i64 b]) η') : ∃ v η', CallN Try.prog nat 28 [.agg [.int .i64 a, .int .i64 b]] η v η' ∧ Q v η' := by
 refine call_of (PT := pl28) Try.func28 rfl (U 28 (by decide)) ok28 rfl ?_
 simp -implicitDefEqProofs (disch := omega) only [go_sem]
 exact k _ (extP (extN (extN (.refl _ _))))
theorem nm1_then (U : Usual nat) {η : HN} {z : List AV} {n : Nd} {c : Nat} {s : S} (r : rdN tt η n z) (hc : η.f c = .live false [.str s.1 s.2]) (hcn : c < η.nx) {Q : AV → HN → Prop} (k : ∀ η', ExtB η.nx η η' → Q (.bool (decide (n.nm = s))) η') : ∃ v η', CallN Try.prog nat 54 [.agg z, .ptr c 0] η v η' ∧ Q v η' := by
 obtain ⟨y1, y2, y3, y4, rfl, _⟩ := r
 refine call_of (PT := pl54) Try.func54 rfl (U 54 (by decide)) ok54 rfl ?_
 have e := strEq_S n.nm s
 simp -implicitDefEqProofs (disch := omega) only [go_sem, sV, hc, e]
 exact k _ (extN (.refl _ _))
theorem var1_then (U : Usual nat) {η : HN} {v : Vr} {c : Nat} {s : S} {f1 f2 f3 f4 f5 f6 : AV} (hc : η.f c = .live false [.str s.1 s.2, f1, f2, f3, f4, f5, f6]) (hcn : c < η.nx) {Q : AV → HN → Prop} (k : ∀ η', ExtB η.nx η η' → Q (.bool (decide (v.nm = s))) η') : ∃ v' η', CallN Try.prog nat 128 [.agg v.cells, .ptr c 0] η v' η' ∧ Q v' η' := by
 refine call_of (PT := pl128) Try.func128 rfl (U 128 (by decide)) ok128 rfl ?_
 have e := strEq_S v.nm s
 have hv : v.cells = [.str v.nm.1 v.nm.2, .int .i64 v.kd, .str v.on.1 v.on.2, .bool v.nt, .int .i64 v.a] := rfl
 rw [hv]
 simp -implicitDefEqProofs (disch := omega) only [go_sem, hc, e]
 exact k _ (extN (.refl _ _))
theorem rdN_ext {η η' : HN} {n : Nd} {z : List AV} (r : rdN tt η n z) (x : ExtB η.nx η η') : rdN tt η' n z := rdN_keep (keep_b x) x.1 (fun _ h => h) r
theorem node_then (U : Usual nat) {l : List Nd} {ls : List (List AV)} {η : HN} {v : AV} (hn : l.length ≤ 64) (rv : RdR 6 η v ls) (rl : rdNs tt η l ls) (s : S) {Q : AV → HN → Prop}
  (k : ∀ η', ExtB η.nx η η' → Q (.int .i64 (encO (ixL (fun n : Nd => decide (n.nm = s)) l 0))) η') : ∃ v' η', CallN Try.prog nat 20 [v, .str s.1 s.2] η v' η' ∧ Q v' η' := by
 refine call_of (PT := pl20) Try.func20 rfl (U 20 (by decide)) ok20 rfl ?_
 have ll := (rdNs_len rl).1
 have E : ExtB η.nx η (η.new (.live false [.str s.1 s.2])) := extN (.refl _ _)
 simp -implicitDefEqProofs (disch := omega) only [go_sem]
 refine thenN_call (ixNode_spec U (l := l) (ls := ls) (p := fun n : Nd => decide (n.nm = s)) ll (by omega) (rv.ext (base := 0) E) ?_ fun η2 x2 => ?_)
 ·intro ζ Ez i h h' Q k
  obtain ⟨h1, r1⟩ := rdNs_at rl i h
  exact nm1_then U (rdN_ext r1 (extT E Ez)) ((Ez.2 _ (Nat.lt_succ_self _)).trans (if_pos rfl)) (Nat.lt_of_lt_of_le (Nat.lt_succ_self _) Ez.1) k
 ·simp -implicitDefEqProofs (disch := omega) only [go_sem]
  exact k _ (extT E x2)
end Go.Proofs.Ytpjmiopplfmcfaa
namespace Go.Proofs.Ytpjmiopplfmcfaa
open Go.Eng Go.Plain
set_option autoImplicit false
set_option maxRecDepth 100000
variable {nat : ∀ [Deep], Nats}
theorem lt_m1 : ltN .i64 18446744073709551615 0 = true := rfl
structure ChkAt (η : HN) (cb : Nat) (v : AV) (h : List Nd) (z : List AV) (m : AV) : Prop where
 hb : ∃ s : S, ∃ y1 y2 y3 y4 a, z = [.str s.1 s.2, y1, y2, y3, y4, .int .i64 a] ∧ η.f cb = .live false [v, .str s.1 s.2, y1, y2, y3, y4, .int .i64 a, m]
 hn : cb < η.nx
 hv : ∃ ls, RdR 6 η v ls ∧ rdNs tt η h ls
 hl : h.length ≤ 64 ∧ ∀ d ∈ h, okN d
theorem ChkAt.ext {η η' : HN} {cb : Nat} {v m : AV} {h : List Nd} {z : List AV} (c : ChkAt η cb v h z m) (x : ExtB η.nx η η') : ChkAt η' cb v h z m := by
 obtain ⟨s, y1, y2, y3, y4, a, h1, h2⟩ := c.hb
 obtain ⟨ls, h3, h4⟩ := c.hv
 exact ⟨⟨s, y1, y2, y3, y4, a, h1, (x.2 cb c.hn).trans h2⟩, Nat.lt_of_lt_of_le c.hn x.1, ⟨ls, h3.ext (base := 0) x, rdNs_keep (keep_b x) x.1 (fun _ h => h) h4⟩, c.hl⟩
theorem call_then (U : Usual nat) {η : HN} {cb : Nat} {v m : AV} {h : List Nd} {zn : List AV} (c : ChkAt η cb v h zn m) {op nm : S} {n a : Nat} {ks : List Tr} {z : List AV} (r : rdE tt η (.mk op nm n a ks) z) (hk : ks.length ≤ 1073741824) {Q : AV → HN → Prop}
  (k : ∀ η', ExtB η.nx η η' → Q (.bool (callOk h nm ks.length)) η') : ∃ v' η', CallN Try.prog nat 141 [.ptr cb 0, .agg z] η v' η' ∧ Q v' η' := by
 obtain ⟨s, y1, y2, y3, y4, an, rfl, hb⟩ := c.hb
 obtain ⟨lv, rv, rl⟩ := c.hv
 have hcn := c.hn
 obtain ⟨hl, hok⟩ := c.hl
 unfold rdE at r
 obtain ⟨y, rfl, -, ls, ry, rks⟩ := r
 have hll := (rdEs_len rks).1
 refine call_of (PT := pl141) Try.func141 rfl (U 141 (by decide)) ok141 rfl ?_
 simp -implicitDefEqProofs (disch := omega) only [go_sem, sV, hb]
 have E : ExtB η.nx η (η.new (.live false [.str op.1 op.2, .str nm.1 nm.2, .int .i64 n, .int .i64 a, y])) := extN (.refl _ _)
 refine dE_call (node_then U hl (rv.ext (base := 0) E) (rdNs_keep (keep_b E) E.1 (fun _ h => h) rl) nm fun η2 x2 => ?_)
 have E2 := extT E x2
 have hb2 : η2.f cb = _ := (E2.2 cb hcn).trans hb
 have c2 : η2.f η.nx = _ := (x2.2 _ (Nat.lt_succ_self _)).trans (if_pos rfl)
 have fd := ixL_find (fun n : Nd => decide (n.nm = nm)) h 0
 cases e : ixL (fun n : Nd => decide (n.nm = nm)) h 0 with
 | none =>
  have ec : callOk h nm ks.length = false := by
   rw [e] at fd
   unfold callOk
   rw [← fd]
  rw [ec] at k
  have ee : encO none = 18446744073709551615 := rfl
  simp -implicitDefEqProofs (disch := omega) only [go_sem, hb, hb2, c2, ee, lt_m1]
  exact k _ E2
 | some j =>
  obtain ⟨_, hj, _⟩ := ixL_lt e
  have ee : encO (some j) = j := rfl
  have hj : j < h.length := by omega
  obtain ⟨hj', rj⟩ := rdNs_at rl j hj
  obtain ⟨b, off, cap, ro, row, rfl, hbv, hbn, hlen, hrow⟩ := rv.at hj'
  obtain ⟨d, hd⟩ : ∃ d, d = h[j] := ⟨_, rfl⟩
  have okd := hok _ (List.getElem_mem hj)
  rw [← hd] at rj okd
  obtain ⟨x1, x2', x3, x4, ez, -, r1, r2, r3, qs, r4, r5⟩ := rj
  rw [ez] at hrow
  have hbz : η2.f b = _ := (E2.2 b hbn).trans hbv
  have g1 : row[off + j * 6 + 1]? = some x1 := take_at (i := 1) hrow (by decide) (Nat.le_of_ble_eq_true rfl)
  have g2 : row[off + j * 6 + 2]? = some x2' := take_at (i := 2) hrow (by decide) (Nat.le_of_ble_eq_true rfl)
  have gy : ∀ i y, row[i]? = some y → row.getD i und = y := fun i y e => by rw [List.getD_eq_getElem?_getD, e]; rfl
  have l1 := fun η' e w => row_len (η' := η') r1 (n := d.ins.length) (by rw [List.length_map]) (by have := okd.2.1.1; omega) e w
  have l2 := fun η' e w => row_len (η' := η') r2 (n := d.outs.length) (by rw [List.length_map]) (by have := okd.2.2.1.1; omega) e w
  have l3 := fun η' e w => row_len (η' := η') ry hll (by omega) e w
  have o1 := okd.2.1.1
  have o2 := okd.2.2.1.1
  have ll := (rdNs_len rl).1
  have ec : callOk h nm ks.length = decide (d.outs.length = 1 ∧ d.ins.length = ks.length) := by
   rw [e] at fd
   have fd : h[j - 0]? = h.find? (fun n : Nd => decide (n.nm = nm)) := fd
   unfold callOk
   rw [← fd, Nat.sub_zero, List.getElem?_eq_getElem hj, hd]
  rw [ec] at k
  by_cases q1 : d.outs.length = 1
  ·by_cases q2 : d.ins.length = ks.length
   ·rw [decide_eq_true ⟨q1, q2⟩] at k
    simp -implicitDefEqProofs (disch := omega) only [go_sem, hb, hb2, c2, ee, hbz, g1, g2, gy _ _ g1, gy _ _ g2, l1, l2, l3, q1, q2]
    exact k _ E2
   ·rw [decide_eq_false (fun g => q2 g.2)] at k
    simp -implicitDefEqProofs (disch := omega) only [go_sem, hb, hb2, c2, ee, hbz, g1, g2, gy _ _ g1, gy _ _ g2, l1, l2, l3, q1]
    exact k _ E2
  ·rw [decide_eq_false (fun g => q1 g.1)] at k
   simp -implicitDefEqProofs (disch := omega) only [go_sem, hb, hb2, c2, ee, hbz, g1, g2, gy _ _ g1, gy _ _ g2, l1, l2, l3]
   exact k _ E2
end Go.Proofs.Ytpjmiopplfmcfaa
namespace Go.Plain
open Go.Eng
set_option autoImplicit false
mutual
theorem exprC_le {h : List Nd} {P : S → Bool} : ∀ {e : Tr} {a : Nat}, okE e → exprC h P e = some a → a ≤ 16384
 | .mk op nm n b ks, a, ok, e => by
  unfold okE at ok
  unfold exprC at e
  split at e
  ·exact exprCs_le ok.2.2 e
  ·cases e; exact ok.1
theorem exprCs_le {h : List Nd} {P : S → Bool} : ∀ {ks : List Tr} {a : Nat}, okEs ks → exprCs h P ks = some a → a ≤ 16384
 | [], a, _, e => by unfold exprCs at e; cases e
 | k :: ks, a, ok, e => by
  unfold okEs at ok
  unfold exprCs at e
  cases g : exprC h P k with
  | some x => rw [g] at e; cases e; exact exprC_le ok.1 g
  | none => rw [g] at e; exact exprCs_le ok.2 e
end
theorem exprCs_drop {h : List Nd} {P : S → Bool} {ks : List Tr} {i : Nat} (hi : i < ks.length) : exprCs h P (ks.drop i) = match exprC h P ks[i] with | some a => some a | none => exprCs h P (ks.drop (i + 1)) := by
 rw [List.drop_eq_getElem_cons hi]
 conv => lhs; unfold exprCs
 cases exprC h P ks[i] <;> rfl
theorem MapAt_ext {η η' : HN} {b : Nat} {M : Nat × Nat → Option AV} (h : MapAt η b M) (hb : b < η.nx) (x : ExtB η.nx η η') : MapAt η' b M := h.eq (x.2 b hb)
def setM (P : S → Bool) : Nat × Nat → Option AV := fun s => if P s then some (.bool true) else none
theorem setM_look {η : HN} {b : Nat} {P : S → Bool} (h : MapAt η b (setM P)) (s : S) : lkD (some qStr) (some (.bool false)) (.map b) (.str s.1 s.2) false η = .ok (.bool (P s)) η := by
 rw [h.look s]
 unfold setM
 cases P s <;> rfl
end Go.Plain
namespace Go.Proofs.Ytpjmiopplfmcfaa
open Go.Eng Go.Plain
set_option autoImplicit false
set_option maxRecDepth 100000
variable {nat : ∀ [Deep], Nats}
set_option maxHeartbeats 8000000 in
theorem exprC_then (U : Usual nat) {cb mb : Nat} {v : AV} {h : List Nd} {zn : List AV} {P : S → Bool} : ∀ (e : Tr), okE e → ∀ (η : HN) (z : List AV) (Q : AV → HN → Prop), ChkAt η cb v h zn (.map mb) → mb < η.nx → MapAt η mb (setM P) → rdE tt η e z →
  (∀ η', ExtB η.nx η η' → Q (.int .i64 (encO (exprC h P e))) η') → ∃ v' η', CallN Try.prog nat 129 [.ptr cb 0, .agg z] η v' η' ∧ Q v' η' := by
 refine Tr.ind fun op nm n a ks ih => ?_
 intro ok η z Q C hmb M r k
 have ok' := ok
 unfold okE at ok
 obtain ⟨ha, hkl, hks⟩ := ok
 have hks := (okEs_iff _).1 hks
 have r0 := r
 unfold rdE at r
 obtain ⟨y, rfl, -, ls, ry, rks⟩ := r
 have hll := (rdEs_len rks).1
 obtain ⟨s, y1, y2, y3, y4, an, ez, hb⟩ := C.hb
 have hcn := C.hn
 refine call_of (PT := pl129) Try.func129 rfl (U 129 (by decide)) ok129 rfl ?_
 have E : ExtB η.nx η (η.new (.live false [.str op.1 op.2, .str nm.1 nm.2, .int .i64 n, .int .i64 a, y])) := extN (.refl _ _)
 have c0 : (η.new (.live false [.str op.1 op.2, .str nm.1 nm.2, .int .i64 n, .int .i64 a, y])).f η.nx = .live false [.str op.1 op.2, .str nm.1 nm.2, .int .i64 n, .int .i64 a, y] := if_pos rfl
 have lk := setM_look (MapAt_ext M hmb E) nm
 have hb0 := (E.2 _ hcn).trans hb
 have e1 : strEq op.1 op.2 3 7496054 = decide (op = sVar) := strEq_S op sVar
 have e2 : strEq op.1 op.2 4 1852139639 = decide (op = sWhen) := strEq_S op sWhen
 have e3 : strEq op.1 op.2 5 435527247213 = decide (op = sMerge) := strEq_S op sMerge
 have e4 : strEq op.1 op.2 4 1819042147 = decide (op = sCall) := strEq_S op sCall
 obtain ⟨K, hK⟩ : ∃ K : FN → HN → Prop, ∀ φ ζ, K φ ζ ↔ φ 0 = .ptr cb 0 ∧ φ 3 = .ptr η.nx 0 ∧ φ 5 = .bool (exprOk h P op nm ks.length) ∧ ExtB η.nx η ζ ∧ η.nx < ζ.nx ∧ ζ.f η.nx = .live false [.str op.1 op.2, .str nm.1 nm.2, .int .i64 n, .int .i64 a, y] := ⟨_, fun _ _ => Iff.rfl⟩
 refine wp_cut (M := K) 3 _ _ _ ?_ ?_
 rotate_left
 ·have n0 : η.nx < (η.new (.live false [.str op.1 op.2, .str nm.1 nm.2, .int .i64 n, .int .i64 a, y])).nx := Nat.lt_succ_self _
  have C0 := C.ext E
  have R0 : rdE tt (η.new (.live false [.str op.1 op.2, .str nm.1 nm.2, .int .i64 n, .int .i64 a, y])) (.mk op nm n a ks) [.str op.1 op.2, .str nm.1 nm.2, .int .i64 n, .int .i64 a, y] := rdE_keep (keep_b E) E.1 (fun _ h => h) _ _ r0
  simp -implicitDefEqProofs (disch := omega) only [go_sem, sV]
  generalize η.new (.live false [.str op.1 op.2, .str nm.1 nm.2, .int .i64 n, .int .i64 a, y]) = η0 at *
  have named : op = sVar ∨ op = sWhen ∨ op = sMerge → exprOk h P op nm ks.length = P nm := fun g => if_pos g
  by_cases q1 : op = sVar
  ·rw [named (.inl q1)] at hK
   rw [decide_eq_true q1] at e1
   simp -implicitDefEqProofs (disch := omega) only [go_sem, e1, hb0, c0, lk]
   exact (hK _ _).2 ⟨rfl, rfl, rfl, E, n0, c0⟩
  rw [decide_eq_false q1] at e1
  by_cases q2 : op = sWhen
  ·rw [named (.inr (.inl q2))] at hK
   rw [decide_eq_true q2] at e2
   simp -implicitDefEqProofs (disch := omega) only [go_sem, e1, e2, hb0, c0, lk]
   exact (hK _ _).2 ⟨rfl, rfl, rfl, E, n0, c0⟩
  rw [decide_eq_false q2] at e2
  by_cases q3 : op = sMerge
  ·rw [named (.inr (.inr q3))] at hK
   rw [decide_eq_true q3] at e3
   simp -implicitDefEqProofs (disch := omega) only [go_sem, e1, e2, e3, hb0, c0, lk]
   exact (hK _ _).2 ⟨rfl, rfl, rfl, E, n0, c0⟩
  rw [decide_eq_false q3] at e3
  have other : exprOk h P op nm ks.length = if op = sCall then callOk h nm ks.length else true := if_neg (by rintro (g | g | g) <;> contradiction)
  by_cases q4 : op = sCall
  ·rw [if_pos q4] at other
   rw [other] at hK
   rw [decide_eq_true q4] at e4
   simp -implicitDefEqProofs (disch := omega) only [go_sem, e1, e2, e3, e4, hb0, c0]
   refine thenN_call (call_then U C0 R0 hkl fun η3 x3 => ?_)
   simp -implicitDefEqProofs (disch := omega) only [go_sem]
   exact (hK _ _).2 ⟨rfl, rfl, rfl, extT E x3, Nat.lt_of_lt_of_le n0 x3.1, (x3.2 _ n0).trans c0⟩
  ·rw [if_neg q4] at other
   rw [other] at hK
   rw [decide_eq_false q4] at e4
   simp -implicitDefEqProofs (disch := omega) only [go_sem, e1, e2, e3, e4, hb0, c0]
   exact (hK _ _).2 ⟨rfl, rfl, rfl, E, n0, c0⟩
 ·intro φ ζ hk
  obtain ⟨p0, p3, p5, Ex, nx, cx⟩ := (hK _ _).1 hk
  clear hk hK lk hb0 c0 E e1 e2 e3 e4
  have eE : exprC h P (.mk op nm n a ks) = if exprOk h P op nm ks.length then exprCs h P ks else some a := by
   conv => lhs; unfold exprC
  rw [eE] at k
  have l3 := fun η' e w => row_len (η' := η') ry hll (by omega) e w
  simp -implicitDefEqProofs (disch := omega) only [tailC_s, tailC_z]
  cases ee : exprOk h P op nm ks.length with
  | false =>
   rw [ee] at p5 k
   simp -implicitDefEqProofs (disch := omega) only [go_sem, p0, p3, p5, cx, Bool.not_false]
   exact k _ Ex
  | true =>
   rw [ee, if_pos rfl] at k
   rw [ee] at p5
   simp -implicitDefEqProofs (disch := omega) only [go_sem, p0, p3, p5, cx, Bool.not_true, l3]
   obtain ⟨I, hI⟩ : ∃ I : Nat → FN → HN → Prop, ∀ m φ ζ', I m φ ζ' ↔ ∃ i, m = ks.length - i ∧ i ≤ ks.length ∧ (φ 0 = .ptr cb 0 ∧ φ 32 = y ∧ φ 33 = .int .i64 ks.length ∧ φ 34 = .int .i64 i) ∧ exprCs h P (ks.drop i) = exprCs h P ks ∧ ExtB η.nx η ζ' := ⟨_, fun _ _ _ => Iff.rfl⟩
   refine wpN_loop I ks.length ((hI _ _ _).2 ⟨0, rfl, Nat.zero_le _, ⟨by exact p0, rfl, rfl, rfl⟩, rfl, Ex⟩) ?_
   clear p0 p3 p5 cx nx Ex
   intro m φ ζ hi
   obtain ⟨i, hm, hi, ⟨p0, p32, p33, p34⟩, ex, Ex⟩ := (hI _ _ _).1 hi
   by_cases hlt : i < ks.length
   ·obtain ⟨hi', ri⟩ := rdEs_at rks i hlt
    obtain ⟨b, off, cap, ro, row, rfl, hbv, hbn, hlen, hrow⟩ := ry.at hi'
    have hbz : ζ.f b = _ := (Ex.2 b hbn).trans hbv
    have r5 := rdE_len ri
    obtain ⟨f1, f2, f3, f4, f5, ef⟩ := rdE_cells ri
    rw [ef] at hrow ri
    simp -implicitDefEqProofs (disch := omega) only [go_sem, p0, p32, p33, p34, hbz, hrow, repL_s, repL_z, setsL_c]
    have En := extN (y := .live false [.str f1.1 f1.2, .str f2.1 f2.2, .int .i64 f3, .int .i64 f4, f5]) Ex
    have okk := hks _ (List.getElem_mem hlt)
    refine thenN_call (ih _ (List.getElem_mem hlt) okk _ _ _ (C.ext En) (Nat.lt_of_lt_of_le hmb En.1) (MapAt_ext M hmb En) (rdE_keep (keep_b En) En.1 (fun _ h => h) _ _ ri) fun η3 x3 => ?_)
    rw [exprCs_drop hlt] at ex
    cases ek : exprC h P ks[i] with
    | some w =>
     have hw := exprC_le okk ek
     rw [ek] at ex
     rw [← ex] at k
     have ew : encO (some w) = w := rfl
     simp -implicitDefEqProofs (disch := omega) only [go_sem, p0, p32, p33, p34, ew]
     exact k _ (extT En x3)
    | none =>
     rw [ek] at ex
     have ew : encO none = 18446744073709551615 := rfl
     simp -implicitDefEqProofs (disch := omega) only [go_sem, p0, p32, p33, p34, ew]
     exact ⟨ks.length - (i + 1), by omega, (hI _ _ _).2 ⟨i + 1, rfl, hlt, ⟨by exact p0, by exact p32, by exact p33, rfl⟩, ex, extT En x3⟩⟩
   ·obtain rfl : i = ks.length := by omega
    rw [List.drop_length] at ex
    have : exprCs h P [] = none := by unfold exprCs; rfl
    rw [← ex, this] at k
    simp -implicitDefEqProofs (disch := omega) only [go_sem, p0, p32, p33, p34]
    exact k _ Ex
end Go.Proofs.Ytpjmiopplfmcfaa
namespace Go.Proofs.Ytpjmiopplfmcfaa
open Go.Eng Go.Plain
set_option autoImplicit false
set_option maxRecDepth 100000
variable {nat : ∀ [Deep], Nats}
theorem setM_upd {P : S → Bool} (s : S) : (fun t => if t = s then some (AV.bool true) else setM P t) = setM (fun t => decide (t = s) || P t) := by
 funext t
 unfold setM
 by_cases h : t = s
 ·rw [if_pos h]
  show _ = if (decide (t = s) || P t) = true then _ else _
  rw [decide_eq_true h]; rfl
 ·rw [if_neg h]
  show _ = if (decide (t = s) || P t) = true then _ else _
  rw [decide_eq_false h]; rfl
theorem setM_put {η : HN} {b : Nat} {P : S → Bool} (h : MapAt η b (setM P)) (s : S) : ∃ es, muD (some qStr) b (.str s.1 s.2) (.bool true) η = .ok und (η.put b (.mp es)) ∧ MapAt (η.put b (.mp es)) b (setM fun t => decide (t = s) || P t) := by
 obtain ⟨es, h1, h2⟩ := h.upd s (.bool true)
 rw [setM_upd] at h2
 exact ⟨es, h1, h2⟩
theorem setM_new {η : HN} : MapAt (η.new (.mp [])) η.nx (setM fun _ => false) := MapAt.new
theorem dupL_drop {l : List Vr} {P : S → Bool} {i : Nat} (h : i < l.length) : dupL (l.drop i) P = if P l[i].nm then (some l[i].a, P) else dupL (l.drop (i + 1)) fun s => decide (s = l[i].nm) || P s := by
 rw [List.drop_eq_getElem_cons h]; rfl
theorem locL_drop {l : List Vr} {P : S → Bool} {i : Nat} (h : i < l.length) : locL (l.drop i) P = if P l[i].nm then (some l[i].a, P) else if l[i].on ≠ (0, 0) ∧ P l[i].on = false then (some l[i].a, P) else locL (l.drop (i + 1)) fun s => decide (s = l[i].nm) || P s := by
 rw [List.drop_eq_getElem_cons h]; rfl
structure Trees (η0 : HN) (v : AV) (h : List Nd) (n : Nd) (z : List AV) : Prop where
 hv : ∃ ls, RdR 6 η0 v ls ∧ rdNs tt η0 h ls
 hz : rdN tt η0 n z
 hl : h.length ≤ 64 ∧ ∀ d ∈ h, okN d
 ok : okN n
theorem Trees.chk {η0 η : HN} {v m : AV} {h : List Nd} {n : Nd} {z : List AV} {cb : Nat} (T : Trees η0 v h n z) (x : ExtB η0.nx η0 η) (hb : η.f cb = .live false (v :: (z ++ [m]))) (hn : cb < η.nx) : ChkAt η cb v h z m := by
 obtain ⟨ls, h1, h2⟩ := T.hv
 obtain ⟨y1, y2, y3, y4, rfl, _⟩ := T.hz
 exact ⟨⟨n.nm, y1, y2, y3, y4, n.a, rfl, hb⟩, hn, ⟨ls, h1.ext (base := 0) x, rdNs_keep (keep_b x) x.1 (fun _ h => h) h2⟩, T.hl⟩
set_option maxHeartbeats 8000000 in
theorem decls_then (U : Usual nat) {η0 η : HN} {v m0 : AV} {h : List Nd} {n : Nd} {z : List AV} {cb : Nat} (T : Trees η0 v h n z) (x : ExtB η0.nx η0 η) (hb : η.f cb = .live false (v :: (z ++ [m0]))) (hc : η0.nx ≤ cb) (hn : cb < η.nx) {Q : AV → HN → Prop}
  (k : ∀ η' mb, η'.f cb = .live false (v :: (z ++ [.map mb])) → η.nx ≤ mb → mb < η'.nx → MapAt η' mb (setM (declC n).2) → η.nx ≤ η'.nx → (∀ b, b < η.nx → b ≠ cb → η'.f b = η.f b) → Q (.int .i64 (encO (declC n).1)) η') :
  ∃ v' η', CallN Try.prog nat 105 [.ptr cb 0] η v' η' ∧ Q v' η' := by
 obtain ⟨y1, y2, y3, y4, rfl, -, r1, r2, r3, qs, r4, r5⟩ := T.hz
 obtain ⟨ok0, ok1, ok2, ok3, ok4, ok5⟩ := T.ok
 have hb' : η.f cb = .live false [v, .str n.nm.1 n.nm.2, y1, y2, y3, y4, .int .i64 n.a, m0] := hb
 have k' : ∀ η' mb, η'.f cb = .live false [v, .str n.nm.1 n.nm.2, y1, y2, y3, y4, .int .i64 n.a, .map mb] → η.nx ≤ mb → mb < η'.nx → MapAt η' mb (setM (declC n).2) → η.nx ≤ η'.nx → (∀ b, b < η.nx → b ≠ cb → η'.f b = η.f b) → Q (.int .i64 (encO (declC n).1)) η' := k
 clear k hb
 refine call_of (PT := pl105) Try.func105 rfl (U 105 (by decide)) ok105 rfl ?_
 obtain ⟨ζ1, e1, b1, M1, n1, kk1⟩ : ∃ ζ1, ζ1 = (η.new (.mp [])).put cb (.live false [v, .str n.nm.1 n.nm.2, y1, y2, y3, y4, .int .i64 n.a, .map η.nx]) ∧ ζ1.f cb = .live false [v, .str n.nm.1 n.nm.2, y1, y2, y3, y4, .int .i64 n.a, .map η.nx] ∧ MapAt ζ1 η.nx (setM fun _ => false) ∧ ζ1.nx = η.nx + 1 ∧ (∀ b, b < η.nx → b ≠ cb → ζ1.f b = η.f b) :=
  ⟨_, rfl, if_pos rfl, setM_new.eq (if_neg (by omega)), rfl, fun b h1 h2 => (if_neg h2).trans (if_neg (by omega))⟩
 have q1 := r1.cells
 have q2 := r2.cells
 simp -implicitDefEqProofs (disch := omega) only [go_sem, hb', q1, q2, repL_s, repL_z, setsL_c]
 rw [← e1]
 have kH : ∀ c, c ≠ η.nx + 11 → (((ζ1.at_ (η.nx + 1 + 10)).new (.live false [y1, y2])).at_ (η.nx + 1 + 14)).f c = ζ1.f c := fun c hc => if_neg hc
 have EH : ExtB η0.nx η0 (((ζ1.at_ (η.nx + 1 + 10)).new (.live false [y1, y2])).at_ (η.nx + 1 + 14)) := ⟨by show η0.nx ≤ η.nx + 1 + 14; omega, fun c hc' => (kH c (by omega)).trans ((kk1 c (by omega) (by omega)).trans (x.2 c hc'))⟩
 have sz : sumL [n.ins, n.outs] ≤ 4294967296 := by
  have h1 := ok1.1
  have h2 := ok2.1
  unfold sumL
  simp only [List.flatten_cons, List.flatten_nil, List.length_append, List.length_nil]
  omega
 refine dE_call (concat_then U (b := η.nx + 1 + 10) (ys := [y1, y2]) (ll := [n.ins, n.outs]) ⟨r1.ext (base := 0) EH, r2.ext (base := 0) EH, trivial⟩ (if_pos rfl) (by show η.nx + 1 + 10 < η.nx + 1 + 14; omega) sz (Nat.le_of_ble_eq_true rfl) fun xw ζ2 rw2 E2 => ?_)
 have n2 : η.nx + 1 + 14 ≤ ζ2.nx := E2.1
 have k2 : ∀ c, c < η.nx + 11 → ζ2.f c = ζ1.f c := fun c hc => (E2.2 c (by show c < η.nx + 1 + 14; omega)).trans (kH c (by omega))
 have b2 : ζ2.f cb = _ := (k2 _ (by omega)).trans b1
 have M2 : MapAt ζ2 η.nx (setM fun _ => false) := M1.eq (k2 _ (by omega))
 have ef : [n.ins, n.outs].flatten = n.ins ++ n.outs := by simp
 rw [ef] at rw2
 have hW : (n.ins ++ n.outs).length ≤ 4294967296 := by rw [List.length_append]; have := ok1.1; have := ok2.1; omega
 have okW : ∀ v ∈ n.ins ++ n.outs, okV v := fun v hv => (List.mem_append.1 hv).elim (ok1.2 v) (ok2.2 v)
 have ec : declC n = match dupL (n.ins ++ n.outs) (fun _ => false) with | (some a, P) => (some a, P) | (none, P) => locL n.locs P := rfl
 generalize hWW : n.ins ++ n.outs = W at *
 have lW := fun η' e w => row_len (η' := η') rw2 (n := W.length) (by rw [List.length_map]) (by omega) e w
 simp -implicitDefEqProofs (disch := omega) only [go_sem, lW]
 have K2 : ∀ c, c < η.nx → c ≠ cb → ζ2.f c = η.f c := fun c h1 h2 => (k2 c (by omega)).trans (kk1 c h1 h2)
 clear E2 EH kH sz M1 b1 kk1 e1
 obtain ⟨I, hI⟩ : ∃ I : Nat → FN → HN → Prop, ∀ m φ ζ, I m φ ζ ↔ ∃ i P, m = W.length - i ∧ i ≤ W.length ∧ (φ 0 = .ptr cb 0 ∧ φ 22 = xw ∧ φ 23 = .int .i64 W.length ∧ φ 24 = .int .i64 i) ∧ MapAt ζ η.nx (setM P) ∧ (∀ b, b < ζ2.nx → b ≠ η.nx → ζ.f b = ζ2.f b) ∧ ζ2.nx ≤ ζ.nx ∧ dupL (W.drop i) P = dupL W (fun _ => false) := ⟨_, fun _ _ _ => Iff.rfl⟩
 refine wpN_loop I W.length ((hI _ _ _).2 ⟨0, fun _ => false, rfl, Nat.zero_le _, ⟨rfl, rfl, rfl, rfl⟩, M2, fun _ _ _ => rfl, Nat.le_refl _, rfl⟩) ?_
 intro m φ ζ hi
 obtain ⟨i, P, hm, hi, ⟨p0, p22, p23, p24⟩, Mz, kz, nz, ed⟩ := (hI _ _ _).1 hi
 have bz : ζ.f cb = _ := (kz _ (by omega) (by omega)).trans b2
 by_cases hlt : i < W.length
 ·obtain ⟨b, off, cap, ro, row, rfl, hbv, hbn, hlen, hrow⟩ := vr_at rw2 hlt
  have bnm : b ≠ η.nx := fun e => by
   obtain ⟨es, he, _⟩ := M2
   rw [e, he] at hbv; cases hbv
  have hbz : ζ.f b = _ := (kz _ hbn bnm).trans hbv
  have okw := okW _ (List.getElem_mem hlt)
  rw [dupL_drop hlt] at ed
  generalize W[i] = w at *
  have hwc : w.cells = [.str w.nm.1 w.nm.2, .int .i64 w.kd, .str w.on.1 w.on.2, .bool w.nt, .int .i64 w.a] := rfl
  rw [hwc] at hrow
  have ha := okw.1
  obtain ⟨ζ3, e3, c3, k3, n3⟩ : ∃ ζ3, ζ3 = ζ.new (.live false [.str w.nm.1 w.nm.2, .int .i64 w.kd, .str w.on.1 w.on.2, .bool w.nt, .int .i64 w.a]) ∧ ζ3.f ζ.nx = .live false [.str w.nm.1 w.nm.2, .int .i64 w.kd, .str w.on.1 w.on.2, .bool w.nt, .int .i64 w.a] ∧ (∀ b, b < ζ.nx → ζ3.f b = ζ.f b) ∧ ζ3.nx = ζ.nx + 1 := ⟨_, rfl, if_pos rfl, fun b hb => if_neg (by omega), rfl⟩
  have M3 := Mz.eq (k3 _ (by omega))
  have lk := setM_look M3 w.nm
  have bz3 : ζ3.f cb = _ := (k3 _ (by omega)).trans bz
  simp -implicitDefEqProofs (disch := omega) only [go_sem, p0, p22, p23, p24, hbz, hrow, bz, repL_s, repL_z, setsL_c]
  rw [← e3]
  cases eP : P w.nm with
  | true =>
   rw [eP, if_pos rfl] at ed
   rw [eP] at lk
   simp -implicitDefEqProofs (disch := omega) only [go_sem, p0, p22, p23, p24, bz, bz3, c3, lk]
   rw [← ed] at ec
   rw [ec] at k'
   exact k' ζ3 η.nx bz3 (Nat.le_refl _) (by omega) M3 (by omega) fun c h1 h2 => (k3 c (by omega)).trans ((kz c (by omega) (by omega)).trans (K2 c h1 h2))
  | false =>
   rw [eP, if_neg (by decide)] at ed
   rw [eP] at lk
   obtain ⟨es, eu, Mu⟩ := setM_put M3 w.nm
   simp -implicitDefEqProofs (disch := omega) only [go_sem, p0, p22, p23, p24, bz, bz3, c3, lk, eu]
   exact ⟨W.length - (i + 1), by omega, (hI _ _ _).2 ⟨i + 1, _, rfl, hlt, ⟨by exact p0, by exact p22, by exact p23, rfl⟩, Mu, fun c h1 h2 => (if_neg h2).trans ((k3 c (by omega)).trans (kz c h1 h2)), by show ζ2.nx ≤ ζ3.nx; omega, ed⟩⟩
 ·obtain rfl : i = W.length := by omega
  rw [List.drop_length] at ed
  have ed : (none, P) = dupL W (fun _ => false) := ed
  rw [← ed] at ec
  have ec : declC n = locL n.locs P := ec
  have l3 := fun η' e w => row_len (η' := η') r3 (n := n.locs.length) (by rw [List.length_map]) (by have := ok3.1; omega) e w
  simp -implicitDefEqProofs (disch := omega) only [go_sem, p0, p22, p23, p24, bz, l3]
  generalize n.locs = V at *
  have hV : V.length ≤ 1073741824 := ok3.1
  obtain ⟨J, hJ⟩ : ∃ J : Nat → FN → HN → Prop, ∀ m φ ζ, J m φ ζ ↔ ∃ i P', m = V.length - i ∧ i ≤ V.length ∧ (φ 0 = .ptr cb 0 ∧ φ 48 = y3 ∧ φ 49 = .int .i64 V.length ∧ φ 50 = .int .i64 i) ∧ MapAt ζ η.nx (setM P') ∧ (∀ b, b < ζ2.nx → b ≠ η.nx → ζ.f b = ζ2.f b) ∧ ζ2.nx ≤ ζ.nx ∧ locL (V.drop i) P' = locL V P := ⟨_, fun _ _ _ => Iff.rfl⟩
  refine wpN_loop J V.length ((hJ _ _ _).2 ⟨0, P, rfl, Nat.zero_le _, ⟨by exact p0, rfl, rfl, rfl⟩, Mz, kz, nz, rfl⟩) ?_
  clear bz kz nz Mz p0 p22 p23 p24
  intro m φ ζ hi
  obtain ⟨i, P', hm, hi, ⟨p0, p48, p49, p50⟩, Mz, kz, nz, el⟩ := (hJ _ _ _).1 hi
  have bz : ζ.f cb = _ := (kz _ (by omega) (by omega)).trans b2
  by_cases hlt : i < V.length
  ·obtain ⟨b, off, cap, ro, row, rfl, hbv, hbn, hlen, hrow⟩ := vr_at r3 hlt
   have hbz : ζ.f b = _ := ((kz _ (by omega) (by omega)).trans ((K2 b (by omega) (by omega)).trans (x.2 b hbn))).trans hbv
   have okw := ok3.2 _ (List.getElem_mem hlt)
   rw [locL_drop hlt] at el
   generalize V[i] = w at *
   have hwc : w.cells = [.str w.nm.1 w.nm.2, .int .i64 w.kd, .str w.on.1 w.on.2, .bool w.nt, .int .i64 w.a] := rfl
   rw [hwc] at hrow
   have ha := okw.1
   obtain ⟨ζ3, e3, c3, k3, n3⟩ : ∃ ζ3, ζ3 = ζ.new (.live false [.str w.nm.1 w.nm.2, .int .i64 w.kd, .str w.on.1 w.on.2, .bool w.nt, .int .i64 w.a]) ∧ ζ3.f ζ.nx = .live false [.str w.nm.1 w.nm.2, .int .i64 w.kd, .str w.on.1 w.on.2, .bool w.nt, .int .i64 w.a] ∧ (∀ b, b < ζ.nx → ζ3.f b = ζ.f b) ∧ ζ3.nx = ζ.nx + 1 := ⟨_, rfl, if_pos rfl, fun b hb => if_neg (by omega), rfl⟩
   have M3 := Mz.eq (k3 _ (by omega))
   have lk := setM_look M3 w.nm
   have lo := setM_look M3 w.on
   have eo : strEq w.on.1 w.on.2 0 0 = decide (w.on = (0, 0)) := strEq_S w.on (0, 0)
   have bz3 : ζ3.f cb = _ := (k3 _ (by omega)).trans bz
   have k3' : ∀ c, c < η.nx → c ≠ cb → ζ3.f c = η.f c := fun c h1 h2 => (k3 c (by omega)).trans ((kz c (by omega) (by omega)).trans (K2 c h1 h2))
   simp -implicitDefEqProofs (disch := omega) only [go_sem, p0, p48, p49, p50, hbz, hrow, bz, repL_s, repL_z, setsL_c]
   rw [← e3]
   have found : locL V P = (some w.a, P') → Q (.int .i64 w.a) ζ3 := fun e => by
    rw [e] at ec
    rw [ec] at k'
    exact k' ζ3 η.nx bz3 (Nat.le_refl _) (by omega) M3 (by omega) k3'
   cases eP : P' w.nm with
   | true =>
    rw [eP, if_pos rfl] at el
    rw [eP] at lk
    simp -implicitDefEqProofs (disch := omega) only [go_sem, p0, p48, p49, p50, bz, bz3, c3, lk]
    exact found el.symm
   | false =>
    rw [eP, if_neg (by decide)] at el
    rw [eP] at lk
    obtain ⟨es, eu, Mu⟩ := setM_put M3 w.nm
    have go : locL V P = locL (V.drop (i + 1)) (fun s => decide (s = w.nm) || P' s) → ∀ φ' : FN, φ' 0 = .ptr cb 0 → φ' 48 = .slice b off V.length cap → φ' 49 = .int .i64 V.length → φ' 50 = .int .i64 (i + 1) → ∃ m', m' < m ∧ J m' φ' (ζ3.put η.nx (.mp es)) := fun e φ' t0 t1 t2 t3 =>
     ⟨V.length - (i + 1), by omega, (hJ _ _ _).2 ⟨i + 1, _, rfl, hlt, ⟨t0, t1, t2, t3⟩, Mu, fun c h1 h2 => (if_neg h2).trans ((k3 c (by omega)).trans (kz c h1 h2)), by show ζ2.nx ≤ ζ3.nx; omega, e.symm⟩⟩
    by_cases on0 : w.on = (0, 0)
    ·rw [if_neg (fun g => g.1 on0)] at el
     rw [decide_eq_true on0] at eo
     simp -implicitDefEqProofs (disch := omega) only [go_sem, p0, p48, p49, p50, bz, bz3, c3, lk, lo, eo, eu, Bool.not_true]
     exact go el.symm _ (by exact p0) (by exact p48) (by exact p49) rfl
    ·rw [decide_eq_false on0] at eo
     cases eQ : P' w.on with
     | true =>
      rw [if_neg (fun g => by rw [eQ] at g; exact absurd g.2 (by decide))] at el
      rw [eQ] at lo
      simp -implicitDefEqProofs (disch := omega) only [go_sem, p0, p48, p49, p50, bz, bz3, c3, lk, lo, eo, eu, Bool.not_true, Bool.not_false]
      exact go el.symm _ (by exact p0) (by exact p48) (by exact p49) rfl
     | false =>
      rw [if_pos ⟨on0, eQ⟩] at el
      rw [eQ] at lo
      simp -implicitDefEqProofs (disch := omega) only [go_sem, p0, p48, p49, p50, bz, bz3, c3, lk, lo, eo, eu, Bool.not_true, Bool.not_false]
      exact found el.symm
  ·obtain rfl : i = V.length := by omega
   rw [List.drop_length] at el
   have el : (none, P') = locL V P := el
   rw [← el] at ec
   rw [ec] at k'
   simp -implicitDefEqProofs (disch := omega) only [go_sem, p0, p48, p49, p50]
   exact k' ζ η.nx bz (Nat.le_refl _) (by omega) Mz (by omega) fun c h1 h2 => (kz c (by omega) (by omega)).trans (K2 c h1 h2)
end Go.Proofs.Ytpjmiopplfmcfaa
namespace Go.Plain
open Go.Eng
set_option autoImplicit false
theorem eqsC_drop {h : List Nd} {P : S → Bool} {own : List Vr} {l : List Eqn} {i : Nat} {D : S → Bool} (hi : i < l.length) : eqsC h P own (l.drop i) D = if D l[i].nm then some l[i].a else if own.any (fun v => decide (v.nm = l[i].nm)) then
  (match exprC h P l[i].e with | some a => some a | none => eqsC h P own (l.drop (i + 1)) fun s => decide (s = l[i].nm) || D s) else some l[i].a := by
 rw [List.drop_eq_getElem_cons hi]; rfl
theorem lackL_drop {D : S → Bool} {l : List Vr} {i : Nat} (hi : i < l.length) : lackL D (l.drop i) = if D l[i].nm then lackL D (l.drop (i + 1)) else some l[i].a := by
 rw [List.drop_eq_getElem_cons hi]; rfl
end Go.Plain
namespace Go.Proofs.Ytpjmiopplfmcfaa
open Go.Eng Go.Plain
set_option autoImplicit false
set_option maxRecDepth 100000
variable {nat : ∀ [Deep], Nats}
theorem contains_then (U : Usual nat) {l : List Vr} {η : HN} {v : AV} (hn : l.length ≤ 4294967296) (rv : RdR 5 η v (l.map Vr.cells)) {p : Vr → Bool} {f : FuncId} {caps : List AV}
  (hc : TellsN nat η l (l.map Vr.cells) p f caps) {Q : AV → HN → Prop} (k : ∀ η', ExtB η.nx η η' → Q (.bool (l.any p)) η') : ∃ v' η', CallN Try.prog nat 127 [v, .func f [] caps] η v' η' ∧ Q v' η' := by
 refine call_of (PT := pl127) Try.func127 rfl (U 127 (by decide)) ok127 rfl ?_
 simp -implicitDefEqProofs (disch := omega) only [go_sem]
 refine thenN_call (ixVar_spec U (by rw [List.length_map]) hn rv hc fun η2 x2 => ?_)
 have ea := ixL_any p l 0
 cases e : ixL p l 0 with
 | none =>
  rw [e] at ea
  have ea : false = l.any p := ea
  rw [← ea] at k
  have ee : encO none = 18446744073709551615 := rfl
  simp -implicitDefEqProofs (disch := omega) only [go_sem, ee, lt_m1]
  exact k _ x2
 | some j =>
  rw [e] at ea
  have ea : true = l.any p := ea
  rw [← ea] at k
  obtain ⟨_, hj, _⟩ := ixL_lt e
  have ee : encO (some j) = j := rfl
  simp -implicitDefEqProofs (disch := omega) only [go_sem, ee]
  exact k _ x2
set_option maxHeartbeats 8000000 in
theorem eqs_then (U : Usual nat) {η0 η : HN} {v : AV} {h : List Nd} {n : Nd} {z : List AV} {cb mb : Nat} {P : S → Bool} (T : Trees η0 v h n z) (x : ExtB η0.nx η0 η) (hb : η.f cb = .live false (v :: (z ++ [.map mb]))) (hn : cb < η.nx) (hm : mb < η.nx) (M : MapAt η mb (setM P)) {Q : AV → HN → Prop}
  (k : ∀ η', ExtB η.nx η η' → Q (.int .i64 (encO (eqsC h P (ownOf n) n.eqs fun _ => false))) η') : ∃ v' η', CallN Try.prog nat 106 [.ptr cb 0] η v' η' ∧ Q v' η' := by
 have chk : ∀ ζ, ExtB η.nx η ζ → ChkAt ζ cb v h z (.map mb) := fun ζ e => T.chk (x.trans (e.mono x.1)) ((e.2 cb hn).trans hb) (Nat.lt_of_lt_of_le hn e.1)
 have chm : ∀ ζ, ExtB η.nx η ζ → MapAt ζ mb (setM P) := fun ζ e => MapAt_ext M hm e
 obtain ⟨y1, y2, y3, y4, rfl, -, r1, r2, r3, qs, r4, r5⟩ := T.hz
 obtain ⟨ok0, ok1, ok2, ok3, ok4, ok5⟩ := T.ok
 have hb' : η.f cb = .live false [v, .str n.nm.1 n.nm.2, y1, y2, y3, y4, .int .i64 n.a, .map mb] := hb
 refine call_of (PT := pl106) Try.func106 rfl (U 106 (by decide)) ok106 rfl ?_
 have q2 := r2.cells
 have q3 := r3.cells
 simp -implicitDefEqProofs (disch := omega) only [go_sem, hb', q2, q3, repL_s, repL_z, setsL_c]
 have kH : ∀ c, c ≠ η.nx + 10 → (((η.at_ (η.nx + 10)).new (.live false [y2, y3])).at_ (η.nx + 13)).f c = η.f c := fun c hc => if_neg hc
 have EH : ExtB η.nx η (((η.at_ (η.nx + 10)).new (.live false [y2, y3])).at_ (η.nx + 13)) := ⟨by show η.nx ≤ η.nx + 13; omega, fun c hc' => kH c (by omega)⟩
 have sz : sumL [n.outs, n.locs] ≤ 4294967296 := by
  have h1 := ok2.1
  have h2 := ok3.1
  unfold sumL
  simp only [List.flatten_cons, List.flatten_nil, List.length_append, List.length_nil]
  omega
 refine dE_call (concat_then U (b := η.nx + 10) (ys := [y2, y3]) (ll := [n.outs, n.locs]) ⟨r2.ext (base := 0) (x.trans (EH.mono x.1)), r3.ext (base := 0) (x.trans (EH.mono x.1)), trivial⟩ (if_pos rfl) (by show η.nx + 10 < η.nx + 13; omega) sz (Nat.le_of_ble_eq_true rfl) fun xw ζ2 rw2 E2 => ?_)
 have X2 := extT EH E2
 have ef : [n.outs, n.locs].flatten = ownOf n := by simp [ownOf]
 rw [ef] at rw2
 have hW : (ownOf n).length ≤ 4294967296 := by unfold ownOf; rw [List.length_append]; have := ok2.1; have := ok3.1; omega
 have okW : ∀ v ∈ ownOf n, okV v := fun v hv => (List.mem_append.1 hv).elim (ok2.2 v) (ok3.2 v)
 generalize ownOf n = W at *
 have lW := fun η' e w => row_len (η' := η') rw2 (n := W.length) (by rw [List.length_map]) (by omega) e w
 have lq := (rdQs_len r5).1
 have l4 := fun η' e w => row_len (η' := η') r4 lq (by omega) e w
 have b2 : ζ2.f cb = _ := (X2.2 _ hn).trans hb'
 have nX := X2.1
 simp -implicitDefEqProofs (disch := omega) only [go_sem, b2, lW, l4]
 generalize hEQ : n.eqs = EQS at *
 obtain ⟨I, hI⟩ : ∃ I : Nat → FN → HN → Prop, ∀ m φ ζ, I m φ ζ ↔ ∃ i D, m = EQS.length - i ∧ i ≤ EQS.length ∧ (φ 0 = .ptr cb 0 ∧ φ 3 = xw ∧ φ 4 = .map ζ2.nx ∧ φ 27 = y4 ∧ φ 28 = .int .i64 EQS.length ∧ φ 29 = .int .i64 i) ∧ MapAt ζ ζ2.nx (setM D) ∧ (∀ b, b < ζ2.nx → ζ.f b = ζ2.f b) ∧ ζ2.nx < ζ.nx ∧
   eqsC h P W (EQS.drop i) D = eqsC h P W EQS (fun _ => false) := ⟨_, fun _ _ _ => Iff.rfl⟩
 refine wpN_loop I EQS.length ((hI _ _ _).2 ⟨0, fun _ => false, rfl, Nat.zero_le _, ⟨rfl, rfl, rfl, rfl, rfl, rfl⟩, setM_new, fun b hb => if_neg (by omega), Nat.lt_succ_self _, rfl⟩) ?_
 intro m φ ζ hi
 obtain ⟨i, D, hm', hi, ⟨p0, p3, p4, p27, p28, p29⟩, Mz, kz, nz, ed⟩ := (hI _ _ _).1 hi
 have EZ : ExtB η.nx η ζ := ⟨by omega, fun c hc => (kz c (by omega)).trans (X2.2 c hc)⟩
 by_cases hlt : i < EQS.length
 ·obtain ⟨hi', ri⟩ := rdQs_at r5 i hlt
  obtain ⟨b, off, cap, ro, row, rfl, hbv, hbn, hlen, hrow⟩ := r4.at hi'
  have hbz : ζ.f b = _ := ((EZ.2 _ (Nat.lt_of_lt_of_le hbn x.1)).trans (x.2 b hbn)).trans hbv
  have okq := ok5 _ (List.getElem_mem hlt)
  rw [eqsC_drop hlt] at ed
  generalize EQS[i] = q at *
  obtain ⟨ze, eze, re⟩ := ri
  obtain ⟨f1, f2, f3, f4, f5, rfl⟩ := rdE_cells re
  rw [eze] at hrow
  have hrow : (row.drop (off + i * 7)).take 7 = [.str q.nm.1 q.nm.2, .str f1.1 f1.2, .str f2.1 f2.2, .int .i64 f3, .int .i64 f4, f5, .int .i64 q.a] := hrow
  have ha := okq.1
  obtain ⟨ζ3, e3, c3, k3, n3⟩ : ∃ ζ3, ζ3 = ζ.new (.live false [.str q.nm.1 q.nm.2, .str f1.1 f1.2, .str f2.1 f2.2, .int .i64 f3, .int .i64 f4, f5, .int .i64 q.a]) ∧ ζ3.f ζ.nx = (.live false [.str q.nm.1 q.nm.2, .str f1.1 f1.2, .str f2.1 f2.2, .int .i64 f3, .int .i64 f4, f5, .int .i64 q.a]) ∧ (∀ b, b < ζ.nx → ζ3.f b = ζ.f b) ∧ ζ3.nx = ζ.nx + 1 := ⟨_, rfl, if_pos rfl, fun b hb => if_neg (by omega), rfl⟩
  have M3 := Mz.eq (k3 _ nz)
  have E3 : ExtB η.nx η ζ3 := ⟨by omega, fun c hc => (k3 c (by omega)).trans (EZ.2 c hc)⟩
  have lk := setM_look M3 q.nm
  simp -implicitDefEqProofs (disch := omega) only [go_sem, p0, p3, p4, p27, p28, p29, hbz, hrow, repL_s, repL_z, setsL_c]
  rw [← e3]
  cases eD : D q.nm with
  | true =>
   rw [eD, if_pos rfl] at ed
   rw [eD] at lk
   rw [← ed] at k
   simp -implicitDefEqProofs (disch := omega) only [go_sem, p0, p3, p4, p27, p28, p29, c3, lk]
   exact k _ E3
  | false =>
   rw [eD, if_neg (by decide)] at ed
   rw [eD] at lk
   simp -implicitDefEqProofs (disch := omega) only [go_sem, p0, p3, p4, p27, p28, p29, c3, lk]
   refine thenN_call (contains_then U (l := W) (p := fun v => decide (v.nm = q.nm)) hW (rw2.ext (base := 0) ⟨by omega, fun c hc => (k3 c (by omega)).trans (kz c hc)⟩) ?_ fun ζ4 x4 => ?_)
   ·intro ζ' Ez j h1 h2 Q' k'
    rw [List.getElem_map]
    exact var1_then U ((Ez.2 _ (by omega)).trans c3) (by have := Ez.1; omega) k'
   have n4 := x4.1
   have c4 : ζ4.f ζ.nx = _ := (x4.2 _ (by omega)).trans c3
   have M4 := M3.eq (x4.2 _ (by omega))
   have k4 : ∀ c, c < ζ.nx → ζ4.f c = ζ.f c := fun c hc => (x4.2 c (by omega)).trans (k3 c hc)
   have E4 := extT E3 x4
   cases eA : W.any (fun v => decide (v.nm = q.nm)) with
   | false =>
    rw [eA, if_neg (by decide)] at ed
    rw [← ed] at k
    simp -implicitDefEqProofs (disch := omega) only [go_sem, p0, p3, p4, p27, p28, p29, c4, Bool.not_false]
    exact k _ E4
   | true =>
    rw [eA, if_pos rfl] at ed
    obtain ⟨es, eu, Mu⟩ := setM_put M4 q.nm
    simp -implicitDefEqProofs (disch := omega) only [go_sem, p0, p3, p4, p27, p28, p29, c4, Bool.not_true, eu]
    have E5 : ExtB η.nx η (ζ4.put ζ2.nx (.mp es)) := extP E4 (by omega)
    refine thenN_call (exprC_then U q.e okq.2 _ _ _ (chk _ E5) (Nat.lt_of_lt_of_le hm E5.1) (chm _ E5) (rdE_keep (keep_b (x.trans (E5.mono x.1))) (Nat.le_trans x.1 E5.1) (fun _ h => h) _ _ re) fun ζ6 x6 => ?_)
    have n6 : ζ4.nx ≤ ζ6.nx := x6.1
    have E6 := extT E5 x6
    cases ek : exprC h P q.e with
    | some w =>
     have hw := exprC_le okq.2 ek
     rw [ek] at ed
     rw [← ed] at k
     have ew : encO (some w) = w := rfl
     simp -implicitDefEqProofs (disch := omega) only [go_sem, p0, p3, p4, p27, p28, p29, ew]
     exact k _ E6
    | none =>
     rw [ek] at ed
     have ew : encO none = 18446744073709551615 := rfl
     simp -implicitDefEqProofs (disch := omega) only [go_sem, p0, p3, p4, p27, p28, p29, ew]
     exact ⟨EQS.length - (i + 1), by omega, (hI _ _ _).2 ⟨i + 1, _, rfl, hlt, ⟨by exact p0, by exact p3, by exact p4, by exact p27, by exact p28, rfl⟩, Mu.eq (x6.2 _ (by show ζ2.nx < ζ4.nx; omega)), fun c hc => (x6.2 c (by show c < ζ4.nx; omega)).trans ((if_neg (by omega)).trans ((k4 c (by omega)).trans (kz c hc))), by omega, ed⟩⟩
 ·obtain rfl : i = EQS.length := by omega
  rw [List.drop_length] at ed
  have ed : lackL D W = eqsC h P W EQS (fun _ => false) := ed
  rw [← ed] at k
  simp -implicitDefEqProofs (disch := omega) only [go_sem, p0, p3, p4, p27, p28, p29, lW]
  obtain ⟨J, hJ⟩ : ∃ J : Nat → FN → HN → Prop, ∀ m φ ζ, J m φ ζ ↔ ∃ i, m = W.length - i ∧ i ≤ W.length ∧ (φ 4 = .map ζ2.nx ∧ φ 56 = xw ∧ φ 57 = .int .i64 W.length ∧ φ 58 = .int .i64 i) ∧ MapAt ζ ζ2.nx (setM D) ∧ (∀ b, b < ζ2.nx → ζ.f b = ζ2.f b) ∧ ζ2.nx < ζ.nx ∧ lackL D (W.drop i) = lackL D W := ⟨_, fun _ _ _ => Iff.rfl⟩
  refine wpN_loop J W.length ((hJ _ _ _).2 ⟨0, rfl, Nat.zero_le _, ⟨by exact p4, rfl, rfl, rfl⟩, Mz, kz, nz, rfl⟩) ?_
  clear p0 p3 p4 p27 p28 p29 Mz kz nz EZ
  intro m φ ζ hi
  obtain ⟨i, hm', hi, ⟨p4, p56, p57, p58⟩, Mz, kz, nz, el⟩ := (hJ _ _ _).1 hi
  have EZ : ExtB η.nx η ζ := ⟨by omega, fun c hc => (kz c (by omega)).trans (X2.2 c hc)⟩
  by_cases hlt : i < W.length
  ·obtain ⟨b, off, cap, ro, row, rfl, hbv, hbn, hlen, hrow⟩ := vr_at rw2 hlt
   have hbz : ζ.f b = _ := (kz _ hbn).trans hbv
   have okw := okW _ (List.getElem_mem hlt)
   rw [lackL_drop hlt] at el
   generalize W[i] = w at *
   have hwc : w.cells = [.str w.nm.1 w.nm.2, .int .i64 w.kd, .str w.on.1 w.on.2, .bool w.nt, .int .i64 w.a] := rfl
   rw [hwc] at hrow
   have ha := okw.1
   obtain ⟨ζ3, e3, c3, k3, n3⟩ : ∃ ζ3, ζ3 = ζ.new (.live false [.str w.nm.1 w.nm.2, .int .i64 w.kd, .str w.on.1 w.on.2, .bool w.nt, .int .i64 w.a]) ∧ ζ3.f ζ.nx = .live false [.str w.nm.1 w.nm.2, .int .i64 w.kd, .str w.on.1 w.on.2, .bool w.nt, .int .i64 w.a] ∧ (∀ b, b < ζ.nx → ζ3.f b = ζ.f b) ∧ ζ3.nx = ζ.nx + 1 := ⟨_, rfl, if_pos rfl, fun b hb => if_neg (by omega), rfl⟩
   have M3 := Mz.eq (k3 _ nz)
   have E3 : ExtB η.nx η ζ3 := ⟨by omega, fun c hc => (k3 c (by omega)).trans (EZ.2 c hc)⟩
   have lk := setM_look M3 w.nm
   simp -implicitDefEqProofs (disch := omega) only [go_sem, p4, p56, p57, p58, hbz, hrow, repL_s, repL_z, setsL_c]
   rw [← e3]
   cases eD : D w.nm with
   | true =>
    rw [eD, if_pos rfl] at el
    rw [eD] at lk
    simp -implicitDefEqProofs (disch := omega) only [go_sem, p4, p56, p57, p58, c3, lk, Bool.not_true]
    exact ⟨W.length - (i + 1), by omega, (hJ _ _ _).2 ⟨i + 1, rfl, hlt, ⟨by exact p4, by exact p56, by exact p57, rfl⟩, M3, fun c hc => (k3 c (by omega)).trans (kz c hc), by omega, el⟩⟩
   | false =>
    rw [eD, if_neg (by decide)] at el
    rw [← el] at k
    rw [eD] at lk
    simp -implicitDefEqProofs (disch := omega) only [go_sem, p4, p56, p57, p58, c3, lk, Bool.not_false]
    exact k _ E3
  ·obtain rfl : i = W.length := by omega
   rw [List.drop_length] at el
   have el : none = lackL D W := el
   rw [← el] at k
   simp -implicitDefEqProofs (disch := omega) only [go_sem, p4, p56, p57, p58]
   exact k _ EZ
end Go.Proofs.Ytpjmiopplfmcfaa
namespace Go.Plain
open Go.Eng
set_option autoImplicit false
theorem nodeIx_ix (l : List Nd) (s : S) : (nodeIx l s).isSome = (ixL (fun n : Nd => decide (n.nm = s)) l 0).isSome := (ixL_isSome _ l 0).symm
theorem dupL_le : ∀ {l : List Vr} {P : S → Bool} {a : Nat} {P' : S → Bool}, (∀ v ∈ l, okV v) → dupL l P = (some a, P') → a ≤ 16384
 | [], P, a, P', _, e => by cases e
 | v :: r, P, a, P', h, e => by
  unfold dupL at e
  split at e
  ·cases e; exact (h v List.mem_cons_self).1
  ·exact dupL_le (fun w hw => h w (List.mem_cons_of_mem _ hw)) e
theorem locL_le : ∀ {l : List Vr} {P : S → Bool} {a : Nat} {P' : S → Bool}, (∀ v ∈ l, okV v) → locL l P = (some a, P') → a ≤ 16384
 | [], P, a, P', _, e => by cases e
 | v :: r, P, a, P', h, e => by
  unfold locL at e
  split at e
  ·cases e; exact (h v List.mem_cons_self).1
  ·split at e
   ·cases e; exact (h v List.mem_cons_self).1
   ·exact locL_le (fun w hw => h w (List.mem_cons_of_mem _ hw)) e
theorem declC_le {n : Nd} {a : Nat} (ok : okN n) (e : (declC n).1 = some a) : a ≤ 16384 := by
 unfold declC at e
 split at e
 ·rename_i b P h
  cases e
  refine dupL_le (fun v hv => ?_) h
  rcases List.mem_append.1 hv with hv | hv
  ·exact ok.2.1.2 v hv
  ·exact ok.2.2.1.2 v hv
 ·rename_i P h
  cases g : locL n.locs P with
  | mk o P' =>
   rw [g] at e
   have e : o = some a := e
   subst e
   exact locL_le ok.2.2.2.1.2 g
theorem lackL_le : ∀ {D : S → Bool} {l : List Vr} {a : Nat}, (∀ v ∈ l, okV v) → lackL D l = some a → a ≤ 16384
 | D, [], a, _, e => by cases e
 | D, v :: r, a, h, e => by
  unfold lackL at e
  split at e
  ·exact lackL_le (fun w hw => h w (List.mem_cons_of_mem _ hw)) e
  ·cases e; exact (h v List.mem_cons_self).1
theorem eqsC_le {h : List Nd} {P : S → Bool} {own : List Vr} (ho : ∀ v ∈ own, okV v) : ∀ {l : List Eqn} {D : S → Bool} {a : Nat}, (∀ q ∈ l, okQ q) → eqsC h P own l D = some a → a ≤ 16384
 | [], D, a, _, e => lackL_le ho e
 | q :: r, D, a, hq, e => by
  have ok := hq q List.mem_cons_self
  unfold eqsC at e
  split at e
  ·cases e; exact ok.1
  ·split at e
   ·cases g : exprC h P q.e with
    | some b => rw [g] at e; cases e; exact exprC_le ok.2 g
    | none => rw [g] at e; exact eqsC_le ho (fun w hw => hq w (List.mem_cons_of_mem _ hw)) e
   ·cases e; exact ok.1
theorem nodeC_le {h : List Nd} {n : Nd} {a : Nat} (ok : okN n) (e : nodeC h n = some a) : a ≤ 16384 := by
 unfold nodeC at e
 split at e
 ·cases e; exact ok.1
 split at e
 ·cases e; exact ok.1
 split at e
 ·rename_i b P g
  cases e
  exact declC_le ok (by rw [g])
 ·refine eqsC_le (fun v hv => ?_) ok.2.2.2.2.2 e
  rcases List.mem_append.1 hv with hv | hv
  ·exact ok.2.2.1.2 v hv
  ·exact ok.2.2.2.1.2 v hv
end Go.Plain
namespace Go.Proofs.Ytpjmiopplfmcfaa
open Go.Eng Go.Plain
set_option autoImplicit false
set_option maxRecDepth 100000
variable {nat : ∀ [Deep], Nats}
set_option maxHeartbeats 8000000 in
theorem nodeC_then (U : Usual nat) {η0 η : HN} {v m0 : AV} {h : List Nd} {n : Nd} {z : List AV} {cb : Nat} (T : Trees η0 v h n z) (x : ExtB η0.nx η0 η) (hb : η.f cb = .live false (v :: (z ++ [m0]))) (hc : η0.nx ≤ cb) (hn : cb < η.nx) {Q : AV → HN → Prop}
  (k : ∀ η', ExtB η0.nx η η' → Q (.int .i64 (encO (nodeC h n))) η') : ∃ v' η', CallN Try.prog nat 59 [.ptr cb 0] η v' η' ∧ Q v' η' := by
 have hz := T.hz
 obtain ⟨y1, y2, y3, y4, rfl, -, r1, r2, r3, qs, r4, r5⟩ := T.hz
 obtain ⟨ok0, ok1, ok2, ok3, ok4, ok5⟩ := T.ok
 obtain ⟨lv, rv, rl⟩ := T.hv
 have hb' : η.f cb = .live false [v, .str n.nm.1 n.nm.2, y1, y2, y3, y4, .int .i64 n.a, m0] := hb
 refine call_of (PT := pl59) Try.func59 rfl (U 59 (by decide)) ok59 rfl ?_
 simp -implicitDefEqProofs (disch := omega) only [go_sem, hb']
 refine dE_call (node_then U T.hl.1 (rv.ext (base := 0) x) (rdNs_keep (keep_b x) x.1 (fun _ h => h) rl) n.nm fun η2 x2 => ?_)
 have ll := (rdNs_len rl).1
 have lh := T.hl.1
 have X2 := x.trans (x2.mono x.1)
 have b2 : η2.f cb = _ := (x2.2 _ hn).trans hb'
 have n2 := x2.1
 have l2 := fun η' e w => row_len (η' := η') r2 (n := n.outs.length) (by rw [List.length_map]) (by have := ok2.1; omega) e w
 have ix := nodeIx_ix h n.nm
 have e0 : nodeC h n = if (nodeIx h n.nm).isSome then some n.a else if n.outs.length = 0 then some n.a else match declC n with | (some a, _) => some a | (none, P) => eqsC h P (ownOf n) n.eqs fun _ => false := rfl
 rw [ix] at e0
 have xm : ExtB η0.nx η η2 := x2.mono x.1
 cases e : ixL (fun d : Nd => decide (d.nm = n.nm)) h 0 with
 | some j =>
  rw [e] at e0
  have e0 : nodeC h n = some n.a := e0
  rw [e0] at k
  obtain ⟨_, hj, _⟩ := ixL_lt e
  have ee : encO (some j) = j := rfl
  simp -implicitDefEqProofs (disch := omega) only [go_sem, hb', b2, ee, l2]
  exact k _ xm
 | none =>
  rw [e] at e0
  have e0 : nodeC h n = if n.outs.length = 0 then some n.a else match declC n with | (some a, _) => some a | (none, P) => eqsC h P (ownOf n) n.eqs fun _ => false := e0
  have ee : encO none = 18446744073709551615 := rfl
  by_cases o0 : n.outs.length = 0
  ·rw [if_pos o0] at e0
   rw [e0] at k
   simp -implicitDefEqProofs (disch := omega) only [go_sem, hb', b2, ee, lt_m1, l2]
   exact k _ xm
  ·rw [if_neg o0] at e0
   simp -implicitDefEqProofs (disch := omega) only [go_sem, hb', b2, ee, lt_m1, l2]
   refine thenN_call (decls_then U T X2 b2 hc (by omega) fun η3 mb b3 m1 m2 M3 n3 k3 => ?_)
   have X3 : ExtB η0.nx η0 η3 := ⟨by have := X2.1; omega, fun c hc' => (k3 c (by have := X2.1; omega) (by omega)).trans (X2.2 c hc')⟩
   have xm3 : ExtB η0.nx η η3 := ⟨by omega, fun c hc' => (k3 c (by have := X2.1; omega) (by omega)).trans (xm.2 c hc')⟩
   cases ed : (declC n).1 with
   | some a =>
    have ha := declC_le T.ok ed
    have e1 : nodeC h n = some a := by
     rw [e0]
     cases g : declC n with
     | mk o P =>
      rw [g] at ed
      have ed : o = some a := ed
      subst ed; rfl
    rw [e1] at k
    have ew : encO (some a) = a := rfl
    simp -implicitDefEqProofs (disch := omega) only [go_sem, ew]
    exact k _ xm3
   | none =>
    have e1 : nodeC h n = eqsC h (declC n).2 (ownOf n) n.eqs fun _ => false := by
     rw [e0]
     cases g : declC n with
     | mk o P =>
      rw [g] at ed
      have ed : o = none := ed
      subst ed; rfl
    rw [e1] at k
    have ew : encO none = 18446744073709551615 := rfl
    simp -implicitDefEqProofs (disch := omega) only [go_sem, ew]
    refine thenN_call (eqs_then U T X3 b3 (by omega) m2 M3 fun η4 x4 => ?_)
    simp -implicitDefEqProofs (disch := omega) only [go_sem]
    exact k _ (xm3.trans (x4.mono X3.1))
end Go.Proofs.Ytpjmiopplfmcfaa
namespace Go.Plain
open Go.Eng
set_option autoImplicit false
theorem namesL_drop {l : List Nd} {i : Nat} (hi : i < l.length) : namesL (l.take i) (l.drop i) = match nodeC (l.take i) l[i] with | some a => some a | none => namesL (l.take (i + 1)) (l.drop (i + 1)) := by
 rw [List.drop_eq_getElem_cons hi, List.take_succ_eq_append_getElem hi]
 conv => lhs; unfold namesL
 cases nodeC (l.take i) l[i] <;> rfl
theorem rdNs_take {F : Nat → Prop} {η : HN} : ∀ {l : List Nd} {ls : List (List AV)} (i : Nat), rdNs F η l ls → rdNs F η (l.take i) (ls.take i)
 | [], _, i, h => by
  have h : _ = [] := h
  subst h
  rw [List.take_nil, List.take_nil]; rfl
 | k :: ks, _, 0, _ => rfl
 | k :: ks, _, i + 1, ⟨l, r, e, h2, h3⟩ => by
  subst e
  exact ⟨l, r.take i, rfl, h2, rdNs_take i h3⟩
theorem rdR_take {s b i : Nat} {η : HN} {ls : List (List AV)} {ro : Bool} {cap : Cp} (hb : η.f b = .live ro ls.flatten) (hn : b < η.nx) (hl : ∀ l ∈ ls, l.length = s) (hi : i ≤ ls.length) : RdR s η (.slice b 0 i cap) (ls.take i) := by
 have tl : (ls.take i).length = i := by rw [List.length_take]; omega
 have hl' : ∀ l ∈ ls.take i, l.length = s := fun l h => hl l (List.mem_of_mem_take h)
 have fl := flat_len _ hl'
 have e : ls.flatten = (ls.take i).flatten ++ (ls.drop i).flatten := by rw [← List.flatten_append, List.take_append_drop]
 refine .inr ⟨b, 0, cap, ro, ls.flatten, by rw [tl], hb, hn, ?_, hl', ?_⟩
 ·rw [e, List.length_append, fl]; omega
 ·rw [List.drop_zero, e, ← fl, List.take_left']; rfl
end Go.Plain
namespace Go.Proofs.Ytpjmiopplfmcfaa
open Go.Eng Go.Plain
set_option autoImplicit false
set_option maxRecDepth 100000
variable {nat : ∀ [Deep], Nats}
set_option maxHeartbeats 8000000 in
theorem namesCheck_then (U : Usual nat) {l : List Nd} {ls : List (List AV)} {η : HN} {v : AV} {lo : Nat} (ok : okL l) (ov : OwnA 6 lo η v ls.length ls.flatten) (rl : rdNs tt η l ls) {Q : AV → HN → Prop}
  (k : ∀ η', ExtB η.nx η η' → Q (.agg [.int .i64 (faultOf 8 (namesF l)).1, .int .i64 (faultOf 8 (namesF l)).2]) η') : ∃ v' η', CallN Try.prog nat 23 [v] η v' η' ∧ Q v' η' := by
 obtain ⟨hl, okn⟩ := ok
 obtain ⟨lsl, ls6⟩ := rdNs_len rl
 have rv := own_rdR ov ls6
 refine call_of (PT := pl23) Try.func23 rfl (U 23 (by decide)) ok23 rfl ?_
 have ln := fun η' e w => row_len (η' := η') rv lsl (by omega) e w
 simp -implicitDefEqProofs (disch := omega) only [go_sem, ln]
 obtain ⟨I, hI⟩ : ∃ I : Nat → FN → HN → Prop, ∀ m φ ζ, I m φ ζ ↔ ∃ i, m = l.length - i ∧ i ≤ l.length ∧ (φ 0 = v ∧ φ 2 = .ptr η.nx 0 ∧ φ 7 = v ∧ φ 8 = .int .i64 l.length ∧ φ 9 = .int .i64 i) ∧ ExtB η.nx η ζ ∧ ζ.f η.nx = .live false [.int .i64 0, .int .i64 0] ∧ η.nx < ζ.nx ∧ namesL (l.take i) (l.drop i) = namesF l := ⟨_, fun _ _ _ => Iff.rfl⟩
 refine wpN_loop I l.length ((hI _ _ _).2 ⟨0, rfl, Nat.zero_le _, ⟨rfl, rfl, rfl, rfl, rfl⟩, extN (.refl _ _), if_pos rfl, Nat.lt_succ_self _, rfl⟩) ?_
 intro m φ ζ hi
 obtain ⟨i, hm, hi, ⟨p0, p2, p7, p8, p9⟩, Ex, c2, nz, en⟩ := (hI _ _ _).1 hi
 by_cases hlt : i < l.length
 ·obtain ⟨hi', ri⟩ := rdNs_at rl i hlt
  obtain ⟨b, rfl, hbv, hbn⟩ : ∃ b, v = .slice b 0 ls.length (.un 6) ∧ η.f b = .live false ls.flatten ∧ b < η.nx := by
   obtain ⟨_, ⟨_, q⟩ | ⟨c, q1, q2, ⟨_, q3, _⟩ | ⟨q3, q4⟩⟩⟩ := ov
   ·omega
   ·omega
   ·exact ⟨c, q3, q4, q2⟩
  obtain ⟨b', off, cap, ro, row, ev, hbv', hbn', hlen, hrow⟩ := rv.at hi'
  cases ev
  rw [hbv] at hbv'
  cases hbv'
  have hbz : ζ.f b = _ := (Ex.2 b hbn).trans hbv
  have okd := okn _ (List.getElem_mem hlt)
  rw [namesL_drop hlt] at en
  have rtake := rdNs_take i rl
  have l6 := rdN_len ri
  generalize hd : l[i] = d at *
  generalize hz : ls[i] = zd at *
  have ri' := ri
  obtain ⟨y1, y2, y3, y4, rfl, -⟩ := ri'
  rw [Nat.zero_add] at hrow
  simp -implicitDefEqProofs (disch := omega) only [go_sem, p0, p2, p7, p8, p9, hbz, hrow, repL_s, repL_z, setsL_c]
  have kH : ∀ c, c < ζ.nx → ((((ζ.new (.live false [sV d.nm, y1, y2, y3, y4, .int .i64 d.a])).at_ (ζ.nx + 1 + 5)).new (.live false [.slice b 0 i (.un 6), sV d.nm, y1, y2, y3, y4, .int .i64 d.a, .nilmap])).at_ (ζ.nx + 1 + 7)).f c = ζ.f c := fun c hc => (if_neg (by show ¬ c = ζ.nx + 1 + 5; omega)).trans (if_neg (by omega))
  have EH : ExtB ζ.nx ζ ((((ζ.new (.live false [sV d.nm, y1, y2, y3, y4, .int .i64 d.a])).at_ (ζ.nx + 1 + 5)).new (.live false [.slice b 0 i (.un 6), sV d.nm, y1, y2, y3, y4, .int .i64 d.a, .nilmap])).at_ (ζ.nx + 1 + 7)) := ⟨by show ζ.nx ≤ ζ.nx + 1 + 7; omega, kH⟩
  have T : Trees ζ (.slice b 0 i (.un 6)) (l.take i) d [sV d.nm, y1, y2, y3, y4, .int .i64 d.a] := ⟨⟨_, rdR_take hbz (Nat.lt_of_lt_of_le hbn Ex.1) ls6 (by omega), rdNs_keep (keep_b Ex) Ex.1 (fun _ h => h) rtake⟩, rdN_ext ri Ex, ⟨by rw [List.length_take]; omega, fun d hd => okn d (List.mem_of_mem_take hd)⟩, okd⟩
  refine thenN_call (nodeC_then U T EH (cb := ζ.nx + 1 + 5) (m0 := .nilmap) (if_pos rfl) (by omega) (by show ζ.nx + 1 + 5 < ζ.nx + 1 + 7; omega) fun η4 x4 => ?_)
  have n4 : ζ.nx + 1 + 7 ≤ η4.nx := x4.1
  cases ec : nodeC (l.take i) d with
  | some a =>
   have ha := nodeC_le okd ec
   rw [ec] at en
   rw [← en] at k
   have ew : encO (some a) = a := rfl
   have c4 : η4.f η.nx = _ := (x4.2 _ nz).trans ((kH _ nz).trans c2)
   simp -implicitDefEqProofs (disch := omega) only [go_sem, p0, p2, p7, p8, p9, ew, c4]
   exact k _ ⟨by show η.nx ≤ η4.nx; have := Ex.1; omega, fun c hc => (if_neg (by omega)).trans ((x4.2 c (by have := Ex.1; omega)).trans ((kH c (by have := Ex.1; omega)).trans (Ex.2 c hc)))⟩
  | none =>
   rw [ec] at en
   have ew : encO none = 18446744073709551615 := rfl
   simp -implicitDefEqProofs (disch := omega) only [go_sem, p0, p2, p7, p8, p9, ew]
   exact ⟨l.length - (i + 1), by omega, (hI _ _ _).2 ⟨i + 1, rfl, hlt, ⟨by exact p0, by exact p2, by exact p7, by exact p8, rfl⟩, ⟨by have := Ex.1; omega, fun c hc => (x4.2 c (by omega)).trans ((kH c (by omega)).trans (Ex.2 c hc))⟩, (x4.2 _ nz).trans ((kH _ nz).trans c2), by omega, en⟩⟩
 ·obtain rfl : i = l.length := by omega
  rw [List.drop_length] at en
  have en : none = namesF l := en
  rw [← en] at k
  simp -implicitDefEqProofs (disch := omega) only [go_sem, p0, p2, p7, p8, p9, c2]
  exact k _ (extP Ex)
theorem tree_rd {F : Nat → Prop} {η : HN} {v : AV} {l : List Nd} (h : TreeRd F η v l) : ∃ ls, RdR 6 η v ls ∧ rdNs tt η l ls := by
 obtain ⟨_, ls, h1, h2⟩ := h
 exact ⟨ls, h1, rdNs_keep (fun _ _ _ => rfl) (Nat.le_refl _) (fun _ _ => trivial) h2⟩
theorem fault6_then (U : Usual nat) {η : HN} {T : By} (hT : T.length ≤ 9223372036854775807) {Q : AV → HN → Prop} (k : ∀ η', ExtB η.nx η η' → Q (.agg [.int .i64 (faultOf 8 (namesF (parseF T).1)).1, .int .i64 (faultOf 8 (namesF (parseF T).1)).2]) η') :
  ∃ v η', CallN Try.prog nat 21 [.str T.length (codesL T)] η v η' ∧ Q v η' := by
 refine call_of (PT := pl21) Try.func21 rfl (U 21 (by decide)) ok21 rfl ?_
 simp -implicitDefEqProofs (disch := omega) only [go_sem]
 refine thenN_call (parse_of U (cut_spec U) hT fun v η2 tr E2 => ?_)
 obtain ⟨ls, r1, r2⟩ := tree_rd tr
 have E0 : ExtB η.nx η (η.new (.live false [.int .i64 0, .int .i64 0])) := extN (.refl _ _)
 have n2 : η.nx + 1 ≤ η2.nx := E2.1
 have c2 : η2.f η.nx = _ := (E2.2 _ (Nat.lt_succ_self _)).trans (if_pos rfl)
 have e3 : ExtB η2.nx η2 (η2.new (.live false [.int .i64 (parseF T).2.1, .int .i64 (parseF T).2.2])) := extN (.refl _ _)
 have E3 := extT (extT E0 E2) e3
 have c3 : (η2.new (.live false [.int .i64 (parseF T).2.1, .int .i64 (parseF T).2.2])).f η.nx = _ := (e3.2 _ (by omega)).trans c2
 have n3 : (η2.new (.live false [.int .i64 (parseF T).2.1, .int .i64 (parseF T).2.2])).nx = η2.nx + 1 := rfl
 simp -implicitDefEqProofs (disch := omega) only [go_sem]
 generalize η2.new (.live false [.int .i64 (parseF T).2.1, .int .i64 (parseF T).2.2]) = η3 at *
 refine thenN_call (back_spec U (parse_ok T) (r1.ext (base := 0) e3) (rdNs_keep (keep_b e3) e3.1 (fun _ h => h) r2) fun x4 η4 ls4 o4 r4 E4 => ?_)
 have c4 : η4.f η.nx = _ := (E4.2 _ (by omega)).trans c3
 simp -implicitDefEqProofs (disch := omega) only [go_sem]
 refine thenN_call (namesCheck_then U (parse_ok T) o4 r4 fun η5 E5 => ?_)
 have n4 := E4.1
 have c5 : η5.f η.nx = _ := (E5.2 _ (by omega)).trans c4
 simp -implicitDefEqProofs (disch := omega) only [go_sem]
 refine thenN_call (bad_then U fun η6 E6 => ?_)
 have n5 := E5.1
 have c6 : η6.f η.nx = _ := (E6.2 _ (by omega)).trans c5
 simp -implicitDefEqProofs (disch := omega) only [go_sem, c6]
 exact k _ (extP (extT (extT (extT E3 E4) E5) E6))
end Go.Proofs.Ytpjmiopplfmcfaa
