/- What is proved: what an instruction does to what was written; whether a slot was not. Conditions: none. -/
import Derived.Test.YtjljolnhmmbkoaaValid14
set_option linter.unusedVariables false
set_option linter.unusedSimpArgs false
set_option linter.unusedSectionVars false
namespace Go.Proofs.Ytjljolnhmmbkoaa
open Go.Eng Go.Plain
set_option autoImplicit false
set_option maxRecDepth 100000
variable {nat : ∀ [Deep], Nats}
theorem SetAt.rd {η : HN} {T : Nat → Nat} {B t : Nat} {v : AV} {ws : List Nat} (h : SetAt η T B t v ws) : RdI .u64 η v ws := by
  obtain ⟨b, cap, rfl, h2, h3, h4, h5⟩ := h
  exact rdI_blk ws h5 h3
theorem has_call (U : Usual nat) (η : HN) (y : AV) (ws : List Nat) (l : List Bool) (n : Nat) (hy : RdI .u64 η y ws) (hw : SetW ws l) (hn : n < l.length) (hl : l.length ≤ 1099511627776) : CallN Try.prog nat 45 [y, .int .i64 n] η (.bool (l.getD n false)) η := by
  have h1 := hw.len
  obtain ⟨v, η', k, rfl, rfl⟩ := has_spec (U 45 (by decide)) η y ws n hy (by omega) (by omega) hw.lt
  rw [setW_has hw hn] at k
  exact k
theorem nothas_call (U : Usual nat) (η : HN) (p : Nat) (c0 v1 v2 : AV) (ws : List Nat) (l : List Bool) (n : Nat) (hp : η.f p = .live false [c0, v1, v2]) (hy : RdI .u64 η v1 ws) (hw : SetW ws l) (hn : n < l.length) (hl : l.length ≤ 1099511627776) :
    CallN Try.prog nat 86 [.int .i64 n, .ptr p 0] η (.bool (!l.getD n false)) η := by
  have : ∃ v η', CallN Try.prog nat 86 [.int .i64 n, .ptr p 0] η v η' ∧ v = .bool (!l.getD n false) ∧ η' = η := by
    refine call_of (PT := pl86) Try.func86 rfl (U 86 (by decide)) ok86 rfl ?_
    simp -implicitDefEqProofs (disch := omega) only [go_sem, hp]
    refine thenN_call ⟨_, _, has_call U _ _ _ _ _ hy hw hn hl, ?_⟩
    simp -implicitDefEqProofs (disch := omega) only [go_sem]
  obtain ⟨v, η', k, rfl, rfl⟩ := this
  exact k
theorem does_places (U : Usual nat) {η : HN} {T : Nat → Nat} {B bl n lo S O k p : Nat} {st : Nat → St} {came : Bool} {v1 v2 : AV} {d : List Bool × List Bool} {i : Ins} (h : Places η T B bl n lo st S O) (hd : DAt η T B k v1 v2 d) (hl : d.1.length = S ∧ d.2.length = O) (hk : k < lo)
    (hp : η.f p = .live false [.bool came, v1, v2]) (hpn : p < η.nx) (hi : i.op ≤ 20) (ha : i.op ≠ 3 → i.op ≠ 5 → i.op ≤ 18 → i.a < S) (ho : i.op = 5 → i.a < O) (hS : S ≤ 1099511627776) (hO : O ≤ 1099511627776) :
    ∃ v η', CallN Try.prog nat 87 [.ptr p 0, .agg i.cells] η v η' ∧ Places η' T B bl n lo st S O ∧ DAt η' T B k v1 v2 (doesF i d) ∧ Kp T bl η η' T := by
  obtain ⟨op, a, b, c⟩ := i
  dsimp only at hi ha ho
  have nb : ∀ {b c : Nat}, T b ≠ T c → b ≠ c := fun hne e => hne (by rw [e])
  obtain ⟨w1, w2, s1, s2, ⟨b1, cap1, rfl, p1, p2, p3, p4⟩, ⟨b2, cap2, rfl, q1, q2, q3, q4⟩⟩ := hd
  have hd0 : DAt η T B k (.slice b1 0 w1.length cap1) (.slice b2 0 w2.length cap2) d := ⟨w1, w2, s1, s2, ⟨b1, cap1, rfl, p1, p2, p3, p4⟩, ⟨b2, cap2, rfl, q1, q2, q3, q4⟩⟩
  have l1 := s1.len
  have l2 := s2.len
  by_cases hno : op = 3 ∨ op = 19 ∨ op = 20
  · obtain ⟨v, η', kk, E⟩ := does_no_spec (U 87 (by decide)) (U 103 (by decide)) η p op a b c came _ _ hp hno hpn
    have e : doesF ⟨op, a, b, c⟩ d = d := by unfold doesF; dsimp only; rw [if_neg (by omega), if_pos hno]
    rw [e]
    exact ⟨v, η', kk, h.ext E, hd0.of E.1 (fun _ _ => rfl) fun b hb _ => E.2 b hb, Kp.ofExt E⟩
  by_cases h5 : op = 5
  · subst h5
    have hlt : a / 64 < w2.length := by rw [l2, hl.2]; have := ho rfl; omega
    have hr : (u64s w2)[0 + a / 64]? = some (.int .u64 (w2.getD (a / 64) 0)) := by rw [Nat.zero_add]; exact u64s_at (by rw [List.getD_eq_getElem?_getD, List.getElem?_eq_getElem hlt]; rfl)
    obtain ⟨v, η', kk, rfl⟩ := does_out_spec (U 87 (by decide)) (U 103 (by decide)) η p a b c b2 0 w2.length _ cap2 _ came _ hp hpn q2 q4 hlt hr (by rw [l2, hl.2]; omega)
    have e : doesF ⟨5, a, b, c⟩ d = (d.1, d.2.set a true) := rfl
    rw [e]
    rw [Nat.zero_add, u64s_set] at kk
    have E : ExtB η.nx η (η.new (.live false [.int .i64 5, .int .i64 a, .int .i64 b, .int .i64 c])) := extN (.refl _ _)
    have hne : ∀ x, x < η.nx → x ≠ b2 → ((η.new (.live false [.int .i64 5, .int .i64 a, .int .i64 b, .int .i64 c])).put b2 (.live false (u64s (w2.set (a / 64) (w2.getD (a / 64) 0 ||| 2 ^ (a % 64)))))).f x = η.f x := fun x hx hx2 => by
      show (if x = b2 then _ else _) = _; rw [if_neg hx2]; exact E.2 x hx
    have hnx : ((η.new (.live false [.int .i64 5, .int .i64 a, .int .i64 b, .int .i64 c])).put b2 (.live false (u64s (w2.set (a / 64) (w2.getD (a / 64) 0 ||| 2 ^ (a % 64)))))).nx = η.nx + 1 := rfl
    obtain ⟨row, r1, r2, r3⟩ := h.row
    have hbl := h.bl
    refine ⟨v, _, kk, ⟨⟨row, (hne bl hbl.2.1 (nb (by omega))).trans r1, r2, fun q a1 b1 => (r3 q a1 b1).of (fun _ _ => rfl) (by omega) (fun _ _ => rfl) fun x hx ht => hne x hx (nb (by omega))⟩, h.len, ⟨hbl.1, by omega, hbl.2.2⟩, fun x hx => h.fresh x (by omega)⟩, ?_, ⟨by omega, fun _ _ => rfl, fun x hx ht _ => hne x hx (nb (by omega))⟩⟩
    refine ⟨w1, _, s1, setW_add s2 (by rw [hl.2]; exact ho rfl), ⟨b1, cap1, rfl, p1, by omega, p3, (hne b1 p2 (nb (by omega))).trans p4⟩, ⟨b2, cap2, by rw [List.length_set], q1, by omega, q3, by show (if b2 = b2 then _ else _) = _; rw [if_pos rfl]⟩⟩
  · have hlt : a / 64 < w1.length := by rw [l1, hl.1]; have := ha (by omega) (by omega) (by omega); omega
    have hr : (u64s w1)[0 + a / 64]? = some (.int .u64 (w1.getD (a / 64) 0)) := by rw [Nat.zero_add]; exact u64s_at (by rw [List.getD_eq_getElem?_getD, List.getElem?_eq_getElem hlt]; rfl)
    obtain ⟨v, η', kk, rfl⟩ := does_slot_spec (U 87 (by decide)) (U 103 (by decide)) η p op a b c b1 0 w1.length _ cap1 _ came _ hp hpn p2 (by omega) (by omega) (by omega) p4 hlt hr (by rw [l1, hl.1]; omega)
    have e : doesF ⟨op, a, b, c⟩ d = (d.1.set a true, d.2) := by unfold doesF; dsimp only; rw [if_neg h5, if_neg hno]
    rw [e]
    rw [Nat.zero_add, u64s_set] at kk
    have E : ExtB η.nx η (η.new (.live false [.int .i64 op, .int .i64 a, .int .i64 b, .int .i64 c])) := extN (.refl _ _)
    have hne : ∀ x, x < η.nx → x ≠ b1 → ((η.new (.live false [.int .i64 op, .int .i64 a, .int .i64 b, .int .i64 c])).put b1 (.live false (u64s (w1.set (a / 64) (w1.getD (a / 64) 0 ||| 2 ^ (a % 64)))))).f x = η.f x := fun x hx hx2 => by
      show (if x = b1 then _ else _) = _; rw [if_neg hx2]; exact E.2 x hx
    have hnx : ((η.new (.live false [.int .i64 op, .int .i64 a, .int .i64 b, .int .i64 c])).put b1 (.live false (u64s (w1.set (a / 64) (w1.getD (a / 64) 0 ||| 2 ^ (a % 64)))))).nx = η.nx + 1 := rfl
    obtain ⟨row, r1, r2, r3⟩ := h.row
    have hbl := h.bl
    refine ⟨v, _, kk, ⟨⟨row, (hne bl hbl.2.1 (nb (by omega))).trans r1, r2, fun q a1 b1 => (r3 q a1 b1).of (fun _ _ => rfl) (by omega) (fun _ _ => rfl) fun x hx ht => hne x hx (nb (by omega))⟩, h.len, ⟨hbl.1, by omega, hbl.2.2⟩, fun x hx => h.fresh x (by omega)⟩, ?_, ⟨by omega, fun _ _ => rfl, fun x hx ht _ => hne x hx (nb (by omega))⟩⟩
    refine ⟨_, w2, setW_add s1 (by rw [hl.1]; exact ha (by omega) (by omega) (by omega)), s2, ⟨b1, cap1, by rw [List.length_set], p1, by omega, p3, by show (if b1 = b1 then _ else _) = _; rw [if_pos rfl]⟩, ⟨b2, cap2, rfl, q1, by omega, q3, (hne b2 q2 (nb (by omega))).trans q4⟩⟩
end Go.Proofs.Ytjljolnhmmbkoaa
