/- Part 6 of what the proof rests on: a machine that runs functions of the program on pure values, proved sound; the functions that the law reaches, and what they compute. -/
import Derived.Test.YtpjoicpmbdaniaaQ5
set_option linter.all false
namespace Go.Proofs
open Go Go.Pm
set_option linter.unusedVariables false
theorem of_in (s : Span) (p : Int) (h1 : -1000000 ≤ s.Low) (h2 : s.Low ≤ s.High) (h3 : s.High ≤ 1000000) (h4 : 0 ≤ p ∧ p ≤ 100) : s.Low ≤ s24 s p ∧ s24 s p ≤ s.High := by
  unfold s24
  have hm0 : 0 ≤ (s.High - s.Low) * p := Int.mul_nonneg (by omega) (by omega)
  have hm1 : (s.High - s.Low) * p ≤ (s.High - s.Low) * 100 := Int.mul_le_mul_of_nonneg_left h4.2 (by omega)
  rw [w64_id (x := s.High - s.Low) (by omega) (by omega), w64_id (x := (s.High - s.Low) * p) (by omega) (by omega), Int.tdiv_eq_ediv_of_nonneg hm0]
  generalize (s.High - s.Low) * p = m at hm0 hm1
  rw [w64_id (x := m / 100) (by omega) (by omega), w64_id (by omega) (by omega)]
  omega
def tot (parts k f : Int) : Int := if k * f < 1000 * parts then k * f else 1000 * parts
def fct (l : Sl Spell) (was : Sl Sample) (b a : Int) (i : Nat) : Int := mz (1000 - b * s24 (l.get i).Weather.Pressure (was.get i).Pressure + a * s24 (l.get i).Weather.Warm (was.get i).Warm)
def cmF (s : Sky) (l : Sl Spell) (was : Sl Sample) (b a k : Int) (i : Nat) : Int := (l.get i).Slots * tot s.Parts k (fct l was b a i)
theorem cm_b {s : Sky} {x : Span} {l : Sl Spell} {was : Sl Sample} {b a k : Int} (hs : SOk s) (hx : XOk s x) (hl : LOk l) (hb : s.Beta.Low ≤ b ∧ b ≤ s.Beta.High) (ha : s.Alpha.Low ≤ a ∧ a ≤ s.Alpha.High) (hk : x.Low ≤ k ∧ k ≤ x.High) {i : Nat} (hi : i < l.len)
    (hw : (0 ≤ (was.get i).Pressure ∧ (was.get i).Pressure ≤ 100) ∧ (0 ≤ (was.get i).Warm ∧ (was.get i).Warm ≤ 100)) :
    (0 ≤ fct l was b a i ∧ fct l was b a i ≤ 201000) ∧ (0 ≤ k * fct l was b a i ∧ k * fct l was b a i ≤ 201000000000) ∧ (0 ≤ cmF s l was b a k i ∧ cmF s l was b a k i ≤ 1000000000000000) ∧ 1000 * loF s x l i ≤ cmF s l was b a k i ∧ cmF s l was b a k i ≤ 1000 * hiF s x l i := by
  obtain ⟨h1, h2⟩ := hl.2 i hi
  have hp := hs.1.1
  obtain ⟨f0, f1, f2⟩ := fc_b hs.sb h2
  obtain ⟨x0, x1, x2⟩ := hx
  have hP := of_in (l.get i).Weather.Pressure (was.get i).Pressure (by have := h2.1; omega) (by have := h2.1; omega) (by have := h2.1; omega) hw.1
  have hW := of_in (l.get i).Weather.Warm (was.get i).Warm (by have := h2.2; omega) (by have := h2.2; omega) (by have := h2.2; omega) hw.2
  have hf := fc_in (s := s) (w := (l.get i).Weather) hb hP ha hW
  have hfc : fcL s (l.get i).Weather ≤ fct l was b a i ∧ fct l was b a i ≤ fcH s (l.get i).Weather := hf
  have m0 := mulN (r := k) (f := fct l was b a i) (a := 1000000) (b := 201000) (by omega) (by omega)
  have m1 : x.Low * fcL s (l.get i).Weather ≤ k * fct l was b a i := by
    have := Int.mul_le_mul_of_nonneg_right hk.1 f0
    have := Int.mul_le_mul_of_nonneg_left hfc.1 (show 0 ≤ k by omega)
    omega
  have m2 : k * fct l was b a i ≤ x.High * fcH s (l.get i).Weather := by
    have := Int.mul_le_mul_of_nonneg_right hk.2 (show 0 ≤ fct l was b a i by omega)
    have := Int.mul_le_mul_of_nonneg_left hfc.2 (show 0 ≤ x.High by omega)
    omega
  have m3 := mulN (r := x.Low) (f := fcL s (l.get i).Weather) (a := 1000000) (b := 201000) (by omega) (by omega)
  have t0 : 0 ≤ tot s.Parts k (fct l was b a i) ∧ tot s.Parts k (fct l was b a i) ≤ 1000000000 := by
    unfold tot
    split <;> omega
  have t1 : 1000 * rlo s.Parts x.Low (fcL s (l.get i).Weather) ≤ tot s.Parts k (fct l was b a i) := by
    unfold tot rlo
    generalize x.Low * fcL s (l.get i).Weather = u at m1 m3
    generalize k * fct l was b a i = v at m0 m1 m2
    split <;> split <;> omega
  have t2 : tot s.Parts k (fct l was b a i) ≤ 1000 * rhi s.Parts x.High (fcH s (l.get i).Weather) := by
    unfold tot rhi
    generalize x.High * fcH s (l.get i).Weather = u at m2
    generalize k * fct l was b a i = v at m0 m1 m2
    split <;> split <;> omega
  have q := mulN (r := (l.get i).Slots) (a := 1000000) (by omega) t0
  refine ⟨by omega, by omega, by unfold cmF; omega, ?_, ?_⟩
  · unfold loF cmF
    have := Int.mul_le_mul_of_nonneg_left t1 (show 0 ≤ (l.get i).Slots by omega)
    rw [Int.mul_left_comm] at this
    exact this
  · unfold hiF cmF
    have := Int.mul_le_mul_of_nonneg_left t2 (show 0 ≤ (l.get i).Slots by omega)
    rw [Int.mul_left_comm (l.get i).Slots 1000] at this
    exact this
theorem ceil_mul {B S : Int} (hS : 1 ≤ S) (hB : 0 ≤ B) : B ≤ (B + S - 1) / S * S ∧ (B + S - 1) / S * S ≤ B + S - 1 := by
  have h1 := Int.ediv_mul_le (B + S - 1) (show S ≠ 0 by omega)
  have h2 := Int.lt_ediv_add_one_mul_self (B + S - 1) (show 0 < S by omega)
  rw [Int.add_mul] at h2
  omega
theorem at5_4 {s : Sky} {x : Span} {l : Sl Spell} {was : Sl Sample} {b a k : Int} (hs : SOk s) (hx : XOk s x) (hl : LOk l) (hw : was.len = l.len) (hb : s.Beta.Low ≤ b ∧ b ≤ s.Beta.High) (ha : s.Alpha.Low ≤ a ∧ a ≤ s.Alpha.High) (hk : x.Low ≤ k ∧ k ≤ x.High) :
    p4_at5 s l was (meanV s x l).Low (meanV s x l).High b a k s.Bins = true ∧ s4_at5 s l was (meanV s x l).Low (meanV s x l).High b a k s.Bins = true := by
  have hlen := hl.1
  have hp := hs.1.1
  have key : ∀ m q i : Nat, i + m = l.len → m < q → (∀ j, j < i → (0 ≤ (was.get j).Pressure ∧ (was.get j).Pressure ≤ 100) ∧ (0 ≤ (was.get j).Warm ∧ (was.get j).Warm ≤ 100)) →
      p4_lp6 s l was (meanV s x l).Low (meanV s x l).High b a k q (sumF (cmF s l was b a k) i) (sumF (slF l) i) i s.Bins = true ∧ s4_lp6 s l was (meanV s x l).Low (meanV s x l).High b a k q (sumF (cmF s l was b a k) i) (sumF (slF l) i) i s.Bins = true := by
    intro m
    induction m with
    | zero =>
      intro q i hi hm hj
      obtain ⟨q, rfl⟩ : ∃ k', q = k' + 1 := ⟨q - 1, by omega⟩
      show p4_st6 s l was (meanV s x l).Low (meanV s x l).High b a k (p4_lp6 s l was (meanV s x l).Low (meanV s x l).High b a k q) _ _ _ _ = true ∧ s4_st6 s l was (meanV s x l).Low (meanV s x l).High b a k (s4_lp6 s l was (meanV s x l).Low (meanV s x l).High b a k q) _ _ _ _ = true
      unfold p4_st6 s4_st6
      rw [decide_eq_false (by omega)]
      have e : i = l.len := by omega
      subst e
      refine ⟨rfl, ?_⟩
      rw [cond_false]
      obtain ⟨c1, c2, c3⟩ := sums_b hs hx hl l.len (Nat.le_refl _)
      have c0 := sumF_pos (f := slF l) (n := l.len) (by omega) (fun i hi => (hl.2 i hi).1.1)
      have c4 := sumF_le (f := fun i => 1000 * loF s x l i) (g := cmF s l was b a k) (n := l.len) (fun j h => (cm_b hs hx hl hb ha hk h (hj j h)).2.2.2.1)
      have c5 := sumF_le (f := cmF s l was b a k) (g := fun i => 1000 * hiF s x l i) (n := l.len) (fun j h => (cm_b hs hx hl hb ha hk h (hj j h)).2.2.2.2)
      rw [sumF_mul] at c4 c5
      unfold s4_at8 meanV
      show (cond (decide (w64 (w64 (1000 * (sumF (loF s x l) l.len / sumF (slF l) l.len)) * sumF (slF l) l.len) ≤ _)) (cond (decide (_ ≤ w64 (w64 (1000 * ((sumF (hiF s x l) l.len + sumF (slF l) l.len - 1) / sumF (slF l) l.len)) * sumF (slF l) l.len))) true false) false) = true
      generalize sumF (slF l) l.len = S at *
      generalize sumF (loF s x l) l.len = A at *
      generalize sumF (hiF s x l) l.len = B at *
      generalize sumF (cmF s l was b a k) l.len = C at *
      have d1 : 0 ≤ A / S := Int.ediv_nonneg (by omega) (by omega)
      have d2 : A / S ≤ A := Int.ediv_le_self _ (by omega)
      have d3 : 0 ≤ (B + S - 1) / S := Int.ediv_nonneg (by omega) (by omega)
      have d4 : (B + S - 1) / S ≤ B + S - 1 := Int.ediv_le_self _ (by omega)
      have d5 := Int.ediv_mul_le A (show S ≠ 0 by omega)
      have d6 := ceil_mul (B := B) (S := S) (by omega) (by omega)
      generalize A / S = U at *
      generalize (B + S - 1) / S = V at *
      have n1 : 0 ≤ U * S := Int.mul_nonneg d1 (by omega)
      rw [w64_id (x := 1000 * U) (by omega) (by omega), w64_id (x := 1000 * V) (by omega) (by omega), Int.mul_assoc, Int.mul_assoc, w64_id (x := 1000 * (U * S)) (by omega) (by omega), w64_id (x := 1000 * (V * S)) (by omega) (by omega), decide_eq_true (show 1000 * (U * S) ≤ C by omega), decide_eq_true (show C ≤ 1000 * (V * S) by omega)]
      rfl
    | succ m ih =>
      intro q i hi hm hj
      obtain ⟨q, rfl⟩ : ∃ k', q = k' + 1 := ⟨q - 1, by omega⟩
      show p4_st6 s l was (meanV s x l).Low (meanV s x l).High b a k (p4_lp6 s l was (meanV s x l).Low (meanV s x l).High b a k q) _ _ _ _ = true ∧ s4_st6 s l was (meanV s x l).Low (meanV s x l).High b a k (s4_lp6 s l was (meanV s x l).Low (meanV s x l).High b a k q) _ _ _ _ = true
      have hil : i < l.len := by omega
      have e3 : w64 ((i : Int) + 1) = ((i + 1 : Nat) : Int) := by rw [w64_id (by omega) (by omega)]; omega
      unfold p4_st6 s4_st6
      rw [decide_eq_true (show (i : Int) < (l.len : Int) by omega), decide_eq_true (show 0 ≤ (i : Int) ∧ (i : Int) < (was.len : Int) by omega), Int.toNat_natCast]
      by_cases h1 : (was.get i).Pressure < 0
      · rw [decide_eq_true h1]; exact ⟨rfl, rfl⟩
      by_cases h2 : (was.get i).Pressure > 100
      · rw [decide_eq_false h1, decide_eq_true h2]; exact ⟨rfl, rfl⟩
      by_cases h3 : (was.get i).Warm < 0
      · rw [decide_eq_false h1, decide_eq_false h2, decide_eq_true h3]; exact ⟨rfl, rfl⟩
      by_cases h4 : (was.get i).Warm > 100
      · rw [decide_eq_false h1, decide_eq_false h2, decide_eq_false h3, decide_eq_true h4]; exact ⟨rfl, rfl⟩
      rw [decide_eq_false h1, decide_eq_false h2, decide_eq_false h3, decide_eq_false h4]
      have hwi : (0 ≤ (was.get i).Pressure ∧ (was.get i).Pressure ≤ 100) ∧ (0 ≤ (was.get i).Warm ∧ (was.get i).Warm ≤ 100) := by omega
      have hjs : ∀ j, j < i + 1 → (0 ≤ (was.get j).Pressure ∧ (was.get j).Pressure ≤ 100) ∧ (0 ≤ (was.get j).Warm ∧ (was.get j).Warm ≤ 100) := fun j h => by
        by_cases e : j = i
        · rw [e]; exact hwi
        · exact hj j (by omega)
      have ih' := ih q (i + 1) (by omega) (by omega) hjs
      obtain ⟨hq1, hq2⟩ := hl.2 i hil
      have hP := of_in (l.get i).Weather.Pressure (was.get i).Pressure (by have := hq2.1; omega) (by have := hq2.1; omega) (by have := hq2.1; omega) hwi.1
      have hW := of_in (l.get i).Weather.Warm (was.get i).Warm (by have := hq2.2; omega) (by have := hq2.2; omega) (by have := hq2.2; omega) hwi.2
      have hbb := hs.1.2.2.1
      have haa := hs.1.2.2.2
      have hm1 := hq2.1
      have hm2 := hq2.2
      obtain ⟨r1, r2, r3, _, _⟩ := cm_b hs hx hl hb ha hk hil hwi
      have c1 := sumF_b (f := slF l) (n := i) (b := 1000000) (fun j hj => by have := (hl.2 j (by omega)).1; unfold slF; omega)
      have c2 := sumF_b (f := cmF s l was b a k) (n := i) (b := 1000000000000000) (fun j h => (cm_b hs hx hl hb ha hk (by omega) (hj j h)).2.2.1)
      have y := y117_eq (b := b) (p := s24 (l.get i).Weather.Pressure (was.get i).Pressure) (a := a) (x := s24 (l.get i).Weather.Warm (was.get i).Warm) (by omega) (by omega) (by omega) (by omega)
      have y2 : (if w64 (w64 (1000 - w64 (b * s24 (l.get i).Weather.Pressure (was.get i).Pressure)) + w64 (a * s24 (l.get i).Weather.Warm (was.get i).Warm)) > 0 then w64 (w64 (1000 - w64 (b * s24 (l.get i).Weather.Pressure (was.get i).Pressure)) + w64 (a * s24 (l.get i).Weather.Warm (was.get i).Warm)) else 0) = fct l was b a i := y
      have z : (if w64 (k * fct l was b a i) < w64 (1000 * s.Parts) then w64 (k * fct l was b a i) else w64 (1000 * s.Parts)) = tot s.Parts k (fct l was b a i) := by
        rw [w64_id (x := k * fct l was b a i) (by omega) (by omega), w64_id (x := 1000 * s.Parts) (by omega) (by omega)]
        rfl
      have z2 : w64 ((l.get i).Slots * tot s.Parts k (fct l was b a i)) = cmF s l was b a k i := by
        show w64 (cmF s l was b a k i) = _
        exact w64_id (by omega) (by omega)
      unfold p4_at7 s4_at7 p4_at9 s4_at9
      rw [decide_eq_true (show 0 ≤ (i : Int) ∧ (i : Int) < (was.len : Int) by omega), decide_eq_true (show 0 ≤ (i : Int) ∧ (i : Int) < (l.len : Int) by omega), Int.toNat_natCast, y2, z, z2, e3,
        w64_id (x := sumF (cmF s l was b a k) i + cmF s l was b a k i) (by omega) (by omega), w64_id (x := sumF (slF l) i + (l.get i).Slots) (by omega) (by omega)]
      have u1 : ∀ a b, p24 a b = true := fun _ _ => rfl
      rw [u1, u1]
      simpa [sumF, slF] using ih'
  exact key l.len Fuel 0 (by omega) (by simp only [Fuel]; omega) (fun j h => absurd h (by omega))
theorem law4 (s : Sky) (t : Sl RangeRow) (bin x : Int) (l : Sl Spell) (was : Sl Sample) (beta alpha rate : Int) (hs : SL s) (ht : t.len ≤ 9223372036854775807) (hl : l.len ≤ 9223372036854775807) :
    p4 s t bin x l was beta alpha rate = true ∧ s4 s t bin x l was beta alpha rate = true := by
  have go : Fine s t bin x → LOk l → was.len = l.len → (0 ≤ beta ∧ beta ≤ 100) → (0 ≤ alpha ∧ alpha ≤ 100) → (0 ≤ rate ∧ rate ≤ 100) →
      p4_at1 s t bin x l was beta alpha rate s.Bins = true ∧ s4_at1 s t bin x l was beta alpha rate s.Bins = true := by
    intro hf hll hw hbe hal hra
    obtain ⟨a1, a2, _⟩ := s20_ok s t bin x hs ht
    obtain ⟨b1, b2, _⟩ := s23_ok s t bin x l hs ht hl
    have hx := expd_ok hf
    have hp := hf.1.1.1
    have hbb := hf.1.1.2.2.1
    have haa := hf.1.1.2.2.2
    unfold p4_at1 s4_at1 p4_at2 s4_at2 p4_at3 s4_at3
    rw [show (⟨s.Parts, s.Bins, s.Beta, s.Alpha⟩ : Sky) = s from rfl, a1, b1, a2 hf, b2 ⟨hf, hll⟩]
    obtain ⟨x0, x1, x2⟩ := hx
    have r := at5_4 (x := expd s t bin x) (was := was) hf.1 ⟨x0, x1, x2⟩ hll hw (of_in s.Beta beta (by omega) (by omega) (by omega) hbe) (of_in s.Alpha alpha (by omega) (by omega) (by omega) hal) (of_in (expd s t bin x) rate (by omega) (by omega) (by omega) hra)
    simp only [decide_true, Bool.true_and, bne_self_eq_false, cond_false]
    rw [decide_eq_false (show ¬ (expd s t bin x).Low < 0 by omega), decide_eq_false (show ¬ (expd s t bin x).High > s.Parts by omega), decide_eq_false (show ¬ (expd s t bin x).Low > (expd s t bin x).High by omega)]
    unfold p4_at4 s4_at4
    have u1 : ∀ a b, p24 a b = true := fun _ _ => rfl
    rw [u1, u1, u1]
    simp only [decide_true, Bool.true_and, cond_false]
    exact r
  unfold p4 s4 p4_at0 s4_at0
  obtain ⟨c1, c2⟩ := s16_ok s hs
  obtain ⟨d1, d2⟩ := s17_ok t ht
  obtain ⟨f1, f2⟩ := s22_ok l hl
  obtain ⟨_, e1⟩ := s75_ok s hs
  obtain ⟨_, e2⟩ := s62_ok t ht
  obtain ⟨_, e3⟩ := s67_ok l hl
  rw [s15_p s t hs, c1, c2, d1, d2, f1, f2]
  cases s15 s t
  · exact ⟨rfl, rfl⟩
  by_cases g1 : (l.len : Int) > 20
  · rw [decide_eq_true g1]; exact ⟨rfl, rfl⟩
  rw [decide_eq_false g1]
  by_cases g2 : ¬ (was.len : Int) = (l.len : Int)
  · rw [show ((was.len : Int) != (l.len : Int)) = true by simpa using g2]; exact ⟨rfl, rfl⟩
  have g2 : (was.len : Int) = (l.len : Int) := Decidable.of_not_not g2
  rw [show ((was.len : Int) != (l.len : Int)) = false by simpa using g2]
  cases h1 : s75 s
  · exact ⟨rfl, rfl⟩
  cases h2 : s62 t
  · exact ⟨rfl, rfl⟩
  by_cases h3 : bin < 0
  · rw [decide_eq_true h3]; exact ⟨rfl, rfl⟩
  by_cases h4 : bin ≥ (s.Bins.len : Int)
  · rw [decide_eq_false h3, decide_eq_true h4]; exact ⟨rfl, rfl⟩
  by_cases h5 : x < 0
  · rw [decide_eq_false h3, decide_eq_false h4, decide_eq_true h5]; exact ⟨rfl, rfl⟩
  by_cases h6 : x > 1000000
  · rw [decide_eq_false h3, decide_eq_false h4, decide_eq_false h5, decide_eq_true h6]; exact ⟨rfl, rfl⟩
  rw [decide_eq_false h3, decide_eq_false h4, decide_eq_false h5, decide_eq_false h6]
  cases h7 : s67 l
  · exact ⟨rfl, rfl⟩
  by_cases i1 : beta < 0
  · rw [decide_eq_true i1]; exact ⟨rfl, rfl⟩
  by_cases i2 : beta > 100
  · rw [decide_eq_false i1, decide_eq_true i2]; exact ⟨rfl, rfl⟩
  rw [decide_eq_false i1, decide_eq_false i2]
  by_cases i1 : alpha < 0
  · rw [decide_eq_true i1]; exact ⟨rfl, rfl⟩
  by_cases i2 : alpha > 100
  · rw [decide_eq_false i1, decide_eq_true i2]; exact ⟨rfl, rfl⟩
  rw [decide_eq_false i1, decide_eq_false i2]
  by_cases i1 : rate < 0
  · rw [decide_eq_true i1]; exact ⟨rfl, rfl⟩
  by_cases i2 : rate > 100
  · rw [decide_eq_false i1, decide_eq_true i2]; exact ⟨rfl, rfl⟩
  rw [decide_eq_false i1, decide_eq_false i2]
  have := go (show Fine s t bin x from ⟨e1.1 h1, e2.1 h2, ⟨by omega, by omega⟩, ⟨by omega, by omega⟩⟩) (e3.1 h7) (by omega) (by omega) (by omega) (by omega)
  exact ⟨this.1, this.2⟩
end Go.Proofs
