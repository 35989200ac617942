/- Part 6 of what the proof rests on: a machine that runs functions of the program on pure values, proved sound; the functions that the law reaches, and what they compute. -/
import Derived.Test.YtpjoicpmbdaniaaQ5
set_option linter.all false
namespace Go.Proofs
open Go Go.Pm
set_option linter.unusedVariables false
theorem s26_ok (s : Sky) (t : Sl RangeRow) (bin : Int) (l : Sl Spell) (hs : SL s) (ht : t.len ≤ 9223372036854775807) (hl : l.len ≤ 9223372036854775807) : p26 s t bin l = true ∧ (Fine s t bin 0 ∧ LOk l → s26 s t bin l = (s70 s t bin l, 0)) ∧ (¬ (Fine s t bin 0 ∧ LOk l) → s26 s t bin l = (⟨0, fun _ => default⟩, 2)) := by
  obtain ⟨h1, h2⟩ := s65_ok s t bin 0 hs ht
  obtain ⟨e1, e2⟩ := s65_g s t bin 0
  obtain ⟨l1, l2⟩ := s67_ok l hl
  unfold p26 s26
  rw [h1, e1, e2, l1]
  by_cases h : Fine s t bin 0
  · rw [h2.2 h]
    by_cases hk : LOk l
    · rw [l2.2 hk, (s70_ok h hk).1]
      exact ⟨rfl, fun _ => rfl, fun h3 => absurd ⟨h, hk⟩ h3⟩
    · have h3 : s67 l = false := by
        cases e : s67 l
        · rfl
        · exact absurd (l2.1 e) hk
      rw [h3]
      exact ⟨rfl, fun h3 => absurd h3.2 hk, fun _ => rfl⟩
  · have h3 : (s65 s t bin 0).2 = false := by
      cases e : (s65 s t bin 0).2
      · rfl
      · exact absurd (h2.1 e) h
    rw [h3]
    exact ⟨rfl, fun h3 => absurd h3.1 h, fun _ => rfl⟩
def Agr (rates r : Span) : Prop := r.Low ≤ rates.High ∧ r.High ≥ rates.Low
theorem s71_eq (rates : Span) (x : FluxStep) : s71 rates x = true ↔ Agr rates x.Rate := by
  unfold s71 Agr
  simp only [Bool.cond_decide, Bool.if_false_right, Bool.and_eq_true, decide_eq_true_eq]
theorem cup_at {C : Sl FluxStep} {R : Int → Span} {b : Int} (hC : CUp C R b) {x : Int} (h0 : 0 ≤ x) : ∃ i, i < C.len ∧ (C.get i).From ≤ x ∧ (i + 1 < C.len → x < (C.get (i + 1)).From) := by
  obtain ⟨c0, c1, c2, c3, c4⟩ := hC
  have b1 : fst (fun i => decide ((C.get i).From > x)) C.len ≤ C.len := fst_le _ _
  have hlo : ∀ j, j < fst (fun i => decide ((C.get i).From > x)) C.len → (C.get j).From ≤ x := fun j hj => by have := of_decide_eq_false (fst_lo hj); omega
  have hhi : fst (fun i => decide ((C.get i).From > x)) C.len < C.len → (C.get (fst (fun i => decide ((C.get i).From > x)) C.len)).From > x := fun h => of_decide_eq_true (fst_hi (c := fun i => decide ((C.get i).From > x)) h)
  generalize fst (fun i => decide ((C.get i).From > x)) C.len = q at *
  have hq : 0 < q := by
    rcases Nat.eq_zero_or_pos q with h | h
    · have := hhi (by omega)
      rw [h, c1] at this; omega
    · exact h
  refine ⟨q - 1, by omega, hlo _ (by omega), fun h => ?_⟩
  rw [show q - 1 + 1 = q by omega] at h ⊢
  have := hhi h; omega
theorem cup_inc {C : Sl FluxStep} {R : Int → Span} {b : Int} (hC : CUp C R b) : ∀ d i, i + d < C.len → (C.get i).From + d ≤ (C.get (i + d)).From := by
  intro d
  induction d with
  | zero => intro i hi; show (C.get i).From + 0 ≤ _; simp
  | succ d ih =>
    intro i hi
    have h1 := ih i (by omega)
    have h2 := (hC.2.2.2.1 (i + d) (by omega)).1
    rw [show i + d + 1 = i + (d + 1) by omega] at h2
    omega
theorem cup_lt {C : Sl FluxStep} {R : Int → Span} {b : Int} (hC : CUp C R b) {i j : Nat} (hij : i < j) (hj : j < C.len) : (C.get i).From < (C.get j).From := by
  have := cup_inc hC (j - i) i (by omega)
  rw [show i + (j - i) = j by omega] at this
  omega
def OpOk (R : Int → Span) (rates : Span) (d : Span × Int) : Prop :=
  (d.2 = 0 ∧ (0 ≤ d.1.Low ∧ d.1.Low ≤ 1000000) ∧ ∀ x, 0 ≤ x → x ≤ 1000000 → (Agr rates (R x) ↔ d.1.Low ≤ x ∧ x ≤ d.1.High)) ∨ (d = (⟨0, 0⟩, 5) ∧ ∀ x, 0 ≤ x → x ≤ 1000000 → ¬ Agr rates (R x))
theorem s25_loop {C : Sl FluxStep} {R : Int → Span} (hC : CUp C R 1000001) (hl : C.len ≤ 82) (rates : Span) (i0 : Nat) (hi0 : i0 < C.len) (ha : Agr rates (C.get i0).Rate) :
    p25_at5 rates C (i0 : Int) = true ∧ ∃ k1, i0 ≤ k1 ∧ k1 < C.len ∧ (∀ k, i0 ≤ k → k ≤ k1 → Agr rates (C.get k).Rate) ∧ (k1 + 1 < C.len → ¬ Agr rates (C.get (k1 + 1)).Rate) ∧
      s25_at5 rates C (i0 : Int) = (⟨(C.get i0).From, if k1 + 1 < C.len then (C.get (k1 + 1)).From - 1 else 1000000⟩, 0) := by
  have hF : ∀ i, i < C.len → 0 ≤ (C.get i).From ∧ (C.get i).From ≤ 1000000 := fun i hi => by
    have h1 := hC.2.2.1 i hi
    have h2 := cup_inc hC i 0 (by omega)
    rw [Nat.zero_add, hC.2.1] at h2
    omega
  have key : ∀ (m q k : Nat) (o : Int), k + m = C.len → m < q → i0 < k → (∀ j, i0 ≤ j → j < k → Agr rates (C.get j).Rate) → o = (if k < C.len then (C.get k).From - 1 else 1000000) →
      p25_lp6 rates C (i0 : Int) q (k : Int) o = true ∧ ∃ k1, i0 ≤ k1 ∧ k1 < C.len ∧ (∀ k, i0 ≤ k → k ≤ k1 → Agr rates (C.get k).Rate) ∧ (k1 + 1 < C.len → ¬ Agr rates (C.get (k1 + 1)).Rate) ∧
        s25_lp6 rates C (i0 : Int) q (k : Int) o = (⟨(C.get i0).From, if k1 + 1 < C.len then (C.get (k1 + 1)).From - 1 else 1000000⟩, 0) := by
    intro m
    induction m with
    | zero =>
      intro q k o hk hq h0 hag ho
      obtain ⟨q, rfl⟩ : ∃ k', q = k' + 1 := ⟨q - 1, by omega⟩
      show p25_st6 rates C (i0 : Int) (p25_lp6 rates C (i0 : Int) q) _ _ = true ∧ ∃ k1, _ ∧ _ ∧ _ ∧ _ ∧ s25_st6 rates C (i0 : Int) (s25_lp6 rates C (i0 : Int) q) _ _ = _
      unfold p25_st6 s25_st6
      rw [decide_eq_false (show ¬ (k : Int) < (C.len : Int) by omega), Int.toNat_natCast]
      refine ⟨rfl, k - 1, by omega, by omega, fun j h1 h2 => hag j h1 (by omega), fun h => absurd h (by omega), ?_⟩
      rw [if_neg (by omega)] at ho
      rw [if_neg (show ¬ k - 1 + 1 < C.len by omega), ho]
      rfl
    | succ m ih =>
      intro q k o hk hq h0 hag ho
      obtain ⟨q, rfl⟩ : ∃ k', q = k' + 1 := ⟨q - 1, by omega⟩
      show p25_st6 rates C (i0 : Int) (p25_lp6 rates C (i0 : Int) q) _ _ = true ∧ ∃ k1, _ ∧ _ ∧ _ ∧ _ ∧ s25_st6 rates C (i0 : Int) (s25_lp6 rates C (i0 : Int) q) _ _ = _
      have hkl : k < C.len := by omega
      have e3 : w64 ((k : Int) + 1) = ((k + 1 : Nat) : Int) := by rw [w64_id (by omega) (by omega)]; omega
      unfold p25_st6 s25_st6
      rw [decide_eq_true (show (k : Int) < (C.len : Int) by omega), decide_eq_true (show 0 ≤ (k : Int) ∧ (k : Int) < (C.len : Int) by omega), Int.toNat_natCast, Int.toNat_natCast, e3, Int.toNat_natCast]
      cases hs : s71 rates (C.get k)
      · have hno : ¬ Agr rates (C.get k).Rate := fun h => absurd ((s71_eq rates _).2 h) (by rw [hs]; exact Bool.false_ne_true)
        refine ⟨rfl, k - 1, by omega, by omega, fun j h1 h2 => hag j h1 (by omega), fun _ => by rw [show k - 1 + 1 = k by omega]; exact hno, ?_⟩
        rw [if_pos hkl] at ho
        rw [if_pos (show k - 1 + 1 < C.len by omega), show k - 1 + 1 = k by omega, ho]
        rfl
      · have hyes := (s71_eq rates _).1 hs
        have hag2 : ∀ j, i0 ≤ j → j < k + 1 → Agr rates (C.get j).Rate := fun j h1 h2 => by
          by_cases e : j = k
          · rw [e]; exact hyes
          · exact hag j h1 (by omega)
        by_cases hn : k + 1 < C.len
        · have := hF (k + 1) hn
          have r := ih q (k + 1) ((C.get (k + 1)).From - 1) (by omega) (by omega) (by omega) hag2 (by rw [if_pos hn])
          rw [decide_eq_true (show ((k + 1 : Nat) : Int) < (C.len : Int) by omega), decide_eq_true (show 0 ≤ ((k + 1 : Nat) : Int) ∧ ((k + 1 : Nat) : Int) < (C.len : Int) by omega), w64_id (x := (C.get (k + 1)).From - 1) (by omega) (by omega)]
          exact r
        · have r := ih q (k + 1) 1000000 (by omega) (by omega) (by omega) hag2 (by rw [if_neg hn])
          rw [decide_eq_false (show ¬ ((k + 1 : Nat) : Int) < (C.len : Int) by omega)]
          exact r
  -- the first round
  obtain ⟨q, hq⟩ : ∃ k, Fuel = k + 1 := ⟨Fuel - 1, by simp only [Fuel]⟩
  have hq2 : 1000 < q := by have : Fuel = 1000000 + (Fuel - 1000000) := by simp only [Fuel]
                            omega
  have e3 : w64 ((i0 : Int) + 1) = ((i0 + 1 : Nat) : Int) := by rw [w64_id (by omega) (by omega)]; omega
  have hs : s71 rates (C.get i0) = true := (s71_eq rates _).2 ha
  have one : ∀ j, i0 ≤ j → j < i0 + 1 → Agr rates (C.get j).Rate := fun j h1 h2 => by rw [show j = i0 by omega]; exact ha
  unfold p25_at5 s25_at5 p25_at6 s25_at6
  rw [hq, decide_eq_true (show 0 ≤ (i0 : Int) ∧ (i0 : Int) < (C.len : Int) by omega)]
  show (true && p25_st6 rates C (i0 : Int) (p25_lp6 rates C (i0 : Int) q) _ _) = true ∧ ∃ k1, _ ∧ _ ∧ _ ∧ _ ∧ s25_st6 rates C (i0 : Int) (s25_lp6 rates C (i0 : Int) q) _ _ = _
  unfold p25_st6 s25_st6
  rw [decide_eq_true (show (i0 : Int) < (C.len : Int) by omega), decide_eq_true (show 0 ≤ (i0 : Int) ∧ (i0 : Int) < (C.len : Int) by omega), Int.toNat_natCast, hs, e3, Int.toNat_natCast]
  by_cases hn : i0 + 1 < C.len
  · have := hF (i0 + 1) hn
    have r := key (C.len - (i0 + 1)) q (i0 + 1) ((C.get (i0 + 1)).From - 1) (by omega) (by omega) (by omega) one (by rw [if_pos hn])
    rw [decide_eq_true (show ((i0 + 1 : Nat) : Int) < (C.len : Int) by omega), decide_eq_true (show 0 ≤ ((i0 + 1 : Nat) : Int) ∧ ((i0 + 1 : Nat) : Int) < (C.len : Int) by omega), w64_id (x := (C.get (i0 + 1)).From - 1) (by omega) (by omega)]
    exact r
  · have r := key (C.len - (i0 + 1)) q (i0 + 1) 1000000 (by omega) (by omega) (by omega) one (by rw [if_neg hn])
    rw [decide_eq_false (show ¬ ((i0 + 1 : Nat) : Int) < (C.len : Int) by omega)]
    exact r
theorem s72_eq (rates : Span) (C : Sl FluxStep) (hl : C.len ≤ 82) : p72 rates C = true ∧ s72 rates C = if fst (fun i => s71 rates (C.get i)) C.len < C.len then ((fst (fun i => s71 rates (C.get i)) C.len : Nat) : Int) else -1 := by
  have h := idx_loop (c := s71 rates) (lpS := s72_lp0 rates) (lpP := p72_lp0 rates) (fun _ _ _ _ => rfl) (fun _ _ _ _ => rfl) C (by omega)
  exact ⟨h.1, h.2⟩
theorem s25_curve {C : Sl FluxStep} {R : Int → Span} (hC : CUp C R 1000001) (hl : C.len ≤ 82) (rates : Span) (hm : ∀ x y, 0 ≤ x → x ≤ y → y ≤ 1000000 → (R y).Low ≤ (R x).Low ∧ (R y).High ≤ (R x).High) :
    p25_at3 rates C = true ∧ OpOk R rates (s25_at3 rates C) := by
  obtain ⟨i1, i2⟩ := s72_eq rates C hl
  have hF : ∀ i, i < C.len → 0 ≤ (C.get i).From ∧ (C.get i).From ≤ 1000000 := fun i hi => by
    have h1 := hC.2.2.1 i hi
    have h2 := cup_inc hC i 0 (by omega)
    rw [Nat.zero_add, hC.2.1] at h2
    omega
  have hR : ∀ i, i < C.len → (C.get i).Rate = R (C.get i).From := fun i hi => hC.2.2.2.2 _ (hF i hi).1 (by have := hF i hi; omega) i hi (Int.le_refl _) fun h => (hC.2.2.2.1 i h).1
  have hlo : ∀ j, j < fst (fun i => s71 rates (C.get i)) C.len → ¬ Agr rates (C.get j).Rate := fun j hj h => by
    have := fst_lo hj
    rw [(s71_eq rates _).2 h] at this; cases this
  have hhi : fst (fun i => s71 rates (C.get i)) C.len < C.len → Agr rates (C.get (fst (fun i => s71 rates (C.get i)) C.len)).Rate := fun h => (s71_eq rates _).1 (fst_hi (c := fun i => s71 rates (C.get i)) h)
  have b1 : fst (fun i => s71 rates (C.get i)) C.len ≤ C.len := fst_le _ _
  unfold p25_at3 s25_at3 p25_at4 s25_at4
  rw [i1, i2]
  generalize fst (fun i => s71 rates (C.get i)) C.len = i0 at *
  by_cases hi0 : i0 < C.len
  · rw [if_pos hi0, decide_eq_false (show ¬ (i0 : Int) < 0 by omega)]
    obtain ⟨r1, k1, r2, r3, r4, r5, r6⟩ := s25_loop hC hl rates i0 hi0 (hhi hi0)
    rw [r1, cond_false, r6]
    refine ⟨rfl, Or.inl ⟨rfl, hF i0 hi0, fun x x0 x1 => ?_⟩⟩
    obtain ⟨i, h1, h2, h3⟩ := cup_at hC x0
    have e := hC.2.2.2.2 x x0 (by omega) i h1 h2 h3
    show Agr rates (R x) ↔ (C.get i0).From ≤ x ∧ x ≤ (if k1 + 1 < C.len then (C.get (k1 + 1)).From - 1 else 1000000)
    rw [← e]
    constructor
    · intro ha
      have a1 : i0 ≤ i := by
        rcases Nat.lt_or_ge i i0 with h | h
        · exact absurd ha (hlo i h)
        · exact h
      have a2 : i ≤ k1 := by
        rcases Nat.lt_or_ge k1 i with h | h
        · have c := r5 (by omega)
          refine absurd ?_ c
          have hk := hR (k1 + 1) (by omega)
          have hi := hR i h1
          have h0 := hR i0 hi0
          have ha0 := r4 i0 (Nat.le_refl _) r2
          have f0 := hF i0 hi0
          have f1 := hF (k1 + 1) (by omega)
          have f2 := hF i h1
          have l1 := cup_lt hC (show i0 < k1 + 1 by omega) (by omega)
          have l2 : (C.get (k1 + 1)).From ≤ (C.get i).From := by
            by_cases ee : k1 + 1 = i
            · rw [ee]; exact Int.le_refl _
            · have := cup_lt hC (show k1 + 1 < i by omega) h1; omega
          have m1 := hm _ _ f0.1 (show (C.get i0).From ≤ (C.get (k1 + 1)).From by omega) f1.2
          have m2 := hm _ _ f1.1 l2 f2.2
          unfold Agr at *
          rw [hk]; rw [hi] at ha; rw [h0] at ha0
          omega
        · exact h
      constructor
      · by_cases ee : i0 = i
        · rw [ee]; exact h2
        · have := cup_lt hC (show i0 < i by omega) h1; omega
      · by_cases hn : k1 + 1 < C.len
        · rw [if_pos hn]
          by_cases ee : i = k1
          · have := h3 (by omega); rw [ee] at this; omega
          · have a := h3 (by omega)
            have : (C.get (i + 1)).From ≤ (C.get (k1 + 1)).From := by
              have := cup_lt hC (show i + 1 < k1 + 1 by omega) hn; omega
            omega
        · rw [if_neg hn]; exact x1
    · intro ⟨g1, g2⟩
      have a1 : i0 ≤ i := by
        rcases Nat.lt_or_ge i i0 with h | h
        · have a := h3 (by omega)
          have : (C.get (i + 1)).From ≤ (C.get i0).From := by
            by_cases ee : i + 1 = i0
            · rw [ee]; exact Int.le_refl _
            · have := cup_lt hC (show i + 1 < i0 by omega) hi0; omega
          omega
        · exact h
      have a2 : i ≤ k1 := by
        rcases Nat.lt_or_ge k1 i with h | h
        · rw [if_pos (by omega)] at g2
          have : (C.get (k1 + 1)).From ≤ (C.get i).From := by
            by_cases ee : k1 + 1 = i
            · rw [ee]; exact Int.le_refl _
            · have := cup_lt hC (show k1 + 1 < i by omega) h1; omega
          omega
        · exact h
      exact r4 i a1 a2
  · rw [if_neg hi0]
    refine ⟨rfl, Or.inr ⟨rfl, fun x x0 x1 ha => ?_⟩⟩
    obtain ⟨i, h1, h2, h3⟩ := cup_at hC x0
    rw [← hC.2.2.2.2 x x0 (by omega) i h1 h2 h3] at ha
    exact hlo i (by omega) ha
theorem rt_mono {s : Sky} {t : Sl RangeRow} {bin : Int} {l : Sl Spell} (hf : Fine s t bin 0) (hl : LOk l) : ∀ x y, 0 ≤ x → x ≤ y → y ≤ 1000000 → (rtV s t bin l y).Low ≤ (rtV s t bin l x).Low ∧ (rtV s t bin l y).High ≤ (rtV s t bin l x).High := by
  intro x y h1 h2 h3
  have hx : Fine s t bin x := ⟨hf.1, hf.2.1, hf.2.2.1, h1, by omega⟩
  obtain ⟨a, b⟩ := expd_mono hx h2
  exact mean_mono hf.1 hl a b
theorem s25_ok (s : Sky) (t : Sl RangeRow) (bin : Int) (rates : Span) (l : Sl Spell) (hs : SL s) (ht : t.len ≤ 9223372036854775807) (hl : l.len ≤ 9223372036854775807) : p25 s t bin rates l = true ∧
    ((Fine s t bin 0 ∧ LOk l) ∧ (0 ≤ rates.Low ∧ rates.Low ≤ rates.High ∧ rates.High ≤ s.Parts) → OpOk (rtV s t bin l) rates (s25 s t bin rates l)) ∧
    (¬ ((Fine s t bin 0 ∧ LOk l) ∧ (0 ≤ rates.Low ∧ rates.Low ≤ rates.High ∧ rates.High ≤ s.Parts)) → s25 s t bin rates l = (⟨0, 0⟩, 2)) := by
  obtain ⟨h1, h2⟩ := s65_ok s t bin 0 hs ht
  obtain ⟨e1, e2⟩ := s65_g s t bin 0
  obtain ⟨l1, l2⟩ := s67_ok l hl
  unfold p25 s25 p25_at0 s25_at0 p25_at1 s25_at1 p25_at2 s25_at2
  rw [h1, e1, e2, l1, s69_eq]
  by_cases h : Fine s t bin 0
  · rw [h2.2 h]
    by_cases hk : LOk l
    · obtain ⟨k1, k2, k3⟩ := s70_ok h hk
      rw [l2.2 hk, k1]
      by_cases hr : 0 ≤ rates.Low ∧ rates.Low ≤ rates.High ∧ rates.High ≤ s.Parts
      · rw [decide_eq_true hr]
        obtain ⟨c1, c2⟩ := s25_curve k2 k3 rates (rt_mono h hk)
        refine ⟨?_, fun _ => c2, fun h3 => absurd ⟨⟨h, hk⟩, hr⟩ h3⟩
        rw [c1]; rfl
      · rw [decide_eq_false hr]
        exact ⟨rfl, fun h3 => absurd h3.2 hr, fun _ => rfl⟩
    · have h3 : s67 l = false := by
        cases e : s67 l
        · rfl
        · exact absurd (l2.1 e) hk
      rw [h3]
      exact ⟨rfl, fun h3 => absurd h3.1.2 hk, fun _ => rfl⟩
  · have h3 : (s65 s t bin 0).2 = false := by
      cases e : (s65 s t bin 0).2
      · rfl
      · exact absurd (h2.1 e) h
    rw [h3]
    exact ⟨rfl, fun h3 => absurd h3.1.1 h, fun _ => rfl⟩
end Go.Proofs
namespace Go.Proofs
open Go Go.Pm
set_option linter.unusedVariables false
theorem at5_6 {C : Sl FluxStep} {R : Int → Span} (hC : CUp C R 1000001) (hl : C.len ≤ 82) {x : Int} (h0 : 0 ≤ x) (h1 : x ≤ 1000000) : p6_at5 x (R x).Low (R x).High C = true ∧ s6_at5 x (R x).Low (R x).High C = true := by
  have hC0 := hC.1
  have key : ∀ m q i a : Nat, i + m = C.len → m < q → a < i → (C.get a).From ≤ x → (∀ j, a < j → j < i → (C.get j).From > x) → p6_lp6 x (R x).Low (R x).High C q (a : Int) (i : Int) = true ∧ s6_lp6 x (R x).Low (R x).High C q (a : Int) (i : Int) = true := by
    intro m
    induction m with
    | zero =>
      intro q i a hi hq ha hf hn
      obtain ⟨q, rfl⟩ : ∃ k', q = k' + 1 := ⟨q - 1, by omega⟩
      show p6_st6 x (R x).Low (R x).High C (p6_lp6 x (R x).Low (R x).High C q) _ _ = true ∧ s6_st6 x (R x).Low (R x).High C (s6_lp6 x (R x).Low (R x).High C q) _ _ = true
      have e := hC.2.2.2.2 x h0 (by omega) a (by omega) hf (fun h => hn (a + 1) (by omega) (by omega))
      unfold p6_st6 s6_st6
      rw [decide_eq_false (show ¬ (i : Int) < (C.len : Int) by omega), decide_eq_true (show 0 ≤ (a : Int) ∧ (a : Int) < (C.len : Int) by omega), Int.toNat_natCast, Int.toNat_natCast, e]
      simp
    | succ m ih =>
      intro q i a hi hq ha hf hn
      obtain ⟨q, rfl⟩ : ∃ k', q = k' + 1 := ⟨q - 1, by omega⟩
      show p6_st6 x (R x).Low (R x).High C (p6_lp6 x (R x).Low (R x).High C q) _ _ = true ∧ s6_st6 x (R x).Low (R x).High C (s6_lp6 x (R x).Low (R x).High C q) _ _ = true
      have e3 : w64 ((i : Int) + 1) = ((i + 1 : Nat) : Int) := by rw [w64_id (by omega) (by omega)]; omega
      have e7 : w64 ((i : Int) - 1) = ((i - 1 : Nat) : Int) := by rw [w64_id (by omega) (by omega)]; omega
      obtain ⟨g1, g2⟩ := hC.2.2.2.1 (i - 1) (by omega)
      rw [show i - 1 + 1 = i by omega] at g1 g2
      have em : ((C.get i).Rate.Low == (C.get (i - 1)).Rate.Low) = false ∨ (((C.get i).Rate.Low == (C.get (i - 1)).Rate.Low) = true ∧ ((C.get i).Rate.High == (C.get (i - 1)).Rate.High) = false) := by
        by_cases a : (C.get i).Rate.Low = (C.get (i - 1)).Rate.Low
        · refine Or.inr ⟨by simp [a], ?_⟩
          by_cases b : (C.get i).Rate.High = (C.get (i - 1)).Rate.High
          · exact absurd (span_eq.2 ⟨a.symm, b.symm⟩) g2
          · simp [b]
        · exact Or.inl (by simp [a])
      unfold p6_st6 s6_st6
      rw [decide_eq_true (show (i : Int) < (C.len : Int) by omega), decide_eq_true (show 0 ≤ (i : Int) ∧ (i : Int) < (C.len : Int) by omega), Int.toNat_natCast, e7, decide_eq_true (show 0 ≤ ((i - 1 : Nat) : Int) ∧ ((i - 1 : Nat) : Int) < (C.len : Int) by omega), Int.toNat_natCast, decide_eq_false (show ¬ (C.get i).From ≤ (C.get (i - 1)).From by omega), e3]
      have fin : (cond (decide ((C.get i).From ≤ x)) (p6_lp6 x (R x).Low (R x).High C q (i : Int) ((i + 1 : Nat) : Int)) (p6_lp6 x (R x).Low (R x).High C q (a : Int) ((i + 1 : Nat) : Int))) = true ∧ (cond (decide ((C.get i).From ≤ x)) (s6_lp6 x (R x).Low (R x).High C q (i : Int) ((i + 1 : Nat) : Int)) (s6_lp6 x (R x).Low (R x).High C q (a : Int) ((i + 1 : Nat) : Int))) = true := by
        by_cases hx : (C.get i).From ≤ x
        · rw [decide_eq_true hx]
          exact ih q (i + 1) i (by omega) (by omega) (by omega) hx (fun j h1 h2 => by omega)
        · rw [decide_eq_false hx]
          exact ih q (i + 1) a (by omega) (by omega) (by omega) hf (fun j h1 h2 => by
            by_cases e : j = i
            · rw [e]; omega
            · exact hn j h1 (by omega))
      rcases em with em | ⟨em, en⟩
      · rw [em]; exact fin
      · rw [em, en]; exact fin
  exact key (C.len - 1) Fuel 1 0 (by omega) (by simp only [Fuel]; omega) (by omega) (by rw [hC.2.1]; exact h0) (fun j h1 h2 => by omega)
theorem law6 (s : Sky) (t : Sl RangeRow) (bin : Int) (l : Sl Spell) (x more : Int) (hs : SL s) (ht : t.len ≤ 9223372036854775807) (hl : l.len ≤ 9223372036854775807) : p6 s t bin l x more = true ∧ s6 s t bin l x more = true := by
  have go : Fine s t bin x → Fine s t bin more → x ≤ more → LOk l → p6_at1 s t bin l x more s.Bins = true ∧ s6_at1 s t bin l x more s.Bins = true := by
    intro hf hg hxm hll
    obtain ⟨a1, a2, _⟩ := s23_ok s t bin x l hs ht hl
    obtain ⟨b1, b2, _⟩ := s23_ok s t bin more l hs ht hl
    obtain ⟨c1, c2, _⟩ := s26_ok s t bin l hs ht hl
    have hf0 : Fine s t bin 0 := ⟨hf.1, hf.2.1, hf.2.2.1, by omega, by omega⟩
    obtain ⟨k1, k2, k3⟩ := s70_ok hf0 hll
    have hm := rt_mono hf0 hll x more hf.2.2.2.1 hxm hg.2.2.2.2
    have r := at5_6 k2 k3 hf.2.2.2.1 hf.2.2.2.2
    unfold p6_at1 s6_at1 p6_at2 s6_at2 p6_at3 s6_at3
    rw [show (⟨s.Parts, s.Bins, s.Beta, s.Alpha⟩ : Sky) = s from rfl, a1, b1, c1, a2 ⟨hf, hll⟩, b2 ⟨hg, hll⟩, c2 ⟨hf0, hll⟩]
    unfold p6_at4 s6_at4
    have em : ∀ y, meanV s (expd s t bin y) l = rtV s t bin l y := fun _ => rfl
    rw [em, em]
    generalize s70 s t bin l = C at *
    have hC0 := k2.1
    rw [decide_eq_false (show ¬ (rtV s t bin l more).Low > (rtV s t bin l x).Low by omega), decide_eq_false (show ¬ (rtV s t bin l more).High > (rtV s t bin l x).High by omega), k2.2.1, show ((C.len : Int) == 0) = false by simp; omega, decide_eq_true (show (0 : Int) ≤ 0 ∧ (0 : Int) < (C.len : Int) by omega)]
    simp only [decide_true, Bool.true_and, bne_self_eq_false, cond_false]
    exact r
  unfold p6 s6 p6_at0 s6_at0
  obtain ⟨c1, c2⟩ := s16_ok s hs
  obtain ⟨d1, d2⟩ := s17_ok t ht
  obtain ⟨f1, f2⟩ := s22_ok l hl
  obtain ⟨_, e1⟩ := s75_ok s hs
  obtain ⟨_, e2⟩ := s62_ok t ht
  obtain ⟨_, e3⟩ := s67_ok l hl
  rw [s15_p s t hs, c1, c2, d1, d2, f1, f2]
  cases s15 s t
  · exact ⟨rfl, rfl⟩
  by_cases g1 : (l.len : Int) > 20
  · rw [decide_eq_true g1]; exact ⟨rfl, rfl⟩
  rw [decide_eq_false g1]
  cases h1 : s75 s
  · exact ⟨rfl, rfl⟩
  cases h2 : s62 t
  · exact ⟨rfl, rfl⟩
  by_cases h3 : bin < 0
  · rw [decide_eq_true h3]; exact ⟨rfl, rfl⟩
  by_cases h4 : bin ≥ (s.Bins.len : Int)
  · rw [decide_eq_false h3, decide_eq_true h4]; exact ⟨rfl, rfl⟩
  rw [decide_eq_false h3, decide_eq_false h4]
  cases h7 : s67 l
  · exact ⟨rfl, rfl⟩
  by_cases h5 : x < 0
  · rw [decide_eq_true h5]; exact ⟨rfl, rfl⟩
  by_cases h8 : more < x
  · rw [decide_eq_false h5, decide_eq_true h8]; exact ⟨rfl, rfl⟩
  by_cases h6 : more > 1000000
  · rw [decide_eq_false h5, decide_eq_false h8, decide_eq_true h6]; exact ⟨rfl, rfl⟩
  rw [decide_eq_false h5, decide_eq_false h8, decide_eq_false h6]
  have hf : Fine s t bin x := ⟨e1.1 h1, e2.1 h2, ⟨by omega, by omega⟩, ⟨by omega, by omega⟩⟩
  have hg : Fine s t bin more := ⟨e1.1 h1, e2.1 h2, ⟨by omega, by omega⟩, ⟨by omega, by omega⟩⟩
  have := go hf hg (by omega) (e3.1 h7)
  exact ⟨this.1, this.2⟩
end Go.Proofs
