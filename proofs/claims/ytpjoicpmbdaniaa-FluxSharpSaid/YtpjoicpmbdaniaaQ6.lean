/- Part 6 of what the proof rests on: a machine that runs functions of the program on pure values, proved sound; the functions that the law reaches, and what they compute. -/
import Derived.Test.YtpjoicpmbdaniaaQ5
set_option linter.all false
namespace Go.Proofs
open Go Go.Pm
set_option linter.unusedVariables false
theorem fst_mono {c d : Nat → Bool} {n : Nat} (h : ∀ i, i < n → d i = true → c i = true) : fst c n ≤ fst d n := by
  rcases Nat.lt_or_ge (fst d n) (fst c n) with h1 | h1
  · have h2 := fst_lo h1
    have := fst_le c n
    rw [h _ (by omega) (fst_hi (by omega))] at h2
    cases h2
  · exact h1
def pmx (v : Nat → Int) : Nat → Int
  | 0 => 0
  | i + 1 => if v i > pmx v i then v i else pmx v i
theorem pmx_le (v : Nat → Int) {i j : Nat} (h : i ≤ j) : pmx v i ≤ pmx v j := by
  induction j with
  | zero => rw [show i = 0 by omega]; exact Int.le_refl _
  | succ j ih =>
    by_cases e : i = j + 1
    · rw [e]; exact Int.le_refl _
    · have := ih (by omega)
      show _ ≤ (if v j > pmx v j then v j else pmx v j)
      split <;> omega
def vR (t : Sl RangeRow) (n : Nature) (i : Nat) : Int := s24 (t.get i).Range (n.Ranges.get i)
theorem s24_in (s : Span) (p : Int) (h1 : -1000000 ≤ s.Low) (h2 : s.Low ≤ s.High) (h3 : s.High ≤ 1000000) (h4 : 0 ≤ p ∧ p ≤ 100) : s.Low ≤ s24 s p ∧ s24 s p ≤ s.High := by
  unfold s24
  have hm0 : 0 ≤ (s.High - s.Low) * p := Int.mul_nonneg (by omega) (by omega)
  have hm1 : (s.High - s.Low) * p ≤ (s.High - s.Low) * 100 := Int.mul_le_mul_of_nonneg_left h4.2 (by omega)
  rw [w64_id (x := s.High - s.Low) (by omega) (by omega), w64_id (x := (s.High - s.Low) * p) (by omega) (by omega), Int.tdiv_eq_ediv_of_nonneg hm0]
  generalize (s.High - s.Low) * p = m at hm0 hm1
  rw [w64_id (x := m / 100) (by omega) (by omega), w64_id (by omega) (by omega)]
  omega
def thru (t : Sl RangeRow) (n : Nature) (e : Int) : Int :=
  match n.Soon with
  | true => pmx (vR t n) (if fst (fun i => decide ((t.get i).Energy ≥ e)) t.len < t.len then fst (fun i => decide ((t.get i).Energy ≥ e)) t.len + 1 else t.len)
  | false => pmx (vR t n) (fst (fun i => decide ((t.get i).Energy > e)) t.len)
theorem s43_eq (t : Sl RangeRow) (n : Nature) (e : Int) (hk : TOk t) (hn : n.Ranges.len = t.len) : p43 t n e = true ∧ s43 t n e = thru t n e := by
  have hlen : (t.len : Int) ≤ 40 := hk.1.2
  have key : ∀ m k i : Nat, i + m = t.len → m < k → (∀ j, j < i → (t.get j).Energy ≤ e) →
      p43_lp0 t n e k (pmx (vR t n) i) i = true ∧ s43_lp0 t n e k (pmx (vR t n) i) i = thru t n e := by
    intro m
    induction m with
    | zero =>
      intro k i hi hm hj
      obtain ⟨k, rfl⟩ : ∃ k', k = k' + 1 := ⟨k - 1, by omega⟩
      show p43_st0 t n e (p43_lp0 t n e k) _ _ = true ∧ s43_st0 t n e (s43_lp0 t n e k) _ _ = _
      unfold p43_st0 s43_st0
      rw [decide_eq_false (by omega)]
      refine ⟨rfl, ?_⟩
      have e0 : i = t.len := by omega
      subst e0
      have e1 : fst (fun i => decide ((t.get i).Energy > e)) t.len = t.len := fst_uniq (Nat.le_refl _) (fun j h => decide_eq_false (by have := hj j h; omega)) (fun h => absurd h (by omega))
      unfold thru
      rw [e1]
      cases n.Soon
      · rfl
      · show _ = pmx (vR t n) (if _ then _ else _)
        by_cases h : fst (fun i => decide ((t.get i).Energy ≥ e)) t.len < t.len
        · rw [if_pos h]
          have h2 := of_decide_eq_true (fst_hi h)
          by_cases h3 : fst (fun i => decide ((t.get i).Energy ≥ e)) t.len + 1 = t.len
          · rw [h3]; rfl
          · have h4 := t_e hk (show fst (fun i => decide ((t.get i).Energy ≥ e)) t.len < t.len - 1 by omega) (by omega)
            have := hj (t.len - 1) (by omega)
            omega
        · rw [if_neg h]; rfl
    | succ m ih =>
      intro k i hi hm hj
      obtain ⟨k, rfl⟩ : ∃ k', k = k' + 1 := ⟨k - 1, by omega⟩
      show p43_st0 t n e (p43_lp0 t n e k) _ _ = true ∧ s43_st0 t n e (s43_lp0 t n e k) _ _ = _
      unfold p43_st0 s43_st0
      have e3 : w64 ((i : Int) + 1) = ((i + 1 : Nat) : Int) := by rw [w64_id (by omega) (by omega)]; omega
      rw [decide_eq_true (show (i : Int) < (t.len : Int) by omega), decide_eq_true (show 0 ≤ (i : Int) ∧ (i : Int) < (t.len : Int) by omega), decide_eq_true (show 0 ≤ (i : Int) ∧ (i : Int) < (n.Ranges.len : Int) by omega), Int.toNat_natCast]
      have e4 : p24 ((t.get i).Range) (n.Ranges.get i) = true := rfl
      have e5 : (if s24 ((t.get i).Range) (n.Ranges.get i) > pmx (vR t n) i then s24 ((t.get i).Range) (n.Ranges.get i) else pmx (vR t n) i) = pmx (vR t n) (i + 1) := rfl
      rw [e4, e5]
      simp only [cond_true, Bool.true_and, decide_true]
      unfold p43_at1 s43_at1
      rw [decide_eq_true (show 0 ≤ (i : Int) ∧ (i : Int) < (t.len : Int) by omega), Int.toNat_natCast, e3, Bool.true_and]
      by_cases hE : (t.get i).Energy > e
      · rw [decide_eq_true hE, cond_true, cond_true]
        have e1 : fst (fun i => decide ((t.get i).Energy > e)) t.len = i := fst_uniq (by omega) (fun j h => decide_eq_false (by have := hj j h; omega)) (fun h => decide_eq_true hE)
        unfold thru
        rw [e1]
        cases n.Soon
        · exact ⟨rfl, rfl⟩
        rw [cond_true, cond_true]
        by_cases h0 : i = 0
        · subst h0
          refine ⟨rfl, ?_⟩
          have e2 : fst (fun i => decide ((t.get i).Energy ≥ e)) t.len = 0 := fst_uniq (by omega) (fun j h => absurd h (by omega)) (fun h => decide_eq_true (by omega))
          show pmx (vR t n) (0 + 1) = pmx (vR t n) (if _ then _ else _)
          rw [e2, if_pos (by omega)]
        · have e6 : (((i : Nat) : Int) == 0) = false := by simp [h0]
          have e7 : w64 ((i : Int) - 1) = ((i - 1 : Nat) : Int) := by rw [w64_id (by omega) (by omega)]; omega
          rw [e6, e7, decide_eq_true (show 0 ≤ ((i - 1 : Nat) : Int) ∧ ((i - 1 : Nat) : Int) < (t.len : Int) by omega), Int.toNat_natCast]
          refine ⟨rfl, ?_⟩
          rw [cond_false]
          by_cases h1 : (t.get (i - 1)).Energy < e
          · have e2 : fst (fun i => decide ((t.get i).Energy ≥ e)) t.len = i := fst_uniq (by omega) (fun j h => decide_eq_false (by
                by_cases h2 : j = i - 1
                · rw [h2]; omega
                · have := t_e hk (show j < i - 1 by omega) (by omega); omega)) (fun h => decide_eq_true (by omega))
            rw [decide_eq_true h1]
            show _ = pmx (vR t n) (if _ then _ else _)
            rw [e2, if_pos (by omega)]; rfl
          · have e2 : fst (fun i => decide ((t.get i).Energy ≥ e)) t.len = i - 1 := fst_uniq (by omega) (fun j h => decide_eq_false (by
                have := t_e hk (show j < i - 1 by omega) (by omega)
                have := hj (i - 1) (by omega); omega)) (fun h => decide_eq_true (by omega))
            rw [decide_eq_false h1]
            show _ = pmx (vR t n) (if _ then _ else _)
            rw [e2, if_pos (by omega), show i - 1 + 1 = i by omega]; rfl
      · rw [decide_eq_false hE]
        exact ih k (i + 1) (by omega) (by omega) (fun j h => by
          by_cases h1 : j = i
          · rw [h1]; omega
          · exact hj j (by omega))
  have := key t.len Fuel 0 (by omega) (by simp only [Fuel]; omega) (fun j h => absurd h (by omega))
  exact this
theorem thru_le (t : Sl RangeRow) (n : Nature) {e f : Int} (h : e ≤ f) : thru t n e ≤ thru t n f := by
  unfold thru
  have h1 : fst (fun i => decide ((t.get i).Energy ≥ e)) t.len ≤ fst (fun i => decide ((t.get i).Energy ≥ f)) t.len := fst_mono fun i _ hi => decide_eq_true (by have := of_decide_eq_true hi; omega)
  have h2 : fst (fun i => decide ((t.get i).Energy > e)) t.len ≤ fst (fun i => decide ((t.get i).Energy > f)) t.len := fst_mono fun i _ hi => decide_eq_true (by have := of_decide_eq_true hi; omega)
  cases n.Soon
  · exact pmx_le _ h2
  · refine pmx_le _ ?_
    split <;> split <;> omega
def cand (t : Sl RangeRow) (a : Int) : Prop := a = 1 ∨ ∃ i, i < t.len ∧ (a = (t.get i).Energy ∨ a = (t.get i).Energy + 1)
theorem s21_ok (t : Sl RangeRow) (n : Nature) (x : Int) (hk : TOk t) (hn : n.Ranges.len = t.len) : p21 t n x = true ∧ 0 ≤ s21 t n x ∧ s21 t n x ≤ 1000001 ∧ (0 < s21 t n x → thru t n (s21 t n x) ≥ x ∧ cand t (s21 t n x)) ∧ (∀ a, cand t a → thru t n a ≥ x → 0 < s21 t n x ∧ s21 t n x ≤ a) := by
  have hlen : (t.len : Int) ≤ 40 := hk.1.2
  have hE : ∀ i, i < t.len → 1 ≤ (t.get i).Energy ∧ (t.get i).Energy ≤ 1000000 := fun i hi => (hk.2 i hi).1
  -- what is known ahead of round i: nothing earlier reaches x
  have key : ∀ m k i : Nat, i + m = t.len + 1 → m < k → (0 < i → thru t n 1 < x) → (∀ j, j < i → j < t.len → thru t n (t.get j).Energy < x) → (∀ j, j + 1 < i → thru t n ((t.get j).Energy + 1) < x) →
      p21_lp0 t n x k i = true ∧ ∀ r, r = s21_lp0 t n x k i → 0 ≤ r ∧ r ≤ 1000001 ∧ (0 < r → thru t n r ≥ x ∧ cand t r) ∧ (∀ a, cand t a → thru t n a ≥ x → 0 < r ∧ r ≤ a) := by
    intro m
    induction m with
    | zero =>
      intro k i hi hm h1 h2 h3
      obtain ⟨k, rfl⟩ : ∃ k', k = k' + 1 := ⟨k - 1, by omega⟩
      show p21_st0 t n x (p21_lp0 t n x k) _ = true ∧ ∀ r, r = s21_st0 t n x (s21_lp0 t n x k) _ → _
      unfold p21_st0 s21_st0
      rw [decide_eq_false (by omega)]
      refine ⟨rfl, fun r hr => ?_⟩
      rw [cond_false] at hr
      subst hr
      refine ⟨Int.le_refl _, by omega, fun h => absurd h (by omega), fun a ha hx => ?_⟩
      rcases ha with ha | ⟨j, hj, ha | ha⟩
      · have := h1 (by omega); rw [ha] at hx; omega
      · have := h2 j (by omega) hj; rw [ha] at hx; omega
      · have := h3 j (by omega); rw [ha] at hx; omega
    | succ m ih =>
      intro k i hi hm h1 h2 h3
      obtain ⟨k, rfl⟩ : ∃ k', k = k' + 1 := ⟨k - 1, by omega⟩
      show p21_st0 t n x (p21_lp0 t n x k) _ = true ∧ ∀ r, r = s21_st0 t n x (s21_lp0 t n x k) _ → _
      have e3 : w64 ((i : Int) + 1) = ((i + 1 : Nat) : Int) := by rw [w64_id (by omega) (by omega)]; omega
      have ihk := ih k (i + 1) (by omega) (by omega)
      -- a row's own energy, when all ahead of it is known
      have at3 : (thru t n 1 < x) → (∀ j, j + 1 ≤ i → thru t n ((t.get j).Energy + 1) < x) → p21_at3 (p21_lp0 t n x k) t n x i = true ∧ ∀ r, r = s21_at3 (s21_lp0 t n x k) t n x i → 0 ≤ r ∧ r ≤ 1000001 ∧ (0 < r → thru t n r ≥ x ∧ cand t r) ∧ (∀ a, cand t a → thru t n a ≥ x → 0 < r ∧ r ≤ a) := by
        intro g1 g3
        unfold p21_at3 s21_at3 p21_at4 s21_at4
        rw [e3]
        by_cases hl : i < t.len
        · rw [decide_eq_true (show (i : Int) < (t.len : Int) by omega), decide_eq_true (show 0 ≤ (i : Int) ∧ (i : Int) < (t.len : Int) by omega), Int.toNat_natCast, (s43_eq t n _ hk hn).1, (s43_eq t n _ hk hn).2]
          by_cases hx : thru t n (t.get i).Energy ≥ x
          · rw [decide_eq_true hx]
            refine ⟨rfl, fun r hr => ?_⟩
            rw [cond_true, cond_true] at hr
            subst hr
            have := hE i hl
            refine ⟨by omega, by omega, fun _ => ⟨hx, Or.inr ⟨i, hl, Or.inl rfl⟩⟩, fun a ha hax => ⟨by omega, ?_⟩⟩
            rcases ha with ha | ⟨j, hj, ha | ha⟩
            · rw [ha] at hax; omega
            · rw [ha] at hax
              rcases Nat.lt_or_ge j i with h | h
              · have := h2 j h hj; omega
              · by_cases e : i = j
                · rw [ha, e]; exact Int.le_refl _
                · have := t_e hk (show i < j by omega) hj; omega
            · rw [ha] at hax
              rcases Nat.lt_or_ge j i with h | h
              · have := g3 j h; omega
              · by_cases e : i = j
                · rw [ha, e]; omega
                · have := t_e hk (show i < j by omega) hj; omega
          · rw [decide_eq_false hx]
            obtain ⟨q1, q2⟩ := ihk (fun _ => g1) (fun j h hj => by
              by_cases e : j = i
              · rw [e]; omega
              · exact h2 j (by omega) hj) (fun j h => g3 j (by omega))
            exact ⟨by simpa using q1, fun r hr => q2 r (by simpa using hr)⟩
        · rw [decide_eq_false (show ¬ (i : Int) < (t.len : Int) by omega)]
          obtain ⟨q1, q2⟩ := ihk (fun _ => g1) (fun j h hj => h2 j (by omega) hj) (fun j h => g3 j (by omega))
          exact ⟨by simpa using q1, fun r hr => q2 r (by simpa using hr)⟩
      unfold p21_st0 s21_st0
      rw [decide_eq_true (show (i : Int) ≤ (t.len : Int) by omega), cond_true, cond_true]
      by_cases h0 : i = 0
      · subst h0
        rw [show (((0 : Nat) : Int) == 0) = true from rfl, cond_true, cond_true, (s43_eq t n _ hk hn).1, (s43_eq t n _ hk hn).2]
        unfold p21_at1 s21_at1
        by_cases hx : thru t n 1 ≥ x
        · rw [decide_eq_true hx]
          refine ⟨rfl, fun r hr => ?_⟩
          rw [cond_true] at hr
          subst hr
          refine ⟨by omega, by omega, fun _ => ⟨hx, Or.inl rfl⟩, fun a ha hax => ⟨by omega, ?_⟩⟩
          rcases ha with ha | ⟨j, hj, ha | ha⟩
          · omega
          · have := hE j hj; omega
          · have := hE j hj; omega
        · rw [decide_eq_false hx]
          obtain ⟨q1, q2⟩ := at3 (by omega) (fun j h => absurd h (by omega))
          exact ⟨by simpa using q1, fun r hr => q2 r (by simpa using hr)⟩
      · have e6 : (((i : Nat) : Int) == 0) = false := by simp [h0]
        have e7 : w64 ((i : Int) - 1) = ((i - 1 : Nat) : Int) := by rw [w64_id (by omega) (by omega)]; omega
        have hEi := hE (i - 1) (by omega)
        have e8 : w64 ((t.get (i - 1)).Energy + 1) = (t.get (i - 1)).Energy + 1 := w64_id (by omega) (by omega)
        have g1 := h1 (by omega)
        have g2 := h2 (i - 1) (by omega) (by omega)
        rw [e6, e7, decide_eq_true (show 0 ≤ ((i - 1 : Nat) : Int) ∧ ((i - 1 : Nat) : Int) < (t.len : Int) by omega), Int.toNat_natCast, e8, cond_false, cond_false, (s43_eq t n _ hk hn).1, (s43_eq t n _ hk hn).2, (s43_eq t n _ hk hn).1, (s43_eq t n _ hk hn).2, decide_eq_true g2]
        unfold p21_at2 s21_at2
        rw [e7, decide_eq_true (show 0 ≤ ((i - 1 : Nat) : Int) ∧ ((i - 1 : Nat) : Int) < (t.len : Int) by omega), Int.toNat_natCast, e8]
        by_cases hx : thru t n ((t.get (i - 1)).Energy + 1) ≥ x
        · rw [decide_eq_true hx]
          refine ⟨rfl, fun r hr => ?_⟩
          rw [cond_true, cond_true] at hr
          subst hr
          refine ⟨by omega, by omega, fun _ => ⟨hx, Or.inr ⟨i - 1, by omega, Or.inr rfl⟩⟩, fun a ha hax => ⟨by omega, ?_⟩⟩
          rcases ha with ha | ⟨j, hj, ha | ha⟩
          · rw [ha] at hax; omega
          · rw [ha] at hax
            rcases Nat.lt_or_ge j i with h | h
            · have := h2 j h hj; omega
            · have := t_e hk (show i - 1 < j by omega) hj; omega
          · rw [ha] at hax
            rcases Nat.lt_or_ge (j + 1) i with h | h
            · have := h3 j h; omega
            · by_cases e : i - 1 = j
              · rw [ha, e]; omega
              · have := t_e hk (show i - 1 < j by omega) hj; omega
        · rw [decide_eq_false hx]
          obtain ⟨q1, q2⟩ := at3 g1 (fun j h => by
            by_cases e : j = i - 1
            · rw [e]; omega
            · exact h3 j (by omega))
          exact ⟨by simpa using q1, fun r hr => q2 r (by simpa using hr)⟩
  have := key (t.len + 1) Fuel 0 (by omega) (by simp only [Fuel]; omega) (fun h => absurd h (by omega)) (fun j h => absurd h (by omega)) (fun j h => absurd h (by omega))
  exact ⟨this.1, this.2 _ rfl⟩
end Go.Proofs
namespace Go.Proofs
open Go Go.Pm
set_option linter.unusedVariables false
theorem pmx_up {v : Nat → Int} {m : Nat} (h0 : ∀ i, i < m → 0 ≤ v i) (h : ∀ i, i + 1 < m → v i ≤ v (i + 1)) : ∀ i, i < m → pmx v (i + 1) = v i := by
  intro i
  induction i with
  | zero =>
    intro hi
    have := h0 0 hi
    show (if v 0 > 0 then v 0 else 0) = v 0
    split <;> omega
  | succ i ih =>
    intro hi
    have h1 := ih (by omega)
    have h2 := h i hi
    show (if v (i + 1) > pmx v (i + 1) then v (i + 1) else pmx v (i + 1)) = v (i + 1)
    rw [h1]
    split <;> omega
theorem s24_0 (s : Span) (h1 : 0 ≤ s.Low) (h2 : s.Low ≤ s.High) (h3 : s.High ≤ 1000000) : s24 s 0 = s.Low := by
  unfold s24
  rw [Int.mul_zero, w64_id (x := (0 : Int)) (by omega) (by omega)]
  show w64 (s.Low + w64 0) = _
  rw [w64_id (x := (0 : Int)) (by omega) (by omega), w64_id (by omega) (by omega)]
  omega
theorem s24_100 (s : Span) (h1 : 0 ≤ s.Low) (h2 : s.Low ≤ s.High) (h3 : s.High ≤ 1000000) : s24 s 100 = s.High := by
  unfold s24
  rw [w64_id (x := s.High - s.Low) (by omega) (by omega), w64_id (x := (s.High - s.Low) * 100) (by omega) (by omega), Int.tdiv_eq_ediv_of_nonneg (by omega)]
  rw [w64_id (x := (s.High - s.Low) * 100 / 100) (by omega) (by omega), w64_id (by omega) (by omega)]
  omega
theorem row_in {t : Sl RangeRow} (hk : TOk t) {i : Nat} (hi : i < t.len) : 0 ≤ (t.get i).Range.Low ∧ (t.get i).Range.Low ≤ (t.get i).Range.High ∧ (t.get i).Range.High ≤ 1000000 := (hk.2 i hi).2.1
theorem worst_v {t : Sl RangeRow} (hk : TOk t) {n : Nature} (h : ∀ i, i < t.len → n.Ranges.get i = 0) : ∀ i, i < t.len → pmx (vR t n) (i + 1) = (t.get i).Range.Low := by
  have e : ∀ i, i < t.len → vR t n i = (t.get i).Range.Low := fun i hi => by
    have := row_in hk hi
    unfold vR
    rw [h i hi, s24_0 _ (by omega) (by omega) (by omega)]
  intro i hi
  rw [pmx_up (m := t.len) (fun i hi => by rw [e i hi]; exact (row_in hk hi).1) (fun i hi => by rw [e i (by omega), e (i + 1) hi]; exact t_low hk (Nat.le_succ i) hi) i hi, e i hi]
theorem best_v {t : Sl RangeRow} (hk : TOk t) {n : Nature} (h : ∀ i, i < t.len → n.Ranges.get i = 100) : ∀ i, i < t.len → pmx (vR t n) (i + 1) = (t.get i).Range.High := by
  have e : ∀ i, i < t.len → vR t n i = (t.get i).Range.High := fun i hi => by
    have := row_in hk hi
    unfold vR
    rw [h i hi, s24_100 _ (by omega) (by omega) (by omega)]
  intro i hi
  rw [pmx_up (m := t.len) (fun i hi => by have := row_in hk hi; rw [e i hi]; omega) (fun i hi => by rw [e i (by omega), e (i + 1) hi]; exact t_high hk (Nat.le_succ i) hi) i hi, e i hi]
theorem late3 {t : Sl RangeRow} (hk : TOk t) {n : Nature} (x : Int) (hx : 1 ≤ x) (hn : n.Ranges.len = t.len) (h : ∀ i, i < t.len → n.Ranges.get i = 0) (hs : n.Soon = false) :
    p21 t n x = true ∧ s21 t n x = if kL t x < t.len then (t.get (kL t x)).Energy else 0 := by
  obtain ⟨h1, h2, h3, h4, h5⟩ := s21_ok t n x hk hn
  refine ⟨h1, ?_⟩
  have b : kL t x ≤ t.len := fst_le _ _
  have lo : ∀ j, j < kL t x → (t.get j).Range.Low < x := fun j h => by have := of_decide_eq_false (fst_lo (c := fun i => decide ((t.get i).Range.Low ≥ x)) (n := t.len) h); omega
  have hv := worst_v hk h
  have ht : ∀ e, thru t n e = pmx (vR t n) (fst (fun i => decide ((t.get i).Energy > e)) t.len) := fun e => by unfold thru; rw [hs]
  have up : 0 < s21 t n x → kL t x < t.len ∧ (t.get (kL t x)).Energy ≤ s21 t n x := by
    intro h0
    have h6 := (h4 h0).1
    rw [ht] at h6
    generalize hq : fst (fun i => decide ((t.get i).Energy > s21 t n x)) t.len = q at h6
    have hq1 : q ≤ t.len := by rw [← hq]; exact fst_le _ _
    cases q with
    | zero => exact absurd h6 (by show ¬ (0 : Int) ≥ x; omega)
    | succ q =>
      rw [hv q (by omega)] at h6
      have h7 : kL t x ≤ q := by
        rcases Nat.lt_or_ge q (kL t x) with h | h
        · have := lo q h; omega
        · exact h
      have h8 := of_decide_eq_false (fst_lo (c := fun i => decide ((t.get i).Energy > s21 t n x)) (n := t.len) (j := kL t x) (by omega))
      exact ⟨by omega, by omega⟩
  by_cases hl : kL t x < t.len
  · rw [if_pos hl]
    have hx2 : thru t n (t.get (kL t x)).Energy ≥ x := by
      rw [ht]
      have hge : kL t x + 1 ≤ fst (fun i => decide ((t.get i).Energy > (t.get (kL t x)).Energy)) t.len := by
        rcases Nat.lt_or_ge (fst (fun i => decide ((t.get i).Energy > (t.get (kL t x)).Energy)) t.len) (kL t x + 1) with h | h
        · have h9 := of_decide_eq_true (fst_hi (c := fun i => decide ((t.get i).Energy > (t.get (kL t x)).Energy)) (n := t.len) (by omega))
          generalize fst (fun i => decide ((t.get i).Energy > (t.get (kL t x)).Energy)) t.len = q at h h9
          by_cases e : q = kL t x
          · rw [e] at h9; omega
          · have := t_e hk (show q < kL t x by omega) hl; omega
        · exact h
      have := pmx_le (vR t n) hge
      rw [hv _ hl] at this
      have := of_decide_eq_true (fst_hi (c := fun i => decide ((t.get i).Range.Low ≥ x)) hl)
      show x ≤ _
      have h10 : (t.get (kL t x)).Range.Low ≥ x := this
      omega
    obtain ⟨h11, h12⟩ := h5 _ (Or.inr ⟨_, hl, Or.inl rfl⟩) hx2
    have := (up h11).2
    omega
  · rw [if_neg hl]
    rcases Int.lt_or_le 0 (s21 t n x) with h | h
    · exact absurd (up h).1 hl
    · omega
theorem early3 {t : Sl RangeRow} (hk : TOk t) {n : Nature} (x : Int) (hx : 1 ≤ x) (hn : n.Ranges.len = t.len) (h : ∀ i, i < t.len → n.Ranges.get i = 100) (hs : n.Soon = true) :
    p21 t n x = true ∧ s21 t n x = if kH t x < t.len then thrL t x else 0 := by
  obtain ⟨h1, h2, h3, h4, h5⟩ := s21_ok t n x hk hn
  refine ⟨h1, ?_⟩
  have hlen := hk.1.1
  have b : kH t x ≤ t.len := fst_le _ _
  have lo : ∀ j, j < kH t x → (t.get j).Range.High < x := fun j h => by have := of_decide_eq_false (fst_lo (c := fun i => decide ((t.get i).Range.High ≥ x)) (n := t.len) h); omega
  have hv := best_v hk h
  have ht : ∀ e, thru t n e = pmx (vR t n) (if fst (fun i => decide ((t.get i).Energy ≥ e)) t.len < t.len then fst (fun i => decide ((t.get i).Energy ≥ e)) t.len + 1 else t.len) := fun e => by unfold thru; rw [hs]
  have up : 0 < s21 t n x → kH t x < t.len ∧ thrL t x ≤ s21 t n x := by
    intro h0
    have h6 := (h4 h0).1
    rw [ht] at h6
    generalize hq : fst (fun i => decide ((t.get i).Energy ≥ s21 t n x)) t.len = q at h6
    have hq1 : q ≤ t.len := by rw [← hq]; exact fst_le _ _
    have h7 : kH t x < t.len ∧ kH t x ≤ q := by
      by_cases hc : q < t.len
      · rw [if_pos hc, hv q hc] at h6
        rcases Nat.lt_or_ge q (kH t x) with h | h
        · have := lo q h; omega
        · exact ⟨by omega, h⟩
      · rw [if_neg hc, show t.len = t.len - 1 + 1 by omega, hv (t.len - 1) (by omega)] at h6
        rcases Nat.lt_or_ge (t.len - 1) (kH t x) with h | h
        · have := lo (t.len - 1) h; omega
        · exact ⟨by omega, by omega⟩
    refine ⟨h7.1, ?_⟩
    unfold thrL
    by_cases hc : 0 < kH t x
    · rw [if_pos hc]
      have h8 := of_decide_eq_false (fst_lo (c := fun i => decide ((t.get i).Energy ≥ s21 t n x)) (n := t.len) (j := kH t x - 1) (by omega))
      omega
    · rw [if_neg hc]; omega
  by_cases hl : kH t x < t.len
  · rw [if_pos hl]
    have hhi : (t.get (kH t x)).Range.High ≥ x := of_decide_eq_true (fst_hi (c := fun i => decide ((t.get i).Range.High ≥ x)) hl)
    have hc : cand t (thrL t x) := by
      unfold thrL
      by_cases hc : 0 < kH t x
      · rw [if_pos hc]; exact Or.inr ⟨kH t x - 1, by omega, Or.inr rfl⟩
      · rw [if_neg hc]; exact Or.inl rfl
    have hx2 : thru t n (thrL t x) ≥ x := by
      rw [ht]
      have hge : kH t x ≤ fst (fun i => decide ((t.get i).Energy ≥ thrL t x)) t.len := by
        rcases Nat.lt_or_ge (fst (fun i => decide ((t.get i).Energy ≥ thrL t x)) t.len) (kH t x) with h | h
        · have h9 := of_decide_eq_true (fst_hi (c := fun i => decide ((t.get i).Energy ≥ thrL t x)) (n := t.len) (by omega))
          generalize fst (fun i => decide ((t.get i).Energy ≥ thrL t x)) t.len = q at h h9
          unfold thrL at h9
          rw [if_pos (by omega)] at h9
          by_cases e : q = kH t x - 1
          · rw [e] at h9; omega
          · have := t_e hk (show q < kH t x - 1 by omega) (by omega); omega
        · exact h
      have hge2 : kH t x + 1 ≤ (if fst (fun i => decide ((t.get i).Energy ≥ thrL t x)) t.len < t.len then fst (fun i => decide ((t.get i).Energy ≥ thrL t x)) t.len + 1 else t.len) := by
        split <;> omega
      have := pmx_le (vR t n) hge2
      rw [hv _ hl] at this
      omega
    obtain ⟨h11, h12⟩ := h5 _ hc hx2
    have := (up h11).2
    omega
  · rw [if_neg hl]
    rcases Int.lt_or_le 0 (s21 t n x) with h | h
    · exact absurd (up h).1 hl
    · omega
theorem app_all {f : Nat → Int} {c : Int} {n : Nat} (h : ∀ j, j < n → f j = c) : ∀ j, j < n + 1 → appT n f (fun _ => c) j = c := by
  intro j hj
  unfold appT
  cases e : Nat.ble n j
  · exact h j (by have := mt Nat.ble_eq_true_of_le (by rw [e]; exact Bool.false_ne_true : ¬ Nat.ble n j = true); omega)
  · rfl
theorem at13_3 (l : Sl FluxRow) {parts : Int} (hk : BOk parts l) (x0 x1 late early : Int) (h0 : 0 ≤ late) (h1 : 1 ≤ early) (e0 : x0 = abvL l (if late = 0 then -1 else late)) (e1 : x1 = abvH l early) :
    p3_at12 l x0 x1 late early = true ∧ s3_at12 l x0 x1 late early = true := by
  have hn : l.len ≤ 9223372036854775807 := by have := hk.1.2; omega
  have hf : ∀ a, p3_at14 l x0 x1 early a = true ∧ s3_at14 l x0 x1 early a = s3_at16 x0 x1 a (abvH l early) := by
    intro a
    have hf := fwd_loop (c := fun i => decide ((l.get i).Energy ≤ early)) (v := fun i => (l.get i).Rate.High) (E := fun b => s3_at16 x0 x1 a b) (EP := fun b => true) (n := l.len) (lpS := fun k i b => s3_lp15 l x0 x1 early k a b i) (lpP := fun k i b => p3_lp15 l x0 x1 early k a b i)
      (by
        intro k i b hi
        show s3_st15 l x0 x1 early (s3_lp15 l x0 x1 early k) a b i = _
        unfold s3_st15
        rw [decide_eq_true (by omega), Int.toNat_natCast]; rfl)
      (by
        intro k b
        show s3_st15 l x0 x1 early (s3_lp15 l x0 x1 early k) a b _ = _
        unfold s3_st15
        rw [decide_eq_false (by omega)]; rfl)
      (by
        intro k i b hi
        show p3_st15 l x0 x1 early (p3_lp15 l x0 x1 early k) a b i = _
        unfold p3_st15
        have e4 : decide (0 ≤ (i : Int) ∧ (i : Int) < (l.len : Int)) = true := decide_eq_true (by omega)
        rw [decide_eq_true (by omega), e4, Int.toNat_natCast]
        simp only [Bool.true_and, cond_true])
      (by
        intro k b
        show p3_st15 l x0 x1 early (p3_lp15 l x0 x1 early k) a b _ = _
        unfold p3_st15
        rw [decide_eq_false (by omega)]; rfl) hn 0
    have hl : lastF (fun i => decide ((l.get i).Energy ≤ early)) (fun i => (l.get i).Rate.High) l.len 0 = abvH l early := by
      rw [last_fst (d := fun i => decide ((l.get i).Energy > early)) (fun i hi => by
          show decide ((l.get i).Energy > early) = !decide ((l.get i).Energy ≤ early)
          rw [← decide_not]; exact decide_eq_decide.2 (by omega)) (fun i j h1 h2 h3 => by
          have := of_decide_eq_true h3
          by_cases e : i = j
          · exact decide_eq_true (by rw [← e]; omega)
          · have := b_e hk (show i < j by omega) h2
            exact decide_eq_true (by omega))]
      unfold abvH
      show (if 0 < jL l early then (l.get (jL l early - 1)).Rate.High else 0) = _
      have h : 0 < jL l early := by
        have b1 : jL l early ≤ l.len := fst_le _ _
        have := hk.1.1
        rcases Nat.eq_zero_or_pos (jL l early) with h | h
        · have := of_decide_eq_true (fst_hi (c := fun i => decide ((l.get i).Energy > early)) (n := l.len) (show jL l early < l.len by omega))
          have h2 : fst (fun i => decide ((l.get i).Energy > early)) l.len = 0 := h
          rw [h2, hk.2.1] at this
          omega
        · exact h
      rw [if_pos h, if_pos h]
    rw [hl] at hf
    exact ⟨hf.1, hf.2⟩
  have fin : s3_at16 x0 x1 x0 x1 = true := by unfold s3_at16; simp
  unfold p3_at12 s3_at12
  by_cases hz : late = 0
  · rw [if_pos hz] at e0
    have e00 : x0 = 0 := by rw [e0]; unfold abvL; rw [if_pos rfl]
    have fin0 : s3_at16 x0 x1 0 x1 = true := by unfold s3_at16; simp [e00]
    obtain ⟨k, hkk⟩ : ∃ k, Fuel = k + 1 := ⟨Fuel - 1, by simp only [Fuel]⟩
    unfold p3_at13 s3_at13
    rw [hkk]
    show p3_st13 l x0 x1 late early (p3_lp13 l x0 x1 late early k) _ _ = true ∧ s3_st13 l x0 x1 late early (s3_lp13 l x0 x1 late early k) _ _ = true
    unfold p3_st13 s3_st13
    rw [decide_eq_false (show ¬ late > 0 by omega), (hf 0).1, (hf 0).2, ← e1]
    cases decide (w64 ((l.len : Int) - 1) ≥ 0) <;> exact ⟨rfl, fin0⟩
  · rw [if_neg hz] at e0
    have hb := bwd_loop (γ := Bool) (c := fun i => decide ((l.get i).Energy ≥ late)) (v := fun i => (l.get i).Rate.Low) (E := fun b => s3_at14 l x0 x1 early b) (EP := fun b => p3_at14 l x0 x1 early b) (n := l.len) (lpS := fun k i b => s3_lp13 l x0 x1 late early k b i) (lpP := fun k i b => p3_lp13 l x0 x1 late early k b i)
      (by
        intro k i b hi
        show s3_st13 l x0 x1 late early (s3_lp13 l x0 x1 late early k) b i = _
        unfold s3_st13
        rw [decide_eq_true (show (i : Int) ≥ 0 by omega), decide_eq_true (show late > 0 by omega), Int.toNat_natCast]; rfl)
      (by
        intro k b
        show s3_st13 l x0 x1 late early (s3_lp13 l x0 x1 late early k) b (-1) = _
        unfold s3_st13
        rw [decide_eq_false (by omega)]; rfl)
      (by
        intro k i b hi
        show p3_st13 l x0 x1 late early (p3_lp13 l x0 x1 late early k) b i = _
        unfold p3_st13
        have e4 : decide (0 ≤ (i : Int) ∧ (i : Int) < (l.len : Int)) = true := decide_eq_true (by omega)
        rw [decide_eq_true (show (i : Int) ≥ 0 by omega), decide_eq_true (show late > 0 by omega), e4, Int.toNat_natCast]
        simp only [Bool.true_and, cond_true])
      (by
        intro k b
        show p3_st13 l x0 x1 late early (p3_lp13 l x0 x1 late early k) b (-1) = _
        unfold p3_st13
        rw [decide_eq_false (by omega)]; rfl) hn 0
    have ea : (if fst (fun i => decide ((l.get i).Energy ≥ late)) l.len < l.len then (l.get (fst (fun i => decide ((l.get i).Energy ≥ late)) l.len)).Rate.Low else 0) = x0 := by
      rw [e0]; unfold abvL; rw [if_neg (show ¬ late = -1 by omega)]; rfl
    rw [ea, (hf _).1, (hf _).2, ← e1] at hb
    exact ⟨hb.1, hb.2.trans fin⟩
theorem go3 {s : Sky} {t : Sl RangeRow} {bin x : Int} (hs : SL s) (ht : t.len ≤ 9223372036854775807) (hf : Fine s t bin x) (hx : 1 ≤ x) : p3_at1 s t bin x s.Bins = true ∧ s3_at1 s t bin x s.Bins = true := by
  have hk := hf.2.1
  have hlen := hk.1
  have hb := hf.b
  have hx0 : ¬ x = 0 := by omega
  unfold p3_at1 s3_at1 p3_at2 s3_at2 p3_at3 s3_at3
  obtain ⟨a1, a2, _⟩ := s19_ok t x ht
  obtain ⟨b1, b2, _⟩ := s20_ok s t bin x hs ht
  rw [show (⟨s.Parts, s.Bins, s.Beta, s.Alpha⟩ : Sky) = s from rfl, decide_eq_true hf.2.2.1, a1, b1, a2 ⟨hk, hf.2.2.2⟩, b2 hf]
  have et : thr t x = ⟨thrL t x, thrH t x⟩ := by unfold thr; rw [if_neg hx0]
  have ee : expd s t bin x = ⟨abvL (s.Bins.get bin.toNat) (thrH t x), abvH (s.Bins.get bin.toNat) (thrL t x)⟩ := by unfold expd; rw [et]; rfl
  rw [et, ee]
  simp only [decide_true, Bool.true_and, bne_self_eq_false, cond_false]
  generalize hl : s.Bins.get bin.toNat = l
  rw [hl] at hb
  generalize hx0 : abvL l (thrH t x) = x0
  generalize hx1 : abvH l (thrL t x) = x1
  have hlenb := hb.1
  -- behind the lists
  have at8 : ∀ u v w z : Sl Int, u.len = t.len → (∀ j, j < t.len → u.get j = 0) → v.len = t.len → (∀ j, j < t.len → v.get j = 100) → p3_at8 t x l (thrL t x) (thrH t x) x0 x1 u v w z = true ∧ s3_at8 t x l (thrL t x) (thrH t x) x0 x1 u v w z = true := by
    intro u v w z hu hu0 hv hv0
    obtain ⟨l1, l2⟩ := late3 hk (n := ⟨u, w, false⟩) x hx hu hu0 rfl
    obtain ⟨f1, f2⟩ := early3 hk (n := ⟨v, z, true⟩) x hx hv hv0 rfl
    unfold p3_at8 s3_at8
    rw [l1, f1, l2, f2]
    have b1 : kH t x ≤ t.len := fst_le _ _
    have b2 : kL t x ≤ t.len := fst_le _ _
    have hE : ∀ i, i < t.len → 1 ≤ (t.get i).Energy ∧ (t.get i).Energy ≤ 1000000 := fun i hi => (hk.2 i hi).1
    have hthr : 1 ≤ thrL t x := by
      unfold thrL; by_cases h : 0 < kH t x
      · rw [if_pos h]; have := hE (kH t x - 1) (by omega); omega
      · rw [if_neg h]; omega
    have h10 : ∀ late, 0 ≤ late → x0 = abvL l (if late = 0 then -1 else late) → p3_at10 t l (thrL t x) (thrH t x) x0 x1 late (if kH t x < t.len then thrL t x else 0) = true ∧ s3_at10 t l (thrL t x) (thrH t x) x0 x1 late (if kH t x < t.len then thrL t x else 0) = true := by
      intro late h0 e0
      obtain ⟨r1, r2⟩ := at13_3 l hb x0 x1 late (thrL t x) h0 hthr e0 hx1.symm
      have h11 : p3_at11 l (thrL t x) (thrH t x) x0 x1 late (thrL t x) = true ∧ s3_at11 l (thrL t x) (thrH t x) x0 x1 late (thrL t x) = true := by
        unfold p3_at11 s3_at11
        rw [show (thrL t x != thrL t x) = false by simp]
        exact ⟨r1, r2⟩
      unfold p3_at10 s3_at10
      by_cases hc : kH t x < t.len
      · rw [if_pos hc, show (thrL t x == 0) = false by simp; omega]
        exact h11
      · rw [if_neg hc]
        have e : w64 ((t.get ((w64 ((t.len : Int) - 1)).toNat)).Energy + 1) = thrL t x := by
          have h := hE (t.len - 1) (by omega)
          rw [w64_id (x := (t.len : Int) - 1) (by omega) (by omega), show ((t.len : Int) - 1).toNat = t.len - 1 by omega, w64_id (by omega) (by omega)]
          unfold thrL
          rw [if_pos (by omega), show kH t x = t.len by omega]
        rw [e, w64_id (x := (t.len : Int) - 1) (by omega) (by omega), decide_eq_true (show 0 ≤ (t.len : Int) - 1 ∧ (t.len : Int) - 1 < (t.len : Int) by omega)]
        exact h11
    unfold p3_at9 s3_at9
    by_cases hc : kL t x < t.len
    · have hh : thrH t x = (t.get (kL t x)).Energy := by unfold thrH; rw [if_pos hc]
      have h := hE _ hc
      rw [if_pos hc, show ((t.get (kL t x)).Energy == 0) = false by simp; omega, decide_eq_true (show (t.get (kL t x)).Energy > 0 by omega), show (thrH t x != (t.get (kL t x)).Energy) = false by simp [hh]]
      exact h10 _ (by omega) (by rw [if_neg (by omega), ← hh]; exact hx0.symm)
    · have hh : thrH t x = -1 := by unfold thrH; rw [if_neg hc]
      rw [if_neg hc, show (thrH t x != -1) = false by simp [hh]]
      exact h10 0 (Int.le_refl _) (by rw [if_pos rfl, ← hh]; exact hx0.symm)
  have at6 : ∀ u v : Sl Int, u.len = t.len → (∀ j, j < t.len → u.get j = 0) → v.len = t.len → (∀ j, j < t.len → v.get j = 100) → p3_at6 t x l (thrL t x) (thrH t x) x0 x1 u v = true ∧ s3_at6 t x l (thrL t x) (thrH t x) x0 x1 u v = true := by
    intro u v hu hu0 hv hv0
    have key : ∀ (m k i : Nat) (w z : Sl Int), i + m = l.len → m < k → w.len = i → z.len = i →
        p3_lp7 t x l (thrL t x) (thrH t x) x0 x1 u v k i w z = true ∧ s3_lp7 t x l (thrL t x) (thrH t x) x0 x1 u v k i w z = true := by
      intro m
      induction m with
      | zero =>
        intro k i w z hi hm hw hz
        obtain ⟨k, rfl⟩ : ∃ k', k = k' + 1 := ⟨k - 1, by omega⟩
        show p3_st7 t x l (thrL t x) (thrH t x) x0 x1 u v (p3_lp7 t x l (thrL t x) (thrH t x) x0 x1 u v k) i w z = true ∧ s3_st7 t x l (thrL t x) (thrH t x) x0 x1 u v (s3_lp7 t x l (thrL t x) (thrH t x) x0 x1 u v k) i w z = true
        unfold p3_st7 s3_st7
        rw [decide_eq_false (by omega)]
        exact at8 u v w z hu hu0 hv hv0
      | succ m ih =>
        intro k i w z hi hm hw hz
        obtain ⟨k, rfl⟩ : ∃ k', k = k' + 1 := ⟨k - 1, by omega⟩
        show p3_st7 t x l (thrL t x) (thrH t x) x0 x1 u v (p3_lp7 t x l (thrL t x) (thrH t x) x0 x1 u v k) i w z = true ∧ s3_st7 t x l (thrL t x) (thrH t x) x0 x1 u v (s3_lp7 t x l (thrL t x) (thrH t x) x0 x1 u v k) i w z = true
        unfold p3_st7 s3_st7
        have e3 : w64 ((i : Int) + 1) = ((i + 1 : Nat) : Int) := by rw [w64_id (by omega) (by omega)]; omega
        rw [decide_eq_true (show (i : Int) < (l.len : Int) by omega), e3, decide_eq_true (show (w.len + 1) * 8 ≤ 140737488355328 ∧ w.len + 1 ≤ 9223372036854775807 by omega), decide_eq_true (show (z.len + 1) * 8 ≤ 140737488355328 ∧ z.len + 1 ≤ 9223372036854775807 by omega)]
        have := ih k (i + 1) ⟨w.len + 1, appT w.len w.get (fun _ => 0)⟩ ⟨z.len + 1, appT z.len z.get (fun _ => 100)⟩ (by omega) (by omega) (by show w.len + 1 = _; omega) (by show z.len + 1 = _; omega)
        exact ⟨this.1, this.2⟩
    exact key l.len Fuel 0 _ _ (by omega) (by simp only [Fuel]; omega) rfl rfl
  have key : ∀ (m k i : Nat) (w z : Sl Int), i + m = t.len → m < k → w.len = i → (∀ j, j < i → w.get j = 0) → z.len = i → (∀ j, j < i → z.get j = 100) →
      p3_lp5 t x l (thrL t x) (thrH t x) x0 x1 k i w z = true ∧ s3_lp5 t x l (thrL t x) (thrH t x) x0 x1 k i w z = true := by
    intro m
    induction m with
    | zero =>
      intro k i w z hi hm hw hw0 hz hz0
      obtain ⟨k, rfl⟩ : ∃ k', k = k' + 1 := ⟨k - 1, by omega⟩
      show p3_st5 t x l (thrL t x) (thrH t x) x0 x1 (p3_lp5 t x l (thrL t x) (thrH t x) x0 x1 k) i w z = true ∧ s3_st5 t x l (thrL t x) (thrH t x) x0 x1 (s3_lp5 t x l (thrL t x) (thrH t x) x0 x1 k) i w z = true
      unfold p3_st5 s3_st5
      rw [decide_eq_false (by omega)]
      exact at6 w z (by omega) (fun j hj => hw0 j (by omega)) (by omega) (fun j hj => hz0 j (by omega))
    | succ m ih =>
      intro k i w z hi hm hw hw0 hz hz0
      obtain ⟨k, rfl⟩ : ∃ k', k = k' + 1 := ⟨k - 1, by omega⟩
      show p3_st5 t x l (thrL t x) (thrH t x) x0 x1 (p3_lp5 t x l (thrL t x) (thrH t x) x0 x1 k) i w z = true ∧ s3_st5 t x l (thrL t x) (thrH t x) x0 x1 (s3_lp5 t x l (thrL t x) (thrH t x) x0 x1 k) i w z = true
      unfold p3_st5 s3_st5
      have e3 : w64 ((i : Int) + 1) = ((i + 1 : Nat) : Int) := by rw [w64_id (by omega) (by omega)]; omega
      rw [decide_eq_true (show (i : Int) < (t.len : Int) by omega), e3, decide_eq_true (show (w.len + 1) * 8 ≤ 140737488355328 ∧ w.len + 1 ≤ 9223372036854775807 by omega), decide_eq_true (show (z.len + 1) * 8 ≤ 140737488355328 ∧ z.len + 1 ≤ 9223372036854775807 by omega)]
      have := ih k (i + 1) ⟨w.len + 1, appT w.len w.get (fun _ => 0)⟩ ⟨z.len + 1, appT z.len z.get (fun _ => 100)⟩ (by omega) (by omega) (by show w.len + 1 = _; omega)
        (fun j hj => app_all (n := w.len) (fun j hj => hw0 j (by omega)) j (by omega)) (by show z.len + 1 = _; omega) (fun j hj => app_all (n := z.len) (fun j hj => hz0 j (by omega)) j (by omega))
      exact ⟨this.1, this.2⟩
  exact key t.len Fuel 0 _ _ (by omega) (by simp only [Fuel]; omega) rfl (fun j h => absurd h (by omega)) rfl (fun j h => absurd h (by omega))
theorem law3 (s : Sky) (t : Sl RangeRow) (bin x : Int) (hs : SL s) (ht : t.len ≤ 9223372036854775807) : p3 s t bin x = true ∧ s3 s t bin x = true := by
  unfold p3 s3 p3_at0 s3_at0
  obtain ⟨c1, c2⟩ := s16_ok s hs
  obtain ⟨d1, d2⟩ := s17_ok t ht
  obtain ⟨_, e1⟩ := s75_ok s hs
  obtain ⟨_, e2⟩ := s62_ok t ht
  rw [s15_p s t hs, c1, c2, d1, d2]
  cases s15 s t
  · exact ⟨rfl, rfl⟩
  cases h1 : s75 s
  · exact ⟨rfl, rfl⟩
  cases h2 : s62 t
  · exact ⟨rfl, rfl⟩
  by_cases h3 : bin < 0
  · rw [decide_eq_true h3]; exact ⟨rfl, rfl⟩
  by_cases h4 : bin ≥ (s.Bins.len : Int)
  · rw [decide_eq_false h3, decide_eq_true h4]; exact ⟨rfl, rfl⟩
  by_cases h5 : x < 1
  · rw [decide_eq_false h3, decide_eq_false h4, decide_eq_true h5]; exact ⟨rfl, rfl⟩
  by_cases h6 : x > 1000000
  · rw [decide_eq_false h3, decide_eq_false h4, decide_eq_false h5, decide_eq_true h6]; exact ⟨rfl, rfl⟩
  rw [decide_eq_false h3, decide_eq_false h4, decide_eq_false h5, decide_eq_false h6]
  have := go3 hs ht (show Fine s t bin x from ⟨e1.1 h1, e2.1 h2, ⟨by omega, by omega⟩, ⟨by omega, by omega⟩⟩) (by omega)
  exact ⟨this.1, this.2⟩
end Go.Proofs
