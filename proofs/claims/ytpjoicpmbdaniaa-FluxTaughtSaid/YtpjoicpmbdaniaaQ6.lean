/- Part 6 of what the proof rests on: a machine that runs functions of the program on pure values, proved sound; the functions that the law reaches, and what they compute. -/
import Derived.Test.YtpjoicpmbdaniaaQ5
set_option linter.all false
namespace Go.Proofs
open Go Go.Pm
set_option linter.unusedVariables false
theorem last_fst {β : Type} {c d : Nat → Bool} {v : Nat → β} {n : Nat} {a : β} (hcd : ∀ i, i < n → d i = !c i) (hup : ∀ i j, i ≤ j → j < n → d i = true → d j = true) :
    lastF c v n a = if 0 < fst d n then v (fst d n - 1) else a := by
  have hl := fst_le d n
  have hhi : ∀ j, fst d n ≤ j → j < n → c j = false := by
    intro j h1 h2
    have := hup _ _ h1 h2 (fst_hi (by omega))
    rw [hcd j h2] at this
    simpa using this
  by_cases h : 0 < fst d n
  · rw [if_pos h]
    refine last_at (by omega) ?_ (fun j h1 h2 => hhi j (by omega) h2)
    have := fst_lo (c := d) (n := n) (j := fst d n - 1) (by omega)
    rw [hcd _ (by omega)] at this
    simpa using this
  · rw [if_neg h]
    exact last_none fun j hj => hhi j (by omega) hj
def SL (s : Sky) : Prop := s.Bins.len ≤ 9223372036854775807 ∧ ∀ i, i < s.Bins.len → (s.Bins.get i).len ≤ 9223372036854775807
theorem s75_ok (s : Sky) (hs : SL s) : p75 s = true ∧ (s75 s = true ↔ SOk s) := by
  have h : p75 s = true ∧ (s75 s = true ↔ (∀ i, i < s.Bins.len → (s101 (s.Bins.get i) 1 1000000 s.Parts && ((s.Bins.get i).get 0).Energy == 1) = true) ∧ s75_at2 s s.Bins = true) := by
    refine all_loop (n := s.Bins.len) (good := fun i => s101 (s.Bins.get i) 1 1000000 s.Parts && ((s.Bins.get i).get 0).Energy == 1) (lpS := fun k i => s75_lp0 s k s.Bins (s.Bins.len : Int) i s.Bins) (lpP := fun k i => p75_lp0 s k s.Bins (s.Bins.len : Int) i s.Bins) ?_ ?_ ?_ ?_ hs.1
    · intro k i hi
      show s75_st0 s (s75_lp0 s k) s.Bins (s.Bins.len : Int) i s.Bins = cond _ (s75_lp0 s k s.Bins (s.Bins.len : Int) (w64 ((i : Int) + 1)) s.Bins) false
      generalize s75_lp0 s k = S
      unfold s75_st0 s75_at1
      rw [decide_eq_true (by omega), Int.toNat_natCast]
      cases s101 (s.Bins.get i) 1 1000000 s.Parts
      · rfl
      · cases h : ((s.Bins.get i).get 0).Energy == 1 <;> simp [bne, h]
    · intro k
      show s75_st0 s (s75_lp0 s k) s.Bins (s.Bins.len : Int) _ s.Bins = _
      unfold s75_st0
      rw [decide_eq_false (by omega), cond_false]
    · intro k i hi
      show p75_st0 s (p75_lp0 s k) s.Bins (s.Bins.len : Int) i s.Bins = cond _ (p75_lp0 s k s.Bins (s.Bins.len : Int) (w64 ((i : Int) + 1)) s.Bins) true
      generalize p75_lp0 s k = S
      unfold p75_st0 p75_at1
      obtain ⟨h1, _, h3⟩ := s101_ok s.Parts (s.Bins.get i) (hs.2 i hi)
      rw [decide_eq_true (by omega), Int.toNat_natCast, h1, decide_eq_true (show 0 ≤ (i : Int) ∧ (i : Int) < (s.Bins.len : Int) by omega)]
      cases h : s101 (s.Bins.get i) 1 1000000 s.Parts
      · rfl
      · have h4 := h3 h
        rw [decide_eq_true (show (0 : Int) ≤ 0 ∧ (0 : Int) < ((s.Bins.get i).len : Int) by omega)]
        cases h : ((s.Bins.get i).get 0).Energy == 1 <;> simp [bne, h]
    · intro k
      show p75_st0 s (p75_lp0 s k) s.Bins (s.Bins.len : Int) _ s.Bins = _
      unfold p75_st0
      rw [decide_eq_false (by omega), cond_false]
  refine ⟨h.1, h.2.trans ?_⟩
  have e : s75_at2 s s.Bins = true ↔ ((2 ≤ s.Parts ∧ s.Parts ≤ 1000000) ∧ (1 ≤ (s.Bins.len : Int) ∧ (s.Bins.len : Int) ≤ 20) ∧ (-100 ≤ s.Beta.Low ∧ s.Beta.Low ≤ s.Beta.High ∧ s.Beta.High ≤ 100) ∧ (-100 ≤ s.Alpha.Low ∧ s.Alpha.Low ≤ s.Alpha.High ∧ s.Alpha.High ≤ 100)) := by
    unfold s75_at2
    rw [s63_eq, s63_eq, s69_eq, s69_eq]
    simp only [Bool.cond_decide, Bool.if_false_right, Bool.and_eq_true, decide_eq_true_eq]
  rw [e]
  unfold SOk
  exact ⟨fun h => ⟨h.2, fun i hi => (s101_ok s.Parts (s.Bins.get i) (hs.2 i hi)).2.1.1 (h.1 i hi)⟩, fun h => ⟨fun i hi => (s101_ok s.Parts (s.Bins.get i) (hs.2 i hi)).2.1.2 (h.2 i hi), h.1⟩⟩
theorem s16_ok (s : Sky) (hs : SL s) : p16 s = true ∧ s16 s = s75 s := by
  have h : p16_at1 s s.Bins = true ∧ (s16_at1 s s.Bins = true ↔ (∀ i, i < s.Bins.len → s59 s.Parts (s.Bins.get i) = true) ∧ true = true) := by
    refine all_loop (n := s.Bins.len) (good := fun i => s59 s.Parts (s.Bins.get i)) (lpS := fun k i => s16_lp2 s k i s.Bins) (lpP := fun k i => p16_lp2 s k i s.Bins) ?_ ?_ ?_ ?_ hs.1
    · intro k i hi
      show s16_st2 s (s16_lp2 s k) i s.Bins = cond _ (s16_lp2 s k (w64 ((i : Int) + 1)) s.Bins) false
      generalize s16_lp2 s k = S
      unfold s16_st2 s16_at3
      rw [decide_eq_true (by omega), Int.toNat_natCast]
      cases s59 s.Parts (s.Bins.get i) <;> rfl
    · intro k
      show s16_st2 s (s16_lp2 s k) _ s.Bins = _
      unfold s16_st2
      rw [decide_eq_false (by omega), cond_false]
    · intro k i hi
      show p16_st2 s (p16_lp2 s k) i s.Bins = cond _ (p16_lp2 s k (w64 ((i : Int) + 1)) s.Bins) true
      generalize p16_lp2 s k = S
      unfold p16_st2 p16_at3
      rw [decide_eq_true (by omega), Int.toNat_natCast, (s59_ok s.Parts (s.Bins.get i) (hs.2 i hi)).1, decide_eq_true (show 0 ≤ (i : Int) ∧ (i : Int) < (s.Bins.len : Int) by omega)]
      cases s59 s.Parts (s.Bins.get i) <;> rfl
    · intro k
      show p16_st2 s (p16_lp2 s k) _ s.Bins = _
      unfold p16_st2
      rw [decide_eq_false (by omega), cond_false]
  have h2 : s16 s = true ↔ SOk s := by
    unfold s16 s16_at0
    rw [s58_eq, s58_eq, s29_eq, s29_eq]
    unfold SOk
    by_cases a : 2 ≤ s.Parts ∧ s.Parts ≤ 1000000
    · by_cases b : 1 ≤ (s.Bins.len : Int) ∧ (s.Bins.len : Int) ≤ 20
      · by_cases c : -100 ≤ s.Beta.Low ∧ s.Beta.Low ≤ s.Beta.High ∧ s.Beta.High ≤ 100
        · by_cases d : -100 ≤ s.Alpha.Low ∧ s.Alpha.Low ≤ s.Alpha.High ∧ s.Alpha.High ≤ 100
          · rw [decide_eq_true a, decide_eq_true b, decide_eq_true c, decide_eq_true d]
            refine h.2.trans ?_
            exact ⟨fun h => ⟨⟨a, b, c, d⟩, fun i hi => (s59_ok s.Parts (s.Bins.get i) (hs.2 i hi)).2.1 (h.1 i hi)⟩, fun h => ⟨fun i hi => (s59_ok s.Parts (s.Bins.get i) (hs.2 i hi)).2.2 (h.2 i hi), rfl⟩⟩
          · rw [decide_eq_true a, decide_eq_true b, decide_eq_true c, decide_eq_false d]
            exact ⟨fun h => absurd h Bool.false_ne_true, fun h => absurd h.1.2.2.2 d⟩
        · rw [decide_eq_true a, decide_eq_true b, decide_eq_false c]
          exact ⟨fun h => absurd h Bool.false_ne_true, fun h => absurd h.1.2.2.1 c⟩
      · rw [decide_eq_true a, decide_eq_false b]
        exact ⟨fun h => absurd h Bool.false_ne_true, fun h => absurd h.1.2.1 b⟩
    · rw [decide_eq_false a]
      exact ⟨fun h => absurd h Bool.false_ne_true, fun h => absurd h.1.1 a⟩
  refine ⟨?_, Bool.eq_iff_iff.2 (h2.trans (s75_ok s hs).2.symm)⟩
  unfold p16 p16_at0
  rw [h.1]
  cases s58 s.Parts 2 1000000 <;> cases s58 (s.Bins.len : Int) 1 20 <;> cases s29 s.Beta (-100) 100 <;> cases s29 s.Alpha (-100) 100 <;> rfl
theorem s15_p (s : Sky) (t : Sl RangeRow) (hs : SL s) : p15 s t = true := by
  have h : p15 s t = true ∧ (s15 s t = true ↔ (∀ i, i < s.Bins.len → (!decide (((s.Bins.get i).len : Int) > 50)) = true) ∧ (cond (decide ((s.Bins.len : Int) ≤ (25:Int))) (decide ((t.len : Int) ≤ (50:Int))) false) = true) := by
    refine all_loop (n := s.Bins.len) (good := fun i => !decide (((s.Bins.get i).len : Int) > 50)) (lpS := s15_lp0 s t) (lpP := p15_lp0 s t) ?_ ?_ ?_ ?_ hs.1
    · intro k i hi
      show s15_st0 s t (s15_lp0 s t k) i = _
      generalize s15_lp0 s t k = S
      unfold s15_st0
      rw [decide_eq_true (by omega), Int.toNat_natCast]
      cases decide (((s.Bins.get i).len : Int) > 50) <;> rfl
    · intro k
      show s15_st0 s t (s15_lp0 s t k) _ = _
      unfold s15_st0
      rw [decide_eq_false (by omega), cond_false]
    · intro k i hi
      show p15_st0 s t (p15_lp0 s t k) i = _
      generalize p15_lp0 s t k = S
      unfold p15_st0
      rw [decide_eq_true (by omega), Int.toNat_natCast, decide_eq_true (show 0 ≤ (i : Int) ∧ (i : Int) < (s.Bins.len : Int) by omega)]
      cases decide (((s.Bins.get i).len : Int) > 50) <;> rfl
    · intro k
      show p15_st0 s t (p15_lp0 s t k) _ = _
      unfold p15_st0
      rw [decide_eq_false (by omega), cond_false]
  exact h.1
theorem s81_eq (c0 : Int) (t : Sl RangeRow) (hn : t.len ≤ 9223372036854775807) : p81 c0 t = true ∧ s81 c0 t = ((fst (fun i => s95 c0 (t.get i)) t.len : Nat) : Int) := by
  have h := idx_loop (c := s95 c0) (lpS := s106_lp0 c0) (lpP := p106_lp0 c0) (fun _ _ _ _ => rfl) (fun _ _ _ _ => rfl) t hn
  have h1 : p106 c0 t = true := h.1
  have h2 : s106 c0 t = _ := h.2
  have hl := fst_le (fun i => s95 c0 (t.get i)) t.len
  unfold p81 s81
  rw [h1, h2]
  refine ⟨rfl, ?_⟩
  by_cases h : fst (fun i => s95 c0 (t.get i)) t.len < t.len
  · rw [if_pos h, decide_eq_true (by omega)]; rfl
  · rw [if_neg h, decide_eq_false (by omega)]
    show (t.len : Int) = _
    omega
theorem s81a_eq (c0 : Int) (t : Sl RangeRow) (hn : t.len ≤ 9223372036854775807) : p81a c0 t = true ∧ s81a c0 t = ((fst (fun i => s96 c0 (t.get i)) t.len : Nat) : Int) := by
  have h := idx_loop (c := s96 c0) (lpS := s106a_lp0 c0) (lpP := p106a_lp0 c0) (fun _ _ _ _ => rfl) (fun _ _ _ _ => rfl) t hn
  have h1 : p106a c0 t = true := h.1
  have h2 : s106a c0 t = _ := h.2
  have hl := fst_le (fun i => s96 c0 (t.get i)) t.len
  unfold p81a s81a
  rw [h1, h2]
  refine ⟨rfl, ?_⟩
  by_cases h : fst (fun i => s96 c0 (t.get i)) t.len < t.len
  · rw [if_pos h, decide_eq_true (by omega)]; rfl
  · rw [if_neg h, decide_eq_false (by omega)]
    show (t.len : Int) = _
    omega
theorem s81b_eq (c0 : Int) (t : Sl RangeRow) (hn : t.len ≤ 9223372036854775807) : p81b c0 t = true ∧ s81b c0 t = ((fst (fun i => s82 c0 (t.get i)) t.len : Nat) : Int) := by
  have h := idx_loop (c := s82 c0) (lpS := s106b_lp0 c0) (lpP := p106b_lp0 c0) (fun _ _ _ _ => rfl) (fun _ _ _ _ => rfl) t hn
  have h1 : p106b c0 t = true := h.1
  have h2 : s106b c0 t = _ := h.2
  have hl := fst_le (fun i => s82 c0 (t.get i)) t.len
  unfold p81b s81b
  rw [h1, h2]
  refine ⟨rfl, ?_⟩
  by_cases h : fst (fun i => s82 c0 (t.get i)) t.len < t.len
  · rw [if_pos h, decide_eq_true (by omega)]; rfl
  · rw [if_neg h, decide_eq_false (by omega)]
    show (t.len : Int) = _
    omega
theorem s81c_eq (c0 : Int) (t : Sl RangeRow) (hn : t.len ≤ 9223372036854775807) : p81c c0 t = true ∧ s81c c0 t = ((fst (fun i => s83 c0 (t.get i)) t.len : Nat) : Int) := by
  have h := idx_loop (c := s83 c0) (lpS := s106c_lp0 c0) (lpP := p106c_lp0 c0) (fun _ _ _ _ => rfl) (fun _ _ _ _ => rfl) t hn
  have h1 : p106c c0 t = true := h.1
  have h2 : s106c c0 t = _ := h.2
  have hl := fst_le (fun i => s83 c0 (t.get i)) t.len
  unfold p81c s81c
  rw [h1, h2]
  refine ⟨rfl, ?_⟩
  by_cases h : fst (fun i => s83 c0 (t.get i)) t.len < t.len
  · rw [if_pos h, decide_eq_true (by omega)]; rfl
  · rw [if_neg h, decide_eq_false (by omega)]
    show (t.len : Int) = _
    omega
theorem s107_eq (c0 : Span) (t : Sl FluxRow) (hn : t.len ≤ 9223372036854775807) : p107 c0 t = true ∧ s107 c0 t = ((fst (fun i => s108 c0 (t.get i)) t.len : Nat) : Int) := by
  have h := idx_loop (c := s108 c0) (lpS := s118_lp0 c0) (lpP := p118_lp0 c0) (fun _ _ _ _ => rfl) (fun _ _ _ _ => rfl) t hn
  have h1 : p118 c0 t = true := h.1
  have h2 : s118 c0 t = _ := h.2
  have hl := fst_le (fun i => s108 c0 (t.get i)) t.len
  unfold p107 s107
  rw [h1, h2]
  refine ⟨rfl, ?_⟩
  by_cases h : fst (fun i => s108 c0 (t.get i)) t.len < t.len
  · rw [if_pos h, decide_eq_true (by omega)]; rfl
  · rw [if_neg h, decide_eq_false (by omega)]
    show (t.len : Int) = _
    omega
theorem s107a_eq (c0 : Span) (t : Sl FluxRow) (hn : t.len ≤ 9223372036854775807) : p107a c0 t = true ∧ s107a c0 t = ((fst (fun i => s109 c0 (t.get i)) t.len : Nat) : Int) := by
  have h := idx_loop (c := s109 c0) (lpS := s118a_lp0 c0) (lpP := p118a_lp0 c0) (fun _ _ _ _ => rfl) (fun _ _ _ _ => rfl) t hn
  have h1 : p118a c0 t = true := h.1
  have h2 : s118a c0 t = _ := h.2
  have hl := fst_le (fun i => s109 c0 (t.get i)) t.len
  unfold p107a s107a
  rw [h1, h2]
  refine ⟨rfl, ?_⟩
  by_cases h : fst (fun i => s109 c0 (t.get i)) t.len < t.len
  · rw [if_pos h, decide_eq_true (by omega)]; rfl
  · rw [if_neg h, decide_eq_false (by omega)]
    show (t.len : Int) = _
    omega
def kH (t : Sl RangeRow) (x : Int) : Nat := fst (fun i => decide ((t.get i).Range.High ≥ x)) t.len
def kL (t : Sl RangeRow) (x : Int) : Nat := fst (fun i => decide ((t.get i).Range.Low ≥ x)) t.len
def thrL (t : Sl RangeRow) (x : Int) : Int := if 0 < kH t x then (t.get (kH t x - 1)).Energy + 1 else 1
def thrH (t : Sl RangeRow) (x : Int) : Int := if kL t x < t.len then (t.get (kL t x)).Energy else -1
def thr (t : Sl RangeRow) (x : Int) : Span := if x = 0 then ⟨1, 1⟩ else ⟨thrL t x, thrH t x⟩
def jL (l : Sl FluxRow) (y : Int) : Nat := fst (fun i => decide ((l.get i).Energy > y)) l.len
def jH (l : Sl FluxRow) (y : Int) : Nat := fst (fun i => decide ((l.get i).Energy ≥ y)) l.len
def abvH (l : Sl FluxRow) (y : Int) : Int := if 0 < jL l y then (l.get (jL l y - 1)).Rate.High else (l.get 0).Rate.High
def abvL (l : Sl FluxRow) (y : Int) : Int := if y = -1 then 0 else if jH l y < l.len then (l.get (jH l y)).Rate.Low else 0
def abv (l : Sl FluxRow) (x : Span) : Span := ⟨abvL l x.High, abvH l x.Low⟩
def expd (s : Sky) (t : Sl RangeRow) (bin x : Int) : Span := abv (s.Bins.get bin.toNat) (thr t x)
theorem s64_eq (t : Sl RangeRow) (x : Int) (hk : TOk t) : p64 t x = true ∧ s64 t x = thr t x := by
  have hn : t.len ≤ 9223372036854775807 := by have := hk.1.2; omega
  have e1 : p81 x t = true ∧ s81 x t = ((kH t x : Nat) : Int) := s81_eq x t hn
  have e2 : p81a x t = true ∧ s81a x t = ((kL t x : Nat) : Int) := s81a_eq x t hn
  have b1 : kH t x ≤ t.len := fst_le _ _
  have b2 : kL t x ≤ t.len := fst_le _ _
  unfold p64 s64 thr
  by_cases h0 : x = 0
  · rw [if_pos h0, beq_iff_eq.2 h0]; exact ⟨rfl, rfl⟩
  have h00 : (x == 0) = false := by simpa using h0
  rw [if_neg h0, h00, cond_false, cond_false]
  unfold p64_at0 s64_at0
  rw [e1.1, e1.2]
  have h3 : ∀ a, p64_at2 t x a = true ∧ s64_at2 t x a = ⟨a, thrH t x⟩ := by
    intro a
    unfold p64_at2 s64_at2 p64_at3 s64_at3 thrH
    rw [e2.1, e2.2]
    by_cases h : kL t x < t.len
    · rw [if_pos h, decide_eq_true (show ((kL t x : Nat) : Int) < (t.len : Int) by omega), decide_eq_true (show 0 ≤ ((kL t x : Nat) : Int) ∧ ((kL t x : Nat) : Int) < (t.len : Int) by omega), Int.toNat_natCast]
      exact ⟨rfl, rfl⟩
    · rw [if_neg h, decide_eq_false (show ¬ ((kL t x : Nat) : Int) < (t.len : Int) by omega)]
      exact ⟨rfl, rfl⟩
  unfold p64_at1 s64_at1 thrL
  by_cases h : 0 < kH t x
  · have hr := hk.2 (kH t x - 1) (by omega)
    unfold TRow at hr
    have e3 : w64 (((kH t x : Nat) : Int) - 1) = ((kH t x - 1 : Nat) : Int) := by rw [w64_id (by omega) (by omega)]; omega
    rw [if_pos h, decide_eq_true (show ((kH t x : Nat) : Int) > 0 by omega), e3, Int.toNat_natCast, decide_eq_true (show 0 ≤ ((kH t x - 1 : Nat) : Int) ∧ ((kH t x - 1 : Nat) : Int) < (t.len : Int) by omega), (h3 _).1, cond_true, (h3 _).2, w64_id (by omega) (by omega)]
    exact ⟨rfl, rfl⟩
  · rw [if_neg h, decide_eq_false (show ¬ ((kH t x : Nat) : Int) > 0 by omega), cond_false, cond_false, (h3 _).1, (h3 _).2]
    exact ⟨rfl, rfl⟩
theorem s84_eq (l : Sl FluxRow) (y : Span) (h0 : 0 < l.len) (hn : l.len ≤ 9223372036854775807) : p84 l y = true ∧ s84 l y = abv l y := by
  have e1 : p107 y l = true ∧ s107 y l = ((jL l y.Low : Nat) : Int) := s107_eq y l hn
  have e2 : p107a y l = true ∧ s107a y l = ((jH l y.High : Nat) : Int) := s107a_eq y l hn
  have b1 : jL l y.Low ≤ l.len := fst_le _ _
  have b2 : jH l y.High ≤ l.len := fst_le _ _
  have h3 : ∀ a, p84_at1 l y a = true ∧ s84_at1 l y a = ⟨abvL l y.High, a⟩ := by
    intro a
    unfold p84_at1 s84_at1 abvL
    by_cases h : y.High = -1
    · rw [if_pos h, beq_iff_eq.2 h]; exact ⟨rfl, rfl⟩
    have h00 : (y.High == -1) = false := by simpa using h
    rw [if_neg h, h00, cond_false, cond_false]
    unfold p84_at2 s84_at2 p84_at3 s84_at3
    rw [e2.1, e2.2]
    by_cases h : jH l y.High < l.len
    · rw [if_pos h, decide_eq_true (show ((jH l y.High : Nat) : Int) < (l.len : Int) by omega), decide_eq_true (show 0 ≤ ((jH l y.High : Nat) : Int) ∧ ((jH l y.High : Nat) : Int) < (l.len : Int) by omega), Int.toNat_natCast]
      exact ⟨rfl, rfl⟩
    · rw [if_neg h, decide_eq_false (show ¬ ((jH l y.High : Nat) : Int) < (l.len : Int) by omega)]
      exact ⟨rfl, rfl⟩
  unfold p84 s84 abv
  rw [e1.1, e1.2, decide_eq_true (show 0 ≤ (0 : Int) ∧ (0 : Int) < (l.len : Int) by omega)]
  unfold p84_at0 s84_at0 abvH
  by_cases h : 0 < jL l y.Low
  · have e3 : w64 (((jL l y.Low : Nat) : Int) - 1) = ((jL l y.Low - 1 : Nat) : Int) := by rw [w64_id (by omega) (by omega)]; omega
    rw [if_pos h, decide_eq_true (show ((jL l y.Low : Nat) : Int) > 0 by omega), e3, Int.toNat_natCast, decide_eq_true (show 0 ≤ ((jL l y.Low - 1 : Nat) : Int) ∧ ((jL l y.Low - 1 : Nat) : Int) < (l.len : Int) by omega), (h3 _).1, cond_true, (h3 _).2]
    exact ⟨rfl, rfl⟩
  · rw [if_neg h, decide_eq_false (show ¬ ((jL l y.Low : Nat) : Int) > 0 by omega), cond_false, cond_false, (h3 _).1, (h3 _).2]
    exact ⟨rfl, rfl⟩
def Fine (s : Sky) (t : Sl RangeRow) (bin x : Int) : Prop := SOk s ∧ TOk t ∧ (0 ≤ bin ∧ bin < (s.Bins.len : Int)) ∧ (0 ≤ x ∧ x ≤ 1000000)
theorem Fine.b {s : Sky} {t : Sl RangeRow} {bin x : Int} (h : Fine s t bin x) : BOk s.Parts (s.Bins.get bin.toNat) := h.1.2 _ (by have := h.2.2.1; omega)
theorem s65_g (s : Sky) (t : Sl RangeRow) (bin x : Int) : (s65 s t bin x).1.Sky = s ∧ (s65 s t bin x).1.table = t := by
  unfold s65
  cases s75 s <;> cases s62 t <;> cases s63 bin 0 (w64 ((s.Bins.len : Int) - 1)) <;> exact ⟨rfl, rfl⟩
theorem s65_ok (s : Sky) (t : Sl RangeRow) (bin x : Int) (hs : SL s) (ht : t.len ≤ 9223372036854775807) : p65 s t bin x = true ∧ ((s65 s t bin x).2 = true ↔ Fine s t bin x) := by
  obtain ⟨h1, h2⟩ := s75_ok s hs
  obtain ⟨h3, h4⟩ := s62_ok t ht
  have h5 := hs.1
  unfold p65 s65 Fine
  rw [h1, h3, s63_eq, s63_eq, w64_id (by omega) (by omega), ← h2, ← h4]
  cases s75 s
  · exact ⟨rfl, ⟨fun h => absurd h Bool.false_ne_true, fun h => absurd h.1 Bool.false_ne_true⟩⟩
  cases s62 t
  · exact ⟨rfl, ⟨fun h => absurd h Bool.false_ne_true, fun h => absurd h.2.1 Bool.false_ne_true⟩⟩
  refine ⟨rfl, ?_⟩
  by_cases h : 0 ≤ bin ∧ bin ≤ (s.Bins.len : Int) - 1
  · rw [decide_eq_true h]
    simp only [cond_true, decide_eq_true_eq]
    exact ⟨fun h6 => ⟨trivial, trivial, by omega, h6⟩, fun h6 => h6.2.2.2⟩
  · rw [decide_eq_false h]
    exact ⟨fun h => absurd h Bool.false_ne_true, fun h6 => absurd (show 0 ≤ bin ∧ bin ≤ (s.Bins.len : Int) - 1 by have := h6.2.2.1; omega) h⟩
theorem s66_eq {s : Sky} {t : Sl RangeRow} {bin x : Int} (h : Fine s t bin x) : p66 s t bin x = true ∧ s66 s t bin x = expd s t bin x := by
  obtain ⟨h1, h2⟩ := s64_eq t x h.2.1
  have hb := h.b
  obtain ⟨h3, h4⟩ := s84_eq (s.Bins.get bin.toNat) (thr t x) (by have := hb.1; omega) (by have := hb.1; omega)
  unfold p66 s66 expd
  rw [h1, h2, h3, h4, decide_eq_true h.2.2.1]
  exact ⟨rfl, rfl⟩
theorem s20_ok (s : Sky) (t : Sl RangeRow) (bin x : Int) (hs : SL s) (ht : t.len ≤ 9223372036854775807) : p20 s t bin x = true ∧ (Fine s t bin x → s20 s t bin x = (expd s t bin x, 0)) ∧ (¬ Fine s t bin x → s20 s t bin x = (⟨0, 0⟩, 2)) := by
  obtain ⟨h1, h2⟩ := s65_ok s t bin x hs ht
  obtain ⟨e1, e2⟩ := s65_g s t bin x
  unfold p20 s20
  rw [h1, e1, e2]
  by_cases h : Fine s t bin x
  · rw [h2.2 h, (s66_eq h).1, (s66_eq h).2]
    exact ⟨rfl, fun _ => rfl, fun h3 => absurd h h3⟩
  · have h3 : (s65 s t bin x).2 = false := by
      cases e : (s65 s t bin x).2
      · rfl
      · exact absurd (h2.1 e) h
    rw [h3]
    exact ⟨rfl, fun h3 => absurd h3 h, fun _ => rfl⟩
theorem s19_ok (t : Sl RangeRow) (x : Int) (ht : t.len ≤ 9223372036854775807) : p19 t x = true ∧ (TOk t ∧ 0 ≤ x ∧ x ≤ 1000000 → s19 t x = (thr t x, 0)) ∧ (¬ (TOk t ∧ 0 ≤ x ∧ x ≤ 1000000) → s19 t x = (⟨0, 0⟩, 2)) := by
  obtain ⟨h1, h2⟩ := s62_ok t ht
  unfold p19 s19
  rw [h1, s63_eq]
  by_cases hk : TOk t
  · rw [h2.2 hk, (s64_eq t x hk).1, (s64_eq t x hk).2]
    by_cases h : 0 ≤ x ∧ x ≤ 1000000
    · rw [decide_eq_true h]
      exact ⟨rfl, fun _ => rfl, fun h3 => absurd ⟨hk, h⟩ h3⟩
    · rw [decide_eq_false h]
      exact ⟨rfl, fun h3 => absurd h3.2 h, fun _ => rfl⟩
  · have h3 : s62 t = false := by
      cases e : s62 t
      · rfl
      · exact absurd (h2.1 e) hk
    rw [h3]
    exact ⟨rfl, fun h3 => absurd h3.1 hk, fun _ => rfl⟩
theorem t_mono {t : Sl RangeRow} (h : ∀ i, i < t.len → TRow t i) : ∀ d i, i + d < t.len → (0 < d → (t.get i).Energy < (t.get (i + d)).Energy) ∧ (t.get i).Range.Low ≤ (t.get (i + d)).Range.Low ∧ (t.get i).Range.High ≤ (t.get (i + d)).Range.High := by
  intro d
  induction d with
  | zero => intro i hi; exact ⟨fun h => absurd h (by omega), Int.le_refl _, Int.le_refl _⟩
  | succ d ih =>
    intro i hi
    obtain ⟨h1, h2, h3⟩ := ih i (by omega)
    obtain ⟨_, _, h4⟩ := h (i + (d + 1)) hi
    have e : i + (d + 1) - 1 = i + d := by omega
    rw [e] at h4
    have h4 := h4.resolve_left (by omega)
    refine ⟨fun _ => ?_, by omega, by omega⟩
    by_cases hd : 0 < d
    · have := h1 hd; omega
    · have : d = 0 := by omega
      subst this; exact h4.1
theorem t_e {t : Sl RangeRow} (h : TOk t) {i j : Nat} (hij : i < j) (hj : j < t.len) : (t.get i).Energy < (t.get j).Energy := by
  have := (t_mono h.2 (j - i) i (by omega)).1 (by omega)
  rwa [show i + (j - i) = j by omega] at this
theorem t_low {t : Sl RangeRow} (h : TOk t) {i j : Nat} (hij : i ≤ j) (hj : j < t.len) : (t.get i).Range.Low ≤ (t.get j).Range.Low := by
  have := (t_mono h.2 (j - i) i (by omega)).2.1
  rwa [show i + (j - i) = j by omega] at this
theorem t_high {t : Sl RangeRow} (h : TOk t) {i j : Nat} (hij : i ≤ j) (hj : j < t.len) : (t.get i).Range.High ≤ (t.get j).Range.High := by
  have := (t_mono h.2 (j - i) i (by omega)).2.2
  rwa [show i + (j - i) = j by omega] at this
theorem b_mono {parts : Int} {t : Sl FluxRow} (h : ∀ i, i < t.len → BRow parts t i) : ∀ d i, i + d < t.len → (0 < d → (t.get i).Energy < (t.get (i + d)).Energy) ∧ (t.get (i + d)).Rate.Low ≤ (t.get i).Rate.Low ∧ (t.get (i + d)).Rate.High ≤ (t.get i).Rate.High := by
  intro d
  induction d with
  | zero => intro i hi; exact ⟨fun h => absurd h (by omega), Int.le_refl _, Int.le_refl _⟩
  | succ d ih =>
    intro i hi
    obtain ⟨h1, h2, h3⟩ := ih i (by omega)
    obtain ⟨_, _, h4⟩ := h (i + (d + 1)) hi
    have e : i + (d + 1) - 1 = i + d := by omega
    rw [e] at h4
    have h4 := h4.resolve_left (by omega)
    refine ⟨fun _ => ?_, by omega, by omega⟩
    by_cases hd : 0 < d
    · have := h1 hd; omega
    · have : d = 0 := by omega
      subst this; exact h4.1
theorem b_e {parts : Int} {t : Sl FluxRow} (h : BOk parts t) {i j : Nat} (hij : i < j) (hj : j < t.len) : (t.get i).Energy < (t.get j).Energy := by
  have := (b_mono h.2.2 (j - i) i (by omega)).1 (by omega)
  rwa [show i + (j - i) = j by omega] at this
theorem b_low {parts : Int} {t : Sl FluxRow} (h : BOk parts t) {i j : Nat} (hij : i ≤ j) (hj : j < t.len) : (t.get j).Rate.Low ≤ (t.get i).Rate.Low := by
  have := (b_mono h.2.2 (j - i) i (by omega)).2.1
  rwa [show i + (j - i) = j by omega] at this
theorem b_high {parts : Int} {t : Sl FluxRow} (h : BOk parts t) {i j : Nat} (hij : i ≤ j) (hj : j < t.len) : (t.get j).Rate.High ≤ (t.get i).Rate.High := by
  have := (b_mono h.2.2 (j - i) i (by omega)).2.2
  rwa [show i + (j - i) = j by omega] at this
end Go.Proofs
namespace Go.Proofs
open Go Go.Pm
set_option linter.unusedVariables false
theorem fst_mono {c d : Nat → Bool} {n : Nat} (h : ∀ i, i < n → d i = true → c i = true) : fst c n ≤ fst d n := by
  rcases Nat.lt_or_ge (fst d n) (fst c n) with h1 | h1
  · have h2 := fst_lo h1
    have := fst_le c n
    rw [h _ (by omega) (fst_hi (by omega))] at h2
    cases h2
  · exact h1
def pmx (v : Nat → Int) : Nat → Int
  | 0 => 0
  | i + 1 => if v i > pmx v i then v i else pmx v i
theorem pmx_le (v : Nat → Int) {i j : Nat} (h : i ≤ j) : pmx v i ≤ pmx v j := by
  induction j with
  | zero => rw [show i = 0 by omega]; exact Int.le_refl _
  | succ j ih =>
    by_cases e : i = j + 1
    · rw [e]; exact Int.le_refl _
    · have := ih (by omega)
      show _ ≤ (if v j > pmx v j then v j else pmx v j)
      split <;> omega
def vR (t : Sl RangeRow) (n : Nature) (i : Nat) : Int := s24 (t.get i).Range (n.Ranges.get i)
theorem s24_in (s : Span) (p : Int) (h1 : -1000000 ≤ s.Low) (h2 : s.Low ≤ s.High) (h3 : s.High ≤ 1000000) (h4 : 0 ≤ p ∧ p ≤ 100) : s.Low ≤ s24 s p ∧ s24 s p ≤ s.High := by
  unfold s24
  have hm0 : 0 ≤ (s.High - s.Low) * p := Int.mul_nonneg (by omega) (by omega)
  have hm1 : (s.High - s.Low) * p ≤ (s.High - s.Low) * 100 := Int.mul_le_mul_of_nonneg_left h4.2 (by omega)
  rw [w64_id (x := s.High - s.Low) (by omega) (by omega), w64_id (x := (s.High - s.Low) * p) (by omega) (by omega), Int.tdiv_eq_ediv_of_nonneg hm0]
  generalize (s.High - s.Low) * p = m at hm0 hm1
  rw [w64_id (x := m / 100) (by omega) (by omega), w64_id (by omega) (by omega)]
  omega
def thru (t : Sl RangeRow) (n : Nature) (e : Int) : Int :=
  match n.Soon with
  | true => pmx (vR t n) (if fst (fun i => decide ((t.get i).Energy ≥ e)) t.len < t.len then fst (fun i => decide ((t.get i).Energy ≥ e)) t.len + 1 else t.len)
  | false => pmx (vR t n) (fst (fun i => decide ((t.get i).Energy > e)) t.len)
theorem s43_eq (t : Sl RangeRow) (n : Nature) (e : Int) (hk : TOk t) (hn : n.Ranges.len = t.len) : p43 t n e = true ∧ s43 t n e = thru t n e := by
  have hlen : (t.len : Int) ≤ 40 := hk.1.2
  have key : ∀ m k i : Nat, i + m = t.len → m < k → (∀ j, j < i → (t.get j).Energy ≤ e) →
      p43_lp0 t n e k (pmx (vR t n) i) i = true ∧ s43_lp0 t n e k (pmx (vR t n) i) i = thru t n e := by
    intro m
    induction m with
    | zero =>
      intro k i hi hm hj
      obtain ⟨k, rfl⟩ : ∃ k', k = k' + 1 := ⟨k - 1, by omega⟩
      show p43_st0 t n e (p43_lp0 t n e k) _ _ = true ∧ s43_st0 t n e (s43_lp0 t n e k) _ _ = _
      unfold p43_st0 s43_st0
      rw [decide_eq_false (by omega)]
      refine ⟨rfl, ?_⟩
      have e0 : i = t.len := by omega
      subst e0
      have e1 : fst (fun i => decide ((t.get i).Energy > e)) t.len = t.len := fst_uniq (Nat.le_refl _) (fun j h => decide_eq_false (by have := hj j h; omega)) (fun h => absurd h (by omega))
      unfold thru
      rw [e1]
      cases n.Soon
      · rfl
      · show _ = pmx (vR t n) (if _ then _ else _)
        by_cases h : fst (fun i => decide ((t.get i).Energy ≥ e)) t.len < t.len
        · rw [if_pos h]
          have h2 := of_decide_eq_true (fst_hi h)
          by_cases h3 : fst (fun i => decide ((t.get i).Energy ≥ e)) t.len + 1 = t.len
          · rw [h3]; rfl
          · have h4 := t_e hk (show fst (fun i => decide ((t.get i).Energy ≥ e)) t.len < t.len - 1 by omega) (by omega)
            have := hj (t.len - 1) (by omega)
            omega
        · rw [if_neg h]; rfl
    | succ m ih =>
      intro k i hi hm hj
      obtain ⟨k, rfl⟩ : ∃ k', k = k' + 1 := ⟨k - 1, by omega⟩
      show p43_st0 t n e (p43_lp0 t n e k) _ _ = true ∧ s43_st0 t n e (s43_lp0 t n e k) _ _ = _
      unfold p43_st0 s43_st0
      have e3 : w64 ((i : Int) + 1) = ((i + 1 : Nat) : Int) := by rw [w64_id (by omega) (by omega)]; omega
      rw [decide_eq_true (show (i : Int) < (t.len : Int) by omega), decide_eq_true (show 0 ≤ (i : Int) ∧ (i : Int) < (t.len : Int) by omega), decide_eq_true (show 0 ≤ (i : Int) ∧ (i : Int) < (n.Ranges.len : Int) by omega), Int.toNat_natCast]
      have e4 : p24 ((t.get i).Range) (n.Ranges.get i) = true := rfl
      have e5 : (if s24 ((t.get i).Range) (n.Ranges.get i) > pmx (vR t n) i then s24 ((t.get i).Range) (n.Ranges.get i) else pmx (vR t n) i) = pmx (vR t n) (i + 1) := rfl
      rw [e4, e5]
      simp only [cond_true, Bool.true_and, decide_true]
      unfold p43_at1 s43_at1
      rw [decide_eq_true (show 0 ≤ (i : Int) ∧ (i : Int) < (t.len : Int) by omega), Int.toNat_natCast, e3, Bool.true_and]
      by_cases hE : (t.get i).Energy > e
      · rw [decide_eq_true hE, cond_true, cond_true]
        have e1 : fst (fun i => decide ((t.get i).Energy > e)) t.len = i := fst_uniq (by omega) (fun j h => decide_eq_false (by have := hj j h; omega)) (fun h => decide_eq_true hE)
        unfold thru
        rw [e1]
        cases n.Soon
        · exact ⟨rfl, rfl⟩
        rw [cond_true, cond_true]
        by_cases h0 : i = 0
        · subst h0
          refine ⟨rfl, ?_⟩
          have e2 : fst (fun i => decide ((t.get i).Energy ≥ e)) t.len = 0 := fst_uniq (by omega) (fun j h => absurd h (by omega)) (fun h => decide_eq_true (by omega))
          show pmx (vR t n) (0 + 1) = pmx (vR t n) (if _ then _ else _)
          rw [e2, if_pos (by omega)]
        · have e6 : (((i : Nat) : Int) == 0) = false := by simp [h0]
          have e7 : w64 ((i : Int) - 1) = ((i - 1 : Nat) : Int) := by rw [w64_id (by omega) (by omega)]; omega
          rw [e6, e7, decide_eq_true (show 0 ≤ ((i - 1 : Nat) : Int) ∧ ((i - 1 : Nat) : Int) < (t.len : Int) by omega), Int.toNat_natCast]
          refine ⟨rfl, ?_⟩
          rw [cond_false]
          by_cases h1 : (t.get (i - 1)).Energy < e
          · have e2 : fst (fun i => decide ((t.get i).Energy ≥ e)) t.len = i := fst_uniq (by omega) (fun j h => decide_eq_false (by
                by_cases h2 : j = i - 1
                · rw [h2]; omega
                · have := t_e hk (show j < i - 1 by omega) (by omega); omega)) (fun h => decide_eq_true (by omega))
            rw [decide_eq_true h1]
            show _ = pmx (vR t n) (if _ then _ else _)
            rw [e2, if_pos (by omega)]; rfl
          · have e2 : fst (fun i => decide ((t.get i).Energy ≥ e)) t.len = i - 1 := fst_uniq (by omega) (fun j h => decide_eq_false (by
                have := t_e hk (show j < i - 1 by omega) (by omega)
                have := hj (i - 1) (by omega); omega)) (fun h => decide_eq_true (by omega))
            rw [decide_eq_false h1]
            show _ = pmx (vR t n) (if _ then _ else _)
            rw [e2, if_pos (by omega), show i - 1 + 1 = i by omega]; rfl
      · rw [decide_eq_false hE]
        exact ih k (i + 1) (by omega) (by omega) (fun j h => by
          by_cases h1 : j = i
          · rw [h1]; omega
          · exact hj j (by omega))
  have := key t.len Fuel 0 (by omega) (by simp only [Fuel]; omega) (fun j h => absurd h (by omega))
  exact this
theorem thru_le (t : Sl RangeRow) (n : Nature) {e f : Int} (h : e ≤ f) : thru t n e ≤ thru t n f := by
  unfold thru
  have h1 : fst (fun i => decide ((t.get i).Energy ≥ e)) t.len ≤ fst (fun i => decide ((t.get i).Energy ≥ f)) t.len := fst_mono fun i _ hi => decide_eq_true (by have := of_decide_eq_true hi; omega)
  have h2 : fst (fun i => decide ((t.get i).Energy > e)) t.len ≤ fst (fun i => decide ((t.get i).Energy > f)) t.len := fst_mono fun i _ hi => decide_eq_true (by have := of_decide_eq_true hi; omega)
  cases n.Soon
  · exact pmx_le _ h2
  · refine pmx_le _ ?_
    split <;> split <;> omega
def cand (t : Sl RangeRow) (a : Int) : Prop := a = 1 ∨ ∃ i, i < t.len ∧ (a = (t.get i).Energy ∨ a = (t.get i).Energy + 1)
theorem s21_ok (t : Sl RangeRow) (n : Nature) (x : Int) (hk : TOk t) (hn : n.Ranges.len = t.len) : p21 t n x = true ∧ 0 ≤ s21 t n x ∧ s21 t n x ≤ 1000001 ∧ (0 < s21 t n x → thru t n (s21 t n x) ≥ x ∧ cand t (s21 t n x)) ∧ (∀ a, cand t a → thru t n a ≥ x → 0 < s21 t n x ∧ s21 t n x ≤ a) := by
  have hlen : (t.len : Int) ≤ 40 := hk.1.2
  have hE : ∀ i, i < t.len → 1 ≤ (t.get i).Energy ∧ (t.get i).Energy ≤ 1000000 := fun i hi => (hk.2 i hi).1
  -- what is known ahead of round i: nothing earlier reaches x
  have key : ∀ m k i : Nat, i + m = t.len + 1 → m < k → (0 < i → thru t n 1 < x) → (∀ j, j < i → j < t.len → thru t n (t.get j).Energy < x) → (∀ j, j + 1 < i → thru t n ((t.get j).Energy + 1) < x) →
      p21_lp0 t n x k i = true ∧ ∀ r, r = s21_lp0 t n x k i → 0 ≤ r ∧ r ≤ 1000001 ∧ (0 < r → thru t n r ≥ x ∧ cand t r) ∧ (∀ a, cand t a → thru t n a ≥ x → 0 < r ∧ r ≤ a) := by
    intro m
    induction m with
    | zero =>
      intro k i hi hm h1 h2 h3
      obtain ⟨k, rfl⟩ : ∃ k', k = k' + 1 := ⟨k - 1, by omega⟩
      show p21_st0 t n x (p21_lp0 t n x k) _ = true ∧ ∀ r, r = s21_st0 t n x (s21_lp0 t n x k) _ → _
      unfold p21_st0 s21_st0
      rw [decide_eq_false (by omega)]
      refine ⟨rfl, fun r hr => ?_⟩
      rw [cond_false] at hr
      subst hr
      refine ⟨Int.le_refl _, by omega, fun h => absurd h (by omega), fun a ha hx => ?_⟩
      rcases ha with ha | ⟨j, hj, ha | ha⟩
      · have := h1 (by omega); rw [ha] at hx; omega
      · have := h2 j (by omega) hj; rw [ha] at hx; omega
      · have := h3 j (by omega); rw [ha] at hx; omega
    | succ m ih =>
      intro k i hi hm h1 h2 h3
      obtain ⟨k, rfl⟩ : ∃ k', k = k' + 1 := ⟨k - 1, by omega⟩
      show p21_st0 t n x (p21_lp0 t n x k) _ = true ∧ ∀ r, r = s21_st0 t n x (s21_lp0 t n x k) _ → _
      have e3 : w64 ((i : Int) + 1) = ((i + 1 : Nat) : Int) := by rw [w64_id (by omega) (by omega)]; omega
      have ihk := ih k (i + 1) (by omega) (by omega)
      -- a row's own energy, when all ahead of it is known
      have at3 : (thru t n 1 < x) → (∀ j, j + 1 ≤ i → thru t n ((t.get j).Energy + 1) < x) → p21_at3 (p21_lp0 t n x k) t n x i = true ∧ ∀ r, r = s21_at3 (s21_lp0 t n x k) t n x i → 0 ≤ r ∧ r ≤ 1000001 ∧ (0 < r → thru t n r ≥ x ∧ cand t r) ∧ (∀ a, cand t a → thru t n a ≥ x → 0 < r ∧ r ≤ a) := by
        intro g1 g3
        unfold p21_at3 s21_at3 p21_at4 s21_at4
        rw [e3]
        by_cases hl : i < t.len
        · rw [decide_eq_true (show (i : Int) < (t.len : Int) by omega), decide_eq_true (show 0 ≤ (i : Int) ∧ (i : Int) < (t.len : Int) by omega), Int.toNat_natCast, (s43_eq t n _ hk hn).1, (s43_eq t n _ hk hn).2]
          by_cases hx : thru t n (t.get i).Energy ≥ x
          · rw [decide_eq_true hx]
            refine ⟨rfl, fun r hr => ?_⟩
            rw [cond_true, cond_true] at hr
            subst hr
            have := hE i hl
            refine ⟨by omega, by omega, fun _ => ⟨hx, Or.inr ⟨i, hl, Or.inl rfl⟩⟩, fun a ha hax => ⟨by omega, ?_⟩⟩
            rcases ha with ha | ⟨j, hj, ha | ha⟩
            · rw [ha] at hax; omega
            · rw [ha] at hax
              rcases Nat.lt_or_ge j i with h | h
              · have := h2 j h hj; omega
              · by_cases e : i = j
                · rw [ha, e]; exact Int.le_refl _
                · have := t_e hk (show i < j by omega) hj; omega
            · rw [ha] at hax
              rcases Nat.lt_or_ge j i with h | h
              · have := g3 j h; omega
              · by_cases e : i = j
                · rw [ha, e]; omega
                · have := t_e hk (show i < j by omega) hj; omega
          · rw [decide_eq_false hx]
            obtain ⟨q1, q2⟩ := ihk (fun _ => g1) (fun j h hj => by
              by_cases e : j = i
              · rw [e]; omega
              · exact h2 j (by omega) hj) (fun j h => g3 j (by omega))
            exact ⟨by simpa using q1, fun r hr => q2 r (by simpa using hr)⟩
        · rw [decide_eq_false (show ¬ (i : Int) < (t.len : Int) by omega)]
          obtain ⟨q1, q2⟩ := ihk (fun _ => g1) (fun j h hj => h2 j (by omega) hj) (fun j h => g3 j (by omega))
          exact ⟨by simpa using q1, fun r hr => q2 r (by simpa using hr)⟩
      unfold p21_st0 s21_st0
      rw [decide_eq_true (show (i : Int) ≤ (t.len : Int) by omega), cond_true, cond_true]
      by_cases h0 : i = 0
      · subst h0
        rw [show (((0 : Nat) : Int) == 0) = true from rfl, cond_true, cond_true, (s43_eq t n _ hk hn).1, (s43_eq t n _ hk hn).2]
        unfold p21_at1 s21_at1
        by_cases hx : thru t n 1 ≥ x
        · rw [decide_eq_true hx]
          refine ⟨rfl, fun r hr => ?_⟩
          rw [cond_true] at hr
          subst hr
          refine ⟨by omega, by omega, fun _ => ⟨hx, Or.inl rfl⟩, fun a ha hax => ⟨by omega, ?_⟩⟩
          rcases ha with ha | ⟨j, hj, ha | ha⟩
          · omega
          · have := hE j hj; omega
          · have := hE j hj; omega
        · rw [decide_eq_false hx]
          obtain ⟨q1, q2⟩ := at3 (by omega) (fun j h => absurd h (by omega))
          exact ⟨by simpa using q1, fun r hr => q2 r (by simpa using hr)⟩
      · have e6 : (((i : Nat) : Int) == 0) = false := by simp [h0]
        have e7 : w64 ((i : Int) - 1) = ((i - 1 : Nat) : Int) := by rw [w64_id (by omega) (by omega)]; omega
        have hEi := hE (i - 1) (by omega)
        have e8 : w64 ((t.get (i - 1)).Energy + 1) = (t.get (i - 1)).Energy + 1 := w64_id (by omega) (by omega)
        have g1 := h1 (by omega)
        have g2 := h2 (i - 1) (by omega) (by omega)
        rw [e6, e7, decide_eq_true (show 0 ≤ ((i - 1 : Nat) : Int) ∧ ((i - 1 : Nat) : Int) < (t.len : Int) by omega), Int.toNat_natCast, e8, cond_false, cond_false, (s43_eq t n _ hk hn).1, (s43_eq t n _ hk hn).2, (s43_eq t n _ hk hn).1, (s43_eq t n _ hk hn).2, decide_eq_true g2]
        unfold p21_at2 s21_at2
        rw [e7, decide_eq_true (show 0 ≤ ((i - 1 : Nat) : Int) ∧ ((i - 1 : Nat) : Int) < (t.len : Int) by omega), Int.toNat_natCast, e8]
        by_cases hx : thru t n ((t.get (i - 1)).Energy + 1) ≥ x
        · rw [decide_eq_true hx]
          refine ⟨rfl, fun r hr => ?_⟩
          rw [cond_true, cond_true] at hr
          subst hr
          refine ⟨by omega, by omega, fun _ => ⟨hx, Or.inr ⟨i - 1, by omega, Or.inr rfl⟩⟩, fun a ha hax => ⟨by omega, ?_⟩⟩
          rcases ha with ha | ⟨j, hj, ha | ha⟩
          · rw [ha] at hax; omega
          · rw [ha] at hax
            rcases Nat.lt_or_ge j i with h | h
            · have := h2 j h hj; omega
            · have := t_e hk (show i - 1 < j by omega) hj; omega
          · rw [ha] at hax
            rcases Nat.lt_or_ge (j + 1) i with h | h
            · have := h3 j h; omega
            · by_cases e : i - 1 = j
              · rw [ha, e]; omega
              · have := t_e hk (show i - 1 < j by omega) hj; omega
        · rw [decide_eq_false hx]
          obtain ⟨q1, q2⟩ := at3 g1 (fun j h => by
            by_cases e : j = i - 1
            · rw [e]; omega
            · exact h3 j (by omega))
          exact ⟨by simpa using q1, fun r hr => q2 r (by simpa using hr)⟩
  have := key (t.len + 1) Fuel 0 (by omega) (by simp only [Fuel]; omega) (fun h => absurd h (by omega)) (fun j h => absurd h (by omega)) (fun j h => absurd h (by omega))
  exact ⟨this.1, this.2 _ rfl⟩
end Go.Proofs
namespace Go.Proofs
open Go Go.Pm
set_option linter.unusedVariables false
def qmn (w : Nat → Int) : Nat → Int
  | 0 => w 0
  | i + 1 => if w (i + 1) < qmn w i then w (i + 1) else qmn w i
theorem qmn_le (w : Nat → Int) {i j : Nat} (h : i ≤ j) : qmn w j ≤ qmn w i := by
  induction j with
  | zero => rw [show i = 0 by omega]; exact Int.le_refl _
  | succ j ih =>
    by_cases e : i = j + 1
    · rw [e]; exact Int.le_refl _
    · have := ih (by omega)
      show (if w (j + 1) < qmn w j then w (j + 1) else qmn w j) ≤ _
      split <;> omega
theorem qmn_self (w : Nat → Int) (i : Nat) : qmn w i ≤ w i := by
  cases i with
  | zero => exact Int.le_refl _
  | succ i =>
    show (if w (i + 1) < qmn w i then w (i + 1) else qmn w i) ≤ _
    split <;> omega
theorem qmn_ge {w : Nat → Int} {c : Int} {i : Nat} (h : ∀ j, j ≤ i → c ≤ w j) : c ≤ qmn w i := by
  induction i with
  | zero => exact h 0 (Nat.le_refl _)
  | succ i ih =>
    have h1 := ih fun j hj => h j (by omega)
    have h2 := h (i + 1) (Nat.le_refl _)
    show c ≤ (if w (i + 1) < qmn w i then w (i + 1) else qmn w i)
    split <;> omega
def wR (l : Sl FluxRow) (n : Nature) (i : Nat) : Int := s24 (l.get i).Rate (n.Rates.get i)
def comg (l : Sl FluxRow) (n : Nature) (e : Int) : Int :=
  match n.Soon with
  | true => qmn (wR l n) (if jH l e < l.len then jH l e else l.len - 1)
  | false => qmn (wR l n) (jL l e - 1)
theorem jj {parts : Int} {l : Sl FluxRow} (hb : BOk parts l) (e : Int) : jL l e ≤ l.len ∧ jH l e ≤ jL l e ∧ jL l e ≤ jH l e + 1 := by
  have b1 : jL l e ≤ l.len := fst_le _ _
  have b2 : jH l e ≤ l.len := fst_le _ _
  have h1 : jH l e ≤ jL l e := fst_mono fun i _ hi => decide_eq_true (by have := of_decide_eq_true hi; omega)
  refine ⟨b1, h1, ?_⟩
  rcases Nat.lt_or_ge (jH l e + 1) (jL l e) with h | h
  · have h2 := of_decide_eq_false (fst_lo (c := fun i => decide ((l.get i).Energy > e)) (n := l.len) h)
    have h3 : (l.get (jH l e)).Energy ≥ e := of_decide_eq_true (fst_hi (c := fun i => decide ((l.get i).Energy ≥ e)) (n := l.len) (by show jH l e < l.len; omega))
    have := b_e hb (show jH l e < jH l e + 1 by omega) (by omega)
    omega
  · exact h
theorem jL_pos {parts : Int} {l : Sl FluxRow} (hb : BOk parts l) {e : Int} (he : 1 ≤ e) : 0 < jL l e := by
  have := hb.1.1
  rcases Nat.eq_zero_or_pos (jL l e) with h | h
  · have := of_decide_eq_true (fst_hi (c := fun i => decide ((l.get i).Energy > e)) (n := l.len) (by show jL l e < l.len; omega))
    have h2 : fst (fun i => decide ((l.get i).Energy > e)) l.len = 0 := h
    rw [h2, hb.2.1] at this
    omega
  · exact h
theorem s32_eq {parts : Int} (l : Sl FluxRow) (n : Nature) (e : Int) (hk : BOk parts l) (hn : n.Rates.len = l.len) (he : 1 ≤ e) : p32 l n e = true ∧ s32 l n e = comg l n e := by
  have hlen := hk.1
  have key : ∀ m k i : Nat, i + m = l.len → m < k → 1 ≤ i → (∀ j, j < i → (l.get j).Energy ≤ e) →
      p32_lp1 l n e k (qmn (wR l n) (i - 1)) i = true ∧ s32_lp1 l n e k (qmn (wR l n) (i - 1)) i = comg l n e := by
    intro m
    induction m with
    | zero =>
      intro k i hi hm h1 hj
      obtain ⟨k, rfl⟩ : ∃ k', k = k' + 1 := ⟨k - 1, by omega⟩
      show p32_st1 l n e (p32_lp1 l n e k) _ _ = true ∧ s32_st1 l n e (s32_lp1 l n e k) _ _ = _
      unfold p32_st1 s32_st1
      rw [decide_eq_false (by omega)]
      refine ⟨rfl, ?_⟩
      have e0 : i = l.len := by omega
      subst e0
      have e1 : jL l e = l.len := fst_uniq (Nat.le_refl _) (fun j h => decide_eq_false (by have := hj j h; omega)) (fun h => absurd h (by omega))
      have hjj := jj hk e
      unfold comg
      rw [e1]
      cases n.Soon
      · rfl
      · show _ = qmn (wR l n) (if _ then _ else _)
        by_cases h : jH l e < l.len
        · rw [if_pos h, show jH l e = l.len - 1 by omega]; rfl
        · rw [if_neg h]; rfl
    | succ m ih =>
      intro k i hi hm h1 hj
      obtain ⟨k, rfl⟩ : ∃ k', k = k' + 1 := ⟨k - 1, by omega⟩
      show p32_st1 l n e (p32_lp1 l n e k) _ _ = true ∧ s32_st1 l n e (s32_lp1 l n e k) _ _ = _
      unfold p32_st1 s32_st1
      have e3 : w64 ((i : Int) + 1) = ((i + 1 : Nat) : Int) := by rw [w64_id (by omega) (by omega)]; omega
      have e7 : w64 ((i : Int) - 1) = ((i - 1 : Nat) : Int) := by rw [w64_id (by omega) (by omega)]; omega
      rw [decide_eq_true (show (i : Int) < (l.len : Int) by omega), decide_eq_true (show 0 ≤ (i : Int) ∧ (i : Int) < (l.len : Int) by omega), decide_eq_true (show 0 ≤ (i : Int) ∧ (i : Int) < (n.Rates.len : Int) by omega), Int.toNat_natCast]
      have e4 : p24 ((l.get i).Rate) (n.Rates.get i) = true := rfl
      have e5 : (if s24 ((l.get i).Rate) (n.Rates.get i) < qmn (wR l n) (i - 1) then s24 ((l.get i).Rate) (n.Rates.get i) else qmn (wR l n) (i - 1)) = qmn (wR l n) i := by
        have : qmn (wR l n) i = qmn (wR l n) (i - 1 + 1) := by rw [show i - 1 + 1 = i by omega]
        rw [this]
        show _ = (if wR l n (i - 1 + 1) < qmn (wR l n) (i - 1) then wR l n (i - 1 + 1) else qmn (wR l n) (i - 1))
        rw [show i - 1 + 1 = i by omega]
        rfl
      rw [e4, e5]
      simp only [cond_true, Bool.true_and, decide_true]
      unfold p32_at2 s32_at2
      rw [decide_eq_true (show 0 ≤ (i : Int) ∧ (i : Int) < (l.len : Int) by omega), Int.toNat_natCast, e3, e7, Bool.true_and, decide_eq_true (show 0 ≤ ((i - 1 : Nat) : Int) ∧ ((i - 1 : Nat) : Int) < (l.len : Int) by omega), Int.toNat_natCast]
      by_cases hE : (l.get i).Energy > e
      · rw [decide_eq_true hE, cond_true, cond_true]
        have e1 : jL l e = i := fst_uniq (by omega) (fun j h => decide_eq_false (by have := hj j h; omega)) (fun h => decide_eq_true hE)
        unfold comg
        rw [e1]
        cases n.Soon
        · exact ⟨rfl, rfl⟩
        rw [cond_true, cond_true]
        refine ⟨rfl, ?_⟩
        by_cases h1 : (l.get (i - 1)).Energy < e
        · have e2 : jH l e = i := fst_uniq (by omega) (fun j h => decide_eq_false (by
              by_cases h2 : j = i - 1
              · rw [h2]; omega
              · have := b_e hk (show j < i - 1 by omega) (by omega); omega)) (fun h => decide_eq_true (by omega))
          rw [decide_eq_true h1]
          show _ = qmn (wR l n) (if _ then _ else _)
          rw [e2, if_pos (by omega)]; rfl
        · have e2 : jH l e = i - 1 := fst_uniq (by omega) (fun j h => decide_eq_false (by
              have := b_e hk (show j < i - 1 by omega) (by omega)
              have := hj (i - 1) (by omega); omega)) (fun h => decide_eq_true (by omega))
          rw [decide_eq_false h1]
          show _ = qmn (wR l n) (if _ then _ else _)
          rw [e2, if_pos (by omega)]; rfl
      · rw [decide_eq_false hE]
        have r := ih k (i + 1) (by omega) (by omega) (by omega) (fun j h => by
          by_cases h1 : j = i
          · rw [h1]; omega
          · exact hj j (by omega))
        rw [show i + 1 - 1 = i by omega] at r
        exact r
  have r := key (l.len - 1) Fuel 1 (by omega) (by simp only [Fuel]; omega) (Nat.le_refl _) (fun j h => by rw [show j = 0 by omega, hk.2.1]; exact he)
  unfold p32 s32
  have e4 : p24 ((l.get 0).Rate) (n.Rates.get 0) = true := rfl
  rw [e4, decide_eq_true (show (0 : Int) ≤ 0 ∧ (0 : Int) < (l.len : Int) by omega), decide_eq_true (show (0 : Int) ≤ 0 ∧ (0 : Int) < (n.Rates.len : Int) by omega)]
  simp only [decide_true, Bool.true_and]
  exact r
def NOk (t : Sl RangeRow) (l : Sl FluxRow) (n : Nature) : Prop := (n.Ranges.len = t.len ∧ n.Rates.len = l.len) ∧ (∀ i, i < t.len → 0 ≤ n.Ranges.get i ∧ n.Ranges.get i ≤ 100) ∧ (∀ i, i < l.len → 0 ≤ n.Rates.get i ∧ n.Rates.get i ≤ 100)
theorem s31_ok (t : Sl RangeRow) (l : Sl FluxRow) (n : Nature) (ht : t.len ≤ 9223372036854775807) (hl : l.len ≤ 9223372036854775807) : p31 n (t.len : Int) (l.len : Int) = true ∧ (s31 n (t.len : Int) (l.len : Int) = true → NOk t l n) := by
  unfold p31 s31
  by_cases h1 : ¬ (n.Ranges.len : Int) = (t.len : Int)
  · rw [show ((n.Ranges.len : Int) != (t.len : Int)) = true by simpa using h1]
    exact ⟨rfl, fun h => absurd h Bool.false_ne_true⟩
  have h1 := Decidable.of_not_not h1
  rw [show ((n.Ranges.len : Int) != (t.len : Int)) = false by simpa using h1]
  by_cases h2 : ¬ (n.Rates.len : Int) = (l.len : Int)
  · rw [show ((n.Rates.len : Int) != (l.len : Int)) = true by simpa using h2]
    exact ⟨rfl, fun h => absurd h Bool.false_ne_true⟩
  have h2 := Decidable.of_not_not h2
  rw [show ((n.Rates.len : Int) != (l.len : Int)) = false by simpa using h2]
  have b : p31_at2 n (l.len : Int) = true ∧ (s31_at2 n (l.len : Int) = true ↔ (∀ i, i < l.len → decide (0 ≤ n.Rates.get i ∧ n.Rates.get i ≤ 100) = true) ∧ true = true) := by
    refine all_loop (n := l.len) (good := fun i => decide (0 ≤ n.Rates.get i ∧ n.Rates.get i ≤ 100)) (lpS := s31_lp3 n (l.len : Int)) (lpP := p31_lp3 n (l.len : Int)) ?_ ?_ ?_ ?_ hl
    · intro k i hi
      show s31_st3 n (l.len : Int) (s31_lp3 n (l.len : Int) k) i = _
      generalize s31_lp3 n (l.len : Int) k = S
      unfold s31_st3
      rw [decide_eq_true (show (i : Int) < (l.len : Int) by omega), Int.toNat_natCast]
      by_cases a : n.Rates.get i < 0
      · rw [decide_eq_true a, decide_eq_false (show ¬ (0 ≤ n.Rates.get i ∧ n.Rates.get i ≤ 100) by omega)]; rfl
      by_cases c : n.Rates.get i > 100
      · rw [decide_eq_false a, decide_eq_true c, decide_eq_false (show ¬ (0 ≤ n.Rates.get i ∧ n.Rates.get i ≤ 100) by omega)]; rfl
      · rw [decide_eq_false a, decide_eq_false c, decide_eq_true (show 0 ≤ n.Rates.get i ∧ n.Rates.get i ≤ 100 by omega)]; rfl
    · intro k
      show s31_st3 n (l.len : Int) (s31_lp3 n (l.len : Int) k) _ = _
      unfold s31_st3
      rw [decide_eq_false (by omega), cond_false]
    · intro k i hi
      show p31_st3 n (l.len : Int) (p31_lp3 n (l.len : Int) k) i = _
      generalize p31_lp3 n (l.len : Int) k = S
      unfold p31_st3
      rw [decide_eq_true (show (i : Int) < (l.len : Int) by omega), Int.toNat_natCast, decide_eq_true (show 0 ≤ (i : Int) ∧ (i : Int) < (n.Rates.len : Int) by omega)]
      by_cases a : n.Rates.get i < 0
      · rw [decide_eq_true a, decide_eq_false (show ¬ (0 ≤ n.Rates.get i ∧ n.Rates.get i ≤ 100) by omega)]; rfl
      by_cases c : n.Rates.get i > 100
      · rw [decide_eq_false a, decide_eq_true c, decide_eq_false (show ¬ (0 ≤ n.Rates.get i ∧ n.Rates.get i ≤ 100) by omega)]; rfl
      · rw [decide_eq_false a, decide_eq_false c, decide_eq_true (show 0 ≤ n.Rates.get i ∧ n.Rates.get i ≤ 100 by omega)]; rfl
    · intro k
      show p31_st3 n (l.len : Int) (p31_lp3 n (l.len : Int) k) _ = _
      unfold p31_st3
      rw [decide_eq_false (by omega), cond_false]
  have a : p31_at0 n (t.len : Int) (l.len : Int) = true ∧ (s31_at0 n (t.len : Int) (l.len : Int) = true ↔ (∀ i, i < t.len → decide (0 ≤ n.Ranges.get i ∧ n.Ranges.get i ≤ 100) = true) ∧ s31_at2 n (l.len : Int) = true) := by
    refine all_loop (n := t.len) (good := fun i => decide (0 ≤ n.Ranges.get i ∧ n.Ranges.get i ≤ 100)) (lpS := s31_lp1 n (t.len : Int) (l.len : Int)) (lpP := p31_lp1 n (t.len : Int) (l.len : Int)) ?_ ?_ ?_ ?_ ht
    · intro k i hi
      show s31_st1 n (t.len : Int) (l.len : Int) (s31_lp1 n (t.len : Int) (l.len : Int) k) i = _
      generalize s31_lp1 n (t.len : Int) (l.len : Int) k = S
      unfold s31_st1
      rw [decide_eq_true (show (i : Int) < (t.len : Int) by omega), Int.toNat_natCast]
      by_cases a : n.Ranges.get i < 0
      · rw [decide_eq_true a, decide_eq_false (show ¬ (0 ≤ n.Ranges.get i ∧ n.Ranges.get i ≤ 100) by omega)]; rfl
      by_cases c : n.Ranges.get i > 100
      · rw [decide_eq_false a, decide_eq_true c, decide_eq_false (show ¬ (0 ≤ n.Ranges.get i ∧ n.Ranges.get i ≤ 100) by omega)]; rfl
      · rw [decide_eq_false a, decide_eq_false c, decide_eq_true (show 0 ≤ n.Ranges.get i ∧ n.Ranges.get i ≤ 100 by omega)]; rfl
    · intro k
      show s31_st1 n (t.len : Int) (l.len : Int) (s31_lp1 n (t.len : Int) (l.len : Int) k) _ = _
      unfold s31_st1
      rw [decide_eq_false (by omega), cond_false]
    · intro k i hi
      show p31_st1 n (t.len : Int) (l.len : Int) (p31_lp1 n (t.len : Int) (l.len : Int) k) i = _
      generalize p31_lp1 n (t.len : Int) (l.len : Int) k = S
      unfold p31_st1
      rw [decide_eq_true (show (i : Int) < (t.len : Int) by omega), Int.toNat_natCast, decide_eq_true (show 0 ≤ (i : Int) ∧ (i : Int) < (n.Ranges.len : Int) by omega)]
      by_cases a : n.Ranges.get i < 0
      · rw [decide_eq_true a, decide_eq_false (show ¬ (0 ≤ n.Ranges.get i ∧ n.Ranges.get i ≤ 100) by omega)]; rfl
      by_cases c : n.Ranges.get i > 100
      · rw [decide_eq_false a, decide_eq_true c, decide_eq_false (show ¬ (0 ≤ n.Ranges.get i ∧ n.Ranges.get i ≤ 100) by omega)]; rfl
      · rw [decide_eq_false a, decide_eq_false c, decide_eq_true (show 0 ≤ n.Ranges.get i ∧ n.Ranges.get i ≤ 100 by omega)]; rfl
    · intro k
      show p31_st1 n (t.len : Int) (l.len : Int) (p31_lp1 n (t.len : Int) (l.len : Int) k) _ = _
      unfold p31_st1
      rw [decide_eq_false (by omega), cond_false]
      exact b.1
  refine ⟨a.1, fun h => ?_⟩
  have h3 := a.2.1 h
  have h4 := b.2.1 h3.2
  exact ⟨⟨by omega, by omega⟩, fun i hi => of_decide_eq_true (h3.1 i hi), fun i hi => of_decide_eq_true (h4.1 i hi)⟩
theorem vR_in {t : Sl RangeRow} {l : Sl FluxRow} {n : Nature} (hk : TOk t) (hn : NOk t l n) {i : Nat} (hi : i < t.len) : (t.get i).Range.Low ≤ vR t n i ∧ vR t n i ≤ (t.get i).Range.High := by
  have h := (hk.2 i hi).2.1
  exact s24_in _ _ (by omega) (by omega) (by omega) (hn.2.1 i hi)
theorem wR_in {parts : Int} {t : Sl RangeRow} {l : Sl FluxRow} {n : Nature} (hp : parts ≤ 1000000) (hb : BOk parts l) (hn : NOk t l n) {i : Nat} (hi : i < l.len) : (l.get i).Rate.Low ≤ wR l n i ∧ wR l n i ≤ (l.get i).Rate.High := by
  have h := (hb.2.2 i hi).2.1
  exact s24_in _ _ (by omega) (by omega) (by omega) (hn.2.2 i hi)
theorem pmx_in {t : Sl RangeRow} {l : Sl FluxRow} {n : Nature} (hk : TOk t) (hn : NOk t l n) : ∀ i, i < t.len → (t.get i).Range.Low ≤ pmx (vR t n) (i + 1) ∧ pmx (vR t n) (i + 1) ≤ (t.get i).Range.High := by
  intro i
  induction i with
  | zero =>
    intro hi
    have h := vR_in hk hn hi
    have h1 := (hk.2 0 hi).2.1
    show _ ≤ (if vR t n 0 > 0 then vR t n 0 else 0) ∧ (if vR t n 0 > 0 then vR t n 0 else 0) ≤ _
    split <;> omega
  | succ i ih =>
    intro hi
    have h := vR_in hk hn hi
    have h1 := ih (by omega)
    have h2 := t_high hk (show i ≤ i + 1 by omega) hi
    show _ ≤ (if vR t n (i + 1) > pmx (vR t n) (i + 1) then vR t n (i + 1) else pmx (vR t n) (i + 1)) ∧ (if vR t n (i + 1) > pmx (vR t n) (i + 1) then vR t n (i + 1) else pmx (vR t n) (i + 1)) ≤ _
    split <;> omega
theorem thru_hi {t : Sl RangeRow} {l : Sl FluxRow} {n : Nature} (hk : TOk t) (hn : NOk t l n) {j : Nat} (hj : j < t.len) {e : Int} (he : e ≤ (t.get j).Energy) : thru t n e ≤ (t.get j).Range.High := by
  have hh := (hk.2 j hj).2.1
  unfold thru
  cases n.Soon
  · show pmx (vR t n) (fst (fun i => decide ((t.get i).Energy > e)) t.len) ≤ _
    generalize hq : fst (fun i => decide ((t.get i).Energy > e)) t.len = q
    have hq1 : q ≤ t.len := by rw [← hq]; exact fst_le _ _
    cases q with
    | zero => show (0 : Int) ≤ _; omega
    | succ q =>
      have h1 := of_decide_eq_false (fst_lo (c := fun i => decide ((t.get i).Energy > e)) (n := t.len) (j := q) (by omega))
      have h2 : q ≤ j := by
        rcases Nat.lt_or_ge j q with h | h
        · have := t_e hk h (by omega); omega
        · exact h
      have := (pmx_in hk hn q (by omega)).2
      have := t_high hk h2 hj
      omega
  · show pmx (vR t n) (if fst (fun i => decide ((t.get i).Energy ≥ e)) t.len < t.len then _ else _) ≤ _
    have h1 : fst (fun i => decide ((t.get i).Energy ≥ e)) t.len ≤ j := by
      rcases Nat.lt_or_ge j (fst (fun i => decide ((t.get i).Energy ≥ e)) t.len) with h | h
      · have := of_decide_eq_false (fst_lo h); omega
      · exact h
    rw [if_pos (by omega)]
    have := (pmx_in hk hn (fst (fun i => decide ((t.get i).Energy ≥ e)) t.len) (by omega)).2
    have := t_high hk h1 hj
    omega
theorem thru_lo {t : Sl RangeRow} {l : Sl FluxRow} {n : Nature} (hk : TOk t) (hn : NOk t l n) {j : Nat} (hj : j < t.len) {e : Int} (he : (t.get j).Energy ≤ e) : (t.get j).Range.Low ≤ thru t n e := by
  refine Int.le_trans ?_ (thru_le t n he)
  have h1 := (pmx_in hk hn j hj).1
  unfold thru
  cases n.Soon
  · have e1 : fst (fun i => decide ((t.get i).Energy > (t.get j).Energy)) t.len = j + 1 := fst_uniq (by omega) (fun i hi => decide_eq_false (by
      by_cases e : i = j
      · rw [e]; omega
      · have := t_e hk (show i < j by omega) hj; omega)) (fun h => decide_eq_true (t_e hk (Nat.lt_succ_self j) h))
    show _ ≤ pmx (vR t n) (fst (fun i => decide ((t.get i).Energy > (t.get j).Energy)) t.len)
    rw [e1]; exact h1
  · have e1 : fst (fun i => decide ((t.get i).Energy ≥ (t.get j).Energy)) t.len = j := fst_uniq (by omega) (fun i hi => decide_eq_false (by
      have := t_e hk hi hj; omega)) (fun h => decide_eq_true (Int.le_refl _))
    show _ ≤ pmx (vR t n) (if _ then _ else _)
    rw [e1, if_pos hj]; exact h1
theorem least_in {t : Sl RangeRow} {l : Sl FluxRow} {n : Nature} (hk : TOk t) (hn : NOk t l n) {x : Int} (hx : 1 ≤ x) :
    p21 t n x = true ∧ 0 ≤ s21 t n x ∧ s21 t n x ≤ 1000001 ∧ (s21 t n x = 0 → thrH t x = -1) ∧ (0 < s21 t n x → thrL t x ≤ s21 t n x ∧ (thrH t x ≠ -1 → s21 t n x ≤ thrH t x)) := by
  obtain ⟨h1, h2, h3, h4, h5⟩ := s21_ok t n x hk hn.1.1
  have bH : kH t x ≤ t.len := fst_le _ _
  have up : kL t x < t.len → 0 < s21 t n x ∧ s21 t n x ≤ (t.get (kL t x)).Energy := by
    intro hl
    have hlo : (t.get (kL t x)).Range.Low ≥ x := of_decide_eq_true (fst_hi (c := fun i => decide ((t.get i).Range.Low ≥ x)) hl)
    have := thru_lo hk hn hl (Int.le_refl _)
    exact h5 _ (Or.inr ⟨_, hl, Or.inl rfl⟩) (by omega)
  refine ⟨h1, h2, h3, fun h0 => ?_, fun h0 => ⟨?_, fun hne => ?_⟩⟩
  · unfold thrH
    by_cases hl : kL t x < t.len
    · have := (up hl).1; omega
    · rw [if_neg hl]
  · unfold thrL
    by_cases hc : 0 < kH t x
    · rw [if_pos hc]
      have hlo := of_decide_eq_false (fst_lo (c := fun i => decide ((t.get i).Range.High ≥ x)) (n := t.len) (j := kH t x - 1) (by show _ < kH t x; omega))
      rcases Int.lt_or_le ((t.get (kH t x - 1)).Energy) (s21 t n x) with h | h
      · omega
      · have := thru_hi hk hn (j := kH t x - 1) (by omega) h
        have := (h4 h0).1
        omega
    · rw [if_neg hc]; omega
  · unfold thrH at hne ⊢
    by_cases hl : kL t x < t.len
    · rw [if_pos hl]; exact (up hl).2
    · rw [if_neg hl] at hne; exact absurd rfl hne
theorem comg_le {parts : Int} {l : Sl FluxRow} (hb : BOk parts l) (n : Nature) {e f : Int} (h : e ≤ f) : comg l n f ≤ comg l n e := by
  have h1 : jH l e ≤ jH l f := fst_mono fun i _ hi => decide_eq_true (by have := of_decide_eq_true hi; omega)
  have h2 : jL l e ≤ jL l f := fst_mono fun i _ hi => decide_eq_true (by have := of_decide_eq_true hi; omega)
  have h3 := (jj hb e).1
  have h4 := (jj hb f).1
  unfold comg
  cases n.Soon
  · exact qmn_le _ (by omega)
  · refine qmn_le _ ?_
    split <;> split <;> omega
theorem qmn_in {parts : Int} {t : Sl RangeRow} {l : Sl FluxRow} {n : Nature} (hp : parts ≤ 1000000) (hb : BOk parts l) (hn : NOk t l n) {i : Nat} (hi : i < l.len) : (l.get i).Rate.Low ≤ qmn (wR l n) i ∧ qmn (wR l n) i ≤ (l.get i).Rate.High := by
  refine ⟨qmn_ge fun j hj => ?_, ?_⟩
  · have := (wR_in hp hb hn (show j < l.len by omega)).1
    have := b_low hb hj hi
    omega
  · have := qmn_self (wR l n) i
    have := (wR_in hp hb hn hi).2
    omega
theorem comg_b {parts : Int} {t : Sl RangeRow} {l : Sl FluxRow} {n : Nature} (hp : parts ≤ 1000000) (hb : BOk parts l) (hn : NOk t l n) (e : Int) : 0 ≤ comg l n e ∧ comg l n e ≤ parts := by
  have hlen := hb.1
  have h1 : ∀ i, i < l.len → 0 ≤ qmn (wR l n) i ∧ qmn (wR l n) i ≤ parts := fun i hi => by
    have := qmn_in hp hb hn hi
    have := (hb.2.2 i hi).2.1
    omega
  have h3 := (jj hb e).1
  unfold comg
  cases n.Soon
  · exact h1 _ (by omega)
  · refine h1 _ ?_
    split <;> omega
theorem comg_row {parts : Int} {l : Sl FluxRow} (hb : BOk parts l) (n : Nature) {i : Nat} (hi : i < l.len) : comg l n (l.get i).Energy = qmn (wR l n) i := by
  have e1 : jL l (l.get i).Energy = i + 1 := fst_uniq (by omega) (fun j hj => decide_eq_false (by
    by_cases e : j = i
    · rw [e]; omega
    · have := b_e hb (show j < i by omega) hi; omega)) (fun h => decide_eq_true (b_e hb (Nat.lt_succ_self i) h))
  have e2 : jH l (l.get i).Energy = i := fst_uniq (by omega) (fun j hj => decide_eq_false (by
    have := b_e hb hj hi; omega)) (fun h => decide_eq_true (Int.le_refl _))
  unfold comg
  rw [e1, e2]
  cases n.Soon
  · rfl
  · show qmn (wR l n) (if _ then _ else _) = _
    rw [if_pos hi]
end Go.Proofs
namespace Go.Proofs
open Go Go.Pm
set_option linter.unusedVariables false
def rsp (parts rate less more : Int) : Span := ⟨if w64 (rate - (if rate < less then rate else less)) > 0 then w64 (rate - (if rate < less then rate else less)) else 0, w64 (rate + (if w64 (parts - rate) < more then w64 (parts - rate) else more))⟩
theorem rsp_ok {parts rate less more : Int} (hp : parts ≤ 1000000) (hr : 0 ≤ rate ∧ rate ≤ parts) (hl : 0 ≤ less) (hm : 0 ≤ more) :
    0 ≤ (rsp parts rate less more).Low ∧ (rsp parts rate less more).Low ≤ rate ∧ rate ≤ (rsp parts rate less more).High ∧ (rsp parts rate less more).High ≤ parts := by
  have e1 : 0 ≤ rate - (if rate < less then rate else less) ∧ rate - (if rate < less then rate else less) ≤ rate := by split <;> omega
  show 0 ≤ (if w64 (rate - (if rate < less then rate else less)) > 0 then w64 (rate - (if rate < less then rate else less)) else 0) ∧ (if w64 (rate - (if rate < less then rate else less)) > 0 then w64 (rate - (if rate < less then rate else less)) else 0) ≤ rate ∧ rate ≤ w64 (rate + (if w64 (parts - rate) < more then w64 (parts - rate) else more)) ∧ w64 (rate + (if w64 (parts - rate) < more then w64 (parts - rate) else more)) ≤ parts
  rw [w64_id (x := parts - rate) (by omega) (by omega)]
  have e2 : 0 ≤ (if parts - rate < more then parts - rate else more) ∧ (if parts - rate < more then parts - rate else more) ≤ parts - rate := by split <;> omega
  generalize rate - (if rate < less then rate else less) = u at *
  generalize (if parts - rate < more then parts - rate else more) = v at *
  rw [w64_id (x := u) (by omega) (by omega), w64_id (x := rate + v) (by omega) (by omega)]
  refine ⟨?_, ?_, by omega, by omega⟩ <;> split <;> omega
def trate (t : Sl RangeRow) (l : Sl FluxRow) (n : Nature) (x : Int) : Int := if x = 0 then comg l n 1 else if 0 < s21 t n x then comg l n (s21 t n x) else 0
theorem trate_ok {parts : Int} {t : Sl RangeRow} {l : Sl FluxRow} {n : Nature} {x : Int} (hp : 0 ≤ parts ∧ parts ≤ 1000000) (hk : TOk t) (hb : BOk parts l) (hn : NOk t l n) (hx : 0 ≤ x) :
    (0 ≤ trate t l n x ∧ trate t l n x ≤ parts) ∧ (∀ e, e ≤ (thr t x).Low → trate t l n x ≤ comg l n e) ∧ ((thr t x).High ≠ -1 → ∀ e, e ≥ (thr t x).High → comg l n e ≤ trate t l n x) := by
  unfold trate thr
  by_cases h0 : x = 0
  · rw [if_pos h0, if_pos h0]
    exact ⟨comg_b hp.2 hb hn 1, fun e he => comg_le hb n he, fun _ e he => comg_le hb n he⟩
  rw [if_neg h0, if_neg h0]
  obtain ⟨_, h1, h2, h3, h4⟩ := least_in hk hn (show 1 ≤ x by omega)
  show _ ∧ (∀ e, e ≤ thrL t x → _) ∧ (thrH t x ≠ -1 → ∀ e, e ≥ thrH t x → _)
  by_cases hs : 0 < s21 t n x
  · rw [if_pos hs]
    obtain ⟨h5, h6⟩ := h4 hs
    exact ⟨comg_b hp.2 hb hn _, fun e he => comg_le hb n (by omega), fun hne e he => comg_le hb n (by have := h6 hne; omega)⟩
  · rw [if_neg hs]
    exact ⟨⟨Int.le_refl _, hp.1⟩, fun e _ => (comg_b hp.2 hb hn e).1, fun hne => absurd (h3 (by omega)) hne⟩
end Go.Proofs
namespace Go.Proofs
open Go Go.Pm
set_option linter.unusedVariables false
def lr1 (x0 rl : Int) (r : FluxRow) : FluxRow := if r.Energy ≤ x0 then ⟨r.Energy, ⟨if rl > r.Rate.Low then rl else r.Rate.Low, r.Rate.High⟩⟩ else r
def lr2 (x1 rh : Int) (r : FluxRow) : FluxRow := if x1 ≠ -1 ∧ r.Energy ≥ x1 then ⟨r.Energy, ⟨r.Rate.Low, if rh < r.Rate.High then rh else r.Rate.High⟩⟩ else r
def lrn (y rates : Span) (r : FluxRow) : FluxRow := lr2 y.High rates.High (lr1 y.Low rates.Low r)
def badR (r : FluxRow) : Bool := decide (r.Rate.Low > r.Rate.High)
def zsky : Sky := ⟨0, ⟨0, fun _ => default⟩, ⟨0, 0⟩, ⟨0, 0⟩⟩
def Upd (b k : Nat) (v : FluxRow) (w w' : Sl (Sl FluxRow)) : Prop := w'.len = w.len ∧ ∀ i, (w'.get i).len = (w.get i).len ∧ ∀ j, (w'.get i).get j = if i = b ∧ j = k then v else (w.get i).get j
theorem upd_id (b k : Nat) (w : Sl (Sl FluxRow)) : Upd b k ((w.get b).get k) w w := by
  refine ⟨rfl, fun i => ⟨rfl, fun j => ?_⟩⟩
  split
  · rename_i h; rw [h.1, h.2]
  · rfl
theorem upd_set {b k : Nat} {v u : FluxRow} {w w1 : Sl (Sl FluxRow)} (h : Upd b k u w w1) : Upd b k v w ⟨w1.len, setS b k v w1.get⟩ := by
  refine ⟨h.1, fun i => ?_⟩
  obtain ⟨h1, h2⟩ := h.2 i
  show (setS b k v w1.get i).len = _ ∧ ∀ j, (setS b k v w1.get i).get j = _
  unfold setS
  cases e : Nat.beq i b
  · have hne : i ≠ b := fun he => by rw [he, Nat.beq_refl] at e; cases e
    refine ⟨h1, fun j => ?_⟩
    rw [if_neg (fun hh => hne hh.1)]
    have := h2 j
    rw [if_neg (fun hh => hne hh.1)] at this
    exact this
  · have he : i = b := Nat.eq_of_beq_eq_true e
    refine ⟨h1, fun j => ?_⟩
    show setT k v (w1.get i).get j = _
    unfold setT
    cases e2 : Nat.beq j k
    · have hne : j ≠ k := fun he => by rw [he, Nat.beq_refl] at e2; cases e2
      rw [if_neg (fun hh => hne hh.2)]
      have := h2 j
      rw [if_neg (fun hh => hne hh.2)] at this
      exact this
    · rw [if_pos ⟨he, Nat.eq_of_beq_eq_true e2⟩]
theorem upd_at {b k : Nat} {v : FluxRow} {w w1 : Sl (Sl FluxRow)} (h : Upd b k v w w1) : (w1.get b).get k = v := by
  have := (h.2 b).2 k
  rwa [if_pos ⟨rfl, rfl⟩] at this
theorem at7_33 {s : Sky} {bin : Int} {rates : Span} {x0 x1 : Int} {w5 w w1 : Sl (Sl FluxRow)} {k : Nat} {v : FluxRow} (S : Int → Sl (Sl FluxRow) → Sky × Int) (P : Int → Sl (Sl FluxRow) → Bool) (hk : k < 1000)
    (hw : bin.toNat < w.len ∧ k < (w.get bin.toNat).len) (h : Upd bin.toNat k v w w1) :
    ∃ w2, Upd bin.toNat k (lr2 x1 rates.High v) w w2 ∧ s33_at7 S s bin rates x0 x1 w5 (k : Int) w (k : Int) w1 = cond (badR (lr2 x1 rates.High v)) (zsky, 5) (S ((k + 1 : Nat) : Int) w2) ∧
      p33_at7 P s bin rates x0 x1 w5 (k : Int) w (k : Int) w1 = cond (badR (lr2 x1 rates.High v)) true (P ((k + 1 : Nat) : Int) w2) := by
  have e3 : w64 ((k : Int) + 1) = ((k + 1 : Nat) : Int) := by rw [w64_id (by omega) (by omega)]; omega
  have ev := upd_at h
  have hl : (w1.get bin.toNat).len = (w.get bin.toNat).len := (h.2 bin.toNat).1
  have d1 : decide (bin.toNat < w1.len ∧ (k : Int).toNat < (fun i => (w1.get i).len) bin.toNat) = true := decide_eq_true ⟨by rw [h.1]; exact hw.1, by show (k : Int).toNat < (w1.get bin.toNat).len; rw [hl, Int.toNat_natCast]; exact hw.2⟩
  -- the last test
  have h8 : ∀ w2 u, Upd bin.toNat k u w w2 → s33_at8 S s bin rates x0 x1 w5 (k : Int) w1 (k : Int) w2 = cond (badR u) (zsky, 5) (S ((k + 1 : Nat) : Int) w2) ∧ p33_at8 P s bin rates x0 x1 w5 (k : Int) w1 (k : Int) w2 = cond (badR u) true (P ((k + 1 : Nat) : Int) w2) := by
    intro w2 u h2
    have ev2 := upd_at h2
    have hl2 : (w2.get bin.toNat).len = (w.get bin.toNat).len := (h2.2 bin.toNat).1
    have d2 : decide (bin.toNat < w2.len ∧ (k : Int).toNat < (fun i => (w2.get i).len) bin.toNat) = true := decide_eq_true ⟨by rw [h2.1]; exact hw.1, by show (k : Int).toNat < (w2.get bin.toNat).len; rw [hl2, Int.toNat_natCast]; exact hw.2⟩
    unfold s33_at8 p33_at8 badR zsky
    rw [d2, Int.toNat_natCast, ev2, e3]
    exact ⟨rfl, rfl⟩
  unfold s33_at7 p33_at7
  rw [d1, Int.toNat_natCast, ev]
  by_cases hx : x1 = -1
  · have hx1 : (x1 != -1) = false := by simp [hx]
    have e : lr2 x1 rates.High v = v := by unfold lr2; rw [if_neg (fun hh => hh.1 hx)]
    rw [hx1, e]
    exact ⟨w1, h, (h8 w1 v h).1, (h8 w1 v h).2⟩
  have hx1 : (x1 != -1) = true := by simp [hx]
  rw [hx1]
  by_cases hE : v.Energy ≥ x1
  · have e : lr2 x1 rates.High v = ⟨v.Energy, ⟨v.Rate.Low, if rates.High < v.Rate.High then rates.High else v.Rate.High⟩⟩ := by unfold lr2; rw [if_pos ⟨hx, hE⟩]
    rw [decide_eq_true hE, e]
    have hu := upd_set (v := ⟨v.Energy, ⟨v.Rate.Low, if rates.High < v.Rate.High then rates.High else v.Rate.High⟩⟩) h
    exact ⟨_, hu, (h8 _ _ hu).1, (h8 _ _ hu).2⟩
  · have e : lr2 x1 rates.High v = v := by unfold lr2; rw [if_neg (fun hh => hE hh.2)]
    rw [decide_eq_false hE, e]
    exact ⟨w1, h, (h8 w1 v h).1, (h8 w1 v h).2⟩
def LW (s : Sky) (b : Nat) (y rates : Span) (w : Sl (Sl FluxRow)) : Prop := w.len = s.Bins.len ∧ ∀ i, i < s.Bins.len → (w.get i).len = (s.Bins.get i).len ∧ ∀ j, j < (s.Bins.get i).len → (w.get i).get j = if i = b then lrn y rates ((s.Bins.get i).get j) else (s.Bins.get i).get j
def BadAt (s : Sky) (b : Nat) (y rates : Span) : Prop := ∃ j, j < (s.Bins.get b).len ∧ badR (lrn y rates ((s.Bins.get b).get j)) = true
theorem lp6_33 {s : Sky} {bin : Int} {rates y : Span} {w5 : Sl (Sl FluxRow)} (hs : SOk s) (hb : 0 ≤ bin ∧ bin < (s.Bins.len : Int)) (h5 : w5.len = s.Bins.len ∧ ∀ i, i < s.Bins.len → w5.get i = s.Bins.get i) :
    ∀ (m q k : Nat) (w : Sl (Sl FluxRow)), k + m = (s.Bins.get bin.toNat).len → m < q →
      (w.len = s.Bins.len ∧ ∀ i, i < s.Bins.len → (w.get i).len = (s.Bins.get i).len ∧ ∀ j, j < (s.Bins.get i).len → (w.get i).get j = if i = bin.toNat ∧ j < k then lrn y rates ((s.Bins.get i).get j) else (s.Bins.get i).get j) →
      p33_lp6 s bin rates y.Low y.High w5 q (k : Int) w = true ∧
      (((∃ j, k ≤ j ∧ j < (s.Bins.get bin.toNat).len ∧ badR (lrn y rates ((s.Bins.get bin.toNat).get j)) = true) ∧ s33_lp6 s bin rates y.Low y.High w5 q (k : Int) w = (zsky, 5)) ∨
       ((∀ j, k ≤ j → j < (s.Bins.get bin.toNat).len → badR (lrn y rates ((s.Bins.get bin.toNat).get j)) = false) ∧ ∃ W, LW s bin.toNat y rates W ∧ s33_lp6 s bin rates y.Low y.High w5 q (k : Int) w = (⟨s.Parts, W, s.Beta, s.Alpha⟩, 0))) := by
  have hbn : bin.toNat < s.Bins.len := by omega
  have hbk := hs.2 bin.toNat hbn
  have hlen := hbk.1
  intro m
  induction m with
  | zero =>
    intro q k w hk hq hw
    obtain ⟨q, rfl⟩ : ∃ k', q = k' + 1 := ⟨q - 1, by omega⟩
    show p33_st6 s bin rates y.Low y.High w5 (p33_lp6 s bin rates y.Low y.High w5 q) _ _ = true ∧ (_ ∧ s33_st6 s bin rates y.Low y.High w5 (s33_lp6 s bin rates y.Low y.High w5 q) _ _ = _ ∨ _ ∧ ∃ W, _ ∧ s33_st6 s bin rates y.Low y.High w5 (s33_lp6 s bin rates y.Low y.High w5 q) _ _ = _)
    unfold p33_st6 s33_st6
    have e5 : (((fun i => (w5.get i).len) bin.toNat : Nat) : Int) = ((s.Bins.get bin.toNat).len : Int) := by show ((w5.get bin.toNat).len : Int) = _; rw [h5.2 _ hbn]
    rw [e5, decide_eq_false (by omega)]
    refine ⟨rfl, Or.inr ⟨fun j h1 h2 => absurd h2 (by omega), w, ⟨hw.1, fun i hi => ⟨(hw.2 i hi).1, fun j hj => ?_⟩⟩, rfl⟩⟩
    rw [(hw.2 i hi).2 j hj]
    by_cases e : i = bin.toNat
    · rw [if_pos e, if_pos ⟨e, by rw [e] at hj; omega⟩]
    · rw [if_neg e, if_neg fun h => e h.1]
  | succ m ih =>
    intro q k w hk hq hw
    obtain ⟨q, rfl⟩ : ∃ k', q = k' + 1 := ⟨q - 1, by omega⟩
    show p33_st6 s bin rates y.Low y.High w5 (p33_lp6 s bin rates y.Low y.High w5 q) _ _ = true ∧ (_ ∧ s33_st6 s bin rates y.Low y.High w5 (s33_lp6 s bin rates y.Low y.High w5 q) _ _ = _ ∨ _ ∧ ∃ W, _ ∧ s33_st6 s bin rates y.Low y.High w5 (s33_lp6 s bin rates y.Low y.High w5 q) _ _ = _)
    have ihq := fun w => ih q (k + 1) w (by omega) (by omega)
    have hkl : k < (s.Bins.get bin.toNat).len := by omega
    obtain ⟨hwl, hwr⟩ := hw.2 bin.toNat hbn
    have hwk := hwr k hkl
    rw [if_neg (fun h => absurd h.2 (by omega))] at hwk
    have hww : bin.toNat < w.len ∧ k < (w.get bin.toNat).len := ⟨by rw [hw.1]; exact hbn, by rw [hwl]; exact hkl⟩
    -- what follows a row that is set anew
    have fin : ∀ w2, Upd bin.toNat k (lrn y rates ((s.Bins.get bin.toNat).get k)) w w2 → badR (lrn y rates ((s.Bins.get bin.toNat).get k)) = false →
        (w2.len = s.Bins.len ∧ ∀ i, i < s.Bins.len → (w2.get i).len = (s.Bins.get i).len ∧ ∀ j, j < (s.Bins.get i).len → (w2.get i).get j = if i = bin.toNat ∧ j < k + 1 then lrn y rates ((s.Bins.get i).get j) else (s.Bins.get i).get j) := by
      intro w2 hu hb0
      refine ⟨hu.1.trans hw.1, fun i hi => ⟨(hu.2 i).1.trans (hw.2 i hi).1, fun j hj => ?_⟩⟩
      rw [(hu.2 i).2 j, (hw.2 i hi).2 j hj]
      by_cases e : i = bin.toNat
      · subst e
        by_cases e2 : j = k
        · subst e2; rw [if_pos ⟨rfl, rfl⟩, if_pos ⟨rfl, by omega⟩]
        · rw [if_neg (fun h => e2 h.2)]
          by_cases e3 : j < k
          · rw [if_pos ⟨rfl, e3⟩, if_pos ⟨rfl, by omega⟩]
          · rw [if_neg (fun h => e3 h.2), if_neg (fun h => absurd h.2 (by omega))]
      · rw [if_neg (fun h => e h.1), if_neg (fun h => e h.1), if_neg (fun h => e h.1)]
    have key : ∀ w1, Upd bin.toNat k (lr1 y.Low rates.Low ((s.Bins.get bin.toNat).get k)) w w1 →
        p33_at7 (p33_lp6 s bin rates y.Low y.High w5 q) s bin rates y.Low y.High w5 (k : Int) w (k : Int) w1 = true ∧
        (((∃ j, k ≤ j ∧ j < (s.Bins.get bin.toNat).len ∧ badR (lrn y rates ((s.Bins.get bin.toNat).get j)) = true) ∧ s33_at7 (s33_lp6 s bin rates y.Low y.High w5 q) s bin rates y.Low y.High w5 (k : Int) w (k : Int) w1 = (zsky, 5)) ∨
         ((∀ j, k ≤ j → j < (s.Bins.get bin.toNat).len → badR (lrn y rates ((s.Bins.get bin.toNat).get j)) = false) ∧ ∃ W, LW s bin.toNat y rates W ∧ s33_at7 (s33_lp6 s bin rates y.Low y.High w5 q) s bin rates y.Low y.High w5 (k : Int) w (k : Int) w1 = (⟨s.Parts, W, s.Beta, s.Alpha⟩, 0))) := by
      intro w1 hu
      obtain ⟨w2, hu2, r1, r2⟩ := at7_33 (s := s) (bin := bin) (rates := rates) (x0 := y.Low) (x1 := y.High) (w5 := w5) (s33_lp6 s bin rates y.Low y.High w5 q) (p33_lp6 s bin rates y.Low y.High w5 q) (show k < 1000 by omega) hww hu
      have hu2 : Upd bin.toNat k (lrn y rates ((s.Bins.get bin.toNat).get k)) w w2 := hu2
      have eb : badR (lr2 y.High rates.High (lr1 y.Low rates.Low ((s.Bins.get bin.toNat).get k))) = badR (lrn y rates ((s.Bins.get bin.toNat).get k)) := rfl
      rw [r1, r2, eb]
      cases hbd : badR (lrn y rates ((s.Bins.get bin.toNat).get k))
      · obtain ⟨i1, i2⟩ := ihq w2 (fin w2 hu2 hbd)
        refine ⟨i1, ?_⟩
        rcases i2 with ⟨⟨j, j1, j2, j3⟩, i3⟩ | ⟨j1, i3⟩
        · exact Or.inl ⟨⟨j, by omega, j2, j3⟩, i3⟩
        · refine Or.inr ⟨fun j h1 h2 => ?_, i3⟩
          by_cases e : j = k
          · rw [e]; exact hbd
          · exact j1 j (by omega) h2
      · exact ⟨rfl, Or.inl ⟨⟨k, Nat.le_refl _, hkl, hbd⟩, rfl⟩⟩
    unfold p33_st6 s33_st6
    have e5 : (((fun i => (w5.get i).len) bin.toNat : Nat) : Int) = ((s.Bins.get bin.toNat).len : Int) := by show ((w5.get bin.toNat).len : Int) = _; rw [h5.2 _ hbn]
    have ew : (((fun i => (w.get i).len) bin.toNat : Nat) : Int) = ((s.Bins.get bin.toNat).len : Int) := by show ((w.get bin.toNat).len : Int) = _; rw [hwl]
    have d1 : decide (bin.toNat < w.len ∧ (k : Int).toNat < (fun i => (w.get i).len) bin.toNat) = true := decide_eq_true ⟨hww.1, by show (k : Int).toNat < (w.get bin.toNat).len; rw [Int.toNat_natCast]; exact hww.2⟩
    rw [d1, e5, ew, decide_eq_true (show (k : Int) < ((s.Bins.get bin.toNat).len : Int) by omega), decide_eq_true (show 0 ≤ bin ∧ bin < (w.len : Int) by rw [hw.1]; exact hb), decide_eq_true hww.1, decide_eq_true (show bin.toNat < w.len ∧ 0 ≤ (k : Int) ∧ (k : Int) < ((s.Bins.get bin.toNat).len : Int) from ⟨hww.1, by omega, by omega⟩), Int.toNat_natCast, hwk]
    by_cases hE : ((s.Bins.get bin.toNat).get k).Energy ≤ y.Low
    · rw [decide_eq_true hE]
      have e : lr1 y.Low rates.Low ((s.Bins.get bin.toNat).get k) = ⟨((s.Bins.get bin.toNat).get k).Energy, ⟨if rates.Low > ((s.Bins.get bin.toNat).get k).Rate.Low then rates.Low else ((s.Bins.get bin.toNat).get k).Rate.Low, ((s.Bins.get bin.toNat).get k).Rate.High⟩⟩ := by unfold lr1; rw [if_pos hE]
      have hu := upd_set (v := ⟨((s.Bins.get bin.toNat).get k).Energy, ⟨if rates.Low > ((s.Bins.get bin.toNat).get k).Rate.Low then rates.Low else ((s.Bins.get bin.toNat).get k).Rate.Low, ((s.Bins.get bin.toNat).get k).Rate.High⟩⟩) (upd_id bin.toNat k w)
      rw [← e] at hu
      have r := key _ hu
      rw [e] at r
      exact r
    · rw [decide_eq_false hE]
      have e : lr1 y.Low rates.Low ((s.Bins.get bin.toNat).get k) = (s.Bins.get bin.toNat).get k := by unfold lr1; rw [if_neg hE]
      have hu := upd_id bin.toNat k w
      rw [hwk, ← e] at hu
      exact key _ hu
theorem lp4_33 {s : Sky} {bin : Int} {rates y : Span} (hs : SOk s) (hb : 0 ≤ bin ∧ bin < (s.Bins.len : Int)) :
    ∀ (m q i : Nat) (w : Sl (Sl FluxRow)), i + m = s.Bins.len → m < q → w.len = i → (∀ j, j < i → w.get j = s.Bins.get j) →
      p33_lp4 s bin rates s.Bins y.Low y.High q (i : Int) w = true ∧
      ((BadAt s bin.toNat y rates ∧ s33_lp4 s bin rates s.Bins y.Low y.High q (i : Int) w = (zsky, 5)) ∨
       (¬ BadAt s bin.toNat y rates ∧ ∃ W, LW s bin.toNat y rates W ∧ s33_lp4 s bin rates s.Bins y.Low y.High q (i : Int) w = (⟨s.Parts, W, s.Beta, s.Alpha⟩, 0))) := by
  have hlen := hs.1.2.1
  intro m
  induction m with
  | zero =>
    intro q i w hi hq hl hw
    obtain ⟨q, rfl⟩ : ∃ k', q = k' + 1 := ⟨q - 1, by omega⟩
    show p33_st4 s bin rates s.Bins y.Low y.High (p33_lp4 s bin rates s.Bins y.Low y.High q) _ _ = true ∧ (_ ∧ s33_st4 s bin rates s.Bins y.Low y.High (s33_lp4 s bin rates s.Bins y.Low y.High q) _ _ = _ ∨ _ ∧ ∃ W, _ ∧ s33_st4 s bin rates s.Bins y.Low y.High (s33_lp4 s bin rates s.Bins y.Low y.High q) _ _ = _)
    unfold p33_st4 s33_st4
    rw [decide_eq_false (show ¬ (i : Int) < (s.Bins.len : Int) by omega), cond_false, cond_false]
    unfold p33_at5 s33_at5
    have hwl : w.len = s.Bins.len := by omega
    rw [decide_eq_true (show 0 ≤ bin ∧ bin < (w.len : Int) by rw [hwl]; exact hb), decide_eq_true (show bin.toNat < w.len by omega)]
    have h := lp6_33 (rates := rates) (y := y) (w5 := w) hs hb ⟨hwl, fun i hi => hw i (by omega)⟩ (s.Bins.get bin.toNat).len Fuel 0 w (by omega) (by have := (hs.2 bin.toNat (by omega)).1; simp only [Fuel]; omega)
      ⟨hwl, fun i hi => ⟨by rw [hw i (by omega)], fun j hj => by rw [hw i (by omega), if_neg (fun h => absurd h.2 (by omega))]⟩⟩
    refine ⟨by simpa [p33_at6] using h.1, ?_⟩
    rcases h.2 with ⟨⟨j, _, j2, j3⟩, h3⟩ | ⟨j1, h3⟩
    · exact Or.inl ⟨⟨j, j2, j3⟩, h3⟩
    · exact Or.inr ⟨fun ⟨j, j2, j3⟩ => absurd (j3.symm.trans (j1 j (by omega) j2)) (by decide), h3⟩
  | succ m ih =>
    intro q i w hi hq hl hw
    obtain ⟨q, rfl⟩ : ∃ k', q = k' + 1 := ⟨q - 1, by omega⟩
    show p33_st4 s bin rates s.Bins y.Low y.High (p33_lp4 s bin rates s.Bins y.Low y.High q) _ _ = true ∧ (_ ∧ s33_st4 s bin rates s.Bins y.Low y.High (s33_lp4 s bin rates s.Bins y.Low y.High q) _ _ = _ ∨ _ ∧ ∃ W, _ ∧ s33_st4 s bin rates s.Bins y.Low y.High (s33_lp4 s bin rates s.Bins y.Low y.High q) _ _ = _)
    unfold p33_st4 s33_st4
    have e3 : w64 ((i : Int) + 1) = ((i + 1 : Nat) : Int) := by rw [w64_id (by omega) (by omega)]; omega
    have hbl := (hs.2 i (by omega)).1
    rw [decide_eq_true (show (i : Int) < (s.Bins.len : Int) by omega), decide_eq_true (show 0 ≤ (i : Int) ∧ (i : Int) < (s.Bins.len : Int) by omega), Int.toNat_natCast, e3, decide_eq_true (show (s.Bins.get i).len * 24 ≤ 140737488355328 ∧ (s.Bins.get i).len ≤ 9223372036854775807 by omega), decide_eq_true (show (w.len + 1) * 24 ≤ 140737488355328 ∧ w.len + 1 ≤ 9223372036854775807 by omega)]
    have r := ih q (i + 1) ⟨w.len + 1, appT w.len w.get (fun _ => ⟨(s.Bins.get i).len, (s.Bins.get i).get⟩)⟩ (by omega) (by omega) (by show w.len + 1 = i + 1; omega) (fun j hj => by
      show appT w.len w.get (fun _ => ⟨(s.Bins.get i).len, (s.Bins.get i).get⟩) j = _
      unfold appT
      cases e : Nat.ble w.len j
      · have : ¬ w.len ≤ j := fun h => by rw [Nat.ble_eq_true_of_le h] at e; cases e
        exact hw j (by omega)
      · have := Nat.le_of_ble_eq_true e
        have : j = i := by omega
        rw [this])
    exact r
theorem s33_ok (s : Sky) (t : Sl RangeRow) (bin x : Int) (rates : Span) (hs : SL s) (ht : t.len ≤ 9223372036854775807) : p33 s t bin x rates = true ∧
    (¬ (Fine s t bin x ∧ 0 ≤ rates.Low ∧ rates.Low ≤ rates.High ∧ rates.High ≤ s.Parts) → s33 s t bin x rates = (zsky, 2)) ∧
    (Fine s t bin x ∧ 0 ≤ rates.Low ∧ rates.Low ≤ rates.High ∧ rates.High ≤ s.Parts →
      ((BadAt s bin.toNat (thr t x) rates ∧ s33 s t bin x rates = (zsky, 5)) ∨ (¬ BadAt s bin.toNat (thr t x) rates ∧ ∃ W, LW s bin.toNat (thr t x) rates W ∧ s33 s t bin x rates = (⟨s.Parts, W, s.Beta, s.Alpha⟩, 0)))) := by
  obtain ⟨h1, h2⟩ := s65_ok s t bin x hs ht
  unfold p33 s33 p33_at0 s33_at0 p33_at1 s33_at1
  rw [h1, s69_eq]
  by_cases hf : Fine s t bin x
  · rw [h2.2 hf]
    by_cases hr : 0 ≤ rates.Low ∧ rates.Low ≤ rates.High ∧ rates.High ≤ s.Parts
    · rw [decide_eq_true hr]
      unfold p33_at2 s33_at2
      obtain ⟨e1, e2⟩ := s64_eq t x hf.2.1
      rw [e1, e2]
      have r := lp4_33 (rates := rates) (y := thr t x) hf.1 hf.2.2.1 s.Bins.len Fuel 0 ⟨0, (fun _ => ⟨0, fun _ => default⟩)⟩ (by omega) (by have := hf.1.1.2.1; simp only [Fuel]; omega) rfl (fun j h => absurd h (by omega))
      refine ⟨?_, fun h => absurd ⟨hf, hr⟩ h, fun _ => ?_⟩
      · have := r.1
        simpa [p33_at3, p33_at4] using this
      · exact r.2
    · rw [decide_eq_false hr]
      exact ⟨rfl, fun _ => rfl, fun h => absurd h.2 hr⟩
  · have h3 : (s65 s t bin x).2 = false := by
      cases e : (s65 s t bin x).2
      · rfl
      · exact absurd (h2.1 e) hf
    rw [h3]
    exact ⟨rfl, fun _ => rfl, fun h => absurd h.1 hf⟩
end Go.Proofs
namespace Go.Proofs
open Go Go.Pm
set_option linter.unusedVariables false
theorem lrn_in {y rates : Span} {r : FluxRow} {c : Int} (h1 : r.Rate.Low ≤ c ∧ c ≤ r.Rate.High) (h2 : r.Energy ≤ y.Low → rates.Low ≤ c) (h3 : y.High ≠ -1 → r.Energy ≥ y.High → c ≤ rates.High) :
    (lrn y rates r).Energy = r.Energy ∧ (lrn y rates r).Rate.Low ≤ c ∧ c ≤ (lrn y rates r).Rate.High := by
  have a : (lr1 y.Low rates.Low r).Energy = r.Energy ∧ (lr1 y.Low rates.Low r).Rate.Low ≤ c ∧ (lr1 y.Low rates.Low r).Rate.High = r.Rate.High := by
    unfold lr1
    by_cases h : r.Energy ≤ y.Low
    · rw [if_pos h]
      refine ⟨rfl, ?_, rfl⟩
      have := h2 h
      show (if rates.Low > r.Rate.Low then rates.Low else r.Rate.Low) ≤ c
      split <;> omega
    · rw [if_neg h]; exact ⟨rfl, h1.1, rfl⟩
  unfold lrn
  generalize lr1 y.Low rates.Low r = r1 at a
  obtain ⟨a1, a2, a3⟩ := a
  unfold lr2
  by_cases h : y.High ≠ -1 ∧ r1.Energy ≥ y.High
  · rw [if_pos h]
    refine ⟨a1, a2, ?_⟩
    have := h3 h.1 (by omega)
    show c ≤ (if rates.High < r1.Rate.High then rates.High else r1.Rate.High)
    split <;> omega
  · rw [if_neg h]; exact ⟨a1, a2, by omega⟩
theorem at3_7 {s : Sky} {t : Sl RangeRow} {bin x : Int} {n : Nature} {less more rate : Int} (hs : SL s) (ht : t.len ≤ 9223372036854775807) (hf : Fine s t bin x) (hn : NOk t (s.Bins.get bin.toNat) n) (hl : 0 ≤ less) (hm : 0 ≤ more)
    (hr : (0 ≤ rate ∧ rate ≤ s.Parts) ∧ (∀ e, e ≤ (thr t x).Low → rate ≤ comg (s.Bins.get bin.toNat) n e) ∧ ((thr t x).High ≠ -1 → ∀ e, e ≥ (thr t x).High → comg (s.Bins.get bin.toNat) n e ≤ rate)) :
    p7_at3 s t bin n x less more rate s.Bins = true ∧ s7_at3 s t bin n x less more rate s.Bins = true := by
  have hp := hf.1.1.1
  have hb := hf.b
  have hbn : bin.toNat < s.Bins.len := by have := hf.2.2.1; omega
  obtain ⟨q1, q2, q3, q4⟩ := rsp_ok hp.2 hr.1 hl hm
  have eS : (⟨(if w64 (rate - (if rate < less then rate else less)) > 0 then w64 (rate - (if rate < less then rate else less)) else 0), w64 (rate + (if w64 (s.Parts - rate) < more then w64 (s.Parts - rate) else more))⟩ : Span) = rsp s.Parts rate less more := rfl
  unfold p7_at3 s7_at3
  rw [show (⟨s.Parts, s.Bins, s.Beta, s.Alpha⟩ : Sky) = s from rfl, eS]
  generalize rsp s.Parts rate less more = rates at *
  obtain ⟨u1, _, u3⟩ := s33_ok s t bin x rates hs ht
  have hin : ∀ i, i < (s.Bins.get bin.toNat).len → (lrn (thr t x) rates ((s.Bins.get bin.toNat).get i)).Energy = ((s.Bins.get bin.toNat).get i).Energy ∧ (lrn (thr t x) rates ((s.Bins.get bin.toNat).get i)).Rate.Low ≤ comg (s.Bins.get bin.toNat) n ((s.Bins.get bin.toNat).get i).Energy ∧ comg (s.Bins.get bin.toNat) n ((s.Bins.get bin.toNat).get i).Energy ≤ (lrn (thr t x) rates ((s.Bins.get bin.toNat).get i)).Rate.High := by
    intro i hi
    refine lrn_in ?_ (fun h => ?_) (fun h h' => ?_)
    · rw [comg_row hb n hi]; exact qmn_in hp.2 hb hn hi
    · have := hr.2.1 _ h; omega
    · have := hr.2.2 h _ h'; omega
  have hnb : ¬ BadAt s bin.toNat (thr t x) rates := by
    intro ⟨j, j1, j2⟩
    have := hin j j1
    have := of_decide_eq_true j2
    omega
  rcases u3 ⟨hf, q1, by omega, q4⟩ with ⟨h, _⟩ | ⟨_, W, hW, e⟩
  · exact absurd h hnb
  rw [u1, e]
  obtain ⟨w1, w2⟩ := hW
  obtain ⟨w3, w4⟩ := w2 bin.toNat hbn
  have key : ∀ m k i : Nat, i + m = (s.Bins.get bin.toNat).len → m < k → p7_lp6 s bin n s.Parts W s.Beta.Low s.Beta.High s.Alpha.Low s.Alpha.High k i s.Bins = true ∧ s7_lp6 s bin n s.Parts W s.Beta.Low s.Beta.High s.Alpha.Low s.Alpha.High k i s.Bins = true := by
    intro m
    induction m with
    | zero =>
      intro k i hi hm
      obtain ⟨k, rfl⟩ : ∃ k', k = k' + 1 := ⟨k - 1, by omega⟩
      show p7_st6 s bin n s.Parts W s.Beta.Low s.Beta.High s.Alpha.Low s.Alpha.High (p7_lp6 s bin n s.Parts W s.Beta.Low s.Beta.High s.Alpha.Low s.Alpha.High k) _ _ = true ∧ s7_st6 s bin n s.Parts W s.Beta.Low s.Beta.High s.Alpha.Low s.Alpha.High (s7_lp6 s bin n s.Parts W s.Beta.Low s.Beta.High s.Alpha.Low s.Alpha.High k) _ _ = true
      unfold p7_st6 s7_st6
      rw [w3, decide_eq_false (show ¬ (i : Int) < ((s.Bins.get bin.toNat).len : Int) by omega), w1, decide_eq_true hf.2.2.1]
      exact ⟨rfl, rfl⟩
    | succ m ih =>
      intro k i hi hm
      obtain ⟨k, rfl⟩ : ∃ k', k = k' + 1 := ⟨k - 1, by omega⟩
      show p7_st6 s bin n s.Parts W s.Beta.Low s.Beta.High s.Alpha.Low s.Alpha.High (p7_lp6 s bin n s.Parts W s.Beta.Low s.Beta.High s.Alpha.Low s.Alpha.High k) _ _ = true ∧ s7_st6 s bin n s.Parts W s.Beta.Low s.Beta.High s.Alpha.Low s.Alpha.High (s7_lp6 s bin n s.Parts W s.Beta.Low s.Beta.High s.Alpha.Low s.Alpha.High k) _ _ = true
      have hlen := hb.1
      have hil : i < (s.Bins.get bin.toNat).len := by omega
      have e3 : w64 ((i : Int) + 1) = ((i + 1 : Nat) : Int) := by rw [w64_id (by omega) (by omega)]; omega
      have hwi := w4 i hil
      rw [if_pos rfl] at hwi
      obtain ⟨r1, r2, r3⟩ := hin i hil
      have hE := (hb.2.2 i hil).1
      obtain ⟨c1, c2⟩ := s32_eq (s.Bins.get bin.toNat) n ((s.Bins.get bin.toNat).get i).Energy hb hn.1.2 hE.1
      unfold p7_st6 s7_st6
      rw [w3, w1, decide_eq_true (show (i : Int) < ((s.Bins.get bin.toNat).len : Int) by omega), decide_eq_true hf.2.2.1, decide_eq_true (show 0 ≤ (i : Int) ∧ (i : Int) < ((s.Bins.get bin.toNat).len : Int) by omega), Int.toNat_natCast, hwi, r1, c1, c2]
      unfold p7_at7 s7_at7
      rw [decide_eq_true hf.2.2.1, decide_eq_true (show 0 ≤ (i : Int) ∧ (i : Int) < ((s.Bins.get bin.toNat).len : Int) by omega), Int.toNat_natCast, bne_self_eq_false, e3, decide_eq_false (show ¬ comg (s.Bins.get bin.toNat) n ((s.Bins.get bin.toNat).get i).Energy < (lrn (thr t x) rates ((s.Bins.get bin.toNat).get i)).Rate.Low by omega), decide_eq_false (show ¬ comg (s.Bins.get bin.toNat) n ((s.Bins.get bin.toNat).get i).Energy > (lrn (thr t x) rates ((s.Bins.get bin.toNat).get i)).Rate.High by omega)]
      have r := ih k (i + 1) (by omega) (by omega)
      exact ⟨r.1, r.2⟩
  have r := key (s.Bins.get bin.toNat).len Fuel 0 (by omega) (by have := hb.1; simp only [Fuel]; omega)
  unfold p7_at4 s7_at4
  simp only [decide_true, Bool.true_and, bne_self_eq_false, cond_false, w1, w3, decide_eq_true hf.2.2.1]
  exact r
theorem law7 (s : Sky) (t : Sl RangeRow) (bin : Int) (n : Nature) (x less more : Int) (hs : SL s) (ht : t.len ≤ 9223372036854775807) : p7 s t bin n x less more = true ∧ s7 s t bin n x less more = true := by
  unfold p7 s7 p7_at0 s7_at0
  obtain ⟨c1, c2⟩ := s16_ok s hs
  obtain ⟨d1, d2⟩ := s17_ok t ht
  obtain ⟨_, e1⟩ := s75_ok s hs
  obtain ⟨_, e2⟩ := s62_ok t ht
  rw [s15_p s t hs, c1, c2, d1, d2]
  cases s15 s t
  · exact ⟨rfl, rfl⟩
  cases h1 : s75 s
  · exact ⟨rfl, rfl⟩
  cases h2 : s62 t
  · exact ⟨rfl, rfl⟩
  by_cases h3 : bin < 0
  · rw [decide_eq_true h3]; exact ⟨rfl, rfl⟩
  by_cases h4 : bin ≥ (s.Bins.len : Int)
  · rw [decide_eq_false h3, decide_eq_true h4]; exact ⟨rfl, rfl⟩
  have hbn : bin.toNat < s.Bins.len := by omega
  obtain ⟨n1, n2⟩ := s31_ok t (s.Bins.get bin.toNat) n ht (hs.2 _ hbn)
  rw [decide_eq_false h3, decide_eq_false h4, n1, decide_eq_true (show 0 ≤ bin ∧ bin < (s.Bins.len : Int) by omega)]
  cases h7 : s31 n (t.len : Int) ((s.Bins.get bin.toNat).len : Int)
  · exact ⟨rfl, rfl⟩
  by_cases h5 : x < 0
  · rw [decide_eq_true h5]; exact ⟨rfl, rfl⟩
  by_cases h6 : x > 1000000
  · rw [decide_eq_false h5, decide_eq_true h6]; exact ⟨rfl, rfl⟩
  by_cases i1 : less < 0
  · rw [decide_eq_false h5, decide_eq_false h6, decide_eq_true i1]; exact ⟨rfl, rfl⟩
  by_cases i2 : more < 0
  · rw [decide_eq_false h5, decide_eq_false h6, decide_eq_false i1, decide_eq_true i2]; exact ⟨rfl, rfl⟩
  rw [decide_eq_false h5, decide_eq_false h6, decide_eq_false i1, decide_eq_false i2]
  have hf : Fine s t bin x := ⟨e1.1 h1, e2.1 h2, ⟨by omega, by omega⟩, ⟨by omega, by omega⟩⟩
  have hn := n2 h7
  have hp := hf.1.1.1
  have hb := hf.b
  have ok := trate_ok (x := x) ⟨by omega, hp.2⟩ hf.2.1 hb hn (by omega)
  have r : p7_at1 s t bin n x less more s.Bins = true ∧ s7_at1 s t bin n x less more s.Bins = true := by
    obtain ⟨m1, m2, m3, _, _⟩ := s21_ok t n x hf.2.1 hn.1.1
    unfold p7_at1 s7_at1 p7_at2 s7_at2
    rw [m1, decide_eq_true hf.2.2.1]
    unfold trate at ok
    by_cases h0 : x = 0
    · rw [if_pos h0] at ok
      obtain ⟨c1, c2⟩ := s32_eq (s.Bins.get bin.toNat) n 1 hb hn.1.2 (Int.le_refl _)
      rw [show (x == 0) = true by simp [h0], c1, c2]
      have r := at3_7 (rate := comg (s.Bins.get bin.toNat) n 1) (less := less) (more := more) hs ht hf hn (by omega) (by omega) ok
      exact ⟨r.1, r.2⟩
    rw [if_neg h0] at ok
    rw [show (x == 0) = false by simp [h0]]
    by_cases h8 : 0 < s21 t n x
    · rw [if_pos h8] at ok
      obtain ⟨c1, c2⟩ := s32_eq (s.Bins.get bin.toNat) n (s21 t n x) hb hn.1.2 (by omega)
      rw [decide_eq_true (show s21 t n x > 0 by omega), c1, c2]
      have r := at3_7 (rate := comg (s.Bins.get bin.toNat) n (s21 t n x)) (less := less) (more := more) hs ht hf hn (by omega) (by omega) ok
      exact ⟨r.1, r.2⟩
    · rw [if_neg h8] at ok
      rw [decide_eq_false (show ¬ s21 t n x > 0 by omega)]
      have r := at3_7 (rate := 0) (less := less) (more := more) hs ht hf hn (by omega) (by omega) ok
      exact ⟨r.1, r.2⟩
  exact ⟨r.1, r.2⟩
end Go.Proofs
