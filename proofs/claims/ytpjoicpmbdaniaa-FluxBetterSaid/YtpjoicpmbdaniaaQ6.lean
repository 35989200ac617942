/- Part 6 of what the proof rests on: a machine that runs functions of the program on pure values, proved sound; the functions that the law reaches, and what they compute. -/
import Derived.Test.YtpjoicpmbdaniaaQ5
set_option linter.all false
namespace Go.Proofs
open Go Go.Pm
set_option linter.unusedVariables false
def mz (z : Int) : Int := if z > 0 then z else 0
def mn2 (a b : Int) : Int := if b < a then b else a
def mx2 (a b : Int) : Int := if b > a then b else a
def mn4 (a b c d : Int) : Int := mn2 (mn2 (mn2 a b) c) d
def mx4 (a b c d : Int) : Int := mx2 (mx2 (mx2 a b) c) d
theorem mn4_spec (a b c d : Int) : (mn4 a b c d ≤ a ∧ mn4 a b c d ≤ b ∧ mn4 a b c d ≤ c ∧ mn4 a b c d ≤ d) ∧ (mn4 a b c d = a ∨ mn4 a b c d = b ∨ mn4 a b c d = c ∨ mn4 a b c d = d) := by
  unfold mn4 mn2
  repeat' split
  all_goals omega
theorem mx4_spec (a b c d : Int) : (a ≤ mx4 a b c d ∧ b ≤ mx4 a b c d ∧ c ≤ mx4 a b c d ∧ d ≤ mx4 a b c d) ∧ (mx4 a b c d = a ∨ mx4 a b c d = b ∨ mx4 a b c d = c ∨ mx4 a b c d = d) := by
  unfold mx4 mx2
  repeat' split
  all_goals omega
theorem mul_line {a b c x : Int} (h1 : a ≤ x) (h2 : x ≤ b) : (a * c ≤ x * c ∨ b * c ≤ x * c) ∧ (x * c ≤ a * c ∨ x * c ≤ b * c) := by
  rcases Int.le_total 0 c with h | h
  · exact ⟨Or.inl (Int.mul_le_mul_of_nonneg_right h1 h), Or.inr (Int.mul_le_mul_of_nonneg_right h2 h)⟩
  · exact ⟨Or.inr (Int.mul_le_mul_of_nonpos_right h2 h), Or.inl (Int.mul_le_mul_of_nonpos_right h1 h)⟩
theorem mul_in {a b c d x y : Int} (h1 : a ≤ x ∧ x ≤ b) (h2 : c ≤ y ∧ y ≤ d) : mn4 (a * c) (a * d) (b * c) (b * d) ≤ x * y ∧ x * y ≤ mx4 (a * c) (a * d) (b * c) (b * d) := by
  have k1 := mul_line (c := y) h1.1 h1.2
  have k2 := mul_line (c := a) h2.1 h2.2
  have k3 := mul_line (c := b) h2.1 h2.2
  rw [Int.mul_comm c a, Int.mul_comm y a, Int.mul_comm d a] at k2
  rw [Int.mul_comm c b, Int.mul_comm y b, Int.mul_comm d b] at k3
  have m := (mn4_spec (a * c) (a * d) (b * c) (b * d)).1
  have n := (mx4_spec (a * c) (a * d) (b * c) (b * d)).1
  omega
theorem mul_b {x y p q : Int} (hp : 0 ≤ p) (hq : 0 ≤ q) (h1 : -p ≤ x ∧ x ≤ p) (h2 : -q ≤ y ∧ y ≤ q) : -(p * q) ≤ x * y ∧ x * y ≤ p * q := by
  have h := mul_in h1 h2
  have e1 : -p * -q = p * q := Int.neg_mul_neg p q
  have e2 : -p * q = -(p * q) := Int.neg_mul p q
  have e3 : p * -q = -(p * q) := Int.mul_neg p q
  rw [e1, e2, e3] at h
  have m := (mn4_spec (p * q) (-(p * q)) (-(p * q)) (p * q)).2
  have n := (mx4_spec (p * q) (-(p * q)) (-(p * q)) (p * q)).2
  have := Int.mul_nonneg hp hq
  omega
def WOk (w : Weather) : Prop := (-1000 ≤ w.Pressure.Low ∧ w.Pressure.Low ≤ w.Pressure.High ∧ w.Pressure.High ≤ 1000) ∧ (-1000 ≤ w.Warm.Low ∧ w.Warm.Low ≤ w.Warm.High ∧ w.Warm.High ≤ 1000)
theorem s76_eq (w : Weather) : s76 w = true ↔ WOk w := by
  unfold s76 WOk
  rw [s69_eq, s69_eq]
  simp only [Bool.cond_decide, Bool.if_false_right, Bool.and_eq_true, decide_eq_true_eq]
theorem s36_eq (w : Weather) : s36 w = s76 w := by
  unfold s36 s76
  rw [s69_eq, s69_eq, s29_eq, s29_eq]
def y117 (b p a x : Int) : Int := if w64 (w64 (1000 - w64 (b * p)) + w64 (a * x)) > 0 then w64 (w64 (1000 - w64 (b * p)) + w64 (a * x)) else 0
theorem y117_eq {b p a x : Int} (hb : -100 ≤ b ∧ b ≤ 100) (hp : -1000 ≤ p ∧ p ≤ 1000) (ha : -100 ≤ a ∧ a ≤ 100) (hx : -1000 ≤ x ∧ x ≤ 1000) : y117 b p a x = mz (1000 - b * p + a * x) := by
  have h1 := mul_b (p := 100) (q := 1000) (by omega) (by omega) hb hp
  have h2 := mul_b (p := 100) (q := 1000) (by omega) (by omega) ha hx
  unfold y117 mz
  rw [w64_id (x := b * p) (by omega) (by omega), w64_id (x := a * x) (by omega) (by omega), w64_id (x := 1000 - b * p) (by omega) (by omega), w64_id (by omega) (by omega)]
theorem ys117_y (s : Sky) (w : Weather) : ys117 s w = [y117 s.Beta.Low w.Pressure.Low s.Alpha.Low w.Warm.Low, y117 s.Beta.Low w.Pressure.Low s.Alpha.Low w.Warm.High, y117 s.Beta.Low w.Pressure.Low s.Alpha.High w.Warm.Low, y117 s.Beta.Low w.Pressure.Low s.Alpha.High w.Warm.High,
    y117 s.Beta.Low w.Pressure.High s.Alpha.Low w.Warm.Low, y117 s.Beta.Low w.Pressure.High s.Alpha.Low w.Warm.High, y117 s.Beta.Low w.Pressure.High s.Alpha.High w.Warm.Low, y117 s.Beta.Low w.Pressure.High s.Alpha.High w.Warm.High,
    y117 s.Beta.High w.Pressure.Low s.Alpha.Low w.Warm.Low, y117 s.Beta.High w.Pressure.Low s.Alpha.Low w.Warm.High, y117 s.Beta.High w.Pressure.Low s.Alpha.High w.Warm.Low, y117 s.Beta.High w.Pressure.Low s.Alpha.High w.Warm.High,
    y117 s.Beta.High w.Pressure.High s.Alpha.Low w.Warm.Low, y117 s.Beta.High w.Pressure.High s.Alpha.Low w.Warm.High, y117 s.Beta.High w.Pressure.High s.Alpha.High w.Warm.Low, y117 s.Beta.High w.Pressure.High s.Alpha.High w.Warm.High] := rfl
def lmin : Int → List Int → Int
  | a, [] => a
  | a, y :: r => lmin (if y < a then y else a) r
def lmax : Int → List Int → Int
  | a, [] => a
  | a, y :: r => lmax (if y > a then y else a) r
theorem lmin_spec : ∀ (l : List Int) (a : Int), (lmin a l ≤ a ∧ ∀ y, y ∈ l → lmin a l ≤ y) ∧ (lmin a l = a ∨ lmin a l ∈ l)
  | [], a => ⟨⟨Int.le_refl _, fun y h => absurd h (by simp)⟩, Or.inl rfl⟩
  | y :: r, a => by
    obtain ⟨⟨h1, h2⟩, h3⟩ := lmin_spec r (if y < a then y else a)
    have e : lmin a (y :: r) = lmin (if y < a then y else a) r := rfl
    rw [e]
    have hq : (if y < a then y else a) ≤ a ∧ (if y < a then y else a) ≤ y ∧ ((if y < a then y else a) = a ∨ (if y < a then y else a) = y) := by split <;> omega
    generalize (if y < a then y else a) = q at h1 h2 h3 hq ⊢
    refine ⟨⟨by omega, fun z hz => ?_⟩, ?_⟩
    · rcases List.mem_cons.1 hz with e | e
      · omega
      · exact h2 z e
    · rcases h3 with e | e
      · rcases hq.2.2 with f | f
        · exact Or.inl (e.trans f)
        · exact Or.inr (by rw [e, f]; exact List.mem_cons_self)
      · exact Or.inr (List.mem_cons_of_mem _ e)
theorem lmax_spec : ∀ (l : List Int) (a : Int), (a ≤ lmax a l ∧ ∀ y, y ∈ l → y ≤ lmax a l) ∧ (lmax a l = a ∨ lmax a l ∈ l)
  | [], a => ⟨⟨Int.le_refl _, fun y h => absurd h (by simp)⟩, Or.inl rfl⟩
  | y :: r, a => by
    obtain ⟨⟨h1, h2⟩, h3⟩ := lmax_spec r (if y > a then y else a)
    have e : lmax a (y :: r) = lmax (if y > a then y else a) r := rfl
    rw [e]
    have hq : a ≤ (if y > a then y else a) ∧ y ≤ (if y > a then y else a) ∧ ((if y > a then y else a) = a ∨ (if y > a then y else a) = y) := by split <;> omega
    generalize (if y > a then y else a) = q at h1 h2 h3 hq ⊢
    refine ⟨⟨by omega, fun z hz => ?_⟩, ?_⟩
    · rcases List.mem_cons.1 hz with e | e
      · omega
      · exact h2 z e
    · rcases h3 with e | e
      · rcases hq.2.2 with f | f
        · exact Or.inl (e.trans f)
        · exact Or.inr (by rw [e, f]; exact List.mem_cons_self)
      · exact Or.inr (List.mem_cons_of_mem _ e)
theorem s77_lp (s : Sky) (w : Weather) : ∀ (l : List Int) (a b : Int), p77_lp0 s w l false a b = true ∧ s77_lp0 s w l false a b = ⟨lmin a l, lmax b l⟩
  | [], a, b => ⟨rfl, rfl⟩
  | y :: r, a, b => by
    obtain ⟨h1, h2⟩ := s77_lp s w r (if y < a then y else a) (if y > b then y else b)
    exact ⟨h1, h2⟩
theorem s77_cons (s : Sky) (w : Weather) (y : Int) (r : List Int) : p77_lp0 s w (y :: r) true 0 0 = true ∧ s77_lp0 s w (y :: r) true 0 0 = ⟨lmin y r, lmax y r⟩ := by
  have h := s77_lp s w r (if y < y then y else y) (if y > y then y else y)
  have e1 : (if y < y then y else y) = y := by split <;> rfl
  have e2 : (if y > y then y else y) = y := by split <;> rfl
  have h1 : p77_lp0 s w (y :: r) true 0 0 = p77_lp0 s w r false (if y < y then y else y) (if y > y then y else y) := rfl
  have h2 : s77_lp0 s w (y :: r) true 0 0 = s77_lp0 s w r false (if y < y then y else y) (if y > y then y else y) := rfl
  rw [h1, h2, h.1, h.2, e1]
  exact ⟨rfl, rfl⟩
def fcL (s : Sky) (w : Weather) : Int := mz (1000 - mx4 (s.Beta.Low * w.Pressure.Low) (s.Beta.Low * w.Pressure.High) (s.Beta.High * w.Pressure.Low) (s.Beta.High * w.Pressure.High) + mn4 (s.Alpha.Low * w.Warm.Low) (s.Alpha.Low * w.Warm.High) (s.Alpha.High * w.Warm.Low) (s.Alpha.High * w.Warm.High))
def fcH (s : Sky) (w : Weather) : Int := mz (1000 - mn4 (s.Beta.Low * w.Pressure.Low) (s.Beta.Low * w.Pressure.High) (s.Beta.High * w.Pressure.Low) (s.Beta.High * w.Pressure.High) + mx4 (s.Alpha.Low * w.Warm.Low) (s.Alpha.Low * w.Warm.High) (s.Alpha.High * w.Warm.Low) (s.Alpha.High * w.Warm.High))
theorem mz_mono {a b : Int} (h : a ≤ b) : mz a ≤ mz b := by
  unfold mz; split <;> split <;> omega
theorem all16 (b1 b2 b3 b4 a1 a2 a3 a4 : Int) :
    lmin (mz (1000 - b1 + a1)) [mz (1000 - b1 + a2), mz (1000 - b1 + a3), mz (1000 - b1 + a4), mz (1000 - b2 + a1), mz (1000 - b2 + a2), mz (1000 - b2 + a3), mz (1000 - b2 + a4), mz (1000 - b3 + a1), mz (1000 - b3 + a2), mz (1000 - b3 + a3), mz (1000 - b3 + a4), mz (1000 - b4 + a1), mz (1000 - b4 + a2), mz (1000 - b4 + a3), mz (1000 - b4 + a4)] = mz (1000 - mx4 b1 b2 b3 b4 + mn4 a1 a2 a3 a4) ∧
    lmax (mz (1000 - b1 + a1)) [mz (1000 - b1 + a2), mz (1000 - b1 + a3), mz (1000 - b1 + a4), mz (1000 - b2 + a1), mz (1000 - b2 + a2), mz (1000 - b2 + a3), mz (1000 - b2 + a4), mz (1000 - b3 + a1), mz (1000 - b3 + a2), mz (1000 - b3 + a3), mz (1000 - b3 + a4), mz (1000 - b4 + a1), mz (1000 - b4 + a2), mz (1000 - b4 + a3), mz (1000 - b4 + a4)] = mz (1000 - mn4 b1 b2 b3 b4 + mx4 a1 a2 a3 a4) := by
  obtain ⟨mb, eb⟩ := mx4_spec b1 b2 b3 b4
  obtain ⟨nb, fb⟩ := mn4_spec b1 b2 b3 b4
  obtain ⟨ma, ea⟩ := mx4_spec a1 a2 a3 a4
  obtain ⟨na, fa⟩ := mn4_spec a1 a2 a3 a4
  generalize mx4 b1 b2 b3 b4 = B at mb eb ⊢
  generalize mn4 b1 b2 b3 b4 = C at nb fb ⊢
  generalize mx4 a1 a2 a3 a4 = A at ma ea ⊢
  generalize mn4 a1 a2 a3 a4 = D at na fa ⊢
  constructor
  · generalize hl : [mz (1000 - b1 + a2), mz (1000 - b1 + a3), mz (1000 - b1 + a4), mz (1000 - b2 + a1), mz (1000 - b2 + a2), mz (1000 - b2 + a3), mz (1000 - b2 + a4), mz (1000 - b3 + a1), mz (1000 - b3 + a2), mz (1000 - b3 + a3), mz (1000 - b3 + a4), mz (1000 - b4 + a1), mz (1000 - b4 + a2), mz (1000 - b4 + a3), mz (1000 - b4 + a4)] = l
    obtain ⟨⟨g1, g2⟩, g3⟩ := lmin_spec l (mz (1000 - b1 + a1))
    refine Int.le_antisymm ?_ ?_
    · have hm : mz (1000 - B + D) = mz (1000 - b1 + a1) ∨ mz (1000 - B + D) ∈ l := by
        rw [← hl]
        rcases eb with e | e | e | e <;> rcases fa with f | f | f | f <;> rw [e, f] <;> simp
      rcases hm with e | e
      · rw [e]; exact g1
      · exact g2 _ e
    · have hle : ∀ y, y = mz (1000 - b1 + a1) ∨ y ∈ l → mz (1000 - B + D) ≤ y := by
        intro y hy
        rw [← hl] at hy
        simp only [List.mem_cons, List.not_mem_nil, or_false] at hy
        rcases hy with e | e | e | e | e | e | e | e | e | e | e | e | e | e | e | e <;> (rw [e]; exact mz_mono (by omega))
      rcases g3 with e | e
      · exact hle _ (Or.inl e)
      · exact hle _ (Or.inr e)
  · generalize hl : [mz (1000 - b1 + a2), mz (1000 - b1 + a3), mz (1000 - b1 + a4), mz (1000 - b2 + a1), mz (1000 - b2 + a2), mz (1000 - b2 + a3), mz (1000 - b2 + a4), mz (1000 - b3 + a1), mz (1000 - b3 + a2), mz (1000 - b3 + a3), mz (1000 - b3 + a4), mz (1000 - b4 + a1), mz (1000 - b4 + a2), mz (1000 - b4 + a3), mz (1000 - b4 + a4)] = l
    obtain ⟨⟨g1, g2⟩, g3⟩ := lmax_spec l (mz (1000 - b1 + a1))
    refine Int.le_antisymm ?_ ?_
    · have hle : ∀ y, y = mz (1000 - b1 + a1) ∨ y ∈ l → y ≤ mz (1000 - C + A) := by
        intro y hy
        rw [← hl] at hy
        simp only [List.mem_cons, List.not_mem_nil, or_false] at hy
        rcases hy with e | e | e | e | e | e | e | e | e | e | e | e | e | e | e | e <;> (rw [e]; exact mz_mono (by omega))
      rcases g3 with e | e
      · exact hle _ (Or.inl e)
      · exact hle _ (Or.inr e)
    · have hm : mz (1000 - C + A) = mz (1000 - b1 + a1) ∨ mz (1000 - C + A) ∈ l := by
        rw [← hl]
        rcases fb with e | e | e | e <;> rcases ea with f | f | f | f <;> rw [e, f] <;> simp
      rcases hm with e | e
      · rw [e]; exact g1
      · exact g2 _ e
def SB (s : Sky) : Prop := (-100 ≤ s.Beta.Low ∧ s.Beta.Low ≤ s.Beta.High ∧ s.Beta.High ≤ 100) ∧ (-100 ≤ s.Alpha.Low ∧ s.Alpha.Low ≤ s.Alpha.High ∧ s.Alpha.High ≤ 100)
theorem SOk.sb {s : Sky} (h : SOk s) : SB s := ⟨h.1.2.2.1, h.1.2.2.2⟩
theorem s77_eq {s : Sky} {w : Weather} (hs : SB s) (hw : WOk w) : p77 s w = true ∧ s77 s w = ⟨fcL s w, fcH s w⟩ := by
  obtain ⟨⟨b1, b2, b3⟩, a1, a2, a3⟩ := hs
  obtain ⟨⟨p1, p2, p3⟩, x1, x2, x3⟩ := hw
  have hbl : -100 ≤ s.Beta.Low ∧ s.Beta.Low ≤ 100 := by omega
  have hbh : -100 ≤ s.Beta.High ∧ s.Beta.High ≤ 100 := by omega
  have hal : -100 ≤ s.Alpha.Low ∧ s.Alpha.Low ≤ 100 := by omega
  have hah : -100 ≤ s.Alpha.High ∧ s.Alpha.High ≤ 100 := by omega
  have hpl : -1000 ≤ w.Pressure.Low ∧ w.Pressure.Low ≤ 1000 := by omega
  have hph : -1000 ≤ w.Pressure.High ∧ w.Pressure.High ≤ 1000 := by omega
  have hxl : -1000 ≤ w.Warm.Low ∧ w.Warm.Low ≤ 1000 := by omega
  have hxh : -1000 ≤ w.Warm.High ∧ w.Warm.High ≤ 1000 := by omega
  unfold p77 s77 p77_at0 s77_at0
  rw [ys117_y]
  rw [(s77_cons s w _ _).1, (s77_cons s w _ _).2]
  refine ⟨rfl, ?_⟩
  rw [y117_eq hbl hpl hal hxl, y117_eq hbl hpl hal hxh, y117_eq hbl hpl hah hxl, y117_eq hbl hpl hah hxh, y117_eq hbl hph hal hxl, y117_eq hbl hph hal hxh, y117_eq hbl hph hah hxl, y117_eq hbl hph hah hxh,
    y117_eq hbh hpl hal hxl, y117_eq hbh hpl hal hxh, y117_eq hbh hpl hah hxl, y117_eq hbh hpl hah hxh, y117_eq hbh hph hal hxl, y117_eq hbh hph hal hxh, y117_eq hbh hph hah hxl, y117_eq hbh hph hah hxh]
  obtain ⟨e1, e2⟩ := all16 (s.Beta.Low * w.Pressure.Low) (s.Beta.Low * w.Pressure.High) (s.Beta.High * w.Pressure.Low) (s.Beta.High * w.Pressure.High) (s.Alpha.Low * w.Warm.Low) (s.Alpha.Low * w.Warm.High) (s.Alpha.High * w.Warm.Low) (s.Alpha.High * w.Warm.High)
  rw [e1, e2]
  rfl
theorem fc_in {s : Sky} {w : Weather} {b p a x : Int} (hb : s.Beta.Low ≤ b ∧ b ≤ s.Beta.High) (hp : w.Pressure.Low ≤ p ∧ p ≤ w.Pressure.High) (ha : s.Alpha.Low ≤ a ∧ a ≤ s.Alpha.High) (hx : w.Warm.Low ≤ x ∧ x ≤ w.Warm.High) :
    fcL s w ≤ mz (1000 - b * p + a * x) ∧ mz (1000 - b * p + a * x) ≤ fcH s w := by
  have h1 := mul_in hb hp
  have h2 := mul_in ha hx
  exact ⟨mz_mono (by omega), mz_mono (by omega)⟩
theorem fc_b {s : Sky} {w : Weather} (hs : SB s) (hw : WOk w) : 0 ≤ fcL s w ∧ fcL s w ≤ fcH s w ∧ fcH s w ≤ 201000 := by
  obtain ⟨⟨b1, b2, b3⟩, a1, a2, a3⟩ := hs
  obtain ⟨⟨p1, p2, p3⟩, x1, x2, x3⟩ := hw
  have h := fc_in (s := s) (w := w) ⟨Int.le_refl _, b2⟩ ⟨Int.le_refl _, p2⟩ ⟨Int.le_refl _, a2⟩ ⟨Int.le_refl _, x2⟩
  have c1 := mul_b (p := 100) (q := 1000) (x := s.Beta.Low) (y := w.Pressure.Low) (by omega) (by omega) (by omega) (by omega)
  have c2 := mul_b (p := 100) (q := 1000) (x := s.Beta.Low) (y := w.Pressure.High) (by omega) (by omega) (by omega) (by omega)
  have c3 := mul_b (p := 100) (q := 1000) (x := s.Beta.High) (y := w.Pressure.Low) (by omega) (by omega) (by omega) (by omega)
  have c4 := mul_b (p := 100) (q := 1000) (x := s.Beta.High) (y := w.Pressure.High) (by omega) (by omega) (by omega) (by omega)
  have d1 := mul_b (p := 100) (q := 1000) (x := s.Alpha.Low) (y := w.Warm.Low) (by omega) (by omega) (by omega) (by omega)
  have d2 := mul_b (p := 100) (q := 1000) (x := s.Alpha.Low) (y := w.Warm.High) (by omega) (by omega) (by omega) (by omega)
  have d3 := mul_b (p := 100) (q := 1000) (x := s.Alpha.High) (y := w.Warm.Low) (by omega) (by omega) (by omega) (by omega)
  have d4 := mul_b (p := 100) (q := 1000) (x := s.Alpha.High) (y := w.Warm.High) (by omega) (by omega) (by omega) (by omega)
  have m := (mn4_spec (s.Beta.Low * w.Pressure.Low) (s.Beta.Low * w.Pressure.High) (s.Beta.High * w.Pressure.Low) (s.Beta.High * w.Pressure.High)).2
  have n := (mx4_spec (s.Alpha.Low * w.Warm.Low) (s.Alpha.Low * w.Warm.High) (s.Alpha.High * w.Warm.Low) (s.Alpha.High * w.Warm.High)).2
  refine ⟨by unfold fcL mz; split <;> omega, by omega, ?_⟩
  unfold fcH mz
  split <;> omega
def LOk (l : Sl Spell) : Prop := (1 ≤ (l.len : Int) ∧ (l.len : Int) ≤ 50) ∧ ∀ i, i < l.len → (1 ≤ (l.get i).Slots ∧ (l.get i).Slots ≤ 1000000) ∧ WOk (l.get i).Weather
theorem s67_ok (l : Sl Spell) (hn : l.len ≤ 9223372036854775807) : p67 l = true ∧ (s67 l = true ↔ LOk l) := by
  have h : p67 l = true ∧ (s67 l = true ↔ (∀ i, i < l.len → (decide (1 ≤ (l.get i).Slots ∧ (l.get i).Slots ≤ 1000000) && s76 (l.get i).Weather) = true) ∧ s63 (l.len : Int) 1 50 = true) := by
    refine all_loop (n := l.len) (good := fun i => decide (1 ≤ (l.get i).Slots ∧ (l.get i).Slots ≤ 1000000) && s76 (l.get i).Weather) (lpS := s67_lp0 l) (lpP := p67_lp0 l) ?_ ?_ ?_ ?_ hn
    · intro k i hi
      show s67_st0 l (s67_lp0 l k) i = _
      generalize s67_lp0 l k = S
      unfold s67_st0 s67_at1
      rw [decide_eq_true (by omega), Int.toNat_natCast, s63_eq]
      cases decide (1 ≤ (l.get i).Slots ∧ (l.get i).Slots ≤ 1000000) <;> cases s76 (l.get i).Weather <;> rfl
    · intro k
      show s67_st0 l (s67_lp0 l k) _ = _
      unfold s67_st0
      rw [decide_eq_false (by omega), cond_false]
    · intro k i hi
      show p67_st0 l (p67_lp0 l k) i = _
      generalize p67_lp0 l k = S
      unfold p67_st0 p67_at1
      rw [decide_eq_true (show (i : Int) < (l.len : Int) by omega), Int.toNat_natCast, s63_eq, decide_eq_true (show 0 ≤ (i : Int) ∧ (i : Int) < (l.len : Int) by omega)]
      cases decide (1 ≤ (l.get i).Slots ∧ (l.get i).Slots ≤ 1000000) <;> cases s76 (l.get i).Weather <;> rfl
    · intro k
      show p67_st0 l (p67_lp0 l k) _ = _
      unfold p67_st0
      rw [decide_eq_false (by omega), cond_false]
  refine ⟨h.1, h.2.trans ?_⟩
  unfold LOk
  rw [s63_eq]
  simp only [Bool.and_eq_true, decide_eq_true_eq, s76_eq]
  exact And.comm
theorem s22_ok (l : Sl Spell) (hn : l.len ≤ 9223372036854775807) : p22 l = true ∧ s22 l = s67 l := by
  have h : p22 l = true ∧ (s22 l = true ↔ (∀ i, i < l.len → (decide (1 ≤ (l.get i).Slots ∧ (l.get i).Slots ≤ 1000000) && s76 (l.get i).Weather) = true) ∧ s58 (l.len : Int) 1 50 = true) := by
    refine all_loop (n := l.len) (good := fun i => decide (1 ≤ (l.get i).Slots ∧ (l.get i).Slots ≤ 1000000) && s76 (l.get i).Weather) (lpS := s22_lp0 l) (lpP := p22_lp0 l) ?_ ?_ ?_ ?_ hn
    · intro k i hi
      show s22_st0 l (s22_lp0 l k) i = _
      generalize s22_lp0 l k = S
      unfold s22_st0 s22_at1
      rw [decide_eq_true (by omega), Int.toNat_natCast, s58_eq, s36_eq]
      cases decide (1 ≤ (l.get i).Slots ∧ (l.get i).Slots ≤ 1000000) <;> cases s76 (l.get i).Weather <;> rfl
    · intro k
      show s22_st0 l (s22_lp0 l k) _ = _
      unfold s22_st0
      rw [decide_eq_false (by omega), cond_false]
    · intro k i hi
      show p22_st0 l (p22_lp0 l k) i = _
      generalize p22_lp0 l k = S
      unfold p22_st0 p22_at1
      rw [decide_eq_true (show (i : Int) < (l.len : Int) by omega), Int.toNat_natCast, s58_eq, s36_eq, decide_eq_true (show 0 ≤ (i : Int) ∧ (i : Int) < (l.len : Int) by omega)]
      cases decide (1 ≤ (l.get i).Slots ∧ (l.get i).Slots ≤ 1000000) <;> cases s76 (l.get i).Weather <;> rfl
    · intro k
      show p22_st0 l (p22_lp0 l k) _ = _
      unfold p22_st0
      rw [decide_eq_false (by omega), cond_false]
  refine ⟨h.1, Bool.eq_iff_iff.2 (h.2.trans ((s67_ok l hn).2.trans ?_).symm)⟩
  unfold LOk
  rw [s58_eq]
  simp only [Bool.and_eq_true, decide_eq_true_eq, s76_eq]
  exact And.comm
def sumF (f : Nat → Int) : Nat → Int
  | 0 => 0
  | i + 1 => sumF f i + f i
theorem sumF_le {f g : Nat → Int} {n : Nat} (h : ∀ i, i < n → f i ≤ g i) : sumF f n ≤ sumF g n := by
  induction n with
  | zero => exact Int.le_refl _
  | succ n ih =>
    have := ih fun i hi => h i (by omega)
    have := h n (by omega)
    show sumF f n + f n ≤ sumF g n + g n
    omega
theorem sumF_b {f : Nat → Int} {n : Nat} {b : Int} (h : ∀ i, i < n → 0 ≤ f i ∧ f i ≤ b) : 0 ≤ sumF f n ∧ sumF f n ≤ n * b := by
  induction n with
  | zero => exact ⟨Int.le_refl _, by show (0 : Int) ≤ _; simp⟩
  | succ n ih =>
    have h1 := ih fun i hi => h i (by omega)
    have h2 := h n (by omega)
    have e : ((n + 1 : Nat) : Int) * b = n * b + b := by rw [Int.natCast_add, Int.add_mul]; simp
    show 0 ≤ sumF f n + f n ∧ sumF f n + f n ≤ _
    rw [e]
    omega
theorem sumF_mul (c : Int) (f : Nat → Int) (n : Nat) : sumF (fun i => c * f i) n = c * sumF f n := by
  induction n with
  | zero => show (0 : Int) = c * 0; simp
  | succ n ih =>
    show sumF (fun i => c * f i) n + c * f n = c * (sumF f n + f n)
    rw [ih, Int.mul_add]
theorem sumF_pos {f : Nat → Int} {n : Nat} (hn : 0 < n) (h : ∀ i, i < n → 1 ≤ f i) : 1 ≤ sumF f n := by
  cases n with
  | zero => omega
  | succ n =>
    have h1 : 0 ≤ sumF f n := by
      clear hn
      induction n with
      | zero => exact Int.le_refl _
      | succ n ih =>
        have := ih fun i hi => h i (by omega)
        have := h n (by omega)
        show 0 ≤ sumF f n + f n
        omega
    have := h n (by omega)
    show 1 ≤ sumF f n + f n
    omega
def rlo (parts r f : Int) : Int := if r * f / 1000 < parts then r * f / 1000 else parts
def rhi (parts r f : Int) : Int := if (r * f + 999) / 1000 < parts then (r * f + 999) / 1000 else parts
theorem mulN {r f a b : Int} (hr : 0 ≤ r ∧ r ≤ a) (hf : 0 ≤ f ∧ f ≤ b) : 0 ≤ r * f ∧ r * f ≤ a * b := by
  refine ⟨Int.mul_nonneg hr.1 hf.1, ?_⟩
  have h1 := Int.mul_le_mul_of_nonneg_right hr.2 hf.1
  have h2 := Int.mul_le_mul_of_nonneg_left hf.2 (show 0 ≤ a by omega)
  omega
theorem s97_eq (g : ground) {r f : Int} (hr : 0 ≤ r ∧ r ≤ 1000000) (hf : 0 ≤ f ∧ f ≤ 201000) : s97 g r f = rlo g.Sky.Parts r f := by
  have h := mulN hr hf
  unfold s97 rlo
  rw [w64_id (x := r * f) (by omega) (by omega), Int.tdiv_eq_ediv_of_nonneg h.1]
  generalize r * f = m at h
  rw [w64_id (by omega) (by omega)]
theorem s98_eq (g : ground) {r f : Int} (hr : 0 ≤ r ∧ r ≤ 1000000) (hf : 0 ≤ f ∧ f ≤ 201000) : s98 g r f = rhi g.Sky.Parts r f := by
  have h := mulN hr hf
  unfold s98 rhi
  generalize r * f = m at h
  rw [w64_id (x := m) (by omega) (by omega), w64_id (x := m + 999) (by omega) (by omega), Int.tdiv_eq_ediv_of_nonneg (by omega), w64_id (by omega) (by omega)]
def slF (l : Sl Spell) (i : Nat) : Int := (l.get i).Slots
def loF (s : Sky) (x : Span) (l : Sl Spell) (i : Nat) : Int := (l.get i).Slots * rlo s.Parts x.Low (fcL s (l.get i).Weather)
def hiF (s : Sky) (x : Span) (l : Sl Spell) (i : Nat) : Int := (l.get i).Slots * rhi s.Parts x.High (fcH s (l.get i).Weather)
def meanV (s : Sky) (x : Span) (l : Sl Spell) : Span := ⟨sumF (loF s x l) l.len / sumF (slF l) l.len, (sumF (hiF s x l) l.len + sumF (slF l) l.len - 1) / sumF (slF l) l.len⟩
def XOk (s : Sky) (x : Span) : Prop := 0 ≤ x.Low ∧ x.Low ≤ x.High ∧ x.High ≤ s.Parts
theorem lo_b {s : Sky} {x : Span} {l : Sl Spell} (hs : SOk s) (hx : XOk s x) (hl : LOk l) : ∀ i, i < l.len → (0 ≤ rlo s.Parts x.Low (fcL s (l.get i).Weather) ∧ rlo s.Parts x.Low (fcL s (l.get i).Weather) ≤ 1000000) ∧ (0 ≤ rhi s.Parts x.High (fcH s (l.get i).Weather) ∧ rhi s.Parts x.High (fcH s (l.get i).Weather) ≤ 1000000) ∧ (0 ≤ loF s x l i ∧ loF s x l i ≤ 1000000000000) ∧ (0 ≤ hiF s x l i ∧ hiF s x l i ≤ 1000000000000) := by
  intro i hi
  obtain ⟨h1, h2⟩ := hl.2 i hi
  have hp := hs.1.1
  obtain ⟨f0, f1, f2⟩ := fc_b hs.sb h2
  obtain ⟨x0, x1, x2⟩ := hx
  have m1 := mulN (r := x.Low) (f := fcL s (l.get i).Weather) (a := 1000000) (b := 201000) (by omega) (by omega)
  have m2 := mulN (r := x.High) (f := fcH s (l.get i).Weather) (a := 1000000) (b := 201000) (by omega) (by omega)
  have r1 : 0 ≤ rlo s.Parts x.Low (fcL s (l.get i).Weather) ∧ rlo s.Parts x.Low (fcL s (l.get i).Weather) ≤ 1000000 := by
    unfold rlo
    generalize x.Low * fcL s (l.get i).Weather = m at m1
    split <;> omega
  have r2 : 0 ≤ rhi s.Parts x.High (fcH s (l.get i).Weather) ∧ rhi s.Parts x.High (fcH s (l.get i).Weather) ≤ 1000000 := by
    unfold rhi
    generalize x.High * fcH s (l.get i).Weather = m at m2
    split <;> omega
  have q1 := mulN (r := (l.get i).Slots) (a := 1000000) (by omega) r1
  have q2 := mulN (r := (l.get i).Slots) (a := 1000000) (by omega) r2
  exact ⟨r1, r2, by unfold loF; omega, by unfold hiF; omega⟩
theorem sums_b {s : Sky} {x : Span} {l : Sl Spell} (hs : SOk s) (hx : XOk s x) (hl : LOk l) : ∀ i, i ≤ l.len → (0 ≤ sumF (slF l) i ∧ sumF (slF l) i ≤ 50000000) ∧ (0 ≤ sumF (loF s x l) i ∧ sumF (loF s x l) i ≤ 50000000000000) ∧ (0 ≤ sumF (hiF s x l) i ∧ sumF (hiF s x l) i ≤ 50000000000000) := by
  intro i hi
  have hlen := hl.1
  have a := sumF_b (f := slF l) (n := i) (b := 1000000) (fun j hj => by have := (hl.2 j (by omega)).1; unfold slF; omega)
  have b := sumF_b (f := loF s x l) (n := i) (b := 1000000000000) (fun j hj => (lo_b hs hx hl j (by omega)).2.2.1)
  have c := sumF_b (f := hiF s x l) (n := i) (b := 1000000000000) (fun j hj => (lo_b hs hx hl j (by omega)).2.2.2)
  omega
theorem s68_eq {g : ground} {x : Span} {l : Sl Spell} (hs : SOk g.Sky) (hx : XOk g.Sky x) (hl : LOk l) : p68 g x l = true ∧ s68 g x l = meanV g.Sky x l := by
  have hlen := hl.1
  have hp := hs.1.1
  have key : ∀ m k i : Nat, i + m = l.len → m < k → p68_lp0 g x l k (sumF (slF l) i) i (sumF (loF g.Sky x l) i) (sumF (hiF g.Sky x l) i) = true ∧ s68_lp0 g x l k (sumF (slF l) i) i (sumF (loF g.Sky x l) i) (sumF (hiF g.Sky x l) i) = meanV g.Sky x l := by
    intro m
    induction m with
    | zero =>
      intro k i hi hm
      obtain ⟨k, rfl⟩ : ∃ k', k = k' + 1 := ⟨k - 1, by omega⟩
      show p68_st0 g x l (p68_lp0 g x l k) _ _ _ _ = true ∧ s68_st0 g x l (s68_lp0 g x l k) _ _ _ _ = _
      unfold p68_st0 s68_st0
      rw [decide_eq_false (by omega)]
      have e : i = l.len := by omega
      subst e
      obtain ⟨c1, c2, c3⟩ := sums_b hs hx hl l.len (Nat.le_refl _)
      have c0 := sumF_pos (f := slF l) (n := l.len) (by omega) (fun i hi => (hl.2 i hi).1.1)
      unfold p68_at1 s68_at1 meanV
      rw [cond_false, cond_false, decide_eq_true (show sumF (slF l) l.len ≠ 0 by omega)]
      refine ⟨rfl, ?_⟩
      generalize sumF (slF l) l.len = S at *
      generalize sumF (loF g.Sky x l) l.len = A at *
      generalize sumF (hiF g.Sky x l) l.len = B at *
      rw [w64_id (x := B + S) (by omega) (by omega), w64_id (x := B + S - 1) (by omega) (by omega), Int.tdiv_eq_ediv_of_nonneg (by omega), Int.tdiv_eq_ediv_of_nonneg (by omega)]
      have d1 : 0 ≤ A / S := Int.ediv_nonneg (by omega) (by omega)
      have d2 : A / S ≤ A := Int.ediv_le_self _ (by omega)
      have d3 : 0 ≤ (B + S - 1) / S := Int.ediv_nonneg (by omega) (by omega)
      have d4 : (B + S - 1) / S ≤ B + S - 1 := Int.ediv_le_self _ (by omega)
      rw [w64_id (x := A / S) (by omega) (by omega), w64_id (x := (B + S - 1) / S) (by omega) (by omega)]
    | succ m ih =>
      intro k i hi hm
      obtain ⟨k, rfl⟩ : ∃ k', k = k' + 1 := ⟨k - 1, by omega⟩
      show p68_st0 g x l (p68_lp0 g x l k) _ _ _ _ = true ∧ s68_st0 g x l (s68_lp0 g x l k) _ _ _ _ = _
      have hil : i < l.len := by omega
      obtain ⟨hw1, hw2⟩ := hl.2 i hil
      obtain ⟨f0, f1, f2⟩ := fc_b hs.sb hw2
      obtain ⟨x0, x1, x2⟩ := hx
      obtain ⟨q1, q2, q3, q4⟩ := lo_b hs ⟨x0, x1, x2⟩ hl i hil
      obtain ⟨c1, c2, c3⟩ := sums_b hs ⟨x0, x1, x2⟩ hl i (by omega)
      unfold p68_st0 s68_st0
      have e3 : w64 ((i : Int) + 1) = ((i + 1 : Nat) : Int) := by rw [w64_id (by omega) (by omega)]; omega
      rw [decide_eq_true (show (i : Int) < (l.len : Int) by omega), decide_eq_true (show 0 ≤ (i : Int) ∧ (i : Int) < (l.len : Int) by omega), Int.toNat_natCast, (s77_eq hs.sb hw2).1, (s77_eq hs.sb hw2).2, e3]
      rw [s97_eq g (r := x.Low) (f := fcL g.Sky (l.get i).Weather) (by omega) (by omega), s98_eq g (r := x.High) (f := fcH g.Sky (l.get i).Weather) (by omega) (by omega)]
      have u1 : p97 g x.Low (fcL g.Sky (l.get i).Weather) = true := rfl
      have u2 : p98 g x.High (fcH g.Sky (l.get i).Weather) = true := rfl
      rw [u1, u2]
      have v1 : w64 ((l.get i).Slots * rlo g.Sky.Parts x.Low (fcL g.Sky (l.get i).Weather)) = loF g.Sky x l i := by
        show w64 (loF g.Sky x l i) = _
        exact w64_id (by omega) (by omega)
      have v2 : w64 ((l.get i).Slots * rhi g.Sky.Parts x.High (fcH g.Sky (l.get i).Weather)) = hiF g.Sky x l i := by
        show w64 (hiF g.Sky x l i) = _
        exact w64_id (by omega) (by omega)
      rw [v1, v2, w64_id (x := sumF (slF l) i + (l.get i).Slots) (by omega) (by omega), w64_id (x := sumF (loF g.Sky x l) i + loF g.Sky x l i) (by omega) (by omega), w64_id (x := sumF (hiF g.Sky x l) i + hiF g.Sky x l i) (by omega) (by omega)]
      have := ih k (i + 1) (by omega) (by omega)
      simpa [sumF, slF] using this
  exact key l.len Fuel 0 (by omega) (by simp only [Fuel]; omega)
theorem abv_ok {parts : Int} {l : Sl FluxRow} {y : Span} (hb : BOk parts l) (hp : 0 ≤ parts) (hy : 1 ≤ y.Low) (hyy : y.High = -1 ∨ y.Low ≤ y.High) : 0 ≤ (abv l y).Low ∧ (abv l y).Low ≤ (abv l y).High ∧ (abv l y).High ≤ parts := by
  have hlen := hb.1
  have hr : ∀ i, i < l.len → 0 ≤ (l.get i).Rate.Low ∧ (l.get i).Rate.Low ≤ (l.get i).Rate.High ∧ (l.get i).Rate.High ≤ parts := fun i hi => (hb.2.2 i hi).2.1
  have b1 : jL l y.Low ≤ l.len := fst_le _ _
  have hj : 0 < jL l y.Low := by
    rcases Nat.eq_zero_or_pos (jL l y.Low) with h | h
    · have := of_decide_eq_true (fst_hi (c := fun i => decide ((l.get i).Energy > y.Low)) (n := l.len) (show jL l y.Low < l.len by omega))
      have h2 : fst (fun i => decide ((l.get i).Energy > y.Low)) l.len = 0 := h
      rw [h2, hb.2.1] at this
      omega
    · exact h
  have eH : (abv l y).High = (l.get (jL l y.Low - 1)).Rate.High := by
    show abvH l y.Low = _
    unfold abvH
    rw [if_pos hj]
  have h1 := hr (jL l y.Low - 1) (by omega)
  rw [eH]
  show 0 ≤ abvL l y.High ∧ abvL l y.High ≤ _ ∧ _
  unfold abvL
  by_cases hn : y.High = -1
  · rw [if_pos hn]; omega
  rw [if_neg hn]
  by_cases hl : jH l y.High < l.len
  · rw [if_pos hl]
    have h2 := hr _ hl
    have h3 : jL l y.Low - 1 ≤ jH l y.High := by
      rcases Nat.lt_or_ge (jH l y.High) (jL l y.Low - 1) with h | h
      · have h4 : (l.get (jH l y.High)).Energy ≥ y.High := of_decide_eq_true (fst_hi (c := fun i => decide ((l.get i).Energy ≥ y.High)) hl)
        have h5 := of_decide_eq_false (fst_lo (c := fun i => decide ((l.get i).Energy > y.Low)) (n := l.len) (j := jL l y.Low - 1) (by show _ < jL l y.Low; omega))
        have := b_e hb h (by omega)
        rcases hyy with e | e <;> omega
      · exact h
    have := b_low hb h3 hl
    omega
  · rw [if_neg hl]; omega
theorem thr_ok {t : Sl RangeRow} {x : Int} (hk : TOk t) (hx : 0 ≤ x) : 1 ≤ (thr t x).Low ∧ ((thr t x).High = -1 ∨ (thr t x).Low ≤ (thr t x).High) := by
  have hE : ∀ i, i < t.len → 1 ≤ (t.get i).Energy ∧ (t.get i).Energy ≤ 1000000 := fun i hi => (hk.2 i hi).1
  have b1 : kH t x ≤ t.len := fst_le _ _
  unfold thr
  by_cases h0 : x = 0
  · rw [if_pos h0]; exact ⟨Int.le_refl _, Or.inr (Int.le_refl _)⟩
  rw [if_neg h0]
  show 1 ≤ thrL t x ∧ (thrH t x = -1 ∨ thrL t x ≤ thrH t x)
  have h1 : 1 ≤ thrL t x := by
    unfold thrL
    by_cases h : 0 < kH t x
    · rw [if_pos h]; have := hE (kH t x - 1) (by omega); omega
    · rw [if_neg h]; exact Int.le_refl _
  refine ⟨h1, ?_⟩
  unfold thrH
  by_cases hl : kL t x < t.len
  · rw [if_pos hl]
    refine Or.inr ?_
    unfold thrL
    by_cases h : 0 < kH t x
    · rw [if_pos h]
      have h2 : kH t x ≤ kL t x := fst_mono' fun i hi hd => by
        have := of_decide_eq_true hd
        have := (hk.2 i hi).2.1
        exact decide_eq_true (by omega)
      have := t_e hk (show kH t x - 1 < kL t x by omega) hl
      omega
    · rw [if_neg h]; exact (hE _ hl).1
  · rw [if_neg hl]; exact Or.inl rfl
where
  fst_mono' {c d : Nat → Bool} {n : Nat} (h : ∀ i, i < n → d i = true → c i = true) : fst c n ≤ fst d n := by
    rcases Nat.lt_or_ge (fst d n) (fst c n) with h1 | h1
    · have h2 := fst_lo h1
      have := fst_le c n
      rw [h _ (by omega) (fst_hi (by omega))] at h2
      cases h2
    · exact h1
theorem expd_ok {s : Sky} {t : Sl RangeRow} {bin x : Int} (h : Fine s t bin x) : XOk s (expd s t bin x) := by
  obtain ⟨h1, h2⟩ := thr_ok h.2.1 h.2.2.2.1
  exact abv_ok h.b (by have := h.1.1.1; omega) h1 h2
theorem s23_ok (s : Sky) (t : Sl RangeRow) (bin x : Int) (l : Sl Spell) (hs : SL s) (ht : t.len ≤ 9223372036854775807) (hl : l.len ≤ 9223372036854775807) : p23 s t bin x l = true ∧ (Fine s t bin x ∧ LOk l → s23 s t bin x l = (meanV s (expd s t bin x) l, 0)) ∧ (¬ (Fine s t bin x ∧ LOk l) → s23 s t bin x l = (⟨0, 0⟩, 2)) := by
  obtain ⟨h1, h2⟩ := s65_ok s t bin x hs ht
  obtain ⟨e1, e2⟩ := s65_g s t bin x
  obtain ⟨l1, l2⟩ := s67_ok l hl
  unfold p23 s23
  rw [h1, e1, e2, l1]
  by_cases h : Fine s t bin x
  · rw [h2.2 h, (s66_eq h).1, (s66_eq h).2]
    by_cases hk : LOk l
    · have hg : SOk (s65 s t bin x).1.Sky := by rw [e1]; exact h.1
      have hx : XOk (s65 s t bin x).1.Sky (expd s t bin x) := by rw [e1]; exact expd_ok h
      have h8 := s68_eq hg hx hk
      rw [h8.1, h8.2, l2.2 hk, e1]
      exact ⟨rfl, fun _ => rfl, fun h3 => absurd ⟨h, hk⟩ h3⟩
    · have h3 : s67 l = false := by
        cases e : s67 l
        · rfl
        · exact absurd (l2.1 e) hk
      rw [h3]
      exact ⟨rfl, fun h3 => absurd h3.2 hk, fun _ => rfl⟩
  · have h3 : (s65 s t bin x).2 = false := by
      cases e : (s65 s t bin x).2
      · rfl
      · exact absurd (h2.1 e) h
    rw [h3]
    exact ⟨rfl, fun h3 => absurd h3.1 h, fun _ => rfl⟩
end Go.Proofs
namespace Go.Proofs
open Go Go.Pm
set_option linter.unusedVariables false
theorem usual_ok {n : Int} (h : 1 ≤ n ∧ n ≤ 1000000) : LOk ⟨1, fun _ => s34 n⟩ := by
  refine ⟨⟨by show (1 : Int) ≤ ((1 : Nat) : Int); omega, by show ((1 : Nat) : Int) ≤ 50; omega⟩, fun i hi => ⟨h, ?_⟩⟩
  show WOk ⟨⟨0, 0⟩, ⟨0, 0⟩⟩
  unfold WOk
  simp
theorem mean_usual {s : Sky} {x : Span} {n : Int} (h : 1 ≤ n ∧ n ≤ 1000000) (hx : XOk s x) : meanV s x ⟨1, fun _ => s34 n⟩ = x := by
  obtain ⟨x0, x1, x2⟩ := hx
  have f1 : fcL s ⟨⟨0, 0⟩, ⟨0, 0⟩⟩ = 1000 := by
    unfold fcL
    show mz (1000 - mx4 (s.Beta.Low * 0) (s.Beta.Low * 0) (s.Beta.High * 0) (s.Beta.High * 0) + mn4 (s.Alpha.Low * 0) (s.Alpha.Low * 0) (s.Alpha.High * 0) (s.Alpha.High * 0)) = 1000
    simp only [Int.mul_zero]
    rfl
  have f2 : fcH s ⟨⟨0, 0⟩, ⟨0, 0⟩⟩ = 1000 := by
    unfold fcH
    show mz (1000 - mn4 (s.Beta.Low * 0) (s.Beta.Low * 0) (s.Beta.High * 0) (s.Beta.High * 0) + mx4 (s.Alpha.Low * 0) (s.Alpha.Low * 0) (s.Alpha.High * 0) (s.Alpha.High * 0)) = 1000
    simp only [Int.mul_zero]
    rfl
  have r1 : rlo s.Parts x.Low 1000 = x.Low := by
    unfold rlo
    split <;> omega
  have r2 : rhi s.Parts x.High 1000 = x.High := by
    unfold rhi
    split <;> omega
  have e : meanV s x ⟨1, fun _ => s34 n⟩ = ⟨(0 + n * rlo s.Parts x.Low (fcL s ⟨⟨0, 0⟩, ⟨0, 0⟩⟩)) / (0 + n), ((0 + n * rhi s.Parts x.High (fcH s ⟨⟨0, 0⟩, ⟨0, 0⟩⟩)) + (0 + n) - 1) / (0 + n)⟩ := rfl
  rw [e, f1, f2, r1, r2, Int.zero_add, Int.zero_add, Int.zero_add, Int.mul_ediv_cancel_left _ (by omega)]
  have e2 : (n * x.High + n - 1) / n = x.High := by
    have h1 : n * x.High + n - 1 = (n - 1) + n * x.High := by omega
    rw [h1, Int.add_mul_ediv_left _ _ (by omega), Int.ediv_eq_zero_of_lt (by omega) (by omega)]
    omega
  rw [e2]
end Go.Proofs
namespace Go.Proofs
open Go Go.Pm
set_option linter.unusedVariables false
theorem mem_tabI (n : Nat) : ∀ (f : Nat → Int) (x : Int), x ∈ tabI n f ↔ ∃ i, i < n ∧ f i = x := by
  induction n with
  | zero => intro f x; simp [tabI]
  | succ n ih =>
    intro f x
    rw [show tabI (n + 1) f = f 0 :: tabI n (fun i => f (i + 1)) from rfl, List.mem_cons, ih]
    constructor
    · rintro (h | ⟨i, h1, h2⟩)
      · exact ⟨0, by omega, h.symm⟩
      · exact ⟨i + 1, by omega, h2⟩
    · rintro ⟨i, h1, h2⟩
      cases i with
      | zero => exact Or.inl h2.symm
      | succ i => exact Or.inr ⟨i, by omega, h2⟩
theorem len_tabI (n : Nat) : ∀ (f : Nat → Int), (tabI n f).length = n := by
  induction n with
  | zero => intro f; rfl
  | succ n ih => intro f; show (tabI n _).length + 1 = n + 1; rw [ih]
theorem getT_get {d : Int} : ∀ (l : List Int) (k : Nat) (h : k < l.length), getT d l k = l[k]
  | _ :: _, 0, _ => rfl
  | _ :: r, k + 1, h => getT_get r k (by simpa using h)
theorem tabI_getT : ∀ (l : List Int), tabI l.length (getT 0 l) = l
  | [] => rfl
  | x :: r => by
    show getT 0 (x :: r) 0 :: tabI r.length (fun i => getT 0 (x :: r) (i + 1)) = x :: r
    have : (fun i => getT 0 (x :: r) (i + 1)) = getT 0 r := rfl
    rw [this, tabI_getT r]
    rfl
theorem mem_getT (l : List Int) (x : Int) : x ∈ l ↔ ∃ k, k < l.length ∧ getT 0 l k = x := by
  have := mem_tabI l.length (getT 0 l) x
  rwa [tabI_getT] at this
theorem comp_ok (zs : List Int) (hz : zs.Pairwise (· ≤ ·)) : ∀ m, m ≤ zs.length → ((Lib.compactUpTo zs.toArray m).Pairwise (· < ·) ∧ (∀ x, x ∈ Lib.compactUpTo zs.toArray m ↔ ∃ j, j < m ∧ getT 0 zs j = x)) ∧ (Lib.compactUpTo zs.toArray m).length ≤ m := by
  have hg : ∀ j, j < zs.length → zs.toArray[j]! = getT 0 zs j := fun j hj => by
    rw [getT_get zs j hj]
    simp [hj]
  have hs : ∀ i j, i < j → j < zs.length → getT 0 zs i ≤ getT 0 zs j := fun i j hij hj => by
    rw [getT_get zs i (by omega), getT_get zs j hj]
    exact List.pairwise_iff_getElem.1 hz i j (by omega) hj hij
  intro m
  induction m with
  | zero =>
    intro _
    have : Lib.compactUpTo zs.toArray 0 = [] := rfl
    rw [this]
    exact ⟨⟨.nil, fun x => ⟨fun h => absurd h (by simp), fun ⟨j, h, _⟩ => absurd h (by omega)⟩⟩, Nat.le_refl _⟩
  | succ m ih =>
    intro hm
    obtain ⟨⟨h1, h2⟩, h3⟩ := ih (by omega)
    rw [Lib.compactUpTo_succ]
    by_cases hk : Lib.keeps zs.toArray m = true
    · rw [if_pos hk, hg m (by omega)]
      refine ⟨⟨?_, fun x => ?_⟩, by simp; omega⟩
      · refine List.pairwise_append.2 ⟨h1, List.pairwise_singleton _ _, fun a ha b hb => ?_⟩
        rw [List.mem_singleton] at hb
        obtain ⟨j, hj, e⟩ := (h2 a).1 ha
        have hk2 : m = 0 ∨ zs.toArray[m]! ≠ zs.toArray[m - 1]! := of_decide_eq_true hk
        rcases hk2 with e0 | hne
        · omega
        · rw [hg m (by omega), hg (m - 1) (by omega)] at hne
          have a1 := hs (m - 1) m (by omega) (by omega)
          by_cases e1 : j = m - 1
          · rw [← e, hb, e1]; omega
          · have := hs j (m - 1) (by omega) (by omega)
            rw [← e, hb]; omega
      · rw [List.mem_append, h2, List.mem_singleton]
        constructor
        · rintro (⟨j, hj, e⟩ | e)
          · exact ⟨j, by omega, e⟩
          · exact ⟨m, by omega, e.symm⟩
        · rintro ⟨j, hj, e⟩
          by_cases e1 : j = m
          · rw [e1] at e; exact Or.inr e.symm
          · exact Or.inl ⟨j, by omega, e⟩
    · rw [if_neg hk, List.append_nil]
      refine ⟨⟨h1, fun x => ?_⟩, by omega⟩
      rw [h2]
      have hm0 : ¬ (m = 0 ∨ zs.toArray[m]! ≠ zs.toArray[m - 1]!) := fun h => hk (decide_eq_true h)
      have hm1 : m ≠ 0 := fun h => hm0 (Or.inl h)
      have heq : zs.toArray[m]! = zs.toArray[m - 1]! := Decidable.of_not_not fun h => hm0 (Or.inr h)
      rw [hg m (by omega), hg (m - 1) (by omega)] at heq
      constructor
      · rintro ⟨j, hj, e⟩; exact ⟨j, by omega, e⟩
      · rintro ⟨j, hj, e⟩
        by_cases e1 : j = m
        · exact ⟨m - 1, by omega, by rw [← heq, ← e1]; exact e⟩
        · exact ⟨j, by omega, e⟩
theorem sc_ok (n : Nat) (g : Nat → Int) :
    cmpN n (sortT n g) ≤ n ∧ (∀ i j, i < j → j < cmpN n (sortT n g) → cmpT n (sortT n g) i < cmpT n (sortT n g) j) ∧ (∀ x, (∃ k, k < cmpN n (sortT n g) ∧ cmpT n (sortT n g) k = x) ↔ ∃ j, j < n ∧ g j = x) := by
  have hl : (isort (tabI n g)).length = n := by rw [isort_len, len_tabI]
  have ht : tabI n (sortT n g) = isort (tabI n g) := by
    have := tabI_getT (isort (tabI n g))
    rw [hl] at this
    exact this
  unfold cmpN cmpT
  rw [ht]
  obtain ⟨⟨h1, h2⟩, h3⟩ := comp_ok (isort (tabI n g)) (isort_sorted _) n (by rw [hl]; exact Nat.le_refl _)
  have hc : Lib.compact (isort (tabI n g)) = Lib.compactUpTo (isort (tabI n g)).toArray n := by unfold Lib.compact; rw [hl]
  rw [hc]
  refine ⟨h3, fun i j hij hj => ?_, fun x => ?_⟩
  · rw [getT_get _ i (by omega), getT_get _ j hj]
    exact List.pairwise_iff_getElem.1 h1 i j (by omega) hj hij
  · rw [← mem_getT, h2, ← mem_tabI n g, ← (isort_perm (tabI n g)).mem_iff, mem_getT, hl]
def Ed (t : Sl RangeRow) (x : Int) : Prop := x = 0 ∨ x = 1 ∨ ∃ a, a < t.len ∧ (x = (t.get a).Range.Low + 1 ∨ x = (t.get a).Range.High + 1)
theorem thr_const {t : Sl RangeRow} {x y : Int} (hx : 0 ≤ x) (hxy : x ≤ y) (h : ∀ e, Ed t e → x < e → y < e) : thr t x = thr t y := by
  have h1 : kH t x = kH t y := by
    unfold kH
    refine fst_eqc fun i hi => decide_eq_decide.2 ⟨fun a => ?_, fun a => by omega⟩
    have := h ((t.get i).Range.High + 1) (Or.inr (Or.inr ⟨i, hi, Or.inr rfl⟩)) (by omega)
    omega
  have h2 : kL t x = kL t y := by
    unfold kL
    refine fst_eqc fun i hi => decide_eq_decide.2 ⟨fun a => ?_, fun a => by omega⟩
    have := h ((t.get i).Range.Low + 1) (Or.inr (Or.inr ⟨i, hi, Or.inl rfl⟩)) (by omega)
    omega
  unfold thr thrL thrH
  rw [h1, h2]
  by_cases h0 : x = 0
  · have : y = 0 := by
      have := h 1 (Or.inr (Or.inl rfl))
      omega
    rw [if_pos h0, if_pos this]
  · rw [if_neg h0, if_neg (show ¬ y = 0 by omega)]
where
  fst_eqc {c d : Nat → Bool} {n : Nat} (h : ∀ i, i < n → c i = d i) : fst c n = fst d n := by
    have hl := fst_le d n
    exact fst_uniq hl (fun j hj => by rw [h j (by omega)]; exact fst_lo hj) (fun hh => by rw [h _ hh]; exact fst_hi hh)
theorem fst_mon {c d : Nat → Bool} {n : Nat} (h : ∀ i, i < n → d i = true → c i = true) : fst c n ≤ fst d n := by
  rcases Nat.lt_or_ge (fst d n) (fst c n) with h1 | h1
  · have h2 := fst_lo h1
    have := fst_le c n
    rw [h _ (by omega) (fst_hi (by omega))] at h2
    cases h2
  · exact h1
theorem thr_mono {t : Sl RangeRow} {x y : Int} (hk : TOk t) (hx : 0 ≤ x) (hxy : x ≤ y) : (thr t x).Low ≤ (thr t y).Low ∧ ((thr t y).High ≠ -1 → (thr t x).High ≠ -1 ∧ (thr t x).High ≤ (thr t y).High) := by
  have hE : ∀ i, i < t.len → 1 ≤ (t.get i).Energy ∧ (t.get i).Energy ≤ 1000000 := fun i hi => (hk.2 i hi).1
  have b1 : kH t y ≤ t.len := fst_le _ _
  have h1 : kH t x ≤ kH t y := fst_mon fun i hi hd => decide_eq_true (by have := of_decide_eq_true hd; omega)
  have h2 : kL t x ≤ kL t y := fst_mon fun i hi hd => decide_eq_true (by have := of_decide_eq_true hd; omega)
  have ok := thr_ok hk (show 0 ≤ y by omega)
  unfold thr at ok ⊢
  by_cases h0 : x = 0
  · rw [if_pos h0]
    refine ⟨ok.1, fun hne => ⟨by show (1 : Int) ≠ -1; omega, ?_⟩⟩
    show 1 ≤ _
    rcases ok.2 with e | e
    · exact absurd e hne
    · omega
  rw [if_neg h0, if_neg (by omega)]
  constructor
  · show thrL t x ≤ thrL t y
    unfold thrL
    by_cases c : 0 < kH t x
    · rw [if_pos c, if_pos (by omega)]
      by_cases e : kH t x = kH t y
      · rw [e]; exact Int.le_refl _
      · have := t_e hk (show kH t x - 1 < kH t y - 1 by omega) (by omega); omega
    · rw [if_neg c]
      split
      · have := hE (kH t y - 1) (by omega); omega
      · exact Int.le_refl _
  · show thrH t y ≠ -1 → thrH t x ≠ -1 ∧ thrH t x ≤ thrH t y
    unfold thrH
    by_cases c : kL t y < t.len
    · rw [if_pos c, if_pos (by omega)]
      intro _
      have := hE (kL t x) (by omega)
      refine ⟨by omega, ?_⟩
      by_cases e : kL t x = kL t y
      · rw [e]; exact Int.le_refl _
      · have := t_e hk (show kL t x < kL t y by omega) c; omega
    · rw [if_neg c]; intro h; exact absurd rfl h
theorem abv_mono {parts : Int} {l : Sl FluxRow} {y z : Span} (hb : BOk parts l) (hl : y.Low ≤ z.Low) (hh : z.High ≠ -1 → y.High ≠ -1 ∧ y.High ≤ z.High) : (abv l z).Low ≤ (abv l y).Low ∧ (abv l z).High ≤ (abv l y).High := by
  have hlen := hb.1
  have hr : ∀ i, i < l.len → 0 ≤ (l.get i).Rate.Low := fun i hi => (hb.2.2 i hi).2.1.1
  have b1 : jL l z.Low ≤ l.len := fst_le _ _
  have h1 : jL l y.Low ≤ jL l z.Low := fst_mon fun i hi hd => decide_eq_true (by have := of_decide_eq_true hd; omega)
  constructor
  · show abvL l z.High ≤ abvL l y.High
    unfold abvL
    by_cases hz : z.High = -1
    · rw [if_pos hz]
      split
      · exact Int.le_refl _
      · split
        · rename_i h; exact hr _ h
        · exact Int.le_refl _
    · obtain ⟨g1, g2⟩ := hh hz
      rw [if_neg hz, if_neg g1]
      have h2 : jH l y.High ≤ jH l z.High := fst_mon fun i hi hd => decide_eq_true (by have := of_decide_eq_true hd; omega)
      by_cases c : jH l z.High < l.len
      · rw [if_pos c, if_pos (by omega)]; exact b_low hb h2 c
      · rw [if_neg c]
        split
        · rename_i h; exact hr _ h
        · exact Int.le_refl _
  · show abvH l z.Low ≤ abvH l y.Low
    unfold abvH
    by_cases c : 0 < jL l y.Low
    · rw [if_pos c, if_pos (by omega)]; exact b_high hb (by omega) (by omega)
    · rw [if_neg c]
      split
      · exact b_high hb (Nat.zero_le _) (by omega)
      · exact Int.le_refl _
theorem expd_mono {s : Sky} {t : Sl RangeRow} {bin x y : Int} (hf : Fine s t bin x) (hxy : x ≤ y) : (expd s t bin y).Low ≤ (expd s t bin x).Low ∧ (expd s t bin y).High ≤ (expd s t bin x).High := by
  obtain ⟨h1, h2⟩ := thr_mono hf.2.1 hf.2.2.2.1 hxy
  exact abv_mono hf.b h1 h2
theorem ediv_mono {a b c : Int} (hc : 0 < c) (h : a ≤ b) : a / c ≤ b / c := Int.ediv_le_ediv hc h
theorem mean_mono {s : Sky} {x y : Span} {l : Sl Spell} (hs : SOk s) (hl : LOk l) (h1 : y.Low ≤ x.Low) (h2 : y.High ≤ x.High) : (meanV s y l).Low ≤ (meanV s x l).Low ∧ (meanV s y l).High ≤ (meanV s x l).High := by
  have hlen := hl.1
  have c0 := sumF_pos (f := slF l) (n := l.len) (by omega) (fun i hi => (hl.2 i hi).1.1)
  have a1 : sumF (loF s y l) l.len ≤ sumF (loF s x l) l.len := sumF_le fun i hi => by
    obtain ⟨w1, w2⟩ := hl.2 i hi
    have f := fc_b hs.sb w2
    have := Int.mul_le_mul_of_nonneg_right h1 f.1
    refine Int.mul_le_mul_of_nonneg_left ?_ (by omega)
    unfold rlo
    generalize y.Low * fcL s (l.get i).Weather = u at *
    generalize x.Low * fcL s (l.get i).Weather = v at *
    split <;> split <;> omega
  have a2 : sumF (hiF s y l) l.len ≤ sumF (hiF s x l) l.len := sumF_le fun i hi => by
    obtain ⟨w1, w2⟩ := hl.2 i hi
    have f := fc_b hs.sb w2
    have := Int.mul_le_mul_of_nonneg_right h2 (show 0 ≤ fcH s (l.get i).Weather by omega)
    refine Int.mul_le_mul_of_nonneg_left ?_ (by omega)
    unfold rhi
    generalize y.High * fcH s (l.get i).Weather = u at *
    generalize x.High * fcH s (l.get i).Weather = v at *
    split <;> split <;> omega
  exact ⟨ediv_mono (by omega) a1, ediv_mono (by omega) (by omega)⟩
def CUp (C : Sl FluxStep) (R : Int → Span) (b : Int) : Prop :=
  0 < C.len ∧ (C.get 0).From = 0 ∧ (∀ i, i < C.len → (C.get i).From < b) ∧ (∀ i, i + 1 < C.len → (C.get i).From < (C.get (i + 1)).From ∧ (C.get i).Rate ≠ (C.get (i + 1)).Rate) ∧
  (∀ x, 0 ≤ x → x < b → ∀ i, i < C.len → (C.get i).From ≤ x → (i + 1 < C.len → x < (C.get (i + 1)).From) → (C.get i).Rate = R x)
theorem cup_init {R : Int → Span} {C : Sl FluxStep} {b' : Int} (hb : 0 < b') (h : ∀ x, 0 ≤ x → x < b' → R x = R 0) (hC : C.len = 1 ∧ C.get 0 = ⟨0, R 0⟩) : CUp C R b' := by
  refine ⟨by omega, by rw [hC.2], fun i hi => ?_, fun i hi => absurd hi (by omega), fun x h0 hx i hi _ _ => ?_⟩
  · rw [show i = 0 by omega, hC.2]; exact hb
  · rw [show i = 0 by omega, hC.2, h x h0 hx]
theorem cup_keep {R : Int → Span} {C : Sl FluxStep} {b b' : Int} (hC : CUp C R b) (h : ∀ x, b ≤ x → x < b' → R x = R b) (hbb : b ≤ b') (hl : (C.get (C.len - 1)).Rate = R b) : CUp C R b' := by
  obtain ⟨h0, h1, h2, h3, h4⟩ := hC
  refine ⟨h0, h1, fun i hi => by have := h2 i hi; omega, h3, fun x hx0 hx i hi hf hn => ?_⟩
  by_cases hxb : x < b
  · exact h4 x hx0 hxb i hi hf hn
  · have : i = C.len - 1 := by
      rcases Nat.lt_or_ge (i + 1) C.len with c | c
      · have := hn c
        have := h2 (i + 1) c
        omega
      · omega
    rw [this, hl, h x (by omega) hx]
theorem cup_push {R : Int → Span} {C D : Sl FluxStep} {b b' : Int} (hC : CUp C R b) (h : ∀ x, b ≤ x → x < b' → R x = R b) (hb0 : 0 ≤ b) (hbb : b < b') (hl : (C.get (C.len - 1)).Rate ≠ R b) (hD : D.len = C.len + 1 ∧ (∀ i, i < C.len → D.get i = C.get i) ∧ D.get C.len = ⟨b, R b⟩) : CUp D R b' := by
  obtain ⟨h0, h1, h2, h3, h4⟩ := hC
  obtain ⟨d1, d2, d3⟩ := hD
  refine ⟨by omega, by rw [d2 0 h0]; exact h1, fun i hi => ?_, fun i hi => ?_, fun x hx0 hx i hi hf hn => ?_⟩
  · by_cases e : i = C.len
    · rw [e, d3]; exact hbb
    · rw [d2 i (by omega)]; have := h2 i (by omega); omega
  · by_cases e : i + 1 = C.len
    · rw [e, d3, d2 i (by omega)]
      refine ⟨h2 i (by omega), ?_⟩
      rw [show i = C.len - 1 by omega]; exact hl
    · rw [d2 i (by omega), d2 (i + 1) (by omega)]; exact h3 i (by omega)
  · by_cases e : i = C.len
    · rw [e, d3] at hf ⊢
      exact (h x hf hx).symm
    · rw [d2 i (by omega)] at hf ⊢
      by_cases hxb : x < b
      · refine h4 x hx0 hxb i (by omega) hf fun hi1 => ?_
        have := hn (by omega)
        rwa [d2 (i + 1) hi1] at this
      · exfalso
        have := hn (by omega)
        by_cases e2 : i + 1 = C.len
        · rw [e2, d3] at this
          have : x < b := this
          omega
        · rw [d2 (i + 1) (by omega)] at this
          have := h2 (i + 1) (by omega)
          omega
theorem span_eq {a b : Span} : a = b ↔ a.Low = b.Low ∧ a.High = b.High := by
  cases a; cases b; simp
def rtV (s : Sky) (t : Sl RangeRow) (bin : Int) (l : Sl Spell) (x : Int) : Span := meanV s (expd s t bin x) l
theorem rt_const {s : Sky} {t : Sl RangeRow} {bin : Int} {l : Sl Spell} {x y : Int} (hx : 0 ≤ x) (hxy : x ≤ y) (h : ∀ e, Ed t e → x < e → y < e) : rtV s t bin l x = rtV s t bin l y := by
  unfold rtV expd
  rw [thr_const hx hxy h]
theorem appL {α : Type} {d : Sl α} {v : α} {j : Nat} (hj : j < d.len + 1) : appT d.len d.get (fun _ => v) j = if j = d.len then v else d.get j := by
  unfold appT
  cases e : Nat.ble d.len j
  · have : ¬ d.len ≤ j := fun h => by rw [Nat.ble_eq_true_of_le h] at e; cases e
    rw [if_neg (by omega)]
  · have := Nat.le_of_ble_eq_true e
    rw [if_pos (by omega)]
def EdO (t : Sl RangeRow) (N : Nat) (E : Nat → Int) : Prop := N ≤ 82 ∧ (∀ i j, i < j → j < N → E i < E j) ∧ (∀ x, (∃ k, k < N ∧ E k = x) ↔ Ed t x)
theorem ed0 {t : Sl RangeRow} {N : Nat} {E : Nat → Int} (hk : TOk t) (h : EdO t N E) : 0 < N ∧ E 0 = 0 := by
  obtain ⟨k, hk1, hk2⟩ := (h.2.2 0).2 (Or.inl rfl)
  have h0 : 0 ≤ E 0 := by
    have := (h.2.2 (E 0)).1 ⟨0, by omega, rfl⟩
    rcases this with e | e | ⟨a, ha, e | e⟩
    · omega
    · omega
    · have := (hk.2 a ha).2.1; omega
    · have := (hk.2 a ha).2.1; omega
  refine ⟨by omega, ?_⟩
  by_cases e : k = 0
  · rw [e] at hk2; exact hk2
  · have := h.2.1 0 k (by omega) hk1; omega
def bnd (N : Nat) (E : Nat → Int) (k : Nat) : Int := if k < N then (if E k > 1000000 then 1000001 else E k) else 1000001
theorem bnd_rt {s : Sky} {t : Sl RangeRow} {bin : Int} {l : Sl Spell} {N : Nat} {E : Nat → Int} (h : EdO t N E) {k : Nat} (hkN : k < N) (h0 : 0 ≤ E k) (hE : ¬ E k > 1000000) :
    E k < bnd N E (k + 1) ∧ ∀ x, E k ≤ x → x < bnd N E (k + 1) → rtV s t bin l x = rtV s t bin l (E k) := by
  constructor
  · unfold bnd
    by_cases c : k + 1 < N
    · rw [if_pos c]
      have := h.2.1 k (k + 1) (by omega) c
      split <;> omega
    · rw [if_neg c]; omega
  · intro x h1 h2
    refine (rt_const h0 h1 fun e he hlt => ?_).symm
    obtain ⟨j, hj, e1⟩ := (h.2.2 e).2 he
    rcases Nat.lt_or_ge k j with c | c
    · unfold bnd at h2
      rw [if_pos (by omega)] at h2
      by_cases e2 : j = k + 1
      · rw [e2] at e1; rw [e1] at h2
        split at h2 <;> omega
      · have := h.2.1 (k + 1) j (by omega) hj
        split at h2 <;> omega
    · exfalso
      by_cases e2 : j = k
      · rw [e2] at e1; omega
      · have := h.2.1 j k (by omega) hkN; omega
theorem s70_ok {s : Sky} {t : Sl RangeRow} {bin : Int} {l : Sl Spell} (hf : Fine s t bin 0) (hl : LOk l) : p70 s t bin l = true ∧ CUp (s70 s t bin l) (rtV s t bin l) 1000001 ∧ (s70 s t bin l).len ≤ 82 := by
  have hk := hf.2.1
  have htl := hk.1
  have hfx : ∀ x, 0 ≤ x → x ≤ 1000000 → Fine s t bin x := fun x h1 h2 => ⟨hf.1, hf.2.1, hf.2.2.1, h1, h2⟩
  have l4 : ∀ (N : Nat) (v2 : Sl Int) (E : Nat → Int), EdO t N E → N = cmpN v2.len v2.get → ∀ (m q k : Nat) (w : Sl Int) (C : Sl FluxStep), k + m = N → m < q → w.len = N → (∀ j, j < N → w.get j = E j) →
      ((k = 0 ∧ C.len = 0) ∨ (CUp C (rtV s t bin l) (bnd N E k) ∧ C.len ≤ k)) →
      p70_lp4 s t bin v2 q l (k : Int) w C = true ∧ CUp (s70_lp4 s t bin v2 q l (k : Int) w C) (rtV s t bin l) 1000001 ∧ (s70_lp4 s t bin v2 q l (k : Int) w C).len ≤ 82 := by
    intro N v2 E hE hN m
    have hN82 := hE.1
    obtain ⟨hN0, hE0⟩ := ed0 hk hE
    have hEpos : ∀ k, k < N → 0 ≤ E k := fun k hk1 => by
      by_cases e : k = 0
      · rw [e]; omega
      · have := hE.2.1 0 k (by omega) hk1; omega
    induction m with
    | zero =>
      intro q k w C hkm hq hw hwE hC
      obtain ⟨q, rfl⟩ : ∃ k', q = k' + 1 := ⟨q - 1, by omega⟩
      show p70_st4 s t bin v2 (p70_lp4 s t bin v2 q) _ _ _ _ = true ∧ CUp (s70_st4 s t bin v2 (s70_lp4 s t bin v2 q) _ _ _ _) _ _ ∧ (s70_st4 s t bin v2 (s70_lp4 s t bin v2 q) _ _ _ _).len ≤ 82
      unfold p70_st4 s70_st4
      rw [← hN, decide_eq_false (show ¬ (k : Int) < (N : Int) by omega), cond_false, cond_false]
      rcases hC with ⟨h1, _⟩ | ⟨h1, h2⟩
      · omega
      · have : bnd N E k = 1000001 := by unfold bnd; rw [if_neg (by omega)]
        rw [this] at h1
        exact ⟨rfl, h1, by omega⟩
    | succ m ih =>
      intro q k w C hkm hq hw hwE hC
      obtain ⟨q, rfl⟩ : ∃ k', q = k' + 1 := ⟨q - 1, by omega⟩
      show p70_st4 s t bin v2 (p70_lp4 s t bin v2 q) _ _ _ _ = true ∧ CUp (s70_st4 s t bin v2 (s70_lp4 s t bin v2 q) _ _ _ _) _ _ ∧ (s70_st4 s t bin v2 (s70_lp4 s t bin v2 q) _ _ _ _).len ≤ 82
      have hkN : k < N := by omega
      have e3 : w64 ((k : Int) + 1) = ((k + 1 : Nat) : Int) := by rw [w64_id (by omega) (by omega)]; omega
      unfold p70_st4 s70_st4
      rw [← hN, decide_eq_true (show (k : Int) < (N : Int) by omega), decide_eq_true (show 0 ≤ (k : Int) ∧ (k : Int) < (w.len : Int) by omega), Int.toNat_natCast, decide_eq_true (show k < w.len by omega), hwE k hkN]
      by_cases hE1 : E k > 1000000
      · rw [decide_eq_true hE1]
        rcases hC with ⟨h1, _⟩ | ⟨h1, h2⟩
        · rw [h1, hE0] at hE1; omega
        · have : bnd N E k = 1000001 := by unfold bnd; rw [if_pos hkN, if_pos hE1]
          rw [this] at h1
          exact ⟨rfl, h1, by show C.len ≤ 82; omega⟩
      · have hfe := hfx (E k) (hEpos k hkN) (by omega)
        have hx := expd_ok hfe
        have h8 := s68_eq (g := ⟨s, t, memoF s t bin⟩) (x := expd s t bin (E k)) (l := l) hf.1 hx hl
        rw [decide_eq_false hE1, (s66_eq hfe).1, (s66_eq hfe).2, h8.1, h8.2]
        have em : meanV (⟨s, t, memoF s t bin⟩ : ground).Sky (expd s t bin (E k)) l = rtV s t bin l (E k) := rfl
        rw [em]
        obtain ⟨hb1, hb2⟩ := bnd_rt (s := s) (bin := bin) (l := l) hE hkN (hEpos k hkN) hE1
        have hbk : bnd N E k = E k := by unfold bnd; rw [if_pos hkN, if_neg hE1]
        simp only [cond_true, cond_false, decide_true, Bool.true_and]
        unfold p70_at5 s70_at5
        rw [e3]
        rcases hC with ⟨h1, h2⟩ | ⟨h1, h2⟩
        · rw [show ((C.len : Int) == 0) = true by simp [h2], decide_eq_true (show (C.len + 1) * 24 ≤ 140737488355328 ∧ C.len + 1 ≤ 9223372036854775807 by omega)]
          have r := ih q (k + 1) w ⟨C.len + 1, appT C.len C.get (fun _ => (⟨E k, ⟨(rtV s t bin l (E k)).Low, (rtV s t bin l (E k)).High⟩⟩ : FluxStep))⟩ (by omega) (by omega) hw hwE (Or.inr ⟨cup_init (by rw [h1, hE0] at hb1; rw [h1]; omega) (fun x a b => by rw [h1, hE0] at hb2; rw [h1] at b; exact hb2 x a b) ⟨by show C.len + 1 = 1; omega, by
            have e := appL (d := C) (v := (⟨E k, ⟨(rtV s t bin l (E k)).Low, (rtV s t bin l (E k)).High⟩⟩ : FluxStep)) (j := 0) (by omega)
            rw [if_pos (by omega)] at e
            exact e.trans (by rw [h1, hE0])⟩, by show C.len + 1 ≤ k + 1; omega⟩)
          exact r
        · have hCl := h1.1
          have e7 : w64 ((C.len : Int) - 1) = ((C.len - 1 : Nat) : Int) := by rw [w64_id (by omega) (by omega)]; omega
          rw [show ((C.len : Int) == 0) = false by simp; omega, e7, decide_eq_true (show 0 ≤ ((C.len - 1 : Nat) : Int) ∧ ((C.len - 1 : Nat) : Int) < (C.len : Int) by omega), Int.toNat_natCast, decide_eq_true (show C.len - 1 < C.len by omega), decide_eq_true (show (C.len + 1) * 24 ≤ 140737488355328 ∧ C.len + 1 ≤ 9223372036854775807 by omega)]
          rw [hbk] at h1
          have rk := fun (hr : (C.get (C.len - 1)).Rate = rtV s t bin l (E k)) => ih q (k + 1) w C (by omega) (by omega) hw hwE (Or.inr ⟨cup_keep h1 hb2 (by omega) hr, by omega⟩)
          have rp := fun (hr : (C.get (C.len - 1)).Rate ≠ rtV s t bin l (E k)) => ih q (k + 1) w ⟨C.len + 1, appT C.len C.get (fun _ => (⟨E k, ⟨(rtV s t bin l (E k)).Low, (rtV s t bin l (E k)).High⟩⟩ : FluxStep))⟩ (by omega) (by omega) hw hwE (Or.inr ⟨cup_push h1 hb2 (hEpos k hkN) hb1 hr ⟨rfl, fun i hi => by
            have e := appL (d := C) (v := (⟨E k, ⟨(rtV s t bin l (E k)).Low, (rtV s t bin l (E k)).High⟩⟩ : FluxStep)) (j := i) (by omega)
            rw [if_neg (by omega)] at e
            exact e, by
            have e := appL (d := C) (v := (⟨E k, ⟨(rtV s t bin l (E k)).Low, (rtV s t bin l (E k)).High⟩⟩ : FluxStep)) (j := C.len) (by omega)
            rw [if_pos rfl] at e
            exact e⟩, by show C.len + 1 ≤ k + 1; omega⟩)
          by_cases a : (C.get (C.len - 1)).Rate.Low = (rtV s t bin l (E k)).Low
          · by_cases b : (C.get (C.len - 1)).Rate.High = (rtV s t bin l (E k)).High
            · have r := rk (span_eq.2 ⟨a, b⟩)
              rw [show ((C.get (C.len - 1)).Rate.Low == (rtV s t bin l (E k)).Low) = true by simp [a], show ((C.get (C.len - 1)).Rate.High == (rtV s t bin l (E k)).High) = true by simp [b]]
              exact r
            · have r := rp fun h => b (span_eq.1 h).2
              rw [show ((C.get (C.len - 1)).Rate.Low == (rtV s t bin l (E k)).Low) = true by simp [a], show ((C.get (C.len - 1)).Rate.High == (rtV s t bin l (E k)).High) = false by simp [b]]
              exact r
          · have r := rp fun h => a (span_eq.1 h).1
            rw [show ((C.get (C.len - 1)).Rate.Low == (rtV s t bin l (E k)).Low) = false by simp [a]]
            exact r
  have l1 : ∀ v : Sl Int, v.len ≤ 82 → (∀ x, (∃ j, j < v.len ∧ v.get j = x) ↔ Ed t x) → p70_at1 s t bin l v = true ∧ CUp (s70_at1 s t bin l v) (rtV s t bin l) 1000001 ∧ (s70_at1 s t bin l v).len ≤ 82 := by
    intro v hv hx
    obtain ⟨s1, s2, s3⟩ := sc_ok v.len v.get
    have hE : EdO t (cmpN v.len (sortT v.len v.get)) (cmpT v.len (sortT v.len v.get)) := ⟨by omega, s2, fun x => (s3 x).trans (hx x)⟩
    have r := l4 _ ⟨v.len, sortT v.len v.get⟩ _ hE rfl (cmpN v.len (sortT v.len v.get)) Fuel 0 ⟨cmpN v.len (sortT v.len v.get), cmpT v.len (sortT v.len v.get)⟩ ⟨0, fun _ => default⟩ (by omega) (by simp only [Fuel]; omega) rfl (fun _ _ => rfl) (Or.inl ⟨rfl, rfl⟩)
    unfold p70_at1 s70_at1 p70_at2 s70_at2 p70_at3 s70_at3 p70_at4 s70_at4
    rw [decide_eq_true (show v.len ≤ 4611686018427387 by omega)]
    simp only [Bool.true_and]
    exact r
  have l0 : ∀ (m q i : Nat) (v : Sl Int), i + m = t.len → m < q → v.len = 2 + 2 * i → (∀ x, (∃ j, j < v.len ∧ v.get j = x) ↔ (x = 0 ∨ x = 1 ∨ ∃ a, a < i ∧ (x = (t.get a).Range.Low + 1 ∨ x = (t.get a).Range.High + 1))) →
      p70_lp0 s t bin l q (i : Int) v = true ∧ CUp (s70_lp0 s t bin l q (i : Int) v) (rtV s t bin l) 1000001 ∧ (s70_lp0 s t bin l q (i : Int) v).len ≤ 82 := by
    intro m
    induction m with
    | zero =>
      intro q i v hi hq hv hx
      obtain ⟨q, rfl⟩ : ∃ k', q = k' + 1 := ⟨q - 1, by omega⟩
      show p70_st0 s t bin l (p70_lp0 s t bin l q) _ _ = true ∧ CUp (s70_st0 s t bin l (s70_lp0 s t bin l q) _ _) _ _ ∧ (s70_st0 s t bin l (s70_lp0 s t bin l q) _ _).len ≤ 82
      unfold p70_st0 s70_st0
      rw [decide_eq_false (show ¬ (i : Int) < (t.len : Int) by omega), cond_false, cond_false]
      refine l1 v (by omega) fun x => ?_
      rw [hx x, show i = t.len by omega]
      rfl
    | succ m ih =>
      intro q i v hi hq hv hx
      obtain ⟨q, rfl⟩ : ∃ k', q = k' + 1 := ⟨q - 1, by omega⟩
      show p70_st0 s t bin l (p70_lp0 s t bin l q) _ _ = true ∧ CUp (s70_st0 s t bin l (s70_lp0 s t bin l q) _ _) _ _ ∧ (s70_st0 s t bin l (s70_lp0 s t bin l q) _ _).len ≤ 82
      have e3 : w64 ((i : Int) + 1) = ((i + 1 : Nat) : Int) := by rw [w64_id (by omega) (by omega)]; omega
      have hr := (hk.2 i (by omega)).2.1
      unfold p70_st0 s70_st0
      rw [decide_eq_true (show (i : Int) < (t.len : Int) by omega), decide_eq_true (show 0 ≤ (i : Int) ∧ (i : Int) < (t.len : Int) by omega), Int.toNat_natCast, e3, decide_eq_true (show (v.len + 2) * 8 ≤ 140737488355328 ∧ v.len + 2 ≤ 9223372036854775807 by omega), w64_id (x := (t.get i).Range.Low + 1) (by omega) (by omega), w64_id (x := (t.get i).Range.High + 1) (by omega) (by omega)]
      simp only [cond_true, Bool.true_and]
      refine ih q (i + 1) _ (by omega) (by omega) (by show v.len + 2 = _; omega) fun x => ?_
      have g : ∀ j, j < v.len + 2 → appT v.len v.get (getT ((t.get i).Range.Low + 1) [(t.get i).Range.Low + 1, (t.get i).Range.High + 1]) j = if j = v.len then (t.get i).Range.Low + 1 else if j = v.len + 1 then (t.get i).Range.High + 1 else v.get j := by
        intro j hj
        unfold appT
        cases e : Nat.ble v.len j
        · have : ¬ v.len ≤ j := fun h => by rw [Nat.ble_eq_true_of_le h] at e; cases e
          rw [if_neg (by omega), if_neg (by omega)]
        · have := Nat.le_of_ble_eq_true e
          by_cases e1 : j = v.len
          · rw [if_pos e1, e1, Nat.sub_self]; rfl
          · rw [if_neg e1, if_pos (by omega), show j - v.len = 1 by omega]; rfl
      show (∃ j, j < v.len + 2 ∧ appT v.len v.get (getT ((t.get i).Range.Low + 1) [(t.get i).Range.Low + 1, (t.get i).Range.High + 1]) j = x) ↔ _
      constructor
      · rintro ⟨j, hj, e⟩
        rw [g j hj] at e
        by_cases e1 : j = v.len
        · rw [if_pos e1] at e; exact Or.inr (Or.inr ⟨i, by omega, Or.inl e.symm⟩)
        · rw [if_neg e1] at e
          by_cases e2 : j = v.len + 1
          · rw [if_pos e2] at e; exact Or.inr (Or.inr ⟨i, by omega, Or.inr e.symm⟩)
          · rw [if_neg e2] at e
            rcases (hx x).1 ⟨j, by omega, e⟩ with a | a | ⟨a, b, c⟩
            · exact Or.inl a
            · exact Or.inr (Or.inl a)
            · exact Or.inr (Or.inr ⟨a, by omega, c⟩)
      · intro h
        have hold : (x = 0 ∨ x = 1 ∨ ∃ a, a < i ∧ (x = (t.get a).Range.Low + 1 ∨ x = (t.get a).Range.High + 1)) → ∃ j, j < v.len + 2 ∧ appT v.len v.get (getT ((t.get i).Range.Low + 1) [(t.get i).Range.Low + 1, (t.get i).Range.High + 1]) j = x := by
          intro h
          obtain ⟨j, hj, e⟩ := (hx x).2 h
          exact ⟨j, by omega, by rw [g j (by omega), if_neg (by omega), if_neg (by omega)]; exact e⟩
        rcases h with a | a | ⟨a, b, c⟩
        · exact hold (Or.inl a)
        · exact hold (Or.inr (Or.inl a))
        · by_cases e : a = i
          · subst e
            rcases c with c | c
            · exact ⟨v.len, by omega, by rw [g _ (by omega), if_pos rfl]; exact c.symm⟩
            · exact ⟨v.len + 1, by omega, by rw [g _ (by omega), if_neg (by omega), if_pos rfl]; exact c.symm⟩
          · exact hold (Or.inr (Or.inr ⟨a, by omega, c⟩))
  refine l0 t.len Fuel 0 ⟨2, getT 0 [0, 1]⟩ (by omega) (by simp only [Fuel]; omega) rfl fun x => ?_
  constructor
  · rintro ⟨j, hj, e⟩
    have hj : j < 2 := hj
    have : j = 0 ∨ j = 1 := by omega
    rcases this with h | h
    · subst h; exact Or.inl e.symm
    · subst h; exact Or.inr (Or.inl e.symm)
  · rintro (h | h | ⟨a, ha, _⟩)
    · exact ⟨0, by show 0 < 2; omega, h.symm⟩
    · exact ⟨1, by show 1 < 2; omega, h.symm⟩
    · omega
end Go.Proofs
namespace Go.Proofs
open Go Go.Pm
set_option linter.unusedVariables false
theorem s26_ok (s : Sky) (t : Sl RangeRow) (bin : Int) (l : Sl Spell) (hs : SL s) (ht : t.len ≤ 9223372036854775807) (hl : l.len ≤ 9223372036854775807) : p26 s t bin l = true ∧ (Fine s t bin 0 ∧ LOk l → s26 s t bin l = (s70 s t bin l, 0)) ∧ (¬ (Fine s t bin 0 ∧ LOk l) → s26 s t bin l = (⟨0, fun _ => default⟩, 2)) := by
  obtain ⟨h1, h2⟩ := s65_ok s t bin 0 hs ht
  obtain ⟨e1, e2⟩ := s65_g s t bin 0
  obtain ⟨l1, l2⟩ := s67_ok l hl
  unfold p26 s26
  rw [h1, e1, e2, l1]
  by_cases h : Fine s t bin 0
  · rw [h2.2 h]
    by_cases hk : LOk l
    · rw [l2.2 hk, (s70_ok h hk).1]
      exact ⟨rfl, fun _ => rfl, fun h3 => absurd ⟨h, hk⟩ h3⟩
    · have h3 : s67 l = false := by
        cases e : s67 l
        · rfl
        · exact absurd (l2.1 e) hk
      rw [h3]
      exact ⟨rfl, fun h3 => absurd h3.2 hk, fun _ => rfl⟩
  · have h3 : (s65 s t bin 0).2 = false := by
      cases e : (s65 s t bin 0).2
      · rfl
      · exact absurd (h2.1 e) h
    rw [h3]
    exact ⟨rfl, fun h3 => absurd h3.1 h, fun _ => rfl⟩
def Agr (rates r : Span) : Prop := r.Low ≤ rates.High ∧ r.High ≥ rates.Low
theorem s71_eq (rates : Span) (x : FluxStep) : s71 rates x = true ↔ Agr rates x.Rate := by
  unfold s71 Agr
  simp only [Bool.cond_decide, Bool.if_false_right, Bool.and_eq_true, decide_eq_true_eq]
theorem cup_at {C : Sl FluxStep} {R : Int → Span} {b : Int} (hC : CUp C R b) {x : Int} (h0 : 0 ≤ x) : ∃ i, i < C.len ∧ (C.get i).From ≤ x ∧ (i + 1 < C.len → x < (C.get (i + 1)).From) := by
  obtain ⟨c0, c1, c2, c3, c4⟩ := hC
  have b1 : fst (fun i => decide ((C.get i).From > x)) C.len ≤ C.len := fst_le _ _
  have hlo : ∀ j, j < fst (fun i => decide ((C.get i).From > x)) C.len → (C.get j).From ≤ x := fun j hj => by have := of_decide_eq_false (fst_lo hj); omega
  have hhi : fst (fun i => decide ((C.get i).From > x)) C.len < C.len → (C.get (fst (fun i => decide ((C.get i).From > x)) C.len)).From > x := fun h => of_decide_eq_true (fst_hi (c := fun i => decide ((C.get i).From > x)) h)
  generalize fst (fun i => decide ((C.get i).From > x)) C.len = q at *
  have hq : 0 < q := by
    rcases Nat.eq_zero_or_pos q with h | h
    · have := hhi (by omega)
      rw [h, c1] at this; omega
    · exact h
  refine ⟨q - 1, by omega, hlo _ (by omega), fun h => ?_⟩
  rw [show q - 1 + 1 = q by omega] at h ⊢
  have := hhi h; omega
theorem cup_inc {C : Sl FluxStep} {R : Int → Span} {b : Int} (hC : CUp C R b) : ∀ d i, i + d < C.len → (C.get i).From + d ≤ (C.get (i + d)).From := by
  intro d
  induction d with
  | zero => intro i hi; show (C.get i).From + 0 ≤ _; simp
  | succ d ih =>
    intro i hi
    have h1 := ih i (by omega)
    have h2 := (hC.2.2.2.1 (i + d) (by omega)).1
    rw [show i + d + 1 = i + (d + 1) by omega] at h2
    omega
theorem cup_lt {C : Sl FluxStep} {R : Int → Span} {b : Int} (hC : CUp C R b) {i j : Nat} (hij : i < j) (hj : j < C.len) : (C.get i).From < (C.get j).From := by
  have := cup_inc hC (j - i) i (by omega)
  rw [show i + (j - i) = j by omega] at this
  omega
def OpOk (R : Int → Span) (rates : Span) (d : Span × Int) : Prop :=
  (d.2 = 0 ∧ (0 ≤ d.1.Low ∧ d.1.Low ≤ d.1.High ∧ d.1.High ≤ 1000000) ∧ ∀ x, 0 ≤ x → x ≤ 1000000 → (Agr rates (R x) ↔ d.1.Low ≤ x ∧ x ≤ d.1.High)) ∨ (d = (⟨0, 0⟩, 5) ∧ ∀ x, 0 ≤ x → x ≤ 1000000 → ¬ Agr rates (R x))
theorem s25_loop {C : Sl FluxStep} {R : Int → Span} (hC : CUp C R 1000001) (hl : C.len ≤ 82) (rates : Span) (i0 : Nat) (hi0 : i0 < C.len) (ha : Agr rates (C.get i0).Rate) :
    p25_at5 rates C (i0 : Int) = true ∧ ∃ k1, i0 ≤ k1 ∧ k1 < C.len ∧ (∀ k, i0 ≤ k → k ≤ k1 → Agr rates (C.get k).Rate) ∧ (k1 + 1 < C.len → ¬ Agr rates (C.get (k1 + 1)).Rate) ∧
      s25_at5 rates C (i0 : Int) = (⟨(C.get i0).From, if k1 + 1 < C.len then (C.get (k1 + 1)).From - 1 else 1000000⟩, 0) := by
  have hF : ∀ i, i < C.len → 0 ≤ (C.get i).From ∧ (C.get i).From ≤ 1000000 := fun i hi => by
    have h1 := hC.2.2.1 i hi
    have h2 := cup_inc hC i 0 (by omega)
    rw [Nat.zero_add, hC.2.1] at h2
    omega
  have key : ∀ (m q k : Nat) (o : Int), k + m = C.len → m < q → i0 < k → (∀ j, i0 ≤ j → j < k → Agr rates (C.get j).Rate) → o = (if k < C.len then (C.get k).From - 1 else 1000000) →
      p25_lp6 rates C (i0 : Int) q (k : Int) o = true ∧ ∃ k1, i0 ≤ k1 ∧ k1 < C.len ∧ (∀ k, i0 ≤ k → k ≤ k1 → Agr rates (C.get k).Rate) ∧ (k1 + 1 < C.len → ¬ Agr rates (C.get (k1 + 1)).Rate) ∧
        s25_lp6 rates C (i0 : Int) q (k : Int) o = (⟨(C.get i0).From, if k1 + 1 < C.len then (C.get (k1 + 1)).From - 1 else 1000000⟩, 0) := by
    intro m
    induction m with
    | zero =>
      intro q k o hk hq h0 hag ho
      obtain ⟨q, rfl⟩ : ∃ k', q = k' + 1 := ⟨q - 1, by omega⟩
      show p25_st6 rates C (i0 : Int) (p25_lp6 rates C (i0 : Int) q) _ _ = true ∧ ∃ k1, _ ∧ _ ∧ _ ∧ _ ∧ s25_st6 rates C (i0 : Int) (s25_lp6 rates C (i0 : Int) q) _ _ = _
      unfold p25_st6 s25_st6
      rw [decide_eq_false (show ¬ (k : Int) < (C.len : Int) by omega), Int.toNat_natCast]
      refine ⟨rfl, k - 1, by omega, by omega, fun j h1 h2 => hag j h1 (by omega), fun h => absurd h (by omega), ?_⟩
      rw [if_neg (by omega)] at ho
      rw [if_neg (show ¬ k - 1 + 1 < C.len by omega), ho]
      rfl
    | succ m ih =>
      intro q k o hk hq h0 hag ho
      obtain ⟨q, rfl⟩ : ∃ k', q = k' + 1 := ⟨q - 1, by omega⟩
      show p25_st6 rates C (i0 : Int) (p25_lp6 rates C (i0 : Int) q) _ _ = true ∧ ∃ k1, _ ∧ _ ∧ _ ∧ _ ∧ s25_st6 rates C (i0 : Int) (s25_lp6 rates C (i0 : Int) q) _ _ = _
      have hkl : k < C.len := by omega
      have e3 : w64 ((k : Int) + 1) = ((k + 1 : Nat) : Int) := by rw [w64_id (by omega) (by omega)]; omega
      unfold p25_st6 s25_st6
      rw [decide_eq_true (show (k : Int) < (C.len : Int) by omega), decide_eq_true (show 0 ≤ (k : Int) ∧ (k : Int) < (C.len : Int) by omega), Int.toNat_natCast, Int.toNat_natCast, e3, Int.toNat_natCast]
      cases hs : s71 rates (C.get k)
      · have hno : ¬ Agr rates (C.get k).Rate := fun h => absurd ((s71_eq rates _).2 h) (by rw [hs]; exact Bool.false_ne_true)
        refine ⟨rfl, k - 1, by omega, by omega, fun j h1 h2 => hag j h1 (by omega), fun _ => by rw [show k - 1 + 1 = k by omega]; exact hno, ?_⟩
        rw [if_pos hkl] at ho
        rw [if_pos (show k - 1 + 1 < C.len by omega), show k - 1 + 1 = k by omega, ho]
        rfl
      · have hyes := (s71_eq rates _).1 hs
        have hag2 : ∀ j, i0 ≤ j → j < k + 1 → Agr rates (C.get j).Rate := fun j h1 h2 => by
          by_cases e : j = k
          · rw [e]; exact hyes
          · exact hag j h1 (by omega)
        by_cases hn : k + 1 < C.len
        · have := hF (k + 1) hn
          have r := ih q (k + 1) ((C.get (k + 1)).From - 1) (by omega) (by omega) (by omega) hag2 (by rw [if_pos hn])
          rw [decide_eq_true (show ((k + 1 : Nat) : Int) < (C.len : Int) by omega), decide_eq_true (show 0 ≤ ((k + 1 : Nat) : Int) ∧ ((k + 1 : Nat) : Int) < (C.len : Int) by omega), w64_id (x := (C.get (k + 1)).From - 1) (by omega) (by omega)]
          exact r
        · have r := ih q (k + 1) 1000000 (by omega) (by omega) (by omega) hag2 (by rw [if_neg hn])
          rw [decide_eq_false (show ¬ ((k + 1 : Nat) : Int) < (C.len : Int) by omega)]
          exact r
  -- the first round
  obtain ⟨q, hq⟩ : ∃ k, Fuel = k + 1 := ⟨Fuel - 1, by simp only [Fuel]⟩
  have hq2 : 1000 < q := by have : Fuel = 1000000 + (Fuel - 1000000) := by simp only [Fuel]
                            omega
  have e3 : w64 ((i0 : Int) + 1) = ((i0 + 1 : Nat) : Int) := by rw [w64_id (by omega) (by omega)]; omega
  have hs : s71 rates (C.get i0) = true := (s71_eq rates _).2 ha
  have one : ∀ j, i0 ≤ j → j < i0 + 1 → Agr rates (C.get j).Rate := fun j h1 h2 => by rw [show j = i0 by omega]; exact ha
  unfold p25_at5 s25_at5 p25_at6 s25_at6
  rw [hq, decide_eq_true (show 0 ≤ (i0 : Int) ∧ (i0 : Int) < (C.len : Int) by omega)]
  show (true && p25_st6 rates C (i0 : Int) (p25_lp6 rates C (i0 : Int) q) _ _) = true ∧ ∃ k1, _ ∧ _ ∧ _ ∧ _ ∧ s25_st6 rates C (i0 : Int) (s25_lp6 rates C (i0 : Int) q) _ _ = _
  unfold p25_st6 s25_st6
  rw [decide_eq_true (show (i0 : Int) < (C.len : Int) by omega), decide_eq_true (show 0 ≤ (i0 : Int) ∧ (i0 : Int) < (C.len : Int) by omega), Int.toNat_natCast, hs, e3, Int.toNat_natCast]
  by_cases hn : i0 + 1 < C.len
  · have := hF (i0 + 1) hn
    have r := key (C.len - (i0 + 1)) q (i0 + 1) ((C.get (i0 + 1)).From - 1) (by omega) (by omega) (by omega) one (by rw [if_pos hn])
    rw [decide_eq_true (show ((i0 + 1 : Nat) : Int) < (C.len : Int) by omega), decide_eq_true (show 0 ≤ ((i0 + 1 : Nat) : Int) ∧ ((i0 + 1 : Nat) : Int) < (C.len : Int) by omega), w64_id (x := (C.get (i0 + 1)).From - 1) (by omega) (by omega)]
    exact r
  · have r := key (C.len - (i0 + 1)) q (i0 + 1) 1000000 (by omega) (by omega) (by omega) one (by rw [if_neg hn])
    rw [decide_eq_false (show ¬ ((i0 + 1 : Nat) : Int) < (C.len : Int) by omega)]
    exact r
theorem s72_eq (rates : Span) (C : Sl FluxStep) (hl : C.len ≤ 82) : p72 rates C = true ∧ s72 rates C = if fst (fun i => s71 rates (C.get i)) C.len < C.len then ((fst (fun i => s71 rates (C.get i)) C.len : Nat) : Int) else -1 := by
  have h := idx_loop (c := s71 rates) (lpS := s72_lp0 rates) (lpP := p72_lp0 rates) (fun _ _ _ _ => rfl) (fun _ _ _ _ => rfl) C (by omega)
  exact ⟨h.1, h.2⟩
theorem s25_curve {C : Sl FluxStep} {R : Int → Span} (hC : CUp C R 1000001) (hl : C.len ≤ 82) (rates : Span) (hm : ∀ x y, 0 ≤ x → x ≤ y → y ≤ 1000000 → (R y).Low ≤ (R x).Low ∧ (R y).High ≤ (R x).High) :
    p25_at3 rates C = true ∧ OpOk R rates (s25_at3 rates C) := by
  obtain ⟨i1, i2⟩ := s72_eq rates C hl
  have hF : ∀ i, i < C.len → 0 ≤ (C.get i).From ∧ (C.get i).From ≤ 1000000 := fun i hi => by
    have h1 := hC.2.2.1 i hi
    have h2 := cup_inc hC i 0 (by omega)
    rw [Nat.zero_add, hC.2.1] at h2
    omega
  have hR : ∀ i, i < C.len → (C.get i).Rate = R (C.get i).From := fun i hi => hC.2.2.2.2 _ (hF i hi).1 (by have := hF i hi; omega) i hi (Int.le_refl _) fun h => (hC.2.2.2.1 i h).1
  have hlo : ∀ j, j < fst (fun i => s71 rates (C.get i)) C.len → ¬ Agr rates (C.get j).Rate := fun j hj h => by
    have := fst_lo hj
    rw [(s71_eq rates _).2 h] at this; cases this
  have hhi : fst (fun i => s71 rates (C.get i)) C.len < C.len → Agr rates (C.get (fst (fun i => s71 rates (C.get i)) C.len)).Rate := fun h => (s71_eq rates _).1 (fst_hi (c := fun i => s71 rates (C.get i)) h)
  have b1 : fst (fun i => s71 rates (C.get i)) C.len ≤ C.len := fst_le _ _
  unfold p25_at3 s25_at3 p25_at4 s25_at4
  rw [i1, i2]
  generalize fst (fun i => s71 rates (C.get i)) C.len = i0 at *
  by_cases hi0 : i0 < C.len
  · rw [if_pos hi0, decide_eq_false (show ¬ (i0 : Int) < 0 by omega)]
    obtain ⟨r1, k1, r2, r3, r4, r5, r6⟩ := s25_loop hC hl rates i0 hi0 (hhi hi0)
    rw [r1, cond_false, r6]
    have hsp : 0 ≤ (C.get i0).From ∧ (C.get i0).From ≤ (if k1 + 1 < C.len then (C.get (k1 + 1)).From - 1 else 1000000) ∧ (if k1 + 1 < C.len then (C.get (k1 + 1)).From - 1 else 1000000) ≤ 1000000 := by
      have f0 := hF i0 hi0
      by_cases hn : k1 + 1 < C.len
      · rw [if_pos hn]
        have f1 := hF (k1 + 1) hn
        have := cup_lt hC (show i0 < k1 + 1 by omega) hn
        omega
      · rw [if_neg hn]; omega
    refine ⟨rfl, Or.inl ⟨rfl, hsp, fun x x0 x1 => ?_⟩⟩
    obtain ⟨i, h1, h2, h3⟩ := cup_at hC x0
    have e := hC.2.2.2.2 x x0 (by omega) i h1 h2 h3
    show Agr rates (R x) ↔ (C.get i0).From ≤ x ∧ x ≤ (if k1 + 1 < C.len then (C.get (k1 + 1)).From - 1 else 1000000)
    rw [← e]
    constructor
    · intro ha
      have a1 : i0 ≤ i := by
        rcases Nat.lt_or_ge i i0 with h | h
        · exact absurd ha (hlo i h)
        · exact h
      have a2 : i ≤ k1 := by
        rcases Nat.lt_or_ge k1 i with h | h
        · have c := r5 (by omega)
          refine absurd ?_ c
          have hk := hR (k1 + 1) (by omega)
          have hi := hR i h1
          have h0 := hR i0 hi0
          have ha0 := r4 i0 (Nat.le_refl _) r2
          have f0 := hF i0 hi0
          have f1 := hF (k1 + 1) (by omega)
          have f2 := hF i h1
          have l1 := cup_lt hC (show i0 < k1 + 1 by omega) (by omega)
          have l2 : (C.get (k1 + 1)).From ≤ (C.get i).From := by
            by_cases ee : k1 + 1 = i
            · rw [ee]; exact Int.le_refl _
            · have := cup_lt hC (show k1 + 1 < i by omega) h1; omega
          have m1 := hm _ _ f0.1 (show (C.get i0).From ≤ (C.get (k1 + 1)).From by omega) f1.2
          have m2 := hm _ _ f1.1 l2 f2.2
          unfold Agr at *
          rw [hk]; rw [hi] at ha; rw [h0] at ha0
          omega
        · exact h
      constructor
      · by_cases ee : i0 = i
        · rw [ee]; exact h2
        · have := cup_lt hC (show i0 < i by omega) h1; omega
      · by_cases hn : k1 + 1 < C.len
        · rw [if_pos hn]
          by_cases ee : i = k1
          · have := h3 (by omega); rw [ee] at this; omega
          · have a := h3 (by omega)
            have : (C.get (i + 1)).From ≤ (C.get (k1 + 1)).From := by
              have := cup_lt hC (show i + 1 < k1 + 1 by omega) hn; omega
            omega
        · rw [if_neg hn]; exact x1
    · intro ⟨g1, g2⟩
      have a1 : i0 ≤ i := by
        rcases Nat.lt_or_ge i i0 with h | h
        · have a := h3 (by omega)
          have : (C.get (i + 1)).From ≤ (C.get i0).From := by
            by_cases ee : i + 1 = i0
            · rw [ee]; exact Int.le_refl _
            · have := cup_lt hC (show i + 1 < i0 by omega) hi0; omega
          omega
        · exact h
      have a2 : i ≤ k1 := by
        rcases Nat.lt_or_ge k1 i with h | h
        · rw [if_pos (by omega)] at g2
          have : (C.get (k1 + 1)).From ≤ (C.get i).From := by
            by_cases ee : k1 + 1 = i
            · rw [ee]; exact Int.le_refl _
            · have := cup_lt hC (show k1 + 1 < i by omega) h1; omega
          omega
        · exact h
      exact r4 i a1 a2
  · rw [if_neg hi0]
    refine ⟨rfl, Or.inr ⟨rfl, fun x x0 x1 ha => ?_⟩⟩
    obtain ⟨i, h1, h2, h3⟩ := cup_at hC x0
    rw [← hC.2.2.2.2 x x0 (by omega) i h1 h2 h3] at ha
    exact hlo i (by omega) ha
theorem rt_mono {s : Sky} {t : Sl RangeRow} {bin : Int} {l : Sl Spell} (hf : Fine s t bin 0) (hl : LOk l) : ∀ x y, 0 ≤ x → x ≤ y → y ≤ 1000000 → (rtV s t bin l y).Low ≤ (rtV s t bin l x).Low ∧ (rtV s t bin l y).High ≤ (rtV s t bin l x).High := by
  intro x y h1 h2 h3
  have hx : Fine s t bin x := ⟨hf.1, hf.2.1, hf.2.2.1, h1, by omega⟩
  obtain ⟨a, b⟩ := expd_mono hx h2
  exact mean_mono hf.1 hl a b
theorem s25_ok (s : Sky) (t : Sl RangeRow) (bin : Int) (rates : Span) (l : Sl Spell) (hs : SL s) (ht : t.len ≤ 9223372036854775807) (hl : l.len ≤ 9223372036854775807) : p25 s t bin rates l = true ∧
    ((Fine s t bin 0 ∧ LOk l) ∧ (0 ≤ rates.Low ∧ rates.Low ≤ rates.High ∧ rates.High ≤ s.Parts) → OpOk (rtV s t bin l) rates (s25 s t bin rates l)) ∧
    (¬ ((Fine s t bin 0 ∧ LOk l) ∧ (0 ≤ rates.Low ∧ rates.Low ≤ rates.High ∧ rates.High ≤ s.Parts)) → s25 s t bin rates l = (⟨0, 0⟩, 2)) := by
  obtain ⟨h1, h2⟩ := s65_ok s t bin 0 hs ht
  obtain ⟨e1, e2⟩ := s65_g s t bin 0
  obtain ⟨l1, l2⟩ := s67_ok l hl
  unfold p25 s25 p25_at0 s25_at0 p25_at1 s25_at1 p25_at2 s25_at2
  rw [h1, e1, e2, l1, s69_eq]
  by_cases h : Fine s t bin 0
  · rw [h2.2 h]
    by_cases hk : LOk l
    · obtain ⟨k1, k2, k3⟩ := s70_ok h hk
      rw [l2.2 hk, k1]
      by_cases hr : 0 ≤ rates.Low ∧ rates.Low ≤ rates.High ∧ rates.High ≤ s.Parts
      · rw [decide_eq_true hr]
        obtain ⟨c1, c2⟩ := s25_curve k2 k3 rates (rt_mono h hk)
        refine ⟨?_, fun _ => c2, fun h3 => absurd ⟨⟨h, hk⟩, hr⟩ h3⟩
        rw [c1]; rfl
      · rw [decide_eq_false hr]
        exact ⟨rfl, fun h3 => absurd h3.2 hr, fun _ => rfl⟩
    · have h3 : s67 l = false := by
        cases e : s67 l
        · rfl
        · exact absurd (l2.1 e) hk
      rw [h3]
      exact ⟨rfl, fun h3 => absurd h3.1.2 hk, fun _ => rfl⟩
  · have h3 : (s65 s t bin 0).2 = false := by
      cases e : (s65 s t bin 0).2
      · rfl
      · exact absurd (h2.1 e) h
    rw [h3]
    exact ⟨rfl, fun h3 => absurd h3.1.1 h, fun _ => rfl⟩
end Go.Proofs
namespace Go.Proofs
open Go Go.Pm
set_option linter.unusedVariables false
theorem rt_usual {s : Sky} {t : Sl RangeRow} {bin x n : Int} (h : 1 ≤ n ∧ n ≤ 1000000) (hf : Fine s t bin x) : rtV s t bin ⟨1, fun _ => s34 n⟩ x = expd s t bin x := mean_usual h (expd_ok hf)
def TB (t u : Sl RangeRow) : Prop := u.len = t.len ∧ ∀ i, i < t.len → (u.get i).Energy = (t.get i).Energy ∧ (t.get i).Range.Low ≤ (u.get i).Range.Low ∧ (u.get i).Range.High ≤ (t.get i).Range.High
def BB (l m : Sl FluxRow) : Prop := m.len = l.len ∧ ∀ i, i < l.len → (m.get i).Energy = (l.get i).Energy ∧ (l.get i).Rate.Low ≤ (m.get i).Rate.Low ∧ (m.get i).Rate.High ≤ (l.get i).Rate.High
theorem fst_le_n {c d : Nat → Bool} {n m : Nat} (e : n = m) (h : ∀ i, i < m → d i = true → c i = true) : fst c n ≤ fst d m := by
  subst e; exact fst_mon h
theorem thr_better {t u : Sl RangeRow} {x : Int} (hk : TOk t) (hu : TOk u) (h : TB t u) (hx : 0 ≤ x) : (thr t x).Low ≤ (thr u x).Low ∧ ((thr t x).High ≠ -1 → (thr u x).High ≠ -1 ∧ (thr u x).High ≤ (thr t x).High) := by
  have hE : ∀ i, i < t.len → 1 ≤ (t.get i).Energy ∧ (t.get i).Energy ≤ 1000000 := fun i hi => (hk.2 i hi).1
  have b1 : kH u x ≤ u.len := fst_le _ _
  have b2 : kL u x ≤ u.len := fst_le _ _
  have h0 := h.1
  have h1 : kH t x ≤ kH u x := fst_le_n h.1.symm fun i hi hd => decide_eq_true (by
    have := of_decide_eq_true hd
    have := (h.2 i (by omega)).2.2
    omega)
  have h2 : kL u x ≤ kL t x := fst_le_n h.1 fun i hi hd => decide_eq_true (by
    have := of_decide_eq_true hd
    have := (h.2 i hi).2.1
    omega)
  unfold thr
  by_cases hz : x = 0
  · rw [if_pos hz, if_pos hz]; exact ⟨Int.le_refl _, fun hne => ⟨hne, Int.le_refl _⟩⟩
  rw [if_neg hz, if_neg hz]
  constructor
  · show thrL t x ≤ thrL u x
    unfold thrL
    by_cases c : 0 < kH t x
    · rw [if_pos c, if_pos (show 0 < kH u x by omega), (h.2 (kH u x - 1) (by omega)).1]
      by_cases e : kH t x = kH u x
      · rw [e]; exact Int.le_refl _
      · have := t_e hk (show kH t x - 1 < kH u x - 1 by omega) (by omega); omega
    · rw [if_neg c]
      by_cases c2 : 0 < kH u x
      · rw [if_pos c2, (h.2 (kH u x - 1) (by omega)).1]
        have := hE (kH u x - 1) (by omega); omega
      · rw [if_neg c2]; exact Int.le_refl _
  · show thrH t x ≠ -1 → thrH u x ≠ -1 ∧ thrH u x ≤ thrH t x
    unfold thrH
    by_cases c : kL t x < t.len
    · rw [if_pos c, if_pos (show kL u x < u.len by omega), (h.2 (kL u x) (by omega)).1]
      intro _
      have := hE (kL u x) (by omega)
      refine ⟨by omega, ?_⟩
      by_cases e : kL u x = kL t x
      · rw [e]; exact Int.le_refl _
      · have := t_e hk (show kL u x < kL t x by omega) c; omega
    · rw [if_neg c]; intro h; exact absurd rfl h
theorem abv_better {parts : Int} {l m : Sl FluxRow} {y : Span} (hl : BOk parts l) (hm : BOk parts m) (h : BB l m) : (abv l y).Low ≤ (abv m y).Low ∧ (abv m y).High ≤ (abv l y).High := by
  have hlen := hl.1
  have h0 := h.1
  have e1 : jL m y.Low = jL l y.Low := by
    refine Nat.le_antisymm ?_ ?_
    · exact fst_le_n h.1 fun i hi hd => by rw [(h.2 i hi).1]; exact hd
    · exact fst_le_n h.1.symm fun i hi hd => by rw [← (h.2 i (by omega)).1]; exact hd
  have e2 : jH m y.High = jH l y.High := by
    refine Nat.le_antisymm ?_ ?_
    · exact fst_le_n h.1 fun i hi hd => by rw [(h.2 i hi).1]; exact hd
    · exact fst_le_n h.1.symm fun i hi hd => by rw [← (h.2 i (by omega)).1]; exact hd
  have b1 : jL l y.Low ≤ l.len := fst_le _ _
  constructor
  · show abvL l y.High ≤ abvL m y.High
    unfold abvL
    rw [e2, h0]
    by_cases hn : y.High = -1
    · rw [if_pos hn, if_pos hn]; exact Int.le_refl _
    rw [if_neg hn, if_neg hn]
    by_cases hc : jH l y.High < l.len
    · rw [if_pos hc, if_pos hc]; exact (h.2 _ hc).2.1
    · rw [if_neg hc, if_neg hc]; exact Int.le_refl _
  · show abvH m y.Low ≤ abvH l y.Low
    unfold abvH
    rw [e1]
    by_cases hc : 0 < jL l y.Low
    · rw [if_pos hc, if_pos hc]; exact (h.2 _ (by omega)).2.2
    · rw [if_neg hc, if_neg hc]; exact (h.2 0 (by omega)).2.2
theorem expd_better {s b : Sky} {t u : Sl RangeRow} {bin x : Int} (hf : Fine s t bin x) (hg : Fine b u bin x) (hp : b.Parts = s.Parts) (ht : TB t u) (hb : BB (s.Bins.get bin.toNat) (b.Bins.get bin.toNat)) :
    (expd s t bin x).Low ≤ (expd b u bin x).Low ∧ (expd b u bin x).High ≤ (expd s t bin x).High := by
  obtain ⟨h1, h2⟩ := thr_better hf.2.1 hg.2.1 ht hf.2.2.2.1
  have hbk := hg.b
  rw [hp] at hbk
  obtain ⟨a1, a2⟩ := abv_better (y := thr u x) hf.b hbk hb
  have m1 : (abv (s.Bins.get bin.toNat) (thr u x)).High ≤ (abv (s.Bins.get bin.toNat) (thr t x)).High := by
    have hlen := hf.b.1
    show abvH _ (thr u x).Low ≤ abvH _ (thr t x).Low
    have b1 : jL (s.Bins.get bin.toNat) (thr u x).Low ≤ (s.Bins.get bin.toNat).len := fst_le _ _
    have h3 : jL (s.Bins.get bin.toNat) (thr t x).Low ≤ jL (s.Bins.get bin.toNat) (thr u x).Low := fst_mon fun i hi hd => decide_eq_true (by have := of_decide_eq_true hd; omega)
    unfold abvH
    by_cases c : 0 < jL (s.Bins.get bin.toNat) (thr t x).Low
    · rw [if_pos c, if_pos (by omega)]; exact b_high hf.b (by omega) (by omega)
    · rw [if_neg c]
      split
      · exact b_high hf.b (Nat.zero_le _) (by omega)
      · exact Int.le_refl _
  have m2 : (abv (s.Bins.get bin.toNat) (thr t x)).Low ≤ (abv (s.Bins.get bin.toNat) (thr u x)).Low := by
    have hr : ∀ i, i < (s.Bins.get bin.toNat).len → 0 ≤ ((s.Bins.get bin.toNat).get i).Rate.Low := fun i hi => (hf.b.2.2 i hi).2.1.1
    show abvL _ (thr t x).High ≤ abvL _ (thr u x).High
    unfold abvL
    by_cases hz : (thr t x).High = -1
    · rw [if_pos hz]
      split
      · exact Int.le_refl _
      · split
        · rename_i h; exact hr _ h
        · exact Int.le_refl _
    · obtain ⟨g1, g2⟩ := h2 hz
      rw [if_neg hz, if_neg g1]
      have h3 : jH (s.Bins.get bin.toNat) (thr u x).High ≤ jH (s.Bins.get bin.toNat) (thr t x).High := fst_mon fun i hi hd => decide_eq_true (by have := of_decide_eq_true hd; omega)
      by_cases c : jH (s.Bins.get bin.toNat) (thr t x).High < (s.Bins.get bin.toNat).len
      · rw [if_pos c, if_pos (by omega)]; exact b_low hf.b h3 c
      · rw [if_neg c]
        split
        · rename_i h; exact hr _ h
        · exact Int.le_refl _
  exact ⟨Int.le_trans m2 a1, Int.le_trans a2 m1⟩
theorem at11_8 {s b : Sky} {t u : Sl RangeRow} {bin : Int} {rates : Span} (hs : SL s) (ht : t.len ≤ 9223372036854775807) (hb : SL b) (hu : u.len ≤ 9223372036854775807) (hf : Fine s t bin 0) (hg : Fine b u bin 0)
    (hp : b.Parts = s.Parts) (hr : 0 ≤ rates.Low ∧ rates.Low ≤ rates.High ∧ rates.High ≤ s.Parts) (hT : TB t u) (hB : BB (s.Bins.get bin.toNat) (b.Bins.get bin.toNat)) :
    p8_at11 s t b bin rates u s.Bins = true ∧ s8_at11 s t b bin rates u s.Bins = true := by
  have hk := usual_ok (n := 1) (by omega)
  obtain ⟨a1, a2, _⟩ := s25_ok s t bin rates ⟨1, fun _ => s34 1⟩ hs ht (by show (1 : Nat) ≤ _; omega)
  obtain ⟨b1, b2, _⟩ := s25_ok b u bin rates ⟨1, fun _ => s34 1⟩ hb hu (by show (1 : Nat) ≤ _; omega)
  have o1 := a2 ⟨⟨hf, hk⟩, hr⟩
  have o2 := b2 ⟨⟨hg, hk⟩, hr.1, hr.2.1, by rw [hp]; exact hr.2.2⟩
  have sub : ∀ x, 0 ≤ x → x ≤ 1000000 → Agr rates (rtV b u bin ⟨1, fun _ => s34 1⟩ x) → Agr rates (rtV s t bin ⟨1, fun _ => s34 1⟩ x) := by
    intro x h0 h1 ha
    have hfx : Fine s t bin x := ⟨hf.1, hf.2.1, hf.2.2.1, h0, h1⟩
    have hgx : Fine b u bin x := ⟨hg.1, hg.2.1, hg.2.2.1, h0, h1⟩
    rw [rt_usual (by omega) hgx] at ha
    rw [rt_usual (by omega) hfx]
    have := expd_better hfx hgx hp hT hB
    unfold Agr at *
    omega
  unfold p8_at11 s8_at11 p8_at12 s8_at12
  rw [show (⟨s.Parts, s.Bins, s.Beta, s.Alpha⟩ : Sky) = s from rfl, a1, b1]
  refine ⟨rfl, ?_⟩
  generalize s25 s t bin rates ⟨1, fun _ => s34 1⟩ = d at o1
  generalize s25 b u bin rates ⟨1, fun _ => s34 1⟩ = e at o2
  unfold s8_at13 s8_at14
  rcases o2 with ⟨e0, e1, e2⟩ | ⟨e0, _⟩
  · rw [e0]
    have ly := sub _ e1.1 (by omega) ((e2 _ e1.1 (by omega)).2 ⟨Int.le_refl _, e1.2.1⟩)
    have hy := sub _ (show 0 ≤ e.1.High by omega) e1.2.2 ((e2 _ (by omega) e1.2.2).2 ⟨e1.2.1, Int.le_refl _⟩)
    rcases o1 with ⟨d0, d1, d2⟩ | ⟨_, d1⟩
    · have g1 := (d2 _ e1.1 (by omega)).1 ly
      have g2 := (d2 _ (by omega) e1.2.2).1 hy
      rw [d0, decide_eq_true (show e.1.Low ≥ d.1.Low by omega), decide_eq_true (show e.1.High ≤ d.1.High by omega)]
      rfl
    · exact absurd ly (d1 _ e1.1 (by omega))
  · rw [e0]; rfl
theorem law8 (s : Sky) (t : Sl RangeRow) (b : Sky) (u : Sl RangeRow) (bin x : Int) (rates : Span) (hs : SL s) (ht : t.len ≤ 9223372036854775807) (hb : SL b) (hu : u.len ≤ 9223372036854775807) : p8 s t b u bin x rates = true ∧ s8 s t b u bin x rates = true := by
  have go : Fine s t bin x → SOk b → TOk u → (0 ≤ rates.Low ∧ rates.Low ≤ rates.High ∧ rates.High ≤ s.Parts) → p8_at1 s t b bin x rates u s.Bins = true ∧ s8_at1 s t b bin x rates u s.Bins = true := by
    intro hf hbk huk hr
    unfold p8_at1 s8_at1
    by_cases g1 : ¬ b.Parts = s.Parts
    · rw [show (b.Parts != s.Parts) = true by simpa using g1]; exact ⟨rfl, rfl⟩
    have g1 := Decidable.of_not_not g1
    rw [show (b.Parts != s.Parts) = false by simpa using g1]
    by_cases g2 : ¬ (b.Bins.len : Int) = (s.Bins.len : Int)
    · rw [show ((b.Bins.len : Int) != (s.Bins.len : Int)) = true by simpa using g2]; exact ⟨rfl, rfl⟩
    have g2 := Decidable.of_not_not g2
    rw [show ((b.Bins.len : Int) != (s.Bins.len : Int)) = false by simpa using g2, g2, decide_eq_true hf.2.2.1]
    by_cases g3 : ¬ ((b.Bins.get bin.toNat).len : Int) = ((s.Bins.get bin.toNat).len : Int)
    · rw [show (((b.Bins.get bin.toNat).len : Int) != ((s.Bins.get bin.toNat).len : Int)) = true by simpa using g3]; exact ⟨rfl, rfl⟩
    have g3 := Decidable.of_not_not g3
    rw [show (((b.Bins.get bin.toNat).len : Int) != ((s.Bins.get bin.toNat).len : Int)) = false by simpa using g3]
    by_cases g4 : ¬ (u.len : Int) = (t.len : Int)
    · rw [show ((u.len : Int) != (t.len : Int)) = true by simpa using g4]; exact ⟨rfl, rfl⟩
    have g4 := Decidable.of_not_not g4
    rw [show ((u.len : Int) != (t.len : Int)) = false by simpa using g4]
    have hg : Fine b u bin x := ⟨hbk, huk, by rw [g2]; exact hf.2.2.1, hf.2.2.2⟩
    have hf0 : Fine s t bin 0 := ⟨hf.1, hf.2.1, hf.2.2.1, by omega, by omega⟩
    have hg0 : Fine b u bin 0 := ⟨hg.1, hg.2.1, hg.2.2.1, by omega, by omega⟩
    have hlen := hf.2.1.1
    have hblen := hf.b.1
    -- behind both comparisons
    have at6 : TB t u → BB (s.Bins.get bin.toNat) (b.Bins.get bin.toNat) → p8_at6 s t b bin x rates u s.Bins = true ∧ s8_at6 s t b bin x rates u s.Bins = true := by
      intro hT hB
      obtain ⟨a1, a2, _⟩ := s19_ok t x ht
      obtain ⟨b1, b2, _⟩ := s19_ok u x hu
      obtain ⟨c1, c2, _⟩ := s20_ok s t bin x hs ht
      obtain ⟨d1, d2, _⟩ := s20_ok b u bin x hb hu
      have r := at11_8 hs ht hb hu hf0 hg0 g1 hr hT hB
      obtain ⟨z1, z2⟩ := thr_better hf.2.1 hg.2.1 hT hf.2.2.2.1
      obtain ⟨y1, y2⟩ := expd_better hf hg g1 hT hB
      unfold p8_at6 s8_at6 p8_at7 s8_at7 p8_at8 s8_at8 p8_at9 s8_at9 p8_at10 s8_at10
      rw [show (⟨s.Parts, s.Bins, s.Beta, s.Alpha⟩ : Sky) = s from rfl, a1, b1, c1, d1, a2 ⟨hf.2.1, hf.2.2.2⟩, b2 ⟨hg.2.1, hg.2.2.2⟩, c2 hf, d2 hg]
      simp only [decide_true, Bool.true_and, bne_self_eq_false, cond_false]
      rw [decide_eq_false (show ¬ (thr u x).Low < (thr t x).Low by omega), decide_eq_false (show ¬ (expd b u bin x).Low < (expd s t bin x).Low by omega), decide_eq_false (show ¬ (expd b u bin x).High > (expd s t bin x).High by omega)]
      by_cases hn : (thr t x).High = -1
      · rw [show ((thr t x).High != -1) = false by simp [hn]]
        exact r
      · obtain ⟨z3, z4⟩ := z2 hn
        rw [show ((thr t x).High != -1) = true by simp [hn], show ((thr u x).High == -1) = false by simp [z3], decide_eq_false (show ¬ (thr u x).High > (thr t x).High by omega)]
        exact r
    have at4 : TB t u → p8_at4 s t b bin x rates u s.Bins = true ∧ s8_at4 s t b bin x rates u s.Bins = true := by
      intro hT
      have key : ∀ m q i : Nat, i + m = (s.Bins.get bin.toNat).len → m < q → (∀ j, j < i → ((b.Bins.get bin.toNat).get j).Energy = ((s.Bins.get bin.toNat).get j).Energy ∧ ((s.Bins.get bin.toNat).get j).Rate.Low ≤ ((b.Bins.get bin.toNat).get j).Rate.Low ∧ ((b.Bins.get bin.toNat).get j).Rate.High ≤ ((s.Bins.get bin.toNat).get j).Rate.High) →
          p8_lp5 s t b bin x rates u s.Bins q (i : Int) = true ∧ s8_lp5 s t b bin x rates u s.Bins q (i : Int) = true := by
        intro m
        induction m with
        | zero =>
          intro q i hi hq hj
          obtain ⟨q, rfl⟩ : ∃ k', q = k' + 1 := ⟨q - 1, by omega⟩
          show p8_st5 s t b bin x rates u s.Bins (p8_lp5 s t b bin x rates u s.Bins q) _ = true ∧ s8_st5 s t b bin x rates u s.Bins (s8_lp5 s t b bin x rates u s.Bins q) _ = true
          unfold p8_st5 s8_st5
          rw [decide_eq_false (show ¬ (i : Int) < ((s.Bins.get bin.toNat).len : Int) by omega), decide_eq_true hf.2.2.1]
          exact at6 hT ⟨by omega, fun j h => hj j (by omega)⟩
        | succ m ih =>
          intro q i hi hq hj
          obtain ⟨q, rfl⟩ : ∃ k', q = k' + 1 := ⟨q - 1, by omega⟩
          show p8_st5 s t b bin x rates u s.Bins (p8_lp5 s t b bin x rates u s.Bins q) _ = true ∧ s8_st5 s t b bin x rates u s.Bins (s8_lp5 s t b bin x rates u s.Bins q) _ = true
          have e3 : w64 ((i : Int) + 1) = ((i + 1 : Nat) : Int) := by rw [w64_id (by omega) (by omega)]; omega
          unfold p8_st5 s8_st5
          rw [decide_eq_true (show (i : Int) < ((s.Bins.get bin.toNat).len : Int) by omega), g2, decide_eq_true hf.2.2.1, decide_eq_true (show 0 ≤ (i : Int) ∧ (i : Int) < ((s.Bins.get bin.toNat).len : Int) by omega), decide_eq_true (show 0 ≤ (i : Int) ∧ (i : Int) < ((b.Bins.get bin.toNat).len : Int) by omega), Int.toNat_natCast, e3]
          by_cases c1 : ¬ ((b.Bins.get bin.toNat).get i).Energy = ((s.Bins.get bin.toNat).get i).Energy
          · rw [show (((b.Bins.get bin.toNat).get i).Energy != ((s.Bins.get bin.toNat).get i).Energy) = true by simpa using c1]; exact ⟨rfl, rfl⟩
          have c1 := Decidable.of_not_not c1
          rw [show (((b.Bins.get bin.toNat).get i).Energy != ((s.Bins.get bin.toNat).get i).Energy) = false by simpa using c1]
          by_cases c2 : ((b.Bins.get bin.toNat).get i).Rate.Low < ((s.Bins.get bin.toNat).get i).Rate.Low
          · rw [decide_eq_true c2]; exact ⟨rfl, rfl⟩
          by_cases c3 : ((b.Bins.get bin.toNat).get i).Rate.High > ((s.Bins.get bin.toNat).get i).Rate.High
          · rw [decide_eq_false c2, decide_eq_true c3]; exact ⟨rfl, rfl⟩
          rw [decide_eq_false c2, decide_eq_false c3]
          have r := ih q (i + 1) (by omega) (by omega) (fun j h => by
            by_cases e : j = i
            · rw [e]; exact ⟨c1, by omega, by omega⟩
            · exact hj j (by omega))
          exact r
      exact key (s.Bins.get bin.toNat).len Fuel 0 (by omega) (by simp only [Fuel]; omega) (fun j h => absurd h (by omega))
    have key : ∀ m q i : Nat, i + m = t.len → m < q → (∀ j, j < i → (u.get j).Energy = (t.get j).Energy ∧ (t.get j).Range.Low ≤ (u.get j).Range.Low ∧ (u.get j).Range.High ≤ (t.get j).Range.High) →
        p8_lp3 s t b bin x rates u s.Bins q (i : Int) = true ∧ s8_lp3 s t b bin x rates u s.Bins q (i : Int) = true := by
      intro m
      induction m with
      | zero =>
        intro q i hi hq hj
        obtain ⟨q, rfl⟩ : ∃ k', q = k' + 1 := ⟨q - 1, by omega⟩
        show p8_st3 s t b bin x rates u s.Bins (p8_lp3 s t b bin x rates u s.Bins q) _ = true ∧ s8_st3 s t b bin x rates u s.Bins (s8_lp3 s t b bin x rates u s.Bins q) _ = true
        unfold p8_st3 s8_st3
        rw [decide_eq_false (show ¬ (i : Int) < (t.len : Int) by omega)]
        exact at4 ⟨by omega, fun j h => hj j (by omega)⟩
      | succ m ih =>
        intro q i hi hq hj
        obtain ⟨q, rfl⟩ : ∃ k', q = k' + 1 := ⟨q - 1, by omega⟩
        show p8_st3 s t b bin x rates u s.Bins (p8_lp3 s t b bin x rates u s.Bins q) _ = true ∧ s8_st3 s t b bin x rates u s.Bins (s8_lp3 s t b bin x rates u s.Bins q) _ = true
        have e3 : w64 ((i : Int) + 1) = ((i + 1 : Nat) : Int) := by rw [w64_id (by omega) (by omega)]; omega
        unfold p8_st3 s8_st3
        rw [decide_eq_true (show (i : Int) < (t.len : Int) by omega), decide_eq_true (show 0 ≤ (i : Int) ∧ (i : Int) < (t.len : Int) by omega), decide_eq_true (show 0 ≤ (i : Int) ∧ (i : Int) < (u.len : Int) by omega), Int.toNat_natCast, e3]
        by_cases c1 : ¬ (u.get i).Energy = (t.get i).Energy
        · rw [show ((u.get i).Energy != (t.get i).Energy) = true by simpa using c1]; exact ⟨rfl, rfl⟩
        have c1 := Decidable.of_not_not c1
        rw [show ((u.get i).Energy != (t.get i).Energy) = false by simpa using c1]
        by_cases c2 : (u.get i).Range.Low < (t.get i).Range.Low
        · rw [decide_eq_true c2]; exact ⟨rfl, rfl⟩
        by_cases c3 : (u.get i).Range.High > (t.get i).Range.High
        · rw [decide_eq_false c2, decide_eq_true c3]; exact ⟨rfl, rfl⟩
        rw [decide_eq_false c2, decide_eq_false c3]
        have r := ih q (i + 1) (by omega) (by omega) (fun j h => by
          by_cases e : j = i
          · rw [e]; exact ⟨c1, by omega, by omega⟩
          · exact hj j (by omega))
        exact r
    have r := key t.len Fuel 0 (by omega) (by simp only [Fuel]; omega) (fun j h => absurd h (by omega))
    unfold p8_at2 s8_at2 p8_at3 s8_at3
    simp only [decide_true, Bool.true_and, cond_false]
    exact r
  unfold p8 s8 p8_at0 s8_at0
  obtain ⟨c1, c2⟩ := s16_ok s hs
  obtain ⟨d1, d2⟩ := s17_ok t ht
  obtain ⟨c3, c4⟩ := s16_ok b hb
  obtain ⟨d3, d4⟩ := s17_ok u hu
  obtain ⟨_, e1⟩ := s75_ok s hs
  obtain ⟨_, e2⟩ := s62_ok t ht
  obtain ⟨_, e3⟩ := s75_ok b hb
  obtain ⟨_, e4⟩ := s62_ok u hu
  rw [s15_p s t hs, s15_p b u hb, c1, c2, d1, d2, c3, c4, d3, d4, s29_eq]
  cases s15 s t
  · exact ⟨rfl, rfl⟩
  cases s15 b u
  · exact ⟨rfl, rfl⟩
  cases h1 : s75 s
  · exact ⟨rfl, rfl⟩
  cases h2 : s62 t
  · exact ⟨rfl, rfl⟩
  cases h8 : s75 b
  · exact ⟨rfl, rfl⟩
  cases h9 : s62 u
  · exact ⟨rfl, rfl⟩
  by_cases h3 : bin < 0
  · rw [decide_eq_true h3]; exact ⟨rfl, rfl⟩
  by_cases h4 : bin ≥ (s.Bins.len : Int)
  · rw [decide_eq_false h3, decide_eq_true h4]; exact ⟨rfl, rfl⟩
  by_cases h5 : x < 0
  · rw [decide_eq_false h3, decide_eq_false h4, decide_eq_true h5]; exact ⟨rfl, rfl⟩
  by_cases h6 : x > 1000000
  · rw [decide_eq_false h3, decide_eq_false h4, decide_eq_false h5, decide_eq_true h6]; exact ⟨rfl, rfl⟩
  rw [decide_eq_false h3, decide_eq_false h4, decide_eq_false h5, decide_eq_false h6]
  by_cases h7 : ¬ (0 ≤ rates.Low ∧ rates.Low ≤ rates.High ∧ rates.High ≤ s.Parts)
  · rw [decide_eq_false h7]; exact ⟨rfl, rfl⟩
  have h7 := Decidable.of_not_not h7
  rw [decide_eq_true h7]
  have := go (show Fine s t bin x from ⟨e1.1 h1, e2.1 h2, ⟨by omega, by omega⟩, ⟨by omega, by omega⟩⟩) (e3.1 h8) (e4.1 h9) h7
  exact ⟨this.1, this.2⟩
end Go.Proofs
