/- Part 6 of what the proof rests on: a machine that runs functions of the program on pure values, proved sound; the functions that the law reaches, and what they compute. -/
import Derived.Test.YtpjoicpmbdaniaaQ5
set_option linter.all false
namespace Go.Proofs
open Go Go.Pm
set_option maxRecDepth 100000
set_option linter.unusedVariables false
attribute [local irreducible] Go.Pm.vcFun Go.Pm.vc Go.Pm.vcIter
theorem C_3 : Try.prog.cellsOf 3 = 1 := by kernel_rfl
theorem C_4 : Try.prog.cellsOf 4 = 1 := by kernel_rfl
theorem C_22 : Try.prog.cellsOf 22 = 1 := by kernel_rfl
theorem C_24 : Try.prog.cellsOf 24 = 2 := by kernel_rfl
theorem C_26 : Try.prog.cellsOf 26 = 6 := by kernel_rfl
theorem C_27 : Try.prog.cellsOf 27 = 1 := by kernel_rfl
theorem C_32 : Try.prog.cellsOf 32 = 1 := by kernel_rfl
theorem C_37 : Try.prog.cellsOf 37 = 1 := by kernel_rfl
theorem C_39 : Try.prog.cellsOf 39 = 3 := by kernel_rfl
theorem C_42 : Try.prog.cellsOf 42 = 3 := by kernel_rfl
theorem C_44 : Try.prog.cellsOf 44 = 3 := by kernel_rfl
theorem C_46 : Try.prog.cellsOf 46 = 1 := by kernel_rfl
theorem C_47 : Try.prog.cellsOf 47 = 1 := by kernel_rfl
theorem C_52 : Try.prog.cellsOf 52 = 2 := by kernel_rfl
theorem C_54 : Try.prog.cellsOf 54 = 4 := by kernel_rfl
theorem C_56 : Try.prog.cellsOf 56 = 5 := by kernel_rfl
theorem C_97 : Try.prog.cellsOf 97 = 1 := by kernel_rfl
theorem C_129 : Try.prog.cellsOf 129 = 3 := by kernel_rfl
abbrev wf_3 (x : Int) : Prop := wfI x
theorem rd_3 {H : Type} {en : TypeId × Value → H} {w : World} {sp : Nat → Bool} {held : Bool} : Rd H en Try.prog w sp held 3 enc_3 wf_3 := rd_int Try.underlying3
def wf_24 (x : Span) : Prop := wf_3 x.Low ∧ wf_3 x.High
theorem rd_24 {H : Type} {en : TypeId × Value → H} {w : World} {sp : Nat → Bool} {held : Bool} : Rd H en Try.prog w sp held 24 enc_24 wf_24 := by
  intro fuel cs x h
  obtain ⟨hl, hf⟩ := rd_struct Try.underlying24 h
  rw [C_24] at hl
  obtain ⟨n0, y0, g0⟩ := hf 0 _ rfl
  have g0 : DataW.trod en Try.prog w 0 sp held n0 3 ((cs.drop 0).take (Try.prog.cellsOf 3)) = some y0 := g0
  rw [C_3] at g0
  obtain ⟨a0, r0, w0⟩ := rd_3 _ _ _ g0
  obtain ⟨n1, y1, g1⟩ := hf 1 _ rfl
  have g1 : DataW.trod en Try.prog w 0 sp held n1 3 ((cs.drop 1).take (Try.prog.cellsOf 3)) = some y1 := g1
  rw [C_3] at g1
  obtain ⟨a1, r1, w1⟩ := rd_3 _ _ _ g1
  have z : cs.drop 2 = [] := List.drop_eq_nil_of_le (by omega)
  have R := (r0.append (r1.append (show RL (Rep (H0 w)) [] (cs.drop 2) by rw [z]; exact rl_n)))
  rw [← (show cs.drop 1 = (cs.drop 1).take 1 ++ cs.drop 2 from split_drop cs 1 1)] at R
  rw [← (show cs.drop 0 = (cs.drop 0).take 1 ++ cs.drop 1 from split_drop cs 0 1)] at R
  exact ⟨⟨a0, a1⟩, R, ⟨w0, w1⟩⟩
def wf_44 (x : FluxRow) : Prop := wf_3 x.Energy ∧ wf_24 x.Rate
theorem rd_44 {H : Type} {en : TypeId × Value → H} {w : World} {sp : Nat → Bool} {held : Bool} : Rd H en Try.prog w sp held 44 enc_44 wf_44 := by
  intro fuel cs x h
  obtain ⟨hl, hf⟩ := rd_struct Try.underlying44 h
  rw [C_44] at hl
  obtain ⟨n0, y0, g0⟩ := hf 0 _ rfl
  have g0 : DataW.trod en Try.prog w 0 sp held n0 3 ((cs.drop 0).take (Try.prog.cellsOf 3)) = some y0 := g0
  rw [C_3] at g0
  obtain ⟨a0, r0, w0⟩ := rd_3 _ _ _ g0
  obtain ⟨n1, y1, g1⟩ := hf 1 _ rfl
  have g1 : DataW.trod en Try.prog w 0 sp held n1 24 ((cs.drop 1).take (Try.prog.cellsOf 24)) = some y1 := g1
  rw [C_24] at g1
  obtain ⟨a1, r1, w1⟩ := rd_24 _ _ _ g1
  have z : cs.drop 3 = [] := List.drop_eq_nil_of_le (by omega)
  have R := (r0.append (r1.append (show RL (Rep (H0 w)) [] (cs.drop 3) by rw [z]; exact rl_n)))
  rw [← (show cs.drop 1 = (cs.drop 1).take 2 ++ cs.drop 3 from split_drop cs 1 2)] at R
  rw [← (show cs.drop 0 = (cs.drop 0).take 1 ++ cs.drop 1 from split_drop cs 0 1)] at R
  exact ⟨⟨a0, a1⟩, R, ⟨w0, w1⟩⟩
def wf_32 (x : (Sl FluxRow)) : Prop := x.len ≤ 9223372036854775807 ∧ ∀ i, i < x.len → wf_44 (x.get i)
theorem rd_32 {H : Type} {en : TypeId × Value → H} {w : World} {sp : Nat → Bool} {held : Bool} : Rd H en Try.prog w sp held 32 enc_32 wf_32 := rd_slice Try.underlying32 C_44 (by decide) (fun _ => rfl) rd_44
def wf_22 (x : (Sl (Sl FluxRow))) : Prop := x.len ≤ 9223372036854775807 ∧ ∀ i, i < x.len → wf_32 (x.get i)
theorem rd_22 {H : Type} {en : TypeId × Value → H} {w : World} {sp : Nat → Bool} {held : Bool} : Rd H en Try.prog w sp held 22 enc_22 wf_22 := rd_slice Try.underlying22 C_32 (by decide) (fun _ => rfl) rd_32
def wf_26 (x : Sky) : Prop := wf_3 x.Parts ∧ wf_22 x.Bins ∧ wf_24 x.Beta ∧ wf_24 x.Alpha
theorem rd_26 {H : Type} {en : TypeId × Value → H} {w : World} {sp : Nat → Bool} {held : Bool} : Rd H en Try.prog w sp held 26 enc_26 wf_26 := by
  intro fuel cs x h
  obtain ⟨hl, hf⟩ := rd_struct Try.underlying26 h
  rw [C_26] at hl
  obtain ⟨n0, y0, g0⟩ := hf 0 _ rfl
  have g0 : DataW.trod en Try.prog w 0 sp held n0 3 ((cs.drop 0).take (Try.prog.cellsOf 3)) = some y0 := g0
  rw [C_3] at g0
  obtain ⟨a0, r0, w0⟩ := rd_3 _ _ _ g0
  obtain ⟨n1, y1, g1⟩ := hf 1 _ rfl
  have g1 : DataW.trod en Try.prog w 0 sp held n1 22 ((cs.drop 1).take (Try.prog.cellsOf 22)) = some y1 := g1
  rw [C_22] at g1
  obtain ⟨a1, r1, w1⟩ := rd_22 _ _ _ g1
  obtain ⟨n2, y2, g2⟩ := hf 2 _ rfl
  have g2 : DataW.trod en Try.prog w 0 sp held n2 24 ((cs.drop 2).take (Try.prog.cellsOf 24)) = some y2 := g2
  rw [C_24] at g2
  obtain ⟨a2, r2, w2⟩ := rd_24 _ _ _ g2
  obtain ⟨n3, y3, g3⟩ := hf 3 _ rfl
  have g3 : DataW.trod en Try.prog w 0 sp held n3 24 ((cs.drop 4).take (Try.prog.cellsOf 24)) = some y3 := g3
  rw [C_24] at g3
  obtain ⟨a3, r3, w3⟩ := rd_24 _ _ _ g3
  have z : cs.drop 6 = [] := List.drop_eq_nil_of_le (by omega)
  have R := (r0.append (r1.append (r2.append (r3.append (show RL (Rep (H0 w)) [] (cs.drop 6) by rw [z]; exact rl_n)))))
  rw [← (show cs.drop 4 = (cs.drop 4).take 2 ++ cs.drop 6 from split_drop cs 4 2)] at R
  rw [← (show cs.drop 2 = (cs.drop 2).take 2 ++ cs.drop 4 from split_drop cs 2 2)] at R
  rw [← (show cs.drop 1 = (cs.drop 1).take 1 ++ cs.drop 2 from split_drop cs 1 1)] at R
  rw [← (show cs.drop 0 = (cs.drop 0).take 1 ++ cs.drop 1 from split_drop cs 0 1)] at R
  exact ⟨⟨a0, a1, a2, a3⟩, R, ⟨w0, w1, w2, w3⟩⟩
def wf_42 (x : RangeRow) : Prop := wf_3 x.Energy ∧ wf_24 x.Range
theorem rd_42 {H : Type} {en : TypeId × Value → H} {w : World} {sp : Nat → Bool} {held : Bool} : Rd H en Try.prog w sp held 42 enc_42 wf_42 := by
  intro fuel cs x h
  obtain ⟨hl, hf⟩ := rd_struct Try.underlying42 h
  rw [C_42] at hl
  obtain ⟨n0, y0, g0⟩ := hf 0 _ rfl
  have g0 : DataW.trod en Try.prog w 0 sp held n0 3 ((cs.drop 0).take (Try.prog.cellsOf 3)) = some y0 := g0
  rw [C_3] at g0
  obtain ⟨a0, r0, w0⟩ := rd_3 _ _ _ g0
  obtain ⟨n1, y1, g1⟩ := hf 1 _ rfl
  have g1 : DataW.trod en Try.prog w 0 sp held n1 24 ((cs.drop 1).take (Try.prog.cellsOf 24)) = some y1 := g1
  rw [C_24] at g1
  obtain ⟨a1, r1, w1⟩ := rd_24 _ _ _ g1
  have z : cs.drop 3 = [] := List.drop_eq_nil_of_le (by omega)
  have R := (r0.append (r1.append (show RL (Rep (H0 w)) [] (cs.drop 3) by rw [z]; exact rl_n)))
  rw [← (show cs.drop 1 = (cs.drop 1).take 2 ++ cs.drop 3 from split_drop cs 1 2)] at R
  rw [← (show cs.drop 0 = (cs.drop 0).take 1 ++ cs.drop 1 from split_drop cs 0 1)] at R
  exact ⟨⟨a0, a1⟩, R, ⟨w0, w1⟩⟩
def wf_27 (x : (Sl RangeRow)) : Prop := x.len ≤ 9223372036854775807 ∧ ∀ i, i < x.len → wf_42 (x.get i)
theorem rd_27 {H : Type} {en : TypeId × Value → H} {w : World} {sp : Nat → Bool} {held : Bool} : Rd H en Try.prog w sp held 27 enc_27 wf_27 := rd_slice Try.underlying27 C_42 (by decide) (fun _ => rfl) rd_42
def wf_37 (x : (Sl Int)) : Prop := x.len ≤ 9223372036854775807 ∧ ∀ i, i < x.len → wf_3 (x.get i)
theorem rd_37 {H : Type} {en : TypeId × Value → H} {w : World} {sp : Nat → Bool} {held : Bool} : Rd H en Try.prog w sp held 37 enc_37 wf_37 := rd_slice Try.underlying37 C_3 (by decide) (fun _ => rfl) rd_3
abbrev wf_4 (_ : Bool) : Prop := True
theorem rd_4 {H : Type} {en : TypeId × Value → H} {w : World} {sp : Nat → Bool} {held : Bool} : Rd H en Try.prog w sp held 4 enc_4 wf_4 := rd_bool Try.underlying4
def wf_39 (x : Nature) : Prop := wf_37 x.Ranges ∧ wf_37 x.Rates ∧ wf_4 x.Soon
theorem rd_39 {H : Type} {en : TypeId × Value → H} {w : World} {sp : Nat → Bool} {held : Bool} : Rd H en Try.prog w sp held 39 enc_39 wf_39 := by
  intro fuel cs x h
  obtain ⟨hl, hf⟩ := rd_struct Try.underlying39 h
  rw [C_39] at hl
  obtain ⟨n0, y0, g0⟩ := hf 0 _ rfl
  have g0 : DataW.trod en Try.prog w 0 sp held n0 37 ((cs.drop 0).take (Try.prog.cellsOf 37)) = some y0 := g0
  rw [C_37] at g0
  obtain ⟨a0, r0, w0⟩ := rd_37 _ _ _ g0
  obtain ⟨n1, y1, g1⟩ := hf 1 _ rfl
  have g1 : DataW.trod en Try.prog w 0 sp held n1 37 ((cs.drop 1).take (Try.prog.cellsOf 37)) = some y1 := g1
  rw [C_37] at g1
  obtain ⟨a1, r1, w1⟩ := rd_37 _ _ _ g1
  obtain ⟨n2, y2, g2⟩ := hf 2 _ rfl
  have g2 : DataW.trod en Try.prog w 0 sp held n2 4 ((cs.drop 2).take (Try.prog.cellsOf 4)) = some y2 := g2
  rw [C_4] at g2
  obtain ⟨a2, r2, w2⟩ := rd_4 _ _ _ g2
  have z : cs.drop 3 = [] := List.drop_eq_nil_of_le (by omega)
  have R := (r0.append (r1.append (r2.append (show RL (Rep (H0 w)) [] (cs.drop 3) by rw [z]; exact rl_n))))
  rw [← (show cs.drop 2 = (cs.drop 2).take 1 ++ cs.drop 3 from split_drop cs 2 1)] at R
  rw [← (show cs.drop 1 = (cs.drop 1).take 1 ++ cs.drop 2 from split_drop cs 1 1)] at R
  rw [← (show cs.drop 0 = (cs.drop 0).take 1 ++ cs.drop 1 from split_drop cs 0 1)] at R
  exact ⟨⟨a0, a1, a2⟩, R, ⟨w0, w1, w2⟩⟩
def wf_54 (x : Weather) : Prop := wf_24 x.Pressure ∧ wf_24 x.Warm
theorem rd_54 {H : Type} {en : TypeId × Value → H} {w : World} {sp : Nat → Bool} {held : Bool} : Rd H en Try.prog w sp held 54 enc_54 wf_54 := by
  intro fuel cs x h
  obtain ⟨hl, hf⟩ := rd_struct Try.underlying54 h
  rw [C_54] at hl
  obtain ⟨n0, y0, g0⟩ := hf 0 _ rfl
  have g0 : DataW.trod en Try.prog w 0 sp held n0 24 ((cs.drop 0).take (Try.prog.cellsOf 24)) = some y0 := g0
  rw [C_24] at g0
  obtain ⟨a0, r0, w0⟩ := rd_24 _ _ _ g0
  obtain ⟨n1, y1, g1⟩ := hf 1 _ rfl
  have g1 : DataW.trod en Try.prog w 0 sp held n1 24 ((cs.drop 2).take (Try.prog.cellsOf 24)) = some y1 := g1
  rw [C_24] at g1
  obtain ⟨a1, r1, w1⟩ := rd_24 _ _ _ g1
  have z : cs.drop 4 = [] := List.drop_eq_nil_of_le (by omega)
  have R := (r0.append (r1.append (show RL (Rep (H0 w)) [] (cs.drop 4) by rw [z]; exact rl_n)))
  rw [← (show cs.drop 2 = (cs.drop 2).take 2 ++ cs.drop 4 from split_drop cs 2 2)] at R
  rw [← (show cs.drop 0 = (cs.drop 0).take 2 ++ cs.drop 2 from split_drop cs 0 2)] at R
  exact ⟨⟨a0, a1⟩, R, ⟨w0, w1⟩⟩
def wf_56 (x : Spell) : Prop := wf_3 x.Slots ∧ wf_54 x.Weather
theorem rd_56 {H : Type} {en : TypeId × Value → H} {w : World} {sp : Nat → Bool} {held : Bool} : Rd H en Try.prog w sp held 56 enc_56 wf_56 := by
  intro fuel cs x h
  obtain ⟨hl, hf⟩ := rd_struct Try.underlying56 h
  rw [C_56] at hl
  obtain ⟨n0, y0, g0⟩ := hf 0 _ rfl
  have g0 : DataW.trod en Try.prog w 0 sp held n0 3 ((cs.drop 0).take (Try.prog.cellsOf 3)) = some y0 := g0
  rw [C_3] at g0
  obtain ⟨a0, r0, w0⟩ := rd_3 _ _ _ g0
  obtain ⟨n1, y1, g1⟩ := hf 1 _ rfl
  have g1 : DataW.trod en Try.prog w 0 sp held n1 54 ((cs.drop 1).take (Try.prog.cellsOf 54)) = some y1 := g1
  rw [C_54] at g1
  obtain ⟨a1, r1, w1⟩ := rd_54 _ _ _ g1
  have z : cs.drop 5 = [] := List.drop_eq_nil_of_le (by omega)
  have R := (r0.append (r1.append (show RL (Rep (H0 w)) [] (cs.drop 5) by rw [z]; exact rl_n)))
  rw [← (show cs.drop 1 = (cs.drop 1).take 4 ++ cs.drop 5 from split_drop cs 1 4)] at R
  rw [← (show cs.drop 0 = (cs.drop 0).take 1 ++ cs.drop 1 from split_drop cs 0 1)] at R
  exact ⟨⟨a0, a1⟩, R, ⟨w0, w1⟩⟩
def wf_46 (x : (Sl Spell)) : Prop := x.len ≤ 9223372036854775807 ∧ ∀ i, i < x.len → wf_56 (x.get i)
theorem rd_46 {H : Type} {en : TypeId × Value → H} {w : World} {sp : Nat → Bool} {held : Bool} : Rd H en Try.prog w sp held 46 enc_46 wf_46 := rd_slice Try.underlying46 C_56 (by decide) (fun _ => rfl) rd_56
def wf_52 (x : Sample) : Prop := wf_3 x.Pressure ∧ wf_3 x.Warm
theorem rd_52 {H : Type} {en : TypeId × Value → H} {w : World} {sp : Nat → Bool} {held : Bool} : Rd H en Try.prog w sp held 52 enc_52 wf_52 := by
  intro fuel cs x h
  obtain ⟨hl, hf⟩ := rd_struct Try.underlying52 h
  rw [C_52] at hl
  obtain ⟨n0, y0, g0⟩ := hf 0 _ rfl
  have g0 : DataW.trod en Try.prog w 0 sp held n0 3 ((cs.drop 0).take (Try.prog.cellsOf 3)) = some y0 := g0
  rw [C_3] at g0
  obtain ⟨a0, r0, w0⟩ := rd_3 _ _ _ g0
  obtain ⟨n1, y1, g1⟩ := hf 1 _ rfl
  have g1 : DataW.trod en Try.prog w 0 sp held n1 3 ((cs.drop 1).take (Try.prog.cellsOf 3)) = some y1 := g1
  rw [C_3] at g1
  obtain ⟨a1, r1, w1⟩ := rd_3 _ _ _ g1
  have z : cs.drop 2 = [] := List.drop_eq_nil_of_le (by omega)
  have R := (r0.append (r1.append (show RL (Rep (H0 w)) [] (cs.drop 2) by rw [z]; exact rl_n)))
  rw [← (show cs.drop 1 = (cs.drop 1).take 1 ++ cs.drop 2 from split_drop cs 1 1)] at R
  rw [← (show cs.drop 0 = (cs.drop 0).take 1 ++ cs.drop 1 from split_drop cs 0 1)] at R
  exact ⟨⟨a0, a1⟩, R, ⟨w0, w1⟩⟩
def wf_47 (x : (Sl Sample)) : Prop := x.len ≤ 9223372036854775807 ∧ ∀ i, i < x.len → wf_52 (x.get i)
theorem rd_47 {H : Type} {en : TypeId × Value → H} {w : World} {sp : Nat → Bool} {held : Bool} : Rd H en Try.prog w sp held 47 enc_47 wf_47 := rd_slice Try.underlying47 C_52 (by decide) (fun _ => rfl) rd_52
def wf_129 (x : KinkRow) : Prop := wf_3 x.Opacity ∧ wf_24 x.Share
theorem rd_129 {H : Type} {en : TypeId × Value → H} {w : World} {sp : Nat → Bool} {held : Bool} : Rd H en Try.prog w sp held 129 enc_129 wf_129 := by
  intro fuel cs x h
  obtain ⟨hl, hf⟩ := rd_struct Try.underlying129 h
  rw [C_129] at hl
  obtain ⟨n0, y0, g0⟩ := hf 0 _ rfl
  have g0 : DataW.trod en Try.prog w 0 sp held n0 3 ((cs.drop 0).take (Try.prog.cellsOf 3)) = some y0 := g0
  rw [C_3] at g0
  obtain ⟨a0, r0, w0⟩ := rd_3 _ _ _ g0
  obtain ⟨n1, y1, g1⟩ := hf 1 _ rfl
  have g1 : DataW.trod en Try.prog w 0 sp held n1 24 ((cs.drop 1).take (Try.prog.cellsOf 24)) = some y1 := g1
  rw [C_24] at g1
  obtain ⟨a1, r1, w1⟩ := rd_24 _ _ _ g1
  have z : cs.drop 3 = [] := List.drop_eq_nil_of_le (by omega)
  have R := (r0.append (r1.append (show RL (Rep (H0 w)) [] (cs.drop 3) by rw [z]; exact rl_n)))
  rw [← (show cs.drop 1 = (cs.drop 1).take 2 ++ cs.drop 3 from split_drop cs 1 2)] at R
  rw [← (show cs.drop 0 = (cs.drop 0).take 1 ++ cs.drop 1 from split_drop cs 0 1)] at R
  exact ⟨⟨a0, a1⟩, R, ⟨w0, w1⟩⟩
def wf_97 (x : (Sl KinkRow)) : Prop := x.len ≤ 9223372036854775807 ∧ ∀ i, i < x.len → wf_129 (x.get i)
theorem rd_97 {H : Type} {en : TypeId × Value → H} {w : World} {sp : Nat → Bool} {held : Bool} : Rd H en Try.prog w sp held 97 enc_97 wf_97 := rd_slice Try.underlying97 C_129 (by decide) (fun _ => rfl) rd_129
end Go.Proofs
namespace Go.Proofs
open Go Go.Pm
set_option linter.unusedVariables false
theorem s63_eq (n lo hi : Int) : s63 n lo hi = decide (lo ≤ n ∧ n ≤ hi) := by
  unfold s63
  by_cases h1 : lo ≤ n <;> by_cases h2 : n ≤ hi <;> simp [h1, h2]
theorem s58_eq (n lo hi : Int) : s58 n lo hi = decide (lo ≤ n ∧ n ≤ hi) := by
  unfold s58
  by_cases h1 : lo ≤ n <;> by_cases h2 : n ≤ hi <;> simp [h1, h2]
theorem s69_eq (s : Span) (lo hi : Int) : s69 s lo hi = decide (lo ≤ s.Low ∧ s.Low ≤ s.High ∧ s.High ≤ hi) := by
  unfold s69
  rw [s63_eq]
  by_cases h1 : lo ≤ s.Low <;> by_cases h2 : s.Low ≤ s.High <;> by_cases h3 : s.High ≤ hi <;> simp [h1, h2, h3]
theorem s29_eq (s : Span) (lo hi : Int) : s29 s lo hi = decide (lo ≤ s.Low ∧ s.Low ≤ s.High ∧ s.High ≤ hi) := by
  unfold s29
  by_cases h1 : lo ≤ s.Low <;> by_cases h2 : s.Low ≤ s.High <;> by_cases h3 : s.High ≤ hi <;> simp [h1, h2, h3]
theorem s94_eq (a b : Span) : s94 a b = decide (a.Low ≤ b.Low ∧ a.High ≤ b.High) := by
  unfold s94
  by_cases h1 : a.Low ≤ b.Low <;> by_cases h2 : a.High ≤ b.High <;> simp [h1, h2]
theorem s104_eq (a b : Span) : s104 a b = decide (b.Low ≤ a.Low ∧ b.High ≤ a.High) := by
  unfold s104
  rw [s94_eq]
def TRow (t : Sl RangeRow) (i : Nat) : Prop := (1 ≤ (t.get i).Energy ∧ (t.get i).Energy ≤ 1000000) ∧ (0 ≤ (t.get i).Range.Low ∧ (t.get i).Range.Low ≤ (t.get i).Range.High ∧ (t.get i).Range.High ≤ 1000000) ∧
  (i = 0 ∨ (t.get (i - 1)).Energy < (t.get i).Energy ∧ (t.get (i - 1)).Range.Low ≤ (t.get i).Range.Low ∧ (t.get (i - 1)).Range.High ≤ (t.get i).Range.High)
instance (t : Sl RangeRow) (i : Nat) : Decidable (TRow t i) := by unfold TRow; infer_instance
def BRow (parts : Int) (t : Sl FluxRow) (i : Nat) : Prop := (1 ≤ (t.get i).Energy ∧ (t.get i).Energy ≤ 1000000) ∧ (0 ≤ (t.get i).Rate.Low ∧ (t.get i).Rate.Low ≤ (t.get i).Rate.High ∧ (t.get i).Rate.High ≤ parts) ∧
  (i = 0 ∨ (t.get (i - 1)).Energy < (t.get i).Energy ∧ (t.get i).Rate.Low ≤ (t.get (i - 1)).Rate.Low ∧ (t.get i).Rate.High ≤ (t.get (i - 1)).Rate.High)
instance (parts : Int) (t : Sl FluxRow) (i : Nat) : Decidable (BRow parts t i) := by unfold BRow; infer_instance
theorem s91_eq (t : Sl RangeRow) (hn : t.len ≤ 9223372036854775807) :
    p91 t 1 1000000 1000000 = true ∧ (s91 t 1 1000000 1000000 = true ↔ (∀ i, i < t.len → decide (TRow t i) = true) ∧ decide (1 ≤ (t.len : Int) ∧ (t.len : Int) ≤ 40) = true) := by
  refine all_loop (n := t.len) (good := fun i => decide (TRow t i)) (lpS := s91_lp0 t 1 1000000 1000000) (lpP := p91_lp0 t 1 1000000 1000000) ?_ ?_ ?_ ?_ hn
  · intro k i hi
    show s91_st0 t 1 1000000 1000000 (s91_lp0 t 1 1000000 1000000 k) i = cond (decide (TRow t i)) _ _
    generalize s91_lp0 t 1 1000000 1000000 k = S
    unfold s91_st0 s91_at1 s91_at2 s91_at3
    have e0 : (i : Int).toNat = i := by omega
    have el : decide ((i : Int) < (t.len : Int)) = true := decide_eq_true (by omega)
    by_cases h0 : 0 < i
    · have e2 : w64 ((i : Int) - 1) = ((i - 1 : Nat) : Int) := by rw [w64_id (by omega) (by omega)]; omega
      by_cases hg : TRow t i
      all_goals
        first | rw [decide_eq_true hg] | rw [decide_eq_false hg]
        unfold TRow at hg
        simp only [s63_eq, s69_eq, s94_eq, s92, s93, e0, el, e2, Int.toNat_natCast, Bool.cond_decide, ← decide_not, cond_true, cond_false]
        repeat' split
        all_goals first | rfl | (exfalso; omega)
    · have : i = 0 := by omega
      subst this
      by_cases hg : TRow t 0
      all_goals
        first | rw [decide_eq_true hg] | rw [decide_eq_false hg]
        unfold TRow at hg
        simp only [s63_eq, s69_eq, s94_eq, s92, s93, e0, el, Bool.cond_decide, ← decide_not, cond_true, cond_false]
        repeat' split
        all_goals first | rfl | (exfalso; omega)
  · intro k
    show s91_st0 t 1 1000000 1000000 (s91_lp0 t 1 1000000 1000000 k) _ = _
    unfold s91_st0
    rw [decide_eq_false (by omega), cond_false]
    rw [s63_eq]
  · intro k i hi
    show p91_st0 t 1 1000000 1000000 (p91_lp0 t 1 1000000 1000000 k) i = cond (decide (TRow t i)) _ _
    generalize p91_lp0 t 1 1000000 1000000 k = S
    unfold p91_st0 p91_at1 p91_at2 p91_at3
    have e0 : (i : Int).toNat = i := by omega
    have el : decide ((i : Int) < (t.len : Int)) = true := decide_eq_true (by omega)
    have e4 : decide (0 ≤ (i : Int) ∧ (i : Int) < (t.len : Int)) = true := decide_eq_true (by omega)
    by_cases h0 : 0 < i
    · have e2 : w64 ((i : Int) - 1) = ((i - 1 : Nat) : Int) := by rw [w64_id (by omega) (by omega)]; omega
      have e3 : decide (0 ≤ ((i - 1 : Nat) : Int) ∧ ((i - 1 : Nat) : Int) < (t.len : Int)) = true := decide_eq_true (by omega)
      by_cases hg : TRow t i
      all_goals
        first | rw [decide_eq_true hg] | rw [decide_eq_false hg]
        unfold TRow at hg
        simp only [s63_eq, s69_eq, s94_eq, s92, s93, e0, el, e2, Int.toNat_natCast, e3, e4, Bool.true_and, Bool.cond_decide, ← decide_not, cond_true, cond_false]
        repeat' split
        all_goals first | rfl | (exfalso; omega)
    · have : i = 0 := by omega
      subst this
      by_cases hg : TRow t 0
      all_goals
        first | rw [decide_eq_true hg] | rw [decide_eq_false hg]
        unfold TRow at hg
        simp only [s63_eq, s69_eq, s94_eq, s92, s93, e0, el, e4, Bool.true_and, Bool.cond_decide, ← decide_not, cond_true, cond_false]
        repeat' split
        all_goals first | rfl | (exfalso; omega)
  · intro k
    show p91_st0 t 1 1000000 1000000 (p91_lp0 t 1 1000000 1000000 k) _ = _
    unfold p91_st0
    rw [decide_eq_false (by omega), cond_false]
theorem s17_eq (t : Sl RangeRow) (hn : t.len ≤ 9223372036854775807) :
    p17 t = true ∧ (s17 t = true ↔ (∀ i, i < t.len → decide (TRow t i) = true) ∧ decide (1 ≤ (t.len : Int) ∧ (t.len : Int) ≤ 40) = true) := by
  refine all_loop (n := t.len) (good := fun i => decide (TRow t i)) (lpS := s17_lp0 t) (lpP := p17_lp0 t) ?_ ?_ ?_ ?_ hn
  · intro k i hi
    show s17_st0 t (s17_lp0 t k) i = cond (decide (TRow t i)) _ _
    generalize s17_lp0 t k = S
    unfold s17_st0 s17_at1
    have e0 : (i : Int).toNat = i := by omega
    have el : decide ((i : Int) < (t.len : Int)) = true := decide_eq_true (by omega)
    by_cases h0 : 0 < i
    · have e2 : w64 ((i : Int) - 1) = ((i - 1 : Nat) : Int) := by rw [w64_id (by omega) (by omega)]; omega
      by_cases hg : TRow t i
      all_goals
        first | rw [decide_eq_true hg] | rw [decide_eq_false hg]
        unfold TRow at hg
        simp only [s58_eq, s29_eq, e0, el, e2, Int.toNat_natCast, Bool.cond_decide, ← decide_not, cond_true, cond_false]
        repeat' split
        all_goals first | rfl | (exfalso; omega)
    · have : i = 0 := by omega
      subst this
      by_cases hg : TRow t 0
      all_goals
        first | rw [decide_eq_true hg] | rw [decide_eq_false hg]
        unfold TRow at hg
        simp only [s58_eq, s29_eq, e0, el, Bool.cond_decide, ← decide_not, cond_true, cond_false]
        repeat' split
        all_goals first | rfl | (exfalso; omega)
  · intro k
    show s17_st0 t (s17_lp0 t k) _ = _
    unfold s17_st0
    rw [decide_eq_false (by omega), cond_false]
    rw [s58_eq]
  · intro k i hi
    show p17_st0 t (p17_lp0 t k) i = cond (decide (TRow t i)) _ _
    generalize p17_lp0 t k = S
    unfold p17_st0 p17_at1
    have e0 : (i : Int).toNat = i := by omega
    have el : decide ((i : Int) < (t.len : Int)) = true := decide_eq_true (by omega)
    have e4 : decide (0 ≤ (i : Int) ∧ (i : Int) < (t.len : Int)) = true := decide_eq_true (by omega)
    by_cases h0 : 0 < i
    · have e2 : w64 ((i : Int) - 1) = ((i - 1 : Nat) : Int) := by rw [w64_id (by omega) (by omega)]; omega
      have e3 : decide (0 ≤ ((i - 1 : Nat) : Int) ∧ ((i - 1 : Nat) : Int) < (t.len : Int)) = true := decide_eq_true (by omega)
      by_cases hg : TRow t i
      all_goals
        first | rw [decide_eq_true hg] | rw [decide_eq_false hg]
        unfold TRow at hg
        simp only [s58_eq, s29_eq, e0, el, e2, Int.toNat_natCast, e3, e4, Bool.true_and, Bool.cond_decide, ← decide_not, cond_true, cond_false]
        repeat' split
        all_goals first | rfl | (exfalso; omega)
    · have : i = 0 := by omega
      subst this
      by_cases hg : TRow t 0
      all_goals
        first | rw [decide_eq_true hg] | rw [decide_eq_false hg]
        unfold TRow at hg
        simp only [s58_eq, s29_eq, e0, el, e4, Bool.true_and, Bool.cond_decide, ← decide_not, cond_true, cond_false]
        repeat' split
        all_goals first | rfl | (exfalso; omega)
  · intro k
    show p17_st0 t (p17_lp0 t k) _ = _
    unfold p17_st0
    rw [decide_eq_false (by omega), cond_false]
theorem s101_eq (parts : Int) (t : Sl FluxRow) (hn : t.len ≤ 9223372036854775807) :
    p101 t 1 1000000 parts = true ∧ (s101 t 1 1000000 parts = true ↔ (∀ i, i < t.len → decide (BRow parts t i) = true) ∧ decide (1 ≤ (t.len : Int) ∧ (t.len : Int) ≤ 40) = true) := by
  refine all_loop (n := t.len) (good := fun i => decide (BRow parts t i)) (lpS := s101_lp0 t 1 1000000 parts) (lpP := p101_lp0 t 1 1000000 parts) ?_ ?_ ?_ ?_ hn
  · intro k i hi
    show s101_st0 t 1 1000000 parts (s101_lp0 t 1 1000000 parts k) i = cond (decide (BRow parts t i)) _ _
    generalize s101_lp0 t 1 1000000 parts k = S
    unfold s101_st0 s101_at1 s101_at2 s101_at3
    have e0 : (i : Int).toNat = i := by omega
    have el : decide ((i : Int) < (t.len : Int)) = true := decide_eq_true (by omega)
    by_cases h0 : 0 < i
    · have e2 : w64 ((i : Int) - 1) = ((i - 1 : Nat) : Int) := by rw [w64_id (by omega) (by omega)]; omega
      by_cases hg : BRow parts t i
      all_goals
        first | rw [decide_eq_true hg] | rw [decide_eq_false hg]
        unfold BRow at hg
        simp only [s63_eq, s69_eq, s104_eq, s102, s103, e0, el, e2, Int.toNat_natCast, Bool.cond_decide, ← decide_not, cond_true, cond_false]
        repeat' split
        all_goals first | rfl | (exfalso; omega)
    · have : i = 0 := by omega
      subst this
      by_cases hg : BRow parts t 0
      all_goals
        first | rw [decide_eq_true hg] | rw [decide_eq_false hg]
        unfold BRow at hg
        simp only [s63_eq, s69_eq, s104_eq, s102, s103, e0, el, Bool.cond_decide, ← decide_not, cond_true, cond_false]
        repeat' split
        all_goals first | rfl | (exfalso; omega)
  · intro k
    show s101_st0 t 1 1000000 parts (s101_lp0 t 1 1000000 parts k) _ = _
    unfold s101_st0
    rw [decide_eq_false (by omega), cond_false]
    rw [s63_eq]
  · intro k i hi
    show p101_st0 t 1 1000000 parts (p101_lp0 t 1 1000000 parts k) i = cond (decide (BRow parts t i)) _ _
    generalize p101_lp0 t 1 1000000 parts k = S
    unfold p101_st0 p101_at1 p101_at2 p101_at3
    have e0 : (i : Int).toNat = i := by omega
    have el : decide ((i : Int) < (t.len : Int)) = true := decide_eq_true (by omega)
    have e4 : decide (0 ≤ (i : Int) ∧ (i : Int) < (t.len : Int)) = true := decide_eq_true (by omega)
    by_cases h0 : 0 < i
    · have e2 : w64 ((i : Int) - 1) = ((i - 1 : Nat) : Int) := by rw [w64_id (by omega) (by omega)]; omega
      have e3 : decide (0 ≤ ((i - 1 : Nat) : Int) ∧ ((i - 1 : Nat) : Int) < (t.len : Int)) = true := decide_eq_true (by omega)
      by_cases hg : BRow parts t i
      all_goals
        first | rw [decide_eq_true hg] | rw [decide_eq_false hg]
        unfold BRow at hg
        simp only [s63_eq, s69_eq, s104_eq, s102, s103, e0, el, e2, Int.toNat_natCast, e3, e4, Bool.true_and, Bool.cond_decide, ← decide_not, cond_true, cond_false]
        repeat' split
        all_goals first | rfl | (exfalso; omega)
    · have : i = 0 := by omega
      subst this
      by_cases hg : BRow parts t 0
      all_goals
        first | rw [decide_eq_true hg] | rw [decide_eq_false hg]
        unfold BRow at hg
        simp only [s63_eq, s69_eq, s104_eq, s102, s103, e0, el, e4, Bool.true_and, Bool.cond_decide, ← decide_not, cond_true, cond_false]
        repeat' split
        all_goals first | rfl | (exfalso; omega)
  · intro k
    show p101_st0 t 1 1000000 parts (p101_lp0 t 1 1000000 parts k) _ = _
    unfold p101_st0
    rw [decide_eq_false (by omega), cond_false]
theorem s59_eq (parts : Int) (t : Sl FluxRow) (hn : t.len ≤ 9223372036854775807) :
    p59 parts t = true ∧ (s59 parts t = true ↔ (∀ i, i < t.len → decide (BRow parts t i) = true) ∧ (cond (decide (1 ≤ (t.len : Int) ∧ (t.len : Int) ≤ 40)) ((t.get 0).Energy == (1:Int)) false) = true) := by
  refine all_loop (n := t.len) (good := fun i => decide (BRow parts t i)) (lpS := s59_lp0 parts t) (lpP := p59_lp0 parts t) ?_ ?_ ?_ ?_ hn
  · intro k i hi
    show s59_st0 parts t (s59_lp0 parts t k) i = cond (decide (BRow parts t i)) _ _
    generalize s59_lp0 parts t k = S
    unfold s59_st0 s59_at1
    have e0 : (i : Int).toNat = i := by omega
    have el : decide ((i : Int) < (t.len : Int)) = true := decide_eq_true (by omega)
    by_cases h0 : 0 < i
    · have e2 : w64 ((i : Int) - 1) = ((i - 1 : Nat) : Int) := by rw [w64_id (by omega) (by omega)]; omega
      by_cases hg : BRow parts t i
      all_goals
        first | rw [decide_eq_true hg] | rw [decide_eq_false hg]
        unfold BRow at hg
        simp only [s58_eq, s29_eq, e0, el, e2, Int.toNat_natCast, Bool.cond_decide, ← decide_not, cond_true, cond_false]
        repeat' split
        all_goals first | rfl | (exfalso; omega)
    · have : i = 0 := by omega
      subst this
      by_cases hg : BRow parts t 0
      all_goals
        first | rw [decide_eq_true hg] | rw [decide_eq_false hg]
        unfold BRow at hg
        simp only [s58_eq, s29_eq, e0, el, Bool.cond_decide, ← decide_not, cond_true, cond_false]
        repeat' split
        all_goals first | rfl | (exfalso; omega)
  · intro k
    show s59_st0 parts t (s59_lp0 parts t k) _ = _
    unfold s59_st0
    rw [decide_eq_false (by omega), cond_false]
    rw [s58_eq]
  · intro k i hi
    show p59_st0 parts t (p59_lp0 parts t k) i = cond (decide (BRow parts t i)) _ _
    generalize p59_lp0 parts t k = S
    unfold p59_st0 p59_at1
    have e0 : (i : Int).toNat = i := by omega
    have el : decide ((i : Int) < (t.len : Int)) = true := decide_eq_true (by omega)
    have e4 : decide (0 ≤ (i : Int) ∧ (i : Int) < (t.len : Int)) = true := decide_eq_true (by omega)
    by_cases h0 : 0 < i
    · have e2 : w64 ((i : Int) - 1) = ((i - 1 : Nat) : Int) := by rw [w64_id (by omega) (by omega)]; omega
      have e3 : decide (0 ≤ ((i - 1 : Nat) : Int) ∧ ((i - 1 : Nat) : Int) < (t.len : Int)) = true := decide_eq_true (by omega)
      by_cases hg : BRow parts t i
      all_goals
        first | rw [decide_eq_true hg] | rw [decide_eq_false hg]
        unfold BRow at hg
        simp only [s58_eq, s29_eq, e0, el, e2, Int.toNat_natCast, e3, e4, Bool.true_and, Bool.cond_decide, ← decide_not, cond_true, cond_false]
        repeat' split
        all_goals first | rfl | (exfalso; omega)
    · have : i = 0 := by omega
      subst this
      by_cases hg : BRow parts t 0
      all_goals
        first | rw [decide_eq_true hg] | rw [decide_eq_false hg]
        unfold BRow at hg
        simp only [s58_eq, s29_eq, e0, el, e4, Bool.true_and, Bool.cond_decide, ← decide_not, cond_true, cond_false]
        repeat' split
        all_goals first | rfl | (exfalso; omega)
  · intro k
    show p59_st0 parts t (p59_lp0 parts t k) _ = _
    unfold p59_st0
    rw [decide_eq_false (by omega), cond_false]
    rw [s58_eq]
    by_cases h : 1 ≤ (t.len : Int) ∧ (t.len : Int) ≤ 40
    · rw [decide_eq_true h, decide_eq_true (by omega)]; rfl
    · rw [decide_eq_false h]; rfl
def TOk (t : Sl RangeRow) : Prop := (1 ≤ (t.len : Int) ∧ (t.len : Int) ≤ 40) ∧ ∀ i, i < t.len → TRow t i
def BOk (parts : Int) (t : Sl FluxRow) : Prop := (1 ≤ (t.len : Int) ∧ (t.len : Int) ≤ 40) ∧ (t.get 0).Energy = 1 ∧ ∀ i, i < t.len → BRow parts t i
def SOk (s : Sky) : Prop := ((2 ≤ s.Parts ∧ s.Parts ≤ 1000000) ∧ (1 ≤ (s.Bins.len : Int) ∧ (s.Bins.len : Int) ≤ 20) ∧ (-100 ≤ s.Beta.Low ∧ s.Beta.Low ≤ s.Beta.High ∧ s.Beta.High ≤ 100) ∧ (-100 ≤ s.Alpha.Low ∧ s.Alpha.Low ≤ s.Alpha.High ∧ s.Alpha.High ≤ 100)) ∧ ∀ i, i < s.Bins.len → BOk s.Parts (s.Bins.get i)
theorem s62_ok (t : Sl RangeRow) (hn : t.len ≤ 9223372036854775807) : p62 t = true ∧ (s62 t = true ↔ TOk t) := by
  obtain ⟨h1, h2⟩ := s91_eq t hn
  unfold p62 s62 TOk
  rw [h1]
  refine ⟨rfl, h2.trans ?_⟩
  simp only [decide_eq_true_eq]
  exact And.comm
theorem s17_ok (t : Sl RangeRow) (hn : t.len ≤ 9223372036854775807) : p17 t = true ∧ s17 t = s62 t := by
  obtain ⟨h1, h2⟩ := s17_eq t hn
  refine ⟨h1, Bool.eq_iff_iff.2 (h2.trans ((s62_ok t hn).2.trans ?_).symm)⟩
  unfold TOk
  simp only [decide_eq_true_eq]
  exact And.comm
theorem s101_ok (parts : Int) (t : Sl FluxRow) (hn : t.len ≤ 9223372036854775807) : p101 t 1 1000000 parts = true ∧ ((s101 t 1 1000000 parts && (t.get 0).Energy == 1) = true ↔ BOk parts t) ∧ (s101 t 1 1000000 parts = true → 0 < t.len) := by
  obtain ⟨h1, h2⟩ := s101_eq parts t hn
  refine ⟨h1, ?_, fun h => ?_⟩
  · rw [Bool.and_eq_true, h2]
    unfold BOk
    simp only [decide_eq_true_eq, beq_iff_eq]
    exact ⟨fun h => ⟨h.1.2, h.2, h.1.1⟩, fun h => ⟨⟨h.2.2, h.1⟩, h.2.1⟩⟩
  · have := of_decide_eq_true (h2.1 h).2
    omega
theorem s59_ok (parts : Int) (t : Sl FluxRow) (hn : t.len ≤ 9223372036854775807) : p59 parts t = true ∧ (s59 parts t = true ↔ BOk parts t) := by
  obtain ⟨h1, h2⟩ := s59_eq parts t hn
  refine ⟨h1, h2.trans ?_⟩
  unfold BOk
  simp only [decide_eq_true_eq, Bool.cond_decide, Bool.if_false_right, Bool.and_eq_true, beq_iff_eq]
  exact ⟨fun h => ⟨h.2.1, h.2.2, h.1⟩, fun h => ⟨h.2.2, h.1, h.2.1⟩⟩
end Go.Proofs
namespace Go.Proofs
open Go Go.Pm
set_option linter.unusedVariables false
theorem last_fst {β : Type} {c d : Nat → Bool} {v : Nat → β} {n : Nat} {a : β} (hcd : ∀ i, i < n → d i = !c i) (hup : ∀ i j, i ≤ j → j < n → d i = true → d j = true) :
    lastF c v n a = if 0 < fst d n then v (fst d n - 1) else a := by
  have hl := fst_le d n
  have hhi : ∀ j, fst d n ≤ j → j < n → c j = false := by
    intro j h1 h2
    have := hup _ _ h1 h2 (fst_hi (by omega))
    rw [hcd j h2] at this
    simpa using this
  by_cases h : 0 < fst d n
  · rw [if_pos h]
    refine last_at (by omega) ?_ (fun j h1 h2 => hhi j (by omega) h2)
    have := fst_lo (c := d) (n := n) (j := fst d n - 1) (by omega)
    rw [hcd _ (by omega)] at this
    simpa using this
  · rw [if_neg h]
    exact last_none fun j hj => hhi j (by omega) hj
def SL (s : Sky) : Prop := s.Bins.len ≤ 9223372036854775807 ∧ ∀ i, i < s.Bins.len → (s.Bins.get i).len ≤ 9223372036854775807
theorem s75_ok (s : Sky) (hs : SL s) : p75 s = true ∧ (s75 s = true ↔ SOk s) := by
  have h : p75 s = true ∧ (s75 s = true ↔ (∀ i, i < s.Bins.len → (s101 (s.Bins.get i) 1 1000000 s.Parts && ((s.Bins.get i).get 0).Energy == 1) = true) ∧ s75_at2 s s.Bins = true) := by
    refine all_loop (n := s.Bins.len) (good := fun i => s101 (s.Bins.get i) 1 1000000 s.Parts && ((s.Bins.get i).get 0).Energy == 1) (lpS := fun k i => s75_lp0 s k s.Bins (s.Bins.len : Int) i s.Bins) (lpP := fun k i => p75_lp0 s k s.Bins (s.Bins.len : Int) i s.Bins) ?_ ?_ ?_ ?_ hs.1
    · intro k i hi
      show s75_st0 s (s75_lp0 s k) s.Bins (s.Bins.len : Int) i s.Bins = cond _ (s75_lp0 s k s.Bins (s.Bins.len : Int) (w64 ((i : Int) + 1)) s.Bins) false
      generalize s75_lp0 s k = S
      unfold s75_st0 s75_at1
      rw [decide_eq_true (by omega), Int.toNat_natCast]
      cases s101 (s.Bins.get i) 1 1000000 s.Parts
      · rfl
      · cases h : ((s.Bins.get i).get 0).Energy == 1 <;> simp [bne, h]
    · intro k
      show s75_st0 s (s75_lp0 s k) s.Bins (s.Bins.len : Int) _ s.Bins = _
      unfold s75_st0
      rw [decide_eq_false (by omega), cond_false]
    · intro k i hi
      show p75_st0 s (p75_lp0 s k) s.Bins (s.Bins.len : Int) i s.Bins = cond _ (p75_lp0 s k s.Bins (s.Bins.len : Int) (w64 ((i : Int) + 1)) s.Bins) true
      generalize p75_lp0 s k = S
      unfold p75_st0 p75_at1
      obtain ⟨h1, _, h3⟩ := s101_ok s.Parts (s.Bins.get i) (hs.2 i hi)
      rw [decide_eq_true (by omega), Int.toNat_natCast, h1, decide_eq_true (show 0 ≤ (i : Int) ∧ (i : Int) < (s.Bins.len : Int) by omega)]
      cases h : s101 (s.Bins.get i) 1 1000000 s.Parts
      · rfl
      · have h4 := h3 h
        rw [decide_eq_true (show (0 : Int) ≤ 0 ∧ (0 : Int) < ((s.Bins.get i).len : Int) by omega)]
        cases h : ((s.Bins.get i).get 0).Energy == 1 <;> simp [bne, h]
    · intro k
      show p75_st0 s (p75_lp0 s k) s.Bins (s.Bins.len : Int) _ s.Bins = _
      unfold p75_st0
      rw [decide_eq_false (by omega), cond_false]
  refine ⟨h.1, h.2.trans ?_⟩
  have e : s75_at2 s s.Bins = true ↔ ((2 ≤ s.Parts ∧ s.Parts ≤ 1000000) ∧ (1 ≤ (s.Bins.len : Int) ∧ (s.Bins.len : Int) ≤ 20) ∧ (-100 ≤ s.Beta.Low ∧ s.Beta.Low ≤ s.Beta.High ∧ s.Beta.High ≤ 100) ∧ (-100 ≤ s.Alpha.Low ∧ s.Alpha.Low ≤ s.Alpha.High ∧ s.Alpha.High ≤ 100)) := by
    unfold s75_at2
    rw [s63_eq, s63_eq, s69_eq, s69_eq]
    simp only [Bool.cond_decide, Bool.if_false_right, Bool.and_eq_true, decide_eq_true_eq]
  rw [e]
  unfold SOk
  exact ⟨fun h => ⟨h.2, fun i hi => (s101_ok s.Parts (s.Bins.get i) (hs.2 i hi)).2.1.1 (h.1 i hi)⟩, fun h => ⟨fun i hi => (s101_ok s.Parts (s.Bins.get i) (hs.2 i hi)).2.1.2 (h.2 i hi), h.1⟩⟩
theorem s16_ok (s : Sky) (hs : SL s) : p16 s = true ∧ s16 s = s75 s := by
  have h : p16_at1 s s.Bins = true ∧ (s16_at1 s s.Bins = true ↔ (∀ i, i < s.Bins.len → s59 s.Parts (s.Bins.get i) = true) ∧ true = true) := by
    refine all_loop (n := s.Bins.len) (good := fun i => s59 s.Parts (s.Bins.get i)) (lpS := fun k i => s16_lp2 s k i s.Bins) (lpP := fun k i => p16_lp2 s k i s.Bins) ?_ ?_ ?_ ?_ hs.1
    · intro k i hi
      show s16_st2 s (s16_lp2 s k) i s.Bins = cond _ (s16_lp2 s k (w64 ((i : Int) + 1)) s.Bins) false
      generalize s16_lp2 s k = S
      unfold s16_st2 s16_at3
      rw [decide_eq_true (by omega), Int.toNat_natCast]
      cases s59 s.Parts (s.Bins.get i) <;> rfl
    · intro k
      show s16_st2 s (s16_lp2 s k) _ s.Bins = _
      unfold s16_st2
      rw [decide_eq_false (by omega), cond_false]
    · intro k i hi
      show p16_st2 s (p16_lp2 s k) i s.Bins = cond _ (p16_lp2 s k (w64 ((i : Int) + 1)) s.Bins) true
      generalize p16_lp2 s k = S
      unfold p16_st2 p16_at3
      rw [decide_eq_true (by omega), Int.toNat_natCast, (s59_ok s.Parts (s.Bins.get i) (hs.2 i hi)).1, decide_eq_true (show 0 ≤ (i : Int) ∧ (i : Int) < (s.Bins.len : Int) by omega)]
      cases s59 s.Parts (s.Bins.get i) <;> rfl
    · intro k
      show p16_st2 s (p16_lp2 s k) _ s.Bins = _
      unfold p16_st2
      rw [decide_eq_false (by omega), cond_false]
  have h2 : s16 s = true ↔ SOk s := by
    unfold s16 s16_at0
    rw [s58_eq, s58_eq, s29_eq, s29_eq]
    unfold SOk
    by_cases a : 2 ≤ s.Parts ∧ s.Parts ≤ 1000000
    · by_cases b : 1 ≤ (s.Bins.len : Int) ∧ (s.Bins.len : Int) ≤ 20
      · by_cases c : -100 ≤ s.Beta.Low ∧ s.Beta.Low ≤ s.Beta.High ∧ s.Beta.High ≤ 100
        · by_cases d : -100 ≤ s.Alpha.Low ∧ s.Alpha.Low ≤ s.Alpha.High ∧ s.Alpha.High ≤ 100
          · rw [decide_eq_true a, decide_eq_true b, decide_eq_true c, decide_eq_true d]
            refine h.2.trans ?_
            exact ⟨fun h => ⟨⟨a, b, c, d⟩, fun i hi => (s59_ok s.Parts (s.Bins.get i) (hs.2 i hi)).2.1 (h.1 i hi)⟩, fun h => ⟨fun i hi => (s59_ok s.Parts (s.Bins.get i) (hs.2 i hi)).2.2 (h.2 i hi), rfl⟩⟩
          · rw [decide_eq_true a, decide_eq_true b, decide_eq_true c, decide_eq_false d]
            exact ⟨fun h => absurd h Bool.false_ne_true, fun h => absurd h.1.2.2.2 d⟩
        · rw [decide_eq_true a, decide_eq_true b, decide_eq_false c]
          exact ⟨fun h => absurd h Bool.false_ne_true, fun h => absurd h.1.2.2.1 c⟩
      · rw [decide_eq_true a, decide_eq_false b]
        exact ⟨fun h => absurd h Bool.false_ne_true, fun h => absurd h.1.2.1 b⟩
    · rw [decide_eq_false a]
      exact ⟨fun h => absurd h Bool.false_ne_true, fun h => absurd h.1.1 a⟩
  refine ⟨?_, Bool.eq_iff_iff.2 (h2.trans (s75_ok s hs).2.symm)⟩
  unfold p16 p16_at0
  rw [h.1]
  cases s58 s.Parts 2 1000000 <;> cases s58 (s.Bins.len : Int) 1 20 <;> cases s29 s.Beta (-100) 100 <;> cases s29 s.Alpha (-100) 100 <;> rfl
theorem s15_p (s : Sky) (t : Sl RangeRow) (hs : SL s) : p15 s t = true := by
  have h : p15 s t = true ∧ (s15 s t = true ↔ (∀ i, i < s.Bins.len → (!decide (((s.Bins.get i).len : Int) > 50)) = true) ∧ (cond (decide ((s.Bins.len : Int) ≤ (25:Int))) (decide ((t.len : Int) ≤ (50:Int))) false) = true) := by
    refine all_loop (n := s.Bins.len) (good := fun i => !decide (((s.Bins.get i).len : Int) > 50)) (lpS := s15_lp0 s t) (lpP := p15_lp0 s t) ?_ ?_ ?_ ?_ hs.1
    · intro k i hi
      show s15_st0 s t (s15_lp0 s t k) i = _
      generalize s15_lp0 s t k = S
      unfold s15_st0
      rw [decide_eq_true (by omega), Int.toNat_natCast]
      cases decide (((s.Bins.get i).len : Int) > 50) <;> rfl
    · intro k
      show s15_st0 s t (s15_lp0 s t k) _ = _
      unfold s15_st0
      rw [decide_eq_false (by omega), cond_false]
    · intro k i hi
      show p15_st0 s t (p15_lp0 s t k) i = _
      generalize p15_lp0 s t k = S
      unfold p15_st0
      rw [decide_eq_true (by omega), Int.toNat_natCast, decide_eq_true (show 0 ≤ (i : Int) ∧ (i : Int) < (s.Bins.len : Int) by omega)]
      cases decide (((s.Bins.get i).len : Int) > 50) <;> rfl
    · intro k
      show p15_st0 s t (p15_lp0 s t k) _ = _
      unfold p15_st0
      rw [decide_eq_false (by omega), cond_false]
  exact h.1
theorem s81_eq (c0 : Int) (t : Sl RangeRow) (hn : t.len ≤ 9223372036854775807) : p81 c0 t = true ∧ s81 c0 t = ((fst (fun i => s95 c0 (t.get i)) t.len : Nat) : Int) := by
  have h := idx_loop (c := s95 c0) (lpS := s106_lp0 c0) (lpP := p106_lp0 c0) (fun _ _ _ _ => rfl) (fun _ _ _ _ => rfl) t hn
  have h1 : p106 c0 t = true := h.1
  have h2 : s106 c0 t = _ := h.2
  have hl := fst_le (fun i => s95 c0 (t.get i)) t.len
  unfold p81 s81
  rw [h1, h2]
  refine ⟨rfl, ?_⟩
  by_cases h : fst (fun i => s95 c0 (t.get i)) t.len < t.len
  · rw [if_pos h, decide_eq_true (by omega)]; rfl
  · rw [if_neg h, decide_eq_false (by omega)]
    show (t.len : Int) = _
    omega
theorem s81a_eq (c0 : Int) (t : Sl RangeRow) (hn : t.len ≤ 9223372036854775807) : p81a c0 t = true ∧ s81a c0 t = ((fst (fun i => s96 c0 (t.get i)) t.len : Nat) : Int) := by
  have h := idx_loop (c := s96 c0) (lpS := s106a_lp0 c0) (lpP := p106a_lp0 c0) (fun _ _ _ _ => rfl) (fun _ _ _ _ => rfl) t hn
  have h1 : p106a c0 t = true := h.1
  have h2 : s106a c0 t = _ := h.2
  have hl := fst_le (fun i => s96 c0 (t.get i)) t.len
  unfold p81a s81a
  rw [h1, h2]
  refine ⟨rfl, ?_⟩
  by_cases h : fst (fun i => s96 c0 (t.get i)) t.len < t.len
  · rw [if_pos h, decide_eq_true (by omega)]; rfl
  · rw [if_neg h, decide_eq_false (by omega)]
    show (t.len : Int) = _
    omega
theorem s81b_eq (c0 : Int) (t : Sl RangeRow) (hn : t.len ≤ 9223372036854775807) : p81b c0 t = true ∧ s81b c0 t = ((fst (fun i => s82 c0 (t.get i)) t.len : Nat) : Int) := by
  have h := idx_loop (c := s82 c0) (lpS := s106b_lp0 c0) (lpP := p106b_lp0 c0) (fun _ _ _ _ => rfl) (fun _ _ _ _ => rfl) t hn
  have h1 : p106b c0 t = true := h.1
  have h2 : s106b c0 t = _ := h.2
  have hl := fst_le (fun i => s82 c0 (t.get i)) t.len
  unfold p81b s81b
  rw [h1, h2]
  refine ⟨rfl, ?_⟩
  by_cases h : fst (fun i => s82 c0 (t.get i)) t.len < t.len
  · rw [if_pos h, decide_eq_true (by omega)]; rfl
  · rw [if_neg h, decide_eq_false (by omega)]
    show (t.len : Int) = _
    omega
theorem s81c_eq (c0 : Int) (t : Sl RangeRow) (hn : t.len ≤ 9223372036854775807) : p81c c0 t = true ∧ s81c c0 t = ((fst (fun i => s83 c0 (t.get i)) t.len : Nat) : Int) := by
  have h := idx_loop (c := s83 c0) (lpS := s106c_lp0 c0) (lpP := p106c_lp0 c0) (fun _ _ _ _ => rfl) (fun _ _ _ _ => rfl) t hn
  have h1 : p106c c0 t = true := h.1
  have h2 : s106c c0 t = _ := h.2
  have hl := fst_le (fun i => s83 c0 (t.get i)) t.len
  unfold p81c s81c
  rw [h1, h2]
  refine ⟨rfl, ?_⟩
  by_cases h : fst (fun i => s83 c0 (t.get i)) t.len < t.len
  · rw [if_pos h, decide_eq_true (by omega)]; rfl
  · rw [if_neg h, decide_eq_false (by omega)]
    show (t.len : Int) = _
    omega
theorem s107_eq (c0 : Span) (t : Sl FluxRow) (hn : t.len ≤ 9223372036854775807) : p107 c0 t = true ∧ s107 c0 t = ((fst (fun i => s108 c0 (t.get i)) t.len : Nat) : Int) := by
  have h := idx_loop (c := s108 c0) (lpS := s118_lp0 c0) (lpP := p118_lp0 c0) (fun _ _ _ _ => rfl) (fun _ _ _ _ => rfl) t hn
  have h1 : p118 c0 t = true := h.1
  have h2 : s118 c0 t = _ := h.2
  have hl := fst_le (fun i => s108 c0 (t.get i)) t.len
  unfold p107 s107
  rw [h1, h2]
  refine ⟨rfl, ?_⟩
  by_cases h : fst (fun i => s108 c0 (t.get i)) t.len < t.len
  · rw [if_pos h, decide_eq_true (by omega)]; rfl
  · rw [if_neg h, decide_eq_false (by omega)]
    show (t.len : Int) = _
    omega
theorem s107a_eq (c0 : Span) (t : Sl FluxRow) (hn : t.len ≤ 9223372036854775807) : p107a c0 t = true ∧ s107a c0 t = ((fst (fun i => s109 c0 (t.get i)) t.len : Nat) : Int) := by
  have h := idx_loop (c := s109 c0) (lpS := s118a_lp0 c0) (lpP := p118a_lp0 c0) (fun _ _ _ _ => rfl) (fun _ _ _ _ => rfl) t hn
  have h1 : p118a c0 t = true := h.1
  have h2 : s118a c0 t = _ := h.2
  have hl := fst_le (fun i => s109 c0 (t.get i)) t.len
  unfold p107a s107a
  rw [h1, h2]
  refine ⟨rfl, ?_⟩
  by_cases h : fst (fun i => s109 c0 (t.get i)) t.len < t.len
  · rw [if_pos h, decide_eq_true (by omega)]; rfl
  · rw [if_neg h, decide_eq_false (by omega)]
    show (t.len : Int) = _
    omega
def kH (t : Sl RangeRow) (x : Int) : Nat := fst (fun i => decide ((t.get i).Range.High ≥ x)) t.len
def kL (t : Sl RangeRow) (x : Int) : Nat := fst (fun i => decide ((t.get i).Range.Low ≥ x)) t.len
def thrL (t : Sl RangeRow) (x : Int) : Int := if 0 < kH t x then (t.get (kH t x - 1)).Energy + 1 else 1
def thrH (t : Sl RangeRow) (x : Int) : Int := if kL t x < t.len then (t.get (kL t x)).Energy else -1
def thr (t : Sl RangeRow) (x : Int) : Span := if x = 0 then ⟨1, 1⟩ else ⟨thrL t x, thrH t x⟩
def jL (l : Sl FluxRow) (y : Int) : Nat := fst (fun i => decide ((l.get i).Energy > y)) l.len
def jH (l : Sl FluxRow) (y : Int) : Nat := fst (fun i => decide ((l.get i).Energy ≥ y)) l.len
def abvH (l : Sl FluxRow) (y : Int) : Int := if 0 < jL l y then (l.get (jL l y - 1)).Rate.High else (l.get 0).Rate.High
def abvL (l : Sl FluxRow) (y : Int) : Int := if y = -1 then 0 else if jH l y < l.len then (l.get (jH l y)).Rate.Low else 0
def abv (l : Sl FluxRow) (x : Span) : Span := ⟨abvL l x.High, abvH l x.Low⟩
def expd (s : Sky) (t : Sl RangeRow) (bin x : Int) : Span := abv (s.Bins.get bin.toNat) (thr t x)
theorem s64_eq (t : Sl RangeRow) (x : Int) (hk : TOk t) : p64 t x = true ∧ s64 t x = thr t x := by
  have hn : t.len ≤ 9223372036854775807 := by have := hk.1.2; omega
  have e1 : p81 x t = true ∧ s81 x t = ((kH t x : Nat) : Int) := s81_eq x t hn
  have e2 : p81a x t = true ∧ s81a x t = ((kL t x : Nat) : Int) := s81a_eq x t hn
  have b1 : kH t x ≤ t.len := fst_le _ _
  have b2 : kL t x ≤ t.len := fst_le _ _
  unfold p64 s64 thr
  by_cases h0 : x = 0
  · rw [if_pos h0, beq_iff_eq.2 h0]; exact ⟨rfl, rfl⟩
  have h00 : (x == 0) = false := by simpa using h0
  rw [if_neg h0, h00, cond_false, cond_false]
  unfold p64_at0 s64_at0
  rw [e1.1, e1.2]
  have h3 : ∀ a, p64_at2 t x a = true ∧ s64_at2 t x a = ⟨a, thrH t x⟩ := by
    intro a
    unfold p64_at2 s64_at2 p64_at3 s64_at3 thrH
    rw [e2.1, e2.2]
    by_cases h : kL t x < t.len
    · rw [if_pos h, decide_eq_true (show ((kL t x : Nat) : Int) < (t.len : Int) by omega), decide_eq_true (show 0 ≤ ((kL t x : Nat) : Int) ∧ ((kL t x : Nat) : Int) < (t.len : Int) by omega), Int.toNat_natCast]
      exact ⟨rfl, rfl⟩
    · rw [if_neg h, decide_eq_false (show ¬ ((kL t x : Nat) : Int) < (t.len : Int) by omega)]
      exact ⟨rfl, rfl⟩
  unfold p64_at1 s64_at1 thrL
  by_cases h : 0 < kH t x
  · have hr := hk.2 (kH t x - 1) (by omega)
    unfold TRow at hr
    have e3 : w64 (((kH t x : Nat) : Int) - 1) = ((kH t x - 1 : Nat) : Int) := by rw [w64_id (by omega) (by omega)]; omega
    rw [if_pos h, decide_eq_true (show ((kH t x : Nat) : Int) > 0 by omega), e3, Int.toNat_natCast, decide_eq_true (show 0 ≤ ((kH t x - 1 : Nat) : Int) ∧ ((kH t x - 1 : Nat) : Int) < (t.len : Int) by omega), (h3 _).1, cond_true, (h3 _).2, w64_id (by omega) (by omega)]
    exact ⟨rfl, rfl⟩
  · rw [if_neg h, decide_eq_false (show ¬ ((kH t x : Nat) : Int) > 0 by omega), cond_false, cond_false, (h3 _).1, (h3 _).2]
    exact ⟨rfl, rfl⟩
theorem s84_eq (l : Sl FluxRow) (y : Span) (h0 : 0 < l.len) (hn : l.len ≤ 9223372036854775807) : p84 l y = true ∧ s84 l y = abv l y := by
  have e1 : p107 y l = true ∧ s107 y l = ((jL l y.Low : Nat) : Int) := s107_eq y l hn
  have e2 : p107a y l = true ∧ s107a y l = ((jH l y.High : Nat) : Int) := s107a_eq y l hn
  have b1 : jL l y.Low ≤ l.len := fst_le _ _
  have b2 : jH l y.High ≤ l.len := fst_le _ _
  have h3 : ∀ a, p84_at1 l y a = true ∧ s84_at1 l y a = ⟨abvL l y.High, a⟩ := by
    intro a
    unfold p84_at1 s84_at1 abvL
    by_cases h : y.High = -1
    · rw [if_pos h, beq_iff_eq.2 h]; exact ⟨rfl, rfl⟩
    have h00 : (y.High == -1) = false := by simpa using h
    rw [if_neg h, h00, cond_false, cond_false]
    unfold p84_at2 s84_at2 p84_at3 s84_at3
    rw [e2.1, e2.2]
    by_cases h : jH l y.High < l.len
    · rw [if_pos h, decide_eq_true (show ((jH l y.High : Nat) : Int) < (l.len : Int) by omega), decide_eq_true (show 0 ≤ ((jH l y.High : Nat) : Int) ∧ ((jH l y.High : Nat) : Int) < (l.len : Int) by omega), Int.toNat_natCast]
      exact ⟨rfl, rfl⟩
    · rw [if_neg h, decide_eq_false (show ¬ ((jH l y.High : Nat) : Int) < (l.len : Int) by omega)]
      exact ⟨rfl, rfl⟩
  unfold p84 s84 abv
  rw [e1.1, e1.2, decide_eq_true (show 0 ≤ (0 : Int) ∧ (0 : Int) < (l.len : Int) by omega)]
  unfold p84_at0 s84_at0 abvH
  by_cases h : 0 < jL l y.Low
  · have e3 : w64 (((jL l y.Low : Nat) : Int) - 1) = ((jL l y.Low - 1 : Nat) : Int) := by rw [w64_id (by omega) (by omega)]; omega
    rw [if_pos h, decide_eq_true (show ((jL l y.Low : Nat) : Int) > 0 by omega), e3, Int.toNat_natCast, decide_eq_true (show 0 ≤ ((jL l y.Low - 1 : Nat) : Int) ∧ ((jL l y.Low - 1 : Nat) : Int) < (l.len : Int) by omega), (h3 _).1, cond_true, (h3 _).2]
    exact ⟨rfl, rfl⟩
  · rw [if_neg h, decide_eq_false (show ¬ ((jL l y.Low : Nat) : Int) > 0 by omega), cond_false, cond_false, (h3 _).1, (h3 _).2]
    exact ⟨rfl, rfl⟩
def Fine (s : Sky) (t : Sl RangeRow) (bin x : Int) : Prop := SOk s ∧ TOk t ∧ (0 ≤ bin ∧ bin < (s.Bins.len : Int)) ∧ (0 ≤ x ∧ x ≤ 1000000)
theorem Fine.b {s : Sky} {t : Sl RangeRow} {bin x : Int} (h : Fine s t bin x) : BOk s.Parts (s.Bins.get bin.toNat) := h.1.2 _ (by have := h.2.2.1; omega)
theorem s65_g (s : Sky) (t : Sl RangeRow) (bin x : Int) : (s65 s t bin x).1.Sky = s ∧ (s65 s t bin x).1.table = t := by
  unfold s65
  cases s75 s <;> cases s62 t <;> cases s63 bin 0 (w64 ((s.Bins.len : Int) - 1)) <;> exact ⟨rfl, rfl⟩
theorem s65_ok (s : Sky) (t : Sl RangeRow) (bin x : Int) (hs : SL s) (ht : t.len ≤ 9223372036854775807) : p65 s t bin x = true ∧ ((s65 s t bin x).2 = true ↔ Fine s t bin x) := by
  obtain ⟨h1, h2⟩ := s75_ok s hs
  obtain ⟨h3, h4⟩ := s62_ok t ht
  have h5 := hs.1
  unfold p65 s65 Fine
  rw [h1, h3, s63_eq, s63_eq, w64_id (by omega) (by omega), ← h2, ← h4]
  cases s75 s
  · exact ⟨rfl, ⟨fun h => absurd h Bool.false_ne_true, fun h => absurd h.1 Bool.false_ne_true⟩⟩
  cases s62 t
  · exact ⟨rfl, ⟨fun h => absurd h Bool.false_ne_true, fun h => absurd h.2.1 Bool.false_ne_true⟩⟩
  refine ⟨rfl, ?_⟩
  by_cases h : 0 ≤ bin ∧ bin ≤ (s.Bins.len : Int) - 1
  · rw [decide_eq_true h]
    simp only [cond_true, decide_eq_true_eq]
    exact ⟨fun h6 => ⟨trivial, trivial, by omega, h6⟩, fun h6 => h6.2.2.2⟩
  · rw [decide_eq_false h]
    exact ⟨fun h => absurd h Bool.false_ne_true, fun h6 => absurd (show 0 ≤ bin ∧ bin ≤ (s.Bins.len : Int) - 1 by have := h6.2.2.1; omega) h⟩
theorem s66_eq {s : Sky} {t : Sl RangeRow} {bin x : Int} (h : Fine s t bin x) : p66 s t bin x = true ∧ s66 s t bin x = expd s t bin x := by
  obtain ⟨h1, h2⟩ := s64_eq t x h.2.1
  have hb := h.b
  obtain ⟨h3, h4⟩ := s84_eq (s.Bins.get bin.toNat) (thr t x) (by have := hb.1; omega) (by have := hb.1; omega)
  unfold p66 s66 expd
  rw [h1, h2, h3, h4, decide_eq_true h.2.2.1]
  exact ⟨rfl, rfl⟩
theorem s20_ok (s : Sky) (t : Sl RangeRow) (bin x : Int) (hs : SL s) (ht : t.len ≤ 9223372036854775807) : p20 s t bin x = true ∧ (Fine s t bin x → s20 s t bin x = (expd s t bin x, 0)) ∧ (¬ Fine s t bin x → s20 s t bin x = (⟨0, 0⟩, 2)) := by
  obtain ⟨h1, h2⟩ := s65_ok s t bin x hs ht
  obtain ⟨e1, e2⟩ := s65_g s t bin x
  unfold p20 s20
  rw [h1, e1, e2]
  by_cases h : Fine s t bin x
  · rw [h2.2 h, (s66_eq h).1, (s66_eq h).2]
    exact ⟨rfl, fun _ => rfl, fun h3 => absurd h h3⟩
  · have h3 : (s65 s t bin x).2 = false := by
      cases e : (s65 s t bin x).2
      · rfl
      · exact absurd (h2.1 e) h
    rw [h3]
    exact ⟨rfl, fun h3 => absurd h3 h, fun _ => rfl⟩
theorem s19_ok (t : Sl RangeRow) (x : Int) (ht : t.len ≤ 9223372036854775807) : p19 t x = true ∧ (TOk t ∧ 0 ≤ x ∧ x ≤ 1000000 → s19 t x = (thr t x, 0)) ∧ (¬ (TOk t ∧ 0 ≤ x ∧ x ≤ 1000000) → s19 t x = (⟨0, 0⟩, 2)) := by
  obtain ⟨h1, h2⟩ := s62_ok t ht
  unfold p19 s19
  rw [h1, s63_eq]
  by_cases hk : TOk t
  · rw [h2.2 hk, (s64_eq t x hk).1, (s64_eq t x hk).2]
    by_cases h : 0 ≤ x ∧ x ≤ 1000000
    · rw [decide_eq_true h]
      exact ⟨rfl, fun _ => rfl, fun h3 => absurd ⟨hk, h⟩ h3⟩
    · rw [decide_eq_false h]
      exact ⟨rfl, fun h3 => absurd h3.2 h, fun _ => rfl⟩
  · have h3 : s62 t = false := by
      cases e : s62 t
      · rfl
      · exact absurd (h2.1 e) hk
    rw [h3]
    exact ⟨rfl, fun h3 => absurd h3.1 hk, fun _ => rfl⟩
theorem t_mono {t : Sl RangeRow} (h : ∀ i, i < t.len → TRow t i) : ∀ d i, i + d < t.len → (0 < d → (t.get i).Energy < (t.get (i + d)).Energy) ∧ (t.get i).Range.Low ≤ (t.get (i + d)).Range.Low ∧ (t.get i).Range.High ≤ (t.get (i + d)).Range.High := by
  intro d
  induction d with
  | zero => intro i hi; exact ⟨fun h => absurd h (by omega), Int.le_refl _, Int.le_refl _⟩
  | succ d ih =>
    intro i hi
    obtain ⟨h1, h2, h3⟩ := ih i (by omega)
    obtain ⟨_, _, h4⟩ := h (i + (d + 1)) hi
    have e : i + (d + 1) - 1 = i + d := by omega
    rw [e] at h4
    have h4 := h4.resolve_left (by omega)
    refine ⟨fun _ => ?_, by omega, by omega⟩
    by_cases hd : 0 < d
    · have := h1 hd; omega
    · have : d = 0 := by omega
      subst this; exact h4.1
theorem t_e {t : Sl RangeRow} (h : TOk t) {i j : Nat} (hij : i < j) (hj : j < t.len) : (t.get i).Energy < (t.get j).Energy := by
  have := (t_mono h.2 (j - i) i (by omega)).1 (by omega)
  rwa [show i + (j - i) = j by omega] at this
theorem t_low {t : Sl RangeRow} (h : TOk t) {i j : Nat} (hij : i ≤ j) (hj : j < t.len) : (t.get i).Range.Low ≤ (t.get j).Range.Low := by
  have := (t_mono h.2 (j - i) i (by omega)).2.1
  rwa [show i + (j - i) = j by omega] at this
theorem t_high {t : Sl RangeRow} (h : TOk t) {i j : Nat} (hij : i ≤ j) (hj : j < t.len) : (t.get i).Range.High ≤ (t.get j).Range.High := by
  have := (t_mono h.2 (j - i) i (by omega)).2.2
  rwa [show i + (j - i) = j by omega] at this
theorem b_mono {parts : Int} {t : Sl FluxRow} (h : ∀ i, i < t.len → BRow parts t i) : ∀ d i, i + d < t.len → (0 < d → (t.get i).Energy < (t.get (i + d)).Energy) ∧ (t.get (i + d)).Rate.Low ≤ (t.get i).Rate.Low ∧ (t.get (i + d)).Rate.High ≤ (t.get i).Rate.High := by
  intro d
  induction d with
  | zero => intro i hi; exact ⟨fun h => absurd h (by omega), Int.le_refl _, Int.le_refl _⟩
  | succ d ih =>
    intro i hi
    obtain ⟨h1, h2, h3⟩ := ih i (by omega)
    obtain ⟨_, _, h4⟩ := h (i + (d + 1)) hi
    have e : i + (d + 1) - 1 = i + d := by omega
    rw [e] at h4
    have h4 := h4.resolve_left (by omega)
    refine ⟨fun _ => ?_, by omega, by omega⟩
    by_cases hd : 0 < d
    · have := h1 hd; omega
    · have : d = 0 := by omega
      subst this; exact h4.1
theorem b_e {parts : Int} {t : Sl FluxRow} (h : BOk parts t) {i j : Nat} (hij : i < j) (hj : j < t.len) : (t.get i).Energy < (t.get j).Energy := by
  have := (b_mono h.2.2 (j - i) i (by omega)).1 (by omega)
  rwa [show i + (j - i) = j by omega] at this
theorem b_low {parts : Int} {t : Sl FluxRow} (h : BOk parts t) {i j : Nat} (hij : i ≤ j) (hj : j < t.len) : (t.get j).Rate.Low ≤ (t.get i).Rate.Low := by
  have := (b_mono h.2.2 (j - i) i (by omega)).2.1
  rwa [show i + (j - i) = j by omega] at this
theorem b_high {parts : Int} {t : Sl FluxRow} (h : BOk parts t) {i j : Nat} (hij : i ≤ j) (hj : j < t.len) : (t.get j).Rate.High ≤ (t.get i).Rate.High := by
  have := (b_mono h.2.2 (j - i) i (by omega)).2.2
  rwa [show i + (j - i) = j by omega] at this
end Go.Proofs
namespace Go.Proofs
open Go Go.Pm
set_option linter.unusedVariables false
theorem s49_eq (t : Sl RangeRow) (x : Int) (hk : TOk t) : p49 t x = true ∧ s49 t x = thr t x := by
  have hn : t.len ≤ 9223372036854775807 := by have := hk.1.2; omega
  unfold p49 s49 thr
  by_cases h0 : x = 0
  · rw [if_pos h0, beq_iff_eq.2 h0]; exact ⟨rfl, rfl⟩
  have h00 : (x == 0) = false := by simpa using h0
  rw [if_neg h0, h00, cond_false, cond_false]
  have hb : ∀ a, p49_at2 t x a = true ∧ s49_at2 t x a = ⟨a, thrH t x⟩ := by
    intro a
    refine bwd_loop (γ := Span) (c := fun i => decide ((t.get i).Range.Low ≥ x)) (v := fun i => (t.get i).Energy) (E := fun b => ⟨a, b⟩) (EP := fun _ => true) (n := t.len) (lpS := fun k i b => s49_lp3 t x k i a b) (lpP := fun k i b => p49_lp3 t x k i a b) ?_ ?_ ?_ ?_ hn (-1)
    · intro k i b hi
      show s49_st3 t x (s49_lp3 t x k) i a b = _
      unfold s49_st3
      rw [decide_eq_true (by omega), Int.toNat_natCast]; rfl
    · intro k b
      show s49_st3 t x (s49_lp3 t x k) (-1) a b = _
      unfold s49_st3
      rw [decide_eq_false (by omega)]; rfl
    · intro k i b hi
      show p49_st3 t x (p49_lp3 t x k) i a b = _
      unfold p49_st3
      have e4 : decide (0 ≤ (i : Int) ∧ (i : Int) < (t.len : Int)) = true := decide_eq_true (by omega)
      rw [decide_eq_true (by omega), e4, Int.toNat_natCast]
      simp only [Bool.true_and, cond_true]
    · intro k b
      show p49_st3 t x (p49_lp3 t x k) (-1) a b = _
      unfold p49_st3
      rw [decide_eq_false (by omega)]; rfl
  have hf := fwd_loop (c := fun i => decide ((t.get i).Range.High < x)) (v := fun i => w64 ((t.get i).Energy + 1)) (E := fun a => s49_at2 t x a) (EP := fun a => p49_at2 t x a) (n := t.len) (lpS := s49_lp1 t x) (lpP := p49_lp1 t x)
    (by
      intro k i b hi
      show s49_st1 t x (s49_lp1 t x k) i b = _
      unfold s49_st1
      rw [decide_eq_true (by omega), Int.toNat_natCast]; rfl)
    (by
      intro k b
      show s49_st1 t x (s49_lp1 t x k) _ b = _
      unfold s49_st1
      rw [decide_eq_false (by omega)]; rfl)
    (by
      intro k i b hi
      show p49_st1 t x (p49_lp1 t x k) i b = _
      unfold p49_st1
      have e4 : decide (0 ≤ (i : Int) ∧ (i : Int) < (t.len : Int)) = true := decide_eq_true (by omega)
      rw [decide_eq_true (by omega), e4, Int.toNat_natCast]
      simp only [Bool.true_and, cond_true])
    (by
      intro k b
      show p49_st1 t x (p49_lp1 t x k) _ b = _
      unfold p49_st1
      rw [decide_eq_false (by omega)]; rfl) hn 1
  have hl : lastF (fun i => decide ((t.get i).Range.High < x)) (fun i => w64 ((t.get i).Energy + 1)) t.len 1 = thrL t x := by
    rw [last_fst (d := fun i => decide ((t.get i).Range.High ≥ x)) (fun i hi => by
        show decide ((t.get i).Range.High ≥ x) = !decide ((t.get i).Range.High < x)
        rw [← decide_not]; exact decide_eq_decide.2 (by omega)) (fun i j h1 h2 h3 => by
        have := t_high hk h1 h2
        have := of_decide_eq_true h3
        exact decide_eq_true (by omega))]
    unfold thrL
    show (if 0 < kH t x then w64 ((t.get (kH t x - 1)).Energy + 1) else 1) = _
    by_cases h : 0 < kH t x
    · have b1 : kH t x ≤ t.len := fst_le _ _
      have hr := hk.2 (kH t x - 1) (by omega)
      unfold TRow at hr
      rw [if_pos h, if_pos h]
      exact w64_id (by omega) (by omega)
    · rw [if_neg h, if_neg h]
  have r1 := hf.1.trans (hb _).1
  have r2 := hf.2.trans (hb _).2
  rw [hl] at r2
  exact ⟨r1, r2⟩
theorem s46_eq {parts : Int} (l : Sl FluxRow) (y : Span) (hk : BOk parts l) (hy : 1 ≤ y.Low) : p46 l y = true ∧ s46 l y = abv l y := by
  have hn : l.len ≤ 9223372036854775807 := by have := hk.1.2; omega
  have hb : ∀ a, p46_at1 l y a = true ∧ s46_at1 l y a = ⟨abvL l y.High, a⟩ := by
    intro a
    unfold abvL
    by_cases hh : y.High = -1
    · rw [if_pos hh]
      obtain ⟨k, hkk⟩ : ∃ k, Fuel = k + 1 := ⟨Fuel - 1, by simp only [Fuel]⟩
      unfold p46_at1 s46_at1 p46_at2 s46_at2
      rw [hkk]
      show p46_st2 l y (p46_lp2 l y k) _ _ _ = true ∧ s46_st2 l y (s46_lp2 l y k) _ _ _ = _
      have hne : (y.High != -1) = false := by simp [hh]
      unfold p46_st2 s46_st2
      rw [hne]
      cases decide (w64 ((l.len : Int) - 1) ≥ 0) <;> exact ⟨rfl, rfl⟩
    · rw [if_neg hh]
      have hne : (y.High != -1) = true := by simp [hh]
      refine bwd_loop (γ := Span) (c := fun i => decide ((l.get i).Energy ≥ y.High)) (v := fun i => (l.get i).Rate.Low) (E := fun b => ⟨b, a⟩) (EP := fun _ => true) (n := l.len) (lpS := fun k i b => s46_lp2 l y k i b a) (lpP := fun k i b => p46_lp2 l y k i b a) ?_ ?_ ?_ ?_ hn 0
      · intro k i b hi
        show s46_st2 l y (s46_lp2 l y k) i b a = _
        unfold s46_st2
        rw [decide_eq_true (by omega), Int.toNat_natCast, hne]; rfl
      · intro k b
        show s46_st2 l y (s46_lp2 l y k) (-1) b a = _
        unfold s46_st2
        rw [decide_eq_false (by omega)]; rfl
      · intro k i b hi
        show p46_st2 l y (p46_lp2 l y k) i b a = _
        unfold p46_st2
        have e4 : decide (0 ≤ (i : Int) ∧ (i : Int) < (l.len : Int)) = true := decide_eq_true (by omega)
        rw [decide_eq_true (by omega), e4, Int.toNat_natCast, hne]
        simp only [Bool.true_and, cond_true]
      · intro k b
        show p46_st2 l y (p46_lp2 l y k) (-1) b a = _
        unfold p46_st2
        rw [decide_eq_false (by omega)]; rfl
  have hf := fwd_loop (c := fun i => decide ((l.get i).Energy ≤ y.Low)) (v := fun i => (l.get i).Rate.High) (E := fun a => s46_at1 l y a) (EP := fun a => p46_at1 l y a) (n := l.len) (lpS := s46_lp0 l y) (lpP := p46_lp0 l y)
    (by
      intro k i b hi
      show s46_st0 l y (s46_lp0 l y k) i b = _
      unfold s46_st0
      rw [decide_eq_true (by omega), Int.toNat_natCast]; rfl)
    (by
      intro k b
      show s46_st0 l y (s46_lp0 l y k) _ b = _
      unfold s46_st0
      rw [decide_eq_false (by omega)]; rfl)
    (by
      intro k i b hi
      show p46_st0 l y (p46_lp0 l y k) i b = _
      unfold p46_st0
      have e4 : decide (0 ≤ (i : Int) ∧ (i : Int) < (l.len : Int)) = true := decide_eq_true (by omega)
      rw [decide_eq_true (by omega), e4, Int.toNat_natCast]
      simp only [Bool.true_and, cond_true])
    (by
      intro k b
      show p46_st0 l y (p46_lp0 l y k) _ b = _
      unfold p46_st0
      rw [decide_eq_false (by omega)]; rfl) hn 0
  have hl : lastF (fun i => decide ((l.get i).Energy ≤ y.Low)) (fun i => (l.get i).Rate.High) l.len 0 = abvH l y.Low := by
    rw [last_fst (d := fun i => decide ((l.get i).Energy > y.Low)) (fun i hi => by
        show decide ((l.get i).Energy > y.Low) = !decide ((l.get i).Energy ≤ y.Low)
        rw [← decide_not]; exact decide_eq_decide.2 (by omega)) (fun i j h1 h2 h3 => by
        have := of_decide_eq_true h3
        by_cases e : i = j
        · exact decide_eq_true (by rw [← e]; omega)
        · have := b_e hk (show i < j by omega) h2
          exact decide_eq_true (by omega))]
    unfold abvH
    show (if 0 < jL l y.Low then (l.get (jL l y.Low - 1)).Rate.High else 0) = _
    have h : 0 < jL l y.Low := by
      have b1 : jL l y.Low ≤ l.len := fst_le _ _
      have := hk.1.1
      rcases Nat.eq_zero_or_pos (jL l y.Low) with h | h
      · have := of_decide_eq_true (fst_hi (c := fun i => decide ((l.get i).Energy > y.Low)) (n := l.len) (show jL l y.Low < l.len by omega))
        have h2 : fst (fun i => decide ((l.get i).Energy > y.Low)) l.len = 0 := h
        rw [h2, hk.2.1] at this
        omega
      · exact h
    rw [if_pos h, if_pos h]
  have r1 := hf.1.trans (hb _).1
  have r2 := hf.2.trans (hb _).2
  rw [hl] at r2
  exact ⟨r1, r2⟩
theorem thr_low {t : Sl RangeRow} (x : Int) (hk : TOk t) : 1 ≤ (thr t x).Low := by
  unfold thr
  by_cases h0 : x = 0
  · rw [if_pos h0]; exact Int.le_refl _
  rw [if_neg h0]
  show 1 ≤ thrL t x
  unfold thrL
  by_cases h : 0 < kH t x
  · have b1 : kH t x ≤ t.len := fst_le _ _
    have hr := hk.2 (kH t x - 1) (by omega)
    unfold TRow at hr
    rw [if_pos h]; omega
  · rw [if_neg h]; exact Int.le_refl _
theorem s47_eq {s : Sky} {t : Sl RangeRow} {bin x : Int} (h : Fine s t bin x) : p47 s t bin x = true ∧ s47 s t bin x = expd s t bin x := by
  obtain ⟨h1, h2⟩ := s49_eq t x h.2.1
  obtain ⟨h3, h4⟩ := s46_eq (s.Bins.get bin.toNat) (thr t x) h.b (thr_low x h.2.1)
  unfold p47 s47 expd
  rw [h1, h2, h3, h4, decide_eq_true h.2.2.1]
  exact ⟨rfl, rfl⟩
end Go.Proofs
namespace Go.Proofs
open Go Go.Pm
set_option linter.unusedVariables false
def lr1 (x0 rl : Int) (r : FluxRow) : FluxRow := if r.Energy ≤ x0 then ⟨r.Energy, ⟨if rl > r.Rate.Low then rl else r.Rate.Low, r.Rate.High⟩⟩ else r
def lr2 (x1 rh : Int) (r : FluxRow) : FluxRow := if x1 ≠ -1 ∧ r.Energy ≥ x1 then ⟨r.Energy, ⟨r.Rate.Low, if rh < r.Rate.High then rh else r.Rate.High⟩⟩ else r
def lrn (y rates : Span) (r : FluxRow) : FluxRow := lr2 y.High rates.High (lr1 y.Low rates.Low r)
def badR (r : FluxRow) : Bool := decide (r.Rate.Low > r.Rate.High)
def zsky : Sky := ⟨0, ⟨0, fun _ => default⟩, ⟨0, 0⟩, ⟨0, 0⟩⟩
def Upd (b k : Nat) (v : FluxRow) (w w' : Sl (Sl FluxRow)) : Prop := w'.len = w.len ∧ ∀ i, (w'.get i).len = (w.get i).len ∧ ∀ j, (w'.get i).get j = if i = b ∧ j = k then v else (w.get i).get j
theorem upd_id (b k : Nat) (w : Sl (Sl FluxRow)) : Upd b k ((w.get b).get k) w w := by
  refine ⟨rfl, fun i => ⟨rfl, fun j => ?_⟩⟩
  split
  · rename_i h; rw [h.1, h.2]
  · rfl
theorem upd_set {b k : Nat} {v u : FluxRow} {w w1 : Sl (Sl FluxRow)} (h : Upd b k u w w1) : Upd b k v w ⟨w1.len, setS b k v w1.get⟩ := by
  refine ⟨h.1, fun i => ?_⟩
  obtain ⟨h1, h2⟩ := h.2 i
  show (setS b k v w1.get i).len = _ ∧ ∀ j, (setS b k v w1.get i).get j = _
  unfold setS
  cases e : Nat.beq i b
  · have hne : i ≠ b := fun he => by rw [he, Nat.beq_refl] at e; cases e
    refine ⟨h1, fun j => ?_⟩
    rw [if_neg (fun hh => hne hh.1)]
    have := h2 j
    rw [if_neg (fun hh => hne hh.1)] at this
    exact this
  · have he : i = b := Nat.eq_of_beq_eq_true e
    refine ⟨h1, fun j => ?_⟩
    show setT k v (w1.get i).get j = _
    unfold setT
    cases e2 : Nat.beq j k
    · have hne : j ≠ k := fun he => by rw [he, Nat.beq_refl] at e2; cases e2
      rw [if_neg (fun hh => hne hh.2)]
      have := h2 j
      rw [if_neg (fun hh => hne hh.2)] at this
      exact this
    · rw [if_pos ⟨he, Nat.eq_of_beq_eq_true e2⟩]
theorem upd_at {b k : Nat} {v : FluxRow} {w w1 : Sl (Sl FluxRow)} (h : Upd b k v w w1) : (w1.get b).get k = v := by
  have := (h.2 b).2 k
  rwa [if_pos ⟨rfl, rfl⟩] at this
theorem at7_33 {s : Sky} {bin : Int} {rates : Span} {x0 x1 : Int} {w5 w w1 : Sl (Sl FluxRow)} {k : Nat} {v : FluxRow} (S : Int → Sl (Sl FluxRow) → Sky × Int) (P : Int → Sl (Sl FluxRow) → Bool) (hk : k < 1000)
    (hw : bin.toNat < w.len ∧ k < (w.get bin.toNat).len) (h : Upd bin.toNat k v w w1) :
    ∃ w2, Upd bin.toNat k (lr2 x1 rates.High v) w w2 ∧ s33_at7 S s bin rates x0 x1 w5 (k : Int) w (k : Int) w1 = cond (badR (lr2 x1 rates.High v)) (zsky, 5) (S ((k + 1 : Nat) : Int) w2) ∧
      p33_at7 P s bin rates x0 x1 w5 (k : Int) w (k : Int) w1 = cond (badR (lr2 x1 rates.High v)) true (P ((k + 1 : Nat) : Int) w2) := by
  have e3 : w64 ((k : Int) + 1) = ((k + 1 : Nat) : Int) := by rw [w64_id (by omega) (by omega)]; omega
  have ev := upd_at h
  have hl : (w1.get bin.toNat).len = (w.get bin.toNat).len := (h.2 bin.toNat).1
  have d1 : decide (bin.toNat < w1.len ∧ (k : Int).toNat < (fun i => (w1.get i).len) bin.toNat) = true := decide_eq_true ⟨by rw [h.1]; exact hw.1, by show (k : Int).toNat < (w1.get bin.toNat).len; rw [hl, Int.toNat_natCast]; exact hw.2⟩
  -- the last test
  have h8 : ∀ w2 u, Upd bin.toNat k u w w2 → s33_at8 S s bin rates x0 x1 w5 (k : Int) w1 (k : Int) w2 = cond (badR u) (zsky, 5) (S ((k + 1 : Nat) : Int) w2) ∧ p33_at8 P s bin rates x0 x1 w5 (k : Int) w1 (k : Int) w2 = cond (badR u) true (P ((k + 1 : Nat) : Int) w2) := by
    intro w2 u h2
    have ev2 := upd_at h2
    have hl2 : (w2.get bin.toNat).len = (w.get bin.toNat).len := (h2.2 bin.toNat).1
    have d2 : decide (bin.toNat < w2.len ∧ (k : Int).toNat < (fun i => (w2.get i).len) bin.toNat) = true := decide_eq_true ⟨by rw [h2.1]; exact hw.1, by show (k : Int).toNat < (w2.get bin.toNat).len; rw [hl2, Int.toNat_natCast]; exact hw.2⟩
    unfold s33_at8 p33_at8 badR zsky
    rw [d2, Int.toNat_natCast, ev2, e3]
    exact ⟨rfl, rfl⟩
  unfold s33_at7 p33_at7
  rw [d1, Int.toNat_natCast, ev]
  by_cases hx : x1 = -1
  · have hx1 : (x1 != -1) = false := by simp [hx]
    have e : lr2 x1 rates.High v = v := by unfold lr2; rw [if_neg (fun hh => hh.1 hx)]
    rw [hx1, e]
    exact ⟨w1, h, (h8 w1 v h).1, (h8 w1 v h).2⟩
  have hx1 : (x1 != -1) = true := by simp [hx]
  rw [hx1]
  by_cases hE : v.Energy ≥ x1
  · have e : lr2 x1 rates.High v = ⟨v.Energy, ⟨v.Rate.Low, if rates.High < v.Rate.High then rates.High else v.Rate.High⟩⟩ := by unfold lr2; rw [if_pos ⟨hx, hE⟩]
    rw [decide_eq_true hE, e]
    have hu := upd_set (v := ⟨v.Energy, ⟨v.Rate.Low, if rates.High < v.Rate.High then rates.High else v.Rate.High⟩⟩) h
    exact ⟨_, hu, (h8 _ _ hu).1, (h8 _ _ hu).2⟩
  · have e : lr2 x1 rates.High v = v := by unfold lr2; rw [if_neg (fun hh => hE hh.2)]
    rw [decide_eq_false hE, e]
    exact ⟨w1, h, (h8 w1 v h).1, (h8 w1 v h).2⟩
def LW (s : Sky) (b : Nat) (y rates : Span) (w : Sl (Sl FluxRow)) : Prop := w.len = s.Bins.len ∧ ∀ i, i < s.Bins.len → (w.get i).len = (s.Bins.get i).len ∧ ∀ j, j < (s.Bins.get i).len → (w.get i).get j = if i = b then lrn y rates ((s.Bins.get i).get j) else (s.Bins.get i).get j
def BadAt (s : Sky) (b : Nat) (y rates : Span) : Prop := ∃ j, j < (s.Bins.get b).len ∧ badR (lrn y rates ((s.Bins.get b).get j)) = true
theorem lp6_33 {s : Sky} {bin : Int} {rates y : Span} {w5 : Sl (Sl FluxRow)} (hs : SOk s) (hb : 0 ≤ bin ∧ bin < (s.Bins.len : Int)) (h5 : w5.len = s.Bins.len ∧ ∀ i, i < s.Bins.len → w5.get i = s.Bins.get i) :
    ∀ (m q k : Nat) (w : Sl (Sl FluxRow)), k + m = (s.Bins.get bin.toNat).len → m < q →
      (w.len = s.Bins.len ∧ ∀ i, i < s.Bins.len → (w.get i).len = (s.Bins.get i).len ∧ ∀ j, j < (s.Bins.get i).len → (w.get i).get j = if i = bin.toNat ∧ j < k then lrn y rates ((s.Bins.get i).get j) else (s.Bins.get i).get j) →
      p33_lp6 s bin rates y.Low y.High w5 q (k : Int) w = true ∧
      (((∃ j, k ≤ j ∧ j < (s.Bins.get bin.toNat).len ∧ badR (lrn y rates ((s.Bins.get bin.toNat).get j)) = true) ∧ s33_lp6 s bin rates y.Low y.High w5 q (k : Int) w = (zsky, 5)) ∨
       ((∀ j, k ≤ j → j < (s.Bins.get bin.toNat).len → badR (lrn y rates ((s.Bins.get bin.toNat).get j)) = false) ∧ ∃ W, LW s bin.toNat y rates W ∧ s33_lp6 s bin rates y.Low y.High w5 q (k : Int) w = (⟨s.Parts, W, s.Beta, s.Alpha⟩, 0))) := by
  have hbn : bin.toNat < s.Bins.len := by omega
  have hbk := hs.2 bin.toNat hbn
  have hlen := hbk.1
  intro m
  induction m with
  | zero =>
    intro q k w hk hq hw
    obtain ⟨q, rfl⟩ : ∃ k', q = k' + 1 := ⟨q - 1, by omega⟩
    show p33_st6 s bin rates y.Low y.High w5 (p33_lp6 s bin rates y.Low y.High w5 q) _ _ = true ∧ (_ ∧ s33_st6 s bin rates y.Low y.High w5 (s33_lp6 s bin rates y.Low y.High w5 q) _ _ = _ ∨ _ ∧ ∃ W, _ ∧ s33_st6 s bin rates y.Low y.High w5 (s33_lp6 s bin rates y.Low y.High w5 q) _ _ = _)
    unfold p33_st6 s33_st6
    have e5 : (((fun i => (w5.get i).len) bin.toNat : Nat) : Int) = ((s.Bins.get bin.toNat).len : Int) := by show ((w5.get bin.toNat).len : Int) = _; rw [h5.2 _ hbn]
    rw [e5, decide_eq_false (by omega)]
    refine ⟨rfl, Or.inr ⟨fun j h1 h2 => absurd h2 (by omega), w, ⟨hw.1, fun i hi => ⟨(hw.2 i hi).1, fun j hj => ?_⟩⟩, rfl⟩⟩
    rw [(hw.2 i hi).2 j hj]
    by_cases e : i = bin.toNat
    · rw [if_pos e, if_pos ⟨e, by rw [e] at hj; omega⟩]
    · rw [if_neg e, if_neg fun h => e h.1]
  | succ m ih =>
    intro q k w hk hq hw
    obtain ⟨q, rfl⟩ : ∃ k', q = k' + 1 := ⟨q - 1, by omega⟩
    show p33_st6 s bin rates y.Low y.High w5 (p33_lp6 s bin rates y.Low y.High w5 q) _ _ = true ∧ (_ ∧ s33_st6 s bin rates y.Low y.High w5 (s33_lp6 s bin rates y.Low y.High w5 q) _ _ = _ ∨ _ ∧ ∃ W, _ ∧ s33_st6 s bin rates y.Low y.High w5 (s33_lp6 s bin rates y.Low y.High w5 q) _ _ = _)
    have ihq := fun w => ih q (k + 1) w (by omega) (by omega)
    have hkl : k < (s.Bins.get bin.toNat).len := by omega
    obtain ⟨hwl, hwr⟩ := hw.2 bin.toNat hbn
    have hwk := hwr k hkl
    rw [if_neg (fun h => absurd h.2 (by omega))] at hwk
    have hww : bin.toNat < w.len ∧ k < (w.get bin.toNat).len := ⟨by rw [hw.1]; exact hbn, by rw [hwl]; exact hkl⟩
    -- what follows a row that is set anew
    have fin : ∀ w2, Upd bin.toNat k (lrn y rates ((s.Bins.get bin.toNat).get k)) w w2 → badR (lrn y rates ((s.Bins.get bin.toNat).get k)) = false →
        (w2.len = s.Bins.len ∧ ∀ i, i < s.Bins.len → (w2.get i).len = (s.Bins.get i).len ∧ ∀ j, j < (s.Bins.get i).len → (w2.get i).get j = if i = bin.toNat ∧ j < k + 1 then lrn y rates ((s.Bins.get i).get j) else (s.Bins.get i).get j) := by
      intro w2 hu hb0
      refine ⟨hu.1.trans hw.1, fun i hi => ⟨(hu.2 i).1.trans (hw.2 i hi).1, fun j hj => ?_⟩⟩
      rw [(hu.2 i).2 j, (hw.2 i hi).2 j hj]
      by_cases e : i = bin.toNat
      · subst e
        by_cases e2 : j = k
        · subst e2; rw [if_pos ⟨rfl, rfl⟩, if_pos ⟨rfl, by omega⟩]
        · rw [if_neg (fun h => e2 h.2)]
          by_cases e3 : j < k
          · rw [if_pos ⟨rfl, e3⟩, if_pos ⟨rfl, by omega⟩]
          · rw [if_neg (fun h => e3 h.2), if_neg (fun h => absurd h.2 (by omega))]
      · rw [if_neg (fun h => e h.1), if_neg (fun h => e h.1), if_neg (fun h => e h.1)]
    have key : ∀ w1, Upd bin.toNat k (lr1 y.Low rates.Low ((s.Bins.get bin.toNat).get k)) w w1 →
        p33_at7 (p33_lp6 s bin rates y.Low y.High w5 q) s bin rates y.Low y.High w5 (k : Int) w (k : Int) w1 = true ∧
        (((∃ j, k ≤ j ∧ j < (s.Bins.get bin.toNat).len ∧ badR (lrn y rates ((s.Bins.get bin.toNat).get j)) = true) ∧ s33_at7 (s33_lp6 s bin rates y.Low y.High w5 q) s bin rates y.Low y.High w5 (k : Int) w (k : Int) w1 = (zsky, 5)) ∨
         ((∀ j, k ≤ j → j < (s.Bins.get bin.toNat).len → badR (lrn y rates ((s.Bins.get bin.toNat).get j)) = false) ∧ ∃ W, LW s bin.toNat y rates W ∧ s33_at7 (s33_lp6 s bin rates y.Low y.High w5 q) s bin rates y.Low y.High w5 (k : Int) w (k : Int) w1 = (⟨s.Parts, W, s.Beta, s.Alpha⟩, 0))) := by
      intro w1 hu
      obtain ⟨w2, hu2, r1, r2⟩ := at7_33 (s := s) (bin := bin) (rates := rates) (x0 := y.Low) (x1 := y.High) (w5 := w5) (s33_lp6 s bin rates y.Low y.High w5 q) (p33_lp6 s bin rates y.Low y.High w5 q) (show k < 1000 by omega) hww hu
      have hu2 : Upd bin.toNat k (lrn y rates ((s.Bins.get bin.toNat).get k)) w w2 := hu2
      have eb : badR (lr2 y.High rates.High (lr1 y.Low rates.Low ((s.Bins.get bin.toNat).get k))) = badR (lrn y rates ((s.Bins.get bin.toNat).get k)) := rfl
      rw [r1, r2, eb]
      cases hbd : badR (lrn y rates ((s.Bins.get bin.toNat).get k))
      · obtain ⟨i1, i2⟩ := ihq w2 (fin w2 hu2 hbd)
        refine ⟨i1, ?_⟩
        rcases i2 with ⟨⟨j, j1, j2, j3⟩, i3⟩ | ⟨j1, i3⟩
        · exact Or.inl ⟨⟨j, by omega, j2, j3⟩, i3⟩
        · refine Or.inr ⟨fun j h1 h2 => ?_, i3⟩
          by_cases e : j = k
          · rw [e]; exact hbd
          · exact j1 j (by omega) h2
      · exact ⟨rfl, Or.inl ⟨⟨k, Nat.le_refl _, hkl, hbd⟩, rfl⟩⟩
    unfold p33_st6 s33_st6
    have e5 : (((fun i => (w5.get i).len) bin.toNat : Nat) : Int) = ((s.Bins.get bin.toNat).len : Int) := by show ((w5.get bin.toNat).len : Int) = _; rw [h5.2 _ hbn]
    have ew : (((fun i => (w.get i).len) bin.toNat : Nat) : Int) = ((s.Bins.get bin.toNat).len : Int) := by show ((w.get bin.toNat).len : Int) = _; rw [hwl]
    have d1 : decide (bin.toNat < w.len ∧ (k : Int).toNat < (fun i => (w.get i).len) bin.toNat) = true := decide_eq_true ⟨hww.1, by show (k : Int).toNat < (w.get bin.toNat).len; rw [Int.toNat_natCast]; exact hww.2⟩
    rw [d1, e5, ew, decide_eq_true (show (k : Int) < ((s.Bins.get bin.toNat).len : Int) by omega), decide_eq_true (show 0 ≤ bin ∧ bin < (w.len : Int) by rw [hw.1]; exact hb), decide_eq_true hww.1, decide_eq_true (show bin.toNat < w.len ∧ 0 ≤ (k : Int) ∧ (k : Int) < ((s.Bins.get bin.toNat).len : Int) from ⟨hww.1, by omega, by omega⟩), Int.toNat_natCast, hwk]
    by_cases hE : ((s.Bins.get bin.toNat).get k).Energy ≤ y.Low
    · rw [decide_eq_true hE]
      have e : lr1 y.Low rates.Low ((s.Bins.get bin.toNat).get k) = ⟨((s.Bins.get bin.toNat).get k).Energy, ⟨if rates.Low > ((s.Bins.get bin.toNat).get k).Rate.Low then rates.Low else ((s.Bins.get bin.toNat).get k).Rate.Low, ((s.Bins.get bin.toNat).get k).Rate.High⟩⟩ := by unfold lr1; rw [if_pos hE]
      have hu := upd_set (v := ⟨((s.Bins.get bin.toNat).get k).Energy, ⟨if rates.Low > ((s.Bins.get bin.toNat).get k).Rate.Low then rates.Low else ((s.Bins.get bin.toNat).get k).Rate.Low, ((s.Bins.get bin.toNat).get k).Rate.High⟩⟩) (upd_id bin.toNat k w)
      rw [← e] at hu
      have r := key _ hu
      rw [e] at r
      exact r
    · rw [decide_eq_false hE]
      have e : lr1 y.Low rates.Low ((s.Bins.get bin.toNat).get k) = (s.Bins.get bin.toNat).get k := by unfold lr1; rw [if_neg hE]
      have hu := upd_id bin.toNat k w
      rw [hwk, ← e] at hu
      exact key _ hu
theorem lp4_33 {s : Sky} {bin : Int} {rates y : Span} (hs : SOk s) (hb : 0 ≤ bin ∧ bin < (s.Bins.len : Int)) :
    ∀ (m q i : Nat) (w : Sl (Sl FluxRow)), i + m = s.Bins.len → m < q → w.len = i → (∀ j, j < i → w.get j = s.Bins.get j) →
      p33_lp4 s bin rates s.Bins y.Low y.High q (i : Int) w = true ∧
      ((BadAt s bin.toNat y rates ∧ s33_lp4 s bin rates s.Bins y.Low y.High q (i : Int) w = (zsky, 5)) ∨
       (¬ BadAt s bin.toNat y rates ∧ ∃ W, LW s bin.toNat y rates W ∧ s33_lp4 s bin rates s.Bins y.Low y.High q (i : Int) w = (⟨s.Parts, W, s.Beta, s.Alpha⟩, 0))) := by
  have hlen := hs.1.2.1
  intro m
  induction m with
  | zero =>
    intro q i w hi hq hl hw
    obtain ⟨q, rfl⟩ : ∃ k', q = k' + 1 := ⟨q - 1, by omega⟩
    show p33_st4 s bin rates s.Bins y.Low y.High (p33_lp4 s bin rates s.Bins y.Low y.High q) _ _ = true ∧ (_ ∧ s33_st4 s bin rates s.Bins y.Low y.High (s33_lp4 s bin rates s.Bins y.Low y.High q) _ _ = _ ∨ _ ∧ ∃ W, _ ∧ s33_st4 s bin rates s.Bins y.Low y.High (s33_lp4 s bin rates s.Bins y.Low y.High q) _ _ = _)
    unfold p33_st4 s33_st4
    rw [decide_eq_false (show ¬ (i : Int) < (s.Bins.len : Int) by omega), cond_false, cond_false]
    unfold p33_at5 s33_at5
    have hwl : w.len = s.Bins.len := by omega
    rw [decide_eq_true (show 0 ≤ bin ∧ bin < (w.len : Int) by rw [hwl]; exact hb), decide_eq_true (show bin.toNat < w.len by omega)]
    have h := lp6_33 (rates := rates) (y := y) (w5 := w) hs hb ⟨hwl, fun i hi => hw i (by omega)⟩ (s.Bins.get bin.toNat).len Fuel 0 w (by omega) (by have := (hs.2 bin.toNat (by omega)).1; simp only [Fuel]; omega)
      ⟨hwl, fun i hi => ⟨by rw [hw i (by omega)], fun j hj => by rw [hw i (by omega), if_neg (fun h => absurd h.2 (by omega))]⟩⟩
    refine ⟨by simpa [p33_at6] using h.1, ?_⟩
    rcases h.2 with ⟨⟨j, _, j2, j3⟩, h3⟩ | ⟨j1, h3⟩
    · exact Or.inl ⟨⟨j, j2, j3⟩, h3⟩
    · exact Or.inr ⟨fun ⟨j, j2, j3⟩ => absurd (j3.symm.trans (j1 j (by omega) j2)) (by decide), h3⟩
  | succ m ih =>
    intro q i w hi hq hl hw
    obtain ⟨q, rfl⟩ : ∃ k', q = k' + 1 := ⟨q - 1, by omega⟩
    show p33_st4 s bin rates s.Bins y.Low y.High (p33_lp4 s bin rates s.Bins y.Low y.High q) _ _ = true ∧ (_ ∧ s33_st4 s bin rates s.Bins y.Low y.High (s33_lp4 s bin rates s.Bins y.Low y.High q) _ _ = _ ∨ _ ∧ ∃ W, _ ∧ s33_st4 s bin rates s.Bins y.Low y.High (s33_lp4 s bin rates s.Bins y.Low y.High q) _ _ = _)
    unfold p33_st4 s33_st4
    have e3 : w64 ((i : Int) + 1) = ((i + 1 : Nat) : Int) := by rw [w64_id (by omega) (by omega)]; omega
    have hbl := (hs.2 i (by omega)).1
    rw [decide_eq_true (show (i : Int) < (s.Bins.len : Int) by omega), decide_eq_true (show 0 ≤ (i : Int) ∧ (i : Int) < (s.Bins.len : Int) by omega), Int.toNat_natCast, e3, decide_eq_true (show (s.Bins.get i).len * 24 ≤ 140737488355328 ∧ (s.Bins.get i).len ≤ 9223372036854775807 by omega), decide_eq_true (show (w.len + 1) * 24 ≤ 140737488355328 ∧ w.len + 1 ≤ 9223372036854775807 by omega)]
    have r := ih q (i + 1) ⟨w.len + 1, appT w.len w.get (fun _ => ⟨(s.Bins.get i).len, (s.Bins.get i).get⟩)⟩ (by omega) (by omega) (by show w.len + 1 = i + 1; omega) (fun j hj => by
      show appT w.len w.get (fun _ => ⟨(s.Bins.get i).len, (s.Bins.get i).get⟩) j = _
      unfold appT
      cases e : Nat.ble w.len j
      · have : ¬ w.len ≤ j := fun h => by rw [Nat.ble_eq_true_of_le h] at e; cases e
        exact hw j (by omega)
      · have := Nat.le_of_ble_eq_true e
        have : j = i := by omega
        rw [this])
    exact r
theorem s33_ok (s : Sky) (t : Sl RangeRow) (bin x : Int) (rates : Span) (hs : SL s) (ht : t.len ≤ 9223372036854775807) : p33 s t bin x rates = true ∧
    (¬ (Fine s t bin x ∧ 0 ≤ rates.Low ∧ rates.Low ≤ rates.High ∧ rates.High ≤ s.Parts) → s33 s t bin x rates = (zsky, 2)) ∧
    (Fine s t bin x ∧ 0 ≤ rates.Low ∧ rates.Low ≤ rates.High ∧ rates.High ≤ s.Parts →
      ((BadAt s bin.toNat (thr t x) rates ∧ s33 s t bin x rates = (zsky, 5)) ∨ (¬ BadAt s bin.toNat (thr t x) rates ∧ ∃ W, LW s bin.toNat (thr t x) rates W ∧ s33 s t bin x rates = (⟨s.Parts, W, s.Beta, s.Alpha⟩, 0)))) := by
  obtain ⟨h1, h2⟩ := s65_ok s t bin x hs ht
  unfold p33 s33 p33_at0 s33_at0 p33_at1 s33_at1
  rw [h1, s69_eq]
  by_cases hf : Fine s t bin x
  · rw [h2.2 hf]
    by_cases hr : 0 ≤ rates.Low ∧ rates.Low ≤ rates.High ∧ rates.High ≤ s.Parts
    · rw [decide_eq_true hr]
      unfold p33_at2 s33_at2
      obtain ⟨e1, e2⟩ := s64_eq t x hf.2.1
      rw [e1, e2]
      have r := lp4_33 (rates := rates) (y := thr t x) hf.1 hf.2.2.1 s.Bins.len Fuel 0 ⟨0, (fun _ => ⟨0, fun _ => default⟩)⟩ (by omega) (by have := hf.1.1.2.1; simp only [Fuel]; omega) rfl (fun j h => absurd h (by omega))
      refine ⟨?_, fun h => absurd ⟨hf, hr⟩ h, fun _ => ?_⟩
      · have := r.1
        simpa [p33_at3, p33_at4] using this
      · exact r.2
    · rw [decide_eq_false hr]
      exact ⟨rfl, fun _ => rfl, fun h => absurd h.2 hr⟩
  · have h3 : (s65 s t bin x).2 = false := by
      cases e : (s65 s t bin x).2
      · rfl
      · exact absurd (h2.1 e) hf
    rw [h3]
    exact ⟨rfl, fun _ => rfl, fun h => absurd h.1 hf⟩
end Go.Proofs
namespace Go.Proofs
open Go Go.Pm
set_option linter.unusedVariables false
theorem s41_ok (s : Sky) (hs : SL s) : p41 s = true ∧ s41 s = if s75 s = true then 0 else 2 := by
  unfold p41 s41 s80
  rw [(s75_ok s hs).1]
  cases s75 s <;> exact ⟨rfl, rfl⟩
theorem same_lp3 {a b : Sky} {i : Nat} (hi : i < a.Bins.len) (hl : a.Bins.len = b.Bins.len) (h2 : (a.Bins.get i).len = (b.Bins.get i).len) (h3 : ∀ j, j < (a.Bins.get i).len → (a.Bins.get i).get j = (b.Bins.get i).get j) (hb : (a.Bins.get i).len ≤ 1000 ∧ a.Bins.len ≤ 1000) (S P : Int → Bool) :
    ∀ m q k : Nat, k + m = (a.Bins.get i).len → m < q → s39_lp3 S a b q (i : Int) (k : Int) = S ((i + 1 : Nat) : Int) ∧ p39_lp3 P a b q (i : Int) (k : Int) = P ((i + 1 : Nat) : Int) := by
  have e3 : w64 ((i : Int) + 1) = ((i + 1 : Nat) : Int) := by rw [w64_id (by omega) (by omega)]; omega
  intro m
  induction m with
  | zero =>
    intro q k hk hq
    obtain ⟨q, rfl⟩ : ∃ k', q = k' + 1 := ⟨q - 1, by omega⟩
    show s39_st3 S a b (s39_lp3 S a b q) _ _ = _ ∧ p39_st3 P a b (p39_lp3 P a b q) _ _ = _
    unfold s39_st3 p39_st3
    rw [Int.toNat_natCast, decide_eq_false (show ¬ (k : Int) < ((a.Bins.get i).len : Int) by omega), e3, decide_eq_true (show 0 ≤ (i : Int) ∧ (i : Int) < (a.Bins.len : Int) by omega)]
    exact ⟨rfl, rfl⟩
  | succ m ih =>
    intro q k hk hq
    obtain ⟨q, rfl⟩ : ∃ k', q = k' + 1 := ⟨q - 1, by omega⟩
    show s39_st3 S a b (s39_lp3 S a b q) _ _ = _ ∧ p39_st3 P a b (p39_lp3 P a b q) _ _ = _
    have e4 : w64 ((k : Int) + 1) = ((k + 1 : Nat) : Int) := by rw [w64_id (by omega) (by omega)]; omega
    have r := ih q (k + 1) (by omega) (by omega)
    have hj := h3 k (by omega)
    unfold s39_st3 p39_st3
    rw [Int.toNat_natCast, Int.toNat_natCast, decide_eq_true (show (k : Int) < ((a.Bins.get i).len : Int) by omega), e4, decide_eq_true (show 0 ≤ (i : Int) ∧ (i : Int) < (a.Bins.len : Int) by omega), decide_eq_true (show 0 ≤ (i : Int) ∧ (i : Int) < (b.Bins.len : Int) by omega),
      decide_eq_true (show 0 ≤ (k : Int) ∧ (k : Int) < ((a.Bins.get i).len : Int) by omega), decide_eq_true (show 0 ≤ (k : Int) ∧ (k : Int) < ((b.Bins.get i).len : Int) by omega), hj]
    simp only [beq_self_eq_true, Bool.not_true, cond_false, cond_true, Bool.true_and]
    exact r
theorem same_ok {a b : Sky} (h0 : a.Parts = b.Parts) (h1 : a.Beta = b.Beta) (h2 : a.Alpha = b.Alpha) (hl : a.Bins.len = b.Bins.len) (h3 : ∀ i, i < a.Bins.len → (a.Bins.get i).len = (b.Bins.get i).len ∧ ∀ j, j < (a.Bins.get i).len → (a.Bins.get i).get j = (b.Bins.get i).get j)
    (hb : a.Bins.len ≤ 1000 ∧ ∀ i, i < a.Bins.len → (a.Bins.get i).len ≤ 1000) : p39 a b = true ∧ s39 a b = true := by
  have key : ∀ m q i : Nat, i + m = a.Bins.len → m < q → s39_lp1 a b q (i : Int) = true ∧ p39_lp1 a b q (i : Int) = true := by
    intro m
    induction m with
    | zero =>
      intro q i hi hq
      obtain ⟨q, rfl⟩ : ∃ k', q = k' + 1 := ⟨q - 1, by omega⟩
      show s39_st1 a b (s39_lp1 a b q) _ = _ ∧ p39_st1 a b (p39_lp1 a b q) _ = _
      unfold s39_st1 p39_st1
      rw [decide_eq_false (by omega)]
      exact ⟨rfl, rfl⟩
    | succ m ih =>
      intro q i hi hq
      obtain ⟨q, rfl⟩ : ∃ k', q = k' + 1 := ⟨q - 1, by omega⟩
      show s39_st1 a b (s39_lp1 a b q) _ = _ ∧ p39_st1 a b (p39_lp1 a b q) _ = _
      have hil : i < a.Bins.len := by omega
      obtain ⟨g1, g2⟩ := h3 i hil
      have r := same_lp3 hil hl g1 g2 ⟨hb.2 i hil, hb.1⟩ (s39_lp1 a b q) (p39_lp1 a b q) (a.Bins.get i).len Fuel 0 (by omega) (by have := hb.2 i hil; simp only [Fuel]; omega)
      have r2 := ih q (i + 1) (by omega) (by omega)
      unfold s39_st1 p39_st1
      rw [decide_eq_true (show (i : Int) < (a.Bins.len : Int) by omega), decide_eq_true (show 0 ≤ (i : Int) ∧ (i : Int) < (a.Bins.len : Int) by omega), decide_eq_true (show 0 ≤ (i : Int) ∧ (i : Int) < (b.Bins.len : Int) by omega), Int.toNat_natCast, g1, bne_self_eq_false]
      simp only [cond_true, cond_false, Bool.true_and]
      exact ⟨r.1.trans r2.1, r.2.trans r2.2⟩
  have r := key a.Bins.len Fuel 0 (by omega) (by simp only [Fuel]; omega)
  unfold p39 s39
  rw [h0, h1, h2, hl]
  simp only [beq_self_eq_true, bne_self_eq_false, Bool.not_true, cond_false]
  exact ⟨r.2, r.1⟩
theorem same_z : p39 zsky zsky = true ∧ s39 zsky zsky = true := same_ok rfl rfl rfl rfl (fun i h => absurd h (by show ¬ i < 0; omega)) ⟨by show 0 ≤ 1000; omega, fun i h => absurd h (by show ¬ i < 0; omega)⟩
def UpdL (k : Nat) (v : FluxRow) (w w' : Sl FluxRow) : Prop := w'.len = w.len ∧ ∀ j, w'.get j = if j = k then v else w.get j
theorem updL_id (k : Nat) (w : Sl FluxRow) : UpdL k (w.get k) w w := by
  refine ⟨rfl, fun j => ?_⟩
  split
  · rename_i h; rw [h]
  · rfl
theorem updL_set {k : Nat} {v u : FluxRow} {w w1 : Sl FluxRow} (h : UpdL k u w w1) : UpdL k v w ⟨w1.len, setT k v w1.get⟩ := by
  refine ⟨h.1, fun j => ?_⟩
  show setT k v w1.get j = _
  unfold setT
  cases e : Nat.beq j k
  · have hne : j ≠ k := fun he => by rw [he, Nat.beq_refl] at e; cases e
    rw [if_neg hne]
    have := h.2 j
    rwa [if_neg hne] at this
  · rw [if_pos (Nat.eq_of_beq_eq_true e)]
theorem updL_at {k : Nat} {v : FluxRow} {w w1 : Sl FluxRow} (h : UpdL k v w w1) : w1.get k = v := by
  have := h.2 k
  rwa [if_pos rfl] at this
theorem at3_40 {s : Sky} {bin : Int} {rates : Span} {x0 x1 : Int} {i : Int} {k : Nat} {v : FluxRow} {b d : Sl (Sl FluxRow)} {w w1 : Sl FluxRow} (S1 : Int → Sl (Sl FluxRow) → Sl (Sl FluxRow) → Sky × Bool) (P1 : Int → Sl (Sl FluxRow) → Sl (Sl FluxRow) → Bool)
    (S2 : Int → Int → Sl (Sl FluxRow) → Sl FluxRow → Sl (Sl FluxRow) → Sky × Bool) (P2 : Int → Int → Sl (Sl FluxRow) → Sl FluxRow → Sl (Sl FluxRow) → Bool) (hk : k < 1000) (hw : k < w.len) (h : UpdL k v w w1) :
    ∃ w2, UpdL k (lr2 x1 rates.High v) w w2 ∧ s40_at3 S1 S2 s bin rates x0 x1 i (k : Int) b w1 d = cond (badR (lr2 x1 rates.High v)) (zsky, false) (S2 i ((k + 1 : Nat) : Int) b w2 d) ∧
      p40_at3 P1 P2 s bin rates x0 x1 i (k : Int) b w1 d = cond (badR (lr2 x1 rates.High v)) true (P2 i ((k + 1 : Nat) : Int) b w2 d) := by
  have e3 : w64 ((k : Int) + 1) = ((k + 1 : Nat) : Int) := by rw [w64_id (by omega) (by omega)]; omega
  have ev := updL_at h
  have h8 : ∀ w2 u, UpdL k u w w2 → s40_at4 S1 S2 s bin rates x0 x1 i (k : Int) b w2 d = cond (badR u) (zsky, false) (S2 i ((k + 1 : Nat) : Int) b w2 d) ∧ p40_at4 P1 P2 s bin rates x0 x1 i (k : Int) b w2 d = cond (badR u) true (P2 i ((k + 1 : Nat) : Int) b w2 d) := by
    intro w2 u h2
    have ev2 := updL_at h2
    have hl2 := h2.1
    unfold s40_at4 p40_at4 badR zsky
    rw [hl2, Int.toNat_natCast, decide_eq_true (show 0 ≤ (k : Int) ∧ (k : Int) < (w.len : Int) by omega), decide_eq_true hw, ev2, e3]
    exact ⟨rfl, rfl⟩
  unfold s40_at3 p40_at3
  rw [h.1, Int.toNat_natCast, decide_eq_true (show 0 ≤ (k : Int) ∧ (k : Int) < (w.len : Int) by omega), decide_eq_true hw, ev]
  by_cases hx : x1 = -1
  · have hx1 : (x1 != -1) = false := by simp [hx]
    have e : lr2 x1 rates.High v = v := by unfold lr2; rw [if_neg (fun hh => hh.1 hx)]
    rw [hx1, e]
    exact ⟨w1, h, (h8 w1 v h).1, (h8 w1 v h).2⟩
  have hx1 : (x1 != -1) = true := by simp [hx]
  rw [hx1]
  by_cases hE : v.Energy ≥ x1
  · have e : lr2 x1 rates.High v = ⟨v.Energy, ⟨v.Rate.Low, if rates.High < v.Rate.High then rates.High else v.Rate.High⟩⟩ := by unfold lr2; rw [if_pos ⟨hx, hE⟩]
    rw [decide_eq_true hE, e]
    have hu := updL_set (v := ⟨v.Energy, ⟨v.Rate.Low, if rates.High < v.Rate.High then rates.High else v.Rate.High⟩⟩) h
    rw [h.1] at hu
    exact ⟨_, hu, (h8 _ _ hu).1, (h8 _ _ hu).2⟩
  · have e : lr2 x1 rates.High v = v := by unfold lr2; rw [if_neg (fun hh => hE hh.2)]
    rw [decide_eq_false hE, e]
    exact ⟨w1, h, (h8 w1 v h).1, (h8 w1 v h).2⟩
theorem lp2_40 {s : Sky} {bin : Int} {rates y : Span} {b d : Sl (Sl FluxRow)} (o : Sl FluxRow) (ho : o.len ≤ 1000) (hd : d.len ≤ 1000) (i : Nat) (hi : i ≤ 1000) (hib : (i : Int) = bin) (S1 : Int → Sl (Sl FluxRow) → Sl (Sl FluxRow) → Sky × Bool) (P1 : Int → Sl (Sl FluxRow) → Sl (Sl FluxRow) → Bool) :
    ∀ (m q k : Nat) (w : Sl FluxRow), k + m = o.len → m < q → (w.len = o.len ∧ ∀ j, j < o.len → w.get j = if j < k then lrn y rates (o.get j) else o.get j) →
      (((∃ j, k ≤ j ∧ j < o.len ∧ badR (lrn y rates (o.get j)) = true) ∧ s40_lp2 S1 s bin rates y.Low y.High q (i : Int) (k : Int) b w d = (zsky, false) ∧ p40_lp2 P1 s bin rates y.Low y.High q (i : Int) (k : Int) b w d = true) ∨
       ((∀ j, k ≤ j → j < o.len → badR (lrn y rates (o.get j)) = false) ∧ ∃ v, (v.len = o.len ∧ ∀ j, j < o.len → v.get j = lrn y rates (o.get j)) ∧
         s40_lp2 S1 s bin rates y.Low y.High q (i : Int) (k : Int) b w d = S1 ((i + 1 : Nat) : Int) b ⟨d.len + 1, appT d.len d.get (fun _ => v)⟩ ∧ p40_lp2 P1 s bin rates y.Low y.High q (i : Int) (k : Int) b w d = P1 ((i + 1 : Nat) : Int) b ⟨d.len + 1, appT d.len d.get (fun _ => v)⟩)) := by
  have e4 : w64 ((i : Int) + 1) = ((i + 1 : Nat) : Int) := by rw [w64_id (by omega) (by omega)]; omega
  intro m
  induction m with
  | zero =>
    intro q k w hk hq hw
    obtain ⟨q, rfl⟩ : ∃ k', q = k' + 1 := ⟨q - 1, by omega⟩
    have es : s40_lp2 S1 s bin rates y.Low y.High (q + 1) (i : Int) (k : Int) b w d = s40_st2 S1 s bin rates y.Low y.High (s40_lp2 S1 s bin rates y.Low y.High q) (i : Int) (k : Int) b w d := rfl
    have ep : p40_lp2 P1 s bin rates y.Low y.High (q + 1) (i : Int) (k : Int) b w d = p40_st2 P1 s bin rates y.Low y.High (p40_lp2 P1 s bin rates y.Low y.High q) (i : Int) (k : Int) b w d := rfl
    rw [es, ep]
    unfold s40_st2 p40_st2
    rw [decide_eq_false (show ¬ (k : Int) < (w.len : Int) by omega), e4, decide_eq_true (show (d.len + 1) * 24 ≤ 140737488355328 ∧ d.len + 1 ≤ 9223372036854775807 by omega)]
    exact Or.inr ⟨fun j h1 h2 => absurd h2 (by omega), w, ⟨hw.1, fun j hj => by rw [hw.2 j hj, if_pos (by omega)]⟩, rfl, rfl⟩
  | succ m ih =>
    intro q k w hk hq hw
    obtain ⟨q, rfl⟩ : ∃ k', q = k' + 1 := ⟨q - 1, by omega⟩
    have es : s40_lp2 S1 s bin rates y.Low y.High (q + 1) (i : Int) (k : Int) b w d = s40_st2 S1 s bin rates y.Low y.High (s40_lp2 S1 s bin rates y.Low y.High q) (i : Int) (k : Int) b w d := rfl
    have ep : p40_lp2 P1 s bin rates y.Low y.High (q + 1) (i : Int) (k : Int) b w d = p40_st2 P1 s bin rates y.Low y.High (p40_lp2 P1 s bin rates y.Low y.High q) (i : Int) (k : Int) b w d := rfl
    rw [es, ep]
    have hkl : k < o.len := by omega
    have hwk := hw.2 k hkl
    rw [if_neg (Nat.lt_irrefl _)] at hwk
    have key : ∀ w1, UpdL k (lr1 y.Low rates.Low (o.get k)) w w1 →
        (((∃ j, k ≤ j ∧ j < o.len ∧ badR (lrn y rates (o.get j)) = true) ∧ s40_at3 S1 (s40_lp2 S1 s bin rates y.Low y.High q) s bin rates y.Low y.High (i : Int) (k : Int) b w1 d = (zsky, false) ∧ p40_at3 P1 (p40_lp2 P1 s bin rates y.Low y.High q) s bin rates y.Low y.High (i : Int) (k : Int) b w1 d = true) ∨
         ((∀ j, k ≤ j → j < o.len → badR (lrn y rates (o.get j)) = false) ∧ ∃ v, (v.len = o.len ∧ ∀ j, j < o.len → v.get j = lrn y rates (o.get j)) ∧
           s40_at3 S1 (s40_lp2 S1 s bin rates y.Low y.High q) s bin rates y.Low y.High (i : Int) (k : Int) b w1 d = S1 ((i + 1 : Nat) : Int) b ⟨d.len + 1, appT d.len d.get (fun _ => v)⟩ ∧ p40_at3 P1 (p40_lp2 P1 s bin rates y.Low y.High q) s bin rates y.Low y.High (i : Int) (k : Int) b w1 d = P1 ((i + 1 : Nat) : Int) b ⟨d.len + 1, appT d.len d.get (fun _ => v)⟩)) := by
      intro w1 hu
      obtain ⟨w2, hu2, r1, r2⟩ := at3_40 (s := s) (bin := bin) (rates := rates) (x0 := y.Low) (x1 := y.High) (i := (i : Int)) (b := b) (d := d) S1 P1 (s40_lp2 S1 s bin rates y.Low y.High q) (p40_lp2 P1 s bin rates y.Low y.High q) (show k < 1000 by omega) (show k < w.len by omega) hu
      have hu2 : UpdL k (lrn y rates (o.get k)) w w2 := hu2
      have eb : badR (lr2 y.High rates.High (lr1 y.Low rates.Low (o.get k))) = badR (lrn y rates (o.get k)) := rfl
      rw [r1, r2, eb]
      cases hbd : badR (lrn y rates (o.get k))
      · have i2 := ih q (k + 1) w2 (by omega) (by omega) ⟨hu2.1.trans hw.1, fun j hj => by
          rw [hu2.2 j, hw.2 j hj]
          by_cases e2 : j = k
          · subst e2; rw [if_pos rfl, if_pos (by omega)]
          · rw [if_neg e2]
            by_cases e3 : j < k
            · rw [if_pos e3, if_pos (by omega)]
            · rw [if_neg e3, if_neg (by omega)]⟩
        rcases i2 with ⟨⟨j, j1, j2, j3⟩, i3⟩ | ⟨j1, i3⟩
        · exact Or.inl ⟨⟨j, by omega, j2, j3⟩, i3⟩
        · refine Or.inr ⟨fun j h1 h2 => ?_, i3⟩
          by_cases e : j = k
          · rw [e]; exact hbd
          · exact j1 j (by omega) h2
      · exact Or.inl ⟨⟨k, Nat.le_refl _, hkl, hbd⟩, rfl, rfl⟩
    unfold s40_st2 p40_st2
    rw [decide_eq_true (show (k : Int) < (w.len : Int) by omega), show ((i : Int) == bin) = true by simp [hib], Int.toNat_natCast, decide_eq_true (show 0 ≤ (k : Int) ∧ (k : Int) < (w.len : Int) by omega), decide_eq_true (show k < w.len by omega), hwk]
    by_cases hE : (o.get k).Energy ≤ y.Low
    · rw [decide_eq_true hE]
      have e : lr1 y.Low rates.Low (o.get k) = ⟨(o.get k).Energy, ⟨if rates.Low > (o.get k).Rate.Low then rates.Low else (o.get k).Rate.Low, (o.get k).Rate.High⟩⟩ := by unfold lr1; rw [if_pos hE]
      have hu := updL_set (v := ⟨(o.get k).Energy, ⟨if rates.Low > (o.get k).Rate.Low then rates.Low else (o.get k).Rate.Low, (o.get k).Rate.High⟩⟩) (updL_id k w)
      rw [← e] at hu
      have r := key _ hu
      rw [e] at r
      exact r
    · rw [decide_eq_false hE]
      have e : lr1 y.Low rates.Low (o.get k) = o.get k := by unfold lr1; rw [if_neg hE]
      have hu := updL_id k w
      rw [hwk, ← e] at hu
      exact key _ hu
theorem app_get {d : Sl (Sl FluxRow)} {v : Sl FluxRow} (j : Nat) (hj : j < d.len + 1) : appT d.len d.get (fun _ => v) j = if j = d.len then v else d.get j := by
  unfold appT
  cases e : Nat.ble d.len j
  · have : ¬ d.len ≤ j := fun h => by rw [Nat.ble_eq_true_of_le h] at e; cases e
    rw [if_neg (by omega)]
  · have := Nat.le_of_ble_eq_true e
    rw [if_pos (by omega)]
theorem lp1_40 {s : Sky} {bin : Int} {rates y : Span} (hs : SOk s) (hb : 0 ≤ bin ∧ bin < (s.Bins.len : Int)) :
    ∀ (m q i : Nat) (d : Sl (Sl FluxRow)), i + m = s.Bins.len → m < q → (d.len = i ∧ ∀ a, a < i → (d.get a).len = (s.Bins.get a).len ∧ ∀ j, j < (s.Bins.get a).len → (d.get a).get j = if a = bin.toNat then lrn y rates ((s.Bins.get a).get j) else (s.Bins.get a).get j) →
      (bin.toNat < i → ¬ BadAt s bin.toNat y rates) →
      p40_lp1 s bin rates y.Low y.High q (i : Int) s.Bins d = true ∧
      ((BadAt s bin.toNat y rates ∧ s40_lp1 s bin rates y.Low y.High q (i : Int) s.Bins d = (zsky, false)) ∨
       (¬ BadAt s bin.toNat y rates ∧ ∃ W, LW s bin.toNat y rates W ∧ s40_lp1 s bin rates y.Low y.High q (i : Int) s.Bins d = (⟨s.Parts, W, s.Beta, s.Alpha⟩, true))) := by
  have hlen := hs.1.2.1
  intro m
  induction m with
  | zero =>
    intro q i d hi hq hd hnb
    obtain ⟨q, rfl⟩ : ∃ k', q = k' + 1 := ⟨q - 1, by omega⟩
    have es : s40_lp1 s bin rates y.Low y.High (q + 1) (i : Int) s.Bins d = s40_st1 s bin rates y.Low y.High (s40_lp1 s bin rates y.Low y.High q) (i : Int) s.Bins d := rfl
    have ep : p40_lp1 s bin rates y.Low y.High (q + 1) (i : Int) s.Bins d = p40_st1 s bin rates y.Low y.High (p40_lp1 s bin rates y.Low y.High q) (i : Int) s.Bins d := rfl
    rw [es, ep]
    unfold s40_st1 p40_st1
    rw [decide_eq_false (show ¬ (i : Int) < (s.Bins.len : Int) by omega)]
    exact ⟨rfl, Or.inr ⟨hnb (by omega), d, ⟨by omega, fun a ha => hd.2 a (by omega)⟩, rfl⟩⟩
  | succ m ih =>
    intro q i d hi hq hd hnb
    obtain ⟨q, rfl⟩ : ∃ k', q = k' + 1 := ⟨q - 1, by omega⟩
    have es : s40_lp1 s bin rates y.Low y.High (q + 1) (i : Int) s.Bins d = s40_st1 s bin rates y.Low y.High (s40_lp1 s bin rates y.Low y.High q) (i : Int) s.Bins d := rfl
    have ep : p40_lp1 s bin rates y.Low y.High (q + 1) (i : Int) s.Bins d = p40_st1 s bin rates y.Low y.High (p40_lp1 s bin rates y.Low y.High q) (i : Int) s.Bins d := rfl
    rw [es, ep]
    have hil : i < s.Bins.len := by omega
    have hbl := (hs.2 i hil).1
    unfold s40_st1 p40_st1 s40_at2 p40_at2
    rw [decide_eq_true (show (i : Int) < (s.Bins.len : Int) by omega), decide_eq_true (show 0 ≤ (i : Int) ∧ (i : Int) < (s.Bins.len : Int) by omega), Int.toNat_natCast, decide_eq_true (show (s.Bins.get i).len * 24 ≤ 140737488355328 ∧ (s.Bins.get i).len ≤ 9223372036854775807 by omega)]
    have next : ∀ v, (v.len = (s.Bins.get i).len ∧ ∀ j, j < (s.Bins.get i).len → v.get j = if i = bin.toNat then lrn y rates ((s.Bins.get i).get j) else (s.Bins.get i).get j) → (i = bin.toNat → ¬ BadAt s bin.toNat y rates) →
        p40_lp1 s bin rates y.Low y.High q ((i + 1 : Nat) : Int) s.Bins ⟨d.len + 1, appT d.len d.get (fun _ => v)⟩ = true ∧
        ((BadAt s bin.toNat y rates ∧ s40_lp1 s bin rates y.Low y.High q ((i + 1 : Nat) : Int) s.Bins ⟨d.len + 1, appT d.len d.get (fun _ => v)⟩ = (zsky, false)) ∨
         (¬ BadAt s bin.toNat y rates ∧ ∃ W, LW s bin.toNat y rates W ∧ s40_lp1 s bin rates y.Low y.High q ((i + 1 : Nat) : Int) s.Bins ⟨d.len + 1, appT d.len d.get (fun _ => v)⟩ = (⟨s.Parts, W, s.Beta, s.Alpha⟩, true))) := by
      intro v hv hvb
      refine ih q (i + 1) ⟨d.len + 1, appT d.len d.get (fun _ => v)⟩ (by omega) (by omega) ⟨by show d.len + 1 = i + 1; omega, fun a ha => ?_⟩ (fun h => ?_)
      · show (appT d.len d.get (fun _ => v) a).len = _ ∧ ∀ j, j < _ → (appT d.len d.get (fun _ => v) a).get j = _
        rw [app_get a (by omega)]
        by_cases e : a = d.len
        · rw [if_pos e]
          have : a = i := by omega
          subst this
          exact hv
        · rw [if_neg e]
          exact hd.2 a (by omega)
      · by_cases e : i = bin.toNat
        · exact hvb e
        · exact hnb (by omega)
    obtain ⟨kf, hkf⟩ : ∃ k, Fuel = k + 1 := ⟨Fuel - 1, by simp only [Fuel]⟩
    by_cases hib : i = bin.toNat
    · have h2 := lp2_40 (s := s) (bin := bin) (rates := rates) (y := y) (b := s.Bins) (d := d) (s.Bins.get i) (by omega) (by omega) i (by omega) (by omega) (s40_lp1 s bin rates y.Low y.High q) (p40_lp1 s bin rates y.Low y.High q) (s.Bins.get i).len Fuel 0 (s.Bins.get i) (by omega) (by simp only [Fuel]; omega)
        ⟨rfl, fun j hj => by rw [if_neg (Nat.not_lt_zero _)]⟩
      rcases h2 with ⟨⟨j, _, j2, j3⟩, r1, r2⟩ | ⟨j1, v, hv, r1, r2⟩
      · have hbad : BadAt s bin.toNat y rates := ⟨j, by rw [← hib]; exact j2, by rw [← hib]; exact j3⟩
        refine ⟨?_, Or.inl ⟨hbad, r1⟩⟩
        simp only [cond_true, Bool.true_and]
        exact r2
      · have hnb2 : ¬ BadAt s bin.toNat y rates := fun ⟨j, j2, j3⟩ => by
          rw [← hib] at j2 j3
          rw [j1 j (Nat.zero_le _) j2] at j3; cases j3
        have r := next v ⟨hv.1, fun j hj => by rw [if_pos hib]; exact hv.2 j hj⟩ (fun _ => hnb2)
        simp only [cond_true, Bool.true_and]
        have r1' : s40_lp2 (s40_lp1 s bin rates y.Low y.High q) s bin rates y.Low y.High Fuel (i : Int) 0 s.Bins (s.Bins.get i) d = _ := r1
        have r2' : p40_lp2 (p40_lp1 s bin rates y.Low y.High q) s bin rates y.Low y.High Fuel (i : Int) 0 s.Bins (s.Bins.get i) d = _ := r2
        rw [r1', r2']
        exact r
    · have e4 : w64 ((i : Int) + 1) = ((i + 1 : Nat) : Int) := by rw [w64_id (by omega) (by omega)]; omega
      have hne : ((i : Int) == bin) = false := by simp; omega
      have r := next (s.Bins.get i) ⟨rfl, fun j hj => by rw [if_neg hib]⟩ (fun h => absurd h hib)
      have s2 : s40_lp2 (s40_lp1 s bin rates y.Low y.High q) s bin rates y.Low y.High Fuel (i : Int) 0 s.Bins (s.Bins.get i) d = s40_lp1 s bin rates y.Low y.High q ((i + 1 : Nat) : Int) s.Bins ⟨d.len + 1, appT d.len d.get (fun _ => s.Bins.get i)⟩ := by
        rw [hkf]
        show s40_st2 (s40_lp1 s bin rates y.Low y.High q) s bin rates y.Low y.High (s40_lp2 (s40_lp1 s bin rates y.Low y.High q) s bin rates y.Low y.High kf) (i : Int) 0 s.Bins (s.Bins.get i) d = _
        unfold s40_st2
        rw [hne, e4]
        cases decide ((0 : Int) < ((s.Bins.get i).len : Int)) <;> rfl
      have p2 : p40_lp2 (p40_lp1 s bin rates y.Low y.High q) s bin rates y.Low y.High Fuel (i : Int) 0 s.Bins (s.Bins.get i) d = p40_lp1 s bin rates y.Low y.High q ((i + 1 : Nat) : Int) s.Bins ⟨d.len + 1, appT d.len d.get (fun _ => s.Bins.get i)⟩ := by
        rw [hkf]
        show p40_st2 (p40_lp1 s bin rates y.Low y.High q) s bin rates y.Low y.High (p40_lp2 (p40_lp1 s bin rates y.Low y.High q) s bin rates y.Low y.High kf) (i : Int) 0 s.Bins (s.Bins.get i) d = _
        unfold p40_st2
        rw [hne, e4, decide_eq_true (show (d.len + 1) * 24 ≤ 140737488355328 ∧ d.len + 1 ≤ 9223372036854775807 by omega)]
        cases decide ((0 : Int) < ((s.Bins.get i).len : Int)) <;> rfl
      simp only [cond_true, Bool.true_and]
      rw [s2, p2]
      exact r
theorem s40_ok (s : Sky) (t : Sl RangeRow) (bin x : Int) (rates : Span) (hf : Fine s t bin x) : p40 s t bin x rates = true ∧
    ((BadAt s bin.toNat (thr t x) rates ∧ s40 s t bin x rates = (zsky, false)) ∨ (¬ BadAt s bin.toNat (thr t x) rates ∧ ∃ W, LW s bin.toNat (thr t x) rates W ∧ s40 s t bin x rates = (⟨s.Parts, W, s.Beta, s.Alpha⟩, true))) := by
  obtain ⟨e1, e2⟩ := s49_eq t x hf.2.1
  have r := lp1_40 (rates := rates) (y := thr t x) hf.1 hf.2.2.1 s.Bins.len Fuel 0 ⟨0, fun _ => default⟩ (by omega) (by have := hf.1.1.2.1; simp only [Fuel]; omega) ⟨rfl, fun a h => absurd h (by omega)⟩ (fun h => absurd h (by omega))
  unfold p40 s40 p40_at0 s40_at0 p40_at1 s40_at1
  rw [e1, e2]
  simp only [decide_true, Bool.true_and]
  exact r
theorem lrn_b {y rates : Span} (r : FluxRow) : (lrn y rates r).Energy = r.Energy ∧ r.Rate.Low ≤ (lrn y rates r).Rate.Low ∧ (lrn y rates r).Rate.High ≤ r.Rate.High := by
  have a : (lr1 y.Low rates.Low r).Energy = r.Energy ∧ r.Rate.Low ≤ (lr1 y.Low rates.Low r).Rate.Low ∧ (lr1 y.Low rates.Low r).Rate.High = r.Rate.High := by
    unfold lr1
    by_cases h : r.Energy ≤ y.Low
    · rw [if_pos h]
      refine ⟨rfl, ?_, rfl⟩
      show r.Rate.Low ≤ (if rates.Low > r.Rate.Low then rates.Low else r.Rate.Low)
      split <;> omega
    · rw [if_neg h]; exact ⟨rfl, Int.le_refl _, rfl⟩
  unfold lrn
  generalize lr1 y.Low rates.Low r = r1 at a
  obtain ⟨a1, a2, a3⟩ := a
  unfold lr2
  by_cases h : y.High ≠ -1 ∧ r1.Energy ≥ y.High
  · rw [if_pos h]
    refine ⟨a1, a2, ?_⟩
    show (if rates.High < r1.Rate.High then rates.High else r1.Rate.High) ≤ _
    split <;> omega
  · rw [if_neg h]; exact ⟨a1, a2, by omega⟩
theorem lrn_low {y rates : Span} (r : FluxRow) : (lrn y rates r).Rate.Low = if r.Energy ≤ y.Low then (if rates.Low > r.Rate.Low then rates.Low else r.Rate.Low) else r.Rate.Low := by
  unfold lrn lr2 lr1
  by_cases a : r.Energy ≤ y.Low
  · rw [if_pos a, if_pos a]
    by_cases c : y.High ≠ -1 ∧ r.Energy ≥ y.High
    · rw [if_pos c]
    · rw [if_neg c]
  · rw [if_neg a, if_neg a]
    by_cases c : y.High ≠ -1 ∧ r.Energy ≥ y.High
    · rw [if_pos c]
    · rw [if_neg c]
theorem lrn_high {y rates : Span} (r : FluxRow) : (lrn y rates r).Rate.High = if y.High ≠ -1 ∧ r.Energy ≥ y.High then (if rates.High < r.Rate.High then rates.High else r.Rate.High) else r.Rate.High := by
  unfold lrn lr2 lr1
  by_cases a : r.Energy ≤ y.Low
  · rw [if_pos a]
    by_cases c : y.High ≠ -1 ∧ r.Energy ≥ y.High
    · rw [if_pos c, if_pos c]
    · rw [if_neg c, if_neg c]
  · rw [if_neg a]
    by_cases c : y.High ≠ -1 ∧ r.Energy ≥ y.High
    · rw [if_pos c, if_pos c]
    · rw [if_neg c, if_neg c]
theorem lw_ok {s : Sky} {b : Nat} {y rates : Span} {W : Sl (Sl FluxRow)} (hs : SOk s) (hb : b < s.Bins.len) (hr : 0 ≤ rates.Low ∧ rates.Low ≤ rates.High ∧ rates.High ≤ s.Parts) (hn : ¬ BadAt s b y rates) (hW : LW s b y rates W) : SOk ⟨s.Parts, W, s.Beta, s.Alpha⟩ := by
  refine ⟨⟨hs.1.1, by show 1 ≤ (W.len : Int) ∧ (W.len : Int) ≤ 20; rw [hW.1]; exact hs.1.2.1, hs.1.2.2⟩, fun i hi => ?_⟩
  have hi : i < s.Bins.len := by have : i < W.len := hi; rwa [hW.1] at this
  show BOk s.Parts (W.get i)
  obtain ⟨h1, h2⟩ := hW.2 i hi
  have hB := hs.2 i hi
  by_cases e : i = b
  · have h2 : ∀ j, j < (s.Bins.get i).len → (W.get i).get j = lrn y rates ((s.Bins.get i).get j) := fun j hj => by rw [h2 j hj, if_pos e]
    have hlen := hB.1
    have hE : ∀ r : FluxRow, (lrn y rates r).Energy = r.Energy := fun r => (lrn_b r).1
    have hnb : ∀ j, j < (s.Bins.get i).len → (lrn y rates ((s.Bins.get i).get j)).Rate.Low ≤ (lrn y rates ((s.Bins.get i).get j)).Rate.High := fun j hj => by
      cases hc : badR (lrn y rates ((s.Bins.get i).get j))
      · have := of_decide_eq_false hc; omega
      · exact absurd ⟨j, by rw [← e]; exact hj, by rw [← e]; exact hc⟩ hn
    refine ⟨by rw [h1]; exact hB.1, by rw [h2 0 (by omega), hE]; exact hB.2.1, fun j hj => ?_⟩
    rw [h1] at hj
    obtain ⟨r1, r2, r3⟩ := hB.2.2 j hj
    have hnj := hnb j hj
    have eL := lrn_low (y := y) (rates := rates) ((s.Bins.get i).get j)
    have eH := lrn_high (y := y) (rates := rates) ((s.Bins.get i).get j)
    unfold BRow
    rw [h2 j hj, hE]
    refine ⟨r1, ⟨?_, hnj, ?_⟩, ?_⟩
    · rw [eL]; split
      · split <;> omega
      · omega
    · rw [eH]; split
      · split <;> omega
      · omega
    · rcases r3 with r3 | ⟨r3, r4, r5⟩
      · exact Or.inl r3
      · refine Or.inr ?_
        have hj0 : 0 < j ∨ j = 0 := by omega
        rcases hj0 with hj0 | hj0
        · rw [h2 (j - 1) (by omega), hE]
          refine ⟨r3, ?_, ?_⟩
          · rw [eL, lrn_low]
            by_cases a : ((s.Bins.get i).get j).Energy ≤ y.Low
            · rw [if_pos a, if_pos (show ((s.Bins.get i).get (j - 1)).Energy ≤ y.Low by omega)]
              split <;> split <;> omega
            · rw [if_neg a]
              split
              · split <;> omega
              · exact r4
          · rw [eH, lrn_high]
            by_cases a : y.High ≠ -1 ∧ ((s.Bins.get i).get (j - 1)).Energy ≥ y.High
            · rw [if_pos a, if_pos (show y.High ≠ -1 ∧ ((s.Bins.get i).get j).Energy ≥ y.High from ⟨a.1, by omega⟩)]
              split <;> split <;> omega
            · rw [if_neg a]
              split
              · split <;> omega
              · exact r5
        · subst hj0
          rw [show 0 - 1 = 0 from rfl] at r3
          omega
  · have h2 : ∀ j, j < (s.Bins.get i).len → (W.get i).get j = (s.Bins.get i).get j := fun j hj => by rw [h2 j hj, if_neg e]
    have hlen := hB.1
    refine ⟨by rw [h1]; exact hB.1, by rw [h2 0 (by omega)]; exact hB.2.1, fun j hj => ?_⟩
    rw [h1] at hj
    have r := hB.2.2 j hj
    unfold BRow at r ⊢
    rw [h2 j hj, h2 (j - 1) (by omega)]
    exact r
theorem fst_eq {c d : Nat → Bool} {n : Nat} (h : ∀ i, i < n → c i = d i) : fst c n = fst d n := by
  have hl := fst_le d n
  exact fst_uniq hl (fun j hj => by rw [h j (by omega)]; exact fst_lo hj) (fun hh => by rw [h _ hh]; exact fst_hi hh)
theorem lw_exp {s : Sky} {t : Sl RangeRow} {bin x : Int} {rates : Span} {W : Sl (Sl FluxRow)} (hf : Fine s t bin x) (hW : LW s bin.toNat (thr t x) rates W) :
    (expd s t bin x).Low ≤ (expd ⟨s.Parts, W, s.Beta, s.Alpha⟩ t bin x).Low ∧ (expd ⟨s.Parts, W, s.Beta, s.Alpha⟩ t bin x).High ≤ (expd s t bin x).High := by
  have hbn : bin.toNat < s.Bins.len := by have := hf.2.2.1; omega
  obtain ⟨h1, h2⟩ := hW.2 _ hbn
  have h2 : ∀ j, j < (s.Bins.get bin.toNat).len → (W.get bin.toNat).get j = lrn (thr t x) rates ((s.Bins.get bin.toNat).get j) := fun j hj => by rw [h2 j hj, if_pos rfl]
  have hlen := hf.b.1
  show (abv (s.Bins.get bin.toNat) (thr t x)).Low ≤ (abv (W.get bin.toNat) (thr t x)).Low ∧ (abv (W.get bin.toNat) (thr t x)).High ≤ (abv (s.Bins.get bin.toNat) (thr t x)).High
  generalize hy : thr t x = y at *
  generalize s.Bins.get bin.toNat = l at *
  generalize W.get bin.toNat = v at *
  have e1 : jL v y.Low = jL l y.Low := by
    unfold jL; rw [h1]
    exact fst_eq fun i hi => by rw [h2 i hi, (lrn_b _).1]
  have e2 : jH v y.High = jH l y.High := by
    unfold jH; rw [h1]
    exact fst_eq fun i hi => by rw [h2 i hi, (lrn_b _).1]
  have b1 : jL l y.Low ≤ l.len := fst_le _ _
  constructor
  · show abvL l y.High ≤ abvL v y.High
    unfold abvL
    rw [e2, h1]
    by_cases hn : y.High = -1
    · rw [if_pos hn, if_pos hn]; exact Int.le_refl _
    rw [if_neg hn, if_neg hn]
    by_cases hl : jH l y.High < l.len
    · rw [if_pos hl, if_pos hl, h2 _ hl]; exact (lrn_b _).2.1
    · rw [if_neg hl, if_neg hl]; exact Int.le_refl _
  · show abvH v y.Low ≤ abvH l y.Low
    unfold abvH
    rw [e1]
    by_cases hl : 0 < jL l y.Low
    · rw [if_pos hl, if_pos hl, h2 _ (by omega)]; exact (lrn_b _).2.2
    · rw [if_neg hl, if_neg hl, h2 0 (by omega)]; exact (lrn_b _).2.2
theorem law10 (s : Sky) (t : Sl RangeRow) (bin x : Int) (rates : Span) (hs : SL s) (ht : t.len ≤ 9223372036854775807) : p10 s t bin x rates = true ∧ s10 s t bin x rates = true := by
  unfold p10 s10 p10_at0 s10_at0
  rw [s15_p s t hs]
  cases s15 s t
  · exact ⟨rfl, rfl⟩
  obtain ⟨a1, a2, a3⟩ := s33_ok s t bin x rates hs ht
  obtain ⟨c1, c2⟩ := s16_ok s hs
  obtain ⟨d1, d2⟩ := s17_ok t ht
  obtain ⟨_, e1⟩ := s75_ok s hs
  obtain ⟨_, e2⟩ := s62_ok t ht
  have ez : (⟨(0:Int), (⟨0, fun _ => default⟩ : (Sl (Sl FluxRow))), (⟨(0:Int), (0:Int)⟩ : Span), (⟨(0:Int), (0:Int)⟩ : Span)⟩ : Sky) = zsky := rfl
  have bad : ¬ (Fine s t bin x ∧ 0 ≤ rates.Low ∧ rates.Low ≤ rates.High ∧ rates.High ≤ s.Parts) →
      p10_at3 s t bin x rates (s33 s t bin x rates).2 (s33 s t bin x rates).1.Parts (s33 s t bin x rates).1.Bins (s33 s t bin x rates).1.Beta.Low (s33 s t bin x rates).1.Beta.High (s33 s t bin x rates).1.Alpha.Low (s33 s t bin x rates).1.Alpha.High true s.Bins = true ∧
      s10_at3 s t bin x rates (s33 s t bin x rates).2 (s33 s t bin x rates).1.Parts (s33 s t bin x rates).1.Bins (s33 s t bin x rates).1.Beta.Low (s33 s t bin x rates).1.Beta.High (s33 s t bin x rates).1.Alpha.Low (s33 s t bin x rates).1.Alpha.High true s.Bins = true := by
    intro h
    rw [a2 h]
    unfold p10_at3 s10_at3
    rw [ez, show (⟨(zsky, (2 : Int)).1.Parts, (zsky, (2 : Int)).1.Bins, ⟨(zsky, (2 : Int)).1.Beta.Low, (zsky, (2 : Int)).1.Beta.High⟩, ⟨(zsky, (2 : Int)).1.Alpha.Low, (zsky, (2 : Int)).1.Alpha.High⟩⟩ : Sky) = zsky from rfl, same_z.1, same_z.2]
    exact ⟨rfl, rfl⟩
  have main : p10_at2 s t bin x rates (s33 s t bin x rates).2 s.Bins (s33 s t bin x rates).1.Parts (s33 s t bin x rates).1.Bins (s33 s t bin x rates).1.Beta.Low (s33 s t bin x rates).1.Beta.High (s33 s t bin x rates).1.Alpha.Low (s33 s t bin x rates).1.Alpha.High = true ∧
      s10_at2 s t bin x rates (s33 s t bin x rates).2 s.Bins (s33 s t bin x rates).1.Parts (s33 s t bin x rates).1.Bins (s33 s t bin x rates).1.Beta.Low (s33 s t bin x rates).1.Beta.High (s33 s t bin x rates).1.Alpha.Low (s33 s t bin x rates).1.Alpha.High = true := by
    unfold p10_at2 s10_at2
    rw [show (⟨s.Parts, s.Bins, s.Beta, s.Alpha⟩ : Sky) = s from rfl, c1, c2, d1, d2, s29_eq]
    cases h1 : s75 s
    · have hno : ¬ SOk s := fun h => absurd (e1.2 h) (by rw [h1]; exact Bool.false_ne_true)
      have r := bad fun h => hno h.1.1
      exact ⟨r.1, r.2⟩
    cases h2 : s62 t
    · have hno : ¬ TOk t := fun h => absurd (e2.2 h) (by rw [h2]; exact Bool.false_ne_true)
      have r := bad fun h => hno h.1.2.1
      exact ⟨r.1, r.2⟩
    by_cases h3 : bin < 0
    · have r := bad fun h => by have := h.1.2.2.1; omega
      rw [decide_eq_true h3]; exact ⟨r.1, r.2⟩
    by_cases h4 : bin ≥ (s.Bins.len : Int)
    · have r := bad fun h => by have := h.1.2.2.1; omega
      rw [decide_eq_false h3, decide_eq_true h4]; exact ⟨r.1, r.2⟩
    by_cases h5 : x < 0
    · have r := bad fun h => by have := h.1.2.2.2; omega
      rw [decide_eq_false h3, decide_eq_false h4, decide_eq_true h5]; exact ⟨r.1, r.2⟩
    by_cases h6 : x > 1000000
    · have r := bad fun h => by have := h.1.2.2.2; omega
      rw [decide_eq_false h3, decide_eq_false h4, decide_eq_false h5, decide_eq_true h6]; exact ⟨r.1, r.2⟩
    rw [decide_eq_false h3, decide_eq_false h4, decide_eq_false h5, decide_eq_false h6]
    by_cases h7 : ¬ (0 ≤ rates.Low ∧ rates.Low ≤ rates.High ∧ rates.High ≤ s.Parts)
    · have r := bad fun h => h7 h.2
      rw [decide_eq_false h7]; exact ⟨r.1, r.2⟩
    have h7 := Decidable.of_not_not h7
    rw [decide_eq_true h7]
    have hf : Fine s t bin x := ⟨e1.1 h1, e2.1 h2, ⟨by omega, by omega⟩, ⟨by omega, by omega⟩⟩
    have hbn : bin.toNat < s.Bins.len := by omega
    obtain ⟨g1, g2⟩ := s40_ok s t bin x rates hf
    have r : p10_at4 s t bin x rates (s33 s t bin x rates).2 (s33 s t bin x rates).1.Parts (s33 s t bin x rates).1.Bins (s33 s t bin x rates).1.Beta.Low (s33 s t bin x rates).1.Beta.High (s33 s t bin x rates).1.Alpha.Low (s33 s t bin x rates).1.Alpha.High s.Bins = true ∧
        s10_at4 s t bin x rates (s33 s t bin x rates).2 (s33 s t bin x rates).1.Parts (s33 s t bin x rates).1.Bins (s33 s t bin x rates).1.Beta.Low (s33 s t bin x rates).1.Beta.High (s33 s t bin x rates).1.Alpha.Low (s33 s t bin x rates).1.Alpha.High s.Bins = true := by
      unfold p10_at4 s10_at4 p10_at5 s10_at5
      rw [show (⟨s.Parts, s.Bins, s.Beta, s.Alpha⟩ : Sky) = s from rfl, g1, ez]
      rcases a3 ⟨hf, h7⟩ with ⟨b1, b2⟩ | ⟨b1, W, hW, b2⟩
      · rcases g2 with ⟨_, g3⟩ | ⟨g3, _⟩
        · rw [b2, g3, show (⟨(zsky, (5 : Int)).1.Parts, (zsky, (5 : Int)).1.Bins, ⟨(zsky, (5 : Int)).1.Beta.Low, (zsky, (5 : Int)).1.Beta.High⟩, ⟨(zsky, (5 : Int)).1.Alpha.Low, (zsky, (5 : Int)).1.Alpha.High⟩⟩ : Sky) = zsky from rfl, same_z.1, same_z.2]
          exact ⟨rfl, rfl⟩
        · exact absurd b1 g3
      · rcases g2 with ⟨g3, _⟩ | ⟨_, V, hV, g3⟩
        · exact absurd g3 b1
        · have hX := lw_ok hf.1 hbn h7 b1 hW
          have hXl : SL ⟨s.Parts, W, s.Beta, s.Alpha⟩ := ⟨by show W.len ≤ _; rw [hW.1]; exact hs.1, fun i hi => by
            have hi : i < W.len := hi
            rw [hW.1] at hi
            show (W.get i).len ≤ _
            rw [(hW.2 i hi).1]; exact hs.2 i hi⟩
          have hsame : p39 ⟨s.Parts, W, s.Beta, s.Alpha⟩ ⟨s.Parts, V, s.Beta, s.Alpha⟩ = true ∧ s39 ⟨s.Parts, W, s.Beta, s.Alpha⟩ ⟨s.Parts, V, s.Beta, s.Alpha⟩ = true := by
            refine same_ok rfl rfl rfl (by show W.len = V.len; rw [hW.1, hV.1]) (fun i hi => ?_) ⟨?_, fun i hi => ?_⟩
            · have hi : i < s.Bins.len := by have : i < W.len := hi; rwa [hW.1] at this
              show (W.get i).len = (V.get i).len ∧ ∀ j, j < (W.get i).len → (W.get i).get j = (V.get i).get j
              rw [(hW.2 i hi).1, (hV.2 i hi).1]
              exact ⟨rfl, fun j hj => by rw [(hW.2 i hi).2 j hj, (hV.2 i hi).2 j hj]⟩
            · show W.len ≤ 1000
              have := hf.1.1.2.1
              rw [hW.1]; omega
            · have hi : i < s.Bins.len := by have : i < W.len := hi; rwa [hW.1] at this
              show (W.get i).len ≤ 1000
              have := (hf.1.2 i hi).1
              rw [(hW.2 i hi).1]; omega
          have hfX : Fine ⟨s.Parts, W, s.Beta, s.Alpha⟩ t bin x := ⟨hX, hf.2.1, by show 0 ≤ bin ∧ bin < (W.len : Int); rw [hW.1]; exact hf.2.2.1, hf.2.2.2⟩
          obtain ⟨k1, k2⟩ := s41_ok _ hXl
          rw [(s75_ok _ hXl).2.2 hX] at k2
          obtain ⟨u1, u2, _⟩ := s20_ok s t bin x hs ht
          obtain ⟨v1, v2, _⟩ := s20_ok ⟨s.Parts, W, s.Beta, s.Alpha⟩ t bin x hXl ht
          obtain ⟨z1, z2⟩ := lw_exp hf hW
          rw [b2, g3]
          simp only [decide_true, Bool.true_and, Bool.not_true, cond_false]
          unfold p10_at6 s10_at6 p10_at7 s10_at7 p10_at8 s10_at8 p10_at9 s10_at9 s10_at10
          rw [show (⟨s.Parts, s.Bins, s.Beta, s.Alpha⟩ : Sky) = s from rfl, show (⟨s.Parts, W, ⟨s.Beta.Low, s.Beta.High⟩, ⟨s.Alpha.Low, s.Alpha.High⟩⟩ : Sky) = ⟨s.Parts, W, s.Beta, s.Alpha⟩ from rfl, show (⟨s.Parts, V, ⟨s.Beta.Low, s.Beta.High⟩, ⟨s.Alpha.Low, s.Alpha.High⟩⟩ : Sky) = ⟨s.Parts, V, s.Beta, s.Alpha⟩ from rfl, hsame.1, hsame.2, k1, k2, u1, v1, u2 hf, v2 hfX]
          simp [z1, z2]
    exact ⟨r.1, r.2⟩
  unfold p10_at1 s10_at1
  rw [show (⟨s.Parts, s.Bins, s.Beta, s.Alpha⟩ : Sky) = s from rfl, a1]
  exact ⟨main.1, main.2⟩
end Go.Proofs
