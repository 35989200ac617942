/- Part 6 of what the proof rests on: a machine that runs functions of the program on pure values, proved sound; the functions that the law reaches, and what they compute. -/
import Derived.Test.YtpjoicpmbdaniaaQ5
set_option linter.all false
namespace Go.Proofs
open Go Go.Pm
set_option maxRecDepth 100000
set_option linter.unusedVariables false
attribute [local irreducible] Go.Pm.vcFun Go.Pm.vc Go.Pm.vcIter
-- 9 overburdenlaw05.FluxWeather
abbrev T9 : Tabs := ((((((((((((Tabs.nil.addF 15 ctr15).addF 16 ctr16).addF 17 ctr17).addF 18 ctr18).addF 20 ctr20).addF 22 ctr22).addF 23 ctr23).addF 34 ctr34).addF 35 ctr35).addF 36 ctr36).addF 37 ctr37).addF 38 ctr38)
theorem okT9 : TabsOk Try.prog T9 := ((((((((((((TabsOk.nil.addF ok15).addF ok16).addF ok17).addF ok18).addF ok20).addF ok22).addF ok23).addF ok34).addF ok35).addF ok36).addF ok37).addF ok38)
abbrev G9 : Ctrs := csm T9 (fun _ _ => []) (fun _ => false)
def ann9 : Ann := ⟨160, [(0, ⟨[1, 2, 3, 5, 6, 10], [6, 10], [], [], []⟩), (1, ⟨[1, 2, 3, 5, 6, 10, 29], [6, 10], [], [], []⟩), (2, ⟨[12], [], [], [], []⟩), (3, ⟨[1, 2, 3, 5, 6, 10, 13, 14], [6, 10, 13], [], [], []⟩), (4, ⟨[1, 2, 3, 5, 6, 10, 13, 14, 44], [6, 10, 13], [], [], []⟩), (5, ⟨[1, 2, 3, 5, 6, 51], [6], [], [], []⟩), (6, ⟨[12], [], [], [], []⟩), (7, ⟨[1, 2, 3, 5, 6, 60], [6], [], [], []⟩), (8, ⟨[12], [], [], [], []⟩), (9, ⟨[1, 2, 3, 5, 6, 15, 16], [6, 15], [], [], []⟩), (10, ⟨[1, 2, 3, 5, 6, 15, 16, 101], [6, 15], [], [], []⟩), (11, ⟨[12], [], [], [], []⟩), (12, ⟨[1, 2, 3, 5, 6, 123], [6], [], [], []⟩), (13, ⟨[12], [], [], [], []⟩), (14, ⟨[1, 2, 3, 6, 17, 18], [6, 17], [], [], []⟩), (15, ⟨[17, 18, 19, 20], [17, 19], [], [], []⟩), (16, ⟨[12], [], [], [], []⟩)],
  [],
  [(2, ⟨[1, 2, 3, 5, 6, 10, 29], [6, 10], [], [], []⟩), (3, ⟨[1, 2, 3, 5, 6, 10], [6, 10], [], [], []⟩), (4, ⟨[1, 2, 3, 5, 6, 10, 13, 14], [6, 10, 13], [], [], []⟩), (5, ⟨[1, 2, 3, 5, 6, 10, 13, 14, 44], [6, 10, 13], [], [], []⟩), (9, ⟨[1, 2, 3, 5, 6], [6], [], [], []⟩), (8, ⟨[1, 2, 3, 5, 6, 60], [6], [], [], []⟩), (10, ⟨[1, 2, 3, 5, 6, 15, 16], [6, 15], [], [], []⟩), (11, ⟨[1, 2, 3, 5, 6, 15, 16, 101], [6, 15], [], [], []⟩), (12, ⟨[1, 2, 3, 5, 6, 15, 16], [6, 15], [], [], []⟩), (13, ⟨[1, 2, 3, 5, 6, 123], [6], [], [], []⟩), (14, ⟨[1, 2, 3, 5, 6], [6], [], [], []⟩), (15, ⟨[1, 2, 3, 6, 17, 18], [6, 17], [], [], []⟩), (16, ⟨[17, 18, 19, 20], [17, 19], [], [], []⟩)],
  [], []⟩
def f9_g0 (s : Sky) (t : (Sl RangeRow)) (bin : Int) (opacity : Int) (w : Weather) (l_a5 : (Sl Spell)) (t29v0 : Bool) (s_1v0_n : Nat) (s_1v0_g : Nat → List PV) : St := ⟨[(1, .one (.c (.p (.sl t.len 3 (fun i => enc_42 (t.get i)))))), (2, .one (.c (.p (.int .i64 bin)))), (3, .one (.c (.p (.int .i64 opacity)))), (5, .one (.c (.p (.sl l_a5.len 5 (fun i => enc_56 (l_a5.get i)))))), (6, .one (.c (.ptr 6 0))), (10, .one (.c (.ptr 10 0))), (29, .one (.c (.p (.bool t29v0))))], [(6, .box 26 [.p (.int .i64 s.Parts), .p (.sl s_1v0_n 1 s_1v0_g), .p (.int .i64 s.Beta.Low), .p (.int .i64 s.Beta.High), .p (.int .i64 s.Alpha.Low), .p (.int .i64 s.Alpha.High)]), (10, .box 54 [.p (.int .i64 w.Pressure.Low), .p (.int .i64 w.Pressure.High), .p (.int .i64 w.Warm.Low), .p (.int .i64 w.Warm.High)])], []⟩
def f9_at0 (K : List PA → Prop) (s : Sky) (t : (Sl RangeRow)) (bin : Int) (opacity : Int) (w : Weather) (l_a5 : (Sl Spell)) (t29v0 : Bool) (s_1v0_n : Nat) (s_1v0_g : Nat → List PV) : Prop := vc Try.prog G9 ann9 (cdF Try.f9 [1, 0, 1]) (sqK Try.prog G9 ann9 (cdF Try.f9 [1, 1]) (bodyK Try.prog Try.f9 K)) (f9_g0 s t bin opacity w l_a5 t29v0 s_1v0_n s_1v0_g)
def f9_g1 (s : Sky) (t : (Sl RangeRow)) (bin : Int) (opacity : Int) (w : Weather) (l_a5 : (Sl Spell)) (s_1v1_n : Nat) (s_1v1_g : Nat → List PV) : St := ⟨[(1, .one (.c (.p (.sl t.len 3 (fun i => enc_42 (t.get i)))))), (2, .one (.c (.p (.int .i64 bin)))), (3, .one (.c (.p (.int .i64 opacity)))), (5, .one (.c (.p (.sl l_a5.len 5 (fun i => enc_56 (l_a5.get i)))))), (6, .one (.c (.ptr 6 0))), (10, .one (.c (.ptr 10 0)))], [(6, .box 26 [.p (.int .i64 s.Parts), .p (.sl s_1v1_n 1 s_1v1_g), .p (.int .i64 s.Beta.Low), .p (.int .i64 s.Beta.High), .p (.int .i64 s.Alpha.Low), .p (.int .i64 s.Alpha.High)]), (10, .box 54 [.p (.int .i64 w.Pressure.Low), .p (.int .i64 w.Pressure.High), .p (.int .i64 w.Warm.Low), .p (.int .i64 w.Warm.High)])], []⟩
def f9_at1 (K : List PA → Prop) (s : Sky) (t : (Sl RangeRow)) (bin : Int) (opacity : Int) (w : Weather) (l_a5 : (Sl Spell)) (s_1v1_n : Nat) (s_1v1_g : Nat → List PV) : Prop := vc Try.prog G9 ann9 (cdF Try.f9 [1, 1]) (bodyK Try.prog Try.f9 K) (f9_g1 s t bin opacity w l_a5 s_1v1_n s_1v1_g)
def f9_g2 (s : Sky) (t : (Sl RangeRow)) (bin : Int) (opacity : Int) (w : Weather) (l_a5 : (Sl Spell)) (ev2 : Int) (s_1v2_n : Nat) (s_1v2_g : Nat → List PV) (a_0v2 : Int) (a_1v2 : Int) : St := ⟨[(1, .one (.c (.p (.sl t.len 3 (fun i => enc_42 (t.get i)))))), (2, .one (.c (.p (.int .i64 bin)))), (3, .one (.c (.p (.int .i64 opacity)))), (5, .one (.c (.p (.sl l_a5.len 5 (fun i => enc_56 (l_a5.get i)))))), (6, .one (.c (.ptr 6 0))), (10, .one (.c (.ptr 10 0))), (13, .one (.c (.ptr 13 0))), (14, .one (.c (.p (.int .i64 ev2))))], [(6, .box 26 [.p (.int .i64 s.Parts), .p (.sl s_1v2_n 1 s_1v2_g), .p (.int .i64 s.Beta.Low), .p (.int .i64 s.Beta.High), .p (.int .i64 s.Alpha.Low), .p (.int .i64 s.Alpha.High)]), (10, .box 54 [.p (.int .i64 w.Pressure.Low), .p (.int .i64 w.Pressure.High), .p (.int .i64 w.Warm.Low), .p (.int .i64 w.Warm.High)]), (13, .box 24 [.p (.int .i64 a_0v2), .p (.int .i64 a_1v2)])], []⟩
def f9_at2 (K : List PA → Prop) (s : Sky) (t : (Sl RangeRow)) (bin : Int) (opacity : Int) (w : Weather) (l_a5 : (Sl Spell)) (ev2 : Int) (s_1v2_n : Nat) (s_1v2_g : Nat → List PV) (a_0v2 : Int) (a_1v2 : Int) : Prop := vc Try.prog G9 ann9 (cdF Try.f9 [1, 1, 1]) (bodyK Try.prog Try.f9 K) (f9_g2 s t bin opacity w l_a5 ev2 s_1v2_n s_1v2_g a_0v2 a_1v2)
def f9_g3 (s : Sky) (t : (Sl RangeRow)) (bin : Int) (opacity : Int) (w : Weather) (l_a5 : (Sl Spell)) (ev2 : Int) (a_0v2 : Int) (a_1v2 : Int) (t44v3 : Bool) (s_1v3_n : Nat) (s_1v3_g : Nat → List PV) : St := ⟨[(1, .one (.c (.p (.sl t.len 3 (fun i => enc_42 (t.get i)))))), (2, .one (.c (.p (.int .i64 bin)))), (3, .one (.c (.p (.int .i64 opacity)))), (5, .one (.c (.p (.sl l_a5.len 5 (fun i => enc_56 (l_a5.get i)))))), (6, .one (.c (.ptr 6 0))), (10, .one (.c (.ptr 10 0))), (13, .one (.c (.ptr 13 0))), (14, .one (.c (.p (.int .i64 ev2)))), (44, .one (.c (.p (.bool t44v3))))], [(6, .box 26 [.p (.int .i64 s.Parts), .p (.sl s_1v3_n 1 s_1v3_g), .p (.int .i64 s.Beta.Low), .p (.int .i64 s.Beta.High), .p (.int .i64 s.Alpha.Low), .p (.int .i64 s.Alpha.High)]), (10, .box 54 [.p (.int .i64 w.Pressure.Low), .p (.int .i64 w.Pressure.High), .p (.int .i64 w.Warm.Low), .p (.int .i64 w.Warm.High)]), (13, .box 24 [.p (.int .i64 a_0v2), .p (.int .i64 a_1v2)])], []⟩
def f9_at3 (K : List PA → Prop) (s : Sky) (t : (Sl RangeRow)) (bin : Int) (opacity : Int) (w : Weather) (l_a5 : (Sl Spell)) (ev2 : Int) (a_0v2 : Int) (a_1v2 : Int) (t44v3 : Bool) (s_1v3_n : Nat) (s_1v3_g : Nat → List PV) : Prop := vc Try.prog G9 ann9 (cdF Try.f9 [1, 1, 1, 0, 1]) (sqK Try.prog G9 ann9 (cdF Try.f9 [1, 1, 1, 1]) (bodyK Try.prog Try.f9 K)) (f9_g3 s t bin opacity w l_a5 ev2 a_0v2 a_1v2 t44v3 s_1v3_n s_1v3_g)
def f9_g4 (s : Sky) (t : (Sl RangeRow)) (bin : Int) (opacity : Int) (l_a5 : (Sl Spell)) (s_1v4_n : Nat) (s_1v4_g : Nat → List PV) : St := ⟨[(1, .one (.c (.p (.sl t.len 3 (fun i => enc_42 (t.get i)))))), (2, .one (.c (.p (.int .i64 bin)))), (3, .one (.c (.p (.int .i64 opacity)))), (5, .one (.c (.p (.sl l_a5.len 5 (fun i => enc_56 (l_a5.get i)))))), (6, .one (.c (.ptr 6 0)))], [(6, .box 26 [.p (.int .i64 s.Parts), .p (.sl s_1v4_n 1 s_1v4_g), .p (.int .i64 s.Beta.Low), .p (.int .i64 s.Beta.High), .p (.int .i64 s.Alpha.Low), .p (.int .i64 s.Alpha.High)])], []⟩
def f9_at4 (K : List PA → Prop) (s : Sky) (t : (Sl RangeRow)) (bin : Int) (opacity : Int) (l_a5 : (Sl Spell)) (s_1v4_n : Nat) (s_1v4_g : Nat → List PV) : Prop := vc Try.prog G9 ann9 (cdF Try.f9 [1, 1, 1, 1]) (bodyK Try.prog Try.f9 K) (f9_g4 s t bin opacity l_a5 s_1v4_n s_1v4_g)
def f9_g5 (s : Sky) (t : (Sl RangeRow)) (bin : Int) (opacity : Int) (l_a5 : (Sl Spell)) (t60v5 : Bool) (s_1v5_n : Nat) (s_1v5_g : Nat → List PV) : St := ⟨[(1, .one (.c (.p (.sl t.len 3 (fun i => enc_42 (t.get i)))))), (2, .one (.c (.p (.int .i64 bin)))), (3, .one (.c (.p (.int .i64 opacity)))), (5, .one (.c (.p (.sl l_a5.len 5 (fun i => enc_56 (l_a5.get i)))))), (6, .one (.c (.ptr 6 0))), (60, .one (.c (.p (.bool t60v5))))], [(6, .box 26 [.p (.int .i64 s.Parts), .p (.sl s_1v5_n 1 s_1v5_g), .p (.int .i64 s.Beta.Low), .p (.int .i64 s.Beta.High), .p (.int .i64 s.Alpha.Low), .p (.int .i64 s.Alpha.High)])], []⟩
def f9_at5 (K : List PA → Prop) (s : Sky) (t : (Sl RangeRow)) (bin : Int) (opacity : Int) (l_a5 : (Sl Spell)) (t60v5 : Bool) (s_1v5_n : Nat) (s_1v5_g : Nat → List PV) : Prop := vc Try.prog G9 ann9 (cdF Try.f9 [1, 1, 1, 0, 1, 1, 1]) (sqK Try.prog G9 ann9 (cdF Try.f9 [1, 1, 1, 1]) (bodyK Try.prog Try.f9 K)) (f9_g5 s t bin opacity l_a5 t60v5 s_1v5_n s_1v5_g)
def f9_g6 (s : Sky) (t : (Sl RangeRow)) (bin : Int) (opacity : Int) (l_a5 : (Sl Spell)) (fv6 : Int) (s_1v6_n : Nat) (s_1v6_g : Nat → List PV) (m_0v6 : Int) (m_1v6 : Int) : St := ⟨[(1, .one (.c (.p (.sl t.len 3 (fun i => enc_42 (t.get i)))))), (2, .one (.c (.p (.int .i64 bin)))), (3, .one (.c (.p (.int .i64 opacity)))), (5, .one (.c (.p (.sl l_a5.len 5 (fun i => enc_56 (l_a5.get i)))))), (6, .one (.c (.ptr 6 0))), (15, .one (.c (.ptr 15 0))), (16, .one (.c (.p (.int .i64 fv6))))], [(6, .box 26 [.p (.int .i64 s.Parts), .p (.sl s_1v6_n 1 s_1v6_g), .p (.int .i64 s.Beta.Low), .p (.int .i64 s.Beta.High), .p (.int .i64 s.Alpha.Low), .p (.int .i64 s.Alpha.High)]), (15, .box 24 [.p (.int .i64 m_0v6), .p (.int .i64 m_1v6)])], []⟩
def f9_at6 (K : List PA → Prop) (s : Sky) (t : (Sl RangeRow)) (bin : Int) (opacity : Int) (l_a5 : (Sl Spell)) (fv6 : Int) (s_1v6_n : Nat) (s_1v6_g : Nat → List PV) (m_0v6 : Int) (m_1v6 : Int) : Prop := vc Try.prog G9 ann9 (cdF Try.f9 [1, 1, 1, 1, 1]) (bodyK Try.prog Try.f9 K) (f9_g6 s t bin opacity l_a5 fv6 s_1v6_n s_1v6_g m_0v6 m_1v6)
def f9_g7 (s : Sky) (t : (Sl RangeRow)) (bin : Int) (opacity : Int) (l_a5 : (Sl Spell)) (fv6 : Int) (m_0v6 : Int) (m_1v6 : Int) (t101v7 : Bool) (s_1v7_n : Nat) (s_1v7_g : Nat → List PV) : St := ⟨[(1, .one (.c (.p (.sl t.len 3 (fun i => enc_42 (t.get i)))))), (2, .one (.c (.p (.int .i64 bin)))), (3, .one (.c (.p (.int .i64 opacity)))), (5, .one (.c (.p (.sl l_a5.len 5 (fun i => enc_56 (l_a5.get i)))))), (6, .one (.c (.ptr 6 0))), (15, .one (.c (.ptr 15 0))), (16, .one (.c (.p (.int .i64 fv6)))), (101, .one (.c (.p (.bool t101v7))))], [(6, .box 26 [.p (.int .i64 s.Parts), .p (.sl s_1v7_n 1 s_1v7_g), .p (.int .i64 s.Beta.Low), .p (.int .i64 s.Beta.High), .p (.int .i64 s.Alpha.Low), .p (.int .i64 s.Alpha.High)]), (15, .box 24 [.p (.int .i64 m_0v6), .p (.int .i64 m_1v6)])], []⟩
def f9_at7 (K : List PA → Prop) (s : Sky) (t : (Sl RangeRow)) (bin : Int) (opacity : Int) (l_a5 : (Sl Spell)) (fv6 : Int) (m_0v6 : Int) (m_1v6 : Int) (t101v7 : Bool) (s_1v7_n : Nat) (s_1v7_g : Nat → List PV) : Prop := vc Try.prog G9 ann9 (cdF Try.f9 [1, 1, 1, 1, 1, 0, 1]) (sqK Try.prog G9 ann9 (cdF Try.f9 [1, 1, 1, 1, 1, 1]) (bodyK Try.prog Try.f9 K)) (f9_g7 s t bin opacity l_a5 fv6 m_0v6 m_1v6 t101v7 s_1v7_n s_1v7_g)
def f9_g8 (s : Sky) (t : (Sl RangeRow)) (bin : Int) (opacity : Int) (l_a5 : (Sl Spell)) (fv6 : Int) (m_0v6 : Int) (m_1v6 : Int) (s_1v8_n : Nat) (s_1v8_g : Nat → List PV) : St := ⟨[(1, .one (.c (.p (.sl t.len 3 (fun i => enc_42 (t.get i)))))), (2, .one (.c (.p (.int .i64 bin)))), (3, .one (.c (.p (.int .i64 opacity)))), (5, .one (.c (.p (.sl l_a5.len 5 (fun i => enc_56 (l_a5.get i)))))), (6, .one (.c (.ptr 6 0))), (15, .one (.c (.ptr 15 0))), (16, .one (.c (.p (.int .i64 fv6))))], [(6, .box 26 [.p (.int .i64 s.Parts), .p (.sl s_1v8_n 1 s_1v8_g), .p (.int .i64 s.Beta.Low), .p (.int .i64 s.Beta.High), .p (.int .i64 s.Alpha.Low), .p (.int .i64 s.Alpha.High)]), (15, .box 24 [.p (.int .i64 m_0v6), .p (.int .i64 m_1v6)])], []⟩
def f9_at8 (K : List PA → Prop) (s : Sky) (t : (Sl RangeRow)) (bin : Int) (opacity : Int) (l_a5 : (Sl Spell)) (fv6 : Int) (m_0v6 : Int) (m_1v6 : Int) (s_1v8_n : Nat) (s_1v8_g : Nat → List PV) : Prop := vc Try.prog G9 ann9 (cdF Try.f9 [1, 1, 1, 1, 1, 1]) (bodyK Try.prog Try.f9 K) (f9_g8 s t bin opacity l_a5 fv6 m_0v6 m_1v6 s_1v8_n s_1v8_g)
def f9_g9 (s : Sky) (t : (Sl RangeRow)) (bin : Int) (opacity : Int) (l_a5 : (Sl Spell)) (t123v9 : Bool) (s_1v9_n : Nat) (s_1v9_g : Nat → List PV) : St := ⟨[(1, .one (.c (.p (.sl t.len 3 (fun i => enc_42 (t.get i)))))), (2, .one (.c (.p (.int .i64 bin)))), (3, .one (.c (.p (.int .i64 opacity)))), (5, .one (.c (.p (.sl l_a5.len 5 (fun i => enc_56 (l_a5.get i)))))), (6, .one (.c (.ptr 6 0))), (123, .one (.c (.p (.bool t123v9))))], [(6, .box 26 [.p (.int .i64 s.Parts), .p (.sl s_1v9_n 1 s_1v9_g), .p (.int .i64 s.Beta.Low), .p (.int .i64 s.Beta.High), .p (.int .i64 s.Alpha.Low), .p (.int .i64 s.Alpha.High)])], []⟩
def f9_at9 (K : List PA → Prop) (s : Sky) (t : (Sl RangeRow)) (bin : Int) (opacity : Int) (l_a5 : (Sl Spell)) (t123v9 : Bool) (s_1v9_n : Nat) (s_1v9_g : Nat → List PV) : Prop := vc Try.prog G9 ann9 (cdF Try.f9 [1, 1, 1, 1, 1, 1, 0, 1]) (sqK Try.prog G9 ann9 (cdF Try.f9 [1, 1, 1, 1, 1, 1, 1]) (bodyK Try.prog Try.f9 K)) (f9_g9 s t bin opacity l_a5 t123v9 s_1v9_n s_1v9_g)
def f9_g10 (s : Sky) (t : (Sl RangeRow)) (bin : Int) (opacity : Int) (l_a5 : (Sl Spell)) (s_1v10_n : Nat) (s_1v10_g : Nat → List PV) : St := ⟨[(1, .one (.c (.p (.sl t.len 3 (fun i => enc_42 (t.get i)))))), (2, .one (.c (.p (.int .i64 bin)))), (3, .one (.c (.p (.int .i64 opacity)))), (5, .one (.c (.p (.sl l_a5.len 5 (fun i => enc_56 (l_a5.get i)))))), (6, .one (.c (.ptr 6 0)))], [(6, .box 26 [.p (.int .i64 s.Parts), .p (.sl s_1v10_n 1 s_1v10_g), .p (.int .i64 s.Beta.Low), .p (.int .i64 s.Beta.High), .p (.int .i64 s.Alpha.Low), .p (.int .i64 s.Alpha.High)])], []⟩
def f9_at10 (K : List PA → Prop) (s : Sky) (t : (Sl RangeRow)) (bin : Int) (opacity : Int) (l_a5 : (Sl Spell)) (s_1v10_n : Nat) (s_1v10_g : Nat → List PV) : Prop := vc Try.prog G9 ann9 (cdF Try.f9 [1, 1, 1, 1, 1, 1, 1]) (bodyK Try.prog Try.f9 K) (f9_g10 s t bin opacity l_a5 s_1v10_n s_1v10_g)
def f9_g11 (s : Sky) (t : (Sl RangeRow)) (bin : Int) (opacity : Int) (gv11 : Int) (s_1v11_n : Nat) (s_1v11_g : Nat → List PV) (x_0v11 : Int) (x_1v11 : Int) : St := ⟨[(1, .one (.c (.p (.sl t.len 3 (fun i => enc_42 (t.get i)))))), (2, .one (.c (.p (.int .i64 bin)))), (3, .one (.c (.p (.int .i64 opacity)))), (6, .one (.c (.ptr 6 0))), (17, .one (.c (.ptr 17 0))), (18, .one (.c (.p (.int .i64 gv11))))], [(6, .box 26 [.p (.int .i64 s.Parts), .p (.sl s_1v11_n 1 s_1v11_g), .p (.int .i64 s.Beta.Low), .p (.int .i64 s.Beta.High), .p (.int .i64 s.Alpha.Low), .p (.int .i64 s.Alpha.High)]), (17, .box 24 [.p (.int .i64 x_0v11), .p (.int .i64 x_1v11)])], []⟩
def f9_at11 (K : List PA → Prop) (s : Sky) (t : (Sl RangeRow)) (bin : Int) (opacity : Int) (gv11 : Int) (s_1v11_n : Nat) (s_1v11_g : Nat → List PV) (x_0v11 : Int) (x_1v11 : Int) : Prop := vc Try.prog G9 ann9 (cdF Try.f9 [1, 1, 1, 1, 1, 1, 1, 1]) (bodyK Try.prog Try.f9 K) (f9_g11 s t bin opacity gv11 s_1v11_n s_1v11_g x_0v11 x_1v11)
def f9_g12 (gv11 : Int) (x_0v11 : Int) (x_1v11 : Int) (hv12 : Int) (y_0v12 : Int) (y_1v12 : Int) : St := ⟨[(17, .one (.c (.ptr 17 0))), (18, .one (.c (.p (.int .i64 gv11)))), (19, .one (.c (.ptr 19 0))), (20, .one (.c (.p (.int .i64 hv12))))], [(17, .box 24 [.p (.int .i64 x_0v11), .p (.int .i64 x_1v11)]), (19, .box 24 [.p (.int .i64 y_0v12), .p (.int .i64 y_1v12)])], []⟩
def f9_at12 (K : List PA → Prop) (gv11 : Int) (x_0v11 : Int) (x_1v11 : Int) (hv12 : Int) (y_0v12 : Int) (y_1v12 : Int) : Prop := vc Try.prog G9 ann9 (cdF Try.f9 [1, 1, 1, 1, 1, 1, 1, 1, 1]) (bodyK Try.prog Try.f9 K) (f9_g12 gv11 x_0v11 x_1v11 hv12 y_0v12 y_1v12)
theorem f9_top (s : Sky) (t : (Sl RangeRow)) (bin : Int) (opacity : Int) (w : Weather) (l_a5 : (Sl Spell)) (K : List PA → Prop) :
  vcFun Try.prog G9 ann9 9 [.agg [.int .i64 s.Parts, .sl s.Bins.len 1 (fun i => enc_32 (s.Bins.get i)), .int .i64 s.Beta.Low, .int .i64 s.Beta.High, .int .i64 s.Alpha.Low, .int .i64 s.Alpha.High], .one (.sl t.len 3 (fun i => enc_42 (t.get i))), .one (.int .i64 bin), .one (.int .i64 opacity), .agg [.int .i64 w.Pressure.Low, .int .i64 w.Pressure.High, .int .i64 w.Warm.Low, .int .i64 w.Warm.High], .one (.sl l_a5.len 5 (fun i => enc_56 (l_a5.get i)))] K =
  ((IsE enc_32 1 1 (fun i => enc_32 (s.Bins.get i)) ∧ IsE enc_42 3 3 (fun i => enc_42 (t.get i)) ∧ (p15 s t = true)) ∧
  (condP (!(s15 s t))
   (f9_at0 K s t bin opacity w l_a5 true s.Bins.len (fun i => enc_32 (s.Bins.get i)))
   (f9_at0 K s t bin opacity w l_a5 (decide ((l_a5.len : Int) > (60:Int))) s.Bins.len (fun i => enc_32 (s.Bins.get i))))) := by kernel_rfl
theorem f9_eq0 (K : List PA → Prop) (s : Sky) (t : (Sl RangeRow)) (bin : Int) (opacity : Int) (w : Weather) (l_a5 : (Sl Spell)) (t29v0 : Bool) (s_1v0 : (Sl (Sl FluxRow))) :
  f9_at0 K s t bin opacity w l_a5 t29v0 s_1v0.len (fun i => enc_32 (s_1v0.get i)) =
  (condP t29v0
   (K [.one (.bool true)])
   (f9_at1 K s t bin opacity w l_a5 s_1v0.len (fun i => enc_32 (s_1v0.get i)))) := by kernel_rfl
theorem f9_eq1 (K : List PA → Prop) (s : Sky) (t : (Sl RangeRow)) (bin : Int) (opacity : Int) (w : Weather) (l_a5 : (Sl Spell)) (s_1v1 : (Sl (Sl FluxRow))) :
  f9_at1 K s t bin opacity w l_a5 s_1v1.len (fun i => enc_32 (s_1v1.get i)) =
  ((IsE enc_32 1 1 (fun i => enc_32 (s_1v1.get i)) ∧ (p35 (⟨s.Parts, s_1v1, s.Beta, s.Alpha⟩ : Sky) w = true)) ∧
  (f9_at2 K s t bin opacity w l_a5 ((s35 (⟨s.Parts, s_1v1, s.Beta, s.Alpha⟩ : Sky) w).2) s_1v1.len (fun i => enc_32 (s_1v1.get i)) (((s35 (⟨s.Parts, s_1v1, s.Beta, s.Alpha⟩ : Sky) w).1).Low) (((s35 (⟨s.Parts, s_1v1, s.Beta, s.Alpha⟩ : Sky) w).1).High))) := by kernel_rfl
theorem f9_eq2 (K : List PA → Prop) (s : Sky) (t : (Sl RangeRow)) (bin : Int) (opacity : Int) (w : Weather) (l_a5 : (Sl Spell)) (ev2 : Int) (s_1v2 : (Sl (Sl FluxRow))) (a_0v2 : Int) (a_1v2 : Int) :
  f9_at2 K s t bin opacity w l_a5 ev2 s_1v2.len (fun i => enc_32 (s_1v2.get i)) a_0v2 a_1v2 =
  ((IsE enc_32 1 1 (fun i => enc_32 (s_1v2.get i)) ∧ (p16 (⟨s.Parts, s_1v2, s.Beta, s.Alpha⟩ : Sky) = true)) ∧
  (condP (!(s16 (⟨s.Parts, s_1v2, s.Beta, s.Alpha⟩ : Sky)))
   (f9_at3 K s t bin opacity w l_a5 ev2 a_0v2 a_1v2 true s_1v2.len (fun i => enc_32 (s_1v2.get i)))
   (f9_at3 K s t bin opacity w l_a5 ev2 a_0v2 a_1v2 (!(s36 w)) s_1v2.len (fun i => enc_32 (s_1v2.get i))))) := by kernel_rfl
theorem f9_eq3 (K : List PA → Prop) (s : Sky) (t : (Sl RangeRow)) (bin : Int) (opacity : Int) (w : Weather) (l_a5 : (Sl Spell)) (ev2 : Int) (a_0v2 : Int) (a_1v2 : Int) (t44v3 : Bool) (s_1v3 : (Sl (Sl FluxRow))) :
  f9_at3 K s t bin opacity w l_a5 ev2 a_0v2 a_1v2 t44v3 s_1v3.len (fun i => enc_32 (s_1v3.get i)) =
  (condP t44v3
   (condP (ev2 != (2:Int))
    (K [.one (.bool false)])
    (condP (!(match (a_0v2 == (0:Int)) with | true => (match (a_1v2 == (0:Int)) with | true => true | false => false) | false => false))
     (K [.one (.bool false)])
     (f9_at4 K s t bin opacity l_a5 s_1v3.len (fun i => enc_32 (s_1v3.get i)))))
   (condP (ev2 != (0:Int))
    (f9_at5 K s t bin opacity l_a5 true s_1v3.len (fun i => enc_32 (s_1v3.get i)))
    ((IsE enc_32 1 1 (fun i => enc_32 (s_1v3.get i)) ∧ (p37 (⟨s.Parts, s_1v3, s.Beta, s.Alpha⟩ : Sky) w = true)) ∧
    (f9_at5 K s t bin opacity l_a5 (!(match (a_0v2 == (s37 (⟨s.Parts, s_1v3, s.Beta, s.Alpha⟩ : Sky) w).Low) with | true => (match (a_1v2 == (s37 (⟨s.Parts, s_1v3, s.Beta, s.Alpha⟩ : Sky) w).High) with | true => true | false => false) | false => false)) s_1v3.len (fun i => enc_32 (s_1v3.get i)))))) := by kernel_rfl
theorem f9_eq4 (K : List PA → Prop) (s : Sky) (t : (Sl RangeRow)) (bin : Int) (opacity : Int) (l_a5 : (Sl Spell)) (s_1v4 : (Sl (Sl FluxRow))) :
  f9_at4 K s t bin opacity l_a5 s_1v4.len (fun i => enc_32 (s_1v4.get i)) =
  ((IsE enc_32 1 1 (fun i => enc_32 (s_1v4.get i)) ∧ IsE enc_42 3 3 (fun i => enc_42 (t.get i)) ∧ IsE enc_56 5 5 (fun i => enc_56 (l_a5.get i)) ∧ (p23 (⟨s.Parts, s_1v4, s.Beta, s.Alpha⟩ : Sky) t bin opacity l_a5 = true)) ∧
  (f9_at6 K s t bin opacity l_a5 ((s23 (⟨s.Parts, s_1v4, s.Beta, s.Alpha⟩ : Sky) t bin opacity l_a5).2) s_1v4.len (fun i => enc_32 (s_1v4.get i)) (((s23 (⟨s.Parts, s_1v4, s.Beta, s.Alpha⟩ : Sky) t bin opacity l_a5).1).Low) (((s23 (⟨s.Parts, s_1v4, s.Beta, s.Alpha⟩ : Sky) t bin opacity l_a5).1).High))) := by kernel_rfl
theorem f9_eq5 (K : List PA → Prop) (s : Sky) (t : (Sl RangeRow)) (bin : Int) (opacity : Int) (l_a5 : (Sl Spell)) (t60v5 : Bool) (s_1v5 : (Sl (Sl FluxRow))) :
  f9_at5 K s t bin opacity l_a5 t60v5 s_1v5.len (fun i => enc_32 (s_1v5.get i)) =
  (condP t60v5
   (K [.one (.bool false)])
   (f9_at4 K s t bin opacity l_a5 s_1v5.len (fun i => enc_32 (s_1v5.get i)))) := by kernel_rfl
theorem f9_eq6 (K : List PA → Prop) (s : Sky) (t : (Sl RangeRow)) (bin : Int) (opacity : Int) (l_a5 : (Sl Spell)) (fv6 : Int) (s_1v6 : (Sl (Sl FluxRow))) (m_0v6 : Int) (m_1v6 : Int) :
  f9_at6 K s t bin opacity l_a5 fv6 s_1v6.len (fun i => enc_32 (s_1v6.get i)) m_0v6 m_1v6 =
  ((IsE enc_32 1 1 (fun i => enc_32 (s_1v6.get i)) ∧ (p16 (⟨s.Parts, s_1v6, s.Beta, s.Alpha⟩ : Sky) = true)) ∧
  (condP (!(s16 (⟨s.Parts, s_1v6, s.Beta, s.Alpha⟩ : Sky)))
   (f9_at7 K s t bin opacity l_a5 fv6 m_0v6 m_1v6 true s_1v6.len (fun i => enc_32 (s_1v6.get i)))
   ((IsE enc_42 3 3 (fun i => enc_42 (t.get i)) ∧ (p17 t = true)) ∧
   (condP (!(s17 t))
    (f9_at7 K s t bin opacity l_a5 fv6 m_0v6 m_1v6 true s_1v6.len (fun i => enc_32 (s_1v6.get i)))
    (condP (decide (bin < (0:Int)))
     (f9_at7 K s t bin opacity l_a5 fv6 m_0v6 m_1v6 true s_1v6.len (fun i => enc_32 (s_1v6.get i)))
     (condP (decide (bin ≥ (s_1v6.len : Int)))
      (f9_at7 K s t bin opacity l_a5 fv6 m_0v6 m_1v6 true s_1v6.len (fun i => enc_32 (s_1v6.get i)))
      (condP (decide (opacity < (0:Int)))
       (f9_at7 K s t bin opacity l_a5 fv6 m_0v6 m_1v6 true s_1v6.len (fun i => enc_32 (s_1v6.get i)))
       (condP (decide (opacity > (1000000:Int)))
        (f9_at7 K s t bin opacity l_a5 fv6 m_0v6 m_1v6 true s_1v6.len (fun i => enc_32 (s_1v6.get i)))
        ((IsE enc_56 5 5 (fun i => enc_56 (l_a5.get i)) ∧ (p22 l_a5 = true)) ∧
        (f9_at7 K s t bin opacity l_a5 fv6 m_0v6 m_1v6 (!(s22 l_a5)) s_1v6.len (fun i => enc_32 (s_1v6.get i)))))))))))) := by kernel_rfl
theorem f9_eq7 (K : List PA → Prop) (s : Sky) (t : (Sl RangeRow)) (bin : Int) (opacity : Int) (l_a5 : (Sl Spell)) (fv6 : Int) (m_0v6 : Int) (m_1v6 : Int) (t101v7 : Bool) (s_1v7 : (Sl (Sl FluxRow))) :
  f9_at7 K s t bin opacity l_a5 fv6 m_0v6 m_1v6 t101v7 s_1v7.len (fun i => enc_32 (s_1v7.get i)) =
  (condP t101v7
   (condP (fv6 == (2:Int))
    (condP (match (m_0v6 == (0:Int)) with | true => (match (m_1v6 == (0:Int)) with | true => true | false => false) | false => false)
     (K [.one (.bool true)])
     (K [.one (.bool false)]))
    (K [.one (.bool false)]))
   (f9_at8 K s t bin opacity l_a5 fv6 m_0v6 m_1v6 s_1v7.len (fun i => enc_32 (s_1v7.get i)))) := by kernel_rfl
theorem f9_eq8 (K : List PA → Prop) (s : Sky) (t : (Sl RangeRow)) (bin : Int) (opacity : Int) (l_a5 : (Sl Spell)) (fv6 : Int) (m_0v6 : Int) (m_1v6 : Int) (s_1v8 : (Sl (Sl FluxRow))) :
  f9_at8 K s t bin opacity l_a5 fv6 m_0v6 m_1v6 s_1v8.len (fun i => enc_32 (s_1v8.get i)) =
  (condP (fv6 != (0:Int))
   (f9_at9 K s t bin opacity l_a5 true s_1v8.len (fun i => enc_32 (s_1v8.get i)))
   ((IsE enc_32 1 1 (fun i => enc_32 (s_1v8.get i)) ∧ IsE enc_42 3 3 (fun i => enc_42 (t.get i)) ∧ IsE enc_56 5 5 (fun i => enc_56 (l_a5.get i)) ∧ (p38 (⟨s.Parts, s_1v8, s.Beta, s.Alpha⟩ : Sky) t bin opacity l_a5 = true)) ∧
   (f9_at9 K s t bin opacity l_a5 (!(match (m_0v6 == (s38 (⟨s.Parts, s_1v8, s.Beta, s.Alpha⟩ : Sky) t bin opacity l_a5).Low) with | true => (match (m_1v6 == (s38 (⟨s.Parts, s_1v8, s.Beta, s.Alpha⟩ : Sky) t bin opacity l_a5).High) with | true => true | false => false) | false => false)) s_1v8.len (fun i => enc_32 (s_1v8.get i))))) := by kernel_rfl
theorem f9_eq9 (K : List PA → Prop) (s : Sky) (t : (Sl RangeRow)) (bin : Int) (opacity : Int) (l_a5 : (Sl Spell)) (t123v9 : Bool) (s_1v9 : (Sl (Sl FluxRow))) :
  f9_at9 K s t bin opacity l_a5 t123v9 s_1v9.len (fun i => enc_32 (s_1v9.get i)) =
  (condP t123v9
   (K [.one (.bool false)])
   (f9_at10 K s t bin opacity l_a5 s_1v9.len (fun i => enc_32 (s_1v9.get i)))) := by kernel_rfl
theorem f9_eq10 (K : List PA → Prop) (s : Sky) (t : (Sl RangeRow)) (bin : Int) (opacity : Int) (l_a5 : (Sl Spell)) (s_1v10 : (Sl (Sl FluxRow))) :
  f9_at10 K s t bin opacity l_a5 s_1v10.len (fun i => enc_32 (s_1v10.get i)) =
  (((0 ≤ (0:Int) ∧ (0:Int) < (l_a5.len : Int))) ∧
  ((IsE enc_32 1 1 (fun i => enc_32 (s_1v10.get i)) ∧ IsE enc_42 3 3 (fun i => enc_42 (t.get i)) ∧ IsE enc_56 5 5 (fun _ => (enc_56 (s34 ((l_a5.get 0).Slots)))) ∧ (p23 (⟨s.Parts, s_1v10, s.Beta, s.Alpha⟩ : Sky) t bin opacity (⟨1, fun _ => (s34 ((l_a5.get 0).Slots))⟩ : (Sl Spell)) = true)) ∧
  (f9_at11 K s t bin opacity ((s23 (⟨s.Parts, s_1v10, s.Beta, s.Alpha⟩ : Sky) t bin opacity (⟨1, fun _ => (s34 ((l_a5.get 0).Slots))⟩ : (Sl Spell))).2) s_1v10.len (fun i => enc_32 (s_1v10.get i)) (((s23 (⟨s.Parts, s_1v10, s.Beta, s.Alpha⟩ : Sky) t bin opacity (⟨1, fun _ => (s34 ((l_a5.get 0).Slots))⟩ : (Sl Spell))).1).Low) (((s23 (⟨s.Parts, s_1v10, s.Beta, s.Alpha⟩ : Sky) t bin opacity (⟨1, fun _ => (s34 ((l_a5.get 0).Slots))⟩ : (Sl Spell))).1).High)))) := by kernel_rfl
theorem f9_eq11 (K : List PA → Prop) (s : Sky) (t : (Sl RangeRow)) (bin : Int) (opacity : Int) (gv11 : Int) (s_1v11 : (Sl (Sl FluxRow))) (x_0v11 : Int) (x_1v11 : Int) :
  f9_at11 K s t bin opacity gv11 s_1v11.len (fun i => enc_32 (s_1v11.get i)) x_0v11 x_1v11 =
  ((IsE enc_32 1 1 (fun i => enc_32 (s_1v11.get i)) ∧ IsE enc_42 3 3 (fun i => enc_42 (t.get i)) ∧ (p20 (⟨s.Parts, s_1v11, s.Beta, s.Alpha⟩ : Sky) t bin opacity = true)) ∧
  (f9_at12 K gv11 x_0v11 x_1v11 ((s20 (⟨s.Parts, s_1v11, s.Beta, s.Alpha⟩ : Sky) t bin opacity).2) (((s20 (⟨s.Parts, s_1v11, s.Beta, s.Alpha⟩ : Sky) t bin opacity).1).Low) (((s20 (⟨s.Parts, s_1v11, s.Beta, s.Alpha⟩ : Sky) t bin opacity).1).High))) := by kernel_rfl
theorem f9_eq12 (K : List PA → Prop) (gv11 : Int) (x_0v11 : Int) (x_1v11 : Int) (hv12 : Int) (y_0v12 : Int) (y_1v12 : Int) :
  f9_at12 K gv11 x_0v11 x_1v11 hv12 y_0v12 y_1v12 =
  (condP (gv11 == (0:Int))
   (condP (hv12 == (0:Int))
    (condP (match (x_0v11 == y_0v12) with | true => (match (x_1v11 == y_1v12) with | true => true | false => false) | false => false)
     (K [.one (.bool true)])
     (K [.one (.bool false)]))
    (K [.one (.bool false)]))
   (K [.one (.bool false)])) := by kernel_rfl
abbrev R9 := Bool
abbrev e9 (r : Bool) : List PA := [.one (.bool r)]
attribute [irreducible] f9_at0 f9_at1 f9_at2 f9_at3 f9_at4 f9_at5 f9_at6 f9_at7 f9_at8 f9_at9 f9_at10 f9_at11 f9_at12
def s9_at12 (gv11 : Int) (x_0v11 : Int) (x_1v11 : Int) (hv12 : Int) (y_0v12 : Int) (y_1v12 : Int) : Bool :=
  (cond (gv11 == (0:Int))
   (cond (hv12 == (0:Int))
    (cond (match (x_0v11 == y_0v12) with | true => (match (x_1v11 == y_1v12) with | true => true | false => false) | false => false)
     true
     false)
    false)
   false)
theorem q9_at12 (K : List PA → Prop) (gv11 : Int) (x_0v11 : Int) (x_1v11 : Int) (hv12 : Int) (y_0v12 : Int) (y_1v12 : Int) (hk : K (e9 (s9_at12 gv11 x_0v11 x_1v11 hv12 y_0v12 y_1v12))) : f9_at12 K gv11 x_0v11 x_1v11 hv12 y_0v12 y_1v12 := by
  refine ofEq (f9_eq12 K gv11 x_0v11 x_1v11 hv12 y_0v12 y_1v12) ?_
  unfold s9_at12 at hk
  exact (condP_gt (K := fun r => K (e9 r))
   (fun hk => (condP_gt (K := fun r => K (e9 r))
    (fun hk => (condP_gt (K := fun r => K (e9 r))
     (fun hk => hk)
     (fun hk => hk) hk))
    (fun hk => hk) hk))
   (fun hk => hk) hk)
def s9_at11 (s : Sky) (t : (Sl RangeRow)) (bin : Int) (opacity : Int) (gv11 : Int) (s_1v11 : (Sl (Sl FluxRow))) (x_0v11 : Int) (x_1v11 : Int) : Bool :=
  (s9_at12 gv11 x_0v11 x_1v11 ((s20 (⟨s.Parts, s_1v11, s.Beta, s.Alpha⟩ : Sky) t bin opacity).2) (((s20 (⟨s.Parts, s_1v11, s.Beta, s.Alpha⟩ : Sky) t bin opacity).1).Low) (((s20 (⟨s.Parts, s_1v11, s.Beta, s.Alpha⟩ : Sky) t bin opacity).1).High))
def p9_at11 (s : Sky) (t : (Sl RangeRow)) (bin : Int) (opacity : Int) (gv11 : Int) (s_1v11 : (Sl (Sl FluxRow))) (x_0v11 : Int) (x_1v11 : Int) : Bool :=
  (decide ((p20 (⟨s.Parts, s_1v11, s.Beta, s.Alpha⟩ : Sky) t bin opacity = true)) &&
  true)
theorem q9_at11 (K : List PA → Prop) (s : Sky) (t : (Sl RangeRow)) (bin : Int) (opacity : Int) (gv11 : Int) (s_1v11 : (Sl (Sl FluxRow))) (x_0v11 : Int) (x_1v11 : Int) (s_1v11_g : Nat → List PV) (s_1v11_h : s_1v11_g = fun i => enc_32 (s_1v11.get i)) (hs : p9_at11 s t bin opacity gv11 s_1v11 x_0v11 x_1v11 = true) (hk : K (e9 (s9_at11 s t bin opacity gv11 s_1v11 x_0v11 x_1v11))) : f9_at11 K s t bin opacity gv11 s_1v11.len s_1v11_g x_0v11 x_1v11 := by
  subst s_1v11_h
  refine ofEq (f9_eq11 K s t bin opacity gv11 s_1v11 x_0v11 x_1v11) ?_
  unfold p9_at11 at hs
  unfold s9_at11 at hk
  exact (andK hs fun hc hs => ⟨⟨isE, isE, hc⟩, (q9_at12 K gv11 x_0v11 x_1v11 ((s20 (⟨s.Parts, s_1v11, s.Beta, s.Alpha⟩ : Sky) t bin opacity).2) (((s20 (⟨s.Parts, s_1v11, s.Beta, s.Alpha⟩ : Sky) t bin opacity).1).Low) (((s20 (⟨s.Parts, s_1v11, s.Beta, s.Alpha⟩ : Sky) t bin opacity).1).High) hk)⟩)
def s9_at10 (s : Sky) (t : (Sl RangeRow)) (bin : Int) (opacity : Int) (l_a5 : (Sl Spell)) (s_1v10 : (Sl (Sl FluxRow))) : Bool :=
  (s9_at11 s t bin opacity ((s23 (⟨s.Parts, s_1v10, s.Beta, s.Alpha⟩ : Sky) t bin opacity (⟨1, fun _ => (s34 ((l_a5.get 0).Slots))⟩ : (Sl Spell))).2) s_1v10 (((s23 (⟨s.Parts, s_1v10, s.Beta, s.Alpha⟩ : Sky) t bin opacity (⟨1, fun _ => (s34 ((l_a5.get 0).Slots))⟩ : (Sl Spell))).1).Low) (((s23 (⟨s.Parts, s_1v10, s.Beta, s.Alpha⟩ : Sky) t bin opacity (⟨1, fun _ => (s34 ((l_a5.get 0).Slots))⟩ : (Sl Spell))).1).High))
def p9_at10 (s : Sky) (t : (Sl RangeRow)) (bin : Int) (opacity : Int) (l_a5 : (Sl Spell)) (s_1v10 : (Sl (Sl FluxRow))) : Bool :=
  (decide ((0 ≤ (0:Int) ∧ (0:Int) < (l_a5.len : Int))) &&
  (decide ((p23 (⟨s.Parts, s_1v10, s.Beta, s.Alpha⟩ : Sky) t bin opacity (⟨1, fun _ => (s34 ((l_a5.get 0).Slots))⟩ : (Sl Spell)) = true)) &&
  (p9_at11 s t bin opacity ((s23 (⟨s.Parts, s_1v10, s.Beta, s.Alpha⟩ : Sky) t bin opacity (⟨1, fun _ => (s34 ((l_a5.get 0).Slots))⟩ : (Sl Spell))).2) s_1v10 (((s23 (⟨s.Parts, s_1v10, s.Beta, s.Alpha⟩ : Sky) t bin opacity (⟨1, fun _ => (s34 ((l_a5.get 0).Slots))⟩ : (Sl Spell))).1).Low) (((s23 (⟨s.Parts, s_1v10, s.Beta, s.Alpha⟩ : Sky) t bin opacity (⟨1, fun _ => (s34 ((l_a5.get 0).Slots))⟩ : (Sl Spell))).1).High))))
theorem q9_at10 (K : List PA → Prop) (s : Sky) (t : (Sl RangeRow)) (bin : Int) (opacity : Int) (l_a5 : (Sl Spell)) (s_1v10 : (Sl (Sl FluxRow))) (s_1v10_g : Nat → List PV) (s_1v10_h : s_1v10_g = fun i => enc_32 (s_1v10.get i)) (hs : p9_at10 s t bin opacity l_a5 s_1v10 = true) (hk : K (e9 (s9_at10 s t bin opacity l_a5 s_1v10))) : f9_at10 K s t bin opacity l_a5 s_1v10.len s_1v10_g := by
  subst s_1v10_h
  refine ofEq (f9_eq10 K s t bin opacity l_a5 s_1v10) ?_
  unfold p9_at10 at hs
  unfold s9_at10 at hk
  exact (andK hs fun hc hs => ⟨hc, (andK hs fun hc hs => ⟨⟨isE, isE, isE_c, hc⟩, (q9_at11 K s t bin opacity ((s23 (⟨s.Parts, s_1v10, s.Beta, s.Alpha⟩ : Sky) t bin opacity (⟨1, fun _ => (s34 ((l_a5.get 0).Slots))⟩ : (Sl Spell))).2) s_1v10 (((s23 (⟨s.Parts, s_1v10, s.Beta, s.Alpha⟩ : Sky) t bin opacity (⟨1, fun _ => (s34 ((l_a5.get 0).Slots))⟩ : (Sl Spell))).1).Low) (((s23 (⟨s.Parts, s_1v10, s.Beta, s.Alpha⟩ : Sky) t bin opacity (⟨1, fun _ => (s34 ((l_a5.get 0).Slots))⟩ : (Sl Spell))).1).High) (fun i => enc_32 (s_1v10.get i)) rfl hs hk)⟩)⟩)
def s9_at9 (s : Sky) (t : (Sl RangeRow)) (bin : Int) (opacity : Int) (l_a5 : (Sl Spell)) (t123v9 : Bool) (s_1v9 : (Sl (Sl FluxRow))) : Bool :=
  (cond t123v9
   false
   (s9_at10 s t bin opacity l_a5 s_1v9))
def p9_at9 (s : Sky) (t : (Sl RangeRow)) (bin : Int) (opacity : Int) (l_a5 : (Sl Spell)) (t123v9 : Bool) (s_1v9 : (Sl (Sl FluxRow))) : Bool :=
  (cond t123v9
   true
   (p9_at10 s t bin opacity l_a5 s_1v9))
theorem q9_at9 (K : List PA → Prop) (s : Sky) (t : (Sl RangeRow)) (bin : Int) (opacity : Int) (l_a5 : (Sl Spell)) (t123v9 : Bool) (s_1v9 : (Sl (Sl FluxRow))) (s_1v9_g : Nat → List PV) (s_1v9_h : s_1v9_g = fun i => enc_32 (s_1v9.get i)) (hs : p9_at9 s t bin opacity l_a5 t123v9 s_1v9 = true) (hk : K (e9 (s9_at9 s t bin opacity l_a5 t123v9 s_1v9))) : f9_at9 K s t bin opacity l_a5 t123v9 s_1v9.len s_1v9_g := by
  subst s_1v9_h
  refine ofEq (f9_eq9 K s t bin opacity l_a5 t123v9 s_1v9) ?_
  unfold p9_at9 at hs
  unfold s9_at9 at hk
  exact (condB_go (K := fun r => K (e9 r))
   (fun hs hk => hk)
   (fun hs hk => (q9_at10 K s t bin opacity l_a5 s_1v9 (fun i => enc_32 (s_1v9.get i)) rfl hs hk)) hs hk)
def s9_at8 (s : Sky) (t : (Sl RangeRow)) (bin : Int) (opacity : Int) (l_a5 : (Sl Spell)) (fv6 : Int) (m_0v6 : Int) (m_1v6 : Int) (s_1v8 : (Sl (Sl FluxRow))) : Bool :=
  (cond (fv6 != (0:Int))
   (s9_at9 s t bin opacity l_a5 true s_1v8)
   (s9_at9 s t bin opacity l_a5 (!(match (m_0v6 == (s38 (⟨s.Parts, s_1v8, s.Beta, s.Alpha⟩ : Sky) t bin opacity l_a5).Low) with | true => (match (m_1v6 == (s38 (⟨s.Parts, s_1v8, s.Beta, s.Alpha⟩ : Sky) t bin opacity l_a5).High) with | true => true | false => false) | false => false)) s_1v8))
def p9_at8 (s : Sky) (t : (Sl RangeRow)) (bin : Int) (opacity : Int) (l_a5 : (Sl Spell)) (fv6 : Int) (m_0v6 : Int) (m_1v6 : Int) (s_1v8 : (Sl (Sl FluxRow))) : Bool :=
  (cond (fv6 != (0:Int))
   (p9_at9 s t bin opacity l_a5 true s_1v8)
   (decide ((p38 (⟨s.Parts, s_1v8, s.Beta, s.Alpha⟩ : Sky) t bin opacity l_a5 = true)) &&
   (p9_at9 s t bin opacity l_a5 (!(match (m_0v6 == (s38 (⟨s.Parts, s_1v8, s.Beta, s.Alpha⟩ : Sky) t bin opacity l_a5).Low) with | true => (match (m_1v6 == (s38 (⟨s.Parts, s_1v8, s.Beta, s.Alpha⟩ : Sky) t bin opacity l_a5).High) with | true => true | false => false) | false => false)) s_1v8)))
theorem q9_at8 (K : List PA → Prop) (s : Sky) (t : (Sl RangeRow)) (bin : Int) (opacity : Int) (l_a5 : (Sl Spell)) (fv6 : Int) (m_0v6 : Int) (m_1v6 : Int) (s_1v8 : (Sl (Sl FluxRow))) (s_1v8_g : Nat → List PV) (s_1v8_h : s_1v8_g = fun i => enc_32 (s_1v8.get i)) (hs : p9_at8 s t bin opacity l_a5 fv6 m_0v6 m_1v6 s_1v8 = true) (hk : K (e9 (s9_at8 s t bin opacity l_a5 fv6 m_0v6 m_1v6 s_1v8))) : f9_at8 K s t bin opacity l_a5 fv6 m_0v6 m_1v6 s_1v8.len s_1v8_g := by
  subst s_1v8_h
  refine ofEq (f9_eq8 K s t bin opacity l_a5 fv6 m_0v6 m_1v6 s_1v8) ?_
  unfold p9_at8 at hs
  unfold s9_at8 at hk
  exact (condB_go (K := fun r => K (e9 r))
   (fun hs hk => (q9_at9 K s t bin opacity l_a5 true s_1v8 (fun i => enc_32 (s_1v8.get i)) rfl hs hk))
   (fun hs hk => (andK hs fun hc hs => ⟨⟨isE, isE, isE, hc⟩, (q9_at9 K s t bin opacity l_a5 (!(match (m_0v6 == (s38 (⟨s.Parts, s_1v8, s.Beta, s.Alpha⟩ : Sky) t bin opacity l_a5).Low) with | true => (match (m_1v6 == (s38 (⟨s.Parts, s_1v8, s.Beta, s.Alpha⟩ : Sky) t bin opacity l_a5).High) with | true => true | false => false) | false => false)) s_1v8 (fun i => enc_32 (s_1v8.get i)) rfl hs hk)⟩)) hs hk)
def s9_at7 (s : Sky) (t : (Sl RangeRow)) (bin : Int) (opacity : Int) (l_a5 : (Sl Spell)) (fv6 : Int) (m_0v6 : Int) (m_1v6 : Int) (t101v7 : Bool) (s_1v7 : (Sl (Sl FluxRow))) : Bool :=
  (cond t101v7
   (cond (fv6 == (2:Int))
    (cond (match (m_0v6 == (0:Int)) with | true => (match (m_1v6 == (0:Int)) with | true => true | false => false) | false => false)
     true
     false)
    false)
   (s9_at8 s t bin opacity l_a5 fv6 m_0v6 m_1v6 s_1v7))
def p9_at7 (s : Sky) (t : (Sl RangeRow)) (bin : Int) (opacity : Int) (l_a5 : (Sl Spell)) (fv6 : Int) (m_0v6 : Int) (m_1v6 : Int) (t101v7 : Bool) (s_1v7 : (Sl (Sl FluxRow))) : Bool :=
  (cond t101v7
   true
   (p9_at8 s t bin opacity l_a5 fv6 m_0v6 m_1v6 s_1v7))
theorem q9_at7 (K : List PA → Prop) (s : Sky) (t : (Sl RangeRow)) (bin : Int) (opacity : Int) (l_a5 : (Sl Spell)) (fv6 : Int) (m_0v6 : Int) (m_1v6 : Int) (t101v7 : Bool) (s_1v7 : (Sl (Sl FluxRow))) (s_1v7_g : Nat → List PV) (s_1v7_h : s_1v7_g = fun i => enc_32 (s_1v7.get i)) (hs : p9_at7 s t bin opacity l_a5 fv6 m_0v6 m_1v6 t101v7 s_1v7 = true) (hk : K (e9 (s9_at7 s t bin opacity l_a5 fv6 m_0v6 m_1v6 t101v7 s_1v7))) : f9_at7 K s t bin opacity l_a5 fv6 m_0v6 m_1v6 t101v7 s_1v7.len s_1v7_g := by
  subst s_1v7_h
  refine ofEq (f9_eq7 K s t bin opacity l_a5 fv6 m_0v6 m_1v6 t101v7 s_1v7) ?_
  unfold p9_at7 at hs
  unfold s9_at7 at hk
  exact (condB_go (K := fun r => K (e9 r))
   (fun hs hk => (condP_gt (K := fun r => K (e9 r))
    (fun hk => (condP_gt (K := fun r => K (e9 r))
     (fun hk => hk)
     (fun hk => hk) hk))
    (fun hk => hk) hk))
   (fun hs hk => (q9_at8 K s t bin opacity l_a5 fv6 m_0v6 m_1v6 s_1v7 (fun i => enc_32 (s_1v7.get i)) rfl hs hk)) hs hk)
def s9_at6 (s : Sky) (t : (Sl RangeRow)) (bin : Int) (opacity : Int) (l_a5 : (Sl Spell)) (fv6 : Int) (s_1v6 : (Sl (Sl FluxRow))) (m_0v6 : Int) (m_1v6 : Int) : Bool :=
  (cond (!(s16 (⟨s.Parts, s_1v6, s.Beta, s.Alpha⟩ : Sky)))
   (s9_at7 s t bin opacity l_a5 fv6 m_0v6 m_1v6 true s_1v6)
   (cond (!(s17 t))
    (s9_at7 s t bin opacity l_a5 fv6 m_0v6 m_1v6 true s_1v6)
    (cond (decide (bin < (0:Int)))
     (s9_at7 s t bin opacity l_a5 fv6 m_0v6 m_1v6 true s_1v6)
     (cond (decide (bin ≥ (s_1v6.len : Int)))
      (s9_at7 s t bin opacity l_a5 fv6 m_0v6 m_1v6 true s_1v6)
      (cond (decide (opacity < (0:Int)))
       (s9_at7 s t bin opacity l_a5 fv6 m_0v6 m_1v6 true s_1v6)
       (cond (decide (opacity > (1000000:Int)))
        (s9_at7 s t bin opacity l_a5 fv6 m_0v6 m_1v6 true s_1v6)
        (s9_at7 s t bin opacity l_a5 fv6 m_0v6 m_1v6 (!(s22 l_a5)) s_1v6)))))))
def p9_at6 (s : Sky) (t : (Sl RangeRow)) (bin : Int) (opacity : Int) (l_a5 : (Sl Spell)) (fv6 : Int) (s_1v6 : (Sl (Sl FluxRow))) (m_0v6 : Int) (m_1v6 : Int) : Bool :=
  (decide ((p16 (⟨s.Parts, s_1v6, s.Beta, s.Alpha⟩ : Sky) = true)) &&
  (cond (!(s16 (⟨s.Parts, s_1v6, s.Beta, s.Alpha⟩ : Sky)))
   (p9_at7 s t bin opacity l_a5 fv6 m_0v6 m_1v6 true s_1v6)
   (decide ((p17 t = true)) &&
   (cond (!(s17 t))
    (p9_at7 s t bin opacity l_a5 fv6 m_0v6 m_1v6 true s_1v6)
    (cond (decide (bin < (0:Int)))
     (p9_at7 s t bin opacity l_a5 fv6 m_0v6 m_1v6 true s_1v6)
     (cond (decide (bin ≥ (s_1v6.len : Int)))
      (p9_at7 s t bin opacity l_a5 fv6 m_0v6 m_1v6 true s_1v6)
      (cond (decide (opacity < (0:Int)))
       (p9_at7 s t bin opacity l_a5 fv6 m_0v6 m_1v6 true s_1v6)
       (cond (decide (opacity > (1000000:Int)))
        (p9_at7 s t bin opacity l_a5 fv6 m_0v6 m_1v6 true s_1v6)
        (decide ((p22 l_a5 = true)) &&
        (p9_at7 s t bin opacity l_a5 fv6 m_0v6 m_1v6 (!(s22 l_a5)) s_1v6))))))))))
theorem q9_at6 (K : List PA → Prop) (s : Sky) (t : (Sl RangeRow)) (bin : Int) (opacity : Int) (l_a5 : (Sl Spell)) (fv6 : Int) (s_1v6 : (Sl (Sl FluxRow))) (m_0v6 : Int) (m_1v6 : Int) (s_1v6_g : Nat → List PV) (s_1v6_h : s_1v6_g = fun i => enc_32 (s_1v6.get i)) (hs : p9_at6 s t bin opacity l_a5 fv6 s_1v6 m_0v6 m_1v6 = true) (hk : K (e9 (s9_at6 s t bin opacity l_a5 fv6 s_1v6 m_0v6 m_1v6))) : f9_at6 K s t bin opacity l_a5 fv6 s_1v6.len s_1v6_g m_0v6 m_1v6 := by
  subst s_1v6_h
  refine ofEq (f9_eq6 K s t bin opacity l_a5 fv6 s_1v6 m_0v6 m_1v6) ?_
  unfold p9_at6 at hs
  unfold s9_at6 at hk
  exact (andK hs fun hc hs => ⟨⟨isE, hc⟩, (condB_go (K := fun r => K (e9 r))
   (fun hs hk => (q9_at7 K s t bin opacity l_a5 fv6 m_0v6 m_1v6 true s_1v6 (fun i => enc_32 (s_1v6.get i)) rfl hs hk))
   (fun hs hk => (andK hs fun hc hs => ⟨⟨isE, hc⟩, (condB_go (K := fun r => K (e9 r))
    (fun hs hk => (q9_at7 K s t bin opacity l_a5 fv6 m_0v6 m_1v6 true s_1v6 (fun i => enc_32 (s_1v6.get i)) rfl hs hk))
    (fun hs hk => (condB_go (K := fun r => K (e9 r))
     (fun hs hk => (q9_at7 K s t bin opacity l_a5 fv6 m_0v6 m_1v6 true s_1v6 (fun i => enc_32 (s_1v6.get i)) rfl hs hk))
     (fun hs hk => (condB_go (K := fun r => K (e9 r))
      (fun hs hk => (q9_at7 K s t bin opacity l_a5 fv6 m_0v6 m_1v6 true s_1v6 (fun i => enc_32 (s_1v6.get i)) rfl hs hk))
      (fun hs hk => (condB_go (K := fun r => K (e9 r))
       (fun hs hk => (q9_at7 K s t bin opacity l_a5 fv6 m_0v6 m_1v6 true s_1v6 (fun i => enc_32 (s_1v6.get i)) rfl hs hk))
       (fun hs hk => (condB_go (K := fun r => K (e9 r))
        (fun hs hk => (q9_at7 K s t bin opacity l_a5 fv6 m_0v6 m_1v6 true s_1v6 (fun i => enc_32 (s_1v6.get i)) rfl hs hk))
        (fun hs hk => (andK hs fun hc hs => ⟨⟨isE, hc⟩, (q9_at7 K s t bin opacity l_a5 fv6 m_0v6 m_1v6 (!(s22 l_a5)) s_1v6 (fun i => enc_32 (s_1v6.get i)) rfl hs hk)⟩)) hs hk)) hs hk)) hs hk)) hs hk)) hs hk)⟩)) hs hk)⟩)
def s9_at4 (s : Sky) (t : (Sl RangeRow)) (bin : Int) (opacity : Int) (l_a5 : (Sl Spell)) (s_1v4 : (Sl (Sl FluxRow))) : Bool :=
  (s9_at6 s t bin opacity l_a5 ((s23 (⟨s.Parts, s_1v4, s.Beta, s.Alpha⟩ : Sky) t bin opacity l_a5).2) s_1v4 (((s23 (⟨s.Parts, s_1v4, s.Beta, s.Alpha⟩ : Sky) t bin opacity l_a5).1).Low) (((s23 (⟨s.Parts, s_1v4, s.Beta, s.Alpha⟩ : Sky) t bin opacity l_a5).1).High))
def p9_at4 (s : Sky) (t : (Sl RangeRow)) (bin : Int) (opacity : Int) (l_a5 : (Sl Spell)) (s_1v4 : (Sl (Sl FluxRow))) : Bool :=
  (decide ((p23 (⟨s.Parts, s_1v4, s.Beta, s.Alpha⟩ : Sky) t bin opacity l_a5 = true)) &&
  (p9_at6 s t bin opacity l_a5 ((s23 (⟨s.Parts, s_1v4, s.Beta, s.Alpha⟩ : Sky) t bin opacity l_a5).2) s_1v4 (((s23 (⟨s.Parts, s_1v4, s.Beta, s.Alpha⟩ : Sky) t bin opacity l_a5).1).Low) (((s23 (⟨s.Parts, s_1v4, s.Beta, s.Alpha⟩ : Sky) t bin opacity l_a5).1).High)))
theorem q9_at4 (K : List PA → Prop) (s : Sky) (t : (Sl RangeRow)) (bin : Int) (opacity : Int) (l_a5 : (Sl Spell)) (s_1v4 : (Sl (Sl FluxRow))) (s_1v4_g : Nat → List PV) (s_1v4_h : s_1v4_g = fun i => enc_32 (s_1v4.get i)) (hs : p9_at4 s t bin opacity l_a5 s_1v4 = true) (hk : K (e9 (s9_at4 s t bin opacity l_a5 s_1v4))) : f9_at4 K s t bin opacity l_a5 s_1v4.len s_1v4_g := by
  subst s_1v4_h
  refine ofEq (f9_eq4 K s t bin opacity l_a5 s_1v4) ?_
  unfold p9_at4 at hs
  unfold s9_at4 at hk
  exact (andK hs fun hc hs => ⟨⟨isE, isE, isE, hc⟩, (q9_at6 K s t bin opacity l_a5 ((s23 (⟨s.Parts, s_1v4, s.Beta, s.Alpha⟩ : Sky) t bin opacity l_a5).2) s_1v4 (((s23 (⟨s.Parts, s_1v4, s.Beta, s.Alpha⟩ : Sky) t bin opacity l_a5).1).Low) (((s23 (⟨s.Parts, s_1v4, s.Beta, s.Alpha⟩ : Sky) t bin opacity l_a5).1).High) (fun i => enc_32 (s_1v4.get i)) rfl hs hk)⟩)
def s9_at5 (s : Sky) (t : (Sl RangeRow)) (bin : Int) (opacity : Int) (l_a5 : (Sl Spell)) (t60v5 : Bool) (s_1v5 : (Sl (Sl FluxRow))) : Bool :=
  (cond t60v5
   false
   (s9_at4 s t bin opacity l_a5 s_1v5))
def p9_at5 (s : Sky) (t : (Sl RangeRow)) (bin : Int) (opacity : Int) (l_a5 : (Sl Spell)) (t60v5 : Bool) (s_1v5 : (Sl (Sl FluxRow))) : Bool :=
  (cond t60v5
   true
   (p9_at4 s t bin opacity l_a5 s_1v5))
theorem q9_at5 (K : List PA → Prop) (s : Sky) (t : (Sl RangeRow)) (bin : Int) (opacity : Int) (l_a5 : (Sl Spell)) (t60v5 : Bool) (s_1v5 : (Sl (Sl FluxRow))) (s_1v5_g : Nat → List PV) (s_1v5_h : s_1v5_g = fun i => enc_32 (s_1v5.get i)) (hs : p9_at5 s t bin opacity l_a5 t60v5 s_1v5 = true) (hk : K (e9 (s9_at5 s t bin opacity l_a5 t60v5 s_1v5))) : f9_at5 K s t bin opacity l_a5 t60v5 s_1v5.len s_1v5_g := by
  subst s_1v5_h
  refine ofEq (f9_eq5 K s t bin opacity l_a5 t60v5 s_1v5) ?_
  unfold p9_at5 at hs
  unfold s9_at5 at hk
  exact (condB_go (K := fun r => K (e9 r))
   (fun hs hk => hk)
   (fun hs hk => (q9_at4 K s t bin opacity l_a5 s_1v5 (fun i => enc_32 (s_1v5.get i)) rfl hs hk)) hs hk)
def s9_at3 (s : Sky) (t : (Sl RangeRow)) (bin : Int) (opacity : Int) (w : Weather) (l_a5 : (Sl Spell)) (ev2 : Int) (a_0v2 : Int) (a_1v2 : Int) (t44v3 : Bool) (s_1v3 : (Sl (Sl FluxRow))) : Bool :=
  (cond t44v3
   (cond (ev2 != (2:Int))
    false
    (cond (!(match (a_0v2 == (0:Int)) with | true => (match (a_1v2 == (0:Int)) with | true => true | false => false) | false => false))
     false
     (s9_at4 s t bin opacity l_a5 s_1v3)))
   (cond (ev2 != (0:Int))
    (s9_at5 s t bin opacity l_a5 true s_1v3)
    (s9_at5 s t bin opacity l_a5 (!(match (a_0v2 == (s37 (⟨s.Parts, s_1v3, s.Beta, s.Alpha⟩ : Sky) w).Low) with | true => (match (a_1v2 == (s37 (⟨s.Parts, s_1v3, s.Beta, s.Alpha⟩ : Sky) w).High) with | true => true | false => false) | false => false)) s_1v3)))
def p9_at3 (s : Sky) (t : (Sl RangeRow)) (bin : Int) (opacity : Int) (w : Weather) (l_a5 : (Sl Spell)) (ev2 : Int) (a_0v2 : Int) (a_1v2 : Int) (t44v3 : Bool) (s_1v3 : (Sl (Sl FluxRow))) : Bool :=
  (cond t44v3
   (cond (ev2 != (2:Int))
    true
    (cond (!(match (a_0v2 == (0:Int)) with | true => (match (a_1v2 == (0:Int)) with | true => true | false => false) | false => false))
     true
     (p9_at4 s t bin opacity l_a5 s_1v3)))
   (cond (ev2 != (0:Int))
    (p9_at5 s t bin opacity l_a5 true s_1v3)
    (decide ((p37 (⟨s.Parts, s_1v3, s.Beta, s.Alpha⟩ : Sky) w = true)) &&
    (p9_at5 s t bin opacity l_a5 (!(match (a_0v2 == (s37 (⟨s.Parts, s_1v3, s.Beta, s.Alpha⟩ : Sky) w).Low) with | true => (match (a_1v2 == (s37 (⟨s.Parts, s_1v3, s.Beta, s.Alpha⟩ : Sky) w).High) with | true => true | false => false) | false => false)) s_1v3))))
theorem q9_at3 (K : List PA → Prop) (s : Sky) (t : (Sl RangeRow)) (bin : Int) (opacity : Int) (w : Weather) (l_a5 : (Sl Spell)) (ev2 : Int) (a_0v2 : Int) (a_1v2 : Int) (t44v3 : Bool) (s_1v3 : (Sl (Sl FluxRow))) (s_1v3_g : Nat → List PV) (s_1v3_h : s_1v3_g = fun i => enc_32 (s_1v3.get i)) (hs : p9_at3 s t bin opacity w l_a5 ev2 a_0v2 a_1v2 t44v3 s_1v3 = true) (hk : K (e9 (s9_at3 s t bin opacity w l_a5 ev2 a_0v2 a_1v2 t44v3 s_1v3))) : f9_at3 K s t bin opacity w l_a5 ev2 a_0v2 a_1v2 t44v3 s_1v3.len s_1v3_g := by
  subst s_1v3_h
  refine ofEq (f9_eq3 K s t bin opacity w l_a5 ev2 a_0v2 a_1v2 t44v3 s_1v3) ?_
  unfold p9_at3 at hs
  unfold s9_at3 at hk
  exact (condB_go (K := fun r => K (e9 r))
   (fun hs hk => (condB_go (K := fun r => K (e9 r))
    (fun hs hk => hk)
    (fun hs hk => (condB_go (K := fun r => K (e9 r))
     (fun hs hk => hk)
     (fun hs hk => (q9_at4 K s t bin opacity l_a5 s_1v3 (fun i => enc_32 (s_1v3.get i)) rfl hs hk)) hs hk)) hs hk))
   (fun hs hk => (condB_go (K := fun r => K (e9 r))
    (fun hs hk => (q9_at5 K s t bin opacity l_a5 true s_1v3 (fun i => enc_32 (s_1v3.get i)) rfl hs hk))
    (fun hs hk => (andK hs fun hc hs => ⟨⟨isE, hc⟩, (q9_at5 K s t bin opacity l_a5 (!(match (a_0v2 == (s37 (⟨s.Parts, s_1v3, s.Beta, s.Alpha⟩ : Sky) w).Low) with | true => (match (a_1v2 == (s37 (⟨s.Parts, s_1v3, s.Beta, s.Alpha⟩ : Sky) w).High) with | true => true | false => false) | false => false)) s_1v3 (fun i => enc_32 (s_1v3.get i)) rfl hs hk)⟩)) hs hk)) hs hk)
def s9_at2 (s : Sky) (t : (Sl RangeRow)) (bin : Int) (opacity : Int) (w : Weather) (l_a5 : (Sl Spell)) (ev2 : Int) (s_1v2 : (Sl (Sl FluxRow))) (a_0v2 : Int) (a_1v2 : Int) : Bool :=
  (cond (!(s16 (⟨s.Parts, s_1v2, s.Beta, s.Alpha⟩ : Sky)))
   (s9_at3 s t bin opacity w l_a5 ev2 a_0v2 a_1v2 true s_1v2)
   (s9_at3 s t bin opacity w l_a5 ev2 a_0v2 a_1v2 (!(s36 w)) s_1v2))
def p9_at2 (s : Sky) (t : (Sl RangeRow)) (bin : Int) (opacity : Int) (w : Weather) (l_a5 : (Sl Spell)) (ev2 : Int) (s_1v2 : (Sl (Sl FluxRow))) (a_0v2 : Int) (a_1v2 : Int) : Bool :=
  (decide ((p16 (⟨s.Parts, s_1v2, s.Beta, s.Alpha⟩ : Sky) = true)) &&
  (cond (!(s16 (⟨s.Parts, s_1v2, s.Beta, s.Alpha⟩ : Sky)))
   (p9_at3 s t bin opacity w l_a5 ev2 a_0v2 a_1v2 true s_1v2)
   (p9_at3 s t bin opacity w l_a5 ev2 a_0v2 a_1v2 (!(s36 w)) s_1v2)))
theorem q9_at2 (K : List PA → Prop) (s : Sky) (t : (Sl RangeRow)) (bin : Int) (opacity : Int) (w : Weather) (l_a5 : (Sl Spell)) (ev2 : Int) (s_1v2 : (Sl (Sl FluxRow))) (a_0v2 : Int) (a_1v2 : Int) (s_1v2_g : Nat → List PV) (s_1v2_h : s_1v2_g = fun i => enc_32 (s_1v2.get i)) (hs : p9_at2 s t bin opacity w l_a5 ev2 s_1v2 a_0v2 a_1v2 = true) (hk : K (e9 (s9_at2 s t bin opacity w l_a5 ev2 s_1v2 a_0v2 a_1v2))) : f9_at2 K s t bin opacity w l_a5 ev2 s_1v2.len s_1v2_g a_0v2 a_1v2 := by
  subst s_1v2_h
  refine ofEq (f9_eq2 K s t bin opacity w l_a5 ev2 s_1v2 a_0v2 a_1v2) ?_
  unfold p9_at2 at hs
  unfold s9_at2 at hk
  exact (andK hs fun hc hs => ⟨⟨isE, hc⟩, (condB_go (K := fun r => K (e9 r))
   (fun hs hk => (q9_at3 K s t bin opacity w l_a5 ev2 a_0v2 a_1v2 true s_1v2 (fun i => enc_32 (s_1v2.get i)) rfl hs hk))
   (fun hs hk => (q9_at3 K s t bin opacity w l_a5 ev2 a_0v2 a_1v2 (!(s36 w)) s_1v2 (fun i => enc_32 (s_1v2.get i)) rfl hs hk)) hs hk)⟩)
def s9_at1 (s : Sky) (t : (Sl RangeRow)) (bin : Int) (opacity : Int) (w : Weather) (l_a5 : (Sl Spell)) (s_1v1 : (Sl (Sl FluxRow))) : Bool :=
  (s9_at2 s t bin opacity w l_a5 ((s35 (⟨s.Parts, s_1v1, s.Beta, s.Alpha⟩ : Sky) w).2) s_1v1 (((s35 (⟨s.Parts, s_1v1, s.Beta, s.Alpha⟩ : Sky) w).1).Low) (((s35 (⟨s.Parts, s_1v1, s.Beta, s.Alpha⟩ : Sky) w).1).High))
def p9_at1 (s : Sky) (t : (Sl RangeRow)) (bin : Int) (opacity : Int) (w : Weather) (l_a5 : (Sl Spell)) (s_1v1 : (Sl (Sl FluxRow))) : Bool :=
  (decide ((p35 (⟨s.Parts, s_1v1, s.Beta, s.Alpha⟩ : Sky) w = true)) &&
  (p9_at2 s t bin opacity w l_a5 ((s35 (⟨s.Parts, s_1v1, s.Beta, s.Alpha⟩ : Sky) w).2) s_1v1 (((s35 (⟨s.Parts, s_1v1, s.Beta, s.Alpha⟩ : Sky) w).1).Low) (((s35 (⟨s.Parts, s_1v1, s.Beta, s.Alpha⟩ : Sky) w).1).High)))
theorem q9_at1 (K : List PA → Prop) (s : Sky) (t : (Sl RangeRow)) (bin : Int) (opacity : Int) (w : Weather) (l_a5 : (Sl Spell)) (s_1v1 : (Sl (Sl FluxRow))) (s_1v1_g : Nat → List PV) (s_1v1_h : s_1v1_g = fun i => enc_32 (s_1v1.get i)) (hs : p9_at1 s t bin opacity w l_a5 s_1v1 = true) (hk : K (e9 (s9_at1 s t bin opacity w l_a5 s_1v1))) : f9_at1 K s t bin opacity w l_a5 s_1v1.len s_1v1_g := by
  subst s_1v1_h
  refine ofEq (f9_eq1 K s t bin opacity w l_a5 s_1v1) ?_
  unfold p9_at1 at hs
  unfold s9_at1 at hk
  exact (andK hs fun hc hs => ⟨⟨isE, hc⟩, (q9_at2 K s t bin opacity w l_a5 ((s35 (⟨s.Parts, s_1v1, s.Beta, s.Alpha⟩ : Sky) w).2) s_1v1 (((s35 (⟨s.Parts, s_1v1, s.Beta, s.Alpha⟩ : Sky) w).1).Low) (((s35 (⟨s.Parts, s_1v1, s.Beta, s.Alpha⟩ : Sky) w).1).High) (fun i => enc_32 (s_1v1.get i)) rfl hs hk)⟩)
def s9_at0 (s : Sky) (t : (Sl RangeRow)) (bin : Int) (opacity : Int) (w : Weather) (l_a5 : (Sl Spell)) (t29v0 : Bool) (s_1v0 : (Sl (Sl FluxRow))) : Bool :=
  (cond t29v0
   true
   (s9_at1 s t bin opacity w l_a5 s_1v0))
def p9_at0 (s : Sky) (t : (Sl RangeRow)) (bin : Int) (opacity : Int) (w : Weather) (l_a5 : (Sl Spell)) (t29v0 : Bool) (s_1v0 : (Sl (Sl FluxRow))) : Bool :=
  (cond t29v0
   true
   (p9_at1 s t bin opacity w l_a5 s_1v0))
theorem q9_at0 (K : List PA → Prop) (s : Sky) (t : (Sl RangeRow)) (bin : Int) (opacity : Int) (w : Weather) (l_a5 : (Sl Spell)) (t29v0 : Bool) (s_1v0 : (Sl (Sl FluxRow))) (s_1v0_g : Nat → List PV) (s_1v0_h : s_1v0_g = fun i => enc_32 (s_1v0.get i)) (hs : p9_at0 s t bin opacity w l_a5 t29v0 s_1v0 = true) (hk : K (e9 (s9_at0 s t bin opacity w l_a5 t29v0 s_1v0))) : f9_at0 K s t bin opacity w l_a5 t29v0 s_1v0.len s_1v0_g := by
  subst s_1v0_h
  refine ofEq (f9_eq0 K s t bin opacity w l_a5 t29v0 s_1v0) ?_
  unfold p9_at0 at hs
  unfold s9_at0 at hk
  exact (condB_go (K := fun r => K (e9 r))
   (fun hs hk => hk)
   (fun hs hk => (q9_at1 K s t bin opacity w l_a5 s_1v0 (fun i => enc_32 (s_1v0.get i)) rfl hs hk)) hs hk)
def s9 (s : Sky) (t : (Sl RangeRow)) (bin : Int) (opacity : Int) (w : Weather) (l_a5 : (Sl Spell)) : Bool :=
  (cond (!(s15 s t))
   (s9_at0 s t bin opacity w l_a5 true s.Bins)
   (s9_at0 s t bin opacity w l_a5 (decide ((l_a5.len : Int) > (60:Int))) s.Bins))
def p9 (s : Sky) (t : (Sl RangeRow)) (bin : Int) (opacity : Int) (w : Weather) (l_a5 : (Sl Spell)) : Bool :=
  (decide ((p15 s t = true)) &&
  (cond (!(s15 s t))
   (p9_at0 s t bin opacity w l_a5 true s.Bins)
   (p9_at0 s t bin opacity w l_a5 (decide ((l_a5.len : Int) > (60:Int))) s.Bins)))
theorem q9 (s : Sky) (t : (Sl RangeRow)) (bin : Int) (opacity : Int) (w : Weather) (l_a5 : (Sl Spell)) (K : List PA → Prop) (hs : p9 s t bin opacity w l_a5 = true) (hk : K (e9 (s9 s t bin opacity w l_a5))) : vcFun Try.prog G9 ann9 9 [.agg [.int .i64 s.Parts, .sl s.Bins.len 1 (fun i => enc_32 (s.Bins.get i)), .int .i64 s.Beta.Low, .int .i64 s.Beta.High, .int .i64 s.Alpha.Low, .int .i64 s.Alpha.High], .one (.sl t.len 3 (fun i => enc_42 (t.get i))), .one (.int .i64 bin), .one (.int .i64 opacity), .agg [.int .i64 w.Pressure.Low, .int .i64 w.Pressure.High, .int .i64 w.Warm.Low, .int .i64 w.Warm.High], .one (.sl l_a5.len 5 (fun i => enc_56 (l_a5.get i)))] K := by
  refine ofEq (f9_top s t bin opacity w l_a5 K) ?_
  unfold p9 at hs
  unfold s9 at hk
  exact (andK hs fun hc hs => ⟨⟨isE, isE, hc⟩, (condB_go (K := fun r => K (e9 r))
   (fun hs hk => (q9_at0 K s t bin opacity w l_a5 true s.Bins (fun i => enc_32 (s.Bins.get i)) rfl hs hk))
   (fun hs hk => (q9_at0 K s t bin opacity w l_a5 (decide ((l_a5.len : Int) > (60:Int))) s.Bins (fun i => enc_32 (s.Bins.get i)) rfl hs hk)) hs hk)⟩)
def ctr9 : List PA → COut
  | [.agg [.int .i64 a0_Parts, .sl a0_Bins_n a0_Bins_s a0_Bins_g, .int .i64 a0_Beta_Low, .int .i64 a0_Beta_High, .int .i64 a0_Alpha_Low, .int .i64 a0_Alpha_High], .one (.sl a1_n a1_s a1_g), .one (.int .i64 a2), .one (.int .i64 a3), .agg [.int .i64 a4_Pressure_Low, .int .i64 a4_Pressure_High, .int .i64 a4_Warm_Low, .int .i64 a4_Warm_High], .one (.sl a5_n a5_s a5_g)] => .det (IsE enc_32 1 a0_Bins_s a0_Bins_g ∧ IsE enc_42 3 a1_s a1_g ∧ IsE enc_56 5 a5_s a5_g ∧ p9 (⟨a0_Parts, (⟨a0_Bins_n, decF_32 a0_Bins_g⟩ : (Sl (Sl FluxRow))), (⟨a0_Beta_Low, a0_Beta_High⟩ : Span), (⟨a0_Alpha_Low, a0_Alpha_High⟩ : Span)⟩ : Sky) (⟨a1_n, decF_42 a1_g⟩ : (Sl RangeRow)) a2 a3 (⟨(⟨a4_Pressure_Low, a4_Pressure_High⟩ : Span), (⟨a4_Warm_Low, a4_Warm_High⟩ : Span)⟩ : Weather) (⟨a5_n, decF_56 a5_g⟩ : (Sl Spell)) = true) [.one (.bool (s9 (⟨a0_Parts, (⟨a0_Bins_n, decF_32 a0_Bins_g⟩ : (Sl (Sl FluxRow))), (⟨a0_Beta_Low, a0_Beta_High⟩ : Span), (⟨a0_Alpha_Low, a0_Alpha_High⟩ : Span)⟩ : Sky) (⟨a1_n, decF_42 a1_g⟩ : (Sl RangeRow)) a2 a3 (⟨(⟨a4_Pressure_Low, a4_Pressure_High⟩ : Span), (⟨a4_Warm_Low, a4_Warm_High⟩ : Span)⟩ : Weather) (⟨a5_n, decF_56 a5_g⟩ : (Sl Spell))))]
  | _ => .no
theorem call9 : Callable Try.prog 9 := ⟨_, rfl, rfl, by kernel_rfl⟩
theorem ok9 : Ok Try.prog 9 ctr9 := ok_tab okT9 call9 fun args K h => by
  unfold ctr9 at h
  split at h
  · rename_i a0_Parts a0_Bins_n a0_Bins_s a0_Bins_g a0_Beta_Low a0_Beta_High a0_Alpha_Low a0_Alpha_High a1_n a1_s a1_g a2 a3 a4_Pressure_Low a4_Pressure_High a4_Warm_Low a4_Warm_High a5_n a5_s a5_g
    obtain ⟨⟨⟨rfl, a0_Bins_f, rfl⟩, ⟨rfl, a1_f, rfl⟩, ⟨rfl, a5_f, rfl⟩, hs⟩, hk⟩ := h
    try rw [decF_enc_32 a0_Bins_f] at hs
    try rw [decF_enc_32 a0_Bins_f] at hk
    try rw [decF_enc_42 a1_f] at hs
    try rw [decF_enc_42 a1_f] at hk
    try rw [decF_enc_56 a5_f] at hs
    try rw [decF_enc_56 a5_f] at hk
    exact ⟨(fun _ _ => []), (fun _ => false), ann9, q9 (⟨a0_Parts, (⟨a0_Bins_n, a0_Bins_f⟩ : (Sl (Sl FluxRow))), (⟨a0_Beta_Low, a0_Beta_High⟩ : Span), (⟨a0_Alpha_Low, a0_Alpha_High⟩ : Span)⟩ : Sky) (⟨a1_n, a1_f⟩ : (Sl RangeRow)) a2 a3 (⟨(⟨a4_Pressure_Low, a4_Pressure_High⟩ : Span), (⟨a4_Warm_Low, a4_Warm_High⟩ : Span)⟩ : Weather) (⟨a5_n, a5_f⟩ : (Sl Spell)) K hs hk⟩
  · exact h.elim
end Go.Proofs
namespace Go.Proofs
open Go Go.Pm
set_option maxRecDepth 100000
set_option linter.unusedVariables false
attribute [local irreducible] Go.Pm.vcFun Go.Pm.vc Go.Pm.vcIter
theorem C_3 : Try.prog.cellsOf 3 = 1 := by kernel_rfl
theorem C_4 : Try.prog.cellsOf 4 = 1 := by kernel_rfl
theorem C_22 : Try.prog.cellsOf 22 = 1 := by kernel_rfl
theorem C_24 : Try.prog.cellsOf 24 = 2 := by kernel_rfl
theorem C_26 : Try.prog.cellsOf 26 = 6 := by kernel_rfl
theorem C_27 : Try.prog.cellsOf 27 = 1 := by kernel_rfl
theorem C_32 : Try.prog.cellsOf 32 = 1 := by kernel_rfl
theorem C_37 : Try.prog.cellsOf 37 = 1 := by kernel_rfl
theorem C_39 : Try.prog.cellsOf 39 = 3 := by kernel_rfl
theorem C_42 : Try.prog.cellsOf 42 = 3 := by kernel_rfl
theorem C_44 : Try.prog.cellsOf 44 = 3 := by kernel_rfl
theorem C_46 : Try.prog.cellsOf 46 = 1 := by kernel_rfl
theorem C_47 : Try.prog.cellsOf 47 = 1 := by kernel_rfl
theorem C_52 : Try.prog.cellsOf 52 = 2 := by kernel_rfl
theorem C_54 : Try.prog.cellsOf 54 = 4 := by kernel_rfl
theorem C_56 : Try.prog.cellsOf 56 = 5 := by kernel_rfl
theorem C_97 : Try.prog.cellsOf 97 = 1 := by kernel_rfl
theorem C_129 : Try.prog.cellsOf 129 = 3 := by kernel_rfl
abbrev wf_3 (x : Int) : Prop := wfI x
theorem rd_3 {H : Type} {en : TypeId × Value → H} {w : World} {sp : Nat → Bool} {held : Bool} : Rd H en Try.prog w sp held 3 enc_3 wf_3 := rd_int Try.underlying3
def wf_24 (x : Span) : Prop := wf_3 x.Low ∧ wf_3 x.High
theorem rd_24 {H : Type} {en : TypeId × Value → H} {w : World} {sp : Nat → Bool} {held : Bool} : Rd H en Try.prog w sp held 24 enc_24 wf_24 := by
  intro fuel cs x h
  obtain ⟨hl, hf⟩ := rd_struct Try.underlying24 h
  rw [C_24] at hl
  obtain ⟨n0, y0, g0⟩ := hf 0 _ rfl
  have g0 : DataW.trod en Try.prog w 0 sp held n0 3 ((cs.drop 0).take (Try.prog.cellsOf 3)) = some y0 := g0
  rw [C_3] at g0
  obtain ⟨a0, r0, w0⟩ := rd_3 _ _ _ g0
  obtain ⟨n1, y1, g1⟩ := hf 1 _ rfl
  have g1 : DataW.trod en Try.prog w 0 sp held n1 3 ((cs.drop 1).take (Try.prog.cellsOf 3)) = some y1 := g1
  rw [C_3] at g1
  obtain ⟨a1, r1, w1⟩ := rd_3 _ _ _ g1
  have z : cs.drop 2 = [] := List.drop_eq_nil_of_le (by omega)
  have R := (r0.append (r1.append (show RL (Rep (H0 w)) [] (cs.drop 2) by rw [z]; exact rl_n)))
  rw [← (show cs.drop 1 = (cs.drop 1).take 1 ++ cs.drop 2 from split_drop cs 1 1)] at R
  rw [← (show cs.drop 0 = (cs.drop 0).take 1 ++ cs.drop 1 from split_drop cs 0 1)] at R
  exact ⟨⟨a0, a1⟩, R, ⟨w0, w1⟩⟩
def wf_44 (x : FluxRow) : Prop := wf_3 x.Energy ∧ wf_24 x.Rate
theorem rd_44 {H : Type} {en : TypeId × Value → H} {w : World} {sp : Nat → Bool} {held : Bool} : Rd H en Try.prog w sp held 44 enc_44 wf_44 := by
  intro fuel cs x h
  obtain ⟨hl, hf⟩ := rd_struct Try.underlying44 h
  rw [C_44] at hl
  obtain ⟨n0, y0, g0⟩ := hf 0 _ rfl
  have g0 : DataW.trod en Try.prog w 0 sp held n0 3 ((cs.drop 0).take (Try.prog.cellsOf 3)) = some y0 := g0
  rw [C_3] at g0
  obtain ⟨a0, r0, w0⟩ := rd_3 _ _ _ g0
  obtain ⟨n1, y1, g1⟩ := hf 1 _ rfl
  have g1 : DataW.trod en Try.prog w 0 sp held n1 24 ((cs.drop 1).take (Try.prog.cellsOf 24)) = some y1 := g1
  rw [C_24] at g1
  obtain ⟨a1, r1, w1⟩ := rd_24 _ _ _ g1
  have z : cs.drop 3 = [] := List.drop_eq_nil_of_le (by omega)
  have R := (r0.append (r1.append (show RL (Rep (H0 w)) [] (cs.drop 3) by rw [z]; exact rl_n)))
  rw [← (show cs.drop 1 = (cs.drop 1).take 2 ++ cs.drop 3 from split_drop cs 1 2)] at R
  rw [← (show cs.drop 0 = (cs.drop 0).take 1 ++ cs.drop 1 from split_drop cs 0 1)] at R
  exact ⟨⟨a0, a1⟩, R, ⟨w0, w1⟩⟩
def wf_32 (x : (Sl FluxRow)) : Prop := x.len ≤ 9223372036854775807 ∧ ∀ i, i < x.len → wf_44 (x.get i)
theorem rd_32 {H : Type} {en : TypeId × Value → H} {w : World} {sp : Nat → Bool} {held : Bool} : Rd H en Try.prog w sp held 32 enc_32 wf_32 := rd_slice Try.underlying32 C_44 (by decide) (fun _ => rfl) rd_44
def wf_22 (x : (Sl (Sl FluxRow))) : Prop := x.len ≤ 9223372036854775807 ∧ ∀ i, i < x.len → wf_32 (x.get i)
theorem rd_22 {H : Type} {en : TypeId × Value → H} {w : World} {sp : Nat → Bool} {held : Bool} : Rd H en Try.prog w sp held 22 enc_22 wf_22 := rd_slice Try.underlying22 C_32 (by decide) (fun _ => rfl) rd_32
def wf_26 (x : Sky) : Prop := wf_3 x.Parts ∧ wf_22 x.Bins ∧ wf_24 x.Beta ∧ wf_24 x.Alpha
theorem rd_26 {H : Type} {en : TypeId × Value → H} {w : World} {sp : Nat → Bool} {held : Bool} : Rd H en Try.prog w sp held 26 enc_26 wf_26 := by
  intro fuel cs x h
  obtain ⟨hl, hf⟩ := rd_struct Try.underlying26 h
  rw [C_26] at hl
  obtain ⟨n0, y0, g0⟩ := hf 0 _ rfl
  have g0 : DataW.trod en Try.prog w 0 sp held n0 3 ((cs.drop 0).take (Try.prog.cellsOf 3)) = some y0 := g0
  rw [C_3] at g0
  obtain ⟨a0, r0, w0⟩ := rd_3 _ _ _ g0
  obtain ⟨n1, y1, g1⟩ := hf 1 _ rfl
  have g1 : DataW.trod en Try.prog w 0 sp held n1 22 ((cs.drop 1).take (Try.prog.cellsOf 22)) = some y1 := g1
  rw [C_22] at g1
  obtain ⟨a1, r1, w1⟩ := rd_22 _ _ _ g1
  obtain ⟨n2, y2, g2⟩ := hf 2 _ rfl
  have g2 : DataW.trod en Try.prog w 0 sp held n2 24 ((cs.drop 2).take (Try.prog.cellsOf 24)) = some y2 := g2
  rw [C_24] at g2
  obtain ⟨a2, r2, w2⟩ := rd_24 _ _ _ g2
  obtain ⟨n3, y3, g3⟩ := hf 3 _ rfl
  have g3 : DataW.trod en Try.prog w 0 sp held n3 24 ((cs.drop 4).take (Try.prog.cellsOf 24)) = some y3 := g3
  rw [C_24] at g3
  obtain ⟨a3, r3, w3⟩ := rd_24 _ _ _ g3
  have z : cs.drop 6 = [] := List.drop_eq_nil_of_le (by omega)
  have R := (r0.append (r1.append (r2.append (r3.append (show RL (Rep (H0 w)) [] (cs.drop 6) by rw [z]; exact rl_n)))))
  rw [← (show cs.drop 4 = (cs.drop 4).take 2 ++ cs.drop 6 from split_drop cs 4 2)] at R
  rw [← (show cs.drop 2 = (cs.drop 2).take 2 ++ cs.drop 4 from split_drop cs 2 2)] at R
  rw [← (show cs.drop 1 = (cs.drop 1).take 1 ++ cs.drop 2 from split_drop cs 1 1)] at R
  rw [← (show cs.drop 0 = (cs.drop 0).take 1 ++ cs.drop 1 from split_drop cs 0 1)] at R
  exact ⟨⟨a0, a1, a2, a3⟩, R, ⟨w0, w1, w2, w3⟩⟩
def wf_42 (x : RangeRow) : Prop := wf_3 x.Energy ∧ wf_24 x.Range
theorem rd_42 {H : Type} {en : TypeId × Value → H} {w : World} {sp : Nat → Bool} {held : Bool} : Rd H en Try.prog w sp held 42 enc_42 wf_42 := by
  intro fuel cs x h
  obtain ⟨hl, hf⟩ := rd_struct Try.underlying42 h
  rw [C_42] at hl
  obtain ⟨n0, y0, g0⟩ := hf 0 _ rfl
  have g0 : DataW.trod en Try.prog w 0 sp held n0 3 ((cs.drop 0).take (Try.prog.cellsOf 3)) = some y0 := g0
  rw [C_3] at g0
  obtain ⟨a0, r0, w0⟩ := rd_3 _ _ _ g0
  obtain ⟨n1, y1, g1⟩ := hf 1 _ rfl
  have g1 : DataW.trod en Try.prog w 0 sp held n1 24 ((cs.drop 1).take (Try.prog.cellsOf 24)) = some y1 := g1
  rw [C_24] at g1
  obtain ⟨a1, r1, w1⟩ := rd_24 _ _ _ g1
  have z : cs.drop 3 = [] := List.drop_eq_nil_of_le (by omega)
  have R := (r0.append (r1.append (show RL (Rep (H0 w)) [] (cs.drop 3) by rw [z]; exact rl_n)))
  rw [← (show cs.drop 1 = (cs.drop 1).take 2 ++ cs.drop 3 from split_drop cs 1 2)] at R
  rw [← (show cs.drop 0 = (cs.drop 0).take 1 ++ cs.drop 1 from split_drop cs 0 1)] at R
  exact ⟨⟨a0, a1⟩, R, ⟨w0, w1⟩⟩
def wf_27 (x : (Sl RangeRow)) : Prop := x.len ≤ 9223372036854775807 ∧ ∀ i, i < x.len → wf_42 (x.get i)
theorem rd_27 {H : Type} {en : TypeId × Value → H} {w : World} {sp : Nat → Bool} {held : Bool} : Rd H en Try.prog w sp held 27 enc_27 wf_27 := rd_slice Try.underlying27 C_42 (by decide) (fun _ => rfl) rd_42
def wf_37 (x : (Sl Int)) : Prop := x.len ≤ 9223372036854775807 ∧ ∀ i, i < x.len → wf_3 (x.get i)
theorem rd_37 {H : Type} {en : TypeId × Value → H} {w : World} {sp : Nat → Bool} {held : Bool} : Rd H en Try.prog w sp held 37 enc_37 wf_37 := rd_slice Try.underlying37 C_3 (by decide) (fun _ => rfl) rd_3
abbrev wf_4 (_ : Bool) : Prop := True
theorem rd_4 {H : Type} {en : TypeId × Value → H} {w : World} {sp : Nat → Bool} {held : Bool} : Rd H en Try.prog w sp held 4 enc_4 wf_4 := rd_bool Try.underlying4
def wf_39 (x : Nature) : Prop := wf_37 x.Ranges ∧ wf_37 x.Rates ∧ wf_4 x.Soon
theorem rd_39 {H : Type} {en : TypeId × Value → H} {w : World} {sp : Nat → Bool} {held : Bool} : Rd H en Try.prog w sp held 39 enc_39 wf_39 := by
  intro fuel cs x h
  obtain ⟨hl, hf⟩ := rd_struct Try.underlying39 h
  rw [C_39] at hl
  obtain ⟨n0, y0, g0⟩ := hf 0 _ rfl
  have g0 : DataW.trod en Try.prog w 0 sp held n0 37 ((cs.drop 0).take (Try.prog.cellsOf 37)) = some y0 := g0
  rw [C_37] at g0
  obtain ⟨a0, r0, w0⟩ := rd_37 _ _ _ g0
  obtain ⟨n1, y1, g1⟩ := hf 1 _ rfl
  have g1 : DataW.trod en Try.prog w 0 sp held n1 37 ((cs.drop 1).take (Try.prog.cellsOf 37)) = some y1 := g1
  rw [C_37] at g1
  obtain ⟨a1, r1, w1⟩ := rd_37 _ _ _ g1
  obtain ⟨n2, y2, g2⟩ := hf 2 _ rfl
  have g2 : DataW.trod en Try.prog w 0 sp held n2 4 ((cs.drop 2).take (Try.prog.cellsOf 4)) = some y2 := g2
  rw [C_4] at g2
  obtain ⟨a2, r2, w2⟩ := rd_4 _ _ _ g2
  have z : cs.drop 3 = [] := List.drop_eq_nil_of_le (by omega)
  have R := (r0.append (r1.append (r2.append (show RL (Rep (H0 w)) [] (cs.drop 3) by rw [z]; exact rl_n))))
  rw [← (show cs.drop 2 = (cs.drop 2).take 1 ++ cs.drop 3 from split_drop cs 2 1)] at R
  rw [← (show cs.drop 1 = (cs.drop 1).take 1 ++ cs.drop 2 from split_drop cs 1 1)] at R
  rw [← (show cs.drop 0 = (cs.drop 0).take 1 ++ cs.drop 1 from split_drop cs 0 1)] at R
  exact ⟨⟨a0, a1, a2⟩, R, ⟨w0, w1, w2⟩⟩
def wf_54 (x : Weather) : Prop := wf_24 x.Pressure ∧ wf_24 x.Warm
theorem rd_54 {H : Type} {en : TypeId × Value → H} {w : World} {sp : Nat → Bool} {held : Bool} : Rd H en Try.prog w sp held 54 enc_54 wf_54 := by
  intro fuel cs x h
  obtain ⟨hl, hf⟩ := rd_struct Try.underlying54 h
  rw [C_54] at hl
  obtain ⟨n0, y0, g0⟩ := hf 0 _ rfl
  have g0 : DataW.trod en Try.prog w 0 sp held n0 24 ((cs.drop 0).take (Try.prog.cellsOf 24)) = some y0 := g0
  rw [C_24] at g0
  obtain ⟨a0, r0, w0⟩ := rd_24 _ _ _ g0
  obtain ⟨n1, y1, g1⟩ := hf 1 _ rfl
  have g1 : DataW.trod en Try.prog w 0 sp held n1 24 ((cs.drop 2).take (Try.prog.cellsOf 24)) = some y1 := g1
  rw [C_24] at g1
  obtain ⟨a1, r1, w1⟩ := rd_24 _ _ _ g1
  have z : cs.drop 4 = [] := List.drop_eq_nil_of_le (by omega)
  have R := (r0.append (r1.append (show RL (Rep (H0 w)) [] (cs.drop 4) by rw [z]; exact rl_n)))
  rw [← (show cs.drop 2 = (cs.drop 2).take 2 ++ cs.drop 4 from split_drop cs 2 2)] at R
  rw [← (show cs.drop 0 = (cs.drop 0).take 2 ++ cs.drop 2 from split_drop cs 0 2)] at R
  exact ⟨⟨a0, a1⟩, R, ⟨w0, w1⟩⟩
def wf_56 (x : Spell) : Prop := wf_3 x.Slots ∧ wf_54 x.Weather
theorem rd_56 {H : Type} {en : TypeId × Value → H} {w : World} {sp : Nat → Bool} {held : Bool} : Rd H en Try.prog w sp held 56 enc_56 wf_56 := by
  intro fuel cs x h
  obtain ⟨hl, hf⟩ := rd_struct Try.underlying56 h
  rw [C_56] at hl
  obtain ⟨n0, y0, g0⟩ := hf 0 _ rfl
  have g0 : DataW.trod en Try.prog w 0 sp held n0 3 ((cs.drop 0).take (Try.prog.cellsOf 3)) = some y0 := g0
  rw [C_3] at g0
  obtain ⟨a0, r0, w0⟩ := rd_3 _ _ _ g0
  obtain ⟨n1, y1, g1⟩ := hf 1 _ rfl
  have g1 : DataW.trod en Try.prog w 0 sp held n1 54 ((cs.drop 1).take (Try.prog.cellsOf 54)) = some y1 := g1
  rw [C_54] at g1
  obtain ⟨a1, r1, w1⟩ := rd_54 _ _ _ g1
  have z : cs.drop 5 = [] := List.drop_eq_nil_of_le (by omega)
  have R := (r0.append (r1.append (show RL (Rep (H0 w)) [] (cs.drop 5) by rw [z]; exact rl_n)))
  rw [← (show cs.drop 1 = (cs.drop 1).take 4 ++ cs.drop 5 from split_drop cs 1 4)] at R
  rw [← (show cs.drop 0 = (cs.drop 0).take 1 ++ cs.drop 1 from split_drop cs 0 1)] at R
  exact ⟨⟨a0, a1⟩, R, ⟨w0, w1⟩⟩
def wf_46 (x : (Sl Spell)) : Prop := x.len ≤ 9223372036854775807 ∧ ∀ i, i < x.len → wf_56 (x.get i)
theorem rd_46 {H : Type} {en : TypeId × Value → H} {w : World} {sp : Nat → Bool} {held : Bool} : Rd H en Try.prog w sp held 46 enc_46 wf_46 := rd_slice Try.underlying46 C_56 (by decide) (fun _ => rfl) rd_56
def wf_52 (x : Sample) : Prop := wf_3 x.Pressure ∧ wf_3 x.Warm
theorem rd_52 {H : Type} {en : TypeId × Value → H} {w : World} {sp : Nat → Bool} {held : Bool} : Rd H en Try.prog w sp held 52 enc_52 wf_52 := by
  intro fuel cs x h
  obtain ⟨hl, hf⟩ := rd_struct Try.underlying52 h
  rw [C_52] at hl
  obtain ⟨n0, y0, g0⟩ := hf 0 _ rfl
  have g0 : DataW.trod en Try.prog w 0 sp held n0 3 ((cs.drop 0).take (Try.prog.cellsOf 3)) = some y0 := g0
  rw [C_3] at g0
  obtain ⟨a0, r0, w0⟩ := rd_3 _ _ _ g0
  obtain ⟨n1, y1, g1⟩ := hf 1 _ rfl
  have g1 : DataW.trod en Try.prog w 0 sp held n1 3 ((cs.drop 1).take (Try.prog.cellsOf 3)) = some y1 := g1
  rw [C_3] at g1
  obtain ⟨a1, r1, w1⟩ := rd_3 _ _ _ g1
  have z : cs.drop 2 = [] := List.drop_eq_nil_of_le (by omega)
  have R := (r0.append (r1.append (show RL (Rep (H0 w)) [] (cs.drop 2) by rw [z]; exact rl_n)))
  rw [← (show cs.drop 1 = (cs.drop 1).take 1 ++ cs.drop 2 from split_drop cs 1 1)] at R
  rw [← (show cs.drop 0 = (cs.drop 0).take 1 ++ cs.drop 1 from split_drop cs 0 1)] at R
  exact ⟨⟨a0, a1⟩, R, ⟨w0, w1⟩⟩
def wf_47 (x : (Sl Sample)) : Prop := x.len ≤ 9223372036854775807 ∧ ∀ i, i < x.len → wf_52 (x.get i)
theorem rd_47 {H : Type} {en : TypeId × Value → H} {w : World} {sp : Nat → Bool} {held : Bool} : Rd H en Try.prog w sp held 47 enc_47 wf_47 := rd_slice Try.underlying47 C_52 (by decide) (fun _ => rfl) rd_52
def wf_129 (x : KinkRow) : Prop := wf_3 x.Opacity ∧ wf_24 x.Share
theorem rd_129 {H : Type} {en : TypeId × Value → H} {w : World} {sp : Nat → Bool} {held : Bool} : Rd H en Try.prog w sp held 129 enc_129 wf_129 := by
  intro fuel cs x h
  obtain ⟨hl, hf⟩ := rd_struct Try.underlying129 h
  rw [C_129] at hl
  obtain ⟨n0, y0, g0⟩ := hf 0 _ rfl
  have g0 : DataW.trod en Try.prog w 0 sp held n0 3 ((cs.drop 0).take (Try.prog.cellsOf 3)) = some y0 := g0
  rw [C_3] at g0
  obtain ⟨a0, r0, w0⟩ := rd_3 _ _ _ g0
  obtain ⟨n1, y1, g1⟩ := hf 1 _ rfl
  have g1 : DataW.trod en Try.prog w 0 sp held n1 24 ((cs.drop 1).take (Try.prog.cellsOf 24)) = some y1 := g1
  rw [C_24] at g1
  obtain ⟨a1, r1, w1⟩ := rd_24 _ _ _ g1
  have z : cs.drop 3 = [] := List.drop_eq_nil_of_le (by omega)
  have R := (r0.append (r1.append (show RL (Rep (H0 w)) [] (cs.drop 3) by rw [z]; exact rl_n)))
  rw [← (show cs.drop 1 = (cs.drop 1).take 2 ++ cs.drop 3 from split_drop cs 1 2)] at R
  rw [← (show cs.drop 0 = (cs.drop 0).take 1 ++ cs.drop 1 from split_drop cs 0 1)] at R
  exact ⟨⟨a0, a1⟩, R, ⟨w0, w1⟩⟩
def wf_97 (x : (Sl KinkRow)) : Prop := x.len ≤ 9223372036854775807 ∧ ∀ i, i < x.len → wf_129 (x.get i)
theorem rd_97 {H : Type} {en : TypeId × Value → H} {w : World} {sp : Nat → Bool} {held : Bool} : Rd H en Try.prog w sp held 97 enc_97 wf_97 := rd_slice Try.underlying97 C_129 (by decide) (fun _ => rfl) rd_129
end Go.Proofs
namespace Go.Proofs
open Go Go.Pm
set_option linter.unusedVariables false
theorem s63_eq (n lo hi : Int) : s63 n lo hi = decide (lo ≤ n ∧ n ≤ hi) := by
  unfold s63
  by_cases h1 : lo ≤ n <;> by_cases h2 : n ≤ hi <;> simp [h1, h2]
theorem s58_eq (n lo hi : Int) : s58 n lo hi = decide (lo ≤ n ∧ n ≤ hi) := by
  unfold s58
  by_cases h1 : lo ≤ n <;> by_cases h2 : n ≤ hi <;> simp [h1, h2]
theorem s69_eq (s : Span) (lo hi : Int) : s69 s lo hi = decide (lo ≤ s.Low ∧ s.Low ≤ s.High ∧ s.High ≤ hi) := by
  unfold s69
  rw [s63_eq]
  by_cases h1 : lo ≤ s.Low <;> by_cases h2 : s.Low ≤ s.High <;> by_cases h3 : s.High ≤ hi <;> simp [h1, h2, h3]
theorem s29_eq (s : Span) (lo hi : Int) : s29 s lo hi = decide (lo ≤ s.Low ∧ s.Low ≤ s.High ∧ s.High ≤ hi) := by
  unfold s29
  by_cases h1 : lo ≤ s.Low <;> by_cases h2 : s.Low ≤ s.High <;> by_cases h3 : s.High ≤ hi <;> simp [h1, h2, h3]
theorem s94_eq (a b : Span) : s94 a b = decide (a.Low ≤ b.Low ∧ a.High ≤ b.High) := by
  unfold s94
  by_cases h1 : a.Low ≤ b.Low <;> by_cases h2 : a.High ≤ b.High <;> simp [h1, h2]
theorem s104_eq (a b : Span) : s104 a b = decide (b.Low ≤ a.Low ∧ b.High ≤ a.High) := by
  unfold s104
  rw [s94_eq]
def TRow (t : Sl RangeRow) (i : Nat) : Prop := (1 ≤ (t.get i).Energy ∧ (t.get i).Energy ≤ 1000000) ∧ (0 ≤ (t.get i).Range.Low ∧ (t.get i).Range.Low ≤ (t.get i).Range.High ∧ (t.get i).Range.High ≤ 1000000) ∧
  (i = 0 ∨ (t.get (i - 1)).Energy < (t.get i).Energy ∧ (t.get (i - 1)).Range.Low ≤ (t.get i).Range.Low ∧ (t.get (i - 1)).Range.High ≤ (t.get i).Range.High)
instance (t : Sl RangeRow) (i : Nat) : Decidable (TRow t i) := by unfold TRow; infer_instance
def BRow (parts : Int) (t : Sl FluxRow) (i : Nat) : Prop := (1 ≤ (t.get i).Energy ∧ (t.get i).Energy ≤ 1000000) ∧ (0 ≤ (t.get i).Rate.Low ∧ (t.get i).Rate.Low ≤ (t.get i).Rate.High ∧ (t.get i).Rate.High ≤ parts) ∧
  (i = 0 ∨ (t.get (i - 1)).Energy < (t.get i).Energy ∧ (t.get i).Rate.Low ≤ (t.get (i - 1)).Rate.Low ∧ (t.get i).Rate.High ≤ (t.get (i - 1)).Rate.High)
instance (parts : Int) (t : Sl FluxRow) (i : Nat) : Decidable (BRow parts t i) := by unfold BRow; infer_instance
theorem s91_eq (t : Sl RangeRow) (hn : t.len ≤ 9223372036854775807) :
    p91 t 1 1000000 1000000 = true ∧ (s91 t 1 1000000 1000000 = true ↔ (∀ i, i < t.len → decide (TRow t i) = true) ∧ decide (1 ≤ (t.len : Int) ∧ (t.len : Int) ≤ 40) = true) := by
  refine all_loop (n := t.len) (good := fun i => decide (TRow t i)) (lpS := s91_lp0 t 1 1000000 1000000) (lpP := p91_lp0 t 1 1000000 1000000) ?_ ?_ ?_ ?_ hn
  · intro k i hi
    show s91_st0 t 1 1000000 1000000 (s91_lp0 t 1 1000000 1000000 k) i = cond (decide (TRow t i)) _ _
    generalize s91_lp0 t 1 1000000 1000000 k = S
    unfold s91_st0 s91_at1 s91_at2 s91_at3
    have e0 : (i : Int).toNat = i := by omega
    have el : decide ((i : Int) < (t.len : Int)) = true := decide_eq_true (by omega)
    by_cases h0 : 0 < i
    · have e2 : w64 ((i : Int) - 1) = ((i - 1 : Nat) : Int) := by rw [w64_id (by omega) (by omega)]; omega
      by_cases hg : TRow t i
      all_goals
        first | rw [decide_eq_true hg] | rw [decide_eq_false hg]
        unfold TRow at hg
        simp only [s63_eq, s69_eq, s94_eq, s92, s93, e0, el, e2, Int.toNat_natCast, Bool.cond_decide, ← decide_not, cond_true, cond_false]
        repeat' split
        all_goals first | rfl | (exfalso; omega)
    · have : i = 0 := by omega
      subst this
      by_cases hg : TRow t 0
      all_goals
        first | rw [decide_eq_true hg] | rw [decide_eq_false hg]
        unfold TRow at hg
        simp only [s63_eq, s69_eq, s94_eq, s92, s93, e0, el, Bool.cond_decide, ← decide_not, cond_true, cond_false]
        repeat' split
        all_goals first | rfl | (exfalso; omega)
  · intro k
    show s91_st0 t 1 1000000 1000000 (s91_lp0 t 1 1000000 1000000 k) _ = _
    unfold s91_st0
    rw [decide_eq_false (by omega), cond_false]
    rw [s63_eq]
  · intro k i hi
    show p91_st0 t 1 1000000 1000000 (p91_lp0 t 1 1000000 1000000 k) i = cond (decide (TRow t i)) _ _
    generalize p91_lp0 t 1 1000000 1000000 k = S
    unfold p91_st0 p91_at1 p91_at2 p91_at3
    have e0 : (i : Int).toNat = i := by omega
    have el : decide ((i : Int) < (t.len : Int)) = true := decide_eq_true (by omega)
    have e4 : decide (0 ≤ (i : Int) ∧ (i : Int) < (t.len : Int)) = true := decide_eq_true (by omega)
    by_cases h0 : 0 < i
    · have e2 : w64 ((i : Int) - 1) = ((i - 1 : Nat) : Int) := by rw [w64_id (by omega) (by omega)]; omega
      have e3 : decide (0 ≤ ((i - 1 : Nat) : Int) ∧ ((i - 1 : Nat) : Int) < (t.len : Int)) = true := decide_eq_true (by omega)
      by_cases hg : TRow t i
      all_goals
        first | rw [decide_eq_true hg] | rw [decide_eq_false hg]
        unfold TRow at hg
        simp only [s63_eq, s69_eq, s94_eq, s92, s93, e0, el, e2, Int.toNat_natCast, e3, e4, Bool.true_and, Bool.cond_decide, ← decide_not, cond_true, cond_false]
        repeat' split
        all_goals first | rfl | (exfalso; omega)
    · have : i = 0 := by omega
      subst this
      by_cases hg : TRow t 0
      all_goals
        first | rw [decide_eq_true hg] | rw [decide_eq_false hg]
        unfold TRow at hg
        simp only [s63_eq, s69_eq, s94_eq, s92, s93, e0, el, e4, Bool.true_and, Bool.cond_decide, ← decide_not, cond_true, cond_false]
        repeat' split
        all_goals first | rfl | (exfalso; omega)
  · intro k
    show p91_st0 t 1 1000000 1000000 (p91_lp0 t 1 1000000 1000000 k) _ = _
    unfold p91_st0
    rw [decide_eq_false (by omega), cond_false]
theorem s17_eq (t : Sl RangeRow) (hn : t.len ≤ 9223372036854775807) :
    p17 t = true ∧ (s17 t = true ↔ (∀ i, i < t.len → decide (TRow t i) = true) ∧ decide (1 ≤ (t.len : Int) ∧ (t.len : Int) ≤ 40) = true) := by
  refine all_loop (n := t.len) (good := fun i => decide (TRow t i)) (lpS := s17_lp0 t) (lpP := p17_lp0 t) ?_ ?_ ?_ ?_ hn
  · intro k i hi
    show s17_st0 t (s17_lp0 t k) i = cond (decide (TRow t i)) _ _
    generalize s17_lp0 t k = S
    unfold s17_st0 s17_at1
    have e0 : (i : Int).toNat = i := by omega
    have el : decide ((i : Int) < (t.len : Int)) = true := decide_eq_true (by omega)
    by_cases h0 : 0 < i
    · have e2 : w64 ((i : Int) - 1) = ((i - 1 : Nat) : Int) := by rw [w64_id (by omega) (by omega)]; omega
      by_cases hg : TRow t i
      all_goals
        first | rw [decide_eq_true hg] | rw [decide_eq_false hg]
        unfold TRow at hg
        simp only [s58_eq, s29_eq, e0, el, e2, Int.toNat_natCast, Bool.cond_decide, ← decide_not, cond_true, cond_false]
        repeat' split
        all_goals first | rfl | (exfalso; omega)
    · have : i = 0 := by omega
      subst this
      by_cases hg : TRow t 0
      all_goals
        first | rw [decide_eq_true hg] | rw [decide_eq_false hg]
        unfold TRow at hg
        simp only [s58_eq, s29_eq, e0, el, Bool.cond_decide, ← decide_not, cond_true, cond_false]
        repeat' split
        all_goals first | rfl | (exfalso; omega)
  · intro k
    show s17_st0 t (s17_lp0 t k) _ = _
    unfold s17_st0
    rw [decide_eq_false (by omega), cond_false]
    rw [s58_eq]
  · intro k i hi
    show p17_st0 t (p17_lp0 t k) i = cond (decide (TRow t i)) _ _
    generalize p17_lp0 t k = S
    unfold p17_st0 p17_at1
    have e0 : (i : Int).toNat = i := by omega
    have el : decide ((i : Int) < (t.len : Int)) = true := decide_eq_true (by omega)
    have e4 : decide (0 ≤ (i : Int) ∧ (i : Int) < (t.len : Int)) = true := decide_eq_true (by omega)
    by_cases h0 : 0 < i
    · have e2 : w64 ((i : Int) - 1) = ((i - 1 : Nat) : Int) := by rw [w64_id (by omega) (by omega)]; omega
      have e3 : decide (0 ≤ ((i - 1 : Nat) : Int) ∧ ((i - 1 : Nat) : Int) < (t.len : Int)) = true := decide_eq_true (by omega)
      by_cases hg : TRow t i
      all_goals
        first | rw [decide_eq_true hg] | rw [decide_eq_false hg]
        unfold TRow at hg
        simp only [s58_eq, s29_eq, e0, el, e2, Int.toNat_natCast, e3, e4, Bool.true_and, Bool.cond_decide, ← decide_not, cond_true, cond_false]
        repeat' split
        all_goals first | rfl | (exfalso; omega)
    · have : i = 0 := by omega
      subst this
      by_cases hg : TRow t 0
      all_goals
        first | rw [decide_eq_true hg] | rw [decide_eq_false hg]
        unfold TRow at hg
        simp only [s58_eq, s29_eq, e0, el, e4, Bool.true_and, Bool.cond_decide, ← decide_not, cond_true, cond_false]
        repeat' split
        all_goals first | rfl | (exfalso; omega)
  · intro k
    show p17_st0 t (p17_lp0 t k) _ = _
    unfold p17_st0
    rw [decide_eq_false (by omega), cond_false]
theorem s101_eq (parts : Int) (t : Sl FluxRow) (hn : t.len ≤ 9223372036854775807) :
    p101 t 1 1000000 parts = true ∧ (s101 t 1 1000000 parts = true ↔ (∀ i, i < t.len → decide (BRow parts t i) = true) ∧ decide (1 ≤ (t.len : Int) ∧ (t.len : Int) ≤ 40) = true) := by
  refine all_loop (n := t.len) (good := fun i => decide (BRow parts t i)) (lpS := s101_lp0 t 1 1000000 parts) (lpP := p101_lp0 t 1 1000000 parts) ?_ ?_ ?_ ?_ hn
  · intro k i hi
    show s101_st0 t 1 1000000 parts (s101_lp0 t 1 1000000 parts k) i = cond (decide (BRow parts t i)) _ _
    generalize s101_lp0 t 1 1000000 parts k = S
    unfold s101_st0 s101_at1 s101_at2 s101_at3
    have e0 : (i : Int).toNat = i := by omega
    have el : decide ((i : Int) < (t.len : Int)) = true := decide_eq_true (by omega)
    by_cases h0 : 0 < i
    · have e2 : w64 ((i : Int) - 1) = ((i - 1 : Nat) : Int) := by rw [w64_id (by omega) (by omega)]; omega
      by_cases hg : BRow parts t i
      all_goals
        first | rw [decide_eq_true hg] | rw [decide_eq_false hg]
        unfold BRow at hg
        simp only [s63_eq, s69_eq, s104_eq, s102, s103, e0, el, e2, Int.toNat_natCast, Bool.cond_decide, ← decide_not, cond_true, cond_false]
        repeat' split
        all_goals first | rfl | (exfalso; omega)
    · have : i = 0 := by omega
      subst this
      by_cases hg : BRow parts t 0
      all_goals
        first | rw [decide_eq_true hg] | rw [decide_eq_false hg]
        unfold BRow at hg
        simp only [s63_eq, s69_eq, s104_eq, s102, s103, e0, el, Bool.cond_decide, ← decide_not, cond_true, cond_false]
        repeat' split
        all_goals first | rfl | (exfalso; omega)
  · intro k
    show s101_st0 t 1 1000000 parts (s101_lp0 t 1 1000000 parts k) _ = _
    unfold s101_st0
    rw [decide_eq_false (by omega), cond_false]
    rw [s63_eq]
  · intro k i hi
    show p101_st0 t 1 1000000 parts (p101_lp0 t 1 1000000 parts k) i = cond (decide (BRow parts t i)) _ _
    generalize p101_lp0 t 1 1000000 parts k = S
    unfold p101_st0 p101_at1 p101_at2 p101_at3
    have e0 : (i : Int).toNat = i := by omega
    have el : decide ((i : Int) < (t.len : Int)) = true := decide_eq_true (by omega)
    have e4 : decide (0 ≤ (i : Int) ∧ (i : Int) < (t.len : Int)) = true := decide_eq_true (by omega)
    by_cases h0 : 0 < i
    · have e2 : w64 ((i : Int) - 1) = ((i - 1 : Nat) : Int) := by rw [w64_id (by omega) (by omega)]; omega
      have e3 : decide (0 ≤ ((i - 1 : Nat) : Int) ∧ ((i - 1 : Nat) : Int) < (t.len : Int)) = true := decide_eq_true (by omega)
      by_cases hg : BRow parts t i
      all_goals
        first | rw [decide_eq_true hg] | rw [decide_eq_false hg]
        unfold BRow at hg
        simp only [s63_eq, s69_eq, s104_eq, s102, s103, e0, el, e2, Int.toNat_natCast, e3, e4, Bool.true_and, Bool.cond_decide, ← decide_not, cond_true, cond_false]
        repeat' split
        all_goals first | rfl | (exfalso; omega)
    · have : i = 0 := by omega
      subst this
      by_cases hg : BRow parts t 0
      all_goals
        first | rw [decide_eq_true hg] | rw [decide_eq_false hg]
        unfold BRow at hg
        simp only [s63_eq, s69_eq, s104_eq, s102, s103, e0, el, e4, Bool.true_and, Bool.cond_decide, ← decide_not, cond_true, cond_false]
        repeat' split
        all_goals first | rfl | (exfalso; omega)
  · intro k
    show p101_st0 t 1 1000000 parts (p101_lp0 t 1 1000000 parts k) _ = _
    unfold p101_st0
    rw [decide_eq_false (by omega), cond_false]
theorem s59_eq (parts : Int) (t : Sl FluxRow) (hn : t.len ≤ 9223372036854775807) :
    p59 parts t = true ∧ (s59 parts t = true ↔ (∀ i, i < t.len → decide (BRow parts t i) = true) ∧ (cond (decide (1 ≤ (t.len : Int) ∧ (t.len : Int) ≤ 40)) ((t.get 0).Energy == (1:Int)) false) = true) := by
  refine all_loop (n := t.len) (good := fun i => decide (BRow parts t i)) (lpS := s59_lp0 parts t) (lpP := p59_lp0 parts t) ?_ ?_ ?_ ?_ hn
  · intro k i hi
    show s59_st0 parts t (s59_lp0 parts t k) i = cond (decide (BRow parts t i)) _ _
    generalize s59_lp0 parts t k = S
    unfold s59_st0 s59_at1
    have e0 : (i : Int).toNat = i := by omega
    have el : decide ((i : Int) < (t.len : Int)) = true := decide_eq_true (by omega)
    by_cases h0 : 0 < i
    · have e2 : w64 ((i : Int) - 1) = ((i - 1 : Nat) : Int) := by rw [w64_id (by omega) (by omega)]; omega
      by_cases hg : BRow parts t i
      all_goals
        first | rw [decide_eq_true hg] | rw [decide_eq_false hg]
        unfold BRow at hg
        simp only [s58_eq, s29_eq, e0, el, e2, Int.toNat_natCast, Bool.cond_decide, ← decide_not, cond_true, cond_false]
        repeat' split
        all_goals first | rfl | (exfalso; omega)
    · have : i = 0 := by omega
      subst this
      by_cases hg : BRow parts t 0
      all_goals
        first | rw [decide_eq_true hg] | rw [decide_eq_false hg]
        unfold BRow at hg
        simp only [s58_eq, s29_eq, e0, el, Bool.cond_decide, ← decide_not, cond_true, cond_false]
        repeat' split
        all_goals first | rfl | (exfalso; omega)
  · intro k
    show s59_st0 parts t (s59_lp0 parts t k) _ = _
    unfold s59_st0
    rw [decide_eq_false (by omega), cond_false]
    rw [s58_eq]
  · intro k i hi
    show p59_st0 parts t (p59_lp0 parts t k) i = cond (decide (BRow parts t i)) _ _
    generalize p59_lp0 parts t k = S
    unfold p59_st0 p59_at1
    have e0 : (i : Int).toNat = i := by omega
    have el : decide ((i : Int) < (t.len : Int)) = true := decide_eq_true (by omega)
    have e4 : decide (0 ≤ (i : Int) ∧ (i : Int) < (t.len : Int)) = true := decide_eq_true (by omega)
    by_cases h0 : 0 < i
    · have e2 : w64 ((i : Int) - 1) = ((i - 1 : Nat) : Int) := by rw [w64_id (by omega) (by omega)]; omega
      have e3 : decide (0 ≤ ((i - 1 : Nat) : Int) ∧ ((i - 1 : Nat) : Int) < (t.len : Int)) = true := decide_eq_true (by omega)
      by_cases hg : BRow parts t i
      all_goals
        first | rw [decide_eq_true hg] | rw [decide_eq_false hg]
        unfold BRow at hg
        simp only [s58_eq, s29_eq, e0, el, e2, Int.toNat_natCast, e3, e4, Bool.true_and, Bool.cond_decide, ← decide_not, cond_true, cond_false]
        repeat' split
        all_goals first | rfl | (exfalso; omega)
    · have : i = 0 := by omega
      subst this
      by_cases hg : BRow parts t 0
      all_goals
        first | rw [decide_eq_true hg] | rw [decide_eq_false hg]
        unfold BRow at hg
        simp only [s58_eq, s29_eq, e0, el, e4, Bool.true_and, Bool.cond_decide, ← decide_not, cond_true, cond_false]
        repeat' split
        all_goals first | rfl | (exfalso; omega)
  · intro k
    show p59_st0 parts t (p59_lp0 parts t k) _ = _
    unfold p59_st0
    rw [decide_eq_false (by omega), cond_false]
    rw [s58_eq]
    by_cases h : 1 ≤ (t.len : Int) ∧ (t.len : Int) ≤ 40
    · rw [decide_eq_true h, decide_eq_true (by omega)]; rfl
    · rw [decide_eq_false h]; rfl
def TOk (t : Sl RangeRow) : Prop := (1 ≤ (t.len : Int) ∧ (t.len : Int) ≤ 40) ∧ ∀ i, i < t.len → TRow t i
def BOk (parts : Int) (t : Sl FluxRow) : Prop := (1 ≤ (t.len : Int) ∧ (t.len : Int) ≤ 40) ∧ (t.get 0).Energy = 1 ∧ ∀ i, i < t.len → BRow parts t i
def SOk (s : Sky) : Prop := ((2 ≤ s.Parts ∧ s.Parts ≤ 1000000) ∧ (1 ≤ (s.Bins.len : Int) ∧ (s.Bins.len : Int) ≤ 20) ∧ (-100 ≤ s.Beta.Low ∧ s.Beta.Low ≤ s.Beta.High ∧ s.Beta.High ≤ 100) ∧ (-100 ≤ s.Alpha.Low ∧ s.Alpha.Low ≤ s.Alpha.High ∧ s.Alpha.High ≤ 100)) ∧ ∀ i, i < s.Bins.len → BOk s.Parts (s.Bins.get i)
theorem s62_ok (t : Sl RangeRow) (hn : t.len ≤ 9223372036854775807) : p62 t = true ∧ (s62 t = true ↔ TOk t) := by
  obtain ⟨h1, h2⟩ := s91_eq t hn
  unfold p62 s62 TOk
  rw [h1]
  refine ⟨rfl, h2.trans ?_⟩
  simp only [decide_eq_true_eq]
  exact And.comm
theorem s17_ok (t : Sl RangeRow) (hn : t.len ≤ 9223372036854775807) : p17 t = true ∧ s17 t = s62 t := by
  obtain ⟨h1, h2⟩ := s17_eq t hn
  refine ⟨h1, Bool.eq_iff_iff.2 (h2.trans ((s62_ok t hn).2.trans ?_).symm)⟩
  unfold TOk
  simp only [decide_eq_true_eq]
  exact And.comm
theorem s101_ok (parts : Int) (t : Sl FluxRow) (hn : t.len ≤ 9223372036854775807) : p101 t 1 1000000 parts = true ∧ ((s101 t 1 1000000 parts && (t.get 0).Energy == 1) = true ↔ BOk parts t) ∧ (s101 t 1 1000000 parts = true → 0 < t.len) := by
  obtain ⟨h1, h2⟩ := s101_eq parts t hn
  refine ⟨h1, ?_, fun h => ?_⟩
  · rw [Bool.and_eq_true, h2]
    unfold BOk
    simp only [decide_eq_true_eq, beq_iff_eq]
    exact ⟨fun h => ⟨h.1.2, h.2, h.1.1⟩, fun h => ⟨⟨h.2.2, h.1⟩, h.2.1⟩⟩
  · have := of_decide_eq_true (h2.1 h).2
    omega
theorem s59_ok (parts : Int) (t : Sl FluxRow) (hn : t.len ≤ 9223372036854775807) : p59 parts t = true ∧ (s59 parts t = true ↔ BOk parts t) := by
  obtain ⟨h1, h2⟩ := s59_eq parts t hn
  refine ⟨h1, h2.trans ?_⟩
  unfold BOk
  simp only [decide_eq_true_eq, Bool.cond_decide, Bool.if_false_right, Bool.and_eq_true, beq_iff_eq]
  exact ⟨fun h => ⟨h.2.1, h.2.2, h.1⟩, fun h => ⟨h.2.2, h.1, h.2.1⟩⟩
end Go.Proofs
namespace Go.Proofs
open Go Go.Pm
set_option linter.unusedVariables false
theorem last_fst {β : Type} {c d : Nat → Bool} {v : Nat → β} {n : Nat} {a : β} (hcd : ∀ i, i < n → d i = !c i) (hup : ∀ i j, i ≤ j → j < n → d i = true → d j = true) :
    lastF c v n a = if 0 < fst d n then v (fst d n - 1) else a := by
  have hl := fst_le d n
  have hhi : ∀ j, fst d n ≤ j → j < n → c j = false := by
    intro j h1 h2
    have := hup _ _ h1 h2 (fst_hi (by omega))
    rw [hcd j h2] at this
    simpa using this
  by_cases h : 0 < fst d n
  · rw [if_pos h]
    refine last_at (by omega) ?_ (fun j h1 h2 => hhi j (by omega) h2)
    have := fst_lo (c := d) (n := n) (j := fst d n - 1) (by omega)
    rw [hcd _ (by omega)] at this
    simpa using this
  · rw [if_neg h]
    exact last_none fun j hj => hhi j (by omega) hj
def SL (s : Sky) : Prop := s.Bins.len ≤ 9223372036854775807 ∧ ∀ i, i < s.Bins.len → (s.Bins.get i).len ≤ 9223372036854775807
theorem s75_ok (s : Sky) (hs : SL s) : p75 s = true ∧ (s75 s = true ↔ SOk s) := by
  have h : p75 s = true ∧ (s75 s = true ↔ (∀ i, i < s.Bins.len → (s101 (s.Bins.get i) 1 1000000 s.Parts && ((s.Bins.get i).get 0).Energy == 1) = true) ∧ s75_at2 s s.Bins = true) := by
    refine all_loop (n := s.Bins.len) (good := fun i => s101 (s.Bins.get i) 1 1000000 s.Parts && ((s.Bins.get i).get 0).Energy == 1) (lpS := fun k i => s75_lp0 s k s.Bins (s.Bins.len : Int) i s.Bins) (lpP := fun k i => p75_lp0 s k s.Bins (s.Bins.len : Int) i s.Bins) ?_ ?_ ?_ ?_ hs.1
    · intro k i hi
      show s75_st0 s (s75_lp0 s k) s.Bins (s.Bins.len : Int) i s.Bins = cond _ (s75_lp0 s k s.Bins (s.Bins.len : Int) (w64 ((i : Int) + 1)) s.Bins) false
      generalize s75_lp0 s k = S
      unfold s75_st0 s75_at1
      rw [decide_eq_true (by omega), Int.toNat_natCast]
      cases s101 (s.Bins.get i) 1 1000000 s.Parts
      · rfl
      · cases h : ((s.Bins.get i).get 0).Energy == 1 <;> simp [bne, h]
    · intro k
      show s75_st0 s (s75_lp0 s k) s.Bins (s.Bins.len : Int) _ s.Bins = _
      unfold s75_st0
      rw [decide_eq_false (by omega), cond_false]
    · intro k i hi
      show p75_st0 s (p75_lp0 s k) s.Bins (s.Bins.len : Int) i s.Bins = cond _ (p75_lp0 s k s.Bins (s.Bins.len : Int) (w64 ((i : Int) + 1)) s.Bins) true
      generalize p75_lp0 s k = S
      unfold p75_st0 p75_at1
      obtain ⟨h1, _, h3⟩ := s101_ok s.Parts (s.Bins.get i) (hs.2 i hi)
      rw [decide_eq_true (by omega), Int.toNat_natCast, h1, decide_eq_true (show 0 ≤ (i : Int) ∧ (i : Int) < (s.Bins.len : Int) by omega)]
      cases h : s101 (s.Bins.get i) 1 1000000 s.Parts
      · rfl
      · have h4 := h3 h
        rw [decide_eq_true (show (0 : Int) ≤ 0 ∧ (0 : Int) < ((s.Bins.get i).len : Int) by omega)]
        cases h : ((s.Bins.get i).get 0).Energy == 1 <;> simp [bne, h]
    · intro k
      show p75_st0 s (p75_lp0 s k) s.Bins (s.Bins.len : Int) _ s.Bins = _
      unfold p75_st0
      rw [decide_eq_false (by omega), cond_false]
  refine ⟨h.1, h.2.trans ?_⟩
  have e : s75_at2 s s.Bins = true ↔ ((2 ≤ s.Parts ∧ s.Parts ≤ 1000000) ∧ (1 ≤ (s.Bins.len : Int) ∧ (s.Bins.len : Int) ≤ 20) ∧ (-100 ≤ s.Beta.Low ∧ s.Beta.Low ≤ s.Beta.High ∧ s.Beta.High ≤ 100) ∧ (-100 ≤ s.Alpha.Low ∧ s.Alpha.Low ≤ s.Alpha.High ∧ s.Alpha.High ≤ 100)) := by
    unfold s75_at2
    rw [s63_eq, s63_eq, s69_eq, s69_eq]
    simp only [Bool.cond_decide, Bool.if_false_right, Bool.and_eq_true, decide_eq_true_eq]
  rw [e]
  unfold SOk
  exact ⟨fun h => ⟨h.2, fun i hi => (s101_ok s.Parts (s.Bins.get i) (hs.2 i hi)).2.1.1 (h.1 i hi)⟩, fun h => ⟨fun i hi => (s101_ok s.Parts (s.Bins.get i) (hs.2 i hi)).2.1.2 (h.2 i hi), h.1⟩⟩
theorem s16_ok (s : Sky) (hs : SL s) : p16 s = true ∧ s16 s = s75 s := by
  have h : p16_at1 s s.Bins = true ∧ (s16_at1 s s.Bins = true ↔ (∀ i, i < s.Bins.len → s59 s.Parts (s.Bins.get i) = true) ∧ true = true) := by
    refine all_loop (n := s.Bins.len) (good := fun i => s59 s.Parts (s.Bins.get i)) (lpS := fun k i => s16_lp2 s k i s.Bins) (lpP := fun k i => p16_lp2 s k i s.Bins) ?_ ?_ ?_ ?_ hs.1
    · intro k i hi
      show s16_st2 s (s16_lp2 s k) i s.Bins = cond _ (s16_lp2 s k (w64 ((i : Int) + 1)) s.Bins) false
      generalize s16_lp2 s k = S
      unfold s16_st2 s16_at3
      rw [decide_eq_true (by omega), Int.toNat_natCast]
      cases s59 s.Parts (s.Bins.get i) <;> rfl
    · intro k
      show s16_st2 s (s16_lp2 s k) _ s.Bins = _
      unfold s16_st2
      rw [decide_eq_false (by omega), cond_false]
    · intro k i hi
      show p16_st2 s (p16_lp2 s k) i s.Bins = cond _ (p16_lp2 s k (w64 ((i : Int) + 1)) s.Bins) true
      generalize p16_lp2 s k = S
      unfold p16_st2 p16_at3
      rw [decide_eq_true (by omega), Int.toNat_natCast, (s59_ok s.Parts (s.Bins.get i) (hs.2 i hi)).1, decide_eq_true (show 0 ≤ (i : Int) ∧ (i : Int) < (s.Bins.len : Int) by omega)]
      cases s59 s.Parts (s.Bins.get i) <;> rfl
    · intro k
      show p16_st2 s (p16_lp2 s k) _ s.Bins = _
      unfold p16_st2
      rw [decide_eq_false (by omega), cond_false]
  have h2 : s16 s = true ↔ SOk s := by
    unfold s16 s16_at0
    rw [s58_eq, s58_eq, s29_eq, s29_eq]
    unfold SOk
    by_cases a : 2 ≤ s.Parts ∧ s.Parts ≤ 1000000
    · by_cases b : 1 ≤ (s.Bins.len : Int) ∧ (s.Bins.len : Int) ≤ 20
      · by_cases c : -100 ≤ s.Beta.Low ∧ s.Beta.Low ≤ s.Beta.High ∧ s.Beta.High ≤ 100
        · by_cases d : -100 ≤ s.Alpha.Low ∧ s.Alpha.Low ≤ s.Alpha.High ∧ s.Alpha.High ≤ 100
          · rw [decide_eq_true a, decide_eq_true b, decide_eq_true c, decide_eq_true d]
            refine h.2.trans ?_
            exact ⟨fun h => ⟨⟨a, b, c, d⟩, fun i hi => (s59_ok s.Parts (s.Bins.get i) (hs.2 i hi)).2.1 (h.1 i hi)⟩, fun h => ⟨fun i hi => (s59_ok s.Parts (s.Bins.get i) (hs.2 i hi)).2.2 (h.2 i hi), rfl⟩⟩
          · rw [decide_eq_true a, decide_eq_true b, decide_eq_true c, decide_eq_false d]
            exact ⟨fun h => absurd h Bool.false_ne_true, fun h => absurd h.1.2.2.2 d⟩
        · rw [decide_eq_true a, decide_eq_true b, decide_eq_false c]
          exact ⟨fun h => absurd h Bool.false_ne_true, fun h => absurd h.1.2.2.1 c⟩
      · rw [decide_eq_true a, decide_eq_false b]
        exact ⟨fun h => absurd h Bool.false_ne_true, fun h => absurd h.1.2.1 b⟩
    · rw [decide_eq_false a]
      exact ⟨fun h => absurd h Bool.false_ne_true, fun h => absurd h.1.1 a⟩
  refine ⟨?_, Bool.eq_iff_iff.2 (h2.trans (s75_ok s hs).2.symm)⟩
  unfold p16 p16_at0
  rw [h.1]
  cases s58 s.Parts 2 1000000 <;> cases s58 (s.Bins.len : Int) 1 20 <;> cases s29 s.Beta (-100) 100 <;> cases s29 s.Alpha (-100) 100 <;> rfl
theorem s15_p (s : Sky) (t : Sl RangeRow) (hs : SL s) : p15 s t = true := by
  have h : p15 s t = true ∧ (s15 s t = true ↔ (∀ i, i < s.Bins.len → (!decide (((s.Bins.get i).len : Int) > 50)) = true) ∧ (cond (decide ((s.Bins.len : Int) ≤ (25:Int))) (decide ((t.len : Int) ≤ (50:Int))) false) = true) := by
    refine all_loop (n := s.Bins.len) (good := fun i => !decide (((s.Bins.get i).len : Int) > 50)) (lpS := s15_lp0 s t) (lpP := p15_lp0 s t) ?_ ?_ ?_ ?_ hs.1
    · intro k i hi
      show s15_st0 s t (s15_lp0 s t k) i = _
      generalize s15_lp0 s t k = S
      unfold s15_st0
      rw [decide_eq_true (by omega), Int.toNat_natCast]
      cases decide (((s.Bins.get i).len : Int) > 50) <;> rfl
    · intro k
      show s15_st0 s t (s15_lp0 s t k) _ = _
      unfold s15_st0
      rw [decide_eq_false (by omega), cond_false]
    · intro k i hi
      show p15_st0 s t (p15_lp0 s t k) i = _
      generalize p15_lp0 s t k = S
      unfold p15_st0
      rw [decide_eq_true (by omega), Int.toNat_natCast, decide_eq_true (show 0 ≤ (i : Int) ∧ (i : Int) < (s.Bins.len : Int) by omega)]
      cases decide (((s.Bins.get i).len : Int) > 50) <;> rfl
    · intro k
      show p15_st0 s t (p15_lp0 s t k) _ = _
      unfold p15_st0
      rw [decide_eq_false (by omega), cond_false]
  exact h.1
theorem s81_eq (c0 : Int) (t : Sl RangeRow) (hn : t.len ≤ 9223372036854775807) : p81 c0 t = true ∧ s81 c0 t = ((fst (fun i => s95 c0 (t.get i)) t.len : Nat) : Int) := by
  have h := idx_loop (c := s95 c0) (lpS := s106_lp0 c0) (lpP := p106_lp0 c0) (fun _ _ _ _ => rfl) (fun _ _ _ _ => rfl) t hn
  have h1 : p106 c0 t = true := h.1
  have h2 : s106 c0 t = _ := h.2
  have hl := fst_le (fun i => s95 c0 (t.get i)) t.len
  unfold p81 s81
  rw [h1, h2]
  refine ⟨rfl, ?_⟩
  by_cases h : fst (fun i => s95 c0 (t.get i)) t.len < t.len
  · rw [if_pos h, decide_eq_true (by omega)]; rfl
  · rw [if_neg h, decide_eq_false (by omega)]
    show (t.len : Int) = _
    omega
theorem s81a_eq (c0 : Int) (t : Sl RangeRow) (hn : t.len ≤ 9223372036854775807) : p81a c0 t = true ∧ s81a c0 t = ((fst (fun i => s96 c0 (t.get i)) t.len : Nat) : Int) := by
  have h := idx_loop (c := s96 c0) (lpS := s106a_lp0 c0) (lpP := p106a_lp0 c0) (fun _ _ _ _ => rfl) (fun _ _ _ _ => rfl) t hn
  have h1 : p106a c0 t = true := h.1
  have h2 : s106a c0 t = _ := h.2
  have hl := fst_le (fun i => s96 c0 (t.get i)) t.len
  unfold p81a s81a
  rw [h1, h2]
  refine ⟨rfl, ?_⟩
  by_cases h : fst (fun i => s96 c0 (t.get i)) t.len < t.len
  · rw [if_pos h, decide_eq_true (by omega)]; rfl
  · rw [if_neg h, decide_eq_false (by omega)]
    show (t.len : Int) = _
    omega
theorem s81b_eq (c0 : Int) (t : Sl RangeRow) (hn : t.len ≤ 9223372036854775807) : p81b c0 t = true ∧ s81b c0 t = ((fst (fun i => s82 c0 (t.get i)) t.len : Nat) : Int) := by
  have h := idx_loop (c := s82 c0) (lpS := s106b_lp0 c0) (lpP := p106b_lp0 c0) (fun _ _ _ _ => rfl) (fun _ _ _ _ => rfl) t hn
  have h1 : p106b c0 t = true := h.1
  have h2 : s106b c0 t = _ := h.2
  have hl := fst_le (fun i => s82 c0 (t.get i)) t.len
  unfold p81b s81b
  rw [h1, h2]
  refine ⟨rfl, ?_⟩
  by_cases h : fst (fun i => s82 c0 (t.get i)) t.len < t.len
  · rw [if_pos h, decide_eq_true (by omega)]; rfl
  · rw [if_neg h, decide_eq_false (by omega)]
    show (t.len : Int) = _
    omega
theorem s81c_eq (c0 : Int) (t : Sl RangeRow) (hn : t.len ≤ 9223372036854775807) : p81c c0 t = true ∧ s81c c0 t = ((fst (fun i => s83 c0 (t.get i)) t.len : Nat) : Int) := by
  have h := idx_loop (c := s83 c0) (lpS := s106c_lp0 c0) (lpP := p106c_lp0 c0) (fun _ _ _ _ => rfl) (fun _ _ _ _ => rfl) t hn
  have h1 : p106c c0 t = true := h.1
  have h2 : s106c c0 t = _ := h.2
  have hl := fst_le (fun i => s83 c0 (t.get i)) t.len
  unfold p81c s81c
  rw [h1, h2]
  refine ⟨rfl, ?_⟩
  by_cases h : fst (fun i => s83 c0 (t.get i)) t.len < t.len
  · rw [if_pos h, decide_eq_true (by omega)]; rfl
  · rw [if_neg h, decide_eq_false (by omega)]
    show (t.len : Int) = _
    omega
theorem s107_eq (c0 : Span) (t : Sl FluxRow) (hn : t.len ≤ 9223372036854775807) : p107 c0 t = true ∧ s107 c0 t = ((fst (fun i => s108 c0 (t.get i)) t.len : Nat) : Int) := by
  have h := idx_loop (c := s108 c0) (lpS := s118_lp0 c0) (lpP := p118_lp0 c0) (fun _ _ _ _ => rfl) (fun _ _ _ _ => rfl) t hn
  have h1 : p118 c0 t = true := h.1
  have h2 : s118 c0 t = _ := h.2
  have hl := fst_le (fun i => s108 c0 (t.get i)) t.len
  unfold p107 s107
  rw [h1, h2]
  refine ⟨rfl, ?_⟩
  by_cases h : fst (fun i => s108 c0 (t.get i)) t.len < t.len
  · rw [if_pos h, decide_eq_true (by omega)]; rfl
  · rw [if_neg h, decide_eq_false (by omega)]
    show (t.len : Int) = _
    omega
theorem s107a_eq (c0 : Span) (t : Sl FluxRow) (hn : t.len ≤ 9223372036854775807) : p107a c0 t = true ∧ s107a c0 t = ((fst (fun i => s109 c0 (t.get i)) t.len : Nat) : Int) := by
  have h := idx_loop (c := s109 c0) (lpS := s118a_lp0 c0) (lpP := p118a_lp0 c0) (fun _ _ _ _ => rfl) (fun _ _ _ _ => rfl) t hn
  have h1 : p118a c0 t = true := h.1
  have h2 : s118a c0 t = _ := h.2
  have hl := fst_le (fun i => s109 c0 (t.get i)) t.len
  unfold p107a s107a
  rw [h1, h2]
  refine ⟨rfl, ?_⟩
  by_cases h : fst (fun i => s109 c0 (t.get i)) t.len < t.len
  · rw [if_pos h, decide_eq_true (by omega)]; rfl
  · rw [if_neg h, decide_eq_false (by omega)]
    show (t.len : Int) = _
    omega
def kH (t : Sl RangeRow) (x : Int) : Nat := fst (fun i => decide ((t.get i).Range.High ≥ x)) t.len
def kL (t : Sl RangeRow) (x : Int) : Nat := fst (fun i => decide ((t.get i).Range.Low ≥ x)) t.len
def thrL (t : Sl RangeRow) (x : Int) : Int := if 0 < kH t x then (t.get (kH t x - 1)).Energy + 1 else 1
def thrH (t : Sl RangeRow) (x : Int) : Int := if kL t x < t.len then (t.get (kL t x)).Energy else -1
def thr (t : Sl RangeRow) (x : Int) : Span := if x = 0 then ⟨1, 1⟩ else ⟨thrL t x, thrH t x⟩
def jL (l : Sl FluxRow) (y : Int) : Nat := fst (fun i => decide ((l.get i).Energy > y)) l.len
def jH (l : Sl FluxRow) (y : Int) : Nat := fst (fun i => decide ((l.get i).Energy ≥ y)) l.len
def abvH (l : Sl FluxRow) (y : Int) : Int := if 0 < jL l y then (l.get (jL l y - 1)).Rate.High else (l.get 0).Rate.High
def abvL (l : Sl FluxRow) (y : Int) : Int := if y = -1 then 0 else if jH l y < l.len then (l.get (jH l y)).Rate.Low else 0
def abv (l : Sl FluxRow) (x : Span) : Span := ⟨abvL l x.High, abvH l x.Low⟩
def expd (s : Sky) (t : Sl RangeRow) (bin x : Int) : Span := abv (s.Bins.get bin.toNat) (thr t x)
theorem s64_eq (t : Sl RangeRow) (x : Int) (hk : TOk t) : p64 t x = true ∧ s64 t x = thr t x := by
  have hn : t.len ≤ 9223372036854775807 := by have := hk.1.2; omega
  have e1 : p81 x t = true ∧ s81 x t = ((kH t x : Nat) : Int) := s81_eq x t hn
  have e2 : p81a x t = true ∧ s81a x t = ((kL t x : Nat) : Int) := s81a_eq x t hn
  have b1 : kH t x ≤ t.len := fst_le _ _
  have b2 : kL t x ≤ t.len := fst_le _ _
  unfold p64 s64 thr
  by_cases h0 : x = 0
  · rw [if_pos h0, beq_iff_eq.2 h0]; exact ⟨rfl, rfl⟩
  have h00 : (x == 0) = false := by simpa using h0
  rw [if_neg h0, h00, cond_false, cond_false]
  unfold p64_at0 s64_at0
  rw [e1.1, e1.2]
  have h3 : ∀ a, p64_at2 t x a = true ∧ s64_at2 t x a = ⟨a, thrH t x⟩ := by
    intro a
    unfold p64_at2 s64_at2 p64_at3 s64_at3 thrH
    rw [e2.1, e2.2]
    by_cases h : kL t x < t.len
    · rw [if_pos h, decide_eq_true (show ((kL t x : Nat) : Int) < (t.len : Int) by omega), decide_eq_true (show 0 ≤ ((kL t x : Nat) : Int) ∧ ((kL t x : Nat) : Int) < (t.len : Int) by omega), Int.toNat_natCast]
      exact ⟨rfl, rfl⟩
    · rw [if_neg h, decide_eq_false (show ¬ ((kL t x : Nat) : Int) < (t.len : Int) by omega)]
      exact ⟨rfl, rfl⟩
  unfold p64_at1 s64_at1 thrL
  by_cases h : 0 < kH t x
  · have hr := hk.2 (kH t x - 1) (by omega)
    unfold TRow at hr
    have e3 : w64 (((kH t x : Nat) : Int) - 1) = ((kH t x - 1 : Nat) : Int) := by rw [w64_id (by omega) (by omega)]; omega
    rw [if_pos h, decide_eq_true (show ((kH t x : Nat) : Int) > 0 by omega), e3, Int.toNat_natCast, decide_eq_true (show 0 ≤ ((kH t x - 1 : Nat) : Int) ∧ ((kH t x - 1 : Nat) : Int) < (t.len : Int) by omega), (h3 _).1, cond_true, (h3 _).2, w64_id (by omega) (by omega)]
    exact ⟨rfl, rfl⟩
  · rw [if_neg h, decide_eq_false (show ¬ ((kH t x : Nat) : Int) > 0 by omega), cond_false, cond_false, (h3 _).1, (h3 _).2]
    exact ⟨rfl, rfl⟩
theorem s84_eq (l : Sl FluxRow) (y : Span) (h0 : 0 < l.len) (hn : l.len ≤ 9223372036854775807) : p84 l y = true ∧ s84 l y = abv l y := by
  have e1 : p107 y l = true ∧ s107 y l = ((jL l y.Low : Nat) : Int) := s107_eq y l hn
  have e2 : p107a y l = true ∧ s107a y l = ((jH l y.High : Nat) : Int) := s107a_eq y l hn
  have b1 : jL l y.Low ≤ l.len := fst_le _ _
  have b2 : jH l y.High ≤ l.len := fst_le _ _
  have h3 : ∀ a, p84_at1 l y a = true ∧ s84_at1 l y a = ⟨abvL l y.High, a⟩ := by
    intro a
    unfold p84_at1 s84_at1 abvL
    by_cases h : y.High = -1
    · rw [if_pos h, beq_iff_eq.2 h]; exact ⟨rfl, rfl⟩
    have h00 : (y.High == -1) = false := by simpa using h
    rw [if_neg h, h00, cond_false, cond_false]
    unfold p84_at2 s84_at2 p84_at3 s84_at3
    rw [e2.1, e2.2]
    by_cases h : jH l y.High < l.len
    · rw [if_pos h, decide_eq_true (show ((jH l y.High : Nat) : Int) < (l.len : Int) by omega), decide_eq_true (show 0 ≤ ((jH l y.High : Nat) : Int) ∧ ((jH l y.High : Nat) : Int) < (l.len : Int) by omega), Int.toNat_natCast]
      exact ⟨rfl, rfl⟩
    · rw [if_neg h, decide_eq_false (show ¬ ((jH l y.High : Nat) : Int) < (l.len : Int) by omega)]
      exact ⟨rfl, rfl⟩
  unfold p84 s84 abv
  rw [e1.1, e1.2, decide_eq_true (show 0 ≤ (0 : Int) ∧ (0 : Int) < (l.len : Int) by omega)]
  unfold p84_at0 s84_at0 abvH
  by_cases h : 0 < jL l y.Low
  · have e3 : w64 (((jL l y.Low : Nat) : Int) - 1) = ((jL l y.Low - 1 : Nat) : Int) := by rw [w64_id (by omega) (by omega)]; omega
    rw [if_pos h, decide_eq_true (show ((jL l y.Low : Nat) : Int) > 0 by omega), e3, Int.toNat_natCast, decide_eq_true (show 0 ≤ ((jL l y.Low - 1 : Nat) : Int) ∧ ((jL l y.Low - 1 : Nat) : Int) < (l.len : Int) by omega), (h3 _).1, cond_true, (h3 _).2]
    exact ⟨rfl, rfl⟩
  · rw [if_neg h, decide_eq_false (show ¬ ((jL l y.Low : Nat) : Int) > 0 by omega), cond_false, cond_false, (h3 _).1, (h3 _).2]
    exact ⟨rfl, rfl⟩
def Fine (s : Sky) (t : Sl RangeRow) (bin x : Int) : Prop := SOk s ∧ TOk t ∧ (0 ≤ bin ∧ bin < (s.Bins.len : Int)) ∧ (0 ≤ x ∧ x ≤ 1000000)
theorem Fine.b {s : Sky} {t : Sl RangeRow} {bin x : Int} (h : Fine s t bin x) : BOk s.Parts (s.Bins.get bin.toNat) := h.1.2 _ (by have := h.2.2.1; omega)
theorem s65_g (s : Sky) (t : Sl RangeRow) (bin x : Int) : (s65 s t bin x).1.Sky = s ∧ (s65 s t bin x).1.table = t := by
  unfold s65
  cases s75 s <;> cases s62 t <;> cases s63 bin 0 (w64 ((s.Bins.len : Int) - 1)) <;> exact ⟨rfl, rfl⟩
theorem s65_ok (s : Sky) (t : Sl RangeRow) (bin x : Int) (hs : SL s) (ht : t.len ≤ 9223372036854775807) : p65 s t bin x = true ∧ ((s65 s t bin x).2 = true ↔ Fine s t bin x) := by
  obtain ⟨h1, h2⟩ := s75_ok s hs
  obtain ⟨h3, h4⟩ := s62_ok t ht
  have h5 := hs.1
  unfold p65 s65 Fine
  rw [h1, h3, s63_eq, s63_eq, w64_id (by omega) (by omega), ← h2, ← h4]
  cases s75 s
  · exact ⟨rfl, ⟨fun h => absurd h Bool.false_ne_true, fun h => absurd h.1 Bool.false_ne_true⟩⟩
  cases s62 t
  · exact ⟨rfl, ⟨fun h => absurd h Bool.false_ne_true, fun h => absurd h.2.1 Bool.false_ne_true⟩⟩
  refine ⟨rfl, ?_⟩
  by_cases h : 0 ≤ bin ∧ bin ≤ (s.Bins.len : Int) - 1
  · rw [decide_eq_true h]
    simp only [cond_true, decide_eq_true_eq]
    exact ⟨fun h6 => ⟨trivial, trivial, by omega, h6⟩, fun h6 => h6.2.2.2⟩
  · rw [decide_eq_false h]
    exact ⟨fun h => absurd h Bool.false_ne_true, fun h6 => absurd (show 0 ≤ bin ∧ bin ≤ (s.Bins.len : Int) - 1 by have := h6.2.2.1; omega) h⟩
theorem s66_eq {s : Sky} {t : Sl RangeRow} {bin x : Int} (h : Fine s t bin x) : p66 s t bin x = true ∧ s66 s t bin x = expd s t bin x := by
  obtain ⟨h1, h2⟩ := s64_eq t x h.2.1
  have hb := h.b
  obtain ⟨h3, h4⟩ := s84_eq (s.Bins.get bin.toNat) (thr t x) (by have := hb.1; omega) (by have := hb.1; omega)
  unfold p66 s66 expd
  rw [h1, h2, h3, h4, decide_eq_true h.2.2.1]
  exact ⟨rfl, rfl⟩
theorem s20_ok (s : Sky) (t : Sl RangeRow) (bin x : Int) (hs : SL s) (ht : t.len ≤ 9223372036854775807) : p20 s t bin x = true ∧ (Fine s t bin x → s20 s t bin x = (expd s t bin x, 0)) ∧ (¬ Fine s t bin x → s20 s t bin x = (⟨0, 0⟩, 2)) := by
  obtain ⟨h1, h2⟩ := s65_ok s t bin x hs ht
  obtain ⟨e1, e2⟩ := s65_g s t bin x
  unfold p20 s20
  rw [h1, e1, e2]
  by_cases h : Fine s t bin x
  · rw [h2.2 h, (s66_eq h).1, (s66_eq h).2]
    exact ⟨rfl, fun _ => rfl, fun h3 => absurd h h3⟩
  · have h3 : (s65 s t bin x).2 = false := by
      cases e : (s65 s t bin x).2
      · rfl
      · exact absurd (h2.1 e) h
    rw [h3]
    exact ⟨rfl, fun h3 => absurd h3 h, fun _ => rfl⟩
theorem s19_ok (t : Sl RangeRow) (x : Int) (ht : t.len ≤ 9223372036854775807) : p19 t x = true ∧ (TOk t ∧ 0 ≤ x ∧ x ≤ 1000000 → s19 t x = (thr t x, 0)) ∧ (¬ (TOk t ∧ 0 ≤ x ∧ x ≤ 1000000) → s19 t x = (⟨0, 0⟩, 2)) := by
  obtain ⟨h1, h2⟩ := s62_ok t ht
  unfold p19 s19
  rw [h1, s63_eq]
  by_cases hk : TOk t
  · rw [h2.2 hk, (s64_eq t x hk).1, (s64_eq t x hk).2]
    by_cases h : 0 ≤ x ∧ x ≤ 1000000
    · rw [decide_eq_true h]
      exact ⟨rfl, fun _ => rfl, fun h3 => absurd ⟨hk, h⟩ h3⟩
    · rw [decide_eq_false h]
      exact ⟨rfl, fun h3 => absurd h3.2 h, fun _ => rfl⟩
  · have h3 : s62 t = false := by
      cases e : s62 t
      · rfl
      · exact absurd (h2.1 e) hk
    rw [h3]
    exact ⟨rfl, fun h3 => absurd h3.1 hk, fun _ => rfl⟩
theorem t_mono {t : Sl RangeRow} (h : ∀ i, i < t.len → TRow t i) : ∀ d i, i + d < t.len → (0 < d → (t.get i).Energy < (t.get (i + d)).Energy) ∧ (t.get i).Range.Low ≤ (t.get (i + d)).Range.Low ∧ (t.get i).Range.High ≤ (t.get (i + d)).Range.High := by
  intro d
  induction d with
  | zero => intro i hi; exact ⟨fun h => absurd h (by omega), Int.le_refl _, Int.le_refl _⟩
  | succ d ih =>
    intro i hi
    obtain ⟨h1, h2, h3⟩ := ih i (by omega)
    obtain ⟨_, _, h4⟩ := h (i + (d + 1)) hi
    have e : i + (d + 1) - 1 = i + d := by omega
    rw [e] at h4
    have h4 := h4.resolve_left (by omega)
    refine ⟨fun _ => ?_, by omega, by omega⟩
    by_cases hd : 0 < d
    · have := h1 hd; omega
    · have : d = 0 := by omega
      subst this; exact h4.1
theorem t_e {t : Sl RangeRow} (h : TOk t) {i j : Nat} (hij : i < j) (hj : j < t.len) : (t.get i).Energy < (t.get j).Energy := by
  have := (t_mono h.2 (j - i) i (by omega)).1 (by omega)
  rwa [show i + (j - i) = j by omega] at this
theorem t_low {t : Sl RangeRow} (h : TOk t) {i j : Nat} (hij : i ≤ j) (hj : j < t.len) : (t.get i).Range.Low ≤ (t.get j).Range.Low := by
  have := (t_mono h.2 (j - i) i (by omega)).2.1
  rwa [show i + (j - i) = j by omega] at this
theorem t_high {t : Sl RangeRow} (h : TOk t) {i j : Nat} (hij : i ≤ j) (hj : j < t.len) : (t.get i).Range.High ≤ (t.get j).Range.High := by
  have := (t_mono h.2 (j - i) i (by omega)).2.2
  rwa [show i + (j - i) = j by omega] at this
theorem b_mono {parts : Int} {t : Sl FluxRow} (h : ∀ i, i < t.len → BRow parts t i) : ∀ d i, i + d < t.len → (0 < d → (t.get i).Energy < (t.get (i + d)).Energy) ∧ (t.get (i + d)).Rate.Low ≤ (t.get i).Rate.Low ∧ (t.get (i + d)).Rate.High ≤ (t.get i).Rate.High := by
  intro d
  induction d with
  | zero => intro i hi; exact ⟨fun h => absurd h (by omega), Int.le_refl _, Int.le_refl _⟩
  | succ d ih =>
    intro i hi
    obtain ⟨h1, h2, h3⟩ := ih i (by omega)
    obtain ⟨_, _, h4⟩ := h (i + (d + 1)) hi
    have e : i + (d + 1) - 1 = i + d := by omega
    rw [e] at h4
    have h4 := h4.resolve_left (by omega)
    refine ⟨fun _ => ?_, by omega, by omega⟩
    by_cases hd : 0 < d
    · have := h1 hd; omega
    · have : d = 0 := by omega
      subst this; exact h4.1
theorem b_e {parts : Int} {t : Sl FluxRow} (h : BOk parts t) {i j : Nat} (hij : i < j) (hj : j < t.len) : (t.get i).Energy < (t.get j).Energy := by
  have := (b_mono h.2.2 (j - i) i (by omega)).1 (by omega)
  rwa [show i + (j - i) = j by omega] at this
theorem b_low {parts : Int} {t : Sl FluxRow} (h : BOk parts t) {i j : Nat} (hij : i ≤ j) (hj : j < t.len) : (t.get j).Rate.Low ≤ (t.get i).Rate.Low := by
  have := (b_mono h.2.2 (j - i) i (by omega)).2.1
  rwa [show i + (j - i) = j by omega] at this
theorem b_high {parts : Int} {t : Sl FluxRow} (h : BOk parts t) {i j : Nat} (hij : i ≤ j) (hj : j < t.len) : (t.get j).Rate.High ≤ (t.get i).Rate.High := by
  have := (b_mono h.2.2 (j - i) i (by omega)).2.2
  rwa [show i + (j - i) = j by omega] at this
end Go.Proofs
namespace Go.Proofs
open Go Go.Pm
set_option linter.unusedVariables false
theorem s49_eq (t : Sl RangeRow) (x : Int) (hk : TOk t) : p49 t x = true ∧ s49 t x = thr t x := by
  have hn : t.len ≤ 9223372036854775807 := by have := hk.1.2; omega
  unfold p49 s49 thr
  by_cases h0 : x = 0
  · rw [if_pos h0, beq_iff_eq.2 h0]; exact ⟨rfl, rfl⟩
  have h00 : (x == 0) = false := by simpa using h0
  rw [if_neg h0, h00, cond_false, cond_false]
  have hb : ∀ a, p49_at2 t x a = true ∧ s49_at2 t x a = ⟨a, thrH t x⟩ := by
    intro a
    refine bwd_loop (γ := Span) (c := fun i => decide ((t.get i).Range.Low ≥ x)) (v := fun i => (t.get i).Energy) (E := fun b => ⟨a, b⟩) (EP := fun _ => true) (n := t.len) (lpS := fun k i b => s49_lp3 t x k i a b) (lpP := fun k i b => p49_lp3 t x k i a b) ?_ ?_ ?_ ?_ hn (-1)
    · intro k i b hi
      show s49_st3 t x (s49_lp3 t x k) i a b = _
      unfold s49_st3
      rw [decide_eq_true (by omega), Int.toNat_natCast]; rfl
    · intro k b
      show s49_st3 t x (s49_lp3 t x k) (-1) a b = _
      unfold s49_st3
      rw [decide_eq_false (by omega)]; rfl
    · intro k i b hi
      show p49_st3 t x (p49_lp3 t x k) i a b = _
      unfold p49_st3
      have e4 : decide (0 ≤ (i : Int) ∧ (i : Int) < (t.len : Int)) = true := decide_eq_true (by omega)
      rw [decide_eq_true (by omega), e4, Int.toNat_natCast]
      simp only [Bool.true_and, cond_true]
    · intro k b
      show p49_st3 t x (p49_lp3 t x k) (-1) a b = _
      unfold p49_st3
      rw [decide_eq_false (by omega)]; rfl
  have hf := fwd_loop (c := fun i => decide ((t.get i).Range.High < x)) (v := fun i => w64 ((t.get i).Energy + 1)) (E := fun a => s49_at2 t x a) (EP := fun a => p49_at2 t x a) (n := t.len) (lpS := s49_lp1 t x) (lpP := p49_lp1 t x)
    (by
      intro k i b hi
      show s49_st1 t x (s49_lp1 t x k) i b = _
      unfold s49_st1
      rw [decide_eq_true (by omega), Int.toNat_natCast]; rfl)
    (by
      intro k b
      show s49_st1 t x (s49_lp1 t x k) _ b = _
      unfold s49_st1
      rw [decide_eq_false (by omega)]; rfl)
    (by
      intro k i b hi
      show p49_st1 t x (p49_lp1 t x k) i b = _
      unfold p49_st1
      have e4 : decide (0 ≤ (i : Int) ∧ (i : Int) < (t.len : Int)) = true := decide_eq_true (by omega)
      rw [decide_eq_true (by omega), e4, Int.toNat_natCast]
      simp only [Bool.true_and, cond_true])
    (by
      intro k b
      show p49_st1 t x (p49_lp1 t x k) _ b = _
      unfold p49_st1
      rw [decide_eq_false (by omega)]; rfl) hn 1
  have hl : lastF (fun i => decide ((t.get i).Range.High < x)) (fun i => w64 ((t.get i).Energy + 1)) t.len 1 = thrL t x := by
    rw [last_fst (d := fun i => decide ((t.get i).Range.High ≥ x)) (fun i hi => by
        show decide ((t.get i).Range.High ≥ x) = !decide ((t.get i).Range.High < x)
        rw [← decide_not]; exact decide_eq_decide.2 (by omega)) (fun i j h1 h2 h3 => by
        have := t_high hk h1 h2
        have := of_decide_eq_true h3
        exact decide_eq_true (by omega))]
    unfold thrL
    show (if 0 < kH t x then w64 ((t.get (kH t x - 1)).Energy + 1) else 1) = _
    by_cases h : 0 < kH t x
    · have b1 : kH t x ≤ t.len := fst_le _ _
      have hr := hk.2 (kH t x - 1) (by omega)
      unfold TRow at hr
      rw [if_pos h, if_pos h]
      exact w64_id (by omega) (by omega)
    · rw [if_neg h, if_neg h]
  have r1 := hf.1.trans (hb _).1
  have r2 := hf.2.trans (hb _).2
  rw [hl] at r2
  exact ⟨r1, r2⟩
theorem s46_eq {parts : Int} (l : Sl FluxRow) (y : Span) (hk : BOk parts l) (hy : 1 ≤ y.Low) : p46 l y = true ∧ s46 l y = abv l y := by
  have hn : l.len ≤ 9223372036854775807 := by have := hk.1.2; omega
  have hb : ∀ a, p46_at1 l y a = true ∧ s46_at1 l y a = ⟨abvL l y.High, a⟩ := by
    intro a
    unfold abvL
    by_cases hh : y.High = -1
    · rw [if_pos hh]
      obtain ⟨k, hkk⟩ : ∃ k, Fuel = k + 1 := ⟨Fuel - 1, by simp only [Fuel]⟩
      unfold p46_at1 s46_at1 p46_at2 s46_at2
      rw [hkk]
      show p46_st2 l y (p46_lp2 l y k) _ _ _ = true ∧ s46_st2 l y (s46_lp2 l y k) _ _ _ = _
      have hne : (y.High != -1) = false := by simp [hh]
      unfold p46_st2 s46_st2
      rw [hne]
      cases decide (w64 ((l.len : Int) - 1) ≥ 0) <;> exact ⟨rfl, rfl⟩
    · rw [if_neg hh]
      have hne : (y.High != -1) = true := by simp [hh]
      refine bwd_loop (γ := Span) (c := fun i => decide ((l.get i).Energy ≥ y.High)) (v := fun i => (l.get i).Rate.Low) (E := fun b => ⟨b, a⟩) (EP := fun _ => true) (n := l.len) (lpS := fun k i b => s46_lp2 l y k i b a) (lpP := fun k i b => p46_lp2 l y k i b a) ?_ ?_ ?_ ?_ hn 0
      · intro k i b hi
        show s46_st2 l y (s46_lp2 l y k) i b a = _
        unfold s46_st2
        rw [decide_eq_true (by omega), Int.toNat_natCast, hne]; rfl
      · intro k b
        show s46_st2 l y (s46_lp2 l y k) (-1) b a = _
        unfold s46_st2
        rw [decide_eq_false (by omega)]; rfl
      · intro k i b hi
        show p46_st2 l y (p46_lp2 l y k) i b a = _
        unfold p46_st2
        have e4 : decide (0 ≤ (i : Int) ∧ (i : Int) < (l.len : Int)) = true := decide_eq_true (by omega)
        rw [decide_eq_true (by omega), e4, Int.toNat_natCast, hne]
        simp only [Bool.true_and, cond_true]
      · intro k b
        show p46_st2 l y (p46_lp2 l y k) (-1) b a = _
        unfold p46_st2
        rw [decide_eq_false (by omega)]; rfl
  have hf := fwd_loop (c := fun i => decide ((l.get i).Energy ≤ y.Low)) (v := fun i => (l.get i).Rate.High) (E := fun a => s46_at1 l y a) (EP := fun a => p46_at1 l y a) (n := l.len) (lpS := s46_lp0 l y) (lpP := p46_lp0 l y)
    (by
      intro k i b hi
      show s46_st0 l y (s46_lp0 l y k) i b = _
      unfold s46_st0
      rw [decide_eq_true (by omega), Int.toNat_natCast]; rfl)
    (by
      intro k b
      show s46_st0 l y (s46_lp0 l y k) _ b = _
      unfold s46_st0
      rw [decide_eq_false (by omega)]; rfl)
    (by
      intro k i b hi
      show p46_st0 l y (p46_lp0 l y k) i b = _
      unfold p46_st0
      have e4 : decide (0 ≤ (i : Int) ∧ (i : Int) < (l.len : Int)) = true := decide_eq_true (by omega)
      rw [decide_eq_true (by omega), e4, Int.toNat_natCast]
      simp only [Bool.true_and, cond_true])
    (by
      intro k b
      show p46_st0 l y (p46_lp0 l y k) _ b = _
      unfold p46_st0
      rw [decide_eq_false (by omega)]; rfl) hn 0
  have hl : lastF (fun i => decide ((l.get i).Energy ≤ y.Low)) (fun i => (l.get i).Rate.High) l.len 0 = abvH l y.Low := by
    rw [last_fst (d := fun i => decide ((l.get i).Energy > y.Low)) (fun i hi => by
        show decide ((l.get i).Energy > y.Low) = !decide ((l.get i).Energy ≤ y.Low)
        rw [← decide_not]; exact decide_eq_decide.2 (by omega)) (fun i j h1 h2 h3 => by
        have := of_decide_eq_true h3
        by_cases e : i = j
        · exact decide_eq_true (by rw [← e]; omega)
        · have := b_e hk (show i < j by omega) h2
          exact decide_eq_true (by omega))]
    unfold abvH
    show (if 0 < jL l y.Low then (l.get (jL l y.Low - 1)).Rate.High else 0) = _
    have h : 0 < jL l y.Low := by
      have b1 : jL l y.Low ≤ l.len := fst_le _ _
      have := hk.1.1
      rcases Nat.eq_zero_or_pos (jL l y.Low) with h | h
      · have := of_decide_eq_true (fst_hi (c := fun i => decide ((l.get i).Energy > y.Low)) (n := l.len) (show jL l y.Low < l.len by omega))
        have h2 : fst (fun i => decide ((l.get i).Energy > y.Low)) l.len = 0 := h
        rw [h2, hk.2.1] at this
        omega
      · exact h
    rw [if_pos h, if_pos h]
  have r1 := hf.1.trans (hb _).1
  have r2 := hf.2.trans (hb _).2
  rw [hl] at r2
  exact ⟨r1, r2⟩
theorem thr_low {t : Sl RangeRow} (x : Int) (hk : TOk t) : 1 ≤ (thr t x).Low := by
  unfold thr
  by_cases h0 : x = 0
  · rw [if_pos h0]; exact Int.le_refl _
  rw [if_neg h0]
  show 1 ≤ thrL t x
  unfold thrL
  by_cases h : 0 < kH t x
  · have b1 : kH t x ≤ t.len := fst_le _ _
    have hr := hk.2 (kH t x - 1) (by omega)
    unfold TRow at hr
    rw [if_pos h]; omega
  · rw [if_neg h]; exact Int.le_refl _
theorem s47_eq {s : Sky} {t : Sl RangeRow} {bin x : Int} (h : Fine s t bin x) : p47 s t bin x = true ∧ s47 s t bin x = expd s t bin x := by
  obtain ⟨h1, h2⟩ := s49_eq t x h.2.1
  obtain ⟨h3, h4⟩ := s46_eq (s.Bins.get bin.toNat) (thr t x) h.b (thr_low x h.2.1)
  unfold p47 s47 expd
  rw [h1, h2, h3, h4, decide_eq_true h.2.2.1]
  exact ⟨rfl, rfl⟩
end Go.Proofs
namespace Go.Proofs
open Go Go.Pm
set_option linter.unusedVariables false
def mz (z : Int) : Int := if z > 0 then z else 0
def mn2 (a b : Int) : Int := if b < a then b else a
def mx2 (a b : Int) : Int := if b > a then b else a
def mn4 (a b c d : Int) : Int := mn2 (mn2 (mn2 a b) c) d
def mx4 (a b c d : Int) : Int := mx2 (mx2 (mx2 a b) c) d
theorem mn4_spec (a b c d : Int) : (mn4 a b c d ≤ a ∧ mn4 a b c d ≤ b ∧ mn4 a b c d ≤ c ∧ mn4 a b c d ≤ d) ∧ (mn4 a b c d = a ∨ mn4 a b c d = b ∨ mn4 a b c d = c ∨ mn4 a b c d = d) := by
  unfold mn4 mn2
  repeat' split
  all_goals omega
theorem mx4_spec (a b c d : Int) : (a ≤ mx4 a b c d ∧ b ≤ mx4 a b c d ∧ c ≤ mx4 a b c d ∧ d ≤ mx4 a b c d) ∧ (mx4 a b c d = a ∨ mx4 a b c d = b ∨ mx4 a b c d = c ∨ mx4 a b c d = d) := by
  unfold mx4 mx2
  repeat' split
  all_goals omega
theorem mul_line {a b c x : Int} (h1 : a ≤ x) (h2 : x ≤ b) : (a * c ≤ x * c ∨ b * c ≤ x * c) ∧ (x * c ≤ a * c ∨ x * c ≤ b * c) := by
  rcases Int.le_total 0 c with h | h
  · exact ⟨Or.inl (Int.mul_le_mul_of_nonneg_right h1 h), Or.inr (Int.mul_le_mul_of_nonneg_right h2 h)⟩
  · exact ⟨Or.inr (Int.mul_le_mul_of_nonpos_right h2 h), Or.inl (Int.mul_le_mul_of_nonpos_right h1 h)⟩
theorem mul_in {a b c d x y : Int} (h1 : a ≤ x ∧ x ≤ b) (h2 : c ≤ y ∧ y ≤ d) : mn4 (a * c) (a * d) (b * c) (b * d) ≤ x * y ∧ x * y ≤ mx4 (a * c) (a * d) (b * c) (b * d) := by
  have k1 := mul_line (c := y) h1.1 h1.2
  have k2 := mul_line (c := a) h2.1 h2.2
  have k3 := mul_line (c := b) h2.1 h2.2
  rw [Int.mul_comm c a, Int.mul_comm y a, Int.mul_comm d a] at k2
  rw [Int.mul_comm c b, Int.mul_comm y b, Int.mul_comm d b] at k3
  have m := (mn4_spec (a * c) (a * d) (b * c) (b * d)).1
  have n := (mx4_spec (a * c) (a * d) (b * c) (b * d)).1
  omega
theorem mul_b {x y p q : Int} (hp : 0 ≤ p) (hq : 0 ≤ q) (h1 : -p ≤ x ∧ x ≤ p) (h2 : -q ≤ y ∧ y ≤ q) : -(p * q) ≤ x * y ∧ x * y ≤ p * q := by
  have h := mul_in h1 h2
  have e1 : -p * -q = p * q := Int.neg_mul_neg p q
  have e2 : -p * q = -(p * q) := Int.neg_mul p q
  have e3 : p * -q = -(p * q) := Int.mul_neg p q
  rw [e1, e2, e3] at h
  have m := (mn4_spec (p * q) (-(p * q)) (-(p * q)) (p * q)).2
  have n := (mx4_spec (p * q) (-(p * q)) (-(p * q)) (p * q)).2
  have := Int.mul_nonneg hp hq
  omega
def WOk (w : Weather) : Prop := (-1000 ≤ w.Pressure.Low ∧ w.Pressure.Low ≤ w.Pressure.High ∧ w.Pressure.High ≤ 1000) ∧ (-1000 ≤ w.Warm.Low ∧ w.Warm.Low ≤ w.Warm.High ∧ w.Warm.High ≤ 1000)
theorem s76_eq (w : Weather) : s76 w = true ↔ WOk w := by
  unfold s76 WOk
  rw [s69_eq, s69_eq]
  simp only [Bool.cond_decide, Bool.if_false_right, Bool.and_eq_true, decide_eq_true_eq]
theorem s36_eq (w : Weather) : s36 w = s76 w := by
  unfold s36 s76
  rw [s69_eq, s69_eq, s29_eq, s29_eq]
def y117 (b p a x : Int) : Int := if w64 (w64 (1000 - w64 (b * p)) + w64 (a * x)) > 0 then w64 (w64 (1000 - w64 (b * p)) + w64 (a * x)) else 0
theorem y117_eq {b p a x : Int} (hb : -100 ≤ b ∧ b ≤ 100) (hp : -1000 ≤ p ∧ p ≤ 1000) (ha : -100 ≤ a ∧ a ≤ 100) (hx : -1000 ≤ x ∧ x ≤ 1000) : y117 b p a x = mz (1000 - b * p + a * x) := by
  have h1 := mul_b (p := 100) (q := 1000) (by omega) (by omega) hb hp
  have h2 := mul_b (p := 100) (q := 1000) (by omega) (by omega) ha hx
  unfold y117 mz
  rw [w64_id (x := b * p) (by omega) (by omega), w64_id (x := a * x) (by omega) (by omega), w64_id (x := 1000 - b * p) (by omega) (by omega), w64_id (by omega) (by omega)]
theorem ys117_y (s : Sky) (w : Weather) : ys117 s w = [y117 s.Beta.Low w.Pressure.Low s.Alpha.Low w.Warm.Low, y117 s.Beta.Low w.Pressure.Low s.Alpha.Low w.Warm.High, y117 s.Beta.Low w.Pressure.Low s.Alpha.High w.Warm.Low, y117 s.Beta.Low w.Pressure.Low s.Alpha.High w.Warm.High,
    y117 s.Beta.Low w.Pressure.High s.Alpha.Low w.Warm.Low, y117 s.Beta.Low w.Pressure.High s.Alpha.Low w.Warm.High, y117 s.Beta.Low w.Pressure.High s.Alpha.High w.Warm.Low, y117 s.Beta.Low w.Pressure.High s.Alpha.High w.Warm.High,
    y117 s.Beta.High w.Pressure.Low s.Alpha.Low w.Warm.Low, y117 s.Beta.High w.Pressure.Low s.Alpha.Low w.Warm.High, y117 s.Beta.High w.Pressure.Low s.Alpha.High w.Warm.Low, y117 s.Beta.High w.Pressure.Low s.Alpha.High w.Warm.High,
    y117 s.Beta.High w.Pressure.High s.Alpha.Low w.Warm.Low, y117 s.Beta.High w.Pressure.High s.Alpha.Low w.Warm.High, y117 s.Beta.High w.Pressure.High s.Alpha.High w.Warm.Low, y117 s.Beta.High w.Pressure.High s.Alpha.High w.Warm.High] := rfl
def lmin : Int → List Int → Int
  | a, [] => a
  | a, y :: r => lmin (if y < a then y else a) r
def lmax : Int → List Int → Int
  | a, [] => a
  | a, y :: r => lmax (if y > a then y else a) r
theorem lmin_spec : ∀ (l : List Int) (a : Int), (lmin a l ≤ a ∧ ∀ y, y ∈ l → lmin a l ≤ y) ∧ (lmin a l = a ∨ lmin a l ∈ l)
  | [], a => ⟨⟨Int.le_refl _, fun y h => absurd h (by simp)⟩, Or.inl rfl⟩
  | y :: r, a => by
    obtain ⟨⟨h1, h2⟩, h3⟩ := lmin_spec r (if y < a then y else a)
    have e : lmin a (y :: r) = lmin (if y < a then y else a) r := rfl
    rw [e]
    have hq : (if y < a then y else a) ≤ a ∧ (if y < a then y else a) ≤ y ∧ ((if y < a then y else a) = a ∨ (if y < a then y else a) = y) := by split <;> omega
    generalize (if y < a then y else a) = q at h1 h2 h3 hq ⊢
    refine ⟨⟨by omega, fun z hz => ?_⟩, ?_⟩
    · rcases List.mem_cons.1 hz with e | e
      · omega
      · exact h2 z e
    · rcases h3 with e | e
      · rcases hq.2.2 with f | f
        · exact Or.inl (e.trans f)
        · exact Or.inr (by rw [e, f]; exact List.mem_cons_self)
      · exact Or.inr (List.mem_cons_of_mem _ e)
theorem lmax_spec : ∀ (l : List Int) (a : Int), (a ≤ lmax a l ∧ ∀ y, y ∈ l → y ≤ lmax a l) ∧ (lmax a l = a ∨ lmax a l ∈ l)
  | [], a => ⟨⟨Int.le_refl _, fun y h => absurd h (by simp)⟩, Or.inl rfl⟩
  | y :: r, a => by
    obtain ⟨⟨h1, h2⟩, h3⟩ := lmax_spec r (if y > a then y else a)
    have e : lmax a (y :: r) = lmax (if y > a then y else a) r := rfl
    rw [e]
    have hq : a ≤ (if y > a then y else a) ∧ y ≤ (if y > a then y else a) ∧ ((if y > a then y else a) = a ∨ (if y > a then y else a) = y) := by split <;> omega
    generalize (if y > a then y else a) = q at h1 h2 h3 hq ⊢
    refine ⟨⟨by omega, fun z hz => ?_⟩, ?_⟩
    · rcases List.mem_cons.1 hz with e | e
      · omega
      · exact h2 z e
    · rcases h3 with e | e
      · rcases hq.2.2 with f | f
        · exact Or.inl (e.trans f)
        · exact Or.inr (by rw [e, f]; exact List.mem_cons_self)
      · exact Or.inr (List.mem_cons_of_mem _ e)
theorem s77_lp (s : Sky) (w : Weather) : ∀ (l : List Int) (a b : Int), p77_lp0 s w l false a b = true ∧ s77_lp0 s w l false a b = ⟨lmin a l, lmax b l⟩
  | [], a, b => ⟨rfl, rfl⟩
  | y :: r, a, b => by
    obtain ⟨h1, h2⟩ := s77_lp s w r (if y < a then y else a) (if y > b then y else b)
    exact ⟨h1, h2⟩
theorem s77_cons (s : Sky) (w : Weather) (y : Int) (r : List Int) : p77_lp0 s w (y :: r) true 0 0 = true ∧ s77_lp0 s w (y :: r) true 0 0 = ⟨lmin y r, lmax y r⟩ := by
  have h := s77_lp s w r (if y < y then y else y) (if y > y then y else y)
  have e1 : (if y < y then y else y) = y := by split <;> rfl
  have e2 : (if y > y then y else y) = y := by split <;> rfl
  have h1 : p77_lp0 s w (y :: r) true 0 0 = p77_lp0 s w r false (if y < y then y else y) (if y > y then y else y) := rfl
  have h2 : s77_lp0 s w (y :: r) true 0 0 = s77_lp0 s w r false (if y < y then y else y) (if y > y then y else y) := rfl
  rw [h1, h2, h.1, h.2, e1]
  exact ⟨rfl, rfl⟩
def fcL (s : Sky) (w : Weather) : Int := mz (1000 - mx4 (s.Beta.Low * w.Pressure.Low) (s.Beta.Low * w.Pressure.High) (s.Beta.High * w.Pressure.Low) (s.Beta.High * w.Pressure.High) + mn4 (s.Alpha.Low * w.Warm.Low) (s.Alpha.Low * w.Warm.High) (s.Alpha.High * w.Warm.Low) (s.Alpha.High * w.Warm.High))
def fcH (s : Sky) (w : Weather) : Int := mz (1000 - mn4 (s.Beta.Low * w.Pressure.Low) (s.Beta.Low * w.Pressure.High) (s.Beta.High * w.Pressure.Low) (s.Beta.High * w.Pressure.High) + mx4 (s.Alpha.Low * w.Warm.Low) (s.Alpha.Low * w.Warm.High) (s.Alpha.High * w.Warm.Low) (s.Alpha.High * w.Warm.High))
theorem mz_mono {a b : Int} (h : a ≤ b) : mz a ≤ mz b := by
  unfold mz; split <;> split <;> omega
theorem all16 (b1 b2 b3 b4 a1 a2 a3 a4 : Int) :
    lmin (mz (1000 - b1 + a1)) [mz (1000 - b1 + a2), mz (1000 - b1 + a3), mz (1000 - b1 + a4), mz (1000 - b2 + a1), mz (1000 - b2 + a2), mz (1000 - b2 + a3), mz (1000 - b2 + a4), mz (1000 - b3 + a1), mz (1000 - b3 + a2), mz (1000 - b3 + a3), mz (1000 - b3 + a4), mz (1000 - b4 + a1), mz (1000 - b4 + a2), mz (1000 - b4 + a3), mz (1000 - b4 + a4)] = mz (1000 - mx4 b1 b2 b3 b4 + mn4 a1 a2 a3 a4) ∧
    lmax (mz (1000 - b1 + a1)) [mz (1000 - b1 + a2), mz (1000 - b1 + a3), mz (1000 - b1 + a4), mz (1000 - b2 + a1), mz (1000 - b2 + a2), mz (1000 - b2 + a3), mz (1000 - b2 + a4), mz (1000 - b3 + a1), mz (1000 - b3 + a2), mz (1000 - b3 + a3), mz (1000 - b3 + a4), mz (1000 - b4 + a1), mz (1000 - b4 + a2), mz (1000 - b4 + a3), mz (1000 - b4 + a4)] = mz (1000 - mn4 b1 b2 b3 b4 + mx4 a1 a2 a3 a4) := by
  obtain ⟨mb, eb⟩ := mx4_spec b1 b2 b3 b4
  obtain ⟨nb, fb⟩ := mn4_spec b1 b2 b3 b4
  obtain ⟨ma, ea⟩ := mx4_spec a1 a2 a3 a4
  obtain ⟨na, fa⟩ := mn4_spec a1 a2 a3 a4
  generalize mx4 b1 b2 b3 b4 = B at mb eb ⊢
  generalize mn4 b1 b2 b3 b4 = C at nb fb ⊢
  generalize mx4 a1 a2 a3 a4 = A at ma ea ⊢
  generalize mn4 a1 a2 a3 a4 = D at na fa ⊢
  constructor
  · generalize hl : [mz (1000 - b1 + a2), mz (1000 - b1 + a3), mz (1000 - b1 + a4), mz (1000 - b2 + a1), mz (1000 - b2 + a2), mz (1000 - b2 + a3), mz (1000 - b2 + a4), mz (1000 - b3 + a1), mz (1000 - b3 + a2), mz (1000 - b3 + a3), mz (1000 - b3 + a4), mz (1000 - b4 + a1), mz (1000 - b4 + a2), mz (1000 - b4 + a3), mz (1000 - b4 + a4)] = l
    obtain ⟨⟨g1, g2⟩, g3⟩ := lmin_spec l (mz (1000 - b1 + a1))
    refine Int.le_antisymm ?_ ?_
    · have hm : mz (1000 - B + D) = mz (1000 - b1 + a1) ∨ mz (1000 - B + D) ∈ l := by
        rw [← hl]
        rcases eb with e | e | e | e <;> rcases fa with f | f | f | f <;> rw [e, f] <;> simp
      rcases hm with e | e
      · rw [e]; exact g1
      · exact g2 _ e
    · have hle : ∀ y, y = mz (1000 - b1 + a1) ∨ y ∈ l → mz (1000 - B + D) ≤ y := by
        intro y hy
        rw [← hl] at hy
        simp only [List.mem_cons, List.not_mem_nil, or_false] at hy
        rcases hy with e | e | e | e | e | e | e | e | e | e | e | e | e | e | e | e <;> (rw [e]; exact mz_mono (by omega))
      rcases g3 with e | e
      · exact hle _ (Or.inl e)
      · exact hle _ (Or.inr e)
  · generalize hl : [mz (1000 - b1 + a2), mz (1000 - b1 + a3), mz (1000 - b1 + a4), mz (1000 - b2 + a1), mz (1000 - b2 + a2), mz (1000 - b2 + a3), mz (1000 - b2 + a4), mz (1000 - b3 + a1), mz (1000 - b3 + a2), mz (1000 - b3 + a3), mz (1000 - b3 + a4), mz (1000 - b4 + a1), mz (1000 - b4 + a2), mz (1000 - b4 + a3), mz (1000 - b4 + a4)] = l
    obtain ⟨⟨g1, g2⟩, g3⟩ := lmax_spec l (mz (1000 - b1 + a1))
    refine Int.le_antisymm ?_ ?_
    · have hle : ∀ y, y = mz (1000 - b1 + a1) ∨ y ∈ l → y ≤ mz (1000 - C + A) := by
        intro y hy
        rw [← hl] at hy
        simp only [List.mem_cons, List.not_mem_nil, or_false] at hy
        rcases hy with e | e | e | e | e | e | e | e | e | e | e | e | e | e | e | e <;> (rw [e]; exact mz_mono (by omega))
      rcases g3 with e | e
      · exact hle _ (Or.inl e)
      · exact hle _ (Or.inr e)
    · have hm : mz (1000 - C + A) = mz (1000 - b1 + a1) ∨ mz (1000 - C + A) ∈ l := by
        rw [← hl]
        rcases fb with e | e | e | e <;> rcases ea with f | f | f | f <;> rw [e, f] <;> simp
      rcases hm with e | e
      · rw [e]; exact g1
      · exact g2 _ e
def SB (s : Sky) : Prop := (-100 ≤ s.Beta.Low ∧ s.Beta.Low ≤ s.Beta.High ∧ s.Beta.High ≤ 100) ∧ (-100 ≤ s.Alpha.Low ∧ s.Alpha.Low ≤ s.Alpha.High ∧ s.Alpha.High ≤ 100)
theorem SOk.sb {s : Sky} (h : SOk s) : SB s := ⟨h.1.2.2.1, h.1.2.2.2⟩
theorem s77_eq {s : Sky} {w : Weather} (hs : SB s) (hw : WOk w) : p77 s w = true ∧ s77 s w = ⟨fcL s w, fcH s w⟩ := by
  obtain ⟨⟨b1, b2, b3⟩, a1, a2, a3⟩ := hs
  obtain ⟨⟨p1, p2, p3⟩, x1, x2, x3⟩ := hw
  have hbl : -100 ≤ s.Beta.Low ∧ s.Beta.Low ≤ 100 := by omega
  have hbh : -100 ≤ s.Beta.High ∧ s.Beta.High ≤ 100 := by omega
  have hal : -100 ≤ s.Alpha.Low ∧ s.Alpha.Low ≤ 100 := by omega
  have hah : -100 ≤ s.Alpha.High ∧ s.Alpha.High ≤ 100 := by omega
  have hpl : -1000 ≤ w.Pressure.Low ∧ w.Pressure.Low ≤ 1000 := by omega
  have hph : -1000 ≤ w.Pressure.High ∧ w.Pressure.High ≤ 1000 := by omega
  have hxl : -1000 ≤ w.Warm.Low ∧ w.Warm.Low ≤ 1000 := by omega
  have hxh : -1000 ≤ w.Warm.High ∧ w.Warm.High ≤ 1000 := by omega
  unfold p77 s77 p77_at0 s77_at0
  rw [ys117_y]
  rw [(s77_cons s w _ _).1, (s77_cons s w _ _).2]
  refine ⟨rfl, ?_⟩
  rw [y117_eq hbl hpl hal hxl, y117_eq hbl hpl hal hxh, y117_eq hbl hpl hah hxl, y117_eq hbl hpl hah hxh, y117_eq hbl hph hal hxl, y117_eq hbl hph hal hxh, y117_eq hbl hph hah hxl, y117_eq hbl hph hah hxh,
    y117_eq hbh hpl hal hxl, y117_eq hbh hpl hal hxh, y117_eq hbh hpl hah hxl, y117_eq hbh hpl hah hxh, y117_eq hbh hph hal hxl, y117_eq hbh hph hal hxh, y117_eq hbh hph hah hxl, y117_eq hbh hph hah hxh]
  obtain ⟨e1, e2⟩ := all16 (s.Beta.Low * w.Pressure.Low) (s.Beta.Low * w.Pressure.High) (s.Beta.High * w.Pressure.Low) (s.Beta.High * w.Pressure.High) (s.Alpha.Low * w.Warm.Low) (s.Alpha.Low * w.Warm.High) (s.Alpha.High * w.Warm.Low) (s.Alpha.High * w.Warm.High)
  rw [e1, e2]
  rfl
theorem fc_in {s : Sky} {w : Weather} {b p a x : Int} (hb : s.Beta.Low ≤ b ∧ b ≤ s.Beta.High) (hp : w.Pressure.Low ≤ p ∧ p ≤ w.Pressure.High) (ha : s.Alpha.Low ≤ a ∧ a ≤ s.Alpha.High) (hx : w.Warm.Low ≤ x ∧ x ≤ w.Warm.High) :
    fcL s w ≤ mz (1000 - b * p + a * x) ∧ mz (1000 - b * p + a * x) ≤ fcH s w := by
  have h1 := mul_in hb hp
  have h2 := mul_in ha hx
  exact ⟨mz_mono (by omega), mz_mono (by omega)⟩
theorem fc_b {s : Sky} {w : Weather} (hs : SB s) (hw : WOk w) : 0 ≤ fcL s w ∧ fcL s w ≤ fcH s w ∧ fcH s w ≤ 201000 := by
  obtain ⟨⟨b1, b2, b3⟩, a1, a2, a3⟩ := hs
  obtain ⟨⟨p1, p2, p3⟩, x1, x2, x3⟩ := hw
  have h := fc_in (s := s) (w := w) ⟨Int.le_refl _, b2⟩ ⟨Int.le_refl _, p2⟩ ⟨Int.le_refl _, a2⟩ ⟨Int.le_refl _, x2⟩
  have c1 := mul_b (p := 100) (q := 1000) (x := s.Beta.Low) (y := w.Pressure.Low) (by omega) (by omega) (by omega) (by omega)
  have c2 := mul_b (p := 100) (q := 1000) (x := s.Beta.Low) (y := w.Pressure.High) (by omega) (by omega) (by omega) (by omega)
  have c3 := mul_b (p := 100) (q := 1000) (x := s.Beta.High) (y := w.Pressure.Low) (by omega) (by omega) (by omega) (by omega)
  have c4 := mul_b (p := 100) (q := 1000) (x := s.Beta.High) (y := w.Pressure.High) (by omega) (by omega) (by omega) (by omega)
  have d1 := mul_b (p := 100) (q := 1000) (x := s.Alpha.Low) (y := w.Warm.Low) (by omega) (by omega) (by omega) (by omega)
  have d2 := mul_b (p := 100) (q := 1000) (x := s.Alpha.Low) (y := w.Warm.High) (by omega) (by omega) (by omega) (by omega)
  have d3 := mul_b (p := 100) (q := 1000) (x := s.Alpha.High) (y := w.Warm.Low) (by omega) (by omega) (by omega) (by omega)
  have d4 := mul_b (p := 100) (q := 1000) (x := s.Alpha.High) (y := w.Warm.High) (by omega) (by omega) (by omega) (by omega)
  have m := (mn4_spec (s.Beta.Low * w.Pressure.Low) (s.Beta.Low * w.Pressure.High) (s.Beta.High * w.Pressure.Low) (s.Beta.High * w.Pressure.High)).2
  have n := (mx4_spec (s.Alpha.Low * w.Warm.Low) (s.Alpha.Low * w.Warm.High) (s.Alpha.High * w.Warm.Low) (s.Alpha.High * w.Warm.High)).2
  refine ⟨by unfold fcL mz; split <;> omega, by omega, ?_⟩
  unfold fcH mz
  split <;> omega
def LOk (l : Sl Spell) : Prop := (1 ≤ (l.len : Int) ∧ (l.len : Int) ≤ 50) ∧ ∀ i, i < l.len → (1 ≤ (l.get i).Slots ∧ (l.get i).Slots ≤ 1000000) ∧ WOk (l.get i).Weather
theorem s67_ok (l : Sl Spell) (hn : l.len ≤ 9223372036854775807) : p67 l = true ∧ (s67 l = true ↔ LOk l) := by
  have h : p67 l = true ∧ (s67 l = true ↔ (∀ i, i < l.len → (decide (1 ≤ (l.get i).Slots ∧ (l.get i).Slots ≤ 1000000) && s76 (l.get i).Weather) = true) ∧ s63 (l.len : Int) 1 50 = true) := by
    refine all_loop (n := l.len) (good := fun i => decide (1 ≤ (l.get i).Slots ∧ (l.get i).Slots ≤ 1000000) && s76 (l.get i).Weather) (lpS := s67_lp0 l) (lpP := p67_lp0 l) ?_ ?_ ?_ ?_ hn
    · intro k i hi
      show s67_st0 l (s67_lp0 l k) i = _
      generalize s67_lp0 l k = S
      unfold s67_st0 s67_at1
      rw [decide_eq_true (by omega), Int.toNat_natCast, s63_eq]
      cases decide (1 ≤ (l.get i).Slots ∧ (l.get i).Slots ≤ 1000000) <;> cases s76 (l.get i).Weather <;> rfl
    · intro k
      show s67_st0 l (s67_lp0 l k) _ = _
      unfold s67_st0
      rw [decide_eq_false (by omega), cond_false]
    · intro k i hi
      show p67_st0 l (p67_lp0 l k) i = _
      generalize p67_lp0 l k = S
      unfold p67_st0 p67_at1
      rw [decide_eq_true (show (i : Int) < (l.len : Int) by omega), Int.toNat_natCast, s63_eq, decide_eq_true (show 0 ≤ (i : Int) ∧ (i : Int) < (l.len : Int) by omega)]
      cases decide (1 ≤ (l.get i).Slots ∧ (l.get i).Slots ≤ 1000000) <;> cases s76 (l.get i).Weather <;> rfl
    · intro k
      show p67_st0 l (p67_lp0 l k) _ = _
      unfold p67_st0
      rw [decide_eq_false (by omega), cond_false]
  refine ⟨h.1, h.2.trans ?_⟩
  unfold LOk
  rw [s63_eq]
  simp only [Bool.and_eq_true, decide_eq_true_eq, s76_eq]
  exact And.comm
theorem s22_ok (l : Sl Spell) (hn : l.len ≤ 9223372036854775807) : p22 l = true ∧ s22 l = s67 l := by
  have h : p22 l = true ∧ (s22 l = true ↔ (∀ i, i < l.len → (decide (1 ≤ (l.get i).Slots ∧ (l.get i).Slots ≤ 1000000) && s76 (l.get i).Weather) = true) ∧ s58 (l.len : Int) 1 50 = true) := by
    refine all_loop (n := l.len) (good := fun i => decide (1 ≤ (l.get i).Slots ∧ (l.get i).Slots ≤ 1000000) && s76 (l.get i).Weather) (lpS := s22_lp0 l) (lpP := p22_lp0 l) ?_ ?_ ?_ ?_ hn
    · intro k i hi
      show s22_st0 l (s22_lp0 l k) i = _
      generalize s22_lp0 l k = S
      unfold s22_st0 s22_at1
      rw [decide_eq_true (by omega), Int.toNat_natCast, s58_eq, s36_eq]
      cases decide (1 ≤ (l.get i).Slots ∧ (l.get i).Slots ≤ 1000000) <;> cases s76 (l.get i).Weather <;> rfl
    · intro k
      show s22_st0 l (s22_lp0 l k) _ = _
      unfold s22_st0
      rw [decide_eq_false (by omega), cond_false]
    · intro k i hi
      show p22_st0 l (p22_lp0 l k) i = _
      generalize p22_lp0 l k = S
      unfold p22_st0 p22_at1
      rw [decide_eq_true (show (i : Int) < (l.len : Int) by omega), Int.toNat_natCast, s58_eq, s36_eq, decide_eq_true (show 0 ≤ (i : Int) ∧ (i : Int) < (l.len : Int) by omega)]
      cases decide (1 ≤ (l.get i).Slots ∧ (l.get i).Slots ≤ 1000000) <;> cases s76 (l.get i).Weather <;> rfl
    · intro k
      show p22_st0 l (p22_lp0 l k) _ = _
      unfold p22_st0
      rw [decide_eq_false (by omega), cond_false]
  refine ⟨h.1, Bool.eq_iff_iff.2 (h.2.trans ((s67_ok l hn).2.trans ?_).symm)⟩
  unfold LOk
  rw [s58_eq]
  simp only [Bool.and_eq_true, decide_eq_true_eq, s76_eq]
  exact And.comm
def sumF (f : Nat → Int) : Nat → Int
  | 0 => 0
  | i + 1 => sumF f i + f i
theorem sumF_le {f g : Nat → Int} {n : Nat} (h : ∀ i, i < n → f i ≤ g i) : sumF f n ≤ sumF g n := by
  induction n with
  | zero => exact Int.le_refl _
  | succ n ih =>
    have := ih fun i hi => h i (by omega)
    have := h n (by omega)
    show sumF f n + f n ≤ sumF g n + g n
    omega
theorem sumF_b {f : Nat → Int} {n : Nat} {b : Int} (h : ∀ i, i < n → 0 ≤ f i ∧ f i ≤ b) : 0 ≤ sumF f n ∧ sumF f n ≤ n * b := by
  induction n with
  | zero => exact ⟨Int.le_refl _, by show (0 : Int) ≤ _; simp⟩
  | succ n ih =>
    have h1 := ih fun i hi => h i (by omega)
    have h2 := h n (by omega)
    have e : ((n + 1 : Nat) : Int) * b = n * b + b := by rw [Int.natCast_add, Int.add_mul]; simp
    show 0 ≤ sumF f n + f n ∧ sumF f n + f n ≤ _
    rw [e]
    omega
theorem sumF_mul (c : Int) (f : Nat → Int) (n : Nat) : sumF (fun i => c * f i) n = c * sumF f n := by
  induction n with
  | zero => show (0 : Int) = c * 0; simp
  | succ n ih =>
    show sumF (fun i => c * f i) n + c * f n = c * (sumF f n + f n)
    rw [ih, Int.mul_add]
theorem sumF_pos {f : Nat → Int} {n : Nat} (hn : 0 < n) (h : ∀ i, i < n → 1 ≤ f i) : 1 ≤ sumF f n := by
  cases n with
  | zero => omega
  | succ n =>
    have h1 : 0 ≤ sumF f n := by
      clear hn
      induction n with
      | zero => exact Int.le_refl _
      | succ n ih =>
        have := ih fun i hi => h i (by omega)
        have := h n (by omega)
        show 0 ≤ sumF f n + f n
        omega
    have := h n (by omega)
    show 1 ≤ sumF f n + f n
    omega
def rlo (parts r f : Int) : Int := if r * f / 1000 < parts then r * f / 1000 else parts
def rhi (parts r f : Int) : Int := if (r * f + 999) / 1000 < parts then (r * f + 999) / 1000 else parts
theorem mulN {r f a b : Int} (hr : 0 ≤ r ∧ r ≤ a) (hf : 0 ≤ f ∧ f ≤ b) : 0 ≤ r * f ∧ r * f ≤ a * b := by
  refine ⟨Int.mul_nonneg hr.1 hf.1, ?_⟩
  have h1 := Int.mul_le_mul_of_nonneg_right hr.2 hf.1
  have h2 := Int.mul_le_mul_of_nonneg_left hf.2 (show 0 ≤ a by omega)
  omega
theorem s97_eq (g : ground) {r f : Int} (hr : 0 ≤ r ∧ r ≤ 1000000) (hf : 0 ≤ f ∧ f ≤ 201000) : s97 g r f = rlo g.Sky.Parts r f := by
  have h := mulN hr hf
  unfold s97 rlo
  rw [w64_id (x := r * f) (by omega) (by omega), Int.tdiv_eq_ediv_of_nonneg h.1]
  generalize r * f = m at h
  rw [w64_id (by omega) (by omega)]
theorem s98_eq (g : ground) {r f : Int} (hr : 0 ≤ r ∧ r ≤ 1000000) (hf : 0 ≤ f ∧ f ≤ 201000) : s98 g r f = rhi g.Sky.Parts r f := by
  have h := mulN hr hf
  unfold s98 rhi
  generalize r * f = m at h
  rw [w64_id (x := m) (by omega) (by omega), w64_id (x := m + 999) (by omega) (by omega), Int.tdiv_eq_ediv_of_nonneg (by omega), w64_id (by omega) (by omega)]
def slF (l : Sl Spell) (i : Nat) : Int := (l.get i).Slots
def loF (s : Sky) (x : Span) (l : Sl Spell) (i : Nat) : Int := (l.get i).Slots * rlo s.Parts x.Low (fcL s (l.get i).Weather)
def hiF (s : Sky) (x : Span) (l : Sl Spell) (i : Nat) : Int := (l.get i).Slots * rhi s.Parts x.High (fcH s (l.get i).Weather)
def meanV (s : Sky) (x : Span) (l : Sl Spell) : Span := ⟨sumF (loF s x l) l.len / sumF (slF l) l.len, (sumF (hiF s x l) l.len + sumF (slF l) l.len - 1) / sumF (slF l) l.len⟩
def XOk (s : Sky) (x : Span) : Prop := 0 ≤ x.Low ∧ x.Low ≤ x.High ∧ x.High ≤ s.Parts
theorem lo_b {s : Sky} {x : Span} {l : Sl Spell} (hs : SOk s) (hx : XOk s x) (hl : LOk l) : ∀ i, i < l.len → (0 ≤ rlo s.Parts x.Low (fcL s (l.get i).Weather) ∧ rlo s.Parts x.Low (fcL s (l.get i).Weather) ≤ 1000000) ∧ (0 ≤ rhi s.Parts x.High (fcH s (l.get i).Weather) ∧ rhi s.Parts x.High (fcH s (l.get i).Weather) ≤ 1000000) ∧ (0 ≤ loF s x l i ∧ loF s x l i ≤ 1000000000000) ∧ (0 ≤ hiF s x l i ∧ hiF s x l i ≤ 1000000000000) := by
  intro i hi
  obtain ⟨h1, h2⟩ := hl.2 i hi
  have hp := hs.1.1
  obtain ⟨f0, f1, f2⟩ := fc_b hs.sb h2
  obtain ⟨x0, x1, x2⟩ := hx
  have m1 := mulN (r := x.Low) (f := fcL s (l.get i).Weather) (a := 1000000) (b := 201000) (by omega) (by omega)
  have m2 := mulN (r := x.High) (f := fcH s (l.get i).Weather) (a := 1000000) (b := 201000) (by omega) (by omega)
  have r1 : 0 ≤ rlo s.Parts x.Low (fcL s (l.get i).Weather) ∧ rlo s.Parts x.Low (fcL s (l.get i).Weather) ≤ 1000000 := by
    unfold rlo
    generalize x.Low * fcL s (l.get i).Weather = m at m1
    split <;> omega
  have r2 : 0 ≤ rhi s.Parts x.High (fcH s (l.get i).Weather) ∧ rhi s.Parts x.High (fcH s (l.get i).Weather) ≤ 1000000 := by
    unfold rhi
    generalize x.High * fcH s (l.get i).Weather = m at m2
    split <;> omega
  have q1 := mulN (r := (l.get i).Slots) (a := 1000000) (by omega) r1
  have q2 := mulN (r := (l.get i).Slots) (a := 1000000) (by omega) r2
  exact ⟨r1, r2, by unfold loF; omega, by unfold hiF; omega⟩
theorem sums_b {s : Sky} {x : Span} {l : Sl Spell} (hs : SOk s) (hx : XOk s x) (hl : LOk l) : ∀ i, i ≤ l.len → (0 ≤ sumF (slF l) i ∧ sumF (slF l) i ≤ 50000000) ∧ (0 ≤ sumF (loF s x l) i ∧ sumF (loF s x l) i ≤ 50000000000000) ∧ (0 ≤ sumF (hiF s x l) i ∧ sumF (hiF s x l) i ≤ 50000000000000) := by
  intro i hi
  have hlen := hl.1
  have a := sumF_b (f := slF l) (n := i) (b := 1000000) (fun j hj => by have := (hl.2 j (by omega)).1; unfold slF; omega)
  have b := sumF_b (f := loF s x l) (n := i) (b := 1000000000000) (fun j hj => (lo_b hs hx hl j (by omega)).2.2.1)
  have c := sumF_b (f := hiF s x l) (n := i) (b := 1000000000000) (fun j hj => (lo_b hs hx hl j (by omega)).2.2.2)
  omega
theorem s68_eq {g : ground} {x : Span} {l : Sl Spell} (hs : SOk g.Sky) (hx : XOk g.Sky x) (hl : LOk l) : p68 g x l = true ∧ s68 g x l = meanV g.Sky x l := by
  have hlen := hl.1
  have hp := hs.1.1
  have key : ∀ m k i : Nat, i + m = l.len → m < k → p68_lp0 g x l k (sumF (slF l) i) i (sumF (loF g.Sky x l) i) (sumF (hiF g.Sky x l) i) = true ∧ s68_lp0 g x l k (sumF (slF l) i) i (sumF (loF g.Sky x l) i) (sumF (hiF g.Sky x l) i) = meanV g.Sky x l := by
    intro m
    induction m with
    | zero =>
      intro k i hi hm
      obtain ⟨k, rfl⟩ : ∃ k', k = k' + 1 := ⟨k - 1, by omega⟩
      show p68_st0 g x l (p68_lp0 g x l k) _ _ _ _ = true ∧ s68_st0 g x l (s68_lp0 g x l k) _ _ _ _ = _
      unfold p68_st0 s68_st0
      rw [decide_eq_false (by omega)]
      have e : i = l.len := by omega
      subst e
      obtain ⟨c1, c2, c3⟩ := sums_b hs hx hl l.len (Nat.le_refl _)
      have c0 := sumF_pos (f := slF l) (n := l.len) (by omega) (fun i hi => (hl.2 i hi).1.1)
      unfold p68_at1 s68_at1 meanV
      rw [cond_false, cond_false, decide_eq_true (show sumF (slF l) l.len ≠ 0 by omega)]
      refine ⟨rfl, ?_⟩
      generalize sumF (slF l) l.len = S at *
      generalize sumF (loF g.Sky x l) l.len = A at *
      generalize sumF (hiF g.Sky x l) l.len = B at *
      rw [w64_id (x := B + S) (by omega) (by omega), w64_id (x := B + S - 1) (by omega) (by omega), Int.tdiv_eq_ediv_of_nonneg (by omega), Int.tdiv_eq_ediv_of_nonneg (by omega)]
      have d1 : 0 ≤ A / S := Int.ediv_nonneg (by omega) (by omega)
      have d2 : A / S ≤ A := Int.ediv_le_self _ (by omega)
      have d3 : 0 ≤ (B + S - 1) / S := Int.ediv_nonneg (by omega) (by omega)
      have d4 : (B + S - 1) / S ≤ B + S - 1 := Int.ediv_le_self _ (by omega)
      rw [w64_id (x := A / S) (by omega) (by omega), w64_id (x := (B + S - 1) / S) (by omega) (by omega)]
    | succ m ih =>
      intro k i hi hm
      obtain ⟨k, rfl⟩ : ∃ k', k = k' + 1 := ⟨k - 1, by omega⟩
      show p68_st0 g x l (p68_lp0 g x l k) _ _ _ _ = true ∧ s68_st0 g x l (s68_lp0 g x l k) _ _ _ _ = _
      have hil : i < l.len := by omega
      obtain ⟨hw1, hw2⟩ := hl.2 i hil
      obtain ⟨f0, f1, f2⟩ := fc_b hs.sb hw2
      obtain ⟨x0, x1, x2⟩ := hx
      obtain ⟨q1, q2, q3, q4⟩ := lo_b hs ⟨x0, x1, x2⟩ hl i hil
      obtain ⟨c1, c2, c3⟩ := sums_b hs ⟨x0, x1, x2⟩ hl i (by omega)
      unfold p68_st0 s68_st0
      have e3 : w64 ((i : Int) + 1) = ((i + 1 : Nat) : Int) := by rw [w64_id (by omega) (by omega)]; omega
      rw [decide_eq_true (show (i : Int) < (l.len : Int) by omega), decide_eq_true (show 0 ≤ (i : Int) ∧ (i : Int) < (l.len : Int) by omega), Int.toNat_natCast, (s77_eq hs.sb hw2).1, (s77_eq hs.sb hw2).2, e3]
      rw [s97_eq g (r := x.Low) (f := fcL g.Sky (l.get i).Weather) (by omega) (by omega), s98_eq g (r := x.High) (f := fcH g.Sky (l.get i).Weather) (by omega) (by omega)]
      have u1 : p97 g x.Low (fcL g.Sky (l.get i).Weather) = true := rfl
      have u2 : p98 g x.High (fcH g.Sky (l.get i).Weather) = true := rfl
      rw [u1, u2]
      have v1 : w64 ((l.get i).Slots * rlo g.Sky.Parts x.Low (fcL g.Sky (l.get i).Weather)) = loF g.Sky x l i := by
        show w64 (loF g.Sky x l i) = _
        exact w64_id (by omega) (by omega)
      have v2 : w64 ((l.get i).Slots * rhi g.Sky.Parts x.High (fcH g.Sky (l.get i).Weather)) = hiF g.Sky x l i := by
        show w64 (hiF g.Sky x l i) = _
        exact w64_id (by omega) (by omega)
      rw [v1, v2, w64_id (x := sumF (slF l) i + (l.get i).Slots) (by omega) (by omega), w64_id (x := sumF (loF g.Sky x l) i + loF g.Sky x l i) (by omega) (by omega), w64_id (x := sumF (hiF g.Sky x l) i + hiF g.Sky x l i) (by omega) (by omega)]
      have := ih k (i + 1) (by omega) (by omega)
      simpa [sumF, slF] using this
  exact key l.len Fuel 0 (by omega) (by simp only [Fuel]; omega)
theorem abv_ok {parts : Int} {l : Sl FluxRow} {y : Span} (hb : BOk parts l) (hp : 0 ≤ parts) (hy : 1 ≤ y.Low) (hyy : y.High = -1 ∨ y.Low ≤ y.High) : 0 ≤ (abv l y).Low ∧ (abv l y).Low ≤ (abv l y).High ∧ (abv l y).High ≤ parts := by
  have hlen := hb.1
  have hr : ∀ i, i < l.len → 0 ≤ (l.get i).Rate.Low ∧ (l.get i).Rate.Low ≤ (l.get i).Rate.High ∧ (l.get i).Rate.High ≤ parts := fun i hi => (hb.2.2 i hi).2.1
  have b1 : jL l y.Low ≤ l.len := fst_le _ _
  have hj : 0 < jL l y.Low := by
    rcases Nat.eq_zero_or_pos (jL l y.Low) with h | h
    · have := of_decide_eq_true (fst_hi (c := fun i => decide ((l.get i).Energy > y.Low)) (n := l.len) (show jL l y.Low < l.len by omega))
      have h2 : fst (fun i => decide ((l.get i).Energy > y.Low)) l.len = 0 := h
      rw [h2, hb.2.1] at this
      omega
    · exact h
  have eH : (abv l y).High = (l.get (jL l y.Low - 1)).Rate.High := by
    show abvH l y.Low = _
    unfold abvH
    rw [if_pos hj]
  have h1 := hr (jL l y.Low - 1) (by omega)
  rw [eH]
  show 0 ≤ abvL l y.High ∧ abvL l y.High ≤ _ ∧ _
  unfold abvL
  by_cases hn : y.High = -1
  · rw [if_pos hn]; omega
  rw [if_neg hn]
  by_cases hl : jH l y.High < l.len
  · rw [if_pos hl]
    have h2 := hr _ hl
    have h3 : jL l y.Low - 1 ≤ jH l y.High := by
      rcases Nat.lt_or_ge (jH l y.High) (jL l y.Low - 1) with h | h
      · have h4 : (l.get (jH l y.High)).Energy ≥ y.High := of_decide_eq_true (fst_hi (c := fun i => decide ((l.get i).Energy ≥ y.High)) hl)
        have h5 := of_decide_eq_false (fst_lo (c := fun i => decide ((l.get i).Energy > y.Low)) (n := l.len) (j := jL l y.Low - 1) (by show _ < jL l y.Low; omega))
        have := b_e hb h (by omega)
        rcases hyy with e | e <;> omega
      · exact h
    have := b_low hb h3 hl
    omega
  · rw [if_neg hl]; omega
theorem thr_ok {t : Sl RangeRow} {x : Int} (hk : TOk t) (hx : 0 ≤ x) : 1 ≤ (thr t x).Low ∧ ((thr t x).High = -1 ∨ (thr t x).Low ≤ (thr t x).High) := by
  have hE : ∀ i, i < t.len → 1 ≤ (t.get i).Energy ∧ (t.get i).Energy ≤ 1000000 := fun i hi => (hk.2 i hi).1
  have b1 : kH t x ≤ t.len := fst_le _ _
  unfold thr
  by_cases h0 : x = 0
  · rw [if_pos h0]; exact ⟨Int.le_refl _, Or.inr (Int.le_refl _)⟩
  rw [if_neg h0]
  show 1 ≤ thrL t x ∧ (thrH t x = -1 ∨ thrL t x ≤ thrH t x)
  have h1 : 1 ≤ thrL t x := by
    unfold thrL
    by_cases h : 0 < kH t x
    · rw [if_pos h]; have := hE (kH t x - 1) (by omega); omega
    · rw [if_neg h]; exact Int.le_refl _
  refine ⟨h1, ?_⟩
  unfold thrH
  by_cases hl : kL t x < t.len
  · rw [if_pos hl]
    refine Or.inr ?_
    unfold thrL
    by_cases h : 0 < kH t x
    · rw [if_pos h]
      have h2 : kH t x ≤ kL t x := fst_mono' fun i hi hd => by
        have := of_decide_eq_true hd
        have := (hk.2 i hi).2.1
        exact decide_eq_true (by omega)
      have := t_e hk (show kH t x - 1 < kL t x by omega) hl
      omega
    · rw [if_neg h]; exact (hE _ hl).1
  · rw [if_neg hl]; exact Or.inl rfl
where
  fst_mono' {c d : Nat → Bool} {n : Nat} (h : ∀ i, i < n → d i = true → c i = true) : fst c n ≤ fst d n := by
    rcases Nat.lt_or_ge (fst d n) (fst c n) with h1 | h1
    · have h2 := fst_lo h1
      have := fst_le c n
      rw [h _ (by omega) (fst_hi (by omega))] at h2
      cases h2
    · exact h1
theorem expd_ok {s : Sky} {t : Sl RangeRow} {bin x : Int} (h : Fine s t bin x) : XOk s (expd s t bin x) := by
  obtain ⟨h1, h2⟩ := thr_ok h.2.1 h.2.2.2.1
  exact abv_ok h.b (by have := h.1.1.1; omega) h1 h2
theorem s23_ok (s : Sky) (t : Sl RangeRow) (bin x : Int) (l : Sl Spell) (hs : SL s) (ht : t.len ≤ 9223372036854775807) (hl : l.len ≤ 9223372036854775807) : p23 s t bin x l = true ∧ (Fine s t bin x ∧ LOk l → s23 s t bin x l = (meanV s (expd s t bin x) l, 0)) ∧ (¬ (Fine s t bin x ∧ LOk l) → s23 s t bin x l = (⟨0, 0⟩, 2)) := by
  obtain ⟨h1, h2⟩ := s65_ok s t bin x hs ht
  obtain ⟨e1, e2⟩ := s65_g s t bin x
  obtain ⟨l1, l2⟩ := s67_ok l hl
  unfold p23 s23
  rw [h1, e1, e2, l1]
  by_cases h : Fine s t bin x
  · rw [h2.2 h, (s66_eq h).1, (s66_eq h).2]
    by_cases hk : LOk l
    · have hg : SOk (s65 s t bin x).1.Sky := by rw [e1]; exact h.1
      have hx : XOk (s65 s t bin x).1.Sky (expd s t bin x) := by rw [e1]; exact expd_ok h
      have h8 := s68_eq hg hx hk
      rw [h8.1, h8.2, l2.2 hk, e1]
      exact ⟨rfl, fun _ => rfl, fun h3 => absurd ⟨h, hk⟩ h3⟩
    · have h3 : s67 l = false := by
        cases e : s67 l
        · rfl
        · exact absurd (l2.1 e) hk
      rw [h3]
      exact ⟨rfl, fun h3 => absurd h3.2 hk, fun _ => rfl⟩
  · have h3 : (s65 s t bin x).2 = false := by
      cases e : (s65 s t bin x).2
      · rfl
      · exact absurd (h2.1 e) h
    rw [h3]
    exact ⟨rfl, fun h3 => absurd h3.1 h, fun _ => rfl⟩
end Go.Proofs
namespace Go.Proofs
open Go Go.Pm
set_option linter.unusedVariables false
theorem s78_eq (a b : Span) (hLL : w64 (a.Low * b.Low) = a.Low * b.Low) (hLH : w64 (a.Low * b.High) = a.Low * b.High) (hHL : w64 (a.High * b.Low) = a.High * b.Low) (hHH : w64 (a.High * b.High) = a.High * b.High) :
    p78 a b = true ∧ s78 a b = (mn4 (a.Low * b.Low) (a.Low * b.High) (a.High * b.Low) (a.High * b.High), mx4 (a.Low * b.Low) (a.Low * b.High) (a.High * b.Low) (a.High * b.High)) := by
  obtain ⟨k, hk⟩ : ∃ k, Fuel = k + 4 := ⟨Fuel - 4, by simp only [Fuel]⟩
  unfold p78 s78 p78_at0 s78_at0
  rw [hk, hLL, hLH, hHL, hHH]
  generalize a.Low * b.Low = A
  generalize a.Low * b.High = B
  generalize a.High * b.Low = C
  generalize a.High * b.High = D
  have st : ∀ k l h i v, s78_lp0 (k + 1) l h i v = s78_st0 (s78_lp0 k) l h i v := fun _ _ _ _ _ => rfl
  have pt : ∀ k l h i v, p78_lp0 (k + 1) l h i v = p78_st0 (p78_lp0 k) l h i v := fun _ _ _ _ _ => rfl
  have g1 : (getT A [A, B, C, D]) (1 : Int).toNat = B := rfl
  have g2 : (getT A [A, B, C, D]) (2 : Int).toNat = C := rfl
  have g3 : (getT A [A, B, C, D]) (3 : Int).toNat = D := rfl
  have w1 : w64 (1 + 1) = 2 := rfl
  have w2 : w64 (2 + 1) = 3 := rfl
  have w3 : w64 (3 + 1) = 4 := rfl
  have d1 : decide ((1 : Int) < 4) = true := rfl
  have d2 : decide ((2 : Int) < 4) = true := rfl
  have d3 : decide ((3 : Int) < 4) = true := rfl
  have d4 : decide ((4 : Int) < 4) = false := rfl
  have s1 : ∀ l h, s78_lp0 (k + 4) l h 1 ⟨4, getT A [A, B, C, D]⟩ = (mn2 (mn2 (mn2 l B) C) D, mx2 (mx2 (mx2 h B) C) D) := by
    intro l h
    rw [st]; unfold s78_st0; rw [d1, cond_true]
    show s78_lp0 (k + 3) (if (getT A [A, B, C, D]) (1 : Int).toNat < l then (getT A [A, B, C, D]) (1 : Int).toNat else l) (if (getT A [A, B, C, D]) (1 : Int).toNat > h then (getT A [A, B, C, D]) (1 : Int).toNat else h) (w64 (1 + 1)) _ = _
    rw [g1, w1, st]; unfold s78_st0; rw [d2, cond_true]
    show s78_lp0 (k + 2) (if (getT A [A, B, C, D]) (2 : Int).toNat < _ then (getT A [A, B, C, D]) (2 : Int).toNat else _) (if (getT A [A, B, C, D]) (2 : Int).toNat > _ then (getT A [A, B, C, D]) (2 : Int).toNat else _) (w64 (2 + 1)) _ = _
    rw [g2, w2, st]; unfold s78_st0; rw [d3, cond_true]
    show s78_lp0 (k + 1) (if (getT A [A, B, C, D]) (3 : Int).toNat < _ then (getT A [A, B, C, D]) (3 : Int).toNat else _) (if (getT A [A, B, C, D]) (3 : Int).toNat > _ then (getT A [A, B, C, D]) (3 : Int).toNat else _) (w64 (3 + 1)) _ = _
    rw [g3, w3, st]; unfold s78_st0; rw [d4, cond_false]
    rfl
  have p1 : ∀ l h, p78_lp0 (k + 4) l h 1 ⟨4, getT A [A, B, C, D]⟩ = true := by
    intro l h
    have c1 : (decide ((0 : Int) ≤ 1 ∧ (1 : Int) < ((4 : Nat) : Int))) = true := rfl
    have c2 : (decide ((0 : Int) ≤ 2 ∧ (2 : Int) < ((4 : Nat) : Int))) = true := rfl
    have c3 : (decide ((0 : Int) ≤ 3 ∧ (3 : Int) < ((4 : Nat) : Int))) = true := rfl
    have q1 : (decide ((1 : Int).toNat < 4)) = true := rfl
    have q2 : (decide ((2 : Int).toNat < 4)) = true := rfl
    have q3 : (decide ((3 : Int).toNat < 4)) = true := rfl
    rw [pt]; unfold p78_st0
    rw [d1, c1, q1, w1]
    simp only [cond_true, Bool.true_and]
    rw [pt]; unfold p78_st0
    rw [d2, c2, q2, w2]
    simp only [cond_true, Bool.true_and]
    rw [pt]; unfold p78_st0
    rw [d3, c3, q3, w3]
    simp only [cond_true, Bool.true_and]
    rw [pt]; unfold p78_st0
    rw [d4, cond_false]
  rw [s1, p1]
  exact ⟨rfl, rfl⟩
theorem s37_eq {s : Sky} {w : Weather} (hs : SB s) (hw : WOk w) : p37 s w = true ∧ s37 s w = ⟨fcL s w, fcH s w⟩ := by
  obtain ⟨⟨b1, b2, b3⟩, a1, a2, a3⟩ := hs
  obtain ⟨⟨p1, p2, p3⟩, x1, x2, x3⟩ := hw
  have c1 := mul_b (p := 100) (q := 1000) (x := s.Beta.Low) (y := w.Pressure.Low) (by omega) (by omega) (by omega) (by omega)
  have c2 := mul_b (p := 100) (q := 1000) (x := s.Beta.Low) (y := w.Pressure.High) (by omega) (by omega) (by omega) (by omega)
  have c3 := mul_b (p := 100) (q := 1000) (x := s.Beta.High) (y := w.Pressure.Low) (by omega) (by omega) (by omega) (by omega)
  have c4 := mul_b (p := 100) (q := 1000) (x := s.Beta.High) (y := w.Pressure.High) (by omega) (by omega) (by omega) (by omega)
  have d1 := mul_b (p := 100) (q := 1000) (x := s.Alpha.Low) (y := w.Warm.Low) (by omega) (by omega) (by omega) (by omega)
  have d2 := mul_b (p := 100) (q := 1000) (x := s.Alpha.Low) (y := w.Warm.High) (by omega) (by omega) (by omega) (by omega)
  have d3 := mul_b (p := 100) (q := 1000) (x := s.Alpha.High) (y := w.Warm.Low) (by omega) (by omega) (by omega) (by omega)
  have d4 := mul_b (p := 100) (q := 1000) (x := s.Alpha.High) (y := w.Warm.High) (by omega) (by omega) (by omega) (by omega)
  obtain ⟨e1, e2⟩ := s78_eq s.Beta w.Pressure (w64_id (by omega) (by omega)) (w64_id (by omega) (by omega)) (w64_id (by omega) (by omega)) (w64_id (by omega) (by omega))
  obtain ⟨f1, f2⟩ := s78_eq s.Alpha w.Warm (w64_id (by omega) (by omega)) (w64_id (by omega) (by omega)) (w64_id (by omega) (by omega)) (w64_id (by omega) (by omega))
  unfold p37 s37
  rw [e1, f1, e2, f2]
  refine ⟨rfl, ?_⟩
  have m := (mn4_spec (s.Beta.Low * w.Pressure.Low) (s.Beta.Low * w.Pressure.High) (s.Beta.High * w.Pressure.Low) (s.Beta.High * w.Pressure.High)).2
  have n := (mx4_spec (s.Alpha.Low * w.Warm.Low) (s.Alpha.Low * w.Warm.High) (s.Alpha.High * w.Warm.Low) (s.Alpha.High * w.Warm.High)).2
  have m' := (mx4_spec (s.Beta.Low * w.Pressure.Low) (s.Beta.Low * w.Pressure.High) (s.Beta.High * w.Pressure.Low) (s.Beta.High * w.Pressure.High)).2
  have n' := (mn4_spec (s.Alpha.Low * w.Warm.Low) (s.Alpha.Low * w.Warm.High) (s.Alpha.High * w.Warm.Low) (s.Alpha.High * w.Warm.High)).2
  unfold fcL fcH mz
  generalize mn4 (s.Beta.Low * w.Pressure.Low) (s.Beta.Low * w.Pressure.High) (s.Beta.High * w.Pressure.Low) (s.Beta.High * w.Pressure.High) = M at m ⊢
  generalize mx4 (s.Alpha.Low * w.Warm.Low) (s.Alpha.Low * w.Warm.High) (s.Alpha.High * w.Warm.Low) (s.Alpha.High * w.Warm.High) = N at n ⊢
  generalize mx4 (s.Beta.Low * w.Pressure.Low) (s.Beta.Low * w.Pressure.High) (s.Beta.High * w.Pressure.Low) (s.Beta.High * w.Pressure.High) = M' at m' ⊢
  generalize mn4 (s.Alpha.Low * w.Warm.Low) (s.Alpha.Low * w.Warm.High) (s.Alpha.High * w.Warm.Low) (s.Alpha.High * w.Warm.High) = N' at n' ⊢
  show (⟨(if w64 (w64 (1000 - M') + N') > 0 then w64 (w64 (1000 - M') + N') else 0), (if w64 (w64 (1000 - M) + N) > 0 then w64 (w64 (1000 - M) + N) else 0)⟩ : Span) = _
  rw [w64_id (x := 1000 - M) (by omega) (by omega), w64_id (x := 1000 - M') (by omega) (by omega), w64_id (x := 1000 - M + N) (by omega) (by omega), w64_id (x := 1000 - M' + N') (by omega) (by omega)]
theorem s79_eq {s : Sky} {x : Span} {w : Weather} (hs : SOk s) (hx : XOk s x) (hw : WOk w) : p79 s x w = true ∧ s79 s x w = ⟨rlo s.Parts x.Low (fcL s w), rhi s.Parts x.High (fcH s w)⟩ := by
  obtain ⟨f0, f1, f2⟩ := fc_b hs.sb hw
  obtain ⟨x0, x1, x2⟩ := hx
  have hp := hs.1.1
  have m1 := mulN (r := x.Low) (f := fcL s w) (a := 1000000) (b := 201000) (by omega) (by omega)
  have m2 := mulN (r := x.High) (f := fcH s w) (a := 1000000) (b := 201000) (by omega) (by omega)
  unfold p79 s79 rlo rhi
  rw [(s37_eq hs.sb hw).1, (s37_eq hs.sb hw).2]
  refine ⟨rfl, ?_⟩
  show (⟨(if w64 ((w64 (x.Low * fcL s w)).tdiv 1000) < s.Parts then w64 ((w64 (x.Low * fcL s w)).tdiv 1000) else s.Parts), (if w64 ((w64 (w64 (x.High * fcH s w) + 999)).tdiv 1000) < s.Parts then w64 ((w64 (w64 (x.High * fcH s w) + 999)).tdiv 1000) else s.Parts)⟩ : Span) = _
  generalize x.Low * fcL s w = m at m1 ⊢
  generalize x.High * fcH s w = n at m2 ⊢
  rw [w64_id (x := m) (by omega) (by omega), Int.tdiv_eq_ediv_of_nonneg m1.1, w64_id (x := m / 1000) (by omega) (by omega), w64_id (x := n) (by omega) (by omega), w64_id (x := n + 999) (by omega) (by omega), Int.tdiv_eq_ediv_of_nonneg (by omega), w64_id (x := (n + 999) / 1000) (by omega) (by omega)]
theorem s38_eq {s : Sky} {t : Sl RangeRow} {bin y : Int} {l : Sl Spell} (hf : Fine s t bin y) (hl : LOk l) : p38 s t bin y l = true ∧ s38 s t bin y l = meanV s (expd s t bin y) l := by
  have hx := expd_ok hf
  have hs := hf.1
  have hlen := hl.1
  have hp := hs.1.1
  obtain ⟨g1, g2⟩ := s47_eq hf
  unfold p38 s38 p38_at0 s38_at0
  rw [g1, g2]
  generalize expd s t bin y = x at hx
  have key : ∀ m k i : Nat, i + m = l.len → m < k → p38_lp1 s l x.Low x.High k (sumF (loF s x l) i) (sumF (hiF s x l) i) (sumF (slF l) i) i s.Bins = true ∧ s38_lp1 s l x.Low x.High k (sumF (loF s x l) i) (sumF (hiF s x l) i) (sumF (slF l) i) i s.Bins = meanV s x l := by
    intro m
    induction m with
    | zero =>
      intro k i hi hm
      obtain ⟨k, rfl⟩ : ∃ k', k = k' + 1 := ⟨k - 1, by omega⟩
      show p38_st1 s l x.Low x.High (p38_lp1 s l x.Low x.High k) _ _ _ _ _ = true ∧ s38_st1 s l x.Low x.High (s38_lp1 s l x.Low x.High k) _ _ _ _ _ = _
      unfold p38_st1 s38_st1
      rw [decide_eq_false (by omega)]
      have e : i = l.len := by omega
      subst e
      obtain ⟨c1, c2, c3⟩ := sums_b hs hx hl l.len (Nat.le_refl _)
      have c0 := sumF_pos (f := slF l) (n := l.len) (by omega) (fun i hi => (hl.2 i hi).1.1)
      unfold meanV
      rw [cond_false, cond_false, decide_eq_true (show sumF (slF l) l.len ≠ 0 by omega)]
      refine ⟨rfl, ?_⟩
      generalize sumF (slF l) l.len = S at *
      generalize sumF (loF s x l) l.len = A at *
      generalize sumF (hiF s x l) l.len = B at *
      rw [w64_id (x := B + S) (by omega) (by omega), w64_id (x := B + S - 1) (by omega) (by omega), Int.tdiv_eq_ediv_of_nonneg (by omega), Int.tdiv_eq_ediv_of_nonneg (by omega)]
      have d1 : 0 ≤ A / S := Int.ediv_nonneg (by omega) (by omega)
      have d2 : A / S ≤ A := Int.ediv_le_self _ (by omega)
      have d3 : 0 ≤ (B + S - 1) / S := Int.ediv_nonneg (by omega) (by omega)
      have d4 : (B + S - 1) / S ≤ B + S - 1 := Int.ediv_le_self _ (by omega)
      rw [w64_id (x := A / S) (by omega) (by omega), w64_id (x := (B + S - 1) / S) (by omega) (by omega)]
    | succ m ih =>
      intro k i hi hm
      obtain ⟨k, rfl⟩ : ∃ k', k = k' + 1 := ⟨k - 1, by omega⟩
      show p38_st1 s l x.Low x.High (p38_lp1 s l x.Low x.High k) _ _ _ _ _ = true ∧ s38_st1 s l x.Low x.High (s38_lp1 s l x.Low x.High k) _ _ _ _ _ = _
      have hil : i < l.len := by omega
      obtain ⟨hw1, hw2⟩ := hl.2 i hil
      obtain ⟨q1, q2, q3, q4⟩ := lo_b hs hx hl i hil
      obtain ⟨c1, c2, c3⟩ := sums_b hs hx hl i (by omega)
      unfold p38_st1 s38_st1 p38_at2 s38_at2
      have e3 : w64 ((i : Int) + 1) = ((i + 1 : Nat) : Int) := by rw [w64_id (by omega) (by omega)]; omega
      rw [show (⟨s.Parts, s.Bins, s.Beta, s.Alpha⟩ : Sky) = s from rfl, show (⟨x.Low, x.High⟩ : Span) = x from rfl, decide_eq_true (show (i : Int) < (l.len : Int) by omega), decide_eq_true (show 0 ≤ (i : Int) ∧ (i : Int) < (l.len : Int) by omega), Int.toNat_natCast, (s79_eq hs hx hw2).1, (s79_eq hs hx hw2).2, e3]
      have v1 : w64 ((l.get i).Slots * rlo s.Parts x.Low (fcL s (l.get i).Weather)) = loF s x l i := by
        show w64 (loF s x l i) = _
        exact w64_id (by omega) (by omega)
      have v2 : w64 ((l.get i).Slots * rhi s.Parts x.High (fcH s (l.get i).Weather)) = hiF s x l i := by
        show w64 (hiF s x l i) = _
        exact w64_id (by omega) (by omega)
      rw [v1, v2, w64_id (x := sumF (slF l) i + (l.get i).Slots) (by omega) (by omega), w64_id (x := sumF (loF s x l) i + loF s x l i) (by omega) (by omega), w64_id (x := sumF (hiF s x l) i + hiF s x l i) (by omega) (by omega)]
      have := ih k (i + 1) (by omega) (by omega)
      simpa [sumF, slF] using this
  have r := key l.len Fuel 0 (by omega) (by simp only [Fuel]; omega)
  exact ⟨r.1, r.2⟩
end Go.Proofs
namespace Go.Proofs
open Go Go.Pm
set_option linter.unusedVariables false
theorem usual_ok {n : Int} (h : 1 ≤ n ∧ n ≤ 1000000) : LOk ⟨1, fun _ => s34 n⟩ := by
  refine ⟨⟨by show (1 : Int) ≤ ((1 : Nat) : Int); omega, by show ((1 : Nat) : Int) ≤ 50; omega⟩, fun i hi => ⟨h, ?_⟩⟩
  show WOk ⟨⟨0, 0⟩, ⟨0, 0⟩⟩
  unfold WOk
  simp
theorem mean_usual {s : Sky} {x : Span} {n : Int} (h : 1 ≤ n ∧ n ≤ 1000000) (hx : XOk s x) : meanV s x ⟨1, fun _ => s34 n⟩ = x := by
  obtain ⟨x0, x1, x2⟩ := hx
  have f1 : fcL s ⟨⟨0, 0⟩, ⟨0, 0⟩⟩ = 1000 := by
    unfold fcL
    show mz (1000 - mx4 (s.Beta.Low * 0) (s.Beta.Low * 0) (s.Beta.High * 0) (s.Beta.High * 0) + mn4 (s.Alpha.Low * 0) (s.Alpha.Low * 0) (s.Alpha.High * 0) (s.Alpha.High * 0)) = 1000
    simp only [Int.mul_zero]
    rfl
  have f2 : fcH s ⟨⟨0, 0⟩, ⟨0, 0⟩⟩ = 1000 := by
    unfold fcH
    show mz (1000 - mn4 (s.Beta.Low * 0) (s.Beta.Low * 0) (s.Beta.High * 0) (s.Beta.High * 0) + mx4 (s.Alpha.Low * 0) (s.Alpha.Low * 0) (s.Alpha.High * 0) (s.Alpha.High * 0)) = 1000
    simp only [Int.mul_zero]
    rfl
  have r1 : rlo s.Parts x.Low 1000 = x.Low := by
    unfold rlo
    split <;> omega
  have r2 : rhi s.Parts x.High 1000 = x.High := by
    unfold rhi
    split <;> omega
  have e : meanV s x ⟨1, fun _ => s34 n⟩ = ⟨(0 + n * rlo s.Parts x.Low (fcL s ⟨⟨0, 0⟩, ⟨0, 0⟩⟩)) / (0 + n), ((0 + n * rhi s.Parts x.High (fcH s ⟨⟨0, 0⟩, ⟨0, 0⟩⟩)) + (0 + n) - 1) / (0 + n)⟩ := rfl
  rw [e, f1, f2, r1, r2, Int.zero_add, Int.zero_add, Int.zero_add, Int.mul_ediv_cancel_left _ (by omega)]
  have e2 : (n * x.High + n - 1) / n = x.High := by
    have h1 : n * x.High + n - 1 = (n - 1) + n * x.High := by omega
    rw [h1, Int.add_mul_ediv_left _ _ (by omega), Int.ediv_eq_zero_of_lt (by omega) (by omega)]
    omega
  rw [e2]
end Go.Proofs
namespace Go.Proofs
open Go Go.Pm
set_option linter.unusedVariables false
theorem s35_ok (s : Sky) (w : Weather) (hs : SL s) : p35 s w = true ∧ (SOk s ∧ WOk w → s35 s w = (⟨fcL s w, fcH s w⟩, 0)) ∧ (¬ (SOk s ∧ WOk w) → s35 s w = (⟨0, 0⟩, 2)) := by
  obtain ⟨h1, h2⟩ := s75_ok s hs
  have h3 := s76_eq w
  unfold p35 s35
  rw [h1]
  cases hk : s75 s
  · have hno : ¬ SOk s := fun h => absurd (h2.2 h) (by rw [hk]; exact Bool.false_ne_true)
    exact ⟨rfl, fun h => absurd h.1 hno, fun _ => rfl⟩
  have hok := h2.1 hk
  cases hw : s76 w
  · have hno : ¬ WOk w := fun h => absurd (h3.2 h) (by rw [hw]; exact Bool.false_ne_true)
    exact ⟨rfl, fun h => absurd h.2 hno, fun _ => rfl⟩
  have hwk := h3.1 hw
  rw [(s77_eq hok.sb hwk).1, (s77_eq hok.sb hwk).2]
  exact ⟨rfl, fun _ => rfl, fun h => absurd ⟨hok, hwk⟩ h⟩
theorem at4_9 (s : Sky) (t : Sl RangeRow) (bin x : Int) (l : Sl Spell) (hs : SL s) (ht : t.len ≤ 9223372036854775807) (hl : l.len ≤ 9223372036854775807) :
    p9_at4 s t bin x l s.Bins = true ∧ s9_at4 s t bin x l s.Bins = true := by
  obtain ⟨b1, b2, b3⟩ := s23_ok s t bin x l hs ht hl
  obtain ⟨c1, c2⟩ := s16_ok s hs
  obtain ⟨d1, d2⟩ := s17_ok t ht
  obtain ⟨f1, f2⟩ := s22_ok l hl
  obtain ⟨_, e1⟩ := s75_ok s hs
  obtain ⟨_, e2⟩ := s62_ok t ht
  obtain ⟨_, e3⟩ := s67_ok l hl
  have bad : ¬ (Fine s t bin x ∧ LOk l) → s9_at7 s t bin x l (s23 s t bin x l).2 (s23 s t bin x l).1.Low (s23 s t bin x l).1.High true s.Bins = true := by
    intro h
    rw [b3 h]
    rfl
  have badp : p9_at7 s t bin x l (s23 s t bin x l).2 (s23 s t bin x l).1.Low (s23 s t bin x l).1.High true s.Bins = true := rfl
  unfold p9_at4 s9_at4 p9_at6 s9_at6
  rw [show (⟨s.Parts, s.Bins, s.Beta, s.Alpha⟩ : Sky) = s from rfl, b1, c1, c2, d1, d2, f1, f2]
  cases h1 : s75 s
  · have hno : ¬ SOk s := fun h => absurd (e1.2 h) (by rw [h1]; exact Bool.false_ne_true)
    exact ⟨badp, bad fun h => hno h.1.1⟩
  cases h2 : s62 t
  · have hno : ¬ TOk t := fun h => absurd (e2.2 h) (by rw [h2]; exact Bool.false_ne_true)
    exact ⟨badp, bad fun h => hno h.1.2.1⟩
  by_cases h3 : bin < 0
  · rw [decide_eq_true h3]; exact ⟨badp, bad fun h => by have := h.1.2.2.1; omega⟩
  by_cases h4 : bin ≥ (s.Bins.len : Int)
  · rw [decide_eq_false h3, decide_eq_true h4]; exact ⟨badp, bad fun h => by have := h.1.2.2.1; omega⟩
  by_cases h5 : x < 0
  · rw [decide_eq_false h3, decide_eq_false h4, decide_eq_true h5]; exact ⟨badp, bad fun h => by have := h.1.2.2.2; omega⟩
  by_cases h6 : x > 1000000
  · rw [decide_eq_false h3, decide_eq_false h4, decide_eq_false h5, decide_eq_true h6]; exact ⟨badp, bad fun h => by have := h.1.2.2.2; omega⟩
  rw [decide_eq_false h3, decide_eq_false h4, decide_eq_false h5, decide_eq_false h6]
  cases h7 : s67 l
  · have hno : ¬ LOk l := fun h => absurd (e3.2 h) (by rw [h7]; exact Bool.false_ne_true)
    exact ⟨badp, bad fun h => hno h.2⟩
  have hf : Fine s t bin x := ⟨e1.1 h1, e2.1 h2, ⟨by omega, by omega⟩, ⟨by omega, by omega⟩⟩
  have hll := e3.1 h7
  have hlen := hll.1
  have h10 : p9_at10 s t bin x l s.Bins = true ∧ s9_at10 s t bin x l s.Bins = true := by
    have hu := usual_ok (hll.2 0 (by omega)).1
    obtain ⟨u1, u2, _⟩ := s23_ok s t bin x ⟨1, fun _ => s34 (l.get 0).Slots⟩ hs ht (by show (1 : Nat) ≤ _; omega)
    obtain ⟨v1, v2, _⟩ := s20_ok s t bin x hs ht
    unfold p9_at10 s9_at10 p9_at11 s9_at11 s9_at12
    rw [show (⟨s.Parts, s.Bins, s.Beta, s.Alpha⟩ : Sky) = s from rfl, u1, u2 ⟨hf, hu⟩, v1, v2 hf, mean_usual (hll.2 0 (by omega)).1 (expd_ok hf), decide_eq_true (show (0 : Int) ≤ 0 ∧ (0 : Int) < (l.len : Int) by omega)]
    simp
  unfold p9_at7 s9_at7 p9_at8 s9_at8 p9_at9 s9_at9
  rw [show (⟨s.Parts, s.Bins, s.Beta, s.Alpha⟩ : Sky) = s from rfl, b2 ⟨hf, hll⟩, (s38_eq hf hll).1, (s38_eq hf hll).2]
  simpa using h10
theorem law9 (s : Sky) (t : Sl RangeRow) (bin x : Int) (w : Weather) (l : Sl Spell) (hs : SL s) (ht : t.len ≤ 9223372036854775807) (hl : l.len ≤ 9223372036854775807) :
    p9 s t bin x w l = true ∧ s9 s t bin x w l = true := by
  unfold p9 s9 p9_at0 s9_at0
  rw [s15_p s t hs]
  cases s15 s t
  · exact ⟨rfl, rfl⟩
  by_cases g : (l.len : Int) > 60
  · rw [decide_eq_true g]; exact ⟨rfl, rfl⟩
  rw [decide_eq_false g]
  obtain ⟨a1, a2, a3⟩ := s35_ok s w hs
  obtain ⟨c1, c2⟩ := s16_ok s hs
  obtain ⟨_, e1⟩ := s75_ok s hs
  have e3 := s76_eq w
  have r := at4_9 s t bin x l hs ht hl
  unfold p9_at1 s9_at1 p9_at2 s9_at2 p9_at3 s9_at3 p9_at5 s9_at5
  rw [show (⟨s.Parts, s.Bins, s.Beta, s.Alpha⟩ : Sky) = s from rfl, a1, c1, c2, s36_eq]
  cases h1 : s75 s
  · rw [a3 fun h => absurd (e1.2 h.1) (by rw [h1]; exact Bool.false_ne_true)]
    exact ⟨r.1, r.2⟩
  cases h2 : s76 w
  · rw [a3 fun h => absurd (e3.2 h.2) (by rw [h2]; exact Bool.false_ne_true)]
    exact ⟨r.1, r.2⟩
  have hk := e1.1 h1
  have hw := e3.1 h2
  rw [a2 ⟨hk, hw⟩, (s37_eq hk.sb hw).1, (s37_eq hk.sb hw).2]
  simpa using r
end Go.Proofs
