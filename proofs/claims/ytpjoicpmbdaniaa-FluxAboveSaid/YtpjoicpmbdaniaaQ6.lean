/- Part 6 of what the proof rests on: a machine that runs functions of the program on pure values, proved sound; the functions that the law reaches, and what they compute. -/
import Derived.Test.YtpjoicpmbdaniaaQ5
set_option linter.all false
namespace Go.Proofs
open Go Go.Pm
set_option maxRecDepth 100000
set_option linter.unusedVariables false
attribute [local irreducible] Go.Pm.vcFun Go.Pm.vc Go.Pm.vcIter
-- 12 overburdenlaw05.FluxAbove
abbrev T12 : Tabs := ((((((((((Tabs.nil.addF 15 ctr15).addF 16 ctr16).addF 17 ctr17).addF 18 ctr18).addF 20 ctr20).addF 41 ctr41).addF 44 ctr44).addF 45 ctr45).addF 46 ctr46).addF 47 ctr47)
theorem okT12 : TabsOk Try.prog T12 := ((((((((((TabsOk.nil.addF ok15).addF ok16).addF ok17).addF ok18).addF ok20).addF ok41).addF ok44).addF ok45).addF ok46).addF ok47)
abbrev G12 : Ctrs := csm T12 (fun _ _ => []) (fun _ => false)
def ann12 : Ann := ⟨133, [(0, ⟨[1, 2, 4, 5, 8], [5, 8], [], [], []⟩), (1, ⟨[1, 2, 4, 5, 8, 21], [5, 8], [], [], []⟩), (2, ⟨[10], [], [], [], []⟩), (3, ⟨[1, 2, 4, 5, 8, 11, 12], [5, 8, 11], [], [], []⟩), (4, ⟨[1, 2, 4, 5, 8, 11, 12, 13, 14], [5, 8, 11, 13], [], [], []⟩), (5, ⟨[1, 2, 4, 5, 8, 11, 12, 13, 14, 15], [5, 8, 11, 13], [], [], []⟩), (6, ⟨[1, 2, 4, 5, 8, 11, 12, 13, 14, 15, 16], [5, 8, 11, 13], [], [], []⟩), (7, ⟨[1, 2, 4, 5, 8, 11, 12, 13, 14, 15, 54], [5, 8, 11, 13], [], [], []⟩), (8, ⟨[10], [], [], [], []⟩), (9, ⟨[1, 2, 4, 5, 8, 11, 12, 13, 14, 17], [5, 8, 11, 13], [], [], []⟩), (10, ⟨[1, 2, 4, 5, 8, 11, 12, 13, 14, 17, 73], [5, 8, 11, 13], [], [], []⟩), (11, ⟨[1, 2, 4, 5, 13, 14, 17, 80], [5, 13], [], [], []⟩), (12, ⟨[10], [], [], [], []⟩), (13, ⟨[1, 2, 4, 5, 13, 14, 17, 93], [5, 13], [], [], []⟩), (14, ⟨[10], [], [], [], []⟩), (15, ⟨[1, 2, 4, 5, 13, 14, 108], [5, 13], [], [], []⟩), (16, ⟨[10], [], [], [], []⟩), (17, ⟨[10], [], [], [], []⟩)],
  [],
  [(2, ⟨[1, 2, 4, 5, 8, 21], [5, 8], [], [], []⟩), (3, ⟨[1, 2, 4, 5, 8], [5, 8], [], [], []⟩), (4, ⟨[1, 2, 4, 5, 8, 11, 12], [5, 8, 11], [], [], []⟩), (5, ⟨[1, 2, 4, 5, 8, 11, 12, 13, 14], [5, 8, 11, 13], [], [], []⟩), (6, ⟨[1, 2, 4, 5, 8, 11, 12, 13, 14, 15], [5, 8, 11, 13], [], [], []⟩), (7, ⟨[1, 2, 4, 5, 8, 11, 12, 13, 14, 15, 16], [5, 8, 11, 13], [], [], []⟩), (9, ⟨[1, 2, 4, 5, 8, 11, 12, 13, 14, 15], [5, 8, 11, 13], [], [], []⟩), (11, ⟨[1, 2, 4, 5, 8, 11, 12, 13, 14, 17, 73], [5, 8, 11, 13], [], [], []⟩), (15, ⟨[1, 2, 4, 5, 13, 14, 17], [5, 13], [], [], []⟩), (14, ⟨[1, 2, 4, 5, 13, 14, 17, 93], [5, 13], [], [], []⟩), (16, ⟨[1, 2, 4, 5, 13, 14, 108], [5, 13], [], [], []⟩), (17, ⟨[1, 2, 4, 5, 13, 14], [5, 13], [], [], []⟩)],
  [], []⟩
def f12_g0 (s : Sky) (t : (Sl RangeRow)) (bin : Int) (thresholds : Span) (opacity : Int) (t21v0 : Bool) (s_1v0_n : Nat) (s_1v0_g : Nat → List PV) : St := ⟨[(1, .one (.c (.p (.sl t.len 3 (fun i => enc_42 (t.get i)))))), (2, .one (.c (.p (.int .i64 bin)))), (4, .one (.c (.p (.int .i64 opacity)))), (5, .one (.c (.ptr 5 0))), (8, .one (.c (.ptr 8 0))), (21, .one (.c (.p (.bool t21v0))))], [(5, .box 26 [.p (.int .i64 s.Parts), .p (.sl s_1v0_n 1 s_1v0_g), .p (.int .i64 s.Beta.Low), .p (.int .i64 s.Beta.High), .p (.int .i64 s.Alpha.Low), .p (.int .i64 s.Alpha.High)]), (8, .box 24 [.p (.int .i64 thresholds.Low), .p (.int .i64 thresholds.High)])], []⟩
def f12_at0 (K : List PA → Prop) (s : Sky) (t : (Sl RangeRow)) (bin : Int) (thresholds : Span) (opacity : Int) (t21v0 : Bool) (s_1v0_n : Nat) (s_1v0_g : Nat → List PV) : Prop := vc Try.prog G12 ann12 (cdF Try.f12 [1, 0, 1]) (sqK Try.prog G12 ann12 (cdF Try.f12 [1, 1]) (bodyK Try.prog Try.f12 K)) (f12_g0 s t bin thresholds opacity t21v0 s_1v0_n s_1v0_g)
def f12_g1 (s : Sky) (t : (Sl RangeRow)) (bin : Int) (thresholds : Span) (opacity : Int) (s_1v1_n : Nat) (s_1v1_g : Nat → List PV) : St := ⟨[(1, .one (.c (.p (.sl t.len 3 (fun i => enc_42 (t.get i)))))), (2, .one (.c (.p (.int .i64 bin)))), (4, .one (.c (.p (.int .i64 opacity)))), (5, .one (.c (.ptr 5 0))), (8, .one (.c (.ptr 8 0)))], [(5, .box 26 [.p (.int .i64 s.Parts), .p (.sl s_1v1_n 1 s_1v1_g), .p (.int .i64 s.Beta.Low), .p (.int .i64 s.Beta.High), .p (.int .i64 s.Alpha.Low), .p (.int .i64 s.Alpha.High)]), (8, .box 24 [.p (.int .i64 thresholds.Low), .p (.int .i64 thresholds.High)])], []⟩
def f12_at1 (K : List PA → Prop) (s : Sky) (t : (Sl RangeRow)) (bin : Int) (thresholds : Span) (opacity : Int) (s_1v1_n : Nat) (s_1v1_g : Nat → List PV) : Prop := vc Try.prog G12 ann12 (cdF Try.f12 [1, 1]) (bodyK Try.prog Try.f12 K) (f12_g1 s t bin thresholds opacity s_1v1_n s_1v1_g)
def f12_g2 (s : Sky) (t : (Sl RangeRow)) (bin : Int) (thresholds : Span) (opacity : Int) (ev2 : Int) (s_1v2_n : Nat) (s_1v2_g : Nat → List PV) (a_0v2 : Int) (a_1v2 : Int) : St := ⟨[(1, .one (.c (.p (.sl t.len 3 (fun i => enc_42 (t.get i)))))), (2, .one (.c (.p (.int .i64 bin)))), (4, .one (.c (.p (.int .i64 opacity)))), (5, .one (.c (.ptr 5 0))), (8, .one (.c (.ptr 8 0))), (11, .one (.c (.ptr 11 0))), (12, .one (.c (.p (.int .i64 ev2))))], [(5, .box 26 [.p (.int .i64 s.Parts), .p (.sl s_1v2_n 1 s_1v2_g), .p (.int .i64 s.Beta.Low), .p (.int .i64 s.Beta.High), .p (.int .i64 s.Alpha.Low), .p (.int .i64 s.Alpha.High)]), (8, .box 24 [.p (.int .i64 thresholds.Low), .p (.int .i64 thresholds.High)]), (11, .box 24 [.p (.int .i64 a_0v2), .p (.int .i64 a_1v2)])], []⟩
def f12_at2 (K : List PA → Prop) (s : Sky) (t : (Sl RangeRow)) (bin : Int) (thresholds : Span) (opacity : Int) (ev2 : Int) (s_1v2_n : Nat) (s_1v2_g : Nat → List PV) (a_0v2 : Int) (a_1v2 : Int) : Prop := vc Try.prog G12 ann12 (cdF Try.f12 [1, 1, 1]) (bodyK Try.prog Try.f12 K) (f12_g2 s t bin thresholds opacity ev2 s_1v2_n s_1v2_g a_0v2 a_1v2)
def f12_g3 (s : Sky) (t : (Sl RangeRow)) (bin : Int) (thresholds : Span) (opacity : Int) (ev2 : Int) (a_0v2 : Int) (a_1v2 : Int) (fv3 : Int) (s_1v3_n : Nat) (s_1v3_g : Nat → List PV) (b_0v3 : Int) (b_1v3 : Int) : St := ⟨[(1, .one (.c (.p (.sl t.len 3 (fun i => enc_42 (t.get i)))))), (2, .one (.c (.p (.int .i64 bin)))), (4, .one (.c (.p (.int .i64 opacity)))), (5, .one (.c (.ptr 5 0))), (8, .one (.c (.ptr 8 0))), (11, .one (.c (.ptr 11 0))), (12, .one (.c (.p (.int .i64 ev2)))), (13, .one (.c (.ptr 13 0))), (14, .one (.c (.p (.int .i64 fv3))))], [(5, .box 26 [.p (.int .i64 s.Parts), .p (.sl s_1v3_n 1 s_1v3_g), .p (.int .i64 s.Beta.Low), .p (.int .i64 s.Beta.High), .p (.int .i64 s.Alpha.Low), .p (.int .i64 s.Alpha.High)]), (8, .box 24 [.p (.int .i64 thresholds.Low), .p (.int .i64 thresholds.High)]), (11, .box 24 [.p (.int .i64 a_0v2), .p (.int .i64 a_1v2)]), (13, .box 24 [.p (.int .i64 b_0v3), .p (.int .i64 b_1v3)])], []⟩
def f12_at3 (K : List PA → Prop) (s : Sky) (t : (Sl RangeRow)) (bin : Int) (thresholds : Span) (opacity : Int) (ev2 : Int) (a_0v2 : Int) (a_1v2 : Int) (fv3 : Int) (s_1v3_n : Nat) (s_1v3_g : Nat → List PV) (b_0v3 : Int) (b_1v3 : Int) : Prop := vc Try.prog G12 ann12 (cdF Try.f12 [1, 1, 1, 1]) (bodyK Try.prog Try.f12 K) (f12_g3 s t bin thresholds opacity ev2 a_0v2 a_1v2 fv3 s_1v3_n s_1v3_g b_0v3 b_1v3)
def f12_g4 (s : Sky) (t : (Sl RangeRow)) (bin : Int) (thresholds : Span) (opacity : Int) (ev2 : Int) (a_0v2 : Int) (a_1v2 : Int) (fv3 : Int) (b_0v3 : Int) (b_1v3 : Int) (finev4 : Bool) (s_1v4_n : Nat) (s_1v4_g : Nat → List PV) : St := ⟨[(1, .one (.c (.p (.sl t.len 3 (fun i => enc_42 (t.get i)))))), (2, .one (.c (.p (.int .i64 bin)))), (4, .one (.c (.p (.int .i64 opacity)))), (5, .one (.c (.ptr 5 0))), (8, .one (.c (.ptr 8 0))), (11, .one (.c (.ptr 11 0))), (12, .one (.c (.p (.int .i64 ev2)))), (13, .one (.c (.ptr 13 0))), (14, .one (.c (.p (.int .i64 fv3)))), (15, .one (.c (.p (.bool finev4))))], [(5, .box 26 [.p (.int .i64 s.Parts), .p (.sl s_1v4_n 1 s_1v4_g), .p (.int .i64 s.Beta.Low), .p (.int .i64 s.Beta.High), .p (.int .i64 s.Alpha.Low), .p (.int .i64 s.Alpha.High)]), (8, .box 24 [.p (.int .i64 thresholds.Low), .p (.int .i64 thresholds.High)]), (11, .box 24 [.p (.int .i64 a_0v2), .p (.int .i64 a_1v2)]), (13, .box 24 [.p (.int .i64 b_0v3), .p (.int .i64 b_1v3)])], []⟩
def f12_at4 (K : List PA → Prop) (s : Sky) (t : (Sl RangeRow)) (bin : Int) (thresholds : Span) (opacity : Int) (ev2 : Int) (a_0v2 : Int) (a_1v2 : Int) (fv3 : Int) (b_0v3 : Int) (b_1v3 : Int) (finev4 : Bool) (s_1v4_n : Nat) (s_1v4_g : Nat → List PV) : Prop := vc Try.prog G12 ann12 (cdF Try.f12 [1, 1, 1, 1, 1]) (bodyK Try.prog Try.f12 K) (f12_g4 s t bin thresholds opacity ev2 a_0v2 a_1v2 fv3 b_0v3 b_1v3 finev4 s_1v4_n s_1v4_g)
def f12_g5 (s : Sky) (t : (Sl RangeRow)) (bin : Int) (thresholds : Span) (opacity : Int) (ev2 : Int) (a_0v2 : Int) (a_1v2 : Int) (fv3 : Int) (b_0v3 : Int) (b_1v3 : Int) (finev4 : Bool) (cv5 : Int) (s_1v5_n : Nat) (s_1v5_g : Nat → List PV) : St := ⟨[(1, .one (.c (.p (.sl t.len 3 (fun i => enc_42 (t.get i)))))), (2, .one (.c (.p (.int .i64 bin)))), (4, .one (.c (.p (.int .i64 opacity)))), (5, .one (.c (.ptr 5 0))), (8, .one (.c (.ptr 8 0))), (11, .one (.c (.ptr 11 0))), (12, .one (.c (.p (.int .i64 ev2)))), (13, .one (.c (.ptr 13 0))), (14, .one (.c (.p (.int .i64 fv3)))), (15, .one (.c (.p (.bool finev4)))), (16, .one (.c (.p (.int .i64 cv5))))], [(5, .box 26 [.p (.int .i64 s.Parts), .p (.sl s_1v5_n 1 s_1v5_g), .p (.int .i64 s.Beta.Low), .p (.int .i64 s.Beta.High), .p (.int .i64 s.Alpha.Low), .p (.int .i64 s.Alpha.High)]), (8, .box 24 [.p (.int .i64 thresholds.Low), .p (.int .i64 thresholds.High)]), (11, .box 24 [.p (.int .i64 a_0v2), .p (.int .i64 a_1v2)]), (13, .box 24 [.p (.int .i64 b_0v3), .p (.int .i64 b_1v3)])], []⟩
def f12_at5 (K : List PA → Prop) (s : Sky) (t : (Sl RangeRow)) (bin : Int) (thresholds : Span) (opacity : Int) (ev2 : Int) (a_0v2 : Int) (a_1v2 : Int) (fv3 : Int) (b_0v3 : Int) (b_1v3 : Int) (finev4 : Bool) (cv5 : Int) (s_1v5_n : Nat) (s_1v5_g : Nat → List PV) : Prop := vc Try.prog G12 ann12 (cdF Try.f12 [1, 1, 1, 1, 1, 0, 1]) (sqK Try.prog G12 ann12 (cdF Try.f12 [1, 1, 1, 1, 1, 1]) (bodyK Try.prog Try.f12 K)) (f12_g5 s t bin thresholds opacity ev2 a_0v2 a_1v2 fv3 b_0v3 b_1v3 finev4 cv5 s_1v5_n s_1v5_g)
def f12_g6 (s : Sky) (t : (Sl RangeRow)) (bin : Int) (thresholds : Span) (opacity : Int) (ev2 : Int) (a_0v2 : Int) (a_1v2 : Int) (fv3 : Int) (b_0v3 : Int) (b_1v3 : Int) (finev4 : Bool) (s_1v6_n : Nat) (s_1v6_g : Nat → List PV) : St := ⟨[(1, .one (.c (.p (.sl t.len 3 (fun i => enc_42 (t.get i)))))), (2, .one (.c (.p (.int .i64 bin)))), (4, .one (.c (.p (.int .i64 opacity)))), (5, .one (.c (.ptr 5 0))), (8, .one (.c (.ptr 8 0))), (11, .one (.c (.ptr 11 0))), (12, .one (.c (.p (.int .i64 ev2)))), (13, .one (.c (.ptr 13 0))), (14, .one (.c (.p (.int .i64 fv3)))), (15, .one (.c (.p (.bool finev4))))], [(5, .box 26 [.p (.int .i64 s.Parts), .p (.sl s_1v6_n 1 s_1v6_g), .p (.int .i64 s.Beta.Low), .p (.int .i64 s.Beta.High), .p (.int .i64 s.Alpha.Low), .p (.int .i64 s.Alpha.High)]), (8, .box 24 [.p (.int .i64 thresholds.Low), .p (.int .i64 thresholds.High)]), (11, .box 24 [.p (.int .i64 a_0v2), .p (.int .i64 a_1v2)]), (13, .box 24 [.p (.int .i64 b_0v3), .p (.int .i64 b_1v3)])], []⟩
def f12_at6 (K : List PA → Prop) (s : Sky) (t : (Sl RangeRow)) (bin : Int) (thresholds : Span) (opacity : Int) (ev2 : Int) (a_0v2 : Int) (a_1v2 : Int) (fv3 : Int) (b_0v3 : Int) (b_1v3 : Int) (finev4 : Bool) (s_1v6_n : Nat) (s_1v6_g : Nat → List PV) : Prop := vc Try.prog G12 ann12 (cdF Try.f12 [1, 1, 1, 1, 1, 1]) (bodyK Try.prog Try.f12 K) (f12_g6 s t bin thresholds opacity ev2 a_0v2 a_1v2 fv3 b_0v3 b_1v3 finev4 s_1v6_n s_1v6_g)
def f12_g7 (s : Sky) (t : (Sl RangeRow)) (bin : Int) (thresholds : Span) (opacity : Int) (ev2 : Int) (a_0v2 : Int) (a_1v2 : Int) (fv3 : Int) (b_0v3 : Int) (b_1v3 : Int) (therev7 : Bool) (t73v7 : Bool) (s_1v7_n : Nat) (s_1v7_g : Nat → List PV) : St := ⟨[(1, .one (.c (.p (.sl t.len 3 (fun i => enc_42 (t.get i)))))), (2, .one (.c (.p (.int .i64 bin)))), (4, .one (.c (.p (.int .i64 opacity)))), (5, .one (.c (.ptr 5 0))), (8, .one (.c (.ptr 8 0))), (11, .one (.c (.ptr 11 0))), (12, .one (.c (.p (.int .i64 ev2)))), (13, .one (.c (.ptr 13 0))), (14, .one (.c (.p (.int .i64 fv3)))), (17, .one (.c (.p (.bool therev7)))), (73, .one (.c (.p (.bool t73v7))))], [(5, .box 26 [.p (.int .i64 s.Parts), .p (.sl s_1v7_n 1 s_1v7_g), .p (.int .i64 s.Beta.Low), .p (.int .i64 s.Beta.High), .p (.int .i64 s.Alpha.Low), .p (.int .i64 s.Alpha.High)]), (8, .box 24 [.p (.int .i64 thresholds.Low), .p (.int .i64 thresholds.High)]), (11, .box 24 [.p (.int .i64 a_0v2), .p (.int .i64 a_1v2)]), (13, .box 24 [.p (.int .i64 b_0v3), .p (.int .i64 b_1v3)])], []⟩
def f12_at7 (K : List PA → Prop) (s : Sky) (t : (Sl RangeRow)) (bin : Int) (thresholds : Span) (opacity : Int) (ev2 : Int) (a_0v2 : Int) (a_1v2 : Int) (fv3 : Int) (b_0v3 : Int) (b_1v3 : Int) (therev7 : Bool) (t73v7 : Bool) (s_1v7_n : Nat) (s_1v7_g : Nat → List PV) : Prop := vc Try.prog G12 ann12 (cdF Try.f12 [1, 1, 1, 1, 1, 1, 1, 0, 1]) (sqK Try.prog G12 ann12 (cdF Try.f12 [1, 1, 1, 1, 1, 1, 1, 1]) (bodyK Try.prog Try.f12 K)) (f12_g7 s t bin thresholds opacity ev2 a_0v2 a_1v2 fv3 b_0v3 b_1v3 therev7 t73v7 s_1v7_n s_1v7_g)
def f12_g8 (s : Sky) (t : (Sl RangeRow)) (bin : Int) (opacity : Int) (fv3 : Int) (b_0v3 : Int) (b_1v3 : Int) (therev7 : Bool) (s_1v8_n : Nat) (s_1v8_g : Nat → List PV) : St := ⟨[(1, .one (.c (.p (.sl t.len 3 (fun i => enc_42 (t.get i)))))), (2, .one (.c (.p (.int .i64 bin)))), (4, .one (.c (.p (.int .i64 opacity)))), (5, .one (.c (.ptr 5 0))), (13, .one (.c (.ptr 13 0))), (14, .one (.c (.p (.int .i64 fv3)))), (17, .one (.c (.p (.bool therev7))))], [(5, .box 26 [.p (.int .i64 s.Parts), .p (.sl s_1v8_n 1 s_1v8_g), .p (.int .i64 s.Beta.Low), .p (.int .i64 s.Beta.High), .p (.int .i64 s.Alpha.Low), .p (.int .i64 s.Alpha.High)]), (13, .box 24 [.p (.int .i64 b_0v3), .p (.int .i64 b_1v3)])], []⟩
def f12_at8 (K : List PA → Prop) (s : Sky) (t : (Sl RangeRow)) (bin : Int) (opacity : Int) (fv3 : Int) (b_0v3 : Int) (b_1v3 : Int) (therev7 : Bool) (s_1v8_n : Nat) (s_1v8_g : Nat → List PV) : Prop := vc Try.prog G12 ann12 (cdF Try.f12 [1, 1, 1, 1, 1, 1, 1, 1]) (bodyK Try.prog Try.f12 K) (f12_g8 s t bin opacity fv3 b_0v3 b_1v3 therev7 s_1v8_n s_1v8_g)
def f12_g9 (s : Sky) (t : (Sl RangeRow)) (bin : Int) (opacity : Int) (fv3 : Int) (b_0v3 : Int) (b_1v3 : Int) (therev7 : Bool) (t93v9 : Bool) (s_1v9_n : Nat) (s_1v9_g : Nat → List PV) : St := ⟨[(1, .one (.c (.p (.sl t.len 3 (fun i => enc_42 (t.get i)))))), (2, .one (.c (.p (.int .i64 bin)))), (4, .one (.c (.p (.int .i64 opacity)))), (5, .one (.c (.ptr 5 0))), (13, .one (.c (.ptr 13 0))), (14, .one (.c (.p (.int .i64 fv3)))), (17, .one (.c (.p (.bool therev7)))), (93, .one (.c (.p (.bool t93v9))))], [(5, .box 26 [.p (.int .i64 s.Parts), .p (.sl s_1v9_n 1 s_1v9_g), .p (.int .i64 s.Beta.Low), .p (.int .i64 s.Beta.High), .p (.int .i64 s.Alpha.Low), .p (.int .i64 s.Alpha.High)]), (13, .box 24 [.p (.int .i64 b_0v3), .p (.int .i64 b_1v3)])], []⟩
def f12_at9 (K : List PA → Prop) (s : Sky) (t : (Sl RangeRow)) (bin : Int) (opacity : Int) (fv3 : Int) (b_0v3 : Int) (b_1v3 : Int) (therev7 : Bool) (t93v9 : Bool) (s_1v9_n : Nat) (s_1v9_g : Nat → List PV) : Prop := vc Try.prog G12 ann12 (cdF Try.f12 [1, 1, 1, 1, 1, 1, 1, 0, 1, 1, 1]) (sqK Try.prog G12 ann12 (cdF Try.f12 [1, 1, 1, 1, 1, 1, 1, 1]) (bodyK Try.prog Try.f12 K)) (f12_g9 s t bin opacity fv3 b_0v3 b_1v3 therev7 t93v9 s_1v9_n s_1v9_g)
def f12_g10 (s : Sky) (t : (Sl RangeRow)) (bin : Int) (opacity : Int) (fv3 : Int) (b_0v3 : Int) (b_1v3 : Int) (t108v10 : Bool) (s_1v10_n : Nat) (s_1v10_g : Nat → List PV) : St := ⟨[(1, .one (.c (.p (.sl t.len 3 (fun i => enc_42 (t.get i)))))), (2, .one (.c (.p (.int .i64 bin)))), (4, .one (.c (.p (.int .i64 opacity)))), (5, .one (.c (.ptr 5 0))), (13, .one (.c (.ptr 13 0))), (14, .one (.c (.p (.int .i64 fv3)))), (108, .one (.c (.p (.bool t108v10))))], [(5, .box 26 [.p (.int .i64 s.Parts), .p (.sl s_1v10_n 1 s_1v10_g), .p (.int .i64 s.Beta.Low), .p (.int .i64 s.Beta.High), .p (.int .i64 s.Alpha.Low), .p (.int .i64 s.Alpha.High)]), (13, .box 24 [.p (.int .i64 b_0v3), .p (.int .i64 b_1v3)])], []⟩
def f12_at10 (K : List PA → Prop) (s : Sky) (t : (Sl RangeRow)) (bin : Int) (opacity : Int) (fv3 : Int) (b_0v3 : Int) (b_1v3 : Int) (t108v10 : Bool) (s_1v10_n : Nat) (s_1v10_g : Nat → List PV) : Prop := vc Try.prog G12 ann12 (cdF Try.f12 [1, 1, 1, 1, 1, 1, 1, 1, 0, 1]) (sqK Try.prog G12 ann12 (cdF Try.f12 [1, 1, 1, 1, 1, 1, 1, 1, 1]) (bodyK Try.prog Try.f12 K)) (f12_g10 s t bin opacity fv3 b_0v3 b_1v3 t108v10 s_1v10_n s_1v10_g)
def f12_g11 (s : Sky) (t : (Sl RangeRow)) (bin : Int) (opacity : Int) (fv3 : Int) (b_0v3 : Int) (b_1v3 : Int) (s_1v11_n : Nat) (s_1v11_g : Nat → List PV) : St := ⟨[(1, .one (.c (.p (.sl t.len 3 (fun i => enc_42 (t.get i)))))), (2, .one (.c (.p (.int .i64 bin)))), (4, .one (.c (.p (.int .i64 opacity)))), (5, .one (.c (.ptr 5 0))), (13, .one (.c (.ptr 13 0))), (14, .one (.c (.p (.int .i64 fv3))))], [(5, .box 26 [.p (.int .i64 s.Parts), .p (.sl s_1v11_n 1 s_1v11_g), .p (.int .i64 s.Beta.Low), .p (.int .i64 s.Beta.High), .p (.int .i64 s.Alpha.Low), .p (.int .i64 s.Alpha.High)]), (13, .box 24 [.p (.int .i64 b_0v3), .p (.int .i64 b_1v3)])], []⟩
def f12_at11 (K : List PA → Prop) (s : Sky) (t : (Sl RangeRow)) (bin : Int) (opacity : Int) (fv3 : Int) (b_0v3 : Int) (b_1v3 : Int) (s_1v11_n : Nat) (s_1v11_g : Nat → List PV) : Prop := vc Try.prog G12 ann12 (cdF Try.f12 [1, 1, 1, 1, 1, 1, 1, 1, 1]) (bodyK Try.prog Try.f12 K) (f12_g11 s t bin opacity fv3 b_0v3 b_1v3 s_1v11_n s_1v11_g)
theorem f12_top (s : Sky) (t : (Sl RangeRow)) (bin : Int) (thresholds : Span) (opacity : Int) (K : List PA → Prop) :
  vcFun Try.prog G12 ann12 12 [.agg [.int .i64 s.Parts, .sl s.Bins.len 1 (fun i => enc_32 (s.Bins.get i)), .int .i64 s.Beta.Low, .int .i64 s.Beta.High, .int .i64 s.Alpha.Low, .int .i64 s.Alpha.High], .one (.sl t.len 3 (fun i => enc_42 (t.get i))), .one (.int .i64 bin), .agg [.int .i64 thresholds.Low, .int .i64 thresholds.High], .one (.int .i64 opacity)] K =
  ((IsE enc_32 1 1 (fun i => enc_32 (s.Bins.get i)) ∧ IsE enc_42 3 3 (fun i => enc_42 (t.get i)) ∧ (p15 s t = true)) ∧
  (f12_at0 K s t bin thresholds opacity (!(s15 s t)) s.Bins.len (fun i => enc_32 (s.Bins.get i)))) := by kernel_rfl
theorem f12_eq0 (K : List PA → Prop) (s : Sky) (t : (Sl RangeRow)) (bin : Int) (thresholds : Span) (opacity : Int) (t21v0 : Bool) (s_1v0 : (Sl (Sl FluxRow))) :
  f12_at0 K s t bin thresholds opacity t21v0 s_1v0.len (fun i => enc_32 (s_1v0.get i)) =
  (condP t21v0
   (K [.one (.bool true)])
   (f12_at1 K s t bin thresholds opacity s_1v0.len (fun i => enc_32 (s_1v0.get i)))) := by kernel_rfl
theorem f12_eq1 (K : List PA → Prop) (s : Sky) (t : (Sl RangeRow)) (bin : Int) (thresholds : Span) (opacity : Int) (s_1v1 : (Sl (Sl FluxRow))) :
  f12_at1 K s t bin thresholds opacity s_1v1.len (fun i => enc_32 (s_1v1.get i)) =
  ((IsE enc_32 1 1 (fun i => enc_32 (s_1v1.get i)) ∧ (p44 (⟨s.Parts, s_1v1, s.Beta, s.Alpha⟩ : Sky) bin thresholds = true)) ∧
  (f12_at2 K s t bin thresholds opacity ((s44 (⟨s.Parts, s_1v1, s.Beta, s.Alpha⟩ : Sky) bin thresholds).2) s_1v1.len (fun i => enc_32 (s_1v1.get i)) (((s44 (⟨s.Parts, s_1v1, s.Beta, s.Alpha⟩ : Sky) bin thresholds).1).Low) (((s44 (⟨s.Parts, s_1v1, s.Beta, s.Alpha⟩ : Sky) bin thresholds).1).High))) := by kernel_rfl
theorem f12_eq2 (K : List PA → Prop) (s : Sky) (t : (Sl RangeRow)) (bin : Int) (thresholds : Span) (opacity : Int) (ev2 : Int) (s_1v2 : (Sl (Sl FluxRow))) (a_0v2 : Int) (a_1v2 : Int) :
  f12_at2 K s t bin thresholds opacity ev2 s_1v2.len (fun i => enc_32 (s_1v2.get i)) a_0v2 a_1v2 =
  ((IsE enc_32 1 1 (fun i => enc_32 (s_1v2.get i)) ∧ IsE enc_42 3 3 (fun i => enc_42 (t.get i)) ∧ (p20 (⟨s.Parts, s_1v2, s.Beta, s.Alpha⟩ : Sky) t bin opacity = true)) ∧
  (f12_at3 K s t bin thresholds opacity ev2 a_0v2 a_1v2 ((s20 (⟨s.Parts, s_1v2, s.Beta, s.Alpha⟩ : Sky) t bin opacity).2) s_1v2.len (fun i => enc_32 (s_1v2.get i)) (((s20 (⟨s.Parts, s_1v2, s.Beta, s.Alpha⟩ : Sky) t bin opacity).1).Low) (((s20 (⟨s.Parts, s_1v2, s.Beta, s.Alpha⟩ : Sky) t bin opacity).1).High))) := by kernel_rfl
theorem f12_eq3 (K : List PA → Prop) (s : Sky) (t : (Sl RangeRow)) (bin : Int) (thresholds : Span) (opacity : Int) (ev2 : Int) (a_0v2 : Int) (a_1v2 : Int) (fv3 : Int) (s_1v3 : (Sl (Sl FluxRow))) (b_0v3 : Int) (b_1v3 : Int) :
  f12_at3 K s t bin thresholds opacity ev2 a_0v2 a_1v2 fv3 s_1v3.len (fun i => enc_32 (s_1v3.get i)) b_0v3 b_1v3 =
  ((IsE enc_32 1 1 (fun i => enc_32 (s_1v3.get i)) ∧ (p16 (⟨s.Parts, s_1v3, s.Beta, s.Alpha⟩ : Sky) = true)) ∧
  (f12_at4 K s t bin thresholds opacity ev2 a_0v2 a_1v2 fv3 b_0v3 b_1v3 (s16 (⟨s.Parts, s_1v3, s.Beta, s.Alpha⟩ : Sky)) s_1v3.len (fun i => enc_32 (s_1v3.get i)))) := by kernel_rfl
theorem f12_eq4 (K : List PA → Prop) (s : Sky) (t : (Sl RangeRow)) (bin : Int) (thresholds : Span) (opacity : Int) (ev2 : Int) (a_0v2 : Int) (a_1v2 : Int) (fv3 : Int) (b_0v3 : Int) (b_1v3 : Int) (finev4 : Bool) (s_1v4 : (Sl (Sl FluxRow))) :
  f12_at4 K s t bin thresholds opacity ev2 a_0v2 a_1v2 fv3 b_0v3 b_1v3 finev4 s_1v4.len (fun i => enc_32 (s_1v4.get i)) =
  ((IsE enc_32 1 1 (fun i => enc_32 (s_1v4.get i)) ∧ (p41 (⟨s.Parts, s_1v4, s.Beta, s.Alpha⟩ : Sky) = true)) ∧
  (f12_at5 K s t bin thresholds opacity ev2 a_0v2 a_1v2 fv3 b_0v3 b_1v3 finev4 (s41 (⟨s.Parts, s_1v4, s.Beta, s.Alpha⟩ : Sky)) s_1v4.len (fun i => enc_32 (s_1v4.get i)))) := by kernel_rfl
theorem f12_eq5 (K : List PA → Prop) (s : Sky) (t : (Sl RangeRow)) (bin : Int) (thresholds : Span) (opacity : Int) (ev2 : Int) (a_0v2 : Int) (a_1v2 : Int) (fv3 : Int) (b_0v3 : Int) (b_1v3 : Int) (finev4 : Bool) (cv5 : Int) (s_1v5 : (Sl (Sl FluxRow))) :
  f12_at5 K s t bin thresholds opacity ev2 a_0v2 a_1v2 fv3 b_0v3 b_1v3 finev4 cv5 s_1v5.len (fun i => enc_32 (s_1v5.get i)) =
  (condP finev4
   (condP (cv5 != (0:Int))
    (K [.one (.bool false)])
    (condP (!finev4)
     (condP (cv5 != (2:Int))
      (K [.one (.bool false)])
      (f12_at6 K s t bin thresholds opacity ev2 a_0v2 a_1v2 fv3 b_0v3 b_1v3 finev4 s_1v5.len (fun i => enc_32 (s_1v5.get i))))
     (f12_at6 K s t bin thresholds opacity ev2 a_0v2 a_1v2 fv3 b_0v3 b_1v3 finev4 s_1v5.len (fun i => enc_32 (s_1v5.get i)))))
   (condP (!finev4)
    (condP (cv5 != (2:Int))
     (K [.one (.bool false)])
     (f12_at6 K s t bin thresholds opacity ev2 a_0v2 a_1v2 fv3 b_0v3 b_1v3 finev4 s_1v5.len (fun i => enc_32 (s_1v5.get i))))
    (f12_at6 K s t bin thresholds opacity ev2 a_0v2 a_1v2 fv3 b_0v3 b_1v3 finev4 s_1v5.len (fun i => enc_32 (s_1v5.get i))))) := by kernel_rfl
theorem f12_eq6 (K : List PA → Prop) (s : Sky) (t : (Sl RangeRow)) (bin : Int) (thresholds : Span) (opacity : Int) (ev2 : Int) (a_0v2 : Int) (a_1v2 : Int) (fv3 : Int) (b_0v3 : Int) (b_1v3 : Int) (finev4 : Bool) (s_1v6 : (Sl (Sl FluxRow))) :
  f12_at6 K s t bin thresholds opacity ev2 a_0v2 a_1v2 fv3 b_0v3 b_1v3 finev4 s_1v6.len (fun i => enc_32 (s_1v6.get i)) =
  (condP finev4
   (condP (decide (bin ≥ (0:Int)))
    (condP (!(decide (bin < (s_1v6.len : Int))))
     (f12_at7 K s t bin thresholds opacity ev2 a_0v2 a_1v2 fv3 b_0v3 b_1v3 (decide (bin < (s_1v6.len : Int))) true s_1v6.len (fun i => enc_32 (s_1v6.get i)))
     (f12_at7 K s t bin thresholds opacity ev2 a_0v2 a_1v2 fv3 b_0v3 b_1v3 (decide (bin < (s_1v6.len : Int))) (!(s45 thresholds)) s_1v6.len (fun i => enc_32 (s_1v6.get i))))
    (f12_at7 K s t bin thresholds opacity ev2 a_0v2 a_1v2 fv3 b_0v3 b_1v3 false true s_1v6.len (fun i => enc_32 (s_1v6.get i))))
   (f12_at7 K s t bin thresholds opacity ev2 a_0v2 a_1v2 fv3 b_0v3 b_1v3 false true s_1v6.len (fun i => enc_32 (s_1v6.get i)))) := by kernel_rfl
theorem f12_eq7 (K : List PA → Prop) (s : Sky) (t : (Sl RangeRow)) (bin : Int) (thresholds : Span) (opacity : Int) (ev2 : Int) (a_0v2 : Int) (a_1v2 : Int) (fv3 : Int) (b_0v3 : Int) (b_1v3 : Int) (therev7 : Bool) (t73v7 : Bool) (s_1v7 : (Sl (Sl FluxRow))) :
  f12_at7 K s t bin thresholds opacity ev2 a_0v2 a_1v2 fv3 b_0v3 b_1v3 therev7 t73v7 s_1v7.len (fun i => enc_32 (s_1v7.get i)) =
  (condP t73v7
   (condP (ev2 != (2:Int))
    (K [.one (.bool false)])
    (condP (!(match (a_0v2 == (0:Int)) with | true => (match (a_1v2 == (0:Int)) with | true => true | false => false) | false => false))
     (K [.one (.bool false)])
     (f12_at8 K s t bin opacity fv3 b_0v3 b_1v3 therev7 s_1v7.len (fun i => enc_32 (s_1v7.get i)))))
   (condP (ev2 != (0:Int))
    (f12_at9 K s t bin opacity fv3 b_0v3 b_1v3 therev7 true s_1v7.len (fun i => enc_32 (s_1v7.get i)))
    (((0 ≤ bin ∧ bin < (s_1v7.len : Int))) ∧
    ((IsE enc_44 3 3 (fun i => enc_44 ((s_1v7.get bin.toNat).get i)) ∧ (p46 (s_1v7.get bin.toNat) thresholds = true)) ∧
    (f12_at9 K s t bin opacity fv3 b_0v3 b_1v3 therev7 (!(match (a_0v2 == (s46 (s_1v7.get bin.toNat) thresholds).Low) with | true => (match (a_1v2 == (s46 (s_1v7.get bin.toNat) thresholds).High) with | true => true | false => false) | false => false)) s_1v7.len (fun i => enc_32 (s_1v7.get i))))))) := by kernel_rfl
theorem f12_eq8 (K : List PA → Prop) (s : Sky) (t : (Sl RangeRow)) (bin : Int) (opacity : Int) (fv3 : Int) (b_0v3 : Int) (b_1v3 : Int) (therev7 : Bool) (s_1v8 : (Sl (Sl FluxRow))) :
  f12_at8 K s t bin opacity fv3 b_0v3 b_1v3 therev7 s_1v8.len (fun i => enc_32 (s_1v8.get i)) =
  (condP (!therev7)
   (f12_at10 K s t bin opacity fv3 b_0v3 b_1v3 true s_1v8.len (fun i => enc_32 (s_1v8.get i)))
   ((IsE enc_42 3 3 (fun i => enc_42 (t.get i)) ∧ (p17 t = true)) ∧
   (condP (!(s17 t))
    (f12_at10 K s t bin opacity fv3 b_0v3 b_1v3 true s_1v8.len (fun i => enc_32 (s_1v8.get i)))
    (condP (decide (opacity < (0:Int)))
     (f12_at10 K s t bin opacity fv3 b_0v3 b_1v3 true s_1v8.len (fun i => enc_32 (s_1v8.get i)))
     (f12_at10 K s t bin opacity fv3 b_0v3 b_1v3 (decide (opacity > (1000000:Int))) s_1v8.len (fun i => enc_32 (s_1v8.get i))))))) := by kernel_rfl
theorem f12_eq9 (K : List PA → Prop) (s : Sky) (t : (Sl RangeRow)) (bin : Int) (opacity : Int) (fv3 : Int) (b_0v3 : Int) (b_1v3 : Int) (therev7 : Bool) (t93v9 : Bool) (s_1v9 : (Sl (Sl FluxRow))) :
  f12_at9 K s t bin opacity fv3 b_0v3 b_1v3 therev7 t93v9 s_1v9.len (fun i => enc_32 (s_1v9.get i)) =
  (condP t93v9
   (K [.one (.bool false)])
   (f12_at8 K s t bin opacity fv3 b_0v3 b_1v3 therev7 s_1v9.len (fun i => enc_32 (s_1v9.get i)))) := by kernel_rfl
theorem f12_eq10 (K : List PA → Prop) (s : Sky) (t : (Sl RangeRow)) (bin : Int) (opacity : Int) (fv3 : Int) (b_0v3 : Int) (b_1v3 : Int) (t108v10 : Bool) (s_1v10 : (Sl (Sl FluxRow))) :
  f12_at10 K s t bin opacity fv3 b_0v3 b_1v3 t108v10 s_1v10.len (fun i => enc_32 (s_1v10.get i)) =
  (condP t108v10
   (condP (fv3 == (2:Int))
    (condP (match (b_0v3 == (0:Int)) with | true => (match (b_1v3 == (0:Int)) with | true => true | false => false) | false => false)
     (K [.one (.bool true)])
     (K [.one (.bool false)]))
    (K [.one (.bool false)]))
   (f12_at11 K s t bin opacity fv3 b_0v3 b_1v3 s_1v10.len (fun i => enc_32 (s_1v10.get i)))) := by kernel_rfl
theorem f12_eq11 (K : List PA → Prop) (s : Sky) (t : (Sl RangeRow)) (bin : Int) (opacity : Int) (fv3 : Int) (b_0v3 : Int) (b_1v3 : Int) (s_1v11 : (Sl (Sl FluxRow))) :
  f12_at11 K s t bin opacity fv3 b_0v3 b_1v3 s_1v11.len (fun i => enc_32 (s_1v11.get i)) =
  (condP (fv3 == (0:Int))
   ((IsE enc_32 1 1 (fun i => enc_32 (s_1v11.get i)) ∧ IsE enc_42 3 3 (fun i => enc_42 (t.get i)) ∧ (p47 (⟨s.Parts, s_1v11, s.Beta, s.Alpha⟩ : Sky) t bin opacity = true)) ∧
   (condP (match (b_0v3 == (s47 (⟨s.Parts, s_1v11, s.Beta, s.Alpha⟩ : Sky) t bin opacity).Low) with | true => (match (b_1v3 == (s47 (⟨s.Parts, s_1v11, s.Beta, s.Alpha⟩ : Sky) t bin opacity).High) with | true => true | false => false) | false => false)
    (K [.one (.bool true)])
    (K [.one (.bool false)])))
   (K [.one (.bool false)])) := by kernel_rfl
abbrev R12 := Bool
abbrev e12 (r : Bool) : List PA := [.one (.bool r)]
attribute [irreducible] f12_at0 f12_at1 f12_at2 f12_at3 f12_at4 f12_at5 f12_at6 f12_at7 f12_at8 f12_at9 f12_at10 f12_at11
def s12_at11 (s : Sky) (t : (Sl RangeRow)) (bin : Int) (opacity : Int) (fv3 : Int) (b_0v3 : Int) (b_1v3 : Int) (s_1v11 : (Sl (Sl FluxRow))) : Bool :=
  (cond (fv3 == (0:Int))
   (cond (match (b_0v3 == (s47 (⟨s.Parts, s_1v11, s.Beta, s.Alpha⟩ : Sky) t bin opacity).Low) with | true => (match (b_1v3 == (s47 (⟨s.Parts, s_1v11, s.Beta, s.Alpha⟩ : Sky) t bin opacity).High) with | true => true | false => false) | false => false)
    true
    false)
   false)
def p12_at11 (s : Sky) (t : (Sl RangeRow)) (bin : Int) (opacity : Int) (fv3 : Int) (b_0v3 : Int) (b_1v3 : Int) (s_1v11 : (Sl (Sl FluxRow))) : Bool :=
  (cond (fv3 == (0:Int))
   (decide ((p47 (⟨s.Parts, s_1v11, s.Beta, s.Alpha⟩ : Sky) t bin opacity = true)) &&
   true)
   true)
theorem q12_at11 (K : List PA → Prop) (s : Sky) (t : (Sl RangeRow)) (bin : Int) (opacity : Int) (fv3 : Int) (b_0v3 : Int) (b_1v3 : Int) (s_1v11 : (Sl (Sl FluxRow))) (s_1v11_g : Nat → List PV) (s_1v11_h : s_1v11_g = fun i => enc_32 (s_1v11.get i)) (hs : p12_at11 s t bin opacity fv3 b_0v3 b_1v3 s_1v11 = true) (hk : K (e12 (s12_at11 s t bin opacity fv3 b_0v3 b_1v3 s_1v11))) : f12_at11 K s t bin opacity fv3 b_0v3 b_1v3 s_1v11.len s_1v11_g := by
  subst s_1v11_h
  refine ofEq (f12_eq11 K s t bin opacity fv3 b_0v3 b_1v3 s_1v11) ?_
  unfold p12_at11 at hs
  unfold s12_at11 at hk
  exact (condB_go (K := fun r => K (e12 r))
   (fun hs hk => (andK hs fun hc hs => ⟨⟨isE, isE, hc⟩, (condP_gt (K := fun r => K (e12 r))
    (fun hk => hk)
    (fun hk => hk) hk)⟩))
   (fun hs hk => hk) hs hk)
def s12_at10 (s : Sky) (t : (Sl RangeRow)) (bin : Int) (opacity : Int) (fv3 : Int) (b_0v3 : Int) (b_1v3 : Int) (t108v10 : Bool) (s_1v10 : (Sl (Sl FluxRow))) : Bool :=
  (cond t108v10
   (cond (fv3 == (2:Int))
    (cond (match (b_0v3 == (0:Int)) with | true => (match (b_1v3 == (0:Int)) with | true => true | false => false) | false => false)
     true
     false)
    false)
   (s12_at11 s t bin opacity fv3 b_0v3 b_1v3 s_1v10))
def p12_at10 (s : Sky) (t : (Sl RangeRow)) (bin : Int) (opacity : Int) (fv3 : Int) (b_0v3 : Int) (b_1v3 : Int) (t108v10 : Bool) (s_1v10 : (Sl (Sl FluxRow))) : Bool :=
  (cond t108v10
   true
   (p12_at11 s t bin opacity fv3 b_0v3 b_1v3 s_1v10))
theorem q12_at10 (K : List PA → Prop) (s : Sky) (t : (Sl RangeRow)) (bin : Int) (opacity : Int) (fv3 : Int) (b_0v3 : Int) (b_1v3 : Int) (t108v10 : Bool) (s_1v10 : (Sl (Sl FluxRow))) (s_1v10_g : Nat → List PV) (s_1v10_h : s_1v10_g = fun i => enc_32 (s_1v10.get i)) (hs : p12_at10 s t bin opacity fv3 b_0v3 b_1v3 t108v10 s_1v10 = true) (hk : K (e12 (s12_at10 s t bin opacity fv3 b_0v3 b_1v3 t108v10 s_1v10))) : f12_at10 K s t bin opacity fv3 b_0v3 b_1v3 t108v10 s_1v10.len s_1v10_g := by
  subst s_1v10_h
  refine ofEq (f12_eq10 K s t bin opacity fv3 b_0v3 b_1v3 t108v10 s_1v10) ?_
  unfold p12_at10 at hs
  unfold s12_at10 at hk
  exact (condB_go (K := fun r => K (e12 r))
   (fun hs hk => (condP_gt (K := fun r => K (e12 r))
    (fun hk => (condP_gt (K := fun r => K (e12 r))
     (fun hk => hk)
     (fun hk => hk) hk))
    (fun hk => hk) hk))
   (fun hs hk => (q12_at11 K s t bin opacity fv3 b_0v3 b_1v3 s_1v10 (fun i => enc_32 (s_1v10.get i)) rfl hs hk)) hs hk)
def s12_at8 (s : Sky) (t : (Sl RangeRow)) (bin : Int) (opacity : Int) (fv3 : Int) (b_0v3 : Int) (b_1v3 : Int) (therev7 : Bool) (s_1v8 : (Sl (Sl FluxRow))) : Bool :=
  (cond (!therev7)
   (s12_at10 s t bin opacity fv3 b_0v3 b_1v3 true s_1v8)
   (cond (!(s17 t))
    (s12_at10 s t bin opacity fv3 b_0v3 b_1v3 true s_1v8)
    (cond (decide (opacity < (0:Int)))
     (s12_at10 s t bin opacity fv3 b_0v3 b_1v3 true s_1v8)
     (s12_at10 s t bin opacity fv3 b_0v3 b_1v3 (decide (opacity > (1000000:Int))) s_1v8))))
def p12_at8 (s : Sky) (t : (Sl RangeRow)) (bin : Int) (opacity : Int) (fv3 : Int) (b_0v3 : Int) (b_1v3 : Int) (therev7 : Bool) (s_1v8 : (Sl (Sl FluxRow))) : Bool :=
  (cond (!therev7)
   (p12_at10 s t bin opacity fv3 b_0v3 b_1v3 true s_1v8)
   (decide ((p17 t = true)) &&
   (cond (!(s17 t))
    (p12_at10 s t bin opacity fv3 b_0v3 b_1v3 true s_1v8)
    (cond (decide (opacity < (0:Int)))
     (p12_at10 s t bin opacity fv3 b_0v3 b_1v3 true s_1v8)
     (p12_at10 s t bin opacity fv3 b_0v3 b_1v3 (decide (opacity > (1000000:Int))) s_1v8)))))
theorem q12_at8 (K : List PA → Prop) (s : Sky) (t : (Sl RangeRow)) (bin : Int) (opacity : Int) (fv3 : Int) (b_0v3 : Int) (b_1v3 : Int) (therev7 : Bool) (s_1v8 : (Sl (Sl FluxRow))) (s_1v8_g : Nat → List PV) (s_1v8_h : s_1v8_g = fun i => enc_32 (s_1v8.get i)) (hs : p12_at8 s t bin opacity fv3 b_0v3 b_1v3 therev7 s_1v8 = true) (hk : K (e12 (s12_at8 s t bin opacity fv3 b_0v3 b_1v3 therev7 s_1v8))) : f12_at8 K s t bin opacity fv3 b_0v3 b_1v3 therev7 s_1v8.len s_1v8_g := by
  subst s_1v8_h
  refine ofEq (f12_eq8 K s t bin opacity fv3 b_0v3 b_1v3 therev7 s_1v8) ?_
  unfold p12_at8 at hs
  unfold s12_at8 at hk
  exact (condB_go (K := fun r => K (e12 r))
   (fun hs hk => (q12_at10 K s t bin opacity fv3 b_0v3 b_1v3 true s_1v8 (fun i => enc_32 (s_1v8.get i)) rfl hs hk))
   (fun hs hk => (andK hs fun hc hs => ⟨⟨isE, hc⟩, (condB_go (K := fun r => K (e12 r))
    (fun hs hk => (q12_at10 K s t bin opacity fv3 b_0v3 b_1v3 true s_1v8 (fun i => enc_32 (s_1v8.get i)) rfl hs hk))
    (fun hs hk => (condB_go (K := fun r => K (e12 r))
     (fun hs hk => (q12_at10 K s t bin opacity fv3 b_0v3 b_1v3 true s_1v8 (fun i => enc_32 (s_1v8.get i)) rfl hs hk))
     (fun hs hk => (q12_at10 K s t bin opacity fv3 b_0v3 b_1v3 (decide (opacity > (1000000:Int))) s_1v8 (fun i => enc_32 (s_1v8.get i)) rfl hs hk)) hs hk)) hs hk)⟩)) hs hk)
def s12_at9 (s : Sky) (t : (Sl RangeRow)) (bin : Int) (opacity : Int) (fv3 : Int) (b_0v3 : Int) (b_1v3 : Int) (therev7 : Bool) (t93v9 : Bool) (s_1v9 : (Sl (Sl FluxRow))) : Bool :=
  (cond t93v9
   false
   (s12_at8 s t bin opacity fv3 b_0v3 b_1v3 therev7 s_1v9))
def p12_at9 (s : Sky) (t : (Sl RangeRow)) (bin : Int) (opacity : Int) (fv3 : Int) (b_0v3 : Int) (b_1v3 : Int) (therev7 : Bool) (t93v9 : Bool) (s_1v9 : (Sl (Sl FluxRow))) : Bool :=
  (cond t93v9
   true
   (p12_at8 s t bin opacity fv3 b_0v3 b_1v3 therev7 s_1v9))
theorem q12_at9 (K : List PA → Prop) (s : Sky) (t : (Sl RangeRow)) (bin : Int) (opacity : Int) (fv3 : Int) (b_0v3 : Int) (b_1v3 : Int) (therev7 : Bool) (t93v9 : Bool) (s_1v9 : (Sl (Sl FluxRow))) (s_1v9_g : Nat → List PV) (s_1v9_h : s_1v9_g = fun i => enc_32 (s_1v9.get i)) (hs : p12_at9 s t bin opacity fv3 b_0v3 b_1v3 therev7 t93v9 s_1v9 = true) (hk : K (e12 (s12_at9 s t bin opacity fv3 b_0v3 b_1v3 therev7 t93v9 s_1v9))) : f12_at9 K s t bin opacity fv3 b_0v3 b_1v3 therev7 t93v9 s_1v9.len s_1v9_g := by
  subst s_1v9_h
  refine ofEq (f12_eq9 K s t bin opacity fv3 b_0v3 b_1v3 therev7 t93v9 s_1v9) ?_
  unfold p12_at9 at hs
  unfold s12_at9 at hk
  exact (condB_go (K := fun r => K (e12 r))
   (fun hs hk => hk)
   (fun hs hk => (q12_at8 K s t bin opacity fv3 b_0v3 b_1v3 therev7 s_1v9 (fun i => enc_32 (s_1v9.get i)) rfl hs hk)) hs hk)
def s12_at7 (s : Sky) (t : (Sl RangeRow)) (bin : Int) (thresholds : Span) (opacity : Int) (ev2 : Int) (a_0v2 : Int) (a_1v2 : Int) (fv3 : Int) (b_0v3 : Int) (b_1v3 : Int) (therev7 : Bool) (t73v7 : Bool) (s_1v7 : (Sl (Sl FluxRow))) : Bool :=
  (cond t73v7
   (cond (ev2 != (2:Int))
    false
    (cond (!(match (a_0v2 == (0:Int)) with | true => (match (a_1v2 == (0:Int)) with | true => true | false => false) | false => false))
     false
     (s12_at8 s t bin opacity fv3 b_0v3 b_1v3 therev7 s_1v7)))
   (cond (ev2 != (0:Int))
    (s12_at9 s t bin opacity fv3 b_0v3 b_1v3 therev7 true s_1v7)
    (s12_at9 s t bin opacity fv3 b_0v3 b_1v3 therev7 (!(match (a_0v2 == (s46 (s_1v7.get bin.toNat) thresholds).Low) with | true => (match (a_1v2 == (s46 (s_1v7.get bin.toNat) thresholds).High) with | true => true | false => false) | false => false)) s_1v7)))
def p12_at7 (s : Sky) (t : (Sl RangeRow)) (bin : Int) (thresholds : Span) (opacity : Int) (ev2 : Int) (a_0v2 : Int) (a_1v2 : Int) (fv3 : Int) (b_0v3 : Int) (b_1v3 : Int) (therev7 : Bool) (t73v7 : Bool) (s_1v7 : (Sl (Sl FluxRow))) : Bool :=
  (cond t73v7
   (cond (ev2 != (2:Int))
    true
    (cond (!(match (a_0v2 == (0:Int)) with | true => (match (a_1v2 == (0:Int)) with | true => true | false => false) | false => false))
     true
     (p12_at8 s t bin opacity fv3 b_0v3 b_1v3 therev7 s_1v7)))
   (cond (ev2 != (0:Int))
    (p12_at9 s t bin opacity fv3 b_0v3 b_1v3 therev7 true s_1v7)
    (decide ((0 ≤ bin ∧ bin < (s_1v7.len : Int))) &&
    (decide ((p46 (s_1v7.get bin.toNat) thresholds = true)) &&
    (p12_at9 s t bin opacity fv3 b_0v3 b_1v3 therev7 (!(match (a_0v2 == (s46 (s_1v7.get bin.toNat) thresholds).Low) with | true => (match (a_1v2 == (s46 (s_1v7.get bin.toNat) thresholds).High) with | true => true | false => false) | false => false)) s_1v7)))))
theorem q12_at7 (K : List PA → Prop) (s : Sky) (t : (Sl RangeRow)) (bin : Int) (thresholds : Span) (opacity : Int) (ev2 : Int) (a_0v2 : Int) (a_1v2 : Int) (fv3 : Int) (b_0v3 : Int) (b_1v3 : Int) (therev7 : Bool) (t73v7 : Bool) (s_1v7 : (Sl (Sl FluxRow))) (s_1v7_g : Nat → List PV) (s_1v7_h : s_1v7_g = fun i => enc_32 (s_1v7.get i)) (hs : p12_at7 s t bin thresholds opacity ev2 a_0v2 a_1v2 fv3 b_0v3 b_1v3 therev7 t73v7 s_1v7 = true) (hk : K (e12 (s12_at7 s t bin thresholds opacity ev2 a_0v2 a_1v2 fv3 b_0v3 b_1v3 therev7 t73v7 s_1v7))) : f12_at7 K s t bin thresholds opacity ev2 a_0v2 a_1v2 fv3 b_0v3 b_1v3 therev7 t73v7 s_1v7.len s_1v7_g := by
  subst s_1v7_h
  refine ofEq (f12_eq7 K s t bin thresholds opacity ev2 a_0v2 a_1v2 fv3 b_0v3 b_1v3 therev7 t73v7 s_1v7) ?_
  unfold p12_at7 at hs
  unfold s12_at7 at hk
  exact (condB_go (K := fun r => K (e12 r))
   (fun hs hk => (condB_go (K := fun r => K (e12 r))
    (fun hs hk => hk)
    (fun hs hk => (condB_go (K := fun r => K (e12 r))
     (fun hs hk => hk)
     (fun hs hk => (q12_at8 K s t bin opacity fv3 b_0v3 b_1v3 therev7 s_1v7 (fun i => enc_32 (s_1v7.get i)) rfl hs hk)) hs hk)) hs hk))
   (fun hs hk => (condB_go (K := fun r => K (e12 r))
    (fun hs hk => (q12_at9 K s t bin opacity fv3 b_0v3 b_1v3 therev7 true s_1v7 (fun i => enc_32 (s_1v7.get i)) rfl hs hk))
    (fun hs hk => (andK hs fun hc hs => ⟨hc, (andK hs fun hc hs => ⟨⟨isE, hc⟩, (q12_at9 K s t bin opacity fv3 b_0v3 b_1v3 therev7 (!(match (a_0v2 == (s46 (s_1v7.get bin.toNat) thresholds).Low) with | true => (match (a_1v2 == (s46 (s_1v7.get bin.toNat) thresholds).High) with | true => true | false => false) | false => false)) s_1v7 (fun i => enc_32 (s_1v7.get i)) rfl hs hk)⟩)⟩)) hs hk)) hs hk)
def s12_at6 (s : Sky) (t : (Sl RangeRow)) (bin : Int) (thresholds : Span) (opacity : Int) (ev2 : Int) (a_0v2 : Int) (a_1v2 : Int) (fv3 : Int) (b_0v3 : Int) (b_1v3 : Int) (finev4 : Bool) (s_1v6 : (Sl (Sl FluxRow))) : Bool :=
  (cond finev4
   (cond (decide (bin ≥ (0:Int)))
    (cond (!(decide (bin < (s_1v6.len : Int))))
     (s12_at7 s t bin thresholds opacity ev2 a_0v2 a_1v2 fv3 b_0v3 b_1v3 (decide (bin < (s_1v6.len : Int))) true s_1v6)
     (s12_at7 s t bin thresholds opacity ev2 a_0v2 a_1v2 fv3 b_0v3 b_1v3 (decide (bin < (s_1v6.len : Int))) (!(s45 thresholds)) s_1v6))
    (s12_at7 s t bin thresholds opacity ev2 a_0v2 a_1v2 fv3 b_0v3 b_1v3 false true s_1v6))
   (s12_at7 s t bin thresholds opacity ev2 a_0v2 a_1v2 fv3 b_0v3 b_1v3 false true s_1v6))
def p12_at6 (s : Sky) (t : (Sl RangeRow)) (bin : Int) (thresholds : Span) (opacity : Int) (ev2 : Int) (a_0v2 : Int) (a_1v2 : Int) (fv3 : Int) (b_0v3 : Int) (b_1v3 : Int) (finev4 : Bool) (s_1v6 : (Sl (Sl FluxRow))) : Bool :=
  (cond finev4
   (cond (decide (bin ≥ (0:Int)))
    (cond (!(decide (bin < (s_1v6.len : Int))))
     (p12_at7 s t bin thresholds opacity ev2 a_0v2 a_1v2 fv3 b_0v3 b_1v3 (decide (bin < (s_1v6.len : Int))) true s_1v6)
     (p12_at7 s t bin thresholds opacity ev2 a_0v2 a_1v2 fv3 b_0v3 b_1v3 (decide (bin < (s_1v6.len : Int))) (!(s45 thresholds)) s_1v6))
    (p12_at7 s t bin thresholds opacity ev2 a_0v2 a_1v2 fv3 b_0v3 b_1v3 false true s_1v6))
   (p12_at7 s t bin thresholds opacity ev2 a_0v2 a_1v2 fv3 b_0v3 b_1v3 false true s_1v6))
theorem q12_at6 (K : List PA → Prop) (s : Sky) (t : (Sl RangeRow)) (bin : Int) (thresholds : Span) (opacity : Int) (ev2 : Int) (a_0v2 : Int) (a_1v2 : Int) (fv3 : Int) (b_0v3 : Int) (b_1v3 : Int) (finev4 : Bool) (s_1v6 : (Sl (Sl FluxRow))) (s_1v6_g : Nat → List PV) (s_1v6_h : s_1v6_g = fun i => enc_32 (s_1v6.get i)) (hs : p12_at6 s t bin thresholds opacity ev2 a_0v2 a_1v2 fv3 b_0v3 b_1v3 finev4 s_1v6 = true) (hk : K (e12 (s12_at6 s t bin thresholds opacity ev2 a_0v2 a_1v2 fv3 b_0v3 b_1v3 finev4 s_1v6))) : f12_at6 K s t bin thresholds opacity ev2 a_0v2 a_1v2 fv3 b_0v3 b_1v3 finev4 s_1v6.len s_1v6_g := by
  subst s_1v6_h
  refine ofEq (f12_eq6 K s t bin thresholds opacity ev2 a_0v2 a_1v2 fv3 b_0v3 b_1v3 finev4 s_1v6) ?_
  unfold p12_at6 at hs
  unfold s12_at6 at hk
  exact (condB_go (K := fun r => K (e12 r))
   (fun hs hk => (condB_go (K := fun r => K (e12 r))
    (fun hs hk => (condB_go (K := fun r => K (e12 r))
     (fun hs hk => (q12_at7 K s t bin thresholds opacity ev2 a_0v2 a_1v2 fv3 b_0v3 b_1v3 (decide (bin < (s_1v6.len : Int))) true s_1v6 (fun i => enc_32 (s_1v6.get i)) rfl hs hk))
     (fun hs hk => (q12_at7 K s t bin thresholds opacity ev2 a_0v2 a_1v2 fv3 b_0v3 b_1v3 (decide (bin < (s_1v6.len : Int))) (!(s45 thresholds)) s_1v6 (fun i => enc_32 (s_1v6.get i)) rfl hs hk)) hs hk))
    (fun hs hk => (q12_at7 K s t bin thresholds opacity ev2 a_0v2 a_1v2 fv3 b_0v3 b_1v3 false true s_1v6 (fun i => enc_32 (s_1v6.get i)) rfl hs hk)) hs hk))
   (fun hs hk => (q12_at7 K s t bin thresholds opacity ev2 a_0v2 a_1v2 fv3 b_0v3 b_1v3 false true s_1v6 (fun i => enc_32 (s_1v6.get i)) rfl hs hk)) hs hk)
def s12_at5 (s : Sky) (t : (Sl RangeRow)) (bin : Int) (thresholds : Span) (opacity : Int) (ev2 : Int) (a_0v2 : Int) (a_1v2 : Int) (fv3 : Int) (b_0v3 : Int) (b_1v3 : Int) (finev4 : Bool) (cv5 : Int) (s_1v5 : (Sl (Sl FluxRow))) : Bool :=
  (cond finev4
   (cond (cv5 != (0:Int))
    false
    (cond (!finev4)
     (cond (cv5 != (2:Int))
      false
      (s12_at6 s t bin thresholds opacity ev2 a_0v2 a_1v2 fv3 b_0v3 b_1v3 finev4 s_1v5))
     (s12_at6 s t bin thresholds opacity ev2 a_0v2 a_1v2 fv3 b_0v3 b_1v3 finev4 s_1v5)))
   (cond (!finev4)
    (cond (cv5 != (2:Int))
     false
     (s12_at6 s t bin thresholds opacity ev2 a_0v2 a_1v2 fv3 b_0v3 b_1v3 finev4 s_1v5))
    (s12_at6 s t bin thresholds opacity ev2 a_0v2 a_1v2 fv3 b_0v3 b_1v3 finev4 s_1v5)))
def p12_at5 (s : Sky) (t : (Sl RangeRow)) (bin : Int) (thresholds : Span) (opacity : Int) (ev2 : Int) (a_0v2 : Int) (a_1v2 : Int) (fv3 : Int) (b_0v3 : Int) (b_1v3 : Int) (finev4 : Bool) (cv5 : Int) (s_1v5 : (Sl (Sl FluxRow))) : Bool :=
  (cond finev4
   (cond (cv5 != (0:Int))
    true
    (cond (!finev4)
     (cond (cv5 != (2:Int))
      true
      (p12_at6 s t bin thresholds opacity ev2 a_0v2 a_1v2 fv3 b_0v3 b_1v3 finev4 s_1v5))
     (p12_at6 s t bin thresholds opacity ev2 a_0v2 a_1v2 fv3 b_0v3 b_1v3 finev4 s_1v5)))
   (cond (!finev4)
    (cond (cv5 != (2:Int))
     true
     (p12_at6 s t bin thresholds opacity ev2 a_0v2 a_1v2 fv3 b_0v3 b_1v3 finev4 s_1v5))
    (p12_at6 s t bin thresholds opacity ev2 a_0v2 a_1v2 fv3 b_0v3 b_1v3 finev4 s_1v5)))
theorem q12_at5 (K : List PA → Prop) (s : Sky) (t : (Sl RangeRow)) (bin : Int) (thresholds : Span) (opacity : Int) (ev2 : Int) (a_0v2 : Int) (a_1v2 : Int) (fv3 : Int) (b_0v3 : Int) (b_1v3 : Int) (finev4 : Bool) (cv5 : Int) (s_1v5 : (Sl (Sl FluxRow))) (s_1v5_g : Nat → List PV) (s_1v5_h : s_1v5_g = fun i => enc_32 (s_1v5.get i)) (hs : p12_at5 s t bin thresholds opacity ev2 a_0v2 a_1v2 fv3 b_0v3 b_1v3 finev4 cv5 s_1v5 = true) (hk : K (e12 (s12_at5 s t bin thresholds opacity ev2 a_0v2 a_1v2 fv3 b_0v3 b_1v3 finev4 cv5 s_1v5))) : f12_at5 K s t bin thresholds opacity ev2 a_0v2 a_1v2 fv3 b_0v3 b_1v3 finev4 cv5 s_1v5.len s_1v5_g := by
  subst s_1v5_h
  refine ofEq (f12_eq5 K s t bin thresholds opacity ev2 a_0v2 a_1v2 fv3 b_0v3 b_1v3 finev4 cv5 s_1v5) ?_
  unfold p12_at5 at hs
  unfold s12_at5 at hk
  exact (condB_go (K := fun r => K (e12 r))
   (fun hs hk => (condB_go (K := fun r => K (e12 r))
    (fun hs hk => hk)
    (fun hs hk => (condB_go (K := fun r => K (e12 r))
     (fun hs hk => (condB_go (K := fun r => K (e12 r))
      (fun hs hk => hk)
      (fun hs hk => (q12_at6 K s t bin thresholds opacity ev2 a_0v2 a_1v2 fv3 b_0v3 b_1v3 finev4 s_1v5 (fun i => enc_32 (s_1v5.get i)) rfl hs hk)) hs hk))
     (fun hs hk => (q12_at6 K s t bin thresholds opacity ev2 a_0v2 a_1v2 fv3 b_0v3 b_1v3 finev4 s_1v5 (fun i => enc_32 (s_1v5.get i)) rfl hs hk)) hs hk)) hs hk))
   (fun hs hk => (condB_go (K := fun r => K (e12 r))
    (fun hs hk => (condB_go (K := fun r => K (e12 r))
     (fun hs hk => hk)
     (fun hs hk => (q12_at6 K s t bin thresholds opacity ev2 a_0v2 a_1v2 fv3 b_0v3 b_1v3 finev4 s_1v5 (fun i => enc_32 (s_1v5.get i)) rfl hs hk)) hs hk))
    (fun hs hk => (q12_at6 K s t bin thresholds opacity ev2 a_0v2 a_1v2 fv3 b_0v3 b_1v3 finev4 s_1v5 (fun i => enc_32 (s_1v5.get i)) rfl hs hk)) hs hk)) hs hk)
def s12_at4 (s : Sky) (t : (Sl RangeRow)) (bin : Int) (thresholds : Span) (opacity : Int) (ev2 : Int) (a_0v2 : Int) (a_1v2 : Int) (fv3 : Int) (b_0v3 : Int) (b_1v3 : Int) (finev4 : Bool) (s_1v4 : (Sl (Sl FluxRow))) : Bool :=
  (s12_at5 s t bin thresholds opacity ev2 a_0v2 a_1v2 fv3 b_0v3 b_1v3 finev4 (s41 (⟨s.Parts, s_1v4, s.Beta, s.Alpha⟩ : Sky)) s_1v4)
def p12_at4 (s : Sky) (t : (Sl RangeRow)) (bin : Int) (thresholds : Span) (opacity : Int) (ev2 : Int) (a_0v2 : Int) (a_1v2 : Int) (fv3 : Int) (b_0v3 : Int) (b_1v3 : Int) (finev4 : Bool) (s_1v4 : (Sl (Sl FluxRow))) : Bool :=
  (decide ((p41 (⟨s.Parts, s_1v4, s.Beta, s.Alpha⟩ : Sky) = true)) &&
  (p12_at5 s t bin thresholds opacity ev2 a_0v2 a_1v2 fv3 b_0v3 b_1v3 finev4 (s41 (⟨s.Parts, s_1v4, s.Beta, s.Alpha⟩ : Sky)) s_1v4))
theorem q12_at4 (K : List PA → Prop) (s : Sky) (t : (Sl RangeRow)) (bin : Int) (thresholds : Span) (opacity : Int) (ev2 : Int) (a_0v2 : Int) (a_1v2 : Int) (fv3 : Int) (b_0v3 : Int) (b_1v3 : Int) (finev4 : Bool) (s_1v4 : (Sl (Sl FluxRow))) (s_1v4_g : Nat → List PV) (s_1v4_h : s_1v4_g = fun i => enc_32 (s_1v4.get i)) (hs : p12_at4 s t bin thresholds opacity ev2 a_0v2 a_1v2 fv3 b_0v3 b_1v3 finev4 s_1v4 = true) (hk : K (e12 (s12_at4 s t bin thresholds opacity ev2 a_0v2 a_1v2 fv3 b_0v3 b_1v3 finev4 s_1v4))) : f12_at4 K s t bin thresholds opacity ev2 a_0v2 a_1v2 fv3 b_0v3 b_1v3 finev4 s_1v4.len s_1v4_g := by
  subst s_1v4_h
  refine ofEq (f12_eq4 K s t bin thresholds opacity ev2 a_0v2 a_1v2 fv3 b_0v3 b_1v3 finev4 s_1v4) ?_
  unfold p12_at4 at hs
  unfold s12_at4 at hk
  exact (andK hs fun hc hs => ⟨⟨isE, hc⟩, (q12_at5 K s t bin thresholds opacity ev2 a_0v2 a_1v2 fv3 b_0v3 b_1v3 finev4 (s41 (⟨s.Parts, s_1v4, s.Beta, s.Alpha⟩ : Sky)) s_1v4 (fun i => enc_32 (s_1v4.get i)) rfl hs hk)⟩)
def s12_at3 (s : Sky) (t : (Sl RangeRow)) (bin : Int) (thresholds : Span) (opacity : Int) (ev2 : Int) (a_0v2 : Int) (a_1v2 : Int) (fv3 : Int) (s_1v3 : (Sl (Sl FluxRow))) (b_0v3 : Int) (b_1v3 : Int) : Bool :=
  (s12_at4 s t bin thresholds opacity ev2 a_0v2 a_1v2 fv3 b_0v3 b_1v3 (s16 (⟨s.Parts, s_1v3, s.Beta, s.Alpha⟩ : Sky)) s_1v3)
def p12_at3 (s : Sky) (t : (Sl RangeRow)) (bin : Int) (thresholds : Span) (opacity : Int) (ev2 : Int) (a_0v2 : Int) (a_1v2 : Int) (fv3 : Int) (s_1v3 : (Sl (Sl FluxRow))) (b_0v3 : Int) (b_1v3 : Int) : Bool :=
  (decide ((p16 (⟨s.Parts, s_1v3, s.Beta, s.Alpha⟩ : Sky) = true)) &&
  (p12_at4 s t bin thresholds opacity ev2 a_0v2 a_1v2 fv3 b_0v3 b_1v3 (s16 (⟨s.Parts, s_1v3, s.Beta, s.Alpha⟩ : Sky)) s_1v3))
theorem q12_at3 (K : List PA → Prop) (s : Sky) (t : (Sl RangeRow)) (bin : Int) (thresholds : Span) (opacity : Int) (ev2 : Int) (a_0v2 : Int) (a_1v2 : Int) (fv3 : Int) (s_1v3 : (Sl (Sl FluxRow))) (b_0v3 : Int) (b_1v3 : Int) (s_1v3_g : Nat → List PV) (s_1v3_h : s_1v3_g = fun i => enc_32 (s_1v3.get i)) (hs : p12_at3 s t bin thresholds opacity ev2 a_0v2 a_1v2 fv3 s_1v3 b_0v3 b_1v3 = true) (hk : K (e12 (s12_at3 s t bin thresholds opacity ev2 a_0v2 a_1v2 fv3 s_1v3 b_0v3 b_1v3))) : f12_at3 K s t bin thresholds opacity ev2 a_0v2 a_1v2 fv3 s_1v3.len s_1v3_g b_0v3 b_1v3 := by
  subst s_1v3_h
  refine ofEq (f12_eq3 K s t bin thresholds opacity ev2 a_0v2 a_1v2 fv3 s_1v3 b_0v3 b_1v3) ?_
  unfold p12_at3 at hs
  unfold s12_at3 at hk
  exact (andK hs fun hc hs => ⟨⟨isE, hc⟩, (q12_at4 K s t bin thresholds opacity ev2 a_0v2 a_1v2 fv3 b_0v3 b_1v3 (s16 (⟨s.Parts, s_1v3, s.Beta, s.Alpha⟩ : Sky)) s_1v3 (fun i => enc_32 (s_1v3.get i)) rfl hs hk)⟩)
def s12_at2 (s : Sky) (t : (Sl RangeRow)) (bin : Int) (thresholds : Span) (opacity : Int) (ev2 : Int) (s_1v2 : (Sl (Sl FluxRow))) (a_0v2 : Int) (a_1v2 : Int) : Bool :=
  (s12_at3 s t bin thresholds opacity ev2 a_0v2 a_1v2 ((s20 (⟨s.Parts, s_1v2, s.Beta, s.Alpha⟩ : Sky) t bin opacity).2) s_1v2 (((s20 (⟨s.Parts, s_1v2, s.Beta, s.Alpha⟩ : Sky) t bin opacity).1).Low) (((s20 (⟨s.Parts, s_1v2, s.Beta, s.Alpha⟩ : Sky) t bin opacity).1).High))
def p12_at2 (s : Sky) (t : (Sl RangeRow)) (bin : Int) (thresholds : Span) (opacity : Int) (ev2 : Int) (s_1v2 : (Sl (Sl FluxRow))) (a_0v2 : Int) (a_1v2 : Int) : Bool :=
  (decide ((p20 (⟨s.Parts, s_1v2, s.Beta, s.Alpha⟩ : Sky) t bin opacity = true)) &&
  (p12_at3 s t bin thresholds opacity ev2 a_0v2 a_1v2 ((s20 (⟨s.Parts, s_1v2, s.Beta, s.Alpha⟩ : Sky) t bin opacity).2) s_1v2 (((s20 (⟨s.Parts, s_1v2, s.Beta, s.Alpha⟩ : Sky) t bin opacity).1).Low) (((s20 (⟨s.Parts, s_1v2, s.Beta, s.Alpha⟩ : Sky) t bin opacity).1).High)))
theorem q12_at2 (K : List PA → Prop) (s : Sky) (t : (Sl RangeRow)) (bin : Int) (thresholds : Span) (opacity : Int) (ev2 : Int) (s_1v2 : (Sl (Sl FluxRow))) (a_0v2 : Int) (a_1v2 : Int) (s_1v2_g : Nat → List PV) (s_1v2_h : s_1v2_g = fun i => enc_32 (s_1v2.get i)) (hs : p12_at2 s t bin thresholds opacity ev2 s_1v2 a_0v2 a_1v2 = true) (hk : K (e12 (s12_at2 s t bin thresholds opacity ev2 s_1v2 a_0v2 a_1v2))) : f12_at2 K s t bin thresholds opacity ev2 s_1v2.len s_1v2_g a_0v2 a_1v2 := by
  subst s_1v2_h
  refine ofEq (f12_eq2 K s t bin thresholds opacity ev2 s_1v2 a_0v2 a_1v2) ?_
  unfold p12_at2 at hs
  unfold s12_at2 at hk
  exact (andK hs fun hc hs => ⟨⟨isE, isE, hc⟩, (q12_at3 K s t bin thresholds opacity ev2 a_0v2 a_1v2 ((s20 (⟨s.Parts, s_1v2, s.Beta, s.Alpha⟩ : Sky) t bin opacity).2) s_1v2 (((s20 (⟨s.Parts, s_1v2, s.Beta, s.Alpha⟩ : Sky) t bin opacity).1).Low) (((s20 (⟨s.Parts, s_1v2, s.Beta, s.Alpha⟩ : Sky) t bin opacity).1).High) (fun i => enc_32 (s_1v2.get i)) rfl hs hk)⟩)
def s12_at1 (s : Sky) (t : (Sl RangeRow)) (bin : Int) (thresholds : Span) (opacity : Int) (s_1v1 : (Sl (Sl FluxRow))) : Bool :=
  (s12_at2 s t bin thresholds opacity ((s44 (⟨s.Parts, s_1v1, s.Beta, s.Alpha⟩ : Sky) bin thresholds).2) s_1v1 (((s44 (⟨s.Parts, s_1v1, s.Beta, s.Alpha⟩ : Sky) bin thresholds).1).Low) (((s44 (⟨s.Parts, s_1v1, s.Beta, s.Alpha⟩ : Sky) bin thresholds).1).High))
def p12_at1 (s : Sky) (t : (Sl RangeRow)) (bin : Int) (thresholds : Span) (opacity : Int) (s_1v1 : (Sl (Sl FluxRow))) : Bool :=
  (decide ((p44 (⟨s.Parts, s_1v1, s.Beta, s.Alpha⟩ : Sky) bin thresholds = true)) &&
  (p12_at2 s t bin thresholds opacity ((s44 (⟨s.Parts, s_1v1, s.Beta, s.Alpha⟩ : Sky) bin thresholds).2) s_1v1 (((s44 (⟨s.Parts, s_1v1, s.Beta, s.Alpha⟩ : Sky) bin thresholds).1).Low) (((s44 (⟨s.Parts, s_1v1, s.Beta, s.Alpha⟩ : Sky) bin thresholds).1).High)))
theorem q12_at1 (K : List PA → Prop) (s : Sky) (t : (Sl RangeRow)) (bin : Int) (thresholds : Span) (opacity : Int) (s_1v1 : (Sl (Sl FluxRow))) (s_1v1_g : Nat → List PV) (s_1v1_h : s_1v1_g = fun i => enc_32 (s_1v1.get i)) (hs : p12_at1 s t bin thresholds opacity s_1v1 = true) (hk : K (e12 (s12_at1 s t bin thresholds opacity s_1v1))) : f12_at1 K s t bin thresholds opacity s_1v1.len s_1v1_g := by
  subst s_1v1_h
  refine ofEq (f12_eq1 K s t bin thresholds opacity s_1v1) ?_
  unfold p12_at1 at hs
  unfold s12_at1 at hk
  exact (andK hs fun hc hs => ⟨⟨isE, hc⟩, (q12_at2 K s t bin thresholds opacity ((s44 (⟨s.Parts, s_1v1, s.Beta, s.Alpha⟩ : Sky) bin thresholds).2) s_1v1 (((s44 (⟨s.Parts, s_1v1, s.Beta, s.Alpha⟩ : Sky) bin thresholds).1).Low) (((s44 (⟨s.Parts, s_1v1, s.Beta, s.Alpha⟩ : Sky) bin thresholds).1).High) (fun i => enc_32 (s_1v1.get i)) rfl hs hk)⟩)
def s12_at0 (s : Sky) (t : (Sl RangeRow)) (bin : Int) (thresholds : Span) (opacity : Int) (t21v0 : Bool) (s_1v0 : (Sl (Sl FluxRow))) : Bool :=
  (cond t21v0
   true
   (s12_at1 s t bin thresholds opacity s_1v0))
def p12_at0 (s : Sky) (t : (Sl RangeRow)) (bin : Int) (thresholds : Span) (opacity : Int) (t21v0 : Bool) (s_1v0 : (Sl (Sl FluxRow))) : Bool :=
  (cond t21v0
   true
   (p12_at1 s t bin thresholds opacity s_1v0))
theorem q12_at0 (K : List PA → Prop) (s : Sky) (t : (Sl RangeRow)) (bin : Int) (thresholds : Span) (opacity : Int) (t21v0 : Bool) (s_1v0 : (Sl (Sl FluxRow))) (s_1v0_g : Nat → List PV) (s_1v0_h : s_1v0_g = fun i => enc_32 (s_1v0.get i)) (hs : p12_at0 s t bin thresholds opacity t21v0 s_1v0 = true) (hk : K (e12 (s12_at0 s t bin thresholds opacity t21v0 s_1v0))) : f12_at0 K s t bin thresholds opacity t21v0 s_1v0.len s_1v0_g := by
  subst s_1v0_h
  refine ofEq (f12_eq0 K s t bin thresholds opacity t21v0 s_1v0) ?_
  unfold p12_at0 at hs
  unfold s12_at0 at hk
  exact (condB_go (K := fun r => K (e12 r))
   (fun hs hk => hk)
   (fun hs hk => (q12_at1 K s t bin thresholds opacity s_1v0 (fun i => enc_32 (s_1v0.get i)) rfl hs hk)) hs hk)
def s12 (s : Sky) (t : (Sl RangeRow)) (bin : Int) (thresholds : Span) (opacity : Int) : Bool :=
  (s12_at0 s t bin thresholds opacity (!(s15 s t)) s.Bins)
def p12 (s : Sky) (t : (Sl RangeRow)) (bin : Int) (thresholds : Span) (opacity : Int) : Bool :=
  (decide ((p15 s t = true)) &&
  (p12_at0 s t bin thresholds opacity (!(s15 s t)) s.Bins))
theorem q12 (s : Sky) (t : (Sl RangeRow)) (bin : Int) (thresholds : Span) (opacity : Int) (K : List PA → Prop) (hs : p12 s t bin thresholds opacity = true) (hk : K (e12 (s12 s t bin thresholds opacity))) : vcFun Try.prog G12 ann12 12 [.agg [.int .i64 s.Parts, .sl s.Bins.len 1 (fun i => enc_32 (s.Bins.get i)), .int .i64 s.Beta.Low, .int .i64 s.Beta.High, .int .i64 s.Alpha.Low, .int .i64 s.Alpha.High], .one (.sl t.len 3 (fun i => enc_42 (t.get i))), .one (.int .i64 bin), .agg [.int .i64 thresholds.Low, .int .i64 thresholds.High], .one (.int .i64 opacity)] K := by
  refine ofEq (f12_top s t bin thresholds opacity K) ?_
  unfold p12 at hs
  unfold s12 at hk
  exact (andK hs fun hc hs => ⟨⟨isE, isE, hc⟩, (q12_at0 K s t bin thresholds opacity (!(s15 s t)) s.Bins (fun i => enc_32 (s.Bins.get i)) rfl hs hk)⟩)
def ctr12 : List PA → COut
  | [.agg [.int .i64 a0_Parts, .sl a0_Bins_n a0_Bins_s a0_Bins_g, .int .i64 a0_Beta_Low, .int .i64 a0_Beta_High, .int .i64 a0_Alpha_Low, .int .i64 a0_Alpha_High], .one (.sl a1_n a1_s a1_g), .one (.int .i64 a2), .agg [.int .i64 a3_Low, .int .i64 a3_High], .one (.int .i64 a4)] => .det (IsE enc_32 1 a0_Bins_s a0_Bins_g ∧ IsE enc_42 3 a1_s a1_g ∧ p12 (⟨a0_Parts, (⟨a0_Bins_n, decF_32 a0_Bins_g⟩ : (Sl (Sl FluxRow))), (⟨a0_Beta_Low, a0_Beta_High⟩ : Span), (⟨a0_Alpha_Low, a0_Alpha_High⟩ : Span)⟩ : Sky) (⟨a1_n, decF_42 a1_g⟩ : (Sl RangeRow)) a2 (⟨a3_Low, a3_High⟩ : Span) a4 = true) [.one (.bool (s12 (⟨a0_Parts, (⟨a0_Bins_n, decF_32 a0_Bins_g⟩ : (Sl (Sl FluxRow))), (⟨a0_Beta_Low, a0_Beta_High⟩ : Span), (⟨a0_Alpha_Low, a0_Alpha_High⟩ : Span)⟩ : Sky) (⟨a1_n, decF_42 a1_g⟩ : (Sl RangeRow)) a2 (⟨a3_Low, a3_High⟩ : Span) a4))]
  | _ => .no
theorem call12 : Callable Try.prog 12 := ⟨_, rfl, rfl, by kernel_rfl⟩
theorem ok12 : Ok Try.prog 12 ctr12 := ok_tab okT12 call12 fun args K h => by
  unfold ctr12 at h
  split at h
  · rename_i a0_Parts a0_Bins_n a0_Bins_s a0_Bins_g a0_Beta_Low a0_Beta_High a0_Alpha_Low a0_Alpha_High a1_n a1_s a1_g a2 a3_Low a3_High a4
    obtain ⟨⟨⟨rfl, a0_Bins_f, rfl⟩, ⟨rfl, a1_f, rfl⟩, hs⟩, hk⟩ := h
    try rw [decF_enc_32 a0_Bins_f] at hs
    try rw [decF_enc_32 a0_Bins_f] at hk
    try rw [decF_enc_42 a1_f] at hs
    try rw [decF_enc_42 a1_f] at hk
    exact ⟨(fun _ _ => []), (fun _ => false), ann12, q12 (⟨a0_Parts, (⟨a0_Bins_n, a0_Bins_f⟩ : (Sl (Sl FluxRow))), (⟨a0_Beta_Low, a0_Beta_High⟩ : Span), (⟨a0_Alpha_Low, a0_Alpha_High⟩ : Span)⟩ : Sky) (⟨a1_n, a1_f⟩ : (Sl RangeRow)) a2 (⟨a3_Low, a3_High⟩ : Span) a4 K hs hk⟩
  · exact h.elim
end Go.Proofs
namespace Go.Proofs
open Go Go.Pm
set_option maxRecDepth 100000
set_option linter.unusedVariables false
attribute [local irreducible] Go.Pm.vcFun Go.Pm.vc Go.Pm.vcIter
theorem C_3 : Try.prog.cellsOf 3 = 1 := by kernel_rfl
theorem C_4 : Try.prog.cellsOf 4 = 1 := by kernel_rfl
theorem C_22 : Try.prog.cellsOf 22 = 1 := by kernel_rfl
theorem C_24 : Try.prog.cellsOf 24 = 2 := by kernel_rfl
theorem C_26 : Try.prog.cellsOf 26 = 6 := by kernel_rfl
theorem C_27 : Try.prog.cellsOf 27 = 1 := by kernel_rfl
theorem C_32 : Try.prog.cellsOf 32 = 1 := by kernel_rfl
theorem C_37 : Try.prog.cellsOf 37 = 1 := by kernel_rfl
theorem C_39 : Try.prog.cellsOf 39 = 3 := by kernel_rfl
theorem C_42 : Try.prog.cellsOf 42 = 3 := by kernel_rfl
theorem C_44 : Try.prog.cellsOf 44 = 3 := by kernel_rfl
theorem C_46 : Try.prog.cellsOf 46 = 1 := by kernel_rfl
theorem C_47 : Try.prog.cellsOf 47 = 1 := by kernel_rfl
theorem C_52 : Try.prog.cellsOf 52 = 2 := by kernel_rfl
theorem C_54 : Try.prog.cellsOf 54 = 4 := by kernel_rfl
theorem C_56 : Try.prog.cellsOf 56 = 5 := by kernel_rfl
theorem C_97 : Try.prog.cellsOf 97 = 1 := by kernel_rfl
theorem C_129 : Try.prog.cellsOf 129 = 3 := by kernel_rfl
abbrev wf_3 (x : Int) : Prop := wfI x
theorem rd_3 {H : Type} {en : TypeId × Value → H} {w : World} {sp : Nat → Bool} {held : Bool} : Rd H en Try.prog w sp held 3 enc_3 wf_3 := rd_int Try.underlying3
def wf_24 (x : Span) : Prop := wf_3 x.Low ∧ wf_3 x.High
theorem rd_24 {H : Type} {en : TypeId × Value → H} {w : World} {sp : Nat → Bool} {held : Bool} : Rd H en Try.prog w sp held 24 enc_24 wf_24 := by
  intro fuel cs x h
  obtain ⟨hl, hf⟩ := rd_struct Try.underlying24 h
  rw [C_24] at hl
  obtain ⟨n0, y0, g0⟩ := hf 0 _ rfl
  have g0 : DataW.trod en Try.prog w 0 sp held n0 3 ((cs.drop 0).take (Try.prog.cellsOf 3)) = some y0 := g0
  rw [C_3] at g0
  obtain ⟨a0, r0, w0⟩ := rd_3 _ _ _ g0
  obtain ⟨n1, y1, g1⟩ := hf 1 _ rfl
  have g1 : DataW.trod en Try.prog w 0 sp held n1 3 ((cs.drop 1).take (Try.prog.cellsOf 3)) = some y1 := g1
  rw [C_3] at g1
  obtain ⟨a1, r1, w1⟩ := rd_3 _ _ _ g1
  have z : cs.drop 2 = [] := List.drop_eq_nil_of_le (by omega)
  have R := (r0.append (r1.append (show RL (Rep (H0 w)) [] (cs.drop 2) by rw [z]; exact rl_n)))
  rw [← (show cs.drop 1 = (cs.drop 1).take 1 ++ cs.drop 2 from split_drop cs 1 1)] at R
  rw [← (show cs.drop 0 = (cs.drop 0).take 1 ++ cs.drop 1 from split_drop cs 0 1)] at R
  exact ⟨⟨a0, a1⟩, R, ⟨w0, w1⟩⟩
def wf_44 (x : FluxRow) : Prop := wf_3 x.Energy ∧ wf_24 x.Rate
theorem rd_44 {H : Type} {en : TypeId × Value → H} {w : World} {sp : Nat → Bool} {held : Bool} : Rd H en Try.prog w sp held 44 enc_44 wf_44 := by
  intro fuel cs x h
  obtain ⟨hl, hf⟩ := rd_struct Try.underlying44 h
  rw [C_44] at hl
  obtain ⟨n0, y0, g0⟩ := hf 0 _ rfl
  have g0 : DataW.trod en Try.prog w 0 sp held n0 3 ((cs.drop 0).take (Try.prog.cellsOf 3)) = some y0 := g0
  rw [C_3] at g0
  obtain ⟨a0, r0, w0⟩ := rd_3 _ _ _ g0
  obtain ⟨n1, y1, g1⟩ := hf 1 _ rfl
  have g1 : DataW.trod en Try.prog w 0 sp held n1 24 ((cs.drop 1).take (Try.prog.cellsOf 24)) = some y1 := g1
  rw [C_24] at g1
  obtain ⟨a1, r1, w1⟩ := rd_24 _ _ _ g1
  have z : cs.drop 3 = [] := List.drop_eq_nil_of_le (by omega)
  have R := (r0.append (r1.append (show RL (Rep (H0 w)) [] (cs.drop 3) by rw [z]; exact rl_n)))
  rw [← (show cs.drop 1 = (cs.drop 1).take 2 ++ cs.drop 3 from split_drop cs 1 2)] at R
  rw [← (show cs.drop 0 = (cs.drop 0).take 1 ++ cs.drop 1 from split_drop cs 0 1)] at R
  exact ⟨⟨a0, a1⟩, R, ⟨w0, w1⟩⟩
def wf_32 (x : (Sl FluxRow)) : Prop := x.len ≤ 9223372036854775807 ∧ ∀ i, i < x.len → wf_44 (x.get i)
theorem rd_32 {H : Type} {en : TypeId × Value → H} {w : World} {sp : Nat → Bool} {held : Bool} : Rd H en Try.prog w sp held 32 enc_32 wf_32 := rd_slice Try.underlying32 C_44 (by decide) (fun _ => rfl) rd_44
def wf_22 (x : (Sl (Sl FluxRow))) : Prop := x.len ≤ 9223372036854775807 ∧ ∀ i, i < x.len → wf_32 (x.get i)
theorem rd_22 {H : Type} {en : TypeId × Value → H} {w : World} {sp : Nat → Bool} {held : Bool} : Rd H en Try.prog w sp held 22 enc_22 wf_22 := rd_slice Try.underlying22 C_32 (by decide) (fun _ => rfl) rd_32
def wf_26 (x : Sky) : Prop := wf_3 x.Parts ∧ wf_22 x.Bins ∧ wf_24 x.Beta ∧ wf_24 x.Alpha
theorem rd_26 {H : Type} {en : TypeId × Value → H} {w : World} {sp : Nat → Bool} {held : Bool} : Rd H en Try.prog w sp held 26 enc_26 wf_26 := by
  intro fuel cs x h
  obtain ⟨hl, hf⟩ := rd_struct Try.underlying26 h
  rw [C_26] at hl
  obtain ⟨n0, y0, g0⟩ := hf 0 _ rfl
  have g0 : DataW.trod en Try.prog w 0 sp held n0 3 ((cs.drop 0).take (Try.prog.cellsOf 3)) = some y0 := g0
  rw [C_3] at g0
  obtain ⟨a0, r0, w0⟩ := rd_3 _ _ _ g0
  obtain ⟨n1, y1, g1⟩ := hf 1 _ rfl
  have g1 : DataW.trod en Try.prog w 0 sp held n1 22 ((cs.drop 1).take (Try.prog.cellsOf 22)) = some y1 := g1
  rw [C_22] at g1
  obtain ⟨a1, r1, w1⟩ := rd_22 _ _ _ g1
  obtain ⟨n2, y2, g2⟩ := hf 2 _ rfl
  have g2 : DataW.trod en Try.prog w 0 sp held n2 24 ((cs.drop 2).take (Try.prog.cellsOf 24)) = some y2 := g2
  rw [C_24] at g2
  obtain ⟨a2, r2, w2⟩ := rd_24 _ _ _ g2
  obtain ⟨n3, y3, g3⟩ := hf 3 _ rfl
  have g3 : DataW.trod en Try.prog w 0 sp held n3 24 ((cs.drop 4).take (Try.prog.cellsOf 24)) = some y3 := g3
  rw [C_24] at g3
  obtain ⟨a3, r3, w3⟩ := rd_24 _ _ _ g3
  have z : cs.drop 6 = [] := List.drop_eq_nil_of_le (by omega)
  have R := (r0.append (r1.append (r2.append (r3.append (show RL (Rep (H0 w)) [] (cs.drop 6) by rw [z]; exact rl_n)))))
  rw [← (show cs.drop 4 = (cs.drop 4).take 2 ++ cs.drop 6 from split_drop cs 4 2)] at R
  rw [← (show cs.drop 2 = (cs.drop 2).take 2 ++ cs.drop 4 from split_drop cs 2 2)] at R
  rw [← (show cs.drop 1 = (cs.drop 1).take 1 ++ cs.drop 2 from split_drop cs 1 1)] at R
  rw [← (show cs.drop 0 = (cs.drop 0).take 1 ++ cs.drop 1 from split_drop cs 0 1)] at R
  exact ⟨⟨a0, a1, a2, a3⟩, R, ⟨w0, w1, w2, w3⟩⟩
def wf_42 (x : RangeRow) : Prop := wf_3 x.Energy ∧ wf_24 x.Range
theorem rd_42 {H : Type} {en : TypeId × Value → H} {w : World} {sp : Nat → Bool} {held : Bool} : Rd H en Try.prog w sp held 42 enc_42 wf_42 := by
  intro fuel cs x h
  obtain ⟨hl, hf⟩ := rd_struct Try.underlying42 h
  rw [C_42] at hl
  obtain ⟨n0, y0, g0⟩ := hf 0 _ rfl
  have g0 : DataW.trod en Try.prog w 0 sp held n0 3 ((cs.drop 0).take (Try.prog.cellsOf 3)) = some y0 := g0
  rw [C_3] at g0
  obtain ⟨a0, r0, w0⟩ := rd_3 _ _ _ g0
  obtain ⟨n1, y1, g1⟩ := hf 1 _ rfl
  have g1 : DataW.trod en Try.prog w 0 sp held n1 24 ((cs.drop 1).take (Try.prog.cellsOf 24)) = some y1 := g1
  rw [C_24] at g1
  obtain ⟨a1, r1, w1⟩ := rd_24 _ _ _ g1
  have z : cs.drop 3 = [] := List.drop_eq_nil_of_le (by omega)
  have R := (r0.append (r1.append (show RL (Rep (H0 w)) [] (cs.drop 3) by rw [z]; exact rl_n)))
  rw [← (show cs.drop 1 = (cs.drop 1).take 2 ++ cs.drop 3 from split_drop cs 1 2)] at R
  rw [← (show cs.drop 0 = (cs.drop 0).take 1 ++ cs.drop 1 from split_drop cs 0 1)] at R
  exact ⟨⟨a0, a1⟩, R, ⟨w0, w1⟩⟩
def wf_27 (x : (Sl RangeRow)) : Prop := x.len ≤ 9223372036854775807 ∧ ∀ i, i < x.len → wf_42 (x.get i)
theorem rd_27 {H : Type} {en : TypeId × Value → H} {w : World} {sp : Nat → Bool} {held : Bool} : Rd H en Try.prog w sp held 27 enc_27 wf_27 := rd_slice Try.underlying27 C_42 (by decide) (fun _ => rfl) rd_42
def wf_37 (x : (Sl Int)) : Prop := x.len ≤ 9223372036854775807 ∧ ∀ i, i < x.len → wf_3 (x.get i)
theorem rd_37 {H : Type} {en : TypeId × Value → H} {w : World} {sp : Nat → Bool} {held : Bool} : Rd H en Try.prog w sp held 37 enc_37 wf_37 := rd_slice Try.underlying37 C_3 (by decide) (fun _ => rfl) rd_3
abbrev wf_4 (_ : Bool) : Prop := True
theorem rd_4 {H : Type} {en : TypeId × Value → H} {w : World} {sp : Nat → Bool} {held : Bool} : Rd H en Try.prog w sp held 4 enc_4 wf_4 := rd_bool Try.underlying4
def wf_39 (x : Nature) : Prop := wf_37 x.Ranges ∧ wf_37 x.Rates ∧ wf_4 x.Soon
theorem rd_39 {H : Type} {en : TypeId × Value → H} {w : World} {sp : Nat → Bool} {held : Bool} : Rd H en Try.prog w sp held 39 enc_39 wf_39 := by
  intro fuel cs x h
  obtain ⟨hl, hf⟩ := rd_struct Try.underlying39 h
  rw [C_39] at hl
  obtain ⟨n0, y0, g0⟩ := hf 0 _ rfl
  have g0 : DataW.trod en Try.prog w 0 sp held n0 37 ((cs.drop 0).take (Try.prog.cellsOf 37)) = some y0 := g0
  rw [C_37] at g0
  obtain ⟨a0, r0, w0⟩ := rd_37 _ _ _ g0
  obtain ⟨n1, y1, g1⟩ := hf 1 _ rfl
  have g1 : DataW.trod en Try.prog w 0 sp held n1 37 ((cs.drop 1).take (Try.prog.cellsOf 37)) = some y1 := g1
  rw [C_37] at g1
  obtain ⟨a1, r1, w1⟩ := rd_37 _ _ _ g1
  obtain ⟨n2, y2, g2⟩ := hf 2 _ rfl
  have g2 : DataW.trod en Try.prog w 0 sp held n2 4 ((cs.drop 2).take (Try.prog.cellsOf 4)) = some y2 := g2
  rw [C_4] at g2
  obtain ⟨a2, r2, w2⟩ := rd_4 _ _ _ g2
  have z : cs.drop 3 = [] := List.drop_eq_nil_of_le (by omega)
  have R := (r0.append (r1.append (r2.append (show RL (Rep (H0 w)) [] (cs.drop 3) by rw [z]; exact rl_n))))
  rw [← (show cs.drop 2 = (cs.drop 2).take 1 ++ cs.drop 3 from split_drop cs 2 1)] at R
  rw [← (show cs.drop 1 = (cs.drop 1).take 1 ++ cs.drop 2 from split_drop cs 1 1)] at R
  rw [← (show cs.drop 0 = (cs.drop 0).take 1 ++ cs.drop 1 from split_drop cs 0 1)] at R
  exact ⟨⟨a0, a1, a2⟩, R, ⟨w0, w1, w2⟩⟩
def wf_54 (x : Weather) : Prop := wf_24 x.Pressure ∧ wf_24 x.Warm
theorem rd_54 {H : Type} {en : TypeId × Value → H} {w : World} {sp : Nat → Bool} {held : Bool} : Rd H en Try.prog w sp held 54 enc_54 wf_54 := by
  intro fuel cs x h
  obtain ⟨hl, hf⟩ := rd_struct Try.underlying54 h
  rw [C_54] at hl
  obtain ⟨n0, y0, g0⟩ := hf 0 _ rfl
  have g0 : DataW.trod en Try.prog w 0 sp held n0 24 ((cs.drop 0).take (Try.prog.cellsOf 24)) = some y0 := g0
  rw [C_24] at g0
  obtain ⟨a0, r0, w0⟩ := rd_24 _ _ _ g0
  obtain ⟨n1, y1, g1⟩ := hf 1 _ rfl
  have g1 : DataW.trod en Try.prog w 0 sp held n1 24 ((cs.drop 2).take (Try.prog.cellsOf 24)) = some y1 := g1
  rw [C_24] at g1
  obtain ⟨a1, r1, w1⟩ := rd_24 _ _ _ g1
  have z : cs.drop 4 = [] := List.drop_eq_nil_of_le (by omega)
  have R := (r0.append (r1.append (show RL (Rep (H0 w)) [] (cs.drop 4) by rw [z]; exact rl_n)))
  rw [← (show cs.drop 2 = (cs.drop 2).take 2 ++ cs.drop 4 from split_drop cs 2 2)] at R
  rw [← (show cs.drop 0 = (cs.drop 0).take 2 ++ cs.drop 2 from split_drop cs 0 2)] at R
  exact ⟨⟨a0, a1⟩, R, ⟨w0, w1⟩⟩
def wf_56 (x : Spell) : Prop := wf_3 x.Slots ∧ wf_54 x.Weather
theorem rd_56 {H : Type} {en : TypeId × Value → H} {w : World} {sp : Nat → Bool} {held : Bool} : Rd H en Try.prog w sp held 56 enc_56 wf_56 := by
  intro fuel cs x h
  obtain ⟨hl, hf⟩ := rd_struct Try.underlying56 h
  rw [C_56] at hl
  obtain ⟨n0, y0, g0⟩ := hf 0 _ rfl
  have g0 : DataW.trod en Try.prog w 0 sp held n0 3 ((cs.drop 0).take (Try.prog.cellsOf 3)) = some y0 := g0
  rw [C_3] at g0
  obtain ⟨a0, r0, w0⟩ := rd_3 _ _ _ g0
  obtain ⟨n1, y1, g1⟩ := hf 1 _ rfl
  have g1 : DataW.trod en Try.prog w 0 sp held n1 54 ((cs.drop 1).take (Try.prog.cellsOf 54)) = some y1 := g1
  rw [C_54] at g1
  obtain ⟨a1, r1, w1⟩ := rd_54 _ _ _ g1
  have z : cs.drop 5 = [] := List.drop_eq_nil_of_le (by omega)
  have R := (r0.append (r1.append (show RL (Rep (H0 w)) [] (cs.drop 5) by rw [z]; exact rl_n)))
  rw [← (show cs.drop 1 = (cs.drop 1).take 4 ++ cs.drop 5 from split_drop cs 1 4)] at R
  rw [← (show cs.drop 0 = (cs.drop 0).take 1 ++ cs.drop 1 from split_drop cs 0 1)] at R
  exact ⟨⟨a0, a1⟩, R, ⟨w0, w1⟩⟩
def wf_46 (x : (Sl Spell)) : Prop := x.len ≤ 9223372036854775807 ∧ ∀ i, i < x.len → wf_56 (x.get i)
theorem rd_46 {H : Type} {en : TypeId × Value → H} {w : World} {sp : Nat → Bool} {held : Bool} : Rd H en Try.prog w sp held 46 enc_46 wf_46 := rd_slice Try.underlying46 C_56 (by decide) (fun _ => rfl) rd_56
def wf_52 (x : Sample) : Prop := wf_3 x.Pressure ∧ wf_3 x.Warm
theorem rd_52 {H : Type} {en : TypeId × Value → H} {w : World} {sp : Nat → Bool} {held : Bool} : Rd H en Try.prog w sp held 52 enc_52 wf_52 := by
  intro fuel cs x h
  obtain ⟨hl, hf⟩ := rd_struct Try.underlying52 h
  rw [C_52] at hl
  obtain ⟨n0, y0, g0⟩ := hf 0 _ rfl
  have g0 : DataW.trod en Try.prog w 0 sp held n0 3 ((cs.drop 0).take (Try.prog.cellsOf 3)) = some y0 := g0
  rw [C_3] at g0
  obtain ⟨a0, r0, w0⟩ := rd_3 _ _ _ g0
  obtain ⟨n1, y1, g1⟩ := hf 1 _ rfl
  have g1 : DataW.trod en Try.prog w 0 sp held n1 3 ((cs.drop 1).take (Try.prog.cellsOf 3)) = some y1 := g1
  rw [C_3] at g1
  obtain ⟨a1, r1, w1⟩ := rd_3 _ _ _ g1
  have z : cs.drop 2 = [] := List.drop_eq_nil_of_le (by omega)
  have R := (r0.append (r1.append (show RL (Rep (H0 w)) [] (cs.drop 2) by rw [z]; exact rl_n)))
  rw [← (show cs.drop 1 = (cs.drop 1).take 1 ++ cs.drop 2 from split_drop cs 1 1)] at R
  rw [← (show cs.drop 0 = (cs.drop 0).take 1 ++ cs.drop 1 from split_drop cs 0 1)] at R
  exact ⟨⟨a0, a1⟩, R, ⟨w0, w1⟩⟩
def wf_47 (x : (Sl Sample)) : Prop := x.len ≤ 9223372036854775807 ∧ ∀ i, i < x.len → wf_52 (x.get i)
theorem rd_47 {H : Type} {en : TypeId × Value → H} {w : World} {sp : Nat → Bool} {held : Bool} : Rd H en Try.prog w sp held 47 enc_47 wf_47 := rd_slice Try.underlying47 C_52 (by decide) (fun _ => rfl) rd_52
def wf_129 (x : KinkRow) : Prop := wf_3 x.Opacity ∧ wf_24 x.Share
theorem rd_129 {H : Type} {en : TypeId × Value → H} {w : World} {sp : Nat → Bool} {held : Bool} : Rd H en Try.prog w sp held 129 enc_129 wf_129 := by
  intro fuel cs x h
  obtain ⟨hl, hf⟩ := rd_struct Try.underlying129 h
  rw [C_129] at hl
  obtain ⟨n0, y0, g0⟩ := hf 0 _ rfl
  have g0 : DataW.trod en Try.prog w 0 sp held n0 3 ((cs.drop 0).take (Try.prog.cellsOf 3)) = some y0 := g0
  rw [C_3] at g0
  obtain ⟨a0, r0, w0⟩ := rd_3 _ _ _ g0
  obtain ⟨n1, y1, g1⟩ := hf 1 _ rfl
  have g1 : DataW.trod en Try.prog w 0 sp held n1 24 ((cs.drop 1).take (Try.prog.cellsOf 24)) = some y1 := g1
  rw [C_24] at g1
  obtain ⟨a1, r1, w1⟩ := rd_24 _ _ _ g1
  have z : cs.drop 3 = [] := List.drop_eq_nil_of_le (by omega)
  have R := (r0.append (r1.append (show RL (Rep (H0 w)) [] (cs.drop 3) by rw [z]; exact rl_n)))
  rw [← (show cs.drop 1 = (cs.drop 1).take 2 ++ cs.drop 3 from split_drop cs 1 2)] at R
  rw [← (show cs.drop 0 = (cs.drop 0).take 1 ++ cs.drop 1 from split_drop cs 0 1)] at R
  exact ⟨⟨a0, a1⟩, R, ⟨w0, w1⟩⟩
def wf_97 (x : (Sl KinkRow)) : Prop := x.len ≤ 9223372036854775807 ∧ ∀ i, i < x.len → wf_129 (x.get i)
theorem rd_97 {H : Type} {en : TypeId × Value → H} {w : World} {sp : Nat → Bool} {held : Bool} : Rd H en Try.prog w sp held 97 enc_97 wf_97 := rd_slice Try.underlying97 C_129 (by decide) (fun _ => rfl) rd_129
end Go.Proofs
namespace Go.Proofs
open Go Go.Pm
set_option linter.unusedVariables false
theorem s63_eq (n lo hi : Int) : s63 n lo hi = decide (lo ≤ n ∧ n ≤ hi) := by
  unfold s63
  by_cases h1 : lo ≤ n <;> by_cases h2 : n ≤ hi <;> simp [h1, h2]
theorem s58_eq (n lo hi : Int) : s58 n lo hi = decide (lo ≤ n ∧ n ≤ hi) := by
  unfold s58
  by_cases h1 : lo ≤ n <;> by_cases h2 : n ≤ hi <;> simp [h1, h2]
theorem s69_eq (s : Span) (lo hi : Int) : s69 s lo hi = decide (lo ≤ s.Low ∧ s.Low ≤ s.High ∧ s.High ≤ hi) := by
  unfold s69
  rw [s63_eq]
  by_cases h1 : lo ≤ s.Low <;> by_cases h2 : s.Low ≤ s.High <;> by_cases h3 : s.High ≤ hi <;> simp [h1, h2, h3]
theorem s29_eq (s : Span) (lo hi : Int) : s29 s lo hi = decide (lo ≤ s.Low ∧ s.Low ≤ s.High ∧ s.High ≤ hi) := by
  unfold s29
  by_cases h1 : lo ≤ s.Low <;> by_cases h2 : s.Low ≤ s.High <;> by_cases h3 : s.High ≤ hi <;> simp [h1, h2, h3]
theorem s94_eq (a b : Span) : s94 a b = decide (a.Low ≤ b.Low ∧ a.High ≤ b.High) := by
  unfold s94
  by_cases h1 : a.Low ≤ b.Low <;> by_cases h2 : a.High ≤ b.High <;> simp [h1, h2]
theorem s104_eq (a b : Span) : s104 a b = decide (b.Low ≤ a.Low ∧ b.High ≤ a.High) := by
  unfold s104
  rw [s94_eq]
def TRow (t : Sl RangeRow) (i : Nat) : Prop := (1 ≤ (t.get i).Energy ∧ (t.get i).Energy ≤ 1000000) ∧ (0 ≤ (t.get i).Range.Low ∧ (t.get i).Range.Low ≤ (t.get i).Range.High ∧ (t.get i).Range.High ≤ 1000000) ∧
  (i = 0 ∨ (t.get (i - 1)).Energy < (t.get i).Energy ∧ (t.get (i - 1)).Range.Low ≤ (t.get i).Range.Low ∧ (t.get (i - 1)).Range.High ≤ (t.get i).Range.High)
instance (t : Sl RangeRow) (i : Nat) : Decidable (TRow t i) := by unfold TRow; infer_instance
def BRow (parts : Int) (t : Sl FluxRow) (i : Nat) : Prop := (1 ≤ (t.get i).Energy ∧ (t.get i).Energy ≤ 1000000) ∧ (0 ≤ (t.get i).Rate.Low ∧ (t.get i).Rate.Low ≤ (t.get i).Rate.High ∧ (t.get i).Rate.High ≤ parts) ∧
  (i = 0 ∨ (t.get (i - 1)).Energy < (t.get i).Energy ∧ (t.get i).Rate.Low ≤ (t.get (i - 1)).Rate.Low ∧ (t.get i).Rate.High ≤ (t.get (i - 1)).Rate.High)
instance (parts : Int) (t : Sl FluxRow) (i : Nat) : Decidable (BRow parts t i) := by unfold BRow; infer_instance
theorem s91_eq (t : Sl RangeRow) (hn : t.len ≤ 9223372036854775807) :
    p91 t 1 1000000 1000000 = true ∧ (s91 t 1 1000000 1000000 = true ↔ (∀ i, i < t.len → decide (TRow t i) = true) ∧ decide (1 ≤ (t.len : Int) ∧ (t.len : Int) ≤ 40) = true) := by
  refine all_loop (n := t.len) (good := fun i => decide (TRow t i)) (lpS := s91_lp0 t 1 1000000 1000000) (lpP := p91_lp0 t 1 1000000 1000000) ?_ ?_ ?_ ?_ hn
  · intro k i hi
    show s91_st0 t 1 1000000 1000000 (s91_lp0 t 1 1000000 1000000 k) i = cond (decide (TRow t i)) _ _
    generalize s91_lp0 t 1 1000000 1000000 k = S
    unfold s91_st0 s91_at1 s91_at2 s91_at3
    have e0 : (i : Int).toNat = i := by omega
    have el : decide ((i : Int) < (t.len : Int)) = true := decide_eq_true (by omega)
    by_cases h0 : 0 < i
    · have e2 : w64 ((i : Int) - 1) = ((i - 1 : Nat) : Int) := by rw [w64_id (by omega) (by omega)]; omega
      by_cases hg : TRow t i
      all_goals
        first | rw [decide_eq_true hg] | rw [decide_eq_false hg]
        unfold TRow at hg
        simp only [s63_eq, s69_eq, s94_eq, s92, s93, e0, el, e2, Int.toNat_natCast, Bool.cond_decide, ← decide_not, cond_true, cond_false]
        repeat' split
        all_goals first | rfl | (exfalso; omega)
    · have : i = 0 := by omega
      subst this
      by_cases hg : TRow t 0
      all_goals
        first | rw [decide_eq_true hg] | rw [decide_eq_false hg]
        unfold TRow at hg
        simp only [s63_eq, s69_eq, s94_eq, s92, s93, e0, el, Bool.cond_decide, ← decide_not, cond_true, cond_false]
        repeat' split
        all_goals first | rfl | (exfalso; omega)
  · intro k
    show s91_st0 t 1 1000000 1000000 (s91_lp0 t 1 1000000 1000000 k) _ = _
    unfold s91_st0
    rw [decide_eq_false (by omega), cond_false]
    rw [s63_eq]
  · intro k i hi
    show p91_st0 t 1 1000000 1000000 (p91_lp0 t 1 1000000 1000000 k) i = cond (decide (TRow t i)) _ _
    generalize p91_lp0 t 1 1000000 1000000 k = S
    unfold p91_st0 p91_at1 p91_at2 p91_at3
    have e0 : (i : Int).toNat = i := by omega
    have el : decide ((i : Int) < (t.len : Int)) = true := decide_eq_true (by omega)
    have e4 : decide (0 ≤ (i : Int) ∧ (i : Int) < (t.len : Int)) = true := decide_eq_true (by omega)
    by_cases h0 : 0 < i
    · have e2 : w64 ((i : Int) - 1) = ((i - 1 : Nat) : Int) := by rw [w64_id (by omega) (by omega)]; omega
      have e3 : decide (0 ≤ ((i - 1 : Nat) : Int) ∧ ((i - 1 : Nat) : Int) < (t.len : Int)) = true := decide_eq_true (by omega)
      by_cases hg : TRow t i
      all_goals
        first | rw [decide_eq_true hg] | rw [decide_eq_false hg]
        unfold TRow at hg
        simp only [s63_eq, s69_eq, s94_eq, s92, s93, e0, el, e2, Int.toNat_natCast, e3, e4, Bool.true_and, Bool.cond_decide, ← decide_not, cond_true, cond_false]
        repeat' split
        all_goals first | rfl | (exfalso; omega)
    · have : i = 0 := by omega
      subst this
      by_cases hg : TRow t 0
      all_goals
        first | rw [decide_eq_true hg] | rw [decide_eq_false hg]
        unfold TRow at hg
        simp only [s63_eq, s69_eq, s94_eq, s92, s93, e0, el, e4, Bool.true_and, Bool.cond_decide, ← decide_not, cond_true, cond_false]
        repeat' split
        all_goals first | rfl | (exfalso; omega)
  · intro k
    show p91_st0 t 1 1000000 1000000 (p91_lp0 t 1 1000000 1000000 k) _ = _
    unfold p91_st0
    rw [decide_eq_false (by omega), cond_false]
theorem s17_eq (t : Sl RangeRow) (hn : t.len ≤ 9223372036854775807) :
    p17 t = true ∧ (s17 t = true ↔ (∀ i, i < t.len → decide (TRow t i) = true) ∧ decide (1 ≤ (t.len : Int) ∧ (t.len : Int) ≤ 40) = true) := by
  refine all_loop (n := t.len) (good := fun i => decide (TRow t i)) (lpS := s17_lp0 t) (lpP := p17_lp0 t) ?_ ?_ ?_ ?_ hn
  · intro k i hi
    show s17_st0 t (s17_lp0 t k) i = cond (decide (TRow t i)) _ _
    generalize s17_lp0 t k = S
    unfold s17_st0 s17_at1
    have e0 : (i : Int).toNat = i := by omega
    have el : decide ((i : Int) < (t.len : Int)) = true := decide_eq_true (by omega)
    by_cases h0 : 0 < i
    · have e2 : w64 ((i : Int) - 1) = ((i - 1 : Nat) : Int) := by rw [w64_id (by omega) (by omega)]; omega
      by_cases hg : TRow t i
      all_goals
        first | rw [decide_eq_true hg] | rw [decide_eq_false hg]
        unfold TRow at hg
        simp only [s58_eq, s29_eq, e0, el, e2, Int.toNat_natCast, Bool.cond_decide, ← decide_not, cond_true, cond_false]
        repeat' split
        all_goals first | rfl | (exfalso; omega)
    · have : i = 0 := by omega
      subst this
      by_cases hg : TRow t 0
      all_goals
        first | rw [decide_eq_true hg] | rw [decide_eq_false hg]
        unfold TRow at hg
        simp only [s58_eq, s29_eq, e0, el, Bool.cond_decide, ← decide_not, cond_true, cond_false]
        repeat' split
        all_goals first | rfl | (exfalso; omega)
  · intro k
    show s17_st0 t (s17_lp0 t k) _ = _
    unfold s17_st0
    rw [decide_eq_false (by omega), cond_false]
    rw [s58_eq]
  · intro k i hi
    show p17_st0 t (p17_lp0 t k) i = cond (decide (TRow t i)) _ _
    generalize p17_lp0 t k = S
    unfold p17_st0 p17_at1
    have e0 : (i : Int).toNat = i := by omega
    have el : decide ((i : Int) < (t.len : Int)) = true := decide_eq_true (by omega)
    have e4 : decide (0 ≤ (i : Int) ∧ (i : Int) < (t.len : Int)) = true := decide_eq_true (by omega)
    by_cases h0 : 0 < i
    · have e2 : w64 ((i : Int) - 1) = ((i - 1 : Nat) : Int) := by rw [w64_id (by omega) (by omega)]; omega
      have e3 : decide (0 ≤ ((i - 1 : Nat) : Int) ∧ ((i - 1 : Nat) : Int) < (t.len : Int)) = true := decide_eq_true (by omega)
      by_cases hg : TRow t i
      all_goals
        first | rw [decide_eq_true hg] | rw [decide_eq_false hg]
        unfold TRow at hg
        simp only [s58_eq, s29_eq, e0, el, e2, Int.toNat_natCast, e3, e4, Bool.true_and, Bool.cond_decide, ← decide_not, cond_true, cond_false]
        repeat' split
        all_goals first | rfl | (exfalso; omega)
    · have : i = 0 := by omega
      subst this
      by_cases hg : TRow t 0
      all_goals
        first | rw [decide_eq_true hg] | rw [decide_eq_false hg]
        unfold TRow at hg
        simp only [s58_eq, s29_eq, e0, el, e4, Bool.true_and, Bool.cond_decide, ← decide_not, cond_true, cond_false]
        repeat' split
        all_goals first | rfl | (exfalso; omega)
  · intro k
    show p17_st0 t (p17_lp0 t k) _ = _
    unfold p17_st0
    rw [decide_eq_false (by omega), cond_false]
theorem s101_eq (parts : Int) (t : Sl FluxRow) (hn : t.len ≤ 9223372036854775807) :
    p101 t 1 1000000 parts = true ∧ (s101 t 1 1000000 parts = true ↔ (∀ i, i < t.len → decide (BRow parts t i) = true) ∧ decide (1 ≤ (t.len : Int) ∧ (t.len : Int) ≤ 40) = true) := by
  refine all_loop (n := t.len) (good := fun i => decide (BRow parts t i)) (lpS := s101_lp0 t 1 1000000 parts) (lpP := p101_lp0 t 1 1000000 parts) ?_ ?_ ?_ ?_ hn
  · intro k i hi
    show s101_st0 t 1 1000000 parts (s101_lp0 t 1 1000000 parts k) i = cond (decide (BRow parts t i)) _ _
    generalize s101_lp0 t 1 1000000 parts k = S
    unfold s101_st0 s101_at1 s101_at2 s101_at3
    have e0 : (i : Int).toNat = i := by omega
    have el : decide ((i : Int) < (t.len : Int)) = true := decide_eq_true (by omega)
    by_cases h0 : 0 < i
    · have e2 : w64 ((i : Int) - 1) = ((i - 1 : Nat) : Int) := by rw [w64_id (by omega) (by omega)]; omega
      by_cases hg : BRow parts t i
      all_goals
        first | rw [decide_eq_true hg] | rw [decide_eq_false hg]
        unfold BRow at hg
        simp only [s63_eq, s69_eq, s104_eq, s102, s103, e0, el, e2, Int.toNat_natCast, Bool.cond_decide, ← decide_not, cond_true, cond_false]
        repeat' split
        all_goals first | rfl | (exfalso; omega)
    · have : i = 0 := by omega
      subst this
      by_cases hg : BRow parts t 0
      all_goals
        first | rw [decide_eq_true hg] | rw [decide_eq_false hg]
        unfold BRow at hg
        simp only [s63_eq, s69_eq, s104_eq, s102, s103, e0, el, Bool.cond_decide, ← decide_not, cond_true, cond_false]
        repeat' split
        all_goals first | rfl | (exfalso; omega)
  · intro k
    show s101_st0 t 1 1000000 parts (s101_lp0 t 1 1000000 parts k) _ = _
    unfold s101_st0
    rw [decide_eq_false (by omega), cond_false]
    rw [s63_eq]
  · intro k i hi
    show p101_st0 t 1 1000000 parts (p101_lp0 t 1 1000000 parts k) i = cond (decide (BRow parts t i)) _ _
    generalize p101_lp0 t 1 1000000 parts k = S
    unfold p101_st0 p101_at1 p101_at2 p101_at3
    have e0 : (i : Int).toNat = i := by omega
    have el : decide ((i : Int) < (t.len : Int)) = true := decide_eq_true (by omega)
    have e4 : decide (0 ≤ (i : Int) ∧ (i : Int) < (t.len : Int)) = true := decide_eq_true (by omega)
    by_cases h0 : 0 < i
    · have e2 : w64 ((i : Int) - 1) = ((i - 1 : Nat) : Int) := by rw [w64_id (by omega) (by omega)]; omega
      have e3 : decide (0 ≤ ((i - 1 : Nat) : Int) ∧ ((i - 1 : Nat) : Int) < (t.len : Int)) = true := decide_eq_true (by omega)
      by_cases hg : BRow parts t i
      all_goals
        first | rw [decide_eq_true hg] | rw [decide_eq_false hg]
        unfold BRow at hg
        simp only [s63_eq, s69_eq, s104_eq, s102, s103, e0, el, e2, Int.toNat_natCast, e3, e4, Bool.true_and, Bool.cond_decide, ← decide_not, cond_true, cond_false]
        repeat' split
        all_goals first | rfl | (exfalso; omega)
    · have : i = 0 := by omega
      subst this
      by_cases hg : BRow parts t 0
      all_goals
        first | rw [decide_eq_true hg] | rw [decide_eq_false hg]
        unfold BRow at hg
        simp only [s63_eq, s69_eq, s104_eq, s102, s103, e0, el, e4, Bool.true_and, Bool.cond_decide, ← decide_not, cond_true, cond_false]
        repeat' split
        all_goals first | rfl | (exfalso; omega)
  · intro k
    show p101_st0 t 1 1000000 parts (p101_lp0 t 1 1000000 parts k) _ = _
    unfold p101_st0
    rw [decide_eq_false (by omega), cond_false]
theorem s59_eq (parts : Int) (t : Sl FluxRow) (hn : t.len ≤ 9223372036854775807) :
    p59 parts t = true ∧ (s59 parts t = true ↔ (∀ i, i < t.len → decide (BRow parts t i) = true) ∧ (cond (decide (1 ≤ (t.len : Int) ∧ (t.len : Int) ≤ 40)) ((t.get 0).Energy == (1:Int)) false) = true) := by
  refine all_loop (n := t.len) (good := fun i => decide (BRow parts t i)) (lpS := s59_lp0 parts t) (lpP := p59_lp0 parts t) ?_ ?_ ?_ ?_ hn
  · intro k i hi
    show s59_st0 parts t (s59_lp0 parts t k) i = cond (decide (BRow parts t i)) _ _
    generalize s59_lp0 parts t k = S
    unfold s59_st0 s59_at1
    have e0 : (i : Int).toNat = i := by omega
    have el : decide ((i : Int) < (t.len : Int)) = true := decide_eq_true (by omega)
    by_cases h0 : 0 < i
    · have e2 : w64 ((i : Int) - 1) = ((i - 1 : Nat) : Int) := by rw [w64_id (by omega) (by omega)]; omega
      by_cases hg : BRow parts t i
      all_goals
        first | rw [decide_eq_true hg] | rw [decide_eq_false hg]
        unfold BRow at hg
        simp only [s58_eq, s29_eq, e0, el, e2, Int.toNat_natCast, Bool.cond_decide, ← decide_not, cond_true, cond_false]
        repeat' split
        all_goals first | rfl | (exfalso; omega)
    · have : i = 0 := by omega
      subst this
      by_cases hg : BRow parts t 0
      all_goals
        first | rw [decide_eq_true hg] | rw [decide_eq_false hg]
        unfold BRow at hg
        simp only [s58_eq, s29_eq, e0, el, Bool.cond_decide, ← decide_not, cond_true, cond_false]
        repeat' split
        all_goals first | rfl | (exfalso; omega)
  · intro k
    show s59_st0 parts t (s59_lp0 parts t k) _ = _
    unfold s59_st0
    rw [decide_eq_false (by omega), cond_false]
    rw [s58_eq]
  · intro k i hi
    show p59_st0 parts t (p59_lp0 parts t k) i = cond (decide (BRow parts t i)) _ _
    generalize p59_lp0 parts t k = S
    unfold p59_st0 p59_at1
    have e0 : (i : Int).toNat = i := by omega
    have el : decide ((i : Int) < (t.len : Int)) = true := decide_eq_true (by omega)
    have e4 : decide (0 ≤ (i : Int) ∧ (i : Int) < (t.len : Int)) = true := decide_eq_true (by omega)
    by_cases h0 : 0 < i
    · have e2 : w64 ((i : Int) - 1) = ((i - 1 : Nat) : Int) := by rw [w64_id (by omega) (by omega)]; omega
      have e3 : decide (0 ≤ ((i - 1 : Nat) : Int) ∧ ((i - 1 : Nat) : Int) < (t.len : Int)) = true := decide_eq_true (by omega)
      by_cases hg : BRow parts t i
      all_goals
        first | rw [decide_eq_true hg] | rw [decide_eq_false hg]
        unfold BRow at hg
        simp only [s58_eq, s29_eq, e0, el, e2, Int.toNat_natCast, e3, e4, Bool.true_and, Bool.cond_decide, ← decide_not, cond_true, cond_false]
        repeat' split
        all_goals first | rfl | (exfalso; omega)
    · have : i = 0 := by omega
      subst this
      by_cases hg : BRow parts t 0
      all_goals
        first | rw [decide_eq_true hg] | rw [decide_eq_false hg]
        unfold BRow at hg
        simp only [s58_eq, s29_eq, e0, el, e4, Bool.true_and, Bool.cond_decide, ← decide_not, cond_true, cond_false]
        repeat' split
        all_goals first | rfl | (exfalso; omega)
  · intro k
    show p59_st0 parts t (p59_lp0 parts t k) _ = _
    unfold p59_st0
    rw [decide_eq_false (by omega), cond_false]
    rw [s58_eq]
    by_cases h : 1 ≤ (t.len : Int) ∧ (t.len : Int) ≤ 40
    · rw [decide_eq_true h, decide_eq_true (by omega)]; rfl
    · rw [decide_eq_false h]; rfl
def TOk (t : Sl RangeRow) : Prop := (1 ≤ (t.len : Int) ∧ (t.len : Int) ≤ 40) ∧ ∀ i, i < t.len → TRow t i
def BOk (parts : Int) (t : Sl FluxRow) : Prop := (1 ≤ (t.len : Int) ∧ (t.len : Int) ≤ 40) ∧ (t.get 0).Energy = 1 ∧ ∀ i, i < t.len → BRow parts t i
def SOk (s : Sky) : Prop := ((2 ≤ s.Parts ∧ s.Parts ≤ 1000000) ∧ (1 ≤ (s.Bins.len : Int) ∧ (s.Bins.len : Int) ≤ 20) ∧ (-100 ≤ s.Beta.Low ∧ s.Beta.Low ≤ s.Beta.High ∧ s.Beta.High ≤ 100) ∧ (-100 ≤ s.Alpha.Low ∧ s.Alpha.Low ≤ s.Alpha.High ∧ s.Alpha.High ≤ 100)) ∧ ∀ i, i < s.Bins.len → BOk s.Parts (s.Bins.get i)
theorem s62_ok (t : Sl RangeRow) (hn : t.len ≤ 9223372036854775807) : p62 t = true ∧ (s62 t = true ↔ TOk t) := by
  obtain ⟨h1, h2⟩ := s91_eq t hn
  unfold p62 s62 TOk
  rw [h1]
  refine ⟨rfl, h2.trans ?_⟩
  simp only [decide_eq_true_eq]
  exact And.comm
theorem s17_ok (t : Sl RangeRow) (hn : t.len ≤ 9223372036854775807) : p17 t = true ∧ s17 t = s62 t := by
  obtain ⟨h1, h2⟩ := s17_eq t hn
  refine ⟨h1, Bool.eq_iff_iff.2 (h2.trans ((s62_ok t hn).2.trans ?_).symm)⟩
  unfold TOk
  simp only [decide_eq_true_eq]
  exact And.comm
theorem s101_ok (parts : Int) (t : Sl FluxRow) (hn : t.len ≤ 9223372036854775807) : p101 t 1 1000000 parts = true ∧ ((s101 t 1 1000000 parts && (t.get 0).Energy == 1) = true ↔ BOk parts t) ∧ (s101 t 1 1000000 parts = true → 0 < t.len) := by
  obtain ⟨h1, h2⟩ := s101_eq parts t hn
  refine ⟨h1, ?_, fun h => ?_⟩
  · rw [Bool.and_eq_true, h2]
    unfold BOk
    simp only [decide_eq_true_eq, beq_iff_eq]
    exact ⟨fun h => ⟨h.1.2, h.2, h.1.1⟩, fun h => ⟨⟨h.2.2, h.1⟩, h.2.1⟩⟩
  · have := of_decide_eq_true (h2.1 h).2
    omega
theorem s59_ok (parts : Int) (t : Sl FluxRow) (hn : t.len ≤ 9223372036854775807) : p59 parts t = true ∧ (s59 parts t = true ↔ BOk parts t) := by
  obtain ⟨h1, h2⟩ := s59_eq parts t hn
  refine ⟨h1, h2.trans ?_⟩
  unfold BOk
  simp only [decide_eq_true_eq, Bool.cond_decide, Bool.if_false_right, Bool.and_eq_true, beq_iff_eq]
  exact ⟨fun h => ⟨h.2.1, h.2.2, h.1⟩, fun h => ⟨h.2.2, h.1, h.2.1⟩⟩
end Go.Proofs
namespace Go.Proofs
open Go Go.Pm
set_option linter.unusedVariables false
theorem last_fst {β : Type} {c d : Nat → Bool} {v : Nat → β} {n : Nat} {a : β} (hcd : ∀ i, i < n → d i = !c i) (hup : ∀ i j, i ≤ j → j < n → d i = true → d j = true) :
    lastF c v n a = if 0 < fst d n then v (fst d n - 1) else a := by
  have hl := fst_le d n
  have hhi : ∀ j, fst d n ≤ j → j < n → c j = false := by
    intro j h1 h2
    have := hup _ _ h1 h2 (fst_hi (by omega))
    rw [hcd j h2] at this
    simpa using this
  by_cases h : 0 < fst d n
  · rw [if_pos h]
    refine last_at (by omega) ?_ (fun j h1 h2 => hhi j (by omega) h2)
    have := fst_lo (c := d) (n := n) (j := fst d n - 1) (by omega)
    rw [hcd _ (by omega)] at this
    simpa using this
  · rw [if_neg h]
    exact last_none fun j hj => hhi j (by omega) hj
def SL (s : Sky) : Prop := s.Bins.len ≤ 9223372036854775807 ∧ ∀ i, i < s.Bins.len → (s.Bins.get i).len ≤ 9223372036854775807
theorem s75_ok (s : Sky) (hs : SL s) : p75 s = true ∧ (s75 s = true ↔ SOk s) := by
  have h : p75 s = true ∧ (s75 s = true ↔ (∀ i, i < s.Bins.len → (s101 (s.Bins.get i) 1 1000000 s.Parts && ((s.Bins.get i).get 0).Energy == 1) = true) ∧ s75_at2 s s.Bins = true) := by
    refine all_loop (n := s.Bins.len) (good := fun i => s101 (s.Bins.get i) 1 1000000 s.Parts && ((s.Bins.get i).get 0).Energy == 1) (lpS := fun k i => s75_lp0 s k s.Bins (s.Bins.len : Int) i s.Bins) (lpP := fun k i => p75_lp0 s k s.Bins (s.Bins.len : Int) i s.Bins) ?_ ?_ ?_ ?_ hs.1
    · intro k i hi
      show s75_st0 s (s75_lp0 s k) s.Bins (s.Bins.len : Int) i s.Bins = cond _ (s75_lp0 s k s.Bins (s.Bins.len : Int) (w64 ((i : Int) + 1)) s.Bins) false
      generalize s75_lp0 s k = S
      unfold s75_st0 s75_at1
      rw [decide_eq_true (by omega), Int.toNat_natCast]
      cases s101 (s.Bins.get i) 1 1000000 s.Parts
      · rfl
      · cases h : ((s.Bins.get i).get 0).Energy == 1 <;> simp [bne, h]
    · intro k
      show s75_st0 s (s75_lp0 s k) s.Bins (s.Bins.len : Int) _ s.Bins = _
      unfold s75_st0
      rw [decide_eq_false (by omega), cond_false]
    · intro k i hi
      show p75_st0 s (p75_lp0 s k) s.Bins (s.Bins.len : Int) i s.Bins = cond _ (p75_lp0 s k s.Bins (s.Bins.len : Int) (w64 ((i : Int) + 1)) s.Bins) true
      generalize p75_lp0 s k = S
      unfold p75_st0 p75_at1
      obtain ⟨h1, _, h3⟩ := s101_ok s.Parts (s.Bins.get i) (hs.2 i hi)
      rw [decide_eq_true (by omega), Int.toNat_natCast, h1, decide_eq_true (show 0 ≤ (i : Int) ∧ (i : Int) < (s.Bins.len : Int) by omega)]
      cases h : s101 (s.Bins.get i) 1 1000000 s.Parts
      · rfl
      · have h4 := h3 h
        rw [decide_eq_true (show (0 : Int) ≤ 0 ∧ (0 : Int) < ((s.Bins.get i).len : Int) by omega)]
        cases h : ((s.Bins.get i).get 0).Energy == 1 <;> simp [bne, h]
    · intro k
      show p75_st0 s (p75_lp0 s k) s.Bins (s.Bins.len : Int) _ s.Bins = _
      unfold p75_st0
      rw [decide_eq_false (by omega), cond_false]
  refine ⟨h.1, h.2.trans ?_⟩
  have e : s75_at2 s s.Bins = true ↔ ((2 ≤ s.Parts ∧ s.Parts ≤ 1000000) ∧ (1 ≤ (s.Bins.len : Int) ∧ (s.Bins.len : Int) ≤ 20) ∧ (-100 ≤ s.Beta.Low ∧ s.Beta.Low ≤ s.Beta.High ∧ s.Beta.High ≤ 100) ∧ (-100 ≤ s.Alpha.Low ∧ s.Alpha.Low ≤ s.Alpha.High ∧ s.Alpha.High ≤ 100)) := by
    unfold s75_at2
    rw [s63_eq, s63_eq, s69_eq, s69_eq]
    simp only [Bool.cond_decide, Bool.if_false_right, Bool.and_eq_true, decide_eq_true_eq]
  rw [e]
  unfold SOk
  exact ⟨fun h => ⟨h.2, fun i hi => (s101_ok s.Parts (s.Bins.get i) (hs.2 i hi)).2.1.1 (h.1 i hi)⟩, fun h => ⟨fun i hi => (s101_ok s.Parts (s.Bins.get i) (hs.2 i hi)).2.1.2 (h.2 i hi), h.1⟩⟩
theorem s16_ok (s : Sky) (hs : SL s) : p16 s = true ∧ s16 s = s75 s := by
  have h : p16_at1 s s.Bins = true ∧ (s16_at1 s s.Bins = true ↔ (∀ i, i < s.Bins.len → s59 s.Parts (s.Bins.get i) = true) ∧ true = true) := by
    refine all_loop (n := s.Bins.len) (good := fun i => s59 s.Parts (s.Bins.get i)) (lpS := fun k i => s16_lp2 s k i s.Bins) (lpP := fun k i => p16_lp2 s k i s.Bins) ?_ ?_ ?_ ?_ hs.1
    · intro k i hi
      show s16_st2 s (s16_lp2 s k) i s.Bins = cond _ (s16_lp2 s k (w64 ((i : Int) + 1)) s.Bins) false
      generalize s16_lp2 s k = S
      unfold s16_st2 s16_at3
      rw [decide_eq_true (by omega), Int.toNat_natCast]
      cases s59 s.Parts (s.Bins.get i) <;> rfl
    · intro k
      show s16_st2 s (s16_lp2 s k) _ s.Bins = _
      unfold s16_st2
      rw [decide_eq_false (by omega), cond_false]
    · intro k i hi
      show p16_st2 s (p16_lp2 s k) i s.Bins = cond _ (p16_lp2 s k (w64 ((i : Int) + 1)) s.Bins) true
      generalize p16_lp2 s k = S
      unfold p16_st2 p16_at3
      rw [decide_eq_true (by omega), Int.toNat_natCast, (s59_ok s.Parts (s.Bins.get i) (hs.2 i hi)).1, decide_eq_true (show 0 ≤ (i : Int) ∧ (i : Int) < (s.Bins.len : Int) by omega)]
      cases s59 s.Parts (s.Bins.get i) <;> rfl
    · intro k
      show p16_st2 s (p16_lp2 s k) _ s.Bins = _
      unfold p16_st2
      rw [decide_eq_false (by omega), cond_false]
  have h2 : s16 s = true ↔ SOk s := by
    unfold s16 s16_at0
    rw [s58_eq, s58_eq, s29_eq, s29_eq]
    unfold SOk
    by_cases a : 2 ≤ s.Parts ∧ s.Parts ≤ 1000000
    · by_cases b : 1 ≤ (s.Bins.len : Int) ∧ (s.Bins.len : Int) ≤ 20
      · by_cases c : -100 ≤ s.Beta.Low ∧ s.Beta.Low ≤ s.Beta.High ∧ s.Beta.High ≤ 100
        · by_cases d : -100 ≤ s.Alpha.Low ∧ s.Alpha.Low ≤ s.Alpha.High ∧ s.Alpha.High ≤ 100
          · rw [decide_eq_true a, decide_eq_true b, decide_eq_true c, decide_eq_true d]
            refine h.2.trans ?_
            exact ⟨fun h => ⟨⟨a, b, c, d⟩, fun i hi => (s59_ok s.Parts (s.Bins.get i) (hs.2 i hi)).2.1 (h.1 i hi)⟩, fun h => ⟨fun i hi => (s59_ok s.Parts (s.Bins.get i) (hs.2 i hi)).2.2 (h.2 i hi), rfl⟩⟩
          · rw [decide_eq_true a, decide_eq_true b, decide_eq_true c, decide_eq_false d]
            exact ⟨fun h => absurd h Bool.false_ne_true, fun h => absurd h.1.2.2.2 d⟩
        · rw [decide_eq_true a, decide_eq_true b, decide_eq_false c]
          exact ⟨fun h => absurd h Bool.false_ne_true, fun h => absurd h.1.2.2.1 c⟩
      · rw [decide_eq_true a, decide_eq_false b]
        exact ⟨fun h => absurd h Bool.false_ne_true, fun h => absurd h.1.2.1 b⟩
    · rw [decide_eq_false a]
      exact ⟨fun h => absurd h Bool.false_ne_true, fun h => absurd h.1.1 a⟩
  refine ⟨?_, Bool.eq_iff_iff.2 (h2.trans (s75_ok s hs).2.symm)⟩
  unfold p16 p16_at0
  rw [h.1]
  cases s58 s.Parts 2 1000000 <;> cases s58 (s.Bins.len : Int) 1 20 <;> cases s29 s.Beta (-100) 100 <;> cases s29 s.Alpha (-100) 100 <;> rfl
theorem s15_p (s : Sky) (t : Sl RangeRow) (hs : SL s) : p15 s t = true := by
  have h : p15 s t = true ∧ (s15 s t = true ↔ (∀ i, i < s.Bins.len → (!decide (((s.Bins.get i).len : Int) > 50)) = true) ∧ (cond (decide ((s.Bins.len : Int) ≤ (25:Int))) (decide ((t.len : Int) ≤ (50:Int))) false) = true) := by
    refine all_loop (n := s.Bins.len) (good := fun i => !decide (((s.Bins.get i).len : Int) > 50)) (lpS := s15_lp0 s t) (lpP := p15_lp0 s t) ?_ ?_ ?_ ?_ hs.1
    · intro k i hi
      show s15_st0 s t (s15_lp0 s t k) i = _
      generalize s15_lp0 s t k = S
      unfold s15_st0
      rw [decide_eq_true (by omega), Int.toNat_natCast]
      cases decide (((s.Bins.get i).len : Int) > 50) <;> rfl
    · intro k
      show s15_st0 s t (s15_lp0 s t k) _ = _
      unfold s15_st0
      rw [decide_eq_false (by omega), cond_false]
    · intro k i hi
      show p15_st0 s t (p15_lp0 s t k) i = _
      generalize p15_lp0 s t k = S
      unfold p15_st0
      rw [decide_eq_true (by omega), Int.toNat_natCast, decide_eq_true (show 0 ≤ (i : Int) ∧ (i : Int) < (s.Bins.len : Int) by omega)]
      cases decide (((s.Bins.get i).len : Int) > 50) <;> rfl
    · intro k
      show p15_st0 s t (p15_lp0 s t k) _ = _
      unfold p15_st0
      rw [decide_eq_false (by omega), cond_false]
  exact h.1
theorem s81_eq (c0 : Int) (t : Sl RangeRow) (hn : t.len ≤ 9223372036854775807) : p81 c0 t = true ∧ s81 c0 t = ((fst (fun i => s95 c0 (t.get i)) t.len : Nat) : Int) := by
  have h := idx_loop (c := s95 c0) (lpS := s106_lp0 c0) (lpP := p106_lp0 c0) (fun _ _ _ _ => rfl) (fun _ _ _ _ => rfl) t hn
  have h1 : p106 c0 t = true := h.1
  have h2 : s106 c0 t = _ := h.2
  have hl := fst_le (fun i => s95 c0 (t.get i)) t.len
  unfold p81 s81
  rw [h1, h2]
  refine ⟨rfl, ?_⟩
  by_cases h : fst (fun i => s95 c0 (t.get i)) t.len < t.len
  · rw [if_pos h, decide_eq_true (by omega)]; rfl
  · rw [if_neg h, decide_eq_false (by omega)]
    show (t.len : Int) = _
    omega
theorem s81a_eq (c0 : Int) (t : Sl RangeRow) (hn : t.len ≤ 9223372036854775807) : p81a c0 t = true ∧ s81a c0 t = ((fst (fun i => s96 c0 (t.get i)) t.len : Nat) : Int) := by
  have h := idx_loop (c := s96 c0) (lpS := s106a_lp0 c0) (lpP := p106a_lp0 c0) (fun _ _ _ _ => rfl) (fun _ _ _ _ => rfl) t hn
  have h1 : p106a c0 t = true := h.1
  have h2 : s106a c0 t = _ := h.2
  have hl := fst_le (fun i => s96 c0 (t.get i)) t.len
  unfold p81a s81a
  rw [h1, h2]
  refine ⟨rfl, ?_⟩
  by_cases h : fst (fun i => s96 c0 (t.get i)) t.len < t.len
  · rw [if_pos h, decide_eq_true (by omega)]; rfl
  · rw [if_neg h, decide_eq_false (by omega)]
    show (t.len : Int) = _
    omega
theorem s81b_eq (c0 : Int) (t : Sl RangeRow) (hn : t.len ≤ 9223372036854775807) : p81b c0 t = true ∧ s81b c0 t = ((fst (fun i => s82 c0 (t.get i)) t.len : Nat) : Int) := by
  have h := idx_loop (c := s82 c0) (lpS := s106b_lp0 c0) (lpP := p106b_lp0 c0) (fun _ _ _ _ => rfl) (fun _ _ _ _ => rfl) t hn
  have h1 : p106b c0 t = true := h.1
  have h2 : s106b c0 t = _ := h.2
  have hl := fst_le (fun i => s82 c0 (t.get i)) t.len
  unfold p81b s81b
  rw [h1, h2]
  refine ⟨rfl, ?_⟩
  by_cases h : fst (fun i => s82 c0 (t.get i)) t.len < t.len
  · rw [if_pos h, decide_eq_true (by omega)]; rfl
  · rw [if_neg h, decide_eq_false (by omega)]
    show (t.len : Int) = _
    omega
theorem s81c_eq (c0 : Int) (t : Sl RangeRow) (hn : t.len ≤ 9223372036854775807) : p81c c0 t = true ∧ s81c c0 t = ((fst (fun i => s83 c0 (t.get i)) t.len : Nat) : Int) := by
  have h := idx_loop (c := s83 c0) (lpS := s106c_lp0 c0) (lpP := p106c_lp0 c0) (fun _ _ _ _ => rfl) (fun _ _ _ _ => rfl) t hn
  have h1 : p106c c0 t = true := h.1
  have h2 : s106c c0 t = _ := h.2
  have hl := fst_le (fun i => s83 c0 (t.get i)) t.len
  unfold p81c s81c
  rw [h1, h2]
  refine ⟨rfl, ?_⟩
  by_cases h : fst (fun i => s83 c0 (t.get i)) t.len < t.len
  · rw [if_pos h, decide_eq_true (by omega)]; rfl
  · rw [if_neg h, decide_eq_false (by omega)]
    show (t.len : Int) = _
    omega
theorem s107_eq (c0 : Span) (t : Sl FluxRow) (hn : t.len ≤ 9223372036854775807) : p107 c0 t = true ∧ s107 c0 t = ((fst (fun i => s108 c0 (t.get i)) t.len : Nat) : Int) := by
  have h := idx_loop (c := s108 c0) (lpS := s118_lp0 c0) (lpP := p118_lp0 c0) (fun _ _ _ _ => rfl) (fun _ _ _ _ => rfl) t hn
  have h1 : p118 c0 t = true := h.1
  have h2 : s118 c0 t = _ := h.2
  have hl := fst_le (fun i => s108 c0 (t.get i)) t.len
  unfold p107 s107
  rw [h1, h2]
  refine ⟨rfl, ?_⟩
  by_cases h : fst (fun i => s108 c0 (t.get i)) t.len < t.len
  · rw [if_pos h, decide_eq_true (by omega)]; rfl
  · rw [if_neg h, decide_eq_false (by omega)]
    show (t.len : Int) = _
    omega
theorem s107a_eq (c0 : Span) (t : Sl FluxRow) (hn : t.len ≤ 9223372036854775807) : p107a c0 t = true ∧ s107a c0 t = ((fst (fun i => s109 c0 (t.get i)) t.len : Nat) : Int) := by
  have h := idx_loop (c := s109 c0) (lpS := s118a_lp0 c0) (lpP := p118a_lp0 c0) (fun _ _ _ _ => rfl) (fun _ _ _ _ => rfl) t hn
  have h1 : p118a c0 t = true := h.1
  have h2 : s118a c0 t = _ := h.2
  have hl := fst_le (fun i => s109 c0 (t.get i)) t.len
  unfold p107a s107a
  rw [h1, h2]
  refine ⟨rfl, ?_⟩
  by_cases h : fst (fun i => s109 c0 (t.get i)) t.len < t.len
  · rw [if_pos h, decide_eq_true (by omega)]; rfl
  · rw [if_neg h, decide_eq_false (by omega)]
    show (t.len : Int) = _
    omega
def kH (t : Sl RangeRow) (x : Int) : Nat := fst (fun i => decide ((t.get i).Range.High ≥ x)) t.len
def kL (t : Sl RangeRow) (x : Int) : Nat := fst (fun i => decide ((t.get i).Range.Low ≥ x)) t.len
def thrL (t : Sl RangeRow) (x : Int) : Int := if 0 < kH t x then (t.get (kH t x - 1)).Energy + 1 else 1
def thrH (t : Sl RangeRow) (x : Int) : Int := if kL t x < t.len then (t.get (kL t x)).Energy else -1
def thr (t : Sl RangeRow) (x : Int) : Span := if x = 0 then ⟨1, 1⟩ else ⟨thrL t x, thrH t x⟩
def jL (l : Sl FluxRow) (y : Int) : Nat := fst (fun i => decide ((l.get i).Energy > y)) l.len
def jH (l : Sl FluxRow) (y : Int) : Nat := fst (fun i => decide ((l.get i).Energy ≥ y)) l.len
def abvH (l : Sl FluxRow) (y : Int) : Int := if 0 < jL l y then (l.get (jL l y - 1)).Rate.High else (l.get 0).Rate.High
def abvL (l : Sl FluxRow) (y : Int) : Int := if y = -1 then 0 else if jH l y < l.len then (l.get (jH l y)).Rate.Low else 0
def abv (l : Sl FluxRow) (x : Span) : Span := ⟨abvL l x.High, abvH l x.Low⟩
def expd (s : Sky) (t : Sl RangeRow) (bin x : Int) : Span := abv (s.Bins.get bin.toNat) (thr t x)
theorem s64_eq (t : Sl RangeRow) (x : Int) (hk : TOk t) : p64 t x = true ∧ s64 t x = thr t x := by
  have hn : t.len ≤ 9223372036854775807 := by have := hk.1.2; omega
  have e1 : p81 x t = true ∧ s81 x t = ((kH t x : Nat) : Int) := s81_eq x t hn
  have e2 : p81a x t = true ∧ s81a x t = ((kL t x : Nat) : Int) := s81a_eq x t hn
  have b1 : kH t x ≤ t.len := fst_le _ _
  have b2 : kL t x ≤ t.len := fst_le _ _
  unfold p64 s64 thr
  by_cases h0 : x = 0
  · rw [if_pos h0, beq_iff_eq.2 h0]; exact ⟨rfl, rfl⟩
  have h00 : (x == 0) = false := by simpa using h0
  rw [if_neg h0, h00, cond_false, cond_false]
  unfold p64_at0 s64_at0
  rw [e1.1, e1.2]
  have h3 : ∀ a, p64_at2 t x a = true ∧ s64_at2 t x a = ⟨a, thrH t x⟩ := by
    intro a
    unfold p64_at2 s64_at2 p64_at3 s64_at3 thrH
    rw [e2.1, e2.2]
    by_cases h : kL t x < t.len
    · rw [if_pos h, decide_eq_true (show ((kL t x : Nat) : Int) < (t.len : Int) by omega), decide_eq_true (show 0 ≤ ((kL t x : Nat) : Int) ∧ ((kL t x : Nat) : Int) < (t.len : Int) by omega), Int.toNat_natCast]
      exact ⟨rfl, rfl⟩
    · rw [if_neg h, decide_eq_false (show ¬ ((kL t x : Nat) : Int) < (t.len : Int) by omega)]
      exact ⟨rfl, rfl⟩
  unfold p64_at1 s64_at1 thrL
  by_cases h : 0 < kH t x
  · have hr := hk.2 (kH t x - 1) (by omega)
    unfold TRow at hr
    have e3 : w64 (((kH t x : Nat) : Int) - 1) = ((kH t x - 1 : Nat) : Int) := by rw [w64_id (by omega) (by omega)]; omega
    rw [if_pos h, decide_eq_true (show ((kH t x : Nat) : Int) > 0 by omega), e3, Int.toNat_natCast, decide_eq_true (show 0 ≤ ((kH t x - 1 : Nat) : Int) ∧ ((kH t x - 1 : Nat) : Int) < (t.len : Int) by omega), (h3 _).1, cond_true, (h3 _).2, w64_id (by omega) (by omega)]
    exact ⟨rfl, rfl⟩
  · rw [if_neg h, decide_eq_false (show ¬ ((kH t x : Nat) : Int) > 0 by omega), cond_false, cond_false, (h3 _).1, (h3 _).2]
    exact ⟨rfl, rfl⟩
theorem s84_eq (l : Sl FluxRow) (y : Span) (h0 : 0 < l.len) (hn : l.len ≤ 9223372036854775807) : p84 l y = true ∧ s84 l y = abv l y := by
  have e1 : p107 y l = true ∧ s107 y l = ((jL l y.Low : Nat) : Int) := s107_eq y l hn
  have e2 : p107a y l = true ∧ s107a y l = ((jH l y.High : Nat) : Int) := s107a_eq y l hn
  have b1 : jL l y.Low ≤ l.len := fst_le _ _
  have b2 : jH l y.High ≤ l.len := fst_le _ _
  have h3 : ∀ a, p84_at1 l y a = true ∧ s84_at1 l y a = ⟨abvL l y.High, a⟩ := by
    intro a
    unfold p84_at1 s84_at1 abvL
    by_cases h : y.High = -1
    · rw [if_pos h, beq_iff_eq.2 h]; exact ⟨rfl, rfl⟩
    have h00 : (y.High == -1) = false := by simpa using h
    rw [if_neg h, h00, cond_false, cond_false]
    unfold p84_at2 s84_at2 p84_at3 s84_at3
    rw [e2.1, e2.2]
    by_cases h : jH l y.High < l.len
    · rw [if_pos h, decide_eq_true (show ((jH l y.High : Nat) : Int) < (l.len : Int) by omega), decide_eq_true (show 0 ≤ ((jH l y.High : Nat) : Int) ∧ ((jH l y.High : Nat) : Int) < (l.len : Int) by omega), Int.toNat_natCast]
      exact ⟨rfl, rfl⟩
    · rw [if_neg h, decide_eq_false (show ¬ ((jH l y.High : Nat) : Int) < (l.len : Int) by omega)]
      exact ⟨rfl, rfl⟩
  unfold p84 s84 abv
  rw [e1.1, e1.2, decide_eq_true (show 0 ≤ (0 : Int) ∧ (0 : Int) < (l.len : Int) by omega)]
  unfold p84_at0 s84_at0 abvH
  by_cases h : 0 < jL l y.Low
  · have e3 : w64 (((jL l y.Low : Nat) : Int) - 1) = ((jL l y.Low - 1 : Nat) : Int) := by rw [w64_id (by omega) (by omega)]; omega
    rw [if_pos h, decide_eq_true (show ((jL l y.Low : Nat) : Int) > 0 by omega), e3, Int.toNat_natCast, decide_eq_true (show 0 ≤ ((jL l y.Low - 1 : Nat) : Int) ∧ ((jL l y.Low - 1 : Nat) : Int) < (l.len : Int) by omega), (h3 _).1, cond_true, (h3 _).2]
    exact ⟨rfl, rfl⟩
  · rw [if_neg h, decide_eq_false (show ¬ ((jL l y.Low : Nat) : Int) > 0 by omega), cond_false, cond_false, (h3 _).1, (h3 _).2]
    exact ⟨rfl, rfl⟩
def Fine (s : Sky) (t : Sl RangeRow) (bin x : Int) : Prop := SOk s ∧ TOk t ∧ (0 ≤ bin ∧ bin < (s.Bins.len : Int)) ∧ (0 ≤ x ∧ x ≤ 1000000)
theorem Fine.b {s : Sky} {t : Sl RangeRow} {bin x : Int} (h : Fine s t bin x) : BOk s.Parts (s.Bins.get bin.toNat) := h.1.2 _ (by have := h.2.2.1; omega)
theorem s65_g (s : Sky) (t : Sl RangeRow) (bin x : Int) : (s65 s t bin x).1.Sky = s ∧ (s65 s t bin x).1.table = t := by
  unfold s65
  cases s75 s <;> cases s62 t <;> cases s63 bin 0 (w64 ((s.Bins.len : Int) - 1)) <;> exact ⟨rfl, rfl⟩
theorem s65_ok (s : Sky) (t : Sl RangeRow) (bin x : Int) (hs : SL s) (ht : t.len ≤ 9223372036854775807) : p65 s t bin x = true ∧ ((s65 s t bin x).2 = true ↔ Fine s t bin x) := by
  obtain ⟨h1, h2⟩ := s75_ok s hs
  obtain ⟨h3, h4⟩ := s62_ok t ht
  have h5 := hs.1
  unfold p65 s65 Fine
  rw [h1, h3, s63_eq, s63_eq, w64_id (by omega) (by omega), ← h2, ← h4]
  cases s75 s
  · exact ⟨rfl, ⟨fun h => absurd h Bool.false_ne_true, fun h => absurd h.1 Bool.false_ne_true⟩⟩
  cases s62 t
  · exact ⟨rfl, ⟨fun h => absurd h Bool.false_ne_true, fun h => absurd h.2.1 Bool.false_ne_true⟩⟩
  refine ⟨rfl, ?_⟩
  by_cases h : 0 ≤ bin ∧ bin ≤ (s.Bins.len : Int) - 1
  · rw [decide_eq_true h]
    simp only [cond_true, decide_eq_true_eq]
    exact ⟨fun h6 => ⟨trivial, trivial, by omega, h6⟩, fun h6 => h6.2.2.2⟩
  · rw [decide_eq_false h]
    exact ⟨fun h => absurd h Bool.false_ne_true, fun h6 => absurd (show 0 ≤ bin ∧ bin ≤ (s.Bins.len : Int) - 1 by have := h6.2.2.1; omega) h⟩
theorem s66_eq {s : Sky} {t : Sl RangeRow} {bin x : Int} (h : Fine s t bin x) : p66 s t bin x = true ∧ s66 s t bin x = expd s t bin x := by
  obtain ⟨h1, h2⟩ := s64_eq t x h.2.1
  have hb := h.b
  obtain ⟨h3, h4⟩ := s84_eq (s.Bins.get bin.toNat) (thr t x) (by have := hb.1; omega) (by have := hb.1; omega)
  unfold p66 s66 expd
  rw [h1, h2, h3, h4, decide_eq_true h.2.2.1]
  exact ⟨rfl, rfl⟩
theorem s20_ok (s : Sky) (t : Sl RangeRow) (bin x : Int) (hs : SL s) (ht : t.len ≤ 9223372036854775807) : p20 s t bin x = true ∧ (Fine s t bin x → s20 s t bin x = (expd s t bin x, 0)) ∧ (¬ Fine s t bin x → s20 s t bin x = (⟨0, 0⟩, 2)) := by
  obtain ⟨h1, h2⟩ := s65_ok s t bin x hs ht
  obtain ⟨e1, e2⟩ := s65_g s t bin x
  unfold p20 s20
  rw [h1, e1, e2]
  by_cases h : Fine s t bin x
  · rw [h2.2 h, (s66_eq h).1, (s66_eq h).2]
    exact ⟨rfl, fun _ => rfl, fun h3 => absurd h h3⟩
  · have h3 : (s65 s t bin x).2 = false := by
      cases e : (s65 s t bin x).2
      · rfl
      · exact absurd (h2.1 e) h
    rw [h3]
    exact ⟨rfl, fun h3 => absurd h3 h, fun _ => rfl⟩
theorem s19_ok (t : Sl RangeRow) (x : Int) (ht : t.len ≤ 9223372036854775807) : p19 t x = true ∧ (TOk t ∧ 0 ≤ x ∧ x ≤ 1000000 → s19 t x = (thr t x, 0)) ∧ (¬ (TOk t ∧ 0 ≤ x ∧ x ≤ 1000000) → s19 t x = (⟨0, 0⟩, 2)) := by
  obtain ⟨h1, h2⟩ := s62_ok t ht
  unfold p19 s19
  rw [h1, s63_eq]
  by_cases hk : TOk t
  · rw [h2.2 hk, (s64_eq t x hk).1, (s64_eq t x hk).2]
    by_cases h : 0 ≤ x ∧ x ≤ 1000000
    · rw [decide_eq_true h]
      exact ⟨rfl, fun _ => rfl, fun h3 => absurd ⟨hk, h⟩ h3⟩
    · rw [decide_eq_false h]
      exact ⟨rfl, fun h3 => absurd h3.2 h, fun _ => rfl⟩
  · have h3 : s62 t = false := by
      cases e : s62 t
      · rfl
      · exact absurd (h2.1 e) hk
    rw [h3]
    exact ⟨rfl, fun h3 => absurd h3.1 hk, fun _ => rfl⟩
theorem t_mono {t : Sl RangeRow} (h : ∀ i, i < t.len → TRow t i) : ∀ d i, i + d < t.len → (0 < d → (t.get i).Energy < (t.get (i + d)).Energy) ∧ (t.get i).Range.Low ≤ (t.get (i + d)).Range.Low ∧ (t.get i).Range.High ≤ (t.get (i + d)).Range.High := by
  intro d
  induction d with
  | zero => intro i hi; exact ⟨fun h => absurd h (by omega), Int.le_refl _, Int.le_refl _⟩
  | succ d ih =>
    intro i hi
    obtain ⟨h1, h2, h3⟩ := ih i (by omega)
    obtain ⟨_, _, h4⟩ := h (i + (d + 1)) hi
    have e : i + (d + 1) - 1 = i + d := by omega
    rw [e] at h4
    have h4 := h4.resolve_left (by omega)
    refine ⟨fun _ => ?_, by omega, by omega⟩
    by_cases hd : 0 < d
    · have := h1 hd; omega
    · have : d = 0 := by omega
      subst this; exact h4.1
theorem t_e {t : Sl RangeRow} (h : TOk t) {i j : Nat} (hij : i < j) (hj : j < t.len) : (t.get i).Energy < (t.get j).Energy := by
  have := (t_mono h.2 (j - i) i (by omega)).1 (by omega)
  rwa [show i + (j - i) = j by omega] at this
theorem t_low {t : Sl RangeRow} (h : TOk t) {i j : Nat} (hij : i ≤ j) (hj : j < t.len) : (t.get i).Range.Low ≤ (t.get j).Range.Low := by
  have := (t_mono h.2 (j - i) i (by omega)).2.1
  rwa [show i + (j - i) = j by omega] at this
theorem t_high {t : Sl RangeRow} (h : TOk t) {i j : Nat} (hij : i ≤ j) (hj : j < t.len) : (t.get i).Range.High ≤ (t.get j).Range.High := by
  have := (t_mono h.2 (j - i) i (by omega)).2.2
  rwa [show i + (j - i) = j by omega] at this
theorem b_mono {parts : Int} {t : Sl FluxRow} (h : ∀ i, i < t.len → BRow parts t i) : ∀ d i, i + d < t.len → (0 < d → (t.get i).Energy < (t.get (i + d)).Energy) ∧ (t.get (i + d)).Rate.Low ≤ (t.get i).Rate.Low ∧ (t.get (i + d)).Rate.High ≤ (t.get i).Rate.High := by
  intro d
  induction d with
  | zero => intro i hi; exact ⟨fun h => absurd h (by omega), Int.le_refl _, Int.le_refl _⟩
  | succ d ih =>
    intro i hi
    obtain ⟨h1, h2, h3⟩ := ih i (by omega)
    obtain ⟨_, _, h4⟩ := h (i + (d + 1)) hi
    have e : i + (d + 1) - 1 = i + d := by omega
    rw [e] at h4
    have h4 := h4.resolve_left (by omega)
    refine ⟨fun _ => ?_, by omega, by omega⟩
    by_cases hd : 0 < d
    · have := h1 hd; omega
    · have : d = 0 := by omega
      subst this; exact h4.1
theorem b_e {parts : Int} {t : Sl FluxRow} (h : BOk parts t) {i j : Nat} (hij : i < j) (hj : j < t.len) : (t.get i).Energy < (t.get j).Energy := by
  have := (b_mono h.2.2 (j - i) i (by omega)).1 (by omega)
  rwa [show i + (j - i) = j by omega] at this
theorem b_low {parts : Int} {t : Sl FluxRow} (h : BOk parts t) {i j : Nat} (hij : i ≤ j) (hj : j < t.len) : (t.get j).Rate.Low ≤ (t.get i).Rate.Low := by
  have := (b_mono h.2.2 (j - i) i (by omega)).2.1
  rwa [show i + (j - i) = j by omega] at this
theorem b_high {parts : Int} {t : Sl FluxRow} (h : BOk parts t) {i j : Nat} (hij : i ≤ j) (hj : j < t.len) : (t.get j).Rate.High ≤ (t.get i).Rate.High := by
  have := (b_mono h.2.2 (j - i) i (by omega)).2.2
  rwa [show i + (j - i) = j by omega] at this
end Go.Proofs
namespace Go.Proofs
open Go Go.Pm
set_option linter.unusedVariables false
theorem s49_eq (t : Sl RangeRow) (x : Int) (hk : TOk t) : p49 t x = true ∧ s49 t x = thr t x := by
  have hn : t.len ≤ 9223372036854775807 := by have := hk.1.2; omega
  unfold p49 s49 thr
  by_cases h0 : x = 0
  · rw [if_pos h0, beq_iff_eq.2 h0]; exact ⟨rfl, rfl⟩
  have h00 : (x == 0) = false := by simpa using h0
  rw [if_neg h0, h00, cond_false, cond_false]
  have hb : ∀ a, p49_at2 t x a = true ∧ s49_at2 t x a = ⟨a, thrH t x⟩ := by
    intro a
    refine bwd_loop (γ := Span) (c := fun i => decide ((t.get i).Range.Low ≥ x)) (v := fun i => (t.get i).Energy) (E := fun b => ⟨a, b⟩) (EP := fun _ => true) (n := t.len) (lpS := fun k i b => s49_lp3 t x k i a b) (lpP := fun k i b => p49_lp3 t x k i a b) ?_ ?_ ?_ ?_ hn (-1)
    · intro k i b hi
      show s49_st3 t x (s49_lp3 t x k) i a b = _
      unfold s49_st3
      rw [decide_eq_true (by omega), Int.toNat_natCast]; rfl
    · intro k b
      show s49_st3 t x (s49_lp3 t x k) (-1) a b = _
      unfold s49_st3
      rw [decide_eq_false (by omega)]; rfl
    · intro k i b hi
      show p49_st3 t x (p49_lp3 t x k) i a b = _
      unfold p49_st3
      have e4 : decide (0 ≤ (i : Int) ∧ (i : Int) < (t.len : Int)) = true := decide_eq_true (by omega)
      rw [decide_eq_true (by omega), e4, Int.toNat_natCast]
      simp only [Bool.true_and, cond_true]
    · intro k b
      show p49_st3 t x (p49_lp3 t x k) (-1) a b = _
      unfold p49_st3
      rw [decide_eq_false (by omega)]; rfl
  have hf := fwd_loop (c := fun i => decide ((t.get i).Range.High < x)) (v := fun i => w64 ((t.get i).Energy + 1)) (E := fun a => s49_at2 t x a) (EP := fun a => p49_at2 t x a) (n := t.len) (lpS := s49_lp1 t x) (lpP := p49_lp1 t x)
    (by
      intro k i b hi
      show s49_st1 t x (s49_lp1 t x k) i b = _
      unfold s49_st1
      rw [decide_eq_true (by omega), Int.toNat_natCast]; rfl)
    (by
      intro k b
      show s49_st1 t x (s49_lp1 t x k) _ b = _
      unfold s49_st1
      rw [decide_eq_false (by omega)]; rfl)
    (by
      intro k i b hi
      show p49_st1 t x (p49_lp1 t x k) i b = _
      unfold p49_st1
      have e4 : decide (0 ≤ (i : Int) ∧ (i : Int) < (t.len : Int)) = true := decide_eq_true (by omega)
      rw [decide_eq_true (by omega), e4, Int.toNat_natCast]
      simp only [Bool.true_and, cond_true])
    (by
      intro k b
      show p49_st1 t x (p49_lp1 t x k) _ b = _
      unfold p49_st1
      rw [decide_eq_false (by omega)]; rfl) hn 1
  have hl : lastF (fun i => decide ((t.get i).Range.High < x)) (fun i => w64 ((t.get i).Energy + 1)) t.len 1 = thrL t x := by
    rw [last_fst (d := fun i => decide ((t.get i).Range.High ≥ x)) (fun i hi => by
        show decide ((t.get i).Range.High ≥ x) = !decide ((t.get i).Range.High < x)
        rw [← decide_not]; exact decide_eq_decide.2 (by omega)) (fun i j h1 h2 h3 => by
        have := t_high hk h1 h2
        have := of_decide_eq_true h3
        exact decide_eq_true (by omega))]
    unfold thrL
    show (if 0 < kH t x then w64 ((t.get (kH t x - 1)).Energy + 1) else 1) = _
    by_cases h : 0 < kH t x
    · have b1 : kH t x ≤ t.len := fst_le _ _
      have hr := hk.2 (kH t x - 1) (by omega)
      unfold TRow at hr
      rw [if_pos h, if_pos h]
      exact w64_id (by omega) (by omega)
    · rw [if_neg h, if_neg h]
  have r1 := hf.1.trans (hb _).1
  have r2 := hf.2.trans (hb _).2
  rw [hl] at r2
  exact ⟨r1, r2⟩
theorem s46_eq {parts : Int} (l : Sl FluxRow) (y : Span) (hk : BOk parts l) (hy : 1 ≤ y.Low) : p46 l y = true ∧ s46 l y = abv l y := by
  have hn : l.len ≤ 9223372036854775807 := by have := hk.1.2; omega
  have hb : ∀ a, p46_at1 l y a = true ∧ s46_at1 l y a = ⟨abvL l y.High, a⟩ := by
    intro a
    unfold abvL
    by_cases hh : y.High = -1
    · rw [if_pos hh]
      obtain ⟨k, hkk⟩ : ∃ k, Fuel = k + 1 := ⟨Fuel - 1, by simp only [Fuel]⟩
      unfold p46_at1 s46_at1 p46_at2 s46_at2
      rw [hkk]
      show p46_st2 l y (p46_lp2 l y k) _ _ _ = true ∧ s46_st2 l y (s46_lp2 l y k) _ _ _ = _
      have hne : (y.High != -1) = false := by simp [hh]
      unfold p46_st2 s46_st2
      rw [hne]
      cases decide (w64 ((l.len : Int) - 1) ≥ 0) <;> exact ⟨rfl, rfl⟩
    · rw [if_neg hh]
      have hne : (y.High != -1) = true := by simp [hh]
      refine bwd_loop (γ := Span) (c := fun i => decide ((l.get i).Energy ≥ y.High)) (v := fun i => (l.get i).Rate.Low) (E := fun b => ⟨b, a⟩) (EP := fun _ => true) (n := l.len) (lpS := fun k i b => s46_lp2 l y k i b a) (lpP := fun k i b => p46_lp2 l y k i b a) ?_ ?_ ?_ ?_ hn 0
      · intro k i b hi
        show s46_st2 l y (s46_lp2 l y k) i b a = _
        unfold s46_st2
        rw [decide_eq_true (by omega), Int.toNat_natCast, hne]; rfl
      · intro k b
        show s46_st2 l y (s46_lp2 l y k) (-1) b a = _
        unfold s46_st2
        rw [decide_eq_false (by omega)]; rfl
      · intro k i b hi
        show p46_st2 l y (p46_lp2 l y k) i b a = _
        unfold p46_st2
        have e4 : decide (0 ≤ (i : Int) ∧ (i : Int) < (l.len : Int)) = true := decide_eq_true (by omega)
        rw [decide_eq_true (by omega), e4, Int.toNat_natCast, hne]
        simp only [Bool.true_and, cond_true]
      · intro k b
        show p46_st2 l y (p46_lp2 l y k) (-1) b a = _
        unfold p46_st2
        rw [decide_eq_false (by omega)]; rfl
  have hf := fwd_loop (c := fun i => decide ((l.get i).Energy ≤ y.Low)) (v := fun i => (l.get i).Rate.High) (E := fun a => s46_at1 l y a) (EP := fun a => p46_at1 l y a) (n := l.len) (lpS := s46_lp0 l y) (lpP := p46_lp0 l y)
    (by
      intro k i b hi
      show s46_st0 l y (s46_lp0 l y k) i b = _
      unfold s46_st0
      rw [decide_eq_true (by omega), Int.toNat_natCast]; rfl)
    (by
      intro k b
      show s46_st0 l y (s46_lp0 l y k) _ b = _
      unfold s46_st0
      rw [decide_eq_false (by omega)]; rfl)
    (by
      intro k i b hi
      show p46_st0 l y (p46_lp0 l y k) i b = _
      unfold p46_st0
      have e4 : decide (0 ≤ (i : Int) ∧ (i : Int) < (l.len : Int)) = true := decide_eq_true (by omega)
      rw [decide_eq_true (by omega), e4, Int.toNat_natCast]
      simp only [Bool.true_and, cond_true])
    (by
      intro k b
      show p46_st0 l y (p46_lp0 l y k) _ b = _
      unfold p46_st0
      rw [decide_eq_false (by omega)]; rfl) hn 0
  have hl : lastF (fun i => decide ((l.get i).Energy ≤ y.Low)) (fun i => (l.get i).Rate.High) l.len 0 = abvH l y.Low := by
    rw [last_fst (d := fun i => decide ((l.get i).Energy > y.Low)) (fun i hi => by
        show decide ((l.get i).Energy > y.Low) = !decide ((l.get i).Energy ≤ y.Low)
        rw [← decide_not]; exact decide_eq_decide.2 (by omega)) (fun i j h1 h2 h3 => by
        have := of_decide_eq_true h3
        by_cases e : i = j
        · exact decide_eq_true (by rw [← e]; omega)
        · have := b_e hk (show i < j by omega) h2
          exact decide_eq_true (by omega))]
    unfold abvH
    show (if 0 < jL l y.Low then (l.get (jL l y.Low - 1)).Rate.High else 0) = _
    have h : 0 < jL l y.Low := by
      have b1 : jL l y.Low ≤ l.len := fst_le _ _
      have := hk.1.1
      rcases Nat.eq_zero_or_pos (jL l y.Low) with h | h
      · have := of_decide_eq_true (fst_hi (c := fun i => decide ((l.get i).Energy > y.Low)) (n := l.len) (show jL l y.Low < l.len by omega))
        have h2 : fst (fun i => decide ((l.get i).Energy > y.Low)) l.len = 0 := h
        rw [h2, hk.2.1] at this
        omega
      · exact h
    rw [if_pos h, if_pos h]
  have r1 := hf.1.trans (hb _).1
  have r2 := hf.2.trans (hb _).2
  rw [hl] at r2
  exact ⟨r1, r2⟩
theorem thr_low {t : Sl RangeRow} (x : Int) (hk : TOk t) : 1 ≤ (thr t x).Low := by
  unfold thr
  by_cases h0 : x = 0
  · rw [if_pos h0]; exact Int.le_refl _
  rw [if_neg h0]
  show 1 ≤ thrL t x
  unfold thrL
  by_cases h : 0 < kH t x
  · have b1 : kH t x ≤ t.len := fst_le _ _
    have hr := hk.2 (kH t x - 1) (by omega)
    unfold TRow at hr
    rw [if_pos h]; omega
  · rw [if_neg h]; exact Int.le_refl _
theorem s47_eq {s : Sky} {t : Sl RangeRow} {bin x : Int} (h : Fine s t bin x) : p47 s t bin x = true ∧ s47 s t bin x = expd s t bin x := by
  obtain ⟨h1, h2⟩ := s49_eq t x h.2.1
  obtain ⟨h3, h4⟩ := s46_eq (s.Bins.get bin.toNat) (thr t x) h.b (thr_low x h.2.1)
  unfold p47 s47 expd
  rw [h1, h2, h3, h4, decide_eq_true h.2.2.1]
  exact ⟨rfl, rfl⟩
end Go.Proofs
namespace Go.Proofs
open Go Go.Pm
set_option linter.unusedVariables false
theorem s41_ok (s : Sky) (hs : SL s) : p41 s = true ∧ s41 s = if s75 s = true then 0 else 2 := by
  unfold p41 s41 s80
  rw [(s75_ok s hs).1]
  cases s75 s <;> exact ⟨rfl, rfl⟩
def TOk3 (y : Span) : Prop := (1 ≤ y.Low ∧ y.Low ≤ 1000001) ∧ (y.High = -1 ∨ (y.Low ≤ y.High ∧ y.High ≤ 1000001))
theorem s45_eq (y : Span) : s45 y = true ↔ TOk3 y := by
  unfold s45 TOk3
  rw [s58_eq, s58_eq]
  by_cases h1 : 1 ≤ y.Low ∧ y.Low ≤ 1000001
  · rw [decide_eq_true h1]
    by_cases h2 : y.High = -1
    · rw [beq_iff_eq.2 h2]
      exact ⟨fun _ => ⟨h1, Or.inl h2⟩, fun _ => rfl⟩
    · have h3 : (y.High == -1) = false := by simpa using h2
      rw [h3]
      simp only [cond_true, cond_false, decide_eq_true_eq]
      exact ⟨fun h => ⟨h1, Or.inr h⟩, fun h => h.2.resolve_left h2⟩
  · rw [decide_eq_false h1]
    exact ⟨fun h => absurd h Bool.false_ne_true, fun h => absurd h.1 h1⟩
theorem s44_ok (s : Sky) (bin : Int) (y : Span) (hs : SL s) : p44 s bin y = true ∧ ((SOk s ∧ 0 ≤ bin ∧ bin < (s.Bins.len : Int)) ∧ TOk3 y → s44 s bin y = (abv (s.Bins.get bin.toNat) y, 0)) ∧ (¬ ((SOk s ∧ 0 ≤ bin ∧ bin < (s.Bins.len : Int)) ∧ TOk3 y) → s44 s bin y = (⟨0, 0⟩, 2)) := by
  have key : ∀ f : Bool, (f = true ↔ TOk3 y) → p44_at0 s bin y f s.Bins = true ∧ ((SOk s ∧ 0 ≤ bin ∧ bin < (s.Bins.len : Int)) ∧ TOk3 y → s44_at0 s bin y f s.Bins = (abv (s.Bins.get bin.toNat) y, 0)) ∧ (¬ ((SOk s ∧ 0 ≤ bin ∧ bin < (s.Bins.len : Int)) ∧ TOk3 y) → s44_at0 s bin y f s.Bins = (⟨0, 0⟩, 2)) := by
    intro f hf
    have h1 := hs.1
    unfold p44_at0 s44_at0 p44_at1 s44_at1
    rw [show (⟨s.Parts, s.Bins, s.Beta, s.Alpha⟩ : Sky) = s from rfl, (s75_ok s hs).1, s63_eq, w64_id (by omega) (by omega)]
    cases hk : s75 s
    · exact ⟨rfl, fun h => absurd ((s75_ok s hs).2.2 h.1.1) (by rw [hk]; exact Bool.false_ne_true), fun _ => rfl⟩
    have hk := (s75_ok s hs).2.1 hk
    by_cases hb : 0 ≤ bin ∧ bin ≤ (s.Bins.len : Int) - 1
    · rw [decide_eq_true hb]
      cases f
      · exact ⟨rfl, fun h => absurd (hf.2 h.2) Bool.false_ne_true, fun _ => rfl⟩
      · have hy := hf.1 rfl
        have hbb := hk.2 bin.toNat (by omega)
        obtain ⟨h3, h4⟩ := s84_eq (s.Bins.get bin.toNat) y (by have := hbb.1; omega) (by have := hbb.1; omega)
        rw [h3, h4, decide_eq_true (show 0 ≤ bin ∧ bin < (s.Bins.len : Int) by omega)]
        exact ⟨rfl, fun _ => rfl, fun h => absurd ⟨⟨hk, by omega⟩, hy⟩ h⟩
    · rw [decide_eq_false hb]
      exact ⟨rfl, fun h => absurd h.1.2 (by omega), fun _ => rfl⟩
  unfold p44 s44
  have e := s45_eq y
  unfold s45 at e
  rw [s58_eq, s58_eq] at e
  rw [s63_eq, s63_eq]
  revert e
  cases decide (1 ≤ y.Low ∧ y.Low ≤ 1000001) <;> cases y.High == -1 <;> intro e <;> exact key _ e
theorem at8_12 (s : Sky) (t : Sl RangeRow) (bin x : Int) (hs : SL s) (ht : t.len ≤ 9223372036854775807) (there : Bool) (hth : there = true ↔ SOk s ∧ 0 ≤ bin ∧ bin < (s.Bins.len : Int)) :
    p12_at8 s t bin x (s20 s t bin x).2 (s20 s t bin x).1.Low (s20 s t bin x).1.High there s.Bins = true ∧ s12_at8 s t bin x (s20 s t bin x).2 (s20 s t bin x).1.Low (s20 s t bin x).1.High there s.Bins = true := by
  obtain ⟨_, hy, hn⟩ := s20_ok s t bin x hs ht
  obtain ⟨h1, h2⟩ := s17_ok t ht
  obtain ⟨_, h3⟩ := s62_ok t ht
  unfold p12_at8 s12_at8 p12_at10 s12_at10 p12_at11 s12_at11
  rw [show (⟨s.Parts, s.Bins, s.Beta, s.Alpha⟩ : Sky) = s from rfl, h1, h2]
  cases there
  · rw [hn fun h => absurd (hth.2 ⟨h.1, h.2.2.1⟩) Bool.false_ne_true]
    exact ⟨rfl, rfl⟩
  have hsb := hth.1 rfl
  cases hk : s62 t
  · rw [hn fun h => absurd (h3.2 h.2.1) (by rw [hk]; exact Bool.false_ne_true)]
    exact ⟨rfl, rfl⟩
  have hk := h3.1 hk
  by_cases a : x < 0
  · rw [hn fun h => by have := h.2.2.2; omega, decide_eq_true a]
    exact ⟨rfl, rfl⟩
  by_cases b : x > 1000000
  · rw [hn fun h => by have := h.2.2.2; omega, decide_eq_false a, decide_eq_true b]
    exact ⟨rfl, rfl⟩
  have hf : Fine s t bin x := ⟨hsb.1, hk, hsb.2, by omega⟩
  rw [hy hf, decide_eq_false a, decide_eq_false b, (s47_eq hf).1, (s47_eq hf).2]
  simp
theorem law12 (s : Sky) (t : Sl RangeRow) (bin : Int) (y : Span) (x : Int) (hs : SL s) (ht : t.len ≤ 9223372036854775807) : p12 s t bin y x = true ∧ s12 s t bin y x = true := by
  unfold p12 s12 p12_at0 s12_at0
  rw [s15_p s t hs]
  cases s15 s t
  · exact ⟨rfl, rfl⟩
  unfold p12_at1 s12_at1 p12_at2 s12_at2 p12_at3 s12_at3 p12_at4 s12_at4
  obtain ⟨a1, a2, a3⟩ := s44_ok s bin y hs
  obtain ⟨b1, _, _⟩ := s20_ok s t bin x hs ht
  obtain ⟨c1, c2⟩ := s16_ok s hs
  obtain ⟨d1, d2⟩ := s41_ok s hs
  rw [show (⟨s.Parts, s.Bins, s.Beta, s.Alpha⟩ : Sky) = s from rfl, a1, b1, c1, c2, d1, d2]
  have e := s75_ok s hs
  unfold p12_at5 s12_at5 p12_at6 s12_at6 p12_at7 s12_at7 p12_at9 s12_at9
  cases hk : s75 s
  · have hno : ¬ SOk s := fun h => absurd (e.2.2 h) (by rw [hk]; exact Bool.false_ne_true)
    rw [a3 fun h => hno h.1.1]
    have r := at8_12 s t bin x hs ht false ⟨fun h => absurd h Bool.false_ne_true, fun h => absurd h.1 hno⟩
    exact ⟨r.1, r.2⟩
  have hok := e.2.1 hk
  by_cases b0 : bin ≥ 0
  · rw [decide_eq_true b0]
    by_cases bl : bin < (s.Bins.len : Int)
    · rw [decide_eq_true bl]
      have r := at8_12 s t bin x hs ht true ⟨fun _ => ⟨hok, b0, bl⟩, fun _ => rfl⟩
      cases hy : s45 y
      · rw [a3 fun h => absurd ((s45_eq y).2 h.2) (by rw [hy]; exact Bool.false_ne_true)]
        exact ⟨r.1, r.2⟩
      · have hyy := (s45_eq y).1 hy
        obtain ⟨f1, f2⟩ := s46_eq (s.Bins.get bin.toNat) y (hok.2 _ (by omega)) hyy.1.1
        rw [a2 ⟨⟨hok, b0, bl⟩, hyy⟩, f1, f2, decide_eq_true (show 0 ≤ bin ∧ bin < (s.Bins.len : Int) from ⟨b0, bl⟩)]
        simpa using r
    · rw [decide_eq_false bl, a3 fun h => bl h.1.2.2]
      have r := at8_12 s t bin x hs ht false ⟨fun h => absurd h Bool.false_ne_true, fun h => absurd h.2.2 bl⟩
      exact ⟨r.1, r.2⟩
  · rw [decide_eq_false b0, a3 fun h => b0 h.1.2.1]
    have r := at8_12 s t bin x hs ht false ⟨fun h => absurd h Bool.false_ne_true, fun h => absurd h.2.1 b0⟩
    exact ⟨r.1, r.2⟩
end Go.Proofs
