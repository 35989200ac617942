/- Part 6 of what the proof rests on: a machine that runs functions of the program on pure values, proved sound; the functions that the law reaches, and what they compute. -/
import Derived.Test.YtpjoicpmbdaniaaQ5
namespace Go.Proofs
open Go Go.Pm
set_option maxRecDepth 100000
set_option linter.unusedVariables false
attribute [local irreducible] Go.Pm.vcFun Go.Pm.vc Go.Pm.vcIter
-- 14 overburdenlaw05.FluxBent
abbrev T14 : Tabs := (((((((((Tabs.nil.addF 18 ctr18).addF 29 ctr29).addF 51 ctr51).addF 52 ctr52).addF 53 ctr53).addF 54 ctr54).addF 55 ctr55).addF 56 ctr56).addF 57 ctr57)
theorem okT14 : TabsOk Try.prog T14 := (((((((((TabsOk.nil.addF ok18).addF ok29).addF ok51).addF ok52).addF ok53).addF ok54).addF ok55).addF ok56).addF ok57)
abbrev G14 : Ctrs := csm T14 (fun _ _ => []) (fun _ => false)
def ann14 : Ann := ⟨202, [(0, ⟨[0, 1, 2, 8, 9], [8, 9], [], [], []⟩), (1, ⟨[0, 1, 2, 8, 9, 26], [8, 9], [], [], []⟩), (2, ⟨[10], [], [], [], []⟩), (3, ⟨[0, 1, 2, 8, 9, 11, 12], [8, 9, 11], [], [], []⟩), (4, ⟨[0, 1, 2, 8, 9, 11, 12, 13, 14], [8, 9, 11, 13], [], [], []⟩), (5, ⟨[0, 1, 2, 8, 9, 11, 12, 13, 14, 15], [8, 9, 11, 13], [], [], []⟩), (6, ⟨[0, 1, 2, 8, 9, 11, 12, 13, 14, 15, 16], [8, 9, 11, 13], [], [], []⟩), (7, ⟨[0, 1, 2, 8, 9, 11, 12, 13, 14, 15, 16, 56], [8, 9, 11, 13], [], [], []⟩), (8, ⟨[0, 1, 2, 8, 9, 11, 13, 14, 15, 16, 63], [8, 9, 11, 13], [], [], []⟩), (9, ⟨[10], [], [], [], []⟩), (10, ⟨[0, 1, 2, 8, 9, 11, 13, 14, 15, 16, 73], [8, 9, 11, 13], [], [], []⟩), (11, ⟨[10], [], [], [], []⟩), (12, ⟨[0, 1, 2, 8, 9, 11, 13, 14, 16, 81], [8, 9, 11, 13], [], [], []⟩), (13, ⟨[8, 9, 88], [8, 9], [], [], []⟩), (14, ⟨[10], [], [], [], []⟩), (15, ⟨[2, 8, 9, 11, 13, 14, 16, 17, 18], [8, 9, 11, 13, 17], [], [], []⟩), (16, ⟨[2, 8, 9, 11, 13, 14, 16, 118], [8, 9, 11, 13], [], [], []⟩), (17, ⟨[10], [], [], [], []⟩), (18, ⟨[2, 8, 9, 13, 14, 16, 19], [8, 9, 13], [], [], []⟩), (19, ⟨[8, 9, 149], [8, 9], [], [], []⟩), (20, ⟨[10], [], [], [], []⟩), (21, ⟨[8, 9, 20, 21], [8, 9, 20], [], [], []⟩), (22, ⟨[8, 9, 20, 21, 163], [8, 9, 20], [], [], []⟩), (23, ⟨[10], [], [], [], []⟩), (24, ⟨[20, 21, 22, 23], [20, 22], [], [], []⟩), (25, ⟨[20, 21, 22, 181], [20, 22], [], [], []⟩), (26, ⟨[10], [], [], [], []⟩), (27, ⟨[10], [], [], [], []⟩)],
  [],
  [(3, ⟨[0, 1, 2, 8, 9], [8, 9], [], [], []⟩), (4, ⟨[0, 1, 2, 8, 9, 11, 12], [8, 9, 11], [], [], []⟩), (5, ⟨[0, 1, 2, 8, 9, 11, 12, 13, 14], [8, 9, 11, 13], [], [], []⟩), (6, ⟨[0, 1, 2, 8, 9, 11, 12, 13, 14, 15], [8, 9, 11, 13], [], [], []⟩), (12, ⟨[0, 1, 2, 8, 9, 11, 13, 14, 15, 16], [8, 9, 11, 13], [], [], []⟩), (11, ⟨[0, 1, 2, 8, 9, 11, 13, 14, 15, 16, 73], [8, 9, 11, 13], [], [], []⟩), (13, ⟨[0, 1, 2, 8, 9, 11, 13, 14, 16, 81], [8, 9, 11, 13], [], [], []⟩), (21, ⟨[8, 9], [8, 9], [], [], []⟩), (16, ⟨[2, 8, 9, 11, 13, 14, 16, 17, 18], [8, 9, 11, 13, 17], [], [], []⟩), (22, ⟨[8, 9, 20, 21], [8, 9, 20], [], [], []⟩), (23, ⟨[8, 9, 20, 21, 163], [8, 9, 20], [], [], []⟩), (24, ⟨[8, 9, 20, 21], [8, 9, 20], [], [], []⟩), (25, ⟨[20, 21, 22, 23], [20, 22], [], [], []⟩)],
  [], []⟩
def f14_g0 (parts : Int) (t : (Sl KinkRow)) (opacity : Int) (shares : Span) (other : Span) : St := ⟨[(0, .one (.c (.p (.int .i64 parts)))), (1, .one (.c (.p (.sl t.len 3 (fun i => enc_129 (t.get i)))))), (2, .one (.c (.p (.int .i64 opacity)))), (8, .one (.c (.ptr 8 0))), (9, .one (.c (.ptr 9 0)))], [(8, .box 24 [.p (.int .i64 shares.Low), .p (.int .i64 shares.High)]), (9, .box 24 [.p (.int .i64 other.Low), .p (.int .i64 other.High)])], []⟩
def f14_at0 (K : List PA → Prop) (parts : Int) (t : (Sl KinkRow)) (opacity : Int) (shares : Span) (other : Span) : Prop := vc Try.prog G14 ann14 (cdF Try.f14 [1, 1]) (bodyK Try.prog Try.f14 K) (f14_g0 parts t opacity shares other)
def f14_g1 (parts : Int) (t : (Sl KinkRow)) (opacity : Int) (shares : Span) (other : Span) (ev1 : Int) (a_0v1 : Int) (a_1v1 : Int) : St := ⟨[(0, .one (.c (.p (.int .i64 parts)))), (1, .one (.c (.p (.sl t.len 3 (fun i => enc_129 (t.get i)))))), (2, .one (.c (.p (.int .i64 opacity)))), (8, .one (.c (.ptr 8 0))), (9, .one (.c (.ptr 9 0))), (11, .one (.c (.ptr 11 0))), (12, .one (.c (.p (.int .i64 ev1))))], [(8, .box 24 [.p (.int .i64 shares.Low), .p (.int .i64 shares.High)]), (9, .box 24 [.p (.int .i64 other.Low), .p (.int .i64 other.High)]), (11, .box 24 [.p (.int .i64 a_0v1), .p (.int .i64 a_1v1)])], []⟩
def f14_at1 (K : List PA → Prop) (parts : Int) (t : (Sl KinkRow)) (opacity : Int) (shares : Span) (other : Span) (ev1 : Int) (a_0v1 : Int) (a_1v1 : Int) : Prop := vc Try.prog G14 ann14 (cdF Try.f14 [1, 1, 1]) (bodyK Try.prog Try.f14 K) (f14_g1 parts t opacity shares other ev1 a_0v1 a_1v1)
def f14_g2 (parts : Int) (t : (Sl KinkRow)) (opacity : Int) (shares : Span) (other : Span) (ev1 : Int) (a_0v1 : Int) (a_1v1 : Int) (fv2 : Int) (b_0v2 : Int) (b_1v2 : Int) : St := ⟨[(0, .one (.c (.p (.int .i64 parts)))), (1, .one (.c (.p (.sl t.len 3 (fun i => enc_129 (t.get i)))))), (2, .one (.c (.p (.int .i64 opacity)))), (8, .one (.c (.ptr 8 0))), (9, .one (.c (.ptr 9 0))), (11, .one (.c (.ptr 11 0))), (12, .one (.c (.p (.int .i64 ev1)))), (13, .one (.c (.ptr 13 0))), (14, .one (.c (.p (.int .i64 fv2))))], [(8, .box 24 [.p (.int .i64 shares.Low), .p (.int .i64 shares.High)]), (9, .box 24 [.p (.int .i64 other.Low), .p (.int .i64 other.High)]), (11, .box 24 [.p (.int .i64 a_0v1), .p (.int .i64 a_1v1)]), (13, .box 24 [.p (.int .i64 b_0v2), .p (.int .i64 b_1v2)])], []⟩
def f14_at2 (K : List PA → Prop) (parts : Int) (t : (Sl KinkRow)) (opacity : Int) (shares : Span) (other : Span) (ev1 : Int) (a_0v1 : Int) (a_1v1 : Int) (fv2 : Int) (b_0v2 : Int) (b_1v2 : Int) : Prop := vc Try.prog G14 ann14 (cdF Try.f14 [1, 1, 1, 1]) (bodyK Try.prog Try.f14 K) (f14_g2 parts t opacity shares other ev1 a_0v1 a_1v1 fv2 b_0v2 b_1v2)
def f14_g3 (parts : Int) (t : (Sl KinkRow)) (opacity : Int) (shares : Span) (other : Span) (ev1 : Int) (a_0v1 : Int) (a_1v1 : Int) (fv2 : Int) (b_0v2 : Int) (b_1v2 : Int) (finev3 : Bool) : St := ⟨[(0, .one (.c (.p (.int .i64 parts)))), (1, .one (.c (.p (.sl t.len 3 (fun i => enc_129 (t.get i)))))), (2, .one (.c (.p (.int .i64 opacity)))), (8, .one (.c (.ptr 8 0))), (9, .one (.c (.ptr 9 0))), (11, .one (.c (.ptr 11 0))), (12, .one (.c (.p (.int .i64 ev1)))), (13, .one (.c (.ptr 13 0))), (14, .one (.c (.p (.int .i64 fv2)))), (15, .one (.c (.p (.bool finev3))))], [(8, .box 24 [.p (.int .i64 shares.Low), .p (.int .i64 shares.High)]), (9, .box 24 [.p (.int .i64 other.Low), .p (.int .i64 other.High)]), (11, .box 24 [.p (.int .i64 a_0v1), .p (.int .i64 a_1v1)]), (13, .box 24 [.p (.int .i64 b_0v2), .p (.int .i64 b_1v2)])], []⟩
def f14_at3 (K : List PA → Prop) (parts : Int) (t : (Sl KinkRow)) (opacity : Int) (shares : Span) (other : Span) (ev1 : Int) (a_0v1 : Int) (a_1v1 : Int) (fv2 : Int) (b_0v2 : Int) (b_1v2 : Int) (finev3 : Bool) : Prop := vc Try.prog G14 ann14 (cdF Try.f14 [1, 1, 1, 1, 1]) (bodyK Try.prog Try.f14 K) (f14_g3 parts t opacity shares other ev1 a_0v1 a_1v1 fv2 b_0v2 b_1v2 finev3)
def f14_g4 (parts : Int) (t : (Sl KinkRow)) (opacity : Int) (shares : Span) (other : Span) (a_0v1 : Int) (a_1v1 : Int) (fv2 : Int) (b_0v2 : Int) (b_1v2 : Int) (finev3 : Bool) (deepv4 : Bool) : St := ⟨[(0, .one (.c (.p (.int .i64 parts)))), (1, .one (.c (.p (.sl t.len 3 (fun i => enc_129 (t.get i)))))), (2, .one (.c (.p (.int .i64 opacity)))), (8, .one (.c (.ptr 8 0))), (9, .one (.c (.ptr 9 0))), (11, .one (.c (.ptr 11 0))), (13, .one (.c (.ptr 13 0))), (14, .one (.c (.p (.int .i64 fv2)))), (15, .one (.c (.p (.bool finev3)))), (16, .one (.c (.p (.bool deepv4))))], [(8, .box 24 [.p (.int .i64 shares.Low), .p (.int .i64 shares.High)]), (9, .box 24 [.p (.int .i64 other.Low), .p (.int .i64 other.High)]), (11, .box 24 [.p (.int .i64 a_0v1), .p (.int .i64 a_1v1)]), (13, .box 24 [.p (.int .i64 b_0v2), .p (.int .i64 b_1v2)])], []⟩
def f14_at4 (K : List PA → Prop) (parts : Int) (t : (Sl KinkRow)) (opacity : Int) (shares : Span) (other : Span) (a_0v1 : Int) (a_1v1 : Int) (fv2 : Int) (b_0v2 : Int) (b_1v2 : Int) (finev3 : Bool) (deepv4 : Bool) : Prop := vc Try.prog G14 ann14 (cdF Try.f14 [1, 1, 1, 1, 1, 1, 1]) (bodyK Try.prog Try.f14 K) (f14_g4 parts t opacity shares other a_0v1 a_1v1 fv2 b_0v2 b_1v2 finev3 deepv4)
def f14_g5 (parts : Int) (t : (Sl KinkRow)) (opacity : Int) (shares : Span) (other : Span) (a_0v1 : Int) (a_1v1 : Int) (fv2 : Int) (b_0v2 : Int) (b_1v2 : Int) (finev3 : Bool) (t73v5 : Bool) : St := ⟨[(0, .one (.c (.p (.int .i64 parts)))), (1, .one (.c (.p (.sl t.len 3 (fun i => enc_129 (t.get i)))))), (2, .one (.c (.p (.int .i64 opacity)))), (8, .one (.c (.ptr 8 0))), (9, .one (.c (.ptr 9 0))), (11, .one (.c (.ptr 11 0))), (13, .one (.c (.ptr 13 0))), (14, .one (.c (.p (.int .i64 fv2)))), (15, .one (.c (.p (.bool finev3)))), (16, .one (.c (.p (.bool (decide (opacity ≤ (1000000:Int))))))), (73, .one (.c (.p (.bool t73v5))))], [(8, .box 24 [.p (.int .i64 shares.Low), .p (.int .i64 shares.High)]), (9, .box 24 [.p (.int .i64 other.Low), .p (.int .i64 other.High)]), (11, .box 24 [.p (.int .i64 a_0v1), .p (.int .i64 a_1v1)]), (13, .box 24 [.p (.int .i64 b_0v2), .p (.int .i64 b_1v2)])], []⟩
def f14_at5 (K : List PA → Prop) (parts : Int) (t : (Sl KinkRow)) (opacity : Int) (shares : Span) (other : Span) (a_0v1 : Int) (a_1v1 : Int) (fv2 : Int) (b_0v2 : Int) (b_1v2 : Int) (finev3 : Bool) (t73v5 : Bool) : Prop := vc Try.prog G14 ann14 (cdF Try.f14 [1, 1, 1, 1, 1, 1, 0, 1, 1, 1]) (sqK Try.prog G14 ann14 (cdF Try.f14 [1, 1, 1, 1, 1, 1, 1]) (bodyK Try.prog Try.f14 K)) (f14_g5 parts t opacity shares other a_0v1 a_1v1 fv2 b_0v2 b_1v2 finev3 t73v5)
def f14_g6 (parts : Int) (t : (Sl KinkRow)) (opacity : Int) (shares : Span) (other : Span) (a_0v1 : Int) (a_1v1 : Int) (fv2 : Int) (b_0v2 : Int) (b_1v2 : Int) (deepv4 : Bool) (t81v6 : Bool) : St := ⟨[(0, .one (.c (.p (.int .i64 parts)))), (1, .one (.c (.p (.sl t.len 3 (fun i => enc_129 (t.get i)))))), (2, .one (.c (.p (.int .i64 opacity)))), (8, .one (.c (.ptr 8 0))), (9, .one (.c (.ptr 9 0))), (11, .one (.c (.ptr 11 0))), (13, .one (.c (.ptr 13 0))), (14, .one (.c (.p (.int .i64 fv2)))), (16, .one (.c (.p (.bool deepv4)))), (81, .one (.c (.p (.bool t81v6))))], [(8, .box 24 [.p (.int .i64 shares.Low), .p (.int .i64 shares.High)]), (9, .box 24 [.p (.int .i64 other.Low), .p (.int .i64 other.High)]), (11, .box 24 [.p (.int .i64 a_0v1), .p (.int .i64 a_1v1)]), (13, .box 24 [.p (.int .i64 b_0v2), .p (.int .i64 b_1v2)])], []⟩
def f14_at6 (K : List PA → Prop) (parts : Int) (t : (Sl KinkRow)) (opacity : Int) (shares : Span) (other : Span) (a_0v1 : Int) (a_1v1 : Int) (fv2 : Int) (b_0v2 : Int) (b_1v2 : Int) (deepv4 : Bool) (t81v6 : Bool) : Prop := vc Try.prog G14 ann14 (cdF Try.f14 [1, 1, 1, 1, 1, 1, 1, 0, 1]) (sqK Try.prog G14 ann14 (cdF Try.f14 [1, 1, 1, 1, 1, 1, 1, 1]) (bodyK Try.prog Try.f14 K)) (f14_g6 parts t opacity shares other a_0v1 a_1v1 fv2 b_0v2 b_1v2 deepv4 t81v6)
def f14_g7 (shares : Span) (other : Span) : St := ⟨[(8, .one (.c (.ptr 8 0))), (9, .one (.c (.ptr 9 0)))], [(8, .box 24 [.p (.int .i64 shares.Low), .p (.int .i64 shares.High)]), (9, .box 24 [.p (.int .i64 other.Low), .p (.int .i64 other.High)])], []⟩
def f14_at7 (K : List PA → Prop) (shares : Span) (other : Span) : Prop := vc Try.prog G14 ann14 (cdF Try.f14 [1, 1, 1, 1, 1, 1, 1, 1]) (bodyK Try.prog Try.f14 K) (f14_g7 shares other)
def f14_g8 (opacity : Int) (shares : Span) (other : Span) (a_0v1 : Int) (a_1v1 : Int) (fv2 : Int) (b_0v2 : Int) (b_1v2 : Int) (deepv4 : Bool) (isv8 : Bool) (want_0v8 : Int) (want_1v8 : Int) : St := ⟨[(2, .one (.c (.p (.int .i64 opacity)))), (8, .one (.c (.ptr 8 0))), (9, .one (.c (.ptr 9 0))), (11, .one (.c (.ptr 11 0))), (13, .one (.c (.ptr 13 0))), (14, .one (.c (.p (.int .i64 fv2)))), (16, .one (.c (.p (.bool deepv4)))), (17, .one (.c (.ptr 17 0))), (18, .one (.c (.p (.bool isv8))))], [(8, .box 24 [.p (.int .i64 shares.Low), .p (.int .i64 shares.High)]), (9, .box 24 [.p (.int .i64 other.Low), .p (.int .i64 other.High)]), (11, .box 24 [.p (.int .i64 a_0v1), .p (.int .i64 a_1v1)]), (13, .box 24 [.p (.int .i64 b_0v2), .p (.int .i64 b_1v2)]), (17, .box 24 [.p (.int .i64 want_0v8), .p (.int .i64 want_1v8)])], []⟩
def f14_at8 (K : List PA → Prop) (opacity : Int) (shares : Span) (other : Span) (a_0v1 : Int) (a_1v1 : Int) (fv2 : Int) (b_0v2 : Int) (b_1v2 : Int) (deepv4 : Bool) (isv8 : Bool) (want_0v8 : Int) (want_1v8 : Int) : Prop := vc Try.prog G14 ann14 (cdF Try.f14 [1, 1, 1, 1, 1, 1, 1, 0, 1, 1, 1]) (sqK Try.prog G14 ann14 (cdF Try.f14 [1, 1, 1, 1, 1, 1, 1, 1]) (bodyK Try.prog Try.f14 K)) (f14_g8 opacity shares other a_0v1 a_1v1 fv2 b_0v2 b_1v2 deepv4 isv8 want_0v8 want_1v8)
def f14_g9 (shares : Span) (other : Span) (gv9 : Int) (c_0v9 : Int) (c_1v9 : Int) : St := ⟨[(8, .one (.c (.ptr 8 0))), (9, .one (.c (.ptr 9 0))), (20, .one (.c (.ptr 20 0))), (21, .one (.c (.p (.int .i64 gv9))))], [(8, .box 24 [.p (.int .i64 shares.Low), .p (.int .i64 shares.High)]), (9, .box 24 [.p (.int .i64 other.Low), .p (.int .i64 other.High)]), (20, .box 24 [.p (.int .i64 c_0v9), .p (.int .i64 c_1v9)])], []⟩
def f14_at9 (K : List PA → Prop) (shares : Span) (other : Span) (gv9 : Int) (c_0v9 : Int) (c_1v9 : Int) : Prop := vc Try.prog G14 ann14 (cdF Try.f14 [1, 1, 1, 1, 1, 1, 1, 1, 1]) (bodyK Try.prog Try.f14 K) (f14_g9 shares other gv9 c_0v9 c_1v9)
def f14_g10 (shares : Span) (other : Span) (gv9 : Int) (c_0v9 : Int) (c_1v9 : Int) (t163v10 : Bool) : St := ⟨[(8, .one (.c (.ptr 8 0))), (9, .one (.c (.ptr 9 0))), (20, .one (.c (.ptr 20 0))), (21, .one (.c (.p (.int .i64 gv9)))), (163, .one (.c (.p (.bool t163v10))))], [(8, .box 24 [.p (.int .i64 shares.Low), .p (.int .i64 shares.High)]), (9, .box 24 [.p (.int .i64 other.Low), .p (.int .i64 other.High)]), (20, .box 24 [.p (.int .i64 c_0v9), .p (.int .i64 c_1v9)])], []⟩
def f14_at10 (K : List PA → Prop) (shares : Span) (other : Span) (gv9 : Int) (c_0v9 : Int) (c_1v9 : Int) (t163v10 : Bool) : Prop := vc Try.prog G14 ann14 (cdF Try.f14 [1, 1, 1, 1, 1, 1, 1, 1, 1, 0, 1]) (sqK Try.prog G14 ann14 (cdF Try.f14 [1, 1, 1, 1, 1, 1, 1, 1, 1, 1]) (bodyK Try.prog Try.f14 K)) (f14_g10 shares other gv9 c_0v9 c_1v9 t163v10)
def f14_g11 (shares : Span) (other : Span) (gv9 : Int) (c_0v9 : Int) (c_1v9 : Int) : St := ⟨[(8, .one (.c (.ptr 8 0))), (9, .one (.c (.ptr 9 0))), (20, .one (.c (.ptr 20 0))), (21, .one (.c (.p (.int .i64 gv9))))], [(8, .box 24 [.p (.int .i64 shares.Low), .p (.int .i64 shares.High)]), (9, .box 24 [.p (.int .i64 other.Low), .p (.int .i64 other.High)]), (20, .box 24 [.p (.int .i64 c_0v9), .p (.int .i64 c_1v9)])], []⟩
def f14_at11 (K : List PA → Prop) (shares : Span) (other : Span) (gv9 : Int) (c_0v9 : Int) (c_1v9 : Int) : Prop := vc Try.prog G14 ann14 (cdF Try.f14 [1, 1, 1, 1, 1, 1, 1, 1, 1, 1]) (bodyK Try.prog Try.f14 K) (f14_g11 shares other gv9 c_0v9 c_1v9)
def f14_g12 (gv9 : Int) (c_0v9 : Int) (c_1v9 : Int) (isv12 : Bool) (want_0v12 : Int) (want_1v12 : Int) : St := ⟨[(20, .one (.c (.ptr 20 0))), (21, .one (.c (.p (.int .i64 gv9)))), (22, .one (.c (.ptr 22 0))), (23, .one (.c (.p (.bool isv12))))], [(20, .box 24 [.p (.int .i64 c_0v9), .p (.int .i64 c_1v9)]), (22, .box 24 [.p (.int .i64 want_0v12), .p (.int .i64 want_1v12)])], []⟩
def f14_at12 (K : List PA → Prop) (gv9 : Int) (c_0v9 : Int) (c_1v9 : Int) (isv12 : Bool) (want_0v12 : Int) (want_1v12 : Int) : Prop := vc Try.prog G14 ann14 (cdF Try.f14 [1, 1, 1, 1, 1, 1, 1, 1, 1, 1, 1]) (bodyK Try.prog Try.f14 K) (f14_g12 gv9 c_0v9 c_1v9 isv12 want_0v12 want_1v12)
theorem f14_top (parts : Int) (t : (Sl KinkRow)) (opacity : Int) (shares : Span) (other : Span) (K : List PA → Prop) :
  vcFun Try.prog G14 ann14 14 [.one (.int .i64 parts), .one (.sl t.len 3 (fun i => enc_129 (t.get i))), .one (.int .i64 opacity), .agg [.int .i64 shares.Low, .int .i64 shares.High], .agg [.int .i64 other.Low, .int .i64 other.High]] K =
  (condP (decide ((t.len : Int) > (50:Int)))
   (K [.one (.bool true)])
   (f14_at0 K parts t opacity shares other)) := by kernel_rfl
theorem f14_eq0 (K : List PA → Prop) (parts : Int) (t : (Sl KinkRow)) (opacity : Int) (shares : Span) (other : Span) :
  f14_at0 K parts t opacity shares other =
  ((IsE enc_129 3 3 (fun i => enc_129 (t.get i)) ∧ (p51 parts t opacity = true)) ∧
  (f14_at1 K parts t opacity shares other ((s51 parts t opacity).2) (((s51 parts t opacity).1).Low) (((s51 parts t opacity).1).High))) := by kernel_rfl
theorem f14_eq1 (K : List PA → Prop) (parts : Int) (t : (Sl KinkRow)) (opacity : Int) (shares : Span) (other : Span) (ev1 : Int) (a_0v1 : Int) (a_1v1 : Int) :
  f14_at1 K parts t opacity shares other ev1 a_0v1 a_1v1 =
  ((IsE enc_129 3 3 (fun i => enc_129 (t.get i)) ∧ (p52 parts t shares = true)) ∧
  (f14_at2 K parts t opacity shares other ev1 a_0v1 a_1v1 ((s52 parts t shares).2) (((s52 parts t shares).1).Low) (((s52 parts t shares).1).High))) := by kernel_rfl
theorem f14_eq2 (K : List PA → Prop) (parts : Int) (t : (Sl KinkRow)) (opacity : Int) (shares : Span) (other : Span) (ev1 : Int) (a_0v1 : Int) (a_1v1 : Int) (fv2 : Int) (b_0v2 : Int) (b_1v2 : Int) :
  f14_at2 K parts t opacity shares other ev1 a_0v1 a_1v1 fv2 b_0v2 b_1v2 =
  ((IsE enc_129 3 3 (fun i => enc_129 (t.get i)) ∧ (p53 parts t = true)) ∧
  (f14_at3 K parts t opacity shares other ev1 a_0v1 a_1v1 fv2 b_0v2 b_1v2 (s53 parts t))) := by kernel_rfl
theorem f14_eq3 (K : List PA → Prop) (parts : Int) (t : (Sl KinkRow)) (opacity : Int) (shares : Span) (other : Span) (ev1 : Int) (a_0v1 : Int) (a_1v1 : Int) (fv2 : Int) (b_0v2 : Int) (b_1v2 : Int) (finev3 : Bool) :
  f14_at3 K parts t opacity shares other ev1 a_0v1 a_1v1 fv2 b_0v2 b_1v2 finev3 =
  (condP (decide (opacity ≥ (0:Int)))
   (condP (!finev3)
    (condP (ev1 != (2:Int))
     (K [.one (.bool false)])
     (condP (!(match (a_0v1 == (0:Int)) with | true => (match (a_1v1 == (0:Int)) with | true => true | false => false) | false => false))
      (K [.one (.bool false)])
      (f14_at4 K parts t opacity shares other a_0v1 a_1v1 fv2 b_0v2 b_1v2 finev3 (decide (opacity ≤ (1000000:Int))))))
    (condP (!(decide (opacity ≤ (1000000:Int))))
     (condP (ev1 != (2:Int))
      (K [.one (.bool false)])
      (condP (!(match (a_0v1 == (0:Int)) with | true => (match (a_1v1 == (0:Int)) with | true => true | false => false) | false => false))
       (K [.one (.bool false)])
       (f14_at4 K parts t opacity shares other a_0v1 a_1v1 fv2 b_0v2 b_1v2 finev3 (decide (opacity ≤ (1000000:Int))))))
     (condP (ev1 != (0:Int))
      (f14_at5 K parts t opacity shares other a_0v1 a_1v1 fv2 b_0v2 b_1v2 finev3 true)
      ((IsE enc_129 3 3 (fun i => enc_129 (t.get i)) ∧ (p54 parts t opacity = true)) ∧
      (f14_at5 K parts t opacity shares other a_0v1 a_1v1 fv2 b_0v2 b_1v2 finev3 (!(match (a_0v1 == (s54 parts t opacity).Low) with | true => (match (a_1v1 == (s54 parts t opacity).High) with | true => true | false => false) | false => false)))))))
   (condP (!finev3)
    (condP (ev1 != (2:Int))
     (K [.one (.bool false)])
     (condP (!(match (a_0v1 == (0:Int)) with | true => (match (a_1v1 == (0:Int)) with | true => true | false => false) | false => false))
      (K [.one (.bool false)])
      (f14_at4 K parts t opacity shares other a_0v1 a_1v1 fv2 b_0v2 b_1v2 finev3 false)))
    (condP (ev1 != (2:Int))
     (K [.one (.bool false)])
     (condP (!(match (a_0v1 == (0:Int)) with | true => (match (a_1v1 == (0:Int)) with | true => true | false => false) | false => false))
      (K [.one (.bool false)])
      (f14_at4 K parts t opacity shares other a_0v1 a_1v1 fv2 b_0v2 b_1v2 finev3 false))))) := by kernel_rfl
theorem f14_eq4 (K : List PA → Prop) (parts : Int) (t : (Sl KinkRow)) (opacity : Int) (shares : Span) (other : Span) (a_0v1 : Int) (a_1v1 : Int) (fv2 : Int) (b_0v2 : Int) (b_1v2 : Int) (finev3 : Bool) (deepv4 : Bool) :
  f14_at4 K parts t opacity shares other a_0v1 a_1v1 fv2 b_0v2 b_1v2 finev3 deepv4 =
  (condP (!finev3)
   (f14_at6 K parts t opacity shares other a_0v1 a_1v1 fv2 b_0v2 b_1v2 deepv4 true)
   (f14_at6 K parts t opacity shares other a_0v1 a_1v1 fv2 b_0v2 b_1v2 deepv4 (!(s29 shares (0:Int) parts)))) := by kernel_rfl
theorem f14_eq5 (K : List PA → Prop) (parts : Int) (t : (Sl KinkRow)) (opacity : Int) (shares : Span) (other : Span) (a_0v1 : Int) (a_1v1 : Int) (fv2 : Int) (b_0v2 : Int) (b_1v2 : Int) (finev3 : Bool) (t73v5 : Bool) :
  f14_at5 K parts t opacity shares other a_0v1 a_1v1 fv2 b_0v2 b_1v2 finev3 t73v5 =
  (condP t73v5
   (K [.one (.bool false)])
   (f14_at4 K parts t opacity shares other a_0v1 a_1v1 fv2 b_0v2 b_1v2 finev3 (decide (opacity ≤ (1000000:Int))))) := by kernel_rfl
theorem f14_eq6 (K : List PA → Prop) (parts : Int) (t : (Sl KinkRow)) (opacity : Int) (shares : Span) (other : Span) (a_0v1 : Int) (a_1v1 : Int) (fv2 : Int) (b_0v2 : Int) (b_1v2 : Int) (deepv4 : Bool) (t81v6 : Bool) :
  f14_at6 K parts t opacity shares other a_0v1 a_1v1 fv2 b_0v2 b_1v2 deepv4 t81v6 =
  (condP t81v6
   (condP (fv2 != (2:Int))
    (K [.one (.bool false)])
    (condP (!(match (b_0v2 == (0:Int)) with | true => (match (b_1v2 == (0:Int)) with | true => true | false => false) | false => false))
     (K [.one (.bool false)])
     (f14_at7 K shares other)))
   ((IsE enc_129 3 3 (fun i => enc_129 (t.get i)) ∧ (p55 parts t shares = true)) ∧
   (f14_at8 K opacity shares other a_0v1 a_1v1 fv2 b_0v2 b_1v2 deepv4 ((s55 parts t shares).2) (((s55 parts t shares).1).Low) (((s55 parts t shares).1).High)))) := by kernel_rfl
theorem f14_eq7 (K : List PA → Prop) (shares : Span) (other : Span) :
  f14_at7 K shares other =
  (f14_at9 K shares other ((s56 shares other).2) (((s56 shares other).1).Low) (((s56 shares other).1).High)) := by kernel_rfl
theorem f14_eq8 (K : List PA → Prop) (opacity : Int) (shares : Span) (other : Span) (a_0v1 : Int) (a_1v1 : Int) (fv2 : Int) (b_0v2 : Int) (b_1v2 : Int) (deepv4 : Bool) (isv8 : Bool) (want_0v8 : Int) (want_1v8 : Int) :
  f14_at8 K opacity shares other a_0v1 a_1v1 fv2 b_0v2 b_1v2 deepv4 isv8 want_0v8 want_1v8 =
  (condP (!isv8)
   (condP (fv2 != (5:Int))
    (K [.one (.bool false)])
    (condP (!(match (b_0v2 == (0:Int)) with | true => (match (b_1v2 == (0:Int)) with | true => true | false => false) | false => false))
     (K [.one (.bool false)])
     (condP isv8
      (condP (fv2 != (0:Int))
       (K [.one (.bool false)])
       (condP (!(match (b_0v2 == want_0v8) with | true => (match (b_1v2 == want_1v8) with | true => true | false => false) | false => false))
        (K [.one (.bool false)])
        (condP (decide (a_0v1 ≤ shares.High))
         (condP deepv4
          (condP (fv2 == (0:Int))
           (condP (decide (opacity ≥ b_0v2))
            (condP ((decide (a_1v1 ≥ shares.Low)) != (decide (opacity ≤ b_1v2)))
             (K [.one (.bool false)])
             (f14_at7 K shares other))
            (condP ((decide (a_1v1 ≥ shares.Low)) != false)
             (K [.one (.bool false)])
             (f14_at7 K shares other)))
           (condP ((decide (a_1v1 ≥ shares.Low)) != false)
            (K [.one (.bool false)])
            (f14_at7 K shares other)))
          (f14_at7 K shares other))
         (condP deepv4
          (condP (fv2 == (0:Int))
           (condP (decide (opacity ≥ b_0v2))
            (condP (false != (decide (opacity ≤ b_1v2)))
             (K [.one (.bool false)])
             (f14_at7 K shares other))
            (condP (false != false)
             (K [.one (.bool false)])
             (f14_at7 K shares other)))
           (condP (false != false)
            (K [.one (.bool false)])
            (f14_at7 K shares other)))
          (f14_at7 K shares other)))))
      (condP (decide (a_0v1 ≤ shares.High))
       (condP deepv4
        (condP (fv2 == (0:Int))
         (condP (decide (opacity ≥ b_0v2))
          (condP ((decide (a_1v1 ≥ shares.Low)) != (decide (opacity ≤ b_1v2)))
           (K [.one (.bool false)])
           (f14_at7 K shares other))
          (condP ((decide (a_1v1 ≥ shares.Low)) != false)
           (K [.one (.bool false)])
           (f14_at7 K shares other)))
         (condP ((decide (a_1v1 ≥ shares.Low)) != false)
          (K [.one (.bool false)])
          (f14_at7 K shares other)))
        (f14_at7 K shares other))
       (condP deepv4
        (condP (fv2 == (0:Int))
         (condP (decide (opacity ≥ b_0v2))
          (condP (false != (decide (opacity ≤ b_1v2)))
           (K [.one (.bool false)])
           (f14_at7 K shares other))
          (condP (false != false)
           (K [.one (.bool false)])
           (f14_at7 K shares other)))
         (condP (false != false)
          (K [.one (.bool false)])
          (f14_at7 K shares other)))
        (f14_at7 K shares other))))))
   (condP isv8
    (condP (fv2 != (0:Int))
     (K [.one (.bool false)])
     (condP (!(match (b_0v2 == want_0v8) with | true => (match (b_1v2 == want_1v8) with | true => true | false => false) | false => false))
      (K [.one (.bool false)])
      (condP (decide (a_0v1 ≤ shares.High))
       (condP deepv4
        (condP (fv2 == (0:Int))
         (condP (decide (opacity ≥ b_0v2))
          (condP ((decide (a_1v1 ≥ shares.Low)) != (decide (opacity ≤ b_1v2)))
           (K [.one (.bool false)])
           (f14_at7 K shares other))
          (condP ((decide (a_1v1 ≥ shares.Low)) != false)
           (K [.one (.bool false)])
           (f14_at7 K shares other)))
         (condP ((decide (a_1v1 ≥ shares.Low)) != false)
          (K [.one (.bool false)])
          (f14_at7 K shares other)))
        (f14_at7 K shares other))
       (condP deepv4
        (condP (fv2 == (0:Int))
         (condP (decide (opacity ≥ b_0v2))
          (condP (false != (decide (opacity ≤ b_1v2)))
           (K [.one (.bool false)])
           (f14_at7 K shares other))
          (condP (false != false)
           (K [.one (.bool false)])
           (f14_at7 K shares other)))
         (condP (false != false)
          (K [.one (.bool false)])
          (f14_at7 K shares other)))
        (f14_at7 K shares other)))))
    (condP (decide (a_0v1 ≤ shares.High))
     (condP deepv4
      (condP (fv2 == (0:Int))
       (condP (decide (opacity ≥ b_0v2))
        (condP ((decide (a_1v1 ≥ shares.Low)) != (decide (opacity ≤ b_1v2)))
         (K [.one (.bool false)])
         (f14_at7 K shares other))
        (condP ((decide (a_1v1 ≥ shares.Low)) != false)
         (K [.one (.bool false)])
         (f14_at7 K shares other)))
       (condP ((decide (a_1v1 ≥ shares.Low)) != false)
        (K [.one (.bool false)])
        (f14_at7 K shares other)))
      (f14_at7 K shares other))
     (condP deepv4
      (condP (fv2 == (0:Int))
       (condP (decide (opacity ≥ b_0v2))
        (condP (false != (decide (opacity ≤ b_1v2)))
         (K [.one (.bool false)])
         (f14_at7 K shares other))
        (condP (false != false)
         (K [.one (.bool false)])
         (f14_at7 K shares other)))
       (condP (false != false)
        (K [.one (.bool false)])
        (f14_at7 K shares other)))
      (f14_at7 K shares other))))) := by kernel_rfl
theorem f14_eq9 (K : List PA → Prop) (shares : Span) (other : Span) (gv9 : Int) (c_0v9 : Int) (c_1v9 : Int) :
  f14_at9 K shares other gv9 c_0v9 c_1v9 =
  (condP (!(s29 shares (0:Int) (1000000:Int)))
   (f14_at10 K shares other gv9 c_0v9 c_1v9 true)
   (f14_at10 K shares other gv9 c_0v9 c_1v9 (!(s29 other (0:Int) (1000000:Int))))) := by kernel_rfl
theorem f14_eq10 (K : List PA → Prop) (shares : Span) (other : Span) (gv9 : Int) (c_0v9 : Int) (c_1v9 : Int) (t163v10 : Bool) :
  f14_at10 K shares other gv9 c_0v9 c_1v9 t163v10 =
  (condP t163v10
   (condP (gv9 == (2:Int))
    (condP (match (c_0v9 == (0:Int)) with | true => (match (c_1v9 == (0:Int)) with | true => true | false => false) | false => false)
     (K [.one (.bool true)])
     (K [.one (.bool false)]))
    (K [.one (.bool false)]))
   (f14_at11 K shares other gv9 c_0v9 c_1v9)) := by kernel_rfl
theorem f14_eq11 (K : List PA → Prop) (shares : Span) (other : Span) (gv9 : Int) (c_0v9 : Int) (c_1v9 : Int) :
  f14_at11 K shares other gv9 c_0v9 c_1v9 =
  (f14_at12 K gv9 c_0v9 c_1v9 ((s57 shares other).2) (((s57 shares other).1).Low) (((s57 shares other).1).High)) := by kernel_rfl
theorem f14_eq12 (K : List PA → Prop) (gv9 : Int) (c_0v9 : Int) (c_1v9 : Int) (isv12 : Bool) (want_0v12 : Int) (want_1v12 : Int) :
  f14_at12 K gv9 c_0v9 c_1v9 isv12 want_0v12 want_1v12 =
  (condP (!isv12)
   (condP (gv9 == (5:Int))
    (condP (match (c_0v9 == (0:Int)) with | true => (match (c_1v9 == (0:Int)) with | true => true | false => false) | false => false)
     (K [.one (.bool true)])
     (K [.one (.bool false)]))
    (K [.one (.bool false)]))
   (condP (gv9 == (0:Int))
    (condP (match (c_0v9 == want_0v12) with | true => (match (c_1v9 == want_1v12) with | true => true | false => false) | false => false)
     (K [.one (.bool true)])
     (K [.one (.bool false)]))
    (K [.one (.bool false)]))) := by kernel_rfl
abbrev R14 := Bool
abbrev e14 (r : Bool) : List PA := [.one (.bool r)]
attribute [irreducible] f14_at0 f14_at1 f14_at2 f14_at3 f14_at4 f14_at5 f14_at6 f14_at7 f14_at8 f14_at9 f14_at10 f14_at11 f14_at12
def s14_at12 (gv9 : Int) (c_0v9 : Int) (c_1v9 : Int) (isv12 : Bool) (want_0v12 : Int) (want_1v12 : Int) : Bool :=
  (cond (!isv12)
   (cond (gv9 == (5:Int))
    (cond (match (c_0v9 == (0:Int)) with | true => (match (c_1v9 == (0:Int)) with | true => true | false => false) | false => false)
     true
     false)
    false)
   (cond (gv9 == (0:Int))
    (cond (match (c_0v9 == want_0v12) with | true => (match (c_1v9 == want_1v12) with | true => true | false => false) | false => false)
     true
     false)
    false))
theorem q14_at12 (K : List PA → Prop) (gv9 : Int) (c_0v9 : Int) (c_1v9 : Int) (isv12 : Bool) (want_0v12 : Int) (want_1v12 : Int) (hk : K (e14 (s14_at12 gv9 c_0v9 c_1v9 isv12 want_0v12 want_1v12))) : f14_at12 K gv9 c_0v9 c_1v9 isv12 want_0v12 want_1v12 := by
  refine ofEq (f14_eq12 K gv9 c_0v9 c_1v9 isv12 want_0v12 want_1v12) ?_
  unfold s14_at12 at hk
  exact (condP_gt (K := fun r => K (e14 r))
   (fun hk => (condP_gt (K := fun r => K (e14 r))
    (fun hk => (condP_gt (K := fun r => K (e14 r))
     (fun hk => hk)
     (fun hk => hk) hk))
    (fun hk => hk) hk))
   (fun hk => (condP_gt (K := fun r => K (e14 r))
    (fun hk => (condP_gt (K := fun r => K (e14 r))
     (fun hk => hk)
     (fun hk => hk) hk))
    (fun hk => hk) hk)) hk)
def s14_at11 (shares : Span) (other : Span) (gv9 : Int) (c_0v9 : Int) (c_1v9 : Int) : Bool :=
  (s14_at12 gv9 c_0v9 c_1v9 ((s57 shares other).2) (((s57 shares other).1).Low) (((s57 shares other).1).High))
theorem q14_at11 (K : List PA → Prop) (shares : Span) (other : Span) (gv9 : Int) (c_0v9 : Int) (c_1v9 : Int) (hk : K (e14 (s14_at11 shares other gv9 c_0v9 c_1v9))) : f14_at11 K shares other gv9 c_0v9 c_1v9 := by
  refine ofEq (f14_eq11 K shares other gv9 c_0v9 c_1v9) ?_
  unfold s14_at11 at hk
  exact (q14_at12 K gv9 c_0v9 c_1v9 ((s57 shares other).2) (((s57 shares other).1).Low) (((s57 shares other).1).High) hk)
def s14_at10 (shares : Span) (other : Span) (gv9 : Int) (c_0v9 : Int) (c_1v9 : Int) (t163v10 : Bool) : Bool :=
  (cond t163v10
   (cond (gv9 == (2:Int))
    (cond (match (c_0v9 == (0:Int)) with | true => (match (c_1v9 == (0:Int)) with | true => true | false => false) | false => false)
     true
     false)
    false)
   (s14_at11 shares other gv9 c_0v9 c_1v9))
theorem q14_at10 (K : List PA → Prop) (shares : Span) (other : Span) (gv9 : Int) (c_0v9 : Int) (c_1v9 : Int) (t163v10 : Bool) (hk : K (e14 (s14_at10 shares other gv9 c_0v9 c_1v9 t163v10))) : f14_at10 K shares other gv9 c_0v9 c_1v9 t163v10 := by
  refine ofEq (f14_eq10 K shares other gv9 c_0v9 c_1v9 t163v10) ?_
  unfold s14_at10 at hk
  exact (condP_gt (K := fun r => K (e14 r))
   (fun hk => (condP_gt (K := fun r => K (e14 r))
    (fun hk => (condP_gt (K := fun r => K (e14 r))
     (fun hk => hk)
     (fun hk => hk) hk))
    (fun hk => hk) hk))
   (fun hk => (q14_at11 K shares other gv9 c_0v9 c_1v9 hk)) hk)
def s14_at9 (shares : Span) (other : Span) (gv9 : Int) (c_0v9 : Int) (c_1v9 : Int) : Bool :=
  (cond (!(s29 shares (0:Int) (1000000:Int)))
   (s14_at10 shares other gv9 c_0v9 c_1v9 true)
   (s14_at10 shares other gv9 c_0v9 c_1v9 (!(s29 other (0:Int) (1000000:Int)))))
theorem q14_at9 (K : List PA → Prop) (shares : Span) (other : Span) (gv9 : Int) (c_0v9 : Int) (c_1v9 : Int) (hk : K (e14 (s14_at9 shares other gv9 c_0v9 c_1v9))) : f14_at9 K shares other gv9 c_0v9 c_1v9 := by
  refine ofEq (f14_eq9 K shares other gv9 c_0v9 c_1v9) ?_
  unfold s14_at9 at hk
  exact (condP_gt (K := fun r => K (e14 r))
   (fun hk => (q14_at10 K shares other gv9 c_0v9 c_1v9 true hk))
   (fun hk => (q14_at10 K shares other gv9 c_0v9 c_1v9 (!(s29 other (0:Int) (1000000:Int))) hk)) hk)
def s14_at7 (shares : Span) (other : Span) : Bool :=
  (s14_at9 shares other ((s56 shares other).2) (((s56 shares other).1).Low) (((s56 shares other).1).High))
theorem q14_at7 (K : List PA → Prop) (shares : Span) (other : Span) (hk : K (e14 (s14_at7 shares other))) : f14_at7 K shares other := by
  refine ofEq (f14_eq7 K shares other) ?_
  unfold s14_at7 at hk
  exact (q14_at9 K shares other ((s56 shares other).2) (((s56 shares other).1).Low) (((s56 shares other).1).High) hk)
def s14_at8 (opacity : Int) (shares : Span) (other : Span) (a_0v1 : Int) (a_1v1 : Int) (fv2 : Int) (b_0v2 : Int) (b_1v2 : Int) (deepv4 : Bool) (isv8 : Bool) (want_0v8 : Int) (want_1v8 : Int) : Bool :=
  (cond (!isv8)
   (cond (fv2 != (5:Int))
    false
    (cond (!(match (b_0v2 == (0:Int)) with | true => (match (b_1v2 == (0:Int)) with | true => true | false => false) | false => false))
     false
     (cond isv8
      (cond (fv2 != (0:Int))
       false
       (cond (!(match (b_0v2 == want_0v8) with | true => (match (b_1v2 == want_1v8) with | true => true | false => false) | false => false))
        false
        (cond (decide (a_0v1 ≤ shares.High))
         (cond deepv4
          (cond (fv2 == (0:Int))
           (cond (decide (opacity ≥ b_0v2))
            (cond ((decide (a_1v1 ≥ shares.Low)) != (decide (opacity ≤ b_1v2)))
             false
             (s14_at7 shares other))
            (cond ((decide (a_1v1 ≥ shares.Low)) != false)
             false
             (s14_at7 shares other)))
           (cond ((decide (a_1v1 ≥ shares.Low)) != false)
            false
            (s14_at7 shares other)))
          (s14_at7 shares other))
         (cond deepv4
          (cond (fv2 == (0:Int))
           (cond (decide (opacity ≥ b_0v2))
            (cond (false != (decide (opacity ≤ b_1v2)))
             false
             (s14_at7 shares other))
            (cond (false != false)
             false
             (s14_at7 shares other)))
           (cond (false != false)
            false
            (s14_at7 shares other)))
          (s14_at7 shares other)))))
      (cond (decide (a_0v1 ≤ shares.High))
       (cond deepv4
        (cond (fv2 == (0:Int))
         (cond (decide (opacity ≥ b_0v2))
          (cond ((decide (a_1v1 ≥ shares.Low)) != (decide (opacity ≤ b_1v2)))
           false
           (s14_at7 shares other))
          (cond ((decide (a_1v1 ≥ shares.Low)) != false)
           false
           (s14_at7 shares other)))
         (cond ((decide (a_1v1 ≥ shares.Low)) != false)
          false
          (s14_at7 shares other)))
        (s14_at7 shares other))
       (cond deepv4
        (cond (fv2 == (0:Int))
         (cond (decide (opacity ≥ b_0v2))
          (cond (false != (decide (opacity ≤ b_1v2)))
           false
           (s14_at7 shares other))
          (cond (false != false)
           false
           (s14_at7 shares other)))
         (cond (false != false)
          false
          (s14_at7 shares other)))
        (s14_at7 shares other))))))
   (cond isv8
    (cond (fv2 != (0:Int))
     false
     (cond (!(match (b_0v2 == want_0v8) with | true => (match (b_1v2 == want_1v8) with | true => true | false => false) | false => false))
      false
      (cond (decide (a_0v1 ≤ shares.High))
       (cond deepv4
        (cond (fv2 == (0:Int))
         (cond (decide (opacity ≥ b_0v2))
          (cond ((decide (a_1v1 ≥ shares.Low)) != (decide (opacity ≤ b_1v2)))
           false
           (s14_at7 shares other))
          (cond ((decide (a_1v1 ≥ shares.Low)) != false)
           false
           (s14_at7 shares other)))
         (cond ((decide (a_1v1 ≥ shares.Low)) != false)
          false
          (s14_at7 shares other)))
        (s14_at7 shares other))
       (cond deepv4
        (cond (fv2 == (0:Int))
         (cond (decide (opacity ≥ b_0v2))
          (cond (false != (decide (opacity ≤ b_1v2)))
           false
           (s14_at7 shares other))
          (cond (false != false)
           false
           (s14_at7 shares other)))
         (cond (false != false)
          false
          (s14_at7 shares other)))
        (s14_at7 shares other)))))
    (cond (decide (a_0v1 ≤ shares.High))
     (cond deepv4
      (cond (fv2 == (0:Int))
       (cond (decide (opacity ≥ b_0v2))
        (cond ((decide (a_1v1 ≥ shares.Low)) != (decide (opacity ≤ b_1v2)))
         false
         (s14_at7 shares other))
        (cond ((decide (a_1v1 ≥ shares.Low)) != false)
         false
         (s14_at7 shares other)))
       (cond ((decide (a_1v1 ≥ shares.Low)) != false)
        false
        (s14_at7 shares other)))
      (s14_at7 shares other))
     (cond deepv4
      (cond (fv2 == (0:Int))
       (cond (decide (opacity ≥ b_0v2))
        (cond (false != (decide (opacity ≤ b_1v2)))
         false
         (s14_at7 shares other))
        (cond (false != false)
         false
         (s14_at7 shares other)))
       (cond (false != false)
        false
        (s14_at7 shares other)))
      (s14_at7 shares other)))))
theorem q14_at8 (K : List PA → Prop) (opacity : Int) (shares : Span) (other : Span) (a_0v1 : Int) (a_1v1 : Int) (fv2 : Int) (b_0v2 : Int) (b_1v2 : Int) (deepv4 : Bool) (isv8 : Bool) (want_0v8 : Int) (want_1v8 : Int) (hk : K (e14 (s14_at8 opacity shares other a_0v1 a_1v1 fv2 b_0v2 b_1v2 deepv4 isv8 want_0v8 want_1v8))) : f14_at8 K opacity shares other a_0v1 a_1v1 fv2 b_0v2 b_1v2 deepv4 isv8 want_0v8 want_1v8 := by
  refine ofEq (f14_eq8 K opacity shares other a_0v1 a_1v1 fv2 b_0v2 b_1v2 deepv4 isv8 want_0v8 want_1v8) ?_
  unfold s14_at8 at hk
  exact (condP_gt (K := fun r => K (e14 r))
   (fun hk => (condP_gt (K := fun r => K (e14 r))
    (fun hk => hk)
    (fun hk => (condP_gt (K := fun r => K (e14 r))
     (fun hk => hk)
     (fun hk => (condP_gt (K := fun r => K (e14 r))
      (fun hk => (condP_gt (K := fun r => K (e14 r))
       (fun hk => hk)
       (fun hk => (condP_gt (K := fun r => K (e14 r))
        (fun hk => hk)
        (fun hk => (condP_gt (K := fun r => K (e14 r))
         (fun hk => (condP_gt (K := fun r => K (e14 r))
          (fun hk => (condP_gt (K := fun r => K (e14 r))
           (fun hk => (condP_gt (K := fun r => K (e14 r))
            (fun hk => (condP_gt (K := fun r => K (e14 r))
             (fun hk => hk)
             (fun hk => (q14_at7 K shares other hk)) hk))
            (fun hk => (condP_gt (K := fun r => K (e14 r))
             (fun hk => hk)
             (fun hk => (q14_at7 K shares other hk)) hk)) hk))
           (fun hk => (condP_gt (K := fun r => K (e14 r))
            (fun hk => hk)
            (fun hk => (q14_at7 K shares other hk)) hk)) hk))
          (fun hk => (q14_at7 K shares other hk)) hk))
         (fun hk => (condP_gt (K := fun r => K (e14 r))
          (fun hk => (condP_gt (K := fun r => K (e14 r))
           (fun hk => (condP_gt (K := fun r => K (e14 r))
            (fun hk => (condP_gt (K := fun r => K (e14 r))
             (fun hk => hk)
             (fun hk => (q14_at7 K shares other hk)) hk))
            (fun hk => (condP_gt (K := fun r => K (e14 r))
             (fun hk => hk)
             (fun hk => (q14_at7 K shares other hk)) hk)) hk))
           (fun hk => (condP_gt (K := fun r => K (e14 r))
            (fun hk => hk)
            (fun hk => (q14_at7 K shares other hk)) hk)) hk))
          (fun hk => (q14_at7 K shares other hk)) hk)) hk)) hk)) hk))
      (fun hk => (condP_gt (K := fun r => K (e14 r))
       (fun hk => (condP_gt (K := fun r => K (e14 r))
        (fun hk => (condP_gt (K := fun r => K (e14 r))
         (fun hk => (condP_gt (K := fun r => K (e14 r))
          (fun hk => (condP_gt (K := fun r => K (e14 r))
           (fun hk => hk)
           (fun hk => (q14_at7 K shares other hk)) hk))
          (fun hk => (condP_gt (K := fun r => K (e14 r))
           (fun hk => hk)
           (fun hk => (q14_at7 K shares other hk)) hk)) hk))
         (fun hk => (condP_gt (K := fun r => K (e14 r))
          (fun hk => hk)
          (fun hk => (q14_at7 K shares other hk)) hk)) hk))
        (fun hk => (q14_at7 K shares other hk)) hk))
       (fun hk => (condP_gt (K := fun r => K (e14 r))
        (fun hk => (condP_gt (K := fun r => K (e14 r))
         (fun hk => (condP_gt (K := fun r => K (e14 r))
          (fun hk => (condP_gt (K := fun r => K (e14 r))
           (fun hk => hk)
           (fun hk => (q14_at7 K shares other hk)) hk))
          (fun hk => (condP_gt (K := fun r => K (e14 r))
           (fun hk => hk)
           (fun hk => (q14_at7 K shares other hk)) hk)) hk))
         (fun hk => (condP_gt (K := fun r => K (e14 r))
          (fun hk => hk)
          (fun hk => (q14_at7 K shares other hk)) hk)) hk))
        (fun hk => (q14_at7 K shares other hk)) hk)) hk)) hk)) hk)) hk))
   (fun hk => (condP_gt (K := fun r => K (e14 r))
    (fun hk => (condP_gt (K := fun r => K (e14 r))
     (fun hk => hk)
     (fun hk => (condP_gt (K := fun r => K (e14 r))
      (fun hk => hk)
      (fun hk => (condP_gt (K := fun r => K (e14 r))
       (fun hk => (condP_gt (K := fun r => K (e14 r))
        (fun hk => (condP_gt (K := fun r => K (e14 r))
         (fun hk => (condP_gt (K := fun r => K (e14 r))
          (fun hk => (condP_gt (K := fun r => K (e14 r))
           (fun hk => hk)
           (fun hk => (q14_at7 K shares other hk)) hk))
          (fun hk => (condP_gt (K := fun r => K (e14 r))
           (fun hk => hk)
           (fun hk => (q14_at7 K shares other hk)) hk)) hk))
         (fun hk => (condP_gt (K := fun r => K (e14 r))
          (fun hk => hk)
          (fun hk => (q14_at7 K shares other hk)) hk)) hk))
        (fun hk => (q14_at7 K shares other hk)) hk))
       (fun hk => (condP_gt (K := fun r => K (e14 r))
        (fun hk => (condP_gt (K := fun r => K (e14 r))
         (fun hk => (condP_gt (K := fun r => K (e14 r))
          (fun hk => (condP_gt (K := fun r => K (e14 r))
           (fun hk => hk)
           (fun hk => (q14_at7 K shares other hk)) hk))
          (fun hk => (condP_gt (K := fun r => K (e14 r))
           (fun hk => hk)
           (fun hk => (q14_at7 K shares other hk)) hk)) hk))
         (fun hk => (condP_gt (K := fun r => K (e14 r))
          (fun hk => hk)
          (fun hk => (q14_at7 K shares other hk)) hk)) hk))
        (fun hk => (q14_at7 K shares other hk)) hk)) hk)) hk)) hk))
    (fun hk => (condP_gt (K := fun r => K (e14 r))
     (fun hk => (condP_gt (K := fun r => K (e14 r))
      (fun hk => (condP_gt (K := fun r => K (e14 r))
       (fun hk => (condP_gt (K := fun r => K (e14 r))
        (fun hk => (condP_gt (K := fun r => K (e14 r))
         (fun hk => hk)
         (fun hk => (q14_at7 K shares other hk)) hk))
        (fun hk => (condP_gt (K := fun r => K (e14 r))
         (fun hk => hk)
         (fun hk => (q14_at7 K shares other hk)) hk)) hk))
       (fun hk => (condP_gt (K := fun r => K (e14 r))
        (fun hk => hk)
        (fun hk => (q14_at7 K shares other hk)) hk)) hk))
      (fun hk => (q14_at7 K shares other hk)) hk))
     (fun hk => (condP_gt (K := fun r => K (e14 r))
      (fun hk => (condP_gt (K := fun r => K (e14 r))
       (fun hk => (condP_gt (K := fun r => K (e14 r))
        (fun hk => (condP_gt (K := fun r => K (e14 r))
         (fun hk => hk)
         (fun hk => (q14_at7 K shares other hk)) hk))
        (fun hk => (condP_gt (K := fun r => K (e14 r))
         (fun hk => hk)
         (fun hk => (q14_at7 K shares other hk)) hk)) hk))
       (fun hk => (condP_gt (K := fun r => K (e14 r))
        (fun hk => hk)
        (fun hk => (q14_at7 K shares other hk)) hk)) hk))
      (fun hk => (q14_at7 K shares other hk)) hk)) hk)) hk)) hk)
def s14_at6 (parts : Int) (t : (Sl KinkRow)) (opacity : Int) (shares : Span) (other : Span) (a_0v1 : Int) (a_1v1 : Int) (fv2 : Int) (b_0v2 : Int) (b_1v2 : Int) (deepv4 : Bool) (t81v6 : Bool) : Bool :=
  (cond t81v6
   (cond (fv2 != (2:Int))
    false
    (cond (!(match (b_0v2 == (0:Int)) with | true => (match (b_1v2 == (0:Int)) with | true => true | false => false) | false => false))
     false
     (s14_at7 shares other)))
   (s14_at8 opacity shares other a_0v1 a_1v1 fv2 b_0v2 b_1v2 deepv4 ((s55 parts t shares).2) (((s55 parts t shares).1).Low) (((s55 parts t shares).1).High)))
def p14_at6 (parts : Int) (t : (Sl KinkRow)) (opacity : Int) (shares : Span) (other : Span) (a_0v1 : Int) (a_1v1 : Int) (fv2 : Int) (b_0v2 : Int) (b_1v2 : Int) (deepv4 : Bool) (t81v6 : Bool) : Bool :=
  (cond t81v6
   true
   (decide ((p55 parts t shares = true)) &&
   true))
theorem q14_at6 (K : List PA → Prop) (parts : Int) (t : (Sl KinkRow)) (opacity : Int) (shares : Span) (other : Span) (a_0v1 : Int) (a_1v1 : Int) (fv2 : Int) (b_0v2 : Int) (b_1v2 : Int) (deepv4 : Bool) (t81v6 : Bool) (hs : p14_at6 parts t opacity shares other a_0v1 a_1v1 fv2 b_0v2 b_1v2 deepv4 t81v6 = true) (hk : K (e14 (s14_at6 parts t opacity shares other a_0v1 a_1v1 fv2 b_0v2 b_1v2 deepv4 t81v6))) : f14_at6 K parts t opacity shares other a_0v1 a_1v1 fv2 b_0v2 b_1v2 deepv4 t81v6 := by
  refine ofEq (f14_eq6 K parts t opacity shares other a_0v1 a_1v1 fv2 b_0v2 b_1v2 deepv4 t81v6) ?_
  unfold p14_at6 at hs
  unfold s14_at6 at hk
  exact (condB_go (K := fun r => K (e14 r))
   (fun hs hk => (condP_gt (K := fun r => K (e14 r))
    (fun hk => hk)
    (fun hk => (condP_gt (K := fun r => K (e14 r))
     (fun hk => hk)
     (fun hk => (q14_at7 K shares other hk)) hk)) hk))
   (fun hs hk => (andK hs fun hc hs => ⟨⟨isE, hc⟩, (q14_at8 K opacity shares other a_0v1 a_1v1 fv2 b_0v2 b_1v2 deepv4 ((s55 parts t shares).2) (((s55 parts t shares).1).Low) (((s55 parts t shares).1).High) hk)⟩)) hs hk)
def s14_at4 (parts : Int) (t : (Sl KinkRow)) (opacity : Int) (shares : Span) (other : Span) (a_0v1 : Int) (a_1v1 : Int) (fv2 : Int) (b_0v2 : Int) (b_1v2 : Int) (finev3 : Bool) (deepv4 : Bool) : Bool :=
  (cond (!finev3)
   (s14_at6 parts t opacity shares other a_0v1 a_1v1 fv2 b_0v2 b_1v2 deepv4 true)
   (s14_at6 parts t opacity shares other a_0v1 a_1v1 fv2 b_0v2 b_1v2 deepv4 (!(s29 shares (0:Int) parts))))
def p14_at4 (parts : Int) (t : (Sl KinkRow)) (opacity : Int) (shares : Span) (other : Span) (a_0v1 : Int) (a_1v1 : Int) (fv2 : Int) (b_0v2 : Int) (b_1v2 : Int) (finev3 : Bool) (deepv4 : Bool) : Bool :=
  (cond (!finev3)
   (p14_at6 parts t opacity shares other a_0v1 a_1v1 fv2 b_0v2 b_1v2 deepv4 true)
   (p14_at6 parts t opacity shares other a_0v1 a_1v1 fv2 b_0v2 b_1v2 deepv4 (!(s29 shares (0:Int) parts))))
theorem q14_at4 (K : List PA → Prop) (parts : Int) (t : (Sl KinkRow)) (opacity : Int) (shares : Span) (other : Span) (a_0v1 : Int) (a_1v1 : Int) (fv2 : Int) (b_0v2 : Int) (b_1v2 : Int) (finev3 : Bool) (deepv4 : Bool) (hs : p14_at4 parts t opacity shares other a_0v1 a_1v1 fv2 b_0v2 b_1v2 finev3 deepv4 = true) (hk : K (e14 (s14_at4 parts t opacity shares other a_0v1 a_1v1 fv2 b_0v2 b_1v2 finev3 deepv4))) : f14_at4 K parts t opacity shares other a_0v1 a_1v1 fv2 b_0v2 b_1v2 finev3 deepv4 := by
  refine ofEq (f14_eq4 K parts t opacity shares other a_0v1 a_1v1 fv2 b_0v2 b_1v2 finev3 deepv4) ?_
  unfold p14_at4 at hs
  unfold s14_at4 at hk
  exact (condB_go (K := fun r => K (e14 r))
   (fun hs hk => (q14_at6 K parts t opacity shares other a_0v1 a_1v1 fv2 b_0v2 b_1v2 deepv4 true hs hk))
   (fun hs hk => (q14_at6 K parts t opacity shares other a_0v1 a_1v1 fv2 b_0v2 b_1v2 deepv4 (!(s29 shares (0:Int) parts)) hs hk)) hs hk)
def s14_at5 (parts : Int) (t : (Sl KinkRow)) (opacity : Int) (shares : Span) (other : Span) (a_0v1 : Int) (a_1v1 : Int) (fv2 : Int) (b_0v2 : Int) (b_1v2 : Int) (finev3 : Bool) (t73v5 : Bool) : Bool :=
  (cond t73v5
   false
   (s14_at4 parts t opacity shares other a_0v1 a_1v1 fv2 b_0v2 b_1v2 finev3 (decide (opacity ≤ (1000000:Int)))))
def p14_at5 (parts : Int) (t : (Sl KinkRow)) (opacity : Int) (shares : Span) (other : Span) (a_0v1 : Int) (a_1v1 : Int) (fv2 : Int) (b_0v2 : Int) (b_1v2 : Int) (finev3 : Bool) (t73v5 : Bool) : Bool :=
  (cond t73v5
   true
   (p14_at4 parts t opacity shares other a_0v1 a_1v1 fv2 b_0v2 b_1v2 finev3 (decide (opacity ≤ (1000000:Int)))))
theorem q14_at5 (K : List PA → Prop) (parts : Int) (t : (Sl KinkRow)) (opacity : Int) (shares : Span) (other : Span) (a_0v1 : Int) (a_1v1 : Int) (fv2 : Int) (b_0v2 : Int) (b_1v2 : Int) (finev3 : Bool) (t73v5 : Bool) (hs : p14_at5 parts t opacity shares other a_0v1 a_1v1 fv2 b_0v2 b_1v2 finev3 t73v5 = true) (hk : K (e14 (s14_at5 parts t opacity shares other a_0v1 a_1v1 fv2 b_0v2 b_1v2 finev3 t73v5))) : f14_at5 K parts t opacity shares other a_0v1 a_1v1 fv2 b_0v2 b_1v2 finev3 t73v5 := by
  refine ofEq (f14_eq5 K parts t opacity shares other a_0v1 a_1v1 fv2 b_0v2 b_1v2 finev3 t73v5) ?_
  unfold p14_at5 at hs
  unfold s14_at5 at hk
  exact (condB_go (K := fun r => K (e14 r))
   (fun hs hk => hk)
   (fun hs hk => (q14_at4 K parts t opacity shares other a_0v1 a_1v1 fv2 b_0v2 b_1v2 finev3 (decide (opacity ≤ (1000000:Int))) hs hk)) hs hk)
def s14_at3 (parts : Int) (t : (Sl KinkRow)) (opacity : Int) (shares : Span) (other : Span) (ev1 : Int) (a_0v1 : Int) (a_1v1 : Int) (fv2 : Int) (b_0v2 : Int) (b_1v2 : Int) (finev3 : Bool) : Bool :=
  (cond (decide (opacity ≥ (0:Int)))
   (cond (!finev3)
    (cond (ev1 != (2:Int))
     false
     (cond (!(match (a_0v1 == (0:Int)) with | true => (match (a_1v1 == (0:Int)) with | true => true | false => false) | false => false))
      false
      (s14_at4 parts t opacity shares other a_0v1 a_1v1 fv2 b_0v2 b_1v2 finev3 (decide (opacity ≤ (1000000:Int))))))
    (cond (!(decide (opacity ≤ (1000000:Int))))
     (cond (ev1 != (2:Int))
      false
      (cond (!(match (a_0v1 == (0:Int)) with | true => (match (a_1v1 == (0:Int)) with | true => true | false => false) | false => false))
       false
       (s14_at4 parts t opacity shares other a_0v1 a_1v1 fv2 b_0v2 b_1v2 finev3 (decide (opacity ≤ (1000000:Int))))))
     (cond (ev1 != (0:Int))
      (s14_at5 parts t opacity shares other a_0v1 a_1v1 fv2 b_0v2 b_1v2 finev3 true)
      (s14_at5 parts t opacity shares other a_0v1 a_1v1 fv2 b_0v2 b_1v2 finev3 (!(match (a_0v1 == (s54 parts t opacity).Low) with | true => (match (a_1v1 == (s54 parts t opacity).High) with | true => true | false => false) | false => false))))))
   (cond (!finev3)
    (cond (ev1 != (2:Int))
     false
     (cond (!(match (a_0v1 == (0:Int)) with | true => (match (a_1v1 == (0:Int)) with | true => true | false => false) | false => false))
      false
      (s14_at4 parts t opacity shares other a_0v1 a_1v1 fv2 b_0v2 b_1v2 finev3 false)))
    (cond (ev1 != (2:Int))
     false
     (cond (!(match (a_0v1 == (0:Int)) with | true => (match (a_1v1 == (0:Int)) with | true => true | false => false) | false => false))
      false
      (s14_at4 parts t opacity shares other a_0v1 a_1v1 fv2 b_0v2 b_1v2 finev3 false)))))
def p14_at3 (parts : Int) (t : (Sl KinkRow)) (opacity : Int) (shares : Span) (other : Span) (ev1 : Int) (a_0v1 : Int) (a_1v1 : Int) (fv2 : Int) (b_0v2 : Int) (b_1v2 : Int) (finev3 : Bool) : Bool :=
  (cond (decide (opacity ≥ (0:Int)))
   (cond (!finev3)
    (cond (ev1 != (2:Int))
     true
     (cond (!(match (a_0v1 == (0:Int)) with | true => (match (a_1v1 == (0:Int)) with | true => true | false => false) | false => false))
      true
      (p14_at4 parts t opacity shares other a_0v1 a_1v1 fv2 b_0v2 b_1v2 finev3 (decide (opacity ≤ (1000000:Int))))))
    (cond (!(decide (opacity ≤ (1000000:Int))))
     (cond (ev1 != (2:Int))
      true
      (cond (!(match (a_0v1 == (0:Int)) with | true => (match (a_1v1 == (0:Int)) with | true => true | false => false) | false => false))
       true
       (p14_at4 parts t opacity shares other a_0v1 a_1v1 fv2 b_0v2 b_1v2 finev3 (decide (opacity ≤ (1000000:Int))))))
     (cond (ev1 != (0:Int))
      (p14_at5 parts t opacity shares other a_0v1 a_1v1 fv2 b_0v2 b_1v2 finev3 true)
      (decide ((p54 parts t opacity = true)) &&
      (p14_at5 parts t opacity shares other a_0v1 a_1v1 fv2 b_0v2 b_1v2 finev3 (!(match (a_0v1 == (s54 parts t opacity).Low) with | true => (match (a_1v1 == (s54 parts t opacity).High) with | true => true | false => false) | false => false)))))))
   (cond (!finev3)
    (cond (ev1 != (2:Int))
     true
     (cond (!(match (a_0v1 == (0:Int)) with | true => (match (a_1v1 == (0:Int)) with | true => true | false => false) | false => false))
      true
      (p14_at4 parts t opacity shares other a_0v1 a_1v1 fv2 b_0v2 b_1v2 finev3 false)))
    (cond (ev1 != (2:Int))
     true
     (cond (!(match (a_0v1 == (0:Int)) with | true => (match (a_1v1 == (0:Int)) with | true => true | false => false) | false => false))
      true
      (p14_at4 parts t opacity shares other a_0v1 a_1v1 fv2 b_0v2 b_1v2 finev3 false)))))
theorem q14_at3 (K : List PA → Prop) (parts : Int) (t : (Sl KinkRow)) (opacity : Int) (shares : Span) (other : Span) (ev1 : Int) (a_0v1 : Int) (a_1v1 : Int) (fv2 : Int) (b_0v2 : Int) (b_1v2 : Int) (finev3 : Bool) (hs : p14_at3 parts t opacity shares other ev1 a_0v1 a_1v1 fv2 b_0v2 b_1v2 finev3 = true) (hk : K (e14 (s14_at3 parts t opacity shares other ev1 a_0v1 a_1v1 fv2 b_0v2 b_1v2 finev3))) : f14_at3 K parts t opacity shares other ev1 a_0v1 a_1v1 fv2 b_0v2 b_1v2 finev3 := by
  refine ofEq (f14_eq3 K parts t opacity shares other ev1 a_0v1 a_1v1 fv2 b_0v2 b_1v2 finev3) ?_
  unfold p14_at3 at hs
  unfold s14_at3 at hk
  exact (condB_go (K := fun r => K (e14 r))
   (fun hs hk => (condB_go (K := fun r => K (e14 r))
    (fun hs hk => (condB_go (K := fun r => K (e14 r))
     (fun hs hk => hk)
     (fun hs hk => (condB_go (K := fun r => K (e14 r))
      (fun hs hk => hk)
      (fun hs hk => (q14_at4 K parts t opacity shares other a_0v1 a_1v1 fv2 b_0v2 b_1v2 finev3 (decide (opacity ≤ (1000000:Int))) hs hk)) hs hk)) hs hk))
    (fun hs hk => (condB_go (K := fun r => K (e14 r))
     (fun hs hk => (condB_go (K := fun r => K (e14 r))
      (fun hs hk => hk)
      (fun hs hk => (condB_go (K := fun r => K (e14 r))
       (fun hs hk => hk)
       (fun hs hk => (q14_at4 K parts t opacity shares other a_0v1 a_1v1 fv2 b_0v2 b_1v2 finev3 (decide (opacity ≤ (1000000:Int))) hs hk)) hs hk)) hs hk))
     (fun hs hk => (condB_go (K := fun r => K (e14 r))
      (fun hs hk => (q14_at5 K parts t opacity shares other a_0v1 a_1v1 fv2 b_0v2 b_1v2 finev3 true hs hk))
      (fun hs hk => (andK hs fun hc hs => ⟨⟨isE, hc⟩, (q14_at5 K parts t opacity shares other a_0v1 a_1v1 fv2 b_0v2 b_1v2 finev3 (!(match (a_0v1 == (s54 parts t opacity).Low) with | true => (match (a_1v1 == (s54 parts t opacity).High) with | true => true | false => false) | false => false)) hs hk)⟩)) hs hk)) hs hk)) hs hk))
   (fun hs hk => (condB_go (K := fun r => K (e14 r))
    (fun hs hk => (condB_go (K := fun r => K (e14 r))
     (fun hs hk => hk)
     (fun hs hk => (condB_go (K := fun r => K (e14 r))
      (fun hs hk => hk)
      (fun hs hk => (q14_at4 K parts t opacity shares other a_0v1 a_1v1 fv2 b_0v2 b_1v2 finev3 false hs hk)) hs hk)) hs hk))
    (fun hs hk => (condB_go (K := fun r => K (e14 r))
     (fun hs hk => hk)
     (fun hs hk => (condB_go (K := fun r => K (e14 r))
      (fun hs hk => hk)
      (fun hs hk => (q14_at4 K parts t opacity shares other a_0v1 a_1v1 fv2 b_0v2 b_1v2 finev3 false hs hk)) hs hk)) hs hk)) hs hk)) hs hk)
def s14_at2 (parts : Int) (t : (Sl KinkRow)) (opacity : Int) (shares : Span) (other : Span) (ev1 : Int) (a_0v1 : Int) (a_1v1 : Int) (fv2 : Int) (b_0v2 : Int) (b_1v2 : Int) : Bool :=
  (s14_at3 parts t opacity shares other ev1 a_0v1 a_1v1 fv2 b_0v2 b_1v2 (s53 parts t))
def p14_at2 (parts : Int) (t : (Sl KinkRow)) (opacity : Int) (shares : Span) (other : Span) (ev1 : Int) (a_0v1 : Int) (a_1v1 : Int) (fv2 : Int) (b_0v2 : Int) (b_1v2 : Int) : Bool :=
  (decide ((p53 parts t = true)) &&
  (p14_at3 parts t opacity shares other ev1 a_0v1 a_1v1 fv2 b_0v2 b_1v2 (s53 parts t)))
theorem q14_at2 (K : List PA → Prop) (parts : Int) (t : (Sl KinkRow)) (opacity : Int) (shares : Span) (other : Span) (ev1 : Int) (a_0v1 : Int) (a_1v1 : Int) (fv2 : Int) (b_0v2 : Int) (b_1v2 : Int) (hs : p14_at2 parts t opacity shares other ev1 a_0v1 a_1v1 fv2 b_0v2 b_1v2 = true) (hk : K (e14 (s14_at2 parts t opacity shares other ev1 a_0v1 a_1v1 fv2 b_0v2 b_1v2))) : f14_at2 K parts t opacity shares other ev1 a_0v1 a_1v1 fv2 b_0v2 b_1v2 := by
  refine ofEq (f14_eq2 K parts t opacity shares other ev1 a_0v1 a_1v1 fv2 b_0v2 b_1v2) ?_
  unfold p14_at2 at hs
  unfold s14_at2 at hk
  exact (andK hs fun hc hs => ⟨⟨isE, hc⟩, (q14_at3 K parts t opacity shares other ev1 a_0v1 a_1v1 fv2 b_0v2 b_1v2 (s53 parts t) hs hk)⟩)
def s14_at1 (parts : Int) (t : (Sl KinkRow)) (opacity : Int) (shares : Span) (other : Span) (ev1 : Int) (a_0v1 : Int) (a_1v1 : Int) : Bool :=
  (s14_at2 parts t opacity shares other ev1 a_0v1 a_1v1 ((s52 parts t shares).2) (((s52 parts t shares).1).Low) (((s52 parts t shares).1).High))
def p14_at1 (parts : Int) (t : (Sl KinkRow)) (opacity : Int) (shares : Span) (other : Span) (ev1 : Int) (a_0v1 : Int) (a_1v1 : Int) : Bool :=
  (decide ((p52 parts t shares = true)) &&
  (p14_at2 parts t opacity shares other ev1 a_0v1 a_1v1 ((s52 parts t shares).2) (((s52 parts t shares).1).Low) (((s52 parts t shares).1).High)))
theorem q14_at1 (K : List PA → Prop) (parts : Int) (t : (Sl KinkRow)) (opacity : Int) (shares : Span) (other : Span) (ev1 : Int) (a_0v1 : Int) (a_1v1 : Int) (hs : p14_at1 parts t opacity shares other ev1 a_0v1 a_1v1 = true) (hk : K (e14 (s14_at1 parts t opacity shares other ev1 a_0v1 a_1v1))) : f14_at1 K parts t opacity shares other ev1 a_0v1 a_1v1 := by
  refine ofEq (f14_eq1 K parts t opacity shares other ev1 a_0v1 a_1v1) ?_
  unfold p14_at1 at hs
  unfold s14_at1 at hk
  exact (andK hs fun hc hs => ⟨⟨isE, hc⟩, (q14_at2 K parts t opacity shares other ev1 a_0v1 a_1v1 ((s52 parts t shares).2) (((s52 parts t shares).1).Low) (((s52 parts t shares).1).High) hs hk)⟩)
def s14_at0 (parts : Int) (t : (Sl KinkRow)) (opacity : Int) (shares : Span) (other : Span) : Bool :=
  (s14_at1 parts t opacity shares other ((s51 parts t opacity).2) (((s51 parts t opacity).1).Low) (((s51 parts t opacity).1).High))
def p14_at0 (parts : Int) (t : (Sl KinkRow)) (opacity : Int) (shares : Span) (other : Span) : Bool :=
  (decide ((p51 parts t opacity = true)) &&
  (p14_at1 parts t opacity shares other ((s51 parts t opacity).2) (((s51 parts t opacity).1).Low) (((s51 parts t opacity).1).High)))
theorem q14_at0 (K : List PA → Prop) (parts : Int) (t : (Sl KinkRow)) (opacity : Int) (shares : Span) (other : Span) (hs : p14_at0 parts t opacity shares other = true) (hk : K (e14 (s14_at0 parts t opacity shares other))) : f14_at0 K parts t opacity shares other := by
  refine ofEq (f14_eq0 K parts t opacity shares other) ?_
  unfold p14_at0 at hs
  unfold s14_at0 at hk
  exact (andK hs fun hc hs => ⟨⟨isE, hc⟩, (q14_at1 K parts t opacity shares other ((s51 parts t opacity).2) (((s51 parts t opacity).1).Low) (((s51 parts t opacity).1).High) hs hk)⟩)
def s14 (parts : Int) (t : (Sl KinkRow)) (opacity : Int) (shares : Span) (other : Span) : Bool :=
  (cond (decide ((t.len : Int) > (50:Int)))
   true
   (s14_at0 parts t opacity shares other))
def p14 (parts : Int) (t : (Sl KinkRow)) (opacity : Int) (shares : Span) (other : Span) : Bool :=
  (cond (decide ((t.len : Int) > (50:Int)))
   true
   (p14_at0 parts t opacity shares other))
theorem q14 (parts : Int) (t : (Sl KinkRow)) (opacity : Int) (shares : Span) (other : Span) (K : List PA → Prop) (hs : p14 parts t opacity shares other = true) (hk : K (e14 (s14 parts t opacity shares other))) : vcFun Try.prog G14 ann14 14 [.one (.int .i64 parts), .one (.sl t.len 3 (fun i => enc_129 (t.get i))), .one (.int .i64 opacity), .agg [.int .i64 shares.Low, .int .i64 shares.High], .agg [.int .i64 other.Low, .int .i64 other.High]] K := by
  refine ofEq (f14_top parts t opacity shares other K) ?_
  unfold p14 at hs
  unfold s14 at hk
  exact (condB_go (K := fun r => K (e14 r))
   (fun hs hk => hk)
   (fun hs hk => (q14_at0 K parts t opacity shares other hs hk)) hs hk)
def ctr14 : List PA → COut
  | [.one (.int .i64 a0), .one (.sl a1_n a1_s a1_g), .one (.int .i64 a2), .agg [.int .i64 a3_Low, .int .i64 a3_High], .agg [.int .i64 a4_Low, .int .i64 a4_High]] => .det (IsE enc_129 3 a1_s a1_g ∧ p14 a0 (⟨a1_n, decF_129 a1_g⟩ : (Sl KinkRow)) a2 (⟨a3_Low, a3_High⟩ : Span) (⟨a4_Low, a4_High⟩ : Span) = true) [.one (.bool (s14 a0 (⟨a1_n, decF_129 a1_g⟩ : (Sl KinkRow)) a2 (⟨a3_Low, a3_High⟩ : Span) (⟨a4_Low, a4_High⟩ : Span)))]
  | _ => .no
theorem call14 : Callable Try.prog 14 := ⟨_, rfl, rfl, by kernel_rfl⟩
theorem ok14 : Ok Try.prog 14 ctr14 := ok_tab okT14 call14 fun args K h => by
  unfold ctr14 at h
  split at h
  · rename_i a0 a1_n a1_s a1_g a2 a3_Low a3_High a4_Low a4_High
    obtain ⟨⟨⟨rfl, a1_f, rfl⟩, hs⟩, hk⟩ := h
    try rw [decF_enc_129 a1_f] at hs
    try rw [decF_enc_129 a1_f] at hk
    exact ⟨(fun _ _ => []), (fun _ => false), ann14, q14 a0 (⟨a1_n, a1_f⟩ : (Sl KinkRow)) a2 (⟨a3_Low, a3_High⟩ : Span) (⟨a4_Low, a4_High⟩ : Span) K hs hk⟩
  · exact h.elim
end Go.Proofs
namespace Go.Proofs
open Go Go.Pm
set_option maxRecDepth 100000
set_option linter.unusedVariables false
attribute [local irreducible] Go.Pm.vcFun Go.Pm.vc Go.Pm.vcIter
theorem C_3 : Try.prog.cellsOf 3 = 1 := by kernel_rfl
theorem C_4 : Try.prog.cellsOf 4 = 1 := by kernel_rfl
theorem C_22 : Try.prog.cellsOf 22 = 1 := by kernel_rfl
theorem C_24 : Try.prog.cellsOf 24 = 2 := by kernel_rfl
theorem C_26 : Try.prog.cellsOf 26 = 6 := by kernel_rfl
theorem C_27 : Try.prog.cellsOf 27 = 1 := by kernel_rfl
theorem C_32 : Try.prog.cellsOf 32 = 1 := by kernel_rfl
theorem C_37 : Try.prog.cellsOf 37 = 1 := by kernel_rfl
theorem C_39 : Try.prog.cellsOf 39 = 3 := by kernel_rfl
theorem C_42 : Try.prog.cellsOf 42 = 3 := by kernel_rfl
theorem C_44 : Try.prog.cellsOf 44 = 3 := by kernel_rfl
theorem C_46 : Try.prog.cellsOf 46 = 1 := by kernel_rfl
theorem C_47 : Try.prog.cellsOf 47 = 1 := by kernel_rfl
theorem C_52 : Try.prog.cellsOf 52 = 2 := by kernel_rfl
theorem C_54 : Try.prog.cellsOf 54 = 4 := by kernel_rfl
theorem C_56 : Try.prog.cellsOf 56 = 5 := by kernel_rfl
theorem C_97 : Try.prog.cellsOf 97 = 1 := by kernel_rfl
theorem C_129 : Try.prog.cellsOf 129 = 3 := by kernel_rfl
abbrev wf_3 (x : Int) : Prop := wfI x
theorem rd_3 {H : Type} {en : TypeId × Value → H} {w : World} {sp : Nat → Bool} {held : Bool} : Rd H en Try.prog w sp held 3 enc_3 wf_3 := rd_int Try.underlying3
def wf_24 (x : Span) : Prop := wf_3 x.Low ∧ wf_3 x.High
theorem rd_24 {H : Type} {en : TypeId × Value → H} {w : World} {sp : Nat → Bool} {held : Bool} : Rd H en Try.prog w sp held 24 enc_24 wf_24 := by
  intro fuel cs x h
  obtain ⟨hl, hf⟩ := rd_struct Try.underlying24 h
  rw [C_24] at hl
  obtain ⟨n0, y0, g0⟩ := hf 0 _ rfl
  have g0 : DataW.trod en Try.prog w 0 sp held n0 3 ((cs.drop 0).take (Try.prog.cellsOf 3)) = some y0 := g0
  rw [C_3] at g0
  obtain ⟨a0, r0, w0⟩ := rd_3 _ _ _ g0
  obtain ⟨n1, y1, g1⟩ := hf 1 _ rfl
  have g1 : DataW.trod en Try.prog w 0 sp held n1 3 ((cs.drop 1).take (Try.prog.cellsOf 3)) = some y1 := g1
  rw [C_3] at g1
  obtain ⟨a1, r1, w1⟩ := rd_3 _ _ _ g1
  have z : cs.drop 2 = [] := List.drop_eq_nil_of_le (by omega)
  have R := (r0.append (r1.append (show RL (Rep (H0 w)) [] (cs.drop 2) by rw [z]; exact rl_n)))
  rw [← (show cs.drop 1 = (cs.drop 1).take 1 ++ cs.drop 2 from split_drop cs 1 1)] at R
  rw [← (show cs.drop 0 = (cs.drop 0).take 1 ++ cs.drop 1 from split_drop cs 0 1)] at R
  exact ⟨⟨a0, a1⟩, R, ⟨w0, w1⟩⟩
def wf_44 (x : FluxRow) : Prop := wf_3 x.Energy ∧ wf_24 x.Rate
theorem rd_44 {H : Type} {en : TypeId × Value → H} {w : World} {sp : Nat → Bool} {held : Bool} : Rd H en Try.prog w sp held 44 enc_44 wf_44 := by
  intro fuel cs x h
  obtain ⟨hl, hf⟩ := rd_struct Try.underlying44 h
  rw [C_44] at hl
  obtain ⟨n0, y0, g0⟩ := hf 0 _ rfl
  have g0 : DataW.trod en Try.prog w 0 sp held n0 3 ((cs.drop 0).take (Try.prog.cellsOf 3)) = some y0 := g0
  rw [C_3] at g0
  obtain ⟨a0, r0, w0⟩ := rd_3 _ _ _ g0
  obtain ⟨n1, y1, g1⟩ := hf 1 _ rfl
  have g1 : DataW.trod en Try.prog w 0 sp held n1 24 ((cs.drop 1).take (Try.prog.cellsOf 24)) = some y1 := g1
  rw [C_24] at g1
  obtain ⟨a1, r1, w1⟩ := rd_24 _ _ _ g1
  have z : cs.drop 3 = [] := List.drop_eq_nil_of_le (by omega)
  have R := (r0.append (r1.append (show RL (Rep (H0 w)) [] (cs.drop 3) by rw [z]; exact rl_n)))
  rw [← (show cs.drop 1 = (cs.drop 1).take 2 ++ cs.drop 3 from split_drop cs 1 2)] at R
  rw [← (show cs.drop 0 = (cs.drop 0).take 1 ++ cs.drop 1 from split_drop cs 0 1)] at R
  exact ⟨⟨a0, a1⟩, R, ⟨w0, w1⟩⟩
def wf_32 (x : (Sl FluxRow)) : Prop := x.len ≤ 9223372036854775807 ∧ ∀ i, i < x.len → wf_44 (x.get i)
theorem rd_32 {H : Type} {en : TypeId × Value → H} {w : World} {sp : Nat → Bool} {held : Bool} : Rd H en Try.prog w sp held 32 enc_32 wf_32 := rd_slice Try.underlying32 C_44 (by decide) (fun _ => rfl) rd_44
def wf_22 (x : (Sl (Sl FluxRow))) : Prop := x.len ≤ 9223372036854775807 ∧ ∀ i, i < x.len → wf_32 (x.get i)
theorem rd_22 {H : Type} {en : TypeId × Value → H} {w : World} {sp : Nat → Bool} {held : Bool} : Rd H en Try.prog w sp held 22 enc_22 wf_22 := rd_slice Try.underlying22 C_32 (by decide) (fun _ => rfl) rd_32
def wf_26 (x : Sky) : Prop := wf_3 x.Parts ∧ wf_22 x.Bins ∧ wf_24 x.Beta ∧ wf_24 x.Alpha
theorem rd_26 {H : Type} {en : TypeId × Value → H} {w : World} {sp : Nat → Bool} {held : Bool} : Rd H en Try.prog w sp held 26 enc_26 wf_26 := by
  intro fuel cs x h
  obtain ⟨hl, hf⟩ := rd_struct Try.underlying26 h
  rw [C_26] at hl
  obtain ⟨n0, y0, g0⟩ := hf 0 _ rfl
  have g0 : DataW.trod en Try.prog w 0 sp held n0 3 ((cs.drop 0).take (Try.prog.cellsOf 3)) = some y0 := g0
  rw [C_3] at g0
  obtain ⟨a0, r0, w0⟩ := rd_3 _ _ _ g0
  obtain ⟨n1, y1, g1⟩ := hf 1 _ rfl
  have g1 : DataW.trod en Try.prog w 0 sp held n1 22 ((cs.drop 1).take (Try.prog.cellsOf 22)) = some y1 := g1
  rw [C_22] at g1
  obtain ⟨a1, r1, w1⟩ := rd_22 _ _ _ g1
  obtain ⟨n2, y2, g2⟩ := hf 2 _ rfl
  have g2 : DataW.trod en Try.prog w 0 sp held n2 24 ((cs.drop 2).take (Try.prog.cellsOf 24)) = some y2 := g2
  rw [C_24] at g2
  obtain ⟨a2, r2, w2⟩ := rd_24 _ _ _ g2
  obtain ⟨n3, y3, g3⟩ := hf 3 _ rfl
  have g3 : DataW.trod en Try.prog w 0 sp held n3 24 ((cs.drop 4).take (Try.prog.cellsOf 24)) = some y3 := g3
  rw [C_24] at g3
  obtain ⟨a3, r3, w3⟩ := rd_24 _ _ _ g3
  have z : cs.drop 6 = [] := List.drop_eq_nil_of_le (by omega)
  have R := (r0.append (r1.append (r2.append (r3.append (show RL (Rep (H0 w)) [] (cs.drop 6) by rw [z]; exact rl_n)))))
  rw [← (show cs.drop 4 = (cs.drop 4).take 2 ++ cs.drop 6 from split_drop cs 4 2)] at R
  rw [← (show cs.drop 2 = (cs.drop 2).take 2 ++ cs.drop 4 from split_drop cs 2 2)] at R
  rw [← (show cs.drop 1 = (cs.drop 1).take 1 ++ cs.drop 2 from split_drop cs 1 1)] at R
  rw [← (show cs.drop 0 = (cs.drop 0).take 1 ++ cs.drop 1 from split_drop cs 0 1)] at R
  exact ⟨⟨a0, a1, a2, a3⟩, R, ⟨w0, w1, w2, w3⟩⟩
def wf_42 (x : RangeRow) : Prop := wf_3 x.Energy ∧ wf_24 x.Range
theorem rd_42 {H : Type} {en : TypeId × Value → H} {w : World} {sp : Nat → Bool} {held : Bool} : Rd H en Try.prog w sp held 42 enc_42 wf_42 := by
  intro fuel cs x h
  obtain ⟨hl, hf⟩ := rd_struct Try.underlying42 h
  rw [C_42] at hl
  obtain ⟨n0, y0, g0⟩ := hf 0 _ rfl
  have g0 : DataW.trod en Try.prog w 0 sp held n0 3 ((cs.drop 0).take (Try.prog.cellsOf 3)) = some y0 := g0
  rw [C_3] at g0
  obtain ⟨a0, r0, w0⟩ := rd_3 _ _ _ g0
  obtain ⟨n1, y1, g1⟩ := hf 1 _ rfl
  have g1 : DataW.trod en Try.prog w 0 sp held n1 24 ((cs.drop 1).take (Try.prog.cellsOf 24)) = some y1 := g1
  rw [C_24] at g1
  obtain ⟨a1, r1, w1⟩ := rd_24 _ _ _ g1
  have z : cs.drop 3 = [] := List.drop_eq_nil_of_le (by omega)
  have R := (r0.append (r1.append (show RL (Rep (H0 w)) [] (cs.drop 3) by rw [z]; exact rl_n)))
  rw [← (show cs.drop 1 = (cs.drop 1).take 2 ++ cs.drop 3 from split_drop cs 1 2)] at R
  rw [← (show cs.drop 0 = (cs.drop 0).take 1 ++ cs.drop 1 from split_drop cs 0 1)] at R
  exact ⟨⟨a0, a1⟩, R, ⟨w0, w1⟩⟩
def wf_27 (x : (Sl RangeRow)) : Prop := x.len ≤ 9223372036854775807 ∧ ∀ i, i < x.len → wf_42 (x.get i)
theorem rd_27 {H : Type} {en : TypeId × Value → H} {w : World} {sp : Nat → Bool} {held : Bool} : Rd H en Try.prog w sp held 27 enc_27 wf_27 := rd_slice Try.underlying27 C_42 (by decide) (fun _ => rfl) rd_42
def wf_37 (x : (Sl Int)) : Prop := x.len ≤ 9223372036854775807 ∧ ∀ i, i < x.len → wf_3 (x.get i)
theorem rd_37 {H : Type} {en : TypeId × Value → H} {w : World} {sp : Nat → Bool} {held : Bool} : Rd H en Try.prog w sp held 37 enc_37 wf_37 := rd_slice Try.underlying37 C_3 (by decide) (fun _ => rfl) rd_3
abbrev wf_4 (_ : Bool) : Prop := True
theorem rd_4 {H : Type} {en : TypeId × Value → H} {w : World} {sp : Nat → Bool} {held : Bool} : Rd H en Try.prog w sp held 4 enc_4 wf_4 := rd_bool Try.underlying4
def wf_39 (x : Nature) : Prop := wf_37 x.Ranges ∧ wf_37 x.Rates ∧ wf_4 x.Soon
theorem rd_39 {H : Type} {en : TypeId × Value → H} {w : World} {sp : Nat → Bool} {held : Bool} : Rd H en Try.prog w sp held 39 enc_39 wf_39 := by
  intro fuel cs x h
  obtain ⟨hl, hf⟩ := rd_struct Try.underlying39 h
  rw [C_39] at hl
  obtain ⟨n0, y0, g0⟩ := hf 0 _ rfl
  have g0 : DataW.trod en Try.prog w 0 sp held n0 37 ((cs.drop 0).take (Try.prog.cellsOf 37)) = some y0 := g0
  rw [C_37] at g0
  obtain ⟨a0, r0, w0⟩ := rd_37 _ _ _ g0
  obtain ⟨n1, y1, g1⟩ := hf 1 _ rfl
  have g1 : DataW.trod en Try.prog w 0 sp held n1 37 ((cs.drop 1).take (Try.prog.cellsOf 37)) = some y1 := g1
  rw [C_37] at g1
  obtain ⟨a1, r1, w1⟩ := rd_37 _ _ _ g1
  obtain ⟨n2, y2, g2⟩ := hf 2 _ rfl
  have g2 : DataW.trod en Try.prog w 0 sp held n2 4 ((cs.drop 2).take (Try.prog.cellsOf 4)) = some y2 := g2
  rw [C_4] at g2
  obtain ⟨a2, r2, w2⟩ := rd_4 _ _ _ g2
  have z : cs.drop 3 = [] := List.drop_eq_nil_of_le (by omega)
  have R := (r0.append (r1.append (r2.append (show RL (Rep (H0 w)) [] (cs.drop 3) by rw [z]; exact rl_n))))
  rw [← (show cs.drop 2 = (cs.drop 2).take 1 ++ cs.drop 3 from split_drop cs 2 1)] at R
  rw [← (show cs.drop 1 = (cs.drop 1).take 1 ++ cs.drop 2 from split_drop cs 1 1)] at R
  rw [← (show cs.drop 0 = (cs.drop 0).take 1 ++ cs.drop 1 from split_drop cs 0 1)] at R
  exact ⟨⟨a0, a1, a2⟩, R, ⟨w0, w1, w2⟩⟩
def wf_54 (x : Weather) : Prop := wf_24 x.Pressure ∧ wf_24 x.Warm
theorem rd_54 {H : Type} {en : TypeId × Value → H} {w : World} {sp : Nat → Bool} {held : Bool} : Rd H en Try.prog w sp held 54 enc_54 wf_54 := by
  intro fuel cs x h
  obtain ⟨hl, hf⟩ := rd_struct Try.underlying54 h
  rw [C_54] at hl
  obtain ⟨n0, y0, g0⟩ := hf 0 _ rfl
  have g0 : DataW.trod en Try.prog w 0 sp held n0 24 ((cs.drop 0).take (Try.prog.cellsOf 24)) = some y0 := g0
  rw [C_24] at g0
  obtain ⟨a0, r0, w0⟩ := rd_24 _ _ _ g0
  obtain ⟨n1, y1, g1⟩ := hf 1 _ rfl
  have g1 : DataW.trod en Try.prog w 0 sp held n1 24 ((cs.drop 2).take (Try.prog.cellsOf 24)) = some y1 := g1
  rw [C_24] at g1
  obtain ⟨a1, r1, w1⟩ := rd_24 _ _ _ g1
  have z : cs.drop 4 = [] := List.drop_eq_nil_of_le (by omega)
  have R := (r0.append (r1.append (show RL (Rep (H0 w)) [] (cs.drop 4) by rw [z]; exact rl_n)))
  rw [← (show cs.drop 2 = (cs.drop 2).take 2 ++ cs.drop 4 from split_drop cs 2 2)] at R
  rw [← (show cs.drop 0 = (cs.drop 0).take 2 ++ cs.drop 2 from split_drop cs 0 2)] at R
  exact ⟨⟨a0, a1⟩, R, ⟨w0, w1⟩⟩
def wf_56 (x : Spell) : Prop := wf_3 x.Slots ∧ wf_54 x.Weather
theorem rd_56 {H : Type} {en : TypeId × Value → H} {w : World} {sp : Nat → Bool} {held : Bool} : Rd H en Try.prog w sp held 56 enc_56 wf_56 := by
  intro fuel cs x h
  obtain ⟨hl, hf⟩ := rd_struct Try.underlying56 h
  rw [C_56] at hl
  obtain ⟨n0, y0, g0⟩ := hf 0 _ rfl
  have g0 : DataW.trod en Try.prog w 0 sp held n0 3 ((cs.drop 0).take (Try.prog.cellsOf 3)) = some y0 := g0
  rw [C_3] at g0
  obtain ⟨a0, r0, w0⟩ := rd_3 _ _ _ g0
  obtain ⟨n1, y1, g1⟩ := hf 1 _ rfl
  have g1 : DataW.trod en Try.prog w 0 sp held n1 54 ((cs.drop 1).take (Try.prog.cellsOf 54)) = some y1 := g1
  rw [C_54] at g1
  obtain ⟨a1, r1, w1⟩ := rd_54 _ _ _ g1
  have z : cs.drop 5 = [] := List.drop_eq_nil_of_le (by omega)
  have R := (r0.append (r1.append (show RL (Rep (H0 w)) [] (cs.drop 5) by rw [z]; exact rl_n)))
  rw [← (show cs.drop 1 = (cs.drop 1).take 4 ++ cs.drop 5 from split_drop cs 1 4)] at R
  rw [← (show cs.drop 0 = (cs.drop 0).take 1 ++ cs.drop 1 from split_drop cs 0 1)] at R
  exact ⟨⟨a0, a1⟩, R, ⟨w0, w1⟩⟩
def wf_46 (x : (Sl Spell)) : Prop := x.len ≤ 9223372036854775807 ∧ ∀ i, i < x.len → wf_56 (x.get i)
theorem rd_46 {H : Type} {en : TypeId × Value → H} {w : World} {sp : Nat → Bool} {held : Bool} : Rd H en Try.prog w sp held 46 enc_46 wf_46 := rd_slice Try.underlying46 C_56 (by decide) (fun _ => rfl) rd_56
def wf_52 (x : Sample) : Prop := wf_3 x.Pressure ∧ wf_3 x.Warm
theorem rd_52 {H : Type} {en : TypeId × Value → H} {w : World} {sp : Nat → Bool} {held : Bool} : Rd H en Try.prog w sp held 52 enc_52 wf_52 := by
  intro fuel cs x h
  obtain ⟨hl, hf⟩ := rd_struct Try.underlying52 h
  rw [C_52] at hl
  obtain ⟨n0, y0, g0⟩ := hf 0 _ rfl
  have g0 : DataW.trod en Try.prog w 0 sp held n0 3 ((cs.drop 0).take (Try.prog.cellsOf 3)) = some y0 := g0
  rw [C_3] at g0
  obtain ⟨a0, r0, w0⟩ := rd_3 _ _ _ g0
  obtain ⟨n1, y1, g1⟩ := hf 1 _ rfl
  have g1 : DataW.trod en Try.prog w 0 sp held n1 3 ((cs.drop 1).take (Try.prog.cellsOf 3)) = some y1 := g1
  rw [C_3] at g1
  obtain ⟨a1, r1, w1⟩ := rd_3 _ _ _ g1
  have z : cs.drop 2 = [] := List.drop_eq_nil_of_le (by omega)
  have R := (r0.append (r1.append (show RL (Rep (H0 w)) [] (cs.drop 2) by rw [z]; exact rl_n)))
  rw [← (show cs.drop 1 = (cs.drop 1).take 1 ++ cs.drop 2 from split_drop cs 1 1)] at R
  rw [← (show cs.drop 0 = (cs.drop 0).take 1 ++ cs.drop 1 from split_drop cs 0 1)] at R
  exact ⟨⟨a0, a1⟩, R, ⟨w0, w1⟩⟩
def wf_47 (x : (Sl Sample)) : Prop := x.len ≤ 9223372036854775807 ∧ ∀ i, i < x.len → wf_52 (x.get i)
theorem rd_47 {H : Type} {en : TypeId × Value → H} {w : World} {sp : Nat → Bool} {held : Bool} : Rd H en Try.prog w sp held 47 enc_47 wf_47 := rd_slice Try.underlying47 C_52 (by decide) (fun _ => rfl) rd_52
def wf_129 (x : KinkRow) : Prop := wf_3 x.Opacity ∧ wf_24 x.Share
theorem rd_129 {H : Type} {en : TypeId × Value → H} {w : World} {sp : Nat → Bool} {held : Bool} : Rd H en Try.prog w sp held 129 enc_129 wf_129 := by
  intro fuel cs x h
  obtain ⟨hl, hf⟩ := rd_struct Try.underlying129 h
  rw [C_129] at hl
  obtain ⟨n0, y0, g0⟩ := hf 0 _ rfl
  have g0 : DataW.trod en Try.prog w 0 sp held n0 3 ((cs.drop 0).take (Try.prog.cellsOf 3)) = some y0 := g0
  rw [C_3] at g0
  obtain ⟨a0, r0, w0⟩ := rd_3 _ _ _ g0
  obtain ⟨n1, y1, g1⟩ := hf 1 _ rfl
  have g1 : DataW.trod en Try.prog w 0 sp held n1 24 ((cs.drop 1).take (Try.prog.cellsOf 24)) = some y1 := g1
  rw [C_24] at g1
  obtain ⟨a1, r1, w1⟩ := rd_24 _ _ _ g1
  have z : cs.drop 3 = [] := List.drop_eq_nil_of_le (by omega)
  have R := (r0.append (r1.append (show RL (Rep (H0 w)) [] (cs.drop 3) by rw [z]; exact rl_n)))
  rw [← (show cs.drop 1 = (cs.drop 1).take 2 ++ cs.drop 3 from split_drop cs 1 2)] at R
  rw [← (show cs.drop 0 = (cs.drop 0).take 1 ++ cs.drop 1 from split_drop cs 0 1)] at R
  exact ⟨⟨a0, a1⟩, R, ⟨w0, w1⟩⟩
def wf_97 (x : (Sl KinkRow)) : Prop := x.len ≤ 9223372036854775807 ∧ ∀ i, i < x.len → wf_129 (x.get i)
theorem rd_97 {H : Type} {en : TypeId × Value → H} {w : World} {sp : Nat → Bool} {held : Bool} : Rd H en Try.prog w sp held 97 enc_97 wf_97 := rd_slice Try.underlying97 C_129 (by decide) (fun _ => rfl) rd_129
end Go.Proofs
namespace Go.Proofs
open Go Go.Pm
set_option linter.unusedVariables false
theorem s63_eq (n lo hi : Int) : s63 n lo hi = decide (lo ≤ n ∧ n ≤ hi) := by
  unfold s63
  by_cases h1 : lo ≤ n <;> by_cases h2 : n ≤ hi <;> simp [h1, h2]
theorem s58_eq (n lo hi : Int) : s58 n lo hi = decide (lo ≤ n ∧ n ≤ hi) := by
  unfold s58
  by_cases h1 : lo ≤ n <;> by_cases h2 : n ≤ hi <;> simp [h1, h2]
theorem s69_eq (s : Span) (lo hi : Int) : s69 s lo hi = decide (lo ≤ s.Low ∧ s.Low ≤ s.High ∧ s.High ≤ hi) := by
  unfold s69
  rw [s63_eq]
  by_cases h1 : lo ≤ s.Low <;> by_cases h2 : s.Low ≤ s.High <;> by_cases h3 : s.High ≤ hi <;> simp [h1, h2, h3]
theorem s29_eq (s : Span) (lo hi : Int) : s29 s lo hi = decide (lo ≤ s.Low ∧ s.Low ≤ s.High ∧ s.High ≤ hi) := by
  unfold s29
  by_cases h1 : lo ≤ s.Low <;> by_cases h2 : s.Low ≤ s.High <;> by_cases h3 : s.High ≤ hi <;> simp [h1, h2, h3]
theorem s94_eq (a b : Span) : s94 a b = decide (a.Low ≤ b.Low ∧ a.High ≤ b.High) := by
  unfold s94
  by_cases h1 : a.Low ≤ b.Low <;> by_cases h2 : a.High ≤ b.High <;> simp [h1, h2]

def KRow (parts : Int) (t : Sl KinkRow) (i : Nat) : Prop :=
  (0 ≤ (t.get i).Opacity ∧ (t.get i).Opacity ≤ 1000000) ∧ (0 ≤ (t.get i).Share.Low ∧ (t.get i).Share.Low ≤ (t.get i).Share.High ∧ (t.get i).Share.High ≤ parts) ∧
  (i = 0 ∨ (t.get (i - 1)).Opacity < (t.get i).Opacity ∧ (t.get (i - 1)).Share.Low ≤ (t.get i).Share.Low ∧ (t.get (i - 1)).Share.High ≤ (t.get i).Share.High)
instance (parts : Int) (t : Sl KinkRow) (i : Nat) : Decidable (KRow parts t i) := by unfold KRow; infer_instance
theorem s110_eq (parts : Int) (t : Sl KinkRow) (hn : t.len ≤ 9223372036854775807) :
    p110 t 0 1000000 parts = true ∧ (s110 t 0 1000000 parts = true ↔ (∀ i, i < t.len → decide (KRow parts t i) = true) ∧ decide (1 ≤ (t.len : Int) ∧ (t.len : Int) ≤ 40) = true) := by
  refine all_loop (n := t.len) (good := fun i => decide (KRow parts t i)) (lpS := s110_lp0 t 0 1000000 parts) (lpP := p110_lp0 t 0 1000000 parts) ?_ ?_ ?_ ?_ hn
  · intro k i hi
    show s110_st0 t 0 1000000 parts (s110_lp0 t 0 1000000 parts k) i = cond (decide (KRow parts t i)) _ _
    generalize s110_lp0 t 0 1000000 parts k = S
    unfold s110_st0 s110_at1 s110_at2 s110_at3
    have e0 : (i : Int).toNat = i := by omega
    have e1 : 0 < i → (w64 ((i : Int) - 1)).toNat = i - 1 := fun h0 => by rw [w64_id (by omega) (by omega)]; omega
    by_cases h0 : 0 < i
    · have e1 := e1 h0
      by_cases hg : KRow parts t i
      all_goals
        first | rw [decide_eq_true hg] | rw [decide_eq_false hg]
        unfold KRow at hg
        simp only [s63_eq, s69_eq, s94_eq, s111, s112, e0, e1, Bool.cond_decide, ← decide_not, cond_true, cond_false]
        repeat' split
        all_goals first | rfl | (exfalso; omega)
    · have : i = 0 := by omega
      subst this
      by_cases hg : KRow parts t 0
      all_goals
        first | rw [decide_eq_true hg] | rw [decide_eq_false hg]
        unfold KRow at hg
        simp only [s63_eq, s69_eq, s94_eq, s111, s112, e0, Bool.cond_decide, ← decide_not, cond_true, cond_false]
        repeat' split
        all_goals first | rfl | (exfalso; omega)
  · intro k
    show s110_st0 t 0 1000000 parts (s110_lp0 t 0 1000000 parts k) _ = _
    unfold s110_st0
    rw [decide_eq_false (by omega), cond_false, s63_eq]
  · intro k i hi
    show p110_st0 t 0 1000000 parts (p110_lp0 t 0 1000000 parts k) i = cond (decide (KRow parts t i)) _ _
    generalize p110_lp0 t 0 1000000 parts k = S
    unfold p110_st0 p110_at1 p110_at2 p110_at3
    have e0 : (i : Int).toNat = i := by omega
    have e4 : decide (0 ≤ (i : Int) ∧ (i : Int) < (t.len : Int)) = true := decide_eq_true (by omega)
    by_cases h0 : 0 < i
    · have e2 : w64 ((i : Int) - 1) = ((i - 1 : Nat) : Int) := by rw [w64_id (by omega) (by omega)]; omega
      have e3 : decide (0 ≤ ((i - 1 : Nat) : Int) ∧ ((i - 1 : Nat) : Int) < (t.len : Int)) = true := decide_eq_true (by omega)
      by_cases hg : KRow parts t i
      all_goals
        first | rw [decide_eq_true hg] | rw [decide_eq_false hg]
        unfold KRow at hg
        simp only [s63_eq, s69_eq, s94_eq, s111, s112, e0, e2, e3, e4, Int.toNat_natCast, Bool.true_and, Bool.cond_decide, ← decide_not, cond_true, cond_false]
        repeat' split
        all_goals first | rfl | (exfalso; omega)
    · have : i = 0 := by omega
      subst this
      by_cases hg : KRow parts t 0
      all_goals
        first | rw [decide_eq_true hg] | rw [decide_eq_false hg]
        unfold KRow at hg
        simp only [s63_eq, s69_eq, s94_eq, s111, s112, e0, e4, Bool.true_and, Bool.cond_decide, ← decide_not, cond_true, cond_false]
        repeat' split
        all_goals first | rfl | (exfalso; omega)
  · intro k
    show p110_st0 t 0 1000000 parts (p110_lp0 t 0 1000000 parts k) _ = _
    unfold p110_st0
    rw [decide_eq_false (by omega), cond_false]
theorem s86_eq (c0 : Int) (t : Sl KinkRow) (hn : t.len ≤ 9223372036854775807) : p86 c0 t = true ∧ s86 c0 t = ((fst (fun i => s87 c0 (t.get i)) t.len : Nat) : Int) := by
  have h := idx_loop (c := s87 c0) (lpS := s113_lp0 c0) (lpP := p113_lp0 c0) (fun _ _ _ _ => rfl) (fun _ _ _ _ => rfl) t hn
  have h1 : p113 c0 t = true := h.1
  have h2 : s113 c0 t = _ := h.2
  have hl := fst_le (fun i => s87 c0 (t.get i)) t.len
  unfold p86 s86
  rw [h1, h2]
  refine ⟨rfl, ?_⟩
  by_cases h : fst (fun i => s87 c0 (t.get i)) t.len < t.len
  · rw [if_pos h, decide_eq_true (by omega)]; rfl
  · rw [if_neg h, decide_eq_false (by omega)]
    show (t.len : Int) = _
    omega
theorem s86a_eq (c0 : Int) (t : Sl KinkRow) (hn : t.len ≤ 9223372036854775807) : p86a c0 t = true ∧ s86a c0 t = ((fst (fun i => s88 c0 (t.get i)) t.len : Nat) : Int) := by
  have h := idx_loop (c := s88 c0) (lpS := s113a_lp0 c0) (lpP := p113a_lp0 c0) (fun _ _ _ _ => rfl) (fun _ _ _ _ => rfl) t hn
  have h1 : p113a c0 t = true := h.1
  have h2 : s113a c0 t = _ := h.2
  have hl := fst_le (fun i => s88 c0 (t.get i)) t.len
  unfold p86a s86a
  rw [h1, h2]
  refine ⟨rfl, ?_⟩
  by_cases h : fst (fun i => s88 c0 (t.get i)) t.len < t.len
  · rw [if_pos h, decide_eq_true (by omega)]; rfl
  · rw [if_neg h, decide_eq_false (by omega)]
    show (t.len : Int) = _
    omega
theorem s86b_eq (c0 : Span) (t : Sl KinkRow) (hn : t.len ≤ 9223372036854775807) : p86b c0 t = true ∧ s86b c0 t = ((fst (fun i => s89 c0 (t.get i)) t.len : Nat) : Int) := by
  have h := idx_loop (c := s89 c0) (lpS := s113b_lp0 c0) (lpP := p113b_lp0 c0) (fun _ _ _ _ => rfl) (fun _ _ _ _ => rfl) t hn
  have h1 : p113b c0 t = true := h.1
  have h2 : s113b c0 t = _ := h.2
  have hl := fst_le (fun i => s89 c0 (t.get i)) t.len
  unfold p86b s86b
  rw [h1, h2]
  refine ⟨rfl, ?_⟩
  by_cases h : fst (fun i => s89 c0 (t.get i)) t.len < t.len
  · rw [if_pos h, decide_eq_true (by omega)]; rfl
  · rw [if_neg h, decide_eq_false (by omega)]
    show (t.len : Int) = _
    omega
theorem s86c_eq (c0 : Span) (t : Sl KinkRow) (hn : t.len ≤ 9223372036854775807) : p86c c0 t = true ∧ s86c c0 t = ((fst (fun i => s90 c0 (t.get i)) t.len : Nat) : Int) := by
  have h := idx_loop (c := s90 c0) (lpS := s113c_lp0 c0) (lpP := p113c_lp0 c0) (fun _ _ _ _ => rfl) (fun _ _ _ _ => rfl) t hn
  have h1 : p113c c0 t = true := h.1
  have h2 : s113c c0 t = _ := h.2
  have hl := fst_le (fun i => s90 c0 (t.get i)) t.len
  unfold p86c s86c
  rw [h1, h2]
  refine ⟨rfl, ?_⟩
  by_cases h : fst (fun i => s90 c0 (t.get i)) t.len < t.len
  · rw [if_pos h, decide_eq_true (by omega)]; rfl
  · rw [if_neg h, decide_eq_false (by omega)]
    show (t.len : Int) = _
    omega
def KOk (parts : Int) (t : Sl KinkRow) : Prop := (2 ≤ parts ∧ parts ≤ 1000000) ∧ (1 ≤ (t.len : Int) ∧ (t.len : Int) ≤ 40) ∧ ∀ i, i < t.len → KRow parts t i
theorem s85_eq (parts : Int) (t : Sl KinkRow) (hn : t.len ≤ 9223372036854775807) : p85 parts t = true ∧ (s85 parts t = true ↔ KOk parts t) := by
  obtain ⟨h1, h2⟩ := s110_eq parts t hn
  unfold p85 s85 KOk
  rw [s63_eq, h1]
  by_cases hp : 2 ≤ parts ∧ parts ≤ 1000000
  · rw [decide_eq_true hp]
    refine ⟨rfl, ?_⟩
    simp only [cond_true]
    rw [h2]
    simp only [decide_eq_true_eq]
    exact ⟨fun h => ⟨hp, h.2, h.1⟩, fun h => ⟨h.2.2, h.2.1⟩⟩
  · rw [decide_eq_false hp]
    exact ⟨rfl, ⟨fun h => (by cases h), fun h => absurd h.1 hp⟩⟩
theorem s53_eq (parts : Int) (t : Sl KinkRow) (hn : t.len ≤ 9223372036854775807) : p53 parts t = true ∧ (s53 parts t = true ↔ KOk parts t) := by
  have h : p53 parts t = true ∧ (s53 parts t = true ↔ (∀ i, i < t.len → decide (KRow parts t i) = true) ∧ (cond (s58 parts 2 1000000) (s58 (t.len : Int) 1 40) false) = true) := by
    refine all_loop (n := t.len) (good := fun i => decide (KRow parts t i)) (lpS := s53_lp0 parts t) (lpP := p53_lp0 parts t) ?_ ?_ ?_ ?_ hn
    · intro k i hi
      show s53_st0 parts t (s53_lp0 parts t k) i = cond (decide (KRow parts t i)) _ _
      generalize s53_lp0 parts t k = S
      unfold s53_st0 s53_at1
      have e0 : (i : Int).toNat = i := by omega
      have e1 : 0 < i → (w64 ((i : Int) - 1)).toNat = i - 1 := fun h0 => by rw [w64_id (by omega) (by omega)]; omega
      by_cases h0 : 0 < i
      · have e1 := e1 h0
        by_cases hg : KRow parts t i
        all_goals
          first | rw [decide_eq_true hg] | rw [decide_eq_false hg]
          unfold KRow at hg
          simp only [s58_eq, s29_eq, e0, e1, Bool.cond_decide, ← decide_not, cond_true, cond_false]
          repeat' split
          all_goals first | rfl | (exfalso; omega)
      · have : i = 0 := by omega
        subst this
        by_cases hg : KRow parts t 0
        all_goals
          first | rw [decide_eq_true hg] | rw [decide_eq_false hg]
          unfold KRow at hg
          simp only [s58_eq, s29_eq, e0, Bool.cond_decide, ← decide_not, cond_true, cond_false]
          repeat' split
          all_goals first | rfl | (exfalso; omega)
    · intro k
      show s53_st0 parts t (s53_lp0 parts t k) _ = _
      unfold s53_st0
      rw [decide_eq_false (by omega), cond_false]
    · intro k i hi
      show p53_st0 parts t (p53_lp0 parts t k) i = cond (decide (KRow parts t i)) _ _
      generalize p53_lp0 parts t k = S
      unfold p53_st0 p53_at1
      have e0 : (i : Int).toNat = i := by omega
      have e4 : decide (0 ≤ (i : Int) ∧ (i : Int) < (t.len : Int)) = true := decide_eq_true (by omega)
      by_cases h0 : 0 < i
      · have e2 : w64 ((i : Int) - 1) = ((i - 1 : Nat) : Int) := by rw [w64_id (by omega) (by omega)]; omega
        have e3 : decide (0 ≤ ((i - 1 : Nat) : Int) ∧ ((i - 1 : Nat) : Int) < (t.len : Int)) = true := decide_eq_true (by omega)
        by_cases hg : KRow parts t i
        all_goals
          first | rw [decide_eq_true hg] | rw [decide_eq_false hg]
          unfold KRow at hg
          simp only [s58_eq, s29_eq, e0, e2, e3, e4, Int.toNat_natCast, Bool.true_and, Bool.cond_decide, ← decide_not, cond_true, cond_false]
          repeat' split
          all_goals first | rfl | (exfalso; omega)
      · have : i = 0 := by omega
        subst this
        by_cases hg : KRow parts t 0
        all_goals
          first | rw [decide_eq_true hg] | rw [decide_eq_false hg]
          unfold KRow at hg
          simp only [s58_eq, s29_eq, e0, e4, Bool.true_and, Bool.cond_decide, ← decide_not, cond_true, cond_false]
          repeat' split
          all_goals first | rfl | (exfalso; omega)
    · intro k
      show p53_st0 parts t (p53_lp0 parts t k) _ = _
      unfold p53_st0
      rw [decide_eq_false (by omega), cond_false]
  refine ⟨h.1, h.2.trans ?_⟩
  unfold KOk
  rw [s58_eq, s58_eq]
  by_cases hp : 2 ≤ parts ∧ parts ≤ 1000000
  · rw [decide_eq_true hp]
    simp only [cond_true, decide_eq_true_eq]
    exact ⟨fun h => ⟨hp, h.2, h.1⟩, fun h => ⟨h.2.2, h.2.1⟩⟩
  · rw [decide_eq_false hp]
    exact ⟨fun h => (by cases h.2), fun h => absurd h.1 hp⟩
end Go.Proofs
namespace Go.Proofs
open Go Go.Pm
set_option linter.unusedVariables false
theorem s54_eq (parts : Int) (t : Sl KinkRow) (x : Int) (hn : t.len ≤ 9223372036854775807) : p54 parts t x = true ∧
    s54 parts t x = ⟨lastF (fun i => decide ((t.get i).Opacity ≤ x)) (fun i => (t.get i).Share.Low) t.len 0,
      if fst (fun i => decide ((t.get i).Opacity ≥ x)) t.len < t.len then (t.get (fst (fun i => decide ((t.get i).Opacity ≥ x)) t.len)).Share.High else parts⟩ := by
  have hb : ∀ a, p54_at1 parts t x a = true ∧ s54_at1 parts t x a = ⟨a, if fst (fun i => decide ((t.get i).Opacity ≥ x)) t.len < t.len then (t.get (fst (fun i => decide ((t.get i).Opacity ≥ x)) t.len)).Share.High else parts⟩ := by
    intro a
    refine bwd_loop (γ := Span) (c := fun i => decide ((t.get i).Opacity ≥ x)) (v := fun i => (t.get i).Share.High) (E := fun b => ⟨a, b⟩) (EP := fun _ => true) (n := t.len) (lpS := fun k i b => s54_lp2 t x k i a b) (lpP := fun k i b => p54_lp2 t x k i a b) ?_ ?_ ?_ ?_ hn parts
    · intro k i b hi
      show s54_st2 t x (s54_lp2 t x k) i a b = _
      unfold s54_st2
      rw [decide_eq_true (by omega), Int.toNat_natCast]; rfl
    · intro k b
      show s54_st2 t x (s54_lp2 t x k) (-1) a b = _
      unfold s54_st2
      rw [decide_eq_false (by omega)]; rfl
    · intro k i b hi
      show p54_st2 t x (p54_lp2 t x k) i a b = _
      unfold p54_st2
      have e4 : decide (0 ≤ (i : Int) ∧ (i : Int) < (t.len : Int)) = true := decide_eq_true (by omega)
      rw [decide_eq_true (by omega), e4, Int.toNat_natCast]
      simp only [Bool.true_and, cond_true]
    · intro k b
      show p54_st2 t x (p54_lp2 t x k) (-1) a b = _
      unfold p54_st2
      rw [decide_eq_false (by omega)]; rfl
  have hf := fwd_loop (c := fun i => decide ((t.get i).Opacity ≤ x)) (v := fun i => (t.get i).Share.Low) (E := fun a => s54_at1 parts t x a) (EP := fun a => p54_at1 parts t x a) (n := t.len) (lpS := s54_lp0 parts t x) (lpP := p54_lp0 parts t x)
    (by
      intro k i b hi
      show s54_st0 parts t x (s54_lp0 parts t x k) i b = _
      unfold s54_st0
      rw [decide_eq_true (by omega), Int.toNat_natCast]; rfl)
    (by
      intro k b
      show s54_st0 parts t x (s54_lp0 parts t x k) _ b = _
      unfold s54_st0
      rw [decide_eq_false (by omega)]; rfl)
    (by
      intro k i b hi
      show p54_st0 parts t x (p54_lp0 parts t x k) i b = _
      unfold p54_st0
      have e4 : decide (0 ≤ (i : Int) ∧ (i : Int) < (t.len : Int)) = true := decide_eq_true (by omega)
      rw [decide_eq_true (by omega), e4, Int.toNat_natCast]
      simp only [Bool.true_and, cond_true])
    (by
      intro k b
      show p54_st0 parts t x (p54_lp0 parts t x k) _ b = _
      unfold p54_st0
      rw [decide_eq_false (by omega)]; rfl) hn 0
  exact ⟨hf.1.trans (hb _).1, hf.2.trans (hb _).2⟩
theorem s55_eq (parts : Int) (t : Sl KinkRow) (y : Span) (hn : t.len ≤ 9223372036854775807) : p55 parts t y = true ∧
    s55 parts t y = (fun a b => ((⟨a, b⟩ : Span), decide (a ≤ b))) (lastF (fun i => decide ((t.get i).Share.High < y.Low)) (fun i => w64 ((t.get i).Opacity + 1)) t.len 0)
      (if fst (fun i => decide ((t.get i).Share.Low > y.High)) t.len < t.len then w64 ((t.get (fst (fun i => decide ((t.get i).Share.Low > y.High)) t.len)).Opacity - 1) else 1000000) := by
  have hb : ∀ a, p55_at1 t y a = true ∧ s55_at1 t y a = (fun a b => ((⟨a, b⟩ : Span), decide (a ≤ b))) a (if fst (fun i => decide ((t.get i).Share.Low > y.High)) t.len < t.len then w64 ((t.get (fst (fun i => decide ((t.get i).Share.Low > y.High)) t.len)).Opacity - 1) else 1000000) := by
    intro a
    refine bwd_loop (γ := Span × Bool) (c := fun i => decide ((t.get i).Share.Low > y.High)) (v := fun i => w64 ((t.get i).Opacity - 1)) (E := fun b => ((⟨a, b⟩ : Span), decide (a ≤ b))) (EP := fun _ => true) (n := t.len) (lpS := fun k i b => s55_lp2 t y k i a b) (lpP := fun k i b => p55_lp2 t y k i a b) ?_ ?_ ?_ ?_ hn 1000000
    · intro k i b hi
      show s55_st2 t y (s55_lp2 t y k) i a b = _
      unfold s55_st2
      rw [decide_eq_true (by omega), Int.toNat_natCast]; rfl
    · intro k b
      show s55_st2 t y (s55_lp2 t y k) (-1) a b = _
      unfold s55_st2
      rw [decide_eq_false (by omega)]; rfl
    · intro k i b hi
      show p55_st2 t y (p55_lp2 t y k) i a b = _
      unfold p55_st2
      have e4 : decide (0 ≤ (i : Int) ∧ (i : Int) < (t.len : Int)) = true := decide_eq_true (by omega)
      rw [decide_eq_true (by omega), e4, Int.toNat_natCast]
      simp only [Bool.true_and, cond_true]
    · intro k b
      show p55_st2 t y (p55_lp2 t y k) (-1) a b = _
      unfold p55_st2
      rw [decide_eq_false (by omega)]; rfl
  have hf := fwd_loop (c := fun i => decide ((t.get i).Share.High < y.Low)) (v := fun i => w64 ((t.get i).Opacity + 1)) (E := fun a => s55_at1 t y a) (EP := fun a => p55_at1 t y a) (n := t.len) (lpS := s55_lp0 t y) (lpP := p55_lp0 t y)
    (by
      intro k i b hi
      show s55_st0 t y (s55_lp0 t y k) i b = _
      unfold s55_st0
      rw [decide_eq_true (by omega), Int.toNat_natCast]; rfl)
    (by
      intro k b
      show s55_st0 t y (s55_lp0 t y k) _ b = _
      unfold s55_st0
      rw [decide_eq_false (by omega)]; rfl)
    (by
      intro k i b hi
      show p55_st0 t y (p55_lp0 t y k) i b = _
      unfold p55_st0
      have e4 : decide (0 ≤ (i : Int) ∧ (i : Int) < (t.len : Int)) = true := decide_eq_true (by omega)
      rw [decide_eq_true (by omega), e4, Int.toNat_natCast]
      simp only [Bool.true_and, cond_true])
    (by
      intro k b
      show p55_st0 t y (p55_lp0 t y k) _ b = _
      unfold p55_st0
      rw [decide_eq_false (by omega)]; rfl) hn 0
  exact ⟨hf.1.trans (hb _).1, hf.2.trans (hb _).2⟩
theorem k_mono {parts : Int} {t : Sl KinkRow} (h : ∀ i, i < t.len → KRow parts t i) : ∀ d i, i + d < t.len → (0 < d → (t.get i).Opacity < (t.get (i + d)).Opacity) ∧ (t.get i).Share.Low ≤ (t.get (i + d)).Share.Low ∧ (t.get i).Share.High ≤ (t.get (i + d)).Share.High := by
  intro d
  induction d with
  | zero => intro i hi; exact ⟨fun h => absurd h (by omega), Int.le_refl _, Int.le_refl _⟩
  | succ d ih =>
    intro i hi
    obtain ⟨h1, h2, h3⟩ := ih i (by omega)
    obtain ⟨_, _, h4⟩ := h (i + (d + 1)) hi
    have e : i + (d + 1) - 1 = i + d := by omega
    rw [e] at h4
    have h4 := h4.resolve_left (by omega)
    refine ⟨fun _ => ?_, by omega, by omega⟩
    by_cases hd : 0 < d
    · have := h1 hd; omega
    · have : d = 0 := by omega
      subst this; exact h4.1
theorem k_op {parts : Int} {t : Sl KinkRow} (h : ∀ i, i < t.len → KRow parts t i) {i j : Nat} (hij : i < j) (hj : j < t.len) : (t.get i).Opacity < (t.get j).Opacity := by
  have := (k_mono h (j - i) i (by omega)).1 (by omega)
  rwa [show i + (j - i) = j by omega] at this
theorem k_low {parts : Int} {t : Sl KinkRow} (h : ∀ i, i < t.len → KRow parts t i) {i j : Nat} (hij : i ≤ j) (hj : j < t.len) : (t.get i).Share.Low ≤ (t.get j).Share.Low := by
  have := (k_mono h (j - i) i (by omega)).2.1
  rwa [show i + (j - i) = j by omega] at this
theorem k_high {parts : Int} {t : Sl KinkRow} (h : ∀ i, i < t.len → KRow parts t i) {i j : Nat} (hij : i ≤ j) (hj : j < t.len) : (t.get i).Share.High ≤ (t.get j).Share.High := by
  have := (k_mono h (j - i) i (by omega)).2.2
  rwa [show i + (j - i) = j by omega] at this
theorem last_fst {β : Type} {c d : Nat → Bool} {v : Nat → β} {n : Nat} {a : β} (hcd : ∀ i, i < n → d i = !c i) (hup : ∀ i j, i ≤ j → j < n → d i = true → d j = true) :
    lastF c v n a = if 0 < fst d n then v (fst d n - 1) else a := by
  have hl := fst_le d n
  have hhi : ∀ j, fst d n ≤ j → j < n → c j = false := by
    intro j h1 h2
    have := hup _ _ h1 h2 (fst_hi (by omega))
    rw [hcd j h2] at this
    simpa using this
  by_cases h : 0 < fst d n
  · rw [if_pos h]
    refine last_at (by omega) ?_ (fun j h1 h2 => hhi j (by omega) h2)
    have := fst_lo (c := d) (n := n) (j := fst d n - 1) (by omega)
    rw [hcd _ (by omega)] at this
    simpa using this
  · rw [if_neg h]
    exact last_none fun j hj => hhi j (by omega) hj
theorem s51_ok {parts : Int} {t : Sl KinkRow} (x : Int) (hn : t.len ≤ 9223372036854775807) (hk : KOk parts t) : p51 parts t x = true ∧ s51 parts t x = if 0 ≤ x ∧ x ≤ 1000000 then (s54 parts t x, 0) else (⟨0, 0⟩, 2) := by
  obtain ⟨h1, h2⟩ := s85_eq parts t hn
  have h2 := h2.2 hk
  obtain ⟨a1, a2⟩ := s86_eq x t hn
  obtain ⟨b1, b2⟩ := s86a_eq x t hn
  have hla := fst_le (fun i => s87 x (t.get i)) t.len
  have hlb := fst_le (fun i => s88 x (t.get i)) t.len
  unfold p51 s51 p51_at0 s51_at0 p51_at1 s51_at1 p51_at2 s51_at2 p51_at3 s51_at3 p51_at4 s51_at4
  rw [h1, h2, s63_eq, a1, a2, b1, b2, (s54_eq parts t x hn).2]
  by_cases hx : 0 ≤ x ∧ x ≤ 1000000
  · rw [decide_eq_true hx, if_pos hx]
    rw [last_fst (c := fun i => decide ((t.get i).Opacity ≤ x)) (d := fun i => s87 x (t.get i)) (fun i hi => by
        show decide ((t.get i).Opacity > x) = !decide ((t.get i).Opacity ≤ x)
        rw [← decide_not]; exact decide_eq_decide.2 (by omega)) (fun i j hij hj h => by
        have h : decide ((t.get i).Opacity > x) = true := h
        have h := of_decide_eq_true h
        refine decide_eq_true ?_
        by_cases e : i = j
        · rw [← e]; exact h
        · have := k_op hk.2.2 (i := i) (j := j) (by omega) hj; omega)]
    have eb : (fun i => decide ((t.get i).Opacity ≥ x)) = fun i => s88 x (t.get i) := rfl
    rw [eb]
    generalize fst (fun i => s87 x (t.get i)) t.len = A at *
    generalize fst (fun i => s88 x (t.get i)) t.len = B at *
    by_cases hA : 0 < A
    · have e1 : w64 ((A : Int) - 1) = ((A - 1 : Nat) : Int) := by rw [w64_id (by omega) (by omega)]; omega
      rw [if_pos hA, decide_eq_true (by omega : (A : Int) > 0), e1]
      by_cases hB : B < t.len
      · rw [if_pos hB, decide_eq_true (by omega : (B : Int) < (t.len : Int)), decide_eq_true (by omega : 0 ≤ ((A - 1 : Nat) : Int) ∧ ((A - 1 : Nat) : Int) < (t.len : Int)), decide_eq_true (by omega : 0 ≤ (B : Int) ∧ (B : Int) < (t.len : Int))]
        exact ⟨rfl, rfl⟩
      · rw [if_neg hB, decide_eq_false (by omega : ¬ (B : Int) < (t.len : Int)), decide_eq_true (by omega : 0 ≤ ((A - 1 : Nat) : Int) ∧ ((A - 1 : Nat) : Int) < (t.len : Int))]
        exact ⟨rfl, rfl⟩
    · rw [if_neg hA, decide_eq_false (by omega : ¬ (A : Int) > 0)]
      by_cases hB : B < t.len
      · rw [if_pos hB, decide_eq_true (by omega : (B : Int) < (t.len : Int)), decide_eq_true (by omega : 0 ≤ (B : Int) ∧ (B : Int) < (t.len : Int))]
        exact ⟨rfl, rfl⟩
      · rw [if_neg hB, decide_eq_false (by omega : ¬ (B : Int) < (t.len : Int))]
        exact ⟨rfl, rfl⟩
  · rw [decide_eq_false hx, if_neg hx]
    exact ⟨rfl, rfl⟩
theorem s52_ok {parts : Int} {t : Sl KinkRow} (y : Span) (hn : t.len ≤ 9223372036854775807) (hk : KOk parts t) : p52 parts t y = true ∧
    s52 parts t y = if 0 ≤ y.Low ∧ y.Low ≤ y.High ∧ y.High ≤ parts then (cond (s55 parts t y).2 ((s55 parts t y).1, 0) (⟨0, 0⟩, 5)) else (⟨0, 0⟩, 2) := by
  obtain ⟨h1, h2⟩ := s85_eq parts t hn
  have h2 := h2.2 hk
  obtain ⟨a1, a2⟩ := s86b_eq y t hn
  obtain ⟨b1, b2⟩ := s86c_eq y t hn
  have hla := fst_le (fun i => s89 y (t.get i)) t.len
  have hlb := fst_le (fun i => s90 y (t.get i)) t.len
  unfold p52 s52 p52_at0 s52_at0 p52_at1 s52_at1 p52_at2 s52_at2 p52_at3 s52_at3 p52_at4 s52_at4
  rw [h1, h2, s69_eq, a1, a2, b1, b2, (s55_eq parts t y hn).2]
  by_cases hx : 0 ≤ y.Low ∧ y.Low ≤ y.High ∧ y.High ≤ parts
  · rw [decide_eq_true hx, if_pos hx]
    rw [last_fst (c := fun i => decide ((t.get i).Share.High < y.Low)) (d := fun i => s89 y (t.get i)) (fun i hi => by
        show decide ((t.get i).Share.High ≥ y.Low) = !decide ((t.get i).Share.High < y.Low)
        rw [← decide_not]; exact decide_eq_decide.2 (by omega)) (fun i j hij hj h => by
        have h : decide ((t.get i).Share.High ≥ y.Low) = true := h
        have h := of_decide_eq_true h
        refine decide_eq_true ?_
        have := k_high hk.2.2 hij hj; omega)]
    have eb : (fun i => decide ((t.get i).Share.Low > y.High)) = fun i => s90 y (t.get i) := rfl
    rw [eb]
    generalize fst (fun i => s89 y (t.get i)) t.len = A at *
    generalize fst (fun i => s90 y (t.get i)) t.len = B at *
    have fin : ∀ a b : Int, (cond (decide (a > b)) ((⟨0, 0⟩ : Span), (5:Int)) (⟨a, b⟩, 0)) = cond (decide (a ≤ b)) (⟨a, b⟩, 0) (⟨0, 0⟩, 5) := by
      intro a b
      by_cases h : a ≤ b
      · rw [decide_eq_true h, decide_eq_false (by omega)]; rfl
      · rw [decide_eq_false h, decide_eq_true (by omega)]; rfl
    by_cases hA : 0 < A
    · have e1 : w64 ((A : Int) - 1) = ((A - 1 : Nat) : Int) := by rw [w64_id (by omega) (by omega)]; omega
      rw [if_pos hA, decide_eq_true (by omega : (A : Int) > 0), e1]
      by_cases hB : B < t.len
      · rw [if_pos hB, decide_eq_true (by omega : (B : Int) < (t.len : Int)), decide_eq_true (by omega : 0 ≤ ((A - 1 : Nat) : Int) ∧ ((A - 1 : Nat) : Int) < (t.len : Int)), decide_eq_true (by omega : 0 ≤ (B : Int) ∧ (B : Int) < (t.len : Int))]
        exact ⟨rfl, fin _ _⟩
      · rw [if_neg hB, decide_eq_false (by omega : ¬ (B : Int) < (t.len : Int)), decide_eq_true (by omega : 0 ≤ ((A - 1 : Nat) : Int) ∧ ((A - 1 : Nat) : Int) < (t.len : Int))]
        exact ⟨rfl, fin _ _⟩
    · rw [if_neg hA, decide_eq_false (by omega : ¬ (A : Int) > 0)]
      by_cases hB : B < t.len
      · rw [if_pos hB, decide_eq_true (by omega : (B : Int) < (t.len : Int)), decide_eq_true (by omega : 0 ≤ (B : Int) ∧ (B : Int) < (t.len : Int))]
        exact ⟨rfl, fin _ _⟩
      · rw [if_neg hB, decide_eq_false (by omega : ¬ (B : Int) < (t.len : Int))]
        exact ⟨rfl, rfl⟩
  · rw [decide_eq_false hx, if_neg hx]
    exact ⟨rfl, rfl⟩
theorem s51_no {parts : Int} {t : Sl KinkRow} (x : Int) (hn : t.len ≤ 9223372036854775807) (hk : ¬ KOk parts t) : p51 parts t x = true ∧ s51 parts t x = (⟨0, 0⟩, 2) := by
  obtain ⟨h1, h2⟩ := s85_eq parts t hn
  have h2 : s85 parts t = false := by
    cases e : s85 parts t
    · rfl
    · exact absurd (h2.1 e) hk
  unfold p51 s51 p51_at0 s51_at0
  rw [h1, h2]
  exact ⟨rfl, rfl⟩
theorem s52_no {parts : Int} {t : Sl KinkRow} (y : Span) (hn : t.len ≤ 9223372036854775807) (hk : ¬ KOk parts t) : p52 parts t y = true ∧ s52 parts t y = (⟨0, 0⟩, 2) := by
  obtain ⟨h1, h2⟩ := s85_eq parts t hn
  have h2 : s85 parts t = false := by
    cases e : s85 parts t
    · rfl
    · exact absurd (h2.1 e) hk
  unfold p52 s52 p52_at0 s52_at0
  rw [h1, h2]
  exact ⟨rfl, rfl⟩
end Go.Proofs
namespace Go.Proofs
open Go Go.Pm
set_option linter.unusedVariables false
theorem both14 (a b : Span) : s14_at7 a b = true := by
  unfold s14_at7 s14_at9 s14_at10 s14_at11 s14_at12 s56 s56_at0 s57
  rw [s29_eq, s29_eq, s69_eq, s69_eq]
  generalize (if b.Low > a.Low then b.Low else a.Low) = x
  generalize (if b.High < a.High then b.High else a.High) = y
  by_cases h1 : 0 ≤ a.Low ∧ a.Low ≤ a.High ∧ a.High ≤ 1000000
  · rw [decide_eq_true h1]
    by_cases h2 : 0 ≤ b.Low ∧ b.Low ≤ b.High ∧ b.High ≤ 1000000
    · rw [decide_eq_true h2]
      by_cases h3 : x ≤ y
      · rw [decide_eq_true h3, decide_eq_false (by omega : ¬ x > y)]
        simp
      · rw [decide_eq_false h3, decide_eq_true (by omega : x > y)]
        rfl
    · rw [decide_eq_false h2]
      rfl
  · rw [decide_eq_false h1]
    rfl
theorem at8_14 (x : Int) (y other : Span) (a0 a1 wl wh : Int) (deep : Bool) (h : deep = true → ((a0 ≤ y.High ∧ a1 ≥ y.Low) ↔ (x ≥ wl ∧ x ≤ wh))) :
    s14_at8 x y other a0 a1 (cond (decide (wl ≤ wh)) 0 5) (cond (decide (wl ≤ wh)) wl 0) (cond (decide (wl ≤ wh)) wh 0) deep (decide (wl ≤ wh)) wl wh = true := by
  unfold s14_at8
  rw [both14]
  by_cases hw : wl ≤ wh
  · rw [decide_eq_true hw]
    cases deep
    · simp
    · have h := h rfl
      by_cases h1 : a0 ≤ y.High <;> by_cases h2 : a1 ≥ y.Low <;> by_cases h3 : x ≥ wl <;> by_cases h4 : x ≤ wh <;>
        first | (exfalso; omega) | (simp only [decide_eq_true h1, decide_eq_true h2, decide_eq_true h3, decide_eq_true h4]; simp; done) | simp [h1, h2, h3, h4]
  · rw [decide_eq_false hw]
    cases deep
    · simp
    · have h := h rfl
      by_cases h1 : a0 ≤ y.High <;> by_cases h2 : a1 ≥ y.Low <;> first | (exfalso; omega) | simp [h1, h2]
theorem agrees14 {parts : Int} {t : Sl KinkRow} (x : Int) (y : Span) (hn : t.len ≤ 9223372036854775807) (hk : KOk parts t) (hx : 0 ≤ x ∧ x ≤ 1000000) (hy : 0 ≤ y.Low ∧ y.Low ≤ y.High ∧ y.High ≤ parts) :
    ((s54 parts t x).Low ≤ y.High ∧ (s54 parts t x).High ≥ y.Low) ↔ (x ≥ (s55 parts t y).1.Low ∧ x ≤ (s55 parts t y).1.High) := by
  rw [(s54_eq parts t x hn).2, (s55_eq parts t y hn).2]
  have r := hk.2.2
  rw [last_fst (c := fun i => decide ((t.get i).Opacity ≤ x)) (d := fun i => decide ((t.get i).Opacity > x)) (fun i hi => by
        show decide ((t.get i).Opacity > x) = !decide ((t.get i).Opacity ≤ x)
        rw [← decide_not]; exact decide_eq_decide.2 (by omega)) (fun i j hij hj h => by
        have h := of_decide_eq_true h
        refine decide_eq_true ?_
        by_cases e : i = j
        · rw [← e]; exact h
        · have := k_op r (i := i) (j := j) (by omega) hj; omega),
    last_fst (c := fun i => decide ((t.get i).Share.High < y.Low)) (d := fun i => decide ((t.get i).Share.High ≥ y.Low)) (fun i hi => by
        show decide ((t.get i).Share.High ≥ y.Low) = !decide ((t.get i).Share.High < y.Low)
        rw [← decide_not]; exact decide_eq_decide.2 (by omega)) (fun i j hij hj h => by
        have h := of_decide_eq_true h
        refine decide_eq_true ?_
        have := k_high r hij hj; omega)]
  have hA := fst_le (fun i => decide ((t.get i).Opacity > x)) t.len
  have lA : ∀ j, j < fst (fun i => decide ((t.get i).Opacity > x)) t.len → ¬ (t.get j).Opacity > x := fun j h => of_decide_eq_false (fst_lo h)
  have uA : fst (fun i => decide ((t.get i).Opacity > x)) t.len < t.len → _ := fun h => of_decide_eq_true (fst_hi h)
  have hB := fst_le (fun i => decide ((t.get i).Opacity ≥ x)) t.len
  have lB : ∀ j, j < fst (fun i => decide ((t.get i).Opacity ≥ x)) t.len → ¬ (t.get j).Opacity ≥ x := fun j h => of_decide_eq_false (fst_lo h)
  have uB : fst (fun i => decide ((t.get i).Opacity ≥ x)) t.len < t.len → _ := fun h => of_decide_eq_true (fst_hi h)
  have hC := fst_le (fun i => decide ((t.get i).Share.High ≥ y.Low)) t.len
  have lC : ∀ j, j < fst (fun i => decide ((t.get i).Share.High ≥ y.Low)) t.len → ¬ (t.get j).Share.High ≥ y.Low := fun j h => of_decide_eq_false (fst_lo h)
  have uC : fst (fun i => decide ((t.get i).Share.High ≥ y.Low)) t.len < t.len → _ := fun h => of_decide_eq_true (fst_hi h)
  have hD := fst_le (fun i => decide ((t.get i).Share.Low > y.High)) t.len
  have lD : ∀ j, j < fst (fun i => decide ((t.get i).Share.Low > y.High)) t.len → ¬ (t.get j).Share.Low > y.High := fun j h => of_decide_eq_false (fst_lo h)
  have uD : fst (fun i => decide ((t.get i).Share.Low > y.High)) t.len < t.len → _ := fun h => of_decide_eq_true (fst_hi h)
  generalize fst (fun i => decide ((t.get i).Opacity > x)) t.len = A at *
  generalize fst (fun i => decide ((t.get i).Opacity ≥ x)) t.len = B at *
  generalize fst (fun i => decide ((t.get i).Share.High ≥ y.Low)) t.len = C at *
  generalize fst (fun i => decide ((t.get i).Share.Low > y.High)) t.len = D at *
  have bd : ∀ i, i < t.len → 0 ≤ (t.get i).Opacity ∧ (t.get i).Opacity ≤ 1000000 := fun i hi => (r i hi).1
  have c1 : (if 0 < A then (t.get (A - 1)).Share.Low else 0) ≤ y.High ↔ x ≤ (if D < t.len then w64 ((t.get D).Opacity - 1) else 1000000) := by
    by_cases hd : D < t.len
    · have := bd D hd
      rw [if_pos hd, w64_id (by omega) (by omega)]
      have u := uD hd
      by_cases ha : 0 < A
      · rw [if_pos ha]
        by_cases hAD : A ≤ D
        · have h1 := lD (A - 1) (by omega)
          have h2 : (t.get D).Opacity > x := by
            by_cases e : A = D
            · have := uA (by omega); rw [e] at this; exact this
            · have h3 := uA (by omega); have := k_op r (i := A) (j := D) (by omega) hd; omega
          omega
        · have h1 := k_low r (i := D) (j := A - 1) (by omega) (by omega)
          have h2 := lA D (by omega)
          omega
      · rw [if_neg ha]
        have h2 : (t.get D).Opacity > x := by
          by_cases e : A = D
          · have := uA (by omega); rw [e] at this; exact this
          · have h3 := uA (by omega); have := k_op r (i := A) (j := D) (by omega) hd; omega
        omega
    · rw [if_neg hd]
      by_cases ha : 0 < A
      · rw [if_pos ha]
        have := lD (A - 1) (by omega)
        omega
      · rw [if_neg ha]; omega
  have c2 : (if B < t.len then (t.get B).Share.High else parts) ≥ y.Low ↔ x ≥ (if 0 < C then w64 ((t.get (C - 1)).Opacity + 1) else 0) := by
    by_cases hc : 0 < C
    · have := bd (C - 1) (by omega)
      rw [if_pos hc, w64_id (by omega) (by omega)]
      by_cases hb : B < t.len
      · rw [if_pos hb]
        have u := uB hb
        by_cases hCB : C ≤ B
        · have h1 := lB (C - 1) (by omega)
          have h2 := uC (by omega)
          have := k_high r (i := C) (j := B) hCB hb
          omega
        · have h1 := lC B (by omega)
          have h2 : (t.get (C - 1)).Opacity ≥ x := by
            by_cases e : B = C - 1
            · rw [← e]; exact u
            · have := k_op r (i := B) (j := C - 1) (by omega) (by omega); omega
          omega
      · rw [if_neg hb]
        have := lB (C - 1) (by omega)
        omega
    · rw [if_neg hc]
      by_cases hb : B < t.len
      · rw [if_pos hb]
        have h2 := uC (by omega)
        have := k_high r (i := C) (j := B) (by omega) hb
        omega
      · rw [if_neg hb]; omega
  exact ⟨fun h => ⟨c2.1 h.2, c1.1 h.1⟩, fun h => ⟨c1.2 h.2, c2.2 h.1⟩⟩
end Go.Proofs
namespace Go.Proofs
open Go Go.Pm
set_option linter.unusedVariables false
theorem at4_14 {parts : Int} {t : Sl KinkRow} (x : Int) (y other : Span) (a0 a1 : Int) (deep : Bool) (hn : t.len ≤ 9223372036854775807) (hk : KOk parts t)
    (h : deep = true → (0 ≤ x ∧ x ≤ 1000000) ∧ a0 = (s54 parts t x).Low ∧ a1 = (s54 parts t x).High) :
    p14_at4 parts t x y other a0 a1 (s52 parts t y).2 (s52 parts t y).1.Low (s52 parts t y).1.High true deep = true ∧ s14_at4 parts t x y other a0 a1 (s52 parts t y).2 (s52 parts t y).1.Low (s52 parts t y).1.High true deep = true := by
  unfold p14_at4 s14_at4 p14_at6 s14_at6
  rw [(s52_ok y hn hk).2, s29_eq, (s55_eq parts t y hn).1, both14]
  by_cases hy : 0 ≤ y.Low ∧ y.Low ≤ y.High ∧ y.High ≤ parts
  · rw [decide_eq_true hy, if_pos hy]
    have e := at8_14 x y other a0 a1 (s55 parts t y).1.Low (s55 parts t y).1.High deep (fun hd => by
      obtain ⟨hx, rfl, rfl⟩ := h hd
      exact agrees14 x y hn hk hx hy)
    have e5 : (s55 parts t y).2 = decide ((s55 parts t y).1.Low ≤ (s55 parts t y).1.High) := by rw [(s55_eq parts t y hn).2]
    rw [e5]
    cases hw : decide ((s55 parts t y).1.Low ≤ (s55 parts t y).1.High) <;> rw [hw] at e <;> exact ⟨rfl, e⟩
  · rw [decide_eq_false hy, if_neg hy]
    exact ⟨rfl, rfl⟩
theorem law14 (a0 : Int) (a1 : (Sl KinkRow)) (a2 : Int) (a3 : Span) (a4 : Span) (hn : a1.len ≤ 9223372036854775807) : p14 a0 a1 a2 a3 a4 = true ∧ s14 a0 a1 a2 a3 a4 = true := by
  unfold p14 s14 p14_at0 s14_at0 p14_at1 s14_at1 p14_at2 s14_at2
  by_cases hl : (a1.len : Int) > 50
  · rw [decide_eq_true hl]; exact ⟨rfl, rfl⟩
  rw [decide_eq_false hl]
  by_cases hk : KOk a0 a1
  · have h53 : s53 a0 a1 = true := (s53_eq a0 a1 hn).2.2 hk
    rw [(s51_ok a2 hn hk).1, (s52_ok a3 hn hk).1, (s53_eq a0 a1 hn).1, h53, (s51_ok a2 hn hk).2]
    by_cases hx : 0 ≤ a2 ∧ a2 ≤ 1000000
    · have r := at4_14 a2 a3 a4 (s54 a0 a1 a2).Low (s54 a0 a1 a2).High true hn hk (fun _ => ⟨hx, rfl, rfl⟩)
      rw [if_pos hx]
      unfold p14_at3 s14_at3 p14_at5 s14_at5
      rw [decide_eq_true hx.1, decide_eq_true hx.2, (s54_eq a0 a1 a2 hn).1]
      simpa using r
    · rw [if_neg hx]
      unfold p14_at3 s14_at3
      by_cases h0 : a2 ≥ 0
      · have h1 : ¬ a2 ≤ 1000000 := by omega
        have r := at4_14 a2 a3 a4 0 0 false hn hk (fun h => by cases h)
        rw [decide_eq_true h0, decide_eq_false h1]
        simpa using r
      · have r := at4_14 a2 a3 a4 0 0 false hn hk (fun h => by cases h)
        rw [decide_eq_false h0]
        simpa using r
  · have h53 : s53 a0 a1 = false := by
      cases e : s53 a0 a1
      · rfl
      · exact absurd ((s53_eq a0 a1 hn).2.1 e) hk
    rw [(s51_no a2 hn hk).1, (s52_no a3 hn hk).1, (s53_eq a0 a1 hn).1, h53, (s51_no a2 hn hk).2, (s52_no a3 hn hk).2]
    unfold p14_at3 s14_at3 p14_at4 s14_at4 p14_at6 s14_at6
    rw [both14]
    by_cases h0 : a2 ≥ 0
    · rw [decide_eq_true h0]; exact ⟨rfl, rfl⟩
    · rw [decide_eq_false h0]; exact ⟨rfl, rfl⟩
end Go.Proofs
