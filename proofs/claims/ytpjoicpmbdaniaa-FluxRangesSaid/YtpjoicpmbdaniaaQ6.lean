/- Part 6 of what the proof rests on: a machine that runs functions of the program on pure values, proved sound; the functions that the law reaches, and what they compute. -/
import Derived.Test.YtpjoicpmbdaniaaQ5
set_option linter.all false
namespace Go.Proofs
open Go Go.Pm
set_option maxRecDepth 100000
set_option linter.unusedVariables false
attribute [local irreducible] Go.Pm.vcFun Go.Pm.vc Go.Pm.vcIter
-- 13 overburdenlaw05.FluxRanges
abbrev T13 : Tabs := (((((((Tabs.nil.addF 17 ctr17).addF 18 ctr18).addF 19 ctr19).addF 42 ctr42).addF 48 ctr48).addF 49 ctr49).addF 50 ctr50)
theorem okT13 : TabsOk Try.prog T13 := (((((((TabsOk.nil.addF ok17).addF ok18).addF ok19).addF ok42).addF ok48).addF ok49).addF ok50)
abbrev G13 : Ctrs := csm T13 (fun _ _ => []) (fun _ => false)
def ann13 : Ann := ⟨137, [(0, ⟨[0, 1, 2], [], [], [], []⟩), (1, ⟨[0, 1, 2, 15], [], [], [], []⟩), (2, ⟨[6], [], [], [], []⟩), (3, ⟨[0, 1, 2, 7, 8], [7], [], [], []⟩), (4, ⟨[0, 1, 2, 7, 8, 9, 10], [7, 9], [], [], []⟩), (5, ⟨[0, 1, 2, 7, 8, 9, 10, 31], [7, 9], [], [], []⟩), (6, ⟨[6], [], [], [], []⟩), (7, ⟨[0, 1, 2, 7, 8, 9, 10, 58], [7, 9], [], [], []⟩), (8, ⟨[6], [], [], [], []⟩), (9, ⟨[0, 1, 2, 7, 8, 9, 10, 11, 12], [7, 9], [], [], []⟩), (10, ⟨[0, 1, 2, 7, 9, 10, 11, 12, 95], [7, 9], [], [], []⟩), (11, ⟨[6], [], [], [], []⟩), (12, ⟨[1, 2, 7, 9, 11, 12, 120], [7, 9], [], [], []⟩), (13, ⟨[6], [], [], [], []⟩), (14, ⟨[135], [], [], [], []⟩), (15, ⟨[6], [], [], [], []⟩), (16, ⟨[6], [], [], [], []⟩)],
  [],
  [(3, ⟨[0, 1, 2], [], [], [], []⟩), (4, ⟨[0, 1, 2, 7, 8], [7], [], [], []⟩), (5, ⟨[0, 1, 2, 7, 8, 9, 10], [7, 9], [], [], []⟩), (6, ⟨[0, 1, 2, 7, 8, 9, 10, 31], [7, 9], [], [], []⟩), (7, ⟨[0, 1, 2, 7, 8, 9, 10], [7, 9], [], [], []⟩), (8, ⟨[0, 1, 2, 7, 8, 9, 10, 58], [7, 9], [], [], []⟩), (9, ⟨[0, 1, 2, 7, 8, 9, 10], [7, 9], [], [], []⟩), (10, ⟨[0, 1, 2, 7, 8, 9, 10, 11, 12], [7, 9], [], [], []⟩), (11, ⟨[0, 1, 2, 7, 9, 10, 11, 12, 95], [7, 9], [], [], []⟩), (12, ⟨[0, 1, 2, 7, 9, 10, 11, 12], [7, 9], [], [], []⟩), (13, ⟨[1, 2, 7, 9, 11, 12, 120], [7, 9], [], [], []⟩), (14, ⟨[1, 2, 7, 9, 11, 12], [7, 9], [], [], []⟩)],
  [], []⟩
def f13_g0 (t : (Sl RangeRow)) (opacity : Int) (energy : Int) : St := ⟨[(0, .one (.c (.p (.sl t.len 3 (fun i => enc_42 (t.get i)))))), (1, .one (.c (.p (.int .i64 opacity)))), (2, .one (.c (.p (.int .i64 energy))))], [], []⟩
def f13_at0 (K : List PA → Prop) (t : (Sl RangeRow)) (opacity : Int) (energy : Int) : Prop := vc Try.prog G13 ann13 (cdF Try.f13 [1, 1]) (bodyK Try.prog Try.f13 K) (f13_g0 t opacity energy)
def f13_g1 (t : (Sl RangeRow)) (opacity : Int) (energy : Int) (ev1 : Int) (a_0v1 : Int) (a_1v1 : Int) : St := ⟨[(0, .one (.c (.p (.sl t.len 3 (fun i => enc_42 (t.get i)))))), (1, .one (.c (.p (.int .i64 opacity)))), (2, .one (.c (.p (.int .i64 energy)))), (7, .one (.c (.ptr 7 0))), (8, .one (.c (.p (.int .i64 ev1))))], [(7, .box 24 [.p (.int .i64 a_0v1), .p (.int .i64 a_1v1)])], []⟩
def f13_at1 (K : List PA → Prop) (t : (Sl RangeRow)) (opacity : Int) (energy : Int) (ev1 : Int) (a_0v1 : Int) (a_1v1 : Int) : Prop := vc Try.prog G13 ann13 (cdF Try.f13 [1, 1, 1]) (bodyK Try.prog Try.f13 K) (f13_g1 t opacity energy ev1 a_0v1 a_1v1)
def f13_g2 (t : (Sl RangeRow)) (opacity : Int) (energy : Int) (ev1 : Int) (a_0v1 : Int) (a_1v1 : Int) (fv2 : Int) (b_0v2 : Int) (b_1v2 : Int) : St := ⟨[(0, .one (.c (.p (.sl t.len 3 (fun i => enc_42 (t.get i)))))), (1, .one (.c (.p (.int .i64 opacity)))), (2, .one (.c (.p (.int .i64 energy)))), (7, .one (.c (.ptr 7 0))), (8, .one (.c (.p (.int .i64 ev1)))), (9, .one (.c (.ptr 9 0))), (10, .one (.c (.p (.int .i64 fv2))))], [(7, .box 24 [.p (.int .i64 a_0v1), .p (.int .i64 a_1v1)]), (9, .box 24 [.p (.int .i64 b_0v2), .p (.int .i64 b_1v2)])], []⟩
def f13_at2 (K : List PA → Prop) (t : (Sl RangeRow)) (opacity : Int) (energy : Int) (ev1 : Int) (a_0v1 : Int) (a_1v1 : Int) (fv2 : Int) (b_0v2 : Int) (b_1v2 : Int) : Prop := vc Try.prog G13 ann13 (cdF Try.f13 [1, 1, 1, 1]) (bodyK Try.prog Try.f13 K) (f13_g2 t opacity energy ev1 a_0v1 a_1v1 fv2 b_0v2 b_1v2)
def f13_g3 (t : (Sl RangeRow)) (opacity : Int) (energy : Int) (ev1 : Int) (a_0v1 : Int) (a_1v1 : Int) (fv2 : Int) (b_0v2 : Int) (b_1v2 : Int) (t31v3 : Bool) : St := ⟨[(0, .one (.c (.p (.sl t.len 3 (fun i => enc_42 (t.get i)))))), (1, .one (.c (.p (.int .i64 opacity)))), (2, .one (.c (.p (.int .i64 energy)))), (7, .one (.c (.ptr 7 0))), (8, .one (.c (.p (.int .i64 ev1)))), (9, .one (.c (.ptr 9 0))), (10, .one (.c (.p (.int .i64 fv2)))), (31, .one (.c (.p (.bool t31v3))))], [(7, .box 24 [.p (.int .i64 a_0v1), .p (.int .i64 a_1v1)]), (9, .box 24 [.p (.int .i64 b_0v2), .p (.int .i64 b_1v2)])], []⟩
def f13_at3 (K : List PA → Prop) (t : (Sl RangeRow)) (opacity : Int) (energy : Int) (ev1 : Int) (a_0v1 : Int) (a_1v1 : Int) (fv2 : Int) (b_0v2 : Int) (b_1v2 : Int) (t31v3 : Bool) : Prop := vc Try.prog G13 ann13 (cdF Try.f13 [1, 1, 1, 1, 0, 1]) (sqK Try.prog G13 ann13 (cdF Try.f13 [1, 1, 1, 1, 1]) (bodyK Try.prog Try.f13 K)) (f13_g3 t opacity energy ev1 a_0v1 a_1v1 fv2 b_0v2 b_1v2 t31v3)
def f13_g4 (t : (Sl RangeRow)) (opacity : Int) (energy : Int) (ev1 : Int) (a_0v1 : Int) (a_1v1 : Int) (fv2 : Int) (b_0v2 : Int) (b_1v2 : Int) : St := ⟨[(0, .one (.c (.p (.sl t.len 3 (fun i => enc_42 (t.get i)))))), (1, .one (.c (.p (.int .i64 opacity)))), (2, .one (.c (.p (.int .i64 energy)))), (7, .one (.c (.ptr 7 0))), (8, .one (.c (.p (.int .i64 ev1)))), (9, .one (.c (.ptr 9 0))), (10, .one (.c (.p (.int .i64 fv2))))], [(7, .box 24 [.p (.int .i64 a_0v1), .p (.int .i64 a_1v1)]), (9, .box 24 [.p (.int .i64 b_0v2), .p (.int .i64 b_1v2)])], []⟩
def f13_at4 (K : List PA → Prop) (t : (Sl RangeRow)) (opacity : Int) (energy : Int) (ev1 : Int) (a_0v1 : Int) (a_1v1 : Int) (fv2 : Int) (b_0v2 : Int) (b_1v2 : Int) : Prop := vc Try.prog G13 ann13 (cdF Try.f13 [1, 1, 1, 1, 1]) (bodyK Try.prog Try.f13 K) (f13_g4 t opacity energy ev1 a_0v1 a_1v1 fv2 b_0v2 b_1v2)
def f13_g5 (t : (Sl RangeRow)) (opacity : Int) (energy : Int) (ev1 : Int) (a_0v1 : Int) (a_1v1 : Int) (fv2 : Int) (b_0v2 : Int) (b_1v2 : Int) (t58v5 : Bool) : St := ⟨[(0, .one (.c (.p (.sl t.len 3 (fun i => enc_42 (t.get i)))))), (1, .one (.c (.p (.int .i64 opacity)))), (2, .one (.c (.p (.int .i64 energy)))), (7, .one (.c (.ptr 7 0))), (8, .one (.c (.p (.int .i64 ev1)))), (9, .one (.c (.ptr 9 0))), (10, .one (.c (.p (.int .i64 fv2)))), (58, .one (.c (.p (.bool t58v5))))], [(7, .box 24 [.p (.int .i64 a_0v1), .p (.int .i64 a_1v1)]), (9, .box 24 [.p (.int .i64 b_0v2), .p (.int .i64 b_1v2)])], []⟩
def f13_at5 (K : List PA → Prop) (t : (Sl RangeRow)) (opacity : Int) (energy : Int) (ev1 : Int) (a_0v1 : Int) (a_1v1 : Int) (fv2 : Int) (b_0v2 : Int) (b_1v2 : Int) (t58v5 : Bool) : Prop := vc Try.prog G13 ann13 (cdF Try.f13 [1, 1, 1, 1, 1, 0, 1]) (sqK Try.prog G13 ann13 (cdF Try.f13 [1, 1, 1, 1, 1, 1]) (bodyK Try.prog Try.f13 K)) (f13_g5 t opacity energy ev1 a_0v1 a_1v1 fv2 b_0v2 b_1v2 t58v5)
def f13_g6 (t : (Sl RangeRow)) (opacity : Int) (energy : Int) (ev1 : Int) (a_0v1 : Int) (a_1v1 : Int) (fv2 : Int) (b_0v2 : Int) (b_1v2 : Int) : St := ⟨[(0, .one (.c (.p (.sl t.len 3 (fun i => enc_42 (t.get i)))))), (1, .one (.c (.p (.int .i64 opacity)))), (2, .one (.c (.p (.int .i64 energy)))), (7, .one (.c (.ptr 7 0))), (8, .one (.c (.p (.int .i64 ev1)))), (9, .one (.c (.ptr 9 0))), (10, .one (.c (.p (.int .i64 fv2))))], [(7, .box 24 [.p (.int .i64 a_0v1), .p (.int .i64 a_1v1)]), (9, .box 24 [.p (.int .i64 b_0v2), .p (.int .i64 b_1v2)])], []⟩
def f13_at6 (K : List PA → Prop) (t : (Sl RangeRow)) (opacity : Int) (energy : Int) (ev1 : Int) (a_0v1 : Int) (a_1v1 : Int) (fv2 : Int) (b_0v2 : Int) (b_1v2 : Int) : Prop := vc Try.prog G13 ann13 (cdF Try.f13 [1, 1, 1, 1, 1, 1]) (bodyK Try.prog Try.f13 K) (f13_g6 t opacity energy ev1 a_0v1 a_1v1 fv2 b_0v2 b_1v2)
def f13_g7 (t : (Sl RangeRow)) (opacity : Int) (energy : Int) (ev1 : Int) (a_0v1 : Int) (a_1v1 : Int) (fv2 : Int) (b_0v2 : Int) (b_1v2 : Int) (deepv7 : Bool) (fastv7 : Bool) : St := ⟨[(0, .one (.c (.p (.sl t.len 3 (fun i => enc_42 (t.get i)))))), (1, .one (.c (.p (.int .i64 opacity)))), (2, .one (.c (.p (.int .i64 energy)))), (7, .one (.c (.ptr 7 0))), (8, .one (.c (.p (.int .i64 ev1)))), (9, .one (.c (.ptr 9 0))), (10, .one (.c (.p (.int .i64 fv2)))), (11, .one (.c (.p (.bool deepv7)))), (12, .one (.c (.p (.bool fastv7))))], [(7, .box 24 [.p (.int .i64 a_0v1), .p (.int .i64 a_1v1)]), (9, .box 24 [.p (.int .i64 b_0v2), .p (.int .i64 b_1v2)])], []⟩
def f13_at7 (K : List PA → Prop) (t : (Sl RangeRow)) (opacity : Int) (energy : Int) (ev1 : Int) (a_0v1 : Int) (a_1v1 : Int) (fv2 : Int) (b_0v2 : Int) (b_1v2 : Int) (deepv7 : Bool) (fastv7 : Bool) : Prop := vc Try.prog G13 ann13 (cdF Try.f13 [1, 1, 1, 1, 1, 1, 1]) (bodyK Try.prog Try.f13 K) (f13_g7 t opacity energy ev1 a_0v1 a_1v1 fv2 b_0v2 b_1v2 deepv7 fastv7)
def f13_g8 (t : (Sl RangeRow)) (opacity : Int) (energy : Int) (a_0v1 : Int) (a_1v1 : Int) (fv2 : Int) (b_0v2 : Int) (b_1v2 : Int) (deepv7 : Bool) (fastv7 : Bool) (t95v8 : Bool) : St := ⟨[(0, .one (.c (.p (.sl t.len 3 (fun i => enc_42 (t.get i)))))), (1, .one (.c (.p (.int .i64 opacity)))), (2, .one (.c (.p (.int .i64 energy)))), (7, .one (.c (.ptr 7 0))), (9, .one (.c (.ptr 9 0))), (10, .one (.c (.p (.int .i64 fv2)))), (11, .one (.c (.p (.bool deepv7)))), (12, .one (.c (.p (.bool fastv7)))), (95, .one (.c (.p (.bool t95v8))))], [(7, .box 24 [.p (.int .i64 a_0v1), .p (.int .i64 a_1v1)]), (9, .box 24 [.p (.int .i64 b_0v2), .p (.int .i64 b_1v2)])], []⟩
def f13_at8 (K : List PA → Prop) (t : (Sl RangeRow)) (opacity : Int) (energy : Int) (a_0v1 : Int) (a_1v1 : Int) (fv2 : Int) (b_0v2 : Int) (b_1v2 : Int) (deepv7 : Bool) (fastv7 : Bool) (t95v8 : Bool) : Prop := vc Try.prog G13 ann13 (cdF Try.f13 [1, 1, 1, 1, 1, 1, 1, 0, 1]) (sqK Try.prog G13 ann13 (cdF Try.f13 [1, 1, 1, 1, 1, 1, 1, 1]) (bodyK Try.prog Try.f13 K)) (f13_g8 t opacity energy a_0v1 a_1v1 fv2 b_0v2 b_1v2 deepv7 fastv7 t95v8)
def f13_g9 (t : (Sl RangeRow)) (opacity : Int) (energy : Int) (a_0v1 : Int) (a_1v1 : Int) (fv2 : Int) (b_0v2 : Int) (b_1v2 : Int) (deepv7 : Bool) (fastv7 : Bool) : St := ⟨[(0, .one (.c (.p (.sl t.len 3 (fun i => enc_42 (t.get i)))))), (1, .one (.c (.p (.int .i64 opacity)))), (2, .one (.c (.p (.int .i64 energy)))), (7, .one (.c (.ptr 7 0))), (9, .one (.c (.ptr 9 0))), (10, .one (.c (.p (.int .i64 fv2)))), (11, .one (.c (.p (.bool deepv7)))), (12, .one (.c (.p (.bool fastv7))))], [(7, .box 24 [.p (.int .i64 a_0v1), .p (.int .i64 a_1v1)]), (9, .box 24 [.p (.int .i64 b_0v2), .p (.int .i64 b_1v2)])], []⟩
def f13_at9 (K : List PA → Prop) (t : (Sl RangeRow)) (opacity : Int) (energy : Int) (a_0v1 : Int) (a_1v1 : Int) (fv2 : Int) (b_0v2 : Int) (b_1v2 : Int) (deepv7 : Bool) (fastv7 : Bool) : Prop := vc Try.prog G13 ann13 (cdF Try.f13 [1, 1, 1, 1, 1, 1, 1, 1]) (bodyK Try.prog Try.f13 K) (f13_g9 t opacity energy a_0v1 a_1v1 fv2 b_0v2 b_1v2 deepv7 fastv7)
def f13_g10 (opacity : Int) (energy : Int) (a_0v1 : Int) (a_1v1 : Int) (b_0v2 : Int) (b_1v2 : Int) (deepv7 : Bool) (fastv7 : Bool) (t120v10 : Bool) : St := ⟨[(1, .one (.c (.p (.int .i64 opacity)))), (2, .one (.c (.p (.int .i64 energy)))), (7, .one (.c (.ptr 7 0))), (9, .one (.c (.ptr 9 0))), (11, .one (.c (.p (.bool deepv7)))), (12, .one (.c (.p (.bool fastv7)))), (120, .one (.c (.p (.bool t120v10))))], [(7, .box 24 [.p (.int .i64 a_0v1), .p (.int .i64 a_1v1)]), (9, .box 24 [.p (.int .i64 b_0v2), .p (.int .i64 b_1v2)])], []⟩
def f13_at10 (K : List PA → Prop) (opacity : Int) (energy : Int) (a_0v1 : Int) (a_1v1 : Int) (b_0v2 : Int) (b_1v2 : Int) (deepv7 : Bool) (fastv7 : Bool) (t120v10 : Bool) : Prop := vc Try.prog G13 ann13 (cdF Try.f13 [1, 1, 1, 1, 1, 1, 1, 1, 0, 1]) (sqK Try.prog G13 ann13 (cdF Try.f13 [1, 1, 1, 1, 1, 1, 1, 1, 1]) (bodyK Try.prog Try.f13 K)) (f13_g10 opacity energy a_0v1 a_1v1 b_0v2 b_1v2 deepv7 fastv7 t120v10)
def f13_g11 (opacity : Int) (energy : Int) (a_0v1 : Int) (a_1v1 : Int) (b_0v2 : Int) (b_1v2 : Int) (deepv7 : Bool) (fastv7 : Bool) : St := ⟨[(1, .one (.c (.p (.int .i64 opacity)))), (2, .one (.c (.p (.int .i64 energy)))), (7, .one (.c (.ptr 7 0))), (9, .one (.c (.ptr 9 0))), (11, .one (.c (.p (.bool deepv7)))), (12, .one (.c (.p (.bool fastv7))))], [(7, .box 24 [.p (.int .i64 a_0v1), .p (.int .i64 a_1v1)]), (9, .box 24 [.p (.int .i64 b_0v2), .p (.int .i64 b_1v2)])], []⟩
def f13_at11 (K : List PA → Prop) (opacity : Int) (energy : Int) (a_0v1 : Int) (a_1v1 : Int) (b_0v2 : Int) (b_1v2 : Int) (deepv7 : Bool) (fastv7 : Bool) : Prop := vc Try.prog G13 ann13 (cdF Try.f13 [1, 1, 1, 1, 1, 1, 1, 1, 1]) (bodyK Try.prog Try.f13 K) (f13_g11 opacity energy a_0v1 a_1v1 b_0v2 b_1v2 deepv7 fastv7)
theorem f13_top (t : (Sl RangeRow)) (opacity : Int) (energy : Int) (K : List PA → Prop) :
  vcFun Try.prog G13 ann13 13 [.one (.sl t.len 3 (fun i => enc_42 (t.get i))), .one (.int .i64 opacity), .one (.int .i64 energy)] K =
  (condP (decide ((t.len : Int) > (50:Int)))
   (K [.one (.bool true)])
   (f13_at0 K t opacity energy)) := by kernel_rfl
theorem f13_eq0 (K : List PA → Prop) (t : (Sl RangeRow)) (opacity : Int) (energy : Int) :
  f13_at0 K t opacity energy =
  ((IsE enc_42 3 3 (fun i => enc_42 (t.get i)) ∧ (p19 t opacity = true)) ∧
  (f13_at1 K t opacity energy ((s19 t opacity).2) (((s19 t opacity).1).Low) (((s19 t opacity).1).High))) := by kernel_rfl
theorem f13_eq1 (K : List PA → Prop) (t : (Sl RangeRow)) (opacity : Int) (energy : Int) (ev1 : Int) (a_0v1 : Int) (a_1v1 : Int) :
  f13_at1 K t opacity energy ev1 a_0v1 a_1v1 =
  ((IsE enc_42 3 3 (fun i => enc_42 (t.get i)) ∧ (p42 t energy = true)) ∧
  (f13_at2 K t opacity energy ev1 a_0v1 a_1v1 ((s42 t energy).2) (((s42 t energy).1).Low) (((s42 t energy).1).High))) := by kernel_rfl
theorem f13_eq2 (K : List PA → Prop) (t : (Sl RangeRow)) (opacity : Int) (energy : Int) (ev1 : Int) (a_0v1 : Int) (a_1v1 : Int) (fv2 : Int) (b_0v2 : Int) (b_1v2 : Int) :
  f13_at2 K t opacity energy ev1 a_0v1 a_1v1 fv2 b_0v2 b_1v2 =
  ((IsE enc_42 3 3 (fun i => enc_42 (t.get i)) ∧ (p17 t = true)) ∧
  (f13_at3 K t opacity energy ev1 a_0v1 a_1v1 fv2 b_0v2 b_1v2 (!(s17 t)))) := by kernel_rfl
theorem f13_eq3 (K : List PA → Prop) (t : (Sl RangeRow)) (opacity : Int) (energy : Int) (ev1 : Int) (a_0v1 : Int) (a_1v1 : Int) (fv2 : Int) (b_0v2 : Int) (b_1v2 : Int) (t31v3 : Bool) :
  f13_at3 K t opacity energy ev1 a_0v1 a_1v1 fv2 b_0v2 b_1v2 t31v3 =
  (condP t31v3
   ((IsE enc_42 3 3 (fun i => enc_42 (t.get i)) ∧ (p48 t = true)) ∧
   (condP ((s48 t) == (2:Int))
    (condP (ev1 == (2:Int))
     (condP (fv2 == (2:Int))
      (condP (match (a_0v1 == (0:Int)) with | true => (match (a_1v1 == (0:Int)) with | true => true | false => false) | false => false)
       (condP (match (b_0v2 == (0:Int)) with | true => (match (b_1v2 == (0:Int)) with | true => true | false => false) | false => false)
        (K [.one (.bool true)])
        (K [.one (.bool false)]))
       (K [.one (.bool false)]))
      (K [.one (.bool false)]))
     (K [.one (.bool false)]))
    (K [.one (.bool false)])))
   (f13_at4 K t opacity energy ev1 a_0v1 a_1v1 fv2 b_0v2 b_1v2)) := by kernel_rfl
theorem f13_eq4 (K : List PA → Prop) (t : (Sl RangeRow)) (opacity : Int) (energy : Int) (ev1 : Int) (a_0v1 : Int) (a_1v1 : Int) (fv2 : Int) (b_0v2 : Int) (b_1v2 : Int) :
  f13_at4 K t opacity energy ev1 a_0v1 a_1v1 fv2 b_0v2 b_1v2 =
  ((IsE enc_42 3 3 (fun i => enc_42 (t.get i)) ∧ (p48 t = true)) ∧
  (f13_at5 K t opacity energy ev1 a_0v1 a_1v1 fv2 b_0v2 b_1v2 ((s48 t) != (0:Int)))) := by kernel_rfl
theorem f13_eq5 (K : List PA → Prop) (t : (Sl RangeRow)) (opacity : Int) (energy : Int) (ev1 : Int) (a_0v1 : Int) (a_1v1 : Int) (fv2 : Int) (b_0v2 : Int) (b_1v2 : Int) (t58v5 : Bool) :
  f13_at5 K t opacity energy ev1 a_0v1 a_1v1 fv2 b_0v2 b_1v2 t58v5 =
  (condP t58v5
   (K [.one (.bool false)])
   (f13_at6 K t opacity energy ev1 a_0v1 a_1v1 fv2 b_0v2 b_1v2)) := by kernel_rfl
noncomputable def cdA : Code → Code
  | .seq a _ => a
  | c => c
noncomputable def cdB : Code → Code
  | .seq _ a => a
  | c => c
theorem f13_eq6x (K : List PA → Prop) (Y : St → Prop) (t : (Sl RangeRow)) (opacity : Int) (energy : Int) (ev1 : Int) (a_0v1 : Int) (a_1v1 : Int) (fv2 : Int) (b_0v2 : Int) (b_1v2 : Int) :
  vc Try.prog G13 ann13 (cdA (cdF Try.f13 [1, 1, 1, 1, 1, 1])) (seqK (cutK Try.prog ann13 (hdId (cdB (cdF Try.f13 [1, 1, 1, 1, 1, 1]))) Y) (bodyK Try.prog Try.f13 K)) (f13_g6 t opacity energy ev1 a_0v1 a_1v1 fv2 b_0v2 b_1v2) =
  (condP (decide (opacity ≥ (0:Int)))
   (condP (decide (energy ≥ (1:Int)))
    (Y (f13_g7 t opacity energy ev1 a_0v1 a_1v1 fv2 b_0v2 b_1v2 (decide (opacity ≤ (1000000:Int))) (decide (energy ≤ (1000000:Int)))))
    (Y (f13_g7 t opacity energy ev1 a_0v1 a_1v1 fv2 b_0v2 b_1v2 (decide (opacity ≤ (1000000:Int))) false)))
   (condP (decide (energy ≥ (1:Int)))
    (Y (f13_g7 t opacity energy ev1 a_0v1 a_1v1 fv2 b_0v2 b_1v2 false (decide (energy ≤ (1000000:Int)))))
    (Y (f13_g7 t opacity energy ev1 a_0v1 a_1v1 fv2 b_0v2 b_1v2 false false)))) := by kernel_rfl
theorem f13_eq6y (K : List PA → Prop) (g : St) : vc Try.prog G13 ann13 (cdF Try.f13 [1, 1, 1, 1, 1, 1]) (bodyK Try.prog Try.f13 K) g =
  vc Try.prog G13 ann13 (cdA (cdF Try.f13 [1, 1, 1, 1, 1, 1])) (seqK (cutK Try.prog ann13 (hdId (cdB (cdF Try.f13 [1, 1, 1, 1, 1, 1]))) (fun s => vc Try.prog G13 ann13 (cdF Try.f13 [1, 1, 1, 1, 1, 1, 1]) (bodyK Try.prog Try.f13 K) s)) (bodyK Try.prog Try.f13 K)) g := by kernel_rfl
theorem f13_eq6 (K : List PA → Prop) (t : (Sl RangeRow)) (opacity : Int) (energy : Int) (ev1 : Int) (a_0v1 : Int) (a_1v1 : Int) (fv2 : Int) (b_0v2 : Int) (b_1v2 : Int) :
  f13_at6 K t opacity energy ev1 a_0v1 a_1v1 fv2 b_0v2 b_1v2 =
  (condP (decide (opacity ≥ (0:Int)))
   (condP (decide (energy ≥ (1:Int)))
    (f13_at7 K t opacity energy ev1 a_0v1 a_1v1 fv2 b_0v2 b_1v2 (decide (opacity ≤ (1000000:Int))) (decide (energy ≤ (1000000:Int))))
    (f13_at7 K t opacity energy ev1 a_0v1 a_1v1 fv2 b_0v2 b_1v2 (decide (opacity ≤ (1000000:Int))) false))
   (condP (decide (energy ≥ (1:Int)))
    (f13_at7 K t opacity energy ev1 a_0v1 a_1v1 fv2 b_0v2 b_1v2 false (decide (energy ≤ (1000000:Int))))
    (f13_at7 K t opacity energy ev1 a_0v1 a_1v1 fv2 b_0v2 b_1v2 false false))) := by
  unfold f13_at6 f13_at7
  exact (f13_eq6y K _).trans (f13_eq6x K (fun s => vc Try.prog G13 ann13 (cdF Try.f13 [1, 1, 1, 1, 1, 1, 1]) (bodyK Try.prog Try.f13 K) s) t opacity energy ev1 a_0v1 a_1v1 fv2 b_0v2 b_1v2)
theorem f13_eq7 (K : List PA → Prop) (t : (Sl RangeRow)) (opacity : Int) (energy : Int) (ev1 : Int) (a_0v1 : Int) (a_1v1 : Int) (fv2 : Int) (b_0v2 : Int) (b_1v2 : Int) (deepv7 : Bool) (fastv7 : Bool) :
  f13_at7 K t opacity energy ev1 a_0v1 a_1v1 fv2 b_0v2 b_1v2 deepv7 fastv7 =
  (condP deepv7
   (condP (ev1 != (0:Int))
    (f13_at8 K t opacity energy a_0v1 a_1v1 fv2 b_0v2 b_1v2 deepv7 fastv7 true)
    ((IsE enc_42 3 3 (fun i => enc_42 (t.get i)) ∧ (p49 t opacity = true)) ∧
    (condP (!(match (a_0v1 == (s49 t opacity).Low) with | true => (match (a_1v1 == (s49 t opacity).High) with | true => true | false => false) | false => false))
     (f13_at8 K t opacity energy a_0v1 a_1v1 fv2 b_0v2 b_1v2 deepv7 fastv7 true)
     (condP (!deepv7)
      (condP (ev1 != (2:Int))
       (f13_at8 K t opacity energy a_0v1 a_1v1 fv2 b_0v2 b_1v2 deepv7 fastv7 true)
       (f13_at8 K t opacity energy a_0v1 a_1v1 fv2 b_0v2 b_1v2 deepv7 fastv7 (!(match (a_0v1 == (0:Int)) with | true => (match (a_1v1 == (0:Int)) with | true => true | false => false) | false => false))))
      (f13_at8 K t opacity energy a_0v1 a_1v1 fv2 b_0v2 b_1v2 deepv7 fastv7 false)))))
   (condP (!deepv7)
    (condP (ev1 != (2:Int))
     (f13_at8 K t opacity energy a_0v1 a_1v1 fv2 b_0v2 b_1v2 deepv7 fastv7 true)
     (f13_at8 K t opacity energy a_0v1 a_1v1 fv2 b_0v2 b_1v2 deepv7 fastv7 (!(match (a_0v1 == (0:Int)) with | true => (match (a_1v1 == (0:Int)) with | true => true | false => false) | false => false))))
    (f13_at8 K t opacity energy a_0v1 a_1v1 fv2 b_0v2 b_1v2 deepv7 fastv7 false))) := by kernel_rfl
theorem f13_eq8 (K : List PA → Prop) (t : (Sl RangeRow)) (opacity : Int) (energy : Int) (a_0v1 : Int) (a_1v1 : Int) (fv2 : Int) (b_0v2 : Int) (b_1v2 : Int) (deepv7 : Bool) (fastv7 : Bool) (t95v8 : Bool) :
  f13_at8 K t opacity energy a_0v1 a_1v1 fv2 b_0v2 b_1v2 deepv7 fastv7 t95v8 =
  (condP t95v8
   (K [.one (.bool false)])
   (f13_at9 K t opacity energy a_0v1 a_1v1 fv2 b_0v2 b_1v2 deepv7 fastv7)) := by kernel_rfl
theorem f13_eq9 (K : List PA → Prop) (t : (Sl RangeRow)) (opacity : Int) (energy : Int) (a_0v1 : Int) (a_1v1 : Int) (fv2 : Int) (b_0v2 : Int) (b_1v2 : Int) (deepv7 : Bool) (fastv7 : Bool) :
  f13_at9 K t opacity energy a_0v1 a_1v1 fv2 b_0v2 b_1v2 deepv7 fastv7 =
  (condP fastv7
   (condP (fv2 != (0:Int))
    (f13_at10 K opacity energy a_0v1 a_1v1 b_0v2 b_1v2 deepv7 fastv7 true)
    ((IsE enc_42 3 3 (fun i => enc_42 (t.get i)) ∧ (p50 t energy = true)) ∧
    (condP (!(match (b_0v2 == (s50 t energy).Low) with | true => (match (b_1v2 == (s50 t energy).High) with | true => true | false => false) | false => false))
     (f13_at10 K opacity energy a_0v1 a_1v1 b_0v2 b_1v2 deepv7 fastv7 true)
     (condP (!fastv7)
      (condP (fv2 != (2:Int))
       (f13_at10 K opacity energy a_0v1 a_1v1 b_0v2 b_1v2 deepv7 fastv7 true)
       (f13_at10 K opacity energy a_0v1 a_1v1 b_0v2 b_1v2 deepv7 fastv7 (!(match (b_0v2 == (0:Int)) with | true => (match (b_1v2 == (0:Int)) with | true => true | false => false) | false => false))))
      (f13_at10 K opacity energy a_0v1 a_1v1 b_0v2 b_1v2 deepv7 fastv7 false)))))
   (condP (!fastv7)
    (condP (fv2 != (2:Int))
     (f13_at10 K opacity energy a_0v1 a_1v1 b_0v2 b_1v2 deepv7 fastv7 true)
     (f13_at10 K opacity energy a_0v1 a_1v1 b_0v2 b_1v2 deepv7 fastv7 (!(match (b_0v2 == (0:Int)) with | true => (match (b_1v2 == (0:Int)) with | true => true | false => false) | false => false))))
    (f13_at10 K opacity energy a_0v1 a_1v1 b_0v2 b_1v2 deepv7 fastv7 false))) := by kernel_rfl
theorem f13_eq10 (K : List PA → Prop) (opacity : Int) (energy : Int) (a_0v1 : Int) (a_1v1 : Int) (b_0v2 : Int) (b_1v2 : Int) (deepv7 : Bool) (fastv7 : Bool) (t120v10 : Bool) :
  f13_at10 K opacity energy a_0v1 a_1v1 b_0v2 b_1v2 deepv7 fastv7 t120v10 =
  (condP t120v10
   (K [.one (.bool false)])
   (f13_at11 K opacity energy a_0v1 a_1v1 b_0v2 b_1v2 deepv7 fastv7)) := by kernel_rfl
theorem f13_eq11 (K : List PA → Prop) (opacity : Int) (energy : Int) (a_0v1 : Int) (a_1v1 : Int) (b_0v2 : Int) (b_1v2 : Int) (deepv7 : Bool) (fastv7 : Bool) :
  f13_at11 K opacity energy a_0v1 a_1v1 b_0v2 b_1v2 deepv7 fastv7 =
  (condP deepv7
   (condP fastv7
    (condP ((decide (opacity ≤ b_1v2)) != (decide (a_0v1 ≤ energy)))
     (K [.one (.bool false)])
     (K [.one (.bool true)]))
    (K [.one (.bool true)]))
   (K [.one (.bool true)])) := by kernel_rfl
abbrev R13 := Bool
abbrev e13 (r : Bool) : List PA := [.one (.bool r)]
attribute [irreducible] f13_at0 f13_at1 f13_at2 f13_at3 f13_at4 f13_at5 f13_at6 f13_at7 f13_at8 f13_at9 f13_at10 f13_at11
def s13_at11 (opacity : Int) (energy : Int) (a_0v1 : Int) (a_1v1 : Int) (b_0v2 : Int) (b_1v2 : Int) (deepv7 : Bool) (fastv7 : Bool) : Bool :=
  (cond deepv7
   (cond fastv7
    (cond ((decide (opacity ≤ b_1v2)) != (decide (a_0v1 ≤ energy)))
     false
     true)
    true)
   true)
theorem q13_at11 (K : List PA → Prop) (opacity : Int) (energy : Int) (a_0v1 : Int) (a_1v1 : Int) (b_0v2 : Int) (b_1v2 : Int) (deepv7 : Bool) (fastv7 : Bool) (hk : K (e13 (s13_at11 opacity energy a_0v1 a_1v1 b_0v2 b_1v2 deepv7 fastv7))) : f13_at11 K opacity energy a_0v1 a_1v1 b_0v2 b_1v2 deepv7 fastv7 := by
  refine ofEq (f13_eq11 K opacity energy a_0v1 a_1v1 b_0v2 b_1v2 deepv7 fastv7) ?_
  unfold s13_at11 at hk
  exact (condP_gt (K := fun r => K (e13 r))
   (fun hk => (condP_gt (K := fun r => K (e13 r))
    (fun hk => (condP_gt (K := fun r => K (e13 r))
     (fun hk => hk)
     (fun hk => hk) hk))
    (fun hk => hk) hk))
   (fun hk => hk) hk)
def s13_at10 (opacity : Int) (energy : Int) (a_0v1 : Int) (a_1v1 : Int) (b_0v2 : Int) (b_1v2 : Int) (deepv7 : Bool) (fastv7 : Bool) (t120v10 : Bool) : Bool :=
  (cond t120v10
   false
   (s13_at11 opacity energy a_0v1 a_1v1 b_0v2 b_1v2 deepv7 fastv7))
theorem q13_at10 (K : List PA → Prop) (opacity : Int) (energy : Int) (a_0v1 : Int) (a_1v1 : Int) (b_0v2 : Int) (b_1v2 : Int) (deepv7 : Bool) (fastv7 : Bool) (t120v10 : Bool) (hk : K (e13 (s13_at10 opacity energy a_0v1 a_1v1 b_0v2 b_1v2 deepv7 fastv7 t120v10))) : f13_at10 K opacity energy a_0v1 a_1v1 b_0v2 b_1v2 deepv7 fastv7 t120v10 := by
  refine ofEq (f13_eq10 K opacity energy a_0v1 a_1v1 b_0v2 b_1v2 deepv7 fastv7 t120v10) ?_
  unfold s13_at10 at hk
  exact (condP_gt (K := fun r => K (e13 r))
   (fun hk => hk)
   (fun hk => (q13_at11 K opacity energy a_0v1 a_1v1 b_0v2 b_1v2 deepv7 fastv7 hk)) hk)
def s13_at9 (t : (Sl RangeRow)) (opacity : Int) (energy : Int) (a_0v1 : Int) (a_1v1 : Int) (fv2 : Int) (b_0v2 : Int) (b_1v2 : Int) (deepv7 : Bool) (fastv7 : Bool) : Bool :=
  (cond fastv7
   (cond (fv2 != (0:Int))
    (s13_at10 opacity energy a_0v1 a_1v1 b_0v2 b_1v2 deepv7 fastv7 true)
    (cond (!(match (b_0v2 == (s50 t energy).Low) with | true => (match (b_1v2 == (s50 t energy).High) with | true => true | false => false) | false => false))
     (s13_at10 opacity energy a_0v1 a_1v1 b_0v2 b_1v2 deepv7 fastv7 true)
     (cond (!fastv7)
      (cond (fv2 != (2:Int))
       (s13_at10 opacity energy a_0v1 a_1v1 b_0v2 b_1v2 deepv7 fastv7 true)
       (s13_at10 opacity energy a_0v1 a_1v1 b_0v2 b_1v2 deepv7 fastv7 (!(match (b_0v2 == (0:Int)) with | true => (match (b_1v2 == (0:Int)) with | true => true | false => false) | false => false))))
      (s13_at10 opacity energy a_0v1 a_1v1 b_0v2 b_1v2 deepv7 fastv7 false))))
   (cond (!fastv7)
    (cond (fv2 != (2:Int))
     (s13_at10 opacity energy a_0v1 a_1v1 b_0v2 b_1v2 deepv7 fastv7 true)
     (s13_at10 opacity energy a_0v1 a_1v1 b_0v2 b_1v2 deepv7 fastv7 (!(match (b_0v2 == (0:Int)) with | true => (match (b_1v2 == (0:Int)) with | true => true | false => false) | false => false))))
    (s13_at10 opacity energy a_0v1 a_1v1 b_0v2 b_1v2 deepv7 fastv7 false)))
def p13_at9 (t : (Sl RangeRow)) (opacity : Int) (energy : Int) (a_0v1 : Int) (a_1v1 : Int) (fv2 : Int) (b_0v2 : Int) (b_1v2 : Int) (deepv7 : Bool) (fastv7 : Bool) : Bool :=
  (cond fastv7
   (cond (fv2 != (0:Int))
    true
    (decide ((p50 t energy = true)) &&
    true))
   true)
theorem q13_at9 (K : List PA → Prop) (t : (Sl RangeRow)) (opacity : Int) (energy : Int) (a_0v1 : Int) (a_1v1 : Int) (fv2 : Int) (b_0v2 : Int) (b_1v2 : Int) (deepv7 : Bool) (fastv7 : Bool) (hs : p13_at9 t opacity energy a_0v1 a_1v1 fv2 b_0v2 b_1v2 deepv7 fastv7 = true) (hk : K (e13 (s13_at9 t opacity energy a_0v1 a_1v1 fv2 b_0v2 b_1v2 deepv7 fastv7))) : f13_at9 K t opacity energy a_0v1 a_1v1 fv2 b_0v2 b_1v2 deepv7 fastv7 := by
  refine ofEq (f13_eq9 K t opacity energy a_0v1 a_1v1 fv2 b_0v2 b_1v2 deepv7 fastv7) ?_
  unfold p13_at9 at hs
  unfold s13_at9 at hk
  exact (condB_go (K := fun r => K (e13 r))
   (fun hs hk => (condB_go (K := fun r => K (e13 r))
    (fun hs hk => (q13_at10 K opacity energy a_0v1 a_1v1 b_0v2 b_1v2 deepv7 fastv7 true hk))
    (fun hs hk => (andK hs fun hc hs => ⟨⟨isE, hc⟩, (condP_gt (K := fun r => K (e13 r))
     (fun hk => (q13_at10 K opacity energy a_0v1 a_1v1 b_0v2 b_1v2 deepv7 fastv7 true hk))
     (fun hk => (condP_gt (K := fun r => K (e13 r))
      (fun hk => (condP_gt (K := fun r => K (e13 r))
       (fun hk => (q13_at10 K opacity energy a_0v1 a_1v1 b_0v2 b_1v2 deepv7 fastv7 true hk))
       (fun hk => (q13_at10 K opacity energy a_0v1 a_1v1 b_0v2 b_1v2 deepv7 fastv7 (!(match (b_0v2 == (0:Int)) with | true => (match (b_1v2 == (0:Int)) with | true => true | false => false) | false => false)) hk)) hk))
      (fun hk => (q13_at10 K opacity energy a_0v1 a_1v1 b_0v2 b_1v2 deepv7 fastv7 false hk)) hk)) hk)⟩)) hs hk))
   (fun hs hk => (condP_gt (K := fun r => K (e13 r))
    (fun hk => (condP_gt (K := fun r => K (e13 r))
     (fun hk => (q13_at10 K opacity energy a_0v1 a_1v1 b_0v2 b_1v2 deepv7 fastv7 true hk))
     (fun hk => (q13_at10 K opacity energy a_0v1 a_1v1 b_0v2 b_1v2 deepv7 fastv7 (!(match (b_0v2 == (0:Int)) with | true => (match (b_1v2 == (0:Int)) with | true => true | false => false) | false => false)) hk)) hk))
    (fun hk => (q13_at10 K opacity energy a_0v1 a_1v1 b_0v2 b_1v2 deepv7 fastv7 false hk)) hk)) hs hk)
def s13_at8 (t : (Sl RangeRow)) (opacity : Int) (energy : Int) (a_0v1 : Int) (a_1v1 : Int) (fv2 : Int) (b_0v2 : Int) (b_1v2 : Int) (deepv7 : Bool) (fastv7 : Bool) (t95v8 : Bool) : Bool :=
  (cond t95v8
   false
   (s13_at9 t opacity energy a_0v1 a_1v1 fv2 b_0v2 b_1v2 deepv7 fastv7))
def p13_at8 (t : (Sl RangeRow)) (opacity : Int) (energy : Int) (a_0v1 : Int) (a_1v1 : Int) (fv2 : Int) (b_0v2 : Int) (b_1v2 : Int) (deepv7 : Bool) (fastv7 : Bool) (t95v8 : Bool) : Bool :=
  (cond t95v8
   true
   (p13_at9 t opacity energy a_0v1 a_1v1 fv2 b_0v2 b_1v2 deepv7 fastv7))
theorem q13_at8 (K : List PA → Prop) (t : (Sl RangeRow)) (opacity : Int) (energy : Int) (a_0v1 : Int) (a_1v1 : Int) (fv2 : Int) (b_0v2 : Int) (b_1v2 : Int) (deepv7 : Bool) (fastv7 : Bool) (t95v8 : Bool) (hs : p13_at8 t opacity energy a_0v1 a_1v1 fv2 b_0v2 b_1v2 deepv7 fastv7 t95v8 = true) (hk : K (e13 (s13_at8 t opacity energy a_0v1 a_1v1 fv2 b_0v2 b_1v2 deepv7 fastv7 t95v8))) : f13_at8 K t opacity energy a_0v1 a_1v1 fv2 b_0v2 b_1v2 deepv7 fastv7 t95v8 := by
  refine ofEq (f13_eq8 K t opacity energy a_0v1 a_1v1 fv2 b_0v2 b_1v2 deepv7 fastv7 t95v8) ?_
  unfold p13_at8 at hs
  unfold s13_at8 at hk
  exact (condB_go (K := fun r => K (e13 r))
   (fun hs hk => hk)
   (fun hs hk => (q13_at9 K t opacity energy a_0v1 a_1v1 fv2 b_0v2 b_1v2 deepv7 fastv7 hs hk)) hs hk)
def s13_at7 (t : (Sl RangeRow)) (opacity : Int) (energy : Int) (ev1 : Int) (a_0v1 : Int) (a_1v1 : Int) (fv2 : Int) (b_0v2 : Int) (b_1v2 : Int) (deepv7 : Bool) (fastv7 : Bool) : Bool :=
  (cond deepv7
   (cond (ev1 != (0:Int))
    (s13_at8 t opacity energy a_0v1 a_1v1 fv2 b_0v2 b_1v2 deepv7 fastv7 true)
    (cond (!(match (a_0v1 == (s49 t opacity).Low) with | true => (match (a_1v1 == (s49 t opacity).High) with | true => true | false => false) | false => false))
     (s13_at8 t opacity energy a_0v1 a_1v1 fv2 b_0v2 b_1v2 deepv7 fastv7 true)
     (cond (!deepv7)
      (cond (ev1 != (2:Int))
       (s13_at8 t opacity energy a_0v1 a_1v1 fv2 b_0v2 b_1v2 deepv7 fastv7 true)
       (s13_at8 t opacity energy a_0v1 a_1v1 fv2 b_0v2 b_1v2 deepv7 fastv7 (!(match (a_0v1 == (0:Int)) with | true => (match (a_1v1 == (0:Int)) with | true => true | false => false) | false => false))))
      (s13_at8 t opacity energy a_0v1 a_1v1 fv2 b_0v2 b_1v2 deepv7 fastv7 false))))
   (cond (!deepv7)
    (cond (ev1 != (2:Int))
     (s13_at8 t opacity energy a_0v1 a_1v1 fv2 b_0v2 b_1v2 deepv7 fastv7 true)
     (s13_at8 t opacity energy a_0v1 a_1v1 fv2 b_0v2 b_1v2 deepv7 fastv7 (!(match (a_0v1 == (0:Int)) with | true => (match (a_1v1 == (0:Int)) with | true => true | false => false) | false => false))))
    (s13_at8 t opacity energy a_0v1 a_1v1 fv2 b_0v2 b_1v2 deepv7 fastv7 false)))
def p13_at7 (t : (Sl RangeRow)) (opacity : Int) (energy : Int) (ev1 : Int) (a_0v1 : Int) (a_1v1 : Int) (fv2 : Int) (b_0v2 : Int) (b_1v2 : Int) (deepv7 : Bool) (fastv7 : Bool) : Bool :=
  (cond deepv7
   (cond (ev1 != (0:Int))
    (p13_at8 t opacity energy a_0v1 a_1v1 fv2 b_0v2 b_1v2 deepv7 fastv7 true)
    (decide ((p49 t opacity = true)) &&
    (cond (!(match (a_0v1 == (s49 t opacity).Low) with | true => (match (a_1v1 == (s49 t opacity).High) with | true => true | false => false) | false => false))
     (p13_at8 t opacity energy a_0v1 a_1v1 fv2 b_0v2 b_1v2 deepv7 fastv7 true)
     (cond (!deepv7)
      (cond (ev1 != (2:Int))
       (p13_at8 t opacity energy a_0v1 a_1v1 fv2 b_0v2 b_1v2 deepv7 fastv7 true)
       (p13_at8 t opacity energy a_0v1 a_1v1 fv2 b_0v2 b_1v2 deepv7 fastv7 (!(match (a_0v1 == (0:Int)) with | true => (match (a_1v1 == (0:Int)) with | true => true | false => false) | false => false))))
      (p13_at8 t opacity energy a_0v1 a_1v1 fv2 b_0v2 b_1v2 deepv7 fastv7 false)))))
   (cond (!deepv7)
    (cond (ev1 != (2:Int))
     (p13_at8 t opacity energy a_0v1 a_1v1 fv2 b_0v2 b_1v2 deepv7 fastv7 true)
     (p13_at8 t opacity energy a_0v1 a_1v1 fv2 b_0v2 b_1v2 deepv7 fastv7 (!(match (a_0v1 == (0:Int)) with | true => (match (a_1v1 == (0:Int)) with | true => true | false => false) | false => false))))
    (p13_at8 t opacity energy a_0v1 a_1v1 fv2 b_0v2 b_1v2 deepv7 fastv7 false)))
theorem q13_at7 (K : List PA → Prop) (t : (Sl RangeRow)) (opacity : Int) (energy : Int) (ev1 : Int) (a_0v1 : Int) (a_1v1 : Int) (fv2 : Int) (b_0v2 : Int) (b_1v2 : Int) (deepv7 : Bool) (fastv7 : Bool) (hs : p13_at7 t opacity energy ev1 a_0v1 a_1v1 fv2 b_0v2 b_1v2 deepv7 fastv7 = true) (hk : K (e13 (s13_at7 t opacity energy ev1 a_0v1 a_1v1 fv2 b_0v2 b_1v2 deepv7 fastv7))) : f13_at7 K t opacity energy ev1 a_0v1 a_1v1 fv2 b_0v2 b_1v2 deepv7 fastv7 := by
  refine ofEq (f13_eq7 K t opacity energy ev1 a_0v1 a_1v1 fv2 b_0v2 b_1v2 deepv7 fastv7) ?_
  unfold p13_at7 at hs
  unfold s13_at7 at hk
  exact (condB_go (K := fun r => K (e13 r))
   (fun hs hk => (condB_go (K := fun r => K (e13 r))
    (fun hs hk => (q13_at8 K t opacity energy a_0v1 a_1v1 fv2 b_0v2 b_1v2 deepv7 fastv7 true hs hk))
    (fun hs hk => (andK hs fun hc hs => ⟨⟨isE, hc⟩, (condB_go (K := fun r => K (e13 r))
     (fun hs hk => (q13_at8 K t opacity energy a_0v1 a_1v1 fv2 b_0v2 b_1v2 deepv7 fastv7 true hs hk))
     (fun hs hk => (condB_go (K := fun r => K (e13 r))
      (fun hs hk => (condB_go (K := fun r => K (e13 r))
       (fun hs hk => (q13_at8 K t opacity energy a_0v1 a_1v1 fv2 b_0v2 b_1v2 deepv7 fastv7 true hs hk))
       (fun hs hk => (q13_at8 K t opacity energy a_0v1 a_1v1 fv2 b_0v2 b_1v2 deepv7 fastv7 (!(match (a_0v1 == (0:Int)) with | true => (match (a_1v1 == (0:Int)) with | true => true | false => false) | false => false)) hs hk)) hs hk))
      (fun hs hk => (q13_at8 K t opacity energy a_0v1 a_1v1 fv2 b_0v2 b_1v2 deepv7 fastv7 false hs hk)) hs hk)) hs hk)⟩)) hs hk))
   (fun hs hk => (condB_go (K := fun r => K (e13 r))
    (fun hs hk => (condB_go (K := fun r => K (e13 r))
     (fun hs hk => (q13_at8 K t opacity energy a_0v1 a_1v1 fv2 b_0v2 b_1v2 deepv7 fastv7 true hs hk))
     (fun hs hk => (q13_at8 K t opacity energy a_0v1 a_1v1 fv2 b_0v2 b_1v2 deepv7 fastv7 (!(match (a_0v1 == (0:Int)) with | true => (match (a_1v1 == (0:Int)) with | true => true | false => false) | false => false)) hs hk)) hs hk))
    (fun hs hk => (q13_at8 K t opacity energy a_0v1 a_1v1 fv2 b_0v2 b_1v2 deepv7 fastv7 false hs hk)) hs hk)) hs hk)
def s13_at6 (t : (Sl RangeRow)) (opacity : Int) (energy : Int) (ev1 : Int) (a_0v1 : Int) (a_1v1 : Int) (fv2 : Int) (b_0v2 : Int) (b_1v2 : Int) : Bool :=
  (cond (decide (opacity ≥ (0:Int)))
   (cond (decide (energy ≥ (1:Int)))
    (s13_at7 t opacity energy ev1 a_0v1 a_1v1 fv2 b_0v2 b_1v2 (decide (opacity ≤ (1000000:Int))) (decide (energy ≤ (1000000:Int))))
    (s13_at7 t opacity energy ev1 a_0v1 a_1v1 fv2 b_0v2 b_1v2 (decide (opacity ≤ (1000000:Int))) false))
   (cond (decide (energy ≥ (1:Int)))
    (s13_at7 t opacity energy ev1 a_0v1 a_1v1 fv2 b_0v2 b_1v2 false (decide (energy ≤ (1000000:Int))))
    (s13_at7 t opacity energy ev1 a_0v1 a_1v1 fv2 b_0v2 b_1v2 false false)))
def p13_at6 (t : (Sl RangeRow)) (opacity : Int) (energy : Int) (ev1 : Int) (a_0v1 : Int) (a_1v1 : Int) (fv2 : Int) (b_0v2 : Int) (b_1v2 : Int) : Bool :=
  (cond (decide (opacity ≥ (0:Int)))
   (cond (decide (energy ≥ (1:Int)))
    (p13_at7 t opacity energy ev1 a_0v1 a_1v1 fv2 b_0v2 b_1v2 (decide (opacity ≤ (1000000:Int))) (decide (energy ≤ (1000000:Int))))
    (p13_at7 t opacity energy ev1 a_0v1 a_1v1 fv2 b_0v2 b_1v2 (decide (opacity ≤ (1000000:Int))) false))
   (cond (decide (energy ≥ (1:Int)))
    (p13_at7 t opacity energy ev1 a_0v1 a_1v1 fv2 b_0v2 b_1v2 false (decide (energy ≤ (1000000:Int))))
    (p13_at7 t opacity energy ev1 a_0v1 a_1v1 fv2 b_0v2 b_1v2 false false)))
theorem q13_at6 (K : List PA → Prop) (t : (Sl RangeRow)) (opacity : Int) (energy : Int) (ev1 : Int) (a_0v1 : Int) (a_1v1 : Int) (fv2 : Int) (b_0v2 : Int) (b_1v2 : Int) (hs : p13_at6 t opacity energy ev1 a_0v1 a_1v1 fv2 b_0v2 b_1v2 = true) (hk : K (e13 (s13_at6 t opacity energy ev1 a_0v1 a_1v1 fv2 b_0v2 b_1v2))) : f13_at6 K t opacity energy ev1 a_0v1 a_1v1 fv2 b_0v2 b_1v2 := by
  refine ofEq (f13_eq6 K t opacity energy ev1 a_0v1 a_1v1 fv2 b_0v2 b_1v2) ?_
  unfold p13_at6 at hs
  unfold s13_at6 at hk
  exact (condB_go (K := fun r => K (e13 r))
   (fun hs hk => (condB_go (K := fun r => K (e13 r))
    (fun hs hk => (q13_at7 K t opacity energy ev1 a_0v1 a_1v1 fv2 b_0v2 b_1v2 (decide (opacity ≤ (1000000:Int))) (decide (energy ≤ (1000000:Int))) hs hk))
    (fun hs hk => (q13_at7 K t opacity energy ev1 a_0v1 a_1v1 fv2 b_0v2 b_1v2 (decide (opacity ≤ (1000000:Int))) false hs hk)) hs hk))
   (fun hs hk => (condB_go (K := fun r => K (e13 r))
    (fun hs hk => (q13_at7 K t opacity energy ev1 a_0v1 a_1v1 fv2 b_0v2 b_1v2 false (decide (energy ≤ (1000000:Int))) hs hk))
    (fun hs hk => (q13_at7 K t opacity energy ev1 a_0v1 a_1v1 fv2 b_0v2 b_1v2 false false hs hk)) hs hk)) hs hk)
def s13_at5 (t : (Sl RangeRow)) (opacity : Int) (energy : Int) (ev1 : Int) (a_0v1 : Int) (a_1v1 : Int) (fv2 : Int) (b_0v2 : Int) (b_1v2 : Int) (t58v5 : Bool) : Bool :=
  (cond t58v5
   false
   (s13_at6 t opacity energy ev1 a_0v1 a_1v1 fv2 b_0v2 b_1v2))
def p13_at5 (t : (Sl RangeRow)) (opacity : Int) (energy : Int) (ev1 : Int) (a_0v1 : Int) (a_1v1 : Int) (fv2 : Int) (b_0v2 : Int) (b_1v2 : Int) (t58v5 : Bool) : Bool :=
  (cond t58v5
   true
   (p13_at6 t opacity energy ev1 a_0v1 a_1v1 fv2 b_0v2 b_1v2))
theorem q13_at5 (K : List PA → Prop) (t : (Sl RangeRow)) (opacity : Int) (energy : Int) (ev1 : Int) (a_0v1 : Int) (a_1v1 : Int) (fv2 : Int) (b_0v2 : Int) (b_1v2 : Int) (t58v5 : Bool) (hs : p13_at5 t opacity energy ev1 a_0v1 a_1v1 fv2 b_0v2 b_1v2 t58v5 = true) (hk : K (e13 (s13_at5 t opacity energy ev1 a_0v1 a_1v1 fv2 b_0v2 b_1v2 t58v5))) : f13_at5 K t opacity energy ev1 a_0v1 a_1v1 fv2 b_0v2 b_1v2 t58v5 := by
  refine ofEq (f13_eq5 K t opacity energy ev1 a_0v1 a_1v1 fv2 b_0v2 b_1v2 t58v5) ?_
  unfold p13_at5 at hs
  unfold s13_at5 at hk
  exact (condB_go (K := fun r => K (e13 r))
   (fun hs hk => hk)
   (fun hs hk => (q13_at6 K t opacity energy ev1 a_0v1 a_1v1 fv2 b_0v2 b_1v2 hs hk)) hs hk)
def s13_at4 (t : (Sl RangeRow)) (opacity : Int) (energy : Int) (ev1 : Int) (a_0v1 : Int) (a_1v1 : Int) (fv2 : Int) (b_0v2 : Int) (b_1v2 : Int) : Bool :=
  (s13_at5 t opacity energy ev1 a_0v1 a_1v1 fv2 b_0v2 b_1v2 ((s48 t) != (0:Int)))
def p13_at4 (t : (Sl RangeRow)) (opacity : Int) (energy : Int) (ev1 : Int) (a_0v1 : Int) (a_1v1 : Int) (fv2 : Int) (b_0v2 : Int) (b_1v2 : Int) : Bool :=
  (decide ((p48 t = true)) &&
  (p13_at5 t opacity energy ev1 a_0v1 a_1v1 fv2 b_0v2 b_1v2 ((s48 t) != (0:Int))))
theorem q13_at4 (K : List PA → Prop) (t : (Sl RangeRow)) (opacity : Int) (energy : Int) (ev1 : Int) (a_0v1 : Int) (a_1v1 : Int) (fv2 : Int) (b_0v2 : Int) (b_1v2 : Int) (hs : p13_at4 t opacity energy ev1 a_0v1 a_1v1 fv2 b_0v2 b_1v2 = true) (hk : K (e13 (s13_at4 t opacity energy ev1 a_0v1 a_1v1 fv2 b_0v2 b_1v2))) : f13_at4 K t opacity energy ev1 a_0v1 a_1v1 fv2 b_0v2 b_1v2 := by
  refine ofEq (f13_eq4 K t opacity energy ev1 a_0v1 a_1v1 fv2 b_0v2 b_1v2) ?_
  unfold p13_at4 at hs
  unfold s13_at4 at hk
  exact (andK hs fun hc hs => ⟨⟨isE, hc⟩, (q13_at5 K t opacity energy ev1 a_0v1 a_1v1 fv2 b_0v2 b_1v2 ((s48 t) != (0:Int)) hs hk)⟩)
def s13_at3 (t : (Sl RangeRow)) (opacity : Int) (energy : Int) (ev1 : Int) (a_0v1 : Int) (a_1v1 : Int) (fv2 : Int) (b_0v2 : Int) (b_1v2 : Int) (t31v3 : Bool) : Bool :=
  (cond t31v3
   (cond ((s48 t) == (2:Int))
    (cond (ev1 == (2:Int))
     (cond (fv2 == (2:Int))
      (cond (match (a_0v1 == (0:Int)) with | true => (match (a_1v1 == (0:Int)) with | true => true | false => false) | false => false)
       (cond (match (b_0v2 == (0:Int)) with | true => (match (b_1v2 == (0:Int)) with | true => true | false => false) | false => false)
        true
        false)
       false)
      false)
     false)
    false)
   (s13_at4 t opacity energy ev1 a_0v1 a_1v1 fv2 b_0v2 b_1v2))
def p13_at3 (t : (Sl RangeRow)) (opacity : Int) (energy : Int) (ev1 : Int) (a_0v1 : Int) (a_1v1 : Int) (fv2 : Int) (b_0v2 : Int) (b_1v2 : Int) (t31v3 : Bool) : Bool :=
  (cond t31v3
   (decide ((p48 t = true)) &&
   true)
   (p13_at4 t opacity energy ev1 a_0v1 a_1v1 fv2 b_0v2 b_1v2))
theorem q13_at3 (K : List PA → Prop) (t : (Sl RangeRow)) (opacity : Int) (energy : Int) (ev1 : Int) (a_0v1 : Int) (a_1v1 : Int) (fv2 : Int) (b_0v2 : Int) (b_1v2 : Int) (t31v3 : Bool) (hs : p13_at3 t opacity energy ev1 a_0v1 a_1v1 fv2 b_0v2 b_1v2 t31v3 = true) (hk : K (e13 (s13_at3 t opacity energy ev1 a_0v1 a_1v1 fv2 b_0v2 b_1v2 t31v3))) : f13_at3 K t opacity energy ev1 a_0v1 a_1v1 fv2 b_0v2 b_1v2 t31v3 := by
  refine ofEq (f13_eq3 K t opacity energy ev1 a_0v1 a_1v1 fv2 b_0v2 b_1v2 t31v3) ?_
  unfold p13_at3 at hs
  unfold s13_at3 at hk
  exact (condB_go (K := fun r => K (e13 r))
   (fun hs hk => (andK hs fun hc hs => ⟨⟨isE, hc⟩, (condP_gt (K := fun r => K (e13 r))
    (fun hk => (condP_gt (K := fun r => K (e13 r))
     (fun hk => (condP_gt (K := fun r => K (e13 r))
      (fun hk => (condP_gt (K := fun r => K (e13 r))
       (fun hk => (condP_gt (K := fun r => K (e13 r))
        (fun hk => hk)
        (fun hk => hk) hk))
       (fun hk => hk) hk))
      (fun hk => hk) hk))
     (fun hk => hk) hk))
    (fun hk => hk) hk)⟩))
   (fun hs hk => (q13_at4 K t opacity energy ev1 a_0v1 a_1v1 fv2 b_0v2 b_1v2 hs hk)) hs hk)
def s13_at2 (t : (Sl RangeRow)) (opacity : Int) (energy : Int) (ev1 : Int) (a_0v1 : Int) (a_1v1 : Int) (fv2 : Int) (b_0v2 : Int) (b_1v2 : Int) : Bool :=
  (s13_at3 t opacity energy ev1 a_0v1 a_1v1 fv2 b_0v2 b_1v2 (!(s17 t)))
def p13_at2 (t : (Sl RangeRow)) (opacity : Int) (energy : Int) (ev1 : Int) (a_0v1 : Int) (a_1v1 : Int) (fv2 : Int) (b_0v2 : Int) (b_1v2 : Int) : Bool :=
  (decide ((p17 t = true)) &&
  (p13_at3 t opacity energy ev1 a_0v1 a_1v1 fv2 b_0v2 b_1v2 (!(s17 t))))
theorem q13_at2 (K : List PA → Prop) (t : (Sl RangeRow)) (opacity : Int) (energy : Int) (ev1 : Int) (a_0v1 : Int) (a_1v1 : Int) (fv2 : Int) (b_0v2 : Int) (b_1v2 : Int) (hs : p13_at2 t opacity energy ev1 a_0v1 a_1v1 fv2 b_0v2 b_1v2 = true) (hk : K (e13 (s13_at2 t opacity energy ev1 a_0v1 a_1v1 fv2 b_0v2 b_1v2))) : f13_at2 K t opacity energy ev1 a_0v1 a_1v1 fv2 b_0v2 b_1v2 := by
  refine ofEq (f13_eq2 K t opacity energy ev1 a_0v1 a_1v1 fv2 b_0v2 b_1v2) ?_
  unfold p13_at2 at hs
  unfold s13_at2 at hk
  exact (andK hs fun hc hs => ⟨⟨isE, hc⟩, (q13_at3 K t opacity energy ev1 a_0v1 a_1v1 fv2 b_0v2 b_1v2 (!(s17 t)) hs hk)⟩)
def s13_at1 (t : (Sl RangeRow)) (opacity : Int) (energy : Int) (ev1 : Int) (a_0v1 : Int) (a_1v1 : Int) : Bool :=
  (s13_at2 t opacity energy ev1 a_0v1 a_1v1 ((s42 t energy).2) (((s42 t energy).1).Low) (((s42 t energy).1).High))
def p13_at1 (t : (Sl RangeRow)) (opacity : Int) (energy : Int) (ev1 : Int) (a_0v1 : Int) (a_1v1 : Int) : Bool :=
  (decide ((p42 t energy = true)) &&
  (p13_at2 t opacity energy ev1 a_0v1 a_1v1 ((s42 t energy).2) (((s42 t energy).1).Low) (((s42 t energy).1).High)))
theorem q13_at1 (K : List PA → Prop) (t : (Sl RangeRow)) (opacity : Int) (energy : Int) (ev1 : Int) (a_0v1 : Int) (a_1v1 : Int) (hs : p13_at1 t opacity energy ev1 a_0v1 a_1v1 = true) (hk : K (e13 (s13_at1 t opacity energy ev1 a_0v1 a_1v1))) : f13_at1 K t opacity energy ev1 a_0v1 a_1v1 := by
  refine ofEq (f13_eq1 K t opacity energy ev1 a_0v1 a_1v1) ?_
  unfold p13_at1 at hs
  unfold s13_at1 at hk
  exact (andK hs fun hc hs => ⟨⟨isE, hc⟩, (q13_at2 K t opacity energy ev1 a_0v1 a_1v1 ((s42 t energy).2) (((s42 t energy).1).Low) (((s42 t energy).1).High) hs hk)⟩)
def s13_at0 (t : (Sl RangeRow)) (opacity : Int) (energy : Int) : Bool :=
  (s13_at1 t opacity energy ((s19 t opacity).2) (((s19 t opacity).1).Low) (((s19 t opacity).1).High))
def p13_at0 (t : (Sl RangeRow)) (opacity : Int) (energy : Int) : Bool :=
  (decide ((p19 t opacity = true)) &&
  (p13_at1 t opacity energy ((s19 t opacity).2) (((s19 t opacity).1).Low) (((s19 t opacity).1).High)))
theorem q13_at0 (K : List PA → Prop) (t : (Sl RangeRow)) (opacity : Int) (energy : Int) (hs : p13_at0 t opacity energy = true) (hk : K (e13 (s13_at0 t opacity energy))) : f13_at0 K t opacity energy := by
  refine ofEq (f13_eq0 K t opacity energy) ?_
  unfold p13_at0 at hs
  unfold s13_at0 at hk
  exact (andK hs fun hc hs => ⟨⟨isE, hc⟩, (q13_at1 K t opacity energy ((s19 t opacity).2) (((s19 t opacity).1).Low) (((s19 t opacity).1).High) hs hk)⟩)
def s13 (t : (Sl RangeRow)) (opacity : Int) (energy : Int) : Bool :=
  (cond (decide ((t.len : Int) > (50:Int)))
   true
   (s13_at0 t opacity energy))
def p13 (t : (Sl RangeRow)) (opacity : Int) (energy : Int) : Bool :=
  (cond (decide ((t.len : Int) > (50:Int)))
   true
   (p13_at0 t opacity energy))
theorem q13 (t : (Sl RangeRow)) (opacity : Int) (energy : Int) (K : List PA → Prop) (hs : p13 t opacity energy = true) (hk : K (e13 (s13 t opacity energy))) : vcFun Try.prog G13 ann13 13 [.one (.sl t.len 3 (fun i => enc_42 (t.get i))), .one (.int .i64 opacity), .one (.int .i64 energy)] K := by
  refine ofEq (f13_top t opacity energy K) ?_
  unfold p13 at hs
  unfold s13 at hk
  exact (condB_go (K := fun r => K (e13 r))
   (fun hs hk => hk)
   (fun hs hk => (q13_at0 K t opacity energy hs hk)) hs hk)
def ctr13 : List PA → COut
  | [.one (.sl a0_n a0_s a0_g), .one (.int .i64 a1), .one (.int .i64 a2)] => .det (IsE enc_42 3 a0_s a0_g ∧ p13 (⟨a0_n, decF_42 a0_g⟩ : (Sl RangeRow)) a1 a2 = true) [.one (.bool (s13 (⟨a0_n, decF_42 a0_g⟩ : (Sl RangeRow)) a1 a2))]
  | _ => .no
theorem call13 : Callable Try.prog 13 := ⟨_, rfl, rfl, by kernel_rfl⟩
theorem ok13 : Ok Try.prog 13 ctr13 := ok_tab okT13 call13 fun args K h => by
  unfold ctr13 at h
  split at h
  · rename_i a0_n a0_s a0_g a1 a2
    obtain ⟨⟨⟨rfl, a0_f, rfl⟩, hs⟩, hk⟩ := h
    try rw [decF_enc_42 a0_f] at hs
    try rw [decF_enc_42 a0_f] at hk
    exact ⟨(fun _ _ => []), (fun _ => false), ann13, q13 (⟨a0_n, a0_f⟩ : (Sl RangeRow)) a1 a2 K hs hk⟩
  · exact h.elim
end Go.Proofs
namespace Go.Proofs
open Go Go.Pm
set_option maxRecDepth 100000
set_option linter.unusedVariables false
attribute [local irreducible] Go.Pm.vcFun Go.Pm.vc Go.Pm.vcIter
theorem C_3 : Try.prog.cellsOf 3 = 1 := by kernel_rfl
theorem C_4 : Try.prog.cellsOf 4 = 1 := by kernel_rfl
theorem C_22 : Try.prog.cellsOf 22 = 1 := by kernel_rfl
theorem C_24 : Try.prog.cellsOf 24 = 2 := by kernel_rfl
theorem C_26 : Try.prog.cellsOf 26 = 6 := by kernel_rfl
theorem C_27 : Try.prog.cellsOf 27 = 1 := by kernel_rfl
theorem C_32 : Try.prog.cellsOf 32 = 1 := by kernel_rfl
theorem C_37 : Try.prog.cellsOf 37 = 1 := by kernel_rfl
theorem C_39 : Try.prog.cellsOf 39 = 3 := by kernel_rfl
theorem C_42 : Try.prog.cellsOf 42 = 3 := by kernel_rfl
theorem C_44 : Try.prog.cellsOf 44 = 3 := by kernel_rfl
theorem C_46 : Try.prog.cellsOf 46 = 1 := by kernel_rfl
theorem C_47 : Try.prog.cellsOf 47 = 1 := by kernel_rfl
theorem C_52 : Try.prog.cellsOf 52 = 2 := by kernel_rfl
theorem C_54 : Try.prog.cellsOf 54 = 4 := by kernel_rfl
theorem C_56 : Try.prog.cellsOf 56 = 5 := by kernel_rfl
theorem C_97 : Try.prog.cellsOf 97 = 1 := by kernel_rfl
theorem C_129 : Try.prog.cellsOf 129 = 3 := by kernel_rfl
abbrev wf_3 (x : Int) : Prop := wfI x
theorem rd_3 {H : Type} {en : TypeId × Value → H} {w : World} {sp : Nat → Bool} {held : Bool} : Rd H en Try.prog w sp held 3 enc_3 wf_3 := rd_int Try.underlying3
def wf_24 (x : Span) : Prop := wf_3 x.Low ∧ wf_3 x.High
theorem rd_24 {H : Type} {en : TypeId × Value → H} {w : World} {sp : Nat → Bool} {held : Bool} : Rd H en Try.prog w sp held 24 enc_24 wf_24 := by
  intro fuel cs x h
  obtain ⟨hl, hf⟩ := rd_struct Try.underlying24 h
  rw [C_24] at hl
  obtain ⟨n0, y0, g0⟩ := hf 0 _ rfl
  have g0 : DataW.trod en Try.prog w 0 sp held n0 3 ((cs.drop 0).take (Try.prog.cellsOf 3)) = some y0 := g0
  rw [C_3] at g0
  obtain ⟨a0, r0, w0⟩ := rd_3 _ _ _ g0
  obtain ⟨n1, y1, g1⟩ := hf 1 _ rfl
  have g1 : DataW.trod en Try.prog w 0 sp held n1 3 ((cs.drop 1).take (Try.prog.cellsOf 3)) = some y1 := g1
  rw [C_3] at g1
  obtain ⟨a1, r1, w1⟩ := rd_3 _ _ _ g1
  have z : cs.drop 2 = [] := List.drop_eq_nil_of_le (by omega)
  have R := (r0.append (r1.append (show RL (Rep (H0 w)) [] (cs.drop 2) by rw [z]; exact rl_n)))
  rw [← (show cs.drop 1 = (cs.drop 1).take 1 ++ cs.drop 2 from split_drop cs 1 1)] at R
  rw [← (show cs.drop 0 = (cs.drop 0).take 1 ++ cs.drop 1 from split_drop cs 0 1)] at R
  exact ⟨⟨a0, a1⟩, R, ⟨w0, w1⟩⟩
def wf_44 (x : FluxRow) : Prop := wf_3 x.Energy ∧ wf_24 x.Rate
theorem rd_44 {H : Type} {en : TypeId × Value → H} {w : World} {sp : Nat → Bool} {held : Bool} : Rd H en Try.prog w sp held 44 enc_44 wf_44 := by
  intro fuel cs x h
  obtain ⟨hl, hf⟩ := rd_struct Try.underlying44 h
  rw [C_44] at hl
  obtain ⟨n0, y0, g0⟩ := hf 0 _ rfl
  have g0 : DataW.trod en Try.prog w 0 sp held n0 3 ((cs.drop 0).take (Try.prog.cellsOf 3)) = some y0 := g0
  rw [C_3] at g0
  obtain ⟨a0, r0, w0⟩ := rd_3 _ _ _ g0
  obtain ⟨n1, y1, g1⟩ := hf 1 _ rfl
  have g1 : DataW.trod en Try.prog w 0 sp held n1 24 ((cs.drop 1).take (Try.prog.cellsOf 24)) = some y1 := g1
  rw [C_24] at g1
  obtain ⟨a1, r1, w1⟩ := rd_24 _ _ _ g1
  have z : cs.drop 3 = [] := List.drop_eq_nil_of_le (by omega)
  have R := (r0.append (r1.append (show RL (Rep (H0 w)) [] (cs.drop 3) by rw [z]; exact rl_n)))
  rw [← (show cs.drop 1 = (cs.drop 1).take 2 ++ cs.drop 3 from split_drop cs 1 2)] at R
  rw [← (show cs.drop 0 = (cs.drop 0).take 1 ++ cs.drop 1 from split_drop cs 0 1)] at R
  exact ⟨⟨a0, a1⟩, R, ⟨w0, w1⟩⟩
def wf_32 (x : (Sl FluxRow)) : Prop := x.len ≤ 9223372036854775807 ∧ ∀ i, i < x.len → wf_44 (x.get i)
theorem rd_32 {H : Type} {en : TypeId × Value → H} {w : World} {sp : Nat → Bool} {held : Bool} : Rd H en Try.prog w sp held 32 enc_32 wf_32 := rd_slice Try.underlying32 C_44 (by decide) (fun _ => rfl) rd_44
def wf_22 (x : (Sl (Sl FluxRow))) : Prop := x.len ≤ 9223372036854775807 ∧ ∀ i, i < x.len → wf_32 (x.get i)
theorem rd_22 {H : Type} {en : TypeId × Value → H} {w : World} {sp : Nat → Bool} {held : Bool} : Rd H en Try.prog w sp held 22 enc_22 wf_22 := rd_slice Try.underlying22 C_32 (by decide) (fun _ => rfl) rd_32
def wf_26 (x : Sky) : Prop := wf_3 x.Parts ∧ wf_22 x.Bins ∧ wf_24 x.Beta ∧ wf_24 x.Alpha
theorem rd_26 {H : Type} {en : TypeId × Value → H} {w : World} {sp : Nat → Bool} {held : Bool} : Rd H en Try.prog w sp held 26 enc_26 wf_26 := by
  intro fuel cs x h
  obtain ⟨hl, hf⟩ := rd_struct Try.underlying26 h
  rw [C_26] at hl
  obtain ⟨n0, y0, g0⟩ := hf 0 _ rfl
  have g0 : DataW.trod en Try.prog w 0 sp held n0 3 ((cs.drop 0).take (Try.prog.cellsOf 3)) = some y0 := g0
  rw [C_3] at g0
  obtain ⟨a0, r0, w0⟩ := rd_3 _ _ _ g0
  obtain ⟨n1, y1, g1⟩ := hf 1 _ rfl
  have g1 : DataW.trod en Try.prog w 0 sp held n1 22 ((cs.drop 1).take (Try.prog.cellsOf 22)) = some y1 := g1
  rw [C_22] at g1
  obtain ⟨a1, r1, w1⟩ := rd_22 _ _ _ g1
  obtain ⟨n2, y2, g2⟩ := hf 2 _ rfl
  have g2 : DataW.trod en Try.prog w 0 sp held n2 24 ((cs.drop 2).take (Try.prog.cellsOf 24)) = some y2 := g2
  rw [C_24] at g2
  obtain ⟨a2, r2, w2⟩ := rd_24 _ _ _ g2
  obtain ⟨n3, y3, g3⟩ := hf 3 _ rfl
  have g3 : DataW.trod en Try.prog w 0 sp held n3 24 ((cs.drop 4).take (Try.prog.cellsOf 24)) = some y3 := g3
  rw [C_24] at g3
  obtain ⟨a3, r3, w3⟩ := rd_24 _ _ _ g3
  have z : cs.drop 6 = [] := List.drop_eq_nil_of_le (by omega)
  have R := (r0.append (r1.append (r2.append (r3.append (show RL (Rep (H0 w)) [] (cs.drop 6) by rw [z]; exact rl_n)))))
  rw [← (show cs.drop 4 = (cs.drop 4).take 2 ++ cs.drop 6 from split_drop cs 4 2)] at R
  rw [← (show cs.drop 2 = (cs.drop 2).take 2 ++ cs.drop 4 from split_drop cs 2 2)] at R
  rw [← (show cs.drop 1 = (cs.drop 1).take 1 ++ cs.drop 2 from split_drop cs 1 1)] at R
  rw [← (show cs.drop 0 = (cs.drop 0).take 1 ++ cs.drop 1 from split_drop cs 0 1)] at R
  exact ⟨⟨a0, a1, a2, a3⟩, R, ⟨w0, w1, w2, w3⟩⟩
def wf_42 (x : RangeRow) : Prop := wf_3 x.Energy ∧ wf_24 x.Range
theorem rd_42 {H : Type} {en : TypeId × Value → H} {w : World} {sp : Nat → Bool} {held : Bool} : Rd H en Try.prog w sp held 42 enc_42 wf_42 := by
  intro fuel cs x h
  obtain ⟨hl, hf⟩ := rd_struct Try.underlying42 h
  rw [C_42] at hl
  obtain ⟨n0, y0, g0⟩ := hf 0 _ rfl
  have g0 : DataW.trod en Try.prog w 0 sp held n0 3 ((cs.drop 0).take (Try.prog.cellsOf 3)) = some y0 := g0
  rw [C_3] at g0
  obtain ⟨a0, r0, w0⟩ := rd_3 _ _ _ g0
  obtain ⟨n1, y1, g1⟩ := hf 1 _ rfl
  have g1 : DataW.trod en Try.prog w 0 sp held n1 24 ((cs.drop 1).take (Try.prog.cellsOf 24)) = some y1 := g1
  rw [C_24] at g1
  obtain ⟨a1, r1, w1⟩ := rd_24 _ _ _ g1
  have z : cs.drop 3 = [] := List.drop_eq_nil_of_le (by omega)
  have R := (r0.append (r1.append (show RL (Rep (H0 w)) [] (cs.drop 3) by rw [z]; exact rl_n)))
  rw [← (show cs.drop 1 = (cs.drop 1).take 2 ++ cs.drop 3 from split_drop cs 1 2)] at R
  rw [← (show cs.drop 0 = (cs.drop 0).take 1 ++ cs.drop 1 from split_drop cs 0 1)] at R
  exact ⟨⟨a0, a1⟩, R, ⟨w0, w1⟩⟩
def wf_27 (x : (Sl RangeRow)) : Prop := x.len ≤ 9223372036854775807 ∧ ∀ i, i < x.len → wf_42 (x.get i)
theorem rd_27 {H : Type} {en : TypeId × Value → H} {w : World} {sp : Nat → Bool} {held : Bool} : Rd H en Try.prog w sp held 27 enc_27 wf_27 := rd_slice Try.underlying27 C_42 (by decide) (fun _ => rfl) rd_42
def wf_37 (x : (Sl Int)) : Prop := x.len ≤ 9223372036854775807 ∧ ∀ i, i < x.len → wf_3 (x.get i)
theorem rd_37 {H : Type} {en : TypeId × Value → H} {w : World} {sp : Nat → Bool} {held : Bool} : Rd H en Try.prog w sp held 37 enc_37 wf_37 := rd_slice Try.underlying37 C_3 (by decide) (fun _ => rfl) rd_3
abbrev wf_4 (_ : Bool) : Prop := True
theorem rd_4 {H : Type} {en : TypeId × Value → H} {w : World} {sp : Nat → Bool} {held : Bool} : Rd H en Try.prog w sp held 4 enc_4 wf_4 := rd_bool Try.underlying4
def wf_39 (x : Nature) : Prop := wf_37 x.Ranges ∧ wf_37 x.Rates ∧ wf_4 x.Soon
theorem rd_39 {H : Type} {en : TypeId × Value → H} {w : World} {sp : Nat → Bool} {held : Bool} : Rd H en Try.prog w sp held 39 enc_39 wf_39 := by
  intro fuel cs x h
  obtain ⟨hl, hf⟩ := rd_struct Try.underlying39 h
  rw [C_39] at hl
  obtain ⟨n0, y0, g0⟩ := hf 0 _ rfl
  have g0 : DataW.trod en Try.prog w 0 sp held n0 37 ((cs.drop 0).take (Try.prog.cellsOf 37)) = some y0 := g0
  rw [C_37] at g0
  obtain ⟨a0, r0, w0⟩ := rd_37 _ _ _ g0
  obtain ⟨n1, y1, g1⟩ := hf 1 _ rfl
  have g1 : DataW.trod en Try.prog w 0 sp held n1 37 ((cs.drop 1).take (Try.prog.cellsOf 37)) = some y1 := g1
  rw [C_37] at g1
  obtain ⟨a1, r1, w1⟩ := rd_37 _ _ _ g1
  obtain ⟨n2, y2, g2⟩ := hf 2 _ rfl
  have g2 : DataW.trod en Try.prog w 0 sp held n2 4 ((cs.drop 2).take (Try.prog.cellsOf 4)) = some y2 := g2
  rw [C_4] at g2
  obtain ⟨a2, r2, w2⟩ := rd_4 _ _ _ g2
  have z : cs.drop 3 = [] := List.drop_eq_nil_of_le (by omega)
  have R := (r0.append (r1.append (r2.append (show RL (Rep (H0 w)) [] (cs.drop 3) by rw [z]; exact rl_n))))
  rw [← (show cs.drop 2 = (cs.drop 2).take 1 ++ cs.drop 3 from split_drop cs 2 1)] at R
  rw [← (show cs.drop 1 = (cs.drop 1).take 1 ++ cs.drop 2 from split_drop cs 1 1)] at R
  rw [← (show cs.drop 0 = (cs.drop 0).take 1 ++ cs.drop 1 from split_drop cs 0 1)] at R
  exact ⟨⟨a0, a1, a2⟩, R, ⟨w0, w1, w2⟩⟩
def wf_54 (x : Weather) : Prop := wf_24 x.Pressure ∧ wf_24 x.Warm
theorem rd_54 {H : Type} {en : TypeId × Value → H} {w : World} {sp : Nat → Bool} {held : Bool} : Rd H en Try.prog w sp held 54 enc_54 wf_54 := by
  intro fuel cs x h
  obtain ⟨hl, hf⟩ := rd_struct Try.underlying54 h
  rw [C_54] at hl
  obtain ⟨n0, y0, g0⟩ := hf 0 _ rfl
  have g0 : DataW.trod en Try.prog w 0 sp held n0 24 ((cs.drop 0).take (Try.prog.cellsOf 24)) = some y0 := g0
  rw [C_24] at g0
  obtain ⟨a0, r0, w0⟩ := rd_24 _ _ _ g0
  obtain ⟨n1, y1, g1⟩ := hf 1 _ rfl
  have g1 : DataW.trod en Try.prog w 0 sp held n1 24 ((cs.drop 2).take (Try.prog.cellsOf 24)) = some y1 := g1
  rw [C_24] at g1
  obtain ⟨a1, r1, w1⟩ := rd_24 _ _ _ g1
  have z : cs.drop 4 = [] := List.drop_eq_nil_of_le (by omega)
  have R := (r0.append (r1.append (show RL (Rep (H0 w)) [] (cs.drop 4) by rw [z]; exact rl_n)))
  rw [← (show cs.drop 2 = (cs.drop 2).take 2 ++ cs.drop 4 from split_drop cs 2 2)] at R
  rw [← (show cs.drop 0 = (cs.drop 0).take 2 ++ cs.drop 2 from split_drop cs 0 2)] at R
  exact ⟨⟨a0, a1⟩, R, ⟨w0, w1⟩⟩
def wf_56 (x : Spell) : Prop := wf_3 x.Slots ∧ wf_54 x.Weather
theorem rd_56 {H : Type} {en : TypeId × Value → H} {w : World} {sp : Nat → Bool} {held : Bool} : Rd H en Try.prog w sp held 56 enc_56 wf_56 := by
  intro fuel cs x h
  obtain ⟨hl, hf⟩ := rd_struct Try.underlying56 h
  rw [C_56] at hl
  obtain ⟨n0, y0, g0⟩ := hf 0 _ rfl
  have g0 : DataW.trod en Try.prog w 0 sp held n0 3 ((cs.drop 0).take (Try.prog.cellsOf 3)) = some y0 := g0
  rw [C_3] at g0
  obtain ⟨a0, r0, w0⟩ := rd_3 _ _ _ g0
  obtain ⟨n1, y1, g1⟩ := hf 1 _ rfl
  have g1 : DataW.trod en Try.prog w 0 sp held n1 54 ((cs.drop 1).take (Try.prog.cellsOf 54)) = some y1 := g1
  rw [C_54] at g1
  obtain ⟨a1, r1, w1⟩ := rd_54 _ _ _ g1
  have z : cs.drop 5 = [] := List.drop_eq_nil_of_le (by omega)
  have R := (r0.append (r1.append (show RL (Rep (H0 w)) [] (cs.drop 5) by rw [z]; exact rl_n)))
  rw [← (show cs.drop 1 = (cs.drop 1).take 4 ++ cs.drop 5 from split_drop cs 1 4)] at R
  rw [← (show cs.drop 0 = (cs.drop 0).take 1 ++ cs.drop 1 from split_drop cs 0 1)] at R
  exact ⟨⟨a0, a1⟩, R, ⟨w0, w1⟩⟩
def wf_46 (x : (Sl Spell)) : Prop := x.len ≤ 9223372036854775807 ∧ ∀ i, i < x.len → wf_56 (x.get i)
theorem rd_46 {H : Type} {en : TypeId × Value → H} {w : World} {sp : Nat → Bool} {held : Bool} : Rd H en Try.prog w sp held 46 enc_46 wf_46 := rd_slice Try.underlying46 C_56 (by decide) (fun _ => rfl) rd_56
def wf_52 (x : Sample) : Prop := wf_3 x.Pressure ∧ wf_3 x.Warm
theorem rd_52 {H : Type} {en : TypeId × Value → H} {w : World} {sp : Nat → Bool} {held : Bool} : Rd H en Try.prog w sp held 52 enc_52 wf_52 := by
  intro fuel cs x h
  obtain ⟨hl, hf⟩ := rd_struct Try.underlying52 h
  rw [C_52] at hl
  obtain ⟨n0, y0, g0⟩ := hf 0 _ rfl
  have g0 : DataW.trod en Try.prog w 0 sp held n0 3 ((cs.drop 0).take (Try.prog.cellsOf 3)) = some y0 := g0
  rw [C_3] at g0
  obtain ⟨a0, r0, w0⟩ := rd_3 _ _ _ g0
  obtain ⟨n1, y1, g1⟩ := hf 1 _ rfl
  have g1 : DataW.trod en Try.prog w 0 sp held n1 3 ((cs.drop 1).take (Try.prog.cellsOf 3)) = some y1 := g1
  rw [C_3] at g1
  obtain ⟨a1, r1, w1⟩ := rd_3 _ _ _ g1
  have z : cs.drop 2 = [] := List.drop_eq_nil_of_le (by omega)
  have R := (r0.append (r1.append (show RL (Rep (H0 w)) [] (cs.drop 2) by rw [z]; exact rl_n)))
  rw [← (show cs.drop 1 = (cs.drop 1).take 1 ++ cs.drop 2 from split_drop cs 1 1)] at R
  rw [← (show cs.drop 0 = (cs.drop 0).take 1 ++ cs.drop 1 from split_drop cs 0 1)] at R
  exact ⟨⟨a0, a1⟩, R, ⟨w0, w1⟩⟩
def wf_47 (x : (Sl Sample)) : Prop := x.len ≤ 9223372036854775807 ∧ ∀ i, i < x.len → wf_52 (x.get i)
theorem rd_47 {H : Type} {en : TypeId × Value → H} {w : World} {sp : Nat → Bool} {held : Bool} : Rd H en Try.prog w sp held 47 enc_47 wf_47 := rd_slice Try.underlying47 C_52 (by decide) (fun _ => rfl) rd_52
def wf_129 (x : KinkRow) : Prop := wf_3 x.Opacity ∧ wf_24 x.Share
theorem rd_129 {H : Type} {en : TypeId × Value → H} {w : World} {sp : Nat → Bool} {held : Bool} : Rd H en Try.prog w sp held 129 enc_129 wf_129 := by
  intro fuel cs x h
  obtain ⟨hl, hf⟩ := rd_struct Try.underlying129 h
  rw [C_129] at hl
  obtain ⟨n0, y0, g0⟩ := hf 0 _ rfl
  have g0 : DataW.trod en Try.prog w 0 sp held n0 3 ((cs.drop 0).take (Try.prog.cellsOf 3)) = some y0 := g0
  rw [C_3] at g0
  obtain ⟨a0, r0, w0⟩ := rd_3 _ _ _ g0
  obtain ⟨n1, y1, g1⟩ := hf 1 _ rfl
  have g1 : DataW.trod en Try.prog w 0 sp held n1 24 ((cs.drop 1).take (Try.prog.cellsOf 24)) = some y1 := g1
  rw [C_24] at g1
  obtain ⟨a1, r1, w1⟩ := rd_24 _ _ _ g1
  have z : cs.drop 3 = [] := List.drop_eq_nil_of_le (by omega)
  have R := (r0.append (r1.append (show RL (Rep (H0 w)) [] (cs.drop 3) by rw [z]; exact rl_n)))
  rw [← (show cs.drop 1 = (cs.drop 1).take 2 ++ cs.drop 3 from split_drop cs 1 2)] at R
  rw [← (show cs.drop 0 = (cs.drop 0).take 1 ++ cs.drop 1 from split_drop cs 0 1)] at R
  exact ⟨⟨a0, a1⟩, R, ⟨w0, w1⟩⟩
def wf_97 (x : (Sl KinkRow)) : Prop := x.len ≤ 9223372036854775807 ∧ ∀ i, i < x.len → wf_129 (x.get i)
theorem rd_97 {H : Type} {en : TypeId × Value → H} {w : World} {sp : Nat → Bool} {held : Bool} : Rd H en Try.prog w sp held 97 enc_97 wf_97 := rd_slice Try.underlying97 C_129 (by decide) (fun _ => rfl) rd_129
end Go.Proofs
namespace Go.Proofs
open Go Go.Pm
set_option linter.unusedVariables false
theorem s63_eq (n lo hi : Int) : s63 n lo hi = decide (lo ≤ n ∧ n ≤ hi) := by
  unfold s63
  by_cases h1 : lo ≤ n <;> by_cases h2 : n ≤ hi <;> simp [h1, h2]
theorem s58_eq (n lo hi : Int) : s58 n lo hi = decide (lo ≤ n ∧ n ≤ hi) := by
  unfold s58
  by_cases h1 : lo ≤ n <;> by_cases h2 : n ≤ hi <;> simp [h1, h2]
theorem s69_eq (s : Span) (lo hi : Int) : s69 s lo hi = decide (lo ≤ s.Low ∧ s.Low ≤ s.High ∧ s.High ≤ hi) := by
  unfold s69
  rw [s63_eq]
  by_cases h1 : lo ≤ s.Low <;> by_cases h2 : s.Low ≤ s.High <;> by_cases h3 : s.High ≤ hi <;> simp [h1, h2, h3]
theorem s29_eq (s : Span) (lo hi : Int) : s29 s lo hi = decide (lo ≤ s.Low ∧ s.Low ≤ s.High ∧ s.High ≤ hi) := by
  unfold s29
  by_cases h1 : lo ≤ s.Low <;> by_cases h2 : s.Low ≤ s.High <;> by_cases h3 : s.High ≤ hi <;> simp [h1, h2, h3]
theorem s94_eq (a b : Span) : s94 a b = decide (a.Low ≤ b.Low ∧ a.High ≤ b.High) := by
  unfold s94
  by_cases h1 : a.Low ≤ b.Low <;> by_cases h2 : a.High ≤ b.High <;> simp [h1, h2]
theorem s104_eq (a b : Span) : s104 a b = decide (b.Low ≤ a.Low ∧ b.High ≤ a.High) := by
  unfold s104
  rw [s94_eq]
def TRow (t : Sl RangeRow) (i : Nat) : Prop := (1 ≤ (t.get i).Energy ∧ (t.get i).Energy ≤ 1000000) ∧ (0 ≤ (t.get i).Range.Low ∧ (t.get i).Range.Low ≤ (t.get i).Range.High ∧ (t.get i).Range.High ≤ 1000000) ∧
  (i = 0 ∨ (t.get (i - 1)).Energy < (t.get i).Energy ∧ (t.get (i - 1)).Range.Low ≤ (t.get i).Range.Low ∧ (t.get (i - 1)).Range.High ≤ (t.get i).Range.High)
instance (t : Sl RangeRow) (i : Nat) : Decidable (TRow t i) := by unfold TRow; infer_instance
def BRow (parts : Int) (t : Sl FluxRow) (i : Nat) : Prop := (1 ≤ (t.get i).Energy ∧ (t.get i).Energy ≤ 1000000) ∧ (0 ≤ (t.get i).Rate.Low ∧ (t.get i).Rate.Low ≤ (t.get i).Rate.High ∧ (t.get i).Rate.High ≤ parts) ∧
  (i = 0 ∨ (t.get (i - 1)).Energy < (t.get i).Energy ∧ (t.get i).Rate.Low ≤ (t.get (i - 1)).Rate.Low ∧ (t.get i).Rate.High ≤ (t.get (i - 1)).Rate.High)
instance (parts : Int) (t : Sl FluxRow) (i : Nat) : Decidable (BRow parts t i) := by unfold BRow; infer_instance
theorem s91_eq (t : Sl RangeRow) (hn : t.len ≤ 9223372036854775807) :
    p91 t 1 1000000 1000000 = true ∧ (s91 t 1 1000000 1000000 = true ↔ (∀ i, i < t.len → decide (TRow t i) = true) ∧ decide (1 ≤ (t.len : Int) ∧ (t.len : Int) ≤ 40) = true) := by
  refine all_loop (n := t.len) (good := fun i => decide (TRow t i)) (lpS := s91_lp0 t 1 1000000 1000000) (lpP := p91_lp0 t 1 1000000 1000000) ?_ ?_ ?_ ?_ hn
  · intro k i hi
    show s91_st0 t 1 1000000 1000000 (s91_lp0 t 1 1000000 1000000 k) i = cond (decide (TRow t i)) _ _
    generalize s91_lp0 t 1 1000000 1000000 k = S
    unfold s91_st0 s91_at1 s91_at2 s91_at3
    have e0 : (i : Int).toNat = i := by omega
    have el : decide ((i : Int) < (t.len : Int)) = true := decide_eq_true (by omega)
    by_cases h0 : 0 < i
    · have e2 : w64 ((i : Int) - 1) = ((i - 1 : Nat) : Int) := by rw [w64_id (by omega) (by omega)]; omega
      by_cases hg : TRow t i
      all_goals
        first | rw [decide_eq_true hg] | rw [decide_eq_false hg]
        unfold TRow at hg
        simp only [s63_eq, s69_eq, s94_eq, s92, s93, e0, el, e2, Int.toNat_natCast, Bool.cond_decide, ← decide_not, cond_true, cond_false]
        repeat' split
        all_goals first | rfl | (exfalso; omega)
    · have : i = 0 := by omega
      subst this
      by_cases hg : TRow t 0
      all_goals
        first | rw [decide_eq_true hg] | rw [decide_eq_false hg]
        unfold TRow at hg
        simp only [s63_eq, s69_eq, s94_eq, s92, s93, e0, el, Bool.cond_decide, ← decide_not, cond_true, cond_false]
        repeat' split
        all_goals first | rfl | (exfalso; omega)
  · intro k
    show s91_st0 t 1 1000000 1000000 (s91_lp0 t 1 1000000 1000000 k) _ = _
    unfold s91_st0
    rw [decide_eq_false (by omega), cond_false]
    rw [s63_eq]
  · intro k i hi
    show p91_st0 t 1 1000000 1000000 (p91_lp0 t 1 1000000 1000000 k) i = cond (decide (TRow t i)) _ _
    generalize p91_lp0 t 1 1000000 1000000 k = S
    unfold p91_st0 p91_at1 p91_at2 p91_at3
    have e0 : (i : Int).toNat = i := by omega
    have el : decide ((i : Int) < (t.len : Int)) = true := decide_eq_true (by omega)
    have e4 : decide (0 ≤ (i : Int) ∧ (i : Int) < (t.len : Int)) = true := decide_eq_true (by omega)
    by_cases h0 : 0 < i
    · have e2 : w64 ((i : Int) - 1) = ((i - 1 : Nat) : Int) := by rw [w64_id (by omega) (by omega)]; omega
      have e3 : decide (0 ≤ ((i - 1 : Nat) : Int) ∧ ((i - 1 : Nat) : Int) < (t.len : Int)) = true := decide_eq_true (by omega)
      by_cases hg : TRow t i
      all_goals
        first | rw [decide_eq_true hg] | rw [decide_eq_false hg]
        unfold TRow at hg
        simp only [s63_eq, s69_eq, s94_eq, s92, s93, e0, el, e2, Int.toNat_natCast, e3, e4, Bool.true_and, Bool.cond_decide, ← decide_not, cond_true, cond_false]
        repeat' split
        all_goals first | rfl | (exfalso; omega)
    · have : i = 0 := by omega
      subst this
      by_cases hg : TRow t 0
      all_goals
        first | rw [decide_eq_true hg] | rw [decide_eq_false hg]
        unfold TRow at hg
        simp only [s63_eq, s69_eq, s94_eq, s92, s93, e0, el, e4, Bool.true_and, Bool.cond_decide, ← decide_not, cond_true, cond_false]
        repeat' split
        all_goals first | rfl | (exfalso; omega)
  · intro k
    show p91_st0 t 1 1000000 1000000 (p91_lp0 t 1 1000000 1000000 k) _ = _
    unfold p91_st0
    rw [decide_eq_false (by omega), cond_false]
theorem s17_eq (t : Sl RangeRow) (hn : t.len ≤ 9223372036854775807) :
    p17 t = true ∧ (s17 t = true ↔ (∀ i, i < t.len → decide (TRow t i) = true) ∧ decide (1 ≤ (t.len : Int) ∧ (t.len : Int) ≤ 40) = true) := by
  refine all_loop (n := t.len) (good := fun i => decide (TRow t i)) (lpS := s17_lp0 t) (lpP := p17_lp0 t) ?_ ?_ ?_ ?_ hn
  · intro k i hi
    show s17_st0 t (s17_lp0 t k) i = cond (decide (TRow t i)) _ _
    generalize s17_lp0 t k = S
    unfold s17_st0 s17_at1
    have e0 : (i : Int).toNat = i := by omega
    have el : decide ((i : Int) < (t.len : Int)) = true := decide_eq_true (by omega)
    by_cases h0 : 0 < i
    · have e2 : w64 ((i : Int) - 1) = ((i - 1 : Nat) : Int) := by rw [w64_id (by omega) (by omega)]; omega
      by_cases hg : TRow t i
      all_goals
        first | rw [decide_eq_true hg] | rw [decide_eq_false hg]
        unfold TRow at hg
        simp only [s58_eq, s29_eq, e0, el, e2, Int.toNat_natCast, Bool.cond_decide, ← decide_not, cond_true, cond_false]
        repeat' split
        all_goals first | rfl | (exfalso; omega)
    · have : i = 0 := by omega
      subst this
      by_cases hg : TRow t 0
      all_goals
        first | rw [decide_eq_true hg] | rw [decide_eq_false hg]
        unfold TRow at hg
        simp only [s58_eq, s29_eq, e0, el, Bool.cond_decide, ← decide_not, cond_true, cond_false]
        repeat' split
        all_goals first | rfl | (exfalso; omega)
  · intro k
    show s17_st0 t (s17_lp0 t k) _ = _
    unfold s17_st0
    rw [decide_eq_false (by omega), cond_false]
    rw [s58_eq]
  · intro k i hi
    show p17_st0 t (p17_lp0 t k) i = cond (decide (TRow t i)) _ _
    generalize p17_lp0 t k = S
    unfold p17_st0 p17_at1
    have e0 : (i : Int).toNat = i := by omega
    have el : decide ((i : Int) < (t.len : Int)) = true := decide_eq_true (by omega)
    have e4 : decide (0 ≤ (i : Int) ∧ (i : Int) < (t.len : Int)) = true := decide_eq_true (by omega)
    by_cases h0 : 0 < i
    · have e2 : w64 ((i : Int) - 1) = ((i - 1 : Nat) : Int) := by rw [w64_id (by omega) (by omega)]; omega
      have e3 : decide (0 ≤ ((i - 1 : Nat) : Int) ∧ ((i - 1 : Nat) : Int) < (t.len : Int)) = true := decide_eq_true (by omega)
      by_cases hg : TRow t i
      all_goals
        first | rw [decide_eq_true hg] | rw [decide_eq_false hg]
        unfold TRow at hg
        simp only [s58_eq, s29_eq, e0, el, e2, Int.toNat_natCast, e3, e4, Bool.true_and, Bool.cond_decide, ← decide_not, cond_true, cond_false]
        repeat' split
        all_goals first | rfl | (exfalso; omega)
    · have : i = 0 := by omega
      subst this
      by_cases hg : TRow t 0
      all_goals
        first | rw [decide_eq_true hg] | rw [decide_eq_false hg]
        unfold TRow at hg
        simp only [s58_eq, s29_eq, e0, el, e4, Bool.true_and, Bool.cond_decide, ← decide_not, cond_true, cond_false]
        repeat' split
        all_goals first | rfl | (exfalso; omega)
  · intro k
    show p17_st0 t (p17_lp0 t k) _ = _
    unfold p17_st0
    rw [decide_eq_false (by omega), cond_false]
theorem s101_eq (parts : Int) (t : Sl FluxRow) (hn : t.len ≤ 9223372036854775807) :
    p101 t 1 1000000 parts = true ∧ (s101 t 1 1000000 parts = true ↔ (∀ i, i < t.len → decide (BRow parts t i) = true) ∧ decide (1 ≤ (t.len : Int) ∧ (t.len : Int) ≤ 40) = true) := by
  refine all_loop (n := t.len) (good := fun i => decide (BRow parts t i)) (lpS := s101_lp0 t 1 1000000 parts) (lpP := p101_lp0 t 1 1000000 parts) ?_ ?_ ?_ ?_ hn
  · intro k i hi
    show s101_st0 t 1 1000000 parts (s101_lp0 t 1 1000000 parts k) i = cond (decide (BRow parts t i)) _ _
    generalize s101_lp0 t 1 1000000 parts k = S
    unfold s101_st0 s101_at1 s101_at2 s101_at3
    have e0 : (i : Int).toNat = i := by omega
    have el : decide ((i : Int) < (t.len : Int)) = true := decide_eq_true (by omega)
    by_cases h0 : 0 < i
    · have e2 : w64 ((i : Int) - 1) = ((i - 1 : Nat) : Int) := by rw [w64_id (by omega) (by omega)]; omega
      by_cases hg : BRow parts t i
      all_goals
        first | rw [decide_eq_true hg] | rw [decide_eq_false hg]
        unfold BRow at hg
        simp only [s63_eq, s69_eq, s104_eq, s102, s103, e0, el, e2, Int.toNat_natCast, Bool.cond_decide, ← decide_not, cond_true, cond_false]
        repeat' split
        all_goals first | rfl | (exfalso; omega)
    · have : i = 0 := by omega
      subst this
      by_cases hg : BRow parts t 0
      all_goals
        first | rw [decide_eq_true hg] | rw [decide_eq_false hg]
        unfold BRow at hg
        simp only [s63_eq, s69_eq, s104_eq, s102, s103, e0, el, Bool.cond_decide, ← decide_not, cond_true, cond_false]
        repeat' split
        all_goals first | rfl | (exfalso; omega)
  · intro k
    show s101_st0 t 1 1000000 parts (s101_lp0 t 1 1000000 parts k) _ = _
    unfold s101_st0
    rw [decide_eq_false (by omega), cond_false]
    rw [s63_eq]
  · intro k i hi
    show p101_st0 t 1 1000000 parts (p101_lp0 t 1 1000000 parts k) i = cond (decide (BRow parts t i)) _ _
    generalize p101_lp0 t 1 1000000 parts k = S
    unfold p101_st0 p101_at1 p101_at2 p101_at3
    have e0 : (i : Int).toNat = i := by omega
    have el : decide ((i : Int) < (t.len : Int)) = true := decide_eq_true (by omega)
    have e4 : decide (0 ≤ (i : Int) ∧ (i : Int) < (t.len : Int)) = true := decide_eq_true (by omega)
    by_cases h0 : 0 < i
    · have e2 : w64 ((i : Int) - 1) = ((i - 1 : Nat) : Int) := by rw [w64_id (by omega) (by omega)]; omega
      have e3 : decide (0 ≤ ((i - 1 : Nat) : Int) ∧ ((i - 1 : Nat) : Int) < (t.len : Int)) = true := decide_eq_true (by omega)
      by_cases hg : BRow parts t i
      all_goals
        first | rw [decide_eq_true hg] | rw [decide_eq_false hg]
        unfold BRow at hg
        simp only [s63_eq, s69_eq, s104_eq, s102, s103, e0, el, e2, Int.toNat_natCast, e3, e4, Bool.true_and, Bool.cond_decide, ← decide_not, cond_true, cond_false]
        repeat' split
        all_goals first | rfl | (exfalso; omega)
    · have : i = 0 := by omega
      subst this
      by_cases hg : BRow parts t 0
      all_goals
        first | rw [decide_eq_true hg] | rw [decide_eq_false hg]
        unfold BRow at hg
        simp only [s63_eq, s69_eq, s104_eq, s102, s103, e0, el, e4, Bool.true_and, Bool.cond_decide, ← decide_not, cond_true, cond_false]
        repeat' split
        all_goals first | rfl | (exfalso; omega)
  · intro k
    show p101_st0 t 1 1000000 parts (p101_lp0 t 1 1000000 parts k) _ = _
    unfold p101_st0
    rw [decide_eq_false (by omega), cond_false]
theorem s59_eq (parts : Int) (t : Sl FluxRow) (hn : t.len ≤ 9223372036854775807) :
    p59 parts t = true ∧ (s59 parts t = true ↔ (∀ i, i < t.len → decide (BRow parts t i) = true) ∧ (cond (decide (1 ≤ (t.len : Int) ∧ (t.len : Int) ≤ 40)) ((t.get 0).Energy == (1:Int)) false) = true) := by
  refine all_loop (n := t.len) (good := fun i => decide (BRow parts t i)) (lpS := s59_lp0 parts t) (lpP := p59_lp0 parts t) ?_ ?_ ?_ ?_ hn
  · intro k i hi
    show s59_st0 parts t (s59_lp0 parts t k) i = cond (decide (BRow parts t i)) _ _
    generalize s59_lp0 parts t k = S
    unfold s59_st0 s59_at1
    have e0 : (i : Int).toNat = i := by omega
    have el : decide ((i : Int) < (t.len : Int)) = true := decide_eq_true (by omega)
    by_cases h0 : 0 < i
    · have e2 : w64 ((i : Int) - 1) = ((i - 1 : Nat) : Int) := by rw [w64_id (by omega) (by omega)]; omega
      by_cases hg : BRow parts t i
      all_goals
        first | rw [decide_eq_true hg] | rw [decide_eq_false hg]
        unfold BRow at hg
        simp only [s58_eq, s29_eq, e0, el, e2, Int.toNat_natCast, Bool.cond_decide, ← decide_not, cond_true, cond_false]
        repeat' split
        all_goals first | rfl | (exfalso; omega)
    · have : i = 0 := by omega
      subst this
      by_cases hg : BRow parts t 0
      all_goals
        first | rw [decide_eq_true hg] | rw [decide_eq_false hg]
        unfold BRow at hg
        simp only [s58_eq, s29_eq, e0, el, Bool.cond_decide, ← decide_not, cond_true, cond_false]
        repeat' split
        all_goals first | rfl | (exfalso; omega)
  · intro k
    show s59_st0 parts t (s59_lp0 parts t k) _ = _
    unfold s59_st0
    rw [decide_eq_false (by omega), cond_false]
    rw [s58_eq]
  · intro k i hi
    show p59_st0 parts t (p59_lp0 parts t k) i = cond (decide (BRow parts t i)) _ _
    generalize p59_lp0 parts t k = S
    unfold p59_st0 p59_at1
    have e0 : (i : Int).toNat = i := by omega
    have el : decide ((i : Int) < (t.len : Int)) = true := decide_eq_true (by omega)
    have e4 : decide (0 ≤ (i : Int) ∧ (i : Int) < (t.len : Int)) = true := decide_eq_true (by omega)
    by_cases h0 : 0 < i
    · have e2 : w64 ((i : Int) - 1) = ((i - 1 : Nat) : Int) := by rw [w64_id (by omega) (by omega)]; omega
      have e3 : decide (0 ≤ ((i - 1 : Nat) : Int) ∧ ((i - 1 : Nat) : Int) < (t.len : Int)) = true := decide_eq_true (by omega)
      by_cases hg : BRow parts t i
      all_goals
        first | rw [decide_eq_true hg] | rw [decide_eq_false hg]
        unfold BRow at hg
        simp only [s58_eq, s29_eq, e0, el, e2, Int.toNat_natCast, e3, e4, Bool.true_and, Bool.cond_decide, ← decide_not, cond_true, cond_false]
        repeat' split
        all_goals first | rfl | (exfalso; omega)
    · have : i = 0 := by omega
      subst this
      by_cases hg : BRow parts t 0
      all_goals
        first | rw [decide_eq_true hg] | rw [decide_eq_false hg]
        unfold BRow at hg
        simp only [s58_eq, s29_eq, e0, el, e4, Bool.true_and, Bool.cond_decide, ← decide_not, cond_true, cond_false]
        repeat' split
        all_goals first | rfl | (exfalso; omega)
  · intro k
    show p59_st0 parts t (p59_lp0 parts t k) _ = _
    unfold p59_st0
    rw [decide_eq_false (by omega), cond_false]
    rw [s58_eq]
    by_cases h : 1 ≤ (t.len : Int) ∧ (t.len : Int) ≤ 40
    · rw [decide_eq_true h, decide_eq_true (by omega)]; rfl
    · rw [decide_eq_false h]; rfl
def TOk (t : Sl RangeRow) : Prop := (1 ≤ (t.len : Int) ∧ (t.len : Int) ≤ 40) ∧ ∀ i, i < t.len → TRow t i
def BOk (parts : Int) (t : Sl FluxRow) : Prop := (1 ≤ (t.len : Int) ∧ (t.len : Int) ≤ 40) ∧ (t.get 0).Energy = 1 ∧ ∀ i, i < t.len → BRow parts t i
def SOk (s : Sky) : Prop := ((2 ≤ s.Parts ∧ s.Parts ≤ 1000000) ∧ (1 ≤ (s.Bins.len : Int) ∧ (s.Bins.len : Int) ≤ 20) ∧ (-100 ≤ s.Beta.Low ∧ s.Beta.Low ≤ s.Beta.High ∧ s.Beta.High ≤ 100) ∧ (-100 ≤ s.Alpha.Low ∧ s.Alpha.Low ≤ s.Alpha.High ∧ s.Alpha.High ≤ 100)) ∧ ∀ i, i < s.Bins.len → BOk s.Parts (s.Bins.get i)
theorem s62_ok (t : Sl RangeRow) (hn : t.len ≤ 9223372036854775807) : p62 t = true ∧ (s62 t = true ↔ TOk t) := by
  obtain ⟨h1, h2⟩ := s91_eq t hn
  unfold p62 s62 TOk
  rw [h1]
  refine ⟨rfl, h2.trans ?_⟩
  simp only [decide_eq_true_eq]
  exact And.comm
theorem s17_ok (t : Sl RangeRow) (hn : t.len ≤ 9223372036854775807) : p17 t = true ∧ s17 t = s62 t := by
  obtain ⟨h1, h2⟩ := s17_eq t hn
  refine ⟨h1, Bool.eq_iff_iff.2 (h2.trans ((s62_ok t hn).2.trans ?_).symm)⟩
  unfold TOk
  simp only [decide_eq_true_eq]
  exact And.comm
theorem s101_ok (parts : Int) (t : Sl FluxRow) (hn : t.len ≤ 9223372036854775807) : p101 t 1 1000000 parts = true ∧ ((s101 t 1 1000000 parts && (t.get 0).Energy == 1) = true ↔ BOk parts t) ∧ (s101 t 1 1000000 parts = true → 0 < t.len) := by
  obtain ⟨h1, h2⟩ := s101_eq parts t hn
  refine ⟨h1, ?_, fun h => ?_⟩
  · rw [Bool.and_eq_true, h2]
    unfold BOk
    simp only [decide_eq_true_eq, beq_iff_eq]
    exact ⟨fun h => ⟨h.1.2, h.2, h.1.1⟩, fun h => ⟨⟨h.2.2, h.1⟩, h.2.1⟩⟩
  · have := of_decide_eq_true (h2.1 h).2
    omega
theorem s59_ok (parts : Int) (t : Sl FluxRow) (hn : t.len ≤ 9223372036854775807) : p59 parts t = true ∧ (s59 parts t = true ↔ BOk parts t) := by
  obtain ⟨h1, h2⟩ := s59_eq parts t hn
  refine ⟨h1, h2.trans ?_⟩
  unfold BOk
  simp only [decide_eq_true_eq, Bool.cond_decide, Bool.if_false_right, Bool.and_eq_true, beq_iff_eq]
  exact ⟨fun h => ⟨h.2.1, h.2.2, h.1⟩, fun h => ⟨h.2.2, h.1, h.2.1⟩⟩
end Go.Proofs
namespace Go.Proofs
open Go Go.Pm
set_option linter.unusedVariables false
theorem last_fst {β : Type} {c d : Nat → Bool} {v : Nat → β} {n : Nat} {a : β} (hcd : ∀ i, i < n → d i = !c i) (hup : ∀ i j, i ≤ j → j < n → d i = true → d j = true) :
    lastF c v n a = if 0 < fst d n then v (fst d n - 1) else a := by
  have hl := fst_le d n
  have hhi : ∀ j, fst d n ≤ j → j < n → c j = false := by
    intro j h1 h2
    have := hup _ _ h1 h2 (fst_hi (by omega))
    rw [hcd j h2] at this
    simpa using this
  by_cases h : 0 < fst d n
  · rw [if_pos h]
    refine last_at (by omega) ?_ (fun j h1 h2 => hhi j (by omega) h2)
    have := fst_lo (c := d) (n := n) (j := fst d n - 1) (by omega)
    rw [hcd _ (by omega)] at this
    simpa using this
  · rw [if_neg h]
    exact last_none fun j hj => hhi j (by omega) hj
def SL (s : Sky) : Prop := s.Bins.len ≤ 9223372036854775807 ∧ ∀ i, i < s.Bins.len → (s.Bins.get i).len ≤ 9223372036854775807
theorem s75_ok (s : Sky) (hs : SL s) : p75 s = true ∧ (s75 s = true ↔ SOk s) := by
  have h : p75 s = true ∧ (s75 s = true ↔ (∀ i, i < s.Bins.len → (s101 (s.Bins.get i) 1 1000000 s.Parts && ((s.Bins.get i).get 0).Energy == 1) = true) ∧ s75_at2 s s.Bins = true) := by
    refine all_loop (n := s.Bins.len) (good := fun i => s101 (s.Bins.get i) 1 1000000 s.Parts && ((s.Bins.get i).get 0).Energy == 1) (lpS := fun k i => s75_lp0 s k s.Bins (s.Bins.len : Int) i s.Bins) (lpP := fun k i => p75_lp0 s k s.Bins (s.Bins.len : Int) i s.Bins) ?_ ?_ ?_ ?_ hs.1
    · intro k i hi
      show s75_st0 s (s75_lp0 s k) s.Bins (s.Bins.len : Int) i s.Bins = cond _ (s75_lp0 s k s.Bins (s.Bins.len : Int) (w64 ((i : Int) + 1)) s.Bins) false
      generalize s75_lp0 s k = S
      unfold s75_st0 s75_at1
      rw [decide_eq_true (by omega), Int.toNat_natCast]
      cases s101 (s.Bins.get i) 1 1000000 s.Parts
      · rfl
      · cases h : ((s.Bins.get i).get 0).Energy == 1 <;> simp [bne, h]
    · intro k
      show s75_st0 s (s75_lp0 s k) s.Bins (s.Bins.len : Int) _ s.Bins = _
      unfold s75_st0
      rw [decide_eq_false (by omega), cond_false]
    · intro k i hi
      show p75_st0 s (p75_lp0 s k) s.Bins (s.Bins.len : Int) i s.Bins = cond _ (p75_lp0 s k s.Bins (s.Bins.len : Int) (w64 ((i : Int) + 1)) s.Bins) true
      generalize p75_lp0 s k = S
      unfold p75_st0 p75_at1
      obtain ⟨h1, _, h3⟩ := s101_ok s.Parts (s.Bins.get i) (hs.2 i hi)
      rw [decide_eq_true (by omega), Int.toNat_natCast, h1, decide_eq_true (show 0 ≤ (i : Int) ∧ (i : Int) < (s.Bins.len : Int) by omega)]
      cases h : s101 (s.Bins.get i) 1 1000000 s.Parts
      · rfl
      · have h4 := h3 h
        rw [decide_eq_true (show (0 : Int) ≤ 0 ∧ (0 : Int) < ((s.Bins.get i).len : Int) by omega)]
        cases h : ((s.Bins.get i).get 0).Energy == 1 <;> simp [bne, h]
    · intro k
      show p75_st0 s (p75_lp0 s k) s.Bins (s.Bins.len : Int) _ s.Bins = _
      unfold p75_st0
      rw [decide_eq_false (by omega), cond_false]
  refine ⟨h.1, h.2.trans ?_⟩
  have e : s75_at2 s s.Bins = true ↔ ((2 ≤ s.Parts ∧ s.Parts ≤ 1000000) ∧ (1 ≤ (s.Bins.len : Int) ∧ (s.Bins.len : Int) ≤ 20) ∧ (-100 ≤ s.Beta.Low ∧ s.Beta.Low ≤ s.Beta.High ∧ s.Beta.High ≤ 100) ∧ (-100 ≤ s.Alpha.Low ∧ s.Alpha.Low ≤ s.Alpha.High ∧ s.Alpha.High ≤ 100)) := by
    unfold s75_at2
    rw [s63_eq, s63_eq, s69_eq, s69_eq]
    simp only [Bool.cond_decide, Bool.if_false_right, Bool.and_eq_true, decide_eq_true_eq]
  rw [e]
  unfold SOk
  exact ⟨fun h => ⟨h.2, fun i hi => (s101_ok s.Parts (s.Bins.get i) (hs.2 i hi)).2.1.1 (h.1 i hi)⟩, fun h => ⟨fun i hi => (s101_ok s.Parts (s.Bins.get i) (hs.2 i hi)).2.1.2 (h.2 i hi), h.1⟩⟩
theorem s16_ok (s : Sky) (hs : SL s) : p16 s = true ∧ s16 s = s75 s := by
  have h : p16_at1 s s.Bins = true ∧ (s16_at1 s s.Bins = true ↔ (∀ i, i < s.Bins.len → s59 s.Parts (s.Bins.get i) = true) ∧ true = true) := by
    refine all_loop (n := s.Bins.len) (good := fun i => s59 s.Parts (s.Bins.get i)) (lpS := fun k i => s16_lp2 s k i s.Bins) (lpP := fun k i => p16_lp2 s k i s.Bins) ?_ ?_ ?_ ?_ hs.1
    · intro k i hi
      show s16_st2 s (s16_lp2 s k) i s.Bins = cond _ (s16_lp2 s k (w64 ((i : Int) + 1)) s.Bins) false
      generalize s16_lp2 s k = S
      unfold s16_st2 s16_at3
      rw [decide_eq_true (by omega), Int.toNat_natCast]
      cases s59 s.Parts (s.Bins.get i) <;> rfl
    · intro k
      show s16_st2 s (s16_lp2 s k) _ s.Bins = _
      unfold s16_st2
      rw [decide_eq_false (by omega), cond_false]
    · intro k i hi
      show p16_st2 s (p16_lp2 s k) i s.Bins = cond _ (p16_lp2 s k (w64 ((i : Int) + 1)) s.Bins) true
      generalize p16_lp2 s k = S
      unfold p16_st2 p16_at3
      rw [decide_eq_true (by omega), Int.toNat_natCast, (s59_ok s.Parts (s.Bins.get i) (hs.2 i hi)).1, decide_eq_true (show 0 ≤ (i : Int) ∧ (i : Int) < (s.Bins.len : Int) by omega)]
      cases s59 s.Parts (s.Bins.get i) <;> rfl
    · intro k
      show p16_st2 s (p16_lp2 s k) _ s.Bins = _
      unfold p16_st2
      rw [decide_eq_false (by omega), cond_false]
  have h2 : s16 s = true ↔ SOk s := by
    unfold s16 s16_at0
    rw [s58_eq, s58_eq, s29_eq, s29_eq]
    unfold SOk
    by_cases a : 2 ≤ s.Parts ∧ s.Parts ≤ 1000000
    · by_cases b : 1 ≤ (s.Bins.len : Int) ∧ (s.Bins.len : Int) ≤ 20
      · by_cases c : -100 ≤ s.Beta.Low ∧ s.Beta.Low ≤ s.Beta.High ∧ s.Beta.High ≤ 100
        · by_cases d : -100 ≤ s.Alpha.Low ∧ s.Alpha.Low ≤ s.Alpha.High ∧ s.Alpha.High ≤ 100
          · rw [decide_eq_true a, decide_eq_true b, decide_eq_true c, decide_eq_true d]
            refine h.2.trans ?_
            exact ⟨fun h => ⟨⟨a, b, c, d⟩, fun i hi => (s59_ok s.Parts (s.Bins.get i) (hs.2 i hi)).2.1 (h.1 i hi)⟩, fun h => ⟨fun i hi => (s59_ok s.Parts (s.Bins.get i) (hs.2 i hi)).2.2 (h.2 i hi), rfl⟩⟩
          · rw [decide_eq_true a, decide_eq_true b, decide_eq_true c, decide_eq_false d]
            exact ⟨fun h => absurd h Bool.false_ne_true, fun h => absurd h.1.2.2.2 d⟩
        · rw [decide_eq_true a, decide_eq_true b, decide_eq_false c]
          exact ⟨fun h => absurd h Bool.false_ne_true, fun h => absurd h.1.2.2.1 c⟩
      · rw [decide_eq_true a, decide_eq_false b]
        exact ⟨fun h => absurd h Bool.false_ne_true, fun h => absurd h.1.2.1 b⟩
    · rw [decide_eq_false a]
      exact ⟨fun h => absurd h Bool.false_ne_true, fun h => absurd h.1.1 a⟩
  refine ⟨?_, Bool.eq_iff_iff.2 (h2.trans (s75_ok s hs).2.symm)⟩
  unfold p16 p16_at0
  rw [h.1]
  cases s58 s.Parts 2 1000000 <;> cases s58 (s.Bins.len : Int) 1 20 <;> cases s29 s.Beta (-100) 100 <;> cases s29 s.Alpha (-100) 100 <;> rfl
theorem s15_p (s : Sky) (t : Sl RangeRow) (hs : SL s) : p15 s t = true := by
  have h : p15 s t = true ∧ (s15 s t = true ↔ (∀ i, i < s.Bins.len → (!decide (((s.Bins.get i).len : Int) > 50)) = true) ∧ (cond (decide ((s.Bins.len : Int) ≤ (25:Int))) (decide ((t.len : Int) ≤ (50:Int))) false) = true) := by
    refine all_loop (n := s.Bins.len) (good := fun i => !decide (((s.Bins.get i).len : Int) > 50)) (lpS := s15_lp0 s t) (lpP := p15_lp0 s t) ?_ ?_ ?_ ?_ hs.1
    · intro k i hi
      show s15_st0 s t (s15_lp0 s t k) i = _
      generalize s15_lp0 s t k = S
      unfold s15_st0
      rw [decide_eq_true (by omega), Int.toNat_natCast]
      cases decide (((s.Bins.get i).len : Int) > 50) <;> rfl
    · intro k
      show s15_st0 s t (s15_lp0 s t k) _ = _
      unfold s15_st0
      rw [decide_eq_false (by omega), cond_false]
    · intro k i hi
      show p15_st0 s t (p15_lp0 s t k) i = _
      generalize p15_lp0 s t k = S
      unfold p15_st0
      rw [decide_eq_true (by omega), Int.toNat_natCast, decide_eq_true (show 0 ≤ (i : Int) ∧ (i : Int) < (s.Bins.len : Int) by omega)]
      cases decide (((s.Bins.get i).len : Int) > 50) <;> rfl
    · intro k
      show p15_st0 s t (p15_lp0 s t k) _ = _
      unfold p15_st0
      rw [decide_eq_false (by omega), cond_false]
  exact h.1
theorem s81_eq (c0 : Int) (t : Sl RangeRow) (hn : t.len ≤ 9223372036854775807) : p81 c0 t = true ∧ s81 c0 t = ((fst (fun i => s95 c0 (t.get i)) t.len : Nat) : Int) := by
  have h := idx_loop (c := s95 c0) (lpS := s106_lp0 c0) (lpP := p106_lp0 c0) (fun _ _ _ _ => rfl) (fun _ _ _ _ => rfl) t hn
  have h1 : p106 c0 t = true := h.1
  have h2 : s106 c0 t = _ := h.2
  have hl := fst_le (fun i => s95 c0 (t.get i)) t.len
  unfold p81 s81
  rw [h1, h2]
  refine ⟨rfl, ?_⟩
  by_cases h : fst (fun i => s95 c0 (t.get i)) t.len < t.len
  · rw [if_pos h, decide_eq_true (by omega)]; rfl
  · rw [if_neg h, decide_eq_false (by omega)]
    show (t.len : Int) = _
    omega
theorem s81a_eq (c0 : Int) (t : Sl RangeRow) (hn : t.len ≤ 9223372036854775807) : p81a c0 t = true ∧ s81a c0 t = ((fst (fun i => s96 c0 (t.get i)) t.len : Nat) : Int) := by
  have h := idx_loop (c := s96 c0) (lpS := s106a_lp0 c0) (lpP := p106a_lp0 c0) (fun _ _ _ _ => rfl) (fun _ _ _ _ => rfl) t hn
  have h1 : p106a c0 t = true := h.1
  have h2 : s106a c0 t = _ := h.2
  have hl := fst_le (fun i => s96 c0 (t.get i)) t.len
  unfold p81a s81a
  rw [h1, h2]
  refine ⟨rfl, ?_⟩
  by_cases h : fst (fun i => s96 c0 (t.get i)) t.len < t.len
  · rw [if_pos h, decide_eq_true (by omega)]; rfl
  · rw [if_neg h, decide_eq_false (by omega)]
    show (t.len : Int) = _
    omega
theorem s81b_eq (c0 : Int) (t : Sl RangeRow) (hn : t.len ≤ 9223372036854775807) : p81b c0 t = true ∧ s81b c0 t = ((fst (fun i => s82 c0 (t.get i)) t.len : Nat) : Int) := by
  have h := idx_loop (c := s82 c0) (lpS := s106b_lp0 c0) (lpP := p106b_lp0 c0) (fun _ _ _ _ => rfl) (fun _ _ _ _ => rfl) t hn
  have h1 : p106b c0 t = true := h.1
  have h2 : s106b c0 t = _ := h.2
  have hl := fst_le (fun i => s82 c0 (t.get i)) t.len
  unfold p81b s81b
  rw [h1, h2]
  refine ⟨rfl, ?_⟩
  by_cases h : fst (fun i => s82 c0 (t.get i)) t.len < t.len
  · rw [if_pos h, decide_eq_true (by omega)]; rfl
  · rw [if_neg h, decide_eq_false (by omega)]
    show (t.len : Int) = _
    omega
theorem s81c_eq (c0 : Int) (t : Sl RangeRow) (hn : t.len ≤ 9223372036854775807) : p81c c0 t = true ∧ s81c c0 t = ((fst (fun i => s83 c0 (t.get i)) t.len : Nat) : Int) := by
  have h := idx_loop (c := s83 c0) (lpS := s106c_lp0 c0) (lpP := p106c_lp0 c0) (fun _ _ _ _ => rfl) (fun _ _ _ _ => rfl) t hn
  have h1 : p106c c0 t = true := h.1
  have h2 : s106c c0 t = _ := h.2
  have hl := fst_le (fun i => s83 c0 (t.get i)) t.len
  unfold p81c s81c
  rw [h1, h2]
  refine ⟨rfl, ?_⟩
  by_cases h : fst (fun i => s83 c0 (t.get i)) t.len < t.len
  · rw [if_pos h, decide_eq_true (by omega)]; rfl
  · rw [if_neg h, decide_eq_false (by omega)]
    show (t.len : Int) = _
    omega
theorem s107_eq (c0 : Span) (t : Sl FluxRow) (hn : t.len ≤ 9223372036854775807) : p107 c0 t = true ∧ s107 c0 t = ((fst (fun i => s108 c0 (t.get i)) t.len : Nat) : Int) := by
  have h := idx_loop (c := s108 c0) (lpS := s118_lp0 c0) (lpP := p118_lp0 c0) (fun _ _ _ _ => rfl) (fun _ _ _ _ => rfl) t hn
  have h1 : p118 c0 t = true := h.1
  have h2 : s118 c0 t = _ := h.2
  have hl := fst_le (fun i => s108 c0 (t.get i)) t.len
  unfold p107 s107
  rw [h1, h2]
  refine ⟨rfl, ?_⟩
  by_cases h : fst (fun i => s108 c0 (t.get i)) t.len < t.len
  · rw [if_pos h, decide_eq_true (by omega)]; rfl
  · rw [if_neg h, decide_eq_false (by omega)]
    show (t.len : Int) = _
    omega
theorem s107a_eq (c0 : Span) (t : Sl FluxRow) (hn : t.len ≤ 9223372036854775807) : p107a c0 t = true ∧ s107a c0 t = ((fst (fun i => s109 c0 (t.get i)) t.len : Nat) : Int) := by
  have h := idx_loop (c := s109 c0) (lpS := s118a_lp0 c0) (lpP := p118a_lp0 c0) (fun _ _ _ _ => rfl) (fun _ _ _ _ => rfl) t hn
  have h1 : p118a c0 t = true := h.1
  have h2 : s118a c0 t = _ := h.2
  have hl := fst_le (fun i => s109 c0 (t.get i)) t.len
  unfold p107a s107a
  rw [h1, h2]
  refine ⟨rfl, ?_⟩
  by_cases h : fst (fun i => s109 c0 (t.get i)) t.len < t.len
  · rw [if_pos h, decide_eq_true (by omega)]; rfl
  · rw [if_neg h, decide_eq_false (by omega)]
    show (t.len : Int) = _
    omega
def kH (t : Sl RangeRow) (x : Int) : Nat := fst (fun i => decide ((t.get i).Range.High ≥ x)) t.len
def kL (t : Sl RangeRow) (x : Int) : Nat := fst (fun i => decide ((t.get i).Range.Low ≥ x)) t.len
def thrL (t : Sl RangeRow) (x : Int) : Int := if 0 < kH t x then (t.get (kH t x - 1)).Energy + 1 else 1
def thrH (t : Sl RangeRow) (x : Int) : Int := if kL t x < t.len then (t.get (kL t x)).Energy else -1
def thr (t : Sl RangeRow) (x : Int) : Span := if x = 0 then ⟨1, 1⟩ else ⟨thrL t x, thrH t x⟩
def jL (l : Sl FluxRow) (y : Int) : Nat := fst (fun i => decide ((l.get i).Energy > y)) l.len
def jH (l : Sl FluxRow) (y : Int) : Nat := fst (fun i => decide ((l.get i).Energy ≥ y)) l.len
def abvH (l : Sl FluxRow) (y : Int) : Int := if 0 < jL l y then (l.get (jL l y - 1)).Rate.High else (l.get 0).Rate.High
def abvL (l : Sl FluxRow) (y : Int) : Int := if y = -1 then 0 else if jH l y < l.len then (l.get (jH l y)).Rate.Low else 0
def abv (l : Sl FluxRow) (x : Span) : Span := ⟨abvL l x.High, abvH l x.Low⟩
def expd (s : Sky) (t : Sl RangeRow) (bin x : Int) : Span := abv (s.Bins.get bin.toNat) (thr t x)
theorem s64_eq (t : Sl RangeRow) (x : Int) (hk : TOk t) : p64 t x = true ∧ s64 t x = thr t x := by
  have hn : t.len ≤ 9223372036854775807 := by have := hk.1.2; omega
  have e1 : p81 x t = true ∧ s81 x t = ((kH t x : Nat) : Int) := s81_eq x t hn
  have e2 : p81a x t = true ∧ s81a x t = ((kL t x : Nat) : Int) := s81a_eq x t hn
  have b1 : kH t x ≤ t.len := fst_le _ _
  have b2 : kL t x ≤ t.len := fst_le _ _
  unfold p64 s64 thr
  by_cases h0 : x = 0
  · rw [if_pos h0, beq_iff_eq.2 h0]; exact ⟨rfl, rfl⟩
  have h00 : (x == 0) = false := by simpa using h0
  rw [if_neg h0, h00, cond_false, cond_false]
  unfold p64_at0 s64_at0
  rw [e1.1, e1.2]
  have h3 : ∀ a, p64_at2 t x a = true ∧ s64_at2 t x a = ⟨a, thrH t x⟩ := by
    intro a
    unfold p64_at2 s64_at2 p64_at3 s64_at3 thrH
    rw [e2.1, e2.2]
    by_cases h : kL t x < t.len
    · rw [if_pos h, decide_eq_true (show ((kL t x : Nat) : Int) < (t.len : Int) by omega), decide_eq_true (show 0 ≤ ((kL t x : Nat) : Int) ∧ ((kL t x : Nat) : Int) < (t.len : Int) by omega), Int.toNat_natCast]
      exact ⟨rfl, rfl⟩
    · rw [if_neg h, decide_eq_false (show ¬ ((kL t x : Nat) : Int) < (t.len : Int) by omega)]
      exact ⟨rfl, rfl⟩
  unfold p64_at1 s64_at1 thrL
  by_cases h : 0 < kH t x
  · have hr := hk.2 (kH t x - 1) (by omega)
    unfold TRow at hr
    have e3 : w64 (((kH t x : Nat) : Int) - 1) = ((kH t x - 1 : Nat) : Int) := by rw [w64_id (by omega) (by omega)]; omega
    rw [if_pos h, decide_eq_true (show ((kH t x : Nat) : Int) > 0 by omega), e3, Int.toNat_natCast, decide_eq_true (show 0 ≤ ((kH t x - 1 : Nat) : Int) ∧ ((kH t x - 1 : Nat) : Int) < (t.len : Int) by omega), (h3 _).1, cond_true, (h3 _).2, w64_id (by omega) (by omega)]
    exact ⟨rfl, rfl⟩
  · rw [if_neg h, decide_eq_false (show ¬ ((kH t x : Nat) : Int) > 0 by omega), cond_false, cond_false, (h3 _).1, (h3 _).2]
    exact ⟨rfl, rfl⟩
theorem s84_eq (l : Sl FluxRow) (y : Span) (h0 : 0 < l.len) (hn : l.len ≤ 9223372036854775807) : p84 l y = true ∧ s84 l y = abv l y := by
  have e1 : p107 y l = true ∧ s107 y l = ((jL l y.Low : Nat) : Int) := s107_eq y l hn
  have e2 : p107a y l = true ∧ s107a y l = ((jH l y.High : Nat) : Int) := s107a_eq y l hn
  have b1 : jL l y.Low ≤ l.len := fst_le _ _
  have b2 : jH l y.High ≤ l.len := fst_le _ _
  have h3 : ∀ a, p84_at1 l y a = true ∧ s84_at1 l y a = ⟨abvL l y.High, a⟩ := by
    intro a
    unfold p84_at1 s84_at1 abvL
    by_cases h : y.High = -1
    · rw [if_pos h, beq_iff_eq.2 h]; exact ⟨rfl, rfl⟩
    have h00 : (y.High == -1) = false := by simpa using h
    rw [if_neg h, h00, cond_false, cond_false]
    unfold p84_at2 s84_at2 p84_at3 s84_at3
    rw [e2.1, e2.2]
    by_cases h : jH l y.High < l.len
    · rw [if_pos h, decide_eq_true (show ((jH l y.High : Nat) : Int) < (l.len : Int) by omega), decide_eq_true (show 0 ≤ ((jH l y.High : Nat) : Int) ∧ ((jH l y.High : Nat) : Int) < (l.len : Int) by omega), Int.toNat_natCast]
      exact ⟨rfl, rfl⟩
    · rw [if_neg h, decide_eq_false (show ¬ ((jH l y.High : Nat) : Int) < (l.len : Int) by omega)]
      exact ⟨rfl, rfl⟩
  unfold p84 s84 abv
  rw [e1.1, e1.2, decide_eq_true (show 0 ≤ (0 : Int) ∧ (0 : Int) < (l.len : Int) by omega)]
  unfold p84_at0 s84_at0 abvH
  by_cases h : 0 < jL l y.Low
  · have e3 : w64 (((jL l y.Low : Nat) : Int) - 1) = ((jL l y.Low - 1 : Nat) : Int) := by rw [w64_id (by omega) (by omega)]; omega
    rw [if_pos h, decide_eq_true (show ((jL l y.Low : Nat) : Int) > 0 by omega), e3, Int.toNat_natCast, decide_eq_true (show 0 ≤ ((jL l y.Low - 1 : Nat) : Int) ∧ ((jL l y.Low - 1 : Nat) : Int) < (l.len : Int) by omega), (h3 _).1, cond_true, (h3 _).2]
    exact ⟨rfl, rfl⟩
  · rw [if_neg h, decide_eq_false (show ¬ ((jL l y.Low : Nat) : Int) > 0 by omega), cond_false, cond_false, (h3 _).1, (h3 _).2]
    exact ⟨rfl, rfl⟩
def Fine (s : Sky) (t : Sl RangeRow) (bin x : Int) : Prop := SOk s ∧ TOk t ∧ (0 ≤ bin ∧ bin < (s.Bins.len : Int)) ∧ (0 ≤ x ∧ x ≤ 1000000)
theorem Fine.b {s : Sky} {t : Sl RangeRow} {bin x : Int} (h : Fine s t bin x) : BOk s.Parts (s.Bins.get bin.toNat) := h.1.2 _ (by have := h.2.2.1; omega)
theorem s65_g (s : Sky) (t : Sl RangeRow) (bin x : Int) : (s65 s t bin x).1.Sky = s ∧ (s65 s t bin x).1.table = t := by
  unfold s65
  cases s75 s <;> cases s62 t <;> cases s63 bin 0 (w64 ((s.Bins.len : Int) - 1)) <;> exact ⟨rfl, rfl⟩
theorem s65_ok (s : Sky) (t : Sl RangeRow) (bin x : Int) (hs : SL s) (ht : t.len ≤ 9223372036854775807) : p65 s t bin x = true ∧ ((s65 s t bin x).2 = true ↔ Fine s t bin x) := by
  obtain ⟨h1, h2⟩ := s75_ok s hs
  obtain ⟨h3, h4⟩ := s62_ok t ht
  have h5 := hs.1
  unfold p65 s65 Fine
  rw [h1, h3, s63_eq, s63_eq, w64_id (by omega) (by omega), ← h2, ← h4]
  cases s75 s
  · exact ⟨rfl, ⟨fun h => absurd h Bool.false_ne_true, fun h => absurd h.1 Bool.false_ne_true⟩⟩
  cases s62 t
  · exact ⟨rfl, ⟨fun h => absurd h Bool.false_ne_true, fun h => absurd h.2.1 Bool.false_ne_true⟩⟩
  refine ⟨rfl, ?_⟩
  by_cases h : 0 ≤ bin ∧ bin ≤ (s.Bins.len : Int) - 1
  · rw [decide_eq_true h]
    simp only [cond_true, decide_eq_true_eq]
    exact ⟨fun h6 => ⟨trivial, trivial, by omega, h6⟩, fun h6 => h6.2.2.2⟩
  · rw [decide_eq_false h]
    exact ⟨fun h => absurd h Bool.false_ne_true, fun h6 => absurd (show 0 ≤ bin ∧ bin ≤ (s.Bins.len : Int) - 1 by have := h6.2.2.1; omega) h⟩
theorem s66_eq {s : Sky} {t : Sl RangeRow} {bin x : Int} (h : Fine s t bin x) : p66 s t bin x = true ∧ s66 s t bin x = expd s t bin x := by
  obtain ⟨h1, h2⟩ := s64_eq t x h.2.1
  have hb := h.b
  obtain ⟨h3, h4⟩ := s84_eq (s.Bins.get bin.toNat) (thr t x) (by have := hb.1; omega) (by have := hb.1; omega)
  unfold p66 s66 expd
  rw [h1, h2, h3, h4, decide_eq_true h.2.2.1]
  exact ⟨rfl, rfl⟩
theorem s20_ok (s : Sky) (t : Sl RangeRow) (bin x : Int) (hs : SL s) (ht : t.len ≤ 9223372036854775807) : p20 s t bin x = true ∧ (Fine s t bin x → s20 s t bin x = (expd s t bin x, 0)) ∧ (¬ Fine s t bin x → s20 s t bin x = (⟨0, 0⟩, 2)) := by
  obtain ⟨h1, h2⟩ := s65_ok s t bin x hs ht
  obtain ⟨e1, e2⟩ := s65_g s t bin x
  unfold p20 s20
  rw [h1, e1, e2]
  by_cases h : Fine s t bin x
  · rw [h2.2 h, (s66_eq h).1, (s66_eq h).2]
    exact ⟨rfl, fun _ => rfl, fun h3 => absurd h h3⟩
  · have h3 : (s65 s t bin x).2 = false := by
      cases e : (s65 s t bin x).2
      · rfl
      · exact absurd (h2.1 e) h
    rw [h3]
    exact ⟨rfl, fun h3 => absurd h3 h, fun _ => rfl⟩
theorem s19_ok (t : Sl RangeRow) (x : Int) (ht : t.len ≤ 9223372036854775807) : p19 t x = true ∧ (TOk t ∧ 0 ≤ x ∧ x ≤ 1000000 → s19 t x = (thr t x, 0)) ∧ (¬ (TOk t ∧ 0 ≤ x ∧ x ≤ 1000000) → s19 t x = (⟨0, 0⟩, 2)) := by
  obtain ⟨h1, h2⟩ := s62_ok t ht
  unfold p19 s19
  rw [h1, s63_eq]
  by_cases hk : TOk t
  · rw [h2.2 hk, (s64_eq t x hk).1, (s64_eq t x hk).2]
    by_cases h : 0 ≤ x ∧ x ≤ 1000000
    · rw [decide_eq_true h]
      exact ⟨rfl, fun _ => rfl, fun h3 => absurd ⟨hk, h⟩ h3⟩
    · rw [decide_eq_false h]
      exact ⟨rfl, fun h3 => absurd h3.2 h, fun _ => rfl⟩
  · have h3 : s62 t = false := by
      cases e : s62 t
      · rfl
      · exact absurd (h2.1 e) hk
    rw [h3]
    exact ⟨rfl, fun h3 => absurd h3.1 hk, fun _ => rfl⟩
theorem t_mono {t : Sl RangeRow} (h : ∀ i, i < t.len → TRow t i) : ∀ d i, i + d < t.len → (0 < d → (t.get i).Energy < (t.get (i + d)).Energy) ∧ (t.get i).Range.Low ≤ (t.get (i + d)).Range.Low ∧ (t.get i).Range.High ≤ (t.get (i + d)).Range.High := by
  intro d
  induction d with
  | zero => intro i hi; exact ⟨fun h => absurd h (by omega), Int.le_refl _, Int.le_refl _⟩
  | succ d ih =>
    intro i hi
    obtain ⟨h1, h2, h3⟩ := ih i (by omega)
    obtain ⟨_, _, h4⟩ := h (i + (d + 1)) hi
    have e : i + (d + 1) - 1 = i + d := by omega
    rw [e] at h4
    have h4 := h4.resolve_left (by omega)
    refine ⟨fun _ => ?_, by omega, by omega⟩
    by_cases hd : 0 < d
    · have := h1 hd; omega
    · have : d = 0 := by omega
      subst this; exact h4.1
theorem t_e {t : Sl RangeRow} (h : TOk t) {i j : Nat} (hij : i < j) (hj : j < t.len) : (t.get i).Energy < (t.get j).Energy := by
  have := (t_mono h.2 (j - i) i (by omega)).1 (by omega)
  rwa [show i + (j - i) = j by omega] at this
theorem t_low {t : Sl RangeRow} (h : TOk t) {i j : Nat} (hij : i ≤ j) (hj : j < t.len) : (t.get i).Range.Low ≤ (t.get j).Range.Low := by
  have := (t_mono h.2 (j - i) i (by omega)).2.1
  rwa [show i + (j - i) = j by omega] at this
theorem t_high {t : Sl RangeRow} (h : TOk t) {i j : Nat} (hij : i ≤ j) (hj : j < t.len) : (t.get i).Range.High ≤ (t.get j).Range.High := by
  have := (t_mono h.2 (j - i) i (by omega)).2.2
  rwa [show i + (j - i) = j by omega] at this
theorem b_mono {parts : Int} {t : Sl FluxRow} (h : ∀ i, i < t.len → BRow parts t i) : ∀ d i, i + d < t.len → (0 < d → (t.get i).Energy < (t.get (i + d)).Energy) ∧ (t.get (i + d)).Rate.Low ≤ (t.get i).Rate.Low ∧ (t.get (i + d)).Rate.High ≤ (t.get i).Rate.High := by
  intro d
  induction d with
  | zero => intro i hi; exact ⟨fun h => absurd h (by omega), Int.le_refl _, Int.le_refl _⟩
  | succ d ih =>
    intro i hi
    obtain ⟨h1, h2, h3⟩ := ih i (by omega)
    obtain ⟨_, _, h4⟩ := h (i + (d + 1)) hi
    have e : i + (d + 1) - 1 = i + d := by omega
    rw [e] at h4
    have h4 := h4.resolve_left (by omega)
    refine ⟨fun _ => ?_, by omega, by omega⟩
    by_cases hd : 0 < d
    · have := h1 hd; omega
    · have : d = 0 := by omega
      subst this; exact h4.1
theorem b_e {parts : Int} {t : Sl FluxRow} (h : BOk parts t) {i j : Nat} (hij : i < j) (hj : j < t.len) : (t.get i).Energy < (t.get j).Energy := by
  have := (b_mono h.2.2 (j - i) i (by omega)).1 (by omega)
  rwa [show i + (j - i) = j by omega] at this
theorem b_low {parts : Int} {t : Sl FluxRow} (h : BOk parts t) {i j : Nat} (hij : i ≤ j) (hj : j < t.len) : (t.get j).Rate.Low ≤ (t.get i).Rate.Low := by
  have := (b_mono h.2.2 (j - i) i (by omega)).2.1
  rwa [show i + (j - i) = j by omega] at this
theorem b_high {parts : Int} {t : Sl FluxRow} (h : BOk parts t) {i j : Nat} (hij : i ≤ j) (hj : j < t.len) : (t.get j).Rate.High ≤ (t.get i).Rate.High := by
  have := (b_mono h.2.2 (j - i) i (by omega)).2.2
  rwa [show i + (j - i) = j by omega] at this
end Go.Proofs
namespace Go.Proofs
open Go Go.Pm
set_option linter.unusedVariables false
theorem s49_eq (t : Sl RangeRow) (x : Int) (hk : TOk t) : p49 t x = true ∧ s49 t x = thr t x := by
  have hn : t.len ≤ 9223372036854775807 := by have := hk.1.2; omega
  unfold p49 s49 thr
  by_cases h0 : x = 0
  · rw [if_pos h0, beq_iff_eq.2 h0]; exact ⟨rfl, rfl⟩
  have h00 : (x == 0) = false := by simpa using h0
  rw [if_neg h0, h00, cond_false, cond_false]
  have hb : ∀ a, p49_at2 t x a = true ∧ s49_at2 t x a = ⟨a, thrH t x⟩ := by
    intro a
    refine bwd_loop (γ := Span) (c := fun i => decide ((t.get i).Range.Low ≥ x)) (v := fun i => (t.get i).Energy) (E := fun b => ⟨a, b⟩) (EP := fun _ => true) (n := t.len) (lpS := fun k i b => s49_lp3 t x k i a b) (lpP := fun k i b => p49_lp3 t x k i a b) ?_ ?_ ?_ ?_ hn (-1)
    · intro k i b hi
      show s49_st3 t x (s49_lp3 t x k) i a b = _
      unfold s49_st3
      rw [decide_eq_true (by omega), Int.toNat_natCast]; rfl
    · intro k b
      show s49_st3 t x (s49_lp3 t x k) (-1) a b = _
      unfold s49_st3
      rw [decide_eq_false (by omega)]; rfl
    · intro k i b hi
      show p49_st3 t x (p49_lp3 t x k) i a b = _
      unfold p49_st3
      have e4 : decide (0 ≤ (i : Int) ∧ (i : Int) < (t.len : Int)) = true := decide_eq_true (by omega)
      rw [decide_eq_true (by omega), e4, Int.toNat_natCast]
      simp only [Bool.true_and, cond_true]
    · intro k b
      show p49_st3 t x (p49_lp3 t x k) (-1) a b = _
      unfold p49_st3
      rw [decide_eq_false (by omega)]; rfl
  have hf := fwd_loop (c := fun i => decide ((t.get i).Range.High < x)) (v := fun i => w64 ((t.get i).Energy + 1)) (E := fun a => s49_at2 t x a) (EP := fun a => p49_at2 t x a) (n := t.len) (lpS := s49_lp1 t x) (lpP := p49_lp1 t x)
    (by
      intro k i b hi
      show s49_st1 t x (s49_lp1 t x k) i b = _
      unfold s49_st1
      rw [decide_eq_true (by omega), Int.toNat_natCast]; rfl)
    (by
      intro k b
      show s49_st1 t x (s49_lp1 t x k) _ b = _
      unfold s49_st1
      rw [decide_eq_false (by omega)]; rfl)
    (by
      intro k i b hi
      show p49_st1 t x (p49_lp1 t x k) i b = _
      unfold p49_st1
      have e4 : decide (0 ≤ (i : Int) ∧ (i : Int) < (t.len : Int)) = true := decide_eq_true (by omega)
      rw [decide_eq_true (by omega), e4, Int.toNat_natCast]
      simp only [Bool.true_and, cond_true])
    (by
      intro k b
      show p49_st1 t x (p49_lp1 t x k) _ b = _
      unfold p49_st1
      rw [decide_eq_false (by omega)]; rfl) hn 1
  have hl : lastF (fun i => decide ((t.get i).Range.High < x)) (fun i => w64 ((t.get i).Energy + 1)) t.len 1 = thrL t x := by
    rw [last_fst (d := fun i => decide ((t.get i).Range.High ≥ x)) (fun i hi => by
        show decide ((t.get i).Range.High ≥ x) = !decide ((t.get i).Range.High < x)
        rw [← decide_not]; exact decide_eq_decide.2 (by omega)) (fun i j h1 h2 h3 => by
        have := t_high hk h1 h2
        have := of_decide_eq_true h3
        exact decide_eq_true (by omega))]
    unfold thrL
    show (if 0 < kH t x then w64 ((t.get (kH t x - 1)).Energy + 1) else 1) = _
    by_cases h : 0 < kH t x
    · have b1 : kH t x ≤ t.len := fst_le _ _
      have hr := hk.2 (kH t x - 1) (by omega)
      unfold TRow at hr
      rw [if_pos h, if_pos h]
      exact w64_id (by omega) (by omega)
    · rw [if_neg h, if_neg h]
  have r1 := hf.1.trans (hb _).1
  have r2 := hf.2.trans (hb _).2
  rw [hl] at r2
  exact ⟨r1, r2⟩
theorem s46_eq {parts : Int} (l : Sl FluxRow) (y : Span) (hk : BOk parts l) (hy : 1 ≤ y.Low) : p46 l y = true ∧ s46 l y = abv l y := by
  have hn : l.len ≤ 9223372036854775807 := by have := hk.1.2; omega
  have hb : ∀ a, p46_at1 l y a = true ∧ s46_at1 l y a = ⟨abvL l y.High, a⟩ := by
    intro a
    unfold abvL
    by_cases hh : y.High = -1
    · rw [if_pos hh]
      obtain ⟨k, hkk⟩ : ∃ k, Fuel = k + 1 := ⟨Fuel - 1, by simp only [Fuel]⟩
      unfold p46_at1 s46_at1 p46_at2 s46_at2
      rw [hkk]
      show p46_st2 l y (p46_lp2 l y k) _ _ _ = true ∧ s46_st2 l y (s46_lp2 l y k) _ _ _ = _
      have hne : (y.High != -1) = false := by simp [hh]
      unfold p46_st2 s46_st2
      rw [hne]
      cases decide (w64 ((l.len : Int) - 1) ≥ 0) <;> exact ⟨rfl, rfl⟩
    · rw [if_neg hh]
      have hne : (y.High != -1) = true := by simp [hh]
      refine bwd_loop (γ := Span) (c := fun i => decide ((l.get i).Energy ≥ y.High)) (v := fun i => (l.get i).Rate.Low) (E := fun b => ⟨b, a⟩) (EP := fun _ => true) (n := l.len) (lpS := fun k i b => s46_lp2 l y k i b a) (lpP := fun k i b => p46_lp2 l y k i b a) ?_ ?_ ?_ ?_ hn 0
      · intro k i b hi
        show s46_st2 l y (s46_lp2 l y k) i b a = _
        unfold s46_st2
        rw [decide_eq_true (by omega), Int.toNat_natCast, hne]; rfl
      · intro k b
        show s46_st2 l y (s46_lp2 l y k) (-1) b a = _
        unfold s46_st2
        rw [decide_eq_false (by omega)]; rfl
      · intro k i b hi
        show p46_st2 l y (p46_lp2 l y k) i b a = _
        unfold p46_st2
        have e4 : decide (0 ≤ (i : Int) ∧ (i : Int) < (l.len : Int)) = true := decide_eq_true (by omega)
        rw [decide_eq_true (by omega), e4, Int.toNat_natCast, hne]
        simp only [Bool.true_and, cond_true]
      · intro k b
        show p46_st2 l y (p46_lp2 l y k) (-1) b a = _
        unfold p46_st2
        rw [decide_eq_false (by omega)]; rfl
  have hf := fwd_loop (c := fun i => decide ((l.get i).Energy ≤ y.Low)) (v := fun i => (l.get i).Rate.High) (E := fun a => s46_at1 l y a) (EP := fun a => p46_at1 l y a) (n := l.len) (lpS := s46_lp0 l y) (lpP := p46_lp0 l y)
    (by
      intro k i b hi
      show s46_st0 l y (s46_lp0 l y k) i b = _
      unfold s46_st0
      rw [decide_eq_true (by omega), Int.toNat_natCast]; rfl)
    (by
      intro k b
      show s46_st0 l y (s46_lp0 l y k) _ b = _
      unfold s46_st0
      rw [decide_eq_false (by omega)]; rfl)
    (by
      intro k i b hi
      show p46_st0 l y (p46_lp0 l y k) i b = _
      unfold p46_st0
      have e4 : decide (0 ≤ (i : Int) ∧ (i : Int) < (l.len : Int)) = true := decide_eq_true (by omega)
      rw [decide_eq_true (by omega), e4, Int.toNat_natCast]
      simp only [Bool.true_and, cond_true])
    (by
      intro k b
      show p46_st0 l y (p46_lp0 l y k) _ b = _
      unfold p46_st0
      rw [decide_eq_false (by omega)]; rfl) hn 0
  have hl : lastF (fun i => decide ((l.get i).Energy ≤ y.Low)) (fun i => (l.get i).Rate.High) l.len 0 = abvH l y.Low := by
    rw [last_fst (d := fun i => decide ((l.get i).Energy > y.Low)) (fun i hi => by
        show decide ((l.get i).Energy > y.Low) = !decide ((l.get i).Energy ≤ y.Low)
        rw [← decide_not]; exact decide_eq_decide.2 (by omega)) (fun i j h1 h2 h3 => by
        have := of_decide_eq_true h3
        by_cases e : i = j
        · exact decide_eq_true (by rw [← e]; omega)
        · have := b_e hk (show i < j by omega) h2
          exact decide_eq_true (by omega))]
    unfold abvH
    show (if 0 < jL l y.Low then (l.get (jL l y.Low - 1)).Rate.High else 0) = _
    have h : 0 < jL l y.Low := by
      have b1 : jL l y.Low ≤ l.len := fst_le _ _
      have := hk.1.1
      rcases Nat.eq_zero_or_pos (jL l y.Low) with h | h
      · have := of_decide_eq_true (fst_hi (c := fun i => decide ((l.get i).Energy > y.Low)) (n := l.len) (show jL l y.Low < l.len by omega))
        have h2 : fst (fun i => decide ((l.get i).Energy > y.Low)) l.len = 0 := h
        rw [h2, hk.2.1] at this
        omega
      · exact h
    rw [if_pos h, if_pos h]
  have r1 := hf.1.trans (hb _).1
  have r2 := hf.2.trans (hb _).2
  rw [hl] at r2
  exact ⟨r1, r2⟩
theorem thr_low {t : Sl RangeRow} (x : Int) (hk : TOk t) : 1 ≤ (thr t x).Low := by
  unfold thr
  by_cases h0 : x = 0
  · rw [if_pos h0]; exact Int.le_refl _
  rw [if_neg h0]
  show 1 ≤ thrL t x
  unfold thrL
  by_cases h : 0 < kH t x
  · have b1 : kH t x ≤ t.len := fst_le _ _
    have hr := hk.2 (kH t x - 1) (by omega)
    unfold TRow at hr
    rw [if_pos h]; omega
  · rw [if_neg h]; exact Int.le_refl _
theorem s47_eq {s : Sky} {t : Sl RangeRow} {bin x : Int} (h : Fine s t bin x) : p47 s t bin x = true ∧ s47 s t bin x = expd s t bin x := by
  obtain ⟨h1, h2⟩ := s49_eq t x h.2.1
  obtain ⟨h3, h4⟩ := s46_eq (s.Bins.get bin.toNat) (thr t x) h.b (thr_low x h.2.1)
  unfold p47 s47 expd
  rw [h1, h2, h3, h4, decide_eq_true h.2.2.1]
  exact ⟨rfl, rfl⟩
end Go.Proofs
namespace Go.Proofs
open Go Go.Pm
set_option linter.unusedVariables false
def rL (t : Sl RangeRow) (e : Int) : Nat := fst (fun i => decide ((t.get i).Energy > e)) t.len
def rH (t : Sl RangeRow) (e : Int) : Nat := fst (fun i => decide ((t.get i).Energy ≥ e)) t.len
def rch (t : Sl RangeRow) (e : Int) : Span := ⟨if 0 < rL t e then (t.get (rL t e - 1)).Range.Low else 0, if rH t e < t.len then (t.get (rH t e)).Range.High else 1000000⟩
theorem s42_ok (t : Sl RangeRow) (e : Int) (ht : t.len ≤ 9223372036854775807) : p42 t e = true ∧ (TOk t ∧ 1 ≤ e ∧ e ≤ 1000000 → s42 t e = (rch t e, 0)) ∧ (¬ (TOk t ∧ 1 ≤ e ∧ e ≤ 1000000) → s42 t e = (⟨0, 0⟩, 2)) := by
  obtain ⟨h1, h2⟩ := s62_ok t ht
  have e1 : p81b e t = true ∧ s81b e t = ((rL t e : Nat) : Int) := s81b_eq e t ht
  have e2 : p81c e t = true ∧ s81c e t = ((rH t e : Nat) : Int) := s81c_eq e t ht
  have b1 : rL t e ≤ t.len := fst_le _ _
  have b2 : rH t e ≤ t.len := fst_le _ _
  have h3 : ∀ a, p42_at3 t e a = true ∧ s42_at3 t e a = (⟨a, if rH t e < t.len then (t.get (rH t e)).Range.High else 1000000⟩, 0) := by
    intro a
    unfold p42_at3 s42_at3 p42_at4 s42_at4
    rw [e2.1, e2.2]
    by_cases h : rH t e < t.len
    · rw [if_pos h, decide_eq_true (show ((rH t e : Nat) : Int) < (t.len : Int) by omega), decide_eq_true (show 0 ≤ ((rH t e : Nat) : Int) ∧ ((rH t e : Nat) : Int) < (t.len : Int) by omega), Int.toNat_natCast]
      exact ⟨rfl, rfl⟩
    · rw [if_neg h, decide_eq_false (show ¬ ((rH t e : Nat) : Int) < (t.len : Int) by omega)]
      exact ⟨rfl, rfl⟩
  have h4 : p42_at1 t e = true ∧ s42_at1 t e = (rch t e, 0) := by
    unfold p42_at1 s42_at1 p42_at2 s42_at2 rch
    rw [e1.1, e1.2]
    by_cases h : 0 < rL t e
    · have e3 : w64 (((rL t e : Nat) : Int) - 1) = ((rL t e - 1 : Nat) : Int) := by rw [w64_id (by omega) (by omega)]; omega
      rw [if_pos h, decide_eq_true (show ((rL t e : Nat) : Int) > 0 by omega), e3, Int.toNat_natCast, decide_eq_true (show 0 ≤ ((rL t e - 1 : Nat) : Int) ∧ ((rL t e - 1 : Nat) : Int) < (t.len : Int) by omega), (h3 _).1, cond_true, (h3 _).2]
      exact ⟨rfl, rfl⟩
    · rw [if_neg h, decide_eq_false (show ¬ ((rL t e : Nat) : Int) > 0 by omega), cond_false, cond_false, (h3 _).1, (h3 _).2]
      exact ⟨rfl, rfl⟩
  unfold p42 s42 p42_at0 s42_at0
  rw [h1, s63_eq, h4.1, h4.2]
  by_cases hk : TOk t
  · rw [h2.2 hk]
    by_cases h : 1 ≤ e ∧ e ≤ 1000000
    · rw [decide_eq_true h]
      exact ⟨rfl, fun _ => rfl, fun h3 => absurd ⟨hk, h⟩ h3⟩
    · rw [decide_eq_false h]
      exact ⟨rfl, fun h3 => absurd h3.2 h, fun _ => rfl⟩
  · have h3 : s62 t = false := by
      cases e : s62 t
      · rfl
      · exact absurd (h2.1 e) hk
    rw [h3]
    exact ⟨rfl, fun h3 => absurd h3.1 hk, fun _ => rfl⟩
end Go.Proofs
namespace Go.Proofs
open Go Go.Pm
set_option linter.unusedVariables false
theorem s50_eq (t : Sl RangeRow) (x : Int) (hk : TOk t) : p50 t x = true ∧ s50 t x = rch t x := by
  have hn : t.len ≤ 9223372036854775807 := by have := hk.1.2; omega
  have hb : ∀ a, p50_at1 t x a = true ∧ s50_at1 t x a = ⟨a, if rH t x < t.len then (t.get (rH t x)).Range.High else 1000000⟩ := by
    intro a
    refine bwd_loop (γ := Span) (c := fun i => decide ((t.get i).Energy ≥ x)) (v := fun i => (t.get i).Range.High) (E := fun b => ⟨a, b⟩) (EP := fun _ => true) (n := t.len) (lpS := fun k i b => s50_lp2 t x k i a b) (lpP := fun k i b => p50_lp2 t x k i a b) ?_ ?_ ?_ ?_ hn 1000000
    · intro k i b hi
      show s50_st2 t x (s50_lp2 t x k) i a b = _
      unfold s50_st2
      rw [decide_eq_true (by omega), Int.toNat_natCast]; rfl
    · intro k b
      show s50_st2 t x (s50_lp2 t x k) (-1) a b = _
      unfold s50_st2
      rw [decide_eq_false (by omega)]; rfl
    · intro k i b hi
      show p50_st2 t x (p50_lp2 t x k) i a b = _
      unfold p50_st2
      have e4 : decide (0 ≤ (i : Int) ∧ (i : Int) < (t.len : Int)) = true := decide_eq_true (by omega)
      rw [decide_eq_true (by omega), e4, Int.toNat_natCast]
      simp only [Bool.true_and, cond_true]
    · intro k b
      show p50_st2 t x (p50_lp2 t x k) (-1) a b = _
      unfold p50_st2
      rw [decide_eq_false (by omega)]; rfl
  have hf := fwd_loop (c := fun i => decide ((t.get i).Energy ≤ x)) (v := fun i => (t.get i).Range.Low) (E := fun a => s50_at1 t x a) (EP := fun a => p50_at1 t x a) (n := t.len) (lpS := s50_lp0 t x) (lpP := p50_lp0 t x)
    (by
      intro k i b hi
      show s50_st0 t x (s50_lp0 t x k) i b = _
      unfold s50_st0
      rw [decide_eq_true (by omega), Int.toNat_natCast]; rfl)
    (by
      intro k b
      show s50_st0 t x (s50_lp0 t x k) _ b = _
      unfold s50_st0
      rw [decide_eq_false (by omega)]; rfl)
    (by
      intro k i b hi
      show p50_st0 t x (p50_lp0 t x k) i b = _
      unfold p50_st0
      have e4 : decide (0 ≤ (i : Int) ∧ (i : Int) < (t.len : Int)) = true := decide_eq_true (by omega)
      rw [decide_eq_true (by omega), e4, Int.toNat_natCast]
      simp only [Bool.true_and, cond_true])
    (by
      intro k b
      show p50_st0 t x (p50_lp0 t x k) _ b = _
      unfold p50_st0
      rw [decide_eq_false (by omega)]; rfl) hn 0
  have hl : lastF (fun i => decide ((t.get i).Energy ≤ x)) (fun i => (t.get i).Range.Low) t.len 0 = if 0 < rL t x then (t.get (rL t x - 1)).Range.Low else 0 := by
    exact last_fst (d := fun i => decide ((t.get i).Energy > x)) (fun i hi => by
        show decide ((t.get i).Energy > x) = !decide ((t.get i).Energy ≤ x)
        rw [← decide_not]; exact decide_eq_decide.2 (by omega)) (fun i j h1 h2 h3 => by
        have := of_decide_eq_true h3
        by_cases e : i = j
        · exact decide_eq_true (by rw [← e]; omega)
        · have := t_e hk (show i < j by omega) h2
          exact decide_eq_true (by omega))
  have r1 := hf.1.trans (hb _).1
  have r2 := hf.2.trans (hb _).2
  rw [hl] at r2
  exact ⟨r1, r2⟩
theorem reach13 {t : Sl RangeRow} {x e : Int} (hk : TOk t) (hx : 0 ≤ x ∧ x ≤ 1000000) (he : 1 ≤ e ∧ e ≤ 1000000) : x ≤ (rch t e).High ↔ (thr t x).Low ≤ e := by
  have b1 : kH t x ≤ t.len := fst_le _ _
  have b2 : rH t e ≤ t.len := fst_le _ _
  have hlen := hk.1.1
  show x ≤ (if rH t e < t.len then (t.get (rH t e)).Range.High else 1000000) ↔ _
  have hpos : ∀ i, i < t.len → 0 ≤ (t.get i).Range.High := fun i hi => by have := hk.2 i hi; unfold TRow at this; omega
  have khi : kH t x < t.len → (t.get (kH t x)).Range.High ≥ x := fun h => of_decide_eq_true (fst_hi (c := fun i => decide ((t.get i).Range.High ≥ x)) h)
  have klo : ∀ j, j < kH t x → (t.get j).Range.High < x := fun j h => by have := of_decide_eq_false (fst_lo (c := fun i => decide ((t.get i).Range.High ≥ x)) (n := t.len) h); omega
  have rhi : rH t e < t.len → (t.get (rH t e)).Energy ≥ e := fun h => of_decide_eq_true (fst_hi (c := fun i => decide ((t.get i).Energy ≥ e)) h)
  have rlo : ∀ j, j < rH t e → (t.get j).Energy < e := fun j h => by have := of_decide_eq_false (fst_lo (c := fun i => decide ((t.get i).Energy ≥ e)) (n := t.len) h); omega
  unfold thr
  by_cases h0 : x = 0
  · rw [if_pos h0]
    refine ⟨fun _ => he.1, fun _ => ?_⟩
    by_cases h : rH t e < t.len
    · rw [if_pos h, h0]; exact hpos _ h
    · rw [if_neg h]; omega
  rw [if_neg h0]
  show _ ↔ thrL t x ≤ e
  unfold thrL
  by_cases hc : kH t x ≤ rH t e
  · have l : x ≤ (if rH t e < t.len then (t.get (rH t e)).Range.High else 1000000) := by
      by_cases h : rH t e < t.len
      · rw [if_pos h]
        have := khi (by omega)
        have := t_high hk hc h
        omega
      · rw [if_neg h]; omega
    have r : (if 0 < kH t x then (t.get (kH t x - 1)).Energy + 1 else 1) ≤ e := by
      by_cases h : 0 < kH t x
      · rw [if_pos h]
        have := rlo (kH t x - 1) (by omega)
        omega
      · rw [if_neg h]; omega
    exact ⟨fun _ => r, fun _ => l⟩
  · have l : ¬ x ≤ (if rH t e < t.len then (t.get (rH t e)).Range.High else 1000000) := by
      rw [if_pos (by omega)]
      have := klo (rH t e) (by omega)
      omega
    have r : ¬ (if 0 < kH t x then (t.get (kH t x - 1)).Energy + 1 else 1) ≤ e := by
      rw [if_pos (by omega)]
      have h1 := rhi (by omega)
      by_cases h : rH t e = kH t x - 1
      · rw [← h]; omega
      · have := t_e hk (show rH t e < kH t x - 1 by omega) (by omega)
        omega
    exact ⟨fun h => absurd h l, fun h => absurd h r⟩
theorem at7_13 (t : Sl RangeRow) (x e : Int) (hk : TOk t) (deep fast : Bool) (hd : deep = true ↔ 0 ≤ x ∧ x ≤ 1000000) (hf : fast = true ↔ 1 ≤ e ∧ e ≤ 1000000) :
    p13_at7 t x e (s19 t x).2 (s19 t x).1.Low (s19 t x).1.High (s42 t e).2 (s42 t e).1.Low (s42 t e).1.High deep fast = true ∧
    s13_at7 t x e (s19 t x).2 (s19 t x).1.Low (s19 t x).1.High (s42 t e).2 (s42 t e).1.Low (s42 t e).1.High deep fast = true := by
  have hn : t.len ≤ 9223372036854775807 := by have := hk.1.2; omega
  obtain ⟨_, a1, a2⟩ := s19_ok t x hn
  obtain ⟨_, b1, b2⟩ := s42_ok t e hn
  have h10 : ∀ a c, (deep = true → fast = true → (x ≤ c ↔ a ≤ e)) → ∀ a' c', s13_at11 x e a a' c' c deep fast = true := by
    intro a c h a' c'
    unfold s13_at11
    cases deep
    · rfl
    cases fast
    · rfl
    have h := h rfl rfl
    simp only [cond_true]
    rw [show decide (x ≤ c) = decide (a ≤ e) from decide_eq_decide.2 h]
    cases decide (a ≤ e) <;> rfl
  have h8 : ∀ a a', (deep = true → a = (thr t x).Low) → p13_at9 t x e a a' (s42 t e).2 (s42 t e).1.Low (s42 t e).1.High deep fast = true ∧ s13_at9 t x e a a' (s42 t e).2 (s42 t e).1.Low (s42 t e).1.High deep fast = true := by
    intro a a' ha
    unfold p13_at9 s13_at9 s13_at10
    by_cases he : 1 ≤ e ∧ e ≤ 1000000
    · have hff := hf.2 he
      subst hff
      rw [b1 ⟨hk, he⟩, (s50_eq t e hk).1, (s50_eq t e hk).2]
      have := h10 a (rch t e).High (fun h1 _ => by rw [ha h1]; exact reach13 hk (hd.1 h1) he) a' (rch t e).Low
      simpa using this
    · have hff : fast = false := by
        cases fast
        · rfl
        · exact absurd (hf.1 rfl) he
      subst hff
      rw [b2 fun h => he h.2]
      have := h10 a 0 (fun _ h => absurd h Bool.false_ne_true) a' 0
      exact ⟨rfl, this⟩
  unfold p13_at7 s13_at7 p13_at8 s13_at8
  by_cases hx : 0 ≤ x ∧ x ≤ 1000000
  · have hdd := hd.2 hx
    subst hdd
    rw [a1 ⟨hk, hx⟩, (s49_eq t x hk).1, (s49_eq t x hk).2]
    have := h8 (thr t x).Low (thr t x).High (fun _ => rfl)
    simpa using this
  · have hdd : deep = false := by
      cases deep
      · rfl
      · exact absurd (hd.1 rfl) hx
    subst hdd
    rw [a2 fun h => hx h.2]
    have := h8 0 0 (fun h => absurd h Bool.false_ne_true)
    exact ⟨this.1, this.2⟩
theorem law13 (t : Sl RangeRow) (x e : Int) (hn : t.len ≤ 9223372036854775807) : p13 t x e = true ∧ s13 t x e = true := by
  unfold p13 s13
  by_cases hl : (t.len : Int) > 50
  · rw [decide_eq_true hl]; exact ⟨rfl, rfl⟩
  rw [decide_eq_false hl]
  unfold p13_at0 s13_at0 p13_at1 s13_at1 p13_at2 s13_at2 p13_at3 s13_at3 p13_at4 s13_at4 p13_at5 s13_at5
  obtain ⟨a0, _, a2⟩ := s19_ok t x hn
  obtain ⟨b0, _, b2⟩ := s42_ok t e hn
  obtain ⟨c1, c2⟩ := s17_ok t hn
  obtain ⟨d1, d2⟩ := s62_ok t hn
  have p48 : p48 t = true := by unfold p48; rw [d1]; rfl
  rw [a0, b0, c1, c2, p48]
  unfold s48 s80
  cases h : s62 t
  · have hno : ¬ TOk t := fun hk => absurd (d2.2 hk) (by rw [h]; exact Bool.false_ne_true)
    rw [a2 fun h => hno h.1, b2 fun h => hno h.1]
    exact ⟨rfl, rfl⟩
  have hk := d2.1 h
  have h6 : p13_at6 t x e (s19 t x).2 (s19 t x).1.Low (s19 t x).1.High (s42 t e).2 (s42 t e).1.Low (s42 t e).1.High = true ∧
      s13_at6 t x e (s19 t x).2 (s19 t x).1.Low (s19 t x).1.High (s42 t e).2 (s42 t e).1.Low (s42 t e).1.High = true := by
    unfold p13_at6 s13_at6
    by_cases h0 : x ≥ 0 <;> by_cases h1 : e ≥ 1
    · rw [decide_eq_true h0, decide_eq_true h1]
      exact at7_13 t x e hk _ _ (by rw [decide_eq_true_eq]; omega) (by rw [decide_eq_true_eq]; omega)
    · rw [decide_eq_true h0, decide_eq_false h1]
      exact at7_13 t x e hk _ _ (by rw [decide_eq_true_eq]; omega) ⟨fun h => absurd h Bool.false_ne_true, fun h => absurd h.1 h1⟩
    · rw [decide_eq_false h0, decide_eq_true h1]
      exact at7_13 t x e hk _ _ ⟨fun h => absurd h Bool.false_ne_true, fun h => absurd h.1 h0⟩ (by rw [decide_eq_true_eq]; omega)
    · rw [decide_eq_false h0, decide_eq_false h1]
      exact at7_13 t x e hk _ _ ⟨fun h => absurd h Bool.false_ne_true, fun h => absurd h.1 h0⟩ ⟨fun h => absurd h Bool.false_ne_true, fun h => absurd h.1 h1⟩
  exact ⟨h6.1, h6.2⟩
end Go.Proofs
