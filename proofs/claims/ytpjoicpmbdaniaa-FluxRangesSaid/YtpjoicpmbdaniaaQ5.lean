/- Part 5 of what the proof rests on: a machine that runs functions of the program on pure values, proved sound; the functions that the law reaches, and what they compute. -/
import Derived.Test.YtpjoicpmbdaniaaQ4
set_option linter.all false
namespace Go.Proofs
open Go Go.Pm
set_option maxRecDepth 100000
set_option linter.unusedVariables false
attribute [local irreducible] Go.Pm.vcFun Go.Pm.vc Go.Pm.vcIter
-- 61 overburdenlaw05.Table
abbrev T61 : Tabs := Tabs.nil
theorem okT61 : TabsOk Try.prog T61 := TabsOk.nil
abbrev G61 : Ctrs := csm T61 (fun _ _ => []) (fun _ => false)
def ann61 : Ann := ⟨8, [(0, ⟨[], [], [], [], []⟩), (1, ⟨[0], [7], [], [], []⟩)],
  [],
  [],
  [], []⟩
theorem f61_top (K : List PA → Prop) :
  vcFun Try.prog G61 ann61 61 [] K =
  (K [.one (.sl 3 3 (getL [(enc_42 (⟨(10:Int), (⟨(20:Int), (30:Int)⟩ : Span)⟩ : RangeRow)), (enc_42 (⟨(40:Int), (⟨(90:Int), (120:Int)⟩ : Span)⟩ : RangeRow)), (enc_42 (⟨(100:Int), (⟨(250:Int), (300:Int)⟩ : Span)⟩ : RangeRow))]))]) := by kernel_rfl
abbrev R61 := (Sl RangeRow)
abbrev e61 (r : (Sl RangeRow)) : List PA := [.one (.sl r.len 3 (fun i => enc_42 (r.get i)))]
def s61 : (Sl RangeRow) :=
  (⟨3, (getT (⟨(10:Int), (⟨(20:Int), (30:Int)⟩ : Span)⟩ : RangeRow) [(⟨(10:Int), (⟨(20:Int), (30:Int)⟩ : Span)⟩ : RangeRow), (⟨(40:Int), (⟨(90:Int), (120:Int)⟩ : Span)⟩ : RangeRow), (⟨(100:Int), (⟨(250:Int), (300:Int)⟩ : Span)⟩ : RangeRow)])⟩ : (Sl RangeRow))
theorem q61 (K : List PA → Prop) (hk : K (e61 (s61))) : vcFun Try.prog G61 ann61 61 [] K := by
  refine ofEq (f61_top K) ?_
  unfold s61 at hk
  exact (Eq.mpr (congrArg K (congrArg (fun (g_ : Nat → List PV) => ([.one (.sl 3 3 g_)] : List PA)) (getL_enc (enc := enc_42) (x := (⟨(10:Int), (⟨(20:Int), (30:Int)⟩ : Span)⟩ : RangeRow)) (y := (⟨(40:Int), (⟨(90:Int), (120:Int)⟩ : Span)⟩ : RangeRow)) (r := [(⟨(100:Int), (⟨(250:Int), (300:Int)⟩ : Span)⟩ : RangeRow)])))) hk)
def ctr61 : List PA → COut
  | [] => .tot [.one (.sl ((s61).len) 3 (fun i => enc_42 ((s61).get i)))]
  | _ => .no
theorem call61 : Callable Try.prog 61 := ⟨_, rfl, rfl, by kernel_rfl⟩
theorem ok61 : Ok Try.prog 61 ctr61 := ok_tab okT61 call61 fun args K h => by
  unfold ctr61 at h
  split at h
  · have hk := h
    exact ⟨(fun _ _ => []), (fun _ => false), ann61, q61 K hk⟩
  · exact h.elim
-- 18 overburdenlaw05.known
abbrev T18 : Tabs := (((((((((Tabs.nil.addF 19 ctr19).addF 20 ctr20).addF 23 ctr23).addF 25 ctr25).addF 26 ctr26).addF 33 ctr33).addF 34 ctr34).addF 60 ctr60).addF 61 ctr61)
theorem okT18 : TabsOk Try.prog T18 := (((((((((TabsOk.nil.addF ok19).addF ok20).addF ok23).addF ok25).addF ok26).addF ok33).addF ok34).addF ok60).addF ok61)
abbrev G18 : Ctrs := csm T18 (fun _ _ => []) (fun _ => false)
def ann18 : Ann := ⟨142, [(0, ⟨[], [], [], [], []⟩), (1, ⟨[1, 2], [1], [], [], []⟩), (2, ⟨[1, 2, 3, 4], [1, 3], [], [], []⟩), (3, ⟨[1, 2, 3, 4, 5, 6], [1, 3, 5], [], [], []⟩), (4, ⟨[1, 2, 3, 4, 5, 6, 7, 8], [1, 3, 5, 7], [], [], []⟩), (5, ⟨[1, 2, 3, 4, 5, 6, 7, 8, 9, 10], [1, 3, 5, 7, 9], [], [], []⟩), (6, ⟨[1, 2, 3, 4, 5, 6, 7, 8, 9, 10, 11, 12], [1, 3, 5, 7, 9], [], [], []⟩), (7, ⟨[3, 4, 5, 6, 7, 8, 9, 10, 11, 12, 13, 14], [3, 5, 7, 9, 13], [], [], []⟩), (8, ⟨[3, 5, 7, 9, 11, 13, 104], [3, 5, 7, 9, 13], [], [], []⟩), (9, ⟨[0], [], [], [], []⟩), (10, ⟨[0], [], [], [], []⟩)],
  [],
  [(2, ⟨[1, 2], [1], [], [], []⟩), (3, ⟨[1, 2, 3, 4], [1, 3], [], [], []⟩), (4, ⟨[1, 2, 3, 4, 5, 6], [1, 3, 5], [], [], []⟩), (5, ⟨[1, 2, 3, 4, 5, 6, 7, 8], [1, 3, 5, 7], [], [], []⟩), (6, ⟨[1, 2, 3, 4, 5, 6, 7, 8, 9, 10], [1, 3, 5, 7, 9], [], [], []⟩), (7, ⟨[1, 2, 3, 4, 5, 6, 7, 8, 9, 10, 11, 12], [1, 3, 5, 7, 9], [], [], []⟩), (8, ⟨[3, 4, 5, 6, 7, 8, 9, 10, 11, 12, 13, 14], [3, 5, 7, 9, 13], [], [], []⟩), (10, ⟨[3, 5, 7, 9, 11, 13], [3, 5, 7, 9, 13], [], [], []⟩)],
  [], []⟩
def f18_g0 (tv0_n : Nat) (tv0_g : Nat → List PV) (s_1v0_n : Nat) (s_1v0_g : Nat → List PV) : St := ⟨[(1, .one (.c (.ptr 1 0))), (2, .one (.c (.p (.sl tv0_n 3 tv0_g))))], [(1, .box 26 [.p (.int .i64 s60.Parts), .p (.sl s_1v0_n 1 s_1v0_g), .p (.int .i64 s60.Beta.Low), .p (.int .i64 s60.Beta.High), .p (.int .i64 s60.Alpha.Low), .p (.int .i64 s60.Alpha.High)])], []⟩
def f18_at0 (K : List PA → Prop) (tv0_n : Nat) (tv0_g : Nat → List PV) (s_1v0_n : Nat) (s_1v0_g : Nat → List PV) : Prop := vc Try.prog G18 ann18 (cdF Try.f18 [1, 1]) (bodyK Try.prog Try.f18 K) (f18_g0 tv0_n tv0_g s_1v0_n s_1v0_g)
def f18_g1 (tv0 : (Sl RangeRow)) (ev1 : Int) (s_1v1_n : Nat) (s_1v1_g : Nat → List PV) (a_0v1 : Int) (a_1v1 : Int) : St := ⟨[(1, .one (.c (.ptr 1 0))), (2, .one (.c (.p (.sl tv0.len 3 (fun i => enc_42 (tv0.get i)))))), (3, .one (.c (.ptr 3 0))), (4, .one (.c (.p (.int .i64 ev1))))], [(1, .box 26 [.p (.int .i64 s60.Parts), .p (.sl s_1v1_n 1 s_1v1_g), .p (.int .i64 s60.Beta.Low), .p (.int .i64 s60.Beta.High), .p (.int .i64 s60.Alpha.Low), .p (.int .i64 s60.Alpha.High)]), (3, .box 24 [.p (.int .i64 a_0v1), .p (.int .i64 a_1v1)])], []⟩
def f18_at1 (K : List PA → Prop) (tv0 : (Sl RangeRow)) (ev1 : Int) (s_1v1_n : Nat) (s_1v1_g : Nat → List PV) (a_0v1 : Int) (a_1v1 : Int) : Prop := vc Try.prog G18 ann18 (cdF Try.f18 [1, 1, 1]) (bodyK Try.prog Try.f18 K) (f18_g1 tv0 ev1 s_1v1_n s_1v1_g a_0v1 a_1v1)
def f18_g2 (tv0 : (Sl RangeRow)) (ev1 : Int) (a_0v1 : Int) (a_1v1 : Int) (fv2 : Int) (s_1v2_n : Nat) (s_1v2_g : Nat → List PV) (b_0v2 : Int) (b_1v2 : Int) : St := ⟨[(1, .one (.c (.ptr 1 0))), (2, .one (.c (.p (.sl tv0.len 3 (fun i => enc_42 (tv0.get i)))))), (3, .one (.c (.ptr 3 0))), (4, .one (.c (.p (.int .i64 ev1)))), (5, .one (.c (.ptr 5 0))), (6, .one (.c (.p (.int .i64 fv2))))], [(1, .box 26 [.p (.int .i64 s60.Parts), .p (.sl s_1v2_n 1 s_1v2_g), .p (.int .i64 s60.Beta.Low), .p (.int .i64 s60.Beta.High), .p (.int .i64 s60.Alpha.Low), .p (.int .i64 s60.Alpha.High)]), (3, .box 24 [.p (.int .i64 a_0v1), .p (.int .i64 a_1v1)]), (5, .box 24 [.p (.int .i64 b_0v2), .p (.int .i64 b_1v2)])], []⟩
def f18_at2 (K : List PA → Prop) (tv0 : (Sl RangeRow)) (ev1 : Int) (a_0v1 : Int) (a_1v1 : Int) (fv2 : Int) (s_1v2_n : Nat) (s_1v2_g : Nat → List PV) (b_0v2 : Int) (b_1v2 : Int) : Prop := vc Try.prog G18 ann18 (cdF Try.f18 [1, 1, 1, 1]) (bodyK Try.prog Try.f18 K) (f18_g2 tv0 ev1 a_0v1 a_1v1 fv2 s_1v2_n s_1v2_g b_0v2 b_1v2)
def f18_g3 (tv0 : (Sl RangeRow)) (ev1 : Int) (a_0v1 : Int) (a_1v1 : Int) (fv2 : Int) (b_0v2 : Int) (b_1v2 : Int) (gv3 : Int) (s_1v3_n : Nat) (s_1v3_g : Nat → List PV) (c_0v3 : Int) (c_1v3 : Int) : St := ⟨[(1, .one (.c (.ptr 1 0))), (2, .one (.c (.p (.sl tv0.len 3 (fun i => enc_42 (tv0.get i)))))), (3, .one (.c (.ptr 3 0))), (4, .one (.c (.p (.int .i64 ev1)))), (5, .one (.c (.ptr 5 0))), (6, .one (.c (.p (.int .i64 fv2)))), (7, .one (.c (.ptr 7 0))), (8, .one (.c (.p (.int .i64 gv3))))], [(1, .box 26 [.p (.int .i64 s60.Parts), .p (.sl s_1v3_n 1 s_1v3_g), .p (.int .i64 s60.Beta.Low), .p (.int .i64 s60.Beta.High), .p (.int .i64 s60.Alpha.Low), .p (.int .i64 s60.Alpha.High)]), (3, .box 24 [.p (.int .i64 a_0v1), .p (.int .i64 a_1v1)]), (5, .box 24 [.p (.int .i64 b_0v2), .p (.int .i64 b_1v2)]), (7, .box 24 [.p (.int .i64 c_0v3), .p (.int .i64 c_1v3)])], []⟩
def f18_at3 (K : List PA → Prop) (tv0 : (Sl RangeRow)) (ev1 : Int) (a_0v1 : Int) (a_1v1 : Int) (fv2 : Int) (b_0v2 : Int) (b_1v2 : Int) (gv3 : Int) (s_1v3_n : Nat) (s_1v3_g : Nat → List PV) (c_0v3 : Int) (c_1v3 : Int) : Prop := vc Try.prog G18 ann18 (cdF Try.f18 [1, 1, 1, 1, 1]) (bodyK Try.prog Try.f18 K) (f18_g3 tv0 ev1 a_0v1 a_1v1 fv2 b_0v2 b_1v2 gv3 s_1v3_n s_1v3_g c_0v3 c_1v3)
def f18_g4 (tv0 : (Sl RangeRow)) (ev1 : Int) (a_0v1 : Int) (a_1v1 : Int) (fv2 : Int) (b_0v2 : Int) (b_1v2 : Int) (gv3 : Int) (c_0v3 : Int) (c_1v3 : Int) (hv4 : Int) (s_1v4_n : Nat) (s_1v4_g : Nat → List PV) (d_0v4 : Int) (d_1v4 : Int) : St := ⟨[(1, .one (.c (.ptr 1 0))), (2, .one (.c (.p (.sl tv0.len 3 (fun i => enc_42 (tv0.get i)))))), (3, .one (.c (.ptr 3 0))), (4, .one (.c (.p (.int .i64 ev1)))), (5, .one (.c (.ptr 5 0))), (6, .one (.c (.p (.int .i64 fv2)))), (7, .one (.c (.ptr 7 0))), (8, .one (.c (.p (.int .i64 gv3)))), (9, .one (.c (.ptr 9 0))), (10, .one (.c (.p (.int .i64 hv4))))], [(1, .box 26 [.p (.int .i64 s60.Parts), .p (.sl s_1v4_n 1 s_1v4_g), .p (.int .i64 s60.Beta.Low), .p (.int .i64 s60.Beta.High), .p (.int .i64 s60.Alpha.Low), .p (.int .i64 s60.Alpha.High)]), (3, .box 24 [.p (.int .i64 a_0v1), .p (.int .i64 a_1v1)]), (5, .box 24 [.p (.int .i64 b_0v2), .p (.int .i64 b_1v2)]), (7, .box 24 [.p (.int .i64 c_0v3), .p (.int .i64 c_1v3)]), (9, .box 24 [.p (.int .i64 d_0v4), .p (.int .i64 d_1v4)])], []⟩
def f18_at4 (K : List PA → Prop) (tv0 : (Sl RangeRow)) (ev1 : Int) (a_0v1 : Int) (a_1v1 : Int) (fv2 : Int) (b_0v2 : Int) (b_1v2 : Int) (gv3 : Int) (c_0v3 : Int) (c_1v3 : Int) (hv4 : Int) (s_1v4_n : Nat) (s_1v4_g : Nat → List PV) (d_0v4 : Int) (d_1v4 : Int) : Prop := vc Try.prog G18 ann18 (cdF Try.f18 [1, 1, 1, 1, 1, 1]) (bodyK Try.prog Try.f18 K) (f18_g4 tv0 ev1 a_0v1 a_1v1 fv2 b_0v2 b_1v2 gv3 c_0v3 c_1v3 hv4 s_1v4_n s_1v4_g d_0v4 d_1v4)
def f18_g5 (tv0 : (Sl RangeRow)) (ev1 : Int) (a_0v1 : Int) (a_1v1 : Int) (fv2 : Int) (b_0v2 : Int) (b_1v2 : Int) (gv3 : Int) (c_0v3 : Int) (c_1v3 : Int) (hv4 : Int) (d_0v4 : Int) (d_1v4 : Int) (lv5_n : Nat) (lv5_g : Nat → List PV) (iv5 : Int) (s_1v5_n : Nat) (s_1v5_g : Nat → List PV) : St := ⟨[(1, .one (.c (.ptr 1 0))), (2, .one (.c (.p (.sl tv0.len 3 (fun i => enc_42 (tv0.get i)))))), (3, .one (.c (.ptr 3 0))), (4, .one (.c (.p (.int .i64 ev1)))), (5, .one (.c (.ptr 5 0))), (6, .one (.c (.p (.int .i64 fv2)))), (7, .one (.c (.ptr 7 0))), (8, .one (.c (.p (.int .i64 gv3)))), (9, .one (.c (.ptr 9 0))), (10, .one (.c (.p (.int .i64 hv4)))), (11, .one (.c (.p (.sl lv5_n 3 lv5_g)))), (12, .one (.c (.p (.int .i64 iv5))))], [(1, .box 26 [.p (.int .i64 s60.Parts), .p (.sl s_1v5_n 1 s_1v5_g), .p (.int .i64 s60.Beta.Low), .p (.int .i64 s60.Beta.High), .p (.int .i64 s60.Alpha.Low), .p (.int .i64 s60.Alpha.High)]), (3, .box 24 [.p (.int .i64 a_0v1), .p (.int .i64 a_1v1)]), (5, .box 24 [.p (.int .i64 b_0v2), .p (.int .i64 b_1v2)]), (7, .box 24 [.p (.int .i64 c_0v3), .p (.int .i64 c_1v3)]), (9, .box 24 [.p (.int .i64 d_0v4), .p (.int .i64 d_1v4)])], []⟩
def f18_at5 (K : List PA → Prop) (tv0 : (Sl RangeRow)) (ev1 : Int) (a_0v1 : Int) (a_1v1 : Int) (fv2 : Int) (b_0v2 : Int) (b_1v2 : Int) (gv3 : Int) (c_0v3 : Int) (c_1v3 : Int) (hv4 : Int) (d_0v4 : Int) (d_1v4 : Int) (lv5_n : Nat) (lv5_g : Nat → List PV) (iv5 : Int) (s_1v5_n : Nat) (s_1v5_g : Nat → List PV) : Prop := vc Try.prog G18 ann18 (cdF Try.f18 [1, 1, 1, 1, 1, 1, 1]) (bodyK Try.prog Try.f18 K) (f18_g5 tv0 ev1 a_0v1 a_1v1 fv2 b_0v2 b_1v2 gv3 c_0v3 c_1v3 hv4 d_0v4 d_1v4 lv5_n lv5_g iv5 s_1v5_n s_1v5_g)
def f18_g6 (ev1 : Int) (a_0v1 : Int) (a_1v1 : Int) (fv2 : Int) (b_0v2 : Int) (b_1v2 : Int) (gv3 : Int) (c_0v3 : Int) (c_1v3 : Int) (hv4 : Int) (d_0v4 : Int) (d_1v4 : Int) (lv5 : (Sl FluxStep)) (iv5 : Int) (jv6 : Int) (x_0v6 : Int) (x_1v6_n : Nat) (x_1v6_g : Nat → List PV) (x_2v6 : Int) (x_3v6 : Int) (x_4v6 : Int) (x_5v6 : Int) : St := ⟨[(3, .one (.c (.ptr 3 0))), (4, .one (.c (.p (.int .i64 ev1)))), (5, .one (.c (.ptr 5 0))), (6, .one (.c (.p (.int .i64 fv2)))), (7, .one (.c (.ptr 7 0))), (8, .one (.c (.p (.int .i64 gv3)))), (9, .one (.c (.ptr 9 0))), (10, .one (.c (.p (.int .i64 hv4)))), (11, .one (.c (.p (.sl lv5.len 3 (fun i => enc_69 (lv5.get i)))))), (12, .one (.c (.p (.int .i64 iv5)))), (13, .one (.c (.ptr 13 0))), (14, .one (.c (.p (.int .i64 jv6))))], [(3, .box 24 [.p (.int .i64 a_0v1), .p (.int .i64 a_1v1)]), (5, .box 24 [.p (.int .i64 b_0v2), .p (.int .i64 b_1v2)]), (7, .box 24 [.p (.int .i64 c_0v3), .p (.int .i64 c_1v3)]), (9, .box 24 [.p (.int .i64 d_0v4), .p (.int .i64 d_1v4)]), (13, .box 26 [.p (.int .i64 x_0v6), .p (.sl x_1v6_n 1 x_1v6_g), .p (.int .i64 x_2v6), .p (.int .i64 x_3v6), .p (.int .i64 x_4v6), .p (.int .i64 x_5v6)])], []⟩
def f18_at6 (K : List PA → Prop) (ev1 : Int) (a_0v1 : Int) (a_1v1 : Int) (fv2 : Int) (b_0v2 : Int) (b_1v2 : Int) (gv3 : Int) (c_0v3 : Int) (c_1v3 : Int) (hv4 : Int) (d_0v4 : Int) (d_1v4 : Int) (lv5 : (Sl FluxStep)) (iv5 : Int) (jv6 : Int) (x_0v6 : Int) (x_1v6_n : Nat) (x_1v6_g : Nat → List PV) (x_2v6 : Int) (x_3v6 : Int) (x_4v6 : Int) (x_5v6 : Int) : Prop := vc Try.prog G18 ann18 (cdF Try.f18 [1, 1, 1, 1, 1, 1, 1, 1]) (bodyK Try.prog Try.f18 K) (f18_g6 ev1 a_0v1 a_1v1 fv2 b_0v2 b_1v2 gv3 c_0v3 c_1v3 hv4 d_0v4 d_1v4 lv5 iv5 jv6 x_0v6 x_1v6_n x_1v6_g x_2v6 x_3v6 x_4v6 x_5v6)
def f18_g7 (a_0v1 : Int) (a_1v1 : Int) (b_0v2 : Int) (b_1v2 : Int) (c_0v3 : Int) (c_1v3 : Int) (d_0v4 : Int) (d_1v4 : Int) (lv5 : (Sl FluxStep)) (x_0v6 : Int) (x_1v6 : (Sl (Sl FluxRow))) (x_2v6 : Int) (x_3v6 : Int) (x_4v6 : Int) (x_5v6 : Int) : St := ⟨[(3, .one (.c (.ptr 3 0))), (5, .one (.c (.ptr 5 0))), (7, .one (.c (.ptr 7 0))), (9, .one (.c (.ptr 9 0))), (11, .one (.c (.p (.sl lv5.len 3 (fun i => enc_69 (lv5.get i)))))), (13, .one (.c (.ptr 13 0)))], [(3, .box 24 [.p (.int .i64 a_0v1), .p (.int .i64 a_1v1)]), (5, .box 24 [.p (.int .i64 b_0v2), .p (.int .i64 b_1v2)]), (7, .box 24 [.p (.int .i64 c_0v3), .p (.int .i64 c_1v3)]), (9, .box 24 [.p (.int .i64 d_0v4), .p (.int .i64 d_1v4)]), (13, .box 26 [.p (.int .i64 x_0v6), .p (.sl x_1v6.len 1 (fun i => enc_32 (x_1v6.get i))), .p (.int .i64 x_2v6), .p (.int .i64 x_3v6), .p (.int .i64 x_4v6), .p (.int .i64 x_5v6)])], []⟩
def f18_at7 (K : List PA → Prop) (a_0v1 : Int) (a_1v1 : Int) (b_0v2 : Int) (b_1v2 : Int) (c_0v3 : Int) (c_1v3 : Int) (d_0v4 : Int) (d_1v4 : Int) (lv5 : (Sl FluxStep)) (x_0v6 : Int) (x_1v6 : (Sl (Sl FluxRow))) (x_2v6 : Int) (x_3v6 : Int) (x_4v6 : Int) (x_5v6 : Int) : Prop := vc Try.prog G18 ann18 (cdF Try.f18 [1, 1, 1, 1, 1, 1, 1, 1, 1]) (bodyK Try.prog Try.f18 K) (f18_g7 a_0v1 a_1v1 b_0v2 b_1v2 c_0v3 c_1v3 d_0v4 d_1v4 lv5 x_0v6 x_1v6 x_2v6 x_3v6 x_4v6 x_5v6)
theorem f18_top (K : List PA → Prop) :
  vcFun Try.prog G18 ann18 18 [] K =
  (f18_at0 K s61.len (fun i => enc_42 (s61.get i)) s60.Bins.len (fun i => enc_32 (s60.Bins.get i))) := by kernel_rfl
theorem f18_eq0 (K : List PA → Prop) (tv0 : (Sl RangeRow)) (s_1v0 : (Sl (Sl FluxRow))) :
  f18_at0 K tv0.len (fun i => enc_42 (tv0.get i)) s_1v0.len (fun i => enc_32 (s_1v0.get i)) =
  ((IsE enc_42 3 3 (fun i => enc_42 (tv0.get i)) ∧ (p19 tv0 (100:Int) = true)) ∧
  (f18_at1 K tv0 ((s19 tv0 (100:Int)).2) s_1v0.len (fun i => enc_32 (s_1v0.get i)) (((s19 tv0 (100:Int)).1).Low) (((s19 tv0 (100:Int)).1).High))) := by kernel_rfl
theorem f18_eq1 (K : List PA → Prop) (tv0 : (Sl RangeRow)) (ev1 : Int) (s_1v1 : (Sl (Sl FluxRow))) (a_0v1 : Int) (a_1v1 : Int) :
  f18_at1 K tv0 ev1 s_1v1.len (fun i => enc_32 (s_1v1.get i)) a_0v1 a_1v1 =
  ((IsE enc_32 1 1 (fun i => enc_32 (s_1v1.get i)) ∧ IsE enc_42 3 3 (fun i => enc_42 (tv0.get i)) ∧ (p20 (⟨s60.Parts, s_1v1, s60.Beta, s60.Alpha⟩ : Sky) tv0 (0:Int) (280:Int) = true)) ∧
  (f18_at2 K tv0 ev1 a_0v1 a_1v1 ((s20 (⟨s60.Parts, s_1v1, s60.Beta, s60.Alpha⟩ : Sky) tv0 (0:Int) (280:Int)).2) s_1v1.len (fun i => enc_32 (s_1v1.get i)) (((s20 (⟨s60.Parts, s_1v1, s60.Beta, s60.Alpha⟩ : Sky) tv0 (0:Int) (280:Int)).1).Low) (((s20 (⟨s60.Parts, s_1v1, s60.Beta, s60.Alpha⟩ : Sky) tv0 (0:Int) (280:Int)).1).High))) := by kernel_rfl
theorem f18_eq2 (K : List PA → Prop) (tv0 : (Sl RangeRow)) (ev1 : Int) (a_0v1 : Int) (a_1v1 : Int) (fv2 : Int) (s_1v2 : (Sl (Sl FluxRow))) (b_0v2 : Int) (b_1v2 : Int) :
  f18_at2 K tv0 ev1 a_0v1 a_1v1 fv2 s_1v2.len (fun i => enc_32 (s_1v2.get i)) b_0v2 b_1v2 =
  ((IsE enc_32 1 1 (fun i => enc_32 (s_1v2.get i)) ∧ IsE enc_42 3 3 (fun i => enc_42 (tv0.get i)) ∧ IsE enc_56 5 5 (getL [(enc_56 (s34 (3:Int))), (enc_56 (⟨(1:Int), (⟨(⟨(-10:Int), (20:Int)⟩ : Span), (⟨(0:Int), (5:Int)⟩ : Span)⟩ : Weather)⟩ : Spell))]) ∧ (p23 (⟨s60.Parts, s_1v2, s60.Beta, s60.Alpha⟩ : Sky) tv0 (0:Int) (100:Int) (⟨2, decF_56 (getL [(enc_56 (s34 (3:Int))), (enc_56 (⟨(1:Int), (⟨(⟨(-10:Int), (20:Int)⟩ : Span), (⟨(0:Int), (5:Int)⟩ : Span)⟩ : Weather)⟩ : Spell))])⟩ : (Sl Spell)) = true)) ∧
  (f18_at3 K tv0 ev1 a_0v1 a_1v1 fv2 b_0v2 b_1v2 ((s23 (⟨s60.Parts, s_1v2, s60.Beta, s60.Alpha⟩ : Sky) tv0 (0:Int) (100:Int) (⟨2, decF_56 (getL [(enc_56 (s34 (3:Int))), (enc_56 (⟨(1:Int), (⟨(⟨(-10:Int), (20:Int)⟩ : Span), (⟨(0:Int), (5:Int)⟩ : Span)⟩ : Weather)⟩ : Spell))])⟩ : (Sl Spell))).2) s_1v2.len (fun i => enc_32 (s_1v2.get i)) (((s23 (⟨s60.Parts, s_1v2, s60.Beta, s60.Alpha⟩ : Sky) tv0 (0:Int) (100:Int) (⟨2, decF_56 (getL [(enc_56 (s34 (3:Int))), (enc_56 (⟨(1:Int), (⟨(⟨(-10:Int), (20:Int)⟩ : Span), (⟨(0:Int), (5:Int)⟩ : Span)⟩ : Weather)⟩ : Spell))])⟩ : (Sl Spell))).1).Low) (((s23 (⟨s60.Parts, s_1v2, s60.Beta, s60.Alpha⟩ : Sky) tv0 (0:Int) (100:Int) (⟨2, decF_56 (getL [(enc_56 (s34 (3:Int))), (enc_56 (⟨(1:Int), (⟨(⟨(-10:Int), (20:Int)⟩ : Span), (⟨(0:Int), (5:Int)⟩ : Span)⟩ : Weather)⟩ : Spell))])⟩ : (Sl Spell))).1).High))) := by kernel_rfl
theorem f18_eq3 (K : List PA → Prop) (tv0 : (Sl RangeRow)) (ev1 : Int) (a_0v1 : Int) (a_1v1 : Int) (fv2 : Int) (b_0v2 : Int) (b_1v2 : Int) (gv3 : Int) (s_1v3 : (Sl (Sl FluxRow))) (c_0v3 : Int) (c_1v3 : Int) :
  f18_at3 K tv0 ev1 a_0v1 a_1v1 fv2 b_0v2 b_1v2 gv3 s_1v3.len (fun i => enc_32 (s_1v3.get i)) c_0v3 c_1v3 =
  ((IsE enc_32 1 1 (fun i => enc_32 (s_1v3.get i)) ∧ IsE enc_42 3 3 (fun i => enc_42 (tv0.get i)) ∧ IsE enc_56 5 5 (fun _ => (enc_56 (s34 (1:Int)))) ∧ (p25 (⟨s60.Parts, s_1v3, s60.Beta, s60.Alpha⟩ : Sky) tv0 (0:Int) (⟨(261:Int), (270:Int)⟩ : Span) (⟨1, fun _ => (s34 (1:Int))⟩ : (Sl Spell)) = true)) ∧
  (f18_at4 K tv0 ev1 a_0v1 a_1v1 fv2 b_0v2 b_1v2 gv3 c_0v3 c_1v3 ((s25 (⟨s60.Parts, s_1v3, s60.Beta, s60.Alpha⟩ : Sky) tv0 (0:Int) (⟨(261:Int), (270:Int)⟩ : Span) (⟨1, fun _ => (s34 (1:Int))⟩ : (Sl Spell))).2) s_1v3.len (fun i => enc_32 (s_1v3.get i)) (((s25 (⟨s60.Parts, s_1v3, s60.Beta, s60.Alpha⟩ : Sky) tv0 (0:Int) (⟨(261:Int), (270:Int)⟩ : Span) (⟨1, fun _ => (s34 (1:Int))⟩ : (Sl Spell))).1).Low) (((s25 (⟨s60.Parts, s_1v3, s60.Beta, s60.Alpha⟩ : Sky) tv0 (0:Int) (⟨(261:Int), (270:Int)⟩ : Span) (⟨1, fun _ => (s34 (1:Int))⟩ : (Sl Spell))).1).High))) := by kernel_rfl
theorem f18_eq4 (K : List PA → Prop) (tv0 : (Sl RangeRow)) (ev1 : Int) (a_0v1 : Int) (a_1v1 : Int) (fv2 : Int) (b_0v2 : Int) (b_1v2 : Int) (gv3 : Int) (c_0v3 : Int) (c_1v3 : Int) (hv4 : Int) (s_1v4 : (Sl (Sl FluxRow))) (d_0v4 : Int) (d_1v4 : Int) :
  f18_at4 K tv0 ev1 a_0v1 a_1v1 fv2 b_0v2 b_1v2 gv3 c_0v3 c_1v3 hv4 s_1v4.len (fun i => enc_32 (s_1v4.get i)) d_0v4 d_1v4 =
  ((IsE enc_32 1 1 (fun i => enc_32 (s_1v4.get i)) ∧ IsE enc_42 3 3 (fun i => enc_42 (tv0.get i)) ∧ IsE enc_56 5 5 (fun _ => (enc_56 (s34 (1:Int)))) ∧ (p26 (⟨s60.Parts, s_1v4, s60.Beta, s60.Alpha⟩ : Sky) tv0 (0:Int) (⟨1, fun _ => (s34 (1:Int))⟩ : (Sl Spell)) = true)) ∧
  (f18_at5 K tv0 ev1 a_0v1 a_1v1 fv2 b_0v2 b_1v2 gv3 c_0v3 c_1v3 hv4 d_0v4 d_1v4 (((s26 (⟨s60.Parts, s_1v4, s60.Beta, s60.Alpha⟩ : Sky) tv0 (0:Int) (⟨1, fun _ => (s34 (1:Int))⟩ : (Sl Spell))).1).len) (fun i => enc_69 (((s26 (⟨s60.Parts, s_1v4, s60.Beta, s60.Alpha⟩ : Sky) tv0 (0:Int) (⟨1, fun _ => (s34 (1:Int))⟩ : (Sl Spell))).1).get i)) ((s26 (⟨s60.Parts, s_1v4, s60.Beta, s60.Alpha⟩ : Sky) tv0 (0:Int) (⟨1, fun _ => (s34 (1:Int))⟩ : (Sl Spell))).2) s_1v4.len (fun i => enc_32 (s_1v4.get i)))) := by kernel_rfl
theorem f18_eq5 (K : List PA → Prop) (tv0 : (Sl RangeRow)) (ev1 : Int) (a_0v1 : Int) (a_1v1 : Int) (fv2 : Int) (b_0v2 : Int) (b_1v2 : Int) (gv3 : Int) (c_0v3 : Int) (c_1v3 : Int) (hv4 : Int) (d_0v4 : Int) (d_1v4 : Int) (lv5 : (Sl FluxStep)) (iv5 : Int) (s_1v5 : (Sl (Sl FluxRow))) :
  f18_at5 K tv0 ev1 a_0v1 a_1v1 fv2 b_0v2 b_1v2 gv3 c_0v3 c_1v3 hv4 d_0v4 d_1v4 lv5.len (fun i => enc_69 (lv5.get i)) iv5 s_1v5.len (fun i => enc_32 (s_1v5.get i)) =
  ((IsE enc_32 1 1 (fun i => enc_32 (s_1v5.get i)) ∧ IsE enc_42 3 3 (fun i => enc_42 (tv0.get i)) ∧ (p33 (⟨s60.Parts, s_1v5, s60.Beta, s60.Alpha⟩ : Sky) tv0 (0:Int) (100:Int) (⟨(10:Int), (25:Int)⟩ : Span) = true)) ∧
  (f18_at6 K ev1 a_0v1 a_1v1 fv2 b_0v2 b_1v2 gv3 c_0v3 c_1v3 hv4 d_0v4 d_1v4 lv5 iv5 ((s33 (⟨s60.Parts, s_1v5, s60.Beta, s60.Alpha⟩ : Sky) tv0 (0:Int) (100:Int) (⟨(10:Int), (25:Int)⟩ : Span)).2) (((s33 (⟨s60.Parts, s_1v5, s60.Beta, s60.Alpha⟩ : Sky) tv0 (0:Int) (100:Int) (⟨(10:Int), (25:Int)⟩ : Span)).1).Parts) (((s33 (⟨s60.Parts, s_1v5, s60.Beta, s60.Alpha⟩ : Sky) tv0 (0:Int) (100:Int) (⟨(10:Int), (25:Int)⟩ : Span)).1).Bins.len) (fun i => enc_32 (((s33 (⟨s60.Parts, s_1v5, s60.Beta, s60.Alpha⟩ : Sky) tv0 (0:Int) (100:Int) (⟨(10:Int), (25:Int)⟩ : Span)).1).Bins.get i)) (((s33 (⟨s60.Parts, s_1v5, s60.Beta, s60.Alpha⟩ : Sky) tv0 (0:Int) (100:Int) (⟨(10:Int), (25:Int)⟩ : Span)).1).Beta.Low) (((s33 (⟨s60.Parts, s_1v5, s60.Beta, s60.Alpha⟩ : Sky) tv0 (0:Int) (100:Int) (⟨(10:Int), (25:Int)⟩ : Span)).1).Beta.High) (((s33 (⟨s60.Parts, s_1v5, s60.Beta, s60.Alpha⟩ : Sky) tv0 (0:Int) (100:Int) (⟨(10:Int), (25:Int)⟩ : Span)).1).Alpha.Low) (((s33 (⟨s60.Parts, s_1v5, s60.Beta, s60.Alpha⟩ : Sky) tv0 (0:Int) (100:Int) (⟨(10:Int), (25:Int)⟩ : Span)).1).Alpha.High))) := by kernel_rfl
theorem f18_eq6 (K : List PA → Prop) (ev1 : Int) (a_0v1 : Int) (a_1v1 : Int) (fv2 : Int) (b_0v2 : Int) (b_1v2 : Int) (gv3 : Int) (c_0v3 : Int) (c_1v3 : Int) (hv4 : Int) (d_0v4 : Int) (d_1v4 : Int) (lv5 : (Sl FluxStep)) (iv5 : Int) (jv6 : Int) (x_0v6 : Int) (x_1v6 : (Sl (Sl FluxRow))) (x_2v6 : Int) (x_3v6 : Int) (x_4v6 : Int) (x_5v6 : Int) :
  f18_at6 K ev1 a_0v1 a_1v1 fv2 b_0v2 b_1v2 gv3 c_0v3 c_1v3 hv4 d_0v4 d_1v4 lv5 iv5 jv6 x_0v6 x_1v6.len (fun i => enc_32 (x_1v6.get i)) x_2v6 x_3v6 x_4v6 x_5v6 =
  (condP (ev1 != (0:Int))
   (K [.one (.bool false)])
   (condP (fv2 != (0:Int))
    (K [.one (.bool false)])
    (condP (gv3 != (0:Int))
     (K [.one (.bool false)])
     (condP (hv4 != (0:Int))
      (K [.one (.bool false)])
      (condP (iv5 != (0:Int))
       (K [.one (.bool false)])
       (condP (jv6 != (0:Int))
        (K [.one (.bool false)])
        (condP ((lv5.len : Int) != (7:Int))
         (K [.one (.bool false)])
         (condP ((x_1v6.len : Int) != (1:Int))
          (K [.one (.bool false)])
          (((0 ≤ (0:Int) ∧ (0:Int) < (x_1v6.len : Int))) ∧
          (condP (((x_1v6.get 0).len : Int) != (4:Int))
           (K [.one (.bool false)])
           (f18_at7 K a_0v1 a_1v1 b_0v2 b_1v2 c_0v3 c_1v3 d_0v4 d_1v4 lv5 x_0v6 x_1v6 x_2v6 x_3v6 x_4v6 x_5v6))))))))))) := by kernel_rfl
theorem f18_eq7 (K : List PA → Prop) (a_0v1 : Int) (a_1v1 : Int) (b_0v2 : Int) (b_1v2 : Int) (c_0v3 : Int) (c_1v3 : Int) (d_0v4 : Int) (d_1v4 : Int) (lv5 : (Sl FluxStep)) (x_0v6 : Int) (x_1v6 : (Sl (Sl FluxRow))) (x_2v6 : Int) (x_3v6 : Int) (x_4v6 : Int) (x_5v6 : Int) :
  f18_at7 K a_0v1 a_1v1 b_0v2 b_1v2 c_0v3 c_1v3 d_0v4 d_1v4 lv5 x_0v6 x_1v6 x_2v6 x_3v6 x_4v6 x_5v6 =
  (condP (match (a_0v1 == (11:Int)) with | true => (match (a_1v1 == (100:Int)) with | true => true | false => false) | false => false)
   (condP (match (b_0v2 == (0:Int)) with | true => (match (b_1v2 == (260:Int)) with | true => true | false => false) | false => false)
    (condP (match (c_0v3 == (19:Int)) with | true => (match (c_1v3 == (505:Int)) with | true => true | false => false) | false => false)
     (condP (match (d_0v4 == (1:Int)) with | true => (match (d_1v4 == (120:Int)) with | true => true | false => false) | false => false)
      (((0 ≤ (4:Int) ∧ (4:Int) < (lv5.len : Int))) ∧
      (condP (match ((lv5.get 4).From == (121:Int)) with | true => (match (match ((lv5.get 4).Rate.Low == (20:Int)) with | true => (match ((lv5.get 4).Rate.High == (260:Int)) with | true => true | false => false) | false => false) with | true => true | false => false) | false => false)
       (((0 ≤ (0:Int) ∧ (0:Int) < (x_1v6.len : Int))) ∧
       (((0 ≤ (3:Int) ∧ (3:Int) < ((x_1v6.get 0).len : Int))) ∧
       (K [.one (.bool (match (((x_1v6.get 0).get 3).Rate.Low == (20:Int)) with | true => (match (((x_1v6.get 0).get 3).Rate.High == (25:Int)) with | true => true | false => false) | false => false))])))
       (K [.one (.bool false)])))
      (K [.one (.bool false)]))
     (K [.one (.bool false)]))
    (K [.one (.bool false)]))
   (K [.one (.bool false)])) := by kernel_rfl
abbrev R18 := Bool
abbrev e18 (r : Bool) : List PA := [.one (.bool r)]
attribute [irreducible] f18_at0 f18_at1 f18_at2 f18_at3 f18_at4 f18_at5 f18_at6 f18_at7
def s18_at7 (a_0v1 : Int) (a_1v1 : Int) (b_0v2 : Int) (b_1v2 : Int) (c_0v3 : Int) (c_1v3 : Int) (d_0v4 : Int) (d_1v4 : Int) (lv5 : (Sl FluxStep)) (x_0v6 : Int) (x_1v6 : (Sl (Sl FluxRow))) (x_2v6 : Int) (x_3v6 : Int) (x_4v6 : Int) (x_5v6 : Int) : Bool :=
  (cond (match (a_0v1 == (11:Int)) with | true => (match (a_1v1 == (100:Int)) with | true => true | false => false) | false => false)
   (cond (match (b_0v2 == (0:Int)) with | true => (match (b_1v2 == (260:Int)) with | true => true | false => false) | false => false)
    (cond (match (c_0v3 == (19:Int)) with | true => (match (c_1v3 == (505:Int)) with | true => true | false => false) | false => false)
     (cond (match (d_0v4 == (1:Int)) with | true => (match (d_1v4 == (120:Int)) with | true => true | false => false) | false => false)
      (cond (match ((lv5.get 4).From == (121:Int)) with | true => (match (match ((lv5.get 4).Rate.Low == (20:Int)) with | true => (match ((lv5.get 4).Rate.High == (260:Int)) with | true => true | false => false) | false => false) with | true => true | false => false) | false => false)
       (match (((x_1v6.get 0).get 3).Rate.Low == (20:Int)) with | true => (match (((x_1v6.get 0).get 3).Rate.High == (25:Int)) with | true => true | false => false) | false => false)
       false)
      false)
     false)
    false)
   false)
def p18_at7 (a_0v1 : Int) (a_1v1 : Int) (b_0v2 : Int) (b_1v2 : Int) (c_0v3 : Int) (c_1v3 : Int) (d_0v4 : Int) (d_1v4 : Int) (lv5 : (Sl FluxStep)) (x_0v6 : Int) (x_1v6 : (Sl (Sl FluxRow))) (x_2v6 : Int) (x_3v6 : Int) (x_4v6 : Int) (x_5v6 : Int) : Bool :=
  (cond (match (a_0v1 == (11:Int)) with | true => (match (a_1v1 == (100:Int)) with | true => true | false => false) | false => false)
   (cond (match (b_0v2 == (0:Int)) with | true => (match (b_1v2 == (260:Int)) with | true => true | false => false) | false => false)
    (cond (match (c_0v3 == (19:Int)) with | true => (match (c_1v3 == (505:Int)) with | true => true | false => false) | false => false)
     (cond (match (d_0v4 == (1:Int)) with | true => (match (d_1v4 == (120:Int)) with | true => true | false => false) | false => false)
      (decide ((0 ≤ (4:Int) ∧ (4:Int) < (lv5.len : Int))) &&
      (cond (match ((lv5.get 4).From == (121:Int)) with | true => (match (match ((lv5.get 4).Rate.Low == (20:Int)) with | true => (match ((lv5.get 4).Rate.High == (260:Int)) with | true => true | false => false) | false => false) with | true => true | false => false) | false => false)
       (decide ((0 ≤ (0:Int) ∧ (0:Int) < (x_1v6.len : Int))) &&
       (decide ((0 ≤ (3:Int) ∧ (3:Int) < ((x_1v6.get 0).len : Int))) &&
       true))
       true))
      true)
     true)
    true)
   true)
theorem q18_at7 (K : List PA → Prop) (a_0v1 : Int) (a_1v1 : Int) (b_0v2 : Int) (b_1v2 : Int) (c_0v3 : Int) (c_1v3 : Int) (d_0v4 : Int) (d_1v4 : Int) (lv5 : (Sl FluxStep)) (x_0v6 : Int) (x_1v6 : (Sl (Sl FluxRow))) (x_2v6 : Int) (x_3v6 : Int) (x_4v6 : Int) (x_5v6 : Int) (hs : p18_at7 a_0v1 a_1v1 b_0v2 b_1v2 c_0v3 c_1v3 d_0v4 d_1v4 lv5 x_0v6 x_1v6 x_2v6 x_3v6 x_4v6 x_5v6 = true) (hk : K (e18 (s18_at7 a_0v1 a_1v1 b_0v2 b_1v2 c_0v3 c_1v3 d_0v4 d_1v4 lv5 x_0v6 x_1v6 x_2v6 x_3v6 x_4v6 x_5v6))) : f18_at7 K a_0v1 a_1v1 b_0v2 b_1v2 c_0v3 c_1v3 d_0v4 d_1v4 lv5 x_0v6 x_1v6 x_2v6 x_3v6 x_4v6 x_5v6 := by
  refine ofEq (f18_eq7 K a_0v1 a_1v1 b_0v2 b_1v2 c_0v3 c_1v3 d_0v4 d_1v4 lv5 x_0v6 x_1v6 x_2v6 x_3v6 x_4v6 x_5v6) ?_
  unfold p18_at7 at hs
  unfold s18_at7 at hk
  exact (condB_go (K := fun r => K (e18 r))
   (fun hs hk => (condB_go (K := fun r => K (e18 r))
    (fun hs hk => (condB_go (K := fun r => K (e18 r))
     (fun hs hk => (condB_go (K := fun r => K (e18 r))
      (fun hs hk => (andK hs fun hc hs => ⟨hc, (condB_go (K := fun r => K (e18 r))
       (fun hs hk => (andK hs fun hc hs => ⟨hc, (andK hs fun hc hs => ⟨hc, hk⟩)⟩))
       (fun hs hk => hk) hs hk)⟩))
      (fun hs hk => hk) hs hk))
     (fun hs hk => hk) hs hk))
    (fun hs hk => hk) hs hk))
   (fun hs hk => hk) hs hk)
def s18_at6 (ev1 : Int) (a_0v1 : Int) (a_1v1 : Int) (fv2 : Int) (b_0v2 : Int) (b_1v2 : Int) (gv3 : Int) (c_0v3 : Int) (c_1v3 : Int) (hv4 : Int) (d_0v4 : Int) (d_1v4 : Int) (lv5 : (Sl FluxStep)) (iv5 : Int) (jv6 : Int) (x_0v6 : Int) (x_1v6 : (Sl (Sl FluxRow))) (x_2v6 : Int) (x_3v6 : Int) (x_4v6 : Int) (x_5v6 : Int) : Bool :=
  (cond (ev1 != (0:Int))
   false
   (cond (fv2 != (0:Int))
    false
    (cond (gv3 != (0:Int))
     false
     (cond (hv4 != (0:Int))
      false
      (cond (iv5 != (0:Int))
       false
       (cond (jv6 != (0:Int))
        false
        (cond ((lv5.len : Int) != (7:Int))
         false
         (cond ((x_1v6.len : Int) != (1:Int))
          false
          (cond (((x_1v6.get 0).len : Int) != (4:Int))
           false
           (s18_at7 a_0v1 a_1v1 b_0v2 b_1v2 c_0v3 c_1v3 d_0v4 d_1v4 lv5 x_0v6 x_1v6 x_2v6 x_3v6 x_4v6 x_5v6))))))))))
def p18_at6 (ev1 : Int) (a_0v1 : Int) (a_1v1 : Int) (fv2 : Int) (b_0v2 : Int) (b_1v2 : Int) (gv3 : Int) (c_0v3 : Int) (c_1v3 : Int) (hv4 : Int) (d_0v4 : Int) (d_1v4 : Int) (lv5 : (Sl FluxStep)) (iv5 : Int) (jv6 : Int) (x_0v6 : Int) (x_1v6 : (Sl (Sl FluxRow))) (x_2v6 : Int) (x_3v6 : Int) (x_4v6 : Int) (x_5v6 : Int) : Bool :=
  (cond (ev1 != (0:Int))
   true
   (cond (fv2 != (0:Int))
    true
    (cond (gv3 != (0:Int))
     true
     (cond (hv4 != (0:Int))
      true
      (cond (iv5 != (0:Int))
       true
       (cond (jv6 != (0:Int))
        true
        (cond ((lv5.len : Int) != (7:Int))
         true
         (cond ((x_1v6.len : Int) != (1:Int))
          true
          (decide ((0 ≤ (0:Int) ∧ (0:Int) < (x_1v6.len : Int))) &&
          (cond (((x_1v6.get 0).len : Int) != (4:Int))
           true
           (p18_at7 a_0v1 a_1v1 b_0v2 b_1v2 c_0v3 c_1v3 d_0v4 d_1v4 lv5 x_0v6 x_1v6 x_2v6 x_3v6 x_4v6 x_5v6)))))))))))
theorem q18_at6 (K : List PA → Prop) (ev1 : Int) (a_0v1 : Int) (a_1v1 : Int) (fv2 : Int) (b_0v2 : Int) (b_1v2 : Int) (gv3 : Int) (c_0v3 : Int) (c_1v3 : Int) (hv4 : Int) (d_0v4 : Int) (d_1v4 : Int) (lv5 : (Sl FluxStep)) (iv5 : Int) (jv6 : Int) (x_0v6 : Int) (x_1v6 : (Sl (Sl FluxRow))) (x_2v6 : Int) (x_3v6 : Int) (x_4v6 : Int) (x_5v6 : Int) (x_1v6_g : Nat → List PV) (x_1v6_h : x_1v6_g = fun i => enc_32 (x_1v6.get i)) (hs : p18_at6 ev1 a_0v1 a_1v1 fv2 b_0v2 b_1v2 gv3 c_0v3 c_1v3 hv4 d_0v4 d_1v4 lv5 iv5 jv6 x_0v6 x_1v6 x_2v6 x_3v6 x_4v6 x_5v6 = true) (hk : K (e18 (s18_at6 ev1 a_0v1 a_1v1 fv2 b_0v2 b_1v2 gv3 c_0v3 c_1v3 hv4 d_0v4 d_1v4 lv5 iv5 jv6 x_0v6 x_1v6 x_2v6 x_3v6 x_4v6 x_5v6))) : f18_at6 K ev1 a_0v1 a_1v1 fv2 b_0v2 b_1v2 gv3 c_0v3 c_1v3 hv4 d_0v4 d_1v4 lv5 iv5 jv6 x_0v6 x_1v6.len x_1v6_g x_2v6 x_3v6 x_4v6 x_5v6 := by
  subst x_1v6_h
  refine ofEq (f18_eq6 K ev1 a_0v1 a_1v1 fv2 b_0v2 b_1v2 gv3 c_0v3 c_1v3 hv4 d_0v4 d_1v4 lv5 iv5 jv6 x_0v6 x_1v6 x_2v6 x_3v6 x_4v6 x_5v6) ?_
  unfold p18_at6 at hs
  unfold s18_at6 at hk
  exact (condB_go (K := fun r => K (e18 r))
   (fun hs hk => hk)
   (fun hs hk => (condB_go (K := fun r => K (e18 r))
    (fun hs hk => hk)
    (fun hs hk => (condB_go (K := fun r => K (e18 r))
     (fun hs hk => hk)
     (fun hs hk => (condB_go (K := fun r => K (e18 r))
      (fun hs hk => hk)
      (fun hs hk => (condB_go (K := fun r => K (e18 r))
       (fun hs hk => hk)
       (fun hs hk => (condB_go (K := fun r => K (e18 r))
        (fun hs hk => hk)
        (fun hs hk => (condB_go (K := fun r => K (e18 r))
         (fun hs hk => hk)
         (fun hs hk => (condB_go (K := fun r => K (e18 r))
          (fun hs hk => hk)
          (fun hs hk => (andK hs fun hc hs => ⟨hc, (condB_go (K := fun r => K (e18 r))
           (fun hs hk => hk)
           (fun hs hk => (q18_at7 K a_0v1 a_1v1 b_0v2 b_1v2 c_0v3 c_1v3 d_0v4 d_1v4 lv5 x_0v6 x_1v6 x_2v6 x_3v6 x_4v6 x_5v6 hs hk)) hs hk)⟩)) hs hk)) hs hk)) hs hk)) hs hk)) hs hk)) hs hk)) hs hk)) hs hk)
def s18_at5 (tv0 : (Sl RangeRow)) (ev1 : Int) (a_0v1 : Int) (a_1v1 : Int) (fv2 : Int) (b_0v2 : Int) (b_1v2 : Int) (gv3 : Int) (c_0v3 : Int) (c_1v3 : Int) (hv4 : Int) (d_0v4 : Int) (d_1v4 : Int) (lv5 : (Sl FluxStep)) (iv5 : Int) (s_1v5 : (Sl (Sl FluxRow))) : Bool :=
  (s18_at6 ev1 a_0v1 a_1v1 fv2 b_0v2 b_1v2 gv3 c_0v3 c_1v3 hv4 d_0v4 d_1v4 lv5 iv5 ((s33 (⟨s60.Parts, s_1v5, s60.Beta, s60.Alpha⟩ : Sky) tv0 (0:Int) (100:Int) (⟨(10:Int), (25:Int)⟩ : Span)).2) (((s33 (⟨s60.Parts, s_1v5, s60.Beta, s60.Alpha⟩ : Sky) tv0 (0:Int) (100:Int) (⟨(10:Int), (25:Int)⟩ : Span)).1).Parts) (((s33 (⟨s60.Parts, s_1v5, s60.Beta, s60.Alpha⟩ : Sky) tv0 (0:Int) (100:Int) (⟨(10:Int), (25:Int)⟩ : Span)).1).Bins) (((s33 (⟨s60.Parts, s_1v5, s60.Beta, s60.Alpha⟩ : Sky) tv0 (0:Int) (100:Int) (⟨(10:Int), (25:Int)⟩ : Span)).1).Beta.Low) (((s33 (⟨s60.Parts, s_1v5, s60.Beta, s60.Alpha⟩ : Sky) tv0 (0:Int) (100:Int) (⟨(10:Int), (25:Int)⟩ : Span)).1).Beta.High) (((s33 (⟨s60.Parts, s_1v5, s60.Beta, s60.Alpha⟩ : Sky) tv0 (0:Int) (100:Int) (⟨(10:Int), (25:Int)⟩ : Span)).1).Alpha.Low) (((s33 (⟨s60.Parts, s_1v5, s60.Beta, s60.Alpha⟩ : Sky) tv0 (0:Int) (100:Int) (⟨(10:Int), (25:Int)⟩ : Span)).1).Alpha.High))
def p18_at5 (tv0 : (Sl RangeRow)) (ev1 : Int) (a_0v1 : Int) (a_1v1 : Int) (fv2 : Int) (b_0v2 : Int) (b_1v2 : Int) (gv3 : Int) (c_0v3 : Int) (c_1v3 : Int) (hv4 : Int) (d_0v4 : Int) (d_1v4 : Int) (lv5 : (Sl FluxStep)) (iv5 : Int) (s_1v5 : (Sl (Sl FluxRow))) : Bool :=
  (decide ((p33 (⟨s60.Parts, s_1v5, s60.Beta, s60.Alpha⟩ : Sky) tv0 (0:Int) (100:Int) (⟨(10:Int), (25:Int)⟩ : Span) = true)) &&
  (p18_at6 ev1 a_0v1 a_1v1 fv2 b_0v2 b_1v2 gv3 c_0v3 c_1v3 hv4 d_0v4 d_1v4 lv5 iv5 ((s33 (⟨s60.Parts, s_1v5, s60.Beta, s60.Alpha⟩ : Sky) tv0 (0:Int) (100:Int) (⟨(10:Int), (25:Int)⟩ : Span)).2) (((s33 (⟨s60.Parts, s_1v5, s60.Beta, s60.Alpha⟩ : Sky) tv0 (0:Int) (100:Int) (⟨(10:Int), (25:Int)⟩ : Span)).1).Parts) (((s33 (⟨s60.Parts, s_1v5, s60.Beta, s60.Alpha⟩ : Sky) tv0 (0:Int) (100:Int) (⟨(10:Int), (25:Int)⟩ : Span)).1).Bins) (((s33 (⟨s60.Parts, s_1v5, s60.Beta, s60.Alpha⟩ : Sky) tv0 (0:Int) (100:Int) (⟨(10:Int), (25:Int)⟩ : Span)).1).Beta.Low) (((s33 (⟨s60.Parts, s_1v5, s60.Beta, s60.Alpha⟩ : Sky) tv0 (0:Int) (100:Int) (⟨(10:Int), (25:Int)⟩ : Span)).1).Beta.High) (((s33 (⟨s60.Parts, s_1v5, s60.Beta, s60.Alpha⟩ : Sky) tv0 (0:Int) (100:Int) (⟨(10:Int), (25:Int)⟩ : Span)).1).Alpha.Low) (((s33 (⟨s60.Parts, s_1v5, s60.Beta, s60.Alpha⟩ : Sky) tv0 (0:Int) (100:Int) (⟨(10:Int), (25:Int)⟩ : Span)).1).Alpha.High)))
theorem q18_at5 (K : List PA → Prop) (tv0 : (Sl RangeRow)) (ev1 : Int) (a_0v1 : Int) (a_1v1 : Int) (fv2 : Int) (b_0v2 : Int) (b_1v2 : Int) (gv3 : Int) (c_0v3 : Int) (c_1v3 : Int) (hv4 : Int) (d_0v4 : Int) (d_1v4 : Int) (lv5 : (Sl FluxStep)) (iv5 : Int) (s_1v5 : (Sl (Sl FluxRow))) (lv5_g : Nat → List PV) (lv5_h : lv5_g = fun i => enc_69 (lv5.get i)) (s_1v5_g : Nat → List PV) (s_1v5_h : s_1v5_g = fun i => enc_32 (s_1v5.get i)) (hs : p18_at5 tv0 ev1 a_0v1 a_1v1 fv2 b_0v2 b_1v2 gv3 c_0v3 c_1v3 hv4 d_0v4 d_1v4 lv5 iv5 s_1v5 = true) (hk : K (e18 (s18_at5 tv0 ev1 a_0v1 a_1v1 fv2 b_0v2 b_1v2 gv3 c_0v3 c_1v3 hv4 d_0v4 d_1v4 lv5 iv5 s_1v5))) : f18_at5 K tv0 ev1 a_0v1 a_1v1 fv2 b_0v2 b_1v2 gv3 c_0v3 c_1v3 hv4 d_0v4 d_1v4 lv5.len lv5_g iv5 s_1v5.len s_1v5_g := by
  subst lv5_h
  subst s_1v5_h
  refine ofEq (f18_eq5 K tv0 ev1 a_0v1 a_1v1 fv2 b_0v2 b_1v2 gv3 c_0v3 c_1v3 hv4 d_0v4 d_1v4 lv5 iv5 s_1v5) ?_
  unfold p18_at5 at hs
  unfold s18_at5 at hk
  exact (andK hs fun hc hs => ⟨⟨isE, isE, hc⟩, (q18_at6 K ev1 a_0v1 a_1v1 fv2 b_0v2 b_1v2 gv3 c_0v3 c_1v3 hv4 d_0v4 d_1v4 lv5 iv5 ((s33 (⟨s60.Parts, s_1v5, s60.Beta, s60.Alpha⟩ : Sky) tv0 (0:Int) (100:Int) (⟨(10:Int), (25:Int)⟩ : Span)).2) (((s33 (⟨s60.Parts, s_1v5, s60.Beta, s60.Alpha⟩ : Sky) tv0 (0:Int) (100:Int) (⟨(10:Int), (25:Int)⟩ : Span)).1).Parts) (((s33 (⟨s60.Parts, s_1v5, s60.Beta, s60.Alpha⟩ : Sky) tv0 (0:Int) (100:Int) (⟨(10:Int), (25:Int)⟩ : Span)).1).Bins) (((s33 (⟨s60.Parts, s_1v5, s60.Beta, s60.Alpha⟩ : Sky) tv0 (0:Int) (100:Int) (⟨(10:Int), (25:Int)⟩ : Span)).1).Beta.Low) (((s33 (⟨s60.Parts, s_1v5, s60.Beta, s60.Alpha⟩ : Sky) tv0 (0:Int) (100:Int) (⟨(10:Int), (25:Int)⟩ : Span)).1).Beta.High) (((s33 (⟨s60.Parts, s_1v5, s60.Beta, s60.Alpha⟩ : Sky) tv0 (0:Int) (100:Int) (⟨(10:Int), (25:Int)⟩ : Span)).1).Alpha.Low) (((s33 (⟨s60.Parts, s_1v5, s60.Beta, s60.Alpha⟩ : Sky) tv0 (0:Int) (100:Int) (⟨(10:Int), (25:Int)⟩ : Span)).1).Alpha.High) (fun i => enc_32 (((s33 (⟨s60.Parts, s_1v5, s60.Beta, s60.Alpha⟩ : Sky) tv0 (0:Int) (100:Int) (⟨(10:Int), (25:Int)⟩ : Span)).1).Bins.get i)) rfl hs hk)⟩)
def s18_at4 (tv0 : (Sl RangeRow)) (ev1 : Int) (a_0v1 : Int) (a_1v1 : Int) (fv2 : Int) (b_0v2 : Int) (b_1v2 : Int) (gv3 : Int) (c_0v3 : Int) (c_1v3 : Int) (hv4 : Int) (s_1v4 : (Sl (Sl FluxRow))) (d_0v4 : Int) (d_1v4 : Int) : Bool :=
  (s18_at5 tv0 ev1 a_0v1 a_1v1 fv2 b_0v2 b_1v2 gv3 c_0v3 c_1v3 hv4 d_0v4 d_1v4 ((s26 (⟨s60.Parts, s_1v4, s60.Beta, s60.Alpha⟩ : Sky) tv0 (0:Int) (⟨1, fun _ => (s34 (1:Int))⟩ : (Sl Spell))).1) ((s26 (⟨s60.Parts, s_1v4, s60.Beta, s60.Alpha⟩ : Sky) tv0 (0:Int) (⟨1, fun _ => (s34 (1:Int))⟩ : (Sl Spell))).2) s_1v4)
def p18_at4 (tv0 : (Sl RangeRow)) (ev1 : Int) (a_0v1 : Int) (a_1v1 : Int) (fv2 : Int) (b_0v2 : Int) (b_1v2 : Int) (gv3 : Int) (c_0v3 : Int) (c_1v3 : Int) (hv4 : Int) (s_1v4 : (Sl (Sl FluxRow))) (d_0v4 : Int) (d_1v4 : Int) : Bool :=
  (decide ((p26 (⟨s60.Parts, s_1v4, s60.Beta, s60.Alpha⟩ : Sky) tv0 (0:Int) (⟨1, fun _ => (s34 (1:Int))⟩ : (Sl Spell)) = true)) &&
  (p18_at5 tv0 ev1 a_0v1 a_1v1 fv2 b_0v2 b_1v2 gv3 c_0v3 c_1v3 hv4 d_0v4 d_1v4 ((s26 (⟨s60.Parts, s_1v4, s60.Beta, s60.Alpha⟩ : Sky) tv0 (0:Int) (⟨1, fun _ => (s34 (1:Int))⟩ : (Sl Spell))).1) ((s26 (⟨s60.Parts, s_1v4, s60.Beta, s60.Alpha⟩ : Sky) tv0 (0:Int) (⟨1, fun _ => (s34 (1:Int))⟩ : (Sl Spell))).2) s_1v4))
theorem q18_at4 (K : List PA → Prop) (tv0 : (Sl RangeRow)) (ev1 : Int) (a_0v1 : Int) (a_1v1 : Int) (fv2 : Int) (b_0v2 : Int) (b_1v2 : Int) (gv3 : Int) (c_0v3 : Int) (c_1v3 : Int) (hv4 : Int) (s_1v4 : (Sl (Sl FluxRow))) (d_0v4 : Int) (d_1v4 : Int) (s_1v4_g : Nat → List PV) (s_1v4_h : s_1v4_g = fun i => enc_32 (s_1v4.get i)) (hs : p18_at4 tv0 ev1 a_0v1 a_1v1 fv2 b_0v2 b_1v2 gv3 c_0v3 c_1v3 hv4 s_1v4 d_0v4 d_1v4 = true) (hk : K (e18 (s18_at4 tv0 ev1 a_0v1 a_1v1 fv2 b_0v2 b_1v2 gv3 c_0v3 c_1v3 hv4 s_1v4 d_0v4 d_1v4))) : f18_at4 K tv0 ev1 a_0v1 a_1v1 fv2 b_0v2 b_1v2 gv3 c_0v3 c_1v3 hv4 s_1v4.len s_1v4_g d_0v4 d_1v4 := by
  subst s_1v4_h
  refine ofEq (f18_eq4 K tv0 ev1 a_0v1 a_1v1 fv2 b_0v2 b_1v2 gv3 c_0v3 c_1v3 hv4 s_1v4 d_0v4 d_1v4) ?_
  unfold p18_at4 at hs
  unfold s18_at4 at hk
  exact (andK hs fun hc hs => ⟨⟨isE, isE, isE_c, hc⟩, (q18_at5 K tv0 ev1 a_0v1 a_1v1 fv2 b_0v2 b_1v2 gv3 c_0v3 c_1v3 hv4 d_0v4 d_1v4 ((s26 (⟨s60.Parts, s_1v4, s60.Beta, s60.Alpha⟩ : Sky) tv0 (0:Int) (⟨1, fun _ => (s34 (1:Int))⟩ : (Sl Spell))).1) ((s26 (⟨s60.Parts, s_1v4, s60.Beta, s60.Alpha⟩ : Sky) tv0 (0:Int) (⟨1, fun _ => (s34 (1:Int))⟩ : (Sl Spell))).2) s_1v4 (fun i => enc_69 (((s26 (⟨s60.Parts, s_1v4, s60.Beta, s60.Alpha⟩ : Sky) tv0 (0:Int) (⟨1, fun _ => (s34 (1:Int))⟩ : (Sl Spell))).1).get i)) rfl (fun i => enc_32 (s_1v4.get i)) rfl hs hk)⟩)
def s18_at3 (tv0 : (Sl RangeRow)) (ev1 : Int) (a_0v1 : Int) (a_1v1 : Int) (fv2 : Int) (b_0v2 : Int) (b_1v2 : Int) (gv3 : Int) (s_1v3 : (Sl (Sl FluxRow))) (c_0v3 : Int) (c_1v3 : Int) : Bool :=
  (s18_at4 tv0 ev1 a_0v1 a_1v1 fv2 b_0v2 b_1v2 gv3 c_0v3 c_1v3 ((s25 (⟨s60.Parts, s_1v3, s60.Beta, s60.Alpha⟩ : Sky) tv0 (0:Int) (⟨(261:Int), (270:Int)⟩ : Span) (⟨1, fun _ => (s34 (1:Int))⟩ : (Sl Spell))).2) s_1v3 (((s25 (⟨s60.Parts, s_1v3, s60.Beta, s60.Alpha⟩ : Sky) tv0 (0:Int) (⟨(261:Int), (270:Int)⟩ : Span) (⟨1, fun _ => (s34 (1:Int))⟩ : (Sl Spell))).1).Low) (((s25 (⟨s60.Parts, s_1v3, s60.Beta, s60.Alpha⟩ : Sky) tv0 (0:Int) (⟨(261:Int), (270:Int)⟩ : Span) (⟨1, fun _ => (s34 (1:Int))⟩ : (Sl Spell))).1).High))
def p18_at3 (tv0 : (Sl RangeRow)) (ev1 : Int) (a_0v1 : Int) (a_1v1 : Int) (fv2 : Int) (b_0v2 : Int) (b_1v2 : Int) (gv3 : Int) (s_1v3 : (Sl (Sl FluxRow))) (c_0v3 : Int) (c_1v3 : Int) : Bool :=
  (decide ((p25 (⟨s60.Parts, s_1v3, s60.Beta, s60.Alpha⟩ : Sky) tv0 (0:Int) (⟨(261:Int), (270:Int)⟩ : Span) (⟨1, fun _ => (s34 (1:Int))⟩ : (Sl Spell)) = true)) &&
  (p18_at4 tv0 ev1 a_0v1 a_1v1 fv2 b_0v2 b_1v2 gv3 c_0v3 c_1v3 ((s25 (⟨s60.Parts, s_1v3, s60.Beta, s60.Alpha⟩ : Sky) tv0 (0:Int) (⟨(261:Int), (270:Int)⟩ : Span) (⟨1, fun _ => (s34 (1:Int))⟩ : (Sl Spell))).2) s_1v3 (((s25 (⟨s60.Parts, s_1v3, s60.Beta, s60.Alpha⟩ : Sky) tv0 (0:Int) (⟨(261:Int), (270:Int)⟩ : Span) (⟨1, fun _ => (s34 (1:Int))⟩ : (Sl Spell))).1).Low) (((s25 (⟨s60.Parts, s_1v3, s60.Beta, s60.Alpha⟩ : Sky) tv0 (0:Int) (⟨(261:Int), (270:Int)⟩ : Span) (⟨1, fun _ => (s34 (1:Int))⟩ : (Sl Spell))).1).High)))
theorem q18_at3 (K : List PA → Prop) (tv0 : (Sl RangeRow)) (ev1 : Int) (a_0v1 : Int) (a_1v1 : Int) (fv2 : Int) (b_0v2 : Int) (b_1v2 : Int) (gv3 : Int) (s_1v3 : (Sl (Sl FluxRow))) (c_0v3 : Int) (c_1v3 : Int) (s_1v3_g : Nat → List PV) (s_1v3_h : s_1v3_g = fun i => enc_32 (s_1v3.get i)) (hs : p18_at3 tv0 ev1 a_0v1 a_1v1 fv2 b_0v2 b_1v2 gv3 s_1v3 c_0v3 c_1v3 = true) (hk : K (e18 (s18_at3 tv0 ev1 a_0v1 a_1v1 fv2 b_0v2 b_1v2 gv3 s_1v3 c_0v3 c_1v3))) : f18_at3 K tv0 ev1 a_0v1 a_1v1 fv2 b_0v2 b_1v2 gv3 s_1v3.len s_1v3_g c_0v3 c_1v3 := by
  subst s_1v3_h
  refine ofEq (f18_eq3 K tv0 ev1 a_0v1 a_1v1 fv2 b_0v2 b_1v2 gv3 s_1v3 c_0v3 c_1v3) ?_
  unfold p18_at3 at hs
  unfold s18_at3 at hk
  exact (andK hs fun hc hs => ⟨⟨isE, isE, isE_c, hc⟩, (q18_at4 K tv0 ev1 a_0v1 a_1v1 fv2 b_0v2 b_1v2 gv3 c_0v3 c_1v3 ((s25 (⟨s60.Parts, s_1v3, s60.Beta, s60.Alpha⟩ : Sky) tv0 (0:Int) (⟨(261:Int), (270:Int)⟩ : Span) (⟨1, fun _ => (s34 (1:Int))⟩ : (Sl Spell))).2) s_1v3 (((s25 (⟨s60.Parts, s_1v3, s60.Beta, s60.Alpha⟩ : Sky) tv0 (0:Int) (⟨(261:Int), (270:Int)⟩ : Span) (⟨1, fun _ => (s34 (1:Int))⟩ : (Sl Spell))).1).Low) (((s25 (⟨s60.Parts, s_1v3, s60.Beta, s60.Alpha⟩ : Sky) tv0 (0:Int) (⟨(261:Int), (270:Int)⟩ : Span) (⟨1, fun _ => (s34 (1:Int))⟩ : (Sl Spell))).1).High) (fun i => enc_32 (s_1v3.get i)) rfl hs hk)⟩)
def s18_at2 (tv0 : (Sl RangeRow)) (ev1 : Int) (a_0v1 : Int) (a_1v1 : Int) (fv2 : Int) (s_1v2 : (Sl (Sl FluxRow))) (b_0v2 : Int) (b_1v2 : Int) : Bool :=
  (s18_at3 tv0 ev1 a_0v1 a_1v1 fv2 b_0v2 b_1v2 ((s23 (⟨s60.Parts, s_1v2, s60.Beta, s60.Alpha⟩ : Sky) tv0 (0:Int) (100:Int) (⟨2, decF_56 (getL [(enc_56 (s34 (3:Int))), (enc_56 (⟨(1:Int), (⟨(⟨(-10:Int), (20:Int)⟩ : Span), (⟨(0:Int), (5:Int)⟩ : Span)⟩ : Weather)⟩ : Spell))])⟩ : (Sl Spell))).2) s_1v2 (((s23 (⟨s60.Parts, s_1v2, s60.Beta, s60.Alpha⟩ : Sky) tv0 (0:Int) (100:Int) (⟨2, decF_56 (getL [(enc_56 (s34 (3:Int))), (enc_56 (⟨(1:Int), (⟨(⟨(-10:Int), (20:Int)⟩ : Span), (⟨(0:Int), (5:Int)⟩ : Span)⟩ : Weather)⟩ : Spell))])⟩ : (Sl Spell))).1).Low) (((s23 (⟨s60.Parts, s_1v2, s60.Beta, s60.Alpha⟩ : Sky) tv0 (0:Int) (100:Int) (⟨2, decF_56 (getL [(enc_56 (s34 (3:Int))), (enc_56 (⟨(1:Int), (⟨(⟨(-10:Int), (20:Int)⟩ : Span), (⟨(0:Int), (5:Int)⟩ : Span)⟩ : Weather)⟩ : Spell))])⟩ : (Sl Spell))).1).High))
def p18_at2 (tv0 : (Sl RangeRow)) (ev1 : Int) (a_0v1 : Int) (a_1v1 : Int) (fv2 : Int) (s_1v2 : (Sl (Sl FluxRow))) (b_0v2 : Int) (b_1v2 : Int) : Bool :=
  (decide ((p23 (⟨s60.Parts, s_1v2, s60.Beta, s60.Alpha⟩ : Sky) tv0 (0:Int) (100:Int) (⟨2, decF_56 (getL [(enc_56 (s34 (3:Int))), (enc_56 (⟨(1:Int), (⟨(⟨(-10:Int), (20:Int)⟩ : Span), (⟨(0:Int), (5:Int)⟩ : Span)⟩ : Weather)⟩ : Spell))])⟩ : (Sl Spell)) = true)) &&
  (p18_at3 tv0 ev1 a_0v1 a_1v1 fv2 b_0v2 b_1v2 ((s23 (⟨s60.Parts, s_1v2, s60.Beta, s60.Alpha⟩ : Sky) tv0 (0:Int) (100:Int) (⟨2, decF_56 (getL [(enc_56 (s34 (3:Int))), (enc_56 (⟨(1:Int), (⟨(⟨(-10:Int), (20:Int)⟩ : Span), (⟨(0:Int), (5:Int)⟩ : Span)⟩ : Weather)⟩ : Spell))])⟩ : (Sl Spell))).2) s_1v2 (((s23 (⟨s60.Parts, s_1v2, s60.Beta, s60.Alpha⟩ : Sky) tv0 (0:Int) (100:Int) (⟨2, decF_56 (getL [(enc_56 (s34 (3:Int))), (enc_56 (⟨(1:Int), (⟨(⟨(-10:Int), (20:Int)⟩ : Span), (⟨(0:Int), (5:Int)⟩ : Span)⟩ : Weather)⟩ : Spell))])⟩ : (Sl Spell))).1).Low) (((s23 (⟨s60.Parts, s_1v2, s60.Beta, s60.Alpha⟩ : Sky) tv0 (0:Int) (100:Int) (⟨2, decF_56 (getL [(enc_56 (s34 (3:Int))), (enc_56 (⟨(1:Int), (⟨(⟨(-10:Int), (20:Int)⟩ : Span), (⟨(0:Int), (5:Int)⟩ : Span)⟩ : Weather)⟩ : Spell))])⟩ : (Sl Spell))).1).High)))
theorem q18_at2 (K : List PA → Prop) (tv0 : (Sl RangeRow)) (ev1 : Int) (a_0v1 : Int) (a_1v1 : Int) (fv2 : Int) (s_1v2 : (Sl (Sl FluxRow))) (b_0v2 : Int) (b_1v2 : Int) (s_1v2_g : Nat → List PV) (s_1v2_h : s_1v2_g = fun i => enc_32 (s_1v2.get i)) (hs : p18_at2 tv0 ev1 a_0v1 a_1v1 fv2 s_1v2 b_0v2 b_1v2 = true) (hk : K (e18 (s18_at2 tv0 ev1 a_0v1 a_1v1 fv2 s_1v2 b_0v2 b_1v2))) : f18_at2 K tv0 ev1 a_0v1 a_1v1 fv2 s_1v2.len s_1v2_g b_0v2 b_1v2 := by
  subst s_1v2_h
  refine ofEq (f18_eq2 K tv0 ev1 a_0v1 a_1v1 fv2 s_1v2 b_0v2 b_1v2) ?_
  unfold p18_at2 at hs
  unfold s18_at2 at hk
  exact (andK hs fun hc hs => ⟨⟨isE, isE, (isE_list []), hc⟩, (q18_at3 K tv0 ev1 a_0v1 a_1v1 fv2 b_0v2 b_1v2 ((s23 (⟨s60.Parts, s_1v2, s60.Beta, s60.Alpha⟩ : Sky) tv0 (0:Int) (100:Int) (⟨2, decF_56 (getL [(enc_56 (s34 (3:Int))), (enc_56 (⟨(1:Int), (⟨(⟨(-10:Int), (20:Int)⟩ : Span), (⟨(0:Int), (5:Int)⟩ : Span)⟩ : Weather)⟩ : Spell))])⟩ : (Sl Spell))).2) s_1v2 (((s23 (⟨s60.Parts, s_1v2, s60.Beta, s60.Alpha⟩ : Sky) tv0 (0:Int) (100:Int) (⟨2, decF_56 (getL [(enc_56 (s34 (3:Int))), (enc_56 (⟨(1:Int), (⟨(⟨(-10:Int), (20:Int)⟩ : Span), (⟨(0:Int), (5:Int)⟩ : Span)⟩ : Weather)⟩ : Spell))])⟩ : (Sl Spell))).1).Low) (((s23 (⟨s60.Parts, s_1v2, s60.Beta, s60.Alpha⟩ : Sky) tv0 (0:Int) (100:Int) (⟨2, decF_56 (getL [(enc_56 (s34 (3:Int))), (enc_56 (⟨(1:Int), (⟨(⟨(-10:Int), (20:Int)⟩ : Span), (⟨(0:Int), (5:Int)⟩ : Span)⟩ : Weather)⟩ : Spell))])⟩ : (Sl Spell))).1).High) (fun i => enc_32 (s_1v2.get i)) rfl hs hk)⟩)
def s18_at1 (tv0 : (Sl RangeRow)) (ev1 : Int) (s_1v1 : (Sl (Sl FluxRow))) (a_0v1 : Int) (a_1v1 : Int) : Bool :=
  (s18_at2 tv0 ev1 a_0v1 a_1v1 ((s20 (⟨s60.Parts, s_1v1, s60.Beta, s60.Alpha⟩ : Sky) tv0 (0:Int) (280:Int)).2) s_1v1 (((s20 (⟨s60.Parts, s_1v1, s60.Beta, s60.Alpha⟩ : Sky) tv0 (0:Int) (280:Int)).1).Low) (((s20 (⟨s60.Parts, s_1v1, s60.Beta, s60.Alpha⟩ : Sky) tv0 (0:Int) (280:Int)).1).High))
def p18_at1 (tv0 : (Sl RangeRow)) (ev1 : Int) (s_1v1 : (Sl (Sl FluxRow))) (a_0v1 : Int) (a_1v1 : Int) : Bool :=
  (decide ((p20 (⟨s60.Parts, s_1v1, s60.Beta, s60.Alpha⟩ : Sky) tv0 (0:Int) (280:Int) = true)) &&
  (p18_at2 tv0 ev1 a_0v1 a_1v1 ((s20 (⟨s60.Parts, s_1v1, s60.Beta, s60.Alpha⟩ : Sky) tv0 (0:Int) (280:Int)).2) s_1v1 (((s20 (⟨s60.Parts, s_1v1, s60.Beta, s60.Alpha⟩ : Sky) tv0 (0:Int) (280:Int)).1).Low) (((s20 (⟨s60.Parts, s_1v1, s60.Beta, s60.Alpha⟩ : Sky) tv0 (0:Int) (280:Int)).1).High)))
theorem q18_at1 (K : List PA → Prop) (tv0 : (Sl RangeRow)) (ev1 : Int) (s_1v1 : (Sl (Sl FluxRow))) (a_0v1 : Int) (a_1v1 : Int) (s_1v1_g : Nat → List PV) (s_1v1_h : s_1v1_g = fun i => enc_32 (s_1v1.get i)) (hs : p18_at1 tv0 ev1 s_1v1 a_0v1 a_1v1 = true) (hk : K (e18 (s18_at1 tv0 ev1 s_1v1 a_0v1 a_1v1))) : f18_at1 K tv0 ev1 s_1v1.len s_1v1_g a_0v1 a_1v1 := by
  subst s_1v1_h
  refine ofEq (f18_eq1 K tv0 ev1 s_1v1 a_0v1 a_1v1) ?_
  unfold p18_at1 at hs
  unfold s18_at1 at hk
  exact (andK hs fun hc hs => ⟨⟨isE, isE, hc⟩, (q18_at2 K tv0 ev1 a_0v1 a_1v1 ((s20 (⟨s60.Parts, s_1v1, s60.Beta, s60.Alpha⟩ : Sky) tv0 (0:Int) (280:Int)).2) s_1v1 (((s20 (⟨s60.Parts, s_1v1, s60.Beta, s60.Alpha⟩ : Sky) tv0 (0:Int) (280:Int)).1).Low) (((s20 (⟨s60.Parts, s_1v1, s60.Beta, s60.Alpha⟩ : Sky) tv0 (0:Int) (280:Int)).1).High) (fun i => enc_32 (s_1v1.get i)) rfl hs hk)⟩)
def s18_at0 (tv0 : (Sl RangeRow)) (s_1v0 : (Sl (Sl FluxRow))) : Bool :=
  (s18_at1 tv0 ((s19 tv0 (100:Int)).2) s_1v0 (((s19 tv0 (100:Int)).1).Low) (((s19 tv0 (100:Int)).1).High))
def p18_at0 (tv0 : (Sl RangeRow)) (s_1v0 : (Sl (Sl FluxRow))) : Bool :=
  (decide ((p19 tv0 (100:Int) = true)) &&
  (p18_at1 tv0 ((s19 tv0 (100:Int)).2) s_1v0 (((s19 tv0 (100:Int)).1).Low) (((s19 tv0 (100:Int)).1).High)))
theorem q18_at0 (K : List PA → Prop) (tv0 : (Sl RangeRow)) (s_1v0 : (Sl (Sl FluxRow))) (tv0_g : Nat → List PV) (tv0_h : tv0_g = fun i => enc_42 (tv0.get i)) (s_1v0_g : Nat → List PV) (s_1v0_h : s_1v0_g = fun i => enc_32 (s_1v0.get i)) (hs : p18_at0 tv0 s_1v0 = true) (hk : K (e18 (s18_at0 tv0 s_1v0))) : f18_at0 K tv0.len tv0_g s_1v0.len s_1v0_g := by
  subst tv0_h
  subst s_1v0_h
  refine ofEq (f18_eq0 K tv0 s_1v0) ?_
  unfold p18_at0 at hs
  unfold s18_at0 at hk
  exact (andK hs fun hc hs => ⟨⟨isE, hc⟩, (q18_at1 K tv0 ((s19 tv0 (100:Int)).2) s_1v0 (((s19 tv0 (100:Int)).1).Low) (((s19 tv0 (100:Int)).1).High) (fun i => enc_32 (s_1v0.get i)) rfl hs hk)⟩)
def s18 : Bool :=
  (s18_at0 s61 s60.Bins)
def p18 : Bool :=
  (p18_at0 s61 s60.Bins)
theorem q18 (K : List PA → Prop) (hs : p18 = true) (hk : K (e18 (s18))) : vcFun Try.prog G18 ann18 18 [] K := by
  refine ofEq (f18_top K) ?_
  unfold p18 at hs
  unfold s18 at hk
  exact (q18_at0 K s61 s60.Bins (fun i => enc_42 (s61.get i)) rfl (fun i => enc_32 (s60.Bins.get i)) rfl hs hk)
theorem p18_ok : p18 = true := by kernel_rfl
theorem s18_ok : s18 = true := by kernel_rfl
def ctr18 : List PA → COut
  | [] => .tot [.one (.bool true)]
  | _ => .no
theorem call18 : Callable Try.prog 18 := ⟨_, rfl, rfl, by kernel_rfl⟩
theorem ok18 : Ok Try.prog 18 ctr18 := ok_tab okT18 call18 fun args K h => by
  unfold ctr18 at h
  split at h
  · refine ⟨fun _ _ => [], fun _ => false, ann18, q18 K p18_ok ?_⟩
    show K [.one (.bool s18)]
    rw [s18_ok]; exact h
  · exact h.elim
-- 15 overburdenlaw05.few
abbrev T15 : Tabs := Tabs.nil
theorem okT15 : TabsOk Try.prog T15 := TabsOk.nil
abbrev G15 : Ctrs := csm T15 (fun _ _ => []) (fun _ => false)
def ann15 : Ann := ⟨29, [(0, ⟨[1, 2], [2], [], [], []⟩), (1, ⟨[1, 2, 5], [2], [], [], []⟩), (2, ⟨[1, 2, 5, 10], [2], [], [], []⟩), (3, ⟨[1, 2, 5], [2], [], [], []⟩), (4, ⟨[1, 2, 5, 19], [2], [], [], []⟩), (5, ⟨[4], [], [], [], []⟩), (6, ⟨[4], [], [], [], []⟩)],
  [(2, ⟨[1, 2, 5], [2], [], [], []⟩)],
  [],
  [], []⟩
def f15_g0 (s : Sky) (t : (Sl RangeRow)) (iv0 : Int) : St := ⟨[(1, .one (.c (.p (.sl t.len 3 (fun i => enc_42 (t.get i)))))), (2, .one (.c (.ptr 2 0))), (5, .one (.c (.p (.int .i64 iv0))))], [(2, .box 26 [.p (.int .i64 s.Parts), .p (.sl s.Bins.len 1 (fun i => enc_32 (s.Bins.get i))), .p (.int .i64 s.Beta.Low), .p (.int .i64 s.Beta.High), .p (.int .i64 s.Alpha.Low), .p (.int .i64 s.Alpha.High)])], []⟩
def f15_at0 (K : List PA → Prop) (s : Sky) (t : (Sl RangeRow)) (iv0 : Int) : Prop := vc Try.prog G15 ann15 (cdF Try.f15 [1, 0, 1, 0]) (blockK 0 (sqK Try.prog G15 ann15 (cdF Try.f15 [1, 1]) (bodyK Try.prog Try.f15 K))) (f15_g0 s t iv0)
theorem f15_top (s : Sky) (t : (Sl RangeRow)) (K : List PA → Prop) :
  vcFun Try.prog G15 ann15 15 [.agg [.int .i64 s.Parts, .sl s.Bins.len 1 (fun i => enc_32 (s.Bins.get i)), .int .i64 s.Beta.Low, .int .i64 s.Beta.High, .int .i64 s.Alpha.Low, .int .i64 s.Alpha.High], .one (.sl t.len 3 (fun i => enc_42 (t.get i)))] K =
  (f15_at0 K s t (0:Int)) := by kernel_rfl
def f15_step0 (K : List PA → Prop) (X0 : St → Prop) (s : Sky) (t : (Sl RangeRow)) (iv0 : Int) : Prop :=
  (condP (decide (iv0 < (s.Bins.len : Int)))
   (((0 ≤ iv0 ∧ iv0 < (s.Bins.len : Int))) ∧
   (condP (decide (((s.Bins.get iv0.toNat).len : Int) > (50:Int)))
    (K [.one (.bool false)])
    (X0 (f15_g0 s t (w64 (iv0 + (1:Int)))))))
   (condP (decide ((s.Bins.len : Int) ≤ (25:Int)))
    (K [.one (.bool (decide ((t.len : Int) ≤ (50:Int))))])
    (K [.one (.bool false)])))
theorem f15_stepeq0 (K : List PA → Prop) (X0 : St → Prop) (s : Sky) (t : (Sl RangeRow)) (iv0 : Int) :
  vc Try.prog G15 ann15 (cd (cdF Try.f15 [1, 0, 1, 0]) [0]) (loopK Try.prog ann15 2 X0 (blockK 0 (sqK Try.prog G15 ann15 (cdF Try.f15 [1, 1]) (bodyK Try.prog Try.f15 K)))) (f15_g0 s t iv0) =
  f15_step0 K X0 s t iv0 := by kernel_rfl
theorem f15_loop0 (K : List PA → Prop) (s : Sky) (t : (Sl RangeRow)) (iv0 : Int)
  (h : ∀ X0 : St → Prop, (∀ (iv0 : Int), f15_step0 K X0 s t iv0 → X0 (f15_g0 s t iv0)) → X0 (f15_g0 s t iv0)) :
  f15_at0 K s t iv0 := by
  have e : f15_at0 K s t iv0 = (∀ X : St → Prop, (∀ s, vc Try.prog G15 ann15 (cd (cdF Try.f15 [1, 0, 1, 0]) [0]) (loopK Try.prog ann15 2 X (blockK 0 (sqK Try.prog G15 ann15 (cdF Try.f15 [1, 1]) (bodyK Try.prog Try.f15 K)))) s → X s) → X (f15_g0 s t iv0)) := by kernel_rfl
  refine ofEq e ?_
  intro X hX
  refine h X ?_
  intro iv0 hs
  refine hX _ ?_
  have e2 := f15_stepeq0 K X s t iv0
  rw [e2]
  exact hs
abbrev R15 := Bool
abbrev e15 (r : Bool) : List PA := [.one (.bool r)]
attribute [irreducible] f15_at0
def s15_st0 (s : Sky) (t : (Sl RangeRow)) (S0 : Int → Bool) (iv0 : Int) : Bool :=
  (cond (decide (iv0 < (s.Bins.len : Int)))
   (cond (decide (((s.Bins.get iv0.toNat).len : Int) > (50:Int)))
    false
    (S0 (w64 (iv0 + (1:Int)))))
   (cond (decide ((s.Bins.len : Int) ≤ (25:Int)))
    (decide ((t.len : Int) ≤ (50:Int)))
    false))
def p15_st0 (s : Sky) (t : (Sl RangeRow)) (P0 : Int → Bool) (iv0 : Int) : Bool :=
  (cond (decide (iv0 < (s.Bins.len : Int)))
   (decide ((0 ≤ iv0 ∧ iv0 < (s.Bins.len : Int))) &&
   (cond (decide (((s.Bins.get iv0.toNat).len : Int) > (50:Int)))
    true
    (P0 (w64 (iv0 + (1:Int))))))
   true)
def s15_lp0 (s : Sky) (t : (Sl RangeRow)) : Nat → Int → Bool
  | 0 => fun _ => default
  | k + 1 => s15_st0 s t (s15_lp0 s t k)
def p15_lp0 (s : Sky) (t : (Sl RangeRow)) : Nat → Int → Bool
  | 0 => fun _ => false
  | k + 1 => p15_st0 s t (p15_lp0 s t k)
def s15_at0 (s : Sky) (t : (Sl RangeRow)) (iv0 : Int) : Bool := s15_lp0 s t Fuel iv0
def p15_at0 (s : Sky) (t : (Sl RangeRow)) (iv0 : Int) : Bool := p15_lp0 s t Fuel iv0
theorem q15_at0 (K : List PA → Prop) (s : Sky) (t : (Sl RangeRow)) (iv0 : Int) (hs : p15_at0 s t iv0 = true) (hk : K (e15 (s15_at0 s t iv0))) : f15_at0 K s t iv0 := by
  refine f15_loop0 K s t iv0 ?_
  intro X0 hstep
  have key : ∀ (k : Nat) (iv0 : Int), p15_lp0 s t k iv0 = true → K (e15 (s15_lp0 s t k iv0)) → X0 (f15_g0 s t iv0) := by
    intro k
    induction k with
    | zero => intro iv0 hs; exact absurd hs Bool.false_ne_true
    | succ k ih =>
      intro iv0 hs hk
      refine hstep iv0 ?_
      have hs : p15_st0 s t (p15_lp0 s t k) iv0 = true := hs
      have hk : K (e15 (s15_st0 s t (s15_lp0 s t k) iv0)) := hk
      unfold p15_st0 at hs
      unfold s15_st0 at hk
      generalize s15_lp0 s t k = S0 at hk ih
      generalize p15_lp0 s t k = P0 at hs ih
      have hX0 := ih
      exact (condB_go (K := fun r => K (e15 r))
       (fun hs hk => (andK hs fun hc hs => ⟨hc, (condB_go (K := fun r => K (e15 r))
        (fun hs hk => hk)
        (fun hs hk => (hX0 (w64 (iv0 + (1:Int))) hs hk)) hs hk)⟩))
       (fun hs hk => (condP_gt (K := fun r => K (e15 r))
        (fun hk => hk)
        (fun hk => hk) hk)) hs hk)
  exact key _ iv0 hs hk
def s15 (s : Sky) (t : (Sl RangeRow)) : Bool :=
  (s15_at0 s t (0:Int))
def p15 (s : Sky) (t : (Sl RangeRow)) : Bool :=
  (p15_at0 s t (0:Int))
theorem q15 (s : Sky) (t : (Sl RangeRow)) (K : List PA → Prop) (hs : p15 s t = true) (hk : K (e15 (s15 s t))) : vcFun Try.prog G15 ann15 15 [.agg [.int .i64 s.Parts, .sl s.Bins.len 1 (fun i => enc_32 (s.Bins.get i)), .int .i64 s.Beta.Low, .int .i64 s.Beta.High, .int .i64 s.Alpha.Low, .int .i64 s.Alpha.High], .one (.sl t.len 3 (fun i => enc_42 (t.get i)))] K := by
  refine ofEq (f15_top s t K) ?_
  unfold p15 at hs
  unfold s15 at hk
  exact (q15_at0 K s t (0:Int) hs hk)
def ctr15 : List PA → COut
  | [.agg [.int .i64 a0_Parts, .sl a0_Bins_n a0_Bins_s a0_Bins_g, .int .i64 a0_Beta_Low, .int .i64 a0_Beta_High, .int .i64 a0_Alpha_Low, .int .i64 a0_Alpha_High], .one (.sl a1_n a1_s a1_g)] => .det (IsE enc_32 1 a0_Bins_s a0_Bins_g ∧ IsE enc_42 3 a1_s a1_g ∧ p15 (⟨a0_Parts, (⟨a0_Bins_n, decF_32 a0_Bins_g⟩ : (Sl (Sl FluxRow))), (⟨a0_Beta_Low, a0_Beta_High⟩ : Span), (⟨a0_Alpha_Low, a0_Alpha_High⟩ : Span)⟩ : Sky) (⟨a1_n, decF_42 a1_g⟩ : (Sl RangeRow)) = true) [.one (.bool (s15 (⟨a0_Parts, (⟨a0_Bins_n, decF_32 a0_Bins_g⟩ : (Sl (Sl FluxRow))), (⟨a0_Beta_Low, a0_Beta_High⟩ : Span), (⟨a0_Alpha_Low, a0_Alpha_High⟩ : Span)⟩ : Sky) (⟨a1_n, decF_42 a1_g⟩ : (Sl RangeRow))))]
  | _ => .no
theorem call15 : Callable Try.prog 15 := ⟨_, rfl, rfl, by kernel_rfl⟩
theorem ok15 : Ok Try.prog 15 ctr15 := ok_tab okT15 call15 fun args K h => by
  unfold ctr15 at h
  split at h
  · rename_i a0_Parts a0_Bins_n a0_Bins_s a0_Bins_g a0_Beta_Low a0_Beta_High a0_Alpha_Low a0_Alpha_High a1_n a1_s a1_g
    obtain ⟨⟨⟨rfl, a0_Bins_f, rfl⟩, ⟨rfl, a1_f, rfl⟩, hs⟩, hk⟩ := h
    try rw [decF_enc_32 a0_Bins_f] at hs
    try rw [decF_enc_32 a0_Bins_f] at hk
    try rw [decF_enc_42 a1_f] at hs
    try rw [decF_enc_42 a1_f] at hk
    exact ⟨(fun _ _ => []), (fun _ => false), ann15, q15 (⟨a0_Parts, (⟨a0_Bins_n, a0_Bins_f⟩ : (Sl (Sl FluxRow))), (⟨a0_Beta_Low, a0_Beta_High⟩ : Span), (⟨a0_Alpha_Low, a0_Alpha_High⟩ : Span)⟩ : Sky) (⟨a1_n, a1_f⟩ : (Sl RangeRow)) K hs hk⟩
  · exact h.elim
-- 29 overburdenref05.Span
abbrev T29 : Tabs := Tabs.nil
theorem okT29 : TabsOk Try.prog T29 := TabsOk.nil
abbrev G29 : Ctrs := csm T29 (fun _ _ => []) (fun _ => false)
def ann29 : Ann := ⟨24, [(0, ⟨[1, 2, 3], [3], [], [], []⟩), (1, ⟨[6], [], [], [], []⟩)],
  [],
  [],
  [], []⟩
theorem f29_top (s : Span) (low : Int) (high : Int) (K : List PA → Prop) :
  vcFun Try.prog G29 ann29 29 [.agg [.int .i64 s.Low, .int .i64 s.High], .one (.int .i64 low), .one (.int .i64 high)] K =
  (condP (decide (s.Low ≥ low))
   (condP (decide (s.Low ≤ s.High))
    (K [.one (.bool (decide (s.High ≤ high)))])
    (K [.one (.bool false)]))
   (K [.one (.bool false)])) := by kernel_rfl
abbrev R29 := Bool
abbrev e29 (r : Bool) : List PA := [.one (.bool r)]
def s29 (s : Span) (low : Int) (high : Int) : Bool :=
  (cond (decide (s.Low ≥ low))
   (cond (decide (s.Low ≤ s.High))
    (decide (s.High ≤ high))
    false)
   false)
theorem q29 (s : Span) (low : Int) (high : Int) (K : List PA → Prop) (hk : K (e29 (s29 s low high))) : vcFun Try.prog G29 ann29 29 [.agg [.int .i64 s.Low, .int .i64 s.High], .one (.int .i64 low), .one (.int .i64 high)] K := by
  refine ofEq (f29_top s low high K) ?_
  unfold s29 at hk
  exact (condP_gt (K := fun r => K (e29 r))
   (fun hk => (condP_gt (K := fun r => K (e29 r))
    (fun hk => hk)
    (fun hk => hk) hk))
   (fun hk => hk) hk)
def ctr29 : List PA → COut
  | [.agg [.int .i64 a0_Low, .int .i64 a0_High], .one (.int .i64 a1), .one (.int .i64 a2)] => .tot [.one (.bool (s29 (⟨a0_Low, a0_High⟩ : Span) a1 a2))]
  | _ => .no
theorem call29 : Callable Try.prog 29 := ⟨_, rfl, rfl, by kernel_rfl⟩
theorem ok29 : Ok Try.prog 29 ctr29 := ok_tab okT29 call29 fun args K h => by
  unfold ctr29 at h
  split at h
  · rename_i a0_Low a0_High a1 a2
    have hk := h
    exact ⟨(fun _ _ => []), (fun _ => false), ann29, q29 (⟨a0_Low, a0_High⟩ : Span) a1 a2 K hk⟩
  · exact h.elim
-- 58 overburdenref05.in
abbrev T58 : Tabs := Tabs.nil
theorem okT58 : TabsOk Try.prog T58 := TabsOk.nil
abbrev G58 : Ctrs := csm T58 (fun _ _ => []) (fun _ => false)
def ann58 : Ann := ⟨15, [(0, ⟨[0, 1, 2], [], [], [], []⟩), (1, ⟨[6], [], [], [], []⟩)],
  [],
  [],
  [], []⟩
theorem f58_top (x : Int) (low : Int) (high : Int) (K : List PA → Prop) :
  vcFun Try.prog G58 ann58 58 [.one (.int .i64 x), .one (.int .i64 low), .one (.int .i64 high)] K =
  (condP (decide (x ≥ low))
   (K [.one (.bool (decide (x ≤ high)))])
   (K [.one (.bool false)])) := by kernel_rfl
abbrev R58 := Bool
abbrev e58 (r : Bool) : List PA := [.one (.bool r)]
def s58 (x : Int) (low : Int) (high : Int) : Bool :=
  (cond (decide (x ≥ low))
   (decide (x ≤ high))
   false)
theorem q58 (x : Int) (low : Int) (high : Int) (K : List PA → Prop) (hk : K (e58 (s58 x low high))) : vcFun Try.prog G58 ann58 58 [.one (.int .i64 x), .one (.int .i64 low), .one (.int .i64 high)] K := by
  refine ofEq (f58_top x low high K) ?_
  unfold s58 at hk
  exact (condP_gt (K := fun r => K (e58 r))
   (fun hk => hk)
   (fun hk => hk) hk)
def ctr58 : List PA → COut
  | [.one (.int .i64 a0), .one (.int .i64 a1), .one (.int .i64 a2)] => .tot [.one (.bool (s58 a0 a1 a2))]
  | _ => .no
theorem call58 : Callable Try.prog 58 := ⟨_, rfl, rfl, by kernel_rfl⟩
theorem ok58 : Ok Try.prog 58 ctr58 := ok_tab okT58 call58 fun args K h => by
  unfold ctr58 at h
  split at h
  · rename_i a0 a1 a2
    have hk := h
    exact ⟨(fun _ _ => []), (fun _ => false), ann58, q58 a0 a1 a2 K hk⟩
  · exact h.elim
end Go.Proofs
namespace Go.Proofs
open Go Go.Pm
set_option maxRecDepth 100000
set_option linter.unusedVariables false
attribute [local irreducible] Go.Pm.vcFun Go.Pm.vc Go.Pm.vcIter
-- 59 overburdenref05.bin
abbrev T59 : Tabs := ((Tabs.nil.addF 29 ctr29).addF 58 ctr58)
theorem okT59 : TabsOk Try.prog T59 := ((TabsOk.nil.addF ok29).addF ok58)
abbrev G59 : Ctrs := csm T59 (fun _ _ => []) (fun _ => false)
def ann59 : Ann := ⟨79, [(0, ⟨[0, 1], [], [], [], []⟩), (1, ⟨[0, 1, 5], [], [], [], []⟩), (2, ⟨[0, 1, 5, 10], [], [], [], []⟩), (3, ⟨[0, 1, 5], [], [], [], []⟩), (4, ⟨[0, 1, 5, 6], [6], [], [], []⟩), (5, ⟨[0, 1, 5, 68], [], [], [], []⟩), (6, ⟨[4], [], [], [], []⟩), (7, ⟨[4], [], [], [], []⟩)],
  [(2, ⟨[0, 1, 5], [], [], [], []⟩)],
  [(6, ⟨[0, 1, 5, 68], [], [], [], []⟩)],
  [], []⟩
def f59_g0 (parts : Int) (l_a1 : (Sl FluxRow)) (iv0 : Int) : St := ⟨[(0, .one (.c (.p (.int .i64 parts)))), (1, .one (.c (.p (.sl l_a1.len 3 (fun i => enc_44 (l_a1.get i)))))), (5, .one (.c (.p (.int .i64 iv0))))], [], []⟩
def f59_at0 (K : List PA → Prop) (parts : Int) (l_a1 : (Sl FluxRow)) (iv0 : Int) : Prop := vc Try.prog G59 ann59 (cdF Try.f59 [1, 0, 1, 0]) (blockK 0 (sqK Try.prog G59 ann59 (cdF Try.f59 [1, 1]) (bodyK Try.prog Try.f59 K))) (f59_g0 parts l_a1 iv0)
def f59_g1 (parts : Int) (l_a1 : (Sl FluxRow)) (iv1 : Int) (t68v1 : Bool) : St := ⟨[(0, .one (.c (.p (.int .i64 parts)))), (1, .one (.c (.p (.sl l_a1.len 3 (fun i => enc_44 (l_a1.get i)))))), (5, .one (.c (.p (.int .i64 iv1)))), (68, .one (.c (.p (.bool t68v1))))], [], []⟩
def f59_at1 (K : List PA → Prop) (X0 : St → Prop) (parts : Int) (l_a1 : (Sl FluxRow)) (iv1 : Int) (t68v1 : Bool) : Prop := vc Try.prog G59 ann59 (cdF Try.f59 [1, 0, 1, 0, 0, 1, 0, 0, 1, 1]) (blockK 1 (sqK Try.prog G59 ann59 (cdF Try.f59 [1, 0, 1, 0, 0, 1, 1]) (loopK Try.prog ann59 2 X0 (blockK 0 (sqK Try.prog G59 ann59 (cdF Try.f59 [1, 1]) (bodyK Try.prog Try.f59 K)))))) (f59_g1 parts l_a1 iv1 t68v1)
theorem f59_top (parts : Int) (l_a1 : (Sl FluxRow)) (K : List PA → Prop) :
  vcFun Try.prog G59 ann59 59 [.one (.int .i64 parts), .one (.sl l_a1.len 3 (fun i => enc_44 (l_a1.get i)))] K =
  (f59_at0 K parts l_a1 (0:Int)) := by kernel_rfl
def f59_step0 (K : List PA → Prop) (X0 : St → Prop) (parts : Int) (l_a1 : (Sl FluxRow)) (iv0 : Int) : Prop :=
  (condP (decide (iv0 < (l_a1.len : Int)))
   (((0 ≤ iv0 ∧ iv0 < (l_a1.len : Int))) ∧
   (condP (!(s58 ((l_a1.get iv0.toNat).Energy) (1:Int) (1000000:Int)))
    (f59_at1 K X0 parts l_a1 iv0 true)
    (condP (!(s29 ((l_a1.get iv0.toNat).Rate) (0:Int) parts))
     (f59_at1 K X0 parts l_a1 iv0 true)
     (condP (decide (iv0 > (0:Int)))
      (((0 ≤ (w64 (iv0 - (1:Int))) ∧ (w64 (iv0 - (1:Int))) < (l_a1.len : Int))) ∧
      (condP (decide ((l_a1.get iv0.toNat).Energy ≤ (l_a1.get ((w64 (iv0 - (1:Int))).toNat)).Energy))
       (f59_at1 K X0 parts l_a1 iv0 true)
       (((0 ≤ (w64 (iv0 - (1:Int))) ∧ (w64 (iv0 - (1:Int))) < (l_a1.len : Int))) ∧
       (condP (decide ((l_a1.get iv0.toNat).Rate.Low > (l_a1.get ((w64 (iv0 - (1:Int))).toNat)).Rate.Low))
        (f59_at1 K X0 parts l_a1 iv0 true)
        (((0 ≤ (w64 (iv0 - (1:Int))) ∧ (w64 (iv0 - (1:Int))) < (l_a1.len : Int))) ∧
        (f59_at1 K X0 parts l_a1 iv0 (decide ((l_a1.get iv0.toNat).Rate.High > (l_a1.get ((w64 (iv0 - (1:Int))).toNat)).Rate.High))))))))
      (f59_at1 K X0 parts l_a1 iv0 false)))))
   (condP (s58 (l_a1.len : Int) (1:Int) (40:Int))
    (((0 ≤ (0:Int) ∧ (0:Int) < (l_a1.len : Int))) ∧
    (K [.one (.bool ((l_a1.get 0).Energy == (1:Int)))]))
    (K [.one (.bool false)])))
theorem f59_stepeq0 (K : List PA → Prop) (X0 : St → Prop) (parts : Int) (l_a1 : (Sl FluxRow)) (iv0 : Int) :
  vc Try.prog G59 ann59 (cd (cdF Try.f59 [1, 0, 1, 0]) [0]) (loopK Try.prog ann59 2 X0 (blockK 0 (sqK Try.prog G59 ann59 (cdF Try.f59 [1, 1]) (bodyK Try.prog Try.f59 K)))) (f59_g0 parts l_a1 iv0) =
  f59_step0 K X0 parts l_a1 iv0 := by kernel_rfl
theorem f59_loop0 (K : List PA → Prop) (parts : Int) (l_a1 : (Sl FluxRow)) (iv0 : Int)
  (h : ∀ X0 : St → Prop, (∀ (iv0 : Int), f59_step0 K X0 parts l_a1 iv0 → X0 (f59_g0 parts l_a1 iv0)) → X0 (f59_g0 parts l_a1 iv0)) :
  f59_at0 K parts l_a1 iv0 := by
  have e : f59_at0 K parts l_a1 iv0 = (∀ X : St → Prop, (∀ s, vc Try.prog G59 ann59 (cd (cdF Try.f59 [1, 0, 1, 0]) [0]) (loopK Try.prog ann59 2 X (blockK 0 (sqK Try.prog G59 ann59 (cdF Try.f59 [1, 1]) (bodyK Try.prog Try.f59 K)))) s → X s) → X (f59_g0 parts l_a1 iv0)) := by kernel_rfl
  refine ofEq e ?_
  intro X hX
  refine h X ?_
  intro iv0 hs
  refine hX _ ?_
  have e2 := f59_stepeq0 K X parts l_a1 iv0
  rw [e2]
  exact hs
theorem f59_eq1 (K : List PA → Prop) (X0 : St → Prop) (parts : Int) (l_a1 : (Sl FluxRow)) (iv1 : Int) (t68v1 : Bool) :
  f59_at1 K X0 parts l_a1 iv1 t68v1 =
  (condP t68v1
   (K [.one (.bool false)])
   (X0 (f59_g0 parts l_a1 (w64 (iv1 + (1:Int)))))) := by kernel_rfl
abbrev R59 := Bool
abbrev e59 (r : Bool) : List PA := [.one (.bool r)]
attribute [irreducible] f59_at0 f59_at1
def s59_at1 (S0 : Int → Bool) (parts : Int) (l_a1 : (Sl FluxRow)) (iv1 : Int) (t68v1 : Bool) : Bool :=
  (cond t68v1
   false
   (S0 (w64 (iv1 + (1:Int)))))
def p59_at1 (P0 : Int → Bool) (parts : Int) (l_a1 : (Sl FluxRow)) (iv1 : Int) (t68v1 : Bool) : Bool :=
  (cond t68v1
   true
   (P0 (w64 (iv1 + (1:Int)))))
theorem q59_at1 (K : List PA → Prop) (parts : Int) (l_a1 : (Sl FluxRow))
  (X0 : St → Prop) (P0 : Int → Bool) (S0 : Int → Bool)
  (hX0 : ∀ (iv0 : Int), P0 iv0 = true → K (e59 (S0 iv0)) → X0 (f59_g0 parts l_a1 iv0)) (iv1 : Int) (t68v1 : Bool) (hs : p59_at1 P0 parts l_a1 iv1 t68v1 = true) (hk : K (e59 (s59_at1 S0 parts l_a1 iv1 t68v1))) : f59_at1 K X0 parts l_a1 iv1 t68v1 := by
  refine ofEq (f59_eq1 K X0 parts l_a1 iv1 t68v1) ?_
  unfold p59_at1 at hs
  unfold s59_at1 at hk
  exact (condB_go (K := fun r => K (e59 r))
   (fun hs hk => hk)
   (fun hs hk => (hX0 (w64 (iv1 + (1:Int))) hs hk)) hs hk)
def s59_st0 (parts : Int) (l_a1 : (Sl FluxRow)) (S0 : Int → Bool) (iv0 : Int) : Bool :=
  (cond (decide (iv0 < (l_a1.len : Int)))
   (cond (!(s58 ((l_a1.get iv0.toNat).Energy) (1:Int) (1000000:Int)))
    (s59_at1 S0 parts l_a1 iv0 true)
    (cond (!(s29 ((l_a1.get iv0.toNat).Rate) (0:Int) parts))
     (s59_at1 S0 parts l_a1 iv0 true)
     (cond (decide (iv0 > (0:Int)))
      (cond (decide ((l_a1.get iv0.toNat).Energy ≤ (l_a1.get ((w64 (iv0 - (1:Int))).toNat)).Energy))
       (s59_at1 S0 parts l_a1 iv0 true)
       (cond (decide ((l_a1.get iv0.toNat).Rate.Low > (l_a1.get ((w64 (iv0 - (1:Int))).toNat)).Rate.Low))
        (s59_at1 S0 parts l_a1 iv0 true)
        (s59_at1 S0 parts l_a1 iv0 (decide ((l_a1.get iv0.toNat).Rate.High > (l_a1.get ((w64 (iv0 - (1:Int))).toNat)).Rate.High)))))
      (s59_at1 S0 parts l_a1 iv0 false))))
   (cond (s58 (l_a1.len : Int) (1:Int) (40:Int))
    ((l_a1.get 0).Energy == (1:Int))
    false))
def p59_st0 (parts : Int) (l_a1 : (Sl FluxRow)) (P0 : Int → Bool) (iv0 : Int) : Bool :=
  (cond (decide (iv0 < (l_a1.len : Int)))
   (decide ((0 ≤ iv0 ∧ iv0 < (l_a1.len : Int))) &&
   (cond (!(s58 ((l_a1.get iv0.toNat).Energy) (1:Int) (1000000:Int)))
    (p59_at1 P0 parts l_a1 iv0 true)
    (cond (!(s29 ((l_a1.get iv0.toNat).Rate) (0:Int) parts))
     (p59_at1 P0 parts l_a1 iv0 true)
     (cond (decide (iv0 > (0:Int)))
      (decide ((0 ≤ (w64 (iv0 - (1:Int))) ∧ (w64 (iv0 - (1:Int))) < (l_a1.len : Int))) &&
      (cond (decide ((l_a1.get iv0.toNat).Energy ≤ (l_a1.get ((w64 (iv0 - (1:Int))).toNat)).Energy))
       (p59_at1 P0 parts l_a1 iv0 true)
       (decide ((0 ≤ (w64 (iv0 - (1:Int))) ∧ (w64 (iv0 - (1:Int))) < (l_a1.len : Int))) &&
       (cond (decide ((l_a1.get iv0.toNat).Rate.Low > (l_a1.get ((w64 (iv0 - (1:Int))).toNat)).Rate.Low))
        (p59_at1 P0 parts l_a1 iv0 true)
        (decide ((0 ≤ (w64 (iv0 - (1:Int))) ∧ (w64 (iv0 - (1:Int))) < (l_a1.len : Int))) &&
        (p59_at1 P0 parts l_a1 iv0 (decide ((l_a1.get iv0.toNat).Rate.High > (l_a1.get ((w64 (iv0 - (1:Int))).toNat)).Rate.High))))))))
      (p59_at1 P0 parts l_a1 iv0 false)))))
   (cond (s58 (l_a1.len : Int) (1:Int) (40:Int))
    (decide ((0 ≤ (0:Int) ∧ (0:Int) < (l_a1.len : Int))) &&
    true)
    true))
def s59_lp0 (parts : Int) (l_a1 : (Sl FluxRow)) : Nat → Int → Bool
  | 0 => fun _ => default
  | k + 1 => s59_st0 parts l_a1 (s59_lp0 parts l_a1 k)
def p59_lp0 (parts : Int) (l_a1 : (Sl FluxRow)) : Nat → Int → Bool
  | 0 => fun _ => false
  | k + 1 => p59_st0 parts l_a1 (p59_lp0 parts l_a1 k)
def s59_at0 (parts : Int) (l_a1 : (Sl FluxRow)) (iv0 : Int) : Bool := s59_lp0 parts l_a1 Fuel iv0
def p59_at0 (parts : Int) (l_a1 : (Sl FluxRow)) (iv0 : Int) : Bool := p59_lp0 parts l_a1 Fuel iv0
theorem q59_at0 (K : List PA → Prop) (parts : Int) (l_a1 : (Sl FluxRow)) (iv0 : Int) (hs : p59_at0 parts l_a1 iv0 = true) (hk : K (e59 (s59_at0 parts l_a1 iv0))) : f59_at0 K parts l_a1 iv0 := by
  refine f59_loop0 K parts l_a1 iv0 ?_
  intro X0 hstep
  have key : ∀ (k : Nat) (iv0 : Int), p59_lp0 parts l_a1 k iv0 = true → K (e59 (s59_lp0 parts l_a1 k iv0)) → X0 (f59_g0 parts l_a1 iv0) := by
    intro k
    induction k with
    | zero => intro iv0 hs; exact absurd hs Bool.false_ne_true
    | succ k ih =>
      intro iv0 hs hk
      refine hstep iv0 ?_
      have hs : p59_st0 parts l_a1 (p59_lp0 parts l_a1 k) iv0 = true := hs
      have hk : K (e59 (s59_st0 parts l_a1 (s59_lp0 parts l_a1 k) iv0)) := hk
      unfold p59_st0 at hs
      unfold s59_st0 at hk
      generalize s59_lp0 parts l_a1 k = S0 at hk ih
      generalize p59_lp0 parts l_a1 k = P0 at hs ih
      have hX0 := ih
      exact (condB_go (K := fun r => K (e59 r))
       (fun hs hk => (andK hs fun hc hs => ⟨hc, (condB_go (K := fun r => K (e59 r))
        (fun hs hk => (q59_at1 K parts l_a1 X0 P0 S0 hX0 iv0 true hs hk))
        (fun hs hk => (condB_go (K := fun r => K (e59 r))
         (fun hs hk => (q59_at1 K parts l_a1 X0 P0 S0 hX0 iv0 true hs hk))
         (fun hs hk => (condB_go (K := fun r => K (e59 r))
          (fun hs hk => (andK hs fun hc hs => ⟨hc, (condB_go (K := fun r => K (e59 r))
           (fun hs hk => (q59_at1 K parts l_a1 X0 P0 S0 hX0 iv0 true hs hk))
           (fun hs hk => (andK hs fun hc hs => ⟨hc, (condB_go (K := fun r => K (e59 r))
            (fun hs hk => (q59_at1 K parts l_a1 X0 P0 S0 hX0 iv0 true hs hk))
            (fun hs hk => (andK hs fun hc hs => ⟨hc, (q59_at1 K parts l_a1 X0 P0 S0 hX0 iv0 (decide ((l_a1.get iv0.toNat).Rate.High > (l_a1.get ((w64 (iv0 - (1:Int))).toNat)).Rate.High)) hs hk)⟩)) hs hk)⟩)) hs hk)⟩))
          (fun hs hk => (q59_at1 K parts l_a1 X0 P0 S0 hX0 iv0 false hs hk)) hs hk)) hs hk)) hs hk)⟩))
       (fun hs hk => (condB_go (K := fun r => K (e59 r))
        (fun hs hk => (andK hs fun hc hs => ⟨hc, hk⟩))
        (fun hs hk => hk) hs hk)) hs hk)
  exact key _ iv0 hs hk
def s59 (parts : Int) (l_a1 : (Sl FluxRow)) : Bool :=
  (s59_at0 parts l_a1 (0:Int))
def p59 (parts : Int) (l_a1 : (Sl FluxRow)) : Bool :=
  (p59_at0 parts l_a1 (0:Int))
theorem q59 (parts : Int) (l_a1 : (Sl FluxRow)) (K : List PA → Prop) (hs : p59 parts l_a1 = true) (hk : K (e59 (s59 parts l_a1))) : vcFun Try.prog G59 ann59 59 [.one (.int .i64 parts), .one (.sl l_a1.len 3 (fun i => enc_44 (l_a1.get i)))] K := by
  refine ofEq (f59_top parts l_a1 K) ?_
  unfold p59 at hs
  unfold s59 at hk
  exact (q59_at0 K parts l_a1 (0:Int) hs hk)
def ctr59 : List PA → COut
  | [.one (.int .i64 a0), .one (.sl a1_n a1_s a1_g)] => .det (IsE enc_44 3 a1_s a1_g ∧ p59 a0 (⟨a1_n, decF_44 a1_g⟩ : (Sl FluxRow)) = true) [.one (.bool (s59 a0 (⟨a1_n, decF_44 a1_g⟩ : (Sl FluxRow))))]
  | _ => .no
theorem call59 : Callable Try.prog 59 := ⟨_, rfl, rfl, by kernel_rfl⟩
theorem ok59 : Ok Try.prog 59 ctr59 := ok_tab okT59 call59 fun args K h => by
  unfold ctr59 at h
  split at h
  · rename_i a0 a1_n a1_s a1_g
    obtain ⟨⟨⟨rfl, a1_f, rfl⟩, hs⟩, hk⟩ := h
    try rw [decF_enc_44 a1_f] at hs
    try rw [decF_enc_44 a1_f] at hk
    exact ⟨(fun _ _ => []), (fun _ => false), ann59, q59 a0 (⟨a1_n, a1_f⟩ : (Sl FluxRow)) K hs hk⟩
  · exact h.elim
-- 16 overburdenref05.Sky
abbrev T16 : Tabs := (((Tabs.nil.addF 29 ctr29).addF 58 ctr58).addF 59 ctr59)
theorem okT16 : TabsOk Try.prog T16 := (((TabsOk.nil.addF ok29).addF ok58).addF ok59)
abbrev G16 : Ctrs := csm T16 (fun _ _ => []) (fun _ => false)
def ann16 : Ann := ⟨43, [(0, ⟨[1], [1], [], [], []⟩), (1, ⟨[1, 26], [1], [], [], []⟩), (2, ⟨[2], [], [], [], []⟩), (3, ⟨[1, 3], [1], [], [], []⟩), (4, ⟨[1, 3, 31], [1], [], [], []⟩), (5, ⟨[1, 3], [1], [], [], []⟩), (6, ⟨[1, 3, 42], [1], [], [], []⟩), (7, ⟨[2], [], [], [], []⟩), (8, ⟨[2], [], [], [], []⟩)],
  [(4, ⟨[1, 3], [1], [], [], []⟩)],
  [(2, ⟨[1, 26], [1], [], [], []⟩), (3, ⟨[1], [1], [], [], []⟩), (7, ⟨[1, 3, 42], [1], [], [], []⟩)],
  [], []⟩
def f16_g0 (s : Sky) (t26v0 : Bool) (s_1v0_n : Nat) (s_1v0_g : Nat → List PV) : St := ⟨[(1, .one (.c (.ptr 1 0))), (26, .one (.c (.p (.bool t26v0))))], [(1, .box 26 [.p (.int .i64 s.Parts), .p (.sl s_1v0_n 1 s_1v0_g), .p (.int .i64 s.Beta.Low), .p (.int .i64 s.Beta.High), .p (.int .i64 s.Alpha.Low), .p (.int .i64 s.Alpha.High)])], []⟩
def f16_at0 (K : List PA → Prop) (s : Sky) (t26v0 : Bool) (s_1v0_n : Nat) (s_1v0_g : Nat → List PV) : Prop := vc Try.prog G16 ann16 (cdF Try.f16 [1, 0, 1]) (sqK Try.prog G16 ann16 (cdF Try.f16 [1, 1]) (bodyK Try.prog Try.f16 K)) (f16_g0 s t26v0 s_1v0_n s_1v0_g)
def f16_g1 (s : Sky) (s_1v1_n : Nat) (s_1v1_g : Nat → List PV) : St := ⟨[(1, .one (.c (.ptr 1 0)))], [(1, .box 26 [.p (.int .i64 s.Parts), .p (.sl s_1v1_n 1 s_1v1_g), .p (.int .i64 s.Beta.Low), .p (.int .i64 s.Beta.High), .p (.int .i64 s.Alpha.Low), .p (.int .i64 s.Alpha.High)])], []⟩
def f16_at1 (K : List PA → Prop) (s : Sky) (s_1v1_n : Nat) (s_1v1_g : Nat → List PV) : Prop := vc Try.prog G16 ann16 (cdF Try.f16 [1, 1]) (bodyK Try.prog Try.f16 K) (f16_g1 s s_1v1_n s_1v1_g)
def f16_g2 (s : Sky) (iv2 : Int) (s_1v2_n : Nat) (s_1v2_g : Nat → List PV) : St := ⟨[(1, .one (.c (.ptr 1 0))), (3, .one (.c (.p (.int .i64 iv2))))], [(1, .box 26 [.p (.int .i64 s.Parts), .p (.sl s_1v2_n 1 s_1v2_g), .p (.int .i64 s.Beta.Low), .p (.int .i64 s.Beta.High), .p (.int .i64 s.Alpha.Low), .p (.int .i64 s.Alpha.High)])], []⟩
def f16_at2 (K : List PA → Prop) (s : Sky) (iv2 : Int) (s_1v2_n : Nat) (s_1v2_g : Nat → List PV) : Prop := vc Try.prog G16 ann16 (cdF Try.f16 [1, 1, 0, 1, 0]) (blockK 0 (sqK Try.prog G16 ann16 (cdF Try.f16 [1, 1, 1]) (bodyK Try.prog Try.f16 K))) (f16_g2 s iv2 s_1v2_n s_1v2_g)
def f16_g3 (s : Sky) (iv3 : Int) (t42v3 : Bool) (s_1v3_n : Nat) (s_1v3_g : Nat → List PV) : St := ⟨[(1, .one (.c (.ptr 1 0))), (3, .one (.c (.p (.int .i64 iv3)))), (42, .one (.c (.p (.bool t42v3))))], [(1, .box 26 [.p (.int .i64 s.Parts), .p (.sl s_1v3_n 1 s_1v3_g), .p (.int .i64 s.Beta.Low), .p (.int .i64 s.Beta.High), .p (.int .i64 s.Alpha.Low), .p (.int .i64 s.Alpha.High)])], []⟩
def f16_at3 (K : List PA → Prop) (X2 : St → Prop) (s : Sky) (iv3 : Int) (t42v3 : Bool) (s_1v3_n : Nat) (s_1v3_g : Nat → List PV) : Prop := vc Try.prog G16 ann16 (cdF Try.f16 [1, 1, 0, 1, 0, 0, 1, 0, 0, 1]) (blockK 1 (sqK Try.prog G16 ann16 (cdF Try.f16 [1, 1, 0, 1, 0, 0, 1, 1]) (loopK Try.prog ann16 4 X2 (blockK 0 (sqK Try.prog G16 ann16 (cdF Try.f16 [1, 1, 1]) (bodyK Try.prog Try.f16 K)))))) (f16_g3 s iv3 t42v3 s_1v3_n s_1v3_g)
theorem f16_top (s : Sky) (K : List PA → Prop) :
  vcFun Try.prog G16 ann16 16 [.agg [.int .i64 s.Parts, .sl s.Bins.len 1 (fun i => enc_32 (s.Bins.get i)), .int .i64 s.Beta.Low, .int .i64 s.Beta.High, .int .i64 s.Alpha.Low, .int .i64 s.Alpha.High]] K =
  (condP (!(s58 s.Parts (2:Int) (1000000:Int)))
   (f16_at0 K s true s.Bins.len (fun i => enc_32 (s.Bins.get i)))
   (condP (!(s58 (s.Bins.len : Int) (1:Int) (20:Int)))
    (f16_at0 K s true s.Bins.len (fun i => enc_32 (s.Bins.get i)))
    (condP (!(s29 s.Beta (-100:Int) (100:Int)))
     (f16_at0 K s true s.Bins.len (fun i => enc_32 (s.Bins.get i)))
     (f16_at0 K s (!(s29 s.Alpha (-100:Int) (100:Int))) s.Bins.len (fun i => enc_32 (s.Bins.get i)))))) := by kernel_rfl
theorem f16_eq0 (K : List PA → Prop) (s : Sky) (t26v0 : Bool) (s_1v0 : (Sl (Sl FluxRow))) :
  f16_at0 K s t26v0 s_1v0.len (fun i => enc_32 (s_1v0.get i)) =
  (condP t26v0
   (K [.one (.bool false)])
   (f16_at1 K s s_1v0.len (fun i => enc_32 (s_1v0.get i)))) := by kernel_rfl
theorem f16_eq1 (K : List PA → Prop) (s : Sky) (s_1v1 : (Sl (Sl FluxRow))) :
  f16_at1 K s s_1v1.len (fun i => enc_32 (s_1v1.get i)) =
  (f16_at2 K s (0:Int) s_1v1.len (fun i => enc_32 (s_1v1.get i))) := by kernel_rfl
def f16_step2 (K : List PA → Prop) (X2 : St → Prop) (s : Sky) (iv2 : Int) (s_1v2 : (Sl (Sl FluxRow))) : Prop :=
  (condP (decide (iv2 < (s_1v2.len : Int)))
   (((0 ≤ iv2 ∧ iv2 < (s_1v2.len : Int))) ∧
   ((IsE enc_44 3 3 (fun i => enc_44 ((s_1v2.get iv2.toNat).get i)) ∧ (p59 s.Parts (s_1v2.get iv2.toNat) = true)) ∧
   (f16_at3 K X2 s iv2 (!(s59 s.Parts (s_1v2.get iv2.toNat))) s_1v2.len (fun i => enc_32 (s_1v2.get i)))))
   (K [.one (.bool true)]))
theorem f16_stepeq2 (K : List PA → Prop) (X2 : St → Prop) (s : Sky) (iv2 : Int) (s_1v2 : (Sl (Sl FluxRow))) :
  vc Try.prog G16 ann16 (cd (cdF Try.f16 [1, 1, 0, 1, 0]) [0]) (loopK Try.prog ann16 4 X2 (blockK 0 (sqK Try.prog G16 ann16 (cdF Try.f16 [1, 1, 1]) (bodyK Try.prog Try.f16 K)))) (f16_g2 s iv2 s_1v2.len (fun i => enc_32 (s_1v2.get i))) =
  f16_step2 K X2 s iv2 s_1v2 := by kernel_rfl
theorem f16_loop2 (K : List PA → Prop) (s : Sky) (iv2 : Int) (s_1v2_n : Nat) (s_1v2_g : Nat → List PV)
  (h : ∀ X2 : St → Prop, (∀ (iv2 : Int) (s_1v2 : (Sl (Sl FluxRow))), f16_step2 K X2 s iv2 s_1v2 → X2 (f16_g2 s iv2 s_1v2.len (fun i => enc_32 (s_1v2.get i)))) → X2 (f16_g2 s iv2 s_1v2_n s_1v2_g)) :
  f16_at2 K s iv2 s_1v2_n s_1v2_g := by
  have e : f16_at2 K s iv2 s_1v2_n s_1v2_g = (∀ X : St → Prop, (∀ s, vc Try.prog G16 ann16 (cd (cdF Try.f16 [1, 1, 0, 1, 0]) [0]) (loopK Try.prog ann16 4 X (blockK 0 (sqK Try.prog G16 ann16 (cdF Try.f16 [1, 1, 1]) (bodyK Try.prog Try.f16 K)))) s → X s) → X (f16_g2 s iv2 s_1v2_n s_1v2_g)) := by kernel_rfl
  refine ofEq e ?_
  intro X hX
  refine h X ?_
  intro iv2 s_1v2 hs
  refine hX _ ?_
  have e2 := f16_stepeq2 K X s iv2 s_1v2
  rw [e2]
  exact hs
theorem f16_eq3 (K : List PA → Prop) (X2 : St → Prop) (s : Sky) (iv3 : Int) (t42v3 : Bool) (s_1v3 : (Sl (Sl FluxRow))) :
  f16_at3 K X2 s iv3 t42v3 s_1v3.len (fun i => enc_32 (s_1v3.get i)) =
  (condP t42v3
   (K [.one (.bool false)])
   (X2 (f16_g2 s (w64 (iv3 + (1:Int))) s_1v3.len (fun i => enc_32 (s_1v3.get i))))) := by kernel_rfl
abbrev R16 := Bool
abbrev e16 (r : Bool) : List PA := [.one (.bool r)]
attribute [irreducible] f16_at0 f16_at1 f16_at2 f16_at3
def s16_at3 (S2 : Int → (Sl (Sl FluxRow)) → Bool) (s : Sky) (iv3 : Int) (t42v3 : Bool) (s_1v3 : (Sl (Sl FluxRow))) : Bool :=
  (cond t42v3
   false
   (S2 (w64 (iv3 + (1:Int))) s_1v3))
def p16_at3 (P2 : Int → (Sl (Sl FluxRow)) → Bool) (s : Sky) (iv3 : Int) (t42v3 : Bool) (s_1v3 : (Sl (Sl FluxRow))) : Bool :=
  (cond t42v3
   true
   (P2 (w64 (iv3 + (1:Int))) s_1v3))
theorem q16_at3 (K : List PA → Prop) (s : Sky)
  (X2 : St → Prop) (P2 : Int → (Sl (Sl FluxRow)) → Bool) (S2 : Int → (Sl (Sl FluxRow)) → Bool)
  (hX2 : ∀ (iv2 : Int) (s_1v2 : (Sl (Sl FluxRow))) (s_1v2_g : Nat → List PV) (s_1v2_h : s_1v2_g = fun i => enc_32 (s_1v2.get i)), P2 iv2 s_1v2 = true → K (e16 (S2 iv2 s_1v2)) → X2 (f16_g2 s iv2 s_1v2.len s_1v2_g)) (iv3 : Int) (t42v3 : Bool) (s_1v3 : (Sl (Sl FluxRow))) (s_1v3_g : Nat → List PV) (s_1v3_h : s_1v3_g = fun i => enc_32 (s_1v3.get i)) (hs : p16_at3 P2 s iv3 t42v3 s_1v3 = true) (hk : K (e16 (s16_at3 S2 s iv3 t42v3 s_1v3))) : f16_at3 K X2 s iv3 t42v3 s_1v3.len s_1v3_g := by
  subst s_1v3_h
  refine ofEq (f16_eq3 K X2 s iv3 t42v3 s_1v3) ?_
  unfold p16_at3 at hs
  unfold s16_at3 at hk
  exact (condB_go (K := fun r => K (e16 r))
   (fun hs hk => hk)
   (fun hs hk => (hX2 (w64 (iv3 + (1:Int))) s_1v3 (fun i => enc_32 (s_1v3.get i)) rfl hs hk)) hs hk)
def s16_st2 (s : Sky) (S2 : Int → (Sl (Sl FluxRow)) → Bool) (iv2 : Int) (s_1v2 : (Sl (Sl FluxRow))) : Bool :=
  (cond (decide (iv2 < (s_1v2.len : Int)))
   (s16_at3 S2 s iv2 (!(s59 s.Parts (s_1v2.get iv2.toNat))) s_1v2)
   true)
def p16_st2 (s : Sky) (P2 : Int → (Sl (Sl FluxRow)) → Bool) (iv2 : Int) (s_1v2 : (Sl (Sl FluxRow))) : Bool :=
  (cond (decide (iv2 < (s_1v2.len : Int)))
   (decide ((0 ≤ iv2 ∧ iv2 < (s_1v2.len : Int))) &&
   (decide ((p59 s.Parts (s_1v2.get iv2.toNat) = true)) &&
   (p16_at3 P2 s iv2 (!(s59 s.Parts (s_1v2.get iv2.toNat))) s_1v2)))
   true)
def s16_lp2 (s : Sky) : Nat → Int → (Sl (Sl FluxRow)) → Bool
  | 0 => fun _ _ => default
  | k + 1 => s16_st2 s (s16_lp2 s k)
def p16_lp2 (s : Sky) : Nat → Int → (Sl (Sl FluxRow)) → Bool
  | 0 => fun _ _ => false
  | k + 1 => p16_st2 s (p16_lp2 s k)
def s16_at2 (s : Sky) (iv2 : Int) (s_1v2 : (Sl (Sl FluxRow))) : Bool := s16_lp2 s Fuel iv2 s_1v2
def p16_at2 (s : Sky) (iv2 : Int) (s_1v2 : (Sl (Sl FluxRow))) : Bool := p16_lp2 s Fuel iv2 s_1v2
theorem q16_at2 (K : List PA → Prop) (s : Sky) (iv2 : Int) (s_1v2 : (Sl (Sl FluxRow))) (s_1v2_g : Nat → List PV) (s_1v2_h : s_1v2_g = fun i => enc_32 (s_1v2.get i)) (hs : p16_at2 s iv2 s_1v2 = true) (hk : K (e16 (s16_at2 s iv2 s_1v2))) : f16_at2 K s iv2 s_1v2.len s_1v2_g := by
  refine f16_loop2 K s iv2 s_1v2.len s_1v2_g ?_
  intro X2 hstep
  have key : ∀ (k : Nat) (iv2 : Int) (s_1v2 : (Sl (Sl FluxRow))) (s_1v2_g : Nat → List PV) (s_1v2_h : s_1v2_g = fun i => enc_32 (s_1v2.get i)), p16_lp2 s k iv2 s_1v2 = true → K (e16 (s16_lp2 s k iv2 s_1v2)) → X2 (f16_g2 s iv2 s_1v2.len s_1v2_g) := by
    intro k
    induction k with
    | zero => intro iv2 s_1v2 s_1v2_g s_1v2_h hs; exact absurd hs Bool.false_ne_true
    | succ k ih =>
      intro iv2 s_1v2 s_1v2_g s_1v2_h hs hk
      subst s_1v2_h
      refine hstep iv2 s_1v2 ?_
      have hs : p16_st2 s (p16_lp2 s k) iv2 s_1v2 = true := hs
      have hk : K (e16 (s16_st2 s (s16_lp2 s k) iv2 s_1v2)) := hk
      unfold p16_st2 at hs
      unfold s16_st2 at hk
      generalize s16_lp2 s k = S2 at hk ih
      generalize p16_lp2 s k = P2 at hs ih
      have hX2 := ih
      exact (condB_go (K := fun r => K (e16 r))
       (fun hs hk => (andK hs fun hc hs => ⟨hc, (andK hs fun hc hs => ⟨⟨isE, hc⟩, (q16_at3 K s X2 P2 S2 hX2 iv2 (!(s59 s.Parts (s_1v2.get iv2.toNat))) s_1v2 (fun i => enc_32 (s_1v2.get i)) rfl hs hk)⟩)⟩))
       (fun hs hk => hk) hs hk)
  exact key _ iv2 s_1v2 s_1v2_g s_1v2_h hs hk
def s16_at1 (s : Sky) (s_1v1 : (Sl (Sl FluxRow))) : Bool :=
  (s16_at2 s (0:Int) s_1v1)
def p16_at1 (s : Sky) (s_1v1 : (Sl (Sl FluxRow))) : Bool :=
  (p16_at2 s (0:Int) s_1v1)
theorem q16_at1 (K : List PA → Prop) (s : Sky) (s_1v1 : (Sl (Sl FluxRow))) (s_1v1_g : Nat → List PV) (s_1v1_h : s_1v1_g = fun i => enc_32 (s_1v1.get i)) (hs : p16_at1 s s_1v1 = true) (hk : K (e16 (s16_at1 s s_1v1))) : f16_at1 K s s_1v1.len s_1v1_g := by
  subst s_1v1_h
  refine ofEq (f16_eq1 K s s_1v1) ?_
  unfold p16_at1 at hs
  unfold s16_at1 at hk
  exact (q16_at2 K s (0:Int) s_1v1 (fun i => enc_32 (s_1v1.get i)) rfl hs hk)
def s16_at0 (s : Sky) (t26v0 : Bool) (s_1v0 : (Sl (Sl FluxRow))) : Bool :=
  (cond t26v0
   false
   (s16_at1 s s_1v0))
def p16_at0 (s : Sky) (t26v0 : Bool) (s_1v0 : (Sl (Sl FluxRow))) : Bool :=
  (cond t26v0
   true
   (p16_at1 s s_1v0))
theorem q16_at0 (K : List PA → Prop) (s : Sky) (t26v0 : Bool) (s_1v0 : (Sl (Sl FluxRow))) (s_1v0_g : Nat → List PV) (s_1v0_h : s_1v0_g = fun i => enc_32 (s_1v0.get i)) (hs : p16_at0 s t26v0 s_1v0 = true) (hk : K (e16 (s16_at0 s t26v0 s_1v0))) : f16_at0 K s t26v0 s_1v0.len s_1v0_g := by
  subst s_1v0_h
  refine ofEq (f16_eq0 K s t26v0 s_1v0) ?_
  unfold p16_at0 at hs
  unfold s16_at0 at hk
  exact (condB_go (K := fun r => K (e16 r))
   (fun hs hk => hk)
   (fun hs hk => (q16_at1 K s s_1v0 (fun i => enc_32 (s_1v0.get i)) rfl hs hk)) hs hk)
def s16 (s : Sky) : Bool :=
  (cond (!(s58 s.Parts (2:Int) (1000000:Int)))
   (s16_at0 s true s.Bins)
   (cond (!(s58 (s.Bins.len : Int) (1:Int) (20:Int)))
    (s16_at0 s true s.Bins)
    (cond (!(s29 s.Beta (-100:Int) (100:Int)))
     (s16_at0 s true s.Bins)
     (s16_at0 s (!(s29 s.Alpha (-100:Int) (100:Int))) s.Bins))))
def p16 (s : Sky) : Bool :=
  (cond (!(s58 s.Parts (2:Int) (1000000:Int)))
   (p16_at0 s true s.Bins)
   (cond (!(s58 (s.Bins.len : Int) (1:Int) (20:Int)))
    (p16_at0 s true s.Bins)
    (cond (!(s29 s.Beta (-100:Int) (100:Int)))
     (p16_at0 s true s.Bins)
     (p16_at0 s (!(s29 s.Alpha (-100:Int) (100:Int))) s.Bins))))
theorem q16 (s : Sky) (K : List PA → Prop) (hs : p16 s = true) (hk : K (e16 (s16 s))) : vcFun Try.prog G16 ann16 16 [.agg [.int .i64 s.Parts, .sl s.Bins.len 1 (fun i => enc_32 (s.Bins.get i)), .int .i64 s.Beta.Low, .int .i64 s.Beta.High, .int .i64 s.Alpha.Low, .int .i64 s.Alpha.High]] K := by
  refine ofEq (f16_top s K) ?_
  unfold p16 at hs
  unfold s16 at hk
  exact (condB_go (K := fun r => K (e16 r))
   (fun hs hk => (q16_at0 K s true s.Bins (fun i => enc_32 (s.Bins.get i)) rfl hs hk))
   (fun hs hk => (condB_go (K := fun r => K (e16 r))
    (fun hs hk => (q16_at0 K s true s.Bins (fun i => enc_32 (s.Bins.get i)) rfl hs hk))
    (fun hs hk => (condB_go (K := fun r => K (e16 r))
     (fun hs hk => (q16_at0 K s true s.Bins (fun i => enc_32 (s.Bins.get i)) rfl hs hk))
     (fun hs hk => (q16_at0 K s (!(s29 s.Alpha (-100:Int) (100:Int))) s.Bins (fun i => enc_32 (s.Bins.get i)) rfl hs hk)) hs hk)) hs hk)) hs hk)
def ctr16 : List PA → COut
  | [.agg [.int .i64 a0_Parts, .sl a0_Bins_n a0_Bins_s a0_Bins_g, .int .i64 a0_Beta_Low, .int .i64 a0_Beta_High, .int .i64 a0_Alpha_Low, .int .i64 a0_Alpha_High]] => .det (IsE enc_32 1 a0_Bins_s a0_Bins_g ∧ p16 (⟨a0_Parts, (⟨a0_Bins_n, decF_32 a0_Bins_g⟩ : (Sl (Sl FluxRow))), (⟨a0_Beta_Low, a0_Beta_High⟩ : Span), (⟨a0_Alpha_Low, a0_Alpha_High⟩ : Span)⟩ : Sky) = true) [.one (.bool (s16 (⟨a0_Parts, (⟨a0_Bins_n, decF_32 a0_Bins_g⟩ : (Sl (Sl FluxRow))), (⟨a0_Beta_Low, a0_Beta_High⟩ : Span), (⟨a0_Alpha_Low, a0_Alpha_High⟩ : Span)⟩ : Sky)))]
  | _ => .no
theorem call16 : Callable Try.prog 16 := ⟨_, rfl, rfl, by kernel_rfl⟩
theorem ok16 : Ok Try.prog 16 ctr16 := ok_tab okT16 call16 fun args K h => by
  unfold ctr16 at h
  split at h
  · rename_i a0_Parts a0_Bins_n a0_Bins_s a0_Bins_g a0_Beta_Low a0_Beta_High a0_Alpha_Low a0_Alpha_High
    obtain ⟨⟨⟨rfl, a0_Bins_f, rfl⟩, hs⟩, hk⟩ := h
    try rw [decF_enc_32 a0_Bins_f] at hs
    try rw [decF_enc_32 a0_Bins_f] at hk
    exact ⟨(fun _ _ => []), (fun _ => false), ann16, q16 (⟨a0_Parts, (⟨a0_Bins_n, a0_Bins_f⟩ : (Sl (Sl FluxRow))), (⟨a0_Beta_Low, a0_Beta_High⟩ : Span), (⟨a0_Alpha_Low, a0_Alpha_High⟩ : Span)⟩ : Sky) K hs hk⟩
  · exact h.elim
-- 17 overburdenref05.Ranges
abbrev T17 : Tabs := ((Tabs.nil.addF 29 ctr29).addF 58 ctr58)
theorem okT17 : TabsOk Try.prog T17 := ((TabsOk.nil.addF ok29).addF ok58)
abbrev G17 : Ctrs := csm T17 (fun _ _ => []) (fun _ => false)
def ann17 : Ann := ⟨69, [(0, ⟨[0], [], [], [], []⟩), (1, ⟨[0, 3], [], [], [], []⟩), (2, ⟨[0, 3, 8], [], [], [], []⟩), (3, ⟨[0, 3], [], [], [], []⟩), (4, ⟨[0, 3, 4], [4], [], [], []⟩), (5, ⟨[0, 3, 65], [], [], [], []⟩), (6, ⟨[2], [], [], [], []⟩), (7, ⟨[2], [], [], [], []⟩)],
  [(2, ⟨[0, 3], [], [], [], []⟩)],
  [(6, ⟨[0, 3, 65], [], [], [], []⟩)],
  [], []⟩
def f17_g0 (t : (Sl RangeRow)) (iv0 : Int) : St := ⟨[(0, .one (.c (.p (.sl t.len 3 (fun i => enc_42 (t.get i)))))), (3, .one (.c (.p (.int .i64 iv0))))], [], []⟩
def f17_at0 (K : List PA → Prop) (t : (Sl RangeRow)) (iv0 : Int) : Prop := vc Try.prog G17 ann17 (cdF Try.f17 [1, 0, 1, 0]) (blockK 0 (sqK Try.prog G17 ann17 (cdF Try.f17 [1, 1]) (bodyK Try.prog Try.f17 K))) (f17_g0 t iv0)
def f17_g1 (t : (Sl RangeRow)) (iv1 : Int) (t65v1 : Bool) : St := ⟨[(0, .one (.c (.p (.sl t.len 3 (fun i => enc_42 (t.get i)))))), (3, .one (.c (.p (.int .i64 iv1)))), (65, .one (.c (.p (.bool t65v1))))], [], []⟩
def f17_at1 (K : List PA → Prop) (X0 : St → Prop) (t : (Sl RangeRow)) (iv1 : Int) (t65v1 : Bool) : Prop := vc Try.prog G17 ann17 (cdF Try.f17 [1, 0, 1, 0, 0, 1, 0, 0, 1, 1]) (blockK 1 (sqK Try.prog G17 ann17 (cdF Try.f17 [1, 0, 1, 0, 0, 1, 1]) (loopK Try.prog ann17 2 X0 (blockK 0 (sqK Try.prog G17 ann17 (cdF Try.f17 [1, 1]) (bodyK Try.prog Try.f17 K)))))) (f17_g1 t iv1 t65v1)
theorem f17_top (t : (Sl RangeRow)) (K : List PA → Prop) :
  vcFun Try.prog G17 ann17 17 [.one (.sl t.len 3 (fun i => enc_42 (t.get i)))] K =
  (f17_at0 K t (0:Int)) := by kernel_rfl
def f17_step0 (K : List PA → Prop) (X0 : St → Prop) (t : (Sl RangeRow)) (iv0 : Int) : Prop :=
  (condP (decide (iv0 < (t.len : Int)))
   (((0 ≤ iv0 ∧ iv0 < (t.len : Int))) ∧
   (condP (!(s58 ((t.get iv0.toNat).Energy) (1:Int) (1000000:Int)))
    (f17_at1 K X0 t iv0 true)
    (condP (!(s29 ((t.get iv0.toNat).Range) (0:Int) (1000000:Int)))
     (f17_at1 K X0 t iv0 true)
     (condP (decide (iv0 > (0:Int)))
      (((0 ≤ (w64 (iv0 - (1:Int))) ∧ (w64 (iv0 - (1:Int))) < (t.len : Int))) ∧
      (condP (decide ((t.get iv0.toNat).Energy ≤ (t.get ((w64 (iv0 - (1:Int))).toNat)).Energy))
       (f17_at1 K X0 t iv0 true)
       (((0 ≤ (w64 (iv0 - (1:Int))) ∧ (w64 (iv0 - (1:Int))) < (t.len : Int))) ∧
       (condP (decide ((t.get iv0.toNat).Range.Low < (t.get ((w64 (iv0 - (1:Int))).toNat)).Range.Low))
        (f17_at1 K X0 t iv0 true)
        (((0 ≤ (w64 (iv0 - (1:Int))) ∧ (w64 (iv0 - (1:Int))) < (t.len : Int))) ∧
        (f17_at1 K X0 t iv0 (decide ((t.get iv0.toNat).Range.High < (t.get ((w64 (iv0 - (1:Int))).toNat)).Range.High))))))))
      (f17_at1 K X0 t iv0 false)))))
   (K [.one (.bool (s58 (t.len : Int) (1:Int) (40:Int)))]))
theorem f17_stepeq0 (K : List PA → Prop) (X0 : St → Prop) (t : (Sl RangeRow)) (iv0 : Int) :
  vc Try.prog G17 ann17 (cd (cdF Try.f17 [1, 0, 1, 0]) [0]) (loopK Try.prog ann17 2 X0 (blockK 0 (sqK Try.prog G17 ann17 (cdF Try.f17 [1, 1]) (bodyK Try.prog Try.f17 K)))) (f17_g0 t iv0) =
  f17_step0 K X0 t iv0 := by kernel_rfl
theorem f17_loop0 (K : List PA → Prop) (t : (Sl RangeRow)) (iv0 : Int)
  (h : ∀ X0 : St → Prop, (∀ (iv0 : Int), f17_step0 K X0 t iv0 → X0 (f17_g0 t iv0)) → X0 (f17_g0 t iv0)) :
  f17_at0 K t iv0 := by
  have e : f17_at0 K t iv0 = (∀ X : St → Prop, (∀ s, vc Try.prog G17 ann17 (cd (cdF Try.f17 [1, 0, 1, 0]) [0]) (loopK Try.prog ann17 2 X (blockK 0 (sqK Try.prog G17 ann17 (cdF Try.f17 [1, 1]) (bodyK Try.prog Try.f17 K)))) s → X s) → X (f17_g0 t iv0)) := by kernel_rfl
  refine ofEq e ?_
  intro X hX
  refine h X ?_
  intro iv0 hs
  refine hX _ ?_
  have e2 := f17_stepeq0 K X t iv0
  rw [e2]
  exact hs
theorem f17_eq1 (K : List PA → Prop) (X0 : St → Prop) (t : (Sl RangeRow)) (iv1 : Int) (t65v1 : Bool) :
  f17_at1 K X0 t iv1 t65v1 =
  (condP t65v1
   (K [.one (.bool false)])
   (X0 (f17_g0 t (w64 (iv1 + (1:Int)))))) := by kernel_rfl
abbrev R17 := Bool
abbrev e17 (r : Bool) : List PA := [.one (.bool r)]
attribute [irreducible] f17_at0 f17_at1
def s17_at1 (S0 : Int → Bool) (t : (Sl RangeRow)) (iv1 : Int) (t65v1 : Bool) : Bool :=
  (cond t65v1
   false
   (S0 (w64 (iv1 + (1:Int)))))
def p17_at1 (P0 : Int → Bool) (t : (Sl RangeRow)) (iv1 : Int) (t65v1 : Bool) : Bool :=
  (cond t65v1
   true
   (P0 (w64 (iv1 + (1:Int)))))
theorem q17_at1 (K : List PA → Prop) (t : (Sl RangeRow))
  (X0 : St → Prop) (P0 : Int → Bool) (S0 : Int → Bool)
  (hX0 : ∀ (iv0 : Int), P0 iv0 = true → K (e17 (S0 iv0)) → X0 (f17_g0 t iv0)) (iv1 : Int) (t65v1 : Bool) (hs : p17_at1 P0 t iv1 t65v1 = true) (hk : K (e17 (s17_at1 S0 t iv1 t65v1))) : f17_at1 K X0 t iv1 t65v1 := by
  refine ofEq (f17_eq1 K X0 t iv1 t65v1) ?_
  unfold p17_at1 at hs
  unfold s17_at1 at hk
  exact (condB_go (K := fun r => K (e17 r))
   (fun hs hk => hk)
   (fun hs hk => (hX0 (w64 (iv1 + (1:Int))) hs hk)) hs hk)
def s17_st0 (t : (Sl RangeRow)) (S0 : Int → Bool) (iv0 : Int) : Bool :=
  (cond (decide (iv0 < (t.len : Int)))
   (cond (!(s58 ((t.get iv0.toNat).Energy) (1:Int) (1000000:Int)))
    (s17_at1 S0 t iv0 true)
    (cond (!(s29 ((t.get iv0.toNat).Range) (0:Int) (1000000:Int)))
     (s17_at1 S0 t iv0 true)
     (cond (decide (iv0 > (0:Int)))
      (cond (decide ((t.get iv0.toNat).Energy ≤ (t.get ((w64 (iv0 - (1:Int))).toNat)).Energy))
       (s17_at1 S0 t iv0 true)
       (cond (decide ((t.get iv0.toNat).Range.Low < (t.get ((w64 (iv0 - (1:Int))).toNat)).Range.Low))
        (s17_at1 S0 t iv0 true)
        (s17_at1 S0 t iv0 (decide ((t.get iv0.toNat).Range.High < (t.get ((w64 (iv0 - (1:Int))).toNat)).Range.High)))))
      (s17_at1 S0 t iv0 false))))
   (s58 (t.len : Int) (1:Int) (40:Int)))
def p17_st0 (t : (Sl RangeRow)) (P0 : Int → Bool) (iv0 : Int) : Bool :=
  (cond (decide (iv0 < (t.len : Int)))
   (decide ((0 ≤ iv0 ∧ iv0 < (t.len : Int))) &&
   (cond (!(s58 ((t.get iv0.toNat).Energy) (1:Int) (1000000:Int)))
    (p17_at1 P0 t iv0 true)
    (cond (!(s29 ((t.get iv0.toNat).Range) (0:Int) (1000000:Int)))
     (p17_at1 P0 t iv0 true)
     (cond (decide (iv0 > (0:Int)))
      (decide ((0 ≤ (w64 (iv0 - (1:Int))) ∧ (w64 (iv0 - (1:Int))) < (t.len : Int))) &&
      (cond (decide ((t.get iv0.toNat).Energy ≤ (t.get ((w64 (iv0 - (1:Int))).toNat)).Energy))
       (p17_at1 P0 t iv0 true)
       (decide ((0 ≤ (w64 (iv0 - (1:Int))) ∧ (w64 (iv0 - (1:Int))) < (t.len : Int))) &&
       (cond (decide ((t.get iv0.toNat).Range.Low < (t.get ((w64 (iv0 - (1:Int))).toNat)).Range.Low))
        (p17_at1 P0 t iv0 true)
        (decide ((0 ≤ (w64 (iv0 - (1:Int))) ∧ (w64 (iv0 - (1:Int))) < (t.len : Int))) &&
        (p17_at1 P0 t iv0 (decide ((t.get iv0.toNat).Range.High < (t.get ((w64 (iv0 - (1:Int))).toNat)).Range.High))))))))
      (p17_at1 P0 t iv0 false)))))
   true)
def s17_lp0 (t : (Sl RangeRow)) : Nat → Int → Bool
  | 0 => fun _ => default
  | k + 1 => s17_st0 t (s17_lp0 t k)
def p17_lp0 (t : (Sl RangeRow)) : Nat → Int → Bool
  | 0 => fun _ => false
  | k + 1 => p17_st0 t (p17_lp0 t k)
def s17_at0 (t : (Sl RangeRow)) (iv0 : Int) : Bool := s17_lp0 t Fuel iv0
def p17_at0 (t : (Sl RangeRow)) (iv0 : Int) : Bool := p17_lp0 t Fuel iv0
theorem q17_at0 (K : List PA → Prop) (t : (Sl RangeRow)) (iv0 : Int) (hs : p17_at0 t iv0 = true) (hk : K (e17 (s17_at0 t iv0))) : f17_at0 K t iv0 := by
  refine f17_loop0 K t iv0 ?_
  intro X0 hstep
  have key : ∀ (k : Nat) (iv0 : Int), p17_lp0 t k iv0 = true → K (e17 (s17_lp0 t k iv0)) → X0 (f17_g0 t iv0) := by
    intro k
    induction k with
    | zero => intro iv0 hs; exact absurd hs Bool.false_ne_true
    | succ k ih =>
      intro iv0 hs hk
      refine hstep iv0 ?_
      have hs : p17_st0 t (p17_lp0 t k) iv0 = true := hs
      have hk : K (e17 (s17_st0 t (s17_lp0 t k) iv0)) := hk
      unfold p17_st0 at hs
      unfold s17_st0 at hk
      generalize s17_lp0 t k = S0 at hk ih
      generalize p17_lp0 t k = P0 at hs ih
      have hX0 := ih
      exact (condB_go (K := fun r => K (e17 r))
       (fun hs hk => (andK hs fun hc hs => ⟨hc, (condB_go (K := fun r => K (e17 r))
        (fun hs hk => (q17_at1 K t X0 P0 S0 hX0 iv0 true hs hk))
        (fun hs hk => (condB_go (K := fun r => K (e17 r))
         (fun hs hk => (q17_at1 K t X0 P0 S0 hX0 iv0 true hs hk))
         (fun hs hk => (condB_go (K := fun r => K (e17 r))
          (fun hs hk => (andK hs fun hc hs => ⟨hc, (condB_go (K := fun r => K (e17 r))
           (fun hs hk => (q17_at1 K t X0 P0 S0 hX0 iv0 true hs hk))
           (fun hs hk => (andK hs fun hc hs => ⟨hc, (condB_go (K := fun r => K (e17 r))
            (fun hs hk => (q17_at1 K t X0 P0 S0 hX0 iv0 true hs hk))
            (fun hs hk => (andK hs fun hc hs => ⟨hc, (q17_at1 K t X0 P0 S0 hX0 iv0 (decide ((t.get iv0.toNat).Range.High < (t.get ((w64 (iv0 - (1:Int))).toNat)).Range.High)) hs hk)⟩)) hs hk)⟩)) hs hk)⟩))
          (fun hs hk => (q17_at1 K t X0 P0 S0 hX0 iv0 false hs hk)) hs hk)) hs hk)) hs hk)⟩))
       (fun hs hk => hk) hs hk)
  exact key _ iv0 hs hk
def s17 (t : (Sl RangeRow)) : Bool :=
  (s17_at0 t (0:Int))
def p17 (t : (Sl RangeRow)) : Bool :=
  (p17_at0 t (0:Int))
theorem q17 (t : (Sl RangeRow)) (K : List PA → Prop) (hs : p17 t = true) (hk : K (e17 (s17 t))) : vcFun Try.prog G17 ann17 17 [.one (.sl t.len 3 (fun i => enc_42 (t.get i)))] K := by
  refine ofEq (f17_top t K) ?_
  unfold p17 at hs
  unfold s17 at hk
  exact (q17_at0 K t (0:Int) hs hk)
def ctr17 : List PA → COut
  | [.one (.sl a0_n a0_s a0_g)] => .det (IsE enc_42 3 a0_s a0_g ∧ p17 (⟨a0_n, decF_42 a0_g⟩ : (Sl RangeRow)) = true) [.one (.bool (s17 (⟨a0_n, decF_42 a0_g⟩ : (Sl RangeRow))))]
  | _ => .no
theorem call17 : Callable Try.prog 17 := ⟨_, rfl, rfl, by kernel_rfl⟩
theorem ok17 : Ok Try.prog 17 ctr17 := ok_tab okT17 call17 fun args K h => by
  unfold ctr17 at h
  split at h
  · rename_i a0_n a0_s a0_g
    obtain ⟨⟨⟨rfl, a0_f, rfl⟩, hs⟩, hk⟩ := h
    try rw [decF_enc_42 a0_f] at hs
    try rw [decF_enc_42 a0_f] at hk
    exact ⟨(fun _ _ => []), (fun _ => false), ann17, q17 (⟨a0_n, a0_f⟩ : (Sl RangeRow)) K hs hk⟩
  · exact h.elim
-- 24 overburdenlaw05.of
abbrev T24 : Tabs := Tabs.nil
theorem okT24 : TabsOk Try.prog T24 := TabsOk.nil
abbrev G24 : Ctrs := csm T24 (fun _ _ => []) (fun _ => false)
def ann24 : Ann := ⟨16, [(0, ⟨[1, 2], [2], [], [], []⟩), (1, ⟨[4], [], [], [], []⟩)],
  [],
  [],
  [], []⟩
theorem f24_top (s : Span) (percent : Int) (K : List PA → Prop) :
  vcFun Try.prog G24 ann24 24 [.agg [.int .i64 s.Low, .int .i64 s.High], .one (.int .i64 percent)] K =
  ((((100:Int) ≠ 0)) ∧
  (K [.one (.int .i64 (w64 (s.Low + (w64 ((w64 ((w64 (s.High - s.Low)) * percent)).tdiv (100:Int))))))])) := by kernel_rfl
abbrev R24 := Int
abbrev e24 (r : Int) : List PA := [.one (.int .i64 r)]
def s24 (s : Span) (percent : Int) : Int :=
  (w64 (s.Low + (w64 ((w64 ((w64 (s.High - s.Low)) * percent)).tdiv (100:Int)))))
def p24 (s : Span) (percent : Int) : Bool :=
  (decide (((100:Int) ≠ 0)) &&
  true)
theorem q24 (s : Span) (percent : Int) (K : List PA → Prop) (hs : p24 s percent = true) (hk : K (e24 (s24 s percent))) : vcFun Try.prog G24 ann24 24 [.agg [.int .i64 s.Low, .int .i64 s.High], .one (.int .i64 percent)] K := by
  refine ofEq (f24_top s percent K) ?_
  unfold p24 at hs
  unfold s24 at hk
  exact (andK hs fun hc hs => ⟨hc, hk⟩)
def ctr24 : List PA → COut
  | [.agg [.int .i64 a0_Low, .int .i64 a0_High], .one (.int .i64 a1)] => .det (p24 (⟨a0_Low, a0_High⟩ : Span) a1 = true) [.one (.int .i64 (s24 (⟨a0_Low, a0_High⟩ : Span) a1))]
  | _ => .no
theorem call24 : Callable Try.prog 24 := ⟨_, rfl, rfl, by kernel_rfl⟩
theorem ok24 : Ok Try.prog 24 ctr24 := ok_tab okT24 call24 fun args K h => by
  unfold ctr24 at h
  split at h
  · rename_i a0_Low a0_High a1
    obtain ⟨hs, hk⟩ := h
    exact ⟨(fun _ _ => []), (fun _ => false), ann24, q24 (⟨a0_Low, a0_High⟩ : Span) a1 K hs hk⟩
  · exact h.elim
-- 43 overburdenlaw05.through
abbrev T43 : Tabs := (Tabs.nil.addF 24 ctr24)
theorem okT43 : TabsOk Try.prog T43 := (TabsOk.nil.addF ok24)
abbrev G43 : Ctrs := csm T43 (fun _ _ => []) (fun _ => false)
def ann43 : Ann := ⟨56, [(0, ⟨[0, 2, 4], [4], [], [], []⟩), (1, ⟨[0, 2, 4, 7], [4], [], [], []⟩), (2, ⟨[0, 2, 4, 7, 8], [4], [], [], []⟩), (3, ⟨[0, 2, 4, 7, 8, 13], [4], [], [], []⟩), (4, ⟨[0, 2, 4, 7, 8], [4], [], [], []⟩), (5, ⟨[0, 2, 4, 7, 8, 9], [4], [], [], []⟩), (6, ⟨[0, 2, 4, 7, 8, 9, 35], [4], [], [], []⟩), (7, ⟨[7, 9, 51], [], [], [], []⟩), (8, ⟨[6], [], [], [], []⟩), (9, ⟨[6], [], [], [], []⟩), (10, ⟨[0, 2, 4, 7, 8], [4], [], [], []⟩), (11, ⟨[6], [], [], [], []⟩)],
  [(3, ⟨[0, 2, 4, 7, 8], [4], [], [], []⟩)],
  [(6, ⟨[0, 2, 4, 7, 8, 9], [4], [], [], []⟩)],
  [], []⟩
def f43_g0 (t : (Sl RangeRow)) (n : Nature) (energy : Int) (outv0 : Int) (iv0 : Int) : St := ⟨[(0, .one (.c (.p (.sl t.len 3 (fun i => enc_42 (t.get i)))))), (2, .one (.c (.p (.int .i64 energy)))), (4, .one (.c (.ptr 4 0))), (7, .one (.c (.p (.int .i64 outv0)))), (8, .one (.c (.p (.int .i64 iv0))))], [(4, .box 39 [.p (.sl n.Ranges.len 1 (fun i => enc_3 (n.Ranges.get i))), .p (.sl n.Rates.len 1 (fun i => enc_3 (n.Rates.get i))), .p (.bool n.Soon)])], []⟩
def f43_at0 (K : List PA → Prop) (t : (Sl RangeRow)) (n : Nature) (energy : Int) (outv0 : Int) (iv0 : Int) : Prop := vc Try.prog G43 ann43 (cdF Try.f43 [1, 1, 0, 1, 0]) (blockK 0 (sqK Try.prog G43 ann43 (cdF Try.f43 [1, 1, 1]) (bodyK Try.prog Try.f43 K))) (f43_g0 t n energy outv0 iv0)
def f43_g1 (t : (Sl RangeRow)) (n : Nature) (energy : Int) (outv1 : Int) (iv1 : Int) (xv1 : Int) : St := ⟨[(0, .one (.c (.p (.sl t.len 3 (fun i => enc_42 (t.get i)))))), (2, .one (.c (.p (.int .i64 energy)))), (4, .one (.c (.ptr 4 0))), (7, .one (.c (.p (.int .i64 outv1)))), (8, .one (.c (.p (.int .i64 iv1)))), (9, .one (.c (.p (.int .i64 xv1))))], [(4, .box 39 [.p (.sl n.Ranges.len 1 (fun i => enc_3 (n.Ranges.get i))), .p (.sl n.Rates.len 1 (fun i => enc_3 (n.Rates.get i))), .p (.bool n.Soon)])], []⟩
def f43_at1 (K : List PA → Prop) (X0 : St → Prop) (t : (Sl RangeRow)) (n : Nature) (energy : Int) (outv1 : Int) (iv1 : Int) (xv1 : Int) : Prop := vc Try.prog G43 ann43 (cdF Try.f43 [1, 1, 0, 1, 0, 0, 1, 0, 0, 1]) (blockK 1 (sqK Try.prog G43 ann43 (cdF Try.f43 [1, 1, 0, 1, 0, 0, 1, 1]) (loopK Try.prog ann43 3 X0 (blockK 0 (sqK Try.prog G43 ann43 (cdF Try.f43 [1, 1, 1]) (bodyK Try.prog Try.f43 K)))))) (f43_g1 t n energy outv1 iv1 xv1)
theorem f43_top (t : (Sl RangeRow)) (n : Nature) (energy : Int) (K : List PA → Prop) :
  vcFun Try.prog G43 ann43 43 [.one (.sl t.len 3 (fun i => enc_42 (t.get i))), .agg [.sl n.Ranges.len 1 (fun i => enc_3 (n.Ranges.get i)), .sl n.Rates.len 1 (fun i => enc_3 (n.Rates.get i)), .bool n.Soon], .one (.int .i64 energy)] K =
  (f43_at0 K t n energy (0:Int) (0:Int)) := by kernel_rfl
def f43_step0 (K : List PA → Prop) (X0 : St → Prop) (t : (Sl RangeRow)) (n : Nature) (energy : Int) (outv0 : Int) (iv0 : Int) : Prop :=
  (condP (decide (iv0 < (t.len : Int)))
   (((0 ≤ iv0 ∧ iv0 < (t.len : Int))) ∧
   (((0 ≤ iv0 ∧ iv0 < (n.Ranges.len : Int))) ∧
   (((p24 ((t.get iv0.toNat).Range) (n.Ranges.get iv0.toNat) = true)) ∧
   (f43_at1 K X0 t n energy outv0 iv0 (if (s24 ((t.get iv0.toNat).Range) (n.Ranges.get iv0.toNat)) > outv0 then (s24 ((t.get iv0.toNat).Range) (n.Ranges.get iv0.toNat)) else outv0)))))
   (K [.one (.int .i64 outv0)]))
theorem f43_stepeq0 (K : List PA → Prop) (X0 : St → Prop) (t : (Sl RangeRow)) (n : Nature) (energy : Int) (outv0 : Int) (iv0 : Int) :
  vc Try.prog G43 ann43 (cd (cdF Try.f43 [1, 1, 0, 1, 0]) [0]) (loopK Try.prog ann43 3 X0 (blockK 0 (sqK Try.prog G43 ann43 (cdF Try.f43 [1, 1, 1]) (bodyK Try.prog Try.f43 K)))) (f43_g0 t n energy outv0 iv0) =
  f43_step0 K X0 t n energy outv0 iv0 := by kernel_rfl
theorem f43_loop0 (K : List PA → Prop) (t : (Sl RangeRow)) (n : Nature) (energy : Int) (outv0 : Int) (iv0 : Int)
  (h : ∀ X0 : St → Prop, (∀ (outv0 : Int) (iv0 : Int), f43_step0 K X0 t n energy outv0 iv0 → X0 (f43_g0 t n energy outv0 iv0)) → X0 (f43_g0 t n energy outv0 iv0)) :
  f43_at0 K t n energy outv0 iv0 := by
  have e : f43_at0 K t n energy outv0 iv0 = (∀ X : St → Prop, (∀ s, vc Try.prog G43 ann43 (cd (cdF Try.f43 [1, 1, 0, 1, 0]) [0]) (loopK Try.prog ann43 3 X (blockK 0 (sqK Try.prog G43 ann43 (cdF Try.f43 [1, 1, 1]) (bodyK Try.prog Try.f43 K)))) s → X s) → X (f43_g0 t n energy outv0 iv0)) := by kernel_rfl
  refine ofEq e ?_
  intro X hX
  refine h X ?_
  intro outv0 iv0 hs
  refine hX _ ?_
  have e2 := f43_stepeq0 K X t n energy outv0 iv0
  rw [e2]
  exact hs
theorem f43_eq1 (K : List PA → Prop) (X0 : St → Prop) (t : (Sl RangeRow)) (n : Nature) (energy : Int) (outv1 : Int) (iv1 : Int) (xv1 : Int) :
  f43_at1 K X0 t n energy outv1 iv1 xv1 =
  (((0 ≤ iv1 ∧ iv1 < (t.len : Int))) ∧
  (condP (decide ((t.get iv1.toNat).Energy > energy))
   (condP n.Soon
    (condP (iv1 == (0:Int))
     (K [.one (.int .i64 xv1)])
     (((0 ≤ (w64 (iv1 - (1:Int))) ∧ (w64 (iv1 - (1:Int))) < (t.len : Int))) ∧
     (condP (decide ((t.get ((w64 (iv1 - (1:Int))).toNat)).Energy < energy))
      (K [.one (.int .i64 xv1)])
      (K [.one (.int .i64 outv1)]))))
    (K [.one (.int .i64 outv1)]))
   (X0 (f43_g0 t n energy xv1 (w64 (iv1 + (1:Int))))))) := by kernel_rfl
abbrev R43 := Int
abbrev e43 (r : Int) : List PA := [.one (.int .i64 r)]
attribute [irreducible] f43_at0 f43_at1
def s43_at1 (S0 : Int → Int → Int) (t : (Sl RangeRow)) (n : Nature) (energy : Int) (outv1 : Int) (iv1 : Int) (xv1 : Int) : Int :=
  (cond (decide ((t.get iv1.toNat).Energy > energy))
   (cond n.Soon
    (cond (iv1 == (0:Int))
     xv1
     (cond (decide ((t.get ((w64 (iv1 - (1:Int))).toNat)).Energy < energy))
      xv1
      outv1))
    outv1)
   (S0 xv1 (w64 (iv1 + (1:Int)))))
def p43_at1 (P0 : Int → Int → Bool) (t : (Sl RangeRow)) (n : Nature) (energy : Int) (outv1 : Int) (iv1 : Int) (xv1 : Int) : Bool :=
  (decide ((0 ≤ iv1 ∧ iv1 < (t.len : Int))) &&
  (cond (decide ((t.get iv1.toNat).Energy > energy))
   (cond n.Soon
    (cond (iv1 == (0:Int))
     true
     (decide ((0 ≤ (w64 (iv1 - (1:Int))) ∧ (w64 (iv1 - (1:Int))) < (t.len : Int))) &&
     true))
    true)
   (P0 xv1 (w64 (iv1 + (1:Int))))))
theorem q43_at1 (K : List PA → Prop) (t : (Sl RangeRow)) (n : Nature) (energy : Int)
  (X0 : St → Prop) (P0 : Int → Int → Bool) (S0 : Int → Int → Int)
  (hX0 : ∀ (outv0 : Int) (iv0 : Int), P0 outv0 iv0 = true → K (e43 (S0 outv0 iv0)) → X0 (f43_g0 t n energy outv0 iv0)) (outv1 : Int) (iv1 : Int) (xv1 : Int) (hs : p43_at1 P0 t n energy outv1 iv1 xv1 = true) (hk : K (e43 (s43_at1 S0 t n energy outv1 iv1 xv1))) : f43_at1 K X0 t n energy outv1 iv1 xv1 := by
  refine ofEq (f43_eq1 K X0 t n energy outv1 iv1 xv1) ?_
  unfold p43_at1 at hs
  unfold s43_at1 at hk
  exact (andK hs fun hc hs => ⟨hc, (condB_go (K := fun r => K (e43 r))
   (fun hs hk => (condB_go (K := fun r => K (e43 r))
    (fun hs hk => (condB_go (K := fun r => K (e43 r))
     (fun hs hk => hk)
     (fun hs hk => (andK hs fun hc hs => ⟨hc, (condP_gt (K := fun r => K (e43 r))
      (fun hk => hk)
      (fun hk => hk) hk)⟩)) hs hk))
    (fun hs hk => hk) hs hk))
   (fun hs hk => (hX0 xv1 (w64 (iv1 + (1:Int))) hs hk)) hs hk)⟩)
def s43_st0 (t : (Sl RangeRow)) (n : Nature) (energy : Int) (S0 : Int → Int → Int) (outv0 : Int) (iv0 : Int) : Int :=
  (cond (decide (iv0 < (t.len : Int)))
   (s43_at1 S0 t n energy outv0 iv0 (if (s24 ((t.get iv0.toNat).Range) (n.Ranges.get iv0.toNat)) > outv0 then (s24 ((t.get iv0.toNat).Range) (n.Ranges.get iv0.toNat)) else outv0))
   outv0)
def p43_st0 (t : (Sl RangeRow)) (n : Nature) (energy : Int) (P0 : Int → Int → Bool) (outv0 : Int) (iv0 : Int) : Bool :=
  (cond (decide (iv0 < (t.len : Int)))
   (decide ((0 ≤ iv0 ∧ iv0 < (t.len : Int))) &&
   (decide ((0 ≤ iv0 ∧ iv0 < (n.Ranges.len : Int))) &&
   (decide ((p24 ((t.get iv0.toNat).Range) (n.Ranges.get iv0.toNat) = true)) &&
   (p43_at1 P0 t n energy outv0 iv0 (if (s24 ((t.get iv0.toNat).Range) (n.Ranges.get iv0.toNat)) > outv0 then (s24 ((t.get iv0.toNat).Range) (n.Ranges.get iv0.toNat)) else outv0)))))
   true)
def s43_lp0 (t : (Sl RangeRow)) (n : Nature) (energy : Int) : Nat → Int → Int → Int
  | 0 => fun _ _ => default
  | k + 1 => s43_st0 t n energy (s43_lp0 t n energy k)
def p43_lp0 (t : (Sl RangeRow)) (n : Nature) (energy : Int) : Nat → Int → Int → Bool
  | 0 => fun _ _ => false
  | k + 1 => p43_st0 t n energy (p43_lp0 t n energy k)
def s43_at0 (t : (Sl RangeRow)) (n : Nature) (energy : Int) (outv0 : Int) (iv0 : Int) : Int := s43_lp0 t n energy Fuel outv0 iv0
def p43_at0 (t : (Sl RangeRow)) (n : Nature) (energy : Int) (outv0 : Int) (iv0 : Int) : Bool := p43_lp0 t n energy Fuel outv0 iv0
theorem q43_at0 (K : List PA → Prop) (t : (Sl RangeRow)) (n : Nature) (energy : Int) (outv0 : Int) (iv0 : Int) (hs : p43_at0 t n energy outv0 iv0 = true) (hk : K (e43 (s43_at0 t n energy outv0 iv0))) : f43_at0 K t n energy outv0 iv0 := by
  refine f43_loop0 K t n energy outv0 iv0 ?_
  intro X0 hstep
  have key : ∀ (k : Nat) (outv0 : Int) (iv0 : Int), p43_lp0 t n energy k outv0 iv0 = true → K (e43 (s43_lp0 t n energy k outv0 iv0)) → X0 (f43_g0 t n energy outv0 iv0) := by
    intro k
    induction k with
    | zero => intro outv0 iv0 hs; exact absurd hs Bool.false_ne_true
    | succ k ih =>
      intro outv0 iv0 hs hk
      refine hstep outv0 iv0 ?_
      have hs : p43_st0 t n energy (p43_lp0 t n energy k) outv0 iv0 = true := hs
      have hk : K (e43 (s43_st0 t n energy (s43_lp0 t n energy k) outv0 iv0)) := hk
      unfold p43_st0 at hs
      unfold s43_st0 at hk
      generalize s43_lp0 t n energy k = S0 at hk ih
      generalize p43_lp0 t n energy k = P0 at hs ih
      have hX0 := ih
      exact (condB_go (K := fun r => K (e43 r))
       (fun hs hk => (andK hs fun hc hs => ⟨hc, (andK hs fun hc hs => ⟨hc, (andK hs fun hc hs => ⟨hc, (q43_at1 K t n energy X0 P0 S0 hX0 outv0 iv0 (if (s24 ((t.get iv0.toNat).Range) (n.Ranges.get iv0.toNat)) > outv0 then (s24 ((t.get iv0.toNat).Range) (n.Ranges.get iv0.toNat)) else outv0) hs hk)⟩)⟩)⟩))
       (fun hs hk => hk) hs hk)
  exact key _ outv0 iv0 hs hk
def s43 (t : (Sl RangeRow)) (n : Nature) (energy : Int) : Int :=
  (s43_at0 t n energy (0:Int) (0:Int))
def p43 (t : (Sl RangeRow)) (n : Nature) (energy : Int) : Bool :=
  (p43_at0 t n energy (0:Int) (0:Int))
theorem q43 (t : (Sl RangeRow)) (n : Nature) (energy : Int) (K : List PA → Prop) (hs : p43 t n energy = true) (hk : K (e43 (s43 t n energy))) : vcFun Try.prog G43 ann43 43 [.one (.sl t.len 3 (fun i => enc_42 (t.get i))), .agg [.sl n.Ranges.len 1 (fun i => enc_3 (n.Ranges.get i)), .sl n.Rates.len 1 (fun i => enc_3 (n.Rates.get i)), .bool n.Soon], .one (.int .i64 energy)] K := by
  refine ofEq (f43_top t n energy K) ?_
  unfold p43 at hs
  unfold s43 at hk
  exact (q43_at0 K t n energy (0:Int) (0:Int) hs hk)
def ctr43 : List PA → COut
  | [.one (.sl a0_n a0_s a0_g), .agg [.sl a1_Ranges_n a1_Ranges_s a1_Ranges_g, .sl a1_Rates_n a1_Rates_s a1_Rates_g, .bool a1_Soon], .one (.int .i64 a2)] => .det (IsE enc_42 3 a0_s a0_g ∧ IsE enc_3 1 a1_Ranges_s a1_Ranges_g ∧ IsE enc_3 1 a1_Rates_s a1_Rates_g ∧ p43 (⟨a0_n, decF_42 a0_g⟩ : (Sl RangeRow)) (⟨(⟨a1_Ranges_n, decF_3 a1_Ranges_g⟩ : (Sl Int)), (⟨a1_Rates_n, decF_3 a1_Rates_g⟩ : (Sl Int)), a1_Soon⟩ : Nature) a2 = true) [.one (.int .i64 (s43 (⟨a0_n, decF_42 a0_g⟩ : (Sl RangeRow)) (⟨(⟨a1_Ranges_n, decF_3 a1_Ranges_g⟩ : (Sl Int)), (⟨a1_Rates_n, decF_3 a1_Rates_g⟩ : (Sl Int)), a1_Soon⟩ : Nature) a2))]
  | _ => .no
theorem call43 : Callable Try.prog 43 := ⟨_, rfl, rfl, by kernel_rfl⟩
theorem ok43 : Ok Try.prog 43 ctr43 := ok_tab okT43 call43 fun args K h => by
  unfold ctr43 at h
  split at h
  · rename_i a0_n a0_s a0_g a1_Ranges_n a1_Ranges_s a1_Ranges_g a1_Rates_n a1_Rates_s a1_Rates_g a1_Soon a2
    obtain ⟨⟨⟨rfl, a0_f, rfl⟩, ⟨rfl, a1_Ranges_f, rfl⟩, ⟨rfl, a1_Rates_f, rfl⟩, hs⟩, hk⟩ := h
    try rw [decF_enc_42 a0_f] at hs
    try rw [decF_enc_42 a0_f] at hk
    try rw [decF_enc_3 a1_Ranges_f] at hs
    try rw [decF_enc_3 a1_Ranges_f] at hk
    try rw [decF_enc_3 a1_Rates_f] at hs
    try rw [decF_enc_3 a1_Rates_f] at hk
    exact ⟨(fun _ _ => []), (fun _ => false), ann43, q43 (⟨a0_n, a0_f⟩ : (Sl RangeRow)) (⟨(⟨a1_Ranges_n, a1_Ranges_f⟩ : (Sl Int)), (⟨a1_Rates_n, a1_Rates_f⟩ : (Sl Int)), a1_Soon⟩ : Nature) a2 K hs hk⟩
  · exact h.elim
end Go.Proofs
namespace Go.Proofs
open Go Go.Pm
set_option maxRecDepth 100000
set_option linter.unusedVariables false
attribute [local irreducible] Go.Pm.vcFun Go.Pm.vc Go.Pm.vcIter
-- 27 overburdenref05.SameCurve
abbrev T27 : Tabs := Tabs.nil
theorem okT27 : TabsOk Try.prog T27 := TabsOk.nil
abbrev G27 : Ctrs := csm T27 (fun _ _ => []) (fun _ => false)
def ann27 : Ann := ⟨26, [(0, ⟨[0, 1], [], [], [], []⟩), (1, ⟨[0, 1, 10], [], [], [], []⟩), (2, ⟨[4], [], [], [], []⟩), (3, ⟨[0, 1, 5], [], [], [], []⟩), (4, ⟨[0, 1, 5, 14], [], [], [], []⟩), (5, ⟨[0, 1, 5], [], [], [], []⟩), (6, ⟨[0, 1, 5, 25], [], [], [], []⟩), (7, ⟨[4], [], [], [], []⟩), (8, ⟨[4], [], [], [], []⟩)],
  [(4, ⟨[0, 1, 5], [], [], [], []⟩)],
  [(3, ⟨[0, 1], [], [], [], []⟩)],
  [], []⟩
def f27_g0 (a : (Sl FluxStep)) (b : (Sl FluxStep)) : St := ⟨[(0, .one (.c (.p (.sl a.len 3 (fun i => enc_69 (a.get i)))))), (1, .one (.c (.p (.sl b.len 3 (fun i => enc_69 (b.get i))))))], [], []⟩
def f27_at0 (K : List PA → Prop) (a : (Sl FluxStep)) (b : (Sl FluxStep)) : Prop := vc Try.prog G27 ann27 (cdF Try.f27 [1, 1]) (bodyK Try.prog Try.f27 K) (f27_g0 a b)
def f27_g1 (a : (Sl FluxStep)) (b : (Sl FluxStep)) (iv1 : Int) : St := ⟨[(0, .one (.c (.p (.sl a.len 3 (fun i => enc_69 (a.get i)))))), (1, .one (.c (.p (.sl b.len 3 (fun i => enc_69 (b.get i)))))), (5, .one (.c (.p (.int .i64 iv1))))], [], []⟩
def f27_at1 (K : List PA → Prop) (a : (Sl FluxStep)) (b : (Sl FluxStep)) (iv1 : Int) : Prop := vc Try.prog G27 ann27 (cdF Try.f27 [1, 1, 0, 1, 0]) (blockK 0 (sqK Try.prog G27 ann27 (cdF Try.f27 [1, 1, 1]) (bodyK Try.prog Try.f27 K))) (f27_g1 a b iv1)
theorem f27_top (a : (Sl FluxStep)) (b : (Sl FluxStep)) (K : List PA → Prop) :
  vcFun Try.prog G27 ann27 27 [.one (.sl a.len 3 (fun i => enc_69 (a.get i))), .one (.sl b.len 3 (fun i => enc_69 (b.get i)))] K =
  (condP ((a.len : Int) != (b.len : Int))
   (K [.one (.bool false)])
   (f27_at0 K a b)) := by kernel_rfl
theorem f27_eq0 (K : List PA → Prop) (a : (Sl FluxStep)) (b : (Sl FluxStep)) :
  f27_at0 K a b =
  (f27_at1 K a b (0:Int)) := by kernel_rfl
def f27_step1 (K : List PA → Prop) (X1 : St → Prop) (a : (Sl FluxStep)) (b : (Sl FluxStep)) (iv1 : Int) : Prop :=
  (condP (decide (iv1 < (a.len : Int)))
   (((0 ≤ iv1 ∧ iv1 < (a.len : Int))) ∧
   (((0 ≤ iv1 ∧ iv1 < (b.len : Int))) ∧
   (condP (!(match ((a.get iv1.toNat).From == (b.get iv1.toNat).From) with | true => (match (match ((a.get iv1.toNat).Rate.Low == (b.get iv1.toNat).Rate.Low) with | true => (match ((a.get iv1.toNat).Rate.High == (b.get iv1.toNat).Rate.High) with | true => true | false => false) | false => false) with | true => true | false => false) | false => false))
    (K [.one (.bool false)])
    (X1 (f27_g1 a b (w64 (iv1 + (1:Int))))))))
   (K [.one (.bool true)]))
theorem f27_stepeq1 (K : List PA → Prop) (X1 : St → Prop) (a : (Sl FluxStep)) (b : (Sl FluxStep)) (iv1 : Int) :
  vc Try.prog G27 ann27 (cd (cdF Try.f27 [1, 1, 0, 1, 0]) [0]) (loopK Try.prog ann27 4 X1 (blockK 0 (sqK Try.prog G27 ann27 (cdF Try.f27 [1, 1, 1]) (bodyK Try.prog Try.f27 K)))) (f27_g1 a b iv1) =
  f27_step1 K X1 a b iv1 := by kernel_rfl
theorem f27_loop1 (K : List PA → Prop) (a : (Sl FluxStep)) (b : (Sl FluxStep)) (iv1 : Int)
  (h : ∀ X1 : St → Prop, (∀ (iv1 : Int), f27_step1 K X1 a b iv1 → X1 (f27_g1 a b iv1)) → X1 (f27_g1 a b iv1)) :
  f27_at1 K a b iv1 := by
  have e : f27_at1 K a b iv1 = (∀ X : St → Prop, (∀ s, vc Try.prog G27 ann27 (cd (cdF Try.f27 [1, 1, 0, 1, 0]) [0]) (loopK Try.prog ann27 4 X (blockK 0 (sqK Try.prog G27 ann27 (cdF Try.f27 [1, 1, 1]) (bodyK Try.prog Try.f27 K)))) s → X s) → X (f27_g1 a b iv1)) := by kernel_rfl
  refine ofEq e ?_
  intro X hX
  refine h X ?_
  intro iv1 hs
  refine hX _ ?_
  have e2 := f27_stepeq1 K X a b iv1
  rw [e2]
  exact hs
abbrev R27 := Bool
abbrev e27 (r : Bool) : List PA := [.one (.bool r)]
attribute [irreducible] f27_at0 f27_at1
def s27_st1 (a : (Sl FluxStep)) (b : (Sl FluxStep)) (S1 : Int → Bool) (iv1 : Int) : Bool :=
  (cond (decide (iv1 < (a.len : Int)))
   (cond (!(match ((a.get iv1.toNat).From == (b.get iv1.toNat).From) with | true => (match (match ((a.get iv1.toNat).Rate.Low == (b.get iv1.toNat).Rate.Low) with | true => (match ((a.get iv1.toNat).Rate.High == (b.get iv1.toNat).Rate.High) with | true => true | false => false) | false => false) with | true => true | false => false) | false => false))
    false
    (S1 (w64 (iv1 + (1:Int)))))
   true)
def p27_st1 (a : (Sl FluxStep)) (b : (Sl FluxStep)) (P1 : Int → Bool) (iv1 : Int) : Bool :=
  (cond (decide (iv1 < (a.len : Int)))
   (decide ((0 ≤ iv1 ∧ iv1 < (a.len : Int))) &&
   (decide ((0 ≤ iv1 ∧ iv1 < (b.len : Int))) &&
   (cond (!(match ((a.get iv1.toNat).From == (b.get iv1.toNat).From) with | true => (match (match ((a.get iv1.toNat).Rate.Low == (b.get iv1.toNat).Rate.Low) with | true => (match ((a.get iv1.toNat).Rate.High == (b.get iv1.toNat).Rate.High) with | true => true | false => false) | false => false) with | true => true | false => false) | false => false))
    true
    (P1 (w64 (iv1 + (1:Int)))))))
   true)
def s27_lp1 (a : (Sl FluxStep)) (b : (Sl FluxStep)) : Nat → Int → Bool
  | 0 => fun _ => default
  | k + 1 => s27_st1 a b (s27_lp1 a b k)
def p27_lp1 (a : (Sl FluxStep)) (b : (Sl FluxStep)) : Nat → Int → Bool
  | 0 => fun _ => false
  | k + 1 => p27_st1 a b (p27_lp1 a b k)
def s27_at1 (a : (Sl FluxStep)) (b : (Sl FluxStep)) (iv1 : Int) : Bool := s27_lp1 a b Fuel iv1
def p27_at1 (a : (Sl FluxStep)) (b : (Sl FluxStep)) (iv1 : Int) : Bool := p27_lp1 a b Fuel iv1
theorem q27_at1 (K : List PA → Prop) (a : (Sl FluxStep)) (b : (Sl FluxStep)) (iv1 : Int) (hs : p27_at1 a b iv1 = true) (hk : K (e27 (s27_at1 a b iv1))) : f27_at1 K a b iv1 := by
  refine f27_loop1 K a b iv1 ?_
  intro X1 hstep
  have key : ∀ (k : Nat) (iv1 : Int), p27_lp1 a b k iv1 = true → K (e27 (s27_lp1 a b k iv1)) → X1 (f27_g1 a b iv1) := by
    intro k
    induction k with
    | zero => intro iv1 hs; exact absurd hs Bool.false_ne_true
    | succ k ih =>
      intro iv1 hs hk
      refine hstep iv1 ?_
      have hs : p27_st1 a b (p27_lp1 a b k) iv1 = true := hs
      have hk : K (e27 (s27_st1 a b (s27_lp1 a b k) iv1)) := hk
      unfold p27_st1 at hs
      unfold s27_st1 at hk
      generalize s27_lp1 a b k = S1 at hk ih
      generalize p27_lp1 a b k = P1 at hs ih
      have hX1 := ih
      exact (condB_go (K := fun r => K (e27 r))
       (fun hs hk => (andK hs fun hc hs => ⟨hc, (andK hs fun hc hs => ⟨hc, (condB_go (K := fun r => K (e27 r))
        (fun hs hk => hk)
        (fun hs hk => (hX1 (w64 (iv1 + (1:Int))) hs hk)) hs hk)⟩)⟩))
       (fun hs hk => hk) hs hk)
  exact key _ iv1 hs hk
def s27_at0 (a : (Sl FluxStep)) (b : (Sl FluxStep)) : Bool :=
  (s27_at1 a b (0:Int))
def p27_at0 (a : (Sl FluxStep)) (b : (Sl FluxStep)) : Bool :=
  (p27_at1 a b (0:Int))
theorem q27_at0 (K : List PA → Prop) (a : (Sl FluxStep)) (b : (Sl FluxStep)) (hs : p27_at0 a b = true) (hk : K (e27 (s27_at0 a b))) : f27_at0 K a b := by
  refine ofEq (f27_eq0 K a b) ?_
  unfold p27_at0 at hs
  unfold s27_at0 at hk
  exact (q27_at1 K a b (0:Int) hs hk)
def s27 (a : (Sl FluxStep)) (b : (Sl FluxStep)) : Bool :=
  (cond ((a.len : Int) != (b.len : Int))
   false
   (s27_at0 a b))
def p27 (a : (Sl FluxStep)) (b : (Sl FluxStep)) : Bool :=
  (cond ((a.len : Int) != (b.len : Int))
   true
   (p27_at0 a b))
theorem q27 (a : (Sl FluxStep)) (b : (Sl FluxStep)) (K : List PA → Prop) (hs : p27 a b = true) (hk : K (e27 (s27 a b))) : vcFun Try.prog G27 ann27 27 [.one (.sl a.len 3 (fun i => enc_69 (a.get i))), .one (.sl b.len 3 (fun i => enc_69 (b.get i)))] K := by
  refine ofEq (f27_top a b K) ?_
  unfold p27 at hs
  unfold s27 at hk
  exact (condB_go (K := fun r => K (e27 r))
   (fun hs hk => hk)
   (fun hs hk => (q27_at0 K a b hs hk)) hs hk)
def ctr27 : List PA → COut
  | [.one (.sl a0_n a0_s a0_g), .one (.sl a1_n a1_s a1_g)] => .det (IsE enc_69 3 a0_s a0_g ∧ IsE enc_69 3 a1_s a1_g ∧ p27 (⟨a0_n, decF_69 a0_g⟩ : (Sl FluxStep)) (⟨a1_n, decF_69 a1_g⟩ : (Sl FluxStep)) = true) [.one (.bool (s27 (⟨a0_n, decF_69 a0_g⟩ : (Sl FluxStep)) (⟨a1_n, decF_69 a1_g⟩ : (Sl FluxStep))))]
  | _ => .no
theorem call27 : Callable Try.prog 27 := ⟨_, rfl, rfl, by kernel_rfl⟩
theorem ok27 : Ok Try.prog 27 ctr27 := ok_tab okT27 call27 fun args K h => by
  unfold ctr27 at h
  split at h
  · rename_i a0_n a0_s a0_g a1_n a1_s a1_g
    obtain ⟨⟨⟨rfl, a0_f, rfl⟩, ⟨rfl, a1_f, rfl⟩, hs⟩, hk⟩ := h
    try rw [decF_enc_69 a0_f] at hs
    try rw [decF_enc_69 a0_f] at hk
    try rw [decF_enc_69 a1_f] at hs
    try rw [decF_enc_69 a1_f] at hk
    exact ⟨(fun _ _ => []), (fun _ => false), ann27, q27 (⟨a0_n, a0_f⟩ : (Sl FluxStep)) (⟨a1_n, a1_f⟩ : (Sl FluxStep)) K hs hk⟩
  · exact h.elim
-- 46 overburdenref05.Above
abbrev T46 : Tabs := Tabs.nil
theorem okT46 : TabsOk Try.prog T46 := TabsOk.nil
abbrev G46 : Ctrs := csm T46 (fun _ _ => []) (fun _ => false)
def ann46 : Ann := ⟨57, [(0, ⟨[0, 3, 4], [3, 4], [], [], []⟩), (1, ⟨[0, 3, 4, 5], [3, 4, 5], [], [], []⟩), (2, ⟨[0, 3, 4, 5, 6], [3, 4, 5], [], [], []⟩), (3, ⟨[0, 3, 4, 5, 6, 11], [3, 4, 5], [], [], []⟩), (4, ⟨[0, 3, 4, 5, 6], [3, 4, 5], [], [], []⟩), (5, ⟨[0, 3, 4, 5, 6, 21], [3, 4, 5], [], [], []⟩), (6, ⟨[0, 3, 4, 5, 6], [3, 4, 5], [], [], []⟩), (7, ⟨[0, 3, 4, 5, 7], [3, 4, 5], [], [], []⟩), (8, ⟨[0, 3, 4, 5, 7, 38], [3, 4, 5], [], [], []⟩), (9, ⟨[0, 3, 4, 5, 7], [3, 4, 5], [], [], []⟩), (10, ⟨[0, 3, 4, 5, 7, 48], [3, 4, 5], [], [], []⟩), (11, ⟨[0, 3, 4, 5, 7], [3, 4, 5], [], [], []⟩), (12, ⟨[4], [4], [], [], []⟩)],
  [(3, ⟨[0, 3, 4, 5, 6], [3, 4, 5], [], [], []⟩), (8, ⟨[0, 3, 4, 5, 7], [3, 4, 5], [], [], []⟩)],
  [(7, ⟨[0, 3, 4, 5], [3, 4, 5], [], [], []⟩)],
  [], []⟩
def f46_g0 (l_a0 : (Sl FluxRow)) (x : Span) (iv0 : Int) (out_1v0 : Int) : St := ⟨[(0, .one (.c (.p (.sl l_a0.len 3 (fun i => enc_44 (l_a0.get i)))))), (3, .one (.c (.ptr 3 0))), (4, .one (.c (.ptr 4 0))), (5, .one (.c (.ptr 5 0))), (6, .one (.c (.p (.int .i64 iv0))))], [(3, .box 24 [.p (.int .i64 x.Low), .p (.int .i64 x.High)]), (4, .box 24 [.p (.int .i64 (0:Int)), .p (.int .i64 (0:Int))]), (5, .box 24 [.p (.int .i64 (0:Int)), .p (.int .i64 out_1v0)])], []⟩
def f46_at0 (K : List PA → Prop) (l_a0 : (Sl FluxRow)) (x : Span) (iv0 : Int) (out_1v0 : Int) : Prop := vc Try.prog G46 ann46 (cdF Try.f46 [1, 1, 0, 1, 0]) (blockK 0 (sqK Try.prog G46 ann46 (cdF Try.f46 [1, 1, 1]) (bodyK Try.prog Try.f46 K))) (f46_g0 l_a0 x iv0 out_1v0)
def f46_g1 (l_a0 : (Sl FluxRow)) (x : Span) (out_1v1 : Int) : St := ⟨[(0, .one (.c (.p (.sl l_a0.len 3 (fun i => enc_44 (l_a0.get i)))))), (3, .one (.c (.ptr 3 0))), (4, .one (.c (.ptr 4 0))), (5, .one (.c (.ptr 5 0)))], [(3, .box 24 [.p (.int .i64 x.Low), .p (.int .i64 x.High)]), (4, .box 24 [.p (.int .i64 (0:Int)), .p (.int .i64 (0:Int))]), (5, .box 24 [.p (.int .i64 (0:Int)), .p (.int .i64 out_1v1)])], []⟩
def f46_at1 (K : List PA → Prop) (l_a0 : (Sl FluxRow)) (x : Span) (out_1v1 : Int) : Prop := vc Try.prog G46 ann46 (cdF Try.f46 [1, 1, 1]) (bodyK Try.prog Try.f46 K) (f46_g1 l_a0 x out_1v1)
def f46_g2 (l_a0 : (Sl FluxRow)) (x : Span) (iv2 : Int) (out_0v2 : Int) (out_1v2 : Int) : St := ⟨[(0, .one (.c (.p (.sl l_a0.len 3 (fun i => enc_44 (l_a0.get i)))))), (3, .one (.c (.ptr 3 0))), (4, .one (.c (.ptr 4 0))), (5, .one (.c (.ptr 5 0))), (7, .one (.c (.p (.int .i64 iv2))))], [(3, .box 24 [.p (.int .i64 x.Low), .p (.int .i64 x.High)]), (4, .box 24 [.p (.int .i64 (0:Int)), .p (.int .i64 (0:Int))]), (5, .box 24 [.p (.int .i64 out_0v2), .p (.int .i64 out_1v2)])], []⟩
def f46_at2 (K : List PA → Prop) (l_a0 : (Sl FluxRow)) (x : Span) (iv2 : Int) (out_0v2 : Int) (out_1v2 : Int) : Prop := vc Try.prog G46 ann46 (cdF Try.f46 [1, 1, 1, 0, 1, 0]) (blockK 2 (sqK Try.prog G46 ann46 (cdF Try.f46 [1, 1, 1, 1]) (bodyK Try.prog Try.f46 K))) (f46_g2 l_a0 x iv2 out_0v2 out_1v2)
theorem f46_top (l_a0 : (Sl FluxRow)) (x : Span) (K : List PA → Prop) :
  vcFun Try.prog G46 ann46 46 [.one (.sl l_a0.len 3 (fun i => enc_44 (l_a0.get i))), .agg [.int .i64 x.Low, .int .i64 x.High]] K =
  (f46_at0 K l_a0 x (0:Int) (0:Int)) := by kernel_rfl
def f46_step0 (K : List PA → Prop) (X0 : St → Prop) (l_a0 : (Sl FluxRow)) (x : Span) (iv0 : Int) (out_1v0 : Int) : Prop :=
  (condP (decide (iv0 < (l_a0.len : Int)))
   (((0 ≤ iv0 ∧ iv0 < (l_a0.len : Int))) ∧
   (condP (decide ((l_a0.get iv0.toNat).Energy ≤ x.Low))
    (((0 ≤ iv0 ∧ iv0 < (l_a0.len : Int))) ∧
    (X0 (f46_g0 l_a0 x (w64 (iv0 + (1:Int))) ((l_a0.get iv0.toNat).Rate.High))))
    (X0 (f46_g0 l_a0 x (w64 (iv0 + (1:Int))) out_1v0))))
   (f46_at1 K l_a0 x out_1v0))
theorem f46_stepeq0 (K : List PA → Prop) (X0 : St → Prop) (l_a0 : (Sl FluxRow)) (x : Span) (iv0 : Int) (out_1v0 : Int) :
  vc Try.prog G46 ann46 (cd (cdF Try.f46 [1, 1, 0, 1, 0]) [0]) (loopK Try.prog ann46 3 X0 (blockK 0 (sqK Try.prog G46 ann46 (cdF Try.f46 [1, 1, 1]) (bodyK Try.prog Try.f46 K)))) (f46_g0 l_a0 x iv0 out_1v0) =
  f46_step0 K X0 l_a0 x iv0 out_1v0 := by kernel_rfl
theorem f46_loop0 (K : List PA → Prop) (l_a0 : (Sl FluxRow)) (x : Span) (iv0 : Int) (out_1v0 : Int)
  (h : ∀ X0 : St → Prop, (∀ (iv0 : Int) (out_1v0 : Int), f46_step0 K X0 l_a0 x iv0 out_1v0 → X0 (f46_g0 l_a0 x iv0 out_1v0)) → X0 (f46_g0 l_a0 x iv0 out_1v0)) :
  f46_at0 K l_a0 x iv0 out_1v0 := by
  have e : f46_at0 K l_a0 x iv0 out_1v0 = (∀ X : St → Prop, (∀ s, vc Try.prog G46 ann46 (cd (cdF Try.f46 [1, 1, 0, 1, 0]) [0]) (loopK Try.prog ann46 3 X (blockK 0 (sqK Try.prog G46 ann46 (cdF Try.f46 [1, 1, 1]) (bodyK Try.prog Try.f46 K)))) s → X s) → X (f46_g0 l_a0 x iv0 out_1v0)) := by kernel_rfl
  refine ofEq e ?_
  intro X hX
  refine h X ?_
  intro iv0 out_1v0 hs
  refine hX _ ?_
  have e2 := f46_stepeq0 K X l_a0 x iv0 out_1v0
  rw [e2]
  exact hs
theorem f46_eq1 (K : List PA → Prop) (l_a0 : (Sl FluxRow)) (x : Span) (out_1v1 : Int) :
  f46_at1 K l_a0 x out_1v1 =
  (f46_at2 K l_a0 x (w64 ((l_a0.len : Int) - (1:Int))) (0:Int) out_1v1) := by kernel_rfl
def f46_step2 (K : List PA → Prop) (X2 : St → Prop) (l_a0 : (Sl FluxRow)) (x : Span) (iv2 : Int) (out_0v2 : Int) (out_1v2 : Int) : Prop :=
  (condP (decide (iv2 ≥ (0:Int)))
   (condP (x.High != (-1:Int))
    (((0 ≤ iv2 ∧ iv2 < (l_a0.len : Int))) ∧
    (condP (decide ((l_a0.get iv2.toNat).Energy ≥ x.High))
     (((0 ≤ iv2 ∧ iv2 < (l_a0.len : Int))) ∧
     (X2 (f46_g2 l_a0 x (w64 (iv2 - (1:Int))) ((l_a0.get iv2.toNat).Rate.Low) out_1v2)))
     (X2 (f46_g2 l_a0 x (w64 (iv2 - (1:Int))) out_0v2 out_1v2))))
    (K [.agg [.int .i64 out_0v2, .int .i64 out_1v2]]))
   (K [.agg [.int .i64 out_0v2, .int .i64 out_1v2]]))
theorem f46_stepeq2 (K : List PA → Prop) (X2 : St → Prop) (l_a0 : (Sl FluxRow)) (x : Span) (iv2 : Int) (out_0v2 : Int) (out_1v2 : Int) :
  vc Try.prog G46 ann46 (cd (cdF Try.f46 [1, 1, 1, 0, 1, 0]) [0]) (loopK Try.prog ann46 8 X2 (blockK 2 (sqK Try.prog G46 ann46 (cdF Try.f46 [1, 1, 1, 1]) (bodyK Try.prog Try.f46 K)))) (f46_g2 l_a0 x iv2 out_0v2 out_1v2) =
  f46_step2 K X2 l_a0 x iv2 out_0v2 out_1v2 := by kernel_rfl
theorem f46_loop2 (K : List PA → Prop) (l_a0 : (Sl FluxRow)) (x : Span) (iv2 : Int) (out_0v2 : Int) (out_1v2 : Int)
  (h : ∀ X2 : St → Prop, (∀ (iv2 : Int) (out_0v2 : Int) (out_1v2 : Int), f46_step2 K X2 l_a0 x iv2 out_0v2 out_1v2 → X2 (f46_g2 l_a0 x iv2 out_0v2 out_1v2)) → X2 (f46_g2 l_a0 x iv2 out_0v2 out_1v2)) :
  f46_at2 K l_a0 x iv2 out_0v2 out_1v2 := by
  have e : f46_at2 K l_a0 x iv2 out_0v2 out_1v2 = (∀ X : St → Prop, (∀ s, vc Try.prog G46 ann46 (cd (cdF Try.f46 [1, 1, 1, 0, 1, 0]) [0]) (loopK Try.prog ann46 8 X (blockK 2 (sqK Try.prog G46 ann46 (cdF Try.f46 [1, 1, 1, 1]) (bodyK Try.prog Try.f46 K)))) s → X s) → X (f46_g2 l_a0 x iv2 out_0v2 out_1v2)) := by kernel_rfl
  refine ofEq e ?_
  intro X hX
  refine h X ?_
  intro iv2 out_0v2 out_1v2 hs
  refine hX _ ?_
  have e2 := f46_stepeq2 K X l_a0 x iv2 out_0v2 out_1v2
  rw [e2]
  exact hs
abbrev R46 := Span
abbrev e46 (r : Span) : List PA := [.agg [.int .i64 r.Low, .int .i64 r.High]]
attribute [irreducible] f46_at0 f46_at1 f46_at2
def s46_st2 (l_a0 : (Sl FluxRow)) (x : Span) (S2 : Int → Int → Int → Span) (iv2 : Int) (out_0v2 : Int) (out_1v2 : Int) : Span :=
  (cond (decide (iv2 ≥ (0:Int)))
   (cond (x.High != (-1:Int))
    (cond (decide ((l_a0.get iv2.toNat).Energy ≥ x.High))
     (S2 (w64 (iv2 - (1:Int))) ((l_a0.get iv2.toNat).Rate.Low) out_1v2)
     (S2 (w64 (iv2 - (1:Int))) out_0v2 out_1v2))
    (⟨out_0v2, out_1v2⟩ : Span))
   (⟨out_0v2, out_1v2⟩ : Span))
def p46_st2 (l_a0 : (Sl FluxRow)) (x : Span) (P2 : Int → Int → Int → Bool) (iv2 : Int) (out_0v2 : Int) (out_1v2 : Int) : Bool :=
  (cond (decide (iv2 ≥ (0:Int)))
   (cond (x.High != (-1:Int))
    (decide ((0 ≤ iv2 ∧ iv2 < (l_a0.len : Int))) &&
    (cond (decide ((l_a0.get iv2.toNat).Energy ≥ x.High))
     (decide ((0 ≤ iv2 ∧ iv2 < (l_a0.len : Int))) &&
     (P2 (w64 (iv2 - (1:Int))) ((l_a0.get iv2.toNat).Rate.Low) out_1v2))
     (P2 (w64 (iv2 - (1:Int))) out_0v2 out_1v2)))
    true)
   true)
def s46_lp2 (l_a0 : (Sl FluxRow)) (x : Span) : Nat → Int → Int → Int → Span
  | 0 => fun _ _ _ => default
  | k + 1 => s46_st2 l_a0 x (s46_lp2 l_a0 x k)
def p46_lp2 (l_a0 : (Sl FluxRow)) (x : Span) : Nat → Int → Int → Int → Bool
  | 0 => fun _ _ _ => false
  | k + 1 => p46_st2 l_a0 x (p46_lp2 l_a0 x k)
def s46_at2 (l_a0 : (Sl FluxRow)) (x : Span) (iv2 : Int) (out_0v2 : Int) (out_1v2 : Int) : Span := s46_lp2 l_a0 x Fuel iv2 out_0v2 out_1v2
def p46_at2 (l_a0 : (Sl FluxRow)) (x : Span) (iv2 : Int) (out_0v2 : Int) (out_1v2 : Int) : Bool := p46_lp2 l_a0 x Fuel iv2 out_0v2 out_1v2
theorem q46_at2 (K : List PA → Prop) (l_a0 : (Sl FluxRow)) (x : Span) (iv2 : Int) (out_0v2 : Int) (out_1v2 : Int) (hs : p46_at2 l_a0 x iv2 out_0v2 out_1v2 = true) (hk : K (e46 (s46_at2 l_a0 x iv2 out_0v2 out_1v2))) : f46_at2 K l_a0 x iv2 out_0v2 out_1v2 := by
  refine f46_loop2 K l_a0 x iv2 out_0v2 out_1v2 ?_
  intro X2 hstep
  have key : ∀ (k : Nat) (iv2 : Int) (out_0v2 : Int) (out_1v2 : Int), p46_lp2 l_a0 x k iv2 out_0v2 out_1v2 = true → K (e46 (s46_lp2 l_a0 x k iv2 out_0v2 out_1v2)) → X2 (f46_g2 l_a0 x iv2 out_0v2 out_1v2) := by
    intro k
    induction k with
    | zero => intro iv2 out_0v2 out_1v2 hs; exact absurd hs Bool.false_ne_true
    | succ k ih =>
      intro iv2 out_0v2 out_1v2 hs hk
      refine hstep iv2 out_0v2 out_1v2 ?_
      have hs : p46_st2 l_a0 x (p46_lp2 l_a0 x k) iv2 out_0v2 out_1v2 = true := hs
      have hk : K (e46 (s46_st2 l_a0 x (s46_lp2 l_a0 x k) iv2 out_0v2 out_1v2)) := hk
      unfold p46_st2 at hs
      unfold s46_st2 at hk
      generalize s46_lp2 l_a0 x k = S2 at hk ih
      generalize p46_lp2 l_a0 x k = P2 at hs ih
      have hX2 := ih
      exact (condB_go (K := fun r => K (e46 r))
       (fun hs hk => (condB_go (K := fun r => K (e46 r))
        (fun hs hk => (andK hs fun hc hs => ⟨hc, (condB_go (K := fun r => K (e46 r))
         (fun hs hk => (andK hs fun hc hs => ⟨hc, (hX2 (w64 (iv2 - (1:Int))) ((l_a0.get iv2.toNat).Rate.Low) out_1v2 hs hk)⟩))
         (fun hs hk => (hX2 (w64 (iv2 - (1:Int))) out_0v2 out_1v2 hs hk)) hs hk)⟩))
        (fun hs hk => hk) hs hk))
       (fun hs hk => hk) hs hk)
  exact key _ iv2 out_0v2 out_1v2 hs hk
def s46_at1 (l_a0 : (Sl FluxRow)) (x : Span) (out_1v1 : Int) : Span :=
  (s46_at2 l_a0 x (w64 ((l_a0.len : Int) - (1:Int))) (0:Int) out_1v1)
def p46_at1 (l_a0 : (Sl FluxRow)) (x : Span) (out_1v1 : Int) : Bool :=
  (p46_at2 l_a0 x (w64 ((l_a0.len : Int) - (1:Int))) (0:Int) out_1v1)
theorem q46_at1 (K : List PA → Prop) (l_a0 : (Sl FluxRow)) (x : Span) (out_1v1 : Int) (hs : p46_at1 l_a0 x out_1v1 = true) (hk : K (e46 (s46_at1 l_a0 x out_1v1))) : f46_at1 K l_a0 x out_1v1 := by
  refine ofEq (f46_eq1 K l_a0 x out_1v1) ?_
  unfold p46_at1 at hs
  unfold s46_at1 at hk
  exact (q46_at2 K l_a0 x (w64 ((l_a0.len : Int) - (1:Int))) (0:Int) out_1v1 hs hk)
def s46_st0 (l_a0 : (Sl FluxRow)) (x : Span) (S0 : Int → Int → Span) (iv0 : Int) (out_1v0 : Int) : Span :=
  (cond (decide (iv0 < (l_a0.len : Int)))
   (cond (decide ((l_a0.get iv0.toNat).Energy ≤ x.Low))
    (S0 (w64 (iv0 + (1:Int))) ((l_a0.get iv0.toNat).Rate.High))
    (S0 (w64 (iv0 + (1:Int))) out_1v0))
   (s46_at1 l_a0 x out_1v0))
def p46_st0 (l_a0 : (Sl FluxRow)) (x : Span) (P0 : Int → Int → Bool) (iv0 : Int) (out_1v0 : Int) : Bool :=
  (cond (decide (iv0 < (l_a0.len : Int)))
   (decide ((0 ≤ iv0 ∧ iv0 < (l_a0.len : Int))) &&
   (cond (decide ((l_a0.get iv0.toNat).Energy ≤ x.Low))
    (decide ((0 ≤ iv0 ∧ iv0 < (l_a0.len : Int))) &&
    (P0 (w64 (iv0 + (1:Int))) ((l_a0.get iv0.toNat).Rate.High)))
    (P0 (w64 (iv0 + (1:Int))) out_1v0)))
   (p46_at1 l_a0 x out_1v0))
def s46_lp0 (l_a0 : (Sl FluxRow)) (x : Span) : Nat → Int → Int → Span
  | 0 => fun _ _ => default
  | k + 1 => s46_st0 l_a0 x (s46_lp0 l_a0 x k)
def p46_lp0 (l_a0 : (Sl FluxRow)) (x : Span) : Nat → Int → Int → Bool
  | 0 => fun _ _ => false
  | k + 1 => p46_st0 l_a0 x (p46_lp0 l_a0 x k)
def s46_at0 (l_a0 : (Sl FluxRow)) (x : Span) (iv0 : Int) (out_1v0 : Int) : Span := s46_lp0 l_a0 x Fuel iv0 out_1v0
def p46_at0 (l_a0 : (Sl FluxRow)) (x : Span) (iv0 : Int) (out_1v0 : Int) : Bool := p46_lp0 l_a0 x Fuel iv0 out_1v0
theorem q46_at0 (K : List PA → Prop) (l_a0 : (Sl FluxRow)) (x : Span) (iv0 : Int) (out_1v0 : Int) (hs : p46_at0 l_a0 x iv0 out_1v0 = true) (hk : K (e46 (s46_at0 l_a0 x iv0 out_1v0))) : f46_at0 K l_a0 x iv0 out_1v0 := by
  refine f46_loop0 K l_a0 x iv0 out_1v0 ?_
  intro X0 hstep
  have key : ∀ (k : Nat) (iv0 : Int) (out_1v0 : Int), p46_lp0 l_a0 x k iv0 out_1v0 = true → K (e46 (s46_lp0 l_a0 x k iv0 out_1v0)) → X0 (f46_g0 l_a0 x iv0 out_1v0) := by
    intro k
    induction k with
    | zero => intro iv0 out_1v0 hs; exact absurd hs Bool.false_ne_true
    | succ k ih =>
      intro iv0 out_1v0 hs hk
      refine hstep iv0 out_1v0 ?_
      have hs : p46_st0 l_a0 x (p46_lp0 l_a0 x k) iv0 out_1v0 = true := hs
      have hk : K (e46 (s46_st0 l_a0 x (s46_lp0 l_a0 x k) iv0 out_1v0)) := hk
      unfold p46_st0 at hs
      unfold s46_st0 at hk
      generalize s46_lp0 l_a0 x k = S0 at hk ih
      generalize p46_lp0 l_a0 x k = P0 at hs ih
      have hX0 := ih
      exact (condB_go (K := fun r => K (e46 r))
       (fun hs hk => (andK hs fun hc hs => ⟨hc, (condB_go (K := fun r => K (e46 r))
        (fun hs hk => (andK hs fun hc hs => ⟨hc, (hX0 (w64 (iv0 + (1:Int))) ((l_a0.get iv0.toNat).Rate.High) hs hk)⟩))
        (fun hs hk => (hX0 (w64 (iv0 + (1:Int))) out_1v0 hs hk)) hs hk)⟩))
       (fun hs hk => (q46_at1 K l_a0 x out_1v0 hs hk)) hs hk)
  exact key _ iv0 out_1v0 hs hk
def s46 (l_a0 : (Sl FluxRow)) (x : Span) : Span :=
  (s46_at0 l_a0 x (0:Int) (0:Int))
def p46 (l_a0 : (Sl FluxRow)) (x : Span) : Bool :=
  (p46_at0 l_a0 x (0:Int) (0:Int))
theorem q46 (l_a0 : (Sl FluxRow)) (x : Span) (K : List PA → Prop) (hs : p46 l_a0 x = true) (hk : K (e46 (s46 l_a0 x))) : vcFun Try.prog G46 ann46 46 [.one (.sl l_a0.len 3 (fun i => enc_44 (l_a0.get i))), .agg [.int .i64 x.Low, .int .i64 x.High]] K := by
  refine ofEq (f46_top l_a0 x K) ?_
  unfold p46 at hs
  unfold s46 at hk
  exact (q46_at0 K l_a0 x (0:Int) (0:Int) hs hk)
def ctr46 : List PA → COut
  | [.one (.sl a0_n a0_s a0_g), .agg [.int .i64 a1_Low, .int .i64 a1_High]] => .det (IsE enc_44 3 a0_s a0_g ∧ p46 (⟨a0_n, decF_44 a0_g⟩ : (Sl FluxRow)) (⟨a1_Low, a1_High⟩ : Span) = true) [.agg [.int .i64 ((s46 (⟨a0_n, decF_44 a0_g⟩ : (Sl FluxRow)) (⟨a1_Low, a1_High⟩ : Span)).Low), .int .i64 ((s46 (⟨a0_n, decF_44 a0_g⟩ : (Sl FluxRow)) (⟨a1_Low, a1_High⟩ : Span)).High)]]
  | _ => .no
theorem call46 : Callable Try.prog 46 := ⟨_, rfl, rfl, by kernel_rfl⟩
theorem ok46 : Ok Try.prog 46 ctr46 := ok_tab okT46 call46 fun args K h => by
  unfold ctr46 at h
  split at h
  · rename_i a0_n a0_s a0_g a1_Low a1_High
    obtain ⟨⟨⟨rfl, a0_f, rfl⟩, hs⟩, hk⟩ := h
    try rw [decF_enc_44 a0_f] at hs
    try rw [decF_enc_44 a0_f] at hk
    exact ⟨(fun _ _ => []), (fun _ => false), ann46, q46 (⟨a0_n, a0_f⟩ : (Sl FluxRow)) (⟨a1_Low, a1_High⟩ : Span) K hs hk⟩
  · exact h.elim
-- 49 overburdenref05.Threshold
abbrev T49 : Tabs := Tabs.nil
theorem okT49 : TabsOk Try.prog T49 := TabsOk.nil
abbrev G49 : Ctrs := csm T49 (fun _ _ => []) (fun _ => false)
def ann49 : Ann := ⟨55, [(0, ⟨[0, 1, 4], [4], [], [], []⟩), (1, ⟨[0, 1, 4, 9], [4], [], [], []⟩), (2, ⟨[4], [4], [], [], []⟩), (3, ⟨[0, 1, 4, 5], [4, 5], [], [], []⟩), (4, ⟨[0, 1, 4, 5, 6], [4, 5], [], [], []⟩), (5, ⟨[0, 1, 4, 5, 6, 15], [4, 5], [], [], []⟩), (6, ⟨[0, 1, 4, 5, 6], [4, 5], [], [], []⟩), (7, ⟨[0, 1, 4, 5, 6, 25], [4, 5], [], [], []⟩), (8, ⟨[0, 1, 4, 5, 6], [4, 5], [], [], []⟩), (9, ⟨[0, 1, 4, 5, 7], [4, 5], [], [], []⟩), (10, ⟨[0, 1, 4, 5, 7, 37], [4, 5], [], [], []⟩), (11, ⟨[0, 1, 4, 5, 7], [4, 5], [], [], []⟩), (12, ⟨[0, 1, 4, 5, 7, 47], [4, 5], [], [], []⟩), (13, ⟨[0, 1, 4, 5, 7], [4, 5], [], [], []⟩), (14, ⟨[4], [4], [], [], []⟩)],
  [(5, ⟨[0, 1, 4, 5, 6], [4, 5], [], [], []⟩), (10, ⟨[0, 1, 4, 5, 7], [4, 5], [], [], []⟩)],
  [(3, ⟨[0, 1, 4], [4], [], [], []⟩), (9, ⟨[0, 1, 4, 5], [4, 5], [], [], []⟩)],
  [], []⟩
def f49_g0 (t : (Sl RangeRow)) (opacity : Int) : St := ⟨[(0, .one (.c (.p (.sl t.len 3 (fun i => enc_42 (t.get i)))))), (1, .one (.c (.p (.int .i64 opacity)))), (4, .one (.c (.ptr 4 0)))], [(4, .box 24 [.p (.int .i64 (0:Int)), .p (.int .i64 (0:Int))])], []⟩
def f49_at0 (K : List PA → Prop) (t : (Sl RangeRow)) (opacity : Int) : Prop := vc Try.prog G49 ann49 (cdF Try.f49 [1, 1]) (bodyK Try.prog Try.f49 K) (f49_g0 t opacity)
def f49_g1 (t : (Sl RangeRow)) (opacity : Int) (iv1 : Int) (out_0v1 : Int) : St := ⟨[(0, .one (.c (.p (.sl t.len 3 (fun i => enc_42 (t.get i)))))), (1, .one (.c (.p (.int .i64 opacity)))), (4, .one (.c (.ptr 4 0))), (5, .one (.c (.ptr 5 0))), (6, .one (.c (.p (.int .i64 iv1))))], [(4, .box 24 [.p (.int .i64 (0:Int)), .p (.int .i64 (0:Int))]), (5, .box 24 [.p (.int .i64 out_0v1), .p (.int .i64 (-1:Int))])], []⟩
def f49_at1 (K : List PA → Prop) (t : (Sl RangeRow)) (opacity : Int) (iv1 : Int) (out_0v1 : Int) : Prop := vc Try.prog G49 ann49 (cdF Try.f49 [1, 1, 1, 0, 1, 0]) (blockK 0 (sqK Try.prog G49 ann49 (cdF Try.f49 [1, 1, 1, 1]) (bodyK Try.prog Try.f49 K))) (f49_g1 t opacity iv1 out_0v1)
def f49_g2 (t : (Sl RangeRow)) (opacity : Int) (out_0v2 : Int) : St := ⟨[(0, .one (.c (.p (.sl t.len 3 (fun i => enc_42 (t.get i)))))), (1, .one (.c (.p (.int .i64 opacity)))), (4, .one (.c (.ptr 4 0))), (5, .one (.c (.ptr 5 0)))], [(4, .box 24 [.p (.int .i64 (0:Int)), .p (.int .i64 (0:Int))]), (5, .box 24 [.p (.int .i64 out_0v2), .p (.int .i64 (-1:Int))])], []⟩
def f49_at2 (K : List PA → Prop) (t : (Sl RangeRow)) (opacity : Int) (out_0v2 : Int) : Prop := vc Try.prog G49 ann49 (cdF Try.f49 [1, 1, 1, 1]) (bodyK Try.prog Try.f49 K) (f49_g2 t opacity out_0v2)
def f49_g3 (t : (Sl RangeRow)) (opacity : Int) (iv3 : Int) (out_0v3 : Int) (out_1v3 : Int) : St := ⟨[(0, .one (.c (.p (.sl t.len 3 (fun i => enc_42 (t.get i)))))), (1, .one (.c (.p (.int .i64 opacity)))), (4, .one (.c (.ptr 4 0))), (5, .one (.c (.ptr 5 0))), (7, .one (.c (.p (.int .i64 iv3))))], [(4, .box 24 [.p (.int .i64 (0:Int)), .p (.int .i64 (0:Int))]), (5, .box 24 [.p (.int .i64 out_0v3), .p (.int .i64 out_1v3)])], []⟩
def f49_at3 (K : List PA → Prop) (t : (Sl RangeRow)) (opacity : Int) (iv3 : Int) (out_0v3 : Int) (out_1v3 : Int) : Prop := vc Try.prog G49 ann49 (cdF Try.f49 [1, 1, 1, 1, 0, 1, 0]) (blockK 2 (sqK Try.prog G49 ann49 (cdF Try.f49 [1, 1, 1, 1, 1]) (bodyK Try.prog Try.f49 K))) (f49_g3 t opacity iv3 out_0v3 out_1v3)
theorem f49_top (t : (Sl RangeRow)) (opacity : Int) (K : List PA → Prop) :
  vcFun Try.prog G49 ann49 49 [.one (.sl t.len 3 (fun i => enc_42 (t.get i))), .one (.int .i64 opacity)] K =
  (condP (opacity == (0:Int))
   (K [.agg [.int .i64 (1:Int), .int .i64 (1:Int)]])
   (f49_at0 K t opacity)) := by kernel_rfl
theorem f49_eq0 (K : List PA → Prop) (t : (Sl RangeRow)) (opacity : Int) :
  f49_at0 K t opacity =
  (f49_at1 K t opacity (0:Int) (1:Int)) := by kernel_rfl
def f49_step1 (K : List PA → Prop) (X1 : St → Prop) (t : (Sl RangeRow)) (opacity : Int) (iv1 : Int) (out_0v1 : Int) : Prop :=
  (condP (decide (iv1 < (t.len : Int)))
   (((0 ≤ iv1 ∧ iv1 < (t.len : Int))) ∧
   (condP (decide ((t.get iv1.toNat).Range.High < opacity))
    (((0 ≤ iv1 ∧ iv1 < (t.len : Int))) ∧
    (X1 (f49_g1 t opacity (w64 (iv1 + (1:Int))) (w64 ((t.get iv1.toNat).Energy + (1:Int))))))
    (X1 (f49_g1 t opacity (w64 (iv1 + (1:Int))) out_0v1))))
   (f49_at2 K t opacity out_0v1))
theorem f49_stepeq1 (K : List PA → Prop) (X1 : St → Prop) (t : (Sl RangeRow)) (opacity : Int) (iv1 : Int) (out_0v1 : Int) :
  vc Try.prog G49 ann49 (cd (cdF Try.f49 [1, 1, 1, 0, 1, 0]) [0]) (loopK Try.prog ann49 5 X1 (blockK 0 (sqK Try.prog G49 ann49 (cdF Try.f49 [1, 1, 1, 1]) (bodyK Try.prog Try.f49 K)))) (f49_g1 t opacity iv1 out_0v1) =
  f49_step1 K X1 t opacity iv1 out_0v1 := by kernel_rfl
theorem f49_loop1 (K : List PA → Prop) (t : (Sl RangeRow)) (opacity : Int) (iv1 : Int) (out_0v1 : Int)
  (h : ∀ X1 : St → Prop, (∀ (iv1 : Int) (out_0v1 : Int), f49_step1 K X1 t opacity iv1 out_0v1 → X1 (f49_g1 t opacity iv1 out_0v1)) → X1 (f49_g1 t opacity iv1 out_0v1)) :
  f49_at1 K t opacity iv1 out_0v1 := by
  have e : f49_at1 K t opacity iv1 out_0v1 = (∀ X : St → Prop, (∀ s, vc Try.prog G49 ann49 (cd (cdF Try.f49 [1, 1, 1, 0, 1, 0]) [0]) (loopK Try.prog ann49 5 X (blockK 0 (sqK Try.prog G49 ann49 (cdF Try.f49 [1, 1, 1, 1]) (bodyK Try.prog Try.f49 K)))) s → X s) → X (f49_g1 t opacity iv1 out_0v1)) := by kernel_rfl
  refine ofEq e ?_
  intro X hX
  refine h X ?_
  intro iv1 out_0v1 hs
  refine hX _ ?_
  have e2 := f49_stepeq1 K X t opacity iv1 out_0v1
  rw [e2]
  exact hs
theorem f49_eq2 (K : List PA → Prop) (t : (Sl RangeRow)) (opacity : Int) (out_0v2 : Int) :
  f49_at2 K t opacity out_0v2 =
  (f49_at3 K t opacity (w64 ((t.len : Int) - (1:Int))) out_0v2 (-1:Int)) := by kernel_rfl
def f49_step3 (K : List PA → Prop) (X3 : St → Prop) (t : (Sl RangeRow)) (opacity : Int) (iv3 : Int) (out_0v3 : Int) (out_1v3 : Int) : Prop :=
  (condP (decide (iv3 ≥ (0:Int)))
   (((0 ≤ iv3 ∧ iv3 < (t.len : Int))) ∧
   (condP (decide ((t.get iv3.toNat).Range.Low ≥ opacity))
    (((0 ≤ iv3 ∧ iv3 < (t.len : Int))) ∧
    (X3 (f49_g3 t opacity (w64 (iv3 - (1:Int))) out_0v3 ((t.get iv3.toNat).Energy))))
    (X3 (f49_g3 t opacity (w64 (iv3 - (1:Int))) out_0v3 out_1v3))))
   (K [.agg [.int .i64 out_0v3, .int .i64 out_1v3]]))
theorem f49_stepeq3 (K : List PA → Prop) (X3 : St → Prop) (t : (Sl RangeRow)) (opacity : Int) (iv3 : Int) (out_0v3 : Int) (out_1v3 : Int) :
  vc Try.prog G49 ann49 (cd (cdF Try.f49 [1, 1, 1, 1, 0, 1, 0]) [0]) (loopK Try.prog ann49 10 X3 (blockK 2 (sqK Try.prog G49 ann49 (cdF Try.f49 [1, 1, 1, 1, 1]) (bodyK Try.prog Try.f49 K)))) (f49_g3 t opacity iv3 out_0v3 out_1v3) =
  f49_step3 K X3 t opacity iv3 out_0v3 out_1v3 := by kernel_rfl
theorem f49_loop3 (K : List PA → Prop) (t : (Sl RangeRow)) (opacity : Int) (iv3 : Int) (out_0v3 : Int) (out_1v3 : Int)
  (h : ∀ X3 : St → Prop, (∀ (iv3 : Int) (out_0v3 : Int) (out_1v3 : Int), f49_step3 K X3 t opacity iv3 out_0v3 out_1v3 → X3 (f49_g3 t opacity iv3 out_0v3 out_1v3)) → X3 (f49_g3 t opacity iv3 out_0v3 out_1v3)) :
  f49_at3 K t opacity iv3 out_0v3 out_1v3 := by
  have e : f49_at3 K t opacity iv3 out_0v3 out_1v3 = (∀ X : St → Prop, (∀ s, vc Try.prog G49 ann49 (cd (cdF Try.f49 [1, 1, 1, 1, 0, 1, 0]) [0]) (loopK Try.prog ann49 10 X (blockK 2 (sqK Try.prog G49 ann49 (cdF Try.f49 [1, 1, 1, 1, 1]) (bodyK Try.prog Try.f49 K)))) s → X s) → X (f49_g3 t opacity iv3 out_0v3 out_1v3)) := by kernel_rfl
  refine ofEq e ?_
  intro X hX
  refine h X ?_
  intro iv3 out_0v3 out_1v3 hs
  refine hX _ ?_
  have e2 := f49_stepeq3 K X t opacity iv3 out_0v3 out_1v3
  rw [e2]
  exact hs
abbrev R49 := Span
abbrev e49 (r : Span) : List PA := [.agg [.int .i64 r.Low, .int .i64 r.High]]
attribute [irreducible] f49_at0 f49_at1 f49_at2 f49_at3
def s49_st3 (t : (Sl RangeRow)) (opacity : Int) (S3 : Int → Int → Int → Span) (iv3 : Int) (out_0v3 : Int) (out_1v3 : Int) : Span :=
  (cond (decide (iv3 ≥ (0:Int)))
   (cond (decide ((t.get iv3.toNat).Range.Low ≥ opacity))
    (S3 (w64 (iv3 - (1:Int))) out_0v3 ((t.get iv3.toNat).Energy))
    (S3 (w64 (iv3 - (1:Int))) out_0v3 out_1v3))
   (⟨out_0v3, out_1v3⟩ : Span))
def p49_st3 (t : (Sl RangeRow)) (opacity : Int) (P3 : Int → Int → Int → Bool) (iv3 : Int) (out_0v3 : Int) (out_1v3 : Int) : Bool :=
  (cond (decide (iv3 ≥ (0:Int)))
   (decide ((0 ≤ iv3 ∧ iv3 < (t.len : Int))) &&
   (cond (decide ((t.get iv3.toNat).Range.Low ≥ opacity))
    (decide ((0 ≤ iv3 ∧ iv3 < (t.len : Int))) &&
    (P3 (w64 (iv3 - (1:Int))) out_0v3 ((t.get iv3.toNat).Energy)))
    (P3 (w64 (iv3 - (1:Int))) out_0v3 out_1v3)))
   true)
def s49_lp3 (t : (Sl RangeRow)) (opacity : Int) : Nat → Int → Int → Int → Span
  | 0 => fun _ _ _ => default
  | k + 1 => s49_st3 t opacity (s49_lp3 t opacity k)
def p49_lp3 (t : (Sl RangeRow)) (opacity : Int) : Nat → Int → Int → Int → Bool
  | 0 => fun _ _ _ => false
  | k + 1 => p49_st3 t opacity (p49_lp3 t opacity k)
def s49_at3 (t : (Sl RangeRow)) (opacity : Int) (iv3 : Int) (out_0v3 : Int) (out_1v3 : Int) : Span := s49_lp3 t opacity Fuel iv3 out_0v3 out_1v3
def p49_at3 (t : (Sl RangeRow)) (opacity : Int) (iv3 : Int) (out_0v3 : Int) (out_1v3 : Int) : Bool := p49_lp3 t opacity Fuel iv3 out_0v3 out_1v3
theorem q49_at3 (K : List PA → Prop) (t : (Sl RangeRow)) (opacity : Int) (iv3 : Int) (out_0v3 : Int) (out_1v3 : Int) (hs : p49_at3 t opacity iv3 out_0v3 out_1v3 = true) (hk : K (e49 (s49_at3 t opacity iv3 out_0v3 out_1v3))) : f49_at3 K t opacity iv3 out_0v3 out_1v3 := by
  refine f49_loop3 K t opacity iv3 out_0v3 out_1v3 ?_
  intro X3 hstep
  have key : ∀ (k : Nat) (iv3 : Int) (out_0v3 : Int) (out_1v3 : Int), p49_lp3 t opacity k iv3 out_0v3 out_1v3 = true → K (e49 (s49_lp3 t opacity k iv3 out_0v3 out_1v3)) → X3 (f49_g3 t opacity iv3 out_0v3 out_1v3) := by
    intro k
    induction k with
    | zero => intro iv3 out_0v3 out_1v3 hs; exact absurd hs Bool.false_ne_true
    | succ k ih =>
      intro iv3 out_0v3 out_1v3 hs hk
      refine hstep iv3 out_0v3 out_1v3 ?_
      have hs : p49_st3 t opacity (p49_lp3 t opacity k) iv3 out_0v3 out_1v3 = true := hs
      have hk : K (e49 (s49_st3 t opacity (s49_lp3 t opacity k) iv3 out_0v3 out_1v3)) := hk
      unfold p49_st3 at hs
      unfold s49_st3 at hk
      generalize s49_lp3 t opacity k = S3 at hk ih
      generalize p49_lp3 t opacity k = P3 at hs ih
      have hX3 := ih
      exact (condB_go (K := fun r => K (e49 r))
       (fun hs hk => (andK hs fun hc hs => ⟨hc, (condB_go (K := fun r => K (e49 r))
        (fun hs hk => (andK hs fun hc hs => ⟨hc, (hX3 (w64 (iv3 - (1:Int))) out_0v3 ((t.get iv3.toNat).Energy) hs hk)⟩))
        (fun hs hk => (hX3 (w64 (iv3 - (1:Int))) out_0v3 out_1v3 hs hk)) hs hk)⟩))
       (fun hs hk => hk) hs hk)
  exact key _ iv3 out_0v3 out_1v3 hs hk
def s49_at2 (t : (Sl RangeRow)) (opacity : Int) (out_0v2 : Int) : Span :=
  (s49_at3 t opacity (w64 ((t.len : Int) - (1:Int))) out_0v2 (-1:Int))
def p49_at2 (t : (Sl RangeRow)) (opacity : Int) (out_0v2 : Int) : Bool :=
  (p49_at3 t opacity (w64 ((t.len : Int) - (1:Int))) out_0v2 (-1:Int))
theorem q49_at2 (K : List PA → Prop) (t : (Sl RangeRow)) (opacity : Int) (out_0v2 : Int) (hs : p49_at2 t opacity out_0v2 = true) (hk : K (e49 (s49_at2 t opacity out_0v2))) : f49_at2 K t opacity out_0v2 := by
  refine ofEq (f49_eq2 K t opacity out_0v2) ?_
  unfold p49_at2 at hs
  unfold s49_at2 at hk
  exact (q49_at3 K t opacity (w64 ((t.len : Int) - (1:Int))) out_0v2 (-1:Int) hs hk)
def s49_st1 (t : (Sl RangeRow)) (opacity : Int) (S1 : Int → Int → Span) (iv1 : Int) (out_0v1 : Int) : Span :=
  (cond (decide (iv1 < (t.len : Int)))
   (cond (decide ((t.get iv1.toNat).Range.High < opacity))
    (S1 (w64 (iv1 + (1:Int))) (w64 ((t.get iv1.toNat).Energy + (1:Int))))
    (S1 (w64 (iv1 + (1:Int))) out_0v1))
   (s49_at2 t opacity out_0v1))
def p49_st1 (t : (Sl RangeRow)) (opacity : Int) (P1 : Int → Int → Bool) (iv1 : Int) (out_0v1 : Int) : Bool :=
  (cond (decide (iv1 < (t.len : Int)))
   (decide ((0 ≤ iv1 ∧ iv1 < (t.len : Int))) &&
   (cond (decide ((t.get iv1.toNat).Range.High < opacity))
    (decide ((0 ≤ iv1 ∧ iv1 < (t.len : Int))) &&
    (P1 (w64 (iv1 + (1:Int))) (w64 ((t.get iv1.toNat).Energy + (1:Int)))))
    (P1 (w64 (iv1 + (1:Int))) out_0v1)))
   (p49_at2 t opacity out_0v1))
def s49_lp1 (t : (Sl RangeRow)) (opacity : Int) : Nat → Int → Int → Span
  | 0 => fun _ _ => default
  | k + 1 => s49_st1 t opacity (s49_lp1 t opacity k)
def p49_lp1 (t : (Sl RangeRow)) (opacity : Int) : Nat → Int → Int → Bool
  | 0 => fun _ _ => false
  | k + 1 => p49_st1 t opacity (p49_lp1 t opacity k)
def s49_at1 (t : (Sl RangeRow)) (opacity : Int) (iv1 : Int) (out_0v1 : Int) : Span := s49_lp1 t opacity Fuel iv1 out_0v1
def p49_at1 (t : (Sl RangeRow)) (opacity : Int) (iv1 : Int) (out_0v1 : Int) : Bool := p49_lp1 t opacity Fuel iv1 out_0v1
theorem q49_at1 (K : List PA → Prop) (t : (Sl RangeRow)) (opacity : Int) (iv1 : Int) (out_0v1 : Int) (hs : p49_at1 t opacity iv1 out_0v1 = true) (hk : K (e49 (s49_at1 t opacity iv1 out_0v1))) : f49_at1 K t opacity iv1 out_0v1 := by
  refine f49_loop1 K t opacity iv1 out_0v1 ?_
  intro X1 hstep
  have key : ∀ (k : Nat) (iv1 : Int) (out_0v1 : Int), p49_lp1 t opacity k iv1 out_0v1 = true → K (e49 (s49_lp1 t opacity k iv1 out_0v1)) → X1 (f49_g1 t opacity iv1 out_0v1) := by
    intro k
    induction k with
    | zero => intro iv1 out_0v1 hs; exact absurd hs Bool.false_ne_true
    | succ k ih =>
      intro iv1 out_0v1 hs hk
      refine hstep iv1 out_0v1 ?_
      have hs : p49_st1 t opacity (p49_lp1 t opacity k) iv1 out_0v1 = true := hs
      have hk : K (e49 (s49_st1 t opacity (s49_lp1 t opacity k) iv1 out_0v1)) := hk
      unfold p49_st1 at hs
      unfold s49_st1 at hk
      generalize s49_lp1 t opacity k = S1 at hk ih
      generalize p49_lp1 t opacity k = P1 at hs ih
      have hX1 := ih
      exact (condB_go (K := fun r => K (e49 r))
       (fun hs hk => (andK hs fun hc hs => ⟨hc, (condB_go (K := fun r => K (e49 r))
        (fun hs hk => (andK hs fun hc hs => ⟨hc, (hX1 (w64 (iv1 + (1:Int))) (w64 ((t.get iv1.toNat).Energy + (1:Int))) hs hk)⟩))
        (fun hs hk => (hX1 (w64 (iv1 + (1:Int))) out_0v1 hs hk)) hs hk)⟩))
       (fun hs hk => (q49_at2 K t opacity out_0v1 hs hk)) hs hk)
  exact key _ iv1 out_0v1 hs hk
def s49_at0 (t : (Sl RangeRow)) (opacity : Int) : Span :=
  (s49_at1 t opacity (0:Int) (1:Int))
def p49_at0 (t : (Sl RangeRow)) (opacity : Int) : Bool :=
  (p49_at1 t opacity (0:Int) (1:Int))
theorem q49_at0 (K : List PA → Prop) (t : (Sl RangeRow)) (opacity : Int) (hs : p49_at0 t opacity = true) (hk : K (e49 (s49_at0 t opacity))) : f49_at0 K t opacity := by
  refine ofEq (f49_eq0 K t opacity) ?_
  unfold p49_at0 at hs
  unfold s49_at0 at hk
  exact (q49_at1 K t opacity (0:Int) (1:Int) hs hk)
def s49 (t : (Sl RangeRow)) (opacity : Int) : Span :=
  (cond (opacity == (0:Int))
   (⟨(1:Int), (1:Int)⟩ : Span)
   (s49_at0 t opacity))
def p49 (t : (Sl RangeRow)) (opacity : Int) : Bool :=
  (cond (opacity == (0:Int))
   true
   (p49_at0 t opacity))
theorem q49 (t : (Sl RangeRow)) (opacity : Int) (K : List PA → Prop) (hs : p49 t opacity = true) (hk : K (e49 (s49 t opacity))) : vcFun Try.prog G49 ann49 49 [.one (.sl t.len 3 (fun i => enc_42 (t.get i))), .one (.int .i64 opacity)] K := by
  refine ofEq (f49_top t opacity K) ?_
  unfold p49 at hs
  unfold s49 at hk
  exact (condB_go (K := fun r => K (e49 r))
   (fun hs hk => hk)
   (fun hs hk => (q49_at0 K t opacity hs hk)) hs hk)
def ctr49 : List PA → COut
  | [.one (.sl a0_n a0_s a0_g), .one (.int .i64 a1)] => .det (IsE enc_42 3 a0_s a0_g ∧ p49 (⟨a0_n, decF_42 a0_g⟩ : (Sl RangeRow)) a1 = true) [.agg [.int .i64 ((s49 (⟨a0_n, decF_42 a0_g⟩ : (Sl RangeRow)) a1).Low), .int .i64 ((s49 (⟨a0_n, decF_42 a0_g⟩ : (Sl RangeRow)) a1).High)]]
  | _ => .no
theorem call49 : Callable Try.prog 49 := ⟨_, rfl, rfl, by kernel_rfl⟩
theorem ok49 : Ok Try.prog 49 ctr49 := ok_tab okT49 call49 fun args K h => by
  unfold ctr49 at h
  split at h
  · rename_i a0_n a0_s a0_g a1
    obtain ⟨⟨⟨rfl, a0_f, rfl⟩, hs⟩, hk⟩ := h
    try rw [decF_enc_42 a0_f] at hs
    try rw [decF_enc_42 a0_f] at hk
    exact ⟨(fun _ _ => []), (fun _ => false), ann49, q49 (⟨a0_n, a0_f⟩ : (Sl RangeRow)) a1 K hs hk⟩
  · exact h.elim
-- 47 overburdenref05.Expected
abbrev T47 : Tabs := ((Tabs.nil.addF 46 ctr46).addF 49 ctr49)
theorem okT47 : TabsOk Try.prog T47 := ((TabsOk.nil.addF ok46).addF ok49)
abbrev G47 : Ctrs := csm T47 (fun _ _ => []) (fun _ => false)
def ann47 : Ann := ⟨18, [(0, ⟨[1, 2, 3, 4, 8], [4, 8], [], [], []⟩), (1, ⟨[8], [8], [], [], []⟩)],
  [],
  [],
  [], []⟩
theorem f47_top (s : Sky) (t : (Sl RangeRow)) (bin : Int) (opacity : Int) (K : List PA → Prop) :
  vcFun Try.prog G47 ann47 47 [.agg [.int .i64 s.Parts, .sl s.Bins.len 1 (fun i => enc_32 (s.Bins.get i)), .int .i64 s.Beta.Low, .int .i64 s.Beta.High, .int .i64 s.Alpha.Low, .int .i64 s.Alpha.High], .one (.sl t.len 3 (fun i => enc_42 (t.get i))), .one (.int .i64 bin), .one (.int .i64 opacity)] K =
  (((0 ≤ bin ∧ bin < (s.Bins.len : Int))) ∧
  ((IsE enc_42 3 3 (fun i => enc_42 (t.get i)) ∧ (p49 t opacity = true)) ∧
  ((IsE enc_44 3 3 (fun i => enc_44 ((s.Bins.get bin.toNat).get i)) ∧ (p46 (s.Bins.get bin.toNat) (s49 t opacity) = true)) ∧
  (K [.agg [.int .i64 ((s46 (s.Bins.get bin.toNat) (s49 t opacity)).Low), .int .i64 ((s46 (s.Bins.get bin.toNat) (s49 t opacity)).High)]])))) := by kernel_rfl
abbrev R47 := Span
abbrev e47 (r : Span) : List PA := [.agg [.int .i64 r.Low, .int .i64 r.High]]
def s47 (s : Sky) (t : (Sl RangeRow)) (bin : Int) (opacity : Int) : Span :=
  (s46 (s.Bins.get bin.toNat) (s49 t opacity))
def p47 (s : Sky) (t : (Sl RangeRow)) (bin : Int) (opacity : Int) : Bool :=
  (decide ((0 ≤ bin ∧ bin < (s.Bins.len : Int))) &&
  (decide ((p49 t opacity = true)) &&
  (decide ((p46 (s.Bins.get bin.toNat) (s49 t opacity) = true)) &&
  true)))
theorem q47 (s : Sky) (t : (Sl RangeRow)) (bin : Int) (opacity : Int) (K : List PA → Prop) (hs : p47 s t bin opacity = true) (hk : K (e47 (s47 s t bin opacity))) : vcFun Try.prog G47 ann47 47 [.agg [.int .i64 s.Parts, .sl s.Bins.len 1 (fun i => enc_32 (s.Bins.get i)), .int .i64 s.Beta.Low, .int .i64 s.Beta.High, .int .i64 s.Alpha.Low, .int .i64 s.Alpha.High], .one (.sl t.len 3 (fun i => enc_42 (t.get i))), .one (.int .i64 bin), .one (.int .i64 opacity)] K := by
  refine ofEq (f47_top s t bin opacity K) ?_
  unfold p47 at hs
  unfold s47 at hk
  exact (andK hs fun hc hs => ⟨hc, (andK hs fun hc hs => ⟨⟨isE, hc⟩, (andK hs fun hc hs => ⟨⟨isE, hc⟩, hk⟩)⟩)⟩)
def ctr47 : List PA → COut
  | [.agg [.int .i64 a0_Parts, .sl a0_Bins_n a0_Bins_s a0_Bins_g, .int .i64 a0_Beta_Low, .int .i64 a0_Beta_High, .int .i64 a0_Alpha_Low, .int .i64 a0_Alpha_High], .one (.sl a1_n a1_s a1_g), .one (.int .i64 a2), .one (.int .i64 a3)] => .det (IsE enc_32 1 a0_Bins_s a0_Bins_g ∧ IsE enc_42 3 a1_s a1_g ∧ p47 (⟨a0_Parts, (⟨a0_Bins_n, decF_32 a0_Bins_g⟩ : (Sl (Sl FluxRow))), (⟨a0_Beta_Low, a0_Beta_High⟩ : Span), (⟨a0_Alpha_Low, a0_Alpha_High⟩ : Span)⟩ : Sky) (⟨a1_n, decF_42 a1_g⟩ : (Sl RangeRow)) a2 a3 = true) [.agg [.int .i64 ((s47 (⟨a0_Parts, (⟨a0_Bins_n, decF_32 a0_Bins_g⟩ : (Sl (Sl FluxRow))), (⟨a0_Beta_Low, a0_Beta_High⟩ : Span), (⟨a0_Alpha_Low, a0_Alpha_High⟩ : Span)⟩ : Sky) (⟨a1_n, decF_42 a1_g⟩ : (Sl RangeRow)) a2 a3).Low), .int .i64 ((s47 (⟨a0_Parts, (⟨a0_Bins_n, decF_32 a0_Bins_g⟩ : (Sl (Sl FluxRow))), (⟨a0_Beta_Low, a0_Beta_High⟩ : Span), (⟨a0_Alpha_Low, a0_Alpha_High⟩ : Span)⟩ : Sky) (⟨a1_n, decF_42 a1_g⟩ : (Sl RangeRow)) a2 a3).High)]]
  | _ => .no
theorem call47 : Callable Try.prog 47 := ⟨_, rfl, rfl, by kernel_rfl⟩
theorem ok47 : Ok Try.prog 47 ctr47 := ok_tab okT47 call47 fun args K h => by
  unfold ctr47 at h
  split at h
  · rename_i a0_Parts a0_Bins_n a0_Bins_s a0_Bins_g a0_Beta_Low a0_Beta_High a0_Alpha_Low a0_Alpha_High a1_n a1_s a1_g a2 a3
    obtain ⟨⟨⟨rfl, a0_Bins_f, rfl⟩, ⟨rfl, a1_f, rfl⟩, hs⟩, hk⟩ := h
    try rw [decF_enc_32 a0_Bins_f] at hs
    try rw [decF_enc_32 a0_Bins_f] at hk
    try rw [decF_enc_42 a1_f] at hs
    try rw [decF_enc_42 a1_f] at hk
    exact ⟨(fun _ _ => []), (fun _ => false), ann47, q47 (⟨a0_Parts, (⟨a0_Bins_n, a0_Bins_f⟩ : (Sl (Sl FluxRow))), (⟨a0_Beta_Low, a0_Beta_High⟩ : Span), (⟨a0_Alpha_Low, a0_Alpha_High⟩ : Span)⟩ : Sky) (⟨a1_n, a1_f⟩ : (Sl RangeRow)) a2 a3 K hs hk⟩
  · exact h.elim
-- 78 overburdenref05.products
abbrev T78 : Tabs := Tabs.nil
theorem okT78 : TabsOk Try.prog T78 := TabsOk.nil
abbrev G78 : Ctrs := csm T78 (fun _ _ => []) (fun _ => false)
def ann78 : Ann := ⟨55, [(0, ⟨[2, 3], [2, 3], [], [], []⟩), (1, ⟨[6], [30], [], [], []⟩), (2, ⟨[6, 7, 8], [30], [], [], []⟩), (3, ⟨[6, 7, 8, 9], [30], [], [], []⟩), (4, ⟨[6, 7, 8, 9, 38], [30], [], [], []⟩), (5, ⟨[6, 7, 8, 9], [30], [], [], []⟩), (6, ⟨[6, 7, 8, 9], [30], [], [], []⟩), (7, ⟨[4, 5], [], [], [], []⟩)],
  [(4, ⟨[6, 7, 8, 9], [30], [], [], []⟩)],
  [],
  [], []⟩
def f78_g0 (lowv0 : Int) (highv0 : Int) (iv0 : Int) (v30v0_n : Nat) (v30v0_g : Nat → List PV) : St := ⟨[(6, .one (.c (.vec 30))), (7, .one (.c (.p (.int .i64 lowv0)))), (8, .one (.c (.p (.int .i64 highv0)))), (9, .one (.c (.p (.int .i64 iv0))))], [(30, .vec 3 1 8 v30v0_n v30v0_g)], []⟩
def f78_at0 (K : List PA → Prop) (lowv0 : Int) (highv0 : Int) (iv0 : Int) (v30v0_n : Nat) (v30v0_g : Nat → List PV) : Prop := vc Try.prog G78 ann78 (cdF Try.f78 [1, 1, 1, 0, 1, 0]) (blockK 0 (sqK Try.prog G78 ann78 (cdF Try.f78 [1, 1, 1, 1]) (bodyK Try.prog Try.f78 K))) (f78_g0 lowv0 highv0 iv0 v30v0_n v30v0_g)
theorem f78_top (a : Span) (b : Span) (K : List PA → Prop) :
  vcFun Try.prog G78 ann78 78 [.agg [.int .i64 a.Low, .int .i64 a.High], .agg [.int .i64 b.Low, .int .i64 b.High]] K =
  (((0 ≤ (0:Int) ∧ (0:Int) < (4 : Int))) ∧
  (((0 < 4)) ∧
  (((0 ≤ (0:Int) ∧ (0:Int) < (4 : Int))) ∧
  (((0 < 4)) ∧
  (f78_at0 K (w64 (a.Low * b.Low)) (w64 (a.Low * b.Low)) (1:Int) 4 (getL [(enc_3 (w64 (a.Low * b.Low))), (enc_3 (w64 (a.Low * b.High))), (enc_3 (w64 (a.High * b.Low))), (enc_3 (w64 (a.High * b.High)))])))))) := by kernel_rfl
def f78_step0 (K : List PA → Prop) (X0 : St → Prop) (lowv0 : Int) (highv0 : Int) (iv0 : Int) (v30v0 : (Sl Int)) : Prop :=
  (condP (decide (iv0 < (4:Int)))
   (((0 ≤ iv0 ∧ iv0 < (v30v0.len : Int))) ∧
   (((iv0.toNat < v30v0.len)) ∧
   (((0 ≤ iv0 ∧ iv0 < (v30v0.len : Int))) ∧
   (((iv0.toNat < v30v0.len)) ∧
   (X0 (f78_g0 (if (v30v0.get iv0.toNat) < lowv0 then (v30v0.get iv0.toNat) else lowv0) (if (v30v0.get iv0.toNat) > highv0 then (v30v0.get iv0.toNat) else highv0) (w64 (iv0 + (1:Int))) v30v0.len (fun i => enc_3 (v30v0.get i))))))))
   (K [.one (.int .i64 lowv0), .one (.int .i64 highv0)]))
theorem f78_stepeq0 (K : List PA → Prop) (X0 : St → Prop) (lowv0 : Int) (highv0 : Int) (iv0 : Int) (v30v0 : (Sl Int)) :
  vc Try.prog G78 ann78 (cd (cdF Try.f78 [1, 1, 1, 0, 1, 0]) [0]) (loopK Try.prog ann78 4 X0 (blockK 0 (sqK Try.prog G78 ann78 (cdF Try.f78 [1, 1, 1, 1]) (bodyK Try.prog Try.f78 K)))) (f78_g0 lowv0 highv0 iv0 v30v0.len (fun i => enc_3 (v30v0.get i))) =
  f78_step0 K X0 lowv0 highv0 iv0 v30v0 := by kernel_rfl
theorem f78_loop0 (K : List PA → Prop) (lowv0 : Int) (highv0 : Int) (iv0 : Int) (v30v0_n : Nat) (v30v0_g : Nat → List PV)
  (h : ∀ X0 : St → Prop, (∀ (lowv0 : Int) (highv0 : Int) (iv0 : Int) (v30v0 : (Sl Int)), f78_step0 K X0 lowv0 highv0 iv0 v30v0 → X0 (f78_g0 lowv0 highv0 iv0 v30v0.len (fun i => enc_3 (v30v0.get i)))) → X0 (f78_g0 lowv0 highv0 iv0 v30v0_n v30v0_g)) :
  f78_at0 K lowv0 highv0 iv0 v30v0_n v30v0_g := by
  have e : f78_at0 K lowv0 highv0 iv0 v30v0_n v30v0_g = (∀ X : St → Prop, (∀ s, vc Try.prog G78 ann78 (cd (cdF Try.f78 [1, 1, 1, 0, 1, 0]) [0]) (loopK Try.prog ann78 4 X (blockK 0 (sqK Try.prog G78 ann78 (cdF Try.f78 [1, 1, 1, 1]) (bodyK Try.prog Try.f78 K)))) s → X s) → X (f78_g0 lowv0 highv0 iv0 v30v0_n v30v0_g)) := by kernel_rfl
  refine ofEq e ?_
  intro X hX
  refine h X ?_
  intro lowv0 highv0 iv0 v30v0 hs
  refine hX _ ?_
  have e2 := f78_stepeq0 K X lowv0 highv0 iv0 v30v0
  rw [e2]
  exact hs
abbrev R78 := (Int × Int)
abbrev e78 (r : (Int × Int)) : List PA := [.one (.int .i64 r.1), .one (.int .i64 r.2)]
attribute [irreducible] f78_at0
def s78_st0 (S0 : Int → Int → Int → (Sl Int) → (Int × Int)) (lowv0 : Int) (highv0 : Int) (iv0 : Int) (v30v0 : (Sl Int)) : (Int × Int) :=
  (cond (decide (iv0 < (4:Int)))
   (S0 (if (v30v0.get iv0.toNat) < lowv0 then (v30v0.get iv0.toNat) else lowv0) (if (v30v0.get iv0.toNat) > highv0 then (v30v0.get iv0.toNat) else highv0) (w64 (iv0 + (1:Int))) v30v0)
   (lowv0, highv0))
def p78_st0 (P0 : Int → Int → Int → (Sl Int) → Bool) (lowv0 : Int) (highv0 : Int) (iv0 : Int) (v30v0 : (Sl Int)) : Bool :=
  (cond (decide (iv0 < (4:Int)))
   (decide ((0 ≤ iv0 ∧ iv0 < (v30v0.len : Int))) &&
   (decide ((iv0.toNat < v30v0.len)) &&
   (decide ((0 ≤ iv0 ∧ iv0 < (v30v0.len : Int))) &&
   (decide ((iv0.toNat < v30v0.len)) &&
   (P0 (if (v30v0.get iv0.toNat) < lowv0 then (v30v0.get iv0.toNat) else lowv0) (if (v30v0.get iv0.toNat) > highv0 then (v30v0.get iv0.toNat) else highv0) (w64 (iv0 + (1:Int))) v30v0)))))
   true)
def s78_lp0 : Nat → Int → Int → Int → (Sl Int) → (Int × Int)
  | 0 => fun _ _ _ _ => default
  | k + 1 => s78_st0 (s78_lp0 k)
def p78_lp0 : Nat → Int → Int → Int → (Sl Int) → Bool
  | 0 => fun _ _ _ _ => false
  | k + 1 => p78_st0 (p78_lp0 k)
def s78_at0 (lowv0 : Int) (highv0 : Int) (iv0 : Int) (v30v0 : (Sl Int)) : (Int × Int) := s78_lp0 Fuel lowv0 highv0 iv0 v30v0
def p78_at0 (lowv0 : Int) (highv0 : Int) (iv0 : Int) (v30v0 : (Sl Int)) : Bool := p78_lp0 Fuel lowv0 highv0 iv0 v30v0
theorem q78_at0 (K : List PA → Prop) (lowv0 : Int) (highv0 : Int) (iv0 : Int) (v30v0 : (Sl Int)) (v30v0_g : Nat → List PV) (v30v0_h : v30v0_g = fun i => enc_3 (v30v0.get i)) (hs : p78_at0 lowv0 highv0 iv0 v30v0 = true) (hk : K (e78 (s78_at0 lowv0 highv0 iv0 v30v0))) : f78_at0 K lowv0 highv0 iv0 v30v0.len v30v0_g := by
  refine f78_loop0 K lowv0 highv0 iv0 v30v0.len v30v0_g ?_
  intro X0 hstep
  have key : ∀ (k : Nat) (lowv0 : Int) (highv0 : Int) (iv0 : Int) (v30v0 : (Sl Int)) (v30v0_g : Nat → List PV) (v30v0_h : v30v0_g = fun i => enc_3 (v30v0.get i)), p78_lp0 k lowv0 highv0 iv0 v30v0 = true → K (e78 (s78_lp0 k lowv0 highv0 iv0 v30v0)) → X0 (f78_g0 lowv0 highv0 iv0 v30v0.len v30v0_g) := by
    intro k
    induction k with
    | zero => intro lowv0 highv0 iv0 v30v0 v30v0_g v30v0_h hs; exact absurd hs Bool.false_ne_true
    | succ k ih =>
      intro lowv0 highv0 iv0 v30v0 v30v0_g v30v0_h hs hk
      subst v30v0_h
      refine hstep lowv0 highv0 iv0 v30v0 ?_
      have hs : p78_st0 (p78_lp0 k) lowv0 highv0 iv0 v30v0 = true := hs
      have hk : K (e78 (s78_st0 (s78_lp0 k) lowv0 highv0 iv0 v30v0)) := hk
      unfold p78_st0 at hs
      unfold s78_st0 at hk
      generalize s78_lp0 k = S0 at hk ih
      generalize p78_lp0 k = P0 at hs ih
      have hX0 := ih
      exact (condB_go (K := fun r => K (e78 r))
       (fun hs hk => (andK hs fun hc hs => ⟨hc, (andK hs fun hc hs => ⟨hc, (andK hs fun hc hs => ⟨hc, (andK hs fun hc hs => ⟨hc, (hX0 (if (v30v0.get iv0.toNat) < lowv0 then (v30v0.get iv0.toNat) else lowv0) (if (v30v0.get iv0.toNat) > highv0 then (v30v0.get iv0.toNat) else highv0) (w64 (iv0 + (1:Int))) v30v0 (fun i => enc_3 (v30v0.get i)) rfl hs hk)⟩)⟩)⟩)⟩))
       (fun hs hk => hk) hs hk)
  exact key _ lowv0 highv0 iv0 v30v0 v30v0_g v30v0_h hs hk
def s78 (a : Span) (b : Span) : (Int × Int) :=
  (s78_at0 (w64 (a.Low * b.Low)) (w64 (a.Low * b.Low)) (1:Int) (⟨4, (getT (w64 (a.Low * b.Low)) [(w64 (a.Low * b.Low)), (w64 (a.Low * b.High)), (w64 (a.High * b.Low)), (w64 (a.High * b.High))])⟩ : Sl Int))
def p78 (a : Span) (b : Span) : Bool :=
  (decide ((0 ≤ (0:Int) ∧ (0:Int) < (4 : Int))) &&
  (decide ((0 < 4)) &&
  (decide ((0 ≤ (0:Int) ∧ (0:Int) < (4 : Int))) &&
  (decide ((0 < 4)) &&
  (p78_at0 (w64 (a.Low * b.Low)) (w64 (a.Low * b.Low)) (1:Int) (⟨4, (getT (w64 (a.Low * b.Low)) [(w64 (a.Low * b.Low)), (w64 (a.Low * b.High)), (w64 (a.High * b.Low)), (w64 (a.High * b.High))])⟩ : Sl Int))))))
theorem q78 (a : Span) (b : Span) (K : List PA → Prop) (hs : p78 a b = true) (hk : K (e78 (s78 a b))) : vcFun Try.prog G78 ann78 78 [.agg [.int .i64 a.Low, .int .i64 a.High], .agg [.int .i64 b.Low, .int .i64 b.High]] K := by
  refine ofEq (f78_top a b K) ?_
  unfold p78 at hs
  unfold s78 at hk
  exact (andK hs fun hc hs => ⟨hc, (andK hs fun hc hs => ⟨hc, (andK hs fun hc hs => ⟨hc, (andK hs fun hc hs => ⟨hc, (q78_at0 K (w64 (a.Low * b.Low)) (w64 (a.Low * b.Low)) (1:Int) (⟨4, (getT (w64 (a.Low * b.Low)) [(w64 (a.Low * b.Low)), (w64 (a.Low * b.High)), (w64 (a.High * b.Low)), (w64 (a.High * b.High))])⟩ : Sl Int) (getL [(enc_3 (w64 (a.Low * b.Low))), (enc_3 (w64 (a.Low * b.High))), (enc_3 (w64 (a.High * b.Low))), (enc_3 (w64 (a.High * b.High)))]) (getL_enc (enc := enc_3) (x := (w64 (a.Low * b.Low))) (y := (w64 (a.Low * b.High))) (r := [(w64 (a.High * b.Low)), (w64 (a.High * b.High))])) hs hk)⟩)⟩)⟩)⟩)
def ctr78 : List PA → COut
  | [.agg [.int .i64 a0_Low, .int .i64 a0_High], .agg [.int .i64 a1_Low, .int .i64 a1_High]] => .det (p78 (⟨a0_Low, a0_High⟩ : Span) (⟨a1_Low, a1_High⟩ : Span) = true) [.one (.int .i64 ((s78 (⟨a0_Low, a0_High⟩ : Span) (⟨a1_Low, a1_High⟩ : Span)).1)), .one (.int .i64 ((s78 (⟨a0_Low, a0_High⟩ : Span) (⟨a1_Low, a1_High⟩ : Span)).2))]
  | _ => .no
theorem call78 : Callable Try.prog 78 := ⟨_, rfl, rfl, by kernel_rfl⟩
theorem ok78 : Ok Try.prog 78 ctr78 := ok_tab okT78 call78 fun args K h => by
  unfold ctr78 at h
  split at h
  · rename_i a0_Low a0_High a1_Low a1_High
    obtain ⟨hs, hk⟩ := h
    exact ⟨(fun _ _ => []), (fun _ => false), ann78, q78 (⟨a0_Low, a0_High⟩ : Span) (⟨a1_Low, a1_High⟩ : Span) K hs hk⟩
  · exact h.elim
-- 37 overburdenref05.Factors
abbrev T37 : Tabs := (Tabs.nil.addF 78 ctr78)
theorem okT37 : TabsOk Try.prog T37 := (TabsOk.nil.addF ok78)
abbrev G37 : Ctrs := csm T37 (fun _ _ => []) (fun _ => false)
def ann37 : Ann := ⟨36, [(0, ⟨[2, 3, 4], [2, 3, 4], [], [], []⟩), (1, ⟨[2, 3, 4, 5, 6], [2, 3, 4], [], [], []⟩), (2, ⟨[4, 5, 6, 7, 8], [4], [], [], []⟩), (3, ⟨[4], [4], [], [], []⟩)],
  [],
  [],
  [], []⟩
theorem f37_top (s : Sky) (w : Weather) (K : List PA → Prop) :
  vcFun Try.prog G37 ann37 37 [.agg [.int .i64 s.Parts, .sl s.Bins.len 1 (fun i => enc_32 (s.Bins.get i)), .int .i64 s.Beta.Low, .int .i64 s.Beta.High, .int .i64 s.Alpha.Low, .int .i64 s.Alpha.High], .agg [.int .i64 w.Pressure.Low, .int .i64 w.Pressure.High, .int .i64 w.Warm.Low, .int .i64 w.Warm.High]] K =
  (((p78 s.Beta w.Pressure = true)) ∧
  (((p78 s.Alpha w.Warm = true)) ∧
  (K [.agg [.int .i64 (if (w64 ((w64 ((1000:Int) - ((s78 s.Beta w.Pressure).2))) + ((s78 s.Alpha w.Warm).1))) > (0:Int) then (w64 ((w64 ((1000:Int) - ((s78 s.Beta w.Pressure).2))) + ((s78 s.Alpha w.Warm).1))) else (0:Int)), .int .i64 (if (w64 ((w64 ((1000:Int) - ((s78 s.Beta w.Pressure).1))) + ((s78 s.Alpha w.Warm).2))) > (0:Int) then (w64 ((w64 ((1000:Int) - ((s78 s.Beta w.Pressure).1))) + ((s78 s.Alpha w.Warm).2))) else (0:Int))]]))) := by kernel_rfl
abbrev R37 := Span
abbrev e37 (r : Span) : List PA := [.agg [.int .i64 r.Low, .int .i64 r.High]]
def s37 (s : Sky) (w : Weather) : Span :=
  (⟨(if (w64 ((w64 ((1000:Int) - ((s78 s.Beta w.Pressure).2))) + ((s78 s.Alpha w.Warm).1))) > (0:Int) then (w64 ((w64 ((1000:Int) - ((s78 s.Beta w.Pressure).2))) + ((s78 s.Alpha w.Warm).1))) else (0:Int)), (if (w64 ((w64 ((1000:Int) - ((s78 s.Beta w.Pressure).1))) + ((s78 s.Alpha w.Warm).2))) > (0:Int) then (w64 ((w64 ((1000:Int) - ((s78 s.Beta w.Pressure).1))) + ((s78 s.Alpha w.Warm).2))) else (0:Int))⟩ : Span)
def p37 (s : Sky) (w : Weather) : Bool :=
  (decide ((p78 s.Beta w.Pressure = true)) &&
  (decide ((p78 s.Alpha w.Warm = true)) &&
  true))
theorem q37 (s : Sky) (w : Weather) (K : List PA → Prop) (hs : p37 s w = true) (hk : K (e37 (s37 s w))) : vcFun Try.prog G37 ann37 37 [.agg [.int .i64 s.Parts, .sl s.Bins.len 1 (fun i => enc_32 (s.Bins.get i)), .int .i64 s.Beta.Low, .int .i64 s.Beta.High, .int .i64 s.Alpha.Low, .int .i64 s.Alpha.High], .agg [.int .i64 w.Pressure.Low, .int .i64 w.Pressure.High, .int .i64 w.Warm.Low, .int .i64 w.Warm.High]] K := by
  refine ofEq (f37_top s w K) ?_
  unfold p37 at hs
  unfold s37 at hk
  exact (andK hs fun hc hs => ⟨hc, (andK hs fun hc hs => ⟨hc, hk⟩)⟩)
def ctr37 : List PA → COut
  | [.agg [.int .i64 a0_Parts, .sl a0_Bins_n a0_Bins_s a0_Bins_g, .int .i64 a0_Beta_Low, .int .i64 a0_Beta_High, .int .i64 a0_Alpha_Low, .int .i64 a0_Alpha_High], .agg [.int .i64 a1_Pressure_Low, .int .i64 a1_Pressure_High, .int .i64 a1_Warm_Low, .int .i64 a1_Warm_High]] => .det (IsE enc_32 1 a0_Bins_s a0_Bins_g ∧ p37 (⟨a0_Parts, (⟨a0_Bins_n, decF_32 a0_Bins_g⟩ : (Sl (Sl FluxRow))), (⟨a0_Beta_Low, a0_Beta_High⟩ : Span), (⟨a0_Alpha_Low, a0_Alpha_High⟩ : Span)⟩ : Sky) (⟨(⟨a1_Pressure_Low, a1_Pressure_High⟩ : Span), (⟨a1_Warm_Low, a1_Warm_High⟩ : Span)⟩ : Weather) = true) [.agg [.int .i64 ((s37 (⟨a0_Parts, (⟨a0_Bins_n, decF_32 a0_Bins_g⟩ : (Sl (Sl FluxRow))), (⟨a0_Beta_Low, a0_Beta_High⟩ : Span), (⟨a0_Alpha_Low, a0_Alpha_High⟩ : Span)⟩ : Sky) (⟨(⟨a1_Pressure_Low, a1_Pressure_High⟩ : Span), (⟨a1_Warm_Low, a1_Warm_High⟩ : Span)⟩ : Weather)).Low), .int .i64 ((s37 (⟨a0_Parts, (⟨a0_Bins_n, decF_32 a0_Bins_g⟩ : (Sl (Sl FluxRow))), (⟨a0_Beta_Low, a0_Beta_High⟩ : Span), (⟨a0_Alpha_Low, a0_Alpha_High⟩ : Span)⟩ : Sky) (⟨(⟨a1_Pressure_Low, a1_Pressure_High⟩ : Span), (⟨a1_Warm_Low, a1_Warm_High⟩ : Span)⟩ : Weather)).High)]]
  | _ => .no
theorem call37 : Callable Try.prog 37 := ⟨_, rfl, rfl, by kernel_rfl⟩
theorem ok37 : Ok Try.prog 37 ctr37 := ok_tab okT37 call37 fun args K h => by
  unfold ctr37 at h
  split at h
  · rename_i a0_Parts a0_Bins_n a0_Bins_s a0_Bins_g a0_Beta_Low a0_Beta_High a0_Alpha_Low a0_Alpha_High a1_Pressure_Low a1_Pressure_High a1_Warm_Low a1_Warm_High
    obtain ⟨⟨⟨rfl, a0_Bins_f, rfl⟩, hs⟩, hk⟩ := h
    try rw [decF_enc_32 a0_Bins_f] at hs
    try rw [decF_enc_32 a0_Bins_f] at hk
    exact ⟨(fun _ _ => []), (fun _ => false), ann37, q37 (⟨a0_Parts, (⟨a0_Bins_n, a0_Bins_f⟩ : (Sl (Sl FluxRow))), (⟨a0_Beta_Low, a0_Beta_High⟩ : Span), (⟨a0_Alpha_Low, a0_Alpha_High⟩ : Span)⟩ : Sky) (⟨(⟨a1_Pressure_Low, a1_Pressure_High⟩ : Span), (⟨a1_Warm_Low, a1_Warm_High⟩ : Span)⟩ : Weather) K hs hk⟩
  · exact h.elim
end Go.Proofs
namespace Go.Proofs
open Go Go.Pm
set_option maxRecDepth 100000
set_option linter.unusedVariables false
attribute [local irreducible] Go.Pm.vcFun Go.Pm.vc Go.Pm.vcIter
-- 42 flux.Reach
abbrev T42 : Tabs := (((Tabs.nil.addF 62 ctr62).addF 63 ctr63).addF 81 ctr81)
theorem okT42 : TabsOk Try.prog T42 := (((TabsOk.nil.addF ok62).addF ok63).addF ok81)
abbrev G42 : Ctrs := csm T42 (fun _ _ => []) (fun _ => false)
def ann42 : Ann := ⟨47, [(0, ⟨[0, 3, 4], [3, 4], [], [], []⟩), (1, ⟨[0, 3, 4, 16], [3, 4], [], [], []⟩), (2, ⟨[4, 5], [4], [], [], []⟩), (3, ⟨[0, 3, 4, 6], [3, 4, 6], [], [], []⟩), (4, ⟨[0, 3, 4, 6, 7], [3, 4, 6], [], [], []⟩), (5, ⟨[0, 3, 4, 6, 7, 23], [3, 4, 6], [], [], []⟩), (6, ⟨[0, 3, 4, 6], [3, 4, 6], [], [], []⟩), (7, ⟨[0, 4, 6, 8], [4, 6], [], [], []⟩), (8, ⟨[0, 4, 6, 8, 38], [4, 6], [], [], []⟩), (9, ⟨[4, 6], [4, 6], [], [], []⟩), (10, ⟨[4, 5], [4], [], [], []⟩)],
  [],
  [(2, ⟨[0, 3, 4, 16], [3, 4], [], [], []⟩), (3, ⟨[0, 3, 4], [3, 4], [], [], []⟩), (5, ⟨[0, 3, 4, 6, 7], [3, 4, 6], [], [], []⟩), (7, ⟨[0, 3, 4, 6], [3, 4, 6], [], [], []⟩), (8, ⟨[0, 4, 6, 8], [4, 6], [], [], []⟩)],
  [], []⟩
def f42_g0 (t : (Sl RangeRow)) (energy : Int) (t16v0 : Bool) : St := ⟨[(0, .one (.c (.p (.sl t.len 3 (fun i => enc_42 (t.get i)))))), (3, .one (.c (.ptr 3 0))), (4, .one (.c (.ptr 4 0))), (16, .one (.c (.p (.bool t16v0))))], [(3, .box 3 [.p (.int .i64 energy)]), (4, .box 24 [.p (.int .i64 (0:Int)), .p (.int .i64 (0:Int))])], []⟩
def f42_at0 (K : List PA → Prop) (t : (Sl RangeRow)) (energy : Int) (t16v0 : Bool) : Prop := vc Try.prog G42 ann42 (cdF Try.f42 [1, 0, 1]) (sqK Try.prog G42 ann42 (cdF Try.f42 [1, 1]) (bodyK Try.prog Try.f42 K)) (f42_g0 t energy t16v0)
def f42_g1 (t : (Sl RangeRow)) (energy : Int) : St := ⟨[(0, .one (.c (.p (.sl t.len 3 (fun i => enc_42 (t.get i)))))), (3, .one (.c (.ptr 3 0))), (4, .one (.c (.ptr 4 0)))], [(3, .box 3 [.p (.int .i64 energy)]), (4, .box 24 [.p (.int .i64 (0:Int)), .p (.int .i64 (0:Int))])], []⟩
def f42_at1 (K : List PA → Prop) (t : (Sl RangeRow)) (energy : Int) : Prop := vc Try.prog G42 ann42 (cdF Try.f42 [1, 1]) (bodyK Try.prog Try.f42 K) (f42_g1 t energy)
def f42_g2 (t : (Sl RangeRow)) (energy : Int) (iv2 : Int) : St := ⟨[(0, .one (.c (.p (.sl t.len 3 (fun i => enc_42 (t.get i)))))), (3, .one (.c (.ptr 3 0))), (4, .one (.c (.ptr 4 0))), (6, .one (.c (.ptr 6 0))), (7, .one (.c (.p (.int .i64 iv2))))], [(3, .fbox [.int .i64 energy]), (4, .box 24 [.p (.int .i64 (0:Int)), .p (.int .i64 (0:Int))]), (6, .box 24 [.p (.int .i64 (0:Int)), .p (.int .i64 (1000000:Int))])], []⟩
def f42_at2 (K : List PA → Prop) (t : (Sl RangeRow)) (energy : Int) (iv2 : Int) : Prop := vc Try.prog G42 ann42 (cdF Try.f42 [1, 1, 1, 0, 1]) (sqK Try.prog G42 ann42 (cdF Try.f42 [1, 1, 1, 1]) (bodyK Try.prog Try.f42 K)) (f42_g2 t energy iv2)
def f42_g3 (t : (Sl RangeRow)) (energy : Int) (out_0v3 : Int) : St := ⟨[(0, .one (.c (.p (.sl t.len 3 (fun i => enc_42 (t.get i)))))), (3, .one (.c (.ptr 3 0))), (4, .one (.c (.ptr 4 0))), (6, .one (.c (.ptr 6 0)))], [(3, .fbox [.int .i64 energy]), (4, .box 24 [.p (.int .i64 (0:Int)), .p (.int .i64 (0:Int))]), (6, .box 24 [.p (.int .i64 out_0v3), .p (.int .i64 (1000000:Int))])], []⟩
def f42_at3 (K : List PA → Prop) (t : (Sl RangeRow)) (energy : Int) (out_0v3 : Int) : Prop := vc Try.prog G42 ann42 (cdF Try.f42 [1, 1, 1, 1]) (bodyK Try.prog Try.f42 K) (f42_g3 t energy out_0v3)
def f42_g4 (t : (Sl RangeRow)) (out_0v3 : Int) (iv4 : Int) : St := ⟨[(0, .one (.c (.p (.sl t.len 3 (fun i => enc_42 (t.get i)))))), (4, .one (.c (.ptr 4 0))), (6, .one (.c (.ptr 6 0))), (8, .one (.c (.p (.int .i64 iv4))))], [(4, .box 24 [.p (.int .i64 (0:Int)), .p (.int .i64 (0:Int))]), (6, .box 24 [.p (.int .i64 out_0v3), .p (.int .i64 (1000000:Int))])], []⟩
def f42_at4 (K : List PA → Prop) (t : (Sl RangeRow)) (out_0v3 : Int) (iv4 : Int) : Prop := vc Try.prog G42 ann42 (cdF Try.f42 [1, 1, 1, 1, 0, 1]) (sqK Try.prog G42 ann42 (cdF Try.f42 [1, 1, 1, 1, 1]) (bodyK Try.prog Try.f42 K)) (f42_g4 t out_0v3 iv4)
theorem f42_top (t : (Sl RangeRow)) (energy : Int) (K : List PA → Prop) :
  vcFun Try.prog G42 ann42 42 [.one (.sl t.len 3 (fun i => enc_42 (t.get i))), .one (.int .i64 energy)] K =
  ((IsE enc_42 3 3 (fun i => enc_42 (t.get i)) ∧ (p62 t = true)) ∧
  (condP (!(s62 t))
   (f42_at0 K t energy true)
   (f42_at0 K t energy (!(s63 energy (1:Int) (1000000:Int)))))) := by kernel_rfl
theorem f42_eq0 (K : List PA → Prop) (t : (Sl RangeRow)) (energy : Int) (t16v0 : Bool) :
  f42_at0 K t energy t16v0 =
  (condP t16v0
   (K [.agg [.int .i64 (0:Int), .int .i64 (0:Int)], .one (.int .i64 (2:Int))])
   (f42_at1 K t energy)) := by kernel_rfl
theorem f42_eq1 (K : List PA → Prop) (t : (Sl RangeRow)) (energy : Int) :
  f42_at1 K t energy =
  ((IsE enc_42 3 3 (fun i => enc_42 (t.get i)) ∧ (p81b energy t = true)) ∧
  (f42_at2 K t energy (s81b energy t))) := by kernel_rfl
theorem f42_eq2 (K : List PA → Prop) (t : (Sl RangeRow)) (energy : Int) (iv2 : Int) :
  f42_at2 K t energy iv2 =
  (condP (decide (iv2 > (0:Int)))
   (((0 ≤ (w64 (iv2 - (1:Int))) ∧ (w64 (iv2 - (1:Int))) < (t.len : Int))) ∧
   (f42_at3 K t energy ((t.get ((w64 (iv2 - (1:Int))).toNat)).Range.Low)))
   (f42_at3 K t energy (0:Int))) := by kernel_rfl
theorem f42_eq3 (K : List PA → Prop) (t : (Sl RangeRow)) (energy : Int) (out_0v3 : Int) :
  f42_at3 K t energy out_0v3 =
  ((IsE enc_42 3 3 (fun i => enc_42 (t.get i)) ∧ (p81c energy t = true)) ∧
  (f42_at4 K t out_0v3 (s81c energy t))) := by kernel_rfl
theorem f42_eq4 (K : List PA → Prop) (t : (Sl RangeRow)) (out_0v3 : Int) (iv4 : Int) :
  f42_at4 K t out_0v3 iv4 =
  (condP (decide (iv4 < (t.len : Int)))
   (((0 ≤ iv4 ∧ iv4 < (t.len : Int))) ∧
   (K [.agg [.int .i64 out_0v3, .int .i64 ((t.get iv4.toNat).Range.High)], .one (.int .i64 (0:Int))]))
   (K [.agg [.int .i64 out_0v3, .int .i64 (1000000:Int)], .one (.int .i64 (0:Int))])) := by kernel_rfl
abbrev R42 := (Span × Int)
abbrev e42 (r : (Span × Int)) : List PA := [.agg [.int .i64 r.1.Low, .int .i64 r.1.High], .one (.int .i64 r.2)]
attribute [irreducible] f42_at0 f42_at1 f42_at2 f42_at3 f42_at4
def s42_at4 (t : (Sl RangeRow)) (out_0v3 : Int) (iv4 : Int) : (Span × Int) :=
  (cond (decide (iv4 < (t.len : Int)))
   ((⟨out_0v3, (t.get iv4.toNat).Range.High⟩ : Span), (0:Int))
   ((⟨out_0v3, (1000000:Int)⟩ : Span), (0:Int)))
def p42_at4 (t : (Sl RangeRow)) (out_0v3 : Int) (iv4 : Int) : Bool :=
  (cond (decide (iv4 < (t.len : Int)))
   (decide ((0 ≤ iv4 ∧ iv4 < (t.len : Int))) &&
   true)
   true)
theorem q42_at4 (K : List PA → Prop) (t : (Sl RangeRow)) (out_0v3 : Int) (iv4 : Int) (hs : p42_at4 t out_0v3 iv4 = true) (hk : K (e42 (s42_at4 t out_0v3 iv4))) : f42_at4 K t out_0v3 iv4 := by
  refine ofEq (f42_eq4 K t out_0v3 iv4) ?_
  unfold p42_at4 at hs
  unfold s42_at4 at hk
  exact (condB_go (K := fun r => K (e42 r))
   (fun hs hk => (andK hs fun hc hs => ⟨hc, hk⟩))
   (fun hs hk => hk) hs hk)
def s42_at3 (t : (Sl RangeRow)) (energy : Int) (out_0v3 : Int) : (Span × Int) :=
  (s42_at4 t out_0v3 (s81c energy t))
def p42_at3 (t : (Sl RangeRow)) (energy : Int) (out_0v3 : Int) : Bool :=
  (decide ((p81c energy t = true)) &&
  (p42_at4 t out_0v3 (s81c energy t)))
theorem q42_at3 (K : List PA → Prop) (t : (Sl RangeRow)) (energy : Int) (out_0v3 : Int) (hs : p42_at3 t energy out_0v3 = true) (hk : K (e42 (s42_at3 t energy out_0v3))) : f42_at3 K t energy out_0v3 := by
  refine ofEq (f42_eq3 K t energy out_0v3) ?_
  unfold p42_at3 at hs
  unfold s42_at3 at hk
  exact (andK hs fun hc hs => ⟨⟨isE, hc⟩, (q42_at4 K t out_0v3 (s81c energy t) hs hk)⟩)
def s42_at2 (t : (Sl RangeRow)) (energy : Int) (iv2 : Int) : (Span × Int) :=
  (cond (decide (iv2 > (0:Int)))
   (s42_at3 t energy ((t.get ((w64 (iv2 - (1:Int))).toNat)).Range.Low))
   (s42_at3 t energy (0:Int)))
def p42_at2 (t : (Sl RangeRow)) (energy : Int) (iv2 : Int) : Bool :=
  (cond (decide (iv2 > (0:Int)))
   (decide ((0 ≤ (w64 (iv2 - (1:Int))) ∧ (w64 (iv2 - (1:Int))) < (t.len : Int))) &&
   (p42_at3 t energy ((t.get ((w64 (iv2 - (1:Int))).toNat)).Range.Low)))
   (p42_at3 t energy (0:Int)))
theorem q42_at2 (K : List PA → Prop) (t : (Sl RangeRow)) (energy : Int) (iv2 : Int) (hs : p42_at2 t energy iv2 = true) (hk : K (e42 (s42_at2 t energy iv2))) : f42_at2 K t energy iv2 := by
  refine ofEq (f42_eq2 K t energy iv2) ?_
  unfold p42_at2 at hs
  unfold s42_at2 at hk
  exact (condB_go (K := fun r => K (e42 r))
   (fun hs hk => (andK hs fun hc hs => ⟨hc, (q42_at3 K t energy ((t.get ((w64 (iv2 - (1:Int))).toNat)).Range.Low) hs hk)⟩))
   (fun hs hk => (q42_at3 K t energy (0:Int) hs hk)) hs hk)
def s42_at1 (t : (Sl RangeRow)) (energy : Int) : (Span × Int) :=
  (s42_at2 t energy (s81b energy t))
def p42_at1 (t : (Sl RangeRow)) (energy : Int) : Bool :=
  (decide ((p81b energy t = true)) &&
  (p42_at2 t energy (s81b energy t)))
theorem q42_at1 (K : List PA → Prop) (t : (Sl RangeRow)) (energy : Int) (hs : p42_at1 t energy = true) (hk : K (e42 (s42_at1 t energy))) : f42_at1 K t energy := by
  refine ofEq (f42_eq1 K t energy) ?_
  unfold p42_at1 at hs
  unfold s42_at1 at hk
  exact (andK hs fun hc hs => ⟨⟨isE, hc⟩, (q42_at2 K t energy (s81b energy t) hs hk)⟩)
def s42_at0 (t : (Sl RangeRow)) (energy : Int) (t16v0 : Bool) : (Span × Int) :=
  (cond t16v0
   ((⟨(0:Int), (0:Int)⟩ : Span), (2:Int))
   (s42_at1 t energy))
def p42_at0 (t : (Sl RangeRow)) (energy : Int) (t16v0 : Bool) : Bool :=
  (cond t16v0
   true
   (p42_at1 t energy))
theorem q42_at0 (K : List PA → Prop) (t : (Sl RangeRow)) (energy : Int) (t16v0 : Bool) (hs : p42_at0 t energy t16v0 = true) (hk : K (e42 (s42_at0 t energy t16v0))) : f42_at0 K t energy t16v0 := by
  refine ofEq (f42_eq0 K t energy t16v0) ?_
  unfold p42_at0 at hs
  unfold s42_at0 at hk
  exact (condB_go (K := fun r => K (e42 r))
   (fun hs hk => hk)
   (fun hs hk => (q42_at1 K t energy hs hk)) hs hk)
def s42 (t : (Sl RangeRow)) (energy : Int) : (Span × Int) :=
  (cond (!(s62 t))
   (s42_at0 t energy true)
   (s42_at0 t energy (!(s63 energy (1:Int) (1000000:Int)))))
def p42 (t : (Sl RangeRow)) (energy : Int) : Bool :=
  (decide ((p62 t = true)) &&
  (cond (!(s62 t))
   (p42_at0 t energy true)
   (p42_at0 t energy (!(s63 energy (1:Int) (1000000:Int))))))
theorem q42 (t : (Sl RangeRow)) (energy : Int) (K : List PA → Prop) (hs : p42 t energy = true) (hk : K (e42 (s42 t energy))) : vcFun Try.prog G42 ann42 42 [.one (.sl t.len 3 (fun i => enc_42 (t.get i))), .one (.int .i64 energy)] K := by
  refine ofEq (f42_top t energy K) ?_
  unfold p42 at hs
  unfold s42 at hk
  exact (andK hs fun hc hs => ⟨⟨isE, hc⟩, (condB_go (K := fun r => K (e42 r))
   (fun hs hk => (q42_at0 K t energy true hs hk))
   (fun hs hk => (q42_at0 K t energy (!(s63 energy (1:Int) (1000000:Int))) hs hk)) hs hk)⟩)
def ctr42 : List PA → COut
  | [.one (.sl a0_n a0_s a0_g), .one (.int .i64 a1)] => .det (IsE enc_42 3 a0_s a0_g ∧ p42 (⟨a0_n, decF_42 a0_g⟩ : (Sl RangeRow)) a1 = true) [.agg [.int .i64 (((s42 (⟨a0_n, decF_42 a0_g⟩ : (Sl RangeRow)) a1).1).Low), .int .i64 (((s42 (⟨a0_n, decF_42 a0_g⟩ : (Sl RangeRow)) a1).1).High)], .one (.int .i64 ((s42 (⟨a0_n, decF_42 a0_g⟩ : (Sl RangeRow)) a1).2))]
  | _ => .no
theorem call42 : Callable Try.prog 42 := ⟨_, rfl, rfl, by kernel_rfl⟩
theorem ok42 : Ok Try.prog 42 ctr42 := ok_tab okT42 call42 fun args K h => by
  unfold ctr42 at h
  split at h
  · rename_i a0_n a0_s a0_g a1
    obtain ⟨⟨⟨rfl, a0_f, rfl⟩, hs⟩, hk⟩ := h
    try rw [decF_enc_42 a0_f] at hs
    try rw [decF_enc_42 a0_f] at hk
    exact ⟨(fun _ _ => []), (fun _ => false), ann42, q42 (⟨a0_n, a0_f⟩ : (Sl RangeRow)) a1 K hs hk⟩
  · exact h.elim
end Go.Proofs
namespace Go.Proofs
open Go Go.Pm
set_option maxRecDepth 100000
set_option linter.unusedVariables false
attribute [local irreducible] Go.Pm.vcFun Go.Pm.vc Go.Pm.vcIter
-- 40 overburdenref05.Learn
abbrev T40 : Tabs := (Tabs.nil.addF 49 ctr49)
theorem okT40 : TabsOk Try.prog T40 := (TabsOk.nil.addF ok49)
abbrev G40 : Ctrs := csm T40 (fun _ _ => []) (fun _ => false)
def ann40 : Ann := ⟨121, [(0, ⟨[1, 2, 3, 5, 9, 10], [5, 9, 10], [], [], []⟩), (1, ⟨[2, 5, 9, 10, 12], [5, 9, 10, 12], [], [], []⟩), (2, ⟨[2, 5, 9, 10, 12, 13], [5, 9, 10, 12, 13], [], [], []⟩), (3, ⟨[2, 5, 9, 10, 12, 13, 14], [5, 9, 10, 12, 13], [], [], []⟩), (4, ⟨[2, 5, 9, 10, 12, 13, 14, 31], [5, 9, 10, 12, 13, 118], [], [], []⟩), (5, ⟨[2, 5, 9, 10, 12, 13, 14], [5, 9, 10, 12, 13, 118], [], [], []⟩), (6, ⟨[2, 5, 9, 10, 12, 13, 14, 15], [5, 9, 10, 12, 13, 39, 118], [], [], []⟩), (7, ⟨[2, 5, 9, 10, 12, 13, 14, 15, 16], [5, 9, 10, 12, 13, 39, 118], [], [], []⟩), (8, ⟨[2, 5, 9, 10, 12, 13, 14, 15, 16, 48], [5, 9, 10, 12, 13, 39, 118], [], [], []⟩), (9, ⟨[2, 5, 9, 10, 12, 13, 14, 15, 16], [5, 9, 10, 12, 13, 39, 118], [], [], []⟩), (10, ⟨[2, 5, 9, 10, 12, 13, 14, 15, 16, 58], [5, 9, 10, 12, 13, 39, 118], [], [], []⟩), (11, ⟨[2, 5, 9, 10, 12, 13, 14, 15, 16], [5, 9, 10, 12, 13, 39, 118], [], [], []⟩), (12, ⟨[2, 5, 9, 10, 12, 13, 14, 15, 16, 85], [5, 9, 10, 12, 13, 39, 118], [], [], []⟩), (13, ⟨[2, 5, 9, 10, 12, 13, 14, 15, 16], [5, 9, 10, 12, 13, 39, 118], [], [], []⟩), (14, ⟨[2, 5, 9, 10, 12, 13, 14, 15, 16, 112], [5, 9, 10, 12, 13, 39, 118], [], [], []⟩), (15, ⟨[10, 11], [10], [], [], []⟩), (16, ⟨[2, 5, 9, 10, 12, 13, 14], [5, 9, 10, 12, 13, 118], [], [], []⟩), (17, ⟨[10, 11], [10, 118], [], [], []⟩)],
  [(4, ⟨[2, 5, 9, 10, 12, 13, 14], [5, 9, 10, 12, 13, 118], [], [(13, 1, 118, 32, fun _ => enc_32 default)], []⟩), (8, ⟨[2, 5, 9, 10, 12, 13, 14, 15, 16], [5, 9, 10, 12, 13, 39, 118], [], [], []⟩)],
  [(2, ⟨[2, 5, 9, 10, 12], [5, 9, 10, 12], [], [], []⟩), (12, ⟨[2, 5, 9, 10, 12, 13, 14, 15, 16], [5, 9, 10, 12, 13, 39, 118], [], [], []⟩), (14, ⟨[2, 5, 9, 10, 12, 13, 14, 15, 16], [5, 9, 10, 12, 13, 39, 118], [], [], []⟩)],
  [], []⟩
def f40_g0 (s : Sky) (bin : Int) (rates : Span) (s_1v0_n : Nat) (s_1v0_g : Nat → List PV) (x_0v0 : Int) (x_1v0 : Int) : St := ⟨[(2, .one (.c (.p (.int .i64 bin)))), (5, .one (.c (.ptr 5 0))), (9, .one (.c (.ptr 9 0))), (10, .one (.c (.ptr 10 0))), (12, .one (.c (.ptr 12 0)))], [(5, .box 26 [.p (.int .i64 s.Parts), .p (.sl s_1v0_n 1 s_1v0_g), .p (.int .i64 s.Beta.Low), .p (.int .i64 s.Beta.High), .p (.int .i64 s.Alpha.Low), .p (.int .i64 s.Alpha.High)]), (9, .box 24 [.p (.int .i64 rates.Low), .p (.int .i64 rates.High)]), (10, .box 26 [.p (.int .i64 (0:Int)), .p (.nils), .p (.int .i64 (0:Int)), .p (.int .i64 (0:Int)), .p (.int .i64 (0:Int)), .p (.int .i64 (0:Int))]), (12, .box 24 [.p (.int .i64 x_0v0), .p (.int .i64 x_1v0)])], []⟩
def f40_at0 (K : List PA → Prop) (s : Sky) (bin : Int) (rates : Span) (s_1v0_n : Nat) (s_1v0_g : Nat → List PV) (x_0v0 : Int) (x_1v0 : Int) : Prop := vc Try.prog G40 ann40 (cdF Try.f40 [1, 1]) (bodyK Try.prog Try.f40 K) (f40_g0 s bin rates s_1v0_n s_1v0_g x_0v0 x_1v0)
def f40_g1 (s : Sky) (bin : Int) (rates : Span) (x_0v0 : Int) (x_1v0 : Int) (iv1 : Int) (s_1v1_n : Nat) (s_1v1_g : Nat → List PV) (v118v1_n : Nat) (v118v1_g : Nat → List PV) : St := ⟨[(2, .one (.c (.p (.int .i64 bin)))), (5, .one (.c (.ptr 5 0))), (9, .one (.c (.ptr 9 0))), (10, .one (.c (.ptr 10 0))), (12, .one (.c (.ptr 12 0))), (13, .one (.c (.ptr 13 0))), (14, .one (.c (.p (.int .i64 iv1))))], [(5, .box 26 [.p (.int .i64 s.Parts), .p (.sl s_1v1_n 1 s_1v1_g), .p (.int .i64 s.Beta.Low), .p (.int .i64 s.Beta.High), .p (.int .i64 s.Alpha.Low), .p (.int .i64 s.Alpha.High)]), (9, .box 24 [.p (.int .i64 rates.Low), .p (.int .i64 rates.High)]), (10, .box 26 [.p (.int .i64 (0:Int)), .p (.nils), .p (.int .i64 (0:Int)), .p (.int .i64 (0:Int)), .p (.int .i64 (0:Int)), .p (.int .i64 (0:Int))]), (12, .box 24 [.p (.int .i64 x_0v0), .p (.int .i64 x_1v0)]), (13, .box 26 [.p (.int .i64 s.Parts), .vec 118, .p (.int .i64 s.Beta.Low), .p (.int .i64 s.Beta.High), .p (.int .i64 s.Alpha.Low), .p (.int .i64 s.Alpha.High)]), (118, .vec 32 1 24 v118v1_n v118v1_g)], []⟩
def f40_at1 (K : List PA → Prop) (s : Sky) (bin : Int) (rates : Span) (x_0v0 : Int) (x_1v0 : Int) (iv1 : Int) (s_1v1_n : Nat) (s_1v1_g : Nat → List PV) (v118v1_n : Nat) (v118v1_g : Nat → List PV) : Prop := vc Try.prog G40 ann40 (cdF Try.f40 [1, 1, 1, 0, 1, 0]) (blockK 0 (sqK Try.prog G40 ann40 (cdF Try.f40 [1, 1, 1, 1]) (bodyK Try.prog Try.f40 K))) (f40_g1 s bin rates x_0v0 x_1v0 iv1 s_1v1_n s_1v1_g v118v1_n v118v1_g)
def f40_g2 (s : Sky) (bin : Int) (rates : Span) (x_0v0 : Int) (x_1v0 : Int) (iv2 : Int) (kv2 : Int) (s_1v2_n : Nat) (s_1v2_g : Nat → List PV) (v39v2_n : Nat) (v39v2_g : Nat → List PV) (v118v2_n : Nat) (v118v2_g : Nat → List PV) : St := ⟨[(2, .one (.c (.p (.int .i64 bin)))), (5, .one (.c (.ptr 5 0))), (9, .one (.c (.ptr 9 0))), (10, .one (.c (.ptr 10 0))), (12, .one (.c (.ptr 12 0))), (13, .one (.c (.ptr 13 0))), (14, .one (.c (.p (.int .i64 iv2)))), (15, .one (.c (.vec 39))), (16, .one (.c (.p (.int .i64 kv2))))], [(5, .box 26 [.p (.int .i64 s.Parts), .p (.sl s_1v2_n 1 s_1v2_g), .p (.int .i64 s.Beta.Low), .p (.int .i64 s.Beta.High), .p (.int .i64 s.Alpha.Low), .p (.int .i64 s.Alpha.High)]), (9, .box 24 [.p (.int .i64 rates.Low), .p (.int .i64 rates.High)]), (10, .box 26 [.p (.int .i64 (0:Int)), .p (.nils), .p (.int .i64 (0:Int)), .p (.int .i64 (0:Int)), .p (.int .i64 (0:Int)), .p (.int .i64 (0:Int))]), (12, .box 24 [.p (.int .i64 x_0v0), .p (.int .i64 x_1v0)]), (13, .box 26 [.p (.int .i64 s.Parts), .vec 118, .p (.int .i64 s.Beta.Low), .p (.int .i64 s.Beta.High), .p (.int .i64 s.Alpha.Low), .p (.int .i64 s.Alpha.High)]), (39, .vec 44 3 24 v39v2_n v39v2_g), (118, .vec 32 1 24 v118v2_n v118v2_g)], []⟩
def f40_at2 (K : List PA → Prop) (X1 : St → Prop) (s : Sky) (bin : Int) (rates : Span) (x_0v0 : Int) (x_1v0 : Int) (iv2 : Int) (kv2 : Int) (s_1v2_n : Nat) (s_1v2_g : Nat → List PV) (v39v2_n : Nat) (v39v2_g : Nat → List PV) (v118v2_n : Nat) (v118v2_g : Nat → List PV) : Prop := vc Try.prog G40 ann40 (cdF Try.f40 [1, 1, 1, 0, 1, 0, 0, 1, 0, 0, 1, 0, 1, 0]) (blockK 2 (sqK Try.prog G40 ann40 (cdF Try.f40 [1, 1, 1, 0, 1, 0, 0, 1, 0, 0, 1, 1]) (blockK 1 (sqK Try.prog G40 ann40 (cdF Try.f40 [1, 1, 1, 0, 1, 0, 0, 1, 1]) (loopK Try.prog ann40 4 X1 (blockK 0 (sqK Try.prog G40 ann40 (cdF Try.f40 [1, 1, 1, 1]) (bodyK Try.prog Try.f40 K)))))))) (f40_g2 s bin rates x_0v0 x_1v0 iv2 kv2 s_1v2_n s_1v2_g v39v2_n v39v2_g v118v2_n v118v2_g)
def f40_g3 (s : Sky) (bin : Int) (rates : Span) (x_0v0 : Int) (x_1v0 : Int) (iv3 : Int) (kv3 : Int) (s_1v3_n : Nat) (s_1v3_g : Nat → List PV) (v39v3_n : Nat) (v39v3_g : Nat → List PV) (v118v3_n : Nat) (v118v3_g : Nat → List PV) : St := ⟨[(2, .one (.c (.p (.int .i64 bin)))), (5, .one (.c (.ptr 5 0))), (9, .one (.c (.ptr 9 0))), (10, .one (.c (.ptr 10 0))), (12, .one (.c (.ptr 12 0))), (13, .one (.c (.ptr 13 0))), (14, .one (.c (.p (.int .i64 iv3)))), (15, .one (.c (.vec 39))), (16, .one (.c (.p (.int .i64 kv3))))], [(5, .box 26 [.p (.int .i64 s.Parts), .p (.sl s_1v3_n 1 s_1v3_g), .p (.int .i64 s.Beta.Low), .p (.int .i64 s.Beta.High), .p (.int .i64 s.Alpha.Low), .p (.int .i64 s.Alpha.High)]), (9, .box 24 [.p (.int .i64 rates.Low), .p (.int .i64 rates.High)]), (10, .box 26 [.p (.int .i64 (0:Int)), .p (.nils), .p (.int .i64 (0:Int)), .p (.int .i64 (0:Int)), .p (.int .i64 (0:Int)), .p (.int .i64 (0:Int))]), (12, .box 24 [.p (.int .i64 x_0v0), .p (.int .i64 x_1v0)]), (13, .box 26 [.p (.int .i64 s.Parts), .vec 118, .p (.int .i64 s.Beta.Low), .p (.int .i64 s.Beta.High), .p (.int .i64 s.Alpha.Low), .p (.int .i64 s.Alpha.High)]), (39, .vec 44 3 24 v39v3_n v39v3_g), (118, .vec 32 1 24 v118v3_n v118v3_g)], []⟩
def f40_at3 (K : List PA → Prop) (X1 : St → Prop) (X2 : St → Prop) (s : Sky) (bin : Int) (rates : Span) (x_0v0 : Int) (x_1v0 : Int) (iv3 : Int) (kv3 : Int) (s_1v3_n : Nat) (s_1v3_g : Nat → List PV) (v39v3_n : Nat) (v39v3_g : Nat → List PV) (v118v3_n : Nat) (v118v3_g : Nat → List PV) : Prop := vc Try.prog G40 ann40 (cdF Try.f40 [1, 1, 1, 0, 1, 0, 0, 1, 0, 0, 1, 0, 1, 0, 0, 1, 0, 0, 1]) (blockK 3 (sqK Try.prog G40 ann40 (cdF Try.f40 [1, 1, 1, 0, 1, 0, 0, 1, 0, 0, 1, 0, 1, 0, 0, 1, 1]) (loopK Try.prog ann40 8 X2 (blockK 2 (sqK Try.prog G40 ann40 (cdF Try.f40 [1, 1, 1, 0, 1, 0, 0, 1, 0, 0, 1, 1]) (blockK 1 (sqK Try.prog G40 ann40 (cdF Try.f40 [1, 1, 1, 0, 1, 0, 0, 1, 1]) (loopK Try.prog ann40 4 X1 (blockK 0 (sqK Try.prog G40 ann40 (cdF Try.f40 [1, 1, 1, 1]) (bodyK Try.prog Try.f40 K))))))))))) (f40_g3 s bin rates x_0v0 x_1v0 iv3 kv3 s_1v3_n s_1v3_g v39v3_n v39v3_g v118v3_n v118v3_g)
def f40_g4 (s : Sky) (bin : Int) (rates : Span) (x_0v0 : Int) (x_1v0 : Int) (iv4 : Int) (kv4 : Int) (s_1v4_n : Nat) (s_1v4_g : Nat → List PV) (v39v4_n : Nat) (v39v4_g : Nat → List PV) (v118v4_n : Nat) (v118v4_g : Nat → List PV) : St := ⟨[(2, .one (.c (.p (.int .i64 bin)))), (5, .one (.c (.ptr 5 0))), (9, .one (.c (.ptr 9 0))), (10, .one (.c (.ptr 10 0))), (12, .one (.c (.ptr 12 0))), (13, .one (.c (.ptr 13 0))), (14, .one (.c (.p (.int .i64 iv4)))), (15, .one (.c (.vec 39))), (16, .one (.c (.p (.int .i64 kv4))))], [(5, .box 26 [.p (.int .i64 s.Parts), .p (.sl s_1v4_n 1 s_1v4_g), .p (.int .i64 s.Beta.Low), .p (.int .i64 s.Beta.High), .p (.int .i64 s.Alpha.Low), .p (.int .i64 s.Alpha.High)]), (9, .box 24 [.p (.int .i64 rates.Low), .p (.int .i64 rates.High)]), (10, .box 26 [.p (.int .i64 (0:Int)), .p (.nils), .p (.int .i64 (0:Int)), .p (.int .i64 (0:Int)), .p (.int .i64 (0:Int)), .p (.int .i64 (0:Int))]), (12, .box 24 [.p (.int .i64 x_0v0), .p (.int .i64 x_1v0)]), (13, .box 26 [.p (.int .i64 s.Parts), .vec 118, .p (.int .i64 s.Beta.Low), .p (.int .i64 s.Beta.High), .p (.int .i64 s.Alpha.Low), .p (.int .i64 s.Alpha.High)]), (39, .vec 44 3 24 v39v4_n v39v4_g), (118, .vec 32 1 24 v118v4_n v118v4_g)], []⟩
def f40_at4 (K : List PA → Prop) (X1 : St → Prop) (X2 : St → Prop) (s : Sky) (bin : Int) (rates : Span) (x_0v0 : Int) (x_1v0 : Int) (iv4 : Int) (kv4 : Int) (s_1v4_n : Nat) (s_1v4_g : Nat → List PV) (v39v4_n : Nat) (v39v4_g : Nat → List PV) (v118v4_n : Nat) (v118v4_g : Nat → List PV) : Prop := vc Try.prog G40 ann40 (cdF Try.f40 [1, 1, 1, 0, 1, 0, 0, 1, 0, 0, 1, 0, 1, 0, 0, 1, 0, 0, 1, 1]) (blockK 3 (sqK Try.prog G40 ann40 (cdF Try.f40 [1, 1, 1, 0, 1, 0, 0, 1, 0, 0, 1, 0, 1, 0, 0, 1, 1]) (loopK Try.prog ann40 8 X2 (blockK 2 (sqK Try.prog G40 ann40 (cdF Try.f40 [1, 1, 1, 0, 1, 0, 0, 1, 0, 0, 1, 1]) (blockK 1 (sqK Try.prog G40 ann40 (cdF Try.f40 [1, 1, 1, 0, 1, 0, 0, 1, 1]) (loopK Try.prog ann40 4 X1 (blockK 0 (sqK Try.prog G40 ann40 (cdF Try.f40 [1, 1, 1, 1]) (bodyK Try.prog Try.f40 K))))))))))) (f40_g4 s bin rates x_0v0 x_1v0 iv4 kv4 s_1v4_n s_1v4_g v39v4_n v39v4_g v118v4_n v118v4_g)
theorem f40_top (s : Sky) (t : (Sl RangeRow)) (bin : Int) (opacity : Int) (rates : Span) (K : List PA → Prop) :
  vcFun Try.prog G40 ann40 40 [.agg [.int .i64 s.Parts, .sl s.Bins.len 1 (fun i => enc_32 (s.Bins.get i)), .int .i64 s.Beta.Low, .int .i64 s.Beta.High, .int .i64 s.Alpha.Low, .int .i64 s.Alpha.High], .one (.sl t.len 3 (fun i => enc_42 (t.get i))), .one (.int .i64 bin), .one (.int .i64 opacity), .agg [.int .i64 rates.Low, .int .i64 rates.High]] K =
  ((IsE enc_42 3 3 (fun i => enc_42 (t.get i)) ∧ (p49 t opacity = true)) ∧
  (f40_at0 K s bin rates s.Bins.len (fun i => enc_32 (s.Bins.get i)) ((s49 t opacity).Low) ((s49 t opacity).High))) := by kernel_rfl
theorem f40_eq0 (K : List PA → Prop) (s : Sky) (bin : Int) (rates : Span) (s_1v0 : (Sl (Sl FluxRow))) (x_0v0 : Int) (x_1v0 : Int) :
  f40_at0 K s bin rates s_1v0.len (fun i => enc_32 (s_1v0.get i)) x_0v0 x_1v0 =
  (f40_at1 K s bin rates x_0v0 x_1v0 (0:Int) s_1v0.len (fun i => enc_32 (s_1v0.get i)) 0 (fun i => enc_32 ((fun _ => default) i))) := by kernel_rfl
def f40_step1 (K : List PA → Prop) (X1 : St → Prop) (s : Sky) (bin : Int) (rates : Span) (x_0v0 : Int) (x_1v0 : Int) (iv1 : Int) (s_1v1 : (Sl (Sl FluxRow))) (v118v1 : (Sl (Sl FluxRow))) : Prop :=
  (condP (decide (iv1 < (s_1v1.len : Int)))
   (((0 ≤ iv1 ∧ iv1 < (s_1v1.len : Int))) ∧
   ((((s_1v1.get iv1.toNat).len * 24 ≤ 140737488355328 ∧ (s_1v1.get iv1.toNat).len ≤ 9223372036854775807)) ∧
   (f40_at2 K X1 s bin rates x_0v0 x_1v0 iv1 (0:Int) s_1v1.len (fun i => enc_32 (s_1v1.get i)) ((s_1v1.get iv1.toNat).len) (fun i => enc_44 ((s_1v1.get iv1.toNat).get i)) v118v1.len (fun i => enc_32 (v118v1.get i)))))
   (K [.agg [.int .i64 s.Parts, .sl v118v1.len 1 (fun i => enc_32 (v118v1.get i)), .int .i64 s.Beta.Low, .int .i64 s.Beta.High, .int .i64 s.Alpha.Low, .int .i64 s.Alpha.High], .one (.bool true)]))
theorem f40_stepeq1 (K : List PA → Prop) (X1 : St → Prop) (s : Sky) (bin : Int) (rates : Span) (x_0v0 : Int) (x_1v0 : Int) (iv1 : Int) (s_1v1 : (Sl (Sl FluxRow))) (v118v1 : (Sl (Sl FluxRow))) :
  vc Try.prog G40 ann40 (cd (cdF Try.f40 [1, 1, 1, 0, 1, 0]) [0]) (loopK Try.prog ann40 4 X1 (blockK 0 (sqK Try.prog G40 ann40 (cdF Try.f40 [1, 1, 1, 1]) (bodyK Try.prog Try.f40 K)))) (f40_g1 s bin rates x_0v0 x_1v0 iv1 s_1v1.len (fun i => enc_32 (s_1v1.get i)) v118v1.len (fun i => enc_32 (v118v1.get i))) =
  f40_step1 K X1 s bin rates x_0v0 x_1v0 iv1 s_1v1 v118v1 := by kernel_rfl
theorem f40_loop1 (K : List PA → Prop) (s : Sky) (bin : Int) (rates : Span) (x_0v0 : Int) (x_1v0 : Int) (iv1 : Int) (s_1v1_n : Nat) (s_1v1_g : Nat → List PV) (v118v1_n : Nat) (v118v1_g : Nat → List PV)
  (h : ∀ X1 : St → Prop, (∀ (iv1 : Int) (s_1v1 : (Sl (Sl FluxRow))) (v118v1 : (Sl (Sl FluxRow))), f40_step1 K X1 s bin rates x_0v0 x_1v0 iv1 s_1v1 v118v1 → X1 (f40_g1 s bin rates x_0v0 x_1v0 iv1 s_1v1.len (fun i => enc_32 (s_1v1.get i)) v118v1.len (fun i => enc_32 (v118v1.get i)))) → X1 (f40_g1 s bin rates x_0v0 x_1v0 iv1 s_1v1_n s_1v1_g v118v1_n v118v1_g)) :
  f40_at1 K s bin rates x_0v0 x_1v0 iv1 s_1v1_n s_1v1_g v118v1_n v118v1_g := by
  have e : f40_at1 K s bin rates x_0v0 x_1v0 iv1 s_1v1_n s_1v1_g v118v1_n v118v1_g = (∀ X : St → Prop, (∀ s, vc Try.prog G40 ann40 (cd (cdF Try.f40 [1, 1, 1, 0, 1, 0]) [0]) (loopK Try.prog ann40 4 X (blockK 0 (sqK Try.prog G40 ann40 (cdF Try.f40 [1, 1, 1, 1]) (bodyK Try.prog Try.f40 K)))) s → X s) → X (f40_g1 s bin rates x_0v0 x_1v0 iv1 s_1v1_n s_1v1_g v118v1_n v118v1_g)) := by kernel_rfl
  refine ofEq e ?_
  intro X hX
  refine h X ?_
  intro iv1 s_1v1 v118v1 hs
  refine hX _ ?_
  have e2 := f40_stepeq1 K X s bin rates x_0v0 x_1v0 iv1 s_1v1 v118v1
  rw [e2]
  exact hs
def f40_step2 (K : List PA → Prop) (X1 : St → Prop) (X2 : St → Prop) (s : Sky) (bin : Int) (rates : Span) (x_0v0 : Int) (x_1v0 : Int) (iv2 : Int) (kv2 : Int) (s_1v2 : (Sl (Sl FluxRow))) (v39v2 : (Sl FluxRow)) (v118v2 : (Sl (Sl FluxRow))) : Prop :=
  (condP (decide (kv2 < (v39v2.len : Int)))
   (condP (iv2 == bin)
    (((0 ≤ kv2 ∧ kv2 < (v39v2.len : Int))) ∧
    (((kv2.toNat < v39v2.len)) ∧
    (condP (decide ((v39v2.get kv2.toNat).Energy ≤ x_0v0))
     (((0 ≤ kv2 ∧ kv2 < (v39v2.len : Int))) ∧
     (((kv2.toNat < v39v2.len)) ∧
     (((0 ≤ kv2 ∧ kv2 < (v39v2.len : Int))) ∧
     (((kv2.toNat < v39v2.len)) ∧
     (f40_at3 K X1 X2 s bin rates x_0v0 x_1v0 iv2 kv2 s_1v2.len (fun i => enc_32 (s_1v2.get i)) v39v2.len (setG kv2.toNat 1 (fun i => enc_44 (v39v2.get i)) (enc_3 (if rates.Low > (v39v2.get kv2.toNat).Rate.Low then rates.Low else (v39v2.get kv2.toNat).Rate.Low))) v118v2.len (fun i => enc_32 (v118v2.get i)))))))
     (f40_at3 K X1 X2 s bin rates x_0v0 x_1v0 iv2 kv2 s_1v2.len (fun i => enc_32 (s_1v2.get i)) v39v2.len (fun i => enc_44 (v39v2.get i)) v118v2.len (fun i => enc_32 (v118v2.get i))))))
    ((((v118v2.len + 1) * 24 ≤ 140737488355328 ∧ v118v2.len + 1 ≤ 9223372036854775807)) ∧
    (X1 (f40_g1 s bin rates x_0v0 x_1v0 (w64 (iv2 + (1:Int))) s_1v2.len (fun i => enc_32 (s_1v2.get i)) (v118v2.len + 1) (appG v118v2.len (fun i => enc_32 (v118v2.get i)) (fun _ => (enc_32 v39v2)))))))
   ((((v118v2.len + 1) * 24 ≤ 140737488355328 ∧ v118v2.len + 1 ≤ 9223372036854775807)) ∧
   (X1 (f40_g1 s bin rates x_0v0 x_1v0 (w64 (iv2 + (1:Int))) s_1v2.len (fun i => enc_32 (s_1v2.get i)) (v118v2.len + 1) (appG v118v2.len (fun i => enc_32 (v118v2.get i)) (fun _ => (enc_32 v39v2)))))))
theorem f40_stepeq2 (K : List PA → Prop) (X1 : St → Prop) (X2 : St → Prop) (s : Sky) (bin : Int) (rates : Span) (x_0v0 : Int) (x_1v0 : Int) (iv2 : Int) (kv2 : Int) (s_1v2 : (Sl (Sl FluxRow))) (v39v2 : (Sl FluxRow)) (v118v2 : (Sl (Sl FluxRow))) :
  vc Try.prog G40 ann40 (cd (cdF Try.f40 [1, 1, 1, 0, 1, 0, 0, 1, 0, 0, 1, 0, 1, 0]) [0]) (loopK Try.prog ann40 8 X2 (blockK 2 (sqK Try.prog G40 ann40 (cdF Try.f40 [1, 1, 1, 0, 1, 0, 0, 1, 0, 0, 1, 1]) (blockK 1 (sqK Try.prog G40 ann40 (cdF Try.f40 [1, 1, 1, 0, 1, 0, 0, 1, 1]) (loopK Try.prog ann40 4 X1 (blockK 0 (sqK Try.prog G40 ann40 (cdF Try.f40 [1, 1, 1, 1]) (bodyK Try.prog Try.f40 K))))))))) (f40_g2 s bin rates x_0v0 x_1v0 iv2 kv2 s_1v2.len (fun i => enc_32 (s_1v2.get i)) v39v2.len (fun i => enc_44 (v39v2.get i)) v118v2.len (fun i => enc_32 (v118v2.get i))) =
  f40_step2 K X1 X2 s bin rates x_0v0 x_1v0 iv2 kv2 s_1v2 v39v2 v118v2 := by kernel_rfl
theorem f40_loop2 (K : List PA → Prop) (X1 : St → Prop) (s : Sky) (bin : Int) (rates : Span) (x_0v0 : Int) (x_1v0 : Int) (iv2 : Int) (kv2 : Int) (s_1v2_n : Nat) (s_1v2_g : Nat → List PV) (v39v2_n : Nat) (v39v2_g : Nat → List PV) (v118v2_n : Nat) (v118v2_g : Nat → List PV)
  (h : ∀ X2 : St → Prop, (∀ (iv2 : Int) (kv2 : Int) (s_1v2 : (Sl (Sl FluxRow))) (v39v2 : (Sl FluxRow)) (v118v2 : (Sl (Sl FluxRow))), f40_step2 K X1 X2 s bin rates x_0v0 x_1v0 iv2 kv2 s_1v2 v39v2 v118v2 → X2 (f40_g2 s bin rates x_0v0 x_1v0 iv2 kv2 s_1v2.len (fun i => enc_32 (s_1v2.get i)) v39v2.len (fun i => enc_44 (v39v2.get i)) v118v2.len (fun i => enc_32 (v118v2.get i)))) → X2 (f40_g2 s bin rates x_0v0 x_1v0 iv2 kv2 s_1v2_n s_1v2_g v39v2_n v39v2_g v118v2_n v118v2_g)) :
  f40_at2 K X1 s bin rates x_0v0 x_1v0 iv2 kv2 s_1v2_n s_1v2_g v39v2_n v39v2_g v118v2_n v118v2_g := by
  have e : f40_at2 K X1 s bin rates x_0v0 x_1v0 iv2 kv2 s_1v2_n s_1v2_g v39v2_n v39v2_g v118v2_n v118v2_g = (∀ X : St → Prop, (∀ s, vc Try.prog G40 ann40 (cd (cdF Try.f40 [1, 1, 1, 0, 1, 0, 0, 1, 0, 0, 1, 0, 1, 0]) [0]) (loopK Try.prog ann40 8 X (blockK 2 (sqK Try.prog G40 ann40 (cdF Try.f40 [1, 1, 1, 0, 1, 0, 0, 1, 0, 0, 1, 1]) (blockK 1 (sqK Try.prog G40 ann40 (cdF Try.f40 [1, 1, 1, 0, 1, 0, 0, 1, 1]) (loopK Try.prog ann40 4 X1 (blockK 0 (sqK Try.prog G40 ann40 (cdF Try.f40 [1, 1, 1, 1]) (bodyK Try.prog Try.f40 K))))))))) s → X s) → X (f40_g2 s bin rates x_0v0 x_1v0 iv2 kv2 s_1v2_n s_1v2_g v39v2_n v39v2_g v118v2_n v118v2_g)) := by kernel_rfl
  refine ofEq e ?_
  intro X hX
  refine h X ?_
  intro iv2 kv2 s_1v2 v39v2 v118v2 hs
  refine hX _ ?_
  have e2 := f40_stepeq2 K X1 X s bin rates x_0v0 x_1v0 iv2 kv2 s_1v2 v39v2 v118v2
  rw [e2]
  exact hs
theorem f40_eq3 (K : List PA → Prop) (X1 : St → Prop) (X2 : St → Prop) (s : Sky) (bin : Int) (rates : Span) (x_0v0 : Int) (x_1v0 : Int) (iv3 : Int) (kv3 : Int) (s_1v3 : (Sl (Sl FluxRow))) (v39v3 : (Sl FluxRow)) (v118v3 : (Sl (Sl FluxRow))) :
  f40_at3 K X1 X2 s bin rates x_0v0 x_1v0 iv3 kv3 s_1v3.len (fun i => enc_32 (s_1v3.get i)) v39v3.len (fun i => enc_44 (v39v3.get i)) v118v3.len (fun i => enc_32 (v118v3.get i)) =
  (condP (x_1v0 != (-1:Int))
   (((0 ≤ kv3 ∧ kv3 < (v39v3.len : Int))) ∧
   (((kv3.toNat < v39v3.len)) ∧
   (condP (decide ((v39v3.get kv3.toNat).Energy ≥ x_1v0))
    (((0 ≤ kv3 ∧ kv3 < (v39v3.len : Int))) ∧
    (((kv3.toNat < v39v3.len)) ∧
    (((0 ≤ kv3 ∧ kv3 < (v39v3.len : Int))) ∧
    (((kv3.toNat < v39v3.len)) ∧
    (f40_at4 K X1 X2 s bin rates x_0v0 x_1v0 iv3 kv3 s_1v3.len (fun i => enc_32 (s_1v3.get i)) v39v3.len (setG kv3.toNat 2 (fun i => enc_44 (v39v3.get i)) (enc_3 (if rates.High < (v39v3.get kv3.toNat).Rate.High then rates.High else (v39v3.get kv3.toNat).Rate.High))) v118v3.len (fun i => enc_32 (v118v3.get i)))))))
    (f40_at4 K X1 X2 s bin rates x_0v0 x_1v0 iv3 kv3 s_1v3.len (fun i => enc_32 (s_1v3.get i)) v39v3.len (fun i => enc_44 (v39v3.get i)) v118v3.len (fun i => enc_32 (v118v3.get i))))))
   (f40_at4 K X1 X2 s bin rates x_0v0 x_1v0 iv3 kv3 s_1v3.len (fun i => enc_32 (s_1v3.get i)) v39v3.len (fun i => enc_44 (v39v3.get i)) v118v3.len (fun i => enc_32 (v118v3.get i)))) := by kernel_rfl
theorem f40_eq4 (K : List PA → Prop) (X1 : St → Prop) (X2 : St → Prop) (s : Sky) (bin : Int) (rates : Span) (x_0v0 : Int) (x_1v0 : Int) (iv4 : Int) (kv4 : Int) (s_1v4 : (Sl (Sl FluxRow))) (v39v4 : (Sl FluxRow)) (v118v4 : (Sl (Sl FluxRow))) :
  f40_at4 K X1 X2 s bin rates x_0v0 x_1v0 iv4 kv4 s_1v4.len (fun i => enc_32 (s_1v4.get i)) v39v4.len (fun i => enc_44 (v39v4.get i)) v118v4.len (fun i => enc_32 (v118v4.get i)) =
  (((0 ≤ kv4 ∧ kv4 < (v39v4.len : Int))) ∧
  (((kv4.toNat < v39v4.len)) ∧
  (((0 ≤ kv4 ∧ kv4 < (v39v4.len : Int))) ∧
  (((kv4.toNat < v39v4.len)) ∧
  (condP (decide ((v39v4.get kv4.toNat).Rate.Low > (v39v4.get kv4.toNat).Rate.High))
   (K [.agg [.int .i64 (0:Int), .nils, .int .i64 (0:Int), .int .i64 (0:Int), .int .i64 (0:Int), .int .i64 (0:Int)], .one (.bool false)])
   (X2 (f40_g2 s bin rates x_0v0 x_1v0 iv4 (w64 (kv4 + (1:Int))) s_1v4.len (fun i => enc_32 (s_1v4.get i)) v39v4.len (fun i => enc_44 (v39v4.get i)) v118v4.len (fun i => enc_32 (v118v4.get i))))))))) := by kernel_rfl
abbrev R40 := (Sky × Bool)
abbrev e40 (r : (Sky × Bool)) : List PA := [.agg [.int .i64 r.1.Parts, .sl r.1.Bins.len 1 (fun i => enc_32 (r.1.Bins.get i)), .int .i64 r.1.Beta.Low, .int .i64 r.1.Beta.High, .int .i64 r.1.Alpha.Low, .int .i64 r.1.Alpha.High], .one (.bool r.2)]
attribute [irreducible] f40_at0 f40_at1 f40_at2 f40_at3 f40_at4
def s40_at4 (S1 : Int → (Sl (Sl FluxRow)) → (Sl (Sl FluxRow)) → (Sky × Bool)) (S2 : Int → Int → (Sl (Sl FluxRow)) → (Sl FluxRow) → (Sl (Sl FluxRow)) → (Sky × Bool)) (s : Sky) (bin : Int) (rates : Span) (x_0v0 : Int) (x_1v0 : Int) (iv4 : Int) (kv4 : Int) (s_1v4 : (Sl (Sl FluxRow))) (v39v4 : (Sl FluxRow)) (v118v4 : (Sl (Sl FluxRow))) : (Sky × Bool) :=
  (cond (decide ((v39v4.get kv4.toNat).Rate.Low > (v39v4.get kv4.toNat).Rate.High))
   ((⟨(0:Int), (⟨0, fun _ => default⟩ : (Sl (Sl FluxRow))), (⟨(0:Int), (0:Int)⟩ : Span), (⟨(0:Int), (0:Int)⟩ : Span)⟩ : Sky), false)
   (S2 iv4 (w64 (kv4 + (1:Int))) s_1v4 v39v4 v118v4))
def p40_at4 (P1 : Int → (Sl (Sl FluxRow)) → (Sl (Sl FluxRow)) → Bool) (P2 : Int → Int → (Sl (Sl FluxRow)) → (Sl FluxRow) → (Sl (Sl FluxRow)) → Bool) (s : Sky) (bin : Int) (rates : Span) (x_0v0 : Int) (x_1v0 : Int) (iv4 : Int) (kv4 : Int) (s_1v4 : (Sl (Sl FluxRow))) (v39v4 : (Sl FluxRow)) (v118v4 : (Sl (Sl FluxRow))) : Bool :=
  (decide ((0 ≤ kv4 ∧ kv4 < (v39v4.len : Int))) &&
  (decide ((kv4.toNat < v39v4.len)) &&
  (decide ((0 ≤ kv4 ∧ kv4 < (v39v4.len : Int))) &&
  (decide ((kv4.toNat < v39v4.len)) &&
  (cond (decide ((v39v4.get kv4.toNat).Rate.Low > (v39v4.get kv4.toNat).Rate.High))
   true
   (P2 iv4 (w64 (kv4 + (1:Int))) s_1v4 v39v4 v118v4))))))
theorem q40_at4 (K : List PA → Prop) (s : Sky) (bin : Int) (rates : Span) (x_0v0 : Int) (x_1v0 : Int)
  (X1 : St → Prop) (P1 : Int → (Sl (Sl FluxRow)) → (Sl (Sl FluxRow)) → Bool) (S1 : Int → (Sl (Sl FluxRow)) → (Sl (Sl FluxRow)) → (Sky × Bool))
  (hX1 : ∀ (iv1 : Int) (s_1v1 : (Sl (Sl FluxRow))) (v118v1 : (Sl (Sl FluxRow))) (s_1v1_g : Nat → List PV) (s_1v1_h : s_1v1_g = fun i => enc_32 (s_1v1.get i)) (v118v1_g : Nat → List PV) (v118v1_h : v118v1_g = fun i => enc_32 (v118v1.get i)), P1 iv1 s_1v1 v118v1 = true → K (e40 (S1 iv1 s_1v1 v118v1)) → X1 (f40_g1 s bin rates x_0v0 x_1v0 iv1 s_1v1.len s_1v1_g v118v1.len v118v1_g))
  (X2 : St → Prop) (P2 : Int → Int → (Sl (Sl FluxRow)) → (Sl FluxRow) → (Sl (Sl FluxRow)) → Bool) (S2 : Int → Int → (Sl (Sl FluxRow)) → (Sl FluxRow) → (Sl (Sl FluxRow)) → (Sky × Bool))
  (hX2 : ∀ (iv2 : Int) (kv2 : Int) (s_1v2 : (Sl (Sl FluxRow))) (v39v2 : (Sl FluxRow)) (v118v2 : (Sl (Sl FluxRow))) (s_1v2_g : Nat → List PV) (s_1v2_h : s_1v2_g = fun i => enc_32 (s_1v2.get i)) (v39v2_g : Nat → List PV) (v39v2_h : v39v2_g = fun i => enc_44 (v39v2.get i)) (v118v2_g : Nat → List PV) (v118v2_h : v118v2_g = fun i => enc_32 (v118v2.get i)), P2 iv2 kv2 s_1v2 v39v2 v118v2 = true → K (e40 (S2 iv2 kv2 s_1v2 v39v2 v118v2)) → X2 (f40_g2 s bin rates x_0v0 x_1v0 iv2 kv2 s_1v2.len s_1v2_g v39v2.len v39v2_g v118v2.len v118v2_g)) (iv4 : Int) (kv4 : Int) (s_1v4 : (Sl (Sl FluxRow))) (v39v4 : (Sl FluxRow)) (v118v4 : (Sl (Sl FluxRow))) (s_1v4_g : Nat → List PV) (s_1v4_h : s_1v4_g = fun i => enc_32 (s_1v4.get i)) (v39v4_g : Nat → List PV) (v39v4_h : v39v4_g = fun i => enc_44 (v39v4.get i)) (v118v4_g : Nat → List PV) (v118v4_h : v118v4_g = fun i => enc_32 (v118v4.get i)) (hs : p40_at4 P1 P2 s bin rates x_0v0 x_1v0 iv4 kv4 s_1v4 v39v4 v118v4 = true) (hk : K (e40 (s40_at4 S1 S2 s bin rates x_0v0 x_1v0 iv4 kv4 s_1v4 v39v4 v118v4))) : f40_at4 (Wk K) X1 X2 s bin rates x_0v0 x_1v0 iv4 kv4 s_1v4.len s_1v4_g v39v4.len v39v4_g v118v4.len v118v4_g := by
  subst s_1v4_h
  subst v39v4_h
  subst v118v4_h
  refine ofEq (f40_eq4 (Wk K) X1 X2 s bin rates x_0v0 x_1v0 iv4 kv4 s_1v4 v39v4 v118v4) ?_
  unfold p40_at4 at hs
  unfold s40_at4 at hk
  exact (andK hs fun hc hs => ⟨hc, (andK hs fun hc hs => ⟨hc, (andK hs fun hc hs => ⟨hc, (andK hs fun hc hs => ⟨hc, (condB_go (K := fun r => K (e40 r))
   (fun hs hk => (wk hk (rl_c (.agg (rl_c (.rfl _) (rl_c (.nil _ _) (rl_c (.rfl _) (rl_c (.rfl _) (rl_c (.rfl _) (rl_c (.rfl _) rl_n))))))) (rl_c (.one (.rfl _)) rl_n))))
   (fun hs hk => (hX2 iv4 (w64 (kv4 + (1:Int))) s_1v4 v39v4 v118v4 (fun i => enc_32 (s_1v4.get i)) rfl (fun i => enc_44 (v39v4.get i)) rfl (fun i => enc_32 (v118v4.get i)) rfl hs hk)) hs hk)⟩)⟩)⟩)⟩)
def s40_at3 (S1 : Int → (Sl (Sl FluxRow)) → (Sl (Sl FluxRow)) → (Sky × Bool)) (S2 : Int → Int → (Sl (Sl FluxRow)) → (Sl FluxRow) → (Sl (Sl FluxRow)) → (Sky × Bool)) (s : Sky) (bin : Int) (rates : Span) (x_0v0 : Int) (x_1v0 : Int) (iv3 : Int) (kv3 : Int) (s_1v3 : (Sl (Sl FluxRow))) (v39v3 : (Sl FluxRow)) (v118v3 : (Sl (Sl FluxRow))) : (Sky × Bool) :=
  (cond (x_1v0 != (-1:Int))
   (cond (decide ((v39v3.get kv3.toNat).Energy ≥ x_1v0))
    (s40_at4 S1 S2 s bin rates x_0v0 x_1v0 iv3 kv3 s_1v3 (⟨v39v3.len, (setT kv3.toNat (⟨(v39v3.get kv3.toNat).Energy, (⟨(v39v3.get kv3.toNat).Rate.Low, (if rates.High < (v39v3.get kv3.toNat).Rate.High then rates.High else (v39v3.get kv3.toNat).Rate.High)⟩ : Span)⟩ : FluxRow) v39v3.get)⟩ : Sl FluxRow) v118v3)
    (s40_at4 S1 S2 s bin rates x_0v0 x_1v0 iv3 kv3 s_1v3 v39v3 v118v3))
   (s40_at4 S1 S2 s bin rates x_0v0 x_1v0 iv3 kv3 s_1v3 v39v3 v118v3))
def p40_at3 (P1 : Int → (Sl (Sl FluxRow)) → (Sl (Sl FluxRow)) → Bool) (P2 : Int → Int → (Sl (Sl FluxRow)) → (Sl FluxRow) → (Sl (Sl FluxRow)) → Bool) (s : Sky) (bin : Int) (rates : Span) (x_0v0 : Int) (x_1v0 : Int) (iv3 : Int) (kv3 : Int) (s_1v3 : (Sl (Sl FluxRow))) (v39v3 : (Sl FluxRow)) (v118v3 : (Sl (Sl FluxRow))) : Bool :=
  (cond (x_1v0 != (-1:Int))
   (decide ((0 ≤ kv3 ∧ kv3 < (v39v3.len : Int))) &&
   (decide ((kv3.toNat < v39v3.len)) &&
   (cond (decide ((v39v3.get kv3.toNat).Energy ≥ x_1v0))
    (decide ((0 ≤ kv3 ∧ kv3 < (v39v3.len : Int))) &&
    (decide ((kv3.toNat < v39v3.len)) &&
    (decide ((0 ≤ kv3 ∧ kv3 < (v39v3.len : Int))) &&
    (decide ((kv3.toNat < v39v3.len)) &&
    (p40_at4 P1 P2 s bin rates x_0v0 x_1v0 iv3 kv3 s_1v3 (⟨v39v3.len, (setT kv3.toNat (⟨(v39v3.get kv3.toNat).Energy, (⟨(v39v3.get kv3.toNat).Rate.Low, (if rates.High < (v39v3.get kv3.toNat).Rate.High then rates.High else (v39v3.get kv3.toNat).Rate.High)⟩ : Span)⟩ : FluxRow) v39v3.get)⟩ : Sl FluxRow) v118v3)))))
    (p40_at4 P1 P2 s bin rates x_0v0 x_1v0 iv3 kv3 s_1v3 v39v3 v118v3))))
   (p40_at4 P1 P2 s bin rates x_0v0 x_1v0 iv3 kv3 s_1v3 v39v3 v118v3))
theorem q40_at3 (K : List PA → Prop) (s : Sky) (bin : Int) (rates : Span) (x_0v0 : Int) (x_1v0 : Int)
  (X1 : St → Prop) (P1 : Int → (Sl (Sl FluxRow)) → (Sl (Sl FluxRow)) → Bool) (S1 : Int → (Sl (Sl FluxRow)) → (Sl (Sl FluxRow)) → (Sky × Bool))
  (hX1 : ∀ (iv1 : Int) (s_1v1 : (Sl (Sl FluxRow))) (v118v1 : (Sl (Sl FluxRow))) (s_1v1_g : Nat → List PV) (s_1v1_h : s_1v1_g = fun i => enc_32 (s_1v1.get i)) (v118v1_g : Nat → List PV) (v118v1_h : v118v1_g = fun i => enc_32 (v118v1.get i)), P1 iv1 s_1v1 v118v1 = true → K (e40 (S1 iv1 s_1v1 v118v1)) → X1 (f40_g1 s bin rates x_0v0 x_1v0 iv1 s_1v1.len s_1v1_g v118v1.len v118v1_g))
  (X2 : St → Prop) (P2 : Int → Int → (Sl (Sl FluxRow)) → (Sl FluxRow) → (Sl (Sl FluxRow)) → Bool) (S2 : Int → Int → (Sl (Sl FluxRow)) → (Sl FluxRow) → (Sl (Sl FluxRow)) → (Sky × Bool))
  (hX2 : ∀ (iv2 : Int) (kv2 : Int) (s_1v2 : (Sl (Sl FluxRow))) (v39v2 : (Sl FluxRow)) (v118v2 : (Sl (Sl FluxRow))) (s_1v2_g : Nat → List PV) (s_1v2_h : s_1v2_g = fun i => enc_32 (s_1v2.get i)) (v39v2_g : Nat → List PV) (v39v2_h : v39v2_g = fun i => enc_44 (v39v2.get i)) (v118v2_g : Nat → List PV) (v118v2_h : v118v2_g = fun i => enc_32 (v118v2.get i)), P2 iv2 kv2 s_1v2 v39v2 v118v2 = true → K (e40 (S2 iv2 kv2 s_1v2 v39v2 v118v2)) → X2 (f40_g2 s bin rates x_0v0 x_1v0 iv2 kv2 s_1v2.len s_1v2_g v39v2.len v39v2_g v118v2.len v118v2_g)) (iv3 : Int) (kv3 : Int) (s_1v3 : (Sl (Sl FluxRow))) (v39v3 : (Sl FluxRow)) (v118v3 : (Sl (Sl FluxRow))) (s_1v3_g : Nat → List PV) (s_1v3_h : s_1v3_g = fun i => enc_32 (s_1v3.get i)) (v39v3_g : Nat → List PV) (v39v3_h : v39v3_g = fun i => enc_44 (v39v3.get i)) (v118v3_g : Nat → List PV) (v118v3_h : v118v3_g = fun i => enc_32 (v118v3.get i)) (hs : p40_at3 P1 P2 s bin rates x_0v0 x_1v0 iv3 kv3 s_1v3 v39v3 v118v3 = true) (hk : K (e40 (s40_at3 S1 S2 s bin rates x_0v0 x_1v0 iv3 kv3 s_1v3 v39v3 v118v3))) : f40_at3 (Wk K) X1 X2 s bin rates x_0v0 x_1v0 iv3 kv3 s_1v3.len s_1v3_g v39v3.len v39v3_g v118v3.len v118v3_g := by
  subst s_1v3_h
  subst v39v3_h
  subst v118v3_h
  refine ofEq (f40_eq3 (Wk K) X1 X2 s bin rates x_0v0 x_1v0 iv3 kv3 s_1v3 v39v3 v118v3) ?_
  unfold p40_at3 at hs
  unfold s40_at3 at hk
  exact (condB_go (K := fun r => K (e40 r))
   (fun hs hk => (andK hs fun hc hs => ⟨hc, (andK hs fun hc hs => ⟨hc, (condB_go (K := fun r => K (e40 r))
    (fun hs hk => (andK hs fun hc hs => ⟨hc, (andK hs fun hc hs => ⟨hc, (andK hs fun hc hs => ⟨hc, (andK hs fun hc hs => ⟨hc, (q40_at4 K s bin rates x_0v0 x_1v0 X1 P1 S1 hX1 X2 P2 S2 hX2 iv3 kv3 s_1v3 (⟨v39v3.len, (setT kv3.toNat (⟨(v39v3.get kv3.toNat).Energy, (⟨(v39v3.get kv3.toNat).Rate.Low, (if rates.High < (v39v3.get kv3.toNat).Rate.High then rates.High else (v39v3.get kv3.toNat).Rate.High)⟩ : Span)⟩ : FluxRow) v39v3.get)⟩ : Sl FluxRow) v118v3 (fun i => enc_32 (s_1v3.get i)) rfl (setG kv3.toNat 2 (fun i => enc_44 (v39v3.get i)) (enc_3 (if rates.High < (v39v3.get kv3.toNat).Rate.High then rates.High else (v39v3.get kv3.toNat).Rate.High))) (setG_e rfl rfl) (fun i => enc_32 (v118v3.get i)) rfl hs hk)⟩)⟩)⟩)⟩))
    (fun hs hk => (q40_at4 K s bin rates x_0v0 x_1v0 X1 P1 S1 hX1 X2 P2 S2 hX2 iv3 kv3 s_1v3 v39v3 v118v3 (fun i => enc_32 (s_1v3.get i)) rfl (fun i => enc_44 (v39v3.get i)) rfl (fun i => enc_32 (v118v3.get i)) rfl hs hk)) hs hk)⟩)⟩))
   (fun hs hk => (q40_at4 K s bin rates x_0v0 x_1v0 X1 P1 S1 hX1 X2 P2 S2 hX2 iv3 kv3 s_1v3 v39v3 v118v3 (fun i => enc_32 (s_1v3.get i)) rfl (fun i => enc_44 (v39v3.get i)) rfl (fun i => enc_32 (v118v3.get i)) rfl hs hk)) hs hk)
def s40_st2 (S1 : Int → (Sl (Sl FluxRow)) → (Sl (Sl FluxRow)) → (Sky × Bool)) (s : Sky) (bin : Int) (rates : Span) (x_0v0 : Int) (x_1v0 : Int) (S2 : Int → Int → (Sl (Sl FluxRow)) → (Sl FluxRow) → (Sl (Sl FluxRow)) → (Sky × Bool)) (iv2 : Int) (kv2 : Int) (s_1v2 : (Sl (Sl FluxRow))) (v39v2 : (Sl FluxRow)) (v118v2 : (Sl (Sl FluxRow))) : (Sky × Bool) :=
  (cond (decide (kv2 < (v39v2.len : Int)))
   (cond (iv2 == bin)
    (cond (decide ((v39v2.get kv2.toNat).Energy ≤ x_0v0))
     (s40_at3 S1 S2 s bin rates x_0v0 x_1v0 iv2 kv2 s_1v2 (⟨v39v2.len, (setT kv2.toNat (⟨(v39v2.get kv2.toNat).Energy, (⟨(if rates.Low > (v39v2.get kv2.toNat).Rate.Low then rates.Low else (v39v2.get kv2.toNat).Rate.Low), (v39v2.get kv2.toNat).Rate.High⟩ : Span)⟩ : FluxRow) v39v2.get)⟩ : Sl FluxRow) v118v2)
     (s40_at3 S1 S2 s bin rates x_0v0 x_1v0 iv2 kv2 s_1v2 v39v2 v118v2))
    (S1 (w64 (iv2 + (1:Int))) s_1v2 (⟨(v118v2.len + 1), (appT v118v2.len v118v2.get (fun _ => v39v2))⟩ : Sl (Sl FluxRow))))
   (S1 (w64 (iv2 + (1:Int))) s_1v2 (⟨(v118v2.len + 1), (appT v118v2.len v118v2.get (fun _ => v39v2))⟩ : Sl (Sl FluxRow))))
def p40_st2 (P1 : Int → (Sl (Sl FluxRow)) → (Sl (Sl FluxRow)) → Bool) (s : Sky) (bin : Int) (rates : Span) (x_0v0 : Int) (x_1v0 : Int) (P2 : Int → Int → (Sl (Sl FluxRow)) → (Sl FluxRow) → (Sl (Sl FluxRow)) → Bool) (iv2 : Int) (kv2 : Int) (s_1v2 : (Sl (Sl FluxRow))) (v39v2 : (Sl FluxRow)) (v118v2 : (Sl (Sl FluxRow))) : Bool :=
  (cond (decide (kv2 < (v39v2.len : Int)))
   (cond (iv2 == bin)
    (decide ((0 ≤ kv2 ∧ kv2 < (v39v2.len : Int))) &&
    (decide ((kv2.toNat < v39v2.len)) &&
    (cond (decide ((v39v2.get kv2.toNat).Energy ≤ x_0v0))
     (decide ((0 ≤ kv2 ∧ kv2 < (v39v2.len : Int))) &&
     (decide ((kv2.toNat < v39v2.len)) &&
     (decide ((0 ≤ kv2 ∧ kv2 < (v39v2.len : Int))) &&
     (decide ((kv2.toNat < v39v2.len)) &&
     (p40_at3 P1 P2 s bin rates x_0v0 x_1v0 iv2 kv2 s_1v2 (⟨v39v2.len, (setT kv2.toNat (⟨(v39v2.get kv2.toNat).Energy, (⟨(if rates.Low > (v39v2.get kv2.toNat).Rate.Low then rates.Low else (v39v2.get kv2.toNat).Rate.Low), (v39v2.get kv2.toNat).Rate.High⟩ : Span)⟩ : FluxRow) v39v2.get)⟩ : Sl FluxRow) v118v2)))))
     (p40_at3 P1 P2 s bin rates x_0v0 x_1v0 iv2 kv2 s_1v2 v39v2 v118v2))))
    (decide (((v118v2.len + 1) * 24 ≤ 140737488355328 ∧ v118v2.len + 1 ≤ 9223372036854775807)) &&
    (P1 (w64 (iv2 + (1:Int))) s_1v2 (⟨(v118v2.len + 1), (appT v118v2.len v118v2.get (fun _ => v39v2))⟩ : Sl (Sl FluxRow)))))
   (decide (((v118v2.len + 1) * 24 ≤ 140737488355328 ∧ v118v2.len + 1 ≤ 9223372036854775807)) &&
   (P1 (w64 (iv2 + (1:Int))) s_1v2 (⟨(v118v2.len + 1), (appT v118v2.len v118v2.get (fun _ => v39v2))⟩ : Sl (Sl FluxRow)))))
def s40_lp2 (S1 : Int → (Sl (Sl FluxRow)) → (Sl (Sl FluxRow)) → (Sky × Bool)) (s : Sky) (bin : Int) (rates : Span) (x_0v0 : Int) (x_1v0 : Int) : Nat → Int → Int → (Sl (Sl FluxRow)) → (Sl FluxRow) → (Sl (Sl FluxRow)) → (Sky × Bool)
  | 0 => fun _ _ _ _ _ => default
  | k + 1 => s40_st2 S1 s bin rates x_0v0 x_1v0 (s40_lp2 S1 s bin rates x_0v0 x_1v0 k)
def p40_lp2 (P1 : Int → (Sl (Sl FluxRow)) → (Sl (Sl FluxRow)) → Bool) (s : Sky) (bin : Int) (rates : Span) (x_0v0 : Int) (x_1v0 : Int) : Nat → Int → Int → (Sl (Sl FluxRow)) → (Sl FluxRow) → (Sl (Sl FluxRow)) → Bool
  | 0 => fun _ _ _ _ _ => false
  | k + 1 => p40_st2 P1 s bin rates x_0v0 x_1v0 (p40_lp2 P1 s bin rates x_0v0 x_1v0 k)
def s40_at2 (S1 : Int → (Sl (Sl FluxRow)) → (Sl (Sl FluxRow)) → (Sky × Bool)) (s : Sky) (bin : Int) (rates : Span) (x_0v0 : Int) (x_1v0 : Int) (iv2 : Int) (kv2 : Int) (s_1v2 : (Sl (Sl FluxRow))) (v39v2 : (Sl FluxRow)) (v118v2 : (Sl (Sl FluxRow))) : (Sky × Bool) := s40_lp2 S1 s bin rates x_0v0 x_1v0 Fuel iv2 kv2 s_1v2 v39v2 v118v2
def p40_at2 (P1 : Int → (Sl (Sl FluxRow)) → (Sl (Sl FluxRow)) → Bool) (s : Sky) (bin : Int) (rates : Span) (x_0v0 : Int) (x_1v0 : Int) (iv2 : Int) (kv2 : Int) (s_1v2 : (Sl (Sl FluxRow))) (v39v2 : (Sl FluxRow)) (v118v2 : (Sl (Sl FluxRow))) : Bool := p40_lp2 P1 s bin rates x_0v0 x_1v0 Fuel iv2 kv2 s_1v2 v39v2 v118v2
theorem q40_at2 (K : List PA → Prop) (s : Sky) (bin : Int) (rates : Span) (x_0v0 : Int) (x_1v0 : Int)
  (X1 : St → Prop) (P1 : Int → (Sl (Sl FluxRow)) → (Sl (Sl FluxRow)) → Bool) (S1 : Int → (Sl (Sl FluxRow)) → (Sl (Sl FluxRow)) → (Sky × Bool))
  (hX1 : ∀ (iv1 : Int) (s_1v1 : (Sl (Sl FluxRow))) (v118v1 : (Sl (Sl FluxRow))) (s_1v1_g : Nat → List PV) (s_1v1_h : s_1v1_g = fun i => enc_32 (s_1v1.get i)) (v118v1_g : Nat → List PV) (v118v1_h : v118v1_g = fun i => enc_32 (v118v1.get i)), P1 iv1 s_1v1 v118v1 = true → K (e40 (S1 iv1 s_1v1 v118v1)) → X1 (f40_g1 s bin rates x_0v0 x_1v0 iv1 s_1v1.len s_1v1_g v118v1.len v118v1_g)) (iv2 : Int) (kv2 : Int) (s_1v2 : (Sl (Sl FluxRow))) (v39v2 : (Sl FluxRow)) (v118v2 : (Sl (Sl FluxRow))) (s_1v2_g : Nat → List PV) (s_1v2_h : s_1v2_g = fun i => enc_32 (s_1v2.get i)) (v39v2_g : Nat → List PV) (v39v2_h : v39v2_g = fun i => enc_44 (v39v2.get i)) (v118v2_g : Nat → List PV) (v118v2_h : v118v2_g = fun i => enc_32 (v118v2.get i)) (hs : p40_at2 P1 s bin rates x_0v0 x_1v0 iv2 kv2 s_1v2 v39v2 v118v2 = true) (hk : K (e40 (s40_at2 S1 s bin rates x_0v0 x_1v0 iv2 kv2 s_1v2 v39v2 v118v2))) : f40_at2 (Wk K) X1 s bin rates x_0v0 x_1v0 iv2 kv2 s_1v2.len s_1v2_g v39v2.len v39v2_g v118v2.len v118v2_g := by
  refine f40_loop2 (Wk K) X1 s bin rates x_0v0 x_1v0 iv2 kv2 s_1v2.len s_1v2_g v39v2.len v39v2_g v118v2.len v118v2_g ?_
  intro X2 hstep
  have key : ∀ (k : Nat) (iv2 : Int) (kv2 : Int) (s_1v2 : (Sl (Sl FluxRow))) (v39v2 : (Sl FluxRow)) (v118v2 : (Sl (Sl FluxRow))) (s_1v2_g : Nat → List PV) (s_1v2_h : s_1v2_g = fun i => enc_32 (s_1v2.get i)) (v39v2_g : Nat → List PV) (v39v2_h : v39v2_g = fun i => enc_44 (v39v2.get i)) (v118v2_g : Nat → List PV) (v118v2_h : v118v2_g = fun i => enc_32 (v118v2.get i)), p40_lp2 P1 s bin rates x_0v0 x_1v0 k iv2 kv2 s_1v2 v39v2 v118v2 = true → K (e40 (s40_lp2 S1 s bin rates x_0v0 x_1v0 k iv2 kv2 s_1v2 v39v2 v118v2)) → X2 (f40_g2 s bin rates x_0v0 x_1v0 iv2 kv2 s_1v2.len s_1v2_g v39v2.len v39v2_g v118v2.len v118v2_g) := by
    intro k
    induction k with
    | zero => intro iv2 kv2 s_1v2 v39v2 v118v2 s_1v2_g s_1v2_h v39v2_g v39v2_h v118v2_g v118v2_h hs; exact absurd hs Bool.false_ne_true
    | succ k ih =>
      intro iv2 kv2 s_1v2 v39v2 v118v2 s_1v2_g s_1v2_h v39v2_g v39v2_h v118v2_g v118v2_h hs hk
      subst s_1v2_h
      subst v39v2_h
      subst v118v2_h
      refine hstep iv2 kv2 s_1v2 v39v2 v118v2 ?_
      have hs : p40_st2 P1 s bin rates x_0v0 x_1v0 (p40_lp2 P1 s bin rates x_0v0 x_1v0 k) iv2 kv2 s_1v2 v39v2 v118v2 = true := hs
      have hk : K (e40 (s40_st2 S1 s bin rates x_0v0 x_1v0 (s40_lp2 S1 s bin rates x_0v0 x_1v0 k) iv2 kv2 s_1v2 v39v2 v118v2)) := hk
      unfold p40_st2 at hs
      unfold s40_st2 at hk
      generalize s40_lp2 S1 s bin rates x_0v0 x_1v0 k = S2 at hk ih
      generalize p40_lp2 P1 s bin rates x_0v0 x_1v0 k = P2 at hs ih
      have hX2 := ih
      exact (condB_go (K := fun r => K (e40 r))
       (fun hs hk => (condB_go (K := fun r => K (e40 r))
        (fun hs hk => (andK hs fun hc hs => ⟨hc, (andK hs fun hc hs => ⟨hc, (condB_go (K := fun r => K (e40 r))
         (fun hs hk => (andK hs fun hc hs => ⟨hc, (andK hs fun hc hs => ⟨hc, (andK hs fun hc hs => ⟨hc, (andK hs fun hc hs => ⟨hc, (q40_at3 K s bin rates x_0v0 x_1v0 X1 P1 S1 hX1 X2 P2 S2 hX2 iv2 kv2 s_1v2 (⟨v39v2.len, (setT kv2.toNat (⟨(v39v2.get kv2.toNat).Energy, (⟨(if rates.Low > (v39v2.get kv2.toNat).Rate.Low then rates.Low else (v39v2.get kv2.toNat).Rate.Low), (v39v2.get kv2.toNat).Rate.High⟩ : Span)⟩ : FluxRow) v39v2.get)⟩ : Sl FluxRow) v118v2 (fun i => enc_32 (s_1v2.get i)) rfl (setG kv2.toNat 1 (fun i => enc_44 (v39v2.get i)) (enc_3 (if rates.Low > (v39v2.get kv2.toNat).Rate.Low then rates.Low else (v39v2.get kv2.toNat).Rate.Low))) (setG_e rfl rfl) (fun i => enc_32 (v118v2.get i)) rfl hs hk)⟩)⟩)⟩)⟩))
         (fun hs hk => (q40_at3 K s bin rates x_0v0 x_1v0 X1 P1 S1 hX1 X2 P2 S2 hX2 iv2 kv2 s_1v2 v39v2 v118v2 (fun i => enc_32 (s_1v2.get i)) rfl (fun i => enc_44 (v39v2.get i)) rfl (fun i => enc_32 (v118v2.get i)) rfl hs hk)) hs hk)⟩)⟩))
        (fun hs hk => (andK hs fun hc hs => ⟨hc, (hX1 (w64 (iv2 + (1:Int))) s_1v2 (⟨(v118v2.len + 1), (appT v118v2.len v118v2.get (fun _ => v39v2))⟩ : Sl (Sl FluxRow)) (fun i => enc_32 (s_1v2.get i)) rfl (appG v118v2.len (fun i => enc_32 (v118v2.get i)) (fun _ => (enc_32 v39v2))) (appG_e rfl rfl) hs hk)⟩)) hs hk))
       (fun hs hk => (andK hs fun hc hs => ⟨hc, (hX1 (w64 (iv2 + (1:Int))) s_1v2 (⟨(v118v2.len + 1), (appT v118v2.len v118v2.get (fun _ => v39v2))⟩ : Sl (Sl FluxRow)) (fun i => enc_32 (s_1v2.get i)) rfl (appG v118v2.len (fun i => enc_32 (v118v2.get i)) (fun _ => (enc_32 v39v2))) (appG_e rfl rfl) hs hk)⟩)) hs hk)
  exact key _ iv2 kv2 s_1v2 v39v2 v118v2 s_1v2_g s_1v2_h v39v2_g v39v2_h v118v2_g v118v2_h hs hk
def s40_st1 (s : Sky) (bin : Int) (rates : Span) (x_0v0 : Int) (x_1v0 : Int) (S1 : Int → (Sl (Sl FluxRow)) → (Sl (Sl FluxRow)) → (Sky × Bool)) (iv1 : Int) (s_1v1 : (Sl (Sl FluxRow))) (v118v1 : (Sl (Sl FluxRow))) : (Sky × Bool) :=
  (cond (decide (iv1 < (s_1v1.len : Int)))
   (s40_at2 S1 s bin rates x_0v0 x_1v0 iv1 (0:Int) s_1v1 (s_1v1.get iv1.toNat) v118v1)
   ((⟨s.Parts, v118v1, s.Beta, s.Alpha⟩ : Sky), true))
def p40_st1 (s : Sky) (bin : Int) (rates : Span) (x_0v0 : Int) (x_1v0 : Int) (P1 : Int → (Sl (Sl FluxRow)) → (Sl (Sl FluxRow)) → Bool) (iv1 : Int) (s_1v1 : (Sl (Sl FluxRow))) (v118v1 : (Sl (Sl FluxRow))) : Bool :=
  (cond (decide (iv1 < (s_1v1.len : Int)))
   (decide ((0 ≤ iv1 ∧ iv1 < (s_1v1.len : Int))) &&
   (decide (((s_1v1.get iv1.toNat).len * 24 ≤ 140737488355328 ∧ (s_1v1.get iv1.toNat).len ≤ 9223372036854775807)) &&
   (p40_at2 P1 s bin rates x_0v0 x_1v0 iv1 (0:Int) s_1v1 (s_1v1.get iv1.toNat) v118v1)))
   true)
def s40_lp1 (s : Sky) (bin : Int) (rates : Span) (x_0v0 : Int) (x_1v0 : Int) : Nat → Int → (Sl (Sl FluxRow)) → (Sl (Sl FluxRow)) → (Sky × Bool)
  | 0 => fun _ _ _ => default
  | k + 1 => s40_st1 s bin rates x_0v0 x_1v0 (s40_lp1 s bin rates x_0v0 x_1v0 k)
def p40_lp1 (s : Sky) (bin : Int) (rates : Span) (x_0v0 : Int) (x_1v0 : Int) : Nat → Int → (Sl (Sl FluxRow)) → (Sl (Sl FluxRow)) → Bool
  | 0 => fun _ _ _ => false
  | k + 1 => p40_st1 s bin rates x_0v0 x_1v0 (p40_lp1 s bin rates x_0v0 x_1v0 k)
def s40_at1 (s : Sky) (bin : Int) (rates : Span) (x_0v0 : Int) (x_1v0 : Int) (iv1 : Int) (s_1v1 : (Sl (Sl FluxRow))) (v118v1 : (Sl (Sl FluxRow))) : (Sky × Bool) := s40_lp1 s bin rates x_0v0 x_1v0 Fuel iv1 s_1v1 v118v1
def p40_at1 (s : Sky) (bin : Int) (rates : Span) (x_0v0 : Int) (x_1v0 : Int) (iv1 : Int) (s_1v1 : (Sl (Sl FluxRow))) (v118v1 : (Sl (Sl FluxRow))) : Bool := p40_lp1 s bin rates x_0v0 x_1v0 Fuel iv1 s_1v1 v118v1
theorem q40_at1 (K : List PA → Prop) (s : Sky) (bin : Int) (rates : Span) (x_0v0 : Int) (x_1v0 : Int) (iv1 : Int) (s_1v1 : (Sl (Sl FluxRow))) (v118v1 : (Sl (Sl FluxRow))) (s_1v1_g : Nat → List PV) (s_1v1_h : s_1v1_g = fun i => enc_32 (s_1v1.get i)) (v118v1_g : Nat → List PV) (v118v1_h : v118v1_g = fun i => enc_32 (v118v1.get i)) (hs : p40_at1 s bin rates x_0v0 x_1v0 iv1 s_1v1 v118v1 = true) (hk : K (e40 (s40_at1 s bin rates x_0v0 x_1v0 iv1 s_1v1 v118v1))) : f40_at1 (Wk K) s bin rates x_0v0 x_1v0 iv1 s_1v1.len s_1v1_g v118v1.len v118v1_g := by
  refine f40_loop1 (Wk K) s bin rates x_0v0 x_1v0 iv1 s_1v1.len s_1v1_g v118v1.len v118v1_g ?_
  intro X1 hstep
  have key : ∀ (k : Nat) (iv1 : Int) (s_1v1 : (Sl (Sl FluxRow))) (v118v1 : (Sl (Sl FluxRow))) (s_1v1_g : Nat → List PV) (s_1v1_h : s_1v1_g = fun i => enc_32 (s_1v1.get i)) (v118v1_g : Nat → List PV) (v118v1_h : v118v1_g = fun i => enc_32 (v118v1.get i)), p40_lp1 s bin rates x_0v0 x_1v0 k iv1 s_1v1 v118v1 = true → K (e40 (s40_lp1 s bin rates x_0v0 x_1v0 k iv1 s_1v1 v118v1)) → X1 (f40_g1 s bin rates x_0v0 x_1v0 iv1 s_1v1.len s_1v1_g v118v1.len v118v1_g) := by
    intro k
    induction k with
    | zero => intro iv1 s_1v1 v118v1 s_1v1_g s_1v1_h v118v1_g v118v1_h hs; exact absurd hs Bool.false_ne_true
    | succ k ih =>
      intro iv1 s_1v1 v118v1 s_1v1_g s_1v1_h v118v1_g v118v1_h hs hk
      subst s_1v1_h
      subst v118v1_h
      refine hstep iv1 s_1v1 v118v1 ?_
      have hs : p40_st1 s bin rates x_0v0 x_1v0 (p40_lp1 s bin rates x_0v0 x_1v0 k) iv1 s_1v1 v118v1 = true := hs
      have hk : K (e40 (s40_st1 s bin rates x_0v0 x_1v0 (s40_lp1 s bin rates x_0v0 x_1v0 k) iv1 s_1v1 v118v1)) := hk
      unfold p40_st1 at hs
      unfold s40_st1 at hk
      generalize s40_lp1 s bin rates x_0v0 x_1v0 k = S1 at hk ih
      generalize p40_lp1 s bin rates x_0v0 x_1v0 k = P1 at hs ih
      have hX1 := ih
      exact (condB_go (K := fun r => K (e40 r))
       (fun hs hk => (andK hs fun hc hs => ⟨hc, (andK hs fun hc hs => ⟨hc, (q40_at2 K s bin rates x_0v0 x_1v0 X1 P1 S1 hX1 iv1 (0:Int) s_1v1 (s_1v1.get iv1.toNat) v118v1 (fun i => enc_32 (s_1v1.get i)) rfl (fun i => enc_44 ((s_1v1.get iv1.toNat).get i)) rfl (fun i => enc_32 (v118v1.get i)) rfl hs hk)⟩)⟩))
       (fun hs hk => (wk_rfl hk)) hs hk)
  exact key _ iv1 s_1v1 v118v1 s_1v1_g s_1v1_h v118v1_g v118v1_h hs hk
def s40_at0 (s : Sky) (bin : Int) (rates : Span) (s_1v0 : (Sl (Sl FluxRow))) (x_0v0 : Int) (x_1v0 : Int) : (Sky × Bool) :=
  (s40_at1 s bin rates x_0v0 x_1v0 (0:Int) s_1v0 (⟨0, (fun _ => default)⟩ : Sl (Sl FluxRow)))
def p40_at0 (s : Sky) (bin : Int) (rates : Span) (s_1v0 : (Sl (Sl FluxRow))) (x_0v0 : Int) (x_1v0 : Int) : Bool :=
  (p40_at1 s bin rates x_0v0 x_1v0 (0:Int) s_1v0 (⟨0, (fun _ => default)⟩ : Sl (Sl FluxRow)))
theorem q40_at0 (K : List PA → Prop) (s : Sky) (bin : Int) (rates : Span) (s_1v0 : (Sl (Sl FluxRow))) (x_0v0 : Int) (x_1v0 : Int) (s_1v0_g : Nat → List PV) (s_1v0_h : s_1v0_g = fun i => enc_32 (s_1v0.get i)) (hs : p40_at0 s bin rates s_1v0 x_0v0 x_1v0 = true) (hk : K (e40 (s40_at0 s bin rates s_1v0 x_0v0 x_1v0))) : f40_at0 (Wk K) s bin rates s_1v0.len s_1v0_g x_0v0 x_1v0 := by
  subst s_1v0_h
  refine ofEq (f40_eq0 (Wk K) s bin rates s_1v0 x_0v0 x_1v0) ?_
  unfold p40_at0 at hs
  unfold s40_at0 at hk
  exact (q40_at1 K s bin rates x_0v0 x_1v0 (0:Int) s_1v0 (⟨0, (fun _ => default)⟩ : Sl (Sl FluxRow)) (fun i => enc_32 (s_1v0.get i)) rfl (fun i => enc_32 ((fun _ => default) i)) rfl hs hk)
def s40 (s : Sky) (t : (Sl RangeRow)) (bin : Int) (opacity : Int) (rates : Span) : (Sky × Bool) :=
  (s40_at0 s bin rates s.Bins ((s49 t opacity).Low) ((s49 t opacity).High))
def p40 (s : Sky) (t : (Sl RangeRow)) (bin : Int) (opacity : Int) (rates : Span) : Bool :=
  (decide ((p49 t opacity = true)) &&
  (p40_at0 s bin rates s.Bins ((s49 t opacity).Low) ((s49 t opacity).High)))
theorem q40 (s : Sky) (t : (Sl RangeRow)) (bin : Int) (opacity : Int) (rates : Span) (K : List PA → Prop) (hs : p40 s t bin opacity rates = true) (hk : K (e40 (s40 s t bin opacity rates))) : vcFun Try.prog G40 ann40 40 [.agg [.int .i64 s.Parts, .sl s.Bins.len 1 (fun i => enc_32 (s.Bins.get i)), .int .i64 s.Beta.Low, .int .i64 s.Beta.High, .int .i64 s.Alpha.Low, .int .i64 s.Alpha.High], .one (.sl t.len 3 (fun i => enc_42 (t.get i))), .one (.int .i64 bin), .one (.int .i64 opacity), .agg [.int .i64 rates.Low, .int .i64 rates.High]] (Wk K) := by
  refine ofEq (f40_top s t bin opacity rates (Wk K)) ?_
  unfold p40 at hs
  unfold s40 at hk
  exact (andK hs fun hc hs => ⟨⟨isE, hc⟩, (q40_at0 K s bin rates s.Bins ((s49 t opacity).Low) ((s49 t opacity).High) (fun i => enc_32 (s.Bins.get i)) rfl hs hk)⟩)
def ctr40 : List PA → COut
  | [.agg [.int .i64 a0_Parts, .sl a0_Bins_n a0_Bins_s a0_Bins_g, .int .i64 a0_Beta_Low, .int .i64 a0_Beta_High, .int .i64 a0_Alpha_Low, .int .i64 a0_Alpha_High], .one (.sl a1_n a1_s a1_g), .one (.int .i64 a2), .one (.int .i64 a3), .agg [.int .i64 a4_Low, .int .i64 a4_High]] => .det (IsE enc_32 1 a0_Bins_s a0_Bins_g ∧ IsE enc_42 3 a1_s a1_g ∧ p40 (⟨a0_Parts, (⟨a0_Bins_n, decF_32 a0_Bins_g⟩ : (Sl (Sl FluxRow))), (⟨a0_Beta_Low, a0_Beta_High⟩ : Span), (⟨a0_Alpha_Low, a0_Alpha_High⟩ : Span)⟩ : Sky) (⟨a1_n, decF_42 a1_g⟩ : (Sl RangeRow)) a2 a3 (⟨a4_Low, a4_High⟩ : Span) = true) [.agg [.int .i64 (((s40 (⟨a0_Parts, (⟨a0_Bins_n, decF_32 a0_Bins_g⟩ : (Sl (Sl FluxRow))), (⟨a0_Beta_Low, a0_Beta_High⟩ : Span), (⟨a0_Alpha_Low, a0_Alpha_High⟩ : Span)⟩ : Sky) (⟨a1_n, decF_42 a1_g⟩ : (Sl RangeRow)) a2 a3 (⟨a4_Low, a4_High⟩ : Span)).1).Parts), .sl (((s40 (⟨a0_Parts, (⟨a0_Bins_n, decF_32 a0_Bins_g⟩ : (Sl (Sl FluxRow))), (⟨a0_Beta_Low, a0_Beta_High⟩ : Span), (⟨a0_Alpha_Low, a0_Alpha_High⟩ : Span)⟩ : Sky) (⟨a1_n, decF_42 a1_g⟩ : (Sl RangeRow)) a2 a3 (⟨a4_Low, a4_High⟩ : Span)).1).Bins.len) 1 (fun i => enc_32 (((s40 (⟨a0_Parts, (⟨a0_Bins_n, decF_32 a0_Bins_g⟩ : (Sl (Sl FluxRow))), (⟨a0_Beta_Low, a0_Beta_High⟩ : Span), (⟨a0_Alpha_Low, a0_Alpha_High⟩ : Span)⟩ : Sky) (⟨a1_n, decF_42 a1_g⟩ : (Sl RangeRow)) a2 a3 (⟨a4_Low, a4_High⟩ : Span)).1).Bins.get i)), .int .i64 (((s40 (⟨a0_Parts, (⟨a0_Bins_n, decF_32 a0_Bins_g⟩ : (Sl (Sl FluxRow))), (⟨a0_Beta_Low, a0_Beta_High⟩ : Span), (⟨a0_Alpha_Low, a0_Alpha_High⟩ : Span)⟩ : Sky) (⟨a1_n, decF_42 a1_g⟩ : (Sl RangeRow)) a2 a3 (⟨a4_Low, a4_High⟩ : Span)).1).Beta.Low), .int .i64 (((s40 (⟨a0_Parts, (⟨a0_Bins_n, decF_32 a0_Bins_g⟩ : (Sl (Sl FluxRow))), (⟨a0_Beta_Low, a0_Beta_High⟩ : Span), (⟨a0_Alpha_Low, a0_Alpha_High⟩ : Span)⟩ : Sky) (⟨a1_n, decF_42 a1_g⟩ : (Sl RangeRow)) a2 a3 (⟨a4_Low, a4_High⟩ : Span)).1).Beta.High), .int .i64 (((s40 (⟨a0_Parts, (⟨a0_Bins_n, decF_32 a0_Bins_g⟩ : (Sl (Sl FluxRow))), (⟨a0_Beta_Low, a0_Beta_High⟩ : Span), (⟨a0_Alpha_Low, a0_Alpha_High⟩ : Span)⟩ : Sky) (⟨a1_n, decF_42 a1_g⟩ : (Sl RangeRow)) a2 a3 (⟨a4_Low, a4_High⟩ : Span)).1).Alpha.Low), .int .i64 (((s40 (⟨a0_Parts, (⟨a0_Bins_n, decF_32 a0_Bins_g⟩ : (Sl (Sl FluxRow))), (⟨a0_Beta_Low, a0_Beta_High⟩ : Span), (⟨a0_Alpha_Low, a0_Alpha_High⟩ : Span)⟩ : Sky) (⟨a1_n, decF_42 a1_g⟩ : (Sl RangeRow)) a2 a3 (⟨a4_Low, a4_High⟩ : Span)).1).Alpha.High)], .one (.bool ((s40 (⟨a0_Parts, (⟨a0_Bins_n, decF_32 a0_Bins_g⟩ : (Sl (Sl FluxRow))), (⟨a0_Beta_Low, a0_Beta_High⟩ : Span), (⟨a0_Alpha_Low, a0_Alpha_High⟩ : Span)⟩ : Sky) (⟨a1_n, decF_42 a1_g⟩ : (Sl RangeRow)) a2 a3 (⟨a4_Low, a4_High⟩ : Span)).2))]
  | _ => .no
theorem call40 : Callable Try.prog 40 := ⟨_, rfl, rfl, by kernel_rfl⟩
theorem ok40 : Ok Try.prog 40 ctr40 := ok_tabW okT40 call40 fun args K h => by
  unfold ctr40 at h
  split at h
  · rename_i a0_Parts a0_Bins_n a0_Bins_s a0_Bins_g a0_Beta_Low a0_Beta_High a0_Alpha_Low a0_Alpha_High a1_n a1_s a1_g a2 a3 a4_Low a4_High
    obtain ⟨⟨⟨rfl, a0_Bins_f, rfl⟩, ⟨rfl, a1_f, rfl⟩, hs⟩, hk⟩ := h
    try rw [decF_enc_32 a0_Bins_f] at hs
    try rw [decF_enc_32 a0_Bins_f] at hk
    try rw [decF_enc_42 a1_f] at hs
    try rw [decF_enc_42 a1_f] at hk
    exact ⟨_, rl_rfl pa_rfl _, (fun _ _ => []), (fun _ => false), ann40, q40 (⟨a0_Parts, (⟨a0_Bins_n, a0_Bins_f⟩ : (Sl (Sl FluxRow))), (⟨a0_Beta_Low, a0_Beta_High⟩ : Span), (⟨a0_Alpha_Low, a0_Alpha_High⟩ : Span)⟩ : Sky) (⟨a1_n, a1_f⟩ : (Sl RangeRow)) a2 a3 (⟨a4_Low, a4_High⟩ : Span) K hs hk⟩
  · exact h.elim
-- 80 flux.errno
abbrev T80 : Tabs := Tabs.nil
theorem okT80 : TabsOk Try.prog T80 := TabsOk.nil
abbrev G80 : Ctrs := csm T80 (fun _ _ => []) (fun _ => false)
def ann80 : Ann := ⟨5, [(0, ⟨[0], [], [], [], []⟩), (1, ⟨[4], [], [], [], []⟩), (2, ⟨[2], [], [], [], []⟩), (3, ⟨[2], [], [], [], []⟩)],
  [],
  [],
  [], []⟩
theorem f80_top (fine : Bool) (K : List PA → Prop) :
  vcFun Try.prog G80 ann80 80 [.one (.bool fine)] K =
  (condP (!fine)
   (K [.one (.int .i64 (2:Int))])
   (K [.one (.int .i64 (0:Int))])) := by kernel_rfl
abbrev R80 := Int
abbrev e80 (r : Int) : List PA := [.one (.int .i64 r)]
def s80 (fine : Bool) : Int :=
  (cond (!fine)
   (2:Int)
   (0:Int))
theorem q80 (fine : Bool) (K : List PA → Prop) (hk : K (e80 (s80 fine))) : vcFun Try.prog G80 ann80 80 [.one (.bool fine)] K := by
  refine ofEq (f80_top fine K) ?_
  unfold s80 at hk
  exact (condP_gt (K := fun r => K (e80 r))
   (fun hk => hk)
   (fun hk => hk) hk)
def ctr80 : List PA → COut
  | [.one (.bool a0)] => .tot [.one (.int .i64 (s80 a0))]
  | _ => .no
theorem call80 : Callable Try.prog 80 := ⟨_, rfl, rfl, by kernel_rfl⟩
theorem ok80 : Ok Try.prog 80 ctr80 := ok_tab okT80 call80 fun args K h => by
  unfold ctr80 at h
  split at h
  · rename_i a0
    have hk := h
    exact ⟨(fun _ _ => []), (fun _ => false), ann80, q80 a0 K hk⟩
  · exact h.elim
-- 41 flux.Check
abbrev T41 : Tabs := ((Tabs.nil.addF 75 ctr75).addF 80 ctr80)
theorem okT41 : TabsOk Try.prog T41 := ((TabsOk.nil.addF ok75).addF ok80)
abbrev G41 : Ctrs := csm T41 (fun _ _ => []) (fun _ => false)
def ann41 : Ann := ⟨6, [(0, ⟨[1], [1], [], [], []⟩), (1, ⟨[2], [], [], [], []⟩)],
  [],
  [],
  [], []⟩
theorem f41_top (s : Sky) (K : List PA → Prop) :
  vcFun Try.prog G41 ann41 41 [.agg [.int .i64 s.Parts, .sl s.Bins.len 1 (fun i => enc_32 (s.Bins.get i)), .int .i64 s.Beta.Low, .int .i64 s.Beta.High, .int .i64 s.Alpha.Low, .int .i64 s.Alpha.High]] K =
  ((IsE enc_32 1 1 (fun i => enc_32 (s.Bins.get i)) ∧ (p75 s = true)) ∧
  (K [.one (.int .i64 (s80 (s75 s)))])) := by kernel_rfl
abbrev R41 := Int
abbrev e41 (r : Int) : List PA := [.one (.int .i64 r)]
def s41 (s : Sky) : Int :=
  (s80 (s75 s))
def p41 (s : Sky) : Bool :=
  (decide ((p75 s = true)) &&
  true)
theorem q41 (s : Sky) (K : List PA → Prop) (hs : p41 s = true) (hk : K (e41 (s41 s))) : vcFun Try.prog G41 ann41 41 [.agg [.int .i64 s.Parts, .sl s.Bins.len 1 (fun i => enc_32 (s.Bins.get i)), .int .i64 s.Beta.Low, .int .i64 s.Beta.High, .int .i64 s.Alpha.Low, .int .i64 s.Alpha.High]] K := by
  refine ofEq (f41_top s K) ?_
  unfold p41 at hs
  unfold s41 at hk
  exact (andK hs fun hc hs => ⟨⟨isE, hc⟩, hk⟩)
def ctr41 : List PA → COut
  | [.agg [.int .i64 a0_Parts, .sl a0_Bins_n a0_Bins_s a0_Bins_g, .int .i64 a0_Beta_Low, .int .i64 a0_Beta_High, .int .i64 a0_Alpha_Low, .int .i64 a0_Alpha_High]] => .det (IsE enc_32 1 a0_Bins_s a0_Bins_g ∧ p41 (⟨a0_Parts, (⟨a0_Bins_n, decF_32 a0_Bins_g⟩ : (Sl (Sl FluxRow))), (⟨a0_Beta_Low, a0_Beta_High⟩ : Span), (⟨a0_Alpha_Low, a0_Alpha_High⟩ : Span)⟩ : Sky) = true) [.one (.int .i64 (s41 (⟨a0_Parts, (⟨a0_Bins_n, decF_32 a0_Bins_g⟩ : (Sl (Sl FluxRow))), (⟨a0_Beta_Low, a0_Beta_High⟩ : Span), (⟨a0_Alpha_Low, a0_Alpha_High⟩ : Span)⟩ : Sky)))]
  | _ => .no
theorem call41 : Callable Try.prog 41 := ⟨_, rfl, rfl, by kernel_rfl⟩
theorem ok41 : Ok Try.prog 41 ctr41 := ok_tab okT41 call41 fun args K h => by
  unfold ctr41 at h
  split at h
  · rename_i a0_Parts a0_Bins_n a0_Bins_s a0_Bins_g a0_Beta_Low a0_Beta_High a0_Alpha_Low a0_Alpha_High
    obtain ⟨⟨⟨rfl, a0_Bins_f, rfl⟩, hs⟩, hk⟩ := h
    try rw [decF_enc_32 a0_Bins_f] at hs
    try rw [decF_enc_32 a0_Bins_f] at hk
    exact ⟨(fun _ _ => []), (fun _ => false), ann41, q41 (⟨a0_Parts, (⟨a0_Bins_n, a0_Bins_f⟩ : (Sl (Sl FluxRow))), (⟨a0_Beta_Low, a0_Beta_High⟩ : Span), (⟨a0_Alpha_Low, a0_Alpha_High⟩ : Span)⟩ : Sky) K hs hk⟩
  · exact h.elim
end Go.Proofs
namespace Go.Proofs
open Go Go.Pm
set_option maxRecDepth 100000
set_option linter.unusedVariables false
attribute [local irreducible] Go.Pm.vcFun Go.Pm.vc Go.Pm.vcIter
-- 48 flux.Ranges
abbrev T48 : Tabs := ((Tabs.nil.addF 62 ctr62).addF 80 ctr80)
theorem okT48 : TabsOk Try.prog T48 := ((TabsOk.nil.addF ok62).addF ok80)
abbrev G48 : Ctrs := csm T48 (fun _ _ => []) (fun _ => false)
def ann48 : Ann := ⟨6, [(0, ⟨[0], [], [], [], []⟩), (1, ⟨[2], [], [], [], []⟩)],
  [],
  [],
  [], []⟩
theorem f48_top (t : (Sl RangeRow)) (K : List PA → Prop) :
  vcFun Try.prog G48 ann48 48 [.one (.sl t.len 3 (fun i => enc_42 (t.get i)))] K =
  ((IsE enc_42 3 3 (fun i => enc_42 (t.get i)) ∧ (p62 t = true)) ∧
  (K [.one (.int .i64 (s80 (s62 t)))])) := by kernel_rfl
abbrev R48 := Int
abbrev e48 (r : Int) : List PA := [.one (.int .i64 r)]
def s48 (t : (Sl RangeRow)) : Int :=
  (s80 (s62 t))
def p48 (t : (Sl RangeRow)) : Bool :=
  (decide ((p62 t = true)) &&
  true)
theorem q48 (t : (Sl RangeRow)) (K : List PA → Prop) (hs : p48 t = true) (hk : K (e48 (s48 t))) : vcFun Try.prog G48 ann48 48 [.one (.sl t.len 3 (fun i => enc_42 (t.get i)))] K := by
  refine ofEq (f48_top t K) ?_
  unfold p48 at hs
  unfold s48 at hk
  exact (andK hs fun hc hs => ⟨⟨isE, hc⟩, hk⟩)
def ctr48 : List PA → COut
  | [.one (.sl a0_n a0_s a0_g)] => .det (IsE enc_42 3 a0_s a0_g ∧ p48 (⟨a0_n, decF_42 a0_g⟩ : (Sl RangeRow)) = true) [.one (.int .i64 (s48 (⟨a0_n, decF_42 a0_g⟩ : (Sl RangeRow))))]
  | _ => .no
theorem call48 : Callable Try.prog 48 := ⟨_, rfl, rfl, by kernel_rfl⟩
theorem ok48 : Ok Try.prog 48 ctr48 := ok_tab okT48 call48 fun args K h => by
  unfold ctr48 at h
  split at h
  · rename_i a0_n a0_s a0_g
    obtain ⟨⟨⟨rfl, a0_f, rfl⟩, hs⟩, hk⟩ := h
    try rw [decF_enc_42 a0_f] at hs
    try rw [decF_enc_42 a0_f] at hk
    exact ⟨(fun _ _ => []), (fun _ => false), ann48, q48 (⟨a0_n, a0_f⟩ : (Sl RangeRow)) K hs hk⟩
  · exact h.elim
-- 50 overburdenref05.Reach
abbrev T50 : Tabs := Tabs.nil
theorem okT50 : TabsOk Try.prog T50 := TabsOk.nil
abbrev G50 : Ctrs := csm T50 (fun _ _ => []) (fun _ => false)
def ann50 : Ann := ⟨51, [(0, ⟨[0, 1, 4], [4], [], [], []⟩), (1, ⟨[0, 1, 4, 5], [4, 5], [], [], []⟩), (2, ⟨[0, 1, 4, 5, 6], [4, 5], [], [], []⟩), (3, ⟨[0, 1, 4, 5, 6, 12], [4, 5], [], [], []⟩), (4, ⟨[0, 1, 4, 5, 6], [4, 5], [], [], []⟩), (5, ⟨[0, 1, 4, 5, 6, 21], [4, 5], [], [], []⟩), (6, ⟨[0, 1, 4, 5, 6], [4, 5], [], [], []⟩), (7, ⟨[0, 1, 4, 5, 7], [4, 5], [], [], []⟩), (8, ⟨[0, 1, 4, 5, 7, 33], [4, 5], [], [], []⟩), (9, ⟨[0, 1, 4, 5, 7], [4, 5], [], [], []⟩), (10, ⟨[0, 1, 4, 5, 7, 42], [4, 5], [], [], []⟩), (11, ⟨[0, 1, 4, 5, 7], [4, 5], [], [], []⟩), (12, ⟨[4], [4], [], [], []⟩)],
  [(3, ⟨[0, 1, 4, 5, 6], [4, 5], [], [], []⟩), (8, ⟨[0, 1, 4, 5, 7], [4, 5], [], [], []⟩)],
  [(7, ⟨[0, 1, 4, 5], [4, 5], [], [], []⟩)],
  [], []⟩
def f50_g0 (t : (Sl RangeRow)) (energy : Int) (iv0 : Int) (out_0v0 : Int) : St := ⟨[(0, .one (.c (.p (.sl t.len 3 (fun i => enc_42 (t.get i)))))), (1, .one (.c (.p (.int .i64 energy)))), (4, .one (.c (.ptr 4 0))), (5, .one (.c (.ptr 5 0))), (6, .one (.c (.p (.int .i64 iv0))))], [(4, .box 24 [.p (.int .i64 (0:Int)), .p (.int .i64 (0:Int))]), (5, .box 24 [.p (.int .i64 out_0v0), .p (.int .i64 (1000000:Int))])], []⟩
def f50_at0 (K : List PA → Prop) (t : (Sl RangeRow)) (energy : Int) (iv0 : Int) (out_0v0 : Int) : Prop := vc Try.prog G50 ann50 (cdF Try.f50 [1, 1, 0, 1, 0]) (blockK 0 (sqK Try.prog G50 ann50 (cdF Try.f50 [1, 1, 1]) (bodyK Try.prog Try.f50 K))) (f50_g0 t energy iv0 out_0v0)
def f50_g1 (t : (Sl RangeRow)) (energy : Int) (out_0v1 : Int) : St := ⟨[(0, .one (.c (.p (.sl t.len 3 (fun i => enc_42 (t.get i)))))), (1, .one (.c (.p (.int .i64 energy)))), (4, .one (.c (.ptr 4 0))), (5, .one (.c (.ptr 5 0)))], [(4, .box 24 [.p (.int .i64 (0:Int)), .p (.int .i64 (0:Int))]), (5, .box 24 [.p (.int .i64 out_0v1), .p (.int .i64 (1000000:Int))])], []⟩
def f50_at1 (K : List PA → Prop) (t : (Sl RangeRow)) (energy : Int) (out_0v1 : Int) : Prop := vc Try.prog G50 ann50 (cdF Try.f50 [1, 1, 1]) (bodyK Try.prog Try.f50 K) (f50_g1 t energy out_0v1)
def f50_g2 (t : (Sl RangeRow)) (energy : Int) (iv2 : Int) (out_0v2 : Int) (out_1v2 : Int) : St := ⟨[(0, .one (.c (.p (.sl t.len 3 (fun i => enc_42 (t.get i)))))), (1, .one (.c (.p (.int .i64 energy)))), (4, .one (.c (.ptr 4 0))), (5, .one (.c (.ptr 5 0))), (7, .one (.c (.p (.int .i64 iv2))))], [(4, .box 24 [.p (.int .i64 (0:Int)), .p (.int .i64 (0:Int))]), (5, .box 24 [.p (.int .i64 out_0v2), .p (.int .i64 out_1v2)])], []⟩
def f50_at2 (K : List PA → Prop) (t : (Sl RangeRow)) (energy : Int) (iv2 : Int) (out_0v2 : Int) (out_1v2 : Int) : Prop := vc Try.prog G50 ann50 (cdF Try.f50 [1, 1, 1, 0, 1, 0]) (blockK 2 (sqK Try.prog G50 ann50 (cdF Try.f50 [1, 1, 1, 1]) (bodyK Try.prog Try.f50 K))) (f50_g2 t energy iv2 out_0v2 out_1v2)
theorem f50_top (t : (Sl RangeRow)) (energy : Int) (K : List PA → Prop) :
  vcFun Try.prog G50 ann50 50 [.one (.sl t.len 3 (fun i => enc_42 (t.get i))), .one (.int .i64 energy)] K =
  (f50_at0 K t energy (0:Int) (0:Int)) := by kernel_rfl
def f50_step0 (K : List PA → Prop) (X0 : St → Prop) (t : (Sl RangeRow)) (energy : Int) (iv0 : Int) (out_0v0 : Int) : Prop :=
  (condP (decide (iv0 < (t.len : Int)))
   (((0 ≤ iv0 ∧ iv0 < (t.len : Int))) ∧
   (condP (decide ((t.get iv0.toNat).Energy ≤ energy))
    (((0 ≤ iv0 ∧ iv0 < (t.len : Int))) ∧
    (X0 (f50_g0 t energy (w64 (iv0 + (1:Int))) ((t.get iv0.toNat).Range.Low))))
    (X0 (f50_g0 t energy (w64 (iv0 + (1:Int))) out_0v0))))
   (f50_at1 K t energy out_0v0))
theorem f50_stepeq0 (K : List PA → Prop) (X0 : St → Prop) (t : (Sl RangeRow)) (energy : Int) (iv0 : Int) (out_0v0 : Int) :
  vc Try.prog G50 ann50 (cd (cdF Try.f50 [1, 1, 0, 1, 0]) [0]) (loopK Try.prog ann50 3 X0 (blockK 0 (sqK Try.prog G50 ann50 (cdF Try.f50 [1, 1, 1]) (bodyK Try.prog Try.f50 K)))) (f50_g0 t energy iv0 out_0v0) =
  f50_step0 K X0 t energy iv0 out_0v0 := by kernel_rfl
theorem f50_loop0 (K : List PA → Prop) (t : (Sl RangeRow)) (energy : Int) (iv0 : Int) (out_0v0 : Int)
  (h : ∀ X0 : St → Prop, (∀ (iv0 : Int) (out_0v0 : Int), f50_step0 K X0 t energy iv0 out_0v0 → X0 (f50_g0 t energy iv0 out_0v0)) → X0 (f50_g0 t energy iv0 out_0v0)) :
  f50_at0 K t energy iv0 out_0v0 := by
  have e : f50_at0 K t energy iv0 out_0v0 = (∀ X : St → Prop, (∀ s, vc Try.prog G50 ann50 (cd (cdF Try.f50 [1, 1, 0, 1, 0]) [0]) (loopK Try.prog ann50 3 X (blockK 0 (sqK Try.prog G50 ann50 (cdF Try.f50 [1, 1, 1]) (bodyK Try.prog Try.f50 K)))) s → X s) → X (f50_g0 t energy iv0 out_0v0)) := by kernel_rfl
  refine ofEq e ?_
  intro X hX
  refine h X ?_
  intro iv0 out_0v0 hs
  refine hX _ ?_
  have e2 := f50_stepeq0 K X t energy iv0 out_0v0
  rw [e2]
  exact hs
theorem f50_eq1 (K : List PA → Prop) (t : (Sl RangeRow)) (energy : Int) (out_0v1 : Int) :
  f50_at1 K t energy out_0v1 =
  (f50_at2 K t energy (w64 ((t.len : Int) - (1:Int))) out_0v1 (1000000:Int)) := by kernel_rfl
def f50_step2 (K : List PA → Prop) (X2 : St → Prop) (t : (Sl RangeRow)) (energy : Int) (iv2 : Int) (out_0v2 : Int) (out_1v2 : Int) : Prop :=
  (condP (decide (iv2 ≥ (0:Int)))
   (((0 ≤ iv2 ∧ iv2 < (t.len : Int))) ∧
   (condP (decide ((t.get iv2.toNat).Energy ≥ energy))
    (((0 ≤ iv2 ∧ iv2 < (t.len : Int))) ∧
    (X2 (f50_g2 t energy (w64 (iv2 - (1:Int))) out_0v2 ((t.get iv2.toNat).Range.High))))
    (X2 (f50_g2 t energy (w64 (iv2 - (1:Int))) out_0v2 out_1v2))))
   (K [.agg [.int .i64 out_0v2, .int .i64 out_1v2]]))
theorem f50_stepeq2 (K : List PA → Prop) (X2 : St → Prop) (t : (Sl RangeRow)) (energy : Int) (iv2 : Int) (out_0v2 : Int) (out_1v2 : Int) :
  vc Try.prog G50 ann50 (cd (cdF Try.f50 [1, 1, 1, 0, 1, 0]) [0]) (loopK Try.prog ann50 8 X2 (blockK 2 (sqK Try.prog G50 ann50 (cdF Try.f50 [1, 1, 1, 1]) (bodyK Try.prog Try.f50 K)))) (f50_g2 t energy iv2 out_0v2 out_1v2) =
  f50_step2 K X2 t energy iv2 out_0v2 out_1v2 := by kernel_rfl
theorem f50_loop2 (K : List PA → Prop) (t : (Sl RangeRow)) (energy : Int) (iv2 : Int) (out_0v2 : Int) (out_1v2 : Int)
  (h : ∀ X2 : St → Prop, (∀ (iv2 : Int) (out_0v2 : Int) (out_1v2 : Int), f50_step2 K X2 t energy iv2 out_0v2 out_1v2 → X2 (f50_g2 t energy iv2 out_0v2 out_1v2)) → X2 (f50_g2 t energy iv2 out_0v2 out_1v2)) :
  f50_at2 K t energy iv2 out_0v2 out_1v2 := by
  have e : f50_at2 K t energy iv2 out_0v2 out_1v2 = (∀ X : St → Prop, (∀ s, vc Try.prog G50 ann50 (cd (cdF Try.f50 [1, 1, 1, 0, 1, 0]) [0]) (loopK Try.prog ann50 8 X (blockK 2 (sqK Try.prog G50 ann50 (cdF Try.f50 [1, 1, 1, 1]) (bodyK Try.prog Try.f50 K)))) s → X s) → X (f50_g2 t energy iv2 out_0v2 out_1v2)) := by kernel_rfl
  refine ofEq e ?_
  intro X hX
  refine h X ?_
  intro iv2 out_0v2 out_1v2 hs
  refine hX _ ?_
  have e2 := f50_stepeq2 K X t energy iv2 out_0v2 out_1v2
  rw [e2]
  exact hs
abbrev R50 := Span
abbrev e50 (r : Span) : List PA := [.agg [.int .i64 r.Low, .int .i64 r.High]]
attribute [irreducible] f50_at0 f50_at1 f50_at2
def s50_st2 (t : (Sl RangeRow)) (energy : Int) (S2 : Int → Int → Int → Span) (iv2 : Int) (out_0v2 : Int) (out_1v2 : Int) : Span :=
  (cond (decide (iv2 ≥ (0:Int)))
   (cond (decide ((t.get iv2.toNat).Energy ≥ energy))
    (S2 (w64 (iv2 - (1:Int))) out_0v2 ((t.get iv2.toNat).Range.High))
    (S2 (w64 (iv2 - (1:Int))) out_0v2 out_1v2))
   (⟨out_0v2, out_1v2⟩ : Span))
def p50_st2 (t : (Sl RangeRow)) (energy : Int) (P2 : Int → Int → Int → Bool) (iv2 : Int) (out_0v2 : Int) (out_1v2 : Int) : Bool :=
  (cond (decide (iv2 ≥ (0:Int)))
   (decide ((0 ≤ iv2 ∧ iv2 < (t.len : Int))) &&
   (cond (decide ((t.get iv2.toNat).Energy ≥ energy))
    (decide ((0 ≤ iv2 ∧ iv2 < (t.len : Int))) &&
    (P2 (w64 (iv2 - (1:Int))) out_0v2 ((t.get iv2.toNat).Range.High)))
    (P2 (w64 (iv2 - (1:Int))) out_0v2 out_1v2)))
   true)
def s50_lp2 (t : (Sl RangeRow)) (energy : Int) : Nat → Int → Int → Int → Span
  | 0 => fun _ _ _ => default
  | k + 1 => s50_st2 t energy (s50_lp2 t energy k)
def p50_lp2 (t : (Sl RangeRow)) (energy : Int) : Nat → Int → Int → Int → Bool
  | 0 => fun _ _ _ => false
  | k + 1 => p50_st2 t energy (p50_lp2 t energy k)
def s50_at2 (t : (Sl RangeRow)) (energy : Int) (iv2 : Int) (out_0v2 : Int) (out_1v2 : Int) : Span := s50_lp2 t energy Fuel iv2 out_0v2 out_1v2
def p50_at2 (t : (Sl RangeRow)) (energy : Int) (iv2 : Int) (out_0v2 : Int) (out_1v2 : Int) : Bool := p50_lp2 t energy Fuel iv2 out_0v2 out_1v2
theorem q50_at2 (K : List PA → Prop) (t : (Sl RangeRow)) (energy : Int) (iv2 : Int) (out_0v2 : Int) (out_1v2 : Int) (hs : p50_at2 t energy iv2 out_0v2 out_1v2 = true) (hk : K (e50 (s50_at2 t energy iv2 out_0v2 out_1v2))) : f50_at2 K t energy iv2 out_0v2 out_1v2 := by
  refine f50_loop2 K t energy iv2 out_0v2 out_1v2 ?_
  intro X2 hstep
  have key : ∀ (k : Nat) (iv2 : Int) (out_0v2 : Int) (out_1v2 : Int), p50_lp2 t energy k iv2 out_0v2 out_1v2 = true → K (e50 (s50_lp2 t energy k iv2 out_0v2 out_1v2)) → X2 (f50_g2 t energy iv2 out_0v2 out_1v2) := by
    intro k
    induction k with
    | zero => intro iv2 out_0v2 out_1v2 hs; exact absurd hs Bool.false_ne_true
    | succ k ih =>
      intro iv2 out_0v2 out_1v2 hs hk
      refine hstep iv2 out_0v2 out_1v2 ?_
      have hs : p50_st2 t energy (p50_lp2 t energy k) iv2 out_0v2 out_1v2 = true := hs
      have hk : K (e50 (s50_st2 t energy (s50_lp2 t energy k) iv2 out_0v2 out_1v2)) := hk
      unfold p50_st2 at hs
      unfold s50_st2 at hk
      generalize s50_lp2 t energy k = S2 at hk ih
      generalize p50_lp2 t energy k = P2 at hs ih
      have hX2 := ih
      exact (condB_go (K := fun r => K (e50 r))
       (fun hs hk => (andK hs fun hc hs => ⟨hc, (condB_go (K := fun r => K (e50 r))
        (fun hs hk => (andK hs fun hc hs => ⟨hc, (hX2 (w64 (iv2 - (1:Int))) out_0v2 ((t.get iv2.toNat).Range.High) hs hk)⟩))
        (fun hs hk => (hX2 (w64 (iv2 - (1:Int))) out_0v2 out_1v2 hs hk)) hs hk)⟩))
       (fun hs hk => hk) hs hk)
  exact key _ iv2 out_0v2 out_1v2 hs hk
def s50_at1 (t : (Sl RangeRow)) (energy : Int) (out_0v1 : Int) : Span :=
  (s50_at2 t energy (w64 ((t.len : Int) - (1:Int))) out_0v1 (1000000:Int))
def p50_at1 (t : (Sl RangeRow)) (energy : Int) (out_0v1 : Int) : Bool :=
  (p50_at2 t energy (w64 ((t.len : Int) - (1:Int))) out_0v1 (1000000:Int))
theorem q50_at1 (K : List PA → Prop) (t : (Sl RangeRow)) (energy : Int) (out_0v1 : Int) (hs : p50_at1 t energy out_0v1 = true) (hk : K (e50 (s50_at1 t energy out_0v1))) : f50_at1 K t energy out_0v1 := by
  refine ofEq (f50_eq1 K t energy out_0v1) ?_
  unfold p50_at1 at hs
  unfold s50_at1 at hk
  exact (q50_at2 K t energy (w64 ((t.len : Int) - (1:Int))) out_0v1 (1000000:Int) hs hk)
def s50_st0 (t : (Sl RangeRow)) (energy : Int) (S0 : Int → Int → Span) (iv0 : Int) (out_0v0 : Int) : Span :=
  (cond (decide (iv0 < (t.len : Int)))
   (cond (decide ((t.get iv0.toNat).Energy ≤ energy))
    (S0 (w64 (iv0 + (1:Int))) ((t.get iv0.toNat).Range.Low))
    (S0 (w64 (iv0 + (1:Int))) out_0v0))
   (s50_at1 t energy out_0v0))
def p50_st0 (t : (Sl RangeRow)) (energy : Int) (P0 : Int → Int → Bool) (iv0 : Int) (out_0v0 : Int) : Bool :=
  (cond (decide (iv0 < (t.len : Int)))
   (decide ((0 ≤ iv0 ∧ iv0 < (t.len : Int))) &&
   (cond (decide ((t.get iv0.toNat).Energy ≤ energy))
    (decide ((0 ≤ iv0 ∧ iv0 < (t.len : Int))) &&
    (P0 (w64 (iv0 + (1:Int))) ((t.get iv0.toNat).Range.Low)))
    (P0 (w64 (iv0 + (1:Int))) out_0v0)))
   (p50_at1 t energy out_0v0))
def s50_lp0 (t : (Sl RangeRow)) (energy : Int) : Nat → Int → Int → Span
  | 0 => fun _ _ => default
  | k + 1 => s50_st0 t energy (s50_lp0 t energy k)
def p50_lp0 (t : (Sl RangeRow)) (energy : Int) : Nat → Int → Int → Bool
  | 0 => fun _ _ => false
  | k + 1 => p50_st0 t energy (p50_lp0 t energy k)
def s50_at0 (t : (Sl RangeRow)) (energy : Int) (iv0 : Int) (out_0v0 : Int) : Span := s50_lp0 t energy Fuel iv0 out_0v0
def p50_at0 (t : (Sl RangeRow)) (energy : Int) (iv0 : Int) (out_0v0 : Int) : Bool := p50_lp0 t energy Fuel iv0 out_0v0
theorem q50_at0 (K : List PA → Prop) (t : (Sl RangeRow)) (energy : Int) (iv0 : Int) (out_0v0 : Int) (hs : p50_at0 t energy iv0 out_0v0 = true) (hk : K (e50 (s50_at0 t energy iv0 out_0v0))) : f50_at0 K t energy iv0 out_0v0 := by
  refine f50_loop0 K t energy iv0 out_0v0 ?_
  intro X0 hstep
  have key : ∀ (k : Nat) (iv0 : Int) (out_0v0 : Int), p50_lp0 t energy k iv0 out_0v0 = true → K (e50 (s50_lp0 t energy k iv0 out_0v0)) → X0 (f50_g0 t energy iv0 out_0v0) := by
    intro k
    induction k with
    | zero => intro iv0 out_0v0 hs; exact absurd hs Bool.false_ne_true
    | succ k ih =>
      intro iv0 out_0v0 hs hk
      refine hstep iv0 out_0v0 ?_
      have hs : p50_st0 t energy (p50_lp0 t energy k) iv0 out_0v0 = true := hs
      have hk : K (e50 (s50_st0 t energy (s50_lp0 t energy k) iv0 out_0v0)) := hk
      unfold p50_st0 at hs
      unfold s50_st0 at hk
      generalize s50_lp0 t energy k = S0 at hk ih
      generalize p50_lp0 t energy k = P0 at hs ih
      have hX0 := ih
      exact (condB_go (K := fun r => K (e50 r))
       (fun hs hk => (andK hs fun hc hs => ⟨hc, (condB_go (K := fun r => K (e50 r))
        (fun hs hk => (andK hs fun hc hs => ⟨hc, (hX0 (w64 (iv0 + (1:Int))) ((t.get iv0.toNat).Range.Low) hs hk)⟩))
        (fun hs hk => (hX0 (w64 (iv0 + (1:Int))) out_0v0 hs hk)) hs hk)⟩))
       (fun hs hk => (q50_at1 K t energy out_0v0 hs hk)) hs hk)
  exact key _ iv0 out_0v0 hs hk
def s50 (t : (Sl RangeRow)) (energy : Int) : Span :=
  (s50_at0 t energy (0:Int) (0:Int))
def p50 (t : (Sl RangeRow)) (energy : Int) : Bool :=
  (p50_at0 t energy (0:Int) (0:Int))
theorem q50 (t : (Sl RangeRow)) (energy : Int) (K : List PA → Prop) (hs : p50 t energy = true) (hk : K (e50 (s50 t energy))) : vcFun Try.prog G50 ann50 50 [.one (.sl t.len 3 (fun i => enc_42 (t.get i))), .one (.int .i64 energy)] K := by
  refine ofEq (f50_top t energy K) ?_
  unfold p50 at hs
  unfold s50 at hk
  exact (q50_at0 K t energy (0:Int) (0:Int) hs hk)
def ctr50 : List PA → COut
  | [.one (.sl a0_n a0_s a0_g), .one (.int .i64 a1)] => .det (IsE enc_42 3 a0_s a0_g ∧ p50 (⟨a0_n, decF_42 a0_g⟩ : (Sl RangeRow)) a1 = true) [.agg [.int .i64 ((s50 (⟨a0_n, decF_42 a0_g⟩ : (Sl RangeRow)) a1).Low), .int .i64 ((s50 (⟨a0_n, decF_42 a0_g⟩ : (Sl RangeRow)) a1).High)]]
  | _ => .no
theorem call50 : Callable Try.prog 50 := ⟨_, rfl, rfl, by kernel_rfl⟩
theorem ok50 : Ok Try.prog 50 ctr50 := ok_tab okT50 call50 fun args K h => by
  unfold ctr50 at h
  split at h
  · rename_i a0_n a0_s a0_g a1
    obtain ⟨⟨⟨rfl, a0_f, rfl⟩, hs⟩, hk⟩ := h
    try rw [decF_enc_42 a0_f] at hs
    try rw [decF_enc_42 a0_f] at hk
    exact ⟨(fun _ _ => []), (fun _ => false), ann50, q50 (⟨a0_n, a0_f⟩ : (Sl RangeRow)) a1 K hs hk⟩
  · exact h.elim
end Go.Proofs
