/- Part 5 of what the proof rests on: a machine that runs functions of the program on pure values, proved sound; the functions that the law reaches, and what they compute. -/
import Derived.Test.YtpjoicpmbdaniaaQ4
set_option linter.all false
namespace Go.Proofs
open Go Go.Pm
set_option maxRecDepth 100000
set_option linter.unusedVariables false
attribute [local irreducible] Go.Pm.vcFun Go.Pm.vc Go.Pm.vcIter
-- 61 overburdenlaw05.Table
abbrev T61 : Tabs := Tabs.nil
theorem okT61 : TabsOk Try.prog T61 := TabsOk.nil
abbrev G61 : Ctrs := csm T61 (fun _ _ => []) (fun _ => false)
def ann61 : Ann := ⟨8, [(0, ⟨[], [], [], [], []⟩), (1, ⟨[0], [7], [], [], []⟩)],
  [],
  [],
  [], []⟩
theorem f61_top (K : List PA → Prop) :
  vcFun Try.prog G61 ann61 61 [] K =
  (K [.one (.sl 3 3 (getL [(enc_42 (⟨(10:Int), (⟨(20:Int), (30:Int)⟩ : Span)⟩ : RangeRow)), (enc_42 (⟨(40:Int), (⟨(90:Int), (120:Int)⟩ : Span)⟩ : RangeRow)), (enc_42 (⟨(100:Int), (⟨(250:Int), (300:Int)⟩ : Span)⟩ : RangeRow))]))]) := by kernel_rfl
abbrev R61 := (Sl RangeRow)
abbrev e61 (r : (Sl RangeRow)) : List PA := [.one (.sl r.len 3 (fun i => enc_42 (r.get i)))]
def s61 : (Sl RangeRow) :=
  (⟨3, (getT (⟨(10:Int), (⟨(20:Int), (30:Int)⟩ : Span)⟩ : RangeRow) [(⟨(10:Int), (⟨(20:Int), (30:Int)⟩ : Span)⟩ : RangeRow), (⟨(40:Int), (⟨(90:Int), (120:Int)⟩ : Span)⟩ : RangeRow), (⟨(100:Int), (⟨(250:Int), (300:Int)⟩ : Span)⟩ : RangeRow)])⟩ : (Sl RangeRow))
theorem q61 (K : List PA → Prop) (hk : K (e61 (s61))) : vcFun Try.prog G61 ann61 61 [] K := by
  refine ofEq (f61_top K) ?_
  unfold s61 at hk
  exact (Eq.mpr (congrArg K (congrArg (fun (g_ : Nat → List PV) => ([.one (.sl 3 3 g_)] : List PA)) (getL_enc (enc := enc_42) (x := (⟨(10:Int), (⟨(20:Int), (30:Int)⟩ : Span)⟩ : RangeRow)) (y := (⟨(40:Int), (⟨(90:Int), (120:Int)⟩ : Span)⟩ : RangeRow)) (r := [(⟨(100:Int), (⟨(250:Int), (300:Int)⟩ : Span)⟩ : RangeRow)])))) hk)
def ctr61 : List PA → COut
  | [] => .tot [.one (.sl ((s61).len) 3 (fun i => enc_42 ((s61).get i)))]
  | _ => .no
theorem call61 : Callable Try.prog 61 := ⟨_, rfl, rfl, by kernel_rfl⟩
theorem ok61 : Ok Try.prog 61 ctr61 := ok_tab okT61 call61 fun args K h => by
  unfold ctr61 at h
  split at h
  · have hk := h
    exact ⟨(fun _ _ => []), (fun _ => false), ann61, q61 K hk⟩
  · exact h.elim
-- 18 overburdenlaw05.known
abbrev T18 : Tabs := (((((((((Tabs.nil.addF 19 ctr19).addF 20 ctr20).addF 23 ctr23).addF 25 ctr25).addF 26 ctr26).addF 33 ctr33).addF 34 ctr34).addF 60 ctr60).addF 61 ctr61)
theorem okT18 : TabsOk Try.prog T18 := (((((((((TabsOk.nil.addF ok19).addF ok20).addF ok23).addF ok25).addF ok26).addF ok33).addF ok34).addF ok60).addF ok61)
abbrev G18 : Ctrs := csm T18 (fun _ _ => []) (fun _ => false)
def ann18 : Ann := ⟨142, [(0, ⟨[], [], [], [], []⟩), (1, ⟨[1, 2], [1], [], [], []⟩), (2, ⟨[1, 2, 3, 4], [1, 3], [], [], []⟩), (3, ⟨[1, 2, 3, 4, 5, 6], [1, 3, 5], [], [], []⟩), (4, ⟨[1, 2, 3, 4, 5, 6, 7, 8], [1, 3, 5, 7], [], [], []⟩), (5, ⟨[1, 2, 3, 4, 5, 6, 7, 8, 9, 10], [1, 3, 5, 7, 9], [], [], []⟩), (6, ⟨[1, 2, 3, 4, 5, 6, 7, 8, 9, 10, 11, 12], [1, 3, 5, 7, 9], [], [], []⟩), (7, ⟨[3, 4, 5, 6, 7, 8, 9, 10, 11, 12, 13, 14], [3, 5, 7, 9, 13], [], [], []⟩), (8, ⟨[3, 5, 7, 9, 11, 13, 104], [3, 5, 7, 9, 13], [], [], []⟩), (9, ⟨[0], [], [], [], []⟩), (10, ⟨[0], [], [], [], []⟩)],
  [],
  [(2, ⟨[1, 2], [1], [], [], []⟩), (3, ⟨[1, 2, 3, 4], [1, 3], [], [], []⟩), (4, ⟨[1, 2, 3, 4, 5, 6], [1, 3, 5], [], [], []⟩), (5, ⟨[1, 2, 3, 4, 5, 6, 7, 8], [1, 3, 5, 7], [], [], []⟩), (6, ⟨[1, 2, 3, 4, 5, 6, 7, 8, 9, 10], [1, 3, 5, 7, 9], [], [], []⟩), (7, ⟨[1, 2, 3, 4, 5, 6, 7, 8, 9, 10, 11, 12], [1, 3, 5, 7, 9], [], [], []⟩), (8, ⟨[3, 4, 5, 6, 7, 8, 9, 10, 11, 12, 13, 14], [3, 5, 7, 9, 13], [], [], []⟩), (10, ⟨[3, 5, 7, 9, 11, 13], [3, 5, 7, 9, 13], [], [], []⟩)],
  [], []⟩
def f18_g0 (tv0_n : Nat) (tv0_g : Nat → List PV) (s_1v0_n : Nat) (s_1v0_g : Nat → List PV) : St := ⟨[(1, .one (.c (.ptr 1 0))), (2, .one (.c (.p (.sl tv0_n 3 tv0_g))))], [(1, .box 26 [.p (.int .i64 s60.Parts), .p (.sl s_1v0_n 1 s_1v0_g), .p (.int .i64 s60.Beta.Low), .p (.int .i64 s60.Beta.High), .p (.int .i64 s60.Alpha.Low), .p (.int .i64 s60.Alpha.High)])], []⟩
def f18_at0 (K : List PA → Prop) (tv0_n : Nat) (tv0_g : Nat → List PV) (s_1v0_n : Nat) (s_1v0_g : Nat → List PV) : Prop := vc Try.prog G18 ann18 (cdF Try.f18 [1, 1]) (bodyK Try.prog Try.f18 K) (f18_g0 tv0_n tv0_g s_1v0_n s_1v0_g)
def f18_g1 (tv0 : (Sl RangeRow)) (ev1 : Int) (s_1v1_n : Nat) (s_1v1_g : Nat → List PV) (a_0v1 : Int) (a_1v1 : Int) : St := ⟨[(1, .one (.c (.ptr 1 0))), (2, .one (.c (.p (.sl tv0.len 3 (fun i => enc_42 (tv0.get i)))))), (3, .one (.c (.ptr 3 0))), (4, .one (.c (.p (.int .i64 ev1))))], [(1, .box 26 [.p (.int .i64 s60.Parts), .p (.sl s_1v1_n 1 s_1v1_g), .p (.int .i64 s60.Beta.Low), .p (.int .i64 s60.Beta.High), .p (.int .i64 s60.Alpha.Low), .p (.int .i64 s60.Alpha.High)]), (3, .box 24 [.p (.int .i64 a_0v1), .p (.int .i64 a_1v1)])], []⟩
def f18_at1 (K : List PA → Prop) (tv0 : (Sl RangeRow)) (ev1 : Int) (s_1v1_n : Nat) (s_1v1_g : Nat → List PV) (a_0v1 : Int) (a_1v1 : Int) : Prop := vc Try.prog G18 ann18 (cdF Try.f18 [1, 1, 1]) (bodyK Try.prog Try.f18 K) (f18_g1 tv0 ev1 s_1v1_n s_1v1_g a_0v1 a_1v1)
def f18_g2 (tv0 : (Sl RangeRow)) (ev1 : Int) (a_0v1 : Int) (a_1v1 : Int) (fv2 : Int) (s_1v2_n : Nat) (s_1v2_g : Nat → List PV) (b_0v2 : Int) (b_1v2 : Int) : St := ⟨[(1, .one (.c (.ptr 1 0))), (2, .one (.c (.p (.sl tv0.len 3 (fun i => enc_42 (tv0.get i)))))), (3, .one (.c (.ptr 3 0))), (4, .one (.c (.p (.int .i64 ev1)))), (5, .one (.c (.ptr 5 0))), (6, .one (.c (.p (.int .i64 fv2))))], [(1, .box 26 [.p (.int .i64 s60.Parts), .p (.sl s_1v2_n 1 s_1v2_g), .p (.int .i64 s60.Beta.Low), .p (.int .i64 s60.Beta.High), .p (.int .i64 s60.Alpha.Low), .p (.int .i64 s60.Alpha.High)]), (3, .box 24 [.p (.int .i64 a_0v1), .p (.int .i64 a_1v1)]), (5, .box 24 [.p (.int .i64 b_0v2), .p (.int .i64 b_1v2)])], []⟩
def f18_at2 (K : List PA → Prop) (tv0 : (Sl RangeRow)) (ev1 : Int) (a_0v1 : Int) (a_1v1 : Int) (fv2 : Int) (s_1v2_n : Nat) (s_1v2_g : Nat → List PV) (b_0v2 : Int) (b_1v2 : Int) : Prop := vc Try.prog G18 ann18 (cdF Try.f18 [1, 1, 1, 1]) (bodyK Try.prog Try.f18 K) (f18_g2 tv0 ev1 a_0v1 a_1v1 fv2 s_1v2_n s_1v2_g b_0v2 b_1v2)
def f18_g3 (tv0 : (Sl RangeRow)) (ev1 : Int) (a_0v1 : Int) (a_1v1 : Int) (fv2 : Int) (b_0v2 : Int) (b_1v2 : Int) (gv3 : Int) (s_1v3_n : Nat) (s_1v3_g : Nat → List PV) (c_0v3 : Int) (c_1v3 : Int) : St := ⟨[(1, .one (.c (.ptr 1 0))), (2, .one (.c (.p (.sl tv0.len 3 (fun i => enc_42 (tv0.get i)))))), (3, .one (.c (.ptr 3 0))), (4, .one (.c (.p (.int .i64 ev1)))), (5, .one (.c (.ptr 5 0))), (6, .one (.c (.p (.int .i64 fv2)))), (7, .one (.c (.ptr 7 0))), (8, .one (.c (.p (.int .i64 gv3))))], [(1, .box 26 [.p (.int .i64 s60.Parts), .p (.sl s_1v3_n 1 s_1v3_g), .p (.int .i64 s60.Beta.Low), .p (.int .i64 s60.Beta.High), .p (.int .i64 s60.Alpha.Low), .p (.int .i64 s60.Alpha.High)]), (3, .box 24 [.p (.int .i64 a_0v1), .p (.int .i64 a_1v1)]), (5, .box 24 [.p (.int .i64 b_0v2), .p (.int .i64 b_1v2)]), (7, .box 24 [.p (.int .i64 c_0v3), .p (.int .i64 c_1v3)])], []⟩
def f18_at3 (K : List PA → Prop) (tv0 : (Sl RangeRow)) (ev1 : Int) (a_0v1 : Int) (a_1v1 : Int) (fv2 : Int) (b_0v2 : Int) (b_1v2 : Int) (gv3 : Int) (s_1v3_n : Nat) (s_1v3_g : Nat → List PV) (c_0v3 : Int) (c_1v3 : Int) : Prop := vc Try.prog G18 ann18 (cdF Try.f18 [1, 1, 1, 1, 1]) (bodyK Try.prog Try.f18 K) (f18_g3 tv0 ev1 a_0v1 a_1v1 fv2 b_0v2 b_1v2 gv3 s_1v3_n s_1v3_g c_0v3 c_1v3)
def f18_g4 (tv0 : (Sl RangeRow)) (ev1 : Int) (a_0v1 : Int) (a_1v1 : Int) (fv2 : Int) (b_0v2 : Int) (b_1v2 : Int) (gv3 : Int) (c_0v3 : Int) (c_1v3 : Int) (hv4 : Int) (s_1v4_n : Nat) (s_1v4_g : Nat → List PV) (d_0v4 : Int) (d_1v4 : Int) : St := ⟨[(1, .one (.c (.ptr 1 0))), (2, .one (.c (.p (.sl tv0.len 3 (fun i => enc_42 (tv0.get i)))))), (3, .one (.c (.ptr 3 0))), (4, .one (.c (.p (.int .i64 ev1)))), (5, .one (.c (.ptr 5 0))), (6, .one (.c (.p (.int .i64 fv2)))), (7, .one (.c (.ptr 7 0))), (8, .one (.c (.p (.int .i64 gv3)))), (9, .one (.c (.ptr 9 0))), (10, .one (.c (.p (.int .i64 hv4))))], [(1, .box 26 [.p (.int .i64 s60.Parts), .p (.sl s_1v4_n 1 s_1v4_g), .p (.int .i64 s60.Beta.Low), .p (.int .i64 s60.Beta.High), .p (.int .i64 s60.Alpha.Low), .p (.int .i64 s60.Alpha.High)]), (3, .box 24 [.p (.int .i64 a_0v1), .p (.int .i64 a_1v1)]), (5, .box 24 [.p (.int .i64 b_0v2), .p (.int .i64 b_1v2)]), (7, .box 24 [.p (.int .i64 c_0v3), .p (.int .i64 c_1v3)]), (9, .box 24 [.p (.int .i64 d_0v4), .p (.int .i64 d_1v4)])], []⟩
def f18_at4 (K : List PA → Prop) (tv0 : (Sl RangeRow)) (ev1 : Int) (a_0v1 : Int) (a_1v1 : Int) (fv2 : Int) (b_0v2 : Int) (b_1v2 : Int) (gv3 : Int) (c_0v3 : Int) (c_1v3 : Int) (hv4 : Int) (s_1v4_n : Nat) (s_1v4_g : Nat → List PV) (d_0v4 : Int) (d_1v4 : Int) : Prop := vc Try.prog G18 ann18 (cdF Try.f18 [1, 1, 1, 1, 1, 1]) (bodyK Try.prog Try.f18 K) (f18_g4 tv0 ev1 a_0v1 a_1v1 fv2 b_0v2 b_1v2 gv3 c_0v3 c_1v3 hv4 s_1v4_n s_1v4_g d_0v4 d_1v4)
def f18_g5 (tv0 : (Sl RangeRow)) (ev1 : Int) (a_0v1 : Int) (a_1v1 : Int) (fv2 : Int) (b_0v2 : Int) (b_1v2 : Int) (gv3 : Int) (c_0v3 : Int) (c_1v3 : Int) (hv4 : Int) (d_0v4 : Int) (d_1v4 : Int) (lv5_n : Nat) (lv5_g : Nat → List PV) (iv5 : Int) (s_1v5_n : Nat) (s_1v5_g : Nat → List PV) : St := ⟨[(1, .one (.c (.ptr 1 0))), (2, .one (.c (.p (.sl tv0.len 3 (fun i => enc_42 (tv0.get i)))))), (3, .one (.c (.ptr 3 0))), (4, .one (.c (.p (.int .i64 ev1)))), (5, .one (.c (.ptr 5 0))), (6, .one (.c (.p (.int .i64 fv2)))), (7, .one (.c (.ptr 7 0))), (8, .one (.c (.p (.int .i64 gv3)))), (9, .one (.c (.ptr 9 0))), (10, .one (.c (.p (.int .i64 hv4)))), (11, .one (.c (.p (.sl lv5_n 3 lv5_g)))), (12, .one (.c (.p (.int .i64 iv5))))], [(1, .box 26 [.p (.int .i64 s60.Parts), .p (.sl s_1v5_n 1 s_1v5_g), .p (.int .i64 s60.Beta.Low), .p (.int .i64 s60.Beta.High), .p (.int .i64 s60.Alpha.Low), .p (.int .i64 s60.Alpha.High)]), (3, .box 24 [.p (.int .i64 a_0v1), .p (.int .i64 a_1v1)]), (5, .box 24 [.p (.int .i64 b_0v2), .p (.int .i64 b_1v2)]), (7, .box 24 [.p (.int .i64 c_0v3), .p (.int .i64 c_1v3)]), (9, .box 24 [.p (.int .i64 d_0v4), .p (.int .i64 d_1v4)])], []⟩
def f18_at5 (K : List PA → Prop) (tv0 : (Sl RangeRow)) (ev1 : Int) (a_0v1 : Int) (a_1v1 : Int) (fv2 : Int) (b_0v2 : Int) (b_1v2 : Int) (gv3 : Int) (c_0v3 : Int) (c_1v3 : Int) (hv4 : Int) (d_0v4 : Int) (d_1v4 : Int) (lv5_n : Nat) (lv5_g : Nat → List PV) (iv5 : Int) (s_1v5_n : Nat) (s_1v5_g : Nat → List PV) : Prop := vc Try.prog G18 ann18 (cdF Try.f18 [1, 1, 1, 1, 1, 1, 1]) (bodyK Try.prog Try.f18 K) (f18_g5 tv0 ev1 a_0v1 a_1v1 fv2 b_0v2 b_1v2 gv3 c_0v3 c_1v3 hv4 d_0v4 d_1v4 lv5_n lv5_g iv5 s_1v5_n s_1v5_g)
def f18_g6 (ev1 : Int) (a_0v1 : Int) (a_1v1 : Int) (fv2 : Int) (b_0v2 : Int) (b_1v2 : Int) (gv3 : Int) (c_0v3 : Int) (c_1v3 : Int) (hv4 : Int) (d_0v4 : Int) (d_1v4 : Int) (lv5 : (Sl FluxStep)) (iv5 : Int) (jv6 : Int) (x_0v6 : Int) (x_1v6_n : Nat) (x_1v6_g : Nat → List PV) (x_2v6 : Int) (x_3v6 : Int) (x_4v6 : Int) (x_5v6 : Int) : St := ⟨[(3, .one (.c (.ptr 3 0))), (4, .one (.c (.p (.int .i64 ev1)))), (5, .one (.c (.ptr 5 0))), (6, .one (.c (.p (.int .i64 fv2)))), (7, .one (.c (.ptr 7 0))), (8, .one (.c (.p (.int .i64 gv3)))), (9, .one (.c (.ptr 9 0))), (10, .one (.c (.p (.int .i64 hv4)))), (11, .one (.c (.p (.sl lv5.len 3 (fun i => enc_69 (lv5.get i)))))), (12, .one (.c (.p (.int .i64 iv5)))), (13, .one (.c (.ptr 13 0))), (14, .one (.c (.p (.int .i64 jv6))))], [(3, .box 24 [.p (.int .i64 a_0v1), .p (.int .i64 a_1v1)]), (5, .box 24 [.p (.int .i64 b_0v2), .p (.int .i64 b_1v2)]), (7, .box 24 [.p (.int .i64 c_0v3), .p (.int .i64 c_1v3)]), (9, .box 24 [.p (.int .i64 d_0v4), .p (.int .i64 d_1v4)]), (13, .box 26 [.p (.int .i64 x_0v6), .p (.sl x_1v6_n 1 x_1v6_g), .p (.int .i64 x_2v6), .p (.int .i64 x_3v6), .p (.int .i64 x_4v6), .p (.int .i64 x_5v6)])], []⟩
def f18_at6 (K : List PA → Prop) (ev1 : Int) (a_0v1 : Int) (a_1v1 : Int) (fv2 : Int) (b_0v2 : Int) (b_1v2 : Int) (gv3 : Int) (c_0v3 : Int) (c_1v3 : Int) (hv4 : Int) (d_0v4 : Int) (d_1v4 : Int) (lv5 : (Sl FluxStep)) (iv5 : Int) (jv6 : Int) (x_0v6 : Int) (x_1v6_n : Nat) (x_1v6_g : Nat → List PV) (x_2v6 : Int) (x_3v6 : Int) (x_4v6 : Int) (x_5v6 : Int) : Prop := vc Try.prog G18 ann18 (cdF Try.f18 [1, 1, 1, 1, 1, 1, 1, 1]) (bodyK Try.prog Try.f18 K) (f18_g6 ev1 a_0v1 a_1v1 fv2 b_0v2 b_1v2 gv3 c_0v3 c_1v3 hv4 d_0v4 d_1v4 lv5 iv5 jv6 x_0v6 x_1v6_n x_1v6_g x_2v6 x_3v6 x_4v6 x_5v6)
def f18_g7 (a_0v1 : Int) (a_1v1 : Int) (b_0v2 : Int) (b_1v2 : Int) (c_0v3 : Int) (c_1v3 : Int) (d_0v4 : Int) (d_1v4 : Int) (lv5 : (Sl FluxStep)) (x_0v6 : Int) (x_1v6 : (Sl (Sl FluxRow))) (x_2v6 : Int) (x_3v6 : Int) (x_4v6 : Int) (x_5v6 : Int) : St := ⟨[(3, .one (.c (.ptr 3 0))), (5, .one (.c (.ptr 5 0))), (7, .one (.c (.ptr 7 0))), (9, .one (.c (.ptr 9 0))), (11, .one (.c (.p (.sl lv5.len 3 (fun i => enc_69 (lv5.get i)))))), (13, .one (.c (.ptr 13 0)))], [(3, .box 24 [.p (.int .i64 a_0v1), .p (.int .i64 a_1v1)]), (5, .box 24 [.p (.int .i64 b_0v2), .p (.int .i64 b_1v2)]), (7, .box 24 [.p (.int .i64 c_0v3), .p (.int .i64 c_1v3)]), (9, .box 24 [.p (.int .i64 d_0v4), .p (.int .i64 d_1v4)]), (13, .box 26 [.p (.int .i64 x_0v6), .p (.sl x_1v6.len 1 (fun i => enc_32 (x_1v6.get i))), .p (.int .i64 x_2v6), .p (.int .i64 x_3v6), .p (.int .i64 x_4v6), .p (.int .i64 x_5v6)])], []⟩
def f18_at7 (K : List PA → Prop) (a_0v1 : Int) (a_1v1 : Int) (b_0v2 : Int) (b_1v2 : Int) (c_0v3 : Int) (c_1v3 : Int) (d_0v4 : Int) (d_1v4 : Int) (lv5 : (Sl FluxStep)) (x_0v6 : Int) (x_1v6 : (Sl (Sl FluxRow))) (x_2v6 : Int) (x_3v6 : Int) (x_4v6 : Int) (x_5v6 : Int) : Prop := vc Try.prog G18 ann18 (cdF Try.f18 [1, 1, 1, 1, 1, 1, 1, 1, 1]) (bodyK Try.prog Try.f18 K) (f18_g7 a_0v1 a_1v1 b_0v2 b_1v2 c_0v3 c_1v3 d_0v4 d_1v4 lv5 x_0v6 x_1v6 x_2v6 x_3v6 x_4v6 x_5v6)
theorem f18_top (K : List PA → Prop) :
  vcFun Try.prog G18 ann18 18 [] K =
  (f18_at0 K s61.len (fun i => enc_42 (s61.get i)) s60.Bins.len (fun i => enc_32 (s60.Bins.get i))) := by kernel_rfl
theorem f18_eq0 (K : List PA → Prop) (tv0 : (Sl RangeRow)) (s_1v0 : (Sl (Sl FluxRow))) :
  f18_at0 K tv0.len (fun i => enc_42 (tv0.get i)) s_1v0.len (fun i => enc_32 (s_1v0.get i)) =
  ((IsE enc_42 3 3 (fun i => enc_42 (tv0.get i)) ∧ (p19 tv0 (100:Int) = true)) ∧
  (f18_at1 K tv0 ((s19 tv0 (100:Int)).2) s_1v0.len (fun i => enc_32 (s_1v0.get i)) (((s19 tv0 (100:Int)).1).Low) (((s19 tv0 (100:Int)).1).High))) := by kernel_rfl
theorem f18_eq1 (K : List PA → Prop) (tv0 : (Sl RangeRow)) (ev1 : Int) (s_1v1 : (Sl (Sl FluxRow))) (a_0v1 : Int) (a_1v1 : Int) :
  f18_at1 K tv0 ev1 s_1v1.len (fun i => enc_32 (s_1v1.get i)) a_0v1 a_1v1 =
  ((IsE enc_32 1 1 (fun i => enc_32 (s_1v1.get i)) ∧ IsE enc_42 3 3 (fun i => enc_42 (tv0.get i)) ∧ (p20 (⟨s60.Parts, s_1v1, s60.Beta, s60.Alpha⟩ : Sky) tv0 (0:Int) (280:Int) = true)) ∧
  (f18_at2 K tv0 ev1 a_0v1 a_1v1 ((s20 (⟨s60.Parts, s_1v1, s60.Beta, s60.Alpha⟩ : Sky) tv0 (0:Int) (280:Int)).2) s_1v1.len (fun i => enc_32 (s_1v1.get i)) (((s20 (⟨s60.Parts, s_1v1, s60.Beta, s60.Alpha⟩ : Sky) tv0 (0:Int) (280:Int)).1).Low) (((s20 (⟨s60.Parts, s_1v1, s60.Beta, s60.Alpha⟩ : Sky) tv0 (0:Int) (280:Int)).1).High))) := by kernel_rfl
theorem f18_eq2 (K : List PA → Prop) (tv0 : (Sl RangeRow)) (ev1 : Int) (a_0v1 : Int) (a_1v1 : Int) (fv2 : Int) (s_1v2 : (Sl (Sl FluxRow))) (b_0v2 : Int) (b_1v2 : Int) :
  f18_at2 K tv0 ev1 a_0v1 a_1v1 fv2 s_1v2.len (fun i => enc_32 (s_1v2.get i)) b_0v2 b_1v2 =
  ((IsE enc_32 1 1 (fun i => enc_32 (s_1v2.get i)) ∧ IsE enc_42 3 3 (fun i => enc_42 (tv0.get i)) ∧ IsE enc_56 5 5 (getL [(enc_56 (s34 (3:Int))), (enc_56 (⟨(1:Int), (⟨(⟨(-10:Int), (20:Int)⟩ : Span), (⟨(0:Int), (5:Int)⟩ : Span)⟩ : Weather)⟩ : Spell))]) ∧ (p23 (⟨s60.Parts, s_1v2, s60.Beta, s60.Alpha⟩ : Sky) tv0 (0:Int) (100:Int) (⟨2, decF_56 (getL [(enc_56 (s34 (3:Int))), (enc_56 (⟨(1:Int), (⟨(⟨(-10:Int), (20:Int)⟩ : Span), (⟨(0:Int), (5:Int)⟩ : Span)⟩ : Weather)⟩ : Spell))])⟩ : (Sl Spell)) = true)) ∧
  (f18_at3 K tv0 ev1 a_0v1 a_1v1 fv2 b_0v2 b_1v2 ((s23 (⟨s60.Parts, s_1v2, s60.Beta, s60.Alpha⟩ : Sky) tv0 (0:Int) (100:Int) (⟨2, decF_56 (getL [(enc_56 (s34 (3:Int))), (enc_56 (⟨(1:Int), (⟨(⟨(-10:Int), (20:Int)⟩ : Span), (⟨(0:Int), (5:Int)⟩ : Span)⟩ : Weather)⟩ : Spell))])⟩ : (Sl Spell))).2) s_1v2.len (fun i => enc_32 (s_1v2.get i)) (((s23 (⟨s60.Parts, s_1v2, s60.Beta, s60.Alpha⟩ : Sky) tv0 (0:Int) (100:Int) (⟨2, decF_56 (getL [(enc_56 (s34 (3:Int))), (enc_56 (⟨(1:Int), (⟨(⟨(-10:Int), (20:Int)⟩ : Span), (⟨(0:Int), (5:Int)⟩ : Span)⟩ : Weather)⟩ : Spell))])⟩ : (Sl Spell))).1).Low) (((s23 (⟨s60.Parts, s_1v2, s60.Beta, s60.Alpha⟩ : Sky) tv0 (0:Int) (100:Int) (⟨2, decF_56 (getL [(enc_56 (s34 (3:Int))), (enc_56 (⟨(1:Int), (⟨(⟨(-10:Int), (20:Int)⟩ : Span), (⟨(0:Int), (5:Int)⟩ : Span)⟩ : Weather)⟩ : Spell))])⟩ : (Sl Spell))).1).High))) := by kernel_rfl
theorem f18_eq3 (K : List PA → Prop) (tv0 : (Sl RangeRow)) (ev1 : Int) (a_0v1 : Int) (a_1v1 : Int) (fv2 : Int) (b_0v2 : Int) (b_1v2 : Int) (gv3 : Int) (s_1v3 : (Sl (Sl FluxRow))) (c_0v3 : Int) (c_1v3 : Int) :
  f18_at3 K tv0 ev1 a_0v1 a_1v1 fv2 b_0v2 b_1v2 gv3 s_1v3.len (fun i => enc_32 (s_1v3.get i)) c_0v3 c_1v3 =
  ((IsE enc_32 1 1 (fun i => enc_32 (s_1v3.get i)) ∧ IsE enc_42 3 3 (fun i => enc_42 (tv0.get i)) ∧ IsE enc_56 5 5 (fun _ => (enc_56 (s34 (1:Int)))) ∧ (p25 (⟨s60.Parts, s_1v3, s60.Beta, s60.Alpha⟩ : Sky) tv0 (0:Int) (⟨(261:Int), (270:Int)⟩ : Span) (⟨1, fun _ => (s34 (1:Int))⟩ : (Sl Spell)) = true)) ∧
  (f18_at4 K tv0 ev1 a_0v1 a_1v1 fv2 b_0v2 b_1v2 gv3 c_0v3 c_1v3 ((s25 (⟨s60.Parts, s_1v3, s60.Beta, s60.Alpha⟩ : Sky) tv0 (0:Int) (⟨(261:Int), (270:Int)⟩ : Span) (⟨1, fun _ => (s34 (1:Int))⟩ : (Sl Spell))).2) s_1v3.len (fun i => enc_32 (s_1v3.get i)) (((s25 (⟨s60.Parts, s_1v3, s60.Beta, s60.Alpha⟩ : Sky) tv0 (0:Int) (⟨(261:Int), (270:Int)⟩ : Span) (⟨1, fun _ => (s34 (1:Int))⟩ : (Sl Spell))).1).Low) (((s25 (⟨s60.Parts, s_1v3, s60.Beta, s60.Alpha⟩ : Sky) tv0 (0:Int) (⟨(261:Int), (270:Int)⟩ : Span) (⟨1, fun _ => (s34 (1:Int))⟩ : (Sl Spell))).1).High))) := by kernel_rfl
theorem f18_eq4 (K : List PA → Prop) (tv0 : (Sl RangeRow)) (ev1 : Int) (a_0v1 : Int) (a_1v1 : Int) (fv2 : Int) (b_0v2 : Int) (b_1v2 : Int) (gv3 : Int) (c_0v3 : Int) (c_1v3 : Int) (hv4 : Int) (s_1v4 : (Sl (Sl FluxRow))) (d_0v4 : Int) (d_1v4 : Int) :
  f18_at4 K tv0 ev1 a_0v1 a_1v1 fv2 b_0v2 b_1v2 gv3 c_0v3 c_1v3 hv4 s_1v4.len (fun i => enc_32 (s_1v4.get i)) d_0v4 d_1v4 =
  ((IsE enc_32 1 1 (fun i => enc_32 (s_1v4.get i)) ∧ IsE enc_42 3 3 (fun i => enc_42 (tv0.get i)) ∧ IsE enc_56 5 5 (fun _ => (enc_56 (s34 (1:Int)))) ∧ (p26 (⟨s60.Parts, s_1v4, s60.Beta, s60.Alpha⟩ : Sky) tv0 (0:Int) (⟨1, fun _ => (s34 (1:Int))⟩ : (Sl Spell)) = true)) ∧
  (f18_at5 K tv0 ev1 a_0v1 a_1v1 fv2 b_0v2 b_1v2 gv3 c_0v3 c_1v3 hv4 d_0v4 d_1v4 (((s26 (⟨s60.Parts, s_1v4, s60.Beta, s60.Alpha⟩ : Sky) tv0 (0:Int) (⟨1, fun _ => (s34 (1:Int))⟩ : (Sl Spell))).1).len) (fun i => enc_69 (((s26 (⟨s60.Parts, s_1v4, s60.Beta, s60.Alpha⟩ : Sky) tv0 (0:Int) (⟨1, fun _ => (s34 (1:Int))⟩ : (Sl Spell))).1).get i)) ((s26 (⟨s60.Parts, s_1v4, s60.Beta, s60.Alpha⟩ : Sky) tv0 (0:Int) (⟨1, fun _ => (s34 (1:Int))⟩ : (Sl Spell))).2) s_1v4.len (fun i => enc_32 (s_1v4.get i)))) := by kernel_rfl
theorem f18_eq5 (K : List PA → Prop) (tv0 : (Sl RangeRow)) (ev1 : Int) (a_0v1 : Int) (a_1v1 : Int) (fv2 : Int) (b_0v2 : Int) (b_1v2 : Int) (gv3 : Int) (c_0v3 : Int) (c_1v3 : Int) (hv4 : Int) (d_0v4 : Int) (d_1v4 : Int) (lv5 : (Sl FluxStep)) (iv5 : Int) (s_1v5 : (Sl (Sl FluxRow))) :
  f18_at5 K tv0 ev1 a_0v1 a_1v1 fv2 b_0v2 b_1v2 gv3 c_0v3 c_1v3 hv4 d_0v4 d_1v4 lv5.len (fun i => enc_69 (lv5.get i)) iv5 s_1v5.len (fun i => enc_32 (s_1v5.get i)) =
  ((IsE enc_32 1 1 (fun i => enc_32 (s_1v5.get i)) ∧ IsE enc_42 3 3 (fun i => enc_42 (tv0.get i)) ∧ (p33 (⟨s60.Parts, s_1v5, s60.Beta, s60.Alpha⟩ : Sky) tv0 (0:Int) (100:Int) (⟨(10:Int), (25:Int)⟩ : Span) = true)) ∧
  (f18_at6 K ev1 a_0v1 a_1v1 fv2 b_0v2 b_1v2 gv3 c_0v3 c_1v3 hv4 d_0v4 d_1v4 lv5 iv5 ((s33 (⟨s60.Parts, s_1v5, s60.Beta, s60.Alpha⟩ : Sky) tv0 (0:Int) (100:Int) (⟨(10:Int), (25:Int)⟩ : Span)).2) (((s33 (⟨s60.Parts, s_1v5, s60.Beta, s60.Alpha⟩ : Sky) tv0 (0:Int) (100:Int) (⟨(10:Int), (25:Int)⟩ : Span)).1).Parts) (((s33 (⟨s60.Parts, s_1v5, s60.Beta, s60.Alpha⟩ : Sky) tv0 (0:Int) (100:Int) (⟨(10:Int), (25:Int)⟩ : Span)).1).Bins.len) (fun i => enc_32 (((s33 (⟨s60.Parts, s_1v5, s60.Beta, s60.Alpha⟩ : Sky) tv0 (0:Int) (100:Int) (⟨(10:Int), (25:Int)⟩ : Span)).1).Bins.get i)) (((s33 (⟨s60.Parts, s_1v5, s60.Beta, s60.Alpha⟩ : Sky) tv0 (0:Int) (100:Int) (⟨(10:Int), (25:Int)⟩ : Span)).1).Beta.Low) (((s33 (⟨s60.Parts, s_1v5, s60.Beta, s60.Alpha⟩ : Sky) tv0 (0:Int) (100:Int) (⟨(10:Int), (25:Int)⟩ : Span)).1).Beta.High) (((s33 (⟨s60.Parts, s_1v5, s60.Beta, s60.Alpha⟩ : Sky) tv0 (0:Int) (100:Int) (⟨(10:Int), (25:Int)⟩ : Span)).1).Alpha.Low) (((s33 (⟨s60.Parts, s_1v5, s60.Beta, s60.Alpha⟩ : Sky) tv0 (0:Int) (100:Int) (⟨(10:Int), (25:Int)⟩ : Span)).1).Alpha.High))) := by kernel_rfl
theorem f18_eq6 (K : List PA → Prop) (ev1 : Int) (a_0v1 : Int) (a_1v1 : Int) (fv2 : Int) (b_0v2 : Int) (b_1v2 : Int) (gv3 : Int) (c_0v3 : Int) (c_1v3 : Int) (hv4 : Int) (d_0v4 : Int) (d_1v4 : Int) (lv5 : (Sl FluxStep)) (iv5 : Int) (jv6 : Int) (x_0v6 : Int) (x_1v6 : (Sl (Sl FluxRow))) (x_2v6 : Int) (x_3v6 : Int) (x_4v6 : Int) (x_5v6 : Int) :
  f18_at6 K ev1 a_0v1 a_1v1 fv2 b_0v2 b_1v2 gv3 c_0v3 c_1v3 hv4 d_0v4 d_1v4 lv5 iv5 jv6 x_0v6 x_1v6.len (fun i => enc_32 (x_1v6.get i)) x_2v6 x_3v6 x_4v6 x_5v6 =
  (condP (ev1 != (0:Int))
   (K [.one (.bool false)])
   (condP (fv2 != (0:Int))
    (K [.one (.bool false)])
    (condP (gv3 != (0:Int))
     (K [.one (.bool false)])
     (condP (hv4 != (0:Int))
      (K [.one (.bool false)])
      (condP (iv5 != (0:Int))
       (K [.one (.bool false)])
       (condP (jv6 != (0:Int))
        (K [.one (.bool false)])
        (condP ((lv5.len : Int) != (7:Int))
         (K [.one (.bool false)])
         (condP ((x_1v6.len : Int) != (1:Int))
          (K [.one (.bool false)])
          (((0 ≤ (0:Int) ∧ (0:Int) < (x_1v6.len : Int))) ∧
          (condP (((x_1v6.get 0).len : Int) != (4:Int))
           (K [.one (.bool false)])
           (f18_at7 K a_0v1 a_1v1 b_0v2 b_1v2 c_0v3 c_1v3 d_0v4 d_1v4 lv5 x_0v6 x_1v6 x_2v6 x_3v6 x_4v6 x_5v6))))))))))) := by kernel_rfl
theorem f18_eq7 (K : List PA → Prop) (a_0v1 : Int) (a_1v1 : Int) (b_0v2 : Int) (b_1v2 : Int) (c_0v3 : Int) (c_1v3 : Int) (d_0v4 : Int) (d_1v4 : Int) (lv5 : (Sl FluxStep)) (x_0v6 : Int) (x_1v6 : (Sl (Sl FluxRow))) (x_2v6 : Int) (x_3v6 : Int) (x_4v6 : Int) (x_5v6 : Int) :
  f18_at7 K a_0v1 a_1v1 b_0v2 b_1v2 c_0v3 c_1v3 d_0v4 d_1v4 lv5 x_0v6 x_1v6 x_2v6 x_3v6 x_4v6 x_5v6 =
  (condP (match (a_0v1 == (11:Int)) with | true => (match (a_1v1 == (100:Int)) with | true => true | false => false) | false => false)
   (condP (match (b_0v2 == (0:Int)) with | true => (match (b_1v2 == (260:Int)) with | true => true | false => false) | false => false)
    (condP (match (c_0v3 == (19:Int)) with | true => (match (c_1v3 == (505:Int)) with | true => true | false => false) | false => false)
     (condP (match (d_0v4 == (1:Int)) with | true => (match (d_1v4 == (120:Int)) with | true => true | false => false) | false => false)
      (((0 ≤ (4:Int) ∧ (4:Int) < (lv5.len : Int))) ∧
      (condP (match ((lv5.get 4).From == (121:Int)) with | true => (match (match ((lv5.get 4).Rate.Low == (20:Int)) with | true => (match ((lv5.get 4).Rate.High == (260:Int)) with | true => true | false => false) | false => false) with | true => true | false => false) | false => false)
       (((0 ≤ (0:Int) ∧ (0:Int) < (x_1v6.len : Int))) ∧
       (((0 ≤ (3:Int) ∧ (3:Int) < ((x_1v6.get 0).len : Int))) ∧
       (K [.one (.bool (match (((x_1v6.get 0).get 3).Rate.Low == (20:Int)) with | true => (match (((x_1v6.get 0).get 3).Rate.High == (25:Int)) with | true => true | false => false) | false => false))])))
       (K [.one (.bool false)])))
      (K [.one (.bool false)]))
     (K [.one (.bool false)]))
    (K [.one (.bool false)]))
   (K [.one (.bool false)])) := by kernel_rfl
abbrev R18 := Bool
abbrev e18 (r : Bool) : List PA := [.one (.bool r)]
attribute [irreducible] f18_at0 f18_at1 f18_at2 f18_at3 f18_at4 f18_at5 f18_at6 f18_at7
def s18_at7 (a_0v1 : Int) (a_1v1 : Int) (b_0v2 : Int) (b_1v2 : Int) (c_0v3 : Int) (c_1v3 : Int) (d_0v4 : Int) (d_1v4 : Int) (lv5 : (Sl FluxStep)) (x_0v6 : Int) (x_1v6 : (Sl (Sl FluxRow))) (x_2v6 : Int) (x_3v6 : Int) (x_4v6 : Int) (x_5v6 : Int) : Bool :=
  (cond (match (a_0v1 == (11:Int)) with | true => (match (a_1v1 == (100:Int)) with | true => true | false => false) | false => false)
   (cond (match (b_0v2 == (0:Int)) with | true => (match (b_1v2 == (260:Int)) with | true => true | false => false) | false => false)
    (cond (match (c_0v3 == (19:Int)) with | true => (match (c_1v3 == (505:Int)) with | true => true | false => false) | false => false)
     (cond (match (d_0v4 == (1:Int)) with | true => (match (d_1v4 == (120:Int)) with | true => true | false => false) | false => false)
      (cond (match ((lv5.get 4).From == (121:Int)) with | true => (match (match ((lv5.get 4).Rate.Low == (20:Int)) with | true => (match ((lv5.get 4).Rate.High == (260:Int)) with | true => true | false => false) | false => false) with | true => true | false => false) | false => false)
       (match (((x_1v6.get 0).get 3).Rate.Low == (20:Int)) with | true => (match (((x_1v6.get 0).get 3).Rate.High == (25:Int)) with | true => true | false => false) | false => false)
       false)
      false)
     false)
    false)
   false)
def p18_at7 (a_0v1 : Int) (a_1v1 : Int) (b_0v2 : Int) (b_1v2 : Int) (c_0v3 : Int) (c_1v3 : Int) (d_0v4 : Int) (d_1v4 : Int) (lv5 : (Sl FluxStep)) (x_0v6 : Int) (x_1v6 : (Sl (Sl FluxRow))) (x_2v6 : Int) (x_3v6 : Int) (x_4v6 : Int) (x_5v6 : Int) : Bool :=
  (cond (match (a_0v1 == (11:Int)) with | true => (match (a_1v1 == (100:Int)) with | true => true | false => false) | false => false)
   (cond (match (b_0v2 == (0:Int)) with | true => (match (b_1v2 == (260:Int)) with | true => true | false => false) | false => false)
    (cond (match (c_0v3 == (19:Int)) with | true => (match (c_1v3 == (505:Int)) with | true => true | false => false) | false => false)
     (cond (match (d_0v4 == (1:Int)) with | true => (match (d_1v4 == (120:Int)) with | true => true | false => false) | false => false)
      (decide ((0 ≤ (4:Int) ∧ (4:Int) < (lv5.len : Int))) &&
      (cond (match ((lv5.get 4).From == (121:Int)) with | true => (match (match ((lv5.get 4).Rate.Low == (20:Int)) with | true => (match ((lv5.get 4).Rate.High == (260:Int)) with | true => true | false => false) | false => false) with | true => true | false => false) | false => false)
       (decide ((0 ≤ (0:Int) ∧ (0:Int) < (x_1v6.len : Int))) &&
       (decide ((0 ≤ (3:Int) ∧ (3:Int) < ((x_1v6.get 0).len : Int))) &&
       true))
       true))
      true)
     true)
    true)
   true)
theorem q18_at7 (K : List PA → Prop) (a_0v1 : Int) (a_1v1 : Int) (b_0v2 : Int) (b_1v2 : Int) (c_0v3 : Int) (c_1v3 : Int) (d_0v4 : Int) (d_1v4 : Int) (lv5 : (Sl FluxStep)) (x_0v6 : Int) (x_1v6 : (Sl (Sl FluxRow))) (x_2v6 : Int) (x_3v6 : Int) (x_4v6 : Int) (x_5v6 : Int) (hs : p18_at7 a_0v1 a_1v1 b_0v2 b_1v2 c_0v3 c_1v3 d_0v4 d_1v4 lv5 x_0v6 x_1v6 x_2v6 x_3v6 x_4v6 x_5v6 = true) (hk : K (e18 (s18_at7 a_0v1 a_1v1 b_0v2 b_1v2 c_0v3 c_1v3 d_0v4 d_1v4 lv5 x_0v6 x_1v6 x_2v6 x_3v6 x_4v6 x_5v6))) : f18_at7 K a_0v1 a_1v1 b_0v2 b_1v2 c_0v3 c_1v3 d_0v4 d_1v4 lv5 x_0v6 x_1v6 x_2v6 x_3v6 x_4v6 x_5v6 := by
  refine ofEq (f18_eq7 K a_0v1 a_1v1 b_0v2 b_1v2 c_0v3 c_1v3 d_0v4 d_1v4 lv5 x_0v6 x_1v6 x_2v6 x_3v6 x_4v6 x_5v6) ?_
  unfold p18_at7 at hs
  unfold s18_at7 at hk
  exact (condB_go (K := fun r => K (e18 r))
   (fun hs hk => (condB_go (K := fun r => K (e18 r))
    (fun hs hk => (condB_go (K := fun r => K (e18 r))
     (fun hs hk => (condB_go (K := fun r => K (e18 r))
      (fun hs hk => (andK hs fun hc hs => ⟨hc, (condB_go (K := fun r => K (e18 r))
       (fun hs hk => (andK hs fun hc hs => ⟨hc, (andK hs fun hc hs => ⟨hc, hk⟩)⟩))
       (fun hs hk => hk) hs hk)⟩))
      (fun hs hk => hk) hs hk))
     (fun hs hk => hk) hs hk))
    (fun hs hk => hk) hs hk))
   (fun hs hk => hk) hs hk)
def s18_at6 (ev1 : Int) (a_0v1 : Int) (a_1v1 : Int) (fv2 : Int) (b_0v2 : Int) (b_1v2 : Int) (gv3 : Int) (c_0v3 : Int) (c_1v3 : Int) (hv4 : Int) (d_0v4 : Int) (d_1v4 : Int) (lv5 : (Sl FluxStep)) (iv5 : Int) (jv6 : Int) (x_0v6 : Int) (x_1v6 : (Sl (Sl FluxRow))) (x_2v6 : Int) (x_3v6 : Int) (x_4v6 : Int) (x_5v6 : Int) : Bool :=
  (cond (ev1 != (0:Int))
   false
   (cond (fv2 != (0:Int))
    false
    (cond (gv3 != (0:Int))
     false
     (cond (hv4 != (0:Int))
      false
      (cond (iv5 != (0:Int))
       false
       (cond (jv6 != (0:Int))
        false
        (cond ((lv5.len : Int) != (7:Int))
         false
         (cond ((x_1v6.len : Int) != (1:Int))
          false
          (cond (((x_1v6.get 0).len : Int) != (4:Int))
           false
           (s18_at7 a_0v1 a_1v1 b_0v2 b_1v2 c_0v3 c_1v3 d_0v4 d_1v4 lv5 x_0v6 x_1v6 x_2v6 x_3v6 x_4v6 x_5v6))))))))))
def p18_at6 (ev1 : Int) (a_0v1 : Int) (a_1v1 : Int) (fv2 : Int) (b_0v2 : Int) (b_1v2 : Int) (gv3 : Int) (c_0v3 : Int) (c_1v3 : Int) (hv4 : Int) (d_0v4 : Int) (d_1v4 : Int) (lv5 : (Sl FluxStep)) (iv5 : Int) (jv6 : Int) (x_0v6 : Int) (x_1v6 : (Sl (Sl FluxRow))) (x_2v6 : Int) (x_3v6 : Int) (x_4v6 : Int) (x_5v6 : Int) : Bool :=
  (cond (ev1 != (0:Int))
   true
   (cond (fv2 != (0:Int))
    true
    (cond (gv3 != (0:Int))
     true
     (cond (hv4 != (0:Int))
      true
      (cond (iv5 != (0:Int))
       true
       (cond (jv6 != (0:Int))
        true
        (cond ((lv5.len : Int) != (7:Int))
         true
         (cond ((x_1v6.len : Int) != (1:Int))
          true
          (decide ((0 ≤ (0:Int) ∧ (0:Int) < (x_1v6.len : Int))) &&
          (cond (((x_1v6.get 0).len : Int) != (4:Int))
           true
           (p18_at7 a_0v1 a_1v1 b_0v2 b_1v2 c_0v3 c_1v3 d_0v4 d_1v4 lv5 x_0v6 x_1v6 x_2v6 x_3v6 x_4v6 x_5v6)))))))))))
theorem q18_at6 (K : List PA → Prop) (ev1 : Int) (a_0v1 : Int) (a_1v1 : Int) (fv2 : Int) (b_0v2 : Int) (b_1v2 : Int) (gv3 : Int) (c_0v3 : Int) (c_1v3 : Int) (hv4 : Int) (d_0v4 : Int) (d_1v4 : Int) (lv5 : (Sl FluxStep)) (iv5 : Int) (jv6 : Int) (x_0v6 : Int) (x_1v6 : (Sl (Sl FluxRow))) (x_2v6 : Int) (x_3v6 : Int) (x_4v6 : Int) (x_5v6 : Int) (x_1v6_g : Nat → List PV) (x_1v6_h : x_1v6_g = fun i => enc_32 (x_1v6.get i)) (hs : p18_at6 ev1 a_0v1 a_1v1 fv2 b_0v2 b_1v2 gv3 c_0v3 c_1v3 hv4 d_0v4 d_1v4 lv5 iv5 jv6 x_0v6 x_1v6 x_2v6 x_3v6 x_4v6 x_5v6 = true) (hk : K (e18 (s18_at6 ev1 a_0v1 a_1v1 fv2 b_0v2 b_1v2 gv3 c_0v3 c_1v3 hv4 d_0v4 d_1v4 lv5 iv5 jv6 x_0v6 x_1v6 x_2v6 x_3v6 x_4v6 x_5v6))) : f18_at6 K ev1 a_0v1 a_1v1 fv2 b_0v2 b_1v2 gv3 c_0v3 c_1v3 hv4 d_0v4 d_1v4 lv5 iv5 jv6 x_0v6 x_1v6.len x_1v6_g x_2v6 x_3v6 x_4v6 x_5v6 := by
  subst x_1v6_h
  refine ofEq (f18_eq6 K ev1 a_0v1 a_1v1 fv2 b_0v2 b_1v2 gv3 c_0v3 c_1v3 hv4 d_0v4 d_1v4 lv5 iv5 jv6 x_0v6 x_1v6 x_2v6 x_3v6 x_4v6 x_5v6) ?_
  unfold p18_at6 at hs
  unfold s18_at6 at hk
  exact (condB_go (K := fun r => K (e18 r))
   (fun hs hk => hk)
   (fun hs hk => (condB_go (K := fun r => K (e18 r))
    (fun hs hk => hk)
    (fun hs hk => (condB_go (K := fun r => K (e18 r))
     (fun hs hk => hk)
     (fun hs hk => (condB_go (K := fun r => K (e18 r))
      (fun hs hk => hk)
      (fun hs hk => (condB_go (K := fun r => K (e18 r))
       (fun hs hk => hk)
       (fun hs hk => (condB_go (K := fun r => K (e18 r))
        (fun hs hk => hk)
        (fun hs hk => (condB_go (K := fun r => K (e18 r))
         (fun hs hk => hk)
         (fun hs hk => (condB_go (K := fun r => K (e18 r))
          (fun hs hk => hk)
          (fun hs hk => (andK hs fun hc hs => ⟨hc, (condB_go (K := fun r => K (e18 r))
           (fun hs hk => hk)
           (fun hs hk => (q18_at7 K a_0v1 a_1v1 b_0v2 b_1v2 c_0v3 c_1v3 d_0v4 d_1v4 lv5 x_0v6 x_1v6 x_2v6 x_3v6 x_4v6 x_5v6 hs hk)) hs hk)⟩)) hs hk)) hs hk)) hs hk)) hs hk)) hs hk)) hs hk)) hs hk)) hs hk)
def s18_at5 (tv0 : (Sl RangeRow)) (ev1 : Int) (a_0v1 : Int) (a_1v1 : Int) (fv2 : Int) (b_0v2 : Int) (b_1v2 : Int) (gv3 : Int) (c_0v3 : Int) (c_1v3 : Int) (hv4 : Int) (d_0v4 : Int) (d_1v4 : Int) (lv5 : (Sl FluxStep)) (iv5 : Int) (s_1v5 : (Sl (Sl FluxRow))) : Bool :=
  (s18_at6 ev1 a_0v1 a_1v1 fv2 b_0v2 b_1v2 gv3 c_0v3 c_1v3 hv4 d_0v4 d_1v4 lv5 iv5 ((s33 (⟨s60.Parts, s_1v5, s60.Beta, s60.Alpha⟩ : Sky) tv0 (0:Int) (100:Int) (⟨(10:Int), (25:Int)⟩ : Span)).2) (((s33 (⟨s60.Parts, s_1v5, s60.Beta, s60.Alpha⟩ : Sky) tv0 (0:Int) (100:Int) (⟨(10:Int), (25:Int)⟩ : Span)).1).Parts) (((s33 (⟨s60.Parts, s_1v5, s60.Beta, s60.Alpha⟩ : Sky) tv0 (0:Int) (100:Int) (⟨(10:Int), (25:Int)⟩ : Span)).1).Bins) (((s33 (⟨s60.Parts, s_1v5, s60.Beta, s60.Alpha⟩ : Sky) tv0 (0:Int) (100:Int) (⟨(10:Int), (25:Int)⟩ : Span)).1).Beta.Low) (((s33 (⟨s60.Parts, s_1v5, s60.Beta, s60.Alpha⟩ : Sky) tv0 (0:Int) (100:Int) (⟨(10:Int), (25:Int)⟩ : Span)).1).Beta.High) (((s33 (⟨s60.Parts, s_1v5, s60.Beta, s60.Alpha⟩ : Sky) tv0 (0:Int) (100:Int) (⟨(10:Int), (25:Int)⟩ : Span)).1).Alpha.Low) (((s33 (⟨s60.Parts, s_1v5, s60.Beta, s60.Alpha⟩ : Sky) tv0 (0:Int) (100:Int) (⟨(10:Int), (25:Int)⟩ : Span)).1).Alpha.High))
def p18_at5 (tv0 : (Sl RangeRow)) (ev1 : Int) (a_0v1 : Int) (a_1v1 : Int) (fv2 : Int) (b_0v2 : Int) (b_1v2 : Int) (gv3 : Int) (c_0v3 : Int) (c_1v3 : Int) (hv4 : Int) (d_0v4 : Int) (d_1v4 : Int) (lv5 : (Sl FluxStep)) (iv5 : Int) (s_1v5 : (Sl (Sl FluxRow))) : Bool :=
  (decide ((p33 (⟨s60.Parts, s_1v5, s60.Beta, s60.Alpha⟩ : Sky) tv0 (0:Int) (100:Int) (⟨(10:Int), (25:Int)⟩ : Span) = true)) &&
  (p18_at6 ev1 a_0v1 a_1v1 fv2 b_0v2 b_1v2 gv3 c_0v3 c_1v3 hv4 d_0v4 d_1v4 lv5 iv5 ((s33 (⟨s60.Parts, s_1v5, s60.Beta, s60.Alpha⟩ : Sky) tv0 (0:Int) (100:Int) (⟨(10:Int), (25:Int)⟩ : Span)).2) (((s33 (⟨s60.Parts, s_1v5, s60.Beta, s60.Alpha⟩ : Sky) tv0 (0:Int) (100:Int) (⟨(10:Int), (25:Int)⟩ : Span)).1).Parts) (((s33 (⟨s60.Parts, s_1v5, s60.Beta, s60.Alpha⟩ : Sky) tv0 (0:Int) (100:Int) (⟨(10:Int), (25:Int)⟩ : Span)).1).Bins) (((s33 (⟨s60.Parts, s_1v5, s60.Beta, s60.Alpha⟩ : Sky) tv0 (0:Int) (100:Int) (⟨(10:Int), (25:Int)⟩ : Span)).1).Beta.Low) (((s33 (⟨s60.Parts, s_1v5, s60.Beta, s60.Alpha⟩ : Sky) tv0 (0:Int) (100:Int) (⟨(10:Int), (25:Int)⟩ : Span)).1).Beta.High) (((s33 (⟨s60.Parts, s_1v5, s60.Beta, s60.Alpha⟩ : Sky) tv0 (0:Int) (100:Int) (⟨(10:Int), (25:Int)⟩ : Span)).1).Alpha.Low) (((s33 (⟨s60.Parts, s_1v5, s60.Beta, s60.Alpha⟩ : Sky) tv0 (0:Int) (100:Int) (⟨(10:Int), (25:Int)⟩ : Span)).1).Alpha.High)))
theorem q18_at5 (K : List PA → Prop) (tv0 : (Sl RangeRow)) (ev1 : Int) (a_0v1 : Int) (a_1v1 : Int) (fv2 : Int) (b_0v2 : Int) (b_1v2 : Int) (gv3 : Int) (c_0v3 : Int) (c_1v3 : Int) (hv4 : Int) (d_0v4 : Int) (d_1v4 : Int) (lv5 : (Sl FluxStep)) (iv5 : Int) (s_1v5 : (Sl (Sl FluxRow))) (lv5_g : Nat → List PV) (lv5_h : lv5_g = fun i => enc_69 (lv5.get i)) (s_1v5_g : Nat → List PV) (s_1v5_h : s_1v5_g = fun i => enc_32 (s_1v5.get i)) (hs : p18_at5 tv0 ev1 a_0v1 a_1v1 fv2 b_0v2 b_1v2 gv3 c_0v3 c_1v3 hv4 d_0v4 d_1v4 lv5 iv5 s_1v5 = true) (hk : K (e18 (s18_at5 tv0 ev1 a_0v1 a_1v1 fv2 b_0v2 b_1v2 gv3 c_0v3 c_1v3 hv4 d_0v4 d_1v4 lv5 iv5 s_1v5))) : f18_at5 K tv0 ev1 a_0v1 a_1v1 fv2 b_0v2 b_1v2 gv3 c_0v3 c_1v3 hv4 d_0v4 d_1v4 lv5.len lv5_g iv5 s_1v5.len s_1v5_g := by
  subst lv5_h
  subst s_1v5_h
  refine ofEq (f18_eq5 K tv0 ev1 a_0v1 a_1v1 fv2 b_0v2 b_1v2 gv3 c_0v3 c_1v3 hv4 d_0v4 d_1v4 lv5 iv5 s_1v5) ?_
  unfold p18_at5 at hs
  unfold s18_at5 at hk
  exact (andK hs fun hc hs => ⟨⟨isE, isE, hc⟩, (q18_at6 K ev1 a_0v1 a_1v1 fv2 b_0v2 b_1v2 gv3 c_0v3 c_1v3 hv4 d_0v4 d_1v4 lv5 iv5 ((s33 (⟨s60.Parts, s_1v5, s60.Beta, s60.Alpha⟩ : Sky) tv0 (0:Int) (100:Int) (⟨(10:Int), (25:Int)⟩ : Span)).2) (((s33 (⟨s60.Parts, s_1v5, s60.Beta, s60.Alpha⟩ : Sky) tv0 (0:Int) (100:Int) (⟨(10:Int), (25:Int)⟩ : Span)).1).Parts) (((s33 (⟨s60.Parts, s_1v5, s60.Beta, s60.Alpha⟩ : Sky) tv0 (0:Int) (100:Int) (⟨(10:Int), (25:Int)⟩ : Span)).1).Bins) (((s33 (⟨s60.Parts, s_1v5, s60.Beta, s60.Alpha⟩ : Sky) tv0 (0:Int) (100:Int) (⟨(10:Int), (25:Int)⟩ : Span)).1).Beta.Low) (((s33 (⟨s60.Parts, s_1v5, s60.Beta, s60.Alpha⟩ : Sky) tv0 (0:Int) (100:Int) (⟨(10:Int), (25:Int)⟩ : Span)).1).Beta.High) (((s33 (⟨s60.Parts, s_1v5, s60.Beta, s60.Alpha⟩ : Sky) tv0 (0:Int) (100:Int) (⟨(10:Int), (25:Int)⟩ : Span)).1).Alpha.Low) (((s33 (⟨s60.Parts, s_1v5, s60.Beta, s60.Alpha⟩ : Sky) tv0 (0:Int) (100:Int) (⟨(10:Int), (25:Int)⟩ : Span)).1).Alpha.High) (fun i => enc_32 (((s33 (⟨s60.Parts, s_1v5, s60.Beta, s60.Alpha⟩ : Sky) tv0 (0:Int) (100:Int) (⟨(10:Int), (25:Int)⟩ : Span)).1).Bins.get i)) rfl hs hk)⟩)
def s18_at4 (tv0 : (Sl RangeRow)) (ev1 : Int) (a_0v1 : Int) (a_1v1 : Int) (fv2 : Int) (b_0v2 : Int) (b_1v2 : Int) (gv3 : Int) (c_0v3 : Int) (c_1v3 : Int) (hv4 : Int) (s_1v4 : (Sl (Sl FluxRow))) (d_0v4 : Int) (d_1v4 : Int) : Bool :=
  (s18_at5 tv0 ev1 a_0v1 a_1v1 fv2 b_0v2 b_1v2 gv3 c_0v3 c_1v3 hv4 d_0v4 d_1v4 ((s26 (⟨s60.Parts, s_1v4, s60.Beta, s60.Alpha⟩ : Sky) tv0 (0:Int) (⟨1, fun _ => (s34 (1:Int))⟩ : (Sl Spell))).1) ((s26 (⟨s60.Parts, s_1v4, s60.Beta, s60.Alpha⟩ : Sky) tv0 (0:Int) (⟨1, fun _ => (s34 (1:Int))⟩ : (Sl Spell))).2) s_1v4)
def p18_at4 (tv0 : (Sl RangeRow)) (ev1 : Int) (a_0v1 : Int) (a_1v1 : Int) (fv2 : Int) (b_0v2 : Int) (b_1v2 : Int) (gv3 : Int) (c_0v3 : Int) (c_1v3 : Int) (hv4 : Int) (s_1v4 : (Sl (Sl FluxRow))) (d_0v4 : Int) (d_1v4 : Int) : Bool :=
  (decide ((p26 (⟨s60.Parts, s_1v4, s60.Beta, s60.Alpha⟩ : Sky) tv0 (0:Int) (⟨1, fun _ => (s34 (1:Int))⟩ : (Sl Spell)) = true)) &&
  (p18_at5 tv0 ev1 a_0v1 a_1v1 fv2 b_0v2 b_1v2 gv3 c_0v3 c_1v3 hv4 d_0v4 d_1v4 ((s26 (⟨s60.Parts, s_1v4, s60.Beta, s60.Alpha⟩ : Sky) tv0 (0:Int) (⟨1, fun _ => (s34 (1:Int))⟩ : (Sl Spell))).1) ((s26 (⟨s60.Parts, s_1v4, s60.Beta, s60.Alpha⟩ : Sky) tv0 (0:Int) (⟨1, fun _ => (s34 (1:Int))⟩ : (Sl Spell))).2) s_1v4))
theorem q18_at4 (K : List PA → Prop) (tv0 : (Sl RangeRow)) (ev1 : Int) (a_0v1 : Int) (a_1v1 : Int) (fv2 : Int) (b_0v2 : Int) (b_1v2 : Int) (gv3 : Int) (c_0v3 : Int) (c_1v3 : Int) (hv4 : Int) (s_1v4 : (Sl (Sl FluxRow))) (d_0v4 : Int) (d_1v4 : Int) (s_1v4_g : Nat → List PV) (s_1v4_h : s_1v4_g = fun i => enc_32 (s_1v4.get i)) (hs : p18_at4 tv0 ev1 a_0v1 a_1v1 fv2 b_0v2 b_1v2 gv3 c_0v3 c_1v3 hv4 s_1v4 d_0v4 d_1v4 = true) (hk : K (e18 (s18_at4 tv0 ev1 a_0v1 a_1v1 fv2 b_0v2 b_1v2 gv3 c_0v3 c_1v3 hv4 s_1v4 d_0v4 d_1v4))) : f18_at4 K tv0 ev1 a_0v1 a_1v1 fv2 b_0v2 b_1v2 gv3 c_0v3 c_1v3 hv4 s_1v4.len s_1v4_g d_0v4 d_1v4 := by
  subst s_1v4_h
  refine ofEq (f18_eq4 K tv0 ev1 a_0v1 a_1v1 fv2 b_0v2 b_1v2 gv3 c_0v3 c_1v3 hv4 s_1v4 d_0v4 d_1v4) ?_
  unfold p18_at4 at hs
  unfold s18_at4 at hk
  exact (andK hs fun hc hs => ⟨⟨isE, isE, isE_c, hc⟩, (q18_at5 K tv0 ev1 a_0v1 a_1v1 fv2 b_0v2 b_1v2 gv3 c_0v3 c_1v3 hv4 d_0v4 d_1v4 ((s26 (⟨s60.Parts, s_1v4, s60.Beta, s60.Alpha⟩ : Sky) tv0 (0:Int) (⟨1, fun _ => (s34 (1:Int))⟩ : (Sl Spell))).1) ((s26 (⟨s60.Parts, s_1v4, s60.Beta, s60.Alpha⟩ : Sky) tv0 (0:Int) (⟨1, fun _ => (s34 (1:Int))⟩ : (Sl Spell))).2) s_1v4 (fun i => enc_69 (((s26 (⟨s60.Parts, s_1v4, s60.Beta, s60.Alpha⟩ : Sky) tv0 (0:Int) (⟨1, fun _ => (s34 (1:Int))⟩ : (Sl Spell))).1).get i)) rfl (fun i => enc_32 (s_1v4.get i)) rfl hs hk)⟩)
def s18_at3 (tv0 : (Sl RangeRow)) (ev1 : Int) (a_0v1 : Int) (a_1v1 : Int) (fv2 : Int) (b_0v2 : Int) (b_1v2 : Int) (gv3 : Int) (s_1v3 : (Sl (Sl FluxRow))) (c_0v3 : Int) (c_1v3 : Int) : Bool :=
  (s18_at4 tv0 ev1 a_0v1 a_1v1 fv2 b_0v2 b_1v2 gv3 c_0v3 c_1v3 ((s25 (⟨s60.Parts, s_1v3, s60.Beta, s60.Alpha⟩ : Sky) tv0 (0:Int) (⟨(261:Int), (270:Int)⟩ : Span) (⟨1, fun _ => (s34 (1:Int))⟩ : (Sl Spell))).2) s_1v3 (((s25 (⟨s60.Parts, s_1v3, s60.Beta, s60.Alpha⟩ : Sky) tv0 (0:Int) (⟨(261:Int), (270:Int)⟩ : Span) (⟨1, fun _ => (s34 (1:Int))⟩ : (Sl Spell))).1).Low) (((s25 (⟨s60.Parts, s_1v3, s60.Beta, s60.Alpha⟩ : Sky) tv0 (0:Int) (⟨(261:Int), (270:Int)⟩ : Span) (⟨1, fun _ => (s34 (1:Int))⟩ : (Sl Spell))).1).High))
def p18_at3 (tv0 : (Sl RangeRow)) (ev1 : Int) (a_0v1 : Int) (a_1v1 : Int) (fv2 : Int) (b_0v2 : Int) (b_1v2 : Int) (gv3 : Int) (s_1v3 : (Sl (Sl FluxRow))) (c_0v3 : Int) (c_1v3 : Int) : Bool :=
  (decide ((p25 (⟨s60.Parts, s_1v3, s60.Beta, s60.Alpha⟩ : Sky) tv0 (0:Int) (⟨(261:Int), (270:Int)⟩ : Span) (⟨1, fun _ => (s34 (1:Int))⟩ : (Sl Spell)) = true)) &&
  (p18_at4 tv0 ev1 a_0v1 a_1v1 fv2 b_0v2 b_1v2 gv3 c_0v3 c_1v3 ((s25 (⟨s60.Parts, s_1v3, s60.Beta, s60.Alpha⟩ : Sky) tv0 (0:Int) (⟨(261:Int), (270:Int)⟩ : Span) (⟨1, fun _ => (s34 (1:Int))⟩ : (Sl Spell))).2) s_1v3 (((s25 (⟨s60.Parts, s_1v3, s60.Beta, s60.Alpha⟩ : Sky) tv0 (0:Int) (⟨(261:Int), (270:Int)⟩ : Span) (⟨1, fun _ => (s34 (1:Int))⟩ : (Sl Spell))).1).Low) (((s25 (⟨s60.Parts, s_1v3, s60.Beta, s60.Alpha⟩ : Sky) tv0 (0:Int) (⟨(261:Int), (270:Int)⟩ : Span) (⟨1, fun _ => (s34 (1:Int))⟩ : (Sl Spell))).1).High)))
theorem q18_at3 (K : List PA → Prop) (tv0 : (Sl RangeRow)) (ev1 : Int) (a_0v1 : Int) (a_1v1 : Int) (fv2 : Int) (b_0v2 : Int) (b_1v2 : Int) (gv3 : Int) (s_1v3 : (Sl (Sl FluxRow))) (c_0v3 : Int) (c_1v3 : Int) (s_1v3_g : Nat → List PV) (s_1v3_h : s_1v3_g = fun i => enc_32 (s_1v3.get i)) (hs : p18_at3 tv0 ev1 a_0v1 a_1v1 fv2 b_0v2 b_1v2 gv3 s_1v3 c_0v3 c_1v3 = true) (hk : K (e18 (s18_at3 tv0 ev1 a_0v1 a_1v1 fv2 b_0v2 b_1v2 gv3 s_1v3 c_0v3 c_1v3))) : f18_at3 K tv0 ev1 a_0v1 a_1v1 fv2 b_0v2 b_1v2 gv3 s_1v3.len s_1v3_g c_0v3 c_1v3 := by
  subst s_1v3_h
  refine ofEq (f18_eq3 K tv0 ev1 a_0v1 a_1v1 fv2 b_0v2 b_1v2 gv3 s_1v3 c_0v3 c_1v3) ?_
  unfold p18_at3 at hs
  unfold s18_at3 at hk
  exact (andK hs fun hc hs => ⟨⟨isE, isE, isE_c, hc⟩, (q18_at4 K tv0 ev1 a_0v1 a_1v1 fv2 b_0v2 b_1v2 gv3 c_0v3 c_1v3 ((s25 (⟨s60.Parts, s_1v3, s60.Beta, s60.Alpha⟩ : Sky) tv0 (0:Int) (⟨(261:Int), (270:Int)⟩ : Span) (⟨1, fun _ => (s34 (1:Int))⟩ : (Sl Spell))).2) s_1v3 (((s25 (⟨s60.Parts, s_1v3, s60.Beta, s60.Alpha⟩ : Sky) tv0 (0:Int) (⟨(261:Int), (270:Int)⟩ : Span) (⟨1, fun _ => (s34 (1:Int))⟩ : (Sl Spell))).1).Low) (((s25 (⟨s60.Parts, s_1v3, s60.Beta, s60.Alpha⟩ : Sky) tv0 (0:Int) (⟨(261:Int), (270:Int)⟩ : Span) (⟨1, fun _ => (s34 (1:Int))⟩ : (Sl Spell))).1).High) (fun i => enc_32 (s_1v3.get i)) rfl hs hk)⟩)
def s18_at2 (tv0 : (Sl RangeRow)) (ev1 : Int) (a_0v1 : Int) (a_1v1 : Int) (fv2 : Int) (s_1v2 : (Sl (Sl FluxRow))) (b_0v2 : Int) (b_1v2 : Int) : Bool :=
  (s18_at3 tv0 ev1 a_0v1 a_1v1 fv2 b_0v2 b_1v2 ((s23 (⟨s60.Parts, s_1v2, s60.Beta, s60.Alpha⟩ : Sky) tv0 (0:Int) (100:Int) (⟨2, decF_56 (getL [(enc_56 (s34 (3:Int))), (enc_56 (⟨(1:Int), (⟨(⟨(-10:Int), (20:Int)⟩ : Span), (⟨(0:Int), (5:Int)⟩ : Span)⟩ : Weather)⟩ : Spell))])⟩ : (Sl Spell))).2) s_1v2 (((s23 (⟨s60.Parts, s_1v2, s60.Beta, s60.Alpha⟩ : Sky) tv0 (0:Int) (100:Int) (⟨2, decF_56 (getL [(enc_56 (s34 (3:Int))), (enc_56 (⟨(1:Int), (⟨(⟨(-10:Int), (20:Int)⟩ : Span), (⟨(0:Int), (5:Int)⟩ : Span)⟩ : Weather)⟩ : Spell))])⟩ : (Sl Spell))).1).Low) (((s23 (⟨s60.Parts, s_1v2, s60.Beta, s60.Alpha⟩ : Sky) tv0 (0:Int) (100:Int) (⟨2, decF_56 (getL [(enc_56 (s34 (3:Int))), (enc_56 (⟨(1:Int), (⟨(⟨(-10:Int), (20:Int)⟩ : Span), (⟨(0:Int), (5:Int)⟩ : Span)⟩ : Weather)⟩ : Spell))])⟩ : (Sl Spell))).1).High))
def p18_at2 (tv0 : (Sl RangeRow)) (ev1 : Int) (a_0v1 : Int) (a_1v1 : Int) (fv2 : Int) (s_1v2 : (Sl (Sl FluxRow))) (b_0v2 : Int) (b_1v2 : Int) : Bool :=
  (decide ((p23 (⟨s60.Parts, s_1v2, s60.Beta, s60.Alpha⟩ : Sky) tv0 (0:Int) (100:Int) (⟨2, decF_56 (getL [(enc_56 (s34 (3:Int))), (enc_56 (⟨(1:Int), (⟨(⟨(-10:Int), (20:Int)⟩ : Span), (⟨(0:Int), (5:Int)⟩ : Span)⟩ : Weather)⟩ : Spell))])⟩ : (Sl Spell)) = true)) &&
  (p18_at3 tv0 ev1 a_0v1 a_1v1 fv2 b_0v2 b_1v2 ((s23 (⟨s60.Parts, s_1v2, s60.Beta, s60.Alpha⟩ : Sky) tv0 (0:Int) (100:Int) (⟨2, decF_56 (getL [(enc_56 (s34 (3:Int))), (enc_56 (⟨(1:Int), (⟨(⟨(-10:Int), (20:Int)⟩ : Span), (⟨(0:Int), (5:Int)⟩ : Span)⟩ : Weather)⟩ : Spell))])⟩ : (Sl Spell))).2) s_1v2 (((s23 (⟨s60.Parts, s_1v2, s60.Beta, s60.Alpha⟩ : Sky) tv0 (0:Int) (100:Int) (⟨2, decF_56 (getL [(enc_56 (s34 (3:Int))), (enc_56 (⟨(1:Int), (⟨(⟨(-10:Int), (20:Int)⟩ : Span), (⟨(0:Int), (5:Int)⟩ : Span)⟩ : Weather)⟩ : Spell))])⟩ : (Sl Spell))).1).Low) (((s23 (⟨s60.Parts, s_1v2, s60.Beta, s60.Alpha⟩ : Sky) tv0 (0:Int) (100:Int) (⟨2, decF_56 (getL [(enc_56 (s34 (3:Int))), (enc_56 (⟨(1:Int), (⟨(⟨(-10:Int), (20:Int)⟩ : Span), (⟨(0:Int), (5:Int)⟩ : Span)⟩ : Weather)⟩ : Spell))])⟩ : (Sl Spell))).1).High)))
theorem q18_at2 (K : List PA → Prop) (tv0 : (Sl RangeRow)) (ev1 : Int) (a_0v1 : Int) (a_1v1 : Int) (fv2 : Int) (s_1v2 : (Sl (Sl FluxRow))) (b_0v2 : Int) (b_1v2 : Int) (s_1v2_g : Nat → List PV) (s_1v2_h : s_1v2_g = fun i => enc_32 (s_1v2.get i)) (hs : p18_at2 tv0 ev1 a_0v1 a_1v1 fv2 s_1v2 b_0v2 b_1v2 = true) (hk : K (e18 (s18_at2 tv0 ev1 a_0v1 a_1v1 fv2 s_1v2 b_0v2 b_1v2))) : f18_at2 K tv0 ev1 a_0v1 a_1v1 fv2 s_1v2.len s_1v2_g b_0v2 b_1v2 := by
  subst s_1v2_h
  refine ofEq (f18_eq2 K tv0 ev1 a_0v1 a_1v1 fv2 s_1v2 b_0v2 b_1v2) ?_
  unfold p18_at2 at hs
  unfold s18_at2 at hk
  exact (andK hs fun hc hs => ⟨⟨isE, isE, (isE_list []), hc⟩, (q18_at3 K tv0 ev1 a_0v1 a_1v1 fv2 b_0v2 b_1v2 ((s23 (⟨s60.Parts, s_1v2, s60.Beta, s60.Alpha⟩ : Sky) tv0 (0:Int) (100:Int) (⟨2, decF_56 (getL [(enc_56 (s34 (3:Int))), (enc_56 (⟨(1:Int), (⟨(⟨(-10:Int), (20:Int)⟩ : Span), (⟨(0:Int), (5:Int)⟩ : Span)⟩ : Weather)⟩ : Spell))])⟩ : (Sl Spell))).2) s_1v2 (((s23 (⟨s60.Parts, s_1v2, s60.Beta, s60.Alpha⟩ : Sky) tv0 (0:Int) (100:Int) (⟨2, decF_56 (getL [(enc_56 (s34 (3:Int))), (enc_56 (⟨(1:Int), (⟨(⟨(-10:Int), (20:Int)⟩ : Span), (⟨(0:Int), (5:Int)⟩ : Span)⟩ : Weather)⟩ : Spell))])⟩ : (Sl Spell))).1).Low) (((s23 (⟨s60.Parts, s_1v2, s60.Beta, s60.Alpha⟩ : Sky) tv0 (0:Int) (100:Int) (⟨2, decF_56 (getL [(enc_56 (s34 (3:Int))), (enc_56 (⟨(1:Int), (⟨(⟨(-10:Int), (20:Int)⟩ : Span), (⟨(0:Int), (5:Int)⟩ : Span)⟩ : Weather)⟩ : Spell))])⟩ : (Sl Spell))).1).High) (fun i => enc_32 (s_1v2.get i)) rfl hs hk)⟩)
def s18_at1 (tv0 : (Sl RangeRow)) (ev1 : Int) (s_1v1 : (Sl (Sl FluxRow))) (a_0v1 : Int) (a_1v1 : Int) : Bool :=
  (s18_at2 tv0 ev1 a_0v1 a_1v1 ((s20 (⟨s60.Parts, s_1v1, s60.Beta, s60.Alpha⟩ : Sky) tv0 (0:Int) (280:Int)).2) s_1v1 (((s20 (⟨s60.Parts, s_1v1, s60.Beta, s60.Alpha⟩ : Sky) tv0 (0:Int) (280:Int)).1).Low) (((s20 (⟨s60.Parts, s_1v1, s60.Beta, s60.Alpha⟩ : Sky) tv0 (0:Int) (280:Int)).1).High))
def p18_at1 (tv0 : (Sl RangeRow)) (ev1 : Int) (s_1v1 : (Sl (Sl FluxRow))) (a_0v1 : Int) (a_1v1 : Int) : Bool :=
  (decide ((p20 (⟨s60.Parts, s_1v1, s60.Beta, s60.Alpha⟩ : Sky) tv0 (0:Int) (280:Int) = true)) &&
  (p18_at2 tv0 ev1 a_0v1 a_1v1 ((s20 (⟨s60.Parts, s_1v1, s60.Beta, s60.Alpha⟩ : Sky) tv0 (0:Int) (280:Int)).2) s_1v1 (((s20 (⟨s60.Parts, s_1v1, s60.Beta, s60.Alpha⟩ : Sky) tv0 (0:Int) (280:Int)).1).Low) (((s20 (⟨s60.Parts, s_1v1, s60.Beta, s60.Alpha⟩ : Sky) tv0 (0:Int) (280:Int)).1).High)))
theorem q18_at1 (K : List PA → Prop) (tv0 : (Sl RangeRow)) (ev1 : Int) (s_1v1 : (Sl (Sl FluxRow))) (a_0v1 : Int) (a_1v1 : Int) (s_1v1_g : Nat → List PV) (s_1v1_h : s_1v1_g = fun i => enc_32 (s_1v1.get i)) (hs : p18_at1 tv0 ev1 s_1v1 a_0v1 a_1v1 = true) (hk : K (e18 (s18_at1 tv0 ev1 s_1v1 a_0v1 a_1v1))) : f18_at1 K tv0 ev1 s_1v1.len s_1v1_g a_0v1 a_1v1 := by
  subst s_1v1_h
  refine ofEq (f18_eq1 K tv0 ev1 s_1v1 a_0v1 a_1v1) ?_
  unfold p18_at1 at hs
  unfold s18_at1 at hk
  exact (andK hs fun hc hs => ⟨⟨isE, isE, hc⟩, (q18_at2 K tv0 ev1 a_0v1 a_1v1 ((s20 (⟨s60.Parts, s_1v1, s60.Beta, s60.Alpha⟩ : Sky) tv0 (0:Int) (280:Int)).2) s_1v1 (((s20 (⟨s60.Parts, s_1v1, s60.Beta, s60.Alpha⟩ : Sky) tv0 (0:Int) (280:Int)).1).Low) (((s20 (⟨s60.Parts, s_1v1, s60.Beta, s60.Alpha⟩ : Sky) tv0 (0:Int) (280:Int)).1).High) (fun i => enc_32 (s_1v1.get i)) rfl hs hk)⟩)
def s18_at0 (tv0 : (Sl RangeRow)) (s_1v0 : (Sl (Sl FluxRow))) : Bool :=
  (s18_at1 tv0 ((s19 tv0 (100:Int)).2) s_1v0 (((s19 tv0 (100:Int)).1).Low) (((s19 tv0 (100:Int)).1).High))
def p18_at0 (tv0 : (Sl RangeRow)) (s_1v0 : (Sl (Sl FluxRow))) : Bool :=
  (decide ((p19 tv0 (100:Int) = true)) &&
  (p18_at1 tv0 ((s19 tv0 (100:Int)).2) s_1v0 (((s19 tv0 (100:Int)).1).Low) (((s19 tv0 (100:Int)).1).High)))
theorem q18_at0 (K : List PA → Prop) (tv0 : (Sl RangeRow)) (s_1v0 : (Sl (Sl FluxRow))) (tv0_g : Nat → List PV) (tv0_h : tv0_g = fun i => enc_42 (tv0.get i)) (s_1v0_g : Nat → List PV) (s_1v0_h : s_1v0_g = fun i => enc_32 (s_1v0.get i)) (hs : p18_at0 tv0 s_1v0 = true) (hk : K (e18 (s18_at0 tv0 s_1v0))) : f18_at0 K tv0.len tv0_g s_1v0.len s_1v0_g := by
  subst tv0_h
  subst s_1v0_h
  refine ofEq (f18_eq0 K tv0 s_1v0) ?_
  unfold p18_at0 at hs
  unfold s18_at0 at hk
  exact (andK hs fun hc hs => ⟨⟨isE, hc⟩, (q18_at1 K tv0 ((s19 tv0 (100:Int)).2) s_1v0 (((s19 tv0 (100:Int)).1).Low) (((s19 tv0 (100:Int)).1).High) (fun i => enc_32 (s_1v0.get i)) rfl hs hk)⟩)
def s18 : Bool :=
  (s18_at0 s61 s60.Bins)
def p18 : Bool :=
  (p18_at0 s61 s60.Bins)
theorem q18 (K : List PA → Prop) (hs : p18 = true) (hk : K (e18 (s18))) : vcFun Try.prog G18 ann18 18 [] K := by
  refine ofEq (f18_top K) ?_
  unfold p18 at hs
  unfold s18 at hk
  exact (q18_at0 K s61 s60.Bins (fun i => enc_42 (s61.get i)) rfl (fun i => enc_32 (s60.Bins.get i)) rfl hs hk)
theorem p18_ok : p18 = true := by kernel_rfl
theorem s18_ok : s18 = true := by kernel_rfl
def ctr18 : List PA → COut
  | [] => .tot [.one (.bool true)]
  | _ => .no
theorem call18 : Callable Try.prog 18 := ⟨_, rfl, rfl, by kernel_rfl⟩
theorem ok18 : Ok Try.prog 18 ctr18 := ok_tab okT18 call18 fun args K h => by
  unfold ctr18 at h
  split at h
  · refine ⟨fun _ _ => [], fun _ => false, ann18, q18 K p18_ok ?_⟩
    show K [.one (.bool s18)]
    rw [s18_ok]; exact h
  · exact h.elim
-- 15 overburdenlaw05.few
abbrev T15 : Tabs := Tabs.nil
theorem okT15 : TabsOk Try.prog T15 := TabsOk.nil
abbrev G15 : Ctrs := csm T15 (fun _ _ => []) (fun _ => false)
def ann15 : Ann := ⟨29, [(0, ⟨[1, 2], [2], [], [], []⟩), (1, ⟨[1, 2, 5], [2], [], [], []⟩), (2, ⟨[1, 2, 5, 10], [2], [], [], []⟩), (3, ⟨[1, 2, 5], [2], [], [], []⟩), (4, ⟨[1, 2, 5, 19], [2], [], [], []⟩), (5, ⟨[4], [], [], [], []⟩), (6, ⟨[4], [], [], [], []⟩)],
  [(2, ⟨[1, 2, 5], [2], [], [], []⟩)],
  [],
  [], []⟩
def f15_g0 (s : Sky) (t : (Sl RangeRow)) (iv0 : Int) : St := ⟨[(1, .one (.c (.p (.sl t.len 3 (fun i => enc_42 (t.get i)))))), (2, .one (.c (.ptr 2 0))), (5, .one (.c (.p (.int .i64 iv0))))], [(2, .box 26 [.p (.int .i64 s.Parts), .p (.sl s.Bins.len 1 (fun i => enc_32 (s.Bins.get i))), .p (.int .i64 s.Beta.Low), .p (.int .i64 s.Beta.High), .p (.int .i64 s.Alpha.Low), .p (.int .i64 s.Alpha.High)])], []⟩
def f15_at0 (K : List PA → Prop) (s : Sky) (t : (Sl RangeRow)) (iv0 : Int) : Prop := vc Try.prog G15 ann15 (cdF Try.f15 [1, 0, 1, 0]) (blockK 0 (sqK Try.prog G15 ann15 (cdF Try.f15 [1, 1]) (bodyK Try.prog Try.f15 K))) (f15_g0 s t iv0)
theorem f15_top (s : Sky) (t : (Sl RangeRow)) (K : List PA → Prop) :
  vcFun Try.prog G15 ann15 15 [.agg [.int .i64 s.Parts, .sl s.Bins.len 1 (fun i => enc_32 (s.Bins.get i)), .int .i64 s.Beta.Low, .int .i64 s.Beta.High, .int .i64 s.Alpha.Low, .int .i64 s.Alpha.High], .one (.sl t.len 3 (fun i => enc_42 (t.get i)))] K =
  (f15_at0 K s t (0:Int)) := by kernel_rfl
def f15_step0 (K : List PA → Prop) (X0 : St → Prop) (s : Sky) (t : (Sl RangeRow)) (iv0 : Int) : Prop :=
  (condP (decide (iv0 < (s.Bins.len : Int)))
   (((0 ≤ iv0 ∧ iv0 < (s.Bins.len : Int))) ∧
   (condP (decide (((s.Bins.get iv0.toNat).len : Int) > (50:Int)))
    (K [.one (.bool false)])
    (X0 (f15_g0 s t (w64 (iv0 + (1:Int)))))))
   (condP (decide ((s.Bins.len : Int) ≤ (25:Int)))
    (K [.one (.bool (decide ((t.len : Int) ≤ (50:Int))))])
    (K [.one (.bool false)])))
theorem f15_stepeq0 (K : List PA → Prop) (X0 : St → Prop) (s : Sky) (t : (Sl RangeRow)) (iv0 : Int) :
  vc Try.prog G15 ann15 (cd (cdF Try.f15 [1, 0, 1, 0]) [0]) (loopK Try.prog ann15 2 X0 (blockK 0 (sqK Try.prog G15 ann15 (cdF Try.f15 [1, 1]) (bodyK Try.prog Try.f15 K)))) (f15_g0 s t iv0) =
  f15_step0 K X0 s t iv0 := by kernel_rfl
theorem f15_loop0 (K : List PA → Prop) (s : Sky) (t : (Sl RangeRow)) (iv0 : Int)
  (h : ∀ X0 : St → Prop, (∀ (iv0 : Int), f15_step0 K X0 s t iv0 → X0 (f15_g0 s t iv0)) → X0 (f15_g0 s t iv0)) :
  f15_at0 K s t iv0 := by
  have e : f15_at0 K s t iv0 = (∀ X : St → Prop, (∀ s, vc Try.prog G15 ann15 (cd (cdF Try.f15 [1, 0, 1, 0]) [0]) (loopK Try.prog ann15 2 X (blockK 0 (sqK Try.prog G15 ann15 (cdF Try.f15 [1, 1]) (bodyK Try.prog Try.f15 K)))) s → X s) → X (f15_g0 s t iv0)) := by kernel_rfl
  refine ofEq e ?_
  intro X hX
  refine h X ?_
  intro iv0 hs
  refine hX _ ?_
  have e2 := f15_stepeq0 K X s t iv0
  rw [e2]
  exact hs
abbrev R15 := Bool
abbrev e15 (r : Bool) : List PA := [.one (.bool r)]
attribute [irreducible] f15_at0
def s15_st0 (s : Sky) (t : (Sl RangeRow)) (S0 : Int → Bool) (iv0 : Int) : Bool :=
  (cond (decide (iv0 < (s.Bins.len : Int)))
   (cond (decide (((s.Bins.get iv0.toNat).len : Int) > (50:Int)))
    false
    (S0 (w64 (iv0 + (1:Int)))))
   (cond (decide ((s.Bins.len : Int) ≤ (25:Int)))
    (decide ((t.len : Int) ≤ (50:Int)))
    false))
def p15_st0 (s : Sky) (t : (Sl RangeRow)) (P0 : Int → Bool) (iv0 : Int) : Bool :=
  (cond (decide (iv0 < (s.Bins.len : Int)))
   (decide ((0 ≤ iv0 ∧ iv0 < (s.Bins.len : Int))) &&
   (cond (decide (((s.Bins.get iv0.toNat).len : Int) > (50:Int)))
    true
    (P0 (w64 (iv0 + (1:Int))))))
   true)
def s15_lp0 (s : Sky) (t : (Sl RangeRow)) : Nat → Int → Bool
  | 0 => fun _ => default
  | k + 1 => s15_st0 s t (s15_lp0 s t k)
def p15_lp0 (s : Sky) (t : (Sl RangeRow)) : Nat → Int → Bool
  | 0 => fun _ => false
  | k + 1 => p15_st0 s t (p15_lp0 s t k)
def s15_at0 (s : Sky) (t : (Sl RangeRow)) (iv0 : Int) : Bool := s15_lp0 s t Fuel iv0
def p15_at0 (s : Sky) (t : (Sl RangeRow)) (iv0 : Int) : Bool := p15_lp0 s t Fuel iv0
theorem q15_at0 (K : List PA → Prop) (s : Sky) (t : (Sl RangeRow)) (iv0 : Int) (hs : p15_at0 s t iv0 = true) (hk : K (e15 (s15_at0 s t iv0))) : f15_at0 K s t iv0 := by
  refine f15_loop0 K s t iv0 ?_
  intro X0 hstep
  have key : ∀ (k : Nat) (iv0 : Int), p15_lp0 s t k iv0 = true → K (e15 (s15_lp0 s t k iv0)) → X0 (f15_g0 s t iv0) := by
    intro k
    induction k with
    | zero => intro iv0 hs; exact absurd hs Bool.false_ne_true
    | succ k ih =>
      intro iv0 hs hk
      refine hstep iv0 ?_
      have hs : p15_st0 s t (p15_lp0 s t k) iv0 = true := hs
      have hk : K (e15 (s15_st0 s t (s15_lp0 s t k) iv0)) := hk
      unfold p15_st0 at hs
      unfold s15_st0 at hk
      generalize s15_lp0 s t k = S0 at hk ih
      generalize p15_lp0 s t k = P0 at hs ih
      have hX0 := ih
      exact (condB_go (K := fun r => K (e15 r))
       (fun hs hk => (andK hs fun hc hs => ⟨hc, (condB_go (K := fun r => K (e15 r))
        (fun hs hk => hk)
        (fun hs hk => (hX0 (w64 (iv0 + (1:Int))) hs hk)) hs hk)⟩))
       (fun hs hk => (condP_gt (K := fun r => K (e15 r))
        (fun hk => hk)
        (fun hk => hk) hk)) hs hk)
  exact key _ iv0 hs hk
def s15 (s : Sky) (t : (Sl RangeRow)) : Bool :=
  (s15_at0 s t (0:Int))
def p15 (s : Sky) (t : (Sl RangeRow)) : Bool :=
  (p15_at0 s t (0:Int))
theorem q15 (s : Sky) (t : (Sl RangeRow)) (K : List PA → Prop) (hs : p15 s t = true) (hk : K (e15 (s15 s t))) : vcFun Try.prog G15 ann15 15 [.agg [.int .i64 s.Parts, .sl s.Bins.len 1 (fun i => enc_32 (s.Bins.get i)), .int .i64 s.Beta.Low, .int .i64 s.Beta.High, .int .i64 s.Alpha.Low, .int .i64 s.Alpha.High], .one (.sl t.len 3 (fun i => enc_42 (t.get i)))] K := by
  refine ofEq (f15_top s t K) ?_
  unfold p15 at hs
  unfold s15 at hk
  exact (q15_at0 K s t (0:Int) hs hk)
def ctr15 : List PA → COut
  | [.agg [.int .i64 a0_Parts, .sl a0_Bins_n a0_Bins_s a0_Bins_g, .int .i64 a0_Beta_Low, .int .i64 a0_Beta_High, .int .i64 a0_Alpha_Low, .int .i64 a0_Alpha_High], .one (.sl a1_n a1_s a1_g)] => .det (IsE enc_32 1 a0_Bins_s a0_Bins_g ∧ IsE enc_42 3 a1_s a1_g ∧ p15 (⟨a0_Parts, (⟨a0_Bins_n, decF_32 a0_Bins_g⟩ : (Sl (Sl FluxRow))), (⟨a0_Beta_Low, a0_Beta_High⟩ : Span), (⟨a0_Alpha_Low, a0_Alpha_High⟩ : Span)⟩ : Sky) (⟨a1_n, decF_42 a1_g⟩ : (Sl RangeRow)) = true) [.one (.bool (s15 (⟨a0_Parts, (⟨a0_Bins_n, decF_32 a0_Bins_g⟩ : (Sl (Sl FluxRow))), (⟨a0_Beta_Low, a0_Beta_High⟩ : Span), (⟨a0_Alpha_Low, a0_Alpha_High⟩ : Span)⟩ : Sky) (⟨a1_n, decF_42 a1_g⟩ : (Sl RangeRow))))]
  | _ => .no
theorem call15 : Callable Try.prog 15 := ⟨_, rfl, rfl, by kernel_rfl⟩
theorem ok15 : Ok Try.prog 15 ctr15 := ok_tab okT15 call15 fun args K h => by
  unfold ctr15 at h
  split at h
  · rename_i a0_Parts a0_Bins_n a0_Bins_s a0_Bins_g a0_Beta_Low a0_Beta_High a0_Alpha_Low a0_Alpha_High a1_n a1_s a1_g
    obtain ⟨⟨⟨rfl, a0_Bins_f, rfl⟩, ⟨rfl, a1_f, rfl⟩, hs⟩, hk⟩ := h
    try rw [decF_enc_32 a0_Bins_f] at hs
    try rw [decF_enc_32 a0_Bins_f] at hk
    try rw [decF_enc_42 a1_f] at hs
    try rw [decF_enc_42 a1_f] at hk
    exact ⟨(fun _ _ => []), (fun _ => false), ann15, q15 (⟨a0_Parts, (⟨a0_Bins_n, a0_Bins_f⟩ : (Sl (Sl FluxRow))), (⟨a0_Beta_Low, a0_Beta_High⟩ : Span), (⟨a0_Alpha_Low, a0_Alpha_High⟩ : Span)⟩ : Sky) (⟨a1_n, a1_f⟩ : (Sl RangeRow)) K hs hk⟩
  · exact h.elim
-- 29 overburdenref05.Span
abbrev T29 : Tabs := Tabs.nil
theorem okT29 : TabsOk Try.prog T29 := TabsOk.nil
abbrev G29 : Ctrs := csm T29 (fun _ _ => []) (fun _ => false)
def ann29 : Ann := ⟨24, [(0, ⟨[1, 2, 3], [3], [], [], []⟩), (1, ⟨[6], [], [], [], []⟩)],
  [],
  [],
  [], []⟩
theorem f29_top (s : Span) (low : Int) (high : Int) (K : List PA → Prop) :
  vcFun Try.prog G29 ann29 29 [.agg [.int .i64 s.Low, .int .i64 s.High], .one (.int .i64 low), .one (.int .i64 high)] K =
  (condP (decide (s.Low ≥ low))
   (condP (decide (s.Low ≤ s.High))
    (K [.one (.bool (decide (s.High ≤ high)))])
    (K [.one (.bool false)]))
   (K [.one (.bool false)])) := by kernel_rfl
abbrev R29 := Bool
abbrev e29 (r : Bool) : List PA := [.one (.bool r)]
def s29 (s : Span) (low : Int) (high : Int) : Bool :=
  (cond (decide (s.Low ≥ low))
   (cond (decide (s.Low ≤ s.High))
    (decide (s.High ≤ high))
    false)
   false)
theorem q29 (s : Span) (low : Int) (high : Int) (K : List PA → Prop) (hk : K (e29 (s29 s low high))) : vcFun Try.prog G29 ann29 29 [.agg [.int .i64 s.Low, .int .i64 s.High], .one (.int .i64 low), .one (.int .i64 high)] K := by
  refine ofEq (f29_top s low high K) ?_
  unfold s29 at hk
  exact (condP_gt (K := fun r => K (e29 r))
   (fun hk => (condP_gt (K := fun r => K (e29 r))
    (fun hk => hk)
    (fun hk => hk) hk))
   (fun hk => hk) hk)
def ctr29 : List PA → COut
  | [.agg [.int .i64 a0_Low, .int .i64 a0_High], .one (.int .i64 a1), .one (.int .i64 a2)] => .tot [.one (.bool (s29 (⟨a0_Low, a0_High⟩ : Span) a1 a2))]
  | _ => .no
theorem call29 : Callable Try.prog 29 := ⟨_, rfl, rfl, by kernel_rfl⟩
theorem ok29 : Ok Try.prog 29 ctr29 := ok_tab okT29 call29 fun args K h => by
  unfold ctr29 at h
  split at h
  · rename_i a0_Low a0_High a1 a2
    have hk := h
    exact ⟨(fun _ _ => []), (fun _ => false), ann29, q29 (⟨a0_Low, a0_High⟩ : Span) a1 a2 K hk⟩
  · exact h.elim
-- 58 overburdenref05.in
abbrev T58 : Tabs := Tabs.nil
theorem okT58 : TabsOk Try.prog T58 := TabsOk.nil
abbrev G58 : Ctrs := csm T58 (fun _ _ => []) (fun _ => false)
def ann58 : Ann := ⟨15, [(0, ⟨[0, 1, 2], [], [], [], []⟩), (1, ⟨[6], [], [], [], []⟩)],
  [],
  [],
  [], []⟩
theorem f58_top (x : Int) (low : Int) (high : Int) (K : List PA → Prop) :
  vcFun Try.prog G58 ann58 58 [.one (.int .i64 x), .one (.int .i64 low), .one (.int .i64 high)] K =
  (condP (decide (x ≥ low))
   (K [.one (.bool (decide (x ≤ high)))])
   (K [.one (.bool false)])) := by kernel_rfl
abbrev R58 := Bool
abbrev e58 (r : Bool) : List PA := [.one (.bool r)]
def s58 (x : Int) (low : Int) (high : Int) : Bool :=
  (cond (decide (x ≥ low))
   (decide (x ≤ high))
   false)
theorem q58 (x : Int) (low : Int) (high : Int) (K : List PA → Prop) (hk : K (e58 (s58 x low high))) : vcFun Try.prog G58 ann58 58 [.one (.int .i64 x), .one (.int .i64 low), .one (.int .i64 high)] K := by
  refine ofEq (f58_top x low high K) ?_
  unfold s58 at hk
  exact (condP_gt (K := fun r => K (e58 r))
   (fun hk => hk)
   (fun hk => hk) hk)
def ctr58 : List PA → COut
  | [.one (.int .i64 a0), .one (.int .i64 a1), .one (.int .i64 a2)] => .tot [.one (.bool (s58 a0 a1 a2))]
  | _ => .no
theorem call58 : Callable Try.prog 58 := ⟨_, rfl, rfl, by kernel_rfl⟩
theorem ok58 : Ok Try.prog 58 ctr58 := ok_tab okT58 call58 fun args K h => by
  unfold ctr58 at h
  split at h
  · rename_i a0 a1 a2
    have hk := h
    exact ⟨(fun _ _ => []), (fun _ => false), ann58, q58 a0 a1 a2 K hk⟩
  · exact h.elim
end Go.Proofs
namespace Go.Proofs
open Go Go.Pm
set_option maxRecDepth 100000
set_option linter.unusedVariables false
attribute [local irreducible] Go.Pm.vcFun Go.Pm.vc Go.Pm.vcIter
-- 59 overburdenref05.bin
abbrev T59 : Tabs := ((Tabs.nil.addF 29 ctr29).addF 58 ctr58)
theorem okT59 : TabsOk Try.prog T59 := ((TabsOk.nil.addF ok29).addF ok58)
abbrev G59 : Ctrs := csm T59 (fun _ _ => []) (fun _ => false)
def ann59 : Ann := ⟨79, [(0, ⟨[0, 1], [], [], [], []⟩), (1, ⟨[0, 1, 5], [], [], [], []⟩), (2, ⟨[0, 1, 5, 10], [], [], [], []⟩), (3, ⟨[0, 1, 5], [], [], [], []⟩), (4, ⟨[0, 1, 5, 6], [6], [], [], []⟩), (5, ⟨[0, 1, 5, 68], [], [], [], []⟩), (6, ⟨[4], [], [], [], []⟩), (7, ⟨[4], [], [], [], []⟩)],
  [(2, ⟨[0, 1, 5], [], [], [], []⟩)],
  [(6, ⟨[0, 1, 5, 68], [], [], [], []⟩)],
  [], []⟩
def f59_g0 (parts : Int) (l_a1 : (Sl FluxRow)) (iv0 : Int) : St := ⟨[(0, .one (.c (.p (.int .i64 parts)))), (1, .one (.c (.p (.sl l_a1.len 3 (fun i => enc_44 (l_a1.get i)))))), (5, .one (.c (.p (.int .i64 iv0))))], [], []⟩
def f59_at0 (K : List PA → Prop) (parts : Int) (l_a1 : (Sl FluxRow)) (iv0 : Int) : Prop := vc Try.prog G59 ann59 (cdF Try.f59 [1, 0, 1, 0]) (blockK 0 (sqK Try.prog G59 ann59 (cdF Try.f59 [1, 1]) (bodyK Try.prog Try.f59 K))) (f59_g0 parts l_a1 iv0)
def f59_g1 (parts : Int) (l_a1 : (Sl FluxRow)) (iv1 : Int) (t68v1 : Bool) : St := ⟨[(0, .one (.c (.p (.int .i64 parts)))), (1, .one (.c (.p (.sl l_a1.len 3 (fun i => enc_44 (l_a1.get i)))))), (5, .one (.c (.p (.int .i64 iv1)))), (68, .one (.c (.p (.bool t68v1))))], [], []⟩
def f59_at1 (K : List PA → Prop) (X0 : St → Prop) (parts : Int) (l_a1 : (Sl FluxRow)) (iv1 : Int) (t68v1 : Bool) : Prop := vc Try.prog G59 ann59 (cdF Try.f59 [1, 0, 1, 0, 0, 1, 0, 0, 1, 1]) (blockK 1 (sqK Try.prog G59 ann59 (cdF Try.f59 [1, 0, 1, 0, 0, 1, 1]) (loopK Try.prog ann59 2 X0 (blockK 0 (sqK Try.prog G59 ann59 (cdF Try.f59 [1, 1]) (bodyK Try.prog Try.f59 K)))))) (f59_g1 parts l_a1 iv1 t68v1)
theorem f59_top (parts : Int) (l_a1 : (Sl FluxRow)) (K : List PA → Prop) :
  vcFun Try.prog G59 ann59 59 [.one (.int .i64 parts), .one (.sl l_a1.len 3 (fun i => enc_44 (l_a1.get i)))] K =
  (f59_at0 K parts l_a1 (0:Int)) := by kernel_rfl
def f59_step0 (K : List PA → Prop) (X0 : St → Prop) (parts : Int) (l_a1 : (Sl FluxRow)) (iv0 : Int) : Prop :=
  (condP (decide (iv0 < (l_a1.len : Int)))
   (((0 ≤ iv0 ∧ iv0 < (l_a1.len : Int))) ∧
   (condP (!(s58 ((l_a1.get iv0.toNat).Energy) (1:Int) (1000000:Int)))
    (f59_at1 K X0 parts l_a1 iv0 true)
    (condP (!(s29 ((l_a1.get iv0.toNat).Rate) (0:Int) parts))
     (f59_at1 K X0 parts l_a1 iv0 true)
     (condP (decide (iv0 > (0:Int)))
      (((0 ≤ (w64 (iv0 - (1:Int))) ∧ (w64 (iv0 - (1:Int))) < (l_a1.len : Int))) ∧
      (condP (decide ((l_a1.get iv0.toNat).Energy ≤ (l_a1.get ((w64 (iv0 - (1:Int))).toNat)).Energy))
       (f59_at1 K X0 parts l_a1 iv0 true)
       (((0 ≤ (w64 (iv0 - (1:Int))) ∧ (w64 (iv0 - (1:Int))) < (l_a1.len : Int))) ∧
       (condP (decide ((l_a1.get iv0.toNat).Rate.Low > (l_a1.get ((w64 (iv0 - (1:Int))).toNat)).Rate.Low))
        (f59_at1 K X0 parts l_a1 iv0 true)
        (((0 ≤ (w64 (iv0 - (1:Int))) ∧ (w64 (iv0 - (1:Int))) < (l_a1.len : Int))) ∧
        (f59_at1 K X0 parts l_a1 iv0 (decide ((l_a1.get iv0.toNat).Rate.High > (l_a1.get ((w64 (iv0 - (1:Int))).toNat)).Rate.High))))))))
      (f59_at1 K X0 parts l_a1 iv0 false)))))
   (condP (s58 (l_a1.len : Int) (1:Int) (40:Int))
    (((0 ≤ (0:Int) ∧ (0:Int) < (l_a1.len : Int))) ∧
    (K [.one (.bool ((l_a1.get 0).Energy == (1:Int)))]))
    (K [.one (.bool false)])))
theorem f59_stepeq0 (K : List PA → Prop) (X0 : St → Prop) (parts : Int) (l_a1 : (Sl FluxRow)) (iv0 : Int) :
  vc Try.prog G59 ann59 (cd (cdF Try.f59 [1, 0, 1, 0]) [0]) (loopK Try.prog ann59 2 X0 (blockK 0 (sqK Try.prog G59 ann59 (cdF Try.f59 [1, 1]) (bodyK Try.prog Try.f59 K)))) (f59_g0 parts l_a1 iv0) =
  f59_step0 K X0 parts l_a1 iv0 := by kernel_rfl
theorem f59_loop0 (K : List PA → Prop) (parts : Int) (l_a1 : (Sl FluxRow)) (iv0 : Int)
  (h : ∀ X0 : St → Prop, (∀ (iv0 : Int), f59_step0 K X0 parts l_a1 iv0 → X0 (f59_g0 parts l_a1 iv0)) → X0 (f59_g0 parts l_a1 iv0)) :
  f59_at0 K parts l_a1 iv0 := by
  have e : f59_at0 K parts l_a1 iv0 = (∀ X : St → Prop, (∀ s, vc Try.prog G59 ann59 (cd (cdF Try.f59 [1, 0, 1, 0]) [0]) (loopK Try.prog ann59 2 X (blockK 0 (sqK Try.prog G59 ann59 (cdF Try.f59 [1, 1]) (bodyK Try.prog Try.f59 K)))) s → X s) → X (f59_g0 parts l_a1 iv0)) := by kernel_rfl
  refine ofEq e ?_
  intro X hX
  refine h X ?_
  intro iv0 hs
  refine hX _ ?_
  have e2 := f59_stepeq0 K X parts l_a1 iv0
  rw [e2]
  exact hs
theorem f59_eq1 (K : List PA → Prop) (X0 : St → Prop) (parts : Int) (l_a1 : (Sl FluxRow)) (iv1 : Int) (t68v1 : Bool) :
  f59_at1 K X0 parts l_a1 iv1 t68v1 =
  (condP t68v1
   (K [.one (.bool false)])
   (X0 (f59_g0 parts l_a1 (w64 (iv1 + (1:Int)))))) := by kernel_rfl
abbrev R59 := Bool
abbrev e59 (r : Bool) : List PA := [.one (.bool r)]
attribute [irreducible] f59_at0 f59_at1
def s59_at1 (S0 : Int → Bool) (parts : Int) (l_a1 : (Sl FluxRow)) (iv1 : Int) (t68v1 : Bool) : Bool :=
  (cond t68v1
   false
   (S0 (w64 (iv1 + (1:Int)))))
def p59_at1 (P0 : Int → Bool) (parts : Int) (l_a1 : (Sl FluxRow)) (iv1 : Int) (t68v1 : Bool) : Bool :=
  (cond t68v1
   true
   (P0 (w64 (iv1 + (1:Int)))))
theorem q59_at1 (K : List PA → Prop) (parts : Int) (l_a1 : (Sl FluxRow))
  (X0 : St → Prop) (P0 : Int → Bool) (S0 : Int → Bool)
  (hX0 : ∀ (iv0 : Int), P0 iv0 = true → K (e59 (S0 iv0)) → X0 (f59_g0 parts l_a1 iv0)) (iv1 : Int) (t68v1 : Bool) (hs : p59_at1 P0 parts l_a1 iv1 t68v1 = true) (hk : K (e59 (s59_at1 S0 parts l_a1 iv1 t68v1))) : f59_at1 K X0 parts l_a1 iv1 t68v1 := by
  refine ofEq (f59_eq1 K X0 parts l_a1 iv1 t68v1) ?_
  unfold p59_at1 at hs
  unfold s59_at1 at hk
  exact (condB_go (K := fun r => K (e59 r))
   (fun hs hk => hk)
   (fun hs hk => (hX0 (w64 (iv1 + (1:Int))) hs hk)) hs hk)
def s59_st0 (parts : Int) (l_a1 : (Sl FluxRow)) (S0 : Int → Bool) (iv0 : Int) : Bool :=
  (cond (decide (iv0 < (l_a1.len : Int)))
   (cond (!(s58 ((l_a1.get iv0.toNat).Energy) (1:Int) (1000000:Int)))
    (s59_at1 S0 parts l_a1 iv0 true)
    (cond (!(s29 ((l_a1.get iv0.toNat).Rate) (0:Int) parts))
     (s59_at1 S0 parts l_a1 iv0 true)
     (cond (decide (iv0 > (0:Int)))
      (cond (decide ((l_a1.get iv0.toNat).Energy ≤ (l_a1.get ((w64 (iv0 - (1:Int))).toNat)).Energy))
       (s59_at1 S0 parts l_a1 iv0 true)
       (cond (decide ((l_a1.get iv0.toNat).Rate.Low > (l_a1.get ((w64 (iv0 - (1:Int))).toNat)).Rate.Low))
        (s59_at1 S0 parts l_a1 iv0 true)
        (s59_at1 S0 parts l_a1 iv0 (decide ((l_a1.get iv0.toNat).Rate.High > (l_a1.get ((w64 (iv0 - (1:Int))).toNat)).Rate.High)))))
      (s59_at1 S0 parts l_a1 iv0 false))))
   (cond (s58 (l_a1.len : Int) (1:Int) (40:Int))
    ((l_a1.get 0).Energy == (1:Int))
    false))
def p59_st0 (parts : Int) (l_a1 : (Sl FluxRow)) (P0 : Int → Bool) (iv0 : Int) : Bool :=
  (cond (decide (iv0 < (l_a1.len : Int)))
   (decide ((0 ≤ iv0 ∧ iv0 < (l_a1.len : Int))) &&
   (cond (!(s58 ((l_a1.get iv0.toNat).Energy) (1:Int) (1000000:Int)))
    (p59_at1 P0 parts l_a1 iv0 true)
    (cond (!(s29 ((l_a1.get iv0.toNat).Rate) (0:Int) parts))
     (p59_at1 P0 parts l_a1 iv0 true)
     (cond (decide (iv0 > (0:Int)))
      (decide ((0 ≤ (w64 (iv0 - (1:Int))) ∧ (w64 (iv0 - (1:Int))) < (l_a1.len : Int))) &&
      (cond (decide ((l_a1.get iv0.toNat).Energy ≤ (l_a1.get ((w64 (iv0 - (1:Int))).toNat)).Energy))
       (p59_at1 P0 parts l_a1 iv0 true)
       (decide ((0 ≤ (w64 (iv0 - (1:Int))) ∧ (w64 (iv0 - (1:Int))) < (l_a1.len : Int))) &&
       (cond (decide ((l_a1.get iv0.toNat).Rate.Low > (l_a1.get ((w64 (iv0 - (1:Int))).toNat)).Rate.Low))
        (p59_at1 P0 parts l_a1 iv0 true)
        (decide ((0 ≤ (w64 (iv0 - (1:Int))) ∧ (w64 (iv0 - (1:Int))) < (l_a1.len : Int))) &&
        (p59_at1 P0 parts l_a1 iv0 (decide ((l_a1.get iv0.toNat).Rate.High > (l_a1.get ((w64 (iv0 - (1:Int))).toNat)).Rate.High))))))))
      (p59_at1 P0 parts l_a1 iv0 false)))))
   (cond (s58 (l_a1.len : Int) (1:Int) (40:Int))
    (decide ((0 ≤ (0:Int) ∧ (0:Int) < (l_a1.len : Int))) &&
    true)
    true))
def s59_lp0 (parts : Int) (l_a1 : (Sl FluxRow)) : Nat → Int → Bool
  | 0 => fun _ => default
  | k + 1 => s59_st0 parts l_a1 (s59_lp0 parts l_a1 k)
def p59_lp0 (parts : Int) (l_a1 : (Sl FluxRow)) : Nat → Int → Bool
  | 0 => fun _ => false
  | k + 1 => p59_st0 parts l_a1 (p59_lp0 parts l_a1 k)
def s59_at0 (parts : Int) (l_a1 : (Sl FluxRow)) (iv0 : Int) : Bool := s59_lp0 parts l_a1 Fuel iv0
def p59_at0 (parts : Int) (l_a1 : (Sl FluxRow)) (iv0 : Int) : Bool := p59_lp0 parts l_a1 Fuel iv0
theorem q59_at0 (K : List PA → Prop) (parts : Int) (l_a1 : (Sl FluxRow)) (iv0 : Int) (hs : p59_at0 parts l_a1 iv0 = true) (hk : K (e59 (s59_at0 parts l_a1 iv0))) : f59_at0 K parts l_a1 iv0 := by
  refine f59_loop0 K parts l_a1 iv0 ?_
  intro X0 hstep
  have key : ∀ (k : Nat) (iv0 : Int), p59_lp0 parts l_a1 k iv0 = true → K (e59 (s59_lp0 parts l_a1 k iv0)) → X0 (f59_g0 parts l_a1 iv0) := by
    intro k
    induction k with
    | zero => intro iv0 hs; exact absurd hs Bool.false_ne_true
    | succ k ih =>
      intro iv0 hs hk
      refine hstep iv0 ?_
      have hs : p59_st0 parts l_a1 (p59_lp0 parts l_a1 k) iv0 = true := hs
      have hk : K (e59 (s59_st0 parts l_a1 (s59_lp0 parts l_a1 k) iv0)) := hk
      unfold p59_st0 at hs
      unfold s59_st0 at hk
      generalize s59_lp0 parts l_a1 k = S0 at hk ih
      generalize p59_lp0 parts l_a1 k = P0 at hs ih
      have hX0 := ih
      exact (condB_go (K := fun r => K (e59 r))
       (fun hs hk => (andK hs fun hc hs => ⟨hc, (condB_go (K := fun r => K (e59 r))
        (fun hs hk => (q59_at1 K parts l_a1 X0 P0 S0 hX0 iv0 true hs hk))
        (fun hs hk => (condB_go (K := fun r => K (e59 r))
         (fun hs hk => (q59_at1 K parts l_a1 X0 P0 S0 hX0 iv0 true hs hk))
         (fun hs hk => (condB_go (K := fun r => K (e59 r))
          (fun hs hk => (andK hs fun hc hs => ⟨hc, (condB_go (K := fun r => K (e59 r))
           (fun hs hk => (q59_at1 K parts l_a1 X0 P0 S0 hX0 iv0 true hs hk))
           (fun hs hk => (andK hs fun hc hs => ⟨hc, (condB_go (K := fun r => K (e59 r))
            (fun hs hk => (q59_at1 K parts l_a1 X0 P0 S0 hX0 iv0 true hs hk))
            (fun hs hk => (andK hs fun hc hs => ⟨hc, (q59_at1 K parts l_a1 X0 P0 S0 hX0 iv0 (decide ((l_a1.get iv0.toNat).Rate.High > (l_a1.get ((w64 (iv0 - (1:Int))).toNat)).Rate.High)) hs hk)⟩)) hs hk)⟩)) hs hk)⟩))
          (fun hs hk => (q59_at1 K parts l_a1 X0 P0 S0 hX0 iv0 false hs hk)) hs hk)) hs hk)) hs hk)⟩))
       (fun hs hk => (condB_go (K := fun r => K (e59 r))
        (fun hs hk => (andK hs fun hc hs => ⟨hc, hk⟩))
        (fun hs hk => hk) hs hk)) hs hk)
  exact key _ iv0 hs hk
def s59 (parts : Int) (l_a1 : (Sl FluxRow)) : Bool :=
  (s59_at0 parts l_a1 (0:Int))
def p59 (parts : Int) (l_a1 : (Sl FluxRow)) : Bool :=
  (p59_at0 parts l_a1 (0:Int))
theorem q59 (parts : Int) (l_a1 : (Sl FluxRow)) (K : List PA → Prop) (hs : p59 parts l_a1 = true) (hk : K (e59 (s59 parts l_a1))) : vcFun Try.prog G59 ann59 59 [.one (.int .i64 parts), .one (.sl l_a1.len 3 (fun i => enc_44 (l_a1.get i)))] K := by
  refine ofEq (f59_top parts l_a1 K) ?_
  unfold p59 at hs
  unfold s59 at hk
  exact (q59_at0 K parts l_a1 (0:Int) hs hk)
def ctr59 : List PA → COut
  | [.one (.int .i64 a0), .one (.sl a1_n a1_s a1_g)] => .det (IsE enc_44 3 a1_s a1_g ∧ p59 a0 (⟨a1_n, decF_44 a1_g⟩ : (Sl FluxRow)) = true) [.one (.bool (s59 a0 (⟨a1_n, decF_44 a1_g⟩ : (Sl FluxRow))))]
  | _ => .no
theorem call59 : Callable Try.prog 59 := ⟨_, rfl, rfl, by kernel_rfl⟩
theorem ok59 : Ok Try.prog 59 ctr59 := ok_tab okT59 call59 fun args K h => by
  unfold ctr59 at h
  split at h
  · rename_i a0 a1_n a1_s a1_g
    obtain ⟨⟨⟨rfl, a1_f, rfl⟩, hs⟩, hk⟩ := h
    try rw [decF_enc_44 a1_f] at hs
    try rw [decF_enc_44 a1_f] at hk
    exact ⟨(fun _ _ => []), (fun _ => false), ann59, q59 a0 (⟨a1_n, a1_f⟩ : (Sl FluxRow)) K hs hk⟩
  · exact h.elim
-- 16 overburdenref05.Sky
abbrev T16 : Tabs := (((Tabs.nil.addF 29 ctr29).addF 58 ctr58).addF 59 ctr59)
theorem okT16 : TabsOk Try.prog T16 := (((TabsOk.nil.addF ok29).addF ok58).addF ok59)
abbrev G16 : Ctrs := csm T16 (fun _ _ => []) (fun _ => false)
def ann16 : Ann := ⟨43, [(0, ⟨[1], [1], [], [], []⟩), (1, ⟨[1, 26], [1], [], [], []⟩), (2, ⟨[2], [], [], [], []⟩), (3, ⟨[1, 3], [1], [], [], []⟩), (4, ⟨[1, 3, 31], [1], [], [], []⟩), (5, ⟨[1, 3], [1], [], [], []⟩), (6, ⟨[1, 3, 42], [1], [], [], []⟩), (7, ⟨[2], [], [], [], []⟩), (8, ⟨[2], [], [], [], []⟩)],
  [(4, ⟨[1, 3], [1], [], [], []⟩)],
  [(2, ⟨[1, 26], [1], [], [], []⟩), (3, ⟨[1], [1], [], [], []⟩), (7, ⟨[1, 3, 42], [1], [], [], []⟩)],
  [], []⟩
def f16_g0 (s : Sky) (t26v0 : Bool) (s_1v0_n : Nat) (s_1v0_g : Nat → List PV) : St := ⟨[(1, .one (.c (.ptr 1 0))), (26, .one (.c (.p (.bool t26v0))))], [(1, .box 26 [.p (.int .i64 s.Parts), .p (.sl s_1v0_n 1 s_1v0_g), .p (.int .i64 s.Beta.Low), .p (.int .i64 s.Beta.High), .p (.int .i64 s.Alpha.Low), .p (.int .i64 s.Alpha.High)])], []⟩
def f16_at0 (K : List PA → Prop) (s : Sky) (t26v0 : Bool) (s_1v0_n : Nat) (s_1v0_g : Nat → List PV) : Prop := vc Try.prog G16 ann16 (cdF Try.f16 [1, 0, 1]) (sqK Try.prog G16 ann16 (cdF Try.f16 [1, 1]) (bodyK Try.prog Try.f16 K)) (f16_g0 s t26v0 s_1v0_n s_1v0_g)
def f16_g1 (s : Sky) (s_1v1_n : Nat) (s_1v1_g : Nat → List PV) : St := ⟨[(1, .one (.c (.ptr 1 0)))], [(1, .box 26 [.p (.int .i64 s.Parts), .p (.sl s_1v1_n 1 s_1v1_g), .p (.int .i64 s.Beta.Low), .p (.int .i64 s.Beta.High), .p (.int .i64 s.Alpha.Low), .p (.int .i64 s.Alpha.High)])], []⟩
def f16_at1 (K : List PA → Prop) (s : Sky) (s_1v1_n : Nat) (s_1v1_g : Nat → List PV) : Prop := vc Try.prog G16 ann16 (cdF Try.f16 [1, 1]) (bodyK Try.prog Try.f16 K) (f16_g1 s s_1v1_n s_1v1_g)
def f16_g2 (s : Sky) (iv2 : Int) (s_1v2_n : Nat) (s_1v2_g : Nat → List PV) : St := ⟨[(1, .one (.c (.ptr 1 0))), (3, .one (.c (.p (.int .i64 iv2))))], [(1, .box 26 [.p (.int .i64 s.Parts), .p (.sl s_1v2_n 1 s_1v2_g), .p (.int .i64 s.Beta.Low), .p (.int .i64 s.Beta.High), .p (.int .i64 s.Alpha.Low), .p (.int .i64 s.Alpha.High)])], []⟩
def f16_at2 (K : List PA → Prop) (s : Sky) (iv2 : Int) (s_1v2_n : Nat) (s_1v2_g : Nat → List PV) : Prop := vc Try.prog G16 ann16 (cdF Try.f16 [1, 1, 0, 1, 0]) (blockK 0 (sqK Try.prog G16 ann16 (cdF Try.f16 [1, 1, 1]) (bodyK Try.prog Try.f16 K))) (f16_g2 s iv2 s_1v2_n s_1v2_g)
def f16_g3 (s : Sky) (iv3 : Int) (t42v3 : Bool) (s_1v3_n : Nat) (s_1v3_g : Nat → List PV) : St := ⟨[(1, .one (.c (.ptr 1 0))), (3, .one (.c (.p (.int .i64 iv3)))), (42, .one (.c (.p (.bool t42v3))))], [(1, .box 26 [.p (.int .i64 s.Parts), .p (.sl s_1v3_n 1 s_1v3_g), .p (.int .i64 s.Beta.Low), .p (.int .i64 s.Beta.High), .p (.int .i64 s.Alpha.Low), .p (.int .i64 s.Alpha.High)])], []⟩
def f16_at3 (K : List PA → Prop) (X2 : St → Prop) (s : Sky) (iv3 : Int) (t42v3 : Bool) (s_1v3_n : Nat) (s_1v3_g : Nat → List PV) : Prop := vc Try.prog G16 ann16 (cdF Try.f16 [1, 1, 0, 1, 0, 0, 1, 0, 0, 1]) (blockK 1 (sqK Try.prog G16 ann16 (cdF Try.f16 [1, 1, 0, 1, 0, 0, 1, 1]) (loopK Try.prog ann16 4 X2 (blockK 0 (sqK Try.prog G16 ann16 (cdF Try.f16 [1, 1, 1]) (bodyK Try.prog Try.f16 K)))))) (f16_g3 s iv3 t42v3 s_1v3_n s_1v3_g)
theorem f16_top (s : Sky) (K : List PA → Prop) :
  vcFun Try.prog G16 ann16 16 [.agg [.int .i64 s.Parts, .sl s.Bins.len 1 (fun i => enc_32 (s.Bins.get i)), .int .i64 s.Beta.Low, .int .i64 s.Beta.High, .int .i64 s.Alpha.Low, .int .i64 s.Alpha.High]] K =
  (condP (!(s58 s.Parts (2:Int) (1000000:Int)))
   (f16_at0 K s true s.Bins.len (fun i => enc_32 (s.Bins.get i)))
   (condP (!(s58 (s.Bins.len : Int) (1:Int) (20:Int)))
    (f16_at0 K s true s.Bins.len (fun i => enc_32 (s.Bins.get i)))
    (condP (!(s29 s.Beta (-100:Int) (100:Int)))
     (f16_at0 K s true s.Bins.len (fun i => enc_32 (s.Bins.get i)))
     (f16_at0 K s (!(s29 s.Alpha (-100:Int) (100:Int))) s.Bins.len (fun i => enc_32 (s.Bins.get i)))))) := by kernel_rfl
theorem f16_eq0 (K : List PA → Prop) (s : Sky) (t26v0 : Bool) (s_1v0 : (Sl (Sl FluxRow))) :
  f16_at0 K s t26v0 s_1v0.len (fun i => enc_32 (s_1v0.get i)) =
  (condP t26v0
   (K [.one (.bool false)])
   (f16_at1 K s s_1v0.len (fun i => enc_32 (s_1v0.get i)))) := by kernel_rfl
theorem f16_eq1 (K : List PA → Prop) (s : Sky) (s_1v1 : (Sl (Sl FluxRow))) :
  f16_at1 K s s_1v1.len (fun i => enc_32 (s_1v1.get i)) =
  (f16_at2 K s (0:Int) s_1v1.len (fun i => enc_32 (s_1v1.get i))) := by kernel_rfl
def f16_step2 (K : List PA → Prop) (X2 : St → Prop) (s : Sky) (iv2 : Int) (s_1v2 : (Sl (Sl FluxRow))) : Prop :=
  (condP (decide (iv2 < (s_1v2.len : Int)))
   (((0 ≤ iv2 ∧ iv2 < (s_1v2.len : Int))) ∧
   ((IsE enc_44 3 3 (fun i => enc_44 ((s_1v2.get iv2.toNat).get i)) ∧ (p59 s.Parts (s_1v2.get iv2.toNat) = true)) ∧
   (f16_at3 K X2 s iv2 (!(s59 s.Parts (s_1v2.get iv2.toNat))) s_1v2.len (fun i => enc_32 (s_1v2.get i)))))
   (K [.one (.bool true)]))
theorem f16_stepeq2 (K : List PA → Prop) (X2 : St → Prop) (s : Sky) (iv2 : Int) (s_1v2 : (Sl (Sl FluxRow))) :
  vc Try.prog G16 ann16 (cd (cdF Try.f16 [1, 1, 0, 1, 0]) [0]) (loopK Try.prog ann16 4 X2 (blockK 0 (sqK Try.prog G16 ann16 (cdF Try.f16 [1, 1, 1]) (bodyK Try.prog Try.f16 K)))) (f16_g2 s iv2 s_1v2.len (fun i => enc_32 (s_1v2.get i))) =
  f16_step2 K X2 s iv2 s_1v2 := by kernel_rfl
theorem f16_loop2 (K : List PA → Prop) (s : Sky) (iv2 : Int) (s_1v2_n : Nat) (s_1v2_g : Nat → List PV)
  (h : ∀ X2 : St → Prop, (∀ (iv2 : Int) (s_1v2 : (Sl (Sl FluxRow))), f16_step2 K X2 s iv2 s_1v2 → X2 (f16_g2 s iv2 s_1v2.len (fun i => enc_32 (s_1v2.get i)))) → X2 (f16_g2 s iv2 s_1v2_n s_1v2_g)) :
  f16_at2 K s iv2 s_1v2_n s_1v2_g := by
  have e : f16_at2 K s iv2 s_1v2_n s_1v2_g = (∀ X : St → Prop, (∀ s, vc Try.prog G16 ann16 (cd (cdF Try.f16 [1, 1, 0, 1, 0]) [0]) (loopK Try.prog ann16 4 X (blockK 0 (sqK Try.prog G16 ann16 (cdF Try.f16 [1, 1, 1]) (bodyK Try.prog Try.f16 K)))) s → X s) → X (f16_g2 s iv2 s_1v2_n s_1v2_g)) := by kernel_rfl
  refine ofEq e ?_
  intro X hX
  refine h X ?_
  intro iv2 s_1v2 hs
  refine hX _ ?_
  have e2 := f16_stepeq2 K X s iv2 s_1v2
  rw [e2]
  exact hs
theorem f16_eq3 (K : List PA → Prop) (X2 : St → Prop) (s : Sky) (iv3 : Int) (t42v3 : Bool) (s_1v3 : (Sl (Sl FluxRow))) :
  f16_at3 K X2 s iv3 t42v3 s_1v3.len (fun i => enc_32 (s_1v3.get i)) =
  (condP t42v3
   (K [.one (.bool false)])
   (X2 (f16_g2 s (w64 (iv3 + (1:Int))) s_1v3.len (fun i => enc_32 (s_1v3.get i))))) := by kernel_rfl
abbrev R16 := Bool
abbrev e16 (r : Bool) : List PA := [.one (.bool r)]
attribute [irreducible] f16_at0 f16_at1 f16_at2 f16_at3
def s16_at3 (S2 : Int → (Sl (Sl FluxRow)) → Bool) (s : Sky) (iv3 : Int) (t42v3 : Bool) (s_1v3 : (Sl (Sl FluxRow))) : Bool :=
  (cond t42v3
   false
   (S2 (w64 (iv3 + (1:Int))) s_1v3))
def p16_at3 (P2 : Int → (Sl (Sl FluxRow)) → Bool) (s : Sky) (iv3 : Int) (t42v3 : Bool) (s_1v3 : (Sl (Sl FluxRow))) : Bool :=
  (cond t42v3
   true
   (P2 (w64 (iv3 + (1:Int))) s_1v3))
theorem q16_at3 (K : List PA → Prop) (s : Sky)
  (X2 : St → Prop) (P2 : Int → (Sl (Sl FluxRow)) → Bool) (S2 : Int → (Sl (Sl FluxRow)) → Bool)
  (hX2 : ∀ (iv2 : Int) (s_1v2 : (Sl (Sl FluxRow))) (s_1v2_g : Nat → List PV) (s_1v2_h : s_1v2_g = fun i => enc_32 (s_1v2.get i)), P2 iv2 s_1v2 = true → K (e16 (S2 iv2 s_1v2)) → X2 (f16_g2 s iv2 s_1v2.len s_1v2_g)) (iv3 : Int) (t42v3 : Bool) (s_1v3 : (Sl (Sl FluxRow))) (s_1v3_g : Nat → List PV) (s_1v3_h : s_1v3_g = fun i => enc_32 (s_1v3.get i)) (hs : p16_at3 P2 s iv3 t42v3 s_1v3 = true) (hk : K (e16 (s16_at3 S2 s iv3 t42v3 s_1v3))) : f16_at3 K X2 s iv3 t42v3 s_1v3.len s_1v3_g := by
  subst s_1v3_h
  refine ofEq (f16_eq3 K X2 s iv3 t42v3 s_1v3) ?_
  unfold p16_at3 at hs
  unfold s16_at3 at hk
  exact (condB_go (K := fun r => K (e16 r))
   (fun hs hk => hk)
   (fun hs hk => (hX2 (w64 (iv3 + (1:Int))) s_1v3 (fun i => enc_32 (s_1v3.get i)) rfl hs hk)) hs hk)
def s16_st2 (s : Sky) (S2 : Int → (Sl (Sl FluxRow)) → Bool) (iv2 : Int) (s_1v2 : (Sl (Sl FluxRow))) : Bool :=
  (cond (decide (iv2 < (s_1v2.len : Int)))
   (s16_at3 S2 s iv2 (!(s59 s.Parts (s_1v2.get iv2.toNat))) s_1v2)
   true)
def p16_st2 (s : Sky) (P2 : Int → (Sl (Sl FluxRow)) → Bool) (iv2 : Int) (s_1v2 : (Sl (Sl FluxRow))) : Bool :=
  (cond (decide (iv2 < (s_1v2.len : Int)))
   (decide ((0 ≤ iv2 ∧ iv2 < (s_1v2.len : Int))) &&
   (decide ((p59 s.Parts (s_1v2.get iv2.toNat) = true)) &&
   (p16_at3 P2 s iv2 (!(s59 s.Parts (s_1v2.get iv2.toNat))) s_1v2)))
   true)
def s16_lp2 (s : Sky) : Nat → Int → (Sl (Sl FluxRow)) → Bool
  | 0 => fun _ _ => default
  | k + 1 => s16_st2 s (s16_lp2 s k)
def p16_lp2 (s : Sky) : Nat → Int → (Sl (Sl FluxRow)) → Bool
  | 0 => fun _ _ => false
  | k + 1 => p16_st2 s (p16_lp2 s k)
def s16_at2 (s : Sky) (iv2 : Int) (s_1v2 : (Sl (Sl FluxRow))) : Bool := s16_lp2 s Fuel iv2 s_1v2
def p16_at2 (s : Sky) (iv2 : Int) (s_1v2 : (Sl (Sl FluxRow))) : Bool := p16_lp2 s Fuel iv2 s_1v2
theorem q16_at2 (K : List PA → Prop) (s : Sky) (iv2 : Int) (s_1v2 : (Sl (Sl FluxRow))) (s_1v2_g : Nat → List PV) (s_1v2_h : s_1v2_g = fun i => enc_32 (s_1v2.get i)) (hs : p16_at2 s iv2 s_1v2 = true) (hk : K (e16 (s16_at2 s iv2 s_1v2))) : f16_at2 K s iv2 s_1v2.len s_1v2_g := by
  refine f16_loop2 K s iv2 s_1v2.len s_1v2_g ?_
  intro X2 hstep
  have key : ∀ (k : Nat) (iv2 : Int) (s_1v2 : (Sl (Sl FluxRow))) (s_1v2_g : Nat → List PV) (s_1v2_h : s_1v2_g = fun i => enc_32 (s_1v2.get i)), p16_lp2 s k iv2 s_1v2 = true → K (e16 (s16_lp2 s k iv2 s_1v2)) → X2 (f16_g2 s iv2 s_1v2.len s_1v2_g) := by
    intro k
    induction k with
    | zero => intro iv2 s_1v2 s_1v2_g s_1v2_h hs; exact absurd hs Bool.false_ne_true
    | succ k ih =>
      intro iv2 s_1v2 s_1v2_g s_1v2_h hs hk
      subst s_1v2_h
      refine hstep iv2 s_1v2 ?_
      have hs : p16_st2 s (p16_lp2 s k) iv2 s_1v2 = true := hs
      have hk : K (e16 (s16_st2 s (s16_lp2 s k) iv2 s_1v2)) := hk
      unfold p16_st2 at hs
      unfold s16_st2 at hk
      generalize s16_lp2 s k = S2 at hk ih
      generalize p16_lp2 s k = P2 at hs ih
      have hX2 := ih
      exact (condB_go (K := fun r => K (e16 r))
       (fun hs hk => (andK hs fun hc hs => ⟨hc, (andK hs fun hc hs => ⟨⟨isE, hc⟩, (q16_at3 K s X2 P2 S2 hX2 iv2 (!(s59 s.Parts (s_1v2.get iv2.toNat))) s_1v2 (fun i => enc_32 (s_1v2.get i)) rfl hs hk)⟩)⟩))
       (fun hs hk => hk) hs hk)
  exact key _ iv2 s_1v2 s_1v2_g s_1v2_h hs hk
def s16_at1 (s : Sky) (s_1v1 : (Sl (Sl FluxRow))) : Bool :=
  (s16_at2 s (0:Int) s_1v1)
def p16_at1 (s : Sky) (s_1v1 : (Sl (Sl FluxRow))) : Bool :=
  (p16_at2 s (0:Int) s_1v1)
theorem q16_at1 (K : List PA → Prop) (s : Sky) (s_1v1 : (Sl (Sl FluxRow))) (s_1v1_g : Nat → List PV) (s_1v1_h : s_1v1_g = fun i => enc_32 (s_1v1.get i)) (hs : p16_at1 s s_1v1 = true) (hk : K (e16 (s16_at1 s s_1v1))) : f16_at1 K s s_1v1.len s_1v1_g := by
  subst s_1v1_h
  refine ofEq (f16_eq1 K s s_1v1) ?_
  unfold p16_at1 at hs
  unfold s16_at1 at hk
  exact (q16_at2 K s (0:Int) s_1v1 (fun i => enc_32 (s_1v1.get i)) rfl hs hk)
def s16_at0 (s : Sky) (t26v0 : Bool) (s_1v0 : (Sl (Sl FluxRow))) : Bool :=
  (cond t26v0
   false
   (s16_at1 s s_1v0))
def p16_at0 (s : Sky) (t26v0 : Bool) (s_1v0 : (Sl (Sl FluxRow))) : Bool :=
  (cond t26v0
   true
   (p16_at1 s s_1v0))
theorem q16_at0 (K : List PA → Prop) (s : Sky) (t26v0 : Bool) (s_1v0 : (Sl (Sl FluxRow))) (s_1v0_g : Nat → List PV) (s_1v0_h : s_1v0_g = fun i => enc_32 (s_1v0.get i)) (hs : p16_at0 s t26v0 s_1v0 = true) (hk : K (e16 (s16_at0 s t26v0 s_1v0))) : f16_at0 K s t26v0 s_1v0.len s_1v0_g := by
  subst s_1v0_h
  refine ofEq (f16_eq0 K s t26v0 s_1v0) ?_
  unfold p16_at0 at hs
  unfold s16_at0 at hk
  exact (condB_go (K := fun r => K (e16 r))
   (fun hs hk => hk)
   (fun hs hk => (q16_at1 K s s_1v0 (fun i => enc_32 (s_1v0.get i)) rfl hs hk)) hs hk)
def s16 (s : Sky) : Bool :=
  (cond (!(s58 s.Parts (2:Int) (1000000:Int)))
   (s16_at0 s true s.Bins)
   (cond (!(s58 (s.Bins.len : Int) (1:Int) (20:Int)))
    (s16_at0 s true s.Bins)
    (cond (!(s29 s.Beta (-100:Int) (100:Int)))
     (s16_at0 s true s.Bins)
     (s16_at0 s (!(s29 s.Alpha (-100:Int) (100:Int))) s.Bins))))
def p16 (s : Sky) : Bool :=
  (cond (!(s58 s.Parts (2:Int) (1000000:Int)))
   (p16_at0 s true s.Bins)
   (cond (!(s58 (s.Bins.len : Int) (1:Int) (20:Int)))
    (p16_at0 s true s.Bins)
    (cond (!(s29 s.Beta (-100:Int) (100:Int)))
     (p16_at0 s true s.Bins)
     (p16_at0 s (!(s29 s.Alpha (-100:Int) (100:Int))) s.Bins))))
theorem q16 (s : Sky) (K : List PA → Prop) (hs : p16 s = true) (hk : K (e16 (s16 s))) : vcFun Try.prog G16 ann16 16 [.agg [.int .i64 s.Parts, .sl s.Bins.len 1 (fun i => enc_32 (s.Bins.get i)), .int .i64 s.Beta.Low, .int .i64 s.Beta.High, .int .i64 s.Alpha.Low, .int .i64 s.Alpha.High]] K := by
  refine ofEq (f16_top s K) ?_
  unfold p16 at hs
  unfold s16 at hk
  exact (condB_go (K := fun r => K (e16 r))
   (fun hs hk => (q16_at0 K s true s.Bins (fun i => enc_32 (s.Bins.get i)) rfl hs hk))
   (fun hs hk => (condB_go (K := fun r => K (e16 r))
    (fun hs hk => (q16_at0 K s true s.Bins (fun i => enc_32 (s.Bins.get i)) rfl hs hk))
    (fun hs hk => (condB_go (K := fun r => K (e16 r))
     (fun hs hk => (q16_at0 K s true s.Bins (fun i => enc_32 (s.Bins.get i)) rfl hs hk))
     (fun hs hk => (q16_at0 K s (!(s29 s.Alpha (-100:Int) (100:Int))) s.Bins (fun i => enc_32 (s.Bins.get i)) rfl hs hk)) hs hk)) hs hk)) hs hk)
def ctr16 : List PA → COut
  | [.agg [.int .i64 a0_Parts, .sl a0_Bins_n a0_Bins_s a0_Bins_g, .int .i64 a0_Beta_Low, .int .i64 a0_Beta_High, .int .i64 a0_Alpha_Low, .int .i64 a0_Alpha_High]] => .det (IsE enc_32 1 a0_Bins_s a0_Bins_g ∧ p16 (⟨a0_Parts, (⟨a0_Bins_n, decF_32 a0_Bins_g⟩ : (Sl (Sl FluxRow))), (⟨a0_Beta_Low, a0_Beta_High⟩ : Span), (⟨a0_Alpha_Low, a0_Alpha_High⟩ : Span)⟩ : Sky) = true) [.one (.bool (s16 (⟨a0_Parts, (⟨a0_Bins_n, decF_32 a0_Bins_g⟩ : (Sl (Sl FluxRow))), (⟨a0_Beta_Low, a0_Beta_High⟩ : Span), (⟨a0_Alpha_Low, a0_Alpha_High⟩ : Span)⟩ : Sky)))]
  | _ => .no
theorem call16 : Callable Try.prog 16 := ⟨_, rfl, rfl, by kernel_rfl⟩
theorem ok16 : Ok Try.prog 16 ctr16 := ok_tab okT16 call16 fun args K h => by
  unfold ctr16 at h
  split at h
  · rename_i a0_Parts a0_Bins_n a0_Bins_s a0_Bins_g a0_Beta_Low a0_Beta_High a0_Alpha_Low a0_Alpha_High
    obtain ⟨⟨⟨rfl, a0_Bins_f, rfl⟩, hs⟩, hk⟩ := h
    try rw [decF_enc_32 a0_Bins_f] at hs
    try rw [decF_enc_32 a0_Bins_f] at hk
    exact ⟨(fun _ _ => []), (fun _ => false), ann16, q16 (⟨a0_Parts, (⟨a0_Bins_n, a0_Bins_f⟩ : (Sl (Sl FluxRow))), (⟨a0_Beta_Low, a0_Beta_High⟩ : Span), (⟨a0_Alpha_Low, a0_Alpha_High⟩ : Span)⟩ : Sky) K hs hk⟩
  · exact h.elim
-- 17 overburdenref05.Ranges
abbrev T17 : Tabs := ((Tabs.nil.addF 29 ctr29).addF 58 ctr58)
theorem okT17 : TabsOk Try.prog T17 := ((TabsOk.nil.addF ok29).addF ok58)
abbrev G17 : Ctrs := csm T17 (fun _ _ => []) (fun _ => false)
def ann17 : Ann := ⟨69, [(0, ⟨[0], [], [], [], []⟩), (1, ⟨[0, 3], [], [], [], []⟩), (2, ⟨[0, 3, 8], [], [], [], []⟩), (3, ⟨[0, 3], [], [], [], []⟩), (4, ⟨[0, 3, 4], [4], [], [], []⟩), (5, ⟨[0, 3, 65], [], [], [], []⟩), (6, ⟨[2], [], [], [], []⟩), (7, ⟨[2], [], [], [], []⟩)],
  [(2, ⟨[0, 3], [], [], [], []⟩)],
  [(6, ⟨[0, 3, 65], [], [], [], []⟩)],
  [], []⟩
def f17_g0 (t : (Sl RangeRow)) (iv0 : Int) : St := ⟨[(0, .one (.c (.p (.sl t.len 3 (fun i => enc_42 (t.get i)))))), (3, .one (.c (.p (.int .i64 iv0))))], [], []⟩
def f17_at0 (K : List PA → Prop) (t : (Sl RangeRow)) (iv0 : Int) : Prop := vc Try.prog G17 ann17 (cdF Try.f17 [1, 0, 1, 0]) (blockK 0 (sqK Try.prog G17 ann17 (cdF Try.f17 [1, 1]) (bodyK Try.prog Try.f17 K))) (f17_g0 t iv0)
def f17_g1 (t : (Sl RangeRow)) (iv1 : Int) (t65v1 : Bool) : St := ⟨[(0, .one (.c (.p (.sl t.len 3 (fun i => enc_42 (t.get i)))))), (3, .one (.c (.p (.int .i64 iv1)))), (65, .one (.c (.p (.bool t65v1))))], [], []⟩
def f17_at1 (K : List PA → Prop) (X0 : St → Prop) (t : (Sl RangeRow)) (iv1 : Int) (t65v1 : Bool) : Prop := vc Try.prog G17 ann17 (cdF Try.f17 [1, 0, 1, 0, 0, 1, 0, 0, 1, 1]) (blockK 1 (sqK Try.prog G17 ann17 (cdF Try.f17 [1, 0, 1, 0, 0, 1, 1]) (loopK Try.prog ann17 2 X0 (blockK 0 (sqK Try.prog G17 ann17 (cdF Try.f17 [1, 1]) (bodyK Try.prog Try.f17 K)))))) (f17_g1 t iv1 t65v1)
theorem f17_top (t : (Sl RangeRow)) (K : List PA → Prop) :
  vcFun Try.prog G17 ann17 17 [.one (.sl t.len 3 (fun i => enc_42 (t.get i)))] K =
  (f17_at0 K t (0:Int)) := by kernel_rfl
def f17_step0 (K : List PA → Prop) (X0 : St → Prop) (t : (Sl RangeRow)) (iv0 : Int) : Prop :=
  (condP (decide (iv0 < (t.len : Int)))
   (((0 ≤ iv0 ∧ iv0 < (t.len : Int))) ∧
   (condP (!(s58 ((t.get iv0.toNat).Energy) (1:Int) (1000000:Int)))
    (f17_at1 K X0 t iv0 true)
    (condP (!(s29 ((t.get iv0.toNat).Range) (0:Int) (1000000:Int)))
     (f17_at1 K X0 t iv0 true)
     (condP (decide (iv0 > (0:Int)))
      (((0 ≤ (w64 (iv0 - (1:Int))) ∧ (w64 (iv0 - (1:Int))) < (t.len : Int))) ∧
      (condP (decide ((t.get iv0.toNat).Energy ≤ (t.get ((w64 (iv0 - (1:Int))).toNat)).Energy))
       (f17_at1 K X0 t iv0 true)
       (((0 ≤ (w64 (iv0 - (1:Int))) ∧ (w64 (iv0 - (1:Int))) < (t.len : Int))) ∧
       (condP (decide ((t.get iv0.toNat).Range.Low < (t.get ((w64 (iv0 - (1:Int))).toNat)).Range.Low))
        (f17_at1 K X0 t iv0 true)
        (((0 ≤ (w64 (iv0 - (1:Int))) ∧ (w64 (iv0 - (1:Int))) < (t.len : Int))) ∧
        (f17_at1 K X0 t iv0 (decide ((t.get iv0.toNat).Range.High < (t.get ((w64 (iv0 - (1:Int))).toNat)).Range.High))))))))
      (f17_at1 K X0 t iv0 false)))))
   (K [.one (.bool (s58 (t.len : Int) (1:Int) (40:Int)))]))
theorem f17_stepeq0 (K : List PA → Prop) (X0 : St → Prop) (t : (Sl RangeRow)) (iv0 : Int) :
  vc Try.prog G17 ann17 (cd (cdF Try.f17 [1, 0, 1, 0]) [0]) (loopK Try.prog ann17 2 X0 (blockK 0 (sqK Try.prog G17 ann17 (cdF Try.f17 [1, 1]) (bodyK Try.prog Try.f17 K)))) (f17_g0 t iv0) =
  f17_step0 K X0 t iv0 := by kernel_rfl
theorem f17_loop0 (K : List PA → Prop) (t : (Sl RangeRow)) (iv0 : Int)
  (h : ∀ X0 : St → Prop, (∀ (iv0 : Int), f17_step0 K X0 t iv0 → X0 (f17_g0 t iv0)) → X0 (f17_g0 t iv0)) :
  f17_at0 K t iv0 := by
  have e : f17_at0 K t iv0 = (∀ X : St → Prop, (∀ s, vc Try.prog G17 ann17 (cd (cdF Try.f17 [1, 0, 1, 0]) [0]) (loopK Try.prog ann17 2 X (blockK 0 (sqK Try.prog G17 ann17 (cdF Try.f17 [1, 1]) (bodyK Try.prog Try.f17 K)))) s → X s) → X (f17_g0 t iv0)) := by kernel_rfl
  refine ofEq e ?_
  intro X hX
  refine h X ?_
  intro iv0 hs
  refine hX _ ?_
  have e2 := f17_stepeq0 K X t iv0
  rw [e2]
  exact hs
theorem f17_eq1 (K : List PA → Prop) (X0 : St → Prop) (t : (Sl RangeRow)) (iv1 : Int) (t65v1 : Bool) :
  f17_at1 K X0 t iv1 t65v1 =
  (condP t65v1
   (K [.one (.bool false)])
   (X0 (f17_g0 t (w64 (iv1 + (1:Int)))))) := by kernel_rfl
abbrev R17 := Bool
abbrev e17 (r : Bool) : List PA := [.one (.bool r)]
attribute [irreducible] f17_at0 f17_at1
def s17_at1 (S0 : Int → Bool) (t : (Sl RangeRow)) (iv1 : Int) (t65v1 : Bool) : Bool :=
  (cond t65v1
   false
   (S0 (w64 (iv1 + (1:Int)))))
def p17_at1 (P0 : Int → Bool) (t : (Sl RangeRow)) (iv1 : Int) (t65v1 : Bool) : Bool :=
  (cond t65v1
   true
   (P0 (w64 (iv1 + (1:Int)))))
theorem q17_at1 (K : List PA → Prop) (t : (Sl RangeRow))
  (X0 : St → Prop) (P0 : Int → Bool) (S0 : Int → Bool)
  (hX0 : ∀ (iv0 : Int), P0 iv0 = true → K (e17 (S0 iv0)) → X0 (f17_g0 t iv0)) (iv1 : Int) (t65v1 : Bool) (hs : p17_at1 P0 t iv1 t65v1 = true) (hk : K (e17 (s17_at1 S0 t iv1 t65v1))) : f17_at1 K X0 t iv1 t65v1 := by
  refine ofEq (f17_eq1 K X0 t iv1 t65v1) ?_
  unfold p17_at1 at hs
  unfold s17_at1 at hk
  exact (condB_go (K := fun r => K (e17 r))
   (fun hs hk => hk)
   (fun hs hk => (hX0 (w64 (iv1 + (1:Int))) hs hk)) hs hk)
def s17_st0 (t : (Sl RangeRow)) (S0 : Int → Bool) (iv0 : Int) : Bool :=
  (cond (decide (iv0 < (t.len : Int)))
   (cond (!(s58 ((t.get iv0.toNat).Energy) (1:Int) (1000000:Int)))
    (s17_at1 S0 t iv0 true)
    (cond (!(s29 ((t.get iv0.toNat).Range) (0:Int) (1000000:Int)))
     (s17_at1 S0 t iv0 true)
     (cond (decide (iv0 > (0:Int)))
      (cond (decide ((t.get iv0.toNat).Energy ≤ (t.get ((w64 (iv0 - (1:Int))).toNat)).Energy))
       (s17_at1 S0 t iv0 true)
       (cond (decide ((t.get iv0.toNat).Range.Low < (t.get ((w64 (iv0 - (1:Int))).toNat)).Range.Low))
        (s17_at1 S0 t iv0 true)
        (s17_at1 S0 t iv0 (decide ((t.get iv0.toNat).Range.High < (t.get ((w64 (iv0 - (1:Int))).toNat)).Range.High)))))
      (s17_at1 S0 t iv0 false))))
   (s58 (t.len : Int) (1:Int) (40:Int)))
def p17_st0 (t : (Sl RangeRow)) (P0 : Int → Bool) (iv0 : Int) : Bool :=
  (cond (decide (iv0 < (t.len : Int)))
   (decide ((0 ≤ iv0 ∧ iv0 < (t.len : Int))) &&
   (cond (!(s58 ((t.get iv0.toNat).Energy) (1:Int) (1000000:Int)))
    (p17_at1 P0 t iv0 true)
    (cond (!(s29 ((t.get iv0.toNat).Range) (0:Int) (1000000:Int)))
     (p17_at1 P0 t iv0 true)
     (cond (decide (iv0 > (0:Int)))
      (decide ((0 ≤ (w64 (iv0 - (1:Int))) ∧ (w64 (iv0 - (1:Int))) < (t.len : Int))) &&
      (cond (decide ((t.get iv0.toNat).Energy ≤ (t.get ((w64 (iv0 - (1:Int))).toNat)).Energy))
       (p17_at1 P0 t iv0 true)
       (decide ((0 ≤ (w64 (iv0 - (1:Int))) ∧ (w64 (iv0 - (1:Int))) < (t.len : Int))) &&
       (cond (decide ((t.get iv0.toNat).Range.Low < (t.get ((w64 (iv0 - (1:Int))).toNat)).Range.Low))
        (p17_at1 P0 t iv0 true)
        (decide ((0 ≤ (w64 (iv0 - (1:Int))) ∧ (w64 (iv0 - (1:Int))) < (t.len : Int))) &&
        (p17_at1 P0 t iv0 (decide ((t.get iv0.toNat).Range.High < (t.get ((w64 (iv0 - (1:Int))).toNat)).Range.High))))))))
      (p17_at1 P0 t iv0 false)))))
   true)
def s17_lp0 (t : (Sl RangeRow)) : Nat → Int → Bool
  | 0 => fun _ => default
  | k + 1 => s17_st0 t (s17_lp0 t k)
def p17_lp0 (t : (Sl RangeRow)) : Nat → Int → Bool
  | 0 => fun _ => false
  | k + 1 => p17_st0 t (p17_lp0 t k)
def s17_at0 (t : (Sl RangeRow)) (iv0 : Int) : Bool := s17_lp0 t Fuel iv0
def p17_at0 (t : (Sl RangeRow)) (iv0 : Int) : Bool := p17_lp0 t Fuel iv0
theorem q17_at0 (K : List PA → Prop) (t : (Sl RangeRow)) (iv0 : Int) (hs : p17_at0 t iv0 = true) (hk : K (e17 (s17_at0 t iv0))) : f17_at0 K t iv0 := by
  refine f17_loop0 K t iv0 ?_
  intro X0 hstep
  have key : ∀ (k : Nat) (iv0 : Int), p17_lp0 t k iv0 = true → K (e17 (s17_lp0 t k iv0)) → X0 (f17_g0 t iv0) := by
    intro k
    induction k with
    | zero => intro iv0 hs; exact absurd hs Bool.false_ne_true
    | succ k ih =>
      intro iv0 hs hk
      refine hstep iv0 ?_
      have hs : p17_st0 t (p17_lp0 t k) iv0 = true := hs
      have hk : K (e17 (s17_st0 t (s17_lp0 t k) iv0)) := hk
      unfold p17_st0 at hs
      unfold s17_st0 at hk
      generalize s17_lp0 t k = S0 at hk ih
      generalize p17_lp0 t k = P0 at hs ih
      have hX0 := ih
      exact (condB_go (K := fun r => K (e17 r))
       (fun hs hk => (andK hs fun hc hs => ⟨hc, (condB_go (K := fun r => K (e17 r))
        (fun hs hk => (q17_at1 K t X0 P0 S0 hX0 iv0 true hs hk))
        (fun hs hk => (condB_go (K := fun r => K (e17 r))
         (fun hs hk => (q17_at1 K t X0 P0 S0 hX0 iv0 true hs hk))
         (fun hs hk => (condB_go (K := fun r => K (e17 r))
          (fun hs hk => (andK hs fun hc hs => ⟨hc, (condB_go (K := fun r => K (e17 r))
           (fun hs hk => (q17_at1 K t X0 P0 S0 hX0 iv0 true hs hk))
           (fun hs hk => (andK hs fun hc hs => ⟨hc, (condB_go (K := fun r => K (e17 r))
            (fun hs hk => (q17_at1 K t X0 P0 S0 hX0 iv0 true hs hk))
            (fun hs hk => (andK hs fun hc hs => ⟨hc, (q17_at1 K t X0 P0 S0 hX0 iv0 (decide ((t.get iv0.toNat).Range.High < (t.get ((w64 (iv0 - (1:Int))).toNat)).Range.High)) hs hk)⟩)) hs hk)⟩)) hs hk)⟩))
          (fun hs hk => (q17_at1 K t X0 P0 S0 hX0 iv0 false hs hk)) hs hk)) hs hk)) hs hk)⟩))
       (fun hs hk => hk) hs hk)
  exact key _ iv0 hs hk
def s17 (t : (Sl RangeRow)) : Bool :=
  (s17_at0 t (0:Int))
def p17 (t : (Sl RangeRow)) : Bool :=
  (p17_at0 t (0:Int))
theorem q17 (t : (Sl RangeRow)) (K : List PA → Prop) (hs : p17 t = true) (hk : K (e17 (s17 t))) : vcFun Try.prog G17 ann17 17 [.one (.sl t.len 3 (fun i => enc_42 (t.get i)))] K := by
  refine ofEq (f17_top t K) ?_
  unfold p17 at hs
  unfold s17 at hk
  exact (q17_at0 K t (0:Int) hs hk)
def ctr17 : List PA → COut
  | [.one (.sl a0_n a0_s a0_g)] => .det (IsE enc_42 3 a0_s a0_g ∧ p17 (⟨a0_n, decF_42 a0_g⟩ : (Sl RangeRow)) = true) [.one (.bool (s17 (⟨a0_n, decF_42 a0_g⟩ : (Sl RangeRow))))]
  | _ => .no
theorem call17 : Callable Try.prog 17 := ⟨_, rfl, rfl, by kernel_rfl⟩
theorem ok17 : Ok Try.prog 17 ctr17 := ok_tab okT17 call17 fun args K h => by
  unfold ctr17 at h
  split at h
  · rename_i a0_n a0_s a0_g
    obtain ⟨⟨⟨rfl, a0_f, rfl⟩, hs⟩, hk⟩ := h
    try rw [decF_enc_42 a0_f] at hs
    try rw [decF_enc_42 a0_f] at hk
    exact ⟨(fun _ _ => []), (fun _ => false), ann17, q17 (⟨a0_n, a0_f⟩ : (Sl RangeRow)) K hs hk⟩
  · exact h.elim
-- 24 overburdenlaw05.of
abbrev T24 : Tabs := Tabs.nil
theorem okT24 : TabsOk Try.prog T24 := TabsOk.nil
abbrev G24 : Ctrs := csm T24 (fun _ _ => []) (fun _ => false)
def ann24 : Ann := ⟨16, [(0, ⟨[1, 2], [2], [], [], []⟩), (1, ⟨[4], [], [], [], []⟩)],
  [],
  [],
  [], []⟩
theorem f24_top (s : Span) (percent : Int) (K : List PA → Prop) :
  vcFun Try.prog G24 ann24 24 [.agg [.int .i64 s.Low, .int .i64 s.High], .one (.int .i64 percent)] K =
  ((((100:Int) ≠ 0)) ∧
  (K [.one (.int .i64 (w64 (s.Low + (w64 ((w64 ((w64 (s.High - s.Low)) * percent)).tdiv (100:Int))))))])) := by kernel_rfl
abbrev R24 := Int
abbrev e24 (r : Int) : List PA := [.one (.int .i64 r)]
def s24 (s : Span) (percent : Int) : Int :=
  (w64 (s.Low + (w64 ((w64 ((w64 (s.High - s.Low)) * percent)).tdiv (100:Int)))))
def p24 (s : Span) (percent : Int) : Bool :=
  (decide (((100:Int) ≠ 0)) &&
  true)
theorem q24 (s : Span) (percent : Int) (K : List PA → Prop) (hs : p24 s percent = true) (hk : K (e24 (s24 s percent))) : vcFun Try.prog G24 ann24 24 [.agg [.int .i64 s.Low, .int .i64 s.High], .one (.int .i64 percent)] K := by
  refine ofEq (f24_top s percent K) ?_
  unfold p24 at hs
  unfold s24 at hk
  exact (andK hs fun hc hs => ⟨hc, hk⟩)
def ctr24 : List PA → COut
  | [.agg [.int .i64 a0_Low, .int .i64 a0_High], .one (.int .i64 a1)] => .det (p24 (⟨a0_Low, a0_High⟩ : Span) a1 = true) [.one (.int .i64 (s24 (⟨a0_Low, a0_High⟩ : Span) a1))]
  | _ => .no
theorem call24 : Callable Try.prog 24 := ⟨_, rfl, rfl, by kernel_rfl⟩
theorem ok24 : Ok Try.prog 24 ctr24 := ok_tab okT24 call24 fun args K h => by
  unfold ctr24 at h
  split at h
  · rename_i a0_Low a0_High a1
    obtain ⟨hs, hk⟩ := h
    exact ⟨(fun _ _ => []), (fun _ => false), ann24, q24 (⟨a0_Low, a0_High⟩ : Span) a1 K hs hk⟩
  · exact h.elim
-- 43 overburdenlaw05.through
abbrev T43 : Tabs := (Tabs.nil.addF 24 ctr24)
theorem okT43 : TabsOk Try.prog T43 := (TabsOk.nil.addF ok24)
abbrev G43 : Ctrs := csm T43 (fun _ _ => []) (fun _ => false)
def ann43 : Ann := ⟨56, [(0, ⟨[0, 2, 4], [4], [], [], []⟩), (1, ⟨[0, 2, 4, 7], [4], [], [], []⟩), (2, ⟨[0, 2, 4, 7, 8], [4], [], [], []⟩), (3, ⟨[0, 2, 4, 7, 8, 13], [4], [], [], []⟩), (4, ⟨[0, 2, 4, 7, 8], [4], [], [], []⟩), (5, ⟨[0, 2, 4, 7, 8, 9], [4], [], [], []⟩), (6, ⟨[0, 2, 4, 7, 8, 9, 35], [4], [], [], []⟩), (7, ⟨[7, 9, 51], [], [], [], []⟩), (8, ⟨[6], [], [], [], []⟩), (9, ⟨[6], [], [], [], []⟩), (10, ⟨[0, 2, 4, 7, 8], [4], [], [], []⟩), (11, ⟨[6], [], [], [], []⟩)],
  [(3, ⟨[0, 2, 4, 7, 8], [4], [], [], []⟩)],
  [(6, ⟨[0, 2, 4, 7, 8, 9], [4], [], [], []⟩)],
  [], []⟩
def f43_g0 (t : (Sl RangeRow)) (n : Nature) (energy : Int) (outv0 : Int) (iv0 : Int) : St := ⟨[(0, .one (.c (.p (.sl t.len 3 (fun i => enc_42 (t.get i)))))), (2, .one (.c (.p (.int .i64 energy)))), (4, .one (.c (.ptr 4 0))), (7, .one (.c (.p (.int .i64 outv0)))), (8, .one (.c (.p (.int .i64 iv0))))], [(4, .box 39 [.p (.sl n.Ranges.len 1 (fun i => enc_3 (n.Ranges.get i))), .p (.sl n.Rates.len 1 (fun i => enc_3 (n.Rates.get i))), .p (.bool n.Soon)])], []⟩
def f43_at0 (K : List PA → Prop) (t : (Sl RangeRow)) (n : Nature) (energy : Int) (outv0 : Int) (iv0 : Int) : Prop := vc Try.prog G43 ann43 (cdF Try.f43 [1, 1, 0, 1, 0]) (blockK 0 (sqK Try.prog G43 ann43 (cdF Try.f43 [1, 1, 1]) (bodyK Try.prog Try.f43 K))) (f43_g0 t n energy outv0 iv0)
def f43_g1 (t : (Sl RangeRow)) (n : Nature) (energy : Int) (outv1 : Int) (iv1 : Int) (xv1 : Int) : St := ⟨[(0, .one (.c (.p (.sl t.len 3 (fun i => enc_42 (t.get i)))))), (2, .one (.c (.p (.int .i64 energy)))), (4, .one (.c (.ptr 4 0))), (7, .one (.c (.p (.int .i64 outv1)))), (8, .one (.c (.p (.int .i64 iv1)))), (9, .one (.c (.p (.int .i64 xv1))))], [(4, .box 39 [.p (.sl n.Ranges.len 1 (fun i => enc_3 (n.Ranges.get i))), .p (.sl n.Rates.len 1 (fun i => enc_3 (n.Rates.get i))), .p (.bool n.Soon)])], []⟩
def f43_at1 (K : List PA → Prop) (X0 : St → Prop) (t : (Sl RangeRow)) (n : Nature) (energy : Int) (outv1 : Int) (iv1 : Int) (xv1 : Int) : Prop := vc Try.prog G43 ann43 (cdF Try.f43 [1, 1, 0, 1, 0, 0, 1, 0, 0, 1]) (blockK 1 (sqK Try.prog G43 ann43 (cdF Try.f43 [1, 1, 0, 1, 0, 0, 1, 1]) (loopK Try.prog ann43 3 X0 (blockK 0 (sqK Try.prog G43 ann43 (cdF Try.f43 [1, 1, 1]) (bodyK Try.prog Try.f43 K)))))) (f43_g1 t n energy outv1 iv1 xv1)
theorem f43_top (t : (Sl RangeRow)) (n : Nature) (energy : Int) (K : List PA → Prop) :
  vcFun Try.prog G43 ann43 43 [.one (.sl t.len 3 (fun i => enc_42 (t.get i))), .agg [.sl n.Ranges.len 1 (fun i => enc_3 (n.Ranges.get i)), .sl n.Rates.len 1 (fun i => enc_3 (n.Rates.get i)), .bool n.Soon], .one (.int .i64 energy)] K =
  (f43_at0 K t n energy (0:Int) (0:Int)) := by kernel_rfl
def f43_step0 (K : List PA → Prop) (X0 : St → Prop) (t : (Sl RangeRow)) (n : Nature) (energy : Int) (outv0 : Int) (iv0 : Int) : Prop :=
  (condP (decide (iv0 < (t.len : Int)))
   (((0 ≤ iv0 ∧ iv0 < (t.len : Int))) ∧
   (((0 ≤ iv0 ∧ iv0 < (n.Ranges.len : Int))) ∧
   (((p24 ((t.get iv0.toNat).Range) (n.Ranges.get iv0.toNat) = true)) ∧
   (f43_at1 K X0 t n energy outv0 iv0 (if (s24 ((t.get iv0.toNat).Range) (n.Ranges.get iv0.toNat)) > outv0 then (s24 ((t.get iv0.toNat).Range) (n.Ranges.get iv0.toNat)) else outv0)))))
   (K [.one (.int .i64 outv0)]))
theorem f43_stepeq0 (K : List PA → Prop) (X0 : St → Prop) (t : (Sl RangeRow)) (n : Nature) (energy : Int) (outv0 : Int) (iv0 : Int) :
  vc Try.prog G43 ann43 (cd (cdF Try.f43 [1, 1, 0, 1, 0]) [0]) (loopK Try.prog ann43 3 X0 (blockK 0 (sqK Try.prog G43 ann43 (cdF Try.f43 [1, 1, 1]) (bodyK Try.prog Try.f43 K)))) (f43_g0 t n energy outv0 iv0) =
  f43_step0 K X0 t n energy outv0 iv0 := by kernel_rfl
theorem f43_loop0 (K : List PA → Prop) (t : (Sl RangeRow)) (n : Nature) (energy : Int) (outv0 : Int) (iv0 : Int)
  (h : ∀ X0 : St → Prop, (∀ (outv0 : Int) (iv0 : Int), f43_step0 K X0 t n energy outv0 iv0 → X0 (f43_g0 t n energy outv0 iv0)) → X0 (f43_g0 t n energy outv0 iv0)) :
  f43_at0 K t n energy outv0 iv0 := by
  have e : f43_at0 K t n energy outv0 iv0 = (∀ X : St → Prop, (∀ s, vc Try.prog G43 ann43 (cd (cdF Try.f43 [1, 1, 0, 1, 0]) [0]) (loopK Try.prog ann43 3 X (blockK 0 (sqK Try.prog G43 ann43 (cdF Try.f43 [1, 1, 1]) (bodyK Try.prog Try.f43 K)))) s → X s) → X (f43_g0 t n energy outv0 iv0)) := by kernel_rfl
  refine ofEq e ?_
  intro X hX
  refine h X ?_
  intro outv0 iv0 hs
  refine hX _ ?_
  have e2 := f43_stepeq0 K X t n energy outv0 iv0
  rw [e2]
  exact hs
theorem f43_eq1 (K : List PA → Prop) (X0 : St → Prop) (t : (Sl RangeRow)) (n : Nature) (energy : Int) (outv1 : Int) (iv1 : Int) (xv1 : Int) :
  f43_at1 K X0 t n energy outv1 iv1 xv1 =
  (((0 ≤ iv1 ∧ iv1 < (t.len : Int))) ∧
  (condP (decide ((t.get iv1.toNat).Energy > energy))
   (condP n.Soon
    (condP (iv1 == (0:Int))
     (K [.one (.int .i64 xv1)])
     (((0 ≤ (w64 (iv1 - (1:Int))) ∧ (w64 (iv1 - (1:Int))) < (t.len : Int))) ∧
     (condP (decide ((t.get ((w64 (iv1 - (1:Int))).toNat)).Energy < energy))
      (K [.one (.int .i64 xv1)])
      (K [.one (.int .i64 outv1)]))))
    (K [.one (.int .i64 outv1)]))
   (X0 (f43_g0 t n energy xv1 (w64 (iv1 + (1:Int))))))) := by kernel_rfl
abbrev R43 := Int
abbrev e43 (r : Int) : List PA := [.one (.int .i64 r)]
attribute [irreducible] f43_at0 f43_at1
def s43_at1 (S0 : Int → Int → Int) (t : (Sl RangeRow)) (n : Nature) (energy : Int) (outv1 : Int) (iv1 : Int) (xv1 : Int) : Int :=
  (cond (decide ((t.get iv1.toNat).Energy > energy))
   (cond n.Soon
    (cond (iv1 == (0:Int))
     xv1
     (cond (decide ((t.get ((w64 (iv1 - (1:Int))).toNat)).Energy < energy))
      xv1
      outv1))
    outv1)
   (S0 xv1 (w64 (iv1 + (1:Int)))))
def p43_at1 (P0 : Int → Int → Bool) (t : (Sl RangeRow)) (n : Nature) (energy : Int) (outv1 : Int) (iv1 : Int) (xv1 : Int) : Bool :=
  (decide ((0 ≤ iv1 ∧ iv1 < (t.len : Int))) &&
  (cond (decide ((t.get iv1.toNat).Energy > energy))
   (cond n.Soon
    (cond (iv1 == (0:Int))
     true
     (decide ((0 ≤ (w64 (iv1 - (1:Int))) ∧ (w64 (iv1 - (1:Int))) < (t.len : Int))) &&
     true))
    true)
   (P0 xv1 (w64 (iv1 + (1:Int))))))
theorem q43_at1 (K : List PA → Prop) (t : (Sl RangeRow)) (n : Nature) (energy : Int)
  (X0 : St → Prop) (P0 : Int → Int → Bool) (S0 : Int → Int → Int)
  (hX0 : ∀ (outv0 : Int) (iv0 : Int), P0 outv0 iv0 = true → K (e43 (S0 outv0 iv0)) → X0 (f43_g0 t n energy outv0 iv0)) (outv1 : Int) (iv1 : Int) (xv1 : Int) (hs : p43_at1 P0 t n energy outv1 iv1 xv1 = true) (hk : K (e43 (s43_at1 S0 t n energy outv1 iv1 xv1))) : f43_at1 K X0 t n energy outv1 iv1 xv1 := by
  refine ofEq (f43_eq1 K X0 t n energy outv1 iv1 xv1) ?_
  unfold p43_at1 at hs
  unfold s43_at1 at hk
  exact (andK hs fun hc hs => ⟨hc, (condB_go (K := fun r => K (e43 r))
   (fun hs hk => (condB_go (K := fun r => K (e43 r))
    (fun hs hk => (condB_go (K := fun r => K (e43 r))
     (fun hs hk => hk)
     (fun hs hk => (andK hs fun hc hs => ⟨hc, (condP_gt (K := fun r => K (e43 r))
      (fun hk => hk)
      (fun hk => hk) hk)⟩)) hs hk))
    (fun hs hk => hk) hs hk))
   (fun hs hk => (hX0 xv1 (w64 (iv1 + (1:Int))) hs hk)) hs hk)⟩)
def s43_st0 (t : (Sl RangeRow)) (n : Nature) (energy : Int) (S0 : Int → Int → Int) (outv0 : Int) (iv0 : Int) : Int :=
  (cond (decide (iv0 < (t.len : Int)))
   (s43_at1 S0 t n energy outv0 iv0 (if (s24 ((t.get iv0.toNat).Range) (n.Ranges.get iv0.toNat)) > outv0 then (s24 ((t.get iv0.toNat).Range) (n.Ranges.get iv0.toNat)) else outv0))
   outv0)
def p43_st0 (t : (Sl RangeRow)) (n : Nature) (energy : Int) (P0 : Int → Int → Bool) (outv0 : Int) (iv0 : Int) : Bool :=
  (cond (decide (iv0 < (t.len : Int)))
   (decide ((0 ≤ iv0 ∧ iv0 < (t.len : Int))) &&
   (decide ((0 ≤ iv0 ∧ iv0 < (n.Ranges.len : Int))) &&
   (decide ((p24 ((t.get iv0.toNat).Range) (n.Ranges.get iv0.toNat) = true)) &&
   (p43_at1 P0 t n energy outv0 iv0 (if (s24 ((t.get iv0.toNat).Range) (n.Ranges.get iv0.toNat)) > outv0 then (s24 ((t.get iv0.toNat).Range) (n.Ranges.get iv0.toNat)) else outv0)))))
   true)
def s43_lp0 (t : (Sl RangeRow)) (n : Nature) (energy : Int) : Nat → Int → Int → Int
  | 0 => fun _ _ => default
  | k + 1 => s43_st0 t n energy (s43_lp0 t n energy k)
def p43_lp0 (t : (Sl RangeRow)) (n : Nature) (energy : Int) : Nat → Int → Int → Bool
  | 0 => fun _ _ => false
  | k + 1 => p43_st0 t n energy (p43_lp0 t n energy k)
def s43_at0 (t : (Sl RangeRow)) (n : Nature) (energy : Int) (outv0 : Int) (iv0 : Int) : Int := s43_lp0 t n energy Fuel outv0 iv0
def p43_at0 (t : (Sl RangeRow)) (n : Nature) (energy : Int) (outv0 : Int) (iv0 : Int) : Bool := p43_lp0 t n energy Fuel outv0 iv0
theorem q43_at0 (K : List PA → Prop) (t : (Sl RangeRow)) (n : Nature) (energy : Int) (outv0 : Int) (iv0 : Int) (hs : p43_at0 t n energy outv0 iv0 = true) (hk : K (e43 (s43_at0 t n energy outv0 iv0))) : f43_at0 K t n energy outv0 iv0 := by
  refine f43_loop0 K t n energy outv0 iv0 ?_
  intro X0 hstep
  have key : ∀ (k : Nat) (outv0 : Int) (iv0 : Int), p43_lp0 t n energy k outv0 iv0 = true → K (e43 (s43_lp0 t n energy k outv0 iv0)) → X0 (f43_g0 t n energy outv0 iv0) := by
    intro k
    induction k with
    | zero => intro outv0 iv0 hs; exact absurd hs Bool.false_ne_true
    | succ k ih =>
      intro outv0 iv0 hs hk
      refine hstep outv0 iv0 ?_
      have hs : p43_st0 t n energy (p43_lp0 t n energy k) outv0 iv0 = true := hs
      have hk : K (e43 (s43_st0 t n energy (s43_lp0 t n energy k) outv0 iv0)) := hk
      unfold p43_st0 at hs
      unfold s43_st0 at hk
      generalize s43_lp0 t n energy k = S0 at hk ih
      generalize p43_lp0 t n energy k = P0 at hs ih
      have hX0 := ih
      exact (condB_go (K := fun r => K (e43 r))
       (fun hs hk => (andK hs fun hc hs => ⟨hc, (andK hs fun hc hs => ⟨hc, (andK hs fun hc hs => ⟨hc, (q43_at1 K t n energy X0 P0 S0 hX0 outv0 iv0 (if (s24 ((t.get iv0.toNat).Range) (n.Ranges.get iv0.toNat)) > outv0 then (s24 ((t.get iv0.toNat).Range) (n.Ranges.get iv0.toNat)) else outv0) hs hk)⟩)⟩)⟩))
       (fun hs hk => hk) hs hk)
  exact key _ outv0 iv0 hs hk
def s43 (t : (Sl RangeRow)) (n : Nature) (energy : Int) : Int :=
  (s43_at0 t n energy (0:Int) (0:Int))
def p43 (t : (Sl RangeRow)) (n : Nature) (energy : Int) : Bool :=
  (p43_at0 t n energy (0:Int) (0:Int))
theorem q43 (t : (Sl RangeRow)) (n : Nature) (energy : Int) (K : List PA → Prop) (hs : p43 t n energy = true) (hk : K (e43 (s43 t n energy))) : vcFun Try.prog G43 ann43 43 [.one (.sl t.len 3 (fun i => enc_42 (t.get i))), .agg [.sl n.Ranges.len 1 (fun i => enc_3 (n.Ranges.get i)), .sl n.Rates.len 1 (fun i => enc_3 (n.Rates.get i)), .bool n.Soon], .one (.int .i64 energy)] K := by
  refine ofEq (f43_top t n energy K) ?_
  unfold p43 at hs
  unfold s43 at hk
  exact (q43_at0 K t n energy (0:Int) (0:Int) hs hk)
def ctr43 : List PA → COut
  | [.one (.sl a0_n a0_s a0_g), .agg [.sl a1_Ranges_n a1_Ranges_s a1_Ranges_g, .sl a1_Rates_n a1_Rates_s a1_Rates_g, .bool a1_Soon], .one (.int .i64 a2)] => .det (IsE enc_42 3 a0_s a0_g ∧ IsE enc_3 1 a1_Ranges_s a1_Ranges_g ∧ IsE enc_3 1 a1_Rates_s a1_Rates_g ∧ p43 (⟨a0_n, decF_42 a0_g⟩ : (Sl RangeRow)) (⟨(⟨a1_Ranges_n, decF_3 a1_Ranges_g⟩ : (Sl Int)), (⟨a1_Rates_n, decF_3 a1_Rates_g⟩ : (Sl Int)), a1_Soon⟩ : Nature) a2 = true) [.one (.int .i64 (s43 (⟨a0_n, decF_42 a0_g⟩ : (Sl RangeRow)) (⟨(⟨a1_Ranges_n, decF_3 a1_Ranges_g⟩ : (Sl Int)), (⟨a1_Rates_n, decF_3 a1_Rates_g⟩ : (Sl Int)), a1_Soon⟩ : Nature) a2))]
  | _ => .no
theorem call43 : Callable Try.prog 43 := ⟨_, rfl, rfl, by kernel_rfl⟩
theorem ok43 : Ok Try.prog 43 ctr43 := ok_tab okT43 call43 fun args K h => by
  unfold ctr43 at h
  split at h
  · rename_i a0_n a0_s a0_g a1_Ranges_n a1_Ranges_s a1_Ranges_g a1_Rates_n a1_Rates_s a1_Rates_g a1_Soon a2
    obtain ⟨⟨⟨rfl, a0_f, rfl⟩, ⟨rfl, a1_Ranges_f, rfl⟩, ⟨rfl, a1_Rates_f, rfl⟩, hs⟩, hk⟩ := h
    try rw [decF_enc_42 a0_f] at hs
    try rw [decF_enc_42 a0_f] at hk
    try rw [decF_enc_3 a1_Ranges_f] at hs
    try rw [decF_enc_3 a1_Ranges_f] at hk
    try rw [decF_enc_3 a1_Rates_f] at hs
    try rw [decF_enc_3 a1_Rates_f] at hk
    exact ⟨(fun _ _ => []), (fun _ => false), ann43, q43 (⟨a0_n, a0_f⟩ : (Sl RangeRow)) (⟨(⟨a1_Ranges_n, a1_Ranges_f⟩ : (Sl Int)), (⟨a1_Rates_n, a1_Rates_f⟩ : (Sl Int)), a1_Soon⟩ : Nature) a2 K hs hk⟩
  · exact h.elim
end Go.Proofs
namespace Go.Proofs
open Go Go.Pm
set_option maxRecDepth 100000
set_option linter.unusedVariables false
attribute [local irreducible] Go.Pm.vcFun Go.Pm.vc Go.Pm.vcIter
-- 36 overburdenref05.Weather
abbrev T36 : Tabs := (Tabs.nil.addF 29 ctr29)
theorem okT36 : TabsOk Try.prog T36 := (TabsOk.nil.addF ok29)
abbrev G36 : Ctrs := csm T36 (fun _ _ => []) (fun _ => false)
def ann36 : Ann := ⟨11, [(0, ⟨[1], [1], [], [], []⟩), (1, ⟨[2], [], [], [], []⟩)],
  [],
  [],
  [], []⟩
theorem f36_top (w : Weather) (K : List PA → Prop) :
  vcFun Try.prog G36 ann36 36 [.agg [.int .i64 w.Pressure.Low, .int .i64 w.Pressure.High, .int .i64 w.Warm.Low, .int .i64 w.Warm.High]] K =
  (condP (s29 w.Pressure (-1000:Int) (1000:Int))
   (K [.one (.bool (s29 w.Warm (-1000:Int) (1000:Int)))])
   (K [.one (.bool false)])) := by kernel_rfl
abbrev R36 := Bool
abbrev e36 (r : Bool) : List PA := [.one (.bool r)]
def s36 (w : Weather) : Bool :=
  (cond (s29 w.Pressure (-1000:Int) (1000:Int))
   (s29 w.Warm (-1000:Int) (1000:Int))
   false)
theorem q36 (w : Weather) (K : List PA → Prop) (hk : K (e36 (s36 w))) : vcFun Try.prog G36 ann36 36 [.agg [.int .i64 w.Pressure.Low, .int .i64 w.Pressure.High, .int .i64 w.Warm.Low, .int .i64 w.Warm.High]] K := by
  refine ofEq (f36_top w K) ?_
  unfold s36 at hk
  exact (condP_gt (K := fun r => K (e36 r))
   (fun hk => hk)
   (fun hk => hk) hk)
def ctr36 : List PA → COut
  | [.agg [.int .i64 a0_Pressure_Low, .int .i64 a0_Pressure_High, .int .i64 a0_Warm_Low, .int .i64 a0_Warm_High]] => .tot [.one (.bool (s36 (⟨(⟨a0_Pressure_Low, a0_Pressure_High⟩ : Span), (⟨a0_Warm_Low, a0_Warm_High⟩ : Span)⟩ : Weather)))]
  | _ => .no
theorem call36 : Callable Try.prog 36 := ⟨_, rfl, rfl, by kernel_rfl⟩
theorem ok36 : Ok Try.prog 36 ctr36 := ok_tab okT36 call36 fun args K h => by
  unfold ctr36 at h
  split at h
  · rename_i a0_Pressure_Low a0_Pressure_High a0_Warm_Low a0_Warm_High
    have hk := h
    exact ⟨(fun _ _ => []), (fun _ => false), ann36, q36 (⟨(⟨a0_Pressure_Low, a0_Pressure_High⟩ : Span), (⟨a0_Warm_Low, a0_Warm_High⟩ : Span)⟩ : Weather) K hk⟩
  · exact h.elim
-- 22 overburdenref05.Spells
abbrev T22 : Tabs := ((Tabs.nil.addF 36 ctr36).addF 58 ctr58)
theorem okT22 : TabsOk Try.prog T22 := ((TabsOk.nil.addF ok36).addF ok58)
abbrev G22 : Ctrs := csm T22 (fun _ _ => []) (fun _ => false)
def ann22 : Ann := ⟨29, [(0, ⟨[0], [], [], [], []⟩), (1, ⟨[0, 3], [], [], [], []⟩), (2, ⟨[0, 3, 7], [], [], [], []⟩), (3, ⟨[0, 3], [], [], [], []⟩), (4, ⟨[0, 3, 25], [], [], [], []⟩), (5, ⟨[2], [], [], [], []⟩), (6, ⟨[2], [], [], [], []⟩)],
  [(2, ⟨[0, 3], [], [], [], []⟩)],
  [(5, ⟨[0, 3, 25], [], [], [], []⟩)],
  [], []⟩
def f22_g0 (l_a0 : (Sl Spell)) (iv0 : Int) : St := ⟨[(0, .one (.c (.p (.sl l_a0.len 5 (fun i => enc_56 (l_a0.get i)))))), (3, .one (.c (.p (.int .i64 iv0))))], [], []⟩
def f22_at0 (K : List PA → Prop) (l_a0 : (Sl Spell)) (iv0 : Int) : Prop := vc Try.prog G22 ann22 (cdF Try.f22 [1, 0, 1, 0]) (blockK 0 (sqK Try.prog G22 ann22 (cdF Try.f22 [1, 1]) (bodyK Try.prog Try.f22 K))) (f22_g0 l_a0 iv0)
def f22_g1 (l_a0 : (Sl Spell)) (iv1 : Int) (t25v1 : Bool) : St := ⟨[(0, .one (.c (.p (.sl l_a0.len 5 (fun i => enc_56 (l_a0.get i)))))), (3, .one (.c (.p (.int .i64 iv1)))), (25, .one (.c (.p (.bool t25v1))))], [], []⟩
def f22_at1 (K : List PA → Prop) (X0 : St → Prop) (l_a0 : (Sl Spell)) (iv1 : Int) (t25v1 : Bool) : Prop := vc Try.prog G22 ann22 (cdF Try.f22 [1, 0, 1, 0, 0, 1, 0, 0, 1]) (blockK 1 (sqK Try.prog G22 ann22 (cdF Try.f22 [1, 0, 1, 0, 0, 1, 1]) (loopK Try.prog ann22 2 X0 (blockK 0 (sqK Try.prog G22 ann22 (cdF Try.f22 [1, 1]) (bodyK Try.prog Try.f22 K)))))) (f22_g1 l_a0 iv1 t25v1)
theorem f22_top (l_a0 : (Sl Spell)) (K : List PA → Prop) :
  vcFun Try.prog G22 ann22 22 [.one (.sl l_a0.len 5 (fun i => enc_56 (l_a0.get i)))] K =
  (f22_at0 K l_a0 (0:Int)) := by kernel_rfl
def f22_step0 (K : List PA → Prop) (X0 : St → Prop) (l_a0 : (Sl Spell)) (iv0 : Int) : Prop :=
  (condP (decide (iv0 < (l_a0.len : Int)))
   (((0 ≤ iv0 ∧ iv0 < (l_a0.len : Int))) ∧
   (condP (!(s58 ((l_a0.get iv0.toNat).Slots) (1:Int) (1000000:Int)))
    (f22_at1 K X0 l_a0 iv0 true)
    (((0 ≤ iv0 ∧ iv0 < (l_a0.len : Int))) ∧
    (f22_at1 K X0 l_a0 iv0 (!(s36 ((l_a0.get iv0.toNat).Weather)))))))
   (K [.one (.bool (s58 (l_a0.len : Int) (1:Int) (50:Int)))]))
theorem f22_stepeq0 (K : List PA → Prop) (X0 : St → Prop) (l_a0 : (Sl Spell)) (iv0 : Int) :
  vc Try.prog G22 ann22 (cd (cdF Try.f22 [1, 0, 1, 0]) [0]) (loopK Try.prog ann22 2 X0 (blockK 0 (sqK Try.prog G22 ann22 (cdF Try.f22 [1, 1]) (bodyK Try.prog Try.f22 K)))) (f22_g0 l_a0 iv0) =
  f22_step0 K X0 l_a0 iv0 := by kernel_rfl
theorem f22_loop0 (K : List PA → Prop) (l_a0 : (Sl Spell)) (iv0 : Int)
  (h : ∀ X0 : St → Prop, (∀ (iv0 : Int), f22_step0 K X0 l_a0 iv0 → X0 (f22_g0 l_a0 iv0)) → X0 (f22_g0 l_a0 iv0)) :
  f22_at0 K l_a0 iv0 := by
  have e : f22_at0 K l_a0 iv0 = (∀ X : St → Prop, (∀ s, vc Try.prog G22 ann22 (cd (cdF Try.f22 [1, 0, 1, 0]) [0]) (loopK Try.prog ann22 2 X (blockK 0 (sqK Try.prog G22 ann22 (cdF Try.f22 [1, 1]) (bodyK Try.prog Try.f22 K)))) s → X s) → X (f22_g0 l_a0 iv0)) := by kernel_rfl
  refine ofEq e ?_
  intro X hX
  refine h X ?_
  intro iv0 hs
  refine hX _ ?_
  have e2 := f22_stepeq0 K X l_a0 iv0
  rw [e2]
  exact hs
theorem f22_eq1 (K : List PA → Prop) (X0 : St → Prop) (l_a0 : (Sl Spell)) (iv1 : Int) (t25v1 : Bool) :
  f22_at1 K X0 l_a0 iv1 t25v1 =
  (condP t25v1
   (K [.one (.bool false)])
   (X0 (f22_g0 l_a0 (w64 (iv1 + (1:Int)))))) := by kernel_rfl
abbrev R22 := Bool
abbrev e22 (r : Bool) : List PA := [.one (.bool r)]
attribute [irreducible] f22_at0 f22_at1
def s22_at1 (S0 : Int → Bool) (l_a0 : (Sl Spell)) (iv1 : Int) (t25v1 : Bool) : Bool :=
  (cond t25v1
   false
   (S0 (w64 (iv1 + (1:Int)))))
def p22_at1 (P0 : Int → Bool) (l_a0 : (Sl Spell)) (iv1 : Int) (t25v1 : Bool) : Bool :=
  (cond t25v1
   true
   (P0 (w64 (iv1 + (1:Int)))))
theorem q22_at1 (K : List PA → Prop) (l_a0 : (Sl Spell))
  (X0 : St → Prop) (P0 : Int → Bool) (S0 : Int → Bool)
  (hX0 : ∀ (iv0 : Int), P0 iv0 = true → K (e22 (S0 iv0)) → X0 (f22_g0 l_a0 iv0)) (iv1 : Int) (t25v1 : Bool) (hs : p22_at1 P0 l_a0 iv1 t25v1 = true) (hk : K (e22 (s22_at1 S0 l_a0 iv1 t25v1))) : f22_at1 K X0 l_a0 iv1 t25v1 := by
  refine ofEq (f22_eq1 K X0 l_a0 iv1 t25v1) ?_
  unfold p22_at1 at hs
  unfold s22_at1 at hk
  exact (condB_go (K := fun r => K (e22 r))
   (fun hs hk => hk)
   (fun hs hk => (hX0 (w64 (iv1 + (1:Int))) hs hk)) hs hk)
def s22_st0 (l_a0 : (Sl Spell)) (S0 : Int → Bool) (iv0 : Int) : Bool :=
  (cond (decide (iv0 < (l_a0.len : Int)))
   (cond (!(s58 ((l_a0.get iv0.toNat).Slots) (1:Int) (1000000:Int)))
    (s22_at1 S0 l_a0 iv0 true)
    (s22_at1 S0 l_a0 iv0 (!(s36 ((l_a0.get iv0.toNat).Weather)))))
   (s58 (l_a0.len : Int) (1:Int) (50:Int)))
def p22_st0 (l_a0 : (Sl Spell)) (P0 : Int → Bool) (iv0 : Int) : Bool :=
  (cond (decide (iv0 < (l_a0.len : Int)))
   (decide ((0 ≤ iv0 ∧ iv0 < (l_a0.len : Int))) &&
   (cond (!(s58 ((l_a0.get iv0.toNat).Slots) (1:Int) (1000000:Int)))
    (p22_at1 P0 l_a0 iv0 true)
    (decide ((0 ≤ iv0 ∧ iv0 < (l_a0.len : Int))) &&
    (p22_at1 P0 l_a0 iv0 (!(s36 ((l_a0.get iv0.toNat).Weather)))))))
   true)
def s22_lp0 (l_a0 : (Sl Spell)) : Nat → Int → Bool
  | 0 => fun _ => default
  | k + 1 => s22_st0 l_a0 (s22_lp0 l_a0 k)
def p22_lp0 (l_a0 : (Sl Spell)) : Nat → Int → Bool
  | 0 => fun _ => false
  | k + 1 => p22_st0 l_a0 (p22_lp0 l_a0 k)
def s22_at0 (l_a0 : (Sl Spell)) (iv0 : Int) : Bool := s22_lp0 l_a0 Fuel iv0
def p22_at0 (l_a0 : (Sl Spell)) (iv0 : Int) : Bool := p22_lp0 l_a0 Fuel iv0
theorem q22_at0 (K : List PA → Prop) (l_a0 : (Sl Spell)) (iv0 : Int) (hs : p22_at0 l_a0 iv0 = true) (hk : K (e22 (s22_at0 l_a0 iv0))) : f22_at0 K l_a0 iv0 := by
  refine f22_loop0 K l_a0 iv0 ?_
  intro X0 hstep
  have key : ∀ (k : Nat) (iv0 : Int), p22_lp0 l_a0 k iv0 = true → K (e22 (s22_lp0 l_a0 k iv0)) → X0 (f22_g0 l_a0 iv0) := by
    intro k
    induction k with
    | zero => intro iv0 hs; exact absurd hs Bool.false_ne_true
    | succ k ih =>
      intro iv0 hs hk
      refine hstep iv0 ?_
      have hs : p22_st0 l_a0 (p22_lp0 l_a0 k) iv0 = true := hs
      have hk : K (e22 (s22_st0 l_a0 (s22_lp0 l_a0 k) iv0)) := hk
      unfold p22_st0 at hs
      unfold s22_st0 at hk
      generalize s22_lp0 l_a0 k = S0 at hk ih
      generalize p22_lp0 l_a0 k = P0 at hs ih
      have hX0 := ih
      exact (condB_go (K := fun r => K (e22 r))
       (fun hs hk => (andK hs fun hc hs => ⟨hc, (condB_go (K := fun r => K (e22 r))
        (fun hs hk => (q22_at1 K l_a0 X0 P0 S0 hX0 iv0 true hs hk))
        (fun hs hk => (andK hs fun hc hs => ⟨hc, (q22_at1 K l_a0 X0 P0 S0 hX0 iv0 (!(s36 ((l_a0.get iv0.toNat).Weather))) hs hk)⟩)) hs hk)⟩))
       (fun hs hk => hk) hs hk)
  exact key _ iv0 hs hk
def s22 (l_a0 : (Sl Spell)) : Bool :=
  (s22_at0 l_a0 (0:Int))
def p22 (l_a0 : (Sl Spell)) : Bool :=
  (p22_at0 l_a0 (0:Int))
theorem q22 (l_a0 : (Sl Spell)) (K : List PA → Prop) (hs : p22 l_a0 = true) (hk : K (e22 (s22 l_a0))) : vcFun Try.prog G22 ann22 22 [.one (.sl l_a0.len 5 (fun i => enc_56 (l_a0.get i)))] K := by
  refine ofEq (f22_top l_a0 K) ?_
  unfold p22 at hs
  unfold s22 at hk
  exact (q22_at0 K l_a0 (0:Int) hs hk)
def ctr22 : List PA → COut
  | [.one (.sl a0_n a0_s a0_g)] => .det (IsE enc_56 5 a0_s a0_g ∧ p22 (⟨a0_n, decF_56 a0_g⟩ : (Sl Spell)) = true) [.one (.bool (s22 (⟨a0_n, decF_56 a0_g⟩ : (Sl Spell))))]
  | _ => .no
theorem call22 : Callable Try.prog 22 := ⟨_, rfl, rfl, by kernel_rfl⟩
theorem ok22 : Ok Try.prog 22 ctr22 := ok_tab okT22 call22 fun args K h => by
  unfold ctr22 at h
  split at h
  · rename_i a0_n a0_s a0_g
    obtain ⟨⟨⟨rfl, a0_f, rfl⟩, hs⟩, hk⟩ := h
    try rw [decF_enc_56 a0_f] at hs
    try rw [decF_enc_56 a0_f] at hk
    exact ⟨(fun _ _ => []), (fun _ => false), ann22, q22 (⟨a0_n, a0_f⟩ : (Sl Spell)) K hs hk⟩
  · exact h.elim
end Go.Proofs
namespace Go.Proofs
open Go Go.Pm
set_option maxRecDepth 100000
set_option linter.unusedVariables false
attribute [local irreducible] Go.Pm.vcFun Go.Pm.vc Go.Pm.vcIter
-- 27 overburdenref05.SameCurve
abbrev T27 : Tabs := Tabs.nil
theorem okT27 : TabsOk Try.prog T27 := TabsOk.nil
abbrev G27 : Ctrs := csm T27 (fun _ _ => []) (fun _ => false)
def ann27 : Ann := ⟨26, [(0, ⟨[0, 1], [], [], [], []⟩), (1, ⟨[0, 1, 10], [], [], [], []⟩), (2, ⟨[4], [], [], [], []⟩), (3, ⟨[0, 1, 5], [], [], [], []⟩), (4, ⟨[0, 1, 5, 14], [], [], [], []⟩), (5, ⟨[0, 1, 5], [], [], [], []⟩), (6, ⟨[0, 1, 5, 25], [], [], [], []⟩), (7, ⟨[4], [], [], [], []⟩), (8, ⟨[4], [], [], [], []⟩)],
  [(4, ⟨[0, 1, 5], [], [], [], []⟩)],
  [(3, ⟨[0, 1], [], [], [], []⟩)],
  [], []⟩
def f27_g0 (a : (Sl FluxStep)) (b : (Sl FluxStep)) : St := ⟨[(0, .one (.c (.p (.sl a.len 3 (fun i => enc_69 (a.get i)))))), (1, .one (.c (.p (.sl b.len 3 (fun i => enc_69 (b.get i))))))], [], []⟩
def f27_at0 (K : List PA → Prop) (a : (Sl FluxStep)) (b : (Sl FluxStep)) : Prop := vc Try.prog G27 ann27 (cdF Try.f27 [1, 1]) (bodyK Try.prog Try.f27 K) (f27_g0 a b)
def f27_g1 (a : (Sl FluxStep)) (b : (Sl FluxStep)) (iv1 : Int) : St := ⟨[(0, .one (.c (.p (.sl a.len 3 (fun i => enc_69 (a.get i)))))), (1, .one (.c (.p (.sl b.len 3 (fun i => enc_69 (b.get i)))))), (5, .one (.c (.p (.int .i64 iv1))))], [], []⟩
def f27_at1 (K : List PA → Prop) (a : (Sl FluxStep)) (b : (Sl FluxStep)) (iv1 : Int) : Prop := vc Try.prog G27 ann27 (cdF Try.f27 [1, 1, 0, 1, 0]) (blockK 0 (sqK Try.prog G27 ann27 (cdF Try.f27 [1, 1, 1]) (bodyK Try.prog Try.f27 K))) (f27_g1 a b iv1)
theorem f27_top (a : (Sl FluxStep)) (b : (Sl FluxStep)) (K : List PA → Prop) :
  vcFun Try.prog G27 ann27 27 [.one (.sl a.len 3 (fun i => enc_69 (a.get i))), .one (.sl b.len 3 (fun i => enc_69 (b.get i)))] K =
  (condP ((a.len : Int) != (b.len : Int))
   (K [.one (.bool false)])
   (f27_at0 K a b)) := by kernel_rfl
theorem f27_eq0 (K : List PA → Prop) (a : (Sl FluxStep)) (b : (Sl FluxStep)) :
  f27_at0 K a b =
  (f27_at1 K a b (0:Int)) := by kernel_rfl
def f27_step1 (K : List PA → Prop) (X1 : St → Prop) (a : (Sl FluxStep)) (b : (Sl FluxStep)) (iv1 : Int) : Prop :=
  (condP (decide (iv1 < (a.len : Int)))
   (((0 ≤ iv1 ∧ iv1 < (a.len : Int))) ∧
   (((0 ≤ iv1 ∧ iv1 < (b.len : Int))) ∧
   (condP (!(match ((a.get iv1.toNat).From == (b.get iv1.toNat).From) with | true => (match (match ((a.get iv1.toNat).Rate.Low == (b.get iv1.toNat).Rate.Low) with | true => (match ((a.get iv1.toNat).Rate.High == (b.get iv1.toNat).Rate.High) with | true => true | false => false) | false => false) with | true => true | false => false) | false => false))
    (K [.one (.bool false)])
    (X1 (f27_g1 a b (w64 (iv1 + (1:Int))))))))
   (K [.one (.bool true)]))
theorem f27_stepeq1 (K : List PA → Prop) (X1 : St → Prop) (a : (Sl FluxStep)) (b : (Sl FluxStep)) (iv1 : Int) :
  vc Try.prog G27 ann27 (cd (cdF Try.f27 [1, 1, 0, 1, 0]) [0]) (loopK Try.prog ann27 4 X1 (blockK 0 (sqK Try.prog G27 ann27 (cdF Try.f27 [1, 1, 1]) (bodyK Try.prog Try.f27 K)))) (f27_g1 a b iv1) =
  f27_step1 K X1 a b iv1 := by kernel_rfl
theorem f27_loop1 (K : List PA → Prop) (a : (Sl FluxStep)) (b : (Sl FluxStep)) (iv1 : Int)
  (h : ∀ X1 : St → Prop, (∀ (iv1 : Int), f27_step1 K X1 a b iv1 → X1 (f27_g1 a b iv1)) → X1 (f27_g1 a b iv1)) :
  f27_at1 K a b iv1 := by
  have e : f27_at1 K a b iv1 = (∀ X : St → Prop, (∀ s, vc Try.prog G27 ann27 (cd (cdF Try.f27 [1, 1, 0, 1, 0]) [0]) (loopK Try.prog ann27 4 X (blockK 0 (sqK Try.prog G27 ann27 (cdF Try.f27 [1, 1, 1]) (bodyK Try.prog Try.f27 K)))) s → X s) → X (f27_g1 a b iv1)) := by kernel_rfl
  refine ofEq e ?_
  intro X hX
  refine h X ?_
  intro iv1 hs
  refine hX _ ?_
  have e2 := f27_stepeq1 K X a b iv1
  rw [e2]
  exact hs
abbrev R27 := Bool
abbrev e27 (r : Bool) : List PA := [.one (.bool r)]
attribute [irreducible] f27_at0 f27_at1
def s27_st1 (a : (Sl FluxStep)) (b : (Sl FluxStep)) (S1 : Int → Bool) (iv1 : Int) : Bool :=
  (cond (decide (iv1 < (a.len : Int)))
   (cond (!(match ((a.get iv1.toNat).From == (b.get iv1.toNat).From) with | true => (match (match ((a.get iv1.toNat).Rate.Low == (b.get iv1.toNat).Rate.Low) with | true => (match ((a.get iv1.toNat).Rate.High == (b.get iv1.toNat).Rate.High) with | true => true | false => false) | false => false) with | true => true | false => false) | false => false))
    false
    (S1 (w64 (iv1 + (1:Int)))))
   true)
def p27_st1 (a : (Sl FluxStep)) (b : (Sl FluxStep)) (P1 : Int → Bool) (iv1 : Int) : Bool :=
  (cond (decide (iv1 < (a.len : Int)))
   (decide ((0 ≤ iv1 ∧ iv1 < (a.len : Int))) &&
   (decide ((0 ≤ iv1 ∧ iv1 < (b.len : Int))) &&
   (cond (!(match ((a.get iv1.toNat).From == (b.get iv1.toNat).From) with | true => (match (match ((a.get iv1.toNat).Rate.Low == (b.get iv1.toNat).Rate.Low) with | true => (match ((a.get iv1.toNat).Rate.High == (b.get iv1.toNat).Rate.High) with | true => true | false => false) | false => false) with | true => true | false => false) | false => false))
    true
    (P1 (w64 (iv1 + (1:Int)))))))
   true)
def s27_lp1 (a : (Sl FluxStep)) (b : (Sl FluxStep)) : Nat → Int → Bool
  | 0 => fun _ => default
  | k + 1 => s27_st1 a b (s27_lp1 a b k)
def p27_lp1 (a : (Sl FluxStep)) (b : (Sl FluxStep)) : Nat → Int → Bool
  | 0 => fun _ => false
  | k + 1 => p27_st1 a b (p27_lp1 a b k)
def s27_at1 (a : (Sl FluxStep)) (b : (Sl FluxStep)) (iv1 : Int) : Bool := s27_lp1 a b Fuel iv1
def p27_at1 (a : (Sl FluxStep)) (b : (Sl FluxStep)) (iv1 : Int) : Bool := p27_lp1 a b Fuel iv1
theorem q27_at1 (K : List PA → Prop) (a : (Sl FluxStep)) (b : (Sl FluxStep)) (iv1 : Int) (hs : p27_at1 a b iv1 = true) (hk : K (e27 (s27_at1 a b iv1))) : f27_at1 K a b iv1 := by
  refine f27_loop1 K a b iv1 ?_
  intro X1 hstep
  have key : ∀ (k : Nat) (iv1 : Int), p27_lp1 a b k iv1 = true → K (e27 (s27_lp1 a b k iv1)) → X1 (f27_g1 a b iv1) := by
    intro k
    induction k with
    | zero => intro iv1 hs; exact absurd hs Bool.false_ne_true
    | succ k ih =>
      intro iv1 hs hk
      refine hstep iv1 ?_
      have hs : p27_st1 a b (p27_lp1 a b k) iv1 = true := hs
      have hk : K (e27 (s27_st1 a b (s27_lp1 a b k) iv1)) := hk
      unfold p27_st1 at hs
      unfold s27_st1 at hk
      generalize s27_lp1 a b k = S1 at hk ih
      generalize p27_lp1 a b k = P1 at hs ih
      have hX1 := ih
      exact (condB_go (K := fun r => K (e27 r))
       (fun hs hk => (andK hs fun hc hs => ⟨hc, (andK hs fun hc hs => ⟨hc, (condB_go (K := fun r => K (e27 r))
        (fun hs hk => hk)
        (fun hs hk => (hX1 (w64 (iv1 + (1:Int))) hs hk)) hs hk)⟩)⟩))
       (fun hs hk => hk) hs hk)
  exact key _ iv1 hs hk
def s27_at0 (a : (Sl FluxStep)) (b : (Sl FluxStep)) : Bool :=
  (s27_at1 a b (0:Int))
def p27_at0 (a : (Sl FluxStep)) (b : (Sl FluxStep)) : Bool :=
  (p27_at1 a b (0:Int))
theorem q27_at0 (K : List PA → Prop) (a : (Sl FluxStep)) (b : (Sl FluxStep)) (hs : p27_at0 a b = true) (hk : K (e27 (s27_at0 a b))) : f27_at0 K a b := by
  refine ofEq (f27_eq0 K a b) ?_
  unfold p27_at0 at hs
  unfold s27_at0 at hk
  exact (q27_at1 K a b (0:Int) hs hk)
def s27 (a : (Sl FluxStep)) (b : (Sl FluxStep)) : Bool :=
  (cond ((a.len : Int) != (b.len : Int))
   false
   (s27_at0 a b))
def p27 (a : (Sl FluxStep)) (b : (Sl FluxStep)) : Bool :=
  (cond ((a.len : Int) != (b.len : Int))
   true
   (p27_at0 a b))
theorem q27 (a : (Sl FluxStep)) (b : (Sl FluxStep)) (K : List PA → Prop) (hs : p27 a b = true) (hk : K (e27 (s27 a b))) : vcFun Try.prog G27 ann27 27 [.one (.sl a.len 3 (fun i => enc_69 (a.get i))), .one (.sl b.len 3 (fun i => enc_69 (b.get i)))] K := by
  refine ofEq (f27_top a b K) ?_
  unfold p27 at hs
  unfold s27 at hk
  exact (condB_go (K := fun r => K (e27 r))
   (fun hs hk => hk)
   (fun hs hk => (q27_at0 K a b hs hk)) hs hk)
def ctr27 : List PA → COut
  | [.one (.sl a0_n a0_s a0_g), .one (.sl a1_n a1_s a1_g)] => .det (IsE enc_69 3 a0_s a0_g ∧ IsE enc_69 3 a1_s a1_g ∧ p27 (⟨a0_n, decF_69 a0_g⟩ : (Sl FluxStep)) (⟨a1_n, decF_69 a1_g⟩ : (Sl FluxStep)) = true) [.one (.bool (s27 (⟨a0_n, decF_69 a0_g⟩ : (Sl FluxStep)) (⟨a1_n, decF_69 a1_g⟩ : (Sl FluxStep))))]
  | _ => .no
theorem call27 : Callable Try.prog 27 := ⟨_, rfl, rfl, by kernel_rfl⟩
theorem ok27 : Ok Try.prog 27 ctr27 := ok_tab okT27 call27 fun args K h => by
  unfold ctr27 at h
  split at h
  · rename_i a0_n a0_s a0_g a1_n a1_s a1_g
    obtain ⟨⟨⟨rfl, a0_f, rfl⟩, ⟨rfl, a1_f, rfl⟩, hs⟩, hk⟩ := h
    try rw [decF_enc_69 a0_f] at hs
    try rw [decF_enc_69 a0_f] at hk
    try rw [decF_enc_69 a1_f] at hs
    try rw [decF_enc_69 a1_f] at hk
    exact ⟨(fun _ _ => []), (fun _ => false), ann27, q27 (⟨a0_n, a0_f⟩ : (Sl FluxStep)) (⟨a1_n, a1_f⟩ : (Sl FluxStep)) K hs hk⟩
  · exact h.elim
-- 46 overburdenref05.Above
abbrev T46 : Tabs := Tabs.nil
theorem okT46 : TabsOk Try.prog T46 := TabsOk.nil
abbrev G46 : Ctrs := csm T46 (fun _ _ => []) (fun _ => false)
def ann46 : Ann := ⟨57, [(0, ⟨[0, 3, 4], [3, 4], [], [], []⟩), (1, ⟨[0, 3, 4, 5], [3, 4, 5], [], [], []⟩), (2, ⟨[0, 3, 4, 5, 6], [3, 4, 5], [], [], []⟩), (3, ⟨[0, 3, 4, 5, 6, 11], [3, 4, 5], [], [], []⟩), (4, ⟨[0, 3, 4, 5, 6], [3, 4, 5], [], [], []⟩), (5, ⟨[0, 3, 4, 5, 6, 21], [3, 4, 5], [], [], []⟩), (6, ⟨[0, 3, 4, 5, 6], [3, 4, 5], [], [], []⟩), (7, ⟨[0, 3, 4, 5, 7], [3, 4, 5], [], [], []⟩), (8, ⟨[0, 3, 4, 5, 7, 38], [3, 4, 5], [], [], []⟩), (9, ⟨[0, 3, 4, 5, 7], [3, 4, 5], [], [], []⟩), (10, ⟨[0, 3, 4, 5, 7, 48], [3, 4, 5], [], [], []⟩), (11, ⟨[0, 3, 4, 5, 7], [3, 4, 5], [], [], []⟩), (12, ⟨[4], [4], [], [], []⟩)],
  [(3, ⟨[0, 3, 4, 5, 6], [3, 4, 5], [], [], []⟩), (8, ⟨[0, 3, 4, 5, 7], [3, 4, 5], [], [], []⟩)],
  [(7, ⟨[0, 3, 4, 5], [3, 4, 5], [], [], []⟩)],
  [], []⟩
def f46_g0 (l_a0 : (Sl FluxRow)) (x : Span) (iv0 : Int) (out_1v0 : Int) : St := ⟨[(0, .one (.c (.p (.sl l_a0.len 3 (fun i => enc_44 (l_a0.get i)))))), (3, .one (.c (.ptr 3 0))), (4, .one (.c (.ptr 4 0))), (5, .one (.c (.ptr 5 0))), (6, .one (.c (.p (.int .i64 iv0))))], [(3, .box 24 [.p (.int .i64 x.Low), .p (.int .i64 x.High)]), (4, .box 24 [.p (.int .i64 (0:Int)), .p (.int .i64 (0:Int))]), (5, .box 24 [.p (.int .i64 (0:Int)), .p (.int .i64 out_1v0)])], []⟩
def f46_at0 (K : List PA → Prop) (l_a0 : (Sl FluxRow)) (x : Span) (iv0 : Int) (out_1v0 : Int) : Prop := vc Try.prog G46 ann46 (cdF Try.f46 [1, 1, 0, 1, 0]) (blockK 0 (sqK Try.prog G46 ann46 (cdF Try.f46 [1, 1, 1]) (bodyK Try.prog Try.f46 K))) (f46_g0 l_a0 x iv0 out_1v0)
def f46_g1 (l_a0 : (Sl FluxRow)) (x : Span) (out_1v1 : Int) : St := ⟨[(0, .one (.c (.p (.sl l_a0.len 3 (fun i => enc_44 (l_a0.get i)))))), (3, .one (.c (.ptr 3 0))), (4, .one (.c (.ptr 4 0))), (5, .one (.c (.ptr 5 0)))], [(3, .box 24 [.p (.int .i64 x.Low), .p (.int .i64 x.High)]), (4, .box 24 [.p (.int .i64 (0:Int)), .p (.int .i64 (0:Int))]), (5, .box 24 [.p (.int .i64 (0:Int)), .p (.int .i64 out_1v1)])], []⟩
def f46_at1 (K : List PA → Prop) (l_a0 : (Sl FluxRow)) (x : Span) (out_1v1 : Int) : Prop := vc Try.prog G46 ann46 (cdF Try.f46 [1, 1, 1]) (bodyK Try.prog Try.f46 K) (f46_g1 l_a0 x out_1v1)
def f46_g2 (l_a0 : (Sl FluxRow)) (x : Span) (iv2 : Int) (out_0v2 : Int) (out_1v2 : Int) : St := ⟨[(0, .one (.c (.p (.sl l_a0.len 3 (fun i => enc_44 (l_a0.get i)))))), (3, .one (.c (.ptr 3 0))), (4, .one (.c (.ptr 4 0))), (5, .one (.c (.ptr 5 0))), (7, .one (.c (.p (.int .i64 iv2))))], [(3, .box 24 [.p (.int .i64 x.Low), .p (.int .i64 x.High)]), (4, .box 24 [.p (.int .i64 (0:Int)), .p (.int .i64 (0:Int))]), (5, .box 24 [.p (.int .i64 out_0v2), .p (.int .i64 out_1v2)])], []⟩
def f46_at2 (K : List PA → Prop) (l_a0 : (Sl FluxRow)) (x : Span) (iv2 : Int) (out_0v2 : Int) (out_1v2 : Int) : Prop := vc Try.prog G46 ann46 (cdF Try.f46 [1, 1, 1, 0, 1, 0]) (blockK 2 (sqK Try.prog G46 ann46 (cdF Try.f46 [1, 1, 1, 1]) (bodyK Try.prog Try.f46 K))) (f46_g2 l_a0 x iv2 out_0v2 out_1v2)
theorem f46_top (l_a0 : (Sl FluxRow)) (x : Span) (K : List PA → Prop) :
  vcFun Try.prog G46 ann46 46 [.one (.sl l_a0.len 3 (fun i => enc_44 (l_a0.get i))), .agg [.int .i64 x.Low, .int .i64 x.High]] K =
  (f46_at0 K l_a0 x (0:Int) (0:Int)) := by kernel_rfl
def f46_step0 (K : List PA → Prop) (X0 : St → Prop) (l_a0 : (Sl FluxRow)) (x : Span) (iv0 : Int) (out_1v0 : Int) : Prop :=
  (condP (decide (iv0 < (l_a0.len : Int)))
   (((0 ≤ iv0 ∧ iv0 < (l_a0.len : Int))) ∧
   (condP (decide ((l_a0.get iv0.toNat).Energy ≤ x.Low))
    (((0 ≤ iv0 ∧ iv0 < (l_a0.len : Int))) ∧
    (X0 (f46_g0 l_a0 x (w64 (iv0 + (1:Int))) ((l_a0.get iv0.toNat).Rate.High))))
    (X0 (f46_g0 l_a0 x (w64 (iv0 + (1:Int))) out_1v0))))
   (f46_at1 K l_a0 x out_1v0))
theorem f46_stepeq0 (K : List PA → Prop) (X0 : St → Prop) (l_a0 : (Sl FluxRow)) (x : Span) (iv0 : Int) (out_1v0 : Int) :
  vc Try.prog G46 ann46 (cd (cdF Try.f46 [1, 1, 0, 1, 0]) [0]) (loopK Try.prog ann46 3 X0 (blockK 0 (sqK Try.prog G46 ann46 (cdF Try.f46 [1, 1, 1]) (bodyK Try.prog Try.f46 K)))) (f46_g0 l_a0 x iv0 out_1v0) =
  f46_step0 K X0 l_a0 x iv0 out_1v0 := by kernel_rfl
theorem f46_loop0 (K : List PA → Prop) (l_a0 : (Sl FluxRow)) (x : Span) (iv0 : Int) (out_1v0 : Int)
  (h : ∀ X0 : St → Prop, (∀ (iv0 : Int) (out_1v0 : Int), f46_step0 K X0 l_a0 x iv0 out_1v0 → X0 (f46_g0 l_a0 x iv0 out_1v0)) → X0 (f46_g0 l_a0 x iv0 out_1v0)) :
  f46_at0 K l_a0 x iv0 out_1v0 := by
  have e : f46_at0 K l_a0 x iv0 out_1v0 = (∀ X : St → Prop, (∀ s, vc Try.prog G46 ann46 (cd (cdF Try.f46 [1, 1, 0, 1, 0]) [0]) (loopK Try.prog ann46 3 X (blockK 0 (sqK Try.prog G46 ann46 (cdF Try.f46 [1, 1, 1]) (bodyK Try.prog Try.f46 K)))) s → X s) → X (f46_g0 l_a0 x iv0 out_1v0)) := by kernel_rfl
  refine ofEq e ?_
  intro X hX
  refine h X ?_
  intro iv0 out_1v0 hs
  refine hX _ ?_
  have e2 := f46_stepeq0 K X l_a0 x iv0 out_1v0
  rw [e2]
  exact hs
theorem f46_eq1 (K : List PA → Prop) (l_a0 : (Sl FluxRow)) (x : Span) (out_1v1 : Int) :
  f46_at1 K l_a0 x out_1v1 =
  (f46_at2 K l_a0 x (w64 ((l_a0.len : Int) - (1:Int))) (0:Int) out_1v1) := by kernel_rfl
def f46_step2 (K : List PA → Prop) (X2 : St → Prop) (l_a0 : (Sl FluxRow)) (x : Span) (iv2 : Int) (out_0v2 : Int) (out_1v2 : Int) : Prop :=
  (condP (decide (iv2 ≥ (0:Int)))
   (condP (x.High != (-1:Int))
    (((0 ≤ iv2 ∧ iv2 < (l_a0.len : Int))) ∧
    (condP (decide ((l_a0.get iv2.toNat).Energy ≥ x.High))
     (((0 ≤ iv2 ∧ iv2 < (l_a0.len : Int))) ∧
     (X2 (f46_g2 l_a0 x (w64 (iv2 - (1:Int))) ((l_a0.get iv2.toNat).Rate.Low) out_1v2)))
     (X2 (f46_g2 l_a0 x (w64 (iv2 - (1:Int))) out_0v2 out_1v2))))
    (K [.agg [.int .i64 out_0v2, .int .i64 out_1v2]]))
   (K [.agg [.int .i64 out_0v2, .int .i64 out_1v2]]))
theorem f46_stepeq2 (K : List PA → Prop) (X2 : St → Prop) (l_a0 : (Sl FluxRow)) (x : Span) (iv2 : Int) (out_0v2 : Int) (out_1v2 : Int) :
  vc Try.prog G46 ann46 (cd (cdF Try.f46 [1, 1, 1, 0, 1, 0]) [0]) (loopK Try.prog ann46 8 X2 (blockK 2 (sqK Try.prog G46 ann46 (cdF Try.f46 [1, 1, 1, 1]) (bodyK Try.prog Try.f46 K)))) (f46_g2 l_a0 x iv2 out_0v2 out_1v2) =
  f46_step2 K X2 l_a0 x iv2 out_0v2 out_1v2 := by kernel_rfl
theorem f46_loop2 (K : List PA → Prop) (l_a0 : (Sl FluxRow)) (x : Span) (iv2 : Int) (out_0v2 : Int) (out_1v2 : Int)
  (h : ∀ X2 : St → Prop, (∀ (iv2 : Int) (out_0v2 : Int) (out_1v2 : Int), f46_step2 K X2 l_a0 x iv2 out_0v2 out_1v2 → X2 (f46_g2 l_a0 x iv2 out_0v2 out_1v2)) → X2 (f46_g2 l_a0 x iv2 out_0v2 out_1v2)) :
  f46_at2 K l_a0 x iv2 out_0v2 out_1v2 := by
  have e : f46_at2 K l_a0 x iv2 out_0v2 out_1v2 = (∀ X : St → Prop, (∀ s, vc Try.prog G46 ann46 (cd (cdF Try.f46 [1, 1, 1, 0, 1, 0]) [0]) (loopK Try.prog ann46 8 X (blockK 2 (sqK Try.prog G46 ann46 (cdF Try.f46 [1, 1, 1, 1]) (bodyK Try.prog Try.f46 K)))) s → X s) → X (f46_g2 l_a0 x iv2 out_0v2 out_1v2)) := by kernel_rfl
  refine ofEq e ?_
  intro X hX
  refine h X ?_
  intro iv2 out_0v2 out_1v2 hs
  refine hX _ ?_
  have e2 := f46_stepeq2 K X l_a0 x iv2 out_0v2 out_1v2
  rw [e2]
  exact hs
abbrev R46 := Span
abbrev e46 (r : Span) : List PA := [.agg [.int .i64 r.Low, .int .i64 r.High]]
attribute [irreducible] f46_at0 f46_at1 f46_at2
def s46_st2 (l_a0 : (Sl FluxRow)) (x : Span) (S2 : Int → Int → Int → Span) (iv2 : Int) (out_0v2 : Int) (out_1v2 : Int) : Span :=
  (cond (decide (iv2 ≥ (0:Int)))
   (cond (x.High != (-1:Int))
    (cond (decide ((l_a0.get iv2.toNat).Energy ≥ x.High))
     (S2 (w64 (iv2 - (1:Int))) ((l_a0.get iv2.toNat).Rate.Low) out_1v2)
     (S2 (w64 (iv2 - (1:Int))) out_0v2 out_1v2))
    (⟨out_0v2, out_1v2⟩ : Span))
   (⟨out_0v2, out_1v2⟩ : Span))
def p46_st2 (l_a0 : (Sl FluxRow)) (x : Span) (P2 : Int → Int → Int → Bool) (iv2 : Int) (out_0v2 : Int) (out_1v2 : Int) : Bool :=
  (cond (decide (iv2 ≥ (0:Int)))
   (cond (x.High != (-1:Int))
    (decide ((0 ≤ iv2 ∧ iv2 < (l_a0.len : Int))) &&
    (cond (decide ((l_a0.get iv2.toNat).Energy ≥ x.High))
     (decide ((0 ≤ iv2 ∧ iv2 < (l_a0.len : Int))) &&
     (P2 (w64 (iv2 - (1:Int))) ((l_a0.get iv2.toNat).Rate.Low) out_1v2))
     (P2 (w64 (iv2 - (1:Int))) out_0v2 out_1v2)))
    true)
   true)
def s46_lp2 (l_a0 : (Sl FluxRow)) (x : Span) : Nat → Int → Int → Int → Span
  | 0 => fun _ _ _ => default
  | k + 1 => s46_st2 l_a0 x (s46_lp2 l_a0 x k)
def p46_lp2 (l_a0 : (Sl FluxRow)) (x : Span) : Nat → Int → Int → Int → Bool
  | 0 => fun _ _ _ => false
  | k + 1 => p46_st2 l_a0 x (p46_lp2 l_a0 x k)
def s46_at2 (l_a0 : (Sl FluxRow)) (x : Span) (iv2 : Int) (out_0v2 : Int) (out_1v2 : Int) : Span := s46_lp2 l_a0 x Fuel iv2 out_0v2 out_1v2
def p46_at2 (l_a0 : (Sl FluxRow)) (x : Span) (iv2 : Int) (out_0v2 : Int) (out_1v2 : Int) : Bool := p46_lp2 l_a0 x Fuel iv2 out_0v2 out_1v2
theorem q46_at2 (K : List PA → Prop) (l_a0 : (Sl FluxRow)) (x : Span) (iv2 : Int) (out_0v2 : Int) (out_1v2 : Int) (hs : p46_at2 l_a0 x iv2 out_0v2 out_1v2 = true) (hk : K (e46 (s46_at2 l_a0 x iv2 out_0v2 out_1v2))) : f46_at2 K l_a0 x iv2 out_0v2 out_1v2 := by
  refine f46_loop2 K l_a0 x iv2 out_0v2 out_1v2 ?_
  intro X2 hstep
  have key : ∀ (k : Nat) (iv2 : Int) (out_0v2 : Int) (out_1v2 : Int), p46_lp2 l_a0 x k iv2 out_0v2 out_1v2 = true → K (e46 (s46_lp2 l_a0 x k iv2 out_0v2 out_1v2)) → X2 (f46_g2 l_a0 x iv2 out_0v2 out_1v2) := by
    intro k
    induction k with
    | zero => intro iv2 out_0v2 out_1v2 hs; exact absurd hs Bool.false_ne_true
    | succ k ih =>
      intro iv2 out_0v2 out_1v2 hs hk
      refine hstep iv2 out_0v2 out_1v2 ?_
      have hs : p46_st2 l_a0 x (p46_lp2 l_a0 x k) iv2 out_0v2 out_1v2 = true := hs
      have hk : K (e46 (s46_st2 l_a0 x (s46_lp2 l_a0 x k) iv2 out_0v2 out_1v2)) := hk
      unfold p46_st2 at hs
      unfold s46_st2 at hk
      generalize s46_lp2 l_a0 x k = S2 at hk ih
      generalize p46_lp2 l_a0 x k = P2 at hs ih
      have hX2 := ih
      exact (condB_go (K := fun r => K (e46 r))
       (fun hs hk => (condB_go (K := fun r => K (e46 r))
        (fun hs hk => (andK hs fun hc hs => ⟨hc, (condB_go (K := fun r => K (e46 r))
         (fun hs hk => (andK hs fun hc hs => ⟨hc, (hX2 (w64 (iv2 - (1:Int))) ((l_a0.get iv2.toNat).Rate.Low) out_1v2 hs hk)⟩))
         (fun hs hk => (hX2 (w64 (iv2 - (1:Int))) out_0v2 out_1v2 hs hk)) hs hk)⟩))
        (fun hs hk => hk) hs hk))
       (fun hs hk => hk) hs hk)
  exact key _ iv2 out_0v2 out_1v2 hs hk
def s46_at1 (l_a0 : (Sl FluxRow)) (x : Span) (out_1v1 : Int) : Span :=
  (s46_at2 l_a0 x (w64 ((l_a0.len : Int) - (1:Int))) (0:Int) out_1v1)
def p46_at1 (l_a0 : (Sl FluxRow)) (x : Span) (out_1v1 : Int) : Bool :=
  (p46_at2 l_a0 x (w64 ((l_a0.len : Int) - (1:Int))) (0:Int) out_1v1)
theorem q46_at1 (K : List PA → Prop) (l_a0 : (Sl FluxRow)) (x : Span) (out_1v1 : Int) (hs : p46_at1 l_a0 x out_1v1 = true) (hk : K (e46 (s46_at1 l_a0 x out_1v1))) : f46_at1 K l_a0 x out_1v1 := by
  refine ofEq (f46_eq1 K l_a0 x out_1v1) ?_
  unfold p46_at1 at hs
  unfold s46_at1 at hk
  exact (q46_at2 K l_a0 x (w64 ((l_a0.len : Int) - (1:Int))) (0:Int) out_1v1 hs hk)
def s46_st0 (l_a0 : (Sl FluxRow)) (x : Span) (S0 : Int → Int → Span) (iv0 : Int) (out_1v0 : Int) : Span :=
  (cond (decide (iv0 < (l_a0.len : Int)))
   (cond (decide ((l_a0.get iv0.toNat).Energy ≤ x.Low))
    (S0 (w64 (iv0 + (1:Int))) ((l_a0.get iv0.toNat).Rate.High))
    (S0 (w64 (iv0 + (1:Int))) out_1v0))
   (s46_at1 l_a0 x out_1v0))
def p46_st0 (l_a0 : (Sl FluxRow)) (x : Span) (P0 : Int → Int → Bool) (iv0 : Int) (out_1v0 : Int) : Bool :=
  (cond (decide (iv0 < (l_a0.len : Int)))
   (decide ((0 ≤ iv0 ∧ iv0 < (l_a0.len : Int))) &&
   (cond (decide ((l_a0.get iv0.toNat).Energy ≤ x.Low))
    (decide ((0 ≤ iv0 ∧ iv0 < (l_a0.len : Int))) &&
    (P0 (w64 (iv0 + (1:Int))) ((l_a0.get iv0.toNat).Rate.High)))
    (P0 (w64 (iv0 + (1:Int))) out_1v0)))
   (p46_at1 l_a0 x out_1v0))
def s46_lp0 (l_a0 : (Sl FluxRow)) (x : Span) : Nat → Int → Int → Span
  | 0 => fun _ _ => default
  | k + 1 => s46_st0 l_a0 x (s46_lp0 l_a0 x k)
def p46_lp0 (l_a0 : (Sl FluxRow)) (x : Span) : Nat → Int → Int → Bool
  | 0 => fun _ _ => false
  | k + 1 => p46_st0 l_a0 x (p46_lp0 l_a0 x k)
def s46_at0 (l_a0 : (Sl FluxRow)) (x : Span) (iv0 : Int) (out_1v0 : Int) : Span := s46_lp0 l_a0 x Fuel iv0 out_1v0
def p46_at0 (l_a0 : (Sl FluxRow)) (x : Span) (iv0 : Int) (out_1v0 : Int) : Bool := p46_lp0 l_a0 x Fuel iv0 out_1v0
theorem q46_at0 (K : List PA → Prop) (l_a0 : (Sl FluxRow)) (x : Span) (iv0 : Int) (out_1v0 : Int) (hs : p46_at0 l_a0 x iv0 out_1v0 = true) (hk : K (e46 (s46_at0 l_a0 x iv0 out_1v0))) : f46_at0 K l_a0 x iv0 out_1v0 := by
  refine f46_loop0 K l_a0 x iv0 out_1v0 ?_
  intro X0 hstep
  have key : ∀ (k : Nat) (iv0 : Int) (out_1v0 : Int), p46_lp0 l_a0 x k iv0 out_1v0 = true → K (e46 (s46_lp0 l_a0 x k iv0 out_1v0)) → X0 (f46_g0 l_a0 x iv0 out_1v0) := by
    intro k
    induction k with
    | zero => intro iv0 out_1v0 hs; exact absurd hs Bool.false_ne_true
    | succ k ih =>
      intro iv0 out_1v0 hs hk
      refine hstep iv0 out_1v0 ?_
      have hs : p46_st0 l_a0 x (p46_lp0 l_a0 x k) iv0 out_1v0 = true := hs
      have hk : K (e46 (s46_st0 l_a0 x (s46_lp0 l_a0 x k) iv0 out_1v0)) := hk
      unfold p46_st0 at hs
      unfold s46_st0 at hk
      generalize s46_lp0 l_a0 x k = S0 at hk ih
      generalize p46_lp0 l_a0 x k = P0 at hs ih
      have hX0 := ih
      exact (condB_go (K := fun r => K (e46 r))
       (fun hs hk => (andK hs fun hc hs => ⟨hc, (condB_go (K := fun r => K (e46 r))
        (fun hs hk => (andK hs fun hc hs => ⟨hc, (hX0 (w64 (iv0 + (1:Int))) ((l_a0.get iv0.toNat).Rate.High) hs hk)⟩))
        (fun hs hk => (hX0 (w64 (iv0 + (1:Int))) out_1v0 hs hk)) hs hk)⟩))
       (fun hs hk => (q46_at1 K l_a0 x out_1v0 hs hk)) hs hk)
  exact key _ iv0 out_1v0 hs hk
def s46 (l_a0 : (Sl FluxRow)) (x : Span) : Span :=
  (s46_at0 l_a0 x (0:Int) (0:Int))
def p46 (l_a0 : (Sl FluxRow)) (x : Span) : Bool :=
  (p46_at0 l_a0 x (0:Int) (0:Int))
theorem q46 (l_a0 : (Sl FluxRow)) (x : Span) (K : List PA → Prop) (hs : p46 l_a0 x = true) (hk : K (e46 (s46 l_a0 x))) : vcFun Try.prog G46 ann46 46 [.one (.sl l_a0.len 3 (fun i => enc_44 (l_a0.get i))), .agg [.int .i64 x.Low, .int .i64 x.High]] K := by
  refine ofEq (f46_top l_a0 x K) ?_
  unfold p46 at hs
  unfold s46 at hk
  exact (q46_at0 K l_a0 x (0:Int) (0:Int) hs hk)
def ctr46 : List PA → COut
  | [.one (.sl a0_n a0_s a0_g), .agg [.int .i64 a1_Low, .int .i64 a1_High]] => .det (IsE enc_44 3 a0_s a0_g ∧ p46 (⟨a0_n, decF_44 a0_g⟩ : (Sl FluxRow)) (⟨a1_Low, a1_High⟩ : Span) = true) [.agg [.int .i64 ((s46 (⟨a0_n, decF_44 a0_g⟩ : (Sl FluxRow)) (⟨a1_Low, a1_High⟩ : Span)).Low), .int .i64 ((s46 (⟨a0_n, decF_44 a0_g⟩ : (Sl FluxRow)) (⟨a1_Low, a1_High⟩ : Span)).High)]]
  | _ => .no
theorem call46 : Callable Try.prog 46 := ⟨_, rfl, rfl, by kernel_rfl⟩
theorem ok46 : Ok Try.prog 46 ctr46 := ok_tab okT46 call46 fun args K h => by
  unfold ctr46 at h
  split at h
  · rename_i a0_n a0_s a0_g a1_Low a1_High
    obtain ⟨⟨⟨rfl, a0_f, rfl⟩, hs⟩, hk⟩ := h
    try rw [decF_enc_44 a0_f] at hs
    try rw [decF_enc_44 a0_f] at hk
    exact ⟨(fun _ _ => []), (fun _ => false), ann46, q46 (⟨a0_n, a0_f⟩ : (Sl FluxRow)) (⟨a1_Low, a1_High⟩ : Span) K hs hk⟩
  · exact h.elim
-- 49 overburdenref05.Threshold
abbrev T49 : Tabs := Tabs.nil
theorem okT49 : TabsOk Try.prog T49 := TabsOk.nil
abbrev G49 : Ctrs := csm T49 (fun _ _ => []) (fun _ => false)
def ann49 : Ann := ⟨55, [(0, ⟨[0, 1, 4], [4], [], [], []⟩), (1, ⟨[0, 1, 4, 9], [4], [], [], []⟩), (2, ⟨[4], [4], [], [], []⟩), (3, ⟨[0, 1, 4, 5], [4, 5], [], [], []⟩), (4, ⟨[0, 1, 4, 5, 6], [4, 5], [], [], []⟩), (5, ⟨[0, 1, 4, 5, 6, 15], [4, 5], [], [], []⟩), (6, ⟨[0, 1, 4, 5, 6], [4, 5], [], [], []⟩), (7, ⟨[0, 1, 4, 5, 6, 25], [4, 5], [], [], []⟩), (8, ⟨[0, 1, 4, 5, 6], [4, 5], [], [], []⟩), (9, ⟨[0, 1, 4, 5, 7], [4, 5], [], [], []⟩), (10, ⟨[0, 1, 4, 5, 7, 37], [4, 5], [], [], []⟩), (11, ⟨[0, 1, 4, 5, 7], [4, 5], [], [], []⟩), (12, ⟨[0, 1, 4, 5, 7, 47], [4, 5], [], [], []⟩), (13, ⟨[0, 1, 4, 5, 7], [4, 5], [], [], []⟩), (14, ⟨[4], [4], [], [], []⟩)],
  [(5, ⟨[0, 1, 4, 5, 6], [4, 5], [], [], []⟩), (10, ⟨[0, 1, 4, 5, 7], [4, 5], [], [], []⟩)],
  [(3, ⟨[0, 1, 4], [4], [], [], []⟩), (9, ⟨[0, 1, 4, 5], [4, 5], [], [], []⟩)],
  [], []⟩
def f49_g0 (t : (Sl RangeRow)) (opacity : Int) : St := ⟨[(0, .one (.c (.p (.sl t.len 3 (fun i => enc_42 (t.get i)))))), (1, .one (.c (.p (.int .i64 opacity)))), (4, .one (.c (.ptr 4 0)))], [(4, .box 24 [.p (.int .i64 (0:Int)), .p (.int .i64 (0:Int))])], []⟩
def f49_at0 (K : List PA → Prop) (t : (Sl RangeRow)) (opacity : Int) : Prop := vc Try.prog G49 ann49 (cdF Try.f49 [1, 1]) (bodyK Try.prog Try.f49 K) (f49_g0 t opacity)
def f49_g1 (t : (Sl RangeRow)) (opacity : Int) (iv1 : Int) (out_0v1 : Int) : St := ⟨[(0, .one (.c (.p (.sl t.len 3 (fun i => enc_42 (t.get i)))))), (1, .one (.c (.p (.int .i64 opacity)))), (4, .one (.c (.ptr 4 0))), (5, .one (.c (.ptr 5 0))), (6, .one (.c (.p (.int .i64 iv1))))], [(4, .box 24 [.p (.int .i64 (0:Int)), .p (.int .i64 (0:Int))]), (5, .box 24 [.p (.int .i64 out_0v1), .p (.int .i64 (-1:Int))])], []⟩
def f49_at1 (K : List PA → Prop) (t : (Sl RangeRow)) (opacity : Int) (iv1 : Int) (out_0v1 : Int) : Prop := vc Try.prog G49 ann49 (cdF Try.f49 [1, 1, 1, 0, 1, 0]) (blockK 0 (sqK Try.prog G49 ann49 (cdF Try.f49 [1, 1, 1, 1]) (bodyK Try.prog Try.f49 K))) (f49_g1 t opacity iv1 out_0v1)
def f49_g2 (t : (Sl RangeRow)) (opacity : Int) (out_0v2 : Int) : St := ⟨[(0, .one (.c (.p (.sl t.len 3 (fun i => enc_42 (t.get i)))))), (1, .one (.c (.p (.int .i64 opacity)))), (4, .one (.c (.ptr 4 0))), (5, .one (.c (.ptr 5 0)))], [(4, .box 24 [.p (.int .i64 (0:Int)), .p (.int .i64 (0:Int))]), (5, .box 24 [.p (.int .i64 out_0v2), .p (.int .i64 (-1:Int))])], []⟩
def f49_at2 (K : List PA → Prop) (t : (Sl RangeRow)) (opacity : Int) (out_0v2 : Int) : Prop := vc Try.prog G49 ann49 (cdF Try.f49 [1, 1, 1, 1]) (bodyK Try.prog Try.f49 K) (f49_g2 t opacity out_0v2)
def f49_g3 (t : (Sl RangeRow)) (opacity : Int) (iv3 : Int) (out_0v3 : Int) (out_1v3 : Int) : St := ⟨[(0, .one (.c (.p (.sl t.len 3 (fun i => enc_42 (t.get i)))))), (1, .one (.c (.p (.int .i64 opacity)))), (4, .one (.c (.ptr 4 0))), (5, .one (.c (.ptr 5 0))), (7, .one (.c (.p (.int .i64 iv3))))], [(4, .box 24 [.p (.int .i64 (0:Int)), .p (.int .i64 (0:Int))]), (5, .box 24 [.p (.int .i64 out_0v3), .p (.int .i64 out_1v3)])], []⟩
def f49_at3 (K : List PA → Prop) (t : (Sl RangeRow)) (opacity : Int) (iv3 : Int) (out_0v3 : Int) (out_1v3 : Int) : Prop := vc Try.prog G49 ann49 (cdF Try.f49 [1, 1, 1, 1, 0, 1, 0]) (blockK 2 (sqK Try.prog G49 ann49 (cdF Try.f49 [1, 1, 1, 1, 1]) (bodyK Try.prog Try.f49 K))) (f49_g3 t opacity iv3 out_0v3 out_1v3)
theorem f49_top (t : (Sl RangeRow)) (opacity : Int) (K : List PA → Prop) :
  vcFun Try.prog G49 ann49 49 [.one (.sl t.len 3 (fun i => enc_42 (t.get i))), .one (.int .i64 opacity)] K =
  (condP (opacity == (0:Int))
   (K [.agg [.int .i64 (1:Int), .int .i64 (1:Int)]])
   (f49_at0 K t opacity)) := by kernel_rfl
theorem f49_eq0 (K : List PA → Prop) (t : (Sl RangeRow)) (opacity : Int) :
  f49_at0 K t opacity =
  (f49_at1 K t opacity (0:Int) (1:Int)) := by kernel_rfl
def f49_step1 (K : List PA → Prop) (X1 : St → Prop) (t : (Sl RangeRow)) (opacity : Int) (iv1 : Int) (out_0v1 : Int) : Prop :=
  (condP (decide (iv1 < (t.len : Int)))
   (((0 ≤ iv1 ∧ iv1 < (t.len : Int))) ∧
   (condP (decide ((t.get iv1.toNat).Range.High < opacity))
    (((0 ≤ iv1 ∧ iv1 < (t.len : Int))) ∧
    (X1 (f49_g1 t opacity (w64 (iv1 + (1:Int))) (w64 ((t.get iv1.toNat).Energy + (1:Int))))))
    (X1 (f49_g1 t opacity (w64 (iv1 + (1:Int))) out_0v1))))
   (f49_at2 K t opacity out_0v1))
theorem f49_stepeq1 (K : List PA → Prop) (X1 : St → Prop) (t : (Sl RangeRow)) (opacity : Int) (iv1 : Int) (out_0v1 : Int) :
  vc Try.prog G49 ann49 (cd (cdF Try.f49 [1, 1, 1, 0, 1, 0]) [0]) (loopK Try.prog ann49 5 X1 (blockK 0 (sqK Try.prog G49 ann49 (cdF Try.f49 [1, 1, 1, 1]) (bodyK Try.prog Try.f49 K)))) (f49_g1 t opacity iv1 out_0v1) =
  f49_step1 K X1 t opacity iv1 out_0v1 := by kernel_rfl
theorem f49_loop1 (K : List PA → Prop) (t : (Sl RangeRow)) (opacity : Int) (iv1 : Int) (out_0v1 : Int)
  (h : ∀ X1 : St → Prop, (∀ (iv1 : Int) (out_0v1 : Int), f49_step1 K X1 t opacity iv1 out_0v1 → X1 (f49_g1 t opacity iv1 out_0v1)) → X1 (f49_g1 t opacity iv1 out_0v1)) :
  f49_at1 K t opacity iv1 out_0v1 := by
  have e : f49_at1 K t opacity iv1 out_0v1 = (∀ X : St → Prop, (∀ s, vc Try.prog G49 ann49 (cd (cdF Try.f49 [1, 1, 1, 0, 1, 0]) [0]) (loopK Try.prog ann49 5 X (blockK 0 (sqK Try.prog G49 ann49 (cdF Try.f49 [1, 1, 1, 1]) (bodyK Try.prog Try.f49 K)))) s → X s) → X (f49_g1 t opacity iv1 out_0v1)) := by kernel_rfl
  refine ofEq e ?_
  intro X hX
  refine h X ?_
  intro iv1 out_0v1 hs
  refine hX _ ?_
  have e2 := f49_stepeq1 K X t opacity iv1 out_0v1
  rw [e2]
  exact hs
theorem f49_eq2 (K : List PA → Prop) (t : (Sl RangeRow)) (opacity : Int) (out_0v2 : Int) :
  f49_at2 K t opacity out_0v2 =
  (f49_at3 K t opacity (w64 ((t.len : Int) - (1:Int))) out_0v2 (-1:Int)) := by kernel_rfl
def f49_step3 (K : List PA → Prop) (X3 : St → Prop) (t : (Sl RangeRow)) (opacity : Int) (iv3 : Int) (out_0v3 : Int) (out_1v3 : Int) : Prop :=
  (condP (decide (iv3 ≥ (0:Int)))
   (((0 ≤ iv3 ∧ iv3 < (t.len : Int))) ∧
   (condP (decide ((t.get iv3.toNat).Range.Low ≥ opacity))
    (((0 ≤ iv3 ∧ iv3 < (t.len : Int))) ∧
    (X3 (f49_g3 t opacity (w64 (iv3 - (1:Int))) out_0v3 ((t.get iv3.toNat).Energy))))
    (X3 (f49_g3 t opacity (w64 (iv3 - (1:Int))) out_0v3 out_1v3))))
   (K [.agg [.int .i64 out_0v3, .int .i64 out_1v3]]))
theorem f49_stepeq3 (K : List PA → Prop) (X3 : St → Prop) (t : (Sl RangeRow)) (opacity : Int) (iv3 : Int) (out_0v3 : Int) (out_1v3 : Int) :
  vc Try.prog G49 ann49 (cd (cdF Try.f49 [1, 1, 1, 1, 0, 1, 0]) [0]) (loopK Try.prog ann49 10 X3 (blockK 2 (sqK Try.prog G49 ann49 (cdF Try.f49 [1, 1, 1, 1, 1]) (bodyK Try.prog Try.f49 K)))) (f49_g3 t opacity iv3 out_0v3 out_1v3) =
  f49_step3 K X3 t opacity iv3 out_0v3 out_1v3 := by kernel_rfl
theorem f49_loop3 (K : List PA → Prop) (t : (Sl RangeRow)) (opacity : Int) (iv3 : Int) (out_0v3 : Int) (out_1v3 : Int)
  (h : ∀ X3 : St → Prop, (∀ (iv3 : Int) (out_0v3 : Int) (out_1v3 : Int), f49_step3 K X3 t opacity iv3 out_0v3 out_1v3 → X3 (f49_g3 t opacity iv3 out_0v3 out_1v3)) → X3 (f49_g3 t opacity iv3 out_0v3 out_1v3)) :
  f49_at3 K t opacity iv3 out_0v3 out_1v3 := by
  have e : f49_at3 K t opacity iv3 out_0v3 out_1v3 = (∀ X : St → Prop, (∀ s, vc Try.prog G49 ann49 (cd (cdF Try.f49 [1, 1, 1, 1, 0, 1, 0]) [0]) (loopK Try.prog ann49 10 X (blockK 2 (sqK Try.prog G49 ann49 (cdF Try.f49 [1, 1, 1, 1, 1]) (bodyK Try.prog Try.f49 K)))) s → X s) → X (f49_g3 t opacity iv3 out_0v3 out_1v3)) := by kernel_rfl
  refine ofEq e ?_
  intro X hX
  refine h X ?_
  intro iv3 out_0v3 out_1v3 hs
  refine hX _ ?_
  have e2 := f49_stepeq3 K X t opacity iv3 out_0v3 out_1v3
  rw [e2]
  exact hs
abbrev R49 := Span
abbrev e49 (r : Span) : List PA := [.agg [.int .i64 r.Low, .int .i64 r.High]]
attribute [irreducible] f49_at0 f49_at1 f49_at2 f49_at3
def s49_st3 (t : (Sl RangeRow)) (opacity : Int) (S3 : Int → Int → Int → Span) (iv3 : Int) (out_0v3 : Int) (out_1v3 : Int) : Span :=
  (cond (decide (iv3 ≥ (0:Int)))
   (cond (decide ((t.get iv3.toNat).Range.Low ≥ opacity))
    (S3 (w64 (iv3 - (1:Int))) out_0v3 ((t.get iv3.toNat).Energy))
    (S3 (w64 (iv3 - (1:Int))) out_0v3 out_1v3))
   (⟨out_0v3, out_1v3⟩ : Span))
def p49_st3 (t : (Sl RangeRow)) (opacity : Int) (P3 : Int → Int → Int → Bool) (iv3 : Int) (out_0v3 : Int) (out_1v3 : Int) : Bool :=
  (cond (decide (iv3 ≥ (0:Int)))
   (decide ((0 ≤ iv3 ∧ iv3 < (t.len : Int))) &&
   (cond (decide ((t.get iv3.toNat).Range.Low ≥ opacity))
    (decide ((0 ≤ iv3 ∧ iv3 < (t.len : Int))) &&
    (P3 (w64 (iv3 - (1:Int))) out_0v3 ((t.get iv3.toNat).Energy)))
    (P3 (w64 (iv3 - (1:Int))) out_0v3 out_1v3)))
   true)
def s49_lp3 (t : (Sl RangeRow)) (opacity : Int) : Nat → Int → Int → Int → Span
  | 0 => fun _ _ _ => default
  | k + 1 => s49_st3 t opacity (s49_lp3 t opacity k)
def p49_lp3 (t : (Sl RangeRow)) (opacity : Int) : Nat → Int → Int → Int → Bool
  | 0 => fun _ _ _ => false
  | k + 1 => p49_st3 t opacity (p49_lp3 t opacity k)
def s49_at3 (t : (Sl RangeRow)) (opacity : Int) (iv3 : Int) (out_0v3 : Int) (out_1v3 : Int) : Span := s49_lp3 t opacity Fuel iv3 out_0v3 out_1v3
def p49_at3 (t : (Sl RangeRow)) (opacity : Int) (iv3 : Int) (out_0v3 : Int) (out_1v3 : Int) : Bool := p49_lp3 t opacity Fuel iv3 out_0v3 out_1v3
theorem q49_at3 (K : List PA → Prop) (t : (Sl RangeRow)) (opacity : Int) (iv3 : Int) (out_0v3 : Int) (out_1v3 : Int) (hs : p49_at3 t opacity iv3 out_0v3 out_1v3 = true) (hk : K (e49 (s49_at3 t opacity iv3 out_0v3 out_1v3))) : f49_at3 K t opacity iv3 out_0v3 out_1v3 := by
  refine f49_loop3 K t opacity iv3 out_0v3 out_1v3 ?_
  intro X3 hstep
  have key : ∀ (k : Nat) (iv3 : Int) (out_0v3 : Int) (out_1v3 : Int), p49_lp3 t opacity k iv3 out_0v3 out_1v3 = true → K (e49 (s49_lp3 t opacity k iv3 out_0v3 out_1v3)) → X3 (f49_g3 t opacity iv3 out_0v3 out_1v3) := by
    intro k
    induction k with
    | zero => intro iv3 out_0v3 out_1v3 hs; exact absurd hs Bool.false_ne_true
    | succ k ih =>
      intro iv3 out_0v3 out_1v3 hs hk
      refine hstep iv3 out_0v3 out_1v3 ?_
      have hs : p49_st3 t opacity (p49_lp3 t opacity k) iv3 out_0v3 out_1v3 = true := hs
      have hk : K (e49 (s49_st3 t opacity (s49_lp3 t opacity k) iv3 out_0v3 out_1v3)) := hk
      unfold p49_st3 at hs
      unfold s49_st3 at hk
      generalize s49_lp3 t opacity k = S3 at hk ih
      generalize p49_lp3 t opacity k = P3 at hs ih
      have hX3 := ih
      exact (condB_go (K := fun r => K (e49 r))
       (fun hs hk => (andK hs fun hc hs => ⟨hc, (condB_go (K := fun r => K (e49 r))
        (fun hs hk => (andK hs fun hc hs => ⟨hc, (hX3 (w64 (iv3 - (1:Int))) out_0v3 ((t.get iv3.toNat).Energy) hs hk)⟩))
        (fun hs hk => (hX3 (w64 (iv3 - (1:Int))) out_0v3 out_1v3 hs hk)) hs hk)⟩))
       (fun hs hk => hk) hs hk)
  exact key _ iv3 out_0v3 out_1v3 hs hk
def s49_at2 (t : (Sl RangeRow)) (opacity : Int) (out_0v2 : Int) : Span :=
  (s49_at3 t opacity (w64 ((t.len : Int) - (1:Int))) out_0v2 (-1:Int))
def p49_at2 (t : (Sl RangeRow)) (opacity : Int) (out_0v2 : Int) : Bool :=
  (p49_at3 t opacity (w64 ((t.len : Int) - (1:Int))) out_0v2 (-1:Int))
theorem q49_at2 (K : List PA → Prop) (t : (Sl RangeRow)) (opacity : Int) (out_0v2 : Int) (hs : p49_at2 t opacity out_0v2 = true) (hk : K (e49 (s49_at2 t opacity out_0v2))) : f49_at2 K t opacity out_0v2 := by
  refine ofEq (f49_eq2 K t opacity out_0v2) ?_
  unfold p49_at2 at hs
  unfold s49_at2 at hk
  exact (q49_at3 K t opacity (w64 ((t.len : Int) - (1:Int))) out_0v2 (-1:Int) hs hk)
def s49_st1 (t : (Sl RangeRow)) (opacity : Int) (S1 : Int → Int → Span) (iv1 : Int) (out_0v1 : Int) : Span :=
  (cond (decide (iv1 < (t.len : Int)))
   (cond (decide ((t.get iv1.toNat).Range.High < opacity))
    (S1 (w64 (iv1 + (1:Int))) (w64 ((t.get iv1.toNat).Energy + (1:Int))))
    (S1 (w64 (iv1 + (1:Int))) out_0v1))
   (s49_at2 t opacity out_0v1))
def p49_st1 (t : (Sl RangeRow)) (opacity : Int) (P1 : Int → Int → Bool) (iv1 : Int) (out_0v1 : Int) : Bool :=
  (cond (decide (iv1 < (t.len : Int)))
   (decide ((0 ≤ iv1 ∧ iv1 < (t.len : Int))) &&
   (cond (decide ((t.get iv1.toNat).Range.High < opacity))
    (decide ((0 ≤ iv1 ∧ iv1 < (t.len : Int))) &&
    (P1 (w64 (iv1 + (1:Int))) (w64 ((t.get iv1.toNat).Energy + (1:Int)))))
    (P1 (w64 (iv1 + (1:Int))) out_0v1)))
   (p49_at2 t opacity out_0v1))
def s49_lp1 (t : (Sl RangeRow)) (opacity : Int) : Nat → Int → Int → Span
  | 0 => fun _ _ => default
  | k + 1 => s49_st1 t opacity (s49_lp1 t opacity k)
def p49_lp1 (t : (Sl RangeRow)) (opacity : Int) : Nat → Int → Int → Bool
  | 0 => fun _ _ => false
  | k + 1 => p49_st1 t opacity (p49_lp1 t opacity k)
def s49_at1 (t : (Sl RangeRow)) (opacity : Int) (iv1 : Int) (out_0v1 : Int) : Span := s49_lp1 t opacity Fuel iv1 out_0v1
def p49_at1 (t : (Sl RangeRow)) (opacity : Int) (iv1 : Int) (out_0v1 : Int) : Bool := p49_lp1 t opacity Fuel iv1 out_0v1
theorem q49_at1 (K : List PA → Prop) (t : (Sl RangeRow)) (opacity : Int) (iv1 : Int) (out_0v1 : Int) (hs : p49_at1 t opacity iv1 out_0v1 = true) (hk : K (e49 (s49_at1 t opacity iv1 out_0v1))) : f49_at1 K t opacity iv1 out_0v1 := by
  refine f49_loop1 K t opacity iv1 out_0v1 ?_
  intro X1 hstep
  have key : ∀ (k : Nat) (iv1 : Int) (out_0v1 : Int), p49_lp1 t opacity k iv1 out_0v1 = true → K (e49 (s49_lp1 t opacity k iv1 out_0v1)) → X1 (f49_g1 t opacity iv1 out_0v1) := by
    intro k
    induction k with
    | zero => intro iv1 out_0v1 hs; exact absurd hs Bool.false_ne_true
    | succ k ih =>
      intro iv1 out_0v1 hs hk
      refine hstep iv1 out_0v1 ?_
      have hs : p49_st1 t opacity (p49_lp1 t opacity k) iv1 out_0v1 = true := hs
      have hk : K (e49 (s49_st1 t opacity (s49_lp1 t opacity k) iv1 out_0v1)) := hk
      unfold p49_st1 at hs
      unfold s49_st1 at hk
      generalize s49_lp1 t opacity k = S1 at hk ih
      generalize p49_lp1 t opacity k = P1 at hs ih
      have hX1 := ih
      exact (condB_go (K := fun r => K (e49 r))
       (fun hs hk => (andK hs fun hc hs => ⟨hc, (condB_go (K := fun r => K (e49 r))
        (fun hs hk => (andK hs fun hc hs => ⟨hc, (hX1 (w64 (iv1 + (1:Int))) (w64 ((t.get iv1.toNat).Energy + (1:Int))) hs hk)⟩))
        (fun hs hk => (hX1 (w64 (iv1 + (1:Int))) out_0v1 hs hk)) hs hk)⟩))
       (fun hs hk => (q49_at2 K t opacity out_0v1 hs hk)) hs hk)
  exact key _ iv1 out_0v1 hs hk
def s49_at0 (t : (Sl RangeRow)) (opacity : Int) : Span :=
  (s49_at1 t opacity (0:Int) (1:Int))
def p49_at0 (t : (Sl RangeRow)) (opacity : Int) : Bool :=
  (p49_at1 t opacity (0:Int) (1:Int))
theorem q49_at0 (K : List PA → Prop) (t : (Sl RangeRow)) (opacity : Int) (hs : p49_at0 t opacity = true) (hk : K (e49 (s49_at0 t opacity))) : f49_at0 K t opacity := by
  refine ofEq (f49_eq0 K t opacity) ?_
  unfold p49_at0 at hs
  unfold s49_at0 at hk
  exact (q49_at1 K t opacity (0:Int) (1:Int) hs hk)
def s49 (t : (Sl RangeRow)) (opacity : Int) : Span :=
  (cond (opacity == (0:Int))
   (⟨(1:Int), (1:Int)⟩ : Span)
   (s49_at0 t opacity))
def p49 (t : (Sl RangeRow)) (opacity : Int) : Bool :=
  (cond (opacity == (0:Int))
   true
   (p49_at0 t opacity))
theorem q49 (t : (Sl RangeRow)) (opacity : Int) (K : List PA → Prop) (hs : p49 t opacity = true) (hk : K (e49 (s49 t opacity))) : vcFun Try.prog G49 ann49 49 [.one (.sl t.len 3 (fun i => enc_42 (t.get i))), .one (.int .i64 opacity)] K := by
  refine ofEq (f49_top t opacity K) ?_
  unfold p49 at hs
  unfold s49 at hk
  exact (condB_go (K := fun r => K (e49 r))
   (fun hs hk => hk)
   (fun hs hk => (q49_at0 K t opacity hs hk)) hs hk)
def ctr49 : List PA → COut
  | [.one (.sl a0_n a0_s a0_g), .one (.int .i64 a1)] => .det (IsE enc_42 3 a0_s a0_g ∧ p49 (⟨a0_n, decF_42 a0_g⟩ : (Sl RangeRow)) a1 = true) [.agg [.int .i64 ((s49 (⟨a0_n, decF_42 a0_g⟩ : (Sl RangeRow)) a1).Low), .int .i64 ((s49 (⟨a0_n, decF_42 a0_g⟩ : (Sl RangeRow)) a1).High)]]
  | _ => .no
theorem call49 : Callable Try.prog 49 := ⟨_, rfl, rfl, by kernel_rfl⟩
theorem ok49 : Ok Try.prog 49 ctr49 := ok_tab okT49 call49 fun args K h => by
  unfold ctr49 at h
  split at h
  · rename_i a0_n a0_s a0_g a1
    obtain ⟨⟨⟨rfl, a0_f, rfl⟩, hs⟩, hk⟩ := h
    try rw [decF_enc_42 a0_f] at hs
    try rw [decF_enc_42 a0_f] at hk
    exact ⟨(fun _ _ => []), (fun _ => false), ann49, q49 (⟨a0_n, a0_f⟩ : (Sl RangeRow)) a1 K hs hk⟩
  · exact h.elim
-- 47 overburdenref05.Expected
abbrev T47 : Tabs := ((Tabs.nil.addF 46 ctr46).addF 49 ctr49)
theorem okT47 : TabsOk Try.prog T47 := ((TabsOk.nil.addF ok46).addF ok49)
abbrev G47 : Ctrs := csm T47 (fun _ _ => []) (fun _ => false)
def ann47 : Ann := ⟨18, [(0, ⟨[1, 2, 3, 4, 8], [4, 8], [], [], []⟩), (1, ⟨[8], [8], [], [], []⟩)],
  [],
  [],
  [], []⟩
theorem f47_top (s : Sky) (t : (Sl RangeRow)) (bin : Int) (opacity : Int) (K : List PA → Prop) :
  vcFun Try.prog G47 ann47 47 [.agg [.int .i64 s.Parts, .sl s.Bins.len 1 (fun i => enc_32 (s.Bins.get i)), .int .i64 s.Beta.Low, .int .i64 s.Beta.High, .int .i64 s.Alpha.Low, .int .i64 s.Alpha.High], .one (.sl t.len 3 (fun i => enc_42 (t.get i))), .one (.int .i64 bin), .one (.int .i64 opacity)] K =
  (((0 ≤ bin ∧ bin < (s.Bins.len : Int))) ∧
  ((IsE enc_42 3 3 (fun i => enc_42 (t.get i)) ∧ (p49 t opacity = true)) ∧
  ((IsE enc_44 3 3 (fun i => enc_44 ((s.Bins.get bin.toNat).get i)) ∧ (p46 (s.Bins.get bin.toNat) (s49 t opacity) = true)) ∧
  (K [.agg [.int .i64 ((s46 (s.Bins.get bin.toNat) (s49 t opacity)).Low), .int .i64 ((s46 (s.Bins.get bin.toNat) (s49 t opacity)).High)]])))) := by kernel_rfl
abbrev R47 := Span
abbrev e47 (r : Span) : List PA := [.agg [.int .i64 r.Low, .int .i64 r.High]]
def s47 (s : Sky) (t : (Sl RangeRow)) (bin : Int) (opacity : Int) : Span :=
  (s46 (s.Bins.get bin.toNat) (s49 t opacity))
def p47 (s : Sky) (t : (Sl RangeRow)) (bin : Int) (opacity : Int) : Bool :=
  (decide ((0 ≤ bin ∧ bin < (s.Bins.len : Int))) &&
  (decide ((p49 t opacity = true)) &&
  (decide ((p46 (s.Bins.get bin.toNat) (s49 t opacity) = true)) &&
  true)))
theorem q47 (s : Sky) (t : (Sl RangeRow)) (bin : Int) (opacity : Int) (K : List PA → Prop) (hs : p47 s t bin opacity = true) (hk : K (e47 (s47 s t bin opacity))) : vcFun Try.prog G47 ann47 47 [.agg [.int .i64 s.Parts, .sl s.Bins.len 1 (fun i => enc_32 (s.Bins.get i)), .int .i64 s.Beta.Low, .int .i64 s.Beta.High, .int .i64 s.Alpha.Low, .int .i64 s.Alpha.High], .one (.sl t.len 3 (fun i => enc_42 (t.get i))), .one (.int .i64 bin), .one (.int .i64 opacity)] K := by
  refine ofEq (f47_top s t bin opacity K) ?_
  unfold p47 at hs
  unfold s47 at hk
  exact (andK hs fun hc hs => ⟨hc, (andK hs fun hc hs => ⟨⟨isE, hc⟩, (andK hs fun hc hs => ⟨⟨isE, hc⟩, hk⟩)⟩)⟩)
def ctr47 : List PA → COut
  | [.agg [.int .i64 a0_Parts, .sl a0_Bins_n a0_Bins_s a0_Bins_g, .int .i64 a0_Beta_Low, .int .i64 a0_Beta_High, .int .i64 a0_Alpha_Low, .int .i64 a0_Alpha_High], .one (.sl a1_n a1_s a1_g), .one (.int .i64 a2), .one (.int .i64 a3)] => .det (IsE enc_32 1 a0_Bins_s a0_Bins_g ∧ IsE enc_42 3 a1_s a1_g ∧ p47 (⟨a0_Parts, (⟨a0_Bins_n, decF_32 a0_Bins_g⟩ : (Sl (Sl FluxRow))), (⟨a0_Beta_Low, a0_Beta_High⟩ : Span), (⟨a0_Alpha_Low, a0_Alpha_High⟩ : Span)⟩ : Sky) (⟨a1_n, decF_42 a1_g⟩ : (Sl RangeRow)) a2 a3 = true) [.agg [.int .i64 ((s47 (⟨a0_Parts, (⟨a0_Bins_n, decF_32 a0_Bins_g⟩ : (Sl (Sl FluxRow))), (⟨a0_Beta_Low, a0_Beta_High⟩ : Span), (⟨a0_Alpha_Low, a0_Alpha_High⟩ : Span)⟩ : Sky) (⟨a1_n, decF_42 a1_g⟩ : (Sl RangeRow)) a2 a3).Low), .int .i64 ((s47 (⟨a0_Parts, (⟨a0_Bins_n, decF_32 a0_Bins_g⟩ : (Sl (Sl FluxRow))), (⟨a0_Beta_Low, a0_Beta_High⟩ : Span), (⟨a0_Alpha_Low, a0_Alpha_High⟩ : Span)⟩ : Sky) (⟨a1_n, decF_42 a1_g⟩ : (Sl RangeRow)) a2 a3).High)]]
  | _ => .no
theorem call47 : Callable Try.prog 47 := ⟨_, rfl, rfl, by kernel_rfl⟩
theorem ok47 : Ok Try.prog 47 ctr47 := ok_tab okT47 call47 fun args K h => by
  unfold ctr47 at h
  split at h
  · rename_i a0_Parts a0_Bins_n a0_Bins_s a0_Bins_g a0_Beta_Low a0_Beta_High a0_Alpha_Low a0_Alpha_High a1_n a1_s a1_g a2 a3
    obtain ⟨⟨⟨rfl, a0_Bins_f, rfl⟩, ⟨rfl, a1_f, rfl⟩, hs⟩, hk⟩ := h
    try rw [decF_enc_32 a0_Bins_f] at hs
    try rw [decF_enc_32 a0_Bins_f] at hk
    try rw [decF_enc_42 a1_f] at hs
    try rw [decF_enc_42 a1_f] at hk
    exact ⟨(fun _ _ => []), (fun _ => false), ann47, q47 (⟨a0_Parts, (⟨a0_Bins_n, a0_Bins_f⟩ : (Sl (Sl FluxRow))), (⟨a0_Beta_Low, a0_Beta_High⟩ : Span), (⟨a0_Alpha_Low, a0_Alpha_High⟩ : Span)⟩ : Sky) (⟨a1_n, a1_f⟩ : (Sl RangeRow)) a2 a3 K hs hk⟩
  · exact h.elim
-- 78 overburdenref05.products
abbrev T78 : Tabs := Tabs.nil
theorem okT78 : TabsOk Try.prog T78 := TabsOk.nil
abbrev G78 : Ctrs := csm T78 (fun _ _ => []) (fun _ => false)
def ann78 : Ann := ⟨55, [(0, ⟨[2, 3], [2, 3], [], [], []⟩), (1, ⟨[6], [30], [], [], []⟩), (2, ⟨[6, 7, 8], [30], [], [], []⟩), (3, ⟨[6, 7, 8, 9], [30], [], [], []⟩), (4, ⟨[6, 7, 8, 9, 38], [30], [], [], []⟩), (5, ⟨[6, 7, 8, 9], [30], [], [], []⟩), (6, ⟨[6, 7, 8, 9], [30], [], [], []⟩), (7, ⟨[4, 5], [], [], [], []⟩)],
  [(4, ⟨[6, 7, 8, 9], [30], [], [], []⟩)],
  [],
  [], []⟩
def f78_g0 (lowv0 : Int) (highv0 : Int) (iv0 : Int) (v30v0_n : Nat) (v30v0_g : Nat → List PV) : St := ⟨[(6, .one (.c (.vec 30))), (7, .one (.c (.p (.int .i64 lowv0)))), (8, .one (.c (.p (.int .i64 highv0)))), (9, .one (.c (.p (.int .i64 iv0))))], [(30, .vec 3 1 8 v30v0_n v30v0_g)], []⟩
def f78_at0 (K : List PA → Prop) (lowv0 : Int) (highv0 : Int) (iv0 : Int) (v30v0_n : Nat) (v30v0_g : Nat → List PV) : Prop := vc Try.prog G78 ann78 (cdF Try.f78 [1, 1, 1, 0, 1, 0]) (blockK 0 (sqK Try.prog G78 ann78 (cdF Try.f78 [1, 1, 1, 1]) (bodyK Try.prog Try.f78 K))) (f78_g0 lowv0 highv0 iv0 v30v0_n v30v0_g)
theorem f78_top (a : Span) (b : Span) (K : List PA → Prop) :
  vcFun Try.prog G78 ann78 78 [.agg [.int .i64 a.Low, .int .i64 a.High], .agg [.int .i64 b.Low, .int .i64 b.High]] K =
  (((0 ≤ (0:Int) ∧ (0:Int) < (4 : Int))) ∧
  (((0 < 4)) ∧
  (((0 ≤ (0:Int) ∧ (0:Int) < (4 : Int))) ∧
  (((0 < 4)) ∧
  (f78_at0 K (w64 (a.Low * b.Low)) (w64 (a.Low * b.Low)) (1:Int) 4 (getL [(enc_3 (w64 (a.Low * b.Low))), (enc_3 (w64 (a.Low * b.High))), (enc_3 (w64 (a.High * b.Low))), (enc_3 (w64 (a.High * b.High)))])))))) := by kernel_rfl
def f78_step0 (K : List PA → Prop) (X0 : St → Prop) (lowv0 : Int) (highv0 : Int) (iv0 : Int) (v30v0 : (Sl Int)) : Prop :=
  (condP (decide (iv0 < (4:Int)))
   (((0 ≤ iv0 ∧ iv0 < (v30v0.len : Int))) ∧
   (((iv0.toNat < v30v0.len)) ∧
   (((0 ≤ iv0 ∧ iv0 < (v30v0.len : Int))) ∧
   (((iv0.toNat < v30v0.len)) ∧
   (X0 (f78_g0 (if (v30v0.get iv0.toNat) < lowv0 then (v30v0.get iv0.toNat) else lowv0) (if (v30v0.get iv0.toNat) > highv0 then (v30v0.get iv0.toNat) else highv0) (w64 (iv0 + (1:Int))) v30v0.len (fun i => enc_3 (v30v0.get i))))))))
   (K [.one (.int .i64 lowv0), .one (.int .i64 highv0)]))
theorem f78_stepeq0 (K : List PA → Prop) (X0 : St → Prop) (lowv0 : Int) (highv0 : Int) (iv0 : Int) (v30v0 : (Sl Int)) :
  vc Try.prog G78 ann78 (cd (cdF Try.f78 [1, 1, 1, 0, 1, 0]) [0]) (loopK Try.prog ann78 4 X0 (blockK 0 (sqK Try.prog G78 ann78 (cdF Try.f78 [1, 1, 1, 1]) (bodyK Try.prog Try.f78 K)))) (f78_g0 lowv0 highv0 iv0 v30v0.len (fun i => enc_3 (v30v0.get i))) =
  f78_step0 K X0 lowv0 highv0 iv0 v30v0 := by kernel_rfl
theorem f78_loop0 (K : List PA → Prop) (lowv0 : Int) (highv0 : Int) (iv0 : Int) (v30v0_n : Nat) (v30v0_g : Nat → List PV)
  (h : ∀ X0 : St → Prop, (∀ (lowv0 : Int) (highv0 : Int) (iv0 : Int) (v30v0 : (Sl Int)), f78_step0 K X0 lowv0 highv0 iv0 v30v0 → X0 (f78_g0 lowv0 highv0 iv0 v30v0.len (fun i => enc_3 (v30v0.get i)))) → X0 (f78_g0 lowv0 highv0 iv0 v30v0_n v30v0_g)) :
  f78_at0 K lowv0 highv0 iv0 v30v0_n v30v0_g := by
  have e : f78_at0 K lowv0 highv0 iv0 v30v0_n v30v0_g = (∀ X : St → Prop, (∀ s, vc Try.prog G78 ann78 (cd (cdF Try.f78 [1, 1, 1, 0, 1, 0]) [0]) (loopK Try.prog ann78 4 X (blockK 0 (sqK Try.prog G78 ann78 (cdF Try.f78 [1, 1, 1, 1]) (bodyK Try.prog Try.f78 K)))) s → X s) → X (f78_g0 lowv0 highv0 iv0 v30v0_n v30v0_g)) := by kernel_rfl
  refine ofEq e ?_
  intro X hX
  refine h X ?_
  intro lowv0 highv0 iv0 v30v0 hs
  refine hX _ ?_
  have e2 := f78_stepeq0 K X lowv0 highv0 iv0 v30v0
  rw [e2]
  exact hs
abbrev R78 := (Int × Int)
abbrev e78 (r : (Int × Int)) : List PA := [.one (.int .i64 r.1), .one (.int .i64 r.2)]
attribute [irreducible] f78_at0
def s78_st0 (S0 : Int → Int → Int → (Sl Int) → (Int × Int)) (lowv0 : Int) (highv0 : Int) (iv0 : Int) (v30v0 : (Sl Int)) : (Int × Int) :=
  (cond (decide (iv0 < (4:Int)))
   (S0 (if (v30v0.get iv0.toNat) < lowv0 then (v30v0.get iv0.toNat) else lowv0) (if (v30v0.get iv0.toNat) > highv0 then (v30v0.get iv0.toNat) else highv0) (w64 (iv0 + (1:Int))) v30v0)
   (lowv0, highv0))
def p78_st0 (P0 : Int → Int → Int → (Sl Int) → Bool) (lowv0 : Int) (highv0 : Int) (iv0 : Int) (v30v0 : (Sl Int)) : Bool :=
  (cond (decide (iv0 < (4:Int)))
   (decide ((0 ≤ iv0 ∧ iv0 < (v30v0.len : Int))) &&
   (decide ((iv0.toNat < v30v0.len)) &&
   (decide ((0 ≤ iv0 ∧ iv0 < (v30v0.len : Int))) &&
   (decide ((iv0.toNat < v30v0.len)) &&
   (P0 (if (v30v0.get iv0.toNat) < lowv0 then (v30v0.get iv0.toNat) else lowv0) (if (v30v0.get iv0.toNat) > highv0 then (v30v0.get iv0.toNat) else highv0) (w64 (iv0 + (1:Int))) v30v0)))))
   true)
def s78_lp0 : Nat → Int → Int → Int → (Sl Int) → (Int × Int)
  | 0 => fun _ _ _ _ => default
  | k + 1 => s78_st0 (s78_lp0 k)
def p78_lp0 : Nat → Int → Int → Int → (Sl Int) → Bool
  | 0 => fun _ _ _ _ => false
  | k + 1 => p78_st0 (p78_lp0 k)
def s78_at0 (lowv0 : Int) (highv0 : Int) (iv0 : Int) (v30v0 : (Sl Int)) : (Int × Int) := s78_lp0 Fuel lowv0 highv0 iv0 v30v0
def p78_at0 (lowv0 : Int) (highv0 : Int) (iv0 : Int) (v30v0 : (Sl Int)) : Bool := p78_lp0 Fuel lowv0 highv0 iv0 v30v0
theorem q78_at0 (K : List PA → Prop) (lowv0 : Int) (highv0 : Int) (iv0 : Int) (v30v0 : (Sl Int)) (v30v0_g : Nat → List PV) (v30v0_h : v30v0_g = fun i => enc_3 (v30v0.get i)) (hs : p78_at0 lowv0 highv0 iv0 v30v0 = true) (hk : K (e78 (s78_at0 lowv0 highv0 iv0 v30v0))) : f78_at0 K lowv0 highv0 iv0 v30v0.len v30v0_g := by
  refine f78_loop0 K lowv0 highv0 iv0 v30v0.len v30v0_g ?_
  intro X0 hstep
  have key : ∀ (k : Nat) (lowv0 : Int) (highv0 : Int) (iv0 : Int) (v30v0 : (Sl Int)) (v30v0_g : Nat → List PV) (v30v0_h : v30v0_g = fun i => enc_3 (v30v0.get i)), p78_lp0 k lowv0 highv0 iv0 v30v0 = true → K (e78 (s78_lp0 k lowv0 highv0 iv0 v30v0)) → X0 (f78_g0 lowv0 highv0 iv0 v30v0.len v30v0_g) := by
    intro k
    induction k with
    | zero => intro lowv0 highv0 iv0 v30v0 v30v0_g v30v0_h hs; exact absurd hs Bool.false_ne_true
    | succ k ih =>
      intro lowv0 highv0 iv0 v30v0 v30v0_g v30v0_h hs hk
      subst v30v0_h
      refine hstep lowv0 highv0 iv0 v30v0 ?_
      have hs : p78_st0 (p78_lp0 k) lowv0 highv0 iv0 v30v0 = true := hs
      have hk : K (e78 (s78_st0 (s78_lp0 k) lowv0 highv0 iv0 v30v0)) := hk
      unfold p78_st0 at hs
      unfold s78_st0 at hk
      generalize s78_lp0 k = S0 at hk ih
      generalize p78_lp0 k = P0 at hs ih
      have hX0 := ih
      exact (condB_go (K := fun r => K (e78 r))
       (fun hs hk => (andK hs fun hc hs => ⟨hc, (andK hs fun hc hs => ⟨hc, (andK hs fun hc hs => ⟨hc, (andK hs fun hc hs => ⟨hc, (hX0 (if (v30v0.get iv0.toNat) < lowv0 then (v30v0.get iv0.toNat) else lowv0) (if (v30v0.get iv0.toNat) > highv0 then (v30v0.get iv0.toNat) else highv0) (w64 (iv0 + (1:Int))) v30v0 (fun i => enc_3 (v30v0.get i)) rfl hs hk)⟩)⟩)⟩)⟩))
       (fun hs hk => hk) hs hk)
  exact key _ lowv0 highv0 iv0 v30v0 v30v0_g v30v0_h hs hk
def s78 (a : Span) (b : Span) : (Int × Int) :=
  (s78_at0 (w64 (a.Low * b.Low)) (w64 (a.Low * b.Low)) (1:Int) (⟨4, (getT (w64 (a.Low * b.Low)) [(w64 (a.Low * b.Low)), (w64 (a.Low * b.High)), (w64 (a.High * b.Low)), (w64 (a.High * b.High))])⟩ : Sl Int))
def p78 (a : Span) (b : Span) : Bool :=
  (decide ((0 ≤ (0:Int) ∧ (0:Int) < (4 : Int))) &&
  (decide ((0 < 4)) &&
  (decide ((0 ≤ (0:Int) ∧ (0:Int) < (4 : Int))) &&
  (decide ((0 < 4)) &&
  (p78_at0 (w64 (a.Low * b.Low)) (w64 (a.Low * b.Low)) (1:Int) (⟨4, (getT (w64 (a.Low * b.Low)) [(w64 (a.Low * b.Low)), (w64 (a.Low * b.High)), (w64 (a.High * b.Low)), (w64 (a.High * b.High))])⟩ : Sl Int))))))
theorem q78 (a : Span) (b : Span) (K : List PA → Prop) (hs : p78 a b = true) (hk : K (e78 (s78 a b))) : vcFun Try.prog G78 ann78 78 [.agg [.int .i64 a.Low, .int .i64 a.High], .agg [.int .i64 b.Low, .int .i64 b.High]] K := by
  refine ofEq (f78_top a b K) ?_
  unfold p78 at hs
  unfold s78 at hk
  exact (andK hs fun hc hs => ⟨hc, (andK hs fun hc hs => ⟨hc, (andK hs fun hc hs => ⟨hc, (andK hs fun hc hs => ⟨hc, (q78_at0 K (w64 (a.Low * b.Low)) (w64 (a.Low * b.Low)) (1:Int) (⟨4, (getT (w64 (a.Low * b.Low)) [(w64 (a.Low * b.Low)), (w64 (a.Low * b.High)), (w64 (a.High * b.Low)), (w64 (a.High * b.High))])⟩ : Sl Int) (getL [(enc_3 (w64 (a.Low * b.Low))), (enc_3 (w64 (a.Low * b.High))), (enc_3 (w64 (a.High * b.Low))), (enc_3 (w64 (a.High * b.High)))]) (getL_enc (enc := enc_3) (x := (w64 (a.Low * b.Low))) (y := (w64 (a.Low * b.High))) (r := [(w64 (a.High * b.Low)), (w64 (a.High * b.High))])) hs hk)⟩)⟩)⟩)⟩)
def ctr78 : List PA → COut
  | [.agg [.int .i64 a0_Low, .int .i64 a0_High], .agg [.int .i64 a1_Low, .int .i64 a1_High]] => .det (p78 (⟨a0_Low, a0_High⟩ : Span) (⟨a1_Low, a1_High⟩ : Span) = true) [.one (.int .i64 ((s78 (⟨a0_Low, a0_High⟩ : Span) (⟨a1_Low, a1_High⟩ : Span)).1)), .one (.int .i64 ((s78 (⟨a0_Low, a0_High⟩ : Span) (⟨a1_Low, a1_High⟩ : Span)).2))]
  | _ => .no
theorem call78 : Callable Try.prog 78 := ⟨_, rfl, rfl, by kernel_rfl⟩
theorem ok78 : Ok Try.prog 78 ctr78 := ok_tab okT78 call78 fun args K h => by
  unfold ctr78 at h
  split at h
  · rename_i a0_Low a0_High a1_Low a1_High
    obtain ⟨hs, hk⟩ := h
    exact ⟨(fun _ _ => []), (fun _ => false), ann78, q78 (⟨a0_Low, a0_High⟩ : Span) (⟨a1_Low, a1_High⟩ : Span) K hs hk⟩
  · exact h.elim
-- 37 overburdenref05.Factors
abbrev T37 : Tabs := (Tabs.nil.addF 78 ctr78)
theorem okT37 : TabsOk Try.prog T37 := (TabsOk.nil.addF ok78)
abbrev G37 : Ctrs := csm T37 (fun _ _ => []) (fun _ => false)
def ann37 : Ann := ⟨36, [(0, ⟨[2, 3, 4], [2, 3, 4], [], [], []⟩), (1, ⟨[2, 3, 4, 5, 6], [2, 3, 4], [], [], []⟩), (2, ⟨[4, 5, 6, 7, 8], [4], [], [], []⟩), (3, ⟨[4], [4], [], [], []⟩)],
  [],
  [],
  [], []⟩
theorem f37_top (s : Sky) (w : Weather) (K : List PA → Prop) :
  vcFun Try.prog G37 ann37 37 [.agg [.int .i64 s.Parts, .sl s.Bins.len 1 (fun i => enc_32 (s.Bins.get i)), .int .i64 s.Beta.Low, .int .i64 s.Beta.High, .int .i64 s.Alpha.Low, .int .i64 s.Alpha.High], .agg [.int .i64 w.Pressure.Low, .int .i64 w.Pressure.High, .int .i64 w.Warm.Low, .int .i64 w.Warm.High]] K =
  (((p78 s.Beta w.Pressure = true)) ∧
  (((p78 s.Alpha w.Warm = true)) ∧
  (K [.agg [.int .i64 (if (w64 ((w64 ((1000:Int) - ((s78 s.Beta w.Pressure).2))) + ((s78 s.Alpha w.Warm).1))) > (0:Int) then (w64 ((w64 ((1000:Int) - ((s78 s.Beta w.Pressure).2))) + ((s78 s.Alpha w.Warm).1))) else (0:Int)), .int .i64 (if (w64 ((w64 ((1000:Int) - ((s78 s.Beta w.Pressure).1))) + ((s78 s.Alpha w.Warm).2))) > (0:Int) then (w64 ((w64 ((1000:Int) - ((s78 s.Beta w.Pressure).1))) + ((s78 s.Alpha w.Warm).2))) else (0:Int))]]))) := by kernel_rfl
abbrev R37 := Span
abbrev e37 (r : Span) : List PA := [.agg [.int .i64 r.Low, .int .i64 r.High]]
def s37 (s : Sky) (w : Weather) : Span :=
  (⟨(if (w64 ((w64 ((1000:Int) - ((s78 s.Beta w.Pressure).2))) + ((s78 s.Alpha w.Warm).1))) > (0:Int) then (w64 ((w64 ((1000:Int) - ((s78 s.Beta w.Pressure).2))) + ((s78 s.Alpha w.Warm).1))) else (0:Int)), (if (w64 ((w64 ((1000:Int) - ((s78 s.Beta w.Pressure).1))) + ((s78 s.Alpha w.Warm).2))) > (0:Int) then (w64 ((w64 ((1000:Int) - ((s78 s.Beta w.Pressure).1))) + ((s78 s.Alpha w.Warm).2))) else (0:Int))⟩ : Span)
def p37 (s : Sky) (w : Weather) : Bool :=
  (decide ((p78 s.Beta w.Pressure = true)) &&
  (decide ((p78 s.Alpha w.Warm = true)) &&
  true))
theorem q37 (s : Sky) (w : Weather) (K : List PA → Prop) (hs : p37 s w = true) (hk : K (e37 (s37 s w))) : vcFun Try.prog G37 ann37 37 [.agg [.int .i64 s.Parts, .sl s.Bins.len 1 (fun i => enc_32 (s.Bins.get i)), .int .i64 s.Beta.Low, .int .i64 s.Beta.High, .int .i64 s.Alpha.Low, .int .i64 s.Alpha.High], .agg [.int .i64 w.Pressure.Low, .int .i64 w.Pressure.High, .int .i64 w.Warm.Low, .int .i64 w.Warm.High]] K := by
  refine ofEq (f37_top s w K) ?_
  unfold p37 at hs
  unfold s37 at hk
  exact (andK hs fun hc hs => ⟨hc, (andK hs fun hc hs => ⟨hc, hk⟩)⟩)
def ctr37 : List PA → COut
  | [.agg [.int .i64 a0_Parts, .sl a0_Bins_n a0_Bins_s a0_Bins_g, .int .i64 a0_Beta_Low, .int .i64 a0_Beta_High, .int .i64 a0_Alpha_Low, .int .i64 a0_Alpha_High], .agg [.int .i64 a1_Pressure_Low, .int .i64 a1_Pressure_High, .int .i64 a1_Warm_Low, .int .i64 a1_Warm_High]] => .det (IsE enc_32 1 a0_Bins_s a0_Bins_g ∧ p37 (⟨a0_Parts, (⟨a0_Bins_n, decF_32 a0_Bins_g⟩ : (Sl (Sl FluxRow))), (⟨a0_Beta_Low, a0_Beta_High⟩ : Span), (⟨a0_Alpha_Low, a0_Alpha_High⟩ : Span)⟩ : Sky) (⟨(⟨a1_Pressure_Low, a1_Pressure_High⟩ : Span), (⟨a1_Warm_Low, a1_Warm_High⟩ : Span)⟩ : Weather) = true) [.agg [.int .i64 ((s37 (⟨a0_Parts, (⟨a0_Bins_n, decF_32 a0_Bins_g⟩ : (Sl (Sl FluxRow))), (⟨a0_Beta_Low, a0_Beta_High⟩ : Span), (⟨a0_Alpha_Low, a0_Alpha_High⟩ : Span)⟩ : Sky) (⟨(⟨a1_Pressure_Low, a1_Pressure_High⟩ : Span), (⟨a1_Warm_Low, a1_Warm_High⟩ : Span)⟩ : Weather)).Low), .int .i64 ((s37 (⟨a0_Parts, (⟨a0_Bins_n, decF_32 a0_Bins_g⟩ : (Sl (Sl FluxRow))), (⟨a0_Beta_Low, a0_Beta_High⟩ : Span), (⟨a0_Alpha_Low, a0_Alpha_High⟩ : Span)⟩ : Sky) (⟨(⟨a1_Pressure_Low, a1_Pressure_High⟩ : Span), (⟨a1_Warm_Low, a1_Warm_High⟩ : Span)⟩ : Weather)).High)]]
  | _ => .no
theorem call37 : Callable Try.prog 37 := ⟨_, rfl, rfl, by kernel_rfl⟩
theorem ok37 : Ok Try.prog 37 ctr37 := ok_tab okT37 call37 fun args K h => by
  unfold ctr37 at h
  split at h
  · rename_i a0_Parts a0_Bins_n a0_Bins_s a0_Bins_g a0_Beta_Low a0_Beta_High a0_Alpha_Low a0_Alpha_High a1_Pressure_Low a1_Pressure_High a1_Warm_Low a1_Warm_High
    obtain ⟨⟨⟨rfl, a0_Bins_f, rfl⟩, hs⟩, hk⟩ := h
    try rw [decF_enc_32 a0_Bins_f] at hs
    try rw [decF_enc_32 a0_Bins_f] at hk
    exact ⟨(fun _ _ => []), (fun _ => false), ann37, q37 (⟨a0_Parts, (⟨a0_Bins_n, a0_Bins_f⟩ : (Sl (Sl FluxRow))), (⟨a0_Beta_Low, a0_Beta_High⟩ : Span), (⟨a0_Alpha_Low, a0_Alpha_High⟩ : Span)⟩ : Sky) (⟨(⟨a1_Pressure_Low, a1_Pressure_High⟩ : Span), (⟨a1_Warm_Low, a1_Warm_High⟩ : Span)⟩ : Weather) K hs hk⟩
  · exact h.elim
end Go.Proofs
namespace Go.Proofs
open Go Go.Pm
set_option maxRecDepth 100000
set_option linter.unusedVariables false
attribute [local irreducible] Go.Pm.vcFun Go.Pm.vc Go.Pm.vcIter
-- 79 overburdenref05.corrected
abbrev T79 : Tabs := (Tabs.nil.addF 37 ctr37)
theorem okT79 : TabsOk Try.prog T79 := (TabsOk.nil.addF ok37)
abbrev G79 : Ctrs := csm T79 (fun _ _ => []) (fun _ => false)
def ann79 : Ann := ⟨31, [(0, ⟨[3, 4, 5, 6], [3, 4, 5, 6], [], [], []⟩), (1, ⟨[3, 4, 6, 7], [3, 4, 6, 7], [], [], []⟩), (2, ⟨[6], [6], [], [], []⟩)],
  [],
  [],
  [], []⟩
theorem f79_top (s : Sky) (x : Span) (w : Weather) (K : List PA → Prop) :
  vcFun Try.prog G79 ann79 79 [.agg [.int .i64 s.Parts, .sl s.Bins.len 1 (fun i => enc_32 (s.Bins.get i)), .int .i64 s.Beta.Low, .int .i64 s.Beta.High, .int .i64 s.Alpha.Low, .int .i64 s.Alpha.High], .agg [.int .i64 x.Low, .int .i64 x.High], .agg [.int .i64 w.Pressure.Low, .int .i64 w.Pressure.High, .int .i64 w.Warm.Low, .int .i64 w.Warm.High]] K =
  ((IsE enc_32 1 1 (fun i => enc_32 (s.Bins.get i)) ∧ (p37 s w = true)) ∧
  ((((1000:Int) ≠ 0)) ∧
  ((((1000:Int) ≠ 0)) ∧
  (K [.agg [.int .i64 (if (w64 ((w64 (x.Low * (s37 s w).Low)).tdiv (1000:Int))) < s.Parts then (w64 ((w64 (x.Low * (s37 s w).Low)).tdiv (1000:Int))) else s.Parts), .int .i64 (if (w64 ((w64 ((w64 (x.High * (s37 s w).High)) + (999:Int))).tdiv (1000:Int))) < s.Parts then (w64 ((w64 ((w64 (x.High * (s37 s w).High)) + (999:Int))).tdiv (1000:Int))) else s.Parts)]])))) := by kernel_rfl
abbrev R79 := Span
abbrev e79 (r : Span) : List PA := [.agg [.int .i64 r.Low, .int .i64 r.High]]
def s79 (s : Sky) (x : Span) (w : Weather) : Span :=
  (⟨(if (w64 ((w64 (x.Low * (s37 s w).Low)).tdiv (1000:Int))) < s.Parts then (w64 ((w64 (x.Low * (s37 s w).Low)).tdiv (1000:Int))) else s.Parts), (if (w64 ((w64 ((w64 (x.High * (s37 s w).High)) + (999:Int))).tdiv (1000:Int))) < s.Parts then (w64 ((w64 ((w64 (x.High * (s37 s w).High)) + (999:Int))).tdiv (1000:Int))) else s.Parts)⟩ : Span)
def p79 (s : Sky) (x : Span) (w : Weather) : Bool :=
  (decide ((p37 s w = true)) &&
  (decide (((1000:Int) ≠ 0)) &&
  (decide (((1000:Int) ≠ 0)) &&
  true)))
theorem q79 (s : Sky) (x : Span) (w : Weather) (K : List PA → Prop) (hs : p79 s x w = true) (hk : K (e79 (s79 s x w))) : vcFun Try.prog G79 ann79 79 [.agg [.int .i64 s.Parts, .sl s.Bins.len 1 (fun i => enc_32 (s.Bins.get i)), .int .i64 s.Beta.Low, .int .i64 s.Beta.High, .int .i64 s.Alpha.Low, .int .i64 s.Alpha.High], .agg [.int .i64 x.Low, .int .i64 x.High], .agg [.int .i64 w.Pressure.Low, .int .i64 w.Pressure.High, .int .i64 w.Warm.Low, .int .i64 w.Warm.High]] K := by
  refine ofEq (f79_top s x w K) ?_
  unfold p79 at hs
  unfold s79 at hk
  exact (andK hs fun hc hs => ⟨⟨isE, hc⟩, (andK hs fun hc hs => ⟨hc, (andK hs fun hc hs => ⟨hc, hk⟩)⟩)⟩)
def ctr79 : List PA → COut
  | [.agg [.int .i64 a0_Parts, .sl a0_Bins_n a0_Bins_s a0_Bins_g, .int .i64 a0_Beta_Low, .int .i64 a0_Beta_High, .int .i64 a0_Alpha_Low, .int .i64 a0_Alpha_High], .agg [.int .i64 a1_Low, .int .i64 a1_High], .agg [.int .i64 a2_Pressure_Low, .int .i64 a2_Pressure_High, .int .i64 a2_Warm_Low, .int .i64 a2_Warm_High]] => .det (IsE enc_32 1 a0_Bins_s a0_Bins_g ∧ p79 (⟨a0_Parts, (⟨a0_Bins_n, decF_32 a0_Bins_g⟩ : (Sl (Sl FluxRow))), (⟨a0_Beta_Low, a0_Beta_High⟩ : Span), (⟨a0_Alpha_Low, a0_Alpha_High⟩ : Span)⟩ : Sky) (⟨a1_Low, a1_High⟩ : Span) (⟨(⟨a2_Pressure_Low, a2_Pressure_High⟩ : Span), (⟨a2_Warm_Low, a2_Warm_High⟩ : Span)⟩ : Weather) = true) [.agg [.int .i64 ((s79 (⟨a0_Parts, (⟨a0_Bins_n, decF_32 a0_Bins_g⟩ : (Sl (Sl FluxRow))), (⟨a0_Beta_Low, a0_Beta_High⟩ : Span), (⟨a0_Alpha_Low, a0_Alpha_High⟩ : Span)⟩ : Sky) (⟨a1_Low, a1_High⟩ : Span) (⟨(⟨a2_Pressure_Low, a2_Pressure_High⟩ : Span), (⟨a2_Warm_Low, a2_Warm_High⟩ : Span)⟩ : Weather)).Low), .int .i64 ((s79 (⟨a0_Parts, (⟨a0_Bins_n, decF_32 a0_Bins_g⟩ : (Sl (Sl FluxRow))), (⟨a0_Beta_Low, a0_Beta_High⟩ : Span), (⟨a0_Alpha_Low, a0_Alpha_High⟩ : Span)⟩ : Sky) (⟨a1_Low, a1_High⟩ : Span) (⟨(⟨a2_Pressure_Low, a2_Pressure_High⟩ : Span), (⟨a2_Warm_Low, a2_Warm_High⟩ : Span)⟩ : Weather)).High)]]
  | _ => .no
theorem call79 : Callable Try.prog 79 := ⟨_, rfl, rfl, by kernel_rfl⟩
theorem ok79 : Ok Try.prog 79 ctr79 := ok_tab okT79 call79 fun args K h => by
  unfold ctr79 at h
  split at h
  · rename_i a0_Parts a0_Bins_n a0_Bins_s a0_Bins_g a0_Beta_Low a0_Beta_High a0_Alpha_Low a0_Alpha_High a1_Low a1_High a2_Pressure_Low a2_Pressure_High a2_Warm_Low a2_Warm_High
    obtain ⟨⟨⟨rfl, a0_Bins_f, rfl⟩, hs⟩, hk⟩ := h
    try rw [decF_enc_32 a0_Bins_f] at hs
    try rw [decF_enc_32 a0_Bins_f] at hk
    exact ⟨(fun _ _ => []), (fun _ => false), ann79, q79 (⟨a0_Parts, (⟨a0_Bins_n, a0_Bins_f⟩ : (Sl (Sl FluxRow))), (⟨a0_Beta_Low, a0_Beta_High⟩ : Span), (⟨a0_Alpha_Low, a0_Alpha_High⟩ : Span)⟩ : Sky) (⟨a1_Low, a1_High⟩ : Span) (⟨(⟨a2_Pressure_Low, a2_Pressure_High⟩ : Span), (⟨a2_Warm_Low, a2_Warm_High⟩ : Span)⟩ : Weather) K hs hk⟩
  · exact h.elim
-- 38 overburdenref05.Mean
abbrev T38 : Tabs := ((Tabs.nil.addF 47 ctr47).addF 79 ctr79)
theorem okT38 : TabsOk Try.prog T38 := ((TabsOk.nil.addF ok47).addF ok79)
abbrev G38 : Ctrs := csm T38 (fun _ _ => []) (fun _ => false)
def ann38 : Ann := ⟨73, [(0, ⟨[1, 2, 3, 4, 5, 10], [5, 10], [], [], []⟩), (1, ⟨[4, 5, 10, 11], [5, 10, 11], [], [], []⟩), (2, ⟨[4, 5, 10, 11, 12, 13, 14], [5, 10, 11], [], [], []⟩), (3, ⟨[4, 5, 10, 11, 12, 13, 14, 15], [5, 10, 11], [], [], []⟩), (4, ⟨[4, 5, 10, 11, 12, 13, 14, 15, 25], [5, 10, 11], [], [], []⟩), (5, ⟨[4, 5, 10, 11, 12, 13, 14, 15], [5, 10, 11], [], [], []⟩), (6, ⟨[4, 5, 10, 11, 12, 13, 14, 15, 16], [5, 10, 11, 16], [], [], []⟩), (7, ⟨[4, 5, 10, 11, 12, 13, 14, 15], [5, 10, 11], [], [], []⟩), (8, ⟨[10], [10], [], [], []⟩)],
  [(4, ⟨[4, 5, 10, 11, 12, 13, 14, 15], [5, 10, 11], [], [], []⟩)],
  [(2, ⟨[4, 5, 10, 11], [5, 10, 11], [], [], []⟩), (7, ⟨[4, 5, 10, 11, 12, 13, 14, 15, 16], [5, 10, 11, 16], [], [], []⟩)],
  [], []⟩
def f38_g0 (s : Sky) (l_a4 : (Sl Spell)) (s_1v0_n : Nat) (s_1v0_g : Nat → List PV) (x_0v0 : Int) (x_1v0 : Int) : St := ⟨[(4, .one (.c (.p (.sl l_a4.len 5 (fun i => enc_56 (l_a4.get i)))))), (5, .one (.c (.ptr 5 0))), (10, .one (.c (.ptr 10 0))), (11, .one (.c (.ptr 11 0)))], [(5, .box 26 [.p (.int .i64 s.Parts), .p (.sl s_1v0_n 1 s_1v0_g), .p (.int .i64 s.Beta.Low), .p (.int .i64 s.Beta.High), .p (.int .i64 s.Alpha.Low), .p (.int .i64 s.Alpha.High)]), (10, .box 24 [.p (.int .i64 (0:Int)), .p (.int .i64 (0:Int))]), (11, .box 24 [.p (.int .i64 x_0v0), .p (.int .i64 x_1v0)])], []⟩
def f38_at0 (K : List PA → Prop) (s : Sky) (l_a4 : (Sl Spell)) (s_1v0_n : Nat) (s_1v0_g : Nat → List PV) (x_0v0 : Int) (x_1v0 : Int) : Prop := vc Try.prog G38 ann38 (cdF Try.f38 [1, 1]) (bodyK Try.prog Try.f38 K) (f38_g0 s l_a4 s_1v0_n s_1v0_g x_0v0 x_1v0)
def f38_g1 (s : Sky) (l_a4 : (Sl Spell)) (x_0v0 : Int) (x_1v0 : Int) (lowv1 : Int) (highv1 : Int) (slotsv1 : Int) (iv1 : Int) (s_1v1_n : Nat) (s_1v1_g : Nat → List PV) : St := ⟨[(4, .one (.c (.p (.sl l_a4.len 5 (fun i => enc_56 (l_a4.get i)))))), (5, .one (.c (.ptr 5 0))), (10, .one (.c (.ptr 10 0))), (11, .one (.c (.ptr 11 0))), (12, .one (.c (.p (.int .i64 lowv1)))), (13, .one (.c (.p (.int .i64 highv1)))), (14, .one (.c (.p (.int .i64 slotsv1)))), (15, .one (.c (.p (.int .i64 iv1))))], [(5, .box 26 [.p (.int .i64 s.Parts), .p (.sl s_1v1_n 1 s_1v1_g), .p (.int .i64 s.Beta.Low), .p (.int .i64 s.Beta.High), .p (.int .i64 s.Alpha.Low), .p (.int .i64 s.Alpha.High)]), (10, .box 24 [.p (.int .i64 (0:Int)), .p (.int .i64 (0:Int))]), (11, .box 24 [.p (.int .i64 x_0v0), .p (.int .i64 x_1v0)])], []⟩
def f38_at1 (K : List PA → Prop) (s : Sky) (l_a4 : (Sl Spell)) (x_0v0 : Int) (x_1v0 : Int) (lowv1 : Int) (highv1 : Int) (slotsv1 : Int) (iv1 : Int) (s_1v1_n : Nat) (s_1v1_g : Nat → List PV) : Prop := vc Try.prog G38 ann38 (cdF Try.f38 [1, 1, 1, 0, 1, 0]) (blockK 0 (sqK Try.prog G38 ann38 (cdF Try.f38 [1, 1, 1, 1]) (bodyK Try.prog Try.f38 K))) (f38_g1 s l_a4 x_0v0 x_1v0 lowv1 highv1 slotsv1 iv1 s_1v1_n s_1v1_g)
def f38_g2 (s : Sky) (l_a4 : (Sl Spell)) (x_0v0 : Int) (x_1v0 : Int) (lowv2 : Int) (highv2 : Int) (slotsv2 : Int) (iv2 : Int) (s_1v2_n : Nat) (s_1v2_g : Nat → List PV) (y_0v2 : Int) (y_1v2 : Int) : St := ⟨[(4, .one (.c (.p (.sl l_a4.len 5 (fun i => enc_56 (l_a4.get i)))))), (5, .one (.c (.ptr 5 0))), (10, .one (.c (.ptr 10 0))), (11, .one (.c (.ptr 11 0))), (12, .one (.c (.p (.int .i64 lowv2)))), (13, .one (.c (.p (.int .i64 highv2)))), (14, .one (.c (.p (.int .i64 slotsv2)))), (15, .one (.c (.p (.int .i64 iv2)))), (16, .one (.c (.ptr 16 0)))], [(5, .box 26 [.p (.int .i64 s.Parts), .p (.sl s_1v2_n 1 s_1v2_g), .p (.int .i64 s.Beta.Low), .p (.int .i64 s.Beta.High), .p (.int .i64 s.Alpha.Low), .p (.int .i64 s.Alpha.High)]), (10, .box 24 [.p (.int .i64 (0:Int)), .p (.int .i64 (0:Int))]), (11, .box 24 [.p (.int .i64 x_0v0), .p (.int .i64 x_1v0)]), (16, .box 24 [.p (.int .i64 y_0v2), .p (.int .i64 y_1v2)])], []⟩
def f38_at2 (K : List PA → Prop) (X1 : St → Prop) (s : Sky) (l_a4 : (Sl Spell)) (x_0v0 : Int) (x_1v0 : Int) (lowv2 : Int) (highv2 : Int) (slotsv2 : Int) (iv2 : Int) (s_1v2_n : Nat) (s_1v2_g : Nat → List PV) (y_0v2 : Int) (y_1v2 : Int) : Prop := vc Try.prog G38 ann38 (cdF Try.f38 [1, 1, 1, 0, 1, 0, 0, 1, 0, 0, 1]) (blockK 1 (sqK Try.prog G38 ann38 (cdF Try.f38 [1, 1, 1, 0, 1, 0, 0, 1, 1]) (loopK Try.prog ann38 4 X1 (blockK 0 (sqK Try.prog G38 ann38 (cdF Try.f38 [1, 1, 1, 1]) (bodyK Try.prog Try.f38 K)))))) (f38_g2 s l_a4 x_0v0 x_1v0 lowv2 highv2 slotsv2 iv2 s_1v2_n s_1v2_g y_0v2 y_1v2)
theorem f38_top (s : Sky) (t : (Sl RangeRow)) (bin : Int) (opacity : Int) (l_a4 : (Sl Spell)) (K : List PA → Prop) :
  vcFun Try.prog G38 ann38 38 [.agg [.int .i64 s.Parts, .sl s.Bins.len 1 (fun i => enc_32 (s.Bins.get i)), .int .i64 s.Beta.Low, .int .i64 s.Beta.High, .int .i64 s.Alpha.Low, .int .i64 s.Alpha.High], .one (.sl t.len 3 (fun i => enc_42 (t.get i))), .one (.int .i64 bin), .one (.int .i64 opacity), .one (.sl l_a4.len 5 (fun i => enc_56 (l_a4.get i)))] K =
  ((IsE enc_32 1 1 (fun i => enc_32 (s.Bins.get i)) ∧ IsE enc_42 3 3 (fun i => enc_42 (t.get i)) ∧ (p47 s t bin opacity = true)) ∧
  (f38_at0 K s l_a4 s.Bins.len (fun i => enc_32 (s.Bins.get i)) ((s47 s t bin opacity).Low) ((s47 s t bin opacity).High))) := by kernel_rfl
theorem f38_eq0 (K : List PA → Prop) (s : Sky) (l_a4 : (Sl Spell)) (s_1v0 : (Sl (Sl FluxRow))) (x_0v0 : Int) (x_1v0 : Int) :
  f38_at0 K s l_a4 s_1v0.len (fun i => enc_32 (s_1v0.get i)) x_0v0 x_1v0 =
  (f38_at1 K s l_a4 x_0v0 x_1v0 (0:Int) (0:Int) (0:Int) (0:Int) s_1v0.len (fun i => enc_32 (s_1v0.get i))) := by kernel_rfl
def f38_step1 (K : List PA → Prop) (X1 : St → Prop) (s : Sky) (l_a4 : (Sl Spell)) (x_0v0 : Int) (x_1v0 : Int) (lowv1 : Int) (highv1 : Int) (slotsv1 : Int) (iv1 : Int) (s_1v1 : (Sl (Sl FluxRow))) : Prop :=
  (condP (decide (iv1 < (l_a4.len : Int)))
   (((0 ≤ iv1 ∧ iv1 < (l_a4.len : Int))) ∧
   ((IsE enc_32 1 1 (fun i => enc_32 (s_1v1.get i)) ∧ (p79 (⟨s.Parts, s_1v1, s.Beta, s.Alpha⟩ : Sky) (⟨x_0v0, x_1v0⟩ : Span) ((l_a4.get iv1.toNat).Weather) = true)) ∧
   (f38_at2 K X1 s l_a4 x_0v0 x_1v0 lowv1 highv1 slotsv1 iv1 s_1v1.len (fun i => enc_32 (s_1v1.get i)) ((s79 (⟨s.Parts, s_1v1, s.Beta, s.Alpha⟩ : Sky) (⟨x_0v0, x_1v0⟩ : Span) ((l_a4.get iv1.toNat).Weather)).Low) ((s79 (⟨s.Parts, s_1v1, s.Beta, s.Alpha⟩ : Sky) (⟨x_0v0, x_1v0⟩ : Span) ((l_a4.get iv1.toNat).Weather)).High))))
   (((slotsv1 ≠ 0)) ∧
   (((slotsv1 ≠ 0)) ∧
   (K [.agg [.int .i64 (w64 (lowv1.tdiv slotsv1)), .int .i64 (w64 ((w64 ((w64 (highv1 + slotsv1)) - (1:Int))).tdiv slotsv1))]]))))
theorem f38_stepeq1 (K : List PA → Prop) (X1 : St → Prop) (s : Sky) (l_a4 : (Sl Spell)) (x_0v0 : Int) (x_1v0 : Int) (lowv1 : Int) (highv1 : Int) (slotsv1 : Int) (iv1 : Int) (s_1v1 : (Sl (Sl FluxRow))) :
  vc Try.prog G38 ann38 (cd (cdF Try.f38 [1, 1, 1, 0, 1, 0]) [0]) (loopK Try.prog ann38 4 X1 (blockK 0 (sqK Try.prog G38 ann38 (cdF Try.f38 [1, 1, 1, 1]) (bodyK Try.prog Try.f38 K)))) (f38_g1 s l_a4 x_0v0 x_1v0 lowv1 highv1 slotsv1 iv1 s_1v1.len (fun i => enc_32 (s_1v1.get i))) =
  f38_step1 K X1 s l_a4 x_0v0 x_1v0 lowv1 highv1 slotsv1 iv1 s_1v1 := by kernel_rfl
theorem f38_loop1 (K : List PA → Prop) (s : Sky) (l_a4 : (Sl Spell)) (x_0v0 : Int) (x_1v0 : Int) (lowv1 : Int) (highv1 : Int) (slotsv1 : Int) (iv1 : Int) (s_1v1_n : Nat) (s_1v1_g : Nat → List PV)
  (h : ∀ X1 : St → Prop, (∀ (lowv1 : Int) (highv1 : Int) (slotsv1 : Int) (iv1 : Int) (s_1v1 : (Sl (Sl FluxRow))), f38_step1 K X1 s l_a4 x_0v0 x_1v0 lowv1 highv1 slotsv1 iv1 s_1v1 → X1 (f38_g1 s l_a4 x_0v0 x_1v0 lowv1 highv1 slotsv1 iv1 s_1v1.len (fun i => enc_32 (s_1v1.get i)))) → X1 (f38_g1 s l_a4 x_0v0 x_1v0 lowv1 highv1 slotsv1 iv1 s_1v1_n s_1v1_g)) :
  f38_at1 K s l_a4 x_0v0 x_1v0 lowv1 highv1 slotsv1 iv1 s_1v1_n s_1v1_g := by
  have e : f38_at1 K s l_a4 x_0v0 x_1v0 lowv1 highv1 slotsv1 iv1 s_1v1_n s_1v1_g = (∀ X : St → Prop, (∀ s, vc Try.prog G38 ann38 (cd (cdF Try.f38 [1, 1, 1, 0, 1, 0]) [0]) (loopK Try.prog ann38 4 X (blockK 0 (sqK Try.prog G38 ann38 (cdF Try.f38 [1, 1, 1, 1]) (bodyK Try.prog Try.f38 K)))) s → X s) → X (f38_g1 s l_a4 x_0v0 x_1v0 lowv1 highv1 slotsv1 iv1 s_1v1_n s_1v1_g)) := by kernel_rfl
  refine ofEq e ?_
  intro X hX
  refine h X ?_
  intro lowv1 highv1 slotsv1 iv1 s_1v1 hs
  refine hX _ ?_
  have e2 := f38_stepeq1 K X s l_a4 x_0v0 x_1v0 lowv1 highv1 slotsv1 iv1 s_1v1
  rw [e2]
  exact hs
theorem f38_eq2 (K : List PA → Prop) (X1 : St → Prop) (s : Sky) (l_a4 : (Sl Spell)) (x_0v0 : Int) (x_1v0 : Int) (lowv2 : Int) (highv2 : Int) (slotsv2 : Int) (iv2 : Int) (s_1v2 : (Sl (Sl FluxRow))) (y_0v2 : Int) (y_1v2 : Int) :
  f38_at2 K X1 s l_a4 x_0v0 x_1v0 lowv2 highv2 slotsv2 iv2 s_1v2.len (fun i => enc_32 (s_1v2.get i)) y_0v2 y_1v2 =
  (((0 ≤ iv2 ∧ iv2 < (l_a4.len : Int))) ∧
  (((0 ≤ iv2 ∧ iv2 < (l_a4.len : Int))) ∧
  (((0 ≤ iv2 ∧ iv2 < (l_a4.len : Int))) ∧
  (X1 (f38_g1 s l_a4 x_0v0 x_1v0 (w64 (lowv2 + (w64 ((l_a4.get iv2.toNat).Slots * y_0v2)))) (w64 (highv2 + (w64 ((l_a4.get iv2.toNat).Slots * y_1v2)))) (w64 (slotsv2 + (l_a4.get iv2.toNat).Slots)) (w64 (iv2 + (1:Int))) s_1v2.len (fun i => enc_32 (s_1v2.get i))))))) := by kernel_rfl
abbrev R38 := Span
abbrev e38 (r : Span) : List PA := [.agg [.int .i64 r.Low, .int .i64 r.High]]
attribute [irreducible] f38_at0 f38_at1 f38_at2
def s38_at2 (S1 : Int → Int → Int → Int → (Sl (Sl FluxRow)) → Span) (s : Sky) (l_a4 : (Sl Spell)) (x_0v0 : Int) (x_1v0 : Int) (lowv2 : Int) (highv2 : Int) (slotsv2 : Int) (iv2 : Int) (s_1v2 : (Sl (Sl FluxRow))) (y_0v2 : Int) (y_1v2 : Int) : Span :=
  (S1 (w64 (lowv2 + (w64 ((l_a4.get iv2.toNat).Slots * y_0v2)))) (w64 (highv2 + (w64 ((l_a4.get iv2.toNat).Slots * y_1v2)))) (w64 (slotsv2 + (l_a4.get iv2.toNat).Slots)) (w64 (iv2 + (1:Int))) s_1v2)
def p38_at2 (P1 : Int → Int → Int → Int → (Sl (Sl FluxRow)) → Bool) (s : Sky) (l_a4 : (Sl Spell)) (x_0v0 : Int) (x_1v0 : Int) (lowv2 : Int) (highv2 : Int) (slotsv2 : Int) (iv2 : Int) (s_1v2 : (Sl (Sl FluxRow))) (y_0v2 : Int) (y_1v2 : Int) : Bool :=
  (decide ((0 ≤ iv2 ∧ iv2 < (l_a4.len : Int))) &&
  (decide ((0 ≤ iv2 ∧ iv2 < (l_a4.len : Int))) &&
  (decide ((0 ≤ iv2 ∧ iv2 < (l_a4.len : Int))) &&
  (P1 (w64 (lowv2 + (w64 ((l_a4.get iv2.toNat).Slots * y_0v2)))) (w64 (highv2 + (w64 ((l_a4.get iv2.toNat).Slots * y_1v2)))) (w64 (slotsv2 + (l_a4.get iv2.toNat).Slots)) (w64 (iv2 + (1:Int))) s_1v2))))
theorem q38_at2 (K : List PA → Prop) (s : Sky) (l_a4 : (Sl Spell)) (x_0v0 : Int) (x_1v0 : Int)
  (X1 : St → Prop) (P1 : Int → Int → Int → Int → (Sl (Sl FluxRow)) → Bool) (S1 : Int → Int → Int → Int → (Sl (Sl FluxRow)) → Span)
  (hX1 : ∀ (lowv1 : Int) (highv1 : Int) (slotsv1 : Int) (iv1 : Int) (s_1v1 : (Sl (Sl FluxRow))) (s_1v1_g : Nat → List PV) (s_1v1_h : s_1v1_g = fun i => enc_32 (s_1v1.get i)), P1 lowv1 highv1 slotsv1 iv1 s_1v1 = true → K (e38 (S1 lowv1 highv1 slotsv1 iv1 s_1v1)) → X1 (f38_g1 s l_a4 x_0v0 x_1v0 lowv1 highv1 slotsv1 iv1 s_1v1.len s_1v1_g)) (lowv2 : Int) (highv2 : Int) (slotsv2 : Int) (iv2 : Int) (s_1v2 : (Sl (Sl FluxRow))) (y_0v2 : Int) (y_1v2 : Int) (s_1v2_g : Nat → List PV) (s_1v2_h : s_1v2_g = fun i => enc_32 (s_1v2.get i)) (hs : p38_at2 P1 s l_a4 x_0v0 x_1v0 lowv2 highv2 slotsv2 iv2 s_1v2 y_0v2 y_1v2 = true) (hk : K (e38 (s38_at2 S1 s l_a4 x_0v0 x_1v0 lowv2 highv2 slotsv2 iv2 s_1v2 y_0v2 y_1v2))) : f38_at2 K X1 s l_a4 x_0v0 x_1v0 lowv2 highv2 slotsv2 iv2 s_1v2.len s_1v2_g y_0v2 y_1v2 := by
  subst s_1v2_h
  refine ofEq (f38_eq2 K X1 s l_a4 x_0v0 x_1v0 lowv2 highv2 slotsv2 iv2 s_1v2 y_0v2 y_1v2) ?_
  unfold p38_at2 at hs
  unfold s38_at2 at hk
  exact (andK hs fun hc hs => ⟨hc, (andK hs fun hc hs => ⟨hc, (andK hs fun hc hs => ⟨hc, (hX1 (w64 (lowv2 + (w64 ((l_a4.get iv2.toNat).Slots * y_0v2)))) (w64 (highv2 + (w64 ((l_a4.get iv2.toNat).Slots * y_1v2)))) (w64 (slotsv2 + (l_a4.get iv2.toNat).Slots)) (w64 (iv2 + (1:Int))) s_1v2 (fun i => enc_32 (s_1v2.get i)) rfl hs hk)⟩)⟩)⟩)
def s38_st1 (s : Sky) (l_a4 : (Sl Spell)) (x_0v0 : Int) (x_1v0 : Int) (S1 : Int → Int → Int → Int → (Sl (Sl FluxRow)) → Span) (lowv1 : Int) (highv1 : Int) (slotsv1 : Int) (iv1 : Int) (s_1v1 : (Sl (Sl FluxRow))) : Span :=
  (cond (decide (iv1 < (l_a4.len : Int)))
   (s38_at2 S1 s l_a4 x_0v0 x_1v0 lowv1 highv1 slotsv1 iv1 s_1v1 ((s79 (⟨s.Parts, s_1v1, s.Beta, s.Alpha⟩ : Sky) (⟨x_0v0, x_1v0⟩ : Span) ((l_a4.get iv1.toNat).Weather)).Low) ((s79 (⟨s.Parts, s_1v1, s.Beta, s.Alpha⟩ : Sky) (⟨x_0v0, x_1v0⟩ : Span) ((l_a4.get iv1.toNat).Weather)).High))
   (⟨(w64 (lowv1.tdiv slotsv1)), (w64 ((w64 ((w64 (highv1 + slotsv1)) - (1:Int))).tdiv slotsv1))⟩ : Span))
def p38_st1 (s : Sky) (l_a4 : (Sl Spell)) (x_0v0 : Int) (x_1v0 : Int) (P1 : Int → Int → Int → Int → (Sl (Sl FluxRow)) → Bool) (lowv1 : Int) (highv1 : Int) (slotsv1 : Int) (iv1 : Int) (s_1v1 : (Sl (Sl FluxRow))) : Bool :=
  (cond (decide (iv1 < (l_a4.len : Int)))
   (decide ((0 ≤ iv1 ∧ iv1 < (l_a4.len : Int))) &&
   (decide ((p79 (⟨s.Parts, s_1v1, s.Beta, s.Alpha⟩ : Sky) (⟨x_0v0, x_1v0⟩ : Span) ((l_a4.get iv1.toNat).Weather) = true)) &&
   (p38_at2 P1 s l_a4 x_0v0 x_1v0 lowv1 highv1 slotsv1 iv1 s_1v1 ((s79 (⟨s.Parts, s_1v1, s.Beta, s.Alpha⟩ : Sky) (⟨x_0v0, x_1v0⟩ : Span) ((l_a4.get iv1.toNat).Weather)).Low) ((s79 (⟨s.Parts, s_1v1, s.Beta, s.Alpha⟩ : Sky) (⟨x_0v0, x_1v0⟩ : Span) ((l_a4.get iv1.toNat).Weather)).High))))
   (decide ((slotsv1 ≠ 0)) &&
   (decide ((slotsv1 ≠ 0)) &&
   true)))
def s38_lp1 (s : Sky) (l_a4 : (Sl Spell)) (x_0v0 : Int) (x_1v0 : Int) : Nat → Int → Int → Int → Int → (Sl (Sl FluxRow)) → Span
  | 0 => fun _ _ _ _ _ => default
  | k + 1 => s38_st1 s l_a4 x_0v0 x_1v0 (s38_lp1 s l_a4 x_0v0 x_1v0 k)
def p38_lp1 (s : Sky) (l_a4 : (Sl Spell)) (x_0v0 : Int) (x_1v0 : Int) : Nat → Int → Int → Int → Int → (Sl (Sl FluxRow)) → Bool
  | 0 => fun _ _ _ _ _ => false
  | k + 1 => p38_st1 s l_a4 x_0v0 x_1v0 (p38_lp1 s l_a4 x_0v0 x_1v0 k)
def s38_at1 (s : Sky) (l_a4 : (Sl Spell)) (x_0v0 : Int) (x_1v0 : Int) (lowv1 : Int) (highv1 : Int) (slotsv1 : Int) (iv1 : Int) (s_1v1 : (Sl (Sl FluxRow))) : Span := s38_lp1 s l_a4 x_0v0 x_1v0 Fuel lowv1 highv1 slotsv1 iv1 s_1v1
def p38_at1 (s : Sky) (l_a4 : (Sl Spell)) (x_0v0 : Int) (x_1v0 : Int) (lowv1 : Int) (highv1 : Int) (slotsv1 : Int) (iv1 : Int) (s_1v1 : (Sl (Sl FluxRow))) : Bool := p38_lp1 s l_a4 x_0v0 x_1v0 Fuel lowv1 highv1 slotsv1 iv1 s_1v1
theorem q38_at1 (K : List PA → Prop) (s : Sky) (l_a4 : (Sl Spell)) (x_0v0 : Int) (x_1v0 : Int) (lowv1 : Int) (highv1 : Int) (slotsv1 : Int) (iv1 : Int) (s_1v1 : (Sl (Sl FluxRow))) (s_1v1_g : Nat → List PV) (s_1v1_h : s_1v1_g = fun i => enc_32 (s_1v1.get i)) (hs : p38_at1 s l_a4 x_0v0 x_1v0 lowv1 highv1 slotsv1 iv1 s_1v1 = true) (hk : K (e38 (s38_at1 s l_a4 x_0v0 x_1v0 lowv1 highv1 slotsv1 iv1 s_1v1))) : f38_at1 K s l_a4 x_0v0 x_1v0 lowv1 highv1 slotsv1 iv1 s_1v1.len s_1v1_g := by
  refine f38_loop1 K s l_a4 x_0v0 x_1v0 lowv1 highv1 slotsv1 iv1 s_1v1.len s_1v1_g ?_
  intro X1 hstep
  have key : ∀ (k : Nat) (lowv1 : Int) (highv1 : Int) (slotsv1 : Int) (iv1 : Int) (s_1v1 : (Sl (Sl FluxRow))) (s_1v1_g : Nat → List PV) (s_1v1_h : s_1v1_g = fun i => enc_32 (s_1v1.get i)), p38_lp1 s l_a4 x_0v0 x_1v0 k lowv1 highv1 slotsv1 iv1 s_1v1 = true → K (e38 (s38_lp1 s l_a4 x_0v0 x_1v0 k lowv1 highv1 slotsv1 iv1 s_1v1)) → X1 (f38_g1 s l_a4 x_0v0 x_1v0 lowv1 highv1 slotsv1 iv1 s_1v1.len s_1v1_g) := by
    intro k
    induction k with
    | zero => intro lowv1 highv1 slotsv1 iv1 s_1v1 s_1v1_g s_1v1_h hs; exact absurd hs Bool.false_ne_true
    | succ k ih =>
      intro lowv1 highv1 slotsv1 iv1 s_1v1 s_1v1_g s_1v1_h hs hk
      subst s_1v1_h
      refine hstep lowv1 highv1 slotsv1 iv1 s_1v1 ?_
      have hs : p38_st1 s l_a4 x_0v0 x_1v0 (p38_lp1 s l_a4 x_0v0 x_1v0 k) lowv1 highv1 slotsv1 iv1 s_1v1 = true := hs
      have hk : K (e38 (s38_st1 s l_a4 x_0v0 x_1v0 (s38_lp1 s l_a4 x_0v0 x_1v0 k) lowv1 highv1 slotsv1 iv1 s_1v1)) := hk
      unfold p38_st1 at hs
      unfold s38_st1 at hk
      generalize s38_lp1 s l_a4 x_0v0 x_1v0 k = S1 at hk ih
      generalize p38_lp1 s l_a4 x_0v0 x_1v0 k = P1 at hs ih
      have hX1 := ih
      exact (condB_go (K := fun r => K (e38 r))
       (fun hs hk => (andK hs fun hc hs => ⟨hc, (andK hs fun hc hs => ⟨⟨isE, hc⟩, (q38_at2 K s l_a4 x_0v0 x_1v0 X1 P1 S1 hX1 lowv1 highv1 slotsv1 iv1 s_1v1 ((s79 (⟨s.Parts, s_1v1, s.Beta, s.Alpha⟩ : Sky) (⟨x_0v0, x_1v0⟩ : Span) ((l_a4.get iv1.toNat).Weather)).Low) ((s79 (⟨s.Parts, s_1v1, s.Beta, s.Alpha⟩ : Sky) (⟨x_0v0, x_1v0⟩ : Span) ((l_a4.get iv1.toNat).Weather)).High) (fun i => enc_32 (s_1v1.get i)) rfl hs hk)⟩)⟩))
       (fun hs hk => (andK hs fun hc hs => ⟨hc, (andK hs fun hc hs => ⟨hc, hk⟩)⟩)) hs hk)
  exact key _ lowv1 highv1 slotsv1 iv1 s_1v1 s_1v1_g s_1v1_h hs hk
def s38_at0 (s : Sky) (l_a4 : (Sl Spell)) (s_1v0 : (Sl (Sl FluxRow))) (x_0v0 : Int) (x_1v0 : Int) : Span :=
  (s38_at1 s l_a4 x_0v0 x_1v0 (0:Int) (0:Int) (0:Int) (0:Int) s_1v0)
def p38_at0 (s : Sky) (l_a4 : (Sl Spell)) (s_1v0 : (Sl (Sl FluxRow))) (x_0v0 : Int) (x_1v0 : Int) : Bool :=
  (p38_at1 s l_a4 x_0v0 x_1v0 (0:Int) (0:Int) (0:Int) (0:Int) s_1v0)
theorem q38_at0 (K : List PA → Prop) (s : Sky) (l_a4 : (Sl Spell)) (s_1v0 : (Sl (Sl FluxRow))) (x_0v0 : Int) (x_1v0 : Int) (s_1v0_g : Nat → List PV) (s_1v0_h : s_1v0_g = fun i => enc_32 (s_1v0.get i)) (hs : p38_at0 s l_a4 s_1v0 x_0v0 x_1v0 = true) (hk : K (e38 (s38_at0 s l_a4 s_1v0 x_0v0 x_1v0))) : f38_at0 K s l_a4 s_1v0.len s_1v0_g x_0v0 x_1v0 := by
  subst s_1v0_h
  refine ofEq (f38_eq0 K s l_a4 s_1v0 x_0v0 x_1v0) ?_
  unfold p38_at0 at hs
  unfold s38_at0 at hk
  exact (q38_at1 K s l_a4 x_0v0 x_1v0 (0:Int) (0:Int) (0:Int) (0:Int) s_1v0 (fun i => enc_32 (s_1v0.get i)) rfl hs hk)
def s38 (s : Sky) (t : (Sl RangeRow)) (bin : Int) (opacity : Int) (l_a4 : (Sl Spell)) : Span :=
  (s38_at0 s l_a4 s.Bins ((s47 s t bin opacity).Low) ((s47 s t bin opacity).High))
def p38 (s : Sky) (t : (Sl RangeRow)) (bin : Int) (opacity : Int) (l_a4 : (Sl Spell)) : Bool :=
  (decide ((p47 s t bin opacity = true)) &&
  (p38_at0 s l_a4 s.Bins ((s47 s t bin opacity).Low) ((s47 s t bin opacity).High)))
theorem q38 (s : Sky) (t : (Sl RangeRow)) (bin : Int) (opacity : Int) (l_a4 : (Sl Spell)) (K : List PA → Prop) (hs : p38 s t bin opacity l_a4 = true) (hk : K (e38 (s38 s t bin opacity l_a4))) : vcFun Try.prog G38 ann38 38 [.agg [.int .i64 s.Parts, .sl s.Bins.len 1 (fun i => enc_32 (s.Bins.get i)), .int .i64 s.Beta.Low, .int .i64 s.Beta.High, .int .i64 s.Alpha.Low, .int .i64 s.Alpha.High], .one (.sl t.len 3 (fun i => enc_42 (t.get i))), .one (.int .i64 bin), .one (.int .i64 opacity), .one (.sl l_a4.len 5 (fun i => enc_56 (l_a4.get i)))] K := by
  refine ofEq (f38_top s t bin opacity l_a4 K) ?_
  unfold p38 at hs
  unfold s38 at hk
  exact (andK hs fun hc hs => ⟨⟨isE, isE, hc⟩, (q38_at0 K s l_a4 s.Bins ((s47 s t bin opacity).Low) ((s47 s t bin opacity).High) (fun i => enc_32 (s.Bins.get i)) rfl hs hk)⟩)
def ctr38 : List PA → COut
  | [.agg [.int .i64 a0_Parts, .sl a0_Bins_n a0_Bins_s a0_Bins_g, .int .i64 a0_Beta_Low, .int .i64 a0_Beta_High, .int .i64 a0_Alpha_Low, .int .i64 a0_Alpha_High], .one (.sl a1_n a1_s a1_g), .one (.int .i64 a2), .one (.int .i64 a3), .one (.sl a4_n a4_s a4_g)] => .det (IsE enc_32 1 a0_Bins_s a0_Bins_g ∧ IsE enc_42 3 a1_s a1_g ∧ IsE enc_56 5 a4_s a4_g ∧ p38 (⟨a0_Parts, (⟨a0_Bins_n, decF_32 a0_Bins_g⟩ : (Sl (Sl FluxRow))), (⟨a0_Beta_Low, a0_Beta_High⟩ : Span), (⟨a0_Alpha_Low, a0_Alpha_High⟩ : Span)⟩ : Sky) (⟨a1_n, decF_42 a1_g⟩ : (Sl RangeRow)) a2 a3 (⟨a4_n, decF_56 a4_g⟩ : (Sl Spell)) = true) [.agg [.int .i64 ((s38 (⟨a0_Parts, (⟨a0_Bins_n, decF_32 a0_Bins_g⟩ : (Sl (Sl FluxRow))), (⟨a0_Beta_Low, a0_Beta_High⟩ : Span), (⟨a0_Alpha_Low, a0_Alpha_High⟩ : Span)⟩ : Sky) (⟨a1_n, decF_42 a1_g⟩ : (Sl RangeRow)) a2 a3 (⟨a4_n, decF_56 a4_g⟩ : (Sl Spell))).Low), .int .i64 ((s38 (⟨a0_Parts, (⟨a0_Bins_n, decF_32 a0_Bins_g⟩ : (Sl (Sl FluxRow))), (⟨a0_Beta_Low, a0_Beta_High⟩ : Span), (⟨a0_Alpha_Low, a0_Alpha_High⟩ : Span)⟩ : Sky) (⟨a1_n, decF_42 a1_g⟩ : (Sl RangeRow)) a2 a3 (⟨a4_n, decF_56 a4_g⟩ : (Sl Spell))).High)]]
  | _ => .no
theorem call38 : Callable Try.prog 38 := ⟨_, rfl, rfl, by kernel_rfl⟩
theorem ok38 : Ok Try.prog 38 ctr38 := ok_tab okT38 call38 fun args K h => by
  unfold ctr38 at h
  split at h
  · rename_i a0_Parts a0_Bins_n a0_Bins_s a0_Bins_g a0_Beta_Low a0_Beta_High a0_Alpha_Low a0_Alpha_High a1_n a1_s a1_g a2 a3 a4_n a4_s a4_g
    obtain ⟨⟨⟨rfl, a0_Bins_f, rfl⟩, ⟨rfl, a1_f, rfl⟩, ⟨rfl, a4_f, rfl⟩, hs⟩, hk⟩ := h
    try rw [decF_enc_32 a0_Bins_f] at hs
    try rw [decF_enc_32 a0_Bins_f] at hk
    try rw [decF_enc_42 a1_f] at hs
    try rw [decF_enc_42 a1_f] at hk
    try rw [decF_enc_56 a4_f] at hs
    try rw [decF_enc_56 a4_f] at hk
    exact ⟨(fun _ _ => []), (fun _ => false), ann38, q38 (⟨a0_Parts, (⟨a0_Bins_n, a0_Bins_f⟩ : (Sl (Sl FluxRow))), (⟨a0_Beta_Low, a0_Beta_High⟩ : Span), (⟨a0_Alpha_Low, a0_Alpha_High⟩ : Span)⟩ : Sky) (⟨a1_n, a1_f⟩ : (Sl RangeRow)) a2 a3 (⟨a4_n, a4_f⟩ : (Sl Spell)) K hs hk⟩
  · exact h.elim
-- 73 overburdenref05.edges
abbrev T73 : Tabs := Tabs.nil
theorem okT73 : TabsOk Try.prog T73 := TabsOk.nil
abbrev G73 : Ctrs := csm T73 (fun _ _ => []) (fun _ => false)
def ann73 : Ann := ⟨84, [(0, ⟨[0], [], [], [], []⟩), (1, ⟨[0, 3], [8], [], [], []⟩), (2, ⟨[0, 3, 4], [8], [], [], []⟩), (3, ⟨[0, 3, 4, 12], [8], [], [], []⟩), (4, ⟨[0, 3, 4], [8], [], [], []⟩), (5, ⟨[0, 3, 4], [8], [], [], []⟩), (6, ⟨[3, 5], [8], [], [], []⟩), (7, ⟨[3, 5, 6], [8, 83], [], [], []⟩), (8, ⟨[3, 5, 6, 7], [8, 83], [], [], []⟩), (9, ⟨[3, 5, 6, 7, 35], [8, 83], [], [], []⟩), (10, ⟨[3, 5, 6, 7], [8, 83], [], [], []⟩), (11, ⟨[3, 5, 6, 7, 72], [8, 83], [], [], []⟩), (12, ⟨[3, 5, 6, 7], [8, 83], [], [], []⟩), (13, ⟨[3, 5, 6, 78], [8, 83], [], [], []⟩), (14, ⟨[2], [83], [], [], []⟩), (15, ⟨[3, 5], [8, 83], [], [], []⟩)],
  [(3, ⟨[0, 3, 4], [8], [], [], []⟩), (7, ⟨[3, 5], [8, 83], [(5, 83, 3, fun _ => enc_3 default)], [], []⟩), (9, ⟨[3, 5, 6, 7], [8, 83], [], [], []⟩)],
  [(6, ⟨[3], [8], [], [], []⟩)],
  [], []⟩
def f73_g0 (t : (Sl RangeRow)) (iv0 : Int) (v8v0_n : Nat) (v8v0_g : Nat → List PV) : St := ⟨[(0, .one (.c (.p (.sl t.len 3 (fun i => enc_42 (t.get i)))))), (3, .one (.c (.vec 8))), (4, .one (.c (.p (.int .i64 iv0))))], [(8, .vec 3 1 8 v8v0_n v8v0_g)], []⟩
def f73_at0 (K : List PA → Prop) (t : (Sl RangeRow)) (iv0 : Int) (v8v0_n : Nat) (v8v0_g : Nat → List PV) : Prop := vc Try.prog G73 ann73 (cdF Try.f73 [1, 1, 0, 1, 0]) (blockK 0 (sqK Try.prog G73 ann73 (cdF Try.f73 [1, 1, 1]) (bodyK Try.prog Try.f73 K))) (f73_g0 t iv0 v8v0_n v8v0_g)
def f73_g1 (v8v1_n : Nat) (v8v1_g : Nat → List PV) : St := ⟨[(3, .one (.c (.vec 8)))], [(8, .vec 3 1 8 v8v1_n v8v1_g)], []⟩
def f73_at1 (K : List PA → Prop) (v8v1_n : Nat) (v8v1_g : Nat → List PV) : Prop := vc Try.prog G73 ann73 (cdF Try.f73 [1, 1, 1]) (bodyK Try.prog Try.f73 K) (f73_g1 v8v1_n v8v1_g)
def f73_g2 (v8v1 : (Sl Int)) (v83v2_n : Nat) (v83v2_g : Nat → List PV) : St := ⟨[(3, .one (.c (.vec 8))), (5, .one (.c (.vec 83)))], [(8, .vec 3 1 8 v8v1.len (fun i => enc_3 (v8v1.get i))), (83, .vec 3 1 8 v83v2_n v83v2_g)], []⟩
def f73_at2 (K : List PA → Prop) (v8v1 : (Sl Int)) (v83v2_n : Nat) (v83v2_g : Nat → List PV) : Prop := vc Try.prog G73 ann73 (cdF Try.f73 [1, 1, 1, 1, 0]) (blockK 2 (bodyK Try.prog Try.f73 K)) (f73_g2 v8v1 v83v2_n v83v2_g)
def f73_g3 (v8v1 : (Sl Int)) (leastv3 : Int) (iv3 : Int) (v83v3_n : Nat) (v83v3_g : Nat → List PV) : St := ⟨[(3, .one (.c (.vec 8))), (5, .one (.c (.vec 83))), (6, .one (.c (.p (.int .i64 leastv3)))), (7, .one (.c (.p (.int .i64 iv3))))], [(8, .vec 3 1 8 v8v1.len (fun i => enc_3 (v8v1.get i))), (83, .vec 3 1 8 v83v3_n v83v3_g)], []⟩
def f73_at3 (K : List PA → Prop) (X2 : St → Prop) (v8v1 : (Sl Int)) (leastv3 : Int) (iv3 : Int) (v83v3_n : Nat) (v83v3_g : Nat → List PV) : Prop := vc Try.prog G73 ann73 (cdF Try.f73 [1, 1, 1, 1, 0, 0, 0, 1, 0, 1, 0]) (blockK 4 (sqK Try.prog G73 ann73 (cdF Try.f73 [1, 1, 1, 1, 0, 0, 0, 1, 1]) (blockK 3 (loopK Try.prog ann73 7 X2 (blockK 2 (bodyK Try.prog Try.f73 K)))))) (f73_g3 v8v1 leastv3 iv3 v83v3_n v83v3_g)
theorem f73_top (t : (Sl RangeRow)) (K : List PA → Prop) :
  vcFun Try.prog G73 ann73 73 [.one (.sl t.len 3 (fun i => enc_42 (t.get i)))] K =
  (f73_at0 K t (0:Int) 2 (getL [(enc_3 (0:Int)), (enc_3 (1:Int))])) := by kernel_rfl
def f73_step0 (K : List PA → Prop) (X0 : St → Prop) (t : (Sl RangeRow)) (iv0 : Int) (v8v0 : (Sl Int)) : Prop :=
  (condP (decide (iv0 < (t.len : Int)))
   (((0 ≤ iv0 ∧ iv0 < (t.len : Int))) ∧
   (((0 ≤ iv0 ∧ iv0 < (t.len : Int))) ∧
   ((((v8v0.len + 2) * 8 ≤ 140737488355328 ∧ v8v0.len + 2 ≤ 9223372036854775807)) ∧
   (X0 (f73_g0 t (w64 (iv0 + (1:Int))) (v8v0.len + 2) (appG v8v0.len (fun i => enc_3 (v8v0.get i)) (getL [(enc_3 (w64 ((t.get iv0.toNat).Range.Low + (1:Int)))), (enc_3 (w64 ((t.get iv0.toNat).Range.High + (1:Int))))])))))))
   (f73_at1 K v8v0.len (fun i => enc_3 (v8v0.get i))))
theorem f73_stepeq0 (K : List PA → Prop) (X0 : St → Prop) (t : (Sl RangeRow)) (iv0 : Int) (v8v0 : (Sl Int)) :
  vc Try.prog G73 ann73 (cd (cdF Try.f73 [1, 1, 0, 1, 0]) [0]) (loopK Try.prog ann73 3 X0 (blockK 0 (sqK Try.prog G73 ann73 (cdF Try.f73 [1, 1, 1]) (bodyK Try.prog Try.f73 K)))) (f73_g0 t iv0 v8v0.len (fun i => enc_3 (v8v0.get i))) =
  f73_step0 K X0 t iv0 v8v0 := by kernel_rfl
theorem f73_loop0 (K : List PA → Prop) (t : (Sl RangeRow)) (iv0 : Int) (v8v0_n : Nat) (v8v0_g : Nat → List PV)
  (h : ∀ X0 : St → Prop, (∀ (iv0 : Int) (v8v0 : (Sl Int)), f73_step0 K X0 t iv0 v8v0 → X0 (f73_g0 t iv0 v8v0.len (fun i => enc_3 (v8v0.get i)))) → X0 (f73_g0 t iv0 v8v0_n v8v0_g)) :
  f73_at0 K t iv0 v8v0_n v8v0_g := by
  have e : f73_at0 K t iv0 v8v0_n v8v0_g = (∀ X : St → Prop, (∀ s, vc Try.prog G73 ann73 (cd (cdF Try.f73 [1, 1, 0, 1, 0]) [0]) (loopK Try.prog ann73 3 X (blockK 0 (sqK Try.prog G73 ann73 (cdF Try.f73 [1, 1, 1]) (bodyK Try.prog Try.f73 K)))) s → X s) → X (f73_g0 t iv0 v8v0_n v8v0_g)) := by kernel_rfl
  refine ofEq e ?_
  intro X hX
  refine h X ?_
  intro iv0 v8v0 hs
  refine hX _ ?_
  have e2 := f73_stepeq0 K X t iv0 v8v0
  rw [e2]
  exact hs
theorem f73_eq1 (K : List PA → Prop) (v8v1 : (Sl Int)) :
  f73_at1 K v8v1.len (fun i => enc_3 (v8v1.get i)) =
  (f73_at2 K v8v1 0 (fun i => enc_3 ((fun _ => default) i))) := by kernel_rfl
def f73_step2 (K : List PA → Prop) (X2 : St → Prop) (v8v1 : (Sl Int)) (v83v2 : (Sl Int)) : Prop :=
  (f73_at3 K X2 v8v1 (-1:Int) (0:Int) v83v2.len (fun i => enc_3 (v83v2.get i)))
theorem f73_stepeq2 (K : List PA → Prop) (X2 : St → Prop) (v8v1 : (Sl Int)) (v83v2 : (Sl Int)) :
  vc Try.prog G73 ann73 (cd (cdF Try.f73 [1, 1, 1, 1, 0]) [0]) (loopK Try.prog ann73 7 X2 (blockK 2 (bodyK Try.prog Try.f73 K))) (f73_g2 v8v1 v83v2.len (fun i => enc_3 (v83v2.get i))) =
  f73_step2 K X2 v8v1 v83v2 := by kernel_rfl
theorem f73_loop2 (K : List PA → Prop) (v8v1 : (Sl Int)) (v83v2_n : Nat) (v83v2_g : Nat → List PV)
  (h : ∀ X2 : St → Prop, (∀ (v83v2 : (Sl Int)), f73_step2 K X2 v8v1 v83v2 → X2 (f73_g2 v8v1 v83v2.len (fun i => enc_3 (v83v2.get i)))) → X2 (f73_g2 v8v1 v83v2_n v83v2_g)) :
  f73_at2 K v8v1 v83v2_n v83v2_g := by
  have e : f73_at2 K v8v1 v83v2_n v83v2_g = (∀ X : St → Prop, (∀ s, vc Try.prog G73 ann73 (cd (cdF Try.f73 [1, 1, 1, 1, 0]) [0]) (loopK Try.prog ann73 7 X (blockK 2 (bodyK Try.prog Try.f73 K))) s → X s) → X (f73_g2 v8v1 v83v2_n v83v2_g)) := by kernel_rfl
  refine ofEq e ?_
  intro X hX
  refine h X ?_
  intro v83v2 hs
  refine hX _ ?_
  have e2 := f73_stepeq2 K X v8v1 v83v2
  rw [e2]
  exact hs
def f73_step3 (K : List PA → Prop) (X2 : St → Prop) (X3 : St → Prop) (v8v1 : (Sl Int)) (leastv3 : Int) (iv3 : Int) (v83v3 : (Sl Int)) : Prop :=
  (condP (decide (iv3 < (v8v1.len : Int)))
   (((0 ≤ iv3 ∧ iv3 < (v8v1.len : Int))) ∧
   (((iv3.toNat < v8v1.len)) ∧
   (condP (decide ((v8v1.get iv3.toNat) ≤ (1000000:Int)))
    (condP ((v83v3.len : Int) == (0:Int))
     (condP (decide (leastv3 < (0:Int)))
      (((0 ≤ iv3 ∧ iv3 < (v8v1.len : Int))) ∧
      (((iv3.toNat < v8v1.len)) ∧
      (X3 (f73_g3 v8v1 (v8v1.get iv3.toNat) (w64 (iv3 + (1:Int))) v83v3.len (fun i => enc_3 (v83v3.get i))))))
      (((0 ≤ iv3 ∧ iv3 < (v8v1.len : Int))) ∧
      (((iv3.toNat < v8v1.len)) ∧
      (condP (decide ((v8v1.get iv3.toNat) < leastv3))
       (((0 ≤ iv3 ∧ iv3 < (v8v1.len : Int))) ∧
       (((iv3.toNat < v8v1.len)) ∧
       (X3 (f73_g3 v8v1 (v8v1.get iv3.toNat) (w64 (iv3 + (1:Int))) v83v3.len (fun i => enc_3 (v83v3.get i))))))
       (X3 (f73_g3 v8v1 leastv3 (w64 (iv3 + (1:Int))) v83v3.len (fun i => enc_3 (v83v3.get i))))))))
     (((0 ≤ iv3 ∧ iv3 < (v8v1.len : Int))) ∧
     (((iv3.toNat < v8v1.len)) ∧
     (((0 ≤ (w64 ((v83v3.len : Int) - (1:Int))) ∧ (w64 ((v83v3.len : Int) - (1:Int))) < (v83v3.len : Int))) ∧
     ((((w64 ((v83v3.len : Int) - (1:Int))).toNat < v83v3.len)) ∧
     (condP (decide ((v8v1.get iv3.toNat) > (v83v3.get ((w64 ((v83v3.len : Int) - (1:Int))).toNat))))
      (condP (decide (leastv3 < (0:Int)))
       (((0 ≤ iv3 ∧ iv3 < (v8v1.len : Int))) ∧
       (((iv3.toNat < v8v1.len)) ∧
       (X3 (f73_g3 v8v1 (v8v1.get iv3.toNat) (w64 (iv3 + (1:Int))) v83v3.len (fun i => enc_3 (v83v3.get i))))))
       (((0 ≤ iv3 ∧ iv3 < (v8v1.len : Int))) ∧
       (((iv3.toNat < v8v1.len)) ∧
       (condP (decide ((v8v1.get iv3.toNat) < leastv3))
        (((0 ≤ iv3 ∧ iv3 < (v8v1.len : Int))) ∧
        (((iv3.toNat < v8v1.len)) ∧
        (X3 (f73_g3 v8v1 (v8v1.get iv3.toNat) (w64 (iv3 + (1:Int))) v83v3.len (fun i => enc_3 (v83v3.get i))))))
        (X3 (f73_g3 v8v1 leastv3 (w64 (iv3 + (1:Int))) v83v3.len (fun i => enc_3 (v83v3.get i))))))))
      (X3 (f73_g3 v8v1 leastv3 (w64 (iv3 + (1:Int))) v83v3.len (fun i => enc_3 (v83v3.get i))))))))))
    (X3 (f73_g3 v8v1 leastv3 (w64 (iv3 + (1:Int))) v83v3.len (fun i => enc_3 (v83v3.get i)))))))
   (condP (decide (leastv3 < (0:Int)))
    (K [.one (.sl v83v3.len 1 (fun i => enc_3 (v83v3.get i)))])
    ((((v83v3.len + 1) * 8 ≤ 140737488355328 ∧ v83v3.len + 1 ≤ 9223372036854775807)) ∧
    (X2 (f73_g2 v8v1 (v83v3.len + 1) (appG v83v3.len (fun i => enc_3 (v83v3.get i)) (fun _ => (enc_3 leastv3))))))))
theorem f73_stepeq3 (K : List PA → Prop) (X2 : St → Prop) (X3 : St → Prop) (v8v1 : (Sl Int)) (leastv3 : Int) (iv3 : Int) (v83v3 : (Sl Int)) :
  vc Try.prog G73 ann73 (cd (cdF Try.f73 [1, 1, 1, 1, 0, 0, 0, 1, 0, 1, 0]) [0]) (loopK Try.prog ann73 9 X3 (blockK 4 (sqK Try.prog G73 ann73 (cdF Try.f73 [1, 1, 1, 1, 0, 0, 0, 1, 1]) (blockK 3 (loopK Try.prog ann73 7 X2 (blockK 2 (bodyK Try.prog Try.f73 K))))))) (f73_g3 v8v1 leastv3 iv3 v83v3.len (fun i => enc_3 (v83v3.get i))) =
  f73_step3 K X2 X3 v8v1 leastv3 iv3 v83v3 := by kernel_rfl
theorem f73_loop3 (K : List PA → Prop) (X2 : St → Prop) (v8v1 : (Sl Int)) (leastv3 : Int) (iv3 : Int) (v83v3_n : Nat) (v83v3_g : Nat → List PV)
  (h : ∀ X3 : St → Prop, (∀ (leastv3 : Int) (iv3 : Int) (v83v3 : (Sl Int)), f73_step3 K X2 X3 v8v1 leastv3 iv3 v83v3 → X3 (f73_g3 v8v1 leastv3 iv3 v83v3.len (fun i => enc_3 (v83v3.get i)))) → X3 (f73_g3 v8v1 leastv3 iv3 v83v3_n v83v3_g)) :
  f73_at3 K X2 v8v1 leastv3 iv3 v83v3_n v83v3_g := by
  have e : f73_at3 K X2 v8v1 leastv3 iv3 v83v3_n v83v3_g = (∀ X : St → Prop, (∀ s, vc Try.prog G73 ann73 (cd (cdF Try.f73 [1, 1, 1, 1, 0, 0, 0, 1, 0, 1, 0]) [0]) (loopK Try.prog ann73 9 X (blockK 4 (sqK Try.prog G73 ann73 (cdF Try.f73 [1, 1, 1, 1, 0, 0, 0, 1, 1]) (blockK 3 (loopK Try.prog ann73 7 X2 (blockK 2 (bodyK Try.prog Try.f73 K))))))) s → X s) → X (f73_g3 v8v1 leastv3 iv3 v83v3_n v83v3_g)) := by kernel_rfl
  refine ofEq e ?_
  intro X hX
  refine h X ?_
  intro leastv3 iv3 v83v3 hs
  refine hX _ ?_
  have e2 := f73_stepeq3 K X2 X v8v1 leastv3 iv3 v83v3
  rw [e2]
  exact hs
abbrev R73 := (Sl Int)
abbrev e73 (r : (Sl Int)) : List PA := [.one (.sl r.len 1 (fun i => enc_3 (r.get i)))]
attribute [irreducible] f73_at0 f73_at1 f73_at2 f73_at3
def s73_st3 (S2 : (Sl Int) → (Sl Int)) (v8v1 : (Sl Int)) (S3 : Int → Int → (Sl Int) → (Sl Int)) (leastv3 : Int) (iv3 : Int) (v83v3 : (Sl Int)) : (Sl Int) :=
  (cond (decide (iv3 < (v8v1.len : Int)))
   (cond (decide ((v8v1.get iv3.toNat) ≤ (1000000:Int)))
    (cond ((v83v3.len : Int) == (0:Int))
     (cond (decide (leastv3 < (0:Int)))
      (S3 (v8v1.get iv3.toNat) (w64 (iv3 + (1:Int))) v83v3)
      (cond (decide ((v8v1.get iv3.toNat) < leastv3))
       (S3 (v8v1.get iv3.toNat) (w64 (iv3 + (1:Int))) v83v3)
       (S3 leastv3 (w64 (iv3 + (1:Int))) v83v3)))
     (cond (decide ((v8v1.get iv3.toNat) > (v83v3.get ((w64 ((v83v3.len : Int) - (1:Int))).toNat))))
      (cond (decide (leastv3 < (0:Int)))
       (S3 (v8v1.get iv3.toNat) (w64 (iv3 + (1:Int))) v83v3)
       (cond (decide ((v8v1.get iv3.toNat) < leastv3))
        (S3 (v8v1.get iv3.toNat) (w64 (iv3 + (1:Int))) v83v3)
        (S3 leastv3 (w64 (iv3 + (1:Int))) v83v3)))
      (S3 leastv3 (w64 (iv3 + (1:Int))) v83v3)))
    (S3 leastv3 (w64 (iv3 + (1:Int))) v83v3))
   (cond (decide (leastv3 < (0:Int)))
    v83v3
    (S2 (⟨(v83v3.len + 1), (appT v83v3.len v83v3.get (fun _ => leastv3))⟩ : Sl Int))))
def p73_st3 (P2 : (Sl Int) → Bool) (v8v1 : (Sl Int)) (P3 : Int → Int → (Sl Int) → Bool) (leastv3 : Int) (iv3 : Int) (v83v3 : (Sl Int)) : Bool :=
  (cond (decide (iv3 < (v8v1.len : Int)))
   (decide ((0 ≤ iv3 ∧ iv3 < (v8v1.len : Int))) &&
   (decide ((iv3.toNat < v8v1.len)) &&
   (cond (decide ((v8v1.get iv3.toNat) ≤ (1000000:Int)))
    (cond ((v83v3.len : Int) == (0:Int))
     (cond (decide (leastv3 < (0:Int)))
      (decide ((0 ≤ iv3 ∧ iv3 < (v8v1.len : Int))) &&
      (decide ((iv3.toNat < v8v1.len)) &&
      (P3 (v8v1.get iv3.toNat) (w64 (iv3 + (1:Int))) v83v3)))
      (decide ((0 ≤ iv3 ∧ iv3 < (v8v1.len : Int))) &&
      (decide ((iv3.toNat < v8v1.len)) &&
      (cond (decide ((v8v1.get iv3.toNat) < leastv3))
       (decide ((0 ≤ iv3 ∧ iv3 < (v8v1.len : Int))) &&
       (decide ((iv3.toNat < v8v1.len)) &&
       (P3 (v8v1.get iv3.toNat) (w64 (iv3 + (1:Int))) v83v3)))
       (P3 leastv3 (w64 (iv3 + (1:Int))) v83v3)))))
     (decide ((0 ≤ iv3 ∧ iv3 < (v8v1.len : Int))) &&
     (decide ((iv3.toNat < v8v1.len)) &&
     (decide ((0 ≤ (w64 ((v83v3.len : Int) - (1:Int))) ∧ (w64 ((v83v3.len : Int) - (1:Int))) < (v83v3.len : Int))) &&
     (decide (((w64 ((v83v3.len : Int) - (1:Int))).toNat < v83v3.len)) &&
     (cond (decide ((v8v1.get iv3.toNat) > (v83v3.get ((w64 ((v83v3.len : Int) - (1:Int))).toNat))))
      (cond (decide (leastv3 < (0:Int)))
       (decide ((0 ≤ iv3 ∧ iv3 < (v8v1.len : Int))) &&
       (decide ((iv3.toNat < v8v1.len)) &&
       (P3 (v8v1.get iv3.toNat) (w64 (iv3 + (1:Int))) v83v3)))
       (decide ((0 ≤ iv3 ∧ iv3 < (v8v1.len : Int))) &&
       (decide ((iv3.toNat < v8v1.len)) &&
       (cond (decide ((v8v1.get iv3.toNat) < leastv3))
        (decide ((0 ≤ iv3 ∧ iv3 < (v8v1.len : Int))) &&
        (decide ((iv3.toNat < v8v1.len)) &&
        (P3 (v8v1.get iv3.toNat) (w64 (iv3 + (1:Int))) v83v3)))
        (P3 leastv3 (w64 (iv3 + (1:Int))) v83v3)))))
      (P3 leastv3 (w64 (iv3 + (1:Int))) v83v3)))))))
    (P3 leastv3 (w64 (iv3 + (1:Int))) v83v3))))
   (cond (decide (leastv3 < (0:Int)))
    true
    (decide (((v83v3.len + 1) * 8 ≤ 140737488355328 ∧ v83v3.len + 1 ≤ 9223372036854775807)) &&
    (P2 (⟨(v83v3.len + 1), (appT v83v3.len v83v3.get (fun _ => leastv3))⟩ : Sl Int)))))
def s73_lp3 (S2 : (Sl Int) → (Sl Int)) (v8v1 : (Sl Int)) : Nat → Int → Int → (Sl Int) → (Sl Int)
  | 0 => fun _ _ _ => default
  | k + 1 => s73_st3 S2 v8v1 (s73_lp3 S2 v8v1 k)
def p73_lp3 (P2 : (Sl Int) → Bool) (v8v1 : (Sl Int)) : Nat → Int → Int → (Sl Int) → Bool
  | 0 => fun _ _ _ => false
  | k + 1 => p73_st3 P2 v8v1 (p73_lp3 P2 v8v1 k)
def s73_at3 (S2 : (Sl Int) → (Sl Int)) (v8v1 : (Sl Int)) (leastv3 : Int) (iv3 : Int) (v83v3 : (Sl Int)) : (Sl Int) := s73_lp3 S2 v8v1 Fuel leastv3 iv3 v83v3
def p73_at3 (P2 : (Sl Int) → Bool) (v8v1 : (Sl Int)) (leastv3 : Int) (iv3 : Int) (v83v3 : (Sl Int)) : Bool := p73_lp3 P2 v8v1 Fuel leastv3 iv3 v83v3
theorem q73_at3 (K : List PA → Prop) (v8v1 : (Sl Int))
  (X2 : St → Prop) (P2 : (Sl Int) → Bool) (S2 : (Sl Int) → (Sl Int))
  (hX2 : ∀ (v83v2 : (Sl Int)) (v83v2_g : Nat → List PV) (v83v2_h : v83v2_g = fun i => enc_3 (v83v2.get i)), P2 v83v2 = true → K (e73 (S2 v83v2)) → X2 (f73_g2 v8v1 v83v2.len v83v2_g)) (leastv3 : Int) (iv3 : Int) (v83v3 : (Sl Int)) (v83v3_g : Nat → List PV) (v83v3_h : v83v3_g = fun i => enc_3 (v83v3.get i)) (hs : p73_at3 P2 v8v1 leastv3 iv3 v83v3 = true) (hk : K (e73 (s73_at3 S2 v8v1 leastv3 iv3 v83v3))) : f73_at3 K X2 v8v1 leastv3 iv3 v83v3.len v83v3_g := by
  refine f73_loop3 K X2 v8v1 leastv3 iv3 v83v3.len v83v3_g ?_
  intro X3 hstep
  have key : ∀ (k : Nat) (leastv3 : Int) (iv3 : Int) (v83v3 : (Sl Int)) (v83v3_g : Nat → List PV) (v83v3_h : v83v3_g = fun i => enc_3 (v83v3.get i)), p73_lp3 P2 v8v1 k leastv3 iv3 v83v3 = true → K (e73 (s73_lp3 S2 v8v1 k leastv3 iv3 v83v3)) → X3 (f73_g3 v8v1 leastv3 iv3 v83v3.len v83v3_g) := by
    intro k
    induction k with
    | zero => intro leastv3 iv3 v83v3 v83v3_g v83v3_h hs; exact absurd hs Bool.false_ne_true
    | succ k ih =>
      intro leastv3 iv3 v83v3 v83v3_g v83v3_h hs hk
      subst v83v3_h
      refine hstep leastv3 iv3 v83v3 ?_
      have hs : p73_st3 P2 v8v1 (p73_lp3 P2 v8v1 k) leastv3 iv3 v83v3 = true := hs
      have hk : K (e73 (s73_st3 S2 v8v1 (s73_lp3 S2 v8v1 k) leastv3 iv3 v83v3)) := hk
      unfold p73_st3 at hs
      unfold s73_st3 at hk
      generalize s73_lp3 S2 v8v1 k = S3 at hk ih
      generalize p73_lp3 P2 v8v1 k = P3 at hs ih
      have hX3 := ih
      exact (condB_go (K := fun r => K (e73 r))
       (fun hs hk => (andK hs fun hc hs => ⟨hc, (andK hs fun hc hs => ⟨hc, (condB_go (K := fun r => K (e73 r))
        (fun hs hk => (condB_go (K := fun r => K (e73 r))
         (fun hs hk => (condB_go (K := fun r => K (e73 r))
          (fun hs hk => (andK hs fun hc hs => ⟨hc, (andK hs fun hc hs => ⟨hc, (hX3 (v8v1.get iv3.toNat) (w64 (iv3 + (1:Int))) v83v3 (fun i => enc_3 (v83v3.get i)) rfl hs hk)⟩)⟩))
          (fun hs hk => (andK hs fun hc hs => ⟨hc, (andK hs fun hc hs => ⟨hc, (condB_go (K := fun r => K (e73 r))
           (fun hs hk => (andK hs fun hc hs => ⟨hc, (andK hs fun hc hs => ⟨hc, (hX3 (v8v1.get iv3.toNat) (w64 (iv3 + (1:Int))) v83v3 (fun i => enc_3 (v83v3.get i)) rfl hs hk)⟩)⟩))
           (fun hs hk => (hX3 leastv3 (w64 (iv3 + (1:Int))) v83v3 (fun i => enc_3 (v83v3.get i)) rfl hs hk)) hs hk)⟩)⟩)) hs hk))
         (fun hs hk => (andK hs fun hc hs => ⟨hc, (andK hs fun hc hs => ⟨hc, (andK hs fun hc hs => ⟨hc, (andK hs fun hc hs => ⟨hc, (condB_go (K := fun r => K (e73 r))
          (fun hs hk => (condB_go (K := fun r => K (e73 r))
           (fun hs hk => (andK hs fun hc hs => ⟨hc, (andK hs fun hc hs => ⟨hc, (hX3 (v8v1.get iv3.toNat) (w64 (iv3 + (1:Int))) v83v3 (fun i => enc_3 (v83v3.get i)) rfl hs hk)⟩)⟩))
           (fun hs hk => (andK hs fun hc hs => ⟨hc, (andK hs fun hc hs => ⟨hc, (condB_go (K := fun r => K (e73 r))
            (fun hs hk => (andK hs fun hc hs => ⟨hc, (andK hs fun hc hs => ⟨hc, (hX3 (v8v1.get iv3.toNat) (w64 (iv3 + (1:Int))) v83v3 (fun i => enc_3 (v83v3.get i)) rfl hs hk)⟩)⟩))
            (fun hs hk => (hX3 leastv3 (w64 (iv3 + (1:Int))) v83v3 (fun i => enc_3 (v83v3.get i)) rfl hs hk)) hs hk)⟩)⟩)) hs hk))
          (fun hs hk => (hX3 leastv3 (w64 (iv3 + (1:Int))) v83v3 (fun i => enc_3 (v83v3.get i)) rfl hs hk)) hs hk)⟩)⟩)⟩)⟩)) hs hk))
        (fun hs hk => (hX3 leastv3 (w64 (iv3 + (1:Int))) v83v3 (fun i => enc_3 (v83v3.get i)) rfl hs hk)) hs hk)⟩)⟩))
       (fun hs hk => (condB_go (K := fun r => K (e73 r))
        (fun hs hk => hk)
        (fun hs hk => (andK hs fun hc hs => ⟨hc, (hX2 (⟨(v83v3.len + 1), (appT v83v3.len v83v3.get (fun _ => leastv3))⟩ : Sl Int) (appG v83v3.len (fun i => enc_3 (v83v3.get i)) (fun _ => (enc_3 leastv3))) (appG_e rfl rfl) hs hk)⟩)) hs hk)) hs hk)
  exact key _ leastv3 iv3 v83v3 v83v3_g v83v3_h hs hk
def s73_st2 (v8v1 : (Sl Int)) (S2 : (Sl Int) → (Sl Int)) (v83v2 : (Sl Int)) : (Sl Int) :=
  (s73_at3 S2 v8v1 (-1:Int) (0:Int) v83v2)
def p73_st2 (v8v1 : (Sl Int)) (P2 : (Sl Int) → Bool) (v83v2 : (Sl Int)) : Bool :=
  (p73_at3 P2 v8v1 (-1:Int) (0:Int) v83v2)
def s73_lp2 (v8v1 : (Sl Int)) : Nat → (Sl Int) → (Sl Int)
  | 0 => fun _ => default
  | k + 1 => s73_st2 v8v1 (s73_lp2 v8v1 k)
def p73_lp2 (v8v1 : (Sl Int)) : Nat → (Sl Int) → Bool
  | 0 => fun _ => false
  | k + 1 => p73_st2 v8v1 (p73_lp2 v8v1 k)
def s73_at2 (v8v1 : (Sl Int)) (v83v2 : (Sl Int)) : (Sl Int) := s73_lp2 v8v1 Fuel v83v2
def p73_at2 (v8v1 : (Sl Int)) (v83v2 : (Sl Int)) : Bool := p73_lp2 v8v1 Fuel v83v2
theorem q73_at2 (K : List PA → Prop) (v8v1 : (Sl Int)) (v83v2 : (Sl Int)) (v83v2_g : Nat → List PV) (v83v2_h : v83v2_g = fun i => enc_3 (v83v2.get i)) (hs : p73_at2 v8v1 v83v2 = true) (hk : K (e73 (s73_at2 v8v1 v83v2))) : f73_at2 K v8v1 v83v2.len v83v2_g := by
  refine f73_loop2 K v8v1 v83v2.len v83v2_g ?_
  intro X2 hstep
  have key : ∀ (k : Nat) (v83v2 : (Sl Int)) (v83v2_g : Nat → List PV) (v83v2_h : v83v2_g = fun i => enc_3 (v83v2.get i)), p73_lp2 v8v1 k v83v2 = true → K (e73 (s73_lp2 v8v1 k v83v2)) → X2 (f73_g2 v8v1 v83v2.len v83v2_g) := by
    intro k
    induction k with
    | zero => intro v83v2 v83v2_g v83v2_h hs; exact absurd hs Bool.false_ne_true
    | succ k ih =>
      intro v83v2 v83v2_g v83v2_h hs hk
      subst v83v2_h
      refine hstep v83v2 ?_
      have hs : p73_st2 v8v1 (p73_lp2 v8v1 k) v83v2 = true := hs
      have hk : K (e73 (s73_st2 v8v1 (s73_lp2 v8v1 k) v83v2)) := hk
      unfold p73_st2 at hs
      unfold s73_st2 at hk
      generalize s73_lp2 v8v1 k = S2 at hk ih
      generalize p73_lp2 v8v1 k = P2 at hs ih
      have hX2 := ih
      exact (q73_at3 K v8v1 X2 P2 S2 hX2 (-1:Int) (0:Int) v83v2 (fun i => enc_3 (v83v2.get i)) rfl hs hk)
  exact key _ v83v2 v83v2_g v83v2_h hs hk
def s73_at1 (v8v1 : (Sl Int)) : (Sl Int) :=
  (s73_at2 v8v1 (⟨0, (fun _ => default)⟩ : Sl Int))
def p73_at1 (v8v1 : (Sl Int)) : Bool :=
  (p73_at2 v8v1 (⟨0, (fun _ => default)⟩ : Sl Int))
theorem q73_at1 (K : List PA → Prop) (v8v1 : (Sl Int)) (v8v1_g : Nat → List PV) (v8v1_h : v8v1_g = fun i => enc_3 (v8v1.get i)) (hs : p73_at1 v8v1 = true) (hk : K (e73 (s73_at1 v8v1))) : f73_at1 K v8v1.len v8v1_g := by
  subst v8v1_h
  refine ofEq (f73_eq1 K v8v1) ?_
  unfold p73_at1 at hs
  unfold s73_at1 at hk
  exact (q73_at2 K v8v1 (⟨0, (fun _ => default)⟩ : Sl Int) (fun i => enc_3 ((fun _ => default) i)) rfl hs hk)
def s73_st0 (t : (Sl RangeRow)) (S0 : Int → (Sl Int) → (Sl Int)) (iv0 : Int) (v8v0 : (Sl Int)) : (Sl Int) :=
  (cond (decide (iv0 < (t.len : Int)))
   (S0 (w64 (iv0 + (1:Int))) (⟨(v8v0.len + 2), (appT v8v0.len v8v0.get (getT (w64 ((t.get iv0.toNat).Range.Low + (1:Int))) [(w64 ((t.get iv0.toNat).Range.Low + (1:Int))), (w64 ((t.get iv0.toNat).Range.High + (1:Int)))]))⟩ : Sl Int))
   (s73_at1 v8v0))
def p73_st0 (t : (Sl RangeRow)) (P0 : Int → (Sl Int) → Bool) (iv0 : Int) (v8v0 : (Sl Int)) : Bool :=
  (cond (decide (iv0 < (t.len : Int)))
   (decide ((0 ≤ iv0 ∧ iv0 < (t.len : Int))) &&
   (decide ((0 ≤ iv0 ∧ iv0 < (t.len : Int))) &&
   (decide (((v8v0.len + 2) * 8 ≤ 140737488355328 ∧ v8v0.len + 2 ≤ 9223372036854775807)) &&
   (P0 (w64 (iv0 + (1:Int))) (⟨(v8v0.len + 2), (appT v8v0.len v8v0.get (getT (w64 ((t.get iv0.toNat).Range.Low + (1:Int))) [(w64 ((t.get iv0.toNat).Range.Low + (1:Int))), (w64 ((t.get iv0.toNat).Range.High + (1:Int)))]))⟩ : Sl Int)))))
   (p73_at1 v8v0))
def s73_lp0 (t : (Sl RangeRow)) : Nat → Int → (Sl Int) → (Sl Int)
  | 0 => fun _ _ => default
  | k + 1 => s73_st0 t (s73_lp0 t k)
def p73_lp0 (t : (Sl RangeRow)) : Nat → Int → (Sl Int) → Bool
  | 0 => fun _ _ => false
  | k + 1 => p73_st0 t (p73_lp0 t k)
def s73_at0 (t : (Sl RangeRow)) (iv0 : Int) (v8v0 : (Sl Int)) : (Sl Int) := s73_lp0 t Fuel iv0 v8v0
def p73_at0 (t : (Sl RangeRow)) (iv0 : Int) (v8v0 : (Sl Int)) : Bool := p73_lp0 t Fuel iv0 v8v0
theorem q73_at0 (K : List PA → Prop) (t : (Sl RangeRow)) (iv0 : Int) (v8v0 : (Sl Int)) (v8v0_g : Nat → List PV) (v8v0_h : v8v0_g = fun i => enc_3 (v8v0.get i)) (hs : p73_at0 t iv0 v8v0 = true) (hk : K (e73 (s73_at0 t iv0 v8v0))) : f73_at0 K t iv0 v8v0.len v8v0_g := by
  refine f73_loop0 K t iv0 v8v0.len v8v0_g ?_
  intro X0 hstep
  have key : ∀ (k : Nat) (iv0 : Int) (v8v0 : (Sl Int)) (v8v0_g : Nat → List PV) (v8v0_h : v8v0_g = fun i => enc_3 (v8v0.get i)), p73_lp0 t k iv0 v8v0 = true → K (e73 (s73_lp0 t k iv0 v8v0)) → X0 (f73_g0 t iv0 v8v0.len v8v0_g) := by
    intro k
    induction k with
    | zero => intro iv0 v8v0 v8v0_g v8v0_h hs; exact absurd hs Bool.false_ne_true
    | succ k ih =>
      intro iv0 v8v0 v8v0_g v8v0_h hs hk
      subst v8v0_h
      refine hstep iv0 v8v0 ?_
      have hs : p73_st0 t (p73_lp0 t k) iv0 v8v0 = true := hs
      have hk : K (e73 (s73_st0 t (s73_lp0 t k) iv0 v8v0)) := hk
      unfold p73_st0 at hs
      unfold s73_st0 at hk
      generalize s73_lp0 t k = S0 at hk ih
      generalize p73_lp0 t k = P0 at hs ih
      have hX0 := ih
      exact (condB_go (K := fun r => K (e73 r))
       (fun hs hk => (andK hs fun hc hs => ⟨hc, (andK hs fun hc hs => ⟨hc, (andK hs fun hc hs => ⟨hc, (hX0 (w64 (iv0 + (1:Int))) (⟨(v8v0.len + 2), (appT v8v0.len v8v0.get (getT (w64 ((t.get iv0.toNat).Range.Low + (1:Int))) [(w64 ((t.get iv0.toNat).Range.Low + (1:Int))), (w64 ((t.get iv0.toNat).Range.High + (1:Int)))]))⟩ : Sl Int) (appG v8v0.len (fun i => enc_3 (v8v0.get i)) (getL [(enc_3 (w64 ((t.get iv0.toNat).Range.Low + (1:Int)))), (enc_3 (w64 ((t.get iv0.toNat).Range.High + (1:Int))))])) (appG_e rfl (getL_enc (enc := enc_3) (x := (w64 ((t.get iv0.toNat).Range.Low + (1:Int)))) (y := (w64 ((t.get iv0.toNat).Range.High + (1:Int)))) (r := []))) hs hk)⟩)⟩)⟩))
       (fun hs hk => (q73_at1 K v8v0 (fun i => enc_3 (v8v0.get i)) rfl hs hk)) hs hk)
  exact key _ iv0 v8v0 v8v0_g v8v0_h hs hk
def s73 (t : (Sl RangeRow)) : (Sl Int) :=
  (s73_at0 t (0:Int) (⟨2, (getT (0:Int) [(0:Int), (1:Int)])⟩ : Sl Int))
def p73 (t : (Sl RangeRow)) : Bool :=
  (p73_at0 t (0:Int) (⟨2, (getT (0:Int) [(0:Int), (1:Int)])⟩ : Sl Int))
theorem q73 (t : (Sl RangeRow)) (K : List PA → Prop) (hs : p73 t = true) (hk : K (e73 (s73 t))) : vcFun Try.prog G73 ann73 73 [.one (.sl t.len 3 (fun i => enc_42 (t.get i)))] K := by
  refine ofEq (f73_top t K) ?_
  unfold p73 at hs
  unfold s73 at hk
  exact (q73_at0 K t (0:Int) (⟨2, (getT (0:Int) [(0:Int), (1:Int)])⟩ : Sl Int) (getL [(enc_3 (0:Int)), (enc_3 (1:Int))]) (getL_enc (enc := enc_3) (x := (0:Int)) (y := (1:Int)) (r := [])) hs hk)
def ctr73 : List PA → COut
  | [.one (.sl a0_n a0_s a0_g)] => .det (IsE enc_42 3 a0_s a0_g ∧ p73 (⟨a0_n, decF_42 a0_g⟩ : (Sl RangeRow)) = true) [.one (.sl ((s73 (⟨a0_n, decF_42 a0_g⟩ : (Sl RangeRow))).len) 1 (fun i => enc_3 ((s73 (⟨a0_n, decF_42 a0_g⟩ : (Sl RangeRow))).get i)))]
  | _ => .no
theorem call73 : Callable Try.prog 73 := ⟨_, rfl, rfl, by kernel_rfl⟩
theorem ok73 : Ok Try.prog 73 ctr73 := ok_tab okT73 call73 fun args K h => by
  unfold ctr73 at h
  split at h
  · rename_i a0_n a0_s a0_g
    obtain ⟨⟨⟨rfl, a0_f, rfl⟩, hs⟩, hk⟩ := h
    try rw [decF_enc_42 a0_f] at hs
    try rw [decF_enc_42 a0_f] at hk
    exact ⟨(fun _ _ => []), (fun _ => false), ann73, q73 (⟨a0_n, a0_f⟩ : (Sl RangeRow)) K hs hk⟩
  · exact h.elim
end Go.Proofs
namespace Go.Proofs
open Go Go.Pm
set_option maxRecDepth 100000
set_option linter.unusedVariables false
attribute [local irreducible] Go.Pm.vcFun Go.Pm.vc Go.Pm.vcIter
-- 35 flux.Factors
abbrev T35 : Tabs := (((Tabs.nil.addF 75 ctr75).addF 76 ctr76).addF 77 ctr77)
theorem okT35 : TabsOk Try.prog T35 := (((TabsOk.nil.addF ok75).addF ok76).addF ok77)
abbrev G35 : Ctrs := csm T35 (fun _ _ => []) (fun _ => false)
def ann35 : Ann := ⟨18, [(0, ⟨[2, 3, 4], [2, 3, 4], [], [], []⟩), (1, ⟨[2, 3, 4, 13], [2, 3, 4], [], [], []⟩), (2, ⟨[4, 5], [4], [], [], []⟩), (3, ⟨[4, 5], [4], [], [], []⟩)],
  [],
  [],
  [], []⟩
theorem f35_top (s : Sky) (w : Weather) (K : List PA → Prop) :
  vcFun Try.prog G35 ann35 35 [.agg [.int .i64 s.Parts, .sl s.Bins.len 1 (fun i => enc_32 (s.Bins.get i)), .int .i64 s.Beta.Low, .int .i64 s.Beta.High, .int .i64 s.Alpha.Low, .int .i64 s.Alpha.High], .agg [.int .i64 w.Pressure.Low, .int .i64 w.Pressure.High, .int .i64 w.Warm.Low, .int .i64 w.Warm.High]] K =
  ((IsE enc_32 1 1 (fun i => enc_32 (s.Bins.get i)) ∧ (p75 s = true)) ∧
  (condP (!(s75 s))
   (K [.agg [.int .i64 (0:Int), .int .i64 (0:Int)], .one (.int .i64 (2:Int))])
   (condP (!(s76 w))
    (K [.agg [.int .i64 (0:Int), .int .i64 (0:Int)], .one (.int .i64 (2:Int))])
    ((IsE enc_32 1 1 (fun i => enc_32 (s.Bins.get i)) ∧ (p77 s w = true)) ∧
    (K [.agg [.int .i64 ((s77 s w).Low), .int .i64 ((s77 s w).High)], .one (.int .i64 (0:Int))]))))) := by kernel_rfl
abbrev R35 := (Span × Int)
abbrev e35 (r : (Span × Int)) : List PA := [.agg [.int .i64 r.1.Low, .int .i64 r.1.High], .one (.int .i64 r.2)]
def s35 (s : Sky) (w : Weather) : (Span × Int) :=
  (cond (!(s75 s))
   ((⟨(0:Int), (0:Int)⟩ : Span), (2:Int))
   (cond (!(s76 w))
    ((⟨(0:Int), (0:Int)⟩ : Span), (2:Int))
    ((s77 s w), (0:Int))))
def p35 (s : Sky) (w : Weather) : Bool :=
  (decide ((p75 s = true)) &&
  (cond (!(s75 s))
   true
   (cond (!(s76 w))
    true
    (decide ((p77 s w = true)) &&
    true))))
attribute [local irreducible] s77
theorem q35 (s : Sky) (w : Weather) (K : List PA → Prop) (hs : p35 s w = true) (hk : K (e35 (s35 s w))) : vcFun Try.prog G35 ann35 35 [.agg [.int .i64 s.Parts, .sl s.Bins.len 1 (fun i => enc_32 (s.Bins.get i)), .int .i64 s.Beta.Low, .int .i64 s.Beta.High, .int .i64 s.Alpha.Low, .int .i64 s.Alpha.High], .agg [.int .i64 w.Pressure.Low, .int .i64 w.Pressure.High, .int .i64 w.Warm.Low, .int .i64 w.Warm.High]] K := by
  refine ofEq (f35_top s w K) ?_
  unfold p35 at hs
  unfold s35 at hk
  exact (andK hs fun hc hs => ⟨⟨isE, hc⟩, (condB_go (K := fun r => K (e35 r))
   (fun hs hk => hk)
   (fun hs hk => (condB_go (K := fun r => K (e35 r))
    (fun hs hk => hk)
    (fun hs hk => (andK hs fun hc hs => ⟨⟨isE, hc⟩, hk⟩)) hs hk)) hs hk)⟩)
def ctr35 : List PA → COut
  | [.agg [.int .i64 a0_Parts, .sl a0_Bins_n a0_Bins_s a0_Bins_g, .int .i64 a0_Beta_Low, .int .i64 a0_Beta_High, .int .i64 a0_Alpha_Low, .int .i64 a0_Alpha_High], .agg [.int .i64 a1_Pressure_Low, .int .i64 a1_Pressure_High, .int .i64 a1_Warm_Low, .int .i64 a1_Warm_High]] => .det (IsE enc_32 1 a0_Bins_s a0_Bins_g ∧ p35 (⟨a0_Parts, (⟨a0_Bins_n, decF_32 a0_Bins_g⟩ : (Sl (Sl FluxRow))), (⟨a0_Beta_Low, a0_Beta_High⟩ : Span), (⟨a0_Alpha_Low, a0_Alpha_High⟩ : Span)⟩ : Sky) (⟨(⟨a1_Pressure_Low, a1_Pressure_High⟩ : Span), (⟨a1_Warm_Low, a1_Warm_High⟩ : Span)⟩ : Weather) = true) [.agg [.int .i64 (((s35 (⟨a0_Parts, (⟨a0_Bins_n, decF_32 a0_Bins_g⟩ : (Sl (Sl FluxRow))), (⟨a0_Beta_Low, a0_Beta_High⟩ : Span), (⟨a0_Alpha_Low, a0_Alpha_High⟩ : Span)⟩ : Sky) (⟨(⟨a1_Pressure_Low, a1_Pressure_High⟩ : Span), (⟨a1_Warm_Low, a1_Warm_High⟩ : Span)⟩ : Weather)).1).Low), .int .i64 (((s35 (⟨a0_Parts, (⟨a0_Bins_n, decF_32 a0_Bins_g⟩ : (Sl (Sl FluxRow))), (⟨a0_Beta_Low, a0_Beta_High⟩ : Span), (⟨a0_Alpha_Low, a0_Alpha_High⟩ : Span)⟩ : Sky) (⟨(⟨a1_Pressure_Low, a1_Pressure_High⟩ : Span), (⟨a1_Warm_Low, a1_Warm_High⟩ : Span)⟩ : Weather)).1).High)], .one (.int .i64 ((s35 (⟨a0_Parts, (⟨a0_Bins_n, decF_32 a0_Bins_g⟩ : (Sl (Sl FluxRow))), (⟨a0_Beta_Low, a0_Beta_High⟩ : Span), (⟨a0_Alpha_Low, a0_Alpha_High⟩ : Span)⟩ : Sky) (⟨(⟨a1_Pressure_Low, a1_Pressure_High⟩ : Span), (⟨a1_Warm_Low, a1_Warm_High⟩ : Span)⟩ : Weather)).2))]
  | _ => .no
theorem call35 : Callable Try.prog 35 := ⟨_, rfl, rfl, by kernel_rfl⟩
theorem ok35 : Ok Try.prog 35 ctr35 := ok_tab okT35 call35 fun args K h => by
  unfold ctr35 at h
  split at h
  · rename_i a0_Parts a0_Bins_n a0_Bins_s a0_Bins_g a0_Beta_Low a0_Beta_High a0_Alpha_Low a0_Alpha_High a1_Pressure_Low a1_Pressure_High a1_Warm_Low a1_Warm_High
    obtain ⟨⟨⟨rfl, a0_Bins_f, rfl⟩, hs⟩, hk⟩ := h
    try rw [decF_enc_32 a0_Bins_f] at hs
    try rw [decF_enc_32 a0_Bins_f] at hk
    exact ⟨(fun _ _ => []), (fun _ => false), ann35, q35 (⟨a0_Parts, (⟨a0_Bins_n, a0_Bins_f⟩ : (Sl (Sl FluxRow))), (⟨a0_Beta_Low, a0_Beta_High⟩ : Span), (⟨a0_Alpha_Low, a0_Alpha_High⟩ : Span)⟩ : Sky) (⟨(⟨a1_Pressure_Low, a1_Pressure_High⟩ : Span), (⟨a1_Warm_Low, a1_Warm_High⟩ : Span)⟩ : Weather) K hs hk⟩
  · exact h.elim
end Go.Proofs
