/- Part 5 of what the proof rests on: a machine that runs functions of the program on pure values, proved sound; the functions that the law reaches, and what they compute. -/
import Derived.Test.YtpjoicpmbdaniaaQ4
namespace Go.Proofs
open Go Go.Pm
set_option maxRecDepth 100000
set_option linter.unusedVariables false
attribute [local irreducible] Go.Pm.vcFun Go.Pm.vc Go.Pm.vcIter
-- 61 overburdenlaw05.Table
abbrev T61 : Tabs := Tabs.nil
theorem okT61 : TabsOk Try.prog T61 := TabsOk.nil
abbrev G61 : Ctrs := csm T61 (fun _ _ => []) (fun _ => false)
def ann61 : Ann := ⟨8, [(0, ⟨[], [], [], [], []⟩), (1, ⟨[0], [7], [], [], []⟩)],
  [],
  [],
  [], []⟩
theorem f61_top (K : List PA → Prop) :
  vcFun Try.prog G61 ann61 61 [] K =
  (K [.one (.sl 3 3 (getL [(enc_42 (⟨(10:Int), (⟨(20:Int), (30:Int)⟩ : Span)⟩ : RangeRow)), (enc_42 (⟨(40:Int), (⟨(90:Int), (120:Int)⟩ : Span)⟩ : RangeRow)), (enc_42 (⟨(100:Int), (⟨(250:Int), (300:Int)⟩ : Span)⟩ : RangeRow))]))]) := by kernel_rfl
abbrev R61 := (Sl RangeRow)
abbrev e61 (r : (Sl RangeRow)) : List PA := [.one (.sl r.len 3 (fun i => enc_42 (r.get i)))]
def s61 : (Sl RangeRow) :=
  (⟨3, (getT (⟨(10:Int), (⟨(20:Int), (30:Int)⟩ : Span)⟩ : RangeRow) [(⟨(10:Int), (⟨(20:Int), (30:Int)⟩ : Span)⟩ : RangeRow), (⟨(40:Int), (⟨(90:Int), (120:Int)⟩ : Span)⟩ : RangeRow), (⟨(100:Int), (⟨(250:Int), (300:Int)⟩ : Span)⟩ : RangeRow)])⟩ : (Sl RangeRow))
theorem q61 (K : List PA → Prop) (hk : K (e61 (s61))) : vcFun Try.prog G61 ann61 61 [] K := by
  refine ofEq (f61_top K) ?_
  unfold s61 at hk
  exact (Eq.mpr (congrArg K (congrArg (fun (g_ : Nat → List PV) => ([.one (.sl 3 3 g_)] : List PA)) (getL_enc (enc := enc_42) (x := (⟨(10:Int), (⟨(20:Int), (30:Int)⟩ : Span)⟩ : RangeRow)) (y := (⟨(40:Int), (⟨(90:Int), (120:Int)⟩ : Span)⟩ : RangeRow)) (r := [(⟨(100:Int), (⟨(250:Int), (300:Int)⟩ : Span)⟩ : RangeRow)])))) hk)
def ctr61 : List PA → COut
  | [] => .tot [.one (.sl ((s61).len) 3 (fun i => enc_42 ((s61).get i)))]
  | _ => .no
theorem call61 : Callable Try.prog 61 := ⟨_, rfl, rfl, by kernel_rfl⟩
theorem ok61 : Ok Try.prog 61 ctr61 := ok_tab okT61 call61 fun args K h => by
  unfold ctr61 at h
  split at h
  · have hk := h
    exact ⟨(fun _ _ => []), (fun _ => false), ann61, q61 K hk⟩
  · exact h.elim
-- 18 overburdenlaw05.known
abbrev T18 : Tabs := (((((((((Tabs.nil.addF 19 ctr19).addF 20 ctr20).addF 23 ctr23).addF 25 ctr25).addF 26 ctr26).addF 33 ctr33).addF 34 ctr34).addF 60 ctr60).addF 61 ctr61)
theorem okT18 : TabsOk Try.prog T18 := (((((((((TabsOk.nil.addF ok19).addF ok20).addF ok23).addF ok25).addF ok26).addF ok33).addF ok34).addF ok60).addF ok61)
abbrev G18 : Ctrs := csm T18 (fun _ _ => []) (fun _ => false)
def ann18 : Ann := ⟨142, [(0, ⟨[], [], [], [], []⟩), (1, ⟨[1, 2], [1], [], [], []⟩), (2, ⟨[1, 2, 3, 4], [1, 3], [], [], []⟩), (3, ⟨[1, 2, 3, 4, 5, 6], [1, 3, 5], [], [], []⟩), (4, ⟨[1, 2, 3, 4, 5, 6, 7, 8], [1, 3, 5, 7], [], [], []⟩), (5, ⟨[1, 2, 3, 4, 5, 6, 7, 8, 9, 10], [1, 3, 5, 7, 9], [], [], []⟩), (6, ⟨[1, 2, 3, 4, 5, 6, 7, 8, 9, 10, 11, 12], [1, 3, 5, 7, 9], [], [], []⟩), (7, ⟨[3, 4, 5, 6, 7, 8, 9, 10, 11, 12, 13, 14], [3, 5, 7, 9, 13], [], [], []⟩), (8, ⟨[3, 5, 7, 9, 11, 13, 104], [3, 5, 7, 9, 13], [], [], []⟩), (9, ⟨[0], [], [], [], []⟩), (10, ⟨[0], [], [], [], []⟩)],
  [],
  [(2, ⟨[1, 2], [1], [], [], []⟩), (3, ⟨[1, 2, 3, 4], [1, 3], [], [], []⟩), (4, ⟨[1, 2, 3, 4, 5, 6], [1, 3, 5], [], [], []⟩), (5, ⟨[1, 2, 3, 4, 5, 6, 7, 8], [1, 3, 5, 7], [], [], []⟩), (6, ⟨[1, 2, 3, 4, 5, 6, 7, 8, 9, 10], [1, 3, 5, 7, 9], [], [], []⟩), (7, ⟨[1, 2, 3, 4, 5, 6, 7, 8, 9, 10, 11, 12], [1, 3, 5, 7, 9], [], [], []⟩), (8, ⟨[3, 4, 5, 6, 7, 8, 9, 10, 11, 12, 13, 14], [3, 5, 7, 9, 13], [], [], []⟩), (10, ⟨[3, 5, 7, 9, 11, 13], [3, 5, 7, 9, 13], [], [], []⟩)],
  [], []⟩
def f18_g0 (tv0_n : Nat) (tv0_g : Nat → List PV) (s_1v0_n : Nat) (s_1v0_g : Nat → List PV) : St := ⟨[(1, .one (.c (.ptr 1 0))), (2, .one (.c (.p (.sl tv0_n 3 tv0_g))))], [(1, .box 26 [.p (.int .i64 s60.Parts), .p (.sl s_1v0_n 1 s_1v0_g), .p (.int .i64 s60.Beta.Low), .p (.int .i64 s60.Beta.High), .p (.int .i64 s60.Alpha.Low), .p (.int .i64 s60.Alpha.High)])], []⟩
def f18_at0 (K : List PA → Prop) (tv0_n : Nat) (tv0_g : Nat → List PV) (s_1v0_n : Nat) (s_1v0_g : Nat → List PV) : Prop := vc Try.prog G18 ann18 (cdF Try.f18 [1, 1]) (bodyK Try.prog Try.f18 K) (f18_g0 tv0_n tv0_g s_1v0_n s_1v0_g)
def f18_g1 (tv0 : (Sl RangeRow)) (ev1 : Int) (s_1v1_n : Nat) (s_1v1_g : Nat → List PV) (a_0v1 : Int) (a_1v1 : Int) : St := ⟨[(1, .one (.c (.ptr 1 0))), (2, .one (.c (.p (.sl tv0.len 3 (fun i => enc_42 (tv0.get i)))))), (3, .one (.c (.ptr 3 0))), (4, .one (.c (.p (.int .i64 ev1))))], [(1, .box 26 [.p (.int .i64 s60.Parts), .p (.sl s_1v1_n 1 s_1v1_g), .p (.int .i64 s60.Beta.Low), .p (.int .i64 s60.Beta.High), .p (.int .i64 s60.Alpha.Low), .p (.int .i64 s60.Alpha.High)]), (3, .box 24 [.p (.int .i64 a_0v1), .p (.int .i64 a_1v1)])], []⟩
def f18_at1 (K : List PA → Prop) (tv0 : (Sl RangeRow)) (ev1 : Int) (s_1v1_n : Nat) (s_1v1_g : Nat → List PV) (a_0v1 : Int) (a_1v1 : Int) : Prop := vc Try.prog G18 ann18 (cdF Try.f18 [1, 1, 1]) (bodyK Try.prog Try.f18 K) (f18_g1 tv0 ev1 s_1v1_n s_1v1_g a_0v1 a_1v1)
def f18_g2 (tv0 : (Sl RangeRow)) (ev1 : Int) (a_0v1 : Int) (a_1v1 : Int) (fv2 : Int) (s_1v2_n : Nat) (s_1v2_g : Nat → List PV) (b_0v2 : Int) (b_1v2 : Int) : St := ⟨[(1, .one (.c (.ptr 1 0))), (2, .one (.c (.p (.sl tv0.len 3 (fun i => enc_42 (tv0.get i)))))), (3, .one (.c (.ptr 3 0))), (4, .one (.c (.p (.int .i64 ev1)))), (5, .one (.c (.ptr 5 0))), (6, .one (.c (.p (.int .i64 fv2))))], [(1, .box 26 [.p (.int .i64 s60.Parts), .p (.sl s_1v2_n 1 s_1v2_g), .p (.int .i64 s60.Beta.Low), .p (.int .i64 s60.Beta.High), .p (.int .i64 s60.Alpha.Low), .p (.int .i64 s60.Alpha.High)]), (3, .box 24 [.p (.int .i64 a_0v1), .p (.int .i64 a_1v1)]), (5, .box 24 [.p (.int .i64 b_0v2), .p (.int .i64 b_1v2)])], []⟩
def f18_at2 (K : List PA → Prop) (tv0 : (Sl RangeRow)) (ev1 : Int) (a_0v1 : Int) (a_1v1 : Int) (fv2 : Int) (s_1v2_n : Nat) (s_1v2_g : Nat → List PV) (b_0v2 : Int) (b_1v2 : Int) : Prop := vc Try.prog G18 ann18 (cdF Try.f18 [1, 1, 1, 1]) (bodyK Try.prog Try.f18 K) (f18_g2 tv0 ev1 a_0v1 a_1v1 fv2 s_1v2_n s_1v2_g b_0v2 b_1v2)
def f18_g3 (tv0 : (Sl RangeRow)) (ev1 : Int) (a_0v1 : Int) (a_1v1 : Int) (fv2 : Int) (b_0v2 : Int) (b_1v2 : Int) (gv3 : Int) (s_1v3_n : Nat) (s_1v3_g : Nat → List PV) (c_0v3 : Int) (c_1v3 : Int) : St := ⟨[(1, .one (.c (.ptr 1 0))), (2, .one (.c (.p (.sl tv0.len 3 (fun i => enc_42 (tv0.get i)))))), (3, .one (.c (.ptr 3 0))), (4, .one (.c (.p (.int .i64 ev1)))), (5, .one (.c (.ptr 5 0))), (6, .one (.c (.p (.int .i64 fv2)))), (7, .one (.c (.ptr 7 0))), (8, .one (.c (.p (.int .i64 gv3))))], [(1, .box 26 [.p (.int .i64 s60.Parts), .p (.sl s_1v3_n 1 s_1v3_g), .p (.int .i64 s60.Beta.Low), .p (.int .i64 s60.Beta.High), .p (.int .i64 s60.Alpha.Low), .p (.int .i64 s60.Alpha.High)]), (3, .box 24 [.p (.int .i64 a_0v1), .p (.int .i64 a_1v1)]), (5, .box 24 [.p (.int .i64 b_0v2), .p (.int .i64 b_1v2)]), (7, .box 24 [.p (.int .i64 c_0v3), .p (.int .i64 c_1v3)])], []⟩
def f18_at3 (K : List PA → Prop) (tv0 : (Sl RangeRow)) (ev1 : Int) (a_0v1 : Int) (a_1v1 : Int) (fv2 : Int) (b_0v2 : Int) (b_1v2 : Int) (gv3 : Int) (s_1v3_n : Nat) (s_1v3_g : Nat → List PV) (c_0v3 : Int) (c_1v3 : Int) : Prop := vc Try.prog G18 ann18 (cdF Try.f18 [1, 1, 1, 1, 1]) (bodyK Try.prog Try.f18 K) (f18_g3 tv0 ev1 a_0v1 a_1v1 fv2 b_0v2 b_1v2 gv3 s_1v3_n s_1v3_g c_0v3 c_1v3)
def f18_g4 (tv0 : (Sl RangeRow)) (ev1 : Int) (a_0v1 : Int) (a_1v1 : Int) (fv2 : Int) (b_0v2 : Int) (b_1v2 : Int) (gv3 : Int) (c_0v3 : Int) (c_1v3 : Int) (hv4 : Int) (s_1v4_n : Nat) (s_1v4_g : Nat → List PV) (d_0v4 : Int) (d_1v4 : Int) : St := ⟨[(1, .one (.c (.ptr 1 0))), (2, .one (.c (.p (.sl tv0.len 3 (fun i => enc_42 (tv0.get i)))))), (3, .one (.c (.ptr 3 0))), (4, .one (.c (.p (.int .i64 ev1)))), (5, .one (.c (.ptr 5 0))), (6, .one (.c (.p (.int .i64 fv2)))), (7, .one (.c (.ptr 7 0))), (8, .one (.c (.p (.int .i64 gv3)))), (9, .one (.c (.ptr 9 0))), (10, .one (.c (.p (.int .i64 hv4))))], [(1, .box 26 [.p (.int .i64 s60.Parts), .p (.sl s_1v4_n 1 s_1v4_g), .p (.int .i64 s60.Beta.Low), .p (.int .i64 s60.Beta.High), .p (.int .i64 s60.Alpha.Low), .p (.int .i64 s60.Alpha.High)]), (3, .box 24 [.p (.int .i64 a_0v1), .p (.int .i64 a_1v1)]), (5, .box 24 [.p (.int .i64 b_0v2), .p (.int .i64 b_1v2)]), (7, .box 24 [.p (.int .i64 c_0v3), .p (.int .i64 c_1v3)]), (9, .box 24 [.p (.int .i64 d_0v4), .p (.int .i64 d_1v4)])], []⟩
def f18_at4 (K : List PA → Prop) (tv0 : (Sl RangeRow)) (ev1 : Int) (a_0v1 : Int) (a_1v1 : Int) (fv2 : Int) (b_0v2 : Int) (b_1v2 : Int) (gv3 : Int) (c_0v3 : Int) (c_1v3 : Int) (hv4 : Int) (s_1v4_n : Nat) (s_1v4_g : Nat → List PV) (d_0v4 : Int) (d_1v4 : Int) : Prop := vc Try.prog G18 ann18 (cdF Try.f18 [1, 1, 1, 1, 1, 1]) (bodyK Try.prog Try.f18 K) (f18_g4 tv0 ev1 a_0v1 a_1v1 fv2 b_0v2 b_1v2 gv3 c_0v3 c_1v3 hv4 s_1v4_n s_1v4_g d_0v4 d_1v4)
def f18_g5 (tv0 : (Sl RangeRow)) (ev1 : Int) (a_0v1 : Int) (a_1v1 : Int) (fv2 : Int) (b_0v2 : Int) (b_1v2 : Int) (gv3 : Int) (c_0v3 : Int) (c_1v3 : Int) (hv4 : Int) (d_0v4 : Int) (d_1v4 : Int) (lv5_n : Nat) (lv5_g : Nat → List PV) (iv5 : Int) (s_1v5_n : Nat) (s_1v5_g : Nat → List PV) : St := ⟨[(1, .one (.c (.ptr 1 0))), (2, .one (.c (.p (.sl tv0.len 3 (fun i => enc_42 (tv0.get i)))))), (3, .one (.c (.ptr 3 0))), (4, .one (.c (.p (.int .i64 ev1)))), (5, .one (.c (.ptr 5 0))), (6, .one (.c (.p (.int .i64 fv2)))), (7, .one (.c (.ptr 7 0))), (8, .one (.c (.p (.int .i64 gv3)))), (9, .one (.c (.ptr 9 0))), (10, .one (.c (.p (.int .i64 hv4)))), (11, .one (.c (.p (.sl lv5_n 3 lv5_g)))), (12, .one (.c (.p (.int .i64 iv5))))], [(1, .box 26 [.p (.int .i64 s60.Parts), .p (.sl s_1v5_n 1 s_1v5_g), .p (.int .i64 s60.Beta.Low), .p (.int .i64 s60.Beta.High), .p (.int .i64 s60.Alpha.Low), .p (.int .i64 s60.Alpha.High)]), (3, .box 24 [.p (.int .i64 a_0v1), .p (.int .i64 a_1v1)]), (5, .box 24 [.p (.int .i64 b_0v2), .p (.int .i64 b_1v2)]), (7, .box 24 [.p (.int .i64 c_0v3), .p (.int .i64 c_1v3)]), (9, .box 24 [.p (.int .i64 d_0v4), .p (.int .i64 d_1v4)])], []⟩
def f18_at5 (K : List PA → Prop) (tv0 : (Sl RangeRow)) (ev1 : Int) (a_0v1 : Int) (a_1v1 : Int) (fv2 : Int) (b_0v2 : Int) (b_1v2 : Int) (gv3 : Int) (c_0v3 : Int) (c_1v3 : Int) (hv4 : Int) (d_0v4 : Int) (d_1v4 : Int) (lv5_n : Nat) (lv5_g : Nat → List PV) (iv5 : Int) (s_1v5_n : Nat) (s_1v5_g : Nat → List PV) : Prop := vc Try.prog G18 ann18 (cdF Try.f18 [1, 1, 1, 1, 1, 1, 1]) (bodyK Try.prog Try.f18 K) (f18_g5 tv0 ev1 a_0v1 a_1v1 fv2 b_0v2 b_1v2 gv3 c_0v3 c_1v3 hv4 d_0v4 d_1v4 lv5_n lv5_g iv5 s_1v5_n s_1v5_g)
def f18_g6 (ev1 : Int) (a_0v1 : Int) (a_1v1 : Int) (fv2 : Int) (b_0v2 : Int) (b_1v2 : Int) (gv3 : Int) (c_0v3 : Int) (c_1v3 : Int) (hv4 : Int) (d_0v4 : Int) (d_1v4 : Int) (lv5 : (Sl FluxStep)) (iv5 : Int) (jv6 : Int) (x_0v6 : Int) (x_1v6_n : Nat) (x_1v6_g : Nat → List PV) (x_2v6 : Int) (x_3v6 : Int) (x_4v6 : Int) (x_5v6 : Int) : St := ⟨[(3, .one (.c (.ptr 3 0))), (4, .one (.c (.p (.int .i64 ev1)))), (5, .one (.c (.ptr 5 0))), (6, .one (.c (.p (.int .i64 fv2)))), (7, .one (.c (.ptr 7 0))), (8, .one (.c (.p (.int .i64 gv3)))), (9, .one (.c (.ptr 9 0))), (10, .one (.c (.p (.int .i64 hv4)))), (11, .one (.c (.p (.sl lv5.len 3 (fun i => enc_69 (lv5.get i)))))), (12, .one (.c (.p (.int .i64 iv5)))), (13, .one (.c (.ptr 13 0))), (14, .one (.c (.p (.int .i64 jv6))))], [(3, .box 24 [.p (.int .i64 a_0v1), .p (.int .i64 a_1v1)]), (5, .box 24 [.p (.int .i64 b_0v2), .p (.int .i64 b_1v2)]), (7, .box 24 [.p (.int .i64 c_0v3), .p (.int .i64 c_1v3)]), (9, .box 24 [.p (.int .i64 d_0v4), .p (.int .i64 d_1v4)]), (13, .box 26 [.p (.int .i64 x_0v6), .p (.sl x_1v6_n 1 x_1v6_g), .p (.int .i64 x_2v6), .p (.int .i64 x_3v6), .p (.int .i64 x_4v6), .p (.int .i64 x_5v6)])], []⟩
def f18_at6 (K : List PA → Prop) (ev1 : Int) (a_0v1 : Int) (a_1v1 : Int) (fv2 : Int) (b_0v2 : Int) (b_1v2 : Int) (gv3 : Int) (c_0v3 : Int) (c_1v3 : Int) (hv4 : Int) (d_0v4 : Int) (d_1v4 : Int) (lv5 : (Sl FluxStep)) (iv5 : Int) (jv6 : Int) (x_0v6 : Int) (x_1v6_n : Nat) (x_1v6_g : Nat → List PV) (x_2v6 : Int) (x_3v6 : Int) (x_4v6 : Int) (x_5v6 : Int) : Prop := vc Try.prog G18 ann18 (cdF Try.f18 [1, 1, 1, 1, 1, 1, 1, 1]) (bodyK Try.prog Try.f18 K) (f18_g6 ev1 a_0v1 a_1v1 fv2 b_0v2 b_1v2 gv3 c_0v3 c_1v3 hv4 d_0v4 d_1v4 lv5 iv5 jv6 x_0v6 x_1v6_n x_1v6_g x_2v6 x_3v6 x_4v6 x_5v6)
def f18_g7 (a_0v1 : Int) (a_1v1 : Int) (b_0v2 : Int) (b_1v2 : Int) (c_0v3 : Int) (c_1v3 : Int) (d_0v4 : Int) (d_1v4 : Int) (lv5 : (Sl FluxStep)) (x_0v6 : Int) (x_1v6 : (Sl (Sl FluxRow))) (x_2v6 : Int) (x_3v6 : Int) (x_4v6 : Int) (x_5v6 : Int) : St := ⟨[(3, .one (.c (.ptr 3 0))), (5, .one (.c (.ptr 5 0))), (7, .one (.c (.ptr 7 0))), (9, .one (.c (.ptr 9 0))), (11, .one (.c (.p (.sl lv5.len 3 (fun i => enc_69 (lv5.get i)))))), (13, .one (.c (.ptr 13 0)))], [(3, .box 24 [.p (.int .i64 a_0v1), .p (.int .i64 a_1v1)]), (5, .box 24 [.p (.int .i64 b_0v2), .p (.int .i64 b_1v2)]), (7, .box 24 [.p (.int .i64 c_0v3), .p (.int .i64 c_1v3)]), (9, .box 24 [.p (.int .i64 d_0v4), .p (.int .i64 d_1v4)]), (13, .box 26 [.p (.int .i64 x_0v6), .p (.sl x_1v6.len 1 (fun i => enc_32 (x_1v6.get i))), .p (.int .i64 x_2v6), .p (.int .i64 x_3v6), .p (.int .i64 x_4v6), .p (.int .i64 x_5v6)])], []⟩
def f18_at7 (K : List PA → Prop) (a_0v1 : Int) (a_1v1 : Int) (b_0v2 : Int) (b_1v2 : Int) (c_0v3 : Int) (c_1v3 : Int) (d_0v4 : Int) (d_1v4 : Int) (lv5 : (Sl FluxStep)) (x_0v6 : Int) (x_1v6 : (Sl (Sl FluxRow))) (x_2v6 : Int) (x_3v6 : Int) (x_4v6 : Int) (x_5v6 : Int) : Prop := vc Try.prog G18 ann18 (cdF Try.f18 [1, 1, 1, 1, 1, 1, 1, 1, 1]) (bodyK Try.prog Try.f18 K) (f18_g7 a_0v1 a_1v1 b_0v2 b_1v2 c_0v3 c_1v3 d_0v4 d_1v4 lv5 x_0v6 x_1v6 x_2v6 x_3v6 x_4v6 x_5v6)
theorem f18_top (K : List PA → Prop) :
  vcFun Try.prog G18 ann18 18 [] K =
  (f18_at0 K s61.len (fun i => enc_42 (s61.get i)) s60.Bins.len (fun i => enc_32 (s60.Bins.get i))) := by kernel_rfl
theorem f18_eq0 (K : List PA → Prop) (tv0 : (Sl RangeRow)) (s_1v0 : (Sl (Sl FluxRow))) :
  f18_at0 K tv0.len (fun i => enc_42 (tv0.get i)) s_1v0.len (fun i => enc_32 (s_1v0.get i)) =
  ((IsE enc_42 3 3 (fun i => enc_42 (tv0.get i)) ∧ (p19 tv0 (100:Int) = true)) ∧
  (f18_at1 K tv0 ((s19 tv0 (100:Int)).2) s_1v0.len (fun i => enc_32 (s_1v0.get i)) (((s19 tv0 (100:Int)).1).Low) (((s19 tv0 (100:Int)).1).High))) := by kernel_rfl
theorem f18_eq1 (K : List PA → Prop) (tv0 : (Sl RangeRow)) (ev1 : Int) (s_1v1 : (Sl (Sl FluxRow))) (a_0v1 : Int) (a_1v1 : Int) :
  f18_at1 K tv0 ev1 s_1v1.len (fun i => enc_32 (s_1v1.get i)) a_0v1 a_1v1 =
  ((IsE enc_32 1 1 (fun i => enc_32 (s_1v1.get i)) ∧ IsE enc_42 3 3 (fun i => enc_42 (tv0.get i)) ∧ (p20 (⟨s60.Parts, s_1v1, s60.Beta, s60.Alpha⟩ : Sky) tv0 (0:Int) (280:Int) = true)) ∧
  (f18_at2 K tv0 ev1 a_0v1 a_1v1 ((s20 (⟨s60.Parts, s_1v1, s60.Beta, s60.Alpha⟩ : Sky) tv0 (0:Int) (280:Int)).2) s_1v1.len (fun i => enc_32 (s_1v1.get i)) (((s20 (⟨s60.Parts, s_1v1, s60.Beta, s60.Alpha⟩ : Sky) tv0 (0:Int) (280:Int)).1).Low) (((s20 (⟨s60.Parts, s_1v1, s60.Beta, s60.Alpha⟩ : Sky) tv0 (0:Int) (280:Int)).1).High))) := by kernel_rfl
theorem f18_eq2 (K : List PA → Prop) (tv0 : (Sl RangeRow)) (ev1 : Int) (a_0v1 : Int) (a_1v1 : Int) (fv2 : Int) (s_1v2 : (Sl (Sl FluxRow))) (b_0v2 : Int) (b_1v2 : Int) :
  f18_at2 K tv0 ev1 a_0v1 a_1v1 fv2 s_1v2.len (fun i => enc_32 (s_1v2.get i)) b_0v2 b_1v2 =
  ((IsE enc_32 1 1 (fun i => enc_32 (s_1v2.get i)) ∧ IsE enc_42 3 3 (fun i => enc_42 (tv0.get i)) ∧ IsE enc_56 5 5 (getL [(enc_56 (s34 (3:Int))), (enc_56 (⟨(1:Int), (⟨(⟨(-10:Int), (20:Int)⟩ : Span), (⟨(0:Int), (5:Int)⟩ : Span)⟩ : Weather)⟩ : Spell))]) ∧ (p23 (⟨s60.Parts, s_1v2, s60.Beta, s60.Alpha⟩ : Sky) tv0 (0:Int) (100:Int) (⟨2, decF_56 (getL [(enc_56 (s34 (3:Int))), (enc_56 (⟨(1:Int), (⟨(⟨(-10:Int), (20:Int)⟩ : Span), (⟨(0:Int), (5:Int)⟩ : Span)⟩ : Weather)⟩ : Spell))])⟩ : (Sl Spell)) = true)) ∧
  (f18_at3 K tv0 ev1 a_0v1 a_1v1 fv2 b_0v2 b_1v2 ((s23 (⟨s60.Parts, s_1v2, s60.Beta, s60.Alpha⟩ : Sky) tv0 (0:Int) (100:Int) (⟨2, decF_56 (getL [(enc_56 (s34 (3:Int))), (enc_56 (⟨(1:Int), (⟨(⟨(-10:Int), (20:Int)⟩ : Span), (⟨(0:Int), (5:Int)⟩ : Span)⟩ : Weather)⟩ : Spell))])⟩ : (Sl Spell))).2) s_1v2.len (fun i => enc_32 (s_1v2.get i)) (((s23 (⟨s60.Parts, s_1v2, s60.Beta, s60.Alpha⟩ : Sky) tv0 (0:Int) (100:Int) (⟨2, decF_56 (getL [(enc_56 (s34 (3:Int))), (enc_56 (⟨(1:Int), (⟨(⟨(-10:Int), (20:Int)⟩ : Span), (⟨(0:Int), (5:Int)⟩ : Span)⟩ : Weather)⟩ : Spell))])⟩ : (Sl Spell))).1).Low) (((s23 (⟨s60.Parts, s_1v2, s60.Beta, s60.Alpha⟩ : Sky) tv0 (0:Int) (100:Int) (⟨2, decF_56 (getL [(enc_56 (s34 (3:Int))), (enc_56 (⟨(1:Int), (⟨(⟨(-10:Int), (20:Int)⟩ : Span), (⟨(0:Int), (5:Int)⟩ : Span)⟩ : Weather)⟩ : Spell))])⟩ : (Sl Spell))).1).High))) := by kernel_rfl
theorem f18_eq3 (K : List PA → Prop) (tv0 : (Sl RangeRow)) (ev1 : Int) (a_0v1 : Int) (a_1v1 : Int) (fv2 : Int) (b_0v2 : Int) (b_1v2 : Int) (gv3 : Int) (s_1v3 : (Sl (Sl FluxRow))) (c_0v3 : Int) (c_1v3 : Int) :
  f18_at3 K tv0 ev1 a_0v1 a_1v1 fv2 b_0v2 b_1v2 gv3 s_1v3.len (fun i => enc_32 (s_1v3.get i)) c_0v3 c_1v3 =
  ((IsE enc_32 1 1 (fun i => enc_32 (s_1v3.get i)) ∧ IsE enc_42 3 3 (fun i => enc_42 (tv0.get i)) ∧ IsE enc_56 5 5 (fun _ => (enc_56 (s34 (1:Int)))) ∧ (p25 (⟨s60.Parts, s_1v3, s60.Beta, s60.Alpha⟩ : Sky) tv0 (0:Int) (⟨(261:Int), (270:Int)⟩ : Span) (⟨1, fun _ => (s34 (1:Int))⟩ : (Sl Spell)) = true)) ∧
  (f18_at4 K tv0 ev1 a_0v1 a_1v1 fv2 b_0v2 b_1v2 gv3 c_0v3 c_1v3 ((s25 (⟨s60.Parts, s_1v3, s60.Beta, s60.Alpha⟩ : Sky) tv0 (0:Int) (⟨(261:Int), (270:Int)⟩ : Span) (⟨1, fun _ => (s34 (1:Int))⟩ : (Sl Spell))).2) s_1v3.len (fun i => enc_32 (s_1v3.get i)) (((s25 (⟨s60.Parts, s_1v3, s60.Beta, s60.Alpha⟩ : Sky) tv0 (0:Int) (⟨(261:Int), (270:Int)⟩ : Span) (⟨1, fun _ => (s34 (1:Int))⟩ : (Sl Spell))).1).Low) (((s25 (⟨s60.Parts, s_1v3, s60.Beta, s60.Alpha⟩ : Sky) tv0 (0:Int) (⟨(261:Int), (270:Int)⟩ : Span) (⟨1, fun _ => (s34 (1:Int))⟩ : (Sl Spell))).1).High))) := by kernel_rfl
theorem f18_eq4 (K : List PA → Prop) (tv0 : (Sl RangeRow)) (ev1 : Int) (a_0v1 : Int) (a_1v1 : Int) (fv2 : Int) (b_0v2 : Int) (b_1v2 : Int) (gv3 : Int) (c_0v3 : Int) (c_1v3 : Int) (hv4 : Int) (s_1v4 : (Sl (Sl FluxRow))) (d_0v4 : Int) (d_1v4 : Int) :
  f18_at4 K tv0 ev1 a_0v1 a_1v1 fv2 b_0v2 b_1v2 gv3 c_0v3 c_1v3 hv4 s_1v4.len (fun i => enc_32 (s_1v4.get i)) d_0v4 d_1v4 =
  ((IsE enc_32 1 1 (fun i => enc_32 (s_1v4.get i)) ∧ IsE enc_42 3 3 (fun i => enc_42 (tv0.get i)) ∧ IsE enc_56 5 5 (fun _ => (enc_56 (s34 (1:Int)))) ∧ (p26 (⟨s60.Parts, s_1v4, s60.Beta, s60.Alpha⟩ : Sky) tv0 (0:Int) (⟨1, fun _ => (s34 (1:Int))⟩ : (Sl Spell)) = true)) ∧
  (f18_at5 K tv0 ev1 a_0v1 a_1v1 fv2 b_0v2 b_1v2 gv3 c_0v3 c_1v3 hv4 d_0v4 d_1v4 (((s26 (⟨s60.Parts, s_1v4, s60.Beta, s60.Alpha⟩ : Sky) tv0 (0:Int) (⟨1, fun _ => (s34 (1:Int))⟩ : (Sl Spell))).1).len) (fun i => enc_69 (((s26 (⟨s60.Parts, s_1v4, s60.Beta, s60.Alpha⟩ : Sky) tv0 (0:Int) (⟨1, fun _ => (s34 (1:Int))⟩ : (Sl Spell))).1).get i)) ((s26 (⟨s60.Parts, s_1v4, s60.Beta, s60.Alpha⟩ : Sky) tv0 (0:Int) (⟨1, fun _ => (s34 (1:Int))⟩ : (Sl Spell))).2) s_1v4.len (fun i => enc_32 (s_1v4.get i)))) := by kernel_rfl
theorem f18_eq5 (K : List PA → Prop) (tv0 : (Sl RangeRow)) (ev1 : Int) (a_0v1 : Int) (a_1v1 : Int) (fv2 : Int) (b_0v2 : Int) (b_1v2 : Int) (gv3 : Int) (c_0v3 : Int) (c_1v3 : Int) (hv4 : Int) (d_0v4 : Int) (d_1v4 : Int) (lv5 : (Sl FluxStep)) (iv5 : Int) (s_1v5 : (Sl (Sl FluxRow))) :
  f18_at5 K tv0 ev1 a_0v1 a_1v1 fv2 b_0v2 b_1v2 gv3 c_0v3 c_1v3 hv4 d_0v4 d_1v4 lv5.len (fun i => enc_69 (lv5.get i)) iv5 s_1v5.len (fun i => enc_32 (s_1v5.get i)) =
  ((IsE enc_32 1 1 (fun i => enc_32 (s_1v5.get i)) ∧ IsE enc_42 3 3 (fun i => enc_42 (tv0.get i)) ∧ (p33 (⟨s60.Parts, s_1v5, s60.Beta, s60.Alpha⟩ : Sky) tv0 (0:Int) (100:Int) (⟨(10:Int), (25:Int)⟩ : Span) = true)) ∧
  (f18_at6 K ev1 a_0v1 a_1v1 fv2 b_0v2 b_1v2 gv3 c_0v3 c_1v3 hv4 d_0v4 d_1v4 lv5 iv5 ((s33 (⟨s60.Parts, s_1v5, s60.Beta, s60.Alpha⟩ : Sky) tv0 (0:Int) (100:Int) (⟨(10:Int), (25:Int)⟩ : Span)).2) (((s33 (⟨s60.Parts, s_1v5, s60.Beta, s60.Alpha⟩ : Sky) tv0 (0:Int) (100:Int) (⟨(10:Int), (25:Int)⟩ : Span)).1).Parts) (((s33 (⟨s60.Parts, s_1v5, s60.Beta, s60.Alpha⟩ : Sky) tv0 (0:Int) (100:Int) (⟨(10:Int), (25:Int)⟩ : Span)).1).Bins.len) (fun i => enc_32 (((s33 (⟨s60.Parts, s_1v5, s60.Beta, s60.Alpha⟩ : Sky) tv0 (0:Int) (100:Int) (⟨(10:Int), (25:Int)⟩ : Span)).1).Bins.get i)) (((s33 (⟨s60.Parts, s_1v5, s60.Beta, s60.Alpha⟩ : Sky) tv0 (0:Int) (100:Int) (⟨(10:Int), (25:Int)⟩ : Span)).1).Beta.Low) (((s33 (⟨s60.Parts, s_1v5, s60.Beta, s60.Alpha⟩ : Sky) tv0 (0:Int) (100:Int) (⟨(10:Int), (25:Int)⟩ : Span)).1).Beta.High) (((s33 (⟨s60.Parts, s_1v5, s60.Beta, s60.Alpha⟩ : Sky) tv0 (0:Int) (100:Int) (⟨(10:Int), (25:Int)⟩ : Span)).1).Alpha.Low) (((s33 (⟨s60.Parts, s_1v5, s60.Beta, s60.Alpha⟩ : Sky) tv0 (0:Int) (100:Int) (⟨(10:Int), (25:Int)⟩ : Span)).1).Alpha.High))) := by kernel_rfl
theorem f18_eq6 (K : List PA → Prop) (ev1 : Int) (a_0v1 : Int) (a_1v1 : Int) (fv2 : Int) (b_0v2 : Int) (b_1v2 : Int) (gv3 : Int) (c_0v3 : Int) (c_1v3 : Int) (hv4 : Int) (d_0v4 : Int) (d_1v4 : Int) (lv5 : (Sl FluxStep)) (iv5 : Int) (jv6 : Int) (x_0v6 : Int) (x_1v6 : (Sl (Sl FluxRow))) (x_2v6 : Int) (x_3v6 : Int) (x_4v6 : Int) (x_5v6 : Int) :
  f18_at6 K ev1 a_0v1 a_1v1 fv2 b_0v2 b_1v2 gv3 c_0v3 c_1v3 hv4 d_0v4 d_1v4 lv5 iv5 jv6 x_0v6 x_1v6.len (fun i => enc_32 (x_1v6.get i)) x_2v6 x_3v6 x_4v6 x_5v6 =
  (condP (ev1 != (0:Int))
   (K [.one (.bool false)])
   (condP (fv2 != (0:Int))
    (K [.one (.bool false)])
    (condP (gv3 != (0:Int))
     (K [.one (.bool false)])
     (condP (hv4 != (0:Int))
      (K [.one (.bool false)])
      (condP (iv5 != (0:Int))
       (K [.one (.bool false)])
       (condP (jv6 != (0:Int))
        (K [.one (.bool false)])
        (condP ((lv5.len : Int) != (7:Int))
         (K [.one (.bool false)])
         (condP ((x_1v6.len : Int) != (1:Int))
          (K [.one (.bool false)])
          (((0 ≤ (0:Int) ∧ (0:Int) < (x_1v6.len : Int))) ∧
          (condP (((x_1v6.get 0).len : Int) != (4:Int))
           (K [.one (.bool false)])
           (f18_at7 K a_0v1 a_1v1 b_0v2 b_1v2 c_0v3 c_1v3 d_0v4 d_1v4 lv5 x_0v6 x_1v6 x_2v6 x_3v6 x_4v6 x_5v6))))))))))) := by kernel_rfl
theorem f18_eq7 (K : List PA → Prop) (a_0v1 : Int) (a_1v1 : Int) (b_0v2 : Int) (b_1v2 : Int) (c_0v3 : Int) (c_1v3 : Int) (d_0v4 : Int) (d_1v4 : Int) (lv5 : (Sl FluxStep)) (x_0v6 : Int) (x_1v6 : (Sl (Sl FluxRow))) (x_2v6 : Int) (x_3v6 : Int) (x_4v6 : Int) (x_5v6 : Int) :
  f18_at7 K a_0v1 a_1v1 b_0v2 b_1v2 c_0v3 c_1v3 d_0v4 d_1v4 lv5 x_0v6 x_1v6 x_2v6 x_3v6 x_4v6 x_5v6 =
  (condP (match (a_0v1 == (11:Int)) with | true => (match (a_1v1 == (100:Int)) with | true => true | false => false) | false => false)
   (condP (match (b_0v2 == (0:Int)) with | true => (match (b_1v2 == (260:Int)) with | true => true | false => false) | false => false)
    (condP (match (c_0v3 == (19:Int)) with | true => (match (c_1v3 == (505:Int)) with | true => true | false => false) | false => false)
     (condP (match (d_0v4 == (1:Int)) with | true => (match (d_1v4 == (120:Int)) with | true => true | false => false) | false => false)
      (((0 ≤ (4:Int) ∧ (4:Int) < (lv5.len : Int))) ∧
      (condP (match ((lv5.get 4).From == (121:Int)) with | true => (match (match ((lv5.get 4).Rate.Low == (20:Int)) with | true => (match ((lv5.get 4).Rate.High == (260:Int)) with | true => true | false => false) | false => false) with | true => true | false => false) | false => false)
       (((0 ≤ (0:Int) ∧ (0:Int) < (x_1v6.len : Int))) ∧
       (((0 ≤ (3:Int) ∧ (3:Int) < ((x_1v6.get 0).len : Int))) ∧
       (K [.one (.bool (match (((x_1v6.get 0).get 3).Rate.Low == (20:Int)) with | true => (match (((x_1v6.get 0).get 3).Rate.High == (25:Int)) with | true => true | false => false) | false => false))])))
       (K [.one (.bool false)])))
      (K [.one (.bool false)]))
     (K [.one (.bool false)]))
    (K [.one (.bool false)]))
   (K [.one (.bool false)])) := by kernel_rfl
abbrev R18 := Bool
abbrev e18 (r : Bool) : List PA := [.one (.bool r)]
attribute [irreducible] f18_at0 f18_at1 f18_at2 f18_at3 f18_at4 f18_at5 f18_at6 f18_at7
def s18_at7 (a_0v1 : Int) (a_1v1 : Int) (b_0v2 : Int) (b_1v2 : Int) (c_0v3 : Int) (c_1v3 : Int) (d_0v4 : Int) (d_1v4 : Int) (lv5 : (Sl FluxStep)) (x_0v6 : Int) (x_1v6 : (Sl (Sl FluxRow))) (x_2v6 : Int) (x_3v6 : Int) (x_4v6 : Int) (x_5v6 : Int) : Bool :=
  (cond (match (a_0v1 == (11:Int)) with | true => (match (a_1v1 == (100:Int)) with | true => true | false => false) | false => false)
   (cond (match (b_0v2 == (0:Int)) with | true => (match (b_1v2 == (260:Int)) with | true => true | false => false) | false => false)
    (cond (match (c_0v3 == (19:Int)) with | true => (match (c_1v3 == (505:Int)) with | true => true | false => false) | false => false)
     (cond (match (d_0v4 == (1:Int)) with | true => (match (d_1v4 == (120:Int)) with | true => true | false => false) | false => false)
      (cond (match ((lv5.get 4).From == (121:Int)) with | true => (match (match ((lv5.get 4).Rate.Low == (20:Int)) with | true => (match ((lv5.get 4).Rate.High == (260:Int)) with | true => true | false => false) | false => false) with | true => true | false => false) | false => false)
       (match (((x_1v6.get 0).get 3).Rate.Low == (20:Int)) with | true => (match (((x_1v6.get 0).get 3).Rate.High == (25:Int)) with | true => true | false => false) | false => false)
       false)
      false)
     false)
    false)
   false)
def p18_at7 (a_0v1 : Int) (a_1v1 : Int) (b_0v2 : Int) (b_1v2 : Int) (c_0v3 : Int) (c_1v3 : Int) (d_0v4 : Int) (d_1v4 : Int) (lv5 : (Sl FluxStep)) (x_0v6 : Int) (x_1v6 : (Sl (Sl FluxRow))) (x_2v6 : Int) (x_3v6 : Int) (x_4v6 : Int) (x_5v6 : Int) : Bool :=
  (cond (match (a_0v1 == (11:Int)) with | true => (match (a_1v1 == (100:Int)) with | true => true | false => false) | false => false)
   (cond (match (b_0v2 == (0:Int)) with | true => (match (b_1v2 == (260:Int)) with | true => true | false => false) | false => false)
    (cond (match (c_0v3 == (19:Int)) with | true => (match (c_1v3 == (505:Int)) with | true => true | false => false) | false => false)
     (cond (match (d_0v4 == (1:Int)) with | true => (match (d_1v4 == (120:Int)) with | true => true | false => false) | false => false)
      (decide ((0 ≤ (4:Int) ∧ (4:Int) < (lv5.len : Int))) &&
      (cond (match ((lv5.get 4).From == (121:Int)) with | true => (match (match ((lv5.get 4).Rate.Low == (20:Int)) with | true => (match ((lv5.get 4).Rate.High == (260:Int)) with | true => true | false => false) | false => false) with | true => true | false => false) | false => false)
       (decide ((0 ≤ (0:Int) ∧ (0:Int) < (x_1v6.len : Int))) &&
       (decide ((0 ≤ (3:Int) ∧ (3:Int) < ((x_1v6.get 0).len : Int))) &&
       true))
       true))
      true)
     true)
    true)
   true)
theorem q18_at7 (K : List PA → Prop) (a_0v1 : Int) (a_1v1 : Int) (b_0v2 : Int) (b_1v2 : Int) (c_0v3 : Int) (c_1v3 : Int) (d_0v4 : Int) (d_1v4 : Int) (lv5 : (Sl FluxStep)) (x_0v6 : Int) (x_1v6 : (Sl (Sl FluxRow))) (x_2v6 : Int) (x_3v6 : Int) (x_4v6 : Int) (x_5v6 : Int) (hs : p18_at7 a_0v1 a_1v1 b_0v2 b_1v2 c_0v3 c_1v3 d_0v4 d_1v4 lv5 x_0v6 x_1v6 x_2v6 x_3v6 x_4v6 x_5v6 = true) (hk : K (e18 (s18_at7 a_0v1 a_1v1 b_0v2 b_1v2 c_0v3 c_1v3 d_0v4 d_1v4 lv5 x_0v6 x_1v6 x_2v6 x_3v6 x_4v6 x_5v6))) : f18_at7 K a_0v1 a_1v1 b_0v2 b_1v2 c_0v3 c_1v3 d_0v4 d_1v4 lv5 x_0v6 x_1v6 x_2v6 x_3v6 x_4v6 x_5v6 := by
  refine ofEq (f18_eq7 K a_0v1 a_1v1 b_0v2 b_1v2 c_0v3 c_1v3 d_0v4 d_1v4 lv5 x_0v6 x_1v6 x_2v6 x_3v6 x_4v6 x_5v6) ?_
  unfold p18_at7 at hs
  unfold s18_at7 at hk
  exact (condB_go (K := fun r => K (e18 r))
   (fun hs hk => (condB_go (K := fun r => K (e18 r))
    (fun hs hk => (condB_go (K := fun r => K (e18 r))
     (fun hs hk => (condB_go (K := fun r => K (e18 r))
      (fun hs hk => (andK hs fun hc hs => ⟨hc, (condB_go (K := fun r => K (e18 r))
       (fun hs hk => (andK hs fun hc hs => ⟨hc, (andK hs fun hc hs => ⟨hc, hk⟩)⟩))
       (fun hs hk => hk) hs hk)⟩))
      (fun hs hk => hk) hs hk))
     (fun hs hk => hk) hs hk))
    (fun hs hk => hk) hs hk))
   (fun hs hk => hk) hs hk)
def s18_at6 (ev1 : Int) (a_0v1 : Int) (a_1v1 : Int) (fv2 : Int) (b_0v2 : Int) (b_1v2 : Int) (gv3 : Int) (c_0v3 : Int) (c_1v3 : Int) (hv4 : Int) (d_0v4 : Int) (d_1v4 : Int) (lv5 : (Sl FluxStep)) (iv5 : Int) (jv6 : Int) (x_0v6 : Int) (x_1v6 : (Sl (Sl FluxRow))) (x_2v6 : Int) (x_3v6 : Int) (x_4v6 : Int) (x_5v6 : Int) : Bool :=
  (cond (ev1 != (0:Int))
   false
   (cond (fv2 != (0:Int))
    false
    (cond (gv3 != (0:Int))
     false
     (cond (hv4 != (0:Int))
      false
      (cond (iv5 != (0:Int))
       false
       (cond (jv6 != (0:Int))
        false
        (cond ((lv5.len : Int) != (7:Int))
         false
         (cond ((x_1v6.len : Int) != (1:Int))
          false
          (cond (((x_1v6.get 0).len : Int) != (4:Int))
           false
           (s18_at7 a_0v1 a_1v1 b_0v2 b_1v2 c_0v3 c_1v3 d_0v4 d_1v4 lv5 x_0v6 x_1v6 x_2v6 x_3v6 x_4v6 x_5v6))))))))))
def p18_at6 (ev1 : Int) (a_0v1 : Int) (a_1v1 : Int) (fv2 : Int) (b_0v2 : Int) (b_1v2 : Int) (gv3 : Int) (c_0v3 : Int) (c_1v3 : Int) (hv4 : Int) (d_0v4 : Int) (d_1v4 : Int) (lv5 : (Sl FluxStep)) (iv5 : Int) (jv6 : Int) (x_0v6 : Int) (x_1v6 : (Sl (Sl FluxRow))) (x_2v6 : Int) (x_3v6 : Int) (x_4v6 : Int) (x_5v6 : Int) : Bool :=
  (cond (ev1 != (0:Int))
   true
   (cond (fv2 != (0:Int))
    true
    (cond (gv3 != (0:Int))
     true
     (cond (hv4 != (0:Int))
      true
      (cond (iv5 != (0:Int))
       true
       (cond (jv6 != (0:Int))
        true
        (cond ((lv5.len : Int) != (7:Int))
         true
         (cond ((x_1v6.len : Int) != (1:Int))
          true
          (decide ((0 ≤ (0:Int) ∧ (0:Int) < (x_1v6.len : Int))) &&
          (cond (((x_1v6.get 0).len : Int) != (4:Int))
           true
           (p18_at7 a_0v1 a_1v1 b_0v2 b_1v2 c_0v3 c_1v3 d_0v4 d_1v4 lv5 x_0v6 x_1v6 x_2v6 x_3v6 x_4v6 x_5v6)))))))))))
theorem q18_at6 (K : List PA → Prop) (ev1 : Int) (a_0v1 : Int) (a_1v1 : Int) (fv2 : Int) (b_0v2 : Int) (b_1v2 : Int) (gv3 : Int) (c_0v3 : Int) (c_1v3 : Int) (hv4 : Int) (d_0v4 : Int) (d_1v4 : Int) (lv5 : (Sl FluxStep)) (iv5 : Int) (jv6 : Int) (x_0v6 : Int) (x_1v6 : (Sl (Sl FluxRow))) (x_2v6 : Int) (x_3v6 : Int) (x_4v6 : Int) (x_5v6 : Int) (x_1v6_g : Nat → List PV) (x_1v6_h : x_1v6_g = fun i => enc_32 (x_1v6.get i)) (hs : p18_at6 ev1 a_0v1 a_1v1 fv2 b_0v2 b_1v2 gv3 c_0v3 c_1v3 hv4 d_0v4 d_1v4 lv5 iv5 jv6 x_0v6 x_1v6 x_2v6 x_3v6 x_4v6 x_5v6 = true) (hk : K (e18 (s18_at6 ev1 a_0v1 a_1v1 fv2 b_0v2 b_1v2 gv3 c_0v3 c_1v3 hv4 d_0v4 d_1v4 lv5 iv5 jv6 x_0v6 x_1v6 x_2v6 x_3v6 x_4v6 x_5v6))) : f18_at6 K ev1 a_0v1 a_1v1 fv2 b_0v2 b_1v2 gv3 c_0v3 c_1v3 hv4 d_0v4 d_1v4 lv5 iv5 jv6 x_0v6 x_1v6.len x_1v6_g x_2v6 x_3v6 x_4v6 x_5v6 := by
  subst x_1v6_h
  refine ofEq (f18_eq6 K ev1 a_0v1 a_1v1 fv2 b_0v2 b_1v2 gv3 c_0v3 c_1v3 hv4 d_0v4 d_1v4 lv5 iv5 jv6 x_0v6 x_1v6 x_2v6 x_3v6 x_4v6 x_5v6) ?_
  unfold p18_at6 at hs
  unfold s18_at6 at hk
  exact (condB_go (K := fun r => K (e18 r))
   (fun hs hk => hk)
   (fun hs hk => (condB_go (K := fun r => K (e18 r))
    (fun hs hk => hk)
    (fun hs hk => (condB_go (K := fun r => K (e18 r))
     (fun hs hk => hk)
     (fun hs hk => (condB_go (K := fun r => K (e18 r))
      (fun hs hk => hk)
      (fun hs hk => (condB_go (K := fun r => K (e18 r))
       (fun hs hk => hk)
       (fun hs hk => (condB_go (K := fun r => K (e18 r))
        (fun hs hk => hk)
        (fun hs hk => (condB_go (K := fun r => K (e18 r))
         (fun hs hk => hk)
         (fun hs hk => (condB_go (K := fun r => K (e18 r))
          (fun hs hk => hk)
          (fun hs hk => (andK hs fun hc hs => ⟨hc, (condB_go (K := fun r => K (e18 r))
           (fun hs hk => hk)
           (fun hs hk => (q18_at7 K a_0v1 a_1v1 b_0v2 b_1v2 c_0v3 c_1v3 d_0v4 d_1v4 lv5 x_0v6 x_1v6 x_2v6 x_3v6 x_4v6 x_5v6 hs hk)) hs hk)⟩)) hs hk)) hs hk)) hs hk)) hs hk)) hs hk)) hs hk)) hs hk)) hs hk)
def s18_at5 (tv0 : (Sl RangeRow)) (ev1 : Int) (a_0v1 : Int) (a_1v1 : Int) (fv2 : Int) (b_0v2 : Int) (b_1v2 : Int) (gv3 : Int) (c_0v3 : Int) (c_1v3 : Int) (hv4 : Int) (d_0v4 : Int) (d_1v4 : Int) (lv5 : (Sl FluxStep)) (iv5 : Int) (s_1v5 : (Sl (Sl FluxRow))) : Bool :=
  (s18_at6 ev1 a_0v1 a_1v1 fv2 b_0v2 b_1v2 gv3 c_0v3 c_1v3 hv4 d_0v4 d_1v4 lv5 iv5 ((s33 (⟨s60.Parts, s_1v5, s60.Beta, s60.Alpha⟩ : Sky) tv0 (0:Int) (100:Int) (⟨(10:Int), (25:Int)⟩ : Span)).2) (((s33 (⟨s60.Parts, s_1v5, s60.Beta, s60.Alpha⟩ : Sky) tv0 (0:Int) (100:Int) (⟨(10:Int), (25:Int)⟩ : Span)).1).Parts) (((s33 (⟨s60.Parts, s_1v5, s60.Beta, s60.Alpha⟩ : Sky) tv0 (0:Int) (100:Int) (⟨(10:Int), (25:Int)⟩ : Span)).1).Bins) (((s33 (⟨s60.Parts, s_1v5, s60.Beta, s60.Alpha⟩ : Sky) tv0 (0:Int) (100:Int) (⟨(10:Int), (25:Int)⟩ : Span)).1).Beta.Low) (((s33 (⟨s60.Parts, s_1v5, s60.Beta, s60.Alpha⟩ : Sky) tv0 (0:Int) (100:Int) (⟨(10:Int), (25:Int)⟩ : Span)).1).Beta.High) (((s33 (⟨s60.Parts, s_1v5, s60.Beta, s60.Alpha⟩ : Sky) tv0 (0:Int) (100:Int) (⟨(10:Int), (25:Int)⟩ : Span)).1).Alpha.Low) (((s33 (⟨s60.Parts, s_1v5, s60.Beta, s60.Alpha⟩ : Sky) tv0 (0:Int) (100:Int) (⟨(10:Int), (25:Int)⟩ : Span)).1).Alpha.High))
def p18_at5 (tv0 : (Sl RangeRow)) (ev1 : Int) (a_0v1 : Int) (a_1v1 : Int) (fv2 : Int) (b_0v2 : Int) (b_1v2 : Int) (gv3 : Int) (c_0v3 : Int) (c_1v3 : Int) (hv4 : Int) (d_0v4 : Int) (d_1v4 : Int) (lv5 : (Sl FluxStep)) (iv5 : Int) (s_1v5 : (Sl (Sl FluxRow))) : Bool :=
  (decide ((p33 (⟨s60.Parts, s_1v5, s60.Beta, s60.Alpha⟩ : Sky) tv0 (0:Int) (100:Int) (⟨(10:Int), (25:Int)⟩ : Span) = true)) &&
  (p18_at6 ev1 a_0v1 a_1v1 fv2 b_0v2 b_1v2 gv3 c_0v3 c_1v3 hv4 d_0v4 d_1v4 lv5 iv5 ((s33 (⟨s60.Parts, s_1v5, s60.Beta, s60.Alpha⟩ : Sky) tv0 (0:Int) (100:Int) (⟨(10:Int), (25:Int)⟩ : Span)).2) (((s33 (⟨s60.Parts, s_1v5, s60.Beta, s60.Alpha⟩ : Sky) tv0 (0:Int) (100:Int) (⟨(10:Int), (25:Int)⟩ : Span)).1).Parts) (((s33 (⟨s60.Parts, s_1v5, s60.Beta, s60.Alpha⟩ : Sky) tv0 (0:Int) (100:Int) (⟨(10:Int), (25:Int)⟩ : Span)).1).Bins) (((s33 (⟨s60.Parts, s_1v5, s60.Beta, s60.Alpha⟩ : Sky) tv0 (0:Int) (100:Int) (⟨(10:Int), (25:Int)⟩ : Span)).1).Beta.Low) (((s33 (⟨s60.Parts, s_1v5, s60.Beta, s60.Alpha⟩ : Sky) tv0 (0:Int) (100:Int) (⟨(10:Int), (25:Int)⟩ : Span)).1).Beta.High) (((s33 (⟨s60.Parts, s_1v5, s60.Beta, s60.Alpha⟩ : Sky) tv0 (0:Int) (100:Int) (⟨(10:Int), (25:Int)⟩ : Span)).1).Alpha.Low) (((s33 (⟨s60.Parts, s_1v5, s60.Beta, s60.Alpha⟩ : Sky) tv0 (0:Int) (100:Int) (⟨(10:Int), (25:Int)⟩ : Span)).1).Alpha.High)))
theorem q18_at5 (K : List PA → Prop) (tv0 : (Sl RangeRow)) (ev1 : Int) (a_0v1 : Int) (a_1v1 : Int) (fv2 : Int) (b_0v2 : Int) (b_1v2 : Int) (gv3 : Int) (c_0v3 : Int) (c_1v3 : Int) (hv4 : Int) (d_0v4 : Int) (d_1v4 : Int) (lv5 : (Sl FluxStep)) (iv5 : Int) (s_1v5 : (Sl (Sl FluxRow))) (lv5_g : Nat → List PV) (lv5_h : lv5_g = fun i => enc_69 (lv5.get i)) (s_1v5_g : Nat → List PV) (s_1v5_h : s_1v5_g = fun i => enc_32 (s_1v5.get i)) (hs : p18_at5 tv0 ev1 a_0v1 a_1v1 fv2 b_0v2 b_1v2 gv3 c_0v3 c_1v3 hv4 d_0v4 d_1v4 lv5 iv5 s_1v5 = true) (hk : K (e18 (s18_at5 tv0 ev1 a_0v1 a_1v1 fv2 b_0v2 b_1v2 gv3 c_0v3 c_1v3 hv4 d_0v4 d_1v4 lv5 iv5 s_1v5))) : f18_at5 K tv0 ev1 a_0v1 a_1v1 fv2 b_0v2 b_1v2 gv3 c_0v3 c_1v3 hv4 d_0v4 d_1v4 lv5.len lv5_g iv5 s_1v5.len s_1v5_g := by
  subst lv5_h
  subst s_1v5_h
  refine ofEq (f18_eq5 K tv0 ev1 a_0v1 a_1v1 fv2 b_0v2 b_1v2 gv3 c_0v3 c_1v3 hv4 d_0v4 d_1v4 lv5 iv5 s_1v5) ?_
  unfold p18_at5 at hs
  unfold s18_at5 at hk
  exact (andK hs fun hc hs => ⟨⟨isE, isE, hc⟩, (q18_at6 K ev1 a_0v1 a_1v1 fv2 b_0v2 b_1v2 gv3 c_0v3 c_1v3 hv4 d_0v4 d_1v4 lv5 iv5 ((s33 (⟨s60.Parts, s_1v5, s60.Beta, s60.Alpha⟩ : Sky) tv0 (0:Int) (100:Int) (⟨(10:Int), (25:Int)⟩ : Span)).2) (((s33 (⟨s60.Parts, s_1v5, s60.Beta, s60.Alpha⟩ : Sky) tv0 (0:Int) (100:Int) (⟨(10:Int), (25:Int)⟩ : Span)).1).Parts) (((s33 (⟨s60.Parts, s_1v5, s60.Beta, s60.Alpha⟩ : Sky) tv0 (0:Int) (100:Int) (⟨(10:Int), (25:Int)⟩ : Span)).1).Bins) (((s33 (⟨s60.Parts, s_1v5, s60.Beta, s60.Alpha⟩ : Sky) tv0 (0:Int) (100:Int) (⟨(10:Int), (25:Int)⟩ : Span)).1).Beta.Low) (((s33 (⟨s60.Parts, s_1v5, s60.Beta, s60.Alpha⟩ : Sky) tv0 (0:Int) (100:Int) (⟨(10:Int), (25:Int)⟩ : Span)).1).Beta.High) (((s33 (⟨s60.Parts, s_1v5, s60.Beta, s60.Alpha⟩ : Sky) tv0 (0:Int) (100:Int) (⟨(10:Int), (25:Int)⟩ : Span)).1).Alpha.Low) (((s33 (⟨s60.Parts, s_1v5, s60.Beta, s60.Alpha⟩ : Sky) tv0 (0:Int) (100:Int) (⟨(10:Int), (25:Int)⟩ : Span)).1).Alpha.High) (fun i => enc_32 (((s33 (⟨s60.Parts, s_1v5, s60.Beta, s60.Alpha⟩ : Sky) tv0 (0:Int) (100:Int) (⟨(10:Int), (25:Int)⟩ : Span)).1).Bins.get i)) rfl hs hk)⟩)
def s18_at4 (tv0 : (Sl RangeRow)) (ev1 : Int) (a_0v1 : Int) (a_1v1 : Int) (fv2 : Int) (b_0v2 : Int) (b_1v2 : Int) (gv3 : Int) (c_0v3 : Int) (c_1v3 : Int) (hv4 : Int) (s_1v4 : (Sl (Sl FluxRow))) (d_0v4 : Int) (d_1v4 : Int) : Bool :=
  (s18_at5 tv0 ev1 a_0v1 a_1v1 fv2 b_0v2 b_1v2 gv3 c_0v3 c_1v3 hv4 d_0v4 d_1v4 ((s26 (⟨s60.Parts, s_1v4, s60.Beta, s60.Alpha⟩ : Sky) tv0 (0:Int) (⟨1, fun _ => (s34 (1:Int))⟩ : (Sl Spell))).1) ((s26 (⟨s60.Parts, s_1v4, s60.Beta, s60.Alpha⟩ : Sky) tv0 (0:Int) (⟨1, fun _ => (s34 (1:Int))⟩ : (Sl Spell))).2) s_1v4)
def p18_at4 (tv0 : (Sl RangeRow)) (ev1 : Int) (a_0v1 : Int) (a_1v1 : Int) (fv2 : Int) (b_0v2 : Int) (b_1v2 : Int) (gv3 : Int) (c_0v3 : Int) (c_1v3 : Int) (hv4 : Int) (s_1v4 : (Sl (Sl FluxRow))) (d_0v4 : Int) (d_1v4 : Int) : Bool :=
  (decide ((p26 (⟨s60.Parts, s_1v4, s60.Beta, s60.Alpha⟩ : Sky) tv0 (0:Int) (⟨1, fun _ => (s34 (1:Int))⟩ : (Sl Spell)) = true)) &&
  (p18_at5 tv0 ev1 a_0v1 a_1v1 fv2 b_0v2 b_1v2 gv3 c_0v3 c_1v3 hv4 d_0v4 d_1v4 ((s26 (⟨s60.Parts, s_1v4, s60.Beta, s60.Alpha⟩ : Sky) tv0 (0:Int) (⟨1, fun _ => (s34 (1:Int))⟩ : (Sl Spell))).1) ((s26 (⟨s60.Parts, s_1v4, s60.Beta, s60.Alpha⟩ : Sky) tv0 (0:Int) (⟨1, fun _ => (s34 (1:Int))⟩ : (Sl Spell))).2) s_1v4))
theorem q18_at4 (K : List PA → Prop) (tv0 : (Sl RangeRow)) (ev1 : Int) (a_0v1 : Int) (a_1v1 : Int) (fv2 : Int) (b_0v2 : Int) (b_1v2 : Int) (gv3 : Int) (c_0v3 : Int) (c_1v3 : Int) (hv4 : Int) (s_1v4 : (Sl (Sl FluxRow))) (d_0v4 : Int) (d_1v4 : Int) (s_1v4_g : Nat → List PV) (s_1v4_h : s_1v4_g = fun i => enc_32 (s_1v4.get i)) (hs : p18_at4 tv0 ev1 a_0v1 a_1v1 fv2 b_0v2 b_1v2 gv3 c_0v3 c_1v3 hv4 s_1v4 d_0v4 d_1v4 = true) (hk : K (e18 (s18_at4 tv0 ev1 a_0v1 a_1v1 fv2 b_0v2 b_1v2 gv3 c_0v3 c_1v3 hv4 s_1v4 d_0v4 d_1v4))) : f18_at4 K tv0 ev1 a_0v1 a_1v1 fv2 b_0v2 b_1v2 gv3 c_0v3 c_1v3 hv4 s_1v4.len s_1v4_g d_0v4 d_1v4 := by
  subst s_1v4_h
  refine ofEq (f18_eq4 K tv0 ev1 a_0v1 a_1v1 fv2 b_0v2 b_1v2 gv3 c_0v3 c_1v3 hv4 s_1v4 d_0v4 d_1v4) ?_
  unfold p18_at4 at hs
  unfold s18_at4 at hk
  exact (andK hs fun hc hs => ⟨⟨isE, isE, isE_c, hc⟩, (q18_at5 K tv0 ev1 a_0v1 a_1v1 fv2 b_0v2 b_1v2 gv3 c_0v3 c_1v3 hv4 d_0v4 d_1v4 ((s26 (⟨s60.Parts, s_1v4, s60.Beta, s60.Alpha⟩ : Sky) tv0 (0:Int) (⟨1, fun _ => (s34 (1:Int))⟩ : (Sl Spell))).1) ((s26 (⟨s60.Parts, s_1v4, s60.Beta, s60.Alpha⟩ : Sky) tv0 (0:Int) (⟨1, fun _ => (s34 (1:Int))⟩ : (Sl Spell))).2) s_1v4 (fun i => enc_69 (((s26 (⟨s60.Parts, s_1v4, s60.Beta, s60.Alpha⟩ : Sky) tv0 (0:Int) (⟨1, fun _ => (s34 (1:Int))⟩ : (Sl Spell))).1).get i)) rfl (fun i => enc_32 (s_1v4.get i)) rfl hs hk)⟩)
def s18_at3 (tv0 : (Sl RangeRow)) (ev1 : Int) (a_0v1 : Int) (a_1v1 : Int) (fv2 : Int) (b_0v2 : Int) (b_1v2 : Int) (gv3 : Int) (s_1v3 : (Sl (Sl FluxRow))) (c_0v3 : Int) (c_1v3 : Int) : Bool :=
  (s18_at4 tv0 ev1 a_0v1 a_1v1 fv2 b_0v2 b_1v2 gv3 c_0v3 c_1v3 ((s25 (⟨s60.Parts, s_1v3, s60.Beta, s60.Alpha⟩ : Sky) tv0 (0:Int) (⟨(261:Int), (270:Int)⟩ : Span) (⟨1, fun _ => (s34 (1:Int))⟩ : (Sl Spell))).2) s_1v3 (((s25 (⟨s60.Parts, s_1v3, s60.Beta, s60.Alpha⟩ : Sky) tv0 (0:Int) (⟨(261:Int), (270:Int)⟩ : Span) (⟨1, fun _ => (s34 (1:Int))⟩ : (Sl Spell))).1).Low) (((s25 (⟨s60.Parts, s_1v3, s60.Beta, s60.Alpha⟩ : Sky) tv0 (0:Int) (⟨(261:Int), (270:Int)⟩ : Span) (⟨1, fun _ => (s34 (1:Int))⟩ : (Sl Spell))).1).High))
def p18_at3 (tv0 : (Sl RangeRow)) (ev1 : Int) (a_0v1 : Int) (a_1v1 : Int) (fv2 : Int) (b_0v2 : Int) (b_1v2 : Int) (gv3 : Int) (s_1v3 : (Sl (Sl FluxRow))) (c_0v3 : Int) (c_1v3 : Int) : Bool :=
  (decide ((p25 (⟨s60.Parts, s_1v3, s60.Beta, s60.Alpha⟩ : Sky) tv0 (0:Int) (⟨(261:Int), (270:Int)⟩ : Span) (⟨1, fun _ => (s34 (1:Int))⟩ : (Sl Spell)) = true)) &&
  (p18_at4 tv0 ev1 a_0v1 a_1v1 fv2 b_0v2 b_1v2 gv3 c_0v3 c_1v3 ((s25 (⟨s60.Parts, s_1v3, s60.Beta, s60.Alpha⟩ : Sky) tv0 (0:Int) (⟨(261:Int), (270:Int)⟩ : Span) (⟨1, fun _ => (s34 (1:Int))⟩ : (Sl Spell))).2) s_1v3 (((s25 (⟨s60.Parts, s_1v3, s60.Beta, s60.Alpha⟩ : Sky) tv0 (0:Int) (⟨(261:Int), (270:Int)⟩ : Span) (⟨1, fun _ => (s34 (1:Int))⟩ : (Sl Spell))).1).Low) (((s25 (⟨s60.Parts, s_1v3, s60.Beta, s60.Alpha⟩ : Sky) tv0 (0:Int) (⟨(261:Int), (270:Int)⟩ : Span) (⟨1, fun _ => (s34 (1:Int))⟩ : (Sl Spell))).1).High)))
theorem q18_at3 (K : List PA → Prop) (tv0 : (Sl RangeRow)) (ev1 : Int) (a_0v1 : Int) (a_1v1 : Int) (fv2 : Int) (b_0v2 : Int) (b_1v2 : Int) (gv3 : Int) (s_1v3 : (Sl (Sl FluxRow))) (c_0v3 : Int) (c_1v3 : Int) (s_1v3_g : Nat → List PV) (s_1v3_h : s_1v3_g = fun i => enc_32 (s_1v3.get i)) (hs : p18_at3 tv0 ev1 a_0v1 a_1v1 fv2 b_0v2 b_1v2 gv3 s_1v3 c_0v3 c_1v3 = true) (hk : K (e18 (s18_at3 tv0 ev1 a_0v1 a_1v1 fv2 b_0v2 b_1v2 gv3 s_1v3 c_0v3 c_1v3))) : f18_at3 K tv0 ev1 a_0v1 a_1v1 fv2 b_0v2 b_1v2 gv3 s_1v3.len s_1v3_g c_0v3 c_1v3 := by
  subst s_1v3_h
  refine ofEq (f18_eq3 K tv0 ev1 a_0v1 a_1v1 fv2 b_0v2 b_1v2 gv3 s_1v3 c_0v3 c_1v3) ?_
  unfold p18_at3 at hs
  unfold s18_at3 at hk
  exact (andK hs fun hc hs => ⟨⟨isE, isE, isE_c, hc⟩, (q18_at4 K tv0 ev1 a_0v1 a_1v1 fv2 b_0v2 b_1v2 gv3 c_0v3 c_1v3 ((s25 (⟨s60.Parts, s_1v3, s60.Beta, s60.Alpha⟩ : Sky) tv0 (0:Int) (⟨(261:Int), (270:Int)⟩ : Span) (⟨1, fun _ => (s34 (1:Int))⟩ : (Sl Spell))).2) s_1v3 (((s25 (⟨s60.Parts, s_1v3, s60.Beta, s60.Alpha⟩ : Sky) tv0 (0:Int) (⟨(261:Int), (270:Int)⟩ : Span) (⟨1, fun _ => (s34 (1:Int))⟩ : (Sl Spell))).1).Low) (((s25 (⟨s60.Parts, s_1v3, s60.Beta, s60.Alpha⟩ : Sky) tv0 (0:Int) (⟨(261:Int), (270:Int)⟩ : Span) (⟨1, fun _ => (s34 (1:Int))⟩ : (Sl Spell))).1).High) (fun i => enc_32 (s_1v3.get i)) rfl hs hk)⟩)
def s18_at2 (tv0 : (Sl RangeRow)) (ev1 : Int) (a_0v1 : Int) (a_1v1 : Int) (fv2 : Int) (s_1v2 : (Sl (Sl FluxRow))) (b_0v2 : Int) (b_1v2 : Int) : Bool :=
  (s18_at3 tv0 ev1 a_0v1 a_1v1 fv2 b_0v2 b_1v2 ((s23 (⟨s60.Parts, s_1v2, s60.Beta, s60.Alpha⟩ : Sky) tv0 (0:Int) (100:Int) (⟨2, decF_56 (getL [(enc_56 (s34 (3:Int))), (enc_56 (⟨(1:Int), (⟨(⟨(-10:Int), (20:Int)⟩ : Span), (⟨(0:Int), (5:Int)⟩ : Span)⟩ : Weather)⟩ : Spell))])⟩ : (Sl Spell))).2) s_1v2 (((s23 (⟨s60.Parts, s_1v2, s60.Beta, s60.Alpha⟩ : Sky) tv0 (0:Int) (100:Int) (⟨2, decF_56 (getL [(enc_56 (s34 (3:Int))), (enc_56 (⟨(1:Int), (⟨(⟨(-10:Int), (20:Int)⟩ : Span), (⟨(0:Int), (5:Int)⟩ : Span)⟩ : Weather)⟩ : Spell))])⟩ : (Sl Spell))).1).Low) (((s23 (⟨s60.Parts, s_1v2, s60.Beta, s60.Alpha⟩ : Sky) tv0 (0:Int) (100:Int) (⟨2, decF_56 (getL [(enc_56 (s34 (3:Int))), (enc_56 (⟨(1:Int), (⟨(⟨(-10:Int), (20:Int)⟩ : Span), (⟨(0:Int), (5:Int)⟩ : Span)⟩ : Weather)⟩ : Spell))])⟩ : (Sl Spell))).1).High))
def p18_at2 (tv0 : (Sl RangeRow)) (ev1 : Int) (a_0v1 : Int) (a_1v1 : Int) (fv2 : Int) (s_1v2 : (Sl (Sl FluxRow))) (b_0v2 : Int) (b_1v2 : Int) : Bool :=
  (decide ((p23 (⟨s60.Parts, s_1v2, s60.Beta, s60.Alpha⟩ : Sky) tv0 (0:Int) (100:Int) (⟨2, decF_56 (getL [(enc_56 (s34 (3:Int))), (enc_56 (⟨(1:Int), (⟨(⟨(-10:Int), (20:Int)⟩ : Span), (⟨(0:Int), (5:Int)⟩ : Span)⟩ : Weather)⟩ : Spell))])⟩ : (Sl Spell)) = true)) &&
  (p18_at3 tv0 ev1 a_0v1 a_1v1 fv2 b_0v2 b_1v2 ((s23 (⟨s60.Parts, s_1v2, s60.Beta, s60.Alpha⟩ : Sky) tv0 (0:Int) (100:Int) (⟨2, decF_56 (getL [(enc_56 (s34 (3:Int))), (enc_56 (⟨(1:Int), (⟨(⟨(-10:Int), (20:Int)⟩ : Span), (⟨(0:Int), (5:Int)⟩ : Span)⟩ : Weather)⟩ : Spell))])⟩ : (Sl Spell))).2) s_1v2 (((s23 (⟨s60.Parts, s_1v2, s60.Beta, s60.Alpha⟩ : Sky) tv0 (0:Int) (100:Int) (⟨2, decF_56 (getL [(enc_56 (s34 (3:Int))), (enc_56 (⟨(1:Int), (⟨(⟨(-10:Int), (20:Int)⟩ : Span), (⟨(0:Int), (5:Int)⟩ : Span)⟩ : Weather)⟩ : Spell))])⟩ : (Sl Spell))).1).Low) (((s23 (⟨s60.Parts, s_1v2, s60.Beta, s60.Alpha⟩ : Sky) tv0 (0:Int) (100:Int) (⟨2, decF_56 (getL [(enc_56 (s34 (3:Int))), (enc_56 (⟨(1:Int), (⟨(⟨(-10:Int), (20:Int)⟩ : Span), (⟨(0:Int), (5:Int)⟩ : Span)⟩ : Weather)⟩ : Spell))])⟩ : (Sl Spell))).1).High)))
theorem q18_at2 (K : List PA → Prop) (tv0 : (Sl RangeRow)) (ev1 : Int) (a_0v1 : Int) (a_1v1 : Int) (fv2 : Int) (s_1v2 : (Sl (Sl FluxRow))) (b_0v2 : Int) (b_1v2 : Int) (s_1v2_g : Nat → List PV) (s_1v2_h : s_1v2_g = fun i => enc_32 (s_1v2.get i)) (hs : p18_at2 tv0 ev1 a_0v1 a_1v1 fv2 s_1v2 b_0v2 b_1v2 = true) (hk : K (e18 (s18_at2 tv0 ev1 a_0v1 a_1v1 fv2 s_1v2 b_0v2 b_1v2))) : f18_at2 K tv0 ev1 a_0v1 a_1v1 fv2 s_1v2.len s_1v2_g b_0v2 b_1v2 := by
  subst s_1v2_h
  refine ofEq (f18_eq2 K tv0 ev1 a_0v1 a_1v1 fv2 s_1v2 b_0v2 b_1v2) ?_
  unfold p18_at2 at hs
  unfold s18_at2 at hk
  exact (andK hs fun hc hs => ⟨⟨isE, isE, (isE_list []), hc⟩, (q18_at3 K tv0 ev1 a_0v1 a_1v1 fv2 b_0v2 b_1v2 ((s23 (⟨s60.Parts, s_1v2, s60.Beta, s60.Alpha⟩ : Sky) tv0 (0:Int) (100:Int) (⟨2, decF_56 (getL [(enc_56 (s34 (3:Int))), (enc_56 (⟨(1:Int), (⟨(⟨(-10:Int), (20:Int)⟩ : Span), (⟨(0:Int), (5:Int)⟩ : Span)⟩ : Weather)⟩ : Spell))])⟩ : (Sl Spell))).2) s_1v2 (((s23 (⟨s60.Parts, s_1v2, s60.Beta, s60.Alpha⟩ : Sky) tv0 (0:Int) (100:Int) (⟨2, decF_56 (getL [(enc_56 (s34 (3:Int))), (enc_56 (⟨(1:Int), (⟨(⟨(-10:Int), (20:Int)⟩ : Span), (⟨(0:Int), (5:Int)⟩ : Span)⟩ : Weather)⟩ : Spell))])⟩ : (Sl Spell))).1).Low) (((s23 (⟨s60.Parts, s_1v2, s60.Beta, s60.Alpha⟩ : Sky) tv0 (0:Int) (100:Int) (⟨2, decF_56 (getL [(enc_56 (s34 (3:Int))), (enc_56 (⟨(1:Int), (⟨(⟨(-10:Int), (20:Int)⟩ : Span), (⟨(0:Int), (5:Int)⟩ : Span)⟩ : Weather)⟩ : Spell))])⟩ : (Sl Spell))).1).High) (fun i => enc_32 (s_1v2.get i)) rfl hs hk)⟩)
def s18_at1 (tv0 : (Sl RangeRow)) (ev1 : Int) (s_1v1 : (Sl (Sl FluxRow))) (a_0v1 : Int) (a_1v1 : Int) : Bool :=
  (s18_at2 tv0 ev1 a_0v1 a_1v1 ((s20 (⟨s60.Parts, s_1v1, s60.Beta, s60.Alpha⟩ : Sky) tv0 (0:Int) (280:Int)).2) s_1v1 (((s20 (⟨s60.Parts, s_1v1, s60.Beta, s60.Alpha⟩ : Sky) tv0 (0:Int) (280:Int)).1).Low) (((s20 (⟨s60.Parts, s_1v1, s60.Beta, s60.Alpha⟩ : Sky) tv0 (0:Int) (280:Int)).1).High))
def p18_at1 (tv0 : (Sl RangeRow)) (ev1 : Int) (s_1v1 : (Sl (Sl FluxRow))) (a_0v1 : Int) (a_1v1 : Int) : Bool :=
  (decide ((p20 (⟨s60.Parts, s_1v1, s60.Beta, s60.Alpha⟩ : Sky) tv0 (0:Int) (280:Int) = true)) &&
  (p18_at2 tv0 ev1 a_0v1 a_1v1 ((s20 (⟨s60.Parts, s_1v1, s60.Beta, s60.Alpha⟩ : Sky) tv0 (0:Int) (280:Int)).2) s_1v1 (((s20 (⟨s60.Parts, s_1v1, s60.Beta, s60.Alpha⟩ : Sky) tv0 (0:Int) (280:Int)).1).Low) (((s20 (⟨s60.Parts, s_1v1, s60.Beta, s60.Alpha⟩ : Sky) tv0 (0:Int) (280:Int)).1).High)))
theorem q18_at1 (K : List PA → Prop) (tv0 : (Sl RangeRow)) (ev1 : Int) (s_1v1 : (Sl (Sl FluxRow))) (a_0v1 : Int) (a_1v1 : Int) (s_1v1_g : Nat → List PV) (s_1v1_h : s_1v1_g = fun i => enc_32 (s_1v1.get i)) (hs : p18_at1 tv0 ev1 s_1v1 a_0v1 a_1v1 = true) (hk : K (e18 (s18_at1 tv0 ev1 s_1v1 a_0v1 a_1v1))) : f18_at1 K tv0 ev1 s_1v1.len s_1v1_g a_0v1 a_1v1 := by
  subst s_1v1_h
  refine ofEq (f18_eq1 K tv0 ev1 s_1v1 a_0v1 a_1v1) ?_
  unfold p18_at1 at hs
  unfold s18_at1 at hk
  exact (andK hs fun hc hs => ⟨⟨isE, isE, hc⟩, (q18_at2 K tv0 ev1 a_0v1 a_1v1 ((s20 (⟨s60.Parts, s_1v1, s60.Beta, s60.Alpha⟩ : Sky) tv0 (0:Int) (280:Int)).2) s_1v1 (((s20 (⟨s60.Parts, s_1v1, s60.Beta, s60.Alpha⟩ : Sky) tv0 (0:Int) (280:Int)).1).Low) (((s20 (⟨s60.Parts, s_1v1, s60.Beta, s60.Alpha⟩ : Sky) tv0 (0:Int) (280:Int)).1).High) (fun i => enc_32 (s_1v1.get i)) rfl hs hk)⟩)
def s18_at0 (tv0 : (Sl RangeRow)) (s_1v0 : (Sl (Sl FluxRow))) : Bool :=
  (s18_at1 tv0 ((s19 tv0 (100:Int)).2) s_1v0 (((s19 tv0 (100:Int)).1).Low) (((s19 tv0 (100:Int)).1).High))
def p18_at0 (tv0 : (Sl RangeRow)) (s_1v0 : (Sl (Sl FluxRow))) : Bool :=
  (decide ((p19 tv0 (100:Int) = true)) &&
  (p18_at1 tv0 ((s19 tv0 (100:Int)).2) s_1v0 (((s19 tv0 (100:Int)).1).Low) (((s19 tv0 (100:Int)).1).High)))
theorem q18_at0 (K : List PA → Prop) (tv0 : (Sl RangeRow)) (s_1v0 : (Sl (Sl FluxRow))) (tv0_g : Nat → List PV) (tv0_h : tv0_g = fun i => enc_42 (tv0.get i)) (s_1v0_g : Nat → List PV) (s_1v0_h : s_1v0_g = fun i => enc_32 (s_1v0.get i)) (hs : p18_at0 tv0 s_1v0 = true) (hk : K (e18 (s18_at0 tv0 s_1v0))) : f18_at0 K tv0.len tv0_g s_1v0.len s_1v0_g := by
  subst tv0_h
  subst s_1v0_h
  refine ofEq (f18_eq0 K tv0 s_1v0) ?_
  unfold p18_at0 at hs
  unfold s18_at0 at hk
  exact (andK hs fun hc hs => ⟨⟨isE, hc⟩, (q18_at1 K tv0 ((s19 tv0 (100:Int)).2) s_1v0 (((s19 tv0 (100:Int)).1).Low) (((s19 tv0 (100:Int)).1).High) (fun i => enc_32 (s_1v0.get i)) rfl hs hk)⟩)
def s18 : Bool :=
  (s18_at0 s61 s60.Bins)
def p18 : Bool :=
  (p18_at0 s61 s60.Bins)
theorem q18 (K : List PA → Prop) (hs : p18 = true) (hk : K (e18 (s18))) : vcFun Try.prog G18 ann18 18 [] K := by
  refine ofEq (f18_top K) ?_
  unfold p18 at hs
  unfold s18 at hk
  exact (q18_at0 K s61 s60.Bins (fun i => enc_42 (s61.get i)) rfl (fun i => enc_32 (s60.Bins.get i)) rfl hs hk)
theorem p18_ok : p18 = true := by kernel_rfl
theorem s18_ok : s18 = true := by kernel_rfl
def ctr18 : List PA → COut
  | [] => .tot [.one (.bool true)]
  | _ => .no
theorem call18 : Callable Try.prog 18 := ⟨_, rfl, rfl, by kernel_rfl⟩
theorem ok18 : Ok Try.prog 18 ctr18 := ok_tab okT18 call18 fun args K h => by
  unfold ctr18 at h
  split at h
  · refine ⟨fun _ _ => [], fun _ => false, ann18, q18 K p18_ok ?_⟩
    show K [.one (.bool s18)]
    rw [s18_ok]; exact h
  · exact h.elim
-- 15 overburdenlaw05.few
abbrev T15 : Tabs := Tabs.nil
theorem okT15 : TabsOk Try.prog T15 := TabsOk.nil
abbrev G15 : Ctrs := csm T15 (fun _ _ => []) (fun _ => false)
def ann15 : Ann := ⟨29, [(0, ⟨[1, 2], [2], [], [], []⟩), (1, ⟨[1, 2, 5], [2], [], [], []⟩), (2, ⟨[1, 2, 5, 10], [2], [], [], []⟩), (3, ⟨[1, 2, 5], [2], [], [], []⟩), (4, ⟨[1, 2, 5, 19], [2], [], [], []⟩), (5, ⟨[4], [], [], [], []⟩), (6, ⟨[4], [], [], [], []⟩)],
  [(2, ⟨[1, 2, 5], [2], [], [], []⟩)],
  [],
  [], []⟩
def f15_g0 (s : Sky) (t : (Sl RangeRow)) (iv0 : Int) : St := ⟨[(1, .one (.c (.p (.sl t.len 3 (fun i => enc_42 (t.get i)))))), (2, .one (.c (.ptr 2 0))), (5, .one (.c (.p (.int .i64 iv0))))], [(2, .box 26 [.p (.int .i64 s.Parts), .p (.sl s.Bins.len 1 (fun i => enc_32 (s.Bins.get i))), .p (.int .i64 s.Beta.Low), .p (.int .i64 s.Beta.High), .p (.int .i64 s.Alpha.Low), .p (.int .i64 s.Alpha.High)])], []⟩
def f15_at0 (K : List PA → Prop) (s : Sky) (t : (Sl RangeRow)) (iv0 : Int) : Prop := vc Try.prog G15 ann15 (cdF Try.f15 [1, 0, 1, 0]) (blockK 0 (sqK Try.prog G15 ann15 (cdF Try.f15 [1, 1]) (bodyK Try.prog Try.f15 K))) (f15_g0 s t iv0)
theorem f15_top (s : Sky) (t : (Sl RangeRow)) (K : List PA → Prop) :
  vcFun Try.prog G15 ann15 15 [.agg [.int .i64 s.Parts, .sl s.Bins.len 1 (fun i => enc_32 (s.Bins.get i)), .int .i64 s.Beta.Low, .int .i64 s.Beta.High, .int .i64 s.Alpha.Low, .int .i64 s.Alpha.High], .one (.sl t.len 3 (fun i => enc_42 (t.get i)))] K =
  (f15_at0 K s t (0:Int)) := by kernel_rfl
def f15_step0 (K : List PA → Prop) (X0 : St → Prop) (s : Sky) (t : (Sl RangeRow)) (iv0 : Int) : Prop :=
  (condP (decide (iv0 < (s.Bins.len : Int)))
   (((0 ≤ iv0 ∧ iv0 < (s.Bins.len : Int))) ∧
   (condP (decide (((s.Bins.get iv0.toNat).len : Int) > (50:Int)))
    (K [.one (.bool false)])
    (X0 (f15_g0 s t (w64 (iv0 + (1:Int)))))))
   (condP (decide ((s.Bins.len : Int) ≤ (25:Int)))
    (K [.one (.bool (decide ((t.len : Int) ≤ (50:Int))))])
    (K [.one (.bool false)])))
theorem f15_stepeq0 (K : List PA → Prop) (X0 : St → Prop) (s : Sky) (t : (Sl RangeRow)) (iv0 : Int) :
  vc Try.prog G15 ann15 (cd (cdF Try.f15 [1, 0, 1, 0]) [0]) (loopK Try.prog ann15 2 X0 (blockK 0 (sqK Try.prog G15 ann15 (cdF Try.f15 [1, 1]) (bodyK Try.prog Try.f15 K)))) (f15_g0 s t iv0) =
  f15_step0 K X0 s t iv0 := by kernel_rfl
theorem f15_loop0 (K : List PA → Prop) (s : Sky) (t : (Sl RangeRow)) (iv0 : Int)
  (h : ∀ X0 : St → Prop, (∀ (iv0 : Int), f15_step0 K X0 s t iv0 → X0 (f15_g0 s t iv0)) → X0 (f15_g0 s t iv0)) :
  f15_at0 K s t iv0 := by
  have e : f15_at0 K s t iv0 = (∀ X : St → Prop, (∀ s, vc Try.prog G15 ann15 (cd (cdF Try.f15 [1, 0, 1, 0]) [0]) (loopK Try.prog ann15 2 X (blockK 0 (sqK Try.prog G15 ann15 (cdF Try.f15 [1, 1]) (bodyK Try.prog Try.f15 K)))) s → X s) → X (f15_g0 s t iv0)) := by kernel_rfl
  refine ofEq e ?_
  intro X hX
  refine h X ?_
  intro iv0 hs
  refine hX _ ?_
  have e2 := f15_stepeq0 K X s t iv0
  rw [e2]
  exact hs
abbrev R15 := Bool
abbrev e15 (r : Bool) : List PA := [.one (.bool r)]
attribute [irreducible] f15_at0
def s15_st0 (s : Sky) (t : (Sl RangeRow)) (S0 : Int → Bool) (iv0 : Int) : Bool :=
  (cond (decide (iv0 < (s.Bins.len : Int)))
   (cond (decide (((s.Bins.get iv0.toNat).len : Int) > (50:Int)))
    false
    (S0 (w64 (iv0 + (1:Int)))))
   (cond (decide ((s.Bins.len : Int) ≤ (25:Int)))
    (decide ((t.len : Int) ≤ (50:Int)))
    false))
def p15_st0 (s : Sky) (t : (Sl RangeRow)) (P0 : Int → Bool) (iv0 : Int) : Bool :=
  (cond (decide (iv0 < (s.Bins.len : Int)))
   (decide ((0 ≤ iv0 ∧ iv0 < (s.Bins.len : Int))) &&
   (cond (decide (((s.Bins.get iv0.toNat).len : Int) > (50:Int)))
    true
    (P0 (w64 (iv0 + (1:Int))))))
   true)
def s15_lp0 (s : Sky) (t : (Sl RangeRow)) : Nat → Int → Bool
  | 0 => fun _ => default
  | k + 1 => s15_st0 s t (s15_lp0 s t k)
def p15_lp0 (s : Sky) (t : (Sl RangeRow)) : Nat → Int → Bool
  | 0 => fun _ => false
  | k + 1 => p15_st0 s t (p15_lp0 s t k)
def s15_at0 (s : Sky) (t : (Sl RangeRow)) (iv0 : Int) : Bool := s15_lp0 s t Fuel iv0
def p15_at0 (s : Sky) (t : (Sl RangeRow)) (iv0 : Int) : Bool := p15_lp0 s t Fuel iv0
theorem q15_at0 (K : List PA → Prop) (s : Sky) (t : (Sl RangeRow)) (iv0 : Int) (hs : p15_at0 s t iv0 = true) (hk : K (e15 (s15_at0 s t iv0))) : f15_at0 K s t iv0 := by
  refine f15_loop0 K s t iv0 ?_
  intro X0 hstep
  have key : ∀ (k : Nat) (iv0 : Int), p15_lp0 s t k iv0 = true → K (e15 (s15_lp0 s t k iv0)) → X0 (f15_g0 s t iv0) := by
    intro k
    induction k with
    | zero => intro iv0 hs; exact absurd hs Bool.false_ne_true
    | succ k ih =>
      intro iv0 hs hk
      refine hstep iv0 ?_
      have hs : p15_st0 s t (p15_lp0 s t k) iv0 = true := hs
      have hk : K (e15 (s15_st0 s t (s15_lp0 s t k) iv0)) := hk
      unfold p15_st0 at hs
      unfold s15_st0 at hk
      generalize s15_lp0 s t k = S0 at hk ih
      generalize p15_lp0 s t k = P0 at hs ih
      have hX0 := ih
      exact (condB_go (K := fun r => K (e15 r))
       (fun hs hk => (andK hs fun hc hs => ⟨hc, (condB_go (K := fun r => K (e15 r))
        (fun hs hk => hk)
        (fun hs hk => (hX0 (w64 (iv0 + (1:Int))) hs hk)) hs hk)⟩))
       (fun hs hk => (condP_gt (K := fun r => K (e15 r))
        (fun hk => hk)
        (fun hk => hk) hk)) hs hk)
  exact key _ iv0 hs hk
def s15 (s : Sky) (t : (Sl RangeRow)) : Bool :=
  (s15_at0 s t (0:Int))
def p15 (s : Sky) (t : (Sl RangeRow)) : Bool :=
  (p15_at0 s t (0:Int))
theorem q15 (s : Sky) (t : (Sl RangeRow)) (K : List PA → Prop) (hs : p15 s t = true) (hk : K (e15 (s15 s t))) : vcFun Try.prog G15 ann15 15 [.agg [.int .i64 s.Parts, .sl s.Bins.len 1 (fun i => enc_32 (s.Bins.get i)), .int .i64 s.Beta.Low, .int .i64 s.Beta.High, .int .i64 s.Alpha.Low, .int .i64 s.Alpha.High], .one (.sl t.len 3 (fun i => enc_42 (t.get i)))] K := by
  refine ofEq (f15_top s t K) ?_
  unfold p15 at hs
  unfold s15 at hk
  exact (q15_at0 K s t (0:Int) hs hk)
def ctr15 : List PA → COut
  | [.agg [.int .i64 a0_Parts, .sl a0_Bins_n a0_Bins_s a0_Bins_g, .int .i64 a0_Beta_Low, .int .i64 a0_Beta_High, .int .i64 a0_Alpha_Low, .int .i64 a0_Alpha_High], .one (.sl a1_n a1_s a1_g)] => .det (IsE enc_32 1 a0_Bins_s a0_Bins_g ∧ IsE enc_42 3 a1_s a1_g ∧ p15 (⟨a0_Parts, (⟨a0_Bins_n, decF_32 a0_Bins_g⟩ : (Sl (Sl FluxRow))), (⟨a0_Beta_Low, a0_Beta_High⟩ : Span), (⟨a0_Alpha_Low, a0_Alpha_High⟩ : Span)⟩ : Sky) (⟨a1_n, decF_42 a1_g⟩ : (Sl RangeRow)) = true) [.one (.bool (s15 (⟨a0_Parts, (⟨a0_Bins_n, decF_32 a0_Bins_g⟩ : (Sl (Sl FluxRow))), (⟨a0_Beta_Low, a0_Beta_High⟩ : Span), (⟨a0_Alpha_Low, a0_Alpha_High⟩ : Span)⟩ : Sky) (⟨a1_n, decF_42 a1_g⟩ : (Sl RangeRow))))]
  | _ => .no
theorem call15 : Callable Try.prog 15 := ⟨_, rfl, rfl, by kernel_rfl⟩
theorem ok15 : Ok Try.prog 15 ctr15 := ok_tab okT15 call15 fun args K h => by
  unfold ctr15 at h
  split at h
  · rename_i a0_Parts a0_Bins_n a0_Bins_s a0_Bins_g a0_Beta_Low a0_Beta_High a0_Alpha_Low a0_Alpha_High a1_n a1_s a1_g
    obtain ⟨⟨⟨rfl, a0_Bins_f, rfl⟩, ⟨rfl, a1_f, rfl⟩, hs⟩, hk⟩ := h
    try rw [decF_enc_32 a0_Bins_f] at hs
    try rw [decF_enc_32 a0_Bins_f] at hk
    try rw [decF_enc_42 a1_f] at hs
    try rw [decF_enc_42 a1_f] at hk
    exact ⟨(fun _ _ => []), (fun _ => false), ann15, q15 (⟨a0_Parts, (⟨a0_Bins_n, a0_Bins_f⟩ : (Sl (Sl FluxRow))), (⟨a0_Beta_Low, a0_Beta_High⟩ : Span), (⟨a0_Alpha_Low, a0_Alpha_High⟩ : Span)⟩ : Sky) (⟨a1_n, a1_f⟩ : (Sl RangeRow)) K hs hk⟩
  · exact h.elim
-- 29 overburdenref05.Span
abbrev T29 : Tabs := Tabs.nil
theorem okT29 : TabsOk Try.prog T29 := TabsOk.nil
abbrev G29 : Ctrs := csm T29 (fun _ _ => []) (fun _ => false)
def ann29 : Ann := ⟨24, [(0, ⟨[1, 2, 3], [3], [], [], []⟩), (1, ⟨[6], [], [], [], []⟩)],
  [],
  [],
  [], []⟩
theorem f29_top (s : Span) (low : Int) (high : Int) (K : List PA → Prop) :
  vcFun Try.prog G29 ann29 29 [.agg [.int .i64 s.Low, .int .i64 s.High], .one (.int .i64 low), .one (.int .i64 high)] K =
  (condP (decide (s.Low ≥ low))
   (condP (decide (s.Low ≤ s.High))
    (K [.one (.bool (decide (s.High ≤ high)))])
    (K [.one (.bool false)]))
   (K [.one (.bool false)])) := by kernel_rfl
abbrev R29 := Bool
abbrev e29 (r : Bool) : List PA := [.one (.bool r)]
def s29 (s : Span) (low : Int) (high : Int) : Bool :=
  (cond (decide (s.Low ≥ low))
   (cond (decide (s.Low ≤ s.High))
    (decide (s.High ≤ high))
    false)
   false)
theorem q29 (s : Span) (low : Int) (high : Int) (K : List PA → Prop) (hk : K (e29 (s29 s low high))) : vcFun Try.prog G29 ann29 29 [.agg [.int .i64 s.Low, .int .i64 s.High], .one (.int .i64 low), .one (.int .i64 high)] K := by
  refine ofEq (f29_top s low high K) ?_
  unfold s29 at hk
  exact (condP_gt (K := fun r => K (e29 r))
   (fun hk => (condP_gt (K := fun r => K (e29 r))
    (fun hk => hk)
    (fun hk => hk) hk))
   (fun hk => hk) hk)
def ctr29 : List PA → COut
  | [.agg [.int .i64 a0_Low, .int .i64 a0_High], .one (.int .i64 a1), .one (.int .i64 a2)] => .tot [.one (.bool (s29 (⟨a0_Low, a0_High⟩ : Span) a1 a2))]
  | _ => .no
theorem call29 : Callable Try.prog 29 := ⟨_, rfl, rfl, by kernel_rfl⟩
theorem ok29 : Ok Try.prog 29 ctr29 := ok_tab okT29 call29 fun args K h => by
  unfold ctr29 at h
  split at h
  · rename_i a0_Low a0_High a1 a2
    have hk := h
    exact ⟨(fun _ _ => []), (fun _ => false), ann29, q29 (⟨a0_Low, a0_High⟩ : Span) a1 a2 K hk⟩
  · exact h.elim
-- 58 overburdenref05.in
abbrev T58 : Tabs := Tabs.nil
theorem okT58 : TabsOk Try.prog T58 := TabsOk.nil
abbrev G58 : Ctrs := csm T58 (fun _ _ => []) (fun _ => false)
def ann58 : Ann := ⟨15, [(0, ⟨[0, 1, 2], [], [], [], []⟩), (1, ⟨[6], [], [], [], []⟩)],
  [],
  [],
  [], []⟩
theorem f58_top (x : Int) (low : Int) (high : Int) (K : List PA → Prop) :
  vcFun Try.prog G58 ann58 58 [.one (.int .i64 x), .one (.int .i64 low), .one (.int .i64 high)] K =
  (condP (decide (x ≥ low))
   (K [.one (.bool (decide (x ≤ high)))])
   (K [.one (.bool false)])) := by kernel_rfl
abbrev R58 := Bool
abbrev e58 (r : Bool) : List PA := [.one (.bool r)]
def s58 (x : Int) (low : Int) (high : Int) : Bool :=
  (cond (decide (x ≥ low))
   (decide (x ≤ high))
   false)
theorem q58 (x : Int) (low : Int) (high : Int) (K : List PA → Prop) (hk : K (e58 (s58 x low high))) : vcFun Try.prog G58 ann58 58 [.one (.int .i64 x), .one (.int .i64 low), .one (.int .i64 high)] K := by
  refine ofEq (f58_top x low high K) ?_
  unfold s58 at hk
  exact (condP_gt (K := fun r => K (e58 r))
   (fun hk => hk)
   (fun hk => hk) hk)
def ctr58 : List PA → COut
  | [.one (.int .i64 a0), .one (.int .i64 a1), .one (.int .i64 a2)] => .tot [.one (.bool (s58 a0 a1 a2))]
  | _ => .no
theorem call58 : Callable Try.prog 58 := ⟨_, rfl, rfl, by kernel_rfl⟩
theorem ok58 : Ok Try.prog 58 ctr58 := ok_tab okT58 call58 fun args K h => by
  unfold ctr58 at h
  split at h
  · rename_i a0 a1 a2
    have hk := h
    exact ⟨(fun _ _ => []), (fun _ => false), ann58, q58 a0 a1 a2 K hk⟩
  · exact h.elim
end Go.Proofs
namespace Go.Proofs
open Go Go.Pm
set_option maxRecDepth 100000
set_option linter.unusedVariables false
attribute [local irreducible] Go.Pm.vcFun Go.Pm.vc Go.Pm.vcIter
-- 111 flux.kinked$1
abbrev T111 : Tabs := Tabs.nil
theorem okT111 : TabsOk Try.prog T111 := TabsOk.nil
abbrev G111 : Ctrs := csm T111 (fun _ _ => []) (fun _ => false)
def ann111 : Ann := ⟨5, [(0, ⟨[1], [1], [], [], []⟩), (1, ⟨[2], [], [], [], []⟩)],
  [],
  [],
  [], []⟩
theorem f111_top (r_a0 : KinkRow) (K : List PA → Prop) :
  vcFun Try.prog G111 ann111 111 [.agg [.int .i64 r_a0.Opacity, .int .i64 r_a0.Share.Low, .int .i64 r_a0.Share.High]] K =
  (K [.one (.int .i64 r_a0.Opacity)]) := by kernel_rfl
abbrev R111 := Int
abbrev e111 (r : Int) : List PA := [.one (.int .i64 r)]
def s111 (r_a0 : KinkRow) : Int :=
  r_a0.Opacity
theorem q111 (r_a0 : KinkRow) (K : List PA → Prop) (hk : K (e111 (s111 r_a0))) : vcFun Try.prog G111 ann111 111 [.agg [.int .i64 r_a0.Opacity, .int .i64 r_a0.Share.Low, .int .i64 r_a0.Share.High]] K := by
  refine ofEq (f111_top r_a0 K) ?_
  unfold s111 at hk
  exact hk
def ctr111 : List PA → COut
  | [.agg [.int .i64 a0_Opacity, .int .i64 a0_Share_Low, .int .i64 a0_Share_High]] => .tot [.one (.int .i64 (s111 (⟨a0_Opacity, (⟨a0_Share_Low, a0_Share_High⟩ : Span)⟩ : KinkRow)))]
  | _ => .no
theorem call111 : Callable Try.prog 111 := ⟨_, rfl, rfl, by kernel_rfl⟩
theorem ok111 : Ok Try.prog 111 ctr111 := ok_tab okT111 call111 fun args K h => by
  unfold ctr111 at h
  split at h
  · rename_i a0_Opacity a0_Share_Low a0_Share_High
    have hk := h
    exact ⟨(fun _ _ => []), (fun _ => false), ann111, q111 (⟨a0_Opacity, (⟨a0_Share_Low, a0_Share_High⟩ : Span)⟩ : KinkRow) K hk⟩
  · exact h.elim
-- 112 flux.kinked$2
abbrev T112 : Tabs := Tabs.nil
theorem okT112 : TabsOk Try.prog T112 := TabsOk.nil
abbrev G112 : Ctrs := csm T112 (fun _ _ => []) (fun _ => false)
def ann112 : Ann := ⟨5, [(0, ⟨[1, 2], [1, 2], [], [], []⟩), (1, ⟨[2], [2], [], [], []⟩)],
  [],
  [],
  [], []⟩
theorem f112_top (r_a0 : KinkRow) (K : List PA → Prop) :
  vcFun Try.prog G112 ann112 112 [.agg [.int .i64 r_a0.Opacity, .int .i64 r_a0.Share.Low, .int .i64 r_a0.Share.High]] K =
  (K [.agg [.int .i64 r_a0.Share.Low, .int .i64 r_a0.Share.High]]) := by kernel_rfl
abbrev R112 := Span
abbrev e112 (r : Span) : List PA := [.agg [.int .i64 r.Low, .int .i64 r.High]]
def s112 (r_a0 : KinkRow) : Span :=
  r_a0.Share
theorem q112 (r_a0 : KinkRow) (K : List PA → Prop) (hk : K (e112 (s112 r_a0))) : vcFun Try.prog G112 ann112 112 [.agg [.int .i64 r_a0.Opacity, .int .i64 r_a0.Share.Low, .int .i64 r_a0.Share.High]] K := by
  refine ofEq (f112_top r_a0 K) ?_
  unfold s112 at hk
  exact hk
def ctr112 : List PA → COut
  | [.agg [.int .i64 a0_Opacity, .int .i64 a0_Share_Low, .int .i64 a0_Share_High]] => .tot [.agg [.int .i64 ((s112 (⟨a0_Opacity, (⟨a0_Share_Low, a0_Share_High⟩ : Span)⟩ : KinkRow)).Low), .int .i64 ((s112 (⟨a0_Opacity, (⟨a0_Share_Low, a0_Share_High⟩ : Span)⟩ : KinkRow)).High)]]
  | _ => .no
theorem call112 : Callable Try.prog 112 := ⟨_, rfl, rfl, by kernel_rfl⟩
theorem ok112 : Ok Try.prog 112 ctr112 := ok_tab okT112 call112 fun args K h => by
  unfold ctr112 at h
  split at h
  · rename_i a0_Opacity a0_Share_Low a0_Share_High
    have hk := h
    exact ⟨(fun _ _ => []), (fun _ => false), ann112, q112 (⟨a0_Opacity, (⟨a0_Share_Low, a0_Share_High⟩ : Span)⟩ : KinkRow) K hk⟩
  · exact h.elim
-- 110 flux.monotone[api.KinkRow]
abbrev T110 : Tabs := (((((Tabs.nil.addF 63 ctr63).addF 69 ctr69).addF 94 ctr94).addF 111 ctr111).addF 112 ctr112)
theorem okT110 : TabsOk Try.prog T110 := (((((TabsOk.nil.addF ok63).addF ok69).addF ok94).addF ok111).addF ok112)
abbrev G110 : Ctrs := csm T110 (fun _ _ => []) (fun _ => false)
def ann110 : Ann := ⟨73, [(0, ⟨[0, 1, 2, 3, 4, 5, 6], [], [], [], []⟩), (1, ⟨[0, 1, 2, 3, 4, 5, 6, 17, 18, 19], [], [], [], []⟩), (2, ⟨[0, 1, 2, 3, 4, 5, 6, 17, 18, 19, 20], [], [], [], []⟩), (3, ⟨[0, 1, 2, 3, 4, 5, 6, 15, 16, 17, 18, 19], [16], [], [], []⟩), (4, ⟨[0, 1, 2, 3, 4, 5, 6, 15, 16, 17, 18, 19, 38], [16], [], [], []⟩), (5, ⟨[14], [], [], [], []⟩), (6, ⟨[0, 1, 2, 3, 4, 5, 6, 17, 18, 19, 68], [], [], [], []⟩), (7, ⟨[14], [], [], [], []⟩), (8, ⟨[0, 1, 2, 3, 4, 5, 6, 17, 18, 19], [], [], [], []⟩), (9, ⟨[14], [], [], [], []⟩)],
  [(2, ⟨[0, 1, 2, 3, 4, 5, 6, 17, 18, 19], [], [], [], []⟩)],
  [(5, ⟨[0, 1, 2, 3, 4, 5, 6, 15, 16, 17, 18, 19, 38], [16], [], [], []⟩), (6, ⟨[0, 1, 2, 3, 4, 5, 6, 15, 16, 17, 18, 19], [16], [], [], []⟩), (7, ⟨[0, 1, 2, 3, 4, 5, 6, 17, 18, 19, 68], [], [], [], []⟩)],
  [], []⟩
def f110_g0 (rows : (Sl KinkRow)) (from_a1 : Int) (until_a2 : Int) (most : Int) (t19v0 : Int) : St := ⟨[(0, .one (.c (.p (.sl rows.len 3 (fun i => enc_129 (rows.get i)))))), (1, .one (.c (.p (.int .i64 from_a1)))), (2, .one (.c (.p (.int .i64 until_a2)))), (3, .one (.c (.p (.fn 111 [] [])))), (4, .one (.c (.p (.fn 112 [] [])))), (5, .one (.c (.p (.int .i64 most)))), (6, .one (.c (.p (.fn 94 [] [])))), (17, .one (.c (.p (.sl rows.len 3 (fun i => enc_129 (rows.get i)))))), (18, .one (.c (.p (.int .i64 (rows.len : Int))))), (19, .one (.c (.p (.int .i64 t19v0))))], [], []⟩
def f110_at0 (K : List PA → Prop) (rows : (Sl KinkRow)) (from_a1 : Int) (until_a2 : Int) (most : Int) (t19v0 : Int) : Prop := vc Try.prog G110 ann110 (cdF Try.f110 [1, 0, 1, 0]) (blockK 0 (sqK Try.prog G110 ann110 (cdF Try.f110 [1, 1]) (bodyK Try.prog Try.f110 K))) (f110_g0 rows from_a1 until_a2 most t19v0)
def f110_g1 (rows : (Sl KinkRow)) (from_a1 : Int) (until_a2 : Int) (most : Int) (iv1 : Int) (t19v1 : Int) (t38v1 : Bool) (r_0v1 : Int) (r_1v1 : Int) (r_2v1 : Int) : St := ⟨[(0, .one (.c (.p (.sl rows.len 3 (fun i => enc_129 (rows.get i)))))), (1, .one (.c (.p (.int .i64 from_a1)))), (2, .one (.c (.p (.int .i64 until_a2)))), (3, .one (.c (.p (.fn 111 [] [])))), (4, .one (.c (.p (.fn 112 [] [])))), (5, .one (.c (.p (.int .i64 most)))), (6, .one (.c (.p (.fn 94 [] [])))), (15, .one (.c (.p (.int .i64 iv1)))), (16, .one (.c (.ptr 16 0))), (17, .one (.c (.p (.sl rows.len 3 (fun i => enc_129 (rows.get i)))))), (18, .one (.c (.p (.int .i64 (rows.len : Int))))), (19, .one (.c (.p (.int .i64 t19v1)))), (38, .one (.c (.p (.bool t38v1))))], [(16, .box 129 [.p (.int .i64 r_0v1), .p (.int .i64 r_1v1), .p (.int .i64 r_2v1)])], []⟩
def f110_at1 (K : List PA → Prop) (X0 : St → Prop) (rows : (Sl KinkRow)) (from_a1 : Int) (until_a2 : Int) (most : Int) (iv1 : Int) (t19v1 : Int) (t38v1 : Bool) (r_0v1 : Int) (r_1v1 : Int) (r_2v1 : Int) : Prop := vc Try.prog G110 ann110 (cdF Try.f110 [1, 0, 1, 0, 0, 1, 1, 0, 0, 1, 0, 1]) (sqK Try.prog G110 ann110 (cdF Try.f110 [1, 0, 1, 0, 0, 1, 1, 0, 0, 1, 1]) (blockK 1 (sqK Try.prog G110 ann110 (cdF Try.f110 [1, 0, 1, 0, 0, 1, 1, 1]) (loopK Try.prog ann110 2 X0 (blockK 0 (sqK Try.prog G110 ann110 (cdF Try.f110 [1, 1]) (bodyK Try.prog Try.f110 K))))))) (f110_g1 rows from_a1 until_a2 most iv1 t19v1 t38v1 r_0v1 r_1v1 r_2v1)
def f110_g2 (rows : (Sl KinkRow)) (from_a1 : Int) (until_a2 : Int) (most : Int) (iv2 : Int) (t19v2 : Int) (r_0v2 : Int) (r_1v2 : Int) (r_2v2 : Int) : St := ⟨[(0, .one (.c (.p (.sl rows.len 3 (fun i => enc_129 (rows.get i)))))), (1, .one (.c (.p (.int .i64 from_a1)))), (2, .one (.c (.p (.int .i64 until_a2)))), (3, .one (.c (.p (.fn 111 [] [])))), (4, .one (.c (.p (.fn 112 [] [])))), (5, .one (.c (.p (.int .i64 most)))), (6, .one (.c (.p (.fn 94 [] [])))), (15, .one (.c (.p (.int .i64 iv2)))), (16, .one (.c (.ptr 16 0))), (17, .one (.c (.p (.sl rows.len 3 (fun i => enc_129 (rows.get i)))))), (18, .one (.c (.p (.int .i64 (rows.len : Int))))), (19, .one (.c (.p (.int .i64 t19v2))))], [(16, .box 129 [.p (.int .i64 r_0v2), .p (.int .i64 r_1v2), .p (.int .i64 r_2v2)])], []⟩
def f110_at2 (K : List PA → Prop) (X0 : St → Prop) (rows : (Sl KinkRow)) (from_a1 : Int) (until_a2 : Int) (most : Int) (iv2 : Int) (t19v2 : Int) (r_0v2 : Int) (r_1v2 : Int) (r_2v2 : Int) : Prop := vc Try.prog G110 ann110 (cdF Try.f110 [1, 0, 1, 0, 0, 1, 1, 0, 0, 1, 1]) (blockK 1 (sqK Try.prog G110 ann110 (cdF Try.f110 [1, 0, 1, 0, 0, 1, 1, 1]) (loopK Try.prog ann110 2 X0 (blockK 0 (sqK Try.prog G110 ann110 (cdF Try.f110 [1, 1]) (bodyK Try.prog Try.f110 K)))))) (f110_g2 rows from_a1 until_a2 most iv2 t19v2 r_0v2 r_1v2 r_2v2)
def f110_g3 (rows : (Sl KinkRow)) (from_a1 : Int) (until_a2 : Int) (most : Int) (t19v3 : Int) (t68v3 : Bool) : St := ⟨[(0, .one (.c (.p (.sl rows.len 3 (fun i => enc_129 (rows.get i)))))), (1, .one (.c (.p (.int .i64 from_a1)))), (2, .one (.c (.p (.int .i64 until_a2)))), (3, .one (.c (.p (.fn 111 [] [])))), (4, .one (.c (.p (.fn 112 [] [])))), (5, .one (.c (.p (.int .i64 most)))), (6, .one (.c (.p (.fn 94 [] [])))), (17, .one (.c (.p (.sl rows.len 3 (fun i => enc_129 (rows.get i)))))), (18, .one (.c (.p (.int .i64 (rows.len : Int))))), (19, .one (.c (.p (.int .i64 t19v3)))), (68, .one (.c (.p (.bool t68v3))))], [], []⟩
def f110_at3 (K : List PA → Prop) (X0 : St → Prop) (rows : (Sl KinkRow)) (from_a1 : Int) (until_a2 : Int) (most : Int) (t19v3 : Int) (t68v3 : Bool) : Prop := vc Try.prog G110 ann110 (cdF Try.f110 [1, 0, 1, 0, 0, 1, 1, 0, 0, 1, 1, 1]) (blockK 1 (sqK Try.prog G110 ann110 (cdF Try.f110 [1, 0, 1, 0, 0, 1, 1, 1]) (loopK Try.prog ann110 2 X0 (blockK 0 (sqK Try.prog G110 ann110 (cdF Try.f110 [1, 1]) (bodyK Try.prog Try.f110 K)))))) (f110_g3 rows from_a1 until_a2 most t19v3 t68v3)
theorem f110_top (rows : (Sl KinkRow)) (from_a1 : Int) (until_a2 : Int) (most : Int) (K : List PA → Prop) :
  vcFun Try.prog G110 ann110 110 [.one (.sl rows.len 3 (fun i => enc_129 (rows.get i))), .one (.int .i64 from_a1), .one (.int .i64 until_a2), .one (.fn 111 [] []), .one (.fn 112 [] []), .one (.int .i64 most), .one (.fn 94 [] [])] K =
  (f110_at0 K rows from_a1 until_a2 most (0:Int)) := by kernel_rfl
def f110_step0 (K : List PA → Prop) (X0 : St → Prop) (rows : (Sl KinkRow)) (from_a1 : Int) (until_a2 : Int) (most : Int) (t19v0 : Int) : Prop :=
  (condP (decide (t19v0 < (rows.len : Int)))
   (((0 ≤ t19v0 ∧ t19v0 < (rows.len : Int))) ∧
   (condP (!(s63 (s111 (rows.get t19v0.toNat)) from_a1 until_a2))
    (f110_at1 K X0 rows from_a1 until_a2 most t19v0 t19v0 true ((rows.get t19v0.toNat).Opacity) ((rows.get t19v0.toNat).Share.Low) ((rows.get t19v0.toNat).Share.High))
    (f110_at1 K X0 rows from_a1 until_a2 most t19v0 t19v0 (!(s69 (s112 (rows.get t19v0.toNat)) (0:Int) most)) ((rows.get t19v0.toNat).Opacity) ((rows.get t19v0.toNat).Share.Low) ((rows.get t19v0.toNat).Share.High))))
   (K [.one (.bool (s63 (rows.len : Int) (1:Int) (40:Int)))]))
theorem f110_stepeq0 (K : List PA → Prop) (X0 : St → Prop) (rows : (Sl KinkRow)) (from_a1 : Int) (until_a2 : Int) (most : Int) (t19v0 : Int) :
  vc Try.prog G110 ann110 (cd (cdF Try.f110 [1, 0, 1, 0]) [0]) (loopK Try.prog ann110 2 X0 (blockK 0 (sqK Try.prog G110 ann110 (cdF Try.f110 [1, 1]) (bodyK Try.prog Try.f110 K)))) (f110_g0 rows from_a1 until_a2 most t19v0) =
  f110_step0 K X0 rows from_a1 until_a2 most t19v0 := by kernel_rfl
theorem f110_loop0 (K : List PA → Prop) (rows : (Sl KinkRow)) (from_a1 : Int) (until_a2 : Int) (most : Int) (t19v0 : Int)
  (h : ∀ X0 : St → Prop, (∀ (t19v0 : Int), f110_step0 K X0 rows from_a1 until_a2 most t19v0 → X0 (f110_g0 rows from_a1 until_a2 most t19v0)) → X0 (f110_g0 rows from_a1 until_a2 most t19v0)) :
  f110_at0 K rows from_a1 until_a2 most t19v0 := by
  have e : f110_at0 K rows from_a1 until_a2 most t19v0 = (∀ X : St → Prop, (∀ s, vc Try.prog G110 ann110 (cd (cdF Try.f110 [1, 0, 1, 0]) [0]) (loopK Try.prog ann110 2 X (blockK 0 (sqK Try.prog G110 ann110 (cdF Try.f110 [1, 1]) (bodyK Try.prog Try.f110 K)))) s → X s) → X (f110_g0 rows from_a1 until_a2 most t19v0)) := by kernel_rfl
  refine ofEq e ?_
  intro X hX
  refine h X ?_
  intro t19v0 hs
  refine hX _ ?_
  have e2 := f110_stepeq0 K X rows from_a1 until_a2 most t19v0
  rw [e2]
  exact hs
theorem f110_eq1 (K : List PA → Prop) (X0 : St → Prop) (rows : (Sl KinkRow)) (from_a1 : Int) (until_a2 : Int) (most : Int) (iv1 : Int) (t19v1 : Int) (t38v1 : Bool) (r_0v1 : Int) (r_1v1 : Int) (r_2v1 : Int) :
  f110_at1 K X0 rows from_a1 until_a2 most iv1 t19v1 t38v1 r_0v1 r_1v1 r_2v1 =
  (condP t38v1
   (K [.one (.bool false)])
   (f110_at2 K X0 rows from_a1 until_a2 most iv1 t19v1 r_0v1 r_1v1 r_2v1)) := by kernel_rfl
theorem f110_eq2 (K : List PA → Prop) (X0 : St → Prop) (rows : (Sl KinkRow)) (from_a1 : Int) (until_a2 : Int) (most : Int) (iv2 : Int) (t19v2 : Int) (r_0v2 : Int) (r_1v2 : Int) (r_2v2 : Int) :
  f110_at2 K X0 rows from_a1 until_a2 most iv2 t19v2 r_0v2 r_1v2 r_2v2 =
  (condP (decide (iv2 > (0:Int)))
   (((0 ≤ (w64 (iv2 - (1:Int))) ∧ (w64 (iv2 - (1:Int))) < (rows.len : Int))) ∧
   (condP (decide ((s111 (⟨r_0v2, (⟨r_1v2, r_2v2⟩ : Span)⟩ : KinkRow)) ≤ (s111 (rows.get ((w64 (iv2 - (1:Int))).toNat)))))
    (f110_at3 K X0 rows from_a1 until_a2 most t19v2 true)
    (((0 ≤ (w64 (iv2 - (1:Int))) ∧ (w64 (iv2 - (1:Int))) < (rows.len : Int))) ∧
    (f110_at3 K X0 rows from_a1 until_a2 most t19v2 (!(s94 (s112 (rows.get ((w64 (iv2 - (1:Int))).toNat))) (s112 (⟨r_0v2, (⟨r_1v2, r_2v2⟩ : Span)⟩ : KinkRow))))))))
   (f110_at3 K X0 rows from_a1 until_a2 most t19v2 false)) := by kernel_rfl
theorem f110_eq3 (K : List PA → Prop) (X0 : St → Prop) (rows : (Sl KinkRow)) (from_a1 : Int) (until_a2 : Int) (most : Int) (t19v3 : Int) (t68v3 : Bool) :
  f110_at3 K X0 rows from_a1 until_a2 most t19v3 t68v3 =
  (condP t68v3
   (K [.one (.bool false)])
   (X0 (f110_g0 rows from_a1 until_a2 most (w64 (t19v3 + (1:Int)))))) := by kernel_rfl
abbrev R110 := Bool
abbrev e110 (r : Bool) : List PA := [.one (.bool r)]
attribute [irreducible] f110_at0 f110_at1 f110_at2 f110_at3
def s110_at3 (S0 : Int → Bool) (rows : (Sl KinkRow)) (from_a1 : Int) (until_a2 : Int) (most : Int) (t19v3 : Int) (t68v3 : Bool) : Bool :=
  (cond t68v3
   false
   (S0 (w64 (t19v3 + (1:Int)))))
def p110_at3 (P0 : Int → Bool) (rows : (Sl KinkRow)) (from_a1 : Int) (until_a2 : Int) (most : Int) (t19v3 : Int) (t68v3 : Bool) : Bool :=
  (cond t68v3
   true
   (P0 (w64 (t19v3 + (1:Int)))))
theorem q110_at3 (K : List PA → Prop) (rows : (Sl KinkRow)) (from_a1 : Int) (until_a2 : Int) (most : Int)
  (X0 : St → Prop) (P0 : Int → Bool) (S0 : Int → Bool)
  (hX0 : ∀ (t19v0 : Int), P0 t19v0 = true → K (e110 (S0 t19v0)) → X0 (f110_g0 rows from_a1 until_a2 most t19v0)) (t19v3 : Int) (t68v3 : Bool) (hs : p110_at3 P0 rows from_a1 until_a2 most t19v3 t68v3 = true) (hk : K (e110 (s110_at3 S0 rows from_a1 until_a2 most t19v3 t68v3))) : f110_at3 K X0 rows from_a1 until_a2 most t19v3 t68v3 := by
  refine ofEq (f110_eq3 K X0 rows from_a1 until_a2 most t19v3 t68v3) ?_
  unfold p110_at3 at hs
  unfold s110_at3 at hk
  exact (condB_go (K := fun r => K (e110 r))
   (fun hs hk => hk)
   (fun hs hk => (hX0 (w64 (t19v3 + (1:Int))) hs hk)) hs hk)
def s110_at2 (S0 : Int → Bool) (rows : (Sl KinkRow)) (from_a1 : Int) (until_a2 : Int) (most : Int) (iv2 : Int) (t19v2 : Int) (r_0v2 : Int) (r_1v2 : Int) (r_2v2 : Int) : Bool :=
  (cond (decide (iv2 > (0:Int)))
   (cond (decide ((s111 (⟨r_0v2, (⟨r_1v2, r_2v2⟩ : Span)⟩ : KinkRow)) ≤ (s111 (rows.get ((w64 (iv2 - (1:Int))).toNat)))))
    (s110_at3 S0 rows from_a1 until_a2 most t19v2 true)
    (s110_at3 S0 rows from_a1 until_a2 most t19v2 (!(s94 (s112 (rows.get ((w64 (iv2 - (1:Int))).toNat))) (s112 (⟨r_0v2, (⟨r_1v2, r_2v2⟩ : Span)⟩ : KinkRow))))))
   (s110_at3 S0 rows from_a1 until_a2 most t19v2 false))
def p110_at2 (P0 : Int → Bool) (rows : (Sl KinkRow)) (from_a1 : Int) (until_a2 : Int) (most : Int) (iv2 : Int) (t19v2 : Int) (r_0v2 : Int) (r_1v2 : Int) (r_2v2 : Int) : Bool :=
  (cond (decide (iv2 > (0:Int)))
   (decide ((0 ≤ (w64 (iv2 - (1:Int))) ∧ (w64 (iv2 - (1:Int))) < (rows.len : Int))) &&
   (cond (decide ((s111 (⟨r_0v2, (⟨r_1v2, r_2v2⟩ : Span)⟩ : KinkRow)) ≤ (s111 (rows.get ((w64 (iv2 - (1:Int))).toNat)))))
    (p110_at3 P0 rows from_a1 until_a2 most t19v2 true)
    (decide ((0 ≤ (w64 (iv2 - (1:Int))) ∧ (w64 (iv2 - (1:Int))) < (rows.len : Int))) &&
    (p110_at3 P0 rows from_a1 until_a2 most t19v2 (!(s94 (s112 (rows.get ((w64 (iv2 - (1:Int))).toNat))) (s112 (⟨r_0v2, (⟨r_1v2, r_2v2⟩ : Span)⟩ : KinkRow))))))))
   (p110_at3 P0 rows from_a1 until_a2 most t19v2 false))
theorem q110_at2 (K : List PA → Prop) (rows : (Sl KinkRow)) (from_a1 : Int) (until_a2 : Int) (most : Int)
  (X0 : St → Prop) (P0 : Int → Bool) (S0 : Int → Bool)
  (hX0 : ∀ (t19v0 : Int), P0 t19v0 = true → K (e110 (S0 t19v0)) → X0 (f110_g0 rows from_a1 until_a2 most t19v0)) (iv2 : Int) (t19v2 : Int) (r_0v2 : Int) (r_1v2 : Int) (r_2v2 : Int) (hs : p110_at2 P0 rows from_a1 until_a2 most iv2 t19v2 r_0v2 r_1v2 r_2v2 = true) (hk : K (e110 (s110_at2 S0 rows from_a1 until_a2 most iv2 t19v2 r_0v2 r_1v2 r_2v2))) : f110_at2 K X0 rows from_a1 until_a2 most iv2 t19v2 r_0v2 r_1v2 r_2v2 := by
  refine ofEq (f110_eq2 K X0 rows from_a1 until_a2 most iv2 t19v2 r_0v2 r_1v2 r_2v2) ?_
  unfold p110_at2 at hs
  unfold s110_at2 at hk
  exact (condB_go (K := fun r => K (e110 r))
   (fun hs hk => (andK hs fun hc hs => ⟨hc, (condB_go (K := fun r => K (e110 r))
    (fun hs hk => (q110_at3 K rows from_a1 until_a2 most X0 P0 S0 hX0 t19v2 true hs hk))
    (fun hs hk => (andK hs fun hc hs => ⟨hc, (q110_at3 K rows from_a1 until_a2 most X0 P0 S0 hX0 t19v2 (!(s94 (s112 (rows.get ((w64 (iv2 - (1:Int))).toNat))) (s112 (⟨r_0v2, (⟨r_1v2, r_2v2⟩ : Span)⟩ : KinkRow)))) hs hk)⟩)) hs hk)⟩))
   (fun hs hk => (q110_at3 K rows from_a1 until_a2 most X0 P0 S0 hX0 t19v2 false hs hk)) hs hk)
def s110_at1 (S0 : Int → Bool) (rows : (Sl KinkRow)) (from_a1 : Int) (until_a2 : Int) (most : Int) (iv1 : Int) (t19v1 : Int) (t38v1 : Bool) (r_0v1 : Int) (r_1v1 : Int) (r_2v1 : Int) : Bool :=
  (cond t38v1
   false
   (s110_at2 S0 rows from_a1 until_a2 most iv1 t19v1 r_0v1 r_1v1 r_2v1))
def p110_at1 (P0 : Int → Bool) (rows : (Sl KinkRow)) (from_a1 : Int) (until_a2 : Int) (most : Int) (iv1 : Int) (t19v1 : Int) (t38v1 : Bool) (r_0v1 : Int) (r_1v1 : Int) (r_2v1 : Int) : Bool :=
  (cond t38v1
   true
   (p110_at2 P0 rows from_a1 until_a2 most iv1 t19v1 r_0v1 r_1v1 r_2v1))
theorem q110_at1 (K : List PA → Prop) (rows : (Sl KinkRow)) (from_a1 : Int) (until_a2 : Int) (most : Int)
  (X0 : St → Prop) (P0 : Int → Bool) (S0 : Int → Bool)
  (hX0 : ∀ (t19v0 : Int), P0 t19v0 = true → K (e110 (S0 t19v0)) → X0 (f110_g0 rows from_a1 until_a2 most t19v0)) (iv1 : Int) (t19v1 : Int) (t38v1 : Bool) (r_0v1 : Int) (r_1v1 : Int) (r_2v1 : Int) (hs : p110_at1 P0 rows from_a1 until_a2 most iv1 t19v1 t38v1 r_0v1 r_1v1 r_2v1 = true) (hk : K (e110 (s110_at1 S0 rows from_a1 until_a2 most iv1 t19v1 t38v1 r_0v1 r_1v1 r_2v1))) : f110_at1 K X0 rows from_a1 until_a2 most iv1 t19v1 t38v1 r_0v1 r_1v1 r_2v1 := by
  refine ofEq (f110_eq1 K X0 rows from_a1 until_a2 most iv1 t19v1 t38v1 r_0v1 r_1v1 r_2v1) ?_
  unfold p110_at1 at hs
  unfold s110_at1 at hk
  exact (condB_go (K := fun r => K (e110 r))
   (fun hs hk => hk)
   (fun hs hk => (q110_at2 K rows from_a1 until_a2 most X0 P0 S0 hX0 iv1 t19v1 r_0v1 r_1v1 r_2v1 hs hk)) hs hk)
def s110_st0 (rows : (Sl KinkRow)) (from_a1 : Int) (until_a2 : Int) (most : Int) (S0 : Int → Bool) (t19v0 : Int) : Bool :=
  (cond (decide (t19v0 < (rows.len : Int)))
   (cond (!(s63 (s111 (rows.get t19v0.toNat)) from_a1 until_a2))
    (s110_at1 S0 rows from_a1 until_a2 most t19v0 t19v0 true ((rows.get t19v0.toNat).Opacity) ((rows.get t19v0.toNat).Share.Low) ((rows.get t19v0.toNat).Share.High))
    (s110_at1 S0 rows from_a1 until_a2 most t19v0 t19v0 (!(s69 (s112 (rows.get t19v0.toNat)) (0:Int) most)) ((rows.get t19v0.toNat).Opacity) ((rows.get t19v0.toNat).Share.Low) ((rows.get t19v0.toNat).Share.High)))
   (s63 (rows.len : Int) (1:Int) (40:Int)))
def p110_st0 (rows : (Sl KinkRow)) (from_a1 : Int) (until_a2 : Int) (most : Int) (P0 : Int → Bool) (t19v0 : Int) : Bool :=
  (cond (decide (t19v0 < (rows.len : Int)))
   (decide ((0 ≤ t19v0 ∧ t19v0 < (rows.len : Int))) &&
   (cond (!(s63 (s111 (rows.get t19v0.toNat)) from_a1 until_a2))
    (p110_at1 P0 rows from_a1 until_a2 most t19v0 t19v0 true ((rows.get t19v0.toNat).Opacity) ((rows.get t19v0.toNat).Share.Low) ((rows.get t19v0.toNat).Share.High))
    (p110_at1 P0 rows from_a1 until_a2 most t19v0 t19v0 (!(s69 (s112 (rows.get t19v0.toNat)) (0:Int) most)) ((rows.get t19v0.toNat).Opacity) ((rows.get t19v0.toNat).Share.Low) ((rows.get t19v0.toNat).Share.High))))
   true)
def s110_lp0 (rows : (Sl KinkRow)) (from_a1 : Int) (until_a2 : Int) (most : Int) : Nat → Int → Bool
  | 0 => fun _ => default
  | k + 1 => s110_st0 rows from_a1 until_a2 most (s110_lp0 rows from_a1 until_a2 most k)
def p110_lp0 (rows : (Sl KinkRow)) (from_a1 : Int) (until_a2 : Int) (most : Int) : Nat → Int → Bool
  | 0 => fun _ => false
  | k + 1 => p110_st0 rows from_a1 until_a2 most (p110_lp0 rows from_a1 until_a2 most k)
def s110_at0 (rows : (Sl KinkRow)) (from_a1 : Int) (until_a2 : Int) (most : Int) (t19v0 : Int) : Bool := s110_lp0 rows from_a1 until_a2 most Fuel t19v0
def p110_at0 (rows : (Sl KinkRow)) (from_a1 : Int) (until_a2 : Int) (most : Int) (t19v0 : Int) : Bool := p110_lp0 rows from_a1 until_a2 most Fuel t19v0
theorem q110_at0 (K : List PA → Prop) (rows : (Sl KinkRow)) (from_a1 : Int) (until_a2 : Int) (most : Int) (t19v0 : Int) (hs : p110_at0 rows from_a1 until_a2 most t19v0 = true) (hk : K (e110 (s110_at0 rows from_a1 until_a2 most t19v0))) : f110_at0 K rows from_a1 until_a2 most t19v0 := by
  refine f110_loop0 K rows from_a1 until_a2 most t19v0 ?_
  intro X0 hstep
  have key : ∀ (k : Nat) (t19v0 : Int), p110_lp0 rows from_a1 until_a2 most k t19v0 = true → K (e110 (s110_lp0 rows from_a1 until_a2 most k t19v0)) → X0 (f110_g0 rows from_a1 until_a2 most t19v0) := by
    intro k
    induction k with
    | zero => intro t19v0 hs; exact absurd hs Bool.false_ne_true
    | succ k ih =>
      intro t19v0 hs hk
      refine hstep t19v0 ?_
      have hs : p110_st0 rows from_a1 until_a2 most (p110_lp0 rows from_a1 until_a2 most k) t19v0 = true := hs
      have hk : K (e110 (s110_st0 rows from_a1 until_a2 most (s110_lp0 rows from_a1 until_a2 most k) t19v0)) := hk
      unfold p110_st0 at hs
      unfold s110_st0 at hk
      generalize s110_lp0 rows from_a1 until_a2 most k = S0 at hk ih
      generalize p110_lp0 rows from_a1 until_a2 most k = P0 at hs ih
      have hX0 := ih
      exact (condB_go (K := fun r => K (e110 r))
       (fun hs hk => (andK hs fun hc hs => ⟨hc, (condB_go (K := fun r => K (e110 r))
        (fun hs hk => (q110_at1 K rows from_a1 until_a2 most X0 P0 S0 hX0 t19v0 t19v0 true ((rows.get t19v0.toNat).Opacity) ((rows.get t19v0.toNat).Share.Low) ((rows.get t19v0.toNat).Share.High) hs hk))
        (fun hs hk => (q110_at1 K rows from_a1 until_a2 most X0 P0 S0 hX0 t19v0 t19v0 (!(s69 (s112 (rows.get t19v0.toNat)) (0:Int) most)) ((rows.get t19v0.toNat).Opacity) ((rows.get t19v0.toNat).Share.Low) ((rows.get t19v0.toNat).Share.High) hs hk)) hs hk)⟩))
       (fun hs hk => hk) hs hk)
  exact key _ t19v0 hs hk
def s110 (rows : (Sl KinkRow)) (from_a1 : Int) (until_a2 : Int) (most : Int) : Bool :=
  (s110_at0 rows from_a1 until_a2 most (0:Int))
def p110 (rows : (Sl KinkRow)) (from_a1 : Int) (until_a2 : Int) (most : Int) : Bool :=
  (p110_at0 rows from_a1 until_a2 most (0:Int))
theorem q110 (rows : (Sl KinkRow)) (from_a1 : Int) (until_a2 : Int) (most : Int) (K : List PA → Prop) (hs : p110 rows from_a1 until_a2 most = true) (hk : K (e110 (s110 rows from_a1 until_a2 most))) : vcFun Try.prog G110 ann110 110 [.one (.sl rows.len 3 (fun i => enc_129 (rows.get i))), .one (.int .i64 from_a1), .one (.int .i64 until_a2), .one (.fn 111 [] []), .one (.fn 112 [] []), .one (.int .i64 most), .one (.fn 94 [] [])] K := by
  refine ofEq (f110_top rows from_a1 until_a2 most K) ?_
  unfold p110 at hs
  unfold s110 at hk
  exact (q110_at0 K rows from_a1 until_a2 most (0:Int) hs hk)
def ctr110 : List PA → COut
  | [.one (.sl a0_n a0_s a0_g), .one (.int .i64 a1), .one (.int .i64 a2), .one (.fn 111 [] []), .one (.fn 112 [] []), .one (.int .i64 a5), .one (.fn 94 [] [])] => .det (IsE enc_129 3 a0_s a0_g ∧ p110 (⟨a0_n, decF_129 a0_g⟩ : (Sl KinkRow)) a1 a2 a5 = true) [.one (.bool (s110 (⟨a0_n, decF_129 a0_g⟩ : (Sl KinkRow)) a1 a2 a5))]
  | _ => .no
theorem call110 : Callable Try.prog 110 := ⟨_, rfl, rfl, by kernel_rfl⟩
theorem ok110 : Ok Try.prog 110 ctr110 := ok_tab okT110 call110 fun args K h => by
  unfold ctr110 at h
  split at h
  · rename_i a0_n a0_s a0_g a1 a2 a5
    obtain ⟨⟨⟨rfl, a0_f, rfl⟩, hs⟩, hk⟩ := h
    try rw [decF_enc_129 a0_f] at hs
    try rw [decF_enc_129 a0_f] at hk
    exact ⟨(fun _ _ => []), (fun _ => false), ann110, q110 (⟨a0_n, a0_f⟩ : (Sl KinkRow)) a1 a2 a5 K hs hk⟩
  · exact h.elim
-- 85 flux.kinked
abbrev T85 : Tabs := ((Tabs.nil.addF 63 ctr63).addF 110 ctr110)
theorem okT85 : TabsOk Try.prog T85 := ((TabsOk.nil.addF ok63).addF ok110)
abbrev G85 : Ctrs := csm T85 (fun _ _ => []) (fun _ => false)
def ann85 : Ann := ⟨12, [(0, ⟨[0, 1], [], [], [], []⟩), (1, ⟨[4], [], [], [], []⟩)],
  [],
  [],
  [], []⟩
theorem f85_top (parts : Int) (t : (Sl KinkRow)) (K : List PA → Prop) :
  vcFun Try.prog G85 ann85 85 [.one (.int .i64 parts), .one (.sl t.len 3 (fun i => enc_129 (t.get i)))] K =
  (condP (s63 parts (2:Int) (1000000:Int))
   ((IsE enc_129 3 3 (fun i => enc_129 (t.get i)) ∧ (p110 t (0:Int) (1000000:Int) parts = true)) ∧
   (K [.one (.bool (s110 t (0:Int) (1000000:Int) parts))]))
   (K [.one (.bool false)])) := by kernel_rfl
abbrev R85 := Bool
abbrev e85 (r : Bool) : List PA := [.one (.bool r)]
def s85 (parts : Int) (t : (Sl KinkRow)) : Bool :=
  (cond (s63 parts (2:Int) (1000000:Int))
   (s110 t (0:Int) (1000000:Int) parts)
   false)
def p85 (parts : Int) (t : (Sl KinkRow)) : Bool :=
  (cond (s63 parts (2:Int) (1000000:Int))
   (decide ((p110 t (0:Int) (1000000:Int) parts = true)) &&
   true)
   true)
theorem q85 (parts : Int) (t : (Sl KinkRow)) (K : List PA → Prop) (hs : p85 parts t = true) (hk : K (e85 (s85 parts t))) : vcFun Try.prog G85 ann85 85 [.one (.int .i64 parts), .one (.sl t.len 3 (fun i => enc_129 (t.get i)))] K := by
  refine ofEq (f85_top parts t K) ?_
  unfold p85 at hs
  unfold s85 at hk
  exact (condB_go (K := fun r => K (e85 r))
   (fun hs hk => (andK hs fun hc hs => ⟨⟨isE, hc⟩, hk⟩))
   (fun hs hk => hk) hs hk)
def ctr85 : List PA → COut
  | [.one (.int .i64 a0), .one (.sl a1_n a1_s a1_g)] => .det (IsE enc_129 3 a1_s a1_g ∧ p85 a0 (⟨a1_n, decF_129 a1_g⟩ : (Sl KinkRow)) = true) [.one (.bool (s85 a0 (⟨a1_n, decF_129 a1_g⟩ : (Sl KinkRow))))]
  | _ => .no
theorem call85 : Callable Try.prog 85 := ⟨_, rfl, rfl, by kernel_rfl⟩
theorem ok85 : Ok Try.prog 85 ctr85 := ok_tab okT85 call85 fun args K h => by
  unfold ctr85 at h
  split at h
  · rename_i a0 a1_n a1_s a1_g
    obtain ⟨⟨⟨rfl, a1_f, rfl⟩, hs⟩, hk⟩ := h
    try rw [decF_enc_129 a1_f] at hs
    try rw [decF_enc_129 a1_f] at hk
    exact ⟨(fun _ _ => []), (fun _ => false), ann85, q85 a0 (⟨a1_n, a1_f⟩ : (Sl KinkRow)) K hs hk⟩
  · exact h.elim
-- 87 flux.Shares$1
abbrev T87 : Tabs := Tabs.nil
theorem okT87 : TabsOk Try.prog T87 := TabsOk.nil
abbrev G87 : Ctrs := csm T87 (fun _ _ => []) (fun _ => false)
def ann87 : Ann := ⟨8, [(0, ⟨[1, 2], [2], [], [], []⟩), (1, ⟨[3], [], [], [], []⟩)],
  [],
  [],
  [], []⟩
theorem f87_top (c0 : Int) (r_a0 : KinkRow) (K : List PA → Prop) :
  vcFun Try.prog G87 ann87 87 [.agg [.int .i64 r_a0.Opacity, .int .i64 r_a0.Share.Low, .int .i64 r_a0.Share.High], .one (.fp (enc_3 c0) 0)] K =
  (K [.one (.bool (decide (r_a0.Opacity > c0)))]) := by kernel_rfl
abbrev R87 := Bool
abbrev e87 (r : Bool) : List PA := [.one (.bool r)]
def s87 (c0 : Int) (r_a0 : KinkRow) : Bool :=
  (decide (r_a0.Opacity > c0))
theorem q87 (c0 : Int) (r_a0 : KinkRow) (K : List PA → Prop) (hk : K (e87 (s87 c0 r_a0))) : vcFun Try.prog G87 ann87 87 [.agg [.int .i64 r_a0.Opacity, .int .i64 r_a0.Share.Low, .int .i64 r_a0.Share.High], .one (.fp (enc_3 c0) 0)] K := by
  refine ofEq (f87_top c0 r_a0 K) ?_
  unfold s87 at hk
  exact hk
def ctr87 : List PA → COut
  | [.agg [.int .i64 a0_Opacity, .int .i64 a0_Share_Low, .int .i64 a0_Share_High], .one (.fp [.int .i64 c0] 0)] => .tot [.one (.bool (s87 c0 (⟨a0_Opacity, (⟨a0_Share_Low, a0_Share_High⟩ : Span)⟩ : KinkRow)))]
  | _ => .no
theorem call87 : Callable Try.prog 87 := ⟨_, rfl, rfl, by kernel_rfl⟩
theorem ok87 : Ok Try.prog 87 ctr87 := ok_tab okT87 call87 fun args K h => by
  unfold ctr87 at h
  split at h
  · rename_i a0_Opacity a0_Share_Low a0_Share_High c0
    have hk := h
    exact ⟨(fun _ _ => []), (fun _ => false), ann87, q87 c0 (⟨a0_Opacity, (⟨a0_Share_Low, a0_Share_High⟩ : Span)⟩ : KinkRow) K hk⟩
  · exact h.elim
-- 88 flux.Shares$2
abbrev T88 : Tabs := Tabs.nil
theorem okT88 : TabsOk Try.prog T88 := TabsOk.nil
abbrev G88 : Ctrs := csm T88 (fun _ _ => []) (fun _ => false)
def ann88 : Ann := ⟨8, [(0, ⟨[1, 2], [2], [], [], []⟩), (1, ⟨[3], [], [], [], []⟩)],
  [],
  [],
  [], []⟩
theorem f88_top (c0 : Int) (r_a0 : KinkRow) (K : List PA → Prop) :
  vcFun Try.prog G88 ann88 88 [.agg [.int .i64 r_a0.Opacity, .int .i64 r_a0.Share.Low, .int .i64 r_a0.Share.High], .one (.fp (enc_3 c0) 0)] K =
  (K [.one (.bool (decide (r_a0.Opacity ≥ c0)))]) := by kernel_rfl
abbrev R88 := Bool
abbrev e88 (r : Bool) : List PA := [.one (.bool r)]
def s88 (c0 : Int) (r_a0 : KinkRow) : Bool :=
  (decide (r_a0.Opacity ≥ c0))
theorem q88 (c0 : Int) (r_a0 : KinkRow) (K : List PA → Prop) (hk : K (e88 (s88 c0 r_a0))) : vcFun Try.prog G88 ann88 88 [.agg [.int .i64 r_a0.Opacity, .int .i64 r_a0.Share.Low, .int .i64 r_a0.Share.High], .one (.fp (enc_3 c0) 0)] K := by
  refine ofEq (f88_top c0 r_a0 K) ?_
  unfold s88 at hk
  exact hk
def ctr88 : List PA → COut
  | [.agg [.int .i64 a0_Opacity, .int .i64 a0_Share_Low, .int .i64 a0_Share_High], .one (.fp [.int .i64 c0] 0)] => .tot [.one (.bool (s88 c0 (⟨a0_Opacity, (⟨a0_Share_Low, a0_Share_High⟩ : Span)⟩ : KinkRow)))]
  | _ => .no
theorem call88 : Callable Try.prog 88 := ⟨_, rfl, rfl, by kernel_rfl⟩
theorem ok88 : Ok Try.prog 88 ctr88 := ok_tab okT88 call88 fun args K h => by
  unfold ctr88 at h
  split at h
  · rename_i a0_Opacity a0_Share_Low a0_Share_High c0
    have hk := h
    exact ⟨(fun _ _ => []), (fun _ => false), ann88, q88 c0 (⟨a0_Opacity, (⟨a0_Share_Low, a0_Share_High⟩ : Span)⟩ : KinkRow) K hk⟩
  · exact h.elim
-- 89 flux.Bent$1
abbrev T89 : Tabs := Tabs.nil
theorem okT89 : TabsOk Try.prog T89 := TabsOk.nil
abbrev G89 : Ctrs := csm T89 (fun _ _ => []) (fun _ => false)
def ann89 : Ann := ⟨10, [(0, ⟨[1, 2], [2], [], [], []⟩), (1, ⟨[3], [], [], [], []⟩)],
  [],
  [],
  [], []⟩
theorem f89_top (c0 : Span) (r_a0 : KinkRow) (K : List PA → Prop) :
  vcFun Try.prog G89 ann89 89 [.agg [.int .i64 r_a0.Opacity, .int .i64 r_a0.Share.Low, .int .i64 r_a0.Share.High], .one (.fp (enc_24 c0) 0)] K =
  (K [.one (.bool (decide (r_a0.Share.High ≥ c0.Low)))]) := by kernel_rfl
abbrev R89 := Bool
abbrev e89 (r : Bool) : List PA := [.one (.bool r)]
def s89 (c0 : Span) (r_a0 : KinkRow) : Bool :=
  (decide (r_a0.Share.High ≥ c0.Low))
theorem q89 (c0 : Span) (r_a0 : KinkRow) (K : List PA → Prop) (hk : K (e89 (s89 c0 r_a0))) : vcFun Try.prog G89 ann89 89 [.agg [.int .i64 r_a0.Opacity, .int .i64 r_a0.Share.Low, .int .i64 r_a0.Share.High], .one (.fp (enc_24 c0) 0)] K := by
  refine ofEq (f89_top c0 r_a0 K) ?_
  unfold s89 at hk
  exact hk
def ctr89 : List PA → COut
  | [.agg [.int .i64 a0_Opacity, .int .i64 a0_Share_Low, .int .i64 a0_Share_High], .one (.fp [.int .i64 c0_Low, .int .i64 c0_High] 0)] => .tot [.one (.bool (s89 (⟨c0_Low, c0_High⟩ : Span) (⟨a0_Opacity, (⟨a0_Share_Low, a0_Share_High⟩ : Span)⟩ : KinkRow)))]
  | _ => .no
theorem call89 : Callable Try.prog 89 := ⟨_, rfl, rfl, by kernel_rfl⟩
theorem ok89 : Ok Try.prog 89 ctr89 := ok_tab okT89 call89 fun args K h => by
  unfold ctr89 at h
  split at h
  · rename_i a0_Opacity a0_Share_Low a0_Share_High c0_Low c0_High
    have hk := h
    exact ⟨(fun _ _ => []), (fun _ => false), ann89, q89 (⟨c0_Low, c0_High⟩ : Span) (⟨a0_Opacity, (⟨a0_Share_Low, a0_Share_High⟩ : Span)⟩ : KinkRow) K hk⟩
  · exact h.elim
-- 90 flux.Bent$2
abbrev T90 : Tabs := Tabs.nil
theorem okT90 : TabsOk Try.prog T90 := TabsOk.nil
abbrev G90 : Ctrs := csm T90 (fun _ _ => []) (fun _ => false)
def ann90 : Ann := ⟨10, [(0, ⟨[1, 2], [2], [], [], []⟩), (1, ⟨[3], [], [], [], []⟩)],
  [],
  [],
  [], []⟩
theorem f90_top (c0 : Span) (r_a0 : KinkRow) (K : List PA → Prop) :
  vcFun Try.prog G90 ann90 90 [.agg [.int .i64 r_a0.Opacity, .int .i64 r_a0.Share.Low, .int .i64 r_a0.Share.High], .one (.fp (enc_24 c0) 0)] K =
  (K [.one (.bool (decide (r_a0.Share.Low > c0.High)))]) := by kernel_rfl
abbrev R90 := Bool
abbrev e90 (r : Bool) : List PA := [.one (.bool r)]
def s90 (c0 : Span) (r_a0 : KinkRow) : Bool :=
  (decide (r_a0.Share.Low > c0.High))
theorem q90 (c0 : Span) (r_a0 : KinkRow) (K : List PA → Prop) (hk : K (e90 (s90 c0 r_a0))) : vcFun Try.prog G90 ann90 90 [.agg [.int .i64 r_a0.Opacity, .int .i64 r_a0.Share.Low, .int .i64 r_a0.Share.High], .one (.fp (enc_24 c0) 0)] K := by
  refine ofEq (f90_top c0 r_a0 K) ?_
  unfold s90 at hk
  exact hk
def ctr90 : List PA → COut
  | [.agg [.int .i64 a0_Opacity, .int .i64 a0_Share_Low, .int .i64 a0_Share_High], .one (.fp [.int .i64 c0_Low, .int .i64 c0_High] 0)] => .tot [.one (.bool (s90 (⟨c0_Low, c0_High⟩ : Span) (⟨a0_Opacity, (⟨a0_Share_Low, a0_Share_High⟩ : Span)⟩ : KinkRow)))]
  | _ => .no
theorem call90 : Callable Try.prog 90 := ⟨_, rfl, rfl, by kernel_rfl⟩
theorem ok90 : Ok Try.prog 90 ctr90 := ok_tab okT90 call90 fun args K h => by
  unfold ctr90 at h
  split at h
  · rename_i a0_Opacity a0_Share_Low a0_Share_High c0_Low c0_High
    have hk := h
    exact ⟨(fun _ _ => []), (fun _ => false), ann90, q90 (⟨c0_Low, c0_High⟩ : Span) (⟨a0_Opacity, (⟨a0_Share_Low, a0_Share_High⟩ : Span)⟩ : KinkRow) K hk⟩
  · exact h.elim
end Go.Proofs
namespace Go.Proofs
open Go Go.Pm
set_option maxRecDepth 100000
set_option linter.unusedVariables false
attribute [local irreducible] Go.Pm.vcFun Go.Pm.vc Go.Pm.vcIter
-- 113 slices.IndexFunc[[]api.KinkRow,api.KinkRow]
abbrev T113 : Tabs := ((((Tabs.nil.addF 87 ctr87).addF 88 ctr88).addF 89 ctr89).addF 90 ctr90)
theorem okT113 : TabsOk Try.prog T113 := ((((TabsOk.nil.addF ok87).addF ok88).addF ok89).addF ok90)
abbrev G113 : Ctrs := csm T113 (fun _ _ => []) (fun _ => false)
def ann113 : Ann := ⟨19, [(0, ⟨[0, 1], [], [], [], []⟩), (1, ⟨[0, 1, 7, 8], [], [], [], []⟩), (2, ⟨[0, 1, 7, 8, 9], [], [], [], []⟩), (3, ⟨[0, 1, 5, 7, 8], [], [], [], []⟩), (4, ⟨[0, 1, 5, 7, 8, 16], [], [], [], []⟩), (5, ⟨[4], [], [], [], []⟩), (6, ⟨[0, 1, 7, 8], [], [], [], []⟩), (7, ⟨[4], [], [], [], []⟩)],
  [(2, ⟨[0, 1, 7, 8], [], [], [], []⟩)],
  [(5, ⟨[0, 1, 5, 7, 8, 16], [], [], [], []⟩)],
  [], []⟩
def f113_g0 (c0 : Int) (sv0_n : Nat) (sv0_g : Nat → List PV) (t7v0 : Int) (t8v0 : Int) : St := ⟨[(0, .one (.c (.p (.sl sv0_n 3 sv0_g)))), (1, .one (.c (.p (.fn 87 [] [.fp (enc_3 c0) 0])))), (7, .one (.c (.p (.int .i64 t7v0)))), (8, .one (.c (.p (.int .i64 t8v0))))], [], []⟩
def f113_at0 (K : List PA → Prop) (c0 : Int) (sv0_n : Nat) (sv0_g : Nat → List PV) (t7v0 : Int) (t8v0 : Int) : Prop := vc Try.prog G113 ann113 (cdF Try.f113 [1, 0, 1, 0]) (blockK 0 (sqK Try.prog G113 ann113 (cdF Try.f113 [1, 1]) (bodyK Try.prog Try.f113 K))) (f113_g0 c0 sv0_n sv0_g t7v0 t8v0)
def f113_g1 (c0 : Int) (sv1_n : Nat) (sv1_g : Nat → List PV) (iv1 : Int) (t7v1 : Int) (t8v1 : Int) (t16v1 : Bool) : St := ⟨[(0, .one (.c (.p (.sl sv1_n 3 sv1_g)))), (1, .one (.c (.p (.fn 87 [] [.fp (enc_3 c0) 0])))), (5, .one (.c (.p (.int .i64 iv1)))), (7, .one (.c (.p (.int .i64 t7v1)))), (8, .one (.c (.p (.int .i64 t8v1)))), (16, .one (.c (.p (.bool t16v1))))], [], []⟩
def f113_at1 (K : List PA → Prop) (X0 : St → Prop) (c0 : Int) (sv1_n : Nat) (sv1_g : Nat → List PV) (iv1 : Int) (t7v1 : Int) (t8v1 : Int) (t16v1 : Bool) : Prop := vc Try.prog G113 ann113 (cdF Try.f113 [1, 0, 1, 0, 0, 1, 1, 0, 0, 1, 1]) (blockK 1 (sqK Try.prog G113 ann113 (cdF Try.f113 [1, 0, 1, 0, 0, 1, 1, 1]) (loopK Try.prog ann113 2 X0 (blockK 0 (sqK Try.prog G113 ann113 (cdF Try.f113 [1, 1]) (bodyK Try.prog Try.f113 K)))))) (f113_g1 c0 sv1_n sv1_g iv1 t7v1 t8v1 t16v1)
theorem f113_top (c0 : Int) (s : (Sl KinkRow)) (K : List PA → Prop) :
  vcFun Try.prog G113 ann113 113 [.one (.sl s.len 3 (fun i => enc_129 (s.get i))), .one (.fn 87 [] [.fp (enc_3 c0) 0])] K =
  (f113_at0 K c0 s.len (fun i => enc_129 (s.get i)) (s.len : Int) (0:Int)) := by kernel_rfl
def f113_step0 (K : List PA → Prop) (X0 : St → Prop) (c0 : Int) (sv0 : (Sl KinkRow)) (t7v0 : Int) (t8v0 : Int) : Prop :=
  (condP (decide (t8v0 < t7v0))
   (((0 ≤ t8v0 ∧ t8v0 < (sv0.len : Int))) ∧
   (f113_at1 K X0 c0 sv0.len (fun i => enc_129 (sv0.get i)) t8v0 t7v0 t8v0 (s87 c0 (sv0.get t8v0.toNat))))
   (K [.one (.int .i64 (-1:Int))]))
theorem f113_stepeq0 (K : List PA → Prop) (X0 : St → Prop) (c0 : Int) (sv0 : (Sl KinkRow)) (t7v0 : Int) (t8v0 : Int) :
  vc Try.prog G113 ann113 (cd (cdF Try.f113 [1, 0, 1, 0]) [0]) (loopK Try.prog ann113 2 X0 (blockK 0 (sqK Try.prog G113 ann113 (cdF Try.f113 [1, 1]) (bodyK Try.prog Try.f113 K)))) (f113_g0 c0 sv0.len (fun i => enc_129 (sv0.get i)) t7v0 t8v0) =
  f113_step0 K X0 c0 sv0 t7v0 t8v0 := by kernel_rfl
theorem f113_loop0 (K : List PA → Prop) (c0 : Int) (sv0_n : Nat) (sv0_g : Nat → List PV) (t7v0 : Int) (t8v0 : Int)
  (h : ∀ X0 : St → Prop, (∀ (sv0 : (Sl KinkRow)) (t7v0 : Int) (t8v0 : Int), f113_step0 K X0 c0 sv0 t7v0 t8v0 → X0 (f113_g0 c0 sv0.len (fun i => enc_129 (sv0.get i)) t7v0 t8v0)) → X0 (f113_g0 c0 sv0_n sv0_g t7v0 t8v0)) :
  f113_at0 K c0 sv0_n sv0_g t7v0 t8v0 := by
  have e : f113_at0 K c0 sv0_n sv0_g t7v0 t8v0 = (∀ X : St → Prop, (∀ s, vc Try.prog G113 ann113 (cd (cdF Try.f113 [1, 0, 1, 0]) [0]) (loopK Try.prog ann113 2 X (blockK 0 (sqK Try.prog G113 ann113 (cdF Try.f113 [1, 1]) (bodyK Try.prog Try.f113 K)))) s → X s) → X (f113_g0 c0 sv0_n sv0_g t7v0 t8v0)) := by kernel_rfl
  refine ofEq e ?_
  intro X hX
  refine h X ?_
  intro sv0 t7v0 t8v0 hs
  refine hX _ ?_
  have e2 := f113_stepeq0 K X c0 sv0 t7v0 t8v0
  rw [e2]
  exact hs
theorem f113_eq1 (K : List PA → Prop) (X0 : St → Prop) (c0 : Int) (sv1 : (Sl KinkRow)) (iv1 : Int) (t7v1 : Int) (t8v1 : Int) (t16v1 : Bool) :
  f113_at1 K X0 c0 sv1.len (fun i => enc_129 (sv1.get i)) iv1 t7v1 t8v1 t16v1 =
  (condP t16v1
   (K [.one (.int .i64 iv1)])
   (X0 (f113_g0 c0 sv1.len (fun i => enc_129 (sv1.get i)) t7v1 (w64 (t8v1 + (1:Int)))))) := by kernel_rfl
abbrev R113 := Int
abbrev e113 (r : Int) : List PA := [.one (.int .i64 r)]
attribute [irreducible] f113_at0 f113_at1
def s113_at1 (S0 : (Sl KinkRow) → Int → Int → Int) (c0 : Int) (sv1 : (Sl KinkRow)) (iv1 : Int) (t7v1 : Int) (t8v1 : Int) (t16v1 : Bool) : Int :=
  (cond t16v1
   iv1
   (S0 sv1 t7v1 (w64 (t8v1 + (1:Int)))))
def p113_at1 (P0 : (Sl KinkRow) → Int → Int → Bool) (c0 : Int) (sv1 : (Sl KinkRow)) (iv1 : Int) (t7v1 : Int) (t8v1 : Int) (t16v1 : Bool) : Bool :=
  (cond t16v1
   true
   (P0 sv1 t7v1 (w64 (t8v1 + (1:Int)))))
theorem q113_at1 (K : List PA → Prop) (c0 : Int)
  (X0 : St → Prop) (P0 : (Sl KinkRow) → Int → Int → Bool) (S0 : (Sl KinkRow) → Int → Int → Int)
  (hX0 : ∀ (sv0 : (Sl KinkRow)) (t7v0 : Int) (t8v0 : Int) (sv0_g : Nat → List PV) (sv0_h : sv0_g = fun i => enc_129 (sv0.get i)), P0 sv0 t7v0 t8v0 = true → K (e113 (S0 sv0 t7v0 t8v0)) → X0 (f113_g0 c0 sv0.len sv0_g t7v0 t8v0)) (sv1 : (Sl KinkRow)) (iv1 : Int) (t7v1 : Int) (t8v1 : Int) (t16v1 : Bool) (sv1_g : Nat → List PV) (sv1_h : sv1_g = fun i => enc_129 (sv1.get i)) (hs : p113_at1 P0 c0 sv1 iv1 t7v1 t8v1 t16v1 = true) (hk : K (e113 (s113_at1 S0 c0 sv1 iv1 t7v1 t8v1 t16v1))) : f113_at1 K X0 c0 sv1.len sv1_g iv1 t7v1 t8v1 t16v1 := by
  subst sv1_h
  refine ofEq (f113_eq1 K X0 c0 sv1 iv1 t7v1 t8v1 t16v1) ?_
  unfold p113_at1 at hs
  unfold s113_at1 at hk
  exact (condB_go (K := fun r => K (e113 r))
   (fun hs hk => hk)
   (fun hs hk => (hX0 sv1 t7v1 (w64 (t8v1 + (1:Int))) (fun i => enc_129 (sv1.get i)) rfl hs hk)) hs hk)
def s113_st0 (c0 : Int) (S0 : (Sl KinkRow) → Int → Int → Int) (sv0 : (Sl KinkRow)) (t7v0 : Int) (t8v0 : Int) : Int :=
  (cond (decide (t8v0 < t7v0))
   (s113_at1 S0 c0 sv0 t8v0 t7v0 t8v0 (s87 c0 (sv0.get t8v0.toNat)))
   (-1:Int))
def p113_st0 (c0 : Int) (P0 : (Sl KinkRow) → Int → Int → Bool) (sv0 : (Sl KinkRow)) (t7v0 : Int) (t8v0 : Int) : Bool :=
  (cond (decide (t8v0 < t7v0))
   (decide ((0 ≤ t8v0 ∧ t8v0 < (sv0.len : Int))) &&
   (p113_at1 P0 c0 sv0 t8v0 t7v0 t8v0 (s87 c0 (sv0.get t8v0.toNat))))
   true)
def s113_lp0 (c0 : Int) : Nat → (Sl KinkRow) → Int → Int → Int
  | 0 => fun _ _ _ => default
  | k + 1 => s113_st0 c0 (s113_lp0 c0 k)
def p113_lp0 (c0 : Int) : Nat → (Sl KinkRow) → Int → Int → Bool
  | 0 => fun _ _ _ => false
  | k + 1 => p113_st0 c0 (p113_lp0 c0 k)
def s113_at0 (c0 : Int) (sv0 : (Sl KinkRow)) (t7v0 : Int) (t8v0 : Int) : Int := s113_lp0 c0 Fuel sv0 t7v0 t8v0
def p113_at0 (c0 : Int) (sv0 : (Sl KinkRow)) (t7v0 : Int) (t8v0 : Int) : Bool := p113_lp0 c0 Fuel sv0 t7v0 t8v0
theorem q113_at0 (K : List PA → Prop) (c0 : Int) (sv0 : (Sl KinkRow)) (t7v0 : Int) (t8v0 : Int) (sv0_g : Nat → List PV) (sv0_h : sv0_g = fun i => enc_129 (sv0.get i)) (hs : p113_at0 c0 sv0 t7v0 t8v0 = true) (hk : K (e113 (s113_at0 c0 sv0 t7v0 t8v0))) : f113_at0 K c0 sv0.len sv0_g t7v0 t8v0 := by
  refine f113_loop0 K c0 sv0.len sv0_g t7v0 t8v0 ?_
  intro X0 hstep
  have key : ∀ (k : Nat) (sv0 : (Sl KinkRow)) (t7v0 : Int) (t8v0 : Int) (sv0_g : Nat → List PV) (sv0_h : sv0_g = fun i => enc_129 (sv0.get i)), p113_lp0 c0 k sv0 t7v0 t8v0 = true → K (e113 (s113_lp0 c0 k sv0 t7v0 t8v0)) → X0 (f113_g0 c0 sv0.len sv0_g t7v0 t8v0) := by
    intro k
    induction k with
    | zero => intro sv0 t7v0 t8v0 sv0_g sv0_h hs; exact absurd hs Bool.false_ne_true
    | succ k ih =>
      intro sv0 t7v0 t8v0 sv0_g sv0_h hs hk
      subst sv0_h
      refine hstep sv0 t7v0 t8v0 ?_
      have hs : p113_st0 c0 (p113_lp0 c0 k) sv0 t7v0 t8v0 = true := hs
      have hk : K (e113 (s113_st0 c0 (s113_lp0 c0 k) sv0 t7v0 t8v0)) := hk
      unfold p113_st0 at hs
      unfold s113_st0 at hk
      generalize s113_lp0 c0 k = S0 at hk ih
      generalize p113_lp0 c0 k = P0 at hs ih
      have hX0 := ih
      exact (condB_go (K := fun r => K (e113 r))
       (fun hs hk => (andK hs fun hc hs => ⟨hc, (q113_at1 K c0 X0 P0 S0 hX0 sv0 t8v0 t7v0 t8v0 (s87 c0 (sv0.get t8v0.toNat)) (fun i => enc_129 (sv0.get i)) rfl hs hk)⟩))
       (fun hs hk => hk) hs hk)
  exact key _ sv0 t7v0 t8v0 sv0_g sv0_h hs hk
def s113 (c0 : Int) (s : (Sl KinkRow)) : Int :=
  (s113_at0 c0 s (s.len : Int) (0:Int))
def p113 (c0 : Int) (s : (Sl KinkRow)) : Bool :=
  (p113_at0 c0 s (s.len : Int) (0:Int))
theorem q113 (c0 : Int) (s : (Sl KinkRow)) (K : List PA → Prop) (hs : p113 c0 s = true) (hk : K (e113 (s113 c0 s))) : vcFun Try.prog G113 ann113 113 [.one (.sl s.len 3 (fun i => enc_129 (s.get i))), .one (.fn 87 [] [.fp (enc_3 c0) 0])] K := by
  refine ofEq (f113_top c0 s K) ?_
  unfold p113 at hs
  unfold s113 at hk
  exact (q113_at0 K c0 s (s.len : Int) (0:Int) (fun i => enc_129 (s.get i)) rfl hs hk)
abbrev G113a : Ctrs := csm T113 (fun _ _ => []) (fun _ => false)
def ann113a : Ann := ⟨19, [(0, ⟨[0, 1], [], [], [], []⟩), (1, ⟨[0, 1, 7, 8], [], [], [], []⟩), (2, ⟨[0, 1, 7, 8, 9], [], [], [], []⟩), (3, ⟨[0, 1, 5, 7, 8], [], [], [], []⟩), (4, ⟨[0, 1, 5, 7, 8, 16], [], [], [], []⟩), (5, ⟨[4], [], [], [], []⟩), (6, ⟨[0, 1, 7, 8], [], [], [], []⟩), (7, ⟨[4], [], [], [], []⟩)],
  [(2, ⟨[0, 1, 7, 8], [], [], [], []⟩)],
  [(5, ⟨[0, 1, 5, 7, 8, 16], [], [], [], []⟩)],
  [], []⟩
def f113a_g0 (c0 : Int) (sv0_n : Nat) (sv0_g : Nat → List PV) (t7v0 : Int) (t8v0 : Int) : St := ⟨[(0, .one (.c (.p (.sl sv0_n 3 sv0_g)))), (1, .one (.c (.p (.fn 88 [] [.fp (enc_3 c0) 0])))), (7, .one (.c (.p (.int .i64 t7v0)))), (8, .one (.c (.p (.int .i64 t8v0))))], [], []⟩
def f113a_at0 (K : List PA → Prop) (c0 : Int) (sv0_n : Nat) (sv0_g : Nat → List PV) (t7v0 : Int) (t8v0 : Int) : Prop := vc Try.prog G113a ann113a (cdF Try.f113 [1, 0, 1, 0]) (blockK 0 (sqK Try.prog G113a ann113a (cdF Try.f113 [1, 1]) (bodyK Try.prog Try.f113 K))) (f113a_g0 c0 sv0_n sv0_g t7v0 t8v0)
def f113a_g1 (c0 : Int) (sv1_n : Nat) (sv1_g : Nat → List PV) (iv1 : Int) (t7v1 : Int) (t8v1 : Int) (t16v1 : Bool) : St := ⟨[(0, .one (.c (.p (.sl sv1_n 3 sv1_g)))), (1, .one (.c (.p (.fn 88 [] [.fp (enc_3 c0) 0])))), (5, .one (.c (.p (.int .i64 iv1)))), (7, .one (.c (.p (.int .i64 t7v1)))), (8, .one (.c (.p (.int .i64 t8v1)))), (16, .one (.c (.p (.bool t16v1))))], [], []⟩
def f113a_at1 (K : List PA → Prop) (X0 : St → Prop) (c0 : Int) (sv1_n : Nat) (sv1_g : Nat → List PV) (iv1 : Int) (t7v1 : Int) (t8v1 : Int) (t16v1 : Bool) : Prop := vc Try.prog G113a ann113a (cdF Try.f113 [1, 0, 1, 0, 0, 1, 1, 0, 0, 1, 1]) (blockK 1 (sqK Try.prog G113a ann113a (cdF Try.f113 [1, 0, 1, 0, 0, 1, 1, 1]) (loopK Try.prog ann113a 2 X0 (blockK 0 (sqK Try.prog G113a ann113a (cdF Try.f113 [1, 1]) (bodyK Try.prog Try.f113 K)))))) (f113a_g1 c0 sv1_n sv1_g iv1 t7v1 t8v1 t16v1)
theorem f113a_top (c0 : Int) (s : (Sl KinkRow)) (K : List PA → Prop) :
  vcFun Try.prog G113a ann113a 113 [.one (.sl s.len 3 (fun i => enc_129 (s.get i))), .one (.fn 88 [] [.fp (enc_3 c0) 0])] K =
  (f113a_at0 K c0 s.len (fun i => enc_129 (s.get i)) (s.len : Int) (0:Int)) := by kernel_rfl
def f113a_step0 (K : List PA → Prop) (X0 : St → Prop) (c0 : Int) (sv0 : (Sl KinkRow)) (t7v0 : Int) (t8v0 : Int) : Prop :=
  (condP (decide (t8v0 < t7v0))
   (((0 ≤ t8v0 ∧ t8v0 < (sv0.len : Int))) ∧
   (f113a_at1 K X0 c0 sv0.len (fun i => enc_129 (sv0.get i)) t8v0 t7v0 t8v0 (s88 c0 (sv0.get t8v0.toNat))))
   (K [.one (.int .i64 (-1:Int))]))
theorem f113a_stepeq0 (K : List PA → Prop) (X0 : St → Prop) (c0 : Int) (sv0 : (Sl KinkRow)) (t7v0 : Int) (t8v0 : Int) :
  vc Try.prog G113a ann113a (cd (cdF Try.f113 [1, 0, 1, 0]) [0]) (loopK Try.prog ann113a 2 X0 (blockK 0 (sqK Try.prog G113a ann113a (cdF Try.f113 [1, 1]) (bodyK Try.prog Try.f113 K)))) (f113a_g0 c0 sv0.len (fun i => enc_129 (sv0.get i)) t7v0 t8v0) =
  f113a_step0 K X0 c0 sv0 t7v0 t8v0 := by kernel_rfl
theorem f113a_loop0 (K : List PA → Prop) (c0 : Int) (sv0_n : Nat) (sv0_g : Nat → List PV) (t7v0 : Int) (t8v0 : Int)
  (h : ∀ X0 : St → Prop, (∀ (sv0 : (Sl KinkRow)) (t7v0 : Int) (t8v0 : Int), f113a_step0 K X0 c0 sv0 t7v0 t8v0 → X0 (f113a_g0 c0 sv0.len (fun i => enc_129 (sv0.get i)) t7v0 t8v0)) → X0 (f113a_g0 c0 sv0_n sv0_g t7v0 t8v0)) :
  f113a_at0 K c0 sv0_n sv0_g t7v0 t8v0 := by
  have e : f113a_at0 K c0 sv0_n sv0_g t7v0 t8v0 = (∀ X : St → Prop, (∀ s, vc Try.prog G113a ann113a (cd (cdF Try.f113 [1, 0, 1, 0]) [0]) (loopK Try.prog ann113a 2 X (blockK 0 (sqK Try.prog G113a ann113a (cdF Try.f113 [1, 1]) (bodyK Try.prog Try.f113 K)))) s → X s) → X (f113a_g0 c0 sv0_n sv0_g t7v0 t8v0)) := by kernel_rfl
  refine ofEq e ?_
  intro X hX
  refine h X ?_
  intro sv0 t7v0 t8v0 hs
  refine hX _ ?_
  have e2 := f113a_stepeq0 K X c0 sv0 t7v0 t8v0
  rw [e2]
  exact hs
theorem f113a_eq1 (K : List PA → Prop) (X0 : St → Prop) (c0 : Int) (sv1 : (Sl KinkRow)) (iv1 : Int) (t7v1 : Int) (t8v1 : Int) (t16v1 : Bool) :
  f113a_at1 K X0 c0 sv1.len (fun i => enc_129 (sv1.get i)) iv1 t7v1 t8v1 t16v1 =
  (condP t16v1
   (K [.one (.int .i64 iv1)])
   (X0 (f113a_g0 c0 sv1.len (fun i => enc_129 (sv1.get i)) t7v1 (w64 (t8v1 + (1:Int)))))) := by kernel_rfl
abbrev R113a := Int
abbrev e113a (r : Int) : List PA := [.one (.int .i64 r)]
attribute [irreducible] f113a_at0 f113a_at1
def s113a_at1 (S0 : (Sl KinkRow) → Int → Int → Int) (c0 : Int) (sv1 : (Sl KinkRow)) (iv1 : Int) (t7v1 : Int) (t8v1 : Int) (t16v1 : Bool) : Int :=
  (cond t16v1
   iv1
   (S0 sv1 t7v1 (w64 (t8v1 + (1:Int)))))
def p113a_at1 (P0 : (Sl KinkRow) → Int → Int → Bool) (c0 : Int) (sv1 : (Sl KinkRow)) (iv1 : Int) (t7v1 : Int) (t8v1 : Int) (t16v1 : Bool) : Bool :=
  (cond t16v1
   true
   (P0 sv1 t7v1 (w64 (t8v1 + (1:Int)))))
theorem q113a_at1 (K : List PA → Prop) (c0 : Int)
  (X0 : St → Prop) (P0 : (Sl KinkRow) → Int → Int → Bool) (S0 : (Sl KinkRow) → Int → Int → Int)
  (hX0 : ∀ (sv0 : (Sl KinkRow)) (t7v0 : Int) (t8v0 : Int) (sv0_g : Nat → List PV) (sv0_h : sv0_g = fun i => enc_129 (sv0.get i)), P0 sv0 t7v0 t8v0 = true → K (e113a (S0 sv0 t7v0 t8v0)) → X0 (f113a_g0 c0 sv0.len sv0_g t7v0 t8v0)) (sv1 : (Sl KinkRow)) (iv1 : Int) (t7v1 : Int) (t8v1 : Int) (t16v1 : Bool) (sv1_g : Nat → List PV) (sv1_h : sv1_g = fun i => enc_129 (sv1.get i)) (hs : p113a_at1 P0 c0 sv1 iv1 t7v1 t8v1 t16v1 = true) (hk : K (e113a (s113a_at1 S0 c0 sv1 iv1 t7v1 t8v1 t16v1))) : f113a_at1 K X0 c0 sv1.len sv1_g iv1 t7v1 t8v1 t16v1 := by
  subst sv1_h
  refine ofEq (f113a_eq1 K X0 c0 sv1 iv1 t7v1 t8v1 t16v1) ?_
  unfold p113a_at1 at hs
  unfold s113a_at1 at hk
  exact (condB_go (K := fun r => K (e113a r))
   (fun hs hk => hk)
   (fun hs hk => (hX0 sv1 t7v1 (w64 (t8v1 + (1:Int))) (fun i => enc_129 (sv1.get i)) rfl hs hk)) hs hk)
def s113a_st0 (c0 : Int) (S0 : (Sl KinkRow) → Int → Int → Int) (sv0 : (Sl KinkRow)) (t7v0 : Int) (t8v0 : Int) : Int :=
  (cond (decide (t8v0 < t7v0))
   (s113a_at1 S0 c0 sv0 t8v0 t7v0 t8v0 (s88 c0 (sv0.get t8v0.toNat)))
   (-1:Int))
def p113a_st0 (c0 : Int) (P0 : (Sl KinkRow) → Int → Int → Bool) (sv0 : (Sl KinkRow)) (t7v0 : Int) (t8v0 : Int) : Bool :=
  (cond (decide (t8v0 < t7v0))
   (decide ((0 ≤ t8v0 ∧ t8v0 < (sv0.len : Int))) &&
   (p113a_at1 P0 c0 sv0 t8v0 t7v0 t8v0 (s88 c0 (sv0.get t8v0.toNat))))
   true)
def s113a_lp0 (c0 : Int) : Nat → (Sl KinkRow) → Int → Int → Int
  | 0 => fun _ _ _ => default
  | k + 1 => s113a_st0 c0 (s113a_lp0 c0 k)
def p113a_lp0 (c0 : Int) : Nat → (Sl KinkRow) → Int → Int → Bool
  | 0 => fun _ _ _ => false
  | k + 1 => p113a_st0 c0 (p113a_lp0 c0 k)
def s113a_at0 (c0 : Int) (sv0 : (Sl KinkRow)) (t7v0 : Int) (t8v0 : Int) : Int := s113a_lp0 c0 Fuel sv0 t7v0 t8v0
def p113a_at0 (c0 : Int) (sv0 : (Sl KinkRow)) (t7v0 : Int) (t8v0 : Int) : Bool := p113a_lp0 c0 Fuel sv0 t7v0 t8v0
theorem q113a_at0 (K : List PA → Prop) (c0 : Int) (sv0 : (Sl KinkRow)) (t7v0 : Int) (t8v0 : Int) (sv0_g : Nat → List PV) (sv0_h : sv0_g = fun i => enc_129 (sv0.get i)) (hs : p113a_at0 c0 sv0 t7v0 t8v0 = true) (hk : K (e113a (s113a_at0 c0 sv0 t7v0 t8v0))) : f113a_at0 K c0 sv0.len sv0_g t7v0 t8v0 := by
  refine f113a_loop0 K c0 sv0.len sv0_g t7v0 t8v0 ?_
  intro X0 hstep
  have key : ∀ (k : Nat) (sv0 : (Sl KinkRow)) (t7v0 : Int) (t8v0 : Int) (sv0_g : Nat → List PV) (sv0_h : sv0_g = fun i => enc_129 (sv0.get i)), p113a_lp0 c0 k sv0 t7v0 t8v0 = true → K (e113a (s113a_lp0 c0 k sv0 t7v0 t8v0)) → X0 (f113a_g0 c0 sv0.len sv0_g t7v0 t8v0) := by
    intro k
    induction k with
    | zero => intro sv0 t7v0 t8v0 sv0_g sv0_h hs; exact absurd hs Bool.false_ne_true
    | succ k ih =>
      intro sv0 t7v0 t8v0 sv0_g sv0_h hs hk
      subst sv0_h
      refine hstep sv0 t7v0 t8v0 ?_
      have hs : p113a_st0 c0 (p113a_lp0 c0 k) sv0 t7v0 t8v0 = true := hs
      have hk : K (e113a (s113a_st0 c0 (s113a_lp0 c0 k) sv0 t7v0 t8v0)) := hk
      unfold p113a_st0 at hs
      unfold s113a_st0 at hk
      generalize s113a_lp0 c0 k = S0 at hk ih
      generalize p113a_lp0 c0 k = P0 at hs ih
      have hX0 := ih
      exact (condB_go (K := fun r => K (e113a r))
       (fun hs hk => (andK hs fun hc hs => ⟨hc, (q113a_at1 K c0 X0 P0 S0 hX0 sv0 t8v0 t7v0 t8v0 (s88 c0 (sv0.get t8v0.toNat)) (fun i => enc_129 (sv0.get i)) rfl hs hk)⟩))
       (fun hs hk => hk) hs hk)
  exact key _ sv0 t7v0 t8v0 sv0_g sv0_h hs hk
def s113a (c0 : Int) (s : (Sl KinkRow)) : Int :=
  (s113a_at0 c0 s (s.len : Int) (0:Int))
def p113a (c0 : Int) (s : (Sl KinkRow)) : Bool :=
  (p113a_at0 c0 s (s.len : Int) (0:Int))
theorem q113a (c0 : Int) (s : (Sl KinkRow)) (K : List PA → Prop) (hs : p113a c0 s = true) (hk : K (e113a (s113a c0 s))) : vcFun Try.prog G113a ann113a 113 [.one (.sl s.len 3 (fun i => enc_129 (s.get i))), .one (.fn 88 [] [.fp (enc_3 c0) 0])] K := by
  refine ofEq (f113a_top c0 s K) ?_
  unfold p113a at hs
  unfold s113a at hk
  exact (q113a_at0 K c0 s (s.len : Int) (0:Int) (fun i => enc_129 (s.get i)) rfl hs hk)
abbrev G113b : Ctrs := csm T113 (fun _ _ => []) (fun _ => false)
def ann113b : Ann := ⟨19, [(0, ⟨[0, 1], [], [], [], []⟩), (1, ⟨[0, 1, 7, 8], [], [], [], []⟩), (2, ⟨[0, 1, 7, 8, 9], [], [], [], []⟩), (3, ⟨[0, 1, 5, 7, 8], [], [], [], []⟩), (4, ⟨[0, 1, 5, 7, 8, 16], [], [], [], []⟩), (5, ⟨[4], [], [], [], []⟩), (6, ⟨[0, 1, 7, 8], [], [], [], []⟩), (7, ⟨[4], [], [], [], []⟩)],
  [(2, ⟨[0, 1, 7, 8], [], [], [], []⟩)],
  [(5, ⟨[0, 1, 5, 7, 8, 16], [], [], [], []⟩)],
  [], []⟩
def f113b_g0 (c0 : Span) (sv0_n : Nat) (sv0_g : Nat → List PV) (t7v0 : Int) (t8v0 : Int) : St := ⟨[(0, .one (.c (.p (.sl sv0_n 3 sv0_g)))), (1, .one (.c (.p (.fn 89 [] [.fp (enc_24 c0) 0])))), (7, .one (.c (.p (.int .i64 t7v0)))), (8, .one (.c (.p (.int .i64 t8v0))))], [], []⟩
def f113b_at0 (K : List PA → Prop) (c0 : Span) (sv0_n : Nat) (sv0_g : Nat → List PV) (t7v0 : Int) (t8v0 : Int) : Prop := vc Try.prog G113b ann113b (cdF Try.f113 [1, 0, 1, 0]) (blockK 0 (sqK Try.prog G113b ann113b (cdF Try.f113 [1, 1]) (bodyK Try.prog Try.f113 K))) (f113b_g0 c0 sv0_n sv0_g t7v0 t8v0)
def f113b_g1 (c0 : Span) (sv1_n : Nat) (sv1_g : Nat → List PV) (iv1 : Int) (t7v1 : Int) (t8v1 : Int) (t16v1 : Bool) : St := ⟨[(0, .one (.c (.p (.sl sv1_n 3 sv1_g)))), (1, .one (.c (.p (.fn 89 [] [.fp (enc_24 c0) 0])))), (5, .one (.c (.p (.int .i64 iv1)))), (7, .one (.c (.p (.int .i64 t7v1)))), (8, .one (.c (.p (.int .i64 t8v1)))), (16, .one (.c (.p (.bool t16v1))))], [], []⟩
def f113b_at1 (K : List PA → Prop) (X0 : St → Prop) (c0 : Span) (sv1_n : Nat) (sv1_g : Nat → List PV) (iv1 : Int) (t7v1 : Int) (t8v1 : Int) (t16v1 : Bool) : Prop := vc Try.prog G113b ann113b (cdF Try.f113 [1, 0, 1, 0, 0, 1, 1, 0, 0, 1, 1]) (blockK 1 (sqK Try.prog G113b ann113b (cdF Try.f113 [1, 0, 1, 0, 0, 1, 1, 1]) (loopK Try.prog ann113b 2 X0 (blockK 0 (sqK Try.prog G113b ann113b (cdF Try.f113 [1, 1]) (bodyK Try.prog Try.f113 K)))))) (f113b_g1 c0 sv1_n sv1_g iv1 t7v1 t8v1 t16v1)
theorem f113b_top (c0 : Span) (s : (Sl KinkRow)) (K : List PA → Prop) :
  vcFun Try.prog G113b ann113b 113 [.one (.sl s.len 3 (fun i => enc_129 (s.get i))), .one (.fn 89 [] [.fp (enc_24 c0) 0])] K =
  (f113b_at0 K c0 s.len (fun i => enc_129 (s.get i)) (s.len : Int) (0:Int)) := by kernel_rfl
def f113b_step0 (K : List PA → Prop) (X0 : St → Prop) (c0 : Span) (sv0 : (Sl KinkRow)) (t7v0 : Int) (t8v0 : Int) : Prop :=
  (condP (decide (t8v0 < t7v0))
   (((0 ≤ t8v0 ∧ t8v0 < (sv0.len : Int))) ∧
   (f113b_at1 K X0 c0 sv0.len (fun i => enc_129 (sv0.get i)) t8v0 t7v0 t8v0 (s89 c0 (sv0.get t8v0.toNat))))
   (K [.one (.int .i64 (-1:Int))]))
theorem f113b_stepeq0 (K : List PA → Prop) (X0 : St → Prop) (c0 : Span) (sv0 : (Sl KinkRow)) (t7v0 : Int) (t8v0 : Int) :
  vc Try.prog G113b ann113b (cd (cdF Try.f113 [1, 0, 1, 0]) [0]) (loopK Try.prog ann113b 2 X0 (blockK 0 (sqK Try.prog G113b ann113b (cdF Try.f113 [1, 1]) (bodyK Try.prog Try.f113 K)))) (f113b_g0 c0 sv0.len (fun i => enc_129 (sv0.get i)) t7v0 t8v0) =
  f113b_step0 K X0 c0 sv0 t7v0 t8v0 := by kernel_rfl
theorem f113b_loop0 (K : List PA → Prop) (c0 : Span) (sv0_n : Nat) (sv0_g : Nat → List PV) (t7v0 : Int) (t8v0 : Int)
  (h : ∀ X0 : St → Prop, (∀ (sv0 : (Sl KinkRow)) (t7v0 : Int) (t8v0 : Int), f113b_step0 K X0 c0 sv0 t7v0 t8v0 → X0 (f113b_g0 c0 sv0.len (fun i => enc_129 (sv0.get i)) t7v0 t8v0)) → X0 (f113b_g0 c0 sv0_n sv0_g t7v0 t8v0)) :
  f113b_at0 K c0 sv0_n sv0_g t7v0 t8v0 := by
  have e : f113b_at0 K c0 sv0_n sv0_g t7v0 t8v0 = (∀ X : St → Prop, (∀ s, vc Try.prog G113b ann113b (cd (cdF Try.f113 [1, 0, 1, 0]) [0]) (loopK Try.prog ann113b 2 X (blockK 0 (sqK Try.prog G113b ann113b (cdF Try.f113 [1, 1]) (bodyK Try.prog Try.f113 K)))) s → X s) → X (f113b_g0 c0 sv0_n sv0_g t7v0 t8v0)) := by kernel_rfl
  refine ofEq e ?_
  intro X hX
  refine h X ?_
  intro sv0 t7v0 t8v0 hs
  refine hX _ ?_
  have e2 := f113b_stepeq0 K X c0 sv0 t7v0 t8v0
  rw [e2]
  exact hs
theorem f113b_eq1 (K : List PA → Prop) (X0 : St → Prop) (c0 : Span) (sv1 : (Sl KinkRow)) (iv1 : Int) (t7v1 : Int) (t8v1 : Int) (t16v1 : Bool) :
  f113b_at1 K X0 c0 sv1.len (fun i => enc_129 (sv1.get i)) iv1 t7v1 t8v1 t16v1 =
  (condP t16v1
   (K [.one (.int .i64 iv1)])
   (X0 (f113b_g0 c0 sv1.len (fun i => enc_129 (sv1.get i)) t7v1 (w64 (t8v1 + (1:Int)))))) := by kernel_rfl
abbrev R113b := Int
abbrev e113b (r : Int) : List PA := [.one (.int .i64 r)]
attribute [irreducible] f113b_at0 f113b_at1
def s113b_at1 (S0 : (Sl KinkRow) → Int → Int → Int) (c0 : Span) (sv1 : (Sl KinkRow)) (iv1 : Int) (t7v1 : Int) (t8v1 : Int) (t16v1 : Bool) : Int :=
  (cond t16v1
   iv1
   (S0 sv1 t7v1 (w64 (t8v1 + (1:Int)))))
def p113b_at1 (P0 : (Sl KinkRow) → Int → Int → Bool) (c0 : Span) (sv1 : (Sl KinkRow)) (iv1 : Int) (t7v1 : Int) (t8v1 : Int) (t16v1 : Bool) : Bool :=
  (cond t16v1
   true
   (P0 sv1 t7v1 (w64 (t8v1 + (1:Int)))))
theorem q113b_at1 (K : List PA → Prop) (c0 : Span)
  (X0 : St → Prop) (P0 : (Sl KinkRow) → Int → Int → Bool) (S0 : (Sl KinkRow) → Int → Int → Int)
  (hX0 : ∀ (sv0 : (Sl KinkRow)) (t7v0 : Int) (t8v0 : Int) (sv0_g : Nat → List PV) (sv0_h : sv0_g = fun i => enc_129 (sv0.get i)), P0 sv0 t7v0 t8v0 = true → K (e113b (S0 sv0 t7v0 t8v0)) → X0 (f113b_g0 c0 sv0.len sv0_g t7v0 t8v0)) (sv1 : (Sl KinkRow)) (iv1 : Int) (t7v1 : Int) (t8v1 : Int) (t16v1 : Bool) (sv1_g : Nat → List PV) (sv1_h : sv1_g = fun i => enc_129 (sv1.get i)) (hs : p113b_at1 P0 c0 sv1 iv1 t7v1 t8v1 t16v1 = true) (hk : K (e113b (s113b_at1 S0 c0 sv1 iv1 t7v1 t8v1 t16v1))) : f113b_at1 K X0 c0 sv1.len sv1_g iv1 t7v1 t8v1 t16v1 := by
  subst sv1_h
  refine ofEq (f113b_eq1 K X0 c0 sv1 iv1 t7v1 t8v1 t16v1) ?_
  unfold p113b_at1 at hs
  unfold s113b_at1 at hk
  exact (condB_go (K := fun r => K (e113b r))
   (fun hs hk => hk)
   (fun hs hk => (hX0 sv1 t7v1 (w64 (t8v1 + (1:Int))) (fun i => enc_129 (sv1.get i)) rfl hs hk)) hs hk)
def s113b_st0 (c0 : Span) (S0 : (Sl KinkRow) → Int → Int → Int) (sv0 : (Sl KinkRow)) (t7v0 : Int) (t8v0 : Int) : Int :=
  (cond (decide (t8v0 < t7v0))
   (s113b_at1 S0 c0 sv0 t8v0 t7v0 t8v0 (s89 c0 (sv0.get t8v0.toNat)))
   (-1:Int))
def p113b_st0 (c0 : Span) (P0 : (Sl KinkRow) → Int → Int → Bool) (sv0 : (Sl KinkRow)) (t7v0 : Int) (t8v0 : Int) : Bool :=
  (cond (decide (t8v0 < t7v0))
   (decide ((0 ≤ t8v0 ∧ t8v0 < (sv0.len : Int))) &&
   (p113b_at1 P0 c0 sv0 t8v0 t7v0 t8v0 (s89 c0 (sv0.get t8v0.toNat))))
   true)
def s113b_lp0 (c0 : Span) : Nat → (Sl KinkRow) → Int → Int → Int
  | 0 => fun _ _ _ => default
  | k + 1 => s113b_st0 c0 (s113b_lp0 c0 k)
def p113b_lp0 (c0 : Span) : Nat → (Sl KinkRow) → Int → Int → Bool
  | 0 => fun _ _ _ => false
  | k + 1 => p113b_st0 c0 (p113b_lp0 c0 k)
def s113b_at0 (c0 : Span) (sv0 : (Sl KinkRow)) (t7v0 : Int) (t8v0 : Int) : Int := s113b_lp0 c0 Fuel sv0 t7v0 t8v0
def p113b_at0 (c0 : Span) (sv0 : (Sl KinkRow)) (t7v0 : Int) (t8v0 : Int) : Bool := p113b_lp0 c0 Fuel sv0 t7v0 t8v0
theorem q113b_at0 (K : List PA → Prop) (c0 : Span) (sv0 : (Sl KinkRow)) (t7v0 : Int) (t8v0 : Int) (sv0_g : Nat → List PV) (sv0_h : sv0_g = fun i => enc_129 (sv0.get i)) (hs : p113b_at0 c0 sv0 t7v0 t8v0 = true) (hk : K (e113b (s113b_at0 c0 sv0 t7v0 t8v0))) : f113b_at0 K c0 sv0.len sv0_g t7v0 t8v0 := by
  refine f113b_loop0 K c0 sv0.len sv0_g t7v0 t8v0 ?_
  intro X0 hstep
  have key : ∀ (k : Nat) (sv0 : (Sl KinkRow)) (t7v0 : Int) (t8v0 : Int) (sv0_g : Nat → List PV) (sv0_h : sv0_g = fun i => enc_129 (sv0.get i)), p113b_lp0 c0 k sv0 t7v0 t8v0 = true → K (e113b (s113b_lp0 c0 k sv0 t7v0 t8v0)) → X0 (f113b_g0 c0 sv0.len sv0_g t7v0 t8v0) := by
    intro k
    induction k with
    | zero => intro sv0 t7v0 t8v0 sv0_g sv0_h hs; exact absurd hs Bool.false_ne_true
    | succ k ih =>
      intro sv0 t7v0 t8v0 sv0_g sv0_h hs hk
      subst sv0_h
      refine hstep sv0 t7v0 t8v0 ?_
      have hs : p113b_st0 c0 (p113b_lp0 c0 k) sv0 t7v0 t8v0 = true := hs
      have hk : K (e113b (s113b_st0 c0 (s113b_lp0 c0 k) sv0 t7v0 t8v0)) := hk
      unfold p113b_st0 at hs
      unfold s113b_st0 at hk
      generalize s113b_lp0 c0 k = S0 at hk ih
      generalize p113b_lp0 c0 k = P0 at hs ih
      have hX0 := ih
      exact (condB_go (K := fun r => K (e113b r))
       (fun hs hk => (andK hs fun hc hs => ⟨hc, (q113b_at1 K c0 X0 P0 S0 hX0 sv0 t8v0 t7v0 t8v0 (s89 c0 (sv0.get t8v0.toNat)) (fun i => enc_129 (sv0.get i)) rfl hs hk)⟩))
       (fun hs hk => hk) hs hk)
  exact key _ sv0 t7v0 t8v0 sv0_g sv0_h hs hk
def s113b (c0 : Span) (s : (Sl KinkRow)) : Int :=
  (s113b_at0 c0 s (s.len : Int) (0:Int))
def p113b (c0 : Span) (s : (Sl KinkRow)) : Bool :=
  (p113b_at0 c0 s (s.len : Int) (0:Int))
theorem q113b (c0 : Span) (s : (Sl KinkRow)) (K : List PA → Prop) (hs : p113b c0 s = true) (hk : K (e113b (s113b c0 s))) : vcFun Try.prog G113b ann113b 113 [.one (.sl s.len 3 (fun i => enc_129 (s.get i))), .one (.fn 89 [] [.fp (enc_24 c0) 0])] K := by
  refine ofEq (f113b_top c0 s K) ?_
  unfold p113b at hs
  unfold s113b at hk
  exact (q113b_at0 K c0 s (s.len : Int) (0:Int) (fun i => enc_129 (s.get i)) rfl hs hk)
abbrev G113c : Ctrs := csm T113 (fun _ _ => []) (fun _ => false)
def ann113c : Ann := ⟨19, [(0, ⟨[0, 1], [], [], [], []⟩), (1, ⟨[0, 1, 7, 8], [], [], [], []⟩), (2, ⟨[0, 1, 7, 8, 9], [], [], [], []⟩), (3, ⟨[0, 1, 5, 7, 8], [], [], [], []⟩), (4, ⟨[0, 1, 5, 7, 8, 16], [], [], [], []⟩), (5, ⟨[4], [], [], [], []⟩), (6, ⟨[0, 1, 7, 8], [], [], [], []⟩), (7, ⟨[4], [], [], [], []⟩)],
  [(2, ⟨[0, 1, 7, 8], [], [], [], []⟩)],
  [(5, ⟨[0, 1, 5, 7, 8, 16], [], [], [], []⟩)],
  [], []⟩
def f113c_g0 (c0 : Span) (sv0_n : Nat) (sv0_g : Nat → List PV) (t7v0 : Int) (t8v0 : Int) : St := ⟨[(0, .one (.c (.p (.sl sv0_n 3 sv0_g)))), (1, .one (.c (.p (.fn 90 [] [.fp (enc_24 c0) 0])))), (7, .one (.c (.p (.int .i64 t7v0)))), (8, .one (.c (.p (.int .i64 t8v0))))], [], []⟩
def f113c_at0 (K : List PA → Prop) (c0 : Span) (sv0_n : Nat) (sv0_g : Nat → List PV) (t7v0 : Int) (t8v0 : Int) : Prop := vc Try.prog G113c ann113c (cdF Try.f113 [1, 0, 1, 0]) (blockK 0 (sqK Try.prog G113c ann113c (cdF Try.f113 [1, 1]) (bodyK Try.prog Try.f113 K))) (f113c_g0 c0 sv0_n sv0_g t7v0 t8v0)
def f113c_g1 (c0 : Span) (sv1_n : Nat) (sv1_g : Nat → List PV) (iv1 : Int) (t7v1 : Int) (t8v1 : Int) (t16v1 : Bool) : St := ⟨[(0, .one (.c (.p (.sl sv1_n 3 sv1_g)))), (1, .one (.c (.p (.fn 90 [] [.fp (enc_24 c0) 0])))), (5, .one (.c (.p (.int .i64 iv1)))), (7, .one (.c (.p (.int .i64 t7v1)))), (8, .one (.c (.p (.int .i64 t8v1)))), (16, .one (.c (.p (.bool t16v1))))], [], []⟩
def f113c_at1 (K : List PA → Prop) (X0 : St → Prop) (c0 : Span) (sv1_n : Nat) (sv1_g : Nat → List PV) (iv1 : Int) (t7v1 : Int) (t8v1 : Int) (t16v1 : Bool) : Prop := vc Try.prog G113c ann113c (cdF Try.f113 [1, 0, 1, 0, 0, 1, 1, 0, 0, 1, 1]) (blockK 1 (sqK Try.prog G113c ann113c (cdF Try.f113 [1, 0, 1, 0, 0, 1, 1, 1]) (loopK Try.prog ann113c 2 X0 (blockK 0 (sqK Try.prog G113c ann113c (cdF Try.f113 [1, 1]) (bodyK Try.prog Try.f113 K)))))) (f113c_g1 c0 sv1_n sv1_g iv1 t7v1 t8v1 t16v1)
theorem f113c_top (c0 : Span) (s : (Sl KinkRow)) (K : List PA → Prop) :
  vcFun Try.prog G113c ann113c 113 [.one (.sl s.len 3 (fun i => enc_129 (s.get i))), .one (.fn 90 [] [.fp (enc_24 c0) 0])] K =
  (f113c_at0 K c0 s.len (fun i => enc_129 (s.get i)) (s.len : Int) (0:Int)) := by kernel_rfl
def f113c_step0 (K : List PA → Prop) (X0 : St → Prop) (c0 : Span) (sv0 : (Sl KinkRow)) (t7v0 : Int) (t8v0 : Int) : Prop :=
  (condP (decide (t8v0 < t7v0))
   (((0 ≤ t8v0 ∧ t8v0 < (sv0.len : Int))) ∧
   (f113c_at1 K X0 c0 sv0.len (fun i => enc_129 (sv0.get i)) t8v0 t7v0 t8v0 (s90 c0 (sv0.get t8v0.toNat))))
   (K [.one (.int .i64 (-1:Int))]))
theorem f113c_stepeq0 (K : List PA → Prop) (X0 : St → Prop) (c0 : Span) (sv0 : (Sl KinkRow)) (t7v0 : Int) (t8v0 : Int) :
  vc Try.prog G113c ann113c (cd (cdF Try.f113 [1, 0, 1, 0]) [0]) (loopK Try.prog ann113c 2 X0 (blockK 0 (sqK Try.prog G113c ann113c (cdF Try.f113 [1, 1]) (bodyK Try.prog Try.f113 K)))) (f113c_g0 c0 sv0.len (fun i => enc_129 (sv0.get i)) t7v0 t8v0) =
  f113c_step0 K X0 c0 sv0 t7v0 t8v0 := by kernel_rfl
theorem f113c_loop0 (K : List PA → Prop) (c0 : Span) (sv0_n : Nat) (sv0_g : Nat → List PV) (t7v0 : Int) (t8v0 : Int)
  (h : ∀ X0 : St → Prop, (∀ (sv0 : (Sl KinkRow)) (t7v0 : Int) (t8v0 : Int), f113c_step0 K X0 c0 sv0 t7v0 t8v0 → X0 (f113c_g0 c0 sv0.len (fun i => enc_129 (sv0.get i)) t7v0 t8v0)) → X0 (f113c_g0 c0 sv0_n sv0_g t7v0 t8v0)) :
  f113c_at0 K c0 sv0_n sv0_g t7v0 t8v0 := by
  have e : f113c_at0 K c0 sv0_n sv0_g t7v0 t8v0 = (∀ X : St → Prop, (∀ s, vc Try.prog G113c ann113c (cd (cdF Try.f113 [1, 0, 1, 0]) [0]) (loopK Try.prog ann113c 2 X (blockK 0 (sqK Try.prog G113c ann113c (cdF Try.f113 [1, 1]) (bodyK Try.prog Try.f113 K)))) s → X s) → X (f113c_g0 c0 sv0_n sv0_g t7v0 t8v0)) := by kernel_rfl
  refine ofEq e ?_
  intro X hX
  refine h X ?_
  intro sv0 t7v0 t8v0 hs
  refine hX _ ?_
  have e2 := f113c_stepeq0 K X c0 sv0 t7v0 t8v0
  rw [e2]
  exact hs
theorem f113c_eq1 (K : List PA → Prop) (X0 : St → Prop) (c0 : Span) (sv1 : (Sl KinkRow)) (iv1 : Int) (t7v1 : Int) (t8v1 : Int) (t16v1 : Bool) :
  f113c_at1 K X0 c0 sv1.len (fun i => enc_129 (sv1.get i)) iv1 t7v1 t8v1 t16v1 =
  (condP t16v1
   (K [.one (.int .i64 iv1)])
   (X0 (f113c_g0 c0 sv1.len (fun i => enc_129 (sv1.get i)) t7v1 (w64 (t8v1 + (1:Int)))))) := by kernel_rfl
abbrev R113c := Int
abbrev e113c (r : Int) : List PA := [.one (.int .i64 r)]
attribute [irreducible] f113c_at0 f113c_at1
def s113c_at1 (S0 : (Sl KinkRow) → Int → Int → Int) (c0 : Span) (sv1 : (Sl KinkRow)) (iv1 : Int) (t7v1 : Int) (t8v1 : Int) (t16v1 : Bool) : Int :=
  (cond t16v1
   iv1
   (S0 sv1 t7v1 (w64 (t8v1 + (1:Int)))))
def p113c_at1 (P0 : (Sl KinkRow) → Int → Int → Bool) (c0 : Span) (sv1 : (Sl KinkRow)) (iv1 : Int) (t7v1 : Int) (t8v1 : Int) (t16v1 : Bool) : Bool :=
  (cond t16v1
   true
   (P0 sv1 t7v1 (w64 (t8v1 + (1:Int)))))
theorem q113c_at1 (K : List PA → Prop) (c0 : Span)
  (X0 : St → Prop) (P0 : (Sl KinkRow) → Int → Int → Bool) (S0 : (Sl KinkRow) → Int → Int → Int)
  (hX0 : ∀ (sv0 : (Sl KinkRow)) (t7v0 : Int) (t8v0 : Int) (sv0_g : Nat → List PV) (sv0_h : sv0_g = fun i => enc_129 (sv0.get i)), P0 sv0 t7v0 t8v0 = true → K (e113c (S0 sv0 t7v0 t8v0)) → X0 (f113c_g0 c0 sv0.len sv0_g t7v0 t8v0)) (sv1 : (Sl KinkRow)) (iv1 : Int) (t7v1 : Int) (t8v1 : Int) (t16v1 : Bool) (sv1_g : Nat → List PV) (sv1_h : sv1_g = fun i => enc_129 (sv1.get i)) (hs : p113c_at1 P0 c0 sv1 iv1 t7v1 t8v1 t16v1 = true) (hk : K (e113c (s113c_at1 S0 c0 sv1 iv1 t7v1 t8v1 t16v1))) : f113c_at1 K X0 c0 sv1.len sv1_g iv1 t7v1 t8v1 t16v1 := by
  subst sv1_h
  refine ofEq (f113c_eq1 K X0 c0 sv1 iv1 t7v1 t8v1 t16v1) ?_
  unfold p113c_at1 at hs
  unfold s113c_at1 at hk
  exact (condB_go (K := fun r => K (e113c r))
   (fun hs hk => hk)
   (fun hs hk => (hX0 sv1 t7v1 (w64 (t8v1 + (1:Int))) (fun i => enc_129 (sv1.get i)) rfl hs hk)) hs hk)
def s113c_st0 (c0 : Span) (S0 : (Sl KinkRow) → Int → Int → Int) (sv0 : (Sl KinkRow)) (t7v0 : Int) (t8v0 : Int) : Int :=
  (cond (decide (t8v0 < t7v0))
   (s113c_at1 S0 c0 sv0 t8v0 t7v0 t8v0 (s90 c0 (sv0.get t8v0.toNat)))
   (-1:Int))
def p113c_st0 (c0 : Span) (P0 : (Sl KinkRow) → Int → Int → Bool) (sv0 : (Sl KinkRow)) (t7v0 : Int) (t8v0 : Int) : Bool :=
  (cond (decide (t8v0 < t7v0))
   (decide ((0 ≤ t8v0 ∧ t8v0 < (sv0.len : Int))) &&
   (p113c_at1 P0 c0 sv0 t8v0 t7v0 t8v0 (s90 c0 (sv0.get t8v0.toNat))))
   true)
def s113c_lp0 (c0 : Span) : Nat → (Sl KinkRow) → Int → Int → Int
  | 0 => fun _ _ _ => default
  | k + 1 => s113c_st0 c0 (s113c_lp0 c0 k)
def p113c_lp0 (c0 : Span) : Nat → (Sl KinkRow) → Int → Int → Bool
  | 0 => fun _ _ _ => false
  | k + 1 => p113c_st0 c0 (p113c_lp0 c0 k)
def s113c_at0 (c0 : Span) (sv0 : (Sl KinkRow)) (t7v0 : Int) (t8v0 : Int) : Int := s113c_lp0 c0 Fuel sv0 t7v0 t8v0
def p113c_at0 (c0 : Span) (sv0 : (Sl KinkRow)) (t7v0 : Int) (t8v0 : Int) : Bool := p113c_lp0 c0 Fuel sv0 t7v0 t8v0
theorem q113c_at0 (K : List PA → Prop) (c0 : Span) (sv0 : (Sl KinkRow)) (t7v0 : Int) (t8v0 : Int) (sv0_g : Nat → List PV) (sv0_h : sv0_g = fun i => enc_129 (sv0.get i)) (hs : p113c_at0 c0 sv0 t7v0 t8v0 = true) (hk : K (e113c (s113c_at0 c0 sv0 t7v0 t8v0))) : f113c_at0 K c0 sv0.len sv0_g t7v0 t8v0 := by
  refine f113c_loop0 K c0 sv0.len sv0_g t7v0 t8v0 ?_
  intro X0 hstep
  have key : ∀ (k : Nat) (sv0 : (Sl KinkRow)) (t7v0 : Int) (t8v0 : Int) (sv0_g : Nat → List PV) (sv0_h : sv0_g = fun i => enc_129 (sv0.get i)), p113c_lp0 c0 k sv0 t7v0 t8v0 = true → K (e113c (s113c_lp0 c0 k sv0 t7v0 t8v0)) → X0 (f113c_g0 c0 sv0.len sv0_g t7v0 t8v0) := by
    intro k
    induction k with
    | zero => intro sv0 t7v0 t8v0 sv0_g sv0_h hs; exact absurd hs Bool.false_ne_true
    | succ k ih =>
      intro sv0 t7v0 t8v0 sv0_g sv0_h hs hk
      subst sv0_h
      refine hstep sv0 t7v0 t8v0 ?_
      have hs : p113c_st0 c0 (p113c_lp0 c0 k) sv0 t7v0 t8v0 = true := hs
      have hk : K (e113c (s113c_st0 c0 (s113c_lp0 c0 k) sv0 t7v0 t8v0)) := hk
      unfold p113c_st0 at hs
      unfold s113c_st0 at hk
      generalize s113c_lp0 c0 k = S0 at hk ih
      generalize p113c_lp0 c0 k = P0 at hs ih
      have hX0 := ih
      exact (condB_go (K := fun r => K (e113c r))
       (fun hs hk => (andK hs fun hc hs => ⟨hc, (q113c_at1 K c0 X0 P0 S0 hX0 sv0 t8v0 t7v0 t8v0 (s90 c0 (sv0.get t8v0.toNat)) (fun i => enc_129 (sv0.get i)) rfl hs hk)⟩))
       (fun hs hk => hk) hs hk)
  exact key _ sv0 t7v0 t8v0 sv0_g sv0_h hs hk
def s113c (c0 : Span) (s : (Sl KinkRow)) : Int :=
  (s113c_at0 c0 s (s.len : Int) (0:Int))
def p113c (c0 : Span) (s : (Sl KinkRow)) : Bool :=
  (p113c_at0 c0 s (s.len : Int) (0:Int))
theorem q113c (c0 : Span) (s : (Sl KinkRow)) (K : List PA → Prop) (hs : p113c c0 s = true) (hk : K (e113c (s113c c0 s))) : vcFun Try.prog G113c ann113c 113 [.one (.sl s.len 3 (fun i => enc_129 (s.get i))), .one (.fn 90 [] [.fp (enc_24 c0) 0])] K := by
  refine ofEq (f113c_top c0 s K) ?_
  unfold p113c at hs
  unfold s113c at hk
  exact (q113c_at0 K c0 s (s.len : Int) (0:Int) (fun i => enc_129 (s.get i)) rfl hs hk)
def ctr113 : List PA → COut
  | [.one (.sl a0_n a0_s a0_g), .one (.fn 87 [] [.fp [.int .i64 c0] 0])] => .det (IsE enc_129 3 a0_s a0_g ∧ p113 c0 (⟨a0_n, decF_129 a0_g⟩ : (Sl KinkRow)) = true) [.one (.int .i64 (s113 c0 (⟨a0_n, decF_129 a0_g⟩ : (Sl KinkRow))))]
  | [.one (.sl a0_n a0_s a0_g), .one (.fn 88 [] [.fp [.int .i64 c0] 0])] => .det (IsE enc_129 3 a0_s a0_g ∧ p113a c0 (⟨a0_n, decF_129 a0_g⟩ : (Sl KinkRow)) = true) [.one (.int .i64 (s113a c0 (⟨a0_n, decF_129 a0_g⟩ : (Sl KinkRow))))]
  | [.one (.sl a0_n a0_s a0_g), .one (.fn 89 [] [.fp [.int .i64 c0_Low, .int .i64 c0_High] 0])] => .det (IsE enc_129 3 a0_s a0_g ∧ p113b (⟨c0_Low, c0_High⟩ : Span) (⟨a0_n, decF_129 a0_g⟩ : (Sl KinkRow)) = true) [.one (.int .i64 (s113b (⟨c0_Low, c0_High⟩ : Span) (⟨a0_n, decF_129 a0_g⟩ : (Sl KinkRow))))]
  | [.one (.sl a0_n a0_s a0_g), .one (.fn 90 [] [.fp [.int .i64 c0_Low, .int .i64 c0_High] 0])] => .det (IsE enc_129 3 a0_s a0_g ∧ p113c (⟨c0_Low, c0_High⟩ : Span) (⟨a0_n, decF_129 a0_g⟩ : (Sl KinkRow)) = true) [.one (.int .i64 (s113c (⟨c0_Low, c0_High⟩ : Span) (⟨a0_n, decF_129 a0_g⟩ : (Sl KinkRow))))]
  | _ => .no
theorem call113 : Callable Try.prog 113 := ⟨_, rfl, rfl, by kernel_rfl⟩
theorem ok113 : Ok Try.prog 113 ctr113 := ok_tab okT113 call113 fun args K h => by
  unfold ctr113 at h
  split at h
  · rename_i a0_n a0_s a0_g c0
    obtain ⟨⟨⟨rfl, a0_f, rfl⟩, hs⟩, hk⟩ := h
    try rw [decF_enc_129 a0_f] at hs
    try rw [decF_enc_129 a0_f] at hk
    exact ⟨(fun _ _ => []), (fun _ => false), ann113, q113 c0 (⟨a0_n, a0_f⟩ : (Sl KinkRow)) K hs hk⟩
  · rename_i a0_n a0_s a0_g c0
    obtain ⟨⟨⟨rfl, a0_f, rfl⟩, hs⟩, hk⟩ := h
    try rw [decF_enc_129 a0_f] at hs
    try rw [decF_enc_129 a0_f] at hk
    exact ⟨(fun _ _ => []), (fun _ => false), ann113a, q113a c0 (⟨a0_n, a0_f⟩ : (Sl KinkRow)) K hs hk⟩
  · rename_i a0_n a0_s a0_g c0_Low c0_High
    obtain ⟨⟨⟨rfl, a0_f, rfl⟩, hs⟩, hk⟩ := h
    try rw [decF_enc_129 a0_f] at hs
    try rw [decF_enc_129 a0_f] at hk
    exact ⟨(fun _ _ => []), (fun _ => false), ann113b, q113b (⟨c0_Low, c0_High⟩ : Span) (⟨a0_n, a0_f⟩ : (Sl KinkRow)) K hs hk⟩
  · rename_i a0_n a0_s a0_g c0_Low c0_High
    obtain ⟨⟨⟨rfl, a0_f, rfl⟩, hs⟩, hk⟩ := h
    try rw [decF_enc_129 a0_f] at hs
    try rw [decF_enc_129 a0_f] at hk
    exact ⟨(fun _ _ => []), (fun _ => false), ann113c, q113c (⟨c0_Low, c0_High⟩ : Span) (⟨a0_n, a0_f⟩ : (Sl KinkRow)) K hs hk⟩
  · exact h.elim
-- 86 flux.first[api.KinkRow]
abbrev T86 : Tabs := (Tabs.nil.addF 113 ctr113)
theorem okT86 : TabsOk Try.prog T86 := (TabsOk.nil.addF ok113)
abbrev G86 : Ctrs := csm T86 (fun _ _ => []) (fun _ => false)
def ann86 : Ann := ⟨14, [(0, ⟨[0, 1], [], [], [], []⟩), (1, ⟨[0, 5], [], [], [], []⟩), (2, ⟨[0, 5, 10], [], [], [], []⟩), (3, ⟨[4], [], [], [], []⟩), (4, ⟨[4], [], [], [], []⟩)],
  [],
  [],
  [], []⟩
theorem f86_top (c0 : Int) (rows : (Sl KinkRow)) (K : List PA → Prop) :
  vcFun Try.prog G86 ann86 86 [.one (.sl rows.len 3 (fun i => enc_129 (rows.get i))), .one (.fn 87 [] [.fp (enc_3 c0) 0])] K =
  ((IsE enc_129 3 3 (fun i => enc_129 (rows.get i)) ∧ (p113 c0 rows = true)) ∧
  (condP (decide ((s113 c0 rows) ≥ (0:Int)))
   (K [.one (.int .i64 (s113 c0 rows))])
   (K [.one (.int .i64 (rows.len : Int))]))) := by kernel_rfl
abbrev R86 := Int
abbrev e86 (r : Int) : List PA := [.one (.int .i64 r)]
def s86 (c0 : Int) (rows : (Sl KinkRow)) : Int :=
  (cond (decide ((s113 c0 rows) ≥ (0:Int)))
   (s113 c0 rows)
   (rows.len : Int))
def p86 (c0 : Int) (rows : (Sl KinkRow)) : Bool :=
  (decide ((p113 c0 rows = true)) &&
  true)
theorem q86 (c0 : Int) (rows : (Sl KinkRow)) (K : List PA → Prop) (hs : p86 c0 rows = true) (hk : K (e86 (s86 c0 rows))) : vcFun Try.prog G86 ann86 86 [.one (.sl rows.len 3 (fun i => enc_129 (rows.get i))), .one (.fn 87 [] [.fp (enc_3 c0) 0])] K := by
  refine ofEq (f86_top c0 rows K) ?_
  unfold p86 at hs
  unfold s86 at hk
  exact (andK hs fun hc hs => ⟨⟨isE, hc⟩, (condP_gt (K := fun r => K (e86 r))
   (fun hk => hk)
   (fun hk => hk) hk)⟩)
abbrev G86a : Ctrs := csm T86 (fun _ _ => []) (fun _ => false)
def ann86a : Ann := ⟨14, [(0, ⟨[0, 1], [], [], [], []⟩), (1, ⟨[0, 5], [], [], [], []⟩), (2, ⟨[0, 5, 10], [], [], [], []⟩), (3, ⟨[4], [], [], [], []⟩), (4, ⟨[4], [], [], [], []⟩)],
  [],
  [],
  [], []⟩
theorem f86a_top (c0 : Int) (rows : (Sl KinkRow)) (K : List PA → Prop) :
  vcFun Try.prog G86a ann86a 86 [.one (.sl rows.len 3 (fun i => enc_129 (rows.get i))), .one (.fn 88 [] [.fp (enc_3 c0) 0])] K =
  ((IsE enc_129 3 3 (fun i => enc_129 (rows.get i)) ∧ (p113a c0 rows = true)) ∧
  (condP (decide ((s113a c0 rows) ≥ (0:Int)))
   (K [.one (.int .i64 (s113a c0 rows))])
   (K [.one (.int .i64 (rows.len : Int))]))) := by kernel_rfl
abbrev R86a := Int
abbrev e86a (r : Int) : List PA := [.one (.int .i64 r)]
def s86a (c0 : Int) (rows : (Sl KinkRow)) : Int :=
  (cond (decide ((s113a c0 rows) ≥ (0:Int)))
   (s113a c0 rows)
   (rows.len : Int))
def p86a (c0 : Int) (rows : (Sl KinkRow)) : Bool :=
  (decide ((p113a c0 rows = true)) &&
  true)
theorem q86a (c0 : Int) (rows : (Sl KinkRow)) (K : List PA → Prop) (hs : p86a c0 rows = true) (hk : K (e86a (s86a c0 rows))) : vcFun Try.prog G86a ann86a 86 [.one (.sl rows.len 3 (fun i => enc_129 (rows.get i))), .one (.fn 88 [] [.fp (enc_3 c0) 0])] K := by
  refine ofEq (f86a_top c0 rows K) ?_
  unfold p86a at hs
  unfold s86a at hk
  exact (andK hs fun hc hs => ⟨⟨isE, hc⟩, (condP_gt (K := fun r => K (e86a r))
   (fun hk => hk)
   (fun hk => hk) hk)⟩)
abbrev G86b : Ctrs := csm T86 (fun _ _ => []) (fun _ => false)
def ann86b : Ann := ⟨14, [(0, ⟨[0, 1], [], [], [], []⟩), (1, ⟨[0, 5], [], [], [], []⟩), (2, ⟨[0, 5, 10], [], [], [], []⟩), (3, ⟨[4], [], [], [], []⟩), (4, ⟨[4], [], [], [], []⟩)],
  [],
  [],
  [], []⟩
theorem f86b_top (c0 : Span) (rows : (Sl KinkRow)) (K : List PA → Prop) :
  vcFun Try.prog G86b ann86b 86 [.one (.sl rows.len 3 (fun i => enc_129 (rows.get i))), .one (.fn 89 [] [.fp (enc_24 c0) 0])] K =
  ((IsE enc_129 3 3 (fun i => enc_129 (rows.get i)) ∧ (p113b c0 rows = true)) ∧
  (condP (decide ((s113b c0 rows) ≥ (0:Int)))
   (K [.one (.int .i64 (s113b c0 rows))])
   (K [.one (.int .i64 (rows.len : Int))]))) := by kernel_rfl
abbrev R86b := Int
abbrev e86b (r : Int) : List PA := [.one (.int .i64 r)]
def s86b (c0 : Span) (rows : (Sl KinkRow)) : Int :=
  (cond (decide ((s113b c0 rows) ≥ (0:Int)))
   (s113b c0 rows)
   (rows.len : Int))
def p86b (c0 : Span) (rows : (Sl KinkRow)) : Bool :=
  (decide ((p113b c0 rows = true)) &&
  true)
theorem q86b (c0 : Span) (rows : (Sl KinkRow)) (K : List PA → Prop) (hs : p86b c0 rows = true) (hk : K (e86b (s86b c0 rows))) : vcFun Try.prog G86b ann86b 86 [.one (.sl rows.len 3 (fun i => enc_129 (rows.get i))), .one (.fn 89 [] [.fp (enc_24 c0) 0])] K := by
  refine ofEq (f86b_top c0 rows K) ?_
  unfold p86b at hs
  unfold s86b at hk
  exact (andK hs fun hc hs => ⟨⟨isE, hc⟩, (condP_gt (K := fun r => K (e86b r))
   (fun hk => hk)
   (fun hk => hk) hk)⟩)
abbrev G86c : Ctrs := csm T86 (fun _ _ => []) (fun _ => false)
def ann86c : Ann := ⟨14, [(0, ⟨[0, 1], [], [], [], []⟩), (1, ⟨[0, 5], [], [], [], []⟩), (2, ⟨[0, 5, 10], [], [], [], []⟩), (3, ⟨[4], [], [], [], []⟩), (4, ⟨[4], [], [], [], []⟩)],
  [],
  [],
  [], []⟩
theorem f86c_top (c0 : Span) (rows : (Sl KinkRow)) (K : List PA → Prop) :
  vcFun Try.prog G86c ann86c 86 [.one (.sl rows.len 3 (fun i => enc_129 (rows.get i))), .one (.fn 90 [] [.fp (enc_24 c0) 0])] K =
  ((IsE enc_129 3 3 (fun i => enc_129 (rows.get i)) ∧ (p113c c0 rows = true)) ∧
  (condP (decide ((s113c c0 rows) ≥ (0:Int)))
   (K [.one (.int .i64 (s113c c0 rows))])
   (K [.one (.int .i64 (rows.len : Int))]))) := by kernel_rfl
abbrev R86c := Int
abbrev e86c (r : Int) : List PA := [.one (.int .i64 r)]
def s86c (c0 : Span) (rows : (Sl KinkRow)) : Int :=
  (cond (decide ((s113c c0 rows) ≥ (0:Int)))
   (s113c c0 rows)
   (rows.len : Int))
def p86c (c0 : Span) (rows : (Sl KinkRow)) : Bool :=
  (decide ((p113c c0 rows = true)) &&
  true)
theorem q86c (c0 : Span) (rows : (Sl KinkRow)) (K : List PA → Prop) (hs : p86c c0 rows = true) (hk : K (e86c (s86c c0 rows))) : vcFun Try.prog G86c ann86c 86 [.one (.sl rows.len 3 (fun i => enc_129 (rows.get i))), .one (.fn 90 [] [.fp (enc_24 c0) 0])] K := by
  refine ofEq (f86c_top c0 rows K) ?_
  unfold p86c at hs
  unfold s86c at hk
  exact (andK hs fun hc hs => ⟨⟨isE, hc⟩, (condP_gt (K := fun r => K (e86c r))
   (fun hk => hk)
   (fun hk => hk) hk)⟩)
def ctr86 : List PA → COut
  | [.one (.sl a0_n a0_s a0_g), .one (.fn 87 [] [.fp [.int .i64 c0] 0])] => .det (IsE enc_129 3 a0_s a0_g ∧ p86 c0 (⟨a0_n, decF_129 a0_g⟩ : (Sl KinkRow)) = true) [.one (.int .i64 (s86 c0 (⟨a0_n, decF_129 a0_g⟩ : (Sl KinkRow))))]
  | [.one (.sl a0_n a0_s a0_g), .one (.fn 88 [] [.fp [.int .i64 c0] 0])] => .det (IsE enc_129 3 a0_s a0_g ∧ p86a c0 (⟨a0_n, decF_129 a0_g⟩ : (Sl KinkRow)) = true) [.one (.int .i64 (s86a c0 (⟨a0_n, decF_129 a0_g⟩ : (Sl KinkRow))))]
  | [.one (.sl a0_n a0_s a0_g), .one (.fn 89 [] [.fp [.int .i64 c0_Low, .int .i64 c0_High] 0])] => .det (IsE enc_129 3 a0_s a0_g ∧ p86b (⟨c0_Low, c0_High⟩ : Span) (⟨a0_n, decF_129 a0_g⟩ : (Sl KinkRow)) = true) [.one (.int .i64 (s86b (⟨c0_Low, c0_High⟩ : Span) (⟨a0_n, decF_129 a0_g⟩ : (Sl KinkRow))))]
  | [.one (.sl a0_n a0_s a0_g), .one (.fn 90 [] [.fp [.int .i64 c0_Low, .int .i64 c0_High] 0])] => .det (IsE enc_129 3 a0_s a0_g ∧ p86c (⟨c0_Low, c0_High⟩ : Span) (⟨a0_n, decF_129 a0_g⟩ : (Sl KinkRow)) = true) [.one (.int .i64 (s86c (⟨c0_Low, c0_High⟩ : Span) (⟨a0_n, decF_129 a0_g⟩ : (Sl KinkRow))))]
  | _ => .no
theorem call86 : Callable Try.prog 86 := ⟨_, rfl, rfl, by kernel_rfl⟩
theorem ok86 : Ok Try.prog 86 ctr86 := ok_tab okT86 call86 fun args K h => by
  unfold ctr86 at h
  split at h
  · rename_i a0_n a0_s a0_g c0
    obtain ⟨⟨⟨rfl, a0_f, rfl⟩, hs⟩, hk⟩ := h
    try rw [decF_enc_129 a0_f] at hs
    try rw [decF_enc_129 a0_f] at hk
    exact ⟨(fun _ _ => []), (fun _ => false), ann86, q86 c0 (⟨a0_n, a0_f⟩ : (Sl KinkRow)) K hs hk⟩
  · rename_i a0_n a0_s a0_g c0
    obtain ⟨⟨⟨rfl, a0_f, rfl⟩, hs⟩, hk⟩ := h
    try rw [decF_enc_129 a0_f] at hs
    try rw [decF_enc_129 a0_f] at hk
    exact ⟨(fun _ _ => []), (fun _ => false), ann86a, q86a c0 (⟨a0_n, a0_f⟩ : (Sl KinkRow)) K hs hk⟩
  · rename_i a0_n a0_s a0_g c0_Low c0_High
    obtain ⟨⟨⟨rfl, a0_f, rfl⟩, hs⟩, hk⟩ := h
    try rw [decF_enc_129 a0_f] at hs
    try rw [decF_enc_129 a0_f] at hk
    exact ⟨(fun _ _ => []), (fun _ => false), ann86b, q86b (⟨c0_Low, c0_High⟩ : Span) (⟨a0_n, a0_f⟩ : (Sl KinkRow)) K hs hk⟩
  · rename_i a0_n a0_s a0_g c0_Low c0_High
    obtain ⟨⟨⟨rfl, a0_f, rfl⟩, hs⟩, hk⟩ := h
    try rw [decF_enc_129 a0_f] at hs
    try rw [decF_enc_129 a0_f] at hk
    exact ⟨(fun _ _ => []), (fun _ => false), ann86c, q86c (⟨c0_Low, c0_High⟩ : Span) (⟨a0_n, a0_f⟩ : (Sl KinkRow)) K hs hk⟩
  · exact h.elim
-- 51 flux.Shares
abbrev T51 : Tabs := (((Tabs.nil.addF 63 ctr63).addF 85 ctr85).addF 86 ctr86)
theorem okT51 : TabsOk Try.prog T51 := (((TabsOk.nil.addF ok63).addF ok85).addF ok86)
abbrev G51 : Ctrs := csm T51 (fun _ _ => []) (fun _ => false)
def ann51 : Ann := ⟨51, [(0, ⟨[0, 1, 5, 6], [5, 6], [], [], []⟩), (1, ⟨[0, 1, 5, 6, 19], [5, 6], [], [], []⟩), (2, ⟨[6, 7], [6], [], [], []⟩), (3, ⟨[1, 5, 6, 8], [5, 6, 8], [], [], []⟩), (4, ⟨[1, 5, 6, 8, 9], [5, 6, 8], [], [], []⟩), (5, ⟨[1, 5, 6, 8, 9, 27], [5, 6, 8], [], [], []⟩), (6, ⟨[1, 5, 6, 8], [5, 6, 8], [], [], []⟩), (7, ⟨[1, 6, 8, 10], [6, 8], [], [], []⟩), (8, ⟨[1, 6, 8, 10, 42], [6, 8], [], [], []⟩), (9, ⟨[6, 8], [6, 8], [], [], []⟩), (10, ⟨[6, 7], [6], [], [], []⟩)],
  [],
  [(2, ⟨[0, 1, 5, 6, 19], [5, 6], [], [], []⟩), (3, ⟨[0, 1, 5, 6], [5, 6], [], [], []⟩), (5, ⟨[1, 5, 6, 8, 9], [5, 6, 8], [], [], []⟩), (7, ⟨[1, 5, 6, 8], [5, 6, 8], [], [], []⟩), (8, ⟨[1, 6, 8, 10], [6, 8], [], [], []⟩)],
  [], []⟩
def f51_g0 (parts : Int) (t : (Sl KinkRow)) (opacity : Int) (t19v0 : Bool) : St := ⟨[(0, .one (.c (.p (.int .i64 parts)))), (1, .one (.c (.p (.sl t.len 3 (fun i => enc_129 (t.get i)))))), (5, .one (.c (.ptr 5 0))), (6, .one (.c (.ptr 6 0))), (19, .one (.c (.p (.bool t19v0))))], [(5, .box 3 [.p (.int .i64 opacity)]), (6, .box 24 [.p (.int .i64 (0:Int)), .p (.int .i64 (0:Int))])], []⟩
def f51_at0 (K : List PA → Prop) (parts : Int) (t : (Sl KinkRow)) (opacity : Int) (t19v0 : Bool) : Prop := vc Try.prog G51 ann51 (cdF Try.f51 [1, 0, 1]) (sqK Try.prog G51 ann51 (cdF Try.f51 [1, 1]) (bodyK Try.prog Try.f51 K)) (f51_g0 parts t opacity t19v0)
def f51_g1 (parts : Int) (t : (Sl KinkRow)) (opacity : Int) : St := ⟨[(0, .one (.c (.p (.int .i64 parts)))), (1, .one (.c (.p (.sl t.len 3 (fun i => enc_129 (t.get i)))))), (5, .one (.c (.ptr 5 0))), (6, .one (.c (.ptr 6 0)))], [(5, .box 3 [.p (.int .i64 opacity)]), (6, .box 24 [.p (.int .i64 (0:Int)), .p (.int .i64 (0:Int))])], []⟩
def f51_at1 (K : List PA → Prop) (parts : Int) (t : (Sl KinkRow)) (opacity : Int) : Prop := vc Try.prog G51 ann51 (cdF Try.f51 [1, 1]) (bodyK Try.prog Try.f51 K) (f51_g1 parts t opacity)
def f51_g2 (parts : Int) (t : (Sl KinkRow)) (opacity : Int) (iv2 : Int) : St := ⟨[(1, .one (.c (.p (.sl t.len 3 (fun i => enc_129 (t.get i)))))), (5, .one (.c (.ptr 5 0))), (6, .one (.c (.ptr 6 0))), (8, .one (.c (.ptr 8 0))), (9, .one (.c (.p (.int .i64 iv2))))], [(5, .fbox [.int .i64 opacity]), (6, .box 24 [.p (.int .i64 (0:Int)), .p (.int .i64 (0:Int))]), (8, .box 24 [.p (.int .i64 (0:Int)), .p (.int .i64 parts)])], []⟩
def f51_at2 (K : List PA → Prop) (parts : Int) (t : (Sl KinkRow)) (opacity : Int) (iv2 : Int) : Prop := vc Try.prog G51 ann51 (cdF Try.f51 [1, 1, 1, 0, 1]) (sqK Try.prog G51 ann51 (cdF Try.f51 [1, 1, 1, 1]) (bodyK Try.prog Try.f51 K)) (f51_g2 parts t opacity iv2)
def f51_g3 (parts : Int) (t : (Sl KinkRow)) (opacity : Int) (out_0v3 : Int) : St := ⟨[(1, .one (.c (.p (.sl t.len 3 (fun i => enc_129 (t.get i)))))), (5, .one (.c (.ptr 5 0))), (6, .one (.c (.ptr 6 0))), (8, .one (.c (.ptr 8 0)))], [(5, .fbox [.int .i64 opacity]), (6, .box 24 [.p (.int .i64 (0:Int)), .p (.int .i64 (0:Int))]), (8, .box 24 [.p (.int .i64 out_0v3), .p (.int .i64 parts)])], []⟩
def f51_at3 (K : List PA → Prop) (parts : Int) (t : (Sl KinkRow)) (opacity : Int) (out_0v3 : Int) : Prop := vc Try.prog G51 ann51 (cdF Try.f51 [1, 1, 1, 1]) (bodyK Try.prog Try.f51 K) (f51_g3 parts t opacity out_0v3)
def f51_g4 (parts : Int) (t : (Sl KinkRow)) (out_0v3 : Int) (iv4 : Int) : St := ⟨[(1, .one (.c (.p (.sl t.len 3 (fun i => enc_129 (t.get i)))))), (6, .one (.c (.ptr 6 0))), (8, .one (.c (.ptr 8 0))), (10, .one (.c (.p (.int .i64 iv4))))], [(6, .box 24 [.p (.int .i64 (0:Int)), .p (.int .i64 (0:Int))]), (8, .box 24 [.p (.int .i64 out_0v3), .p (.int .i64 parts)])], []⟩
def f51_at4 (K : List PA → Prop) (parts : Int) (t : (Sl KinkRow)) (out_0v3 : Int) (iv4 : Int) : Prop := vc Try.prog G51 ann51 (cdF Try.f51 [1, 1, 1, 1, 0, 1]) (sqK Try.prog G51 ann51 (cdF Try.f51 [1, 1, 1, 1, 1]) (bodyK Try.prog Try.f51 K)) (f51_g4 parts t out_0v3 iv4)
theorem f51_top (parts : Int) (t : (Sl KinkRow)) (opacity : Int) (K : List PA → Prop) :
  vcFun Try.prog G51 ann51 51 [.one (.int .i64 parts), .one (.sl t.len 3 (fun i => enc_129 (t.get i))), .one (.int .i64 opacity)] K =
  ((IsE enc_129 3 3 (fun i => enc_129 (t.get i)) ∧ (p85 parts t = true)) ∧
  (condP (!(s85 parts t))
   (f51_at0 K parts t opacity true)
   (f51_at0 K parts t opacity (!(s63 opacity (0:Int) (1000000:Int)))))) := by kernel_rfl
theorem f51_eq0 (K : List PA → Prop) (parts : Int) (t : (Sl KinkRow)) (opacity : Int) (t19v0 : Bool) :
  f51_at0 K parts t opacity t19v0 =
  (condP t19v0
   (K [.agg [.int .i64 (0:Int), .int .i64 (0:Int)], .one (.int .i64 (2:Int))])
   (f51_at1 K parts t opacity)) := by kernel_rfl
theorem f51_eq1 (K : List PA → Prop) (parts : Int) (t : (Sl KinkRow)) (opacity : Int) :
  f51_at1 K parts t opacity =
  ((IsE enc_129 3 3 (fun i => enc_129 (t.get i)) ∧ (p86 opacity t = true)) ∧
  (f51_at2 K parts t opacity (s86 opacity t))) := by kernel_rfl
theorem f51_eq2 (K : List PA → Prop) (parts : Int) (t : (Sl KinkRow)) (opacity : Int) (iv2 : Int) :
  f51_at2 K parts t opacity iv2 =
  (condP (decide (iv2 > (0:Int)))
   (((0 ≤ (w64 (iv2 - (1:Int))) ∧ (w64 (iv2 - (1:Int))) < (t.len : Int))) ∧
   (f51_at3 K parts t opacity ((t.get ((w64 (iv2 - (1:Int))).toNat)).Share.Low)))
   (f51_at3 K parts t opacity (0:Int))) := by kernel_rfl
theorem f51_eq3 (K : List PA → Prop) (parts : Int) (t : (Sl KinkRow)) (opacity : Int) (out_0v3 : Int) :
  f51_at3 K parts t opacity out_0v3 =
  ((IsE enc_129 3 3 (fun i => enc_129 (t.get i)) ∧ (p86a opacity t = true)) ∧
  (f51_at4 K parts t out_0v3 (s86a opacity t))) := by kernel_rfl
theorem f51_eq4 (K : List PA → Prop) (parts : Int) (t : (Sl KinkRow)) (out_0v3 : Int) (iv4 : Int) :
  f51_at4 K parts t out_0v3 iv4 =
  (condP (decide (iv4 < (t.len : Int)))
   (((0 ≤ iv4 ∧ iv4 < (t.len : Int))) ∧
   (K [.agg [.int .i64 out_0v3, .int .i64 ((t.get iv4.toNat).Share.High)], .one (.int .i64 (0:Int))]))
   (K [.agg [.int .i64 out_0v3, .int .i64 parts], .one (.int .i64 (0:Int))])) := by kernel_rfl
abbrev R51 := (Span × Int)
abbrev e51 (r : (Span × Int)) : List PA := [.agg [.int .i64 r.1.Low, .int .i64 r.1.High], .one (.int .i64 r.2)]
attribute [irreducible] f51_at0 f51_at1 f51_at2 f51_at3 f51_at4
def s51_at4 (parts : Int) (t : (Sl KinkRow)) (out_0v3 : Int) (iv4 : Int) : (Span × Int) :=
  (cond (decide (iv4 < (t.len : Int)))
   ((⟨out_0v3, (t.get iv4.toNat).Share.High⟩ : Span), (0:Int))
   ((⟨out_0v3, parts⟩ : Span), (0:Int)))
def p51_at4 (parts : Int) (t : (Sl KinkRow)) (out_0v3 : Int) (iv4 : Int) : Bool :=
  (cond (decide (iv4 < (t.len : Int)))
   (decide ((0 ≤ iv4 ∧ iv4 < (t.len : Int))) &&
   true)
   true)
theorem q51_at4 (K : List PA → Prop) (parts : Int) (t : (Sl KinkRow)) (out_0v3 : Int) (iv4 : Int) (hs : p51_at4 parts t out_0v3 iv4 = true) (hk : K (e51 (s51_at4 parts t out_0v3 iv4))) : f51_at4 K parts t out_0v3 iv4 := by
  refine ofEq (f51_eq4 K parts t out_0v3 iv4) ?_
  unfold p51_at4 at hs
  unfold s51_at4 at hk
  exact (condB_go (K := fun r => K (e51 r))
   (fun hs hk => (andK hs fun hc hs => ⟨hc, hk⟩))
   (fun hs hk => hk) hs hk)
def s51_at3 (parts : Int) (t : (Sl KinkRow)) (opacity : Int) (out_0v3 : Int) : (Span × Int) :=
  (s51_at4 parts t out_0v3 (s86a opacity t))
def p51_at3 (parts : Int) (t : (Sl KinkRow)) (opacity : Int) (out_0v3 : Int) : Bool :=
  (decide ((p86a opacity t = true)) &&
  (p51_at4 parts t out_0v3 (s86a opacity t)))
theorem q51_at3 (K : List PA → Prop) (parts : Int) (t : (Sl KinkRow)) (opacity : Int) (out_0v3 : Int) (hs : p51_at3 parts t opacity out_0v3 = true) (hk : K (e51 (s51_at3 parts t opacity out_0v3))) : f51_at3 K parts t opacity out_0v3 := by
  refine ofEq (f51_eq3 K parts t opacity out_0v3) ?_
  unfold p51_at3 at hs
  unfold s51_at3 at hk
  exact (andK hs fun hc hs => ⟨⟨isE, hc⟩, (q51_at4 K parts t out_0v3 (s86a opacity t) hs hk)⟩)
def s51_at2 (parts : Int) (t : (Sl KinkRow)) (opacity : Int) (iv2 : Int) : (Span × Int) :=
  (cond (decide (iv2 > (0:Int)))
   (s51_at3 parts t opacity ((t.get ((w64 (iv2 - (1:Int))).toNat)).Share.Low))
   (s51_at3 parts t opacity (0:Int)))
def p51_at2 (parts : Int) (t : (Sl KinkRow)) (opacity : Int) (iv2 : Int) : Bool :=
  (cond (decide (iv2 > (0:Int)))
   (decide ((0 ≤ (w64 (iv2 - (1:Int))) ∧ (w64 (iv2 - (1:Int))) < (t.len : Int))) &&
   (p51_at3 parts t opacity ((t.get ((w64 (iv2 - (1:Int))).toNat)).Share.Low)))
   (p51_at3 parts t opacity (0:Int)))
theorem q51_at2 (K : List PA → Prop) (parts : Int) (t : (Sl KinkRow)) (opacity : Int) (iv2 : Int) (hs : p51_at2 parts t opacity iv2 = true) (hk : K (e51 (s51_at2 parts t opacity iv2))) : f51_at2 K parts t opacity iv2 := by
  refine ofEq (f51_eq2 K parts t opacity iv2) ?_
  unfold p51_at2 at hs
  unfold s51_at2 at hk
  exact (condB_go (K := fun r => K (e51 r))
   (fun hs hk => (andK hs fun hc hs => ⟨hc, (q51_at3 K parts t opacity ((t.get ((w64 (iv2 - (1:Int))).toNat)).Share.Low) hs hk)⟩))
   (fun hs hk => (q51_at3 K parts t opacity (0:Int) hs hk)) hs hk)
def s51_at1 (parts : Int) (t : (Sl KinkRow)) (opacity : Int) : (Span × Int) :=
  (s51_at2 parts t opacity (s86 opacity t))
def p51_at1 (parts : Int) (t : (Sl KinkRow)) (opacity : Int) : Bool :=
  (decide ((p86 opacity t = true)) &&
  (p51_at2 parts t opacity (s86 opacity t)))
theorem q51_at1 (K : List PA → Prop) (parts : Int) (t : (Sl KinkRow)) (opacity : Int) (hs : p51_at1 parts t opacity = true) (hk : K (e51 (s51_at1 parts t opacity))) : f51_at1 K parts t opacity := by
  refine ofEq (f51_eq1 K parts t opacity) ?_
  unfold p51_at1 at hs
  unfold s51_at1 at hk
  exact (andK hs fun hc hs => ⟨⟨isE, hc⟩, (q51_at2 K parts t opacity (s86 opacity t) hs hk)⟩)
def s51_at0 (parts : Int) (t : (Sl KinkRow)) (opacity : Int) (t19v0 : Bool) : (Span × Int) :=
  (cond t19v0
   ((⟨(0:Int), (0:Int)⟩ : Span), (2:Int))
   (s51_at1 parts t opacity))
def p51_at0 (parts : Int) (t : (Sl KinkRow)) (opacity : Int) (t19v0 : Bool) : Bool :=
  (cond t19v0
   true
   (p51_at1 parts t opacity))
theorem q51_at0 (K : List PA → Prop) (parts : Int) (t : (Sl KinkRow)) (opacity : Int) (t19v0 : Bool) (hs : p51_at0 parts t opacity t19v0 = true) (hk : K (e51 (s51_at0 parts t opacity t19v0))) : f51_at0 K parts t opacity t19v0 := by
  refine ofEq (f51_eq0 K parts t opacity t19v0) ?_
  unfold p51_at0 at hs
  unfold s51_at0 at hk
  exact (condB_go (K := fun r => K (e51 r))
   (fun hs hk => hk)
   (fun hs hk => (q51_at1 K parts t opacity hs hk)) hs hk)
def s51 (parts : Int) (t : (Sl KinkRow)) (opacity : Int) : (Span × Int) :=
  (cond (!(s85 parts t))
   (s51_at0 parts t opacity true)
   (s51_at0 parts t opacity (!(s63 opacity (0:Int) (1000000:Int)))))
def p51 (parts : Int) (t : (Sl KinkRow)) (opacity : Int) : Bool :=
  (decide ((p85 parts t = true)) &&
  (cond (!(s85 parts t))
   (p51_at0 parts t opacity true)
   (p51_at0 parts t opacity (!(s63 opacity (0:Int) (1000000:Int))))))
theorem q51 (parts : Int) (t : (Sl KinkRow)) (opacity : Int) (K : List PA → Prop) (hs : p51 parts t opacity = true) (hk : K (e51 (s51 parts t opacity))) : vcFun Try.prog G51 ann51 51 [.one (.int .i64 parts), .one (.sl t.len 3 (fun i => enc_129 (t.get i))), .one (.int .i64 opacity)] K := by
  refine ofEq (f51_top parts t opacity K) ?_
  unfold p51 at hs
  unfold s51 at hk
  exact (andK hs fun hc hs => ⟨⟨isE, hc⟩, (condB_go (K := fun r => K (e51 r))
   (fun hs hk => (q51_at0 K parts t opacity true hs hk))
   (fun hs hk => (q51_at0 K parts t opacity (!(s63 opacity (0:Int) (1000000:Int))) hs hk)) hs hk)⟩)
def ctr51 : List PA → COut
  | [.one (.int .i64 a0), .one (.sl a1_n a1_s a1_g), .one (.int .i64 a2)] => .det (IsE enc_129 3 a1_s a1_g ∧ p51 a0 (⟨a1_n, decF_129 a1_g⟩ : (Sl KinkRow)) a2 = true) [.agg [.int .i64 (((s51 a0 (⟨a1_n, decF_129 a1_g⟩ : (Sl KinkRow)) a2).1).Low), .int .i64 (((s51 a0 (⟨a1_n, decF_129 a1_g⟩ : (Sl KinkRow)) a2).1).High)], .one (.int .i64 ((s51 a0 (⟨a1_n, decF_129 a1_g⟩ : (Sl KinkRow)) a2).2))]
  | _ => .no
theorem call51 : Callable Try.prog 51 := ⟨_, rfl, rfl, by kernel_rfl⟩
theorem ok51 : Ok Try.prog 51 ctr51 := ok_tab okT51 call51 fun args K h => by
  unfold ctr51 at h
  split at h
  · rename_i a0 a1_n a1_s a1_g a2
    obtain ⟨⟨⟨rfl, a1_f, rfl⟩, hs⟩, hk⟩ := h
    try rw [decF_enc_129 a1_f] at hs
    try rw [decF_enc_129 a1_f] at hk
    exact ⟨(fun _ _ => []), (fun _ => false), ann51, q51 a0 (⟨a1_n, a1_f⟩ : (Sl KinkRow)) a2 K hs hk⟩
  · exact h.elim
end Go.Proofs
namespace Go.Proofs
open Go Go.Pm
set_option maxRecDepth 100000
set_option linter.unusedVariables false
attribute [local irreducible] Go.Pm.vcFun Go.Pm.vc Go.Pm.vcIter
-- 52 flux.Bent
abbrev T52 : Tabs := (((Tabs.nil.addF 69 ctr69).addF 85 ctr85).addF 86 ctr86)
theorem okT52 : TabsOk Try.prog T52 := (((TabsOk.nil.addF ok69).addF ok85).addF ok86)
abbrev G52 : Ctrs := csm T52 (fun _ _ => []) (fun _ => false)
def ann52 : Ann := ⟨57, [(0, ⟨[0, 1, 5, 6], [5, 6], [], [], []⟩), (1, ⟨[1, 5, 6, 20], [5, 6], [], [], []⟩), (2, ⟨[6, 7], [6], [], [], []⟩), (3, ⟨[1, 5, 6, 8], [5, 6, 8], [], [], []⟩), (4, ⟨[1, 5, 6, 8, 9], [5, 6, 8], [], [], []⟩), (5, ⟨[1, 5, 6, 8, 9, 27], [5, 6, 8], [], [], []⟩), (6, ⟨[1, 5, 6, 8], [5, 6, 8], [], [], []⟩), (7, ⟨[1, 6, 8, 10], [6, 8], [], [], []⟩), (8, ⟨[1, 6, 8, 10, 42], [6, 8], [], [], []⟩), (9, ⟨[6, 8], [6, 8], [], [], []⟩), (10, ⟨[6, 8, 54], [6, 8], [], [], []⟩), (11, ⟨[6, 7], [6], [], [], []⟩), (12, ⟨[6, 7], [6], [], [], []⟩)],
  [],
  [(2, ⟨[1, 5, 6, 20], [5, 6], [], [], []⟩), (3, ⟨[1, 5, 6], [5, 6], [], [], []⟩), (5, ⟨[1, 5, 6, 8, 9], [5, 6, 8], [], [], []⟩), (7, ⟨[1, 5, 6, 8], [5, 6, 8], [], [], []⟩), (8, ⟨[1, 6, 8, 10], [6, 8], [], [], []⟩)],
  [], []⟩
def f52_g0 (t : (Sl KinkRow)) (shares : Span) (t20v0 : Bool) : St := ⟨[(1, .one (.c (.p (.sl t.len 3 (fun i => enc_129 (t.get i)))))), (5, .one (.c (.ptr 5 0))), (6, .one (.c (.ptr 6 0))), (20, .one (.c (.p (.bool t20v0))))], [(5, .box 24 [.p (.int .i64 shares.Low), .p (.int .i64 shares.High)]), (6, .box 24 [.p (.int .i64 (0:Int)), .p (.int .i64 (0:Int))])], []⟩
def f52_at0 (K : List PA → Prop) (t : (Sl KinkRow)) (shares : Span) (t20v0 : Bool) : Prop := vc Try.prog G52 ann52 (cdF Try.f52 [1, 0, 1]) (sqK Try.prog G52 ann52 (cdF Try.f52 [1, 1]) (bodyK Try.prog Try.f52 K)) (f52_g0 t shares t20v0)
def f52_g1 (t : (Sl KinkRow)) (shares : Span) : St := ⟨[(1, .one (.c (.p (.sl t.len 3 (fun i => enc_129 (t.get i)))))), (5, .one (.c (.ptr 5 0))), (6, .one (.c (.ptr 6 0)))], [(5, .box 24 [.p (.int .i64 shares.Low), .p (.int .i64 shares.High)]), (6, .box 24 [.p (.int .i64 (0:Int)), .p (.int .i64 (0:Int))])], []⟩
def f52_at1 (K : List PA → Prop) (t : (Sl KinkRow)) (shares : Span) : Prop := vc Try.prog G52 ann52 (cdF Try.f52 [1, 1]) (bodyK Try.prog Try.f52 K) (f52_g1 t shares)
def f52_g2 (t : (Sl KinkRow)) (shares : Span) (iv2 : Int) : St := ⟨[(1, .one (.c (.p (.sl t.len 3 (fun i => enc_129 (t.get i)))))), (5, .one (.c (.ptr 5 0))), (6, .one (.c (.ptr 6 0))), (8, .one (.c (.ptr 8 0))), (9, .one (.c (.p (.int .i64 iv2))))], [(5, .fbox [.int .i64 shares.Low, .int .i64 shares.High]), (6, .box 24 [.p (.int .i64 (0:Int)), .p (.int .i64 (0:Int))]), (8, .box 24 [.p (.int .i64 (0:Int)), .p (.int .i64 (1000000:Int))])], []⟩
def f52_at2 (K : List PA → Prop) (t : (Sl KinkRow)) (shares : Span) (iv2 : Int) : Prop := vc Try.prog G52 ann52 (cdF Try.f52 [1, 1, 1, 0, 1]) (sqK Try.prog G52 ann52 (cdF Try.f52 [1, 1, 1, 1]) (bodyK Try.prog Try.f52 K)) (f52_g2 t shares iv2)
def f52_g3 (t : (Sl KinkRow)) (shares : Span) (out_0v3 : Int) : St := ⟨[(1, .one (.c (.p (.sl t.len 3 (fun i => enc_129 (t.get i)))))), (5, .one (.c (.ptr 5 0))), (6, .one (.c (.ptr 6 0))), (8, .one (.c (.ptr 8 0)))], [(5, .fbox [.int .i64 shares.Low, .int .i64 shares.High]), (6, .box 24 [.p (.int .i64 (0:Int)), .p (.int .i64 (0:Int))]), (8, .box 24 [.p (.int .i64 out_0v3), .p (.int .i64 (1000000:Int))])], []⟩
def f52_at3 (K : List PA → Prop) (t : (Sl KinkRow)) (shares : Span) (out_0v3 : Int) : Prop := vc Try.prog G52 ann52 (cdF Try.f52 [1, 1, 1, 1]) (bodyK Try.prog Try.f52 K) (f52_g3 t shares out_0v3)
def f52_g4 (t : (Sl KinkRow)) (out_0v3 : Int) (iv4 : Int) : St := ⟨[(1, .one (.c (.p (.sl t.len 3 (fun i => enc_129 (t.get i)))))), (6, .one (.c (.ptr 6 0))), (8, .one (.c (.ptr 8 0))), (10, .one (.c (.p (.int .i64 iv4))))], [(6, .box 24 [.p (.int .i64 (0:Int)), .p (.int .i64 (0:Int))]), (8, .box 24 [.p (.int .i64 out_0v3), .p (.int .i64 (1000000:Int))])], []⟩
def f52_at4 (K : List PA → Prop) (t : (Sl KinkRow)) (out_0v3 : Int) (iv4 : Int) : Prop := vc Try.prog G52 ann52 (cdF Try.f52 [1, 1, 1, 1, 0, 1]) (sqK Try.prog G52 ann52 (cdF Try.f52 [1, 1, 1, 1, 1]) (bodyK Try.prog Try.f52 K)) (f52_g4 t out_0v3 iv4)
theorem f52_top (parts : Int) (t : (Sl KinkRow)) (shares : Span) (K : List PA → Prop) :
  vcFun Try.prog G52 ann52 52 [.one (.int .i64 parts), .one (.sl t.len 3 (fun i => enc_129 (t.get i))), .agg [.int .i64 shares.Low, .int .i64 shares.High]] K =
  ((IsE enc_129 3 3 (fun i => enc_129 (t.get i)) ∧ (p85 parts t = true)) ∧
  (condP (!(s85 parts t))
   (f52_at0 K t shares true)
   (f52_at0 K t shares (!(s69 shares (0:Int) parts))))) := by kernel_rfl
theorem f52_eq0 (K : List PA → Prop) (t : (Sl KinkRow)) (shares : Span) (t20v0 : Bool) :
  f52_at0 K t shares t20v0 =
  (condP t20v0
   (K [.agg [.int .i64 (0:Int), .int .i64 (0:Int)], .one (.int .i64 (2:Int))])
   (f52_at1 K t shares)) := by kernel_rfl
theorem f52_eq1 (K : List PA → Prop) (t : (Sl KinkRow)) (shares : Span) :
  f52_at1 K t shares =
  ((IsE enc_129 3 3 (fun i => enc_129 (t.get i)) ∧ (p86b shares t = true)) ∧
  (f52_at2 K t shares (s86b shares t))) := by kernel_rfl
theorem f52_eq2 (K : List PA → Prop) (t : (Sl KinkRow)) (shares : Span) (iv2 : Int) :
  f52_at2 K t shares iv2 =
  (condP (decide (iv2 > (0:Int)))
   (((0 ≤ (w64 (iv2 - (1:Int))) ∧ (w64 (iv2 - (1:Int))) < (t.len : Int))) ∧
   (f52_at3 K t shares (w64 ((t.get ((w64 (iv2 - (1:Int))).toNat)).Opacity + (1:Int)))))
   (f52_at3 K t shares (0:Int))) := by kernel_rfl
theorem f52_eq3 (K : List PA → Prop) (t : (Sl KinkRow)) (shares : Span) (out_0v3 : Int) :
  f52_at3 K t shares out_0v3 =
  ((IsE enc_129 3 3 (fun i => enc_129 (t.get i)) ∧ (p86c shares t = true)) ∧
  (f52_at4 K t out_0v3 (s86c shares t))) := by kernel_rfl
theorem f52_eq4 (K : List PA → Prop) (t : (Sl KinkRow)) (out_0v3 : Int) (iv4 : Int) :
  f52_at4 K t out_0v3 iv4 =
  (condP (decide (iv4 < (t.len : Int)))
   (((0 ≤ iv4 ∧ iv4 < (t.len : Int))) ∧
   (condP (decide (out_0v3 > (w64 ((t.get iv4.toNat).Opacity - (1:Int)))))
    (K [.agg [.int .i64 (0:Int), .int .i64 (0:Int)], .one (.int .i64 (5:Int))])
    (K [.agg [.int .i64 out_0v3, .int .i64 (w64 ((t.get iv4.toNat).Opacity - (1:Int)))], .one (.int .i64 (0:Int))])))
   (condP (decide (out_0v3 > (1000000:Int)))
    (K [.agg [.int .i64 (0:Int), .int .i64 (0:Int)], .one (.int .i64 (5:Int))])
    (K [.agg [.int .i64 out_0v3, .int .i64 (1000000:Int)], .one (.int .i64 (0:Int))]))) := by kernel_rfl
abbrev R52 := (Span × Int)
abbrev e52 (r : (Span × Int)) : List PA := [.agg [.int .i64 r.1.Low, .int .i64 r.1.High], .one (.int .i64 r.2)]
attribute [irreducible] f52_at0 f52_at1 f52_at2 f52_at3 f52_at4
def s52_at4 (t : (Sl KinkRow)) (out_0v3 : Int) (iv4 : Int) : (Span × Int) :=
  (cond (decide (iv4 < (t.len : Int)))
   (cond (decide (out_0v3 > (w64 ((t.get iv4.toNat).Opacity - (1:Int)))))
    ((⟨(0:Int), (0:Int)⟩ : Span), (5:Int))
    ((⟨out_0v3, (w64 ((t.get iv4.toNat).Opacity - (1:Int)))⟩ : Span), (0:Int)))
   (cond (decide (out_0v3 > (1000000:Int)))
    ((⟨(0:Int), (0:Int)⟩ : Span), (5:Int))
    ((⟨out_0v3, (1000000:Int)⟩ : Span), (0:Int))))
def p52_at4 (t : (Sl KinkRow)) (out_0v3 : Int) (iv4 : Int) : Bool :=
  (cond (decide (iv4 < (t.len : Int)))
   (decide ((0 ≤ iv4 ∧ iv4 < (t.len : Int))) &&
   true)
   true)
theorem q52_at4 (K : List PA → Prop) (t : (Sl KinkRow)) (out_0v3 : Int) (iv4 : Int) (hs : p52_at4 t out_0v3 iv4 = true) (hk : K (e52 (s52_at4 t out_0v3 iv4))) : f52_at4 K t out_0v3 iv4 := by
  refine ofEq (f52_eq4 K t out_0v3 iv4) ?_
  unfold p52_at4 at hs
  unfold s52_at4 at hk
  exact (condB_go (K := fun r => K (e52 r))
   (fun hs hk => (andK hs fun hc hs => ⟨hc, (condP_gt (K := fun r => K (e52 r))
    (fun hk => hk)
    (fun hk => hk) hk)⟩))
   (fun hs hk => (condP_gt (K := fun r => K (e52 r))
    (fun hk => hk)
    (fun hk => hk) hk)) hs hk)
def s52_at3 (t : (Sl KinkRow)) (shares : Span) (out_0v3 : Int) : (Span × Int) :=
  (s52_at4 t out_0v3 (s86c shares t))
def p52_at3 (t : (Sl KinkRow)) (shares : Span) (out_0v3 : Int) : Bool :=
  (decide ((p86c shares t = true)) &&
  (p52_at4 t out_0v3 (s86c shares t)))
theorem q52_at3 (K : List PA → Prop) (t : (Sl KinkRow)) (shares : Span) (out_0v3 : Int) (hs : p52_at3 t shares out_0v3 = true) (hk : K (e52 (s52_at3 t shares out_0v3))) : f52_at3 K t shares out_0v3 := by
  refine ofEq (f52_eq3 K t shares out_0v3) ?_
  unfold p52_at3 at hs
  unfold s52_at3 at hk
  exact (andK hs fun hc hs => ⟨⟨isE, hc⟩, (q52_at4 K t out_0v3 (s86c shares t) hs hk)⟩)
def s52_at2 (t : (Sl KinkRow)) (shares : Span) (iv2 : Int) : (Span × Int) :=
  (cond (decide (iv2 > (0:Int)))
   (s52_at3 t shares (w64 ((t.get ((w64 (iv2 - (1:Int))).toNat)).Opacity + (1:Int))))
   (s52_at3 t shares (0:Int)))
def p52_at2 (t : (Sl KinkRow)) (shares : Span) (iv2 : Int) : Bool :=
  (cond (decide (iv2 > (0:Int)))
   (decide ((0 ≤ (w64 (iv2 - (1:Int))) ∧ (w64 (iv2 - (1:Int))) < (t.len : Int))) &&
   (p52_at3 t shares (w64 ((t.get ((w64 (iv2 - (1:Int))).toNat)).Opacity + (1:Int)))))
   (p52_at3 t shares (0:Int)))
theorem q52_at2 (K : List PA → Prop) (t : (Sl KinkRow)) (shares : Span) (iv2 : Int) (hs : p52_at2 t shares iv2 = true) (hk : K (e52 (s52_at2 t shares iv2))) : f52_at2 K t shares iv2 := by
  refine ofEq (f52_eq2 K t shares iv2) ?_
  unfold p52_at2 at hs
  unfold s52_at2 at hk
  exact (condB_go (K := fun r => K (e52 r))
   (fun hs hk => (andK hs fun hc hs => ⟨hc, (q52_at3 K t shares (w64 ((t.get ((w64 (iv2 - (1:Int))).toNat)).Opacity + (1:Int))) hs hk)⟩))
   (fun hs hk => (q52_at3 K t shares (0:Int) hs hk)) hs hk)
def s52_at1 (t : (Sl KinkRow)) (shares : Span) : (Span × Int) :=
  (s52_at2 t shares (s86b shares t))
def p52_at1 (t : (Sl KinkRow)) (shares : Span) : Bool :=
  (decide ((p86b shares t = true)) &&
  (p52_at2 t shares (s86b shares t)))
theorem q52_at1 (K : List PA → Prop) (t : (Sl KinkRow)) (shares : Span) (hs : p52_at1 t shares = true) (hk : K (e52 (s52_at1 t shares))) : f52_at1 K t shares := by
  refine ofEq (f52_eq1 K t shares) ?_
  unfold p52_at1 at hs
  unfold s52_at1 at hk
  exact (andK hs fun hc hs => ⟨⟨isE, hc⟩, (q52_at2 K t shares (s86b shares t) hs hk)⟩)
def s52_at0 (t : (Sl KinkRow)) (shares : Span) (t20v0 : Bool) : (Span × Int) :=
  (cond t20v0
   ((⟨(0:Int), (0:Int)⟩ : Span), (2:Int))
   (s52_at1 t shares))
def p52_at0 (t : (Sl KinkRow)) (shares : Span) (t20v0 : Bool) : Bool :=
  (cond t20v0
   true
   (p52_at1 t shares))
theorem q52_at0 (K : List PA → Prop) (t : (Sl KinkRow)) (shares : Span) (t20v0 : Bool) (hs : p52_at0 t shares t20v0 = true) (hk : K (e52 (s52_at0 t shares t20v0))) : f52_at0 K t shares t20v0 := by
  refine ofEq (f52_eq0 K t shares t20v0) ?_
  unfold p52_at0 at hs
  unfold s52_at0 at hk
  exact (condB_go (K := fun r => K (e52 r))
   (fun hs hk => hk)
   (fun hs hk => (q52_at1 K t shares hs hk)) hs hk)
def s52 (parts : Int) (t : (Sl KinkRow)) (shares : Span) : (Span × Int) :=
  (cond (!(s85 parts t))
   (s52_at0 t shares true)
   (s52_at0 t shares (!(s69 shares (0:Int) parts))))
def p52 (parts : Int) (t : (Sl KinkRow)) (shares : Span) : Bool :=
  (decide ((p85 parts t = true)) &&
  (cond (!(s85 parts t))
   (p52_at0 t shares true)
   (p52_at0 t shares (!(s69 shares (0:Int) parts)))))
theorem q52 (parts : Int) (t : (Sl KinkRow)) (shares : Span) (K : List PA → Prop) (hs : p52 parts t shares = true) (hk : K (e52 (s52 parts t shares))) : vcFun Try.prog G52 ann52 52 [.one (.int .i64 parts), .one (.sl t.len 3 (fun i => enc_129 (t.get i))), .agg [.int .i64 shares.Low, .int .i64 shares.High]] K := by
  refine ofEq (f52_top parts t shares K) ?_
  unfold p52 at hs
  unfold s52 at hk
  exact (andK hs fun hc hs => ⟨⟨isE, hc⟩, (condB_go (K := fun r => K (e52 r))
   (fun hs hk => (q52_at0 K t shares true hs hk))
   (fun hs hk => (q52_at0 K t shares (!(s69 shares (0:Int) parts)) hs hk)) hs hk)⟩)
def ctr52 : List PA → COut
  | [.one (.int .i64 a0), .one (.sl a1_n a1_s a1_g), .agg [.int .i64 a2_Low, .int .i64 a2_High]] => .det (IsE enc_129 3 a1_s a1_g ∧ p52 a0 (⟨a1_n, decF_129 a1_g⟩ : (Sl KinkRow)) (⟨a2_Low, a2_High⟩ : Span) = true) [.agg [.int .i64 (((s52 a0 (⟨a1_n, decF_129 a1_g⟩ : (Sl KinkRow)) (⟨a2_Low, a2_High⟩ : Span)).1).Low), .int .i64 (((s52 a0 (⟨a1_n, decF_129 a1_g⟩ : (Sl KinkRow)) (⟨a2_Low, a2_High⟩ : Span)).1).High)], .one (.int .i64 ((s52 a0 (⟨a1_n, decF_129 a1_g⟩ : (Sl KinkRow)) (⟨a2_Low, a2_High⟩ : Span)).2))]
  | _ => .no
theorem call52 : Callable Try.prog 52 := ⟨_, rfl, rfl, by kernel_rfl⟩
theorem ok52 : Ok Try.prog 52 ctr52 := ok_tab okT52 call52 fun args K h => by
  unfold ctr52 at h
  split at h
  · rename_i a0 a1_n a1_s a1_g a2_Low a2_High
    obtain ⟨⟨⟨rfl, a1_f, rfl⟩, hs⟩, hk⟩ := h
    try rw [decF_enc_129 a1_f] at hs
    try rw [decF_enc_129 a1_f] at hk
    exact ⟨(fun _ _ => []), (fun _ => false), ann52, q52 a0 (⟨a1_n, a1_f⟩ : (Sl KinkRow)) (⟨a2_Low, a2_High⟩ : Span) K hs hk⟩
  · exact h.elim
-- 53 overburdenref05.Kinks
abbrev T53 : Tabs := ((Tabs.nil.addF 29 ctr29).addF 58 ctr58)
theorem okT53 : TabsOk Try.prog T53 := ((TabsOk.nil.addF ok29).addF ok58)
abbrev G53 : Ctrs := csm T53 (fun _ _ => []) (fun _ => false)
def ann53 : Ann := ⟨76, [(0, ⟨[0, 1], [], [], [], []⟩), (1, ⟨[0, 1, 5], [], [], [], []⟩), (2, ⟨[0, 1, 5, 10], [], [], [], []⟩), (3, ⟨[0, 1, 5], [], [], [], []⟩), (4, ⟨[0, 1, 5, 6], [6], [], [], []⟩), (5, ⟨[0, 1, 5, 68], [], [], [], []⟩), (6, ⟨[4], [], [], [], []⟩), (7, ⟨[4], [], [], [], []⟩)],
  [(2, ⟨[0, 1, 5], [], [], [], []⟩)],
  [(6, ⟨[0, 1, 5, 68], [], [], [], []⟩)],
  [], []⟩
def f53_g0 (parts : Int) (t : (Sl KinkRow)) (iv0 : Int) : St := ⟨[(0, .one (.c (.p (.int .i64 parts)))), (1, .one (.c (.p (.sl t.len 3 (fun i => enc_129 (t.get i)))))), (5, .one (.c (.p (.int .i64 iv0))))], [], []⟩
def f53_at0 (K : List PA → Prop) (parts : Int) (t : (Sl KinkRow)) (iv0 : Int) : Prop := vc Try.prog G53 ann53 (cdF Try.f53 [1, 0, 1, 0]) (blockK 0 (sqK Try.prog G53 ann53 (cdF Try.f53 [1, 1]) (bodyK Try.prog Try.f53 K))) (f53_g0 parts t iv0)
def f53_g1 (parts : Int) (t : (Sl KinkRow)) (iv1 : Int) (t68v1 : Bool) : St := ⟨[(0, .one (.c (.p (.int .i64 parts)))), (1, .one (.c (.p (.sl t.len 3 (fun i => enc_129 (t.get i)))))), (5, .one (.c (.p (.int .i64 iv1)))), (68, .one (.c (.p (.bool t68v1))))], [], []⟩
def f53_at1 (K : List PA → Prop) (X0 : St → Prop) (parts : Int) (t : (Sl KinkRow)) (iv1 : Int) (t68v1 : Bool) : Prop := vc Try.prog G53 ann53 (cdF Try.f53 [1, 0, 1, 0, 0, 1, 0, 0, 1, 1]) (blockK 1 (sqK Try.prog G53 ann53 (cdF Try.f53 [1, 0, 1, 0, 0, 1, 1]) (loopK Try.prog ann53 2 X0 (blockK 0 (sqK Try.prog G53 ann53 (cdF Try.f53 [1, 1]) (bodyK Try.prog Try.f53 K)))))) (f53_g1 parts t iv1 t68v1)
theorem f53_top (parts : Int) (t : (Sl KinkRow)) (K : List PA → Prop) :
  vcFun Try.prog G53 ann53 53 [.one (.int .i64 parts), .one (.sl t.len 3 (fun i => enc_129 (t.get i)))] K =
  (f53_at0 K parts t (0:Int)) := by kernel_rfl
def f53_step0 (K : List PA → Prop) (X0 : St → Prop) (parts : Int) (t : (Sl KinkRow)) (iv0 : Int) : Prop :=
  (condP (decide (iv0 < (t.len : Int)))
   (((0 ≤ iv0 ∧ iv0 < (t.len : Int))) ∧
   (condP (!(s58 ((t.get iv0.toNat).Opacity) (0:Int) (1000000:Int)))
    (f53_at1 K X0 parts t iv0 true)
    (condP (!(s29 ((t.get iv0.toNat).Share) (0:Int) parts))
     (f53_at1 K X0 parts t iv0 true)
     (condP (decide (iv0 > (0:Int)))
      (((0 ≤ (w64 (iv0 - (1:Int))) ∧ (w64 (iv0 - (1:Int))) < (t.len : Int))) ∧
      (condP (decide ((t.get iv0.toNat).Opacity ≤ (t.get ((w64 (iv0 - (1:Int))).toNat)).Opacity))
       (f53_at1 K X0 parts t iv0 true)
       (((0 ≤ (w64 (iv0 - (1:Int))) ∧ (w64 (iv0 - (1:Int))) < (t.len : Int))) ∧
       (condP (decide ((t.get iv0.toNat).Share.Low < (t.get ((w64 (iv0 - (1:Int))).toNat)).Share.Low))
        (f53_at1 K X0 parts t iv0 true)
        (((0 ≤ (w64 (iv0 - (1:Int))) ∧ (w64 (iv0 - (1:Int))) < (t.len : Int))) ∧
        (f53_at1 K X0 parts t iv0 (decide ((t.get iv0.toNat).Share.High < (t.get ((w64 (iv0 - (1:Int))).toNat)).Share.High))))))))
      (f53_at1 K X0 parts t iv0 false)))))
   (condP (s58 parts (2:Int) (1000000:Int))
    (K [.one (.bool (s58 (t.len : Int) (1:Int) (40:Int)))])
    (K [.one (.bool false)])))
theorem f53_stepeq0 (K : List PA → Prop) (X0 : St → Prop) (parts : Int) (t : (Sl KinkRow)) (iv0 : Int) :
  vc Try.prog G53 ann53 (cd (cdF Try.f53 [1, 0, 1, 0]) [0]) (loopK Try.prog ann53 2 X0 (blockK 0 (sqK Try.prog G53 ann53 (cdF Try.f53 [1, 1]) (bodyK Try.prog Try.f53 K)))) (f53_g0 parts t iv0) =
  f53_step0 K X0 parts t iv0 := by kernel_rfl
theorem f53_loop0 (K : List PA → Prop) (parts : Int) (t : (Sl KinkRow)) (iv0 : Int)
  (h : ∀ X0 : St → Prop, (∀ (iv0 : Int), f53_step0 K X0 parts t iv0 → X0 (f53_g0 parts t iv0)) → X0 (f53_g0 parts t iv0)) :
  f53_at0 K parts t iv0 := by
  have e : f53_at0 K parts t iv0 = (∀ X : St → Prop, (∀ s, vc Try.prog G53 ann53 (cd (cdF Try.f53 [1, 0, 1, 0]) [0]) (loopK Try.prog ann53 2 X (blockK 0 (sqK Try.prog G53 ann53 (cdF Try.f53 [1, 1]) (bodyK Try.prog Try.f53 K)))) s → X s) → X (f53_g0 parts t iv0)) := by kernel_rfl
  refine ofEq e ?_
  intro X hX
  refine h X ?_
  intro iv0 hs
  refine hX _ ?_
  have e2 := f53_stepeq0 K X parts t iv0
  rw [e2]
  exact hs
theorem f53_eq1 (K : List PA → Prop) (X0 : St → Prop) (parts : Int) (t : (Sl KinkRow)) (iv1 : Int) (t68v1 : Bool) :
  f53_at1 K X0 parts t iv1 t68v1 =
  (condP t68v1
   (K [.one (.bool false)])
   (X0 (f53_g0 parts t (w64 (iv1 + (1:Int)))))) := by kernel_rfl
abbrev R53 := Bool
abbrev e53 (r : Bool) : List PA := [.one (.bool r)]
attribute [irreducible] f53_at0 f53_at1
def s53_at1 (S0 : Int → Bool) (parts : Int) (t : (Sl KinkRow)) (iv1 : Int) (t68v1 : Bool) : Bool :=
  (cond t68v1
   false
   (S0 (w64 (iv1 + (1:Int)))))
def p53_at1 (P0 : Int → Bool) (parts : Int) (t : (Sl KinkRow)) (iv1 : Int) (t68v1 : Bool) : Bool :=
  (cond t68v1
   true
   (P0 (w64 (iv1 + (1:Int)))))
theorem q53_at1 (K : List PA → Prop) (parts : Int) (t : (Sl KinkRow))
  (X0 : St → Prop) (P0 : Int → Bool) (S0 : Int → Bool)
  (hX0 : ∀ (iv0 : Int), P0 iv0 = true → K (e53 (S0 iv0)) → X0 (f53_g0 parts t iv0)) (iv1 : Int) (t68v1 : Bool) (hs : p53_at1 P0 parts t iv1 t68v1 = true) (hk : K (e53 (s53_at1 S0 parts t iv1 t68v1))) : f53_at1 K X0 parts t iv1 t68v1 := by
  refine ofEq (f53_eq1 K X0 parts t iv1 t68v1) ?_
  unfold p53_at1 at hs
  unfold s53_at1 at hk
  exact (condB_go (K := fun r => K (e53 r))
   (fun hs hk => hk)
   (fun hs hk => (hX0 (w64 (iv1 + (1:Int))) hs hk)) hs hk)
def s53_st0 (parts : Int) (t : (Sl KinkRow)) (S0 : Int → Bool) (iv0 : Int) : Bool :=
  (cond (decide (iv0 < (t.len : Int)))
   (cond (!(s58 ((t.get iv0.toNat).Opacity) (0:Int) (1000000:Int)))
    (s53_at1 S0 parts t iv0 true)
    (cond (!(s29 ((t.get iv0.toNat).Share) (0:Int) parts))
     (s53_at1 S0 parts t iv0 true)
     (cond (decide (iv0 > (0:Int)))
      (cond (decide ((t.get iv0.toNat).Opacity ≤ (t.get ((w64 (iv0 - (1:Int))).toNat)).Opacity))
       (s53_at1 S0 parts t iv0 true)
       (cond (decide ((t.get iv0.toNat).Share.Low < (t.get ((w64 (iv0 - (1:Int))).toNat)).Share.Low))
        (s53_at1 S0 parts t iv0 true)
        (s53_at1 S0 parts t iv0 (decide ((t.get iv0.toNat).Share.High < (t.get ((w64 (iv0 - (1:Int))).toNat)).Share.High)))))
      (s53_at1 S0 parts t iv0 false))))
   (cond (s58 parts (2:Int) (1000000:Int))
    (s58 (t.len : Int) (1:Int) (40:Int))
    false))
def p53_st0 (parts : Int) (t : (Sl KinkRow)) (P0 : Int → Bool) (iv0 : Int) : Bool :=
  (cond (decide (iv0 < (t.len : Int)))
   (decide ((0 ≤ iv0 ∧ iv0 < (t.len : Int))) &&
   (cond (!(s58 ((t.get iv0.toNat).Opacity) (0:Int) (1000000:Int)))
    (p53_at1 P0 parts t iv0 true)
    (cond (!(s29 ((t.get iv0.toNat).Share) (0:Int) parts))
     (p53_at1 P0 parts t iv0 true)
     (cond (decide (iv0 > (0:Int)))
      (decide ((0 ≤ (w64 (iv0 - (1:Int))) ∧ (w64 (iv0 - (1:Int))) < (t.len : Int))) &&
      (cond (decide ((t.get iv0.toNat).Opacity ≤ (t.get ((w64 (iv0 - (1:Int))).toNat)).Opacity))
       (p53_at1 P0 parts t iv0 true)
       (decide ((0 ≤ (w64 (iv0 - (1:Int))) ∧ (w64 (iv0 - (1:Int))) < (t.len : Int))) &&
       (cond (decide ((t.get iv0.toNat).Share.Low < (t.get ((w64 (iv0 - (1:Int))).toNat)).Share.Low))
        (p53_at1 P0 parts t iv0 true)
        (decide ((0 ≤ (w64 (iv0 - (1:Int))) ∧ (w64 (iv0 - (1:Int))) < (t.len : Int))) &&
        (p53_at1 P0 parts t iv0 (decide ((t.get iv0.toNat).Share.High < (t.get ((w64 (iv0 - (1:Int))).toNat)).Share.High))))))))
      (p53_at1 P0 parts t iv0 false)))))
   true)
def s53_lp0 (parts : Int) (t : (Sl KinkRow)) : Nat → Int → Bool
  | 0 => fun _ => default
  | k + 1 => s53_st0 parts t (s53_lp0 parts t k)
def p53_lp0 (parts : Int) (t : (Sl KinkRow)) : Nat → Int → Bool
  | 0 => fun _ => false
  | k + 1 => p53_st0 parts t (p53_lp0 parts t k)
def s53_at0 (parts : Int) (t : (Sl KinkRow)) (iv0 : Int) : Bool := s53_lp0 parts t Fuel iv0
def p53_at0 (parts : Int) (t : (Sl KinkRow)) (iv0 : Int) : Bool := p53_lp0 parts t Fuel iv0
theorem q53_at0 (K : List PA → Prop) (parts : Int) (t : (Sl KinkRow)) (iv0 : Int) (hs : p53_at0 parts t iv0 = true) (hk : K (e53 (s53_at0 parts t iv0))) : f53_at0 K parts t iv0 := by
  refine f53_loop0 K parts t iv0 ?_
  intro X0 hstep
  have key : ∀ (k : Nat) (iv0 : Int), p53_lp0 parts t k iv0 = true → K (e53 (s53_lp0 parts t k iv0)) → X0 (f53_g0 parts t iv0) := by
    intro k
    induction k with
    | zero => intro iv0 hs; exact absurd hs Bool.false_ne_true
    | succ k ih =>
      intro iv0 hs hk
      refine hstep iv0 ?_
      have hs : p53_st0 parts t (p53_lp0 parts t k) iv0 = true := hs
      have hk : K (e53 (s53_st0 parts t (s53_lp0 parts t k) iv0)) := hk
      unfold p53_st0 at hs
      unfold s53_st0 at hk
      generalize s53_lp0 parts t k = S0 at hk ih
      generalize p53_lp0 parts t k = P0 at hs ih
      have hX0 := ih
      exact (condB_go (K := fun r => K (e53 r))
       (fun hs hk => (andK hs fun hc hs => ⟨hc, (condB_go (K := fun r => K (e53 r))
        (fun hs hk => (q53_at1 K parts t X0 P0 S0 hX0 iv0 true hs hk))
        (fun hs hk => (condB_go (K := fun r => K (e53 r))
         (fun hs hk => (q53_at1 K parts t X0 P0 S0 hX0 iv0 true hs hk))
         (fun hs hk => (condB_go (K := fun r => K (e53 r))
          (fun hs hk => (andK hs fun hc hs => ⟨hc, (condB_go (K := fun r => K (e53 r))
           (fun hs hk => (q53_at1 K parts t X0 P0 S0 hX0 iv0 true hs hk))
           (fun hs hk => (andK hs fun hc hs => ⟨hc, (condB_go (K := fun r => K (e53 r))
            (fun hs hk => (q53_at1 K parts t X0 P0 S0 hX0 iv0 true hs hk))
            (fun hs hk => (andK hs fun hc hs => ⟨hc, (q53_at1 K parts t X0 P0 S0 hX0 iv0 (decide ((t.get iv0.toNat).Share.High < (t.get ((w64 (iv0 - (1:Int))).toNat)).Share.High)) hs hk)⟩)) hs hk)⟩)) hs hk)⟩))
          (fun hs hk => (q53_at1 K parts t X0 P0 S0 hX0 iv0 false hs hk)) hs hk)) hs hk)) hs hk)⟩))
       (fun hs hk => (condP_gt (K := fun r => K (e53 r))
        (fun hk => hk)
        (fun hk => hk) hk)) hs hk)
  exact key _ iv0 hs hk
def s53 (parts : Int) (t : (Sl KinkRow)) : Bool :=
  (s53_at0 parts t (0:Int))
def p53 (parts : Int) (t : (Sl KinkRow)) : Bool :=
  (p53_at0 parts t (0:Int))
theorem q53 (parts : Int) (t : (Sl KinkRow)) (K : List PA → Prop) (hs : p53 parts t = true) (hk : K (e53 (s53 parts t))) : vcFun Try.prog G53 ann53 53 [.one (.int .i64 parts), .one (.sl t.len 3 (fun i => enc_129 (t.get i)))] K := by
  refine ofEq (f53_top parts t K) ?_
  unfold p53 at hs
  unfold s53 at hk
  exact (q53_at0 K parts t (0:Int) hs hk)
def ctr53 : List PA → COut
  | [.one (.int .i64 a0), .one (.sl a1_n a1_s a1_g)] => .det (IsE enc_129 3 a1_s a1_g ∧ p53 a0 (⟨a1_n, decF_129 a1_g⟩ : (Sl KinkRow)) = true) [.one (.bool (s53 a0 (⟨a1_n, decF_129 a1_g⟩ : (Sl KinkRow))))]
  | _ => .no
theorem call53 : Callable Try.prog 53 := ⟨_, rfl, rfl, by kernel_rfl⟩
theorem ok53 : Ok Try.prog 53 ctr53 := ok_tab okT53 call53 fun args K h => by
  unfold ctr53 at h
  split at h
  · rename_i a0 a1_n a1_s a1_g
    obtain ⟨⟨⟨rfl, a1_f, rfl⟩, hs⟩, hk⟩ := h
    try rw [decF_enc_129 a1_f] at hs
    try rw [decF_enc_129 a1_f] at hk
    exact ⟨(fun _ _ => []), (fun _ => false), ann53, q53 a0 (⟨a1_n, a1_f⟩ : (Sl KinkRow)) K hs hk⟩
  · exact h.elim
-- 54 overburdenref05.Shares
abbrev T54 : Tabs := Tabs.nil
theorem okT54 : TabsOk Try.prog T54 := TabsOk.nil
abbrev G54 : Ctrs := csm T54 (fun _ _ => []) (fun _ => false)
def ann54 : Ann := ⟨54, [(0, ⟨[0, 1, 2, 6], [6], [], [], []⟩), (1, ⟨[1, 2, 6, 7], [6, 7], [], [], []⟩), (2, ⟨[1, 2, 6, 7, 8], [6, 7], [], [], []⟩), (3, ⟨[1, 2, 6, 7, 8, 15], [6, 7], [], [], []⟩), (4, ⟨[1, 2, 6, 7, 8], [6, 7], [], [], []⟩), (5, ⟨[1, 2, 6, 7, 8, 24], [6, 7], [], [], []⟩), (6, ⟨[1, 2, 6, 7, 8], [6, 7], [], [], []⟩), (7, ⟨[1, 2, 6, 7, 9], [6, 7], [], [], []⟩), (8, ⟨[1, 2, 6, 7, 9, 36], [6, 7], [], [], []⟩), (9, ⟨[1, 2, 6, 7, 9], [6, 7], [], [], []⟩), (10, ⟨[1, 2, 6, 7, 9, 45], [6, 7], [], [], []⟩), (11, ⟨[1, 2, 6, 7, 9], [6, 7], [], [], []⟩), (12, ⟨[6], [6], [], [], []⟩)],
  [(3, ⟨[1, 2, 6, 7, 8], [6, 7], [], [], []⟩), (8, ⟨[1, 2, 6, 7, 9], [6, 7], [], [], []⟩)],
  [(7, ⟨[1, 2, 6, 7], [6, 7], [], [], []⟩)],
  [], []⟩
def f54_g0 (parts : Int) (t : (Sl KinkRow)) (opacity : Int) (iv0 : Int) (out_0v0 : Int) : St := ⟨[(1, .one (.c (.p (.sl t.len 3 (fun i => enc_129 (t.get i)))))), (2, .one (.c (.p (.int .i64 opacity)))), (6, .one (.c (.ptr 6 0))), (7, .one (.c (.ptr 7 0))), (8, .one (.c (.p (.int .i64 iv0))))], [(6, .box 24 [.p (.int .i64 (0:Int)), .p (.int .i64 (0:Int))]), (7, .box 24 [.p (.int .i64 out_0v0), .p (.int .i64 parts)])], []⟩
def f54_at0 (K : List PA → Prop) (parts : Int) (t : (Sl KinkRow)) (opacity : Int) (iv0 : Int) (out_0v0 : Int) : Prop := vc Try.prog G54 ann54 (cdF Try.f54 [1, 1, 0, 1, 0]) (blockK 0 (sqK Try.prog G54 ann54 (cdF Try.f54 [1, 1, 1]) (bodyK Try.prog Try.f54 K))) (f54_g0 parts t opacity iv0 out_0v0)
def f54_g1 (parts : Int) (t : (Sl KinkRow)) (opacity : Int) (out_0v1 : Int) : St := ⟨[(1, .one (.c (.p (.sl t.len 3 (fun i => enc_129 (t.get i)))))), (2, .one (.c (.p (.int .i64 opacity)))), (6, .one (.c (.ptr 6 0))), (7, .one (.c (.ptr 7 0)))], [(6, .box 24 [.p (.int .i64 (0:Int)), .p (.int .i64 (0:Int))]), (7, .box 24 [.p (.int .i64 out_0v1), .p (.int .i64 parts)])], []⟩
def f54_at1 (K : List PA → Prop) (parts : Int) (t : (Sl KinkRow)) (opacity : Int) (out_0v1 : Int) : Prop := vc Try.prog G54 ann54 (cdF Try.f54 [1, 1, 1]) (bodyK Try.prog Try.f54 K) (f54_g1 parts t opacity out_0v1)
def f54_g2 (t : (Sl KinkRow)) (opacity : Int) (iv2 : Int) (out_0v2 : Int) (out_1v2 : Int) : St := ⟨[(1, .one (.c (.p (.sl t.len 3 (fun i => enc_129 (t.get i)))))), (2, .one (.c (.p (.int .i64 opacity)))), (6, .one (.c (.ptr 6 0))), (7, .one (.c (.ptr 7 0))), (9, .one (.c (.p (.int .i64 iv2))))], [(6, .box 24 [.p (.int .i64 (0:Int)), .p (.int .i64 (0:Int))]), (7, .box 24 [.p (.int .i64 out_0v2), .p (.int .i64 out_1v2)])], []⟩
def f54_at2 (K : List PA → Prop) (t : (Sl KinkRow)) (opacity : Int) (iv2 : Int) (out_0v2 : Int) (out_1v2 : Int) : Prop := vc Try.prog G54 ann54 (cdF Try.f54 [1, 1, 1, 0, 1, 0]) (blockK 2 (sqK Try.prog G54 ann54 (cdF Try.f54 [1, 1, 1, 1]) (bodyK Try.prog Try.f54 K))) (f54_g2 t opacity iv2 out_0v2 out_1v2)
theorem f54_top (parts : Int) (t : (Sl KinkRow)) (opacity : Int) (K : List PA → Prop) :
  vcFun Try.prog G54 ann54 54 [.one (.int .i64 parts), .one (.sl t.len 3 (fun i => enc_129 (t.get i))), .one (.int .i64 opacity)] K =
  (f54_at0 K parts t opacity (0:Int) (0:Int)) := by kernel_rfl
def f54_step0 (K : List PA → Prop) (X0 : St → Prop) (parts : Int) (t : (Sl KinkRow)) (opacity : Int) (iv0 : Int) (out_0v0 : Int) : Prop :=
  (condP (decide (iv0 < (t.len : Int)))
   (((0 ≤ iv0 ∧ iv0 < (t.len : Int))) ∧
   (condP (decide ((t.get iv0.toNat).Opacity ≤ opacity))
    (((0 ≤ iv0 ∧ iv0 < (t.len : Int))) ∧
    (X0 (f54_g0 parts t opacity (w64 (iv0 + (1:Int))) ((t.get iv0.toNat).Share.Low))))
    (X0 (f54_g0 parts t opacity (w64 (iv0 + (1:Int))) out_0v0))))
   (f54_at1 K parts t opacity out_0v0))
theorem f54_stepeq0 (K : List PA → Prop) (X0 : St → Prop) (parts : Int) (t : (Sl KinkRow)) (opacity : Int) (iv0 : Int) (out_0v0 : Int) :
  vc Try.prog G54 ann54 (cd (cdF Try.f54 [1, 1, 0, 1, 0]) [0]) (loopK Try.prog ann54 3 X0 (blockK 0 (sqK Try.prog G54 ann54 (cdF Try.f54 [1, 1, 1]) (bodyK Try.prog Try.f54 K)))) (f54_g0 parts t opacity iv0 out_0v0) =
  f54_step0 K X0 parts t opacity iv0 out_0v0 := by kernel_rfl
theorem f54_loop0 (K : List PA → Prop) (parts : Int) (t : (Sl KinkRow)) (opacity : Int) (iv0 : Int) (out_0v0 : Int)
  (h : ∀ X0 : St → Prop, (∀ (iv0 : Int) (out_0v0 : Int), f54_step0 K X0 parts t opacity iv0 out_0v0 → X0 (f54_g0 parts t opacity iv0 out_0v0)) → X0 (f54_g0 parts t opacity iv0 out_0v0)) :
  f54_at0 K parts t opacity iv0 out_0v0 := by
  have e : f54_at0 K parts t opacity iv0 out_0v0 = (∀ X : St → Prop, (∀ s, vc Try.prog G54 ann54 (cd (cdF Try.f54 [1, 1, 0, 1, 0]) [0]) (loopK Try.prog ann54 3 X (blockK 0 (sqK Try.prog G54 ann54 (cdF Try.f54 [1, 1, 1]) (bodyK Try.prog Try.f54 K)))) s → X s) → X (f54_g0 parts t opacity iv0 out_0v0)) := by kernel_rfl
  refine ofEq e ?_
  intro X hX
  refine h X ?_
  intro iv0 out_0v0 hs
  refine hX _ ?_
  have e2 := f54_stepeq0 K X parts t opacity iv0 out_0v0
  rw [e2]
  exact hs
theorem f54_eq1 (K : List PA → Prop) (parts : Int) (t : (Sl KinkRow)) (opacity : Int) (out_0v1 : Int) :
  f54_at1 K parts t opacity out_0v1 =
  (f54_at2 K t opacity (w64 ((t.len : Int) - (1:Int))) out_0v1 parts) := by kernel_rfl
def f54_step2 (K : List PA → Prop) (X2 : St → Prop) (t : (Sl KinkRow)) (opacity : Int) (iv2 : Int) (out_0v2 : Int) (out_1v2 : Int) : Prop :=
  (condP (decide (iv2 ≥ (0:Int)))
   (((0 ≤ iv2 ∧ iv2 < (t.len : Int))) ∧
   (condP (decide ((t.get iv2.toNat).Opacity ≥ opacity))
    (((0 ≤ iv2 ∧ iv2 < (t.len : Int))) ∧
    (X2 (f54_g2 t opacity (w64 (iv2 - (1:Int))) out_0v2 ((t.get iv2.toNat).Share.High))))
    (X2 (f54_g2 t opacity (w64 (iv2 - (1:Int))) out_0v2 out_1v2))))
   (K [.agg [.int .i64 out_0v2, .int .i64 out_1v2]]))
theorem f54_stepeq2 (K : List PA → Prop) (X2 : St → Prop) (t : (Sl KinkRow)) (opacity : Int) (iv2 : Int) (out_0v2 : Int) (out_1v2 : Int) :
  vc Try.prog G54 ann54 (cd (cdF Try.f54 [1, 1, 1, 0, 1, 0]) [0]) (loopK Try.prog ann54 8 X2 (blockK 2 (sqK Try.prog G54 ann54 (cdF Try.f54 [1, 1, 1, 1]) (bodyK Try.prog Try.f54 K)))) (f54_g2 t opacity iv2 out_0v2 out_1v2) =
  f54_step2 K X2 t opacity iv2 out_0v2 out_1v2 := by kernel_rfl
theorem f54_loop2 (K : List PA → Prop) (t : (Sl KinkRow)) (opacity : Int) (iv2 : Int) (out_0v2 : Int) (out_1v2 : Int)
  (h : ∀ X2 : St → Prop, (∀ (iv2 : Int) (out_0v2 : Int) (out_1v2 : Int), f54_step2 K X2 t opacity iv2 out_0v2 out_1v2 → X2 (f54_g2 t opacity iv2 out_0v2 out_1v2)) → X2 (f54_g2 t opacity iv2 out_0v2 out_1v2)) :
  f54_at2 K t opacity iv2 out_0v2 out_1v2 := by
  have e : f54_at2 K t opacity iv2 out_0v2 out_1v2 = (∀ X : St → Prop, (∀ s, vc Try.prog G54 ann54 (cd (cdF Try.f54 [1, 1, 1, 0, 1, 0]) [0]) (loopK Try.prog ann54 8 X (blockK 2 (sqK Try.prog G54 ann54 (cdF Try.f54 [1, 1, 1, 1]) (bodyK Try.prog Try.f54 K)))) s → X s) → X (f54_g2 t opacity iv2 out_0v2 out_1v2)) := by kernel_rfl
  refine ofEq e ?_
  intro X hX
  refine h X ?_
  intro iv2 out_0v2 out_1v2 hs
  refine hX _ ?_
  have e2 := f54_stepeq2 K X t opacity iv2 out_0v2 out_1v2
  rw [e2]
  exact hs
abbrev R54 := Span
abbrev e54 (r : Span) : List PA := [.agg [.int .i64 r.Low, .int .i64 r.High]]
attribute [irreducible] f54_at0 f54_at1 f54_at2
def s54_st2 (t : (Sl KinkRow)) (opacity : Int) (S2 : Int → Int → Int → Span) (iv2 : Int) (out_0v2 : Int) (out_1v2 : Int) : Span :=
  (cond (decide (iv2 ≥ (0:Int)))
   (cond (decide ((t.get iv2.toNat).Opacity ≥ opacity))
    (S2 (w64 (iv2 - (1:Int))) out_0v2 ((t.get iv2.toNat).Share.High))
    (S2 (w64 (iv2 - (1:Int))) out_0v2 out_1v2))
   (⟨out_0v2, out_1v2⟩ : Span))
def p54_st2 (t : (Sl KinkRow)) (opacity : Int) (P2 : Int → Int → Int → Bool) (iv2 : Int) (out_0v2 : Int) (out_1v2 : Int) : Bool :=
  (cond (decide (iv2 ≥ (0:Int)))
   (decide ((0 ≤ iv2 ∧ iv2 < (t.len : Int))) &&
   (cond (decide ((t.get iv2.toNat).Opacity ≥ opacity))
    (decide ((0 ≤ iv2 ∧ iv2 < (t.len : Int))) &&
    (P2 (w64 (iv2 - (1:Int))) out_0v2 ((t.get iv2.toNat).Share.High)))
    (P2 (w64 (iv2 - (1:Int))) out_0v2 out_1v2)))
   true)
def s54_lp2 (t : (Sl KinkRow)) (opacity : Int) : Nat → Int → Int → Int → Span
  | 0 => fun _ _ _ => default
  | k + 1 => s54_st2 t opacity (s54_lp2 t opacity k)
def p54_lp2 (t : (Sl KinkRow)) (opacity : Int) : Nat → Int → Int → Int → Bool
  | 0 => fun _ _ _ => false
  | k + 1 => p54_st2 t opacity (p54_lp2 t opacity k)
def s54_at2 (t : (Sl KinkRow)) (opacity : Int) (iv2 : Int) (out_0v2 : Int) (out_1v2 : Int) : Span := s54_lp2 t opacity Fuel iv2 out_0v2 out_1v2
def p54_at2 (t : (Sl KinkRow)) (opacity : Int) (iv2 : Int) (out_0v2 : Int) (out_1v2 : Int) : Bool := p54_lp2 t opacity Fuel iv2 out_0v2 out_1v2
theorem q54_at2 (K : List PA → Prop) (t : (Sl KinkRow)) (opacity : Int) (iv2 : Int) (out_0v2 : Int) (out_1v2 : Int) (hs : p54_at2 t opacity iv2 out_0v2 out_1v2 = true) (hk : K (e54 (s54_at2 t opacity iv2 out_0v2 out_1v2))) : f54_at2 K t opacity iv2 out_0v2 out_1v2 := by
  refine f54_loop2 K t opacity iv2 out_0v2 out_1v2 ?_
  intro X2 hstep
  have key : ∀ (k : Nat) (iv2 : Int) (out_0v2 : Int) (out_1v2 : Int), p54_lp2 t opacity k iv2 out_0v2 out_1v2 = true → K (e54 (s54_lp2 t opacity k iv2 out_0v2 out_1v2)) → X2 (f54_g2 t opacity iv2 out_0v2 out_1v2) := by
    intro k
    induction k with
    | zero => intro iv2 out_0v2 out_1v2 hs; exact absurd hs Bool.false_ne_true
    | succ k ih =>
      intro iv2 out_0v2 out_1v2 hs hk
      refine hstep iv2 out_0v2 out_1v2 ?_
      have hs : p54_st2 t opacity (p54_lp2 t opacity k) iv2 out_0v2 out_1v2 = true := hs
      have hk : K (e54 (s54_st2 t opacity (s54_lp2 t opacity k) iv2 out_0v2 out_1v2)) := hk
      unfold p54_st2 at hs
      unfold s54_st2 at hk
      generalize s54_lp2 t opacity k = S2 at hk ih
      generalize p54_lp2 t opacity k = P2 at hs ih
      have hX2 := ih
      exact (condB_go (K := fun r => K (e54 r))
       (fun hs hk => (andK hs fun hc hs => ⟨hc, (condB_go (K := fun r => K (e54 r))
        (fun hs hk => (andK hs fun hc hs => ⟨hc, (hX2 (w64 (iv2 - (1:Int))) out_0v2 ((t.get iv2.toNat).Share.High) hs hk)⟩))
        (fun hs hk => (hX2 (w64 (iv2 - (1:Int))) out_0v2 out_1v2 hs hk)) hs hk)⟩))
       (fun hs hk => hk) hs hk)
  exact key _ iv2 out_0v2 out_1v2 hs hk
def s54_at1 (parts : Int) (t : (Sl KinkRow)) (opacity : Int) (out_0v1 : Int) : Span :=
  (s54_at2 t opacity (w64 ((t.len : Int) - (1:Int))) out_0v1 parts)
def p54_at1 (parts : Int) (t : (Sl KinkRow)) (opacity : Int) (out_0v1 : Int) : Bool :=
  (p54_at2 t opacity (w64 ((t.len : Int) - (1:Int))) out_0v1 parts)
theorem q54_at1 (K : List PA → Prop) (parts : Int) (t : (Sl KinkRow)) (opacity : Int) (out_0v1 : Int) (hs : p54_at1 parts t opacity out_0v1 = true) (hk : K (e54 (s54_at1 parts t opacity out_0v1))) : f54_at1 K parts t opacity out_0v1 := by
  refine ofEq (f54_eq1 K parts t opacity out_0v1) ?_
  unfold p54_at1 at hs
  unfold s54_at1 at hk
  exact (q54_at2 K t opacity (w64 ((t.len : Int) - (1:Int))) out_0v1 parts hs hk)
def s54_st0 (parts : Int) (t : (Sl KinkRow)) (opacity : Int) (S0 : Int → Int → Span) (iv0 : Int) (out_0v0 : Int) : Span :=
  (cond (decide (iv0 < (t.len : Int)))
   (cond (decide ((t.get iv0.toNat).Opacity ≤ opacity))
    (S0 (w64 (iv0 + (1:Int))) ((t.get iv0.toNat).Share.Low))
    (S0 (w64 (iv0 + (1:Int))) out_0v0))
   (s54_at1 parts t opacity out_0v0))
def p54_st0 (parts : Int) (t : (Sl KinkRow)) (opacity : Int) (P0 : Int → Int → Bool) (iv0 : Int) (out_0v0 : Int) : Bool :=
  (cond (decide (iv0 < (t.len : Int)))
   (decide ((0 ≤ iv0 ∧ iv0 < (t.len : Int))) &&
   (cond (decide ((t.get iv0.toNat).Opacity ≤ opacity))
    (decide ((0 ≤ iv0 ∧ iv0 < (t.len : Int))) &&
    (P0 (w64 (iv0 + (1:Int))) ((t.get iv0.toNat).Share.Low)))
    (P0 (w64 (iv0 + (1:Int))) out_0v0)))
   (p54_at1 parts t opacity out_0v0))
def s54_lp0 (parts : Int) (t : (Sl KinkRow)) (opacity : Int) : Nat → Int → Int → Span
  | 0 => fun _ _ => default
  | k + 1 => s54_st0 parts t opacity (s54_lp0 parts t opacity k)
def p54_lp0 (parts : Int) (t : (Sl KinkRow)) (opacity : Int) : Nat → Int → Int → Bool
  | 0 => fun _ _ => false
  | k + 1 => p54_st0 parts t opacity (p54_lp0 parts t opacity k)
def s54_at0 (parts : Int) (t : (Sl KinkRow)) (opacity : Int) (iv0 : Int) (out_0v0 : Int) : Span := s54_lp0 parts t opacity Fuel iv0 out_0v0
def p54_at0 (parts : Int) (t : (Sl KinkRow)) (opacity : Int) (iv0 : Int) (out_0v0 : Int) : Bool := p54_lp0 parts t opacity Fuel iv0 out_0v0
theorem q54_at0 (K : List PA → Prop) (parts : Int) (t : (Sl KinkRow)) (opacity : Int) (iv0 : Int) (out_0v0 : Int) (hs : p54_at0 parts t opacity iv0 out_0v0 = true) (hk : K (e54 (s54_at0 parts t opacity iv0 out_0v0))) : f54_at0 K parts t opacity iv0 out_0v0 := by
  refine f54_loop0 K parts t opacity iv0 out_0v0 ?_
  intro X0 hstep
  have key : ∀ (k : Nat) (iv0 : Int) (out_0v0 : Int), p54_lp0 parts t opacity k iv0 out_0v0 = true → K (e54 (s54_lp0 parts t opacity k iv0 out_0v0)) → X0 (f54_g0 parts t opacity iv0 out_0v0) := by
    intro k
    induction k with
    | zero => intro iv0 out_0v0 hs; exact absurd hs Bool.false_ne_true
    | succ k ih =>
      intro iv0 out_0v0 hs hk
      refine hstep iv0 out_0v0 ?_
      have hs : p54_st0 parts t opacity (p54_lp0 parts t opacity k) iv0 out_0v0 = true := hs
      have hk : K (e54 (s54_st0 parts t opacity (s54_lp0 parts t opacity k) iv0 out_0v0)) := hk
      unfold p54_st0 at hs
      unfold s54_st0 at hk
      generalize s54_lp0 parts t opacity k = S0 at hk ih
      generalize p54_lp0 parts t opacity k = P0 at hs ih
      have hX0 := ih
      exact (condB_go (K := fun r => K (e54 r))
       (fun hs hk => (andK hs fun hc hs => ⟨hc, (condB_go (K := fun r => K (e54 r))
        (fun hs hk => (andK hs fun hc hs => ⟨hc, (hX0 (w64 (iv0 + (1:Int))) ((t.get iv0.toNat).Share.Low) hs hk)⟩))
        (fun hs hk => (hX0 (w64 (iv0 + (1:Int))) out_0v0 hs hk)) hs hk)⟩))
       (fun hs hk => (q54_at1 K parts t opacity out_0v0 hs hk)) hs hk)
  exact key _ iv0 out_0v0 hs hk
def s54 (parts : Int) (t : (Sl KinkRow)) (opacity : Int) : Span :=
  (s54_at0 parts t opacity (0:Int) (0:Int))
def p54 (parts : Int) (t : (Sl KinkRow)) (opacity : Int) : Bool :=
  (p54_at0 parts t opacity (0:Int) (0:Int))
theorem q54 (parts : Int) (t : (Sl KinkRow)) (opacity : Int) (K : List PA → Prop) (hs : p54 parts t opacity = true) (hk : K (e54 (s54 parts t opacity))) : vcFun Try.prog G54 ann54 54 [.one (.int .i64 parts), .one (.sl t.len 3 (fun i => enc_129 (t.get i))), .one (.int .i64 opacity)] K := by
  refine ofEq (f54_top parts t opacity K) ?_
  unfold p54 at hs
  unfold s54 at hk
  exact (q54_at0 K parts t opacity (0:Int) (0:Int) hs hk)
def ctr54 : List PA → COut
  | [.one (.int .i64 a0), .one (.sl a1_n a1_s a1_g), .one (.int .i64 a2)] => .det (IsE enc_129 3 a1_s a1_g ∧ p54 a0 (⟨a1_n, decF_129 a1_g⟩ : (Sl KinkRow)) a2 = true) [.agg [.int .i64 ((s54 a0 (⟨a1_n, decF_129 a1_g⟩ : (Sl KinkRow)) a2).Low), .int .i64 ((s54 a0 (⟨a1_n, decF_129 a1_g⟩ : (Sl KinkRow)) a2).High)]]
  | _ => .no
theorem call54 : Callable Try.prog 54 := ⟨_, rfl, rfl, by kernel_rfl⟩
theorem ok54 : Ok Try.prog 54 ctr54 := ok_tab okT54 call54 fun args K h => by
  unfold ctr54 at h
  split at h
  · rename_i a0 a1_n a1_s a1_g a2
    obtain ⟨⟨⟨rfl, a1_f, rfl⟩, hs⟩, hk⟩ := h
    try rw [decF_enc_129 a1_f] at hs
    try rw [decF_enc_129 a1_f] at hk
    exact ⟨(fun _ _ => []), (fun _ => false), ann54, q54 a0 (⟨a1_n, a1_f⟩ : (Sl KinkRow)) a2 K hs hk⟩
  · exact h.elim
-- 55 overburdenref05.Bent
abbrev T55 : Tabs := Tabs.nil
theorem okT55 : TabsOk Try.prog T55 := TabsOk.nil
abbrev G55 : Ctrs := csm T55 (fun _ _ => []) (fun _ => false)
def ann55 : Ann := ⟨63, [(0, ⟨[1, 5, 6], [5, 6], [], [], []⟩), (1, ⟨[1, 5, 6, 8], [5, 6, 8], [], [], []⟩), (2, ⟨[1, 5, 6, 8, 9], [5, 6, 8], [], [], []⟩), (3, ⟨[1, 5, 6, 8, 9, 15], [5, 6, 8], [], [], []⟩), (4, ⟨[1, 5, 6, 8, 9], [5, 6, 8], [], [], []⟩), (5, ⟨[1, 5, 6, 8, 9, 26], [5, 6, 8], [], [], []⟩), (6, ⟨[1, 5, 6, 8, 9], [5, 6, 8], [], [], []⟩), (7, ⟨[1, 5, 6, 8, 10], [5, 6, 8], [], [], []⟩), (8, ⟨[1, 5, 6, 8, 10, 38], [5, 6, 8], [], [], []⟩), (9, ⟨[1, 5, 6, 8, 10], [5, 6, 8], [], [], []⟩), (10, ⟨[1, 5, 6, 8, 10, 49], [5, 6, 8], [], [], []⟩), (11, ⟨[1, 5, 6, 8, 10], [5, 6, 8], [], [], []⟩), (12, ⟨[6, 7], [6], [], [], []⟩)],
  [(3, ⟨[1, 5, 6, 8, 9], [5, 6, 8], [], [], []⟩), (8, ⟨[1, 5, 6, 8, 10], [5, 6, 8], [], [], []⟩)],
  [(7, ⟨[1, 5, 6, 8], [5, 6, 8], [], [], []⟩)],
  [], []⟩
def f55_g0 (t : (Sl KinkRow)) (shares : Span) (iv0 : Int) (out_0v0 : Int) : St := ⟨[(1, .one (.c (.p (.sl t.len 3 (fun i => enc_129 (t.get i)))))), (5, .one (.c (.ptr 5 0))), (6, .one (.c (.ptr 6 0))), (8, .one (.c (.ptr 8 0))), (9, .one (.c (.p (.int .i64 iv0))))], [(5, .box 24 [.p (.int .i64 shares.Low), .p (.int .i64 shares.High)]), (6, .box 24 [.p (.int .i64 (0:Int)), .p (.int .i64 (0:Int))]), (8, .box 24 [.p (.int .i64 out_0v0), .p (.int .i64 (1000000:Int))])], []⟩
def f55_at0 (K : List PA → Prop) (t : (Sl KinkRow)) (shares : Span) (iv0 : Int) (out_0v0 : Int) : Prop := vc Try.prog G55 ann55 (cdF Try.f55 [1, 1, 0, 1, 0]) (blockK 0 (sqK Try.prog G55 ann55 (cdF Try.f55 [1, 1, 1]) (bodyK Try.prog Try.f55 K))) (f55_g0 t shares iv0 out_0v0)
def f55_g1 (t : (Sl KinkRow)) (shares : Span) (out_0v1 : Int) : St := ⟨[(1, .one (.c (.p (.sl t.len 3 (fun i => enc_129 (t.get i)))))), (5, .one (.c (.ptr 5 0))), (6, .one (.c (.ptr 6 0))), (8, .one (.c (.ptr 8 0)))], [(5, .box 24 [.p (.int .i64 shares.Low), .p (.int .i64 shares.High)]), (6, .box 24 [.p (.int .i64 (0:Int)), .p (.int .i64 (0:Int))]), (8, .box 24 [.p (.int .i64 out_0v1), .p (.int .i64 (1000000:Int))])], []⟩
def f55_at1 (K : List PA → Prop) (t : (Sl KinkRow)) (shares : Span) (out_0v1 : Int) : Prop := vc Try.prog G55 ann55 (cdF Try.f55 [1, 1, 1]) (bodyK Try.prog Try.f55 K) (f55_g1 t shares out_0v1)
def f55_g2 (t : (Sl KinkRow)) (shares : Span) (iv2 : Int) (out_0v2 : Int) (out_1v2 : Int) : St := ⟨[(1, .one (.c (.p (.sl t.len 3 (fun i => enc_129 (t.get i)))))), (5, .one (.c (.ptr 5 0))), (6, .one (.c (.ptr 6 0))), (8, .one (.c (.ptr 8 0))), (10, .one (.c (.p (.int .i64 iv2))))], [(5, .box 24 [.p (.int .i64 shares.Low), .p (.int .i64 shares.High)]), (6, .box 24 [.p (.int .i64 (0:Int)), .p (.int .i64 (0:Int))]), (8, .box 24 [.p (.int .i64 out_0v2), .p (.int .i64 out_1v2)])], []⟩
def f55_at2 (K : List PA → Prop) (t : (Sl KinkRow)) (shares : Span) (iv2 : Int) (out_0v2 : Int) (out_1v2 : Int) : Prop := vc Try.prog G55 ann55 (cdF Try.f55 [1, 1, 1, 0, 1, 0]) (blockK 2 (sqK Try.prog G55 ann55 (cdF Try.f55 [1, 1, 1, 1]) (bodyK Try.prog Try.f55 K))) (f55_g2 t shares iv2 out_0v2 out_1v2)
theorem f55_top (parts : Int) (t : (Sl KinkRow)) (shares : Span) (K : List PA → Prop) :
  vcFun Try.prog G55 ann55 55 [.one (.int .i64 parts), .one (.sl t.len 3 (fun i => enc_129 (t.get i))), .agg [.int .i64 shares.Low, .int .i64 shares.High]] K =
  (f55_at0 K t shares (0:Int) (0:Int)) := by kernel_rfl
def f55_step0 (K : List PA → Prop) (X0 : St → Prop) (t : (Sl KinkRow)) (shares : Span) (iv0 : Int) (out_0v0 : Int) : Prop :=
  (condP (decide (iv0 < (t.len : Int)))
   (((0 ≤ iv0 ∧ iv0 < (t.len : Int))) ∧
   (condP (decide ((t.get iv0.toNat).Share.High < shares.Low))
    (((0 ≤ iv0 ∧ iv0 < (t.len : Int))) ∧
    (X0 (f55_g0 t shares (w64 (iv0 + (1:Int))) (w64 ((t.get iv0.toNat).Opacity + (1:Int))))))
    (X0 (f55_g0 t shares (w64 (iv0 + (1:Int))) out_0v0))))
   (f55_at1 K t shares out_0v0))
theorem f55_stepeq0 (K : List PA → Prop) (X0 : St → Prop) (t : (Sl KinkRow)) (shares : Span) (iv0 : Int) (out_0v0 : Int) :
  vc Try.prog G55 ann55 (cd (cdF Try.f55 [1, 1, 0, 1, 0]) [0]) (loopK Try.prog ann55 3 X0 (blockK 0 (sqK Try.prog G55 ann55 (cdF Try.f55 [1, 1, 1]) (bodyK Try.prog Try.f55 K)))) (f55_g0 t shares iv0 out_0v0) =
  f55_step0 K X0 t shares iv0 out_0v0 := by kernel_rfl
theorem f55_loop0 (K : List PA → Prop) (t : (Sl KinkRow)) (shares : Span) (iv0 : Int) (out_0v0 : Int)
  (h : ∀ X0 : St → Prop, (∀ (iv0 : Int) (out_0v0 : Int), f55_step0 K X0 t shares iv0 out_0v0 → X0 (f55_g0 t shares iv0 out_0v0)) → X0 (f55_g0 t shares iv0 out_0v0)) :
  f55_at0 K t shares iv0 out_0v0 := by
  have e : f55_at0 K t shares iv0 out_0v0 = (∀ X : St → Prop, (∀ s, vc Try.prog G55 ann55 (cd (cdF Try.f55 [1, 1, 0, 1, 0]) [0]) (loopK Try.prog ann55 3 X (blockK 0 (sqK Try.prog G55 ann55 (cdF Try.f55 [1, 1, 1]) (bodyK Try.prog Try.f55 K)))) s → X s) → X (f55_g0 t shares iv0 out_0v0)) := by kernel_rfl
  refine ofEq e ?_
  intro X hX
  refine h X ?_
  intro iv0 out_0v0 hs
  refine hX _ ?_
  have e2 := f55_stepeq0 K X t shares iv0 out_0v0
  rw [e2]
  exact hs
theorem f55_eq1 (K : List PA → Prop) (t : (Sl KinkRow)) (shares : Span) (out_0v1 : Int) :
  f55_at1 K t shares out_0v1 =
  (f55_at2 K t shares (w64 ((t.len : Int) - (1:Int))) out_0v1 (1000000:Int)) := by kernel_rfl
def f55_step2 (K : List PA → Prop) (X2 : St → Prop) (t : (Sl KinkRow)) (shares : Span) (iv2 : Int) (out_0v2 : Int) (out_1v2 : Int) : Prop :=
  (condP (decide (iv2 ≥ (0:Int)))
   (((0 ≤ iv2 ∧ iv2 < (t.len : Int))) ∧
   (condP (decide ((t.get iv2.toNat).Share.Low > shares.High))
    (((0 ≤ iv2 ∧ iv2 < (t.len : Int))) ∧
    (X2 (f55_g2 t shares (w64 (iv2 - (1:Int))) out_0v2 (w64 ((t.get iv2.toNat).Opacity - (1:Int))))))
    (X2 (f55_g2 t shares (w64 (iv2 - (1:Int))) out_0v2 out_1v2))))
   (K [.agg [.int .i64 out_0v2, .int .i64 out_1v2], .one (.bool (decide (out_0v2 ≤ out_1v2)))]))
theorem f55_stepeq2 (K : List PA → Prop) (X2 : St → Prop) (t : (Sl KinkRow)) (shares : Span) (iv2 : Int) (out_0v2 : Int) (out_1v2 : Int) :
  vc Try.prog G55 ann55 (cd (cdF Try.f55 [1, 1, 1, 0, 1, 0]) [0]) (loopK Try.prog ann55 8 X2 (blockK 2 (sqK Try.prog G55 ann55 (cdF Try.f55 [1, 1, 1, 1]) (bodyK Try.prog Try.f55 K)))) (f55_g2 t shares iv2 out_0v2 out_1v2) =
  f55_step2 K X2 t shares iv2 out_0v2 out_1v2 := by kernel_rfl
theorem f55_loop2 (K : List PA → Prop) (t : (Sl KinkRow)) (shares : Span) (iv2 : Int) (out_0v2 : Int) (out_1v2 : Int)
  (h : ∀ X2 : St → Prop, (∀ (iv2 : Int) (out_0v2 : Int) (out_1v2 : Int), f55_step2 K X2 t shares iv2 out_0v2 out_1v2 → X2 (f55_g2 t shares iv2 out_0v2 out_1v2)) → X2 (f55_g2 t shares iv2 out_0v2 out_1v2)) :
  f55_at2 K t shares iv2 out_0v2 out_1v2 := by
  have e : f55_at2 K t shares iv2 out_0v2 out_1v2 = (∀ X : St → Prop, (∀ s, vc Try.prog G55 ann55 (cd (cdF Try.f55 [1, 1, 1, 0, 1, 0]) [0]) (loopK Try.prog ann55 8 X (blockK 2 (sqK Try.prog G55 ann55 (cdF Try.f55 [1, 1, 1, 1]) (bodyK Try.prog Try.f55 K)))) s → X s) → X (f55_g2 t shares iv2 out_0v2 out_1v2)) := by kernel_rfl
  refine ofEq e ?_
  intro X hX
  refine h X ?_
  intro iv2 out_0v2 out_1v2 hs
  refine hX _ ?_
  have e2 := f55_stepeq2 K X t shares iv2 out_0v2 out_1v2
  rw [e2]
  exact hs
abbrev R55 := (Span × Bool)
abbrev e55 (r : (Span × Bool)) : List PA := [.agg [.int .i64 r.1.Low, .int .i64 r.1.High], .one (.bool r.2)]
attribute [irreducible] f55_at0 f55_at1 f55_at2
def s55_st2 (t : (Sl KinkRow)) (shares : Span) (S2 : Int → Int → Int → (Span × Bool)) (iv2 : Int) (out_0v2 : Int) (out_1v2 : Int) : (Span × Bool) :=
  (cond (decide (iv2 ≥ (0:Int)))
   (cond (decide ((t.get iv2.toNat).Share.Low > shares.High))
    (S2 (w64 (iv2 - (1:Int))) out_0v2 (w64 ((t.get iv2.toNat).Opacity - (1:Int))))
    (S2 (w64 (iv2 - (1:Int))) out_0v2 out_1v2))
   ((⟨out_0v2, out_1v2⟩ : Span), (decide (out_0v2 ≤ out_1v2))))
def p55_st2 (t : (Sl KinkRow)) (shares : Span) (P2 : Int → Int → Int → Bool) (iv2 : Int) (out_0v2 : Int) (out_1v2 : Int) : Bool :=
  (cond (decide (iv2 ≥ (0:Int)))
   (decide ((0 ≤ iv2 ∧ iv2 < (t.len : Int))) &&
   (cond (decide ((t.get iv2.toNat).Share.Low > shares.High))
    (decide ((0 ≤ iv2 ∧ iv2 < (t.len : Int))) &&
    (P2 (w64 (iv2 - (1:Int))) out_0v2 (w64 ((t.get iv2.toNat).Opacity - (1:Int)))))
    (P2 (w64 (iv2 - (1:Int))) out_0v2 out_1v2)))
   true)
def s55_lp2 (t : (Sl KinkRow)) (shares : Span) : Nat → Int → Int → Int → (Span × Bool)
  | 0 => fun _ _ _ => default
  | k + 1 => s55_st2 t shares (s55_lp2 t shares k)
def p55_lp2 (t : (Sl KinkRow)) (shares : Span) : Nat → Int → Int → Int → Bool
  | 0 => fun _ _ _ => false
  | k + 1 => p55_st2 t shares (p55_lp2 t shares k)
def s55_at2 (t : (Sl KinkRow)) (shares : Span) (iv2 : Int) (out_0v2 : Int) (out_1v2 : Int) : (Span × Bool) := s55_lp2 t shares Fuel iv2 out_0v2 out_1v2
def p55_at2 (t : (Sl KinkRow)) (shares : Span) (iv2 : Int) (out_0v2 : Int) (out_1v2 : Int) : Bool := p55_lp2 t shares Fuel iv2 out_0v2 out_1v2
theorem q55_at2 (K : List PA → Prop) (t : (Sl KinkRow)) (shares : Span) (iv2 : Int) (out_0v2 : Int) (out_1v2 : Int) (hs : p55_at2 t shares iv2 out_0v2 out_1v2 = true) (hk : K (e55 (s55_at2 t shares iv2 out_0v2 out_1v2))) : f55_at2 K t shares iv2 out_0v2 out_1v2 := by
  refine f55_loop2 K t shares iv2 out_0v2 out_1v2 ?_
  intro X2 hstep
  have key : ∀ (k : Nat) (iv2 : Int) (out_0v2 : Int) (out_1v2 : Int), p55_lp2 t shares k iv2 out_0v2 out_1v2 = true → K (e55 (s55_lp2 t shares k iv2 out_0v2 out_1v2)) → X2 (f55_g2 t shares iv2 out_0v2 out_1v2) := by
    intro k
    induction k with
    | zero => intro iv2 out_0v2 out_1v2 hs; exact absurd hs Bool.false_ne_true
    | succ k ih =>
      intro iv2 out_0v2 out_1v2 hs hk
      refine hstep iv2 out_0v2 out_1v2 ?_
      have hs : p55_st2 t shares (p55_lp2 t shares k) iv2 out_0v2 out_1v2 = true := hs
      have hk : K (e55 (s55_st2 t shares (s55_lp2 t shares k) iv2 out_0v2 out_1v2)) := hk
      unfold p55_st2 at hs
      unfold s55_st2 at hk
      generalize s55_lp2 t shares k = S2 at hk ih
      generalize p55_lp2 t shares k = P2 at hs ih
      have hX2 := ih
      exact (condB_go (K := fun r => K (e55 r))
       (fun hs hk => (andK hs fun hc hs => ⟨hc, (condB_go (K := fun r => K (e55 r))
        (fun hs hk => (andK hs fun hc hs => ⟨hc, (hX2 (w64 (iv2 - (1:Int))) out_0v2 (w64 ((t.get iv2.toNat).Opacity - (1:Int))) hs hk)⟩))
        (fun hs hk => (hX2 (w64 (iv2 - (1:Int))) out_0v2 out_1v2 hs hk)) hs hk)⟩))
       (fun hs hk => hk) hs hk)
  exact key _ iv2 out_0v2 out_1v2 hs hk
def s55_at1 (t : (Sl KinkRow)) (shares : Span) (out_0v1 : Int) : (Span × Bool) :=
  (s55_at2 t shares (w64 ((t.len : Int) - (1:Int))) out_0v1 (1000000:Int))
def p55_at1 (t : (Sl KinkRow)) (shares : Span) (out_0v1 : Int) : Bool :=
  (p55_at2 t shares (w64 ((t.len : Int) - (1:Int))) out_0v1 (1000000:Int))
theorem q55_at1 (K : List PA → Prop) (t : (Sl KinkRow)) (shares : Span) (out_0v1 : Int) (hs : p55_at1 t shares out_0v1 = true) (hk : K (e55 (s55_at1 t shares out_0v1))) : f55_at1 K t shares out_0v1 := by
  refine ofEq (f55_eq1 K t shares out_0v1) ?_
  unfold p55_at1 at hs
  unfold s55_at1 at hk
  exact (q55_at2 K t shares (w64 ((t.len : Int) - (1:Int))) out_0v1 (1000000:Int) hs hk)
def s55_st0 (t : (Sl KinkRow)) (shares : Span) (S0 : Int → Int → (Span × Bool)) (iv0 : Int) (out_0v0 : Int) : (Span × Bool) :=
  (cond (decide (iv0 < (t.len : Int)))
   (cond (decide ((t.get iv0.toNat).Share.High < shares.Low))
    (S0 (w64 (iv0 + (1:Int))) (w64 ((t.get iv0.toNat).Opacity + (1:Int))))
    (S0 (w64 (iv0 + (1:Int))) out_0v0))
   (s55_at1 t shares out_0v0))
def p55_st0 (t : (Sl KinkRow)) (shares : Span) (P0 : Int → Int → Bool) (iv0 : Int) (out_0v0 : Int) : Bool :=
  (cond (decide (iv0 < (t.len : Int)))
   (decide ((0 ≤ iv0 ∧ iv0 < (t.len : Int))) &&
   (cond (decide ((t.get iv0.toNat).Share.High < shares.Low))
    (decide ((0 ≤ iv0 ∧ iv0 < (t.len : Int))) &&
    (P0 (w64 (iv0 + (1:Int))) (w64 ((t.get iv0.toNat).Opacity + (1:Int)))))
    (P0 (w64 (iv0 + (1:Int))) out_0v0)))
   (p55_at1 t shares out_0v0))
def s55_lp0 (t : (Sl KinkRow)) (shares : Span) : Nat → Int → Int → (Span × Bool)
  | 0 => fun _ _ => default
  | k + 1 => s55_st0 t shares (s55_lp0 t shares k)
def p55_lp0 (t : (Sl KinkRow)) (shares : Span) : Nat → Int → Int → Bool
  | 0 => fun _ _ => false
  | k + 1 => p55_st0 t shares (p55_lp0 t shares k)
def s55_at0 (t : (Sl KinkRow)) (shares : Span) (iv0 : Int) (out_0v0 : Int) : (Span × Bool) := s55_lp0 t shares Fuel iv0 out_0v0
def p55_at0 (t : (Sl KinkRow)) (shares : Span) (iv0 : Int) (out_0v0 : Int) : Bool := p55_lp0 t shares Fuel iv0 out_0v0
theorem q55_at0 (K : List PA → Prop) (t : (Sl KinkRow)) (shares : Span) (iv0 : Int) (out_0v0 : Int) (hs : p55_at0 t shares iv0 out_0v0 = true) (hk : K (e55 (s55_at0 t shares iv0 out_0v0))) : f55_at0 K t shares iv0 out_0v0 := by
  refine f55_loop0 K t shares iv0 out_0v0 ?_
  intro X0 hstep
  have key : ∀ (k : Nat) (iv0 : Int) (out_0v0 : Int), p55_lp0 t shares k iv0 out_0v0 = true → K (e55 (s55_lp0 t shares k iv0 out_0v0)) → X0 (f55_g0 t shares iv0 out_0v0) := by
    intro k
    induction k with
    | zero => intro iv0 out_0v0 hs; exact absurd hs Bool.false_ne_true
    | succ k ih =>
      intro iv0 out_0v0 hs hk
      refine hstep iv0 out_0v0 ?_
      have hs : p55_st0 t shares (p55_lp0 t shares k) iv0 out_0v0 = true := hs
      have hk : K (e55 (s55_st0 t shares (s55_lp0 t shares k) iv0 out_0v0)) := hk
      unfold p55_st0 at hs
      unfold s55_st0 at hk
      generalize s55_lp0 t shares k = S0 at hk ih
      generalize p55_lp0 t shares k = P0 at hs ih
      have hX0 := ih
      exact (condB_go (K := fun r => K (e55 r))
       (fun hs hk => (andK hs fun hc hs => ⟨hc, (condB_go (K := fun r => K (e55 r))
        (fun hs hk => (andK hs fun hc hs => ⟨hc, (hX0 (w64 (iv0 + (1:Int))) (w64 ((t.get iv0.toNat).Opacity + (1:Int))) hs hk)⟩))
        (fun hs hk => (hX0 (w64 (iv0 + (1:Int))) out_0v0 hs hk)) hs hk)⟩))
       (fun hs hk => (q55_at1 K t shares out_0v0 hs hk)) hs hk)
  exact key _ iv0 out_0v0 hs hk
def s55 (parts : Int) (t : (Sl KinkRow)) (shares : Span) : (Span × Bool) :=
  (s55_at0 t shares (0:Int) (0:Int))
def p55 (parts : Int) (t : (Sl KinkRow)) (shares : Span) : Bool :=
  (p55_at0 t shares (0:Int) (0:Int))
theorem q55 (parts : Int) (t : (Sl KinkRow)) (shares : Span) (K : List PA → Prop) (hs : p55 parts t shares = true) (hk : K (e55 (s55 parts t shares))) : vcFun Try.prog G55 ann55 55 [.one (.int .i64 parts), .one (.sl t.len 3 (fun i => enc_129 (t.get i))), .agg [.int .i64 shares.Low, .int .i64 shares.High]] K := by
  refine ofEq (f55_top parts t shares K) ?_
  unfold p55 at hs
  unfold s55 at hk
  exact (q55_at0 K t shares (0:Int) (0:Int) hs hk)
def ctr55 : List PA → COut
  | [.one (.int .i64 a0), .one (.sl a1_n a1_s a1_g), .agg [.int .i64 a2_Low, .int .i64 a2_High]] => .det (IsE enc_129 3 a1_s a1_g ∧ p55 a0 (⟨a1_n, decF_129 a1_g⟩ : (Sl KinkRow)) (⟨a2_Low, a2_High⟩ : Span) = true) [.agg [.int .i64 (((s55 a0 (⟨a1_n, decF_129 a1_g⟩ : (Sl KinkRow)) (⟨a2_Low, a2_High⟩ : Span)).1).Low), .int .i64 (((s55 a0 (⟨a1_n, decF_129 a1_g⟩ : (Sl KinkRow)) (⟨a2_Low, a2_High⟩ : Span)).1).High)], .one (.bool ((s55 a0 (⟨a1_n, decF_129 a1_g⟩ : (Sl KinkRow)) (⟨a2_Low, a2_High⟩ : Span)).2))]
  | _ => .no
theorem call55 : Callable Try.prog 55 := ⟨_, rfl, rfl, by kernel_rfl⟩
theorem ok55 : Ok Try.prog 55 ctr55 := ok_tab okT55 call55 fun args K h => by
  unfold ctr55 at h
  split at h
  · rename_i a0 a1_n a1_s a1_g a2_Low a2_High
    obtain ⟨⟨⟨rfl, a1_f, rfl⟩, hs⟩, hk⟩ := h
    try rw [decF_enc_129 a1_f] at hs
    try rw [decF_enc_129 a1_f] at hk
    exact ⟨(fun _ _ => []), (fun _ => false), ann55, q55 a0 (⟨a1_n, a1_f⟩ : (Sl KinkRow)) (⟨a2_Low, a2_High⟩ : Span) K hs hk⟩
  · exact h.elim
-- 56 flux.Both
abbrev T56 : Tabs := (Tabs.nil.addF 69 ctr69)
theorem okT56 : TabsOk Try.prog T56 := (TabsOk.nil.addF ok69)
abbrev G56 : Ctrs := csm T56 (fun _ _ => []) (fun _ => false)
def ann56 : Ann := ⟨34, [(0, ⟨[2, 3, 4], [2, 3, 4], [], [], []⟩), (1, ⟨[2, 3, 4, 14], [2, 3, 4], [], [], []⟩), (2, ⟨[4, 5], [4], [], [], []⟩), (3, ⟨[4, 6], [4, 6], [], [], []⟩), (4, ⟨[4, 6, 31], [4, 6], [], [], []⟩), (5, ⟨[4, 5], [4], [], [], []⟩), (6, ⟨[4, 5], [4], [], [], []⟩)],
  [],
  [(3, ⟨[2, 3, 4], [2, 3, 4], [], [], []⟩)],
  [], []⟩
def f56_g0 (a : Span) (b : Span) : St := ⟨[(2, .one (.c (.ptr 2 0))), (3, .one (.c (.ptr 3 0))), (4, .one (.c (.ptr 4 0)))], [(2, .box 24 [.p (.int .i64 a.Low), .p (.int .i64 a.High)]), (3, .box 24 [.p (.int .i64 b.Low), .p (.int .i64 b.High)]), (4, .box 24 [.p (.int .i64 (0:Int)), .p (.int .i64 (0:Int))])], []⟩
def f56_at0 (K : List PA → Prop) (a : Span) (b : Span) : Prop := vc Try.prog G56 ann56 (cdF Try.f56 [1, 1]) (bodyK Try.prog Try.f56 K) (f56_g0 a b)
theorem f56_top (a : Span) (b : Span) (K : List PA → Prop) :
  vcFun Try.prog G56 ann56 56 [.agg [.int .i64 a.Low, .int .i64 a.High], .agg [.int .i64 b.Low, .int .i64 b.High]] K =
  (condP (!(s69 a (0:Int) (1000000:Int)))
   (K [.agg [.int .i64 (0:Int), .int .i64 (0:Int)], .one (.int .i64 (2:Int))])
   (condP (!(s69 b (0:Int) (1000000:Int)))
    (K [.agg [.int .i64 (0:Int), .int .i64 (0:Int)], .one (.int .i64 (2:Int))])
    (f56_at0 K a b))) := by kernel_rfl
theorem f56_eq0 (K : List PA → Prop) (a : Span) (b : Span) :
  f56_at0 K a b =
  (condP (decide ((if b.Low > a.Low then b.Low else a.Low) > (if b.High < a.High then b.High else a.High)))
   (K [.agg [.int .i64 (0:Int), .int .i64 (0:Int)], .one (.int .i64 (5:Int))])
   (K [.agg [.int .i64 (if b.Low > a.Low then b.Low else a.Low), .int .i64 (if b.High < a.High then b.High else a.High)], .one (.int .i64 (0:Int))])) := by kernel_rfl
abbrev R56 := (Span × Int)
abbrev e56 (r : (Span × Int)) : List PA := [.agg [.int .i64 r.1.Low, .int .i64 r.1.High], .one (.int .i64 r.2)]
attribute [irreducible] f56_at0
def s56_at0 (a : Span) (b : Span) : (Span × Int) :=
  (cond (decide ((if b.Low > a.Low then b.Low else a.Low) > (if b.High < a.High then b.High else a.High)))
   ((⟨(0:Int), (0:Int)⟩ : Span), (5:Int))
   ((⟨(if b.Low > a.Low then b.Low else a.Low), (if b.High < a.High then b.High else a.High)⟩ : Span), (0:Int)))
theorem q56_at0 (K : List PA → Prop) (a : Span) (b : Span) (hk : K (e56 (s56_at0 a b))) : f56_at0 K a b := by
  refine ofEq (f56_eq0 K a b) ?_
  unfold s56_at0 at hk
  exact (condP_gt (K := fun r => K (e56 r))
   (fun hk => hk)
   (fun hk => hk) hk)
def s56 (a : Span) (b : Span) : (Span × Int) :=
  (cond (!(s69 a (0:Int) (1000000:Int)))
   ((⟨(0:Int), (0:Int)⟩ : Span), (2:Int))
   (cond (!(s69 b (0:Int) (1000000:Int)))
    ((⟨(0:Int), (0:Int)⟩ : Span), (2:Int))
    (s56_at0 a b)))
theorem q56 (a : Span) (b : Span) (K : List PA → Prop) (hk : K (e56 (s56 a b))) : vcFun Try.prog G56 ann56 56 [.agg [.int .i64 a.Low, .int .i64 a.High], .agg [.int .i64 b.Low, .int .i64 b.High]] K := by
  refine ofEq (f56_top a b K) ?_
  unfold s56 at hk
  exact (condP_gt (K := fun r => K (e56 r))
   (fun hk => hk)
   (fun hk => (condP_gt (K := fun r => K (e56 r))
    (fun hk => hk)
    (fun hk => (q56_at0 K a b hk)) hk)) hk)
def ctr56 : List PA → COut
  | [.agg [.int .i64 a0_Low, .int .i64 a0_High], .agg [.int .i64 a1_Low, .int .i64 a1_High]] => .tot [.agg [.int .i64 (((s56 (⟨a0_Low, a0_High⟩ : Span) (⟨a1_Low, a1_High⟩ : Span)).1).Low), .int .i64 (((s56 (⟨a0_Low, a0_High⟩ : Span) (⟨a1_Low, a1_High⟩ : Span)).1).High)], .one (.int .i64 ((s56 (⟨a0_Low, a0_High⟩ : Span) (⟨a1_Low, a1_High⟩ : Span)).2))]
  | _ => .no
theorem call56 : Callable Try.prog 56 := ⟨_, rfl, rfl, by kernel_rfl⟩
theorem ok56 : Ok Try.prog 56 ctr56 := ok_tab okT56 call56 fun args K h => by
  unfold ctr56 at h
  split at h
  · rename_i a0_Low a0_High a1_Low a1_High
    have hk := h
    exact ⟨(fun _ _ => []), (fun _ => false), ann56, q56 (⟨a0_Low, a0_High⟩ : Span) (⟨a1_Low, a1_High⟩ : Span) K hk⟩
  · exact h.elim
end Go.Proofs
namespace Go.Proofs
open Go Go.Pm
set_option maxRecDepth 100000
set_option linter.unusedVariables false
attribute [local irreducible] Go.Pm.vcFun Go.Pm.vc Go.Pm.vcIter
-- 57 overburdenref05.Both
abbrev T57 : Tabs := Tabs.nil
theorem okT57 : TabsOk Try.prog T57 := TabsOk.nil
abbrev G57 : Ctrs := csm T57 (fun _ _ => []) (fun _ => false)
def ann57 : Ann := ⟨24, [(0, ⟨[2, 3, 4], [2, 3, 4], [], [], []⟩), (1, ⟨[4, 6], [4, 6], [], [], []⟩), (2, ⟨[4, 5], [4], [], [], []⟩)],
  [],
  [],
  [], []⟩
theorem f57_top (a : Span) (b : Span) (K : List PA → Prop) :
  vcFun Try.prog G57 ann57 57 [.agg [.int .i64 a.Low, .int .i64 a.High], .agg [.int .i64 b.Low, .int .i64 b.High]] K =
  (K [.agg [.int .i64 (if b.Low > a.Low then b.Low else a.Low), .int .i64 (if b.High < a.High then b.High else a.High)], .one (.bool (decide ((if b.Low > a.Low then b.Low else a.Low) ≤ (if b.High < a.High then b.High else a.High))))]) := by kernel_rfl
abbrev R57 := (Span × Bool)
abbrev e57 (r : (Span × Bool)) : List PA := [.agg [.int .i64 r.1.Low, .int .i64 r.1.High], .one (.bool r.2)]
def s57 (a : Span) (b : Span) : (Span × Bool) :=
  ((⟨(if b.Low > a.Low then b.Low else a.Low), (if b.High < a.High then b.High else a.High)⟩ : Span), (decide ((if b.Low > a.Low then b.Low else a.Low) ≤ (if b.High < a.High then b.High else a.High))))
theorem q57 (a : Span) (b : Span) (K : List PA → Prop) (hk : K (e57 (s57 a b))) : vcFun Try.prog G57 ann57 57 [.agg [.int .i64 a.Low, .int .i64 a.High], .agg [.int .i64 b.Low, .int .i64 b.High]] K := by
  refine ofEq (f57_top a b K) ?_
  unfold s57 at hk
  exact hk
def ctr57 : List PA → COut
  | [.agg [.int .i64 a0_Low, .int .i64 a0_High], .agg [.int .i64 a1_Low, .int .i64 a1_High]] => .tot [.agg [.int .i64 (((s57 (⟨a0_Low, a0_High⟩ : Span) (⟨a1_Low, a1_High⟩ : Span)).1).Low), .int .i64 (((s57 (⟨a0_Low, a0_High⟩ : Span) (⟨a1_Low, a1_High⟩ : Span)).1).High)], .one (.bool ((s57 (⟨a0_Low, a0_High⟩ : Span) (⟨a1_Low, a1_High⟩ : Span)).2))]
  | _ => .no
theorem call57 : Callable Try.prog 57 := ⟨_, rfl, rfl, by kernel_rfl⟩
theorem ok57 : Ok Try.prog 57 ctr57 := ok_tab okT57 call57 fun args K h => by
  unfold ctr57 at h
  split at h
  · rename_i a0_Low a0_High a1_Low a1_High
    have hk := h
    exact ⟨(fun _ _ => []), (fun _ => false), ann57, q57 (⟨a0_Low, a0_High⟩ : Span) (⟨a1_Low, a1_High⟩ : Span) K hk⟩
  · exact h.elim
end Go.Proofs
