/- Part 5 of what the proof rests on: a machine that runs functions of the program on pure values, proved sound; the functions that the law reaches, and what they compute. -/
import Derived.Test.YtpjoicpmbdaniaaQ4
set_option linter.all false
namespace Go.Proofs
open Go Go.Pm
set_option maxRecDepth 100000
set_option linter.unusedVariables false
attribute [local irreducible] Go.Pm.vcFun Go.Pm.vc Go.Pm.vcIter
abbrev T61 : Tabs := Tabs.nil
theorem okT61 : TabsOk Try.prog T61 := TabsOk.nil
abbrev G61 : Ctrs := csm T61 (fun _ _ => []) (fun _ => false)
def ann61 : Ann := ⟨8, [(0, ⟨[], [], [], [], []⟩), (1, ⟨[0], [7], [], [], []⟩)],
  [],
  [],
  [], []⟩
theorem f61_top (K : List PA → Prop) :
  vcFun Try.prog G61 ann61 61 [] K =
  (K [.one (.sl 3 3 (getL [(enc_42 (⟨(10:Int), (⟨(20:Int), (30:Int)⟩ : Span)⟩ : RangeRow)), (enc_42 (⟨(40:Int), (⟨(90:Int), (120:Int)⟩ : Span)⟩ : RangeRow)), (enc_42 (⟨(100:Int), (⟨(250:Int), (300:Int)⟩ : Span)⟩ : RangeRow))]))]) := by kernel_rfl
abbrev R61 := (Sl RangeRow)
abbrev e61 (r : (Sl RangeRow)) : List PA := [.one (.sl r.len 3 (fun i => enc_42 (r.get i)))]
def s61 : (Sl RangeRow) :=
  (⟨3, (getT (⟨(10:Int), (⟨(20:Int), (30:Int)⟩ : Span)⟩ : RangeRow) [(⟨(10:Int), (⟨(20:Int), (30:Int)⟩ : Span)⟩ : RangeRow), (⟨(40:Int), (⟨(90:Int), (120:Int)⟩ : Span)⟩ : RangeRow), (⟨(100:Int), (⟨(250:Int), (300:Int)⟩ : Span)⟩ : RangeRow)])⟩ : (Sl RangeRow))
theorem q61 (K : List PA → Prop) (hk : K (e61 (s61))) : vcFun Try.prog G61 ann61 61 [] K := by
  refine ofEq (f61_top K) ?_
  unfold s61 at hk
  exact (Eq.mpr (congrArg K (congrArg (fun (g_ : Nat → List PV) => ([.one (.sl 3 3 g_)] : List PA)) (getL_enc (enc := enc_42) (x := (⟨(10:Int), (⟨(20:Int), (30:Int)⟩ : Span)⟩ : RangeRow)) (y := (⟨(40:Int), (⟨(90:Int), (120:Int)⟩ : Span)⟩ : RangeRow)) (r := [(⟨(100:Int), (⟨(250:Int), (300:Int)⟩ : Span)⟩ : RangeRow)])))) hk)
def ctr61 : List PA → COut
  | [] => .tot [.one (.sl ((s61).len) 3 (fun i => enc_42 ((s61).get i)))]
  | _ => .no
theorem call61 : Callable Try.prog 61 := ⟨_, rfl, rfl, by kernel_rfl⟩
theorem ok61 : Ok Try.prog 61 ctr61 := ok_tab okT61 call61 fun args K h => by
  unfold ctr61 at h
  split at h
  · have hk := h
    exact ⟨(fun _ _ => []), (fun _ => false), ann61, q61 K hk⟩
  · exact h.elim
abbrev T18 : Tabs := (((((((((Tabs.nil.addF 19 ctr19).addF 20 ctr20).addF 23 ctr23).addF 25 ctr25).addF 26 ctr26).addF 33 ctr33).addF 34 ctr34).addF 60 ctr60).addF 61 ctr61)
theorem okT18 : TabsOk Try.prog T18 := (((((((((TabsOk.nil.addF ok19).addF ok20).addF ok23).addF ok25).addF ok26).addF ok33).addF ok34).addF ok60).addF ok61)
abbrev G18 : Ctrs := csm T18 (fun _ _ => []) (fun _ => false)
def ann18 : Ann := ⟨142, [(0, ⟨[], [], [], [], []⟩), (1, ⟨[1, 2], [1], [], [], []⟩), (2, ⟨[1, 2, 3, 4], [1, 3], [], [], []⟩), (3, ⟨[1, 2, 3, 4, 5, 6], [1, 3, 5], [], [], []⟩), (4, ⟨[1, 2, 3, 4, 5, 6, 7, 8], [1, 3, 5, 7], [], [], []⟩), (5, ⟨[1, 2, 3, 4, 5, 6, 7, 8, 9, 10], [1, 3, 5, 7, 9], [], [], []⟩), (6, ⟨[1, 2, 3, 4, 5, 6, 7, 8, 9, 10, 11, 12], [1, 3, 5, 7, 9], [], [], []⟩), (7, ⟨[3, 4, 5, 6, 7, 8, 9, 10, 11, 12, 13, 14], [3, 5, 7, 9, 13], [], [], []⟩), (8, ⟨[3, 5, 7, 9, 11, 13, 104], [3, 5, 7, 9, 13], [], [], []⟩), (9, ⟨[0], [], [], [], []⟩), (10, ⟨[0], [], [], [], []⟩)],
  [],
  [(2, ⟨[1, 2], [1], [], [], []⟩), (3, ⟨[1, 2, 3, 4], [1, 3], [], [], []⟩), (4, ⟨[1, 2, 3, 4, 5, 6], [1, 3, 5], [], [], []⟩), (5, ⟨[1, 2, 3, 4, 5, 6, 7, 8], [1, 3, 5, 7], [], [], []⟩), (6, ⟨[1, 2, 3, 4, 5, 6, 7, 8, 9, 10], [1, 3, 5, 7, 9], [], [], []⟩), (7, ⟨[1, 2, 3, 4, 5, 6, 7, 8, 9, 10, 11, 12], [1, 3, 5, 7, 9], [], [], []⟩), (8, ⟨[3, 4, 5, 6, 7, 8, 9, 10, 11, 12, 13, 14], [3, 5, 7, 9, 13], [], [], []⟩), (10, ⟨[3, 5, 7, 9, 11, 13], [3, 5, 7, 9, 13], [], [], []⟩)],
  [], []⟩
def f18_g0 (tv0_n : Nat) (tv0_g : Nat → List PV) (s_1v0_n : Nat) (s_1v0_g : Nat → List PV) : St := ⟨[(1, .one (.c (.ptr 1 0))), (2, .one (.c (.p (.sl tv0_n 3 tv0_g))))], [(1, .box 26 [.p (.int .i64 s60.Parts), .p (.sl s_1v0_n 1 s_1v0_g), .p (.int .i64 s60.Beta.Low), .p (.int .i64 s60.Beta.High), .p (.int .i64 s60.Alpha.Low), .p (.int .i64 s60.Alpha.High)])], []⟩
def f18_at0 (K : List PA → Prop) (tv0_n : Nat) (tv0_g : Nat → List PV) (s_1v0_n : Nat) (s_1v0_g : Nat → List PV) : Prop := vc Try.prog G18 ann18 (cdF Try.f18 [1, 1]) (bodyK Try.prog Try.f18 K) (f18_g0 tv0_n tv0_g s_1v0_n s_1v0_g)
def f18_g1 (tv0 : (Sl RangeRow)) (ev1 : Int) (s_1v1_n : Nat) (s_1v1_g : Nat → List PV) (a_0v1 : Int) (a_1v1 : Int) : St := ⟨[(1, .one (.c (.ptr 1 0))), (2, .one (.c (.p (.sl tv0.len 3 (fun i => enc_42 (tv0.get i)))))), (3, .one (.c (.ptr 3 0))), (4, .one (.c (.p (.int .i64 ev1))))], [(1, .box 26 [.p (.int .i64 s60.Parts), .p (.sl s_1v1_n 1 s_1v1_g), .p (.int .i64 s60.Beta.Low), .p (.int .i64 s60.Beta.High), .p (.int .i64 s60.Alpha.Low), .p (.int .i64 s60.Alpha.High)]), (3, .box 24 [.p (.int .i64 a_0v1), .p (.int .i64 a_1v1)])], []⟩
def f18_at1 (K : List PA → Prop) (tv0 : (Sl RangeRow)) (ev1 : Int) (s_1v1_n : Nat) (s_1v1_g : Nat → List PV) (a_0v1 : Int) (a_1v1 : Int) : Prop := vc Try.prog G18 ann18 (cdF Try.f18 [1, 1, 1]) (bodyK Try.prog Try.f18 K) (f18_g1 tv0 ev1 s_1v1_n s_1v1_g a_0v1 a_1v1)
def f18_g2 (tv0 : (Sl RangeRow)) (ev1 : Int) (a_0v1 : Int) (a_1v1 : Int) (fv2 : Int) (s_1v2_n : Nat) (s_1v2_g : Nat → List PV) (b_0v2 : Int) (b_1v2 : Int) : St := ⟨[(1, .one (.c (.ptr 1 0))), (2, .one (.c (.p (.sl tv0.len 3 (fun i => enc_42 (tv0.get i)))))), (3, .one (.c (.ptr 3 0))), (4, .one (.c (.p (.int .i64 ev1)))), (5, .one (.c (.ptr 5 0))), (6, .one (.c (.p (.int .i64 fv2))))], [(1, .box 26 [.p (.int .i64 s60.Parts), .p (.sl s_1v2_n 1 s_1v2_g), .p (.int .i64 s60.Beta.Low), .p (.int .i64 s60.Beta.High), .p (.int .i64 s60.Alpha.Low), .p (.int .i64 s60.Alpha.High)]), (3, .box 24 [.p (.int .i64 a_0v1), .p (.int .i64 a_1v1)]), (5, .box 24 [.p (.int .i64 b_0v2), .p (.int .i64 b_1v2)])], []⟩
def f18_at2 (K : List PA → Prop) (tv0 : (Sl RangeRow)) (ev1 : Int) (a_0v1 : Int) (a_1v1 : Int) (fv2 : Int) (s_1v2_n : Nat) (s_1v2_g : Nat → List PV) (b_0v2 : Int) (b_1v2 : Int) : Prop := vc Try.prog G18 ann18 (cdF Try.f18 [1, 1, 1, 1]) (bodyK Try.prog Try.f18 K) (f18_g2 tv0 ev1 a_0v1 a_1v1 fv2 s_1v2_n s_1v2_g b_0v2 b_1v2)
def f18_g3 (tv0 : (Sl RangeRow)) (ev1 : Int) (a_0v1 : Int) (a_1v1 : Int) (fv2 : Int) (b_0v2 : Int) (b_1v2 : Int) (gv3 : Int) (s_1v3_n : Nat) (s_1v3_g : Nat → List PV) (c_0v3 : Int) (c_1v3 : Int) : St := ⟨[(1, .one (.c (.ptr 1 0))), (2, .one (.c (.p (.sl tv0.len 3 (fun i => enc_42 (tv0.get i)))))), (3, .one (.c (.ptr 3 0))), (4, .one (.c (.p (.int .i64 ev1)))), (5, .one (.c (.ptr 5 0))), (6, .one (.c (.p (.int .i64 fv2)))), (7, .one (.c (.ptr 7 0))), (8, .one (.c (.p (.int .i64 gv3))))], [(1, .box 26 [.p (.int .i64 s60.Parts), .p (.sl s_1v3_n 1 s_1v3_g), .p (.int .i64 s60.Beta.Low), .p (.int .i64 s60.Beta.High), .p (.int .i64 s60.Alpha.Low), .p (.int .i64 s60.Alpha.High)]), (3, .box 24 [.p (.int .i64 a_0v1), .p (.int .i64 a_1v1)]), (5, .box 24 [.p (.int .i64 b_0v2), .p (.int .i64 b_1v2)]), (7, .box 24 [.p (.int .i64 c_0v3), .p (.int .i64 c_1v3)])], []⟩
def f18_at3 (K : List PA → Prop) (tv0 : (Sl RangeRow)) (ev1 : Int) (a_0v1 : Int) (a_1v1 : Int) (fv2 : Int) (b_0v2 : Int) (b_1v2 : Int) (gv3 : Int) (s_1v3_n : Nat) (s_1v3_g : Nat → List PV) (c_0v3 : Int) (c_1v3 : Int) : Prop := vc Try.prog G18 ann18 (cdF Try.f18 [1, 1, 1, 1, 1]) (bodyK Try.prog Try.f18 K) (f18_g3 tv0 ev1 a_0v1 a_1v1 fv2 b_0v2 b_1v2 gv3 s_1v3_n s_1v3_g c_0v3 c_1v3)
def f18_g4 (tv0 : (Sl RangeRow)) (ev1 : Int) (a_0v1 : Int) (a_1v1 : Int) (fv2 : Int) (b_0v2 : Int) (b_1v2 : Int) (gv3 : Int) (c_0v3 : Int) (c_1v3 : Int) (hv4 : Int) (s_1v4_n : Nat) (s_1v4_g : Nat → List PV) (d_0v4 : Int) (d_1v4 : Int) : St := ⟨[(1, .one (.c (.ptr 1 0))), (2, .one (.c (.p (.sl tv0.len 3 (fun i => enc_42 (tv0.get i)))))), (3, .one (.c (.ptr 3 0))), (4, .one (.c (.p (.int .i64 ev1)))), (5, .one (.c (.ptr 5 0))), (6, .one (.c (.p (.int .i64 fv2)))), (7, .one (.c (.ptr 7 0))), (8, .one (.c (.p (.int .i64 gv3)))), (9, .one (.c (.ptr 9 0))), (10, .one (.c (.p (.int .i64 hv4))))], [(1, .box 26 [.p (.int .i64 s60.Parts), .p (.sl s_1v4_n 1 s_1v4_g), .p (.int .i64 s60.Beta.Low), .p (.int .i64 s60.Beta.High), .p (.int .i64 s60.Alpha.Low), .p (.int .i64 s60.Alpha.High)]), (3, .box 24 [.p (.int .i64 a_0v1), .p (.int .i64 a_1v1)]), (5, .box 24 [.p (.int .i64 b_0v2), .p (.int .i64 b_1v2)]), (7, .box 24 [.p (.int .i64 c_0v3), .p (.int .i64 c_1v3)]), (9, .box 24 [.p (.int .i64 d_0v4), .p (.int .i64 d_1v4)])], []⟩
def f18_at4 (K : List PA → Prop) (tv0 : (Sl RangeRow)) (ev1 : Int) (a_0v1 : Int) (a_1v1 : Int) (fv2 : Int) (b_0v2 : Int) (b_1v2 : Int) (gv3 : Int) (c_0v3 : Int) (c_1v3 : Int) (hv4 : Int) (s_1v4_n : Nat) (s_1v4_g : Nat → List PV) (d_0v4 : Int) (d_1v4 : Int) : Prop := vc Try.prog G18 ann18 (cdF Try.f18 [1, 1, 1, 1, 1, 1]) (bodyK Try.prog Try.f18 K) (f18_g4 tv0 ev1 a_0v1 a_1v1 fv2 b_0v2 b_1v2 gv3 c_0v3 c_1v3 hv4 s_1v4_n s_1v4_g d_0v4 d_1v4)
def f18_g5 (tv0 : (Sl RangeRow)) (ev1 : Int) (a_0v1 : Int) (a_1v1 : Int) (fv2 : Int) (b_0v2 : Int) (b_1v2 : Int) (gv3 : Int) (c_0v3 : Int) (c_1v3 : Int) (hv4 : Int) (d_0v4 : Int) (d_1v4 : Int) (lv5_n : Nat) (lv5_g : Nat → List PV) (iv5 : Int) (s_1v5_n : Nat) (s_1v5_g : Nat → List PV) : St := ⟨[(1, .one (.c (.ptr 1 0))), (2, .one (.c (.p (.sl tv0.len 3 (fun i => enc_42 (tv0.get i)))))), (3, .one (.c (.ptr 3 0))), (4, .one (.c (.p (.int .i64 ev1)))), (5, .one (.c (.ptr 5 0))), (6, .one (.c (.p (.int .i64 fv2)))), (7, .one (.c (.ptr 7 0))), (8, .one (.c (.p (.int .i64 gv3)))), (9, .one (.c (.ptr 9 0))), (10, .one (.c (.p (.int .i64 hv4)))), (11, .one (.c (.p (.sl lv5_n 3 lv5_g)))), (12, .one (.c (.p (.int .i64 iv5))))], [(1, .box 26 [.p (.int .i64 s60.Parts), .p (.sl s_1v5_n 1 s_1v5_g), .p (.int .i64 s60.Beta.Low), .p (.int .i64 s60.Beta.High), .p (.int .i64 s60.Alpha.Low), .p (.int .i64 s60.Alpha.High)]), (3, .box 24 [.p (.int .i64 a_0v1), .p (.int .i64 a_1v1)]), (5, .box 24 [.p (.int .i64 b_0v2), .p (.int .i64 b_1v2)]), (7, .box 24 [.p (.int .i64 c_0v3), .p (.int .i64 c_1v3)]), (9, .box 24 [.p (.int .i64 d_0v4), .p (.int .i64 d_1v4)])], []⟩
def f18_at5 (K : List PA → Prop) (tv0 : (Sl RangeRow)) (ev1 : Int) (a_0v1 : Int) (a_1v1 : Int) (fv2 : Int) (b_0v2 : Int) (b_1v2 : Int) (gv3 : Int) (c_0v3 : Int) (c_1v3 : Int) (hv4 : Int) (d_0v4 : Int) (d_1v4 : Int) (lv5_n : Nat) (lv5_g : Nat → List PV) (iv5 : Int) (s_1v5_n : Nat) (s_1v5_g : Nat → List PV) : Prop := vc Try.prog G18 ann18 (cdF Try.f18 [1, 1, 1, 1, 1, 1, 1]) (bodyK Try.prog Try.f18 K) (f18_g5 tv0 ev1 a_0v1 a_1v1 fv2 b_0v2 b_1v2 gv3 c_0v3 c_1v3 hv4 d_0v4 d_1v4 lv5_n lv5_g iv5 s_1v5_n s_1v5_g)
def f18_g6 (ev1 : Int) (a_0v1 : Int) (a_1v1 : Int) (fv2 : Int) (b_0v2 : Int) (b_1v2 : Int) (gv3 : Int) (c_0v3 : Int) (c_1v3 : Int) (hv4 : Int) (d_0v4 : Int) (d_1v4 : Int) (lv5 : (Sl FluxStep)) (iv5 : Int) (jv6 : Int) (x_0v6 : Int) (x_1v6_n : Nat) (x_1v6_g : Nat → List PV) (x_2v6 : Int) (x_3v6 : Int) (x_4v6 : Int) (x_5v6 : Int) : St := ⟨[(3, .one (.c (.ptr 3 0))), (4, .one (.c (.p (.int .i64 ev1)))), (5, .one (.c (.ptr 5 0))), (6, .one (.c (.p (.int .i64 fv2)))), (7, .one (.c (.ptr 7 0))), (8, .one (.c (.p (.int .i64 gv3)))), (9, .one (.c (.ptr 9 0))), (10, .one (.c (.p (.int .i64 hv4)))), (11, .one (.c (.p (.sl lv5.len 3 (fun i => enc_69 (lv5.get i)))))), (12, .one (.c (.p (.int .i64 iv5)))), (13, .one (.c (.ptr 13 0))), (14, .one (.c (.p (.int .i64 jv6))))], [(3, .box 24 [.p (.int .i64 a_0v1), .p (.int .i64 a_1v1)]), (5, .box 24 [.p (.int .i64 b_0v2), .p (.int .i64 b_1v2)]), (7, .box 24 [.p (.int .i64 c_0v3), .p (.int .i64 c_1v3)]), (9, .box 24 [.p (.int .i64 d_0v4), .p (.int .i64 d_1v4)]), (13, .box 26 [.p (.int .i64 x_0v6), .p (.sl x_1v6_n 1 x_1v6_g), .p (.int .i64 x_2v6), .p (.int .i64 x_3v6), .p (.int .i64 x_4v6), .p (.int .i64 x_5v6)])], []⟩
def f18_at6 (K : List PA → Prop) (ev1 : Int) (a_0v1 : Int) (a_1v1 : Int) (fv2 : Int) (b_0v2 : Int) (b_1v2 : Int) (gv3 : Int) (c_0v3 : Int) (c_1v3 : Int) (hv4 : Int) (d_0v4 : Int) (d_1v4 : Int) (lv5 : (Sl FluxStep)) (iv5 : Int) (jv6 : Int) (x_0v6 : Int) (x_1v6_n : Nat) (x_1v6_g : Nat → List PV) (x_2v6 : Int) (x_3v6 : Int) (x_4v6 : Int) (x_5v6 : Int) : Prop := vc Try.prog G18 ann18 (cdF Try.f18 [1, 1, 1, 1, 1, 1, 1, 1]) (bodyK Try.prog Try.f18 K) (f18_g6 ev1 a_0v1 a_1v1 fv2 b_0v2 b_1v2 gv3 c_0v3 c_1v3 hv4 d_0v4 d_1v4 lv5 iv5 jv6 x_0v6 x_1v6_n x_1v6_g x_2v6 x_3v6 x_4v6 x_5v6)
def f18_g7 (a_0v1 : Int) (a_1v1 : Int) (b_0v2 : Int) (b_1v2 : Int) (c_0v3 : Int) (c_1v3 : Int) (d_0v4 : Int) (d_1v4 : Int) (lv5 : (Sl FluxStep)) (x_0v6 : Int) (x_1v6 : (Sl (Sl FluxRow))) (x_2v6 : Int) (x_3v6 : Int) (x_4v6 : Int) (x_5v6 : Int) : St := ⟨[(3, .one (.c (.ptr 3 0))), (5, .one (.c (.ptr 5 0))), (7, .one (.c (.ptr 7 0))), (9, .one (.c (.ptr 9 0))), (11, .one (.c (.p (.sl lv5.len 3 (fun i => enc_69 (lv5.get i)))))), (13, .one (.c (.ptr 13 0)))], [(3, .box 24 [.p (.int .i64 a_0v1), .p (.int .i64 a_1v1)]), (5, .box 24 [.p (.int .i64 b_0v2), .p (.int .i64 b_1v2)]), (7, .box 24 [.p (.int .i64 c_0v3), .p (.int .i64 c_1v3)]), (9, .box 24 [.p (.int .i64 d_0v4), .p (.int .i64 d_1v4)]), (13, .box 26 [.p (.int .i64 x_0v6), .p (.sl x_1v6.len 1 (fun i => enc_32 (x_1v6.get i))), .p (.int .i64 x_2v6), .p (.int .i64 x_3v6), .p (.int .i64 x_4v6), .p (.int .i64 x_5v6)])], []⟩
def f18_at7 (K : List PA → Prop) (a_0v1 : Int) (a_1v1 : Int) (b_0v2 : Int) (b_1v2 : Int) (c_0v3 : Int) (c_1v3 : Int) (d_0v4 : Int) (d_1v4 : Int) (lv5 : (Sl FluxStep)) (x_0v6 : Int) (x_1v6 : (Sl (Sl FluxRow))) (x_2v6 : Int) (x_3v6 : Int) (x_4v6 : Int) (x_5v6 : Int) : Prop := vc Try.prog G18 ann18 (cdF Try.f18 [1, 1, 1, 1, 1, 1, 1, 1, 1]) (bodyK Try.prog Try.f18 K) (f18_g7 a_0v1 a_1v1 b_0v2 b_1v2 c_0v3 c_1v3 d_0v4 d_1v4 lv5 x_0v6 x_1v6 x_2v6 x_3v6 x_4v6 x_5v6)
theorem f18_top (K : List PA → Prop) :
  vcFun Try.prog G18 ann18 18 [] K =
  (f18_at0 K s61.len (fun i => enc_42 (s61.get i)) s60.Bins.len (fun i => enc_32 (s60.Bins.get i))) := by kernel_rfl
theorem f18_eq0 (K : List PA → Prop) (tv0 : (Sl RangeRow)) (s_1v0 : (Sl (Sl FluxRow))) :
  f18_at0 K tv0.len (fun i => enc_42 (tv0.get i)) s_1v0.len (fun i => enc_32 (s_1v0.get i)) =
  ((IsE enc_42 3 3 (fun i => enc_42 (tv0.get i)) ∧ (p19 tv0 (100:Int) = true)) ∧
  (f18_at1 K tv0 ((s19 tv0 (100:Int)).2) s_1v0.len (fun i => enc_32 (s_1v0.get i)) (((s19 tv0 (100:Int)).1).Low) (((s19 tv0 (100:Int)).1).High))) := by kernel_rfl
theorem f18_eq1 (K : List PA → Prop) (tv0 : (Sl RangeRow)) (ev1 : Int) (s_1v1 : (Sl (Sl FluxRow))) (a_0v1 : Int) (a_1v1 : Int) :
  f18_at1 K tv0 ev1 s_1v1.len (fun i => enc_32 (s_1v1.get i)) a_0v1 a_1v1 =
  ((IsE enc_32 1 1 (fun i => enc_32 (s_1v1.get i)) ∧ IsE enc_42 3 3 (fun i => enc_42 (tv0.get i)) ∧ (p20 (⟨s60.Parts, s_1v1, s60.Beta, s60.Alpha⟩ : Sky) tv0 (0:Int) (280:Int) = true)) ∧
  (f18_at2 K tv0 ev1 a_0v1 a_1v1 ((s20 (⟨s60.Parts, s_1v1, s60.Beta, s60.Alpha⟩ : Sky) tv0 (0:Int) (280:Int)).2) s_1v1.len (fun i => enc_32 (s_1v1.get i)) (((s20 (⟨s60.Parts, s_1v1, s60.Beta, s60.Alpha⟩ : Sky) tv0 (0:Int) (280:Int)).1).Low) (((s20 (⟨s60.Parts, s_1v1, s60.Beta, s60.Alpha⟩ : Sky) tv0 (0:Int) (280:Int)).1).High))) := by kernel_rfl
theorem f18_eq2 (K : List PA → Prop) (tv0 : (Sl RangeRow)) (ev1 : Int) (a_0v1 : Int) (a_1v1 : Int) (fv2 : Int) (s_1v2 : (Sl (Sl FluxRow))) (b_0v2 : Int) (b_1v2 : Int) :
  f18_at2 K tv0 ev1 a_0v1 a_1v1 fv2 s_1v2.len (fun i => enc_32 (s_1v2.get i)) b_0v2 b_1v2 =
  ((IsE enc_32 1 1 (fun i => enc_32 (s_1v2.get i)) ∧ IsE enc_42 3 3 (fun i => enc_42 (tv0.get i)) ∧ IsE enc_56 5 5 (getL [(enc_56 (s34 (3:Int))), (enc_56 (⟨(1:Int), (⟨(⟨(-10:Int), (20:Int)⟩ : Span), (⟨(0:Int), (5:Int)⟩ : Span)⟩ : Weather)⟩ : Spell))]) ∧ (p23 (⟨s60.Parts, s_1v2, s60.Beta, s60.Alpha⟩ : Sky) tv0 (0:Int) (100:Int) (⟨2, decF_56 (getL [(enc_56 (s34 (3:Int))), (enc_56 (⟨(1:Int), (⟨(⟨(-10:Int), (20:Int)⟩ : Span), (⟨(0:Int), (5:Int)⟩ : Span)⟩ : Weather)⟩ : Spell))])⟩ : (Sl Spell)) = true)) ∧
  (f18_at3 K tv0 ev1 a_0v1 a_1v1 fv2 b_0v2 b_1v2 ((s23 (⟨s60.Parts, s_1v2, s60.Beta, s60.Alpha⟩ : Sky) tv0 (0:Int) (100:Int) (⟨2, decF_56 (getL [(enc_56 (s34 (3:Int))), (enc_56 (⟨(1:Int), (⟨(⟨(-10:Int), (20:Int)⟩ : Span), (⟨(0:Int), (5:Int)⟩ : Span)⟩ : Weather)⟩ : Spell))])⟩ : (Sl Spell))).2) s_1v2.len (fun i => enc_32 (s_1v2.get i)) (((s23 (⟨s60.Parts, s_1v2, s60.Beta, s60.Alpha⟩ : Sky) tv0 (0:Int) (100:Int) (⟨2, decF_56 (getL [(enc_56 (s34 (3:Int))), (enc_56 (⟨(1:Int), (⟨(⟨(-10:Int), (20:Int)⟩ : Span), (⟨(0:Int), (5:Int)⟩ : Span)⟩ : Weather)⟩ : Spell))])⟩ : (Sl Spell))).1).Low) (((s23 (⟨s60.Parts, s_1v2, s60.Beta, s60.Alpha⟩ : Sky) tv0 (0:Int) (100:Int) (⟨2, decF_56 (getL [(enc_56 (s34 (3:Int))), (enc_56 (⟨(1:Int), (⟨(⟨(-10:Int), (20:Int)⟩ : Span), (⟨(0:Int), (5:Int)⟩ : Span)⟩ : Weather)⟩ : Spell))])⟩ : (Sl Spell))).1).High))) := by kernel_rfl
theorem f18_eq3 (K : List PA → Prop) (tv0 : (Sl RangeRow)) (ev1 : Int) (a_0v1 : Int) (a_1v1 : Int) (fv2 : Int) (b_0v2 : Int) (b_1v2 : Int) (gv3 : Int) (s_1v3 : (Sl (Sl FluxRow))) (c_0v3 : Int) (c_1v3 : Int) :
  f18_at3 K tv0 ev1 a_0v1 a_1v1 fv2 b_0v2 b_1v2 gv3 s_1v3.len (fun i => enc_32 (s_1v3.get i)) c_0v3 c_1v3 =
  ((IsE enc_32 1 1 (fun i => enc_32 (s_1v3.get i)) ∧ IsE enc_42 3 3 (fun i => enc_42 (tv0.get i)) ∧ IsE enc_56 5 5 (fun _ => (enc_56 (s34 (1:Int)))) ∧ (p25 (⟨s60.Parts, s_1v3, s60.Beta, s60.Alpha⟩ : Sky) tv0 (0:Int) (⟨(261:Int), (270:Int)⟩ : Span) (⟨1, fun _ => (s34 (1:Int))⟩ : (Sl Spell)) = true)) ∧
  (f18_at4 K tv0 ev1 a_0v1 a_1v1 fv2 b_0v2 b_1v2 gv3 c_0v3 c_1v3 ((s25 (⟨s60.Parts, s_1v3, s60.Beta, s60.Alpha⟩ : Sky) tv0 (0:Int) (⟨(261:Int), (270:Int)⟩ : Span) (⟨1, fun _ => (s34 (1:Int))⟩ : (Sl Spell))).2) s_1v3.len (fun i => enc_32 (s_1v3.get i)) (((s25 (⟨s60.Parts, s_1v3, s60.Beta, s60.Alpha⟩ : Sky) tv0 (0:Int) (⟨(261:Int), (270:Int)⟩ : Span) (⟨1, fun _ => (s34 (1:Int))⟩ : (Sl Spell))).1).Low) (((s25 (⟨s60.Parts, s_1v3, s60.Beta, s60.Alpha⟩ : Sky) tv0 (0:Int) (⟨(261:Int), (270:Int)⟩ : Span) (⟨1, fun _ => (s34 (1:Int))⟩ : (Sl Spell))).1).High))) := by kernel_rfl
theorem f18_eq4 (K : List PA → Prop) (tv0 : (Sl RangeRow)) (ev1 : Int) (a_0v1 : Int) (a_1v1 : Int) (fv2 : Int) (b_0v2 : Int) (b_1v2 : Int) (gv3 : Int) (c_0v3 : Int) (c_1v3 : Int) (hv4 : Int) (s_1v4 : (Sl (Sl FluxRow))) (d_0v4 : Int) (d_1v4 : Int) :
  f18_at4 K tv0 ev1 a_0v1 a_1v1 fv2 b_0v2 b_1v2 gv3 c_0v3 c_1v3 hv4 s_1v4.len (fun i => enc_32 (s_1v4.get i)) d_0v4 d_1v4 =
  ((IsE enc_32 1 1 (fun i => enc_32 (s_1v4.get i)) ∧ IsE enc_42 3 3 (fun i => enc_42 (tv0.get i)) ∧ IsE enc_56 5 5 (fun _ => (enc_56 (s34 (1:Int)))) ∧ (p26 (⟨s60.Parts, s_1v4, s60.Beta, s60.Alpha⟩ : Sky) tv0 (0:Int) (⟨1, fun _ => (s34 (1:Int))⟩ : (Sl Spell)) = true)) ∧
  (f18_at5 K tv0 ev1 a_0v1 a_1v1 fv2 b_0v2 b_1v2 gv3 c_0v3 c_1v3 hv4 d_0v4 d_1v4 (((s26 (⟨s60.Parts, s_1v4, s60.Beta, s60.Alpha⟩ : Sky) tv0 (0:Int) (⟨1, fun _ => (s34 (1:Int))⟩ : (Sl Spell))).1).len) (fun i => enc_69 (((s26 (⟨s60.Parts, s_1v4, s60.Beta, s60.Alpha⟩ : Sky) tv0 (0:Int) (⟨1, fun _ => (s34 (1:Int))⟩ : (Sl Spell))).1).get i)) ((s26 (⟨s60.Parts, s_1v4, s60.Beta, s60.Alpha⟩ : Sky) tv0 (0:Int) (⟨1, fun _ => (s34 (1:Int))⟩ : (Sl Spell))).2) s_1v4.len (fun i => enc_32 (s_1v4.get i)))) := by kernel_rfl
theorem f18_eq5 (K : List PA → Prop) (tv0 : (Sl RangeRow)) (ev1 : Int) (a_0v1 : Int) (a_1v1 : Int) (fv2 : Int) (b_0v2 : Int) (b_1v2 : Int) (gv3 : Int) (c_0v3 : Int) (c_1v3 : Int) (hv4 : Int) (d_0v4 : Int) (d_1v4 : Int) (lv5 : (Sl FluxStep)) (iv5 : Int) (s_1v5 : (Sl (Sl FluxRow))) :
  f18_at5 K tv0 ev1 a_0v1 a_1v1 fv2 b_0v2 b_1v2 gv3 c_0v3 c_1v3 hv4 d_0v4 d_1v4 lv5.len (fun i => enc_69 (lv5.get i)) iv5 s_1v5.len (fun i => enc_32 (s_1v5.get i)) =
  ((IsE enc_32 1 1 (fun i => enc_32 (s_1v5.get i)) ∧ IsE enc_42 3 3 (fun i => enc_42 (tv0.get i)) ∧ (p33 (⟨s60.Parts, s_1v5, s60.Beta, s60.Alpha⟩ : Sky) tv0 (0:Int) (100:Int) (⟨(10:Int), (25:Int)⟩ : Span) = true)) ∧
  (f18_at6 K ev1 a_0v1 a_1v1 fv2 b_0v2 b_1v2 gv3 c_0v3 c_1v3 hv4 d_0v4 d_1v4 lv5 iv5 ((s33 (⟨s60.Parts, s_1v5, s60.Beta, s60.Alpha⟩ : Sky) tv0 (0:Int) (100:Int) (⟨(10:Int), (25:Int)⟩ : Span)).2) (((s33 (⟨s60.Parts, s_1v5, s60.Beta, s60.Alpha⟩ : Sky) tv0 (0:Int) (100:Int) (⟨(10:Int), (25:Int)⟩ : Span)).1).Parts) (((s33 (⟨s60.Parts, s_1v5, s60.Beta, s60.Alpha⟩ : Sky) tv0 (0:Int) (100:Int) (⟨(10:Int), (25:Int)⟩ : Span)).1).Bins.len) (fun i => enc_32 (((s33 (⟨s60.Parts, s_1v5, s60.Beta, s60.Alpha⟩ : Sky) tv0 (0:Int) (100:Int) (⟨(10:Int), (25:Int)⟩ : Span)).1).Bins.get i)) (((s33 (⟨s60.Parts, s_1v5, s60.Beta, s60.Alpha⟩ : Sky) tv0 (0:Int) (100:Int) (⟨(10:Int), (25:Int)⟩ : Span)).1).Beta.Low) (((s33 (⟨s60.Parts, s_1v5, s60.Beta, s60.Alpha⟩ : Sky) tv0 (0:Int) (100:Int) (⟨(10:Int), (25:Int)⟩ : Span)).1).Beta.High) (((s33 (⟨s60.Parts, s_1v5, s60.Beta, s60.Alpha⟩ : Sky) tv0 (0:Int) (100:Int) (⟨(10:Int), (25:Int)⟩ : Span)).1).Alpha.Low) (((s33 (⟨s60.Parts, s_1v5, s60.Beta, s60.Alpha⟩ : Sky) tv0 (0:Int) (100:Int) (⟨(10:Int), (25:Int)⟩ : Span)).1).Alpha.High))) := by kernel_rfl
theorem f18_eq6 (K : List PA → Prop) (ev1 : Int) (a_0v1 : Int) (a_1v1 : Int) (fv2 : Int) (b_0v2 : Int) (b_1v2 : Int) (gv3 : Int) (c_0v3 : Int) (c_1v3 : Int) (hv4 : Int) (d_0v4 : Int) (d_1v4 : Int) (lv5 : (Sl FluxStep)) (iv5 : Int) (jv6 : Int) (x_0v6 : Int) (x_1v6 : (Sl (Sl FluxRow))) (x_2v6 : Int) (x_3v6 : Int) (x_4v6 : Int) (x_5v6 : Int) :
  f18_at6 K ev1 a_0v1 a_1v1 fv2 b_0v2 b_1v2 gv3 c_0v3 c_1v3 hv4 d_0v4 d_1v4 lv5 iv5 jv6 x_0v6 x_1v6.len (fun i => enc_32 (x_1v6.get i)) x_2v6 x_3v6 x_4v6 x_5v6 =
  (condP (ev1 != (0:Int))
   (K [.one (.bool false)])
   (condP (fv2 != (0:Int))
    (K [.one (.bool false)])
    (condP (gv3 != (0:Int))
     (K [.one (.bool false)])
     (condP (hv4 != (0:Int))
      (K [.one (.bool false)])
      (condP (iv5 != (0:Int))
       (K [.one (.bool false)])
       (condP (jv6 != (0:Int))
        (K [.one (.bool false)])
        (condP ((lv5.len : Int) != (7:Int))
         (K [.one (.bool false)])
         (condP ((x_1v6.len : Int) != (1:Int))
          (K [.one (.bool false)])
          (((0 ≤ (0:Int) ∧ (0:Int) < (x_1v6.len : Int))) ∧
          (condP (((x_1v6.get 0).len : Int) != (4:Int))
           (K [.one (.bool false)])
           (f18_at7 K a_0v1 a_1v1 b_0v2 b_1v2 c_0v3 c_1v3 d_0v4 d_1v4 lv5 x_0v6 x_1v6 x_2v6 x_3v6 x_4v6 x_5v6))))))))))) := by kernel_rfl
theorem f18_eq7 (K : List PA → Prop) (a_0v1 : Int) (a_1v1 : Int) (b_0v2 : Int) (b_1v2 : Int) (c_0v3 : Int) (c_1v3 : Int) (d_0v4 : Int) (d_1v4 : Int) (lv5 : (Sl FluxStep)) (x_0v6 : Int) (x_1v6 : (Sl (Sl FluxRow))) (x_2v6 : Int) (x_3v6 : Int) (x_4v6 : Int) (x_5v6 : Int) :
  f18_at7 K a_0v1 a_1v1 b_0v2 b_1v2 c_0v3 c_1v3 d_0v4 d_1v4 lv5 x_0v6 x_1v6 x_2v6 x_3v6 x_4v6 x_5v6 =
  (condP (match (a_0v1 == (11:Int)) with | true => (match (a_1v1 == (100:Int)) with | true => true | false => false) | false => false)
   (condP (match (b_0v2 == (0:Int)) with | true => (match (b_1v2 == (260:Int)) with | true => true | false => false) | false => false)
    (condP (match (c_0v3 == (19:Int)) with | true => (match (c_1v3 == (505:Int)) with | true => true | false => false) | false => false)
     (condP (match (d_0v4 == (1:Int)) with | true => (match (d_1v4 == (120:Int)) with | true => true | false => false) | false => false)
      (((0 ≤ (4:Int) ∧ (4:Int) < (lv5.len : Int))) ∧
      (condP (match ((lv5.get 4).From == (121:Int)) with | true => (match (match ((lv5.get 4).Rate.Low == (20:Int)) with | true => (match ((lv5.get 4).Rate.High == (260:Int)) with | true => true | false => false) | false => false) with | true => true | false => false) | false => false)
       (((0 ≤ (0:Int) ∧ (0:Int) < (x_1v6.len : Int))) ∧
       (((0 ≤ (3:Int) ∧ (3:Int) < ((x_1v6.get 0).len : Int))) ∧
       (K [.one (.bool (match (((x_1v6.get 0).get 3).Rate.Low == (20:Int)) with | true => (match (((x_1v6.get 0).get 3).Rate.High == (25:Int)) with | true => true | false => false) | false => false))])))
       (K [.one (.bool false)])))
      (K [.one (.bool false)]))
     (K [.one (.bool false)]))
    (K [.one (.bool false)]))
   (K [.one (.bool false)])) := by kernel_rfl
abbrev R18 := Bool
abbrev e18 (r : Bool) : List PA := [.one (.bool r)]
attribute [irreducible] f18_at0 f18_at1 f18_at2 f18_at3 f18_at4 f18_at5 f18_at6 f18_at7
def s18_at7 (a_0v1 : Int) (a_1v1 : Int) (b_0v2 : Int) (b_1v2 : Int) (c_0v3 : Int) (c_1v3 : Int) (d_0v4 : Int) (d_1v4 : Int) (lv5 : (Sl FluxStep)) (x_0v6 : Int) (x_1v6 : (Sl (Sl FluxRow))) (x_2v6 : Int) (x_3v6 : Int) (x_4v6 : Int) (x_5v6 : Int) : Bool :=
  (cond (match (a_0v1 == (11:Int)) with | true => (match (a_1v1 == (100:Int)) with | true => true | false => false) | false => false)
   (cond (match (b_0v2 == (0:Int)) with | true => (match (b_1v2 == (260:Int)) with | true => true | false => false) | false => false)
    (cond (match (c_0v3 == (19:Int)) with | true => (match (c_1v3 == (505:Int)) with | true => true | false => false) | false => false)
     (cond (match (d_0v4 == (1:Int)) with | true => (match (d_1v4 == (120:Int)) with | true => true | false => false) | false => false)
      (cond (match ((lv5.get 4).From == (121:Int)) with | true => (match (match ((lv5.get 4).Rate.Low == (20:Int)) with | true => (match ((lv5.get 4).Rate.High == (260:Int)) with | true => true | false => false) | false => false) with | true => true | false => false) | false => false)
       (match (((x_1v6.get 0).get 3).Rate.Low == (20:Int)) with | true => (match (((x_1v6.get 0).get 3).Rate.High == (25:Int)) with | true => true | false => false) | false => false)
       false)
      false)
     false)
    false)
   false)
def p18_at7 (a_0v1 : Int) (a_1v1 : Int) (b_0v2 : Int) (b_1v2 : Int) (c_0v3 : Int) (c_1v3 : Int) (d_0v4 : Int) (d_1v4 : Int) (lv5 : (Sl FluxStep)) (x_0v6 : Int) (x_1v6 : (Sl (Sl FluxRow))) (x_2v6 : Int) (x_3v6 : Int) (x_4v6 : Int) (x_5v6 : Int) : Bool :=
  (cond (match (a_0v1 == (11:Int)) with | true => (match (a_1v1 == (100:Int)) with | true => true | false => false) | false => false)
   (cond (match (b_0v2 == (0:Int)) with | true => (match (b_1v2 == (260:Int)) with | true => true | false => false) | false => false)
    (cond (match (c_0v3 == (19:Int)) with | true => (match (c_1v3 == (505:Int)) with | true => true | false => false) | false => false)
     (cond (match (d_0v4 == (1:Int)) with | true => (match (d_1v4 == (120:Int)) with | true => true | false => false) | false => false)
      (decide ((0 ≤ (4:Int) ∧ (4:Int) < (lv5.len : Int))) &&
      (cond (match ((lv5.get 4).From == (121:Int)) with | true => (match (match ((lv5.get 4).Rate.Low == (20:Int)) with | true => (match ((lv5.get 4).Rate.High == (260:Int)) with | true => true | false => false) | false => false) with | true => true | false => false) | false => false)
       (decide ((0 ≤ (0:Int) ∧ (0:Int) < (x_1v6.len : Int))) &&
       (decide ((0 ≤ (3:Int) ∧ (3:Int) < ((x_1v6.get 0).len : Int))) &&
       true))
       true))
      true)
     true)
    true)
   true)
theorem q18_at7 (K : List PA → Prop) (a_0v1 : Int) (a_1v1 : Int) (b_0v2 : Int) (b_1v2 : Int) (c_0v3 : Int) (c_1v3 : Int) (d_0v4 : Int) (d_1v4 : Int) (lv5 : (Sl FluxStep)) (x_0v6 : Int) (x_1v6 : (Sl (Sl FluxRow))) (x_2v6 : Int) (x_3v6 : Int) (x_4v6 : Int) (x_5v6 : Int) (hs : p18_at7 a_0v1 a_1v1 b_0v2 b_1v2 c_0v3 c_1v3 d_0v4 d_1v4 lv5 x_0v6 x_1v6 x_2v6 x_3v6 x_4v6 x_5v6 = true) (hk : K (e18 (s18_at7 a_0v1 a_1v1 b_0v2 b_1v2 c_0v3 c_1v3 d_0v4 d_1v4 lv5 x_0v6 x_1v6 x_2v6 x_3v6 x_4v6 x_5v6))) : f18_at7 K a_0v1 a_1v1 b_0v2 b_1v2 c_0v3 c_1v3 d_0v4 d_1v4 lv5 x_0v6 x_1v6 x_2v6 x_3v6 x_4v6 x_5v6 := by
  refine ofEq (f18_eq7 K a_0v1 a_1v1 b_0v2 b_1v2 c_0v3 c_1v3 d_0v4 d_1v4 lv5 x_0v6 x_1v6 x_2v6 x_3v6 x_4v6 x_5v6) ?_
  unfold p18_at7 at hs
  unfold s18_at7 at hk
  exact (condB_go (K := fun r => K (e18 r))
   (fun hs hk => (condB_go (K := fun r => K (e18 r))
    (fun hs hk => (condB_go (K := fun r => K (e18 r))
     (fun hs hk => (condB_go (K := fun r => K (e18 r))
      (fun hs hk => (andK hs fun hc hs => ⟨hc, (condB_go (K := fun r => K (e18 r))
       (fun hs hk => (andK hs fun hc hs => ⟨hc, (andK hs fun hc hs => ⟨hc, hk⟩)⟩))
       (fun hs hk => hk) hs hk)⟩))
      (fun hs hk => hk) hs hk))
     (fun hs hk => hk) hs hk))
    (fun hs hk => hk) hs hk))
   (fun hs hk => hk) hs hk)
def s18_at6 (ev1 : Int) (a_0v1 : Int) (a_1v1 : Int) (fv2 : Int) (b_0v2 : Int) (b_1v2 : Int) (gv3 : Int) (c_0v3 : Int) (c_1v3 : Int) (hv4 : Int) (d_0v4 : Int) (d_1v4 : Int) (lv5 : (Sl FluxStep)) (iv5 : Int) (jv6 : Int) (x_0v6 : Int) (x_1v6 : (Sl (Sl FluxRow))) (x_2v6 : Int) (x_3v6 : Int) (x_4v6 : Int) (x_5v6 : Int) : Bool :=
  (cond (ev1 != (0:Int))
   false
   (cond (fv2 != (0:Int))
    false
    (cond (gv3 != (0:Int))
     false
     (cond (hv4 != (0:Int))
      false
      (cond (iv5 != (0:Int))
       false
       (cond (jv6 != (0:Int))
        false
        (cond ((lv5.len : Int) != (7:Int))
         false
         (cond ((x_1v6.len : Int) != (1:Int))
          false
          (cond (((x_1v6.get 0).len : Int) != (4:Int))
           false
           (s18_at7 a_0v1 a_1v1 b_0v2 b_1v2 c_0v3 c_1v3 d_0v4 d_1v4 lv5 x_0v6 x_1v6 x_2v6 x_3v6 x_4v6 x_5v6))))))))))
def p18_at6 (ev1 : Int) (a_0v1 : Int) (a_1v1 : Int) (fv2 : Int) (b_0v2 : Int) (b_1v2 : Int) (gv3 : Int) (c_0v3 : Int) (c_1v3 : Int) (hv4 : Int) (d_0v4 : Int) (d_1v4 : Int) (lv5 : (Sl FluxStep)) (iv5 : Int) (jv6 : Int) (x_0v6 : Int) (x_1v6 : (Sl (Sl FluxRow))) (x_2v6 : Int) (x_3v6 : Int) (x_4v6 : Int) (x_5v6 : Int) : Bool :=
  (cond (ev1 != (0:Int))
   true
   (cond (fv2 != (0:Int))
    true
    (cond (gv3 != (0:Int))
     true
     (cond (hv4 != (0:Int))
      true
      (cond (iv5 != (0:Int))
       true
       (cond (jv6 != (0:Int))
        true
        (cond ((lv5.len : Int) != (7:Int))
         true
         (cond ((x_1v6.len : Int) != (1:Int))
          true
          (decide ((0 ≤ (0:Int) ∧ (0:Int) < (x_1v6.len : Int))) &&
          (cond (((x_1v6.get 0).len : Int) != (4:Int))
           true
           (p18_at7 a_0v1 a_1v1 b_0v2 b_1v2 c_0v3 c_1v3 d_0v4 d_1v4 lv5 x_0v6 x_1v6 x_2v6 x_3v6 x_4v6 x_5v6)))))))))))
theorem q18_at6 (K : List PA → Prop) (ev1 : Int) (a_0v1 : Int) (a_1v1 : Int) (fv2 : Int) (b_0v2 : Int) (b_1v2 : Int) (gv3 : Int) (c_0v3 : Int) (c_1v3 : Int) (hv4 : Int) (d_0v4 : Int) (d_1v4 : Int) (lv5 : (Sl FluxStep)) (iv5 : Int) (jv6 : Int) (x_0v6 : Int) (x_1v6 : (Sl (Sl FluxRow))) (x_2v6 : Int) (x_3v6 : Int) (x_4v6 : Int) (x_5v6 : Int) (x_1v6_g : Nat → List PV) (x_1v6_h : x_1v6_g = fun i => enc_32 (x_1v6.get i)) (hs : p18_at6 ev1 a_0v1 a_1v1 fv2 b_0v2 b_1v2 gv3 c_0v3 c_1v3 hv4 d_0v4 d_1v4 lv5 iv5 jv6 x_0v6 x_1v6 x_2v6 x_3v6 x_4v6 x_5v6 = true) (hk : K (e18 (s18_at6 ev1 a_0v1 a_1v1 fv2 b_0v2 b_1v2 gv3 c_0v3 c_1v3 hv4 d_0v4 d_1v4 lv5 iv5 jv6 x_0v6 x_1v6 x_2v6 x_3v6 x_4v6 x_5v6))) : f18_at6 K ev1 a_0v1 a_1v1 fv2 b_0v2 b_1v2 gv3 c_0v3 c_1v3 hv4 d_0v4 d_1v4 lv5 iv5 jv6 x_0v6 x_1v6.len x_1v6_g x_2v6 x_3v6 x_4v6 x_5v6 := by
  subst x_1v6_h
  refine ofEq (f18_eq6 K ev1 a_0v1 a_1v1 fv2 b_0v2 b_1v2 gv3 c_0v3 c_1v3 hv4 d_0v4 d_1v4 lv5 iv5 jv6 x_0v6 x_1v6 x_2v6 x_3v6 x_4v6 x_5v6) ?_
  unfold p18_at6 at hs
  unfold s18_at6 at hk
  exact (condB_go (K := fun r => K (e18 r))
   (fun hs hk => hk)
   (fun hs hk => (condB_go (K := fun r => K (e18 r))
    (fun hs hk => hk)
    (fun hs hk => (condB_go (K := fun r => K (e18 r))
     (fun hs hk => hk)
     (fun hs hk => (condB_go (K := fun r => K (e18 r))
      (fun hs hk => hk)
      (fun hs hk => (condB_go (K := fun r => K (e18 r))
       (fun hs hk => hk)
       (fun hs hk => (condB_go (K := fun r => K (e18 r))
        (fun hs hk => hk)
        (fun hs hk => (condB_go (K := fun r => K (e18 r))
         (fun hs hk => hk)
         (fun hs hk => (condB_go (K := fun r => K (e18 r))
          (fun hs hk => hk)
          (fun hs hk => (andK hs fun hc hs => ⟨hc, (condB_go (K := fun r => K (e18 r))
           (fun hs hk => hk)
           (fun hs hk => (q18_at7 K a_0v1 a_1v1 b_0v2 b_1v2 c_0v3 c_1v3 d_0v4 d_1v4 lv5 x_0v6 x_1v6 x_2v6 x_3v6 x_4v6 x_5v6 hs hk)) hs hk)⟩)) hs hk)) hs hk)) hs hk)) hs hk)) hs hk)) hs hk)) hs hk)) hs hk)
def s18_at5 (tv0 : (Sl RangeRow)) (ev1 : Int) (a_0v1 : Int) (a_1v1 : Int) (fv2 : Int) (b_0v2 : Int) (b_1v2 : Int) (gv3 : Int) (c_0v3 : Int) (c_1v3 : Int) (hv4 : Int) (d_0v4 : Int) (d_1v4 : Int) (lv5 : (Sl FluxStep)) (iv5 : Int) (s_1v5 : (Sl (Sl FluxRow))) : Bool :=
  (s18_at6 ev1 a_0v1 a_1v1 fv2 b_0v2 b_1v2 gv3 c_0v3 c_1v3 hv4 d_0v4 d_1v4 lv5 iv5 ((s33 (⟨s60.Parts, s_1v5, s60.Beta, s60.Alpha⟩ : Sky) tv0 (0:Int) (100:Int) (⟨(10:Int), (25:Int)⟩ : Span)).2) (((s33 (⟨s60.Parts, s_1v5, s60.Beta, s60.Alpha⟩ : Sky) tv0 (0:Int) (100:Int) (⟨(10:Int), (25:Int)⟩ : Span)).1).Parts) (((s33 (⟨s60.Parts, s_1v5, s60.Beta, s60.Alpha⟩ : Sky) tv0 (0:Int) (100:Int) (⟨(10:Int), (25:Int)⟩ : Span)).1).Bins) (((s33 (⟨s60.Parts, s_1v5, s60.Beta, s60.Alpha⟩ : Sky) tv0 (0:Int) (100:Int) (⟨(10:Int), (25:Int)⟩ : Span)).1).Beta.Low) (((s33 (⟨s60.Parts, s_1v5, s60.Beta, s60.Alpha⟩ : Sky) tv0 (0:Int) (100:Int) (⟨(10:Int), (25:Int)⟩ : Span)).1).Beta.High) (((s33 (⟨s60.Parts, s_1v5, s60.Beta, s60.Alpha⟩ : Sky) tv0 (0:Int) (100:Int) (⟨(10:Int), (25:Int)⟩ : Span)).1).Alpha.Low) (((s33 (⟨s60.Parts, s_1v5, s60.Beta, s60.Alpha⟩ : Sky) tv0 (0:Int) (100:Int) (⟨(10:Int), (25:Int)⟩ : Span)).1).Alpha.High))
def p18_at5 (tv0 : (Sl RangeRow)) (ev1 : Int) (a_0v1 : Int) (a_1v1 : Int) (fv2 : Int) (b_0v2 : Int) (b_1v2 : Int) (gv3 : Int) (c_0v3 : Int) (c_1v3 : Int) (hv4 : Int) (d_0v4 : Int) (d_1v4 : Int) (lv5 : (Sl FluxStep)) (iv5 : Int) (s_1v5 : (Sl (Sl FluxRow))) : Bool :=
  (decide ((p33 (⟨s60.Parts, s_1v5, s60.Beta, s60.Alpha⟩ : Sky) tv0 (0:Int) (100:Int) (⟨(10:Int), (25:Int)⟩ : Span) = true)) &&
  (p18_at6 ev1 a_0v1 a_1v1 fv2 b_0v2 b_1v2 gv3 c_0v3 c_1v3 hv4 d_0v4 d_1v4 lv5 iv5 ((s33 (⟨s60.Parts, s_1v5, s60.Beta, s60.Alpha⟩ : Sky) tv0 (0:Int) (100:Int) (⟨(10:Int), (25:Int)⟩ : Span)).2) (((s33 (⟨s60.Parts, s_1v5, s60.Beta, s60.Alpha⟩ : Sky) tv0 (0:Int) (100:Int) (⟨(10:Int), (25:Int)⟩ : Span)).1).Parts) (((s33 (⟨s60.Parts, s_1v5, s60.Beta, s60.Alpha⟩ : Sky) tv0 (0:Int) (100:Int) (⟨(10:Int), (25:Int)⟩ : Span)).1).Bins) (((s33 (⟨s60.Parts, s_1v5, s60.Beta, s60.Alpha⟩ : Sky) tv0 (0:Int) (100:Int) (⟨(10:Int), (25:Int)⟩ : Span)).1).Beta.Low) (((s33 (⟨s60.Parts, s_1v5, s60.Beta, s60.Alpha⟩ : Sky) tv0 (0:Int) (100:Int) (⟨(10:Int), (25:Int)⟩ : Span)).1).Beta.High) (((s33 (⟨s60.Parts, s_1v5, s60.Beta, s60.Alpha⟩ : Sky) tv0 (0:Int) (100:Int) (⟨(10:Int), (25:Int)⟩ : Span)).1).Alpha.Low) (((s33 (⟨s60.Parts, s_1v5, s60.Beta, s60.Alpha⟩ : Sky) tv0 (0:Int) (100:Int) (⟨(10:Int), (25:Int)⟩ : Span)).1).Alpha.High)))
theorem q18_at5 (K : List PA → Prop) (tv0 : (Sl RangeRow)) (ev1 : Int) (a_0v1 : Int) (a_1v1 : Int) (fv2 : Int) (b_0v2 : Int) (b_1v2 : Int) (gv3 : Int) (c_0v3 : Int) (c_1v3 : Int) (hv4 : Int) (d_0v4 : Int) (d_1v4 : Int) (lv5 : (Sl FluxStep)) (iv5 : Int) (s_1v5 : (Sl (Sl FluxRow))) (lv5_g : Nat → List PV) (lv5_h : lv5_g = fun i => enc_69 (lv5.get i)) (s_1v5_g : Nat → List PV) (s_1v5_h : s_1v5_g = fun i => enc_32 (s_1v5.get i)) (hs : p18_at5 tv0 ev1 a_0v1 a_1v1 fv2 b_0v2 b_1v2 gv3 c_0v3 c_1v3 hv4 d_0v4 d_1v4 lv5 iv5 s_1v5 = true) (hk : K (e18 (s18_at5 tv0 ev1 a_0v1 a_1v1 fv2 b_0v2 b_1v2 gv3 c_0v3 c_1v3 hv4 d_0v4 d_1v4 lv5 iv5 s_1v5))) : f18_at5 K tv0 ev1 a_0v1 a_1v1 fv2 b_0v2 b_1v2 gv3 c_0v3 c_1v3 hv4 d_0v4 d_1v4 lv5.len lv5_g iv5 s_1v5.len s_1v5_g := by
  subst lv5_h
  subst s_1v5_h
  refine ofEq (f18_eq5 K tv0 ev1 a_0v1 a_1v1 fv2 b_0v2 b_1v2 gv3 c_0v3 c_1v3 hv4 d_0v4 d_1v4 lv5 iv5 s_1v5) ?_
  unfold p18_at5 at hs
  unfold s18_at5 at hk
  exact (andK hs fun hc hs => ⟨⟨isE, isE, hc⟩, (q18_at6 K ev1 a_0v1 a_1v1 fv2 b_0v2 b_1v2 gv3 c_0v3 c_1v3 hv4 d_0v4 d_1v4 lv5 iv5 ((s33 (⟨s60.Parts, s_1v5, s60.Beta, s60.Alpha⟩ : Sky) tv0 (0:Int) (100:Int) (⟨(10:Int), (25:Int)⟩ : Span)).2) (((s33 (⟨s60.Parts, s_1v5, s60.Beta, s60.Alpha⟩ : Sky) tv0 (0:Int) (100:Int) (⟨(10:Int), (25:Int)⟩ : Span)).1).Parts) (((s33 (⟨s60.Parts, s_1v5, s60.Beta, s60.Alpha⟩ : Sky) tv0 (0:Int) (100:Int) (⟨(10:Int), (25:Int)⟩ : Span)).1).Bins) (((s33 (⟨s60.Parts, s_1v5, s60.Beta, s60.Alpha⟩ : Sky) tv0 (0:Int) (100:Int) (⟨(10:Int), (25:Int)⟩ : Span)).1).Beta.Low) (((s33 (⟨s60.Parts, s_1v5, s60.Beta, s60.Alpha⟩ : Sky) tv0 (0:Int) (100:Int) (⟨(10:Int), (25:Int)⟩ : Span)).1).Beta.High) (((s33 (⟨s60.Parts, s_1v5, s60.Beta, s60.Alpha⟩ : Sky) tv0 (0:Int) (100:Int) (⟨(10:Int), (25:Int)⟩ : Span)).1).Alpha.Low) (((s33 (⟨s60.Parts, s_1v5, s60.Beta, s60.Alpha⟩ : Sky) tv0 (0:Int) (100:Int) (⟨(10:Int), (25:Int)⟩ : Span)).1).Alpha.High) (fun i => enc_32 (((s33 (⟨s60.Parts, s_1v5, s60.Beta, s60.Alpha⟩ : Sky) tv0 (0:Int) (100:Int) (⟨(10:Int), (25:Int)⟩ : Span)).1).Bins.get i)) rfl hs hk)⟩)
def s18_at4 (tv0 : (Sl RangeRow)) (ev1 : Int) (a_0v1 : Int) (a_1v1 : Int) (fv2 : Int) (b_0v2 : Int) (b_1v2 : Int) (gv3 : Int) (c_0v3 : Int) (c_1v3 : Int) (hv4 : Int) (s_1v4 : (Sl (Sl FluxRow))) (d_0v4 : Int) (d_1v4 : Int) : Bool :=
  (s18_at5 tv0 ev1 a_0v1 a_1v1 fv2 b_0v2 b_1v2 gv3 c_0v3 c_1v3 hv4 d_0v4 d_1v4 ((s26 (⟨s60.Parts, s_1v4, s60.Beta, s60.Alpha⟩ : Sky) tv0 (0:Int) (⟨1, fun _ => (s34 (1:Int))⟩ : (Sl Spell))).1) ((s26 (⟨s60.Parts, s_1v4, s60.Beta, s60.Alpha⟩ : Sky) tv0 (0:Int) (⟨1, fun _ => (s34 (1:Int))⟩ : (Sl Spell))).2) s_1v4)
def p18_at4 (tv0 : (Sl RangeRow)) (ev1 : Int) (a_0v1 : Int) (a_1v1 : Int) (fv2 : Int) (b_0v2 : Int) (b_1v2 : Int) (gv3 : Int) (c_0v3 : Int) (c_1v3 : Int) (hv4 : Int) (s_1v4 : (Sl (Sl FluxRow))) (d_0v4 : Int) (d_1v4 : Int) : Bool :=
  (decide ((p26 (⟨s60.Parts, s_1v4, s60.Beta, s60.Alpha⟩ : Sky) tv0 (0:Int) (⟨1, fun _ => (s34 (1:Int))⟩ : (Sl Spell)) = true)) &&
  (p18_at5 tv0 ev1 a_0v1 a_1v1 fv2 b_0v2 b_1v2 gv3 c_0v3 c_1v3 hv4 d_0v4 d_1v4 ((s26 (⟨s60.Parts, s_1v4, s60.Beta, s60.Alpha⟩ : Sky) tv0 (0:Int) (⟨1, fun _ => (s34 (1:Int))⟩ : (Sl Spell))).1) ((s26 (⟨s60.Parts, s_1v4, s60.Beta, s60.Alpha⟩ : Sky) tv0 (0:Int) (⟨1, fun _ => (s34 (1:Int))⟩ : (Sl Spell))).2) s_1v4))
theorem q18_at4 (K : List PA → Prop) (tv0 : (Sl RangeRow)) (ev1 : Int) (a_0v1 : Int) (a_1v1 : Int) (fv2 : Int) (b_0v2 : Int) (b_1v2 : Int) (gv3 : Int) (c_0v3 : Int) (c_1v3 : Int) (hv4 : Int) (s_1v4 : (Sl (Sl FluxRow))) (d_0v4 : Int) (d_1v4 : Int) (s_1v4_g : Nat → List PV) (s_1v4_h : s_1v4_g = fun i => enc_32 (s_1v4.get i)) (hs : p18_at4 tv0 ev1 a_0v1 a_1v1 fv2 b_0v2 b_1v2 gv3 c_0v3 c_1v3 hv4 s_1v4 d_0v4 d_1v4 = true) (hk : K (e18 (s18_at4 tv0 ev1 a_0v1 a_1v1 fv2 b_0v2 b_1v2 gv3 c_0v3 c_1v3 hv4 s_1v4 d_0v4 d_1v4))) : f18_at4 K tv0 ev1 a_0v1 a_1v1 fv2 b_0v2 b_1v2 gv3 c_0v3 c_1v3 hv4 s_1v4.len s_1v4_g d_0v4 d_1v4 := by
  subst s_1v4_h
  refine ofEq (f18_eq4 K tv0 ev1 a_0v1 a_1v1 fv2 b_0v2 b_1v2 gv3 c_0v3 c_1v3 hv4 s_1v4 d_0v4 d_1v4) ?_
  unfold p18_at4 at hs
  unfold s18_at4 at hk
  exact (andK hs fun hc hs => ⟨⟨isE, isE, isE_c, hc⟩, (q18_at5 K tv0 ev1 a_0v1 a_1v1 fv2 b_0v2 b_1v2 gv3 c_0v3 c_1v3 hv4 d_0v4 d_1v4 ((s26 (⟨s60.Parts, s_1v4, s60.Beta, s60.Alpha⟩ : Sky) tv0 (0:Int) (⟨1, fun _ => (s34 (1:Int))⟩ : (Sl Spell))).1) ((s26 (⟨s60.Parts, s_1v4, s60.Beta, s60.Alpha⟩ : Sky) tv0 (0:Int) (⟨1, fun _ => (s34 (1:Int))⟩ : (Sl Spell))).2) s_1v4 (fun i => enc_69 (((s26 (⟨s60.Parts, s_1v4, s60.Beta, s60.Alpha⟩ : Sky) tv0 (0:Int) (⟨1, fun _ => (s34 (1:Int))⟩ : (Sl Spell))).1).get i)) rfl (fun i => enc_32 (s_1v4.get i)) rfl hs hk)⟩)
def s18_at3 (tv0 : (Sl RangeRow)) (ev1 : Int) (a_0v1 : Int) (a_1v1 : Int) (fv2 : Int) (b_0v2 : Int) (b_1v2 : Int) (gv3 : Int) (s_1v3 : (Sl (Sl FluxRow))) (c_0v3 : Int) (c_1v3 : Int) : Bool :=
  (s18_at4 tv0 ev1 a_0v1 a_1v1 fv2 b_0v2 b_1v2 gv3 c_0v3 c_1v3 ((s25 (⟨s60.Parts, s_1v3, s60.Beta, s60.Alpha⟩ : Sky) tv0 (0:Int) (⟨(261:Int), (270:Int)⟩ : Span) (⟨1, fun _ => (s34 (1:Int))⟩ : (Sl Spell))).2) s_1v3 (((s25 (⟨s60.Parts, s_1v3, s60.Beta, s60.Alpha⟩ : Sky) tv0 (0:Int) (⟨(261:Int), (270:Int)⟩ : Span) (⟨1, fun _ => (s34 (1:Int))⟩ : (Sl Spell))).1).Low) (((s25 (⟨s60.Parts, s_1v3, s60.Beta, s60.Alpha⟩ : Sky) tv0 (0:Int) (⟨(261:Int), (270:Int)⟩ : Span) (⟨1, fun _ => (s34 (1:Int))⟩ : (Sl Spell))).1).High))
def p18_at3 (tv0 : (Sl RangeRow)) (ev1 : Int) (a_0v1 : Int) (a_1v1 : Int) (fv2 : Int) (b_0v2 : Int) (b_1v2 : Int) (gv3 : Int) (s_1v3 : (Sl (Sl FluxRow))) (c_0v3 : Int) (c_1v3 : Int) : Bool :=
  (decide ((p25 (⟨s60.Parts, s_1v3, s60.Beta, s60.Alpha⟩ : Sky) tv0 (0:Int) (⟨(261:Int), (270:Int)⟩ : Span) (⟨1, fun _ => (s34 (1:Int))⟩ : (Sl Spell)) = true)) &&
  (p18_at4 tv0 ev1 a_0v1 a_1v1 fv2 b_0v2 b_1v2 gv3 c_0v3 c_1v3 ((s25 (⟨s60.Parts, s_1v3, s60.Beta, s60.Alpha⟩ : Sky) tv0 (0:Int) (⟨(261:Int), (270:Int)⟩ : Span) (⟨1, fun _ => (s34 (1:Int))⟩ : (Sl Spell))).2) s_1v3 (((s25 (⟨s60.Parts, s_1v3, s60.Beta, s60.Alpha⟩ : Sky) tv0 (0:Int) (⟨(261:Int), (270:Int)⟩ : Span) (⟨1, fun _ => (s34 (1:Int))⟩ : (Sl Spell))).1).Low) (((s25 (⟨s60.Parts, s_1v3, s60.Beta, s60.Alpha⟩ : Sky) tv0 (0:Int) (⟨(261:Int), (270:Int)⟩ : Span) (⟨1, fun _ => (s34 (1:Int))⟩ : (Sl Spell))).1).High)))
theorem q18_at3 (K : List PA → Prop) (tv0 : (Sl RangeRow)) (ev1 : Int) (a_0v1 : Int) (a_1v1 : Int) (fv2 : Int) (b_0v2 : Int) (b_1v2 : Int) (gv3 : Int) (s_1v3 : (Sl (Sl FluxRow))) (c_0v3 : Int) (c_1v3 : Int) (s_1v3_g : Nat → List PV) (s_1v3_h : s_1v3_g = fun i => enc_32 (s_1v3.get i)) (hs : p18_at3 tv0 ev1 a_0v1 a_1v1 fv2 b_0v2 b_1v2 gv3 s_1v3 c_0v3 c_1v3 = true) (hk : K (e18 (s18_at3 tv0 ev1 a_0v1 a_1v1 fv2 b_0v2 b_1v2 gv3 s_1v3 c_0v3 c_1v3))) : f18_at3 K tv0 ev1 a_0v1 a_1v1 fv2 b_0v2 b_1v2 gv3 s_1v3.len s_1v3_g c_0v3 c_1v3 := by
  subst s_1v3_h
  refine ofEq (f18_eq3 K tv0 ev1 a_0v1 a_1v1 fv2 b_0v2 b_1v2 gv3 s_1v3 c_0v3 c_1v3) ?_
  unfold p18_at3 at hs
  unfold s18_at3 at hk
  exact (andK hs fun hc hs => ⟨⟨isE, isE, isE_c, hc⟩, (q18_at4 K tv0 ev1 a_0v1 a_1v1 fv2 b_0v2 b_1v2 gv3 c_0v3 c_1v3 ((s25 (⟨s60.Parts, s_1v3, s60.Beta, s60.Alpha⟩ : Sky) tv0 (0:Int) (⟨(261:Int), (270:Int)⟩ : Span) (⟨1, fun _ => (s34 (1:Int))⟩ : (Sl Spell))).2) s_1v3 (((s25 (⟨s60.Parts, s_1v3, s60.Beta, s60.Alpha⟩ : Sky) tv0 (0:Int) (⟨(261:Int), (270:Int)⟩ : Span) (⟨1, fun _ => (s34 (1:Int))⟩ : (Sl Spell))).1).Low) (((s25 (⟨s60.Parts, s_1v3, s60.Beta, s60.Alpha⟩ : Sky) tv0 (0:Int) (⟨(261:Int), (270:Int)⟩ : Span) (⟨1, fun _ => (s34 (1:Int))⟩ : (Sl Spell))).1).High) (fun i => enc_32 (s_1v3.get i)) rfl hs hk)⟩)
def s18_at2 (tv0 : (Sl RangeRow)) (ev1 : Int) (a_0v1 : Int) (a_1v1 : Int) (fv2 : Int) (s_1v2 : (Sl (Sl FluxRow))) (b_0v2 : Int) (b_1v2 : Int) : Bool :=
  (s18_at3 tv0 ev1 a_0v1 a_1v1 fv2 b_0v2 b_1v2 ((s23 (⟨s60.Parts, s_1v2, s60.Beta, s60.Alpha⟩ : Sky) tv0 (0:Int) (100:Int) (⟨2, decF_56 (getL [(enc_56 (s34 (3:Int))), (enc_56 (⟨(1:Int), (⟨(⟨(-10:Int), (20:Int)⟩ : Span), (⟨(0:Int), (5:Int)⟩ : Span)⟩ : Weather)⟩ : Spell))])⟩ : (Sl Spell))).2) s_1v2 (((s23 (⟨s60.Parts, s_1v2, s60.Beta, s60.Alpha⟩ : Sky) tv0 (0:Int) (100:Int) (⟨2, decF_56 (getL [(enc_56 (s34 (3:Int))), (enc_56 (⟨(1:Int), (⟨(⟨(-10:Int), (20:Int)⟩ : Span), (⟨(0:Int), (5:Int)⟩ : Span)⟩ : Weather)⟩ : Spell))])⟩ : (Sl Spell))).1).Low) (((s23 (⟨s60.Parts, s_1v2, s60.Beta, s60.Alpha⟩ : Sky) tv0 (0:Int) (100:Int) (⟨2, decF_56 (getL [(enc_56 (s34 (3:Int))), (enc_56 (⟨(1:Int), (⟨(⟨(-10:Int), (20:Int)⟩ : Span), (⟨(0:Int), (5:Int)⟩ : Span)⟩ : Weather)⟩ : Spell))])⟩ : (Sl Spell))).1).High))
def p18_at2 (tv0 : (Sl RangeRow)) (ev1 : Int) (a_0v1 : Int) (a_1v1 : Int) (fv2 : Int) (s_1v2 : (Sl (Sl FluxRow))) (b_0v2 : Int) (b_1v2 : Int) : Bool :=
  (decide ((p23 (⟨s60.Parts, s_1v2, s60.Beta, s60.Alpha⟩ : Sky) tv0 (0:Int) (100:Int) (⟨2, decF_56 (getL [(enc_56 (s34 (3:Int))), (enc_56 (⟨(1:Int), (⟨(⟨(-10:Int), (20:Int)⟩ : Span), (⟨(0:Int), (5:Int)⟩ : Span)⟩ : Weather)⟩ : Spell))])⟩ : (Sl Spell)) = true)) &&
  (p18_at3 tv0 ev1 a_0v1 a_1v1 fv2 b_0v2 b_1v2 ((s23 (⟨s60.Parts, s_1v2, s60.Beta, s60.Alpha⟩ : Sky) tv0 (0:Int) (100:Int) (⟨2, decF_56 (getL [(enc_56 (s34 (3:Int))), (enc_56 (⟨(1:Int), (⟨(⟨(-10:Int), (20:Int)⟩ : Span), (⟨(0:Int), (5:Int)⟩ : Span)⟩ : Weather)⟩ : Spell))])⟩ : (Sl Spell))).2) s_1v2 (((s23 (⟨s60.Parts, s_1v2, s60.Beta, s60.Alpha⟩ : Sky) tv0 (0:Int) (100:Int) (⟨2, decF_56 (getL [(enc_56 (s34 (3:Int))), (enc_56 (⟨(1:Int), (⟨(⟨(-10:Int), (20:Int)⟩ : Span), (⟨(0:Int), (5:Int)⟩ : Span)⟩ : Weather)⟩ : Spell))])⟩ : (Sl Spell))).1).Low) (((s23 (⟨s60.Parts, s_1v2, s60.Beta, s60.Alpha⟩ : Sky) tv0 (0:Int) (100:Int) (⟨2, decF_56 (getL [(enc_56 (s34 (3:Int))), (enc_56 (⟨(1:Int), (⟨(⟨(-10:Int), (20:Int)⟩ : Span), (⟨(0:Int), (5:Int)⟩ : Span)⟩ : Weather)⟩ : Spell))])⟩ : (Sl Spell))).1).High)))
theorem q18_at2 (K : List PA → Prop) (tv0 : (Sl RangeRow)) (ev1 : Int) (a_0v1 : Int) (a_1v1 : Int) (fv2 : Int) (s_1v2 : (Sl (Sl FluxRow))) (b_0v2 : Int) (b_1v2 : Int) (s_1v2_g : Nat → List PV) (s_1v2_h : s_1v2_g = fun i => enc_32 (s_1v2.get i)) (hs : p18_at2 tv0 ev1 a_0v1 a_1v1 fv2 s_1v2 b_0v2 b_1v2 = true) (hk : K (e18 (s18_at2 tv0 ev1 a_0v1 a_1v1 fv2 s_1v2 b_0v2 b_1v2))) : f18_at2 K tv0 ev1 a_0v1 a_1v1 fv2 s_1v2.len s_1v2_g b_0v2 b_1v2 := by
  subst s_1v2_h
  refine ofEq (f18_eq2 K tv0 ev1 a_0v1 a_1v1 fv2 s_1v2 b_0v2 b_1v2) ?_
  unfold p18_at2 at hs
  unfold s18_at2 at hk
  exact (andK hs fun hc hs => ⟨⟨isE, isE, (isE_list []), hc⟩, (q18_at3 K tv0 ev1 a_0v1 a_1v1 fv2 b_0v2 b_1v2 ((s23 (⟨s60.Parts, s_1v2, s60.Beta, s60.Alpha⟩ : Sky) tv0 (0:Int) (100:Int) (⟨2, decF_56 (getL [(enc_56 (s34 (3:Int))), (enc_56 (⟨(1:Int), (⟨(⟨(-10:Int), (20:Int)⟩ : Span), (⟨(0:Int), (5:Int)⟩ : Span)⟩ : Weather)⟩ : Spell))])⟩ : (Sl Spell))).2) s_1v2 (((s23 (⟨s60.Parts, s_1v2, s60.Beta, s60.Alpha⟩ : Sky) tv0 (0:Int) (100:Int) (⟨2, decF_56 (getL [(enc_56 (s34 (3:Int))), (enc_56 (⟨(1:Int), (⟨(⟨(-10:Int), (20:Int)⟩ : Span), (⟨(0:Int), (5:Int)⟩ : Span)⟩ : Weather)⟩ : Spell))])⟩ : (Sl Spell))).1).Low) (((s23 (⟨s60.Parts, s_1v2, s60.Beta, s60.Alpha⟩ : Sky) tv0 (0:Int) (100:Int) (⟨2, decF_56 (getL [(enc_56 (s34 (3:Int))), (enc_56 (⟨(1:Int), (⟨(⟨(-10:Int), (20:Int)⟩ : Span), (⟨(0:Int), (5:Int)⟩ : Span)⟩ : Weather)⟩ : Spell))])⟩ : (Sl Spell))).1).High) (fun i => enc_32 (s_1v2.get i)) rfl hs hk)⟩)
def s18_at1 (tv0 : (Sl RangeRow)) (ev1 : Int) (s_1v1 : (Sl (Sl FluxRow))) (a_0v1 : Int) (a_1v1 : Int) : Bool :=
  (s18_at2 tv0 ev1 a_0v1 a_1v1 ((s20 (⟨s60.Parts, s_1v1, s60.Beta, s60.Alpha⟩ : Sky) tv0 (0:Int) (280:Int)).2) s_1v1 (((s20 (⟨s60.Parts, s_1v1, s60.Beta, s60.Alpha⟩ : Sky) tv0 (0:Int) (280:Int)).1).Low) (((s20 (⟨s60.Parts, s_1v1, s60.Beta, s60.Alpha⟩ : Sky) tv0 (0:Int) (280:Int)).1).High))
def p18_at1 (tv0 : (Sl RangeRow)) (ev1 : Int) (s_1v1 : (Sl (Sl FluxRow))) (a_0v1 : Int) (a_1v1 : Int) : Bool :=
  (decide ((p20 (⟨s60.Parts, s_1v1, s60.Beta, s60.Alpha⟩ : Sky) tv0 (0:Int) (280:Int) = true)) &&
  (p18_at2 tv0 ev1 a_0v1 a_1v1 ((s20 (⟨s60.Parts, s_1v1, s60.Beta, s60.Alpha⟩ : Sky) tv0 (0:Int) (280:Int)).2) s_1v1 (((s20 (⟨s60.Parts, s_1v1, s60.Beta, s60.Alpha⟩ : Sky) tv0 (0:Int) (280:Int)).1).Low) (((s20 (⟨s60.Parts, s_1v1, s60.Beta, s60.Alpha⟩ : Sky) tv0 (0:Int) (280:Int)).1).High)))
theorem q18_at1 (K : List PA → Prop) (tv0 : (Sl RangeRow)) (ev1 : Int) (s_1v1 : (Sl (Sl FluxRow))) (a_0v1 : Int) (a_1v1 : Int) (s_1v1_g : Nat → List PV) (s_1v1_h : s_1v1_g = fun i => enc_32 (s_1v1.get i)) (hs : p18_at1 tv0 ev1 s_1v1 a_0v1 a_1v1 = true) (hk : K (e18 (s18_at1 tv0 ev1 s_1v1 a_0v1 a_1v1))) : f18_at1 K tv0 ev1 s_1v1.len s_1v1_g a_0v1 a_1v1 := by
  subst s_1v1_h
  refine ofEq (f18_eq1 K tv0 ev1 s_1v1 a_0v1 a_1v1) ?_
  unfold p18_at1 at hs
  unfold s18_at1 at hk
  exact (andK hs fun hc hs => ⟨⟨isE, isE, hc⟩, (q18_at2 K tv0 ev1 a_0v1 a_1v1 ((s20 (⟨s60.Parts, s_1v1, s60.Beta, s60.Alpha⟩ : Sky) tv0 (0:Int) (280:Int)).2) s_1v1 (((s20 (⟨s60.Parts, s_1v1, s60.Beta, s60.Alpha⟩ : Sky) tv0 (0:Int) (280:Int)).1).Low) (((s20 (⟨s60.Parts, s_1v1, s60.Beta, s60.Alpha⟩ : Sky) tv0 (0:Int) (280:Int)).1).High) (fun i => enc_32 (s_1v1.get i)) rfl hs hk)⟩)
def s18_at0 (tv0 : (Sl RangeRow)) (s_1v0 : (Sl (Sl FluxRow))) : Bool :=
  (s18_at1 tv0 ((s19 tv0 (100:Int)).2) s_1v0 (((s19 tv0 (100:Int)).1).Low) (((s19 tv0 (100:Int)).1).High))
def p18_at0 (tv0 : (Sl RangeRow)) (s_1v0 : (Sl (Sl FluxRow))) : Bool :=
  (decide ((p19 tv0 (100:Int) = true)) &&
  (p18_at1 tv0 ((s19 tv0 (100:Int)).2) s_1v0 (((s19 tv0 (100:Int)).1).Low) (((s19 tv0 (100:Int)).1).High)))
theorem q18_at0 (K : List PA → Prop) (tv0 : (Sl RangeRow)) (s_1v0 : (Sl (Sl FluxRow))) (tv0_g : Nat → List PV) (tv0_h : tv0_g = fun i => enc_42 (tv0.get i)) (s_1v0_g : Nat → List PV) (s_1v0_h : s_1v0_g = fun i => enc_32 (s_1v0.get i)) (hs : p18_at0 tv0 s_1v0 = true) (hk : K (e18 (s18_at0 tv0 s_1v0))) : f18_at0 K tv0.len tv0_g s_1v0.len s_1v0_g := by
  subst tv0_h
  subst s_1v0_h
  refine ofEq (f18_eq0 K tv0 s_1v0) ?_
  unfold p18_at0 at hs
  unfold s18_at0 at hk
  exact (andK hs fun hc hs => ⟨⟨isE, hc⟩, (q18_at1 K tv0 ((s19 tv0 (100:Int)).2) s_1v0 (((s19 tv0 (100:Int)).1).Low) (((s19 tv0 (100:Int)).1).High) (fun i => enc_32 (s_1v0.get i)) rfl hs hk)⟩)
def s18 : Bool :=
  (s18_at0 s61 s60.Bins)
def p18 : Bool :=
  (p18_at0 s61 s60.Bins)
theorem q18 (K : List PA → Prop) (hs : p18 = true) (hk : K (e18 (s18))) : vcFun Try.prog G18 ann18 18 [] K := by
  refine ofEq (f18_top K) ?_
  unfold p18 at hs
  unfold s18 at hk
  exact (q18_at0 K s61 s60.Bins (fun i => enc_42 (s61.get i)) rfl (fun i => enc_32 (s60.Bins.get i)) rfl hs hk)
theorem p18_ok : p18 = true := by kernel_rfl
theorem s18_ok : s18 = true := by kernel_rfl
def ctr18 : List PA → COut
  | [] => .tot [.one (.bool true)]
  | _ => .no
theorem call18 : Callable Try.prog 18 := ⟨_, rfl, rfl, by kernel_rfl⟩
theorem ok18 : Ok Try.prog 18 ctr18 := ok_tab okT18 call18 fun args K h => by
  unfold ctr18 at h
  split at h
  · refine ⟨fun _ _ => [], fun _ => false, ann18, q18 K p18_ok ?_⟩
    show K [.one (.bool s18)]
    rw [s18_ok]; exact h
  · exact h.elim
abbrev T15 : Tabs := Tabs.nil
theorem okT15 : TabsOk Try.prog T15 := TabsOk.nil
abbrev G15 : Ctrs := csm T15 (fun _ _ => []) (fun _ => false)
def ann15 : Ann := ⟨29, [(0, ⟨[1, 2], [2], [], [], []⟩), (1, ⟨[1, 2, 5], [2], [], [], []⟩), (2, ⟨[1, 2, 5, 10], [2], [], [], []⟩), (3, ⟨[1, 2, 5], [2], [], [], []⟩), (4, ⟨[1, 2, 5, 19], [2], [], [], []⟩), (5, ⟨[4], [], [], [], []⟩), (6, ⟨[4], [], [], [], []⟩)],
  [(2, ⟨[1, 2, 5], [2], [], [], []⟩)],
  [],
  [], []⟩
def f15_g0 (s : Sky) (t : (Sl RangeRow)) (iv0 : Int) : St := ⟨[(1, .one (.c (.p (.sl t.len 3 (fun i => enc_42 (t.get i)))))), (2, .one (.c (.ptr 2 0))), (5, .one (.c (.p (.int .i64 iv0))))], [(2, .box 26 [.p (.int .i64 s.Parts), .p (.sl s.Bins.len 1 (fun i => enc_32 (s.Bins.get i))), .p (.int .i64 s.Beta.Low), .p (.int .i64 s.Beta.High), .p (.int .i64 s.Alpha.Low), .p (.int .i64 s.Alpha.High)])], []⟩
def f15_at0 (K : List PA → Prop) (s : Sky) (t : (Sl RangeRow)) (iv0 : Int) : Prop := vc Try.prog G15 ann15 (cdF Try.f15 [1, 0, 1, 0]) (blockK 0 (sqK Try.prog G15 ann15 (cdF Try.f15 [1, 1]) (bodyK Try.prog Try.f15 K))) (f15_g0 s t iv0)
theorem f15_top (s : Sky) (t : (Sl RangeRow)) (K : List PA → Prop) :
  vcFun Try.prog G15 ann15 15 [.agg [.int .i64 s.Parts, .sl s.Bins.len 1 (fun i => enc_32 (s.Bins.get i)), .int .i64 s.Beta.Low, .int .i64 s.Beta.High, .int .i64 s.Alpha.Low, .int .i64 s.Alpha.High], .one (.sl t.len 3 (fun i => enc_42 (t.get i)))] K =
  (f15_at0 K s t (0:Int)) := by kernel_rfl
def f15_step0 (K : List PA → Prop) (X0 : St → Prop) (s : Sky) (t : (Sl RangeRow)) (iv0 : Int) : Prop :=
  (condP (decide (iv0 < (s.Bins.len : Int)))
   (((0 ≤ iv0 ∧ iv0 < (s.Bins.len : Int))) ∧
   (condP (decide (((s.Bins.get iv0.toNat).len : Int) > (50:Int)))
    (K [.one (.bool false)])
    (X0 (f15_g0 s t (w64 (iv0 + (1:Int)))))))
   (condP (decide ((s.Bins.len : Int) ≤ (25:Int)))
    (K [.one (.bool (decide ((t.len : Int) ≤ (50:Int))))])
    (K [.one (.bool false)])))
theorem f15_stepeq0 (K : List PA → Prop) (X0 : St → Prop) (s : Sky) (t : (Sl RangeRow)) (iv0 : Int) :
  vc Try.prog G15 ann15 (cd (cdF Try.f15 [1, 0, 1, 0]) [0]) (loopK Try.prog ann15 2 X0 (blockK 0 (sqK Try.prog G15 ann15 (cdF Try.f15 [1, 1]) (bodyK Try.prog Try.f15 K)))) (f15_g0 s t iv0) =
  f15_step0 K X0 s t iv0 := by kernel_rfl
theorem f15_loop0 (K : List PA → Prop) (s : Sky) (t : (Sl RangeRow)) (iv0 : Int)
  (h : ∀ X0 : St → Prop, (∀ (iv0 : Int), f15_step0 K X0 s t iv0 → X0 (f15_g0 s t iv0)) → X0 (f15_g0 s t iv0)) :
  f15_at0 K s t iv0 := by
  have e : f15_at0 K s t iv0 = (∀ X : St → Prop, (∀ s, vc Try.prog G15 ann15 (cd (cdF Try.f15 [1, 0, 1, 0]) [0]) (loopK Try.prog ann15 2 X (blockK 0 (sqK Try.prog G15 ann15 (cdF Try.f15 [1, 1]) (bodyK Try.prog Try.f15 K)))) s → X s) → X (f15_g0 s t iv0)) := by kernel_rfl
  refine ofEq e ?_
  intro X hX
  refine h X ?_
  intro iv0 hs
  refine hX _ ?_
  have e2 := f15_stepeq0 K X s t iv0
  rw [e2]
  exact hs
abbrev R15 := Bool
abbrev e15 (r : Bool) : List PA := [.one (.bool r)]
attribute [irreducible] f15_at0
def s15_st0 (s : Sky) (t : (Sl RangeRow)) (S0 : Int → Bool) (iv0 : Int) : Bool :=
  (cond (decide (iv0 < (s.Bins.len : Int)))
   (cond (decide (((s.Bins.get iv0.toNat).len : Int) > (50:Int)))
    false
    (S0 (w64 (iv0 + (1:Int)))))
   (cond (decide ((s.Bins.len : Int) ≤ (25:Int)))
    (decide ((t.len : Int) ≤ (50:Int)))
    false))
def p15_st0 (s : Sky) (t : (Sl RangeRow)) (P0 : Int → Bool) (iv0 : Int) : Bool :=
  (cond (decide (iv0 < (s.Bins.len : Int)))
   (decide ((0 ≤ iv0 ∧ iv0 < (s.Bins.len : Int))) &&
   (cond (decide (((s.Bins.get iv0.toNat).len : Int) > (50:Int)))
    true
    (P0 (w64 (iv0 + (1:Int))))))
   true)
def s15_lp0 (s : Sky) (t : (Sl RangeRow)) : Nat → Int → Bool
  | 0 => fun _ => default
  | k + 1 => s15_st0 s t (s15_lp0 s t k)
def p15_lp0 (s : Sky) (t : (Sl RangeRow)) : Nat → Int → Bool
  | 0 => fun _ => false
  | k + 1 => p15_st0 s t (p15_lp0 s t k)
def s15_at0 (s : Sky) (t : (Sl RangeRow)) (iv0 : Int) : Bool := s15_lp0 s t Fuel iv0
def p15_at0 (s : Sky) (t : (Sl RangeRow)) (iv0 : Int) : Bool := p15_lp0 s t Fuel iv0
theorem q15_at0 (K : List PA → Prop) (s : Sky) (t : (Sl RangeRow)) (iv0 : Int) (hs : p15_at0 s t iv0 = true) (hk : K (e15 (s15_at0 s t iv0))) : f15_at0 K s t iv0 := by
  refine f15_loop0 K s t iv0 ?_
  intro X0 hstep
  have key : ∀ (k : Nat) (iv0 : Int), p15_lp0 s t k iv0 = true → K (e15 (s15_lp0 s t k iv0)) → X0 (f15_g0 s t iv0) := by
    intro k
    induction k with
    | zero => intro iv0 hs; exact absurd hs Bool.false_ne_true
    | succ k ih =>
      intro iv0 hs hk
      refine hstep iv0 ?_
      have hs : p15_st0 s t (p15_lp0 s t k) iv0 = true := hs
      have hk : K (e15 (s15_st0 s t (s15_lp0 s t k) iv0)) := hk
      unfold p15_st0 at hs
      unfold s15_st0 at hk
      generalize s15_lp0 s t k = S0 at hk ih
      generalize p15_lp0 s t k = P0 at hs ih
      have hX0 := ih
      exact (condB_go (K := fun r => K (e15 r))
       (fun hs hk => (andK hs fun hc hs => ⟨hc, (condB_go (K := fun r => K (e15 r))
        (fun hs hk => hk)
        (fun hs hk => (hX0 (w64 (iv0 + (1:Int))) hs hk)) hs hk)⟩))
       (fun hs hk => (condP_gt (K := fun r => K (e15 r))
        (fun hk => hk)
        (fun hk => hk) hk)) hs hk)
  exact key _ iv0 hs hk
def s15 (s : Sky) (t : (Sl RangeRow)) : Bool :=
  (s15_at0 s t (0:Int))
def p15 (s : Sky) (t : (Sl RangeRow)) : Bool :=
  (p15_at0 s t (0:Int))
theorem q15 (s : Sky) (t : (Sl RangeRow)) (K : List PA → Prop) (hs : p15 s t = true) (hk : K (e15 (s15 s t))) : vcFun Try.prog G15 ann15 15 [.agg [.int .i64 s.Parts, .sl s.Bins.len 1 (fun i => enc_32 (s.Bins.get i)), .int .i64 s.Beta.Low, .int .i64 s.Beta.High, .int .i64 s.Alpha.Low, .int .i64 s.Alpha.High], .one (.sl t.len 3 (fun i => enc_42 (t.get i)))] K := by
  refine ofEq (f15_top s t K) ?_
  unfold p15 at hs
  unfold s15 at hk
  exact (q15_at0 K s t (0:Int) hs hk)
def ctr15 : List PA → COut
  | [.agg [.int .i64 a0_Parts, .sl a0_Bins_n a0_Bins_s a0_Bins_g, .int .i64 a0_Beta_Low, .int .i64 a0_Beta_High, .int .i64 a0_Alpha_Low, .int .i64 a0_Alpha_High], .one (.sl a1_n a1_s a1_g)] => .det (IsE enc_32 1 a0_Bins_s a0_Bins_g ∧ IsE enc_42 3 a1_s a1_g ∧ p15 (⟨a0_Parts, (⟨a0_Bins_n, decF_32 a0_Bins_g⟩ : (Sl (Sl FluxRow))), (⟨a0_Beta_Low, a0_Beta_High⟩ : Span), (⟨a0_Alpha_Low, a0_Alpha_High⟩ : Span)⟩ : Sky) (⟨a1_n, decF_42 a1_g⟩ : (Sl RangeRow)) = true) [.one (.bool (s15 (⟨a0_Parts, (⟨a0_Bins_n, decF_32 a0_Bins_g⟩ : (Sl (Sl FluxRow))), (⟨a0_Beta_Low, a0_Beta_High⟩ : Span), (⟨a0_Alpha_Low, a0_Alpha_High⟩ : Span)⟩ : Sky) (⟨a1_n, decF_42 a1_g⟩ : (Sl RangeRow))))]
  | _ => .no
theorem call15 : Callable Try.prog 15 := ⟨_, rfl, rfl, by kernel_rfl⟩
theorem ok15 : Ok Try.prog 15 ctr15 := ok_tab okT15 call15 fun args K h => by
  unfold ctr15 at h
  split at h
  · rename_i a0_Parts a0_Bins_n a0_Bins_s a0_Bins_g a0_Beta_Low a0_Beta_High a0_Alpha_Low a0_Alpha_High a1_n a1_s a1_g
    obtain ⟨⟨⟨rfl, a0_Bins_f, rfl⟩, ⟨rfl, a1_f, rfl⟩, hs⟩, hk⟩ := h
    try rw [decF_enc_32 a0_Bins_f] at hs
    try rw [decF_enc_32 a0_Bins_f] at hk
    try rw [decF_enc_42 a1_f] at hs
    try rw [decF_enc_42 a1_f] at hk
    exact ⟨(fun _ _ => []), (fun _ => false), ann15, q15 (⟨a0_Parts, (⟨a0_Bins_n, a0_Bins_f⟩ : (Sl (Sl FluxRow))), (⟨a0_Beta_Low, a0_Beta_High⟩ : Span), (⟨a0_Alpha_Low, a0_Alpha_High⟩ : Span)⟩ : Sky) (⟨a1_n, a1_f⟩ : (Sl RangeRow)) K hs hk⟩
  · exact h.elim
abbrev T29 : Tabs := Tabs.nil
theorem okT29 : TabsOk Try.prog T29 := TabsOk.nil
abbrev G29 : Ctrs := csm T29 (fun _ _ => []) (fun _ => false)
def ann29 : Ann := ⟨24, [(0, ⟨[1, 2, 3], [3], [], [], []⟩), (1, ⟨[6], [], [], [], []⟩)],
  [],
  [],
  [], []⟩
theorem f29_top (s : Span) (low : Int) (high : Int) (K : List PA → Prop) :
  vcFun Try.prog G29 ann29 29 [.agg [.int .i64 s.Low, .int .i64 s.High], .one (.int .i64 low), .one (.int .i64 high)] K =
  (condP (decide (s.Low ≥ low))
   (condP (decide (s.Low ≤ s.High))
    (K [.one (.bool (decide (s.High ≤ high)))])
    (K [.one (.bool false)]))
   (K [.one (.bool false)])) := by kernel_rfl
abbrev R29 := Bool
abbrev e29 (r : Bool) : List PA := [.one (.bool r)]
def s29 (s : Span) (low : Int) (high : Int) : Bool :=
  (cond (decide (s.Low ≥ low))
   (cond (decide (s.Low ≤ s.High))
    (decide (s.High ≤ high))
    false)
   false)
theorem q29 (s : Span) (low : Int) (high : Int) (K : List PA → Prop) (hk : K (e29 (s29 s low high))) : vcFun Try.prog G29 ann29 29 [.agg [.int .i64 s.Low, .int .i64 s.High], .one (.int .i64 low), .one (.int .i64 high)] K := by
  refine ofEq (f29_top s low high K) ?_
  unfold s29 at hk
  exact (condP_gt (K := fun r => K (e29 r))
   (fun hk => (condP_gt (K := fun r => K (e29 r))
    (fun hk => hk)
    (fun hk => hk) hk))
   (fun hk => hk) hk)
def ctr29 : List PA → COut
  | [.agg [.int .i64 a0_Low, .int .i64 a0_High], .one (.int .i64 a1), .one (.int .i64 a2)] => .tot [.one (.bool (s29 (⟨a0_Low, a0_High⟩ : Span) a1 a2))]
  | _ => .no
theorem call29 : Callable Try.prog 29 := ⟨_, rfl, rfl, by kernel_rfl⟩
theorem ok29 : Ok Try.prog 29 ctr29 := ok_tab okT29 call29 fun args K h => by
  unfold ctr29 at h
  split at h
  · rename_i a0_Low a0_High a1 a2
    have hk := h
    exact ⟨(fun _ _ => []), (fun _ => false), ann29, q29 (⟨a0_Low, a0_High⟩ : Span) a1 a2 K hk⟩
  · exact h.elim
abbrev T58 : Tabs := Tabs.nil
theorem okT58 : TabsOk Try.prog T58 := TabsOk.nil
abbrev G58 : Ctrs := csm T58 (fun _ _ => []) (fun _ => false)
def ann58 : Ann := ⟨15, [(0, ⟨[0, 1, 2], [], [], [], []⟩), (1, ⟨[6], [], [], [], []⟩)],
  [],
  [],
  [], []⟩
theorem f58_top (x : Int) (low : Int) (high : Int) (K : List PA → Prop) :
  vcFun Try.prog G58 ann58 58 [.one (.int .i64 x), .one (.int .i64 low), .one (.int .i64 high)] K =
  (condP (decide (x ≥ low))
   (K [.one (.bool (decide (x ≤ high)))])
   (K [.one (.bool false)])) := by kernel_rfl
abbrev R58 := Bool
abbrev e58 (r : Bool) : List PA := [.one (.bool r)]
def s58 (x : Int) (low : Int) (high : Int) : Bool :=
  (cond (decide (x ≥ low))
   (decide (x ≤ high))
   false)
theorem q58 (x : Int) (low : Int) (high : Int) (K : List PA → Prop) (hk : K (e58 (s58 x low high))) : vcFun Try.prog G58 ann58 58 [.one (.int .i64 x), .one (.int .i64 low), .one (.int .i64 high)] K := by
  refine ofEq (f58_top x low high K) ?_
  unfold s58 at hk
  exact (condP_gt (K := fun r => K (e58 r))
   (fun hk => hk)
   (fun hk => hk) hk)
def ctr58 : List PA → COut
  | [.one (.int .i64 a0), .one (.int .i64 a1), .one (.int .i64 a2)] => .tot [.one (.bool (s58 a0 a1 a2))]
  | _ => .no
theorem call58 : Callable Try.prog 58 := ⟨_, rfl, rfl, by kernel_rfl⟩
theorem ok58 : Ok Try.prog 58 ctr58 := ok_tab okT58 call58 fun args K h => by
  unfold ctr58 at h
  split at h
  · rename_i a0 a1 a2
    have hk := h
    exact ⟨(fun _ _ => []), (fun _ => false), ann58, q58 a0 a1 a2 K hk⟩
  · exact h.elim
end Go.Proofs
namespace Go.Proofs
open Go Go.Pm
set_option maxRecDepth 100000
set_option linter.unusedVariables false
attribute [local irreducible] Go.Pm.vcFun Go.Pm.vc Go.Pm.vcIter
abbrev T59 : Tabs := ((Tabs.nil.addF 29 ctr29).addF 58 ctr58)
theorem okT59 : TabsOk Try.prog T59 := ((TabsOk.nil.addF ok29).addF ok58)
abbrev G59 : Ctrs := csm T59 (fun _ _ => []) (fun _ => false)
def ann59 : Ann := ⟨79, [(0, ⟨[0, 1], [], [], [], []⟩), (1, ⟨[0, 1, 5], [], [], [], []⟩), (2, ⟨[0, 1, 5, 10], [], [], [], []⟩), (3, ⟨[0, 1, 5], [], [], [], []⟩), (4, ⟨[0, 1, 5, 6], [6], [], [], []⟩), (5, ⟨[0, 1, 5, 68], [], [], [], []⟩), (6, ⟨[4], [], [], [], []⟩), (7, ⟨[4], [], [], [], []⟩)],
  [(2, ⟨[0, 1, 5], [], [], [], []⟩)],
  [(6, ⟨[0, 1, 5, 68], [], [], [], []⟩)],
  [], []⟩
def f59_g0 (parts : Int) (l_a1 : (Sl FluxRow)) (iv0 : Int) : St := ⟨[(0, .one (.c (.p (.int .i64 parts)))), (1, .one (.c (.p (.sl l_a1.len 3 (fun i => enc_44 (l_a1.get i)))))), (5, .one (.c (.p (.int .i64 iv0))))], [], []⟩
def f59_at0 (K : List PA → Prop) (parts : Int) (l_a1 : (Sl FluxRow)) (iv0 : Int) : Prop := vc Try.prog G59 ann59 (cdF Try.f59 [1, 0, 1, 0]) (blockK 0 (sqK Try.prog G59 ann59 (cdF Try.f59 [1, 1]) (bodyK Try.prog Try.f59 K))) (f59_g0 parts l_a1 iv0)
def f59_g1 (parts : Int) (l_a1 : (Sl FluxRow)) (iv1 : Int) (t68v1 : Bool) : St := ⟨[(0, .one (.c (.p (.int .i64 parts)))), (1, .one (.c (.p (.sl l_a1.len 3 (fun i => enc_44 (l_a1.get i)))))), (5, .one (.c (.p (.int .i64 iv1)))), (68, .one (.c (.p (.bool t68v1))))], [], []⟩
def f59_at1 (K : List PA → Prop) (X0 : St → Prop) (parts : Int) (l_a1 : (Sl FluxRow)) (iv1 : Int) (t68v1 : Bool) : Prop := vc Try.prog G59 ann59 (cdF Try.f59 [1, 0, 1, 0, 0, 1, 0, 0, 1, 1]) (blockK 1 (sqK Try.prog G59 ann59 (cdF Try.f59 [1, 0, 1, 0, 0, 1, 1]) (loopK Try.prog ann59 2 X0 (blockK 0 (sqK Try.prog G59 ann59 (cdF Try.f59 [1, 1]) (bodyK Try.prog Try.f59 K)))))) (f59_g1 parts l_a1 iv1 t68v1)
theorem f59_top (parts : Int) (l_a1 : (Sl FluxRow)) (K : List PA → Prop) :
  vcFun Try.prog G59 ann59 59 [.one (.int .i64 parts), .one (.sl l_a1.len 3 (fun i => enc_44 (l_a1.get i)))] K =
  (f59_at0 K parts l_a1 (0:Int)) := by kernel_rfl
def f59_step0 (K : List PA → Prop) (X0 : St → Prop) (parts : Int) (l_a1 : (Sl FluxRow)) (iv0 : Int) : Prop :=
  (condP (decide (iv0 < (l_a1.len : Int)))
   (((0 ≤ iv0 ∧ iv0 < (l_a1.len : Int))) ∧
   (condP (!(s58 ((l_a1.get iv0.toNat).Energy) (1:Int) (1000000:Int)))
    (f59_at1 K X0 parts l_a1 iv0 true)
    (condP (!(s29 ((l_a1.get iv0.toNat).Rate) (0:Int) parts))
     (f59_at1 K X0 parts l_a1 iv0 true)
     (condP (decide (iv0 > (0:Int)))
      (((0 ≤ (w64 (iv0 - (1:Int))) ∧ (w64 (iv0 - (1:Int))) < (l_a1.len : Int))) ∧
      (condP (decide ((l_a1.get iv0.toNat).Energy ≤ (l_a1.get ((w64 (iv0 - (1:Int))).toNat)).Energy))
       (f59_at1 K X0 parts l_a1 iv0 true)
       (((0 ≤ (w64 (iv0 - (1:Int))) ∧ (w64 (iv0 - (1:Int))) < (l_a1.len : Int))) ∧
       (condP (decide ((l_a1.get iv0.toNat).Rate.Low > (l_a1.get ((w64 (iv0 - (1:Int))).toNat)).Rate.Low))
        (f59_at1 K X0 parts l_a1 iv0 true)
        (((0 ≤ (w64 (iv0 - (1:Int))) ∧ (w64 (iv0 - (1:Int))) < (l_a1.len : Int))) ∧
        (f59_at1 K X0 parts l_a1 iv0 (decide ((l_a1.get iv0.toNat).Rate.High > (l_a1.get ((w64 (iv0 - (1:Int))).toNat)).Rate.High))))))))
      (f59_at1 K X0 parts l_a1 iv0 false)))))
   (condP (s58 (l_a1.len : Int) (1:Int) (40:Int))
    (((0 ≤ (0:Int) ∧ (0:Int) < (l_a1.len : Int))) ∧
    (K [.one (.bool ((l_a1.get 0).Energy == (1:Int)))]))
    (K [.one (.bool false)])))
theorem f59_stepeq0 (K : List PA → Prop) (X0 : St → Prop) (parts : Int) (l_a1 : (Sl FluxRow)) (iv0 : Int) :
  vc Try.prog G59 ann59 (cd (cdF Try.f59 [1, 0, 1, 0]) [0]) (loopK Try.prog ann59 2 X0 (blockK 0 (sqK Try.prog G59 ann59 (cdF Try.f59 [1, 1]) (bodyK Try.prog Try.f59 K)))) (f59_g0 parts l_a1 iv0) =
  f59_step0 K X0 parts l_a1 iv0 := by kernel_rfl
theorem f59_loop0 (K : List PA → Prop) (parts : Int) (l_a1 : (Sl FluxRow)) (iv0 : Int)
  (h : ∀ X0 : St → Prop, (∀ (iv0 : Int), f59_step0 K X0 parts l_a1 iv0 → X0 (f59_g0 parts l_a1 iv0)) → X0 (f59_g0 parts l_a1 iv0)) :
  f59_at0 K parts l_a1 iv0 := by
  have e : f59_at0 K parts l_a1 iv0 = (∀ X : St → Prop, (∀ s, vc Try.prog G59 ann59 (cd (cdF Try.f59 [1, 0, 1, 0]) [0]) (loopK Try.prog ann59 2 X (blockK 0 (sqK Try.prog G59 ann59 (cdF Try.f59 [1, 1]) (bodyK Try.prog Try.f59 K)))) s → X s) → X (f59_g0 parts l_a1 iv0)) := by kernel_rfl
  refine ofEq e ?_
  intro X hX
  refine h X ?_
  intro iv0 hs
  refine hX _ ?_
  have e2 := f59_stepeq0 K X parts l_a1 iv0
  rw [e2]
  exact hs
theorem f59_eq1 (K : List PA → Prop) (X0 : St → Prop) (parts : Int) (l_a1 : (Sl FluxRow)) (iv1 : Int) (t68v1 : Bool) :
  f59_at1 K X0 parts l_a1 iv1 t68v1 =
  (condP t68v1
   (K [.one (.bool false)])
   (X0 (f59_g0 parts l_a1 (w64 (iv1 + (1:Int)))))) := by kernel_rfl
abbrev R59 := Bool
abbrev e59 (r : Bool) : List PA := [.one (.bool r)]
attribute [irreducible] f59_at0 f59_at1
def s59_at1 (S0 : Int → Bool) (parts : Int) (l_a1 : (Sl FluxRow)) (iv1 : Int) (t68v1 : Bool) : Bool :=
  (cond t68v1
   false
   (S0 (w64 (iv1 + (1:Int)))))
def p59_at1 (P0 : Int → Bool) (parts : Int) (l_a1 : (Sl FluxRow)) (iv1 : Int) (t68v1 : Bool) : Bool :=
  (cond t68v1
   true
   (P0 (w64 (iv1 + (1:Int)))))
theorem q59_at1 (K : List PA → Prop) (parts : Int) (l_a1 : (Sl FluxRow))
  (X0 : St → Prop) (P0 : Int → Bool) (S0 : Int → Bool)
  (hX0 : ∀ (iv0 : Int), P0 iv0 = true → K (e59 (S0 iv0)) → X0 (f59_g0 parts l_a1 iv0)) (iv1 : Int) (t68v1 : Bool) (hs : p59_at1 P0 parts l_a1 iv1 t68v1 = true) (hk : K (e59 (s59_at1 S0 parts l_a1 iv1 t68v1))) : f59_at1 K X0 parts l_a1 iv1 t68v1 := by
  refine ofEq (f59_eq1 K X0 parts l_a1 iv1 t68v1) ?_
  unfold p59_at1 at hs
  unfold s59_at1 at hk
  exact (condB_go (K := fun r => K (e59 r))
   (fun hs hk => hk)
   (fun hs hk => (hX0 (w64 (iv1 + (1:Int))) hs hk)) hs hk)
def s59_st0 (parts : Int) (l_a1 : (Sl FluxRow)) (S0 : Int → Bool) (iv0 : Int) : Bool :=
  (cond (decide (iv0 < (l_a1.len : Int)))
   (cond (!(s58 ((l_a1.get iv0.toNat).Energy) (1:Int) (1000000:Int)))
    (s59_at1 S0 parts l_a1 iv0 true)
    (cond (!(s29 ((l_a1.get iv0.toNat).Rate) (0:Int) parts))
     (s59_at1 S0 parts l_a1 iv0 true)
     (cond (decide (iv0 > (0:Int)))
      (cond (decide ((l_a1.get iv0.toNat).Energy ≤ (l_a1.get ((w64 (iv0 - (1:Int))).toNat)).Energy))
       (s59_at1 S0 parts l_a1 iv0 true)
       (cond (decide ((l_a1.get iv0.toNat).Rate.Low > (l_a1.get ((w64 (iv0 - (1:Int))).toNat)).Rate.Low))
        (s59_at1 S0 parts l_a1 iv0 true)
        (s59_at1 S0 parts l_a1 iv0 (decide ((l_a1.get iv0.toNat).Rate.High > (l_a1.get ((w64 (iv0 - (1:Int))).toNat)).Rate.High)))))
      (s59_at1 S0 parts l_a1 iv0 false))))
   (cond (s58 (l_a1.len : Int) (1:Int) (40:Int))
    ((l_a1.get 0).Energy == (1:Int))
    false))
def p59_st0 (parts : Int) (l_a1 : (Sl FluxRow)) (P0 : Int → Bool) (iv0 : Int) : Bool :=
  (cond (decide (iv0 < (l_a1.len : Int)))
   (decide ((0 ≤ iv0 ∧ iv0 < (l_a1.len : Int))) &&
   (cond (!(s58 ((l_a1.get iv0.toNat).Energy) (1:Int) (1000000:Int)))
    (p59_at1 P0 parts l_a1 iv0 true)
    (cond (!(s29 ((l_a1.get iv0.toNat).Rate) (0:Int) parts))
     (p59_at1 P0 parts l_a1 iv0 true)
     (cond (decide (iv0 > (0:Int)))
      (decide ((0 ≤ (w64 (iv0 - (1:Int))) ∧ (w64 (iv0 - (1:Int))) < (l_a1.len : Int))) &&
      (cond (decide ((l_a1.get iv0.toNat).Energy ≤ (l_a1.get ((w64 (iv0 - (1:Int))).toNat)).Energy))
       (p59_at1 P0 parts l_a1 iv0 true)
       (decide ((0 ≤ (w64 (iv0 - (1:Int))) ∧ (w64 (iv0 - (1:Int))) < (l_a1.len : Int))) &&
       (cond (decide ((l_a1.get iv0.toNat).Rate.Low > (l_a1.get ((w64 (iv0 - (1:Int))).toNat)).Rate.Low))
        (p59_at1 P0 parts l_a1 iv0 true)
        (decide ((0 ≤ (w64 (iv0 - (1:Int))) ∧ (w64 (iv0 - (1:Int))) < (l_a1.len : Int))) &&
        (p59_at1 P0 parts l_a1 iv0 (decide ((l_a1.get iv0.toNat).Rate.High > (l_a1.get ((w64 (iv0 - (1:Int))).toNat)).Rate.High))))))))
      (p59_at1 P0 parts l_a1 iv0 false)))))
   (cond (s58 (l_a1.len : Int) (1:Int) (40:Int))
    (decide ((0 ≤ (0:Int) ∧ (0:Int) < (l_a1.len : Int))) &&
    true)
    true))
def s59_lp0 (parts : Int) (l_a1 : (Sl FluxRow)) : Nat → Int → Bool
  | 0 => fun _ => default
  | k + 1 => s59_st0 parts l_a1 (s59_lp0 parts l_a1 k)
def p59_lp0 (parts : Int) (l_a1 : (Sl FluxRow)) : Nat → Int → Bool
  | 0 => fun _ => false
  | k + 1 => p59_st0 parts l_a1 (p59_lp0 parts l_a1 k)
def s59_at0 (parts : Int) (l_a1 : (Sl FluxRow)) (iv0 : Int) : Bool := s59_lp0 parts l_a1 Fuel iv0
def p59_at0 (parts : Int) (l_a1 : (Sl FluxRow)) (iv0 : Int) : Bool := p59_lp0 parts l_a1 Fuel iv0
theorem q59_at0 (K : List PA → Prop) (parts : Int) (l_a1 : (Sl FluxRow)) (iv0 : Int) (hs : p59_at0 parts l_a1 iv0 = true) (hk : K (e59 (s59_at0 parts l_a1 iv0))) : f59_at0 K parts l_a1 iv0 := by
  refine f59_loop0 K parts l_a1 iv0 ?_
  intro X0 hstep
  have key : ∀ (k : Nat) (iv0 : Int), p59_lp0 parts l_a1 k iv0 = true → K (e59 (s59_lp0 parts l_a1 k iv0)) → X0 (f59_g0 parts l_a1 iv0) := by
    intro k
    induction k with
    | zero => intro iv0 hs; exact absurd hs Bool.false_ne_true
    | succ k ih =>
      intro iv0 hs hk
      refine hstep iv0 ?_
      have hs : p59_st0 parts l_a1 (p59_lp0 parts l_a1 k) iv0 = true := hs
      have hk : K (e59 (s59_st0 parts l_a1 (s59_lp0 parts l_a1 k) iv0)) := hk
      unfold p59_st0 at hs
      unfold s59_st0 at hk
      generalize s59_lp0 parts l_a1 k = S0 at hk ih
      generalize p59_lp0 parts l_a1 k = P0 at hs ih
      have hX0 := ih
      exact (condB_go (K := fun r => K (e59 r))
       (fun hs hk => (andK hs fun hc hs => ⟨hc, (condB_go (K := fun r => K (e59 r))
        (fun hs hk => (q59_at1 K parts l_a1 X0 P0 S0 hX0 iv0 true hs hk))
        (fun hs hk => (condB_go (K := fun r => K (e59 r))
         (fun hs hk => (q59_at1 K parts l_a1 X0 P0 S0 hX0 iv0 true hs hk))
         (fun hs hk => (condB_go (K := fun r => K (e59 r))
          (fun hs hk => (andK hs fun hc hs => ⟨hc, (condB_go (K := fun r => K (e59 r))
           (fun hs hk => (q59_at1 K parts l_a1 X0 P0 S0 hX0 iv0 true hs hk))
           (fun hs hk => (andK hs fun hc hs => ⟨hc, (condB_go (K := fun r => K (e59 r))
            (fun hs hk => (q59_at1 K parts l_a1 X0 P0 S0 hX0 iv0 true hs hk))
            (fun hs hk => (andK hs fun hc hs => ⟨hc, (q59_at1 K parts l_a1 X0 P0 S0 hX0 iv0 (decide ((l_a1.get iv0.toNat).Rate.High > (l_a1.get ((w64 (iv0 - (1:Int))).toNat)).Rate.High)) hs hk)⟩)) hs hk)⟩)) hs hk)⟩))
          (fun hs hk => (q59_at1 K parts l_a1 X0 P0 S0 hX0 iv0 false hs hk)) hs hk)) hs hk)) hs hk)⟩))
       (fun hs hk => (condB_go (K := fun r => K (e59 r))
        (fun hs hk => (andK hs fun hc hs => ⟨hc, hk⟩))
        (fun hs hk => hk) hs hk)) hs hk)
  exact key _ iv0 hs hk
def s59 (parts : Int) (l_a1 : (Sl FluxRow)) : Bool :=
  (s59_at0 parts l_a1 (0:Int))
def p59 (parts : Int) (l_a1 : (Sl FluxRow)) : Bool :=
  (p59_at0 parts l_a1 (0:Int))
theorem q59 (parts : Int) (l_a1 : (Sl FluxRow)) (K : List PA → Prop) (hs : p59 parts l_a1 = true) (hk : K (e59 (s59 parts l_a1))) : vcFun Try.prog G59 ann59 59 [.one (.int .i64 parts), .one (.sl l_a1.len 3 (fun i => enc_44 (l_a1.get i)))] K := by
  refine ofEq (f59_top parts l_a1 K) ?_
  unfold p59 at hs
  unfold s59 at hk
  exact (q59_at0 K parts l_a1 (0:Int) hs hk)
def ctr59 : List PA → COut
  | [.one (.int .i64 a0), .one (.sl a1_n a1_s a1_g)] => .det (IsE enc_44 3 a1_s a1_g ∧ p59 a0 (⟨a1_n, decF_44 a1_g⟩ : (Sl FluxRow)) = true) [.one (.bool (s59 a0 (⟨a1_n, decF_44 a1_g⟩ : (Sl FluxRow))))]
  | _ => .no
theorem call59 : Callable Try.prog 59 := ⟨_, rfl, rfl, by kernel_rfl⟩
theorem ok59 : Ok Try.prog 59 ctr59 := ok_tab okT59 call59 fun args K h => by
  unfold ctr59 at h
  split at h
  · rename_i a0 a1_n a1_s a1_g
    obtain ⟨⟨⟨rfl, a1_f, rfl⟩, hs⟩, hk⟩ := h
    try rw [decF_enc_44 a1_f] at hs
    try rw [decF_enc_44 a1_f] at hk
    exact ⟨(fun _ _ => []), (fun _ => false), ann59, q59 a0 (⟨a1_n, a1_f⟩ : (Sl FluxRow)) K hs hk⟩
  · exact h.elim
abbrev T16 : Tabs := (((Tabs.nil.addF 29 ctr29).addF 58 ctr58).addF 59 ctr59)
theorem okT16 : TabsOk Try.prog T16 := (((TabsOk.nil.addF ok29).addF ok58).addF ok59)
abbrev G16 : Ctrs := csm T16 (fun _ _ => []) (fun _ => false)
def ann16 : Ann := ⟨43, [(0, ⟨[1], [1], [], [], []⟩), (1, ⟨[1, 26], [1], [], [], []⟩), (2, ⟨[2], [], [], [], []⟩), (3, ⟨[1, 3], [1], [], [], []⟩), (4, ⟨[1, 3, 31], [1], [], [], []⟩), (5, ⟨[1, 3], [1], [], [], []⟩), (6, ⟨[1, 3, 42], [1], [], [], []⟩), (7, ⟨[2], [], [], [], []⟩), (8, ⟨[2], [], [], [], []⟩)],
  [(4, ⟨[1, 3], [1], [], [], []⟩)],
  [(2, ⟨[1, 26], [1], [], [], []⟩), (3, ⟨[1], [1], [], [], []⟩), (7, ⟨[1, 3, 42], [1], [], [], []⟩)],
  [], []⟩
def f16_g0 (s : Sky) (t26v0 : Bool) (s_1v0_n : Nat) (s_1v0_g : Nat → List PV) : St := ⟨[(1, .one (.c (.ptr 1 0))), (26, .one (.c (.p (.bool t26v0))))], [(1, .box 26 [.p (.int .i64 s.Parts), .p (.sl s_1v0_n 1 s_1v0_g), .p (.int .i64 s.Beta.Low), .p (.int .i64 s.Beta.High), .p (.int .i64 s.Alpha.Low), .p (.int .i64 s.Alpha.High)])], []⟩
def f16_at0 (K : List PA → Prop) (s : Sky) (t26v0 : Bool) (s_1v0_n : Nat) (s_1v0_g : Nat → List PV) : Prop := vc Try.prog G16 ann16 (cdF Try.f16 [1, 0, 1]) (sqK Try.prog G16 ann16 (cdF Try.f16 [1, 1]) (bodyK Try.prog Try.f16 K)) (f16_g0 s t26v0 s_1v0_n s_1v0_g)
def f16_g1 (s : Sky) (s_1v1_n : Nat) (s_1v1_g : Nat → List PV) : St := ⟨[(1, .one (.c (.ptr 1 0)))], [(1, .box 26 [.p (.int .i64 s.Parts), .p (.sl s_1v1_n 1 s_1v1_g), .p (.int .i64 s.Beta.Low), .p (.int .i64 s.Beta.High), .p (.int .i64 s.Alpha.Low), .p (.int .i64 s.Alpha.High)])], []⟩
def f16_at1 (K : List PA → Prop) (s : Sky) (s_1v1_n : Nat) (s_1v1_g : Nat → List PV) : Prop := vc Try.prog G16 ann16 (cdF Try.f16 [1, 1]) (bodyK Try.prog Try.f16 K) (f16_g1 s s_1v1_n s_1v1_g)
def f16_g2 (s : Sky) (iv2 : Int) (s_1v2_n : Nat) (s_1v2_g : Nat → List PV) : St := ⟨[(1, .one (.c (.ptr 1 0))), (3, .one (.c (.p (.int .i64 iv2))))], [(1, .box 26 [.p (.int .i64 s.Parts), .p (.sl s_1v2_n 1 s_1v2_g), .p (.int .i64 s.Beta.Low), .p (.int .i64 s.Beta.High), .p (.int .i64 s.Alpha.Low), .p (.int .i64 s.Alpha.High)])], []⟩
def f16_at2 (K : List PA → Prop) (s : Sky) (iv2 : Int) (s_1v2_n : Nat) (s_1v2_g : Nat → List PV) : Prop := vc Try.prog G16 ann16 (cdF Try.f16 [1, 1, 0, 1, 0]) (blockK 0 (sqK Try.prog G16 ann16 (cdF Try.f16 [1, 1, 1]) (bodyK Try.prog Try.f16 K))) (f16_g2 s iv2 s_1v2_n s_1v2_g)
def f16_g3 (s : Sky) (iv3 : Int) (t42v3 : Bool) (s_1v3_n : Nat) (s_1v3_g : Nat → List PV) : St := ⟨[(1, .one (.c (.ptr 1 0))), (3, .one (.c (.p (.int .i64 iv3)))), (42, .one (.c (.p (.bool t42v3))))], [(1, .box 26 [.p (.int .i64 s.Parts), .p (.sl s_1v3_n 1 s_1v3_g), .p (.int .i64 s.Beta.Low), .p (.int .i64 s.Beta.High), .p (.int .i64 s.Alpha.Low), .p (.int .i64 s.Alpha.High)])], []⟩
def f16_at3 (K : List PA → Prop) (X2 : St → Prop) (s : Sky) (iv3 : Int) (t42v3 : Bool) (s_1v3_n : Nat) (s_1v3_g : Nat → List PV) : Prop := vc Try.prog G16 ann16 (cdF Try.f16 [1, 1, 0, 1, 0, 0, 1, 0, 0, 1]) (blockK 1 (sqK Try.prog G16 ann16 (cdF Try.f16 [1, 1, 0, 1, 0, 0, 1, 1]) (loopK Try.prog ann16 4 X2 (blockK 0 (sqK Try.prog G16 ann16 (cdF Try.f16 [1, 1, 1]) (bodyK Try.prog Try.f16 K)))))) (f16_g3 s iv3 t42v3 s_1v3_n s_1v3_g)
theorem f16_top (s : Sky) (K : List PA → Prop) :
  vcFun Try.prog G16 ann16 16 [.agg [.int .i64 s.Parts, .sl s.Bins.len 1 (fun i => enc_32 (s.Bins.get i)), .int .i64 s.Beta.Low, .int .i64 s.Beta.High, .int .i64 s.Alpha.Low, .int .i64 s.Alpha.High]] K =
  (condP (!(s58 s.Parts (2:Int) (1000000:Int)))
   (f16_at0 K s true s.Bins.len (fun i => enc_32 (s.Bins.get i)))
   (condP (!(s58 (s.Bins.len : Int) (1:Int) (20:Int)))
    (f16_at0 K s true s.Bins.len (fun i => enc_32 (s.Bins.get i)))
    (condP (!(s29 s.Beta (-100:Int) (100:Int)))
     (f16_at0 K s true s.Bins.len (fun i => enc_32 (s.Bins.get i)))
     (f16_at0 K s (!(s29 s.Alpha (-100:Int) (100:Int))) s.Bins.len (fun i => enc_32 (s.Bins.get i)))))) := by kernel_rfl
theorem f16_eq0 (K : List PA → Prop) (s : Sky) (t26v0 : Bool) (s_1v0 : (Sl (Sl FluxRow))) :
  f16_at0 K s t26v0 s_1v0.len (fun i => enc_32 (s_1v0.get i)) =
  (condP t26v0
   (K [.one (.bool false)])
   (f16_at1 K s s_1v0.len (fun i => enc_32 (s_1v0.get i)))) := by kernel_rfl
theorem f16_eq1 (K : List PA → Prop) (s : Sky) (s_1v1 : (Sl (Sl FluxRow))) :
  f16_at1 K s s_1v1.len (fun i => enc_32 (s_1v1.get i)) =
  (f16_at2 K s (0:Int) s_1v1.len (fun i => enc_32 (s_1v1.get i))) := by kernel_rfl
def f16_step2 (K : List PA → Prop) (X2 : St → Prop) (s : Sky) (iv2 : Int) (s_1v2 : (Sl (Sl FluxRow))) : Prop :=
  (condP (decide (iv2 < (s_1v2.len : Int)))
   (((0 ≤ iv2 ∧ iv2 < (s_1v2.len : Int))) ∧
   ((IsE enc_44 3 3 (fun i => enc_44 ((s_1v2.get iv2.toNat).get i)) ∧ (p59 s.Parts (s_1v2.get iv2.toNat) = true)) ∧
   (f16_at3 K X2 s iv2 (!(s59 s.Parts (s_1v2.get iv2.toNat))) s_1v2.len (fun i => enc_32 (s_1v2.get i)))))
   (K [.one (.bool true)]))
theorem f16_stepeq2 (K : List PA → Prop) (X2 : St → Prop) (s : Sky) (iv2 : Int) (s_1v2 : (Sl (Sl FluxRow))) :
  vc Try.prog G16 ann16 (cd (cdF Try.f16 [1, 1, 0, 1, 0]) [0]) (loopK Try.prog ann16 4 X2 (blockK 0 (sqK Try.prog G16 ann16 (cdF Try.f16 [1, 1, 1]) (bodyK Try.prog Try.f16 K)))) (f16_g2 s iv2 s_1v2.len (fun i => enc_32 (s_1v2.get i))) =
  f16_step2 K X2 s iv2 s_1v2 := by kernel_rfl
theorem f16_loop2 (K : List PA → Prop) (s : Sky) (iv2 : Int) (s_1v2_n : Nat) (s_1v2_g : Nat → List PV)
  (h : ∀ X2 : St → Prop, (∀ (iv2 : Int) (s_1v2 : (Sl (Sl FluxRow))), f16_step2 K X2 s iv2 s_1v2 → X2 (f16_g2 s iv2 s_1v2.len (fun i => enc_32 (s_1v2.get i)))) → X2 (f16_g2 s iv2 s_1v2_n s_1v2_g)) :
  f16_at2 K s iv2 s_1v2_n s_1v2_g := by
  have e : f16_at2 K s iv2 s_1v2_n s_1v2_g = (∀ X : St → Prop, (∀ s, vc Try.prog G16 ann16 (cd (cdF Try.f16 [1, 1, 0, 1, 0]) [0]) (loopK Try.prog ann16 4 X (blockK 0 (sqK Try.prog G16 ann16 (cdF Try.f16 [1, 1, 1]) (bodyK Try.prog Try.f16 K)))) s → X s) → X (f16_g2 s iv2 s_1v2_n s_1v2_g)) := by kernel_rfl
  refine ofEq e ?_
  intro X hX
  refine h X ?_
  intro iv2 s_1v2 hs
  refine hX _ ?_
  have e2 := f16_stepeq2 K X s iv2 s_1v2
  rw [e2]
  exact hs
theorem f16_eq3 (K : List PA → Prop) (X2 : St → Prop) (s : Sky) (iv3 : Int) (t42v3 : Bool) (s_1v3 : (Sl (Sl FluxRow))) :
  f16_at3 K X2 s iv3 t42v3 s_1v3.len (fun i => enc_32 (s_1v3.get i)) =
  (condP t42v3
   (K [.one (.bool false)])
   (X2 (f16_g2 s (w64 (iv3 + (1:Int))) s_1v3.len (fun i => enc_32 (s_1v3.get i))))) := by kernel_rfl
abbrev R16 := Bool
abbrev e16 (r : Bool) : List PA := [.one (.bool r)]
attribute [irreducible] f16_at0 f16_at1 f16_at2 f16_at3
def s16_at3 (S2 : Int → (Sl (Sl FluxRow)) → Bool) (s : Sky) (iv3 : Int) (t42v3 : Bool) (s_1v3 : (Sl (Sl FluxRow))) : Bool :=
  (cond t42v3
   false
   (S2 (w64 (iv3 + (1:Int))) s_1v3))
def p16_at3 (P2 : Int → (Sl (Sl FluxRow)) → Bool) (s : Sky) (iv3 : Int) (t42v3 : Bool) (s_1v3 : (Sl (Sl FluxRow))) : Bool :=
  (cond t42v3
   true
   (P2 (w64 (iv3 + (1:Int))) s_1v3))
theorem q16_at3 (K : List PA → Prop) (s : Sky)
  (X2 : St → Prop) (P2 : Int → (Sl (Sl FluxRow)) → Bool) (S2 : Int → (Sl (Sl FluxRow)) → Bool)
  (hX2 : ∀ (iv2 : Int) (s_1v2 : (Sl (Sl FluxRow))) (s_1v2_g : Nat → List PV) (s_1v2_h : s_1v2_g = fun i => enc_32 (s_1v2.get i)), P2 iv2 s_1v2 = true → K (e16 (S2 iv2 s_1v2)) → X2 (f16_g2 s iv2 s_1v2.len s_1v2_g)) (iv3 : Int) (t42v3 : Bool) (s_1v3 : (Sl (Sl FluxRow))) (s_1v3_g : Nat → List PV) (s_1v3_h : s_1v3_g = fun i => enc_32 (s_1v3.get i)) (hs : p16_at3 P2 s iv3 t42v3 s_1v3 = true) (hk : K (e16 (s16_at3 S2 s iv3 t42v3 s_1v3))) : f16_at3 K X2 s iv3 t42v3 s_1v3.len s_1v3_g := by
  subst s_1v3_h
  refine ofEq (f16_eq3 K X2 s iv3 t42v3 s_1v3) ?_
  unfold p16_at3 at hs
  unfold s16_at3 at hk
  exact (condB_go (K := fun r => K (e16 r))
   (fun hs hk => hk)
   (fun hs hk => (hX2 (w64 (iv3 + (1:Int))) s_1v3 (fun i => enc_32 (s_1v3.get i)) rfl hs hk)) hs hk)
def s16_st2 (s : Sky) (S2 : Int → (Sl (Sl FluxRow)) → Bool) (iv2 : Int) (s_1v2 : (Sl (Sl FluxRow))) : Bool :=
  (cond (decide (iv2 < (s_1v2.len : Int)))
   (s16_at3 S2 s iv2 (!(s59 s.Parts (s_1v2.get iv2.toNat))) s_1v2)
   true)
def p16_st2 (s : Sky) (P2 : Int → (Sl (Sl FluxRow)) → Bool) (iv2 : Int) (s_1v2 : (Sl (Sl FluxRow))) : Bool :=
  (cond (decide (iv2 < (s_1v2.len : Int)))
   (decide ((0 ≤ iv2 ∧ iv2 < (s_1v2.len : Int))) &&
   (decide ((p59 s.Parts (s_1v2.get iv2.toNat) = true)) &&
   (p16_at3 P2 s iv2 (!(s59 s.Parts (s_1v2.get iv2.toNat))) s_1v2)))
   true)
def s16_lp2 (s : Sky) : Nat → Int → (Sl (Sl FluxRow)) → Bool
  | 0 => fun _ _ => default
  | k + 1 => s16_st2 s (s16_lp2 s k)
def p16_lp2 (s : Sky) : Nat → Int → (Sl (Sl FluxRow)) → Bool
  | 0 => fun _ _ => false
  | k + 1 => p16_st2 s (p16_lp2 s k)
def s16_at2 (s : Sky) (iv2 : Int) (s_1v2 : (Sl (Sl FluxRow))) : Bool := s16_lp2 s Fuel iv2 s_1v2
def p16_at2 (s : Sky) (iv2 : Int) (s_1v2 : (Sl (Sl FluxRow))) : Bool := p16_lp2 s Fuel iv2 s_1v2
theorem q16_at2 (K : List PA → Prop) (s : Sky) (iv2 : Int) (s_1v2 : (Sl (Sl FluxRow))) (s_1v2_g : Nat → List PV) (s_1v2_h : s_1v2_g = fun i => enc_32 (s_1v2.get i)) (hs : p16_at2 s iv2 s_1v2 = true) (hk : K (e16 (s16_at2 s iv2 s_1v2))) : f16_at2 K s iv2 s_1v2.len s_1v2_g := by
  refine f16_loop2 K s iv2 s_1v2.len s_1v2_g ?_
  intro X2 hstep
  have key : ∀ (k : Nat) (iv2 : Int) (s_1v2 : (Sl (Sl FluxRow))) (s_1v2_g : Nat → List PV) (s_1v2_h : s_1v2_g = fun i => enc_32 (s_1v2.get i)), p16_lp2 s k iv2 s_1v2 = true → K (e16 (s16_lp2 s k iv2 s_1v2)) → X2 (f16_g2 s iv2 s_1v2.len s_1v2_g) := by
    intro k
    induction k with
    | zero => intro iv2 s_1v2 s_1v2_g s_1v2_h hs; exact absurd hs Bool.false_ne_true
    | succ k ih =>
      intro iv2 s_1v2 s_1v2_g s_1v2_h hs hk
      subst s_1v2_h
      refine hstep iv2 s_1v2 ?_
      have hs : p16_st2 s (p16_lp2 s k) iv2 s_1v2 = true := hs
      have hk : K (e16 (s16_st2 s (s16_lp2 s k) iv2 s_1v2)) := hk
      unfold p16_st2 at hs
      unfold s16_st2 at hk
      generalize s16_lp2 s k = S2 at hk ih
      generalize p16_lp2 s k = P2 at hs ih
      have hX2 := ih
      exact (condB_go (K := fun r => K (e16 r))
       (fun hs hk => (andK hs fun hc hs => ⟨hc, (andK hs fun hc hs => ⟨⟨isE, hc⟩, (q16_at3 K s X2 P2 S2 hX2 iv2 (!(s59 s.Parts (s_1v2.get iv2.toNat))) s_1v2 (fun i => enc_32 (s_1v2.get i)) rfl hs hk)⟩)⟩))
       (fun hs hk => hk) hs hk)
  exact key _ iv2 s_1v2 s_1v2_g s_1v2_h hs hk
def s16_at1 (s : Sky) (s_1v1 : (Sl (Sl FluxRow))) : Bool :=
  (s16_at2 s (0:Int) s_1v1)
def p16_at1 (s : Sky) (s_1v1 : (Sl (Sl FluxRow))) : Bool :=
  (p16_at2 s (0:Int) s_1v1)
theorem q16_at1 (K : List PA → Prop) (s : Sky) (s_1v1 : (Sl (Sl FluxRow))) (s_1v1_g : Nat → List PV) (s_1v1_h : s_1v1_g = fun i => enc_32 (s_1v1.get i)) (hs : p16_at1 s s_1v1 = true) (hk : K (e16 (s16_at1 s s_1v1))) : f16_at1 K s s_1v1.len s_1v1_g := by
  subst s_1v1_h
  refine ofEq (f16_eq1 K s s_1v1) ?_
  unfold p16_at1 at hs
  unfold s16_at1 at hk
  exact (q16_at2 K s (0:Int) s_1v1 (fun i => enc_32 (s_1v1.get i)) rfl hs hk)
def s16_at0 (s : Sky) (t26v0 : Bool) (s_1v0 : (Sl (Sl FluxRow))) : Bool :=
  (cond t26v0
   false
   (s16_at1 s s_1v0))
def p16_at0 (s : Sky) (t26v0 : Bool) (s_1v0 : (Sl (Sl FluxRow))) : Bool :=
  (cond t26v0
   true
   (p16_at1 s s_1v0))
theorem q16_at0 (K : List PA → Prop) (s : Sky) (t26v0 : Bool) (s_1v0 : (Sl (Sl FluxRow))) (s_1v0_g : Nat → List PV) (s_1v0_h : s_1v0_g = fun i => enc_32 (s_1v0.get i)) (hs : p16_at0 s t26v0 s_1v0 = true) (hk : K (e16 (s16_at0 s t26v0 s_1v0))) : f16_at0 K s t26v0 s_1v0.len s_1v0_g := by
  subst s_1v0_h
  refine ofEq (f16_eq0 K s t26v0 s_1v0) ?_
  unfold p16_at0 at hs
  unfold s16_at0 at hk
  exact (condB_go (K := fun r => K (e16 r))
   (fun hs hk => hk)
   (fun hs hk => (q16_at1 K s s_1v0 (fun i => enc_32 (s_1v0.get i)) rfl hs hk)) hs hk)
def s16 (s : Sky) : Bool :=
  (cond (!(s58 s.Parts (2:Int) (1000000:Int)))
   (s16_at0 s true s.Bins)
   (cond (!(s58 (s.Bins.len : Int) (1:Int) (20:Int)))
    (s16_at0 s true s.Bins)
    (cond (!(s29 s.Beta (-100:Int) (100:Int)))
     (s16_at0 s true s.Bins)
     (s16_at0 s (!(s29 s.Alpha (-100:Int) (100:Int))) s.Bins))))
def p16 (s : Sky) : Bool :=
  (cond (!(s58 s.Parts (2:Int) (1000000:Int)))
   (p16_at0 s true s.Bins)
   (cond (!(s58 (s.Bins.len : Int) (1:Int) (20:Int)))
    (p16_at0 s true s.Bins)
    (cond (!(s29 s.Beta (-100:Int) (100:Int)))
     (p16_at0 s true s.Bins)
     (p16_at0 s (!(s29 s.Alpha (-100:Int) (100:Int))) s.Bins))))
theorem q16 (s : Sky) (K : List PA → Prop) (hs : p16 s = true) (hk : K (e16 (s16 s))) : vcFun Try.prog G16 ann16 16 [.agg [.int .i64 s.Parts, .sl s.Bins.len 1 (fun i => enc_32 (s.Bins.get i)), .int .i64 s.Beta.Low, .int .i64 s.Beta.High, .int .i64 s.Alpha.Low, .int .i64 s.Alpha.High]] K := by
  refine ofEq (f16_top s K) ?_
  unfold p16 at hs
  unfold s16 at hk
  exact (condB_go (K := fun r => K (e16 r))
   (fun hs hk => (q16_at0 K s true s.Bins (fun i => enc_32 (s.Bins.get i)) rfl hs hk))
   (fun hs hk => (condB_go (K := fun r => K (e16 r))
    (fun hs hk => (q16_at0 K s true s.Bins (fun i => enc_32 (s.Bins.get i)) rfl hs hk))
    (fun hs hk => (condB_go (K := fun r => K (e16 r))
     (fun hs hk => (q16_at0 K s true s.Bins (fun i => enc_32 (s.Bins.get i)) rfl hs hk))
     (fun hs hk => (q16_at0 K s (!(s29 s.Alpha (-100:Int) (100:Int))) s.Bins (fun i => enc_32 (s.Bins.get i)) rfl hs hk)) hs hk)) hs hk)) hs hk)
def ctr16 : List PA → COut
  | [.agg [.int .i64 a0_Parts, .sl a0_Bins_n a0_Bins_s a0_Bins_g, .int .i64 a0_Beta_Low, .int .i64 a0_Beta_High, .int .i64 a0_Alpha_Low, .int .i64 a0_Alpha_High]] => .det (IsE enc_32 1 a0_Bins_s a0_Bins_g ∧ p16 (⟨a0_Parts, (⟨a0_Bins_n, decF_32 a0_Bins_g⟩ : (Sl (Sl FluxRow))), (⟨a0_Beta_Low, a0_Beta_High⟩ : Span), (⟨a0_Alpha_Low, a0_Alpha_High⟩ : Span)⟩ : Sky) = true) [.one (.bool (s16 (⟨a0_Parts, (⟨a0_Bins_n, decF_32 a0_Bins_g⟩ : (Sl (Sl FluxRow))), (⟨a0_Beta_Low, a0_Beta_High⟩ : Span), (⟨a0_Alpha_Low, a0_Alpha_High⟩ : Span)⟩ : Sky)))]
  | _ => .no
theorem call16 : Callable Try.prog 16 := ⟨_, rfl, rfl, by kernel_rfl⟩
theorem ok16 : Ok Try.prog 16 ctr16 := ok_tab okT16 call16 fun args K h => by
  unfold ctr16 at h
  split at h
  · rename_i a0_Parts a0_Bins_n a0_Bins_s a0_Bins_g a0_Beta_Low a0_Beta_High a0_Alpha_Low a0_Alpha_High
    obtain ⟨⟨⟨rfl, a0_Bins_f, rfl⟩, hs⟩, hk⟩ := h
    try rw [decF_enc_32 a0_Bins_f] at hs
    try rw [decF_enc_32 a0_Bins_f] at hk
    exact ⟨(fun _ _ => []), (fun _ => false), ann16, q16 (⟨a0_Parts, (⟨a0_Bins_n, a0_Bins_f⟩ : (Sl (Sl FluxRow))), (⟨a0_Beta_Low, a0_Beta_High⟩ : Span), (⟨a0_Alpha_Low, a0_Alpha_High⟩ : Span)⟩ : Sky) K hs hk⟩
  · exact h.elim
abbrev T17 : Tabs := ((Tabs.nil.addF 29 ctr29).addF 58 ctr58)
theorem okT17 : TabsOk Try.prog T17 := ((TabsOk.nil.addF ok29).addF ok58)
abbrev G17 : Ctrs := csm T17 (fun _ _ => []) (fun _ => false)
def ann17 : Ann := ⟨69, [(0, ⟨[0], [], [], [], []⟩), (1, ⟨[0, 3], [], [], [], []⟩), (2, ⟨[0, 3, 8], [], [], [], []⟩), (3, ⟨[0, 3], [], [], [], []⟩), (4, ⟨[0, 3, 4], [4], [], [], []⟩), (5, ⟨[0, 3, 65], [], [], [], []⟩), (6, ⟨[2], [], [], [], []⟩), (7, ⟨[2], [], [], [], []⟩)],
  [(2, ⟨[0, 3], [], [], [], []⟩)],
  [(6, ⟨[0, 3, 65], [], [], [], []⟩)],
  [], []⟩
def f17_g0 (t : (Sl RangeRow)) (iv0 : Int) : St := ⟨[(0, .one (.c (.p (.sl t.len 3 (fun i => enc_42 (t.get i)))))), (3, .one (.c (.p (.int .i64 iv0))))], [], []⟩
def f17_at0 (K : List PA → Prop) (t : (Sl RangeRow)) (iv0 : Int) : Prop := vc Try.prog G17 ann17 (cdF Try.f17 [1, 0, 1, 0]) (blockK 0 (sqK Try.prog G17 ann17 (cdF Try.f17 [1, 1]) (bodyK Try.prog Try.f17 K))) (f17_g0 t iv0)
def f17_g1 (t : (Sl RangeRow)) (iv1 : Int) (t65v1 : Bool) : St := ⟨[(0, .one (.c (.p (.sl t.len 3 (fun i => enc_42 (t.get i)))))), (3, .one (.c (.p (.int .i64 iv1)))), (65, .one (.c (.p (.bool t65v1))))], [], []⟩
def f17_at1 (K : List PA → Prop) (X0 : St → Prop) (t : (Sl RangeRow)) (iv1 : Int) (t65v1 : Bool) : Prop := vc Try.prog G17 ann17 (cdF Try.f17 [1, 0, 1, 0, 0, 1, 0, 0, 1, 1]) (blockK 1 (sqK Try.prog G17 ann17 (cdF Try.f17 [1, 0, 1, 0, 0, 1, 1]) (loopK Try.prog ann17 2 X0 (blockK 0 (sqK Try.prog G17 ann17 (cdF Try.f17 [1, 1]) (bodyK Try.prog Try.f17 K)))))) (f17_g1 t iv1 t65v1)
theorem f17_top (t : (Sl RangeRow)) (K : List PA → Prop) :
  vcFun Try.prog G17 ann17 17 [.one (.sl t.len 3 (fun i => enc_42 (t.get i)))] K =
  (f17_at0 K t (0:Int)) := by kernel_rfl
def f17_step0 (K : List PA → Prop) (X0 : St → Prop) (t : (Sl RangeRow)) (iv0 : Int) : Prop :=
  (condP (decide (iv0 < (t.len : Int)))
   (((0 ≤ iv0 ∧ iv0 < (t.len : Int))) ∧
   (condP (!(s58 ((t.get iv0.toNat).Energy) (1:Int) (1000000:Int)))
    (f17_at1 K X0 t iv0 true)
    (condP (!(s29 ((t.get iv0.toNat).Range) (0:Int) (1000000:Int)))
     (f17_at1 K X0 t iv0 true)
     (condP (decide (iv0 > (0:Int)))
      (((0 ≤ (w64 (iv0 - (1:Int))) ∧ (w64 (iv0 - (1:Int))) < (t.len : Int))) ∧
      (condP (decide ((t.get iv0.toNat).Energy ≤ (t.get ((w64 (iv0 - (1:Int))).toNat)).Energy))
       (f17_at1 K X0 t iv0 true)
       (((0 ≤ (w64 (iv0 - (1:Int))) ∧ (w64 (iv0 - (1:Int))) < (t.len : Int))) ∧
       (condP (decide ((t.get iv0.toNat).Range.Low < (t.get ((w64 (iv0 - (1:Int))).toNat)).Range.Low))
        (f17_at1 K X0 t iv0 true)
        (((0 ≤ (w64 (iv0 - (1:Int))) ∧ (w64 (iv0 - (1:Int))) < (t.len : Int))) ∧
        (f17_at1 K X0 t iv0 (decide ((t.get iv0.toNat).Range.High < (t.get ((w64 (iv0 - (1:Int))).toNat)).Range.High))))))))
      (f17_at1 K X0 t iv0 false)))))
   (K [.one (.bool (s58 (t.len : Int) (1:Int) (40:Int)))]))
theorem f17_stepeq0 (K : List PA → Prop) (X0 : St → Prop) (t : (Sl RangeRow)) (iv0 : Int) :
  vc Try.prog G17 ann17 (cd (cdF Try.f17 [1, 0, 1, 0]) [0]) (loopK Try.prog ann17 2 X0 (blockK 0 (sqK Try.prog G17 ann17 (cdF Try.f17 [1, 1]) (bodyK Try.prog Try.f17 K)))) (f17_g0 t iv0) =
  f17_step0 K X0 t iv0 := by kernel_rfl
theorem f17_loop0 (K : List PA → Prop) (t : (Sl RangeRow)) (iv0 : Int)
  (h : ∀ X0 : St → Prop, (∀ (iv0 : Int), f17_step0 K X0 t iv0 → X0 (f17_g0 t iv0)) → X0 (f17_g0 t iv0)) :
  f17_at0 K t iv0 := by
  have e : f17_at0 K t iv0 = (∀ X : St → Prop, (∀ s, vc Try.prog G17 ann17 (cd (cdF Try.f17 [1, 0, 1, 0]) [0]) (loopK Try.prog ann17 2 X (blockK 0 (sqK Try.prog G17 ann17 (cdF Try.f17 [1, 1]) (bodyK Try.prog Try.f17 K)))) s → X s) → X (f17_g0 t iv0)) := by kernel_rfl
  refine ofEq e ?_
  intro X hX
  refine h X ?_
  intro iv0 hs
  refine hX _ ?_
  have e2 := f17_stepeq0 K X t iv0
  rw [e2]
  exact hs
theorem f17_eq1 (K : List PA → Prop) (X0 : St → Prop) (t : (Sl RangeRow)) (iv1 : Int) (t65v1 : Bool) :
  f17_at1 K X0 t iv1 t65v1 =
  (condP t65v1
   (K [.one (.bool false)])
   (X0 (f17_g0 t (w64 (iv1 + (1:Int)))))) := by kernel_rfl
abbrev R17 := Bool
abbrev e17 (r : Bool) : List PA := [.one (.bool r)]
attribute [irreducible] f17_at0 f17_at1
def s17_at1 (S0 : Int → Bool) (t : (Sl RangeRow)) (iv1 : Int) (t65v1 : Bool) : Bool :=
  (cond t65v1
   false
   (S0 (w64 (iv1 + (1:Int)))))
def p17_at1 (P0 : Int → Bool) (t : (Sl RangeRow)) (iv1 : Int) (t65v1 : Bool) : Bool :=
  (cond t65v1
   true
   (P0 (w64 (iv1 + (1:Int)))))
theorem q17_at1 (K : List PA → Prop) (t : (Sl RangeRow))
  (X0 : St → Prop) (P0 : Int → Bool) (S0 : Int → Bool)
  (hX0 : ∀ (iv0 : Int), P0 iv0 = true → K (e17 (S0 iv0)) → X0 (f17_g0 t iv0)) (iv1 : Int) (t65v1 : Bool) (hs : p17_at1 P0 t iv1 t65v1 = true) (hk : K (e17 (s17_at1 S0 t iv1 t65v1))) : f17_at1 K X0 t iv1 t65v1 := by
  refine ofEq (f17_eq1 K X0 t iv1 t65v1) ?_
  unfold p17_at1 at hs
  unfold s17_at1 at hk
  exact (condB_go (K := fun r => K (e17 r))
   (fun hs hk => hk)
   (fun hs hk => (hX0 (w64 (iv1 + (1:Int))) hs hk)) hs hk)
def s17_st0 (t : (Sl RangeRow)) (S0 : Int → Bool) (iv0 : Int) : Bool :=
  (cond (decide (iv0 < (t.len : Int)))
   (cond (!(s58 ((t.get iv0.toNat).Energy) (1:Int) (1000000:Int)))
    (s17_at1 S0 t iv0 true)
    (cond (!(s29 ((t.get iv0.toNat).Range) (0:Int) (1000000:Int)))
     (s17_at1 S0 t iv0 true)
     (cond (decide (iv0 > (0:Int)))
      (cond (decide ((t.get iv0.toNat).Energy ≤ (t.get ((w64 (iv0 - (1:Int))).toNat)).Energy))
       (s17_at1 S0 t iv0 true)
       (cond (decide ((t.get iv0.toNat).Range.Low < (t.get ((w64 (iv0 - (1:Int))).toNat)).Range.Low))
        (s17_at1 S0 t iv0 true)
        (s17_at1 S0 t iv0 (decide ((t.get iv0.toNat).Range.High < (t.get ((w64 (iv0 - (1:Int))).toNat)).Range.High)))))
      (s17_at1 S0 t iv0 false))))
   (s58 (t.len : Int) (1:Int) (40:Int)))
def p17_st0 (t : (Sl RangeRow)) (P0 : Int → Bool) (iv0 : Int) : Bool :=
  (cond (decide (iv0 < (t.len : Int)))
   (decide ((0 ≤ iv0 ∧ iv0 < (t.len : Int))) &&
   (cond (!(s58 ((t.get iv0.toNat).Energy) (1:Int) (1000000:Int)))
    (p17_at1 P0 t iv0 true)
    (cond (!(s29 ((t.get iv0.toNat).Range) (0:Int) (1000000:Int)))
     (p17_at1 P0 t iv0 true)
     (cond (decide (iv0 > (0:Int)))
      (decide ((0 ≤ (w64 (iv0 - (1:Int))) ∧ (w64 (iv0 - (1:Int))) < (t.len : Int))) &&
      (cond (decide ((t.get iv0.toNat).Energy ≤ (t.get ((w64 (iv0 - (1:Int))).toNat)).Energy))
       (p17_at1 P0 t iv0 true)
       (decide ((0 ≤ (w64 (iv0 - (1:Int))) ∧ (w64 (iv0 - (1:Int))) < (t.len : Int))) &&
       (cond (decide ((t.get iv0.toNat).Range.Low < (t.get ((w64 (iv0 - (1:Int))).toNat)).Range.Low))
        (p17_at1 P0 t iv0 true)
        (decide ((0 ≤ (w64 (iv0 - (1:Int))) ∧ (w64 (iv0 - (1:Int))) < (t.len : Int))) &&
        (p17_at1 P0 t iv0 (decide ((t.get iv0.toNat).Range.High < (t.get ((w64 (iv0 - (1:Int))).toNat)).Range.High))))))))
      (p17_at1 P0 t iv0 false)))))
   true)
def s17_lp0 (t : (Sl RangeRow)) : Nat → Int → Bool
  | 0 => fun _ => default
  | k + 1 => s17_st0 t (s17_lp0 t k)
def p17_lp0 (t : (Sl RangeRow)) : Nat → Int → Bool
  | 0 => fun _ => false
  | k + 1 => p17_st0 t (p17_lp0 t k)
def s17_at0 (t : (Sl RangeRow)) (iv0 : Int) : Bool := s17_lp0 t Fuel iv0
def p17_at0 (t : (Sl RangeRow)) (iv0 : Int) : Bool := p17_lp0 t Fuel iv0
theorem q17_at0 (K : List PA → Prop) (t : (Sl RangeRow)) (iv0 : Int) (hs : p17_at0 t iv0 = true) (hk : K (e17 (s17_at0 t iv0))) : f17_at0 K t iv0 := by
  refine f17_loop0 K t iv0 ?_
  intro X0 hstep
  have key : ∀ (k : Nat) (iv0 : Int), p17_lp0 t k iv0 = true → K (e17 (s17_lp0 t k iv0)) → X0 (f17_g0 t iv0) := by
    intro k
    induction k with
    | zero => intro iv0 hs; exact absurd hs Bool.false_ne_true
    | succ k ih =>
      intro iv0 hs hk
      refine hstep iv0 ?_
      have hs : p17_st0 t (p17_lp0 t k) iv0 = true := hs
      have hk : K (e17 (s17_st0 t (s17_lp0 t k) iv0)) := hk
      unfold p17_st0 at hs
      unfold s17_st0 at hk
      generalize s17_lp0 t k = S0 at hk ih
      generalize p17_lp0 t k = P0 at hs ih
      have hX0 := ih
      exact (condB_go (K := fun r => K (e17 r))
       (fun hs hk => (andK hs fun hc hs => ⟨hc, (condB_go (K := fun r => K (e17 r))
        (fun hs hk => (q17_at1 K t X0 P0 S0 hX0 iv0 true hs hk))
        (fun hs hk => (condB_go (K := fun r => K (e17 r))
         (fun hs hk => (q17_at1 K t X0 P0 S0 hX0 iv0 true hs hk))
         (fun hs hk => (condB_go (K := fun r => K (e17 r))
          (fun hs hk => (andK hs fun hc hs => ⟨hc, (condB_go (K := fun r => K (e17 r))
           (fun hs hk => (q17_at1 K t X0 P0 S0 hX0 iv0 true hs hk))
           (fun hs hk => (andK hs fun hc hs => ⟨hc, (condB_go (K := fun r => K (e17 r))
            (fun hs hk => (q17_at1 K t X0 P0 S0 hX0 iv0 true hs hk))
            (fun hs hk => (andK hs fun hc hs => ⟨hc, (q17_at1 K t X0 P0 S0 hX0 iv0 (decide ((t.get iv0.toNat).Range.High < (t.get ((w64 (iv0 - (1:Int))).toNat)).Range.High)) hs hk)⟩)) hs hk)⟩)) hs hk)⟩))
          (fun hs hk => (q17_at1 K t X0 P0 S0 hX0 iv0 false hs hk)) hs hk)) hs hk)) hs hk)⟩))
       (fun hs hk => hk) hs hk)
  exact key _ iv0 hs hk
def s17 (t : (Sl RangeRow)) : Bool :=
  (s17_at0 t (0:Int))
def p17 (t : (Sl RangeRow)) : Bool :=
  (p17_at0 t (0:Int))
theorem q17 (t : (Sl RangeRow)) (K : List PA → Prop) (hs : p17 t = true) (hk : K (e17 (s17 t))) : vcFun Try.prog G17 ann17 17 [.one (.sl t.len 3 (fun i => enc_42 (t.get i)))] K := by
  refine ofEq (f17_top t K) ?_
  unfold p17 at hs
  unfold s17 at hk
  exact (q17_at0 K t (0:Int) hs hk)
def ctr17 : List PA → COut
  | [.one (.sl a0_n a0_s a0_g)] => .det (IsE enc_42 3 a0_s a0_g ∧ p17 (⟨a0_n, decF_42 a0_g⟩ : (Sl RangeRow)) = true) [.one (.bool (s17 (⟨a0_n, decF_42 a0_g⟩ : (Sl RangeRow))))]
  | _ => .no
theorem call17 : Callable Try.prog 17 := ⟨_, rfl, rfl, by kernel_rfl⟩
theorem ok17 : Ok Try.prog 17 ctr17 := ok_tab okT17 call17 fun args K h => by
  unfold ctr17 at h
  split at h
  · rename_i a0_n a0_s a0_g
    obtain ⟨⟨⟨rfl, a0_f, rfl⟩, hs⟩, hk⟩ := h
    try rw [decF_enc_42 a0_f] at hs
    try rw [decF_enc_42 a0_f] at hk
    exact ⟨(fun _ _ => []), (fun _ => false), ann17, q17 (⟨a0_n, a0_f⟩ : (Sl RangeRow)) K hs hk⟩
  · exact h.elim
end Go.Proofs
namespace Go.Proofs
open Go Go.Pm
set_option maxRecDepth 100000
set_option linter.unusedVariables false
attribute [local irreducible] Go.Pm.vcFun Go.Pm.vc Go.Pm.vcIter
abbrev T8 : Tabs := (((((((((Tabs.nil.addF 15 ctr15).addF 16 ctr16).addF 17 ctr17).addF 18 ctr18).addF 19 ctr19).addF 20 ctr20).addF 25 ctr25).addF 29 ctr29).addF 34 ctr34)
theorem okT8 : TabsOk Try.prog T8 := (((((((((TabsOk.nil.addF ok15).addF ok16).addF ok17).addF ok18).addF ok19).addF ok20).addF ok25).addF ok29).addF ok34)
abbrev G8 : Ctrs := csm T8 (fun _ _ => []) (fun _ => false)
def ann8 : Ann := ⟨349, [(0, ⟨[1, 3, 4, 5, 7, 9, 13], [7, 9, 13], [], [], []⟩), (1, ⟨[1, 3, 4, 5, 7, 9, 13, 86], [7, 9, 13], [], [], []⟩), (2, ⟨[14], [], [], [], []⟩), (3, ⟨[1, 3, 4, 5, 7, 9, 13, 123], [7, 9, 13], [], [], []⟩), (4, ⟨[14], [], [], [], []⟩), (5, ⟨[1, 3, 4, 5, 7, 9, 13, 15], [7, 9, 13], [], [], []⟩), (6, ⟨[1, 3, 4, 5, 7, 9, 13, 15, 128], [7, 9, 13], [], [], []⟩), (7, ⟨[1, 3, 4, 5, 7, 9, 13, 15], [7, 9, 13], [], [], []⟩), (8, ⟨[1, 3, 4, 5, 7, 9, 13, 15, 171], [7, 9, 13], [], [], []⟩), (9, ⟨[14], [], [], [], []⟩), (10, ⟨[1, 3, 4, 5, 7, 9, 13, 16], [7, 9, 13], [], [], []⟩), (11, ⟨[1, 3, 4, 5, 7, 9, 13, 16, 180], [7, 9, 13], [], [], []⟩), (12, ⟨[1, 3, 4, 5, 7, 9, 13, 16], [7, 9, 13], [], [], []⟩), (13, ⟨[1, 3, 4, 5, 7, 9, 13, 16, 17, 18], [7, 9, 13, 17, 18], [], [], []⟩), (14, ⟨[1, 3, 4, 5, 7, 9, 13, 16, 221], [7, 9, 13], [], [], []⟩), (15, ⟨[14], [], [], [], []⟩), (16, ⟨[1, 3, 4, 5, 7, 9, 13, 19, 20], [7, 9, 13, 19], [], [], []⟩), (17, ⟨[1, 3, 4, 5, 7, 9, 13, 19, 20, 21, 22], [7, 9, 13, 19, 21], [], [], []⟩), (18, ⟨[1, 3, 4, 5, 7, 9, 13, 19, 20, 21, 22, 23, 24], [7, 9, 13, 19, 21, 23], [], [], []⟩), (19, ⟨[1, 3, 4, 7, 9, 13, 19, 20, 21, 22, 23, 24, 25, 26], [7, 9, 13, 19, 21, 23, 25], [], [], []⟩), (20, ⟨[1, 3, 4, 7, 9, 13, 302], [7, 9, 13], [], [], []⟩), (21, ⟨[14], [], [], [], []⟩), (22, ⟨[3, 4, 9, 13, 27, 28], [9, 13, 27], [], [], []⟩), (23, ⟨[27, 28, 29, 30], [27, 29], [], [], []⟩), (24, ⟨[27, 28, 29, 30, 324], [27, 29], [], [], []⟩), (25, ⟨[14], [], [], [], []⟩), (26, ⟨[14], [], [], [], []⟩)],
  [(6, ⟨[1, 3, 4, 5, 7, 9, 13, 15], [7, 9, 13], [], [], []⟩), (11, ⟨[1, 3, 4, 5, 7, 9, 13, 16], [7, 9, 13], [], [], []⟩)],
  [(2, ⟨[1, 3, 4, 5, 7, 9, 13, 86], [7, 9, 13], [], [], []⟩), (3, ⟨[1, 3, 4, 5, 7, 9, 13], [7, 9, 13], [], [], []⟩), (5, ⟨[1, 3, 4, 5, 7, 9, 13], [7, 9, 13], [], [], []⟩), (10, ⟨[1, 3, 4, 5, 7, 9, 13], [7, 9, 13], [], [], []⟩), (16, ⟨[1, 3, 4, 5, 7, 9, 13], [7, 9, 13], [], [], []⟩), (17, ⟨[1, 3, 4, 5, 7, 9, 13, 19, 20], [7, 9, 13, 19], [], [], []⟩), (18, ⟨[1, 3, 4, 5, 7, 9, 13, 19, 20, 21, 22], [7, 9, 13, 19, 21], [], [], []⟩), (19, ⟨[1, 3, 4, 5, 7, 9, 13, 19, 20, 21, 22, 23, 24], [7, 9, 13, 19, 21, 23], [], [], []⟩), (20, ⟨[1, 3, 4, 7, 9, 13, 19, 20, 21, 22, 23, 24, 25, 26], [7, 9, 13, 19, 21, 23, 25], [], [], []⟩), (22, ⟨[1, 3, 4, 7, 9, 13], [7, 9, 13], [], [], []⟩), (23, ⟨[3, 4, 9, 13, 27, 28], [9, 13, 27], [], [], []⟩), (24, ⟨[27, 28, 29, 30], [27, 29], [], [], []⟩), (26, ⟨[27, 28, 29], [27, 29], [], [], []⟩)],
  [], []⟩
def f8_g0 (s : Sky) (t : (Sl RangeRow)) (better : Sky) (bin : Int) (opacity : Int) (rates : Span) (sharperv0_n : Nat) (sharperv0_g : Nat → List PV) (t86v0 : Bool) (s_1v0_n : Nat) (s_1v0_g : Nat → List PV) : St := ⟨[(1, .one (.c (.p (.sl t.len 3 (fun i => enc_42 (t.get i)))))), (3, .one (.c (.p (.sl sharperv0_n 3 sharperv0_g)))), (4, .one (.c (.p (.int .i64 bin)))), (5, .one (.c (.p (.int .i64 opacity)))), (7, .one (.c (.ptr 7 0))), (9, .one (.c (.ptr 9 0))), (13, .one (.c (.ptr 13 0))), (86, .one (.c (.p (.bool t86v0))))], [(7, .box 26 [.p (.int .i64 s.Parts), .p (.sl s_1v0_n 1 s_1v0_g), .p (.int .i64 s.Beta.Low), .p (.int .i64 s.Beta.High), .p (.int .i64 s.Alpha.Low), .p (.int .i64 s.Alpha.High)]), (9, .box 26 [.p (.int .i64 better.Parts), .p (.sl better.Bins.len 1 (fun i => enc_32 (better.Bins.get i))), .p (.int .i64 better.Beta.Low), .p (.int .i64 better.Beta.High), .p (.int .i64 better.Alpha.Low), .p (.int .i64 better.Alpha.High)]), (13, .box 24 [.p (.int .i64 rates.Low), .p (.int .i64 rates.High)])], []⟩
def f8_at0 (K : List PA → Prop) (s : Sky) (t : (Sl RangeRow)) (better : Sky) (bin : Int) (opacity : Int) (rates : Span) (sharperv0_n : Nat) (sharperv0_g : Nat → List PV) (t86v0 : Bool) (s_1v0_n : Nat) (s_1v0_g : Nat → List PV) : Prop := vc Try.prog G8 ann8 (cdF Try.f8 [1, 0, 1]) (sqK Try.prog G8 ann8 (cdF Try.f8 [1, 1]) (bodyK Try.prog Try.f8 K)) (f8_g0 s t better bin opacity rates sharperv0_n sharperv0_g t86v0 s_1v0_n s_1v0_g)
def f8_g1 (s : Sky) (t : (Sl RangeRow)) (better : Sky) (bin : Int) (opacity : Int) (rates : Span) (sharperv1_n : Nat) (sharperv1_g : Nat → List PV) (s_1v1_n : Nat) (s_1v1_g : Nat → List PV) : St := ⟨[(1, .one (.c (.p (.sl t.len 3 (fun i => enc_42 (t.get i)))))), (3, .one (.c (.p (.sl sharperv1_n 3 sharperv1_g)))), (4, .one (.c (.p (.int .i64 bin)))), (5, .one (.c (.p (.int .i64 opacity)))), (7, .one (.c (.ptr 7 0))), (9, .one (.c (.ptr 9 0))), (13, .one (.c (.ptr 13 0)))], [(7, .box 26 [.p (.int .i64 s.Parts), .p (.sl s_1v1_n 1 s_1v1_g), .p (.int .i64 s.Beta.Low), .p (.int .i64 s.Beta.High), .p (.int .i64 s.Alpha.Low), .p (.int .i64 s.Alpha.High)]), (9, .box 26 [.p (.int .i64 better.Parts), .p (.sl better.Bins.len 1 (fun i => enc_32 (better.Bins.get i))), .p (.int .i64 better.Beta.Low), .p (.int .i64 better.Beta.High), .p (.int .i64 better.Alpha.Low), .p (.int .i64 better.Alpha.High)]), (13, .box 24 [.p (.int .i64 rates.Low), .p (.int .i64 rates.High)])], []⟩
def f8_at1 (K : List PA → Prop) (s : Sky) (t : (Sl RangeRow)) (better : Sky) (bin : Int) (opacity : Int) (rates : Span) (sharperv1_n : Nat) (sharperv1_g : Nat → List PV) (s_1v1_n : Nat) (s_1v1_g : Nat → List PV) : Prop := vc Try.prog G8 ann8 (cdF Try.f8 [1, 1]) (bodyK Try.prog Try.f8 K) (f8_g1 s t better bin opacity rates sharperv1_n sharperv1_g s_1v1_n s_1v1_g)
def f8_g2 (s : Sky) (t : (Sl RangeRow)) (better : Sky) (bin : Int) (opacity : Int) (rates : Span) (sharperv2_n : Nat) (sharperv2_g : Nat → List PV) (s_1v2_n : Nat) (s_1v2_g : Nat → List PV) : St := ⟨[(1, .one (.c (.p (.sl t.len 3 (fun i => enc_42 (t.get i)))))), (3, .one (.c (.p (.sl sharperv2_n 3 sharperv2_g)))), (4, .one (.c (.p (.int .i64 bin)))), (5, .one (.c (.p (.int .i64 opacity)))), (7, .one (.c (.ptr 7 0))), (9, .one (.c (.ptr 9 0))), (13, .one (.c (.ptr 13 0)))], [(7, .box 26 [.p (.int .i64 s.Parts), .p (.sl s_1v2_n 1 s_1v2_g), .p (.int .i64 s.Beta.Low), .p (.int .i64 s.Beta.High), .p (.int .i64 s.Alpha.Low), .p (.int .i64 s.Alpha.High)]), (9, .box 26 [.p (.int .i64 better.Parts), .p (.sl better.Bins.len 1 (fun i => enc_32 (better.Bins.get i))), .p (.int .i64 better.Beta.Low), .p (.int .i64 better.Beta.High), .p (.int .i64 better.Alpha.Low), .p (.int .i64 better.Alpha.High)]), (13, .box 24 [.p (.int .i64 rates.Low), .p (.int .i64 rates.High)])], []⟩
def f8_at2 (K : List PA → Prop) (s : Sky) (t : (Sl RangeRow)) (better : Sky) (bin : Int) (opacity : Int) (rates : Span) (sharperv2_n : Nat) (sharperv2_g : Nat → List PV) (s_1v2_n : Nat) (s_1v2_g : Nat → List PV) : Prop := vc Try.prog G8 ann8 (cdF Try.f8 [1, 1, 1]) (bodyK Try.prog Try.f8 K) (f8_g2 s t better bin opacity rates sharperv2_n sharperv2_g s_1v2_n s_1v2_g)
def f8_g3 (s : Sky) (t : (Sl RangeRow)) (better : Sky) (bin : Int) (opacity : Int) (rates : Span) (sharperv2 : (Sl RangeRow)) (s_1v2 : (Sl (Sl FluxRow))) (iv3 : Int) : St := ⟨[(1, .one (.c (.p (.sl t.len 3 (fun i => enc_42 (t.get i)))))), (3, .one (.c (.p (.sl sharperv2.len 3 (fun i => enc_42 (sharperv2.get i)))))), (4, .one (.c (.p (.int .i64 bin)))), (5, .one (.c (.p (.int .i64 opacity)))), (7, .one (.c (.ptr 7 0))), (9, .one (.c (.ptr 9 0))), (13, .one (.c (.ptr 13 0))), (15, .one (.c (.p (.int .i64 iv3))))], [(7, .box 26 [.p (.int .i64 s.Parts), .p (.sl s_1v2.len 1 (fun i => enc_32 (s_1v2.get i))), .p (.int .i64 s.Beta.Low), .p (.int .i64 s.Beta.High), .p (.int .i64 s.Alpha.Low), .p (.int .i64 s.Alpha.High)]), (9, .box 26 [.p (.int .i64 better.Parts), .p (.sl better.Bins.len 1 (fun i => enc_32 (better.Bins.get i))), .p (.int .i64 better.Beta.Low), .p (.int .i64 better.Beta.High), .p (.int .i64 better.Alpha.Low), .p (.int .i64 better.Alpha.High)]), (13, .box 24 [.p (.int .i64 rates.Low), .p (.int .i64 rates.High)])], []⟩
def f8_at3 (K : List PA → Prop) (s : Sky) (t : (Sl RangeRow)) (better : Sky) (bin : Int) (opacity : Int) (rates : Span) (sharperv2 : (Sl RangeRow)) (s_1v2 : (Sl (Sl FluxRow))) (iv3 : Int) : Prop := vc Try.prog G8 ann8 (cdF Try.f8 [1, 1, 1, 0, 1, 0]) (blockK 0 (sqK Try.prog G8 ann8 (cdF Try.f8 [1, 1, 1, 1]) (bodyK Try.prog Try.f8 K))) (f8_g3 s t better bin opacity rates sharperv2 s_1v2 iv3)
def f8_g4 (s : Sky) (t : (Sl RangeRow)) (better : Sky) (bin : Int) (opacity : Int) (rates : Span) (sharperv4_n : Nat) (sharperv4_g : Nat → List PV) (s_1v4_n : Nat) (s_1v4_g : Nat → List PV) : St := ⟨[(1, .one (.c (.p (.sl t.len 3 (fun i => enc_42 (t.get i)))))), (3, .one (.c (.p (.sl sharperv4_n 3 sharperv4_g)))), (4, .one (.c (.p (.int .i64 bin)))), (5, .one (.c (.p (.int .i64 opacity)))), (7, .one (.c (.ptr 7 0))), (9, .one (.c (.ptr 9 0))), (13, .one (.c (.ptr 13 0)))], [(7, .box 26 [.p (.int .i64 s.Parts), .p (.sl s_1v4_n 1 s_1v4_g), .p (.int .i64 s.Beta.Low), .p (.int .i64 s.Beta.High), .p (.int .i64 s.Alpha.Low), .p (.int .i64 s.Alpha.High)]), (9, .box 26 [.p (.int .i64 better.Parts), .p (.sl better.Bins.len 1 (fun i => enc_32 (better.Bins.get i))), .p (.int .i64 better.Beta.Low), .p (.int .i64 better.Beta.High), .p (.int .i64 better.Alpha.Low), .p (.int .i64 better.Alpha.High)]), (13, .box 24 [.p (.int .i64 rates.Low), .p (.int .i64 rates.High)])], []⟩
def f8_at4 (K : List PA → Prop) (s : Sky) (t : (Sl RangeRow)) (better : Sky) (bin : Int) (opacity : Int) (rates : Span) (sharperv4_n : Nat) (sharperv4_g : Nat → List PV) (s_1v4_n : Nat) (s_1v4_g : Nat → List PV) : Prop := vc Try.prog G8 ann8 (cdF Try.f8 [1, 1, 1, 1]) (bodyK Try.prog Try.f8 K) (f8_g4 s t better bin opacity rates sharperv4_n sharperv4_g s_1v4_n s_1v4_g)
def f8_g5 (s : Sky) (t : (Sl RangeRow)) (better : Sky) (bin : Int) (opacity : Int) (rates : Span) (sharperv4 : (Sl RangeRow)) (s_1v4 : (Sl (Sl FluxRow))) (iv5 : Int) : St := ⟨[(1, .one (.c (.p (.sl t.len 3 (fun i => enc_42 (t.get i)))))), (3, .one (.c (.p (.sl sharperv4.len 3 (fun i => enc_42 (sharperv4.get i)))))), (4, .one (.c (.p (.int .i64 bin)))), (5, .one (.c (.p (.int .i64 opacity)))), (7, .one (.c (.ptr 7 0))), (9, .one (.c (.ptr 9 0))), (13, .one (.c (.ptr 13 0))), (16, .one (.c (.p (.int .i64 iv5))))], [(7, .box 26 [.p (.int .i64 s.Parts), .p (.sl s_1v4.len 1 (fun i => enc_32 (s_1v4.get i))), .p (.int .i64 s.Beta.Low), .p (.int .i64 s.Beta.High), .p (.int .i64 s.Alpha.Low), .p (.int .i64 s.Alpha.High)]), (9, .box 26 [.p (.int .i64 better.Parts), .p (.sl better.Bins.len 1 (fun i => enc_32 (better.Bins.get i))), .p (.int .i64 better.Beta.Low), .p (.int .i64 better.Beta.High), .p (.int .i64 better.Alpha.Low), .p (.int .i64 better.Alpha.High)]), (13, .box 24 [.p (.int .i64 rates.Low), .p (.int .i64 rates.High)])], []⟩
def f8_at5 (K : List PA → Prop) (s : Sky) (t : (Sl RangeRow)) (better : Sky) (bin : Int) (opacity : Int) (rates : Span) (sharperv4 : (Sl RangeRow)) (s_1v4 : (Sl (Sl FluxRow))) (iv5 : Int) : Prop := vc Try.prog G8 ann8 (cdF Try.f8 [1, 1, 1, 1, 0, 1, 0]) (blockK 2 (sqK Try.prog G8 ann8 (cdF Try.f8 [1, 1, 1, 1, 1]) (bodyK Try.prog Try.f8 K))) (f8_g5 s t better bin opacity rates sharperv4 s_1v4 iv5)
def f8_g6 (s : Sky) (t : (Sl RangeRow)) (better : Sky) (bin : Int) (opacity : Int) (rates : Span) (sharperv6_n : Nat) (sharperv6_g : Nat → List PV) (s_1v6_n : Nat) (s_1v6_g : Nat → List PV) : St := ⟨[(1, .one (.c (.p (.sl t.len 3 (fun i => enc_42 (t.get i)))))), (3, .one (.c (.p (.sl sharperv6_n 3 sharperv6_g)))), (4, .one (.c (.p (.int .i64 bin)))), (5, .one (.c (.p (.int .i64 opacity)))), (7, .one (.c (.ptr 7 0))), (9, .one (.c (.ptr 9 0))), (13, .one (.c (.ptr 13 0)))], [(7, .box 26 [.p (.int .i64 s.Parts), .p (.sl s_1v6_n 1 s_1v6_g), .p (.int .i64 s.Beta.Low), .p (.int .i64 s.Beta.High), .p (.int .i64 s.Alpha.Low), .p (.int .i64 s.Alpha.High)]), (9, .box 26 [.p (.int .i64 better.Parts), .p (.sl better.Bins.len 1 (fun i => enc_32 (better.Bins.get i))), .p (.int .i64 better.Beta.Low), .p (.int .i64 better.Beta.High), .p (.int .i64 better.Alpha.Low), .p (.int .i64 better.Alpha.High)]), (13, .box 24 [.p (.int .i64 rates.Low), .p (.int .i64 rates.High)])], []⟩
def f8_at6 (K : List PA → Prop) (s : Sky) (t : (Sl RangeRow)) (better : Sky) (bin : Int) (opacity : Int) (rates : Span) (sharperv6_n : Nat) (sharperv6_g : Nat → List PV) (s_1v6_n : Nat) (s_1v6_g : Nat → List PV) : Prop := vc Try.prog G8 ann8 (cdF Try.f8 [1, 1, 1, 1, 1]) (bodyK Try.prog Try.f8 K) (f8_g6 s t better bin opacity rates sharperv6_n sharperv6_g s_1v6_n s_1v6_g)
def f8_g7 (s : Sky) (t : (Sl RangeRow)) (better : Sky) (bin : Int) (opacity : Int) (rates : Span) (sharperv7_n : Nat) (sharperv7_g : Nat → List PV) (ev7 : Int) (s_1v7_n : Nat) (s_1v7_g : Nat → List PV) (a_0v7 : Int) (a_1v7 : Int) : St := ⟨[(1, .one (.c (.p (.sl t.len 3 (fun i => enc_42 (t.get i)))))), (3, .one (.c (.p (.sl sharperv7_n 3 sharperv7_g)))), (4, .one (.c (.p (.int .i64 bin)))), (5, .one (.c (.p (.int .i64 opacity)))), (7, .one (.c (.ptr 7 0))), (9, .one (.c (.ptr 9 0))), (13, .one (.c (.ptr 13 0))), (19, .one (.c (.ptr 19 0))), (20, .one (.c (.p (.int .i64 ev7))))], [(7, .box 26 [.p (.int .i64 s.Parts), .p (.sl s_1v7_n 1 s_1v7_g), .p (.int .i64 s.Beta.Low), .p (.int .i64 s.Beta.High), .p (.int .i64 s.Alpha.Low), .p (.int .i64 s.Alpha.High)]), (9, .box 26 [.p (.int .i64 better.Parts), .p (.sl better.Bins.len 1 (fun i => enc_32 (better.Bins.get i))), .p (.int .i64 better.Beta.Low), .p (.int .i64 better.Beta.High), .p (.int .i64 better.Alpha.Low), .p (.int .i64 better.Alpha.High)]), (13, .box 24 [.p (.int .i64 rates.Low), .p (.int .i64 rates.High)]), (19, .box 24 [.p (.int .i64 a_0v7), .p (.int .i64 a_1v7)])], []⟩
def f8_at7 (K : List PA → Prop) (s : Sky) (t : (Sl RangeRow)) (better : Sky) (bin : Int) (opacity : Int) (rates : Span) (sharperv7_n : Nat) (sharperv7_g : Nat → List PV) (ev7 : Int) (s_1v7_n : Nat) (s_1v7_g : Nat → List PV) (a_0v7 : Int) (a_1v7 : Int) : Prop := vc Try.prog G8 ann8 (cdF Try.f8 [1, 1, 1, 1, 1, 1]) (bodyK Try.prog Try.f8 K) (f8_g7 s t better bin opacity rates sharperv7_n sharperv7_g ev7 s_1v7_n s_1v7_g a_0v7 a_1v7)
def f8_g8 (s : Sky) (t : (Sl RangeRow)) (better : Sky) (bin : Int) (opacity : Int) (rates : Span) (ev7 : Int) (a_0v7 : Int) (a_1v7 : Int) (sharperv8_n : Nat) (sharperv8_g : Nat → List PV) (fv8 : Int) (s_1v8_n : Nat) (s_1v8_g : Nat → List PV) (b_0v8 : Int) (b_1v8 : Int) : St := ⟨[(1, .one (.c (.p (.sl t.len 3 (fun i => enc_42 (t.get i)))))), (3, .one (.c (.p (.sl sharperv8_n 3 sharperv8_g)))), (4, .one (.c (.p (.int .i64 bin)))), (5, .one (.c (.p (.int .i64 opacity)))), (7, .one (.c (.ptr 7 0))), (9, .one (.c (.ptr 9 0))), (13, .one (.c (.ptr 13 0))), (19, .one (.c (.ptr 19 0))), (20, .one (.c (.p (.int .i64 ev7)))), (21, .one (.c (.ptr 21 0))), (22, .one (.c (.p (.int .i64 fv8))))], [(7, .box 26 [.p (.int .i64 s.Parts), .p (.sl s_1v8_n 1 s_1v8_g), .p (.int .i64 s.Beta.Low), .p (.int .i64 s.Beta.High), .p (.int .i64 s.Alpha.Low), .p (.int .i64 s.Alpha.High)]), (9, .box 26 [.p (.int .i64 better.Parts), .p (.sl better.Bins.len 1 (fun i => enc_32 (better.Bins.get i))), .p (.int .i64 better.Beta.Low), .p (.int .i64 better.Beta.High), .p (.int .i64 better.Alpha.Low), .p (.int .i64 better.Alpha.High)]), (13, .box 24 [.p (.int .i64 rates.Low), .p (.int .i64 rates.High)]), (19, .box 24 [.p (.int .i64 a_0v7), .p (.int .i64 a_1v7)]), (21, .box 24 [.p (.int .i64 b_0v8), .p (.int .i64 b_1v8)])], []⟩
def f8_at8 (K : List PA → Prop) (s : Sky) (t : (Sl RangeRow)) (better : Sky) (bin : Int) (opacity : Int) (rates : Span) (ev7 : Int) (a_0v7 : Int) (a_1v7 : Int) (sharperv8_n : Nat) (sharperv8_g : Nat → List PV) (fv8 : Int) (s_1v8_n : Nat) (s_1v8_g : Nat → List PV) (b_0v8 : Int) (b_1v8 : Int) : Prop := vc Try.prog G8 ann8 (cdF Try.f8 [1, 1, 1, 1, 1, 1, 1]) (bodyK Try.prog Try.f8 K) (f8_g8 s t better bin opacity rates ev7 a_0v7 a_1v7 sharperv8_n sharperv8_g fv8 s_1v8_n s_1v8_g b_0v8 b_1v8)
def f8_g9 (s : Sky) (t : (Sl RangeRow)) (better : Sky) (bin : Int) (opacity : Int) (rates : Span) (ev7 : Int) (a_0v7 : Int) (a_1v7 : Int) (fv8 : Int) (b_0v8 : Int) (b_1v8 : Int) (sharperv9_n : Nat) (sharperv9_g : Nat → List PV) (gv9 : Int) (s_1v9_n : Nat) (s_1v9_g : Nat → List PV) (c_0v9 : Int) (c_1v9 : Int) : St := ⟨[(1, .one (.c (.p (.sl t.len 3 (fun i => enc_42 (t.get i)))))), (3, .one (.c (.p (.sl sharperv9_n 3 sharperv9_g)))), (4, .one (.c (.p (.int .i64 bin)))), (5, .one (.c (.p (.int .i64 opacity)))), (7, .one (.c (.ptr 7 0))), (9, .one (.c (.ptr 9 0))), (13, .one (.c (.ptr 13 0))), (19, .one (.c (.ptr 19 0))), (20, .one (.c (.p (.int .i64 ev7)))), (21, .one (.c (.ptr 21 0))), (22, .one (.c (.p (.int .i64 fv8)))), (23, .one (.c (.ptr 23 0))), (24, .one (.c (.p (.int .i64 gv9))))], [(7, .box 26 [.p (.int .i64 s.Parts), .p (.sl s_1v9_n 1 s_1v9_g), .p (.int .i64 s.Beta.Low), .p (.int .i64 s.Beta.High), .p (.int .i64 s.Alpha.Low), .p (.int .i64 s.Alpha.High)]), (9, .box 26 [.p (.int .i64 better.Parts), .p (.sl better.Bins.len 1 (fun i => enc_32 (better.Bins.get i))), .p (.int .i64 better.Beta.Low), .p (.int .i64 better.Beta.High), .p (.int .i64 better.Alpha.Low), .p (.int .i64 better.Alpha.High)]), (13, .box 24 [.p (.int .i64 rates.Low), .p (.int .i64 rates.High)]), (19, .box 24 [.p (.int .i64 a_0v7), .p (.int .i64 a_1v7)]), (21, .box 24 [.p (.int .i64 b_0v8), .p (.int .i64 b_1v8)]), (23, .box 24 [.p (.int .i64 c_0v9), .p (.int .i64 c_1v9)])], []⟩
def f8_at9 (K : List PA → Prop) (s : Sky) (t : (Sl RangeRow)) (better : Sky) (bin : Int) (opacity : Int) (rates : Span) (ev7 : Int) (a_0v7 : Int) (a_1v7 : Int) (fv8 : Int) (b_0v8 : Int) (b_1v8 : Int) (sharperv9_n : Nat) (sharperv9_g : Nat → List PV) (gv9 : Int) (s_1v9_n : Nat) (s_1v9_g : Nat → List PV) (c_0v9 : Int) (c_1v9 : Int) : Prop := vc Try.prog G8 ann8 (cdF Try.f8 [1, 1, 1, 1, 1, 1, 1, 1]) (bodyK Try.prog Try.f8 K) (f8_g9 s t better bin opacity rates ev7 a_0v7 a_1v7 fv8 b_0v8 b_1v8 sharperv9_n sharperv9_g gv9 s_1v9_n s_1v9_g c_0v9 c_1v9)
def f8_g10 (s : Sky) (t : (Sl RangeRow)) (better : Sky) (bin : Int) (rates : Span) (ev7 : Int) (a_0v7 : Int) (a_1v7 : Int) (fv8 : Int) (b_0v8 : Int) (b_1v8 : Int) (gv9 : Int) (c_0v9 : Int) (c_1v9 : Int) (sharperv10_n : Nat) (sharperv10_g : Nat → List PV) (hv10 : Int) (s_1v10_n : Nat) (s_1v10_g : Nat → List PV) (d_0v10 : Int) (d_1v10 : Int) : St := ⟨[(1, .one (.c (.p (.sl t.len 3 (fun i => enc_42 (t.get i)))))), (3, .one (.c (.p (.sl sharperv10_n 3 sharperv10_g)))), (4, .one (.c (.p (.int .i64 bin)))), (7, .one (.c (.ptr 7 0))), (9, .one (.c (.ptr 9 0))), (13, .one (.c (.ptr 13 0))), (19, .one (.c (.ptr 19 0))), (20, .one (.c (.p (.int .i64 ev7)))), (21, .one (.c (.ptr 21 0))), (22, .one (.c (.p (.int .i64 fv8)))), (23, .one (.c (.ptr 23 0))), (24, .one (.c (.p (.int .i64 gv9)))), (25, .one (.c (.ptr 25 0))), (26, .one (.c (.p (.int .i64 hv10))))], [(7, .box 26 [.p (.int .i64 s.Parts), .p (.sl s_1v10_n 1 s_1v10_g), .p (.int .i64 s.Beta.Low), .p (.int .i64 s.Beta.High), .p (.int .i64 s.Alpha.Low), .p (.int .i64 s.Alpha.High)]), (9, .box 26 [.p (.int .i64 better.Parts), .p (.sl better.Bins.len 1 (fun i => enc_32 (better.Bins.get i))), .p (.int .i64 better.Beta.Low), .p (.int .i64 better.Beta.High), .p (.int .i64 better.Alpha.Low), .p (.int .i64 better.Alpha.High)]), (13, .box 24 [.p (.int .i64 rates.Low), .p (.int .i64 rates.High)]), (19, .box 24 [.p (.int .i64 a_0v7), .p (.int .i64 a_1v7)]), (21, .box 24 [.p (.int .i64 b_0v8), .p (.int .i64 b_1v8)]), (23, .box 24 [.p (.int .i64 c_0v9), .p (.int .i64 c_1v9)]), (25, .box 24 [.p (.int .i64 d_0v10), .p (.int .i64 d_1v10)])], []⟩
def f8_at10 (K : List PA → Prop) (s : Sky) (t : (Sl RangeRow)) (better : Sky) (bin : Int) (rates : Span) (ev7 : Int) (a_0v7 : Int) (a_1v7 : Int) (fv8 : Int) (b_0v8 : Int) (b_1v8 : Int) (gv9 : Int) (c_0v9 : Int) (c_1v9 : Int) (sharperv10_n : Nat) (sharperv10_g : Nat → List PV) (hv10 : Int) (s_1v10_n : Nat) (s_1v10_g : Nat → List PV) (d_0v10 : Int) (d_1v10 : Int) : Prop := vc Try.prog G8 ann8 (cdF Try.f8 [1, 1, 1, 1, 1, 1, 1, 1, 1]) (bodyK Try.prog Try.f8 K) (f8_g10 s t better bin rates ev7 a_0v7 a_1v7 fv8 b_0v8 b_1v8 gv9 c_0v9 c_1v9 sharperv10_n sharperv10_g hv10 s_1v10_n s_1v10_g d_0v10 d_1v10)
def f8_g11 (s : Sky) (t : (Sl RangeRow)) (better : Sky) (bin : Int) (rates : Span) (sharperv11_n : Nat) (sharperv11_g : Nat → List PV) (s_1v11_n : Nat) (s_1v11_g : Nat → List PV) : St := ⟨[(1, .one (.c (.p (.sl t.len 3 (fun i => enc_42 (t.get i)))))), (3, .one (.c (.p (.sl sharperv11_n 3 sharperv11_g)))), (4, .one (.c (.p (.int .i64 bin)))), (7, .one (.c (.ptr 7 0))), (9, .one (.c (.ptr 9 0))), (13, .one (.c (.ptr 13 0)))], [(7, .box 26 [.p (.int .i64 s.Parts), .p (.sl s_1v11_n 1 s_1v11_g), .p (.int .i64 s.Beta.Low), .p (.int .i64 s.Beta.High), .p (.int .i64 s.Alpha.Low), .p (.int .i64 s.Alpha.High)]), (9, .box 26 [.p (.int .i64 better.Parts), .p (.sl better.Bins.len 1 (fun i => enc_32 (better.Bins.get i))), .p (.int .i64 better.Beta.Low), .p (.int .i64 better.Beta.High), .p (.int .i64 better.Alpha.Low), .p (.int .i64 better.Alpha.High)]), (13, .box 24 [.p (.int .i64 rates.Low), .p (.int .i64 rates.High)])], []⟩
def f8_at11 (K : List PA → Prop) (s : Sky) (t : (Sl RangeRow)) (better : Sky) (bin : Int) (rates : Span) (sharperv11_n : Nat) (sharperv11_g : Nat → List PV) (s_1v11_n : Nat) (s_1v11_g : Nat → List PV) : Prop := vc Try.prog G8 ann8 (cdF Try.f8 [1, 1, 1, 1, 1, 1, 1, 1, 1, 1]) (bodyK Try.prog Try.f8 K) (f8_g11 s t better bin rates sharperv11_n sharperv11_g s_1v11_n s_1v11_g)
def f8_g12 (better : Sky) (bin : Int) (rates : Span) (sharperv12_n : Nat) (sharperv12_g : Nat → List PV) (iv12 : Int) (x_0v12 : Int) (x_1v12 : Int) : St := ⟨[(3, .one (.c (.p (.sl sharperv12_n 3 sharperv12_g)))), (4, .one (.c (.p (.int .i64 bin)))), (9, .one (.c (.ptr 9 0))), (13, .one (.c (.ptr 13 0))), (27, .one (.c (.ptr 27 0))), (28, .one (.c (.p (.int .i64 iv12))))], [(9, .box 26 [.p (.int .i64 better.Parts), .p (.sl better.Bins.len 1 (fun i => enc_32 (better.Bins.get i))), .p (.int .i64 better.Beta.Low), .p (.int .i64 better.Beta.High), .p (.int .i64 better.Alpha.Low), .p (.int .i64 better.Alpha.High)]), (13, .box 24 [.p (.int .i64 rates.Low), .p (.int .i64 rates.High)]), (27, .box 24 [.p (.int .i64 x_0v12), .p (.int .i64 x_1v12)])], []⟩
def f8_at12 (K : List PA → Prop) (better : Sky) (bin : Int) (rates : Span) (sharperv12_n : Nat) (sharperv12_g : Nat → List PV) (iv12 : Int) (x_0v12 : Int) (x_1v12 : Int) : Prop := vc Try.prog G8 ann8 (cdF Try.f8 [1, 1, 1, 1, 1, 1, 1, 1, 1, 1, 1]) (bodyK Try.prog Try.f8 K) (f8_g12 better bin rates sharperv12_n sharperv12_g iv12 x_0v12 x_1v12)
def f8_g13 (iv12 : Int) (x_0v12 : Int) (x_1v12 : Int) (jv13 : Int) (y_0v13 : Int) (y_1v13 : Int) : St := ⟨[(27, .one (.c (.ptr 27 0))), (28, .one (.c (.p (.int .i64 iv12)))), (29, .one (.c (.ptr 29 0))), (30, .one (.c (.p (.int .i64 jv13))))], [(27, .box 24 [.p (.int .i64 x_0v12), .p (.int .i64 x_1v12)]), (29, .box 24 [.p (.int .i64 y_0v13), .p (.int .i64 y_1v13)])], []⟩
def f8_at13 (K : List PA → Prop) (iv12 : Int) (x_0v12 : Int) (x_1v12 : Int) (jv13 : Int) (y_0v13 : Int) (y_1v13 : Int) : Prop := vc Try.prog G8 ann8 (cdF Try.f8 [1, 1, 1, 1, 1, 1, 1, 1, 1, 1, 1, 1]) (bodyK Try.prog Try.f8 K) (f8_g13 iv12 x_0v12 x_1v12 jv13 y_0v13 y_1v13)
def f8_g14 (iv12 : Int) (x_0v12 : Int) (x_1v12 : Int) (y_0v13 : Int) (y_1v13 : Int) : St := ⟨[(27, .one (.c (.ptr 27 0))), (28, .one (.c (.p (.int .i64 iv12)))), (29, .one (.c (.ptr 29 0)))], [(27, .box 24 [.p (.int .i64 x_0v12), .p (.int .i64 x_1v12)]), (29, .box 24 [.p (.int .i64 y_0v13), .p (.int .i64 y_1v13)])], []⟩
def f8_at14 (K : List PA → Prop) (iv12 : Int) (x_0v12 : Int) (x_1v12 : Int) (y_0v13 : Int) (y_1v13 : Int) : Prop := vc Try.prog G8 ann8 (cdF Try.f8 [1, 1, 1, 1, 1, 1, 1, 1, 1, 1, 1, 1, 1]) (bodyK Try.prog Try.f8 K) (f8_g14 iv12 x_0v12 x_1v12 y_0v13 y_1v13)
theorem f8_top (s : Sky) (t : (Sl RangeRow)) (better : Sky) (sharper : (Sl RangeRow)) (bin : Int) (opacity : Int) (rates : Span) (K : List PA → Prop) :
  vcFun Try.prog G8 ann8 8 [.agg [.int .i64 s.Parts, .sl s.Bins.len 1 (fun i => enc_32 (s.Bins.get i)), .int .i64 s.Beta.Low, .int .i64 s.Beta.High, .int .i64 s.Alpha.Low, .int .i64 s.Alpha.High], .one (.sl t.len 3 (fun i => enc_42 (t.get i))), .agg [.int .i64 better.Parts, .sl better.Bins.len 1 (fun i => enc_32 (better.Bins.get i)), .int .i64 better.Beta.Low, .int .i64 better.Beta.High, .int .i64 better.Alpha.Low, .int .i64 better.Alpha.High], .one (.sl sharper.len 3 (fun i => enc_42 (sharper.get i))), .one (.int .i64 bin), .one (.int .i64 opacity), .agg [.int .i64 rates.Low, .int .i64 rates.High]] K =
  ((IsE enc_32 1 1 (fun i => enc_32 (s.Bins.get i)) ∧ IsE enc_42 3 3 (fun i => enc_42 (t.get i)) ∧ (p15 s t = true)) ∧
  (condP (!(s15 s t))
   (f8_at0 K s t better bin opacity rates sharper.len (fun i => enc_42 (sharper.get i)) true s.Bins.len (fun i => enc_32 (s.Bins.get i)))
   ((IsE enc_32 1 1 (fun i => enc_32 (better.Bins.get i)) ∧ IsE enc_42 3 3 (fun i => enc_42 (sharper.get i)) ∧ (p15 better sharper = true)) ∧
   (condP (!(s15 better sharper))
    (f8_at0 K s t better bin opacity rates sharper.len (fun i => enc_42 (sharper.get i)) true s.Bins.len (fun i => enc_32 (s.Bins.get i)))
    ((IsE enc_32 1 1 (fun i => enc_32 (s.Bins.get i)) ∧ (p16 s = true)) ∧
    (condP (!(s16 s))
     (f8_at0 K s t better bin opacity rates sharper.len (fun i => enc_42 (sharper.get i)) true s.Bins.len (fun i => enc_32 (s.Bins.get i)))
     ((IsE enc_42 3 3 (fun i => enc_42 (t.get i)) ∧ (p17 t = true)) ∧
     (condP (!(s17 t))
      (f8_at0 K s t better bin opacity rates sharper.len (fun i => enc_42 (sharper.get i)) true s.Bins.len (fun i => enc_32 (s.Bins.get i)))
      ((IsE enc_32 1 1 (fun i => enc_32 (better.Bins.get i)) ∧ (p16 better = true)) ∧
      (condP (!(s16 better))
       (f8_at0 K s t better bin opacity rates sharper.len (fun i => enc_42 (sharper.get i)) true s.Bins.len (fun i => enc_32 (s.Bins.get i)))
       ((IsE enc_42 3 3 (fun i => enc_42 (sharper.get i)) ∧ (p17 sharper = true)) ∧
       (condP (!(s17 sharper))
        (f8_at0 K s t better bin opacity rates sharper.len (fun i => enc_42 (sharper.get i)) true s.Bins.len (fun i => enc_32 (s.Bins.get i)))
        (condP (decide (bin < (0:Int)))
         (f8_at0 K s t better bin opacity rates sharper.len (fun i => enc_42 (sharper.get i)) true s.Bins.len (fun i => enc_32 (s.Bins.get i)))
         (condP (decide (bin ≥ (s.Bins.len : Int)))
          (f8_at0 K s t better bin opacity rates sharper.len (fun i => enc_42 (sharper.get i)) true s.Bins.len (fun i => enc_32 (s.Bins.get i)))
          (condP (decide (opacity < (0:Int)))
           (f8_at0 K s t better bin opacity rates sharper.len (fun i => enc_42 (sharper.get i)) true s.Bins.len (fun i => enc_32 (s.Bins.get i)))
           (condP (decide (opacity > (1000000:Int)))
            (f8_at0 K s t better bin opacity rates sharper.len (fun i => enc_42 (sharper.get i)) true s.Bins.len (fun i => enc_32 (s.Bins.get i)))
            (f8_at0 K s t better bin opacity rates sharper.len (fun i => enc_42 (sharper.get i)) (!(s29 rates (0:Int) s.Parts)) s.Bins.len (fun i => enc_32 (s.Bins.get i))))))))))))))))))) := by kernel_rfl
theorem f8_eq0 (K : List PA → Prop) (s : Sky) (t : (Sl RangeRow)) (better : Sky) (bin : Int) (opacity : Int) (rates : Span) (sharperv0 : (Sl RangeRow)) (t86v0 : Bool) (s_1v0 : (Sl (Sl FluxRow))) :
  f8_at0 K s t better bin opacity rates sharperv0.len (fun i => enc_42 (sharperv0.get i)) t86v0 s_1v0.len (fun i => enc_32 (s_1v0.get i)) =
  (condP t86v0
   (K [.one (.bool true)])
   (f8_at1 K s t better bin opacity rates sharperv0.len (fun i => enc_42 (sharperv0.get i)) s_1v0.len (fun i => enc_32 (s_1v0.get i)))) := by kernel_rfl
theorem f8_eq1 (K : List PA → Prop) (s : Sky) (t : (Sl RangeRow)) (better : Sky) (bin : Int) (opacity : Int) (rates : Span) (sharperv1 : (Sl RangeRow)) (s_1v1 : (Sl (Sl FluxRow))) :
  f8_at1 K s t better bin opacity rates sharperv1.len (fun i => enc_42 (sharperv1.get i)) s_1v1.len (fun i => enc_32 (s_1v1.get i)) =
  (condP (better.Parts != s.Parts)
   (K [.one (.bool true)])
   (condP ((better.Bins.len : Int) != (s_1v1.len : Int))
    (K [.one (.bool true)])
    (((0 ≤ bin ∧ bin < (better.Bins.len : Int))) ∧
    (((0 ≤ bin ∧ bin < (s_1v1.len : Int))) ∧
    (condP (((better.Bins.get bin.toNat).len : Int) != ((s_1v1.get bin.toNat).len : Int))
     (K [.one (.bool true)])
     (condP ((sharperv1.len : Int) != (t.len : Int))
      (K [.one (.bool true)])
      (f8_at2 K s t better bin opacity rates sharperv1.len (fun i => enc_42 (sharperv1.get i)) s_1v1.len (fun i => enc_32 (s_1v1.get i))))))))) := by kernel_rfl
theorem f8_eq2 (K : List PA → Prop) (s : Sky) (t : (Sl RangeRow)) (better : Sky) (bin : Int) (opacity : Int) (rates : Span) (sharperv2 : (Sl RangeRow)) (s_1v2 : (Sl (Sl FluxRow))) :
  f8_at2 K s t better bin opacity rates sharperv2.len (fun i => enc_42 (sharperv2.get i)) s_1v2.len (fun i => enc_32 (s_1v2.get i)) =
  (f8_at3 K s t better bin opacity rates sharperv2 s_1v2 (0:Int)) := by kernel_rfl
def f8_step3 (K : List PA → Prop) (X3 : St → Prop) (s : Sky) (t : (Sl RangeRow)) (better : Sky) (bin : Int) (opacity : Int) (rates : Span) (sharperv2 : (Sl RangeRow)) (s_1v2 : (Sl (Sl FluxRow))) (iv3 : Int) : Prop :=
  (condP (decide (iv3 < (t.len : Int)))
   (((0 ≤ iv3 ∧ iv3 < (sharperv2.len : Int))) ∧
   (((0 ≤ iv3 ∧ iv3 < (t.len : Int))) ∧
   (condP ((sharperv2.get iv3.toNat).Energy != (t.get iv3.toNat).Energy)
    (K [.one (.bool true)])
    (((0 ≤ iv3 ∧ iv3 < (sharperv2.len : Int))) ∧
    (((0 ≤ iv3 ∧ iv3 < (t.len : Int))) ∧
    (condP (decide ((sharperv2.get iv3.toNat).Range.Low < (t.get iv3.toNat).Range.Low))
     (K [.one (.bool true)])
     (((0 ≤ iv3 ∧ iv3 < (sharperv2.len : Int))) ∧
     (((0 ≤ iv3 ∧ iv3 < (t.len : Int))) ∧
     (condP (decide ((sharperv2.get iv3.toNat).Range.High > (t.get iv3.toNat).Range.High))
      (K [.one (.bool true)])
      (X3 (f8_g3 s t better bin opacity rates sharperv2 s_1v2 (w64 (iv3 + (1:Int))))))))))))))
   (f8_at4 K s t better bin opacity rates sharperv2.len (fun i => enc_42 (sharperv2.get i)) s_1v2.len (fun i => enc_32 (s_1v2.get i))))
theorem f8_stepeq3 (K : List PA → Prop) (X3 : St → Prop) (s : Sky) (t : (Sl RangeRow)) (better : Sky) (bin : Int) (opacity : Int) (rates : Span) (sharperv2 : (Sl RangeRow)) (s_1v2 : (Sl (Sl FluxRow))) (iv3 : Int) :
  vc Try.prog G8 ann8 (cd (cdF Try.f8 [1, 1, 1, 0, 1, 0]) [0]) (loopK Try.prog ann8 6 X3 (blockK 0 (sqK Try.prog G8 ann8 (cdF Try.f8 [1, 1, 1, 1]) (bodyK Try.prog Try.f8 K)))) (f8_g3 s t better bin opacity rates sharperv2 s_1v2 iv3) =
  f8_step3 K X3 s t better bin opacity rates sharperv2 s_1v2 iv3 := by kernel_rfl
theorem f8_loop3 (K : List PA → Prop) (s : Sky) (t : (Sl RangeRow)) (better : Sky) (bin : Int) (opacity : Int) (rates : Span) (sharperv2 : (Sl RangeRow)) (s_1v2 : (Sl (Sl FluxRow))) (iv3 : Int)
  (h : ∀ X3 : St → Prop, (∀ (iv3 : Int), f8_step3 K X3 s t better bin opacity rates sharperv2 s_1v2 iv3 → X3 (f8_g3 s t better bin opacity rates sharperv2 s_1v2 iv3)) → X3 (f8_g3 s t better bin opacity rates sharperv2 s_1v2 iv3)) :
  f8_at3 K s t better bin opacity rates sharperv2 s_1v2 iv3 := by
  have e : f8_at3 K s t better bin opacity rates sharperv2 s_1v2 iv3 = (∀ X : St → Prop, (∀ s, vc Try.prog G8 ann8 (cd (cdF Try.f8 [1, 1, 1, 0, 1, 0]) [0]) (loopK Try.prog ann8 6 X (blockK 0 (sqK Try.prog G8 ann8 (cdF Try.f8 [1, 1, 1, 1]) (bodyK Try.prog Try.f8 K)))) s → X s) → X (f8_g3 s t better bin opacity rates sharperv2 s_1v2 iv3)) := by kernel_rfl
  refine ofEq e ?_
  intro X hX
  refine h X ?_
  intro iv3 hs
  refine hX _ ?_
  have e2 := f8_stepeq3 K X s t better bin opacity rates sharperv2 s_1v2 iv3
  rw [e2]
  exact hs
theorem f8_eq4 (K : List PA → Prop) (s : Sky) (t : (Sl RangeRow)) (better : Sky) (bin : Int) (opacity : Int) (rates : Span) (sharperv4 : (Sl RangeRow)) (s_1v4 : (Sl (Sl FluxRow))) :
  f8_at4 K s t better bin opacity rates sharperv4.len (fun i => enc_42 (sharperv4.get i)) s_1v4.len (fun i => enc_32 (s_1v4.get i)) =
  (f8_at5 K s t better bin opacity rates sharperv4 s_1v4 (0:Int)) := by kernel_rfl
def f8_step5 (K : List PA → Prop) (X5 : St → Prop) (s : Sky) (t : (Sl RangeRow)) (better : Sky) (bin : Int) (opacity : Int) (rates : Span) (sharperv4 : (Sl RangeRow)) (s_1v4 : (Sl (Sl FluxRow))) (iv5 : Int) : Prop :=
  (((0 ≤ bin ∧ bin < (s_1v4.len : Int))) ∧
  (condP (decide (iv5 < ((s_1v4.get bin.toNat).len : Int)))
   (((0 ≤ bin ∧ bin < (better.Bins.len : Int))) ∧
   (((0 ≤ iv5 ∧ iv5 < ((better.Bins.get bin.toNat).len : Int))) ∧
   (((0 ≤ bin ∧ bin < (s_1v4.len : Int))) ∧
   (((0 ≤ iv5 ∧ iv5 < ((s_1v4.get bin.toNat).len : Int))) ∧
   (condP (((better.Bins.get bin.toNat).get iv5.toNat).Energy != ((s_1v4.get bin.toNat).get iv5.toNat).Energy)
    (K [.one (.bool true)])
    (condP (decide (((better.Bins.get bin.toNat).get iv5.toNat).Rate.Low < ((s_1v4.get bin.toNat).get iv5.toNat).Rate.Low))
     (K [.one (.bool true)])
     (condP (decide (((better.Bins.get bin.toNat).get iv5.toNat).Rate.High > ((s_1v4.get bin.toNat).get iv5.toNat).Rate.High))
      (K [.one (.bool true)])
      (X5 (f8_g5 s t better bin opacity rates sharperv4 s_1v4 (w64 (iv5 + (1:Int))))))))))))
   (f8_at6 K s t better bin opacity rates sharperv4.len (fun i => enc_42 (sharperv4.get i)) s_1v4.len (fun i => enc_32 (s_1v4.get i)))))
theorem f8_stepeq5 (K : List PA → Prop) (X5 : St → Prop) (s : Sky) (t : (Sl RangeRow)) (better : Sky) (bin : Int) (opacity : Int) (rates : Span) (sharperv4 : (Sl RangeRow)) (s_1v4 : (Sl (Sl FluxRow))) (iv5 : Int) :
  vc Try.prog G8 ann8 (cd (cdF Try.f8 [1, 1, 1, 1, 0, 1, 0]) [0]) (loopK Try.prog ann8 11 X5 (blockK 2 (sqK Try.prog G8 ann8 (cdF Try.f8 [1, 1, 1, 1, 1]) (bodyK Try.prog Try.f8 K)))) (f8_g5 s t better bin opacity rates sharperv4 s_1v4 iv5) =
  f8_step5 K X5 s t better bin opacity rates sharperv4 s_1v4 iv5 := by kernel_rfl
theorem f8_loop5 (K : List PA → Prop) (s : Sky) (t : (Sl RangeRow)) (better : Sky) (bin : Int) (opacity : Int) (rates : Span) (sharperv4 : (Sl RangeRow)) (s_1v4 : (Sl (Sl FluxRow))) (iv5 : Int)
  (h : ∀ X5 : St → Prop, (∀ (iv5 : Int), f8_step5 K X5 s t better bin opacity rates sharperv4 s_1v4 iv5 → X5 (f8_g5 s t better bin opacity rates sharperv4 s_1v4 iv5)) → X5 (f8_g5 s t better bin opacity rates sharperv4 s_1v4 iv5)) :
  f8_at5 K s t better bin opacity rates sharperv4 s_1v4 iv5 := by
  have e : f8_at5 K s t better bin opacity rates sharperv4 s_1v4 iv5 = (∀ X : St → Prop, (∀ s, vc Try.prog G8 ann8 (cd (cdF Try.f8 [1, 1, 1, 1, 0, 1, 0]) [0]) (loopK Try.prog ann8 11 X (blockK 2 (sqK Try.prog G8 ann8 (cdF Try.f8 [1, 1, 1, 1, 1]) (bodyK Try.prog Try.f8 K)))) s → X s) → X (f8_g5 s t better bin opacity rates sharperv4 s_1v4 iv5)) := by kernel_rfl
  refine ofEq e ?_
  intro X hX
  refine h X ?_
  intro iv5 hs
  refine hX _ ?_
  have e2 := f8_stepeq5 K X s t better bin opacity rates sharperv4 s_1v4 iv5
  rw [e2]
  exact hs
theorem f8_eq6 (K : List PA → Prop) (s : Sky) (t : (Sl RangeRow)) (better : Sky) (bin : Int) (opacity : Int) (rates : Span) (sharperv6 : (Sl RangeRow)) (s_1v6 : (Sl (Sl FluxRow))) :
  f8_at6 K s t better bin opacity rates sharperv6.len (fun i => enc_42 (sharperv6.get i)) s_1v6.len (fun i => enc_32 (s_1v6.get i)) =
  ((IsE enc_42 3 3 (fun i => enc_42 (t.get i)) ∧ (p19 t opacity = true)) ∧
  (f8_at7 K s t better bin opacity rates sharperv6.len (fun i => enc_42 (sharperv6.get i)) ((s19 t opacity).2) s_1v6.len (fun i => enc_32 (s_1v6.get i)) (((s19 t opacity).1).Low) (((s19 t opacity).1).High))) := by kernel_rfl
theorem f8_eq7 (K : List PA → Prop) (s : Sky) (t : (Sl RangeRow)) (better : Sky) (bin : Int) (opacity : Int) (rates : Span) (sharperv7 : (Sl RangeRow)) (ev7 : Int) (s_1v7 : (Sl (Sl FluxRow))) (a_0v7 : Int) (a_1v7 : Int) :
  f8_at7 K s t better bin opacity rates sharperv7.len (fun i => enc_42 (sharperv7.get i)) ev7 s_1v7.len (fun i => enc_32 (s_1v7.get i)) a_0v7 a_1v7 =
  ((IsE enc_42 3 3 (fun i => enc_42 (sharperv7.get i)) ∧ (p19 sharperv7 opacity = true)) ∧
  (f8_at8 K s t better bin opacity rates ev7 a_0v7 a_1v7 sharperv7.len (fun i => enc_42 (sharperv7.get i)) ((s19 sharperv7 opacity).2) s_1v7.len (fun i => enc_32 (s_1v7.get i)) (((s19 sharperv7 opacity).1).Low) (((s19 sharperv7 opacity).1).High))) := by kernel_rfl
theorem f8_eq8 (K : List PA → Prop) (s : Sky) (t : (Sl RangeRow)) (better : Sky) (bin : Int) (opacity : Int) (rates : Span) (ev7 : Int) (a_0v7 : Int) (a_1v7 : Int) (sharperv8 : (Sl RangeRow)) (fv8 : Int) (s_1v8 : (Sl (Sl FluxRow))) (b_0v8 : Int) (b_1v8 : Int) :
  f8_at8 K s t better bin opacity rates ev7 a_0v7 a_1v7 sharperv8.len (fun i => enc_42 (sharperv8.get i)) fv8 s_1v8.len (fun i => enc_32 (s_1v8.get i)) b_0v8 b_1v8 =
  ((IsE enc_32 1 1 (fun i => enc_32 (s_1v8.get i)) ∧ IsE enc_42 3 3 (fun i => enc_42 (t.get i)) ∧ (p20 (⟨s.Parts, s_1v8, s.Beta, s.Alpha⟩ : Sky) t bin opacity = true)) ∧
  (f8_at9 K s t better bin opacity rates ev7 a_0v7 a_1v7 fv8 b_0v8 b_1v8 sharperv8.len (fun i => enc_42 (sharperv8.get i)) ((s20 (⟨s.Parts, s_1v8, s.Beta, s.Alpha⟩ : Sky) t bin opacity).2) s_1v8.len (fun i => enc_32 (s_1v8.get i)) (((s20 (⟨s.Parts, s_1v8, s.Beta, s.Alpha⟩ : Sky) t bin opacity).1).Low) (((s20 (⟨s.Parts, s_1v8, s.Beta, s.Alpha⟩ : Sky) t bin opacity).1).High))) := by kernel_rfl
theorem f8_eq9 (K : List PA → Prop) (s : Sky) (t : (Sl RangeRow)) (better : Sky) (bin : Int) (opacity : Int) (rates : Span) (ev7 : Int) (a_0v7 : Int) (a_1v7 : Int) (fv8 : Int) (b_0v8 : Int) (b_1v8 : Int) (sharperv9 : (Sl RangeRow)) (gv9 : Int) (s_1v9 : (Sl (Sl FluxRow))) (c_0v9 : Int) (c_1v9 : Int) :
  f8_at9 K s t better bin opacity rates ev7 a_0v7 a_1v7 fv8 b_0v8 b_1v8 sharperv9.len (fun i => enc_42 (sharperv9.get i)) gv9 s_1v9.len (fun i => enc_32 (s_1v9.get i)) c_0v9 c_1v9 =
  ((IsE enc_32 1 1 (fun i => enc_32 (better.Bins.get i)) ∧ IsE enc_42 3 3 (fun i => enc_42 (sharperv9.get i)) ∧ (p20 better sharperv9 bin opacity = true)) ∧
  (f8_at10 K s t better bin rates ev7 a_0v7 a_1v7 fv8 b_0v8 b_1v8 gv9 c_0v9 c_1v9 sharperv9.len (fun i => enc_42 (sharperv9.get i)) ((s20 better sharperv9 bin opacity).2) s_1v9.len (fun i => enc_32 (s_1v9.get i)) (((s20 better sharperv9 bin opacity).1).Low) (((s20 better sharperv9 bin opacity).1).High))) := by kernel_rfl
theorem f8_eq10 (K : List PA → Prop) (s : Sky) (t : (Sl RangeRow)) (better : Sky) (bin : Int) (rates : Span) (ev7 : Int) (a_0v7 : Int) (a_1v7 : Int) (fv8 : Int) (b_0v8 : Int) (b_1v8 : Int) (gv9 : Int) (c_0v9 : Int) (c_1v9 : Int) (sharperv10 : (Sl RangeRow)) (hv10 : Int) (s_1v10 : (Sl (Sl FluxRow))) (d_0v10 : Int) (d_1v10 : Int) :
  f8_at10 K s t better bin rates ev7 a_0v7 a_1v7 fv8 b_0v8 b_1v8 gv9 c_0v9 c_1v9 sharperv10.len (fun i => enc_42 (sharperv10.get i)) hv10 s_1v10.len (fun i => enc_32 (s_1v10.get i)) d_0v10 d_1v10 =
  (condP (ev7 != (0:Int))
   (K [.one (.bool false)])
   (condP (fv8 != (0:Int))
    (K [.one (.bool false)])
    (condP (gv9 != (0:Int))
     (K [.one (.bool false)])
     (condP (hv10 != (0:Int))
      (K [.one (.bool false)])
      (condP (decide (b_0v8 < a_0v7))
       (K [.one (.bool false)])
       (condP (a_1v7 != (-1:Int))
        (condP (b_1v8 == (-1:Int))
         (K [.one (.bool false)])
         (condP (decide (b_1v8 > a_1v7))
          (K [.one (.bool false)])
          (condP (decide (d_0v10 < c_0v9))
           (K [.one (.bool false)])
           (condP (decide (d_1v10 > c_1v9))
            (K [.one (.bool false)])
            (f8_at11 K s t better bin rates sharperv10.len (fun i => enc_42 (sharperv10.get i)) s_1v10.len (fun i => enc_32 (s_1v10.get i)))))))
        (condP (decide (d_0v10 < c_0v9))
         (K [.one (.bool false)])
         (condP (decide (d_1v10 > c_1v9))
          (K [.one (.bool false)])
          (f8_at11 K s t better bin rates sharperv10.len (fun i => enc_42 (sharperv10.get i)) s_1v10.len (fun i => enc_32 (s_1v10.get i))))))))))) := by kernel_rfl
theorem f8_eq11 (K : List PA → Prop) (s : Sky) (t : (Sl RangeRow)) (better : Sky) (bin : Int) (rates : Span) (sharperv11 : (Sl RangeRow)) (s_1v11 : (Sl (Sl FluxRow))) :
  f8_at11 K s t better bin rates sharperv11.len (fun i => enc_42 (sharperv11.get i)) s_1v11.len (fun i => enc_32 (s_1v11.get i)) =
  ((IsE enc_32 1 1 (fun i => enc_32 (s_1v11.get i)) ∧ IsE enc_42 3 3 (fun i => enc_42 (t.get i)) ∧ IsE enc_56 5 5 (fun _ => (enc_56 (s34 (1:Int)))) ∧ (p25 (⟨s.Parts, s_1v11, s.Beta, s.Alpha⟩ : Sky) t bin rates (⟨1, fun _ => (s34 (1:Int))⟩ : (Sl Spell)) = true)) ∧
  (f8_at12 K better bin rates sharperv11.len (fun i => enc_42 (sharperv11.get i)) ((s25 (⟨s.Parts, s_1v11, s.Beta, s.Alpha⟩ : Sky) t bin rates (⟨1, fun _ => (s34 (1:Int))⟩ : (Sl Spell))).2) (((s25 (⟨s.Parts, s_1v11, s.Beta, s.Alpha⟩ : Sky) t bin rates (⟨1, fun _ => (s34 (1:Int))⟩ : (Sl Spell))).1).Low) (((s25 (⟨s.Parts, s_1v11, s.Beta, s.Alpha⟩ : Sky) t bin rates (⟨1, fun _ => (s34 (1:Int))⟩ : (Sl Spell))).1).High))) := by kernel_rfl
theorem f8_eq12 (K : List PA → Prop) (better : Sky) (bin : Int) (rates : Span) (sharperv12 : (Sl RangeRow)) (iv12 : Int) (x_0v12 : Int) (x_1v12 : Int) :
  f8_at12 K better bin rates sharperv12.len (fun i => enc_42 (sharperv12.get i)) iv12 x_0v12 x_1v12 =
  ((IsE enc_32 1 1 (fun i => enc_32 (better.Bins.get i)) ∧ IsE enc_42 3 3 (fun i => enc_42 (sharperv12.get i)) ∧ IsE enc_56 5 5 (fun _ => (enc_56 (s34 (1:Int)))) ∧ (p25 better sharperv12 bin rates (⟨1, fun _ => (s34 (1:Int))⟩ : (Sl Spell)) = true)) ∧
  (f8_at13 K iv12 x_0v12 x_1v12 ((s25 better sharperv12 bin rates (⟨1, fun _ => (s34 (1:Int))⟩ : (Sl Spell))).2) (((s25 better sharperv12 bin rates (⟨1, fun _ => (s34 (1:Int))⟩ : (Sl Spell))).1).Low) (((s25 better sharperv12 bin rates (⟨1, fun _ => (s34 (1:Int))⟩ : (Sl Spell))).1).High))) := by kernel_rfl
theorem f8_eq13 (K : List PA → Prop) (iv12 : Int) (x_0v12 : Int) (x_1v12 : Int) (jv13 : Int) (y_0v13 : Int) (y_1v13 : Int) :
  f8_at13 K iv12 x_0v12 x_1v12 jv13 y_0v13 y_1v13 =
  (condP (jv13 != (0:Int))
   (condP (jv13 == (5:Int))
    (K [.one (.bool true)])
    (K [.one (.bool false)]))
   (f8_at14 K iv12 x_0v12 x_1v12 y_0v13 y_1v13)) := by kernel_rfl
theorem f8_eq14 (K : List PA → Prop) (iv12 : Int) (x_0v12 : Int) (x_1v12 : Int) (y_0v13 : Int) (y_1v13 : Int) :
  f8_at14 K iv12 x_0v12 x_1v12 y_0v13 y_1v13 =
  (condP (iv12 == (0:Int))
   (condP (decide (y_0v13 ≥ x_0v12))
    (condP (decide (y_1v13 ≤ x_1v12))
     (K [.one (.bool true)])
     (K [.one (.bool false)]))
    (K [.one (.bool false)]))
   (K [.one (.bool false)])) := by kernel_rfl
abbrev R8 := Bool
abbrev e8 (r : Bool) : List PA := [.one (.bool r)]
attribute [irreducible] f8_at0 f8_at1 f8_at2 f8_at3 f8_at4 f8_at5 f8_at6 f8_at7 f8_at8 f8_at9 f8_at10 f8_at11 f8_at12 f8_at13 f8_at14
def s8_at14 (iv12 : Int) (x_0v12 : Int) (x_1v12 : Int) (y_0v13 : Int) (y_1v13 : Int) : Bool :=
  (cond (iv12 == (0:Int))
   (cond (decide (y_0v13 ≥ x_0v12))
    (cond (decide (y_1v13 ≤ x_1v12))
     true
     false)
    false)
   false)
theorem q8_at14 (K : List PA → Prop) (iv12 : Int) (x_0v12 : Int) (x_1v12 : Int) (y_0v13 : Int) (y_1v13 : Int) (hk : K (e8 (s8_at14 iv12 x_0v12 x_1v12 y_0v13 y_1v13))) : f8_at14 K iv12 x_0v12 x_1v12 y_0v13 y_1v13 := by
  refine ofEq (f8_eq14 K iv12 x_0v12 x_1v12 y_0v13 y_1v13) ?_
  unfold s8_at14 at hk
  exact (condP_gt (K := fun r => K (e8 r))
   (fun hk => (condP_gt (K := fun r => K (e8 r))
    (fun hk => (condP_gt (K := fun r => K (e8 r))
     (fun hk => hk)
     (fun hk => hk) hk))
    (fun hk => hk) hk))
   (fun hk => hk) hk)
def s8_at13 (iv12 : Int) (x_0v12 : Int) (x_1v12 : Int) (jv13 : Int) (y_0v13 : Int) (y_1v13 : Int) : Bool :=
  (cond (jv13 != (0:Int))
   (cond (jv13 == (5:Int))
    true
    false)
   (s8_at14 iv12 x_0v12 x_1v12 y_0v13 y_1v13))
theorem q8_at13 (K : List PA → Prop) (iv12 : Int) (x_0v12 : Int) (x_1v12 : Int) (jv13 : Int) (y_0v13 : Int) (y_1v13 : Int) (hk : K (e8 (s8_at13 iv12 x_0v12 x_1v12 jv13 y_0v13 y_1v13))) : f8_at13 K iv12 x_0v12 x_1v12 jv13 y_0v13 y_1v13 := by
  refine ofEq (f8_eq13 K iv12 x_0v12 x_1v12 jv13 y_0v13 y_1v13) ?_
  unfold s8_at13 at hk
  exact (condP_gt (K := fun r => K (e8 r))
   (fun hk => (condP_gt (K := fun r => K (e8 r))
    (fun hk => hk)
    (fun hk => hk) hk))
   (fun hk => (q8_at14 K iv12 x_0v12 x_1v12 y_0v13 y_1v13 hk)) hk)
def s8_at12 (better : Sky) (bin : Int) (rates : Span) (sharperv12 : (Sl RangeRow)) (iv12 : Int) (x_0v12 : Int) (x_1v12 : Int) : Bool :=
  (s8_at13 iv12 x_0v12 x_1v12 ((s25 better sharperv12 bin rates (⟨1, fun _ => (s34 (1:Int))⟩ : (Sl Spell))).2) (((s25 better sharperv12 bin rates (⟨1, fun _ => (s34 (1:Int))⟩ : (Sl Spell))).1).Low) (((s25 better sharperv12 bin rates (⟨1, fun _ => (s34 (1:Int))⟩ : (Sl Spell))).1).High))
def p8_at12 (better : Sky) (bin : Int) (rates : Span) (sharperv12 : (Sl RangeRow)) (iv12 : Int) (x_0v12 : Int) (x_1v12 : Int) : Bool :=
  (decide ((p25 better sharperv12 bin rates (⟨1, fun _ => (s34 (1:Int))⟩ : (Sl Spell)) = true)) &&
  true)
theorem q8_at12 (K : List PA → Prop) (better : Sky) (bin : Int) (rates : Span) (sharperv12 : (Sl RangeRow)) (iv12 : Int) (x_0v12 : Int) (x_1v12 : Int) (sharperv12_g : Nat → List PV) (sharperv12_h : sharperv12_g = fun i => enc_42 (sharperv12.get i)) (hs : p8_at12 better bin rates sharperv12 iv12 x_0v12 x_1v12 = true) (hk : K (e8 (s8_at12 better bin rates sharperv12 iv12 x_0v12 x_1v12))) : f8_at12 K better bin rates sharperv12.len sharperv12_g iv12 x_0v12 x_1v12 := by
  subst sharperv12_h
  refine ofEq (f8_eq12 K better bin rates sharperv12 iv12 x_0v12 x_1v12) ?_
  unfold p8_at12 at hs
  unfold s8_at12 at hk
  exact (andK hs fun hc hs => ⟨⟨isE, isE, isE_c, hc⟩, (q8_at13 K iv12 x_0v12 x_1v12 ((s25 better sharperv12 bin rates (⟨1, fun _ => (s34 (1:Int))⟩ : (Sl Spell))).2) (((s25 better sharperv12 bin rates (⟨1, fun _ => (s34 (1:Int))⟩ : (Sl Spell))).1).Low) (((s25 better sharperv12 bin rates (⟨1, fun _ => (s34 (1:Int))⟩ : (Sl Spell))).1).High) hk)⟩)
def s8_at11 (s : Sky) (t : (Sl RangeRow)) (better : Sky) (bin : Int) (rates : Span) (sharperv11 : (Sl RangeRow)) (s_1v11 : (Sl (Sl FluxRow))) : Bool :=
  (s8_at12 better bin rates sharperv11 ((s25 (⟨s.Parts, s_1v11, s.Beta, s.Alpha⟩ : Sky) t bin rates (⟨1, fun _ => (s34 (1:Int))⟩ : (Sl Spell))).2) (((s25 (⟨s.Parts, s_1v11, s.Beta, s.Alpha⟩ : Sky) t bin rates (⟨1, fun _ => (s34 (1:Int))⟩ : (Sl Spell))).1).Low) (((s25 (⟨s.Parts, s_1v11, s.Beta, s.Alpha⟩ : Sky) t bin rates (⟨1, fun _ => (s34 (1:Int))⟩ : (Sl Spell))).1).High))
def p8_at11 (s : Sky) (t : (Sl RangeRow)) (better : Sky) (bin : Int) (rates : Span) (sharperv11 : (Sl RangeRow)) (s_1v11 : (Sl (Sl FluxRow))) : Bool :=
  (decide ((p25 (⟨s.Parts, s_1v11, s.Beta, s.Alpha⟩ : Sky) t bin rates (⟨1, fun _ => (s34 (1:Int))⟩ : (Sl Spell)) = true)) &&
  (p8_at12 better bin rates sharperv11 ((s25 (⟨s.Parts, s_1v11, s.Beta, s.Alpha⟩ : Sky) t bin rates (⟨1, fun _ => (s34 (1:Int))⟩ : (Sl Spell))).2) (((s25 (⟨s.Parts, s_1v11, s.Beta, s.Alpha⟩ : Sky) t bin rates (⟨1, fun _ => (s34 (1:Int))⟩ : (Sl Spell))).1).Low) (((s25 (⟨s.Parts, s_1v11, s.Beta, s.Alpha⟩ : Sky) t bin rates (⟨1, fun _ => (s34 (1:Int))⟩ : (Sl Spell))).1).High)))
theorem q8_at11 (K : List PA → Prop) (s : Sky) (t : (Sl RangeRow)) (better : Sky) (bin : Int) (rates : Span) (sharperv11 : (Sl RangeRow)) (s_1v11 : (Sl (Sl FluxRow))) (sharperv11_g : Nat → List PV) (sharperv11_h : sharperv11_g = fun i => enc_42 (sharperv11.get i)) (s_1v11_g : Nat → List PV) (s_1v11_h : s_1v11_g = fun i => enc_32 (s_1v11.get i)) (hs : p8_at11 s t better bin rates sharperv11 s_1v11 = true) (hk : K (e8 (s8_at11 s t better bin rates sharperv11 s_1v11))) : f8_at11 K s t better bin rates sharperv11.len sharperv11_g s_1v11.len s_1v11_g := by
  subst sharperv11_h
  subst s_1v11_h
  refine ofEq (f8_eq11 K s t better bin rates sharperv11 s_1v11) ?_
  unfold p8_at11 at hs
  unfold s8_at11 at hk
  exact (andK hs fun hc hs => ⟨⟨isE, isE, isE_c, hc⟩, (q8_at12 K better bin rates sharperv11 ((s25 (⟨s.Parts, s_1v11, s.Beta, s.Alpha⟩ : Sky) t bin rates (⟨1, fun _ => (s34 (1:Int))⟩ : (Sl Spell))).2) (((s25 (⟨s.Parts, s_1v11, s.Beta, s.Alpha⟩ : Sky) t bin rates (⟨1, fun _ => (s34 (1:Int))⟩ : (Sl Spell))).1).Low) (((s25 (⟨s.Parts, s_1v11, s.Beta, s.Alpha⟩ : Sky) t bin rates (⟨1, fun _ => (s34 (1:Int))⟩ : (Sl Spell))).1).High) (fun i => enc_42 (sharperv11.get i)) rfl hs hk)⟩)
def s8_at10 (s : Sky) (t : (Sl RangeRow)) (better : Sky) (bin : Int) (rates : Span) (ev7 : Int) (a_0v7 : Int) (a_1v7 : Int) (fv8 : Int) (b_0v8 : Int) (b_1v8 : Int) (gv9 : Int) (c_0v9 : Int) (c_1v9 : Int) (sharperv10 : (Sl RangeRow)) (hv10 : Int) (s_1v10 : (Sl (Sl FluxRow))) (d_0v10 : Int) (d_1v10 : Int) : Bool :=
  (cond (ev7 != (0:Int))
   false
   (cond (fv8 != (0:Int))
    false
    (cond (gv9 != (0:Int))
     false
     (cond (hv10 != (0:Int))
      false
      (cond (decide (b_0v8 < a_0v7))
       false
       (cond (a_1v7 != (-1:Int))
        (cond (b_1v8 == (-1:Int))
         false
         (cond (decide (b_1v8 > a_1v7))
          false
          (cond (decide (d_0v10 < c_0v9))
           false
           (cond (decide (d_1v10 > c_1v9))
            false
            (s8_at11 s t better bin rates sharperv10 s_1v10)))))
        (cond (decide (d_0v10 < c_0v9))
         false
         (cond (decide (d_1v10 > c_1v9))
          false
          (s8_at11 s t better bin rates sharperv10 s_1v10)))))))))
def p8_at10 (s : Sky) (t : (Sl RangeRow)) (better : Sky) (bin : Int) (rates : Span) (ev7 : Int) (a_0v7 : Int) (a_1v7 : Int) (fv8 : Int) (b_0v8 : Int) (b_1v8 : Int) (gv9 : Int) (c_0v9 : Int) (c_1v9 : Int) (sharperv10 : (Sl RangeRow)) (hv10 : Int) (s_1v10 : (Sl (Sl FluxRow))) (d_0v10 : Int) (d_1v10 : Int) : Bool :=
  (cond (ev7 != (0:Int))
   true
   (cond (fv8 != (0:Int))
    true
    (cond (gv9 != (0:Int))
     true
     (cond (hv10 != (0:Int))
      true
      (cond (decide (b_0v8 < a_0v7))
       true
       (cond (a_1v7 != (-1:Int))
        (cond (b_1v8 == (-1:Int))
         true
         (cond (decide (b_1v8 > a_1v7))
          true
          (cond (decide (d_0v10 < c_0v9))
           true
           (cond (decide (d_1v10 > c_1v9))
            true
            (p8_at11 s t better bin rates sharperv10 s_1v10)))))
        (cond (decide (d_0v10 < c_0v9))
         true
         (cond (decide (d_1v10 > c_1v9))
          true
          (p8_at11 s t better bin rates sharperv10 s_1v10)))))))))
theorem q8_at10 (K : List PA → Prop) (s : Sky) (t : (Sl RangeRow)) (better : Sky) (bin : Int) (rates : Span) (ev7 : Int) (a_0v7 : Int) (a_1v7 : Int) (fv8 : Int) (b_0v8 : Int) (b_1v8 : Int) (gv9 : Int) (c_0v9 : Int) (c_1v9 : Int) (sharperv10 : (Sl RangeRow)) (hv10 : Int) (s_1v10 : (Sl (Sl FluxRow))) (d_0v10 : Int) (d_1v10 : Int) (sharperv10_g : Nat → List PV) (sharperv10_h : sharperv10_g = fun i => enc_42 (sharperv10.get i)) (s_1v10_g : Nat → List PV) (s_1v10_h : s_1v10_g = fun i => enc_32 (s_1v10.get i)) (hs : p8_at10 s t better bin rates ev7 a_0v7 a_1v7 fv8 b_0v8 b_1v8 gv9 c_0v9 c_1v9 sharperv10 hv10 s_1v10 d_0v10 d_1v10 = true) (hk : K (e8 (s8_at10 s t better bin rates ev7 a_0v7 a_1v7 fv8 b_0v8 b_1v8 gv9 c_0v9 c_1v9 sharperv10 hv10 s_1v10 d_0v10 d_1v10))) : f8_at10 K s t better bin rates ev7 a_0v7 a_1v7 fv8 b_0v8 b_1v8 gv9 c_0v9 c_1v9 sharperv10.len sharperv10_g hv10 s_1v10.len s_1v10_g d_0v10 d_1v10 := by
  subst sharperv10_h
  subst s_1v10_h
  refine ofEq (f8_eq10 K s t better bin rates ev7 a_0v7 a_1v7 fv8 b_0v8 b_1v8 gv9 c_0v9 c_1v9 sharperv10 hv10 s_1v10 d_0v10 d_1v10) ?_
  unfold p8_at10 at hs
  unfold s8_at10 at hk
  exact (condB_go (K := fun r => K (e8 r))
   (fun hs hk => hk)
   (fun hs hk => (condB_go (K := fun r => K (e8 r))
    (fun hs hk => hk)
    (fun hs hk => (condB_go (K := fun r => K (e8 r))
     (fun hs hk => hk)
     (fun hs hk => (condB_go (K := fun r => K (e8 r))
      (fun hs hk => hk)
      (fun hs hk => (condB_go (K := fun r => K (e8 r))
       (fun hs hk => hk)
       (fun hs hk => (condB_go (K := fun r => K (e8 r))
        (fun hs hk => (condB_go (K := fun r => K (e8 r))
         (fun hs hk => hk)
         (fun hs hk => (condB_go (K := fun r => K (e8 r))
          (fun hs hk => hk)
          (fun hs hk => (condB_go (K := fun r => K (e8 r))
           (fun hs hk => hk)
           (fun hs hk => (condB_go (K := fun r => K (e8 r))
            (fun hs hk => hk)
            (fun hs hk => (q8_at11 K s t better bin rates sharperv10 s_1v10 (fun i => enc_42 (sharperv10.get i)) rfl (fun i => enc_32 (s_1v10.get i)) rfl hs hk)) hs hk)) hs hk)) hs hk)) hs hk))
        (fun hs hk => (condB_go (K := fun r => K (e8 r))
         (fun hs hk => hk)
         (fun hs hk => (condB_go (K := fun r => K (e8 r))
          (fun hs hk => hk)
          (fun hs hk => (q8_at11 K s t better bin rates sharperv10 s_1v10 (fun i => enc_42 (sharperv10.get i)) rfl (fun i => enc_32 (s_1v10.get i)) rfl hs hk)) hs hk)) hs hk)) hs hk)) hs hk)) hs hk)) hs hk)) hs hk)) hs hk)
def s8_at9 (s : Sky) (t : (Sl RangeRow)) (better : Sky) (bin : Int) (opacity : Int) (rates : Span) (ev7 : Int) (a_0v7 : Int) (a_1v7 : Int) (fv8 : Int) (b_0v8 : Int) (b_1v8 : Int) (sharperv9 : (Sl RangeRow)) (gv9 : Int) (s_1v9 : (Sl (Sl FluxRow))) (c_0v9 : Int) (c_1v9 : Int) : Bool :=
  (s8_at10 s t better bin rates ev7 a_0v7 a_1v7 fv8 b_0v8 b_1v8 gv9 c_0v9 c_1v9 sharperv9 ((s20 better sharperv9 bin opacity).2) s_1v9 (((s20 better sharperv9 bin opacity).1).Low) (((s20 better sharperv9 bin opacity).1).High))
def p8_at9 (s : Sky) (t : (Sl RangeRow)) (better : Sky) (bin : Int) (opacity : Int) (rates : Span) (ev7 : Int) (a_0v7 : Int) (a_1v7 : Int) (fv8 : Int) (b_0v8 : Int) (b_1v8 : Int) (sharperv9 : (Sl RangeRow)) (gv9 : Int) (s_1v9 : (Sl (Sl FluxRow))) (c_0v9 : Int) (c_1v9 : Int) : Bool :=
  (decide ((p20 better sharperv9 bin opacity = true)) &&
  (p8_at10 s t better bin rates ev7 a_0v7 a_1v7 fv8 b_0v8 b_1v8 gv9 c_0v9 c_1v9 sharperv9 ((s20 better sharperv9 bin opacity).2) s_1v9 (((s20 better sharperv9 bin opacity).1).Low) (((s20 better sharperv9 bin opacity).1).High)))
theorem q8_at9 (K : List PA → Prop) (s : Sky) (t : (Sl RangeRow)) (better : Sky) (bin : Int) (opacity : Int) (rates : Span) (ev7 : Int) (a_0v7 : Int) (a_1v7 : Int) (fv8 : Int) (b_0v8 : Int) (b_1v8 : Int) (sharperv9 : (Sl RangeRow)) (gv9 : Int) (s_1v9 : (Sl (Sl FluxRow))) (c_0v9 : Int) (c_1v9 : Int) (sharperv9_g : Nat → List PV) (sharperv9_h : sharperv9_g = fun i => enc_42 (sharperv9.get i)) (s_1v9_g : Nat → List PV) (s_1v9_h : s_1v9_g = fun i => enc_32 (s_1v9.get i)) (hs : p8_at9 s t better bin opacity rates ev7 a_0v7 a_1v7 fv8 b_0v8 b_1v8 sharperv9 gv9 s_1v9 c_0v9 c_1v9 = true) (hk : K (e8 (s8_at9 s t better bin opacity rates ev7 a_0v7 a_1v7 fv8 b_0v8 b_1v8 sharperv9 gv9 s_1v9 c_0v9 c_1v9))) : f8_at9 K s t better bin opacity rates ev7 a_0v7 a_1v7 fv8 b_0v8 b_1v8 sharperv9.len sharperv9_g gv9 s_1v9.len s_1v9_g c_0v9 c_1v9 := by
  subst sharperv9_h
  subst s_1v9_h
  refine ofEq (f8_eq9 K s t better bin opacity rates ev7 a_0v7 a_1v7 fv8 b_0v8 b_1v8 sharperv9 gv9 s_1v9 c_0v9 c_1v9) ?_
  unfold p8_at9 at hs
  unfold s8_at9 at hk
  exact (andK hs fun hc hs => ⟨⟨isE, isE, hc⟩, (q8_at10 K s t better bin rates ev7 a_0v7 a_1v7 fv8 b_0v8 b_1v8 gv9 c_0v9 c_1v9 sharperv9 ((s20 better sharperv9 bin opacity).2) s_1v9 (((s20 better sharperv9 bin opacity).1).Low) (((s20 better sharperv9 bin opacity).1).High) (fun i => enc_42 (sharperv9.get i)) rfl (fun i => enc_32 (s_1v9.get i)) rfl hs hk)⟩)
def s8_at8 (s : Sky) (t : (Sl RangeRow)) (better : Sky) (bin : Int) (opacity : Int) (rates : Span) (ev7 : Int) (a_0v7 : Int) (a_1v7 : Int) (sharperv8 : (Sl RangeRow)) (fv8 : Int) (s_1v8 : (Sl (Sl FluxRow))) (b_0v8 : Int) (b_1v8 : Int) : Bool :=
  (s8_at9 s t better bin opacity rates ev7 a_0v7 a_1v7 fv8 b_0v8 b_1v8 sharperv8 ((s20 (⟨s.Parts, s_1v8, s.Beta, s.Alpha⟩ : Sky) t bin opacity).2) s_1v8 (((s20 (⟨s.Parts, s_1v8, s.Beta, s.Alpha⟩ : Sky) t bin opacity).1).Low) (((s20 (⟨s.Parts, s_1v8, s.Beta, s.Alpha⟩ : Sky) t bin opacity).1).High))
def p8_at8 (s : Sky) (t : (Sl RangeRow)) (better : Sky) (bin : Int) (opacity : Int) (rates : Span) (ev7 : Int) (a_0v7 : Int) (a_1v7 : Int) (sharperv8 : (Sl RangeRow)) (fv8 : Int) (s_1v8 : (Sl (Sl FluxRow))) (b_0v8 : Int) (b_1v8 : Int) : Bool :=
  (decide ((p20 (⟨s.Parts, s_1v8, s.Beta, s.Alpha⟩ : Sky) t bin opacity = true)) &&
  (p8_at9 s t better bin opacity rates ev7 a_0v7 a_1v7 fv8 b_0v8 b_1v8 sharperv8 ((s20 (⟨s.Parts, s_1v8, s.Beta, s.Alpha⟩ : Sky) t bin opacity).2) s_1v8 (((s20 (⟨s.Parts, s_1v8, s.Beta, s.Alpha⟩ : Sky) t bin opacity).1).Low) (((s20 (⟨s.Parts, s_1v8, s.Beta, s.Alpha⟩ : Sky) t bin opacity).1).High)))
theorem q8_at8 (K : List PA → Prop) (s : Sky) (t : (Sl RangeRow)) (better : Sky) (bin : Int) (opacity : Int) (rates : Span) (ev7 : Int) (a_0v7 : Int) (a_1v7 : Int) (sharperv8 : (Sl RangeRow)) (fv8 : Int) (s_1v8 : (Sl (Sl FluxRow))) (b_0v8 : Int) (b_1v8 : Int) (sharperv8_g : Nat → List PV) (sharperv8_h : sharperv8_g = fun i => enc_42 (sharperv8.get i)) (s_1v8_g : Nat → List PV) (s_1v8_h : s_1v8_g = fun i => enc_32 (s_1v8.get i)) (hs : p8_at8 s t better bin opacity rates ev7 a_0v7 a_1v7 sharperv8 fv8 s_1v8 b_0v8 b_1v8 = true) (hk : K (e8 (s8_at8 s t better bin opacity rates ev7 a_0v7 a_1v7 sharperv8 fv8 s_1v8 b_0v8 b_1v8))) : f8_at8 K s t better bin opacity rates ev7 a_0v7 a_1v7 sharperv8.len sharperv8_g fv8 s_1v8.len s_1v8_g b_0v8 b_1v8 := by
  subst sharperv8_h
  subst s_1v8_h
  refine ofEq (f8_eq8 K s t better bin opacity rates ev7 a_0v7 a_1v7 sharperv8 fv8 s_1v8 b_0v8 b_1v8) ?_
  unfold p8_at8 at hs
  unfold s8_at8 at hk
  exact (andK hs fun hc hs => ⟨⟨isE, isE, hc⟩, (q8_at9 K s t better bin opacity rates ev7 a_0v7 a_1v7 fv8 b_0v8 b_1v8 sharperv8 ((s20 (⟨s.Parts, s_1v8, s.Beta, s.Alpha⟩ : Sky) t bin opacity).2) s_1v8 (((s20 (⟨s.Parts, s_1v8, s.Beta, s.Alpha⟩ : Sky) t bin opacity).1).Low) (((s20 (⟨s.Parts, s_1v8, s.Beta, s.Alpha⟩ : Sky) t bin opacity).1).High) (fun i => enc_42 (sharperv8.get i)) rfl (fun i => enc_32 (s_1v8.get i)) rfl hs hk)⟩)
def s8_at7 (s : Sky) (t : (Sl RangeRow)) (better : Sky) (bin : Int) (opacity : Int) (rates : Span) (sharperv7 : (Sl RangeRow)) (ev7 : Int) (s_1v7 : (Sl (Sl FluxRow))) (a_0v7 : Int) (a_1v7 : Int) : Bool :=
  (s8_at8 s t better bin opacity rates ev7 a_0v7 a_1v7 sharperv7 ((s19 sharperv7 opacity).2) s_1v7 (((s19 sharperv7 opacity).1).Low) (((s19 sharperv7 opacity).1).High))
def p8_at7 (s : Sky) (t : (Sl RangeRow)) (better : Sky) (bin : Int) (opacity : Int) (rates : Span) (sharperv7 : (Sl RangeRow)) (ev7 : Int) (s_1v7 : (Sl (Sl FluxRow))) (a_0v7 : Int) (a_1v7 : Int) : Bool :=
  (decide ((p19 sharperv7 opacity = true)) &&
  (p8_at8 s t better bin opacity rates ev7 a_0v7 a_1v7 sharperv7 ((s19 sharperv7 opacity).2) s_1v7 (((s19 sharperv7 opacity).1).Low) (((s19 sharperv7 opacity).1).High)))
theorem q8_at7 (K : List PA → Prop) (s : Sky) (t : (Sl RangeRow)) (better : Sky) (bin : Int) (opacity : Int) (rates : Span) (sharperv7 : (Sl RangeRow)) (ev7 : Int) (s_1v7 : (Sl (Sl FluxRow))) (a_0v7 : Int) (a_1v7 : Int) (sharperv7_g : Nat → List PV) (sharperv7_h : sharperv7_g = fun i => enc_42 (sharperv7.get i)) (s_1v7_g : Nat → List PV) (s_1v7_h : s_1v7_g = fun i => enc_32 (s_1v7.get i)) (hs : p8_at7 s t better bin opacity rates sharperv7 ev7 s_1v7 a_0v7 a_1v7 = true) (hk : K (e8 (s8_at7 s t better bin opacity rates sharperv7 ev7 s_1v7 a_0v7 a_1v7))) : f8_at7 K s t better bin opacity rates sharperv7.len sharperv7_g ev7 s_1v7.len s_1v7_g a_0v7 a_1v7 := by
  subst sharperv7_h
  subst s_1v7_h
  refine ofEq (f8_eq7 K s t better bin opacity rates sharperv7 ev7 s_1v7 a_0v7 a_1v7) ?_
  unfold p8_at7 at hs
  unfold s8_at7 at hk
  exact (andK hs fun hc hs => ⟨⟨isE, hc⟩, (q8_at8 K s t better bin opacity rates ev7 a_0v7 a_1v7 sharperv7 ((s19 sharperv7 opacity).2) s_1v7 (((s19 sharperv7 opacity).1).Low) (((s19 sharperv7 opacity).1).High) (fun i => enc_42 (sharperv7.get i)) rfl (fun i => enc_32 (s_1v7.get i)) rfl hs hk)⟩)
def s8_at6 (s : Sky) (t : (Sl RangeRow)) (better : Sky) (bin : Int) (opacity : Int) (rates : Span) (sharperv6 : (Sl RangeRow)) (s_1v6 : (Sl (Sl FluxRow))) : Bool :=
  (s8_at7 s t better bin opacity rates sharperv6 ((s19 t opacity).2) s_1v6 (((s19 t opacity).1).Low) (((s19 t opacity).1).High))
def p8_at6 (s : Sky) (t : (Sl RangeRow)) (better : Sky) (bin : Int) (opacity : Int) (rates : Span) (sharperv6 : (Sl RangeRow)) (s_1v6 : (Sl (Sl FluxRow))) : Bool :=
  (decide ((p19 t opacity = true)) &&
  (p8_at7 s t better bin opacity rates sharperv6 ((s19 t opacity).2) s_1v6 (((s19 t opacity).1).Low) (((s19 t opacity).1).High)))
theorem q8_at6 (K : List PA → Prop) (s : Sky) (t : (Sl RangeRow)) (better : Sky) (bin : Int) (opacity : Int) (rates : Span) (sharperv6 : (Sl RangeRow)) (s_1v6 : (Sl (Sl FluxRow))) (sharperv6_g : Nat → List PV) (sharperv6_h : sharperv6_g = fun i => enc_42 (sharperv6.get i)) (s_1v6_g : Nat → List PV) (s_1v6_h : s_1v6_g = fun i => enc_32 (s_1v6.get i)) (hs : p8_at6 s t better bin opacity rates sharperv6 s_1v6 = true) (hk : K (e8 (s8_at6 s t better bin opacity rates sharperv6 s_1v6))) : f8_at6 K s t better bin opacity rates sharperv6.len sharperv6_g s_1v6.len s_1v6_g := by
  subst sharperv6_h
  subst s_1v6_h
  refine ofEq (f8_eq6 K s t better bin opacity rates sharperv6 s_1v6) ?_
  unfold p8_at6 at hs
  unfold s8_at6 at hk
  exact (andK hs fun hc hs => ⟨⟨isE, hc⟩, (q8_at7 K s t better bin opacity rates sharperv6 ((s19 t opacity).2) s_1v6 (((s19 t opacity).1).Low) (((s19 t opacity).1).High) (fun i => enc_42 (sharperv6.get i)) rfl (fun i => enc_32 (s_1v6.get i)) rfl hs hk)⟩)
def s8_st5 (s : Sky) (t : (Sl RangeRow)) (better : Sky) (bin : Int) (opacity : Int) (rates : Span) (sharperv4 : (Sl RangeRow)) (s_1v4 : (Sl (Sl FluxRow))) (S5 : Int → Bool) (iv5 : Int) : Bool :=
  (cond (decide (iv5 < ((s_1v4.get bin.toNat).len : Int)))
   (cond (((better.Bins.get bin.toNat).get iv5.toNat).Energy != ((s_1v4.get bin.toNat).get iv5.toNat).Energy)
    true
    (cond (decide (((better.Bins.get bin.toNat).get iv5.toNat).Rate.Low < ((s_1v4.get bin.toNat).get iv5.toNat).Rate.Low))
     true
     (cond (decide (((better.Bins.get bin.toNat).get iv5.toNat).Rate.High > ((s_1v4.get bin.toNat).get iv5.toNat).Rate.High))
      true
      (S5 (w64 (iv5 + (1:Int)))))))
   (s8_at6 s t better bin opacity rates sharperv4 s_1v4))
def p8_st5 (s : Sky) (t : (Sl RangeRow)) (better : Sky) (bin : Int) (opacity : Int) (rates : Span) (sharperv4 : (Sl RangeRow)) (s_1v4 : (Sl (Sl FluxRow))) (P5 : Int → Bool) (iv5 : Int) : Bool :=
  (decide ((0 ≤ bin ∧ bin < (s_1v4.len : Int))) &&
  (cond (decide (iv5 < ((s_1v4.get bin.toNat).len : Int)))
   (decide ((0 ≤ bin ∧ bin < (better.Bins.len : Int))) &&
   (decide ((0 ≤ iv5 ∧ iv5 < ((better.Bins.get bin.toNat).len : Int))) &&
   (decide ((0 ≤ bin ∧ bin < (s_1v4.len : Int))) &&
   (decide ((0 ≤ iv5 ∧ iv5 < ((s_1v4.get bin.toNat).len : Int))) &&
   (cond (((better.Bins.get bin.toNat).get iv5.toNat).Energy != ((s_1v4.get bin.toNat).get iv5.toNat).Energy)
    true
    (cond (decide (((better.Bins.get bin.toNat).get iv5.toNat).Rate.Low < ((s_1v4.get bin.toNat).get iv5.toNat).Rate.Low))
     true
     (cond (decide (((better.Bins.get bin.toNat).get iv5.toNat).Rate.High > ((s_1v4.get bin.toNat).get iv5.toNat).Rate.High))
      true
      (P5 (w64 (iv5 + (1:Int)))))))))))
   (p8_at6 s t better bin opacity rates sharperv4 s_1v4)))
def s8_lp5 (s : Sky) (t : (Sl RangeRow)) (better : Sky) (bin : Int) (opacity : Int) (rates : Span) (sharperv4 : (Sl RangeRow)) (s_1v4 : (Sl (Sl FluxRow))) : Nat → Int → Bool
  | 0 => fun _ => default
  | k + 1 => s8_st5 s t better bin opacity rates sharperv4 s_1v4 (s8_lp5 s t better bin opacity rates sharperv4 s_1v4 k)
def p8_lp5 (s : Sky) (t : (Sl RangeRow)) (better : Sky) (bin : Int) (opacity : Int) (rates : Span) (sharperv4 : (Sl RangeRow)) (s_1v4 : (Sl (Sl FluxRow))) : Nat → Int → Bool
  | 0 => fun _ => false
  | k + 1 => p8_st5 s t better bin opacity rates sharperv4 s_1v4 (p8_lp5 s t better bin opacity rates sharperv4 s_1v4 k)
def s8_at5 (s : Sky) (t : (Sl RangeRow)) (better : Sky) (bin : Int) (opacity : Int) (rates : Span) (sharperv4 : (Sl RangeRow)) (s_1v4 : (Sl (Sl FluxRow))) (iv5 : Int) : Bool := s8_lp5 s t better bin opacity rates sharperv4 s_1v4 Fuel iv5
def p8_at5 (s : Sky) (t : (Sl RangeRow)) (better : Sky) (bin : Int) (opacity : Int) (rates : Span) (sharperv4 : (Sl RangeRow)) (s_1v4 : (Sl (Sl FluxRow))) (iv5 : Int) : Bool := p8_lp5 s t better bin opacity rates sharperv4 s_1v4 Fuel iv5
theorem q8_at5 (K : List PA → Prop) (s : Sky) (t : (Sl RangeRow)) (better : Sky) (bin : Int) (opacity : Int) (rates : Span) (sharperv4 : (Sl RangeRow)) (s_1v4 : (Sl (Sl FluxRow))) (iv5 : Int) (hs : p8_at5 s t better bin opacity rates sharperv4 s_1v4 iv5 = true) (hk : K (e8 (s8_at5 s t better bin opacity rates sharperv4 s_1v4 iv5))) : f8_at5 K s t better bin opacity rates sharperv4 s_1v4 iv5 := by
  refine f8_loop5 K s t better bin opacity rates sharperv4 s_1v4 iv5 ?_
  intro X5 hstep
  have key : ∀ (k : Nat) (iv5 : Int), p8_lp5 s t better bin opacity rates sharperv4 s_1v4 k iv5 = true → K (e8 (s8_lp5 s t better bin opacity rates sharperv4 s_1v4 k iv5)) → X5 (f8_g5 s t better bin opacity rates sharperv4 s_1v4 iv5) := by
    intro k
    induction k with
    | zero => intro iv5 hs; exact absurd hs Bool.false_ne_true
    | succ k ih =>
      intro iv5 hs hk
      refine hstep iv5 ?_
      have hs : p8_st5 s t better bin opacity rates sharperv4 s_1v4 (p8_lp5 s t better bin opacity rates sharperv4 s_1v4 k) iv5 = true := hs
      have hk : K (e8 (s8_st5 s t better bin opacity rates sharperv4 s_1v4 (s8_lp5 s t better bin opacity rates sharperv4 s_1v4 k) iv5)) := hk
      unfold p8_st5 at hs
      unfold s8_st5 at hk
      generalize s8_lp5 s t better bin opacity rates sharperv4 s_1v4 k = S5 at hk ih
      generalize p8_lp5 s t better bin opacity rates sharperv4 s_1v4 k = P5 at hs ih
      have hX5 := ih
      exact (andK hs fun hc hs => ⟨hc, (condB_go (K := fun r => K (e8 r))
       (fun hs hk => (andK hs fun hc hs => ⟨hc, (andK hs fun hc hs => ⟨hc, (andK hs fun hc hs => ⟨hc, (andK hs fun hc hs => ⟨hc, (condB_go (K := fun r => K (e8 r))
        (fun hs hk => hk)
        (fun hs hk => (condB_go (K := fun r => K (e8 r))
         (fun hs hk => hk)
         (fun hs hk => (condB_go (K := fun r => K (e8 r))
          (fun hs hk => hk)
          (fun hs hk => (hX5 (w64 (iv5 + (1:Int))) hs hk)) hs hk)) hs hk)) hs hk)⟩)⟩)⟩)⟩))
       (fun hs hk => (q8_at6 K s t better bin opacity rates sharperv4 s_1v4 (fun i => enc_42 (sharperv4.get i)) rfl (fun i => enc_32 (s_1v4.get i)) rfl hs hk)) hs hk)⟩)
  exact key _ iv5 hs hk
def s8_at4 (s : Sky) (t : (Sl RangeRow)) (better : Sky) (bin : Int) (opacity : Int) (rates : Span) (sharperv4 : (Sl RangeRow)) (s_1v4 : (Sl (Sl FluxRow))) : Bool :=
  (s8_at5 s t better bin opacity rates sharperv4 s_1v4 (0:Int))
def p8_at4 (s : Sky) (t : (Sl RangeRow)) (better : Sky) (bin : Int) (opacity : Int) (rates : Span) (sharperv4 : (Sl RangeRow)) (s_1v4 : (Sl (Sl FluxRow))) : Bool :=
  (p8_at5 s t better bin opacity rates sharperv4 s_1v4 (0:Int))
theorem q8_at4 (K : List PA → Prop) (s : Sky) (t : (Sl RangeRow)) (better : Sky) (bin : Int) (opacity : Int) (rates : Span) (sharperv4 : (Sl RangeRow)) (s_1v4 : (Sl (Sl FluxRow))) (sharperv4_g : Nat → List PV) (sharperv4_h : sharperv4_g = fun i => enc_42 (sharperv4.get i)) (s_1v4_g : Nat → List PV) (s_1v4_h : s_1v4_g = fun i => enc_32 (s_1v4.get i)) (hs : p8_at4 s t better bin opacity rates sharperv4 s_1v4 = true) (hk : K (e8 (s8_at4 s t better bin opacity rates sharperv4 s_1v4))) : f8_at4 K s t better bin opacity rates sharperv4.len sharperv4_g s_1v4.len s_1v4_g := by
  subst sharperv4_h
  subst s_1v4_h
  refine ofEq (f8_eq4 K s t better bin opacity rates sharperv4 s_1v4) ?_
  unfold p8_at4 at hs
  unfold s8_at4 at hk
  exact (q8_at5 K s t better bin opacity rates sharperv4 s_1v4 (0:Int) hs hk)
def s8_st3 (s : Sky) (t : (Sl RangeRow)) (better : Sky) (bin : Int) (opacity : Int) (rates : Span) (sharperv2 : (Sl RangeRow)) (s_1v2 : (Sl (Sl FluxRow))) (S3 : Int → Bool) (iv3 : Int) : Bool :=
  (cond (decide (iv3 < (t.len : Int)))
   (cond ((sharperv2.get iv3.toNat).Energy != (t.get iv3.toNat).Energy)
    true
    (cond (decide ((sharperv2.get iv3.toNat).Range.Low < (t.get iv3.toNat).Range.Low))
     true
     (cond (decide ((sharperv2.get iv3.toNat).Range.High > (t.get iv3.toNat).Range.High))
      true
      (S3 (w64 (iv3 + (1:Int)))))))
   (s8_at4 s t better bin opacity rates sharperv2 s_1v2))
def p8_st3 (s : Sky) (t : (Sl RangeRow)) (better : Sky) (bin : Int) (opacity : Int) (rates : Span) (sharperv2 : (Sl RangeRow)) (s_1v2 : (Sl (Sl FluxRow))) (P3 : Int → Bool) (iv3 : Int) : Bool :=
  (cond (decide (iv3 < (t.len : Int)))
   (decide ((0 ≤ iv3 ∧ iv3 < (sharperv2.len : Int))) &&
   (decide ((0 ≤ iv3 ∧ iv3 < (t.len : Int))) &&
   (cond ((sharperv2.get iv3.toNat).Energy != (t.get iv3.toNat).Energy)
    true
    (decide ((0 ≤ iv3 ∧ iv3 < (sharperv2.len : Int))) &&
    (decide ((0 ≤ iv3 ∧ iv3 < (t.len : Int))) &&
    (cond (decide ((sharperv2.get iv3.toNat).Range.Low < (t.get iv3.toNat).Range.Low))
     true
     (decide ((0 ≤ iv3 ∧ iv3 < (sharperv2.len : Int))) &&
     (decide ((0 ≤ iv3 ∧ iv3 < (t.len : Int))) &&
     (cond (decide ((sharperv2.get iv3.toNat).Range.High > (t.get iv3.toNat).Range.High))
      true
      (P3 (w64 (iv3 + (1:Int)))))))))))))
   (p8_at4 s t better bin opacity rates sharperv2 s_1v2))
def s8_lp3 (s : Sky) (t : (Sl RangeRow)) (better : Sky) (bin : Int) (opacity : Int) (rates : Span) (sharperv2 : (Sl RangeRow)) (s_1v2 : (Sl (Sl FluxRow))) : Nat → Int → Bool
  | 0 => fun _ => default
  | k + 1 => s8_st3 s t better bin opacity rates sharperv2 s_1v2 (s8_lp3 s t better bin opacity rates sharperv2 s_1v2 k)
def p8_lp3 (s : Sky) (t : (Sl RangeRow)) (better : Sky) (bin : Int) (opacity : Int) (rates : Span) (sharperv2 : (Sl RangeRow)) (s_1v2 : (Sl (Sl FluxRow))) : Nat → Int → Bool
  | 0 => fun _ => false
  | k + 1 => p8_st3 s t better bin opacity rates sharperv2 s_1v2 (p8_lp3 s t better bin opacity rates sharperv2 s_1v2 k)
def s8_at3 (s : Sky) (t : (Sl RangeRow)) (better : Sky) (bin : Int) (opacity : Int) (rates : Span) (sharperv2 : (Sl RangeRow)) (s_1v2 : (Sl (Sl FluxRow))) (iv3 : Int) : Bool := s8_lp3 s t better bin opacity rates sharperv2 s_1v2 Fuel iv3
def p8_at3 (s : Sky) (t : (Sl RangeRow)) (better : Sky) (bin : Int) (opacity : Int) (rates : Span) (sharperv2 : (Sl RangeRow)) (s_1v2 : (Sl (Sl FluxRow))) (iv3 : Int) : Bool := p8_lp3 s t better bin opacity rates sharperv2 s_1v2 Fuel iv3
theorem q8_at3 (K : List PA → Prop) (s : Sky) (t : (Sl RangeRow)) (better : Sky) (bin : Int) (opacity : Int) (rates : Span) (sharperv2 : (Sl RangeRow)) (s_1v2 : (Sl (Sl FluxRow))) (iv3 : Int) (hs : p8_at3 s t better bin opacity rates sharperv2 s_1v2 iv3 = true) (hk : K (e8 (s8_at3 s t better bin opacity rates sharperv2 s_1v2 iv3))) : f8_at3 K s t better bin opacity rates sharperv2 s_1v2 iv3 := by
  refine f8_loop3 K s t better bin opacity rates sharperv2 s_1v2 iv3 ?_
  intro X3 hstep
  have key : ∀ (k : Nat) (iv3 : Int), p8_lp3 s t better bin opacity rates sharperv2 s_1v2 k iv3 = true → K (e8 (s8_lp3 s t better bin opacity rates sharperv2 s_1v2 k iv3)) → X3 (f8_g3 s t better bin opacity rates sharperv2 s_1v2 iv3) := by
    intro k
    induction k with
    | zero => intro iv3 hs; exact absurd hs Bool.false_ne_true
    | succ k ih =>
      intro iv3 hs hk
      refine hstep iv3 ?_
      have hs : p8_st3 s t better bin opacity rates sharperv2 s_1v2 (p8_lp3 s t better bin opacity rates sharperv2 s_1v2 k) iv3 = true := hs
      have hk : K (e8 (s8_st3 s t better bin opacity rates sharperv2 s_1v2 (s8_lp3 s t better bin opacity rates sharperv2 s_1v2 k) iv3)) := hk
      unfold p8_st3 at hs
      unfold s8_st3 at hk
      generalize s8_lp3 s t better bin opacity rates sharperv2 s_1v2 k = S3 at hk ih
      generalize p8_lp3 s t better bin opacity rates sharperv2 s_1v2 k = P3 at hs ih
      have hX3 := ih
      exact (condB_go (K := fun r => K (e8 r))
       (fun hs hk => (andK hs fun hc hs => ⟨hc, (andK hs fun hc hs => ⟨hc, (condB_go (K := fun r => K (e8 r))
        (fun hs hk => hk)
        (fun hs hk => (andK hs fun hc hs => ⟨hc, (andK hs fun hc hs => ⟨hc, (condB_go (K := fun r => K (e8 r))
         (fun hs hk => hk)
         (fun hs hk => (andK hs fun hc hs => ⟨hc, (andK hs fun hc hs => ⟨hc, (condB_go (K := fun r => K (e8 r))
          (fun hs hk => hk)
          (fun hs hk => (hX3 (w64 (iv3 + (1:Int))) hs hk)) hs hk)⟩)⟩)) hs hk)⟩)⟩)) hs hk)⟩)⟩))
       (fun hs hk => (q8_at4 K s t better bin opacity rates sharperv2 s_1v2 (fun i => enc_42 (sharperv2.get i)) rfl (fun i => enc_32 (s_1v2.get i)) rfl hs hk)) hs hk)
  exact key _ iv3 hs hk
def s8_at2 (s : Sky) (t : (Sl RangeRow)) (better : Sky) (bin : Int) (opacity : Int) (rates : Span) (sharperv2 : (Sl RangeRow)) (s_1v2 : (Sl (Sl FluxRow))) : Bool :=
  (s8_at3 s t better bin opacity rates sharperv2 s_1v2 (0:Int))
def p8_at2 (s : Sky) (t : (Sl RangeRow)) (better : Sky) (bin : Int) (opacity : Int) (rates : Span) (sharperv2 : (Sl RangeRow)) (s_1v2 : (Sl (Sl FluxRow))) : Bool :=
  (p8_at3 s t better bin opacity rates sharperv2 s_1v2 (0:Int))
theorem q8_at2 (K : List PA → Prop) (s : Sky) (t : (Sl RangeRow)) (better : Sky) (bin : Int) (opacity : Int) (rates : Span) (sharperv2 : (Sl RangeRow)) (s_1v2 : (Sl (Sl FluxRow))) (sharperv2_g : Nat → List PV) (sharperv2_h : sharperv2_g = fun i => enc_42 (sharperv2.get i)) (s_1v2_g : Nat → List PV) (s_1v2_h : s_1v2_g = fun i => enc_32 (s_1v2.get i)) (hs : p8_at2 s t better bin opacity rates sharperv2 s_1v2 = true) (hk : K (e8 (s8_at2 s t better bin opacity rates sharperv2 s_1v2))) : f8_at2 K s t better bin opacity rates sharperv2.len sharperv2_g s_1v2.len s_1v2_g := by
  subst sharperv2_h
  subst s_1v2_h
  refine ofEq (f8_eq2 K s t better bin opacity rates sharperv2 s_1v2) ?_
  unfold p8_at2 at hs
  unfold s8_at2 at hk
  exact (q8_at3 K s t better bin opacity rates sharperv2 s_1v2 (0:Int) hs hk)
def s8_at1 (s : Sky) (t : (Sl RangeRow)) (better : Sky) (bin : Int) (opacity : Int) (rates : Span) (sharperv1 : (Sl RangeRow)) (s_1v1 : (Sl (Sl FluxRow))) : Bool :=
  (cond (better.Parts != s.Parts)
   true
   (cond ((better.Bins.len : Int) != (s_1v1.len : Int))
    true
    (cond (((better.Bins.get bin.toNat).len : Int) != ((s_1v1.get bin.toNat).len : Int))
     true
     (cond ((sharperv1.len : Int) != (t.len : Int))
      true
      (s8_at2 s t better bin opacity rates sharperv1 s_1v1)))))
def p8_at1 (s : Sky) (t : (Sl RangeRow)) (better : Sky) (bin : Int) (opacity : Int) (rates : Span) (sharperv1 : (Sl RangeRow)) (s_1v1 : (Sl (Sl FluxRow))) : Bool :=
  (cond (better.Parts != s.Parts)
   true
   (cond ((better.Bins.len : Int) != (s_1v1.len : Int))
    true
    (decide ((0 ≤ bin ∧ bin < (better.Bins.len : Int))) &&
    (decide ((0 ≤ bin ∧ bin < (s_1v1.len : Int))) &&
    (cond (((better.Bins.get bin.toNat).len : Int) != ((s_1v1.get bin.toNat).len : Int))
     true
     (cond ((sharperv1.len : Int) != (t.len : Int))
      true
      (p8_at2 s t better bin opacity rates sharperv1 s_1v1)))))))
theorem q8_at1 (K : List PA → Prop) (s : Sky) (t : (Sl RangeRow)) (better : Sky) (bin : Int) (opacity : Int) (rates : Span) (sharperv1 : (Sl RangeRow)) (s_1v1 : (Sl (Sl FluxRow))) (sharperv1_g : Nat → List PV) (sharperv1_h : sharperv1_g = fun i => enc_42 (sharperv1.get i)) (s_1v1_g : Nat → List PV) (s_1v1_h : s_1v1_g = fun i => enc_32 (s_1v1.get i)) (hs : p8_at1 s t better bin opacity rates sharperv1 s_1v1 = true) (hk : K (e8 (s8_at1 s t better bin opacity rates sharperv1 s_1v1))) : f8_at1 K s t better bin opacity rates sharperv1.len sharperv1_g s_1v1.len s_1v1_g := by
  subst sharperv1_h
  subst s_1v1_h
  refine ofEq (f8_eq1 K s t better bin opacity rates sharperv1 s_1v1) ?_
  unfold p8_at1 at hs
  unfold s8_at1 at hk
  exact (condB_go (K := fun r => K (e8 r))
   (fun hs hk => hk)
   (fun hs hk => (condB_go (K := fun r => K (e8 r))
    (fun hs hk => hk)
    (fun hs hk => (andK hs fun hc hs => ⟨hc, (andK hs fun hc hs => ⟨hc, (condB_go (K := fun r => K (e8 r))
     (fun hs hk => hk)
     (fun hs hk => (condB_go (K := fun r => K (e8 r))
      (fun hs hk => hk)
      (fun hs hk => (q8_at2 K s t better bin opacity rates sharperv1 s_1v1 (fun i => enc_42 (sharperv1.get i)) rfl (fun i => enc_32 (s_1v1.get i)) rfl hs hk)) hs hk)) hs hk)⟩)⟩)) hs hk)) hs hk)
def s8_at0 (s : Sky) (t : (Sl RangeRow)) (better : Sky) (bin : Int) (opacity : Int) (rates : Span) (sharperv0 : (Sl RangeRow)) (t86v0 : Bool) (s_1v0 : (Sl (Sl FluxRow))) : Bool :=
  (cond t86v0
   true
   (s8_at1 s t better bin opacity rates sharperv0 s_1v0))
def p8_at0 (s : Sky) (t : (Sl RangeRow)) (better : Sky) (bin : Int) (opacity : Int) (rates : Span) (sharperv0 : (Sl RangeRow)) (t86v0 : Bool) (s_1v0 : (Sl (Sl FluxRow))) : Bool :=
  (cond t86v0
   true
   (p8_at1 s t better bin opacity rates sharperv0 s_1v0))
theorem q8_at0 (K : List PA → Prop) (s : Sky) (t : (Sl RangeRow)) (better : Sky) (bin : Int) (opacity : Int) (rates : Span) (sharperv0 : (Sl RangeRow)) (t86v0 : Bool) (s_1v0 : (Sl (Sl FluxRow))) (sharperv0_g : Nat → List PV) (sharperv0_h : sharperv0_g = fun i => enc_42 (sharperv0.get i)) (s_1v0_g : Nat → List PV) (s_1v0_h : s_1v0_g = fun i => enc_32 (s_1v0.get i)) (hs : p8_at0 s t better bin opacity rates sharperv0 t86v0 s_1v0 = true) (hk : K (e8 (s8_at0 s t better bin opacity rates sharperv0 t86v0 s_1v0))) : f8_at0 K s t better bin opacity rates sharperv0.len sharperv0_g t86v0 s_1v0.len s_1v0_g := by
  subst sharperv0_h
  subst s_1v0_h
  refine ofEq (f8_eq0 K s t better bin opacity rates sharperv0 t86v0 s_1v0) ?_
  unfold p8_at0 at hs
  unfold s8_at0 at hk
  exact (condB_go (K := fun r => K (e8 r))
   (fun hs hk => hk)
   (fun hs hk => (q8_at1 K s t better bin opacity rates sharperv0 s_1v0 (fun i => enc_42 (sharperv0.get i)) rfl (fun i => enc_32 (s_1v0.get i)) rfl hs hk)) hs hk)
def s8 (s : Sky) (t : (Sl RangeRow)) (better : Sky) (sharper : (Sl RangeRow)) (bin : Int) (opacity : Int) (rates : Span) : Bool :=
  (cond (!(s15 s t))
   (s8_at0 s t better bin opacity rates sharper true s.Bins)
   (cond (!(s15 better sharper))
    (s8_at0 s t better bin opacity rates sharper true s.Bins)
    (cond (!(s16 s))
     (s8_at0 s t better bin opacity rates sharper true s.Bins)
     (cond (!(s17 t))
      (s8_at0 s t better bin opacity rates sharper true s.Bins)
      (cond (!(s16 better))
       (s8_at0 s t better bin opacity rates sharper true s.Bins)
       (cond (!(s17 sharper))
        (s8_at0 s t better bin opacity rates sharper true s.Bins)
        (cond (decide (bin < (0:Int)))
         (s8_at0 s t better bin opacity rates sharper true s.Bins)
         (cond (decide (bin ≥ (s.Bins.len : Int)))
          (s8_at0 s t better bin opacity rates sharper true s.Bins)
          (cond (decide (opacity < (0:Int)))
           (s8_at0 s t better bin opacity rates sharper true s.Bins)
           (cond (decide (opacity > (1000000:Int)))
            (s8_at0 s t better bin opacity rates sharper true s.Bins)
            (s8_at0 s t better bin opacity rates sharper (!(s29 rates (0:Int) s.Parts)) s.Bins)))))))))))
def p8 (s : Sky) (t : (Sl RangeRow)) (better : Sky) (sharper : (Sl RangeRow)) (bin : Int) (opacity : Int) (rates : Span) : Bool :=
  (decide ((p15 s t = true)) &&
  (cond (!(s15 s t))
   (p8_at0 s t better bin opacity rates sharper true s.Bins)
   (decide ((p15 better sharper = true)) &&
   (cond (!(s15 better sharper))
    (p8_at0 s t better bin opacity rates sharper true s.Bins)
    (decide ((p16 s = true)) &&
    (cond (!(s16 s))
     (p8_at0 s t better bin opacity rates sharper true s.Bins)
     (decide ((p17 t = true)) &&
     (cond (!(s17 t))
      (p8_at0 s t better bin opacity rates sharper true s.Bins)
      (decide ((p16 better = true)) &&
      (cond (!(s16 better))
       (p8_at0 s t better bin opacity rates sharper true s.Bins)
       (decide ((p17 sharper = true)) &&
       (cond (!(s17 sharper))
        (p8_at0 s t better bin opacity rates sharper true s.Bins)
        (cond (decide (bin < (0:Int)))
         (p8_at0 s t better bin opacity rates sharper true s.Bins)
         (cond (decide (bin ≥ (s.Bins.len : Int)))
          (p8_at0 s t better bin opacity rates sharper true s.Bins)
          (cond (decide (opacity < (0:Int)))
           (p8_at0 s t better bin opacity rates sharper true s.Bins)
           (cond (decide (opacity > (1000000:Int)))
            (p8_at0 s t better bin opacity rates sharper true s.Bins)
            (p8_at0 s t better bin opacity rates sharper (!(s29 rates (0:Int) s.Parts)) s.Bins)))))))))))))))))
theorem q8 (s : Sky) (t : (Sl RangeRow)) (better : Sky) (sharper : (Sl RangeRow)) (bin : Int) (opacity : Int) (rates : Span) (K : List PA → Prop) (hs : p8 s t better sharper bin opacity rates = true) (hk : K (e8 (s8 s t better sharper bin opacity rates))) : vcFun Try.prog G8 ann8 8 [.agg [.int .i64 s.Parts, .sl s.Bins.len 1 (fun i => enc_32 (s.Bins.get i)), .int .i64 s.Beta.Low, .int .i64 s.Beta.High, .int .i64 s.Alpha.Low, .int .i64 s.Alpha.High], .one (.sl t.len 3 (fun i => enc_42 (t.get i))), .agg [.int .i64 better.Parts, .sl better.Bins.len 1 (fun i => enc_32 (better.Bins.get i)), .int .i64 better.Beta.Low, .int .i64 better.Beta.High, .int .i64 better.Alpha.Low, .int .i64 better.Alpha.High], .one (.sl sharper.len 3 (fun i => enc_42 (sharper.get i))), .one (.int .i64 bin), .one (.int .i64 opacity), .agg [.int .i64 rates.Low, .int .i64 rates.High]] K := by
  refine ofEq (f8_top s t better sharper bin opacity rates K) ?_
  unfold p8 at hs
  unfold s8 at hk
  exact (andK hs fun hc hs => ⟨⟨isE, isE, hc⟩, (condB_go (K := fun r => K (e8 r))
   (fun hs hk => (q8_at0 K s t better bin opacity rates sharper true s.Bins (fun i => enc_42 (sharper.get i)) rfl (fun i => enc_32 (s.Bins.get i)) rfl hs hk))
   (fun hs hk => (andK hs fun hc hs => ⟨⟨isE, isE, hc⟩, (condB_go (K := fun r => K (e8 r))
    (fun hs hk => (q8_at0 K s t better bin opacity rates sharper true s.Bins (fun i => enc_42 (sharper.get i)) rfl (fun i => enc_32 (s.Bins.get i)) rfl hs hk))
    (fun hs hk => (andK hs fun hc hs => ⟨⟨isE, hc⟩, (condB_go (K := fun r => K (e8 r))
     (fun hs hk => (q8_at0 K s t better bin opacity rates sharper true s.Bins (fun i => enc_42 (sharper.get i)) rfl (fun i => enc_32 (s.Bins.get i)) rfl hs hk))
     (fun hs hk => (andK hs fun hc hs => ⟨⟨isE, hc⟩, (condB_go (K := fun r => K (e8 r))
      (fun hs hk => (q8_at0 K s t better bin opacity rates sharper true s.Bins (fun i => enc_42 (sharper.get i)) rfl (fun i => enc_32 (s.Bins.get i)) rfl hs hk))
      (fun hs hk => (andK hs fun hc hs => ⟨⟨isE, hc⟩, (condB_go (K := fun r => K (e8 r))
       (fun hs hk => (q8_at0 K s t better bin opacity rates sharper true s.Bins (fun i => enc_42 (sharper.get i)) rfl (fun i => enc_32 (s.Bins.get i)) rfl hs hk))
       (fun hs hk => (andK hs fun hc hs => ⟨⟨isE, hc⟩, (condB_go (K := fun r => K (e8 r))
        (fun hs hk => (q8_at0 K s t better bin opacity rates sharper true s.Bins (fun i => enc_42 (sharper.get i)) rfl (fun i => enc_32 (s.Bins.get i)) rfl hs hk))
        (fun hs hk => (condB_go (K := fun r => K (e8 r))
         (fun hs hk => (q8_at0 K s t better bin opacity rates sharper true s.Bins (fun i => enc_42 (sharper.get i)) rfl (fun i => enc_32 (s.Bins.get i)) rfl hs hk))
         (fun hs hk => (condB_go (K := fun r => K (e8 r))
          (fun hs hk => (q8_at0 K s t better bin opacity rates sharper true s.Bins (fun i => enc_42 (sharper.get i)) rfl (fun i => enc_32 (s.Bins.get i)) rfl hs hk))
          (fun hs hk => (condB_go (K := fun r => K (e8 r))
           (fun hs hk => (q8_at0 K s t better bin opacity rates sharper true s.Bins (fun i => enc_42 (sharper.get i)) rfl (fun i => enc_32 (s.Bins.get i)) rfl hs hk))
           (fun hs hk => (condB_go (K := fun r => K (e8 r))
            (fun hs hk => (q8_at0 K s t better bin opacity rates sharper true s.Bins (fun i => enc_42 (sharper.get i)) rfl (fun i => enc_32 (s.Bins.get i)) rfl hs hk))
            (fun hs hk => (q8_at0 K s t better bin opacity rates sharper (!(s29 rates (0:Int) s.Parts)) s.Bins (fun i => enc_42 (sharper.get i)) rfl (fun i => enc_32 (s.Bins.get i)) rfl hs hk)) hs hk)) hs hk)) hs hk)) hs hk)) hs hk)⟩)) hs hk)⟩)) hs hk)⟩)) hs hk)⟩)) hs hk)⟩)) hs hk)⟩)
def ctr8 : List PA → COut
  | [.agg [.int .i64 a0_Parts, .sl a0_Bins_n a0_Bins_s a0_Bins_g, .int .i64 a0_Beta_Low, .int .i64 a0_Beta_High, .int .i64 a0_Alpha_Low, .int .i64 a0_Alpha_High], .one (.sl a1_n a1_s a1_g), .agg [.int .i64 a2_Parts, .sl a2_Bins_n a2_Bins_s a2_Bins_g, .int .i64 a2_Beta_Low, .int .i64 a2_Beta_High, .int .i64 a2_Alpha_Low, .int .i64 a2_Alpha_High], .one (.sl a3_n a3_s a3_g), .one (.int .i64 a4), .one (.int .i64 a5), .agg [.int .i64 a6_Low, .int .i64 a6_High]] => .det (IsE enc_32 1 a0_Bins_s a0_Bins_g ∧ IsE enc_42 3 a1_s a1_g ∧ IsE enc_32 1 a2_Bins_s a2_Bins_g ∧ IsE enc_42 3 a3_s a3_g ∧ p8 (⟨a0_Parts, (⟨a0_Bins_n, decF_32 a0_Bins_g⟩ : (Sl (Sl FluxRow))), (⟨a0_Beta_Low, a0_Beta_High⟩ : Span), (⟨a0_Alpha_Low, a0_Alpha_High⟩ : Span)⟩ : Sky) (⟨a1_n, decF_42 a1_g⟩ : (Sl RangeRow)) (⟨a2_Parts, (⟨a2_Bins_n, decF_32 a2_Bins_g⟩ : (Sl (Sl FluxRow))), (⟨a2_Beta_Low, a2_Beta_High⟩ : Span), (⟨a2_Alpha_Low, a2_Alpha_High⟩ : Span)⟩ : Sky) (⟨a3_n, decF_42 a3_g⟩ : (Sl RangeRow)) a4 a5 (⟨a6_Low, a6_High⟩ : Span) = true) [.one (.bool (s8 (⟨a0_Parts, (⟨a0_Bins_n, decF_32 a0_Bins_g⟩ : (Sl (Sl FluxRow))), (⟨a0_Beta_Low, a0_Beta_High⟩ : Span), (⟨a0_Alpha_Low, a0_Alpha_High⟩ : Span)⟩ : Sky) (⟨a1_n, decF_42 a1_g⟩ : (Sl RangeRow)) (⟨a2_Parts, (⟨a2_Bins_n, decF_32 a2_Bins_g⟩ : (Sl (Sl FluxRow))), (⟨a2_Beta_Low, a2_Beta_High⟩ : Span), (⟨a2_Alpha_Low, a2_Alpha_High⟩ : Span)⟩ : Sky) (⟨a3_n, decF_42 a3_g⟩ : (Sl RangeRow)) a4 a5 (⟨a6_Low, a6_High⟩ : Span)))]
  | _ => .no
theorem call8 : Callable Try.prog 8 := ⟨_, rfl, rfl, by kernel_rfl⟩
theorem ok8 : Ok Try.prog 8 ctr8 := ok_tab okT8 call8 fun args K h => by
  unfold ctr8 at h
  split at h
  · rename_i a0_Parts a0_Bins_n a0_Bins_s a0_Bins_g a0_Beta_Low a0_Beta_High a0_Alpha_Low a0_Alpha_High a1_n a1_s a1_g a2_Parts a2_Bins_n a2_Bins_s a2_Bins_g a2_Beta_Low a2_Beta_High a2_Alpha_Low a2_Alpha_High a3_n a3_s a3_g a4 a5 a6_Low a6_High
    obtain ⟨⟨⟨rfl, a0_Bins_f, rfl⟩, ⟨rfl, a1_f, rfl⟩, ⟨rfl, a2_Bins_f, rfl⟩, ⟨rfl, a3_f, rfl⟩, hs⟩, hk⟩ := h
    try rw [decF_enc_32 a0_Bins_f] at hs
    try rw [decF_enc_32 a0_Bins_f] at hk
    try rw [decF_enc_42 a1_f] at hs
    try rw [decF_enc_42 a1_f] at hk
    try rw [decF_enc_32 a2_Bins_f] at hs
    try rw [decF_enc_32 a2_Bins_f] at hk
    try rw [decF_enc_42 a3_f] at hs
    try rw [decF_enc_42 a3_f] at hk
    exact ⟨(fun _ _ => []), (fun _ => false), ann8, q8 (⟨a0_Parts, (⟨a0_Bins_n, a0_Bins_f⟩ : (Sl (Sl FluxRow))), (⟨a0_Beta_Low, a0_Beta_High⟩ : Span), (⟨a0_Alpha_Low, a0_Alpha_High⟩ : Span)⟩ : Sky) (⟨a1_n, a1_f⟩ : (Sl RangeRow)) (⟨a2_Parts, (⟨a2_Bins_n, a2_Bins_f⟩ : (Sl (Sl FluxRow))), (⟨a2_Beta_Low, a2_Beta_High⟩ : Span), (⟨a2_Alpha_Low, a2_Alpha_High⟩ : Span)⟩ : Sky) (⟨a3_n, a3_f⟩ : (Sl RangeRow)) a4 a5 (⟨a6_Low, a6_High⟩ : Span) K hs hk⟩
  · exact h.elim
end Go.Proofs
namespace Go.Proofs
open Go Go.Pm
set_option maxRecDepth 100000
set_option linter.unusedVariables false
attribute [local irreducible] Go.Pm.vcFun Go.Pm.vc Go.Pm.vcIter
theorem C_3 : Try.prog.cellsOf 3 = 1 := by kernel_rfl
theorem C_4 : Try.prog.cellsOf 4 = 1 := by kernel_rfl
theorem C_22 : Try.prog.cellsOf 22 = 1 := by kernel_rfl
theorem C_24 : Try.prog.cellsOf 24 = 2 := by kernel_rfl
theorem C_26 : Try.prog.cellsOf 26 = 6 := by kernel_rfl
theorem C_27 : Try.prog.cellsOf 27 = 1 := by kernel_rfl
theorem C_32 : Try.prog.cellsOf 32 = 1 := by kernel_rfl
theorem C_37 : Try.prog.cellsOf 37 = 1 := by kernel_rfl
theorem C_39 : Try.prog.cellsOf 39 = 3 := by kernel_rfl
theorem C_42 : Try.prog.cellsOf 42 = 3 := by kernel_rfl
theorem C_44 : Try.prog.cellsOf 44 = 3 := by kernel_rfl
theorem C_46 : Try.prog.cellsOf 46 = 1 := by kernel_rfl
theorem C_47 : Try.prog.cellsOf 47 = 1 := by kernel_rfl
theorem C_52 : Try.prog.cellsOf 52 = 2 := by kernel_rfl
theorem C_54 : Try.prog.cellsOf 54 = 4 := by kernel_rfl
theorem C_56 : Try.prog.cellsOf 56 = 5 := by kernel_rfl
theorem C_97 : Try.prog.cellsOf 97 = 1 := by kernel_rfl
theorem C_129 : Try.prog.cellsOf 129 = 3 := by kernel_rfl
abbrev wf_3 (x : Int) : Prop := wfI x
theorem rd_3 {H : Type} {en : TypeId × Value → H} {w : World} {sp : Nat → Bool} {held : Bool} : Rd H en Try.prog w sp held 3 enc_3 wf_3 := rd_int Try.underlying3
def wf_24 (x : Span) : Prop := wf_3 x.Low ∧ wf_3 x.High
theorem rd_24 {H : Type} {en : TypeId × Value → H} {w : World} {sp : Nat → Bool} {held : Bool} : Rd H en Try.prog w sp held 24 enc_24 wf_24 := by
  intro fuel cs x h
  obtain ⟨hl, hf⟩ := rd_struct Try.underlying24 h
  rw [C_24] at hl
  obtain ⟨n0, y0, g0⟩ := hf 0 _ rfl
  have g0 : DataW.trod en Try.prog w 0 sp held n0 3 ((cs.drop 0).take (Try.prog.cellsOf 3)) = some y0 := g0
  rw [C_3] at g0
  obtain ⟨a0, r0, w0⟩ := rd_3 _ _ _ g0
  obtain ⟨n1, y1, g1⟩ := hf 1 _ rfl
  have g1 : DataW.trod en Try.prog w 0 sp held n1 3 ((cs.drop 1).take (Try.prog.cellsOf 3)) = some y1 := g1
  rw [C_3] at g1
  obtain ⟨a1, r1, w1⟩ := rd_3 _ _ _ g1
  have z : cs.drop 2 = [] := List.drop_eq_nil_of_le (by omega)
  have R := (r0.append (r1.append (show RL (Rep (H0 w)) [] (cs.drop 2) by rw [z]; exact rl_n)))
  rw [← (show cs.drop 1 = (cs.drop 1).take 1 ++ cs.drop 2 from split_drop cs 1 1)] at R
  rw [← (show cs.drop 0 = (cs.drop 0).take 1 ++ cs.drop 1 from split_drop cs 0 1)] at R
  exact ⟨⟨a0, a1⟩, R, ⟨w0, w1⟩⟩
def wf_44 (x : FluxRow) : Prop := wf_3 x.Energy ∧ wf_24 x.Rate
theorem rd_44 {H : Type} {en : TypeId × Value → H} {w : World} {sp : Nat → Bool} {held : Bool} : Rd H en Try.prog w sp held 44 enc_44 wf_44 := by
  intro fuel cs x h
  obtain ⟨hl, hf⟩ := rd_struct Try.underlying44 h
  rw [C_44] at hl
  obtain ⟨n0, y0, g0⟩ := hf 0 _ rfl
  have g0 : DataW.trod en Try.prog w 0 sp held n0 3 ((cs.drop 0).take (Try.prog.cellsOf 3)) = some y0 := g0
  rw [C_3] at g0
  obtain ⟨a0, r0, w0⟩ := rd_3 _ _ _ g0
  obtain ⟨n1, y1, g1⟩ := hf 1 _ rfl
  have g1 : DataW.trod en Try.prog w 0 sp held n1 24 ((cs.drop 1).take (Try.prog.cellsOf 24)) = some y1 := g1
  rw [C_24] at g1
  obtain ⟨a1, r1, w1⟩ := rd_24 _ _ _ g1
  have z : cs.drop 3 = [] := List.drop_eq_nil_of_le (by omega)
  have R := (r0.append (r1.append (show RL (Rep (H0 w)) [] (cs.drop 3) by rw [z]; exact rl_n)))
  rw [← (show cs.drop 1 = (cs.drop 1).take 2 ++ cs.drop 3 from split_drop cs 1 2)] at R
  rw [← (show cs.drop 0 = (cs.drop 0).take 1 ++ cs.drop 1 from split_drop cs 0 1)] at R
  exact ⟨⟨a0, a1⟩, R, ⟨w0, w1⟩⟩
def wf_32 (x : (Sl FluxRow)) : Prop := x.len ≤ 9223372036854775807 ∧ ∀ i, i < x.len → wf_44 (x.get i)
theorem rd_32 {H : Type} {en : TypeId × Value → H} {w : World} {sp : Nat → Bool} {held : Bool} : Rd H en Try.prog w sp held 32 enc_32 wf_32 := rd_slice Try.underlying32 C_44 (by decide) (fun _ => rfl) rd_44
def wf_22 (x : (Sl (Sl FluxRow))) : Prop := x.len ≤ 9223372036854775807 ∧ ∀ i, i < x.len → wf_32 (x.get i)
theorem rd_22 {H : Type} {en : TypeId × Value → H} {w : World} {sp : Nat → Bool} {held : Bool} : Rd H en Try.prog w sp held 22 enc_22 wf_22 := rd_slice Try.underlying22 C_32 (by decide) (fun _ => rfl) rd_32
def wf_26 (x : Sky) : Prop := wf_3 x.Parts ∧ wf_22 x.Bins ∧ wf_24 x.Beta ∧ wf_24 x.Alpha
theorem rd_26 {H : Type} {en : TypeId × Value → H} {w : World} {sp : Nat → Bool} {held : Bool} : Rd H en Try.prog w sp held 26 enc_26 wf_26 := by
  intro fuel cs x h
  obtain ⟨hl, hf⟩ := rd_struct Try.underlying26 h
  rw [C_26] at hl
  obtain ⟨n0, y0, g0⟩ := hf 0 _ rfl
  have g0 : DataW.trod en Try.prog w 0 sp held n0 3 ((cs.drop 0).take (Try.prog.cellsOf 3)) = some y0 := g0
  rw [C_3] at g0
  obtain ⟨a0, r0, w0⟩ := rd_3 _ _ _ g0
  obtain ⟨n1, y1, g1⟩ := hf 1 _ rfl
  have g1 : DataW.trod en Try.prog w 0 sp held n1 22 ((cs.drop 1).take (Try.prog.cellsOf 22)) = some y1 := g1
  rw [C_22] at g1
  obtain ⟨a1, r1, w1⟩ := rd_22 _ _ _ g1
  obtain ⟨n2, y2, g2⟩ := hf 2 _ rfl
  have g2 : DataW.trod en Try.prog w 0 sp held n2 24 ((cs.drop 2).take (Try.prog.cellsOf 24)) = some y2 := g2
  rw [C_24] at g2
  obtain ⟨a2, r2, w2⟩ := rd_24 _ _ _ g2
  obtain ⟨n3, y3, g3⟩ := hf 3 _ rfl
  have g3 : DataW.trod en Try.prog w 0 sp held n3 24 ((cs.drop 4).take (Try.prog.cellsOf 24)) = some y3 := g3
  rw [C_24] at g3
  obtain ⟨a3, r3, w3⟩ := rd_24 _ _ _ g3
  have z : cs.drop 6 = [] := List.drop_eq_nil_of_le (by omega)
  have R := (r0.append (r1.append (r2.append (r3.append (show RL (Rep (H0 w)) [] (cs.drop 6) by rw [z]; exact rl_n)))))
  rw [← (show cs.drop 4 = (cs.drop 4).take 2 ++ cs.drop 6 from split_drop cs 4 2)] at R
  rw [← (show cs.drop 2 = (cs.drop 2).take 2 ++ cs.drop 4 from split_drop cs 2 2)] at R
  rw [← (show cs.drop 1 = (cs.drop 1).take 1 ++ cs.drop 2 from split_drop cs 1 1)] at R
  rw [← (show cs.drop 0 = (cs.drop 0).take 1 ++ cs.drop 1 from split_drop cs 0 1)] at R
  exact ⟨⟨a0, a1, a2, a3⟩, R, ⟨w0, w1, w2, w3⟩⟩
def wf_42 (x : RangeRow) : Prop := wf_3 x.Energy ∧ wf_24 x.Range
theorem rd_42 {H : Type} {en : TypeId × Value → H} {w : World} {sp : Nat → Bool} {held : Bool} : Rd H en Try.prog w sp held 42 enc_42 wf_42 := by
  intro fuel cs x h
  obtain ⟨hl, hf⟩ := rd_struct Try.underlying42 h
  rw [C_42] at hl
  obtain ⟨n0, y0, g0⟩ := hf 0 _ rfl
  have g0 : DataW.trod en Try.prog w 0 sp held n0 3 ((cs.drop 0).take (Try.prog.cellsOf 3)) = some y0 := g0
  rw [C_3] at g0
  obtain ⟨a0, r0, w0⟩ := rd_3 _ _ _ g0
  obtain ⟨n1, y1, g1⟩ := hf 1 _ rfl
  have g1 : DataW.trod en Try.prog w 0 sp held n1 24 ((cs.drop 1).take (Try.prog.cellsOf 24)) = some y1 := g1
  rw [C_24] at g1
  obtain ⟨a1, r1, w1⟩ := rd_24 _ _ _ g1
  have z : cs.drop 3 = [] := List.drop_eq_nil_of_le (by omega)
  have R := (r0.append (r1.append (show RL (Rep (H0 w)) [] (cs.drop 3) by rw [z]; exact rl_n)))
  rw [← (show cs.drop 1 = (cs.drop 1).take 2 ++ cs.drop 3 from split_drop cs 1 2)] at R
  rw [← (show cs.drop 0 = (cs.drop 0).take 1 ++ cs.drop 1 from split_drop cs 0 1)] at R
  exact ⟨⟨a0, a1⟩, R, ⟨w0, w1⟩⟩
def wf_27 (x : (Sl RangeRow)) : Prop := x.len ≤ 9223372036854775807 ∧ ∀ i, i < x.len → wf_42 (x.get i)
theorem rd_27 {H : Type} {en : TypeId × Value → H} {w : World} {sp : Nat → Bool} {held : Bool} : Rd H en Try.prog w sp held 27 enc_27 wf_27 := rd_slice Try.underlying27 C_42 (by decide) (fun _ => rfl) rd_42
def wf_37 (x : (Sl Int)) : Prop := x.len ≤ 9223372036854775807 ∧ ∀ i, i < x.len → wf_3 (x.get i)
theorem rd_37 {H : Type} {en : TypeId × Value → H} {w : World} {sp : Nat → Bool} {held : Bool} : Rd H en Try.prog w sp held 37 enc_37 wf_37 := rd_slice Try.underlying37 C_3 (by decide) (fun _ => rfl) rd_3
abbrev wf_4 (_ : Bool) : Prop := True
theorem rd_4 {H : Type} {en : TypeId × Value → H} {w : World} {sp : Nat → Bool} {held : Bool} : Rd H en Try.prog w sp held 4 enc_4 wf_4 := rd_bool Try.underlying4
def wf_39 (x : Nature) : Prop := wf_37 x.Ranges ∧ wf_37 x.Rates ∧ wf_4 x.Soon
theorem rd_39 {H : Type} {en : TypeId × Value → H} {w : World} {sp : Nat → Bool} {held : Bool} : Rd H en Try.prog w sp held 39 enc_39 wf_39 := by
  intro fuel cs x h
  obtain ⟨hl, hf⟩ := rd_struct Try.underlying39 h
  rw [C_39] at hl
  obtain ⟨n0, y0, g0⟩ := hf 0 _ rfl
  have g0 : DataW.trod en Try.prog w 0 sp held n0 37 ((cs.drop 0).take (Try.prog.cellsOf 37)) = some y0 := g0
  rw [C_37] at g0
  obtain ⟨a0, r0, w0⟩ := rd_37 _ _ _ g0
  obtain ⟨n1, y1, g1⟩ := hf 1 _ rfl
  have g1 : DataW.trod en Try.prog w 0 sp held n1 37 ((cs.drop 1).take (Try.prog.cellsOf 37)) = some y1 := g1
  rw [C_37] at g1
  obtain ⟨a1, r1, w1⟩ := rd_37 _ _ _ g1
  obtain ⟨n2, y2, g2⟩ := hf 2 _ rfl
  have g2 : DataW.trod en Try.prog w 0 sp held n2 4 ((cs.drop 2).take (Try.prog.cellsOf 4)) = some y2 := g2
  rw [C_4] at g2
  obtain ⟨a2, r2, w2⟩ := rd_4 _ _ _ g2
  have z : cs.drop 3 = [] := List.drop_eq_nil_of_le (by omega)
  have R := (r0.append (r1.append (r2.append (show RL (Rep (H0 w)) [] (cs.drop 3) by rw [z]; exact rl_n))))
  rw [← (show cs.drop 2 = (cs.drop 2).take 1 ++ cs.drop 3 from split_drop cs 2 1)] at R
  rw [← (show cs.drop 1 = (cs.drop 1).take 1 ++ cs.drop 2 from split_drop cs 1 1)] at R
  rw [← (show cs.drop 0 = (cs.drop 0).take 1 ++ cs.drop 1 from split_drop cs 0 1)] at R
  exact ⟨⟨a0, a1, a2⟩, R, ⟨w0, w1, w2⟩⟩
def wf_54 (x : Weather) : Prop := wf_24 x.Pressure ∧ wf_24 x.Warm
theorem rd_54 {H : Type} {en : TypeId × Value → H} {w : World} {sp : Nat → Bool} {held : Bool} : Rd H en Try.prog w sp held 54 enc_54 wf_54 := by
  intro fuel cs x h
  obtain ⟨hl, hf⟩ := rd_struct Try.underlying54 h
  rw [C_54] at hl
  obtain ⟨n0, y0, g0⟩ := hf 0 _ rfl
  have g0 : DataW.trod en Try.prog w 0 sp held n0 24 ((cs.drop 0).take (Try.prog.cellsOf 24)) = some y0 := g0
  rw [C_24] at g0
  obtain ⟨a0, r0, w0⟩ := rd_24 _ _ _ g0
  obtain ⟨n1, y1, g1⟩ := hf 1 _ rfl
  have g1 : DataW.trod en Try.prog w 0 sp held n1 24 ((cs.drop 2).take (Try.prog.cellsOf 24)) = some y1 := g1
  rw [C_24] at g1
  obtain ⟨a1, r1, w1⟩ := rd_24 _ _ _ g1
  have z : cs.drop 4 = [] := List.drop_eq_nil_of_le (by omega)
  have R := (r0.append (r1.append (show RL (Rep (H0 w)) [] (cs.drop 4) by rw [z]; exact rl_n)))
  rw [← (show cs.drop 2 = (cs.drop 2).take 2 ++ cs.drop 4 from split_drop cs 2 2)] at R
  rw [← (show cs.drop 0 = (cs.drop 0).take 2 ++ cs.drop 2 from split_drop cs 0 2)] at R
  exact ⟨⟨a0, a1⟩, R, ⟨w0, w1⟩⟩
def wf_56 (x : Spell) : Prop := wf_3 x.Slots ∧ wf_54 x.Weather
theorem rd_56 {H : Type} {en : TypeId × Value → H} {w : World} {sp : Nat → Bool} {held : Bool} : Rd H en Try.prog w sp held 56 enc_56 wf_56 := by
  intro fuel cs x h
  obtain ⟨hl, hf⟩ := rd_struct Try.underlying56 h
  rw [C_56] at hl
  obtain ⟨n0, y0, g0⟩ := hf 0 _ rfl
  have g0 : DataW.trod en Try.prog w 0 sp held n0 3 ((cs.drop 0).take (Try.prog.cellsOf 3)) = some y0 := g0
  rw [C_3] at g0
  obtain ⟨a0, r0, w0⟩ := rd_3 _ _ _ g0
  obtain ⟨n1, y1, g1⟩ := hf 1 _ rfl
  have g1 : DataW.trod en Try.prog w 0 sp held n1 54 ((cs.drop 1).take (Try.prog.cellsOf 54)) = some y1 := g1
  rw [C_54] at g1
  obtain ⟨a1, r1, w1⟩ := rd_54 _ _ _ g1
  have z : cs.drop 5 = [] := List.drop_eq_nil_of_le (by omega)
  have R := (r0.append (r1.append (show RL (Rep (H0 w)) [] (cs.drop 5) by rw [z]; exact rl_n)))
  rw [← (show cs.drop 1 = (cs.drop 1).take 4 ++ cs.drop 5 from split_drop cs 1 4)] at R
  rw [← (show cs.drop 0 = (cs.drop 0).take 1 ++ cs.drop 1 from split_drop cs 0 1)] at R
  exact ⟨⟨a0, a1⟩, R, ⟨w0, w1⟩⟩
def wf_46 (x : (Sl Spell)) : Prop := x.len ≤ 9223372036854775807 ∧ ∀ i, i < x.len → wf_56 (x.get i)
theorem rd_46 {H : Type} {en : TypeId × Value → H} {w : World} {sp : Nat → Bool} {held : Bool} : Rd H en Try.prog w sp held 46 enc_46 wf_46 := rd_slice Try.underlying46 C_56 (by decide) (fun _ => rfl) rd_56
def wf_52 (x : Sample) : Prop := wf_3 x.Pressure ∧ wf_3 x.Warm
theorem rd_52 {H : Type} {en : TypeId × Value → H} {w : World} {sp : Nat → Bool} {held : Bool} : Rd H en Try.prog w sp held 52 enc_52 wf_52 := by
  intro fuel cs x h
  obtain ⟨hl, hf⟩ := rd_struct Try.underlying52 h
  rw [C_52] at hl
  obtain ⟨n0, y0, g0⟩ := hf 0 _ rfl
  have g0 : DataW.trod en Try.prog w 0 sp held n0 3 ((cs.drop 0).take (Try.prog.cellsOf 3)) = some y0 := g0
  rw [C_3] at g0
  obtain ⟨a0, r0, w0⟩ := rd_3 _ _ _ g0
  obtain ⟨n1, y1, g1⟩ := hf 1 _ rfl
  have g1 : DataW.trod en Try.prog w 0 sp held n1 3 ((cs.drop 1).take (Try.prog.cellsOf 3)) = some y1 := g1
  rw [C_3] at g1
  obtain ⟨a1, r1, w1⟩ := rd_3 _ _ _ g1
  have z : cs.drop 2 = [] := List.drop_eq_nil_of_le (by omega)
  have R := (r0.append (r1.append (show RL (Rep (H0 w)) [] (cs.drop 2) by rw [z]; exact rl_n)))
  rw [← (show cs.drop 1 = (cs.drop 1).take 1 ++ cs.drop 2 from split_drop cs 1 1)] at R
  rw [← (show cs.drop 0 = (cs.drop 0).take 1 ++ cs.drop 1 from split_drop cs 0 1)] at R
  exact ⟨⟨a0, a1⟩, R, ⟨w0, w1⟩⟩
def wf_47 (x : (Sl Sample)) : Prop := x.len ≤ 9223372036854775807 ∧ ∀ i, i < x.len → wf_52 (x.get i)
theorem rd_47 {H : Type} {en : TypeId × Value → H} {w : World} {sp : Nat → Bool} {held : Bool} : Rd H en Try.prog w sp held 47 enc_47 wf_47 := rd_slice Try.underlying47 C_52 (by decide) (fun _ => rfl) rd_52
def wf_129 (x : KinkRow) : Prop := wf_3 x.Opacity ∧ wf_24 x.Share
theorem rd_129 {H : Type} {en : TypeId × Value → H} {w : World} {sp : Nat → Bool} {held : Bool} : Rd H en Try.prog w sp held 129 enc_129 wf_129 := by
  intro fuel cs x h
  obtain ⟨hl, hf⟩ := rd_struct Try.underlying129 h
  rw [C_129] at hl
  obtain ⟨n0, y0, g0⟩ := hf 0 _ rfl
  have g0 : DataW.trod en Try.prog w 0 sp held n0 3 ((cs.drop 0).take (Try.prog.cellsOf 3)) = some y0 := g0
  rw [C_3] at g0
  obtain ⟨a0, r0, w0⟩ := rd_3 _ _ _ g0
  obtain ⟨n1, y1, g1⟩ := hf 1 _ rfl
  have g1 : DataW.trod en Try.prog w 0 sp held n1 24 ((cs.drop 1).take (Try.prog.cellsOf 24)) = some y1 := g1
  rw [C_24] at g1
  obtain ⟨a1, r1, w1⟩ := rd_24 _ _ _ g1
  have z : cs.drop 3 = [] := List.drop_eq_nil_of_le (by omega)
  have R := (r0.append (r1.append (show RL (Rep (H0 w)) [] (cs.drop 3) by rw [z]; exact rl_n)))
  rw [← (show cs.drop 1 = (cs.drop 1).take 2 ++ cs.drop 3 from split_drop cs 1 2)] at R
  rw [← (show cs.drop 0 = (cs.drop 0).take 1 ++ cs.drop 1 from split_drop cs 0 1)] at R
  exact ⟨⟨a0, a1⟩, R, ⟨w0, w1⟩⟩
def wf_97 (x : (Sl KinkRow)) : Prop := x.len ≤ 9223372036854775807 ∧ ∀ i, i < x.len → wf_129 (x.get i)
theorem rd_97 {H : Type} {en : TypeId × Value → H} {w : World} {sp : Nat → Bool} {held : Bool} : Rd H en Try.prog w sp held 97 enc_97 wf_97 := rd_slice Try.underlying97 C_129 (by decide) (fun _ => rfl) rd_129
end Go.Proofs
namespace Go.Proofs
open Go Go.Pm
set_option maxRecDepth 100000
set_option linter.unusedVariables false
attribute [local irreducible] Go.Pm.vcFun Go.Pm.vc Go.Pm.vcIter
abbrev T36 : Tabs := (Tabs.nil.addF 29 ctr29)
theorem okT36 : TabsOk Try.prog T36 := (TabsOk.nil.addF ok29)
abbrev G36 : Ctrs := csm T36 (fun _ _ => []) (fun _ => false)
def ann36 : Ann := ⟨11, [(0, ⟨[1], [1], [], [], []⟩), (1, ⟨[2], [], [], [], []⟩)],
  [],
  [],
  [], []⟩
theorem f36_top (w : Weather) (K : List PA → Prop) :
  vcFun Try.prog G36 ann36 36 [.agg [.int .i64 w.Pressure.Low, .int .i64 w.Pressure.High, .int .i64 w.Warm.Low, .int .i64 w.Warm.High]] K =
  (condP (s29 w.Pressure (-1000:Int) (1000:Int))
   (K [.one (.bool (s29 w.Warm (-1000:Int) (1000:Int)))])
   (K [.one (.bool false)])) := by kernel_rfl
abbrev R36 := Bool
abbrev e36 (r : Bool) : List PA := [.one (.bool r)]
def s36 (w : Weather) : Bool :=
  (cond (s29 w.Pressure (-1000:Int) (1000:Int))
   (s29 w.Warm (-1000:Int) (1000:Int))
   false)
theorem q36 (w : Weather) (K : List PA → Prop) (hk : K (e36 (s36 w))) : vcFun Try.prog G36 ann36 36 [.agg [.int .i64 w.Pressure.Low, .int .i64 w.Pressure.High, .int .i64 w.Warm.Low, .int .i64 w.Warm.High]] K := by
  refine ofEq (f36_top w K) ?_
  unfold s36 at hk
  exact (condP_gt (K := fun r => K (e36 r))
   (fun hk => hk)
   (fun hk => hk) hk)
def ctr36 : List PA → COut
  | [.agg [.int .i64 a0_Pressure_Low, .int .i64 a0_Pressure_High, .int .i64 a0_Warm_Low, .int .i64 a0_Warm_High]] => .tot [.one (.bool (s36 (⟨(⟨a0_Pressure_Low, a0_Pressure_High⟩ : Span), (⟨a0_Warm_Low, a0_Warm_High⟩ : Span)⟩ : Weather)))]
  | _ => .no
theorem call36 : Callable Try.prog 36 := ⟨_, rfl, rfl, by kernel_rfl⟩
theorem ok36 : Ok Try.prog 36 ctr36 := ok_tab okT36 call36 fun args K h => by
  unfold ctr36 at h
  split at h
  · rename_i a0_Pressure_Low a0_Pressure_High a0_Warm_Low a0_Warm_High
    have hk := h
    exact ⟨(fun _ _ => []), (fun _ => false), ann36, q36 (⟨(⟨a0_Pressure_Low, a0_Pressure_High⟩ : Span), (⟨a0_Warm_Low, a0_Warm_High⟩ : Span)⟩ : Weather) K hk⟩
  · exact h.elim
abbrev T22 : Tabs := ((Tabs.nil.addF 36 ctr36).addF 58 ctr58)
theorem okT22 : TabsOk Try.prog T22 := ((TabsOk.nil.addF ok36).addF ok58)
abbrev G22 : Ctrs := csm T22 (fun _ _ => []) (fun _ => false)
def ann22 : Ann := ⟨29, [(0, ⟨[0], [], [], [], []⟩), (1, ⟨[0, 3], [], [], [], []⟩), (2, ⟨[0, 3, 7], [], [], [], []⟩), (3, ⟨[0, 3], [], [], [], []⟩), (4, ⟨[0, 3, 25], [], [], [], []⟩), (5, ⟨[2], [], [], [], []⟩), (6, ⟨[2], [], [], [], []⟩)],
  [(2, ⟨[0, 3], [], [], [], []⟩)],
  [(5, ⟨[0, 3, 25], [], [], [], []⟩)],
  [], []⟩
def f22_g0 (l_a0 : (Sl Spell)) (iv0 : Int) : St := ⟨[(0, .one (.c (.p (.sl l_a0.len 5 (fun i => enc_56 (l_a0.get i)))))), (3, .one (.c (.p (.int .i64 iv0))))], [], []⟩
def f22_at0 (K : List PA → Prop) (l_a0 : (Sl Spell)) (iv0 : Int) : Prop := vc Try.prog G22 ann22 (cdF Try.f22 [1, 0, 1, 0]) (blockK 0 (sqK Try.prog G22 ann22 (cdF Try.f22 [1, 1]) (bodyK Try.prog Try.f22 K))) (f22_g0 l_a0 iv0)
def f22_g1 (l_a0 : (Sl Spell)) (iv1 : Int) (t25v1 : Bool) : St := ⟨[(0, .one (.c (.p (.sl l_a0.len 5 (fun i => enc_56 (l_a0.get i)))))), (3, .one (.c (.p (.int .i64 iv1)))), (25, .one (.c (.p (.bool t25v1))))], [], []⟩
def f22_at1 (K : List PA → Prop) (X0 : St → Prop) (l_a0 : (Sl Spell)) (iv1 : Int) (t25v1 : Bool) : Prop := vc Try.prog G22 ann22 (cdF Try.f22 [1, 0, 1, 0, 0, 1, 0, 0, 1]) (blockK 1 (sqK Try.prog G22 ann22 (cdF Try.f22 [1, 0, 1, 0, 0, 1, 1]) (loopK Try.prog ann22 2 X0 (blockK 0 (sqK Try.prog G22 ann22 (cdF Try.f22 [1, 1]) (bodyK Try.prog Try.f22 K)))))) (f22_g1 l_a0 iv1 t25v1)
theorem f22_top (l_a0 : (Sl Spell)) (K : List PA → Prop) :
  vcFun Try.prog G22 ann22 22 [.one (.sl l_a0.len 5 (fun i => enc_56 (l_a0.get i)))] K =
  (f22_at0 K l_a0 (0:Int)) := by kernel_rfl
def f22_step0 (K : List PA → Prop) (X0 : St → Prop) (l_a0 : (Sl Spell)) (iv0 : Int) : Prop :=
  (condP (decide (iv0 < (l_a0.len : Int)))
   (((0 ≤ iv0 ∧ iv0 < (l_a0.len : Int))) ∧
   (condP (!(s58 ((l_a0.get iv0.toNat).Slots) (1:Int) (1000000:Int)))
    (f22_at1 K X0 l_a0 iv0 true)
    (((0 ≤ iv0 ∧ iv0 < (l_a0.len : Int))) ∧
    (f22_at1 K X0 l_a0 iv0 (!(s36 ((l_a0.get iv0.toNat).Weather)))))))
   (K [.one (.bool (s58 (l_a0.len : Int) (1:Int) (50:Int)))]))
theorem f22_stepeq0 (K : List PA → Prop) (X0 : St → Prop) (l_a0 : (Sl Spell)) (iv0 : Int) :
  vc Try.prog G22 ann22 (cd (cdF Try.f22 [1, 0, 1, 0]) [0]) (loopK Try.prog ann22 2 X0 (blockK 0 (sqK Try.prog G22 ann22 (cdF Try.f22 [1, 1]) (bodyK Try.prog Try.f22 K)))) (f22_g0 l_a0 iv0) =
  f22_step0 K X0 l_a0 iv0 := by kernel_rfl
theorem f22_loop0 (K : List PA → Prop) (l_a0 : (Sl Spell)) (iv0 : Int)
  (h : ∀ X0 : St → Prop, (∀ (iv0 : Int), f22_step0 K X0 l_a0 iv0 → X0 (f22_g0 l_a0 iv0)) → X0 (f22_g0 l_a0 iv0)) :
  f22_at0 K l_a0 iv0 := by
  have e : f22_at0 K l_a0 iv0 = (∀ X : St → Prop, (∀ s, vc Try.prog G22 ann22 (cd (cdF Try.f22 [1, 0, 1, 0]) [0]) (loopK Try.prog ann22 2 X (blockK 0 (sqK Try.prog G22 ann22 (cdF Try.f22 [1, 1]) (bodyK Try.prog Try.f22 K)))) s → X s) → X (f22_g0 l_a0 iv0)) := by kernel_rfl
  refine ofEq e ?_
  intro X hX
  refine h X ?_
  intro iv0 hs
  refine hX _ ?_
  have e2 := f22_stepeq0 K X l_a0 iv0
  rw [e2]
  exact hs
theorem f22_eq1 (K : List PA → Prop) (X0 : St → Prop) (l_a0 : (Sl Spell)) (iv1 : Int) (t25v1 : Bool) :
  f22_at1 K X0 l_a0 iv1 t25v1 =
  (condP t25v1
   (K [.one (.bool false)])
   (X0 (f22_g0 l_a0 (w64 (iv1 + (1:Int)))))) := by kernel_rfl
abbrev R22 := Bool
abbrev e22 (r : Bool) : List PA := [.one (.bool r)]
attribute [irreducible] f22_at0 f22_at1
def s22_at1 (S0 : Int → Bool) (l_a0 : (Sl Spell)) (iv1 : Int) (t25v1 : Bool) : Bool :=
  (cond t25v1
   false
   (S0 (w64 (iv1 + (1:Int)))))
def p22_at1 (P0 : Int → Bool) (l_a0 : (Sl Spell)) (iv1 : Int) (t25v1 : Bool) : Bool :=
  (cond t25v1
   true
   (P0 (w64 (iv1 + (1:Int)))))
theorem q22_at1 (K : List PA → Prop) (l_a0 : (Sl Spell))
  (X0 : St → Prop) (P0 : Int → Bool) (S0 : Int → Bool)
  (hX0 : ∀ (iv0 : Int), P0 iv0 = true → K (e22 (S0 iv0)) → X0 (f22_g0 l_a0 iv0)) (iv1 : Int) (t25v1 : Bool) (hs : p22_at1 P0 l_a0 iv1 t25v1 = true) (hk : K (e22 (s22_at1 S0 l_a0 iv1 t25v1))) : f22_at1 K X0 l_a0 iv1 t25v1 := by
  refine ofEq (f22_eq1 K X0 l_a0 iv1 t25v1) ?_
  unfold p22_at1 at hs
  unfold s22_at1 at hk
  exact (condB_go (K := fun r => K (e22 r))
   (fun hs hk => hk)
   (fun hs hk => (hX0 (w64 (iv1 + (1:Int))) hs hk)) hs hk)
def s22_st0 (l_a0 : (Sl Spell)) (S0 : Int → Bool) (iv0 : Int) : Bool :=
  (cond (decide (iv0 < (l_a0.len : Int)))
   (cond (!(s58 ((l_a0.get iv0.toNat).Slots) (1:Int) (1000000:Int)))
    (s22_at1 S0 l_a0 iv0 true)
    (s22_at1 S0 l_a0 iv0 (!(s36 ((l_a0.get iv0.toNat).Weather)))))
   (s58 (l_a0.len : Int) (1:Int) (50:Int)))
def p22_st0 (l_a0 : (Sl Spell)) (P0 : Int → Bool) (iv0 : Int) : Bool :=
  (cond (decide (iv0 < (l_a0.len : Int)))
   (decide ((0 ≤ iv0 ∧ iv0 < (l_a0.len : Int))) &&
   (cond (!(s58 ((l_a0.get iv0.toNat).Slots) (1:Int) (1000000:Int)))
    (p22_at1 P0 l_a0 iv0 true)
    (decide ((0 ≤ iv0 ∧ iv0 < (l_a0.len : Int))) &&
    (p22_at1 P0 l_a0 iv0 (!(s36 ((l_a0.get iv0.toNat).Weather)))))))
   true)
def s22_lp0 (l_a0 : (Sl Spell)) : Nat → Int → Bool
  | 0 => fun _ => default
  | k + 1 => s22_st0 l_a0 (s22_lp0 l_a0 k)
def p22_lp0 (l_a0 : (Sl Spell)) : Nat → Int → Bool
  | 0 => fun _ => false
  | k + 1 => p22_st0 l_a0 (p22_lp0 l_a0 k)
def s22_at0 (l_a0 : (Sl Spell)) (iv0 : Int) : Bool := s22_lp0 l_a0 Fuel iv0
def p22_at0 (l_a0 : (Sl Spell)) (iv0 : Int) : Bool := p22_lp0 l_a0 Fuel iv0
theorem q22_at0 (K : List PA → Prop) (l_a0 : (Sl Spell)) (iv0 : Int) (hs : p22_at0 l_a0 iv0 = true) (hk : K (e22 (s22_at0 l_a0 iv0))) : f22_at0 K l_a0 iv0 := by
  refine f22_loop0 K l_a0 iv0 ?_
  intro X0 hstep
  have key : ∀ (k : Nat) (iv0 : Int), p22_lp0 l_a0 k iv0 = true → K (e22 (s22_lp0 l_a0 k iv0)) → X0 (f22_g0 l_a0 iv0) := by
    intro k
    induction k with
    | zero => intro iv0 hs; exact absurd hs Bool.false_ne_true
    | succ k ih =>
      intro iv0 hs hk
      refine hstep iv0 ?_
      have hs : p22_st0 l_a0 (p22_lp0 l_a0 k) iv0 = true := hs
      have hk : K (e22 (s22_st0 l_a0 (s22_lp0 l_a0 k) iv0)) := hk
      unfold p22_st0 at hs
      unfold s22_st0 at hk
      generalize s22_lp0 l_a0 k = S0 at hk ih
      generalize p22_lp0 l_a0 k = P0 at hs ih
      have hX0 := ih
      exact (condB_go (K := fun r => K (e22 r))
       (fun hs hk => (andK hs fun hc hs => ⟨hc, (condB_go (K := fun r => K (e22 r))
        (fun hs hk => (q22_at1 K l_a0 X0 P0 S0 hX0 iv0 true hs hk))
        (fun hs hk => (andK hs fun hc hs => ⟨hc, (q22_at1 K l_a0 X0 P0 S0 hX0 iv0 (!(s36 ((l_a0.get iv0.toNat).Weather))) hs hk)⟩)) hs hk)⟩))
       (fun hs hk => hk) hs hk)
  exact key _ iv0 hs hk
def s22 (l_a0 : (Sl Spell)) : Bool :=
  (s22_at0 l_a0 (0:Int))
def p22 (l_a0 : (Sl Spell)) : Bool :=
  (p22_at0 l_a0 (0:Int))
theorem q22 (l_a0 : (Sl Spell)) (K : List PA → Prop) (hs : p22 l_a0 = true) (hk : K (e22 (s22 l_a0))) : vcFun Try.prog G22 ann22 22 [.one (.sl l_a0.len 5 (fun i => enc_56 (l_a0.get i)))] K := by
  refine ofEq (f22_top l_a0 K) ?_
  unfold p22 at hs
  unfold s22 at hk
  exact (q22_at0 K l_a0 (0:Int) hs hk)
def ctr22 : List PA → COut
  | [.one (.sl a0_n a0_s a0_g)] => .det (IsE enc_56 5 a0_s a0_g ∧ p22 (⟨a0_n, decF_56 a0_g⟩ : (Sl Spell)) = true) [.one (.bool (s22 (⟨a0_n, decF_56 a0_g⟩ : (Sl Spell))))]
  | _ => .no
theorem call22 : Callable Try.prog 22 := ⟨_, rfl, rfl, by kernel_rfl⟩
theorem ok22 : Ok Try.prog 22 ctr22 := ok_tab okT22 call22 fun args K h => by
  unfold ctr22 at h
  split at h
  · rename_i a0_n a0_s a0_g
    obtain ⟨⟨⟨rfl, a0_f, rfl⟩, hs⟩, hk⟩ := h
    try rw [decF_enc_56 a0_f] at hs
    try rw [decF_enc_56 a0_f] at hk
    exact ⟨(fun _ _ => []), (fun _ => false), ann22, q22 (⟨a0_n, a0_f⟩ : (Sl Spell)) K hs hk⟩
  · exact h.elim
end Go.Proofs
namespace Go.Proofs
open Go Go.Pm
set_option linter.unusedVariables false
theorem s63_eq (n lo hi : Int) : s63 n lo hi = decide (lo ≤ n ∧ n ≤ hi) := by
  unfold s63
  by_cases h1 : lo ≤ n <;> by_cases h2 : n ≤ hi <;> simp [h1, h2]
theorem s58_eq (n lo hi : Int) : s58 n lo hi = decide (lo ≤ n ∧ n ≤ hi) := by
  unfold s58
  by_cases h1 : lo ≤ n <;> by_cases h2 : n ≤ hi <;> simp [h1, h2]
theorem s69_eq (s : Span) (lo hi : Int) : s69 s lo hi = decide (lo ≤ s.Low ∧ s.Low ≤ s.High ∧ s.High ≤ hi) := by
  unfold s69
  rw [s63_eq]
  by_cases h1 : lo ≤ s.Low <;> by_cases h2 : s.Low ≤ s.High <;> by_cases h3 : s.High ≤ hi <;> simp [h1, h2, h3]
theorem s29_eq (s : Span) (lo hi : Int) : s29 s lo hi = decide (lo ≤ s.Low ∧ s.Low ≤ s.High ∧ s.High ≤ hi) := by
  unfold s29
  by_cases h1 : lo ≤ s.Low <;> by_cases h2 : s.Low ≤ s.High <;> by_cases h3 : s.High ≤ hi <;> simp [h1, h2, h3]
theorem s94_eq (a b : Span) : s94 a b = decide (a.Low ≤ b.Low ∧ a.High ≤ b.High) := by
  unfold s94
  by_cases h1 : a.Low ≤ b.Low <;> by_cases h2 : a.High ≤ b.High <;> simp [h1, h2]
theorem s104_eq (a b : Span) : s104 a b = decide (b.Low ≤ a.Low ∧ b.High ≤ a.High) := by
  unfold s104
  rw [s94_eq]
def TRow (t : Sl RangeRow) (i : Nat) : Prop := (1 ≤ (t.get i).Energy ∧ (t.get i).Energy ≤ 1000000) ∧ (0 ≤ (t.get i).Range.Low ∧ (t.get i).Range.Low ≤ (t.get i).Range.High ∧ (t.get i).Range.High ≤ 1000000) ∧
  (i = 0 ∨ (t.get (i - 1)).Energy < (t.get i).Energy ∧ (t.get (i - 1)).Range.Low ≤ (t.get i).Range.Low ∧ (t.get (i - 1)).Range.High ≤ (t.get i).Range.High)
instance (t : Sl RangeRow) (i : Nat) : Decidable (TRow t i) := by unfold TRow; infer_instance
def BRow (parts : Int) (t : Sl FluxRow) (i : Nat) : Prop := (1 ≤ (t.get i).Energy ∧ (t.get i).Energy ≤ 1000000) ∧ (0 ≤ (t.get i).Rate.Low ∧ (t.get i).Rate.Low ≤ (t.get i).Rate.High ∧ (t.get i).Rate.High ≤ parts) ∧
  (i = 0 ∨ (t.get (i - 1)).Energy < (t.get i).Energy ∧ (t.get i).Rate.Low ≤ (t.get (i - 1)).Rate.Low ∧ (t.get i).Rate.High ≤ (t.get (i - 1)).Rate.High)
instance (parts : Int) (t : Sl FluxRow) (i : Nat) : Decidable (BRow parts t i) := by unfold BRow; infer_instance
theorem s91_eq (t : Sl RangeRow) (hn : t.len ≤ 9223372036854775807) :
    p91 t 1 1000000 1000000 = true ∧ (s91 t 1 1000000 1000000 = true ↔ (∀ i, i < t.len → decide (TRow t i) = true) ∧ decide (1 ≤ (t.len : Int) ∧ (t.len : Int) ≤ 40) = true) := by
  refine all_loop (n := t.len) (good := fun i => decide (TRow t i)) (lpS := s91_lp0 t 1 1000000 1000000) (lpP := p91_lp0 t 1 1000000 1000000) ?_ ?_ ?_ ?_ hn
  · intro k i hi
    show s91_st0 t 1 1000000 1000000 (s91_lp0 t 1 1000000 1000000 k) i = cond (decide (TRow t i)) _ _
    generalize s91_lp0 t 1 1000000 1000000 k = S
    unfold s91_st0 s91_at1 s91_at2 s91_at3
    have e0 : (i : Int).toNat = i := by omega
    have el : decide ((i : Int) < (t.len : Int)) = true := decide_eq_true (by omega)
    by_cases h0 : 0 < i
    · have e2 : w64 ((i : Int) - 1) = ((i - 1 : Nat) : Int) := by rw [w64_id (by omega) (by omega)]; omega
      by_cases hg : TRow t i
      all_goals
        first | rw [decide_eq_true hg] | rw [decide_eq_false hg]
        unfold TRow at hg
        simp only [s63_eq, s69_eq, s94_eq, s92, s93, e0, el, e2, Int.toNat_natCast, Bool.cond_decide, ← decide_not, cond_true, cond_false]
        repeat' split
        all_goals first | rfl | (exfalso; omega)
    · have : i = 0 := by omega
      subst this
      by_cases hg : TRow t 0
      all_goals
        first | rw [decide_eq_true hg] | rw [decide_eq_false hg]
        unfold TRow at hg
        simp only [s63_eq, s69_eq, s94_eq, s92, s93, e0, el, Bool.cond_decide, ← decide_not, cond_true, cond_false]
        repeat' split
        all_goals first | rfl | (exfalso; omega)
  · intro k
    show s91_st0 t 1 1000000 1000000 (s91_lp0 t 1 1000000 1000000 k) _ = _
    unfold s91_st0
    rw [decide_eq_false (by omega), cond_false]
    rw [s63_eq]
  · intro k i hi
    show p91_st0 t 1 1000000 1000000 (p91_lp0 t 1 1000000 1000000 k) i = cond (decide (TRow t i)) _ _
    generalize p91_lp0 t 1 1000000 1000000 k = S
    unfold p91_st0 p91_at1 p91_at2 p91_at3
    have e0 : (i : Int).toNat = i := by omega
    have el : decide ((i : Int) < (t.len : Int)) = true := decide_eq_true (by omega)
    have e4 : decide (0 ≤ (i : Int) ∧ (i : Int) < (t.len : Int)) = true := decide_eq_true (by omega)
    by_cases h0 : 0 < i
    · have e2 : w64 ((i : Int) - 1) = ((i - 1 : Nat) : Int) := by rw [w64_id (by omega) (by omega)]; omega
      have e3 : decide (0 ≤ ((i - 1 : Nat) : Int) ∧ ((i - 1 : Nat) : Int) < (t.len : Int)) = true := decide_eq_true (by omega)
      by_cases hg : TRow t i
      all_goals
        first | rw [decide_eq_true hg] | rw [decide_eq_false hg]
        unfold TRow at hg
        simp only [s63_eq, s69_eq, s94_eq, s92, s93, e0, el, e2, Int.toNat_natCast, e3, e4, Bool.true_and, Bool.cond_decide, ← decide_not, cond_true, cond_false]
        repeat' split
        all_goals first | rfl | (exfalso; omega)
    · have : i = 0 := by omega
      subst this
      by_cases hg : TRow t 0
      all_goals
        first | rw [decide_eq_true hg] | rw [decide_eq_false hg]
        unfold TRow at hg
        simp only [s63_eq, s69_eq, s94_eq, s92, s93, e0, el, e4, Bool.true_and, Bool.cond_decide, ← decide_not, cond_true, cond_false]
        repeat' split
        all_goals first | rfl | (exfalso; omega)
  · intro k
    show p91_st0 t 1 1000000 1000000 (p91_lp0 t 1 1000000 1000000 k) _ = _
    unfold p91_st0
    rw [decide_eq_false (by omega), cond_false]
theorem s17_eq (t : Sl RangeRow) (hn : t.len ≤ 9223372036854775807) :
    p17 t = true ∧ (s17 t = true ↔ (∀ i, i < t.len → decide (TRow t i) = true) ∧ decide (1 ≤ (t.len : Int) ∧ (t.len : Int) ≤ 40) = true) := by
  refine all_loop (n := t.len) (good := fun i => decide (TRow t i)) (lpS := s17_lp0 t) (lpP := p17_lp0 t) ?_ ?_ ?_ ?_ hn
  · intro k i hi
    show s17_st0 t (s17_lp0 t k) i = cond (decide (TRow t i)) _ _
    generalize s17_lp0 t k = S
    unfold s17_st0 s17_at1
    have e0 : (i : Int).toNat = i := by omega
    have el : decide ((i : Int) < (t.len : Int)) = true := decide_eq_true (by omega)
    by_cases h0 : 0 < i
    · have e2 : w64 ((i : Int) - 1) = ((i - 1 : Nat) : Int) := by rw [w64_id (by omega) (by omega)]; omega
      by_cases hg : TRow t i
      all_goals
        first | rw [decide_eq_true hg] | rw [decide_eq_false hg]
        unfold TRow at hg
        simp only [s58_eq, s29_eq, e0, el, e2, Int.toNat_natCast, Bool.cond_decide, ← decide_not, cond_true, cond_false]
        repeat' split
        all_goals first | rfl | (exfalso; omega)
    · have : i = 0 := by omega
      subst this
      by_cases hg : TRow t 0
      all_goals
        first | rw [decide_eq_true hg] | rw [decide_eq_false hg]
        unfold TRow at hg
        simp only [s58_eq, s29_eq, e0, el, Bool.cond_decide, ← decide_not, cond_true, cond_false]
        repeat' split
        all_goals first | rfl | (exfalso; omega)
  · intro k
    show s17_st0 t (s17_lp0 t k) _ = _
    unfold s17_st0
    rw [decide_eq_false (by omega), cond_false]
    rw [s58_eq]
  · intro k i hi
    show p17_st0 t (p17_lp0 t k) i = cond (decide (TRow t i)) _ _
    generalize p17_lp0 t k = S
    unfold p17_st0 p17_at1
    have e0 : (i : Int).toNat = i := by omega
    have el : decide ((i : Int) < (t.len : Int)) = true := decide_eq_true (by omega)
    have e4 : decide (0 ≤ (i : Int) ∧ (i : Int) < (t.len : Int)) = true := decide_eq_true (by omega)
    by_cases h0 : 0 < i
    · have e2 : w64 ((i : Int) - 1) = ((i - 1 : Nat) : Int) := by rw [w64_id (by omega) (by omega)]; omega
      have e3 : decide (0 ≤ ((i - 1 : Nat) : Int) ∧ ((i - 1 : Nat) : Int) < (t.len : Int)) = true := decide_eq_true (by omega)
      by_cases hg : TRow t i
      all_goals
        first | rw [decide_eq_true hg] | rw [decide_eq_false hg]
        unfold TRow at hg
        simp only [s58_eq, s29_eq, e0, el, e2, Int.toNat_natCast, e3, e4, Bool.true_and, Bool.cond_decide, ← decide_not, cond_true, cond_false]
        repeat' split
        all_goals first | rfl | (exfalso; omega)
    · have : i = 0 := by omega
      subst this
      by_cases hg : TRow t 0
      all_goals
        first | rw [decide_eq_true hg] | rw [decide_eq_false hg]
        unfold TRow at hg
        simp only [s58_eq, s29_eq, e0, el, e4, Bool.true_and, Bool.cond_decide, ← decide_not, cond_true, cond_false]
        repeat' split
        all_goals first | rfl | (exfalso; omega)
  · intro k
    show p17_st0 t (p17_lp0 t k) _ = _
    unfold p17_st0
    rw [decide_eq_false (by omega), cond_false]
theorem s101_eq (parts : Int) (t : Sl FluxRow) (hn : t.len ≤ 9223372036854775807) :
    p101 t 1 1000000 parts = true ∧ (s101 t 1 1000000 parts = true ↔ (∀ i, i < t.len → decide (BRow parts t i) = true) ∧ decide (1 ≤ (t.len : Int) ∧ (t.len : Int) ≤ 40) = true) := by
  refine all_loop (n := t.len) (good := fun i => decide (BRow parts t i)) (lpS := s101_lp0 t 1 1000000 parts) (lpP := p101_lp0 t 1 1000000 parts) ?_ ?_ ?_ ?_ hn
  · intro k i hi
    show s101_st0 t 1 1000000 parts (s101_lp0 t 1 1000000 parts k) i = cond (decide (BRow parts t i)) _ _
    generalize s101_lp0 t 1 1000000 parts k = S
    unfold s101_st0 s101_at1 s101_at2 s101_at3
    have e0 : (i : Int).toNat = i := by omega
    have el : decide ((i : Int) < (t.len : Int)) = true := decide_eq_true (by omega)
    by_cases h0 : 0 < i
    · have e2 : w64 ((i : Int) - 1) = ((i - 1 : Nat) : Int) := by rw [w64_id (by omega) (by omega)]; omega
      by_cases hg : BRow parts t i
      all_goals
        first | rw [decide_eq_true hg] | rw [decide_eq_false hg]
        unfold BRow at hg
        simp only [s63_eq, s69_eq, s104_eq, s102, s103, e0, el, e2, Int.toNat_natCast, Bool.cond_decide, ← decide_not, cond_true, cond_false]
        repeat' split
        all_goals first | rfl | (exfalso; omega)
    · have : i = 0 := by omega
      subst this
      by_cases hg : BRow parts t 0
      all_goals
        first | rw [decide_eq_true hg] | rw [decide_eq_false hg]
        unfold BRow at hg
        simp only [s63_eq, s69_eq, s104_eq, s102, s103, e0, el, Bool.cond_decide, ← decide_not, cond_true, cond_false]
        repeat' split
        all_goals first | rfl | (exfalso; omega)
  · intro k
    show s101_st0 t 1 1000000 parts (s101_lp0 t 1 1000000 parts k) _ = _
    unfold s101_st0
    rw [decide_eq_false (by omega), cond_false]
    rw [s63_eq]
  · intro k i hi
    show p101_st0 t 1 1000000 parts (p101_lp0 t 1 1000000 parts k) i = cond (decide (BRow parts t i)) _ _
    generalize p101_lp0 t 1 1000000 parts k = S
    unfold p101_st0 p101_at1 p101_at2 p101_at3
    have e0 : (i : Int).toNat = i := by omega
    have el : decide ((i : Int) < (t.len : Int)) = true := decide_eq_true (by omega)
    have e4 : decide (0 ≤ (i : Int) ∧ (i : Int) < (t.len : Int)) = true := decide_eq_true (by omega)
    by_cases h0 : 0 < i
    · have e2 : w64 ((i : Int) - 1) = ((i - 1 : Nat) : Int) := by rw [w64_id (by omega) (by omega)]; omega
      have e3 : decide (0 ≤ ((i - 1 : Nat) : Int) ∧ ((i - 1 : Nat) : Int) < (t.len : Int)) = true := decide_eq_true (by omega)
      by_cases hg : BRow parts t i
      all_goals
        first | rw [decide_eq_true hg] | rw [decide_eq_false hg]
        unfold BRow at hg
        simp only [s63_eq, s69_eq, s104_eq, s102, s103, e0, el, e2, Int.toNat_natCast, e3, e4, Bool.true_and, Bool.cond_decide, ← decide_not, cond_true, cond_false]
        repeat' split
        all_goals first | rfl | (exfalso; omega)
    · have : i = 0 := by omega
      subst this
      by_cases hg : BRow parts t 0
      all_goals
        first | rw [decide_eq_true hg] | rw [decide_eq_false hg]
        unfold BRow at hg
        simp only [s63_eq, s69_eq, s104_eq, s102, s103, e0, el, e4, Bool.true_and, Bool.cond_decide, ← decide_not, cond_true, cond_false]
        repeat' split
        all_goals first | rfl | (exfalso; omega)
  · intro k
    show p101_st0 t 1 1000000 parts (p101_lp0 t 1 1000000 parts k) _ = _
    unfold p101_st0
    rw [decide_eq_false (by omega), cond_false]
theorem s59_eq (parts : Int) (t : Sl FluxRow) (hn : t.len ≤ 9223372036854775807) :
    p59 parts t = true ∧ (s59 parts t = true ↔ (∀ i, i < t.len → decide (BRow parts t i) = true) ∧ (cond (decide (1 ≤ (t.len : Int) ∧ (t.len : Int) ≤ 40)) ((t.get 0).Energy == (1:Int)) false) = true) := by
  refine all_loop (n := t.len) (good := fun i => decide (BRow parts t i)) (lpS := s59_lp0 parts t) (lpP := p59_lp0 parts t) ?_ ?_ ?_ ?_ hn
  · intro k i hi
    show s59_st0 parts t (s59_lp0 parts t k) i = cond (decide (BRow parts t i)) _ _
    generalize s59_lp0 parts t k = S
    unfold s59_st0 s59_at1
    have e0 : (i : Int).toNat = i := by omega
    have el : decide ((i : Int) < (t.len : Int)) = true := decide_eq_true (by omega)
    by_cases h0 : 0 < i
    · have e2 : w64 ((i : Int) - 1) = ((i - 1 : Nat) : Int) := by rw [w64_id (by omega) (by omega)]; omega
      by_cases hg : BRow parts t i
      all_goals
        first | rw [decide_eq_true hg] | rw [decide_eq_false hg]
        unfold BRow at hg
        simp only [s58_eq, s29_eq, e0, el, e2, Int.toNat_natCast, Bool.cond_decide, ← decide_not, cond_true, cond_false]
        repeat' split
        all_goals first | rfl | (exfalso; omega)
    · have : i = 0 := by omega
      subst this
      by_cases hg : BRow parts t 0
      all_goals
        first | rw [decide_eq_true hg] | rw [decide_eq_false hg]
        unfold BRow at hg
        simp only [s58_eq, s29_eq, e0, el, Bool.cond_decide, ← decide_not, cond_true, cond_false]
        repeat' split
        all_goals first | rfl | (exfalso; omega)
  · intro k
    show s59_st0 parts t (s59_lp0 parts t k) _ = _
    unfold s59_st0
    rw [decide_eq_false (by omega), cond_false]
    rw [s58_eq]
  · intro k i hi
    show p59_st0 parts t (p59_lp0 parts t k) i = cond (decide (BRow parts t i)) _ _
    generalize p59_lp0 parts t k = S
    unfold p59_st0 p59_at1
    have e0 : (i : Int).toNat = i := by omega
    have el : decide ((i : Int) < (t.len : Int)) = true := decide_eq_true (by omega)
    have e4 : decide (0 ≤ (i : Int) ∧ (i : Int) < (t.len : Int)) = true := decide_eq_true (by omega)
    by_cases h0 : 0 < i
    · have e2 : w64 ((i : Int) - 1) = ((i - 1 : Nat) : Int) := by rw [w64_id (by omega) (by omega)]; omega
      have e3 : decide (0 ≤ ((i - 1 : Nat) : Int) ∧ ((i - 1 : Nat) : Int) < (t.len : Int)) = true := decide_eq_true (by omega)
      by_cases hg : BRow parts t i
      all_goals
        first | rw [decide_eq_true hg] | rw [decide_eq_false hg]
        unfold BRow at hg
        simp only [s58_eq, s29_eq, e0, el, e2, Int.toNat_natCast, e3, e4, Bool.true_and, Bool.cond_decide, ← decide_not, cond_true, cond_false]
        repeat' split
        all_goals first | rfl | (exfalso; omega)
    · have : i = 0 := by omega
      subst this
      by_cases hg : BRow parts t 0
      all_goals
        first | rw [decide_eq_true hg] | rw [decide_eq_false hg]
        unfold BRow at hg
        simp only [s58_eq, s29_eq, e0, el, e4, Bool.true_and, Bool.cond_decide, ← decide_not, cond_true, cond_false]
        repeat' split
        all_goals first | rfl | (exfalso; omega)
  · intro k
    show p59_st0 parts t (p59_lp0 parts t k) _ = _
    unfold p59_st0
    rw [decide_eq_false (by omega), cond_false]
    rw [s58_eq]
    by_cases h : 1 ≤ (t.len : Int) ∧ (t.len : Int) ≤ 40
    · rw [decide_eq_true h, decide_eq_true (by omega)]; rfl
    · rw [decide_eq_false h]; rfl
def TOk (t : Sl RangeRow) : Prop := (1 ≤ (t.len : Int) ∧ (t.len : Int) ≤ 40) ∧ ∀ i, i < t.len → TRow t i
def BOk (parts : Int) (t : Sl FluxRow) : Prop := (1 ≤ (t.len : Int) ∧ (t.len : Int) ≤ 40) ∧ (t.get 0).Energy = 1 ∧ ∀ i, i < t.len → BRow parts t i
def SOk (s : Sky) : Prop := ((2 ≤ s.Parts ∧ s.Parts ≤ 1000000) ∧ (1 ≤ (s.Bins.len : Int) ∧ (s.Bins.len : Int) ≤ 20) ∧ (-100 ≤ s.Beta.Low ∧ s.Beta.Low ≤ s.Beta.High ∧ s.Beta.High ≤ 100) ∧ (-100 ≤ s.Alpha.Low ∧ s.Alpha.Low ≤ s.Alpha.High ∧ s.Alpha.High ≤ 100)) ∧ ∀ i, i < s.Bins.len → BOk s.Parts (s.Bins.get i)
theorem s62_ok (t : Sl RangeRow) (hn : t.len ≤ 9223372036854775807) : p62 t = true ∧ (s62 t = true ↔ TOk t) := by
  obtain ⟨h1, h2⟩ := s91_eq t hn
  unfold p62 s62 TOk
  rw [h1]
  refine ⟨rfl, h2.trans ?_⟩
  simp only [decide_eq_true_eq]
  exact And.comm
theorem s17_ok (t : Sl RangeRow) (hn : t.len ≤ 9223372036854775807) : p17 t = true ∧ s17 t = s62 t := by
  obtain ⟨h1, h2⟩ := s17_eq t hn
  refine ⟨h1, Bool.eq_iff_iff.2 (h2.trans ((s62_ok t hn).2.trans ?_).symm)⟩
  unfold TOk
  simp only [decide_eq_true_eq]
  exact And.comm
theorem s101_ok (parts : Int) (t : Sl FluxRow) (hn : t.len ≤ 9223372036854775807) : p101 t 1 1000000 parts = true ∧ ((s101 t 1 1000000 parts && (t.get 0).Energy == 1) = true ↔ BOk parts t) ∧ (s101 t 1 1000000 parts = true → 0 < t.len) := by
  obtain ⟨h1, h2⟩ := s101_eq parts t hn
  refine ⟨h1, ?_, fun h => ?_⟩
  · rw [Bool.and_eq_true, h2]
    unfold BOk
    simp only [decide_eq_true_eq, beq_iff_eq]
    exact ⟨fun h => ⟨h.1.2, h.2, h.1.1⟩, fun h => ⟨⟨h.2.2, h.1⟩, h.2.1⟩⟩
  · have := of_decide_eq_true (h2.1 h).2
    omega
theorem s59_ok (parts : Int) (t : Sl FluxRow) (hn : t.len ≤ 9223372036854775807) : p59 parts t = true ∧ (s59 parts t = true ↔ BOk parts t) := by
  obtain ⟨h1, h2⟩ := s59_eq parts t hn
  refine ⟨h1, h2.trans ?_⟩
  unfold BOk
  simp only [decide_eq_true_eq, Bool.cond_decide, Bool.if_false_right, Bool.and_eq_true, beq_iff_eq]
  exact ⟨fun h => ⟨h.2.1, h.2.2, h.1⟩, fun h => ⟨h.2.2, h.1, h.2.1⟩⟩
end Go.Proofs
namespace Go.Proofs
open Go Go.Pm
set_option linter.unusedVariables false
theorem last_fst {β : Type} {c d : Nat → Bool} {v : Nat → β} {n : Nat} {a : β} (hcd : ∀ i, i < n → d i = !c i) (hup : ∀ i j, i ≤ j → j < n → d i = true → d j = true) :
    lastF c v n a = if 0 < fst d n then v (fst d n - 1) else a := by
  have hl := fst_le d n
  have hhi : ∀ j, fst d n ≤ j → j < n → c j = false := by
    intro j h1 h2
    have := hup _ _ h1 h2 (fst_hi (by omega))
    rw [hcd j h2] at this
    simpa using this
  by_cases h : 0 < fst d n
  · rw [if_pos h]
    refine last_at (by omega) ?_ (fun j h1 h2 => hhi j (by omega) h2)
    have := fst_lo (c := d) (n := n) (j := fst d n - 1) (by omega)
    rw [hcd _ (by omega)] at this
    simpa using this
  · rw [if_neg h]
    exact last_none fun j hj => hhi j (by omega) hj
def SL (s : Sky) : Prop := s.Bins.len ≤ 9223372036854775807 ∧ ∀ i, i < s.Bins.len → (s.Bins.get i).len ≤ 9223372036854775807
theorem s75_ok (s : Sky) (hs : SL s) : p75 s = true ∧ (s75 s = true ↔ SOk s) := by
  have h : p75 s = true ∧ (s75 s = true ↔ (∀ i, i < s.Bins.len → (s101 (s.Bins.get i) 1 1000000 s.Parts && ((s.Bins.get i).get 0).Energy == 1) = true) ∧ s75_at2 s s.Bins = true) := by
    refine all_loop (n := s.Bins.len) (good := fun i => s101 (s.Bins.get i) 1 1000000 s.Parts && ((s.Bins.get i).get 0).Energy == 1) (lpS := fun k i => s75_lp0 s k s.Bins (s.Bins.len : Int) i s.Bins) (lpP := fun k i => p75_lp0 s k s.Bins (s.Bins.len : Int) i s.Bins) ?_ ?_ ?_ ?_ hs.1
    · intro k i hi
      show s75_st0 s (s75_lp0 s k) s.Bins (s.Bins.len : Int) i s.Bins = cond _ (s75_lp0 s k s.Bins (s.Bins.len : Int) (w64 ((i : Int) + 1)) s.Bins) false
      generalize s75_lp0 s k = S
      unfold s75_st0 s75_at1
      rw [decide_eq_true (by omega), Int.toNat_natCast]
      cases s101 (s.Bins.get i) 1 1000000 s.Parts
      · rfl
      · cases h : ((s.Bins.get i).get 0).Energy == 1 <;> simp [bne, h]
    · intro k
      show s75_st0 s (s75_lp0 s k) s.Bins (s.Bins.len : Int) _ s.Bins = _
      unfold s75_st0
      rw [decide_eq_false (by omega), cond_false]
    · intro k i hi
      show p75_st0 s (p75_lp0 s k) s.Bins (s.Bins.len : Int) i s.Bins = cond _ (p75_lp0 s k s.Bins (s.Bins.len : Int) (w64 ((i : Int) + 1)) s.Bins) true
      generalize p75_lp0 s k = S
      unfold p75_st0 p75_at1
      obtain ⟨h1, _, h3⟩ := s101_ok s.Parts (s.Bins.get i) (hs.2 i hi)
      rw [decide_eq_true (by omega), Int.toNat_natCast, h1, decide_eq_true (show 0 ≤ (i : Int) ∧ (i : Int) < (s.Bins.len : Int) by omega)]
      cases h : s101 (s.Bins.get i) 1 1000000 s.Parts
      · rfl
      · have h4 := h3 h
        rw [decide_eq_true (show (0 : Int) ≤ 0 ∧ (0 : Int) < ((s.Bins.get i).len : Int) by omega)]
        cases h : ((s.Bins.get i).get 0).Energy == 1 <;> simp [bne, h]
    · intro k
      show p75_st0 s (p75_lp0 s k) s.Bins (s.Bins.len : Int) _ s.Bins = _
      unfold p75_st0
      rw [decide_eq_false (by omega), cond_false]
  refine ⟨h.1, h.2.trans ?_⟩
  have e : s75_at2 s s.Bins = true ↔ ((2 ≤ s.Parts ∧ s.Parts ≤ 1000000) ∧ (1 ≤ (s.Bins.len : Int) ∧ (s.Bins.len : Int) ≤ 20) ∧ (-100 ≤ s.Beta.Low ∧ s.Beta.Low ≤ s.Beta.High ∧ s.Beta.High ≤ 100) ∧ (-100 ≤ s.Alpha.Low ∧ s.Alpha.Low ≤ s.Alpha.High ∧ s.Alpha.High ≤ 100)) := by
    unfold s75_at2
    rw [s63_eq, s63_eq, s69_eq, s69_eq]
    simp only [Bool.cond_decide, Bool.if_false_right, Bool.and_eq_true, decide_eq_true_eq]
  rw [e]
  unfold SOk
  exact ⟨fun h => ⟨h.2, fun i hi => (s101_ok s.Parts (s.Bins.get i) (hs.2 i hi)).2.1.1 (h.1 i hi)⟩, fun h => ⟨fun i hi => (s101_ok s.Parts (s.Bins.get i) (hs.2 i hi)).2.1.2 (h.2 i hi), h.1⟩⟩
theorem s16_ok (s : Sky) (hs : SL s) : p16 s = true ∧ s16 s = s75 s := by
  have h : p16_at1 s s.Bins = true ∧ (s16_at1 s s.Bins = true ↔ (∀ i, i < s.Bins.len → s59 s.Parts (s.Bins.get i) = true) ∧ true = true) := by
    refine all_loop (n := s.Bins.len) (good := fun i => s59 s.Parts (s.Bins.get i)) (lpS := fun k i => s16_lp2 s k i s.Bins) (lpP := fun k i => p16_lp2 s k i s.Bins) ?_ ?_ ?_ ?_ hs.1
    · intro k i hi
      show s16_st2 s (s16_lp2 s k) i s.Bins = cond _ (s16_lp2 s k (w64 ((i : Int) + 1)) s.Bins) false
      generalize s16_lp2 s k = S
      unfold s16_st2 s16_at3
      rw [decide_eq_true (by omega), Int.toNat_natCast]
      cases s59 s.Parts (s.Bins.get i) <;> rfl
    · intro k
      show s16_st2 s (s16_lp2 s k) _ s.Bins = _
      unfold s16_st2
      rw [decide_eq_false (by omega), cond_false]
    · intro k i hi
      show p16_st2 s (p16_lp2 s k) i s.Bins = cond _ (p16_lp2 s k (w64 ((i : Int) + 1)) s.Bins) true
      generalize p16_lp2 s k = S
      unfold p16_st2 p16_at3
      rw [decide_eq_true (by omega), Int.toNat_natCast, (s59_ok s.Parts (s.Bins.get i) (hs.2 i hi)).1, decide_eq_true (show 0 ≤ (i : Int) ∧ (i : Int) < (s.Bins.len : Int) by omega)]
      cases s59 s.Parts (s.Bins.get i) <;> rfl
    · intro k
      show p16_st2 s (p16_lp2 s k) _ s.Bins = _
      unfold p16_st2
      rw [decide_eq_false (by omega), cond_false]
  have h2 : s16 s = true ↔ SOk s := by
    unfold s16 s16_at0
    rw [s58_eq, s58_eq, s29_eq, s29_eq]
    unfold SOk
    by_cases a : 2 ≤ s.Parts ∧ s.Parts ≤ 1000000
    · by_cases b : 1 ≤ (s.Bins.len : Int) ∧ (s.Bins.len : Int) ≤ 20
      · by_cases c : -100 ≤ s.Beta.Low ∧ s.Beta.Low ≤ s.Beta.High ∧ s.Beta.High ≤ 100
        · by_cases d : -100 ≤ s.Alpha.Low ∧ s.Alpha.Low ≤ s.Alpha.High ∧ s.Alpha.High ≤ 100
          · rw [decide_eq_true a, decide_eq_true b, decide_eq_true c, decide_eq_true d]
            refine h.2.trans ?_
            exact ⟨fun h => ⟨⟨a, b, c, d⟩, fun i hi => (s59_ok s.Parts (s.Bins.get i) (hs.2 i hi)).2.1 (h.1 i hi)⟩, fun h => ⟨fun i hi => (s59_ok s.Parts (s.Bins.get i) (hs.2 i hi)).2.2 (h.2 i hi), rfl⟩⟩
          · rw [decide_eq_true a, decide_eq_true b, decide_eq_true c, decide_eq_false d]
            exact ⟨fun h => absurd h Bool.false_ne_true, fun h => absurd h.1.2.2.2 d⟩
        · rw [decide_eq_true a, decide_eq_true b, decide_eq_false c]
          exact ⟨fun h => absurd h Bool.false_ne_true, fun h => absurd h.1.2.2.1 c⟩
      · rw [decide_eq_true a, decide_eq_false b]
        exact ⟨fun h => absurd h Bool.false_ne_true, fun h => absurd h.1.2.1 b⟩
    · rw [decide_eq_false a]
      exact ⟨fun h => absurd h Bool.false_ne_true, fun h => absurd h.1.1 a⟩
  refine ⟨?_, Bool.eq_iff_iff.2 (h2.trans (s75_ok s hs).2.symm)⟩
  unfold p16 p16_at0
  rw [h.1]
  cases s58 s.Parts 2 1000000 <;> cases s58 (s.Bins.len : Int) 1 20 <;> cases s29 s.Beta (-100) 100 <;> cases s29 s.Alpha (-100) 100 <;> rfl
theorem s15_p (s : Sky) (t : Sl RangeRow) (hs : SL s) : p15 s t = true := by
  have h : p15 s t = true ∧ (s15 s t = true ↔ (∀ i, i < s.Bins.len → (!decide (((s.Bins.get i).len : Int) > 50)) = true) ∧ (cond (decide ((s.Bins.len : Int) ≤ (25:Int))) (decide ((t.len : Int) ≤ (50:Int))) false) = true) := by
    refine all_loop (n := s.Bins.len) (good := fun i => !decide (((s.Bins.get i).len : Int) > 50)) (lpS := s15_lp0 s t) (lpP := p15_lp0 s t) ?_ ?_ ?_ ?_ hs.1
    · intro k i hi
      show s15_st0 s t (s15_lp0 s t k) i = _
      generalize s15_lp0 s t k = S
      unfold s15_st0
      rw [decide_eq_true (by omega), Int.toNat_natCast]
      cases decide (((s.Bins.get i).len : Int) > 50) <;> rfl
    · intro k
      show s15_st0 s t (s15_lp0 s t k) _ = _
      unfold s15_st0
      rw [decide_eq_false (by omega), cond_false]
    · intro k i hi
      show p15_st0 s t (p15_lp0 s t k) i = _
      generalize p15_lp0 s t k = S
      unfold p15_st0
      rw [decide_eq_true (by omega), Int.toNat_natCast, decide_eq_true (show 0 ≤ (i : Int) ∧ (i : Int) < (s.Bins.len : Int) by omega)]
      cases decide (((s.Bins.get i).len : Int) > 50) <;> rfl
    · intro k
      show p15_st0 s t (p15_lp0 s t k) _ = _
      unfold p15_st0
      rw [decide_eq_false (by omega), cond_false]
  exact h.1
theorem s81_eq (c0 : Int) (t : Sl RangeRow) (hn : t.len ≤ 9223372036854775807) : p81 c0 t = true ∧ s81 c0 t = ((fst (fun i => s95 c0 (t.get i)) t.len : Nat) : Int) := by
  have h := idx_loop (c := s95 c0) (lpS := s106_lp0 c0) (lpP := p106_lp0 c0) (fun _ _ _ _ => rfl) (fun _ _ _ _ => rfl) t hn
  have h1 : p106 c0 t = true := h.1
  have h2 : s106 c0 t = _ := h.2
  have hl := fst_le (fun i => s95 c0 (t.get i)) t.len
  unfold p81 s81
  rw [h1, h2]
  refine ⟨rfl, ?_⟩
  by_cases h : fst (fun i => s95 c0 (t.get i)) t.len < t.len
  · rw [if_pos h, decide_eq_true (by omega)]; rfl
  · rw [if_neg h, decide_eq_false (by omega)]
    show (t.len : Int) = _
    omega
theorem s81a_eq (c0 : Int) (t : Sl RangeRow) (hn : t.len ≤ 9223372036854775807) : p81a c0 t = true ∧ s81a c0 t = ((fst (fun i => s96 c0 (t.get i)) t.len : Nat) : Int) := by
  have h := idx_loop (c := s96 c0) (lpS := s106a_lp0 c0) (lpP := p106a_lp0 c0) (fun _ _ _ _ => rfl) (fun _ _ _ _ => rfl) t hn
  have h1 : p106a c0 t = true := h.1
  have h2 : s106a c0 t = _ := h.2
  have hl := fst_le (fun i => s96 c0 (t.get i)) t.len
  unfold p81a s81a
  rw [h1, h2]
  refine ⟨rfl, ?_⟩
  by_cases h : fst (fun i => s96 c0 (t.get i)) t.len < t.len
  · rw [if_pos h, decide_eq_true (by omega)]; rfl
  · rw [if_neg h, decide_eq_false (by omega)]
    show (t.len : Int) = _
    omega
theorem s81b_eq (c0 : Int) (t : Sl RangeRow) (hn : t.len ≤ 9223372036854775807) : p81b c0 t = true ∧ s81b c0 t = ((fst (fun i => s82 c0 (t.get i)) t.len : Nat) : Int) := by
  have h := idx_loop (c := s82 c0) (lpS := s106b_lp0 c0) (lpP := p106b_lp0 c0) (fun _ _ _ _ => rfl) (fun _ _ _ _ => rfl) t hn
  have h1 : p106b c0 t = true := h.1
  have h2 : s106b c0 t = _ := h.2
  have hl := fst_le (fun i => s82 c0 (t.get i)) t.len
  unfold p81b s81b
  rw [h1, h2]
  refine ⟨rfl, ?_⟩
  by_cases h : fst (fun i => s82 c0 (t.get i)) t.len < t.len
  · rw [if_pos h, decide_eq_true (by omega)]; rfl
  · rw [if_neg h, decide_eq_false (by omega)]
    show (t.len : Int) = _
    omega
theorem s81c_eq (c0 : Int) (t : Sl RangeRow) (hn : t.len ≤ 9223372036854775807) : p81c c0 t = true ∧ s81c c0 t = ((fst (fun i => s83 c0 (t.get i)) t.len : Nat) : Int) := by
  have h := idx_loop (c := s83 c0) (lpS := s106c_lp0 c0) (lpP := p106c_lp0 c0) (fun _ _ _ _ => rfl) (fun _ _ _ _ => rfl) t hn
  have h1 : p106c c0 t = true := h.1
  have h2 : s106c c0 t = _ := h.2
  have hl := fst_le (fun i => s83 c0 (t.get i)) t.len
  unfold p81c s81c
  rw [h1, h2]
  refine ⟨rfl, ?_⟩
  by_cases h : fst (fun i => s83 c0 (t.get i)) t.len < t.len
  · rw [if_pos h, decide_eq_true (by omega)]; rfl
  · rw [if_neg h, decide_eq_false (by omega)]
    show (t.len : Int) = _
    omega
theorem s107_eq (c0 : Span) (t : Sl FluxRow) (hn : t.len ≤ 9223372036854775807) : p107 c0 t = true ∧ s107 c0 t = ((fst (fun i => s108 c0 (t.get i)) t.len : Nat) : Int) := by
  have h := idx_loop (c := s108 c0) (lpS := s118_lp0 c0) (lpP := p118_lp0 c0) (fun _ _ _ _ => rfl) (fun _ _ _ _ => rfl) t hn
  have h1 : p118 c0 t = true := h.1
  have h2 : s118 c0 t = _ := h.2
  have hl := fst_le (fun i => s108 c0 (t.get i)) t.len
  unfold p107 s107
  rw [h1, h2]
  refine ⟨rfl, ?_⟩
  by_cases h : fst (fun i => s108 c0 (t.get i)) t.len < t.len
  · rw [if_pos h, decide_eq_true (by omega)]; rfl
  · rw [if_neg h, decide_eq_false (by omega)]
    show (t.len : Int) = _
    omega
theorem s107a_eq (c0 : Span) (t : Sl FluxRow) (hn : t.len ≤ 9223372036854775807) : p107a c0 t = true ∧ s107a c0 t = ((fst (fun i => s109 c0 (t.get i)) t.len : Nat) : Int) := by
  have h := idx_loop (c := s109 c0) (lpS := s118a_lp0 c0) (lpP := p118a_lp0 c0) (fun _ _ _ _ => rfl) (fun _ _ _ _ => rfl) t hn
  have h1 : p118a c0 t = true := h.1
  have h2 : s118a c0 t = _ := h.2
  have hl := fst_le (fun i => s109 c0 (t.get i)) t.len
  unfold p107a s107a
  rw [h1, h2]
  refine ⟨rfl, ?_⟩
  by_cases h : fst (fun i => s109 c0 (t.get i)) t.len < t.len
  · rw [if_pos h, decide_eq_true (by omega)]; rfl
  · rw [if_neg h, decide_eq_false (by omega)]
    show (t.len : Int) = _
    omega
def kH (t : Sl RangeRow) (x : Int) : Nat := fst (fun i => decide ((t.get i).Range.High ≥ x)) t.len
def kL (t : Sl RangeRow) (x : Int) : Nat := fst (fun i => decide ((t.get i).Range.Low ≥ x)) t.len
def thrL (t : Sl RangeRow) (x : Int) : Int := if 0 < kH t x then (t.get (kH t x - 1)).Energy + 1 else 1
def thrH (t : Sl RangeRow) (x : Int) : Int := if kL t x < t.len then (t.get (kL t x)).Energy else -1
def thr (t : Sl RangeRow) (x : Int) : Span := if x = 0 then ⟨1, 1⟩ else ⟨thrL t x, thrH t x⟩
def jL (l : Sl FluxRow) (y : Int) : Nat := fst (fun i => decide ((l.get i).Energy > y)) l.len
def jH (l : Sl FluxRow) (y : Int) : Nat := fst (fun i => decide ((l.get i).Energy ≥ y)) l.len
def abvH (l : Sl FluxRow) (y : Int) : Int := if 0 < jL l y then (l.get (jL l y - 1)).Rate.High else (l.get 0).Rate.High
def abvL (l : Sl FluxRow) (y : Int) : Int := if y = -1 then 0 else if jH l y < l.len then (l.get (jH l y)).Rate.Low else 0
def abv (l : Sl FluxRow) (x : Span) : Span := ⟨abvL l x.High, abvH l x.Low⟩
def expd (s : Sky) (t : Sl RangeRow) (bin x : Int) : Span := abv (s.Bins.get bin.toNat) (thr t x)
theorem s64_eq (t : Sl RangeRow) (x : Int) (hk : TOk t) : p64 t x = true ∧ s64 t x = thr t x := by
  have hn : t.len ≤ 9223372036854775807 := by have := hk.1.2; omega
  have e1 : p81 x t = true ∧ s81 x t = ((kH t x : Nat) : Int) := s81_eq x t hn
  have e2 : p81a x t = true ∧ s81a x t = ((kL t x : Nat) : Int) := s81a_eq x t hn
  have b1 : kH t x ≤ t.len := fst_le _ _
  have b2 : kL t x ≤ t.len := fst_le _ _
  unfold p64 s64 thr
  by_cases h0 : x = 0
  · rw [if_pos h0, beq_iff_eq.2 h0]; exact ⟨rfl, rfl⟩
  have h00 : (x == 0) = false := by simpa using h0
  rw [if_neg h0, h00, cond_false, cond_false]
  unfold p64_at0 s64_at0
  rw [e1.1, e1.2]
  have h3 : ∀ a, p64_at2 t x a = true ∧ s64_at2 t x a = ⟨a, thrH t x⟩ := by
    intro a
    unfold p64_at2 s64_at2 p64_at3 s64_at3 thrH
    rw [e2.1, e2.2]
    by_cases h : kL t x < t.len
    · rw [if_pos h, decide_eq_true (show ((kL t x : Nat) : Int) < (t.len : Int) by omega), decide_eq_true (show 0 ≤ ((kL t x : Nat) : Int) ∧ ((kL t x : Nat) : Int) < (t.len : Int) by omega), Int.toNat_natCast]
      exact ⟨rfl, rfl⟩
    · rw [if_neg h, decide_eq_false (show ¬ ((kL t x : Nat) : Int) < (t.len : Int) by omega)]
      exact ⟨rfl, rfl⟩
  unfold p64_at1 s64_at1 thrL
  by_cases h : 0 < kH t x
  · have hr := hk.2 (kH t x - 1) (by omega)
    unfold TRow at hr
    have e3 : w64 (((kH t x : Nat) : Int) - 1) = ((kH t x - 1 : Nat) : Int) := by rw [w64_id (by omega) (by omega)]; omega
    rw [if_pos h, decide_eq_true (show ((kH t x : Nat) : Int) > 0 by omega), e3, Int.toNat_natCast, decide_eq_true (show 0 ≤ ((kH t x - 1 : Nat) : Int) ∧ ((kH t x - 1 : Nat) : Int) < (t.len : Int) by omega), (h3 _).1, cond_true, (h3 _).2, w64_id (by omega) (by omega)]
    exact ⟨rfl, rfl⟩
  · rw [if_neg h, decide_eq_false (show ¬ ((kH t x : Nat) : Int) > 0 by omega), cond_false, cond_false, (h3 _).1, (h3 _).2]
    exact ⟨rfl, rfl⟩
theorem s84_eq (l : Sl FluxRow) (y : Span) (h0 : 0 < l.len) (hn : l.len ≤ 9223372036854775807) : p84 l y = true ∧ s84 l y = abv l y := by
  have e1 : p107 y l = true ∧ s107 y l = ((jL l y.Low : Nat) : Int) := s107_eq y l hn
  have e2 : p107a y l = true ∧ s107a y l = ((jH l y.High : Nat) : Int) := s107a_eq y l hn
  have b1 : jL l y.Low ≤ l.len := fst_le _ _
  have b2 : jH l y.High ≤ l.len := fst_le _ _
  have h3 : ∀ a, p84_at1 l y a = true ∧ s84_at1 l y a = ⟨abvL l y.High, a⟩ := by
    intro a
    unfold p84_at1 s84_at1 abvL
    by_cases h : y.High = -1
    · rw [if_pos h, beq_iff_eq.2 h]; exact ⟨rfl, rfl⟩
    have h00 : (y.High == -1) = false := by simpa using h
    rw [if_neg h, h00, cond_false, cond_false]
    unfold p84_at2 s84_at2 p84_at3 s84_at3
    rw [e2.1, e2.2]
    by_cases h : jH l y.High < l.len
    · rw [if_pos h, decide_eq_true (show ((jH l y.High : Nat) : Int) < (l.len : Int) by omega), decide_eq_true (show 0 ≤ ((jH l y.High : Nat) : Int) ∧ ((jH l y.High : Nat) : Int) < (l.len : Int) by omega), Int.toNat_natCast]
      exact ⟨rfl, rfl⟩
    · rw [if_neg h, decide_eq_false (show ¬ ((jH l y.High : Nat) : Int) < (l.len : Int) by omega)]
      exact ⟨rfl, rfl⟩
  unfold p84 s84 abv
  rw [e1.1, e1.2, decide_eq_true (show 0 ≤ (0 : Int) ∧ (0 : Int) < (l.len : Int) by omega)]
  unfold p84_at0 s84_at0 abvH
  by_cases h : 0 < jL l y.Low
  · have e3 : w64 (((jL l y.Low : Nat) : Int) - 1) = ((jL l y.Low - 1 : Nat) : Int) := by rw [w64_id (by omega) (by omega)]; omega
    rw [if_pos h, decide_eq_true (show ((jL l y.Low : Nat) : Int) > 0 by omega), e3, Int.toNat_natCast, decide_eq_true (show 0 ≤ ((jL l y.Low - 1 : Nat) : Int) ∧ ((jL l y.Low - 1 : Nat) : Int) < (l.len : Int) by omega), (h3 _).1, cond_true, (h3 _).2]
    exact ⟨rfl, rfl⟩
  · rw [if_neg h, decide_eq_false (show ¬ ((jL l y.Low : Nat) : Int) > 0 by omega), cond_false, cond_false, (h3 _).1, (h3 _).2]
    exact ⟨rfl, rfl⟩
def Fine (s : Sky) (t : Sl RangeRow) (bin x : Int) : Prop := SOk s ∧ TOk t ∧ (0 ≤ bin ∧ bin < (s.Bins.len : Int)) ∧ (0 ≤ x ∧ x ≤ 1000000)
theorem Fine.b {s : Sky} {t : Sl RangeRow} {bin x : Int} (h : Fine s t bin x) : BOk s.Parts (s.Bins.get bin.toNat) := h.1.2 _ (by have := h.2.2.1; omega)
theorem s65_g (s : Sky) (t : Sl RangeRow) (bin x : Int) : (s65 s t bin x).1.Sky = s ∧ (s65 s t bin x).1.table = t := by
  unfold s65
  cases s75 s <;> cases s62 t <;> cases s63 bin 0 (w64 ((s.Bins.len : Int) - 1)) <;> exact ⟨rfl, rfl⟩
theorem s65_ok (s : Sky) (t : Sl RangeRow) (bin x : Int) (hs : SL s) (ht : t.len ≤ 9223372036854775807) : p65 s t bin x = true ∧ ((s65 s t bin x).2 = true ↔ Fine s t bin x) := by
  obtain ⟨h1, h2⟩ := s75_ok s hs
  obtain ⟨h3, h4⟩ := s62_ok t ht
  have h5 := hs.1
  unfold p65 s65 Fine
  rw [h1, h3, s63_eq, s63_eq, w64_id (by omega) (by omega), ← h2, ← h4]
  cases s75 s
  · exact ⟨rfl, ⟨fun h => absurd h Bool.false_ne_true, fun h => absurd h.1 Bool.false_ne_true⟩⟩
  cases s62 t
  · exact ⟨rfl, ⟨fun h => absurd h Bool.false_ne_true, fun h => absurd h.2.1 Bool.false_ne_true⟩⟩
  refine ⟨rfl, ?_⟩
  by_cases h : 0 ≤ bin ∧ bin ≤ (s.Bins.len : Int) - 1
  · rw [decide_eq_true h]
    simp only [cond_true, decide_eq_true_eq]
    exact ⟨fun h6 => ⟨trivial, trivial, by omega, h6⟩, fun h6 => h6.2.2.2⟩
  · rw [decide_eq_false h]
    exact ⟨fun h => absurd h Bool.false_ne_true, fun h6 => absurd (show 0 ≤ bin ∧ bin ≤ (s.Bins.len : Int) - 1 by have := h6.2.2.1; omega) h⟩
theorem s66_eq {s : Sky} {t : Sl RangeRow} {bin x : Int} (h : Fine s t bin x) : p66 s t bin x = true ∧ s66 s t bin x = expd s t bin x := by
  obtain ⟨h1, h2⟩ := s64_eq t x h.2.1
  have hb := h.b
  obtain ⟨h3, h4⟩ := s84_eq (s.Bins.get bin.toNat) (thr t x) (by have := hb.1; omega) (by have := hb.1; omega)
  unfold p66 s66 expd
  rw [h1, h2, h3, h4, decide_eq_true h.2.2.1]
  exact ⟨rfl, rfl⟩
theorem s20_ok (s : Sky) (t : Sl RangeRow) (bin x : Int) (hs : SL s) (ht : t.len ≤ 9223372036854775807) : p20 s t bin x = true ∧ (Fine s t bin x → s20 s t bin x = (expd s t bin x, 0)) ∧ (¬ Fine s t bin x → s20 s t bin x = (⟨0, 0⟩, 2)) := by
  obtain ⟨h1, h2⟩ := s65_ok s t bin x hs ht
  obtain ⟨e1, e2⟩ := s65_g s t bin x
  unfold p20 s20
  rw [h1, e1, e2]
  by_cases h : Fine s t bin x
  · rw [h2.2 h, (s66_eq h).1, (s66_eq h).2]
    exact ⟨rfl, fun _ => rfl, fun h3 => absurd h h3⟩
  · have h3 : (s65 s t bin x).2 = false := by
      cases e : (s65 s t bin x).2
      · rfl
      · exact absurd (h2.1 e) h
    rw [h3]
    exact ⟨rfl, fun h3 => absurd h3 h, fun _ => rfl⟩
theorem s19_ok (t : Sl RangeRow) (x : Int) (ht : t.len ≤ 9223372036854775807) : p19 t x = true ∧ (TOk t ∧ 0 ≤ x ∧ x ≤ 1000000 → s19 t x = (thr t x, 0)) ∧ (¬ (TOk t ∧ 0 ≤ x ∧ x ≤ 1000000) → s19 t x = (⟨0, 0⟩, 2)) := by
  obtain ⟨h1, h2⟩ := s62_ok t ht
  unfold p19 s19
  rw [h1, s63_eq]
  by_cases hk : TOk t
  · rw [h2.2 hk, (s64_eq t x hk).1, (s64_eq t x hk).2]
    by_cases h : 0 ≤ x ∧ x ≤ 1000000
    · rw [decide_eq_true h]
      exact ⟨rfl, fun _ => rfl, fun h3 => absurd ⟨hk, h⟩ h3⟩
    · rw [decide_eq_false h]
      exact ⟨rfl, fun h3 => absurd h3.2 h, fun _ => rfl⟩
  · have h3 : s62 t = false := by
      cases e : s62 t
      · rfl
      · exact absurd (h2.1 e) hk
    rw [h3]
    exact ⟨rfl, fun h3 => absurd h3.1 hk, fun _ => rfl⟩
theorem t_mono {t : Sl RangeRow} (h : ∀ i, i < t.len → TRow t i) : ∀ d i, i + d < t.len → (0 < d → (t.get i).Energy < (t.get (i + d)).Energy) ∧ (t.get i).Range.Low ≤ (t.get (i + d)).Range.Low ∧ (t.get i).Range.High ≤ (t.get (i + d)).Range.High := by
  intro d
  induction d with
  | zero => intro i hi; exact ⟨fun h => absurd h (by omega), Int.le_refl _, Int.le_refl _⟩
  | succ d ih =>
    intro i hi
    obtain ⟨h1, h2, h3⟩ := ih i (by omega)
    obtain ⟨_, _, h4⟩ := h (i + (d + 1)) hi
    have e : i + (d + 1) - 1 = i + d := by omega
    rw [e] at h4
    have h4 := h4.resolve_left (by omega)
    refine ⟨fun _ => ?_, by omega, by omega⟩
    by_cases hd : 0 < d
    · have := h1 hd; omega
    · have : d = 0 := by omega
      subst this; exact h4.1
theorem t_e {t : Sl RangeRow} (h : TOk t) {i j : Nat} (hij : i < j) (hj : j < t.len) : (t.get i).Energy < (t.get j).Energy := by
  have := (t_mono h.2 (j - i) i (by omega)).1 (by omega)
  rwa [show i + (j - i) = j by omega] at this
theorem t_low {t : Sl RangeRow} (h : TOk t) {i j : Nat} (hij : i ≤ j) (hj : j < t.len) : (t.get i).Range.Low ≤ (t.get j).Range.Low := by
  have := (t_mono h.2 (j - i) i (by omega)).2.1
  rwa [show i + (j - i) = j by omega] at this
theorem t_high {t : Sl RangeRow} (h : TOk t) {i j : Nat} (hij : i ≤ j) (hj : j < t.len) : (t.get i).Range.High ≤ (t.get j).Range.High := by
  have := (t_mono h.2 (j - i) i (by omega)).2.2
  rwa [show i + (j - i) = j by omega] at this
theorem b_mono {parts : Int} {t : Sl FluxRow} (h : ∀ i, i < t.len → BRow parts t i) : ∀ d i, i + d < t.len → (0 < d → (t.get i).Energy < (t.get (i + d)).Energy) ∧ (t.get (i + d)).Rate.Low ≤ (t.get i).Rate.Low ∧ (t.get (i + d)).Rate.High ≤ (t.get i).Rate.High := by
  intro d
  induction d with
  | zero => intro i hi; exact ⟨fun h => absurd h (by omega), Int.le_refl _, Int.le_refl _⟩
  | succ d ih =>
    intro i hi
    obtain ⟨h1, h2, h3⟩ := ih i (by omega)
    obtain ⟨_, _, h4⟩ := h (i + (d + 1)) hi
    have e : i + (d + 1) - 1 = i + d := by omega
    rw [e] at h4
    have h4 := h4.resolve_left (by omega)
    refine ⟨fun _ => ?_, by omega, by omega⟩
    by_cases hd : 0 < d
    · have := h1 hd; omega
    · have : d = 0 := by omega
      subst this; exact h4.1
theorem b_e {parts : Int} {t : Sl FluxRow} (h : BOk parts t) {i j : Nat} (hij : i < j) (hj : j < t.len) : (t.get i).Energy < (t.get j).Energy := by
  have := (b_mono h.2.2 (j - i) i (by omega)).1 (by omega)
  rwa [show i + (j - i) = j by omega] at this
theorem b_low {parts : Int} {t : Sl FluxRow} (h : BOk parts t) {i j : Nat} (hij : i ≤ j) (hj : j < t.len) : (t.get j).Rate.Low ≤ (t.get i).Rate.Low := by
  have := (b_mono h.2.2 (j - i) i (by omega)).2.1
  rwa [show i + (j - i) = j by omega] at this
theorem b_high {parts : Int} {t : Sl FluxRow} (h : BOk parts t) {i j : Nat} (hij : i ≤ j) (hj : j < t.len) : (t.get j).Rate.High ≤ (t.get i).Rate.High := by
  have := (b_mono h.2.2 (j - i) i (by omega)).2.2
  rwa [show i + (j - i) = j by omega] at this
end Go.Proofs
