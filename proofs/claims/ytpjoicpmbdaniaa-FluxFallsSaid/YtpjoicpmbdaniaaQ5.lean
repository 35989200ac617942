/- Part 5 of what the proof rests on: a machine that runs functions of the program on pure values, proved sound; the functions that the law reaches, and what they compute. -/
import Derived.Test.YtpjoicpmbdaniaaQ4
set_option linter.all false
namespace Go.Proofs
open Go Go.Pm
set_option maxRecDepth 100000
set_option linter.unusedVariables false
attribute [local irreducible] Go.Pm.vcFun Go.Pm.vc Go.Pm.vcIter
abbrev T61 : Tabs := Tabs.nil
theorem okT61 : TabsOk Try.prog T61 := TabsOk.nil
abbrev G61 : Ctrs := csm T61 (fun _ _ => []) (fun _ => false)
def ann61 : Ann := ⟨8, [(0, ⟨[], [], [], [], []⟩), (1, ⟨[0], [7], [], [], []⟩)],
  [],
  [],
  [], []⟩
theorem f61_top (K : List PA → Prop) :
  vcFun Try.prog G61 ann61 61 [] K =
  (K [.one (.sl 3 3 (getL [(enc_42 (⟨(10:Int), (⟨(20:Int), (30:Int)⟩ : Span)⟩ : RangeRow)), (enc_42 (⟨(40:Int), (⟨(90:Int), (120:Int)⟩ : Span)⟩ : RangeRow)), (enc_42 (⟨(100:Int), (⟨(250:Int), (300:Int)⟩ : Span)⟩ : RangeRow))]))]) := by kernel_rfl
abbrev R61 := (Sl RangeRow)
abbrev e61 (r : (Sl RangeRow)) : List PA := [.one (.sl r.len 3 (fun i => enc_42 (r.get i)))]
def s61 : (Sl RangeRow) :=
  (⟨3, (getT (⟨(10:Int), (⟨(20:Int), (30:Int)⟩ : Span)⟩ : RangeRow) [(⟨(10:Int), (⟨(20:Int), (30:Int)⟩ : Span)⟩ : RangeRow), (⟨(40:Int), (⟨(90:Int), (120:Int)⟩ : Span)⟩ : RangeRow), (⟨(100:Int), (⟨(250:Int), (300:Int)⟩ : Span)⟩ : RangeRow)])⟩ : (Sl RangeRow))
theorem q61 (K : List PA → Prop) (hk : K (e61 (s61))) : vcFun Try.prog G61 ann61 61 [] K := by
  refine ofEq (f61_top K) ?_
  unfold s61 at hk
  exact (Eq.mpr (congrArg K (congrArg (fun (g_ : Nat → List PV) => ([.one (.sl 3 3 g_)] : List PA)) (getL_enc (enc := enc_42) (x := (⟨(10:Int), (⟨(20:Int), (30:Int)⟩ : Span)⟩ : RangeRow)) (y := (⟨(40:Int), (⟨(90:Int), (120:Int)⟩ : Span)⟩ : RangeRow)) (r := [(⟨(100:Int), (⟨(250:Int), (300:Int)⟩ : Span)⟩ : RangeRow)])))) hk)
def ctr61 : List PA → COut
  | [] => .tot [.one (.sl ((s61).len) 3 (fun i => enc_42 ((s61).get i)))]
  | _ => .no
theorem call61 : Callable Try.prog 61 := ⟨_, rfl, rfl, by kernel_rfl⟩
theorem ok61 : Ok Try.prog 61 ctr61 := ok_tab okT61 call61 fun args K h => by
  unfold ctr61 at h
  split at h
  · have hk := h
    exact ⟨(fun _ _ => []), (fun _ => false), ann61, q61 K hk⟩
  · exact h.elim
abbrev T18 : Tabs := (((((((((Tabs.nil.addF 19 ctr19).addF 20 ctr20).addF 23 ctr23).addF 25 ctr25).addF 26 ctr26).addF 33 ctr33).addF 34 ctr34).addF 60 ctr60).addF 61 ctr61)
theorem okT18 : TabsOk Try.prog T18 := (((((((((TabsOk.nil.addF ok19).addF ok20).addF ok23).addF ok25).addF ok26).addF ok33).addF ok34).addF ok60).addF ok61)
abbrev G18 : Ctrs := csm T18 (fun _ _ => []) (fun _ => false)
def ann18 : Ann := ⟨142, [(0, ⟨[], [], [], [], []⟩), (1, ⟨[1, 2], [1], [], [], []⟩), (2, ⟨[1, 2, 3, 4], [1, 3], [], [], []⟩), (3, ⟨[1, 2, 3, 4, 5, 6], [1, 3, 5], [], [], []⟩), (4, ⟨[1, 2, 3, 4, 5, 6, 7, 8], [1, 3, 5, 7], [], [], []⟩), (5, ⟨[1, 2, 3, 4, 5, 6, 7, 8, 9, 10], [1, 3, 5, 7, 9], [], [], []⟩), (6, ⟨[1, 2, 3, 4, 5, 6, 7, 8, 9, 10, 11, 12], [1, 3, 5, 7, 9], [], [], []⟩), (7, ⟨[3, 4, 5, 6, 7, 8, 9, 10, 11, 12, 13, 14], [3, 5, 7, 9, 13], [], [], []⟩), (8, ⟨[3, 5, 7, 9, 11, 13, 104], [3, 5, 7, 9, 13], [], [], []⟩), (9, ⟨[0], [], [], [], []⟩), (10, ⟨[0], [], [], [], []⟩)],
  [],
  [(2, ⟨[1, 2], [1], [], [], []⟩), (3, ⟨[1, 2, 3, 4], [1, 3], [], [], []⟩), (4, ⟨[1, 2, 3, 4, 5, 6], [1, 3, 5], [], [], []⟩), (5, ⟨[1, 2, 3, 4, 5, 6, 7, 8], [1, 3, 5, 7], [], [], []⟩), (6, ⟨[1, 2, 3, 4, 5, 6, 7, 8, 9, 10], [1, 3, 5, 7, 9], [], [], []⟩), (7, ⟨[1, 2, 3, 4, 5, 6, 7, 8, 9, 10, 11, 12], [1, 3, 5, 7, 9], [], [], []⟩), (8, ⟨[3, 4, 5, 6, 7, 8, 9, 10, 11, 12, 13, 14], [3, 5, 7, 9, 13], [], [], []⟩), (10, ⟨[3, 5, 7, 9, 11, 13], [3, 5, 7, 9, 13], [], [], []⟩)],
  [], []⟩
def f18_g0 (tv0_n : Nat) (tv0_g : Nat → List PV) (s_1v0_n : Nat) (s_1v0_g : Nat → List PV) : St := ⟨[(1, .one (.c (.ptr 1 0))), (2, .one (.c (.p (.sl tv0_n 3 tv0_g))))], [(1, .box 26 [.p (.int .i64 s60.Parts), .p (.sl s_1v0_n 1 s_1v0_g), .p (.int .i64 s60.Beta.Low), .p (.int .i64 s60.Beta.High), .p (.int .i64 s60.Alpha.Low), .p (.int .i64 s60.Alpha.High)])], []⟩
def f18_at0 (K : List PA → Prop) (tv0_n : Nat) (tv0_g : Nat → List PV) (s_1v0_n : Nat) (s_1v0_g : Nat → List PV) : Prop := vc Try.prog G18 ann18 (cdF Try.f18 [1, 1]) (bodyK Try.prog Try.f18 K) (f18_g0 tv0_n tv0_g s_1v0_n s_1v0_g)
def f18_g1 (tv0 : (Sl RangeRow)) (ev1 : Int) (s_1v1_n : Nat) (s_1v1_g : Nat → List PV) (a_0v1 : Int) (a_1v1 : Int) : St := ⟨[(1, .one (.c (.ptr 1 0))), (2, .one (.c (.p (.sl tv0.len 3 (fun i => enc_42 (tv0.get i)))))), (3, .one (.c (.ptr 3 0))), (4, .one (.c (.p (.int .i64 ev1))))], [(1, .box 26 [.p (.int .i64 s60.Parts), .p (.sl s_1v1_n 1 s_1v1_g), .p (.int .i64 s60.Beta.Low), .p (.int .i64 s60.Beta.High), .p (.int .i64 s60.Alpha.Low), .p (.int .i64 s60.Alpha.High)]), (3, .box 24 [.p (.int .i64 a_0v1), .p (.int .i64 a_1v1)])], []⟩
def f18_at1 (K : List PA → Prop) (tv0 : (Sl RangeRow)) (ev1 : Int) (s_1v1_n : Nat) (s_1v1_g : Nat → List PV) (a_0v1 : Int) (a_1v1 : Int) : Prop := vc Try.prog G18 ann18 (cdF Try.f18 [1, 1, 1]) (bodyK Try.prog Try.f18 K) (f18_g1 tv0 ev1 s_1v1_n s_1v1_g a_0v1 a_1v1)
def f18_g2 (tv0 : (Sl RangeRow)) (ev1 : Int) (a_0v1 : Int) (a_1v1 : Int) (fv2 : Int) (s_1v2_n : Nat) (s_1v2_g : Nat → List PV) (b_0v2 : Int) (b_1v2 : Int) : St := ⟨[(1, .one (.c (.ptr 1 0))), (2, .one (.c (.p (.sl tv0.len 3 (fun i => enc_42 (tv0.get i)))))), (3, .one (.c (.ptr 3 0))), (4, .one (.c (.p (.int .i64 ev1)))), (5, .one (.c (.ptr 5 0))), (6, .one (.c (.p (.int .i64 fv2))))], [(1, .box 26 [.p (.int .i64 s60.Parts), .p (.sl s_1v2_n 1 s_1v2_g), .p (.int .i64 s60.Beta.Low), .p (.int .i64 s60.Beta.High), .p (.int .i64 s60.Alpha.Low), .p (.int .i64 s60.Alpha.High)]), (3, .box 24 [.p (.int .i64 a_0v1), .p (.int .i64 a_1v1)]), (5, .box 24 [.p (.int .i64 b_0v2), .p (.int .i64 b_1v2)])], []⟩
def f18_at2 (K : List PA → Prop) (tv0 : (Sl RangeRow)) (ev1 : Int) (a_0v1 : Int) (a_1v1 : Int) (fv2 : Int) (s_1v2_n : Nat) (s_1v2_g : Nat → List PV) (b_0v2 : Int) (b_1v2 : Int) : Prop := vc Try.prog G18 ann18 (cdF Try.f18 [1, 1, 1, 1]) (bodyK Try.prog Try.f18 K) (f18_g2 tv0 ev1 a_0v1 a_1v1 fv2 s_1v2_n s_1v2_g b_0v2 b_1v2)
def f18_g3 (tv0 : (Sl RangeRow)) (ev1 : Int) (a_0v1 : Int) (a_1v1 : Int) (fv2 : Int) (b_0v2 : Int) (b_1v2 : Int) (gv3 : Int) (s_1v3_n : Nat) (s_1v3_g : Nat → List PV) (c_0v3 : Int) (c_1v3 : Int) : St := ⟨[(1, .one (.c (.ptr 1 0))), (2, .one (.c (.p (.sl tv0.len 3 (fun i => enc_42 (tv0.get i)))))), (3, .one (.c (.ptr 3 0))), (4, .one (.c (.p (.int .i64 ev1)))), (5, .one (.c (.ptr 5 0))), (6, .one (.c (.p (.int .i64 fv2)))), (7, .one (.c (.ptr 7 0))), (8, .one (.c (.p (.int .i64 gv3))))], [(1, .box 26 [.p (.int .i64 s60.Parts), .p (.sl s_1v3_n 1 s_1v3_g), .p (.int .i64 s60.Beta.Low), .p (.int .i64 s60.Beta.High), .p (.int .i64 s60.Alpha.Low), .p (.int .i64 s60.Alpha.High)]), (3, .box 24 [.p (.int .i64 a_0v1), .p (.int .i64 a_1v1)]), (5, .box 24 [.p (.int .i64 b_0v2), .p (.int .i64 b_1v2)]), (7, .box 24 [.p (.int .i64 c_0v3), .p (.int .i64 c_1v3)])], []⟩
def f18_at3 (K : List PA → Prop) (tv0 : (Sl RangeRow)) (ev1 : Int) (a_0v1 : Int) (a_1v1 : Int) (fv2 : Int) (b_0v2 : Int) (b_1v2 : Int) (gv3 : Int) (s_1v3_n : Nat) (s_1v3_g : Nat → List PV) (c_0v3 : Int) (c_1v3 : Int) : Prop := vc Try.prog G18 ann18 (cdF Try.f18 [1, 1, 1, 1, 1]) (bodyK Try.prog Try.f18 K) (f18_g3 tv0 ev1 a_0v1 a_1v1 fv2 b_0v2 b_1v2 gv3 s_1v3_n s_1v3_g c_0v3 c_1v3)
def f18_g4 (tv0 : (Sl RangeRow)) (ev1 : Int) (a_0v1 : Int) (a_1v1 : Int) (fv2 : Int) (b_0v2 : Int) (b_1v2 : Int) (gv3 : Int) (c_0v3 : Int) (c_1v3 : Int) (hv4 : Int) (s_1v4_n : Nat) (s_1v4_g : Nat → List PV) (d_0v4 : Int) (d_1v4 : Int) : St := ⟨[(1, .one (.c (.ptr 1 0))), (2, .one (.c (.p (.sl tv0.len 3 (fun i => enc_42 (tv0.get i)))))), (3, .one (.c (.ptr 3 0))), (4, .one (.c (.p (.int .i64 ev1)))), (5, .one (.c (.ptr 5 0))), (6, .one (.c (.p (.int .i64 fv2)))), (7, .one (.c (.ptr 7 0))), (8, .one (.c (.p (.int .i64 gv3)))), (9, .one (.c (.ptr 9 0))), (10, .one (.c (.p (.int .i64 hv4))))], [(1, .box 26 [.p (.int .i64 s60.Parts), .p (.sl s_1v4_n 1 s_1v4_g), .p (.int .i64 s60.Beta.Low), .p (.int .i64 s60.Beta.High), .p (.int .i64 s60.Alpha.Low), .p (.int .i64 s60.Alpha.High)]), (3, .box 24 [.p (.int .i64 a_0v1), .p (.int .i64 a_1v1)]), (5, .box 24 [.p (.int .i64 b_0v2), .p (.int .i64 b_1v2)]), (7, .box 24 [.p (.int .i64 c_0v3), .p (.int .i64 c_1v3)]), (9, .box 24 [.p (.int .i64 d_0v4), .p (.int .i64 d_1v4)])], []⟩
def f18_at4 (K : List PA → Prop) (tv0 : (Sl RangeRow)) (ev1 : Int) (a_0v1 : Int) (a_1v1 : Int) (fv2 : Int) (b_0v2 : Int) (b_1v2 : Int) (gv3 : Int) (c_0v3 : Int) (c_1v3 : Int) (hv4 : Int) (s_1v4_n : Nat) (s_1v4_g : Nat → List PV) (d_0v4 : Int) (d_1v4 : Int) : Prop := vc Try.prog G18 ann18 (cdF Try.f18 [1, 1, 1, 1, 1, 1]) (bodyK Try.prog Try.f18 K) (f18_g4 tv0 ev1 a_0v1 a_1v1 fv2 b_0v2 b_1v2 gv3 c_0v3 c_1v3 hv4 s_1v4_n s_1v4_g d_0v4 d_1v4)
def f18_g5 (tv0 : (Sl RangeRow)) (ev1 : Int) (a_0v1 : Int) (a_1v1 : Int) (fv2 : Int) (b_0v2 : Int) (b_1v2 : Int) (gv3 : Int) (c_0v3 : Int) (c_1v3 : Int) (hv4 : Int) (d_0v4 : Int) (d_1v4 : Int) (lv5_n : Nat) (lv5_g : Nat → List PV) (iv5 : Int) (s_1v5_n : Nat) (s_1v5_g : Nat → List PV) : St := ⟨[(1, .one (.c (.ptr 1 0))), (2, .one (.c (.p (.sl tv0.len 3 (fun i => enc_42 (tv0.get i)))))), (3, .one (.c (.ptr 3 0))), (4, .one (.c (.p (.int .i64 ev1)))), (5, .one (.c (.ptr 5 0))), (6, .one (.c (.p (.int .i64 fv2)))), (7, .one (.c (.ptr 7 0))), (8, .one (.c (.p (.int .i64 gv3)))), (9, .one (.c (.ptr 9 0))), (10, .one (.c (.p (.int .i64 hv4)))), (11, .one (.c (.p (.sl lv5_n 3 lv5_g)))), (12, .one (.c (.p (.int .i64 iv5))))], [(1, .box 26 [.p (.int .i64 s60.Parts), .p (.sl s_1v5_n 1 s_1v5_g), .p (.int .i64 s60.Beta.Low), .p (.int .i64 s60.Beta.High), .p (.int .i64 s60.Alpha.Low), .p (.int .i64 s60.Alpha.High)]), (3, .box 24 [.p (.int .i64 a_0v1), .p (.int .i64 a_1v1)]), (5, .box 24 [.p (.int .i64 b_0v2), .p (.int .i64 b_1v2)]), (7, .box 24 [.p (.int .i64 c_0v3), .p (.int .i64 c_1v3)]), (9, .box 24 [.p (.int .i64 d_0v4), .p (.int .i64 d_1v4)])], []⟩
def f18_at5 (K : List PA → Prop) (tv0 : (Sl RangeRow)) (ev1 : Int) (a_0v1 : Int) (a_1v1 : Int) (fv2 : Int) (b_0v2 : Int) (b_1v2 : Int) (gv3 : Int) (c_0v3 : Int) (c_1v3 : Int) (hv4 : Int) (d_0v4 : Int) (d_1v4 : Int) (lv5_n : Nat) (lv5_g : Nat → List PV) (iv5 : Int) (s_1v5_n : Nat) (s_1v5_g : Nat → List PV) : Prop := vc Try.prog G18 ann18 (cdF Try.f18 [1, 1, 1, 1, 1, 1, 1]) (bodyK Try.prog Try.f18 K) (f18_g5 tv0 ev1 a_0v1 a_1v1 fv2 b_0v2 b_1v2 gv3 c_0v3 c_1v3 hv4 d_0v4 d_1v4 lv5_n lv5_g iv5 s_1v5_n s_1v5_g)
def f18_g6 (ev1 : Int) (a_0v1 : Int) (a_1v1 : Int) (fv2 : Int) (b_0v2 : Int) (b_1v2 : Int) (gv3 : Int) (c_0v3 : Int) (c_1v3 : Int) (hv4 : Int) (d_0v4 : Int) (d_1v4 : Int) (lv5 : (Sl FluxStep)) (iv5 : Int) (jv6 : Int) (x_0v6 : Int) (x_1v6_n : Nat) (x_1v6_g : Nat → List PV) (x_2v6 : Int) (x_3v6 : Int) (x_4v6 : Int) (x_5v6 : Int) : St := ⟨[(3, .one (.c (.ptr 3 0))), (4, .one (.c (.p (.int .i64 ev1)))), (5, .one (.c (.ptr 5 0))), (6, .one (.c (.p (.int .i64 fv2)))), (7, .one (.c (.ptr 7 0))), (8, .one (.c (.p (.int .i64 gv3)))), (9, .one (.c (.ptr 9 0))), (10, .one (.c (.p (.int .i64 hv4)))), (11, .one (.c (.p (.sl lv5.len 3 (fun i => enc_69 (lv5.get i)))))), (12, .one (.c (.p (.int .i64 iv5)))), (13, .one (.c (.ptr 13 0))), (14, .one (.c (.p (.int .i64 jv6))))], [(3, .box 24 [.p (.int .i64 a_0v1), .p (.int .i64 a_1v1)]), (5, .box 24 [.p (.int .i64 b_0v2), .p (.int .i64 b_1v2)]), (7, .box 24 [.p (.int .i64 c_0v3), .p (.int .i64 c_1v3)]), (9, .box 24 [.p (.int .i64 d_0v4), .p (.int .i64 d_1v4)]), (13, .box 26 [.p (.int .i64 x_0v6), .p (.sl x_1v6_n 1 x_1v6_g), .p (.int .i64 x_2v6), .p (.int .i64 x_3v6), .p (.int .i64 x_4v6), .p (.int .i64 x_5v6)])], []⟩
def f18_at6 (K : List PA → Prop) (ev1 : Int) (a_0v1 : Int) (a_1v1 : Int) (fv2 : Int) (b_0v2 : Int) (b_1v2 : Int) (gv3 : Int) (c_0v3 : Int) (c_1v3 : Int) (hv4 : Int) (d_0v4 : Int) (d_1v4 : Int) (lv5 : (Sl FluxStep)) (iv5 : Int) (jv6 : Int) (x_0v6 : Int) (x_1v6_n : Nat) (x_1v6_g : Nat → List PV) (x_2v6 : Int) (x_3v6 : Int) (x_4v6 : Int) (x_5v6 : Int) : Prop := vc Try.prog G18 ann18 (cdF Try.f18 [1, 1, 1, 1, 1, 1, 1, 1]) (bodyK Try.prog Try.f18 K) (f18_g6 ev1 a_0v1 a_1v1 fv2 b_0v2 b_1v2 gv3 c_0v3 c_1v3 hv4 d_0v4 d_1v4 lv5 iv5 jv6 x_0v6 x_1v6_n x_1v6_g x_2v6 x_3v6 x_4v6 x_5v6)
def f18_g7 (a_0v1 : Int) (a_1v1 : Int) (b_0v2 : Int) (b_1v2 : Int) (c_0v3 : Int) (c_1v3 : Int) (d_0v4 : Int) (d_1v4 : Int) (lv5 : (Sl FluxStep)) (x_0v6 : Int) (x_1v6 : (Sl (Sl FluxRow))) (x_2v6 : Int) (x_3v6 : Int) (x_4v6 : Int) (x_5v6 : Int) : St := ⟨[(3, .one (.c (.ptr 3 0))), (5, .one (.c (.ptr 5 0))), (7, .one (.c (.ptr 7 0))), (9, .one (.c (.ptr 9 0))), (11, .one (.c (.p (.sl lv5.len 3 (fun i => enc_69 (lv5.get i)))))), (13, .one (.c (.ptr 13 0)))], [(3, .box 24 [.p (.int .i64 a_0v1), .p (.int .i64 a_1v1)]), (5, .box 24 [.p (.int .i64 b_0v2), .p (.int .i64 b_1v2)]), (7, .box 24 [.p (.int .i64 c_0v3), .p (.int .i64 c_1v3)]), (9, .box 24 [.p (.int .i64 d_0v4), .p (.int .i64 d_1v4)]), (13, .box 26 [.p (.int .i64 x_0v6), .p (.sl x_1v6.len 1 (fun i => enc_32 (x_1v6.get i))), .p (.int .i64 x_2v6), .p (.int .i64 x_3v6), .p (.int .i64 x_4v6), .p (.int .i64 x_5v6)])], []⟩
def f18_at7 (K : List PA → Prop) (a_0v1 : Int) (a_1v1 : Int) (b_0v2 : Int) (b_1v2 : Int) (c_0v3 : Int) (c_1v3 : Int) (d_0v4 : Int) (d_1v4 : Int) (lv5 : (Sl FluxStep)) (x_0v6 : Int) (x_1v6 : (Sl (Sl FluxRow))) (x_2v6 : Int) (x_3v6 : Int) (x_4v6 : Int) (x_5v6 : Int) : Prop := vc Try.prog G18 ann18 (cdF Try.f18 [1, 1, 1, 1, 1, 1, 1, 1, 1]) (bodyK Try.prog Try.f18 K) (f18_g7 a_0v1 a_1v1 b_0v2 b_1v2 c_0v3 c_1v3 d_0v4 d_1v4 lv5 x_0v6 x_1v6 x_2v6 x_3v6 x_4v6 x_5v6)
theorem f18_top (K : List PA → Prop) :
  vcFun Try.prog G18 ann18 18 [] K =
  (f18_at0 K s61.len (fun i => enc_42 (s61.get i)) s60.Bins.len (fun i => enc_32 (s60.Bins.get i))) := by kernel_rfl
theorem f18_eq0 (K : List PA → Prop) (tv0 : (Sl RangeRow)) (s_1v0 : (Sl (Sl FluxRow))) :
  f18_at0 K tv0.len (fun i => enc_42 (tv0.get i)) s_1v0.len (fun i => enc_32 (s_1v0.get i)) =
  ((IsE enc_42 3 3 (fun i => enc_42 (tv0.get i)) ∧ (p19 tv0 (100:Int) = true)) ∧
  (f18_at1 K tv0 ((s19 tv0 (100:Int)).2) s_1v0.len (fun i => enc_32 (s_1v0.get i)) (((s19 tv0 (100:Int)).1).Low) (((s19 tv0 (100:Int)).1).High))) := by kernel_rfl
theorem f18_eq1 (K : List PA → Prop) (tv0 : (Sl RangeRow)) (ev1 : Int) (s_1v1 : (Sl (Sl FluxRow))) (a_0v1 : Int) (a_1v1 : Int) :
  f18_at1 K tv0 ev1 s_1v1.len (fun i => enc_32 (s_1v1.get i)) a_0v1 a_1v1 =
  ((IsE enc_32 1 1 (fun i => enc_32 (s_1v1.get i)) ∧ IsE enc_42 3 3 (fun i => enc_42 (tv0.get i)) ∧ (p20 (⟨s60.Parts, s_1v1, s60.Beta, s60.Alpha⟩ : Sky) tv0 (0:Int) (280:Int) = true)) ∧
  (f18_at2 K tv0 ev1 a_0v1 a_1v1 ((s20 (⟨s60.Parts, s_1v1, s60.Beta, s60.Alpha⟩ : Sky) tv0 (0:Int) (280:Int)).2) s_1v1.len (fun i => enc_32 (s_1v1.get i)) (((s20 (⟨s60.Parts, s_1v1, s60.Beta, s60.Alpha⟩ : Sky) tv0 (0:Int) (280:Int)).1).Low) (((s20 (⟨s60.Parts, s_1v1, s60.Beta, s60.Alpha⟩ : Sky) tv0 (0:Int) (280:Int)).1).High))) := by kernel_rfl
theorem f18_eq2 (K : List PA → Prop) (tv0 : (Sl RangeRow)) (ev1 : Int) (a_0v1 : Int) (a_1v1 : Int) (fv2 : Int) (s_1v2 : (Sl (Sl FluxRow))) (b_0v2 : Int) (b_1v2 : Int) :
  f18_at2 K tv0 ev1 a_0v1 a_1v1 fv2 s_1v2.len (fun i => enc_32 (s_1v2.get i)) b_0v2 b_1v2 =
  ((IsE enc_32 1 1 (fun i => enc_32 (s_1v2.get i)) ∧ IsE enc_42 3 3 (fun i => enc_42 (tv0.get i)) ∧ IsE enc_56 5 5 (getL [(enc_56 (s34 (3:Int))), (enc_56 (⟨(1:Int), (⟨(⟨(-10:Int), (20:Int)⟩ : Span), (⟨(0:Int), (5:Int)⟩ : Span)⟩ : Weather)⟩ : Spell))]) ∧ (p23 (⟨s60.Parts, s_1v2, s60.Beta, s60.Alpha⟩ : Sky) tv0 (0:Int) (100:Int) (⟨2, decF_56 (getL [(enc_56 (s34 (3:Int))), (enc_56 (⟨(1:Int), (⟨(⟨(-10:Int), (20:Int)⟩ : Span), (⟨(0:Int), (5:Int)⟩ : Span)⟩ : Weather)⟩ : Spell))])⟩ : (Sl Spell)) = true)) ∧
  (f18_at3 K tv0 ev1 a_0v1 a_1v1 fv2 b_0v2 b_1v2 ((s23 (⟨s60.Parts, s_1v2, s60.Beta, s60.Alpha⟩ : Sky) tv0 (0:Int) (100:Int) (⟨2, decF_56 (getL [(enc_56 (s34 (3:Int))), (enc_56 (⟨(1:Int), (⟨(⟨(-10:Int), (20:Int)⟩ : Span), (⟨(0:Int), (5:Int)⟩ : Span)⟩ : Weather)⟩ : Spell))])⟩ : (Sl Spell))).2) s_1v2.len (fun i => enc_32 (s_1v2.get i)) (((s23 (⟨s60.Parts, s_1v2, s60.Beta, s60.Alpha⟩ : Sky) tv0 (0:Int) (100:Int) (⟨2, decF_56 (getL [(enc_56 (s34 (3:Int))), (enc_56 (⟨(1:Int), (⟨(⟨(-10:Int), (20:Int)⟩ : Span), (⟨(0:Int), (5:Int)⟩ : Span)⟩ : Weather)⟩ : Spell))])⟩ : (Sl Spell))).1).Low) (((s23 (⟨s60.Parts, s_1v2, s60.Beta, s60.Alpha⟩ : Sky) tv0 (0:Int) (100:Int) (⟨2, decF_56 (getL [(enc_56 (s34 (3:Int))), (enc_56 (⟨(1:Int), (⟨(⟨(-10:Int), (20:Int)⟩ : Span), (⟨(0:Int), (5:Int)⟩ : Span)⟩ : Weather)⟩ : Spell))])⟩ : (Sl Spell))).1).High))) := by kernel_rfl
theorem f18_eq3 (K : List PA → Prop) (tv0 : (Sl RangeRow)) (ev1 : Int) (a_0v1 : Int) (a_1v1 : Int) (fv2 : Int) (b_0v2 : Int) (b_1v2 : Int) (gv3 : Int) (s_1v3 : (Sl (Sl FluxRow))) (c_0v3 : Int) (c_1v3 : Int) :
  f18_at3 K tv0 ev1 a_0v1 a_1v1 fv2 b_0v2 b_1v2 gv3 s_1v3.len (fun i => enc_32 (s_1v3.get i)) c_0v3 c_1v3 =
  ((IsE enc_32 1 1 (fun i => enc_32 (s_1v3.get i)) ∧ IsE enc_42 3 3 (fun i => enc_42 (tv0.get i)) ∧ IsE enc_56 5 5 (fun _ => (enc_56 (s34 (1:Int)))) ∧ (p25 (⟨s60.Parts, s_1v3, s60.Beta, s60.Alpha⟩ : Sky) tv0 (0:Int) (⟨(261:Int), (270:Int)⟩ : Span) (⟨1, fun _ => (s34 (1:Int))⟩ : (Sl Spell)) = true)) ∧
  (f18_at4 K tv0 ev1 a_0v1 a_1v1 fv2 b_0v2 b_1v2 gv3 c_0v3 c_1v3 ((s25 (⟨s60.Parts, s_1v3, s60.Beta, s60.Alpha⟩ : Sky) tv0 (0:Int) (⟨(261:Int), (270:Int)⟩ : Span) (⟨1, fun _ => (s34 (1:Int))⟩ : (Sl Spell))).2) s_1v3.len (fun i => enc_32 (s_1v3.get i)) (((s25 (⟨s60.Parts, s_1v3, s60.Beta, s60.Alpha⟩ : Sky) tv0 (0:Int) (⟨(261:Int), (270:Int)⟩ : Span) (⟨1, fun _ => (s34 (1:Int))⟩ : (Sl Spell))).1).Low) (((s25 (⟨s60.Parts, s_1v3, s60.Beta, s60.Alpha⟩ : Sky) tv0 (0:Int) (⟨(261:Int), (270:Int)⟩ : Span) (⟨1, fun _ => (s34 (1:Int))⟩ : (Sl Spell))).1).High))) := by kernel_rfl
theorem f18_eq4 (K : List PA → Prop) (tv0 : (Sl RangeRow)) (ev1 : Int) (a_0v1 : Int) (a_1v1 : Int) (fv2 : Int) (b_0v2 : Int) (b_1v2 : Int) (gv3 : Int) (c_0v3 : Int) (c_1v3 : Int) (hv4 : Int) (s_1v4 : (Sl (Sl FluxRow))) (d_0v4 : Int) (d_1v4 : Int) :
  f18_at4 K tv0 ev1 a_0v1 a_1v1 fv2 b_0v2 b_1v2 gv3 c_0v3 c_1v3 hv4 s_1v4.len (fun i => enc_32 (s_1v4.get i)) d_0v4 d_1v4 =
  ((IsE enc_32 1 1 (fun i => enc_32 (s_1v4.get i)) ∧ IsE enc_42 3 3 (fun i => enc_42 (tv0.get i)) ∧ IsE enc_56 5 5 (fun _ => (enc_56 (s34 (1:Int)))) ∧ (p26 (⟨s60.Parts, s_1v4, s60.Beta, s60.Alpha⟩ : Sky) tv0 (0:Int) (⟨1, fun _ => (s34 (1:Int))⟩ : (Sl Spell)) = true)) ∧
  (f18_at5 K tv0 ev1 a_0v1 a_1v1 fv2 b_0v2 b_1v2 gv3 c_0v3 c_1v3 hv4 d_0v4 d_1v4 (((s26 (⟨s60.Parts, s_1v4, s60.Beta, s60.Alpha⟩ : Sky) tv0 (0:Int) (⟨1, fun _ => (s34 (1:Int))⟩ : (Sl Spell))).1).len) (fun i => enc_69 (((s26 (⟨s60.Parts, s_1v4, s60.Beta, s60.Alpha⟩ : Sky) tv0 (0:Int) (⟨1, fun _ => (s34 (1:Int))⟩ : (Sl Spell))).1).get i)) ((s26 (⟨s60.Parts, s_1v4, s60.Beta, s60.Alpha⟩ : Sky) tv0 (0:Int) (⟨1, fun _ => (s34 (1:Int))⟩ : (Sl Spell))).2) s_1v4.len (fun i => enc_32 (s_1v4.get i)))) := by kernel_rfl
theorem f18_eq5 (K : List PA → Prop) (tv0 : (Sl RangeRow)) (ev1 : Int) (a_0v1 : Int) (a_1v1 : Int) (fv2 : Int) (b_0v2 : Int) (b_1v2 : Int) (gv3 : Int) (c_0v3 : Int) (c_1v3 : Int) (hv4 : Int) (d_0v4 : Int) (d_1v4 : Int) (lv5 : (Sl FluxStep)) (iv5 : Int) (s_1v5 : (Sl (Sl FluxRow))) :
  f18_at5 K tv0 ev1 a_0v1 a_1v1 fv2 b_0v2 b_1v2 gv3 c_0v3 c_1v3 hv4 d_0v4 d_1v4 lv5.len (fun i => enc_69 (lv5.get i)) iv5 s_1v5.len (fun i => enc_32 (s_1v5.get i)) =
  ((IsE enc_32 1 1 (fun i => enc_32 (s_1v5.get i)) ∧ IsE enc_42 3 3 (fun i => enc_42 (tv0.get i)) ∧ (p33 (⟨s60.Parts, s_1v5, s60.Beta, s60.Alpha⟩ : Sky) tv0 (0:Int) (100:Int) (⟨(10:Int), (25:Int)⟩ : Span) = true)) ∧
  (f18_at6 K ev1 a_0v1 a_1v1 fv2 b_0v2 b_1v2 gv3 c_0v3 c_1v3 hv4 d_0v4 d_1v4 lv5 iv5 ((s33 (⟨s60.Parts, s_1v5, s60.Beta, s60.Alpha⟩ : Sky) tv0 (0:Int) (100:Int) (⟨(10:Int), (25:Int)⟩ : Span)).2) (((s33 (⟨s60.Parts, s_1v5, s60.Beta, s60.Alpha⟩ : Sky) tv0 (0:Int) (100:Int) (⟨(10:Int), (25:Int)⟩ : Span)).1).Parts) (((s33 (⟨s60.Parts, s_1v5, s60.Beta, s60.Alpha⟩ : Sky) tv0 (0:Int) (100:Int) (⟨(10:Int), (25:Int)⟩ : Span)).1).Bins.len) (fun i => enc_32 (((s33 (⟨s60.Parts, s_1v5, s60.Beta, s60.Alpha⟩ : Sky) tv0 (0:Int) (100:Int) (⟨(10:Int), (25:Int)⟩ : Span)).1).Bins.get i)) (((s33 (⟨s60.Parts, s_1v5, s60.Beta, s60.Alpha⟩ : Sky) tv0 (0:Int) (100:Int) (⟨(10:Int), (25:Int)⟩ : Span)).1).Beta.Low) (((s33 (⟨s60.Parts, s_1v5, s60.Beta, s60.Alpha⟩ : Sky) tv0 (0:Int) (100:Int) (⟨(10:Int), (25:Int)⟩ : Span)).1).Beta.High) (((s33 (⟨s60.Parts, s_1v5, s60.Beta, s60.Alpha⟩ : Sky) tv0 (0:Int) (100:Int) (⟨(10:Int), (25:Int)⟩ : Span)).1).Alpha.Low) (((s33 (⟨s60.Parts, s_1v5, s60.Beta, s60.Alpha⟩ : Sky) tv0 (0:Int) (100:Int) (⟨(10:Int), (25:Int)⟩ : Span)).1).Alpha.High))) := by kernel_rfl
theorem f18_eq6 (K : List PA → Prop) (ev1 : Int) (a_0v1 : Int) (a_1v1 : Int) (fv2 : Int) (b_0v2 : Int) (b_1v2 : Int) (gv3 : Int) (c_0v3 : Int) (c_1v3 : Int) (hv4 : Int) (d_0v4 : Int) (d_1v4 : Int) (lv5 : (Sl FluxStep)) (iv5 : Int) (jv6 : Int) (x_0v6 : Int) (x_1v6 : (Sl (Sl FluxRow))) (x_2v6 : Int) (x_3v6 : Int) (x_4v6 : Int) (x_5v6 : Int) :
  f18_at6 K ev1 a_0v1 a_1v1 fv2 b_0v2 b_1v2 gv3 c_0v3 c_1v3 hv4 d_0v4 d_1v4 lv5 iv5 jv6 x_0v6 x_1v6.len (fun i => enc_32 (x_1v6.get i)) x_2v6 x_3v6 x_4v6 x_5v6 =
  (condP (ev1 != (0:Int))
   (K [.one (.bool false)])
   (condP (fv2 != (0:Int))
    (K [.one (.bool false)])
    (condP (gv3 != (0:Int))
     (K [.one (.bool false)])
     (condP (hv4 != (0:Int))
      (K [.one (.bool false)])
      (condP (iv5 != (0:Int))
       (K [.one (.bool false)])
       (condP (jv6 != (0:Int))
        (K [.one (.bool false)])
        (condP ((lv5.len : Int) != (7:Int))
         (K [.one (.bool false)])
         (condP ((x_1v6.len : Int) != (1:Int))
          (K [.one (.bool false)])
          (((0 ≤ (0:Int) ∧ (0:Int) < (x_1v6.len : Int))) ∧
          (condP (((x_1v6.get 0).len : Int) != (4:Int))
           (K [.one (.bool false)])
           (f18_at7 K a_0v1 a_1v1 b_0v2 b_1v2 c_0v3 c_1v3 d_0v4 d_1v4 lv5 x_0v6 x_1v6 x_2v6 x_3v6 x_4v6 x_5v6))))))))))) := by kernel_rfl
theorem f18_eq7 (K : List PA → Prop) (a_0v1 : Int) (a_1v1 : Int) (b_0v2 : Int) (b_1v2 : Int) (c_0v3 : Int) (c_1v3 : Int) (d_0v4 : Int) (d_1v4 : Int) (lv5 : (Sl FluxStep)) (x_0v6 : Int) (x_1v6 : (Sl (Sl FluxRow))) (x_2v6 : Int) (x_3v6 : Int) (x_4v6 : Int) (x_5v6 : Int) :
  f18_at7 K a_0v1 a_1v1 b_0v2 b_1v2 c_0v3 c_1v3 d_0v4 d_1v4 lv5 x_0v6 x_1v6 x_2v6 x_3v6 x_4v6 x_5v6 =
  (condP (match (a_0v1 == (11:Int)) with | true => (match (a_1v1 == (100:Int)) with | true => true | false => false) | false => false)
   (condP (match (b_0v2 == (0:Int)) with | true => (match (b_1v2 == (260:Int)) with | true => true | false => false) | false => false)
    (condP (match (c_0v3 == (19:Int)) with | true => (match (c_1v3 == (505:Int)) with | true => true | false => false) | false => false)
     (condP (match (d_0v4 == (1:Int)) with | true => (match (d_1v4 == (120:Int)) with | true => true | false => false) | false => false)
      (((0 ≤ (4:Int) ∧ (4:Int) < (lv5.len : Int))) ∧
      (condP (match ((lv5.get 4).From == (121:Int)) with | true => (match (match ((lv5.get 4).Rate.Low == (20:Int)) with | true => (match ((lv5.get 4).Rate.High == (260:Int)) with | true => true | false => false) | false => false) with | true => true | false => false) | false => false)
       (((0 ≤ (0:Int) ∧ (0:Int) < (x_1v6.len : Int))) ∧
       (((0 ≤ (3:Int) ∧ (3:Int) < ((x_1v6.get 0).len : Int))) ∧
       (K [.one (.bool (match (((x_1v6.get 0).get 3).Rate.Low == (20:Int)) with | true => (match (((x_1v6.get 0).get 3).Rate.High == (25:Int)) with | true => true | false => false) | false => false))])))
       (K [.one (.bool false)])))
      (K [.one (.bool false)]))
     (K [.one (.bool false)]))
    (K [.one (.bool false)]))
   (K [.one (.bool false)])) := by kernel_rfl
abbrev R18 := Bool
abbrev e18 (r : Bool) : List PA := [.one (.bool r)]
attribute [irreducible] f18_at0 f18_at1 f18_at2 f18_at3 f18_at4 f18_at5 f18_at6 f18_at7
def s18_at7 (a_0v1 : Int) (a_1v1 : Int) (b_0v2 : Int) (b_1v2 : Int) (c_0v3 : Int) (c_1v3 : Int) (d_0v4 : Int) (d_1v4 : Int) (lv5 : (Sl FluxStep)) (x_0v6 : Int) (x_1v6 : (Sl (Sl FluxRow))) (x_2v6 : Int) (x_3v6 : Int) (x_4v6 : Int) (x_5v6 : Int) : Bool :=
  (cond (match (a_0v1 == (11:Int)) with | true => (match (a_1v1 == (100:Int)) with | true => true | false => false) | false => false)
   (cond (match (b_0v2 == (0:Int)) with | true => (match (b_1v2 == (260:Int)) with | true => true | false => false) | false => false)
    (cond (match (c_0v3 == (19:Int)) with | true => (match (c_1v3 == (505:Int)) with | true => true | false => false) | false => false)
     (cond (match (d_0v4 == (1:Int)) with | true => (match (d_1v4 == (120:Int)) with | true => true | false => false) | false => false)
      (cond (match ((lv5.get 4).From == (121:Int)) with | true => (match (match ((lv5.get 4).Rate.Low == (20:Int)) with | true => (match ((lv5.get 4).Rate.High == (260:Int)) with | true => true | false => false) | false => false) with | true => true | false => false) | false => false)
       (match (((x_1v6.get 0).get 3).Rate.Low == (20:Int)) with | true => (match (((x_1v6.get 0).get 3).Rate.High == (25:Int)) with | true => true | false => false) | false => false)
       false)
      false)
     false)
    false)
   false)
def p18_at7 (a_0v1 : Int) (a_1v1 : Int) (b_0v2 : Int) (b_1v2 : Int) (c_0v3 : Int) (c_1v3 : Int) (d_0v4 : Int) (d_1v4 : Int) (lv5 : (Sl FluxStep)) (x_0v6 : Int) (x_1v6 : (Sl (Sl FluxRow))) (x_2v6 : Int) (x_3v6 : Int) (x_4v6 : Int) (x_5v6 : Int) : Bool :=
  (cond (match (a_0v1 == (11:Int)) with | true => (match (a_1v1 == (100:Int)) with | true => true | false => false) | false => false)
   (cond (match (b_0v2 == (0:Int)) with | true => (match (b_1v2 == (260:Int)) with | true => true | false => false) | false => false)
    (cond (match (c_0v3 == (19:Int)) with | true => (match (c_1v3 == (505:Int)) with | true => true | false => false) | false => false)
     (cond (match (d_0v4 == (1:Int)) with | true => (match (d_1v4 == (120:Int)) with | true => true | false => false) | false => false)
      (decide ((0 ≤ (4:Int) ∧ (4:Int) < (lv5.len : Int))) &&
      (cond (match ((lv5.get 4).From == (121:Int)) with | true => (match (match ((lv5.get 4).Rate.Low == (20:Int)) with | true => (match ((lv5.get 4).Rate.High == (260:Int)) with | true => true | false => false) | false => false) with | true => true | false => false) | false => false)
       (decide ((0 ≤ (0:Int) ∧ (0:Int) < (x_1v6.len : Int))) &&
       (decide ((0 ≤ (3:Int) ∧ (3:Int) < ((x_1v6.get 0).len : Int))) &&
       true))
       true))
      true)
     true)
    true)
   true)
theorem q18_at7 (K : List PA → Prop) (a_0v1 : Int) (a_1v1 : Int) (b_0v2 : Int) (b_1v2 : Int) (c_0v3 : Int) (c_1v3 : Int) (d_0v4 : Int) (d_1v4 : Int) (lv5 : (Sl FluxStep)) (x_0v6 : Int) (x_1v6 : (Sl (Sl FluxRow))) (x_2v6 : Int) (x_3v6 : Int) (x_4v6 : Int) (x_5v6 : Int) (hs : p18_at7 a_0v1 a_1v1 b_0v2 b_1v2 c_0v3 c_1v3 d_0v4 d_1v4 lv5 x_0v6 x_1v6 x_2v6 x_3v6 x_4v6 x_5v6 = true) (hk : K (e18 (s18_at7 a_0v1 a_1v1 b_0v2 b_1v2 c_0v3 c_1v3 d_0v4 d_1v4 lv5 x_0v6 x_1v6 x_2v6 x_3v6 x_4v6 x_5v6))) : f18_at7 K a_0v1 a_1v1 b_0v2 b_1v2 c_0v3 c_1v3 d_0v4 d_1v4 lv5 x_0v6 x_1v6 x_2v6 x_3v6 x_4v6 x_5v6 := by
  refine ofEq (f18_eq7 K a_0v1 a_1v1 b_0v2 b_1v2 c_0v3 c_1v3 d_0v4 d_1v4 lv5 x_0v6 x_1v6 x_2v6 x_3v6 x_4v6 x_5v6) ?_
  unfold p18_at7 at hs
  unfold s18_at7 at hk
  exact (condB_go (K := fun r => K (e18 r))
   (fun hs hk => (condB_go (K := fun r => K (e18 r))
    (fun hs hk => (condB_go (K := fun r => K (e18 r))
     (fun hs hk => (condB_go (K := fun r => K (e18 r))
      (fun hs hk => (andK hs fun hc hs => ⟨hc, (condB_go (K := fun r => K (e18 r))
       (fun hs hk => (andK hs fun hc hs => ⟨hc, (andK hs fun hc hs => ⟨hc, hk⟩)⟩))
       (fun hs hk => hk) hs hk)⟩))
      (fun hs hk => hk) hs hk))
     (fun hs hk => hk) hs hk))
    (fun hs hk => hk) hs hk))
   (fun hs hk => hk) hs hk)
def s18_at6 (ev1 : Int) (a_0v1 : Int) (a_1v1 : Int) (fv2 : Int) (b_0v2 : Int) (b_1v2 : Int) (gv3 : Int) (c_0v3 : Int) (c_1v3 : Int) (hv4 : Int) (d_0v4 : Int) (d_1v4 : Int) (lv5 : (Sl FluxStep)) (iv5 : Int) (jv6 : Int) (x_0v6 : Int) (x_1v6 : (Sl (Sl FluxRow))) (x_2v6 : Int) (x_3v6 : Int) (x_4v6 : Int) (x_5v6 : Int) : Bool :=
  (cond (ev1 != (0:Int))
   false
   (cond (fv2 != (0:Int))
    false
    (cond (gv3 != (0:Int))
     false
     (cond (hv4 != (0:Int))
      false
      (cond (iv5 != (0:Int))
       false
       (cond (jv6 != (0:Int))
        false
        (cond ((lv5.len : Int) != (7:Int))
         false
         (cond ((x_1v6.len : Int) != (1:Int))
          false
          (cond (((x_1v6.get 0).len : Int) != (4:Int))
           false
           (s18_at7 a_0v1 a_1v1 b_0v2 b_1v2 c_0v3 c_1v3 d_0v4 d_1v4 lv5 x_0v6 x_1v6 x_2v6 x_3v6 x_4v6 x_5v6))))))))))
def p18_at6 (ev1 : Int) (a_0v1 : Int) (a_1v1 : Int) (fv2 : Int) (b_0v2 : Int) (b_1v2 : Int) (gv3 : Int) (c_0v3 : Int) (c_1v3 : Int) (hv4 : Int) (d_0v4 : Int) (d_1v4 : Int) (lv5 : (Sl FluxStep)) (iv5 : Int) (jv6 : Int) (x_0v6 : Int) (x_1v6 : (Sl (Sl FluxRow))) (x_2v6 : Int) (x_3v6 : Int) (x_4v6 : Int) (x_5v6 : Int) : Bool :=
  (cond (ev1 != (0:Int))
   true
   (cond (fv2 != (0:Int))
    true
    (cond (gv3 != (0:Int))
     true
     (cond (hv4 != (0:Int))
      true
      (cond (iv5 != (0:Int))
       true
       (cond (jv6 != (0:Int))
        true
        (cond ((lv5.len : Int) != (7:Int))
         true
         (cond ((x_1v6.len : Int) != (1:Int))
          true
          (decide ((0 ≤ (0:Int) ∧ (0:Int) < (x_1v6.len : Int))) &&
          (cond (((x_1v6.get 0).len : Int) != (4:Int))
           true
           (p18_at7 a_0v1 a_1v1 b_0v2 b_1v2 c_0v3 c_1v3 d_0v4 d_1v4 lv5 x_0v6 x_1v6 x_2v6 x_3v6 x_4v6 x_5v6)))))))))))
theorem q18_at6 (K : List PA → Prop) (ev1 : Int) (a_0v1 : Int) (a_1v1 : Int) (fv2 : Int) (b_0v2 : Int) (b_1v2 : Int) (gv3 : Int) (c_0v3 : Int) (c_1v3 : Int) (hv4 : Int) (d_0v4 : Int) (d_1v4 : Int) (lv5 : (Sl FluxStep)) (iv5 : Int) (jv6 : Int) (x_0v6 : Int) (x_1v6 : (Sl (Sl FluxRow))) (x_2v6 : Int) (x_3v6 : Int) (x_4v6 : Int) (x_5v6 : Int) (x_1v6_g : Nat → List PV) (x_1v6_h : x_1v6_g = fun i => enc_32 (x_1v6.get i)) (hs : p18_at6 ev1 a_0v1 a_1v1 fv2 b_0v2 b_1v2 gv3 c_0v3 c_1v3 hv4 d_0v4 d_1v4 lv5 iv5 jv6 x_0v6 x_1v6 x_2v6 x_3v6 x_4v6 x_5v6 = true) (hk : K (e18 (s18_at6 ev1 a_0v1 a_1v1 fv2 b_0v2 b_1v2 gv3 c_0v3 c_1v3 hv4 d_0v4 d_1v4 lv5 iv5 jv6 x_0v6 x_1v6 x_2v6 x_3v6 x_4v6 x_5v6))) : f18_at6 K ev1 a_0v1 a_1v1 fv2 b_0v2 b_1v2 gv3 c_0v3 c_1v3 hv4 d_0v4 d_1v4 lv5 iv5 jv6 x_0v6 x_1v6.len x_1v6_g x_2v6 x_3v6 x_4v6 x_5v6 := by
  subst x_1v6_h
  refine ofEq (f18_eq6 K ev1 a_0v1 a_1v1 fv2 b_0v2 b_1v2 gv3 c_0v3 c_1v3 hv4 d_0v4 d_1v4 lv5 iv5 jv6 x_0v6 x_1v6 x_2v6 x_3v6 x_4v6 x_5v6) ?_
  unfold p18_at6 at hs
  unfold s18_at6 at hk
  exact (condB_go (K := fun r => K (e18 r))
   (fun hs hk => hk)
   (fun hs hk => (condB_go (K := fun r => K (e18 r))
    (fun hs hk => hk)
    (fun hs hk => (condB_go (K := fun r => K (e18 r))
     (fun hs hk => hk)
     (fun hs hk => (condB_go (K := fun r => K (e18 r))
      (fun hs hk => hk)
      (fun hs hk => (condB_go (K := fun r => K (e18 r))
       (fun hs hk => hk)
       (fun hs hk => (condB_go (K := fun r => K (e18 r))
        (fun hs hk => hk)
        (fun hs hk => (condB_go (K := fun r => K (e18 r))
         (fun hs hk => hk)
         (fun hs hk => (condB_go (K := fun r => K (e18 r))
          (fun hs hk => hk)
          (fun hs hk => (andK hs fun hc hs => ⟨hc, (condB_go (K := fun r => K (e18 r))
           (fun hs hk => hk)
           (fun hs hk => (q18_at7 K a_0v1 a_1v1 b_0v2 b_1v2 c_0v3 c_1v3 d_0v4 d_1v4 lv5 x_0v6 x_1v6 x_2v6 x_3v6 x_4v6 x_5v6 hs hk)) hs hk)⟩)) hs hk)) hs hk)) hs hk)) hs hk)) hs hk)) hs hk)) hs hk)) hs hk)
def s18_at5 (tv0 : (Sl RangeRow)) (ev1 : Int) (a_0v1 : Int) (a_1v1 : Int) (fv2 : Int) (b_0v2 : Int) (b_1v2 : Int) (gv3 : Int) (c_0v3 : Int) (c_1v3 : Int) (hv4 : Int) (d_0v4 : Int) (d_1v4 : Int) (lv5 : (Sl FluxStep)) (iv5 : Int) (s_1v5 : (Sl (Sl FluxRow))) : Bool :=
  (s18_at6 ev1 a_0v1 a_1v1 fv2 b_0v2 b_1v2 gv3 c_0v3 c_1v3 hv4 d_0v4 d_1v4 lv5 iv5 ((s33 (⟨s60.Parts, s_1v5, s60.Beta, s60.Alpha⟩ : Sky) tv0 (0:Int) (100:Int) (⟨(10:Int), (25:Int)⟩ : Span)).2) (((s33 (⟨s60.Parts, s_1v5, s60.Beta, s60.Alpha⟩ : Sky) tv0 (0:Int) (100:Int) (⟨(10:Int), (25:Int)⟩ : Span)).1).Parts) (((s33 (⟨s60.Parts, s_1v5, s60.Beta, s60.Alpha⟩ : Sky) tv0 (0:Int) (100:Int) (⟨(10:Int), (25:Int)⟩ : Span)).1).Bins) (((s33 (⟨s60.Parts, s_1v5, s60.Beta, s60.Alpha⟩ : Sky) tv0 (0:Int) (100:Int) (⟨(10:Int), (25:Int)⟩ : Span)).1).Beta.Low) (((s33 (⟨s60.Parts, s_1v5, s60.Beta, s60.Alpha⟩ : Sky) tv0 (0:Int) (100:Int) (⟨(10:Int), (25:Int)⟩ : Span)).1).Beta.High) (((s33 (⟨s60.Parts, s_1v5, s60.Beta, s60.Alpha⟩ : Sky) tv0 (0:Int) (100:Int) (⟨(10:Int), (25:Int)⟩ : Span)).1).Alpha.Low) (((s33 (⟨s60.Parts, s_1v5, s60.Beta, s60.Alpha⟩ : Sky) tv0 (0:Int) (100:Int) (⟨(10:Int), (25:Int)⟩ : Span)).1).Alpha.High))
def p18_at5 (tv0 : (Sl RangeRow)) (ev1 : Int) (a_0v1 : Int) (a_1v1 : Int) (fv2 : Int) (b_0v2 : Int) (b_1v2 : Int) (gv3 : Int) (c_0v3 : Int) (c_1v3 : Int) (hv4 : Int) (d_0v4 : Int) (d_1v4 : Int) (lv5 : (Sl FluxStep)) (iv5 : Int) (s_1v5 : (Sl (Sl FluxRow))) : Bool :=
  (decide ((p33 (⟨s60.Parts, s_1v5, s60.Beta, s60.Alpha⟩ : Sky) tv0 (0:Int) (100:Int) (⟨(10:Int), (25:Int)⟩ : Span) = true)) &&
  (p18_at6 ev1 a_0v1 a_1v1 fv2 b_0v2 b_1v2 gv3 c_0v3 c_1v3 hv4 d_0v4 d_1v4 lv5 iv5 ((s33 (⟨s60.Parts, s_1v5, s60.Beta, s60.Alpha⟩ : Sky) tv0 (0:Int) (100:Int) (⟨(10:Int), (25:Int)⟩ : Span)).2) (((s33 (⟨s60.Parts, s_1v5, s60.Beta, s60.Alpha⟩ : Sky) tv0 (0:Int) (100:Int) (⟨(10:Int), (25:Int)⟩ : Span)).1).Parts) (((s33 (⟨s60.Parts, s_1v5, s60.Beta, s60.Alpha⟩ : Sky) tv0 (0:Int) (100:Int) (⟨(10:Int), (25:Int)⟩ : Span)).1).Bins) (((s33 (⟨s60.Parts, s_1v5, s60.Beta, s60.Alpha⟩ : Sky) tv0 (0:Int) (100:Int) (⟨(10:Int), (25:Int)⟩ : Span)).1).Beta.Low) (((s33 (⟨s60.Parts, s_1v5, s60.Beta, s60.Alpha⟩ : Sky) tv0 (0:Int) (100:Int) (⟨(10:Int), (25:Int)⟩ : Span)).1).Beta.High) (((s33 (⟨s60.Parts, s_1v5, s60.Beta, s60.Alpha⟩ : Sky) tv0 (0:Int) (100:Int) (⟨(10:Int), (25:Int)⟩ : Span)).1).Alpha.Low) (((s33 (⟨s60.Parts, s_1v5, s60.Beta, s60.Alpha⟩ : Sky) tv0 (0:Int) (100:Int) (⟨(10:Int), (25:Int)⟩ : Span)).1).Alpha.High)))
theorem q18_at5 (K : List PA → Prop) (tv0 : (Sl RangeRow)) (ev1 : Int) (a_0v1 : Int) (a_1v1 : Int) (fv2 : Int) (b_0v2 : Int) (b_1v2 : Int) (gv3 : Int) (c_0v3 : Int) (c_1v3 : Int) (hv4 : Int) (d_0v4 : Int) (d_1v4 : Int) (lv5 : (Sl FluxStep)) (iv5 : Int) (s_1v5 : (Sl (Sl FluxRow))) (lv5_g : Nat → List PV) (lv5_h : lv5_g = fun i => enc_69 (lv5.get i)) (s_1v5_g : Nat → List PV) (s_1v5_h : s_1v5_g = fun i => enc_32 (s_1v5.get i)) (hs : p18_at5 tv0 ev1 a_0v1 a_1v1 fv2 b_0v2 b_1v2 gv3 c_0v3 c_1v3 hv4 d_0v4 d_1v4 lv5 iv5 s_1v5 = true) (hk : K (e18 (s18_at5 tv0 ev1 a_0v1 a_1v1 fv2 b_0v2 b_1v2 gv3 c_0v3 c_1v3 hv4 d_0v4 d_1v4 lv5 iv5 s_1v5))) : f18_at5 K tv0 ev1 a_0v1 a_1v1 fv2 b_0v2 b_1v2 gv3 c_0v3 c_1v3 hv4 d_0v4 d_1v4 lv5.len lv5_g iv5 s_1v5.len s_1v5_g := by
  subst lv5_h
  subst s_1v5_h
  refine ofEq (f18_eq5 K tv0 ev1 a_0v1 a_1v1 fv2 b_0v2 b_1v2 gv3 c_0v3 c_1v3 hv4 d_0v4 d_1v4 lv5 iv5 s_1v5) ?_
  unfold p18_at5 at hs
  unfold s18_at5 at hk
  exact (andK hs fun hc hs => ⟨⟨isE, isE, hc⟩, (q18_at6 K ev1 a_0v1 a_1v1 fv2 b_0v2 b_1v2 gv3 c_0v3 c_1v3 hv4 d_0v4 d_1v4 lv5 iv5 ((s33 (⟨s60.Parts, s_1v5, s60.Beta, s60.Alpha⟩ : Sky) tv0 (0:Int) (100:Int) (⟨(10:Int), (25:Int)⟩ : Span)).2) (((s33 (⟨s60.Parts, s_1v5, s60.Beta, s60.Alpha⟩ : Sky) tv0 (0:Int) (100:Int) (⟨(10:Int), (25:Int)⟩ : Span)).1).Parts) (((s33 (⟨s60.Parts, s_1v5, s60.Beta, s60.Alpha⟩ : Sky) tv0 (0:Int) (100:Int) (⟨(10:Int), (25:Int)⟩ : Span)).1).Bins) (((s33 (⟨s60.Parts, s_1v5, s60.Beta, s60.Alpha⟩ : Sky) tv0 (0:Int) (100:Int) (⟨(10:Int), (25:Int)⟩ : Span)).1).Beta.Low) (((s33 (⟨s60.Parts, s_1v5, s60.Beta, s60.Alpha⟩ : Sky) tv0 (0:Int) (100:Int) (⟨(10:Int), (25:Int)⟩ : Span)).1).Beta.High) (((s33 (⟨s60.Parts, s_1v5, s60.Beta, s60.Alpha⟩ : Sky) tv0 (0:Int) (100:Int) (⟨(10:Int), (25:Int)⟩ : Span)).1).Alpha.Low) (((s33 (⟨s60.Parts, s_1v5, s60.Beta, s60.Alpha⟩ : Sky) tv0 (0:Int) (100:Int) (⟨(10:Int), (25:Int)⟩ : Span)).1).Alpha.High) (fun i => enc_32 (((s33 (⟨s60.Parts, s_1v5, s60.Beta, s60.Alpha⟩ : Sky) tv0 (0:Int) (100:Int) (⟨(10:Int), (25:Int)⟩ : Span)).1).Bins.get i)) rfl hs hk)⟩)
def s18_at4 (tv0 : (Sl RangeRow)) (ev1 : Int) (a_0v1 : Int) (a_1v1 : Int) (fv2 : Int) (b_0v2 : Int) (b_1v2 : Int) (gv3 : Int) (c_0v3 : Int) (c_1v3 : Int) (hv4 : Int) (s_1v4 : (Sl (Sl FluxRow))) (d_0v4 : Int) (d_1v4 : Int) : Bool :=
  (s18_at5 tv0 ev1 a_0v1 a_1v1 fv2 b_0v2 b_1v2 gv3 c_0v3 c_1v3 hv4 d_0v4 d_1v4 ((s26 (⟨s60.Parts, s_1v4, s60.Beta, s60.Alpha⟩ : Sky) tv0 (0:Int) (⟨1, fun _ => (s34 (1:Int))⟩ : (Sl Spell))).1) ((s26 (⟨s60.Parts, s_1v4, s60.Beta, s60.Alpha⟩ : Sky) tv0 (0:Int) (⟨1, fun _ => (s34 (1:Int))⟩ : (Sl Spell))).2) s_1v4)
def p18_at4 (tv0 : (Sl RangeRow)) (ev1 : Int) (a_0v1 : Int) (a_1v1 : Int) (fv2 : Int) (b_0v2 : Int) (b_1v2 : Int) (gv3 : Int) (c_0v3 : Int) (c_1v3 : Int) (hv4 : Int) (s_1v4 : (Sl (Sl FluxRow))) (d_0v4 : Int) (d_1v4 : Int) : Bool :=
  (decide ((p26 (⟨s60.Parts, s_1v4, s60.Beta, s60.Alpha⟩ : Sky) tv0 (0:Int) (⟨1, fun _ => (s34 (1:Int))⟩ : (Sl Spell)) = true)) &&
  (p18_at5 tv0 ev1 a_0v1 a_1v1 fv2 b_0v2 b_1v2 gv3 c_0v3 c_1v3 hv4 d_0v4 d_1v4 ((s26 (⟨s60.Parts, s_1v4, s60.Beta, s60.Alpha⟩ : Sky) tv0 (0:Int) (⟨1, fun _ => (s34 (1:Int))⟩ : (Sl Spell))).1) ((s26 (⟨s60.Parts, s_1v4, s60.Beta, s60.Alpha⟩ : Sky) tv0 (0:Int) (⟨1, fun _ => (s34 (1:Int))⟩ : (Sl Spell))).2) s_1v4))
theorem q18_at4 (K : List PA → Prop) (tv0 : (Sl RangeRow)) (ev1 : Int) (a_0v1 : Int) (a_1v1 : Int) (fv2 : Int) (b_0v2 : Int) (b_1v2 : Int) (gv3 : Int) (c_0v3 : Int) (c_1v3 : Int) (hv4 : Int) (s_1v4 : (Sl (Sl FluxRow))) (d_0v4 : Int) (d_1v4 : Int) (s_1v4_g : Nat → List PV) (s_1v4_h : s_1v4_g = fun i => enc_32 (s_1v4.get i)) (hs : p18_at4 tv0 ev1 a_0v1 a_1v1 fv2 b_0v2 b_1v2 gv3 c_0v3 c_1v3 hv4 s_1v4 d_0v4 d_1v4 = true) (hk : K (e18 (s18_at4 tv0 ev1 a_0v1 a_1v1 fv2 b_0v2 b_1v2 gv3 c_0v3 c_1v3 hv4 s_1v4 d_0v4 d_1v4))) : f18_at4 K tv0 ev1 a_0v1 a_1v1 fv2 b_0v2 b_1v2 gv3 c_0v3 c_1v3 hv4 s_1v4.len s_1v4_g d_0v4 d_1v4 := by
  subst s_1v4_h
  refine ofEq (f18_eq4 K tv0 ev1 a_0v1 a_1v1 fv2 b_0v2 b_1v2 gv3 c_0v3 c_1v3 hv4 s_1v4 d_0v4 d_1v4) ?_
  unfold p18_at4 at hs
  unfold s18_at4 at hk
  exact (andK hs fun hc hs => ⟨⟨isE, isE, isE_c, hc⟩, (q18_at5 K tv0 ev1 a_0v1 a_1v1 fv2 b_0v2 b_1v2 gv3 c_0v3 c_1v3 hv4 d_0v4 d_1v4 ((s26 (⟨s60.Parts, s_1v4, s60.Beta, s60.Alpha⟩ : Sky) tv0 (0:Int) (⟨1, fun _ => (s34 (1:Int))⟩ : (Sl Spell))).1) ((s26 (⟨s60.Parts, s_1v4, s60.Beta, s60.Alpha⟩ : Sky) tv0 (0:Int) (⟨1, fun _ => (s34 (1:Int))⟩ : (Sl Spell))).2) s_1v4 (fun i => enc_69 (((s26 (⟨s60.Parts, s_1v4, s60.Beta, s60.Alpha⟩ : Sky) tv0 (0:Int) (⟨1, fun _ => (s34 (1:Int))⟩ : (Sl Spell))).1).get i)) rfl (fun i => enc_32 (s_1v4.get i)) rfl hs hk)⟩)
def s18_at3 (tv0 : (Sl RangeRow)) (ev1 : Int) (a_0v1 : Int) (a_1v1 : Int) (fv2 : Int) (b_0v2 : Int) (b_1v2 : Int) (gv3 : Int) (s_1v3 : (Sl (Sl FluxRow))) (c_0v3 : Int) (c_1v3 : Int) : Bool :=
  (s18_at4 tv0 ev1 a_0v1 a_1v1 fv2 b_0v2 b_1v2 gv3 c_0v3 c_1v3 ((s25 (⟨s60.Parts, s_1v3, s60.Beta, s60.Alpha⟩ : Sky) tv0 (0:Int) (⟨(261:Int), (270:Int)⟩ : Span) (⟨1, fun _ => (s34 (1:Int))⟩ : (Sl Spell))).2) s_1v3 (((s25 (⟨s60.Parts, s_1v3, s60.Beta, s60.Alpha⟩ : Sky) tv0 (0:Int) (⟨(261:Int), (270:Int)⟩ : Span) (⟨1, fun _ => (s34 (1:Int))⟩ : (Sl Spell))).1).Low) (((s25 (⟨s60.Parts, s_1v3, s60.Beta, s60.Alpha⟩ : Sky) tv0 (0:Int) (⟨(261:Int), (270:Int)⟩ : Span) (⟨1, fun _ => (s34 (1:Int))⟩ : (Sl Spell))).1).High))
def p18_at3 (tv0 : (Sl RangeRow)) (ev1 : Int) (a_0v1 : Int) (a_1v1 : Int) (fv2 : Int) (b_0v2 : Int) (b_1v2 : Int) (gv3 : Int) (s_1v3 : (Sl (Sl FluxRow))) (c_0v3 : Int) (c_1v3 : Int) : Bool :=
  (decide ((p25 (⟨s60.Parts, s_1v3, s60.Beta, s60.Alpha⟩ : Sky) tv0 (0:Int) (⟨(261:Int), (270:Int)⟩ : Span) (⟨1, fun _ => (s34 (1:Int))⟩ : (Sl Spell)) = true)) &&
  (p18_at4 tv0 ev1 a_0v1 a_1v1 fv2 b_0v2 b_1v2 gv3 c_0v3 c_1v3 ((s25 (⟨s60.Parts, s_1v3, s60.Beta, s60.Alpha⟩ : Sky) tv0 (0:Int) (⟨(261:Int), (270:Int)⟩ : Span) (⟨1, fun _ => (s34 (1:Int))⟩ : (Sl Spell))).2) s_1v3 (((s25 (⟨s60.Parts, s_1v3, s60.Beta, s60.Alpha⟩ : Sky) tv0 (0:Int) (⟨(261:Int), (270:Int)⟩ : Span) (⟨1, fun _ => (s34 (1:Int))⟩ : (Sl Spell))).1).Low) (((s25 (⟨s60.Parts, s_1v3, s60.Beta, s60.Alpha⟩ : Sky) tv0 (0:Int) (⟨(261:Int), (270:Int)⟩ : Span) (⟨1, fun _ => (s34 (1:Int))⟩ : (Sl Spell))).1).High)))
theorem q18_at3 (K : List PA → Prop) (tv0 : (Sl RangeRow)) (ev1 : Int) (a_0v1 : Int) (a_1v1 : Int) (fv2 : Int) (b_0v2 : Int) (b_1v2 : Int) (gv3 : Int) (s_1v3 : (Sl (Sl FluxRow))) (c_0v3 : Int) (c_1v3 : Int) (s_1v3_g : Nat → List PV) (s_1v3_h : s_1v3_g = fun i => enc_32 (s_1v3.get i)) (hs : p18_at3 tv0 ev1 a_0v1 a_1v1 fv2 b_0v2 b_1v2 gv3 s_1v3 c_0v3 c_1v3 = true) (hk : K (e18 (s18_at3 tv0 ev1 a_0v1 a_1v1 fv2 b_0v2 b_1v2 gv3 s_1v3 c_0v3 c_1v3))) : f18_at3 K tv0 ev1 a_0v1 a_1v1 fv2 b_0v2 b_1v2 gv3 s_1v3.len s_1v3_g c_0v3 c_1v3 := by
  subst s_1v3_h
  refine ofEq (f18_eq3 K tv0 ev1 a_0v1 a_1v1 fv2 b_0v2 b_1v2 gv3 s_1v3 c_0v3 c_1v3) ?_
  unfold p18_at3 at hs
  unfold s18_at3 at hk
  exact (andK hs fun hc hs => ⟨⟨isE, isE, isE_c, hc⟩, (q18_at4 K tv0 ev1 a_0v1 a_1v1 fv2 b_0v2 b_1v2 gv3 c_0v3 c_1v3 ((s25 (⟨s60.Parts, s_1v3, s60.Beta, s60.Alpha⟩ : Sky) tv0 (0:Int) (⟨(261:Int), (270:Int)⟩ : Span) (⟨1, fun _ => (s34 (1:Int))⟩ : (Sl Spell))).2) s_1v3 (((s25 (⟨s60.Parts, s_1v3, s60.Beta, s60.Alpha⟩ : Sky) tv0 (0:Int) (⟨(261:Int), (270:Int)⟩ : Span) (⟨1, fun _ => (s34 (1:Int))⟩ : (Sl Spell))).1).Low) (((s25 (⟨s60.Parts, s_1v3, s60.Beta, s60.Alpha⟩ : Sky) tv0 (0:Int) (⟨(261:Int), (270:Int)⟩ : Span) (⟨1, fun _ => (s34 (1:Int))⟩ : (Sl Spell))).1).High) (fun i => enc_32 (s_1v3.get i)) rfl hs hk)⟩)
def s18_at2 (tv0 : (Sl RangeRow)) (ev1 : Int) (a_0v1 : Int) (a_1v1 : Int) (fv2 : Int) (s_1v2 : (Sl (Sl FluxRow))) (b_0v2 : Int) (b_1v2 : Int) : Bool :=
  (s18_at3 tv0 ev1 a_0v1 a_1v1 fv2 b_0v2 b_1v2 ((s23 (⟨s60.Parts, s_1v2, s60.Beta, s60.Alpha⟩ : Sky) tv0 (0:Int) (100:Int) (⟨2, decF_56 (getL [(enc_56 (s34 (3:Int))), (enc_56 (⟨(1:Int), (⟨(⟨(-10:Int), (20:Int)⟩ : Span), (⟨(0:Int), (5:Int)⟩ : Span)⟩ : Weather)⟩ : Spell))])⟩ : (Sl Spell))).2) s_1v2 (((s23 (⟨s60.Parts, s_1v2, s60.Beta, s60.Alpha⟩ : Sky) tv0 (0:Int) (100:Int) (⟨2, decF_56 (getL [(enc_56 (s34 (3:Int))), (enc_56 (⟨(1:Int), (⟨(⟨(-10:Int), (20:Int)⟩ : Span), (⟨(0:Int), (5:Int)⟩ : Span)⟩ : Weather)⟩ : Spell))])⟩ : (Sl Spell))).1).Low) (((s23 (⟨s60.Parts, s_1v2, s60.Beta, s60.Alpha⟩ : Sky) tv0 (0:Int) (100:Int) (⟨2, decF_56 (getL [(enc_56 (s34 (3:Int))), (enc_56 (⟨(1:Int), (⟨(⟨(-10:Int), (20:Int)⟩ : Span), (⟨(0:Int), (5:Int)⟩ : Span)⟩ : Weather)⟩ : Spell))])⟩ : (Sl Spell))).1).High))
def p18_at2 (tv0 : (Sl RangeRow)) (ev1 : Int) (a_0v1 : Int) (a_1v1 : Int) (fv2 : Int) (s_1v2 : (Sl (Sl FluxRow))) (b_0v2 : Int) (b_1v2 : Int) : Bool :=
  (decide ((p23 (⟨s60.Parts, s_1v2, s60.Beta, s60.Alpha⟩ : Sky) tv0 (0:Int) (100:Int) (⟨2, decF_56 (getL [(enc_56 (s34 (3:Int))), (enc_56 (⟨(1:Int), (⟨(⟨(-10:Int), (20:Int)⟩ : Span), (⟨(0:Int), (5:Int)⟩ : Span)⟩ : Weather)⟩ : Spell))])⟩ : (Sl Spell)) = true)) &&
  (p18_at3 tv0 ev1 a_0v1 a_1v1 fv2 b_0v2 b_1v2 ((s23 (⟨s60.Parts, s_1v2, s60.Beta, s60.Alpha⟩ : Sky) tv0 (0:Int) (100:Int) (⟨2, decF_56 (getL [(enc_56 (s34 (3:Int))), (enc_56 (⟨(1:Int), (⟨(⟨(-10:Int), (20:Int)⟩ : Span), (⟨(0:Int), (5:Int)⟩ : Span)⟩ : Weather)⟩ : Spell))])⟩ : (Sl Spell))).2) s_1v2 (((s23 (⟨s60.Parts, s_1v2, s60.Beta, s60.Alpha⟩ : Sky) tv0 (0:Int) (100:Int) (⟨2, decF_56 (getL [(enc_56 (s34 (3:Int))), (enc_56 (⟨(1:Int), (⟨(⟨(-10:Int), (20:Int)⟩ : Span), (⟨(0:Int), (5:Int)⟩ : Span)⟩ : Weather)⟩ : Spell))])⟩ : (Sl Spell))).1).Low) (((s23 (⟨s60.Parts, s_1v2, s60.Beta, s60.Alpha⟩ : Sky) tv0 (0:Int) (100:Int) (⟨2, decF_56 (getL [(enc_56 (s34 (3:Int))), (enc_56 (⟨(1:Int), (⟨(⟨(-10:Int), (20:Int)⟩ : Span), (⟨(0:Int), (5:Int)⟩ : Span)⟩ : Weather)⟩ : Spell))])⟩ : (Sl Spell))).1).High)))
theorem q18_at2 (K : List PA → Prop) (tv0 : (Sl RangeRow)) (ev1 : Int) (a_0v1 : Int) (a_1v1 : Int) (fv2 : Int) (s_1v2 : (Sl (Sl FluxRow))) (b_0v2 : Int) (b_1v2 : Int) (s_1v2_g : Nat → List PV) (s_1v2_h : s_1v2_g = fun i => enc_32 (s_1v2.get i)) (hs : p18_at2 tv0 ev1 a_0v1 a_1v1 fv2 s_1v2 b_0v2 b_1v2 = true) (hk : K (e18 (s18_at2 tv0 ev1 a_0v1 a_1v1 fv2 s_1v2 b_0v2 b_1v2))) : f18_at2 K tv0 ev1 a_0v1 a_1v1 fv2 s_1v2.len s_1v2_g b_0v2 b_1v2 := by
  subst s_1v2_h
  refine ofEq (f18_eq2 K tv0 ev1 a_0v1 a_1v1 fv2 s_1v2 b_0v2 b_1v2) ?_
  unfold p18_at2 at hs
  unfold s18_at2 at hk
  exact (andK hs fun hc hs => ⟨⟨isE, isE, (isE_list []), hc⟩, (q18_at3 K tv0 ev1 a_0v1 a_1v1 fv2 b_0v2 b_1v2 ((s23 (⟨s60.Parts, s_1v2, s60.Beta, s60.Alpha⟩ : Sky) tv0 (0:Int) (100:Int) (⟨2, decF_56 (getL [(enc_56 (s34 (3:Int))), (enc_56 (⟨(1:Int), (⟨(⟨(-10:Int), (20:Int)⟩ : Span), (⟨(0:Int), (5:Int)⟩ : Span)⟩ : Weather)⟩ : Spell))])⟩ : (Sl Spell))).2) s_1v2 (((s23 (⟨s60.Parts, s_1v2, s60.Beta, s60.Alpha⟩ : Sky) tv0 (0:Int) (100:Int) (⟨2, decF_56 (getL [(enc_56 (s34 (3:Int))), (enc_56 (⟨(1:Int), (⟨(⟨(-10:Int), (20:Int)⟩ : Span), (⟨(0:Int), (5:Int)⟩ : Span)⟩ : Weather)⟩ : Spell))])⟩ : (Sl Spell))).1).Low) (((s23 (⟨s60.Parts, s_1v2, s60.Beta, s60.Alpha⟩ : Sky) tv0 (0:Int) (100:Int) (⟨2, decF_56 (getL [(enc_56 (s34 (3:Int))), (enc_56 (⟨(1:Int), (⟨(⟨(-10:Int), (20:Int)⟩ : Span), (⟨(0:Int), (5:Int)⟩ : Span)⟩ : Weather)⟩ : Spell))])⟩ : (Sl Spell))).1).High) (fun i => enc_32 (s_1v2.get i)) rfl hs hk)⟩)
def s18_at1 (tv0 : (Sl RangeRow)) (ev1 : Int) (s_1v1 : (Sl (Sl FluxRow))) (a_0v1 : Int) (a_1v1 : Int) : Bool :=
  (s18_at2 tv0 ev1 a_0v1 a_1v1 ((s20 (⟨s60.Parts, s_1v1, s60.Beta, s60.Alpha⟩ : Sky) tv0 (0:Int) (280:Int)).2) s_1v1 (((s20 (⟨s60.Parts, s_1v1, s60.Beta, s60.Alpha⟩ : Sky) tv0 (0:Int) (280:Int)).1).Low) (((s20 (⟨s60.Parts, s_1v1, s60.Beta, s60.Alpha⟩ : Sky) tv0 (0:Int) (280:Int)).1).High))
def p18_at1 (tv0 : (Sl RangeRow)) (ev1 : Int) (s_1v1 : (Sl (Sl FluxRow))) (a_0v1 : Int) (a_1v1 : Int) : Bool :=
  (decide ((p20 (⟨s60.Parts, s_1v1, s60.Beta, s60.Alpha⟩ : Sky) tv0 (0:Int) (280:Int) = true)) &&
  (p18_at2 tv0 ev1 a_0v1 a_1v1 ((s20 (⟨s60.Parts, s_1v1, s60.Beta, s60.Alpha⟩ : Sky) tv0 (0:Int) (280:Int)).2) s_1v1 (((s20 (⟨s60.Parts, s_1v1, s60.Beta, s60.Alpha⟩ : Sky) tv0 (0:Int) (280:Int)).1).Low) (((s20 (⟨s60.Parts, s_1v1, s60.Beta, s60.Alpha⟩ : Sky) tv0 (0:Int) (280:Int)).1).High)))
theorem q18_at1 (K : List PA → Prop) (tv0 : (Sl RangeRow)) (ev1 : Int) (s_1v1 : (Sl (Sl FluxRow))) (a_0v1 : Int) (a_1v1 : Int) (s_1v1_g : Nat → List PV) (s_1v1_h : s_1v1_g = fun i => enc_32 (s_1v1.get i)) (hs : p18_at1 tv0 ev1 s_1v1 a_0v1 a_1v1 = true) (hk : K (e18 (s18_at1 tv0 ev1 s_1v1 a_0v1 a_1v1))) : f18_at1 K tv0 ev1 s_1v1.len s_1v1_g a_0v1 a_1v1 := by
  subst s_1v1_h
  refine ofEq (f18_eq1 K tv0 ev1 s_1v1 a_0v1 a_1v1) ?_
  unfold p18_at1 at hs
  unfold s18_at1 at hk
  exact (andK hs fun hc hs => ⟨⟨isE, isE, hc⟩, (q18_at2 K tv0 ev1 a_0v1 a_1v1 ((s20 (⟨s60.Parts, s_1v1, s60.Beta, s60.Alpha⟩ : Sky) tv0 (0:Int) (280:Int)).2) s_1v1 (((s20 (⟨s60.Parts, s_1v1, s60.Beta, s60.Alpha⟩ : Sky) tv0 (0:Int) (280:Int)).1).Low) (((s20 (⟨s60.Parts, s_1v1, s60.Beta, s60.Alpha⟩ : Sky) tv0 (0:Int) (280:Int)).1).High) (fun i => enc_32 (s_1v1.get i)) rfl hs hk)⟩)
def s18_at0 (tv0 : (Sl RangeRow)) (s_1v0 : (Sl (Sl FluxRow))) : Bool :=
  (s18_at1 tv0 ((s19 tv0 (100:Int)).2) s_1v0 (((s19 tv0 (100:Int)).1).Low) (((s19 tv0 (100:Int)).1).High))
def p18_at0 (tv0 : (Sl RangeRow)) (s_1v0 : (Sl (Sl FluxRow))) : Bool :=
  (decide ((p19 tv0 (100:Int) = true)) &&
  (p18_at1 tv0 ((s19 tv0 (100:Int)).2) s_1v0 (((s19 tv0 (100:Int)).1).Low) (((s19 tv0 (100:Int)).1).High)))
theorem q18_at0 (K : List PA → Prop) (tv0 : (Sl RangeRow)) (s_1v0 : (Sl (Sl FluxRow))) (tv0_g : Nat → List PV) (tv0_h : tv0_g = fun i => enc_42 (tv0.get i)) (s_1v0_g : Nat → List PV) (s_1v0_h : s_1v0_g = fun i => enc_32 (s_1v0.get i)) (hs : p18_at0 tv0 s_1v0 = true) (hk : K (e18 (s18_at0 tv0 s_1v0))) : f18_at0 K tv0.len tv0_g s_1v0.len s_1v0_g := by
  subst tv0_h
  subst s_1v0_h
  refine ofEq (f18_eq0 K tv0 s_1v0) ?_
  unfold p18_at0 at hs
  unfold s18_at0 at hk
  exact (andK hs fun hc hs => ⟨⟨isE, hc⟩, (q18_at1 K tv0 ((s19 tv0 (100:Int)).2) s_1v0 (((s19 tv0 (100:Int)).1).Low) (((s19 tv0 (100:Int)).1).High) (fun i => enc_32 (s_1v0.get i)) rfl hs hk)⟩)
def s18 : Bool :=
  (s18_at0 s61 s60.Bins)
def p18 : Bool :=
  (p18_at0 s61 s60.Bins)
theorem q18 (K : List PA → Prop) (hs : p18 = true) (hk : K (e18 (s18))) : vcFun Try.prog G18 ann18 18 [] K := by
  refine ofEq (f18_top K) ?_
  unfold p18 at hs
  unfold s18 at hk
  exact (q18_at0 K s61 s60.Bins (fun i => enc_42 (s61.get i)) rfl (fun i => enc_32 (s60.Bins.get i)) rfl hs hk)
theorem p18_ok : p18 = true := by kernel_rfl
theorem s18_ok : s18 = true := by kernel_rfl
def ctr18 : List PA → COut
  | [] => .tot [.one (.bool true)]
  | _ => .no
theorem call18 : Callable Try.prog 18 := ⟨_, rfl, rfl, by kernel_rfl⟩
theorem ok18 : Ok Try.prog 18 ctr18 := ok_tab okT18 call18 fun args K h => by
  unfold ctr18 at h
  split at h
  · refine ⟨fun _ _ => [], fun _ => false, ann18, q18 K p18_ok ?_⟩
    show K [.one (.bool s18)]
    rw [s18_ok]; exact h
  · exact h.elim
abbrev T15 : Tabs := Tabs.nil
theorem okT15 : TabsOk Try.prog T15 := TabsOk.nil
abbrev G15 : Ctrs := csm T15 (fun _ _ => []) (fun _ => false)
def ann15 : Ann := ⟨29, [(0, ⟨[1, 2], [2], [], [], []⟩), (1, ⟨[1, 2, 5], [2], [], [], []⟩), (2, ⟨[1, 2, 5, 10], [2], [], [], []⟩), (3, ⟨[1, 2, 5], [2], [], [], []⟩), (4, ⟨[1, 2, 5, 19], [2], [], [], []⟩), (5, ⟨[4], [], [], [], []⟩), (6, ⟨[4], [], [], [], []⟩)],
  [(2, ⟨[1, 2, 5], [2], [], [], []⟩)],
  [],
  [], []⟩
def f15_g0 (s : Sky) (t : (Sl RangeRow)) (iv0 : Int) : St := ⟨[(1, .one (.c (.p (.sl t.len 3 (fun i => enc_42 (t.get i)))))), (2, .one (.c (.ptr 2 0))), (5, .one (.c (.p (.int .i64 iv0))))], [(2, .box 26 [.p (.int .i64 s.Parts), .p (.sl s.Bins.len 1 (fun i => enc_32 (s.Bins.get i))), .p (.int .i64 s.Beta.Low), .p (.int .i64 s.Beta.High), .p (.int .i64 s.Alpha.Low), .p (.int .i64 s.Alpha.High)])], []⟩
def f15_at0 (K : List PA → Prop) (s : Sky) (t : (Sl RangeRow)) (iv0 : Int) : Prop := vc Try.prog G15 ann15 (cdF Try.f15 [1, 0, 1, 0]) (blockK 0 (sqK Try.prog G15 ann15 (cdF Try.f15 [1, 1]) (bodyK Try.prog Try.f15 K))) (f15_g0 s t iv0)
theorem f15_top (s : Sky) (t : (Sl RangeRow)) (K : List PA → Prop) :
  vcFun Try.prog G15 ann15 15 [.agg [.int .i64 s.Parts, .sl s.Bins.len 1 (fun i => enc_32 (s.Bins.get i)), .int .i64 s.Beta.Low, .int .i64 s.Beta.High, .int .i64 s.Alpha.Low, .int .i64 s.Alpha.High], .one (.sl t.len 3 (fun i => enc_42 (t.get i)))] K =
  (f15_at0 K s t (0:Int)) := by kernel_rfl
def f15_step0 (K : List PA → Prop) (X0 : St → Prop) (s : Sky) (t : (Sl RangeRow)) (iv0 : Int) : Prop :=
  (condP (decide (iv0 < (s.Bins.len : Int)))
   (((0 ≤ iv0 ∧ iv0 < (s.Bins.len : Int))) ∧
   (condP (decide (((s.Bins.get iv0.toNat).len : Int) > (50:Int)))
    (K [.one (.bool false)])
    (X0 (f15_g0 s t (w64 (iv0 + (1:Int)))))))
   (condP (decide ((s.Bins.len : Int) ≤ (25:Int)))
    (K [.one (.bool (decide ((t.len : Int) ≤ (50:Int))))])
    (K [.one (.bool false)])))
theorem f15_stepeq0 (K : List PA → Prop) (X0 : St → Prop) (s : Sky) (t : (Sl RangeRow)) (iv0 : Int) :
  vc Try.prog G15 ann15 (cd (cdF Try.f15 [1, 0, 1, 0]) [0]) (loopK Try.prog ann15 2 X0 (blockK 0 (sqK Try.prog G15 ann15 (cdF Try.f15 [1, 1]) (bodyK Try.prog Try.f15 K)))) (f15_g0 s t iv0) =
  f15_step0 K X0 s t iv0 := by kernel_rfl
theorem f15_loop0 (K : List PA → Prop) (s : Sky) (t : (Sl RangeRow)) (iv0 : Int)
  (h : ∀ X0 : St → Prop, (∀ (iv0 : Int), f15_step0 K X0 s t iv0 → X0 (f15_g0 s t iv0)) → X0 (f15_g0 s t iv0)) :
  f15_at0 K s t iv0 := by
  have e : f15_at0 K s t iv0 = (∀ X : St → Prop, (∀ s, vc Try.prog G15 ann15 (cd (cdF Try.f15 [1, 0, 1, 0]) [0]) (loopK Try.prog ann15 2 X (blockK 0 (sqK Try.prog G15 ann15 (cdF Try.f15 [1, 1]) (bodyK Try.prog Try.f15 K)))) s → X s) → X (f15_g0 s t iv0)) := by kernel_rfl
  refine ofEq e ?_
  intro X hX
  refine h X ?_
  intro iv0 hs
  refine hX _ ?_
  have e2 := f15_stepeq0 K X s t iv0
  rw [e2]
  exact hs
abbrev R15 := Bool
abbrev e15 (r : Bool) : List PA := [.one (.bool r)]
attribute [irreducible] f15_at0
def s15_st0 (s : Sky) (t : (Sl RangeRow)) (S0 : Int → Bool) (iv0 : Int) : Bool :=
  (cond (decide (iv0 < (s.Bins.len : Int)))
   (cond (decide (((s.Bins.get iv0.toNat).len : Int) > (50:Int)))
    false
    (S0 (w64 (iv0 + (1:Int)))))
   (cond (decide ((s.Bins.len : Int) ≤ (25:Int)))
    (decide ((t.len : Int) ≤ (50:Int)))
    false))
def p15_st0 (s : Sky) (t : (Sl RangeRow)) (P0 : Int → Bool) (iv0 : Int) : Bool :=
  (cond (decide (iv0 < (s.Bins.len : Int)))
   (decide ((0 ≤ iv0 ∧ iv0 < (s.Bins.len : Int))) &&
   (cond (decide (((s.Bins.get iv0.toNat).len : Int) > (50:Int)))
    true
    (P0 (w64 (iv0 + (1:Int))))))
   true)
def s15_lp0 (s : Sky) (t : (Sl RangeRow)) : Nat → Int → Bool
  | 0 => fun _ => default
  | k + 1 => s15_st0 s t (s15_lp0 s t k)
def p15_lp0 (s : Sky) (t : (Sl RangeRow)) : Nat → Int → Bool
  | 0 => fun _ => false
  | k + 1 => p15_st0 s t (p15_lp0 s t k)
def s15_at0 (s : Sky) (t : (Sl RangeRow)) (iv0 : Int) : Bool := s15_lp0 s t Fuel iv0
def p15_at0 (s : Sky) (t : (Sl RangeRow)) (iv0 : Int) : Bool := p15_lp0 s t Fuel iv0
theorem q15_at0 (K : List PA → Prop) (s : Sky) (t : (Sl RangeRow)) (iv0 : Int) (hs : p15_at0 s t iv0 = true) (hk : K (e15 (s15_at0 s t iv0))) : f15_at0 K s t iv0 := by
  refine f15_loop0 K s t iv0 ?_
  intro X0 hstep
  have key : ∀ (k : Nat) (iv0 : Int), p15_lp0 s t k iv0 = true → K (e15 (s15_lp0 s t k iv0)) → X0 (f15_g0 s t iv0) := by
    intro k
    induction k with
    | zero => intro iv0 hs; exact absurd hs Bool.false_ne_true
    | succ k ih =>
      intro iv0 hs hk
      refine hstep iv0 ?_
      have hs : p15_st0 s t (p15_lp0 s t k) iv0 = true := hs
      have hk : K (e15 (s15_st0 s t (s15_lp0 s t k) iv0)) := hk
      unfold p15_st0 at hs
      unfold s15_st0 at hk
      generalize s15_lp0 s t k = S0 at hk ih
      generalize p15_lp0 s t k = P0 at hs ih
      have hX0 := ih
      exact (condB_go (K := fun r => K (e15 r))
       (fun hs hk => (andK hs fun hc hs => ⟨hc, (condB_go (K := fun r => K (e15 r))
        (fun hs hk => hk)
        (fun hs hk => (hX0 (w64 (iv0 + (1:Int))) hs hk)) hs hk)⟩))
       (fun hs hk => (condP_gt (K := fun r => K (e15 r))
        (fun hk => hk)
        (fun hk => hk) hk)) hs hk)
  exact key _ iv0 hs hk
def s15 (s : Sky) (t : (Sl RangeRow)) : Bool :=
  (s15_at0 s t (0:Int))
def p15 (s : Sky) (t : (Sl RangeRow)) : Bool :=
  (p15_at0 s t (0:Int))
theorem q15 (s : Sky) (t : (Sl RangeRow)) (K : List PA → Prop) (hs : p15 s t = true) (hk : K (e15 (s15 s t))) : vcFun Try.prog G15 ann15 15 [.agg [.int .i64 s.Parts, .sl s.Bins.len 1 (fun i => enc_32 (s.Bins.get i)), .int .i64 s.Beta.Low, .int .i64 s.Beta.High, .int .i64 s.Alpha.Low, .int .i64 s.Alpha.High], .one (.sl t.len 3 (fun i => enc_42 (t.get i)))] K := by
  refine ofEq (f15_top s t K) ?_
  unfold p15 at hs
  unfold s15 at hk
  exact (q15_at0 K s t (0:Int) hs hk)
def ctr15 : List PA → COut
  | [.agg [.int .i64 a0_Parts, .sl a0_Bins_n a0_Bins_s a0_Bins_g, .int .i64 a0_Beta_Low, .int .i64 a0_Beta_High, .int .i64 a0_Alpha_Low, .int .i64 a0_Alpha_High], .one (.sl a1_n a1_s a1_g)] => .det (IsE enc_32 1 a0_Bins_s a0_Bins_g ∧ IsE enc_42 3 a1_s a1_g ∧ p15 (⟨a0_Parts, (⟨a0_Bins_n, decF_32 a0_Bins_g⟩ : (Sl (Sl FluxRow))), (⟨a0_Beta_Low, a0_Beta_High⟩ : Span), (⟨a0_Alpha_Low, a0_Alpha_High⟩ : Span)⟩ : Sky) (⟨a1_n, decF_42 a1_g⟩ : (Sl RangeRow)) = true) [.one (.bool (s15 (⟨a0_Parts, (⟨a0_Bins_n, decF_32 a0_Bins_g⟩ : (Sl (Sl FluxRow))), (⟨a0_Beta_Low, a0_Beta_High⟩ : Span), (⟨a0_Alpha_Low, a0_Alpha_High⟩ : Span)⟩ : Sky) (⟨a1_n, decF_42 a1_g⟩ : (Sl RangeRow))))]
  | _ => .no
theorem call15 : Callable Try.prog 15 := ⟨_, rfl, rfl, by kernel_rfl⟩
theorem ok15 : Ok Try.prog 15 ctr15 := ok_tab okT15 call15 fun args K h => by
  unfold ctr15 at h
  split at h
  · rename_i a0_Parts a0_Bins_n a0_Bins_s a0_Bins_g a0_Beta_Low a0_Beta_High a0_Alpha_Low a0_Alpha_High a1_n a1_s a1_g
    obtain ⟨⟨⟨rfl, a0_Bins_f, rfl⟩, ⟨rfl, a1_f, rfl⟩, hs⟩, hk⟩ := h
    try rw [decF_enc_32 a0_Bins_f] at hs
    try rw [decF_enc_32 a0_Bins_f] at hk
    try rw [decF_enc_42 a1_f] at hs
    try rw [decF_enc_42 a1_f] at hk
    exact ⟨(fun _ _ => []), (fun _ => false), ann15, q15 (⟨a0_Parts, (⟨a0_Bins_n, a0_Bins_f⟩ : (Sl (Sl FluxRow))), (⟨a0_Beta_Low, a0_Beta_High⟩ : Span), (⟨a0_Alpha_Low, a0_Alpha_High⟩ : Span)⟩ : Sky) (⟨a1_n, a1_f⟩ : (Sl RangeRow)) K hs hk⟩
  · exact h.elim
abbrev T29 : Tabs := Tabs.nil
theorem okT29 : TabsOk Try.prog T29 := TabsOk.nil
abbrev G29 : Ctrs := csm T29 (fun _ _ => []) (fun _ => false)
def ann29 : Ann := ⟨24, [(0, ⟨[1, 2, 3], [3], [], [], []⟩), (1, ⟨[6], [], [], [], []⟩)],
  [],
  [],
  [], []⟩
theorem f29_top (s : Span) (low : Int) (high : Int) (K : List PA → Prop) :
  vcFun Try.prog G29 ann29 29 [.agg [.int .i64 s.Low, .int .i64 s.High], .one (.int .i64 low), .one (.int .i64 high)] K =
  (condP (decide (s.Low ≥ low))
   (condP (decide (s.Low ≤ s.High))
    (K [.one (.bool (decide (s.High ≤ high)))])
    (K [.one (.bool false)]))
   (K [.one (.bool false)])) := by kernel_rfl
abbrev R29 := Bool
abbrev e29 (r : Bool) : List PA := [.one (.bool r)]
def s29 (s : Span) (low : Int) (high : Int) : Bool :=
  (cond (decide (s.Low ≥ low))
   (cond (decide (s.Low ≤ s.High))
    (decide (s.High ≤ high))
    false)
   false)
theorem q29 (s : Span) (low : Int) (high : Int) (K : List PA → Prop) (hk : K (e29 (s29 s low high))) : vcFun Try.prog G29 ann29 29 [.agg [.int .i64 s.Low, .int .i64 s.High], .one (.int .i64 low), .one (.int .i64 high)] K := by
  refine ofEq (f29_top s low high K) ?_
  unfold s29 at hk
  exact (condP_gt (K := fun r => K (e29 r))
   (fun hk => (condP_gt (K := fun r => K (e29 r))
    (fun hk => hk)
    (fun hk => hk) hk))
   (fun hk => hk) hk)
def ctr29 : List PA → COut
  | [.agg [.int .i64 a0_Low, .int .i64 a0_High], .one (.int .i64 a1), .one (.int .i64 a2)] => .tot [.one (.bool (s29 (⟨a0_Low, a0_High⟩ : Span) a1 a2))]
  | _ => .no
theorem call29 : Callable Try.prog 29 := ⟨_, rfl, rfl, by kernel_rfl⟩
theorem ok29 : Ok Try.prog 29 ctr29 := ok_tab okT29 call29 fun args K h => by
  unfold ctr29 at h
  split at h
  · rename_i a0_Low a0_High a1 a2
    have hk := h
    exact ⟨(fun _ _ => []), (fun _ => false), ann29, q29 (⟨a0_Low, a0_High⟩ : Span) a1 a2 K hk⟩
  · exact h.elim
abbrev T58 : Tabs := Tabs.nil
theorem okT58 : TabsOk Try.prog T58 := TabsOk.nil
abbrev G58 : Ctrs := csm T58 (fun _ _ => []) (fun _ => false)
def ann58 : Ann := ⟨15, [(0, ⟨[0, 1, 2], [], [], [], []⟩), (1, ⟨[6], [], [], [], []⟩)],
  [],
  [],
  [], []⟩
theorem f58_top (x : Int) (low : Int) (high : Int) (K : List PA → Prop) :
  vcFun Try.prog G58 ann58 58 [.one (.int .i64 x), .one (.int .i64 low), .one (.int .i64 high)] K =
  (condP (decide (x ≥ low))
   (K [.one (.bool (decide (x ≤ high)))])
   (K [.one (.bool false)])) := by kernel_rfl
abbrev R58 := Bool
abbrev e58 (r : Bool) : List PA := [.one (.bool r)]
def s58 (x : Int) (low : Int) (high : Int) : Bool :=
  (cond (decide (x ≥ low))
   (decide (x ≤ high))
   false)
theorem q58 (x : Int) (low : Int) (high : Int) (K : List PA → Prop) (hk : K (e58 (s58 x low high))) : vcFun Try.prog G58 ann58 58 [.one (.int .i64 x), .one (.int .i64 low), .one (.int .i64 high)] K := by
  refine ofEq (f58_top x low high K) ?_
  unfold s58 at hk
  exact (condP_gt (K := fun r => K (e58 r))
   (fun hk => hk)
   (fun hk => hk) hk)
def ctr58 : List PA → COut
  | [.one (.int .i64 a0), .one (.int .i64 a1), .one (.int .i64 a2)] => .tot [.one (.bool (s58 a0 a1 a2))]
  | _ => .no
theorem call58 : Callable Try.prog 58 := ⟨_, rfl, rfl, by kernel_rfl⟩
theorem ok58 : Ok Try.prog 58 ctr58 := ok_tab okT58 call58 fun args K h => by
  unfold ctr58 at h
  split at h
  · rename_i a0 a1 a2
    have hk := h
    exact ⟨(fun _ _ => []), (fun _ => false), ann58, q58 a0 a1 a2 K hk⟩
  · exact h.elim
end Go.Proofs
namespace Go.Proofs
open Go Go.Pm
set_option maxRecDepth 100000
set_option linter.unusedVariables false
attribute [local irreducible] Go.Pm.vcFun Go.Pm.vc Go.Pm.vcIter
abbrev T59 : Tabs := ((Tabs.nil.addF 29 ctr29).addF 58 ctr58)
theorem okT59 : TabsOk Try.prog T59 := ((TabsOk.nil.addF ok29).addF ok58)
abbrev G59 : Ctrs := csm T59 (fun _ _ => []) (fun _ => false)
def ann59 : Ann := ⟨79, [(0, ⟨[0, 1], [], [], [], []⟩), (1, ⟨[0, 1, 5], [], [], [], []⟩), (2, ⟨[0, 1, 5, 10], [], [], [], []⟩), (3, ⟨[0, 1, 5], [], [], [], []⟩), (4, ⟨[0, 1, 5, 6], [6], [], [], []⟩), (5, ⟨[0, 1, 5, 68], [], [], [], []⟩), (6, ⟨[4], [], [], [], []⟩), (7, ⟨[4], [], [], [], []⟩)],
  [(2, ⟨[0, 1, 5], [], [], [], []⟩)],
  [(6, ⟨[0, 1, 5, 68], [], [], [], []⟩)],
  [], []⟩
def f59_g0 (parts : Int) (l_a1 : (Sl FluxRow)) (iv0 : Int) : St := ⟨[(0, .one (.c (.p (.int .i64 parts)))), (1, .one (.c (.p (.sl l_a1.len 3 (fun i => enc_44 (l_a1.get i)))))), (5, .one (.c (.p (.int .i64 iv0))))], [], []⟩
def f59_at0 (K : List PA → Prop) (parts : Int) (l_a1 : (Sl FluxRow)) (iv0 : Int) : Prop := vc Try.prog G59 ann59 (cdF Try.f59 [1, 0, 1, 0]) (blockK 0 (sqK Try.prog G59 ann59 (cdF Try.f59 [1, 1]) (bodyK Try.prog Try.f59 K))) (f59_g0 parts l_a1 iv0)
def f59_g1 (parts : Int) (l_a1 : (Sl FluxRow)) (iv1 : Int) (t68v1 : Bool) : St := ⟨[(0, .one (.c (.p (.int .i64 parts)))), (1, .one (.c (.p (.sl l_a1.len 3 (fun i => enc_44 (l_a1.get i)))))), (5, .one (.c (.p (.int .i64 iv1)))), (68, .one (.c (.p (.bool t68v1))))], [], []⟩
def f59_at1 (K : List PA → Prop) (X0 : St → Prop) (parts : Int) (l_a1 : (Sl FluxRow)) (iv1 : Int) (t68v1 : Bool) : Prop := vc Try.prog G59 ann59 (cdF Try.f59 [1, 0, 1, 0, 0, 1, 0, 0, 1, 1]) (blockK 1 (sqK Try.prog G59 ann59 (cdF Try.f59 [1, 0, 1, 0, 0, 1, 1]) (loopK Try.prog ann59 2 X0 (blockK 0 (sqK Try.prog G59 ann59 (cdF Try.f59 [1, 1]) (bodyK Try.prog Try.f59 K)))))) (f59_g1 parts l_a1 iv1 t68v1)
theorem f59_top (parts : Int) (l_a1 : (Sl FluxRow)) (K : List PA → Prop) :
  vcFun Try.prog G59 ann59 59 [.one (.int .i64 parts), .one (.sl l_a1.len 3 (fun i => enc_44 (l_a1.get i)))] K =
  (f59_at0 K parts l_a1 (0:Int)) := by kernel_rfl
def f59_step0 (K : List PA → Prop) (X0 : St → Prop) (parts : Int) (l_a1 : (Sl FluxRow)) (iv0 : Int) : Prop :=
  (condP (decide (iv0 < (l_a1.len : Int)))
   (((0 ≤ iv0 ∧ iv0 < (l_a1.len : Int))) ∧
   (condP (!(s58 ((l_a1.get iv0.toNat).Energy) (1:Int) (1000000:Int)))
    (f59_at1 K X0 parts l_a1 iv0 true)
    (condP (!(s29 ((l_a1.get iv0.toNat).Rate) (0:Int) parts))
     (f59_at1 K X0 parts l_a1 iv0 true)
     (condP (decide (iv0 > (0:Int)))
      (((0 ≤ (w64 (iv0 - (1:Int))) ∧ (w64 (iv0 - (1:Int))) < (l_a1.len : Int))) ∧
      (condP (decide ((l_a1.get iv0.toNat).Energy ≤ (l_a1.get ((w64 (iv0 - (1:Int))).toNat)).Energy))
       (f59_at1 K X0 parts l_a1 iv0 true)
       (((0 ≤ (w64 (iv0 - (1:Int))) ∧ (w64 (iv0 - (1:Int))) < (l_a1.len : Int))) ∧
       (condP (decide ((l_a1.get iv0.toNat).Rate.Low > (l_a1.get ((w64 (iv0 - (1:Int))).toNat)).Rate.Low))
        (f59_at1 K X0 parts l_a1 iv0 true)
        (((0 ≤ (w64 (iv0 - (1:Int))) ∧ (w64 (iv0 - (1:Int))) < (l_a1.len : Int))) ∧
        (f59_at1 K X0 parts l_a1 iv0 (decide ((l_a1.get iv0.toNat).Rate.High > (l_a1.get ((w64 (iv0 - (1:Int))).toNat)).Rate.High))))))))
      (f59_at1 K X0 parts l_a1 iv0 false)))))
   (condP (s58 (l_a1.len : Int) (1:Int) (40:Int))
    (((0 ≤ (0:Int) ∧ (0:Int) < (l_a1.len : Int))) ∧
    (K [.one (.bool ((l_a1.get 0).Energy == (1:Int)))]))
    (K [.one (.bool false)])))
theorem f59_stepeq0 (K : List PA → Prop) (X0 : St → Prop) (parts : Int) (l_a1 : (Sl FluxRow)) (iv0 : Int) :
  vc Try.prog G59 ann59 (cd (cdF Try.f59 [1, 0, 1, 0]) [0]) (loopK Try.prog ann59 2 X0 (blockK 0 (sqK Try.prog G59 ann59 (cdF Try.f59 [1, 1]) (bodyK Try.prog Try.f59 K)))) (f59_g0 parts l_a1 iv0) =
  f59_step0 K X0 parts l_a1 iv0 := by kernel_rfl
theorem f59_loop0 (K : List PA → Prop) (parts : Int) (l_a1 : (Sl FluxRow)) (iv0 : Int)
  (h : ∀ X0 : St → Prop, (∀ (iv0 : Int), f59_step0 K X0 parts l_a1 iv0 → X0 (f59_g0 parts l_a1 iv0)) → X0 (f59_g0 parts l_a1 iv0)) :
  f59_at0 K parts l_a1 iv0 := by
  have e : f59_at0 K parts l_a1 iv0 = (∀ X : St → Prop, (∀ s, vc Try.prog G59 ann59 (cd (cdF Try.f59 [1, 0, 1, 0]) [0]) (loopK Try.prog ann59 2 X (blockK 0 (sqK Try.prog G59 ann59 (cdF Try.f59 [1, 1]) (bodyK Try.prog Try.f59 K)))) s → X s) → X (f59_g0 parts l_a1 iv0)) := by kernel_rfl
  refine ofEq e ?_
  intro X hX
  refine h X ?_
  intro iv0 hs
  refine hX _ ?_
  have e2 := f59_stepeq0 K X parts l_a1 iv0
  rw [e2]
  exact hs
theorem f59_eq1 (K : List PA → Prop) (X0 : St → Prop) (parts : Int) (l_a1 : (Sl FluxRow)) (iv1 : Int) (t68v1 : Bool) :
  f59_at1 K X0 parts l_a1 iv1 t68v1 =
  (condP t68v1
   (K [.one (.bool false)])
   (X0 (f59_g0 parts l_a1 (w64 (iv1 + (1:Int)))))) := by kernel_rfl
abbrev R59 := Bool
abbrev e59 (r : Bool) : List PA := [.one (.bool r)]
attribute [irreducible] f59_at0 f59_at1
def s59_at1 (S0 : Int → Bool) (parts : Int) (l_a1 : (Sl FluxRow)) (iv1 : Int) (t68v1 : Bool) : Bool :=
  (cond t68v1
   false
   (S0 (w64 (iv1 + (1:Int)))))
def p59_at1 (P0 : Int → Bool) (parts : Int) (l_a1 : (Sl FluxRow)) (iv1 : Int) (t68v1 : Bool) : Bool :=
  (cond t68v1
   true
   (P0 (w64 (iv1 + (1:Int)))))
theorem q59_at1 (K : List PA → Prop) (parts : Int) (l_a1 : (Sl FluxRow))
  (X0 : St → Prop) (P0 : Int → Bool) (S0 : Int → Bool)
  (hX0 : ∀ (iv0 : Int), P0 iv0 = true → K (e59 (S0 iv0)) → X0 (f59_g0 parts l_a1 iv0)) (iv1 : Int) (t68v1 : Bool) (hs : p59_at1 P0 parts l_a1 iv1 t68v1 = true) (hk : K (e59 (s59_at1 S0 parts l_a1 iv1 t68v1))) : f59_at1 K X0 parts l_a1 iv1 t68v1 := by
  refine ofEq (f59_eq1 K X0 parts l_a1 iv1 t68v1) ?_
  unfold p59_at1 at hs
  unfold s59_at1 at hk
  exact (condB_go (K := fun r => K (e59 r))
   (fun hs hk => hk)
   (fun hs hk => (hX0 (w64 (iv1 + (1:Int))) hs hk)) hs hk)
def s59_st0 (parts : Int) (l_a1 : (Sl FluxRow)) (S0 : Int → Bool) (iv0 : Int) : Bool :=
  (cond (decide (iv0 < (l_a1.len : Int)))
   (cond (!(s58 ((l_a1.get iv0.toNat).Energy) (1:Int) (1000000:Int)))
    (s59_at1 S0 parts l_a1 iv0 true)
    (cond (!(s29 ((l_a1.get iv0.toNat).Rate) (0:Int) parts))
     (s59_at1 S0 parts l_a1 iv0 true)
     (cond (decide (iv0 > (0:Int)))
      (cond (decide ((l_a1.get iv0.toNat).Energy ≤ (l_a1.get ((w64 (iv0 - (1:Int))).toNat)).Energy))
       (s59_at1 S0 parts l_a1 iv0 true)
       (cond (decide ((l_a1.get iv0.toNat).Rate.Low > (l_a1.get ((w64 (iv0 - (1:Int))).toNat)).Rate.Low))
        (s59_at1 S0 parts l_a1 iv0 true)
        (s59_at1 S0 parts l_a1 iv0 (decide ((l_a1.get iv0.toNat).Rate.High > (l_a1.get ((w64 (iv0 - (1:Int))).toNat)).Rate.High)))))
      (s59_at1 S0 parts l_a1 iv0 false))))
   (cond (s58 (l_a1.len : Int) (1:Int) (40:Int))
    ((l_a1.get 0).Energy == (1:Int))
    false))
def p59_st0 (parts : Int) (l_a1 : (Sl FluxRow)) (P0 : Int → Bool) (iv0 : Int) : Bool :=
  (cond (decide (iv0 < (l_a1.len : Int)))
   (decide ((0 ≤ iv0 ∧ iv0 < (l_a1.len : Int))) &&
   (cond (!(s58 ((l_a1.get iv0.toNat).Energy) (1:Int) (1000000:Int)))
    (p59_at1 P0 parts l_a1 iv0 true)
    (cond (!(s29 ((l_a1.get iv0.toNat).Rate) (0:Int) parts))
     (p59_at1 P0 parts l_a1 iv0 true)
     (cond (decide (iv0 > (0:Int)))
      (decide ((0 ≤ (w64 (iv0 - (1:Int))) ∧ (w64 (iv0 - (1:Int))) < (l_a1.len : Int))) &&
      (cond (decide ((l_a1.get iv0.toNat).Energy ≤ (l_a1.get ((w64 (iv0 - (1:Int))).toNat)).Energy))
       (p59_at1 P0 parts l_a1 iv0 true)
       (decide ((0 ≤ (w64 (iv0 - (1:Int))) ∧ (w64 (iv0 - (1:Int))) < (l_a1.len : Int))) &&
       (cond (decide ((l_a1.get iv0.toNat).Rate.Low > (l_a1.get ((w64 (iv0 - (1:Int))).toNat)).Rate.Low))
        (p59_at1 P0 parts l_a1 iv0 true)
        (decide ((0 ≤ (w64 (iv0 - (1:Int))) ∧ (w64 (iv0 - (1:Int))) < (l_a1.len : Int))) &&
        (p59_at1 P0 parts l_a1 iv0 (decide ((l_a1.get iv0.toNat).Rate.High > (l_a1.get ((w64 (iv0 - (1:Int))).toNat)).Rate.High))))))))
      (p59_at1 P0 parts l_a1 iv0 false)))))
   (cond (s58 (l_a1.len : Int) (1:Int) (40:Int))
    (decide ((0 ≤ (0:Int) ∧ (0:Int) < (l_a1.len : Int))) &&
    true)
    true))
def s59_lp0 (parts : Int) (l_a1 : (Sl FluxRow)) : Nat → Int → Bool
  | 0 => fun _ => default
  | k + 1 => s59_st0 parts l_a1 (s59_lp0 parts l_a1 k)
def p59_lp0 (parts : Int) (l_a1 : (Sl FluxRow)) : Nat → Int → Bool
  | 0 => fun _ => false
  | k + 1 => p59_st0 parts l_a1 (p59_lp0 parts l_a1 k)
def s59_at0 (parts : Int) (l_a1 : (Sl FluxRow)) (iv0 : Int) : Bool := s59_lp0 parts l_a1 Fuel iv0
def p59_at0 (parts : Int) (l_a1 : (Sl FluxRow)) (iv0 : Int) : Bool := p59_lp0 parts l_a1 Fuel iv0
theorem q59_at0 (K : List PA → Prop) (parts : Int) (l_a1 : (Sl FluxRow)) (iv0 : Int) (hs : p59_at0 parts l_a1 iv0 = true) (hk : K (e59 (s59_at0 parts l_a1 iv0))) : f59_at0 K parts l_a1 iv0 := by
  refine f59_loop0 K parts l_a1 iv0 ?_
  intro X0 hstep
  have key : ∀ (k : Nat) (iv0 : Int), p59_lp0 parts l_a1 k iv0 = true → K (e59 (s59_lp0 parts l_a1 k iv0)) → X0 (f59_g0 parts l_a1 iv0) := by
    intro k
    induction k with
    | zero => intro iv0 hs; exact absurd hs Bool.false_ne_true
    | succ k ih =>
      intro iv0 hs hk
      refine hstep iv0 ?_
      have hs : p59_st0 parts l_a1 (p59_lp0 parts l_a1 k) iv0 = true := hs
      have hk : K (e59 (s59_st0 parts l_a1 (s59_lp0 parts l_a1 k) iv0)) := hk
      unfold p59_st0 at hs
      unfold s59_st0 at hk
      generalize s59_lp0 parts l_a1 k = S0 at hk ih
      generalize p59_lp0 parts l_a1 k = P0 at hs ih
      have hX0 := ih
      exact (condB_go (K := fun r => K (e59 r))
       (fun hs hk => (andK hs fun hc hs => ⟨hc, (condB_go (K := fun r => K (e59 r))
        (fun hs hk => (q59_at1 K parts l_a1 X0 P0 S0 hX0 iv0 true hs hk))
        (fun hs hk => (condB_go (K := fun r => K (e59 r))
         (fun hs hk => (q59_at1 K parts l_a1 X0 P0 S0 hX0 iv0 true hs hk))
         (fun hs hk => (condB_go (K := fun r => K (e59 r))
          (fun hs hk => (andK hs fun hc hs => ⟨hc, (condB_go (K := fun r => K (e59 r))
           (fun hs hk => (q59_at1 K parts l_a1 X0 P0 S0 hX0 iv0 true hs hk))
           (fun hs hk => (andK hs fun hc hs => ⟨hc, (condB_go (K := fun r => K (e59 r))
            (fun hs hk => (q59_at1 K parts l_a1 X0 P0 S0 hX0 iv0 true hs hk))
            (fun hs hk => (andK hs fun hc hs => ⟨hc, (q59_at1 K parts l_a1 X0 P0 S0 hX0 iv0 (decide ((l_a1.get iv0.toNat).Rate.High > (l_a1.get ((w64 (iv0 - (1:Int))).toNat)).Rate.High)) hs hk)⟩)) hs hk)⟩)) hs hk)⟩))
          (fun hs hk => (q59_at1 K parts l_a1 X0 P0 S0 hX0 iv0 false hs hk)) hs hk)) hs hk)) hs hk)⟩))
       (fun hs hk => (condB_go (K := fun r => K (e59 r))
        (fun hs hk => (andK hs fun hc hs => ⟨hc, hk⟩))
        (fun hs hk => hk) hs hk)) hs hk)
  exact key _ iv0 hs hk
def s59 (parts : Int) (l_a1 : (Sl FluxRow)) : Bool :=
  (s59_at0 parts l_a1 (0:Int))
def p59 (parts : Int) (l_a1 : (Sl FluxRow)) : Bool :=
  (p59_at0 parts l_a1 (0:Int))
theorem q59 (parts : Int) (l_a1 : (Sl FluxRow)) (K : List PA → Prop) (hs : p59 parts l_a1 = true) (hk : K (e59 (s59 parts l_a1))) : vcFun Try.prog G59 ann59 59 [.one (.int .i64 parts), .one (.sl l_a1.len 3 (fun i => enc_44 (l_a1.get i)))] K := by
  refine ofEq (f59_top parts l_a1 K) ?_
  unfold p59 at hs
  unfold s59 at hk
  exact (q59_at0 K parts l_a1 (0:Int) hs hk)
def ctr59 : List PA → COut
  | [.one (.int .i64 a0), .one (.sl a1_n a1_s a1_g)] => .det (IsE enc_44 3 a1_s a1_g ∧ p59 a0 (⟨a1_n, decF_44 a1_g⟩ : (Sl FluxRow)) = true) [.one (.bool (s59 a0 (⟨a1_n, decF_44 a1_g⟩ : (Sl FluxRow))))]
  | _ => .no
theorem call59 : Callable Try.prog 59 := ⟨_, rfl, rfl, by kernel_rfl⟩
theorem ok59 : Ok Try.prog 59 ctr59 := ok_tab okT59 call59 fun args K h => by
  unfold ctr59 at h
  split at h
  · rename_i a0 a1_n a1_s a1_g
    obtain ⟨⟨⟨rfl, a1_f, rfl⟩, hs⟩, hk⟩ := h
    try rw [decF_enc_44 a1_f] at hs
    try rw [decF_enc_44 a1_f] at hk
    exact ⟨(fun _ _ => []), (fun _ => false), ann59, q59 a0 (⟨a1_n, a1_f⟩ : (Sl FluxRow)) K hs hk⟩
  · exact h.elim
abbrev T16 : Tabs := (((Tabs.nil.addF 29 ctr29).addF 58 ctr58).addF 59 ctr59)
theorem okT16 : TabsOk Try.prog T16 := (((TabsOk.nil.addF ok29).addF ok58).addF ok59)
abbrev G16 : Ctrs := csm T16 (fun _ _ => []) (fun _ => false)
def ann16 : Ann := ⟨43, [(0, ⟨[1], [1], [], [], []⟩), (1, ⟨[1, 26], [1], [], [], []⟩), (2, ⟨[2], [], [], [], []⟩), (3, ⟨[1, 3], [1], [], [], []⟩), (4, ⟨[1, 3, 31], [1], [], [], []⟩), (5, ⟨[1, 3], [1], [], [], []⟩), (6, ⟨[1, 3, 42], [1], [], [], []⟩), (7, ⟨[2], [], [], [], []⟩), (8, ⟨[2], [], [], [], []⟩)],
  [(4, ⟨[1, 3], [1], [], [], []⟩)],
  [(2, ⟨[1, 26], [1], [], [], []⟩), (3, ⟨[1], [1], [], [], []⟩), (7, ⟨[1, 3, 42], [1], [], [], []⟩)],
  [], []⟩
def f16_g0 (s : Sky) (t26v0 : Bool) (s_1v0_n : Nat) (s_1v0_g : Nat → List PV) : St := ⟨[(1, .one (.c (.ptr 1 0))), (26, .one (.c (.p (.bool t26v0))))], [(1, .box 26 [.p (.int .i64 s.Parts), .p (.sl s_1v0_n 1 s_1v0_g), .p (.int .i64 s.Beta.Low), .p (.int .i64 s.Beta.High), .p (.int .i64 s.Alpha.Low), .p (.int .i64 s.Alpha.High)])], []⟩
def f16_at0 (K : List PA → Prop) (s : Sky) (t26v0 : Bool) (s_1v0_n : Nat) (s_1v0_g : Nat → List PV) : Prop := vc Try.prog G16 ann16 (cdF Try.f16 [1, 0, 1]) (sqK Try.prog G16 ann16 (cdF Try.f16 [1, 1]) (bodyK Try.prog Try.f16 K)) (f16_g0 s t26v0 s_1v0_n s_1v0_g)
def f16_g1 (s : Sky) (s_1v1_n : Nat) (s_1v1_g : Nat → List PV) : St := ⟨[(1, .one (.c (.ptr 1 0)))], [(1, .box 26 [.p (.int .i64 s.Parts), .p (.sl s_1v1_n 1 s_1v1_g), .p (.int .i64 s.Beta.Low), .p (.int .i64 s.Beta.High), .p (.int .i64 s.Alpha.Low), .p (.int .i64 s.Alpha.High)])], []⟩
def f16_at1 (K : List PA → Prop) (s : Sky) (s_1v1_n : Nat) (s_1v1_g : Nat → List PV) : Prop := vc Try.prog G16 ann16 (cdF Try.f16 [1, 1]) (bodyK Try.prog Try.f16 K) (f16_g1 s s_1v1_n s_1v1_g)
def f16_g2 (s : Sky) (iv2 : Int) (s_1v2_n : Nat) (s_1v2_g : Nat → List PV) : St := ⟨[(1, .one (.c (.ptr 1 0))), (3, .one (.c (.p (.int .i64 iv2))))], [(1, .box 26 [.p (.int .i64 s.Parts), .p (.sl s_1v2_n 1 s_1v2_g), .p (.int .i64 s.Beta.Low), .p (.int .i64 s.Beta.High), .p (.int .i64 s.Alpha.Low), .p (.int .i64 s.Alpha.High)])], []⟩
def f16_at2 (K : List PA → Prop) (s : Sky) (iv2 : Int) (s_1v2_n : Nat) (s_1v2_g : Nat → List PV) : Prop := vc Try.prog G16 ann16 (cdF Try.f16 [1, 1, 0, 1, 0]) (blockK 0 (sqK Try.prog G16 ann16 (cdF Try.f16 [1, 1, 1]) (bodyK Try.prog Try.f16 K))) (f16_g2 s iv2 s_1v2_n s_1v2_g)
def f16_g3 (s : Sky) (iv3 : Int) (t42v3 : Bool) (s_1v3_n : Nat) (s_1v3_g : Nat → List PV) : St := ⟨[(1, .one (.c (.ptr 1 0))), (3, .one (.c (.p (.int .i64 iv3)))), (42, .one (.c (.p (.bool t42v3))))], [(1, .box 26 [.p (.int .i64 s.Parts), .p (.sl s_1v3_n 1 s_1v3_g), .p (.int .i64 s.Beta.Low), .p (.int .i64 s.Beta.High), .p (.int .i64 s.Alpha.Low), .p (.int .i64 s.Alpha.High)])], []⟩
def f16_at3 (K : List PA → Prop) (X2 : St → Prop) (s : Sky) (iv3 : Int) (t42v3 : Bool) (s_1v3_n : Nat) (s_1v3_g : Nat → List PV) : Prop := vc Try.prog G16 ann16 (cdF Try.f16 [1, 1, 0, 1, 0, 0, 1, 0, 0, 1]) (blockK 1 (sqK Try.prog G16 ann16 (cdF Try.f16 [1, 1, 0, 1, 0, 0, 1, 1]) (loopK Try.prog ann16 4 X2 (blockK 0 (sqK Try.prog G16 ann16 (cdF Try.f16 [1, 1, 1]) (bodyK Try.prog Try.f16 K)))))) (f16_g3 s iv3 t42v3 s_1v3_n s_1v3_g)
theorem f16_top (s : Sky) (K : List PA → Prop) :
  vcFun Try.prog G16 ann16 16 [.agg [.int .i64 s.Parts, .sl s.Bins.len 1 (fun i => enc_32 (s.Bins.get i)), .int .i64 s.Beta.Low, .int .i64 s.Beta.High, .int .i64 s.Alpha.Low, .int .i64 s.Alpha.High]] K =
  (condP (!(s58 s.Parts (2:Int) (1000000:Int)))
   (f16_at0 K s true s.Bins.len (fun i => enc_32 (s.Bins.get i)))
   (condP (!(s58 (s.Bins.len : Int) (1:Int) (20:Int)))
    (f16_at0 K s true s.Bins.len (fun i => enc_32 (s.Bins.get i)))
    (condP (!(s29 s.Beta (-100:Int) (100:Int)))
     (f16_at0 K s true s.Bins.len (fun i => enc_32 (s.Bins.get i)))
     (f16_at0 K s (!(s29 s.Alpha (-100:Int) (100:Int))) s.Bins.len (fun i => enc_32 (s.Bins.get i)))))) := by kernel_rfl
theorem f16_eq0 (K : List PA → Prop) (s : Sky) (t26v0 : Bool) (s_1v0 : (Sl (Sl FluxRow))) :
  f16_at0 K s t26v0 s_1v0.len (fun i => enc_32 (s_1v0.get i)) =
  (condP t26v0
   (K [.one (.bool false)])
   (f16_at1 K s s_1v0.len (fun i => enc_32 (s_1v0.get i)))) := by kernel_rfl
theorem f16_eq1 (K : List PA → Prop) (s : Sky) (s_1v1 : (Sl (Sl FluxRow))) :
  f16_at1 K s s_1v1.len (fun i => enc_32 (s_1v1.get i)) =
  (f16_at2 K s (0:Int) s_1v1.len (fun i => enc_32 (s_1v1.get i))) := by kernel_rfl
def f16_step2 (K : List PA → Prop) (X2 : St → Prop) (s : Sky) (iv2 : Int) (s_1v2 : (Sl (Sl FluxRow))) : Prop :=
  (condP (decide (iv2 < (s_1v2.len : Int)))
   (((0 ≤ iv2 ∧ iv2 < (s_1v2.len : Int))) ∧
   ((IsE enc_44 3 3 (fun i => enc_44 ((s_1v2.get iv2.toNat).get i)) ∧ (p59 s.Parts (s_1v2.get iv2.toNat) = true)) ∧
   (f16_at3 K X2 s iv2 (!(s59 s.Parts (s_1v2.get iv2.toNat))) s_1v2.len (fun i => enc_32 (s_1v2.get i)))))
   (K [.one (.bool true)]))
theorem f16_stepeq2 (K : List PA → Prop) (X2 : St → Prop) (s : Sky) (iv2 : Int) (s_1v2 : (Sl (Sl FluxRow))) :
  vc Try.prog G16 ann16 (cd (cdF Try.f16 [1, 1, 0, 1, 0]) [0]) (loopK Try.prog ann16 4 X2 (blockK 0 (sqK Try.prog G16 ann16 (cdF Try.f16 [1, 1, 1]) (bodyK Try.prog Try.f16 K)))) (f16_g2 s iv2 s_1v2.len (fun i => enc_32 (s_1v2.get i))) =
  f16_step2 K X2 s iv2 s_1v2 := by kernel_rfl
theorem f16_loop2 (K : List PA → Prop) (s : Sky) (iv2 : Int) (s_1v2_n : Nat) (s_1v2_g : Nat → List PV)
  (h : ∀ X2 : St → Prop, (∀ (iv2 : Int) (s_1v2 : (Sl (Sl FluxRow))), f16_step2 K X2 s iv2 s_1v2 → X2 (f16_g2 s iv2 s_1v2.len (fun i => enc_32 (s_1v2.get i)))) → X2 (f16_g2 s iv2 s_1v2_n s_1v2_g)) :
  f16_at2 K s iv2 s_1v2_n s_1v2_g := by
  have e : f16_at2 K s iv2 s_1v2_n s_1v2_g = (∀ X : St → Prop, (∀ s, vc Try.prog G16 ann16 (cd (cdF Try.f16 [1, 1, 0, 1, 0]) [0]) (loopK Try.prog ann16 4 X (blockK 0 (sqK Try.prog G16 ann16 (cdF Try.f16 [1, 1, 1]) (bodyK Try.prog Try.f16 K)))) s → X s) → X (f16_g2 s iv2 s_1v2_n s_1v2_g)) := by kernel_rfl
  refine ofEq e ?_
  intro X hX
  refine h X ?_
  intro iv2 s_1v2 hs
  refine hX _ ?_
  have e2 := f16_stepeq2 K X s iv2 s_1v2
  rw [e2]
  exact hs
theorem f16_eq3 (K : List PA → Prop) (X2 : St → Prop) (s : Sky) (iv3 : Int) (t42v3 : Bool) (s_1v3 : (Sl (Sl FluxRow))) :
  f16_at3 K X2 s iv3 t42v3 s_1v3.len (fun i => enc_32 (s_1v3.get i)) =
  (condP t42v3
   (K [.one (.bool false)])
   (X2 (f16_g2 s (w64 (iv3 + (1:Int))) s_1v3.len (fun i => enc_32 (s_1v3.get i))))) := by kernel_rfl
abbrev R16 := Bool
abbrev e16 (r : Bool) : List PA := [.one (.bool r)]
attribute [irreducible] f16_at0 f16_at1 f16_at2 f16_at3
def s16_at3 (S2 : Int → (Sl (Sl FluxRow)) → Bool) (s : Sky) (iv3 : Int) (t42v3 : Bool) (s_1v3 : (Sl (Sl FluxRow))) : Bool :=
  (cond t42v3
   false
   (S2 (w64 (iv3 + (1:Int))) s_1v3))
def p16_at3 (P2 : Int → (Sl (Sl FluxRow)) → Bool) (s : Sky) (iv3 : Int) (t42v3 : Bool) (s_1v3 : (Sl (Sl FluxRow))) : Bool :=
  (cond t42v3
   true
   (P2 (w64 (iv3 + (1:Int))) s_1v3))
theorem q16_at3 (K : List PA → Prop) (s : Sky)
  (X2 : St → Prop) (P2 : Int → (Sl (Sl FluxRow)) → Bool) (S2 : Int → (Sl (Sl FluxRow)) → Bool)
  (hX2 : ∀ (iv2 : Int) (s_1v2 : (Sl (Sl FluxRow))) (s_1v2_g : Nat → List PV) (s_1v2_h : s_1v2_g = fun i => enc_32 (s_1v2.get i)), P2 iv2 s_1v2 = true → K (e16 (S2 iv2 s_1v2)) → X2 (f16_g2 s iv2 s_1v2.len s_1v2_g)) (iv3 : Int) (t42v3 : Bool) (s_1v3 : (Sl (Sl FluxRow))) (s_1v3_g : Nat → List PV) (s_1v3_h : s_1v3_g = fun i => enc_32 (s_1v3.get i)) (hs : p16_at3 P2 s iv3 t42v3 s_1v3 = true) (hk : K (e16 (s16_at3 S2 s iv3 t42v3 s_1v3))) : f16_at3 K X2 s iv3 t42v3 s_1v3.len s_1v3_g := by
  subst s_1v3_h
  refine ofEq (f16_eq3 K X2 s iv3 t42v3 s_1v3) ?_
  unfold p16_at3 at hs
  unfold s16_at3 at hk
  exact (condB_go (K := fun r => K (e16 r))
   (fun hs hk => hk)
   (fun hs hk => (hX2 (w64 (iv3 + (1:Int))) s_1v3 (fun i => enc_32 (s_1v3.get i)) rfl hs hk)) hs hk)
def s16_st2 (s : Sky) (S2 : Int → (Sl (Sl FluxRow)) → Bool) (iv2 : Int) (s_1v2 : (Sl (Sl FluxRow))) : Bool :=
  (cond (decide (iv2 < (s_1v2.len : Int)))
   (s16_at3 S2 s iv2 (!(s59 s.Parts (s_1v2.get iv2.toNat))) s_1v2)
   true)
def p16_st2 (s : Sky) (P2 : Int → (Sl (Sl FluxRow)) → Bool) (iv2 : Int) (s_1v2 : (Sl (Sl FluxRow))) : Bool :=
  (cond (decide (iv2 < (s_1v2.len : Int)))
   (decide ((0 ≤ iv2 ∧ iv2 < (s_1v2.len : Int))) &&
   (decide ((p59 s.Parts (s_1v2.get iv2.toNat) = true)) &&
   (p16_at3 P2 s iv2 (!(s59 s.Parts (s_1v2.get iv2.toNat))) s_1v2)))
   true)
def s16_lp2 (s : Sky) : Nat → Int → (Sl (Sl FluxRow)) → Bool
  | 0 => fun _ _ => default
  | k + 1 => s16_st2 s (s16_lp2 s k)
def p16_lp2 (s : Sky) : Nat → Int → (Sl (Sl FluxRow)) → Bool
  | 0 => fun _ _ => false
  | k + 1 => p16_st2 s (p16_lp2 s k)
def s16_at2 (s : Sky) (iv2 : Int) (s_1v2 : (Sl (Sl FluxRow))) : Bool := s16_lp2 s Fuel iv2 s_1v2
def p16_at2 (s : Sky) (iv2 : Int) (s_1v2 : (Sl (Sl FluxRow))) : Bool := p16_lp2 s Fuel iv2 s_1v2
theorem q16_at2 (K : List PA → Prop) (s : Sky) (iv2 : Int) (s_1v2 : (Sl (Sl FluxRow))) (s_1v2_g : Nat → List PV) (s_1v2_h : s_1v2_g = fun i => enc_32 (s_1v2.get i)) (hs : p16_at2 s iv2 s_1v2 = true) (hk : K (e16 (s16_at2 s iv2 s_1v2))) : f16_at2 K s iv2 s_1v2.len s_1v2_g := by
  refine f16_loop2 K s iv2 s_1v2.len s_1v2_g ?_
  intro X2 hstep
  have key : ∀ (k : Nat) (iv2 : Int) (s_1v2 : (Sl (Sl FluxRow))) (s_1v2_g : Nat → List PV) (s_1v2_h : s_1v2_g = fun i => enc_32 (s_1v2.get i)), p16_lp2 s k iv2 s_1v2 = true → K (e16 (s16_lp2 s k iv2 s_1v2)) → X2 (f16_g2 s iv2 s_1v2.len s_1v2_g) := by
    intro k
    induction k with
    | zero => intro iv2 s_1v2 s_1v2_g s_1v2_h hs; exact absurd hs Bool.false_ne_true
    | succ k ih =>
      intro iv2 s_1v2 s_1v2_g s_1v2_h hs hk
      subst s_1v2_h
      refine hstep iv2 s_1v2 ?_
      have hs : p16_st2 s (p16_lp2 s k) iv2 s_1v2 = true := hs
      have hk : K (e16 (s16_st2 s (s16_lp2 s k) iv2 s_1v2)) := hk
      unfold p16_st2 at hs
      unfold s16_st2 at hk
      generalize s16_lp2 s k = S2 at hk ih
      generalize p16_lp2 s k = P2 at hs ih
      have hX2 := ih
      exact (condB_go (K := fun r => K (e16 r))
       (fun hs hk => (andK hs fun hc hs => ⟨hc, (andK hs fun hc hs => ⟨⟨isE, hc⟩, (q16_at3 K s X2 P2 S2 hX2 iv2 (!(s59 s.Parts (s_1v2.get iv2.toNat))) s_1v2 (fun i => enc_32 (s_1v2.get i)) rfl hs hk)⟩)⟩))
       (fun hs hk => hk) hs hk)
  exact key _ iv2 s_1v2 s_1v2_g s_1v2_h hs hk
def s16_at1 (s : Sky) (s_1v1 : (Sl (Sl FluxRow))) : Bool :=
  (s16_at2 s (0:Int) s_1v1)
def p16_at1 (s : Sky) (s_1v1 : (Sl (Sl FluxRow))) : Bool :=
  (p16_at2 s (0:Int) s_1v1)
theorem q16_at1 (K : List PA → Prop) (s : Sky) (s_1v1 : (Sl (Sl FluxRow))) (s_1v1_g : Nat → List PV) (s_1v1_h : s_1v1_g = fun i => enc_32 (s_1v1.get i)) (hs : p16_at1 s s_1v1 = true) (hk : K (e16 (s16_at1 s s_1v1))) : f16_at1 K s s_1v1.len s_1v1_g := by
  subst s_1v1_h
  refine ofEq (f16_eq1 K s s_1v1) ?_
  unfold p16_at1 at hs
  unfold s16_at1 at hk
  exact (q16_at2 K s (0:Int) s_1v1 (fun i => enc_32 (s_1v1.get i)) rfl hs hk)
def s16_at0 (s : Sky) (t26v0 : Bool) (s_1v0 : (Sl (Sl FluxRow))) : Bool :=
  (cond t26v0
   false
   (s16_at1 s s_1v0))
def p16_at0 (s : Sky) (t26v0 : Bool) (s_1v0 : (Sl (Sl FluxRow))) : Bool :=
  (cond t26v0
   true
   (p16_at1 s s_1v0))
theorem q16_at0 (K : List PA → Prop) (s : Sky) (t26v0 : Bool) (s_1v0 : (Sl (Sl FluxRow))) (s_1v0_g : Nat → List PV) (s_1v0_h : s_1v0_g = fun i => enc_32 (s_1v0.get i)) (hs : p16_at0 s t26v0 s_1v0 = true) (hk : K (e16 (s16_at0 s t26v0 s_1v0))) : f16_at0 K s t26v0 s_1v0.len s_1v0_g := by
  subst s_1v0_h
  refine ofEq (f16_eq0 K s t26v0 s_1v0) ?_
  unfold p16_at0 at hs
  unfold s16_at0 at hk
  exact (condB_go (K := fun r => K (e16 r))
   (fun hs hk => hk)
   (fun hs hk => (q16_at1 K s s_1v0 (fun i => enc_32 (s_1v0.get i)) rfl hs hk)) hs hk)
def s16 (s : Sky) : Bool :=
  (cond (!(s58 s.Parts (2:Int) (1000000:Int)))
   (s16_at0 s true s.Bins)
   (cond (!(s58 (s.Bins.len : Int) (1:Int) (20:Int)))
    (s16_at0 s true s.Bins)
    (cond (!(s29 s.Beta (-100:Int) (100:Int)))
     (s16_at0 s true s.Bins)
     (s16_at0 s (!(s29 s.Alpha (-100:Int) (100:Int))) s.Bins))))
def p16 (s : Sky) : Bool :=
  (cond (!(s58 s.Parts (2:Int) (1000000:Int)))
   (p16_at0 s true s.Bins)
   (cond (!(s58 (s.Bins.len : Int) (1:Int) (20:Int)))
    (p16_at0 s true s.Bins)
    (cond (!(s29 s.Beta (-100:Int) (100:Int)))
     (p16_at0 s true s.Bins)
     (p16_at0 s (!(s29 s.Alpha (-100:Int) (100:Int))) s.Bins))))
theorem q16 (s : Sky) (K : List PA → Prop) (hs : p16 s = true) (hk : K (e16 (s16 s))) : vcFun Try.prog G16 ann16 16 [.agg [.int .i64 s.Parts, .sl s.Bins.len 1 (fun i => enc_32 (s.Bins.get i)), .int .i64 s.Beta.Low, .int .i64 s.Beta.High, .int .i64 s.Alpha.Low, .int .i64 s.Alpha.High]] K := by
  refine ofEq (f16_top s K) ?_
  unfold p16 at hs
  unfold s16 at hk
  exact (condB_go (K := fun r => K (e16 r))
   (fun hs hk => (q16_at0 K s true s.Bins (fun i => enc_32 (s.Bins.get i)) rfl hs hk))
   (fun hs hk => (condB_go (K := fun r => K (e16 r))
    (fun hs hk => (q16_at0 K s true s.Bins (fun i => enc_32 (s.Bins.get i)) rfl hs hk))
    (fun hs hk => (condB_go (K := fun r => K (e16 r))
     (fun hs hk => (q16_at0 K s true s.Bins (fun i => enc_32 (s.Bins.get i)) rfl hs hk))
     (fun hs hk => (q16_at0 K s (!(s29 s.Alpha (-100:Int) (100:Int))) s.Bins (fun i => enc_32 (s.Bins.get i)) rfl hs hk)) hs hk)) hs hk)) hs hk)
def ctr16 : List PA → COut
  | [.agg [.int .i64 a0_Parts, .sl a0_Bins_n a0_Bins_s a0_Bins_g, .int .i64 a0_Beta_Low, .int .i64 a0_Beta_High, .int .i64 a0_Alpha_Low, .int .i64 a0_Alpha_High]] => .det (IsE enc_32 1 a0_Bins_s a0_Bins_g ∧ p16 (⟨a0_Parts, (⟨a0_Bins_n, decF_32 a0_Bins_g⟩ : (Sl (Sl FluxRow))), (⟨a0_Beta_Low, a0_Beta_High⟩ : Span), (⟨a0_Alpha_Low, a0_Alpha_High⟩ : Span)⟩ : Sky) = true) [.one (.bool (s16 (⟨a0_Parts, (⟨a0_Bins_n, decF_32 a0_Bins_g⟩ : (Sl (Sl FluxRow))), (⟨a0_Beta_Low, a0_Beta_High⟩ : Span), (⟨a0_Alpha_Low, a0_Alpha_High⟩ : Span)⟩ : Sky)))]
  | _ => .no
theorem call16 : Callable Try.prog 16 := ⟨_, rfl, rfl, by kernel_rfl⟩
theorem ok16 : Ok Try.prog 16 ctr16 := ok_tab okT16 call16 fun args K h => by
  unfold ctr16 at h
  split at h
  · rename_i a0_Parts a0_Bins_n a0_Bins_s a0_Bins_g a0_Beta_Low a0_Beta_High a0_Alpha_Low a0_Alpha_High
    obtain ⟨⟨⟨rfl, a0_Bins_f, rfl⟩, hs⟩, hk⟩ := h
    try rw [decF_enc_32 a0_Bins_f] at hs
    try rw [decF_enc_32 a0_Bins_f] at hk
    exact ⟨(fun _ _ => []), (fun _ => false), ann16, q16 (⟨a0_Parts, (⟨a0_Bins_n, a0_Bins_f⟩ : (Sl (Sl FluxRow))), (⟨a0_Beta_Low, a0_Beta_High⟩ : Span), (⟨a0_Alpha_Low, a0_Alpha_High⟩ : Span)⟩ : Sky) K hs hk⟩
  · exact h.elim
abbrev T17 : Tabs := ((Tabs.nil.addF 29 ctr29).addF 58 ctr58)
theorem okT17 : TabsOk Try.prog T17 := ((TabsOk.nil.addF ok29).addF ok58)
abbrev G17 : Ctrs := csm T17 (fun _ _ => []) (fun _ => false)
def ann17 : Ann := ⟨69, [(0, ⟨[0], [], [], [], []⟩), (1, ⟨[0, 3], [], [], [], []⟩), (2, ⟨[0, 3, 8], [], [], [], []⟩), (3, ⟨[0, 3], [], [], [], []⟩), (4, ⟨[0, 3, 4], [4], [], [], []⟩), (5, ⟨[0, 3, 65], [], [], [], []⟩), (6, ⟨[2], [], [], [], []⟩), (7, ⟨[2], [], [], [], []⟩)],
  [(2, ⟨[0, 3], [], [], [], []⟩)],
  [(6, ⟨[0, 3, 65], [], [], [], []⟩)],
  [], []⟩
def f17_g0 (t : (Sl RangeRow)) (iv0 : Int) : St := ⟨[(0, .one (.c (.p (.sl t.len 3 (fun i => enc_42 (t.get i)))))), (3, .one (.c (.p (.int .i64 iv0))))], [], []⟩
def f17_at0 (K : List PA → Prop) (t : (Sl RangeRow)) (iv0 : Int) : Prop := vc Try.prog G17 ann17 (cdF Try.f17 [1, 0, 1, 0]) (blockK 0 (sqK Try.prog G17 ann17 (cdF Try.f17 [1, 1]) (bodyK Try.prog Try.f17 K))) (f17_g0 t iv0)
def f17_g1 (t : (Sl RangeRow)) (iv1 : Int) (t65v1 : Bool) : St := ⟨[(0, .one (.c (.p (.sl t.len 3 (fun i => enc_42 (t.get i)))))), (3, .one (.c (.p (.int .i64 iv1)))), (65, .one (.c (.p (.bool t65v1))))], [], []⟩
def f17_at1 (K : List PA → Prop) (X0 : St → Prop) (t : (Sl RangeRow)) (iv1 : Int) (t65v1 : Bool) : Prop := vc Try.prog G17 ann17 (cdF Try.f17 [1, 0, 1, 0, 0, 1, 0, 0, 1, 1]) (blockK 1 (sqK Try.prog G17 ann17 (cdF Try.f17 [1, 0, 1, 0, 0, 1, 1]) (loopK Try.prog ann17 2 X0 (blockK 0 (sqK Try.prog G17 ann17 (cdF Try.f17 [1, 1]) (bodyK Try.prog Try.f17 K)))))) (f17_g1 t iv1 t65v1)
theorem f17_top (t : (Sl RangeRow)) (K : List PA → Prop) :
  vcFun Try.prog G17 ann17 17 [.one (.sl t.len 3 (fun i => enc_42 (t.get i)))] K =
  (f17_at0 K t (0:Int)) := by kernel_rfl
def f17_step0 (K : List PA → Prop) (X0 : St → Prop) (t : (Sl RangeRow)) (iv0 : Int) : Prop :=
  (condP (decide (iv0 < (t.len : Int)))
   (((0 ≤ iv0 ∧ iv0 < (t.len : Int))) ∧
   (condP (!(s58 ((t.get iv0.toNat).Energy) (1:Int) (1000000:Int)))
    (f17_at1 K X0 t iv0 true)
    (condP (!(s29 ((t.get iv0.toNat).Range) (0:Int) (1000000:Int)))
     (f17_at1 K X0 t iv0 true)
     (condP (decide (iv0 > (0:Int)))
      (((0 ≤ (w64 (iv0 - (1:Int))) ∧ (w64 (iv0 - (1:Int))) < (t.len : Int))) ∧
      (condP (decide ((t.get iv0.toNat).Energy ≤ (t.get ((w64 (iv0 - (1:Int))).toNat)).Energy))
       (f17_at1 K X0 t iv0 true)
       (((0 ≤ (w64 (iv0 - (1:Int))) ∧ (w64 (iv0 - (1:Int))) < (t.len : Int))) ∧
       (condP (decide ((t.get iv0.toNat).Range.Low < (t.get ((w64 (iv0 - (1:Int))).toNat)).Range.Low))
        (f17_at1 K X0 t iv0 true)
        (((0 ≤ (w64 (iv0 - (1:Int))) ∧ (w64 (iv0 - (1:Int))) < (t.len : Int))) ∧
        (f17_at1 K X0 t iv0 (decide ((t.get iv0.toNat).Range.High < (t.get ((w64 (iv0 - (1:Int))).toNat)).Range.High))))))))
      (f17_at1 K X0 t iv0 false)))))
   (K [.one (.bool (s58 (t.len : Int) (1:Int) (40:Int)))]))
theorem f17_stepeq0 (K : List PA → Prop) (X0 : St → Prop) (t : (Sl RangeRow)) (iv0 : Int) :
  vc Try.prog G17 ann17 (cd (cdF Try.f17 [1, 0, 1, 0]) [0]) (loopK Try.prog ann17 2 X0 (blockK 0 (sqK Try.prog G17 ann17 (cdF Try.f17 [1, 1]) (bodyK Try.prog Try.f17 K)))) (f17_g0 t iv0) =
  f17_step0 K X0 t iv0 := by kernel_rfl
theorem f17_loop0 (K : List PA → Prop) (t : (Sl RangeRow)) (iv0 : Int)
  (h : ∀ X0 : St → Prop, (∀ (iv0 : Int), f17_step0 K X0 t iv0 → X0 (f17_g0 t iv0)) → X0 (f17_g0 t iv0)) :
  f17_at0 K t iv0 := by
  have e : f17_at0 K t iv0 = (∀ X : St → Prop, (∀ s, vc Try.prog G17 ann17 (cd (cdF Try.f17 [1, 0, 1, 0]) [0]) (loopK Try.prog ann17 2 X (blockK 0 (sqK Try.prog G17 ann17 (cdF Try.f17 [1, 1]) (bodyK Try.prog Try.f17 K)))) s → X s) → X (f17_g0 t iv0)) := by kernel_rfl
  refine ofEq e ?_
  intro X hX
  refine h X ?_
  intro iv0 hs
  refine hX _ ?_
  have e2 := f17_stepeq0 K X t iv0
  rw [e2]
  exact hs
theorem f17_eq1 (K : List PA → Prop) (X0 : St → Prop) (t : (Sl RangeRow)) (iv1 : Int) (t65v1 : Bool) :
  f17_at1 K X0 t iv1 t65v1 =
  (condP t65v1
   (K [.one (.bool false)])
   (X0 (f17_g0 t (w64 (iv1 + (1:Int)))))) := by kernel_rfl
abbrev R17 := Bool
abbrev e17 (r : Bool) : List PA := [.one (.bool r)]
attribute [irreducible] f17_at0 f17_at1
def s17_at1 (S0 : Int → Bool) (t : (Sl RangeRow)) (iv1 : Int) (t65v1 : Bool) : Bool :=
  (cond t65v1
   false
   (S0 (w64 (iv1 + (1:Int)))))
def p17_at1 (P0 : Int → Bool) (t : (Sl RangeRow)) (iv1 : Int) (t65v1 : Bool) : Bool :=
  (cond t65v1
   true
   (P0 (w64 (iv1 + (1:Int)))))
theorem q17_at1 (K : List PA → Prop) (t : (Sl RangeRow))
  (X0 : St → Prop) (P0 : Int → Bool) (S0 : Int → Bool)
  (hX0 : ∀ (iv0 : Int), P0 iv0 = true → K (e17 (S0 iv0)) → X0 (f17_g0 t iv0)) (iv1 : Int) (t65v1 : Bool) (hs : p17_at1 P0 t iv1 t65v1 = true) (hk : K (e17 (s17_at1 S0 t iv1 t65v1))) : f17_at1 K X0 t iv1 t65v1 := by
  refine ofEq (f17_eq1 K X0 t iv1 t65v1) ?_
  unfold p17_at1 at hs
  unfold s17_at1 at hk
  exact (condB_go (K := fun r => K (e17 r))
   (fun hs hk => hk)
   (fun hs hk => (hX0 (w64 (iv1 + (1:Int))) hs hk)) hs hk)
def s17_st0 (t : (Sl RangeRow)) (S0 : Int → Bool) (iv0 : Int) : Bool :=
  (cond (decide (iv0 < (t.len : Int)))
   (cond (!(s58 ((t.get iv0.toNat).Energy) (1:Int) (1000000:Int)))
    (s17_at1 S0 t iv0 true)
    (cond (!(s29 ((t.get iv0.toNat).Range) (0:Int) (1000000:Int)))
     (s17_at1 S0 t iv0 true)
     (cond (decide (iv0 > (0:Int)))
      (cond (decide ((t.get iv0.toNat).Energy ≤ (t.get ((w64 (iv0 - (1:Int))).toNat)).Energy))
       (s17_at1 S0 t iv0 true)
       (cond (decide ((t.get iv0.toNat).Range.Low < (t.get ((w64 (iv0 - (1:Int))).toNat)).Range.Low))
        (s17_at1 S0 t iv0 true)
        (s17_at1 S0 t iv0 (decide ((t.get iv0.toNat).Range.High < (t.get ((w64 (iv0 - (1:Int))).toNat)).Range.High)))))
      (s17_at1 S0 t iv0 false))))
   (s58 (t.len : Int) (1:Int) (40:Int)))
def p17_st0 (t : (Sl RangeRow)) (P0 : Int → Bool) (iv0 : Int) : Bool :=
  (cond (decide (iv0 < (t.len : Int)))
   (decide ((0 ≤ iv0 ∧ iv0 < (t.len : Int))) &&
   (cond (!(s58 ((t.get iv0.toNat).Energy) (1:Int) (1000000:Int)))
    (p17_at1 P0 t iv0 true)
    (cond (!(s29 ((t.get iv0.toNat).Range) (0:Int) (1000000:Int)))
     (p17_at1 P0 t iv0 true)
     (cond (decide (iv0 > (0:Int)))
      (decide ((0 ≤ (w64 (iv0 - (1:Int))) ∧ (w64 (iv0 - (1:Int))) < (t.len : Int))) &&
      (cond (decide ((t.get iv0.toNat).Energy ≤ (t.get ((w64 (iv0 - (1:Int))).toNat)).Energy))
       (p17_at1 P0 t iv0 true)
       (decide ((0 ≤ (w64 (iv0 - (1:Int))) ∧ (w64 (iv0 - (1:Int))) < (t.len : Int))) &&
       (cond (decide ((t.get iv0.toNat).Range.Low < (t.get ((w64 (iv0 - (1:Int))).toNat)).Range.Low))
        (p17_at1 P0 t iv0 true)
        (decide ((0 ≤ (w64 (iv0 - (1:Int))) ∧ (w64 (iv0 - (1:Int))) < (t.len : Int))) &&
        (p17_at1 P0 t iv0 (decide ((t.get iv0.toNat).Range.High < (t.get ((w64 (iv0 - (1:Int))).toNat)).Range.High))))))))
      (p17_at1 P0 t iv0 false)))))
   true)
def s17_lp0 (t : (Sl RangeRow)) : Nat → Int → Bool
  | 0 => fun _ => default
  | k + 1 => s17_st0 t (s17_lp0 t k)
def p17_lp0 (t : (Sl RangeRow)) : Nat → Int → Bool
  | 0 => fun _ => false
  | k + 1 => p17_st0 t (p17_lp0 t k)
def s17_at0 (t : (Sl RangeRow)) (iv0 : Int) : Bool := s17_lp0 t Fuel iv0
def p17_at0 (t : (Sl RangeRow)) (iv0 : Int) : Bool := p17_lp0 t Fuel iv0
theorem q17_at0 (K : List PA → Prop) (t : (Sl RangeRow)) (iv0 : Int) (hs : p17_at0 t iv0 = true) (hk : K (e17 (s17_at0 t iv0))) : f17_at0 K t iv0 := by
  refine f17_loop0 K t iv0 ?_
  intro X0 hstep
  have key : ∀ (k : Nat) (iv0 : Int), p17_lp0 t k iv0 = true → K (e17 (s17_lp0 t k iv0)) → X0 (f17_g0 t iv0) := by
    intro k
    induction k with
    | zero => intro iv0 hs; exact absurd hs Bool.false_ne_true
    | succ k ih =>
      intro iv0 hs hk
      refine hstep iv0 ?_
      have hs : p17_st0 t (p17_lp0 t k) iv0 = true := hs
      have hk : K (e17 (s17_st0 t (s17_lp0 t k) iv0)) := hk
      unfold p17_st0 at hs
      unfold s17_st0 at hk
      generalize s17_lp0 t k = S0 at hk ih
      generalize p17_lp0 t k = P0 at hs ih
      have hX0 := ih
      exact (condB_go (K := fun r => K (e17 r))
       (fun hs hk => (andK hs fun hc hs => ⟨hc, (condB_go (K := fun r => K (e17 r))
        (fun hs hk => (q17_at1 K t X0 P0 S0 hX0 iv0 true hs hk))
        (fun hs hk => (condB_go (K := fun r => K (e17 r))
         (fun hs hk => (q17_at1 K t X0 P0 S0 hX0 iv0 true hs hk))
         (fun hs hk => (condB_go (K := fun r => K (e17 r))
          (fun hs hk => (andK hs fun hc hs => ⟨hc, (condB_go (K := fun r => K (e17 r))
           (fun hs hk => (q17_at1 K t X0 P0 S0 hX0 iv0 true hs hk))
           (fun hs hk => (andK hs fun hc hs => ⟨hc, (condB_go (K := fun r => K (e17 r))
            (fun hs hk => (q17_at1 K t X0 P0 S0 hX0 iv0 true hs hk))
            (fun hs hk => (andK hs fun hc hs => ⟨hc, (q17_at1 K t X0 P0 S0 hX0 iv0 (decide ((t.get iv0.toNat).Range.High < (t.get ((w64 (iv0 - (1:Int))).toNat)).Range.High)) hs hk)⟩)) hs hk)⟩)) hs hk)⟩))
          (fun hs hk => (q17_at1 K t X0 P0 S0 hX0 iv0 false hs hk)) hs hk)) hs hk)) hs hk)⟩))
       (fun hs hk => hk) hs hk)
  exact key _ iv0 hs hk
def s17 (t : (Sl RangeRow)) : Bool :=
  (s17_at0 t (0:Int))
def p17 (t : (Sl RangeRow)) : Bool :=
  (p17_at0 t (0:Int))
theorem q17 (t : (Sl RangeRow)) (K : List PA → Prop) (hs : p17 t = true) (hk : K (e17 (s17 t))) : vcFun Try.prog G17 ann17 17 [.one (.sl t.len 3 (fun i => enc_42 (t.get i)))] K := by
  refine ofEq (f17_top t K) ?_
  unfold p17 at hs
  unfold s17 at hk
  exact (q17_at0 K t (0:Int) hs hk)
def ctr17 : List PA → COut
  | [.one (.sl a0_n a0_s a0_g)] => .det (IsE enc_42 3 a0_s a0_g ∧ p17 (⟨a0_n, decF_42 a0_g⟩ : (Sl RangeRow)) = true) [.one (.bool (s17 (⟨a0_n, decF_42 a0_g⟩ : (Sl RangeRow))))]
  | _ => .no
theorem call17 : Callable Try.prog 17 := ⟨_, rfl, rfl, by kernel_rfl⟩
theorem ok17 : Ok Try.prog 17 ctr17 := ok_tab okT17 call17 fun args K h => by
  unfold ctr17 at h
  split at h
  · rename_i a0_n a0_s a0_g
    obtain ⟨⟨⟨rfl, a0_f, rfl⟩, hs⟩, hk⟩ := h
    try rw [decF_enc_42 a0_f] at hs
    try rw [decF_enc_42 a0_f] at hk
    exact ⟨(fun _ _ => []), (fun _ => false), ann17, q17 (⟨a0_n, a0_f⟩ : (Sl RangeRow)) K hs hk⟩
  · exact h.elim
end Go.Proofs
namespace Go.Proofs
open Go Go.Pm
set_option maxRecDepth 100000
set_option linter.unusedVariables false
attribute [local irreducible] Go.Pm.vcFun Go.Pm.vc Go.Pm.vcIter
abbrev T36 : Tabs := (Tabs.nil.addF 29 ctr29)
theorem okT36 : TabsOk Try.prog T36 := (TabsOk.nil.addF ok29)
abbrev G36 : Ctrs := csm T36 (fun _ _ => []) (fun _ => false)
def ann36 : Ann := ⟨11, [(0, ⟨[1], [1], [], [], []⟩), (1, ⟨[2], [], [], [], []⟩)],
  [],
  [],
  [], []⟩
theorem f36_top (w : Weather) (K : List PA → Prop) :
  vcFun Try.prog G36 ann36 36 [.agg [.int .i64 w.Pressure.Low, .int .i64 w.Pressure.High, .int .i64 w.Warm.Low, .int .i64 w.Warm.High]] K =
  (condP (s29 w.Pressure (-1000:Int) (1000:Int))
   (K [.one (.bool (s29 w.Warm (-1000:Int) (1000:Int)))])
   (K [.one (.bool false)])) := by kernel_rfl
abbrev R36 := Bool
abbrev e36 (r : Bool) : List PA := [.one (.bool r)]
def s36 (w : Weather) : Bool :=
  (cond (s29 w.Pressure (-1000:Int) (1000:Int))
   (s29 w.Warm (-1000:Int) (1000:Int))
   false)
theorem q36 (w : Weather) (K : List PA → Prop) (hk : K (e36 (s36 w))) : vcFun Try.prog G36 ann36 36 [.agg [.int .i64 w.Pressure.Low, .int .i64 w.Pressure.High, .int .i64 w.Warm.Low, .int .i64 w.Warm.High]] K := by
  refine ofEq (f36_top w K) ?_
  unfold s36 at hk
  exact (condP_gt (K := fun r => K (e36 r))
   (fun hk => hk)
   (fun hk => hk) hk)
def ctr36 : List PA → COut
  | [.agg [.int .i64 a0_Pressure_Low, .int .i64 a0_Pressure_High, .int .i64 a0_Warm_Low, .int .i64 a0_Warm_High]] => .tot [.one (.bool (s36 (⟨(⟨a0_Pressure_Low, a0_Pressure_High⟩ : Span), (⟨a0_Warm_Low, a0_Warm_High⟩ : Span)⟩ : Weather)))]
  | _ => .no
theorem call36 : Callable Try.prog 36 := ⟨_, rfl, rfl, by kernel_rfl⟩
theorem ok36 : Ok Try.prog 36 ctr36 := ok_tab okT36 call36 fun args K h => by
  unfold ctr36 at h
  split at h
  · rename_i a0_Pressure_Low a0_Pressure_High a0_Warm_Low a0_Warm_High
    have hk := h
    exact ⟨(fun _ _ => []), (fun _ => false), ann36, q36 (⟨(⟨a0_Pressure_Low, a0_Pressure_High⟩ : Span), (⟨a0_Warm_Low, a0_Warm_High⟩ : Span)⟩ : Weather) K hk⟩
  · exact h.elim
abbrev T22 : Tabs := ((Tabs.nil.addF 36 ctr36).addF 58 ctr58)
theorem okT22 : TabsOk Try.prog T22 := ((TabsOk.nil.addF ok36).addF ok58)
abbrev G22 : Ctrs := csm T22 (fun _ _ => []) (fun _ => false)
def ann22 : Ann := ⟨29, [(0, ⟨[0], [], [], [], []⟩), (1, ⟨[0, 3], [], [], [], []⟩), (2, ⟨[0, 3, 7], [], [], [], []⟩), (3, ⟨[0, 3], [], [], [], []⟩), (4, ⟨[0, 3, 25], [], [], [], []⟩), (5, ⟨[2], [], [], [], []⟩), (6, ⟨[2], [], [], [], []⟩)],
  [(2, ⟨[0, 3], [], [], [], []⟩)],
  [(5, ⟨[0, 3, 25], [], [], [], []⟩)],
  [], []⟩
def f22_g0 (l_a0 : (Sl Spell)) (iv0 : Int) : St := ⟨[(0, .one (.c (.p (.sl l_a0.len 5 (fun i => enc_56 (l_a0.get i)))))), (3, .one (.c (.p (.int .i64 iv0))))], [], []⟩
def f22_at0 (K : List PA → Prop) (l_a0 : (Sl Spell)) (iv0 : Int) : Prop := vc Try.prog G22 ann22 (cdF Try.f22 [1, 0, 1, 0]) (blockK 0 (sqK Try.prog G22 ann22 (cdF Try.f22 [1, 1]) (bodyK Try.prog Try.f22 K))) (f22_g0 l_a0 iv0)
def f22_g1 (l_a0 : (Sl Spell)) (iv1 : Int) (t25v1 : Bool) : St := ⟨[(0, .one (.c (.p (.sl l_a0.len 5 (fun i => enc_56 (l_a0.get i)))))), (3, .one (.c (.p (.int .i64 iv1)))), (25, .one (.c (.p (.bool t25v1))))], [], []⟩
def f22_at1 (K : List PA → Prop) (X0 : St → Prop) (l_a0 : (Sl Spell)) (iv1 : Int) (t25v1 : Bool) : Prop := vc Try.prog G22 ann22 (cdF Try.f22 [1, 0, 1, 0, 0, 1, 0, 0, 1]) (blockK 1 (sqK Try.prog G22 ann22 (cdF Try.f22 [1, 0, 1, 0, 0, 1, 1]) (loopK Try.prog ann22 2 X0 (blockK 0 (sqK Try.prog G22 ann22 (cdF Try.f22 [1, 1]) (bodyK Try.prog Try.f22 K)))))) (f22_g1 l_a0 iv1 t25v1)
theorem f22_top (l_a0 : (Sl Spell)) (K : List PA → Prop) :
  vcFun Try.prog G22 ann22 22 [.one (.sl l_a0.len 5 (fun i => enc_56 (l_a0.get i)))] K =
  (f22_at0 K l_a0 (0:Int)) := by kernel_rfl
def f22_step0 (K : List PA → Prop) (X0 : St → Prop) (l_a0 : (Sl Spell)) (iv0 : Int) : Prop :=
  (condP (decide (iv0 < (l_a0.len : Int)))
   (((0 ≤ iv0 ∧ iv0 < (l_a0.len : Int))) ∧
   (condP (!(s58 ((l_a0.get iv0.toNat).Slots) (1:Int) (1000000:Int)))
    (f22_at1 K X0 l_a0 iv0 true)
    (((0 ≤ iv0 ∧ iv0 < (l_a0.len : Int))) ∧
    (f22_at1 K X0 l_a0 iv0 (!(s36 ((l_a0.get iv0.toNat).Weather)))))))
   (K [.one (.bool (s58 (l_a0.len : Int) (1:Int) (50:Int)))]))
theorem f22_stepeq0 (K : List PA → Prop) (X0 : St → Prop) (l_a0 : (Sl Spell)) (iv0 : Int) :
  vc Try.prog G22 ann22 (cd (cdF Try.f22 [1, 0, 1, 0]) [0]) (loopK Try.prog ann22 2 X0 (blockK 0 (sqK Try.prog G22 ann22 (cdF Try.f22 [1, 1]) (bodyK Try.prog Try.f22 K)))) (f22_g0 l_a0 iv0) =
  f22_step0 K X0 l_a0 iv0 := by kernel_rfl
theorem f22_loop0 (K : List PA → Prop) (l_a0 : (Sl Spell)) (iv0 : Int)
  (h : ∀ X0 : St → Prop, (∀ (iv0 : Int), f22_step0 K X0 l_a0 iv0 → X0 (f22_g0 l_a0 iv0)) → X0 (f22_g0 l_a0 iv0)) :
  f22_at0 K l_a0 iv0 := by
  have e : f22_at0 K l_a0 iv0 = (∀ X : St → Prop, (∀ s, vc Try.prog G22 ann22 (cd (cdF Try.f22 [1, 0, 1, 0]) [0]) (loopK Try.prog ann22 2 X (blockK 0 (sqK Try.prog G22 ann22 (cdF Try.f22 [1, 1]) (bodyK Try.prog Try.f22 K)))) s → X s) → X (f22_g0 l_a0 iv0)) := by kernel_rfl
  refine ofEq e ?_
  intro X hX
  refine h X ?_
  intro iv0 hs
  refine hX _ ?_
  have e2 := f22_stepeq0 K X l_a0 iv0
  rw [e2]
  exact hs
theorem f22_eq1 (K : List PA → Prop) (X0 : St → Prop) (l_a0 : (Sl Spell)) (iv1 : Int) (t25v1 : Bool) :
  f22_at1 K X0 l_a0 iv1 t25v1 =
  (condP t25v1
   (K [.one (.bool false)])
   (X0 (f22_g0 l_a0 (w64 (iv1 + (1:Int)))))) := by kernel_rfl
abbrev R22 := Bool
abbrev e22 (r : Bool) : List PA := [.one (.bool r)]
attribute [irreducible] f22_at0 f22_at1
def s22_at1 (S0 : Int → Bool) (l_a0 : (Sl Spell)) (iv1 : Int) (t25v1 : Bool) : Bool :=
  (cond t25v1
   false
   (S0 (w64 (iv1 + (1:Int)))))
def p22_at1 (P0 : Int → Bool) (l_a0 : (Sl Spell)) (iv1 : Int) (t25v1 : Bool) : Bool :=
  (cond t25v1
   true
   (P0 (w64 (iv1 + (1:Int)))))
theorem q22_at1 (K : List PA → Prop) (l_a0 : (Sl Spell))
  (X0 : St → Prop) (P0 : Int → Bool) (S0 : Int → Bool)
  (hX0 : ∀ (iv0 : Int), P0 iv0 = true → K (e22 (S0 iv0)) → X0 (f22_g0 l_a0 iv0)) (iv1 : Int) (t25v1 : Bool) (hs : p22_at1 P0 l_a0 iv1 t25v1 = true) (hk : K (e22 (s22_at1 S0 l_a0 iv1 t25v1))) : f22_at1 K X0 l_a0 iv1 t25v1 := by
  refine ofEq (f22_eq1 K X0 l_a0 iv1 t25v1) ?_
  unfold p22_at1 at hs
  unfold s22_at1 at hk
  exact (condB_go (K := fun r => K (e22 r))
   (fun hs hk => hk)
   (fun hs hk => (hX0 (w64 (iv1 + (1:Int))) hs hk)) hs hk)
def s22_st0 (l_a0 : (Sl Spell)) (S0 : Int → Bool) (iv0 : Int) : Bool :=
  (cond (decide (iv0 < (l_a0.len : Int)))
   (cond (!(s58 ((l_a0.get iv0.toNat).Slots) (1:Int) (1000000:Int)))
    (s22_at1 S0 l_a0 iv0 true)
    (s22_at1 S0 l_a0 iv0 (!(s36 ((l_a0.get iv0.toNat).Weather)))))
   (s58 (l_a0.len : Int) (1:Int) (50:Int)))
def p22_st0 (l_a0 : (Sl Spell)) (P0 : Int → Bool) (iv0 : Int) : Bool :=
  (cond (decide (iv0 < (l_a0.len : Int)))
   (decide ((0 ≤ iv0 ∧ iv0 < (l_a0.len : Int))) &&
   (cond (!(s58 ((l_a0.get iv0.toNat).Slots) (1:Int) (1000000:Int)))
    (p22_at1 P0 l_a0 iv0 true)
    (decide ((0 ≤ iv0 ∧ iv0 < (l_a0.len : Int))) &&
    (p22_at1 P0 l_a0 iv0 (!(s36 ((l_a0.get iv0.toNat).Weather)))))))
   true)
def s22_lp0 (l_a0 : (Sl Spell)) : Nat → Int → Bool
  | 0 => fun _ => default
  | k + 1 => s22_st0 l_a0 (s22_lp0 l_a0 k)
def p22_lp0 (l_a0 : (Sl Spell)) : Nat → Int → Bool
  | 0 => fun _ => false
  | k + 1 => p22_st0 l_a0 (p22_lp0 l_a0 k)
def s22_at0 (l_a0 : (Sl Spell)) (iv0 : Int) : Bool := s22_lp0 l_a0 Fuel iv0
def p22_at0 (l_a0 : (Sl Spell)) (iv0 : Int) : Bool := p22_lp0 l_a0 Fuel iv0
theorem q22_at0 (K : List PA → Prop) (l_a0 : (Sl Spell)) (iv0 : Int) (hs : p22_at0 l_a0 iv0 = true) (hk : K (e22 (s22_at0 l_a0 iv0))) : f22_at0 K l_a0 iv0 := by
  refine f22_loop0 K l_a0 iv0 ?_
  intro X0 hstep
  have key : ∀ (k : Nat) (iv0 : Int), p22_lp0 l_a0 k iv0 = true → K (e22 (s22_lp0 l_a0 k iv0)) → X0 (f22_g0 l_a0 iv0) := by
    intro k
    induction k with
    | zero => intro iv0 hs; exact absurd hs Bool.false_ne_true
    | succ k ih =>
      intro iv0 hs hk
      refine hstep iv0 ?_
      have hs : p22_st0 l_a0 (p22_lp0 l_a0 k) iv0 = true := hs
      have hk : K (e22 (s22_st0 l_a0 (s22_lp0 l_a0 k) iv0)) := hk
      unfold p22_st0 at hs
      unfold s22_st0 at hk
      generalize s22_lp0 l_a0 k = S0 at hk ih
      generalize p22_lp0 l_a0 k = P0 at hs ih
      have hX0 := ih
      exact (condB_go (K := fun r => K (e22 r))
       (fun hs hk => (andK hs fun hc hs => ⟨hc, (condB_go (K := fun r => K (e22 r))
        (fun hs hk => (q22_at1 K l_a0 X0 P0 S0 hX0 iv0 true hs hk))
        (fun hs hk => (andK hs fun hc hs => ⟨hc, (q22_at1 K l_a0 X0 P0 S0 hX0 iv0 (!(s36 ((l_a0.get iv0.toNat).Weather))) hs hk)⟩)) hs hk)⟩))
       (fun hs hk => hk) hs hk)
  exact key _ iv0 hs hk
def s22 (l_a0 : (Sl Spell)) : Bool :=
  (s22_at0 l_a0 (0:Int))
def p22 (l_a0 : (Sl Spell)) : Bool :=
  (p22_at0 l_a0 (0:Int))
theorem q22 (l_a0 : (Sl Spell)) (K : List PA → Prop) (hs : p22 l_a0 = true) (hk : K (e22 (s22 l_a0))) : vcFun Try.prog G22 ann22 22 [.one (.sl l_a0.len 5 (fun i => enc_56 (l_a0.get i)))] K := by
  refine ofEq (f22_top l_a0 K) ?_
  unfold p22 at hs
  unfold s22 at hk
  exact (q22_at0 K l_a0 (0:Int) hs hk)
def ctr22 : List PA → COut
  | [.one (.sl a0_n a0_s a0_g)] => .det (IsE enc_56 5 a0_s a0_g ∧ p22 (⟨a0_n, decF_56 a0_g⟩ : (Sl Spell)) = true) [.one (.bool (s22 (⟨a0_n, decF_56 a0_g⟩ : (Sl Spell))))]
  | _ => .no
theorem call22 : Callable Try.prog 22 := ⟨_, rfl, rfl, by kernel_rfl⟩
theorem ok22 : Ok Try.prog 22 ctr22 := ok_tab okT22 call22 fun args K h => by
  unfold ctr22 at h
  split at h
  · rename_i a0_n a0_s a0_g
    obtain ⟨⟨⟨rfl, a0_f, rfl⟩, hs⟩, hk⟩ := h
    try rw [decF_enc_56 a0_f] at hs
    try rw [decF_enc_56 a0_f] at hk
    exact ⟨(fun _ _ => []), (fun _ => false), ann22, q22 (⟨a0_n, a0_f⟩ : (Sl Spell)) K hs hk⟩
  · exact h.elim
end Go.Proofs
namespace Go.Proofs
open Go Go.Pm
set_option maxRecDepth 100000
set_option linter.unusedVariables false
attribute [local irreducible] Go.Pm.vcFun Go.Pm.vc Go.Pm.vcIter
abbrev T6 : Tabs := (((((((Tabs.nil.addF 15 ctr15).addF 16 ctr16).addF 17 ctr17).addF 18 ctr18).addF 22 ctr22).addF 23 ctr23).addF 26 ctr26)
theorem okT6 : TabsOk Try.prog T6 := (((((((TabsOk.nil.addF ok15).addF ok16).addF ok17).addF ok18).addF ok22).addF ok23).addF ok26)
abbrev G6 : Ctrs := csm T6 (fun _ _ => []) (fun _ => false)
def ann6 : Ann := ⟨182, [(0, ⟨[1, 2, 3, 4, 5, 6], [6], [], [], []⟩), (1, ⟨[1, 2, 3, 4, 5, 6, 68], [6], [], [], []⟩), (2, ⟨[12], [], [], [], []⟩), (3, ⟨[1, 2, 3, 4, 5, 6, 13, 14], [6, 13], [], [], []⟩), (4, ⟨[1, 2, 3, 4, 6, 13, 14, 15, 16], [6, 13, 15], [], [], []⟩), (5, ⟨[4, 13, 14, 15, 16, 17, 18], [13, 15], [], [], []⟩), (6, ⟨[4, 13, 17, 131], [13], [], [], []⟩), (7, ⟨[12], [], [], [], []⟩), (8, ⟨[4, 13, 17, 19], [13], [], [], []⟩), (9, ⟨[4, 13, 17, 19, 20], [13], [], [], []⟩), (10, ⟨[4, 13, 17, 19, 20, 135], [13], [], [], []⟩), (11, ⟨[4, 13, 17, 19, 20], [13], [], [], []⟩), (12, ⟨[4, 13, 17, 19, 20, 163], [13], [], [], []⟩), (13, ⟨[12], [], [], [], []⟩), (14, ⟨[4, 13, 17, 19, 20, 170], [13], [], [], []⟩), (15, ⟨[4, 13, 17, 19, 20], [13], [], [], []⟩), (16, ⟨[12], [], [], [], []⟩)],
  [(10, ⟨[4, 13, 17, 19, 20], [13], [], [], []⟩)],
  [(2, ⟨[1, 2, 3, 4, 5, 6, 68], [6], [], [], []⟩), (3, ⟨[1, 2, 3, 4, 5, 6], [6], [], [], []⟩), (4, ⟨[1, 2, 3, 4, 5, 6, 13, 14], [6, 13], [], [], []⟩), (5, ⟨[1, 2, 3, 4, 6, 13, 14, 15, 16], [6, 13, 15], [], [], []⟩), (6, ⟨[4, 13, 14, 15, 16, 17, 18], [13, 15], [], [], []⟩), (8, ⟨[4, 13, 17], [13], [], [], []⟩)],
  [], []⟩
def f6_g0 (s : Sky) (t : (Sl RangeRow)) (bin : Int) (l_a3 : (Sl Spell)) (opacity : Int) (more : Int) (t68v0 : Bool) (s_1v0_n : Nat) (s_1v0_g : Nat → List PV) : St := ⟨[(1, .one (.c (.p (.sl t.len 3 (fun i => enc_42 (t.get i)))))), (2, .one (.c (.p (.int .i64 bin)))), (3, .one (.c (.p (.sl l_a3.len 5 (fun i => enc_56 (l_a3.get i)))))), (4, .one (.c (.p (.int .i64 opacity)))), (5, .one (.c (.p (.int .i64 more)))), (6, .one (.c (.ptr 6 0))), (68, .one (.c (.p (.bool t68v0))))], [(6, .box 26 [.p (.int .i64 s.Parts), .p (.sl s_1v0_n 1 s_1v0_g), .p (.int .i64 s.Beta.Low), .p (.int .i64 s.Beta.High), .p (.int .i64 s.Alpha.Low), .p (.int .i64 s.Alpha.High)])], []⟩
def f6_at0 (K : List PA → Prop) (s : Sky) (t : (Sl RangeRow)) (bin : Int) (l_a3 : (Sl Spell)) (opacity : Int) (more : Int) (t68v0 : Bool) (s_1v0_n : Nat) (s_1v0_g : Nat → List PV) : Prop := vc Try.prog G6 ann6 (cdF Try.f6 [1, 0, 1]) (sqK Try.prog G6 ann6 (cdF Try.f6 [1, 1]) (bodyK Try.prog Try.f6 K)) (f6_g0 s t bin l_a3 opacity more t68v0 s_1v0_n s_1v0_g)
def f6_g1 (s : Sky) (t : (Sl RangeRow)) (bin : Int) (l_a3 : (Sl Spell)) (opacity : Int) (more : Int) (s_1v1_n : Nat) (s_1v1_g : Nat → List PV) : St := ⟨[(1, .one (.c (.p (.sl t.len 3 (fun i => enc_42 (t.get i)))))), (2, .one (.c (.p (.int .i64 bin)))), (3, .one (.c (.p (.sl l_a3.len 5 (fun i => enc_56 (l_a3.get i)))))), (4, .one (.c (.p (.int .i64 opacity)))), (5, .one (.c (.p (.int .i64 more)))), (6, .one (.c (.ptr 6 0)))], [(6, .box 26 [.p (.int .i64 s.Parts), .p (.sl s_1v1_n 1 s_1v1_g), .p (.int .i64 s.Beta.Low), .p (.int .i64 s.Beta.High), .p (.int .i64 s.Alpha.Low), .p (.int .i64 s.Alpha.High)])], []⟩
def f6_at1 (K : List PA → Prop) (s : Sky) (t : (Sl RangeRow)) (bin : Int) (l_a3 : (Sl Spell)) (opacity : Int) (more : Int) (s_1v1_n : Nat) (s_1v1_g : Nat → List PV) : Prop := vc Try.prog G6 ann6 (cdF Try.f6 [1, 1]) (bodyK Try.prog Try.f6 K) (f6_g1 s t bin l_a3 opacity more s_1v1_n s_1v1_g)
def f6_g2 (s : Sky) (t : (Sl RangeRow)) (bin : Int) (l_a3 : (Sl Spell)) (opacity : Int) (more : Int) (ev2 : Int) (s_1v2_n : Nat) (s_1v2_g : Nat → List PV) (a_0v2 : Int) (a_1v2 : Int) : St := ⟨[(1, .one (.c (.p (.sl t.len 3 (fun i => enc_42 (t.get i)))))), (2, .one (.c (.p (.int .i64 bin)))), (3, .one (.c (.p (.sl l_a3.len 5 (fun i => enc_56 (l_a3.get i)))))), (4, .one (.c (.p (.int .i64 opacity)))), (5, .one (.c (.p (.int .i64 more)))), (6, .one (.c (.ptr 6 0))), (13, .one (.c (.ptr 13 0))), (14, .one (.c (.p (.int .i64 ev2))))], [(6, .box 26 [.p (.int .i64 s.Parts), .p (.sl s_1v2_n 1 s_1v2_g), .p (.int .i64 s.Beta.Low), .p (.int .i64 s.Beta.High), .p (.int .i64 s.Alpha.Low), .p (.int .i64 s.Alpha.High)]), (13, .box 24 [.p (.int .i64 a_0v2), .p (.int .i64 a_1v2)])], []⟩
def f6_at2 (K : List PA → Prop) (s : Sky) (t : (Sl RangeRow)) (bin : Int) (l_a3 : (Sl Spell)) (opacity : Int) (more : Int) (ev2 : Int) (s_1v2_n : Nat) (s_1v2_g : Nat → List PV) (a_0v2 : Int) (a_1v2 : Int) : Prop := vc Try.prog G6 ann6 (cdF Try.f6 [1, 1, 1]) (bodyK Try.prog Try.f6 K) (f6_g2 s t bin l_a3 opacity more ev2 s_1v2_n s_1v2_g a_0v2 a_1v2)
def f6_g3 (s : Sky) (t : (Sl RangeRow)) (bin : Int) (l_a3 : (Sl Spell)) (opacity : Int) (ev2 : Int) (a_0v2 : Int) (a_1v2 : Int) (fv3 : Int) (s_1v3_n : Nat) (s_1v3_g : Nat → List PV) (b_0v3 : Int) (b_1v3 : Int) : St := ⟨[(1, .one (.c (.p (.sl t.len 3 (fun i => enc_42 (t.get i)))))), (2, .one (.c (.p (.int .i64 bin)))), (3, .one (.c (.p (.sl l_a3.len 5 (fun i => enc_56 (l_a3.get i)))))), (4, .one (.c (.p (.int .i64 opacity)))), (6, .one (.c (.ptr 6 0))), (13, .one (.c (.ptr 13 0))), (14, .one (.c (.p (.int .i64 ev2)))), (15, .one (.c (.ptr 15 0))), (16, .one (.c (.p (.int .i64 fv3))))], [(6, .box 26 [.p (.int .i64 s.Parts), .p (.sl s_1v3_n 1 s_1v3_g), .p (.int .i64 s.Beta.Low), .p (.int .i64 s.Beta.High), .p (.int .i64 s.Alpha.Low), .p (.int .i64 s.Alpha.High)]), (13, .box 24 [.p (.int .i64 a_0v2), .p (.int .i64 a_1v2)]), (15, .box 24 [.p (.int .i64 b_0v3), .p (.int .i64 b_1v3)])], []⟩
def f6_at3 (K : List PA → Prop) (s : Sky) (t : (Sl RangeRow)) (bin : Int) (l_a3 : (Sl Spell)) (opacity : Int) (ev2 : Int) (a_0v2 : Int) (a_1v2 : Int) (fv3 : Int) (s_1v3_n : Nat) (s_1v3_g : Nat → List PV) (b_0v3 : Int) (b_1v3 : Int) : Prop := vc Try.prog G6 ann6 (cdF Try.f6 [1, 1, 1, 1]) (bodyK Try.prog Try.f6 K) (f6_g3 s t bin l_a3 opacity ev2 a_0v2 a_1v2 fv3 s_1v3_n s_1v3_g b_0v3 b_1v3)
def f6_g4 (opacity : Int) (ev2 : Int) (a_0v2 : Int) (a_1v2 : Int) (fv3 : Int) (b_0v3 : Int) (b_1v3 : Int) (cv4_n : Nat) (cv4_g : Nat → List PV) (gv4 : Int) : St := ⟨[(4, .one (.c (.p (.int .i64 opacity)))), (13, .one (.c (.ptr 13 0))), (14, .one (.c (.p (.int .i64 ev2)))), (15, .one (.c (.ptr 15 0))), (16, .one (.c (.p (.int .i64 fv3)))), (17, .one (.c (.p (.sl cv4_n 3 cv4_g)))), (18, .one (.c (.p (.int .i64 gv4))))], [(13, .box 24 [.p (.int .i64 a_0v2), .p (.int .i64 a_1v2)]), (15, .box 24 [.p (.int .i64 b_0v3), .p (.int .i64 b_1v3)])], []⟩
def f6_at4 (K : List PA → Prop) (opacity : Int) (ev2 : Int) (a_0v2 : Int) (a_1v2 : Int) (fv3 : Int) (b_0v3 : Int) (b_1v3 : Int) (cv4_n : Nat) (cv4_g : Nat → List PV) (gv4 : Int) : Prop := vc Try.prog G6 ann6 (cdF Try.f6 [1, 1, 1, 1, 1]) (bodyK Try.prog Try.f6 K) (f6_g4 opacity ev2 a_0v2 a_1v2 fv3 b_0v3 b_1v3 cv4_n cv4_g gv4)
def f6_g5 (opacity : Int) (a_0v2 : Int) (a_1v2 : Int) (cv4 : (Sl FluxStep)) : St := ⟨[(4, .one (.c (.p (.int .i64 opacity)))), (13, .one (.c (.ptr 13 0))), (17, .one (.c (.p (.sl cv4.len 3 (fun i => enc_69 (cv4.get i))))))], [(13, .box 24 [.p (.int .i64 a_0v2), .p (.int .i64 a_1v2)])], []⟩
def f6_at5 (K : List PA → Prop) (opacity : Int) (a_0v2 : Int) (a_1v2 : Int) (cv4 : (Sl FluxStep)) : Prop := vc Try.prog G6 ann6 (cdF Try.f6 [1, 1, 1, 1, 1, 1]) (bodyK Try.prog Try.f6 K) (f6_g5 opacity a_0v2 a_1v2 cv4)
def f6_g6 (opacity : Int) (a_0v2 : Int) (a_1v2 : Int) (cv4 : (Sl FluxStep)) (atv6 : Int) (iv6 : Int) : St := ⟨[(4, .one (.c (.p (.int .i64 opacity)))), (13, .one (.c (.ptr 13 0))), (17, .one (.c (.p (.sl cv4.len 3 (fun i => enc_69 (cv4.get i)))))), (19, .one (.c (.p (.int .i64 atv6)))), (20, .one (.c (.p (.int .i64 iv6))))], [(13, .box 24 [.p (.int .i64 a_0v2), .p (.int .i64 a_1v2)])], []⟩
def f6_at6 (K : List PA → Prop) (opacity : Int) (a_0v2 : Int) (a_1v2 : Int) (cv4 : (Sl FluxStep)) (atv6 : Int) (iv6 : Int) : Prop := vc Try.prog G6 ann6 (cdF Try.f6 [1, 1, 1, 1, 1, 1, 1, 0, 1, 0]) (blockK 0 (sqK Try.prog G6 ann6 (cdF Try.f6 [1, 1, 1, 1, 1, 1, 1, 1]) (bodyK Try.prog Try.f6 K))) (f6_g6 opacity a_0v2 a_1v2 cv4 atv6 iv6)
theorem f6_top (s : Sky) (t : (Sl RangeRow)) (bin : Int) (l_a3 : (Sl Spell)) (opacity : Int) (more : Int) (K : List PA → Prop) :
  vcFun Try.prog G6 ann6 6 [.agg [.int .i64 s.Parts, .sl s.Bins.len 1 (fun i => enc_32 (s.Bins.get i)), .int .i64 s.Beta.Low, .int .i64 s.Beta.High, .int .i64 s.Alpha.Low, .int .i64 s.Alpha.High], .one (.sl t.len 3 (fun i => enc_42 (t.get i))), .one (.int .i64 bin), .one (.sl l_a3.len 5 (fun i => enc_56 (l_a3.get i))), .one (.int .i64 opacity), .one (.int .i64 more)] K =
  ((IsE enc_32 1 1 (fun i => enc_32 (s.Bins.get i)) ∧ IsE enc_42 3 3 (fun i => enc_42 (t.get i)) ∧ (p15 s t = true)) ∧
  (condP (!(s15 s t))
   (f6_at0 K s t bin l_a3 opacity more true s.Bins.len (fun i => enc_32 (s.Bins.get i)))
   (condP (decide ((l_a3.len : Int) > (20:Int)))
    (f6_at0 K s t bin l_a3 opacity more true s.Bins.len (fun i => enc_32 (s.Bins.get i)))
    ((IsE enc_32 1 1 (fun i => enc_32 (s.Bins.get i)) ∧ (p16 s = true)) ∧
    (condP (!(s16 s))
     (f6_at0 K s t bin l_a3 opacity more true s.Bins.len (fun i => enc_32 (s.Bins.get i)))
     ((IsE enc_42 3 3 (fun i => enc_42 (t.get i)) ∧ (p17 t = true)) ∧
     (condP (!(s17 t))
      (f6_at0 K s t bin l_a3 opacity more true s.Bins.len (fun i => enc_32 (s.Bins.get i)))
      (condP (decide (bin < (0:Int)))
       (f6_at0 K s t bin l_a3 opacity more true s.Bins.len (fun i => enc_32 (s.Bins.get i)))
       (condP (decide (bin ≥ (s.Bins.len : Int)))
        (f6_at0 K s t bin l_a3 opacity more true s.Bins.len (fun i => enc_32 (s.Bins.get i)))
        ((IsE enc_56 5 5 (fun i => enc_56 (l_a3.get i)) ∧ (p22 l_a3 = true)) ∧
        (condP (!(s22 l_a3))
         (f6_at0 K s t bin l_a3 opacity more true s.Bins.len (fun i => enc_32 (s.Bins.get i)))
         (condP (decide (opacity < (0:Int)))
          (f6_at0 K s t bin l_a3 opacity more true s.Bins.len (fun i => enc_32 (s.Bins.get i)))
          (condP (decide (more < opacity))
           (f6_at0 K s t bin l_a3 opacity more true s.Bins.len (fun i => enc_32 (s.Bins.get i)))
           (f6_at0 K s t bin l_a3 opacity more (decide (more > (1000000:Int))) s.Bins.len (fun i => enc_32 (s.Bins.get i)))))))))))))))) := by kernel_rfl
theorem f6_eq0 (K : List PA → Prop) (s : Sky) (t : (Sl RangeRow)) (bin : Int) (l_a3 : (Sl Spell)) (opacity : Int) (more : Int) (t68v0 : Bool) (s_1v0 : (Sl (Sl FluxRow))) :
  f6_at0 K s t bin l_a3 opacity more t68v0 s_1v0.len (fun i => enc_32 (s_1v0.get i)) =
  (condP t68v0
   (K [.one (.bool true)])
   (f6_at1 K s t bin l_a3 opacity more s_1v0.len (fun i => enc_32 (s_1v0.get i)))) := by kernel_rfl
theorem f6_eq1 (K : List PA → Prop) (s : Sky) (t : (Sl RangeRow)) (bin : Int) (l_a3 : (Sl Spell)) (opacity : Int) (more : Int) (s_1v1 : (Sl (Sl FluxRow))) :
  f6_at1 K s t bin l_a3 opacity more s_1v1.len (fun i => enc_32 (s_1v1.get i)) =
  ((IsE enc_32 1 1 (fun i => enc_32 (s_1v1.get i)) ∧ IsE enc_42 3 3 (fun i => enc_42 (t.get i)) ∧ IsE enc_56 5 5 (fun i => enc_56 (l_a3.get i)) ∧ (p23 (⟨s.Parts, s_1v1, s.Beta, s.Alpha⟩ : Sky) t bin opacity l_a3 = true)) ∧
  (f6_at2 K s t bin l_a3 opacity more ((s23 (⟨s.Parts, s_1v1, s.Beta, s.Alpha⟩ : Sky) t bin opacity l_a3).2) s_1v1.len (fun i => enc_32 (s_1v1.get i)) (((s23 (⟨s.Parts, s_1v1, s.Beta, s.Alpha⟩ : Sky) t bin opacity l_a3).1).Low) (((s23 (⟨s.Parts, s_1v1, s.Beta, s.Alpha⟩ : Sky) t bin opacity l_a3).1).High))) := by kernel_rfl
theorem f6_eq2 (K : List PA → Prop) (s : Sky) (t : (Sl RangeRow)) (bin : Int) (l_a3 : (Sl Spell)) (opacity : Int) (more : Int) (ev2 : Int) (s_1v2 : (Sl (Sl FluxRow))) (a_0v2 : Int) (a_1v2 : Int) :
  f6_at2 K s t bin l_a3 opacity more ev2 s_1v2.len (fun i => enc_32 (s_1v2.get i)) a_0v2 a_1v2 =
  ((IsE enc_32 1 1 (fun i => enc_32 (s_1v2.get i)) ∧ IsE enc_42 3 3 (fun i => enc_42 (t.get i)) ∧ IsE enc_56 5 5 (fun i => enc_56 (l_a3.get i)) ∧ (p23 (⟨s.Parts, s_1v2, s.Beta, s.Alpha⟩ : Sky) t bin more l_a3 = true)) ∧
  (f6_at3 K s t bin l_a3 opacity ev2 a_0v2 a_1v2 ((s23 (⟨s.Parts, s_1v2, s.Beta, s.Alpha⟩ : Sky) t bin more l_a3).2) s_1v2.len (fun i => enc_32 (s_1v2.get i)) (((s23 (⟨s.Parts, s_1v2, s.Beta, s.Alpha⟩ : Sky) t bin more l_a3).1).Low) (((s23 (⟨s.Parts, s_1v2, s.Beta, s.Alpha⟩ : Sky) t bin more l_a3).1).High))) := by kernel_rfl
theorem f6_eq3 (K : List PA → Prop) (s : Sky) (t : (Sl RangeRow)) (bin : Int) (l_a3 : (Sl Spell)) (opacity : Int) (ev2 : Int) (a_0v2 : Int) (a_1v2 : Int) (fv3 : Int) (s_1v3 : (Sl (Sl FluxRow))) (b_0v3 : Int) (b_1v3 : Int) :
  f6_at3 K s t bin l_a3 opacity ev2 a_0v2 a_1v2 fv3 s_1v3.len (fun i => enc_32 (s_1v3.get i)) b_0v3 b_1v3 =
  ((IsE enc_32 1 1 (fun i => enc_32 (s_1v3.get i)) ∧ IsE enc_42 3 3 (fun i => enc_42 (t.get i)) ∧ IsE enc_56 5 5 (fun i => enc_56 (l_a3.get i)) ∧ (p26 (⟨s.Parts, s_1v3, s.Beta, s.Alpha⟩ : Sky) t bin l_a3 = true)) ∧
  (f6_at4 K opacity ev2 a_0v2 a_1v2 fv3 b_0v3 b_1v3 (((s26 (⟨s.Parts, s_1v3, s.Beta, s.Alpha⟩ : Sky) t bin l_a3).1).len) (fun i => enc_69 (((s26 (⟨s.Parts, s_1v3, s.Beta, s.Alpha⟩ : Sky) t bin l_a3).1).get i)) ((s26 (⟨s.Parts, s_1v3, s.Beta, s.Alpha⟩ : Sky) t bin l_a3).2))) := by kernel_rfl
theorem f6_eq4 (K : List PA → Prop) (opacity : Int) (ev2 : Int) (a_0v2 : Int) (a_1v2 : Int) (fv3 : Int) (b_0v3 : Int) (b_1v3 : Int) (cv4 : (Sl FluxStep)) (gv4 : Int) :
  f6_at4 K opacity ev2 a_0v2 a_1v2 fv3 b_0v3 b_1v3 cv4.len (fun i => enc_69 (cv4.get i)) gv4 =
  (condP (ev2 != (0:Int))
   (K [.one (.bool false)])
   (condP (fv3 != (0:Int))
    (K [.one (.bool false)])
    (condP (gv4 != (0:Int))
     (K [.one (.bool false)])
     (condP (decide (b_0v3 > a_0v2))
      (K [.one (.bool false)])
      (condP (decide (b_1v3 > a_1v2))
       (K [.one (.bool false)])
       (condP ((cv4.len : Int) == (0:Int))
        (K [.one (.bool false)])
        (((0 ≤ (0:Int) ∧ (0:Int) < (cv4.len : Int))) ∧
        (condP ((cv4.get 0).From != (0:Int))
         (K [.one (.bool false)])
         (f6_at5 K opacity a_0v2 a_1v2 cv4))))))))) := by kernel_rfl
theorem f6_eq5 (K : List PA → Prop) (opacity : Int) (a_0v2 : Int) (a_1v2 : Int) (cv4 : (Sl FluxStep)) :
  f6_at5 K opacity a_0v2 a_1v2 cv4 =
  (f6_at6 K opacity a_0v2 a_1v2 cv4 (0:Int) (1:Int)) := by kernel_rfl
def f6_step6 (K : List PA → Prop) (X6 : St → Prop) (opacity : Int) (a_0v2 : Int) (a_1v2 : Int) (cv4 : (Sl FluxStep)) (atv6 : Int) (iv6 : Int) : Prop :=
  (condP (decide (iv6 < (cv4.len : Int)))
   (((0 ≤ iv6 ∧ iv6 < (cv4.len : Int))) ∧
   (((0 ≤ (w64 (iv6 - (1:Int))) ∧ (w64 (iv6 - (1:Int))) < (cv4.len : Int))) ∧
   (condP (decide ((cv4.get iv6.toNat).From ≤ (cv4.get ((w64 (iv6 - (1:Int))).toNat)).From))
    (K [.one (.bool false)])
    (((0 ≤ iv6 ∧ iv6 < (cv4.len : Int))) ∧
    (((0 ≤ (w64 (iv6 - (1:Int))) ∧ (w64 (iv6 - (1:Int))) < (cv4.len : Int))) ∧
    (condP (match ((cv4.get iv6.toNat).Rate.Low == (cv4.get ((w64 (iv6 - (1:Int))).toNat)).Rate.Low) with | true => (match ((cv4.get iv6.toNat).Rate.High == (cv4.get ((w64 (iv6 - (1:Int))).toNat)).Rate.High) with | true => true | false => false) | false => false)
     (K [.one (.bool false)])
     (((0 ≤ iv6 ∧ iv6 < (cv4.len : Int))) ∧
     (condP (decide ((cv4.get iv6.toNat).From ≤ opacity))
      (X6 (f6_g6 opacity a_0v2 a_1v2 cv4 iv6 (w64 (iv6 + (1:Int)))))
      (X6 (f6_g6 opacity a_0v2 a_1v2 cv4 atv6 (w64 (iv6 + (1:Int)))))))))))))
   (((0 ≤ atv6 ∧ atv6 < (cv4.len : Int))) ∧
   (condP (match ((cv4.get atv6.toNat).Rate.Low == a_0v2) with | true => (match ((cv4.get atv6.toNat).Rate.High == a_1v2) with | true => true | false => false) | false => false)
    (K [.one (.bool true)])
    (K [.one (.bool false)]))))
theorem f6_stepeq6 (K : List PA → Prop) (X6 : St → Prop) (opacity : Int) (a_0v2 : Int) (a_1v2 : Int) (cv4 : (Sl FluxStep)) (atv6 : Int) (iv6 : Int) :
  vc Try.prog G6 ann6 (cd (cdF Try.f6 [1, 1, 1, 1, 1, 1, 1, 0, 1, 0]) [0]) (loopK Try.prog ann6 10 X6 (blockK 0 (sqK Try.prog G6 ann6 (cdF Try.f6 [1, 1, 1, 1, 1, 1, 1, 1]) (bodyK Try.prog Try.f6 K)))) (f6_g6 opacity a_0v2 a_1v2 cv4 atv6 iv6) =
  f6_step6 K X6 opacity a_0v2 a_1v2 cv4 atv6 iv6 := by kernel_rfl
theorem f6_loop6 (K : List PA → Prop) (opacity : Int) (a_0v2 : Int) (a_1v2 : Int) (cv4 : (Sl FluxStep)) (atv6 : Int) (iv6 : Int)
  (h : ∀ X6 : St → Prop, (∀ (atv6 : Int) (iv6 : Int), f6_step6 K X6 opacity a_0v2 a_1v2 cv4 atv6 iv6 → X6 (f6_g6 opacity a_0v2 a_1v2 cv4 atv6 iv6)) → X6 (f6_g6 opacity a_0v2 a_1v2 cv4 atv6 iv6)) :
  f6_at6 K opacity a_0v2 a_1v2 cv4 atv6 iv6 := by
  have e : f6_at6 K opacity a_0v2 a_1v2 cv4 atv6 iv6 = (∀ X : St → Prop, (∀ s, vc Try.prog G6 ann6 (cd (cdF Try.f6 [1, 1, 1, 1, 1, 1, 1, 0, 1, 0]) [0]) (loopK Try.prog ann6 10 X (blockK 0 (sqK Try.prog G6 ann6 (cdF Try.f6 [1, 1, 1, 1, 1, 1, 1, 1]) (bodyK Try.prog Try.f6 K)))) s → X s) → X (f6_g6 opacity a_0v2 a_1v2 cv4 atv6 iv6)) := by kernel_rfl
  refine ofEq e ?_
  intro X hX
  refine h X ?_
  intro atv6 iv6 hs
  refine hX _ ?_
  have e2 := f6_stepeq6 K X opacity a_0v2 a_1v2 cv4 atv6 iv6
  rw [e2]
  exact hs
abbrev R6 := Bool
abbrev e6 (r : Bool) : List PA := [.one (.bool r)]
attribute [irreducible] f6_at0 f6_at1 f6_at2 f6_at3 f6_at4 f6_at5 f6_at6
def s6_st6 (opacity : Int) (a_0v2 : Int) (a_1v2 : Int) (cv4 : (Sl FluxStep)) (S6 : Int → Int → Bool) (atv6 : Int) (iv6 : Int) : Bool :=
  (cond (decide (iv6 < (cv4.len : Int)))
   (cond (decide ((cv4.get iv6.toNat).From ≤ (cv4.get ((w64 (iv6 - (1:Int))).toNat)).From))
    false
    (cond (match ((cv4.get iv6.toNat).Rate.Low == (cv4.get ((w64 (iv6 - (1:Int))).toNat)).Rate.Low) with | true => (match ((cv4.get iv6.toNat).Rate.High == (cv4.get ((w64 (iv6 - (1:Int))).toNat)).Rate.High) with | true => true | false => false) | false => false)
     false
     (cond (decide ((cv4.get iv6.toNat).From ≤ opacity))
      (S6 iv6 (w64 (iv6 + (1:Int))))
      (S6 atv6 (w64 (iv6 + (1:Int)))))))
   (cond (match ((cv4.get atv6.toNat).Rate.Low == a_0v2) with | true => (match ((cv4.get atv6.toNat).Rate.High == a_1v2) with | true => true | false => false) | false => false)
    true
    false))
def p6_st6 (opacity : Int) (a_0v2 : Int) (a_1v2 : Int) (cv4 : (Sl FluxStep)) (P6 : Int → Int → Bool) (atv6 : Int) (iv6 : Int) : Bool :=
  (cond (decide (iv6 < (cv4.len : Int)))
   (decide ((0 ≤ iv6 ∧ iv6 < (cv4.len : Int))) &&
   (decide ((0 ≤ (w64 (iv6 - (1:Int))) ∧ (w64 (iv6 - (1:Int))) < (cv4.len : Int))) &&
   (cond (decide ((cv4.get iv6.toNat).From ≤ (cv4.get ((w64 (iv6 - (1:Int))).toNat)).From))
    true
    (decide ((0 ≤ iv6 ∧ iv6 < (cv4.len : Int))) &&
    (decide ((0 ≤ (w64 (iv6 - (1:Int))) ∧ (w64 (iv6 - (1:Int))) < (cv4.len : Int))) &&
    (cond (match ((cv4.get iv6.toNat).Rate.Low == (cv4.get ((w64 (iv6 - (1:Int))).toNat)).Rate.Low) with | true => (match ((cv4.get iv6.toNat).Rate.High == (cv4.get ((w64 (iv6 - (1:Int))).toNat)).Rate.High) with | true => true | false => false) | false => false)
     true
     (decide ((0 ≤ iv6 ∧ iv6 < (cv4.len : Int))) &&
     (cond (decide ((cv4.get iv6.toNat).From ≤ opacity))
      (P6 iv6 (w64 (iv6 + (1:Int))))
      (P6 atv6 (w64 (iv6 + (1:Int))))))))))))
   (decide ((0 ≤ atv6 ∧ atv6 < (cv4.len : Int))) &&
   true))
def s6_lp6 (opacity : Int) (a_0v2 : Int) (a_1v2 : Int) (cv4 : (Sl FluxStep)) : Nat → Int → Int → Bool
  | 0 => fun _ _ => default
  | k + 1 => s6_st6 opacity a_0v2 a_1v2 cv4 (s6_lp6 opacity a_0v2 a_1v2 cv4 k)
def p6_lp6 (opacity : Int) (a_0v2 : Int) (a_1v2 : Int) (cv4 : (Sl FluxStep)) : Nat → Int → Int → Bool
  | 0 => fun _ _ => false
  | k + 1 => p6_st6 opacity a_0v2 a_1v2 cv4 (p6_lp6 opacity a_0v2 a_1v2 cv4 k)
def s6_at6 (opacity : Int) (a_0v2 : Int) (a_1v2 : Int) (cv4 : (Sl FluxStep)) (atv6 : Int) (iv6 : Int) : Bool := s6_lp6 opacity a_0v2 a_1v2 cv4 Fuel atv6 iv6
def p6_at6 (opacity : Int) (a_0v2 : Int) (a_1v2 : Int) (cv4 : (Sl FluxStep)) (atv6 : Int) (iv6 : Int) : Bool := p6_lp6 opacity a_0v2 a_1v2 cv4 Fuel atv6 iv6
theorem q6_at6 (K : List PA → Prop) (opacity : Int) (a_0v2 : Int) (a_1v2 : Int) (cv4 : (Sl FluxStep)) (atv6 : Int) (iv6 : Int) (hs : p6_at6 opacity a_0v2 a_1v2 cv4 atv6 iv6 = true) (hk : K (e6 (s6_at6 opacity a_0v2 a_1v2 cv4 atv6 iv6))) : f6_at6 K opacity a_0v2 a_1v2 cv4 atv6 iv6 := by
  refine f6_loop6 K opacity a_0v2 a_1v2 cv4 atv6 iv6 ?_
  intro X6 hstep
  have key : ∀ (k : Nat) (atv6 : Int) (iv6 : Int), p6_lp6 opacity a_0v2 a_1v2 cv4 k atv6 iv6 = true → K (e6 (s6_lp6 opacity a_0v2 a_1v2 cv4 k atv6 iv6)) → X6 (f6_g6 opacity a_0v2 a_1v2 cv4 atv6 iv6) := by
    intro k
    induction k with
    | zero => intro atv6 iv6 hs; exact absurd hs Bool.false_ne_true
    | succ k ih =>
      intro atv6 iv6 hs hk
      refine hstep atv6 iv6 ?_
      have hs : p6_st6 opacity a_0v2 a_1v2 cv4 (p6_lp6 opacity a_0v2 a_1v2 cv4 k) atv6 iv6 = true := hs
      have hk : K (e6 (s6_st6 opacity a_0v2 a_1v2 cv4 (s6_lp6 opacity a_0v2 a_1v2 cv4 k) atv6 iv6)) := hk
      unfold p6_st6 at hs
      unfold s6_st6 at hk
      generalize s6_lp6 opacity a_0v2 a_1v2 cv4 k = S6 at hk ih
      generalize p6_lp6 opacity a_0v2 a_1v2 cv4 k = P6 at hs ih
      have hX6 := ih
      exact (condB_go (K := fun r => K (e6 r))
       (fun hs hk => (andK hs fun hc hs => ⟨hc, (andK hs fun hc hs => ⟨hc, (condB_go (K := fun r => K (e6 r))
        (fun hs hk => hk)
        (fun hs hk => (andK hs fun hc hs => ⟨hc, (andK hs fun hc hs => ⟨hc, (condB_go (K := fun r => K (e6 r))
         (fun hs hk => hk)
         (fun hs hk => (andK hs fun hc hs => ⟨hc, (condB_go (K := fun r => K (e6 r))
          (fun hs hk => (hX6 iv6 (w64 (iv6 + (1:Int))) hs hk))
          (fun hs hk => (hX6 atv6 (w64 (iv6 + (1:Int))) hs hk)) hs hk)⟩)) hs hk)⟩)⟩)) hs hk)⟩)⟩))
       (fun hs hk => (andK hs fun hc hs => ⟨hc, (condP_gt (K := fun r => K (e6 r))
        (fun hk => hk)
        (fun hk => hk) hk)⟩)) hs hk)
  exact key _ atv6 iv6 hs hk
def s6_at5 (opacity : Int) (a_0v2 : Int) (a_1v2 : Int) (cv4 : (Sl FluxStep)) : Bool :=
  (s6_at6 opacity a_0v2 a_1v2 cv4 (0:Int) (1:Int))
def p6_at5 (opacity : Int) (a_0v2 : Int) (a_1v2 : Int) (cv4 : (Sl FluxStep)) : Bool :=
  (p6_at6 opacity a_0v2 a_1v2 cv4 (0:Int) (1:Int))
theorem q6_at5 (K : List PA → Prop) (opacity : Int) (a_0v2 : Int) (a_1v2 : Int) (cv4 : (Sl FluxStep)) (hs : p6_at5 opacity a_0v2 a_1v2 cv4 = true) (hk : K (e6 (s6_at5 opacity a_0v2 a_1v2 cv4))) : f6_at5 K opacity a_0v2 a_1v2 cv4 := by
  refine ofEq (f6_eq5 K opacity a_0v2 a_1v2 cv4) ?_
  unfold p6_at5 at hs
  unfold s6_at5 at hk
  exact (q6_at6 K opacity a_0v2 a_1v2 cv4 (0:Int) (1:Int) hs hk)
def s6_at4 (opacity : Int) (ev2 : Int) (a_0v2 : Int) (a_1v2 : Int) (fv3 : Int) (b_0v3 : Int) (b_1v3 : Int) (cv4 : (Sl FluxStep)) (gv4 : Int) : Bool :=
  (cond (ev2 != (0:Int))
   false
   (cond (fv3 != (0:Int))
    false
    (cond (gv4 != (0:Int))
     false
     (cond (decide (b_0v3 > a_0v2))
      false
      (cond (decide (b_1v3 > a_1v2))
       false
       (cond ((cv4.len : Int) == (0:Int))
        false
        (cond ((cv4.get 0).From != (0:Int))
         false
         (s6_at5 opacity a_0v2 a_1v2 cv4))))))))
def p6_at4 (opacity : Int) (ev2 : Int) (a_0v2 : Int) (a_1v2 : Int) (fv3 : Int) (b_0v3 : Int) (b_1v3 : Int) (cv4 : (Sl FluxStep)) (gv4 : Int) : Bool :=
  (cond (ev2 != (0:Int))
   true
   (cond (fv3 != (0:Int))
    true
    (cond (gv4 != (0:Int))
     true
     (cond (decide (b_0v3 > a_0v2))
      true
      (cond (decide (b_1v3 > a_1v2))
       true
       (cond ((cv4.len : Int) == (0:Int))
        true
        (decide ((0 ≤ (0:Int) ∧ (0:Int) < (cv4.len : Int))) &&
        (cond ((cv4.get 0).From != (0:Int))
         true
         (p6_at5 opacity a_0v2 a_1v2 cv4)))))))))
theorem q6_at4 (K : List PA → Prop) (opacity : Int) (ev2 : Int) (a_0v2 : Int) (a_1v2 : Int) (fv3 : Int) (b_0v3 : Int) (b_1v3 : Int) (cv4 : (Sl FluxStep)) (gv4 : Int) (cv4_g : Nat → List PV) (cv4_h : cv4_g = fun i => enc_69 (cv4.get i)) (hs : p6_at4 opacity ev2 a_0v2 a_1v2 fv3 b_0v3 b_1v3 cv4 gv4 = true) (hk : K (e6 (s6_at4 opacity ev2 a_0v2 a_1v2 fv3 b_0v3 b_1v3 cv4 gv4))) : f6_at4 K opacity ev2 a_0v2 a_1v2 fv3 b_0v3 b_1v3 cv4.len cv4_g gv4 := by
  subst cv4_h
  refine ofEq (f6_eq4 K opacity ev2 a_0v2 a_1v2 fv3 b_0v3 b_1v3 cv4 gv4) ?_
  unfold p6_at4 at hs
  unfold s6_at4 at hk
  exact (condB_go (K := fun r => K (e6 r))
   (fun hs hk => hk)
   (fun hs hk => (condB_go (K := fun r => K (e6 r))
    (fun hs hk => hk)
    (fun hs hk => (condB_go (K := fun r => K (e6 r))
     (fun hs hk => hk)
     (fun hs hk => (condB_go (K := fun r => K (e6 r))
      (fun hs hk => hk)
      (fun hs hk => (condB_go (K := fun r => K (e6 r))
       (fun hs hk => hk)
       (fun hs hk => (condB_go (K := fun r => K (e6 r))
        (fun hs hk => hk)
        (fun hs hk => (andK hs fun hc hs => ⟨hc, (condB_go (K := fun r => K (e6 r))
         (fun hs hk => hk)
         (fun hs hk => (q6_at5 K opacity a_0v2 a_1v2 cv4 hs hk)) hs hk)⟩)) hs hk)) hs hk)) hs hk)) hs hk)) hs hk)) hs hk)
def s6_at3 (s : Sky) (t : (Sl RangeRow)) (bin : Int) (l_a3 : (Sl Spell)) (opacity : Int) (ev2 : Int) (a_0v2 : Int) (a_1v2 : Int) (fv3 : Int) (s_1v3 : (Sl (Sl FluxRow))) (b_0v3 : Int) (b_1v3 : Int) : Bool :=
  (s6_at4 opacity ev2 a_0v2 a_1v2 fv3 b_0v3 b_1v3 ((s26 (⟨s.Parts, s_1v3, s.Beta, s.Alpha⟩ : Sky) t bin l_a3).1) ((s26 (⟨s.Parts, s_1v3, s.Beta, s.Alpha⟩ : Sky) t bin l_a3).2))
def p6_at3 (s : Sky) (t : (Sl RangeRow)) (bin : Int) (l_a3 : (Sl Spell)) (opacity : Int) (ev2 : Int) (a_0v2 : Int) (a_1v2 : Int) (fv3 : Int) (s_1v3 : (Sl (Sl FluxRow))) (b_0v3 : Int) (b_1v3 : Int) : Bool :=
  (decide ((p26 (⟨s.Parts, s_1v3, s.Beta, s.Alpha⟩ : Sky) t bin l_a3 = true)) &&
  (p6_at4 opacity ev2 a_0v2 a_1v2 fv3 b_0v3 b_1v3 ((s26 (⟨s.Parts, s_1v3, s.Beta, s.Alpha⟩ : Sky) t bin l_a3).1) ((s26 (⟨s.Parts, s_1v3, s.Beta, s.Alpha⟩ : Sky) t bin l_a3).2)))
theorem q6_at3 (K : List PA → Prop) (s : Sky) (t : (Sl RangeRow)) (bin : Int) (l_a3 : (Sl Spell)) (opacity : Int) (ev2 : Int) (a_0v2 : Int) (a_1v2 : Int) (fv3 : Int) (s_1v3 : (Sl (Sl FluxRow))) (b_0v3 : Int) (b_1v3 : Int) (s_1v3_g : Nat → List PV) (s_1v3_h : s_1v3_g = fun i => enc_32 (s_1v3.get i)) (hs : p6_at3 s t bin l_a3 opacity ev2 a_0v2 a_1v2 fv3 s_1v3 b_0v3 b_1v3 = true) (hk : K (e6 (s6_at3 s t bin l_a3 opacity ev2 a_0v2 a_1v2 fv3 s_1v3 b_0v3 b_1v3))) : f6_at3 K s t bin l_a3 opacity ev2 a_0v2 a_1v2 fv3 s_1v3.len s_1v3_g b_0v3 b_1v3 := by
  subst s_1v3_h
  refine ofEq (f6_eq3 K s t bin l_a3 opacity ev2 a_0v2 a_1v2 fv3 s_1v3 b_0v3 b_1v3) ?_
  unfold p6_at3 at hs
  unfold s6_at3 at hk
  exact (andK hs fun hc hs => ⟨⟨isE, isE, isE, hc⟩, (q6_at4 K opacity ev2 a_0v2 a_1v2 fv3 b_0v3 b_1v3 ((s26 (⟨s.Parts, s_1v3, s.Beta, s.Alpha⟩ : Sky) t bin l_a3).1) ((s26 (⟨s.Parts, s_1v3, s.Beta, s.Alpha⟩ : Sky) t bin l_a3).2) (fun i => enc_69 (((s26 (⟨s.Parts, s_1v3, s.Beta, s.Alpha⟩ : Sky) t bin l_a3).1).get i)) rfl hs hk)⟩)
def s6_at2 (s : Sky) (t : (Sl RangeRow)) (bin : Int) (l_a3 : (Sl Spell)) (opacity : Int) (more : Int) (ev2 : Int) (s_1v2 : (Sl (Sl FluxRow))) (a_0v2 : Int) (a_1v2 : Int) : Bool :=
  (s6_at3 s t bin l_a3 opacity ev2 a_0v2 a_1v2 ((s23 (⟨s.Parts, s_1v2, s.Beta, s.Alpha⟩ : Sky) t bin more l_a3).2) s_1v2 (((s23 (⟨s.Parts, s_1v2, s.Beta, s.Alpha⟩ : Sky) t bin more l_a3).1).Low) (((s23 (⟨s.Parts, s_1v2, s.Beta, s.Alpha⟩ : Sky) t bin more l_a3).1).High))
def p6_at2 (s : Sky) (t : (Sl RangeRow)) (bin : Int) (l_a3 : (Sl Spell)) (opacity : Int) (more : Int) (ev2 : Int) (s_1v2 : (Sl (Sl FluxRow))) (a_0v2 : Int) (a_1v2 : Int) : Bool :=
  (decide ((p23 (⟨s.Parts, s_1v2, s.Beta, s.Alpha⟩ : Sky) t bin more l_a3 = true)) &&
  (p6_at3 s t bin l_a3 opacity ev2 a_0v2 a_1v2 ((s23 (⟨s.Parts, s_1v2, s.Beta, s.Alpha⟩ : Sky) t bin more l_a3).2) s_1v2 (((s23 (⟨s.Parts, s_1v2, s.Beta, s.Alpha⟩ : Sky) t bin more l_a3).1).Low) (((s23 (⟨s.Parts, s_1v2, s.Beta, s.Alpha⟩ : Sky) t bin more l_a3).1).High)))
theorem q6_at2 (K : List PA → Prop) (s : Sky) (t : (Sl RangeRow)) (bin : Int) (l_a3 : (Sl Spell)) (opacity : Int) (more : Int) (ev2 : Int) (s_1v2 : (Sl (Sl FluxRow))) (a_0v2 : Int) (a_1v2 : Int) (s_1v2_g : Nat → List PV) (s_1v2_h : s_1v2_g = fun i => enc_32 (s_1v2.get i)) (hs : p6_at2 s t bin l_a3 opacity more ev2 s_1v2 a_0v2 a_1v2 = true) (hk : K (e6 (s6_at2 s t bin l_a3 opacity more ev2 s_1v2 a_0v2 a_1v2))) : f6_at2 K s t bin l_a3 opacity more ev2 s_1v2.len s_1v2_g a_0v2 a_1v2 := by
  subst s_1v2_h
  refine ofEq (f6_eq2 K s t bin l_a3 opacity more ev2 s_1v2 a_0v2 a_1v2) ?_
  unfold p6_at2 at hs
  unfold s6_at2 at hk
  exact (andK hs fun hc hs => ⟨⟨isE, isE, isE, hc⟩, (q6_at3 K s t bin l_a3 opacity ev2 a_0v2 a_1v2 ((s23 (⟨s.Parts, s_1v2, s.Beta, s.Alpha⟩ : Sky) t bin more l_a3).2) s_1v2 (((s23 (⟨s.Parts, s_1v2, s.Beta, s.Alpha⟩ : Sky) t bin more l_a3).1).Low) (((s23 (⟨s.Parts, s_1v2, s.Beta, s.Alpha⟩ : Sky) t bin more l_a3).1).High) (fun i => enc_32 (s_1v2.get i)) rfl hs hk)⟩)
def s6_at1 (s : Sky) (t : (Sl RangeRow)) (bin : Int) (l_a3 : (Sl Spell)) (opacity : Int) (more : Int) (s_1v1 : (Sl (Sl FluxRow))) : Bool :=
  (s6_at2 s t bin l_a3 opacity more ((s23 (⟨s.Parts, s_1v1, s.Beta, s.Alpha⟩ : Sky) t bin opacity l_a3).2) s_1v1 (((s23 (⟨s.Parts, s_1v1, s.Beta, s.Alpha⟩ : Sky) t bin opacity l_a3).1).Low) (((s23 (⟨s.Parts, s_1v1, s.Beta, s.Alpha⟩ : Sky) t bin opacity l_a3).1).High))
def p6_at1 (s : Sky) (t : (Sl RangeRow)) (bin : Int) (l_a3 : (Sl Spell)) (opacity : Int) (more : Int) (s_1v1 : (Sl (Sl FluxRow))) : Bool :=
  (decide ((p23 (⟨s.Parts, s_1v1, s.Beta, s.Alpha⟩ : Sky) t bin opacity l_a3 = true)) &&
  (p6_at2 s t bin l_a3 opacity more ((s23 (⟨s.Parts, s_1v1, s.Beta, s.Alpha⟩ : Sky) t bin opacity l_a3).2) s_1v1 (((s23 (⟨s.Parts, s_1v1, s.Beta, s.Alpha⟩ : Sky) t bin opacity l_a3).1).Low) (((s23 (⟨s.Parts, s_1v1, s.Beta, s.Alpha⟩ : Sky) t bin opacity l_a3).1).High)))
theorem q6_at1 (K : List PA → Prop) (s : Sky) (t : (Sl RangeRow)) (bin : Int) (l_a3 : (Sl Spell)) (opacity : Int) (more : Int) (s_1v1 : (Sl (Sl FluxRow))) (s_1v1_g : Nat → List PV) (s_1v1_h : s_1v1_g = fun i => enc_32 (s_1v1.get i)) (hs : p6_at1 s t bin l_a3 opacity more s_1v1 = true) (hk : K (e6 (s6_at1 s t bin l_a3 opacity more s_1v1))) : f6_at1 K s t bin l_a3 opacity more s_1v1.len s_1v1_g := by
  subst s_1v1_h
  refine ofEq (f6_eq1 K s t bin l_a3 opacity more s_1v1) ?_
  unfold p6_at1 at hs
  unfold s6_at1 at hk
  exact (andK hs fun hc hs => ⟨⟨isE, isE, isE, hc⟩, (q6_at2 K s t bin l_a3 opacity more ((s23 (⟨s.Parts, s_1v1, s.Beta, s.Alpha⟩ : Sky) t bin opacity l_a3).2) s_1v1 (((s23 (⟨s.Parts, s_1v1, s.Beta, s.Alpha⟩ : Sky) t bin opacity l_a3).1).Low) (((s23 (⟨s.Parts, s_1v1, s.Beta, s.Alpha⟩ : Sky) t bin opacity l_a3).1).High) (fun i => enc_32 (s_1v1.get i)) rfl hs hk)⟩)
def s6_at0 (s : Sky) (t : (Sl RangeRow)) (bin : Int) (l_a3 : (Sl Spell)) (opacity : Int) (more : Int) (t68v0 : Bool) (s_1v0 : (Sl (Sl FluxRow))) : Bool :=
  (cond t68v0
   true
   (s6_at1 s t bin l_a3 opacity more s_1v0))
def p6_at0 (s : Sky) (t : (Sl RangeRow)) (bin : Int) (l_a3 : (Sl Spell)) (opacity : Int) (more : Int) (t68v0 : Bool) (s_1v0 : (Sl (Sl FluxRow))) : Bool :=
  (cond t68v0
   true
   (p6_at1 s t bin l_a3 opacity more s_1v0))
theorem q6_at0 (K : List PA → Prop) (s : Sky) (t : (Sl RangeRow)) (bin : Int) (l_a3 : (Sl Spell)) (opacity : Int) (more : Int) (t68v0 : Bool) (s_1v0 : (Sl (Sl FluxRow))) (s_1v0_g : Nat → List PV) (s_1v0_h : s_1v0_g = fun i => enc_32 (s_1v0.get i)) (hs : p6_at0 s t bin l_a3 opacity more t68v0 s_1v0 = true) (hk : K (e6 (s6_at0 s t bin l_a3 opacity more t68v0 s_1v0))) : f6_at0 K s t bin l_a3 opacity more t68v0 s_1v0.len s_1v0_g := by
  subst s_1v0_h
  refine ofEq (f6_eq0 K s t bin l_a3 opacity more t68v0 s_1v0) ?_
  unfold p6_at0 at hs
  unfold s6_at0 at hk
  exact (condB_go (K := fun r => K (e6 r))
   (fun hs hk => hk)
   (fun hs hk => (q6_at1 K s t bin l_a3 opacity more s_1v0 (fun i => enc_32 (s_1v0.get i)) rfl hs hk)) hs hk)
def s6 (s : Sky) (t : (Sl RangeRow)) (bin : Int) (l_a3 : (Sl Spell)) (opacity : Int) (more : Int) : Bool :=
  (cond (!(s15 s t))
   (s6_at0 s t bin l_a3 opacity more true s.Bins)
   (cond (decide ((l_a3.len : Int) > (20:Int)))
    (s6_at0 s t bin l_a3 opacity more true s.Bins)
    (cond (!(s16 s))
     (s6_at0 s t bin l_a3 opacity more true s.Bins)
     (cond (!(s17 t))
      (s6_at0 s t bin l_a3 opacity more true s.Bins)
      (cond (decide (bin < (0:Int)))
       (s6_at0 s t bin l_a3 opacity more true s.Bins)
       (cond (decide (bin ≥ (s.Bins.len : Int)))
        (s6_at0 s t bin l_a3 opacity more true s.Bins)
        (cond (!(s22 l_a3))
         (s6_at0 s t bin l_a3 opacity more true s.Bins)
         (cond (decide (opacity < (0:Int)))
          (s6_at0 s t bin l_a3 opacity more true s.Bins)
          (cond (decide (more < opacity))
           (s6_at0 s t bin l_a3 opacity more true s.Bins)
           (s6_at0 s t bin l_a3 opacity more (decide (more > (1000000:Int))) s.Bins))))))))))
def p6 (s : Sky) (t : (Sl RangeRow)) (bin : Int) (l_a3 : (Sl Spell)) (opacity : Int) (more : Int) : Bool :=
  (decide ((p15 s t = true)) &&
  (cond (!(s15 s t))
   (p6_at0 s t bin l_a3 opacity more true s.Bins)
   (cond (decide ((l_a3.len : Int) > (20:Int)))
    (p6_at0 s t bin l_a3 opacity more true s.Bins)
    (decide ((p16 s = true)) &&
    (cond (!(s16 s))
     (p6_at0 s t bin l_a3 opacity more true s.Bins)
     (decide ((p17 t = true)) &&
     (cond (!(s17 t))
      (p6_at0 s t bin l_a3 opacity more true s.Bins)
      (cond (decide (bin < (0:Int)))
       (p6_at0 s t bin l_a3 opacity more true s.Bins)
       (cond (decide (bin ≥ (s.Bins.len : Int)))
        (p6_at0 s t bin l_a3 opacity more true s.Bins)
        (decide ((p22 l_a3 = true)) &&
        (cond (!(s22 l_a3))
         (p6_at0 s t bin l_a3 opacity more true s.Bins)
         (cond (decide (opacity < (0:Int)))
          (p6_at0 s t bin l_a3 opacity more true s.Bins)
          (cond (decide (more < opacity))
           (p6_at0 s t bin l_a3 opacity more true s.Bins)
           (p6_at0 s t bin l_a3 opacity more (decide (more > (1000000:Int))) s.Bins))))))))))))))
theorem q6 (s : Sky) (t : (Sl RangeRow)) (bin : Int) (l_a3 : (Sl Spell)) (opacity : Int) (more : Int) (K : List PA → Prop) (hs : p6 s t bin l_a3 opacity more = true) (hk : K (e6 (s6 s t bin l_a3 opacity more))) : vcFun Try.prog G6 ann6 6 [.agg [.int .i64 s.Parts, .sl s.Bins.len 1 (fun i => enc_32 (s.Bins.get i)), .int .i64 s.Beta.Low, .int .i64 s.Beta.High, .int .i64 s.Alpha.Low, .int .i64 s.Alpha.High], .one (.sl t.len 3 (fun i => enc_42 (t.get i))), .one (.int .i64 bin), .one (.sl l_a3.len 5 (fun i => enc_56 (l_a3.get i))), .one (.int .i64 opacity), .one (.int .i64 more)] K := by
  refine ofEq (f6_top s t bin l_a3 opacity more K) ?_
  unfold p6 at hs
  unfold s6 at hk
  exact (andK hs fun hc hs => ⟨⟨isE, isE, hc⟩, (condB_go (K := fun r => K (e6 r))
   (fun hs hk => (q6_at0 K s t bin l_a3 opacity more true s.Bins (fun i => enc_32 (s.Bins.get i)) rfl hs hk))
   (fun hs hk => (condB_go (K := fun r => K (e6 r))
    (fun hs hk => (q6_at0 K s t bin l_a3 opacity more true s.Bins (fun i => enc_32 (s.Bins.get i)) rfl hs hk))
    (fun hs hk => (andK hs fun hc hs => ⟨⟨isE, hc⟩, (condB_go (K := fun r => K (e6 r))
     (fun hs hk => (q6_at0 K s t bin l_a3 opacity more true s.Bins (fun i => enc_32 (s.Bins.get i)) rfl hs hk))
     (fun hs hk => (andK hs fun hc hs => ⟨⟨isE, hc⟩, (condB_go (K := fun r => K (e6 r))
      (fun hs hk => (q6_at0 K s t bin l_a3 opacity more true s.Bins (fun i => enc_32 (s.Bins.get i)) rfl hs hk))
      (fun hs hk => (condB_go (K := fun r => K (e6 r))
       (fun hs hk => (q6_at0 K s t bin l_a3 opacity more true s.Bins (fun i => enc_32 (s.Bins.get i)) rfl hs hk))
       (fun hs hk => (condB_go (K := fun r => K (e6 r))
        (fun hs hk => (q6_at0 K s t bin l_a3 opacity more true s.Bins (fun i => enc_32 (s.Bins.get i)) rfl hs hk))
        (fun hs hk => (andK hs fun hc hs => ⟨⟨isE, hc⟩, (condB_go (K := fun r => K (e6 r))
         (fun hs hk => (q6_at0 K s t bin l_a3 opacity more true s.Bins (fun i => enc_32 (s.Bins.get i)) rfl hs hk))
         (fun hs hk => (condB_go (K := fun r => K (e6 r))
          (fun hs hk => (q6_at0 K s t bin l_a3 opacity more true s.Bins (fun i => enc_32 (s.Bins.get i)) rfl hs hk))
          (fun hs hk => (condB_go (K := fun r => K (e6 r))
           (fun hs hk => (q6_at0 K s t bin l_a3 opacity more true s.Bins (fun i => enc_32 (s.Bins.get i)) rfl hs hk))
           (fun hs hk => (q6_at0 K s t bin l_a3 opacity more (decide (more > (1000000:Int))) s.Bins (fun i => enc_32 (s.Bins.get i)) rfl hs hk)) hs hk)) hs hk)) hs hk)⟩)) hs hk)) hs hk)) hs hk)⟩)) hs hk)⟩)) hs hk)) hs hk)⟩)
def ctr6 : List PA → COut
  | [.agg [.int .i64 a0_Parts, .sl a0_Bins_n a0_Bins_s a0_Bins_g, .int .i64 a0_Beta_Low, .int .i64 a0_Beta_High, .int .i64 a0_Alpha_Low, .int .i64 a0_Alpha_High], .one (.sl a1_n a1_s a1_g), .one (.int .i64 a2), .one (.sl a3_n a3_s a3_g), .one (.int .i64 a4), .one (.int .i64 a5)] => .det (IsE enc_32 1 a0_Bins_s a0_Bins_g ∧ IsE enc_42 3 a1_s a1_g ∧ IsE enc_56 5 a3_s a3_g ∧ p6 (⟨a0_Parts, (⟨a0_Bins_n, decF_32 a0_Bins_g⟩ : (Sl (Sl FluxRow))), (⟨a0_Beta_Low, a0_Beta_High⟩ : Span), (⟨a0_Alpha_Low, a0_Alpha_High⟩ : Span)⟩ : Sky) (⟨a1_n, decF_42 a1_g⟩ : (Sl RangeRow)) a2 (⟨a3_n, decF_56 a3_g⟩ : (Sl Spell)) a4 a5 = true) [.one (.bool (s6 (⟨a0_Parts, (⟨a0_Bins_n, decF_32 a0_Bins_g⟩ : (Sl (Sl FluxRow))), (⟨a0_Beta_Low, a0_Beta_High⟩ : Span), (⟨a0_Alpha_Low, a0_Alpha_High⟩ : Span)⟩ : Sky) (⟨a1_n, decF_42 a1_g⟩ : (Sl RangeRow)) a2 (⟨a3_n, decF_56 a3_g⟩ : (Sl Spell)) a4 a5))]
  | _ => .no
theorem call6 : Callable Try.prog 6 := ⟨_, rfl, rfl, by kernel_rfl⟩
theorem ok6 : Ok Try.prog 6 ctr6 := ok_tab okT6 call6 fun args K h => by
  unfold ctr6 at h
  split at h
  · rename_i a0_Parts a0_Bins_n a0_Bins_s a0_Bins_g a0_Beta_Low a0_Beta_High a0_Alpha_Low a0_Alpha_High a1_n a1_s a1_g a2 a3_n a3_s a3_g a4 a5
    obtain ⟨⟨⟨rfl, a0_Bins_f, rfl⟩, ⟨rfl, a1_f, rfl⟩, ⟨rfl, a3_f, rfl⟩, hs⟩, hk⟩ := h
    try rw [decF_enc_32 a0_Bins_f] at hs
    try rw [decF_enc_32 a0_Bins_f] at hk
    try rw [decF_enc_42 a1_f] at hs
    try rw [decF_enc_42 a1_f] at hk
    try rw [decF_enc_56 a3_f] at hs
    try rw [decF_enc_56 a3_f] at hk
    exact ⟨(fun _ _ => []), (fun _ => false), ann6, q6 (⟨a0_Parts, (⟨a0_Bins_n, a0_Bins_f⟩ : (Sl (Sl FluxRow))), (⟨a0_Beta_Low, a0_Beta_High⟩ : Span), (⟨a0_Alpha_Low, a0_Alpha_High⟩ : Span)⟩ : Sky) (⟨a1_n, a1_f⟩ : (Sl RangeRow)) a2 (⟨a3_n, a3_f⟩ : (Sl Spell)) a4 a5 K hs hk⟩
  · exact h.elim
end Go.Proofs
namespace Go.Proofs
open Go Go.Pm
set_option maxRecDepth 100000
set_option linter.unusedVariables false
attribute [local irreducible] Go.Pm.vcFun Go.Pm.vc Go.Pm.vcIter
theorem C_3 : Try.prog.cellsOf 3 = 1 := by kernel_rfl
theorem C_4 : Try.prog.cellsOf 4 = 1 := by kernel_rfl
theorem C_22 : Try.prog.cellsOf 22 = 1 := by kernel_rfl
theorem C_24 : Try.prog.cellsOf 24 = 2 := by kernel_rfl
theorem C_26 : Try.prog.cellsOf 26 = 6 := by kernel_rfl
theorem C_27 : Try.prog.cellsOf 27 = 1 := by kernel_rfl
theorem C_32 : Try.prog.cellsOf 32 = 1 := by kernel_rfl
theorem C_37 : Try.prog.cellsOf 37 = 1 := by kernel_rfl
theorem C_39 : Try.prog.cellsOf 39 = 3 := by kernel_rfl
theorem C_42 : Try.prog.cellsOf 42 = 3 := by kernel_rfl
theorem C_44 : Try.prog.cellsOf 44 = 3 := by kernel_rfl
theorem C_46 : Try.prog.cellsOf 46 = 1 := by kernel_rfl
theorem C_47 : Try.prog.cellsOf 47 = 1 := by kernel_rfl
theorem C_52 : Try.prog.cellsOf 52 = 2 := by kernel_rfl
theorem C_54 : Try.prog.cellsOf 54 = 4 := by kernel_rfl
theorem C_56 : Try.prog.cellsOf 56 = 5 := by kernel_rfl
theorem C_97 : Try.prog.cellsOf 97 = 1 := by kernel_rfl
theorem C_129 : Try.prog.cellsOf 129 = 3 := by kernel_rfl
abbrev wf_3 (x : Int) : Prop := wfI x
theorem rd_3 {H : Type} {en : TypeId × Value → H} {w : World} {sp : Nat → Bool} {held : Bool} : Rd H en Try.prog w sp held 3 enc_3 wf_3 := rd_int Try.underlying3
def wf_24 (x : Span) : Prop := wf_3 x.Low ∧ wf_3 x.High
theorem rd_24 {H : Type} {en : TypeId × Value → H} {w : World} {sp : Nat → Bool} {held : Bool} : Rd H en Try.prog w sp held 24 enc_24 wf_24 := by
  intro fuel cs x h
  obtain ⟨hl, hf⟩ := rd_struct Try.underlying24 h
  rw [C_24] at hl
  obtain ⟨n0, y0, g0⟩ := hf 0 _ rfl
  have g0 : DataW.trod en Try.prog w 0 sp held n0 3 ((cs.drop 0).take (Try.prog.cellsOf 3)) = some y0 := g0
  rw [C_3] at g0
  obtain ⟨a0, r0, w0⟩ := rd_3 _ _ _ g0
  obtain ⟨n1, y1, g1⟩ := hf 1 _ rfl
  have g1 : DataW.trod en Try.prog w 0 sp held n1 3 ((cs.drop 1).take (Try.prog.cellsOf 3)) = some y1 := g1
  rw [C_3] at g1
  obtain ⟨a1, r1, w1⟩ := rd_3 _ _ _ g1
  have z : cs.drop 2 = [] := List.drop_eq_nil_of_le (by omega)
  have R := (r0.append (r1.append (show RL (Rep (H0 w)) [] (cs.drop 2) by rw [z]; exact rl_n)))
  rw [← (show cs.drop 1 = (cs.drop 1).take 1 ++ cs.drop 2 from split_drop cs 1 1)] at R
  rw [← (show cs.drop 0 = (cs.drop 0).take 1 ++ cs.drop 1 from split_drop cs 0 1)] at R
  exact ⟨⟨a0, a1⟩, R, ⟨w0, w1⟩⟩
def wf_44 (x : FluxRow) : Prop := wf_3 x.Energy ∧ wf_24 x.Rate
theorem rd_44 {H : Type} {en : TypeId × Value → H} {w : World} {sp : Nat → Bool} {held : Bool} : Rd H en Try.prog w sp held 44 enc_44 wf_44 := by
  intro fuel cs x h
  obtain ⟨hl, hf⟩ := rd_struct Try.underlying44 h
  rw [C_44] at hl
  obtain ⟨n0, y0, g0⟩ := hf 0 _ rfl
  have g0 : DataW.trod en Try.prog w 0 sp held n0 3 ((cs.drop 0).take (Try.prog.cellsOf 3)) = some y0 := g0
  rw [C_3] at g0
  obtain ⟨a0, r0, w0⟩ := rd_3 _ _ _ g0
  obtain ⟨n1, y1, g1⟩ := hf 1 _ rfl
  have g1 : DataW.trod en Try.prog w 0 sp held n1 24 ((cs.drop 1).take (Try.prog.cellsOf 24)) = some y1 := g1
  rw [C_24] at g1
  obtain ⟨a1, r1, w1⟩ := rd_24 _ _ _ g1
  have z : cs.drop 3 = [] := List.drop_eq_nil_of_le (by omega)
  have R := (r0.append (r1.append (show RL (Rep (H0 w)) [] (cs.drop 3) by rw [z]; exact rl_n)))
  rw [← (show cs.drop 1 = (cs.drop 1).take 2 ++ cs.drop 3 from split_drop cs 1 2)] at R
  rw [← (show cs.drop 0 = (cs.drop 0).take 1 ++ cs.drop 1 from split_drop cs 0 1)] at R
  exact ⟨⟨a0, a1⟩, R, ⟨w0, w1⟩⟩
def wf_32 (x : (Sl FluxRow)) : Prop := x.len ≤ 9223372036854775807 ∧ ∀ i, i < x.len → wf_44 (x.get i)
theorem rd_32 {H : Type} {en : TypeId × Value → H} {w : World} {sp : Nat → Bool} {held : Bool} : Rd H en Try.prog w sp held 32 enc_32 wf_32 := rd_slice Try.underlying32 C_44 (by decide) (fun _ => rfl) rd_44
def wf_22 (x : (Sl (Sl FluxRow))) : Prop := x.len ≤ 9223372036854775807 ∧ ∀ i, i < x.len → wf_32 (x.get i)
theorem rd_22 {H : Type} {en : TypeId × Value → H} {w : World} {sp : Nat → Bool} {held : Bool} : Rd H en Try.prog w sp held 22 enc_22 wf_22 := rd_slice Try.underlying22 C_32 (by decide) (fun _ => rfl) rd_32
def wf_26 (x : Sky) : Prop := wf_3 x.Parts ∧ wf_22 x.Bins ∧ wf_24 x.Beta ∧ wf_24 x.Alpha
theorem rd_26 {H : Type} {en : TypeId × Value → H} {w : World} {sp : Nat → Bool} {held : Bool} : Rd H en Try.prog w sp held 26 enc_26 wf_26 := by
  intro fuel cs x h
  obtain ⟨hl, hf⟩ := rd_struct Try.underlying26 h
  rw [C_26] at hl
  obtain ⟨n0, y0, g0⟩ := hf 0 _ rfl
  have g0 : DataW.trod en Try.prog w 0 sp held n0 3 ((cs.drop 0).take (Try.prog.cellsOf 3)) = some y0 := g0
  rw [C_3] at g0
  obtain ⟨a0, r0, w0⟩ := rd_3 _ _ _ g0
  obtain ⟨n1, y1, g1⟩ := hf 1 _ rfl
  have g1 : DataW.trod en Try.prog w 0 sp held n1 22 ((cs.drop 1).take (Try.prog.cellsOf 22)) = some y1 := g1
  rw [C_22] at g1
  obtain ⟨a1, r1, w1⟩ := rd_22 _ _ _ g1
  obtain ⟨n2, y2, g2⟩ := hf 2 _ rfl
  have g2 : DataW.trod en Try.prog w 0 sp held n2 24 ((cs.drop 2).take (Try.prog.cellsOf 24)) = some y2 := g2
  rw [C_24] at g2
  obtain ⟨a2, r2, w2⟩ := rd_24 _ _ _ g2
  obtain ⟨n3, y3, g3⟩ := hf 3 _ rfl
  have g3 : DataW.trod en Try.prog w 0 sp held n3 24 ((cs.drop 4).take (Try.prog.cellsOf 24)) = some y3 := g3
  rw [C_24] at g3
  obtain ⟨a3, r3, w3⟩ := rd_24 _ _ _ g3
  have z : cs.drop 6 = [] := List.drop_eq_nil_of_le (by omega)
  have R := (r0.append (r1.append (r2.append (r3.append (show RL (Rep (H0 w)) [] (cs.drop 6) by rw [z]; exact rl_n)))))
  rw [← (show cs.drop 4 = (cs.drop 4).take 2 ++ cs.drop 6 from split_drop cs 4 2)] at R
  rw [← (show cs.drop 2 = (cs.drop 2).take 2 ++ cs.drop 4 from split_drop cs 2 2)] at R
  rw [← (show cs.drop 1 = (cs.drop 1).take 1 ++ cs.drop 2 from split_drop cs 1 1)] at R
  rw [← (show cs.drop 0 = (cs.drop 0).take 1 ++ cs.drop 1 from split_drop cs 0 1)] at R
  exact ⟨⟨a0, a1, a2, a3⟩, R, ⟨w0, w1, w2, w3⟩⟩
def wf_42 (x : RangeRow) : Prop := wf_3 x.Energy ∧ wf_24 x.Range
theorem rd_42 {H : Type} {en : TypeId × Value → H} {w : World} {sp : Nat → Bool} {held : Bool} : Rd H en Try.prog w sp held 42 enc_42 wf_42 := by
  intro fuel cs x h
  obtain ⟨hl, hf⟩ := rd_struct Try.underlying42 h
  rw [C_42] at hl
  obtain ⟨n0, y0, g0⟩ := hf 0 _ rfl
  have g0 : DataW.trod en Try.prog w 0 sp held n0 3 ((cs.drop 0).take (Try.prog.cellsOf 3)) = some y0 := g0
  rw [C_3] at g0
  obtain ⟨a0, r0, w0⟩ := rd_3 _ _ _ g0
  obtain ⟨n1, y1, g1⟩ := hf 1 _ rfl
  have g1 : DataW.trod en Try.prog w 0 sp held n1 24 ((cs.drop 1).take (Try.prog.cellsOf 24)) = some y1 := g1
  rw [C_24] at g1
  obtain ⟨a1, r1, w1⟩ := rd_24 _ _ _ g1
  have z : cs.drop 3 = [] := List.drop_eq_nil_of_le (by omega)
  have R := (r0.append (r1.append (show RL (Rep (H0 w)) [] (cs.drop 3) by rw [z]; exact rl_n)))
  rw [← (show cs.drop 1 = (cs.drop 1).take 2 ++ cs.drop 3 from split_drop cs 1 2)] at R
  rw [← (show cs.drop 0 = (cs.drop 0).take 1 ++ cs.drop 1 from split_drop cs 0 1)] at R
  exact ⟨⟨a0, a1⟩, R, ⟨w0, w1⟩⟩
def wf_27 (x : (Sl RangeRow)) : Prop := x.len ≤ 9223372036854775807 ∧ ∀ i, i < x.len → wf_42 (x.get i)
theorem rd_27 {H : Type} {en : TypeId × Value → H} {w : World} {sp : Nat → Bool} {held : Bool} : Rd H en Try.prog w sp held 27 enc_27 wf_27 := rd_slice Try.underlying27 C_42 (by decide) (fun _ => rfl) rd_42
def wf_37 (x : (Sl Int)) : Prop := x.len ≤ 9223372036854775807 ∧ ∀ i, i < x.len → wf_3 (x.get i)
theorem rd_37 {H : Type} {en : TypeId × Value → H} {w : World} {sp : Nat → Bool} {held : Bool} : Rd H en Try.prog w sp held 37 enc_37 wf_37 := rd_slice Try.underlying37 C_3 (by decide) (fun _ => rfl) rd_3
abbrev wf_4 (_ : Bool) : Prop := True
theorem rd_4 {H : Type} {en : TypeId × Value → H} {w : World} {sp : Nat → Bool} {held : Bool} : Rd H en Try.prog w sp held 4 enc_4 wf_4 := rd_bool Try.underlying4
def wf_39 (x : Nature) : Prop := wf_37 x.Ranges ∧ wf_37 x.Rates ∧ wf_4 x.Soon
theorem rd_39 {H : Type} {en : TypeId × Value → H} {w : World} {sp : Nat → Bool} {held : Bool} : Rd H en Try.prog w sp held 39 enc_39 wf_39 := by
  intro fuel cs x h
  obtain ⟨hl, hf⟩ := rd_struct Try.underlying39 h
  rw [C_39] at hl
  obtain ⟨n0, y0, g0⟩ := hf 0 _ rfl
  have g0 : DataW.trod en Try.prog w 0 sp held n0 37 ((cs.drop 0).take (Try.prog.cellsOf 37)) = some y0 := g0
  rw [C_37] at g0
  obtain ⟨a0, r0, w0⟩ := rd_37 _ _ _ g0
  obtain ⟨n1, y1, g1⟩ := hf 1 _ rfl
  have g1 : DataW.trod en Try.prog w 0 sp held n1 37 ((cs.drop 1).take (Try.prog.cellsOf 37)) = some y1 := g1
  rw [C_37] at g1
  obtain ⟨a1, r1, w1⟩ := rd_37 _ _ _ g1
  obtain ⟨n2, y2, g2⟩ := hf 2 _ rfl
  have g2 : DataW.trod en Try.prog w 0 sp held n2 4 ((cs.drop 2).take (Try.prog.cellsOf 4)) = some y2 := g2
  rw [C_4] at g2
  obtain ⟨a2, r2, w2⟩ := rd_4 _ _ _ g2
  have z : cs.drop 3 = [] := List.drop_eq_nil_of_le (by omega)
  have R := (r0.append (r1.append (r2.append (show RL (Rep (H0 w)) [] (cs.drop 3) by rw [z]; exact rl_n))))
  rw [← (show cs.drop 2 = (cs.drop 2).take 1 ++ cs.drop 3 from split_drop cs 2 1)] at R
  rw [← (show cs.drop 1 = (cs.drop 1).take 1 ++ cs.drop 2 from split_drop cs 1 1)] at R
  rw [← (show cs.drop 0 = (cs.drop 0).take 1 ++ cs.drop 1 from split_drop cs 0 1)] at R
  exact ⟨⟨a0, a1, a2⟩, R, ⟨w0, w1, w2⟩⟩
def wf_54 (x : Weather) : Prop := wf_24 x.Pressure ∧ wf_24 x.Warm
theorem rd_54 {H : Type} {en : TypeId × Value → H} {w : World} {sp : Nat → Bool} {held : Bool} : Rd H en Try.prog w sp held 54 enc_54 wf_54 := by
  intro fuel cs x h
  obtain ⟨hl, hf⟩ := rd_struct Try.underlying54 h
  rw [C_54] at hl
  obtain ⟨n0, y0, g0⟩ := hf 0 _ rfl
  have g0 : DataW.trod en Try.prog w 0 sp held n0 24 ((cs.drop 0).take (Try.prog.cellsOf 24)) = some y0 := g0
  rw [C_24] at g0
  obtain ⟨a0, r0, w0⟩ := rd_24 _ _ _ g0
  obtain ⟨n1, y1, g1⟩ := hf 1 _ rfl
  have g1 : DataW.trod en Try.prog w 0 sp held n1 24 ((cs.drop 2).take (Try.prog.cellsOf 24)) = some y1 := g1
  rw [C_24] at g1
  obtain ⟨a1, r1, w1⟩ := rd_24 _ _ _ g1
  have z : cs.drop 4 = [] := List.drop_eq_nil_of_le (by omega)
  have R := (r0.append (r1.append (show RL (Rep (H0 w)) [] (cs.drop 4) by rw [z]; exact rl_n)))
  rw [← (show cs.drop 2 = (cs.drop 2).take 2 ++ cs.drop 4 from split_drop cs 2 2)] at R
  rw [← (show cs.drop 0 = (cs.drop 0).take 2 ++ cs.drop 2 from split_drop cs 0 2)] at R
  exact ⟨⟨a0, a1⟩, R, ⟨w0, w1⟩⟩
def wf_56 (x : Spell) : Prop := wf_3 x.Slots ∧ wf_54 x.Weather
theorem rd_56 {H : Type} {en : TypeId × Value → H} {w : World} {sp : Nat → Bool} {held : Bool} : Rd H en Try.prog w sp held 56 enc_56 wf_56 := by
  intro fuel cs x h
  obtain ⟨hl, hf⟩ := rd_struct Try.underlying56 h
  rw [C_56] at hl
  obtain ⟨n0, y0, g0⟩ := hf 0 _ rfl
  have g0 : DataW.trod en Try.prog w 0 sp held n0 3 ((cs.drop 0).take (Try.prog.cellsOf 3)) = some y0 := g0
  rw [C_3] at g0
  obtain ⟨a0, r0, w0⟩ := rd_3 _ _ _ g0
  obtain ⟨n1, y1, g1⟩ := hf 1 _ rfl
  have g1 : DataW.trod en Try.prog w 0 sp held n1 54 ((cs.drop 1).take (Try.prog.cellsOf 54)) = some y1 := g1
  rw [C_54] at g1
  obtain ⟨a1, r1, w1⟩ := rd_54 _ _ _ g1
  have z : cs.drop 5 = [] := List.drop_eq_nil_of_le (by omega)
  have R := (r0.append (r1.append (show RL (Rep (H0 w)) [] (cs.drop 5) by rw [z]; exact rl_n)))
  rw [← (show cs.drop 1 = (cs.drop 1).take 4 ++ cs.drop 5 from split_drop cs 1 4)] at R
  rw [← (show cs.drop 0 = (cs.drop 0).take 1 ++ cs.drop 1 from split_drop cs 0 1)] at R
  exact ⟨⟨a0, a1⟩, R, ⟨w0, w1⟩⟩
def wf_46 (x : (Sl Spell)) : Prop := x.len ≤ 9223372036854775807 ∧ ∀ i, i < x.len → wf_56 (x.get i)
theorem rd_46 {H : Type} {en : TypeId × Value → H} {w : World} {sp : Nat → Bool} {held : Bool} : Rd H en Try.prog w sp held 46 enc_46 wf_46 := rd_slice Try.underlying46 C_56 (by decide) (fun _ => rfl) rd_56
def wf_52 (x : Sample) : Prop := wf_3 x.Pressure ∧ wf_3 x.Warm
theorem rd_52 {H : Type} {en : TypeId × Value → H} {w : World} {sp : Nat → Bool} {held : Bool} : Rd H en Try.prog w sp held 52 enc_52 wf_52 := by
  intro fuel cs x h
  obtain ⟨hl, hf⟩ := rd_struct Try.underlying52 h
  rw [C_52] at hl
  obtain ⟨n0, y0, g0⟩ := hf 0 _ rfl
  have g0 : DataW.trod en Try.prog w 0 sp held n0 3 ((cs.drop 0).take (Try.prog.cellsOf 3)) = some y0 := g0
  rw [C_3] at g0
  obtain ⟨a0, r0, w0⟩ := rd_3 _ _ _ g0
  obtain ⟨n1, y1, g1⟩ := hf 1 _ rfl
  have g1 : DataW.trod en Try.prog w 0 sp held n1 3 ((cs.drop 1).take (Try.prog.cellsOf 3)) = some y1 := g1
  rw [C_3] at g1
  obtain ⟨a1, r1, w1⟩ := rd_3 _ _ _ g1
  have z : cs.drop 2 = [] := List.drop_eq_nil_of_le (by omega)
  have R := (r0.append (r1.append (show RL (Rep (H0 w)) [] (cs.drop 2) by rw [z]; exact rl_n)))
  rw [← (show cs.drop 1 = (cs.drop 1).take 1 ++ cs.drop 2 from split_drop cs 1 1)] at R
  rw [← (show cs.drop 0 = (cs.drop 0).take 1 ++ cs.drop 1 from split_drop cs 0 1)] at R
  exact ⟨⟨a0, a1⟩, R, ⟨w0, w1⟩⟩
def wf_47 (x : (Sl Sample)) : Prop := x.len ≤ 9223372036854775807 ∧ ∀ i, i < x.len → wf_52 (x.get i)
theorem rd_47 {H : Type} {en : TypeId × Value → H} {w : World} {sp : Nat → Bool} {held : Bool} : Rd H en Try.prog w sp held 47 enc_47 wf_47 := rd_slice Try.underlying47 C_52 (by decide) (fun _ => rfl) rd_52
def wf_129 (x : KinkRow) : Prop := wf_3 x.Opacity ∧ wf_24 x.Share
theorem rd_129 {H : Type} {en : TypeId × Value → H} {w : World} {sp : Nat → Bool} {held : Bool} : Rd H en Try.prog w sp held 129 enc_129 wf_129 := by
  intro fuel cs x h
  obtain ⟨hl, hf⟩ := rd_struct Try.underlying129 h
  rw [C_129] at hl
  obtain ⟨n0, y0, g0⟩ := hf 0 _ rfl
  have g0 : DataW.trod en Try.prog w 0 sp held n0 3 ((cs.drop 0).take (Try.prog.cellsOf 3)) = some y0 := g0
  rw [C_3] at g0
  obtain ⟨a0, r0, w0⟩ := rd_3 _ _ _ g0
  obtain ⟨n1, y1, g1⟩ := hf 1 _ rfl
  have g1 : DataW.trod en Try.prog w 0 sp held n1 24 ((cs.drop 1).take (Try.prog.cellsOf 24)) = some y1 := g1
  rw [C_24] at g1
  obtain ⟨a1, r1, w1⟩ := rd_24 _ _ _ g1
  have z : cs.drop 3 = [] := List.drop_eq_nil_of_le (by omega)
  have R := (r0.append (r1.append (show RL (Rep (H0 w)) [] (cs.drop 3) by rw [z]; exact rl_n)))
  rw [← (show cs.drop 1 = (cs.drop 1).take 2 ++ cs.drop 3 from split_drop cs 1 2)] at R
  rw [← (show cs.drop 0 = (cs.drop 0).take 1 ++ cs.drop 1 from split_drop cs 0 1)] at R
  exact ⟨⟨a0, a1⟩, R, ⟨w0, w1⟩⟩
def wf_97 (x : (Sl KinkRow)) : Prop := x.len ≤ 9223372036854775807 ∧ ∀ i, i < x.len → wf_129 (x.get i)
theorem rd_97 {H : Type} {en : TypeId × Value → H} {w : World} {sp : Nat → Bool} {held : Bool} : Rd H en Try.prog w sp held 97 enc_97 wf_97 := rd_slice Try.underlying97 C_129 (by decide) (fun _ => rfl) rd_129
end Go.Proofs
namespace Go.Proofs
open Go Go.Pm
set_option linter.unusedVariables false
theorem s63_eq (n lo hi : Int) : s63 n lo hi = decide (lo ≤ n ∧ n ≤ hi) := by
  unfold s63
  by_cases h1 : lo ≤ n <;> by_cases h2 : n ≤ hi <;> simp [h1, h2]
theorem s58_eq (n lo hi : Int) : s58 n lo hi = decide (lo ≤ n ∧ n ≤ hi) := by
  unfold s58
  by_cases h1 : lo ≤ n <;> by_cases h2 : n ≤ hi <;> simp [h1, h2]
theorem s69_eq (s : Span) (lo hi : Int) : s69 s lo hi = decide (lo ≤ s.Low ∧ s.Low ≤ s.High ∧ s.High ≤ hi) := by
  unfold s69
  rw [s63_eq]
  by_cases h1 : lo ≤ s.Low <;> by_cases h2 : s.Low ≤ s.High <;> by_cases h3 : s.High ≤ hi <;> simp [h1, h2, h3]
theorem s29_eq (s : Span) (lo hi : Int) : s29 s lo hi = decide (lo ≤ s.Low ∧ s.Low ≤ s.High ∧ s.High ≤ hi) := by
  unfold s29
  by_cases h1 : lo ≤ s.Low <;> by_cases h2 : s.Low ≤ s.High <;> by_cases h3 : s.High ≤ hi <;> simp [h1, h2, h3]
theorem s94_eq (a b : Span) : s94 a b = decide (a.Low ≤ b.Low ∧ a.High ≤ b.High) := by
  unfold s94
  by_cases h1 : a.Low ≤ b.Low <;> by_cases h2 : a.High ≤ b.High <;> simp [h1, h2]
theorem s104_eq (a b : Span) : s104 a b = decide (b.Low ≤ a.Low ∧ b.High ≤ a.High) := by
  unfold s104
  rw [s94_eq]
def TRow (t : Sl RangeRow) (i : Nat) : Prop := (1 ≤ (t.get i).Energy ∧ (t.get i).Energy ≤ 1000000) ∧ (0 ≤ (t.get i).Range.Low ∧ (t.get i).Range.Low ≤ (t.get i).Range.High ∧ (t.get i).Range.High ≤ 1000000) ∧
  (i = 0 ∨ (t.get (i - 1)).Energy < (t.get i).Energy ∧ (t.get (i - 1)).Range.Low ≤ (t.get i).Range.Low ∧ (t.get (i - 1)).Range.High ≤ (t.get i).Range.High)
instance (t : Sl RangeRow) (i : Nat) : Decidable (TRow t i) := by unfold TRow; infer_instance
def BRow (parts : Int) (t : Sl FluxRow) (i : Nat) : Prop := (1 ≤ (t.get i).Energy ∧ (t.get i).Energy ≤ 1000000) ∧ (0 ≤ (t.get i).Rate.Low ∧ (t.get i).Rate.Low ≤ (t.get i).Rate.High ∧ (t.get i).Rate.High ≤ parts) ∧
  (i = 0 ∨ (t.get (i - 1)).Energy < (t.get i).Energy ∧ (t.get i).Rate.Low ≤ (t.get (i - 1)).Rate.Low ∧ (t.get i).Rate.High ≤ (t.get (i - 1)).Rate.High)
instance (parts : Int) (t : Sl FluxRow) (i : Nat) : Decidable (BRow parts t i) := by unfold BRow; infer_instance
theorem s91_eq (t : Sl RangeRow) (hn : t.len ≤ 9223372036854775807) :
    p91 t 1 1000000 1000000 = true ∧ (s91 t 1 1000000 1000000 = true ↔ (∀ i, i < t.len → decide (TRow t i) = true) ∧ decide (1 ≤ (t.len : Int) ∧ (t.len : Int) ≤ 40) = true) := by
  refine all_loop (n := t.len) (good := fun i => decide (TRow t i)) (lpS := s91_lp0 t 1 1000000 1000000) (lpP := p91_lp0 t 1 1000000 1000000) ?_ ?_ ?_ ?_ hn
  · intro k i hi
    show s91_st0 t 1 1000000 1000000 (s91_lp0 t 1 1000000 1000000 k) i = cond (decide (TRow t i)) _ _
    generalize s91_lp0 t 1 1000000 1000000 k = S
    unfold s91_st0 s91_at1 s91_at2 s91_at3
    have e0 : (i : Int).toNat = i := by omega
    have el : decide ((i : Int) < (t.len : Int)) = true := decide_eq_true (by omega)
    by_cases h0 : 0 < i
    · have e2 : w64 ((i : Int) - 1) = ((i - 1 : Nat) : Int) := by rw [w64_id (by omega) (by omega)]; omega
      by_cases hg : TRow t i
      all_goals
        first | rw [decide_eq_true hg] | rw [decide_eq_false hg]
        unfold TRow at hg
        simp only [s63_eq, s69_eq, s94_eq, s92, s93, e0, el, e2, Int.toNat_natCast, Bool.cond_decide, ← decide_not, cond_true, cond_false]
        repeat' split
        all_goals first | rfl | (exfalso; omega)
    · have : i = 0 := by omega
      subst this
      by_cases hg : TRow t 0
      all_goals
        first | rw [decide_eq_true hg] | rw [decide_eq_false hg]
        unfold TRow at hg
        simp only [s63_eq, s69_eq, s94_eq, s92, s93, e0, el, Bool.cond_decide, ← decide_not, cond_true, cond_false]
        repeat' split
        all_goals first | rfl | (exfalso; omega)
  · intro k
    show s91_st0 t 1 1000000 1000000 (s91_lp0 t 1 1000000 1000000 k) _ = _
    unfold s91_st0
    rw [decide_eq_false (by omega), cond_false]
    rw [s63_eq]
  · intro k i hi
    show p91_st0 t 1 1000000 1000000 (p91_lp0 t 1 1000000 1000000 k) i = cond (decide (TRow t i)) _ _
    generalize p91_lp0 t 1 1000000 1000000 k = S
    unfold p91_st0 p91_at1 p91_at2 p91_at3
    have e0 : (i : Int).toNat = i := by omega
    have el : decide ((i : Int) < (t.len : Int)) = true := decide_eq_true (by omega)
    have e4 : decide (0 ≤ (i : Int) ∧ (i : Int) < (t.len : Int)) = true := decide_eq_true (by omega)
    by_cases h0 : 0 < i
    · have e2 : w64 ((i : Int) - 1) = ((i - 1 : Nat) : Int) := by rw [w64_id (by omega) (by omega)]; omega
      have e3 : decide (0 ≤ ((i - 1 : Nat) : Int) ∧ ((i - 1 : Nat) : Int) < (t.len : Int)) = true := decide_eq_true (by omega)
      by_cases hg : TRow t i
      all_goals
        first | rw [decide_eq_true hg] | rw [decide_eq_false hg]
        unfold TRow at hg
        simp only [s63_eq, s69_eq, s94_eq, s92, s93, e0, el, e2, Int.toNat_natCast, e3, e4, Bool.true_and, Bool.cond_decide, ← decide_not, cond_true, cond_false]
        repeat' split
        all_goals first | rfl | (exfalso; omega)
    · have : i = 0 := by omega
      subst this
      by_cases hg : TRow t 0
      all_goals
        first | rw [decide_eq_true hg] | rw [decide_eq_false hg]
        unfold TRow at hg
        simp only [s63_eq, s69_eq, s94_eq, s92, s93, e0, el, e4, Bool.true_and, Bool.cond_decide, ← decide_not, cond_true, cond_false]
        repeat' split
        all_goals first | rfl | (exfalso; omega)
  · intro k
    show p91_st0 t 1 1000000 1000000 (p91_lp0 t 1 1000000 1000000 k) _ = _
    unfold p91_st0
    rw [decide_eq_false (by omega), cond_false]
theorem s17_eq (t : Sl RangeRow) (hn : t.len ≤ 9223372036854775807) :
    p17 t = true ∧ (s17 t = true ↔ (∀ i, i < t.len → decide (TRow t i) = true) ∧ decide (1 ≤ (t.len : Int) ∧ (t.len : Int) ≤ 40) = true) := by
  refine all_loop (n := t.len) (good := fun i => decide (TRow t i)) (lpS := s17_lp0 t) (lpP := p17_lp0 t) ?_ ?_ ?_ ?_ hn
  · intro k i hi
    show s17_st0 t (s17_lp0 t k) i = cond (decide (TRow t i)) _ _
    generalize s17_lp0 t k = S
    unfold s17_st0 s17_at1
    have e0 : (i : Int).toNat = i := by omega
    have el : decide ((i : Int) < (t.len : Int)) = true := decide_eq_true (by omega)
    by_cases h0 : 0 < i
    · have e2 : w64 ((i : Int) - 1) = ((i - 1 : Nat) : Int) := by rw [w64_id (by omega) (by omega)]; omega
      by_cases hg : TRow t i
      all_goals
        first | rw [decide_eq_true hg] | rw [decide_eq_false hg]
        unfold TRow at hg
        simp only [s58_eq, s29_eq, e0, el, e2, Int.toNat_natCast, Bool.cond_decide, ← decide_not, cond_true, cond_false]
        repeat' split
        all_goals first | rfl | (exfalso; omega)
    · have : i = 0 := by omega
      subst this
      by_cases hg : TRow t 0
      all_goals
        first | rw [decide_eq_true hg] | rw [decide_eq_false hg]
        unfold TRow at hg
        simp only [s58_eq, s29_eq, e0, el, Bool.cond_decide, ← decide_not, cond_true, cond_false]
        repeat' split
        all_goals first | rfl | (exfalso; omega)
  · intro k
    show s17_st0 t (s17_lp0 t k) _ = _
    unfold s17_st0
    rw [decide_eq_false (by omega), cond_false]
    rw [s58_eq]
  · intro k i hi
    show p17_st0 t (p17_lp0 t k) i = cond (decide (TRow t i)) _ _
    generalize p17_lp0 t k = S
    unfold p17_st0 p17_at1
    have e0 : (i : Int).toNat = i := by omega
    have el : decide ((i : Int) < (t.len : Int)) = true := decide_eq_true (by omega)
    have e4 : decide (0 ≤ (i : Int) ∧ (i : Int) < (t.len : Int)) = true := decide_eq_true (by omega)
    by_cases h0 : 0 < i
    · have e2 : w64 ((i : Int) - 1) = ((i - 1 : Nat) : Int) := by rw [w64_id (by omega) (by omega)]; omega
      have e3 : decide (0 ≤ ((i - 1 : Nat) : Int) ∧ ((i - 1 : Nat) : Int) < (t.len : Int)) = true := decide_eq_true (by omega)
      by_cases hg : TRow t i
      all_goals
        first | rw [decide_eq_true hg] | rw [decide_eq_false hg]
        unfold TRow at hg
        simp only [s58_eq, s29_eq, e0, el, e2, Int.toNat_natCast, e3, e4, Bool.true_and, Bool.cond_decide, ← decide_not, cond_true, cond_false]
        repeat' split
        all_goals first | rfl | (exfalso; omega)
    · have : i = 0 := by omega
      subst this
      by_cases hg : TRow t 0
      all_goals
        first | rw [decide_eq_true hg] | rw [decide_eq_false hg]
        unfold TRow at hg
        simp only [s58_eq, s29_eq, e0, el, e4, Bool.true_and, Bool.cond_decide, ← decide_not, cond_true, cond_false]
        repeat' split
        all_goals first | rfl | (exfalso; omega)
  · intro k
    show p17_st0 t (p17_lp0 t k) _ = _
    unfold p17_st0
    rw [decide_eq_false (by omega), cond_false]
theorem s101_eq (parts : Int) (t : Sl FluxRow) (hn : t.len ≤ 9223372036854775807) :
    p101 t 1 1000000 parts = true ∧ (s101 t 1 1000000 parts = true ↔ (∀ i, i < t.len → decide (BRow parts t i) = true) ∧ decide (1 ≤ (t.len : Int) ∧ (t.len : Int) ≤ 40) = true) := by
  refine all_loop (n := t.len) (good := fun i => decide (BRow parts t i)) (lpS := s101_lp0 t 1 1000000 parts) (lpP := p101_lp0 t 1 1000000 parts) ?_ ?_ ?_ ?_ hn
  · intro k i hi
    show s101_st0 t 1 1000000 parts (s101_lp0 t 1 1000000 parts k) i = cond (decide (BRow parts t i)) _ _
    generalize s101_lp0 t 1 1000000 parts k = S
    unfold s101_st0 s101_at1 s101_at2 s101_at3
    have e0 : (i : Int).toNat = i := by omega
    have el : decide ((i : Int) < (t.len : Int)) = true := decide_eq_true (by omega)
    by_cases h0 : 0 < i
    · have e2 : w64 ((i : Int) - 1) = ((i - 1 : Nat) : Int) := by rw [w64_id (by omega) (by omega)]; omega
      by_cases hg : BRow parts t i
      all_goals
        first | rw [decide_eq_true hg] | rw [decide_eq_false hg]
        unfold BRow at hg
        simp only [s63_eq, s69_eq, s104_eq, s102, s103, e0, el, e2, Int.toNat_natCast, Bool.cond_decide, ← decide_not, cond_true, cond_false]
        repeat' split
        all_goals first | rfl | (exfalso; omega)
    · have : i = 0 := by omega
      subst this
      by_cases hg : BRow parts t 0
      all_goals
        first | rw [decide_eq_true hg] | rw [decide_eq_false hg]
        unfold BRow at hg
        simp only [s63_eq, s69_eq, s104_eq, s102, s103, e0, el, Bool.cond_decide, ← decide_not, cond_true, cond_false]
        repeat' split
        all_goals first | rfl | (exfalso; omega)
  · intro k
    show s101_st0 t 1 1000000 parts (s101_lp0 t 1 1000000 parts k) _ = _
    unfold s101_st0
    rw [decide_eq_false (by omega), cond_false]
    rw [s63_eq]
  · intro k i hi
    show p101_st0 t 1 1000000 parts (p101_lp0 t 1 1000000 parts k) i = cond (decide (BRow parts t i)) _ _
    generalize p101_lp0 t 1 1000000 parts k = S
    unfold p101_st0 p101_at1 p101_at2 p101_at3
    have e0 : (i : Int).toNat = i := by omega
    have el : decide ((i : Int) < (t.len : Int)) = true := decide_eq_true (by omega)
    have e4 : decide (0 ≤ (i : Int) ∧ (i : Int) < (t.len : Int)) = true := decide_eq_true (by omega)
    by_cases h0 : 0 < i
    · have e2 : w64 ((i : Int) - 1) = ((i - 1 : Nat) : Int) := by rw [w64_id (by omega) (by omega)]; omega
      have e3 : decide (0 ≤ ((i - 1 : Nat) : Int) ∧ ((i - 1 : Nat) : Int) < (t.len : Int)) = true := decide_eq_true (by omega)
      by_cases hg : BRow parts t i
      all_goals
        first | rw [decide_eq_true hg] | rw [decide_eq_false hg]
        unfold BRow at hg
        simp only [s63_eq, s69_eq, s104_eq, s102, s103, e0, el, e2, Int.toNat_natCast, e3, e4, Bool.true_and, Bool.cond_decide, ← decide_not, cond_true, cond_false]
        repeat' split
        all_goals first | rfl | (exfalso; omega)
    · have : i = 0 := by omega
      subst this
      by_cases hg : BRow parts t 0
      all_goals
        first | rw [decide_eq_true hg] | rw [decide_eq_false hg]
        unfold BRow at hg
        simp only [s63_eq, s69_eq, s104_eq, s102, s103, e0, el, e4, Bool.true_and, Bool.cond_decide, ← decide_not, cond_true, cond_false]
        repeat' split
        all_goals first | rfl | (exfalso; omega)
  · intro k
    show p101_st0 t 1 1000000 parts (p101_lp0 t 1 1000000 parts k) _ = _
    unfold p101_st0
    rw [decide_eq_false (by omega), cond_false]
theorem s59_eq (parts : Int) (t : Sl FluxRow) (hn : t.len ≤ 9223372036854775807) :
    p59 parts t = true ∧ (s59 parts t = true ↔ (∀ i, i < t.len → decide (BRow parts t i) = true) ∧ (cond (decide (1 ≤ (t.len : Int) ∧ (t.len : Int) ≤ 40)) ((t.get 0).Energy == (1:Int)) false) = true) := by
  refine all_loop (n := t.len) (good := fun i => decide (BRow parts t i)) (lpS := s59_lp0 parts t) (lpP := p59_lp0 parts t) ?_ ?_ ?_ ?_ hn
  · intro k i hi
    show s59_st0 parts t (s59_lp0 parts t k) i = cond (decide (BRow parts t i)) _ _
    generalize s59_lp0 parts t k = S
    unfold s59_st0 s59_at1
    have e0 : (i : Int).toNat = i := by omega
    have el : decide ((i : Int) < (t.len : Int)) = true := decide_eq_true (by omega)
    by_cases h0 : 0 < i
    · have e2 : w64 ((i : Int) - 1) = ((i - 1 : Nat) : Int) := by rw [w64_id (by omega) (by omega)]; omega
      by_cases hg : BRow parts t i
      all_goals
        first | rw [decide_eq_true hg] | rw [decide_eq_false hg]
        unfold BRow at hg
        simp only [s58_eq, s29_eq, e0, el, e2, Int.toNat_natCast, Bool.cond_decide, ← decide_not, cond_true, cond_false]
        repeat' split
        all_goals first | rfl | (exfalso; omega)
    · have : i = 0 := by omega
      subst this
      by_cases hg : BRow parts t 0
      all_goals
        first | rw [decide_eq_true hg] | rw [decide_eq_false hg]
        unfold BRow at hg
        simp only [s58_eq, s29_eq, e0, el, Bool.cond_decide, ← decide_not, cond_true, cond_false]
        repeat' split
        all_goals first | rfl | (exfalso; omega)
  · intro k
    show s59_st0 parts t (s59_lp0 parts t k) _ = _
    unfold s59_st0
    rw [decide_eq_false (by omega), cond_false]
    rw [s58_eq]
  · intro k i hi
    show p59_st0 parts t (p59_lp0 parts t k) i = cond (decide (BRow parts t i)) _ _
    generalize p59_lp0 parts t k = S
    unfold p59_st0 p59_at1
    have e0 : (i : Int).toNat = i := by omega
    have el : decide ((i : Int) < (t.len : Int)) = true := decide_eq_true (by omega)
    have e4 : decide (0 ≤ (i : Int) ∧ (i : Int) < (t.len : Int)) = true := decide_eq_true (by omega)
    by_cases h0 : 0 < i
    · have e2 : w64 ((i : Int) - 1) = ((i - 1 : Nat) : Int) := by rw [w64_id (by omega) (by omega)]; omega
      have e3 : decide (0 ≤ ((i - 1 : Nat) : Int) ∧ ((i - 1 : Nat) : Int) < (t.len : Int)) = true := decide_eq_true (by omega)
      by_cases hg : BRow parts t i
      all_goals
        first | rw [decide_eq_true hg] | rw [decide_eq_false hg]
        unfold BRow at hg
        simp only [s58_eq, s29_eq, e0, el, e2, Int.toNat_natCast, e3, e4, Bool.true_and, Bool.cond_decide, ← decide_not, cond_true, cond_false]
        repeat' split
        all_goals first | rfl | (exfalso; omega)
    · have : i = 0 := by omega
      subst this
      by_cases hg : BRow parts t 0
      all_goals
        first | rw [decide_eq_true hg] | rw [decide_eq_false hg]
        unfold BRow at hg
        simp only [s58_eq, s29_eq, e0, el, e4, Bool.true_and, Bool.cond_decide, ← decide_not, cond_true, cond_false]
        repeat' split
        all_goals first | rfl | (exfalso; omega)
  · intro k
    show p59_st0 parts t (p59_lp0 parts t k) _ = _
    unfold p59_st0
    rw [decide_eq_false (by omega), cond_false]
    rw [s58_eq]
    by_cases h : 1 ≤ (t.len : Int) ∧ (t.len : Int) ≤ 40
    · rw [decide_eq_true h, decide_eq_true (by omega)]; rfl
    · rw [decide_eq_false h]; rfl
def TOk (t : Sl RangeRow) : Prop := (1 ≤ (t.len : Int) ∧ (t.len : Int) ≤ 40) ∧ ∀ i, i < t.len → TRow t i
def BOk (parts : Int) (t : Sl FluxRow) : Prop := (1 ≤ (t.len : Int) ∧ (t.len : Int) ≤ 40) ∧ (t.get 0).Energy = 1 ∧ ∀ i, i < t.len → BRow parts t i
def SOk (s : Sky) : Prop := ((2 ≤ s.Parts ∧ s.Parts ≤ 1000000) ∧ (1 ≤ (s.Bins.len : Int) ∧ (s.Bins.len : Int) ≤ 20) ∧ (-100 ≤ s.Beta.Low ∧ s.Beta.Low ≤ s.Beta.High ∧ s.Beta.High ≤ 100) ∧ (-100 ≤ s.Alpha.Low ∧ s.Alpha.Low ≤ s.Alpha.High ∧ s.Alpha.High ≤ 100)) ∧ ∀ i, i < s.Bins.len → BOk s.Parts (s.Bins.get i)
theorem s62_ok (t : Sl RangeRow) (hn : t.len ≤ 9223372036854775807) : p62 t = true ∧ (s62 t = true ↔ TOk t) := by
  obtain ⟨h1, h2⟩ := s91_eq t hn
  unfold p62 s62 TOk
  rw [h1]
  refine ⟨rfl, h2.trans ?_⟩
  simp only [decide_eq_true_eq]
  exact And.comm
theorem s17_ok (t : Sl RangeRow) (hn : t.len ≤ 9223372036854775807) : p17 t = true ∧ s17 t = s62 t := by
  obtain ⟨h1, h2⟩ := s17_eq t hn
  refine ⟨h1, Bool.eq_iff_iff.2 (h2.trans ((s62_ok t hn).2.trans ?_).symm)⟩
  unfold TOk
  simp only [decide_eq_true_eq]
  exact And.comm
theorem s101_ok (parts : Int) (t : Sl FluxRow) (hn : t.len ≤ 9223372036854775807) : p101 t 1 1000000 parts = true ∧ ((s101 t 1 1000000 parts && (t.get 0).Energy == 1) = true ↔ BOk parts t) ∧ (s101 t 1 1000000 parts = true → 0 < t.len) := by
  obtain ⟨h1, h2⟩ := s101_eq parts t hn
  refine ⟨h1, ?_, fun h => ?_⟩
  · rw [Bool.and_eq_true, h2]
    unfold BOk
    simp only [decide_eq_true_eq, beq_iff_eq]
    exact ⟨fun h => ⟨h.1.2, h.2, h.1.1⟩, fun h => ⟨⟨h.2.2, h.1⟩, h.2.1⟩⟩
  · have := of_decide_eq_true (h2.1 h).2
    omega
theorem s59_ok (parts : Int) (t : Sl FluxRow) (hn : t.len ≤ 9223372036854775807) : p59 parts t = true ∧ (s59 parts t = true ↔ BOk parts t) := by
  obtain ⟨h1, h2⟩ := s59_eq parts t hn
  refine ⟨h1, h2.trans ?_⟩
  unfold BOk
  simp only [decide_eq_true_eq, Bool.cond_decide, Bool.if_false_right, Bool.and_eq_true, beq_iff_eq]
  exact ⟨fun h => ⟨h.2.1, h.2.2, h.1⟩, fun h => ⟨h.2.2, h.1, h.2.1⟩⟩
end Go.Proofs
namespace Go.Proofs
open Go Go.Pm
set_option linter.unusedVariables false
theorem last_fst {β : Type} {c d : Nat → Bool} {v : Nat → β} {n : Nat} {a : β} (hcd : ∀ i, i < n → d i = !c i) (hup : ∀ i j, i ≤ j → j < n → d i = true → d j = true) :
    lastF c v n a = if 0 < fst d n then v (fst d n - 1) else a := by
  have hl := fst_le d n
  have hhi : ∀ j, fst d n ≤ j → j < n → c j = false := by
    intro j h1 h2
    have := hup _ _ h1 h2 (fst_hi (by omega))
    rw [hcd j h2] at this
    simpa using this
  by_cases h : 0 < fst d n
  · rw [if_pos h]
    refine last_at (by omega) ?_ (fun j h1 h2 => hhi j (by omega) h2)
    have := fst_lo (c := d) (n := n) (j := fst d n - 1) (by omega)
    rw [hcd _ (by omega)] at this
    simpa using this
  · rw [if_neg h]
    exact last_none fun j hj => hhi j (by omega) hj
def SL (s : Sky) : Prop := s.Bins.len ≤ 9223372036854775807 ∧ ∀ i, i < s.Bins.len → (s.Bins.get i).len ≤ 9223372036854775807
theorem s75_ok (s : Sky) (hs : SL s) : p75 s = true ∧ (s75 s = true ↔ SOk s) := by
  have h : p75 s = true ∧ (s75 s = true ↔ (∀ i, i < s.Bins.len → (s101 (s.Bins.get i) 1 1000000 s.Parts && ((s.Bins.get i).get 0).Energy == 1) = true) ∧ s75_at2 s s.Bins = true) := by
    refine all_loop (n := s.Bins.len) (good := fun i => s101 (s.Bins.get i) 1 1000000 s.Parts && ((s.Bins.get i).get 0).Energy == 1) (lpS := fun k i => s75_lp0 s k s.Bins (s.Bins.len : Int) i s.Bins) (lpP := fun k i => p75_lp0 s k s.Bins (s.Bins.len : Int) i s.Bins) ?_ ?_ ?_ ?_ hs.1
    · intro k i hi
      show s75_st0 s (s75_lp0 s k) s.Bins (s.Bins.len : Int) i s.Bins = cond _ (s75_lp0 s k s.Bins (s.Bins.len : Int) (w64 ((i : Int) + 1)) s.Bins) false
      generalize s75_lp0 s k = S
      unfold s75_st0 s75_at1
      rw [decide_eq_true (by omega), Int.toNat_natCast]
      cases s101 (s.Bins.get i) 1 1000000 s.Parts
      · rfl
      · cases h : ((s.Bins.get i).get 0).Energy == 1 <;> simp [bne, h]
    · intro k
      show s75_st0 s (s75_lp0 s k) s.Bins (s.Bins.len : Int) _ s.Bins = _
      unfold s75_st0
      rw [decide_eq_false (by omega), cond_false]
    · intro k i hi
      show p75_st0 s (p75_lp0 s k) s.Bins (s.Bins.len : Int) i s.Bins = cond _ (p75_lp0 s k s.Bins (s.Bins.len : Int) (w64 ((i : Int) + 1)) s.Bins) true
      generalize p75_lp0 s k = S
      unfold p75_st0 p75_at1
      obtain ⟨h1, _, h3⟩ := s101_ok s.Parts (s.Bins.get i) (hs.2 i hi)
      rw [decide_eq_true (by omega), Int.toNat_natCast, h1, decide_eq_true (show 0 ≤ (i : Int) ∧ (i : Int) < (s.Bins.len : Int) by omega)]
      cases h : s101 (s.Bins.get i) 1 1000000 s.Parts
      · rfl
      · have h4 := h3 h
        rw [decide_eq_true (show (0 : Int) ≤ 0 ∧ (0 : Int) < ((s.Bins.get i).len : Int) by omega)]
        cases h : ((s.Bins.get i).get 0).Energy == 1 <;> simp [bne, h]
    · intro k
      show p75_st0 s (p75_lp0 s k) s.Bins (s.Bins.len : Int) _ s.Bins = _
      unfold p75_st0
      rw [decide_eq_false (by omega), cond_false]
  refine ⟨h.1, h.2.trans ?_⟩
  have e : s75_at2 s s.Bins = true ↔ ((2 ≤ s.Parts ∧ s.Parts ≤ 1000000) ∧ (1 ≤ (s.Bins.len : Int) ∧ (s.Bins.len : Int) ≤ 20) ∧ (-100 ≤ s.Beta.Low ∧ s.Beta.Low ≤ s.Beta.High ∧ s.Beta.High ≤ 100) ∧ (-100 ≤ s.Alpha.Low ∧ s.Alpha.Low ≤ s.Alpha.High ∧ s.Alpha.High ≤ 100)) := by
    unfold s75_at2
    rw [s63_eq, s63_eq, s69_eq, s69_eq]
    simp only [Bool.cond_decide, Bool.if_false_right, Bool.and_eq_true, decide_eq_true_eq]
  rw [e]
  unfold SOk
  exact ⟨fun h => ⟨h.2, fun i hi => (s101_ok s.Parts (s.Bins.get i) (hs.2 i hi)).2.1.1 (h.1 i hi)⟩, fun h => ⟨fun i hi => (s101_ok s.Parts (s.Bins.get i) (hs.2 i hi)).2.1.2 (h.2 i hi), h.1⟩⟩
theorem s16_ok (s : Sky) (hs : SL s) : p16 s = true ∧ s16 s = s75 s := by
  have h : p16_at1 s s.Bins = true ∧ (s16_at1 s s.Bins = true ↔ (∀ i, i < s.Bins.len → s59 s.Parts (s.Bins.get i) = true) ∧ true = true) := by
    refine all_loop (n := s.Bins.len) (good := fun i => s59 s.Parts (s.Bins.get i)) (lpS := fun k i => s16_lp2 s k i s.Bins) (lpP := fun k i => p16_lp2 s k i s.Bins) ?_ ?_ ?_ ?_ hs.1
    · intro k i hi
      show s16_st2 s (s16_lp2 s k) i s.Bins = cond _ (s16_lp2 s k (w64 ((i : Int) + 1)) s.Bins) false
      generalize s16_lp2 s k = S
      unfold s16_st2 s16_at3
      rw [decide_eq_true (by omega), Int.toNat_natCast]
      cases s59 s.Parts (s.Bins.get i) <;> rfl
    · intro k
      show s16_st2 s (s16_lp2 s k) _ s.Bins = _
      unfold s16_st2
      rw [decide_eq_false (by omega), cond_false]
    · intro k i hi
      show p16_st2 s (p16_lp2 s k) i s.Bins = cond _ (p16_lp2 s k (w64 ((i : Int) + 1)) s.Bins) true
      generalize p16_lp2 s k = S
      unfold p16_st2 p16_at3
      rw [decide_eq_true (by omega), Int.toNat_natCast, (s59_ok s.Parts (s.Bins.get i) (hs.2 i hi)).1, decide_eq_true (show 0 ≤ (i : Int) ∧ (i : Int) < (s.Bins.len : Int) by omega)]
      cases s59 s.Parts (s.Bins.get i) <;> rfl
    · intro k
      show p16_st2 s (p16_lp2 s k) _ s.Bins = _
      unfold p16_st2
      rw [decide_eq_false (by omega), cond_false]
  have h2 : s16 s = true ↔ SOk s := by
    unfold s16 s16_at0
    rw [s58_eq, s58_eq, s29_eq, s29_eq]
    unfold SOk
    by_cases a : 2 ≤ s.Parts ∧ s.Parts ≤ 1000000
    · by_cases b : 1 ≤ (s.Bins.len : Int) ∧ (s.Bins.len : Int) ≤ 20
      · by_cases c : -100 ≤ s.Beta.Low ∧ s.Beta.Low ≤ s.Beta.High ∧ s.Beta.High ≤ 100
        · by_cases d : -100 ≤ s.Alpha.Low ∧ s.Alpha.Low ≤ s.Alpha.High ∧ s.Alpha.High ≤ 100
          · rw [decide_eq_true a, decide_eq_true b, decide_eq_true c, decide_eq_true d]
            refine h.2.trans ?_
            exact ⟨fun h => ⟨⟨a, b, c, d⟩, fun i hi => (s59_ok s.Parts (s.Bins.get i) (hs.2 i hi)).2.1 (h.1 i hi)⟩, fun h => ⟨fun i hi => (s59_ok s.Parts (s.Bins.get i) (hs.2 i hi)).2.2 (h.2 i hi), rfl⟩⟩
          · rw [decide_eq_true a, decide_eq_true b, decide_eq_true c, decide_eq_false d]
            exact ⟨fun h => absurd h Bool.false_ne_true, fun h => absurd h.1.2.2.2 d⟩
        · rw [decide_eq_true a, decide_eq_true b, decide_eq_false c]
          exact ⟨fun h => absurd h Bool.false_ne_true, fun h => absurd h.1.2.2.1 c⟩
      · rw [decide_eq_true a, decide_eq_false b]
        exact ⟨fun h => absurd h Bool.false_ne_true, fun h => absurd h.1.2.1 b⟩
    · rw [decide_eq_false a]
      exact ⟨fun h => absurd h Bool.false_ne_true, fun h => absurd h.1.1 a⟩
  refine ⟨?_, Bool.eq_iff_iff.2 (h2.trans (s75_ok s hs).2.symm)⟩
  unfold p16 p16_at0
  rw [h.1]
  cases s58 s.Parts 2 1000000 <;> cases s58 (s.Bins.len : Int) 1 20 <;> cases s29 s.Beta (-100) 100 <;> cases s29 s.Alpha (-100) 100 <;> rfl
theorem s15_p (s : Sky) (t : Sl RangeRow) (hs : SL s) : p15 s t = true := by
  have h : p15 s t = true ∧ (s15 s t = true ↔ (∀ i, i < s.Bins.len → (!decide (((s.Bins.get i).len : Int) > 50)) = true) ∧ (cond (decide ((s.Bins.len : Int) ≤ (25:Int))) (decide ((t.len : Int) ≤ (50:Int))) false) = true) := by
    refine all_loop (n := s.Bins.len) (good := fun i => !decide (((s.Bins.get i).len : Int) > 50)) (lpS := s15_lp0 s t) (lpP := p15_lp0 s t) ?_ ?_ ?_ ?_ hs.1
    · intro k i hi
      show s15_st0 s t (s15_lp0 s t k) i = _
      generalize s15_lp0 s t k = S
      unfold s15_st0
      rw [decide_eq_true (by omega), Int.toNat_natCast]
      cases decide (((s.Bins.get i).len : Int) > 50) <;> rfl
    · intro k
      show s15_st0 s t (s15_lp0 s t k) _ = _
      unfold s15_st0
      rw [decide_eq_false (by omega), cond_false]
    · intro k i hi
      show p15_st0 s t (p15_lp0 s t k) i = _
      generalize p15_lp0 s t k = S
      unfold p15_st0
      rw [decide_eq_true (by omega), Int.toNat_natCast, decide_eq_true (show 0 ≤ (i : Int) ∧ (i : Int) < (s.Bins.len : Int) by omega)]
      cases decide (((s.Bins.get i).len : Int) > 50) <;> rfl
    · intro k
      show p15_st0 s t (p15_lp0 s t k) _ = _
      unfold p15_st0
      rw [decide_eq_false (by omega), cond_false]
  exact h.1
theorem s81_eq (c0 : Int) (t : Sl RangeRow) (hn : t.len ≤ 9223372036854775807) : p81 c0 t = true ∧ s81 c0 t = ((fst (fun i => s95 c0 (t.get i)) t.len : Nat) : Int) := by
  have h := idx_loop (c := s95 c0) (lpS := s106_lp0 c0) (lpP := p106_lp0 c0) (fun _ _ _ _ => rfl) (fun _ _ _ _ => rfl) t hn
  have h1 : p106 c0 t = true := h.1
  have h2 : s106 c0 t = _ := h.2
  have hl := fst_le (fun i => s95 c0 (t.get i)) t.len
  unfold p81 s81
  rw [h1, h2]
  refine ⟨rfl, ?_⟩
  by_cases h : fst (fun i => s95 c0 (t.get i)) t.len < t.len
  · rw [if_pos h, decide_eq_true (by omega)]; rfl
  · rw [if_neg h, decide_eq_false (by omega)]
    show (t.len : Int) = _
    omega
theorem s81a_eq (c0 : Int) (t : Sl RangeRow) (hn : t.len ≤ 9223372036854775807) : p81a c0 t = true ∧ s81a c0 t = ((fst (fun i => s96 c0 (t.get i)) t.len : Nat) : Int) := by
  have h := idx_loop (c := s96 c0) (lpS := s106a_lp0 c0) (lpP := p106a_lp0 c0) (fun _ _ _ _ => rfl) (fun _ _ _ _ => rfl) t hn
  have h1 : p106a c0 t = true := h.1
  have h2 : s106a c0 t = _ := h.2
  have hl := fst_le (fun i => s96 c0 (t.get i)) t.len
  unfold p81a s81a
  rw [h1, h2]
  refine ⟨rfl, ?_⟩
  by_cases h : fst (fun i => s96 c0 (t.get i)) t.len < t.len
  · rw [if_pos h, decide_eq_true (by omega)]; rfl
  · rw [if_neg h, decide_eq_false (by omega)]
    show (t.len : Int) = _
    omega
theorem s81b_eq (c0 : Int) (t : Sl RangeRow) (hn : t.len ≤ 9223372036854775807) : p81b c0 t = true ∧ s81b c0 t = ((fst (fun i => s82 c0 (t.get i)) t.len : Nat) : Int) := by
  have h := idx_loop (c := s82 c0) (lpS := s106b_lp0 c0) (lpP := p106b_lp0 c0) (fun _ _ _ _ => rfl) (fun _ _ _ _ => rfl) t hn
  have h1 : p106b c0 t = true := h.1
  have h2 : s106b c0 t = _ := h.2
  have hl := fst_le (fun i => s82 c0 (t.get i)) t.len
  unfold p81b s81b
  rw [h1, h2]
  refine ⟨rfl, ?_⟩
  by_cases h : fst (fun i => s82 c0 (t.get i)) t.len < t.len
  · rw [if_pos h, decide_eq_true (by omega)]; rfl
  · rw [if_neg h, decide_eq_false (by omega)]
    show (t.len : Int) = _
    omega
theorem s81c_eq (c0 : Int) (t : Sl RangeRow) (hn : t.len ≤ 9223372036854775807) : p81c c0 t = true ∧ s81c c0 t = ((fst (fun i => s83 c0 (t.get i)) t.len : Nat) : Int) := by
  have h := idx_loop (c := s83 c0) (lpS := s106c_lp0 c0) (lpP := p106c_lp0 c0) (fun _ _ _ _ => rfl) (fun _ _ _ _ => rfl) t hn
  have h1 : p106c c0 t = true := h.1
  have h2 : s106c c0 t = _ := h.2
  have hl := fst_le (fun i => s83 c0 (t.get i)) t.len
  unfold p81c s81c
  rw [h1, h2]
  refine ⟨rfl, ?_⟩
  by_cases h : fst (fun i => s83 c0 (t.get i)) t.len < t.len
  · rw [if_pos h, decide_eq_true (by omega)]; rfl
  · rw [if_neg h, decide_eq_false (by omega)]
    show (t.len : Int) = _
    omega
theorem s107_eq (c0 : Span) (t : Sl FluxRow) (hn : t.len ≤ 9223372036854775807) : p107 c0 t = true ∧ s107 c0 t = ((fst (fun i => s108 c0 (t.get i)) t.len : Nat) : Int) := by
  have h := idx_loop (c := s108 c0) (lpS := s118_lp0 c0) (lpP := p118_lp0 c0) (fun _ _ _ _ => rfl) (fun _ _ _ _ => rfl) t hn
  have h1 : p118 c0 t = true := h.1
  have h2 : s118 c0 t = _ := h.2
  have hl := fst_le (fun i => s108 c0 (t.get i)) t.len
  unfold p107 s107
  rw [h1, h2]
  refine ⟨rfl, ?_⟩
  by_cases h : fst (fun i => s108 c0 (t.get i)) t.len < t.len
  · rw [if_pos h, decide_eq_true (by omega)]; rfl
  · rw [if_neg h, decide_eq_false (by omega)]
    show (t.len : Int) = _
    omega
theorem s107a_eq (c0 : Span) (t : Sl FluxRow) (hn : t.len ≤ 9223372036854775807) : p107a c0 t = true ∧ s107a c0 t = ((fst (fun i => s109 c0 (t.get i)) t.len : Nat) : Int) := by
  have h := idx_loop (c := s109 c0) (lpS := s118a_lp0 c0) (lpP := p118a_lp0 c0) (fun _ _ _ _ => rfl) (fun _ _ _ _ => rfl) t hn
  have h1 : p118a c0 t = true := h.1
  have h2 : s118a c0 t = _ := h.2
  have hl := fst_le (fun i => s109 c0 (t.get i)) t.len
  unfold p107a s107a
  rw [h1, h2]
  refine ⟨rfl, ?_⟩
  by_cases h : fst (fun i => s109 c0 (t.get i)) t.len < t.len
  · rw [if_pos h, decide_eq_true (by omega)]; rfl
  · rw [if_neg h, decide_eq_false (by omega)]
    show (t.len : Int) = _
    omega
def kH (t : Sl RangeRow) (x : Int) : Nat := fst (fun i => decide ((t.get i).Range.High ≥ x)) t.len
def kL (t : Sl RangeRow) (x : Int) : Nat := fst (fun i => decide ((t.get i).Range.Low ≥ x)) t.len
def thrL (t : Sl RangeRow) (x : Int) : Int := if 0 < kH t x then (t.get (kH t x - 1)).Energy + 1 else 1
def thrH (t : Sl RangeRow) (x : Int) : Int := if kL t x < t.len then (t.get (kL t x)).Energy else -1
def thr (t : Sl RangeRow) (x : Int) : Span := if x = 0 then ⟨1, 1⟩ else ⟨thrL t x, thrH t x⟩
def jL (l : Sl FluxRow) (y : Int) : Nat := fst (fun i => decide ((l.get i).Energy > y)) l.len
def jH (l : Sl FluxRow) (y : Int) : Nat := fst (fun i => decide ((l.get i).Energy ≥ y)) l.len
def abvH (l : Sl FluxRow) (y : Int) : Int := if 0 < jL l y then (l.get (jL l y - 1)).Rate.High else (l.get 0).Rate.High
def abvL (l : Sl FluxRow) (y : Int) : Int := if y = -1 then 0 else if jH l y < l.len then (l.get (jH l y)).Rate.Low else 0
def abv (l : Sl FluxRow) (x : Span) : Span := ⟨abvL l x.High, abvH l x.Low⟩
def expd (s : Sky) (t : Sl RangeRow) (bin x : Int) : Span := abv (s.Bins.get bin.toNat) (thr t x)
theorem s64_eq (t : Sl RangeRow) (x : Int) (hk : TOk t) : p64 t x = true ∧ s64 t x = thr t x := by
  have hn : t.len ≤ 9223372036854775807 := by have := hk.1.2; omega
  have e1 : p81 x t = true ∧ s81 x t = ((kH t x : Nat) : Int) := s81_eq x t hn
  have e2 : p81a x t = true ∧ s81a x t = ((kL t x : Nat) : Int) := s81a_eq x t hn
  have b1 : kH t x ≤ t.len := fst_le _ _
  have b2 : kL t x ≤ t.len := fst_le _ _
  unfold p64 s64 thr
  by_cases h0 : x = 0
  · rw [if_pos h0, beq_iff_eq.2 h0]; exact ⟨rfl, rfl⟩
  have h00 : (x == 0) = false := by simpa using h0
  rw [if_neg h0, h00, cond_false, cond_false]
  unfold p64_at0 s64_at0
  rw [e1.1, e1.2]
  have h3 : ∀ a, p64_at2 t x a = true ∧ s64_at2 t x a = ⟨a, thrH t x⟩ := by
    intro a
    unfold p64_at2 s64_at2 p64_at3 s64_at3 thrH
    rw [e2.1, e2.2]
    by_cases h : kL t x < t.len
    · rw [if_pos h, decide_eq_true (show ((kL t x : Nat) : Int) < (t.len : Int) by omega), decide_eq_true (show 0 ≤ ((kL t x : Nat) : Int) ∧ ((kL t x : Nat) : Int) < (t.len : Int) by omega), Int.toNat_natCast]
      exact ⟨rfl, rfl⟩
    · rw [if_neg h, decide_eq_false (show ¬ ((kL t x : Nat) : Int) < (t.len : Int) by omega)]
      exact ⟨rfl, rfl⟩
  unfold p64_at1 s64_at1 thrL
  by_cases h : 0 < kH t x
  · have hr := hk.2 (kH t x - 1) (by omega)
    unfold TRow at hr
    have e3 : w64 (((kH t x : Nat) : Int) - 1) = ((kH t x - 1 : Nat) : Int) := by rw [w64_id (by omega) (by omega)]; omega
    rw [if_pos h, decide_eq_true (show ((kH t x : Nat) : Int) > 0 by omega), e3, Int.toNat_natCast, decide_eq_true (show 0 ≤ ((kH t x - 1 : Nat) : Int) ∧ ((kH t x - 1 : Nat) : Int) < (t.len : Int) by omega), (h3 _).1, cond_true, (h3 _).2, w64_id (by omega) (by omega)]
    exact ⟨rfl, rfl⟩
  · rw [if_neg h, decide_eq_false (show ¬ ((kH t x : Nat) : Int) > 0 by omega), cond_false, cond_false, (h3 _).1, (h3 _).2]
    exact ⟨rfl, rfl⟩
theorem s84_eq (l : Sl FluxRow) (y : Span) (h0 : 0 < l.len) (hn : l.len ≤ 9223372036854775807) : p84 l y = true ∧ s84 l y = abv l y := by
  have e1 : p107 y l = true ∧ s107 y l = ((jL l y.Low : Nat) : Int) := s107_eq y l hn
  have e2 : p107a y l = true ∧ s107a y l = ((jH l y.High : Nat) : Int) := s107a_eq y l hn
  have b1 : jL l y.Low ≤ l.len := fst_le _ _
  have b2 : jH l y.High ≤ l.len := fst_le _ _
  have h3 : ∀ a, p84_at1 l y a = true ∧ s84_at1 l y a = ⟨abvL l y.High, a⟩ := by
    intro a
    unfold p84_at1 s84_at1 abvL
    by_cases h : y.High = -1
    · rw [if_pos h, beq_iff_eq.2 h]; exact ⟨rfl, rfl⟩
    have h00 : (y.High == -1) = false := by simpa using h
    rw [if_neg h, h00, cond_false, cond_false]
    unfold p84_at2 s84_at2 p84_at3 s84_at3
    rw [e2.1, e2.2]
    by_cases h : jH l y.High < l.len
    · rw [if_pos h, decide_eq_true (show ((jH l y.High : Nat) : Int) < (l.len : Int) by omega), decide_eq_true (show 0 ≤ ((jH l y.High : Nat) : Int) ∧ ((jH l y.High : Nat) : Int) < (l.len : Int) by omega), Int.toNat_natCast]
      exact ⟨rfl, rfl⟩
    · rw [if_neg h, decide_eq_false (show ¬ ((jH l y.High : Nat) : Int) < (l.len : Int) by omega)]
      exact ⟨rfl, rfl⟩
  unfold p84 s84 abv
  rw [e1.1, e1.2, decide_eq_true (show 0 ≤ (0 : Int) ∧ (0 : Int) < (l.len : Int) by omega)]
  unfold p84_at0 s84_at0 abvH
  by_cases h : 0 < jL l y.Low
  · have e3 : w64 (((jL l y.Low : Nat) : Int) - 1) = ((jL l y.Low - 1 : Nat) : Int) := by rw [w64_id (by omega) (by omega)]; omega
    rw [if_pos h, decide_eq_true (show ((jL l y.Low : Nat) : Int) > 0 by omega), e3, Int.toNat_natCast, decide_eq_true (show 0 ≤ ((jL l y.Low - 1 : Nat) : Int) ∧ ((jL l y.Low - 1 : Nat) : Int) < (l.len : Int) by omega), (h3 _).1, cond_true, (h3 _).2]
    exact ⟨rfl, rfl⟩
  · rw [if_neg h, decide_eq_false (show ¬ ((jL l y.Low : Nat) : Int) > 0 by omega), cond_false, cond_false, (h3 _).1, (h3 _).2]
    exact ⟨rfl, rfl⟩
def Fine (s : Sky) (t : Sl RangeRow) (bin x : Int) : Prop := SOk s ∧ TOk t ∧ (0 ≤ bin ∧ bin < (s.Bins.len : Int)) ∧ (0 ≤ x ∧ x ≤ 1000000)
theorem Fine.b {s : Sky} {t : Sl RangeRow} {bin x : Int} (h : Fine s t bin x) : BOk s.Parts (s.Bins.get bin.toNat) := h.1.2 _ (by have := h.2.2.1; omega)
theorem s65_g (s : Sky) (t : Sl RangeRow) (bin x : Int) : (s65 s t bin x).1.Sky = s ∧ (s65 s t bin x).1.table = t := by
  unfold s65
  cases s75 s <;> cases s62 t <;> cases s63 bin 0 (w64 ((s.Bins.len : Int) - 1)) <;> exact ⟨rfl, rfl⟩
theorem s65_ok (s : Sky) (t : Sl RangeRow) (bin x : Int) (hs : SL s) (ht : t.len ≤ 9223372036854775807) : p65 s t bin x = true ∧ ((s65 s t bin x).2 = true ↔ Fine s t bin x) := by
  obtain ⟨h1, h2⟩ := s75_ok s hs
  obtain ⟨h3, h4⟩ := s62_ok t ht
  have h5 := hs.1
  unfold p65 s65 Fine
  rw [h1, h3, s63_eq, s63_eq, w64_id (by omega) (by omega), ← h2, ← h4]
  cases s75 s
  · exact ⟨rfl, ⟨fun h => absurd h Bool.false_ne_true, fun h => absurd h.1 Bool.false_ne_true⟩⟩
  cases s62 t
  · exact ⟨rfl, ⟨fun h => absurd h Bool.false_ne_true, fun h => absurd h.2.1 Bool.false_ne_true⟩⟩
  refine ⟨rfl, ?_⟩
  by_cases h : 0 ≤ bin ∧ bin ≤ (s.Bins.len : Int) - 1
  · rw [decide_eq_true h]
    simp only [cond_true, decide_eq_true_eq]
    exact ⟨fun h6 => ⟨trivial, trivial, by omega, h6⟩, fun h6 => h6.2.2.2⟩
  · rw [decide_eq_false h]
    exact ⟨fun h => absurd h Bool.false_ne_true, fun h6 => absurd (show 0 ≤ bin ∧ bin ≤ (s.Bins.len : Int) - 1 by have := h6.2.2.1; omega) h⟩
theorem s66_eq {s : Sky} {t : Sl RangeRow} {bin x : Int} (h : Fine s t bin x) : p66 s t bin x = true ∧ s66 s t bin x = expd s t bin x := by
  obtain ⟨h1, h2⟩ := s64_eq t x h.2.1
  have hb := h.b
  obtain ⟨h3, h4⟩ := s84_eq (s.Bins.get bin.toNat) (thr t x) (by have := hb.1; omega) (by have := hb.1; omega)
  unfold p66 s66 expd
  rw [h1, h2, h3, h4, decide_eq_true h.2.2.1]
  exact ⟨rfl, rfl⟩
theorem s20_ok (s : Sky) (t : Sl RangeRow) (bin x : Int) (hs : SL s) (ht : t.len ≤ 9223372036854775807) : p20 s t bin x = true ∧ (Fine s t bin x → s20 s t bin x = (expd s t bin x, 0)) ∧ (¬ Fine s t bin x → s20 s t bin x = (⟨0, 0⟩, 2)) := by
  obtain ⟨h1, h2⟩ := s65_ok s t bin x hs ht
  obtain ⟨e1, e2⟩ := s65_g s t bin x
  unfold p20 s20
  rw [h1, e1, e2]
  by_cases h : Fine s t bin x
  · rw [h2.2 h, (s66_eq h).1, (s66_eq h).2]
    exact ⟨rfl, fun _ => rfl, fun h3 => absurd h h3⟩
  · have h3 : (s65 s t bin x).2 = false := by
      cases e : (s65 s t bin x).2
      · rfl
      · exact absurd (h2.1 e) h
    rw [h3]
    exact ⟨rfl, fun h3 => absurd h3 h, fun _ => rfl⟩
theorem s19_ok (t : Sl RangeRow) (x : Int) (ht : t.len ≤ 9223372036854775807) : p19 t x = true ∧ (TOk t ∧ 0 ≤ x ∧ x ≤ 1000000 → s19 t x = (thr t x, 0)) ∧ (¬ (TOk t ∧ 0 ≤ x ∧ x ≤ 1000000) → s19 t x = (⟨0, 0⟩, 2)) := by
  obtain ⟨h1, h2⟩ := s62_ok t ht
  unfold p19 s19
  rw [h1, s63_eq]
  by_cases hk : TOk t
  · rw [h2.2 hk, (s64_eq t x hk).1, (s64_eq t x hk).2]
    by_cases h : 0 ≤ x ∧ x ≤ 1000000
    · rw [decide_eq_true h]
      exact ⟨rfl, fun _ => rfl, fun h3 => absurd ⟨hk, h⟩ h3⟩
    · rw [decide_eq_false h]
      exact ⟨rfl, fun h3 => absurd h3.2 h, fun _ => rfl⟩
  · have h3 : s62 t = false := by
      cases e : s62 t
      · rfl
      · exact absurd (h2.1 e) hk
    rw [h3]
    exact ⟨rfl, fun h3 => absurd h3.1 hk, fun _ => rfl⟩
theorem t_mono {t : Sl RangeRow} (h : ∀ i, i < t.len → TRow t i) : ∀ d i, i + d < t.len → (0 < d → (t.get i).Energy < (t.get (i + d)).Energy) ∧ (t.get i).Range.Low ≤ (t.get (i + d)).Range.Low ∧ (t.get i).Range.High ≤ (t.get (i + d)).Range.High := by
  intro d
  induction d with
  | zero => intro i hi; exact ⟨fun h => absurd h (by omega), Int.le_refl _, Int.le_refl _⟩
  | succ d ih =>
    intro i hi
    obtain ⟨h1, h2, h3⟩ := ih i (by omega)
    obtain ⟨_, _, h4⟩ := h (i + (d + 1)) hi
    have e : i + (d + 1) - 1 = i + d := by omega
    rw [e] at h4
    have h4 := h4.resolve_left (by omega)
    refine ⟨fun _ => ?_, by omega, by omega⟩
    by_cases hd : 0 < d
    · have := h1 hd; omega
    · have : d = 0 := by omega
      subst this; exact h4.1
theorem t_e {t : Sl RangeRow} (h : TOk t) {i j : Nat} (hij : i < j) (hj : j < t.len) : (t.get i).Energy < (t.get j).Energy := by
  have := (t_mono h.2 (j - i) i (by omega)).1 (by omega)
  rwa [show i + (j - i) = j by omega] at this
theorem t_low {t : Sl RangeRow} (h : TOk t) {i j : Nat} (hij : i ≤ j) (hj : j < t.len) : (t.get i).Range.Low ≤ (t.get j).Range.Low := by
  have := (t_mono h.2 (j - i) i (by omega)).2.1
  rwa [show i + (j - i) = j by omega] at this
theorem t_high {t : Sl RangeRow} (h : TOk t) {i j : Nat} (hij : i ≤ j) (hj : j < t.len) : (t.get i).Range.High ≤ (t.get j).Range.High := by
  have := (t_mono h.2 (j - i) i (by omega)).2.2
  rwa [show i + (j - i) = j by omega] at this
theorem b_mono {parts : Int} {t : Sl FluxRow} (h : ∀ i, i < t.len → BRow parts t i) : ∀ d i, i + d < t.len → (0 < d → (t.get i).Energy < (t.get (i + d)).Energy) ∧ (t.get (i + d)).Rate.Low ≤ (t.get i).Rate.Low ∧ (t.get (i + d)).Rate.High ≤ (t.get i).Rate.High := by
  intro d
  induction d with
  | zero => intro i hi; exact ⟨fun h => absurd h (by omega), Int.le_refl _, Int.le_refl _⟩
  | succ d ih =>
    intro i hi
    obtain ⟨h1, h2, h3⟩ := ih i (by omega)
    obtain ⟨_, _, h4⟩ := h (i + (d + 1)) hi
    have e : i + (d + 1) - 1 = i + d := by omega
    rw [e] at h4
    have h4 := h4.resolve_left (by omega)
    refine ⟨fun _ => ?_, by omega, by omega⟩
    by_cases hd : 0 < d
    · have := h1 hd; omega
    · have : d = 0 := by omega
      subst this; exact h4.1
theorem b_e {parts : Int} {t : Sl FluxRow} (h : BOk parts t) {i j : Nat} (hij : i < j) (hj : j < t.len) : (t.get i).Energy < (t.get j).Energy := by
  have := (b_mono h.2.2 (j - i) i (by omega)).1 (by omega)
  rwa [show i + (j - i) = j by omega] at this
theorem b_low {parts : Int} {t : Sl FluxRow} (h : BOk parts t) {i j : Nat} (hij : i ≤ j) (hj : j < t.len) : (t.get j).Rate.Low ≤ (t.get i).Rate.Low := by
  have := (b_mono h.2.2 (j - i) i (by omega)).2.1
  rwa [show i + (j - i) = j by omega] at this
theorem b_high {parts : Int} {t : Sl FluxRow} (h : BOk parts t) {i j : Nat} (hij : i ≤ j) (hj : j < t.len) : (t.get j).Rate.High ≤ (t.get i).Rate.High := by
  have := (b_mono h.2.2 (j - i) i (by omega)).2.2
  rwa [show i + (j - i) = j by omega] at this
end Go.Proofs
namespace Go.Proofs
open Go Go.Pm
set_option linter.unusedVariables false
def mz (z : Int) : Int := if z > 0 then z else 0
def mn2 (a b : Int) : Int := if b < a then b else a
def mx2 (a b : Int) : Int := if b > a then b else a
def mn4 (a b c d : Int) : Int := mn2 (mn2 (mn2 a b) c) d
def mx4 (a b c d : Int) : Int := mx2 (mx2 (mx2 a b) c) d
theorem mn4_spec (a b c d : Int) : (mn4 a b c d ≤ a ∧ mn4 a b c d ≤ b ∧ mn4 a b c d ≤ c ∧ mn4 a b c d ≤ d) ∧ (mn4 a b c d = a ∨ mn4 a b c d = b ∨ mn4 a b c d = c ∨ mn4 a b c d = d) := by
  unfold mn4 mn2
  repeat' split
  all_goals omega
theorem mx4_spec (a b c d : Int) : (a ≤ mx4 a b c d ∧ b ≤ mx4 a b c d ∧ c ≤ mx4 a b c d ∧ d ≤ mx4 a b c d) ∧ (mx4 a b c d = a ∨ mx4 a b c d = b ∨ mx4 a b c d = c ∨ mx4 a b c d = d) := by
  unfold mx4 mx2
  repeat' split
  all_goals omega
theorem mul_line {a b c x : Int} (h1 : a ≤ x) (h2 : x ≤ b) : (a * c ≤ x * c ∨ b * c ≤ x * c) ∧ (x * c ≤ a * c ∨ x * c ≤ b * c) := by
  rcases Int.le_total 0 c with h | h
  · exact ⟨Or.inl (Int.mul_le_mul_of_nonneg_right h1 h), Or.inr (Int.mul_le_mul_of_nonneg_right h2 h)⟩
  · exact ⟨Or.inr (Int.mul_le_mul_of_nonpos_right h2 h), Or.inl (Int.mul_le_mul_of_nonpos_right h1 h)⟩
theorem mul_in {a b c d x y : Int} (h1 : a ≤ x ∧ x ≤ b) (h2 : c ≤ y ∧ y ≤ d) : mn4 (a * c) (a * d) (b * c) (b * d) ≤ x * y ∧ x * y ≤ mx4 (a * c) (a * d) (b * c) (b * d) := by
  have k1 := mul_line (c := y) h1.1 h1.2
  have k2 := mul_line (c := a) h2.1 h2.2
  have k3 := mul_line (c := b) h2.1 h2.2
  rw [Int.mul_comm c a, Int.mul_comm y a, Int.mul_comm d a] at k2
  rw [Int.mul_comm c b, Int.mul_comm y b, Int.mul_comm d b] at k3
  have m := (mn4_spec (a * c) (a * d) (b * c) (b * d)).1
  have n := (mx4_spec (a * c) (a * d) (b * c) (b * d)).1
  omega
theorem mul_b {x y p q : Int} (hp : 0 ≤ p) (hq : 0 ≤ q) (h1 : -p ≤ x ∧ x ≤ p) (h2 : -q ≤ y ∧ y ≤ q) : -(p * q) ≤ x * y ∧ x * y ≤ p * q := by
  have h := mul_in h1 h2
  have e1 : -p * -q = p * q := Int.neg_mul_neg p q
  have e2 : -p * q = -(p * q) := Int.neg_mul p q
  have e3 : p * -q = -(p * q) := Int.mul_neg p q
  rw [e1, e2, e3] at h
  have m := (mn4_spec (p * q) (-(p * q)) (-(p * q)) (p * q)).2
  have n := (mx4_spec (p * q) (-(p * q)) (-(p * q)) (p * q)).2
  have := Int.mul_nonneg hp hq
  omega
def WOk (w : Weather) : Prop := (-1000 ≤ w.Pressure.Low ∧ w.Pressure.Low ≤ w.Pressure.High ∧ w.Pressure.High ≤ 1000) ∧ (-1000 ≤ w.Warm.Low ∧ w.Warm.Low ≤ w.Warm.High ∧ w.Warm.High ≤ 1000)
theorem s76_eq (w : Weather) : s76 w = true ↔ WOk w := by
  unfold s76 WOk
  rw [s69_eq, s69_eq]
  simp only [Bool.cond_decide, Bool.if_false_right, Bool.and_eq_true, decide_eq_true_eq]
theorem s36_eq (w : Weather) : s36 w = s76 w := by
  unfold s36 s76
  rw [s69_eq, s69_eq, s29_eq, s29_eq]
def y117 (b p a x : Int) : Int := if w64 (w64 (1000 - w64 (b * p)) + w64 (a * x)) > 0 then w64 (w64 (1000 - w64 (b * p)) + w64 (a * x)) else 0
theorem y117_eq {b p a x : Int} (hb : -100 ≤ b ∧ b ≤ 100) (hp : -1000 ≤ p ∧ p ≤ 1000) (ha : -100 ≤ a ∧ a ≤ 100) (hx : -1000 ≤ x ∧ x ≤ 1000) : y117 b p a x = mz (1000 - b * p + a * x) := by
  have h1 := mul_b (p := 100) (q := 1000) (by omega) (by omega) hb hp
  have h2 := mul_b (p := 100) (q := 1000) (by omega) (by omega) ha hx
  unfold y117 mz
  rw [w64_id (x := b * p) (by omega) (by omega), w64_id (x := a * x) (by omega) (by omega), w64_id (x := 1000 - b * p) (by omega) (by omega), w64_id (by omega) (by omega)]
theorem ys117_y (s : Sky) (w : Weather) : ys117 s w = [y117 s.Beta.Low w.Pressure.Low s.Alpha.Low w.Warm.Low, y117 s.Beta.Low w.Pressure.Low s.Alpha.Low w.Warm.High, y117 s.Beta.Low w.Pressure.Low s.Alpha.High w.Warm.Low, y117 s.Beta.Low w.Pressure.Low s.Alpha.High w.Warm.High,
    y117 s.Beta.Low w.Pressure.High s.Alpha.Low w.Warm.Low, y117 s.Beta.Low w.Pressure.High s.Alpha.Low w.Warm.High, y117 s.Beta.Low w.Pressure.High s.Alpha.High w.Warm.Low, y117 s.Beta.Low w.Pressure.High s.Alpha.High w.Warm.High,
    y117 s.Beta.High w.Pressure.Low s.Alpha.Low w.Warm.Low, y117 s.Beta.High w.Pressure.Low s.Alpha.Low w.Warm.High, y117 s.Beta.High w.Pressure.Low s.Alpha.High w.Warm.Low, y117 s.Beta.High w.Pressure.Low s.Alpha.High w.Warm.High,
    y117 s.Beta.High w.Pressure.High s.Alpha.Low w.Warm.Low, y117 s.Beta.High w.Pressure.High s.Alpha.Low w.Warm.High, y117 s.Beta.High w.Pressure.High s.Alpha.High w.Warm.Low, y117 s.Beta.High w.Pressure.High s.Alpha.High w.Warm.High] := rfl
def lmin : Int → List Int → Int
  | a, [] => a
  | a, y :: r => lmin (if y < a then y else a) r
def lmax : Int → List Int → Int
  | a, [] => a
  | a, y :: r => lmax (if y > a then y else a) r
theorem lmin_spec : ∀ (l : List Int) (a : Int), (lmin a l ≤ a ∧ ∀ y, y ∈ l → lmin a l ≤ y) ∧ (lmin a l = a ∨ lmin a l ∈ l)
  | [], a => ⟨⟨Int.le_refl _, fun y h => absurd h (by simp)⟩, Or.inl rfl⟩
  | y :: r, a => by
    obtain ⟨⟨h1, h2⟩, h3⟩ := lmin_spec r (if y < a then y else a)
    have e : lmin a (y :: r) = lmin (if y < a then y else a) r := rfl
    rw [e]
    have hq : (if y < a then y else a) ≤ a ∧ (if y < a then y else a) ≤ y ∧ ((if y < a then y else a) = a ∨ (if y < a then y else a) = y) := by split <;> omega
    generalize (if y < a then y else a) = q at h1 h2 h3 hq ⊢
    refine ⟨⟨by omega, fun z hz => ?_⟩, ?_⟩
    · rcases List.mem_cons.1 hz with e | e
      · omega
      · exact h2 z e
    · rcases h3 with e | e
      · rcases hq.2.2 with f | f
        · exact Or.inl (e.trans f)
        · exact Or.inr (by rw [e, f]; exact List.mem_cons_self)
      · exact Or.inr (List.mem_cons_of_mem _ e)
theorem lmax_spec : ∀ (l : List Int) (a : Int), (a ≤ lmax a l ∧ ∀ y, y ∈ l → y ≤ lmax a l) ∧ (lmax a l = a ∨ lmax a l ∈ l)
  | [], a => ⟨⟨Int.le_refl _, fun y h => absurd h (by simp)⟩, Or.inl rfl⟩
  | y :: r, a => by
    obtain ⟨⟨h1, h2⟩, h3⟩ := lmax_spec r (if y > a then y else a)
    have e : lmax a (y :: r) = lmax (if y > a then y else a) r := rfl
    rw [e]
    have hq : a ≤ (if y > a then y else a) ∧ y ≤ (if y > a then y else a) ∧ ((if y > a then y else a) = a ∨ (if y > a then y else a) = y) := by split <;> omega
    generalize (if y > a then y else a) = q at h1 h2 h3 hq ⊢
    refine ⟨⟨by omega, fun z hz => ?_⟩, ?_⟩
    · rcases List.mem_cons.1 hz with e | e
      · omega
      · exact h2 z e
    · rcases h3 with e | e
      · rcases hq.2.2 with f | f
        · exact Or.inl (e.trans f)
        · exact Or.inr (by rw [e, f]; exact List.mem_cons_self)
      · exact Or.inr (List.mem_cons_of_mem _ e)
theorem s77_lp (s : Sky) (w : Weather) : ∀ (l : List Int) (a b : Int), p77_lp0 s w l false a b = true ∧ s77_lp0 s w l false a b = ⟨lmin a l, lmax b l⟩
  | [], a, b => ⟨rfl, rfl⟩
  | y :: r, a, b => by
    obtain ⟨h1, h2⟩ := s77_lp s w r (if y < a then y else a) (if y > b then y else b)
    exact ⟨h1, h2⟩
theorem s77_cons (s : Sky) (w : Weather) (y : Int) (r : List Int) : p77_lp0 s w (y :: r) true 0 0 = true ∧ s77_lp0 s w (y :: r) true 0 0 = ⟨lmin y r, lmax y r⟩ := by
  have h := s77_lp s w r (if y < y then y else y) (if y > y then y else y)
  have e1 : (if y < y then y else y) = y := by split <;> rfl
  have e2 : (if y > y then y else y) = y := by split <;> rfl
  have h1 : p77_lp0 s w (y :: r) true 0 0 = p77_lp0 s w r false (if y < y then y else y) (if y > y then y else y) := rfl
  have h2 : s77_lp0 s w (y :: r) true 0 0 = s77_lp0 s w r false (if y < y then y else y) (if y > y then y else y) := rfl
  rw [h1, h2, h.1, h.2, e1]
  exact ⟨rfl, rfl⟩
def fcL (s : Sky) (w : Weather) : Int := mz (1000 - mx4 (s.Beta.Low * w.Pressure.Low) (s.Beta.Low * w.Pressure.High) (s.Beta.High * w.Pressure.Low) (s.Beta.High * w.Pressure.High) + mn4 (s.Alpha.Low * w.Warm.Low) (s.Alpha.Low * w.Warm.High) (s.Alpha.High * w.Warm.Low) (s.Alpha.High * w.Warm.High))
def fcH (s : Sky) (w : Weather) : Int := mz (1000 - mn4 (s.Beta.Low * w.Pressure.Low) (s.Beta.Low * w.Pressure.High) (s.Beta.High * w.Pressure.Low) (s.Beta.High * w.Pressure.High) + mx4 (s.Alpha.Low * w.Warm.Low) (s.Alpha.Low * w.Warm.High) (s.Alpha.High * w.Warm.Low) (s.Alpha.High * w.Warm.High))
theorem mz_mono {a b : Int} (h : a ≤ b) : mz a ≤ mz b := by
  unfold mz; split <;> split <;> omega
theorem all16 (b1 b2 b3 b4 a1 a2 a3 a4 : Int) :
    lmin (mz (1000 - b1 + a1)) [mz (1000 - b1 + a2), mz (1000 - b1 + a3), mz (1000 - b1 + a4), mz (1000 - b2 + a1), mz (1000 - b2 + a2), mz (1000 - b2 + a3), mz (1000 - b2 + a4), mz (1000 - b3 + a1), mz (1000 - b3 + a2), mz (1000 - b3 + a3), mz (1000 - b3 + a4), mz (1000 - b4 + a1), mz (1000 - b4 + a2), mz (1000 - b4 + a3), mz (1000 - b4 + a4)] = mz (1000 - mx4 b1 b2 b3 b4 + mn4 a1 a2 a3 a4) ∧
    lmax (mz (1000 - b1 + a1)) [mz (1000 - b1 + a2), mz (1000 - b1 + a3), mz (1000 - b1 + a4), mz (1000 - b2 + a1), mz (1000 - b2 + a2), mz (1000 - b2 + a3), mz (1000 - b2 + a4), mz (1000 - b3 + a1), mz (1000 - b3 + a2), mz (1000 - b3 + a3), mz (1000 - b3 + a4), mz (1000 - b4 + a1), mz (1000 - b4 + a2), mz (1000 - b4 + a3), mz (1000 - b4 + a4)] = mz (1000 - mn4 b1 b2 b3 b4 + mx4 a1 a2 a3 a4) := by
  obtain ⟨mb, eb⟩ := mx4_spec b1 b2 b3 b4
  obtain ⟨nb, fb⟩ := mn4_spec b1 b2 b3 b4
  obtain ⟨ma, ea⟩ := mx4_spec a1 a2 a3 a4
  obtain ⟨na, fa⟩ := mn4_spec a1 a2 a3 a4
  generalize mx4 b1 b2 b3 b4 = B at mb eb ⊢
  generalize mn4 b1 b2 b3 b4 = C at nb fb ⊢
  generalize mx4 a1 a2 a3 a4 = A at ma ea ⊢
  generalize mn4 a1 a2 a3 a4 = D at na fa ⊢
  constructor
  · generalize hl : [mz (1000 - b1 + a2), mz (1000 - b1 + a3), mz (1000 - b1 + a4), mz (1000 - b2 + a1), mz (1000 - b2 + a2), mz (1000 - b2 + a3), mz (1000 - b2 + a4), mz (1000 - b3 + a1), mz (1000 - b3 + a2), mz (1000 - b3 + a3), mz (1000 - b3 + a4), mz (1000 - b4 + a1), mz (1000 - b4 + a2), mz (1000 - b4 + a3), mz (1000 - b4 + a4)] = l
    obtain ⟨⟨g1, g2⟩, g3⟩ := lmin_spec l (mz (1000 - b1 + a1))
    refine Int.le_antisymm ?_ ?_
    · have hm : mz (1000 - B + D) = mz (1000 - b1 + a1) ∨ mz (1000 - B + D) ∈ l := by
        rw [← hl]
        rcases eb with e | e | e | e <;> rcases fa with f | f | f | f <;> rw [e, f] <;> simp
      rcases hm with e | e
      · rw [e]; exact g1
      · exact g2 _ e
    · have hle : ∀ y, y = mz (1000 - b1 + a1) ∨ y ∈ l → mz (1000 - B + D) ≤ y := by
        intro y hy
        rw [← hl] at hy
        simp only [List.mem_cons, List.not_mem_nil, or_false] at hy
        rcases hy with e | e | e | e | e | e | e | e | e | e | e | e | e | e | e | e <;> (rw [e]; exact mz_mono (by omega))
      rcases g3 with e | e
      · exact hle _ (Or.inl e)
      · exact hle _ (Or.inr e)
  · generalize hl : [mz (1000 - b1 + a2), mz (1000 - b1 + a3), mz (1000 - b1 + a4), mz (1000 - b2 + a1), mz (1000 - b2 + a2), mz (1000 - b2 + a3), mz (1000 - b2 + a4), mz (1000 - b3 + a1), mz (1000 - b3 + a2), mz (1000 - b3 + a3), mz (1000 - b3 + a4), mz (1000 - b4 + a1), mz (1000 - b4 + a2), mz (1000 - b4 + a3), mz (1000 - b4 + a4)] = l
    obtain ⟨⟨g1, g2⟩, g3⟩ := lmax_spec l (mz (1000 - b1 + a1))
    refine Int.le_antisymm ?_ ?_
    · have hle : ∀ y, y = mz (1000 - b1 + a1) ∨ y ∈ l → y ≤ mz (1000 - C + A) := by
        intro y hy
        rw [← hl] at hy
        simp only [List.mem_cons, List.not_mem_nil, or_false] at hy
        rcases hy with e | e | e | e | e | e | e | e | e | e | e | e | e | e | e | e <;> (rw [e]; exact mz_mono (by omega))
      rcases g3 with e | e
      · exact hle _ (Or.inl e)
      · exact hle _ (Or.inr e)
    · have hm : mz (1000 - C + A) = mz (1000 - b1 + a1) ∨ mz (1000 - C + A) ∈ l := by
        rw [← hl]
        rcases fb with e | e | e | e <;> rcases ea with f | f | f | f <;> rw [e, f] <;> simp
      rcases hm with e | e
      · rw [e]; exact g1
      · exact g2 _ e
def SB (s : Sky) : Prop := (-100 ≤ s.Beta.Low ∧ s.Beta.Low ≤ s.Beta.High ∧ s.Beta.High ≤ 100) ∧ (-100 ≤ s.Alpha.Low ∧ s.Alpha.Low ≤ s.Alpha.High ∧ s.Alpha.High ≤ 100)
theorem SOk.sb {s : Sky} (h : SOk s) : SB s := ⟨h.1.2.2.1, h.1.2.2.2⟩
theorem s77_eq {s : Sky} {w : Weather} (hs : SB s) (hw : WOk w) : p77 s w = true ∧ s77 s w = ⟨fcL s w, fcH s w⟩ := by
  obtain ⟨⟨b1, b2, b3⟩, a1, a2, a3⟩ := hs
  obtain ⟨⟨p1, p2, p3⟩, x1, x2, x3⟩ := hw
  have hbl : -100 ≤ s.Beta.Low ∧ s.Beta.Low ≤ 100 := by omega
  have hbh : -100 ≤ s.Beta.High ∧ s.Beta.High ≤ 100 := by omega
  have hal : -100 ≤ s.Alpha.Low ∧ s.Alpha.Low ≤ 100 := by omega
  have hah : -100 ≤ s.Alpha.High ∧ s.Alpha.High ≤ 100 := by omega
  have hpl : -1000 ≤ w.Pressure.Low ∧ w.Pressure.Low ≤ 1000 := by omega
  have hph : -1000 ≤ w.Pressure.High ∧ w.Pressure.High ≤ 1000 := by omega
  have hxl : -1000 ≤ w.Warm.Low ∧ w.Warm.Low ≤ 1000 := by omega
  have hxh : -1000 ≤ w.Warm.High ∧ w.Warm.High ≤ 1000 := by omega
  unfold p77 s77 p77_at0 s77_at0
  rw [ys117_y]
  rw [(s77_cons s w _ _).1, (s77_cons s w _ _).2]
  refine ⟨rfl, ?_⟩
  rw [y117_eq hbl hpl hal hxl, y117_eq hbl hpl hal hxh, y117_eq hbl hpl hah hxl, y117_eq hbl hpl hah hxh, y117_eq hbl hph hal hxl, y117_eq hbl hph hal hxh, y117_eq hbl hph hah hxl, y117_eq hbl hph hah hxh,
    y117_eq hbh hpl hal hxl, y117_eq hbh hpl hal hxh, y117_eq hbh hpl hah hxl, y117_eq hbh hpl hah hxh, y117_eq hbh hph hal hxl, y117_eq hbh hph hal hxh, y117_eq hbh hph hah hxl, y117_eq hbh hph hah hxh]
  obtain ⟨e1, e2⟩ := all16 (s.Beta.Low * w.Pressure.Low) (s.Beta.Low * w.Pressure.High) (s.Beta.High * w.Pressure.Low) (s.Beta.High * w.Pressure.High) (s.Alpha.Low * w.Warm.Low) (s.Alpha.Low * w.Warm.High) (s.Alpha.High * w.Warm.Low) (s.Alpha.High * w.Warm.High)
  rw [e1, e2]
  rfl
theorem fc_in {s : Sky} {w : Weather} {b p a x : Int} (hb : s.Beta.Low ≤ b ∧ b ≤ s.Beta.High) (hp : w.Pressure.Low ≤ p ∧ p ≤ w.Pressure.High) (ha : s.Alpha.Low ≤ a ∧ a ≤ s.Alpha.High) (hx : w.Warm.Low ≤ x ∧ x ≤ w.Warm.High) :
    fcL s w ≤ mz (1000 - b * p + a * x) ∧ mz (1000 - b * p + a * x) ≤ fcH s w := by
  have h1 := mul_in hb hp
  have h2 := mul_in ha hx
  exact ⟨mz_mono (by omega), mz_mono (by omega)⟩
theorem fc_b {s : Sky} {w : Weather} (hs : SB s) (hw : WOk w) : 0 ≤ fcL s w ∧ fcL s w ≤ fcH s w ∧ fcH s w ≤ 201000 := by
  obtain ⟨⟨b1, b2, b3⟩, a1, a2, a3⟩ := hs
  obtain ⟨⟨p1, p2, p3⟩, x1, x2, x3⟩ := hw
  have h := fc_in (s := s) (w := w) ⟨Int.le_refl _, b2⟩ ⟨Int.le_refl _, p2⟩ ⟨Int.le_refl _, a2⟩ ⟨Int.le_refl _, x2⟩
  have c1 := mul_b (p := 100) (q := 1000) (x := s.Beta.Low) (y := w.Pressure.Low) (by omega) (by omega) (by omega) (by omega)
  have c2 := mul_b (p := 100) (q := 1000) (x := s.Beta.Low) (y := w.Pressure.High) (by omega) (by omega) (by omega) (by omega)
  have c3 := mul_b (p := 100) (q := 1000) (x := s.Beta.High) (y := w.Pressure.Low) (by omega) (by omega) (by omega) (by omega)
  have c4 := mul_b (p := 100) (q := 1000) (x := s.Beta.High) (y := w.Pressure.High) (by omega) (by omega) (by omega) (by omega)
  have d1 := mul_b (p := 100) (q := 1000) (x := s.Alpha.Low) (y := w.Warm.Low) (by omega) (by omega) (by omega) (by omega)
  have d2 := mul_b (p := 100) (q := 1000) (x := s.Alpha.Low) (y := w.Warm.High) (by omega) (by omega) (by omega) (by omega)
  have d3 := mul_b (p := 100) (q := 1000) (x := s.Alpha.High) (y := w.Warm.Low) (by omega) (by omega) (by omega) (by omega)
  have d4 := mul_b (p := 100) (q := 1000) (x := s.Alpha.High) (y := w.Warm.High) (by omega) (by omega) (by omega) (by omega)
  have m := (mn4_spec (s.Beta.Low * w.Pressure.Low) (s.Beta.Low * w.Pressure.High) (s.Beta.High * w.Pressure.Low) (s.Beta.High * w.Pressure.High)).2
  have n := (mx4_spec (s.Alpha.Low * w.Warm.Low) (s.Alpha.Low * w.Warm.High) (s.Alpha.High * w.Warm.Low) (s.Alpha.High * w.Warm.High)).2
  refine ⟨by unfold fcL mz; split <;> omega, by omega, ?_⟩
  unfold fcH mz
  split <;> omega
def LOk (l : Sl Spell) : Prop := (1 ≤ (l.len : Int) ∧ (l.len : Int) ≤ 50) ∧ ∀ i, i < l.len → (1 ≤ (l.get i).Slots ∧ (l.get i).Slots ≤ 1000000) ∧ WOk (l.get i).Weather
theorem s67_ok (l : Sl Spell) (hn : l.len ≤ 9223372036854775807) : p67 l = true ∧ (s67 l = true ↔ LOk l) := by
  have h : p67 l = true ∧ (s67 l = true ↔ (∀ i, i < l.len → (decide (1 ≤ (l.get i).Slots ∧ (l.get i).Slots ≤ 1000000) && s76 (l.get i).Weather) = true) ∧ s63 (l.len : Int) 1 50 = true) := by
    refine all_loop (n := l.len) (good := fun i => decide (1 ≤ (l.get i).Slots ∧ (l.get i).Slots ≤ 1000000) && s76 (l.get i).Weather) (lpS := s67_lp0 l) (lpP := p67_lp0 l) ?_ ?_ ?_ ?_ hn
    · intro k i hi
      show s67_st0 l (s67_lp0 l k) i = _
      generalize s67_lp0 l k = S
      unfold s67_st0 s67_at1
      rw [decide_eq_true (by omega), Int.toNat_natCast, s63_eq]
      cases decide (1 ≤ (l.get i).Slots ∧ (l.get i).Slots ≤ 1000000) <;> cases s76 (l.get i).Weather <;> rfl
    · intro k
      show s67_st0 l (s67_lp0 l k) _ = _
      unfold s67_st0
      rw [decide_eq_false (by omega), cond_false]
    · intro k i hi
      show p67_st0 l (p67_lp0 l k) i = _
      generalize p67_lp0 l k = S
      unfold p67_st0 p67_at1
      rw [decide_eq_true (show (i : Int) < (l.len : Int) by omega), Int.toNat_natCast, s63_eq, decide_eq_true (show 0 ≤ (i : Int) ∧ (i : Int) < (l.len : Int) by omega)]
      cases decide (1 ≤ (l.get i).Slots ∧ (l.get i).Slots ≤ 1000000) <;> cases s76 (l.get i).Weather <;> rfl
    · intro k
      show p67_st0 l (p67_lp0 l k) _ = _
      unfold p67_st0
      rw [decide_eq_false (by omega), cond_false]
  refine ⟨h.1, h.2.trans ?_⟩
  unfold LOk
  rw [s63_eq]
  simp only [Bool.and_eq_true, decide_eq_true_eq, s76_eq]
  exact And.comm
theorem s22_ok (l : Sl Spell) (hn : l.len ≤ 9223372036854775807) : p22 l = true ∧ s22 l = s67 l := by
  have h : p22 l = true ∧ (s22 l = true ↔ (∀ i, i < l.len → (decide (1 ≤ (l.get i).Slots ∧ (l.get i).Slots ≤ 1000000) && s76 (l.get i).Weather) = true) ∧ s58 (l.len : Int) 1 50 = true) := by
    refine all_loop (n := l.len) (good := fun i => decide (1 ≤ (l.get i).Slots ∧ (l.get i).Slots ≤ 1000000) && s76 (l.get i).Weather) (lpS := s22_lp0 l) (lpP := p22_lp0 l) ?_ ?_ ?_ ?_ hn
    · intro k i hi
      show s22_st0 l (s22_lp0 l k) i = _
      generalize s22_lp0 l k = S
      unfold s22_st0 s22_at1
      rw [decide_eq_true (by omega), Int.toNat_natCast, s58_eq, s36_eq]
      cases decide (1 ≤ (l.get i).Slots ∧ (l.get i).Slots ≤ 1000000) <;> cases s76 (l.get i).Weather <;> rfl
    · intro k
      show s22_st0 l (s22_lp0 l k) _ = _
      unfold s22_st0
      rw [decide_eq_false (by omega), cond_false]
    · intro k i hi
      show p22_st0 l (p22_lp0 l k) i = _
      generalize p22_lp0 l k = S
      unfold p22_st0 p22_at1
      rw [decide_eq_true (show (i : Int) < (l.len : Int) by omega), Int.toNat_natCast, s58_eq, s36_eq, decide_eq_true (show 0 ≤ (i : Int) ∧ (i : Int) < (l.len : Int) by omega)]
      cases decide (1 ≤ (l.get i).Slots ∧ (l.get i).Slots ≤ 1000000) <;> cases s76 (l.get i).Weather <;> rfl
    · intro k
      show p22_st0 l (p22_lp0 l k) _ = _
      unfold p22_st0
      rw [decide_eq_false (by omega), cond_false]
  refine ⟨h.1, Bool.eq_iff_iff.2 (h.2.trans ((s67_ok l hn).2.trans ?_).symm)⟩
  unfold LOk
  rw [s58_eq]
  simp only [Bool.and_eq_true, decide_eq_true_eq, s76_eq]
  exact And.comm
def sumF (f : Nat → Int) : Nat → Int
  | 0 => 0
  | i + 1 => sumF f i + f i
theorem sumF_le {f g : Nat → Int} {n : Nat} (h : ∀ i, i < n → f i ≤ g i) : sumF f n ≤ sumF g n := by
  induction n with
  | zero => exact Int.le_refl _
  | succ n ih =>
    have := ih fun i hi => h i (by omega)
    have := h n (by omega)
    show sumF f n + f n ≤ sumF g n + g n
    omega
theorem sumF_b {f : Nat → Int} {n : Nat} {b : Int} (h : ∀ i, i < n → 0 ≤ f i ∧ f i ≤ b) : 0 ≤ sumF f n ∧ sumF f n ≤ n * b := by
  induction n with
  | zero => exact ⟨Int.le_refl _, by show (0 : Int) ≤ _; simp⟩
  | succ n ih =>
    have h1 := ih fun i hi => h i (by omega)
    have h2 := h n (by omega)
    have e : ((n + 1 : Nat) : Int) * b = n * b + b := by rw [Int.natCast_add, Int.add_mul]; simp
    show 0 ≤ sumF f n + f n ∧ sumF f n + f n ≤ _
    rw [e]
    omega
theorem sumF_mul (c : Int) (f : Nat → Int) (n : Nat) : sumF (fun i => c * f i) n = c * sumF f n := by
  induction n with
  | zero => show (0 : Int) = c * 0; simp
  | succ n ih =>
    show sumF (fun i => c * f i) n + c * f n = c * (sumF f n + f n)
    rw [ih, Int.mul_add]
theorem sumF_pos {f : Nat → Int} {n : Nat} (hn : 0 < n) (h : ∀ i, i < n → 1 ≤ f i) : 1 ≤ sumF f n := by
  cases n with
  | zero => omega
  | succ n =>
    have h1 : 0 ≤ sumF f n := by
      clear hn
      induction n with
      | zero => exact Int.le_refl _
      | succ n ih =>
        have := ih fun i hi => h i (by omega)
        have := h n (by omega)
        show 0 ≤ sumF f n + f n
        omega
    have := h n (by omega)
    show 1 ≤ sumF f n + f n
    omega
def rlo (parts r f : Int) : Int := if r * f / 1000 < parts then r * f / 1000 else parts
def rhi (parts r f : Int) : Int := if (r * f + 999) / 1000 < parts then (r * f + 999) / 1000 else parts
theorem mulN {r f a b : Int} (hr : 0 ≤ r ∧ r ≤ a) (hf : 0 ≤ f ∧ f ≤ b) : 0 ≤ r * f ∧ r * f ≤ a * b := by
  refine ⟨Int.mul_nonneg hr.1 hf.1, ?_⟩
  have h1 := Int.mul_le_mul_of_nonneg_right hr.2 hf.1
  have h2 := Int.mul_le_mul_of_nonneg_left hf.2 (show 0 ≤ a by omega)
  omega
theorem s97_eq (g : ground) {r f : Int} (hr : 0 ≤ r ∧ r ≤ 1000000) (hf : 0 ≤ f ∧ f ≤ 201000) : s97 g r f = rlo g.Sky.Parts r f := by
  have h := mulN hr hf
  unfold s97 rlo
  rw [w64_id (x := r * f) (by omega) (by omega), Int.tdiv_eq_ediv_of_nonneg h.1]
  generalize r * f = m at h
  rw [w64_id (by omega) (by omega)]
theorem s98_eq (g : ground) {r f : Int} (hr : 0 ≤ r ∧ r ≤ 1000000) (hf : 0 ≤ f ∧ f ≤ 201000) : s98 g r f = rhi g.Sky.Parts r f := by
  have h := mulN hr hf
  unfold s98 rhi
  generalize r * f = m at h
  rw [w64_id (x := m) (by omega) (by omega), w64_id (x := m + 999) (by omega) (by omega), Int.tdiv_eq_ediv_of_nonneg (by omega), w64_id (by omega) (by omega)]
def slF (l : Sl Spell) (i : Nat) : Int := (l.get i).Slots
def loF (s : Sky) (x : Span) (l : Sl Spell) (i : Nat) : Int := (l.get i).Slots * rlo s.Parts x.Low (fcL s (l.get i).Weather)
def hiF (s : Sky) (x : Span) (l : Sl Spell) (i : Nat) : Int := (l.get i).Slots * rhi s.Parts x.High (fcH s (l.get i).Weather)
def meanV (s : Sky) (x : Span) (l : Sl Spell) : Span := ⟨sumF (loF s x l) l.len / sumF (slF l) l.len, (sumF (hiF s x l) l.len + sumF (slF l) l.len - 1) / sumF (slF l) l.len⟩
def XOk (s : Sky) (x : Span) : Prop := 0 ≤ x.Low ∧ x.Low ≤ x.High ∧ x.High ≤ s.Parts
theorem lo_b {s : Sky} {x : Span} {l : Sl Spell} (hs : SOk s) (hx : XOk s x) (hl : LOk l) : ∀ i, i < l.len → (0 ≤ rlo s.Parts x.Low (fcL s (l.get i).Weather) ∧ rlo s.Parts x.Low (fcL s (l.get i).Weather) ≤ 1000000) ∧ (0 ≤ rhi s.Parts x.High (fcH s (l.get i).Weather) ∧ rhi s.Parts x.High (fcH s (l.get i).Weather) ≤ 1000000) ∧ (0 ≤ loF s x l i ∧ loF s x l i ≤ 1000000000000) ∧ (0 ≤ hiF s x l i ∧ hiF s x l i ≤ 1000000000000) := by
  intro i hi
  obtain ⟨h1, h2⟩ := hl.2 i hi
  have hp := hs.1.1
  obtain ⟨f0, f1, f2⟩ := fc_b hs.sb h2
  obtain ⟨x0, x1, x2⟩ := hx
  have m1 := mulN (r := x.Low) (f := fcL s (l.get i).Weather) (a := 1000000) (b := 201000) (by omega) (by omega)
  have m2 := mulN (r := x.High) (f := fcH s (l.get i).Weather) (a := 1000000) (b := 201000) (by omega) (by omega)
  have r1 : 0 ≤ rlo s.Parts x.Low (fcL s (l.get i).Weather) ∧ rlo s.Parts x.Low (fcL s (l.get i).Weather) ≤ 1000000 := by
    unfold rlo
    generalize x.Low * fcL s (l.get i).Weather = m at m1
    split <;> omega
  have r2 : 0 ≤ rhi s.Parts x.High (fcH s (l.get i).Weather) ∧ rhi s.Parts x.High (fcH s (l.get i).Weather) ≤ 1000000 := by
    unfold rhi
    generalize x.High * fcH s (l.get i).Weather = m at m2
    split <;> omega
  have q1 := mulN (r := (l.get i).Slots) (a := 1000000) (by omega) r1
  have q2 := mulN (r := (l.get i).Slots) (a := 1000000) (by omega) r2
  exact ⟨r1, r2, by unfold loF; omega, by unfold hiF; omega⟩
theorem sums_b {s : Sky} {x : Span} {l : Sl Spell} (hs : SOk s) (hx : XOk s x) (hl : LOk l) : ∀ i, i ≤ l.len → (0 ≤ sumF (slF l) i ∧ sumF (slF l) i ≤ 50000000) ∧ (0 ≤ sumF (loF s x l) i ∧ sumF (loF s x l) i ≤ 50000000000000) ∧ (0 ≤ sumF (hiF s x l) i ∧ sumF (hiF s x l) i ≤ 50000000000000) := by
  intro i hi
  have hlen := hl.1
  have a := sumF_b (f := slF l) (n := i) (b := 1000000) (fun j hj => by have := (hl.2 j (by omega)).1; unfold slF; omega)
  have b := sumF_b (f := loF s x l) (n := i) (b := 1000000000000) (fun j hj => (lo_b hs hx hl j (by omega)).2.2.1)
  have c := sumF_b (f := hiF s x l) (n := i) (b := 1000000000000) (fun j hj => (lo_b hs hx hl j (by omega)).2.2.2)
  omega
theorem s68_eq {g : ground} {x : Span} {l : Sl Spell} (hs : SOk g.Sky) (hx : XOk g.Sky x) (hl : LOk l) : p68 g x l = true ∧ s68 g x l = meanV g.Sky x l := by
  have hlen := hl.1
  have hp := hs.1.1
  have key : ∀ m k i : Nat, i + m = l.len → m < k → p68_lp0 g x l k (sumF (slF l) i) i (sumF (loF g.Sky x l) i) (sumF (hiF g.Sky x l) i) = true ∧ s68_lp0 g x l k (sumF (slF l) i) i (sumF (loF g.Sky x l) i) (sumF (hiF g.Sky x l) i) = meanV g.Sky x l := by
    intro m
    induction m with
    | zero =>
      intro k i hi hm
      obtain ⟨k, rfl⟩ : ∃ k', k = k' + 1 := ⟨k - 1, by omega⟩
      show p68_st0 g x l (p68_lp0 g x l k) _ _ _ _ = true ∧ s68_st0 g x l (s68_lp0 g x l k) _ _ _ _ = _
      unfold p68_st0 s68_st0
      rw [decide_eq_false (by omega)]
      have e : i = l.len := by omega
      subst e
      obtain ⟨c1, c2, c3⟩ := sums_b hs hx hl l.len (Nat.le_refl _)
      have c0 := sumF_pos (f := slF l) (n := l.len) (by omega) (fun i hi => (hl.2 i hi).1.1)
      unfold p68_at1 s68_at1 meanV
      rw [cond_false, cond_false, decide_eq_true (show sumF (slF l) l.len ≠ 0 by omega)]
      refine ⟨rfl, ?_⟩
      generalize sumF (slF l) l.len = S at *
      generalize sumF (loF g.Sky x l) l.len = A at *
      generalize sumF (hiF g.Sky x l) l.len = B at *
      rw [w64_id (x := B + S) (by omega) (by omega), w64_id (x := B + S - 1) (by omega) (by omega), Int.tdiv_eq_ediv_of_nonneg (by omega), Int.tdiv_eq_ediv_of_nonneg (by omega)]
      have d1 : 0 ≤ A / S := Int.ediv_nonneg (by omega) (by omega)
      have d2 : A / S ≤ A := Int.ediv_le_self _ (by omega)
      have d3 : 0 ≤ (B + S - 1) / S := Int.ediv_nonneg (by omega) (by omega)
      have d4 : (B + S - 1) / S ≤ B + S - 1 := Int.ediv_le_self _ (by omega)
      rw [w64_id (x := A / S) (by omega) (by omega), w64_id (x := (B + S - 1) / S) (by omega) (by omega)]
    | succ m ih =>
      intro k i hi hm
      obtain ⟨k, rfl⟩ : ∃ k', k = k' + 1 := ⟨k - 1, by omega⟩
      show p68_st0 g x l (p68_lp0 g x l k) _ _ _ _ = true ∧ s68_st0 g x l (s68_lp0 g x l k) _ _ _ _ = _
      have hil : i < l.len := by omega
      obtain ⟨hw1, hw2⟩ := hl.2 i hil
      obtain ⟨f0, f1, f2⟩ := fc_b hs.sb hw2
      obtain ⟨x0, x1, x2⟩ := hx
      obtain ⟨q1, q2, q3, q4⟩ := lo_b hs ⟨x0, x1, x2⟩ hl i hil
      obtain ⟨c1, c2, c3⟩ := sums_b hs ⟨x0, x1, x2⟩ hl i (by omega)
      unfold p68_st0 s68_st0
      have e3 : w64 ((i : Int) + 1) = ((i + 1 : Nat) : Int) := by rw [w64_id (by omega) (by omega)]; omega
      rw [decide_eq_true (show (i : Int) < (l.len : Int) by omega), decide_eq_true (show 0 ≤ (i : Int) ∧ (i : Int) < (l.len : Int) by omega), Int.toNat_natCast, (s77_eq hs.sb hw2).1, (s77_eq hs.sb hw2).2, e3]
      rw [s97_eq g (r := x.Low) (f := fcL g.Sky (l.get i).Weather) (by omega) (by omega), s98_eq g (r := x.High) (f := fcH g.Sky (l.get i).Weather) (by omega) (by omega)]
      have u1 : p97 g x.Low (fcL g.Sky (l.get i).Weather) = true := rfl
      have u2 : p98 g x.High (fcH g.Sky (l.get i).Weather) = true := rfl
      rw [u1, u2]
      have v1 : w64 ((l.get i).Slots * rlo g.Sky.Parts x.Low (fcL g.Sky (l.get i).Weather)) = loF g.Sky x l i := by
        show w64 (loF g.Sky x l i) = _
        exact w64_id (by omega) (by omega)
      have v2 : w64 ((l.get i).Slots * rhi g.Sky.Parts x.High (fcH g.Sky (l.get i).Weather)) = hiF g.Sky x l i := by
        show w64 (hiF g.Sky x l i) = _
        exact w64_id (by omega) (by omega)
      rw [v1, v2, w64_id (x := sumF (slF l) i + (l.get i).Slots) (by omega) (by omega), w64_id (x := sumF (loF g.Sky x l) i + loF g.Sky x l i) (by omega) (by omega), w64_id (x := sumF (hiF g.Sky x l) i + hiF g.Sky x l i) (by omega) (by omega)]
      have := ih k (i + 1) (by omega) (by omega)
      simpa [sumF, slF] using this
  exact key l.len Fuel 0 (by omega) (by simp only [Fuel]; omega)
theorem abv_ok {parts : Int} {l : Sl FluxRow} {y : Span} (hb : BOk parts l) (hp : 0 ≤ parts) (hy : 1 ≤ y.Low) (hyy : y.High = -1 ∨ y.Low ≤ y.High) : 0 ≤ (abv l y).Low ∧ (abv l y).Low ≤ (abv l y).High ∧ (abv l y).High ≤ parts := by
  have hlen := hb.1
  have hr : ∀ i, i < l.len → 0 ≤ (l.get i).Rate.Low ∧ (l.get i).Rate.Low ≤ (l.get i).Rate.High ∧ (l.get i).Rate.High ≤ parts := fun i hi => (hb.2.2 i hi).2.1
  have b1 : jL l y.Low ≤ l.len := fst_le _ _
  have hj : 0 < jL l y.Low := by
    rcases Nat.eq_zero_or_pos (jL l y.Low) with h | h
    · have := of_decide_eq_true (fst_hi (c := fun i => decide ((l.get i).Energy > y.Low)) (n := l.len) (show jL l y.Low < l.len by omega))
      have h2 : fst (fun i => decide ((l.get i).Energy > y.Low)) l.len = 0 := h
      rw [h2, hb.2.1] at this
      omega
    · exact h
  have eH : (abv l y).High = (l.get (jL l y.Low - 1)).Rate.High := by
    show abvH l y.Low = _
    unfold abvH
    rw [if_pos hj]
  have h1 := hr (jL l y.Low - 1) (by omega)
  rw [eH]
  show 0 ≤ abvL l y.High ∧ abvL l y.High ≤ _ ∧ _
  unfold abvL
  by_cases hn : y.High = -1
  · rw [if_pos hn]; omega
  rw [if_neg hn]
  by_cases hl : jH l y.High < l.len
  · rw [if_pos hl]
    have h2 := hr _ hl
    have h3 : jL l y.Low - 1 ≤ jH l y.High := by
      rcases Nat.lt_or_ge (jH l y.High) (jL l y.Low - 1) with h | h
      · have h4 : (l.get (jH l y.High)).Energy ≥ y.High := of_decide_eq_true (fst_hi (c := fun i => decide ((l.get i).Energy ≥ y.High)) hl)
        have h5 := of_decide_eq_false (fst_lo (c := fun i => decide ((l.get i).Energy > y.Low)) (n := l.len) (j := jL l y.Low - 1) (by show _ < jL l y.Low; omega))
        have := b_e hb h (by omega)
        rcases hyy with e | e <;> omega
      · exact h
    have := b_low hb h3 hl
    omega
  · rw [if_neg hl]; omega
theorem thr_ok {t : Sl RangeRow} {x : Int} (hk : TOk t) (hx : 0 ≤ x) : 1 ≤ (thr t x).Low ∧ ((thr t x).High = -1 ∨ (thr t x).Low ≤ (thr t x).High) := by
  have hE : ∀ i, i < t.len → 1 ≤ (t.get i).Energy ∧ (t.get i).Energy ≤ 1000000 := fun i hi => (hk.2 i hi).1
  have b1 : kH t x ≤ t.len := fst_le _ _
  unfold thr
  by_cases h0 : x = 0
  · rw [if_pos h0]; exact ⟨Int.le_refl _, Or.inr (Int.le_refl _)⟩
  rw [if_neg h0]
  show 1 ≤ thrL t x ∧ (thrH t x = -1 ∨ thrL t x ≤ thrH t x)
  have h1 : 1 ≤ thrL t x := by
    unfold thrL
    by_cases h : 0 < kH t x
    · rw [if_pos h]; have := hE (kH t x - 1) (by omega); omega
    · rw [if_neg h]; exact Int.le_refl _
  refine ⟨h1, ?_⟩
  unfold thrH
  by_cases hl : kL t x < t.len
  · rw [if_pos hl]
    refine Or.inr ?_
    unfold thrL
    by_cases h : 0 < kH t x
    · rw [if_pos h]
      have h2 : kH t x ≤ kL t x := fst_mono' fun i hi hd => by
        have := of_decide_eq_true hd
        have := (hk.2 i hi).2.1
        exact decide_eq_true (by omega)
      have := t_e hk (show kH t x - 1 < kL t x by omega) hl
      omega
    · rw [if_neg h]; exact (hE _ hl).1
  · rw [if_neg hl]; exact Or.inl rfl
where
  fst_mono' {c d : Nat → Bool} {n : Nat} (h : ∀ i, i < n → d i = true → c i = true) : fst c n ≤ fst d n := by
    rcases Nat.lt_or_ge (fst d n) (fst c n) with h1 | h1
    · have h2 := fst_lo h1
      have := fst_le c n
      rw [h _ (by omega) (fst_hi (by omega))] at h2
      cases h2
    · exact h1
theorem expd_ok {s : Sky} {t : Sl RangeRow} {bin x : Int} (h : Fine s t bin x) : XOk s (expd s t bin x) := by
  obtain ⟨h1, h2⟩ := thr_ok h.2.1 h.2.2.2.1
  exact abv_ok h.b (by have := h.1.1.1; omega) h1 h2
theorem s23_ok (s : Sky) (t : Sl RangeRow) (bin x : Int) (l : Sl Spell) (hs : SL s) (ht : t.len ≤ 9223372036854775807) (hl : l.len ≤ 9223372036854775807) : p23 s t bin x l = true ∧ (Fine s t bin x ∧ LOk l → s23 s t bin x l = (meanV s (expd s t bin x) l, 0)) ∧ (¬ (Fine s t bin x ∧ LOk l) → s23 s t bin x l = (⟨0, 0⟩, 2)) := by
  obtain ⟨h1, h2⟩ := s65_ok s t bin x hs ht
  obtain ⟨e1, e2⟩ := s65_g s t bin x
  obtain ⟨l1, l2⟩ := s67_ok l hl
  unfold p23 s23
  rw [h1, e1, e2, l1]
  by_cases h : Fine s t bin x
  · rw [h2.2 h, (s66_eq h).1, (s66_eq h).2]
    by_cases hk : LOk l
    · have hg : SOk (s65 s t bin x).1.Sky := by rw [e1]; exact h.1
      have hx : XOk (s65 s t bin x).1.Sky (expd s t bin x) := by rw [e1]; exact expd_ok h
      have h8 := s68_eq hg hx hk
      rw [h8.1, h8.2, l2.2 hk, e1]
      exact ⟨rfl, fun _ => rfl, fun h3 => absurd ⟨h, hk⟩ h3⟩
    · have h3 : s67 l = false := by
        cases e : s67 l
        · rfl
        · exact absurd (l2.1 e) hk
      rw [h3]
      exact ⟨rfl, fun h3 => absurd h3.2 hk, fun _ => rfl⟩
  · have h3 : (s65 s t bin x).2 = false := by
      cases e : (s65 s t bin x).2
      · rfl
      · exact absurd (h2.1 e) h
    rw [h3]
    exact ⟨rfl, fun h3 => absurd h3.1 h, fun _ => rfl⟩
end Go.Proofs
namespace Go.Proofs
open Go Go.Pm
set_option linter.unusedVariables false
theorem mem_tabI (n : Nat) : ∀ (f : Nat → Int) (x : Int), x ∈ tabI n f ↔ ∃ i, i < n ∧ f i = x := by
  induction n with
  | zero => intro f x; simp [tabI]
  | succ n ih =>
    intro f x
    rw [show tabI (n + 1) f = f 0 :: tabI n (fun i => f (i + 1)) from rfl, List.mem_cons, ih]
    constructor
    · rintro (h | ⟨i, h1, h2⟩)
      · exact ⟨0, by omega, h.symm⟩
      · exact ⟨i + 1, by omega, h2⟩
    · rintro ⟨i, h1, h2⟩
      cases i with
      | zero => exact Or.inl h2.symm
      | succ i => exact Or.inr ⟨i, by omega, h2⟩
theorem len_tabI (n : Nat) : ∀ (f : Nat → Int), (tabI n f).length = n := by
  induction n with
  | zero => intro f; rfl
  | succ n ih => intro f; show (tabI n _).length + 1 = n + 1; rw [ih]
theorem getT_get {d : Int} : ∀ (l : List Int) (k : Nat) (h : k < l.length), getT d l k = l[k]
  | _ :: _, 0, _ => rfl
  | _ :: r, k + 1, h => getT_get r k (by simpa using h)
theorem tabI_getT : ∀ (l : List Int), tabI l.length (getT 0 l) = l
  | [] => rfl
  | x :: r => by
    show getT 0 (x :: r) 0 :: tabI r.length (fun i => getT 0 (x :: r) (i + 1)) = x :: r
    have : (fun i => getT 0 (x :: r) (i + 1)) = getT 0 r := rfl
    rw [this, tabI_getT r]
    rfl
theorem mem_getT (l : List Int) (x : Int) : x ∈ l ↔ ∃ k, k < l.length ∧ getT 0 l k = x := by
  have := mem_tabI l.length (getT 0 l) x
  rwa [tabI_getT] at this
theorem comp_ok (zs : List Int) (hz : zs.Pairwise (· ≤ ·)) : ∀ m, m ≤ zs.length → ((Lib.compactUpTo zs.toArray m).Pairwise (· < ·) ∧ (∀ x, x ∈ Lib.compactUpTo zs.toArray m ↔ ∃ j, j < m ∧ getT 0 zs j = x)) ∧ (Lib.compactUpTo zs.toArray m).length ≤ m := by
  have hg : ∀ j, j < zs.length → zs.toArray[j]! = getT 0 zs j := fun j hj => by
    rw [getT_get zs j hj]
    simp [hj]
  have hs : ∀ i j, i < j → j < zs.length → getT 0 zs i ≤ getT 0 zs j := fun i j hij hj => by
    rw [getT_get zs i (by omega), getT_get zs j hj]
    exact List.pairwise_iff_getElem.1 hz i j (by omega) hj hij
  intro m
  induction m with
  | zero =>
    intro _
    have : Lib.compactUpTo zs.toArray 0 = [] := rfl
    rw [this]
    exact ⟨⟨.nil, fun x => ⟨fun h => absurd h (by simp), fun ⟨j, h, _⟩ => absurd h (by omega)⟩⟩, Nat.le_refl _⟩
  | succ m ih =>
    intro hm
    obtain ⟨⟨h1, h2⟩, h3⟩ := ih (by omega)
    rw [Lib.compactUpTo_succ]
    by_cases hk : Lib.keeps zs.toArray m = true
    · rw [if_pos hk, hg m (by omega)]
      refine ⟨⟨?_, fun x => ?_⟩, by simp; omega⟩
      · refine List.pairwise_append.2 ⟨h1, List.pairwise_singleton _ _, fun a ha b hb => ?_⟩
        rw [List.mem_singleton] at hb
        obtain ⟨j, hj, e⟩ := (h2 a).1 ha
        have hk2 : m = 0 ∨ zs.toArray[m]! ≠ zs.toArray[m - 1]! := of_decide_eq_true hk
        rcases hk2 with e0 | hne
        · omega
        · rw [hg m (by omega), hg (m - 1) (by omega)] at hne
          have a1 := hs (m - 1) m (by omega) (by omega)
          by_cases e1 : j = m - 1
          · rw [← e, hb, e1]; omega
          · have := hs j (m - 1) (by omega) (by omega)
            rw [← e, hb]; omega
      · rw [List.mem_append, h2, List.mem_singleton]
        constructor
        · rintro (⟨j, hj, e⟩ | e)
          · exact ⟨j, by omega, e⟩
          · exact ⟨m, by omega, e.symm⟩
        · rintro ⟨j, hj, e⟩
          by_cases e1 : j = m
          · rw [e1] at e; exact Or.inr e.symm
          · exact Or.inl ⟨j, by omega, e⟩
    · rw [if_neg hk, List.append_nil]
      refine ⟨⟨h1, fun x => ?_⟩, by omega⟩
      rw [h2]
      have hm0 : ¬ (m = 0 ∨ zs.toArray[m]! ≠ zs.toArray[m - 1]!) := fun h => hk (decide_eq_true h)
      have hm1 : m ≠ 0 := fun h => hm0 (Or.inl h)
      have heq : zs.toArray[m]! = zs.toArray[m - 1]! := Decidable.of_not_not fun h => hm0 (Or.inr h)
      rw [hg m (by omega), hg (m - 1) (by omega)] at heq
      constructor
      · rintro ⟨j, hj, e⟩; exact ⟨j, by omega, e⟩
      · rintro ⟨j, hj, e⟩
        by_cases e1 : j = m
        · exact ⟨m - 1, by omega, by rw [← heq, ← e1]; exact e⟩
        · exact ⟨j, by omega, e⟩
theorem sc_ok (n : Nat) (g : Nat → Int) :
    cmpN n (sortT n g) ≤ n ∧ (∀ i j, i < j → j < cmpN n (sortT n g) → cmpT n (sortT n g) i < cmpT n (sortT n g) j) ∧ (∀ x, (∃ k, k < cmpN n (sortT n g) ∧ cmpT n (sortT n g) k = x) ↔ ∃ j, j < n ∧ g j = x) := by
  have hl : (isort (tabI n g)).length = n := by rw [isort_len, len_tabI]
  have ht : tabI n (sortT n g) = isort (tabI n g) := by
    have := tabI_getT (isort (tabI n g))
    rw [hl] at this
    exact this
  unfold cmpN cmpT
  rw [ht]
  obtain ⟨⟨h1, h2⟩, h3⟩ := comp_ok (isort (tabI n g)) (isort_sorted _) n (by rw [hl]; exact Nat.le_refl _)
  have hc : Lib.compact (isort (tabI n g)) = Lib.compactUpTo (isort (tabI n g)).toArray n := by unfold Lib.compact; rw [hl]
  rw [hc]
  refine ⟨h3, fun i j hij hj => ?_, fun x => ?_⟩
  · rw [getT_get _ i (by omega), getT_get _ j hj]
    exact List.pairwise_iff_getElem.1 h1 i j (by omega) hj hij
  · rw [← mem_getT, h2, ← mem_tabI n g, ← (isort_perm (tabI n g)).mem_iff, mem_getT, hl]
def Ed (t : Sl RangeRow) (x : Int) : Prop := x = 0 ∨ x = 1 ∨ ∃ a, a < t.len ∧ (x = (t.get a).Range.Low + 1 ∨ x = (t.get a).Range.High + 1)
theorem thr_const {t : Sl RangeRow} {x y : Int} (hx : 0 ≤ x) (hxy : x ≤ y) (h : ∀ e, Ed t e → x < e → y < e) : thr t x = thr t y := by
  have h1 : kH t x = kH t y := by
    unfold kH
    refine fst_eqc fun i hi => decide_eq_decide.2 ⟨fun a => ?_, fun a => by omega⟩
    have := h ((t.get i).Range.High + 1) (Or.inr (Or.inr ⟨i, hi, Or.inr rfl⟩)) (by omega)
    omega
  have h2 : kL t x = kL t y := by
    unfold kL
    refine fst_eqc fun i hi => decide_eq_decide.2 ⟨fun a => ?_, fun a => by omega⟩
    have := h ((t.get i).Range.Low + 1) (Or.inr (Or.inr ⟨i, hi, Or.inl rfl⟩)) (by omega)
    omega
  unfold thr thrL thrH
  rw [h1, h2]
  by_cases h0 : x = 0
  · have : y = 0 := by
      have := h 1 (Or.inr (Or.inl rfl))
      omega
    rw [if_pos h0, if_pos this]
  · rw [if_neg h0, if_neg (show ¬ y = 0 by omega)]
where
  fst_eqc {c d : Nat → Bool} {n : Nat} (h : ∀ i, i < n → c i = d i) : fst c n = fst d n := by
    have hl := fst_le d n
    exact fst_uniq hl (fun j hj => by rw [h j (by omega)]; exact fst_lo hj) (fun hh => by rw [h _ hh]; exact fst_hi hh)
theorem fst_mon {c d : Nat → Bool} {n : Nat} (h : ∀ i, i < n → d i = true → c i = true) : fst c n ≤ fst d n := by
  rcases Nat.lt_or_ge (fst d n) (fst c n) with h1 | h1
  · have h2 := fst_lo h1
    have := fst_le c n
    rw [h _ (by omega) (fst_hi (by omega))] at h2
    cases h2
  · exact h1
theorem thr_mono {t : Sl RangeRow} {x y : Int} (hk : TOk t) (hx : 0 ≤ x) (hxy : x ≤ y) : (thr t x).Low ≤ (thr t y).Low ∧ ((thr t y).High ≠ -1 → (thr t x).High ≠ -1 ∧ (thr t x).High ≤ (thr t y).High) := by
  have hE : ∀ i, i < t.len → 1 ≤ (t.get i).Energy ∧ (t.get i).Energy ≤ 1000000 := fun i hi => (hk.2 i hi).1
  have b1 : kH t y ≤ t.len := fst_le _ _
  have h1 : kH t x ≤ kH t y := fst_mon fun i hi hd => decide_eq_true (by have := of_decide_eq_true hd; omega)
  have h2 : kL t x ≤ kL t y := fst_mon fun i hi hd => decide_eq_true (by have := of_decide_eq_true hd; omega)
  have ok := thr_ok hk (show 0 ≤ y by omega)
  unfold thr at ok ⊢
  by_cases h0 : x = 0
  · rw [if_pos h0]
    refine ⟨ok.1, fun hne => ⟨by show (1 : Int) ≠ -1; omega, ?_⟩⟩
    show 1 ≤ _
    rcases ok.2 with e | e
    · exact absurd e hne
    · omega
  rw [if_neg h0, if_neg (by omega)]
  constructor
  · show thrL t x ≤ thrL t y
    unfold thrL
    by_cases c : 0 < kH t x
    · rw [if_pos c, if_pos (by omega)]
      by_cases e : kH t x = kH t y
      · rw [e]; exact Int.le_refl _
      · have := t_e hk (show kH t x - 1 < kH t y - 1 by omega) (by omega); omega
    · rw [if_neg c]
      split
      · have := hE (kH t y - 1) (by omega); omega
      · exact Int.le_refl _
  · show thrH t y ≠ -1 → thrH t x ≠ -1 ∧ thrH t x ≤ thrH t y
    unfold thrH
    by_cases c : kL t y < t.len
    · rw [if_pos c, if_pos (by omega)]
      intro _
      have := hE (kL t x) (by omega)
      refine ⟨by omega, ?_⟩
      by_cases e : kL t x = kL t y
      · rw [e]; exact Int.le_refl _
      · have := t_e hk (show kL t x < kL t y by omega) c; omega
    · rw [if_neg c]; intro h; exact absurd rfl h
theorem abv_mono {parts : Int} {l : Sl FluxRow} {y z : Span} (hb : BOk parts l) (hl : y.Low ≤ z.Low) (hh : z.High ≠ -1 → y.High ≠ -1 ∧ y.High ≤ z.High) : (abv l z).Low ≤ (abv l y).Low ∧ (abv l z).High ≤ (abv l y).High := by
  have hlen := hb.1
  have hr : ∀ i, i < l.len → 0 ≤ (l.get i).Rate.Low := fun i hi => (hb.2.2 i hi).2.1.1
  have b1 : jL l z.Low ≤ l.len := fst_le _ _
  have h1 : jL l y.Low ≤ jL l z.Low := fst_mon fun i hi hd => decide_eq_true (by have := of_decide_eq_true hd; omega)
  constructor
  · show abvL l z.High ≤ abvL l y.High
    unfold abvL
    by_cases hz : z.High = -1
    · rw [if_pos hz]
      split
      · exact Int.le_refl _
      · split
        · rename_i h; exact hr _ h
        · exact Int.le_refl _
    · obtain ⟨g1, g2⟩ := hh hz
      rw [if_neg hz, if_neg g1]
      have h2 : jH l y.High ≤ jH l z.High := fst_mon fun i hi hd => decide_eq_true (by have := of_decide_eq_true hd; omega)
      by_cases c : jH l z.High < l.len
      · rw [if_pos c, if_pos (by omega)]; exact b_low hb h2 c
      · rw [if_neg c]
        split
        · rename_i h; exact hr _ h
        · exact Int.le_refl _
  · show abvH l z.Low ≤ abvH l y.Low
    unfold abvH
    by_cases c : 0 < jL l y.Low
    · rw [if_pos c, if_pos (by omega)]; exact b_high hb (by omega) (by omega)
    · rw [if_neg c]
      split
      · exact b_high hb (Nat.zero_le _) (by omega)
      · exact Int.le_refl _
theorem expd_mono {s : Sky} {t : Sl RangeRow} {bin x y : Int} (hf : Fine s t bin x) (hxy : x ≤ y) : (expd s t bin y).Low ≤ (expd s t bin x).Low ∧ (expd s t bin y).High ≤ (expd s t bin x).High := by
  obtain ⟨h1, h2⟩ := thr_mono hf.2.1 hf.2.2.2.1 hxy
  exact abv_mono hf.b h1 h2
theorem ediv_mono {a b c : Int} (hc : 0 < c) (h : a ≤ b) : a / c ≤ b / c := Int.ediv_le_ediv hc h
theorem mean_mono {s : Sky} {x y : Span} {l : Sl Spell} (hs : SOk s) (hl : LOk l) (h1 : y.Low ≤ x.Low) (h2 : y.High ≤ x.High) : (meanV s y l).Low ≤ (meanV s x l).Low ∧ (meanV s y l).High ≤ (meanV s x l).High := by
  have hlen := hl.1
  have c0 := sumF_pos (f := slF l) (n := l.len) (by omega) (fun i hi => (hl.2 i hi).1.1)
  have a1 : sumF (loF s y l) l.len ≤ sumF (loF s x l) l.len := sumF_le fun i hi => by
    obtain ⟨w1, w2⟩ := hl.2 i hi
    have f := fc_b hs.sb w2
    have := Int.mul_le_mul_of_nonneg_right h1 f.1
    refine Int.mul_le_mul_of_nonneg_left ?_ (by omega)
    unfold rlo
    generalize y.Low * fcL s (l.get i).Weather = u at *
    generalize x.Low * fcL s (l.get i).Weather = v at *
    split <;> split <;> omega
  have a2 : sumF (hiF s y l) l.len ≤ sumF (hiF s x l) l.len := sumF_le fun i hi => by
    obtain ⟨w1, w2⟩ := hl.2 i hi
    have f := fc_b hs.sb w2
    have := Int.mul_le_mul_of_nonneg_right h2 (show 0 ≤ fcH s (l.get i).Weather by omega)
    refine Int.mul_le_mul_of_nonneg_left ?_ (by omega)
    unfold rhi
    generalize y.High * fcH s (l.get i).Weather = u at *
    generalize x.High * fcH s (l.get i).Weather = v at *
    split <;> split <;> omega
  exact ⟨ediv_mono (by omega) a1, ediv_mono (by omega) (by omega)⟩
def CUp (C : Sl FluxStep) (R : Int → Span) (b : Int) : Prop :=
  0 < C.len ∧ (C.get 0).From = 0 ∧ (∀ i, i < C.len → (C.get i).From < b) ∧ (∀ i, i + 1 < C.len → (C.get i).From < (C.get (i + 1)).From ∧ (C.get i).Rate ≠ (C.get (i + 1)).Rate) ∧
  (∀ x, 0 ≤ x → x < b → ∀ i, i < C.len → (C.get i).From ≤ x → (i + 1 < C.len → x < (C.get (i + 1)).From) → (C.get i).Rate = R x)
theorem cup_init {R : Int → Span} {C : Sl FluxStep} {b' : Int} (hb : 0 < b') (h : ∀ x, 0 ≤ x → x < b' → R x = R 0) (hC : C.len = 1 ∧ C.get 0 = ⟨0, R 0⟩) : CUp C R b' := by
  refine ⟨by omega, by rw [hC.2], fun i hi => ?_, fun i hi => absurd hi (by omega), fun x h0 hx i hi _ _ => ?_⟩
  · rw [show i = 0 by omega, hC.2]; exact hb
  · rw [show i = 0 by omega, hC.2, h x h0 hx]
theorem cup_keep {R : Int → Span} {C : Sl FluxStep} {b b' : Int} (hC : CUp C R b) (h : ∀ x, b ≤ x → x < b' → R x = R b) (hbb : b ≤ b') (hl : (C.get (C.len - 1)).Rate = R b) : CUp C R b' := by
  obtain ⟨h0, h1, h2, h3, h4⟩ := hC
  refine ⟨h0, h1, fun i hi => by have := h2 i hi; omega, h3, fun x hx0 hx i hi hf hn => ?_⟩
  by_cases hxb : x < b
  · exact h4 x hx0 hxb i hi hf hn
  · have : i = C.len - 1 := by
      rcases Nat.lt_or_ge (i + 1) C.len with c | c
      · have := hn c
        have := h2 (i + 1) c
        omega
      · omega
    rw [this, hl, h x (by omega) hx]
theorem cup_push {R : Int → Span} {C D : Sl FluxStep} {b b' : Int} (hC : CUp C R b) (h : ∀ x, b ≤ x → x < b' → R x = R b) (hb0 : 0 ≤ b) (hbb : b < b') (hl : (C.get (C.len - 1)).Rate ≠ R b) (hD : D.len = C.len + 1 ∧ (∀ i, i < C.len → D.get i = C.get i) ∧ D.get C.len = ⟨b, R b⟩) : CUp D R b' := by
  obtain ⟨h0, h1, h2, h3, h4⟩ := hC
  obtain ⟨d1, d2, d3⟩ := hD
  refine ⟨by omega, by rw [d2 0 h0]; exact h1, fun i hi => ?_, fun i hi => ?_, fun x hx0 hx i hi hf hn => ?_⟩
  · by_cases e : i = C.len
    · rw [e, d3]; exact hbb
    · rw [d2 i (by omega)]; have := h2 i (by omega); omega
  · by_cases e : i + 1 = C.len
    · rw [e, d3, d2 i (by omega)]
      refine ⟨h2 i (by omega), ?_⟩
      rw [show i = C.len - 1 by omega]; exact hl
    · rw [d2 i (by omega), d2 (i + 1) (by omega)]; exact h3 i (by omega)
  · by_cases e : i = C.len
    · rw [e, d3] at hf ⊢
      exact (h x hf hx).symm
    · rw [d2 i (by omega)] at hf ⊢
      by_cases hxb : x < b
      · refine h4 x hx0 hxb i (by omega) hf fun hi1 => ?_
        have := hn (by omega)
        rwa [d2 (i + 1) hi1] at this
      · exfalso
        have := hn (by omega)
        by_cases e2 : i + 1 = C.len
        · rw [e2, d3] at this
          have : x < b := this
          omega
        · rw [d2 (i + 1) (by omega)] at this
          have := h2 (i + 1) (by omega)
          omega
theorem span_eq {a b : Span} : a = b ↔ a.Low = b.Low ∧ a.High = b.High := by
  cases a; cases b; simp
def rtV (s : Sky) (t : Sl RangeRow) (bin : Int) (l : Sl Spell) (x : Int) : Span := meanV s (expd s t bin x) l
theorem rt_const {s : Sky} {t : Sl RangeRow} {bin : Int} {l : Sl Spell} {x y : Int} (hx : 0 ≤ x) (hxy : x ≤ y) (h : ∀ e, Ed t e → x < e → y < e) : rtV s t bin l x = rtV s t bin l y := by
  unfold rtV expd
  rw [thr_const hx hxy h]
theorem appL {α : Type} {d : Sl α} {v : α} {j : Nat} (hj : j < d.len + 1) : appT d.len d.get (fun _ => v) j = if j = d.len then v else d.get j := by
  unfold appT
  cases e : Nat.ble d.len j
  · have : ¬ d.len ≤ j := fun h => by rw [Nat.ble_eq_true_of_le h] at e; cases e
    rw [if_neg (by omega)]
  · have := Nat.le_of_ble_eq_true e
    rw [if_pos (by omega)]
def EdO (t : Sl RangeRow) (N : Nat) (E : Nat → Int) : Prop := N ≤ 82 ∧ (∀ i j, i < j → j < N → E i < E j) ∧ (∀ x, (∃ k, k < N ∧ E k = x) ↔ Ed t x)
theorem ed0 {t : Sl RangeRow} {N : Nat} {E : Nat → Int} (hk : TOk t) (h : EdO t N E) : 0 < N ∧ E 0 = 0 := by
  obtain ⟨k, hk1, hk2⟩ := (h.2.2 0).2 (Or.inl rfl)
  have h0 : 0 ≤ E 0 := by
    have := (h.2.2 (E 0)).1 ⟨0, by omega, rfl⟩
    rcases this with e | e | ⟨a, ha, e | e⟩
    · omega
    · omega
    · have := (hk.2 a ha).2.1; omega
    · have := (hk.2 a ha).2.1; omega
  refine ⟨by omega, ?_⟩
  by_cases e : k = 0
  · rw [e] at hk2; exact hk2
  · have := h.2.1 0 k (by omega) hk1; omega
def bnd (N : Nat) (E : Nat → Int) (k : Nat) : Int := if k < N then (if E k > 1000000 then 1000001 else E k) else 1000001
theorem bnd_rt {s : Sky} {t : Sl RangeRow} {bin : Int} {l : Sl Spell} {N : Nat} {E : Nat → Int} (h : EdO t N E) {k : Nat} (hkN : k < N) (h0 : 0 ≤ E k) (hE : ¬ E k > 1000000) :
    E k < bnd N E (k + 1) ∧ ∀ x, E k ≤ x → x < bnd N E (k + 1) → rtV s t bin l x = rtV s t bin l (E k) := by
  constructor
  · unfold bnd
    by_cases c : k + 1 < N
    · rw [if_pos c]
      have := h.2.1 k (k + 1) (by omega) c
      split <;> omega
    · rw [if_neg c]; omega
  · intro x h1 h2
    refine (rt_const h0 h1 fun e he hlt => ?_).symm
    obtain ⟨j, hj, e1⟩ := (h.2.2 e).2 he
    rcases Nat.lt_or_ge k j with c | c
    · unfold bnd at h2
      rw [if_pos (by omega)] at h2
      by_cases e2 : j = k + 1
      · rw [e2] at e1; rw [e1] at h2
        split at h2 <;> omega
      · have := h.2.1 (k + 1) j (by omega) hj
        split at h2 <;> omega
    · exfalso
      by_cases e2 : j = k
      · rw [e2] at e1; omega
      · have := h.2.1 j k (by omega) hkN; omega
theorem s70_ok {s : Sky} {t : Sl RangeRow} {bin : Int} {l : Sl Spell} (hf : Fine s t bin 0) (hl : LOk l) : p70 s t bin l = true ∧ CUp (s70 s t bin l) (rtV s t bin l) 1000001 ∧ (s70 s t bin l).len ≤ 82 := by
  have hk := hf.2.1
  have htl := hk.1
  have hfx : ∀ x, 0 ≤ x → x ≤ 1000000 → Fine s t bin x := fun x h1 h2 => ⟨hf.1, hf.2.1, hf.2.2.1, h1, h2⟩
  have l4 : ∀ (N : Nat) (v2 : Sl Int) (E : Nat → Int), EdO t N E → N = cmpN v2.len v2.get → ∀ (m q k : Nat) (w : Sl Int) (C : Sl FluxStep), k + m = N → m < q → w.len = N → (∀ j, j < N → w.get j = E j) →
      ((k = 0 ∧ C.len = 0) ∨ (CUp C (rtV s t bin l) (bnd N E k) ∧ C.len ≤ k)) →
      p70_lp4 s t bin v2 q l (k : Int) w C = true ∧ CUp (s70_lp4 s t bin v2 q l (k : Int) w C) (rtV s t bin l) 1000001 ∧ (s70_lp4 s t bin v2 q l (k : Int) w C).len ≤ 82 := by
    intro N v2 E hE hN m
    have hN82 := hE.1
    obtain ⟨hN0, hE0⟩ := ed0 hk hE
    have hEpos : ∀ k, k < N → 0 ≤ E k := fun k hk1 => by
      by_cases e : k = 0
      · rw [e]; omega
      · have := hE.2.1 0 k (by omega) hk1; omega
    induction m with
    | zero =>
      intro q k w C hkm hq hw hwE hC
      obtain ⟨q, rfl⟩ : ∃ k', q = k' + 1 := ⟨q - 1, by omega⟩
      show p70_st4 s t bin v2 (p70_lp4 s t bin v2 q) _ _ _ _ = true ∧ CUp (s70_st4 s t bin v2 (s70_lp4 s t bin v2 q) _ _ _ _) _ _ ∧ (s70_st4 s t bin v2 (s70_lp4 s t bin v2 q) _ _ _ _).len ≤ 82
      unfold p70_st4 s70_st4
      rw [← hN, decide_eq_false (show ¬ (k : Int) < (N : Int) by omega), cond_false, cond_false]
      rcases hC with ⟨h1, _⟩ | ⟨h1, h2⟩
      · omega
      · have : bnd N E k = 1000001 := by unfold bnd; rw [if_neg (by omega)]
        rw [this] at h1
        exact ⟨rfl, h1, by omega⟩
    | succ m ih =>
      intro q k w C hkm hq hw hwE hC
      obtain ⟨q, rfl⟩ : ∃ k', q = k' + 1 := ⟨q - 1, by omega⟩
      show p70_st4 s t bin v2 (p70_lp4 s t bin v2 q) _ _ _ _ = true ∧ CUp (s70_st4 s t bin v2 (s70_lp4 s t bin v2 q) _ _ _ _) _ _ ∧ (s70_st4 s t bin v2 (s70_lp4 s t bin v2 q) _ _ _ _).len ≤ 82
      have hkN : k < N := by omega
      have e3 : w64 ((k : Int) + 1) = ((k + 1 : Nat) : Int) := by rw [w64_id (by omega) (by omega)]; omega
      unfold p70_st4 s70_st4
      rw [← hN, decide_eq_true (show (k : Int) < (N : Int) by omega), decide_eq_true (show 0 ≤ (k : Int) ∧ (k : Int) < (w.len : Int) by omega), Int.toNat_natCast, decide_eq_true (show k < w.len by omega), hwE k hkN]
      by_cases hE1 : E k > 1000000
      · rw [decide_eq_true hE1]
        rcases hC with ⟨h1, _⟩ | ⟨h1, h2⟩
        · rw [h1, hE0] at hE1; omega
        · have : bnd N E k = 1000001 := by unfold bnd; rw [if_pos hkN, if_pos hE1]
          rw [this] at h1
          exact ⟨rfl, h1, by show C.len ≤ 82; omega⟩
      · have hfe := hfx (E k) (hEpos k hkN) (by omega)
        have hx := expd_ok hfe
        have h8 := s68_eq (g := ⟨s, t, memoF s t bin⟩) (x := expd s t bin (E k)) (l := l) hf.1 hx hl
        rw [decide_eq_false hE1, (s66_eq hfe).1, (s66_eq hfe).2, h8.1, h8.2]
        have em : meanV (⟨s, t, memoF s t bin⟩ : ground).Sky (expd s t bin (E k)) l = rtV s t bin l (E k) := rfl
        rw [em]
        obtain ⟨hb1, hb2⟩ := bnd_rt (s := s) (bin := bin) (l := l) hE hkN (hEpos k hkN) hE1
        have hbk : bnd N E k = E k := by unfold bnd; rw [if_pos hkN, if_neg hE1]
        simp only [cond_true, cond_false, decide_true, Bool.true_and]
        unfold p70_at5 s70_at5
        rw [e3]
        rcases hC with ⟨h1, h2⟩ | ⟨h1, h2⟩
        · rw [show ((C.len : Int) == 0) = true by simp [h2], decide_eq_true (show (C.len + 1) * 24 ≤ 140737488355328 ∧ C.len + 1 ≤ 9223372036854775807 by omega)]
          have r := ih q (k + 1) w ⟨C.len + 1, appT C.len C.get (fun _ => (⟨E k, ⟨(rtV s t bin l (E k)).Low, (rtV s t bin l (E k)).High⟩⟩ : FluxStep))⟩ (by omega) (by omega) hw hwE (Or.inr ⟨cup_init (by rw [h1, hE0] at hb1; rw [h1]; omega) (fun x a b => by rw [h1, hE0] at hb2; rw [h1] at b; exact hb2 x a b) ⟨by show C.len + 1 = 1; omega, by
            have e := appL (d := C) (v := (⟨E k, ⟨(rtV s t bin l (E k)).Low, (rtV s t bin l (E k)).High⟩⟩ : FluxStep)) (j := 0) (by omega)
            rw [if_pos (by omega)] at e
            exact e.trans (by rw [h1, hE0])⟩, by show C.len + 1 ≤ k + 1; omega⟩)
          exact r
        · have hCl := h1.1
          have e7 : w64 ((C.len : Int) - 1) = ((C.len - 1 : Nat) : Int) := by rw [w64_id (by omega) (by omega)]; omega
          rw [show ((C.len : Int) == 0) = false by simp; omega, e7, decide_eq_true (show 0 ≤ ((C.len - 1 : Nat) : Int) ∧ ((C.len - 1 : Nat) : Int) < (C.len : Int) by omega), Int.toNat_natCast, decide_eq_true (show C.len - 1 < C.len by omega), decide_eq_true (show (C.len + 1) * 24 ≤ 140737488355328 ∧ C.len + 1 ≤ 9223372036854775807 by omega)]
          rw [hbk] at h1
          have rk := fun (hr : (C.get (C.len - 1)).Rate = rtV s t bin l (E k)) => ih q (k + 1) w C (by omega) (by omega) hw hwE (Or.inr ⟨cup_keep h1 hb2 (by omega) hr, by omega⟩)
          have rp := fun (hr : (C.get (C.len - 1)).Rate ≠ rtV s t bin l (E k)) => ih q (k + 1) w ⟨C.len + 1, appT C.len C.get (fun _ => (⟨E k, ⟨(rtV s t bin l (E k)).Low, (rtV s t bin l (E k)).High⟩⟩ : FluxStep))⟩ (by omega) (by omega) hw hwE (Or.inr ⟨cup_push h1 hb2 (hEpos k hkN) hb1 hr ⟨rfl, fun i hi => by
            have e := appL (d := C) (v := (⟨E k, ⟨(rtV s t bin l (E k)).Low, (rtV s t bin l (E k)).High⟩⟩ : FluxStep)) (j := i) (by omega)
            rw [if_neg (by omega)] at e
            exact e, by
            have e := appL (d := C) (v := (⟨E k, ⟨(rtV s t bin l (E k)).Low, (rtV s t bin l (E k)).High⟩⟩ : FluxStep)) (j := C.len) (by omega)
            rw [if_pos rfl] at e
            exact e⟩, by show C.len + 1 ≤ k + 1; omega⟩)
          by_cases a : (C.get (C.len - 1)).Rate.Low = (rtV s t bin l (E k)).Low
          · by_cases b : (C.get (C.len - 1)).Rate.High = (rtV s t bin l (E k)).High
            · have r := rk (span_eq.2 ⟨a, b⟩)
              rw [show ((C.get (C.len - 1)).Rate.Low == (rtV s t bin l (E k)).Low) = true by simp [a], show ((C.get (C.len - 1)).Rate.High == (rtV s t bin l (E k)).High) = true by simp [b]]
              exact r
            · have r := rp fun h => b (span_eq.1 h).2
              rw [show ((C.get (C.len - 1)).Rate.Low == (rtV s t bin l (E k)).Low) = true by simp [a], show ((C.get (C.len - 1)).Rate.High == (rtV s t bin l (E k)).High) = false by simp [b]]
              exact r
          · have r := rp fun h => a (span_eq.1 h).1
            rw [show ((C.get (C.len - 1)).Rate.Low == (rtV s t bin l (E k)).Low) = false by simp [a]]
            exact r
  have l1 : ∀ v : Sl Int, v.len ≤ 82 → (∀ x, (∃ j, j < v.len ∧ v.get j = x) ↔ Ed t x) → p70_at1 s t bin l v = true ∧ CUp (s70_at1 s t bin l v) (rtV s t bin l) 1000001 ∧ (s70_at1 s t bin l v).len ≤ 82 := by
    intro v hv hx
    obtain ⟨s1, s2, s3⟩ := sc_ok v.len v.get
    have hE : EdO t (cmpN v.len (sortT v.len v.get)) (cmpT v.len (sortT v.len v.get)) := ⟨by omega, s2, fun x => (s3 x).trans (hx x)⟩
    have r := l4 _ ⟨v.len, sortT v.len v.get⟩ _ hE rfl (cmpN v.len (sortT v.len v.get)) Fuel 0 ⟨cmpN v.len (sortT v.len v.get), cmpT v.len (sortT v.len v.get)⟩ ⟨0, fun _ => default⟩ (by omega) (by simp only [Fuel]; omega) rfl (fun _ _ => rfl) (Or.inl ⟨rfl, rfl⟩)
    unfold p70_at1 s70_at1 p70_at2 s70_at2 p70_at3 s70_at3 p70_at4 s70_at4
    rw [decide_eq_true (show v.len ≤ 4611686018427387 by omega)]
    simp only [Bool.true_and]
    exact r
  have l0 : ∀ (m q i : Nat) (v : Sl Int), i + m = t.len → m < q → v.len = 2 + 2 * i → (∀ x, (∃ j, j < v.len ∧ v.get j = x) ↔ (x = 0 ∨ x = 1 ∨ ∃ a, a < i ∧ (x = (t.get a).Range.Low + 1 ∨ x = (t.get a).Range.High + 1))) →
      p70_lp0 s t bin l q (i : Int) v = true ∧ CUp (s70_lp0 s t bin l q (i : Int) v) (rtV s t bin l) 1000001 ∧ (s70_lp0 s t bin l q (i : Int) v).len ≤ 82 := by
    intro m
    induction m with
    | zero =>
      intro q i v hi hq hv hx
      obtain ⟨q, rfl⟩ : ∃ k', q = k' + 1 := ⟨q - 1, by omega⟩
      show p70_st0 s t bin l (p70_lp0 s t bin l q) _ _ = true ∧ CUp (s70_st0 s t bin l (s70_lp0 s t bin l q) _ _) _ _ ∧ (s70_st0 s t bin l (s70_lp0 s t bin l q) _ _).len ≤ 82
      unfold p70_st0 s70_st0
      rw [decide_eq_false (show ¬ (i : Int) < (t.len : Int) by omega), cond_false, cond_false]
      refine l1 v (by omega) fun x => ?_
      rw [hx x, show i = t.len by omega]
      rfl
    | succ m ih =>
      intro q i v hi hq hv hx
      obtain ⟨q, rfl⟩ : ∃ k', q = k' + 1 := ⟨q - 1, by omega⟩
      show p70_st0 s t bin l (p70_lp0 s t bin l q) _ _ = true ∧ CUp (s70_st0 s t bin l (s70_lp0 s t bin l q) _ _) _ _ ∧ (s70_st0 s t bin l (s70_lp0 s t bin l q) _ _).len ≤ 82
      have e3 : w64 ((i : Int) + 1) = ((i + 1 : Nat) : Int) := by rw [w64_id (by omega) (by omega)]; omega
      have hr := (hk.2 i (by omega)).2.1
      unfold p70_st0 s70_st0
      rw [decide_eq_true (show (i : Int) < (t.len : Int) by omega), decide_eq_true (show 0 ≤ (i : Int) ∧ (i : Int) < (t.len : Int) by omega), Int.toNat_natCast, e3, decide_eq_true (show (v.len + 2) * 8 ≤ 140737488355328 ∧ v.len + 2 ≤ 9223372036854775807 by omega), w64_id (x := (t.get i).Range.Low + 1) (by omega) (by omega), w64_id (x := (t.get i).Range.High + 1) (by omega) (by omega)]
      simp only [cond_true, Bool.true_and]
      refine ih q (i + 1) _ (by omega) (by omega) (by show v.len + 2 = _; omega) fun x => ?_
      have g : ∀ j, j < v.len + 2 → appT v.len v.get (getT ((t.get i).Range.Low + 1) [(t.get i).Range.Low + 1, (t.get i).Range.High + 1]) j = if j = v.len then (t.get i).Range.Low + 1 else if j = v.len + 1 then (t.get i).Range.High + 1 else v.get j := by
        intro j hj
        unfold appT
        cases e : Nat.ble v.len j
        · have : ¬ v.len ≤ j := fun h => by rw [Nat.ble_eq_true_of_le h] at e; cases e
          rw [if_neg (by omega), if_neg (by omega)]
        · have := Nat.le_of_ble_eq_true e
          by_cases e1 : j = v.len
          · rw [if_pos e1, e1, Nat.sub_self]; rfl
          · rw [if_neg e1, if_pos (by omega), show j - v.len = 1 by omega]; rfl
      show (∃ j, j < v.len + 2 ∧ appT v.len v.get (getT ((t.get i).Range.Low + 1) [(t.get i).Range.Low + 1, (t.get i).Range.High + 1]) j = x) ↔ _
      constructor
      · rintro ⟨j, hj, e⟩
        rw [g j hj] at e
        by_cases e1 : j = v.len
        · rw [if_pos e1] at e; exact Or.inr (Or.inr ⟨i, by omega, Or.inl e.symm⟩)
        · rw [if_neg e1] at e
          by_cases e2 : j = v.len + 1
          · rw [if_pos e2] at e; exact Or.inr (Or.inr ⟨i, by omega, Or.inr e.symm⟩)
          · rw [if_neg e2] at e
            rcases (hx x).1 ⟨j, by omega, e⟩ with a | a | ⟨a, b, c⟩
            · exact Or.inl a
            · exact Or.inr (Or.inl a)
            · exact Or.inr (Or.inr ⟨a, by omega, c⟩)
      · intro h
        have hold : (x = 0 ∨ x = 1 ∨ ∃ a, a < i ∧ (x = (t.get a).Range.Low + 1 ∨ x = (t.get a).Range.High + 1)) → ∃ j, j < v.len + 2 ∧ appT v.len v.get (getT ((t.get i).Range.Low + 1) [(t.get i).Range.Low + 1, (t.get i).Range.High + 1]) j = x := by
          intro h
          obtain ⟨j, hj, e⟩ := (hx x).2 h
          exact ⟨j, by omega, by rw [g j (by omega), if_neg (by omega), if_neg (by omega)]; exact e⟩
        rcases h with a | a | ⟨a, b, c⟩
        · exact hold (Or.inl a)
        · exact hold (Or.inr (Or.inl a))
        · by_cases e : a = i
          · subst e
            rcases c with c | c
            · exact ⟨v.len, by omega, by rw [g _ (by omega), if_pos rfl]; exact c.symm⟩
            · exact ⟨v.len + 1, by omega, by rw [g _ (by omega), if_neg (by omega), if_pos rfl]; exact c.symm⟩
          · exact hold (Or.inr (Or.inr ⟨a, by omega, c⟩))
  refine l0 t.len Fuel 0 ⟨2, getT 0 [0, 1]⟩ (by omega) (by simp only [Fuel]; omega) rfl fun x => ?_
  constructor
  · rintro ⟨j, hj, e⟩
    have hj : j < 2 := hj
    have : j = 0 ∨ j = 1 := by omega
    rcases this with h | h
    · subst h; exact Or.inl e.symm
    · subst h; exact Or.inr (Or.inl e.symm)
  · rintro (h | h | ⟨a, ha, _⟩)
    · exact ⟨0, by show 0 < 2; omega, h.symm⟩
    · exact ⟨1, by show 1 < 2; omega, h.symm⟩
    · omega
end Go.Proofs
