/- Part 5 of what the proof rests on: a machine that runs functions of the program on pure values, proved sound; the functions that the law reaches, and what they compute. -/
import Derived.Test.YtpjoicpmbdaniaaQ4
set_option linter.all false
namespace Go.Proofs
open Go Go.Pm
set_option maxRecDepth 100000
set_option linter.unusedVariables false
attribute [local irreducible] Go.Pm.vcFun Go.Pm.vc Go.Pm.vcIter
abbrev T61 : Tabs := Tabs.nil
theorem okT61 : TabsOk Try.prog T61 := TabsOk.nil
abbrev G61 : Ctrs := csm T61 (fun _ _ => []) (fun _ => false)
def ann61 : Ann := ⟨8, [(0, ⟨[], [], [], [], []⟩), (1, ⟨[0], [7], [], [], []⟩)],
  [],
  [],
  [], []⟩
theorem f61_top (K : List PA → Prop) :
  vcFun Try.prog G61 ann61 61 [] K =
  (K [.one (.sl 3 3 (getL [(enc_42 (⟨(10:Int), (⟨(20:Int), (30:Int)⟩ : Span)⟩ : RangeRow)), (enc_42 (⟨(40:Int), (⟨(90:Int), (120:Int)⟩ : Span)⟩ : RangeRow)), (enc_42 (⟨(100:Int), (⟨(250:Int), (300:Int)⟩ : Span)⟩ : RangeRow))]))]) := by kernel_rfl
abbrev R61 := (Sl RangeRow)
abbrev e61 (r : (Sl RangeRow)) : List PA := [.one (.sl r.len 3 (fun i => enc_42 (r.get i)))]
def s61 : (Sl RangeRow) :=
  (⟨3, (getT (⟨(10:Int), (⟨(20:Int), (30:Int)⟩ : Span)⟩ : RangeRow) [(⟨(10:Int), (⟨(20:Int), (30:Int)⟩ : Span)⟩ : RangeRow), (⟨(40:Int), (⟨(90:Int), (120:Int)⟩ : Span)⟩ : RangeRow), (⟨(100:Int), (⟨(250:Int), (300:Int)⟩ : Span)⟩ : RangeRow)])⟩ : (Sl RangeRow))
theorem q61 (K : List PA → Prop) (hk : K (e61 (s61))) : vcFun Try.prog G61 ann61 61 [] K := by
  refine ofEq (f61_top K) ?_
  unfold s61 at hk
  exact (Eq.mpr (congrArg K (congrArg (fun (g_ : Nat → List PV) => ([.one (.sl 3 3 g_)] : List PA)) (getL_enc (enc := enc_42) (x := (⟨(10:Int), (⟨(20:Int), (30:Int)⟩ : Span)⟩ : RangeRow)) (y := (⟨(40:Int), (⟨(90:Int), (120:Int)⟩ : Span)⟩ : RangeRow)) (r := [(⟨(100:Int), (⟨(250:Int), (300:Int)⟩ : Span)⟩ : RangeRow)])))) hk)
def ctr61 : List PA → COut
  | [] => .tot [.one (.sl ((s61).len) 3 (fun i => enc_42 ((s61).get i)))]
  | _ => .no
theorem call61 : Callable Try.prog 61 := ⟨_, rfl, rfl, by kernel_rfl⟩
theorem ok61 : Ok Try.prog 61 ctr61 := ok_tab okT61 call61 fun args K h => by
  unfold ctr61 at h
  split at h
  · have hk := h
    exact ⟨(fun _ _ => []), (fun _ => false), ann61, q61 K hk⟩
  · exact h.elim
abbrev T18 : Tabs := (((((((((Tabs.nil.addF 19 ctr19).addF 20 ctr20).addF 23 ctr23).addF 25 ctr25).addF 26 ctr26).addF 33 ctr33).addF 34 ctr34).addF 60 ctr60).addF 61 ctr61)
theorem okT18 : TabsOk Try.prog T18 := (((((((((TabsOk.nil.addF ok19).addF ok20).addF ok23).addF ok25).addF ok26).addF ok33).addF ok34).addF ok60).addF ok61)
abbrev G18 : Ctrs := csm T18 (fun _ _ => []) (fun _ => false)
def ann18 : Ann := ⟨142, [(0, ⟨[], [], [], [], []⟩), (1, ⟨[1, 2], [1], [], [], []⟩), (2, ⟨[1, 2, 3, 4], [1, 3], [], [], []⟩), (3, ⟨[1, 2, 3, 4, 5, 6], [1, 3, 5], [], [], []⟩), (4, ⟨[1, 2, 3, 4, 5, 6, 7, 8], [1, 3, 5, 7], [], [], []⟩), (5, ⟨[1, 2, 3, 4, 5, 6, 7, 8, 9, 10], [1, 3, 5, 7, 9], [], [], []⟩), (6, ⟨[1, 2, 3, 4, 5, 6, 7, 8, 9, 10, 11, 12], [1, 3, 5, 7, 9], [], [], []⟩), (7, ⟨[3, 4, 5, 6, 7, 8, 9, 10, 11, 12, 13, 14], [3, 5, 7, 9, 13], [], [], []⟩), (8, ⟨[3, 5, 7, 9, 11, 13, 104], [3, 5, 7, 9, 13], [], [], []⟩), (9, ⟨[0], [], [], [], []⟩), (10, ⟨[0], [], [], [], []⟩)],
  [],
  [(2, ⟨[1, 2], [1], [], [], []⟩), (3, ⟨[1, 2, 3, 4], [1, 3], [], [], []⟩), (4, ⟨[1, 2, 3, 4, 5, 6], [1, 3, 5], [], [], []⟩), (5, ⟨[1, 2, 3, 4, 5, 6, 7, 8], [1, 3, 5, 7], [], [], []⟩), (6, ⟨[1, 2, 3, 4, 5, 6, 7, 8, 9, 10], [1, 3, 5, 7, 9], [], [], []⟩), (7, ⟨[1, 2, 3, 4, 5, 6, 7, 8, 9, 10, 11, 12], [1, 3, 5, 7, 9], [], [], []⟩), (8, ⟨[3, 4, 5, 6, 7, 8, 9, 10, 11, 12, 13, 14], [3, 5, 7, 9, 13], [], [], []⟩), (10, ⟨[3, 5, 7, 9, 11, 13], [3, 5, 7, 9, 13], [], [], []⟩)],
  [], []⟩
def f18_g0 (tv0_n : Nat) (tv0_g : Nat → List PV) (s_1v0_n : Nat) (s_1v0_g : Nat → List PV) : St := ⟨[(1, .one (.c (.ptr 1 0))), (2, .one (.c (.p (.sl tv0_n 3 tv0_g))))], [(1, .box 26 [.p (.int .i64 s60.Parts), .p (.sl s_1v0_n 1 s_1v0_g), .p (.int .i64 s60.Beta.Low), .p (.int .i64 s60.Beta.High), .p (.int .i64 s60.Alpha.Low), .p (.int .i64 s60.Alpha.High)])], []⟩
def f18_at0 (K : List PA → Prop) (tv0_n : Nat) (tv0_g : Nat → List PV) (s_1v0_n : Nat) (s_1v0_g : Nat → List PV) : Prop := vc Try.prog G18 ann18 (cdF Try.f18 [1, 1]) (bodyK Try.prog Try.f18 K) (f18_g0 tv0_n tv0_g s_1v0_n s_1v0_g)
def f18_g1 (tv0 : (Sl RangeRow)) (ev1 : Int) (s_1v1_n : Nat) (s_1v1_g : Nat → List PV) (a_0v1 : Int) (a_1v1 : Int) : St := ⟨[(1, .one (.c (.ptr 1 0))), (2, .one (.c (.p (.sl tv0.len 3 (fun i => enc_42 (tv0.get i)))))), (3, .one (.c (.ptr 3 0))), (4, .one (.c (.p (.int .i64 ev1))))], [(1, .box 26 [.p (.int .i64 s60.Parts), .p (.sl s_1v1_n 1 s_1v1_g), .p (.int .i64 s60.Beta.Low), .p (.int .i64 s60.Beta.High), .p (.int .i64 s60.Alpha.Low), .p (.int .i64 s60.Alpha.High)]), (3, .box 24 [.p (.int .i64 a_0v1), .p (.int .i64 a_1v1)])], []⟩
def f18_at1 (K : List PA → Prop) (tv0 : (Sl RangeRow)) (ev1 : Int) (s_1v1_n : Nat) (s_1v1_g : Nat → List PV) (a_0v1 : Int) (a_1v1 : Int) : Prop := vc Try.prog G18 ann18 (cdF Try.f18 [1, 1, 1]) (bodyK Try.prog Try.f18 K) (f18_g1 tv0 ev1 s_1v1_n s_1v1_g a_0v1 a_1v1)
def f18_g2 (tv0 : (Sl RangeRow)) (ev1 : Int) (a_0v1 : Int) (a_1v1 : Int) (fv2 : Int) (s_1v2_n : Nat) (s_1v2_g : Nat → List PV) (b_0v2 : Int) (b_1v2 : Int) : St := ⟨[(1, .one (.c (.ptr 1 0))), (2, .one (.c (.p (.sl tv0.len 3 (fun i => enc_42 (tv0.get i)))))), (3, .one (.c (.ptr 3 0))), (4, .one (.c (.p (.int .i64 ev1)))), (5, .one (.c (.ptr 5 0))), (6, .one (.c (.p (.int .i64 fv2))))], [(1, .box 26 [.p (.int .i64 s60.Parts), .p (.sl s_1v2_n 1 s_1v2_g), .p (.int .i64 s60.Beta.Low), .p (.int .i64 s60.Beta.High), .p (.int .i64 s60.Alpha.Low), .p (.int .i64 s60.Alpha.High)]), (3, .box 24 [.p (.int .i64 a_0v1), .p (.int .i64 a_1v1)]), (5, .box 24 [.p (.int .i64 b_0v2), .p (.int .i64 b_1v2)])], []⟩
def f18_at2 (K : List PA → Prop) (tv0 : (Sl RangeRow)) (ev1 : Int) (a_0v1 : Int) (a_1v1 : Int) (fv2 : Int) (s_1v2_n : Nat) (s_1v2_g : Nat → List PV) (b_0v2 : Int) (b_1v2 : Int) : Prop := vc Try.prog G18 ann18 (cdF Try.f18 [1, 1, 1, 1]) (bodyK Try.prog Try.f18 K) (f18_g2 tv0 ev1 a_0v1 a_1v1 fv2 s_1v2_n s_1v2_g b_0v2 b_1v2)
def f18_g3 (tv0 : (Sl RangeRow)) (ev1 : Int) (a_0v1 : Int) (a_1v1 : Int) (fv2 : Int) (b_0v2 : Int) (b_1v2 : Int) (gv3 : Int) (s_1v3_n : Nat) (s_1v3_g : Nat → List PV) (c_0v3 : Int) (c_1v3 : Int) : St := ⟨[(1, .one (.c (.ptr 1 0))), (2, .one (.c (.p (.sl tv0.len 3 (fun i => enc_42 (tv0.get i)))))), (3, .one (.c (.ptr 3 0))), (4, .one (.c (.p (.int .i64 ev1)))), (5, .one (.c (.ptr 5 0))), (6, .one (.c (.p (.int .i64 fv2)))), (7, .one (.c (.ptr 7 0))), (8, .one (.c (.p (.int .i64 gv3))))], [(1, .box 26 [.p (.int .i64 s60.Parts), .p (.sl s_1v3_n 1 s_1v3_g), .p (.int .i64 s60.Beta.Low), .p (.int .i64 s60.Beta.High), .p (.int .i64 s60.Alpha.Low), .p (.int .i64 s60.Alpha.High)]), (3, .box 24 [.p (.int .i64 a_0v1), .p (.int .i64 a_1v1)]), (5, .box 24 [.p (.int .i64 b_0v2), .p (.int .i64 b_1v2)]), (7, .box 24 [.p (.int .i64 c_0v3), .p (.int .i64 c_1v3)])], []⟩
def f18_at3 (K : List PA → Prop) (tv0 : (Sl RangeRow)) (ev1 : Int) (a_0v1 : Int) (a_1v1 : Int) (fv2 : Int) (b_0v2 : Int) (b_1v2 : Int) (gv3 : Int) (s_1v3_n : Nat) (s_1v3_g : Nat → List PV) (c_0v3 : Int) (c_1v3 : Int) : Prop := vc Try.prog G18 ann18 (cdF Try.f18 [1, 1, 1, 1, 1]) (bodyK Try.prog Try.f18 K) (f18_g3 tv0 ev1 a_0v1 a_1v1 fv2 b_0v2 b_1v2 gv3 s_1v3_n s_1v3_g c_0v3 c_1v3)
def f18_g4 (tv0 : (Sl RangeRow)) (ev1 : Int) (a_0v1 : Int) (a_1v1 : Int) (fv2 : Int) (b_0v2 : Int) (b_1v2 : Int) (gv3 : Int) (c_0v3 : Int) (c_1v3 : Int) (hv4 : Int) (s_1v4_n : Nat) (s_1v4_g : Nat → List PV) (d_0v4 : Int) (d_1v4 : Int) : St := ⟨[(1, .one (.c (.ptr 1 0))), (2, .one (.c (.p (.sl tv0.len 3 (fun i => enc_42 (tv0.get i)))))), (3, .one (.c (.ptr 3 0))), (4, .one (.c (.p (.int .i64 ev1)))), (5, .one (.c (.ptr 5 0))), (6, .one (.c (.p (.int .i64 fv2)))), (7, .one (.c (.ptr 7 0))), (8, .one (.c (.p (.int .i64 gv3)))), (9, .one (.c (.ptr 9 0))), (10, .one (.c (.p (.int .i64 hv4))))], [(1, .box 26 [.p (.int .i64 s60.Parts), .p (.sl s_1v4_n 1 s_1v4_g), .p (.int .i64 s60.Beta.Low), .p (.int .i64 s60.Beta.High), .p (.int .i64 s60.Alpha.Low), .p (.int .i64 s60.Alpha.High)]), (3, .box 24 [.p (.int .i64 a_0v1), .p (.int .i64 a_1v1)]), (5, .box 24 [.p (.int .i64 b_0v2), .p (.int .i64 b_1v2)]), (7, .box 24 [.p (.int .i64 c_0v3), .p (.int .i64 c_1v3)]), (9, .box 24 [.p (.int .i64 d_0v4), .p (.int .i64 d_1v4)])], []⟩
def f18_at4 (K : List PA → Prop) (tv0 : (Sl RangeRow)) (ev1 : Int) (a_0v1 : Int) (a_1v1 : Int) (fv2 : Int) (b_0v2 : Int) (b_1v2 : Int) (gv3 : Int) (c_0v3 : Int) (c_1v3 : Int) (hv4 : Int) (s_1v4_n : Nat) (s_1v4_g : Nat → List PV) (d_0v4 : Int) (d_1v4 : Int) : Prop := vc Try.prog G18 ann18 (cdF Try.f18 [1, 1, 1, 1, 1, 1]) (bodyK Try.prog Try.f18 K) (f18_g4 tv0 ev1 a_0v1 a_1v1 fv2 b_0v2 b_1v2 gv3 c_0v3 c_1v3 hv4 s_1v4_n s_1v4_g d_0v4 d_1v4)
def f18_g5 (tv0 : (Sl RangeRow)) (ev1 : Int) (a_0v1 : Int) (a_1v1 : Int) (fv2 : Int) (b_0v2 : Int) (b_1v2 : Int) (gv3 : Int) (c_0v3 : Int) (c_1v3 : Int) (hv4 : Int) (d_0v4 : Int) (d_1v4 : Int) (lv5_n : Nat) (lv5_g : Nat → List PV) (iv5 : Int) (s_1v5_n : Nat) (s_1v5_g : Nat → List PV) : St := ⟨[(1, .one (.c (.ptr 1 0))), (2, .one (.c (.p (.sl tv0.len 3 (fun i => enc_42 (tv0.get i)))))), (3, .one (.c (.ptr 3 0))), (4, .one (.c (.p (.int .i64 ev1)))), (5, .one (.c (.ptr 5 0))), (6, .one (.c (.p (.int .i64 fv2)))), (7, .one (.c (.ptr 7 0))), (8, .one (.c (.p (.int .i64 gv3)))), (9, .one (.c (.ptr 9 0))), (10, .one (.c (.p (.int .i64 hv4)))), (11, .one (.c (.p (.sl lv5_n 3 lv5_g)))), (12, .one (.c (.p (.int .i64 iv5))))], [(1, .box 26 [.p (.int .i64 s60.Parts), .p (.sl s_1v5_n 1 s_1v5_g), .p (.int .i64 s60.Beta.Low), .p (.int .i64 s60.Beta.High), .p (.int .i64 s60.Alpha.Low), .p (.int .i64 s60.Alpha.High)]), (3, .box 24 [.p (.int .i64 a_0v1), .p (.int .i64 a_1v1)]), (5, .box 24 [.p (.int .i64 b_0v2), .p (.int .i64 b_1v2)]), (7, .box 24 [.p (.int .i64 c_0v3), .p (.int .i64 c_1v3)]), (9, .box 24 [.p (.int .i64 d_0v4), .p (.int .i64 d_1v4)])], []⟩
def f18_at5 (K : List PA → Prop) (tv0 : (Sl RangeRow)) (ev1 : Int) (a_0v1 : Int) (a_1v1 : Int) (fv2 : Int) (b_0v2 : Int) (b_1v2 : Int) (gv3 : Int) (c_0v3 : Int) (c_1v3 : Int) (hv4 : Int) (d_0v4 : Int) (d_1v4 : Int) (lv5_n : Nat) (lv5_g : Nat → List PV) (iv5 : Int) (s_1v5_n : Nat) (s_1v5_g : Nat → List PV) : Prop := vc Try.prog G18 ann18 (cdF Try.f18 [1, 1, 1, 1, 1, 1, 1]) (bodyK Try.prog Try.f18 K) (f18_g5 tv0 ev1 a_0v1 a_1v1 fv2 b_0v2 b_1v2 gv3 c_0v3 c_1v3 hv4 d_0v4 d_1v4 lv5_n lv5_g iv5 s_1v5_n s_1v5_g)
def f18_g6 (ev1 : Int) (a_0v1 : Int) (a_1v1 : Int) (fv2 : Int) (b_0v2 : Int) (b_1v2 : Int) (gv3 : Int) (c_0v3 : Int) (c_1v3 : Int) (hv4 : Int) (d_0v4 : Int) (d_1v4 : Int) (lv5 : (Sl FluxStep)) (iv5 : Int) (jv6 : Int) (x_0v6 : Int) (x_1v6_n : Nat) (x_1v6_g : Nat → List PV) (x_2v6 : Int) (x_3v6 : Int) (x_4v6 : Int) (x_5v6 : Int) : St := ⟨[(3, .one (.c (.ptr 3 0))), (4, .one (.c (.p (.int .i64 ev1)))), (5, .one (.c (.ptr 5 0))), (6, .one (.c (.p (.int .i64 fv2)))), (7, .one (.c (.ptr 7 0))), (8, .one (.c (.p (.int .i64 gv3)))), (9, .one (.c (.ptr 9 0))), (10, .one (.c (.p (.int .i64 hv4)))), (11, .one (.c (.p (.sl lv5.len 3 (fun i => enc_69 (lv5.get i)))))), (12, .one (.c (.p (.int .i64 iv5)))), (13, .one (.c (.ptr 13 0))), (14, .one (.c (.p (.int .i64 jv6))))], [(3, .box 24 [.p (.int .i64 a_0v1), .p (.int .i64 a_1v1)]), (5, .box 24 [.p (.int .i64 b_0v2), .p (.int .i64 b_1v2)]), (7, .box 24 [.p (.int .i64 c_0v3), .p (.int .i64 c_1v3)]), (9, .box 24 [.p (.int .i64 d_0v4), .p (.int .i64 d_1v4)]), (13, .box 26 [.p (.int .i64 x_0v6), .p (.sl x_1v6_n 1 x_1v6_g), .p (.int .i64 x_2v6), .p (.int .i64 x_3v6), .p (.int .i64 x_4v6), .p (.int .i64 x_5v6)])], []⟩
def f18_at6 (K : List PA → Prop) (ev1 : Int) (a_0v1 : Int) (a_1v1 : Int) (fv2 : Int) (b_0v2 : Int) (b_1v2 : Int) (gv3 : Int) (c_0v3 : Int) (c_1v3 : Int) (hv4 : Int) (d_0v4 : Int) (d_1v4 : Int) (lv5 : (Sl FluxStep)) (iv5 : Int) (jv6 : Int) (x_0v6 : Int) (x_1v6_n : Nat) (x_1v6_g : Nat → List PV) (x_2v6 : Int) (x_3v6 : Int) (x_4v6 : Int) (x_5v6 : Int) : Prop := vc Try.prog G18 ann18 (cdF Try.f18 [1, 1, 1, 1, 1, 1, 1, 1]) (bodyK Try.prog Try.f18 K) (f18_g6 ev1 a_0v1 a_1v1 fv2 b_0v2 b_1v2 gv3 c_0v3 c_1v3 hv4 d_0v4 d_1v4 lv5 iv5 jv6 x_0v6 x_1v6_n x_1v6_g x_2v6 x_3v6 x_4v6 x_5v6)
def f18_g7 (a_0v1 : Int) (a_1v1 : Int) (b_0v2 : Int) (b_1v2 : Int) (c_0v3 : Int) (c_1v3 : Int) (d_0v4 : Int) (d_1v4 : Int) (lv5 : (Sl FluxStep)) (x_0v6 : Int) (x_1v6 : (Sl (Sl FluxRow))) (x_2v6 : Int) (x_3v6 : Int) (x_4v6 : Int) (x_5v6 : Int) : St := ⟨[(3, .one (.c (.ptr 3 0))), (5, .one (.c (.ptr 5 0))), (7, .one (.c (.ptr 7 0))), (9, .one (.c (.ptr 9 0))), (11, .one (.c (.p (.sl lv5.len 3 (fun i => enc_69 (lv5.get i)))))), (13, .one (.c (.ptr 13 0)))], [(3, .box 24 [.p (.int .i64 a_0v1), .p (.int .i64 a_1v1)]), (5, .box 24 [.p (.int .i64 b_0v2), .p (.int .i64 b_1v2)]), (7, .box 24 [.p (.int .i64 c_0v3), .p (.int .i64 c_1v3)]), (9, .box 24 [.p (.int .i64 d_0v4), .p (.int .i64 d_1v4)]), (13, .box 26 [.p (.int .i64 x_0v6), .p (.sl x_1v6.len 1 (fun i => enc_32 (x_1v6.get i))), .p (.int .i64 x_2v6), .p (.int .i64 x_3v6), .p (.int .i64 x_4v6), .p (.int .i64 x_5v6)])], []⟩
def f18_at7 (K : List PA → Prop) (a_0v1 : Int) (a_1v1 : Int) (b_0v2 : Int) (b_1v2 : Int) (c_0v3 : Int) (c_1v3 : Int) (d_0v4 : Int) (d_1v4 : Int) (lv5 : (Sl FluxStep)) (x_0v6 : Int) (x_1v6 : (Sl (Sl FluxRow))) (x_2v6 : Int) (x_3v6 : Int) (x_4v6 : Int) (x_5v6 : Int) : Prop := vc Try.prog G18 ann18 (cdF Try.f18 [1, 1, 1, 1, 1, 1, 1, 1, 1]) (bodyK Try.prog Try.f18 K) (f18_g7 a_0v1 a_1v1 b_0v2 b_1v2 c_0v3 c_1v3 d_0v4 d_1v4 lv5 x_0v6 x_1v6 x_2v6 x_3v6 x_4v6 x_5v6)
theorem f18_top (K : List PA → Prop) :
  vcFun Try.prog G18 ann18 18 [] K =
  (f18_at0 K s61.len (fun i => enc_42 (s61.get i)) s60.Bins.len (fun i => enc_32 (s60.Bins.get i))) := by kernel_rfl
theorem f18_eq0 (K : List PA → Prop) (tv0 : (Sl RangeRow)) (s_1v0 : (Sl (Sl FluxRow))) :
  f18_at0 K tv0.len (fun i => enc_42 (tv0.get i)) s_1v0.len (fun i => enc_32 (s_1v0.get i)) =
  ((IsE enc_42 3 3 (fun i => enc_42 (tv0.get i)) ∧ (p19 tv0 (100:Int) = true)) ∧
  (f18_at1 K tv0 ((s19 tv0 (100:Int)).2) s_1v0.len (fun i => enc_32 (s_1v0.get i)) (((s19 tv0 (100:Int)).1).Low) (((s19 tv0 (100:Int)).1).High))) := by kernel_rfl
theorem f18_eq1 (K : List PA → Prop) (tv0 : (Sl RangeRow)) (ev1 : Int) (s_1v1 : (Sl (Sl FluxRow))) (a_0v1 : Int) (a_1v1 : Int) :
  f18_at1 K tv0 ev1 s_1v1.len (fun i => enc_32 (s_1v1.get i)) a_0v1 a_1v1 =
  ((IsE enc_32 1 1 (fun i => enc_32 (s_1v1.get i)) ∧ IsE enc_42 3 3 (fun i => enc_42 (tv0.get i)) ∧ (p20 (⟨s60.Parts, s_1v1, s60.Beta, s60.Alpha⟩ : Sky) tv0 (0:Int) (280:Int) = true)) ∧
  (f18_at2 K tv0 ev1 a_0v1 a_1v1 ((s20 (⟨s60.Parts, s_1v1, s60.Beta, s60.Alpha⟩ : Sky) tv0 (0:Int) (280:Int)).2) s_1v1.len (fun i => enc_32 (s_1v1.get i)) (((s20 (⟨s60.Parts, s_1v1, s60.Beta, s60.Alpha⟩ : Sky) tv0 (0:Int) (280:Int)).1).Low) (((s20 (⟨s60.Parts, s_1v1, s60.Beta, s60.Alpha⟩ : Sky) tv0 (0:Int) (280:Int)).1).High))) := by kernel_rfl
theorem f18_eq2 (K : List PA → Prop) (tv0 : (Sl RangeRow)) (ev1 : Int) (a_0v1 : Int) (a_1v1 : Int) (fv2 : Int) (s_1v2 : (Sl (Sl FluxRow))) (b_0v2 : Int) (b_1v2 : Int) :
  f18_at2 K tv0 ev1 a_0v1 a_1v1 fv2 s_1v2.len (fun i => enc_32 (s_1v2.get i)) b_0v2 b_1v2 =
  ((IsE enc_32 1 1 (fun i => enc_32 (s_1v2.get i)) ∧ IsE enc_42 3 3 (fun i => enc_42 (tv0.get i)) ∧ IsE enc_56 5 5 (getL [(enc_56 (s34 (3:Int))), (enc_56 (⟨(1:Int), (⟨(⟨(-10:Int), (20:Int)⟩ : Span), (⟨(0:Int), (5:Int)⟩ : Span)⟩ : Weather)⟩ : Spell))]) ∧ (p23 (⟨s60.Parts, s_1v2, s60.Beta, s60.Alpha⟩ : Sky) tv0 (0:Int) (100:Int) (⟨2, decF_56 (getL [(enc_56 (s34 (3:Int))), (enc_56 (⟨(1:Int), (⟨(⟨(-10:Int), (20:Int)⟩ : Span), (⟨(0:Int), (5:Int)⟩ : Span)⟩ : Weather)⟩ : Spell))])⟩ : (Sl Spell)) = true)) ∧
  (f18_at3 K tv0 ev1 a_0v1 a_1v1 fv2 b_0v2 b_1v2 ((s23 (⟨s60.Parts, s_1v2, s60.Beta, s60.Alpha⟩ : Sky) tv0 (0:Int) (100:Int) (⟨2, decF_56 (getL [(enc_56 (s34 (3:Int))), (enc_56 (⟨(1:Int), (⟨(⟨(-10:Int), (20:Int)⟩ : Span), (⟨(0:Int), (5:Int)⟩ : Span)⟩ : Weather)⟩ : Spell))])⟩ : (Sl Spell))).2) s_1v2.len (fun i => enc_32 (s_1v2.get i)) (((s23 (⟨s60.Parts, s_1v2, s60.Beta, s60.Alpha⟩ : Sky) tv0 (0:Int) (100:Int) (⟨2, decF_56 (getL [(enc_56 (s34 (3:Int))), (enc_56 (⟨(1:Int), (⟨(⟨(-10:Int), (20:Int)⟩ : Span), (⟨(0:Int), (5:Int)⟩ : Span)⟩ : Weather)⟩ : Spell))])⟩ : (Sl Spell))).1).Low) (((s23 (⟨s60.Parts, s_1v2, s60.Beta, s60.Alpha⟩ : Sky) tv0 (0:Int) (100:Int) (⟨2, decF_56 (getL [(enc_56 (s34 (3:Int))), (enc_56 (⟨(1:Int), (⟨(⟨(-10:Int), (20:Int)⟩ : Span), (⟨(0:Int), (5:Int)⟩ : Span)⟩ : Weather)⟩ : Spell))])⟩ : (Sl Spell))).1).High))) := by kernel_rfl
theorem f18_eq3 (K : List PA → Prop) (tv0 : (Sl RangeRow)) (ev1 : Int) (a_0v1 : Int) (a_1v1 : Int) (fv2 : Int) (b_0v2 : Int) (b_1v2 : Int) (gv3 : Int) (s_1v3 : (Sl (Sl FluxRow))) (c_0v3 : Int) (c_1v3 : Int) :
  f18_at3 K tv0 ev1 a_0v1 a_1v1 fv2 b_0v2 b_1v2 gv3 s_1v3.len (fun i => enc_32 (s_1v3.get i)) c_0v3 c_1v3 =
  ((IsE enc_32 1 1 (fun i => enc_32 (s_1v3.get i)) ∧ IsE enc_42 3 3 (fun i => enc_42 (tv0.get i)) ∧ IsE enc_56 5 5 (fun _ => (enc_56 (s34 (1:Int)))) ∧ (p25 (⟨s60.Parts, s_1v3, s60.Beta, s60.Alpha⟩ : Sky) tv0 (0:Int) (⟨(261:Int), (270:Int)⟩ : Span) (⟨1, fun _ => (s34 (1:Int))⟩ : (Sl Spell)) = true)) ∧
  (f18_at4 K tv0 ev1 a_0v1 a_1v1 fv2 b_0v2 b_1v2 gv3 c_0v3 c_1v3 ((s25 (⟨s60.Parts, s_1v3, s60.Beta, s60.Alpha⟩ : Sky) tv0 (0:Int) (⟨(261:Int), (270:Int)⟩ : Span) (⟨1, fun _ => (s34 (1:Int))⟩ : (Sl Spell))).2) s_1v3.len (fun i => enc_32 (s_1v3.get i)) (((s25 (⟨s60.Parts, s_1v3, s60.Beta, s60.Alpha⟩ : Sky) tv0 (0:Int) (⟨(261:Int), (270:Int)⟩ : Span) (⟨1, fun _ => (s34 (1:Int))⟩ : (Sl Spell))).1).Low) (((s25 (⟨s60.Parts, s_1v3, s60.Beta, s60.Alpha⟩ : Sky) tv0 (0:Int) (⟨(261:Int), (270:Int)⟩ : Span) (⟨1, fun _ => (s34 (1:Int))⟩ : (Sl Spell))).1).High))) := by kernel_rfl
theorem f18_eq4 (K : List PA → Prop) (tv0 : (Sl RangeRow)) (ev1 : Int) (a_0v1 : Int) (a_1v1 : Int) (fv2 : Int) (b_0v2 : Int) (b_1v2 : Int) (gv3 : Int) (c_0v3 : Int) (c_1v3 : Int) (hv4 : Int) (s_1v4 : (Sl (Sl FluxRow))) (d_0v4 : Int) (d_1v4 : Int) :
  f18_at4 K tv0 ev1 a_0v1 a_1v1 fv2 b_0v2 b_1v2 gv3 c_0v3 c_1v3 hv4 s_1v4.len (fun i => enc_32 (s_1v4.get i)) d_0v4 d_1v4 =
  ((IsE enc_32 1 1 (fun i => enc_32 (s_1v4.get i)) ∧ IsE enc_42 3 3 (fun i => enc_42 (tv0.get i)) ∧ IsE enc_56 5 5 (fun _ => (enc_56 (s34 (1:Int)))) ∧ (p26 (⟨s60.Parts, s_1v4, s60.Beta, s60.Alpha⟩ : Sky) tv0 (0:Int) (⟨1, fun _ => (s34 (1:Int))⟩ : (Sl Spell)) = true)) ∧
  (f18_at5 K tv0 ev1 a_0v1 a_1v1 fv2 b_0v2 b_1v2 gv3 c_0v3 c_1v3 hv4 d_0v4 d_1v4 (((s26 (⟨s60.Parts, s_1v4, s60.Beta, s60.Alpha⟩ : Sky) tv0 (0:Int) (⟨1, fun _ => (s34 (1:Int))⟩ : (Sl Spell))).1).len) (fun i => enc_69 (((s26 (⟨s60.Parts, s_1v4, s60.Beta, s60.Alpha⟩ : Sky) tv0 (0:Int) (⟨1, fun _ => (s34 (1:Int))⟩ : (Sl Spell))).1).get i)) ((s26 (⟨s60.Parts, s_1v4, s60.Beta, s60.Alpha⟩ : Sky) tv0 (0:Int) (⟨1, fun _ => (s34 (1:Int))⟩ : (Sl Spell))).2) s_1v4.len (fun i => enc_32 (s_1v4.get i)))) := by kernel_rfl
theorem f18_eq5 (K : List PA → Prop) (tv0 : (Sl RangeRow)) (ev1 : Int) (a_0v1 : Int) (a_1v1 : Int) (fv2 : Int) (b_0v2 : Int) (b_1v2 : Int) (gv3 : Int) (c_0v3 : Int) (c_1v3 : Int) (hv4 : Int) (d_0v4 : Int) (d_1v4 : Int) (lv5 : (Sl FluxStep)) (iv5 : Int) (s_1v5 : (Sl (Sl FluxRow))) :
  f18_at5 K tv0 ev1 a_0v1 a_1v1 fv2 b_0v2 b_1v2 gv3 c_0v3 c_1v3 hv4 d_0v4 d_1v4 lv5.len (fun i => enc_69 (lv5.get i)) iv5 s_1v5.len (fun i => enc_32 (s_1v5.get i)) =
  ((IsE enc_32 1 1 (fun i => enc_32 (s_1v5.get i)) ∧ IsE enc_42 3 3 (fun i => enc_42 (tv0.get i)) ∧ (p33 (⟨s60.Parts, s_1v5, s60.Beta, s60.Alpha⟩ : Sky) tv0 (0:Int) (100:Int) (⟨(10:Int), (25:Int)⟩ : Span) = true)) ∧
  (f18_at6 K ev1 a_0v1 a_1v1 fv2 b_0v2 b_1v2 gv3 c_0v3 c_1v3 hv4 d_0v4 d_1v4 lv5 iv5 ((s33 (⟨s60.Parts, s_1v5, s60.Beta, s60.Alpha⟩ : Sky) tv0 (0:Int) (100:Int) (⟨(10:Int), (25:Int)⟩ : Span)).2) (((s33 (⟨s60.Parts, s_1v5, s60.Beta, s60.Alpha⟩ : Sky) tv0 (0:Int) (100:Int) (⟨(10:Int), (25:Int)⟩ : Span)).1).Parts) (((s33 (⟨s60.Parts, s_1v5, s60.Beta, s60.Alpha⟩ : Sky) tv0 (0:Int) (100:Int) (⟨(10:Int), (25:Int)⟩ : Span)).1).Bins.len) (fun i => enc_32 (((s33 (⟨s60.Parts, s_1v5, s60.Beta, s60.Alpha⟩ : Sky) tv0 (0:Int) (100:Int) (⟨(10:Int), (25:Int)⟩ : Span)).1).Bins.get i)) (((s33 (⟨s60.Parts, s_1v5, s60.Beta, s60.Alpha⟩ : Sky) tv0 (0:Int) (100:Int) (⟨(10:Int), (25:Int)⟩ : Span)).1).Beta.Low) (((s33 (⟨s60.Parts, s_1v5, s60.Beta, s60.Alpha⟩ : Sky) tv0 (0:Int) (100:Int) (⟨(10:Int), (25:Int)⟩ : Span)).1).Beta.High) (((s33 (⟨s60.Parts, s_1v5, s60.Beta, s60.Alpha⟩ : Sky) tv0 (0:Int) (100:Int) (⟨(10:Int), (25:Int)⟩ : Span)).1).Alpha.Low) (((s33 (⟨s60.Parts, s_1v5, s60.Beta, s60.Alpha⟩ : Sky) tv0 (0:Int) (100:Int) (⟨(10:Int), (25:Int)⟩ : Span)).1).Alpha.High))) := by kernel_rfl
theorem f18_eq6 (K : List PA → Prop) (ev1 : Int) (a_0v1 : Int) (a_1v1 : Int) (fv2 : Int) (b_0v2 : Int) (b_1v2 : Int) (gv3 : Int) (c_0v3 : Int) (c_1v3 : Int) (hv4 : Int) (d_0v4 : Int) (d_1v4 : Int) (lv5 : (Sl FluxStep)) (iv5 : Int) (jv6 : Int) (x_0v6 : Int) (x_1v6 : (Sl (Sl FluxRow))) (x_2v6 : Int) (x_3v6 : Int) (x_4v6 : Int) (x_5v6 : Int) :
  f18_at6 K ev1 a_0v1 a_1v1 fv2 b_0v2 b_1v2 gv3 c_0v3 c_1v3 hv4 d_0v4 d_1v4 lv5 iv5 jv6 x_0v6 x_1v6.len (fun i => enc_32 (x_1v6.get i)) x_2v6 x_3v6 x_4v6 x_5v6 =
  (condP (ev1 != (0:Int))
   (K [.one (.bool false)])
   (condP (fv2 != (0:Int))
    (K [.one (.bool false)])
    (condP (gv3 != (0:Int))
     (K [.one (.bool false)])
     (condP (hv4 != (0:Int))
      (K [.one (.bool false)])
      (condP (iv5 != (0:Int))
       (K [.one (.bool false)])
       (condP (jv6 != (0:Int))
        (K [.one (.bool false)])
        (condP ((lv5.len : Int) != (7:Int))
         (K [.one (.bool false)])
         (condP ((x_1v6.len : Int) != (1:Int))
          (K [.one (.bool false)])
          (((0 ≤ (0:Int) ∧ (0:Int) < (x_1v6.len : Int))) ∧
          (condP (((x_1v6.get 0).len : Int) != (4:Int))
           (K [.one (.bool false)])
           (f18_at7 K a_0v1 a_1v1 b_0v2 b_1v2 c_0v3 c_1v3 d_0v4 d_1v4 lv5 x_0v6 x_1v6 x_2v6 x_3v6 x_4v6 x_5v6))))))))))) := by kernel_rfl
theorem f18_eq7 (K : List PA → Prop) (a_0v1 : Int) (a_1v1 : Int) (b_0v2 : Int) (b_1v2 : Int) (c_0v3 : Int) (c_1v3 : Int) (d_0v4 : Int) (d_1v4 : Int) (lv5 : (Sl FluxStep)) (x_0v6 : Int) (x_1v6 : (Sl (Sl FluxRow))) (x_2v6 : Int) (x_3v6 : Int) (x_4v6 : Int) (x_5v6 : Int) :
  f18_at7 K a_0v1 a_1v1 b_0v2 b_1v2 c_0v3 c_1v3 d_0v4 d_1v4 lv5 x_0v6 x_1v6 x_2v6 x_3v6 x_4v6 x_5v6 =
  (condP (match (a_0v1 == (11:Int)) with | true => (match (a_1v1 == (100:Int)) with | true => true | false => false) | false => false)
   (condP (match (b_0v2 == (0:Int)) with | true => (match (b_1v2 == (260:Int)) with | true => true | false => false) | false => false)
    (condP (match (c_0v3 == (19:Int)) with | true => (match (c_1v3 == (505:Int)) with | true => true | false => false) | false => false)
     (condP (match (d_0v4 == (1:Int)) with | true => (match (d_1v4 == (120:Int)) with | true => true | false => false) | false => false)
      (((0 ≤ (4:Int) ∧ (4:Int) < (lv5.len : Int))) ∧
      (condP (match ((lv5.get 4).From == (121:Int)) with | true => (match (match ((lv5.get 4).Rate.Low == (20:Int)) with | true => (match ((lv5.get 4).Rate.High == (260:Int)) with | true => true | false => false) | false => false) with | true => true | false => false) | false => false)
       (((0 ≤ (0:Int) ∧ (0:Int) < (x_1v6.len : Int))) ∧
       (((0 ≤ (3:Int) ∧ (3:Int) < ((x_1v6.get 0).len : Int))) ∧
       (K [.one (.bool (match (((x_1v6.get 0).get 3).Rate.Low == (20:Int)) with | true => (match (((x_1v6.get 0).get 3).Rate.High == (25:Int)) with | true => true | false => false) | false => false))])))
       (K [.one (.bool false)])))
      (K [.one (.bool false)]))
     (K [.one (.bool false)]))
    (K [.one (.bool false)]))
   (K [.one (.bool false)])) := by kernel_rfl
abbrev R18 := Bool
abbrev e18 (r : Bool) : List PA := [.one (.bool r)]
attribute [irreducible] f18_at0 f18_at1 f18_at2 f18_at3 f18_at4 f18_at5 f18_at6 f18_at7
def s18_at7 (a_0v1 : Int) (a_1v1 : Int) (b_0v2 : Int) (b_1v2 : Int) (c_0v3 : Int) (c_1v3 : Int) (d_0v4 : Int) (d_1v4 : Int) (lv5 : (Sl FluxStep)) (x_0v6 : Int) (x_1v6 : (Sl (Sl FluxRow))) (x_2v6 : Int) (x_3v6 : Int) (x_4v6 : Int) (x_5v6 : Int) : Bool :=
  (cond (match (a_0v1 == (11:Int)) with | true => (match (a_1v1 == (100:Int)) with | true => true | false => false) | false => false)
   (cond (match (b_0v2 == (0:Int)) with | true => (match (b_1v2 == (260:Int)) with | true => true | false => false) | false => false)
    (cond (match (c_0v3 == (19:Int)) with | true => (match (c_1v3 == (505:Int)) with | true => true | false => false) | false => false)
     (cond (match (d_0v4 == (1:Int)) with | true => (match (d_1v4 == (120:Int)) with | true => true | false => false) | false => false)
      (cond (match ((lv5.get 4).From == (121:Int)) with | true => (match (match ((lv5.get 4).Rate.Low == (20:Int)) with | true => (match ((lv5.get 4).Rate.High == (260:Int)) with | true => true | false => false) | false => false) with | true => true | false => false) | false => false)
       (match (((x_1v6.get 0).get 3).Rate.Low == (20:Int)) with | true => (match (((x_1v6.get 0).get 3).Rate.High == (25:Int)) with | true => true | false => false) | false => false)
       false)
      false)
     false)
    false)
   false)
def p18_at7 (a_0v1 : Int) (a_1v1 : Int) (b_0v2 : Int) (b_1v2 : Int) (c_0v3 : Int) (c_1v3 : Int) (d_0v4 : Int) (d_1v4 : Int) (lv5 : (Sl FluxStep)) (x_0v6 : Int) (x_1v6 : (Sl (Sl FluxRow))) (x_2v6 : Int) (x_3v6 : Int) (x_4v6 : Int) (x_5v6 : Int) : Bool :=
  (cond (match (a_0v1 == (11:Int)) with | true => (match (a_1v1 == (100:Int)) with | true => true | false => false) | false => false)
   (cond (match (b_0v2 == (0:Int)) with | true => (match (b_1v2 == (260:Int)) with | true => true | false => false) | false => false)
    (cond (match (c_0v3 == (19:Int)) with | true => (match (c_1v3 == (505:Int)) with | true => true | false => false) | false => false)
     (cond (match (d_0v4 == (1:Int)) with | true => (match (d_1v4 == (120:Int)) with | true => true | false => false) | false => false)
      (decide ((0 ≤ (4:Int) ∧ (4:Int) < (lv5.len : Int))) &&
      (cond (match ((lv5.get 4).From == (121:Int)) with | true => (match (match ((lv5.get 4).Rate.Low == (20:Int)) with | true => (match ((lv5.get 4).Rate.High == (260:Int)) with | true => true | false => false) | false => false) with | true => true | false => false) | false => false)
       (decide ((0 ≤ (0:Int) ∧ (0:Int) < (x_1v6.len : Int))) &&
       (decide ((0 ≤ (3:Int) ∧ (3:Int) < ((x_1v6.get 0).len : Int))) &&
       true))
       true))
      true)
     true)
    true)
   true)
theorem q18_at7 (K : List PA → Prop) (a_0v1 : Int) (a_1v1 : Int) (b_0v2 : Int) (b_1v2 : Int) (c_0v3 : Int) (c_1v3 : Int) (d_0v4 : Int) (d_1v4 : Int) (lv5 : (Sl FluxStep)) (x_0v6 : Int) (x_1v6 : (Sl (Sl FluxRow))) (x_2v6 : Int) (x_3v6 : Int) (x_4v6 : Int) (x_5v6 : Int) (hs : p18_at7 a_0v1 a_1v1 b_0v2 b_1v2 c_0v3 c_1v3 d_0v4 d_1v4 lv5 x_0v6 x_1v6 x_2v6 x_3v6 x_4v6 x_5v6 = true) (hk : K (e18 (s18_at7 a_0v1 a_1v1 b_0v2 b_1v2 c_0v3 c_1v3 d_0v4 d_1v4 lv5 x_0v6 x_1v6 x_2v6 x_3v6 x_4v6 x_5v6))) : f18_at7 K a_0v1 a_1v1 b_0v2 b_1v2 c_0v3 c_1v3 d_0v4 d_1v4 lv5 x_0v6 x_1v6 x_2v6 x_3v6 x_4v6 x_5v6 := by
  refine ofEq (f18_eq7 K a_0v1 a_1v1 b_0v2 b_1v2 c_0v3 c_1v3 d_0v4 d_1v4 lv5 x_0v6 x_1v6 x_2v6 x_3v6 x_4v6 x_5v6) ?_
  unfold p18_at7 at hs
  unfold s18_at7 at hk
  exact (condB_go (K := fun r => K (e18 r))
   (fun hs hk => (condB_go (K := fun r => K (e18 r))
    (fun hs hk => (condB_go (K := fun r => K (e18 r))
     (fun hs hk => (condB_go (K := fun r => K (e18 r))
      (fun hs hk => (andK hs fun hc hs => ⟨hc, (condB_go (K := fun r => K (e18 r))
       (fun hs hk => (andK hs fun hc hs => ⟨hc, (andK hs fun hc hs => ⟨hc, hk⟩)⟩))
       (fun hs hk => hk) hs hk)⟩))
      (fun hs hk => hk) hs hk))
     (fun hs hk => hk) hs hk))
    (fun hs hk => hk) hs hk))
   (fun hs hk => hk) hs hk)
def s18_at6 (ev1 : Int) (a_0v1 : Int) (a_1v1 : Int) (fv2 : Int) (b_0v2 : Int) (b_1v2 : Int) (gv3 : Int) (c_0v3 : Int) (c_1v3 : Int) (hv4 : Int) (d_0v4 : Int) (d_1v4 : Int) (lv5 : (Sl FluxStep)) (iv5 : Int) (jv6 : Int) (x_0v6 : Int) (x_1v6 : (Sl (Sl FluxRow))) (x_2v6 : Int) (x_3v6 : Int) (x_4v6 : Int) (x_5v6 : Int) : Bool :=
  (cond (ev1 != (0:Int))
   false
   (cond (fv2 != (0:Int))
    false
    (cond (gv3 != (0:Int))
     false
     (cond (hv4 != (0:Int))
      false
      (cond (iv5 != (0:Int))
       false
       (cond (jv6 != (0:Int))
        false
        (cond ((lv5.len : Int) != (7:Int))
         false
         (cond ((x_1v6.len : Int) != (1:Int))
          false
          (cond (((x_1v6.get 0).len : Int) != (4:Int))
           false
           (s18_at7 a_0v1 a_1v1 b_0v2 b_1v2 c_0v3 c_1v3 d_0v4 d_1v4 lv5 x_0v6 x_1v6 x_2v6 x_3v6 x_4v6 x_5v6))))))))))
def p18_at6 (ev1 : Int) (a_0v1 : Int) (a_1v1 : Int) (fv2 : Int) (b_0v2 : Int) (b_1v2 : Int) (gv3 : Int) (c_0v3 : Int) (c_1v3 : Int) (hv4 : Int) (d_0v4 : Int) (d_1v4 : Int) (lv5 : (Sl FluxStep)) (iv5 : Int) (jv6 : Int) (x_0v6 : Int) (x_1v6 : (Sl (Sl FluxRow))) (x_2v6 : Int) (x_3v6 : Int) (x_4v6 : Int) (x_5v6 : Int) : Bool :=
  (cond (ev1 != (0:Int))
   true
   (cond (fv2 != (0:Int))
    true
    (cond (gv3 != (0:Int))
     true
     (cond (hv4 != (0:Int))
      true
      (cond (iv5 != (0:Int))
       true
       (cond (jv6 != (0:Int))
        true
        (cond ((lv5.len : Int) != (7:Int))
         true
         (cond ((x_1v6.len : Int) != (1:Int))
          true
          (decide ((0 ≤ (0:Int) ∧ (0:Int) < (x_1v6.len : Int))) &&
          (cond (((x_1v6.get 0).len : Int) != (4:Int))
           true
           (p18_at7 a_0v1 a_1v1 b_0v2 b_1v2 c_0v3 c_1v3 d_0v4 d_1v4 lv5 x_0v6 x_1v6 x_2v6 x_3v6 x_4v6 x_5v6)))))))))))
theorem q18_at6 (K : List PA → Prop) (ev1 : Int) (a_0v1 : Int) (a_1v1 : Int) (fv2 : Int) (b_0v2 : Int) (b_1v2 : Int) (gv3 : Int) (c_0v3 : Int) (c_1v3 : Int) (hv4 : Int) (d_0v4 : Int) (d_1v4 : Int) (lv5 : (Sl FluxStep)) (iv5 : Int) (jv6 : Int) (x_0v6 : Int) (x_1v6 : (Sl (Sl FluxRow))) (x_2v6 : Int) (x_3v6 : Int) (x_4v6 : Int) (x_5v6 : Int) (x_1v6_g : Nat → List PV) (x_1v6_h : x_1v6_g = fun i => enc_32 (x_1v6.get i)) (hs : p18_at6 ev1 a_0v1 a_1v1 fv2 b_0v2 b_1v2 gv3 c_0v3 c_1v3 hv4 d_0v4 d_1v4 lv5 iv5 jv6 x_0v6 x_1v6 x_2v6 x_3v6 x_4v6 x_5v6 = true) (hk : K (e18 (s18_at6 ev1 a_0v1 a_1v1 fv2 b_0v2 b_1v2 gv3 c_0v3 c_1v3 hv4 d_0v4 d_1v4 lv5 iv5 jv6 x_0v6 x_1v6 x_2v6 x_3v6 x_4v6 x_5v6))) : f18_at6 K ev1 a_0v1 a_1v1 fv2 b_0v2 b_1v2 gv3 c_0v3 c_1v3 hv4 d_0v4 d_1v4 lv5 iv5 jv6 x_0v6 x_1v6.len x_1v6_g x_2v6 x_3v6 x_4v6 x_5v6 := by
  subst x_1v6_h
  refine ofEq (f18_eq6 K ev1 a_0v1 a_1v1 fv2 b_0v2 b_1v2 gv3 c_0v3 c_1v3 hv4 d_0v4 d_1v4 lv5 iv5 jv6 x_0v6 x_1v6 x_2v6 x_3v6 x_4v6 x_5v6) ?_
  unfold p18_at6 at hs
  unfold s18_at6 at hk
  exact (condB_go (K := fun r => K (e18 r))
   (fun hs hk => hk)
   (fun hs hk => (condB_go (K := fun r => K (e18 r))
    (fun hs hk => hk)
    (fun hs hk => (condB_go (K := fun r => K (e18 r))
     (fun hs hk => hk)
     (fun hs hk => (condB_go (K := fun r => K (e18 r))
      (fun hs hk => hk)
      (fun hs hk => (condB_go (K := fun r => K (e18 r))
       (fun hs hk => hk)
       (fun hs hk => (condB_go (K := fun r => K (e18 r))
        (fun hs hk => hk)
        (fun hs hk => (condB_go (K := fun r => K (e18 r))
         (fun hs hk => hk)
         (fun hs hk => (condB_go (K := fun r => K (e18 r))
          (fun hs hk => hk)
          (fun hs hk => (andK hs fun hc hs => ⟨hc, (condB_go (K := fun r => K (e18 r))
           (fun hs hk => hk)
           (fun hs hk => (q18_at7 K a_0v1 a_1v1 b_0v2 b_1v2 c_0v3 c_1v3 d_0v4 d_1v4 lv5 x_0v6 x_1v6 x_2v6 x_3v6 x_4v6 x_5v6 hs hk)) hs hk)⟩)) hs hk)) hs hk)) hs hk)) hs hk)) hs hk)) hs hk)) hs hk)) hs hk)
def s18_at5 (tv0 : (Sl RangeRow)) (ev1 : Int) (a_0v1 : Int) (a_1v1 : Int) (fv2 : Int) (b_0v2 : Int) (b_1v2 : Int) (gv3 : Int) (c_0v3 : Int) (c_1v3 : Int) (hv4 : Int) (d_0v4 : Int) (d_1v4 : Int) (lv5 : (Sl FluxStep)) (iv5 : Int) (s_1v5 : (Sl (Sl FluxRow))) : Bool :=
  (s18_at6 ev1 a_0v1 a_1v1 fv2 b_0v2 b_1v2 gv3 c_0v3 c_1v3 hv4 d_0v4 d_1v4 lv5 iv5 ((s33 (⟨s60.Parts, s_1v5, s60.Beta, s60.Alpha⟩ : Sky) tv0 (0:Int) (100:Int) (⟨(10:Int), (25:Int)⟩ : Span)).2) (((s33 (⟨s60.Parts, s_1v5, s60.Beta, s60.Alpha⟩ : Sky) tv0 (0:Int) (100:Int) (⟨(10:Int), (25:Int)⟩ : Span)).1).Parts) (((s33 (⟨s60.Parts, s_1v5, s60.Beta, s60.Alpha⟩ : Sky) tv0 (0:Int) (100:Int) (⟨(10:Int), (25:Int)⟩ : Span)).1).Bins) (((s33 (⟨s60.Parts, s_1v5, s60.Beta, s60.Alpha⟩ : Sky) tv0 (0:Int) (100:Int) (⟨(10:Int), (25:Int)⟩ : Span)).1).Beta.Low) (((s33 (⟨s60.Parts, s_1v5, s60.Beta, s60.Alpha⟩ : Sky) tv0 (0:Int) (100:Int) (⟨(10:Int), (25:Int)⟩ : Span)).1).Beta.High) (((s33 (⟨s60.Parts, s_1v5, s60.Beta, s60.Alpha⟩ : Sky) tv0 (0:Int) (100:Int) (⟨(10:Int), (25:Int)⟩ : Span)).1).Alpha.Low) (((s33 (⟨s60.Parts, s_1v5, s60.Beta, s60.Alpha⟩ : Sky) tv0 (0:Int) (100:Int) (⟨(10:Int), (25:Int)⟩ : Span)).1).Alpha.High))
def p18_at5 (tv0 : (Sl RangeRow)) (ev1 : Int) (a_0v1 : Int) (a_1v1 : Int) (fv2 : Int) (b_0v2 : Int) (b_1v2 : Int) (gv3 : Int) (c_0v3 : Int) (c_1v3 : Int) (hv4 : Int) (d_0v4 : Int) (d_1v4 : Int) (lv5 : (Sl FluxStep)) (iv5 : Int) (s_1v5 : (Sl (Sl FluxRow))) : Bool :=
  (decide ((p33 (⟨s60.Parts, s_1v5, s60.Beta, s60.Alpha⟩ : Sky) tv0 (0:Int) (100:Int) (⟨(10:Int), (25:Int)⟩ : Span) = true)) &&
  (p18_at6 ev1 a_0v1 a_1v1 fv2 b_0v2 b_1v2 gv3 c_0v3 c_1v3 hv4 d_0v4 d_1v4 lv5 iv5 ((s33 (⟨s60.Parts, s_1v5, s60.Beta, s60.Alpha⟩ : Sky) tv0 (0:Int) (100:Int) (⟨(10:Int), (25:Int)⟩ : Span)).2) (((s33 (⟨s60.Parts, s_1v5, s60.Beta, s60.Alpha⟩ : Sky) tv0 (0:Int) (100:Int) (⟨(10:Int), (25:Int)⟩ : Span)).1).Parts) (((s33 (⟨s60.Parts, s_1v5, s60.Beta, s60.Alpha⟩ : Sky) tv0 (0:Int) (100:Int) (⟨(10:Int), (25:Int)⟩ : Span)).1).Bins) (((s33 (⟨s60.Parts, s_1v5, s60.Beta, s60.Alpha⟩ : Sky) tv0 (0:Int) (100:Int) (⟨(10:Int), (25:Int)⟩ : Span)).1).Beta.Low) (((s33 (⟨s60.Parts, s_1v5, s60.Beta, s60.Alpha⟩ : Sky) tv0 (0:Int) (100:Int) (⟨(10:Int), (25:Int)⟩ : Span)).1).Beta.High) (((s33 (⟨s60.Parts, s_1v5, s60.Beta, s60.Alpha⟩ : Sky) tv0 (0:Int) (100:Int) (⟨(10:Int), (25:Int)⟩ : Span)).1).Alpha.Low) (((s33 (⟨s60.Parts, s_1v5, s60.Beta, s60.Alpha⟩ : Sky) tv0 (0:Int) (100:Int) (⟨(10:Int), (25:Int)⟩ : Span)).1).Alpha.High)))
theorem q18_at5 (K : List PA → Prop) (tv0 : (Sl RangeRow)) (ev1 : Int) (a_0v1 : Int) (a_1v1 : Int) (fv2 : Int) (b_0v2 : Int) (b_1v2 : Int) (gv3 : Int) (c_0v3 : Int) (c_1v3 : Int) (hv4 : Int) (d_0v4 : Int) (d_1v4 : Int) (lv5 : (Sl FluxStep)) (iv5 : Int) (s_1v5 : (Sl (Sl FluxRow))) (lv5_g : Nat → List PV) (lv5_h : lv5_g = fun i => enc_69 (lv5.get i)) (s_1v5_g : Nat → List PV) (s_1v5_h : s_1v5_g = fun i => enc_32 (s_1v5.get i)) (hs : p18_at5 tv0 ev1 a_0v1 a_1v1 fv2 b_0v2 b_1v2 gv3 c_0v3 c_1v3 hv4 d_0v4 d_1v4 lv5 iv5 s_1v5 = true) (hk : K (e18 (s18_at5 tv0 ev1 a_0v1 a_1v1 fv2 b_0v2 b_1v2 gv3 c_0v3 c_1v3 hv4 d_0v4 d_1v4 lv5 iv5 s_1v5))) : f18_at5 K tv0 ev1 a_0v1 a_1v1 fv2 b_0v2 b_1v2 gv3 c_0v3 c_1v3 hv4 d_0v4 d_1v4 lv5.len lv5_g iv5 s_1v5.len s_1v5_g := by
  subst lv5_h
  subst s_1v5_h
  refine ofEq (f18_eq5 K tv0 ev1 a_0v1 a_1v1 fv2 b_0v2 b_1v2 gv3 c_0v3 c_1v3 hv4 d_0v4 d_1v4 lv5 iv5 s_1v5) ?_
  unfold p18_at5 at hs
  unfold s18_at5 at hk
  exact (andK hs fun hc hs => ⟨⟨isE, isE, hc⟩, (q18_at6 K ev1 a_0v1 a_1v1 fv2 b_0v2 b_1v2 gv3 c_0v3 c_1v3 hv4 d_0v4 d_1v4 lv5 iv5 ((s33 (⟨s60.Parts, s_1v5, s60.Beta, s60.Alpha⟩ : Sky) tv0 (0:Int) (100:Int) (⟨(10:Int), (25:Int)⟩ : Span)).2) (((s33 (⟨s60.Parts, s_1v5, s60.Beta, s60.Alpha⟩ : Sky) tv0 (0:Int) (100:Int) (⟨(10:Int), (25:Int)⟩ : Span)).1).Parts) (((s33 (⟨s60.Parts, s_1v5, s60.Beta, s60.Alpha⟩ : Sky) tv0 (0:Int) (100:Int) (⟨(10:Int), (25:Int)⟩ : Span)).1).Bins) (((s33 (⟨s60.Parts, s_1v5, s60.Beta, s60.Alpha⟩ : Sky) tv0 (0:Int) (100:Int) (⟨(10:Int), (25:Int)⟩ : Span)).1).Beta.Low) (((s33 (⟨s60.Parts, s_1v5, s60.Beta, s60.Alpha⟩ : Sky) tv0 (0:Int) (100:Int) (⟨(10:Int), (25:Int)⟩ : Span)).1).Beta.High) (((s33 (⟨s60.Parts, s_1v5, s60.Beta, s60.Alpha⟩ : Sky) tv0 (0:Int) (100:Int) (⟨(10:Int), (25:Int)⟩ : Span)).1).Alpha.Low) (((s33 (⟨s60.Parts, s_1v5, s60.Beta, s60.Alpha⟩ : Sky) tv0 (0:Int) (100:Int) (⟨(10:Int), (25:Int)⟩ : Span)).1).Alpha.High) (fun i => enc_32 (((s33 (⟨s60.Parts, s_1v5, s60.Beta, s60.Alpha⟩ : Sky) tv0 (0:Int) (100:Int) (⟨(10:Int), (25:Int)⟩ : Span)).1).Bins.get i)) rfl hs hk)⟩)
def s18_at4 (tv0 : (Sl RangeRow)) (ev1 : Int) (a_0v1 : Int) (a_1v1 : Int) (fv2 : Int) (b_0v2 : Int) (b_1v2 : Int) (gv3 : Int) (c_0v3 : Int) (c_1v3 : Int) (hv4 : Int) (s_1v4 : (Sl (Sl FluxRow))) (d_0v4 : Int) (d_1v4 : Int) : Bool :=
  (s18_at5 tv0 ev1 a_0v1 a_1v1 fv2 b_0v2 b_1v2 gv3 c_0v3 c_1v3 hv4 d_0v4 d_1v4 ((s26 (⟨s60.Parts, s_1v4, s60.Beta, s60.Alpha⟩ : Sky) tv0 (0:Int) (⟨1, fun _ => (s34 (1:Int))⟩ : (Sl Spell))).1) ((s26 (⟨s60.Parts, s_1v4, s60.Beta, s60.Alpha⟩ : Sky) tv0 (0:Int) (⟨1, fun _ => (s34 (1:Int))⟩ : (Sl Spell))).2) s_1v4)
def p18_at4 (tv0 : (Sl RangeRow)) (ev1 : Int) (a_0v1 : Int) (a_1v1 : Int) (fv2 : Int) (b_0v2 : Int) (b_1v2 : Int) (gv3 : Int) (c_0v3 : Int) (c_1v3 : Int) (hv4 : Int) (s_1v4 : (Sl (Sl FluxRow))) (d_0v4 : Int) (d_1v4 : Int) : Bool :=
  (decide ((p26 (⟨s60.Parts, s_1v4, s60.Beta, s60.Alpha⟩ : Sky) tv0 (0:Int) (⟨1, fun _ => (s34 (1:Int))⟩ : (Sl Spell)) = true)) &&
  (p18_at5 tv0 ev1 a_0v1 a_1v1 fv2 b_0v2 b_1v2 gv3 c_0v3 c_1v3 hv4 d_0v4 d_1v4 ((s26 (⟨s60.Parts, s_1v4, s60.Beta, s60.Alpha⟩ : Sky) tv0 (0:Int) (⟨1, fun _ => (s34 (1:Int))⟩ : (Sl Spell))).1) ((s26 (⟨s60.Parts, s_1v4, s60.Beta, s60.Alpha⟩ : Sky) tv0 (0:Int) (⟨1, fun _ => (s34 (1:Int))⟩ : (Sl Spell))).2) s_1v4))
theorem q18_at4 (K : List PA → Prop) (tv0 : (Sl RangeRow)) (ev1 : Int) (a_0v1 : Int) (a_1v1 : Int) (fv2 : Int) (b_0v2 : Int) (b_1v2 : Int) (gv3 : Int) (c_0v3 : Int) (c_1v3 : Int) (hv4 : Int) (s_1v4 : (Sl (Sl FluxRow))) (d_0v4 : Int) (d_1v4 : Int) (s_1v4_g : Nat → List PV) (s_1v4_h : s_1v4_g = fun i => enc_32 (s_1v4.get i)) (hs : p18_at4 tv0 ev1 a_0v1 a_1v1 fv2 b_0v2 b_1v2 gv3 c_0v3 c_1v3 hv4 s_1v4 d_0v4 d_1v4 = true) (hk : K (e18 (s18_at4 tv0 ev1 a_0v1 a_1v1 fv2 b_0v2 b_1v2 gv3 c_0v3 c_1v3 hv4 s_1v4 d_0v4 d_1v4))) : f18_at4 K tv0 ev1 a_0v1 a_1v1 fv2 b_0v2 b_1v2 gv3 c_0v3 c_1v3 hv4 s_1v4.len s_1v4_g d_0v4 d_1v4 := by
  subst s_1v4_h
  refine ofEq (f18_eq4 K tv0 ev1 a_0v1 a_1v1 fv2 b_0v2 b_1v2 gv3 c_0v3 c_1v3 hv4 s_1v4 d_0v4 d_1v4) ?_
  unfold p18_at4 at hs
  unfold s18_at4 at hk
  exact (andK hs fun hc hs => ⟨⟨isE, isE, isE_c, hc⟩, (q18_at5 K tv0 ev1 a_0v1 a_1v1 fv2 b_0v2 b_1v2 gv3 c_0v3 c_1v3 hv4 d_0v4 d_1v4 ((s26 (⟨s60.Parts, s_1v4, s60.Beta, s60.Alpha⟩ : Sky) tv0 (0:Int) (⟨1, fun _ => (s34 (1:Int))⟩ : (Sl Spell))).1) ((s26 (⟨s60.Parts, s_1v4, s60.Beta, s60.Alpha⟩ : Sky) tv0 (0:Int) (⟨1, fun _ => (s34 (1:Int))⟩ : (Sl Spell))).2) s_1v4 (fun i => enc_69 (((s26 (⟨s60.Parts, s_1v4, s60.Beta, s60.Alpha⟩ : Sky) tv0 (0:Int) (⟨1, fun _ => (s34 (1:Int))⟩ : (Sl Spell))).1).get i)) rfl (fun i => enc_32 (s_1v4.get i)) rfl hs hk)⟩)
def s18_at3 (tv0 : (Sl RangeRow)) (ev1 : Int) (a_0v1 : Int) (a_1v1 : Int) (fv2 : Int) (b_0v2 : Int) (b_1v2 : Int) (gv3 : Int) (s_1v3 : (Sl (Sl FluxRow))) (c_0v3 : Int) (c_1v3 : Int) : Bool :=
  (s18_at4 tv0 ev1 a_0v1 a_1v1 fv2 b_0v2 b_1v2 gv3 c_0v3 c_1v3 ((s25 (⟨s60.Parts, s_1v3, s60.Beta, s60.Alpha⟩ : Sky) tv0 (0:Int) (⟨(261:Int), (270:Int)⟩ : Span) (⟨1, fun _ => (s34 (1:Int))⟩ : (Sl Spell))).2) s_1v3 (((s25 (⟨s60.Parts, s_1v3, s60.Beta, s60.Alpha⟩ : Sky) tv0 (0:Int) (⟨(261:Int), (270:Int)⟩ : Span) (⟨1, fun _ => (s34 (1:Int))⟩ : (Sl Spell))).1).Low) (((s25 (⟨s60.Parts, s_1v3, s60.Beta, s60.Alpha⟩ : Sky) tv0 (0:Int) (⟨(261:Int), (270:Int)⟩ : Span) (⟨1, fun _ => (s34 (1:Int))⟩ : (Sl Spell))).1).High))
def p18_at3 (tv0 : (Sl RangeRow)) (ev1 : Int) (a_0v1 : Int) (a_1v1 : Int) (fv2 : Int) (b_0v2 : Int) (b_1v2 : Int) (gv3 : Int) (s_1v3 : (Sl (Sl FluxRow))) (c_0v3 : Int) (c_1v3 : Int) : Bool :=
  (decide ((p25 (⟨s60.Parts, s_1v3, s60.Beta, s60.Alpha⟩ : Sky) tv0 (0:Int) (⟨(261:Int), (270:Int)⟩ : Span) (⟨1, fun _ => (s34 (1:Int))⟩ : (Sl Spell)) = true)) &&
  (p18_at4 tv0 ev1 a_0v1 a_1v1 fv2 b_0v2 b_1v2 gv3 c_0v3 c_1v3 ((s25 (⟨s60.Parts, s_1v3, s60.Beta, s60.Alpha⟩ : Sky) tv0 (0:Int) (⟨(261:Int), (270:Int)⟩ : Span) (⟨1, fun _ => (s34 (1:Int))⟩ : (Sl Spell))).2) s_1v3 (((s25 (⟨s60.Parts, s_1v3, s60.Beta, s60.Alpha⟩ : Sky) tv0 (0:Int) (⟨(261:Int), (270:Int)⟩ : Span) (⟨1, fun _ => (s34 (1:Int))⟩ : (Sl Spell))).1).Low) (((s25 (⟨s60.Parts, s_1v3, s60.Beta, s60.Alpha⟩ : Sky) tv0 (0:Int) (⟨(261:Int), (270:Int)⟩ : Span) (⟨1, fun _ => (s34 (1:Int))⟩ : (Sl Spell))).1).High)))
theorem q18_at3 (K : List PA → Prop) (tv0 : (Sl RangeRow)) (ev1 : Int) (a_0v1 : Int) (a_1v1 : Int) (fv2 : Int) (b_0v2 : Int) (b_1v2 : Int) (gv3 : Int) (s_1v3 : (Sl (Sl FluxRow))) (c_0v3 : Int) (c_1v3 : Int) (s_1v3_g : Nat → List PV) (s_1v3_h : s_1v3_g = fun i => enc_32 (s_1v3.get i)) (hs : p18_at3 tv0 ev1 a_0v1 a_1v1 fv2 b_0v2 b_1v2 gv3 s_1v3 c_0v3 c_1v3 = true) (hk : K (e18 (s18_at3 tv0 ev1 a_0v1 a_1v1 fv2 b_0v2 b_1v2 gv3 s_1v3 c_0v3 c_1v3))) : f18_at3 K tv0 ev1 a_0v1 a_1v1 fv2 b_0v2 b_1v2 gv3 s_1v3.len s_1v3_g c_0v3 c_1v3 := by
  subst s_1v3_h
  refine ofEq (f18_eq3 K tv0 ev1 a_0v1 a_1v1 fv2 b_0v2 b_1v2 gv3 s_1v3 c_0v3 c_1v3) ?_
  unfold p18_at3 at hs
  unfold s18_at3 at hk
  exact (andK hs fun hc hs => ⟨⟨isE, isE, isE_c, hc⟩, (q18_at4 K tv0 ev1 a_0v1 a_1v1 fv2 b_0v2 b_1v2 gv3 c_0v3 c_1v3 ((s25 (⟨s60.Parts, s_1v3, s60.Beta, s60.Alpha⟩ : Sky) tv0 (0:Int) (⟨(261:Int), (270:Int)⟩ : Span) (⟨1, fun _ => (s34 (1:Int))⟩ : (Sl Spell))).2) s_1v3 (((s25 (⟨s60.Parts, s_1v3, s60.Beta, s60.Alpha⟩ : Sky) tv0 (0:Int) (⟨(261:Int), (270:Int)⟩ : Span) (⟨1, fun _ => (s34 (1:Int))⟩ : (Sl Spell))).1).Low) (((s25 (⟨s60.Parts, s_1v3, s60.Beta, s60.Alpha⟩ : Sky) tv0 (0:Int) (⟨(261:Int), (270:Int)⟩ : Span) (⟨1, fun _ => (s34 (1:Int))⟩ : (Sl Spell))).1).High) (fun i => enc_32 (s_1v3.get i)) rfl hs hk)⟩)
def s18_at2 (tv0 : (Sl RangeRow)) (ev1 : Int) (a_0v1 : Int) (a_1v1 : Int) (fv2 : Int) (s_1v2 : (Sl (Sl FluxRow))) (b_0v2 : Int) (b_1v2 : Int) : Bool :=
  (s18_at3 tv0 ev1 a_0v1 a_1v1 fv2 b_0v2 b_1v2 ((s23 (⟨s60.Parts, s_1v2, s60.Beta, s60.Alpha⟩ : Sky) tv0 (0:Int) (100:Int) (⟨2, decF_56 (getL [(enc_56 (s34 (3:Int))), (enc_56 (⟨(1:Int), (⟨(⟨(-10:Int), (20:Int)⟩ : Span), (⟨(0:Int), (5:Int)⟩ : Span)⟩ : Weather)⟩ : Spell))])⟩ : (Sl Spell))).2) s_1v2 (((s23 (⟨s60.Parts, s_1v2, s60.Beta, s60.Alpha⟩ : Sky) tv0 (0:Int) (100:Int) (⟨2, decF_56 (getL [(enc_56 (s34 (3:Int))), (enc_56 (⟨(1:Int), (⟨(⟨(-10:Int), (20:Int)⟩ : Span), (⟨(0:Int), (5:Int)⟩ : Span)⟩ : Weather)⟩ : Spell))])⟩ : (Sl Spell))).1).Low) (((s23 (⟨s60.Parts, s_1v2, s60.Beta, s60.Alpha⟩ : Sky) tv0 (0:Int) (100:Int) (⟨2, decF_56 (getL [(enc_56 (s34 (3:Int))), (enc_56 (⟨(1:Int), (⟨(⟨(-10:Int), (20:Int)⟩ : Span), (⟨(0:Int), (5:Int)⟩ : Span)⟩ : Weather)⟩ : Spell))])⟩ : (Sl Spell))).1).High))
def p18_at2 (tv0 : (Sl RangeRow)) (ev1 : Int) (a_0v1 : Int) (a_1v1 : Int) (fv2 : Int) (s_1v2 : (Sl (Sl FluxRow))) (b_0v2 : Int) (b_1v2 : Int) : Bool :=
  (decide ((p23 (⟨s60.Parts, s_1v2, s60.Beta, s60.Alpha⟩ : Sky) tv0 (0:Int) (100:Int) (⟨2, decF_56 (getL [(enc_56 (s34 (3:Int))), (enc_56 (⟨(1:Int), (⟨(⟨(-10:Int), (20:Int)⟩ : Span), (⟨(0:Int), (5:Int)⟩ : Span)⟩ : Weather)⟩ : Spell))])⟩ : (Sl Spell)) = true)) &&
  (p18_at3 tv0 ev1 a_0v1 a_1v1 fv2 b_0v2 b_1v2 ((s23 (⟨s60.Parts, s_1v2, s60.Beta, s60.Alpha⟩ : Sky) tv0 (0:Int) (100:Int) (⟨2, decF_56 (getL [(enc_56 (s34 (3:Int))), (enc_56 (⟨(1:Int), (⟨(⟨(-10:Int), (20:Int)⟩ : Span), (⟨(0:Int), (5:Int)⟩ : Span)⟩ : Weather)⟩ : Spell))])⟩ : (Sl Spell))).2) s_1v2 (((s23 (⟨s60.Parts, s_1v2, s60.Beta, s60.Alpha⟩ : Sky) tv0 (0:Int) (100:Int) (⟨2, decF_56 (getL [(enc_56 (s34 (3:Int))), (enc_56 (⟨(1:Int), (⟨(⟨(-10:Int), (20:Int)⟩ : Span), (⟨(0:Int), (5:Int)⟩ : Span)⟩ : Weather)⟩ : Spell))])⟩ : (Sl Spell))).1).Low) (((s23 (⟨s60.Parts, s_1v2, s60.Beta, s60.Alpha⟩ : Sky) tv0 (0:Int) (100:Int) (⟨2, decF_56 (getL [(enc_56 (s34 (3:Int))), (enc_56 (⟨(1:Int), (⟨(⟨(-10:Int), (20:Int)⟩ : Span), (⟨(0:Int), (5:Int)⟩ : Span)⟩ : Weather)⟩ : Spell))])⟩ : (Sl Spell))).1).High)))
theorem q18_at2 (K : List PA → Prop) (tv0 : (Sl RangeRow)) (ev1 : Int) (a_0v1 : Int) (a_1v1 : Int) (fv2 : Int) (s_1v2 : (Sl (Sl FluxRow))) (b_0v2 : Int) (b_1v2 : Int) (s_1v2_g : Nat → List PV) (s_1v2_h : s_1v2_g = fun i => enc_32 (s_1v2.get i)) (hs : p18_at2 tv0 ev1 a_0v1 a_1v1 fv2 s_1v2 b_0v2 b_1v2 = true) (hk : K (e18 (s18_at2 tv0 ev1 a_0v1 a_1v1 fv2 s_1v2 b_0v2 b_1v2))) : f18_at2 K tv0 ev1 a_0v1 a_1v1 fv2 s_1v2.len s_1v2_g b_0v2 b_1v2 := by
  subst s_1v2_h
  refine ofEq (f18_eq2 K tv0 ev1 a_0v1 a_1v1 fv2 s_1v2 b_0v2 b_1v2) ?_
  unfold p18_at2 at hs
  unfold s18_at2 at hk
  exact (andK hs fun hc hs => ⟨⟨isE, isE, (isE_list []), hc⟩, (q18_at3 K tv0 ev1 a_0v1 a_1v1 fv2 b_0v2 b_1v2 ((s23 (⟨s60.Parts, s_1v2, s60.Beta, s60.Alpha⟩ : Sky) tv0 (0:Int) (100:Int) (⟨2, decF_56 (getL [(enc_56 (s34 (3:Int))), (enc_56 (⟨(1:Int), (⟨(⟨(-10:Int), (20:Int)⟩ : Span), (⟨(0:Int), (5:Int)⟩ : Span)⟩ : Weather)⟩ : Spell))])⟩ : (Sl Spell))).2) s_1v2 (((s23 (⟨s60.Parts, s_1v2, s60.Beta, s60.Alpha⟩ : Sky) tv0 (0:Int) (100:Int) (⟨2, decF_56 (getL [(enc_56 (s34 (3:Int))), (enc_56 (⟨(1:Int), (⟨(⟨(-10:Int), (20:Int)⟩ : Span), (⟨(0:Int), (5:Int)⟩ : Span)⟩ : Weather)⟩ : Spell))])⟩ : (Sl Spell))).1).Low) (((s23 (⟨s60.Parts, s_1v2, s60.Beta, s60.Alpha⟩ : Sky) tv0 (0:Int) (100:Int) (⟨2, decF_56 (getL [(enc_56 (s34 (3:Int))), (enc_56 (⟨(1:Int), (⟨(⟨(-10:Int), (20:Int)⟩ : Span), (⟨(0:Int), (5:Int)⟩ : Span)⟩ : Weather)⟩ : Spell))])⟩ : (Sl Spell))).1).High) (fun i => enc_32 (s_1v2.get i)) rfl hs hk)⟩)
def s18_at1 (tv0 : (Sl RangeRow)) (ev1 : Int) (s_1v1 : (Sl (Sl FluxRow))) (a_0v1 : Int) (a_1v1 : Int) : Bool :=
  (s18_at2 tv0 ev1 a_0v1 a_1v1 ((s20 (⟨s60.Parts, s_1v1, s60.Beta, s60.Alpha⟩ : Sky) tv0 (0:Int) (280:Int)).2) s_1v1 (((s20 (⟨s60.Parts, s_1v1, s60.Beta, s60.Alpha⟩ : Sky) tv0 (0:Int) (280:Int)).1).Low) (((s20 (⟨s60.Parts, s_1v1, s60.Beta, s60.Alpha⟩ : Sky) tv0 (0:Int) (280:Int)).1).High))
def p18_at1 (tv0 : (Sl RangeRow)) (ev1 : Int) (s_1v1 : (Sl (Sl FluxRow))) (a_0v1 : Int) (a_1v1 : Int) : Bool :=
  (decide ((p20 (⟨s60.Parts, s_1v1, s60.Beta, s60.Alpha⟩ : Sky) tv0 (0:Int) (280:Int) = true)) &&
  (p18_at2 tv0 ev1 a_0v1 a_1v1 ((s20 (⟨s60.Parts, s_1v1, s60.Beta, s60.Alpha⟩ : Sky) tv0 (0:Int) (280:Int)).2) s_1v1 (((s20 (⟨s60.Parts, s_1v1, s60.Beta, s60.Alpha⟩ : Sky) tv0 (0:Int) (280:Int)).1).Low) (((s20 (⟨s60.Parts, s_1v1, s60.Beta, s60.Alpha⟩ : Sky) tv0 (0:Int) (280:Int)).1).High)))
theorem q18_at1 (K : List PA → Prop) (tv0 : (Sl RangeRow)) (ev1 : Int) (s_1v1 : (Sl (Sl FluxRow))) (a_0v1 : Int) (a_1v1 : Int) (s_1v1_g : Nat → List PV) (s_1v1_h : s_1v1_g = fun i => enc_32 (s_1v1.get i)) (hs : p18_at1 tv0 ev1 s_1v1 a_0v1 a_1v1 = true) (hk : K (e18 (s18_at1 tv0 ev1 s_1v1 a_0v1 a_1v1))) : f18_at1 K tv0 ev1 s_1v1.len s_1v1_g a_0v1 a_1v1 := by
  subst s_1v1_h
  refine ofEq (f18_eq1 K tv0 ev1 s_1v1 a_0v1 a_1v1) ?_
  unfold p18_at1 at hs
  unfold s18_at1 at hk
  exact (andK hs fun hc hs => ⟨⟨isE, isE, hc⟩, (q18_at2 K tv0 ev1 a_0v1 a_1v1 ((s20 (⟨s60.Parts, s_1v1, s60.Beta, s60.Alpha⟩ : Sky) tv0 (0:Int) (280:Int)).2) s_1v1 (((s20 (⟨s60.Parts, s_1v1, s60.Beta, s60.Alpha⟩ : Sky) tv0 (0:Int) (280:Int)).1).Low) (((s20 (⟨s60.Parts, s_1v1, s60.Beta, s60.Alpha⟩ : Sky) tv0 (0:Int) (280:Int)).1).High) (fun i => enc_32 (s_1v1.get i)) rfl hs hk)⟩)
def s18_at0 (tv0 : (Sl RangeRow)) (s_1v0 : (Sl (Sl FluxRow))) : Bool :=
  (s18_at1 tv0 ((s19 tv0 (100:Int)).2) s_1v0 (((s19 tv0 (100:Int)).1).Low) (((s19 tv0 (100:Int)).1).High))
def p18_at0 (tv0 : (Sl RangeRow)) (s_1v0 : (Sl (Sl FluxRow))) : Bool :=
  (decide ((p19 tv0 (100:Int) = true)) &&
  (p18_at1 tv0 ((s19 tv0 (100:Int)).2) s_1v0 (((s19 tv0 (100:Int)).1).Low) (((s19 tv0 (100:Int)).1).High)))
theorem q18_at0 (K : List PA → Prop) (tv0 : (Sl RangeRow)) (s_1v0 : (Sl (Sl FluxRow))) (tv0_g : Nat → List PV) (tv0_h : tv0_g = fun i => enc_42 (tv0.get i)) (s_1v0_g : Nat → List PV) (s_1v0_h : s_1v0_g = fun i => enc_32 (s_1v0.get i)) (hs : p18_at0 tv0 s_1v0 = true) (hk : K (e18 (s18_at0 tv0 s_1v0))) : f18_at0 K tv0.len tv0_g s_1v0.len s_1v0_g := by
  subst tv0_h
  subst s_1v0_h
  refine ofEq (f18_eq0 K tv0 s_1v0) ?_
  unfold p18_at0 at hs
  unfold s18_at0 at hk
  exact (andK hs fun hc hs => ⟨⟨isE, hc⟩, (q18_at1 K tv0 ((s19 tv0 (100:Int)).2) s_1v0 (((s19 tv0 (100:Int)).1).Low) (((s19 tv0 (100:Int)).1).High) (fun i => enc_32 (s_1v0.get i)) rfl hs hk)⟩)
def s18 : Bool :=
  (s18_at0 s61 s60.Bins)
def p18 : Bool :=
  (p18_at0 s61 s60.Bins)
theorem q18 (K : List PA → Prop) (hs : p18 = true) (hk : K (e18 (s18))) : vcFun Try.prog G18 ann18 18 [] K := by
  refine ofEq (f18_top K) ?_
  unfold p18 at hs
  unfold s18 at hk
  exact (q18_at0 K s61 s60.Bins (fun i => enc_42 (s61.get i)) rfl (fun i => enc_32 (s60.Bins.get i)) rfl hs hk)
theorem p18_ok : p18 = true := by kernel_rfl
theorem s18_ok : s18 = true := by kernel_rfl
def ctr18 : List PA → COut
  | [] => .tot [.one (.bool true)]
  | _ => .no
theorem call18 : Callable Try.prog 18 := ⟨_, rfl, rfl, by kernel_rfl⟩
theorem ok18 : Ok Try.prog 18 ctr18 := ok_tab okT18 call18 fun args K h => by
  unfold ctr18 at h
  split at h
  · refine ⟨fun _ _ => [], fun _ => false, ann18, q18 K p18_ok ?_⟩
    show K [.one (.bool s18)]
    rw [s18_ok]; exact h
  · exact h.elim
abbrev T15 : Tabs := Tabs.nil
theorem okT15 : TabsOk Try.prog T15 := TabsOk.nil
abbrev G15 : Ctrs := csm T15 (fun _ _ => []) (fun _ => false)
def ann15 : Ann := ⟨29, [(0, ⟨[1, 2], [2], [], [], []⟩), (1, ⟨[1, 2, 5], [2], [], [], []⟩), (2, ⟨[1, 2, 5, 10], [2], [], [], []⟩), (3, ⟨[1, 2, 5], [2], [], [], []⟩), (4, ⟨[1, 2, 5, 19], [2], [], [], []⟩), (5, ⟨[4], [], [], [], []⟩), (6, ⟨[4], [], [], [], []⟩)],
  [(2, ⟨[1, 2, 5], [2], [], [], []⟩)],
  [],
  [], []⟩
def f15_g0 (s : Sky) (t : (Sl RangeRow)) (iv0 : Int) : St := ⟨[(1, .one (.c (.p (.sl t.len 3 (fun i => enc_42 (t.get i)))))), (2, .one (.c (.ptr 2 0))), (5, .one (.c (.p (.int .i64 iv0))))], [(2, .box 26 [.p (.int .i64 s.Parts), .p (.sl s.Bins.len 1 (fun i => enc_32 (s.Bins.get i))), .p (.int .i64 s.Beta.Low), .p (.int .i64 s.Beta.High), .p (.int .i64 s.Alpha.Low), .p (.int .i64 s.Alpha.High)])], []⟩
def f15_at0 (K : List PA → Prop) (s : Sky) (t : (Sl RangeRow)) (iv0 : Int) : Prop := vc Try.prog G15 ann15 (cdF Try.f15 [1, 0, 1, 0]) (blockK 0 (sqK Try.prog G15 ann15 (cdF Try.f15 [1, 1]) (bodyK Try.prog Try.f15 K))) (f15_g0 s t iv0)
theorem f15_top (s : Sky) (t : (Sl RangeRow)) (K : List PA → Prop) :
  vcFun Try.prog G15 ann15 15 [.agg [.int .i64 s.Parts, .sl s.Bins.len 1 (fun i => enc_32 (s.Bins.get i)), .int .i64 s.Beta.Low, .int .i64 s.Beta.High, .int .i64 s.Alpha.Low, .int .i64 s.Alpha.High], .one (.sl t.len 3 (fun i => enc_42 (t.get i)))] K =
  (f15_at0 K s t (0:Int)) := by kernel_rfl
def f15_step0 (K : List PA → Prop) (X0 : St → Prop) (s : Sky) (t : (Sl RangeRow)) (iv0 : Int) : Prop :=
  (condP (decide (iv0 < (s.Bins.len : Int)))
   (((0 ≤ iv0 ∧ iv0 < (s.Bins.len : Int))) ∧
   (condP (decide (((s.Bins.get iv0.toNat).len : Int) > (50:Int)))
    (K [.one (.bool false)])
    (X0 (f15_g0 s t (w64 (iv0 + (1:Int)))))))
   (condP (decide ((s.Bins.len : Int) ≤ (25:Int)))
    (K [.one (.bool (decide ((t.len : Int) ≤ (50:Int))))])
    (K [.one (.bool false)])))
theorem f15_stepeq0 (K : List PA → Prop) (X0 : St → Prop) (s : Sky) (t : (Sl RangeRow)) (iv0 : Int) :
  vc Try.prog G15 ann15 (cd (cdF Try.f15 [1, 0, 1, 0]) [0]) (loopK Try.prog ann15 2 X0 (blockK 0 (sqK Try.prog G15 ann15 (cdF Try.f15 [1, 1]) (bodyK Try.prog Try.f15 K)))) (f15_g0 s t iv0) =
  f15_step0 K X0 s t iv0 := by kernel_rfl
theorem f15_loop0 (K : List PA → Prop) (s : Sky) (t : (Sl RangeRow)) (iv0 : Int)
  (h : ∀ X0 : St → Prop, (∀ (iv0 : Int), f15_step0 K X0 s t iv0 → X0 (f15_g0 s t iv0)) → X0 (f15_g0 s t iv0)) :
  f15_at0 K s t iv0 := by
  have e : f15_at0 K s t iv0 = (∀ X : St → Prop, (∀ s, vc Try.prog G15 ann15 (cd (cdF Try.f15 [1, 0, 1, 0]) [0]) (loopK Try.prog ann15 2 X (blockK 0 (sqK Try.prog G15 ann15 (cdF Try.f15 [1, 1]) (bodyK Try.prog Try.f15 K)))) s → X s) → X (f15_g0 s t iv0)) := by kernel_rfl
  refine ofEq e ?_
  intro X hX
  refine h X ?_
  intro iv0 hs
  refine hX _ ?_
  have e2 := f15_stepeq0 K X s t iv0
  rw [e2]
  exact hs
abbrev R15 := Bool
abbrev e15 (r : Bool) : List PA := [.one (.bool r)]
attribute [irreducible] f15_at0
def s15_st0 (s : Sky) (t : (Sl RangeRow)) (S0 : Int → Bool) (iv0 : Int) : Bool :=
  (cond (decide (iv0 < (s.Bins.len : Int)))
   (cond (decide (((s.Bins.get iv0.toNat).len : Int) > (50:Int)))
    false
    (S0 (w64 (iv0 + (1:Int)))))
   (cond (decide ((s.Bins.len : Int) ≤ (25:Int)))
    (decide ((t.len : Int) ≤ (50:Int)))
    false))
def p15_st0 (s : Sky) (t : (Sl RangeRow)) (P0 : Int → Bool) (iv0 : Int) : Bool :=
  (cond (decide (iv0 < (s.Bins.len : Int)))
   (decide ((0 ≤ iv0 ∧ iv0 < (s.Bins.len : Int))) &&
   (cond (decide (((s.Bins.get iv0.toNat).len : Int) > (50:Int)))
    true
    (P0 (w64 (iv0 + (1:Int))))))
   true)
def s15_lp0 (s : Sky) (t : (Sl RangeRow)) : Nat → Int → Bool
  | 0 => fun _ => default
  | k + 1 => s15_st0 s t (s15_lp0 s t k)
def p15_lp0 (s : Sky) (t : (Sl RangeRow)) : Nat → Int → Bool
  | 0 => fun _ => false
  | k + 1 => p15_st0 s t (p15_lp0 s t k)
def s15_at0 (s : Sky) (t : (Sl RangeRow)) (iv0 : Int) : Bool := s15_lp0 s t Fuel iv0
def p15_at0 (s : Sky) (t : (Sl RangeRow)) (iv0 : Int) : Bool := p15_lp0 s t Fuel iv0
theorem q15_at0 (K : List PA → Prop) (s : Sky) (t : (Sl RangeRow)) (iv0 : Int) (hs : p15_at0 s t iv0 = true) (hk : K (e15 (s15_at0 s t iv0))) : f15_at0 K s t iv0 := by
  refine f15_loop0 K s t iv0 ?_
  intro X0 hstep
  have key : ∀ (k : Nat) (iv0 : Int), p15_lp0 s t k iv0 = true → K (e15 (s15_lp0 s t k iv0)) → X0 (f15_g0 s t iv0) := by
    intro k
    induction k with
    | zero => intro iv0 hs; exact absurd hs Bool.false_ne_true
    | succ k ih =>
      intro iv0 hs hk
      refine hstep iv0 ?_
      have hs : p15_st0 s t (p15_lp0 s t k) iv0 = true := hs
      have hk : K (e15 (s15_st0 s t (s15_lp0 s t k) iv0)) := hk
      unfold p15_st0 at hs
      unfold s15_st0 at hk
      generalize s15_lp0 s t k = S0 at hk ih
      generalize p15_lp0 s t k = P0 at hs ih
      have hX0 := ih
      exact (condB_go (K := fun r => K (e15 r))
       (fun hs hk => (andK hs fun hc hs => ⟨hc, (condB_go (K := fun r => K (e15 r))
        (fun hs hk => hk)
        (fun hs hk => (hX0 (w64 (iv0 + (1:Int))) hs hk)) hs hk)⟩))
       (fun hs hk => (condP_gt (K := fun r => K (e15 r))
        (fun hk => hk)
        (fun hk => hk) hk)) hs hk)
  exact key _ iv0 hs hk
def s15 (s : Sky) (t : (Sl RangeRow)) : Bool :=
  (s15_at0 s t (0:Int))
def p15 (s : Sky) (t : (Sl RangeRow)) : Bool :=
  (p15_at0 s t (0:Int))
theorem q15 (s : Sky) (t : (Sl RangeRow)) (K : List PA → Prop) (hs : p15 s t = true) (hk : K (e15 (s15 s t))) : vcFun Try.prog G15 ann15 15 [.agg [.int .i64 s.Parts, .sl s.Bins.len 1 (fun i => enc_32 (s.Bins.get i)), .int .i64 s.Beta.Low, .int .i64 s.Beta.High, .int .i64 s.Alpha.Low, .int .i64 s.Alpha.High], .one (.sl t.len 3 (fun i => enc_42 (t.get i)))] K := by
  refine ofEq (f15_top s t K) ?_
  unfold p15 at hs
  unfold s15 at hk
  exact (q15_at0 K s t (0:Int) hs hk)
def ctr15 : List PA → COut
  | [.agg [.int .i64 a0_Parts, .sl a0_Bins_n a0_Bins_s a0_Bins_g, .int .i64 a0_Beta_Low, .int .i64 a0_Beta_High, .int .i64 a0_Alpha_Low, .int .i64 a0_Alpha_High], .one (.sl a1_n a1_s a1_g)] => .det (IsE enc_32 1 a0_Bins_s a0_Bins_g ∧ IsE enc_42 3 a1_s a1_g ∧ p15 (⟨a0_Parts, (⟨a0_Bins_n, decF_32 a0_Bins_g⟩ : (Sl (Sl FluxRow))), (⟨a0_Beta_Low, a0_Beta_High⟩ : Span), (⟨a0_Alpha_Low, a0_Alpha_High⟩ : Span)⟩ : Sky) (⟨a1_n, decF_42 a1_g⟩ : (Sl RangeRow)) = true) [.one (.bool (s15 (⟨a0_Parts, (⟨a0_Bins_n, decF_32 a0_Bins_g⟩ : (Sl (Sl FluxRow))), (⟨a0_Beta_Low, a0_Beta_High⟩ : Span), (⟨a0_Alpha_Low, a0_Alpha_High⟩ : Span)⟩ : Sky) (⟨a1_n, decF_42 a1_g⟩ : (Sl RangeRow))))]
  | _ => .no
theorem call15 : Callable Try.prog 15 := ⟨_, rfl, rfl, by kernel_rfl⟩
theorem ok15 : Ok Try.prog 15 ctr15 := ok_tab okT15 call15 fun args K h => by
  unfold ctr15 at h
  split at h
  · rename_i a0_Parts a0_Bins_n a0_Bins_s a0_Bins_g a0_Beta_Low a0_Beta_High a0_Alpha_Low a0_Alpha_High a1_n a1_s a1_g
    obtain ⟨⟨⟨rfl, a0_Bins_f, rfl⟩, ⟨rfl, a1_f, rfl⟩, hs⟩, hk⟩ := h
    try rw [decF_enc_32 a0_Bins_f] at hs
    try rw [decF_enc_32 a0_Bins_f] at hk
    try rw [decF_enc_42 a1_f] at hs
    try rw [decF_enc_42 a1_f] at hk
    exact ⟨(fun _ _ => []), (fun _ => false), ann15, q15 (⟨a0_Parts, (⟨a0_Bins_n, a0_Bins_f⟩ : (Sl (Sl FluxRow))), (⟨a0_Beta_Low, a0_Beta_High⟩ : Span), (⟨a0_Alpha_Low, a0_Alpha_High⟩ : Span)⟩ : Sky) (⟨a1_n, a1_f⟩ : (Sl RangeRow)) K hs hk⟩
  · exact h.elim
abbrev T29 : Tabs := Tabs.nil
theorem okT29 : TabsOk Try.prog T29 := TabsOk.nil
abbrev G29 : Ctrs := csm T29 (fun _ _ => []) (fun _ => false)
def ann29 : Ann := ⟨24, [(0, ⟨[1, 2, 3], [3], [], [], []⟩), (1, ⟨[6], [], [], [], []⟩)],
  [],
  [],
  [], []⟩
theorem f29_top (s : Span) (low : Int) (high : Int) (K : List PA → Prop) :
  vcFun Try.prog G29 ann29 29 [.agg [.int .i64 s.Low, .int .i64 s.High], .one (.int .i64 low), .one (.int .i64 high)] K =
  (condP (decide (s.Low ≥ low))
   (condP (decide (s.Low ≤ s.High))
    (K [.one (.bool (decide (s.High ≤ high)))])
    (K [.one (.bool false)]))
   (K [.one (.bool false)])) := by kernel_rfl
abbrev R29 := Bool
abbrev e29 (r : Bool) : List PA := [.one (.bool r)]
def s29 (s : Span) (low : Int) (high : Int) : Bool :=
  (cond (decide (s.Low ≥ low))
   (cond (decide (s.Low ≤ s.High))
    (decide (s.High ≤ high))
    false)
   false)
theorem q29 (s : Span) (low : Int) (high : Int) (K : List PA → Prop) (hk : K (e29 (s29 s low high))) : vcFun Try.prog G29 ann29 29 [.agg [.int .i64 s.Low, .int .i64 s.High], .one (.int .i64 low), .one (.int .i64 high)] K := by
  refine ofEq (f29_top s low high K) ?_
  unfold s29 at hk
  exact (condP_gt (K := fun r => K (e29 r))
   (fun hk => (condP_gt (K := fun r => K (e29 r))
    (fun hk => hk)
    (fun hk => hk) hk))
   (fun hk => hk) hk)
def ctr29 : List PA → COut
  | [.agg [.int .i64 a0_Low, .int .i64 a0_High], .one (.int .i64 a1), .one (.int .i64 a2)] => .tot [.one (.bool (s29 (⟨a0_Low, a0_High⟩ : Span) a1 a2))]
  | _ => .no
theorem call29 : Callable Try.prog 29 := ⟨_, rfl, rfl, by kernel_rfl⟩
theorem ok29 : Ok Try.prog 29 ctr29 := ok_tab okT29 call29 fun args K h => by
  unfold ctr29 at h
  split at h
  · rename_i a0_Low a0_High a1 a2
    have hk := h
    exact ⟨(fun _ _ => []), (fun _ => false), ann29, q29 (⟨a0_Low, a0_High⟩ : Span) a1 a2 K hk⟩
  · exact h.elim
abbrev T58 : Tabs := Tabs.nil
theorem okT58 : TabsOk Try.prog T58 := TabsOk.nil
abbrev G58 : Ctrs := csm T58 (fun _ _ => []) (fun _ => false)
def ann58 : Ann := ⟨15, [(0, ⟨[0, 1, 2], [], [], [], []⟩), (1, ⟨[6], [], [], [], []⟩)],
  [],
  [],
  [], []⟩
theorem f58_top (x : Int) (low : Int) (high : Int) (K : List PA → Prop) :
  vcFun Try.prog G58 ann58 58 [.one (.int .i64 x), .one (.int .i64 low), .one (.int .i64 high)] K =
  (condP (decide (x ≥ low))
   (K [.one (.bool (decide (x ≤ high)))])
   (K [.one (.bool false)])) := by kernel_rfl
abbrev R58 := Bool
abbrev e58 (r : Bool) : List PA := [.one (.bool r)]
def s58 (x : Int) (low : Int) (high : Int) : Bool :=
  (cond (decide (x ≥ low))
   (decide (x ≤ high))
   false)
theorem q58 (x : Int) (low : Int) (high : Int) (K : List PA → Prop) (hk : K (e58 (s58 x low high))) : vcFun Try.prog G58 ann58 58 [.one (.int .i64 x), .one (.int .i64 low), .one (.int .i64 high)] K := by
  refine ofEq (f58_top x low high K) ?_
  unfold s58 at hk
  exact (condP_gt (K := fun r => K (e58 r))
   (fun hk => hk)
   (fun hk => hk) hk)
def ctr58 : List PA → COut
  | [.one (.int .i64 a0), .one (.int .i64 a1), .one (.int .i64 a2)] => .tot [.one (.bool (s58 a0 a1 a2))]
  | _ => .no
theorem call58 : Callable Try.prog 58 := ⟨_, rfl, rfl, by kernel_rfl⟩
theorem ok58 : Ok Try.prog 58 ctr58 := ok_tab okT58 call58 fun args K h => by
  unfold ctr58 at h
  split at h
  · rename_i a0 a1 a2
    have hk := h
    exact ⟨(fun _ _ => []), (fun _ => false), ann58, q58 a0 a1 a2 K hk⟩
  · exact h.elim
end Go.Proofs
namespace Go.Proofs
open Go Go.Pm
set_option maxRecDepth 100000
set_option linter.unusedVariables false
attribute [local irreducible] Go.Pm.vcFun Go.Pm.vc Go.Pm.vcIter
abbrev T59 : Tabs := ((Tabs.nil.addF 29 ctr29).addF 58 ctr58)
theorem okT59 : TabsOk Try.prog T59 := ((TabsOk.nil.addF ok29).addF ok58)
abbrev G59 : Ctrs := csm T59 (fun _ _ => []) (fun _ => false)
def ann59 : Ann := ⟨79, [(0, ⟨[0, 1], [], [], [], []⟩), (1, ⟨[0, 1, 5], [], [], [], []⟩), (2, ⟨[0, 1, 5, 10], [], [], [], []⟩), (3, ⟨[0, 1, 5], [], [], [], []⟩), (4, ⟨[0, 1, 5, 6], [6], [], [], []⟩), (5, ⟨[0, 1, 5, 68], [], [], [], []⟩), (6, ⟨[4], [], [], [], []⟩), (7, ⟨[4], [], [], [], []⟩)],
  [(2, ⟨[0, 1, 5], [], [], [], []⟩)],
  [(6, ⟨[0, 1, 5, 68], [], [], [], []⟩)],
  [], []⟩
def f59_g0 (parts : Int) (l_a1 : (Sl FluxRow)) (iv0 : Int) : St := ⟨[(0, .one (.c (.p (.int .i64 parts)))), (1, .one (.c (.p (.sl l_a1.len 3 (fun i => enc_44 (l_a1.get i)))))), (5, .one (.c (.p (.int .i64 iv0))))], [], []⟩
def f59_at0 (K : List PA → Prop) (parts : Int) (l_a1 : (Sl FluxRow)) (iv0 : Int) : Prop := vc Try.prog G59 ann59 (cdF Try.f59 [1, 0, 1, 0]) (blockK 0 (sqK Try.prog G59 ann59 (cdF Try.f59 [1, 1]) (bodyK Try.prog Try.f59 K))) (f59_g0 parts l_a1 iv0)
def f59_g1 (parts : Int) (l_a1 : (Sl FluxRow)) (iv1 : Int) (t68v1 : Bool) : St := ⟨[(0, .one (.c (.p (.int .i64 parts)))), (1, .one (.c (.p (.sl l_a1.len 3 (fun i => enc_44 (l_a1.get i)))))), (5, .one (.c (.p (.int .i64 iv1)))), (68, .one (.c (.p (.bool t68v1))))], [], []⟩
def f59_at1 (K : List PA → Prop) (X0 : St → Prop) (parts : Int) (l_a1 : (Sl FluxRow)) (iv1 : Int) (t68v1 : Bool) : Prop := vc Try.prog G59 ann59 (cdF Try.f59 [1, 0, 1, 0, 0, 1, 0, 0, 1, 1]) (blockK 1 (sqK Try.prog G59 ann59 (cdF Try.f59 [1, 0, 1, 0, 0, 1, 1]) (loopK Try.prog ann59 2 X0 (blockK 0 (sqK Try.prog G59 ann59 (cdF Try.f59 [1, 1]) (bodyK Try.prog Try.f59 K)))))) (f59_g1 parts l_a1 iv1 t68v1)
theorem f59_top (parts : Int) (l_a1 : (Sl FluxRow)) (K : List PA → Prop) :
  vcFun Try.prog G59 ann59 59 [.one (.int .i64 parts), .one (.sl l_a1.len 3 (fun i => enc_44 (l_a1.get i)))] K =
  (f59_at0 K parts l_a1 (0:Int)) := by kernel_rfl
def f59_step0 (K : List PA → Prop) (X0 : St → Prop) (parts : Int) (l_a1 : (Sl FluxRow)) (iv0 : Int) : Prop :=
  (condP (decide (iv0 < (l_a1.len : Int)))
   (((0 ≤ iv0 ∧ iv0 < (l_a1.len : Int))) ∧
   (condP (!(s58 ((l_a1.get iv0.toNat).Energy) (1:Int) (1000000:Int)))
    (f59_at1 K X0 parts l_a1 iv0 true)
    (condP (!(s29 ((l_a1.get iv0.toNat).Rate) (0:Int) parts))
     (f59_at1 K X0 parts l_a1 iv0 true)
     (condP (decide (iv0 > (0:Int)))
      (((0 ≤ (w64 (iv0 - (1:Int))) ∧ (w64 (iv0 - (1:Int))) < (l_a1.len : Int))) ∧
      (condP (decide ((l_a1.get iv0.toNat).Energy ≤ (l_a1.get ((w64 (iv0 - (1:Int))).toNat)).Energy))
       (f59_at1 K X0 parts l_a1 iv0 true)
       (((0 ≤ (w64 (iv0 - (1:Int))) ∧ (w64 (iv0 - (1:Int))) < (l_a1.len : Int))) ∧
       (condP (decide ((l_a1.get iv0.toNat).Rate.Low > (l_a1.get ((w64 (iv0 - (1:Int))).toNat)).Rate.Low))
        (f59_at1 K X0 parts l_a1 iv0 true)
        (((0 ≤ (w64 (iv0 - (1:Int))) ∧ (w64 (iv0 - (1:Int))) < (l_a1.len : Int))) ∧
        (f59_at1 K X0 parts l_a1 iv0 (decide ((l_a1.get iv0.toNat).Rate.High > (l_a1.get ((w64 (iv0 - (1:Int))).toNat)).Rate.High))))))))
      (f59_at1 K X0 parts l_a1 iv0 false)))))
   (condP (s58 (l_a1.len : Int) (1:Int) (40:Int))
    (((0 ≤ (0:Int) ∧ (0:Int) < (l_a1.len : Int))) ∧
    (K [.one (.bool ((l_a1.get 0).Energy == (1:Int)))]))
    (K [.one (.bool false)])))
theorem f59_stepeq0 (K : List PA → Prop) (X0 : St → Prop) (parts : Int) (l_a1 : (Sl FluxRow)) (iv0 : Int) :
  vc Try.prog G59 ann59 (cd (cdF Try.f59 [1, 0, 1, 0]) [0]) (loopK Try.prog ann59 2 X0 (blockK 0 (sqK Try.prog G59 ann59 (cdF Try.f59 [1, 1]) (bodyK Try.prog Try.f59 K)))) (f59_g0 parts l_a1 iv0) =
  f59_step0 K X0 parts l_a1 iv0 := by kernel_rfl
theorem f59_loop0 (K : List PA → Prop) (parts : Int) (l_a1 : (Sl FluxRow)) (iv0 : Int)
  (h : ∀ X0 : St → Prop, (∀ (iv0 : Int), f59_step0 K X0 parts l_a1 iv0 → X0 (f59_g0 parts l_a1 iv0)) → X0 (f59_g0 parts l_a1 iv0)) :
  f59_at0 K parts l_a1 iv0 := by
  have e : f59_at0 K parts l_a1 iv0 = (∀ X : St → Prop, (∀ s, vc Try.prog G59 ann59 (cd (cdF Try.f59 [1, 0, 1, 0]) [0]) (loopK Try.prog ann59 2 X (blockK 0 (sqK Try.prog G59 ann59 (cdF Try.f59 [1, 1]) (bodyK Try.prog Try.f59 K)))) s → X s) → X (f59_g0 parts l_a1 iv0)) := by kernel_rfl
  refine ofEq e ?_
  intro X hX
  refine h X ?_
  intro iv0 hs
  refine hX _ ?_
  have e2 := f59_stepeq0 K X parts l_a1 iv0
  rw [e2]
  exact hs
theorem f59_eq1 (K : List PA → Prop) (X0 : St → Prop) (parts : Int) (l_a1 : (Sl FluxRow)) (iv1 : Int) (t68v1 : Bool) :
  f59_at1 K X0 parts l_a1 iv1 t68v1 =
  (condP t68v1
   (K [.one (.bool false)])
   (X0 (f59_g0 parts l_a1 (w64 (iv1 + (1:Int)))))) := by kernel_rfl
abbrev R59 := Bool
abbrev e59 (r : Bool) : List PA := [.one (.bool r)]
attribute [irreducible] f59_at0 f59_at1
def s59_at1 (S0 : Int → Bool) (parts : Int) (l_a1 : (Sl FluxRow)) (iv1 : Int) (t68v1 : Bool) : Bool :=
  (cond t68v1
   false
   (S0 (w64 (iv1 + (1:Int)))))
def p59_at1 (P0 : Int → Bool) (parts : Int) (l_a1 : (Sl FluxRow)) (iv1 : Int) (t68v1 : Bool) : Bool :=
  (cond t68v1
   true
   (P0 (w64 (iv1 + (1:Int)))))
theorem q59_at1 (K : List PA → Prop) (parts : Int) (l_a1 : (Sl FluxRow))
  (X0 : St → Prop) (P0 : Int → Bool) (S0 : Int → Bool)
  (hX0 : ∀ (iv0 : Int), P0 iv0 = true → K (e59 (S0 iv0)) → X0 (f59_g0 parts l_a1 iv0)) (iv1 : Int) (t68v1 : Bool) (hs : p59_at1 P0 parts l_a1 iv1 t68v1 = true) (hk : K (e59 (s59_at1 S0 parts l_a1 iv1 t68v1))) : f59_at1 K X0 parts l_a1 iv1 t68v1 := by
  refine ofEq (f59_eq1 K X0 parts l_a1 iv1 t68v1) ?_
  unfold p59_at1 at hs
  unfold s59_at1 at hk
  exact (condB_go (K := fun r => K (e59 r))
   (fun hs hk => hk)
   (fun hs hk => (hX0 (w64 (iv1 + (1:Int))) hs hk)) hs hk)
def s59_st0 (parts : Int) (l_a1 : (Sl FluxRow)) (S0 : Int → Bool) (iv0 : Int) : Bool :=
  (cond (decide (iv0 < (l_a1.len : Int)))
   (cond (!(s58 ((l_a1.get iv0.toNat).Energy) (1:Int) (1000000:Int)))
    (s59_at1 S0 parts l_a1 iv0 true)
    (cond (!(s29 ((l_a1.get iv0.toNat).Rate) (0:Int) parts))
     (s59_at1 S0 parts l_a1 iv0 true)
     (cond (decide (iv0 > (0:Int)))
      (cond (decide ((l_a1.get iv0.toNat).Energy ≤ (l_a1.get ((w64 (iv0 - (1:Int))).toNat)).Energy))
       (s59_at1 S0 parts l_a1 iv0 true)
       (cond (decide ((l_a1.get iv0.toNat).Rate.Low > (l_a1.get ((w64 (iv0 - (1:Int))).toNat)).Rate.Low))
        (s59_at1 S0 parts l_a1 iv0 true)
        (s59_at1 S0 parts l_a1 iv0 (decide ((l_a1.get iv0.toNat).Rate.High > (l_a1.get ((w64 (iv0 - (1:Int))).toNat)).Rate.High)))))
      (s59_at1 S0 parts l_a1 iv0 false))))
   (cond (s58 (l_a1.len : Int) (1:Int) (40:Int))
    ((l_a1.get 0).Energy == (1:Int))
    false))
def p59_st0 (parts : Int) (l_a1 : (Sl FluxRow)) (P0 : Int → Bool) (iv0 : Int) : Bool :=
  (cond (decide (iv0 < (l_a1.len : Int)))
   (decide ((0 ≤ iv0 ∧ iv0 < (l_a1.len : Int))) &&
   (cond (!(s58 ((l_a1.get iv0.toNat).Energy) (1:Int) (1000000:Int)))
    (p59_at1 P0 parts l_a1 iv0 true)
    (cond (!(s29 ((l_a1.get iv0.toNat).Rate) (0:Int) parts))
     (p59_at1 P0 parts l_a1 iv0 true)
     (cond (decide (iv0 > (0:Int)))
      (decide ((0 ≤ (w64 (iv0 - (1:Int))) ∧ (w64 (iv0 - (1:Int))) < (l_a1.len : Int))) &&
      (cond (decide ((l_a1.get iv0.toNat).Energy ≤ (l_a1.get ((w64 (iv0 - (1:Int))).toNat)).Energy))
       (p59_at1 P0 parts l_a1 iv0 true)
       (decide ((0 ≤ (w64 (iv0 - (1:Int))) ∧ (w64 (iv0 - (1:Int))) < (l_a1.len : Int))) &&
       (cond (decide ((l_a1.get iv0.toNat).Rate.Low > (l_a1.get ((w64 (iv0 - (1:Int))).toNat)).Rate.Low))
        (p59_at1 P0 parts l_a1 iv0 true)
        (decide ((0 ≤ (w64 (iv0 - (1:Int))) ∧ (w64 (iv0 - (1:Int))) < (l_a1.len : Int))) &&
        (p59_at1 P0 parts l_a1 iv0 (decide ((l_a1.get iv0.toNat).Rate.High > (l_a1.get ((w64 (iv0 - (1:Int))).toNat)).Rate.High))))))))
      (p59_at1 P0 parts l_a1 iv0 false)))))
   (cond (s58 (l_a1.len : Int) (1:Int) (40:Int))
    (decide ((0 ≤ (0:Int) ∧ (0:Int) < (l_a1.len : Int))) &&
    true)
    true))
def s59_lp0 (parts : Int) (l_a1 : (Sl FluxRow)) : Nat → Int → Bool
  | 0 => fun _ => default
  | k + 1 => s59_st0 parts l_a1 (s59_lp0 parts l_a1 k)
def p59_lp0 (parts : Int) (l_a1 : (Sl FluxRow)) : Nat → Int → Bool
  | 0 => fun _ => false
  | k + 1 => p59_st0 parts l_a1 (p59_lp0 parts l_a1 k)
def s59_at0 (parts : Int) (l_a1 : (Sl FluxRow)) (iv0 : Int) : Bool := s59_lp0 parts l_a1 Fuel iv0
def p59_at0 (parts : Int) (l_a1 : (Sl FluxRow)) (iv0 : Int) : Bool := p59_lp0 parts l_a1 Fuel iv0
theorem q59_at0 (K : List PA → Prop) (parts : Int) (l_a1 : (Sl FluxRow)) (iv0 : Int) (hs : p59_at0 parts l_a1 iv0 = true) (hk : K (e59 (s59_at0 parts l_a1 iv0))) : f59_at0 K parts l_a1 iv0 := by
  refine f59_loop0 K parts l_a1 iv0 ?_
  intro X0 hstep
  have key : ∀ (k : Nat) (iv0 : Int), p59_lp0 parts l_a1 k iv0 = true → K (e59 (s59_lp0 parts l_a1 k iv0)) → X0 (f59_g0 parts l_a1 iv0) := by
    intro k
    induction k with
    | zero => intro iv0 hs; exact absurd hs Bool.false_ne_true
    | succ k ih =>
      intro iv0 hs hk
      refine hstep iv0 ?_
      have hs : p59_st0 parts l_a1 (p59_lp0 parts l_a1 k) iv0 = true := hs
      have hk : K (e59 (s59_st0 parts l_a1 (s59_lp0 parts l_a1 k) iv0)) := hk
      unfold p59_st0 at hs
      unfold s59_st0 at hk
      generalize s59_lp0 parts l_a1 k = S0 at hk ih
      generalize p59_lp0 parts l_a1 k = P0 at hs ih
      have hX0 := ih
      exact (condB_go (K := fun r => K (e59 r))
       (fun hs hk => (andK hs fun hc hs => ⟨hc, (condB_go (K := fun r => K (e59 r))
        (fun hs hk => (q59_at1 K parts l_a1 X0 P0 S0 hX0 iv0 true hs hk))
        (fun hs hk => (condB_go (K := fun r => K (e59 r))
         (fun hs hk => (q59_at1 K parts l_a1 X0 P0 S0 hX0 iv0 true hs hk))
         (fun hs hk => (condB_go (K := fun r => K (e59 r))
          (fun hs hk => (andK hs fun hc hs => ⟨hc, (condB_go (K := fun r => K (e59 r))
           (fun hs hk => (q59_at1 K parts l_a1 X0 P0 S0 hX0 iv0 true hs hk))
           (fun hs hk => (andK hs fun hc hs => ⟨hc, (condB_go (K := fun r => K (e59 r))
            (fun hs hk => (q59_at1 K parts l_a1 X0 P0 S0 hX0 iv0 true hs hk))
            (fun hs hk => (andK hs fun hc hs => ⟨hc, (q59_at1 K parts l_a1 X0 P0 S0 hX0 iv0 (decide ((l_a1.get iv0.toNat).Rate.High > (l_a1.get ((w64 (iv0 - (1:Int))).toNat)).Rate.High)) hs hk)⟩)) hs hk)⟩)) hs hk)⟩))
          (fun hs hk => (q59_at1 K parts l_a1 X0 P0 S0 hX0 iv0 false hs hk)) hs hk)) hs hk)) hs hk)⟩))
       (fun hs hk => (condB_go (K := fun r => K (e59 r))
        (fun hs hk => (andK hs fun hc hs => ⟨hc, hk⟩))
        (fun hs hk => hk) hs hk)) hs hk)
  exact key _ iv0 hs hk
def s59 (parts : Int) (l_a1 : (Sl FluxRow)) : Bool :=
  (s59_at0 parts l_a1 (0:Int))
def p59 (parts : Int) (l_a1 : (Sl FluxRow)) : Bool :=
  (p59_at0 parts l_a1 (0:Int))
theorem q59 (parts : Int) (l_a1 : (Sl FluxRow)) (K : List PA → Prop) (hs : p59 parts l_a1 = true) (hk : K (e59 (s59 parts l_a1))) : vcFun Try.prog G59 ann59 59 [.one (.int .i64 parts), .one (.sl l_a1.len 3 (fun i => enc_44 (l_a1.get i)))] K := by
  refine ofEq (f59_top parts l_a1 K) ?_
  unfold p59 at hs
  unfold s59 at hk
  exact (q59_at0 K parts l_a1 (0:Int) hs hk)
def ctr59 : List PA → COut
  | [.one (.int .i64 a0), .one (.sl a1_n a1_s a1_g)] => .det (IsE enc_44 3 a1_s a1_g ∧ p59 a0 (⟨a1_n, decF_44 a1_g⟩ : (Sl FluxRow)) = true) [.one (.bool (s59 a0 (⟨a1_n, decF_44 a1_g⟩ : (Sl FluxRow))))]
  | _ => .no
theorem call59 : Callable Try.prog 59 := ⟨_, rfl, rfl, by kernel_rfl⟩
theorem ok59 : Ok Try.prog 59 ctr59 := ok_tab okT59 call59 fun args K h => by
  unfold ctr59 at h
  split at h
  · rename_i a0 a1_n a1_s a1_g
    obtain ⟨⟨⟨rfl, a1_f, rfl⟩, hs⟩, hk⟩ := h
    try rw [decF_enc_44 a1_f] at hs
    try rw [decF_enc_44 a1_f] at hk
    exact ⟨(fun _ _ => []), (fun _ => false), ann59, q59 a0 (⟨a1_n, a1_f⟩ : (Sl FluxRow)) K hs hk⟩
  · exact h.elim
abbrev T16 : Tabs := (((Tabs.nil.addF 29 ctr29).addF 58 ctr58).addF 59 ctr59)
theorem okT16 : TabsOk Try.prog T16 := (((TabsOk.nil.addF ok29).addF ok58).addF ok59)
abbrev G16 : Ctrs := csm T16 (fun _ _ => []) (fun _ => false)
def ann16 : Ann := ⟨43, [(0, ⟨[1], [1], [], [], []⟩), (1, ⟨[1, 26], [1], [], [], []⟩), (2, ⟨[2], [], [], [], []⟩), (3, ⟨[1, 3], [1], [], [], []⟩), (4, ⟨[1, 3, 31], [1], [], [], []⟩), (5, ⟨[1, 3], [1], [], [], []⟩), (6, ⟨[1, 3, 42], [1], [], [], []⟩), (7, ⟨[2], [], [], [], []⟩), (8, ⟨[2], [], [], [], []⟩)],
  [(4, ⟨[1, 3], [1], [], [], []⟩)],
  [(2, ⟨[1, 26], [1], [], [], []⟩), (3, ⟨[1], [1], [], [], []⟩), (7, ⟨[1, 3, 42], [1], [], [], []⟩)],
  [], []⟩
def f16_g0 (s : Sky) (t26v0 : Bool) (s_1v0_n : Nat) (s_1v0_g : Nat → List PV) : St := ⟨[(1, .one (.c (.ptr 1 0))), (26, .one (.c (.p (.bool t26v0))))], [(1, .box 26 [.p (.int .i64 s.Parts), .p (.sl s_1v0_n 1 s_1v0_g), .p (.int .i64 s.Beta.Low), .p (.int .i64 s.Beta.High), .p (.int .i64 s.Alpha.Low), .p (.int .i64 s.Alpha.High)])], []⟩
def f16_at0 (K : List PA → Prop) (s : Sky) (t26v0 : Bool) (s_1v0_n : Nat) (s_1v0_g : Nat → List PV) : Prop := vc Try.prog G16 ann16 (cdF Try.f16 [1, 0, 1]) (sqK Try.prog G16 ann16 (cdF Try.f16 [1, 1]) (bodyK Try.prog Try.f16 K)) (f16_g0 s t26v0 s_1v0_n s_1v0_g)
def f16_g1 (s : Sky) (s_1v1_n : Nat) (s_1v1_g : Nat → List PV) : St := ⟨[(1, .one (.c (.ptr 1 0)))], [(1, .box 26 [.p (.int .i64 s.Parts), .p (.sl s_1v1_n 1 s_1v1_g), .p (.int .i64 s.Beta.Low), .p (.int .i64 s.Beta.High), .p (.int .i64 s.Alpha.Low), .p (.int .i64 s.Alpha.High)])], []⟩
def f16_at1 (K : List PA → Prop) (s : Sky) (s_1v1_n : Nat) (s_1v1_g : Nat → List PV) : Prop := vc Try.prog G16 ann16 (cdF Try.f16 [1, 1]) (bodyK Try.prog Try.f16 K) (f16_g1 s s_1v1_n s_1v1_g)
def f16_g2 (s : Sky) (iv2 : Int) (s_1v2_n : Nat) (s_1v2_g : Nat → List PV) : St := ⟨[(1, .one (.c (.ptr 1 0))), (3, .one (.c (.p (.int .i64 iv2))))], [(1, .box 26 [.p (.int .i64 s.Parts), .p (.sl s_1v2_n 1 s_1v2_g), .p (.int .i64 s.Beta.Low), .p (.int .i64 s.Beta.High), .p (.int .i64 s.Alpha.Low), .p (.int .i64 s.Alpha.High)])], []⟩
def f16_at2 (K : List PA → Prop) (s : Sky) (iv2 : Int) (s_1v2_n : Nat) (s_1v2_g : Nat → List PV) : Prop := vc Try.prog G16 ann16 (cdF Try.f16 [1, 1, 0, 1, 0]) (blockK 0 (sqK Try.prog G16 ann16 (cdF Try.f16 [1, 1, 1]) (bodyK Try.prog Try.f16 K))) (f16_g2 s iv2 s_1v2_n s_1v2_g)
def f16_g3 (s : Sky) (iv3 : Int) (t42v3 : Bool) (s_1v3_n : Nat) (s_1v3_g : Nat → List PV) : St := ⟨[(1, .one (.c (.ptr 1 0))), (3, .one (.c (.p (.int .i64 iv3)))), (42, .one (.c (.p (.bool t42v3))))], [(1, .box 26 [.p (.int .i64 s.Parts), .p (.sl s_1v3_n 1 s_1v3_g), .p (.int .i64 s.Beta.Low), .p (.int .i64 s.Beta.High), .p (.int .i64 s.Alpha.Low), .p (.int .i64 s.Alpha.High)])], []⟩
def f16_at3 (K : List PA → Prop) (X2 : St → Prop) (s : Sky) (iv3 : Int) (t42v3 : Bool) (s_1v3_n : Nat) (s_1v3_g : Nat → List PV) : Prop := vc Try.prog G16 ann16 (cdF Try.f16 [1, 1, 0, 1, 0, 0, 1, 0, 0, 1]) (blockK 1 (sqK Try.prog G16 ann16 (cdF Try.f16 [1, 1, 0, 1, 0, 0, 1, 1]) (loopK Try.prog ann16 4 X2 (blockK 0 (sqK Try.prog G16 ann16 (cdF Try.f16 [1, 1, 1]) (bodyK Try.prog Try.f16 K)))))) (f16_g3 s iv3 t42v3 s_1v3_n s_1v3_g)
theorem f16_top (s : Sky) (K : List PA → Prop) :
  vcFun Try.prog G16 ann16 16 [.agg [.int .i64 s.Parts, .sl s.Bins.len 1 (fun i => enc_32 (s.Bins.get i)), .int .i64 s.Beta.Low, .int .i64 s.Beta.High, .int .i64 s.Alpha.Low, .int .i64 s.Alpha.High]] K =
  (condP (!(s58 s.Parts (2:Int) (1000000:Int)))
   (f16_at0 K s true s.Bins.len (fun i => enc_32 (s.Bins.get i)))
   (condP (!(s58 (s.Bins.len : Int) (1:Int) (20:Int)))
    (f16_at0 K s true s.Bins.len (fun i => enc_32 (s.Bins.get i)))
    (condP (!(s29 s.Beta (-100:Int) (100:Int)))
     (f16_at0 K s true s.Bins.len (fun i => enc_32 (s.Bins.get i)))
     (f16_at0 K s (!(s29 s.Alpha (-100:Int) (100:Int))) s.Bins.len (fun i => enc_32 (s.Bins.get i)))))) := by kernel_rfl
theorem f16_eq0 (K : List PA → Prop) (s : Sky) (t26v0 : Bool) (s_1v0 : (Sl (Sl FluxRow))) :
  f16_at0 K s t26v0 s_1v0.len (fun i => enc_32 (s_1v0.get i)) =
  (condP t26v0
   (K [.one (.bool false)])
   (f16_at1 K s s_1v0.len (fun i => enc_32 (s_1v0.get i)))) := by kernel_rfl
theorem f16_eq1 (K : List PA → Prop) (s : Sky) (s_1v1 : (Sl (Sl FluxRow))) :
  f16_at1 K s s_1v1.len (fun i => enc_32 (s_1v1.get i)) =
  (f16_at2 K s (0:Int) s_1v1.len (fun i => enc_32 (s_1v1.get i))) := by kernel_rfl
def f16_step2 (K : List PA → Prop) (X2 : St → Prop) (s : Sky) (iv2 : Int) (s_1v2 : (Sl (Sl FluxRow))) : Prop :=
  (condP (decide (iv2 < (s_1v2.len : Int)))
   (((0 ≤ iv2 ∧ iv2 < (s_1v2.len : Int))) ∧
   ((IsE enc_44 3 3 (fun i => enc_44 ((s_1v2.get iv2.toNat).get i)) ∧ (p59 s.Parts (s_1v2.get iv2.toNat) = true)) ∧
   (f16_at3 K X2 s iv2 (!(s59 s.Parts (s_1v2.get iv2.toNat))) s_1v2.len (fun i => enc_32 (s_1v2.get i)))))
   (K [.one (.bool true)]))
theorem f16_stepeq2 (K : List PA → Prop) (X2 : St → Prop) (s : Sky) (iv2 : Int) (s_1v2 : (Sl (Sl FluxRow))) :
  vc Try.prog G16 ann16 (cd (cdF Try.f16 [1, 1, 0, 1, 0]) [0]) (loopK Try.prog ann16 4 X2 (blockK 0 (sqK Try.prog G16 ann16 (cdF Try.f16 [1, 1, 1]) (bodyK Try.prog Try.f16 K)))) (f16_g2 s iv2 s_1v2.len (fun i => enc_32 (s_1v2.get i))) =
  f16_step2 K X2 s iv2 s_1v2 := by kernel_rfl
theorem f16_loop2 (K : List PA → Prop) (s : Sky) (iv2 : Int) (s_1v2_n : Nat) (s_1v2_g : Nat → List PV)
  (h : ∀ X2 : St → Prop, (∀ (iv2 : Int) (s_1v2 : (Sl (Sl FluxRow))), f16_step2 K X2 s iv2 s_1v2 → X2 (f16_g2 s iv2 s_1v2.len (fun i => enc_32 (s_1v2.get i)))) → X2 (f16_g2 s iv2 s_1v2_n s_1v2_g)) :
  f16_at2 K s iv2 s_1v2_n s_1v2_g := by
  have e : f16_at2 K s iv2 s_1v2_n s_1v2_g = (∀ X : St → Prop, (∀ s, vc Try.prog G16 ann16 (cd (cdF Try.f16 [1, 1, 0, 1, 0]) [0]) (loopK Try.prog ann16 4 X (blockK 0 (sqK Try.prog G16 ann16 (cdF Try.f16 [1, 1, 1]) (bodyK Try.prog Try.f16 K)))) s → X s) → X (f16_g2 s iv2 s_1v2_n s_1v2_g)) := by kernel_rfl
  refine ofEq e ?_
  intro X hX
  refine h X ?_
  intro iv2 s_1v2 hs
  refine hX _ ?_
  have e2 := f16_stepeq2 K X s iv2 s_1v2
  rw [e2]
  exact hs
theorem f16_eq3 (K : List PA → Prop) (X2 : St → Prop) (s : Sky) (iv3 : Int) (t42v3 : Bool) (s_1v3 : (Sl (Sl FluxRow))) :
  f16_at3 K X2 s iv3 t42v3 s_1v3.len (fun i => enc_32 (s_1v3.get i)) =
  (condP t42v3
   (K [.one (.bool false)])
   (X2 (f16_g2 s (w64 (iv3 + (1:Int))) s_1v3.len (fun i => enc_32 (s_1v3.get i))))) := by kernel_rfl
abbrev R16 := Bool
abbrev e16 (r : Bool) : List PA := [.one (.bool r)]
attribute [irreducible] f16_at0 f16_at1 f16_at2 f16_at3
def s16_at3 (S2 : Int → (Sl (Sl FluxRow)) → Bool) (s : Sky) (iv3 : Int) (t42v3 : Bool) (s_1v3 : (Sl (Sl FluxRow))) : Bool :=
  (cond t42v3
   false
   (S2 (w64 (iv3 + (1:Int))) s_1v3))
def p16_at3 (P2 : Int → (Sl (Sl FluxRow)) → Bool) (s : Sky) (iv3 : Int) (t42v3 : Bool) (s_1v3 : (Sl (Sl FluxRow))) : Bool :=
  (cond t42v3
   true
   (P2 (w64 (iv3 + (1:Int))) s_1v3))
theorem q16_at3 (K : List PA → Prop) (s : Sky)
  (X2 : St → Prop) (P2 : Int → (Sl (Sl FluxRow)) → Bool) (S2 : Int → (Sl (Sl FluxRow)) → Bool)
  (hX2 : ∀ (iv2 : Int) (s_1v2 : (Sl (Sl FluxRow))) (s_1v2_g : Nat → List PV) (s_1v2_h : s_1v2_g = fun i => enc_32 (s_1v2.get i)), P2 iv2 s_1v2 = true → K (e16 (S2 iv2 s_1v2)) → X2 (f16_g2 s iv2 s_1v2.len s_1v2_g)) (iv3 : Int) (t42v3 : Bool) (s_1v3 : (Sl (Sl FluxRow))) (s_1v3_g : Nat → List PV) (s_1v3_h : s_1v3_g = fun i => enc_32 (s_1v3.get i)) (hs : p16_at3 P2 s iv3 t42v3 s_1v3 = true) (hk : K (e16 (s16_at3 S2 s iv3 t42v3 s_1v3))) : f16_at3 K X2 s iv3 t42v3 s_1v3.len s_1v3_g := by
  subst s_1v3_h
  refine ofEq (f16_eq3 K X2 s iv3 t42v3 s_1v3) ?_
  unfold p16_at3 at hs
  unfold s16_at3 at hk
  exact (condB_go (K := fun r => K (e16 r))
   (fun hs hk => hk)
   (fun hs hk => (hX2 (w64 (iv3 + (1:Int))) s_1v3 (fun i => enc_32 (s_1v3.get i)) rfl hs hk)) hs hk)
def s16_st2 (s : Sky) (S2 : Int → (Sl (Sl FluxRow)) → Bool) (iv2 : Int) (s_1v2 : (Sl (Sl FluxRow))) : Bool :=
  (cond (decide (iv2 < (s_1v2.len : Int)))
   (s16_at3 S2 s iv2 (!(s59 s.Parts (s_1v2.get iv2.toNat))) s_1v2)
   true)
def p16_st2 (s : Sky) (P2 : Int → (Sl (Sl FluxRow)) → Bool) (iv2 : Int) (s_1v2 : (Sl (Sl FluxRow))) : Bool :=
  (cond (decide (iv2 < (s_1v2.len : Int)))
   (decide ((0 ≤ iv2 ∧ iv2 < (s_1v2.len : Int))) &&
   (decide ((p59 s.Parts (s_1v2.get iv2.toNat) = true)) &&
   (p16_at3 P2 s iv2 (!(s59 s.Parts (s_1v2.get iv2.toNat))) s_1v2)))
   true)
def s16_lp2 (s : Sky) : Nat → Int → (Sl (Sl FluxRow)) → Bool
  | 0 => fun _ _ => default
  | k + 1 => s16_st2 s (s16_lp2 s k)
def p16_lp2 (s : Sky) : Nat → Int → (Sl (Sl FluxRow)) → Bool
  | 0 => fun _ _ => false
  | k + 1 => p16_st2 s (p16_lp2 s k)
def s16_at2 (s : Sky) (iv2 : Int) (s_1v2 : (Sl (Sl FluxRow))) : Bool := s16_lp2 s Fuel iv2 s_1v2
def p16_at2 (s : Sky) (iv2 : Int) (s_1v2 : (Sl (Sl FluxRow))) : Bool := p16_lp2 s Fuel iv2 s_1v2
theorem q16_at2 (K : List PA → Prop) (s : Sky) (iv2 : Int) (s_1v2 : (Sl (Sl FluxRow))) (s_1v2_g : Nat → List PV) (s_1v2_h : s_1v2_g = fun i => enc_32 (s_1v2.get i)) (hs : p16_at2 s iv2 s_1v2 = true) (hk : K (e16 (s16_at2 s iv2 s_1v2))) : f16_at2 K s iv2 s_1v2.len s_1v2_g := by
  refine f16_loop2 K s iv2 s_1v2.len s_1v2_g ?_
  intro X2 hstep
  have key : ∀ (k : Nat) (iv2 : Int) (s_1v2 : (Sl (Sl FluxRow))) (s_1v2_g : Nat → List PV) (s_1v2_h : s_1v2_g = fun i => enc_32 (s_1v2.get i)), p16_lp2 s k iv2 s_1v2 = true → K (e16 (s16_lp2 s k iv2 s_1v2)) → X2 (f16_g2 s iv2 s_1v2.len s_1v2_g) := by
    intro k
    induction k with
    | zero => intro iv2 s_1v2 s_1v2_g s_1v2_h hs; exact absurd hs Bool.false_ne_true
    | succ k ih =>
      intro iv2 s_1v2 s_1v2_g s_1v2_h hs hk
      subst s_1v2_h
      refine hstep iv2 s_1v2 ?_
      have hs : p16_st2 s (p16_lp2 s k) iv2 s_1v2 = true := hs
      have hk : K (e16 (s16_st2 s (s16_lp2 s k) iv2 s_1v2)) := hk
      unfold p16_st2 at hs
      unfold s16_st2 at hk
      generalize s16_lp2 s k = S2 at hk ih
      generalize p16_lp2 s k = P2 at hs ih
      have hX2 := ih
      exact (condB_go (K := fun r => K (e16 r))
       (fun hs hk => (andK hs fun hc hs => ⟨hc, (andK hs fun hc hs => ⟨⟨isE, hc⟩, (q16_at3 K s X2 P2 S2 hX2 iv2 (!(s59 s.Parts (s_1v2.get iv2.toNat))) s_1v2 (fun i => enc_32 (s_1v2.get i)) rfl hs hk)⟩)⟩))
       (fun hs hk => hk) hs hk)
  exact key _ iv2 s_1v2 s_1v2_g s_1v2_h hs hk
def s16_at1 (s : Sky) (s_1v1 : (Sl (Sl FluxRow))) : Bool :=
  (s16_at2 s (0:Int) s_1v1)
def p16_at1 (s : Sky) (s_1v1 : (Sl (Sl FluxRow))) : Bool :=
  (p16_at2 s (0:Int) s_1v1)
theorem q16_at1 (K : List PA → Prop) (s : Sky) (s_1v1 : (Sl (Sl FluxRow))) (s_1v1_g : Nat → List PV) (s_1v1_h : s_1v1_g = fun i => enc_32 (s_1v1.get i)) (hs : p16_at1 s s_1v1 = true) (hk : K (e16 (s16_at1 s s_1v1))) : f16_at1 K s s_1v1.len s_1v1_g := by
  subst s_1v1_h
  refine ofEq (f16_eq1 K s s_1v1) ?_
  unfold p16_at1 at hs
  unfold s16_at1 at hk
  exact (q16_at2 K s (0:Int) s_1v1 (fun i => enc_32 (s_1v1.get i)) rfl hs hk)
def s16_at0 (s : Sky) (t26v0 : Bool) (s_1v0 : (Sl (Sl FluxRow))) : Bool :=
  (cond t26v0
   false
   (s16_at1 s s_1v0))
def p16_at0 (s : Sky) (t26v0 : Bool) (s_1v0 : (Sl (Sl FluxRow))) : Bool :=
  (cond t26v0
   true
   (p16_at1 s s_1v0))
theorem q16_at0 (K : List PA → Prop) (s : Sky) (t26v0 : Bool) (s_1v0 : (Sl (Sl FluxRow))) (s_1v0_g : Nat → List PV) (s_1v0_h : s_1v0_g = fun i => enc_32 (s_1v0.get i)) (hs : p16_at0 s t26v0 s_1v0 = true) (hk : K (e16 (s16_at0 s t26v0 s_1v0))) : f16_at0 K s t26v0 s_1v0.len s_1v0_g := by
  subst s_1v0_h
  refine ofEq (f16_eq0 K s t26v0 s_1v0) ?_
  unfold p16_at0 at hs
  unfold s16_at0 at hk
  exact (condB_go (K := fun r => K (e16 r))
   (fun hs hk => hk)
   (fun hs hk => (q16_at1 K s s_1v0 (fun i => enc_32 (s_1v0.get i)) rfl hs hk)) hs hk)
def s16 (s : Sky) : Bool :=
  (cond (!(s58 s.Parts (2:Int) (1000000:Int)))
   (s16_at0 s true s.Bins)
   (cond (!(s58 (s.Bins.len : Int) (1:Int) (20:Int)))
    (s16_at0 s true s.Bins)
    (cond (!(s29 s.Beta (-100:Int) (100:Int)))
     (s16_at0 s true s.Bins)
     (s16_at0 s (!(s29 s.Alpha (-100:Int) (100:Int))) s.Bins))))
def p16 (s : Sky) : Bool :=
  (cond (!(s58 s.Parts (2:Int) (1000000:Int)))
   (p16_at0 s true s.Bins)
   (cond (!(s58 (s.Bins.len : Int) (1:Int) (20:Int)))
    (p16_at0 s true s.Bins)
    (cond (!(s29 s.Beta (-100:Int) (100:Int)))
     (p16_at0 s true s.Bins)
     (p16_at0 s (!(s29 s.Alpha (-100:Int) (100:Int))) s.Bins))))
theorem q16 (s : Sky) (K : List PA → Prop) (hs : p16 s = true) (hk : K (e16 (s16 s))) : vcFun Try.prog G16 ann16 16 [.agg [.int .i64 s.Parts, .sl s.Bins.len 1 (fun i => enc_32 (s.Bins.get i)), .int .i64 s.Beta.Low, .int .i64 s.Beta.High, .int .i64 s.Alpha.Low, .int .i64 s.Alpha.High]] K := by
  refine ofEq (f16_top s K) ?_
  unfold p16 at hs
  unfold s16 at hk
  exact (condB_go (K := fun r => K (e16 r))
   (fun hs hk => (q16_at0 K s true s.Bins (fun i => enc_32 (s.Bins.get i)) rfl hs hk))
   (fun hs hk => (condB_go (K := fun r => K (e16 r))
    (fun hs hk => (q16_at0 K s true s.Bins (fun i => enc_32 (s.Bins.get i)) rfl hs hk))
    (fun hs hk => (condB_go (K := fun r => K (e16 r))
     (fun hs hk => (q16_at0 K s true s.Bins (fun i => enc_32 (s.Bins.get i)) rfl hs hk))
     (fun hs hk => (q16_at0 K s (!(s29 s.Alpha (-100:Int) (100:Int))) s.Bins (fun i => enc_32 (s.Bins.get i)) rfl hs hk)) hs hk)) hs hk)) hs hk)
def ctr16 : List PA → COut
  | [.agg [.int .i64 a0_Parts, .sl a0_Bins_n a0_Bins_s a0_Bins_g, .int .i64 a0_Beta_Low, .int .i64 a0_Beta_High, .int .i64 a0_Alpha_Low, .int .i64 a0_Alpha_High]] => .det (IsE enc_32 1 a0_Bins_s a0_Bins_g ∧ p16 (⟨a0_Parts, (⟨a0_Bins_n, decF_32 a0_Bins_g⟩ : (Sl (Sl FluxRow))), (⟨a0_Beta_Low, a0_Beta_High⟩ : Span), (⟨a0_Alpha_Low, a0_Alpha_High⟩ : Span)⟩ : Sky) = true) [.one (.bool (s16 (⟨a0_Parts, (⟨a0_Bins_n, decF_32 a0_Bins_g⟩ : (Sl (Sl FluxRow))), (⟨a0_Beta_Low, a0_Beta_High⟩ : Span), (⟨a0_Alpha_Low, a0_Alpha_High⟩ : Span)⟩ : Sky)))]
  | _ => .no
theorem call16 : Callable Try.prog 16 := ⟨_, rfl, rfl, by kernel_rfl⟩
theorem ok16 : Ok Try.prog 16 ctr16 := ok_tab okT16 call16 fun args K h => by
  unfold ctr16 at h
  split at h
  · rename_i a0_Parts a0_Bins_n a0_Bins_s a0_Bins_g a0_Beta_Low a0_Beta_High a0_Alpha_Low a0_Alpha_High
    obtain ⟨⟨⟨rfl, a0_Bins_f, rfl⟩, hs⟩, hk⟩ := h
    try rw [decF_enc_32 a0_Bins_f] at hs
    try rw [decF_enc_32 a0_Bins_f] at hk
    exact ⟨(fun _ _ => []), (fun _ => false), ann16, q16 (⟨a0_Parts, (⟨a0_Bins_n, a0_Bins_f⟩ : (Sl (Sl FluxRow))), (⟨a0_Beta_Low, a0_Beta_High⟩ : Span), (⟨a0_Alpha_Low, a0_Alpha_High⟩ : Span)⟩ : Sky) K hs hk⟩
  · exact h.elim
abbrev T17 : Tabs := ((Tabs.nil.addF 29 ctr29).addF 58 ctr58)
theorem okT17 : TabsOk Try.prog T17 := ((TabsOk.nil.addF ok29).addF ok58)
abbrev G17 : Ctrs := csm T17 (fun _ _ => []) (fun _ => false)
def ann17 : Ann := ⟨69, [(0, ⟨[0], [], [], [], []⟩), (1, ⟨[0, 3], [], [], [], []⟩), (2, ⟨[0, 3, 8], [], [], [], []⟩), (3, ⟨[0, 3], [], [], [], []⟩), (4, ⟨[0, 3, 4], [4], [], [], []⟩), (5, ⟨[0, 3, 65], [], [], [], []⟩), (6, ⟨[2], [], [], [], []⟩), (7, ⟨[2], [], [], [], []⟩)],
  [(2, ⟨[0, 3], [], [], [], []⟩)],
  [(6, ⟨[0, 3, 65], [], [], [], []⟩)],
  [], []⟩
def f17_g0 (t : (Sl RangeRow)) (iv0 : Int) : St := ⟨[(0, .one (.c (.p (.sl t.len 3 (fun i => enc_42 (t.get i)))))), (3, .one (.c (.p (.int .i64 iv0))))], [], []⟩
def f17_at0 (K : List PA → Prop) (t : (Sl RangeRow)) (iv0 : Int) : Prop := vc Try.prog G17 ann17 (cdF Try.f17 [1, 0, 1, 0]) (blockK 0 (sqK Try.prog G17 ann17 (cdF Try.f17 [1, 1]) (bodyK Try.prog Try.f17 K))) (f17_g0 t iv0)
def f17_g1 (t : (Sl RangeRow)) (iv1 : Int) (t65v1 : Bool) : St := ⟨[(0, .one (.c (.p (.sl t.len 3 (fun i => enc_42 (t.get i)))))), (3, .one (.c (.p (.int .i64 iv1)))), (65, .one (.c (.p (.bool t65v1))))], [], []⟩
def f17_at1 (K : List PA → Prop) (X0 : St → Prop) (t : (Sl RangeRow)) (iv1 : Int) (t65v1 : Bool) : Prop := vc Try.prog G17 ann17 (cdF Try.f17 [1, 0, 1, 0, 0, 1, 0, 0, 1, 1]) (blockK 1 (sqK Try.prog G17 ann17 (cdF Try.f17 [1, 0, 1, 0, 0, 1, 1]) (loopK Try.prog ann17 2 X0 (blockK 0 (sqK Try.prog G17 ann17 (cdF Try.f17 [1, 1]) (bodyK Try.prog Try.f17 K)))))) (f17_g1 t iv1 t65v1)
theorem f17_top (t : (Sl RangeRow)) (K : List PA → Prop) :
  vcFun Try.prog G17 ann17 17 [.one (.sl t.len 3 (fun i => enc_42 (t.get i)))] K =
  (f17_at0 K t (0:Int)) := by kernel_rfl
def f17_step0 (K : List PA → Prop) (X0 : St → Prop) (t : (Sl RangeRow)) (iv0 : Int) : Prop :=
  (condP (decide (iv0 < (t.len : Int)))
   (((0 ≤ iv0 ∧ iv0 < (t.len : Int))) ∧
   (condP (!(s58 ((t.get iv0.toNat).Energy) (1:Int) (1000000:Int)))
    (f17_at1 K X0 t iv0 true)
    (condP (!(s29 ((t.get iv0.toNat).Range) (0:Int) (1000000:Int)))
     (f17_at1 K X0 t iv0 true)
     (condP (decide (iv0 > (0:Int)))
      (((0 ≤ (w64 (iv0 - (1:Int))) ∧ (w64 (iv0 - (1:Int))) < (t.len : Int))) ∧
      (condP (decide ((t.get iv0.toNat).Energy ≤ (t.get ((w64 (iv0 - (1:Int))).toNat)).Energy))
       (f17_at1 K X0 t iv0 true)
       (((0 ≤ (w64 (iv0 - (1:Int))) ∧ (w64 (iv0 - (1:Int))) < (t.len : Int))) ∧
       (condP (decide ((t.get iv0.toNat).Range.Low < (t.get ((w64 (iv0 - (1:Int))).toNat)).Range.Low))
        (f17_at1 K X0 t iv0 true)
        (((0 ≤ (w64 (iv0 - (1:Int))) ∧ (w64 (iv0 - (1:Int))) < (t.len : Int))) ∧
        (f17_at1 K X0 t iv0 (decide ((t.get iv0.toNat).Range.High < (t.get ((w64 (iv0 - (1:Int))).toNat)).Range.High))))))))
      (f17_at1 K X0 t iv0 false)))))
   (K [.one (.bool (s58 (t.len : Int) (1:Int) (40:Int)))]))
theorem f17_stepeq0 (K : List PA → Prop) (X0 : St → Prop) (t : (Sl RangeRow)) (iv0 : Int) :
  vc Try.prog G17 ann17 (cd (cdF Try.f17 [1, 0, 1, 0]) [0]) (loopK Try.prog ann17 2 X0 (blockK 0 (sqK Try.prog G17 ann17 (cdF Try.f17 [1, 1]) (bodyK Try.prog Try.f17 K)))) (f17_g0 t iv0) =
  f17_step0 K X0 t iv0 := by kernel_rfl
theorem f17_loop0 (K : List PA → Prop) (t : (Sl RangeRow)) (iv0 : Int)
  (h : ∀ X0 : St → Prop, (∀ (iv0 : Int), f17_step0 K X0 t iv0 → X0 (f17_g0 t iv0)) → X0 (f17_g0 t iv0)) :
  f17_at0 K t iv0 := by
  have e : f17_at0 K t iv0 = (∀ X : St → Prop, (∀ s, vc Try.prog G17 ann17 (cd (cdF Try.f17 [1, 0, 1, 0]) [0]) (loopK Try.prog ann17 2 X (blockK 0 (sqK Try.prog G17 ann17 (cdF Try.f17 [1, 1]) (bodyK Try.prog Try.f17 K)))) s → X s) → X (f17_g0 t iv0)) := by kernel_rfl
  refine ofEq e ?_
  intro X hX
  refine h X ?_
  intro iv0 hs
  refine hX _ ?_
  have e2 := f17_stepeq0 K X t iv0
  rw [e2]
  exact hs
theorem f17_eq1 (K : List PA → Prop) (X0 : St → Prop) (t : (Sl RangeRow)) (iv1 : Int) (t65v1 : Bool) :
  f17_at1 K X0 t iv1 t65v1 =
  (condP t65v1
   (K [.one (.bool false)])
   (X0 (f17_g0 t (w64 (iv1 + (1:Int)))))) := by kernel_rfl
abbrev R17 := Bool
abbrev e17 (r : Bool) : List PA := [.one (.bool r)]
attribute [irreducible] f17_at0 f17_at1
def s17_at1 (S0 : Int → Bool) (t : (Sl RangeRow)) (iv1 : Int) (t65v1 : Bool) : Bool :=
  (cond t65v1
   false
   (S0 (w64 (iv1 + (1:Int)))))
def p17_at1 (P0 : Int → Bool) (t : (Sl RangeRow)) (iv1 : Int) (t65v1 : Bool) : Bool :=
  (cond t65v1
   true
   (P0 (w64 (iv1 + (1:Int)))))
theorem q17_at1 (K : List PA → Prop) (t : (Sl RangeRow))
  (X0 : St → Prop) (P0 : Int → Bool) (S0 : Int → Bool)
  (hX0 : ∀ (iv0 : Int), P0 iv0 = true → K (e17 (S0 iv0)) → X0 (f17_g0 t iv0)) (iv1 : Int) (t65v1 : Bool) (hs : p17_at1 P0 t iv1 t65v1 = true) (hk : K (e17 (s17_at1 S0 t iv1 t65v1))) : f17_at1 K X0 t iv1 t65v1 := by
  refine ofEq (f17_eq1 K X0 t iv1 t65v1) ?_
  unfold p17_at1 at hs
  unfold s17_at1 at hk
  exact (condB_go (K := fun r => K (e17 r))
   (fun hs hk => hk)
   (fun hs hk => (hX0 (w64 (iv1 + (1:Int))) hs hk)) hs hk)
def s17_st0 (t : (Sl RangeRow)) (S0 : Int → Bool) (iv0 : Int) : Bool :=
  (cond (decide (iv0 < (t.len : Int)))
   (cond (!(s58 ((t.get iv0.toNat).Energy) (1:Int) (1000000:Int)))
    (s17_at1 S0 t iv0 true)
    (cond (!(s29 ((t.get iv0.toNat).Range) (0:Int) (1000000:Int)))
     (s17_at1 S0 t iv0 true)
     (cond (decide (iv0 > (0:Int)))
      (cond (decide ((t.get iv0.toNat).Energy ≤ (t.get ((w64 (iv0 - (1:Int))).toNat)).Energy))
       (s17_at1 S0 t iv0 true)
       (cond (decide ((t.get iv0.toNat).Range.Low < (t.get ((w64 (iv0 - (1:Int))).toNat)).Range.Low))
        (s17_at1 S0 t iv0 true)
        (s17_at1 S0 t iv0 (decide ((t.get iv0.toNat).Range.High < (t.get ((w64 (iv0 - (1:Int))).toNat)).Range.High)))))
      (s17_at1 S0 t iv0 false))))
   (s58 (t.len : Int) (1:Int) (40:Int)))
def p17_st0 (t : (Sl RangeRow)) (P0 : Int → Bool) (iv0 : Int) : Bool :=
  (cond (decide (iv0 < (t.len : Int)))
   (decide ((0 ≤ iv0 ∧ iv0 < (t.len : Int))) &&
   (cond (!(s58 ((t.get iv0.toNat).Energy) (1:Int) (1000000:Int)))
    (p17_at1 P0 t iv0 true)
    (cond (!(s29 ((t.get iv0.toNat).Range) (0:Int) (1000000:Int)))
     (p17_at1 P0 t iv0 true)
     (cond (decide (iv0 > (0:Int)))
      (decide ((0 ≤ (w64 (iv0 - (1:Int))) ∧ (w64 (iv0 - (1:Int))) < (t.len : Int))) &&
      (cond (decide ((t.get iv0.toNat).Energy ≤ (t.get ((w64 (iv0 - (1:Int))).toNat)).Energy))
       (p17_at1 P0 t iv0 true)
       (decide ((0 ≤ (w64 (iv0 - (1:Int))) ∧ (w64 (iv0 - (1:Int))) < (t.len : Int))) &&
       (cond (decide ((t.get iv0.toNat).Range.Low < (t.get ((w64 (iv0 - (1:Int))).toNat)).Range.Low))
        (p17_at1 P0 t iv0 true)
        (decide ((0 ≤ (w64 (iv0 - (1:Int))) ∧ (w64 (iv0 - (1:Int))) < (t.len : Int))) &&
        (p17_at1 P0 t iv0 (decide ((t.get iv0.toNat).Range.High < (t.get ((w64 (iv0 - (1:Int))).toNat)).Range.High))))))))
      (p17_at1 P0 t iv0 false)))))
   true)
def s17_lp0 (t : (Sl RangeRow)) : Nat → Int → Bool
  | 0 => fun _ => default
  | k + 1 => s17_st0 t (s17_lp0 t k)
def p17_lp0 (t : (Sl RangeRow)) : Nat → Int → Bool
  | 0 => fun _ => false
  | k + 1 => p17_st0 t (p17_lp0 t k)
def s17_at0 (t : (Sl RangeRow)) (iv0 : Int) : Bool := s17_lp0 t Fuel iv0
def p17_at0 (t : (Sl RangeRow)) (iv0 : Int) : Bool := p17_lp0 t Fuel iv0
theorem q17_at0 (K : List PA → Prop) (t : (Sl RangeRow)) (iv0 : Int) (hs : p17_at0 t iv0 = true) (hk : K (e17 (s17_at0 t iv0))) : f17_at0 K t iv0 := by
  refine f17_loop0 K t iv0 ?_
  intro X0 hstep
  have key : ∀ (k : Nat) (iv0 : Int), p17_lp0 t k iv0 = true → K (e17 (s17_lp0 t k iv0)) → X0 (f17_g0 t iv0) := by
    intro k
    induction k with
    | zero => intro iv0 hs; exact absurd hs Bool.false_ne_true
    | succ k ih =>
      intro iv0 hs hk
      refine hstep iv0 ?_
      have hs : p17_st0 t (p17_lp0 t k) iv0 = true := hs
      have hk : K (e17 (s17_st0 t (s17_lp0 t k) iv0)) := hk
      unfold p17_st0 at hs
      unfold s17_st0 at hk
      generalize s17_lp0 t k = S0 at hk ih
      generalize p17_lp0 t k = P0 at hs ih
      have hX0 := ih
      exact (condB_go (K := fun r => K (e17 r))
       (fun hs hk => (andK hs fun hc hs => ⟨hc, (condB_go (K := fun r => K (e17 r))
        (fun hs hk => (q17_at1 K t X0 P0 S0 hX0 iv0 true hs hk))
        (fun hs hk => (condB_go (K := fun r => K (e17 r))
         (fun hs hk => (q17_at1 K t X0 P0 S0 hX0 iv0 true hs hk))
         (fun hs hk => (condB_go (K := fun r => K (e17 r))
          (fun hs hk => (andK hs fun hc hs => ⟨hc, (condB_go (K := fun r => K (e17 r))
           (fun hs hk => (q17_at1 K t X0 P0 S0 hX0 iv0 true hs hk))
           (fun hs hk => (andK hs fun hc hs => ⟨hc, (condB_go (K := fun r => K (e17 r))
            (fun hs hk => (q17_at1 K t X0 P0 S0 hX0 iv0 true hs hk))
            (fun hs hk => (andK hs fun hc hs => ⟨hc, (q17_at1 K t X0 P0 S0 hX0 iv0 (decide ((t.get iv0.toNat).Range.High < (t.get ((w64 (iv0 - (1:Int))).toNat)).Range.High)) hs hk)⟩)) hs hk)⟩)) hs hk)⟩))
          (fun hs hk => (q17_at1 K t X0 P0 S0 hX0 iv0 false hs hk)) hs hk)) hs hk)) hs hk)⟩))
       (fun hs hk => hk) hs hk)
  exact key _ iv0 hs hk
def s17 (t : (Sl RangeRow)) : Bool :=
  (s17_at0 t (0:Int))
def p17 (t : (Sl RangeRow)) : Bool :=
  (p17_at0 t (0:Int))
theorem q17 (t : (Sl RangeRow)) (K : List PA → Prop) (hs : p17 t = true) (hk : K (e17 (s17 t))) : vcFun Try.prog G17 ann17 17 [.one (.sl t.len 3 (fun i => enc_42 (t.get i)))] K := by
  refine ofEq (f17_top t K) ?_
  unfold p17 at hs
  unfold s17 at hk
  exact (q17_at0 K t (0:Int) hs hk)
def ctr17 : List PA → COut
  | [.one (.sl a0_n a0_s a0_g)] => .det (IsE enc_42 3 a0_s a0_g ∧ p17 (⟨a0_n, decF_42 a0_g⟩ : (Sl RangeRow)) = true) [.one (.bool (s17 (⟨a0_n, decF_42 a0_g⟩ : (Sl RangeRow))))]
  | _ => .no
theorem call17 : Callable Try.prog 17 := ⟨_, rfl, rfl, by kernel_rfl⟩
theorem ok17 : Ok Try.prog 17 ctr17 := ok_tab okT17 call17 fun args K h => by
  unfold ctr17 at h
  split at h
  · rename_i a0_n a0_s a0_g
    obtain ⟨⟨⟨rfl, a0_f, rfl⟩, hs⟩, hk⟩ := h
    try rw [decF_enc_42 a0_f] at hs
    try rw [decF_enc_42 a0_f] at hk
    exact ⟨(fun _ _ => []), (fun _ => false), ann17, q17 (⟨a0_n, a0_f⟩ : (Sl RangeRow)) K hs hk⟩
  · exact h.elim
end Go.Proofs
namespace Go.Proofs
open Go Go.Pm
set_option maxRecDepth 100000
set_option linter.unusedVariables false
attribute [local irreducible] Go.Pm.vcFun Go.Pm.vc Go.Pm.vcIter
abbrev T39 : Tabs := Tabs.nil
theorem okT39 : TabsOk Try.prog T39 := TabsOk.nil
abbrev G39 : Ctrs := csm T39 (fun _ _ => []) (fun _ => false)
def ann39 : Ann := ⟨82, [(0, ⟨[2, 3], [2, 3], [], [], []⟩), (1, ⟨[2, 3, 34], [2, 3], [], [], []⟩), (2, ⟨[4], [], [], [], []⟩), (3, ⟨[2, 3, 5], [2, 3], [], [], []⟩), (4, ⟨[2, 3, 5, 39], [2, 3], [], [], []⟩), (5, ⟨[2, 3, 5], [2, 3], [], [], []⟩), (6, ⟨[2, 3, 5, 54], [2, 3], [], [], []⟩), (7, ⟨[4], [], [], [], []⟩), (8, ⟨[2, 3, 5, 6], [2, 3], [], [], []⟩), (9, ⟨[2, 3, 5, 6, 62], [2, 3], [], [], []⟩), (10, ⟨[2, 3, 5, 6], [2, 3], [], [], []⟩), (11, ⟨[2, 3, 5, 6, 81], [2, 3], [], [], []⟩), (12, ⟨[4], [], [], [], []⟩), (13, ⟨[4], [], [], [], []⟩)],
  [(4, ⟨[2, 3, 5], [2, 3], [], [], []⟩), (9, ⟨[2, 3, 5, 6], [2, 3], [], [], []⟩)],
  [(3, ⟨[2, 3], [2, 3], [], [], []⟩), (8, ⟨[2, 3, 5], [2, 3], [], [], []⟩)],
  [], []⟩
def f39_g0 (a : Sky) (b : Sky) : St := ⟨[(2, .one (.c (.ptr 2 0))), (3, .one (.c (.ptr 3 0)))], [(2, .box 26 [.p (.int .i64 a.Parts), .p (.sl a.Bins.len 1 (fun i => enc_32 (a.Bins.get i))), .p (.int .i64 a.Beta.Low), .p (.int .i64 a.Beta.High), .p (.int .i64 a.Alpha.Low), .p (.int .i64 a.Alpha.High)]), (3, .box 26 [.p (.int .i64 b.Parts), .p (.sl b.Bins.len 1 (fun i => enc_32 (b.Bins.get i))), .p (.int .i64 b.Beta.Low), .p (.int .i64 b.Beta.High), .p (.int .i64 b.Alpha.Low), .p (.int .i64 b.Alpha.High)])], []⟩
def f39_at0 (K : List PA → Prop) (a : Sky) (b : Sky) : Prop := vc Try.prog G39 ann39 (cdF Try.f39 [1, 1]) (bodyK Try.prog Try.f39 K) (f39_g0 a b)
def f39_g1 (a : Sky) (b : Sky) (iv1 : Int) : St := ⟨[(2, .one (.c (.ptr 2 0))), (3, .one (.c (.ptr 3 0))), (5, .one (.c (.p (.int .i64 iv1))))], [(2, .box 26 [.p (.int .i64 a.Parts), .p (.sl a.Bins.len 1 (fun i => enc_32 (a.Bins.get i))), .p (.int .i64 a.Beta.Low), .p (.int .i64 a.Beta.High), .p (.int .i64 a.Alpha.Low), .p (.int .i64 a.Alpha.High)]), (3, .box 26 [.p (.int .i64 b.Parts), .p (.sl b.Bins.len 1 (fun i => enc_32 (b.Bins.get i))), .p (.int .i64 b.Beta.Low), .p (.int .i64 b.Beta.High), .p (.int .i64 b.Alpha.Low), .p (.int .i64 b.Alpha.High)])], []⟩
def f39_at1 (K : List PA → Prop) (a : Sky) (b : Sky) (iv1 : Int) : Prop := vc Try.prog G39 ann39 (cdF Try.f39 [1, 1, 0, 1, 0]) (blockK 0 (sqK Try.prog G39 ann39 (cdF Try.f39 [1, 1, 1]) (bodyK Try.prog Try.f39 K))) (f39_g1 a b iv1)
def f39_g2 (a : Sky) (b : Sky) (iv2 : Int) : St := ⟨[(2, .one (.c (.ptr 2 0))), (3, .one (.c (.ptr 3 0))), (5, .one (.c (.p (.int .i64 iv2))))], [(2, .box 26 [.p (.int .i64 a.Parts), .p (.sl a.Bins.len 1 (fun i => enc_32 (a.Bins.get i))), .p (.int .i64 a.Beta.Low), .p (.int .i64 a.Beta.High), .p (.int .i64 a.Alpha.Low), .p (.int .i64 a.Alpha.High)]), (3, .box 26 [.p (.int .i64 b.Parts), .p (.sl b.Bins.len 1 (fun i => enc_32 (b.Bins.get i))), .p (.int .i64 b.Beta.Low), .p (.int .i64 b.Beta.High), .p (.int .i64 b.Alpha.Low), .p (.int .i64 b.Alpha.High)])], []⟩
def f39_at2 (K : List PA → Prop) (X1 : St → Prop) (a : Sky) (b : Sky) (iv2 : Int) : Prop := vc Try.prog G39 ann39 (cdF Try.f39 [1, 1, 0, 1, 0, 0, 1, 0, 0, 1]) (blockK 1 (sqK Try.prog G39 ann39 (cdF Try.f39 [1, 1, 0, 1, 0, 0, 1, 1]) (loopK Try.prog ann39 4 X1 (blockK 0 (sqK Try.prog G39 ann39 (cdF Try.f39 [1, 1, 1]) (bodyK Try.prog Try.f39 K)))))) (f39_g2 a b iv2)
def f39_g3 (a : Sky) (b : Sky) (iv3 : Int) (kv3 : Int) : St := ⟨[(2, .one (.c (.ptr 2 0))), (3, .one (.c (.ptr 3 0))), (5, .one (.c (.p (.int .i64 iv3)))), (6, .one (.c (.p (.int .i64 kv3))))], [(2, .box 26 [.p (.int .i64 a.Parts), .p (.sl a.Bins.len 1 (fun i => enc_32 (a.Bins.get i))), .p (.int .i64 a.Beta.Low), .p (.int .i64 a.Beta.High), .p (.int .i64 a.Alpha.Low), .p (.int .i64 a.Alpha.High)]), (3, .box 26 [.p (.int .i64 b.Parts), .p (.sl b.Bins.len 1 (fun i => enc_32 (b.Bins.get i))), .p (.int .i64 b.Beta.Low), .p (.int .i64 b.Beta.High), .p (.int .i64 b.Alpha.Low), .p (.int .i64 b.Alpha.High)])], []⟩
def f39_at3 (K : List PA → Prop) (X1 : St → Prop) (a : Sky) (b : Sky) (iv3 : Int) (kv3 : Int) : Prop := vc Try.prog G39 ann39 (cdF Try.f39 [1, 1, 0, 1, 0, 0, 1, 0, 0, 1, 1, 0]) (blockK 2 (blockK 1 (sqK Try.prog G39 ann39 (cdF Try.f39 [1, 1, 0, 1, 0, 0, 1, 1]) (loopK Try.prog ann39 4 X1 (blockK 0 (sqK Try.prog G39 ann39 (cdF Try.f39 [1, 1, 1]) (bodyK Try.prog Try.f39 K))))))) (f39_g3 a b iv3 kv3)
theorem f39_top (a : Sky) (b : Sky) (K : List PA → Prop) :
  vcFun Try.prog G39 ann39 39 [.agg [.int .i64 a.Parts, .sl a.Bins.len 1 (fun i => enc_32 (a.Bins.get i)), .int .i64 a.Beta.Low, .int .i64 a.Beta.High, .int .i64 a.Alpha.Low, .int .i64 a.Alpha.High], .agg [.int .i64 b.Parts, .sl b.Bins.len 1 (fun i => enc_32 (b.Bins.get i)), .int .i64 b.Beta.Low, .int .i64 b.Beta.High, .int .i64 b.Alpha.Low, .int .i64 b.Alpha.High]] K =
  (condP (a.Parts != b.Parts)
   (K [.one (.bool false)])
   (condP (!(match (a.Beta.Low == b.Beta.Low) with | true => (match (a.Beta.High == b.Beta.High) with | true => true | false => false) | false => false))
    (K [.one (.bool false)])
    (condP (!(match (a.Alpha.Low == b.Alpha.Low) with | true => (match (a.Alpha.High == b.Alpha.High) with | true => true | false => false) | false => false))
     (K [.one (.bool false)])
     (condP ((a.Bins.len : Int) != (b.Bins.len : Int))
      (K [.one (.bool false)])
      (f39_at0 K a b))))) := by kernel_rfl
theorem f39_eq0 (K : List PA → Prop) (a : Sky) (b : Sky) :
  f39_at0 K a b =
  (f39_at1 K a b (0:Int)) := by kernel_rfl
def f39_step1 (K : List PA → Prop) (X1 : St → Prop) (a : Sky) (b : Sky) (iv1 : Int) : Prop :=
  (condP (decide (iv1 < (a.Bins.len : Int)))
   (((0 ≤ iv1 ∧ iv1 < (a.Bins.len : Int))) ∧
   (((0 ≤ iv1 ∧ iv1 < (b.Bins.len : Int))) ∧
   (condP (((a.Bins.get iv1.toNat).len : Int) != ((b.Bins.get iv1.toNat).len : Int))
    (K [.one (.bool false)])
    (f39_at2 K X1 a b iv1))))
   (K [.one (.bool true)]))
theorem f39_stepeq1 (K : List PA → Prop) (X1 : St → Prop) (a : Sky) (b : Sky) (iv1 : Int) :
  vc Try.prog G39 ann39 (cd (cdF Try.f39 [1, 1, 0, 1, 0]) [0]) (loopK Try.prog ann39 4 X1 (blockK 0 (sqK Try.prog G39 ann39 (cdF Try.f39 [1, 1, 1]) (bodyK Try.prog Try.f39 K)))) (f39_g1 a b iv1) =
  f39_step1 K X1 a b iv1 := by kernel_rfl
theorem f39_loop1 (K : List PA → Prop) (a : Sky) (b : Sky) (iv1 : Int)
  (h : ∀ X1 : St → Prop, (∀ (iv1 : Int), f39_step1 K X1 a b iv1 → X1 (f39_g1 a b iv1)) → X1 (f39_g1 a b iv1)) :
  f39_at1 K a b iv1 := by
  have e : f39_at1 K a b iv1 = (∀ X : St → Prop, (∀ s, vc Try.prog G39 ann39 (cd (cdF Try.f39 [1, 1, 0, 1, 0]) [0]) (loopK Try.prog ann39 4 X (blockK 0 (sqK Try.prog G39 ann39 (cdF Try.f39 [1, 1, 1]) (bodyK Try.prog Try.f39 K)))) s → X s) → X (f39_g1 a b iv1)) := by kernel_rfl
  refine ofEq e ?_
  intro X hX
  refine h X ?_
  intro iv1 hs
  refine hX _ ?_
  have e2 := f39_stepeq1 K X a b iv1
  rw [e2]
  exact hs
theorem f39_eq2 (K : List PA → Prop) (X1 : St → Prop) (a : Sky) (b : Sky) (iv2 : Int) :
  f39_at2 K X1 a b iv2 =
  (f39_at3 K X1 a b iv2 (0:Int)) := by kernel_rfl
def f39_step3 (K : List PA → Prop) (X1 : St → Prop) (X3 : St → Prop) (a : Sky) (b : Sky) (iv3 : Int) (kv3 : Int) : Prop :=
  (((0 ≤ iv3 ∧ iv3 < (a.Bins.len : Int))) ∧
  (condP (decide (kv3 < ((a.Bins.get iv3.toNat).len : Int)))
   (((0 ≤ iv3 ∧ iv3 < (a.Bins.len : Int))) ∧
   (((0 ≤ kv3 ∧ kv3 < ((a.Bins.get iv3.toNat).len : Int))) ∧
   (((0 ≤ iv3 ∧ iv3 < (b.Bins.len : Int))) ∧
   (((0 ≤ kv3 ∧ kv3 < ((b.Bins.get iv3.toNat).len : Int))) ∧
   (condP (!(match (((a.Bins.get iv3.toNat).get kv3.toNat).Energy == ((b.Bins.get iv3.toNat).get kv3.toNat).Energy) with | true => (match (match (((a.Bins.get iv3.toNat).get kv3.toNat).Rate.Low == ((b.Bins.get iv3.toNat).get kv3.toNat).Rate.Low) with | true => (match (((a.Bins.get iv3.toNat).get kv3.toNat).Rate.High == ((b.Bins.get iv3.toNat).get kv3.toNat).Rate.High) with | true => true | false => false) | false => false) with | true => true | false => false) | false => false))
    (K [.one (.bool false)])
    (X3 (f39_g3 a b iv3 (w64 (kv3 + (1:Int))))))))))
   (X1 (f39_g1 a b (w64 (iv3 + (1:Int)))))))
theorem f39_stepeq3 (K : List PA → Prop) (X1 : St → Prop) (X3 : St → Prop) (a : Sky) (b : Sky) (iv3 : Int) (kv3 : Int) :
  vc Try.prog G39 ann39 (cd (cdF Try.f39 [1, 1, 0, 1, 0, 0, 1, 0, 0, 1, 1, 0]) [0]) (loopK Try.prog ann39 9 X3 (blockK 2 (blockK 1 (sqK Try.prog G39 ann39 (cdF Try.f39 [1, 1, 0, 1, 0, 0, 1, 1]) (loopK Try.prog ann39 4 X1 (blockK 0 (sqK Try.prog G39 ann39 (cdF Try.f39 [1, 1, 1]) (bodyK Try.prog Try.f39 K)))))))) (f39_g3 a b iv3 kv3) =
  f39_step3 K X1 X3 a b iv3 kv3 := by kernel_rfl
theorem f39_loop3 (K : List PA → Prop) (X1 : St → Prop) (a : Sky) (b : Sky) (iv3 : Int) (kv3 : Int)
  (h : ∀ X3 : St → Prop, (∀ (iv3 : Int) (kv3 : Int), f39_step3 K X1 X3 a b iv3 kv3 → X3 (f39_g3 a b iv3 kv3)) → X3 (f39_g3 a b iv3 kv3)) :
  f39_at3 K X1 a b iv3 kv3 := by
  have e : f39_at3 K X1 a b iv3 kv3 = (∀ X : St → Prop, (∀ s, vc Try.prog G39 ann39 (cd (cdF Try.f39 [1, 1, 0, 1, 0, 0, 1, 0, 0, 1, 1, 0]) [0]) (loopK Try.prog ann39 9 X (blockK 2 (blockK 1 (sqK Try.prog G39 ann39 (cdF Try.f39 [1, 1, 0, 1, 0, 0, 1, 1]) (loopK Try.prog ann39 4 X1 (blockK 0 (sqK Try.prog G39 ann39 (cdF Try.f39 [1, 1, 1]) (bodyK Try.prog Try.f39 K)))))))) s → X s) → X (f39_g3 a b iv3 kv3)) := by kernel_rfl
  refine ofEq e ?_
  intro X hX
  refine h X ?_
  intro iv3 kv3 hs
  refine hX _ ?_
  have e2 := f39_stepeq3 K X1 X a b iv3 kv3
  rw [e2]
  exact hs
abbrev R39 := Bool
abbrev e39 (r : Bool) : List PA := [.one (.bool r)]
attribute [irreducible] f39_at0 f39_at1 f39_at2 f39_at3
def s39_st3 (S1 : Int → Bool) (a : Sky) (b : Sky) (S3 : Int → Int → Bool) (iv3 : Int) (kv3 : Int) : Bool :=
  (cond (decide (kv3 < ((a.Bins.get iv3.toNat).len : Int)))
   (cond (!(match (((a.Bins.get iv3.toNat).get kv3.toNat).Energy == ((b.Bins.get iv3.toNat).get kv3.toNat).Energy) with | true => (match (match (((a.Bins.get iv3.toNat).get kv3.toNat).Rate.Low == ((b.Bins.get iv3.toNat).get kv3.toNat).Rate.Low) with | true => (match (((a.Bins.get iv3.toNat).get kv3.toNat).Rate.High == ((b.Bins.get iv3.toNat).get kv3.toNat).Rate.High) with | true => true | false => false) | false => false) with | true => true | false => false) | false => false))
    false
    (S3 iv3 (w64 (kv3 + (1:Int)))))
   (S1 (w64 (iv3 + (1:Int)))))
def p39_st3 (P1 : Int → Bool) (a : Sky) (b : Sky) (P3 : Int → Int → Bool) (iv3 : Int) (kv3 : Int) : Bool :=
  (decide ((0 ≤ iv3 ∧ iv3 < (a.Bins.len : Int))) &&
  (cond (decide (kv3 < ((a.Bins.get iv3.toNat).len : Int)))
   (decide ((0 ≤ iv3 ∧ iv3 < (a.Bins.len : Int))) &&
   (decide ((0 ≤ kv3 ∧ kv3 < ((a.Bins.get iv3.toNat).len : Int))) &&
   (decide ((0 ≤ iv3 ∧ iv3 < (b.Bins.len : Int))) &&
   (decide ((0 ≤ kv3 ∧ kv3 < ((b.Bins.get iv3.toNat).len : Int))) &&
   (cond (!(match (((a.Bins.get iv3.toNat).get kv3.toNat).Energy == ((b.Bins.get iv3.toNat).get kv3.toNat).Energy) with | true => (match (match (((a.Bins.get iv3.toNat).get kv3.toNat).Rate.Low == ((b.Bins.get iv3.toNat).get kv3.toNat).Rate.Low) with | true => (match (((a.Bins.get iv3.toNat).get kv3.toNat).Rate.High == ((b.Bins.get iv3.toNat).get kv3.toNat).Rate.High) with | true => true | false => false) | false => false) with | true => true | false => false) | false => false))
    true
    (P3 iv3 (w64 (kv3 + (1:Int)))))))))
   (P1 (w64 (iv3 + (1:Int))))))
def s39_lp3 (S1 : Int → Bool) (a : Sky) (b : Sky) : Nat → Int → Int → Bool
  | 0 => fun _ _ => default
  | k + 1 => s39_st3 S1 a b (s39_lp3 S1 a b k)
def p39_lp3 (P1 : Int → Bool) (a : Sky) (b : Sky) : Nat → Int → Int → Bool
  | 0 => fun _ _ => false
  | k + 1 => p39_st3 P1 a b (p39_lp3 P1 a b k)
def s39_at3 (S1 : Int → Bool) (a : Sky) (b : Sky) (iv3 : Int) (kv3 : Int) : Bool := s39_lp3 S1 a b Fuel iv3 kv3
def p39_at3 (P1 : Int → Bool) (a : Sky) (b : Sky) (iv3 : Int) (kv3 : Int) : Bool := p39_lp3 P1 a b Fuel iv3 kv3
theorem q39_at3 (K : List PA → Prop) (a : Sky) (b : Sky)
  (X1 : St → Prop) (P1 : Int → Bool) (S1 : Int → Bool)
  (hX1 : ∀ (iv1 : Int), P1 iv1 = true → K (e39 (S1 iv1)) → X1 (f39_g1 a b iv1)) (iv3 : Int) (kv3 : Int) (hs : p39_at3 P1 a b iv3 kv3 = true) (hk : K (e39 (s39_at3 S1 a b iv3 kv3))) : f39_at3 K X1 a b iv3 kv3 := by
  refine f39_loop3 K X1 a b iv3 kv3 ?_
  intro X3 hstep
  have key : ∀ (k : Nat) (iv3 : Int) (kv3 : Int), p39_lp3 P1 a b k iv3 kv3 = true → K (e39 (s39_lp3 S1 a b k iv3 kv3)) → X3 (f39_g3 a b iv3 kv3) := by
    intro k
    induction k with
    | zero => intro iv3 kv3 hs; exact absurd hs Bool.false_ne_true
    | succ k ih =>
      intro iv3 kv3 hs hk
      refine hstep iv3 kv3 ?_
      have hs : p39_st3 P1 a b (p39_lp3 P1 a b k) iv3 kv3 = true := hs
      have hk : K (e39 (s39_st3 S1 a b (s39_lp3 S1 a b k) iv3 kv3)) := hk
      unfold p39_st3 at hs
      unfold s39_st3 at hk
      generalize s39_lp3 S1 a b k = S3 at hk ih
      generalize p39_lp3 P1 a b k = P3 at hs ih
      have hX3 := ih
      exact (andK hs fun hc hs => ⟨hc, (condB_go (K := fun r => K (e39 r))
       (fun hs hk => (andK hs fun hc hs => ⟨hc, (andK hs fun hc hs => ⟨hc, (andK hs fun hc hs => ⟨hc, (andK hs fun hc hs => ⟨hc, (condB_go (K := fun r => K (e39 r))
        (fun hs hk => hk)
        (fun hs hk => (hX3 iv3 (w64 (kv3 + (1:Int))) hs hk)) hs hk)⟩)⟩)⟩)⟩))
       (fun hs hk => (hX1 (w64 (iv3 + (1:Int))) hs hk)) hs hk)⟩)
  exact key _ iv3 kv3 hs hk
def s39_at2 (S1 : Int → Bool) (a : Sky) (b : Sky) (iv2 : Int) : Bool :=
  (s39_at3 S1 a b iv2 (0:Int))
def p39_at2 (P1 : Int → Bool) (a : Sky) (b : Sky) (iv2 : Int) : Bool :=
  (p39_at3 P1 a b iv2 (0:Int))
theorem q39_at2 (K : List PA → Prop) (a : Sky) (b : Sky)
  (X1 : St → Prop) (P1 : Int → Bool) (S1 : Int → Bool)
  (hX1 : ∀ (iv1 : Int), P1 iv1 = true → K (e39 (S1 iv1)) → X1 (f39_g1 a b iv1)) (iv2 : Int) (hs : p39_at2 P1 a b iv2 = true) (hk : K (e39 (s39_at2 S1 a b iv2))) : f39_at2 K X1 a b iv2 := by
  refine ofEq (f39_eq2 K X1 a b iv2) ?_
  unfold p39_at2 at hs
  unfold s39_at2 at hk
  exact (q39_at3 K a b X1 P1 S1 hX1 iv2 (0:Int) hs hk)
def s39_st1 (a : Sky) (b : Sky) (S1 : Int → Bool) (iv1 : Int) : Bool :=
  (cond (decide (iv1 < (a.Bins.len : Int)))
   (cond (((a.Bins.get iv1.toNat).len : Int) != ((b.Bins.get iv1.toNat).len : Int))
    false
    (s39_at2 S1 a b iv1))
   true)
def p39_st1 (a : Sky) (b : Sky) (P1 : Int → Bool) (iv1 : Int) : Bool :=
  (cond (decide (iv1 < (a.Bins.len : Int)))
   (decide ((0 ≤ iv1 ∧ iv1 < (a.Bins.len : Int))) &&
   (decide ((0 ≤ iv1 ∧ iv1 < (b.Bins.len : Int))) &&
   (cond (((a.Bins.get iv1.toNat).len : Int) != ((b.Bins.get iv1.toNat).len : Int))
    true
    (p39_at2 P1 a b iv1))))
   true)
def s39_lp1 (a : Sky) (b : Sky) : Nat → Int → Bool
  | 0 => fun _ => default
  | k + 1 => s39_st1 a b (s39_lp1 a b k)
def p39_lp1 (a : Sky) (b : Sky) : Nat → Int → Bool
  | 0 => fun _ => false
  | k + 1 => p39_st1 a b (p39_lp1 a b k)
def s39_at1 (a : Sky) (b : Sky) (iv1 : Int) : Bool := s39_lp1 a b Fuel iv1
def p39_at1 (a : Sky) (b : Sky) (iv1 : Int) : Bool := p39_lp1 a b Fuel iv1
theorem q39_at1 (K : List PA → Prop) (a : Sky) (b : Sky) (iv1 : Int) (hs : p39_at1 a b iv1 = true) (hk : K (e39 (s39_at1 a b iv1))) : f39_at1 K a b iv1 := by
  refine f39_loop1 K a b iv1 ?_
  intro X1 hstep
  have key : ∀ (k : Nat) (iv1 : Int), p39_lp1 a b k iv1 = true → K (e39 (s39_lp1 a b k iv1)) → X1 (f39_g1 a b iv1) := by
    intro k
    induction k with
    | zero => intro iv1 hs; exact absurd hs Bool.false_ne_true
    | succ k ih =>
      intro iv1 hs hk
      refine hstep iv1 ?_
      have hs : p39_st1 a b (p39_lp1 a b k) iv1 = true := hs
      have hk : K (e39 (s39_st1 a b (s39_lp1 a b k) iv1)) := hk
      unfold p39_st1 at hs
      unfold s39_st1 at hk
      generalize s39_lp1 a b k = S1 at hk ih
      generalize p39_lp1 a b k = P1 at hs ih
      have hX1 := ih
      exact (condB_go (K := fun r => K (e39 r))
       (fun hs hk => (andK hs fun hc hs => ⟨hc, (andK hs fun hc hs => ⟨hc, (condB_go (K := fun r => K (e39 r))
        (fun hs hk => hk)
        (fun hs hk => (q39_at2 K a b X1 P1 S1 hX1 iv1 hs hk)) hs hk)⟩)⟩))
       (fun hs hk => hk) hs hk)
  exact key _ iv1 hs hk
def s39_at0 (a : Sky) (b : Sky) : Bool :=
  (s39_at1 a b (0:Int))
def p39_at0 (a : Sky) (b : Sky) : Bool :=
  (p39_at1 a b (0:Int))
theorem q39_at0 (K : List PA → Prop) (a : Sky) (b : Sky) (hs : p39_at0 a b = true) (hk : K (e39 (s39_at0 a b))) : f39_at0 K a b := by
  refine ofEq (f39_eq0 K a b) ?_
  unfold p39_at0 at hs
  unfold s39_at0 at hk
  exact (q39_at1 K a b (0:Int) hs hk)
def s39 (a : Sky) (b : Sky) : Bool :=
  (cond (a.Parts != b.Parts)
   false
   (cond (!(match (a.Beta.Low == b.Beta.Low) with | true => (match (a.Beta.High == b.Beta.High) with | true => true | false => false) | false => false))
    false
    (cond (!(match (a.Alpha.Low == b.Alpha.Low) with | true => (match (a.Alpha.High == b.Alpha.High) with | true => true | false => false) | false => false))
     false
     (cond ((a.Bins.len : Int) != (b.Bins.len : Int))
      false
      (s39_at0 a b)))))
def p39 (a : Sky) (b : Sky) : Bool :=
  (cond (a.Parts != b.Parts)
   true
   (cond (!(match (a.Beta.Low == b.Beta.Low) with | true => (match (a.Beta.High == b.Beta.High) with | true => true | false => false) | false => false))
    true
    (cond (!(match (a.Alpha.Low == b.Alpha.Low) with | true => (match (a.Alpha.High == b.Alpha.High) with | true => true | false => false) | false => false))
     true
     (cond ((a.Bins.len : Int) != (b.Bins.len : Int))
      true
      (p39_at0 a b)))))
theorem q39 (a : Sky) (b : Sky) (K : List PA → Prop) (hs : p39 a b = true) (hk : K (e39 (s39 a b))) : vcFun Try.prog G39 ann39 39 [.agg [.int .i64 a.Parts, .sl a.Bins.len 1 (fun i => enc_32 (a.Bins.get i)), .int .i64 a.Beta.Low, .int .i64 a.Beta.High, .int .i64 a.Alpha.Low, .int .i64 a.Alpha.High], .agg [.int .i64 b.Parts, .sl b.Bins.len 1 (fun i => enc_32 (b.Bins.get i)), .int .i64 b.Beta.Low, .int .i64 b.Beta.High, .int .i64 b.Alpha.Low, .int .i64 b.Alpha.High]] K := by
  refine ofEq (f39_top a b K) ?_
  unfold p39 at hs
  unfold s39 at hk
  exact (condB_go (K := fun r => K (e39 r))
   (fun hs hk => hk)
   (fun hs hk => (condB_go (K := fun r => K (e39 r))
    (fun hs hk => hk)
    (fun hs hk => (condB_go (K := fun r => K (e39 r))
     (fun hs hk => hk)
     (fun hs hk => (condB_go (K := fun r => K (e39 r))
      (fun hs hk => hk)
      (fun hs hk => (q39_at0 K a b hs hk)) hs hk)) hs hk)) hs hk)) hs hk)
def ctr39 : List PA → COut
  | [.agg [.int .i64 a0_Parts, .sl a0_Bins_n a0_Bins_s a0_Bins_g, .int .i64 a0_Beta_Low, .int .i64 a0_Beta_High, .int .i64 a0_Alpha_Low, .int .i64 a0_Alpha_High], .agg [.int .i64 a1_Parts, .sl a1_Bins_n a1_Bins_s a1_Bins_g, .int .i64 a1_Beta_Low, .int .i64 a1_Beta_High, .int .i64 a1_Alpha_Low, .int .i64 a1_Alpha_High]] => .det (IsE enc_32 1 a0_Bins_s a0_Bins_g ∧ IsE enc_32 1 a1_Bins_s a1_Bins_g ∧ p39 (⟨a0_Parts, (⟨a0_Bins_n, decF_32 a0_Bins_g⟩ : (Sl (Sl FluxRow))), (⟨a0_Beta_Low, a0_Beta_High⟩ : Span), (⟨a0_Alpha_Low, a0_Alpha_High⟩ : Span)⟩ : Sky) (⟨a1_Parts, (⟨a1_Bins_n, decF_32 a1_Bins_g⟩ : (Sl (Sl FluxRow))), (⟨a1_Beta_Low, a1_Beta_High⟩ : Span), (⟨a1_Alpha_Low, a1_Alpha_High⟩ : Span)⟩ : Sky) = true) [.one (.bool (s39 (⟨a0_Parts, (⟨a0_Bins_n, decF_32 a0_Bins_g⟩ : (Sl (Sl FluxRow))), (⟨a0_Beta_Low, a0_Beta_High⟩ : Span), (⟨a0_Alpha_Low, a0_Alpha_High⟩ : Span)⟩ : Sky) (⟨a1_Parts, (⟨a1_Bins_n, decF_32 a1_Bins_g⟩ : (Sl (Sl FluxRow))), (⟨a1_Beta_Low, a1_Beta_High⟩ : Span), (⟨a1_Alpha_Low, a1_Alpha_High⟩ : Span)⟩ : Sky)))]
  | [.agg [.int .i64 a0_Parts, .sl a0_Bins_n a0_Bins_s a0_Bins_g, .int .i64 a0_Beta_Low, .int .i64 a0_Beta_High, .int .i64 a0_Alpha_Low, .int .i64 a0_Alpha_High], .agg [.int .i64 a1_Parts, .nils, .int .i64 a1_Beta_Low, .int .i64 a1_Beta_High, .int .i64 a1_Alpha_Low, .int .i64 a1_Alpha_High]] => .det (IsE enc_32 1 a0_Bins_s a0_Bins_g ∧ p39 (⟨a0_Parts, (⟨a0_Bins_n, decF_32 a0_Bins_g⟩ : (Sl (Sl FluxRow))), (⟨a0_Beta_Low, a0_Beta_High⟩ : Span), (⟨a0_Alpha_Low, a0_Alpha_High⟩ : Span)⟩ : Sky) (⟨a1_Parts, (⟨0, fun _ => default⟩ : (Sl (Sl FluxRow))), (⟨a1_Beta_Low, a1_Beta_High⟩ : Span), (⟨a1_Alpha_Low, a1_Alpha_High⟩ : Span)⟩ : Sky) = true) [.one (.bool (s39 (⟨a0_Parts, (⟨a0_Bins_n, decF_32 a0_Bins_g⟩ : (Sl (Sl FluxRow))), (⟨a0_Beta_Low, a0_Beta_High⟩ : Span), (⟨a0_Alpha_Low, a0_Alpha_High⟩ : Span)⟩ : Sky) (⟨a1_Parts, (⟨0, fun _ => default⟩ : (Sl (Sl FluxRow))), (⟨a1_Beta_Low, a1_Beta_High⟩ : Span), (⟨a1_Alpha_Low, a1_Alpha_High⟩ : Span)⟩ : Sky)))]
  | _ => .no
theorem call39 : Callable Try.prog 39 := ⟨_, rfl, rfl, by kernel_rfl⟩
theorem ok39 : Ok Try.prog 39 ctr39 := ok_tabW okT39 call39 fun args K h => by
  unfold ctr39 at h
  split at h
  · rename_i a0_Parts a0_Bins_n a0_Bins_s a0_Bins_g a0_Beta_Low a0_Beta_High a0_Alpha_Low a0_Alpha_High a1_Parts a1_Bins_n a1_Bins_s a1_Bins_g a1_Beta_Low a1_Beta_High a1_Alpha_Low a1_Alpha_High
    obtain ⟨⟨⟨rfl, a0_Bins_f, rfl⟩, ⟨rfl, a1_Bins_f, rfl⟩, hs⟩, hk⟩ := h
    try rw [decF_enc_32 a0_Bins_f] at hs
    try rw [decF_enc_32 a0_Bins_f] at hk
    try rw [decF_enc_32 a1_Bins_f] at hs
    try rw [decF_enc_32 a1_Bins_f] at hk
    exact ⟨_, rl_rfl pa_rfl _, (fun _ _ => []), (fun _ => false), ann39, q39 (⟨a0_Parts, (⟨a0_Bins_n, a0_Bins_f⟩ : (Sl (Sl FluxRow))), (⟨a0_Beta_Low, a0_Beta_High⟩ : Span), (⟨a0_Alpha_Low, a0_Alpha_High⟩ : Span)⟩ : Sky) (⟨a1_Parts, (⟨a1_Bins_n, a1_Bins_f⟩ : (Sl (Sl FluxRow))), (⟨a1_Beta_Low, a1_Beta_High⟩ : Span), (⟨a1_Alpha_Low, a1_Alpha_High⟩ : Span)⟩ : Sky) (Wk K) hs (wk_rfl hk)⟩
  · rename_i a0_Parts a0_Bins_n a0_Bins_s a0_Bins_g a0_Beta_Low a0_Beta_High a0_Alpha_Low a0_Alpha_High a1_Parts a1_Beta_Low a1_Beta_High a1_Alpha_Low a1_Alpha_High
    obtain ⟨⟨⟨rfl, a0_Bins_f, rfl⟩, hs⟩, hk⟩ := h
    try rw [decF_enc_32 a0_Bins_f] at hs
    try rw [decF_enc_32 a0_Bins_f] at hk
    exact ⟨_, (rl_c (pa_rfl _) (rl_c (.agg (rl_c (.rfl _) (rl_c (.nil _ _) (rl_c (.rfl _) (rl_c (.rfl _) (rl_c (.rfl _) (rl_c (.rfl _) rl_n))))))) rl_n)), (fun _ _ => []), (fun _ => false), ann39, q39 (⟨a0_Parts, (⟨a0_Bins_n, a0_Bins_f⟩ : (Sl (Sl FluxRow))), (⟨a0_Beta_Low, a0_Beta_High⟩ : Span), (⟨a0_Alpha_Low, a0_Alpha_High⟩ : Span)⟩ : Sky) (⟨a1_Parts, (⟨0, fun _ => default⟩ : (Sl (Sl FluxRow))), (⟨a1_Beta_Low, a1_Beta_High⟩ : Span), (⟨a1_Alpha_Low, a1_Alpha_High⟩ : Span)⟩ : Sky) (Wk K) hs (wk_rfl hk)⟩
  · exact h.elim
end Go.Proofs
namespace Go.Proofs
open Go Go.Pm
set_option maxRecDepth 100000
set_option linter.unusedVariables false
attribute [local irreducible] Go.Pm.vcFun Go.Pm.vc Go.Pm.vcIter
abbrev T46 : Tabs := Tabs.nil
theorem okT46 : TabsOk Try.prog T46 := TabsOk.nil
abbrev G46 : Ctrs := csm T46 (fun _ _ => []) (fun _ => false)
def ann46 : Ann := ⟨57, [(0, ⟨[0, 3, 4], [3, 4], [], [], []⟩), (1, ⟨[0, 3, 4, 5], [3, 4, 5], [], [], []⟩), (2, ⟨[0, 3, 4, 5, 6], [3, 4, 5], [], [], []⟩), (3, ⟨[0, 3, 4, 5, 6, 11], [3, 4, 5], [], [], []⟩), (4, ⟨[0, 3, 4, 5, 6], [3, 4, 5], [], [], []⟩), (5, ⟨[0, 3, 4, 5, 6, 21], [3, 4, 5], [], [], []⟩), (6, ⟨[0, 3, 4, 5, 6], [3, 4, 5], [], [], []⟩), (7, ⟨[0, 3, 4, 5, 7], [3, 4, 5], [], [], []⟩), (8, ⟨[0, 3, 4, 5, 7, 38], [3, 4, 5], [], [], []⟩), (9, ⟨[0, 3, 4, 5, 7], [3, 4, 5], [], [], []⟩), (10, ⟨[0, 3, 4, 5, 7, 48], [3, 4, 5], [], [], []⟩), (11, ⟨[0, 3, 4, 5, 7], [3, 4, 5], [], [], []⟩), (12, ⟨[4], [4], [], [], []⟩)],
  [(3, ⟨[0, 3, 4, 5, 6], [3, 4, 5], [], [], []⟩), (8, ⟨[0, 3, 4, 5, 7], [3, 4, 5], [], [], []⟩)],
  [(7, ⟨[0, 3, 4, 5], [3, 4, 5], [], [], []⟩)],
  [], []⟩
def f46_g0 (l_a0 : (Sl FluxRow)) (x : Span) (iv0 : Int) (out_1v0 : Int) : St := ⟨[(0, .one (.c (.p (.sl l_a0.len 3 (fun i => enc_44 (l_a0.get i)))))), (3, .one (.c (.ptr 3 0))), (4, .one (.c (.ptr 4 0))), (5, .one (.c (.ptr 5 0))), (6, .one (.c (.p (.int .i64 iv0))))], [(3, .box 24 [.p (.int .i64 x.Low), .p (.int .i64 x.High)]), (4, .box 24 [.p (.int .i64 (0:Int)), .p (.int .i64 (0:Int))]), (5, .box 24 [.p (.int .i64 (0:Int)), .p (.int .i64 out_1v0)])], []⟩
def f46_at0 (K : List PA → Prop) (l_a0 : (Sl FluxRow)) (x : Span) (iv0 : Int) (out_1v0 : Int) : Prop := vc Try.prog G46 ann46 (cdF Try.f46 [1, 1, 0, 1, 0]) (blockK 0 (sqK Try.prog G46 ann46 (cdF Try.f46 [1, 1, 1]) (bodyK Try.prog Try.f46 K))) (f46_g0 l_a0 x iv0 out_1v0)
def f46_g1 (l_a0 : (Sl FluxRow)) (x : Span) (out_1v1 : Int) : St := ⟨[(0, .one (.c (.p (.sl l_a0.len 3 (fun i => enc_44 (l_a0.get i)))))), (3, .one (.c (.ptr 3 0))), (4, .one (.c (.ptr 4 0))), (5, .one (.c (.ptr 5 0)))], [(3, .box 24 [.p (.int .i64 x.Low), .p (.int .i64 x.High)]), (4, .box 24 [.p (.int .i64 (0:Int)), .p (.int .i64 (0:Int))]), (5, .box 24 [.p (.int .i64 (0:Int)), .p (.int .i64 out_1v1)])], []⟩
def f46_at1 (K : List PA → Prop) (l_a0 : (Sl FluxRow)) (x : Span) (out_1v1 : Int) : Prop := vc Try.prog G46 ann46 (cdF Try.f46 [1, 1, 1]) (bodyK Try.prog Try.f46 K) (f46_g1 l_a0 x out_1v1)
def f46_g2 (l_a0 : (Sl FluxRow)) (x : Span) (iv2 : Int) (out_0v2 : Int) (out_1v2 : Int) : St := ⟨[(0, .one (.c (.p (.sl l_a0.len 3 (fun i => enc_44 (l_a0.get i)))))), (3, .one (.c (.ptr 3 0))), (4, .one (.c (.ptr 4 0))), (5, .one (.c (.ptr 5 0))), (7, .one (.c (.p (.int .i64 iv2))))], [(3, .box 24 [.p (.int .i64 x.Low), .p (.int .i64 x.High)]), (4, .box 24 [.p (.int .i64 (0:Int)), .p (.int .i64 (0:Int))]), (5, .box 24 [.p (.int .i64 out_0v2), .p (.int .i64 out_1v2)])], []⟩
def f46_at2 (K : List PA → Prop) (l_a0 : (Sl FluxRow)) (x : Span) (iv2 : Int) (out_0v2 : Int) (out_1v2 : Int) : Prop := vc Try.prog G46 ann46 (cdF Try.f46 [1, 1, 1, 0, 1, 0]) (blockK 2 (sqK Try.prog G46 ann46 (cdF Try.f46 [1, 1, 1, 1]) (bodyK Try.prog Try.f46 K))) (f46_g2 l_a0 x iv2 out_0v2 out_1v2)
theorem f46_top (l_a0 : (Sl FluxRow)) (x : Span) (K : List PA → Prop) :
  vcFun Try.prog G46 ann46 46 [.one (.sl l_a0.len 3 (fun i => enc_44 (l_a0.get i))), .agg [.int .i64 x.Low, .int .i64 x.High]] K =
  (f46_at0 K l_a0 x (0:Int) (0:Int)) := by kernel_rfl
def f46_step0 (K : List PA → Prop) (X0 : St → Prop) (l_a0 : (Sl FluxRow)) (x : Span) (iv0 : Int) (out_1v0 : Int) : Prop :=
  (condP (decide (iv0 < (l_a0.len : Int)))
   (((0 ≤ iv0 ∧ iv0 < (l_a0.len : Int))) ∧
   (condP (decide ((l_a0.get iv0.toNat).Energy ≤ x.Low))
    (((0 ≤ iv0 ∧ iv0 < (l_a0.len : Int))) ∧
    (X0 (f46_g0 l_a0 x (w64 (iv0 + (1:Int))) ((l_a0.get iv0.toNat).Rate.High))))
    (X0 (f46_g0 l_a0 x (w64 (iv0 + (1:Int))) out_1v0))))
   (f46_at1 K l_a0 x out_1v0))
theorem f46_stepeq0 (K : List PA → Prop) (X0 : St → Prop) (l_a0 : (Sl FluxRow)) (x : Span) (iv0 : Int) (out_1v0 : Int) :
  vc Try.prog G46 ann46 (cd (cdF Try.f46 [1, 1, 0, 1, 0]) [0]) (loopK Try.prog ann46 3 X0 (blockK 0 (sqK Try.prog G46 ann46 (cdF Try.f46 [1, 1, 1]) (bodyK Try.prog Try.f46 K)))) (f46_g0 l_a0 x iv0 out_1v0) =
  f46_step0 K X0 l_a0 x iv0 out_1v0 := by kernel_rfl
theorem f46_loop0 (K : List PA → Prop) (l_a0 : (Sl FluxRow)) (x : Span) (iv0 : Int) (out_1v0 : Int)
  (h : ∀ X0 : St → Prop, (∀ (iv0 : Int) (out_1v0 : Int), f46_step0 K X0 l_a0 x iv0 out_1v0 → X0 (f46_g0 l_a0 x iv0 out_1v0)) → X0 (f46_g0 l_a0 x iv0 out_1v0)) :
  f46_at0 K l_a0 x iv0 out_1v0 := by
  have e : f46_at0 K l_a0 x iv0 out_1v0 = (∀ X : St → Prop, (∀ s, vc Try.prog G46 ann46 (cd (cdF Try.f46 [1, 1, 0, 1, 0]) [0]) (loopK Try.prog ann46 3 X (blockK 0 (sqK Try.prog G46 ann46 (cdF Try.f46 [1, 1, 1]) (bodyK Try.prog Try.f46 K)))) s → X s) → X (f46_g0 l_a0 x iv0 out_1v0)) := by kernel_rfl
  refine ofEq e ?_
  intro X hX
  refine h X ?_
  intro iv0 out_1v0 hs
  refine hX _ ?_
  have e2 := f46_stepeq0 K X l_a0 x iv0 out_1v0
  rw [e2]
  exact hs
theorem f46_eq1 (K : List PA → Prop) (l_a0 : (Sl FluxRow)) (x : Span) (out_1v1 : Int) :
  f46_at1 K l_a0 x out_1v1 =
  (f46_at2 K l_a0 x (w64 ((l_a0.len : Int) - (1:Int))) (0:Int) out_1v1) := by kernel_rfl
def f46_step2 (K : List PA → Prop) (X2 : St → Prop) (l_a0 : (Sl FluxRow)) (x : Span) (iv2 : Int) (out_0v2 : Int) (out_1v2 : Int) : Prop :=
  (condP (decide (iv2 ≥ (0:Int)))
   (condP (x.High != (-1:Int))
    (((0 ≤ iv2 ∧ iv2 < (l_a0.len : Int))) ∧
    (condP (decide ((l_a0.get iv2.toNat).Energy ≥ x.High))
     (((0 ≤ iv2 ∧ iv2 < (l_a0.len : Int))) ∧
     (X2 (f46_g2 l_a0 x (w64 (iv2 - (1:Int))) ((l_a0.get iv2.toNat).Rate.Low) out_1v2)))
     (X2 (f46_g2 l_a0 x (w64 (iv2 - (1:Int))) out_0v2 out_1v2))))
    (K [.agg [.int .i64 out_0v2, .int .i64 out_1v2]]))
   (K [.agg [.int .i64 out_0v2, .int .i64 out_1v2]]))
theorem f46_stepeq2 (K : List PA → Prop) (X2 : St → Prop) (l_a0 : (Sl FluxRow)) (x : Span) (iv2 : Int) (out_0v2 : Int) (out_1v2 : Int) :
  vc Try.prog G46 ann46 (cd (cdF Try.f46 [1, 1, 1, 0, 1, 0]) [0]) (loopK Try.prog ann46 8 X2 (blockK 2 (sqK Try.prog G46 ann46 (cdF Try.f46 [1, 1, 1, 1]) (bodyK Try.prog Try.f46 K)))) (f46_g2 l_a0 x iv2 out_0v2 out_1v2) =
  f46_step2 K X2 l_a0 x iv2 out_0v2 out_1v2 := by kernel_rfl
theorem f46_loop2 (K : List PA → Prop) (l_a0 : (Sl FluxRow)) (x : Span) (iv2 : Int) (out_0v2 : Int) (out_1v2 : Int)
  (h : ∀ X2 : St → Prop, (∀ (iv2 : Int) (out_0v2 : Int) (out_1v2 : Int), f46_step2 K X2 l_a0 x iv2 out_0v2 out_1v2 → X2 (f46_g2 l_a0 x iv2 out_0v2 out_1v2)) → X2 (f46_g2 l_a0 x iv2 out_0v2 out_1v2)) :
  f46_at2 K l_a0 x iv2 out_0v2 out_1v2 := by
  have e : f46_at2 K l_a0 x iv2 out_0v2 out_1v2 = (∀ X : St → Prop, (∀ s, vc Try.prog G46 ann46 (cd (cdF Try.f46 [1, 1, 1, 0, 1, 0]) [0]) (loopK Try.prog ann46 8 X (blockK 2 (sqK Try.prog G46 ann46 (cdF Try.f46 [1, 1, 1, 1]) (bodyK Try.prog Try.f46 K)))) s → X s) → X (f46_g2 l_a0 x iv2 out_0v2 out_1v2)) := by kernel_rfl
  refine ofEq e ?_
  intro X hX
  refine h X ?_
  intro iv2 out_0v2 out_1v2 hs
  refine hX _ ?_
  have e2 := f46_stepeq2 K X l_a0 x iv2 out_0v2 out_1v2
  rw [e2]
  exact hs
abbrev R46 := Span
abbrev e46 (r : Span) : List PA := [.agg [.int .i64 r.Low, .int .i64 r.High]]
attribute [irreducible] f46_at0 f46_at1 f46_at2
def s46_st2 (l_a0 : (Sl FluxRow)) (x : Span) (S2 : Int → Int → Int → Span) (iv2 : Int) (out_0v2 : Int) (out_1v2 : Int) : Span :=
  (cond (decide (iv2 ≥ (0:Int)))
   (cond (x.High != (-1:Int))
    (cond (decide ((l_a0.get iv2.toNat).Energy ≥ x.High))
     (S2 (w64 (iv2 - (1:Int))) ((l_a0.get iv2.toNat).Rate.Low) out_1v2)
     (S2 (w64 (iv2 - (1:Int))) out_0v2 out_1v2))
    (⟨out_0v2, out_1v2⟩ : Span))
   (⟨out_0v2, out_1v2⟩ : Span))
def p46_st2 (l_a0 : (Sl FluxRow)) (x : Span) (P2 : Int → Int → Int → Bool) (iv2 : Int) (out_0v2 : Int) (out_1v2 : Int) : Bool :=
  (cond (decide (iv2 ≥ (0:Int)))
   (cond (x.High != (-1:Int))
    (decide ((0 ≤ iv2 ∧ iv2 < (l_a0.len : Int))) &&
    (cond (decide ((l_a0.get iv2.toNat).Energy ≥ x.High))
     (decide ((0 ≤ iv2 ∧ iv2 < (l_a0.len : Int))) &&
     (P2 (w64 (iv2 - (1:Int))) ((l_a0.get iv2.toNat).Rate.Low) out_1v2))
     (P2 (w64 (iv2 - (1:Int))) out_0v2 out_1v2)))
    true)
   true)
def s46_lp2 (l_a0 : (Sl FluxRow)) (x : Span) : Nat → Int → Int → Int → Span
  | 0 => fun _ _ _ => default
  | k + 1 => s46_st2 l_a0 x (s46_lp2 l_a0 x k)
def p46_lp2 (l_a0 : (Sl FluxRow)) (x : Span) : Nat → Int → Int → Int → Bool
  | 0 => fun _ _ _ => false
  | k + 1 => p46_st2 l_a0 x (p46_lp2 l_a0 x k)
def s46_at2 (l_a0 : (Sl FluxRow)) (x : Span) (iv2 : Int) (out_0v2 : Int) (out_1v2 : Int) : Span := s46_lp2 l_a0 x Fuel iv2 out_0v2 out_1v2
def p46_at2 (l_a0 : (Sl FluxRow)) (x : Span) (iv2 : Int) (out_0v2 : Int) (out_1v2 : Int) : Bool := p46_lp2 l_a0 x Fuel iv2 out_0v2 out_1v2
theorem q46_at2 (K : List PA → Prop) (l_a0 : (Sl FluxRow)) (x : Span) (iv2 : Int) (out_0v2 : Int) (out_1v2 : Int) (hs : p46_at2 l_a0 x iv2 out_0v2 out_1v2 = true) (hk : K (e46 (s46_at2 l_a0 x iv2 out_0v2 out_1v2))) : f46_at2 K l_a0 x iv2 out_0v2 out_1v2 := by
  refine f46_loop2 K l_a0 x iv2 out_0v2 out_1v2 ?_
  intro X2 hstep
  have key : ∀ (k : Nat) (iv2 : Int) (out_0v2 : Int) (out_1v2 : Int), p46_lp2 l_a0 x k iv2 out_0v2 out_1v2 = true → K (e46 (s46_lp2 l_a0 x k iv2 out_0v2 out_1v2)) → X2 (f46_g2 l_a0 x iv2 out_0v2 out_1v2) := by
    intro k
    induction k with
    | zero => intro iv2 out_0v2 out_1v2 hs; exact absurd hs Bool.false_ne_true
    | succ k ih =>
      intro iv2 out_0v2 out_1v2 hs hk
      refine hstep iv2 out_0v2 out_1v2 ?_
      have hs : p46_st2 l_a0 x (p46_lp2 l_a0 x k) iv2 out_0v2 out_1v2 = true := hs
      have hk : K (e46 (s46_st2 l_a0 x (s46_lp2 l_a0 x k) iv2 out_0v2 out_1v2)) := hk
      unfold p46_st2 at hs
      unfold s46_st2 at hk
      generalize s46_lp2 l_a0 x k = S2 at hk ih
      generalize p46_lp2 l_a0 x k = P2 at hs ih
      have hX2 := ih
      exact (condB_go (K := fun r => K (e46 r))
       (fun hs hk => (condB_go (K := fun r => K (e46 r))
        (fun hs hk => (andK hs fun hc hs => ⟨hc, (condB_go (K := fun r => K (e46 r))
         (fun hs hk => (andK hs fun hc hs => ⟨hc, (hX2 (w64 (iv2 - (1:Int))) ((l_a0.get iv2.toNat).Rate.Low) out_1v2 hs hk)⟩))
         (fun hs hk => (hX2 (w64 (iv2 - (1:Int))) out_0v2 out_1v2 hs hk)) hs hk)⟩))
        (fun hs hk => hk) hs hk))
       (fun hs hk => hk) hs hk)
  exact key _ iv2 out_0v2 out_1v2 hs hk
def s46_at1 (l_a0 : (Sl FluxRow)) (x : Span) (out_1v1 : Int) : Span :=
  (s46_at2 l_a0 x (w64 ((l_a0.len : Int) - (1:Int))) (0:Int) out_1v1)
def p46_at1 (l_a0 : (Sl FluxRow)) (x : Span) (out_1v1 : Int) : Bool :=
  (p46_at2 l_a0 x (w64 ((l_a0.len : Int) - (1:Int))) (0:Int) out_1v1)
theorem q46_at1 (K : List PA → Prop) (l_a0 : (Sl FluxRow)) (x : Span) (out_1v1 : Int) (hs : p46_at1 l_a0 x out_1v1 = true) (hk : K (e46 (s46_at1 l_a0 x out_1v1))) : f46_at1 K l_a0 x out_1v1 := by
  refine ofEq (f46_eq1 K l_a0 x out_1v1) ?_
  unfold p46_at1 at hs
  unfold s46_at1 at hk
  exact (q46_at2 K l_a0 x (w64 ((l_a0.len : Int) - (1:Int))) (0:Int) out_1v1 hs hk)
def s46_st0 (l_a0 : (Sl FluxRow)) (x : Span) (S0 : Int → Int → Span) (iv0 : Int) (out_1v0 : Int) : Span :=
  (cond (decide (iv0 < (l_a0.len : Int)))
   (cond (decide ((l_a0.get iv0.toNat).Energy ≤ x.Low))
    (S0 (w64 (iv0 + (1:Int))) ((l_a0.get iv0.toNat).Rate.High))
    (S0 (w64 (iv0 + (1:Int))) out_1v0))
   (s46_at1 l_a0 x out_1v0))
def p46_st0 (l_a0 : (Sl FluxRow)) (x : Span) (P0 : Int → Int → Bool) (iv0 : Int) (out_1v0 : Int) : Bool :=
  (cond (decide (iv0 < (l_a0.len : Int)))
   (decide ((0 ≤ iv0 ∧ iv0 < (l_a0.len : Int))) &&
   (cond (decide ((l_a0.get iv0.toNat).Energy ≤ x.Low))
    (decide ((0 ≤ iv0 ∧ iv0 < (l_a0.len : Int))) &&
    (P0 (w64 (iv0 + (1:Int))) ((l_a0.get iv0.toNat).Rate.High)))
    (P0 (w64 (iv0 + (1:Int))) out_1v0)))
   (p46_at1 l_a0 x out_1v0))
def s46_lp0 (l_a0 : (Sl FluxRow)) (x : Span) : Nat → Int → Int → Span
  | 0 => fun _ _ => default
  | k + 1 => s46_st0 l_a0 x (s46_lp0 l_a0 x k)
def p46_lp0 (l_a0 : (Sl FluxRow)) (x : Span) : Nat → Int → Int → Bool
  | 0 => fun _ _ => false
  | k + 1 => p46_st0 l_a0 x (p46_lp0 l_a0 x k)
def s46_at0 (l_a0 : (Sl FluxRow)) (x : Span) (iv0 : Int) (out_1v0 : Int) : Span := s46_lp0 l_a0 x Fuel iv0 out_1v0
def p46_at0 (l_a0 : (Sl FluxRow)) (x : Span) (iv0 : Int) (out_1v0 : Int) : Bool := p46_lp0 l_a0 x Fuel iv0 out_1v0
theorem q46_at0 (K : List PA → Prop) (l_a0 : (Sl FluxRow)) (x : Span) (iv0 : Int) (out_1v0 : Int) (hs : p46_at0 l_a0 x iv0 out_1v0 = true) (hk : K (e46 (s46_at0 l_a0 x iv0 out_1v0))) : f46_at0 K l_a0 x iv0 out_1v0 := by
  refine f46_loop0 K l_a0 x iv0 out_1v0 ?_
  intro X0 hstep
  have key : ∀ (k : Nat) (iv0 : Int) (out_1v0 : Int), p46_lp0 l_a0 x k iv0 out_1v0 = true → K (e46 (s46_lp0 l_a0 x k iv0 out_1v0)) → X0 (f46_g0 l_a0 x iv0 out_1v0) := by
    intro k
    induction k with
    | zero => intro iv0 out_1v0 hs; exact absurd hs Bool.false_ne_true
    | succ k ih =>
      intro iv0 out_1v0 hs hk
      refine hstep iv0 out_1v0 ?_
      have hs : p46_st0 l_a0 x (p46_lp0 l_a0 x k) iv0 out_1v0 = true := hs
      have hk : K (e46 (s46_st0 l_a0 x (s46_lp0 l_a0 x k) iv0 out_1v0)) := hk
      unfold p46_st0 at hs
      unfold s46_st0 at hk
      generalize s46_lp0 l_a0 x k = S0 at hk ih
      generalize p46_lp0 l_a0 x k = P0 at hs ih
      have hX0 := ih
      exact (condB_go (K := fun r => K (e46 r))
       (fun hs hk => (andK hs fun hc hs => ⟨hc, (condB_go (K := fun r => K (e46 r))
        (fun hs hk => (andK hs fun hc hs => ⟨hc, (hX0 (w64 (iv0 + (1:Int))) ((l_a0.get iv0.toNat).Rate.High) hs hk)⟩))
        (fun hs hk => (hX0 (w64 (iv0 + (1:Int))) out_1v0 hs hk)) hs hk)⟩))
       (fun hs hk => (q46_at1 K l_a0 x out_1v0 hs hk)) hs hk)
  exact key _ iv0 out_1v0 hs hk
def s46 (l_a0 : (Sl FluxRow)) (x : Span) : Span :=
  (s46_at0 l_a0 x (0:Int) (0:Int))
def p46 (l_a0 : (Sl FluxRow)) (x : Span) : Bool :=
  (p46_at0 l_a0 x (0:Int) (0:Int))
theorem q46 (l_a0 : (Sl FluxRow)) (x : Span) (K : List PA → Prop) (hs : p46 l_a0 x = true) (hk : K (e46 (s46 l_a0 x))) : vcFun Try.prog G46 ann46 46 [.one (.sl l_a0.len 3 (fun i => enc_44 (l_a0.get i))), .agg [.int .i64 x.Low, .int .i64 x.High]] K := by
  refine ofEq (f46_top l_a0 x K) ?_
  unfold p46 at hs
  unfold s46 at hk
  exact (q46_at0 K l_a0 x (0:Int) (0:Int) hs hk)
def ctr46 : List PA → COut
  | [.one (.sl a0_n a0_s a0_g), .agg [.int .i64 a1_Low, .int .i64 a1_High]] => .det (IsE enc_44 3 a0_s a0_g ∧ p46 (⟨a0_n, decF_44 a0_g⟩ : (Sl FluxRow)) (⟨a1_Low, a1_High⟩ : Span) = true) [.agg [.int .i64 ((s46 (⟨a0_n, decF_44 a0_g⟩ : (Sl FluxRow)) (⟨a1_Low, a1_High⟩ : Span)).Low), .int .i64 ((s46 (⟨a0_n, decF_44 a0_g⟩ : (Sl FluxRow)) (⟨a1_Low, a1_High⟩ : Span)).High)]]
  | _ => .no
theorem call46 : Callable Try.prog 46 := ⟨_, rfl, rfl, by kernel_rfl⟩
theorem ok46 : Ok Try.prog 46 ctr46 := ok_tab okT46 call46 fun args K h => by
  unfold ctr46 at h
  split at h
  · rename_i a0_n a0_s a0_g a1_Low a1_High
    obtain ⟨⟨⟨rfl, a0_f, rfl⟩, hs⟩, hk⟩ := h
    try rw [decF_enc_44 a0_f] at hs
    try rw [decF_enc_44 a0_f] at hk
    exact ⟨(fun _ _ => []), (fun _ => false), ann46, q46 (⟨a0_n, a0_f⟩ : (Sl FluxRow)) (⟨a1_Low, a1_High⟩ : Span) K hs hk⟩
  · exact h.elim
abbrev T49 : Tabs := Tabs.nil
theorem okT49 : TabsOk Try.prog T49 := TabsOk.nil
abbrev G49 : Ctrs := csm T49 (fun _ _ => []) (fun _ => false)
def ann49 : Ann := ⟨55, [(0, ⟨[0, 1, 4], [4], [], [], []⟩), (1, ⟨[0, 1, 4, 9], [4], [], [], []⟩), (2, ⟨[4], [4], [], [], []⟩), (3, ⟨[0, 1, 4, 5], [4, 5], [], [], []⟩), (4, ⟨[0, 1, 4, 5, 6], [4, 5], [], [], []⟩), (5, ⟨[0, 1, 4, 5, 6, 15], [4, 5], [], [], []⟩), (6, ⟨[0, 1, 4, 5, 6], [4, 5], [], [], []⟩), (7, ⟨[0, 1, 4, 5, 6, 25], [4, 5], [], [], []⟩), (8, ⟨[0, 1, 4, 5, 6], [4, 5], [], [], []⟩), (9, ⟨[0, 1, 4, 5, 7], [4, 5], [], [], []⟩), (10, ⟨[0, 1, 4, 5, 7, 37], [4, 5], [], [], []⟩), (11, ⟨[0, 1, 4, 5, 7], [4, 5], [], [], []⟩), (12, ⟨[0, 1, 4, 5, 7, 47], [4, 5], [], [], []⟩), (13, ⟨[0, 1, 4, 5, 7], [4, 5], [], [], []⟩), (14, ⟨[4], [4], [], [], []⟩)],
  [(5, ⟨[0, 1, 4, 5, 6], [4, 5], [], [], []⟩), (10, ⟨[0, 1, 4, 5, 7], [4, 5], [], [], []⟩)],
  [(3, ⟨[0, 1, 4], [4], [], [], []⟩), (9, ⟨[0, 1, 4, 5], [4, 5], [], [], []⟩)],
  [], []⟩
def f49_g0 (t : (Sl RangeRow)) (opacity : Int) : St := ⟨[(0, .one (.c (.p (.sl t.len 3 (fun i => enc_42 (t.get i)))))), (1, .one (.c (.p (.int .i64 opacity)))), (4, .one (.c (.ptr 4 0)))], [(4, .box 24 [.p (.int .i64 (0:Int)), .p (.int .i64 (0:Int))])], []⟩
def f49_at0 (K : List PA → Prop) (t : (Sl RangeRow)) (opacity : Int) : Prop := vc Try.prog G49 ann49 (cdF Try.f49 [1, 1]) (bodyK Try.prog Try.f49 K) (f49_g0 t opacity)
def f49_g1 (t : (Sl RangeRow)) (opacity : Int) (iv1 : Int) (out_0v1 : Int) : St := ⟨[(0, .one (.c (.p (.sl t.len 3 (fun i => enc_42 (t.get i)))))), (1, .one (.c (.p (.int .i64 opacity)))), (4, .one (.c (.ptr 4 0))), (5, .one (.c (.ptr 5 0))), (6, .one (.c (.p (.int .i64 iv1))))], [(4, .box 24 [.p (.int .i64 (0:Int)), .p (.int .i64 (0:Int))]), (5, .box 24 [.p (.int .i64 out_0v1), .p (.int .i64 (-1:Int))])], []⟩
def f49_at1 (K : List PA → Prop) (t : (Sl RangeRow)) (opacity : Int) (iv1 : Int) (out_0v1 : Int) : Prop := vc Try.prog G49 ann49 (cdF Try.f49 [1, 1, 1, 0, 1, 0]) (blockK 0 (sqK Try.prog G49 ann49 (cdF Try.f49 [1, 1, 1, 1]) (bodyK Try.prog Try.f49 K))) (f49_g1 t opacity iv1 out_0v1)
def f49_g2 (t : (Sl RangeRow)) (opacity : Int) (out_0v2 : Int) : St := ⟨[(0, .one (.c (.p (.sl t.len 3 (fun i => enc_42 (t.get i)))))), (1, .one (.c (.p (.int .i64 opacity)))), (4, .one (.c (.ptr 4 0))), (5, .one (.c (.ptr 5 0)))], [(4, .box 24 [.p (.int .i64 (0:Int)), .p (.int .i64 (0:Int))]), (5, .box 24 [.p (.int .i64 out_0v2), .p (.int .i64 (-1:Int))])], []⟩
def f49_at2 (K : List PA → Prop) (t : (Sl RangeRow)) (opacity : Int) (out_0v2 : Int) : Prop := vc Try.prog G49 ann49 (cdF Try.f49 [1, 1, 1, 1]) (bodyK Try.prog Try.f49 K) (f49_g2 t opacity out_0v2)
def f49_g3 (t : (Sl RangeRow)) (opacity : Int) (iv3 : Int) (out_0v3 : Int) (out_1v3 : Int) : St := ⟨[(0, .one (.c (.p (.sl t.len 3 (fun i => enc_42 (t.get i)))))), (1, .one (.c (.p (.int .i64 opacity)))), (4, .one (.c (.ptr 4 0))), (5, .one (.c (.ptr 5 0))), (7, .one (.c (.p (.int .i64 iv3))))], [(4, .box 24 [.p (.int .i64 (0:Int)), .p (.int .i64 (0:Int))]), (5, .box 24 [.p (.int .i64 out_0v3), .p (.int .i64 out_1v3)])], []⟩
def f49_at3 (K : List PA → Prop) (t : (Sl RangeRow)) (opacity : Int) (iv3 : Int) (out_0v3 : Int) (out_1v3 : Int) : Prop := vc Try.prog G49 ann49 (cdF Try.f49 [1, 1, 1, 1, 0, 1, 0]) (blockK 2 (sqK Try.prog G49 ann49 (cdF Try.f49 [1, 1, 1, 1, 1]) (bodyK Try.prog Try.f49 K))) (f49_g3 t opacity iv3 out_0v3 out_1v3)
theorem f49_top (t : (Sl RangeRow)) (opacity : Int) (K : List PA → Prop) :
  vcFun Try.prog G49 ann49 49 [.one (.sl t.len 3 (fun i => enc_42 (t.get i))), .one (.int .i64 opacity)] K =
  (condP (opacity == (0:Int))
   (K [.agg [.int .i64 (1:Int), .int .i64 (1:Int)]])
   (f49_at0 K t opacity)) := by kernel_rfl
theorem f49_eq0 (K : List PA → Prop) (t : (Sl RangeRow)) (opacity : Int) :
  f49_at0 K t opacity =
  (f49_at1 K t opacity (0:Int) (1:Int)) := by kernel_rfl
def f49_step1 (K : List PA → Prop) (X1 : St → Prop) (t : (Sl RangeRow)) (opacity : Int) (iv1 : Int) (out_0v1 : Int) : Prop :=
  (condP (decide (iv1 < (t.len : Int)))
   (((0 ≤ iv1 ∧ iv1 < (t.len : Int))) ∧
   (condP (decide ((t.get iv1.toNat).Range.High < opacity))
    (((0 ≤ iv1 ∧ iv1 < (t.len : Int))) ∧
    (X1 (f49_g1 t opacity (w64 (iv1 + (1:Int))) (w64 ((t.get iv1.toNat).Energy + (1:Int))))))
    (X1 (f49_g1 t opacity (w64 (iv1 + (1:Int))) out_0v1))))
   (f49_at2 K t opacity out_0v1))
theorem f49_stepeq1 (K : List PA → Prop) (X1 : St → Prop) (t : (Sl RangeRow)) (opacity : Int) (iv1 : Int) (out_0v1 : Int) :
  vc Try.prog G49 ann49 (cd (cdF Try.f49 [1, 1, 1, 0, 1, 0]) [0]) (loopK Try.prog ann49 5 X1 (blockK 0 (sqK Try.prog G49 ann49 (cdF Try.f49 [1, 1, 1, 1]) (bodyK Try.prog Try.f49 K)))) (f49_g1 t opacity iv1 out_0v1) =
  f49_step1 K X1 t opacity iv1 out_0v1 := by kernel_rfl
theorem f49_loop1 (K : List PA → Prop) (t : (Sl RangeRow)) (opacity : Int) (iv1 : Int) (out_0v1 : Int)
  (h : ∀ X1 : St → Prop, (∀ (iv1 : Int) (out_0v1 : Int), f49_step1 K X1 t opacity iv1 out_0v1 → X1 (f49_g1 t opacity iv1 out_0v1)) → X1 (f49_g1 t opacity iv1 out_0v1)) :
  f49_at1 K t opacity iv1 out_0v1 := by
  have e : f49_at1 K t opacity iv1 out_0v1 = (∀ X : St → Prop, (∀ s, vc Try.prog G49 ann49 (cd (cdF Try.f49 [1, 1, 1, 0, 1, 0]) [0]) (loopK Try.prog ann49 5 X (blockK 0 (sqK Try.prog G49 ann49 (cdF Try.f49 [1, 1, 1, 1]) (bodyK Try.prog Try.f49 K)))) s → X s) → X (f49_g1 t opacity iv1 out_0v1)) := by kernel_rfl
  refine ofEq e ?_
  intro X hX
  refine h X ?_
  intro iv1 out_0v1 hs
  refine hX _ ?_
  have e2 := f49_stepeq1 K X t opacity iv1 out_0v1
  rw [e2]
  exact hs
theorem f49_eq2 (K : List PA → Prop) (t : (Sl RangeRow)) (opacity : Int) (out_0v2 : Int) :
  f49_at2 K t opacity out_0v2 =
  (f49_at3 K t opacity (w64 ((t.len : Int) - (1:Int))) out_0v2 (-1:Int)) := by kernel_rfl
def f49_step3 (K : List PA → Prop) (X3 : St → Prop) (t : (Sl RangeRow)) (opacity : Int) (iv3 : Int) (out_0v3 : Int) (out_1v3 : Int) : Prop :=
  (condP (decide (iv3 ≥ (0:Int)))
   (((0 ≤ iv3 ∧ iv3 < (t.len : Int))) ∧
   (condP (decide ((t.get iv3.toNat).Range.Low ≥ opacity))
    (((0 ≤ iv3 ∧ iv3 < (t.len : Int))) ∧
    (X3 (f49_g3 t opacity (w64 (iv3 - (1:Int))) out_0v3 ((t.get iv3.toNat).Energy))))
    (X3 (f49_g3 t opacity (w64 (iv3 - (1:Int))) out_0v3 out_1v3))))
   (K [.agg [.int .i64 out_0v3, .int .i64 out_1v3]]))
theorem f49_stepeq3 (K : List PA → Prop) (X3 : St → Prop) (t : (Sl RangeRow)) (opacity : Int) (iv3 : Int) (out_0v3 : Int) (out_1v3 : Int) :
  vc Try.prog G49 ann49 (cd (cdF Try.f49 [1, 1, 1, 1, 0, 1, 0]) [0]) (loopK Try.prog ann49 10 X3 (blockK 2 (sqK Try.prog G49 ann49 (cdF Try.f49 [1, 1, 1, 1, 1]) (bodyK Try.prog Try.f49 K)))) (f49_g3 t opacity iv3 out_0v3 out_1v3) =
  f49_step3 K X3 t opacity iv3 out_0v3 out_1v3 := by kernel_rfl
theorem f49_loop3 (K : List PA → Prop) (t : (Sl RangeRow)) (opacity : Int) (iv3 : Int) (out_0v3 : Int) (out_1v3 : Int)
  (h : ∀ X3 : St → Prop, (∀ (iv3 : Int) (out_0v3 : Int) (out_1v3 : Int), f49_step3 K X3 t opacity iv3 out_0v3 out_1v3 → X3 (f49_g3 t opacity iv3 out_0v3 out_1v3)) → X3 (f49_g3 t opacity iv3 out_0v3 out_1v3)) :
  f49_at3 K t opacity iv3 out_0v3 out_1v3 := by
  have e : f49_at3 K t opacity iv3 out_0v3 out_1v3 = (∀ X : St → Prop, (∀ s, vc Try.prog G49 ann49 (cd (cdF Try.f49 [1, 1, 1, 1, 0, 1, 0]) [0]) (loopK Try.prog ann49 10 X (blockK 2 (sqK Try.prog G49 ann49 (cdF Try.f49 [1, 1, 1, 1, 1]) (bodyK Try.prog Try.f49 K)))) s → X s) → X (f49_g3 t opacity iv3 out_0v3 out_1v3)) := by kernel_rfl
  refine ofEq e ?_
  intro X hX
  refine h X ?_
  intro iv3 out_0v3 out_1v3 hs
  refine hX _ ?_
  have e2 := f49_stepeq3 K X t opacity iv3 out_0v3 out_1v3
  rw [e2]
  exact hs
abbrev R49 := Span
abbrev e49 (r : Span) : List PA := [.agg [.int .i64 r.Low, .int .i64 r.High]]
attribute [irreducible] f49_at0 f49_at1 f49_at2 f49_at3
def s49_st3 (t : (Sl RangeRow)) (opacity : Int) (S3 : Int → Int → Int → Span) (iv3 : Int) (out_0v3 : Int) (out_1v3 : Int) : Span :=
  (cond (decide (iv3 ≥ (0:Int)))
   (cond (decide ((t.get iv3.toNat).Range.Low ≥ opacity))
    (S3 (w64 (iv3 - (1:Int))) out_0v3 ((t.get iv3.toNat).Energy))
    (S3 (w64 (iv3 - (1:Int))) out_0v3 out_1v3))
   (⟨out_0v3, out_1v3⟩ : Span))
def p49_st3 (t : (Sl RangeRow)) (opacity : Int) (P3 : Int → Int → Int → Bool) (iv3 : Int) (out_0v3 : Int) (out_1v3 : Int) : Bool :=
  (cond (decide (iv3 ≥ (0:Int)))
   (decide ((0 ≤ iv3 ∧ iv3 < (t.len : Int))) &&
   (cond (decide ((t.get iv3.toNat).Range.Low ≥ opacity))
    (decide ((0 ≤ iv3 ∧ iv3 < (t.len : Int))) &&
    (P3 (w64 (iv3 - (1:Int))) out_0v3 ((t.get iv3.toNat).Energy)))
    (P3 (w64 (iv3 - (1:Int))) out_0v3 out_1v3)))
   true)
def s49_lp3 (t : (Sl RangeRow)) (opacity : Int) : Nat → Int → Int → Int → Span
  | 0 => fun _ _ _ => default
  | k + 1 => s49_st3 t opacity (s49_lp3 t opacity k)
def p49_lp3 (t : (Sl RangeRow)) (opacity : Int) : Nat → Int → Int → Int → Bool
  | 0 => fun _ _ _ => false
  | k + 1 => p49_st3 t opacity (p49_lp3 t opacity k)
def s49_at3 (t : (Sl RangeRow)) (opacity : Int) (iv3 : Int) (out_0v3 : Int) (out_1v3 : Int) : Span := s49_lp3 t opacity Fuel iv3 out_0v3 out_1v3
def p49_at3 (t : (Sl RangeRow)) (opacity : Int) (iv3 : Int) (out_0v3 : Int) (out_1v3 : Int) : Bool := p49_lp3 t opacity Fuel iv3 out_0v3 out_1v3
theorem q49_at3 (K : List PA → Prop) (t : (Sl RangeRow)) (opacity : Int) (iv3 : Int) (out_0v3 : Int) (out_1v3 : Int) (hs : p49_at3 t opacity iv3 out_0v3 out_1v3 = true) (hk : K (e49 (s49_at3 t opacity iv3 out_0v3 out_1v3))) : f49_at3 K t opacity iv3 out_0v3 out_1v3 := by
  refine f49_loop3 K t opacity iv3 out_0v3 out_1v3 ?_
  intro X3 hstep
  have key : ∀ (k : Nat) (iv3 : Int) (out_0v3 : Int) (out_1v3 : Int), p49_lp3 t opacity k iv3 out_0v3 out_1v3 = true → K (e49 (s49_lp3 t opacity k iv3 out_0v3 out_1v3)) → X3 (f49_g3 t opacity iv3 out_0v3 out_1v3) := by
    intro k
    induction k with
    | zero => intro iv3 out_0v3 out_1v3 hs; exact absurd hs Bool.false_ne_true
    | succ k ih =>
      intro iv3 out_0v3 out_1v3 hs hk
      refine hstep iv3 out_0v3 out_1v3 ?_
      have hs : p49_st3 t opacity (p49_lp3 t opacity k) iv3 out_0v3 out_1v3 = true := hs
      have hk : K (e49 (s49_st3 t opacity (s49_lp3 t opacity k) iv3 out_0v3 out_1v3)) := hk
      unfold p49_st3 at hs
      unfold s49_st3 at hk
      generalize s49_lp3 t opacity k = S3 at hk ih
      generalize p49_lp3 t opacity k = P3 at hs ih
      have hX3 := ih
      exact (condB_go (K := fun r => K (e49 r))
       (fun hs hk => (andK hs fun hc hs => ⟨hc, (condB_go (K := fun r => K (e49 r))
        (fun hs hk => (andK hs fun hc hs => ⟨hc, (hX3 (w64 (iv3 - (1:Int))) out_0v3 ((t.get iv3.toNat).Energy) hs hk)⟩))
        (fun hs hk => (hX3 (w64 (iv3 - (1:Int))) out_0v3 out_1v3 hs hk)) hs hk)⟩))
       (fun hs hk => hk) hs hk)
  exact key _ iv3 out_0v3 out_1v3 hs hk
def s49_at2 (t : (Sl RangeRow)) (opacity : Int) (out_0v2 : Int) : Span :=
  (s49_at3 t opacity (w64 ((t.len : Int) - (1:Int))) out_0v2 (-1:Int))
def p49_at2 (t : (Sl RangeRow)) (opacity : Int) (out_0v2 : Int) : Bool :=
  (p49_at3 t opacity (w64 ((t.len : Int) - (1:Int))) out_0v2 (-1:Int))
theorem q49_at2 (K : List PA → Prop) (t : (Sl RangeRow)) (opacity : Int) (out_0v2 : Int) (hs : p49_at2 t opacity out_0v2 = true) (hk : K (e49 (s49_at2 t opacity out_0v2))) : f49_at2 K t opacity out_0v2 := by
  refine ofEq (f49_eq2 K t opacity out_0v2) ?_
  unfold p49_at2 at hs
  unfold s49_at2 at hk
  exact (q49_at3 K t opacity (w64 ((t.len : Int) - (1:Int))) out_0v2 (-1:Int) hs hk)
def s49_st1 (t : (Sl RangeRow)) (opacity : Int) (S1 : Int → Int → Span) (iv1 : Int) (out_0v1 : Int) : Span :=
  (cond (decide (iv1 < (t.len : Int)))
   (cond (decide ((t.get iv1.toNat).Range.High < opacity))
    (S1 (w64 (iv1 + (1:Int))) (w64 ((t.get iv1.toNat).Energy + (1:Int))))
    (S1 (w64 (iv1 + (1:Int))) out_0v1))
   (s49_at2 t opacity out_0v1))
def p49_st1 (t : (Sl RangeRow)) (opacity : Int) (P1 : Int → Int → Bool) (iv1 : Int) (out_0v1 : Int) : Bool :=
  (cond (decide (iv1 < (t.len : Int)))
   (decide ((0 ≤ iv1 ∧ iv1 < (t.len : Int))) &&
   (cond (decide ((t.get iv1.toNat).Range.High < opacity))
    (decide ((0 ≤ iv1 ∧ iv1 < (t.len : Int))) &&
    (P1 (w64 (iv1 + (1:Int))) (w64 ((t.get iv1.toNat).Energy + (1:Int)))))
    (P1 (w64 (iv1 + (1:Int))) out_0v1)))
   (p49_at2 t opacity out_0v1))
def s49_lp1 (t : (Sl RangeRow)) (opacity : Int) : Nat → Int → Int → Span
  | 0 => fun _ _ => default
  | k + 1 => s49_st1 t opacity (s49_lp1 t opacity k)
def p49_lp1 (t : (Sl RangeRow)) (opacity : Int) : Nat → Int → Int → Bool
  | 0 => fun _ _ => false
  | k + 1 => p49_st1 t opacity (p49_lp1 t opacity k)
def s49_at1 (t : (Sl RangeRow)) (opacity : Int) (iv1 : Int) (out_0v1 : Int) : Span := s49_lp1 t opacity Fuel iv1 out_0v1
def p49_at1 (t : (Sl RangeRow)) (opacity : Int) (iv1 : Int) (out_0v1 : Int) : Bool := p49_lp1 t opacity Fuel iv1 out_0v1
theorem q49_at1 (K : List PA → Prop) (t : (Sl RangeRow)) (opacity : Int) (iv1 : Int) (out_0v1 : Int) (hs : p49_at1 t opacity iv1 out_0v1 = true) (hk : K (e49 (s49_at1 t opacity iv1 out_0v1))) : f49_at1 K t opacity iv1 out_0v1 := by
  refine f49_loop1 K t opacity iv1 out_0v1 ?_
  intro X1 hstep
  have key : ∀ (k : Nat) (iv1 : Int) (out_0v1 : Int), p49_lp1 t opacity k iv1 out_0v1 = true → K (e49 (s49_lp1 t opacity k iv1 out_0v1)) → X1 (f49_g1 t opacity iv1 out_0v1) := by
    intro k
    induction k with
    | zero => intro iv1 out_0v1 hs; exact absurd hs Bool.false_ne_true
    | succ k ih =>
      intro iv1 out_0v1 hs hk
      refine hstep iv1 out_0v1 ?_
      have hs : p49_st1 t opacity (p49_lp1 t opacity k) iv1 out_0v1 = true := hs
      have hk : K (e49 (s49_st1 t opacity (s49_lp1 t opacity k) iv1 out_0v1)) := hk
      unfold p49_st1 at hs
      unfold s49_st1 at hk
      generalize s49_lp1 t opacity k = S1 at hk ih
      generalize p49_lp1 t opacity k = P1 at hs ih
      have hX1 := ih
      exact (condB_go (K := fun r => K (e49 r))
       (fun hs hk => (andK hs fun hc hs => ⟨hc, (condB_go (K := fun r => K (e49 r))
        (fun hs hk => (andK hs fun hc hs => ⟨hc, (hX1 (w64 (iv1 + (1:Int))) (w64 ((t.get iv1.toNat).Energy + (1:Int))) hs hk)⟩))
        (fun hs hk => (hX1 (w64 (iv1 + (1:Int))) out_0v1 hs hk)) hs hk)⟩))
       (fun hs hk => (q49_at2 K t opacity out_0v1 hs hk)) hs hk)
  exact key _ iv1 out_0v1 hs hk
def s49_at0 (t : (Sl RangeRow)) (opacity : Int) : Span :=
  (s49_at1 t opacity (0:Int) (1:Int))
def p49_at0 (t : (Sl RangeRow)) (opacity : Int) : Bool :=
  (p49_at1 t opacity (0:Int) (1:Int))
theorem q49_at0 (K : List PA → Prop) (t : (Sl RangeRow)) (opacity : Int) (hs : p49_at0 t opacity = true) (hk : K (e49 (s49_at0 t opacity))) : f49_at0 K t opacity := by
  refine ofEq (f49_eq0 K t opacity) ?_
  unfold p49_at0 at hs
  unfold s49_at0 at hk
  exact (q49_at1 K t opacity (0:Int) (1:Int) hs hk)
def s49 (t : (Sl RangeRow)) (opacity : Int) : Span :=
  (cond (opacity == (0:Int))
   (⟨(1:Int), (1:Int)⟩ : Span)
   (s49_at0 t opacity))
def p49 (t : (Sl RangeRow)) (opacity : Int) : Bool :=
  (cond (opacity == (0:Int))
   true
   (p49_at0 t opacity))
theorem q49 (t : (Sl RangeRow)) (opacity : Int) (K : List PA → Prop) (hs : p49 t opacity = true) (hk : K (e49 (s49 t opacity))) : vcFun Try.prog G49 ann49 49 [.one (.sl t.len 3 (fun i => enc_42 (t.get i))), .one (.int .i64 opacity)] K := by
  refine ofEq (f49_top t opacity K) ?_
  unfold p49 at hs
  unfold s49 at hk
  exact (condB_go (K := fun r => K (e49 r))
   (fun hs hk => hk)
   (fun hs hk => (q49_at0 K t opacity hs hk)) hs hk)
def ctr49 : List PA → COut
  | [.one (.sl a0_n a0_s a0_g), .one (.int .i64 a1)] => .det (IsE enc_42 3 a0_s a0_g ∧ p49 (⟨a0_n, decF_42 a0_g⟩ : (Sl RangeRow)) a1 = true) [.agg [.int .i64 ((s49 (⟨a0_n, decF_42 a0_g⟩ : (Sl RangeRow)) a1).Low), .int .i64 ((s49 (⟨a0_n, decF_42 a0_g⟩ : (Sl RangeRow)) a1).High)]]
  | _ => .no
theorem call49 : Callable Try.prog 49 := ⟨_, rfl, rfl, by kernel_rfl⟩
theorem ok49 : Ok Try.prog 49 ctr49 := ok_tab okT49 call49 fun args K h => by
  unfold ctr49 at h
  split at h
  · rename_i a0_n a0_s a0_g a1
    obtain ⟨⟨⟨rfl, a0_f, rfl⟩, hs⟩, hk⟩ := h
    try rw [decF_enc_42 a0_f] at hs
    try rw [decF_enc_42 a0_f] at hk
    exact ⟨(fun _ _ => []), (fun _ => false), ann49, q49 (⟨a0_n, a0_f⟩ : (Sl RangeRow)) a1 K hs hk⟩
  · exact h.elim
abbrev T47 : Tabs := ((Tabs.nil.addF 46 ctr46).addF 49 ctr49)
theorem okT47 : TabsOk Try.prog T47 := ((TabsOk.nil.addF ok46).addF ok49)
abbrev G47 : Ctrs := csm T47 (fun _ _ => []) (fun _ => false)
def ann47 : Ann := ⟨18, [(0, ⟨[1, 2, 3, 4, 8], [4, 8], [], [], []⟩), (1, ⟨[8], [8], [], [], []⟩)],
  [],
  [],
  [], []⟩
theorem f47_top (s : Sky) (t : (Sl RangeRow)) (bin : Int) (opacity : Int) (K : List PA → Prop) :
  vcFun Try.prog G47 ann47 47 [.agg [.int .i64 s.Parts, .sl s.Bins.len 1 (fun i => enc_32 (s.Bins.get i)), .int .i64 s.Beta.Low, .int .i64 s.Beta.High, .int .i64 s.Alpha.Low, .int .i64 s.Alpha.High], .one (.sl t.len 3 (fun i => enc_42 (t.get i))), .one (.int .i64 bin), .one (.int .i64 opacity)] K =
  (((0 ≤ bin ∧ bin < (s.Bins.len : Int))) ∧
  ((IsE enc_42 3 3 (fun i => enc_42 (t.get i)) ∧ (p49 t opacity = true)) ∧
  ((IsE enc_44 3 3 (fun i => enc_44 ((s.Bins.get bin.toNat).get i)) ∧ (p46 (s.Bins.get bin.toNat) (s49 t opacity) = true)) ∧
  (K [.agg [.int .i64 ((s46 (s.Bins.get bin.toNat) (s49 t opacity)).Low), .int .i64 ((s46 (s.Bins.get bin.toNat) (s49 t opacity)).High)]])))) := by kernel_rfl
abbrev R47 := Span
abbrev e47 (r : Span) : List PA := [.agg [.int .i64 r.Low, .int .i64 r.High]]
def s47 (s : Sky) (t : (Sl RangeRow)) (bin : Int) (opacity : Int) : Span :=
  (s46 (s.Bins.get bin.toNat) (s49 t opacity))
def p47 (s : Sky) (t : (Sl RangeRow)) (bin : Int) (opacity : Int) : Bool :=
  (decide ((0 ≤ bin ∧ bin < (s.Bins.len : Int))) &&
  (decide ((p49 t opacity = true)) &&
  (decide ((p46 (s.Bins.get bin.toNat) (s49 t opacity) = true)) &&
  true)))
theorem q47 (s : Sky) (t : (Sl RangeRow)) (bin : Int) (opacity : Int) (K : List PA → Prop) (hs : p47 s t bin opacity = true) (hk : K (e47 (s47 s t bin opacity))) : vcFun Try.prog G47 ann47 47 [.agg [.int .i64 s.Parts, .sl s.Bins.len 1 (fun i => enc_32 (s.Bins.get i)), .int .i64 s.Beta.Low, .int .i64 s.Beta.High, .int .i64 s.Alpha.Low, .int .i64 s.Alpha.High], .one (.sl t.len 3 (fun i => enc_42 (t.get i))), .one (.int .i64 bin), .one (.int .i64 opacity)] K := by
  refine ofEq (f47_top s t bin opacity K) ?_
  unfold p47 at hs
  unfold s47 at hk
  exact (andK hs fun hc hs => ⟨hc, (andK hs fun hc hs => ⟨⟨isE, hc⟩, (andK hs fun hc hs => ⟨⟨isE, hc⟩, hk⟩)⟩)⟩)
def ctr47 : List PA → COut
  | [.agg [.int .i64 a0_Parts, .sl a0_Bins_n a0_Bins_s a0_Bins_g, .int .i64 a0_Beta_Low, .int .i64 a0_Beta_High, .int .i64 a0_Alpha_Low, .int .i64 a0_Alpha_High], .one (.sl a1_n a1_s a1_g), .one (.int .i64 a2), .one (.int .i64 a3)] => .det (IsE enc_32 1 a0_Bins_s a0_Bins_g ∧ IsE enc_42 3 a1_s a1_g ∧ p47 (⟨a0_Parts, (⟨a0_Bins_n, decF_32 a0_Bins_g⟩ : (Sl (Sl FluxRow))), (⟨a0_Beta_Low, a0_Beta_High⟩ : Span), (⟨a0_Alpha_Low, a0_Alpha_High⟩ : Span)⟩ : Sky) (⟨a1_n, decF_42 a1_g⟩ : (Sl RangeRow)) a2 a3 = true) [.agg [.int .i64 ((s47 (⟨a0_Parts, (⟨a0_Bins_n, decF_32 a0_Bins_g⟩ : (Sl (Sl FluxRow))), (⟨a0_Beta_Low, a0_Beta_High⟩ : Span), (⟨a0_Alpha_Low, a0_Alpha_High⟩ : Span)⟩ : Sky) (⟨a1_n, decF_42 a1_g⟩ : (Sl RangeRow)) a2 a3).Low), .int .i64 ((s47 (⟨a0_Parts, (⟨a0_Bins_n, decF_32 a0_Bins_g⟩ : (Sl (Sl FluxRow))), (⟨a0_Beta_Low, a0_Beta_High⟩ : Span), (⟨a0_Alpha_Low, a0_Alpha_High⟩ : Span)⟩ : Sky) (⟨a1_n, decF_42 a1_g⟩ : (Sl RangeRow)) a2 a3).High)]]
  | _ => .no
theorem call47 : Callable Try.prog 47 := ⟨_, rfl, rfl, by kernel_rfl⟩
theorem ok47 : Ok Try.prog 47 ctr47 := ok_tab okT47 call47 fun args K h => by
  unfold ctr47 at h
  split at h
  · rename_i a0_Parts a0_Bins_n a0_Bins_s a0_Bins_g a0_Beta_Low a0_Beta_High a0_Alpha_Low a0_Alpha_High a1_n a1_s a1_g a2 a3
    obtain ⟨⟨⟨rfl, a0_Bins_f, rfl⟩, ⟨rfl, a1_f, rfl⟩, hs⟩, hk⟩ := h
    try rw [decF_enc_32 a0_Bins_f] at hs
    try rw [decF_enc_32 a0_Bins_f] at hk
    try rw [decF_enc_42 a1_f] at hs
    try rw [decF_enc_42 a1_f] at hk
    exact ⟨(fun _ _ => []), (fun _ => false), ann47, q47 (⟨a0_Parts, (⟨a0_Bins_n, a0_Bins_f⟩ : (Sl (Sl FluxRow))), (⟨a0_Beta_Low, a0_Beta_High⟩ : Span), (⟨a0_Alpha_Low, a0_Alpha_High⟩ : Span)⟩ : Sky) (⟨a1_n, a1_f⟩ : (Sl RangeRow)) a2 a3 K hs hk⟩
  · exact h.elim
end Go.Proofs
namespace Go.Proofs
open Go Go.Pm
set_option maxRecDepth 100000
set_option linter.unusedVariables false
attribute [local irreducible] Go.Pm.vcFun Go.Pm.vc Go.Pm.vcIter
abbrev T40 : Tabs := (Tabs.nil.addF 49 ctr49)
theorem okT40 : TabsOk Try.prog T40 := (TabsOk.nil.addF ok49)
abbrev G40 : Ctrs := csm T40 (fun _ _ => []) (fun _ => false)
def ann40 : Ann := ⟨121, [(0, ⟨[1, 2, 3, 5, 9, 10], [5, 9, 10], [], [], []⟩), (1, ⟨[2, 5, 9, 10, 12], [5, 9, 10, 12], [], [], []⟩), (2, ⟨[2, 5, 9, 10, 12, 13], [5, 9, 10, 12, 13], [], [], []⟩), (3, ⟨[2, 5, 9, 10, 12, 13, 14], [5, 9, 10, 12, 13], [], [], []⟩), (4, ⟨[2, 5, 9, 10, 12, 13, 14, 31], [5, 9, 10, 12, 13, 118], [], [], []⟩), (5, ⟨[2, 5, 9, 10, 12, 13, 14], [5, 9, 10, 12, 13, 118], [], [], []⟩), (6, ⟨[2, 5, 9, 10, 12, 13, 14, 15], [5, 9, 10, 12, 13, 39, 118], [], [], []⟩), (7, ⟨[2, 5, 9, 10, 12, 13, 14, 15, 16], [5, 9, 10, 12, 13, 39, 118], [], [], []⟩), (8, ⟨[2, 5, 9, 10, 12, 13, 14, 15, 16, 48], [5, 9, 10, 12, 13, 39, 118], [], [], []⟩), (9, ⟨[2, 5, 9, 10, 12, 13, 14, 15, 16], [5, 9, 10, 12, 13, 39, 118], [], [], []⟩), (10, ⟨[2, 5, 9, 10, 12, 13, 14, 15, 16, 58], [5, 9, 10, 12, 13, 39, 118], [], [], []⟩), (11, ⟨[2, 5, 9, 10, 12, 13, 14, 15, 16], [5, 9, 10, 12, 13, 39, 118], [], [], []⟩), (12, ⟨[2, 5, 9, 10, 12, 13, 14, 15, 16, 85], [5, 9, 10, 12, 13, 39, 118], [], [], []⟩), (13, ⟨[2, 5, 9, 10, 12, 13, 14, 15, 16], [5, 9, 10, 12, 13, 39, 118], [], [], []⟩), (14, ⟨[2, 5, 9, 10, 12, 13, 14, 15, 16, 112], [5, 9, 10, 12, 13, 39, 118], [], [], []⟩), (15, ⟨[10, 11], [10], [], [], []⟩), (16, ⟨[2, 5, 9, 10, 12, 13, 14], [5, 9, 10, 12, 13, 118], [], [], []⟩), (17, ⟨[10, 11], [10, 118], [], [], []⟩)],
  [(4, ⟨[2, 5, 9, 10, 12, 13, 14], [5, 9, 10, 12, 13, 118], [], [(13, 1, 118, 32, fun _ => enc_32 default)], []⟩), (8, ⟨[2, 5, 9, 10, 12, 13, 14, 15, 16], [5, 9, 10, 12, 13, 39, 118], [], [], []⟩)],
  [(2, ⟨[2, 5, 9, 10, 12], [5, 9, 10, 12], [], [], []⟩), (12, ⟨[2, 5, 9, 10, 12, 13, 14, 15, 16], [5, 9, 10, 12, 13, 39, 118], [], [], []⟩), (14, ⟨[2, 5, 9, 10, 12, 13, 14, 15, 16], [5, 9, 10, 12, 13, 39, 118], [], [], []⟩)],
  [], []⟩
def f40_g0 (s : Sky) (bin : Int) (rates : Span) (s_1v0_n : Nat) (s_1v0_g : Nat → List PV) (x_0v0 : Int) (x_1v0 : Int) : St := ⟨[(2, .one (.c (.p (.int .i64 bin)))), (5, .one (.c (.ptr 5 0))), (9, .one (.c (.ptr 9 0))), (10, .one (.c (.ptr 10 0))), (12, .one (.c (.ptr 12 0)))], [(5, .box 26 [.p (.int .i64 s.Parts), .p (.sl s_1v0_n 1 s_1v0_g), .p (.int .i64 s.Beta.Low), .p (.int .i64 s.Beta.High), .p (.int .i64 s.Alpha.Low), .p (.int .i64 s.Alpha.High)]), (9, .box 24 [.p (.int .i64 rates.Low), .p (.int .i64 rates.High)]), (10, .box 26 [.p (.int .i64 (0:Int)), .p (.nils), .p (.int .i64 (0:Int)), .p (.int .i64 (0:Int)), .p (.int .i64 (0:Int)), .p (.int .i64 (0:Int))]), (12, .box 24 [.p (.int .i64 x_0v0), .p (.int .i64 x_1v0)])], []⟩
def f40_at0 (K : List PA → Prop) (s : Sky) (bin : Int) (rates : Span) (s_1v0_n : Nat) (s_1v0_g : Nat → List PV) (x_0v0 : Int) (x_1v0 : Int) : Prop := vc Try.prog G40 ann40 (cdF Try.f40 [1, 1]) (bodyK Try.prog Try.f40 K) (f40_g0 s bin rates s_1v0_n s_1v0_g x_0v0 x_1v0)
def f40_g1 (s : Sky) (bin : Int) (rates : Span) (x_0v0 : Int) (x_1v0 : Int) (iv1 : Int) (s_1v1_n : Nat) (s_1v1_g : Nat → List PV) (v118v1_n : Nat) (v118v1_g : Nat → List PV) : St := ⟨[(2, .one (.c (.p (.int .i64 bin)))), (5, .one (.c (.ptr 5 0))), (9, .one (.c (.ptr 9 0))), (10, .one (.c (.ptr 10 0))), (12, .one (.c (.ptr 12 0))), (13, .one (.c (.ptr 13 0))), (14, .one (.c (.p (.int .i64 iv1))))], [(5, .box 26 [.p (.int .i64 s.Parts), .p (.sl s_1v1_n 1 s_1v1_g), .p (.int .i64 s.Beta.Low), .p (.int .i64 s.Beta.High), .p (.int .i64 s.Alpha.Low), .p (.int .i64 s.Alpha.High)]), (9, .box 24 [.p (.int .i64 rates.Low), .p (.int .i64 rates.High)]), (10, .box 26 [.p (.int .i64 (0:Int)), .p (.nils), .p (.int .i64 (0:Int)), .p (.int .i64 (0:Int)), .p (.int .i64 (0:Int)), .p (.int .i64 (0:Int))]), (12, .box 24 [.p (.int .i64 x_0v0), .p (.int .i64 x_1v0)]), (13, .box 26 [.p (.int .i64 s.Parts), .vec 118, .p (.int .i64 s.Beta.Low), .p (.int .i64 s.Beta.High), .p (.int .i64 s.Alpha.Low), .p (.int .i64 s.Alpha.High)]), (118, .vec 32 1 24 v118v1_n v118v1_g)], []⟩
def f40_at1 (K : List PA → Prop) (s : Sky) (bin : Int) (rates : Span) (x_0v0 : Int) (x_1v0 : Int) (iv1 : Int) (s_1v1_n : Nat) (s_1v1_g : Nat → List PV) (v118v1_n : Nat) (v118v1_g : Nat → List PV) : Prop := vc Try.prog G40 ann40 (cdF Try.f40 [1, 1, 1, 0, 1, 0]) (blockK 0 (sqK Try.prog G40 ann40 (cdF Try.f40 [1, 1, 1, 1]) (bodyK Try.prog Try.f40 K))) (f40_g1 s bin rates x_0v0 x_1v0 iv1 s_1v1_n s_1v1_g v118v1_n v118v1_g)
def f40_g2 (s : Sky) (bin : Int) (rates : Span) (x_0v0 : Int) (x_1v0 : Int) (iv2 : Int) (kv2 : Int) (s_1v2_n : Nat) (s_1v2_g : Nat → List PV) (v39v2_n : Nat) (v39v2_g : Nat → List PV) (v118v2_n : Nat) (v118v2_g : Nat → List PV) : St := ⟨[(2, .one (.c (.p (.int .i64 bin)))), (5, .one (.c (.ptr 5 0))), (9, .one (.c (.ptr 9 0))), (10, .one (.c (.ptr 10 0))), (12, .one (.c (.ptr 12 0))), (13, .one (.c (.ptr 13 0))), (14, .one (.c (.p (.int .i64 iv2)))), (15, .one (.c (.vec 39))), (16, .one (.c (.p (.int .i64 kv2))))], [(5, .box 26 [.p (.int .i64 s.Parts), .p (.sl s_1v2_n 1 s_1v2_g), .p (.int .i64 s.Beta.Low), .p (.int .i64 s.Beta.High), .p (.int .i64 s.Alpha.Low), .p (.int .i64 s.Alpha.High)]), (9, .box 24 [.p (.int .i64 rates.Low), .p (.int .i64 rates.High)]), (10, .box 26 [.p (.int .i64 (0:Int)), .p (.nils), .p (.int .i64 (0:Int)), .p (.int .i64 (0:Int)), .p (.int .i64 (0:Int)), .p (.int .i64 (0:Int))]), (12, .box 24 [.p (.int .i64 x_0v0), .p (.int .i64 x_1v0)]), (13, .box 26 [.p (.int .i64 s.Parts), .vec 118, .p (.int .i64 s.Beta.Low), .p (.int .i64 s.Beta.High), .p (.int .i64 s.Alpha.Low), .p (.int .i64 s.Alpha.High)]), (39, .vec 44 3 24 v39v2_n v39v2_g), (118, .vec 32 1 24 v118v2_n v118v2_g)], []⟩
def f40_at2 (K : List PA → Prop) (X1 : St → Prop) (s : Sky) (bin : Int) (rates : Span) (x_0v0 : Int) (x_1v0 : Int) (iv2 : Int) (kv2 : Int) (s_1v2_n : Nat) (s_1v2_g : Nat → List PV) (v39v2_n : Nat) (v39v2_g : Nat → List PV) (v118v2_n : Nat) (v118v2_g : Nat → List PV) : Prop := vc Try.prog G40 ann40 (cdF Try.f40 [1, 1, 1, 0, 1, 0, 0, 1, 0, 0, 1, 0, 1, 0]) (blockK 2 (sqK Try.prog G40 ann40 (cdF Try.f40 [1, 1, 1, 0, 1, 0, 0, 1, 0, 0, 1, 1]) (blockK 1 (sqK Try.prog G40 ann40 (cdF Try.f40 [1, 1, 1, 0, 1, 0, 0, 1, 1]) (loopK Try.prog ann40 4 X1 (blockK 0 (sqK Try.prog G40 ann40 (cdF Try.f40 [1, 1, 1, 1]) (bodyK Try.prog Try.f40 K)))))))) (f40_g2 s bin rates x_0v0 x_1v0 iv2 kv2 s_1v2_n s_1v2_g v39v2_n v39v2_g v118v2_n v118v2_g)
def f40_g3 (s : Sky) (bin : Int) (rates : Span) (x_0v0 : Int) (x_1v0 : Int) (iv3 : Int) (kv3 : Int) (s_1v3_n : Nat) (s_1v3_g : Nat → List PV) (v39v3_n : Nat) (v39v3_g : Nat → List PV) (v118v3_n : Nat) (v118v3_g : Nat → List PV) : St := ⟨[(2, .one (.c (.p (.int .i64 bin)))), (5, .one (.c (.ptr 5 0))), (9, .one (.c (.ptr 9 0))), (10, .one (.c (.ptr 10 0))), (12, .one (.c (.ptr 12 0))), (13, .one (.c (.ptr 13 0))), (14, .one (.c (.p (.int .i64 iv3)))), (15, .one (.c (.vec 39))), (16, .one (.c (.p (.int .i64 kv3))))], [(5, .box 26 [.p (.int .i64 s.Parts), .p (.sl s_1v3_n 1 s_1v3_g), .p (.int .i64 s.Beta.Low), .p (.int .i64 s.Beta.High), .p (.int .i64 s.Alpha.Low), .p (.int .i64 s.Alpha.High)]), (9, .box 24 [.p (.int .i64 rates.Low), .p (.int .i64 rates.High)]), (10, .box 26 [.p (.int .i64 (0:Int)), .p (.nils), .p (.int .i64 (0:Int)), .p (.int .i64 (0:Int)), .p (.int .i64 (0:Int)), .p (.int .i64 (0:Int))]), (12, .box 24 [.p (.int .i64 x_0v0), .p (.int .i64 x_1v0)]), (13, .box 26 [.p (.int .i64 s.Parts), .vec 118, .p (.int .i64 s.Beta.Low), .p (.int .i64 s.Beta.High), .p (.int .i64 s.Alpha.Low), .p (.int .i64 s.Alpha.High)]), (39, .vec 44 3 24 v39v3_n v39v3_g), (118, .vec 32 1 24 v118v3_n v118v3_g)], []⟩
def f40_at3 (K : List PA → Prop) (X1 : St → Prop) (X2 : St → Prop) (s : Sky) (bin : Int) (rates : Span) (x_0v0 : Int) (x_1v0 : Int) (iv3 : Int) (kv3 : Int) (s_1v3_n : Nat) (s_1v3_g : Nat → List PV) (v39v3_n : Nat) (v39v3_g : Nat → List PV) (v118v3_n : Nat) (v118v3_g : Nat → List PV) : Prop := vc Try.prog G40 ann40 (cdF Try.f40 [1, 1, 1, 0, 1, 0, 0, 1, 0, 0, 1, 0, 1, 0, 0, 1, 0, 0, 1]) (blockK 3 (sqK Try.prog G40 ann40 (cdF Try.f40 [1, 1, 1, 0, 1, 0, 0, 1, 0, 0, 1, 0, 1, 0, 0, 1, 1]) (loopK Try.prog ann40 8 X2 (blockK 2 (sqK Try.prog G40 ann40 (cdF Try.f40 [1, 1, 1, 0, 1, 0, 0, 1, 0, 0, 1, 1]) (blockK 1 (sqK Try.prog G40 ann40 (cdF Try.f40 [1, 1, 1, 0, 1, 0, 0, 1, 1]) (loopK Try.prog ann40 4 X1 (blockK 0 (sqK Try.prog G40 ann40 (cdF Try.f40 [1, 1, 1, 1]) (bodyK Try.prog Try.f40 K))))))))))) (f40_g3 s bin rates x_0v0 x_1v0 iv3 kv3 s_1v3_n s_1v3_g v39v3_n v39v3_g v118v3_n v118v3_g)
def f40_g4 (s : Sky) (bin : Int) (rates : Span) (x_0v0 : Int) (x_1v0 : Int) (iv4 : Int) (kv4 : Int) (s_1v4_n : Nat) (s_1v4_g : Nat → List PV) (v39v4_n : Nat) (v39v4_g : Nat → List PV) (v118v4_n : Nat) (v118v4_g : Nat → List PV) : St := ⟨[(2, .one (.c (.p (.int .i64 bin)))), (5, .one (.c (.ptr 5 0))), (9, .one (.c (.ptr 9 0))), (10, .one (.c (.ptr 10 0))), (12, .one (.c (.ptr 12 0))), (13, .one (.c (.ptr 13 0))), (14, .one (.c (.p (.int .i64 iv4)))), (15, .one (.c (.vec 39))), (16, .one (.c (.p (.int .i64 kv4))))], [(5, .box 26 [.p (.int .i64 s.Parts), .p (.sl s_1v4_n 1 s_1v4_g), .p (.int .i64 s.Beta.Low), .p (.int .i64 s.Beta.High), .p (.int .i64 s.Alpha.Low), .p (.int .i64 s.Alpha.High)]), (9, .box 24 [.p (.int .i64 rates.Low), .p (.int .i64 rates.High)]), (10, .box 26 [.p (.int .i64 (0:Int)), .p (.nils), .p (.int .i64 (0:Int)), .p (.int .i64 (0:Int)), .p (.int .i64 (0:Int)), .p (.int .i64 (0:Int))]), (12, .box 24 [.p (.int .i64 x_0v0), .p (.int .i64 x_1v0)]), (13, .box 26 [.p (.int .i64 s.Parts), .vec 118, .p (.int .i64 s.Beta.Low), .p (.int .i64 s.Beta.High), .p (.int .i64 s.Alpha.Low), .p (.int .i64 s.Alpha.High)]), (39, .vec 44 3 24 v39v4_n v39v4_g), (118, .vec 32 1 24 v118v4_n v118v4_g)], []⟩
def f40_at4 (K : List PA → Prop) (X1 : St → Prop) (X2 : St → Prop) (s : Sky) (bin : Int) (rates : Span) (x_0v0 : Int) (x_1v0 : Int) (iv4 : Int) (kv4 : Int) (s_1v4_n : Nat) (s_1v4_g : Nat → List PV) (v39v4_n : Nat) (v39v4_g : Nat → List PV) (v118v4_n : Nat) (v118v4_g : Nat → List PV) : Prop := vc Try.prog G40 ann40 (cdF Try.f40 [1, 1, 1, 0, 1, 0, 0, 1, 0, 0, 1, 0, 1, 0, 0, 1, 0, 0, 1, 1]) (blockK 3 (sqK Try.prog G40 ann40 (cdF Try.f40 [1, 1, 1, 0, 1, 0, 0, 1, 0, 0, 1, 0, 1, 0, 0, 1, 1]) (loopK Try.prog ann40 8 X2 (blockK 2 (sqK Try.prog G40 ann40 (cdF Try.f40 [1, 1, 1, 0, 1, 0, 0, 1, 0, 0, 1, 1]) (blockK 1 (sqK Try.prog G40 ann40 (cdF Try.f40 [1, 1, 1, 0, 1, 0, 0, 1, 1]) (loopK Try.prog ann40 4 X1 (blockK 0 (sqK Try.prog G40 ann40 (cdF Try.f40 [1, 1, 1, 1]) (bodyK Try.prog Try.f40 K))))))))))) (f40_g4 s bin rates x_0v0 x_1v0 iv4 kv4 s_1v4_n s_1v4_g v39v4_n v39v4_g v118v4_n v118v4_g)
theorem f40_top (s : Sky) (t : (Sl RangeRow)) (bin : Int) (opacity : Int) (rates : Span) (K : List PA → Prop) :
  vcFun Try.prog G40 ann40 40 [.agg [.int .i64 s.Parts, .sl s.Bins.len 1 (fun i => enc_32 (s.Bins.get i)), .int .i64 s.Beta.Low, .int .i64 s.Beta.High, .int .i64 s.Alpha.Low, .int .i64 s.Alpha.High], .one (.sl t.len 3 (fun i => enc_42 (t.get i))), .one (.int .i64 bin), .one (.int .i64 opacity), .agg [.int .i64 rates.Low, .int .i64 rates.High]] K =
  ((IsE enc_42 3 3 (fun i => enc_42 (t.get i)) ∧ (p49 t opacity = true)) ∧
  (f40_at0 K s bin rates s.Bins.len (fun i => enc_32 (s.Bins.get i)) ((s49 t opacity).Low) ((s49 t opacity).High))) := by kernel_rfl
theorem f40_eq0 (K : List PA → Prop) (s : Sky) (bin : Int) (rates : Span) (s_1v0 : (Sl (Sl FluxRow))) (x_0v0 : Int) (x_1v0 : Int) :
  f40_at0 K s bin rates s_1v0.len (fun i => enc_32 (s_1v0.get i)) x_0v0 x_1v0 =
  (f40_at1 K s bin rates x_0v0 x_1v0 (0:Int) s_1v0.len (fun i => enc_32 (s_1v0.get i)) 0 (fun i => enc_32 ((fun _ => default) i))) := by kernel_rfl
def f40_step1 (K : List PA → Prop) (X1 : St → Prop) (s : Sky) (bin : Int) (rates : Span) (x_0v0 : Int) (x_1v0 : Int) (iv1 : Int) (s_1v1 : (Sl (Sl FluxRow))) (v118v1 : (Sl (Sl FluxRow))) : Prop :=
  (condP (decide (iv1 < (s_1v1.len : Int)))
   (((0 ≤ iv1 ∧ iv1 < (s_1v1.len : Int))) ∧
   ((((s_1v1.get iv1.toNat).len * 24 ≤ 140737488355328 ∧ (s_1v1.get iv1.toNat).len ≤ 9223372036854775807)) ∧
   (f40_at2 K X1 s bin rates x_0v0 x_1v0 iv1 (0:Int) s_1v1.len (fun i => enc_32 (s_1v1.get i)) ((s_1v1.get iv1.toNat).len) (fun i => enc_44 ((s_1v1.get iv1.toNat).get i)) v118v1.len (fun i => enc_32 (v118v1.get i)))))
   (K [.agg [.int .i64 s.Parts, .sl v118v1.len 1 (fun i => enc_32 (v118v1.get i)), .int .i64 s.Beta.Low, .int .i64 s.Beta.High, .int .i64 s.Alpha.Low, .int .i64 s.Alpha.High], .one (.bool true)]))
theorem f40_stepeq1 (K : List PA → Prop) (X1 : St → Prop) (s : Sky) (bin : Int) (rates : Span) (x_0v0 : Int) (x_1v0 : Int) (iv1 : Int) (s_1v1 : (Sl (Sl FluxRow))) (v118v1 : (Sl (Sl FluxRow))) :
  vc Try.prog G40 ann40 (cd (cdF Try.f40 [1, 1, 1, 0, 1, 0]) [0]) (loopK Try.prog ann40 4 X1 (blockK 0 (sqK Try.prog G40 ann40 (cdF Try.f40 [1, 1, 1, 1]) (bodyK Try.prog Try.f40 K)))) (f40_g1 s bin rates x_0v0 x_1v0 iv1 s_1v1.len (fun i => enc_32 (s_1v1.get i)) v118v1.len (fun i => enc_32 (v118v1.get i))) =
  f40_step1 K X1 s bin rates x_0v0 x_1v0 iv1 s_1v1 v118v1 := by kernel_rfl
theorem f40_loop1 (K : List PA → Prop) (s : Sky) (bin : Int) (rates : Span) (x_0v0 : Int) (x_1v0 : Int) (iv1 : Int) (s_1v1_n : Nat) (s_1v1_g : Nat → List PV) (v118v1_n : Nat) (v118v1_g : Nat → List PV)
  (h : ∀ X1 : St → Prop, (∀ (iv1 : Int) (s_1v1 : (Sl (Sl FluxRow))) (v118v1 : (Sl (Sl FluxRow))), f40_step1 K X1 s bin rates x_0v0 x_1v0 iv1 s_1v1 v118v1 → X1 (f40_g1 s bin rates x_0v0 x_1v0 iv1 s_1v1.len (fun i => enc_32 (s_1v1.get i)) v118v1.len (fun i => enc_32 (v118v1.get i)))) → X1 (f40_g1 s bin rates x_0v0 x_1v0 iv1 s_1v1_n s_1v1_g v118v1_n v118v1_g)) :
  f40_at1 K s bin rates x_0v0 x_1v0 iv1 s_1v1_n s_1v1_g v118v1_n v118v1_g := by
  have e : f40_at1 K s bin rates x_0v0 x_1v0 iv1 s_1v1_n s_1v1_g v118v1_n v118v1_g = (∀ X : St → Prop, (∀ s, vc Try.prog G40 ann40 (cd (cdF Try.f40 [1, 1, 1, 0, 1, 0]) [0]) (loopK Try.prog ann40 4 X (blockK 0 (sqK Try.prog G40 ann40 (cdF Try.f40 [1, 1, 1, 1]) (bodyK Try.prog Try.f40 K)))) s → X s) → X (f40_g1 s bin rates x_0v0 x_1v0 iv1 s_1v1_n s_1v1_g v118v1_n v118v1_g)) := by kernel_rfl
  refine ofEq e ?_
  intro X hX
  refine h X ?_
  intro iv1 s_1v1 v118v1 hs
  refine hX _ ?_
  have e2 := f40_stepeq1 K X s bin rates x_0v0 x_1v0 iv1 s_1v1 v118v1
  rw [e2]
  exact hs
def f40_step2 (K : List PA → Prop) (X1 : St → Prop) (X2 : St → Prop) (s : Sky) (bin : Int) (rates : Span) (x_0v0 : Int) (x_1v0 : Int) (iv2 : Int) (kv2 : Int) (s_1v2 : (Sl (Sl FluxRow))) (v39v2 : (Sl FluxRow)) (v118v2 : (Sl (Sl FluxRow))) : Prop :=
  (condP (decide (kv2 < (v39v2.len : Int)))
   (condP (iv2 == bin)
    (((0 ≤ kv2 ∧ kv2 < (v39v2.len : Int))) ∧
    (((kv2.toNat < v39v2.len)) ∧
    (condP (decide ((v39v2.get kv2.toNat).Energy ≤ x_0v0))
     (((0 ≤ kv2 ∧ kv2 < (v39v2.len : Int))) ∧
     (((kv2.toNat < v39v2.len)) ∧
     (((0 ≤ kv2 ∧ kv2 < (v39v2.len : Int))) ∧
     (((kv2.toNat < v39v2.len)) ∧
     (f40_at3 K X1 X2 s bin rates x_0v0 x_1v0 iv2 kv2 s_1v2.len (fun i => enc_32 (s_1v2.get i)) v39v2.len (setG kv2.toNat 1 (fun i => enc_44 (v39v2.get i)) (enc_3 (if rates.Low > (v39v2.get kv2.toNat).Rate.Low then rates.Low else (v39v2.get kv2.toNat).Rate.Low))) v118v2.len (fun i => enc_32 (v118v2.get i)))))))
     (f40_at3 K X1 X2 s bin rates x_0v0 x_1v0 iv2 kv2 s_1v2.len (fun i => enc_32 (s_1v2.get i)) v39v2.len (fun i => enc_44 (v39v2.get i)) v118v2.len (fun i => enc_32 (v118v2.get i))))))
    ((((v118v2.len + 1) * 24 ≤ 140737488355328 ∧ v118v2.len + 1 ≤ 9223372036854775807)) ∧
    (X1 (f40_g1 s bin rates x_0v0 x_1v0 (w64 (iv2 + (1:Int))) s_1v2.len (fun i => enc_32 (s_1v2.get i)) (v118v2.len + 1) (appG v118v2.len (fun i => enc_32 (v118v2.get i)) (fun _ => (enc_32 v39v2)))))))
   ((((v118v2.len + 1) * 24 ≤ 140737488355328 ∧ v118v2.len + 1 ≤ 9223372036854775807)) ∧
   (X1 (f40_g1 s bin rates x_0v0 x_1v0 (w64 (iv2 + (1:Int))) s_1v2.len (fun i => enc_32 (s_1v2.get i)) (v118v2.len + 1) (appG v118v2.len (fun i => enc_32 (v118v2.get i)) (fun _ => (enc_32 v39v2)))))))
theorem f40_stepeq2 (K : List PA → Prop) (X1 : St → Prop) (X2 : St → Prop) (s : Sky) (bin : Int) (rates : Span) (x_0v0 : Int) (x_1v0 : Int) (iv2 : Int) (kv2 : Int) (s_1v2 : (Sl (Sl FluxRow))) (v39v2 : (Sl FluxRow)) (v118v2 : (Sl (Sl FluxRow))) :
  vc Try.prog G40 ann40 (cd (cdF Try.f40 [1, 1, 1, 0, 1, 0, 0, 1, 0, 0, 1, 0, 1, 0]) [0]) (loopK Try.prog ann40 8 X2 (blockK 2 (sqK Try.prog G40 ann40 (cdF Try.f40 [1, 1, 1, 0, 1, 0, 0, 1, 0, 0, 1, 1]) (blockK 1 (sqK Try.prog G40 ann40 (cdF Try.f40 [1, 1, 1, 0, 1, 0, 0, 1, 1]) (loopK Try.prog ann40 4 X1 (blockK 0 (sqK Try.prog G40 ann40 (cdF Try.f40 [1, 1, 1, 1]) (bodyK Try.prog Try.f40 K))))))))) (f40_g2 s bin rates x_0v0 x_1v0 iv2 kv2 s_1v2.len (fun i => enc_32 (s_1v2.get i)) v39v2.len (fun i => enc_44 (v39v2.get i)) v118v2.len (fun i => enc_32 (v118v2.get i))) =
  f40_step2 K X1 X2 s bin rates x_0v0 x_1v0 iv2 kv2 s_1v2 v39v2 v118v2 := by kernel_rfl
theorem f40_loop2 (K : List PA → Prop) (X1 : St → Prop) (s : Sky) (bin : Int) (rates : Span) (x_0v0 : Int) (x_1v0 : Int) (iv2 : Int) (kv2 : Int) (s_1v2_n : Nat) (s_1v2_g : Nat → List PV) (v39v2_n : Nat) (v39v2_g : Nat → List PV) (v118v2_n : Nat) (v118v2_g : Nat → List PV)
  (h : ∀ X2 : St → Prop, (∀ (iv2 : Int) (kv2 : Int) (s_1v2 : (Sl (Sl FluxRow))) (v39v2 : (Sl FluxRow)) (v118v2 : (Sl (Sl FluxRow))), f40_step2 K X1 X2 s bin rates x_0v0 x_1v0 iv2 kv2 s_1v2 v39v2 v118v2 → X2 (f40_g2 s bin rates x_0v0 x_1v0 iv2 kv2 s_1v2.len (fun i => enc_32 (s_1v2.get i)) v39v2.len (fun i => enc_44 (v39v2.get i)) v118v2.len (fun i => enc_32 (v118v2.get i)))) → X2 (f40_g2 s bin rates x_0v0 x_1v0 iv2 kv2 s_1v2_n s_1v2_g v39v2_n v39v2_g v118v2_n v118v2_g)) :
  f40_at2 K X1 s bin rates x_0v0 x_1v0 iv2 kv2 s_1v2_n s_1v2_g v39v2_n v39v2_g v118v2_n v118v2_g := by
  have e : f40_at2 K X1 s bin rates x_0v0 x_1v0 iv2 kv2 s_1v2_n s_1v2_g v39v2_n v39v2_g v118v2_n v118v2_g = (∀ X : St → Prop, (∀ s, vc Try.prog G40 ann40 (cd (cdF Try.f40 [1, 1, 1, 0, 1, 0, 0, 1, 0, 0, 1, 0, 1, 0]) [0]) (loopK Try.prog ann40 8 X (blockK 2 (sqK Try.prog G40 ann40 (cdF Try.f40 [1, 1, 1, 0, 1, 0, 0, 1, 0, 0, 1, 1]) (blockK 1 (sqK Try.prog G40 ann40 (cdF Try.f40 [1, 1, 1, 0, 1, 0, 0, 1, 1]) (loopK Try.prog ann40 4 X1 (blockK 0 (sqK Try.prog G40 ann40 (cdF Try.f40 [1, 1, 1, 1]) (bodyK Try.prog Try.f40 K))))))))) s → X s) → X (f40_g2 s bin rates x_0v0 x_1v0 iv2 kv2 s_1v2_n s_1v2_g v39v2_n v39v2_g v118v2_n v118v2_g)) := by kernel_rfl
  refine ofEq e ?_
  intro X hX
  refine h X ?_
  intro iv2 kv2 s_1v2 v39v2 v118v2 hs
  refine hX _ ?_
  have e2 := f40_stepeq2 K X1 X s bin rates x_0v0 x_1v0 iv2 kv2 s_1v2 v39v2 v118v2
  rw [e2]
  exact hs
theorem f40_eq3 (K : List PA → Prop) (X1 : St → Prop) (X2 : St → Prop) (s : Sky) (bin : Int) (rates : Span) (x_0v0 : Int) (x_1v0 : Int) (iv3 : Int) (kv3 : Int) (s_1v3 : (Sl (Sl FluxRow))) (v39v3 : (Sl FluxRow)) (v118v3 : (Sl (Sl FluxRow))) :
  f40_at3 K X1 X2 s bin rates x_0v0 x_1v0 iv3 kv3 s_1v3.len (fun i => enc_32 (s_1v3.get i)) v39v3.len (fun i => enc_44 (v39v3.get i)) v118v3.len (fun i => enc_32 (v118v3.get i)) =
  (condP (x_1v0 != (-1:Int))
   (((0 ≤ kv3 ∧ kv3 < (v39v3.len : Int))) ∧
   (((kv3.toNat < v39v3.len)) ∧
   (condP (decide ((v39v3.get kv3.toNat).Energy ≥ x_1v0))
    (((0 ≤ kv3 ∧ kv3 < (v39v3.len : Int))) ∧
    (((kv3.toNat < v39v3.len)) ∧
    (((0 ≤ kv3 ∧ kv3 < (v39v3.len : Int))) ∧
    (((kv3.toNat < v39v3.len)) ∧
    (f40_at4 K X1 X2 s bin rates x_0v0 x_1v0 iv3 kv3 s_1v3.len (fun i => enc_32 (s_1v3.get i)) v39v3.len (setG kv3.toNat 2 (fun i => enc_44 (v39v3.get i)) (enc_3 (if rates.High < (v39v3.get kv3.toNat).Rate.High then rates.High else (v39v3.get kv3.toNat).Rate.High))) v118v3.len (fun i => enc_32 (v118v3.get i)))))))
    (f40_at4 K X1 X2 s bin rates x_0v0 x_1v0 iv3 kv3 s_1v3.len (fun i => enc_32 (s_1v3.get i)) v39v3.len (fun i => enc_44 (v39v3.get i)) v118v3.len (fun i => enc_32 (v118v3.get i))))))
   (f40_at4 K X1 X2 s bin rates x_0v0 x_1v0 iv3 kv3 s_1v3.len (fun i => enc_32 (s_1v3.get i)) v39v3.len (fun i => enc_44 (v39v3.get i)) v118v3.len (fun i => enc_32 (v118v3.get i)))) := by kernel_rfl
theorem f40_eq4 (K : List PA → Prop) (X1 : St → Prop) (X2 : St → Prop) (s : Sky) (bin : Int) (rates : Span) (x_0v0 : Int) (x_1v0 : Int) (iv4 : Int) (kv4 : Int) (s_1v4 : (Sl (Sl FluxRow))) (v39v4 : (Sl FluxRow)) (v118v4 : (Sl (Sl FluxRow))) :
  f40_at4 K X1 X2 s bin rates x_0v0 x_1v0 iv4 kv4 s_1v4.len (fun i => enc_32 (s_1v4.get i)) v39v4.len (fun i => enc_44 (v39v4.get i)) v118v4.len (fun i => enc_32 (v118v4.get i)) =
  (((0 ≤ kv4 ∧ kv4 < (v39v4.len : Int))) ∧
  (((kv4.toNat < v39v4.len)) ∧
  (((0 ≤ kv4 ∧ kv4 < (v39v4.len : Int))) ∧
  (((kv4.toNat < v39v4.len)) ∧
  (condP (decide ((v39v4.get kv4.toNat).Rate.Low > (v39v4.get kv4.toNat).Rate.High))
   (K [.agg [.int .i64 (0:Int), .nils, .int .i64 (0:Int), .int .i64 (0:Int), .int .i64 (0:Int), .int .i64 (0:Int)], .one (.bool false)])
   (X2 (f40_g2 s bin rates x_0v0 x_1v0 iv4 (w64 (kv4 + (1:Int))) s_1v4.len (fun i => enc_32 (s_1v4.get i)) v39v4.len (fun i => enc_44 (v39v4.get i)) v118v4.len (fun i => enc_32 (v118v4.get i))))))))) := by kernel_rfl
abbrev R40 := (Sky × Bool)
abbrev e40 (r : (Sky × Bool)) : List PA := [.agg [.int .i64 r.1.Parts, .sl r.1.Bins.len 1 (fun i => enc_32 (r.1.Bins.get i)), .int .i64 r.1.Beta.Low, .int .i64 r.1.Beta.High, .int .i64 r.1.Alpha.Low, .int .i64 r.1.Alpha.High], .one (.bool r.2)]
attribute [irreducible] f40_at0 f40_at1 f40_at2 f40_at3 f40_at4
def s40_at4 (S1 : Int → (Sl (Sl FluxRow)) → (Sl (Sl FluxRow)) → (Sky × Bool)) (S2 : Int → Int → (Sl (Sl FluxRow)) → (Sl FluxRow) → (Sl (Sl FluxRow)) → (Sky × Bool)) (s : Sky) (bin : Int) (rates : Span) (x_0v0 : Int) (x_1v0 : Int) (iv4 : Int) (kv4 : Int) (s_1v4 : (Sl (Sl FluxRow))) (v39v4 : (Sl FluxRow)) (v118v4 : (Sl (Sl FluxRow))) : (Sky × Bool) :=
  (cond (decide ((v39v4.get kv4.toNat).Rate.Low > (v39v4.get kv4.toNat).Rate.High))
   ((⟨(0:Int), (⟨0, fun _ => default⟩ : (Sl (Sl FluxRow))), (⟨(0:Int), (0:Int)⟩ : Span), (⟨(0:Int), (0:Int)⟩ : Span)⟩ : Sky), false)
   (S2 iv4 (w64 (kv4 + (1:Int))) s_1v4 v39v4 v118v4))
def p40_at4 (P1 : Int → (Sl (Sl FluxRow)) → (Sl (Sl FluxRow)) → Bool) (P2 : Int → Int → (Sl (Sl FluxRow)) → (Sl FluxRow) → (Sl (Sl FluxRow)) → Bool) (s : Sky) (bin : Int) (rates : Span) (x_0v0 : Int) (x_1v0 : Int) (iv4 : Int) (kv4 : Int) (s_1v4 : (Sl (Sl FluxRow))) (v39v4 : (Sl FluxRow)) (v118v4 : (Sl (Sl FluxRow))) : Bool :=
  (decide ((0 ≤ kv4 ∧ kv4 < (v39v4.len : Int))) &&
  (decide ((kv4.toNat < v39v4.len)) &&
  (decide ((0 ≤ kv4 ∧ kv4 < (v39v4.len : Int))) &&
  (decide ((kv4.toNat < v39v4.len)) &&
  (cond (decide ((v39v4.get kv4.toNat).Rate.Low > (v39v4.get kv4.toNat).Rate.High))
   true
   (P2 iv4 (w64 (kv4 + (1:Int))) s_1v4 v39v4 v118v4))))))
theorem q40_at4 (K : List PA → Prop) (s : Sky) (bin : Int) (rates : Span) (x_0v0 : Int) (x_1v0 : Int)
  (X1 : St → Prop) (P1 : Int → (Sl (Sl FluxRow)) → (Sl (Sl FluxRow)) → Bool) (S1 : Int → (Sl (Sl FluxRow)) → (Sl (Sl FluxRow)) → (Sky × Bool))
  (hX1 : ∀ (iv1 : Int) (s_1v1 : (Sl (Sl FluxRow))) (v118v1 : (Sl (Sl FluxRow))) (s_1v1_g : Nat → List PV) (s_1v1_h : s_1v1_g = fun i => enc_32 (s_1v1.get i)) (v118v1_g : Nat → List PV) (v118v1_h : v118v1_g = fun i => enc_32 (v118v1.get i)), P1 iv1 s_1v1 v118v1 = true → K (e40 (S1 iv1 s_1v1 v118v1)) → X1 (f40_g1 s bin rates x_0v0 x_1v0 iv1 s_1v1.len s_1v1_g v118v1.len v118v1_g))
  (X2 : St → Prop) (P2 : Int → Int → (Sl (Sl FluxRow)) → (Sl FluxRow) → (Sl (Sl FluxRow)) → Bool) (S2 : Int → Int → (Sl (Sl FluxRow)) → (Sl FluxRow) → (Sl (Sl FluxRow)) → (Sky × Bool))
  (hX2 : ∀ (iv2 : Int) (kv2 : Int) (s_1v2 : (Sl (Sl FluxRow))) (v39v2 : (Sl FluxRow)) (v118v2 : (Sl (Sl FluxRow))) (s_1v2_g : Nat → List PV) (s_1v2_h : s_1v2_g = fun i => enc_32 (s_1v2.get i)) (v39v2_g : Nat → List PV) (v39v2_h : v39v2_g = fun i => enc_44 (v39v2.get i)) (v118v2_g : Nat → List PV) (v118v2_h : v118v2_g = fun i => enc_32 (v118v2.get i)), P2 iv2 kv2 s_1v2 v39v2 v118v2 = true → K (e40 (S2 iv2 kv2 s_1v2 v39v2 v118v2)) → X2 (f40_g2 s bin rates x_0v0 x_1v0 iv2 kv2 s_1v2.len s_1v2_g v39v2.len v39v2_g v118v2.len v118v2_g)) (iv4 : Int) (kv4 : Int) (s_1v4 : (Sl (Sl FluxRow))) (v39v4 : (Sl FluxRow)) (v118v4 : (Sl (Sl FluxRow))) (s_1v4_g : Nat → List PV) (s_1v4_h : s_1v4_g = fun i => enc_32 (s_1v4.get i)) (v39v4_g : Nat → List PV) (v39v4_h : v39v4_g = fun i => enc_44 (v39v4.get i)) (v118v4_g : Nat → List PV) (v118v4_h : v118v4_g = fun i => enc_32 (v118v4.get i)) (hs : p40_at4 P1 P2 s bin rates x_0v0 x_1v0 iv4 kv4 s_1v4 v39v4 v118v4 = true) (hk : K (e40 (s40_at4 S1 S2 s bin rates x_0v0 x_1v0 iv4 kv4 s_1v4 v39v4 v118v4))) : f40_at4 (Wk K) X1 X2 s bin rates x_0v0 x_1v0 iv4 kv4 s_1v4.len s_1v4_g v39v4.len v39v4_g v118v4.len v118v4_g := by
  subst s_1v4_h
  subst v39v4_h
  subst v118v4_h
  refine ofEq (f40_eq4 (Wk K) X1 X2 s bin rates x_0v0 x_1v0 iv4 kv4 s_1v4 v39v4 v118v4) ?_
  unfold p40_at4 at hs
  unfold s40_at4 at hk
  exact (andK hs fun hc hs => ⟨hc, (andK hs fun hc hs => ⟨hc, (andK hs fun hc hs => ⟨hc, (andK hs fun hc hs => ⟨hc, (condB_go (K := fun r => K (e40 r))
   (fun hs hk => (wk hk (rl_c (.agg (rl_c (.rfl _) (rl_c (.nil _ _) (rl_c (.rfl _) (rl_c (.rfl _) (rl_c (.rfl _) (rl_c (.rfl _) rl_n))))))) (rl_c (.one (.rfl _)) rl_n))))
   (fun hs hk => (hX2 iv4 (w64 (kv4 + (1:Int))) s_1v4 v39v4 v118v4 (fun i => enc_32 (s_1v4.get i)) rfl (fun i => enc_44 (v39v4.get i)) rfl (fun i => enc_32 (v118v4.get i)) rfl hs hk)) hs hk)⟩)⟩)⟩)⟩)
def s40_at3 (S1 : Int → (Sl (Sl FluxRow)) → (Sl (Sl FluxRow)) → (Sky × Bool)) (S2 : Int → Int → (Sl (Sl FluxRow)) → (Sl FluxRow) → (Sl (Sl FluxRow)) → (Sky × Bool)) (s : Sky) (bin : Int) (rates : Span) (x_0v0 : Int) (x_1v0 : Int) (iv3 : Int) (kv3 : Int) (s_1v3 : (Sl (Sl FluxRow))) (v39v3 : (Sl FluxRow)) (v118v3 : (Sl (Sl FluxRow))) : (Sky × Bool) :=
  (cond (x_1v0 != (-1:Int))
   (cond (decide ((v39v3.get kv3.toNat).Energy ≥ x_1v0))
    (s40_at4 S1 S2 s bin rates x_0v0 x_1v0 iv3 kv3 s_1v3 (⟨v39v3.len, (setT kv3.toNat (⟨(v39v3.get kv3.toNat).Energy, (⟨(v39v3.get kv3.toNat).Rate.Low, (if rates.High < (v39v3.get kv3.toNat).Rate.High then rates.High else (v39v3.get kv3.toNat).Rate.High)⟩ : Span)⟩ : FluxRow) v39v3.get)⟩ : Sl FluxRow) v118v3)
    (s40_at4 S1 S2 s bin rates x_0v0 x_1v0 iv3 kv3 s_1v3 v39v3 v118v3))
   (s40_at4 S1 S2 s bin rates x_0v0 x_1v0 iv3 kv3 s_1v3 v39v3 v118v3))
def p40_at3 (P1 : Int → (Sl (Sl FluxRow)) → (Sl (Sl FluxRow)) → Bool) (P2 : Int → Int → (Sl (Sl FluxRow)) → (Sl FluxRow) → (Sl (Sl FluxRow)) → Bool) (s : Sky) (bin : Int) (rates : Span) (x_0v0 : Int) (x_1v0 : Int) (iv3 : Int) (kv3 : Int) (s_1v3 : (Sl (Sl FluxRow))) (v39v3 : (Sl FluxRow)) (v118v3 : (Sl (Sl FluxRow))) : Bool :=
  (cond (x_1v0 != (-1:Int))
   (decide ((0 ≤ kv3 ∧ kv3 < (v39v3.len : Int))) &&
   (decide ((kv3.toNat < v39v3.len)) &&
   (cond (decide ((v39v3.get kv3.toNat).Energy ≥ x_1v0))
    (decide ((0 ≤ kv3 ∧ kv3 < (v39v3.len : Int))) &&
    (decide ((kv3.toNat < v39v3.len)) &&
    (decide ((0 ≤ kv3 ∧ kv3 < (v39v3.len : Int))) &&
    (decide ((kv3.toNat < v39v3.len)) &&
    (p40_at4 P1 P2 s bin rates x_0v0 x_1v0 iv3 kv3 s_1v3 (⟨v39v3.len, (setT kv3.toNat (⟨(v39v3.get kv3.toNat).Energy, (⟨(v39v3.get kv3.toNat).Rate.Low, (if rates.High < (v39v3.get kv3.toNat).Rate.High then rates.High else (v39v3.get kv3.toNat).Rate.High)⟩ : Span)⟩ : FluxRow) v39v3.get)⟩ : Sl FluxRow) v118v3)))))
    (p40_at4 P1 P2 s bin rates x_0v0 x_1v0 iv3 kv3 s_1v3 v39v3 v118v3))))
   (p40_at4 P1 P2 s bin rates x_0v0 x_1v0 iv3 kv3 s_1v3 v39v3 v118v3))
theorem q40_at3 (K : List PA → Prop) (s : Sky) (bin : Int) (rates : Span) (x_0v0 : Int) (x_1v0 : Int)
  (X1 : St → Prop) (P1 : Int → (Sl (Sl FluxRow)) → (Sl (Sl FluxRow)) → Bool) (S1 : Int → (Sl (Sl FluxRow)) → (Sl (Sl FluxRow)) → (Sky × Bool))
  (hX1 : ∀ (iv1 : Int) (s_1v1 : (Sl (Sl FluxRow))) (v118v1 : (Sl (Sl FluxRow))) (s_1v1_g : Nat → List PV) (s_1v1_h : s_1v1_g = fun i => enc_32 (s_1v1.get i)) (v118v1_g : Nat → List PV) (v118v1_h : v118v1_g = fun i => enc_32 (v118v1.get i)), P1 iv1 s_1v1 v118v1 = true → K (e40 (S1 iv1 s_1v1 v118v1)) → X1 (f40_g1 s bin rates x_0v0 x_1v0 iv1 s_1v1.len s_1v1_g v118v1.len v118v1_g))
  (X2 : St → Prop) (P2 : Int → Int → (Sl (Sl FluxRow)) → (Sl FluxRow) → (Sl (Sl FluxRow)) → Bool) (S2 : Int → Int → (Sl (Sl FluxRow)) → (Sl FluxRow) → (Sl (Sl FluxRow)) → (Sky × Bool))
  (hX2 : ∀ (iv2 : Int) (kv2 : Int) (s_1v2 : (Sl (Sl FluxRow))) (v39v2 : (Sl FluxRow)) (v118v2 : (Sl (Sl FluxRow))) (s_1v2_g : Nat → List PV) (s_1v2_h : s_1v2_g = fun i => enc_32 (s_1v2.get i)) (v39v2_g : Nat → List PV) (v39v2_h : v39v2_g = fun i => enc_44 (v39v2.get i)) (v118v2_g : Nat → List PV) (v118v2_h : v118v2_g = fun i => enc_32 (v118v2.get i)), P2 iv2 kv2 s_1v2 v39v2 v118v2 = true → K (e40 (S2 iv2 kv2 s_1v2 v39v2 v118v2)) → X2 (f40_g2 s bin rates x_0v0 x_1v0 iv2 kv2 s_1v2.len s_1v2_g v39v2.len v39v2_g v118v2.len v118v2_g)) (iv3 : Int) (kv3 : Int) (s_1v3 : (Sl (Sl FluxRow))) (v39v3 : (Sl FluxRow)) (v118v3 : (Sl (Sl FluxRow))) (s_1v3_g : Nat → List PV) (s_1v3_h : s_1v3_g = fun i => enc_32 (s_1v3.get i)) (v39v3_g : Nat → List PV) (v39v3_h : v39v3_g = fun i => enc_44 (v39v3.get i)) (v118v3_g : Nat → List PV) (v118v3_h : v118v3_g = fun i => enc_32 (v118v3.get i)) (hs : p40_at3 P1 P2 s bin rates x_0v0 x_1v0 iv3 kv3 s_1v3 v39v3 v118v3 = true) (hk : K (e40 (s40_at3 S1 S2 s bin rates x_0v0 x_1v0 iv3 kv3 s_1v3 v39v3 v118v3))) : f40_at3 (Wk K) X1 X2 s bin rates x_0v0 x_1v0 iv3 kv3 s_1v3.len s_1v3_g v39v3.len v39v3_g v118v3.len v118v3_g := by
  subst s_1v3_h
  subst v39v3_h
  subst v118v3_h
  refine ofEq (f40_eq3 (Wk K) X1 X2 s bin rates x_0v0 x_1v0 iv3 kv3 s_1v3 v39v3 v118v3) ?_
  unfold p40_at3 at hs
  unfold s40_at3 at hk
  exact (condB_go (K := fun r => K (e40 r))
   (fun hs hk => (andK hs fun hc hs => ⟨hc, (andK hs fun hc hs => ⟨hc, (condB_go (K := fun r => K (e40 r))
    (fun hs hk => (andK hs fun hc hs => ⟨hc, (andK hs fun hc hs => ⟨hc, (andK hs fun hc hs => ⟨hc, (andK hs fun hc hs => ⟨hc, (q40_at4 K s bin rates x_0v0 x_1v0 X1 P1 S1 hX1 X2 P2 S2 hX2 iv3 kv3 s_1v3 (⟨v39v3.len, (setT kv3.toNat (⟨(v39v3.get kv3.toNat).Energy, (⟨(v39v3.get kv3.toNat).Rate.Low, (if rates.High < (v39v3.get kv3.toNat).Rate.High then rates.High else (v39v3.get kv3.toNat).Rate.High)⟩ : Span)⟩ : FluxRow) v39v3.get)⟩ : Sl FluxRow) v118v3 (fun i => enc_32 (s_1v3.get i)) rfl (setG kv3.toNat 2 (fun i => enc_44 (v39v3.get i)) (enc_3 (if rates.High < (v39v3.get kv3.toNat).Rate.High then rates.High else (v39v3.get kv3.toNat).Rate.High))) (setG_e rfl rfl) (fun i => enc_32 (v118v3.get i)) rfl hs hk)⟩)⟩)⟩)⟩))
    (fun hs hk => (q40_at4 K s bin rates x_0v0 x_1v0 X1 P1 S1 hX1 X2 P2 S2 hX2 iv3 kv3 s_1v3 v39v3 v118v3 (fun i => enc_32 (s_1v3.get i)) rfl (fun i => enc_44 (v39v3.get i)) rfl (fun i => enc_32 (v118v3.get i)) rfl hs hk)) hs hk)⟩)⟩))
   (fun hs hk => (q40_at4 K s bin rates x_0v0 x_1v0 X1 P1 S1 hX1 X2 P2 S2 hX2 iv3 kv3 s_1v3 v39v3 v118v3 (fun i => enc_32 (s_1v3.get i)) rfl (fun i => enc_44 (v39v3.get i)) rfl (fun i => enc_32 (v118v3.get i)) rfl hs hk)) hs hk)
def s40_st2 (S1 : Int → (Sl (Sl FluxRow)) → (Sl (Sl FluxRow)) → (Sky × Bool)) (s : Sky) (bin : Int) (rates : Span) (x_0v0 : Int) (x_1v0 : Int) (S2 : Int → Int → (Sl (Sl FluxRow)) → (Sl FluxRow) → (Sl (Sl FluxRow)) → (Sky × Bool)) (iv2 : Int) (kv2 : Int) (s_1v2 : (Sl (Sl FluxRow))) (v39v2 : (Sl FluxRow)) (v118v2 : (Sl (Sl FluxRow))) : (Sky × Bool) :=
  (cond (decide (kv2 < (v39v2.len : Int)))
   (cond (iv2 == bin)
    (cond (decide ((v39v2.get kv2.toNat).Energy ≤ x_0v0))
     (s40_at3 S1 S2 s bin rates x_0v0 x_1v0 iv2 kv2 s_1v2 (⟨v39v2.len, (setT kv2.toNat (⟨(v39v2.get kv2.toNat).Energy, (⟨(if rates.Low > (v39v2.get kv2.toNat).Rate.Low then rates.Low else (v39v2.get kv2.toNat).Rate.Low), (v39v2.get kv2.toNat).Rate.High⟩ : Span)⟩ : FluxRow) v39v2.get)⟩ : Sl FluxRow) v118v2)
     (s40_at3 S1 S2 s bin rates x_0v0 x_1v0 iv2 kv2 s_1v2 v39v2 v118v2))
    (S1 (w64 (iv2 + (1:Int))) s_1v2 (⟨(v118v2.len + 1), (appT v118v2.len v118v2.get (fun _ => v39v2))⟩ : Sl (Sl FluxRow))))
   (S1 (w64 (iv2 + (1:Int))) s_1v2 (⟨(v118v2.len + 1), (appT v118v2.len v118v2.get (fun _ => v39v2))⟩ : Sl (Sl FluxRow))))
def p40_st2 (P1 : Int → (Sl (Sl FluxRow)) → (Sl (Sl FluxRow)) → Bool) (s : Sky) (bin : Int) (rates : Span) (x_0v0 : Int) (x_1v0 : Int) (P2 : Int → Int → (Sl (Sl FluxRow)) → (Sl FluxRow) → (Sl (Sl FluxRow)) → Bool) (iv2 : Int) (kv2 : Int) (s_1v2 : (Sl (Sl FluxRow))) (v39v2 : (Sl FluxRow)) (v118v2 : (Sl (Sl FluxRow))) : Bool :=
  (cond (decide (kv2 < (v39v2.len : Int)))
   (cond (iv2 == bin)
    (decide ((0 ≤ kv2 ∧ kv2 < (v39v2.len : Int))) &&
    (decide ((kv2.toNat < v39v2.len)) &&
    (cond (decide ((v39v2.get kv2.toNat).Energy ≤ x_0v0))
     (decide ((0 ≤ kv2 ∧ kv2 < (v39v2.len : Int))) &&
     (decide ((kv2.toNat < v39v2.len)) &&
     (decide ((0 ≤ kv2 ∧ kv2 < (v39v2.len : Int))) &&
     (decide ((kv2.toNat < v39v2.len)) &&
     (p40_at3 P1 P2 s bin rates x_0v0 x_1v0 iv2 kv2 s_1v2 (⟨v39v2.len, (setT kv2.toNat (⟨(v39v2.get kv2.toNat).Energy, (⟨(if rates.Low > (v39v2.get kv2.toNat).Rate.Low then rates.Low else (v39v2.get kv2.toNat).Rate.Low), (v39v2.get kv2.toNat).Rate.High⟩ : Span)⟩ : FluxRow) v39v2.get)⟩ : Sl FluxRow) v118v2)))))
     (p40_at3 P1 P2 s bin rates x_0v0 x_1v0 iv2 kv2 s_1v2 v39v2 v118v2))))
    (decide (((v118v2.len + 1) * 24 ≤ 140737488355328 ∧ v118v2.len + 1 ≤ 9223372036854775807)) &&
    (P1 (w64 (iv2 + (1:Int))) s_1v2 (⟨(v118v2.len + 1), (appT v118v2.len v118v2.get (fun _ => v39v2))⟩ : Sl (Sl FluxRow)))))
   (decide (((v118v2.len + 1) * 24 ≤ 140737488355328 ∧ v118v2.len + 1 ≤ 9223372036854775807)) &&
   (P1 (w64 (iv2 + (1:Int))) s_1v2 (⟨(v118v2.len + 1), (appT v118v2.len v118v2.get (fun _ => v39v2))⟩ : Sl (Sl FluxRow)))))
def s40_lp2 (S1 : Int → (Sl (Sl FluxRow)) → (Sl (Sl FluxRow)) → (Sky × Bool)) (s : Sky) (bin : Int) (rates : Span) (x_0v0 : Int) (x_1v0 : Int) : Nat → Int → Int → (Sl (Sl FluxRow)) → (Sl FluxRow) → (Sl (Sl FluxRow)) → (Sky × Bool)
  | 0 => fun _ _ _ _ _ => default
  | k + 1 => s40_st2 S1 s bin rates x_0v0 x_1v0 (s40_lp2 S1 s bin rates x_0v0 x_1v0 k)
def p40_lp2 (P1 : Int → (Sl (Sl FluxRow)) → (Sl (Sl FluxRow)) → Bool) (s : Sky) (bin : Int) (rates : Span) (x_0v0 : Int) (x_1v0 : Int) : Nat → Int → Int → (Sl (Sl FluxRow)) → (Sl FluxRow) → (Sl (Sl FluxRow)) → Bool
  | 0 => fun _ _ _ _ _ => false
  | k + 1 => p40_st2 P1 s bin rates x_0v0 x_1v0 (p40_lp2 P1 s bin rates x_0v0 x_1v0 k)
def s40_at2 (S1 : Int → (Sl (Sl FluxRow)) → (Sl (Sl FluxRow)) → (Sky × Bool)) (s : Sky) (bin : Int) (rates : Span) (x_0v0 : Int) (x_1v0 : Int) (iv2 : Int) (kv2 : Int) (s_1v2 : (Sl (Sl FluxRow))) (v39v2 : (Sl FluxRow)) (v118v2 : (Sl (Sl FluxRow))) : (Sky × Bool) := s40_lp2 S1 s bin rates x_0v0 x_1v0 Fuel iv2 kv2 s_1v2 v39v2 v118v2
def p40_at2 (P1 : Int → (Sl (Sl FluxRow)) → (Sl (Sl FluxRow)) → Bool) (s : Sky) (bin : Int) (rates : Span) (x_0v0 : Int) (x_1v0 : Int) (iv2 : Int) (kv2 : Int) (s_1v2 : (Sl (Sl FluxRow))) (v39v2 : (Sl FluxRow)) (v118v2 : (Sl (Sl FluxRow))) : Bool := p40_lp2 P1 s bin rates x_0v0 x_1v0 Fuel iv2 kv2 s_1v2 v39v2 v118v2
theorem q40_at2 (K : List PA → Prop) (s : Sky) (bin : Int) (rates : Span) (x_0v0 : Int) (x_1v0 : Int)
  (X1 : St → Prop) (P1 : Int → (Sl (Sl FluxRow)) → (Sl (Sl FluxRow)) → Bool) (S1 : Int → (Sl (Sl FluxRow)) → (Sl (Sl FluxRow)) → (Sky × Bool))
  (hX1 : ∀ (iv1 : Int) (s_1v1 : (Sl (Sl FluxRow))) (v118v1 : (Sl (Sl FluxRow))) (s_1v1_g : Nat → List PV) (s_1v1_h : s_1v1_g = fun i => enc_32 (s_1v1.get i)) (v118v1_g : Nat → List PV) (v118v1_h : v118v1_g = fun i => enc_32 (v118v1.get i)), P1 iv1 s_1v1 v118v1 = true → K (e40 (S1 iv1 s_1v1 v118v1)) → X1 (f40_g1 s bin rates x_0v0 x_1v0 iv1 s_1v1.len s_1v1_g v118v1.len v118v1_g)) (iv2 : Int) (kv2 : Int) (s_1v2 : (Sl (Sl FluxRow))) (v39v2 : (Sl FluxRow)) (v118v2 : (Sl (Sl FluxRow))) (s_1v2_g : Nat → List PV) (s_1v2_h : s_1v2_g = fun i => enc_32 (s_1v2.get i)) (v39v2_g : Nat → List PV) (v39v2_h : v39v2_g = fun i => enc_44 (v39v2.get i)) (v118v2_g : Nat → List PV) (v118v2_h : v118v2_g = fun i => enc_32 (v118v2.get i)) (hs : p40_at2 P1 s bin rates x_0v0 x_1v0 iv2 kv2 s_1v2 v39v2 v118v2 = true) (hk : K (e40 (s40_at2 S1 s bin rates x_0v0 x_1v0 iv2 kv2 s_1v2 v39v2 v118v2))) : f40_at2 (Wk K) X1 s bin rates x_0v0 x_1v0 iv2 kv2 s_1v2.len s_1v2_g v39v2.len v39v2_g v118v2.len v118v2_g := by
  refine f40_loop2 (Wk K) X1 s bin rates x_0v0 x_1v0 iv2 kv2 s_1v2.len s_1v2_g v39v2.len v39v2_g v118v2.len v118v2_g ?_
  intro X2 hstep
  have key : ∀ (k : Nat) (iv2 : Int) (kv2 : Int) (s_1v2 : (Sl (Sl FluxRow))) (v39v2 : (Sl FluxRow)) (v118v2 : (Sl (Sl FluxRow))) (s_1v2_g : Nat → List PV) (s_1v2_h : s_1v2_g = fun i => enc_32 (s_1v2.get i)) (v39v2_g : Nat → List PV) (v39v2_h : v39v2_g = fun i => enc_44 (v39v2.get i)) (v118v2_g : Nat → List PV) (v118v2_h : v118v2_g = fun i => enc_32 (v118v2.get i)), p40_lp2 P1 s bin rates x_0v0 x_1v0 k iv2 kv2 s_1v2 v39v2 v118v2 = true → K (e40 (s40_lp2 S1 s bin rates x_0v0 x_1v0 k iv2 kv2 s_1v2 v39v2 v118v2)) → X2 (f40_g2 s bin rates x_0v0 x_1v0 iv2 kv2 s_1v2.len s_1v2_g v39v2.len v39v2_g v118v2.len v118v2_g) := by
    intro k
    induction k with
    | zero => intro iv2 kv2 s_1v2 v39v2 v118v2 s_1v2_g s_1v2_h v39v2_g v39v2_h v118v2_g v118v2_h hs; exact absurd hs Bool.false_ne_true
    | succ k ih =>
      intro iv2 kv2 s_1v2 v39v2 v118v2 s_1v2_g s_1v2_h v39v2_g v39v2_h v118v2_g v118v2_h hs hk
      subst s_1v2_h
      subst v39v2_h
      subst v118v2_h
      refine hstep iv2 kv2 s_1v2 v39v2 v118v2 ?_
      have hs : p40_st2 P1 s bin rates x_0v0 x_1v0 (p40_lp2 P1 s bin rates x_0v0 x_1v0 k) iv2 kv2 s_1v2 v39v2 v118v2 = true := hs
      have hk : K (e40 (s40_st2 S1 s bin rates x_0v0 x_1v0 (s40_lp2 S1 s bin rates x_0v0 x_1v0 k) iv2 kv2 s_1v2 v39v2 v118v2)) := hk
      unfold p40_st2 at hs
      unfold s40_st2 at hk
      generalize s40_lp2 S1 s bin rates x_0v0 x_1v0 k = S2 at hk ih
      generalize p40_lp2 P1 s bin rates x_0v0 x_1v0 k = P2 at hs ih
      have hX2 := ih
      exact (condB_go (K := fun r => K (e40 r))
       (fun hs hk => (condB_go (K := fun r => K (e40 r))
        (fun hs hk => (andK hs fun hc hs => ⟨hc, (andK hs fun hc hs => ⟨hc, (condB_go (K := fun r => K (e40 r))
         (fun hs hk => (andK hs fun hc hs => ⟨hc, (andK hs fun hc hs => ⟨hc, (andK hs fun hc hs => ⟨hc, (andK hs fun hc hs => ⟨hc, (q40_at3 K s bin rates x_0v0 x_1v0 X1 P1 S1 hX1 X2 P2 S2 hX2 iv2 kv2 s_1v2 (⟨v39v2.len, (setT kv2.toNat (⟨(v39v2.get kv2.toNat).Energy, (⟨(if rates.Low > (v39v2.get kv2.toNat).Rate.Low then rates.Low else (v39v2.get kv2.toNat).Rate.Low), (v39v2.get kv2.toNat).Rate.High⟩ : Span)⟩ : FluxRow) v39v2.get)⟩ : Sl FluxRow) v118v2 (fun i => enc_32 (s_1v2.get i)) rfl (setG kv2.toNat 1 (fun i => enc_44 (v39v2.get i)) (enc_3 (if rates.Low > (v39v2.get kv2.toNat).Rate.Low then rates.Low else (v39v2.get kv2.toNat).Rate.Low))) (setG_e rfl rfl) (fun i => enc_32 (v118v2.get i)) rfl hs hk)⟩)⟩)⟩)⟩))
         (fun hs hk => (q40_at3 K s bin rates x_0v0 x_1v0 X1 P1 S1 hX1 X2 P2 S2 hX2 iv2 kv2 s_1v2 v39v2 v118v2 (fun i => enc_32 (s_1v2.get i)) rfl (fun i => enc_44 (v39v2.get i)) rfl (fun i => enc_32 (v118v2.get i)) rfl hs hk)) hs hk)⟩)⟩))
        (fun hs hk => (andK hs fun hc hs => ⟨hc, (hX1 (w64 (iv2 + (1:Int))) s_1v2 (⟨(v118v2.len + 1), (appT v118v2.len v118v2.get (fun _ => v39v2))⟩ : Sl (Sl FluxRow)) (fun i => enc_32 (s_1v2.get i)) rfl (appG v118v2.len (fun i => enc_32 (v118v2.get i)) (fun _ => (enc_32 v39v2))) (appG_e rfl rfl) hs hk)⟩)) hs hk))
       (fun hs hk => (andK hs fun hc hs => ⟨hc, (hX1 (w64 (iv2 + (1:Int))) s_1v2 (⟨(v118v2.len + 1), (appT v118v2.len v118v2.get (fun _ => v39v2))⟩ : Sl (Sl FluxRow)) (fun i => enc_32 (s_1v2.get i)) rfl (appG v118v2.len (fun i => enc_32 (v118v2.get i)) (fun _ => (enc_32 v39v2))) (appG_e rfl rfl) hs hk)⟩)) hs hk)
  exact key _ iv2 kv2 s_1v2 v39v2 v118v2 s_1v2_g s_1v2_h v39v2_g v39v2_h v118v2_g v118v2_h hs hk
def s40_st1 (s : Sky) (bin : Int) (rates : Span) (x_0v0 : Int) (x_1v0 : Int) (S1 : Int → (Sl (Sl FluxRow)) → (Sl (Sl FluxRow)) → (Sky × Bool)) (iv1 : Int) (s_1v1 : (Sl (Sl FluxRow))) (v118v1 : (Sl (Sl FluxRow))) : (Sky × Bool) :=
  (cond (decide (iv1 < (s_1v1.len : Int)))
   (s40_at2 S1 s bin rates x_0v0 x_1v0 iv1 (0:Int) s_1v1 (s_1v1.get iv1.toNat) v118v1)
   ((⟨s.Parts, v118v1, s.Beta, s.Alpha⟩ : Sky), true))
def p40_st1 (s : Sky) (bin : Int) (rates : Span) (x_0v0 : Int) (x_1v0 : Int) (P1 : Int → (Sl (Sl FluxRow)) → (Sl (Sl FluxRow)) → Bool) (iv1 : Int) (s_1v1 : (Sl (Sl FluxRow))) (v118v1 : (Sl (Sl FluxRow))) : Bool :=
  (cond (decide (iv1 < (s_1v1.len : Int)))
   (decide ((0 ≤ iv1 ∧ iv1 < (s_1v1.len : Int))) &&
   (decide (((s_1v1.get iv1.toNat).len * 24 ≤ 140737488355328 ∧ (s_1v1.get iv1.toNat).len ≤ 9223372036854775807)) &&
   (p40_at2 P1 s bin rates x_0v0 x_1v0 iv1 (0:Int) s_1v1 (s_1v1.get iv1.toNat) v118v1)))
   true)
def s40_lp1 (s : Sky) (bin : Int) (rates : Span) (x_0v0 : Int) (x_1v0 : Int) : Nat → Int → (Sl (Sl FluxRow)) → (Sl (Sl FluxRow)) → (Sky × Bool)
  | 0 => fun _ _ _ => default
  | k + 1 => s40_st1 s bin rates x_0v0 x_1v0 (s40_lp1 s bin rates x_0v0 x_1v0 k)
def p40_lp1 (s : Sky) (bin : Int) (rates : Span) (x_0v0 : Int) (x_1v0 : Int) : Nat → Int → (Sl (Sl FluxRow)) → (Sl (Sl FluxRow)) → Bool
  | 0 => fun _ _ _ => false
  | k + 1 => p40_st1 s bin rates x_0v0 x_1v0 (p40_lp1 s bin rates x_0v0 x_1v0 k)
def s40_at1 (s : Sky) (bin : Int) (rates : Span) (x_0v0 : Int) (x_1v0 : Int) (iv1 : Int) (s_1v1 : (Sl (Sl FluxRow))) (v118v1 : (Sl (Sl FluxRow))) : (Sky × Bool) := s40_lp1 s bin rates x_0v0 x_1v0 Fuel iv1 s_1v1 v118v1
def p40_at1 (s : Sky) (bin : Int) (rates : Span) (x_0v0 : Int) (x_1v0 : Int) (iv1 : Int) (s_1v1 : (Sl (Sl FluxRow))) (v118v1 : (Sl (Sl FluxRow))) : Bool := p40_lp1 s bin rates x_0v0 x_1v0 Fuel iv1 s_1v1 v118v1
theorem q40_at1 (K : List PA → Prop) (s : Sky) (bin : Int) (rates : Span) (x_0v0 : Int) (x_1v0 : Int) (iv1 : Int) (s_1v1 : (Sl (Sl FluxRow))) (v118v1 : (Sl (Sl FluxRow))) (s_1v1_g : Nat → List PV) (s_1v1_h : s_1v1_g = fun i => enc_32 (s_1v1.get i)) (v118v1_g : Nat → List PV) (v118v1_h : v118v1_g = fun i => enc_32 (v118v1.get i)) (hs : p40_at1 s bin rates x_0v0 x_1v0 iv1 s_1v1 v118v1 = true) (hk : K (e40 (s40_at1 s bin rates x_0v0 x_1v0 iv1 s_1v1 v118v1))) : f40_at1 (Wk K) s bin rates x_0v0 x_1v0 iv1 s_1v1.len s_1v1_g v118v1.len v118v1_g := by
  refine f40_loop1 (Wk K) s bin rates x_0v0 x_1v0 iv1 s_1v1.len s_1v1_g v118v1.len v118v1_g ?_
  intro X1 hstep
  have key : ∀ (k : Nat) (iv1 : Int) (s_1v1 : (Sl (Sl FluxRow))) (v118v1 : (Sl (Sl FluxRow))) (s_1v1_g : Nat → List PV) (s_1v1_h : s_1v1_g = fun i => enc_32 (s_1v1.get i)) (v118v1_g : Nat → List PV) (v118v1_h : v118v1_g = fun i => enc_32 (v118v1.get i)), p40_lp1 s bin rates x_0v0 x_1v0 k iv1 s_1v1 v118v1 = true → K (e40 (s40_lp1 s bin rates x_0v0 x_1v0 k iv1 s_1v1 v118v1)) → X1 (f40_g1 s bin rates x_0v0 x_1v0 iv1 s_1v1.len s_1v1_g v118v1.len v118v1_g) := by
    intro k
    induction k with
    | zero => intro iv1 s_1v1 v118v1 s_1v1_g s_1v1_h v118v1_g v118v1_h hs; exact absurd hs Bool.false_ne_true
    | succ k ih =>
      intro iv1 s_1v1 v118v1 s_1v1_g s_1v1_h v118v1_g v118v1_h hs hk
      subst s_1v1_h
      subst v118v1_h
      refine hstep iv1 s_1v1 v118v1 ?_
      have hs : p40_st1 s bin rates x_0v0 x_1v0 (p40_lp1 s bin rates x_0v0 x_1v0 k) iv1 s_1v1 v118v1 = true := hs
      have hk : K (e40 (s40_st1 s bin rates x_0v0 x_1v0 (s40_lp1 s bin rates x_0v0 x_1v0 k) iv1 s_1v1 v118v1)) := hk
      unfold p40_st1 at hs
      unfold s40_st1 at hk
      generalize s40_lp1 s bin rates x_0v0 x_1v0 k = S1 at hk ih
      generalize p40_lp1 s bin rates x_0v0 x_1v0 k = P1 at hs ih
      have hX1 := ih
      exact (condB_go (K := fun r => K (e40 r))
       (fun hs hk => (andK hs fun hc hs => ⟨hc, (andK hs fun hc hs => ⟨hc, (q40_at2 K s bin rates x_0v0 x_1v0 X1 P1 S1 hX1 iv1 (0:Int) s_1v1 (s_1v1.get iv1.toNat) v118v1 (fun i => enc_32 (s_1v1.get i)) rfl (fun i => enc_44 ((s_1v1.get iv1.toNat).get i)) rfl (fun i => enc_32 (v118v1.get i)) rfl hs hk)⟩)⟩))
       (fun hs hk => (wk_rfl hk)) hs hk)
  exact key _ iv1 s_1v1 v118v1 s_1v1_g s_1v1_h v118v1_g v118v1_h hs hk
def s40_at0 (s : Sky) (bin : Int) (rates : Span) (s_1v0 : (Sl (Sl FluxRow))) (x_0v0 : Int) (x_1v0 : Int) : (Sky × Bool) :=
  (s40_at1 s bin rates x_0v0 x_1v0 (0:Int) s_1v0 (⟨0, (fun _ => default)⟩ : Sl (Sl FluxRow)))
def p40_at0 (s : Sky) (bin : Int) (rates : Span) (s_1v0 : (Sl (Sl FluxRow))) (x_0v0 : Int) (x_1v0 : Int) : Bool :=
  (p40_at1 s bin rates x_0v0 x_1v0 (0:Int) s_1v0 (⟨0, (fun _ => default)⟩ : Sl (Sl FluxRow)))
theorem q40_at0 (K : List PA → Prop) (s : Sky) (bin : Int) (rates : Span) (s_1v0 : (Sl (Sl FluxRow))) (x_0v0 : Int) (x_1v0 : Int) (s_1v0_g : Nat → List PV) (s_1v0_h : s_1v0_g = fun i => enc_32 (s_1v0.get i)) (hs : p40_at0 s bin rates s_1v0 x_0v0 x_1v0 = true) (hk : K (e40 (s40_at0 s bin rates s_1v0 x_0v0 x_1v0))) : f40_at0 (Wk K) s bin rates s_1v0.len s_1v0_g x_0v0 x_1v0 := by
  subst s_1v0_h
  refine ofEq (f40_eq0 (Wk K) s bin rates s_1v0 x_0v0 x_1v0) ?_
  unfold p40_at0 at hs
  unfold s40_at0 at hk
  exact (q40_at1 K s bin rates x_0v0 x_1v0 (0:Int) s_1v0 (⟨0, (fun _ => default)⟩ : Sl (Sl FluxRow)) (fun i => enc_32 (s_1v0.get i)) rfl (fun i => enc_32 ((fun _ => default) i)) rfl hs hk)
def s40 (s : Sky) (t : (Sl RangeRow)) (bin : Int) (opacity : Int) (rates : Span) : (Sky × Bool) :=
  (s40_at0 s bin rates s.Bins ((s49 t opacity).Low) ((s49 t opacity).High))
def p40 (s : Sky) (t : (Sl RangeRow)) (bin : Int) (opacity : Int) (rates : Span) : Bool :=
  (decide ((p49 t opacity = true)) &&
  (p40_at0 s bin rates s.Bins ((s49 t opacity).Low) ((s49 t opacity).High)))
theorem q40 (s : Sky) (t : (Sl RangeRow)) (bin : Int) (opacity : Int) (rates : Span) (K : List PA → Prop) (hs : p40 s t bin opacity rates = true) (hk : K (e40 (s40 s t bin opacity rates))) : vcFun Try.prog G40 ann40 40 [.agg [.int .i64 s.Parts, .sl s.Bins.len 1 (fun i => enc_32 (s.Bins.get i)), .int .i64 s.Beta.Low, .int .i64 s.Beta.High, .int .i64 s.Alpha.Low, .int .i64 s.Alpha.High], .one (.sl t.len 3 (fun i => enc_42 (t.get i))), .one (.int .i64 bin), .one (.int .i64 opacity), .agg [.int .i64 rates.Low, .int .i64 rates.High]] (Wk K) := by
  refine ofEq (f40_top s t bin opacity rates (Wk K)) ?_
  unfold p40 at hs
  unfold s40 at hk
  exact (andK hs fun hc hs => ⟨⟨isE, hc⟩, (q40_at0 K s bin rates s.Bins ((s49 t opacity).Low) ((s49 t opacity).High) (fun i => enc_32 (s.Bins.get i)) rfl hs hk)⟩)
def ctr40 : List PA → COut
  | [.agg [.int .i64 a0_Parts, .sl a0_Bins_n a0_Bins_s a0_Bins_g, .int .i64 a0_Beta_Low, .int .i64 a0_Beta_High, .int .i64 a0_Alpha_Low, .int .i64 a0_Alpha_High], .one (.sl a1_n a1_s a1_g), .one (.int .i64 a2), .one (.int .i64 a3), .agg [.int .i64 a4_Low, .int .i64 a4_High]] => .det (IsE enc_32 1 a0_Bins_s a0_Bins_g ∧ IsE enc_42 3 a1_s a1_g ∧ p40 (⟨a0_Parts, (⟨a0_Bins_n, decF_32 a0_Bins_g⟩ : (Sl (Sl FluxRow))), (⟨a0_Beta_Low, a0_Beta_High⟩ : Span), (⟨a0_Alpha_Low, a0_Alpha_High⟩ : Span)⟩ : Sky) (⟨a1_n, decF_42 a1_g⟩ : (Sl RangeRow)) a2 a3 (⟨a4_Low, a4_High⟩ : Span) = true) [.agg [.int .i64 (((s40 (⟨a0_Parts, (⟨a0_Bins_n, decF_32 a0_Bins_g⟩ : (Sl (Sl FluxRow))), (⟨a0_Beta_Low, a0_Beta_High⟩ : Span), (⟨a0_Alpha_Low, a0_Alpha_High⟩ : Span)⟩ : Sky) (⟨a1_n, decF_42 a1_g⟩ : (Sl RangeRow)) a2 a3 (⟨a4_Low, a4_High⟩ : Span)).1).Parts), .sl (((s40 (⟨a0_Parts, (⟨a0_Bins_n, decF_32 a0_Bins_g⟩ : (Sl (Sl FluxRow))), (⟨a0_Beta_Low, a0_Beta_High⟩ : Span), (⟨a0_Alpha_Low, a0_Alpha_High⟩ : Span)⟩ : Sky) (⟨a1_n, decF_42 a1_g⟩ : (Sl RangeRow)) a2 a3 (⟨a4_Low, a4_High⟩ : Span)).1).Bins.len) 1 (fun i => enc_32 (((s40 (⟨a0_Parts, (⟨a0_Bins_n, decF_32 a0_Bins_g⟩ : (Sl (Sl FluxRow))), (⟨a0_Beta_Low, a0_Beta_High⟩ : Span), (⟨a0_Alpha_Low, a0_Alpha_High⟩ : Span)⟩ : Sky) (⟨a1_n, decF_42 a1_g⟩ : (Sl RangeRow)) a2 a3 (⟨a4_Low, a4_High⟩ : Span)).1).Bins.get i)), .int .i64 (((s40 (⟨a0_Parts, (⟨a0_Bins_n, decF_32 a0_Bins_g⟩ : (Sl (Sl FluxRow))), (⟨a0_Beta_Low, a0_Beta_High⟩ : Span), (⟨a0_Alpha_Low, a0_Alpha_High⟩ : Span)⟩ : Sky) (⟨a1_n, decF_42 a1_g⟩ : (Sl RangeRow)) a2 a3 (⟨a4_Low, a4_High⟩ : Span)).1).Beta.Low), .int .i64 (((s40 (⟨a0_Parts, (⟨a0_Bins_n, decF_32 a0_Bins_g⟩ : (Sl (Sl FluxRow))), (⟨a0_Beta_Low, a0_Beta_High⟩ : Span), (⟨a0_Alpha_Low, a0_Alpha_High⟩ : Span)⟩ : Sky) (⟨a1_n, decF_42 a1_g⟩ : (Sl RangeRow)) a2 a3 (⟨a4_Low, a4_High⟩ : Span)).1).Beta.High), .int .i64 (((s40 (⟨a0_Parts, (⟨a0_Bins_n, decF_32 a0_Bins_g⟩ : (Sl (Sl FluxRow))), (⟨a0_Beta_Low, a0_Beta_High⟩ : Span), (⟨a0_Alpha_Low, a0_Alpha_High⟩ : Span)⟩ : Sky) (⟨a1_n, decF_42 a1_g⟩ : (Sl RangeRow)) a2 a3 (⟨a4_Low, a4_High⟩ : Span)).1).Alpha.Low), .int .i64 (((s40 (⟨a0_Parts, (⟨a0_Bins_n, decF_32 a0_Bins_g⟩ : (Sl (Sl FluxRow))), (⟨a0_Beta_Low, a0_Beta_High⟩ : Span), (⟨a0_Alpha_Low, a0_Alpha_High⟩ : Span)⟩ : Sky) (⟨a1_n, decF_42 a1_g⟩ : (Sl RangeRow)) a2 a3 (⟨a4_Low, a4_High⟩ : Span)).1).Alpha.High)], .one (.bool ((s40 (⟨a0_Parts, (⟨a0_Bins_n, decF_32 a0_Bins_g⟩ : (Sl (Sl FluxRow))), (⟨a0_Beta_Low, a0_Beta_High⟩ : Span), (⟨a0_Alpha_Low, a0_Alpha_High⟩ : Span)⟩ : Sky) (⟨a1_n, decF_42 a1_g⟩ : (Sl RangeRow)) a2 a3 (⟨a4_Low, a4_High⟩ : Span)).2))]
  | _ => .no
theorem call40 : Callable Try.prog 40 := ⟨_, rfl, rfl, by kernel_rfl⟩
theorem ok40 : Ok Try.prog 40 ctr40 := ok_tabW okT40 call40 fun args K h => by
  unfold ctr40 at h
  split at h
  · rename_i a0_Parts a0_Bins_n a0_Bins_s a0_Bins_g a0_Beta_Low a0_Beta_High a0_Alpha_Low a0_Alpha_High a1_n a1_s a1_g a2 a3 a4_Low a4_High
    obtain ⟨⟨⟨rfl, a0_Bins_f, rfl⟩, ⟨rfl, a1_f, rfl⟩, hs⟩, hk⟩ := h
    try rw [decF_enc_32 a0_Bins_f] at hs
    try rw [decF_enc_32 a0_Bins_f] at hk
    try rw [decF_enc_42 a1_f] at hs
    try rw [decF_enc_42 a1_f] at hk
    exact ⟨_, rl_rfl pa_rfl _, (fun _ _ => []), (fun _ => false), ann40, q40 (⟨a0_Parts, (⟨a0_Bins_n, a0_Bins_f⟩ : (Sl (Sl FluxRow))), (⟨a0_Beta_Low, a0_Beta_High⟩ : Span), (⟨a0_Alpha_Low, a0_Alpha_High⟩ : Span)⟩ : Sky) (⟨a1_n, a1_f⟩ : (Sl RangeRow)) a2 a3 (⟨a4_Low, a4_High⟩ : Span) K hs hk⟩
  · exact h.elim
abbrev T80 : Tabs := Tabs.nil
theorem okT80 : TabsOk Try.prog T80 := TabsOk.nil
abbrev G80 : Ctrs := csm T80 (fun _ _ => []) (fun _ => false)
def ann80 : Ann := ⟨5, [(0, ⟨[0], [], [], [], []⟩), (1, ⟨[4], [], [], [], []⟩), (2, ⟨[2], [], [], [], []⟩), (3, ⟨[2], [], [], [], []⟩)],
  [],
  [],
  [], []⟩
theorem f80_top (fine : Bool) (K : List PA → Prop) :
  vcFun Try.prog G80 ann80 80 [.one (.bool fine)] K =
  (condP (!fine)
   (K [.one (.int .i64 (2:Int))])
   (K [.one (.int .i64 (0:Int))])) := by kernel_rfl
abbrev R80 := Int
abbrev e80 (r : Int) : List PA := [.one (.int .i64 r)]
def s80 (fine : Bool) : Int :=
  (cond (!fine)
   (2:Int)
   (0:Int))
theorem q80 (fine : Bool) (K : List PA → Prop) (hk : K (e80 (s80 fine))) : vcFun Try.prog G80 ann80 80 [.one (.bool fine)] K := by
  refine ofEq (f80_top fine K) ?_
  unfold s80 at hk
  exact (condP_gt (K := fun r => K (e80 r))
   (fun hk => hk)
   (fun hk => hk) hk)
def ctr80 : List PA → COut
  | [.one (.bool a0)] => .tot [.one (.int .i64 (s80 a0))]
  | _ => .no
theorem call80 : Callable Try.prog 80 := ⟨_, rfl, rfl, by kernel_rfl⟩
theorem ok80 : Ok Try.prog 80 ctr80 := ok_tab okT80 call80 fun args K h => by
  unfold ctr80 at h
  split at h
  · rename_i a0
    have hk := h
    exact ⟨(fun _ _ => []), (fun _ => false), ann80, q80 a0 K hk⟩
  · exact h.elim
abbrev T41 : Tabs := ((Tabs.nil.addF 75 ctr75).addF 80 ctr80)
theorem okT41 : TabsOk Try.prog T41 := ((TabsOk.nil.addF ok75).addF ok80)
abbrev G41 : Ctrs := csm T41 (fun _ _ => []) (fun _ => false)
def ann41 : Ann := ⟨6, [(0, ⟨[1], [1], [], [], []⟩), (1, ⟨[2], [], [], [], []⟩)],
  [],
  [],
  [], []⟩
theorem f41_top (s : Sky) (K : List PA → Prop) :
  vcFun Try.prog G41 ann41 41 [.agg [.int .i64 s.Parts, .sl s.Bins.len 1 (fun i => enc_32 (s.Bins.get i)), .int .i64 s.Beta.Low, .int .i64 s.Beta.High, .int .i64 s.Alpha.Low, .int .i64 s.Alpha.High]] K =
  ((IsE enc_32 1 1 (fun i => enc_32 (s.Bins.get i)) ∧ (p75 s = true)) ∧
  (K [.one (.int .i64 (s80 (s75 s)))])) := by kernel_rfl
abbrev R41 := Int
abbrev e41 (r : Int) : List PA := [.one (.int .i64 r)]
def s41 (s : Sky) : Int :=
  (s80 (s75 s))
def p41 (s : Sky) : Bool :=
  (decide ((p75 s = true)) &&
  true)
theorem q41 (s : Sky) (K : List PA → Prop) (hs : p41 s = true) (hk : K (e41 (s41 s))) : vcFun Try.prog G41 ann41 41 [.agg [.int .i64 s.Parts, .sl s.Bins.len 1 (fun i => enc_32 (s.Bins.get i)), .int .i64 s.Beta.Low, .int .i64 s.Beta.High, .int .i64 s.Alpha.Low, .int .i64 s.Alpha.High]] K := by
  refine ofEq (f41_top s K) ?_
  unfold p41 at hs
  unfold s41 at hk
  exact (andK hs fun hc hs => ⟨⟨isE, hc⟩, hk⟩)
def ctr41 : List PA → COut
  | [.agg [.int .i64 a0_Parts, .sl a0_Bins_n a0_Bins_s a0_Bins_g, .int .i64 a0_Beta_Low, .int .i64 a0_Beta_High, .int .i64 a0_Alpha_Low, .int .i64 a0_Alpha_High]] => .det (IsE enc_32 1 a0_Bins_s a0_Bins_g ∧ p41 (⟨a0_Parts, (⟨a0_Bins_n, decF_32 a0_Bins_g⟩ : (Sl (Sl FluxRow))), (⟨a0_Beta_Low, a0_Beta_High⟩ : Span), (⟨a0_Alpha_Low, a0_Alpha_High⟩ : Span)⟩ : Sky) = true) [.one (.int .i64 (s41 (⟨a0_Parts, (⟨a0_Bins_n, decF_32 a0_Bins_g⟩ : (Sl (Sl FluxRow))), (⟨a0_Beta_Low, a0_Beta_High⟩ : Span), (⟨a0_Alpha_Low, a0_Alpha_High⟩ : Span)⟩ : Sky)))]
  | _ => .no
theorem call41 : Callable Try.prog 41 := ⟨_, rfl, rfl, by kernel_rfl⟩
theorem ok41 : Ok Try.prog 41 ctr41 := ok_tab okT41 call41 fun args K h => by
  unfold ctr41 at h
  split at h
  · rename_i a0_Parts a0_Bins_n a0_Bins_s a0_Bins_g a0_Beta_Low a0_Beta_High a0_Alpha_Low a0_Alpha_High
    obtain ⟨⟨⟨rfl, a0_Bins_f, rfl⟩, hs⟩, hk⟩ := h
    try rw [decF_enc_32 a0_Bins_f] at hs
    try rw [decF_enc_32 a0_Bins_f] at hk
    exact ⟨(fun _ _ => []), (fun _ => false), ann41, q41 (⟨a0_Parts, (⟨a0_Bins_n, a0_Bins_f⟩ : (Sl (Sl FluxRow))), (⟨a0_Beta_Low, a0_Beta_High⟩ : Span), (⟨a0_Alpha_Low, a0_Alpha_High⟩ : Span)⟩ : Sky) K hs hk⟩
  · exact h.elim
end Go.Proofs
namespace Go.Proofs
open Go Go.Pm
set_option maxRecDepth 100000
set_option linter.unusedVariables false
attribute [local irreducible] Go.Pm.vcFun Go.Pm.vc Go.Pm.vcIter
abbrev T10 : Tabs := ((((((((((Tabs.nil.addF 15 ctr15).addF 16 ctr16).addF 17 ctr17).addF 18 ctr18).addF 20 ctr20).addF 29 ctr29).addF 33 ctr33).addF 39 ctr39).addF 40 ctr40).addF 41 ctr41)
theorem okT10 : TabsOk Try.prog T10 := ((((((((((TabsOk.nil.addF ok15).addF ok16).addF ok17).addF ok18).addF ok20).addF ok29).addF ok33).addF ok39).addF ok40).addF ok41)
abbrev G10 : Ctrs := csm T10 (fun _ _ => []) (fun _ => false)
def ann10 : Ann := ⟨150, [(0, ⟨[1, 2, 3, 5, 9], [5, 9], [], [], []⟩), (1, ⟨[1, 2, 3, 5, 9, 22], [5, 9], [], [], []⟩), (2, ⟨[10], [], [], [], []⟩), (3, ⟨[1, 2, 3, 5, 9, 11, 12], [5, 9, 11], [], [], []⟩), (4, ⟨[1, 2, 3, 5, 9, 11, 12, 66], [5, 9, 11], [], [], []⟩), (5, ⟨[10], [], [], [], []⟩), (6, ⟨[1, 2, 3, 5, 11, 12, 13, 14], [5, 11, 13], [], [], []⟩), (7, ⟨[1, 2, 3, 5, 11, 12, 13, 87], [5, 11, 13], [], [], []⟩), (8, ⟨[10], [], [], [], []⟩), (9, ⟨[1, 2, 3, 5, 11, 110], [5, 11], [], [], []⟩), (10, ⟨[10], [], [], [], []⟩), (11, ⟨[1, 2, 3, 11, 15, 16], [11, 15], [], [], []⟩), (12, ⟨[15, 16, 17, 18], [15, 17], [], [], []⟩), (13, ⟨[10], [], [], [], []⟩)],
  [],
  [(2, ⟨[1, 2, 3, 5, 9, 22], [5, 9], [], [], []⟩), (3, ⟨[1, 2, 3, 5, 9], [5, 9], [], [], []⟩), (4, ⟨[1, 2, 3, 5, 9, 11, 12], [5, 9, 11], [], [], []⟩), (5, ⟨[1, 2, 3, 5, 9, 11, 12, 66], [5, 9, 11], [], [], []⟩), (6, ⟨[1, 2, 3, 5, 9, 11, 12], [5, 9, 11], [], [], []⟩), (7, ⟨[1, 2, 3, 5, 11, 12, 13, 14], [5, 11, 13], [], [], []⟩), (9, ⟨[1, 2, 3, 5, 11, 12, 13], [5, 11, 13], [], [], []⟩), (10, ⟨[1, 2, 3, 5, 11, 110], [5, 11], [], [], []⟩), (11, ⟨[1, 2, 3, 5, 11], [5, 11], [], [], []⟩), (12, ⟨[1, 2, 3, 11, 15, 16], [11, 15], [], [], []⟩), (13, ⟨[15, 16, 17, 18], [15, 17], [], [], []⟩)],
  [], []⟩
def f10_g0 (s : Sky) (t : (Sl RangeRow)) (bin : Int) (opacity : Int) (rates : Span) (t22v0 : Bool) (s_1v0_n : Nat) (s_1v0_g : Nat → List PV) : St := ⟨[(1, .one (.c (.p (.sl t.len 3 (fun i => enc_42 (t.get i)))))), (2, .one (.c (.p (.int .i64 bin)))), (3, .one (.c (.p (.int .i64 opacity)))), (5, .one (.c (.ptr 5 0))), (9, .one (.c (.ptr 9 0))), (22, .one (.c (.p (.bool t22v0))))], [(5, .box 26 [.p (.int .i64 s.Parts), .p (.sl s_1v0_n 1 s_1v0_g), .p (.int .i64 s.Beta.Low), .p (.int .i64 s.Beta.High), .p (.int .i64 s.Alpha.Low), .p (.int .i64 s.Alpha.High)]), (9, .box 24 [.p (.int .i64 rates.Low), .p (.int .i64 rates.High)])], []⟩
def f10_at0 (K : List PA → Prop) (s : Sky) (t : (Sl RangeRow)) (bin : Int) (opacity : Int) (rates : Span) (t22v0 : Bool) (s_1v0_n : Nat) (s_1v0_g : Nat → List PV) : Prop := vc Try.prog G10 ann10 (cdF Try.f10 [1, 0, 1]) (sqK Try.prog G10 ann10 (cdF Try.f10 [1, 1]) (bodyK Try.prog Try.f10 K)) (f10_g0 s t bin opacity rates t22v0 s_1v0_n s_1v0_g)
def f10_g1 (s : Sky) (t : (Sl RangeRow)) (bin : Int) (opacity : Int) (rates : Span) (s_1v1_n : Nat) (s_1v1_g : Nat → List PV) : St := ⟨[(1, .one (.c (.p (.sl t.len 3 (fun i => enc_42 (t.get i)))))), (2, .one (.c (.p (.int .i64 bin)))), (3, .one (.c (.p (.int .i64 opacity)))), (5, .one (.c (.ptr 5 0))), (9, .one (.c (.ptr 9 0)))], [(5, .box 26 [.p (.int .i64 s.Parts), .p (.sl s_1v1_n 1 s_1v1_g), .p (.int .i64 s.Beta.Low), .p (.int .i64 s.Beta.High), .p (.int .i64 s.Alpha.Low), .p (.int .i64 s.Alpha.High)]), (9, .box 24 [.p (.int .i64 rates.Low), .p (.int .i64 rates.High)])], []⟩
def f10_at1 (K : List PA → Prop) (s : Sky) (t : (Sl RangeRow)) (bin : Int) (opacity : Int) (rates : Span) (s_1v1_n : Nat) (s_1v1_g : Nat → List PV) : Prop := vc Try.prog G10 ann10 (cdF Try.f10 [1, 1]) (bodyK Try.prog Try.f10 K) (f10_g1 s t bin opacity rates s_1v1_n s_1v1_g)
def f10_g2 (s : Sky) (t : (Sl RangeRow)) (bin : Int) (opacity : Int) (rates : Span) (ev2 : Int) (s_1v2_n : Nat) (s_1v2_g : Nat → List PV) (x_0v2 : Int) (x_1v2_n : Nat) (x_1v2_g : Nat → List PV) (x_2v2 : Int) (x_3v2 : Int) (x_4v2 : Int) (x_5v2 : Int) : St := ⟨[(1, .one (.c (.p (.sl t.len 3 (fun i => enc_42 (t.get i)))))), (2, .one (.c (.p (.int .i64 bin)))), (3, .one (.c (.p (.int .i64 opacity)))), (5, .one (.c (.ptr 5 0))), (9, .one (.c (.ptr 9 0))), (11, .one (.c (.ptr 11 0))), (12, .one (.c (.p (.int .i64 ev2))))], [(5, .box 26 [.p (.int .i64 s.Parts), .p (.sl s_1v2_n 1 s_1v2_g), .p (.int .i64 s.Beta.Low), .p (.int .i64 s.Beta.High), .p (.int .i64 s.Alpha.Low), .p (.int .i64 s.Alpha.High)]), (9, .box 24 [.p (.int .i64 rates.Low), .p (.int .i64 rates.High)]), (11, .box 26 [.p (.int .i64 x_0v2), .p (.sl x_1v2_n 1 x_1v2_g), .p (.int .i64 x_2v2), .p (.int .i64 x_3v2), .p (.int .i64 x_4v2), .p (.int .i64 x_5v2)])], []⟩
def f10_at2 (K : List PA → Prop) (s : Sky) (t : (Sl RangeRow)) (bin : Int) (opacity : Int) (rates : Span) (ev2 : Int) (s_1v2_n : Nat) (s_1v2_g : Nat → List PV) (x_0v2 : Int) (x_1v2_n : Nat) (x_1v2_g : Nat → List PV) (x_2v2 : Int) (x_3v2 : Int) (x_4v2 : Int) (x_5v2 : Int) : Prop := vc Try.prog G10 ann10 (cdF Try.f10 [1, 1, 1]) (bodyK Try.prog Try.f10 K) (f10_g2 s t bin opacity rates ev2 s_1v2_n s_1v2_g x_0v2 x_1v2_n x_1v2_g x_2v2 x_3v2 x_4v2 x_5v2)
def f10_g3 (s : Sky) (t : (Sl RangeRow)) (bin : Int) (opacity : Int) (rates : Span) (ev2 : Int) (x_0v2 : Int) (x_1v2 : (Sl (Sl FluxRow))) (x_2v2 : Int) (x_3v2 : Int) (x_4v2 : Int) (x_5v2 : Int) (t66v3 : Bool) (s_1v3_n : Nat) (s_1v3_g : Nat → List PV) : St := ⟨[(1, .one (.c (.p (.sl t.len 3 (fun i => enc_42 (t.get i)))))), (2, .one (.c (.p (.int .i64 bin)))), (3, .one (.c (.p (.int .i64 opacity)))), (5, .one (.c (.ptr 5 0))), (9, .one (.c (.ptr 9 0))), (11, .one (.c (.ptr 11 0))), (12, .one (.c (.p (.int .i64 ev2)))), (66, .one (.c (.p (.bool t66v3))))], [(5, .box 26 [.p (.int .i64 s.Parts), .p (.sl s_1v3_n 1 s_1v3_g), .p (.int .i64 s.Beta.Low), .p (.int .i64 s.Beta.High), .p (.int .i64 s.Alpha.Low), .p (.int .i64 s.Alpha.High)]), (9, .box 24 [.p (.int .i64 rates.Low), .p (.int .i64 rates.High)]), (11, .box 26 [.p (.int .i64 x_0v2), .p (.sl x_1v2.len 1 (fun i => enc_32 (x_1v2.get i))), .p (.int .i64 x_2v2), .p (.int .i64 x_3v2), .p (.int .i64 x_4v2), .p (.int .i64 x_5v2)])], []⟩
def f10_at3 (K : List PA → Prop) (s : Sky) (t : (Sl RangeRow)) (bin : Int) (opacity : Int) (rates : Span) (ev2 : Int) (x_0v2 : Int) (x_1v2 : (Sl (Sl FluxRow))) (x_2v2 : Int) (x_3v2 : Int) (x_4v2 : Int) (x_5v2 : Int) (t66v3 : Bool) (s_1v3_n : Nat) (s_1v3_g : Nat → List PV) : Prop := vc Try.prog G10 ann10 (cdF Try.f10 [1, 1, 1, 0, 1]) (sqK Try.prog G10 ann10 (cdF Try.f10 [1, 1, 1, 1]) (bodyK Try.prog Try.f10 K)) (f10_g3 s t bin opacity rates ev2 x_0v2 x_1v2 x_2v2 x_3v2 x_4v2 x_5v2 t66v3 s_1v3_n s_1v3_g)
def f10_g4 (s : Sky) (t : (Sl RangeRow)) (bin : Int) (opacity : Int) (rates : Span) (ev2 : Int) (x_0v2 : Int) (x_1v2 : (Sl (Sl FluxRow))) (x_2v2 : Int) (x_3v2 : Int) (x_4v2 : Int) (x_5v2 : Int) (s_1v4_n : Nat) (s_1v4_g : Nat → List PV) : St := ⟨[(1, .one (.c (.p (.sl t.len 3 (fun i => enc_42 (t.get i)))))), (2, .one (.c (.p (.int .i64 bin)))), (3, .one (.c (.p (.int .i64 opacity)))), (5, .one (.c (.ptr 5 0))), (9, .one (.c (.ptr 9 0))), (11, .one (.c (.ptr 11 0))), (12, .one (.c (.p (.int .i64 ev2))))], [(5, .box 26 [.p (.int .i64 s.Parts), .p (.sl s_1v4_n 1 s_1v4_g), .p (.int .i64 s.Beta.Low), .p (.int .i64 s.Beta.High), .p (.int .i64 s.Alpha.Low), .p (.int .i64 s.Alpha.High)]), (9, .box 24 [.p (.int .i64 rates.Low), .p (.int .i64 rates.High)]), (11, .box 26 [.p (.int .i64 x_0v2), .p (.sl x_1v2.len 1 (fun i => enc_32 (x_1v2.get i))), .p (.int .i64 x_2v2), .p (.int .i64 x_3v2), .p (.int .i64 x_4v2), .p (.int .i64 x_5v2)])], []⟩
def f10_at4 (K : List PA → Prop) (s : Sky) (t : (Sl RangeRow)) (bin : Int) (opacity : Int) (rates : Span) (ev2 : Int) (x_0v2 : Int) (x_1v2 : (Sl (Sl FluxRow))) (x_2v2 : Int) (x_3v2 : Int) (x_4v2 : Int) (x_5v2 : Int) (s_1v4_n : Nat) (s_1v4_g : Nat → List PV) : Prop := vc Try.prog G10 ann10 (cdF Try.f10 [1, 1, 1, 1]) (bodyK Try.prog Try.f10 K) (f10_g4 s t bin opacity rates ev2 x_0v2 x_1v2 x_2v2 x_3v2 x_4v2 x_5v2 s_1v4_n s_1v4_g)
def f10_g5 (s : Sky) (t : (Sl RangeRow)) (bin : Int) (opacity : Int) (ev2 : Int) (x_0v2 : Int) (x_1v2 : (Sl (Sl FluxRow))) (x_2v2 : Int) (x_3v2 : Int) (x_4v2 : Int) (x_5v2 : Int) (isv5 : Bool) (s_1v5_n : Nat) (s_1v5_g : Nat → List PV) (want_0v5 : Int) (want_1v5_n : Nat) (want_1v5_g : Nat → List PV) (want_2v5 : Int) (want_3v5 : Int) (want_4v5 : Int) (want_5v5 : Int) : St := ⟨[(1, .one (.c (.p (.sl t.len 3 (fun i => enc_42 (t.get i)))))), (2, .one (.c (.p (.int .i64 bin)))), (3, .one (.c (.p (.int .i64 opacity)))), (5, .one (.c (.ptr 5 0))), (11, .one (.c (.ptr 11 0))), (12, .one (.c (.p (.int .i64 ev2)))), (13, .one (.c (.ptr 13 0))), (14, .one (.c (.p (.bool isv5))))], [(5, .box 26 [.p (.int .i64 s.Parts), .p (.sl s_1v5_n 1 s_1v5_g), .p (.int .i64 s.Beta.Low), .p (.int .i64 s.Beta.High), .p (.int .i64 s.Alpha.Low), .p (.int .i64 s.Alpha.High)]), (11, .box 26 [.p (.int .i64 x_0v2), .p (.sl x_1v2.len 1 (fun i => enc_32 (x_1v2.get i))), .p (.int .i64 x_2v2), .p (.int .i64 x_3v2), .p (.int .i64 x_4v2), .p (.int .i64 x_5v2)]), (13, .box 26 [.p (.int .i64 want_0v5), .p (.sl want_1v5_n 1 want_1v5_g), .p (.int .i64 want_2v5), .p (.int .i64 want_3v5), .p (.int .i64 want_4v5), .p (.int .i64 want_5v5)])], []⟩
def f10_at5 (K : List PA → Prop) (s : Sky) (t : (Sl RangeRow)) (bin : Int) (opacity : Int) (ev2 : Int) (x_0v2 : Int) (x_1v2 : (Sl (Sl FluxRow))) (x_2v2 : Int) (x_3v2 : Int) (x_4v2 : Int) (x_5v2 : Int) (isv5 : Bool) (s_1v5_n : Nat) (s_1v5_g : Nat → List PV) (want_0v5 : Int) (want_1v5_n : Nat) (want_1v5_g : Nat → List PV) (want_2v5 : Int) (want_3v5 : Int) (want_4v5 : Int) (want_5v5 : Int) : Prop := vc Try.prog G10 ann10 (cdF Try.f10 [1, 1, 1, 1, 1]) (bodyK Try.prog Try.f10 K) (f10_g5 s t bin opacity ev2 x_0v2 x_1v2 x_2v2 x_3v2 x_4v2 x_5v2 isv5 s_1v5_n s_1v5_g want_0v5 want_1v5_n want_1v5_g want_2v5 want_3v5 want_4v5 want_5v5)
def f10_g6 (s : Sky) (t : (Sl RangeRow)) (bin : Int) (opacity : Int) (ev2 : Int) (x_0v2 : Int) (x_1v2 : (Sl (Sl FluxRow))) (x_2v2 : Int) (x_3v2 : Int) (x_4v2 : Int) (x_5v2 : Int) (want_0v5 : Int) (want_1v5 : (Sl (Sl FluxRow))) (want_2v5 : Int) (want_3v5 : Int) (want_4v5 : Int) (want_5v5 : Int) (s_1v6_n : Nat) (s_1v6_g : Nat → List PV) : St := ⟨[(1, .one (.c (.p (.sl t.len 3 (fun i => enc_42 (t.get i)))))), (2, .one (.c (.p (.int .i64 bin)))), (3, .one (.c (.p (.int .i64 opacity)))), (5, .one (.c (.ptr 5 0))), (11, .one (.c (.ptr 11 0))), (12, .one (.c (.p (.int .i64 ev2)))), (13, .one (.c (.ptr 13 0)))], [(5, .box 26 [.p (.int .i64 s.Parts), .p (.sl s_1v6_n 1 s_1v6_g), .p (.int .i64 s.Beta.Low), .p (.int .i64 s.Beta.High), .p (.int .i64 s.Alpha.Low), .p (.int .i64 s.Alpha.High)]), (11, .box 26 [.p (.int .i64 x_0v2), .p (.sl x_1v2.len 1 (fun i => enc_32 (x_1v2.get i))), .p (.int .i64 x_2v2), .p (.int .i64 x_3v2), .p (.int .i64 x_4v2), .p (.int .i64 x_5v2)]), (13, .box 26 [.p (.int .i64 want_0v5), .p (.sl want_1v5.len 1 (fun i => enc_32 (want_1v5.get i))), .p (.int .i64 want_2v5), .p (.int .i64 want_3v5), .p (.int .i64 want_4v5), .p (.int .i64 want_5v5)])], []⟩
def f10_at6 (K : List PA → Prop) (s : Sky) (t : (Sl RangeRow)) (bin : Int) (opacity : Int) (ev2 : Int) (x_0v2 : Int) (x_1v2 : (Sl (Sl FluxRow))) (x_2v2 : Int) (x_3v2 : Int) (x_4v2 : Int) (x_5v2 : Int) (want_0v5 : Int) (want_1v5 : (Sl (Sl FluxRow))) (want_2v5 : Int) (want_3v5 : Int) (want_4v5 : Int) (want_5v5 : Int) (s_1v6_n : Nat) (s_1v6_g : Nat → List PV) : Prop := vc Try.prog G10 ann10 (cdF Try.f10 [1, 1, 1, 1, 1, 1]) (bodyK Try.prog Try.f10 K) (f10_g6 s t bin opacity ev2 x_0v2 x_1v2 x_2v2 x_3v2 x_4v2 x_5v2 want_0v5 want_1v5 want_2v5 want_3v5 want_4v5 want_5v5 s_1v6_n s_1v6_g)
def f10_g7 (s : Sky) (t : (Sl RangeRow)) (bin : Int) (opacity : Int) (x_0v2 : Int) (x_1v2 : (Sl (Sl FluxRow))) (x_2v2 : Int) (x_3v2 : Int) (x_4v2 : Int) (x_5v2 : Int) (t110v7 : Bool) (s_1v7_n : Nat) (s_1v7_g : Nat → List PV) : St := ⟨[(1, .one (.c (.p (.sl t.len 3 (fun i => enc_42 (t.get i)))))), (2, .one (.c (.p (.int .i64 bin)))), (3, .one (.c (.p (.int .i64 opacity)))), (5, .one (.c (.ptr 5 0))), (11, .one (.c (.ptr 11 0))), (110, .one (.c (.p (.bool t110v7))))], [(5, .box 26 [.p (.int .i64 s.Parts), .p (.sl s_1v7_n 1 s_1v7_g), .p (.int .i64 s.Beta.Low), .p (.int .i64 s.Beta.High), .p (.int .i64 s.Alpha.Low), .p (.int .i64 s.Alpha.High)]), (11, .box 26 [.p (.int .i64 x_0v2), .p (.sl x_1v2.len 1 (fun i => enc_32 (x_1v2.get i))), .p (.int .i64 x_2v2), .p (.int .i64 x_3v2), .p (.int .i64 x_4v2), .p (.int .i64 x_5v2)])], []⟩
def f10_at7 (K : List PA → Prop) (s : Sky) (t : (Sl RangeRow)) (bin : Int) (opacity : Int) (x_0v2 : Int) (x_1v2 : (Sl (Sl FluxRow))) (x_2v2 : Int) (x_3v2 : Int) (x_4v2 : Int) (x_5v2 : Int) (t110v7 : Bool) (s_1v7_n : Nat) (s_1v7_g : Nat → List PV) : Prop := vc Try.prog G10 ann10 (cdF Try.f10 [1, 1, 1, 1, 1, 1, 0, 1]) (sqK Try.prog G10 ann10 (cdF Try.f10 [1, 1, 1, 1, 1, 1, 1]) (bodyK Try.prog Try.f10 K)) (f10_g7 s t bin opacity x_0v2 x_1v2 x_2v2 x_3v2 x_4v2 x_5v2 t110v7 s_1v7_n s_1v7_g)
def f10_g8 (s : Sky) (t : (Sl RangeRow)) (bin : Int) (opacity : Int) (x_0v2 : Int) (x_1v2 : (Sl (Sl FluxRow))) (x_2v2 : Int) (x_3v2 : Int) (x_4v2 : Int) (x_5v2 : Int) (s_1v8_n : Nat) (s_1v8_g : Nat → List PV) : St := ⟨[(1, .one (.c (.p (.sl t.len 3 (fun i => enc_42 (t.get i)))))), (2, .one (.c (.p (.int .i64 bin)))), (3, .one (.c (.p (.int .i64 opacity)))), (5, .one (.c (.ptr 5 0))), (11, .one (.c (.ptr 11 0)))], [(5, .box 26 [.p (.int .i64 s.Parts), .p (.sl s_1v8_n 1 s_1v8_g), .p (.int .i64 s.Beta.Low), .p (.int .i64 s.Beta.High), .p (.int .i64 s.Alpha.Low), .p (.int .i64 s.Alpha.High)]), (11, .box 26 [.p (.int .i64 x_0v2), .p (.sl x_1v2.len 1 (fun i => enc_32 (x_1v2.get i))), .p (.int .i64 x_2v2), .p (.int .i64 x_3v2), .p (.int .i64 x_4v2), .p (.int .i64 x_5v2)])], []⟩
def f10_at8 (K : List PA → Prop) (s : Sky) (t : (Sl RangeRow)) (bin : Int) (opacity : Int) (x_0v2 : Int) (x_1v2 : (Sl (Sl FluxRow))) (x_2v2 : Int) (x_3v2 : Int) (x_4v2 : Int) (x_5v2 : Int) (s_1v8_n : Nat) (s_1v8_g : Nat → List PV) : Prop := vc Try.prog G10 ann10 (cdF Try.f10 [1, 1, 1, 1, 1, 1, 1]) (bodyK Try.prog Try.f10 K) (f10_g8 s t bin opacity x_0v2 x_1v2 x_2v2 x_3v2 x_4v2 x_5v2 s_1v8_n s_1v8_g)
def f10_g9 (t : (Sl RangeRow)) (bin : Int) (opacity : Int) (x_0v2 : Int) (x_1v2 : (Sl (Sl FluxRow))) (x_2v2 : Int) (x_3v2 : Int) (x_4v2 : Int) (x_5v2 : Int) (fv9 : Int) (a_0v9 : Int) (a_1v9 : Int) : St := ⟨[(1, .one (.c (.p (.sl t.len 3 (fun i => enc_42 (t.get i)))))), (2, .one (.c (.p (.int .i64 bin)))), (3, .one (.c (.p (.int .i64 opacity)))), (11, .one (.c (.ptr 11 0))), (15, .one (.c (.ptr 15 0))), (16, .one (.c (.p (.int .i64 fv9))))], [(11, .box 26 [.p (.int .i64 x_0v2), .p (.sl x_1v2.len 1 (fun i => enc_32 (x_1v2.get i))), .p (.int .i64 x_2v2), .p (.int .i64 x_3v2), .p (.int .i64 x_4v2), .p (.int .i64 x_5v2)]), (15, .box 24 [.p (.int .i64 a_0v9), .p (.int .i64 a_1v9)])], []⟩
def f10_at9 (K : List PA → Prop) (t : (Sl RangeRow)) (bin : Int) (opacity : Int) (x_0v2 : Int) (x_1v2 : (Sl (Sl FluxRow))) (x_2v2 : Int) (x_3v2 : Int) (x_4v2 : Int) (x_5v2 : Int) (fv9 : Int) (a_0v9 : Int) (a_1v9 : Int) : Prop := vc Try.prog G10 ann10 (cdF Try.f10 [1, 1, 1, 1, 1, 1, 1, 1]) (bodyK Try.prog Try.f10 K) (f10_g9 t bin opacity x_0v2 x_1v2 x_2v2 x_3v2 x_4v2 x_5v2 fv9 a_0v9 a_1v9)
def f10_g10 (fv9 : Int) (a_0v9 : Int) (a_1v9 : Int) (gv10 : Int) (b_0v10 : Int) (b_1v10 : Int) : St := ⟨[(15, .one (.c (.ptr 15 0))), (16, .one (.c (.p (.int .i64 fv9)))), (17, .one (.c (.ptr 17 0))), (18, .one (.c (.p (.int .i64 gv10))))], [(15, .box 24 [.p (.int .i64 a_0v9), .p (.int .i64 a_1v9)]), (17, .box 24 [.p (.int .i64 b_0v10), .p (.int .i64 b_1v10)])], []⟩
def f10_at10 (K : List PA → Prop) (fv9 : Int) (a_0v9 : Int) (a_1v9 : Int) (gv10 : Int) (b_0v10 : Int) (b_1v10 : Int) : Prop := vc Try.prog G10 ann10 (cdF Try.f10 [1, 1, 1, 1, 1, 1, 1, 1, 1]) (bodyK Try.prog Try.f10 K) (f10_g10 fv9 a_0v9 a_1v9 gv10 b_0v10 b_1v10)
theorem f10_top (s : Sky) (t : (Sl RangeRow)) (bin : Int) (opacity : Int) (rates : Span) (K : List PA → Prop) :
  vcFun Try.prog G10 ann10 10 [.agg [.int .i64 s.Parts, .sl s.Bins.len 1 (fun i => enc_32 (s.Bins.get i)), .int .i64 s.Beta.Low, .int .i64 s.Beta.High, .int .i64 s.Alpha.Low, .int .i64 s.Alpha.High], .one (.sl t.len 3 (fun i => enc_42 (t.get i))), .one (.int .i64 bin), .one (.int .i64 opacity), .agg [.int .i64 rates.Low, .int .i64 rates.High]] K =
  ((IsE enc_32 1 1 (fun i => enc_32 (s.Bins.get i)) ∧ IsE enc_42 3 3 (fun i => enc_42 (t.get i)) ∧ (p15 s t = true)) ∧
  (f10_at0 K s t bin opacity rates (!(s15 s t)) s.Bins.len (fun i => enc_32 (s.Bins.get i)))) := by kernel_rfl
theorem f10_eq0 (K : List PA → Prop) (s : Sky) (t : (Sl RangeRow)) (bin : Int) (opacity : Int) (rates : Span) (t22v0 : Bool) (s_1v0 : (Sl (Sl FluxRow))) :
  f10_at0 K s t bin opacity rates t22v0 s_1v0.len (fun i => enc_32 (s_1v0.get i)) =
  (condP t22v0
   (K [.one (.bool true)])
   (f10_at1 K s t bin opacity rates s_1v0.len (fun i => enc_32 (s_1v0.get i)))) := by kernel_rfl
theorem f10_eq1 (K : List PA → Prop) (s : Sky) (t : (Sl RangeRow)) (bin : Int) (opacity : Int) (rates : Span) (s_1v1 : (Sl (Sl FluxRow))) :
  f10_at1 K s t bin opacity rates s_1v1.len (fun i => enc_32 (s_1v1.get i)) =
  ((IsE enc_32 1 1 (fun i => enc_32 (s_1v1.get i)) ∧ IsE enc_42 3 3 (fun i => enc_42 (t.get i)) ∧ (p33 (⟨s.Parts, s_1v1, s.Beta, s.Alpha⟩ : Sky) t bin opacity rates = true)) ∧
  (f10_at2 K s t bin opacity rates ((s33 (⟨s.Parts, s_1v1, s.Beta, s.Alpha⟩ : Sky) t bin opacity rates).2) s_1v1.len (fun i => enc_32 (s_1v1.get i)) (((s33 (⟨s.Parts, s_1v1, s.Beta, s.Alpha⟩ : Sky) t bin opacity rates).1).Parts) (((s33 (⟨s.Parts, s_1v1, s.Beta, s.Alpha⟩ : Sky) t bin opacity rates).1).Bins.len) (fun i => enc_32 (((s33 (⟨s.Parts, s_1v1, s.Beta, s.Alpha⟩ : Sky) t bin opacity rates).1).Bins.get i)) (((s33 (⟨s.Parts, s_1v1, s.Beta, s.Alpha⟩ : Sky) t bin opacity rates).1).Beta.Low) (((s33 (⟨s.Parts, s_1v1, s.Beta, s.Alpha⟩ : Sky) t bin opacity rates).1).Beta.High) (((s33 (⟨s.Parts, s_1v1, s.Beta, s.Alpha⟩ : Sky) t bin opacity rates).1).Alpha.Low) (((s33 (⟨s.Parts, s_1v1, s.Beta, s.Alpha⟩ : Sky) t bin opacity rates).1).Alpha.High))) := by kernel_rfl
theorem f10_eq2 (K : List PA → Prop) (s : Sky) (t : (Sl RangeRow)) (bin : Int) (opacity : Int) (rates : Span) (ev2 : Int) (s_1v2 : (Sl (Sl FluxRow))) (x_0v2 : Int) (x_1v2 : (Sl (Sl FluxRow))) (x_2v2 : Int) (x_3v2 : Int) (x_4v2 : Int) (x_5v2 : Int) :
  f10_at2 K s t bin opacity rates ev2 s_1v2.len (fun i => enc_32 (s_1v2.get i)) x_0v2 x_1v2.len (fun i => enc_32 (x_1v2.get i)) x_2v2 x_3v2 x_4v2 x_5v2 =
  ((IsE enc_32 1 1 (fun i => enc_32 (s_1v2.get i)) ∧ (p16 (⟨s.Parts, s_1v2, s.Beta, s.Alpha⟩ : Sky) = true)) ∧
  (condP (!(s16 (⟨s.Parts, s_1v2, s.Beta, s.Alpha⟩ : Sky)))
   (f10_at3 K s t bin opacity rates ev2 x_0v2 x_1v2 x_2v2 x_3v2 x_4v2 x_5v2 true s_1v2.len (fun i => enc_32 (s_1v2.get i)))
   ((IsE enc_42 3 3 (fun i => enc_42 (t.get i)) ∧ (p17 t = true)) ∧
   (condP (!(s17 t))
    (f10_at3 K s t bin opacity rates ev2 x_0v2 x_1v2 x_2v2 x_3v2 x_4v2 x_5v2 true s_1v2.len (fun i => enc_32 (s_1v2.get i)))
    (condP (decide (bin < (0:Int)))
     (f10_at3 K s t bin opacity rates ev2 x_0v2 x_1v2 x_2v2 x_3v2 x_4v2 x_5v2 true s_1v2.len (fun i => enc_32 (s_1v2.get i)))
     (condP (decide (bin ≥ (s_1v2.len : Int)))
      (f10_at3 K s t bin opacity rates ev2 x_0v2 x_1v2 x_2v2 x_3v2 x_4v2 x_5v2 true s_1v2.len (fun i => enc_32 (s_1v2.get i)))
      (condP (decide (opacity < (0:Int)))
       (f10_at3 K s t bin opacity rates ev2 x_0v2 x_1v2 x_2v2 x_3v2 x_4v2 x_5v2 true s_1v2.len (fun i => enc_32 (s_1v2.get i)))
       (condP (decide (opacity > (1000000:Int)))
        (f10_at3 K s t bin opacity rates ev2 x_0v2 x_1v2 x_2v2 x_3v2 x_4v2 x_5v2 true s_1v2.len (fun i => enc_32 (s_1v2.get i)))
        (f10_at3 K s t bin opacity rates ev2 x_0v2 x_1v2 x_2v2 x_3v2 x_4v2 x_5v2 (!(s29 rates (0:Int) s.Parts)) s_1v2.len (fun i => enc_32 (s_1v2.get i))))))))))) := by kernel_rfl
theorem f10_eq3 (K : List PA → Prop) (s : Sky) (t : (Sl RangeRow)) (bin : Int) (opacity : Int) (rates : Span) (ev2 : Int) (x_0v2 : Int) (x_1v2 : (Sl (Sl FluxRow))) (x_2v2 : Int) (x_3v2 : Int) (x_4v2 : Int) (x_5v2 : Int) (t66v3 : Bool) (s_1v3 : (Sl (Sl FluxRow))) :
  f10_at3 K s t bin opacity rates ev2 x_0v2 x_1v2 x_2v2 x_3v2 x_4v2 x_5v2 t66v3 s_1v3.len (fun i => enc_32 (s_1v3.get i)) =
  (condP t66v3
   (condP (ev2 == (2:Int))
    ((IsE enc_32 1 1 (fun i => enc_32 (x_1v2.get i)) ∧ (p39 (⟨x_0v2, x_1v2, (⟨x_2v2, x_3v2⟩ : Span), (⟨x_4v2, x_5v2⟩ : Span)⟩ : Sky) (⟨(0:Int), (⟨0, fun _ => default⟩ : (Sl (Sl FluxRow))), (⟨(0:Int), (0:Int)⟩ : Span), (⟨(0:Int), (0:Int)⟩ : Span)⟩ : Sky) = true)) ∧
    (condP (s39 (⟨x_0v2, x_1v2, (⟨x_2v2, x_3v2⟩ : Span), (⟨x_4v2, x_5v2⟩ : Span)⟩ : Sky) (⟨(0:Int), (⟨0, fun _ => default⟩ : (Sl (Sl FluxRow))), (⟨(0:Int), (0:Int)⟩ : Span), (⟨(0:Int), (0:Int)⟩ : Span)⟩ : Sky))
     (K [.one (.bool true)])
     (K [.one (.bool false)])))
    (K [.one (.bool false)]))
   (f10_at4 K s t bin opacity rates ev2 x_0v2 x_1v2 x_2v2 x_3v2 x_4v2 x_5v2 s_1v3.len (fun i => enc_32 (s_1v3.get i)))) := by kernel_rfl
theorem f10_eq4 (K : List PA → Prop) (s : Sky) (t : (Sl RangeRow)) (bin : Int) (opacity : Int) (rates : Span) (ev2 : Int) (x_0v2 : Int) (x_1v2 : (Sl (Sl FluxRow))) (x_2v2 : Int) (x_3v2 : Int) (x_4v2 : Int) (x_5v2 : Int) (s_1v4 : (Sl (Sl FluxRow))) :
  f10_at4 K s t bin opacity rates ev2 x_0v2 x_1v2 x_2v2 x_3v2 x_4v2 x_5v2 s_1v4.len (fun i => enc_32 (s_1v4.get i)) =
  ((IsE enc_32 1 1 (fun i => enc_32 (s_1v4.get i)) ∧ IsE enc_42 3 3 (fun i => enc_42 (t.get i)) ∧ (p40 (⟨s.Parts, s_1v4, s.Beta, s.Alpha⟩ : Sky) t bin opacity rates = true)) ∧
  (f10_at5 K s t bin opacity ev2 x_0v2 x_1v2 x_2v2 x_3v2 x_4v2 x_5v2 ((s40 (⟨s.Parts, s_1v4, s.Beta, s.Alpha⟩ : Sky) t bin opacity rates).2) s_1v4.len (fun i => enc_32 (s_1v4.get i)) (((s40 (⟨s.Parts, s_1v4, s.Beta, s.Alpha⟩ : Sky) t bin opacity rates).1).Parts) (((s40 (⟨s.Parts, s_1v4, s.Beta, s.Alpha⟩ : Sky) t bin opacity rates).1).Bins.len) (fun i => enc_32 (((s40 (⟨s.Parts, s_1v4, s.Beta, s.Alpha⟩ : Sky) t bin opacity rates).1).Bins.get i)) (((s40 (⟨s.Parts, s_1v4, s.Beta, s.Alpha⟩ : Sky) t bin opacity rates).1).Beta.Low) (((s40 (⟨s.Parts, s_1v4, s.Beta, s.Alpha⟩ : Sky) t bin opacity rates).1).Beta.High) (((s40 (⟨s.Parts, s_1v4, s.Beta, s.Alpha⟩ : Sky) t bin opacity rates).1).Alpha.Low) (((s40 (⟨s.Parts, s_1v4, s.Beta, s.Alpha⟩ : Sky) t bin opacity rates).1).Alpha.High))) := by kernel_rfl
theorem f10_eq5 (K : List PA → Prop) (s : Sky) (t : (Sl RangeRow)) (bin : Int) (opacity : Int) (ev2 : Int) (x_0v2 : Int) (x_1v2 : (Sl (Sl FluxRow))) (x_2v2 : Int) (x_3v2 : Int) (x_4v2 : Int) (x_5v2 : Int) (isv5 : Bool) (s_1v5 : (Sl (Sl FluxRow))) (want_0v5 : Int) (want_1v5 : (Sl (Sl FluxRow))) (want_2v5 : Int) (want_3v5 : Int) (want_4v5 : Int) (want_5v5 : Int) :
  f10_at5 K s t bin opacity ev2 x_0v2 x_1v2 x_2v2 x_3v2 x_4v2 x_5v2 isv5 s_1v5.len (fun i => enc_32 (s_1v5.get i)) want_0v5 want_1v5.len (fun i => enc_32 (want_1v5.get i)) want_2v5 want_3v5 want_4v5 want_5v5 =
  (condP (!isv5)
   (condP (ev2 == (5:Int))
    ((IsE enc_32 1 1 (fun i => enc_32 (x_1v2.get i)) ∧ (p39 (⟨x_0v2, x_1v2, (⟨x_2v2, x_3v2⟩ : Span), (⟨x_4v2, x_5v2⟩ : Span)⟩ : Sky) (⟨(0:Int), (⟨0, fun _ => default⟩ : (Sl (Sl FluxRow))), (⟨(0:Int), (0:Int)⟩ : Span), (⟨(0:Int), (0:Int)⟩ : Span)⟩ : Sky) = true)) ∧
    (condP (s39 (⟨x_0v2, x_1v2, (⟨x_2v2, x_3v2⟩ : Span), (⟨x_4v2, x_5v2⟩ : Span)⟩ : Sky) (⟨(0:Int), (⟨0, fun _ => default⟩ : (Sl (Sl FluxRow))), (⟨(0:Int), (0:Int)⟩ : Span), (⟨(0:Int), (0:Int)⟩ : Span)⟩ : Sky))
     (K [.one (.bool true)])
     (K [.one (.bool false)])))
    (K [.one (.bool false)]))
   (f10_at6 K s t bin opacity ev2 x_0v2 x_1v2 x_2v2 x_3v2 x_4v2 x_5v2 want_0v5 want_1v5 want_2v5 want_3v5 want_4v5 want_5v5 s_1v5.len (fun i => enc_32 (s_1v5.get i)))) := by kernel_rfl
theorem f10_eq6 (K : List PA → Prop) (s : Sky) (t : (Sl RangeRow)) (bin : Int) (opacity : Int) (ev2 : Int) (x_0v2 : Int) (x_1v2 : (Sl (Sl FluxRow))) (x_2v2 : Int) (x_3v2 : Int) (x_4v2 : Int) (x_5v2 : Int) (want_0v5 : Int) (want_1v5 : (Sl (Sl FluxRow))) (want_2v5 : Int) (want_3v5 : Int) (want_4v5 : Int) (want_5v5 : Int) (s_1v6 : (Sl (Sl FluxRow))) :
  f10_at6 K s t bin opacity ev2 x_0v2 x_1v2 x_2v2 x_3v2 x_4v2 x_5v2 want_0v5 want_1v5 want_2v5 want_3v5 want_4v5 want_5v5 s_1v6.len (fun i => enc_32 (s_1v6.get i)) =
  (condP (ev2 != (0:Int))
   (f10_at7 K s t bin opacity x_0v2 x_1v2 x_2v2 x_3v2 x_4v2 x_5v2 true s_1v6.len (fun i => enc_32 (s_1v6.get i)))
   ((IsE enc_32 1 1 (fun i => enc_32 (x_1v2.get i)) ∧ IsE enc_32 1 1 (fun i => enc_32 (want_1v5.get i)) ∧ (p39 (⟨x_0v2, x_1v2, (⟨x_2v2, x_3v2⟩ : Span), (⟨x_4v2, x_5v2⟩ : Span)⟩ : Sky) (⟨want_0v5, want_1v5, (⟨want_2v5, want_3v5⟩ : Span), (⟨want_4v5, want_5v5⟩ : Span)⟩ : Sky) = true)) ∧
   (condP (!(s39 (⟨x_0v2, x_1v2, (⟨x_2v2, x_3v2⟩ : Span), (⟨x_4v2, x_5v2⟩ : Span)⟩ : Sky) (⟨want_0v5, want_1v5, (⟨want_2v5, want_3v5⟩ : Span), (⟨want_4v5, want_5v5⟩ : Span)⟩ : Sky)))
    (f10_at7 K s t bin opacity x_0v2 x_1v2 x_2v2 x_3v2 x_4v2 x_5v2 true s_1v6.len (fun i => enc_32 (s_1v6.get i)))
    ((IsE enc_32 1 1 (fun i => enc_32 (x_1v2.get i)) ∧ (p41 (⟨x_0v2, x_1v2, (⟨x_2v2, x_3v2⟩ : Span), (⟨x_4v2, x_5v2⟩ : Span)⟩ : Sky) = true)) ∧
    (f10_at7 K s t bin opacity x_0v2 x_1v2 x_2v2 x_3v2 x_4v2 x_5v2 ((s41 (⟨x_0v2, x_1v2, (⟨x_2v2, x_3v2⟩ : Span), (⟨x_4v2, x_5v2⟩ : Span)⟩ : Sky)) != (0:Int)) s_1v6.len (fun i => enc_32 (s_1v6.get i))))))) := by kernel_rfl
theorem f10_eq7 (K : List PA → Prop) (s : Sky) (t : (Sl RangeRow)) (bin : Int) (opacity : Int) (x_0v2 : Int) (x_1v2 : (Sl (Sl FluxRow))) (x_2v2 : Int) (x_3v2 : Int) (x_4v2 : Int) (x_5v2 : Int) (t110v7 : Bool) (s_1v7 : (Sl (Sl FluxRow))) :
  f10_at7 K s t bin opacity x_0v2 x_1v2 x_2v2 x_3v2 x_4v2 x_5v2 t110v7 s_1v7.len (fun i => enc_32 (s_1v7.get i)) =
  (condP t110v7
   (K [.one (.bool false)])
   (f10_at8 K s t bin opacity x_0v2 x_1v2 x_2v2 x_3v2 x_4v2 x_5v2 s_1v7.len (fun i => enc_32 (s_1v7.get i)))) := by kernel_rfl
theorem f10_eq8 (K : List PA → Prop) (s : Sky) (t : (Sl RangeRow)) (bin : Int) (opacity : Int) (x_0v2 : Int) (x_1v2 : (Sl (Sl FluxRow))) (x_2v2 : Int) (x_3v2 : Int) (x_4v2 : Int) (x_5v2 : Int) (s_1v8 : (Sl (Sl FluxRow))) :
  f10_at8 K s t bin opacity x_0v2 x_1v2 x_2v2 x_3v2 x_4v2 x_5v2 s_1v8.len (fun i => enc_32 (s_1v8.get i)) =
  ((IsE enc_32 1 1 (fun i => enc_32 (s_1v8.get i)) ∧ IsE enc_42 3 3 (fun i => enc_42 (t.get i)) ∧ (p20 (⟨s.Parts, s_1v8, s.Beta, s.Alpha⟩ : Sky) t bin opacity = true)) ∧
  (f10_at9 K t bin opacity x_0v2 x_1v2 x_2v2 x_3v2 x_4v2 x_5v2 ((s20 (⟨s.Parts, s_1v8, s.Beta, s.Alpha⟩ : Sky) t bin opacity).2) (((s20 (⟨s.Parts, s_1v8, s.Beta, s.Alpha⟩ : Sky) t bin opacity).1).Low) (((s20 (⟨s.Parts, s_1v8, s.Beta, s.Alpha⟩ : Sky) t bin opacity).1).High))) := by kernel_rfl
theorem f10_eq9 (K : List PA → Prop) (t : (Sl RangeRow)) (bin : Int) (opacity : Int) (x_0v2 : Int) (x_1v2 : (Sl (Sl FluxRow))) (x_2v2 : Int) (x_3v2 : Int) (x_4v2 : Int) (x_5v2 : Int) (fv9 : Int) (a_0v9 : Int) (a_1v9 : Int) :
  f10_at9 K t bin opacity x_0v2 x_1v2 x_2v2 x_3v2 x_4v2 x_5v2 fv9 a_0v9 a_1v9 =
  ((IsE enc_32 1 1 (fun i => enc_32 (x_1v2.get i)) ∧ IsE enc_42 3 3 (fun i => enc_42 (t.get i)) ∧ (p20 (⟨x_0v2, x_1v2, (⟨x_2v2, x_3v2⟩ : Span), (⟨x_4v2, x_5v2⟩ : Span)⟩ : Sky) t bin opacity = true)) ∧
  (f10_at10 K fv9 a_0v9 a_1v9 ((s20 (⟨x_0v2, x_1v2, (⟨x_2v2, x_3v2⟩ : Span), (⟨x_4v2, x_5v2⟩ : Span)⟩ : Sky) t bin opacity).2) (((s20 (⟨x_0v2, x_1v2, (⟨x_2v2, x_3v2⟩ : Span), (⟨x_4v2, x_5v2⟩ : Span)⟩ : Sky) t bin opacity).1).Low) (((s20 (⟨x_0v2, x_1v2, (⟨x_2v2, x_3v2⟩ : Span), (⟨x_4v2, x_5v2⟩ : Span)⟩ : Sky) t bin opacity).1).High))) := by kernel_rfl
theorem f10_eq10 (K : List PA → Prop) (fv9 : Int) (a_0v9 : Int) (a_1v9 : Int) (gv10 : Int) (b_0v10 : Int) (b_1v10 : Int) :
  f10_at10 K fv9 a_0v9 a_1v9 gv10 b_0v10 b_1v10 =
  (condP (fv9 == (0:Int))
   (condP (gv10 == (0:Int))
    (condP (decide (b_0v10 ≥ a_0v9))
     (condP (decide (b_1v10 ≤ a_1v9))
      (K [.one (.bool true)])
      (K [.one (.bool false)]))
     (K [.one (.bool false)]))
    (K [.one (.bool false)]))
   (K [.one (.bool false)])) := by kernel_rfl
abbrev R10 := Bool
abbrev e10 (r : Bool) : List PA := [.one (.bool r)]
attribute [irreducible] f10_at0 f10_at1 f10_at2 f10_at3 f10_at4 f10_at5 f10_at6 f10_at7 f10_at8 f10_at9 f10_at10
def s10_at10 (fv9 : Int) (a_0v9 : Int) (a_1v9 : Int) (gv10 : Int) (b_0v10 : Int) (b_1v10 : Int) : Bool :=
  (cond (fv9 == (0:Int))
   (cond (gv10 == (0:Int))
    (cond (decide (b_0v10 ≥ a_0v9))
     (cond (decide (b_1v10 ≤ a_1v9))
      true
      false)
     false)
    false)
   false)
theorem q10_at10 (K : List PA → Prop) (fv9 : Int) (a_0v9 : Int) (a_1v9 : Int) (gv10 : Int) (b_0v10 : Int) (b_1v10 : Int) (hk : K (e10 (s10_at10 fv9 a_0v9 a_1v9 gv10 b_0v10 b_1v10))) : f10_at10 K fv9 a_0v9 a_1v9 gv10 b_0v10 b_1v10 := by
  refine ofEq (f10_eq10 K fv9 a_0v9 a_1v9 gv10 b_0v10 b_1v10) ?_
  unfold s10_at10 at hk
  exact (condP_gt (K := fun r => K (e10 r))
   (fun hk => (condP_gt (K := fun r => K (e10 r))
    (fun hk => (condP_gt (K := fun r => K (e10 r))
     (fun hk => (condP_gt (K := fun r => K (e10 r))
      (fun hk => hk)
      (fun hk => hk) hk))
     (fun hk => hk) hk))
    (fun hk => hk) hk))
   (fun hk => hk) hk)
def s10_at9 (t : (Sl RangeRow)) (bin : Int) (opacity : Int) (x_0v2 : Int) (x_1v2 : (Sl (Sl FluxRow))) (x_2v2 : Int) (x_3v2 : Int) (x_4v2 : Int) (x_5v2 : Int) (fv9 : Int) (a_0v9 : Int) (a_1v9 : Int) : Bool :=
  (s10_at10 fv9 a_0v9 a_1v9 ((s20 (⟨x_0v2, x_1v2, (⟨x_2v2, x_3v2⟩ : Span), (⟨x_4v2, x_5v2⟩ : Span)⟩ : Sky) t bin opacity).2) (((s20 (⟨x_0v2, x_1v2, (⟨x_2v2, x_3v2⟩ : Span), (⟨x_4v2, x_5v2⟩ : Span)⟩ : Sky) t bin opacity).1).Low) (((s20 (⟨x_0v2, x_1v2, (⟨x_2v2, x_3v2⟩ : Span), (⟨x_4v2, x_5v2⟩ : Span)⟩ : Sky) t bin opacity).1).High))
def p10_at9 (t : (Sl RangeRow)) (bin : Int) (opacity : Int) (x_0v2 : Int) (x_1v2 : (Sl (Sl FluxRow))) (x_2v2 : Int) (x_3v2 : Int) (x_4v2 : Int) (x_5v2 : Int) (fv9 : Int) (a_0v9 : Int) (a_1v9 : Int) : Bool :=
  (decide ((p20 (⟨x_0v2, x_1v2, (⟨x_2v2, x_3v2⟩ : Span), (⟨x_4v2, x_5v2⟩ : Span)⟩ : Sky) t bin opacity = true)) &&
  true)
theorem q10_at9 (K : List PA → Prop) (t : (Sl RangeRow)) (bin : Int) (opacity : Int) (x_0v2 : Int) (x_1v2 : (Sl (Sl FluxRow))) (x_2v2 : Int) (x_3v2 : Int) (x_4v2 : Int) (x_5v2 : Int) (fv9 : Int) (a_0v9 : Int) (a_1v9 : Int) (hs : p10_at9 t bin opacity x_0v2 x_1v2 x_2v2 x_3v2 x_4v2 x_5v2 fv9 a_0v9 a_1v9 = true) (hk : K (e10 (s10_at9 t bin opacity x_0v2 x_1v2 x_2v2 x_3v2 x_4v2 x_5v2 fv9 a_0v9 a_1v9))) : f10_at9 K t bin opacity x_0v2 x_1v2 x_2v2 x_3v2 x_4v2 x_5v2 fv9 a_0v9 a_1v9 := by
  refine ofEq (f10_eq9 K t bin opacity x_0v2 x_1v2 x_2v2 x_3v2 x_4v2 x_5v2 fv9 a_0v9 a_1v9) ?_
  unfold p10_at9 at hs
  unfold s10_at9 at hk
  exact (andK hs fun hc hs => ⟨⟨isE, isE, hc⟩, (q10_at10 K fv9 a_0v9 a_1v9 ((s20 (⟨x_0v2, x_1v2, (⟨x_2v2, x_3v2⟩ : Span), (⟨x_4v2, x_5v2⟩ : Span)⟩ : Sky) t bin opacity).2) (((s20 (⟨x_0v2, x_1v2, (⟨x_2v2, x_3v2⟩ : Span), (⟨x_4v2, x_5v2⟩ : Span)⟩ : Sky) t bin opacity).1).Low) (((s20 (⟨x_0v2, x_1v2, (⟨x_2v2, x_3v2⟩ : Span), (⟨x_4v2, x_5v2⟩ : Span)⟩ : Sky) t bin opacity).1).High) hk)⟩)
def s10_at8 (s : Sky) (t : (Sl RangeRow)) (bin : Int) (opacity : Int) (x_0v2 : Int) (x_1v2 : (Sl (Sl FluxRow))) (x_2v2 : Int) (x_3v2 : Int) (x_4v2 : Int) (x_5v2 : Int) (s_1v8 : (Sl (Sl FluxRow))) : Bool :=
  (s10_at9 t bin opacity x_0v2 x_1v2 x_2v2 x_3v2 x_4v2 x_5v2 ((s20 (⟨s.Parts, s_1v8, s.Beta, s.Alpha⟩ : Sky) t bin opacity).2) (((s20 (⟨s.Parts, s_1v8, s.Beta, s.Alpha⟩ : Sky) t bin opacity).1).Low) (((s20 (⟨s.Parts, s_1v8, s.Beta, s.Alpha⟩ : Sky) t bin opacity).1).High))
def p10_at8 (s : Sky) (t : (Sl RangeRow)) (bin : Int) (opacity : Int) (x_0v2 : Int) (x_1v2 : (Sl (Sl FluxRow))) (x_2v2 : Int) (x_3v2 : Int) (x_4v2 : Int) (x_5v2 : Int) (s_1v8 : (Sl (Sl FluxRow))) : Bool :=
  (decide ((p20 (⟨s.Parts, s_1v8, s.Beta, s.Alpha⟩ : Sky) t bin opacity = true)) &&
  (p10_at9 t bin opacity x_0v2 x_1v2 x_2v2 x_3v2 x_4v2 x_5v2 ((s20 (⟨s.Parts, s_1v8, s.Beta, s.Alpha⟩ : Sky) t bin opacity).2) (((s20 (⟨s.Parts, s_1v8, s.Beta, s.Alpha⟩ : Sky) t bin opacity).1).Low) (((s20 (⟨s.Parts, s_1v8, s.Beta, s.Alpha⟩ : Sky) t bin opacity).1).High)))
theorem q10_at8 (K : List PA → Prop) (s : Sky) (t : (Sl RangeRow)) (bin : Int) (opacity : Int) (x_0v2 : Int) (x_1v2 : (Sl (Sl FluxRow))) (x_2v2 : Int) (x_3v2 : Int) (x_4v2 : Int) (x_5v2 : Int) (s_1v8 : (Sl (Sl FluxRow))) (s_1v8_g : Nat → List PV) (s_1v8_h : s_1v8_g = fun i => enc_32 (s_1v8.get i)) (hs : p10_at8 s t bin opacity x_0v2 x_1v2 x_2v2 x_3v2 x_4v2 x_5v2 s_1v8 = true) (hk : K (e10 (s10_at8 s t bin opacity x_0v2 x_1v2 x_2v2 x_3v2 x_4v2 x_5v2 s_1v8))) : f10_at8 K s t bin opacity x_0v2 x_1v2 x_2v2 x_3v2 x_4v2 x_5v2 s_1v8.len s_1v8_g := by
  subst s_1v8_h
  refine ofEq (f10_eq8 K s t bin opacity x_0v2 x_1v2 x_2v2 x_3v2 x_4v2 x_5v2 s_1v8) ?_
  unfold p10_at8 at hs
  unfold s10_at8 at hk
  exact (andK hs fun hc hs => ⟨⟨isE, isE, hc⟩, (q10_at9 K t bin opacity x_0v2 x_1v2 x_2v2 x_3v2 x_4v2 x_5v2 ((s20 (⟨s.Parts, s_1v8, s.Beta, s.Alpha⟩ : Sky) t bin opacity).2) (((s20 (⟨s.Parts, s_1v8, s.Beta, s.Alpha⟩ : Sky) t bin opacity).1).Low) (((s20 (⟨s.Parts, s_1v8, s.Beta, s.Alpha⟩ : Sky) t bin opacity).1).High) hs hk)⟩)
def s10_at7 (s : Sky) (t : (Sl RangeRow)) (bin : Int) (opacity : Int) (x_0v2 : Int) (x_1v2 : (Sl (Sl FluxRow))) (x_2v2 : Int) (x_3v2 : Int) (x_4v2 : Int) (x_5v2 : Int) (t110v7 : Bool) (s_1v7 : (Sl (Sl FluxRow))) : Bool :=
  (cond t110v7
   false
   (s10_at8 s t bin opacity x_0v2 x_1v2 x_2v2 x_3v2 x_4v2 x_5v2 s_1v7))
def p10_at7 (s : Sky) (t : (Sl RangeRow)) (bin : Int) (opacity : Int) (x_0v2 : Int) (x_1v2 : (Sl (Sl FluxRow))) (x_2v2 : Int) (x_3v2 : Int) (x_4v2 : Int) (x_5v2 : Int) (t110v7 : Bool) (s_1v7 : (Sl (Sl FluxRow))) : Bool :=
  (cond t110v7
   true
   (p10_at8 s t bin opacity x_0v2 x_1v2 x_2v2 x_3v2 x_4v2 x_5v2 s_1v7))
theorem q10_at7 (K : List PA → Prop) (s : Sky) (t : (Sl RangeRow)) (bin : Int) (opacity : Int) (x_0v2 : Int) (x_1v2 : (Sl (Sl FluxRow))) (x_2v2 : Int) (x_3v2 : Int) (x_4v2 : Int) (x_5v2 : Int) (t110v7 : Bool) (s_1v7 : (Sl (Sl FluxRow))) (s_1v7_g : Nat → List PV) (s_1v7_h : s_1v7_g = fun i => enc_32 (s_1v7.get i)) (hs : p10_at7 s t bin opacity x_0v2 x_1v2 x_2v2 x_3v2 x_4v2 x_5v2 t110v7 s_1v7 = true) (hk : K (e10 (s10_at7 s t bin opacity x_0v2 x_1v2 x_2v2 x_3v2 x_4v2 x_5v2 t110v7 s_1v7))) : f10_at7 K s t bin opacity x_0v2 x_1v2 x_2v2 x_3v2 x_4v2 x_5v2 t110v7 s_1v7.len s_1v7_g := by
  subst s_1v7_h
  refine ofEq (f10_eq7 K s t bin opacity x_0v2 x_1v2 x_2v2 x_3v2 x_4v2 x_5v2 t110v7 s_1v7) ?_
  unfold p10_at7 at hs
  unfold s10_at7 at hk
  exact (condB_go (K := fun r => K (e10 r))
   (fun hs hk => hk)
   (fun hs hk => (q10_at8 K s t bin opacity x_0v2 x_1v2 x_2v2 x_3v2 x_4v2 x_5v2 s_1v7 (fun i => enc_32 (s_1v7.get i)) rfl hs hk)) hs hk)
def s10_at6 (s : Sky) (t : (Sl RangeRow)) (bin : Int) (opacity : Int) (ev2 : Int) (x_0v2 : Int) (x_1v2 : (Sl (Sl FluxRow))) (x_2v2 : Int) (x_3v2 : Int) (x_4v2 : Int) (x_5v2 : Int) (want_0v5 : Int) (want_1v5 : (Sl (Sl FluxRow))) (want_2v5 : Int) (want_3v5 : Int) (want_4v5 : Int) (want_5v5 : Int) (s_1v6 : (Sl (Sl FluxRow))) : Bool :=
  (cond (ev2 != (0:Int))
   (s10_at7 s t bin opacity x_0v2 x_1v2 x_2v2 x_3v2 x_4v2 x_5v2 true s_1v6)
   (cond (!(s39 (⟨x_0v2, x_1v2, (⟨x_2v2, x_3v2⟩ : Span), (⟨x_4v2, x_5v2⟩ : Span)⟩ : Sky) (⟨want_0v5, want_1v5, (⟨want_2v5, want_3v5⟩ : Span), (⟨want_4v5, want_5v5⟩ : Span)⟩ : Sky)))
    (s10_at7 s t bin opacity x_0v2 x_1v2 x_2v2 x_3v2 x_4v2 x_5v2 true s_1v6)
    (s10_at7 s t bin opacity x_0v2 x_1v2 x_2v2 x_3v2 x_4v2 x_5v2 ((s41 (⟨x_0v2, x_1v2, (⟨x_2v2, x_3v2⟩ : Span), (⟨x_4v2, x_5v2⟩ : Span)⟩ : Sky)) != (0:Int)) s_1v6)))
def p10_at6 (s : Sky) (t : (Sl RangeRow)) (bin : Int) (opacity : Int) (ev2 : Int) (x_0v2 : Int) (x_1v2 : (Sl (Sl FluxRow))) (x_2v2 : Int) (x_3v2 : Int) (x_4v2 : Int) (x_5v2 : Int) (want_0v5 : Int) (want_1v5 : (Sl (Sl FluxRow))) (want_2v5 : Int) (want_3v5 : Int) (want_4v5 : Int) (want_5v5 : Int) (s_1v6 : (Sl (Sl FluxRow))) : Bool :=
  (cond (ev2 != (0:Int))
   (p10_at7 s t bin opacity x_0v2 x_1v2 x_2v2 x_3v2 x_4v2 x_5v2 true s_1v6)
   (decide ((p39 (⟨x_0v2, x_1v2, (⟨x_2v2, x_3v2⟩ : Span), (⟨x_4v2, x_5v2⟩ : Span)⟩ : Sky) (⟨want_0v5, want_1v5, (⟨want_2v5, want_3v5⟩ : Span), (⟨want_4v5, want_5v5⟩ : Span)⟩ : Sky) = true)) &&
   (cond (!(s39 (⟨x_0v2, x_1v2, (⟨x_2v2, x_3v2⟩ : Span), (⟨x_4v2, x_5v2⟩ : Span)⟩ : Sky) (⟨want_0v5, want_1v5, (⟨want_2v5, want_3v5⟩ : Span), (⟨want_4v5, want_5v5⟩ : Span)⟩ : Sky)))
    (p10_at7 s t bin opacity x_0v2 x_1v2 x_2v2 x_3v2 x_4v2 x_5v2 true s_1v6)
    (decide ((p41 (⟨x_0v2, x_1v2, (⟨x_2v2, x_3v2⟩ : Span), (⟨x_4v2, x_5v2⟩ : Span)⟩ : Sky) = true)) &&
    (p10_at7 s t bin opacity x_0v2 x_1v2 x_2v2 x_3v2 x_4v2 x_5v2 ((s41 (⟨x_0v2, x_1v2, (⟨x_2v2, x_3v2⟩ : Span), (⟨x_4v2, x_5v2⟩ : Span)⟩ : Sky)) != (0:Int)) s_1v6)))))
theorem q10_at6 (K : List PA → Prop) (s : Sky) (t : (Sl RangeRow)) (bin : Int) (opacity : Int) (ev2 : Int) (x_0v2 : Int) (x_1v2 : (Sl (Sl FluxRow))) (x_2v2 : Int) (x_3v2 : Int) (x_4v2 : Int) (x_5v2 : Int) (want_0v5 : Int) (want_1v5 : (Sl (Sl FluxRow))) (want_2v5 : Int) (want_3v5 : Int) (want_4v5 : Int) (want_5v5 : Int) (s_1v6 : (Sl (Sl FluxRow))) (s_1v6_g : Nat → List PV) (s_1v6_h : s_1v6_g = fun i => enc_32 (s_1v6.get i)) (hs : p10_at6 s t bin opacity ev2 x_0v2 x_1v2 x_2v2 x_3v2 x_4v2 x_5v2 want_0v5 want_1v5 want_2v5 want_3v5 want_4v5 want_5v5 s_1v6 = true) (hk : K (e10 (s10_at6 s t bin opacity ev2 x_0v2 x_1v2 x_2v2 x_3v2 x_4v2 x_5v2 want_0v5 want_1v5 want_2v5 want_3v5 want_4v5 want_5v5 s_1v6))) : f10_at6 K s t bin opacity ev2 x_0v2 x_1v2 x_2v2 x_3v2 x_4v2 x_5v2 want_0v5 want_1v5 want_2v5 want_3v5 want_4v5 want_5v5 s_1v6.len s_1v6_g := by
  subst s_1v6_h
  refine ofEq (f10_eq6 K s t bin opacity ev2 x_0v2 x_1v2 x_2v2 x_3v2 x_4v2 x_5v2 want_0v5 want_1v5 want_2v5 want_3v5 want_4v5 want_5v5 s_1v6) ?_
  unfold p10_at6 at hs
  unfold s10_at6 at hk
  exact (condB_go (K := fun r => K (e10 r))
   (fun hs hk => (q10_at7 K s t bin opacity x_0v2 x_1v2 x_2v2 x_3v2 x_4v2 x_5v2 true s_1v6 (fun i => enc_32 (s_1v6.get i)) rfl hs hk))
   (fun hs hk => (andK hs fun hc hs => ⟨⟨isE, isE, hc⟩, (condB_go (K := fun r => K (e10 r))
    (fun hs hk => (q10_at7 K s t bin opacity x_0v2 x_1v2 x_2v2 x_3v2 x_4v2 x_5v2 true s_1v6 (fun i => enc_32 (s_1v6.get i)) rfl hs hk))
    (fun hs hk => (andK hs fun hc hs => ⟨⟨isE, hc⟩, (q10_at7 K s t bin opacity x_0v2 x_1v2 x_2v2 x_3v2 x_4v2 x_5v2 ((s41 (⟨x_0v2, x_1v2, (⟨x_2v2, x_3v2⟩ : Span), (⟨x_4v2, x_5v2⟩ : Span)⟩ : Sky)) != (0:Int)) s_1v6 (fun i => enc_32 (s_1v6.get i)) rfl hs hk)⟩)) hs hk)⟩)) hs hk)
def s10_at5 (s : Sky) (t : (Sl RangeRow)) (bin : Int) (opacity : Int) (ev2 : Int) (x_0v2 : Int) (x_1v2 : (Sl (Sl FluxRow))) (x_2v2 : Int) (x_3v2 : Int) (x_4v2 : Int) (x_5v2 : Int) (isv5 : Bool) (s_1v5 : (Sl (Sl FluxRow))) (want_0v5 : Int) (want_1v5 : (Sl (Sl FluxRow))) (want_2v5 : Int) (want_3v5 : Int) (want_4v5 : Int) (want_5v5 : Int) : Bool :=
  (cond (!isv5)
   (cond (ev2 == (5:Int))
    (cond (s39 (⟨x_0v2, x_1v2, (⟨x_2v2, x_3v2⟩ : Span), (⟨x_4v2, x_5v2⟩ : Span)⟩ : Sky) (⟨(0:Int), (⟨0, fun _ => default⟩ : (Sl (Sl FluxRow))), (⟨(0:Int), (0:Int)⟩ : Span), (⟨(0:Int), (0:Int)⟩ : Span)⟩ : Sky))
     true
     false)
    false)
   (s10_at6 s t bin opacity ev2 x_0v2 x_1v2 x_2v2 x_3v2 x_4v2 x_5v2 want_0v5 want_1v5 want_2v5 want_3v5 want_4v5 want_5v5 s_1v5))
def p10_at5 (s : Sky) (t : (Sl RangeRow)) (bin : Int) (opacity : Int) (ev2 : Int) (x_0v2 : Int) (x_1v2 : (Sl (Sl FluxRow))) (x_2v2 : Int) (x_3v2 : Int) (x_4v2 : Int) (x_5v2 : Int) (isv5 : Bool) (s_1v5 : (Sl (Sl FluxRow))) (want_0v5 : Int) (want_1v5 : (Sl (Sl FluxRow))) (want_2v5 : Int) (want_3v5 : Int) (want_4v5 : Int) (want_5v5 : Int) : Bool :=
  (cond (!isv5)
   (cond (ev2 == (5:Int))
    (decide ((p39 (⟨x_0v2, x_1v2, (⟨x_2v2, x_3v2⟩ : Span), (⟨x_4v2, x_5v2⟩ : Span)⟩ : Sky) (⟨(0:Int), (⟨0, fun _ => default⟩ : (Sl (Sl FluxRow))), (⟨(0:Int), (0:Int)⟩ : Span), (⟨(0:Int), (0:Int)⟩ : Span)⟩ : Sky) = true)) &&
    true)
    true)
   (p10_at6 s t bin opacity ev2 x_0v2 x_1v2 x_2v2 x_3v2 x_4v2 x_5v2 want_0v5 want_1v5 want_2v5 want_3v5 want_4v5 want_5v5 s_1v5))
theorem q10_at5 (K : List PA → Prop) (s : Sky) (t : (Sl RangeRow)) (bin : Int) (opacity : Int) (ev2 : Int) (x_0v2 : Int) (x_1v2 : (Sl (Sl FluxRow))) (x_2v2 : Int) (x_3v2 : Int) (x_4v2 : Int) (x_5v2 : Int) (isv5 : Bool) (s_1v5 : (Sl (Sl FluxRow))) (want_0v5 : Int) (want_1v5 : (Sl (Sl FluxRow))) (want_2v5 : Int) (want_3v5 : Int) (want_4v5 : Int) (want_5v5 : Int) (s_1v5_g : Nat → List PV) (s_1v5_h : s_1v5_g = fun i => enc_32 (s_1v5.get i)) (want_1v5_g : Nat → List PV) (want_1v5_h : want_1v5_g = fun i => enc_32 (want_1v5.get i)) (hs : p10_at5 s t bin opacity ev2 x_0v2 x_1v2 x_2v2 x_3v2 x_4v2 x_5v2 isv5 s_1v5 want_0v5 want_1v5 want_2v5 want_3v5 want_4v5 want_5v5 = true) (hk : K (e10 (s10_at5 s t bin opacity ev2 x_0v2 x_1v2 x_2v2 x_3v2 x_4v2 x_5v2 isv5 s_1v5 want_0v5 want_1v5 want_2v5 want_3v5 want_4v5 want_5v5))) : f10_at5 K s t bin opacity ev2 x_0v2 x_1v2 x_2v2 x_3v2 x_4v2 x_5v2 isv5 s_1v5.len s_1v5_g want_0v5 want_1v5.len want_1v5_g want_2v5 want_3v5 want_4v5 want_5v5 := by
  subst s_1v5_h
  subst want_1v5_h
  refine ofEq (f10_eq5 K s t bin opacity ev2 x_0v2 x_1v2 x_2v2 x_3v2 x_4v2 x_5v2 isv5 s_1v5 want_0v5 want_1v5 want_2v5 want_3v5 want_4v5 want_5v5) ?_
  unfold p10_at5 at hs
  unfold s10_at5 at hk
  exact (condB_go (K := fun r => K (e10 r))
   (fun hs hk => (condB_go (K := fun r => K (e10 r))
    (fun hs hk => (andK hs fun hc hs => ⟨⟨isE, hc⟩, (condP_gt (K := fun r => K (e10 r))
     (fun hk => hk)
     (fun hk => hk) hk)⟩))
    (fun hs hk => hk) hs hk))
   (fun hs hk => (q10_at6 K s t bin opacity ev2 x_0v2 x_1v2 x_2v2 x_3v2 x_4v2 x_5v2 want_0v5 want_1v5 want_2v5 want_3v5 want_4v5 want_5v5 s_1v5 (fun i => enc_32 (s_1v5.get i)) rfl hs hk)) hs hk)
def s10_at4 (s : Sky) (t : (Sl RangeRow)) (bin : Int) (opacity : Int) (rates : Span) (ev2 : Int) (x_0v2 : Int) (x_1v2 : (Sl (Sl FluxRow))) (x_2v2 : Int) (x_3v2 : Int) (x_4v2 : Int) (x_5v2 : Int) (s_1v4 : (Sl (Sl FluxRow))) : Bool :=
  (s10_at5 s t bin opacity ev2 x_0v2 x_1v2 x_2v2 x_3v2 x_4v2 x_5v2 ((s40 (⟨s.Parts, s_1v4, s.Beta, s.Alpha⟩ : Sky) t bin opacity rates).2) s_1v4 (((s40 (⟨s.Parts, s_1v4, s.Beta, s.Alpha⟩ : Sky) t bin opacity rates).1).Parts) (((s40 (⟨s.Parts, s_1v4, s.Beta, s.Alpha⟩ : Sky) t bin opacity rates).1).Bins) (((s40 (⟨s.Parts, s_1v4, s.Beta, s.Alpha⟩ : Sky) t bin opacity rates).1).Beta.Low) (((s40 (⟨s.Parts, s_1v4, s.Beta, s.Alpha⟩ : Sky) t bin opacity rates).1).Beta.High) (((s40 (⟨s.Parts, s_1v4, s.Beta, s.Alpha⟩ : Sky) t bin opacity rates).1).Alpha.Low) (((s40 (⟨s.Parts, s_1v4, s.Beta, s.Alpha⟩ : Sky) t bin opacity rates).1).Alpha.High))
def p10_at4 (s : Sky) (t : (Sl RangeRow)) (bin : Int) (opacity : Int) (rates : Span) (ev2 : Int) (x_0v2 : Int) (x_1v2 : (Sl (Sl FluxRow))) (x_2v2 : Int) (x_3v2 : Int) (x_4v2 : Int) (x_5v2 : Int) (s_1v4 : (Sl (Sl FluxRow))) : Bool :=
  (decide ((p40 (⟨s.Parts, s_1v4, s.Beta, s.Alpha⟩ : Sky) t bin opacity rates = true)) &&
  (p10_at5 s t bin opacity ev2 x_0v2 x_1v2 x_2v2 x_3v2 x_4v2 x_5v2 ((s40 (⟨s.Parts, s_1v4, s.Beta, s.Alpha⟩ : Sky) t bin opacity rates).2) s_1v4 (((s40 (⟨s.Parts, s_1v4, s.Beta, s.Alpha⟩ : Sky) t bin opacity rates).1).Parts) (((s40 (⟨s.Parts, s_1v4, s.Beta, s.Alpha⟩ : Sky) t bin opacity rates).1).Bins) (((s40 (⟨s.Parts, s_1v4, s.Beta, s.Alpha⟩ : Sky) t bin opacity rates).1).Beta.Low) (((s40 (⟨s.Parts, s_1v4, s.Beta, s.Alpha⟩ : Sky) t bin opacity rates).1).Beta.High) (((s40 (⟨s.Parts, s_1v4, s.Beta, s.Alpha⟩ : Sky) t bin opacity rates).1).Alpha.Low) (((s40 (⟨s.Parts, s_1v4, s.Beta, s.Alpha⟩ : Sky) t bin opacity rates).1).Alpha.High)))
theorem q10_at4 (K : List PA → Prop) (s : Sky) (t : (Sl RangeRow)) (bin : Int) (opacity : Int) (rates : Span) (ev2 : Int) (x_0v2 : Int) (x_1v2 : (Sl (Sl FluxRow))) (x_2v2 : Int) (x_3v2 : Int) (x_4v2 : Int) (x_5v2 : Int) (s_1v4 : (Sl (Sl FluxRow))) (s_1v4_g : Nat → List PV) (s_1v4_h : s_1v4_g = fun i => enc_32 (s_1v4.get i)) (hs : p10_at4 s t bin opacity rates ev2 x_0v2 x_1v2 x_2v2 x_3v2 x_4v2 x_5v2 s_1v4 = true) (hk : K (e10 (s10_at4 s t bin opacity rates ev2 x_0v2 x_1v2 x_2v2 x_3v2 x_4v2 x_5v2 s_1v4))) : f10_at4 K s t bin opacity rates ev2 x_0v2 x_1v2 x_2v2 x_3v2 x_4v2 x_5v2 s_1v4.len s_1v4_g := by
  subst s_1v4_h
  refine ofEq (f10_eq4 K s t bin opacity rates ev2 x_0v2 x_1v2 x_2v2 x_3v2 x_4v2 x_5v2 s_1v4) ?_
  unfold p10_at4 at hs
  unfold s10_at4 at hk
  exact (andK hs fun hc hs => ⟨⟨isE, isE, hc⟩, (q10_at5 K s t bin opacity ev2 x_0v2 x_1v2 x_2v2 x_3v2 x_4v2 x_5v2 ((s40 (⟨s.Parts, s_1v4, s.Beta, s.Alpha⟩ : Sky) t bin opacity rates).2) s_1v4 (((s40 (⟨s.Parts, s_1v4, s.Beta, s.Alpha⟩ : Sky) t bin opacity rates).1).Parts) (((s40 (⟨s.Parts, s_1v4, s.Beta, s.Alpha⟩ : Sky) t bin opacity rates).1).Bins) (((s40 (⟨s.Parts, s_1v4, s.Beta, s.Alpha⟩ : Sky) t bin opacity rates).1).Beta.Low) (((s40 (⟨s.Parts, s_1v4, s.Beta, s.Alpha⟩ : Sky) t bin opacity rates).1).Beta.High) (((s40 (⟨s.Parts, s_1v4, s.Beta, s.Alpha⟩ : Sky) t bin opacity rates).1).Alpha.Low) (((s40 (⟨s.Parts, s_1v4, s.Beta, s.Alpha⟩ : Sky) t bin opacity rates).1).Alpha.High) (fun i => enc_32 (s_1v4.get i)) rfl (fun i => enc_32 (((s40 (⟨s.Parts, s_1v4, s.Beta, s.Alpha⟩ : Sky) t bin opacity rates).1).Bins.get i)) rfl hs hk)⟩)
def s10_at3 (s : Sky) (t : (Sl RangeRow)) (bin : Int) (opacity : Int) (rates : Span) (ev2 : Int) (x_0v2 : Int) (x_1v2 : (Sl (Sl FluxRow))) (x_2v2 : Int) (x_3v2 : Int) (x_4v2 : Int) (x_5v2 : Int) (t66v3 : Bool) (s_1v3 : (Sl (Sl FluxRow))) : Bool :=
  (cond t66v3
   (cond (ev2 == (2:Int))
    (cond (s39 (⟨x_0v2, x_1v2, (⟨x_2v2, x_3v2⟩ : Span), (⟨x_4v2, x_5v2⟩ : Span)⟩ : Sky) (⟨(0:Int), (⟨0, fun _ => default⟩ : (Sl (Sl FluxRow))), (⟨(0:Int), (0:Int)⟩ : Span), (⟨(0:Int), (0:Int)⟩ : Span)⟩ : Sky))
     true
     false)
    false)
   (s10_at4 s t bin opacity rates ev2 x_0v2 x_1v2 x_2v2 x_3v2 x_4v2 x_5v2 s_1v3))
def p10_at3 (s : Sky) (t : (Sl RangeRow)) (bin : Int) (opacity : Int) (rates : Span) (ev2 : Int) (x_0v2 : Int) (x_1v2 : (Sl (Sl FluxRow))) (x_2v2 : Int) (x_3v2 : Int) (x_4v2 : Int) (x_5v2 : Int) (t66v3 : Bool) (s_1v3 : (Sl (Sl FluxRow))) : Bool :=
  (cond t66v3
   (cond (ev2 == (2:Int))
    (decide ((p39 (⟨x_0v2, x_1v2, (⟨x_2v2, x_3v2⟩ : Span), (⟨x_4v2, x_5v2⟩ : Span)⟩ : Sky) (⟨(0:Int), (⟨0, fun _ => default⟩ : (Sl (Sl FluxRow))), (⟨(0:Int), (0:Int)⟩ : Span), (⟨(0:Int), (0:Int)⟩ : Span)⟩ : Sky) = true)) &&
    true)
    true)
   (p10_at4 s t bin opacity rates ev2 x_0v2 x_1v2 x_2v2 x_3v2 x_4v2 x_5v2 s_1v3))
theorem q10_at3 (K : List PA → Prop) (s : Sky) (t : (Sl RangeRow)) (bin : Int) (opacity : Int) (rates : Span) (ev2 : Int) (x_0v2 : Int) (x_1v2 : (Sl (Sl FluxRow))) (x_2v2 : Int) (x_3v2 : Int) (x_4v2 : Int) (x_5v2 : Int) (t66v3 : Bool) (s_1v3 : (Sl (Sl FluxRow))) (s_1v3_g : Nat → List PV) (s_1v3_h : s_1v3_g = fun i => enc_32 (s_1v3.get i)) (hs : p10_at3 s t bin opacity rates ev2 x_0v2 x_1v2 x_2v2 x_3v2 x_4v2 x_5v2 t66v3 s_1v3 = true) (hk : K (e10 (s10_at3 s t bin opacity rates ev2 x_0v2 x_1v2 x_2v2 x_3v2 x_4v2 x_5v2 t66v3 s_1v3))) : f10_at3 K s t bin opacity rates ev2 x_0v2 x_1v2 x_2v2 x_3v2 x_4v2 x_5v2 t66v3 s_1v3.len s_1v3_g := by
  subst s_1v3_h
  refine ofEq (f10_eq3 K s t bin opacity rates ev2 x_0v2 x_1v2 x_2v2 x_3v2 x_4v2 x_5v2 t66v3 s_1v3) ?_
  unfold p10_at3 at hs
  unfold s10_at3 at hk
  exact (condB_go (K := fun r => K (e10 r))
   (fun hs hk => (condB_go (K := fun r => K (e10 r))
    (fun hs hk => (andK hs fun hc hs => ⟨⟨isE, hc⟩, (condP_gt (K := fun r => K (e10 r))
     (fun hk => hk)
     (fun hk => hk) hk)⟩))
    (fun hs hk => hk) hs hk))
   (fun hs hk => (q10_at4 K s t bin opacity rates ev2 x_0v2 x_1v2 x_2v2 x_3v2 x_4v2 x_5v2 s_1v3 (fun i => enc_32 (s_1v3.get i)) rfl hs hk)) hs hk)
def s10_at2 (s : Sky) (t : (Sl RangeRow)) (bin : Int) (opacity : Int) (rates : Span) (ev2 : Int) (s_1v2 : (Sl (Sl FluxRow))) (x_0v2 : Int) (x_1v2 : (Sl (Sl FluxRow))) (x_2v2 : Int) (x_3v2 : Int) (x_4v2 : Int) (x_5v2 : Int) : Bool :=
  (cond (!(s16 (⟨s.Parts, s_1v2, s.Beta, s.Alpha⟩ : Sky)))
   (s10_at3 s t bin opacity rates ev2 x_0v2 x_1v2 x_2v2 x_3v2 x_4v2 x_5v2 true s_1v2)
   (cond (!(s17 t))
    (s10_at3 s t bin opacity rates ev2 x_0v2 x_1v2 x_2v2 x_3v2 x_4v2 x_5v2 true s_1v2)
    (cond (decide (bin < (0:Int)))
     (s10_at3 s t bin opacity rates ev2 x_0v2 x_1v2 x_2v2 x_3v2 x_4v2 x_5v2 true s_1v2)
     (cond (decide (bin ≥ (s_1v2.len : Int)))
      (s10_at3 s t bin opacity rates ev2 x_0v2 x_1v2 x_2v2 x_3v2 x_4v2 x_5v2 true s_1v2)
      (cond (decide (opacity < (0:Int)))
       (s10_at3 s t bin opacity rates ev2 x_0v2 x_1v2 x_2v2 x_3v2 x_4v2 x_5v2 true s_1v2)
       (cond (decide (opacity > (1000000:Int)))
        (s10_at3 s t bin opacity rates ev2 x_0v2 x_1v2 x_2v2 x_3v2 x_4v2 x_5v2 true s_1v2)
        (s10_at3 s t bin opacity rates ev2 x_0v2 x_1v2 x_2v2 x_3v2 x_4v2 x_5v2 (!(s29 rates (0:Int) s.Parts)) s_1v2)))))))
def p10_at2 (s : Sky) (t : (Sl RangeRow)) (bin : Int) (opacity : Int) (rates : Span) (ev2 : Int) (s_1v2 : (Sl (Sl FluxRow))) (x_0v2 : Int) (x_1v2 : (Sl (Sl FluxRow))) (x_2v2 : Int) (x_3v2 : Int) (x_4v2 : Int) (x_5v2 : Int) : Bool :=
  (decide ((p16 (⟨s.Parts, s_1v2, s.Beta, s.Alpha⟩ : Sky) = true)) &&
  (cond (!(s16 (⟨s.Parts, s_1v2, s.Beta, s.Alpha⟩ : Sky)))
   (p10_at3 s t bin opacity rates ev2 x_0v2 x_1v2 x_2v2 x_3v2 x_4v2 x_5v2 true s_1v2)
   (decide ((p17 t = true)) &&
   (cond (!(s17 t))
    (p10_at3 s t bin opacity rates ev2 x_0v2 x_1v2 x_2v2 x_3v2 x_4v2 x_5v2 true s_1v2)
    (cond (decide (bin < (0:Int)))
     (p10_at3 s t bin opacity rates ev2 x_0v2 x_1v2 x_2v2 x_3v2 x_4v2 x_5v2 true s_1v2)
     (cond (decide (bin ≥ (s_1v2.len : Int)))
      (p10_at3 s t bin opacity rates ev2 x_0v2 x_1v2 x_2v2 x_3v2 x_4v2 x_5v2 true s_1v2)
      (cond (decide (opacity < (0:Int)))
       (p10_at3 s t bin opacity rates ev2 x_0v2 x_1v2 x_2v2 x_3v2 x_4v2 x_5v2 true s_1v2)
       (cond (decide (opacity > (1000000:Int)))
        (p10_at3 s t bin opacity rates ev2 x_0v2 x_1v2 x_2v2 x_3v2 x_4v2 x_5v2 true s_1v2)
        (p10_at3 s t bin opacity rates ev2 x_0v2 x_1v2 x_2v2 x_3v2 x_4v2 x_5v2 (!(s29 rates (0:Int) s.Parts)) s_1v2)))))))))
theorem q10_at2 (K : List PA → Prop) (s : Sky) (t : (Sl RangeRow)) (bin : Int) (opacity : Int) (rates : Span) (ev2 : Int) (s_1v2 : (Sl (Sl FluxRow))) (x_0v2 : Int) (x_1v2 : (Sl (Sl FluxRow))) (x_2v2 : Int) (x_3v2 : Int) (x_4v2 : Int) (x_5v2 : Int) (s_1v2_g : Nat → List PV) (s_1v2_h : s_1v2_g = fun i => enc_32 (s_1v2.get i)) (x_1v2_g : Nat → List PV) (x_1v2_h : x_1v2_g = fun i => enc_32 (x_1v2.get i)) (hs : p10_at2 s t bin opacity rates ev2 s_1v2 x_0v2 x_1v2 x_2v2 x_3v2 x_4v2 x_5v2 = true) (hk : K (e10 (s10_at2 s t bin opacity rates ev2 s_1v2 x_0v2 x_1v2 x_2v2 x_3v2 x_4v2 x_5v2))) : f10_at2 K s t bin opacity rates ev2 s_1v2.len s_1v2_g x_0v2 x_1v2.len x_1v2_g x_2v2 x_3v2 x_4v2 x_5v2 := by
  subst s_1v2_h
  subst x_1v2_h
  refine ofEq (f10_eq2 K s t bin opacity rates ev2 s_1v2 x_0v2 x_1v2 x_2v2 x_3v2 x_4v2 x_5v2) ?_
  unfold p10_at2 at hs
  unfold s10_at2 at hk
  exact (andK hs fun hc hs => ⟨⟨isE, hc⟩, (condB_go (K := fun r => K (e10 r))
   (fun hs hk => (q10_at3 K s t bin opacity rates ev2 x_0v2 x_1v2 x_2v2 x_3v2 x_4v2 x_5v2 true s_1v2 (fun i => enc_32 (s_1v2.get i)) rfl hs hk))
   (fun hs hk => (andK hs fun hc hs => ⟨⟨isE, hc⟩, (condB_go (K := fun r => K (e10 r))
    (fun hs hk => (q10_at3 K s t bin opacity rates ev2 x_0v2 x_1v2 x_2v2 x_3v2 x_4v2 x_5v2 true s_1v2 (fun i => enc_32 (s_1v2.get i)) rfl hs hk))
    (fun hs hk => (condB_go (K := fun r => K (e10 r))
     (fun hs hk => (q10_at3 K s t bin opacity rates ev2 x_0v2 x_1v2 x_2v2 x_3v2 x_4v2 x_5v2 true s_1v2 (fun i => enc_32 (s_1v2.get i)) rfl hs hk))
     (fun hs hk => (condB_go (K := fun r => K (e10 r))
      (fun hs hk => (q10_at3 K s t bin opacity rates ev2 x_0v2 x_1v2 x_2v2 x_3v2 x_4v2 x_5v2 true s_1v2 (fun i => enc_32 (s_1v2.get i)) rfl hs hk))
      (fun hs hk => (condB_go (K := fun r => K (e10 r))
       (fun hs hk => (q10_at3 K s t bin opacity rates ev2 x_0v2 x_1v2 x_2v2 x_3v2 x_4v2 x_5v2 true s_1v2 (fun i => enc_32 (s_1v2.get i)) rfl hs hk))
       (fun hs hk => (condB_go (K := fun r => K (e10 r))
        (fun hs hk => (q10_at3 K s t bin opacity rates ev2 x_0v2 x_1v2 x_2v2 x_3v2 x_4v2 x_5v2 true s_1v2 (fun i => enc_32 (s_1v2.get i)) rfl hs hk))
        (fun hs hk => (q10_at3 K s t bin opacity rates ev2 x_0v2 x_1v2 x_2v2 x_3v2 x_4v2 x_5v2 (!(s29 rates (0:Int) s.Parts)) s_1v2 (fun i => enc_32 (s_1v2.get i)) rfl hs hk)) hs hk)) hs hk)) hs hk)) hs hk)) hs hk)⟩)) hs hk)⟩)
def s10_at1 (s : Sky) (t : (Sl RangeRow)) (bin : Int) (opacity : Int) (rates : Span) (s_1v1 : (Sl (Sl FluxRow))) : Bool :=
  (s10_at2 s t bin opacity rates ((s33 (⟨s.Parts, s_1v1, s.Beta, s.Alpha⟩ : Sky) t bin opacity rates).2) s_1v1 (((s33 (⟨s.Parts, s_1v1, s.Beta, s.Alpha⟩ : Sky) t bin opacity rates).1).Parts) (((s33 (⟨s.Parts, s_1v1, s.Beta, s.Alpha⟩ : Sky) t bin opacity rates).1).Bins) (((s33 (⟨s.Parts, s_1v1, s.Beta, s.Alpha⟩ : Sky) t bin opacity rates).1).Beta.Low) (((s33 (⟨s.Parts, s_1v1, s.Beta, s.Alpha⟩ : Sky) t bin opacity rates).1).Beta.High) (((s33 (⟨s.Parts, s_1v1, s.Beta, s.Alpha⟩ : Sky) t bin opacity rates).1).Alpha.Low) (((s33 (⟨s.Parts, s_1v1, s.Beta, s.Alpha⟩ : Sky) t bin opacity rates).1).Alpha.High))
def p10_at1 (s : Sky) (t : (Sl RangeRow)) (bin : Int) (opacity : Int) (rates : Span) (s_1v1 : (Sl (Sl FluxRow))) : Bool :=
  (decide ((p33 (⟨s.Parts, s_1v1, s.Beta, s.Alpha⟩ : Sky) t bin opacity rates = true)) &&
  (p10_at2 s t bin opacity rates ((s33 (⟨s.Parts, s_1v1, s.Beta, s.Alpha⟩ : Sky) t bin opacity rates).2) s_1v1 (((s33 (⟨s.Parts, s_1v1, s.Beta, s.Alpha⟩ : Sky) t bin opacity rates).1).Parts) (((s33 (⟨s.Parts, s_1v1, s.Beta, s.Alpha⟩ : Sky) t bin opacity rates).1).Bins) (((s33 (⟨s.Parts, s_1v1, s.Beta, s.Alpha⟩ : Sky) t bin opacity rates).1).Beta.Low) (((s33 (⟨s.Parts, s_1v1, s.Beta, s.Alpha⟩ : Sky) t bin opacity rates).1).Beta.High) (((s33 (⟨s.Parts, s_1v1, s.Beta, s.Alpha⟩ : Sky) t bin opacity rates).1).Alpha.Low) (((s33 (⟨s.Parts, s_1v1, s.Beta, s.Alpha⟩ : Sky) t bin opacity rates).1).Alpha.High)))
theorem q10_at1 (K : List PA → Prop) (s : Sky) (t : (Sl RangeRow)) (bin : Int) (opacity : Int) (rates : Span) (s_1v1 : (Sl (Sl FluxRow))) (s_1v1_g : Nat → List PV) (s_1v1_h : s_1v1_g = fun i => enc_32 (s_1v1.get i)) (hs : p10_at1 s t bin opacity rates s_1v1 = true) (hk : K (e10 (s10_at1 s t bin opacity rates s_1v1))) : f10_at1 K s t bin opacity rates s_1v1.len s_1v1_g := by
  subst s_1v1_h
  refine ofEq (f10_eq1 K s t bin opacity rates s_1v1) ?_
  unfold p10_at1 at hs
  unfold s10_at1 at hk
  exact (andK hs fun hc hs => ⟨⟨isE, isE, hc⟩, (q10_at2 K s t bin opacity rates ((s33 (⟨s.Parts, s_1v1, s.Beta, s.Alpha⟩ : Sky) t bin opacity rates).2) s_1v1 (((s33 (⟨s.Parts, s_1v1, s.Beta, s.Alpha⟩ : Sky) t bin opacity rates).1).Parts) (((s33 (⟨s.Parts, s_1v1, s.Beta, s.Alpha⟩ : Sky) t bin opacity rates).1).Bins) (((s33 (⟨s.Parts, s_1v1, s.Beta, s.Alpha⟩ : Sky) t bin opacity rates).1).Beta.Low) (((s33 (⟨s.Parts, s_1v1, s.Beta, s.Alpha⟩ : Sky) t bin opacity rates).1).Beta.High) (((s33 (⟨s.Parts, s_1v1, s.Beta, s.Alpha⟩ : Sky) t bin opacity rates).1).Alpha.Low) (((s33 (⟨s.Parts, s_1v1, s.Beta, s.Alpha⟩ : Sky) t bin opacity rates).1).Alpha.High) (fun i => enc_32 (s_1v1.get i)) rfl (fun i => enc_32 (((s33 (⟨s.Parts, s_1v1, s.Beta, s.Alpha⟩ : Sky) t bin opacity rates).1).Bins.get i)) rfl hs hk)⟩)
def s10_at0 (s : Sky) (t : (Sl RangeRow)) (bin : Int) (opacity : Int) (rates : Span) (t22v0 : Bool) (s_1v0 : (Sl (Sl FluxRow))) : Bool :=
  (cond t22v0
   true
   (s10_at1 s t bin opacity rates s_1v0))
def p10_at0 (s : Sky) (t : (Sl RangeRow)) (bin : Int) (opacity : Int) (rates : Span) (t22v0 : Bool) (s_1v0 : (Sl (Sl FluxRow))) : Bool :=
  (cond t22v0
   true
   (p10_at1 s t bin opacity rates s_1v0))
theorem q10_at0 (K : List PA → Prop) (s : Sky) (t : (Sl RangeRow)) (bin : Int) (opacity : Int) (rates : Span) (t22v0 : Bool) (s_1v0 : (Sl (Sl FluxRow))) (s_1v0_g : Nat → List PV) (s_1v0_h : s_1v0_g = fun i => enc_32 (s_1v0.get i)) (hs : p10_at0 s t bin opacity rates t22v0 s_1v0 = true) (hk : K (e10 (s10_at0 s t bin opacity rates t22v0 s_1v0))) : f10_at0 K s t bin opacity rates t22v0 s_1v0.len s_1v0_g := by
  subst s_1v0_h
  refine ofEq (f10_eq0 K s t bin opacity rates t22v0 s_1v0) ?_
  unfold p10_at0 at hs
  unfold s10_at0 at hk
  exact (condB_go (K := fun r => K (e10 r))
   (fun hs hk => hk)
   (fun hs hk => (q10_at1 K s t bin opacity rates s_1v0 (fun i => enc_32 (s_1v0.get i)) rfl hs hk)) hs hk)
def s10 (s : Sky) (t : (Sl RangeRow)) (bin : Int) (opacity : Int) (rates : Span) : Bool :=
  (s10_at0 s t bin opacity rates (!(s15 s t)) s.Bins)
def p10 (s : Sky) (t : (Sl RangeRow)) (bin : Int) (opacity : Int) (rates : Span) : Bool :=
  (decide ((p15 s t = true)) &&
  (p10_at0 s t bin opacity rates (!(s15 s t)) s.Bins))
theorem q10 (s : Sky) (t : (Sl RangeRow)) (bin : Int) (opacity : Int) (rates : Span) (K : List PA → Prop) (hs : p10 s t bin opacity rates = true) (hk : K (e10 (s10 s t bin opacity rates))) : vcFun Try.prog G10 ann10 10 [.agg [.int .i64 s.Parts, .sl s.Bins.len 1 (fun i => enc_32 (s.Bins.get i)), .int .i64 s.Beta.Low, .int .i64 s.Beta.High, .int .i64 s.Alpha.Low, .int .i64 s.Alpha.High], .one (.sl t.len 3 (fun i => enc_42 (t.get i))), .one (.int .i64 bin), .one (.int .i64 opacity), .agg [.int .i64 rates.Low, .int .i64 rates.High]] K := by
  refine ofEq (f10_top s t bin opacity rates K) ?_
  unfold p10 at hs
  unfold s10 at hk
  exact (andK hs fun hc hs => ⟨⟨isE, isE, hc⟩, (q10_at0 K s t bin opacity rates (!(s15 s t)) s.Bins (fun i => enc_32 (s.Bins.get i)) rfl hs hk)⟩)
def ctr10 : List PA → COut
  | [.agg [.int .i64 a0_Parts, .sl a0_Bins_n a0_Bins_s a0_Bins_g, .int .i64 a0_Beta_Low, .int .i64 a0_Beta_High, .int .i64 a0_Alpha_Low, .int .i64 a0_Alpha_High], .one (.sl a1_n a1_s a1_g), .one (.int .i64 a2), .one (.int .i64 a3), .agg [.int .i64 a4_Low, .int .i64 a4_High]] => .det (IsE enc_32 1 a0_Bins_s a0_Bins_g ∧ IsE enc_42 3 a1_s a1_g ∧ p10 (⟨a0_Parts, (⟨a0_Bins_n, decF_32 a0_Bins_g⟩ : (Sl (Sl FluxRow))), (⟨a0_Beta_Low, a0_Beta_High⟩ : Span), (⟨a0_Alpha_Low, a0_Alpha_High⟩ : Span)⟩ : Sky) (⟨a1_n, decF_42 a1_g⟩ : (Sl RangeRow)) a2 a3 (⟨a4_Low, a4_High⟩ : Span) = true) [.one (.bool (s10 (⟨a0_Parts, (⟨a0_Bins_n, decF_32 a0_Bins_g⟩ : (Sl (Sl FluxRow))), (⟨a0_Beta_Low, a0_Beta_High⟩ : Span), (⟨a0_Alpha_Low, a0_Alpha_High⟩ : Span)⟩ : Sky) (⟨a1_n, decF_42 a1_g⟩ : (Sl RangeRow)) a2 a3 (⟨a4_Low, a4_High⟩ : Span)))]
  | _ => .no
theorem call10 : Callable Try.prog 10 := ⟨_, rfl, rfl, by kernel_rfl⟩
theorem ok10 : Ok Try.prog 10 ctr10 := ok_tab okT10 call10 fun args K h => by
  unfold ctr10 at h
  split at h
  · rename_i a0_Parts a0_Bins_n a0_Bins_s a0_Bins_g a0_Beta_Low a0_Beta_High a0_Alpha_Low a0_Alpha_High a1_n a1_s a1_g a2 a3 a4_Low a4_High
    obtain ⟨⟨⟨rfl, a0_Bins_f, rfl⟩, ⟨rfl, a1_f, rfl⟩, hs⟩, hk⟩ := h
    try rw [decF_enc_32 a0_Bins_f] at hs
    try rw [decF_enc_32 a0_Bins_f] at hk
    try rw [decF_enc_42 a1_f] at hs
    try rw [decF_enc_42 a1_f] at hk
    exact ⟨(fun _ _ => []), (fun _ => false), ann10, q10 (⟨a0_Parts, (⟨a0_Bins_n, a0_Bins_f⟩ : (Sl (Sl FluxRow))), (⟨a0_Beta_Low, a0_Beta_High⟩ : Span), (⟨a0_Alpha_Low, a0_Alpha_High⟩ : Span)⟩ : Sky) (⟨a1_n, a1_f⟩ : (Sl RangeRow)) a2 a3 (⟨a4_Low, a4_High⟩ : Span) K hs hk⟩
  · exact h.elim
end Go.Proofs
