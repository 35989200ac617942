/- Part 5 of what the proof rests on: a machine that runs functions of the program on pure values, proved sound; the functions that the law reaches, and what they compute. -/
import Derived.Test.YtpjoicpmbdaniaaQ4
set_option linter.all false
namespace Go.Proofs
open Go Go.Pm
set_option maxRecDepth 100000
set_option linter.unusedVariables false
attribute [local irreducible] Go.Pm.vcFun Go.Pm.vc Go.Pm.vcIter
abbrev T61 : Tabs := Tabs.nil
theorem okT61 : TabsOk Try.prog T61 := TabsOk.nil
abbrev G61 : Ctrs := csm T61 (fun _ _ => []) (fun _ => false)
def ann61 : Ann := ⟨8, [(0, ⟨[], [], [], [], []⟩), (1, ⟨[0], [7], [], [], []⟩)],
  [],
  [],
  [], []⟩
theorem f61_top (K : List PA → Prop) :
  vcFun Try.prog G61 ann61 61 [] K =
  (K [.one (.sl 3 3 (getL [(enc_42 (⟨(10:Int), (⟨(20:Int), (30:Int)⟩ : Span)⟩ : RangeRow)), (enc_42 (⟨(40:Int), (⟨(90:Int), (120:Int)⟩ : Span)⟩ : RangeRow)), (enc_42 (⟨(100:Int), (⟨(250:Int), (300:Int)⟩ : Span)⟩ : RangeRow))]))]) := by kernel_rfl
abbrev e61 (r : (Sl RangeRow)) : List PA := [.one (.sl r.len 3 (fun i => enc_42 (r.get i)))]
def s61 : (Sl RangeRow) :=
  (⟨3, (getT (⟨(10:Int), (⟨(20:Int), (30:Int)⟩ : Span)⟩ : RangeRow) [(⟨(10:Int), (⟨(20:Int), (30:Int)⟩ : Span)⟩ : RangeRow), (⟨(40:Int), (⟨(90:Int), (120:Int)⟩ : Span)⟩ : RangeRow), (⟨(100:Int), (⟨(250:Int), (300:Int)⟩ : Span)⟩ : RangeRow)])⟩ : (Sl RangeRow))
theorem q61 (K : List PA → Prop) (hk : K (e61 (s61))) : vcFun Try.prog G61 ann61 61 [] K := by
  refine ofEq (f61_top K) ?_
  unfold s61 at hk
  exact (Eq.mpr (congrArg K (congrArg (fun (g_ : Nat → List PV) => ([.one (.sl 3 3 g_)] : List PA)) (getL_enc (enc := enc_42) (x := (⟨(10:Int), (⟨(20:Int), (30:Int)⟩ : Span)⟩ : RangeRow)) (y := (⟨(40:Int), (⟨(90:Int), (120:Int)⟩ : Span)⟩ : RangeRow)) (r := [(⟨(100:Int), (⟨(250:Int), (300:Int)⟩ : Span)⟩ : RangeRow)])))) hk)
def ctr61 : List PA → COut
  | [] => .tot [.one (.sl ((s61).len) 3 (fun i => enc_42 ((s61).get i)))]
  | _ => .no
theorem call61 : Callable Try.prog 61 := ⟨_, rfl, rfl, by kernel_rfl⟩
theorem ok61 : Ok Try.prog 61 ctr61 := ok_tab okT61 call61 fun args K h => by
  unfold ctr61 at h
  split at h
  · have hk := h
    exact ⟨(fun _ _ => []), (fun _ => false), ann61, q61 K hk⟩
  · exact h.elim
abbrev T18 : Tabs := (((((((((Tabs.nil.addF 19 ctr19).addF 20 ctr20).addF 23 ctr23).addF 25 ctr25).addF 26 ctr26).addF 33 ctr33).addF 34 ctr34).addF 60 ctr60).addF 61 ctr61)
theorem okT18 : TabsOk Try.prog T18 := (((((((((TabsOk.nil.addF ok19).addF ok20).addF ok23).addF ok25).addF ok26).addF ok33).addF ok34).addF ok60).addF ok61)
abbrev G18 : Ctrs := csm T18 (fun _ _ => []) (fun _ => false)
def ann18 : Ann := ⟨142, [(0, ⟨[], [], [], [], []⟩), (1, ⟨[1, 2], [1], [], [], []⟩), (2, ⟨[1, 2, 3, 4], [1, 3], [], [], []⟩), (3, ⟨[1, 2, 3, 4, 5, 6], [1, 3, 5], [], [], []⟩), (4, ⟨[1, 2, 3, 4, 5, 6, 7, 8], [1, 3, 5, 7], [], [], []⟩), (5, ⟨[1, 2, 3, 4, 5, 6, 7, 8, 9, 10], [1, 3, 5, 7, 9], [], [], []⟩), (6, ⟨[1, 2, 3, 4, 5, 6, 7, 8, 9, 10, 11, 12], [1, 3, 5, 7, 9], [], [], []⟩), (7, ⟨[3, 4, 5, 6, 7, 8, 9, 10, 11, 12, 13, 14], [3, 5, 7, 9, 13], [], [], []⟩), (8, ⟨[3, 5, 7, 9, 11, 13, 104], [3, 5, 7, 9, 13], [], [], []⟩), (9, ⟨[0], [], [], [], []⟩), (10, ⟨[0], [], [], [], []⟩)],
  [],
  [(2, ⟨[1, 2], [1], [], [], []⟩), (3, ⟨[1, 2, 3, 4], [1, 3], [], [], []⟩), (4, ⟨[1, 2, 3, 4, 5, 6], [1, 3, 5], [], [], []⟩), (5, ⟨[1, 2, 3, 4, 5, 6, 7, 8], [1, 3, 5, 7], [], [], []⟩), (6, ⟨[1, 2, 3, 4, 5, 6, 7, 8, 9, 10], [1, 3, 5, 7, 9], [], [], []⟩), (7, ⟨[1, 2, 3, 4, 5, 6, 7, 8, 9, 10, 11, 12], [1, 3, 5, 7, 9], [], [], []⟩), (8, ⟨[3, 4, 5, 6, 7, 8, 9, 10, 11, 12, 13, 14], [3, 5, 7, 9, 13], [], [], []⟩), (10, ⟨[3, 5, 7, 9, 11, 13], [3, 5, 7, 9, 13], [], [], []⟩)],
  [], []⟩
def f18_g0 (tv0_n : Nat) (tv0_g : Nat → List PV) (s_1v0_n : Nat) (s_1v0_g : Nat → List PV) : St := ⟨[(1, .one (.c (.ptr 1 0))), (2, .one (.c (.p (.sl tv0_n 3 tv0_g))))], [(1, .box 26 [.p (.int .i64 s60.Parts), .p (.sl s_1v0_n 1 s_1v0_g), .p (.int .i64 s60.Beta.Low), .p (.int .i64 s60.Beta.High), .p (.int .i64 s60.Alpha.Low), .p (.int .i64 s60.Alpha.High)])], []⟩
def f18_at0 (K : List PA → Prop) (tv0_n : Nat) (tv0_g : Nat → List PV) (s_1v0_n : Nat) (s_1v0_g : Nat → List PV) : Prop := vc Try.prog G18 ann18 (cdF Try.f18 [1, 1]) (bodyK Try.prog Try.f18 K) (f18_g0 tv0_n tv0_g s_1v0_n s_1v0_g)
def f18_g1 (tv0 : (Sl RangeRow)) (ev1 : Int) (s_1v1_n : Nat) (s_1v1_g : Nat → List PV) (a_0v1 : Int) (a_1v1 : Int) : St := ⟨[(1, .one (.c (.ptr 1 0))), (2, .one (.c (.p (.sl tv0.len 3 (fun i => enc_42 (tv0.get i)))))), (3, .one (.c (.ptr 3 0))), (4, .one (.c (.p (.int .i64 ev1))))], [(1, .box 26 [.p (.int .i64 s60.Parts), .p (.sl s_1v1_n 1 s_1v1_g), .p (.int .i64 s60.Beta.Low), .p (.int .i64 s60.Beta.High), .p (.int .i64 s60.Alpha.Low), .p (.int .i64 s60.Alpha.High)]), (3, .box 24 [.p (.int .i64 a_0v1), .p (.int .i64 a_1v1)])], []⟩
def f18_at1 (K : List PA → Prop) (tv0 : (Sl RangeRow)) (ev1 : Int) (s_1v1_n : Nat) (s_1v1_g : Nat → List PV) (a_0v1 : Int) (a_1v1 : Int) : Prop := vc Try.prog G18 ann18 (cdF Try.f18 [1, 1, 1]) (bodyK Try.prog Try.f18 K) (f18_g1 tv0 ev1 s_1v1_n s_1v1_g a_0v1 a_1v1)
def f18_g2 (tv0 : (Sl RangeRow)) (ev1 : Int) (a_0v1 : Int) (a_1v1 : Int) (fv2 : Int) (s_1v2_n : Nat) (s_1v2_g : Nat → List PV) (b_0v2 : Int) (b_1v2 : Int) : St := ⟨[(1, .one (.c (.ptr 1 0))), (2, .one (.c (.p (.sl tv0.len 3 (fun i => enc_42 (tv0.get i)))))), (3, .one (.c (.ptr 3 0))), (4, .one (.c (.p (.int .i64 ev1)))), (5, .one (.c (.ptr 5 0))), (6, .one (.c (.p (.int .i64 fv2))))], [(1, .box 26 [.p (.int .i64 s60.Parts), .p (.sl s_1v2_n 1 s_1v2_g), .p (.int .i64 s60.Beta.Low), .p (.int .i64 s60.Beta.High), .p (.int .i64 s60.Alpha.Low), .p (.int .i64 s60.Alpha.High)]), (3, .box 24 [.p (.int .i64 a_0v1), .p (.int .i64 a_1v1)]), (5, .box 24 [.p (.int .i64 b_0v2), .p (.int .i64 b_1v2)])], []⟩
def f18_at2 (K : List PA → Prop) (tv0 : (Sl RangeRow)) (ev1 : Int) (a_0v1 : Int) (a_1v1 : Int) (fv2 : Int) (s_1v2_n : Nat) (s_1v2_g : Nat → List PV) (b_0v2 : Int) (b_1v2 : Int) : Prop := vc Try.prog G18 ann18 (cdF Try.f18 [1, 1, 1, 1]) (bodyK Try.prog Try.f18 K) (f18_g2 tv0 ev1 a_0v1 a_1v1 fv2 s_1v2_n s_1v2_g b_0v2 b_1v2)
def f18_g3 (tv0 : (Sl RangeRow)) (ev1 : Int) (a_0v1 : Int) (a_1v1 : Int) (fv2 : Int) (b_0v2 : Int) (b_1v2 : Int) (gv3 : Int) (s_1v3_n : Nat) (s_1v3_g : Nat → List PV) (c_0v3 : Int) (c_1v3 : Int) : St := ⟨[(1, .one (.c (.ptr 1 0))), (2, .one (.c (.p (.sl tv0.len 3 (fun i => enc_42 (tv0.get i)))))), (3, .one (.c (.ptr 3 0))), (4, .one (.c (.p (.int .i64 ev1)))), (5, .one (.c (.ptr 5 0))), (6, .one (.c (.p (.int .i64 fv2)))), (7, .one (.c (.ptr 7 0))), (8, .one (.c (.p (.int .i64 gv3))))], [(1, .box 26 [.p (.int .i64 s60.Parts), .p (.sl s_1v3_n 1 s_1v3_g), .p (.int .i64 s60.Beta.Low), .p (.int .i64 s60.Beta.High), .p (.int .i64 s60.Alpha.Low), .p (.int .i64 s60.Alpha.High)]), (3, .box 24 [.p (.int .i64 a_0v1), .p (.int .i64 a_1v1)]), (5, .box 24 [.p (.int .i64 b_0v2), .p (.int .i64 b_1v2)]), (7, .box 24 [.p (.int .i64 c_0v3), .p (.int .i64 c_1v3)])], []⟩
def f18_at3 (K : List PA → Prop) (tv0 : (Sl RangeRow)) (ev1 : Int) (a_0v1 : Int) (a_1v1 : Int) (fv2 : Int) (b_0v2 : Int) (b_1v2 : Int) (gv3 : Int) (s_1v3_n : Nat) (s_1v3_g : Nat → List PV) (c_0v3 : Int) (c_1v3 : Int) : Prop := vc Try.prog G18 ann18 (cdF Try.f18 [1, 1, 1, 1, 1]) (bodyK Try.prog Try.f18 K) (f18_g3 tv0 ev1 a_0v1 a_1v1 fv2 b_0v2 b_1v2 gv3 s_1v3_n s_1v3_g c_0v3 c_1v3)
def f18_g4 (tv0 : (Sl RangeRow)) (ev1 : Int) (a_0v1 : Int) (a_1v1 : Int) (fv2 : Int) (b_0v2 : Int) (b_1v2 : Int) (gv3 : Int) (c_0v3 : Int) (c_1v3 : Int) (hv4 : Int) (s_1v4_n : Nat) (s_1v4_g : Nat → List PV) (d_0v4 : Int) (d_1v4 : Int) : St := ⟨[(1, .one (.c (.ptr 1 0))), (2, .one (.c (.p (.sl tv0.len 3 (fun i => enc_42 (tv0.get i)))))), (3, .one (.c (.ptr 3 0))), (4, .one (.c (.p (.int .i64 ev1)))), (5, .one (.c (.ptr 5 0))), (6, .one (.c (.p (.int .i64 fv2)))), (7, .one (.c (.ptr 7 0))), (8, .one (.c (.p (.int .i64 gv3)))), (9, .one (.c (.ptr 9 0))), (10, .one (.c (.p (.int .i64 hv4))))], [(1, .box 26 [.p (.int .i64 s60.Parts), .p (.sl s_1v4_n 1 s_1v4_g), .p (.int .i64 s60.Beta.Low), .p (.int .i64 s60.Beta.High), .p (.int .i64 s60.Alpha.Low), .p (.int .i64 s60.Alpha.High)]), (3, .box 24 [.p (.int .i64 a_0v1), .p (.int .i64 a_1v1)]), (5, .box 24 [.p (.int .i64 b_0v2), .p (.int .i64 b_1v2)]), (7, .box 24 [.p (.int .i64 c_0v3), .p (.int .i64 c_1v3)]), (9, .box 24 [.p (.int .i64 d_0v4), .p (.int .i64 d_1v4)])], []⟩
def f18_at4 (K : List PA → Prop) (tv0 : (Sl RangeRow)) (ev1 : Int) (a_0v1 : Int) (a_1v1 : Int) (fv2 : Int) (b_0v2 : Int) (b_1v2 : Int) (gv3 : Int) (c_0v3 : Int) (c_1v3 : Int) (hv4 : Int) (s_1v4_n : Nat) (s_1v4_g : Nat → List PV) (d_0v4 : Int) (d_1v4 : Int) : Prop := vc Try.prog G18 ann18 (cdF Try.f18 [1, 1, 1, 1, 1, 1]) (bodyK Try.prog Try.f18 K) (f18_g4 tv0 ev1 a_0v1 a_1v1 fv2 b_0v2 b_1v2 gv3 c_0v3 c_1v3 hv4 s_1v4_n s_1v4_g d_0v4 d_1v4)
def f18_g5 (tv0 : (Sl RangeRow)) (ev1 : Int) (a_0v1 : Int) (a_1v1 : Int) (fv2 : Int) (b_0v2 : Int) (b_1v2 : Int) (gv3 : Int) (c_0v3 : Int) (c_1v3 : Int) (hv4 : Int) (d_0v4 : Int) (d_1v4 : Int) (lv5_n : Nat) (lv5_g : Nat → List PV) (iv5 : Int) (s_1v5_n : Nat) (s_1v5_g : Nat → List PV) : St := ⟨[(1, .one (.c (.ptr 1 0))), (2, .one (.c (.p (.sl tv0.len 3 (fun i => enc_42 (tv0.get i)))))), (3, .one (.c (.ptr 3 0))), (4, .one (.c (.p (.int .i64 ev1)))), (5, .one (.c (.ptr 5 0))), (6, .one (.c (.p (.int .i64 fv2)))), (7, .one (.c (.ptr 7 0))), (8, .one (.c (.p (.int .i64 gv3)))), (9, .one (.c (.ptr 9 0))), (10, .one (.c (.p (.int .i64 hv4)))), (11, .one (.c (.p (.sl lv5_n 3 lv5_g)))), (12, .one (.c (.p (.int .i64 iv5))))], [(1, .box 26 [.p (.int .i64 s60.Parts), .p (.sl s_1v5_n 1 s_1v5_g), .p (.int .i64 s60.Beta.Low), .p (.int .i64 s60.Beta.High), .p (.int .i64 s60.Alpha.Low), .p (.int .i64 s60.Alpha.High)]), (3, .box 24 [.p (.int .i64 a_0v1), .p (.int .i64 a_1v1)]), (5, .box 24 [.p (.int .i64 b_0v2), .p (.int .i64 b_1v2)]), (7, .box 24 [.p (.int .i64 c_0v3), .p (.int .i64 c_1v3)]), (9, .box 24 [.p (.int .i64 d_0v4), .p (.int .i64 d_1v4)])], []⟩
def f18_at5 (K : List PA → Prop) (tv0 : (Sl RangeRow)) (ev1 : Int) (a_0v1 : Int) (a_1v1 : Int) (fv2 : Int) (b_0v2 : Int) (b_1v2 : Int) (gv3 : Int) (c_0v3 : Int) (c_1v3 : Int) (hv4 : Int) (d_0v4 : Int) (d_1v4 : Int) (lv5_n : Nat) (lv5_g : Nat → List PV) (iv5 : Int) (s_1v5_n : Nat) (s_1v5_g : Nat → List PV) : Prop := vc Try.prog G18 ann18 (cdF Try.f18 [1, 1, 1, 1, 1, 1, 1]) (bodyK Try.prog Try.f18 K) (f18_g5 tv0 ev1 a_0v1 a_1v1 fv2 b_0v2 b_1v2 gv3 c_0v3 c_1v3 hv4 d_0v4 d_1v4 lv5_n lv5_g iv5 s_1v5_n s_1v5_g)
def f18_g6 (ev1 : Int) (a_0v1 : Int) (a_1v1 : Int) (fv2 : Int) (b_0v2 : Int) (b_1v2 : Int) (gv3 : Int) (c_0v3 : Int) (c_1v3 : Int) (hv4 : Int) (d_0v4 : Int) (d_1v4 : Int) (lv5 : (Sl FluxStep)) (iv5 : Int) (jv6 : Int) (x_0v6 : Int) (x_1v6_n : Nat) (x_1v6_g : Nat → List PV) (x_2v6 : Int) (x_3v6 : Int) (x_4v6 : Int) (x_5v6 : Int) : St := ⟨[(3, .one (.c (.ptr 3 0))), (4, .one (.c (.p (.int .i64 ev1)))), (5, .one (.c (.ptr 5 0))), (6, .one (.c (.p (.int .i64 fv2)))), (7, .one (.c (.ptr 7 0))), (8, .one (.c (.p (.int .i64 gv3)))), (9, .one (.c (.ptr 9 0))), (10, .one (.c (.p (.int .i64 hv4)))), (11, .one (.c (.p (.sl lv5.len 3 (fun i => enc_69 (lv5.get i)))))), (12, .one (.c (.p (.int .i64 iv5)))), (13, .one (.c (.ptr 13 0))), (14, .one (.c (.p (.int .i64 jv6))))], [(3, .box 24 [.p (.int .i64 a_0v1), .p (.int .i64 a_1v1)]), (5, .box 24 [.p (.int .i64 b_0v2), .p (.int .i64 b_1v2)]), (7, .box 24 [.p (.int .i64 c_0v3), .p (.int .i64 c_1v3)]), (9, .box 24 [.p (.int .i64 d_0v4), .p (.int .i64 d_1v4)]), (13, .box 26 [.p (.int .i64 x_0v6), .p (.sl x_1v6_n 1 x_1v6_g), .p (.int .i64 x_2v6), .p (.int .i64 x_3v6), .p (.int .i64 x_4v6), .p (.int .i64 x_5v6)])], []⟩
def f18_at6 (K : List PA → Prop) (ev1 : Int) (a_0v1 : Int) (a_1v1 : Int) (fv2 : Int) (b_0v2 : Int) (b_1v2 : Int) (gv3 : Int) (c_0v3 : Int) (c_1v3 : Int) (hv4 : Int) (d_0v4 : Int) (d_1v4 : Int) (lv5 : (Sl FluxStep)) (iv5 : Int) (jv6 : Int) (x_0v6 : Int) (x_1v6_n : Nat) (x_1v6_g : Nat → List PV) (x_2v6 : Int) (x_3v6 : Int) (x_4v6 : Int) (x_5v6 : Int) : Prop := vc Try.prog G18 ann18 (cdF Try.f18 [1, 1, 1, 1, 1, 1, 1, 1]) (bodyK Try.prog Try.f18 K) (f18_g6 ev1 a_0v1 a_1v1 fv2 b_0v2 b_1v2 gv3 c_0v3 c_1v3 hv4 d_0v4 d_1v4 lv5 iv5 jv6 x_0v6 x_1v6_n x_1v6_g x_2v6 x_3v6 x_4v6 x_5v6)
def f18_g7 (a_0v1 : Int) (a_1v1 : Int) (b_0v2 : Int) (b_1v2 : Int) (c_0v3 : Int) (c_1v3 : Int) (d_0v4 : Int) (d_1v4 : Int) (lv5 : (Sl FluxStep)) (x_0v6 : Int) (x_1v6 : (Sl (Sl FluxRow))) (x_2v6 : Int) (x_3v6 : Int) (x_4v6 : Int) (x_5v6 : Int) : St := ⟨[(3, .one (.c (.ptr 3 0))), (5, .one (.c (.ptr 5 0))), (7, .one (.c (.ptr 7 0))), (9, .one (.c (.ptr 9 0))), (11, .one (.c (.p (.sl lv5.len 3 (fun i => enc_69 (lv5.get i)))))), (13, .one (.c (.ptr 13 0)))], [(3, .box 24 [.p (.int .i64 a_0v1), .p (.int .i64 a_1v1)]), (5, .box 24 [.p (.int .i64 b_0v2), .p (.int .i64 b_1v2)]), (7, .box 24 [.p (.int .i64 c_0v3), .p (.int .i64 c_1v3)]), (9, .box 24 [.p (.int .i64 d_0v4), .p (.int .i64 d_1v4)]), (13, .box 26 [.p (.int .i64 x_0v6), .p (.sl x_1v6.len 1 (fun i => enc_32 (x_1v6.get i))), .p (.int .i64 x_2v6), .p (.int .i64 x_3v6), .p (.int .i64 x_4v6), .p (.int .i64 x_5v6)])], []⟩
def f18_at7 (K : List PA → Prop) (a_0v1 : Int) (a_1v1 : Int) (b_0v2 : Int) (b_1v2 : Int) (c_0v3 : Int) (c_1v3 : Int) (d_0v4 : Int) (d_1v4 : Int) (lv5 : (Sl FluxStep)) (x_0v6 : Int) (x_1v6 : (Sl (Sl FluxRow))) (x_2v6 : Int) (x_3v6 : Int) (x_4v6 : Int) (x_5v6 : Int) : Prop := vc Try.prog G18 ann18 (cdF Try.f18 [1, 1, 1, 1, 1, 1, 1, 1, 1]) (bodyK Try.prog Try.f18 K) (f18_g7 a_0v1 a_1v1 b_0v2 b_1v2 c_0v3 c_1v3 d_0v4 d_1v4 lv5 x_0v6 x_1v6 x_2v6 x_3v6 x_4v6 x_5v6)
theorem f18_top (K : List PA → Prop) :
  vcFun Try.prog G18 ann18 18 [] K =
  (f18_at0 K s61.len (fun i => enc_42 (s61.get i)) s60.Bins.len (fun i => enc_32 (s60.Bins.get i))) := by kernel_rfl
theorem f18_eq0 (K : List PA → Prop) (tv0 : (Sl RangeRow)) (s_1v0 : (Sl (Sl FluxRow))) :
  f18_at0 K tv0.len (fun i => enc_42 (tv0.get i)) s_1v0.len (fun i => enc_32 (s_1v0.get i)) =
  ((IsE enc_42 3 3 (fun i => enc_42 (tv0.get i)) ∧ (p19 tv0 (100:Int) = true)) ∧
  (f18_at1 K tv0 ((s19 tv0 (100:Int)).2) s_1v0.len (fun i => enc_32 (s_1v0.get i)) (((s19 tv0 (100:Int)).1).Low) (((s19 tv0 (100:Int)).1).High))) := by kernel_rfl
theorem f18_eq1 (K : List PA → Prop) (tv0 : (Sl RangeRow)) (ev1 : Int) (s_1v1 : (Sl (Sl FluxRow))) (a_0v1 : Int) (a_1v1 : Int) :
  f18_at1 K tv0 ev1 s_1v1.len (fun i => enc_32 (s_1v1.get i)) a_0v1 a_1v1 =
  ((IsE enc_32 1 1 (fun i => enc_32 (s_1v1.get i)) ∧ IsE enc_42 3 3 (fun i => enc_42 (tv0.get i)) ∧ (p20 (⟨s60.Parts, s_1v1, s60.Beta, s60.Alpha⟩ : Sky) tv0 (0:Int) (280:Int) = true)) ∧
  (f18_at2 K tv0 ev1 a_0v1 a_1v1 ((s20 (⟨s60.Parts, s_1v1, s60.Beta, s60.Alpha⟩ : Sky) tv0 (0:Int) (280:Int)).2) s_1v1.len (fun i => enc_32 (s_1v1.get i)) (((s20 (⟨s60.Parts, s_1v1, s60.Beta, s60.Alpha⟩ : Sky) tv0 (0:Int) (280:Int)).1).Low) (((s20 (⟨s60.Parts, s_1v1, s60.Beta, s60.Alpha⟩ : Sky) tv0 (0:Int) (280:Int)).1).High))) := by kernel_rfl
theorem f18_eq2 (K : List PA → Prop) (tv0 : (Sl RangeRow)) (ev1 : Int) (a_0v1 : Int) (a_1v1 : Int) (fv2 : Int) (s_1v2 : (Sl (Sl FluxRow))) (b_0v2 : Int) (b_1v2 : Int) :
  f18_at2 K tv0 ev1 a_0v1 a_1v1 fv2 s_1v2.len (fun i => enc_32 (s_1v2.get i)) b_0v2 b_1v2 =
  ((IsE enc_32 1 1 (fun i => enc_32 (s_1v2.get i)) ∧ IsE enc_42 3 3 (fun i => enc_42 (tv0.get i)) ∧ IsE enc_56 5 5 (getL [(enc_56 (s34 (3:Int))), (enc_56 (⟨(1:Int), (⟨(⟨(-10:Int), (20:Int)⟩ : Span), (⟨(0:Int), (5:Int)⟩ : Span)⟩ : Weather)⟩ : Spell))]) ∧ (p23 (⟨s60.Parts, s_1v2, s60.Beta, s60.Alpha⟩ : Sky) tv0 (0:Int) (100:Int) (⟨2, decF_56 (getL [(enc_56 (s34 (3:Int))), (enc_56 (⟨(1:Int), (⟨(⟨(-10:Int), (20:Int)⟩ : Span), (⟨(0:Int), (5:Int)⟩ : Span)⟩ : Weather)⟩ : Spell))])⟩ : (Sl Spell)) = true)) ∧
  (f18_at3 K tv0 ev1 a_0v1 a_1v1 fv2 b_0v2 b_1v2 ((s23 (⟨s60.Parts, s_1v2, s60.Beta, s60.Alpha⟩ : Sky) tv0 (0:Int) (100:Int) (⟨2, decF_56 (getL [(enc_56 (s34 (3:Int))), (enc_56 (⟨(1:Int), (⟨(⟨(-10:Int), (20:Int)⟩ : Span), (⟨(0:Int), (5:Int)⟩ : Span)⟩ : Weather)⟩ : Spell))])⟩ : (Sl Spell))).2) s_1v2.len (fun i => enc_32 (s_1v2.get i)) (((s23 (⟨s60.Parts, s_1v2, s60.Beta, s60.Alpha⟩ : Sky) tv0 (0:Int) (100:Int) (⟨2, decF_56 (getL [(enc_56 (s34 (3:Int))), (enc_56 (⟨(1:Int), (⟨(⟨(-10:Int), (20:Int)⟩ : Span), (⟨(0:Int), (5:Int)⟩ : Span)⟩ : Weather)⟩ : Spell))])⟩ : (Sl Spell))).1).Low) (((s23 (⟨s60.Parts, s_1v2, s60.Beta, s60.Alpha⟩ : Sky) tv0 (0:Int) (100:Int) (⟨2, decF_56 (getL [(enc_56 (s34 (3:Int))), (enc_56 (⟨(1:Int), (⟨(⟨(-10:Int), (20:Int)⟩ : Span), (⟨(0:Int), (5:Int)⟩ : Span)⟩ : Weather)⟩ : Spell))])⟩ : (Sl Spell))).1).High))) := by kernel_rfl
theorem f18_eq3 (K : List PA → Prop) (tv0 : (Sl RangeRow)) (ev1 : Int) (a_0v1 : Int) (a_1v1 : Int) (fv2 : Int) (b_0v2 : Int) (b_1v2 : Int) (gv3 : Int) (s_1v3 : (Sl (Sl FluxRow))) (c_0v3 : Int) (c_1v3 : Int) :
  f18_at3 K tv0 ev1 a_0v1 a_1v1 fv2 b_0v2 b_1v2 gv3 s_1v3.len (fun i => enc_32 (s_1v3.get i)) c_0v3 c_1v3 =
  ((IsE enc_32 1 1 (fun i => enc_32 (s_1v3.get i)) ∧ IsE enc_42 3 3 (fun i => enc_42 (tv0.get i)) ∧ IsE enc_56 5 5 (fun _ => (enc_56 (s34 (1:Int)))) ∧ (p25 (⟨s60.Parts, s_1v3, s60.Beta, s60.Alpha⟩ : Sky) tv0 (0:Int) (⟨(261:Int), (270:Int)⟩ : Span) (⟨1, fun _ => (s34 (1:Int))⟩ : (Sl Spell)) = true)) ∧
  (f18_at4 K tv0 ev1 a_0v1 a_1v1 fv2 b_0v2 b_1v2 gv3 c_0v3 c_1v3 ((s25 (⟨s60.Parts, s_1v3, s60.Beta, s60.Alpha⟩ : Sky) tv0 (0:Int) (⟨(261:Int), (270:Int)⟩ : Span) (⟨1, fun _ => (s34 (1:Int))⟩ : (Sl Spell))).2) s_1v3.len (fun i => enc_32 (s_1v3.get i)) (((s25 (⟨s60.Parts, s_1v3, s60.Beta, s60.Alpha⟩ : Sky) tv0 (0:Int) (⟨(261:Int), (270:Int)⟩ : Span) (⟨1, fun _ => (s34 (1:Int))⟩ : (Sl Spell))).1).Low) (((s25 (⟨s60.Parts, s_1v3, s60.Beta, s60.Alpha⟩ : Sky) tv0 (0:Int) (⟨(261:Int), (270:Int)⟩ : Span) (⟨1, fun _ => (s34 (1:Int))⟩ : (Sl Spell))).1).High))) := by kernel_rfl
theorem f18_eq4 (K : List PA → Prop) (tv0 : (Sl RangeRow)) (ev1 : Int) (a_0v1 : Int) (a_1v1 : Int) (fv2 : Int) (b_0v2 : Int) (b_1v2 : Int) (gv3 : Int) (c_0v3 : Int) (c_1v3 : Int) (hv4 : Int) (s_1v4 : (Sl (Sl FluxRow))) (d_0v4 : Int) (d_1v4 : Int) :
  f18_at4 K tv0 ev1 a_0v1 a_1v1 fv2 b_0v2 b_1v2 gv3 c_0v3 c_1v3 hv4 s_1v4.len (fun i => enc_32 (s_1v4.get i)) d_0v4 d_1v4 =
  ((IsE enc_32 1 1 (fun i => enc_32 (s_1v4.get i)) ∧ IsE enc_42 3 3 (fun i => enc_42 (tv0.get i)) ∧ IsE enc_56 5 5 (fun _ => (enc_56 (s34 (1:Int)))) ∧ (p26 (⟨s60.Parts, s_1v4, s60.Beta, s60.Alpha⟩ : Sky) tv0 (0:Int) (⟨1, fun _ => (s34 (1:Int))⟩ : (Sl Spell)) = true)) ∧
  (f18_at5 K tv0 ev1 a_0v1 a_1v1 fv2 b_0v2 b_1v2 gv3 c_0v3 c_1v3 hv4 d_0v4 d_1v4 (((s26 (⟨s60.Parts, s_1v4, s60.Beta, s60.Alpha⟩ : Sky) tv0 (0:Int) (⟨1, fun _ => (s34 (1:Int))⟩ : (Sl Spell))).1).len) (fun i => enc_69 (((s26 (⟨s60.Parts, s_1v4, s60.Beta, s60.Alpha⟩ : Sky) tv0 (0:Int) (⟨1, fun _ => (s34 (1:Int))⟩ : (Sl Spell))).1).get i)) ((s26 (⟨s60.Parts, s_1v4, s60.Beta, s60.Alpha⟩ : Sky) tv0 (0:Int) (⟨1, fun _ => (s34 (1:Int))⟩ : (Sl Spell))).2) s_1v4.len (fun i => enc_32 (s_1v4.get i)))) := by kernel_rfl
theorem f18_eq5 (K : List PA → Prop) (tv0 : (Sl RangeRow)) (ev1 : Int) (a_0v1 : Int) (a_1v1 : Int) (fv2 : Int) (b_0v2 : Int) (b_1v2 : Int) (gv3 : Int) (c_0v3 : Int) (c_1v3 : Int) (hv4 : Int) (d_0v4 : Int) (d_1v4 : Int) (lv5 : (Sl FluxStep)) (iv5 : Int) (s_1v5 : (Sl (Sl FluxRow))) :
  f18_at5 K tv0 ev1 a_0v1 a_1v1 fv2 b_0v2 b_1v2 gv3 c_0v3 c_1v3 hv4 d_0v4 d_1v4 lv5.len (fun i => enc_69 (lv5.get i)) iv5 s_1v5.len (fun i => enc_32 (s_1v5.get i)) =
  ((IsE enc_32 1 1 (fun i => enc_32 (s_1v5.get i)) ∧ IsE enc_42 3 3 (fun i => enc_42 (tv0.get i)) ∧ (p33 (⟨s60.Parts, s_1v5, s60.Beta, s60.Alpha⟩ : Sky) tv0 (0:Int) (100:Int) (⟨(10:Int), (25:Int)⟩ : Span) = true)) ∧
  (f18_at6 K ev1 a_0v1 a_1v1 fv2 b_0v2 b_1v2 gv3 c_0v3 c_1v3 hv4 d_0v4 d_1v4 lv5 iv5 ((s33 (⟨s60.Parts, s_1v5, s60.Beta, s60.Alpha⟩ : Sky) tv0 (0:Int) (100:Int) (⟨(10:Int), (25:Int)⟩ : Span)).2) (((s33 (⟨s60.Parts, s_1v5, s60.Beta, s60.Alpha⟩ : Sky) tv0 (0:Int) (100:Int) (⟨(10:Int), (25:Int)⟩ : Span)).1).Parts) (((s33 (⟨s60.Parts, s_1v5, s60.Beta, s60.Alpha⟩ : Sky) tv0 (0:Int) (100:Int) (⟨(10:Int), (25:Int)⟩ : Span)).1).Bins.len) (fun i => enc_32 (((s33 (⟨s60.Parts, s_1v5, s60.Beta, s60.Alpha⟩ : Sky) tv0 (0:Int) (100:Int) (⟨(10:Int), (25:Int)⟩ : Span)).1).Bins.get i)) (((s33 (⟨s60.Parts, s_1v5, s60.Beta, s60.Alpha⟩ : Sky) tv0 (0:Int) (100:Int) (⟨(10:Int), (25:Int)⟩ : Span)).1).Beta.Low) (((s33 (⟨s60.Parts, s_1v5, s60.Beta, s60.Alpha⟩ : Sky) tv0 (0:Int) (100:Int) (⟨(10:Int), (25:Int)⟩ : Span)).1).Beta.High) (((s33 (⟨s60.Parts, s_1v5, s60.Beta, s60.Alpha⟩ : Sky) tv0 (0:Int) (100:Int) (⟨(10:Int), (25:Int)⟩ : Span)).1).Alpha.Low) (((s33 (⟨s60.Parts, s_1v5, s60.Beta, s60.Alpha⟩ : Sky) tv0 (0:Int) (100:Int) (⟨(10:Int), (25:Int)⟩ : Span)).1).Alpha.High))) := by kernel_rfl
theorem f18_eq6 (K : List PA → Prop) (ev1 : Int) (a_0v1 : Int) (a_1v1 : Int) (fv2 : Int) (b_0v2 : Int) (b_1v2 : Int) (gv3 : Int) (c_0v3 : Int) (c_1v3 : Int) (hv4 : Int) (d_0v4 : Int) (d_1v4 : Int) (lv5 : (Sl FluxStep)) (iv5 : Int) (jv6 : Int) (x_0v6 : Int) (x_1v6 : (Sl (Sl FluxRow))) (x_2v6 : Int) (x_3v6 : Int) (x_4v6 : Int) (x_5v6 : Int) :
  f18_at6 K ev1 a_0v1 a_1v1 fv2 b_0v2 b_1v2 gv3 c_0v3 c_1v3 hv4 d_0v4 d_1v4 lv5 iv5 jv6 x_0v6 x_1v6.len (fun i => enc_32 (x_1v6.get i)) x_2v6 x_3v6 x_4v6 x_5v6 =
  (condP (ev1 != (0:Int))
   (K [.one (.bool false)])
   (condP (fv2 != (0:Int))
    (K [.one (.bool false)])
    (condP (gv3 != (0:Int))
     (K [.one (.bool false)])
     (condP (hv4 != (0:Int))
      (K [.one (.bool false)])
      (condP (iv5 != (0:Int))
       (K [.one (.bool false)])
       (condP (jv6 != (0:Int))
        (K [.one (.bool false)])
        (condP ((lv5.len : Int) != (7:Int))
         (K [.one (.bool false)])
         (condP ((x_1v6.len : Int) != (1:Int))
          (K [.one (.bool false)])
          (((0 ≤ (0:Int) ∧ (0:Int) < (x_1v6.len : Int))) ∧
          (condP (((x_1v6.get 0).len : Int) != (4:Int))
           (K [.one (.bool false)])
           (f18_at7 K a_0v1 a_1v1 b_0v2 b_1v2 c_0v3 c_1v3 d_0v4 d_1v4 lv5 x_0v6 x_1v6 x_2v6 x_3v6 x_4v6 x_5v6))))))))))) := by kernel_rfl
theorem f18_eq7 (K : List PA → Prop) (a_0v1 : Int) (a_1v1 : Int) (b_0v2 : Int) (b_1v2 : Int) (c_0v3 : Int) (c_1v3 : Int) (d_0v4 : Int) (d_1v4 : Int) (lv5 : (Sl FluxStep)) (x_0v6 : Int) (x_1v6 : (Sl (Sl FluxRow))) (x_2v6 : Int) (x_3v6 : Int) (x_4v6 : Int) (x_5v6 : Int) :
  f18_at7 K a_0v1 a_1v1 b_0v2 b_1v2 c_0v3 c_1v3 d_0v4 d_1v4 lv5 x_0v6 x_1v6 x_2v6 x_3v6 x_4v6 x_5v6 =
  (condP (match (a_0v1 == (11:Int)) with | true => (match (a_1v1 == (100:Int)) with | true => true | false => false) | false => false)
   (condP (match (b_0v2 == (0:Int)) with | true => (match (b_1v2 == (260:Int)) with | true => true | false => false) | false => false)
    (condP (match (c_0v3 == (19:Int)) with | true => (match (c_1v3 == (505:Int)) with | true => true | false => false) | false => false)
     (condP (match (d_0v4 == (1:Int)) with | true => (match (d_1v4 == (120:Int)) with | true => true | false => false) | false => false)
      (((0 ≤ (4:Int) ∧ (4:Int) < (lv5.len : Int))) ∧
      (condP (match ((lv5.get 4).From == (121:Int)) with | true => (match (match ((lv5.get 4).Rate.Low == (20:Int)) with | true => (match ((lv5.get 4).Rate.High == (260:Int)) with | true => true | false => false) | false => false) with | true => true | false => false) | false => false)
       (((0 ≤ (0:Int) ∧ (0:Int) < (x_1v6.len : Int))) ∧
       (((0 ≤ (3:Int) ∧ (3:Int) < ((x_1v6.get 0).len : Int))) ∧
       (K [.one (.bool (match (((x_1v6.get 0).get 3).Rate.Low == (20:Int)) with | true => (match (((x_1v6.get 0).get 3).Rate.High == (25:Int)) with | true => true | false => false) | false => false))])))
       (K [.one (.bool false)])))
      (K [.one (.bool false)]))
     (K [.one (.bool false)]))
    (K [.one (.bool false)]))
   (K [.one (.bool false)])) := by kernel_rfl
abbrev e18 (r : Bool) : List PA := [.one (.bool r)]
attribute [irreducible] f18_at0 f18_at1 f18_at2 f18_at3 f18_at4 f18_at5 f18_at6 f18_at7
def s18_at7 (a_0v1 : Int) (a_1v1 : Int) (b_0v2 : Int) (b_1v2 : Int) (c_0v3 : Int) (c_1v3 : Int) (d_0v4 : Int) (d_1v4 : Int) (lv5 : (Sl FluxStep)) (x_0v6 : Int) (x_1v6 : (Sl (Sl FluxRow))) (x_2v6 : Int) (x_3v6 : Int) (x_4v6 : Int) (x_5v6 : Int) : Bool :=
  (cond (match (a_0v1 == (11:Int)) with | true => (match (a_1v1 == (100:Int)) with | true => true | false => false) | false => false)
   (cond (match (b_0v2 == (0:Int)) with | true => (match (b_1v2 == (260:Int)) with | true => true | false => false) | false => false)
    (cond (match (c_0v3 == (19:Int)) with | true => (match (c_1v3 == (505:Int)) with | true => true | false => false) | false => false)
     (cond (match (d_0v4 == (1:Int)) with | true => (match (d_1v4 == (120:Int)) with | true => true | false => false) | false => false)
      (cond (match ((lv5.get 4).From == (121:Int)) with | true => (match (match ((lv5.get 4).Rate.Low == (20:Int)) with | true => (match ((lv5.get 4).Rate.High == (260:Int)) with | true => true | false => false) | false => false) with | true => true | false => false) | false => false)
       (match (((x_1v6.get 0).get 3).Rate.Low == (20:Int)) with | true => (match (((x_1v6.get 0).get 3).Rate.High == (25:Int)) with | true => true | false => false) | false => false)
       false)
      false)
     false)
    false)
   false)
def p18_at7 (a_0v1 : Int) (a_1v1 : Int) (b_0v2 : Int) (b_1v2 : Int) (c_0v3 : Int) (c_1v3 : Int) (d_0v4 : Int) (d_1v4 : Int) (lv5 : (Sl FluxStep)) (x_0v6 : Int) (x_1v6 : (Sl (Sl FluxRow))) (x_2v6 : Int) (x_3v6 : Int) (x_4v6 : Int) (x_5v6 : Int) : Bool :=
  (cond (match (a_0v1 == (11:Int)) with | true => (match (a_1v1 == (100:Int)) with | true => true | false => false) | false => false)
   (cond (match (b_0v2 == (0:Int)) with | true => (match (b_1v2 == (260:Int)) with | true => true | false => false) | false => false)
    (cond (match (c_0v3 == (19:Int)) with | true => (match (c_1v3 == (505:Int)) with | true => true | false => false) | false => false)
     (cond (match (d_0v4 == (1:Int)) with | true => (match (d_1v4 == (120:Int)) with | true => true | false => false) | false => false)
      (decide ((0 ≤ (4:Int) ∧ (4:Int) < (lv5.len : Int))) &&
      (cond (match ((lv5.get 4).From == (121:Int)) with | true => (match (match ((lv5.get 4).Rate.Low == (20:Int)) with | true => (match ((lv5.get 4).Rate.High == (260:Int)) with | true => true | false => false) | false => false) with | true => true | false => false) | false => false)
       (decide ((0 ≤ (0:Int) ∧ (0:Int) < (x_1v6.len : Int))) &&
       (decide ((0 ≤ (3:Int) ∧ (3:Int) < ((x_1v6.get 0).len : Int))) &&
       true))
       true))
      true)
     true)
    true)
   true)
theorem q18_at7 (K : List PA → Prop) (a_0v1 : Int) (a_1v1 : Int) (b_0v2 : Int) (b_1v2 : Int) (c_0v3 : Int) (c_1v3 : Int) (d_0v4 : Int) (d_1v4 : Int) (lv5 : (Sl FluxStep)) (x_0v6 : Int) (x_1v6 : (Sl (Sl FluxRow))) (x_2v6 : Int) (x_3v6 : Int) (x_4v6 : Int) (x_5v6 : Int) (hs : p18_at7 a_0v1 a_1v1 b_0v2 b_1v2 c_0v3 c_1v3 d_0v4 d_1v4 lv5 x_0v6 x_1v6 x_2v6 x_3v6 x_4v6 x_5v6 = true) (hk : K (e18 (s18_at7 a_0v1 a_1v1 b_0v2 b_1v2 c_0v3 c_1v3 d_0v4 d_1v4 lv5 x_0v6 x_1v6 x_2v6 x_3v6 x_4v6 x_5v6))) : f18_at7 K a_0v1 a_1v1 b_0v2 b_1v2 c_0v3 c_1v3 d_0v4 d_1v4 lv5 x_0v6 x_1v6 x_2v6 x_3v6 x_4v6 x_5v6 := by
  refine ofEq (f18_eq7 K a_0v1 a_1v1 b_0v2 b_1v2 c_0v3 c_1v3 d_0v4 d_1v4 lv5 x_0v6 x_1v6 x_2v6 x_3v6 x_4v6 x_5v6) ?_
  unfold p18_at7 at hs
  unfold s18_at7 at hk
  exact (condB_go (K := fun r => K (e18 r))
   (fun hs hk => (condB_go (K := fun r => K (e18 r))
    (fun hs hk => (condB_go (K := fun r => K (e18 r))
     (fun hs hk => (condB_go (K := fun r => K (e18 r))
      (fun hs hk => (andK hs fun hc hs => ⟨hc, (condB_go (K := fun r => K (e18 r))
       (fun hs hk => (andK hs fun hc hs => ⟨hc, (andK hs fun hc hs => ⟨hc, hk⟩)⟩))
       (fun hs hk => hk) hs hk)⟩))
      (fun hs hk => hk) hs hk))
     (fun hs hk => hk) hs hk))
    (fun hs hk => hk) hs hk))
   (fun hs hk => hk) hs hk)
def s18_at6 (ev1 : Int) (a_0v1 : Int) (a_1v1 : Int) (fv2 : Int) (b_0v2 : Int) (b_1v2 : Int) (gv3 : Int) (c_0v3 : Int) (c_1v3 : Int) (hv4 : Int) (d_0v4 : Int) (d_1v4 : Int) (lv5 : (Sl FluxStep)) (iv5 : Int) (jv6 : Int) (x_0v6 : Int) (x_1v6 : (Sl (Sl FluxRow))) (x_2v6 : Int) (x_3v6 : Int) (x_4v6 : Int) (x_5v6 : Int) : Bool :=
  (cond (ev1 != (0:Int))
   false
   (cond (fv2 != (0:Int))
    false
    (cond (gv3 != (0:Int))
     false
     (cond (hv4 != (0:Int))
      false
      (cond (iv5 != (0:Int))
       false
       (cond (jv6 != (0:Int))
        false
        (cond ((lv5.len : Int) != (7:Int))
         false
         (cond ((x_1v6.len : Int) != (1:Int))
          false
          (cond (((x_1v6.get 0).len : Int) != (4:Int))
           false
           (s18_at7 a_0v1 a_1v1 b_0v2 b_1v2 c_0v3 c_1v3 d_0v4 d_1v4 lv5 x_0v6 x_1v6 x_2v6 x_3v6 x_4v6 x_5v6))))))))))
def p18_at6 (ev1 : Int) (a_0v1 : Int) (a_1v1 : Int) (fv2 : Int) (b_0v2 : Int) (b_1v2 : Int) (gv3 : Int) (c_0v3 : Int) (c_1v3 : Int) (hv4 : Int) (d_0v4 : Int) (d_1v4 : Int) (lv5 : (Sl FluxStep)) (iv5 : Int) (jv6 : Int) (x_0v6 : Int) (x_1v6 : (Sl (Sl FluxRow))) (x_2v6 : Int) (x_3v6 : Int) (x_4v6 : Int) (x_5v6 : Int) : Bool :=
  (cond (ev1 != (0:Int))
   true
   (cond (fv2 != (0:Int))
    true
    (cond (gv3 != (0:Int))
     true
     (cond (hv4 != (0:Int))
      true
      (cond (iv5 != (0:Int))
       true
       (cond (jv6 != (0:Int))
        true
        (cond ((lv5.len : Int) != (7:Int))
         true
         (cond ((x_1v6.len : Int) != (1:Int))
          true
          (decide ((0 ≤ (0:Int) ∧ (0:Int) < (x_1v6.len : Int))) &&
          (cond (((x_1v6.get 0).len : Int) != (4:Int))
           true
           (p18_at7 a_0v1 a_1v1 b_0v2 b_1v2 c_0v3 c_1v3 d_0v4 d_1v4 lv5 x_0v6 x_1v6 x_2v6 x_3v6 x_4v6 x_5v6)))))))))))
theorem q18_at6 (K : List PA → Prop) (ev1 : Int) (a_0v1 : Int) (a_1v1 : Int) (fv2 : Int) (b_0v2 : Int) (b_1v2 : Int) (gv3 : Int) (c_0v3 : Int) (c_1v3 : Int) (hv4 : Int) (d_0v4 : Int) (d_1v4 : Int) (lv5 : (Sl FluxStep)) (iv5 : Int) (jv6 : Int) (x_0v6 : Int) (x_1v6 : (Sl (Sl FluxRow))) (x_2v6 : Int) (x_3v6 : Int) (x_4v6 : Int) (x_5v6 : Int) (x_1v6_g : Nat → List PV) (x_1v6_h : x_1v6_g = fun i => enc_32 (x_1v6.get i)) (hs : p18_at6 ev1 a_0v1 a_1v1 fv2 b_0v2 b_1v2 gv3 c_0v3 c_1v3 hv4 d_0v4 d_1v4 lv5 iv5 jv6 x_0v6 x_1v6 x_2v6 x_3v6 x_4v6 x_5v6 = true) (hk : K (e18 (s18_at6 ev1 a_0v1 a_1v1 fv2 b_0v2 b_1v2 gv3 c_0v3 c_1v3 hv4 d_0v4 d_1v4 lv5 iv5 jv6 x_0v6 x_1v6 x_2v6 x_3v6 x_4v6 x_5v6))) : f18_at6 K ev1 a_0v1 a_1v1 fv2 b_0v2 b_1v2 gv3 c_0v3 c_1v3 hv4 d_0v4 d_1v4 lv5 iv5 jv6 x_0v6 x_1v6.len x_1v6_g x_2v6 x_3v6 x_4v6 x_5v6 := by
  subst x_1v6_h
  refine ofEq (f18_eq6 K ev1 a_0v1 a_1v1 fv2 b_0v2 b_1v2 gv3 c_0v3 c_1v3 hv4 d_0v4 d_1v4 lv5 iv5 jv6 x_0v6 x_1v6 x_2v6 x_3v6 x_4v6 x_5v6) ?_
  unfold p18_at6 at hs
  unfold s18_at6 at hk
  exact (condB_go (K := fun r => K (e18 r))
   (fun hs hk => hk)
   (fun hs hk => (condB_go (K := fun r => K (e18 r))
    (fun hs hk => hk)
    (fun hs hk => (condB_go (K := fun r => K (e18 r))
     (fun hs hk => hk)
     (fun hs hk => (condB_go (K := fun r => K (e18 r))
      (fun hs hk => hk)
      (fun hs hk => (condB_go (K := fun r => K (e18 r))
       (fun hs hk => hk)
       (fun hs hk => (condB_go (K := fun r => K (e18 r))
        (fun hs hk => hk)
        (fun hs hk => (condB_go (K := fun r => K (e18 r))
         (fun hs hk => hk)
         (fun hs hk => (condB_go (K := fun r => K (e18 r))
          (fun hs hk => hk)
          (fun hs hk => (andK hs fun hc hs => ⟨hc, (condB_go (K := fun r => K (e18 r))
           (fun hs hk => hk)
           (fun hs hk => (q18_at7 K a_0v1 a_1v1 b_0v2 b_1v2 c_0v3 c_1v3 d_0v4 d_1v4 lv5 x_0v6 x_1v6 x_2v6 x_3v6 x_4v6 x_5v6 hs hk)) hs hk)⟩)) hs hk)) hs hk)) hs hk)) hs hk)) hs hk)) hs hk)) hs hk)) hs hk)
def s18_at5 (tv0 : (Sl RangeRow)) (ev1 : Int) (a_0v1 : Int) (a_1v1 : Int) (fv2 : Int) (b_0v2 : Int) (b_1v2 : Int) (gv3 : Int) (c_0v3 : Int) (c_1v3 : Int) (hv4 : Int) (d_0v4 : Int) (d_1v4 : Int) (lv5 : (Sl FluxStep)) (iv5 : Int) (s_1v5 : (Sl (Sl FluxRow))) : Bool :=
  (s18_at6 ev1 a_0v1 a_1v1 fv2 b_0v2 b_1v2 gv3 c_0v3 c_1v3 hv4 d_0v4 d_1v4 lv5 iv5 ((s33 (⟨s60.Parts, s_1v5, s60.Beta, s60.Alpha⟩ : Sky) tv0 (0:Int) (100:Int) (⟨(10:Int), (25:Int)⟩ : Span)).2) (((s33 (⟨s60.Parts, s_1v5, s60.Beta, s60.Alpha⟩ : Sky) tv0 (0:Int) (100:Int) (⟨(10:Int), (25:Int)⟩ : Span)).1).Parts) (((s33 (⟨s60.Parts, s_1v5, s60.Beta, s60.Alpha⟩ : Sky) tv0 (0:Int) (100:Int) (⟨(10:Int), (25:Int)⟩ : Span)).1).Bins) (((s33 (⟨s60.Parts, s_1v5, s60.Beta, s60.Alpha⟩ : Sky) tv0 (0:Int) (100:Int) (⟨(10:Int), (25:Int)⟩ : Span)).1).Beta.Low) (((s33 (⟨s60.Parts, s_1v5, s60.Beta, s60.Alpha⟩ : Sky) tv0 (0:Int) (100:Int) (⟨(10:Int), (25:Int)⟩ : Span)).1).Beta.High) (((s33 (⟨s60.Parts, s_1v5, s60.Beta, s60.Alpha⟩ : Sky) tv0 (0:Int) (100:Int) (⟨(10:Int), (25:Int)⟩ : Span)).1).Alpha.Low) (((s33 (⟨s60.Parts, s_1v5, s60.Beta, s60.Alpha⟩ : Sky) tv0 (0:Int) (100:Int) (⟨(10:Int), (25:Int)⟩ : Span)).1).Alpha.High))
def p18_at5 (tv0 : (Sl RangeRow)) (ev1 : Int) (a_0v1 : Int) (a_1v1 : Int) (fv2 : Int) (b_0v2 : Int) (b_1v2 : Int) (gv3 : Int) (c_0v3 : Int) (c_1v3 : Int) (hv4 : Int) (d_0v4 : Int) (d_1v4 : Int) (lv5 : (Sl FluxStep)) (iv5 : Int) (s_1v5 : (Sl (Sl FluxRow))) : Bool :=
  (decide ((p33 (⟨s60.Parts, s_1v5, s60.Beta, s60.Alpha⟩ : Sky) tv0 (0:Int) (100:Int) (⟨(10:Int), (25:Int)⟩ : Span) = true)) &&
  (p18_at6 ev1 a_0v1 a_1v1 fv2 b_0v2 b_1v2 gv3 c_0v3 c_1v3 hv4 d_0v4 d_1v4 lv5 iv5 ((s33 (⟨s60.Parts, s_1v5, s60.Beta, s60.Alpha⟩ : Sky) tv0 (0:Int) (100:Int) (⟨(10:Int), (25:Int)⟩ : Span)).2) (((s33 (⟨s60.Parts, s_1v5, s60.Beta, s60.Alpha⟩ : Sky) tv0 (0:Int) (100:Int) (⟨(10:Int), (25:Int)⟩ : Span)).1).Parts) (((s33 (⟨s60.Parts, s_1v5, s60.Beta, s60.Alpha⟩ : Sky) tv0 (0:Int) (100:Int) (⟨(10:Int), (25:Int)⟩ : Span)).1).Bins) (((s33 (⟨s60.Parts, s_1v5, s60.Beta, s60.Alpha⟩ : Sky) tv0 (0:Int) (100:Int) (⟨(10:Int), (25:Int)⟩ : Span)).1).Beta.Low) (((s33 (⟨s60.Parts, s_1v5, s60.Beta, s60.Alpha⟩ : Sky) tv0 (0:Int) (100:Int) (⟨(10:Int), (25:Int)⟩ : Span)).1).Beta.High) (((s33 (⟨s60.Parts, s_1v5, s60.Beta, s60.Alpha⟩ : Sky) tv0 (0:Int) (100:Int) (⟨(10:Int), (25:Int)⟩ : Span)).1).Alpha.Low) (((s33 (⟨s60.Parts, s_1v5, s60.Beta, s60.Alpha⟩ : Sky) tv0 (0:Int) (100:Int) (⟨(10:Int), (25:Int)⟩ : Span)).1).Alpha.High)))
theorem q18_at5 (K : List PA → Prop) (tv0 : (Sl RangeRow)) (ev1 : Int) (a_0v1 : Int) (a_1v1 : Int) (fv2 : Int) (b_0v2 : Int) (b_1v2 : Int) (gv3 : Int) (c_0v3 : Int) (c_1v3 : Int) (hv4 : Int) (d_0v4 : Int) (d_1v4 : Int) (lv5 : (Sl FluxStep)) (iv5 : Int) (s_1v5 : (Sl (Sl FluxRow))) (lv5_g : Nat → List PV) (lv5_h : lv5_g = fun i => enc_69 (lv5.get i)) (s_1v5_g : Nat → List PV) (s_1v5_h : s_1v5_g = fun i => enc_32 (s_1v5.get i)) (hs : p18_at5 tv0 ev1 a_0v1 a_1v1 fv2 b_0v2 b_1v2 gv3 c_0v3 c_1v3 hv4 d_0v4 d_1v4 lv5 iv5 s_1v5 = true) (hk : K (e18 (s18_at5 tv0 ev1 a_0v1 a_1v1 fv2 b_0v2 b_1v2 gv3 c_0v3 c_1v3 hv4 d_0v4 d_1v4 lv5 iv5 s_1v5))) : f18_at5 K tv0 ev1 a_0v1 a_1v1 fv2 b_0v2 b_1v2 gv3 c_0v3 c_1v3 hv4 d_0v4 d_1v4 lv5.len lv5_g iv5 s_1v5.len s_1v5_g := by
  subst lv5_h
  subst s_1v5_h
  refine ofEq (f18_eq5 K tv0 ev1 a_0v1 a_1v1 fv2 b_0v2 b_1v2 gv3 c_0v3 c_1v3 hv4 d_0v4 d_1v4 lv5 iv5 s_1v5) ?_
  unfold p18_at5 at hs
  unfold s18_at5 at hk
  exact (andK hs fun hc hs => ⟨⟨isE, isE, hc⟩, (q18_at6 K ev1 a_0v1 a_1v1 fv2 b_0v2 b_1v2 gv3 c_0v3 c_1v3 hv4 d_0v4 d_1v4 lv5 iv5 ((s33 (⟨s60.Parts, s_1v5, s60.Beta, s60.Alpha⟩ : Sky) tv0 (0:Int) (100:Int) (⟨(10:Int), (25:Int)⟩ : Span)).2) (((s33 (⟨s60.Parts, s_1v5, s60.Beta, s60.Alpha⟩ : Sky) tv0 (0:Int) (100:Int) (⟨(10:Int), (25:Int)⟩ : Span)).1).Parts) (((s33 (⟨s60.Parts, s_1v5, s60.Beta, s60.Alpha⟩ : Sky) tv0 (0:Int) (100:Int) (⟨(10:Int), (25:Int)⟩ : Span)).1).Bins) (((s33 (⟨s60.Parts, s_1v5, s60.Beta, s60.Alpha⟩ : Sky) tv0 (0:Int) (100:Int) (⟨(10:Int), (25:Int)⟩ : Span)).1).Beta.Low) (((s33 (⟨s60.Parts, s_1v5, s60.Beta, s60.Alpha⟩ : Sky) tv0 (0:Int) (100:Int) (⟨(10:Int), (25:Int)⟩ : Span)).1).Beta.High) (((s33 (⟨s60.Parts, s_1v5, s60.Beta, s60.Alpha⟩ : Sky) tv0 (0:Int) (100:Int) (⟨(10:Int), (25:Int)⟩ : Span)).1).Alpha.Low) (((s33 (⟨s60.Parts, s_1v5, s60.Beta, s60.Alpha⟩ : Sky) tv0 (0:Int) (100:Int) (⟨(10:Int), (25:Int)⟩ : Span)).1).Alpha.High) (fun i => enc_32 (((s33 (⟨s60.Parts, s_1v5, s60.Beta, s60.Alpha⟩ : Sky) tv0 (0:Int) (100:Int) (⟨(10:Int), (25:Int)⟩ : Span)).1).Bins.get i)) rfl hs hk)⟩)
def s18_at4 (tv0 : (Sl RangeRow)) (ev1 : Int) (a_0v1 : Int) (a_1v1 : Int) (fv2 : Int) (b_0v2 : Int) (b_1v2 : Int) (gv3 : Int) (c_0v3 : Int) (c_1v3 : Int) (hv4 : Int) (s_1v4 : (Sl (Sl FluxRow))) (d_0v4 : Int) (d_1v4 : Int) : Bool :=
  (s18_at5 tv0 ev1 a_0v1 a_1v1 fv2 b_0v2 b_1v2 gv3 c_0v3 c_1v3 hv4 d_0v4 d_1v4 ((s26 (⟨s60.Parts, s_1v4, s60.Beta, s60.Alpha⟩ : Sky) tv0 (0:Int) (⟨1, fun _ => (s34 (1:Int))⟩ : (Sl Spell))).1) ((s26 (⟨s60.Parts, s_1v4, s60.Beta, s60.Alpha⟩ : Sky) tv0 (0:Int) (⟨1, fun _ => (s34 (1:Int))⟩ : (Sl Spell))).2) s_1v4)
def p18_at4 (tv0 : (Sl RangeRow)) (ev1 : Int) (a_0v1 : Int) (a_1v1 : Int) (fv2 : Int) (b_0v2 : Int) (b_1v2 : Int) (gv3 : Int) (c_0v3 : Int) (c_1v3 : Int) (hv4 : Int) (s_1v4 : (Sl (Sl FluxRow))) (d_0v4 : Int) (d_1v4 : Int) : Bool :=
  (decide ((p26 (⟨s60.Parts, s_1v4, s60.Beta, s60.Alpha⟩ : Sky) tv0 (0:Int) (⟨1, fun _ => (s34 (1:Int))⟩ : (Sl Spell)) = true)) &&
  (p18_at5 tv0 ev1 a_0v1 a_1v1 fv2 b_0v2 b_1v2 gv3 c_0v3 c_1v3 hv4 d_0v4 d_1v4 ((s26 (⟨s60.Parts, s_1v4, s60.Beta, s60.Alpha⟩ : Sky) tv0 (0:Int) (⟨1, fun _ => (s34 (1:Int))⟩ : (Sl Spell))).1) ((s26 (⟨s60.Parts, s_1v4, s60.Beta, s60.Alpha⟩ : Sky) tv0 (0:Int) (⟨1, fun _ => (s34 (1:Int))⟩ : (Sl Spell))).2) s_1v4))
theorem q18_at4 (K : List PA → Prop) (tv0 : (Sl RangeRow)) (ev1 : Int) (a_0v1 : Int) (a_1v1 : Int) (fv2 : Int) (b_0v2 : Int) (b_1v2 : Int) (gv3 : Int) (c_0v3 : Int) (c_1v3 : Int) (hv4 : Int) (s_1v4 : (Sl (Sl FluxRow))) (d_0v4 : Int) (d_1v4 : Int) (s_1v4_g : Nat → List PV) (s_1v4_h : s_1v4_g = fun i => enc_32 (s_1v4.get i)) (hs : p18_at4 tv0 ev1 a_0v1 a_1v1 fv2 b_0v2 b_1v2 gv3 c_0v3 c_1v3 hv4 s_1v4 d_0v4 d_1v4 = true) (hk : K (e18 (s18_at4 tv0 ev1 a_0v1 a_1v1 fv2 b_0v2 b_1v2 gv3 c_0v3 c_1v3 hv4 s_1v4 d_0v4 d_1v4))) : f18_at4 K tv0 ev1 a_0v1 a_1v1 fv2 b_0v2 b_1v2 gv3 c_0v3 c_1v3 hv4 s_1v4.len s_1v4_g d_0v4 d_1v4 := by
  subst s_1v4_h
  refine ofEq (f18_eq4 K tv0 ev1 a_0v1 a_1v1 fv2 b_0v2 b_1v2 gv3 c_0v3 c_1v3 hv4 s_1v4 d_0v4 d_1v4) ?_
  unfold p18_at4 at hs
  unfold s18_at4 at hk
  exact (andK hs fun hc hs => ⟨⟨isE, isE, isE_c, hc⟩, (q18_at5 K tv0 ev1 a_0v1 a_1v1 fv2 b_0v2 b_1v2 gv3 c_0v3 c_1v3 hv4 d_0v4 d_1v4 ((s26 (⟨s60.Parts, s_1v4, s60.Beta, s60.Alpha⟩ : Sky) tv0 (0:Int) (⟨1, fun _ => (s34 (1:Int))⟩ : (Sl Spell))).1) ((s26 (⟨s60.Parts, s_1v4, s60.Beta, s60.Alpha⟩ : Sky) tv0 (0:Int) (⟨1, fun _ => (s34 (1:Int))⟩ : (Sl Spell))).2) s_1v4 (fun i => enc_69 (((s26 (⟨s60.Parts, s_1v4, s60.Beta, s60.Alpha⟩ : Sky) tv0 (0:Int) (⟨1, fun _ => (s34 (1:Int))⟩ : (Sl Spell))).1).get i)) rfl (fun i => enc_32 (s_1v4.get i)) rfl hs hk)⟩)
def s18_at3 (tv0 : (Sl RangeRow)) (ev1 : Int) (a_0v1 : Int) (a_1v1 : Int) (fv2 : Int) (b_0v2 : Int) (b_1v2 : Int) (gv3 : Int) (s_1v3 : (Sl (Sl FluxRow))) (c_0v3 : Int) (c_1v3 : Int) : Bool :=
  (s18_at4 tv0 ev1 a_0v1 a_1v1 fv2 b_0v2 b_1v2 gv3 c_0v3 c_1v3 ((s25 (⟨s60.Parts, s_1v3, s60.Beta, s60.Alpha⟩ : Sky) tv0 (0:Int) (⟨(261:Int), (270:Int)⟩ : Span) (⟨1, fun _ => (s34 (1:Int))⟩ : (Sl Spell))).2) s_1v3 (((s25 (⟨s60.Parts, s_1v3, s60.Beta, s60.Alpha⟩ : Sky) tv0 (0:Int) (⟨(261:Int), (270:Int)⟩ : Span) (⟨1, fun _ => (s34 (1:Int))⟩ : (Sl Spell))).1).Low) (((s25 (⟨s60.Parts, s_1v3, s60.Beta, s60.Alpha⟩ : Sky) tv0 (0:Int) (⟨(261:Int), (270:Int)⟩ : Span) (⟨1, fun _ => (s34 (1:Int))⟩ : (Sl Spell))).1).High))
def p18_at3 (tv0 : (Sl RangeRow)) (ev1 : Int) (a_0v1 : Int) (a_1v1 : Int) (fv2 : Int) (b_0v2 : Int) (b_1v2 : Int) (gv3 : Int) (s_1v3 : (Sl (Sl FluxRow))) (c_0v3 : Int) (c_1v3 : Int) : Bool :=
  (decide ((p25 (⟨s60.Parts, s_1v3, s60.Beta, s60.Alpha⟩ : Sky) tv0 (0:Int) (⟨(261:Int), (270:Int)⟩ : Span) (⟨1, fun _ => (s34 (1:Int))⟩ : (Sl Spell)) = true)) &&
  (p18_at4 tv0 ev1 a_0v1 a_1v1 fv2 b_0v2 b_1v2 gv3 c_0v3 c_1v3 ((s25 (⟨s60.Parts, s_1v3, s60.Beta, s60.Alpha⟩ : Sky) tv0 (0:Int) (⟨(261:Int), (270:Int)⟩ : Span) (⟨1, fun _ => (s34 (1:Int))⟩ : (Sl Spell))).2) s_1v3 (((s25 (⟨s60.Parts, s_1v3, s60.Beta, s60.Alpha⟩ : Sky) tv0 (0:Int) (⟨(261:Int), (270:Int)⟩ : Span) (⟨1, fun _ => (s34 (1:Int))⟩ : (Sl Spell))).1).Low) (((s25 (⟨s60.Parts, s_1v3, s60.Beta, s60.Alpha⟩ : Sky) tv0 (0:Int) (⟨(261:Int), (270:Int)⟩ : Span) (⟨1, fun _ => (s34 (1:Int))⟩ : (Sl Spell))).1).High)))
theorem q18_at3 (K : List PA → Prop) (tv0 : (Sl RangeRow)) (ev1 : Int) (a_0v1 : Int) (a_1v1 : Int) (fv2 : Int) (b_0v2 : Int) (b_1v2 : Int) (gv3 : Int) (s_1v3 : (Sl (Sl FluxRow))) (c_0v3 : Int) (c_1v3 : Int) (s_1v3_g : Nat → List PV) (s_1v3_h : s_1v3_g = fun i => enc_32 (s_1v3.get i)) (hs : p18_at3 tv0 ev1 a_0v1 a_1v1 fv2 b_0v2 b_1v2 gv3 s_1v3 c_0v3 c_1v3 = true) (hk : K (e18 (s18_at3 tv0 ev1 a_0v1 a_1v1 fv2 b_0v2 b_1v2 gv3 s_1v3 c_0v3 c_1v3))) : f18_at3 K tv0 ev1 a_0v1 a_1v1 fv2 b_0v2 b_1v2 gv3 s_1v3.len s_1v3_g c_0v3 c_1v3 := by
  subst s_1v3_h
  refine ofEq (f18_eq3 K tv0 ev1 a_0v1 a_1v1 fv2 b_0v2 b_1v2 gv3 s_1v3 c_0v3 c_1v3) ?_
  unfold p18_at3 at hs
  unfold s18_at3 at hk
  exact (andK hs fun hc hs => ⟨⟨isE, isE, isE_c, hc⟩, (q18_at4 K tv0 ev1 a_0v1 a_1v1 fv2 b_0v2 b_1v2 gv3 c_0v3 c_1v3 ((s25 (⟨s60.Parts, s_1v3, s60.Beta, s60.Alpha⟩ : Sky) tv0 (0:Int) (⟨(261:Int), (270:Int)⟩ : Span) (⟨1, fun _ => (s34 (1:Int))⟩ : (Sl Spell))).2) s_1v3 (((s25 (⟨s60.Parts, s_1v3, s60.Beta, s60.Alpha⟩ : Sky) tv0 (0:Int) (⟨(261:Int), (270:Int)⟩ : Span) (⟨1, fun _ => (s34 (1:Int))⟩ : (Sl Spell))).1).Low) (((s25 (⟨s60.Parts, s_1v3, s60.Beta, s60.Alpha⟩ : Sky) tv0 (0:Int) (⟨(261:Int), (270:Int)⟩ : Span) (⟨1, fun _ => (s34 (1:Int))⟩ : (Sl Spell))).1).High) (fun i => enc_32 (s_1v3.get i)) rfl hs hk)⟩)
def s18_at2 (tv0 : (Sl RangeRow)) (ev1 : Int) (a_0v1 : Int) (a_1v1 : Int) (fv2 : Int) (s_1v2 : (Sl (Sl FluxRow))) (b_0v2 : Int) (b_1v2 : Int) : Bool :=
  (s18_at3 tv0 ev1 a_0v1 a_1v1 fv2 b_0v2 b_1v2 ((s23 (⟨s60.Parts, s_1v2, s60.Beta, s60.Alpha⟩ : Sky) tv0 (0:Int) (100:Int) (⟨2, decF_56 (getL [(enc_56 (s34 (3:Int))), (enc_56 (⟨(1:Int), (⟨(⟨(-10:Int), (20:Int)⟩ : Span), (⟨(0:Int), (5:Int)⟩ : Span)⟩ : Weather)⟩ : Spell))])⟩ : (Sl Spell))).2) s_1v2 (((s23 (⟨s60.Parts, s_1v2, s60.Beta, s60.Alpha⟩ : Sky) tv0 (0:Int) (100:Int) (⟨2, decF_56 (getL [(enc_56 (s34 (3:Int))), (enc_56 (⟨(1:Int), (⟨(⟨(-10:Int), (20:Int)⟩ : Span), (⟨(0:Int), (5:Int)⟩ : Span)⟩ : Weather)⟩ : Spell))])⟩ : (Sl Spell))).1).Low) (((s23 (⟨s60.Parts, s_1v2, s60.Beta, s60.Alpha⟩ : Sky) tv0 (0:Int) (100:Int) (⟨2, decF_56 (getL [(enc_56 (s34 (3:Int))), (enc_56 (⟨(1:Int), (⟨(⟨(-10:Int), (20:Int)⟩ : Span), (⟨(0:Int), (5:Int)⟩ : Span)⟩ : Weather)⟩ : Spell))])⟩ : (Sl Spell))).1).High))
def p18_at2 (tv0 : (Sl RangeRow)) (ev1 : Int) (a_0v1 : Int) (a_1v1 : Int) (fv2 : Int) (s_1v2 : (Sl (Sl FluxRow))) (b_0v2 : Int) (b_1v2 : Int) : Bool :=
  (decide ((p23 (⟨s60.Parts, s_1v2, s60.Beta, s60.Alpha⟩ : Sky) tv0 (0:Int) (100:Int) (⟨2, decF_56 (getL [(enc_56 (s34 (3:Int))), (enc_56 (⟨(1:Int), (⟨(⟨(-10:Int), (20:Int)⟩ : Span), (⟨(0:Int), (5:Int)⟩ : Span)⟩ : Weather)⟩ : Spell))])⟩ : (Sl Spell)) = true)) &&
  (p18_at3 tv0 ev1 a_0v1 a_1v1 fv2 b_0v2 b_1v2 ((s23 (⟨s60.Parts, s_1v2, s60.Beta, s60.Alpha⟩ : Sky) tv0 (0:Int) (100:Int) (⟨2, decF_56 (getL [(enc_56 (s34 (3:Int))), (enc_56 (⟨(1:Int), (⟨(⟨(-10:Int), (20:Int)⟩ : Span), (⟨(0:Int), (5:Int)⟩ : Span)⟩ : Weather)⟩ : Spell))])⟩ : (Sl Spell))).2) s_1v2 (((s23 (⟨s60.Parts, s_1v2, s60.Beta, s60.Alpha⟩ : Sky) tv0 (0:Int) (100:Int) (⟨2, decF_56 (getL [(enc_56 (s34 (3:Int))), (enc_56 (⟨(1:Int), (⟨(⟨(-10:Int), (20:Int)⟩ : Span), (⟨(0:Int), (5:Int)⟩ : Span)⟩ : Weather)⟩ : Spell))])⟩ : (Sl Spell))).1).Low) (((s23 (⟨s60.Parts, s_1v2, s60.Beta, s60.Alpha⟩ : Sky) tv0 (0:Int) (100:Int) (⟨2, decF_56 (getL [(enc_56 (s34 (3:Int))), (enc_56 (⟨(1:Int), (⟨(⟨(-10:Int), (20:Int)⟩ : Span), (⟨(0:Int), (5:Int)⟩ : Span)⟩ : Weather)⟩ : Spell))])⟩ : (Sl Spell))).1).High)))
theorem q18_at2 (K : List PA → Prop) (tv0 : (Sl RangeRow)) (ev1 : Int) (a_0v1 : Int) (a_1v1 : Int) (fv2 : Int) (s_1v2 : (Sl (Sl FluxRow))) (b_0v2 : Int) (b_1v2 : Int) (s_1v2_g : Nat → List PV) (s_1v2_h : s_1v2_g = fun i => enc_32 (s_1v2.get i)) (hs : p18_at2 tv0 ev1 a_0v1 a_1v1 fv2 s_1v2 b_0v2 b_1v2 = true) (hk : K (e18 (s18_at2 tv0 ev1 a_0v1 a_1v1 fv2 s_1v2 b_0v2 b_1v2))) : f18_at2 K tv0 ev1 a_0v1 a_1v1 fv2 s_1v2.len s_1v2_g b_0v2 b_1v2 := by
  subst s_1v2_h
  refine ofEq (f18_eq2 K tv0 ev1 a_0v1 a_1v1 fv2 s_1v2 b_0v2 b_1v2) ?_
  unfold p18_at2 at hs
  unfold s18_at2 at hk
  exact (andK hs fun hc hs => ⟨⟨isE, isE, (isE_list []), hc⟩, (q18_at3 K tv0 ev1 a_0v1 a_1v1 fv2 b_0v2 b_1v2 ((s23 (⟨s60.Parts, s_1v2, s60.Beta, s60.Alpha⟩ : Sky) tv0 (0:Int) (100:Int) (⟨2, decF_56 (getL [(enc_56 (s34 (3:Int))), (enc_56 (⟨(1:Int), (⟨(⟨(-10:Int), (20:Int)⟩ : Span), (⟨(0:Int), (5:Int)⟩ : Span)⟩ : Weather)⟩ : Spell))])⟩ : (Sl Spell))).2) s_1v2 (((s23 (⟨s60.Parts, s_1v2, s60.Beta, s60.Alpha⟩ : Sky) tv0 (0:Int) (100:Int) (⟨2, decF_56 (getL [(enc_56 (s34 (3:Int))), (enc_56 (⟨(1:Int), (⟨(⟨(-10:Int), (20:Int)⟩ : Span), (⟨(0:Int), (5:Int)⟩ : Span)⟩ : Weather)⟩ : Spell))])⟩ : (Sl Spell))).1).Low) (((s23 (⟨s60.Parts, s_1v2, s60.Beta, s60.Alpha⟩ : Sky) tv0 (0:Int) (100:Int) (⟨2, decF_56 (getL [(enc_56 (s34 (3:Int))), (enc_56 (⟨(1:Int), (⟨(⟨(-10:Int), (20:Int)⟩ : Span), (⟨(0:Int), (5:Int)⟩ : Span)⟩ : Weather)⟩ : Spell))])⟩ : (Sl Spell))).1).High) (fun i => enc_32 (s_1v2.get i)) rfl hs hk)⟩)
def s18_at1 (tv0 : (Sl RangeRow)) (ev1 : Int) (s_1v1 : (Sl (Sl FluxRow))) (a_0v1 : Int) (a_1v1 : Int) : Bool :=
  (s18_at2 tv0 ev1 a_0v1 a_1v1 ((s20 (⟨s60.Parts, s_1v1, s60.Beta, s60.Alpha⟩ : Sky) tv0 (0:Int) (280:Int)).2) s_1v1 (((s20 (⟨s60.Parts, s_1v1, s60.Beta, s60.Alpha⟩ : Sky) tv0 (0:Int) (280:Int)).1).Low) (((s20 (⟨s60.Parts, s_1v1, s60.Beta, s60.Alpha⟩ : Sky) tv0 (0:Int) (280:Int)).1).High))
def p18_at1 (tv0 : (Sl RangeRow)) (ev1 : Int) (s_1v1 : (Sl (Sl FluxRow))) (a_0v1 : Int) (a_1v1 : Int) : Bool :=
  (decide ((p20 (⟨s60.Parts, s_1v1, s60.Beta, s60.Alpha⟩ : Sky) tv0 (0:Int) (280:Int) = true)) &&
  (p18_at2 tv0 ev1 a_0v1 a_1v1 ((s20 (⟨s60.Parts, s_1v1, s60.Beta, s60.Alpha⟩ : Sky) tv0 (0:Int) (280:Int)).2) s_1v1 (((s20 (⟨s60.Parts, s_1v1, s60.Beta, s60.Alpha⟩ : Sky) tv0 (0:Int) (280:Int)).1).Low) (((s20 (⟨s60.Parts, s_1v1, s60.Beta, s60.Alpha⟩ : Sky) tv0 (0:Int) (280:Int)).1).High)))
theorem q18_at1 (K : List PA → Prop) (tv0 : (Sl RangeRow)) (ev1 : Int) (s_1v1 : (Sl (Sl FluxRow))) (a_0v1 : Int) (a_1v1 : Int) (s_1v1_g : Nat → List PV) (s_1v1_h : s_1v1_g = fun i => enc_32 (s_1v1.get i)) (hs : p18_at1 tv0 ev1 s_1v1 a_0v1 a_1v1 = true) (hk : K (e18 (s18_at1 tv0 ev1 s_1v1 a_0v1 a_1v1))) : f18_at1 K tv0 ev1 s_1v1.len s_1v1_g a_0v1 a_1v1 := by
  subst s_1v1_h
  refine ofEq (f18_eq1 K tv0 ev1 s_1v1 a_0v1 a_1v1) ?_
  unfold p18_at1 at hs
  unfold s18_at1 at hk
  exact (andK hs fun hc hs => ⟨⟨isE, isE, hc⟩, (q18_at2 K tv0 ev1 a_0v1 a_1v1 ((s20 (⟨s60.Parts, s_1v1, s60.Beta, s60.Alpha⟩ : Sky) tv0 (0:Int) (280:Int)).2) s_1v1 (((s20 (⟨s60.Parts, s_1v1, s60.Beta, s60.Alpha⟩ : Sky) tv0 (0:Int) (280:Int)).1).Low) (((s20 (⟨s60.Parts, s_1v1, s60.Beta, s60.Alpha⟩ : Sky) tv0 (0:Int) (280:Int)).1).High) (fun i => enc_32 (s_1v1.get i)) rfl hs hk)⟩)
def s18_at0 (tv0 : (Sl RangeRow)) (s_1v0 : (Sl (Sl FluxRow))) : Bool :=
  (s18_at1 tv0 ((s19 tv0 (100:Int)).2) s_1v0 (((s19 tv0 (100:Int)).1).Low) (((s19 tv0 (100:Int)).1).High))
def p18_at0 (tv0 : (Sl RangeRow)) (s_1v0 : (Sl (Sl FluxRow))) : Bool :=
  (decide ((p19 tv0 (100:Int) = true)) &&
  (p18_at1 tv0 ((s19 tv0 (100:Int)).2) s_1v0 (((s19 tv0 (100:Int)).1).Low) (((s19 tv0 (100:Int)).1).High)))
theorem q18_at0 (K : List PA → Prop) (tv0 : (Sl RangeRow)) (s_1v0 : (Sl (Sl FluxRow))) (tv0_g : Nat → List PV) (tv0_h : tv0_g = fun i => enc_42 (tv0.get i)) (s_1v0_g : Nat → List PV) (s_1v0_h : s_1v0_g = fun i => enc_32 (s_1v0.get i)) (hs : p18_at0 tv0 s_1v0 = true) (hk : K (e18 (s18_at0 tv0 s_1v0))) : f18_at0 K tv0.len tv0_g s_1v0.len s_1v0_g := by
  subst tv0_h
  subst s_1v0_h
  refine ofEq (f18_eq0 K tv0 s_1v0) ?_
  unfold p18_at0 at hs
  unfold s18_at0 at hk
  exact (andK hs fun hc hs => ⟨⟨isE, hc⟩, (q18_at1 K tv0 ((s19 tv0 (100:Int)).2) s_1v0 (((s19 tv0 (100:Int)).1).Low) (((s19 tv0 (100:Int)).1).High) (fun i => enc_32 (s_1v0.get i)) rfl hs hk)⟩)
def s18 : Bool :=
  (s18_at0 s61 s60.Bins)
def p18 : Bool :=
  (p18_at0 s61 s60.Bins)
theorem q18 (K : List PA → Prop) (hs : p18 = true) (hk : K (e18 (s18))) : vcFun Try.prog G18 ann18 18 [] K := by
  refine ofEq (f18_top K) ?_
  unfold p18 at hs
  unfold s18 at hk
  exact (q18_at0 K s61 s60.Bins (fun i => enc_42 (s61.get i)) rfl (fun i => enc_32 (s60.Bins.get i)) rfl hs hk)
theorem p18_ok : p18 = true := by kernel_rfl
theorem s18_ok : s18 = true := by kernel_rfl
def ctr18 : List PA → COut
  | [] => .tot [.one (.bool true)]
  | _ => .no
theorem call18 : Callable Try.prog 18 := ⟨_, rfl, rfl, by kernel_rfl⟩
theorem ok18 : Ok Try.prog 18 ctr18 := ok_tab okT18 call18 fun args K h => by
  unfold ctr18 at h
  split at h
  · refine ⟨fun _ _ => [], fun _ => false, ann18, q18 K p18_ok ?_⟩
    show K [.one (.bool s18)]
    rw [s18_ok]; exact h
  · exact h.elim
abbrev T15 : Tabs := Tabs.nil
theorem okT15 : TabsOk Try.prog T15 := TabsOk.nil
abbrev G15 : Ctrs := csm T15 (fun _ _ => []) (fun _ => false)
def ann15 : Ann := ⟨29, [(0, ⟨[1, 2], [2], [], [], []⟩), (1, ⟨[1, 2, 5], [2], [], [], []⟩), (2, ⟨[1, 2, 5, 10], [2], [], [], []⟩), (3, ⟨[1, 2, 5], [2], [], [], []⟩), (4, ⟨[1, 2, 5, 19], [2], [], [], []⟩), (5, ⟨[4], [], [], [], []⟩), (6, ⟨[4], [], [], [], []⟩)],
  [(2, ⟨[1, 2, 5], [2], [], [], []⟩)],
  [],
  [], []⟩
def f15_g0 (s : Sky) (t : (Sl RangeRow)) (iv0 : Int) : St := ⟨[(1, .one (.c (.p (.sl t.len 3 (fun i => enc_42 (t.get i)))))), (2, .one (.c (.ptr 2 0))), (5, .one (.c (.p (.int .i64 iv0))))], [(2, .box 26 [.p (.int .i64 s.Parts), .p (.sl s.Bins.len 1 (fun i => enc_32 (s.Bins.get i))), .p (.int .i64 s.Beta.Low), .p (.int .i64 s.Beta.High), .p (.int .i64 s.Alpha.Low), .p (.int .i64 s.Alpha.High)])], []⟩
def f15_at0 (K : List PA → Prop) (s : Sky) (t : (Sl RangeRow)) (iv0 : Int) : Prop := vc Try.prog G15 ann15 (cdF Try.f15 [1, 0, 1, 0]) (blockK 0 (sqK Try.prog G15 ann15 (cdF Try.f15 [1, 1]) (bodyK Try.prog Try.f15 K))) (f15_g0 s t iv0)
theorem f15_top (s : Sky) (t : (Sl RangeRow)) (K : List PA → Prop) :
  vcFun Try.prog G15 ann15 15 [.agg [.int .i64 s.Parts, .sl s.Bins.len 1 (fun i => enc_32 (s.Bins.get i)), .int .i64 s.Beta.Low, .int .i64 s.Beta.High, .int .i64 s.Alpha.Low, .int .i64 s.Alpha.High], .one (.sl t.len 3 (fun i => enc_42 (t.get i)))] K =
  (f15_at0 K s t (0:Int)) := by kernel_rfl
def f15_step0 (K : List PA → Prop) (X0 : St → Prop) (s : Sky) (t : (Sl RangeRow)) (iv0 : Int) : Prop :=
  (condP (decide (iv0 < (s.Bins.len : Int)))
   (((0 ≤ iv0 ∧ iv0 < (s.Bins.len : Int))) ∧
   (condP (decide (((s.Bins.get iv0.toNat).len : Int) > (50:Int)))
    (K [.one (.bool false)])
    (X0 (f15_g0 s t (w64 (iv0 + (1:Int)))))))
   (condP (decide ((s.Bins.len : Int) ≤ (25:Int)))
    (K [.one (.bool (decide ((t.len : Int) ≤ (50:Int))))])
    (K [.one (.bool false)])))
theorem f15_stepeq0 (K : List PA → Prop) (X0 : St → Prop) (s : Sky) (t : (Sl RangeRow)) (iv0 : Int) :
  vc Try.prog G15 ann15 (cd (cdF Try.f15 [1, 0, 1, 0]) [0]) (loopK Try.prog ann15 2 X0 (blockK 0 (sqK Try.prog G15 ann15 (cdF Try.f15 [1, 1]) (bodyK Try.prog Try.f15 K)))) (f15_g0 s t iv0) =
  f15_step0 K X0 s t iv0 := by kernel_rfl
theorem f15_loop0 (K : List PA → Prop) (s : Sky) (t : (Sl RangeRow)) (iv0 : Int)
  (h : ∀ X0 : St → Prop, (∀ (iv0 : Int), f15_step0 K X0 s t iv0 → X0 (f15_g0 s t iv0)) → X0 (f15_g0 s t iv0)) :
  f15_at0 K s t iv0 := by
  have e : f15_at0 K s t iv0 = (∀ X : St → Prop, (∀ s, vc Try.prog G15 ann15 (cd (cdF Try.f15 [1, 0, 1, 0]) [0]) (loopK Try.prog ann15 2 X (blockK 0 (sqK Try.prog G15 ann15 (cdF Try.f15 [1, 1]) (bodyK Try.prog Try.f15 K)))) s → X s) → X (f15_g0 s t iv0)) := by kernel_rfl
  refine ofEq e ?_
  intro X hX
  refine h X ?_
  intro iv0 hs
  refine hX _ ?_
  have e2 := f15_stepeq0 K X s t iv0
  rw [e2]
  exact hs
abbrev e15 (r : Bool) : List PA := [.one (.bool r)]
attribute [irreducible] f15_at0
def s15_st0 (s : Sky) (t : (Sl RangeRow)) (S0 : Int → Bool) (iv0 : Int) : Bool :=
  (cond (decide (iv0 < (s.Bins.len : Int)))
   (cond (decide (((s.Bins.get iv0.toNat).len : Int) > (50:Int)))
    false
    (S0 (w64 (iv0 + (1:Int)))))
   (cond (decide ((s.Bins.len : Int) ≤ (25:Int)))
    (decide ((t.len : Int) ≤ (50:Int)))
    false))
def p15_st0 (s : Sky) (t : (Sl RangeRow)) (P0 : Int → Bool) (iv0 : Int) : Bool :=
  (cond (decide (iv0 < (s.Bins.len : Int)))
   (decide ((0 ≤ iv0 ∧ iv0 < (s.Bins.len : Int))) &&
   (cond (decide (((s.Bins.get iv0.toNat).len : Int) > (50:Int)))
    true
    (P0 (w64 (iv0 + (1:Int))))))
   true)
def s15_lp0 (s : Sky) (t : (Sl RangeRow)) : Nat → Int → Bool
  | 0 => fun _ => default
  | k + 1 => s15_st0 s t (s15_lp0 s t k)
def p15_lp0 (s : Sky) (t : (Sl RangeRow)) : Nat → Int → Bool
  | 0 => fun _ => false
  | k + 1 => p15_st0 s t (p15_lp0 s t k)
def s15_at0 (s : Sky) (t : (Sl RangeRow)) (iv0 : Int) : Bool := s15_lp0 s t Fuel iv0
def p15_at0 (s : Sky) (t : (Sl RangeRow)) (iv0 : Int) : Bool := p15_lp0 s t Fuel iv0
theorem q15_at0 (K : List PA → Prop) (s : Sky) (t : (Sl RangeRow)) (iv0 : Int) (hs : p15_at0 s t iv0 = true) (hk : K (e15 (s15_at0 s t iv0))) : f15_at0 K s t iv0 := by
  refine f15_loop0 K s t iv0 ?_
  intro X0 hstep
  have key : ∀ (k : Nat) (iv0 : Int), p15_lp0 s t k iv0 = true → K (e15 (s15_lp0 s t k iv0)) → X0 (f15_g0 s t iv0) := by
    intro k
    induction k with
    | zero => intro iv0 hs; exact absurd hs Bool.false_ne_true
    | succ k ih =>
      intro iv0 hs hk
      refine hstep iv0 ?_
      have hs : p15_st0 s t (p15_lp0 s t k) iv0 = true := hs
      have hk : K (e15 (s15_st0 s t (s15_lp0 s t k) iv0)) := hk
      unfold p15_st0 at hs
      unfold s15_st0 at hk
      generalize s15_lp0 s t k = S0 at hk ih
      generalize p15_lp0 s t k = P0 at hs ih
      have hX0 := ih
      exact (condB_go (K := fun r => K (e15 r))
       (fun hs hk => (andK hs fun hc hs => ⟨hc, (condB_go (K := fun r => K (e15 r))
        (fun hs hk => hk)
        (fun hs hk => (hX0 (w64 (iv0 + (1:Int))) hs hk)) hs hk)⟩))
       (fun hs hk => (condP_gt (K := fun r => K (e15 r))
        (fun hk => hk)
        (fun hk => hk) hk)) hs hk)
  exact key _ iv0 hs hk
def s15 (s : Sky) (t : (Sl RangeRow)) : Bool :=
  (s15_at0 s t (0:Int))
def p15 (s : Sky) (t : (Sl RangeRow)) : Bool :=
  (p15_at0 s t (0:Int))
theorem q15 (s : Sky) (t : (Sl RangeRow)) (K : List PA → Prop) (hs : p15 s t = true) (hk : K (e15 (s15 s t))) : vcFun Try.prog G15 ann15 15 [.agg [.int .i64 s.Parts, .sl s.Bins.len 1 (fun i => enc_32 (s.Bins.get i)), .int .i64 s.Beta.Low, .int .i64 s.Beta.High, .int .i64 s.Alpha.Low, .int .i64 s.Alpha.High], .one (.sl t.len 3 (fun i => enc_42 (t.get i)))] K := by
  refine ofEq (f15_top s t K) ?_
  unfold p15 at hs
  unfold s15 at hk
  exact (q15_at0 K s t (0:Int) hs hk)
def ctr15 : List PA → COut
  | [.agg [.int .i64 a0_Parts, .sl a0_Bins_n a0_Bins_s a0_Bins_g, .int .i64 a0_Beta_Low, .int .i64 a0_Beta_High, .int .i64 a0_Alpha_Low, .int .i64 a0_Alpha_High], .one (.sl a1_n a1_s a1_g)] => .det (IsE enc_32 1 a0_Bins_s a0_Bins_g ∧ IsE enc_42 3 a1_s a1_g ∧ p15 (⟨a0_Parts, (⟨a0_Bins_n, decF_32 a0_Bins_g⟩ : (Sl (Sl FluxRow))), (⟨a0_Beta_Low, a0_Beta_High⟩ : Span), (⟨a0_Alpha_Low, a0_Alpha_High⟩ : Span)⟩ : Sky) (⟨a1_n, decF_42 a1_g⟩ : (Sl RangeRow)) = true) [.one (.bool (s15 (⟨a0_Parts, (⟨a0_Bins_n, decF_32 a0_Bins_g⟩ : (Sl (Sl FluxRow))), (⟨a0_Beta_Low, a0_Beta_High⟩ : Span), (⟨a0_Alpha_Low, a0_Alpha_High⟩ : Span)⟩ : Sky) (⟨a1_n, decF_42 a1_g⟩ : (Sl RangeRow))))]
  | _ => .no
theorem call15 : Callable Try.prog 15 := ⟨_, rfl, rfl, by kernel_rfl⟩
theorem ok15 : Ok Try.prog 15 ctr15 := ok_tab okT15 call15 fun args K h => by
  unfold ctr15 at h
  split at h
  · rename_i a0_Parts a0_Bins_n a0_Bins_s a0_Bins_g a0_Beta_Low a0_Beta_High a0_Alpha_Low a0_Alpha_High a1_n a1_s a1_g
    obtain ⟨⟨⟨rfl, a0_Bins_f, rfl⟩, ⟨rfl, a1_f, rfl⟩, hs⟩, hk⟩ := h
    try rw [decF_enc_32 a0_Bins_f] at hs
    try rw [decF_enc_32 a0_Bins_f] at hk
    try rw [decF_enc_42 a1_f] at hs
    try rw [decF_enc_42 a1_f] at hk
    exact ⟨(fun _ _ => []), (fun _ => false), ann15, q15 (⟨a0_Parts, (⟨a0_Bins_n, a0_Bins_f⟩ : (Sl (Sl FluxRow))), (⟨a0_Beta_Low, a0_Beta_High⟩ : Span), (⟨a0_Alpha_Low, a0_Alpha_High⟩ : Span)⟩ : Sky) (⟨a1_n, a1_f⟩ : (Sl RangeRow)) K hs hk⟩
  · exact h.elim
abbrev T29 : Tabs := Tabs.nil
theorem okT29 : TabsOk Try.prog T29 := TabsOk.nil
abbrev G29 : Ctrs := csm T29 (fun _ _ => []) (fun _ => false)
def ann29 : Ann := ⟨24, [(0, ⟨[1, 2, 3], [3], [], [], []⟩), (1, ⟨[6], [], [], [], []⟩)],
  [],
  [],
  [], []⟩
theorem f29_top (s : Span) (low : Int) (high : Int) (K : List PA → Prop) :
  vcFun Try.prog G29 ann29 29 [.agg [.int .i64 s.Low, .int .i64 s.High], .one (.int .i64 low), .one (.int .i64 high)] K =
  (condP (decide (s.Low ≥ low))
   (condP (decide (s.Low ≤ s.High))
    (K [.one (.bool (decide (s.High ≤ high)))])
    (K [.one (.bool false)]))
   (K [.one (.bool false)])) := by kernel_rfl
abbrev e29 (r : Bool) : List PA := [.one (.bool r)]
def s29 (s : Span) (low : Int) (high : Int) : Bool :=
  (cond (decide (s.Low ≥ low))
   (cond (decide (s.Low ≤ s.High))
    (decide (s.High ≤ high))
    false)
   false)
theorem q29 (s : Span) (low : Int) (high : Int) (K : List PA → Prop) (hk : K (e29 (s29 s low high))) : vcFun Try.prog G29 ann29 29 [.agg [.int .i64 s.Low, .int .i64 s.High], .one (.int .i64 low), .one (.int .i64 high)] K := by
  refine ofEq (f29_top s low high K) ?_
  unfold s29 at hk
  exact (condP_gt (K := fun r => K (e29 r))
   (fun hk => (condP_gt (K := fun r => K (e29 r))
    (fun hk => hk)
    (fun hk => hk) hk))
   (fun hk => hk) hk)
def ctr29 : List PA → COut
  | [.agg [.int .i64 a0_Low, .int .i64 a0_High], .one (.int .i64 a1), .one (.int .i64 a2)] => .tot [.one (.bool (s29 (⟨a0_Low, a0_High⟩ : Span) a1 a2))]
  | _ => .no
theorem call29 : Callable Try.prog 29 := ⟨_, rfl, rfl, by kernel_rfl⟩
theorem ok29 : Ok Try.prog 29 ctr29 := ok_tab okT29 call29 fun args K h => by
  unfold ctr29 at h
  split at h
  · rename_i a0_Low a0_High a1 a2
    have hk := h
    exact ⟨(fun _ _ => []), (fun _ => false), ann29, q29 (⟨a0_Low, a0_High⟩ : Span) a1 a2 K hk⟩
  · exact h.elim
abbrev T58 : Tabs := Tabs.nil
theorem okT58 : TabsOk Try.prog T58 := TabsOk.nil
abbrev G58 : Ctrs := csm T58 (fun _ _ => []) (fun _ => false)
def ann58 : Ann := ⟨15, [(0, ⟨[0, 1, 2], [], [], [], []⟩), (1, ⟨[6], [], [], [], []⟩)],
  [],
  [],
  [], []⟩
theorem f58_top (x : Int) (low : Int) (high : Int) (K : List PA → Prop) :
  vcFun Try.prog G58 ann58 58 [.one (.int .i64 x), .one (.int .i64 low), .one (.int .i64 high)] K =
  (condP (decide (x ≥ low))
   (K [.one (.bool (decide (x ≤ high)))])
   (K [.one (.bool false)])) := by kernel_rfl
abbrev e58 (r : Bool) : List PA := [.one (.bool r)]
def s58 (x : Int) (low : Int) (high : Int) : Bool :=
  (cond (decide (x ≥ low))
   (decide (x ≤ high))
   false)
theorem q58 (x : Int) (low : Int) (high : Int) (K : List PA → Prop) (hk : K (e58 (s58 x low high))) : vcFun Try.prog G58 ann58 58 [.one (.int .i64 x), .one (.int .i64 low), .one (.int .i64 high)] K := by
  refine ofEq (f58_top x low high K) ?_
  unfold s58 at hk
  exact (condP_gt (K := fun r => K (e58 r))
   (fun hk => hk)
   (fun hk => hk) hk)
def ctr58 : List PA → COut
  | [.one (.int .i64 a0), .one (.int .i64 a1), .one (.int .i64 a2)] => .tot [.one (.bool (s58 a0 a1 a2))]
  | _ => .no
theorem call58 : Callable Try.prog 58 := ⟨_, rfl, rfl, by kernel_rfl⟩
theorem ok58 : Ok Try.prog 58 ctr58 := ok_tab okT58 call58 fun args K h => by
  unfold ctr58 at h
  split at h
  · rename_i a0 a1 a2
    have hk := h
    exact ⟨(fun _ _ => []), (fun _ => false), ann58, q58 a0 a1 a2 K hk⟩
  · exact h.elim
end Go.Proofs
namespace Go.Proofs
open Go Go.Pm
set_option maxRecDepth 100000
set_option linter.unusedVariables false
attribute [local irreducible] Go.Pm.vcFun Go.Pm.vc Go.Pm.vcIter
abbrev T59 : Tabs := ((Tabs.nil.addF 29 ctr29).addF 58 ctr58)
theorem okT59 : TabsOk Try.prog T59 := ((TabsOk.nil.addF ok29).addF ok58)
abbrev G59 : Ctrs := csm T59 (fun _ _ => []) (fun _ => false)
def ann59 : Ann := ⟨79, [(0, ⟨[0, 1], [], [], [], []⟩), (1, ⟨[0, 1, 5], [], [], [], []⟩), (2, ⟨[0, 1, 5, 10], [], [], [], []⟩), (3, ⟨[0, 1, 5], [], [], [], []⟩), (4, ⟨[0, 1, 5, 6], [6], [], [], []⟩), (5, ⟨[0, 1, 5, 68], [], [], [], []⟩), (6, ⟨[4], [], [], [], []⟩), (7, ⟨[4], [], [], [], []⟩)],
  [(2, ⟨[0, 1, 5], [], [], [], []⟩)],
  [(6, ⟨[0, 1, 5, 68], [], [], [], []⟩)],
  [], []⟩
def f59_g0 (parts : Int) (l_a1 : (Sl FluxRow)) (iv0 : Int) : St := ⟨[(0, .one (.c (.p (.int .i64 parts)))), (1, .one (.c (.p (.sl l_a1.len 3 (fun i => enc_44 (l_a1.get i)))))), (5, .one (.c (.p (.int .i64 iv0))))], [], []⟩
def f59_at0 (K : List PA → Prop) (parts : Int) (l_a1 : (Sl FluxRow)) (iv0 : Int) : Prop := vc Try.prog G59 ann59 (cdF Try.f59 [1, 0, 1, 0]) (blockK 0 (sqK Try.prog G59 ann59 (cdF Try.f59 [1, 1]) (bodyK Try.prog Try.f59 K))) (f59_g0 parts l_a1 iv0)
def f59_g1 (parts : Int) (l_a1 : (Sl FluxRow)) (iv1 : Int) (t68v1 : Bool) : St := ⟨[(0, .one (.c (.p (.int .i64 parts)))), (1, .one (.c (.p (.sl l_a1.len 3 (fun i => enc_44 (l_a1.get i)))))), (5, .one (.c (.p (.int .i64 iv1)))), (68, .one (.c (.p (.bool t68v1))))], [], []⟩
def f59_at1 (K : List PA → Prop) (X0 : St → Prop) (parts : Int) (l_a1 : (Sl FluxRow)) (iv1 : Int) (t68v1 : Bool) : Prop := vc Try.prog G59 ann59 (cdF Try.f59 [1, 0, 1, 0, 0, 1, 0, 0, 1, 1]) (blockK 1 (sqK Try.prog G59 ann59 (cdF Try.f59 [1, 0, 1, 0, 0, 1, 1]) (loopK Try.prog ann59 2 X0 (blockK 0 (sqK Try.prog G59 ann59 (cdF Try.f59 [1, 1]) (bodyK Try.prog Try.f59 K)))))) (f59_g1 parts l_a1 iv1 t68v1)
theorem f59_top (parts : Int) (l_a1 : (Sl FluxRow)) (K : List PA → Prop) :
  vcFun Try.prog G59 ann59 59 [.one (.int .i64 parts), .one (.sl l_a1.len 3 (fun i => enc_44 (l_a1.get i)))] K =
  (f59_at0 K parts l_a1 (0:Int)) := by kernel_rfl
def f59_step0 (K : List PA → Prop) (X0 : St → Prop) (parts : Int) (l_a1 : (Sl FluxRow)) (iv0 : Int) : Prop :=
  (condP (decide (iv0 < (l_a1.len : Int)))
   (((0 ≤ iv0 ∧ iv0 < (l_a1.len : Int))) ∧
   (condP (!(s58 ((l_a1.get iv0.toNat).Energy) (1:Int) (1000000:Int)))
    (f59_at1 K X0 parts l_a1 iv0 true)
    (condP (!(s29 ((l_a1.get iv0.toNat).Rate) (0:Int) parts))
     (f59_at1 K X0 parts l_a1 iv0 true)
     (condP (decide (iv0 > (0:Int)))
      (((0 ≤ (w64 (iv0 - (1:Int))) ∧ (w64 (iv0 - (1:Int))) < (l_a1.len : Int))) ∧
      (condP (decide ((l_a1.get iv0.toNat).Energy ≤ (l_a1.get ((w64 (iv0 - (1:Int))).toNat)).Energy))
       (f59_at1 K X0 parts l_a1 iv0 true)
       (((0 ≤ (w64 (iv0 - (1:Int))) ∧ (w64 (iv0 - (1:Int))) < (l_a1.len : Int))) ∧
       (condP (decide ((l_a1.get iv0.toNat).Rate.Low > (l_a1.get ((w64 (iv0 - (1:Int))).toNat)).Rate.Low))
        (f59_at1 K X0 parts l_a1 iv0 true)
        (((0 ≤ (w64 (iv0 - (1:Int))) ∧ (w64 (iv0 - (1:Int))) < (l_a1.len : Int))) ∧
        (f59_at1 K X0 parts l_a1 iv0 (decide ((l_a1.get iv0.toNat).Rate.High > (l_a1.get ((w64 (iv0 - (1:Int))).toNat)).Rate.High))))))))
      (f59_at1 K X0 parts l_a1 iv0 false)))))
   (condP (s58 (l_a1.len : Int) (1:Int) (40:Int))
    (((0 ≤ (0:Int) ∧ (0:Int) < (l_a1.len : Int))) ∧
    (K [.one (.bool ((l_a1.get 0).Energy == (1:Int)))]))
    (K [.one (.bool false)])))
theorem f59_stepeq0 (K : List PA → Prop) (X0 : St → Prop) (parts : Int) (l_a1 : (Sl FluxRow)) (iv0 : Int) :
  vc Try.prog G59 ann59 (cd (cdF Try.f59 [1, 0, 1, 0]) [0]) (loopK Try.prog ann59 2 X0 (blockK 0 (sqK Try.prog G59 ann59 (cdF Try.f59 [1, 1]) (bodyK Try.prog Try.f59 K)))) (f59_g0 parts l_a1 iv0) =
  f59_step0 K X0 parts l_a1 iv0 := by kernel_rfl
theorem f59_loop0 (K : List PA → Prop) (parts : Int) (l_a1 : (Sl FluxRow)) (iv0 : Int)
  (h : ∀ X0 : St → Prop, (∀ (iv0 : Int), f59_step0 K X0 parts l_a1 iv0 → X0 (f59_g0 parts l_a1 iv0)) → X0 (f59_g0 parts l_a1 iv0)) :
  f59_at0 K parts l_a1 iv0 := by
  have e : f59_at0 K parts l_a1 iv0 = (∀ X : St → Prop, (∀ s, vc Try.prog G59 ann59 (cd (cdF Try.f59 [1, 0, 1, 0]) [0]) (loopK Try.prog ann59 2 X (blockK 0 (sqK Try.prog G59 ann59 (cdF Try.f59 [1, 1]) (bodyK Try.prog Try.f59 K)))) s → X s) → X (f59_g0 parts l_a1 iv0)) := by kernel_rfl
  refine ofEq e ?_
  intro X hX
  refine h X ?_
  intro iv0 hs
  refine hX _ ?_
  have e2 := f59_stepeq0 K X parts l_a1 iv0
  rw [e2]
  exact hs
theorem f59_eq1 (K : List PA → Prop) (X0 : St → Prop) (parts : Int) (l_a1 : (Sl FluxRow)) (iv1 : Int) (t68v1 : Bool) :
  f59_at1 K X0 parts l_a1 iv1 t68v1 =
  (condP t68v1
   (K [.one (.bool false)])
   (X0 (f59_g0 parts l_a1 (w64 (iv1 + (1:Int)))))) := by kernel_rfl
abbrev e59 (r : Bool) : List PA := [.one (.bool r)]
attribute [irreducible] f59_at0 f59_at1
def s59_at1 (S0 : Int → Bool) (parts : Int) (l_a1 : (Sl FluxRow)) (iv1 : Int) (t68v1 : Bool) : Bool :=
  (cond t68v1
   false
   (S0 (w64 (iv1 + (1:Int)))))
def p59_at1 (P0 : Int → Bool) (parts : Int) (l_a1 : (Sl FluxRow)) (iv1 : Int) (t68v1 : Bool) : Bool :=
  (cond t68v1
   true
   (P0 (w64 (iv1 + (1:Int)))))
theorem q59_at1 (K : List PA → Prop) (parts : Int) (l_a1 : (Sl FluxRow))
  (X0 : St → Prop) (P0 : Int → Bool) (S0 : Int → Bool)
  (hX0 : ∀ (iv0 : Int), P0 iv0 = true → K (e59 (S0 iv0)) → X0 (f59_g0 parts l_a1 iv0)) (iv1 : Int) (t68v1 : Bool) (hs : p59_at1 P0 parts l_a1 iv1 t68v1 = true) (hk : K (e59 (s59_at1 S0 parts l_a1 iv1 t68v1))) : f59_at1 K X0 parts l_a1 iv1 t68v1 := by
  refine ofEq (f59_eq1 K X0 parts l_a1 iv1 t68v1) ?_
  unfold p59_at1 at hs
  unfold s59_at1 at hk
  exact (condB_go (K := fun r => K (e59 r))
   (fun hs hk => hk)
   (fun hs hk => (hX0 (w64 (iv1 + (1:Int))) hs hk)) hs hk)
def s59_st0 (parts : Int) (l_a1 : (Sl FluxRow)) (S0 : Int → Bool) (iv0 : Int) : Bool :=
  (cond (decide (iv0 < (l_a1.len : Int)))
   (cond (!(s58 ((l_a1.get iv0.toNat).Energy) (1:Int) (1000000:Int)))
    (s59_at1 S0 parts l_a1 iv0 true)
    (cond (!(s29 ((l_a1.get iv0.toNat).Rate) (0:Int) parts))
     (s59_at1 S0 parts l_a1 iv0 true)
     (cond (decide (iv0 > (0:Int)))
      (cond (decide ((l_a1.get iv0.toNat).Energy ≤ (l_a1.get ((w64 (iv0 - (1:Int))).toNat)).Energy))
       (s59_at1 S0 parts l_a1 iv0 true)
       (cond (decide ((l_a1.get iv0.toNat).Rate.Low > (l_a1.get ((w64 (iv0 - (1:Int))).toNat)).Rate.Low))
        (s59_at1 S0 parts l_a1 iv0 true)
        (s59_at1 S0 parts l_a1 iv0 (decide ((l_a1.get iv0.toNat).Rate.High > (l_a1.get ((w64 (iv0 - (1:Int))).toNat)).Rate.High)))))
      (s59_at1 S0 parts l_a1 iv0 false))))
   (cond (s58 (l_a1.len : Int) (1:Int) (40:Int))
    ((l_a1.get 0).Energy == (1:Int))
    false))
def p59_st0 (parts : Int) (l_a1 : (Sl FluxRow)) (P0 : Int → Bool) (iv0 : Int) : Bool :=
  (cond (decide (iv0 < (l_a1.len : Int)))
   (decide ((0 ≤ iv0 ∧ iv0 < (l_a1.len : Int))) &&
   (cond (!(s58 ((l_a1.get iv0.toNat).Energy) (1:Int) (1000000:Int)))
    (p59_at1 P0 parts l_a1 iv0 true)
    (cond (!(s29 ((l_a1.get iv0.toNat).Rate) (0:Int) parts))
     (p59_at1 P0 parts l_a1 iv0 true)
     (cond (decide (iv0 > (0:Int)))
      (decide ((0 ≤ (w64 (iv0 - (1:Int))) ∧ (w64 (iv0 - (1:Int))) < (l_a1.len : Int))) &&
      (cond (decide ((l_a1.get iv0.toNat).Energy ≤ (l_a1.get ((w64 (iv0 - (1:Int))).toNat)).Energy))
       (p59_at1 P0 parts l_a1 iv0 true)
       (decide ((0 ≤ (w64 (iv0 - (1:Int))) ∧ (w64 (iv0 - (1:Int))) < (l_a1.len : Int))) &&
       (cond (decide ((l_a1.get iv0.toNat).Rate.Low > (l_a1.get ((w64 (iv0 - (1:Int))).toNat)).Rate.Low))
        (p59_at1 P0 parts l_a1 iv0 true)
        (decide ((0 ≤ (w64 (iv0 - (1:Int))) ∧ (w64 (iv0 - (1:Int))) < (l_a1.len : Int))) &&
        (p59_at1 P0 parts l_a1 iv0 (decide ((l_a1.get iv0.toNat).Rate.High > (l_a1.get ((w64 (iv0 - (1:Int))).toNat)).Rate.High))))))))
      (p59_at1 P0 parts l_a1 iv0 false)))))
   (cond (s58 (l_a1.len : Int) (1:Int) (40:Int))
    (decide ((0 ≤ (0:Int) ∧ (0:Int) < (l_a1.len : Int))) &&
    true)
    true))
def s59_lp0 (parts : Int) (l_a1 : (Sl FluxRow)) : Nat → Int → Bool
  | 0 => fun _ => default
  | k + 1 => s59_st0 parts l_a1 (s59_lp0 parts l_a1 k)
def p59_lp0 (parts : Int) (l_a1 : (Sl FluxRow)) : Nat → Int → Bool
  | 0 => fun _ => false
  | k + 1 => p59_st0 parts l_a1 (p59_lp0 parts l_a1 k)
def s59_at0 (parts : Int) (l_a1 : (Sl FluxRow)) (iv0 : Int) : Bool := s59_lp0 parts l_a1 Fuel iv0
def p59_at0 (parts : Int) (l_a1 : (Sl FluxRow)) (iv0 : Int) : Bool := p59_lp0 parts l_a1 Fuel iv0
theorem q59_at0 (K : List PA → Prop) (parts : Int) (l_a1 : (Sl FluxRow)) (iv0 : Int) (hs : p59_at0 parts l_a1 iv0 = true) (hk : K (e59 (s59_at0 parts l_a1 iv0))) : f59_at0 K parts l_a1 iv0 := by
  refine f59_loop0 K parts l_a1 iv0 ?_
  intro X0 hstep
  have key : ∀ (k : Nat) (iv0 : Int), p59_lp0 parts l_a1 k iv0 = true → K (e59 (s59_lp0 parts l_a1 k iv0)) → X0 (f59_g0 parts l_a1 iv0) := by
    intro k
    induction k with
    | zero => intro iv0 hs; exact absurd hs Bool.false_ne_true
    | succ k ih =>
      intro iv0 hs hk
      refine hstep iv0 ?_
      have hs : p59_st0 parts l_a1 (p59_lp0 parts l_a1 k) iv0 = true := hs
      have hk : K (e59 (s59_st0 parts l_a1 (s59_lp0 parts l_a1 k) iv0)) := hk
      unfold p59_st0 at hs
      unfold s59_st0 at hk
      generalize s59_lp0 parts l_a1 k = S0 at hk ih
      generalize p59_lp0 parts l_a1 k = P0 at hs ih
      have hX0 := ih
      exact (condB_go (K := fun r => K (e59 r))
       (fun hs hk => (andK hs fun hc hs => ⟨hc, (condB_go (K := fun r => K (e59 r))
        (fun hs hk => (q59_at1 K parts l_a1 X0 P0 S0 hX0 iv0 true hs hk))
        (fun hs hk => (condB_go (K := fun r => K (e59 r))
         (fun hs hk => (q59_at1 K parts l_a1 X0 P0 S0 hX0 iv0 true hs hk))
         (fun hs hk => (condB_go (K := fun r => K (e59 r))
          (fun hs hk => (andK hs fun hc hs => ⟨hc, (condB_go (K := fun r => K (e59 r))
           (fun hs hk => (q59_at1 K parts l_a1 X0 P0 S0 hX0 iv0 true hs hk))
           (fun hs hk => (andK hs fun hc hs => ⟨hc, (condB_go (K := fun r => K (e59 r))
            (fun hs hk => (q59_at1 K parts l_a1 X0 P0 S0 hX0 iv0 true hs hk))
            (fun hs hk => (andK hs fun hc hs => ⟨hc, (q59_at1 K parts l_a1 X0 P0 S0 hX0 iv0 (decide ((l_a1.get iv0.toNat).Rate.High > (l_a1.get ((w64 (iv0 - (1:Int))).toNat)).Rate.High)) hs hk)⟩)) hs hk)⟩)) hs hk)⟩))
          (fun hs hk => (q59_at1 K parts l_a1 X0 P0 S0 hX0 iv0 false hs hk)) hs hk)) hs hk)) hs hk)⟩))
       (fun hs hk => (condB_go (K := fun r => K (e59 r))
        (fun hs hk => (andK hs fun hc hs => ⟨hc, hk⟩))
        (fun hs hk => hk) hs hk)) hs hk)
  exact key _ iv0 hs hk
def s59 (parts : Int) (l_a1 : (Sl FluxRow)) : Bool :=
  (s59_at0 parts l_a1 (0:Int))
def p59 (parts : Int) (l_a1 : (Sl FluxRow)) : Bool :=
  (p59_at0 parts l_a1 (0:Int))
theorem q59 (parts : Int) (l_a1 : (Sl FluxRow)) (K : List PA → Prop) (hs : p59 parts l_a1 = true) (hk : K (e59 (s59 parts l_a1))) : vcFun Try.prog G59 ann59 59 [.one (.int .i64 parts), .one (.sl l_a1.len 3 (fun i => enc_44 (l_a1.get i)))] K := by
  refine ofEq (f59_top parts l_a1 K) ?_
  unfold p59 at hs
  unfold s59 at hk
  exact (q59_at0 K parts l_a1 (0:Int) hs hk)
def ctr59 : List PA → COut
  | [.one (.int .i64 a0), .one (.sl a1_n a1_s a1_g)] => .det (IsE enc_44 3 a1_s a1_g ∧ p59 a0 (⟨a1_n, decF_44 a1_g⟩ : (Sl FluxRow)) = true) [.one (.bool (s59 a0 (⟨a1_n, decF_44 a1_g⟩ : (Sl FluxRow))))]
  | _ => .no
theorem call59 : Callable Try.prog 59 := ⟨_, rfl, rfl, by kernel_rfl⟩
theorem ok59 : Ok Try.prog 59 ctr59 := ok_tab okT59 call59 fun args K h => by
  unfold ctr59 at h
  split at h
  · rename_i a0 a1_n a1_s a1_g
    obtain ⟨⟨⟨rfl, a1_f, rfl⟩, hs⟩, hk⟩ := h
    try rw [decF_enc_44 a1_f] at hs
    try rw [decF_enc_44 a1_f] at hk
    exact ⟨(fun _ _ => []), (fun _ => false), ann59, q59 a0 (⟨a1_n, a1_f⟩ : (Sl FluxRow)) K hs hk⟩
  · exact h.elim
abbrev T16 : Tabs := (((Tabs.nil.addF 29 ctr29).addF 58 ctr58).addF 59 ctr59)
theorem okT16 : TabsOk Try.prog T16 := (((TabsOk.nil.addF ok29).addF ok58).addF ok59)
abbrev G16 : Ctrs := csm T16 (fun _ _ => []) (fun _ => false)
def ann16 : Ann := ⟨43, [(0, ⟨[1], [1], [], [], []⟩), (1, ⟨[1, 26], [1], [], [], []⟩), (2, ⟨[2], [], [], [], []⟩), (3, ⟨[1, 3], [1], [], [], []⟩), (4, ⟨[1, 3, 31], [1], [], [], []⟩), (5, ⟨[1, 3], [1], [], [], []⟩), (6, ⟨[1, 3, 42], [1], [], [], []⟩), (7, ⟨[2], [], [], [], []⟩), (8, ⟨[2], [], [], [], []⟩)],
  [(4, ⟨[1, 3], [1], [], [], []⟩)],
  [(2, ⟨[1, 26], [1], [], [], []⟩), (3, ⟨[1], [1], [], [], []⟩), (7, ⟨[1, 3, 42], [1], [], [], []⟩)],
  [], []⟩
def f16_g0 (s : Sky) (t26v0 : Bool) (s_1v0_n : Nat) (s_1v0_g : Nat → List PV) : St := ⟨[(1, .one (.c (.ptr 1 0))), (26, .one (.c (.p (.bool t26v0))))], [(1, .box 26 [.p (.int .i64 s.Parts), .p (.sl s_1v0_n 1 s_1v0_g), .p (.int .i64 s.Beta.Low), .p (.int .i64 s.Beta.High), .p (.int .i64 s.Alpha.Low), .p (.int .i64 s.Alpha.High)])], []⟩
def f16_at0 (K : List PA → Prop) (s : Sky) (t26v0 : Bool) (s_1v0_n : Nat) (s_1v0_g : Nat → List PV) : Prop := vc Try.prog G16 ann16 (cdF Try.f16 [1, 0, 1]) (sqK Try.prog G16 ann16 (cdF Try.f16 [1, 1]) (bodyK Try.prog Try.f16 K)) (f16_g0 s t26v0 s_1v0_n s_1v0_g)
def f16_g1 (s : Sky) (s_1v1_n : Nat) (s_1v1_g : Nat → List PV) : St := ⟨[(1, .one (.c (.ptr 1 0)))], [(1, .box 26 [.p (.int .i64 s.Parts), .p (.sl s_1v1_n 1 s_1v1_g), .p (.int .i64 s.Beta.Low), .p (.int .i64 s.Beta.High), .p (.int .i64 s.Alpha.Low), .p (.int .i64 s.Alpha.High)])], []⟩
def f16_at1 (K : List PA → Prop) (s : Sky) (s_1v1_n : Nat) (s_1v1_g : Nat → List PV) : Prop := vc Try.prog G16 ann16 (cdF Try.f16 [1, 1]) (bodyK Try.prog Try.f16 K) (f16_g1 s s_1v1_n s_1v1_g)
def f16_g2 (s : Sky) (iv2 : Int) (s_1v2_n : Nat) (s_1v2_g : Nat → List PV) : St := ⟨[(1, .one (.c (.ptr 1 0))), (3, .one (.c (.p (.int .i64 iv2))))], [(1, .box 26 [.p (.int .i64 s.Parts), .p (.sl s_1v2_n 1 s_1v2_g), .p (.int .i64 s.Beta.Low), .p (.int .i64 s.Beta.High), .p (.int .i64 s.Alpha.Low), .p (.int .i64 s.Alpha.High)])], []⟩
def f16_at2 (K : List PA → Prop) (s : Sky) (iv2 : Int) (s_1v2_n : Nat) (s_1v2_g : Nat → List PV) : Prop := vc Try.prog G16 ann16 (cdF Try.f16 [1, 1, 0, 1, 0]) (blockK 0 (sqK Try.prog G16 ann16 (cdF Try.f16 [1, 1, 1]) (bodyK Try.prog Try.f16 K))) (f16_g2 s iv2 s_1v2_n s_1v2_g)
def f16_g3 (s : Sky) (iv3 : Int) (t42v3 : Bool) (s_1v3_n : Nat) (s_1v3_g : Nat → List PV) : St := ⟨[(1, .one (.c (.ptr 1 0))), (3, .one (.c (.p (.int .i64 iv3)))), (42, .one (.c (.p (.bool t42v3))))], [(1, .box 26 [.p (.int .i64 s.Parts), .p (.sl s_1v3_n 1 s_1v3_g), .p (.int .i64 s.Beta.Low), .p (.int .i64 s.Beta.High), .p (.int .i64 s.Alpha.Low), .p (.int .i64 s.Alpha.High)])], []⟩
def f16_at3 (K : List PA → Prop) (X2 : St → Prop) (s : Sky) (iv3 : Int) (t42v3 : Bool) (s_1v3_n : Nat) (s_1v3_g : Nat → List PV) : Prop := vc Try.prog G16 ann16 (cdF Try.f16 [1, 1, 0, 1, 0, 0, 1, 0, 0, 1]) (blockK 1 (sqK Try.prog G16 ann16 (cdF Try.f16 [1, 1, 0, 1, 0, 0, 1, 1]) (loopK Try.prog ann16 4 X2 (blockK 0 (sqK Try.prog G16 ann16 (cdF Try.f16 [1, 1, 1]) (bodyK Try.prog Try.f16 K)))))) (f16_g3 s iv3 t42v3 s_1v3_n s_1v3_g)
theorem f16_top (s : Sky) (K : List PA → Prop) :
  vcFun Try.prog G16 ann16 16 [.agg [.int .i64 s.Parts, .sl s.Bins.len 1 (fun i => enc_32 (s.Bins.get i)), .int .i64 s.Beta.Low, .int .i64 s.Beta.High, .int .i64 s.Alpha.Low, .int .i64 s.Alpha.High]] K =
  (condP (!(s58 s.Parts (2:Int) (1000000:Int)))
   (f16_at0 K s true s.Bins.len (fun i => enc_32 (s.Bins.get i)))
   (condP (!(s58 (s.Bins.len : Int) (1:Int) (20:Int)))
    (f16_at0 K s true s.Bins.len (fun i => enc_32 (s.Bins.get i)))
    (condP (!(s29 s.Beta (-100:Int) (100:Int)))
     (f16_at0 K s true s.Bins.len (fun i => enc_32 (s.Bins.get i)))
     (f16_at0 K s (!(s29 s.Alpha (-100:Int) (100:Int))) s.Bins.len (fun i => enc_32 (s.Bins.get i)))))) := by kernel_rfl
theorem f16_eq0 (K : List PA → Prop) (s : Sky) (t26v0 : Bool) (s_1v0 : (Sl (Sl FluxRow))) :
  f16_at0 K s t26v0 s_1v0.len (fun i => enc_32 (s_1v0.get i)) =
  (condP t26v0
   (K [.one (.bool false)])
   (f16_at1 K s s_1v0.len (fun i => enc_32 (s_1v0.get i)))) := by kernel_rfl
theorem f16_eq1 (K : List PA → Prop) (s : Sky) (s_1v1 : (Sl (Sl FluxRow))) :
  f16_at1 K s s_1v1.len (fun i => enc_32 (s_1v1.get i)) =
  (f16_at2 K s (0:Int) s_1v1.len (fun i => enc_32 (s_1v1.get i))) := by kernel_rfl
def f16_step2 (K : List PA → Prop) (X2 : St → Prop) (s : Sky) (iv2 : Int) (s_1v2 : (Sl (Sl FluxRow))) : Prop :=
  (condP (decide (iv2 < (s_1v2.len : Int)))
   (((0 ≤ iv2 ∧ iv2 < (s_1v2.len : Int))) ∧
   ((IsE enc_44 3 3 (fun i => enc_44 ((s_1v2.get iv2.toNat).get i)) ∧ (p59 s.Parts (s_1v2.get iv2.toNat) = true)) ∧
   (f16_at3 K X2 s iv2 (!(s59 s.Parts (s_1v2.get iv2.toNat))) s_1v2.len (fun i => enc_32 (s_1v2.get i)))))
   (K [.one (.bool true)]))
theorem f16_stepeq2 (K : List PA → Prop) (X2 : St → Prop) (s : Sky) (iv2 : Int) (s_1v2 : (Sl (Sl FluxRow))) :
  vc Try.prog G16 ann16 (cd (cdF Try.f16 [1, 1, 0, 1, 0]) [0]) (loopK Try.prog ann16 4 X2 (blockK 0 (sqK Try.prog G16 ann16 (cdF Try.f16 [1, 1, 1]) (bodyK Try.prog Try.f16 K)))) (f16_g2 s iv2 s_1v2.len (fun i => enc_32 (s_1v2.get i))) =
  f16_step2 K X2 s iv2 s_1v2 := by kernel_rfl
theorem f16_loop2 (K : List PA → Prop) (s : Sky) (iv2 : Int) (s_1v2_n : Nat) (s_1v2_g : Nat → List PV)
  (h : ∀ X2 : St → Prop, (∀ (iv2 : Int) (s_1v2 : (Sl (Sl FluxRow))), f16_step2 K X2 s iv2 s_1v2 → X2 (f16_g2 s iv2 s_1v2.len (fun i => enc_32 (s_1v2.get i)))) → X2 (f16_g2 s iv2 s_1v2_n s_1v2_g)) :
  f16_at2 K s iv2 s_1v2_n s_1v2_g := by
  have e : f16_at2 K s iv2 s_1v2_n s_1v2_g = (∀ X : St → Prop, (∀ s, vc Try.prog G16 ann16 (cd (cdF Try.f16 [1, 1, 0, 1, 0]) [0]) (loopK Try.prog ann16 4 X (blockK 0 (sqK Try.prog G16 ann16 (cdF Try.f16 [1, 1, 1]) (bodyK Try.prog Try.f16 K)))) s → X s) → X (f16_g2 s iv2 s_1v2_n s_1v2_g)) := by kernel_rfl
  refine ofEq e ?_
  intro X hX
  refine h X ?_
  intro iv2 s_1v2 hs
  refine hX _ ?_
  have e2 := f16_stepeq2 K X s iv2 s_1v2
  rw [e2]
  exact hs
theorem f16_eq3 (K : List PA → Prop) (X2 : St → Prop) (s : Sky) (iv3 : Int) (t42v3 : Bool) (s_1v3 : (Sl (Sl FluxRow))) :
  f16_at3 K X2 s iv3 t42v3 s_1v3.len (fun i => enc_32 (s_1v3.get i)) =
  (condP t42v3
   (K [.one (.bool false)])
   (X2 (f16_g2 s (w64 (iv3 + (1:Int))) s_1v3.len (fun i => enc_32 (s_1v3.get i))))) := by kernel_rfl
abbrev e16 (r : Bool) : List PA := [.one (.bool r)]
attribute [irreducible] f16_at0 f16_at1 f16_at2 f16_at3
def s16_at3 (S2 : Int → (Sl (Sl FluxRow)) → Bool) (s : Sky) (iv3 : Int) (t42v3 : Bool) (s_1v3 : (Sl (Sl FluxRow))) : Bool :=
  (cond t42v3
   false
   (S2 (w64 (iv3 + (1:Int))) s_1v3))
def p16_at3 (P2 : Int → (Sl (Sl FluxRow)) → Bool) (s : Sky) (iv3 : Int) (t42v3 : Bool) (s_1v3 : (Sl (Sl FluxRow))) : Bool :=
  (cond t42v3
   true
   (P2 (w64 (iv3 + (1:Int))) s_1v3))
theorem q16_at3 (K : List PA → Prop) (s : Sky)
  (X2 : St → Prop) (P2 : Int → (Sl (Sl FluxRow)) → Bool) (S2 : Int → (Sl (Sl FluxRow)) → Bool)
  (hX2 : ∀ (iv2 : Int) (s_1v2 : (Sl (Sl FluxRow))) (s_1v2_g : Nat → List PV) (s_1v2_h : s_1v2_g = fun i => enc_32 (s_1v2.get i)), P2 iv2 s_1v2 = true → K (e16 (S2 iv2 s_1v2)) → X2 (f16_g2 s iv2 s_1v2.len s_1v2_g)) (iv3 : Int) (t42v3 : Bool) (s_1v3 : (Sl (Sl FluxRow))) (s_1v3_g : Nat → List PV) (s_1v3_h : s_1v3_g = fun i => enc_32 (s_1v3.get i)) (hs : p16_at3 P2 s iv3 t42v3 s_1v3 = true) (hk : K (e16 (s16_at3 S2 s iv3 t42v3 s_1v3))) : f16_at3 K X2 s iv3 t42v3 s_1v3.len s_1v3_g := by
  subst s_1v3_h
  refine ofEq (f16_eq3 K X2 s iv3 t42v3 s_1v3) ?_
  unfold p16_at3 at hs
  unfold s16_at3 at hk
  exact (condB_go (K := fun r => K (e16 r))
   (fun hs hk => hk)
   (fun hs hk => (hX2 (w64 (iv3 + (1:Int))) s_1v3 (fun i => enc_32 (s_1v3.get i)) rfl hs hk)) hs hk)
def s16_st2 (s : Sky) (S2 : Int → (Sl (Sl FluxRow)) → Bool) (iv2 : Int) (s_1v2 : (Sl (Sl FluxRow))) : Bool :=
  (cond (decide (iv2 < (s_1v2.len : Int)))
   (s16_at3 S2 s iv2 (!(s59 s.Parts (s_1v2.get iv2.toNat))) s_1v2)
   true)
def p16_st2 (s : Sky) (P2 : Int → (Sl (Sl FluxRow)) → Bool) (iv2 : Int) (s_1v2 : (Sl (Sl FluxRow))) : Bool :=
  (cond (decide (iv2 < (s_1v2.len : Int)))
   (decide ((0 ≤ iv2 ∧ iv2 < (s_1v2.len : Int))) &&
   (decide ((p59 s.Parts (s_1v2.get iv2.toNat) = true)) &&
   (p16_at3 P2 s iv2 (!(s59 s.Parts (s_1v2.get iv2.toNat))) s_1v2)))
   true)
def s16_lp2 (s : Sky) : Nat → Int → (Sl (Sl FluxRow)) → Bool
  | 0 => fun _ _ => default
  | k + 1 => s16_st2 s (s16_lp2 s k)
def p16_lp2 (s : Sky) : Nat → Int → (Sl (Sl FluxRow)) → Bool
  | 0 => fun _ _ => false
  | k + 1 => p16_st2 s (p16_lp2 s k)
def s16_at2 (s : Sky) (iv2 : Int) (s_1v2 : (Sl (Sl FluxRow))) : Bool := s16_lp2 s Fuel iv2 s_1v2
def p16_at2 (s : Sky) (iv2 : Int) (s_1v2 : (Sl (Sl FluxRow))) : Bool := p16_lp2 s Fuel iv2 s_1v2
theorem q16_at2 (K : List PA → Prop) (s : Sky) (iv2 : Int) (s_1v2 : (Sl (Sl FluxRow))) (s_1v2_g : Nat → List PV) (s_1v2_h : s_1v2_g = fun i => enc_32 (s_1v2.get i)) (hs : p16_at2 s iv2 s_1v2 = true) (hk : K (e16 (s16_at2 s iv2 s_1v2))) : f16_at2 K s iv2 s_1v2.len s_1v2_g := by
  refine f16_loop2 K s iv2 s_1v2.len s_1v2_g ?_
  intro X2 hstep
  have key : ∀ (k : Nat) (iv2 : Int) (s_1v2 : (Sl (Sl FluxRow))) (s_1v2_g : Nat → List PV) (s_1v2_h : s_1v2_g = fun i => enc_32 (s_1v2.get i)), p16_lp2 s k iv2 s_1v2 = true → K (e16 (s16_lp2 s k iv2 s_1v2)) → X2 (f16_g2 s iv2 s_1v2.len s_1v2_g) := by
    intro k
    induction k with
    | zero => intro iv2 s_1v2 s_1v2_g s_1v2_h hs; exact absurd hs Bool.false_ne_true
    | succ k ih =>
      intro iv2 s_1v2 s_1v2_g s_1v2_h hs hk
      subst s_1v2_h
      refine hstep iv2 s_1v2 ?_
      have hs : p16_st2 s (p16_lp2 s k) iv2 s_1v2 = true := hs
      have hk : K (e16 (s16_st2 s (s16_lp2 s k) iv2 s_1v2)) := hk
      unfold p16_st2 at hs
      unfold s16_st2 at hk
      generalize s16_lp2 s k = S2 at hk ih
      generalize p16_lp2 s k = P2 at hs ih
      have hX2 := ih
      exact (condB_go (K := fun r => K (e16 r))
       (fun hs hk => (andK hs fun hc hs => ⟨hc, (andK hs fun hc hs => ⟨⟨isE, hc⟩, (q16_at3 K s X2 P2 S2 hX2 iv2 (!(s59 s.Parts (s_1v2.get iv2.toNat))) s_1v2 (fun i => enc_32 (s_1v2.get i)) rfl hs hk)⟩)⟩))
       (fun hs hk => hk) hs hk)
  exact key _ iv2 s_1v2 s_1v2_g s_1v2_h hs hk
def s16_at1 (s : Sky) (s_1v1 : (Sl (Sl FluxRow))) : Bool :=
  (s16_at2 s (0:Int) s_1v1)
def p16_at1 (s : Sky) (s_1v1 : (Sl (Sl FluxRow))) : Bool :=
  (p16_at2 s (0:Int) s_1v1)
theorem q16_at1 (K : List PA → Prop) (s : Sky) (s_1v1 : (Sl (Sl FluxRow))) (s_1v1_g : Nat → List PV) (s_1v1_h : s_1v1_g = fun i => enc_32 (s_1v1.get i)) (hs : p16_at1 s s_1v1 = true) (hk : K (e16 (s16_at1 s s_1v1))) : f16_at1 K s s_1v1.len s_1v1_g := by
  subst s_1v1_h
  refine ofEq (f16_eq1 K s s_1v1) ?_
  unfold p16_at1 at hs
  unfold s16_at1 at hk
  exact (q16_at2 K s (0:Int) s_1v1 (fun i => enc_32 (s_1v1.get i)) rfl hs hk)
def s16_at0 (s : Sky) (t26v0 : Bool) (s_1v0 : (Sl (Sl FluxRow))) : Bool :=
  (cond t26v0
   false
   (s16_at1 s s_1v0))
def p16_at0 (s : Sky) (t26v0 : Bool) (s_1v0 : (Sl (Sl FluxRow))) : Bool :=
  (cond t26v0
   true
   (p16_at1 s s_1v0))
theorem q16_at0 (K : List PA → Prop) (s : Sky) (t26v0 : Bool) (s_1v0 : (Sl (Sl FluxRow))) (s_1v0_g : Nat → List PV) (s_1v0_h : s_1v0_g = fun i => enc_32 (s_1v0.get i)) (hs : p16_at0 s t26v0 s_1v0 = true) (hk : K (e16 (s16_at0 s t26v0 s_1v0))) : f16_at0 K s t26v0 s_1v0.len s_1v0_g := by
  subst s_1v0_h
  refine ofEq (f16_eq0 K s t26v0 s_1v0) ?_
  unfold p16_at0 at hs
  unfold s16_at0 at hk
  exact (condB_go (K := fun r => K (e16 r))
   (fun hs hk => hk)
   (fun hs hk => (q16_at1 K s s_1v0 (fun i => enc_32 (s_1v0.get i)) rfl hs hk)) hs hk)
def s16 (s : Sky) : Bool :=
  (cond (!(s58 s.Parts (2:Int) (1000000:Int)))
   (s16_at0 s true s.Bins)
   (cond (!(s58 (s.Bins.len : Int) (1:Int) (20:Int)))
    (s16_at0 s true s.Bins)
    (cond (!(s29 s.Beta (-100:Int) (100:Int)))
     (s16_at0 s true s.Bins)
     (s16_at0 s (!(s29 s.Alpha (-100:Int) (100:Int))) s.Bins))))
def p16 (s : Sky) : Bool :=
  (cond (!(s58 s.Parts (2:Int) (1000000:Int)))
   (p16_at0 s true s.Bins)
   (cond (!(s58 (s.Bins.len : Int) (1:Int) (20:Int)))
    (p16_at0 s true s.Bins)
    (cond (!(s29 s.Beta (-100:Int) (100:Int)))
     (p16_at0 s true s.Bins)
     (p16_at0 s (!(s29 s.Alpha (-100:Int) (100:Int))) s.Bins))))
theorem q16 (s : Sky) (K : List PA → Prop) (hs : p16 s = true) (hk : K (e16 (s16 s))) : vcFun Try.prog G16 ann16 16 [.agg [.int .i64 s.Parts, .sl s.Bins.len 1 (fun i => enc_32 (s.Bins.get i)), .int .i64 s.Beta.Low, .int .i64 s.Beta.High, .int .i64 s.Alpha.Low, .int .i64 s.Alpha.High]] K := by
  refine ofEq (f16_top s K) ?_
  unfold p16 at hs
  unfold s16 at hk
  exact (condB_go (K := fun r => K (e16 r))
   (fun hs hk => (q16_at0 K s true s.Bins (fun i => enc_32 (s.Bins.get i)) rfl hs hk))
   (fun hs hk => (condB_go (K := fun r => K (e16 r))
    (fun hs hk => (q16_at0 K s true s.Bins (fun i => enc_32 (s.Bins.get i)) rfl hs hk))
    (fun hs hk => (condB_go (K := fun r => K (e16 r))
     (fun hs hk => (q16_at0 K s true s.Bins (fun i => enc_32 (s.Bins.get i)) rfl hs hk))
     (fun hs hk => (q16_at0 K s (!(s29 s.Alpha (-100:Int) (100:Int))) s.Bins (fun i => enc_32 (s.Bins.get i)) rfl hs hk)) hs hk)) hs hk)) hs hk)
def ctr16 : List PA → COut
  | [.agg [.int .i64 a0_Parts, .sl a0_Bins_n a0_Bins_s a0_Bins_g, .int .i64 a0_Beta_Low, .int .i64 a0_Beta_High, .int .i64 a0_Alpha_Low, .int .i64 a0_Alpha_High]] => .det (IsE enc_32 1 a0_Bins_s a0_Bins_g ∧ p16 (⟨a0_Parts, (⟨a0_Bins_n, decF_32 a0_Bins_g⟩ : (Sl (Sl FluxRow))), (⟨a0_Beta_Low, a0_Beta_High⟩ : Span), (⟨a0_Alpha_Low, a0_Alpha_High⟩ : Span)⟩ : Sky) = true) [.one (.bool (s16 (⟨a0_Parts, (⟨a0_Bins_n, decF_32 a0_Bins_g⟩ : (Sl (Sl FluxRow))), (⟨a0_Beta_Low, a0_Beta_High⟩ : Span), (⟨a0_Alpha_Low, a0_Alpha_High⟩ : Span)⟩ : Sky)))]
  | _ => .no
theorem call16 : Callable Try.prog 16 := ⟨_, rfl, rfl, by kernel_rfl⟩
theorem ok16 : Ok Try.prog 16 ctr16 := ok_tab okT16 call16 fun args K h => by
  unfold ctr16 at h
  split at h
  · rename_i a0_Parts a0_Bins_n a0_Bins_s a0_Bins_g a0_Beta_Low a0_Beta_High a0_Alpha_Low a0_Alpha_High
    obtain ⟨⟨⟨rfl, a0_Bins_f, rfl⟩, hs⟩, hk⟩ := h
    try rw [decF_enc_32 a0_Bins_f] at hs
    try rw [decF_enc_32 a0_Bins_f] at hk
    exact ⟨(fun _ _ => []), (fun _ => false), ann16, q16 (⟨a0_Parts, (⟨a0_Bins_n, a0_Bins_f⟩ : (Sl (Sl FluxRow))), (⟨a0_Beta_Low, a0_Beta_High⟩ : Span), (⟨a0_Alpha_Low, a0_Alpha_High⟩ : Span)⟩ : Sky) K hs hk⟩
  · exact h.elim
abbrev T17 : Tabs := ((Tabs.nil.addF 29 ctr29).addF 58 ctr58)
theorem okT17 : TabsOk Try.prog T17 := ((TabsOk.nil.addF ok29).addF ok58)
abbrev G17 : Ctrs := csm T17 (fun _ _ => []) (fun _ => false)
def ann17 : Ann := ⟨69, [(0, ⟨[0], [], [], [], []⟩), (1, ⟨[0, 3], [], [], [], []⟩), (2, ⟨[0, 3, 8], [], [], [], []⟩), (3, ⟨[0, 3], [], [], [], []⟩), (4, ⟨[0, 3, 4], [4], [], [], []⟩), (5, ⟨[0, 3, 65], [], [], [], []⟩), (6, ⟨[2], [], [], [], []⟩), (7, ⟨[2], [], [], [], []⟩)],
  [(2, ⟨[0, 3], [], [], [], []⟩)],
  [(6, ⟨[0, 3, 65], [], [], [], []⟩)],
  [], []⟩
def f17_g0 (t : (Sl RangeRow)) (iv0 : Int) : St := ⟨[(0, .one (.c (.p (.sl t.len 3 (fun i => enc_42 (t.get i)))))), (3, .one (.c (.p (.int .i64 iv0))))], [], []⟩
def f17_at0 (K : List PA → Prop) (t : (Sl RangeRow)) (iv0 : Int) : Prop := vc Try.prog G17 ann17 (cdF Try.f17 [1, 0, 1, 0]) (blockK 0 (sqK Try.prog G17 ann17 (cdF Try.f17 [1, 1]) (bodyK Try.prog Try.f17 K))) (f17_g0 t iv0)
def f17_g1 (t : (Sl RangeRow)) (iv1 : Int) (t65v1 : Bool) : St := ⟨[(0, .one (.c (.p (.sl t.len 3 (fun i => enc_42 (t.get i)))))), (3, .one (.c (.p (.int .i64 iv1)))), (65, .one (.c (.p (.bool t65v1))))], [], []⟩
def f17_at1 (K : List PA → Prop) (X0 : St → Prop) (t : (Sl RangeRow)) (iv1 : Int) (t65v1 : Bool) : Prop := vc Try.prog G17 ann17 (cdF Try.f17 [1, 0, 1, 0, 0, 1, 0, 0, 1, 1]) (blockK 1 (sqK Try.prog G17 ann17 (cdF Try.f17 [1, 0, 1, 0, 0, 1, 1]) (loopK Try.prog ann17 2 X0 (blockK 0 (sqK Try.prog G17 ann17 (cdF Try.f17 [1, 1]) (bodyK Try.prog Try.f17 K)))))) (f17_g1 t iv1 t65v1)
theorem f17_top (t : (Sl RangeRow)) (K : List PA → Prop) :
  vcFun Try.prog G17 ann17 17 [.one (.sl t.len 3 (fun i => enc_42 (t.get i)))] K =
  (f17_at0 K t (0:Int)) := by kernel_rfl
def f17_step0 (K : List PA → Prop) (X0 : St → Prop) (t : (Sl RangeRow)) (iv0 : Int) : Prop :=
  (condP (decide (iv0 < (t.len : Int)))
   (((0 ≤ iv0 ∧ iv0 < (t.len : Int))) ∧
   (condP (!(s58 ((t.get iv0.toNat).Energy) (1:Int) (1000000:Int)))
    (f17_at1 K X0 t iv0 true)
    (condP (!(s29 ((t.get iv0.toNat).Range) (0:Int) (1000000:Int)))
     (f17_at1 K X0 t iv0 true)
     (condP (decide (iv0 > (0:Int)))
      (((0 ≤ (w64 (iv0 - (1:Int))) ∧ (w64 (iv0 - (1:Int))) < (t.len : Int))) ∧
      (condP (decide ((t.get iv0.toNat).Energy ≤ (t.get ((w64 (iv0 - (1:Int))).toNat)).Energy))
       (f17_at1 K X0 t iv0 true)
       (((0 ≤ (w64 (iv0 - (1:Int))) ∧ (w64 (iv0 - (1:Int))) < (t.len : Int))) ∧
       (condP (decide ((t.get iv0.toNat).Range.Low < (t.get ((w64 (iv0 - (1:Int))).toNat)).Range.Low))
        (f17_at1 K X0 t iv0 true)
        (((0 ≤ (w64 (iv0 - (1:Int))) ∧ (w64 (iv0 - (1:Int))) < (t.len : Int))) ∧
        (f17_at1 K X0 t iv0 (decide ((t.get iv0.toNat).Range.High < (t.get ((w64 (iv0 - (1:Int))).toNat)).Range.High))))))))
      (f17_at1 K X0 t iv0 false)))))
   (K [.one (.bool (s58 (t.len : Int) (1:Int) (40:Int)))]))
theorem f17_stepeq0 (K : List PA → Prop) (X0 : St → Prop) (t : (Sl RangeRow)) (iv0 : Int) :
  vc Try.prog G17 ann17 (cd (cdF Try.f17 [1, 0, 1, 0]) [0]) (loopK Try.prog ann17 2 X0 (blockK 0 (sqK Try.prog G17 ann17 (cdF Try.f17 [1, 1]) (bodyK Try.prog Try.f17 K)))) (f17_g0 t iv0) =
  f17_step0 K X0 t iv0 := by kernel_rfl
theorem f17_loop0 (K : List PA → Prop) (t : (Sl RangeRow)) (iv0 : Int)
  (h : ∀ X0 : St → Prop, (∀ (iv0 : Int), f17_step0 K X0 t iv0 → X0 (f17_g0 t iv0)) → X0 (f17_g0 t iv0)) :
  f17_at0 K t iv0 := by
  have e : f17_at0 K t iv0 = (∀ X : St → Prop, (∀ s, vc Try.prog G17 ann17 (cd (cdF Try.f17 [1, 0, 1, 0]) [0]) (loopK Try.prog ann17 2 X (blockK 0 (sqK Try.prog G17 ann17 (cdF Try.f17 [1, 1]) (bodyK Try.prog Try.f17 K)))) s → X s) → X (f17_g0 t iv0)) := by kernel_rfl
  refine ofEq e ?_
  intro X hX
  refine h X ?_
  intro iv0 hs
  refine hX _ ?_
  have e2 := f17_stepeq0 K X t iv0
  rw [e2]
  exact hs
theorem f17_eq1 (K : List PA → Prop) (X0 : St → Prop) (t : (Sl RangeRow)) (iv1 : Int) (t65v1 : Bool) :
  f17_at1 K X0 t iv1 t65v1 =
  (condP t65v1
   (K [.one (.bool false)])
   (X0 (f17_g0 t (w64 (iv1 + (1:Int)))))) := by kernel_rfl
abbrev e17 (r : Bool) : List PA := [.one (.bool r)]
attribute [irreducible] f17_at0 f17_at1
def s17_at1 (S0 : Int → Bool) (t : (Sl RangeRow)) (iv1 : Int) (t65v1 : Bool) : Bool :=
  (cond t65v1
   false
   (S0 (w64 (iv1 + (1:Int)))))
def p17_at1 (P0 : Int → Bool) (t : (Sl RangeRow)) (iv1 : Int) (t65v1 : Bool) : Bool :=
  (cond t65v1
   true
   (P0 (w64 (iv1 + (1:Int)))))
theorem q17_at1 (K : List PA → Prop) (t : (Sl RangeRow))
  (X0 : St → Prop) (P0 : Int → Bool) (S0 : Int → Bool)
  (hX0 : ∀ (iv0 : Int), P0 iv0 = true → K (e17 (S0 iv0)) → X0 (f17_g0 t iv0)) (iv1 : Int) (t65v1 : Bool) (hs : p17_at1 P0 t iv1 t65v1 = true) (hk : K (e17 (s17_at1 S0 t iv1 t65v1))) : f17_at1 K X0 t iv1 t65v1 := by
  refine ofEq (f17_eq1 K X0 t iv1 t65v1) ?_
  unfold p17_at1 at hs
  unfold s17_at1 at hk
  exact (condB_go (K := fun r => K (e17 r))
   (fun hs hk => hk)
   (fun hs hk => (hX0 (w64 (iv1 + (1:Int))) hs hk)) hs hk)
def s17_st0 (t : (Sl RangeRow)) (S0 : Int → Bool) (iv0 : Int) : Bool :=
  (cond (decide (iv0 < (t.len : Int)))
   (cond (!(s58 ((t.get iv0.toNat).Energy) (1:Int) (1000000:Int)))
    (s17_at1 S0 t iv0 true)
    (cond (!(s29 ((t.get iv0.toNat).Range) (0:Int) (1000000:Int)))
     (s17_at1 S0 t iv0 true)
     (cond (decide (iv0 > (0:Int)))
      (cond (decide ((t.get iv0.toNat).Energy ≤ (t.get ((w64 (iv0 - (1:Int))).toNat)).Energy))
       (s17_at1 S0 t iv0 true)
       (cond (decide ((t.get iv0.toNat).Range.Low < (t.get ((w64 (iv0 - (1:Int))).toNat)).Range.Low))
        (s17_at1 S0 t iv0 true)
        (s17_at1 S0 t iv0 (decide ((t.get iv0.toNat).Range.High < (t.get ((w64 (iv0 - (1:Int))).toNat)).Range.High)))))
      (s17_at1 S0 t iv0 false))))
   (s58 (t.len : Int) (1:Int) (40:Int)))
def p17_st0 (t : (Sl RangeRow)) (P0 : Int → Bool) (iv0 : Int) : Bool :=
  (cond (decide (iv0 < (t.len : Int)))
   (decide ((0 ≤ iv0 ∧ iv0 < (t.len : Int))) &&
   (cond (!(s58 ((t.get iv0.toNat).Energy) (1:Int) (1000000:Int)))
    (p17_at1 P0 t iv0 true)
    (cond (!(s29 ((t.get iv0.toNat).Range) (0:Int) (1000000:Int)))
     (p17_at1 P0 t iv0 true)
     (cond (decide (iv0 > (0:Int)))
      (decide ((0 ≤ (w64 (iv0 - (1:Int))) ∧ (w64 (iv0 - (1:Int))) < (t.len : Int))) &&
      (cond (decide ((t.get iv0.toNat).Energy ≤ (t.get ((w64 (iv0 - (1:Int))).toNat)).Energy))
       (p17_at1 P0 t iv0 true)
       (decide ((0 ≤ (w64 (iv0 - (1:Int))) ∧ (w64 (iv0 - (1:Int))) < (t.len : Int))) &&
       (cond (decide ((t.get iv0.toNat).Range.Low < (t.get ((w64 (iv0 - (1:Int))).toNat)).Range.Low))
        (p17_at1 P0 t iv0 true)
        (decide ((0 ≤ (w64 (iv0 - (1:Int))) ∧ (w64 (iv0 - (1:Int))) < (t.len : Int))) &&
        (p17_at1 P0 t iv0 (decide ((t.get iv0.toNat).Range.High < (t.get ((w64 (iv0 - (1:Int))).toNat)).Range.High))))))))
      (p17_at1 P0 t iv0 false)))))
   true)
def s17_lp0 (t : (Sl RangeRow)) : Nat → Int → Bool
  | 0 => fun _ => default
  | k + 1 => s17_st0 t (s17_lp0 t k)
def p17_lp0 (t : (Sl RangeRow)) : Nat → Int → Bool
  | 0 => fun _ => false
  | k + 1 => p17_st0 t (p17_lp0 t k)
def s17_at0 (t : (Sl RangeRow)) (iv0 : Int) : Bool := s17_lp0 t Fuel iv0
def p17_at0 (t : (Sl RangeRow)) (iv0 : Int) : Bool := p17_lp0 t Fuel iv0
theorem q17_at0 (K : List PA → Prop) (t : (Sl RangeRow)) (iv0 : Int) (hs : p17_at0 t iv0 = true) (hk : K (e17 (s17_at0 t iv0))) : f17_at0 K t iv0 := by
  refine f17_loop0 K t iv0 ?_
  intro X0 hstep
  have key : ∀ (k : Nat) (iv0 : Int), p17_lp0 t k iv0 = true → K (e17 (s17_lp0 t k iv0)) → X0 (f17_g0 t iv0) := by
    intro k
    induction k with
    | zero => intro iv0 hs; exact absurd hs Bool.false_ne_true
    | succ k ih =>
      intro iv0 hs hk
      refine hstep iv0 ?_
      have hs : p17_st0 t (p17_lp0 t k) iv0 = true := hs
      have hk : K (e17 (s17_st0 t (s17_lp0 t k) iv0)) := hk
      unfold p17_st0 at hs
      unfold s17_st0 at hk
      generalize s17_lp0 t k = S0 at hk ih
      generalize p17_lp0 t k = P0 at hs ih
      have hX0 := ih
      exact (condB_go (K := fun r => K (e17 r))
       (fun hs hk => (andK hs fun hc hs => ⟨hc, (condB_go (K := fun r => K (e17 r))
        (fun hs hk => (q17_at1 K t X0 P0 S0 hX0 iv0 true hs hk))
        (fun hs hk => (condB_go (K := fun r => K (e17 r))
         (fun hs hk => (q17_at1 K t X0 P0 S0 hX0 iv0 true hs hk))
         (fun hs hk => (condB_go (K := fun r => K (e17 r))
          (fun hs hk => (andK hs fun hc hs => ⟨hc, (condB_go (K := fun r => K (e17 r))
           (fun hs hk => (q17_at1 K t X0 P0 S0 hX0 iv0 true hs hk))
           (fun hs hk => (andK hs fun hc hs => ⟨hc, (condB_go (K := fun r => K (e17 r))
            (fun hs hk => (q17_at1 K t X0 P0 S0 hX0 iv0 true hs hk))
            (fun hs hk => (andK hs fun hc hs => ⟨hc, (q17_at1 K t X0 P0 S0 hX0 iv0 (decide ((t.get iv0.toNat).Range.High < (t.get ((w64 (iv0 - (1:Int))).toNat)).Range.High)) hs hk)⟩)) hs hk)⟩)) hs hk)⟩))
          (fun hs hk => (q17_at1 K t X0 P0 S0 hX0 iv0 false hs hk)) hs hk)) hs hk)) hs hk)⟩))
       (fun hs hk => hk) hs hk)
  exact key _ iv0 hs hk
def s17 (t : (Sl RangeRow)) : Bool :=
  (s17_at0 t (0:Int))
def p17 (t : (Sl RangeRow)) : Bool :=
  (p17_at0 t (0:Int))
theorem q17 (t : (Sl RangeRow)) (K : List PA → Prop) (hs : p17 t = true) (hk : K (e17 (s17 t))) : vcFun Try.prog G17 ann17 17 [.one (.sl t.len 3 (fun i => enc_42 (t.get i)))] K := by
  refine ofEq (f17_top t K) ?_
  unfold p17 at hs
  unfold s17 at hk
  exact (q17_at0 K t (0:Int) hs hk)
def ctr17 : List PA → COut
  | [.one (.sl a0_n a0_s a0_g)] => .det (IsE enc_42 3 a0_s a0_g ∧ p17 (⟨a0_n, decF_42 a0_g⟩ : (Sl RangeRow)) = true) [.one (.bool (s17 (⟨a0_n, decF_42 a0_g⟩ : (Sl RangeRow))))]
  | _ => .no
theorem call17 : Callable Try.prog 17 := ⟨_, rfl, rfl, by kernel_rfl⟩
theorem ok17 : Ok Try.prog 17 ctr17 := ok_tab okT17 call17 fun args K h => by
  unfold ctr17 at h
  split at h
  · rename_i a0_n a0_s a0_g
    obtain ⟨⟨⟨rfl, a0_f, rfl⟩, hs⟩, hk⟩ := h
    try rw [decF_enc_42 a0_f] at hs
    try rw [decF_enc_42 a0_f] at hk
    exact ⟨(fun _ _ => []), (fun _ => false), ann17, q17 (⟨a0_n, a0_f⟩ : (Sl RangeRow)) K hs hk⟩
  · exact h.elim
abbrev T24 : Tabs := Tabs.nil
theorem okT24 : TabsOk Try.prog T24 := TabsOk.nil
abbrev G24 : Ctrs := csm T24 (fun _ _ => []) (fun _ => false)
def ann24 : Ann := ⟨16, [(0, ⟨[1, 2], [2], [], [], []⟩), (1, ⟨[4], [], [], [], []⟩)],
  [],
  [],
  [], []⟩
theorem f24_top (s : Span) (percent : Int) (K : List PA → Prop) :
  vcFun Try.prog G24 ann24 24 [.agg [.int .i64 s.Low, .int .i64 s.High], .one (.int .i64 percent)] K =
  ((((100:Int) ≠ 0)) ∧
  (K [.one (.int .i64 (w64 (s.Low + (w64 ((w64 ((w64 (s.High - s.Low)) * percent)).tdiv (100:Int))))))])) := by kernel_rfl
abbrev e24 (r : Int) : List PA := [.one (.int .i64 r)]
def s24 (s : Span) (percent : Int) : Int :=
  (w64 (s.Low + (w64 ((w64 ((w64 (s.High - s.Low)) * percent)).tdiv (100:Int)))))
def p24 (s : Span) (percent : Int) : Bool :=
  (decide (((100:Int) ≠ 0)) &&
  true)
theorem q24 (s : Span) (percent : Int) (K : List PA → Prop) (hs : p24 s percent = true) (hk : K (e24 (s24 s percent))) : vcFun Try.prog G24 ann24 24 [.agg [.int .i64 s.Low, .int .i64 s.High], .one (.int .i64 percent)] K := by
  refine ofEq (f24_top s percent K) ?_
  unfold p24 at hs
  unfold s24 at hk
  exact (andK hs fun hc hs => ⟨hc, hk⟩)
def ctr24 : List PA → COut
  | [.agg [.int .i64 a0_Low, .int .i64 a0_High], .one (.int .i64 a1)] => .det (p24 (⟨a0_Low, a0_High⟩ : Span) a1 = true) [.one (.int .i64 (s24 (⟨a0_Low, a0_High⟩ : Span) a1))]
  | _ => .no
theorem call24 : Callable Try.prog 24 := ⟨_, rfl, rfl, by kernel_rfl⟩
theorem ok24 : Ok Try.prog 24 ctr24 := ok_tab okT24 call24 fun args K h => by
  unfold ctr24 at h
  split at h
  · rename_i a0_Low a0_High a1
    obtain ⟨hs, hk⟩ := h
    exact ⟨(fun _ _ => []), (fun _ => false), ann24, q24 (⟨a0_Low, a0_High⟩ : Span) a1 K hs hk⟩
  · exact h.elim
abbrev T43 : Tabs := (Tabs.nil.addF 24 ctr24)
theorem okT43 : TabsOk Try.prog T43 := (TabsOk.nil.addF ok24)
abbrev G43 : Ctrs := csm T43 (fun _ _ => []) (fun _ => false)
def ann43 : Ann := ⟨56, [(0, ⟨[0, 2, 4], [4], [], [], []⟩), (1, ⟨[0, 2, 4, 7], [4], [], [], []⟩), (2, ⟨[0, 2, 4, 7, 8], [4], [], [], []⟩), (3, ⟨[0, 2, 4, 7, 8, 13], [4], [], [], []⟩), (4, ⟨[0, 2, 4, 7, 8], [4], [], [], []⟩), (5, ⟨[0, 2, 4, 7, 8, 9], [4], [], [], []⟩), (6, ⟨[0, 2, 4, 7, 8, 9, 35], [4], [], [], []⟩), (7, ⟨[7, 9, 51], [], [], [], []⟩), (8, ⟨[6], [], [], [], []⟩), (9, ⟨[6], [], [], [], []⟩), (10, ⟨[0, 2, 4, 7, 8], [4], [], [], []⟩), (11, ⟨[6], [], [], [], []⟩)],
  [(3, ⟨[0, 2, 4, 7, 8], [4], [], [], []⟩)],
  [(6, ⟨[0, 2, 4, 7, 8, 9], [4], [], [], []⟩)],
  [], []⟩
def f43_g0 (t : (Sl RangeRow)) (n : Nature) (energy : Int) (outv0 : Int) (iv0 : Int) : St := ⟨[(0, .one (.c (.p (.sl t.len 3 (fun i => enc_42 (t.get i)))))), (2, .one (.c (.p (.int .i64 energy)))), (4, .one (.c (.ptr 4 0))), (7, .one (.c (.p (.int .i64 outv0)))), (8, .one (.c (.p (.int .i64 iv0))))], [(4, .box 39 [.p (.sl n.Ranges.len 1 (fun i => enc_3 (n.Ranges.get i))), .p (.sl n.Rates.len 1 (fun i => enc_3 (n.Rates.get i))), .p (.bool n.Soon)])], []⟩
def f43_at0 (K : List PA → Prop) (t : (Sl RangeRow)) (n : Nature) (energy : Int) (outv0 : Int) (iv0 : Int) : Prop := vc Try.prog G43 ann43 (cdF Try.f43 [1, 1, 0, 1, 0]) (blockK 0 (sqK Try.prog G43 ann43 (cdF Try.f43 [1, 1, 1]) (bodyK Try.prog Try.f43 K))) (f43_g0 t n energy outv0 iv0)
def f43_g1 (t : (Sl RangeRow)) (n : Nature) (energy : Int) (outv1 : Int) (iv1 : Int) (xv1 : Int) : St := ⟨[(0, .one (.c (.p (.sl t.len 3 (fun i => enc_42 (t.get i)))))), (2, .one (.c (.p (.int .i64 energy)))), (4, .one (.c (.ptr 4 0))), (7, .one (.c (.p (.int .i64 outv1)))), (8, .one (.c (.p (.int .i64 iv1)))), (9, .one (.c (.p (.int .i64 xv1))))], [(4, .box 39 [.p (.sl n.Ranges.len 1 (fun i => enc_3 (n.Ranges.get i))), .p (.sl n.Rates.len 1 (fun i => enc_3 (n.Rates.get i))), .p (.bool n.Soon)])], []⟩
def f43_at1 (K : List PA → Prop) (X0 : St → Prop) (t : (Sl RangeRow)) (n : Nature) (energy : Int) (outv1 : Int) (iv1 : Int) (xv1 : Int) : Prop := vc Try.prog G43 ann43 (cdF Try.f43 [1, 1, 0, 1, 0, 0, 1, 0, 0, 1]) (blockK 1 (sqK Try.prog G43 ann43 (cdF Try.f43 [1, 1, 0, 1, 0, 0, 1, 1]) (loopK Try.prog ann43 3 X0 (blockK 0 (sqK Try.prog G43 ann43 (cdF Try.f43 [1, 1, 1]) (bodyK Try.prog Try.f43 K)))))) (f43_g1 t n energy outv1 iv1 xv1)
theorem f43_top (t : (Sl RangeRow)) (n : Nature) (energy : Int) (K : List PA → Prop) :
  vcFun Try.prog G43 ann43 43 [.one (.sl t.len 3 (fun i => enc_42 (t.get i))), .agg [.sl n.Ranges.len 1 (fun i => enc_3 (n.Ranges.get i)), .sl n.Rates.len 1 (fun i => enc_3 (n.Rates.get i)), .bool n.Soon], .one (.int .i64 energy)] K =
  (f43_at0 K t n energy (0:Int) (0:Int)) := by kernel_rfl
def f43_step0 (K : List PA → Prop) (X0 : St → Prop) (t : (Sl RangeRow)) (n : Nature) (energy : Int) (outv0 : Int) (iv0 : Int) : Prop :=
  (condP (decide (iv0 < (t.len : Int)))
   (((0 ≤ iv0 ∧ iv0 < (t.len : Int))) ∧
   (((0 ≤ iv0 ∧ iv0 < (n.Ranges.len : Int))) ∧
   (((p24 ((t.get iv0.toNat).Range) (n.Ranges.get iv0.toNat) = true)) ∧
   (f43_at1 K X0 t n energy outv0 iv0 (if (s24 ((t.get iv0.toNat).Range) (n.Ranges.get iv0.toNat)) > outv0 then (s24 ((t.get iv0.toNat).Range) (n.Ranges.get iv0.toNat)) else outv0)))))
   (K [.one (.int .i64 outv0)]))
theorem f43_stepeq0 (K : List PA → Prop) (X0 : St → Prop) (t : (Sl RangeRow)) (n : Nature) (energy : Int) (outv0 : Int) (iv0 : Int) :
  vc Try.prog G43 ann43 (cd (cdF Try.f43 [1, 1, 0, 1, 0]) [0]) (loopK Try.prog ann43 3 X0 (blockK 0 (sqK Try.prog G43 ann43 (cdF Try.f43 [1, 1, 1]) (bodyK Try.prog Try.f43 K)))) (f43_g0 t n energy outv0 iv0) =
  f43_step0 K X0 t n energy outv0 iv0 := by kernel_rfl
theorem f43_loop0 (K : List PA → Prop) (t : (Sl RangeRow)) (n : Nature) (energy : Int) (outv0 : Int) (iv0 : Int)
  (h : ∀ X0 : St → Prop, (∀ (outv0 : Int) (iv0 : Int), f43_step0 K X0 t n energy outv0 iv0 → X0 (f43_g0 t n energy outv0 iv0)) → X0 (f43_g0 t n energy outv0 iv0)) :
  f43_at0 K t n energy outv0 iv0 := by
  have e : f43_at0 K t n energy outv0 iv0 = (∀ X : St → Prop, (∀ s, vc Try.prog G43 ann43 (cd (cdF Try.f43 [1, 1, 0, 1, 0]) [0]) (loopK Try.prog ann43 3 X (blockK 0 (sqK Try.prog G43 ann43 (cdF Try.f43 [1, 1, 1]) (bodyK Try.prog Try.f43 K)))) s → X s) → X (f43_g0 t n energy outv0 iv0)) := by kernel_rfl
  refine ofEq e ?_
  intro X hX
  refine h X ?_
  intro outv0 iv0 hs
  refine hX _ ?_
  have e2 := f43_stepeq0 K X t n energy outv0 iv0
  rw [e2]
  exact hs
theorem f43_eq1 (K : List PA → Prop) (X0 : St → Prop) (t : (Sl RangeRow)) (n : Nature) (energy : Int) (outv1 : Int) (iv1 : Int) (xv1 : Int) :
  f43_at1 K X0 t n energy outv1 iv1 xv1 =
  (((0 ≤ iv1 ∧ iv1 < (t.len : Int))) ∧
  (condP (decide ((t.get iv1.toNat).Energy > energy))
   (condP n.Soon
    (condP (iv1 == (0:Int))
     (K [.one (.int .i64 xv1)])
     (((0 ≤ (w64 (iv1 - (1:Int))) ∧ (w64 (iv1 - (1:Int))) < (t.len : Int))) ∧
     (condP (decide ((t.get ((w64 (iv1 - (1:Int))).toNat)).Energy < energy))
      (K [.one (.int .i64 xv1)])
      (K [.one (.int .i64 outv1)]))))
    (K [.one (.int .i64 outv1)]))
   (X0 (f43_g0 t n energy xv1 (w64 (iv1 + (1:Int))))))) := by kernel_rfl
abbrev e43 (r : Int) : List PA := [.one (.int .i64 r)]
attribute [irreducible] f43_at0 f43_at1
def s43_at1 (S0 : Int → Int → Int) (t : (Sl RangeRow)) (n : Nature) (energy : Int) (outv1 : Int) (iv1 : Int) (xv1 : Int) : Int :=
  (cond (decide ((t.get iv1.toNat).Energy > energy))
   (cond n.Soon
    (cond (iv1 == (0:Int))
     xv1
     (cond (decide ((t.get ((w64 (iv1 - (1:Int))).toNat)).Energy < energy))
      xv1
      outv1))
    outv1)
   (S0 xv1 (w64 (iv1 + (1:Int)))))
def p43_at1 (P0 : Int → Int → Bool) (t : (Sl RangeRow)) (n : Nature) (energy : Int) (outv1 : Int) (iv1 : Int) (xv1 : Int) : Bool :=
  (decide ((0 ≤ iv1 ∧ iv1 < (t.len : Int))) &&
  (cond (decide ((t.get iv1.toNat).Energy > energy))
   (cond n.Soon
    (cond (iv1 == (0:Int))
     true
     (decide ((0 ≤ (w64 (iv1 - (1:Int))) ∧ (w64 (iv1 - (1:Int))) < (t.len : Int))) &&
     true))
    true)
   (P0 xv1 (w64 (iv1 + (1:Int))))))
theorem q43_at1 (K : List PA → Prop) (t : (Sl RangeRow)) (n : Nature) (energy : Int)
  (X0 : St → Prop) (P0 : Int → Int → Bool) (S0 : Int → Int → Int)
  (hX0 : ∀ (outv0 : Int) (iv0 : Int), P0 outv0 iv0 = true → K (e43 (S0 outv0 iv0)) → X0 (f43_g0 t n energy outv0 iv0)) (outv1 : Int) (iv1 : Int) (xv1 : Int) (hs : p43_at1 P0 t n energy outv1 iv1 xv1 = true) (hk : K (e43 (s43_at1 S0 t n energy outv1 iv1 xv1))) : f43_at1 K X0 t n energy outv1 iv1 xv1 := by
  refine ofEq (f43_eq1 K X0 t n energy outv1 iv1 xv1) ?_
  unfold p43_at1 at hs
  unfold s43_at1 at hk
  exact (andK hs fun hc hs => ⟨hc, (condB_go (K := fun r => K (e43 r))
   (fun hs hk => (condB_go (K := fun r => K (e43 r))
    (fun hs hk => (condB_go (K := fun r => K (e43 r))
     (fun hs hk => hk)
     (fun hs hk => (andK hs fun hc hs => ⟨hc, (condP_gt (K := fun r => K (e43 r))
      (fun hk => hk)
      (fun hk => hk) hk)⟩)) hs hk))
    (fun hs hk => hk) hs hk))
   (fun hs hk => (hX0 xv1 (w64 (iv1 + (1:Int))) hs hk)) hs hk)⟩)
def s43_st0 (t : (Sl RangeRow)) (n : Nature) (energy : Int) (S0 : Int → Int → Int) (outv0 : Int) (iv0 : Int) : Int :=
  (cond (decide (iv0 < (t.len : Int)))
   (s43_at1 S0 t n energy outv0 iv0 (if (s24 ((t.get iv0.toNat).Range) (n.Ranges.get iv0.toNat)) > outv0 then (s24 ((t.get iv0.toNat).Range) (n.Ranges.get iv0.toNat)) else outv0))
   outv0)
def p43_st0 (t : (Sl RangeRow)) (n : Nature) (energy : Int) (P0 : Int → Int → Bool) (outv0 : Int) (iv0 : Int) : Bool :=
  (cond (decide (iv0 < (t.len : Int)))
   (decide ((0 ≤ iv0 ∧ iv0 < (t.len : Int))) &&
   (decide ((0 ≤ iv0 ∧ iv0 < (n.Ranges.len : Int))) &&
   (decide ((p24 ((t.get iv0.toNat).Range) (n.Ranges.get iv0.toNat) = true)) &&
   (p43_at1 P0 t n energy outv0 iv0 (if (s24 ((t.get iv0.toNat).Range) (n.Ranges.get iv0.toNat)) > outv0 then (s24 ((t.get iv0.toNat).Range) (n.Ranges.get iv0.toNat)) else outv0)))))
   true)
def s43_lp0 (t : (Sl RangeRow)) (n : Nature) (energy : Int) : Nat → Int → Int → Int
  | 0 => fun _ _ => default
  | k + 1 => s43_st0 t n energy (s43_lp0 t n energy k)
def p43_lp0 (t : (Sl RangeRow)) (n : Nature) (energy : Int) : Nat → Int → Int → Bool
  | 0 => fun _ _ => false
  | k + 1 => p43_st0 t n energy (p43_lp0 t n energy k)
def s43_at0 (t : (Sl RangeRow)) (n : Nature) (energy : Int) (outv0 : Int) (iv0 : Int) : Int := s43_lp0 t n energy Fuel outv0 iv0
def p43_at0 (t : (Sl RangeRow)) (n : Nature) (energy : Int) (outv0 : Int) (iv0 : Int) : Bool := p43_lp0 t n energy Fuel outv0 iv0
theorem q43_at0 (K : List PA → Prop) (t : (Sl RangeRow)) (n : Nature) (energy : Int) (outv0 : Int) (iv0 : Int) (hs : p43_at0 t n energy outv0 iv0 = true) (hk : K (e43 (s43_at0 t n energy outv0 iv0))) : f43_at0 K t n energy outv0 iv0 := by
  refine f43_loop0 K t n energy outv0 iv0 ?_
  intro X0 hstep
  have key : ∀ (k : Nat) (outv0 : Int) (iv0 : Int), p43_lp0 t n energy k outv0 iv0 = true → K (e43 (s43_lp0 t n energy k outv0 iv0)) → X0 (f43_g0 t n energy outv0 iv0) := by
    intro k
    induction k with
    | zero => intro outv0 iv0 hs; exact absurd hs Bool.false_ne_true
    | succ k ih =>
      intro outv0 iv0 hs hk
      refine hstep outv0 iv0 ?_
      have hs : p43_st0 t n energy (p43_lp0 t n energy k) outv0 iv0 = true := hs
      have hk : K (e43 (s43_st0 t n energy (s43_lp0 t n energy k) outv0 iv0)) := hk
      unfold p43_st0 at hs
      unfold s43_st0 at hk
      generalize s43_lp0 t n energy k = S0 at hk ih
      generalize p43_lp0 t n energy k = P0 at hs ih
      have hX0 := ih
      exact (condB_go (K := fun r => K (e43 r))
       (fun hs hk => (andK hs fun hc hs => ⟨hc, (andK hs fun hc hs => ⟨hc, (andK hs fun hc hs => ⟨hc, (q43_at1 K t n energy X0 P0 S0 hX0 outv0 iv0 (if (s24 ((t.get iv0.toNat).Range) (n.Ranges.get iv0.toNat)) > outv0 then (s24 ((t.get iv0.toNat).Range) (n.Ranges.get iv0.toNat)) else outv0) hs hk)⟩)⟩)⟩))
       (fun hs hk => hk) hs hk)
  exact key _ outv0 iv0 hs hk
def s43 (t : (Sl RangeRow)) (n : Nature) (energy : Int) : Int :=
  (s43_at0 t n energy (0:Int) (0:Int))
def p43 (t : (Sl RangeRow)) (n : Nature) (energy : Int) : Bool :=
  (p43_at0 t n energy (0:Int) (0:Int))
theorem q43 (t : (Sl RangeRow)) (n : Nature) (energy : Int) (K : List PA → Prop) (hs : p43 t n energy = true) (hk : K (e43 (s43 t n energy))) : vcFun Try.prog G43 ann43 43 [.one (.sl t.len 3 (fun i => enc_42 (t.get i))), .agg [.sl n.Ranges.len 1 (fun i => enc_3 (n.Ranges.get i)), .sl n.Rates.len 1 (fun i => enc_3 (n.Rates.get i)), .bool n.Soon], .one (.int .i64 energy)] K := by
  refine ofEq (f43_top t n energy K) ?_
  unfold p43 at hs
  unfold s43 at hk
  exact (q43_at0 K t n energy (0:Int) (0:Int) hs hk)
def ctr43 : List PA → COut
  | [.one (.sl a0_n a0_s a0_g), .agg [.sl a1_Ranges_n a1_Ranges_s a1_Ranges_g, .sl a1_Rates_n a1_Rates_s a1_Rates_g, .bool a1_Soon], .one (.int .i64 a2)] => .det (IsE enc_42 3 a0_s a0_g ∧ IsE enc_3 1 a1_Ranges_s a1_Ranges_g ∧ IsE enc_3 1 a1_Rates_s a1_Rates_g ∧ p43 (⟨a0_n, decF_42 a0_g⟩ : (Sl RangeRow)) (⟨(⟨a1_Ranges_n, decF_3 a1_Ranges_g⟩ : (Sl Int)), (⟨a1_Rates_n, decF_3 a1_Rates_g⟩ : (Sl Int)), a1_Soon⟩ : Nature) a2 = true) [.one (.int .i64 (s43 (⟨a0_n, decF_42 a0_g⟩ : (Sl RangeRow)) (⟨(⟨a1_Ranges_n, decF_3 a1_Ranges_g⟩ : (Sl Int)), (⟨a1_Rates_n, decF_3 a1_Rates_g⟩ : (Sl Int)), a1_Soon⟩ : Nature) a2))]
  | _ => .no
theorem call43 : Callable Try.prog 43 := ⟨_, rfl, rfl, by kernel_rfl⟩
theorem ok43 : Ok Try.prog 43 ctr43 := ok_tab okT43 call43 fun args K h => by
  unfold ctr43 at h
  split at h
  · rename_i a0_n a0_s a0_g a1_Ranges_n a1_Ranges_s a1_Ranges_g a1_Rates_n a1_Rates_s a1_Rates_g a1_Soon a2
    obtain ⟨⟨⟨rfl, a0_f, rfl⟩, ⟨rfl, a1_Ranges_f, rfl⟩, ⟨rfl, a1_Rates_f, rfl⟩, hs⟩, hk⟩ := h
    try rw [decF_enc_42 a0_f] at hs
    try rw [decF_enc_42 a0_f] at hk
    try rw [decF_enc_3 a1_Ranges_f] at hs
    try rw [decF_enc_3 a1_Ranges_f] at hk
    try rw [decF_enc_3 a1_Rates_f] at hs
    try rw [decF_enc_3 a1_Rates_f] at hk
    exact ⟨(fun _ _ => []), (fun _ => false), ann43, q43 (⟨a0_n, a0_f⟩ : (Sl RangeRow)) (⟨(⟨a1_Ranges_n, a1_Ranges_f⟩ : (Sl Int)), (⟨a1_Rates_n, a1_Rates_f⟩ : (Sl Int)), a1_Soon⟩ : Nature) a2 K hs hk⟩
  · exact h.elim
end Go.Proofs
namespace Go.Proofs
open Go Go.Pm
set_option maxRecDepth 100000
set_option linter.unusedVariables false
attribute [local irreducible] Go.Pm.vcFun Go.Pm.vc Go.Pm.vcIter
abbrev T21 : Tabs := (Tabs.nil.addF 43 ctr43)
theorem okT21 : TabsOk Try.prog T21 := (TabsOk.nil.addF ok43)
abbrev G21 : Ctrs := csm T21 (fun _ _ => []) (fun _ => false)
def ann21 : Ann := ⟨74, [(0, ⟨[0, 2, 4], [4], [], [], []⟩), (1, ⟨[0, 2, 4, 7], [4], [], [], []⟩), (2, ⟨[0, 2, 4, 7, 11], [4], [], [], []⟩), (3, ⟨[0, 2, 4, 7], [4], [], [], []⟩), (4, ⟨[0, 2, 4, 7, 15], [4], [], [], []⟩), (5, ⟨[0, 2, 4, 7, 20], [4], [], [], []⟩), (6, ⟨[6], [], [], [], []⟩), (7, ⟨[0, 2, 4, 7, 45], [4], [], [], []⟩), (8, ⟨[6], [], [], [], []⟩), (9, ⟨[0, 2, 4, 7, 68], [4], [], [], []⟩), (10, ⟨[6], [], [], [], []⟩), (11, ⟨[6], [], [], [], []⟩)],
  [(2, ⟨[0, 2, 4, 7], [4], [], [], []⟩)],
  [(6, ⟨[0, 2, 4, 7, 20], [4], [], [], []⟩), (8, ⟨[0, 2, 4, 7, 45], [4], [], [], []⟩), (9, ⟨[0, 2, 4, 7], [4], [], [], []⟩), (10, ⟨[0, 2, 4, 7, 68], [4], [], [], []⟩)],
  [], []⟩
def f21_g0 (t : (Sl RangeRow)) (n : Nature) (opacity : Int) (iv0 : Int) : St := ⟨[(0, .one (.c (.p (.sl t.len 3 (fun i => enc_42 (t.get i)))))), (2, .one (.c (.p (.int .i64 opacity)))), (4, .one (.c (.ptr 4 0))), (7, .one (.c (.p (.int .i64 iv0))))], [(4, .box 39 [.p (.sl n.Ranges.len 1 (fun i => enc_3 (n.Ranges.get i))), .p (.sl n.Rates.len 1 (fun i => enc_3 (n.Rates.get i))), .p (.bool n.Soon)])], []⟩
def f21_at0 (K : List PA → Prop) (t : (Sl RangeRow)) (n : Nature) (opacity : Int) (iv0 : Int) : Prop := vc Try.prog G21 ann21 (cdF Try.f21 [1, 0, 1, 0]) (blockK 0 (sqK Try.prog G21 ann21 (cdF Try.f21 [1, 1]) (bodyK Try.prog Try.f21 K))) (f21_g0 t n opacity iv0)
def f21_g1 (t : (Sl RangeRow)) (n : Nature) (opacity : Int) (iv1 : Int) (t20v1 : Bool) : St := ⟨[(0, .one (.c (.p (.sl t.len 3 (fun i => enc_42 (t.get i)))))), (2, .one (.c (.p (.int .i64 opacity)))), (4, .one (.c (.ptr 4 0))), (7, .one (.c (.p (.int .i64 iv1)))), (20, .one (.c (.p (.bool t20v1))))], [(4, .box 39 [.p (.sl n.Ranges.len 1 (fun i => enc_3 (n.Ranges.get i))), .p (.sl n.Rates.len 1 (fun i => enc_3 (n.Rates.get i))), .p (.bool n.Soon)])], []⟩
def f21_at1 (K : List PA → Prop) (X0 : St → Prop) (t : (Sl RangeRow)) (n : Nature) (opacity : Int) (iv1 : Int) (t20v1 : Bool) : Prop := vc Try.prog G21 ann21 (cdF Try.f21 [1, 0, 1, 0, 0, 1, 0, 0, 0, 1, 0, 1]) (sqK Try.prog G21 ann21 (cdF Try.f21 [1, 0, 1, 0, 0, 1, 0, 0, 1]) (blockK 1 (sqK Try.prog G21 ann21 (cdF Try.f21 [1, 0, 1, 0, 0, 1, 1]) (loopK Try.prog ann21 2 X0 (blockK 0 (sqK Try.prog G21 ann21 (cdF Try.f21 [1, 1]) (bodyK Try.prog Try.f21 K))))))) (f21_g1 t n opacity iv1 t20v1)
def f21_g2 (t : (Sl RangeRow)) (n : Nature) (opacity : Int) (iv2 : Int) (t45v2 : Bool) : St := ⟨[(0, .one (.c (.p (.sl t.len 3 (fun i => enc_42 (t.get i)))))), (2, .one (.c (.p (.int .i64 opacity)))), (4, .one (.c (.ptr 4 0))), (7, .one (.c (.p (.int .i64 iv2)))), (45, .one (.c (.p (.bool t45v2))))], [(4, .box 39 [.p (.sl n.Ranges.len 1 (fun i => enc_3 (n.Ranges.get i))), .p (.sl n.Rates.len 1 (fun i => enc_3 (n.Rates.get i))), .p (.bool n.Soon)])], []⟩
def f21_at2 (K : List PA → Prop) (X0 : St → Prop) (t : (Sl RangeRow)) (n : Nature) (opacity : Int) (iv2 : Int) (t45v2 : Bool) : Prop := vc Try.prog G21 ann21 (cdF Try.f21 [1, 0, 1, 0, 0, 1, 0, 0, 0, 1, 1, 1]) (sqK Try.prog G21 ann21 (cdF Try.f21 [1, 0, 1, 0, 0, 1, 0, 0, 1]) (blockK 1 (sqK Try.prog G21 ann21 (cdF Try.f21 [1, 0, 1, 0, 0, 1, 1]) (loopK Try.prog ann21 2 X0 (blockK 0 (sqK Try.prog G21 ann21 (cdF Try.f21 [1, 1]) (bodyK Try.prog Try.f21 K))))))) (f21_g2 t n opacity iv2 t45v2)
def f21_g3 (t : (Sl RangeRow)) (n : Nature) (opacity : Int) (iv3 : Int) : St := ⟨[(0, .one (.c (.p (.sl t.len 3 (fun i => enc_42 (t.get i)))))), (2, .one (.c (.p (.int .i64 opacity)))), (4, .one (.c (.ptr 4 0))), (7, .one (.c (.p (.int .i64 iv3))))], [(4, .box 39 [.p (.sl n.Ranges.len 1 (fun i => enc_3 (n.Ranges.get i))), .p (.sl n.Rates.len 1 (fun i => enc_3 (n.Rates.get i))), .p (.bool n.Soon)])], []⟩
def f21_at3 (K : List PA → Prop) (X0 : St → Prop) (t : (Sl RangeRow)) (n : Nature) (opacity : Int) (iv3 : Int) : Prop := vc Try.prog G21 ann21 (cdF Try.f21 [1, 0, 1, 0, 0, 1, 0, 0, 1]) (blockK 1 (sqK Try.prog G21 ann21 (cdF Try.f21 [1, 0, 1, 0, 0, 1, 1]) (loopK Try.prog ann21 2 X0 (blockK 0 (sqK Try.prog G21 ann21 (cdF Try.f21 [1, 1]) (bodyK Try.prog Try.f21 K)))))) (f21_g3 t n opacity iv3)
def f21_g4 (t : (Sl RangeRow)) (n : Nature) (opacity : Int) (iv4 : Int) (t68v4 : Bool) : St := ⟨[(0, .one (.c (.p (.sl t.len 3 (fun i => enc_42 (t.get i)))))), (2, .one (.c (.p (.int .i64 opacity)))), (4, .one (.c (.ptr 4 0))), (7, .one (.c (.p (.int .i64 iv4)))), (68, .one (.c (.p (.bool t68v4))))], [(4, .box 39 [.p (.sl n.Ranges.len 1 (fun i => enc_3 (n.Ranges.get i))), .p (.sl n.Rates.len 1 (fun i => enc_3 (n.Rates.get i))), .p (.bool n.Soon)])], []⟩
def f21_at4 (K : List PA → Prop) (X0 : St → Prop) (t : (Sl RangeRow)) (n : Nature) (opacity : Int) (iv4 : Int) (t68v4 : Bool) : Prop := vc Try.prog G21 ann21 (cdF Try.f21 [1, 0, 1, 0, 0, 1, 0, 0, 1, 1]) (blockK 1 (sqK Try.prog G21 ann21 (cdF Try.f21 [1, 0, 1, 0, 0, 1, 1]) (loopK Try.prog ann21 2 X0 (blockK 0 (sqK Try.prog G21 ann21 (cdF Try.f21 [1, 1]) (bodyK Try.prog Try.f21 K)))))) (f21_g4 t n opacity iv4 t68v4)
theorem f21_top (t : (Sl RangeRow)) (n : Nature) (opacity : Int) (K : List PA → Prop) :
  vcFun Try.prog G21 ann21 21 [.one (.sl t.len 3 (fun i => enc_42 (t.get i))), .agg [.sl n.Ranges.len 1 (fun i => enc_3 (n.Ranges.get i)), .sl n.Rates.len 1 (fun i => enc_3 (n.Rates.get i)), .bool n.Soon], .one (.int .i64 opacity)] K =
  (f21_at0 K t n opacity (0:Int)) := by kernel_rfl
def f21_step0 (K : List PA → Prop) (X0 : St → Prop) (t : (Sl RangeRow)) (n : Nature) (opacity : Int) (iv0 : Int) : Prop :=
  (condP (decide (iv0 ≤ (t.len : Int)))
   (condP (iv0 == (0:Int))
    ((IsE enc_42 3 3 (fun i => enc_42 (t.get i)) ∧ IsE enc_3 1 1 (fun i => enc_3 (n.Ranges.get i)) ∧ IsE enc_3 1 1 (fun i => enc_3 (n.Rates.get i)) ∧ (p43 t n (1:Int) = true)) ∧
    (f21_at1 K X0 t n opacity iv0 (decide ((s43 t n (1:Int)) ≥ opacity))))
    (((0 ≤ (w64 (iv0 - (1:Int))) ∧ (w64 (iv0 - (1:Int))) < (t.len : Int))) ∧
    ((IsE enc_42 3 3 (fun i => enc_42 (t.get i)) ∧ IsE enc_3 1 1 (fun i => enc_3 (n.Ranges.get i)) ∧ IsE enc_3 1 1 (fun i => enc_3 (n.Rates.get i)) ∧ (p43 t n (w64 ((t.get ((w64 (iv0 - (1:Int))).toNat)).Energy + (1:Int))) = true)) ∧
    (condP (decide ((s43 t n (w64 ((t.get ((w64 (iv0 - (1:Int))).toNat)).Energy + (1:Int)))) ≥ opacity))
     (((0 ≤ (w64 (iv0 - (1:Int))) ∧ (w64 (iv0 - (1:Int))) < (t.len : Int))) ∧
     ((IsE enc_42 3 3 (fun i => enc_42 (t.get i)) ∧ IsE enc_3 1 1 (fun i => enc_3 (n.Ranges.get i)) ∧ IsE enc_3 1 1 (fun i => enc_3 (n.Rates.get i)) ∧ (p43 t n ((t.get ((w64 (iv0 - (1:Int))).toNat)).Energy) = true)) ∧
     (f21_at2 K X0 t n opacity iv0 (decide ((s43 t n ((t.get ((w64 (iv0 - (1:Int))).toNat)).Energy)) < opacity)))))
     (f21_at2 K X0 t n opacity iv0 false)))))
   (K [.one (.int .i64 (0:Int))]))
theorem f21_stepeq0 (K : List PA → Prop) (X0 : St → Prop) (t : (Sl RangeRow)) (n : Nature) (opacity : Int) (iv0 : Int) :
  vc Try.prog G21 ann21 (cd (cdF Try.f21 [1, 0, 1, 0]) [0]) (loopK Try.prog ann21 2 X0 (blockK 0 (sqK Try.prog G21 ann21 (cdF Try.f21 [1, 1]) (bodyK Try.prog Try.f21 K)))) (f21_g0 t n opacity iv0) =
  f21_step0 K X0 t n opacity iv0 := by kernel_rfl
theorem f21_loop0 (K : List PA → Prop) (t : (Sl RangeRow)) (n : Nature) (opacity : Int) (iv0 : Int)
  (h : ∀ X0 : St → Prop, (∀ (iv0 : Int), f21_step0 K X0 t n opacity iv0 → X0 (f21_g0 t n opacity iv0)) → X0 (f21_g0 t n opacity iv0)) :
  f21_at0 K t n opacity iv0 := by
  have e : f21_at0 K t n opacity iv0 = (∀ X : St → Prop, (∀ s, vc Try.prog G21 ann21 (cd (cdF Try.f21 [1, 0, 1, 0]) [0]) (loopK Try.prog ann21 2 X (blockK 0 (sqK Try.prog G21 ann21 (cdF Try.f21 [1, 1]) (bodyK Try.prog Try.f21 K)))) s → X s) → X (f21_g0 t n opacity iv0)) := by kernel_rfl
  refine ofEq e ?_
  intro X hX
  refine h X ?_
  intro iv0 hs
  refine hX _ ?_
  have e2 := f21_stepeq0 K X t n opacity iv0
  rw [e2]
  exact hs
theorem f21_eq1 (K : List PA → Prop) (X0 : St → Prop) (t : (Sl RangeRow)) (n : Nature) (opacity : Int) (iv1 : Int) (t20v1 : Bool) :
  f21_at1 K X0 t n opacity iv1 t20v1 =
  (condP t20v1
   (K [.one (.int .i64 (1:Int))])
   (f21_at3 K X0 t n opacity iv1)) := by kernel_rfl
theorem f21_eq2 (K : List PA → Prop) (X0 : St → Prop) (t : (Sl RangeRow)) (n : Nature) (opacity : Int) (iv2 : Int) (t45v2 : Bool) :
  f21_at2 K X0 t n opacity iv2 t45v2 =
  (condP t45v2
   (((0 ≤ (w64 (iv2 - (1:Int))) ∧ (w64 (iv2 - (1:Int))) < (t.len : Int))) ∧
   (K [.one (.int .i64 (w64 ((t.get ((w64 (iv2 - (1:Int))).toNat)).Energy + (1:Int))))]))
   (f21_at3 K X0 t n opacity iv2)) := by kernel_rfl
theorem f21_eq3 (K : List PA → Prop) (X0 : St → Prop) (t : (Sl RangeRow)) (n : Nature) (opacity : Int) (iv3 : Int) :
  f21_at3 K X0 t n opacity iv3 =
  (condP (decide (iv3 < (t.len : Int)))
   (((0 ≤ iv3 ∧ iv3 < (t.len : Int))) ∧
   ((IsE enc_42 3 3 (fun i => enc_42 (t.get i)) ∧ IsE enc_3 1 1 (fun i => enc_3 (n.Ranges.get i)) ∧ IsE enc_3 1 1 (fun i => enc_3 (n.Rates.get i)) ∧ (p43 t n ((t.get iv3.toNat).Energy) = true)) ∧
   (f21_at4 K X0 t n opacity iv3 (decide ((s43 t n ((t.get iv3.toNat).Energy)) ≥ opacity)))))
   (f21_at4 K X0 t n opacity iv3 false)) := by kernel_rfl
theorem f21_eq4 (K : List PA → Prop) (X0 : St → Prop) (t : (Sl RangeRow)) (n : Nature) (opacity : Int) (iv4 : Int) (t68v4 : Bool) :
  f21_at4 K X0 t n opacity iv4 t68v4 =
  (condP t68v4
   (((0 ≤ iv4 ∧ iv4 < (t.len : Int))) ∧
   (K [.one (.int .i64 ((t.get iv4.toNat).Energy))]))
   (X0 (f21_g0 t n opacity (w64 (iv4 + (1:Int)))))) := by kernel_rfl
abbrev e21 (r : Int) : List PA := [.one (.int .i64 r)]
attribute [irreducible] f21_at0 f21_at1 f21_at2 f21_at3 f21_at4
def s21_at4 (S0 : Int → Int) (t : (Sl RangeRow)) (n : Nature) (opacity : Int) (iv4 : Int) (t68v4 : Bool) : Int :=
  (cond t68v4
   (t.get iv4.toNat).Energy
   (S0 (w64 (iv4 + (1:Int)))))
def p21_at4 (P0 : Int → Bool) (t : (Sl RangeRow)) (n : Nature) (opacity : Int) (iv4 : Int) (t68v4 : Bool) : Bool :=
  (cond t68v4
   (decide ((0 ≤ iv4 ∧ iv4 < (t.len : Int))) &&
   true)
   (P0 (w64 (iv4 + (1:Int)))))
theorem q21_at4 (K : List PA → Prop) (t : (Sl RangeRow)) (n : Nature) (opacity : Int)
  (X0 : St → Prop) (P0 : Int → Bool) (S0 : Int → Int)
  (hX0 : ∀ (iv0 : Int), P0 iv0 = true → K (e21 (S0 iv0)) → X0 (f21_g0 t n opacity iv0)) (iv4 : Int) (t68v4 : Bool) (hs : p21_at4 P0 t n opacity iv4 t68v4 = true) (hk : K (e21 (s21_at4 S0 t n opacity iv4 t68v4))) : f21_at4 K X0 t n opacity iv4 t68v4 := by
  refine ofEq (f21_eq4 K X0 t n opacity iv4 t68v4) ?_
  unfold p21_at4 at hs
  unfold s21_at4 at hk
  exact (condB_go (K := fun r => K (e21 r))
   (fun hs hk => (andK hs fun hc hs => ⟨hc, hk⟩))
   (fun hs hk => (hX0 (w64 (iv4 + (1:Int))) hs hk)) hs hk)
def s21_at3 (S0 : Int → Int) (t : (Sl RangeRow)) (n : Nature) (opacity : Int) (iv3 : Int) : Int :=
  (cond (decide (iv3 < (t.len : Int)))
   (s21_at4 S0 t n opacity iv3 (decide ((s43 t n ((t.get iv3.toNat).Energy)) ≥ opacity)))
   (s21_at4 S0 t n opacity iv3 false))
def p21_at3 (P0 : Int → Bool) (t : (Sl RangeRow)) (n : Nature) (opacity : Int) (iv3 : Int) : Bool :=
  (cond (decide (iv3 < (t.len : Int)))
   (decide ((0 ≤ iv3 ∧ iv3 < (t.len : Int))) &&
   (decide ((p43 t n ((t.get iv3.toNat).Energy) = true)) &&
   (p21_at4 P0 t n opacity iv3 (decide ((s43 t n ((t.get iv3.toNat).Energy)) ≥ opacity)))))
   (p21_at4 P0 t n opacity iv3 false))
theorem q21_at3 (K : List PA → Prop) (t : (Sl RangeRow)) (n : Nature) (opacity : Int)
  (X0 : St → Prop) (P0 : Int → Bool) (S0 : Int → Int)
  (hX0 : ∀ (iv0 : Int), P0 iv0 = true → K (e21 (S0 iv0)) → X0 (f21_g0 t n opacity iv0)) (iv3 : Int) (hs : p21_at3 P0 t n opacity iv3 = true) (hk : K (e21 (s21_at3 S0 t n opacity iv3))) : f21_at3 K X0 t n opacity iv3 := by
  refine ofEq (f21_eq3 K X0 t n opacity iv3) ?_
  unfold p21_at3 at hs
  unfold s21_at3 at hk
  exact (condB_go (K := fun r => K (e21 r))
   (fun hs hk => (andK hs fun hc hs => ⟨hc, (andK hs fun hc hs => ⟨⟨isE, isE, isE, hc⟩, (q21_at4 K t n opacity X0 P0 S0 hX0 iv3 (decide ((s43 t n ((t.get iv3.toNat).Energy)) ≥ opacity)) hs hk)⟩)⟩))
   (fun hs hk => (q21_at4 K t n opacity X0 P0 S0 hX0 iv3 false hs hk)) hs hk)
def s21_at2 (S0 : Int → Int) (t : (Sl RangeRow)) (n : Nature) (opacity : Int) (iv2 : Int) (t45v2 : Bool) : Int :=
  (cond t45v2
   (w64 ((t.get ((w64 (iv2 - (1:Int))).toNat)).Energy + (1:Int)))
   (s21_at3 S0 t n opacity iv2))
def p21_at2 (P0 : Int → Bool) (t : (Sl RangeRow)) (n : Nature) (opacity : Int) (iv2 : Int) (t45v2 : Bool) : Bool :=
  (cond t45v2
   (decide ((0 ≤ (w64 (iv2 - (1:Int))) ∧ (w64 (iv2 - (1:Int))) < (t.len : Int))) &&
   true)
   (p21_at3 P0 t n opacity iv2))
theorem q21_at2 (K : List PA → Prop) (t : (Sl RangeRow)) (n : Nature) (opacity : Int)
  (X0 : St → Prop) (P0 : Int → Bool) (S0 : Int → Int)
  (hX0 : ∀ (iv0 : Int), P0 iv0 = true → K (e21 (S0 iv0)) → X0 (f21_g0 t n opacity iv0)) (iv2 : Int) (t45v2 : Bool) (hs : p21_at2 P0 t n opacity iv2 t45v2 = true) (hk : K (e21 (s21_at2 S0 t n opacity iv2 t45v2))) : f21_at2 K X0 t n opacity iv2 t45v2 := by
  refine ofEq (f21_eq2 K X0 t n opacity iv2 t45v2) ?_
  unfold p21_at2 at hs
  unfold s21_at2 at hk
  exact (condB_go (K := fun r => K (e21 r))
   (fun hs hk => (andK hs fun hc hs => ⟨hc, hk⟩))
   (fun hs hk => (q21_at3 K t n opacity X0 P0 S0 hX0 iv2 hs hk)) hs hk)
def s21_at1 (S0 : Int → Int) (t : (Sl RangeRow)) (n : Nature) (opacity : Int) (iv1 : Int) (t20v1 : Bool) : Int :=
  (cond t20v1
   (1:Int)
   (s21_at3 S0 t n opacity iv1))
def p21_at1 (P0 : Int → Bool) (t : (Sl RangeRow)) (n : Nature) (opacity : Int) (iv1 : Int) (t20v1 : Bool) : Bool :=
  (cond t20v1
   true
   (p21_at3 P0 t n opacity iv1))
theorem q21_at1 (K : List PA → Prop) (t : (Sl RangeRow)) (n : Nature) (opacity : Int)
  (X0 : St → Prop) (P0 : Int → Bool) (S0 : Int → Int)
  (hX0 : ∀ (iv0 : Int), P0 iv0 = true → K (e21 (S0 iv0)) → X0 (f21_g0 t n opacity iv0)) (iv1 : Int) (t20v1 : Bool) (hs : p21_at1 P0 t n opacity iv1 t20v1 = true) (hk : K (e21 (s21_at1 S0 t n opacity iv1 t20v1))) : f21_at1 K X0 t n opacity iv1 t20v1 := by
  refine ofEq (f21_eq1 K X0 t n opacity iv1 t20v1) ?_
  unfold p21_at1 at hs
  unfold s21_at1 at hk
  exact (condB_go (K := fun r => K (e21 r))
   (fun hs hk => hk)
   (fun hs hk => (q21_at3 K t n opacity X0 P0 S0 hX0 iv1 hs hk)) hs hk)
def s21_st0 (t : (Sl RangeRow)) (n : Nature) (opacity : Int) (S0 : Int → Int) (iv0 : Int) : Int :=
  (cond (decide (iv0 ≤ (t.len : Int)))
   (cond (iv0 == (0:Int))
    (s21_at1 S0 t n opacity iv0 (decide ((s43 t n (1:Int)) ≥ opacity)))
    (cond (decide ((s43 t n (w64 ((t.get ((w64 (iv0 - (1:Int))).toNat)).Energy + (1:Int)))) ≥ opacity))
     (s21_at2 S0 t n opacity iv0 (decide ((s43 t n ((t.get ((w64 (iv0 - (1:Int))).toNat)).Energy)) < opacity)))
     (s21_at2 S0 t n opacity iv0 false)))
   (0:Int))
def p21_st0 (t : (Sl RangeRow)) (n : Nature) (opacity : Int) (P0 : Int → Bool) (iv0 : Int) : Bool :=
  (cond (decide (iv0 ≤ (t.len : Int)))
   (cond (iv0 == (0:Int))
    (decide ((p43 t n (1:Int) = true)) &&
    (p21_at1 P0 t n opacity iv0 (decide ((s43 t n (1:Int)) ≥ opacity))))
    (decide ((0 ≤ (w64 (iv0 - (1:Int))) ∧ (w64 (iv0 - (1:Int))) < (t.len : Int))) &&
    (decide ((p43 t n (w64 ((t.get ((w64 (iv0 - (1:Int))).toNat)).Energy + (1:Int))) = true)) &&
    (cond (decide ((s43 t n (w64 ((t.get ((w64 (iv0 - (1:Int))).toNat)).Energy + (1:Int)))) ≥ opacity))
     (decide ((0 ≤ (w64 (iv0 - (1:Int))) ∧ (w64 (iv0 - (1:Int))) < (t.len : Int))) &&
     (decide ((p43 t n ((t.get ((w64 (iv0 - (1:Int))).toNat)).Energy) = true)) &&
     (p21_at2 P0 t n opacity iv0 (decide ((s43 t n ((t.get ((w64 (iv0 - (1:Int))).toNat)).Energy)) < opacity)))))
     (p21_at2 P0 t n opacity iv0 false)))))
   true)
def s21_lp0 (t : (Sl RangeRow)) (n : Nature) (opacity : Int) : Nat → Int → Int
  | 0 => fun _ => default
  | k + 1 => s21_st0 t n opacity (s21_lp0 t n opacity k)
def p21_lp0 (t : (Sl RangeRow)) (n : Nature) (opacity : Int) : Nat → Int → Bool
  | 0 => fun _ => false
  | k + 1 => p21_st0 t n opacity (p21_lp0 t n opacity k)
def s21_at0 (t : (Sl RangeRow)) (n : Nature) (opacity : Int) (iv0 : Int) : Int := s21_lp0 t n opacity Fuel iv0
def p21_at0 (t : (Sl RangeRow)) (n : Nature) (opacity : Int) (iv0 : Int) : Bool := p21_lp0 t n opacity Fuel iv0
theorem q21_at0 (K : List PA → Prop) (t : (Sl RangeRow)) (n : Nature) (opacity : Int) (iv0 : Int) (hs : p21_at0 t n opacity iv0 = true) (hk : K (e21 (s21_at0 t n opacity iv0))) : f21_at0 K t n opacity iv0 := by
  refine f21_loop0 K t n opacity iv0 ?_
  intro X0 hstep
  have key : ∀ (k : Nat) (iv0 : Int), p21_lp0 t n opacity k iv0 = true → K (e21 (s21_lp0 t n opacity k iv0)) → X0 (f21_g0 t n opacity iv0) := by
    intro k
    induction k with
    | zero => intro iv0 hs; exact absurd hs Bool.false_ne_true
    | succ k ih =>
      intro iv0 hs hk
      refine hstep iv0 ?_
      have hs : p21_st0 t n opacity (p21_lp0 t n opacity k) iv0 = true := hs
      have hk : K (e21 (s21_st0 t n opacity (s21_lp0 t n opacity k) iv0)) := hk
      unfold p21_st0 at hs
      unfold s21_st0 at hk
      generalize s21_lp0 t n opacity k = S0 at hk ih
      generalize p21_lp0 t n opacity k = P0 at hs ih
      have hX0 := ih
      exact (condB_go (K := fun r => K (e21 r))
       (fun hs hk => (condB_go (K := fun r => K (e21 r))
        (fun hs hk => (andK hs fun hc hs => ⟨⟨isE, isE, isE, hc⟩, (q21_at1 K t n opacity X0 P0 S0 hX0 iv0 (decide ((s43 t n (1:Int)) ≥ opacity)) hs hk)⟩))
        (fun hs hk => (andK hs fun hc hs => ⟨hc, (andK hs fun hc hs => ⟨⟨isE, isE, isE, hc⟩, (condB_go (K := fun r => K (e21 r))
         (fun hs hk => (andK hs fun hc hs => ⟨hc, (andK hs fun hc hs => ⟨⟨isE, isE, isE, hc⟩, (q21_at2 K t n opacity X0 P0 S0 hX0 iv0 (decide ((s43 t n ((t.get ((w64 (iv0 - (1:Int))).toNat)).Energy)) < opacity)) hs hk)⟩)⟩))
         (fun hs hk => (q21_at2 K t n opacity X0 P0 S0 hX0 iv0 false hs hk)) hs hk)⟩)⟩)) hs hk))
       (fun hs hk => hk) hs hk)
  exact key _ iv0 hs hk
def s21 (t : (Sl RangeRow)) (n : Nature) (opacity : Int) : Int :=
  (s21_at0 t n opacity (0:Int))
def p21 (t : (Sl RangeRow)) (n : Nature) (opacity : Int) : Bool :=
  (p21_at0 t n opacity (0:Int))
theorem q21 (t : (Sl RangeRow)) (n : Nature) (opacity : Int) (K : List PA → Prop) (hs : p21 t n opacity = true) (hk : K (e21 (s21 t n opacity))) : vcFun Try.prog G21 ann21 21 [.one (.sl t.len 3 (fun i => enc_42 (t.get i))), .agg [.sl n.Ranges.len 1 (fun i => enc_3 (n.Ranges.get i)), .sl n.Rates.len 1 (fun i => enc_3 (n.Rates.get i)), .bool n.Soon], .one (.int .i64 opacity)] K := by
  refine ofEq (f21_top t n opacity K) ?_
  unfold p21 at hs
  unfold s21 at hk
  exact (q21_at0 K t n opacity (0:Int) hs hk)
def ctr21 : List PA → COut
  | [.one (.sl a0_n a0_s a0_g), .agg [.sl a1_Ranges_n a1_Ranges_s a1_Ranges_g, .sl a1_Rates_n a1_Rates_s a1_Rates_g, .bool a1_Soon], .one (.int .i64 a2)] => .det (IsE enc_42 3 a0_s a0_g ∧ IsE enc_3 1 a1_Ranges_s a1_Ranges_g ∧ IsE enc_3 1 a1_Rates_s a1_Rates_g ∧ p21 (⟨a0_n, decF_42 a0_g⟩ : (Sl RangeRow)) (⟨(⟨a1_Ranges_n, decF_3 a1_Ranges_g⟩ : (Sl Int)), (⟨a1_Rates_n, decF_3 a1_Rates_g⟩ : (Sl Int)), a1_Soon⟩ : Nature) a2 = true) [.one (.int .i64 (s21 (⟨a0_n, decF_42 a0_g⟩ : (Sl RangeRow)) (⟨(⟨a1_Ranges_n, decF_3 a1_Ranges_g⟩ : (Sl Int)), (⟨a1_Rates_n, decF_3 a1_Rates_g⟩ : (Sl Int)), a1_Soon⟩ : Nature) a2))]
  | _ => .no
theorem call21 : Callable Try.prog 21 := ⟨_, rfl, rfl, by kernel_rfl⟩
theorem ok21 : Ok Try.prog 21 ctr21 := ok_tab okT21 call21 fun args K h => by
  unfold ctr21 at h
  split at h
  · rename_i a0_n a0_s a0_g a1_Ranges_n a1_Ranges_s a1_Ranges_g a1_Rates_n a1_Rates_s a1_Rates_g a1_Soon a2
    obtain ⟨⟨⟨rfl, a0_f, rfl⟩, ⟨rfl, a1_Ranges_f, rfl⟩, ⟨rfl, a1_Rates_f, rfl⟩, hs⟩, hk⟩ := h
    try rw [decF_enc_42 a0_f] at hs
    try rw [decF_enc_42 a0_f] at hk
    try rw [decF_enc_3 a1_Ranges_f] at hs
    try rw [decF_enc_3 a1_Ranges_f] at hk
    try rw [decF_enc_3 a1_Rates_f] at hs
    try rw [decF_enc_3 a1_Rates_f] at hk
    exact ⟨(fun _ _ => []), (fun _ => false), ann21, q21 (⟨a0_n, a0_f⟩ : (Sl RangeRow)) (⟨(⟨a1_Ranges_n, a1_Ranges_f⟩ : (Sl Int)), (⟨a1_Rates_n, a1_Rates_f⟩ : (Sl Int)), a1_Soon⟩ : Nature) a2 K hs hk⟩
  · exact h.elim
end Go.Proofs
namespace Go.Proofs
open Go Go.Pm
set_option maxRecDepth 100000
set_option linter.unusedVariables false
attribute [local irreducible] Go.Pm.vcFun Go.Pm.vc Go.Pm.vcIter
abbrev T31 : Tabs := Tabs.nil
theorem okT31 : TabsOk Try.prog T31 := TabsOk.nil
abbrev G31 : Ctrs := csm T31 (fun _ _ => []) (fun _ => false)
def ann31 : Ann := ⟨59, [(0, ⟨[1, 2, 3], [3], [], [], []⟩), (1, ⟨[1, 2, 3, 20], [3], [], [], []⟩), (2, ⟨[6], [], [], [], []⟩), (3, ⟨[1, 2, 3, 7], [3], [], [], []⟩), (4, ⟨[1, 2, 3, 7, 23], [3], [], [], []⟩), (5, ⟨[1, 2, 3, 7], [3], [], [], []⟩), (6, ⟨[1, 2, 3, 7, 39], [3], [], [], []⟩), (7, ⟨[6], [], [], [], []⟩), (8, ⟨[2, 3, 8], [3], [], [], []⟩), (9, ⟨[2, 3, 8, 42], [3], [], [], []⟩), (10, ⟨[2, 3, 8], [3], [], [], []⟩), (11, ⟨[2, 3, 8, 58], [3], [], [], []⟩), (12, ⟨[6], [], [], [], []⟩), (13, ⟨[6], [], [], [], []⟩)],
  [(4, ⟨[1, 2, 3, 7], [3], [], [], []⟩), (9, ⟨[2, 3, 8], [3], [], [], []⟩)],
  [(3, ⟨[1, 2, 3], [3], [], [], []⟩), (8, ⟨[2, 3], [3], [], [], []⟩)],
  [], []⟩
def f31_g0 (n : Nature) (ranges : Int) (rates : Int) : St := ⟨[(1, .one (.c (.p (.int .i64 ranges)))), (2, .one (.c (.p (.int .i64 rates)))), (3, .one (.c (.ptr 3 0)))], [(3, .box 39 [.p (.sl n.Ranges.len 1 (fun i => enc_3 (n.Ranges.get i))), .p (.sl n.Rates.len 1 (fun i => enc_3 (n.Rates.get i))), .p (.bool n.Soon)])], []⟩
def f31_at0 (K : List PA → Prop) (n : Nature) (ranges : Int) (rates : Int) : Prop := vc Try.prog G31 ann31 (cdF Try.f31 [1, 1]) (bodyK Try.prog Try.f31 K) (f31_g0 n ranges rates)
def f31_g1 (n : Nature) (ranges : Int) (rates : Int) (iv1 : Int) : St := ⟨[(1, .one (.c (.p (.int .i64 ranges)))), (2, .one (.c (.p (.int .i64 rates)))), (3, .one (.c (.ptr 3 0))), (7, .one (.c (.p (.int .i64 iv1))))], [(3, .box 39 [.p (.sl n.Ranges.len 1 (fun i => enc_3 (n.Ranges.get i))), .p (.sl n.Rates.len 1 (fun i => enc_3 (n.Rates.get i))), .p (.bool n.Soon)])], []⟩
def f31_at1 (K : List PA → Prop) (n : Nature) (ranges : Int) (rates : Int) (iv1 : Int) : Prop := vc Try.prog G31 ann31 (cdF Try.f31 [1, 1, 0, 1, 0]) (blockK 0 (sqK Try.prog G31 ann31 (cdF Try.f31 [1, 1, 1]) (bodyK Try.prog Try.f31 K))) (f31_g1 n ranges rates iv1)
def f31_g2 (n : Nature) (rates : Int) : St := ⟨[(2, .one (.c (.p (.int .i64 rates)))), (3, .one (.c (.ptr 3 0)))], [(3, .box 39 [.p (.sl n.Ranges.len 1 (fun i => enc_3 (n.Ranges.get i))), .p (.sl n.Rates.len 1 (fun i => enc_3 (n.Rates.get i))), .p (.bool n.Soon)])], []⟩
def f31_at2 (K : List PA → Prop) (n : Nature) (rates : Int) : Prop := vc Try.prog G31 ann31 (cdF Try.f31 [1, 1, 1]) (bodyK Try.prog Try.f31 K) (f31_g2 n rates)
def f31_g3 (n : Nature) (rates : Int) (iv3 : Int) : St := ⟨[(2, .one (.c (.p (.int .i64 rates)))), (3, .one (.c (.ptr 3 0))), (8, .one (.c (.p (.int .i64 iv3))))], [(3, .box 39 [.p (.sl n.Ranges.len 1 (fun i => enc_3 (n.Ranges.get i))), .p (.sl n.Rates.len 1 (fun i => enc_3 (n.Rates.get i))), .p (.bool n.Soon)])], []⟩
def f31_at3 (K : List PA → Prop) (n : Nature) (rates : Int) (iv3 : Int) : Prop := vc Try.prog G31 ann31 (cdF Try.f31 [1, 1, 1, 0, 1, 0]) (blockK 2 (sqK Try.prog G31 ann31 (cdF Try.f31 [1, 1, 1, 1]) (bodyK Try.prog Try.f31 K))) (f31_g3 n rates iv3)
theorem f31_top (n : Nature) (ranges : Int) (rates : Int) (K : List PA → Prop) :
  vcFun Try.prog G31 ann31 31 [.agg [.sl n.Ranges.len 1 (fun i => enc_3 (n.Ranges.get i)), .sl n.Rates.len 1 (fun i => enc_3 (n.Rates.get i)), .bool n.Soon], .one (.int .i64 ranges), .one (.int .i64 rates)] K =
  (condP ((n.Ranges.len : Int) != ranges)
   (K [.one (.bool false)])
   (condP ((n.Rates.len : Int) != rates)
    (K [.one (.bool false)])
    (f31_at0 K n ranges rates))) := by kernel_rfl
theorem f31_eq0 (K : List PA → Prop) (n : Nature) (ranges : Int) (rates : Int) :
  f31_at0 K n ranges rates =
  (f31_at1 K n ranges rates (0:Int)) := by kernel_rfl
def f31_step1 (K : List PA → Prop) (X1 : St → Prop) (n : Nature) (ranges : Int) (rates : Int) (iv1 : Int) : Prop :=
  (condP (decide (iv1 < ranges))
   (((0 ≤ iv1 ∧ iv1 < (n.Ranges.len : Int))) ∧
   (condP (decide ((n.Ranges.get iv1.toNat) < (0:Int)))
    (K [.one (.bool false)])
    (((0 ≤ iv1 ∧ iv1 < (n.Ranges.len : Int))) ∧
    (condP (decide ((n.Ranges.get iv1.toNat) > (100:Int)))
     (K [.one (.bool false)])
     (X1 (f31_g1 n ranges rates (w64 (iv1 + (1:Int)))))))))
   (f31_at2 K n rates))
theorem f31_stepeq1 (K : List PA → Prop) (X1 : St → Prop) (n : Nature) (ranges : Int) (rates : Int) (iv1 : Int) :
  vc Try.prog G31 ann31 (cd (cdF Try.f31 [1, 1, 0, 1, 0]) [0]) (loopK Try.prog ann31 4 X1 (blockK 0 (sqK Try.prog G31 ann31 (cdF Try.f31 [1, 1, 1]) (bodyK Try.prog Try.f31 K)))) (f31_g1 n ranges rates iv1) =
  f31_step1 K X1 n ranges rates iv1 := by kernel_rfl
theorem f31_loop1 (K : List PA → Prop) (n : Nature) (ranges : Int) (rates : Int) (iv1 : Int)
  (h : ∀ X1 : St → Prop, (∀ (iv1 : Int), f31_step1 K X1 n ranges rates iv1 → X1 (f31_g1 n ranges rates iv1)) → X1 (f31_g1 n ranges rates iv1)) :
  f31_at1 K n ranges rates iv1 := by
  have e : f31_at1 K n ranges rates iv1 = (∀ X : St → Prop, (∀ s, vc Try.prog G31 ann31 (cd (cdF Try.f31 [1, 1, 0, 1, 0]) [0]) (loopK Try.prog ann31 4 X (blockK 0 (sqK Try.prog G31 ann31 (cdF Try.f31 [1, 1, 1]) (bodyK Try.prog Try.f31 K)))) s → X s) → X (f31_g1 n ranges rates iv1)) := by kernel_rfl
  refine ofEq e ?_
  intro X hX
  refine h X ?_
  intro iv1 hs
  refine hX _ ?_
  have e2 := f31_stepeq1 K X n ranges rates iv1
  rw [e2]
  exact hs
theorem f31_eq2 (K : List PA → Prop) (n : Nature) (rates : Int) :
  f31_at2 K n rates =
  (f31_at3 K n rates (0:Int)) := by kernel_rfl
def f31_step3 (K : List PA → Prop) (X3 : St → Prop) (n : Nature) (rates : Int) (iv3 : Int) : Prop :=
  (condP (decide (iv3 < rates))
   (((0 ≤ iv3 ∧ iv3 < (n.Rates.len : Int))) ∧
   (condP (decide ((n.Rates.get iv3.toNat) < (0:Int)))
    (K [.one (.bool false)])
    (((0 ≤ iv3 ∧ iv3 < (n.Rates.len : Int))) ∧
    (condP (decide ((n.Rates.get iv3.toNat) > (100:Int)))
     (K [.one (.bool false)])
     (X3 (f31_g3 n rates (w64 (iv3 + (1:Int)))))))))
   (K [.one (.bool true)]))
theorem f31_stepeq3 (K : List PA → Prop) (X3 : St → Prop) (n : Nature) (rates : Int) (iv3 : Int) :
  vc Try.prog G31 ann31 (cd (cdF Try.f31 [1, 1, 1, 0, 1, 0]) [0]) (loopK Try.prog ann31 9 X3 (blockK 2 (sqK Try.prog G31 ann31 (cdF Try.f31 [1, 1, 1, 1]) (bodyK Try.prog Try.f31 K)))) (f31_g3 n rates iv3) =
  f31_step3 K X3 n rates iv3 := by kernel_rfl
theorem f31_loop3 (K : List PA → Prop) (n : Nature) (rates : Int) (iv3 : Int)
  (h : ∀ X3 : St → Prop, (∀ (iv3 : Int), f31_step3 K X3 n rates iv3 → X3 (f31_g3 n rates iv3)) → X3 (f31_g3 n rates iv3)) :
  f31_at3 K n rates iv3 := by
  have e : f31_at3 K n rates iv3 = (∀ X : St → Prop, (∀ s, vc Try.prog G31 ann31 (cd (cdF Try.f31 [1, 1, 1, 0, 1, 0]) [0]) (loopK Try.prog ann31 9 X (blockK 2 (sqK Try.prog G31 ann31 (cdF Try.f31 [1, 1, 1, 1]) (bodyK Try.prog Try.f31 K)))) s → X s) → X (f31_g3 n rates iv3)) := by kernel_rfl
  refine ofEq e ?_
  intro X hX
  refine h X ?_
  intro iv3 hs
  refine hX _ ?_
  have e2 := f31_stepeq3 K X n rates iv3
  rw [e2]
  exact hs
abbrev e31 (r : Bool) : List PA := [.one (.bool r)]
attribute [irreducible] f31_at0 f31_at1 f31_at2 f31_at3
def s31_st3 (n : Nature) (rates : Int) (S3 : Int → Bool) (iv3 : Int) : Bool :=
  (cond (decide (iv3 < rates))
   (cond (decide ((n.Rates.get iv3.toNat) < (0:Int)))
    false
    (cond (decide ((n.Rates.get iv3.toNat) > (100:Int)))
     false
     (S3 (w64 (iv3 + (1:Int))))))
   true)
def p31_st3 (n : Nature) (rates : Int) (P3 : Int → Bool) (iv3 : Int) : Bool :=
  (cond (decide (iv3 < rates))
   (decide ((0 ≤ iv3 ∧ iv3 < (n.Rates.len : Int))) &&
   (cond (decide ((n.Rates.get iv3.toNat) < (0:Int)))
    true
    (decide ((0 ≤ iv3 ∧ iv3 < (n.Rates.len : Int))) &&
    (cond (decide ((n.Rates.get iv3.toNat) > (100:Int)))
     true
     (P3 (w64 (iv3 + (1:Int))))))))
   true)
def s31_lp3 (n : Nature) (rates : Int) : Nat → Int → Bool
  | 0 => fun _ => default
  | k + 1 => s31_st3 n rates (s31_lp3 n rates k)
def p31_lp3 (n : Nature) (rates : Int) : Nat → Int → Bool
  | 0 => fun _ => false
  | k + 1 => p31_st3 n rates (p31_lp3 n rates k)
def s31_at3 (n : Nature) (rates : Int) (iv3 : Int) : Bool := s31_lp3 n rates Fuel iv3
def p31_at3 (n : Nature) (rates : Int) (iv3 : Int) : Bool := p31_lp3 n rates Fuel iv3
theorem q31_at3 (K : List PA → Prop) (n : Nature) (rates : Int) (iv3 : Int) (hs : p31_at3 n rates iv3 = true) (hk : K (e31 (s31_at3 n rates iv3))) : f31_at3 K n rates iv3 := by
  refine f31_loop3 K n rates iv3 ?_
  intro X3 hstep
  have key : ∀ (k : Nat) (iv3 : Int), p31_lp3 n rates k iv3 = true → K (e31 (s31_lp3 n rates k iv3)) → X3 (f31_g3 n rates iv3) := by
    intro k
    induction k with
    | zero => intro iv3 hs; exact absurd hs Bool.false_ne_true
    | succ k ih =>
      intro iv3 hs hk
      refine hstep iv3 ?_
      have hs : p31_st3 n rates (p31_lp3 n rates k) iv3 = true := hs
      have hk : K (e31 (s31_st3 n rates (s31_lp3 n rates k) iv3)) := hk
      unfold p31_st3 at hs
      unfold s31_st3 at hk
      generalize s31_lp3 n rates k = S3 at hk ih
      generalize p31_lp3 n rates k = P3 at hs ih
      have hX3 := ih
      exact (condB_go (K := fun r => K (e31 r))
       (fun hs hk => (andK hs fun hc hs => ⟨hc, (condB_go (K := fun r => K (e31 r))
        (fun hs hk => hk)
        (fun hs hk => (andK hs fun hc hs => ⟨hc, (condB_go (K := fun r => K (e31 r))
         (fun hs hk => hk)
         (fun hs hk => (hX3 (w64 (iv3 + (1:Int))) hs hk)) hs hk)⟩)) hs hk)⟩))
       (fun hs hk => hk) hs hk)
  exact key _ iv3 hs hk
def s31_at2 (n : Nature) (rates : Int) : Bool :=
  (s31_at3 n rates (0:Int))
def p31_at2 (n : Nature) (rates : Int) : Bool :=
  (p31_at3 n rates (0:Int))
theorem q31_at2 (K : List PA → Prop) (n : Nature) (rates : Int) (hs : p31_at2 n rates = true) (hk : K (e31 (s31_at2 n rates))) : f31_at2 K n rates := by
  refine ofEq (f31_eq2 K n rates) ?_
  unfold p31_at2 at hs
  unfold s31_at2 at hk
  exact (q31_at3 K n rates (0:Int) hs hk)
def s31_st1 (n : Nature) (ranges : Int) (rates : Int) (S1 : Int → Bool) (iv1 : Int) : Bool :=
  (cond (decide (iv1 < ranges))
   (cond (decide ((n.Ranges.get iv1.toNat) < (0:Int)))
    false
    (cond (decide ((n.Ranges.get iv1.toNat) > (100:Int)))
     false
     (S1 (w64 (iv1 + (1:Int))))))
   (s31_at2 n rates))
def p31_st1 (n : Nature) (ranges : Int) (rates : Int) (P1 : Int → Bool) (iv1 : Int) : Bool :=
  (cond (decide (iv1 < ranges))
   (decide ((0 ≤ iv1 ∧ iv1 < (n.Ranges.len : Int))) &&
   (cond (decide ((n.Ranges.get iv1.toNat) < (0:Int)))
    true
    (decide ((0 ≤ iv1 ∧ iv1 < (n.Ranges.len : Int))) &&
    (cond (decide ((n.Ranges.get iv1.toNat) > (100:Int)))
     true
     (P1 (w64 (iv1 + (1:Int))))))))
   (p31_at2 n rates))
def s31_lp1 (n : Nature) (ranges : Int) (rates : Int) : Nat → Int → Bool
  | 0 => fun _ => default
  | k + 1 => s31_st1 n ranges rates (s31_lp1 n ranges rates k)
def p31_lp1 (n : Nature) (ranges : Int) (rates : Int) : Nat → Int → Bool
  | 0 => fun _ => false
  | k + 1 => p31_st1 n ranges rates (p31_lp1 n ranges rates k)
def s31_at1 (n : Nature) (ranges : Int) (rates : Int) (iv1 : Int) : Bool := s31_lp1 n ranges rates Fuel iv1
def p31_at1 (n : Nature) (ranges : Int) (rates : Int) (iv1 : Int) : Bool := p31_lp1 n ranges rates Fuel iv1
theorem q31_at1 (K : List PA → Prop) (n : Nature) (ranges : Int) (rates : Int) (iv1 : Int) (hs : p31_at1 n ranges rates iv1 = true) (hk : K (e31 (s31_at1 n ranges rates iv1))) : f31_at1 K n ranges rates iv1 := by
  refine f31_loop1 K n ranges rates iv1 ?_
  intro X1 hstep
  have key : ∀ (k : Nat) (iv1 : Int), p31_lp1 n ranges rates k iv1 = true → K (e31 (s31_lp1 n ranges rates k iv1)) → X1 (f31_g1 n ranges rates iv1) := by
    intro k
    induction k with
    | zero => intro iv1 hs; exact absurd hs Bool.false_ne_true
    | succ k ih =>
      intro iv1 hs hk
      refine hstep iv1 ?_
      have hs : p31_st1 n ranges rates (p31_lp1 n ranges rates k) iv1 = true := hs
      have hk : K (e31 (s31_st1 n ranges rates (s31_lp1 n ranges rates k) iv1)) := hk
      unfold p31_st1 at hs
      unfold s31_st1 at hk
      generalize s31_lp1 n ranges rates k = S1 at hk ih
      generalize p31_lp1 n ranges rates k = P1 at hs ih
      have hX1 := ih
      exact (condB_go (K := fun r => K (e31 r))
       (fun hs hk => (andK hs fun hc hs => ⟨hc, (condB_go (K := fun r => K (e31 r))
        (fun hs hk => hk)
        (fun hs hk => (andK hs fun hc hs => ⟨hc, (condB_go (K := fun r => K (e31 r))
         (fun hs hk => hk)
         (fun hs hk => (hX1 (w64 (iv1 + (1:Int))) hs hk)) hs hk)⟩)) hs hk)⟩))
       (fun hs hk => (q31_at2 K n rates hs hk)) hs hk)
  exact key _ iv1 hs hk
def s31_at0 (n : Nature) (ranges : Int) (rates : Int) : Bool :=
  (s31_at1 n ranges rates (0:Int))
def p31_at0 (n : Nature) (ranges : Int) (rates : Int) : Bool :=
  (p31_at1 n ranges rates (0:Int))
theorem q31_at0 (K : List PA → Prop) (n : Nature) (ranges : Int) (rates : Int) (hs : p31_at0 n ranges rates = true) (hk : K (e31 (s31_at0 n ranges rates))) : f31_at0 K n ranges rates := by
  refine ofEq (f31_eq0 K n ranges rates) ?_
  unfold p31_at0 at hs
  unfold s31_at0 at hk
  exact (q31_at1 K n ranges rates (0:Int) hs hk)
def s31 (n : Nature) (ranges : Int) (rates : Int) : Bool :=
  (cond ((n.Ranges.len : Int) != ranges)
   false
   (cond ((n.Rates.len : Int) != rates)
    false
    (s31_at0 n ranges rates)))
def p31 (n : Nature) (ranges : Int) (rates : Int) : Bool :=
  (cond ((n.Ranges.len : Int) != ranges)
   true
   (cond ((n.Rates.len : Int) != rates)
    true
    (p31_at0 n ranges rates)))
theorem q31 (n : Nature) (ranges : Int) (rates : Int) (K : List PA → Prop) (hs : p31 n ranges rates = true) (hk : K (e31 (s31 n ranges rates))) : vcFun Try.prog G31 ann31 31 [.agg [.sl n.Ranges.len 1 (fun i => enc_3 (n.Ranges.get i)), .sl n.Rates.len 1 (fun i => enc_3 (n.Rates.get i)), .bool n.Soon], .one (.int .i64 ranges), .one (.int .i64 rates)] K := by
  refine ofEq (f31_top n ranges rates K) ?_
  unfold p31 at hs
  unfold s31 at hk
  exact (condB_go (K := fun r => K (e31 r))
   (fun hs hk => hk)
   (fun hs hk => (condB_go (K := fun r => K (e31 r))
    (fun hs hk => hk)
    (fun hs hk => (q31_at0 K n ranges rates hs hk)) hs hk)) hs hk)
def ctr31 : List PA → COut
  | [.agg [.sl a0_Ranges_n a0_Ranges_s a0_Ranges_g, .sl a0_Rates_n a0_Rates_s a0_Rates_g, .bool a0_Soon], .one (.int .i64 a1), .one (.int .i64 a2)] => .det (IsE enc_3 1 a0_Ranges_s a0_Ranges_g ∧ IsE enc_3 1 a0_Rates_s a0_Rates_g ∧ p31 (⟨(⟨a0_Ranges_n, decF_3 a0_Ranges_g⟩ : (Sl Int)), (⟨a0_Rates_n, decF_3 a0_Rates_g⟩ : (Sl Int)), a0_Soon⟩ : Nature) a1 a2 = true) [.one (.bool (s31 (⟨(⟨a0_Ranges_n, decF_3 a0_Ranges_g⟩ : (Sl Int)), (⟨a0_Rates_n, decF_3 a0_Rates_g⟩ : (Sl Int)), a0_Soon⟩ : Nature) a1 a2))]
  | _ => .no
theorem call31 : Callable Try.prog 31 := ⟨_, rfl, rfl, by kernel_rfl⟩
theorem ok31 : Ok Try.prog 31 ctr31 := ok_tab okT31 call31 fun args K h => by
  unfold ctr31 at h
  split at h
  · rename_i a0_Ranges_n a0_Ranges_s a0_Ranges_g a0_Rates_n a0_Rates_s a0_Rates_g a0_Soon a1 a2
    obtain ⟨⟨⟨rfl, a0_Ranges_f, rfl⟩, ⟨rfl, a0_Rates_f, rfl⟩, hs⟩, hk⟩ := h
    try rw [decF_enc_3 a0_Ranges_f] at hs
    try rw [decF_enc_3 a0_Ranges_f] at hk
    try rw [decF_enc_3 a0_Rates_f] at hs
    try rw [decF_enc_3 a0_Rates_f] at hk
    exact ⟨(fun _ _ => []), (fun _ => false), ann31, q31 (⟨(⟨a0_Ranges_n, a0_Ranges_f⟩ : (Sl Int)), (⟨a0_Rates_n, a0_Rates_f⟩ : (Sl Int)), a0_Soon⟩ : Nature) a1 a2 K hs hk⟩
  · exact h.elim
abbrev T32 : Tabs := (Tabs.nil.addF 24 ctr24)
theorem okT32 : TabsOk Try.prog T32 := (TabsOk.nil.addF ok24)
abbrev G32 : Ctrs := csm T32 (fun _ _ => []) (fun _ => false)
def ann32 : Ann := ⟨61, [(0, ⟨[0, 2, 4], [4], [], [], []⟩), (1, ⟨[0, 2, 4, 7], [4], [], [], []⟩), (2, ⟨[0, 2, 4, 7, 8], [4], [], [], []⟩), (3, ⟨[0, 2, 4, 7, 8, 22], [4], [], [], []⟩), (4, ⟨[0, 2, 4, 7, 8], [4], [], [], []⟩), (5, ⟨[0, 2, 4, 7, 8, 9], [4], [], [], []⟩), (6, ⟨[0, 2, 4, 7, 8, 9, 44], [4], [], [], []⟩), (7, ⟨[7, 9, 56], [], [], [], []⟩), (8, ⟨[6], [], [], [], []⟩), (9, ⟨[6], [], [], [], []⟩), (10, ⟨[0, 2, 4, 7, 8], [4], [], [], []⟩), (11, ⟨[6], [], [], [], []⟩)],
  [(3, ⟨[0, 2, 4, 7, 8], [4], [], [], []⟩)],
  [(2, ⟨[0, 2, 4, 7], [4], [], [], []⟩), (6, ⟨[0, 2, 4, 7, 8, 9], [4], [], [], []⟩)],
  [], []⟩
def f32_g0 (l_a0 : (Sl FluxRow)) (n : Nature) (energy : Int) (outv0 : Int) : St := ⟨[(0, .one (.c (.p (.sl l_a0.len 3 (fun i => enc_44 (l_a0.get i)))))), (2, .one (.c (.p (.int .i64 energy)))), (4, .one (.c (.ptr 4 0))), (7, .one (.c (.p (.int .i64 outv0))))], [(4, .box 39 [.p (.sl n.Ranges.len 1 (fun i => enc_3 (n.Ranges.get i))), .p (.sl n.Rates.len 1 (fun i => enc_3 (n.Rates.get i))), .p (.bool n.Soon)])], []⟩
def f32_at0 (K : List PA → Prop) (l_a0 : (Sl FluxRow)) (n : Nature) (energy : Int) (outv0 : Int) : Prop := vc Try.prog G32 ann32 (cdF Try.f32 [1, 1]) (bodyK Try.prog Try.f32 K) (f32_g0 l_a0 n energy outv0)
def f32_g1 (l_a0 : (Sl FluxRow)) (n : Nature) (energy : Int) (outv1 : Int) (iv1 : Int) : St := ⟨[(0, .one (.c (.p (.sl l_a0.len 3 (fun i => enc_44 (l_a0.get i)))))), (2, .one (.c (.p (.int .i64 energy)))), (4, .one (.c (.ptr 4 0))), (7, .one (.c (.p (.int .i64 outv1)))), (8, .one (.c (.p (.int .i64 iv1))))], [(4, .box 39 [.p (.sl n.Ranges.len 1 (fun i => enc_3 (n.Ranges.get i))), .p (.sl n.Rates.len 1 (fun i => enc_3 (n.Rates.get i))), .p (.bool n.Soon)])], []⟩
def f32_at1 (K : List PA → Prop) (l_a0 : (Sl FluxRow)) (n : Nature) (energy : Int) (outv1 : Int) (iv1 : Int) : Prop := vc Try.prog G32 ann32 (cdF Try.f32 [1, 1, 0, 1, 0]) (blockK 0 (sqK Try.prog G32 ann32 (cdF Try.f32 [1, 1, 1]) (bodyK Try.prog Try.f32 K))) (f32_g1 l_a0 n energy outv1 iv1)
def f32_g2 (l_a0 : (Sl FluxRow)) (n : Nature) (energy : Int) (outv2 : Int) (iv2 : Int) (xv2 : Int) : St := ⟨[(0, .one (.c (.p (.sl l_a0.len 3 (fun i => enc_44 (l_a0.get i)))))), (2, .one (.c (.p (.int .i64 energy)))), (4, .one (.c (.ptr 4 0))), (7, .one (.c (.p (.int .i64 outv2)))), (8, .one (.c (.p (.int .i64 iv2)))), (9, .one (.c (.p (.int .i64 xv2))))], [(4, .box 39 [.p (.sl n.Ranges.len 1 (fun i => enc_3 (n.Ranges.get i))), .p (.sl n.Rates.len 1 (fun i => enc_3 (n.Rates.get i))), .p (.bool n.Soon)])], []⟩
def f32_at2 (K : List PA → Prop) (X1 : St → Prop) (l_a0 : (Sl FluxRow)) (n : Nature) (energy : Int) (outv2 : Int) (iv2 : Int) (xv2 : Int) : Prop := vc Try.prog G32 ann32 (cdF Try.f32 [1, 1, 0, 1, 0, 0, 1, 0, 0, 1]) (blockK 1 (sqK Try.prog G32 ann32 (cdF Try.f32 [1, 1, 0, 1, 0, 0, 1, 1]) (loopK Try.prog ann32 3 X1 (blockK 0 (sqK Try.prog G32 ann32 (cdF Try.f32 [1, 1, 1]) (bodyK Try.prog Try.f32 K)))))) (f32_g2 l_a0 n energy outv2 iv2 xv2)
theorem f32_top (l_a0 : (Sl FluxRow)) (n : Nature) (energy : Int) (K : List PA → Prop) :
  vcFun Try.prog G32 ann32 32 [.one (.sl l_a0.len 3 (fun i => enc_44 (l_a0.get i))), .agg [.sl n.Ranges.len 1 (fun i => enc_3 (n.Ranges.get i)), .sl n.Rates.len 1 (fun i => enc_3 (n.Rates.get i)), .bool n.Soon], .one (.int .i64 energy)] K =
  (((0 ≤ (0:Int) ∧ (0:Int) < (l_a0.len : Int))) ∧
  (((0 ≤ (0:Int) ∧ (0:Int) < (n.Rates.len : Int))) ∧
  (((p24 ((l_a0.get 0).Rate) (n.Rates.get 0) = true)) ∧
  (f32_at0 K l_a0 n energy (s24 ((l_a0.get 0).Rate) (n.Rates.get 0)))))) := by kernel_rfl
theorem f32_eq0 (K : List PA → Prop) (l_a0 : (Sl FluxRow)) (n : Nature) (energy : Int) (outv0 : Int) :
  f32_at0 K l_a0 n energy outv0 =
  (f32_at1 K l_a0 n energy outv0 (1:Int)) := by kernel_rfl
def f32_step1 (K : List PA → Prop) (X1 : St → Prop) (l_a0 : (Sl FluxRow)) (n : Nature) (energy : Int) (outv1 : Int) (iv1 : Int) : Prop :=
  (condP (decide (iv1 < (l_a0.len : Int)))
   (((0 ≤ iv1 ∧ iv1 < (l_a0.len : Int))) ∧
   (((0 ≤ iv1 ∧ iv1 < (n.Rates.len : Int))) ∧
   (((p24 ((l_a0.get iv1.toNat).Rate) (n.Rates.get iv1.toNat) = true)) ∧
   (f32_at2 K X1 l_a0 n energy outv1 iv1 (if (s24 ((l_a0.get iv1.toNat).Rate) (n.Rates.get iv1.toNat)) < outv1 then (s24 ((l_a0.get iv1.toNat).Rate) (n.Rates.get iv1.toNat)) else outv1)))))
   (K [.one (.int .i64 outv1)]))
theorem f32_stepeq1 (K : List PA → Prop) (X1 : St → Prop) (l_a0 : (Sl FluxRow)) (n : Nature) (energy : Int) (outv1 : Int) (iv1 : Int) :
  vc Try.prog G32 ann32 (cd (cdF Try.f32 [1, 1, 0, 1, 0]) [0]) (loopK Try.prog ann32 3 X1 (blockK 0 (sqK Try.prog G32 ann32 (cdF Try.f32 [1, 1, 1]) (bodyK Try.prog Try.f32 K)))) (f32_g1 l_a0 n energy outv1 iv1) =
  f32_step1 K X1 l_a0 n energy outv1 iv1 := by kernel_rfl
theorem f32_loop1 (K : List PA → Prop) (l_a0 : (Sl FluxRow)) (n : Nature) (energy : Int) (outv1 : Int) (iv1 : Int)
  (h : ∀ X1 : St → Prop, (∀ (outv1 : Int) (iv1 : Int), f32_step1 K X1 l_a0 n energy outv1 iv1 → X1 (f32_g1 l_a0 n energy outv1 iv1)) → X1 (f32_g1 l_a0 n energy outv1 iv1)) :
  f32_at1 K l_a0 n energy outv1 iv1 := by
  have e : f32_at1 K l_a0 n energy outv1 iv1 = (∀ X : St → Prop, (∀ s, vc Try.prog G32 ann32 (cd (cdF Try.f32 [1, 1, 0, 1, 0]) [0]) (loopK Try.prog ann32 3 X (blockK 0 (sqK Try.prog G32 ann32 (cdF Try.f32 [1, 1, 1]) (bodyK Try.prog Try.f32 K)))) s → X s) → X (f32_g1 l_a0 n energy outv1 iv1)) := by kernel_rfl
  refine ofEq e ?_
  intro X hX
  refine h X ?_
  intro outv1 iv1 hs
  refine hX _ ?_
  have e2 := f32_stepeq1 K X l_a0 n energy outv1 iv1
  rw [e2]
  exact hs
theorem f32_eq2 (K : List PA → Prop) (X1 : St → Prop) (l_a0 : (Sl FluxRow)) (n : Nature) (energy : Int) (outv2 : Int) (iv2 : Int) (xv2 : Int) :
  f32_at2 K X1 l_a0 n energy outv2 iv2 xv2 =
  (((0 ≤ iv2 ∧ iv2 < (l_a0.len : Int))) ∧
  (condP (decide ((l_a0.get iv2.toNat).Energy > energy))
   (condP n.Soon
    (((0 ≤ (w64 (iv2 - (1:Int))) ∧ (w64 (iv2 - (1:Int))) < (l_a0.len : Int))) ∧
    (condP (decide ((l_a0.get ((w64 (iv2 - (1:Int))).toNat)).Energy < energy))
     (K [.one (.int .i64 xv2)])
     (K [.one (.int .i64 outv2)])))
    (K [.one (.int .i64 outv2)]))
   (X1 (f32_g1 l_a0 n energy xv2 (w64 (iv2 + (1:Int))))))) := by kernel_rfl
abbrev e32 (r : Int) : List PA := [.one (.int .i64 r)]
attribute [irreducible] f32_at0 f32_at1 f32_at2
def s32_at2 (S1 : Int → Int → Int) (l_a0 : (Sl FluxRow)) (n : Nature) (energy : Int) (outv2 : Int) (iv2 : Int) (xv2 : Int) : Int :=
  (cond (decide ((l_a0.get iv2.toNat).Energy > energy))
   (cond n.Soon
    (cond (decide ((l_a0.get ((w64 (iv2 - (1:Int))).toNat)).Energy < energy))
     xv2
     outv2)
    outv2)
   (S1 xv2 (w64 (iv2 + (1:Int)))))
def p32_at2 (P1 : Int → Int → Bool) (l_a0 : (Sl FluxRow)) (n : Nature) (energy : Int) (outv2 : Int) (iv2 : Int) (xv2 : Int) : Bool :=
  (decide ((0 ≤ iv2 ∧ iv2 < (l_a0.len : Int))) &&
  (cond (decide ((l_a0.get iv2.toNat).Energy > energy))
   (cond n.Soon
    (decide ((0 ≤ (w64 (iv2 - (1:Int))) ∧ (w64 (iv2 - (1:Int))) < (l_a0.len : Int))) &&
    true)
    true)
   (P1 xv2 (w64 (iv2 + (1:Int))))))
theorem q32_at2 (K : List PA → Prop) (l_a0 : (Sl FluxRow)) (n : Nature) (energy : Int)
  (X1 : St → Prop) (P1 : Int → Int → Bool) (S1 : Int → Int → Int)
  (hX1 : ∀ (outv1 : Int) (iv1 : Int), P1 outv1 iv1 = true → K (e32 (S1 outv1 iv1)) → X1 (f32_g1 l_a0 n energy outv1 iv1)) (outv2 : Int) (iv2 : Int) (xv2 : Int) (hs : p32_at2 P1 l_a0 n energy outv2 iv2 xv2 = true) (hk : K (e32 (s32_at2 S1 l_a0 n energy outv2 iv2 xv2))) : f32_at2 K X1 l_a0 n energy outv2 iv2 xv2 := by
  refine ofEq (f32_eq2 K X1 l_a0 n energy outv2 iv2 xv2) ?_
  unfold p32_at2 at hs
  unfold s32_at2 at hk
  exact (andK hs fun hc hs => ⟨hc, (condB_go (K := fun r => K (e32 r))
   (fun hs hk => (condB_go (K := fun r => K (e32 r))
    (fun hs hk => (andK hs fun hc hs => ⟨hc, (condP_gt (K := fun r => K (e32 r))
     (fun hk => hk)
     (fun hk => hk) hk)⟩))
    (fun hs hk => hk) hs hk))
   (fun hs hk => (hX1 xv2 (w64 (iv2 + (1:Int))) hs hk)) hs hk)⟩)
def s32_st1 (l_a0 : (Sl FluxRow)) (n : Nature) (energy : Int) (S1 : Int → Int → Int) (outv1 : Int) (iv1 : Int) : Int :=
  (cond (decide (iv1 < (l_a0.len : Int)))
   (s32_at2 S1 l_a0 n energy outv1 iv1 (if (s24 ((l_a0.get iv1.toNat).Rate) (n.Rates.get iv1.toNat)) < outv1 then (s24 ((l_a0.get iv1.toNat).Rate) (n.Rates.get iv1.toNat)) else outv1))
   outv1)
def p32_st1 (l_a0 : (Sl FluxRow)) (n : Nature) (energy : Int) (P1 : Int → Int → Bool) (outv1 : Int) (iv1 : Int) : Bool :=
  (cond (decide (iv1 < (l_a0.len : Int)))
   (decide ((0 ≤ iv1 ∧ iv1 < (l_a0.len : Int))) &&
   (decide ((0 ≤ iv1 ∧ iv1 < (n.Rates.len : Int))) &&
   (decide ((p24 ((l_a0.get iv1.toNat).Rate) (n.Rates.get iv1.toNat) = true)) &&
   (p32_at2 P1 l_a0 n energy outv1 iv1 (if (s24 ((l_a0.get iv1.toNat).Rate) (n.Rates.get iv1.toNat)) < outv1 then (s24 ((l_a0.get iv1.toNat).Rate) (n.Rates.get iv1.toNat)) else outv1)))))
   true)
def s32_lp1 (l_a0 : (Sl FluxRow)) (n : Nature) (energy : Int) : Nat → Int → Int → Int
  | 0 => fun _ _ => default
  | k + 1 => s32_st1 l_a0 n energy (s32_lp1 l_a0 n energy k)
def p32_lp1 (l_a0 : (Sl FluxRow)) (n : Nature) (energy : Int) : Nat → Int → Int → Bool
  | 0 => fun _ _ => false
  | k + 1 => p32_st1 l_a0 n energy (p32_lp1 l_a0 n energy k)
def s32_at1 (l_a0 : (Sl FluxRow)) (n : Nature) (energy : Int) (outv1 : Int) (iv1 : Int) : Int := s32_lp1 l_a0 n energy Fuel outv1 iv1
def p32_at1 (l_a0 : (Sl FluxRow)) (n : Nature) (energy : Int) (outv1 : Int) (iv1 : Int) : Bool := p32_lp1 l_a0 n energy Fuel outv1 iv1
theorem q32_at1 (K : List PA → Prop) (l_a0 : (Sl FluxRow)) (n : Nature) (energy : Int) (outv1 : Int) (iv1 : Int) (hs : p32_at1 l_a0 n energy outv1 iv1 = true) (hk : K (e32 (s32_at1 l_a0 n energy outv1 iv1))) : f32_at1 K l_a0 n energy outv1 iv1 := by
  refine f32_loop1 K l_a0 n energy outv1 iv1 ?_
  intro X1 hstep
  have key : ∀ (k : Nat) (outv1 : Int) (iv1 : Int), p32_lp1 l_a0 n energy k outv1 iv1 = true → K (e32 (s32_lp1 l_a0 n energy k outv1 iv1)) → X1 (f32_g1 l_a0 n energy outv1 iv1) := by
    intro k
    induction k with
    | zero => intro outv1 iv1 hs; exact absurd hs Bool.false_ne_true
    | succ k ih =>
      intro outv1 iv1 hs hk
      refine hstep outv1 iv1 ?_
      have hs : p32_st1 l_a0 n energy (p32_lp1 l_a0 n energy k) outv1 iv1 = true := hs
      have hk : K (e32 (s32_st1 l_a0 n energy (s32_lp1 l_a0 n energy k) outv1 iv1)) := hk
      unfold p32_st1 at hs
      unfold s32_st1 at hk
      generalize s32_lp1 l_a0 n energy k = S1 at hk ih
      generalize p32_lp1 l_a0 n energy k = P1 at hs ih
      have hX1 := ih
      exact (condB_go (K := fun r => K (e32 r))
       (fun hs hk => (andK hs fun hc hs => ⟨hc, (andK hs fun hc hs => ⟨hc, (andK hs fun hc hs => ⟨hc, (q32_at2 K l_a0 n energy X1 P1 S1 hX1 outv1 iv1 (if (s24 ((l_a0.get iv1.toNat).Rate) (n.Rates.get iv1.toNat)) < outv1 then (s24 ((l_a0.get iv1.toNat).Rate) (n.Rates.get iv1.toNat)) else outv1) hs hk)⟩)⟩)⟩))
       (fun hs hk => hk) hs hk)
  exact key _ outv1 iv1 hs hk
def s32_at0 (l_a0 : (Sl FluxRow)) (n : Nature) (energy : Int) (outv0 : Int) : Int :=
  (s32_at1 l_a0 n energy outv0 (1:Int))
def p32_at0 (l_a0 : (Sl FluxRow)) (n : Nature) (energy : Int) (outv0 : Int) : Bool :=
  (p32_at1 l_a0 n energy outv0 (1:Int))
theorem q32_at0 (K : List PA → Prop) (l_a0 : (Sl FluxRow)) (n : Nature) (energy : Int) (outv0 : Int) (hs : p32_at0 l_a0 n energy outv0 = true) (hk : K (e32 (s32_at0 l_a0 n energy outv0))) : f32_at0 K l_a0 n energy outv0 := by
  refine ofEq (f32_eq0 K l_a0 n energy outv0) ?_
  unfold p32_at0 at hs
  unfold s32_at0 at hk
  exact (q32_at1 K l_a0 n energy outv0 (1:Int) hs hk)
def s32 (l_a0 : (Sl FluxRow)) (n : Nature) (energy : Int) : Int :=
  (s32_at0 l_a0 n energy (s24 ((l_a0.get 0).Rate) (n.Rates.get 0)))
def p32 (l_a0 : (Sl FluxRow)) (n : Nature) (energy : Int) : Bool :=
  (decide ((0 ≤ (0:Int) ∧ (0:Int) < (l_a0.len : Int))) &&
  (decide ((0 ≤ (0:Int) ∧ (0:Int) < (n.Rates.len : Int))) &&
  (decide ((p24 ((l_a0.get 0).Rate) (n.Rates.get 0) = true)) &&
  (p32_at0 l_a0 n energy (s24 ((l_a0.get 0).Rate) (n.Rates.get 0))))))
theorem q32 (l_a0 : (Sl FluxRow)) (n : Nature) (energy : Int) (K : List PA → Prop) (hs : p32 l_a0 n energy = true) (hk : K (e32 (s32 l_a0 n energy))) : vcFun Try.prog G32 ann32 32 [.one (.sl l_a0.len 3 (fun i => enc_44 (l_a0.get i))), .agg [.sl n.Ranges.len 1 (fun i => enc_3 (n.Ranges.get i)), .sl n.Rates.len 1 (fun i => enc_3 (n.Rates.get i)), .bool n.Soon], .one (.int .i64 energy)] K := by
  refine ofEq (f32_top l_a0 n energy K) ?_
  unfold p32 at hs
  unfold s32 at hk
  exact (andK hs fun hc hs => ⟨hc, (andK hs fun hc hs => ⟨hc, (andK hs fun hc hs => ⟨hc, (q32_at0 K l_a0 n energy (s24 ((l_a0.get 0).Rate) (n.Rates.get 0)) hs hk)⟩)⟩)⟩)
def ctr32 : List PA → COut
  | [.one (.sl a0_n a0_s a0_g), .agg [.sl a1_Ranges_n a1_Ranges_s a1_Ranges_g, .sl a1_Rates_n a1_Rates_s a1_Rates_g, .bool a1_Soon], .one (.int .i64 a2)] => .det (IsE enc_44 3 a0_s a0_g ∧ IsE enc_3 1 a1_Ranges_s a1_Ranges_g ∧ IsE enc_3 1 a1_Rates_s a1_Rates_g ∧ p32 (⟨a0_n, decF_44 a0_g⟩ : (Sl FluxRow)) (⟨(⟨a1_Ranges_n, decF_3 a1_Ranges_g⟩ : (Sl Int)), (⟨a1_Rates_n, decF_3 a1_Rates_g⟩ : (Sl Int)), a1_Soon⟩ : Nature) a2 = true) [.one (.int .i64 (s32 (⟨a0_n, decF_44 a0_g⟩ : (Sl FluxRow)) (⟨(⟨a1_Ranges_n, decF_3 a1_Ranges_g⟩ : (Sl Int)), (⟨a1_Rates_n, decF_3 a1_Rates_g⟩ : (Sl Int)), a1_Soon⟩ : Nature) a2))]
  | _ => .no
theorem call32 : Callable Try.prog 32 := ⟨_, rfl, rfl, by kernel_rfl⟩
theorem ok32 : Ok Try.prog 32 ctr32 := ok_tab okT32 call32 fun args K h => by
  unfold ctr32 at h
  split at h
  · rename_i a0_n a0_s a0_g a1_Ranges_n a1_Ranges_s a1_Ranges_g a1_Rates_n a1_Rates_s a1_Rates_g a1_Soon a2
    obtain ⟨⟨⟨rfl, a0_f, rfl⟩, ⟨rfl, a1_Ranges_f, rfl⟩, ⟨rfl, a1_Rates_f, rfl⟩, hs⟩, hk⟩ := h
    try rw [decF_enc_44 a0_f] at hs
    try rw [decF_enc_44 a0_f] at hk
    try rw [decF_enc_3 a1_Ranges_f] at hs
    try rw [decF_enc_3 a1_Ranges_f] at hk
    try rw [decF_enc_3 a1_Rates_f] at hs
    try rw [decF_enc_3 a1_Rates_f] at hk
    exact ⟨(fun _ _ => []), (fun _ => false), ann32, q32 (⟨a0_n, a0_f⟩ : (Sl FluxRow)) (⟨(⟨a1_Ranges_n, a1_Ranges_f⟩ : (Sl Int)), (⟨a1_Rates_n, a1_Rates_f⟩ : (Sl Int)), a1_Soon⟩ : Nature) a2 K hs hk⟩
  · exact h.elim
end Go.Proofs
namespace Go.Proofs
open Go Go.Pm
set_option maxRecDepth 100000
set_option linter.unusedVariables false
attribute [local irreducible] Go.Pm.vcFun Go.Pm.vc Go.Pm.vcIter
abbrev T42 : Tabs := (((Tabs.nil.addF 62 ctr62).addF 63 ctr63).addF 81 ctr81)
theorem okT42 : TabsOk Try.prog T42 := (((TabsOk.nil.addF ok62).addF ok63).addF ok81)
abbrev G42 : Ctrs := csm T42 (fun _ _ => []) (fun _ => false)
def ann42 : Ann := ⟨47, [(0, ⟨[0, 3, 4], [3, 4], [], [], []⟩), (1, ⟨[0, 3, 4, 16], [3, 4], [], [], []⟩), (2, ⟨[4, 5], [4], [], [], []⟩), (3, ⟨[0, 3, 4, 6], [3, 4, 6], [], [], []⟩), (4, ⟨[0, 3, 4, 6, 7], [3, 4, 6], [], [], []⟩), (5, ⟨[0, 3, 4, 6, 7, 23], [3, 4, 6], [], [], []⟩), (6, ⟨[0, 3, 4, 6], [3, 4, 6], [], [], []⟩), (7, ⟨[0, 4, 6, 8], [4, 6], [], [], []⟩), (8, ⟨[0, 4, 6, 8, 38], [4, 6], [], [], []⟩), (9, ⟨[4, 6], [4, 6], [], [], []⟩), (10, ⟨[4, 5], [4], [], [], []⟩)],
  [],
  [(2, ⟨[0, 3, 4, 16], [3, 4], [], [], []⟩), (3, ⟨[0, 3, 4], [3, 4], [], [], []⟩), (5, ⟨[0, 3, 4, 6, 7], [3, 4, 6], [], [], []⟩), (7, ⟨[0, 3, 4, 6], [3, 4, 6], [], [], []⟩), (8, ⟨[0, 4, 6, 8], [4, 6], [], [], []⟩)],
  [], []⟩
def f42_g0 (t : (Sl RangeRow)) (energy : Int) (t16v0 : Bool) : St := ⟨[(0, .one (.c (.p (.sl t.len 3 (fun i => enc_42 (t.get i)))))), (3, .one (.c (.ptr 3 0))), (4, .one (.c (.ptr 4 0))), (16, .one (.c (.p (.bool t16v0))))], [(3, .box 3 [.p (.int .i64 energy)]), (4, .box 24 [.p (.int .i64 (0:Int)), .p (.int .i64 (0:Int))])], []⟩
def f42_at0 (K : List PA → Prop) (t : (Sl RangeRow)) (energy : Int) (t16v0 : Bool) : Prop := vc Try.prog G42 ann42 (cdF Try.f42 [1, 0, 1]) (sqK Try.prog G42 ann42 (cdF Try.f42 [1, 1]) (bodyK Try.prog Try.f42 K)) (f42_g0 t energy t16v0)
def f42_g1 (t : (Sl RangeRow)) (energy : Int) : St := ⟨[(0, .one (.c (.p (.sl t.len 3 (fun i => enc_42 (t.get i)))))), (3, .one (.c (.ptr 3 0))), (4, .one (.c (.ptr 4 0)))], [(3, .box 3 [.p (.int .i64 energy)]), (4, .box 24 [.p (.int .i64 (0:Int)), .p (.int .i64 (0:Int))])], []⟩
def f42_at1 (K : List PA → Prop) (t : (Sl RangeRow)) (energy : Int) : Prop := vc Try.prog G42 ann42 (cdF Try.f42 [1, 1]) (bodyK Try.prog Try.f42 K) (f42_g1 t energy)
def f42_g2 (t : (Sl RangeRow)) (energy : Int) (iv2 : Int) : St := ⟨[(0, .one (.c (.p (.sl t.len 3 (fun i => enc_42 (t.get i)))))), (3, .one (.c (.ptr 3 0))), (4, .one (.c (.ptr 4 0))), (6, .one (.c (.ptr 6 0))), (7, .one (.c (.p (.int .i64 iv2))))], [(3, .fbox [.int .i64 energy]), (4, .box 24 [.p (.int .i64 (0:Int)), .p (.int .i64 (0:Int))]), (6, .box 24 [.p (.int .i64 (0:Int)), .p (.int .i64 (1000000:Int))])], []⟩
def f42_at2 (K : List PA → Prop) (t : (Sl RangeRow)) (energy : Int) (iv2 : Int) : Prop := vc Try.prog G42 ann42 (cdF Try.f42 [1, 1, 1, 0, 1]) (sqK Try.prog G42 ann42 (cdF Try.f42 [1, 1, 1, 1]) (bodyK Try.prog Try.f42 K)) (f42_g2 t energy iv2)
def f42_g3 (t : (Sl RangeRow)) (energy : Int) (out_0v3 : Int) : St := ⟨[(0, .one (.c (.p (.sl t.len 3 (fun i => enc_42 (t.get i)))))), (3, .one (.c (.ptr 3 0))), (4, .one (.c (.ptr 4 0))), (6, .one (.c (.ptr 6 0)))], [(3, .fbox [.int .i64 energy]), (4, .box 24 [.p (.int .i64 (0:Int)), .p (.int .i64 (0:Int))]), (6, .box 24 [.p (.int .i64 out_0v3), .p (.int .i64 (1000000:Int))])], []⟩
def f42_at3 (K : List PA → Prop) (t : (Sl RangeRow)) (energy : Int) (out_0v3 : Int) : Prop := vc Try.prog G42 ann42 (cdF Try.f42 [1, 1, 1, 1]) (bodyK Try.prog Try.f42 K) (f42_g3 t energy out_0v3)
def f42_g4 (t : (Sl RangeRow)) (out_0v3 : Int) (iv4 : Int) : St := ⟨[(0, .one (.c (.p (.sl t.len 3 (fun i => enc_42 (t.get i)))))), (4, .one (.c (.ptr 4 0))), (6, .one (.c (.ptr 6 0))), (8, .one (.c (.p (.int .i64 iv4))))], [(4, .box 24 [.p (.int .i64 (0:Int)), .p (.int .i64 (0:Int))]), (6, .box 24 [.p (.int .i64 out_0v3), .p (.int .i64 (1000000:Int))])], []⟩
def f42_at4 (K : List PA → Prop) (t : (Sl RangeRow)) (out_0v3 : Int) (iv4 : Int) : Prop := vc Try.prog G42 ann42 (cdF Try.f42 [1, 1, 1, 1, 0, 1]) (sqK Try.prog G42 ann42 (cdF Try.f42 [1, 1, 1, 1, 1]) (bodyK Try.prog Try.f42 K)) (f42_g4 t out_0v3 iv4)
theorem f42_top (t : (Sl RangeRow)) (energy : Int) (K : List PA → Prop) :
  vcFun Try.prog G42 ann42 42 [.one (.sl t.len 3 (fun i => enc_42 (t.get i))), .one (.int .i64 energy)] K =
  ((IsE enc_42 3 3 (fun i => enc_42 (t.get i)) ∧ (p62 t = true)) ∧
  (condP (!(s62 t))
   (f42_at0 K t energy true)
   (f42_at0 K t energy (!(s63 energy (1:Int) (1000000:Int)))))) := by kernel_rfl
theorem f42_eq0 (K : List PA → Prop) (t : (Sl RangeRow)) (energy : Int) (t16v0 : Bool) :
  f42_at0 K t energy t16v0 =
  (condP t16v0
   (K [.agg [.int .i64 (0:Int), .int .i64 (0:Int)], .one (.int .i64 (2:Int))])
   (f42_at1 K t energy)) := by kernel_rfl
theorem f42_eq1 (K : List PA → Prop) (t : (Sl RangeRow)) (energy : Int) :
  f42_at1 K t energy =
  ((IsE enc_42 3 3 (fun i => enc_42 (t.get i)) ∧ (p81b energy t = true)) ∧
  (f42_at2 K t energy (s81b energy t))) := by kernel_rfl
theorem f42_eq2 (K : List PA → Prop) (t : (Sl RangeRow)) (energy : Int) (iv2 : Int) :
  f42_at2 K t energy iv2 =
  (condP (decide (iv2 > (0:Int)))
   (((0 ≤ (w64 (iv2 - (1:Int))) ∧ (w64 (iv2 - (1:Int))) < (t.len : Int))) ∧
   (f42_at3 K t energy ((t.get ((w64 (iv2 - (1:Int))).toNat)).Range.Low)))
   (f42_at3 K t energy (0:Int))) := by kernel_rfl
theorem f42_eq3 (K : List PA → Prop) (t : (Sl RangeRow)) (energy : Int) (out_0v3 : Int) :
  f42_at3 K t energy out_0v3 =
  ((IsE enc_42 3 3 (fun i => enc_42 (t.get i)) ∧ (p81c energy t = true)) ∧
  (f42_at4 K t out_0v3 (s81c energy t))) := by kernel_rfl
theorem f42_eq4 (K : List PA → Prop) (t : (Sl RangeRow)) (out_0v3 : Int) (iv4 : Int) :
  f42_at4 K t out_0v3 iv4 =
  (condP (decide (iv4 < (t.len : Int)))
   (((0 ≤ iv4 ∧ iv4 < (t.len : Int))) ∧
   (K [.agg [.int .i64 out_0v3, .int .i64 ((t.get iv4.toNat).Range.High)], .one (.int .i64 (0:Int))]))
   (K [.agg [.int .i64 out_0v3, .int .i64 (1000000:Int)], .one (.int .i64 (0:Int))])) := by kernel_rfl
abbrev e42 (r : (Span × Int)) : List PA := [.agg [.int .i64 r.1.Low, .int .i64 r.1.High], .one (.int .i64 r.2)]
attribute [irreducible] f42_at0 f42_at1 f42_at2 f42_at3 f42_at4
def s42_at4 (t : (Sl RangeRow)) (out_0v3 : Int) (iv4 : Int) : (Span × Int) :=
  (cond (decide (iv4 < (t.len : Int)))
   ((⟨out_0v3, (t.get iv4.toNat).Range.High⟩ : Span), (0:Int))
   ((⟨out_0v3, (1000000:Int)⟩ : Span), (0:Int)))
def p42_at4 (t : (Sl RangeRow)) (out_0v3 : Int) (iv4 : Int) : Bool :=
  (cond (decide (iv4 < (t.len : Int)))
   (decide ((0 ≤ iv4 ∧ iv4 < (t.len : Int))) &&
   true)
   true)
theorem q42_at4 (K : List PA → Prop) (t : (Sl RangeRow)) (out_0v3 : Int) (iv4 : Int) (hs : p42_at4 t out_0v3 iv4 = true) (hk : K (e42 (s42_at4 t out_0v3 iv4))) : f42_at4 K t out_0v3 iv4 := by
  refine ofEq (f42_eq4 K t out_0v3 iv4) ?_
  unfold p42_at4 at hs
  unfold s42_at4 at hk
  exact (condB_go (K := fun r => K (e42 r))
   (fun hs hk => (andK hs fun hc hs => ⟨hc, hk⟩))
   (fun hs hk => hk) hs hk)
def s42_at3 (t : (Sl RangeRow)) (energy : Int) (out_0v3 : Int) : (Span × Int) :=
  (s42_at4 t out_0v3 (s81c energy t))
def p42_at3 (t : (Sl RangeRow)) (energy : Int) (out_0v3 : Int) : Bool :=
  (decide ((p81c energy t = true)) &&
  (p42_at4 t out_0v3 (s81c energy t)))
theorem q42_at3 (K : List PA → Prop) (t : (Sl RangeRow)) (energy : Int) (out_0v3 : Int) (hs : p42_at3 t energy out_0v3 = true) (hk : K (e42 (s42_at3 t energy out_0v3))) : f42_at3 K t energy out_0v3 := by
  refine ofEq (f42_eq3 K t energy out_0v3) ?_
  unfold p42_at3 at hs
  unfold s42_at3 at hk
  exact (andK hs fun hc hs => ⟨⟨isE, hc⟩, (q42_at4 K t out_0v3 (s81c energy t) hs hk)⟩)
def s42_at2 (t : (Sl RangeRow)) (energy : Int) (iv2 : Int) : (Span × Int) :=
  (cond (decide (iv2 > (0:Int)))
   (s42_at3 t energy ((t.get ((w64 (iv2 - (1:Int))).toNat)).Range.Low))
   (s42_at3 t energy (0:Int)))
def p42_at2 (t : (Sl RangeRow)) (energy : Int) (iv2 : Int) : Bool :=
  (cond (decide (iv2 > (0:Int)))
   (decide ((0 ≤ (w64 (iv2 - (1:Int))) ∧ (w64 (iv2 - (1:Int))) < (t.len : Int))) &&
   (p42_at3 t energy ((t.get ((w64 (iv2 - (1:Int))).toNat)).Range.Low)))
   (p42_at3 t energy (0:Int)))
theorem q42_at2 (K : List PA → Prop) (t : (Sl RangeRow)) (energy : Int) (iv2 : Int) (hs : p42_at2 t energy iv2 = true) (hk : K (e42 (s42_at2 t energy iv2))) : f42_at2 K t energy iv2 := by
  refine ofEq (f42_eq2 K t energy iv2) ?_
  unfold p42_at2 at hs
  unfold s42_at2 at hk
  exact (condB_go (K := fun r => K (e42 r))
   (fun hs hk => (andK hs fun hc hs => ⟨hc, (q42_at3 K t energy ((t.get ((w64 (iv2 - (1:Int))).toNat)).Range.Low) hs hk)⟩))
   (fun hs hk => (q42_at3 K t energy (0:Int) hs hk)) hs hk)
def s42_at1 (t : (Sl RangeRow)) (energy : Int) : (Span × Int) :=
  (s42_at2 t energy (s81b energy t))
def p42_at1 (t : (Sl RangeRow)) (energy : Int) : Bool :=
  (decide ((p81b energy t = true)) &&
  (p42_at2 t energy (s81b energy t)))
theorem q42_at1 (K : List PA → Prop) (t : (Sl RangeRow)) (energy : Int) (hs : p42_at1 t energy = true) (hk : K (e42 (s42_at1 t energy))) : f42_at1 K t energy := by
  refine ofEq (f42_eq1 K t energy) ?_
  unfold p42_at1 at hs
  unfold s42_at1 at hk
  exact (andK hs fun hc hs => ⟨⟨isE, hc⟩, (q42_at2 K t energy (s81b energy t) hs hk)⟩)
def s42_at0 (t : (Sl RangeRow)) (energy : Int) (t16v0 : Bool) : (Span × Int) :=
  (cond t16v0
   ((⟨(0:Int), (0:Int)⟩ : Span), (2:Int))
   (s42_at1 t energy))
def p42_at0 (t : (Sl RangeRow)) (energy : Int) (t16v0 : Bool) : Bool :=
  (cond t16v0
   true
   (p42_at1 t energy))
theorem q42_at0 (K : List PA → Prop) (t : (Sl RangeRow)) (energy : Int) (t16v0 : Bool) (hs : p42_at0 t energy t16v0 = true) (hk : K (e42 (s42_at0 t energy t16v0))) : f42_at0 K t energy t16v0 := by
  refine ofEq (f42_eq0 K t energy t16v0) ?_
  unfold p42_at0 at hs
  unfold s42_at0 at hk
  exact (condB_go (K := fun r => K (e42 r))
   (fun hs hk => hk)
   (fun hs hk => (q42_at1 K t energy hs hk)) hs hk)
def s42 (t : (Sl RangeRow)) (energy : Int) : (Span × Int) :=
  (cond (!(s62 t))
   (s42_at0 t energy true)
   (s42_at0 t energy (!(s63 energy (1:Int) (1000000:Int)))))
def p42 (t : (Sl RangeRow)) (energy : Int) : Bool :=
  (decide ((p62 t = true)) &&
  (cond (!(s62 t))
   (p42_at0 t energy true)
   (p42_at0 t energy (!(s63 energy (1:Int) (1000000:Int))))))
theorem q42 (t : (Sl RangeRow)) (energy : Int) (K : List PA → Prop) (hs : p42 t energy = true) (hk : K (e42 (s42 t energy))) : vcFun Try.prog G42 ann42 42 [.one (.sl t.len 3 (fun i => enc_42 (t.get i))), .one (.int .i64 energy)] K := by
  refine ofEq (f42_top t energy K) ?_
  unfold p42 at hs
  unfold s42 at hk
  exact (andK hs fun hc hs => ⟨⟨isE, hc⟩, (condB_go (K := fun r => K (e42 r))
   (fun hs hk => (q42_at0 K t energy true hs hk))
   (fun hs hk => (q42_at0 K t energy (!(s63 energy (1:Int) (1000000:Int))) hs hk)) hs hk)⟩)
def ctr42 : List PA → COut
  | [.one (.sl a0_n a0_s a0_g), .one (.int .i64 a1)] => .det (IsE enc_42 3 a0_s a0_g ∧ p42 (⟨a0_n, decF_42 a0_g⟩ : (Sl RangeRow)) a1 = true) [.agg [.int .i64 (((s42 (⟨a0_n, decF_42 a0_g⟩ : (Sl RangeRow)) a1).1).Low), .int .i64 (((s42 (⟨a0_n, decF_42 a0_g⟩ : (Sl RangeRow)) a1).1).High)], .one (.int .i64 ((s42 (⟨a0_n, decF_42 a0_g⟩ : (Sl RangeRow)) a1).2))]
  | _ => .no
theorem call42 : Callable Try.prog 42 := ⟨_, rfl, rfl, by kernel_rfl⟩
theorem ok42 : Ok Try.prog 42 ctr42 := ok_tab okT42 call42 fun args K h => by
  unfold ctr42 at h
  split at h
  · rename_i a0_n a0_s a0_g a1
    obtain ⟨⟨⟨rfl, a0_f, rfl⟩, hs⟩, hk⟩ := h
    try rw [decF_enc_42 a0_f] at hs
    try rw [decF_enc_42 a0_f] at hk
    exact ⟨(fun _ _ => []), (fun _ => false), ann42, q42 (⟨a0_n, a0_f⟩ : (Sl RangeRow)) a1 K hs hk⟩
  · exact h.elim
end Go.Proofs
namespace Go.Proofs
open Go Go.Pm
set_option maxRecDepth 100000
set_option linter.unusedVariables false
attribute [local irreducible] Go.Pm.vcFun Go.Pm.vc Go.Pm.vcIter
abbrev T11 : Tabs := (((((((((((((Tabs.nil.addF 15 ctr15).addF 16 ctr16).addF 17 ctr17).addF 18 ctr18).addF 19 ctr19).addF 20 ctr20).addF 21 ctr21).addF 25 ctr25).addF 31 ctr31).addF 32 ctr32).addF 34 ctr34).addF 42 ctr42).addF 43 ctr43)
theorem okT11 : TabsOk Try.prog T11 := (((((((((((((TabsOk.nil.addF ok15).addF ok16).addF ok17).addF ok18).addF ok19).addF ok20).addF ok21).addF ok25).addF ok31).addF ok32).addF ok34).addF ok42).addF ok43)
abbrev G11 : Ctrs := csm T11 (fun _ _ => []) (fun _ => false)
def ann11 : Ann := ⟨232, [(0, ⟨[1, 2, 4, 5, 6, 7, 8, 11], [8, 11], [], [], []⟩), (1, ⟨[1, 2, 4, 5, 6, 7, 8, 11, 89], [8, 11], [], [], []⟩), (2, ⟨[16], [], [], [], []⟩), (3, ⟨[1, 2, 4, 5, 6, 7, 8, 11, 17, 18], [8, 11, 17], [], [], []⟩), (4, ⟨[1, 2, 4, 6, 7, 8, 11, 17, 18, 19], [8, 11, 17], [], [], []⟩), (5, ⟨[1, 2, 4, 6, 7, 8, 11, 114], [8, 11], [], [], []⟩), (6, ⟨[16], [], [], [], []⟩), (7, ⟨[1, 2, 4, 6, 7, 8, 11, 20, 21], [8, 11, 20], [], [], []⟩), (8, ⟨[1, 2, 4, 6, 7, 8, 11, 20, 21, 22], [8, 11, 20], [], [], []⟩), (9, ⟨[1, 2, 4, 6, 7, 8, 11, 20, 21, 22, 126], [8, 11, 20], [], [], []⟩), (10, ⟨[1, 2, 4, 6, 7, 8, 11, 20, 21, 22], [8, 11, 20], [], [], []⟩), (11, ⟨[1, 2, 4, 6, 7, 8, 11, 22, 158], [8, 11], [], [], []⟩), (12, ⟨[16], [], [], [], []⟩), (13, ⟨[1, 2, 4, 6, 7, 8, 11, 22, 23], [8, 11], [], [], []⟩), (14, ⟨[1, 2, 4, 6, 7, 8, 11, 22, 23, 160], [8, 11], [], [], []⟩), (15, ⟨[1, 2, 4, 6, 7, 8, 23], [8], [], [], []⟩), (16, ⟨[1, 2, 4, 6, 7, 8, 23, 24, 25], [8, 24], [], [], []⟩), (17, ⟨[1, 2, 4, 6, 7, 8, 23, 190], [8], [], [], []⟩), (18, ⟨[16], [], [], [], []⟩), (19, ⟨[4, 26, 27], [26], [], [], []⟩), (20, ⟨[16], [], [], [], []⟩)],
  [],
  [(2, ⟨[1, 2, 4, 5, 6, 7, 8, 11, 89], [8, 11], [], [], []⟩), (3, ⟨[1, 2, 4, 5, 6, 7, 8, 11], [8, 11], [], [], []⟩), (4, ⟨[1, 2, 4, 5, 6, 7, 8, 11, 17, 18], [8, 11, 17], [], [], []⟩), (5, ⟨[1, 2, 4, 6, 7, 8, 11, 17, 18, 19], [8, 11, 17], [], [], []⟩), (7, ⟨[1, 2, 4, 6, 7, 8, 11], [8, 11], [], [], []⟩), (8, ⟨[1, 2, 4, 6, 7, 8, 11, 20, 21], [8, 11, 20], [], [], []⟩), (9, ⟨[1, 2, 4, 6, 7, 8, 11, 20, 21, 22], [8, 11, 20], [], [], []⟩), (11, ⟨[1, 2, 4, 6, 7, 8, 11, 20, 21, 22], [8, 11, 20], [], [], []⟩), (13, ⟨[1, 2, 4, 6, 7, 8, 11, 22], [8, 11], [], [], []⟩), (16, ⟨[1, 2, 4, 6, 7, 8, 23], [8], [], [], []⟩), (17, ⟨[1, 2, 4, 6, 7, 8, 23, 24, 25], [8, 24], [], [], []⟩), (19, ⟨[1, 2, 4, 6, 7, 8, 23], [8], [], [], []⟩), (20, ⟨[4, 26, 27], [26], [], [], []⟩)],
  [], []⟩
def f11_g0 (s : Sky) (t : (Sl RangeRow)) (bin : Int) (n : Nature) (opacity : Int) (energy : Int) (less : Int) (more : Int) (t89v0 : Bool) (s_1v0_n : Nat) (s_1v0_g : Nat → List PV) : St := ⟨[(1, .one (.c (.p (.sl t.len 3 (fun i => enc_42 (t.get i)))))), (2, .one (.c (.p (.int .i64 bin)))), (4, .one (.c (.p (.int .i64 opacity)))), (5, .one (.c (.p (.int .i64 energy)))), (6, .one (.c (.p (.int .i64 less)))), (7, .one (.c (.p (.int .i64 more)))), (8, .one (.c (.ptr 8 0))), (11, .one (.c (.ptr 11 0))), (89, .one (.c (.p (.bool t89v0))))], [(8, .box 26 [.p (.int .i64 s.Parts), .p (.sl s_1v0_n 1 s_1v0_g), .p (.int .i64 s.Beta.Low), .p (.int .i64 s.Beta.High), .p (.int .i64 s.Alpha.Low), .p (.int .i64 s.Alpha.High)]), (11, .box 39 [.p (.sl n.Ranges.len 1 (fun i => enc_3 (n.Ranges.get i))), .p (.sl n.Rates.len 1 (fun i => enc_3 (n.Rates.get i))), .p (.bool n.Soon)])], []⟩
def f11_at0 (K : List PA → Prop) (s : Sky) (t : (Sl RangeRow)) (bin : Int) (n : Nature) (opacity : Int) (energy : Int) (less : Int) (more : Int) (t89v0 : Bool) (s_1v0_n : Nat) (s_1v0_g : Nat → List PV) : Prop := vc Try.prog G11 ann11 (cdF Try.f11 [1, 0, 1]) (sqK Try.prog G11 ann11 (cdF Try.f11 [1, 1]) (bodyK Try.prog Try.f11 K)) (f11_g0 s t bin n opacity energy less more t89v0 s_1v0_n s_1v0_g)
def f11_g1 (s : Sky) (t : (Sl RangeRow)) (bin : Int) (n : Nature) (opacity : Int) (energy : Int) (less : Int) (more : Int) (s_1v1_n : Nat) (s_1v1_g : Nat → List PV) : St := ⟨[(1, .one (.c (.p (.sl t.len 3 (fun i => enc_42 (t.get i)))))), (2, .one (.c (.p (.int .i64 bin)))), (4, .one (.c (.p (.int .i64 opacity)))), (5, .one (.c (.p (.int .i64 energy)))), (6, .one (.c (.p (.int .i64 less)))), (7, .one (.c (.p (.int .i64 more)))), (8, .one (.c (.ptr 8 0))), (11, .one (.c (.ptr 11 0)))], [(8, .box 26 [.p (.int .i64 s.Parts), .p (.sl s_1v1_n 1 s_1v1_g), .p (.int .i64 s.Beta.Low), .p (.int .i64 s.Beta.High), .p (.int .i64 s.Alpha.Low), .p (.int .i64 s.Alpha.High)]), (11, .box 39 [.p (.sl n.Ranges.len 1 (fun i => enc_3 (n.Ranges.get i))), .p (.sl n.Rates.len 1 (fun i => enc_3 (n.Rates.get i))), .p (.bool n.Soon)])], []⟩
def f11_at1 (K : List PA → Prop) (s : Sky) (t : (Sl RangeRow)) (bin : Int) (n : Nature) (opacity : Int) (energy : Int) (less : Int) (more : Int) (s_1v1_n : Nat) (s_1v1_g : Nat → List PV) : Prop := vc Try.prog G11 ann11 (cdF Try.f11 [1, 1]) (bodyK Try.prog Try.f11 K) (f11_g1 s t bin n opacity energy less more s_1v1_n s_1v1_g)
def f11_g2 (s : Sky) (t : (Sl RangeRow)) (bin : Int) (n : Nature) (opacity : Int) (energy : Int) (less : Int) (more : Int) (ev2 : Int) (s_1v2_n : Nat) (s_1v2_g : Nat → List PV) (b_0v2 : Int) (b_1v2 : Int) : St := ⟨[(1, .one (.c (.p (.sl t.len 3 (fun i => enc_42 (t.get i)))))), (2, .one (.c (.p (.int .i64 bin)))), (4, .one (.c (.p (.int .i64 opacity)))), (5, .one (.c (.p (.int .i64 energy)))), (6, .one (.c (.p (.int .i64 less)))), (7, .one (.c (.p (.int .i64 more)))), (8, .one (.c (.ptr 8 0))), (11, .one (.c (.ptr 11 0))), (17, .one (.c (.ptr 17 0))), (18, .one (.c (.p (.int .i64 ev2))))], [(8, .box 26 [.p (.int .i64 s.Parts), .p (.sl s_1v2_n 1 s_1v2_g), .p (.int .i64 s.Beta.Low), .p (.int .i64 s.Beta.High), .p (.int .i64 s.Alpha.Low), .p (.int .i64 s.Alpha.High)]), (11, .box 39 [.p (.sl n.Ranges.len 1 (fun i => enc_3 (n.Ranges.get i))), .p (.sl n.Rates.len 1 (fun i => enc_3 (n.Rates.get i))), .p (.bool n.Soon)]), (17, .box 24 [.p (.int .i64 b_0v2), .p (.int .i64 b_1v2)])], []⟩
def f11_at2 (K : List PA → Prop) (s : Sky) (t : (Sl RangeRow)) (bin : Int) (n : Nature) (opacity : Int) (energy : Int) (less : Int) (more : Int) (ev2 : Int) (s_1v2_n : Nat) (s_1v2_g : Nat → List PV) (b_0v2 : Int) (b_1v2 : Int) : Prop := vc Try.prog G11 ann11 (cdF Try.f11 [1, 1, 1]) (bodyK Try.prog Try.f11 K) (f11_g2 s t bin n opacity energy less more ev2 s_1v2_n s_1v2_g b_0v2 b_1v2)
def f11_g3 (s : Sky) (t : (Sl RangeRow)) (bin : Int) (n : Nature) (opacity : Int) (less : Int) (more : Int) (ev2 : Int) (b_0v2 : Int) (b_1v2 : Int) (xv3 : Int) (s_1v3_n : Nat) (s_1v3_g : Nat → List PV) : St := ⟨[(1, .one (.c (.p (.sl t.len 3 (fun i => enc_42 (t.get i)))))), (2, .one (.c (.p (.int .i64 bin)))), (4, .one (.c (.p (.int .i64 opacity)))), (6, .one (.c (.p (.int .i64 less)))), (7, .one (.c (.p (.int .i64 more)))), (8, .one (.c (.ptr 8 0))), (11, .one (.c (.ptr 11 0))), (17, .one (.c (.ptr 17 0))), (18, .one (.c (.p (.int .i64 ev2)))), (19, .one (.c (.p (.int .i64 xv3))))], [(8, .box 26 [.p (.int .i64 s.Parts), .p (.sl s_1v3_n 1 s_1v3_g), .p (.int .i64 s.Beta.Low), .p (.int .i64 s.Beta.High), .p (.int .i64 s.Alpha.Low), .p (.int .i64 s.Alpha.High)]), (11, .box 39 [.p (.sl n.Ranges.len 1 (fun i => enc_3 (n.Ranges.get i))), .p (.sl n.Rates.len 1 (fun i => enc_3 (n.Rates.get i))), .p (.bool n.Soon)]), (17, .box 24 [.p (.int .i64 b_0v2), .p (.int .i64 b_1v2)])], []⟩
def f11_at3 (K : List PA → Prop) (s : Sky) (t : (Sl RangeRow)) (bin : Int) (n : Nature) (opacity : Int) (less : Int) (more : Int) (ev2 : Int) (b_0v2 : Int) (b_1v2 : Int) (xv3 : Int) (s_1v3_n : Nat) (s_1v3_g : Nat → List PV) : Prop := vc Try.prog G11 ann11 (cdF Try.f11 [1, 1, 1, 0, 1]) (sqK Try.prog G11 ann11 (cdF Try.f11 [1, 1, 1, 1]) (bodyK Try.prog Try.f11 K)) (f11_g3 s t bin n opacity less more ev2 b_0v2 b_1v2 xv3 s_1v3_n s_1v3_g)
def f11_g4 (s : Sky) (t : (Sl RangeRow)) (bin : Int) (n : Nature) (opacity : Int) (less : Int) (more : Int) (s_1v4_n : Nat) (s_1v4_g : Nat → List PV) : St := ⟨[(1, .one (.c (.p (.sl t.len 3 (fun i => enc_42 (t.get i)))))), (2, .one (.c (.p (.int .i64 bin)))), (4, .one (.c (.p (.int .i64 opacity)))), (6, .one (.c (.p (.int .i64 less)))), (7, .one (.c (.p (.int .i64 more)))), (8, .one (.c (.ptr 8 0))), (11, .one (.c (.ptr 11 0)))], [(8, .box 26 [.p (.int .i64 s.Parts), .p (.sl s_1v4_n 1 s_1v4_g), .p (.int .i64 s.Beta.Low), .p (.int .i64 s.Beta.High), .p (.int .i64 s.Alpha.Low), .p (.int .i64 s.Alpha.High)]), (11, .box 39 [.p (.sl n.Ranges.len 1 (fun i => enc_3 (n.Ranges.get i))), .p (.sl n.Rates.len 1 (fun i => enc_3 (n.Rates.get i))), .p (.bool n.Soon)])], []⟩
def f11_at4 (K : List PA → Prop) (s : Sky) (t : (Sl RangeRow)) (bin : Int) (n : Nature) (opacity : Int) (less : Int) (more : Int) (s_1v4_n : Nat) (s_1v4_g : Nat → List PV) : Prop := vc Try.prog G11 ann11 (cdF Try.f11 [1, 1, 1, 1]) (bodyK Try.prog Try.f11 K) (f11_g4 s t bin n opacity less more s_1v4_n s_1v4_g)
def f11_g5 (s : Sky) (t : (Sl RangeRow)) (bin : Int) (n : Nature) (opacity : Int) (less : Int) (more : Int) (fv5 : Int) (s_1v5_n : Nat) (s_1v5_g : Nat → List PV) (a_0v5 : Int) (a_1v5 : Int) : St := ⟨[(1, .one (.c (.p (.sl t.len 3 (fun i => enc_42 (t.get i)))))), (2, .one (.c (.p (.int .i64 bin)))), (4, .one (.c (.p (.int .i64 opacity)))), (6, .one (.c (.p (.int .i64 less)))), (7, .one (.c (.p (.int .i64 more)))), (8, .one (.c (.ptr 8 0))), (11, .one (.c (.ptr 11 0))), (20, .one (.c (.ptr 20 0))), (21, .one (.c (.p (.int .i64 fv5))))], [(8, .box 26 [.p (.int .i64 s.Parts), .p (.sl s_1v5_n 1 s_1v5_g), .p (.int .i64 s.Beta.Low), .p (.int .i64 s.Beta.High), .p (.int .i64 s.Alpha.Low), .p (.int .i64 s.Alpha.High)]), (11, .box 39 [.p (.sl n.Ranges.len 1 (fun i => enc_3 (n.Ranges.get i))), .p (.sl n.Rates.len 1 (fun i => enc_3 (n.Rates.get i))), .p (.bool n.Soon)]), (20, .box 24 [.p (.int .i64 a_0v5), .p (.int .i64 a_1v5)])], []⟩
def f11_at5 (K : List PA → Prop) (s : Sky) (t : (Sl RangeRow)) (bin : Int) (n : Nature) (opacity : Int) (less : Int) (more : Int) (fv5 : Int) (s_1v5_n : Nat) (s_1v5_g : Nat → List PV) (a_0v5 : Int) (a_1v5 : Int) : Prop := vc Try.prog G11 ann11 (cdF Try.f11 [1, 1, 1, 1, 1]) (bodyK Try.prog Try.f11 K) (f11_g5 s t bin n opacity less more fv5 s_1v5_n s_1v5_g a_0v5 a_1v5)
def f11_g6 (s : Sky) (t : (Sl RangeRow)) (bin : Int) (n : Nature) (opacity : Int) (less : Int) (more : Int) (fv5 : Int) (a_0v5 : Int) (a_1v5 : Int) (atv6 : Int) (s_1v6_n : Nat) (s_1v6_g : Nat → List PV) : St := ⟨[(1, .one (.c (.p (.sl t.len 3 (fun i => enc_42 (t.get i)))))), (2, .one (.c (.p (.int .i64 bin)))), (4, .one (.c (.p (.int .i64 opacity)))), (6, .one (.c (.p (.int .i64 less)))), (7, .one (.c (.p (.int .i64 more)))), (8, .one (.c (.ptr 8 0))), (11, .one (.c (.ptr 11 0))), (20, .one (.c (.ptr 20 0))), (21, .one (.c (.p (.int .i64 fv5)))), (22, .one (.c (.p (.int .i64 atv6))))], [(8, .box 26 [.p (.int .i64 s.Parts), .p (.sl s_1v6_n 1 s_1v6_g), .p (.int .i64 s.Beta.Low), .p (.int .i64 s.Beta.High), .p (.int .i64 s.Alpha.Low), .p (.int .i64 s.Alpha.High)]), (11, .box 39 [.p (.sl n.Ranges.len 1 (fun i => enc_3 (n.Ranges.get i))), .p (.sl n.Rates.len 1 (fun i => enc_3 (n.Rates.get i))), .p (.bool n.Soon)]), (20, .box 24 [.p (.int .i64 a_0v5), .p (.int .i64 a_1v5)])], []⟩
def f11_at6 (K : List PA → Prop) (s : Sky) (t : (Sl RangeRow)) (bin : Int) (n : Nature) (opacity : Int) (less : Int) (more : Int) (fv5 : Int) (a_0v5 : Int) (a_1v5 : Int) (atv6 : Int) (s_1v6_n : Nat) (s_1v6_g : Nat → List PV) : Prop := vc Try.prog G11 ann11 (cdF Try.f11 [1, 1, 1, 1, 1, 1]) (bodyK Try.prog Try.f11 K) (f11_g6 s t bin n opacity less more fv5 a_0v5 a_1v5 atv6 s_1v6_n s_1v6_g)
def f11_g7 (s : Sky) (t : (Sl RangeRow)) (bin : Int) (n : Nature) (opacity : Int) (less : Int) (more : Int) (fv5 : Int) (a_0v5 : Int) (a_1v5 : Int) (atv7 : Int) (s_1v7_n : Nat) (s_1v7_g : Nat → List PV) : St := ⟨[(1, .one (.c (.p (.sl t.len 3 (fun i => enc_42 (t.get i)))))), (2, .one (.c (.p (.int .i64 bin)))), (4, .one (.c (.p (.int .i64 opacity)))), (6, .one (.c (.p (.int .i64 less)))), (7, .one (.c (.p (.int .i64 more)))), (8, .one (.c (.ptr 8 0))), (11, .one (.c (.ptr 11 0))), (20, .one (.c (.ptr 20 0))), (21, .one (.c (.p (.int .i64 fv5)))), (22, .one (.c (.p (.int .i64 atv7))))], [(8, .box 26 [.p (.int .i64 s.Parts), .p (.sl s_1v7_n 1 s_1v7_g), .p (.int .i64 s.Beta.Low), .p (.int .i64 s.Beta.High), .p (.int .i64 s.Alpha.Low), .p (.int .i64 s.Alpha.High)]), (11, .box 39 [.p (.sl n.Ranges.len 1 (fun i => enc_3 (n.Ranges.get i))), .p (.sl n.Rates.len 1 (fun i => enc_3 (n.Rates.get i))), .p (.bool n.Soon)]), (20, .box 24 [.p (.int .i64 a_0v5), .p (.int .i64 a_1v5)])], []⟩
def f11_at7 (K : List PA → Prop) (s : Sky) (t : (Sl RangeRow)) (bin : Int) (n : Nature) (opacity : Int) (less : Int) (more : Int) (fv5 : Int) (a_0v5 : Int) (a_1v5 : Int) (atv7 : Int) (s_1v7_n : Nat) (s_1v7_g : Nat → List PV) : Prop := vc Try.prog G11 ann11 (cdF Try.f11 [1, 1, 1, 1, 1, 1, 1]) (bodyK Try.prog Try.f11 K) (f11_g7 s t bin n opacity less more fv5 a_0v5 a_1v5 atv7 s_1v7_n s_1v7_g)
def f11_g8 (s : Sky) (t : (Sl RangeRow)) (bin : Int) (n : Nature) (opacity : Int) (less : Int) (more : Int) (atv7 : Int) (s_1v8_n : Nat) (s_1v8_g : Nat → List PV) : St := ⟨[(1, .one (.c (.p (.sl t.len 3 (fun i => enc_42 (t.get i)))))), (2, .one (.c (.p (.int .i64 bin)))), (4, .one (.c (.p (.int .i64 opacity)))), (6, .one (.c (.p (.int .i64 less)))), (7, .one (.c (.p (.int .i64 more)))), (8, .one (.c (.ptr 8 0))), (11, .one (.c (.ptr 11 0))), (22, .one (.c (.p (.int .i64 atv7))))], [(8, .box 26 [.p (.int .i64 s.Parts), .p (.sl s_1v8_n 1 s_1v8_g), .p (.int .i64 s.Beta.Low), .p (.int .i64 s.Beta.High), .p (.int .i64 s.Alpha.Low), .p (.int .i64 s.Alpha.High)]), (11, .box 39 [.p (.sl n.Ranges.len 1 (fun i => enc_3 (n.Ranges.get i))), .p (.sl n.Rates.len 1 (fun i => enc_3 (n.Rates.get i))), .p (.bool n.Soon)])], []⟩
def f11_at8 (K : List PA → Prop) (s : Sky) (t : (Sl RangeRow)) (bin : Int) (n : Nature) (opacity : Int) (less : Int) (more : Int) (atv7 : Int) (s_1v8_n : Nat) (s_1v8_g : Nat → List PV) : Prop := vc Try.prog G11 ann11 (cdF Try.f11 [1, 1, 1, 1, 1, 1, 1, 1]) (bodyK Try.prog Try.f11 K) (f11_g8 s t bin n opacity less more atv7 s_1v8_n s_1v8_g)
def f11_g9 (s : Sky) (t : (Sl RangeRow)) (bin : Int) (opacity : Int) (less : Int) (more : Int) (ratev9 : Int) (s_1v9_n : Nat) (s_1v9_g : Nat → List PV) : St := ⟨[(1, .one (.c (.p (.sl t.len 3 (fun i => enc_42 (t.get i)))))), (2, .one (.c (.p (.int .i64 bin)))), (4, .one (.c (.p (.int .i64 opacity)))), (6, .one (.c (.p (.int .i64 less)))), (7, .one (.c (.p (.int .i64 more)))), (8, .one (.c (.ptr 8 0))), (23, .one (.c (.p (.int .i64 ratev9))))], [(8, .box 26 [.p (.int .i64 s.Parts), .p (.sl s_1v9_n 1 s_1v9_g), .p (.int .i64 s.Beta.Low), .p (.int .i64 s.Beta.High), .p (.int .i64 s.Alpha.Low), .p (.int .i64 s.Alpha.High)])], []⟩
def f11_at9 (K : List PA → Prop) (s : Sky) (t : (Sl RangeRow)) (bin : Int) (opacity : Int) (less : Int) (more : Int) (ratev9 : Int) (s_1v9_n : Nat) (s_1v9_g : Nat → List PV) : Prop := vc Try.prog G11 ann11 (cdF Try.f11 [1, 1, 1, 1, 1, 1, 1, 1, 1, 1]) (bodyK Try.prog Try.f11 K) (f11_g9 s t bin opacity less more ratev9 s_1v9_n s_1v9_g)
def f11_g10 (s : Sky) (t : (Sl RangeRow)) (bin : Int) (opacity : Int) (less : Int) (more : Int) (ratev9 : Int) (gv10 : Int) (s_1v10_n : Nat) (s_1v10_g : Nat → List PV) (x_0v10 : Int) (x_1v10 : Int) : St := ⟨[(1, .one (.c (.p (.sl t.len 3 (fun i => enc_42 (t.get i)))))), (2, .one (.c (.p (.int .i64 bin)))), (4, .one (.c (.p (.int .i64 opacity)))), (6, .one (.c (.p (.int .i64 less)))), (7, .one (.c (.p (.int .i64 more)))), (8, .one (.c (.ptr 8 0))), (23, .one (.c (.p (.int .i64 ratev9)))), (24, .one (.c (.ptr 24 0))), (25, .one (.c (.p (.int .i64 gv10))))], [(8, .box 26 [.p (.int .i64 s.Parts), .p (.sl s_1v10_n 1 s_1v10_g), .p (.int .i64 s.Beta.Low), .p (.int .i64 s.Beta.High), .p (.int .i64 s.Alpha.Low), .p (.int .i64 s.Alpha.High)]), (24, .box 24 [.p (.int .i64 x_0v10), .p (.int .i64 x_1v10)])], []⟩
def f11_at10 (K : List PA → Prop) (s : Sky) (t : (Sl RangeRow)) (bin : Int) (opacity : Int) (less : Int) (more : Int) (ratev9 : Int) (gv10 : Int) (s_1v10_n : Nat) (s_1v10_g : Nat → List PV) (x_0v10 : Int) (x_1v10 : Int) : Prop := vc Try.prog G11 ann11 (cdF Try.f11 [1, 1, 1, 1, 1, 1, 1, 1, 1, 1, 1]) (bodyK Try.prog Try.f11 K) (f11_g10 s t bin opacity less more ratev9 gv10 s_1v10_n s_1v10_g x_0v10 x_1v10)
def f11_g11 (s : Sky) (t : (Sl RangeRow)) (bin : Int) (opacity : Int) (less : Int) (more : Int) (ratev9 : Int) (s_1v11_n : Nat) (s_1v11_g : Nat → List PV) : St := ⟨[(1, .one (.c (.p (.sl t.len 3 (fun i => enc_42 (t.get i)))))), (2, .one (.c (.p (.int .i64 bin)))), (4, .one (.c (.p (.int .i64 opacity)))), (6, .one (.c (.p (.int .i64 less)))), (7, .one (.c (.p (.int .i64 more)))), (8, .one (.c (.ptr 8 0))), (23, .one (.c (.p (.int .i64 ratev9))))], [(8, .box 26 [.p (.int .i64 s.Parts), .p (.sl s_1v11_n 1 s_1v11_g), .p (.int .i64 s.Beta.Low), .p (.int .i64 s.Beta.High), .p (.int .i64 s.Alpha.Low), .p (.int .i64 s.Alpha.High)])], []⟩
def f11_at11 (K : List PA → Prop) (s : Sky) (t : (Sl RangeRow)) (bin : Int) (opacity : Int) (less : Int) (more : Int) (ratev9 : Int) (s_1v11_n : Nat) (s_1v11_g : Nat → List PV) : Prop := vc Try.prog G11 ann11 (cdF Try.f11 [1, 1, 1, 1, 1, 1, 1, 1, 1, 1, 1, 1]) (bodyK Try.prog Try.f11 K) (f11_g11 s t bin opacity less more ratev9 s_1v11_n s_1v11_g)
def f11_g12 (opacity : Int) (hv12 : Int) (d_0v12 : Int) (d_1v12 : Int) : St := ⟨[(4, .one (.c (.p (.int .i64 opacity)))), (26, .one (.c (.ptr 26 0))), (27, .one (.c (.p (.int .i64 hv12))))], [(26, .box 24 [.p (.int .i64 d_0v12), .p (.int .i64 d_1v12)])], []⟩
def f11_at12 (K : List PA → Prop) (opacity : Int) (hv12 : Int) (d_0v12 : Int) (d_1v12 : Int) : Prop := vc Try.prog G11 ann11 (cdF Try.f11 [1, 1, 1, 1, 1, 1, 1, 1, 1, 1, 1, 1, 1]) (bodyK Try.prog Try.f11 K) (f11_g12 opacity hv12 d_0v12 d_1v12)
theorem f11_top (s : Sky) (t : (Sl RangeRow)) (bin : Int) (n : Nature) (opacity : Int) (energy : Int) (less : Int) (more : Int) (K : List PA → Prop) :
  vcFun Try.prog G11 ann11 11 [.agg [.int .i64 s.Parts, .sl s.Bins.len 1 (fun i => enc_32 (s.Bins.get i)), .int .i64 s.Beta.Low, .int .i64 s.Beta.High, .int .i64 s.Alpha.Low, .int .i64 s.Alpha.High], .one (.sl t.len 3 (fun i => enc_42 (t.get i))), .one (.int .i64 bin), .agg [.sl n.Ranges.len 1 (fun i => enc_3 (n.Ranges.get i)), .sl n.Rates.len 1 (fun i => enc_3 (n.Rates.get i)), .bool n.Soon], .one (.int .i64 opacity), .one (.int .i64 energy), .one (.int .i64 less), .one (.int .i64 more)] K =
  ((IsE enc_32 1 1 (fun i => enc_32 (s.Bins.get i)) ∧ IsE enc_42 3 3 (fun i => enc_42 (t.get i)) ∧ (p15 s t = true)) ∧
  (condP (!(s15 s t))
   (f11_at0 K s t bin n opacity energy less more true s.Bins.len (fun i => enc_32 (s.Bins.get i)))
   ((IsE enc_32 1 1 (fun i => enc_32 (s.Bins.get i)) ∧ (p16 s = true)) ∧
   (condP (!(s16 s))
    (f11_at0 K s t bin n opacity energy less more true s.Bins.len (fun i => enc_32 (s.Bins.get i)))
    ((IsE enc_42 3 3 (fun i => enc_42 (t.get i)) ∧ (p17 t = true)) ∧
    (condP (!(s17 t))
     (f11_at0 K s t bin n opacity energy less more true s.Bins.len (fun i => enc_32 (s.Bins.get i)))
     (condP (decide (bin < (0:Int)))
      (f11_at0 K s t bin n opacity energy less more true s.Bins.len (fun i => enc_32 (s.Bins.get i)))
      (condP (decide (bin ≥ (s.Bins.len : Int)))
       (f11_at0 K s t bin n opacity energy less more true s.Bins.len (fun i => enc_32 (s.Bins.get i)))
       (((0 ≤ bin ∧ bin < (s.Bins.len : Int))) ∧
       ((IsE enc_3 1 1 (fun i => enc_3 (n.Ranges.get i)) ∧ IsE enc_3 1 1 (fun i => enc_3 (n.Rates.get i)) ∧ (p31 n (t.len : Int) ((s.Bins.get bin.toNat).len : Int) = true)) ∧
       (condP (!(s31 n (t.len : Int) ((s.Bins.get bin.toNat).len : Int)))
        (f11_at0 K s t bin n opacity energy less more true s.Bins.len (fun i => enc_32 (s.Bins.get i)))
        (condP (decide (opacity < (0:Int)))
         (f11_at0 K s t bin n opacity energy less more true s.Bins.len (fun i => enc_32 (s.Bins.get i)))
         (condP (decide (opacity > (1000000:Int)))
          (f11_at0 K s t bin n opacity energy less more true s.Bins.len (fun i => enc_32 (s.Bins.get i)))
          (condP (decide (energy < (1:Int)))
           (f11_at0 K s t bin n opacity energy less more true s.Bins.len (fun i => enc_32 (s.Bins.get i)))
           (condP (decide (energy > (1000000:Int)))
            (f11_at0 K s t bin n opacity energy less more true s.Bins.len (fun i => enc_32 (s.Bins.get i)))
            (condP (decide (less < (0:Int)))
             (f11_at0 K s t bin n opacity energy less more true s.Bins.len (fun i => enc_32 (s.Bins.get i)))
             (f11_at0 K s t bin n opacity energy less more (decide (more < (0:Int))) s.Bins.len (fun i => enc_32 (s.Bins.get i))))))))))))))))))) := by kernel_rfl
theorem f11_eq0 (K : List PA → Prop) (s : Sky) (t : (Sl RangeRow)) (bin : Int) (n : Nature) (opacity : Int) (energy : Int) (less : Int) (more : Int) (t89v0 : Bool) (s_1v0 : (Sl (Sl FluxRow))) :
  f11_at0 K s t bin n opacity energy less more t89v0 s_1v0.len (fun i => enc_32 (s_1v0.get i)) =
  (condP t89v0
   (K [.one (.bool true)])
   (f11_at1 K s t bin n opacity energy less more s_1v0.len (fun i => enc_32 (s_1v0.get i)))) := by kernel_rfl
theorem f11_eq1 (K : List PA → Prop) (s : Sky) (t : (Sl RangeRow)) (bin : Int) (n : Nature) (opacity : Int) (energy : Int) (less : Int) (more : Int) (s_1v1 : (Sl (Sl FluxRow))) :
  f11_at1 K s t bin n opacity energy less more s_1v1.len (fun i => enc_32 (s_1v1.get i)) =
  ((IsE enc_42 3 3 (fun i => enc_42 (t.get i)) ∧ (p42 t energy = true)) ∧
  (f11_at2 K s t bin n opacity energy less more ((s42 t energy).2) s_1v1.len (fun i => enc_32 (s_1v1.get i)) (((s42 t energy).1).Low) (((s42 t energy).1).High))) := by kernel_rfl
theorem f11_eq2 (K : List PA → Prop) (s : Sky) (t : (Sl RangeRow)) (bin : Int) (n : Nature) (opacity : Int) (energy : Int) (less : Int) (more : Int) (ev2 : Int) (s_1v2 : (Sl (Sl FluxRow))) (b_0v2 : Int) (b_1v2 : Int) :
  f11_at2 K s t bin n opacity energy less more ev2 s_1v2.len (fun i => enc_32 (s_1v2.get i)) b_0v2 b_1v2 =
  ((IsE enc_42 3 3 (fun i => enc_42 (t.get i)) ∧ IsE enc_3 1 1 (fun i => enc_3 (n.Ranges.get i)) ∧ IsE enc_3 1 1 (fun i => enc_3 (n.Rates.get i)) ∧ (p43 t n energy = true)) ∧
  (f11_at3 K s t bin n opacity less more ev2 b_0v2 b_1v2 (s43 t n energy) s_1v2.len (fun i => enc_32 (s_1v2.get i)))) := by kernel_rfl
theorem f11_eq3 (K : List PA → Prop) (s : Sky) (t : (Sl RangeRow)) (bin : Int) (n : Nature) (opacity : Int) (less : Int) (more : Int) (ev2 : Int) (b_0v2 : Int) (b_1v2 : Int) (xv3 : Int) (s_1v3 : (Sl (Sl FluxRow))) :
  f11_at3 K s t bin n opacity less more ev2 b_0v2 b_1v2 xv3 s_1v3.len (fun i => enc_32 (s_1v3.get i)) =
  (condP (ev2 != (0:Int))
   (K [.one (.bool false)])
   (condP (decide (xv3 < b_0v2))
    (K [.one (.bool false)])
    (condP (decide (xv3 > b_1v2))
     (K [.one (.bool false)])
     (f11_at4 K s t bin n opacity less more s_1v3.len (fun i => enc_32 (s_1v3.get i)))))) := by kernel_rfl
theorem f11_eq4 (K : List PA → Prop) (s : Sky) (t : (Sl RangeRow)) (bin : Int) (n : Nature) (opacity : Int) (less : Int) (more : Int) (s_1v4 : (Sl (Sl FluxRow))) :
  f11_at4 K s t bin n opacity less more s_1v4.len (fun i => enc_32 (s_1v4.get i)) =
  ((IsE enc_42 3 3 (fun i => enc_42 (t.get i)) ∧ (p19 t opacity = true)) ∧
  (f11_at5 K s t bin n opacity less more ((s19 t opacity).2) s_1v4.len (fun i => enc_32 (s_1v4.get i)) (((s19 t opacity).1).Low) (((s19 t opacity).1).High))) := by kernel_rfl
theorem f11_eq5 (K : List PA → Prop) (s : Sky) (t : (Sl RangeRow)) (bin : Int) (n : Nature) (opacity : Int) (less : Int) (more : Int) (fv5 : Int) (s_1v5 : (Sl (Sl FluxRow))) (a_0v5 : Int) (a_1v5 : Int) :
  f11_at5 K s t bin n opacity less more fv5 s_1v5.len (fun i => enc_32 (s_1v5.get i)) a_0v5 a_1v5 =
  ((IsE enc_42 3 3 (fun i => enc_42 (t.get i)) ∧ IsE enc_3 1 1 (fun i => enc_3 (n.Ranges.get i)) ∧ IsE enc_3 1 1 (fun i => enc_3 (n.Rates.get i)) ∧ (p21 t n opacity = true)) ∧
  (f11_at6 K s t bin n opacity less more fv5 a_0v5 a_1v5 (s21 t n opacity) s_1v5.len (fun i => enc_32 (s_1v5.get i)))) := by kernel_rfl
theorem f11_eq6 (K : List PA → Prop) (s : Sky) (t : (Sl RangeRow)) (bin : Int) (n : Nature) (opacity : Int) (less : Int) (more : Int) (fv5 : Int) (a_0v5 : Int) (a_1v5 : Int) (atv6 : Int) (s_1v6 : (Sl (Sl FluxRow))) :
  f11_at6 K s t bin n opacity less more fv5 a_0v5 a_1v5 atv6 s_1v6.len (fun i => enc_32 (s_1v6.get i)) =
  (condP (opacity == (0:Int))
   (f11_at7 K s t bin n opacity less more fv5 a_0v5 a_1v5 (1:Int) s_1v6.len (fun i => enc_32 (s_1v6.get i)))
   (f11_at7 K s t bin n opacity less more fv5 a_0v5 a_1v5 atv6 s_1v6.len (fun i => enc_32 (s_1v6.get i)))) := by kernel_rfl
theorem f11_eq7 (K : List PA → Prop) (s : Sky) (t : (Sl RangeRow)) (bin : Int) (n : Nature) (opacity : Int) (less : Int) (more : Int) (fv5 : Int) (a_0v5 : Int) (a_1v5 : Int) (atv7 : Int) (s_1v7 : (Sl (Sl FluxRow))) :
  f11_at7 K s t bin n opacity less more fv5 a_0v5 a_1v5 atv7 s_1v7.len (fun i => enc_32 (s_1v7.get i)) =
  (condP (fv5 != (0:Int))
   (K [.one (.bool false)])
   (condP (atv7 == (0:Int))
    (condP (a_1v5 != (-1:Int))
     (K [.one (.bool false)])
     (condP (decide (atv7 > (0:Int)))
      (condP (decide (atv7 < a_0v5))
       (K [.one (.bool false)])
       (condP (a_1v5 != (-1:Int))
        (condP (decide (atv7 > a_1v5))
         (K [.one (.bool false)])
         (f11_at8 K s t bin n opacity less more atv7 s_1v7.len (fun i => enc_32 (s_1v7.get i))))
        (f11_at8 K s t bin n opacity less more atv7 s_1v7.len (fun i => enc_32 (s_1v7.get i)))))
      (f11_at8 K s t bin n opacity less more atv7 s_1v7.len (fun i => enc_32 (s_1v7.get i)))))
    (condP (decide (atv7 > (0:Int)))
     (condP (decide (atv7 < a_0v5))
      (K [.one (.bool false)])
      (condP (a_1v5 != (-1:Int))
       (condP (decide (atv7 > a_1v5))
        (K [.one (.bool false)])
        (f11_at8 K s t bin n opacity less more atv7 s_1v7.len (fun i => enc_32 (s_1v7.get i))))
       (f11_at8 K s t bin n opacity less more atv7 s_1v7.len (fun i => enc_32 (s_1v7.get i)))))
     (f11_at8 K s t bin n opacity less more atv7 s_1v7.len (fun i => enc_32 (s_1v7.get i)))))) := by kernel_rfl
theorem f11_eq8 (K : List PA → Prop) (s : Sky) (t : (Sl RangeRow)) (bin : Int) (n : Nature) (opacity : Int) (less : Int) (more : Int) (atv7 : Int) (s_1v8 : (Sl (Sl FluxRow))) :
  f11_at8 K s t bin n opacity less more atv7 s_1v8.len (fun i => enc_32 (s_1v8.get i)) =
  (condP (decide (atv7 > (0:Int)))
   (((0 ≤ bin ∧ bin < (s_1v8.len : Int))) ∧
   ((IsE enc_44 3 3 (fun i => enc_44 ((s_1v8.get bin.toNat).get i)) ∧ IsE enc_3 1 1 (fun i => enc_3 (n.Ranges.get i)) ∧ IsE enc_3 1 1 (fun i => enc_3 (n.Rates.get i)) ∧ (p32 (s_1v8.get bin.toNat) n atv7 = true)) ∧
   (f11_at9 K s t bin opacity less more (s32 (s_1v8.get bin.toNat) n atv7) s_1v8.len (fun i => enc_32 (s_1v8.get i)))))
   (f11_at9 K s t bin opacity less more (0:Int) s_1v8.len (fun i => enc_32 (s_1v8.get i)))) := by kernel_rfl
theorem f11_eq9 (K : List PA → Prop) (s : Sky) (t : (Sl RangeRow)) (bin : Int) (opacity : Int) (less : Int) (more : Int) (ratev9 : Int) (s_1v9 : (Sl (Sl FluxRow))) :
  f11_at9 K s t bin opacity less more ratev9 s_1v9.len (fun i => enc_32 (s_1v9.get i)) =
  ((IsE enc_32 1 1 (fun i => enc_32 (s_1v9.get i)) ∧ IsE enc_42 3 3 (fun i => enc_42 (t.get i)) ∧ (p20 (⟨s.Parts, s_1v9, s.Beta, s.Alpha⟩ : Sky) t bin opacity = true)) ∧
  (f11_at10 K s t bin opacity less more ratev9 ((s20 (⟨s.Parts, s_1v9, s.Beta, s.Alpha⟩ : Sky) t bin opacity).2) s_1v9.len (fun i => enc_32 (s_1v9.get i)) (((s20 (⟨s.Parts, s_1v9, s.Beta, s.Alpha⟩ : Sky) t bin opacity).1).Low) (((s20 (⟨s.Parts, s_1v9, s.Beta, s.Alpha⟩ : Sky) t bin opacity).1).High))) := by kernel_rfl
theorem f11_eq10 (K : List PA → Prop) (s : Sky) (t : (Sl RangeRow)) (bin : Int) (opacity : Int) (less : Int) (more : Int) (ratev9 : Int) (gv10 : Int) (s_1v10 : (Sl (Sl FluxRow))) (x_0v10 : Int) (x_1v10 : Int) :
  f11_at10 K s t bin opacity less more ratev9 gv10 s_1v10.len (fun i => enc_32 (s_1v10.get i)) x_0v10 x_1v10 =
  (condP (gv10 != (0:Int))
   (K [.one (.bool false)])
   (condP (decide (ratev9 < x_0v10))
    (K [.one (.bool false)])
    (condP (decide (ratev9 > x_1v10))
     (K [.one (.bool false)])
     (f11_at11 K s t bin opacity less more ratev9 s_1v10.len (fun i => enc_32 (s_1v10.get i)))))) := by kernel_rfl
theorem f11_eq11 (K : List PA → Prop) (s : Sky) (t : (Sl RangeRow)) (bin : Int) (opacity : Int) (less : Int) (more : Int) (ratev9 : Int) (s_1v11 : (Sl (Sl FluxRow))) :
  f11_at11 K s t bin opacity less more ratev9 s_1v11.len (fun i => enc_32 (s_1v11.get i)) =
  ((IsE enc_32 1 1 (fun i => enc_32 (s_1v11.get i)) ∧ IsE enc_42 3 3 (fun i => enc_42 (t.get i)) ∧ IsE enc_56 5 5 (fun _ => (enc_56 (s34 (1:Int)))) ∧ (p25 (⟨s.Parts, s_1v11, s.Beta, s.Alpha⟩ : Sky) t bin (⟨(if (w64 (ratev9 - (if ratev9 < less then ratev9 else less))) > (0:Int) then (w64 (ratev9 - (if ratev9 < less then ratev9 else less))) else (0:Int)), (w64 (ratev9 + (if (w64 (s.Parts - ratev9)) < more then (w64 (s.Parts - ratev9)) else more)))⟩ : Span) (⟨1, fun _ => (s34 (1:Int))⟩ : (Sl Spell)) = true)) ∧
  (f11_at12 K opacity ((s25 (⟨s.Parts, s_1v11, s.Beta, s.Alpha⟩ : Sky) t bin (⟨(if (w64 (ratev9 - (if ratev9 < less then ratev9 else less))) > (0:Int) then (w64 (ratev9 - (if ratev9 < less then ratev9 else less))) else (0:Int)), (w64 (ratev9 + (if (w64 (s.Parts - ratev9)) < more then (w64 (s.Parts - ratev9)) else more)))⟩ : Span) (⟨1, fun _ => (s34 (1:Int))⟩ : (Sl Spell))).2) (((s25 (⟨s.Parts, s_1v11, s.Beta, s.Alpha⟩ : Sky) t bin (⟨(if (w64 (ratev9 - (if ratev9 < less then ratev9 else less))) > (0:Int) then (w64 (ratev9 - (if ratev9 < less then ratev9 else less))) else (0:Int)), (w64 (ratev9 + (if (w64 (s.Parts - ratev9)) < more then (w64 (s.Parts - ratev9)) else more)))⟩ : Span) (⟨1, fun _ => (s34 (1:Int))⟩ : (Sl Spell))).1).Low) (((s25 (⟨s.Parts, s_1v11, s.Beta, s.Alpha⟩ : Sky) t bin (⟨(if (w64 (ratev9 - (if ratev9 < less then ratev9 else less))) > (0:Int) then (w64 (ratev9 - (if ratev9 < less then ratev9 else less))) else (0:Int)), (w64 (ratev9 + (if (w64 (s.Parts - ratev9)) < more then (w64 (s.Parts - ratev9)) else more)))⟩ : Span) (⟨1, fun _ => (s34 (1:Int))⟩ : (Sl Spell))).1).High))) := by kernel_rfl
theorem f11_eq12 (K : List PA → Prop) (opacity : Int) (hv12 : Int) (d_0v12 : Int) (d_1v12 : Int) :
  f11_at12 K opacity hv12 d_0v12 d_1v12 =
  (condP (hv12 == (0:Int))
   (condP (decide (opacity ≥ d_0v12))
    (condP (decide (opacity ≤ d_1v12))
     (K [.one (.bool true)])
     (K [.one (.bool false)]))
    (K [.one (.bool false)]))
   (K [.one (.bool false)])) := by kernel_rfl
abbrev e11 (r : Bool) : List PA := [.one (.bool r)]
attribute [irreducible] f11_at0 f11_at1 f11_at2 f11_at3 f11_at4 f11_at5 f11_at6 f11_at7 f11_at8 f11_at9 f11_at10 f11_at11 f11_at12
def s11_at12 (opacity : Int) (hv12 : Int) (d_0v12 : Int) (d_1v12 : Int) : Bool :=
  (cond (hv12 == (0:Int))
   (cond (decide (opacity ≥ d_0v12))
    (cond (decide (opacity ≤ d_1v12))
     true
     false)
    false)
   false)
theorem q11_at12 (K : List PA → Prop) (opacity : Int) (hv12 : Int) (d_0v12 : Int) (d_1v12 : Int) (hk : K (e11 (s11_at12 opacity hv12 d_0v12 d_1v12))) : f11_at12 K opacity hv12 d_0v12 d_1v12 := by
  refine ofEq (f11_eq12 K opacity hv12 d_0v12 d_1v12) ?_
  unfold s11_at12 at hk
  exact (condP_gt (K := fun r => K (e11 r))
   (fun hk => (condP_gt (K := fun r => K (e11 r))
    (fun hk => (condP_gt (K := fun r => K (e11 r))
     (fun hk => hk)
     (fun hk => hk) hk))
    (fun hk => hk) hk))
   (fun hk => hk) hk)
def s11_at11 (s : Sky) (t : (Sl RangeRow)) (bin : Int) (opacity : Int) (less : Int) (more : Int) (ratev9 : Int) (s_1v11 : (Sl (Sl FluxRow))) : Bool :=
  (s11_at12 opacity ((s25 (⟨s.Parts, s_1v11, s.Beta, s.Alpha⟩ : Sky) t bin (⟨(if (w64 (ratev9 - (if ratev9 < less then ratev9 else less))) > (0:Int) then (w64 (ratev9 - (if ratev9 < less then ratev9 else less))) else (0:Int)), (w64 (ratev9 + (if (w64 (s.Parts - ratev9)) < more then (w64 (s.Parts - ratev9)) else more)))⟩ : Span) (⟨1, fun _ => (s34 (1:Int))⟩ : (Sl Spell))).2) (((s25 (⟨s.Parts, s_1v11, s.Beta, s.Alpha⟩ : Sky) t bin (⟨(if (w64 (ratev9 - (if ratev9 < less then ratev9 else less))) > (0:Int) then (w64 (ratev9 - (if ratev9 < less then ratev9 else less))) else (0:Int)), (w64 (ratev9 + (if (w64 (s.Parts - ratev9)) < more then (w64 (s.Parts - ratev9)) else more)))⟩ : Span) (⟨1, fun _ => (s34 (1:Int))⟩ : (Sl Spell))).1).Low) (((s25 (⟨s.Parts, s_1v11, s.Beta, s.Alpha⟩ : Sky) t bin (⟨(if (w64 (ratev9 - (if ratev9 < less then ratev9 else less))) > (0:Int) then (w64 (ratev9 - (if ratev9 < less then ratev9 else less))) else (0:Int)), (w64 (ratev9 + (if (w64 (s.Parts - ratev9)) < more then (w64 (s.Parts - ratev9)) else more)))⟩ : Span) (⟨1, fun _ => (s34 (1:Int))⟩ : (Sl Spell))).1).High))
def p11_at11 (s : Sky) (t : (Sl RangeRow)) (bin : Int) (opacity : Int) (less : Int) (more : Int) (ratev9 : Int) (s_1v11 : (Sl (Sl FluxRow))) : Bool :=
  (decide ((p25 (⟨s.Parts, s_1v11, s.Beta, s.Alpha⟩ : Sky) t bin (⟨(if (w64 (ratev9 - (if ratev9 < less then ratev9 else less))) > (0:Int) then (w64 (ratev9 - (if ratev9 < less then ratev9 else less))) else (0:Int)), (w64 (ratev9 + (if (w64 (s.Parts - ratev9)) < more then (w64 (s.Parts - ratev9)) else more)))⟩ : Span) (⟨1, fun _ => (s34 (1:Int))⟩ : (Sl Spell)) = true)) &&
  true)
theorem q11_at11 (K : List PA → Prop) (s : Sky) (t : (Sl RangeRow)) (bin : Int) (opacity : Int) (less : Int) (more : Int) (ratev9 : Int) (s_1v11 : (Sl (Sl FluxRow))) (s_1v11_g : Nat → List PV) (s_1v11_h : s_1v11_g = fun i => enc_32 (s_1v11.get i)) (hs : p11_at11 s t bin opacity less more ratev9 s_1v11 = true) (hk : K (e11 (s11_at11 s t bin opacity less more ratev9 s_1v11))) : f11_at11 K s t bin opacity less more ratev9 s_1v11.len s_1v11_g := by
  subst s_1v11_h
  refine ofEq (f11_eq11 K s t bin opacity less more ratev9 s_1v11) ?_
  unfold p11_at11 at hs
  unfold s11_at11 at hk
  exact (andK hs fun hc hs => ⟨⟨isE, isE, isE_c, hc⟩, (q11_at12 K opacity ((s25 (⟨s.Parts, s_1v11, s.Beta, s.Alpha⟩ : Sky) t bin (⟨(if (w64 (ratev9 - (if ratev9 < less then ratev9 else less))) > (0:Int) then (w64 (ratev9 - (if ratev9 < less then ratev9 else less))) else (0:Int)), (w64 (ratev9 + (if (w64 (s.Parts - ratev9)) < more then (w64 (s.Parts - ratev9)) else more)))⟩ : Span) (⟨1, fun _ => (s34 (1:Int))⟩ : (Sl Spell))).2) (((s25 (⟨s.Parts, s_1v11, s.Beta, s.Alpha⟩ : Sky) t bin (⟨(if (w64 (ratev9 - (if ratev9 < less then ratev9 else less))) > (0:Int) then (w64 (ratev9 - (if ratev9 < less then ratev9 else less))) else (0:Int)), (w64 (ratev9 + (if (w64 (s.Parts - ratev9)) < more then (w64 (s.Parts - ratev9)) else more)))⟩ : Span) (⟨1, fun _ => (s34 (1:Int))⟩ : (Sl Spell))).1).Low) (((s25 (⟨s.Parts, s_1v11, s.Beta, s.Alpha⟩ : Sky) t bin (⟨(if (w64 (ratev9 - (if ratev9 < less then ratev9 else less))) > (0:Int) then (w64 (ratev9 - (if ratev9 < less then ratev9 else less))) else (0:Int)), (w64 (ratev9 + (if (w64 (s.Parts - ratev9)) < more then (w64 (s.Parts - ratev9)) else more)))⟩ : Span) (⟨1, fun _ => (s34 (1:Int))⟩ : (Sl Spell))).1).High) hk)⟩)
def s11_at10 (s : Sky) (t : (Sl RangeRow)) (bin : Int) (opacity : Int) (less : Int) (more : Int) (ratev9 : Int) (gv10 : Int) (s_1v10 : (Sl (Sl FluxRow))) (x_0v10 : Int) (x_1v10 : Int) : Bool :=
  (cond (gv10 != (0:Int))
   false
   (cond (decide (ratev9 < x_0v10))
    false
    (cond (decide (ratev9 > x_1v10))
     false
     (s11_at11 s t bin opacity less more ratev9 s_1v10))))
def p11_at10 (s : Sky) (t : (Sl RangeRow)) (bin : Int) (opacity : Int) (less : Int) (more : Int) (ratev9 : Int) (gv10 : Int) (s_1v10 : (Sl (Sl FluxRow))) (x_0v10 : Int) (x_1v10 : Int) : Bool :=
  (cond (gv10 != (0:Int))
   true
   (cond (decide (ratev9 < x_0v10))
    true
    (cond (decide (ratev9 > x_1v10))
     true
     (p11_at11 s t bin opacity less more ratev9 s_1v10))))
theorem q11_at10 (K : List PA → Prop) (s : Sky) (t : (Sl RangeRow)) (bin : Int) (opacity : Int) (less : Int) (more : Int) (ratev9 : Int) (gv10 : Int) (s_1v10 : (Sl (Sl FluxRow))) (x_0v10 : Int) (x_1v10 : Int) (s_1v10_g : Nat → List PV) (s_1v10_h : s_1v10_g = fun i => enc_32 (s_1v10.get i)) (hs : p11_at10 s t bin opacity less more ratev9 gv10 s_1v10 x_0v10 x_1v10 = true) (hk : K (e11 (s11_at10 s t bin opacity less more ratev9 gv10 s_1v10 x_0v10 x_1v10))) : f11_at10 K s t bin opacity less more ratev9 gv10 s_1v10.len s_1v10_g x_0v10 x_1v10 := by
  subst s_1v10_h
  refine ofEq (f11_eq10 K s t bin opacity less more ratev9 gv10 s_1v10 x_0v10 x_1v10) ?_
  unfold p11_at10 at hs
  unfold s11_at10 at hk
  exact (condB_go (K := fun r => K (e11 r))
   (fun hs hk => hk)
   (fun hs hk => (condB_go (K := fun r => K (e11 r))
    (fun hs hk => hk)
    (fun hs hk => (condB_go (K := fun r => K (e11 r))
     (fun hs hk => hk)
     (fun hs hk => (q11_at11 K s t bin opacity less more ratev9 s_1v10 (fun i => enc_32 (s_1v10.get i)) rfl hs hk)) hs hk)) hs hk)) hs hk)
def s11_at9 (s : Sky) (t : (Sl RangeRow)) (bin : Int) (opacity : Int) (less : Int) (more : Int) (ratev9 : Int) (s_1v9 : (Sl (Sl FluxRow))) : Bool :=
  (s11_at10 s t bin opacity less more ratev9 ((s20 (⟨s.Parts, s_1v9, s.Beta, s.Alpha⟩ : Sky) t bin opacity).2) s_1v9 (((s20 (⟨s.Parts, s_1v9, s.Beta, s.Alpha⟩ : Sky) t bin opacity).1).Low) (((s20 (⟨s.Parts, s_1v9, s.Beta, s.Alpha⟩ : Sky) t bin opacity).1).High))
def p11_at9 (s : Sky) (t : (Sl RangeRow)) (bin : Int) (opacity : Int) (less : Int) (more : Int) (ratev9 : Int) (s_1v9 : (Sl (Sl FluxRow))) : Bool :=
  (decide ((p20 (⟨s.Parts, s_1v9, s.Beta, s.Alpha⟩ : Sky) t bin opacity = true)) &&
  (p11_at10 s t bin opacity less more ratev9 ((s20 (⟨s.Parts, s_1v9, s.Beta, s.Alpha⟩ : Sky) t bin opacity).2) s_1v9 (((s20 (⟨s.Parts, s_1v9, s.Beta, s.Alpha⟩ : Sky) t bin opacity).1).Low) (((s20 (⟨s.Parts, s_1v9, s.Beta, s.Alpha⟩ : Sky) t bin opacity).1).High)))
theorem q11_at9 (K : List PA → Prop) (s : Sky) (t : (Sl RangeRow)) (bin : Int) (opacity : Int) (less : Int) (more : Int) (ratev9 : Int) (s_1v9 : (Sl (Sl FluxRow))) (s_1v9_g : Nat → List PV) (s_1v9_h : s_1v9_g = fun i => enc_32 (s_1v9.get i)) (hs : p11_at9 s t bin opacity less more ratev9 s_1v9 = true) (hk : K (e11 (s11_at9 s t bin opacity less more ratev9 s_1v9))) : f11_at9 K s t bin opacity less more ratev9 s_1v9.len s_1v9_g := by
  subst s_1v9_h
  refine ofEq (f11_eq9 K s t bin opacity less more ratev9 s_1v9) ?_
  unfold p11_at9 at hs
  unfold s11_at9 at hk
  exact (andK hs fun hc hs => ⟨⟨isE, isE, hc⟩, (q11_at10 K s t bin opacity less more ratev9 ((s20 (⟨s.Parts, s_1v9, s.Beta, s.Alpha⟩ : Sky) t bin opacity).2) s_1v9 (((s20 (⟨s.Parts, s_1v9, s.Beta, s.Alpha⟩ : Sky) t bin opacity).1).Low) (((s20 (⟨s.Parts, s_1v9, s.Beta, s.Alpha⟩ : Sky) t bin opacity).1).High) (fun i => enc_32 (s_1v9.get i)) rfl hs hk)⟩)
def s11_at8 (s : Sky) (t : (Sl RangeRow)) (bin : Int) (n : Nature) (opacity : Int) (less : Int) (more : Int) (atv7 : Int) (s_1v8 : (Sl (Sl FluxRow))) : Bool :=
  (cond (decide (atv7 > (0:Int)))
   (s11_at9 s t bin opacity less more (s32 (s_1v8.get bin.toNat) n atv7) s_1v8)
   (s11_at9 s t bin opacity less more (0:Int) s_1v8))
def p11_at8 (s : Sky) (t : (Sl RangeRow)) (bin : Int) (n : Nature) (opacity : Int) (less : Int) (more : Int) (atv7 : Int) (s_1v8 : (Sl (Sl FluxRow))) : Bool :=
  (cond (decide (atv7 > (0:Int)))
   (decide ((0 ≤ bin ∧ bin < (s_1v8.len : Int))) &&
   (decide ((p32 (s_1v8.get bin.toNat) n atv7 = true)) &&
   (p11_at9 s t bin opacity less more (s32 (s_1v8.get bin.toNat) n atv7) s_1v8)))
   (p11_at9 s t bin opacity less more (0:Int) s_1v8))
theorem q11_at8 (K : List PA → Prop) (s : Sky) (t : (Sl RangeRow)) (bin : Int) (n : Nature) (opacity : Int) (less : Int) (more : Int) (atv7 : Int) (s_1v8 : (Sl (Sl FluxRow))) (s_1v8_g : Nat → List PV) (s_1v8_h : s_1v8_g = fun i => enc_32 (s_1v8.get i)) (hs : p11_at8 s t bin n opacity less more atv7 s_1v8 = true) (hk : K (e11 (s11_at8 s t bin n opacity less more atv7 s_1v8))) : f11_at8 K s t bin n opacity less more atv7 s_1v8.len s_1v8_g := by
  subst s_1v8_h
  refine ofEq (f11_eq8 K s t bin n opacity less more atv7 s_1v8) ?_
  unfold p11_at8 at hs
  unfold s11_at8 at hk
  exact (condB_go (K := fun r => K (e11 r))
   (fun hs hk => (andK hs fun hc hs => ⟨hc, (andK hs fun hc hs => ⟨⟨isE, isE, isE, hc⟩, (q11_at9 K s t bin opacity less more (s32 (s_1v8.get bin.toNat) n atv7) s_1v8 (fun i => enc_32 (s_1v8.get i)) rfl hs hk)⟩)⟩))
   (fun hs hk => (q11_at9 K s t bin opacity less more (0:Int) s_1v8 (fun i => enc_32 (s_1v8.get i)) rfl hs hk)) hs hk)
def s11_at7 (s : Sky) (t : (Sl RangeRow)) (bin : Int) (n : Nature) (opacity : Int) (less : Int) (more : Int) (fv5 : Int) (a_0v5 : Int) (a_1v5 : Int) (atv7 : Int) (s_1v7 : (Sl (Sl FluxRow))) : Bool :=
  (cond (fv5 != (0:Int))
   false
   (cond (atv7 == (0:Int))
    (cond (a_1v5 != (-1:Int))
     false
     (cond (decide (atv7 > (0:Int)))
      (cond (decide (atv7 < a_0v5))
       false
       (cond (a_1v5 != (-1:Int))
        (cond (decide (atv7 > a_1v5))
         false
         (s11_at8 s t bin n opacity less more atv7 s_1v7))
        (s11_at8 s t bin n opacity less more atv7 s_1v7)))
      (s11_at8 s t bin n opacity less more atv7 s_1v7)))
    (cond (decide (atv7 > (0:Int)))
     (cond (decide (atv7 < a_0v5))
      false
      (cond (a_1v5 != (-1:Int))
       (cond (decide (atv7 > a_1v5))
        false
        (s11_at8 s t bin n opacity less more atv7 s_1v7))
       (s11_at8 s t bin n opacity less more atv7 s_1v7)))
     (s11_at8 s t bin n opacity less more atv7 s_1v7))))
def p11_at7 (s : Sky) (t : (Sl RangeRow)) (bin : Int) (n : Nature) (opacity : Int) (less : Int) (more : Int) (fv5 : Int) (a_0v5 : Int) (a_1v5 : Int) (atv7 : Int) (s_1v7 : (Sl (Sl FluxRow))) : Bool :=
  (cond (fv5 != (0:Int))
   true
   (cond (atv7 == (0:Int))
    (cond (a_1v5 != (-1:Int))
     true
     (cond (decide (atv7 > (0:Int)))
      (cond (decide (atv7 < a_0v5))
       true
       (cond (a_1v5 != (-1:Int))
        (cond (decide (atv7 > a_1v5))
         true
         (p11_at8 s t bin n opacity less more atv7 s_1v7))
        (p11_at8 s t bin n opacity less more atv7 s_1v7)))
      (p11_at8 s t bin n opacity less more atv7 s_1v7)))
    (cond (decide (atv7 > (0:Int)))
     (cond (decide (atv7 < a_0v5))
      true
      (cond (a_1v5 != (-1:Int))
       (cond (decide (atv7 > a_1v5))
        true
        (p11_at8 s t bin n opacity less more atv7 s_1v7))
       (p11_at8 s t bin n opacity less more atv7 s_1v7)))
     (p11_at8 s t bin n opacity less more atv7 s_1v7))))
theorem q11_at7 (K : List PA → Prop) (s : Sky) (t : (Sl RangeRow)) (bin : Int) (n : Nature) (opacity : Int) (less : Int) (more : Int) (fv5 : Int) (a_0v5 : Int) (a_1v5 : Int) (atv7 : Int) (s_1v7 : (Sl (Sl FluxRow))) (s_1v7_g : Nat → List PV) (s_1v7_h : s_1v7_g = fun i => enc_32 (s_1v7.get i)) (hs : p11_at7 s t bin n opacity less more fv5 a_0v5 a_1v5 atv7 s_1v7 = true) (hk : K (e11 (s11_at7 s t bin n opacity less more fv5 a_0v5 a_1v5 atv7 s_1v7))) : f11_at7 K s t bin n opacity less more fv5 a_0v5 a_1v5 atv7 s_1v7.len s_1v7_g := by
  subst s_1v7_h
  refine ofEq (f11_eq7 K s t bin n opacity less more fv5 a_0v5 a_1v5 atv7 s_1v7) ?_
  unfold p11_at7 at hs
  unfold s11_at7 at hk
  exact (condB_go (K := fun r => K (e11 r))
   (fun hs hk => hk)
   (fun hs hk => (condB_go (K := fun r => K (e11 r))
    (fun hs hk => (condB_go (K := fun r => K (e11 r))
     (fun hs hk => hk)
     (fun hs hk => (condB_go (K := fun r => K (e11 r))
      (fun hs hk => (condB_go (K := fun r => K (e11 r))
       (fun hs hk => hk)
       (fun hs hk => (condB_go (K := fun r => K (e11 r))
        (fun hs hk => (condB_go (K := fun r => K (e11 r))
         (fun hs hk => hk)
         (fun hs hk => (q11_at8 K s t bin n opacity less more atv7 s_1v7 (fun i => enc_32 (s_1v7.get i)) rfl hs hk)) hs hk))
        (fun hs hk => (q11_at8 K s t bin n opacity less more atv7 s_1v7 (fun i => enc_32 (s_1v7.get i)) rfl hs hk)) hs hk)) hs hk))
      (fun hs hk => (q11_at8 K s t bin n opacity less more atv7 s_1v7 (fun i => enc_32 (s_1v7.get i)) rfl hs hk)) hs hk)) hs hk))
    (fun hs hk => (condB_go (K := fun r => K (e11 r))
     (fun hs hk => (condB_go (K := fun r => K (e11 r))
      (fun hs hk => hk)
      (fun hs hk => (condB_go (K := fun r => K (e11 r))
       (fun hs hk => (condB_go (K := fun r => K (e11 r))
        (fun hs hk => hk)
        (fun hs hk => (q11_at8 K s t bin n opacity less more atv7 s_1v7 (fun i => enc_32 (s_1v7.get i)) rfl hs hk)) hs hk))
       (fun hs hk => (q11_at8 K s t bin n opacity less more atv7 s_1v7 (fun i => enc_32 (s_1v7.get i)) rfl hs hk)) hs hk)) hs hk))
     (fun hs hk => (q11_at8 K s t bin n opacity less more atv7 s_1v7 (fun i => enc_32 (s_1v7.get i)) rfl hs hk)) hs hk)) hs hk)) hs hk)
def s11_at6 (s : Sky) (t : (Sl RangeRow)) (bin : Int) (n : Nature) (opacity : Int) (less : Int) (more : Int) (fv5 : Int) (a_0v5 : Int) (a_1v5 : Int) (atv6 : Int) (s_1v6 : (Sl (Sl FluxRow))) : Bool :=
  (cond (opacity == (0:Int))
   (s11_at7 s t bin n opacity less more fv5 a_0v5 a_1v5 (1:Int) s_1v6)
   (s11_at7 s t bin n opacity less more fv5 a_0v5 a_1v5 atv6 s_1v6))
def p11_at6 (s : Sky) (t : (Sl RangeRow)) (bin : Int) (n : Nature) (opacity : Int) (less : Int) (more : Int) (fv5 : Int) (a_0v5 : Int) (a_1v5 : Int) (atv6 : Int) (s_1v6 : (Sl (Sl FluxRow))) : Bool :=
  (cond (opacity == (0:Int))
   (p11_at7 s t bin n opacity less more fv5 a_0v5 a_1v5 (1:Int) s_1v6)
   (p11_at7 s t bin n opacity less more fv5 a_0v5 a_1v5 atv6 s_1v6))
theorem q11_at6 (K : List PA → Prop) (s : Sky) (t : (Sl RangeRow)) (bin : Int) (n : Nature) (opacity : Int) (less : Int) (more : Int) (fv5 : Int) (a_0v5 : Int) (a_1v5 : Int) (atv6 : Int) (s_1v6 : (Sl (Sl FluxRow))) (s_1v6_g : Nat → List PV) (s_1v6_h : s_1v6_g = fun i => enc_32 (s_1v6.get i)) (hs : p11_at6 s t bin n opacity less more fv5 a_0v5 a_1v5 atv6 s_1v6 = true) (hk : K (e11 (s11_at6 s t bin n opacity less more fv5 a_0v5 a_1v5 atv6 s_1v6))) : f11_at6 K s t bin n opacity less more fv5 a_0v5 a_1v5 atv6 s_1v6.len s_1v6_g := by
  subst s_1v6_h
  refine ofEq (f11_eq6 K s t bin n opacity less more fv5 a_0v5 a_1v5 atv6 s_1v6) ?_
  unfold p11_at6 at hs
  unfold s11_at6 at hk
  exact (condB_go (K := fun r => K (e11 r))
   (fun hs hk => (q11_at7 K s t bin n opacity less more fv5 a_0v5 a_1v5 (1:Int) s_1v6 (fun i => enc_32 (s_1v6.get i)) rfl hs hk))
   (fun hs hk => (q11_at7 K s t bin n opacity less more fv5 a_0v5 a_1v5 atv6 s_1v6 (fun i => enc_32 (s_1v6.get i)) rfl hs hk)) hs hk)
def s11_at5 (s : Sky) (t : (Sl RangeRow)) (bin : Int) (n : Nature) (opacity : Int) (less : Int) (more : Int) (fv5 : Int) (s_1v5 : (Sl (Sl FluxRow))) (a_0v5 : Int) (a_1v5 : Int) : Bool :=
  (s11_at6 s t bin n opacity less more fv5 a_0v5 a_1v5 (s21 t n opacity) s_1v5)
def p11_at5 (s : Sky) (t : (Sl RangeRow)) (bin : Int) (n : Nature) (opacity : Int) (less : Int) (more : Int) (fv5 : Int) (s_1v5 : (Sl (Sl FluxRow))) (a_0v5 : Int) (a_1v5 : Int) : Bool :=
  (decide ((p21 t n opacity = true)) &&
  (p11_at6 s t bin n opacity less more fv5 a_0v5 a_1v5 (s21 t n opacity) s_1v5))
theorem q11_at5 (K : List PA → Prop) (s : Sky) (t : (Sl RangeRow)) (bin : Int) (n : Nature) (opacity : Int) (less : Int) (more : Int) (fv5 : Int) (s_1v5 : (Sl (Sl FluxRow))) (a_0v5 : Int) (a_1v5 : Int) (s_1v5_g : Nat → List PV) (s_1v5_h : s_1v5_g = fun i => enc_32 (s_1v5.get i)) (hs : p11_at5 s t bin n opacity less more fv5 s_1v5 a_0v5 a_1v5 = true) (hk : K (e11 (s11_at5 s t bin n opacity less more fv5 s_1v5 a_0v5 a_1v5))) : f11_at5 K s t bin n opacity less more fv5 s_1v5.len s_1v5_g a_0v5 a_1v5 := by
  subst s_1v5_h
  refine ofEq (f11_eq5 K s t bin n opacity less more fv5 s_1v5 a_0v5 a_1v5) ?_
  unfold p11_at5 at hs
  unfold s11_at5 at hk
  exact (andK hs fun hc hs => ⟨⟨isE, isE, isE, hc⟩, (q11_at6 K s t bin n opacity less more fv5 a_0v5 a_1v5 (s21 t n opacity) s_1v5 (fun i => enc_32 (s_1v5.get i)) rfl hs hk)⟩)
def s11_at4 (s : Sky) (t : (Sl RangeRow)) (bin : Int) (n : Nature) (opacity : Int) (less : Int) (more : Int) (s_1v4 : (Sl (Sl FluxRow))) : Bool :=
  (s11_at5 s t bin n opacity less more ((s19 t opacity).2) s_1v4 (((s19 t opacity).1).Low) (((s19 t opacity).1).High))
def p11_at4 (s : Sky) (t : (Sl RangeRow)) (bin : Int) (n : Nature) (opacity : Int) (less : Int) (more : Int) (s_1v4 : (Sl (Sl FluxRow))) : Bool :=
  (decide ((p19 t opacity = true)) &&
  (p11_at5 s t bin n opacity less more ((s19 t opacity).2) s_1v4 (((s19 t opacity).1).Low) (((s19 t opacity).1).High)))
theorem q11_at4 (K : List PA → Prop) (s : Sky) (t : (Sl RangeRow)) (bin : Int) (n : Nature) (opacity : Int) (less : Int) (more : Int) (s_1v4 : (Sl (Sl FluxRow))) (s_1v4_g : Nat → List PV) (s_1v4_h : s_1v4_g = fun i => enc_32 (s_1v4.get i)) (hs : p11_at4 s t bin n opacity less more s_1v4 = true) (hk : K (e11 (s11_at4 s t bin n opacity less more s_1v4))) : f11_at4 K s t bin n opacity less more s_1v4.len s_1v4_g := by
  subst s_1v4_h
  refine ofEq (f11_eq4 K s t bin n opacity less more s_1v4) ?_
  unfold p11_at4 at hs
  unfold s11_at4 at hk
  exact (andK hs fun hc hs => ⟨⟨isE, hc⟩, (q11_at5 K s t bin n opacity less more ((s19 t opacity).2) s_1v4 (((s19 t opacity).1).Low) (((s19 t opacity).1).High) (fun i => enc_32 (s_1v4.get i)) rfl hs hk)⟩)
def s11_at3 (s : Sky) (t : (Sl RangeRow)) (bin : Int) (n : Nature) (opacity : Int) (less : Int) (more : Int) (ev2 : Int) (b_0v2 : Int) (b_1v2 : Int) (xv3 : Int) (s_1v3 : (Sl (Sl FluxRow))) : Bool :=
  (cond (ev2 != (0:Int))
   false
   (cond (decide (xv3 < b_0v2))
    false
    (cond (decide (xv3 > b_1v2))
     false
     (s11_at4 s t bin n opacity less more s_1v3))))
def p11_at3 (s : Sky) (t : (Sl RangeRow)) (bin : Int) (n : Nature) (opacity : Int) (less : Int) (more : Int) (ev2 : Int) (b_0v2 : Int) (b_1v2 : Int) (xv3 : Int) (s_1v3 : (Sl (Sl FluxRow))) : Bool :=
  (cond (ev2 != (0:Int))
   true
   (cond (decide (xv3 < b_0v2))
    true
    (cond (decide (xv3 > b_1v2))
     true
     (p11_at4 s t bin n opacity less more s_1v3))))
theorem q11_at3 (K : List PA → Prop) (s : Sky) (t : (Sl RangeRow)) (bin : Int) (n : Nature) (opacity : Int) (less : Int) (more : Int) (ev2 : Int) (b_0v2 : Int) (b_1v2 : Int) (xv3 : Int) (s_1v3 : (Sl (Sl FluxRow))) (s_1v3_g : Nat → List PV) (s_1v3_h : s_1v3_g = fun i => enc_32 (s_1v3.get i)) (hs : p11_at3 s t bin n opacity less more ev2 b_0v2 b_1v2 xv3 s_1v3 = true) (hk : K (e11 (s11_at3 s t bin n opacity less more ev2 b_0v2 b_1v2 xv3 s_1v3))) : f11_at3 K s t bin n opacity less more ev2 b_0v2 b_1v2 xv3 s_1v3.len s_1v3_g := by
  subst s_1v3_h
  refine ofEq (f11_eq3 K s t bin n opacity less more ev2 b_0v2 b_1v2 xv3 s_1v3) ?_
  unfold p11_at3 at hs
  unfold s11_at3 at hk
  exact (condB_go (K := fun r => K (e11 r))
   (fun hs hk => hk)
   (fun hs hk => (condB_go (K := fun r => K (e11 r))
    (fun hs hk => hk)
    (fun hs hk => (condB_go (K := fun r => K (e11 r))
     (fun hs hk => hk)
     (fun hs hk => (q11_at4 K s t bin n opacity less more s_1v3 (fun i => enc_32 (s_1v3.get i)) rfl hs hk)) hs hk)) hs hk)) hs hk)
def s11_at2 (s : Sky) (t : (Sl RangeRow)) (bin : Int) (n : Nature) (opacity : Int) (energy : Int) (less : Int) (more : Int) (ev2 : Int) (s_1v2 : (Sl (Sl FluxRow))) (b_0v2 : Int) (b_1v2 : Int) : Bool :=
  (s11_at3 s t bin n opacity less more ev2 b_0v2 b_1v2 (s43 t n energy) s_1v2)
def p11_at2 (s : Sky) (t : (Sl RangeRow)) (bin : Int) (n : Nature) (opacity : Int) (energy : Int) (less : Int) (more : Int) (ev2 : Int) (s_1v2 : (Sl (Sl FluxRow))) (b_0v2 : Int) (b_1v2 : Int) : Bool :=
  (decide ((p43 t n energy = true)) &&
  (p11_at3 s t bin n opacity less more ev2 b_0v2 b_1v2 (s43 t n energy) s_1v2))
theorem q11_at2 (K : List PA → Prop) (s : Sky) (t : (Sl RangeRow)) (bin : Int) (n : Nature) (opacity : Int) (energy : Int) (less : Int) (more : Int) (ev2 : Int) (s_1v2 : (Sl (Sl FluxRow))) (b_0v2 : Int) (b_1v2 : Int) (s_1v2_g : Nat → List PV) (s_1v2_h : s_1v2_g = fun i => enc_32 (s_1v2.get i)) (hs : p11_at2 s t bin n opacity energy less more ev2 s_1v2 b_0v2 b_1v2 = true) (hk : K (e11 (s11_at2 s t bin n opacity energy less more ev2 s_1v2 b_0v2 b_1v2))) : f11_at2 K s t bin n opacity energy less more ev2 s_1v2.len s_1v2_g b_0v2 b_1v2 := by
  subst s_1v2_h
  refine ofEq (f11_eq2 K s t bin n opacity energy less more ev2 s_1v2 b_0v2 b_1v2) ?_
  unfold p11_at2 at hs
  unfold s11_at2 at hk
  exact (andK hs fun hc hs => ⟨⟨isE, isE, isE, hc⟩, (q11_at3 K s t bin n opacity less more ev2 b_0v2 b_1v2 (s43 t n energy) s_1v2 (fun i => enc_32 (s_1v2.get i)) rfl hs hk)⟩)
def s11_at1 (s : Sky) (t : (Sl RangeRow)) (bin : Int) (n : Nature) (opacity : Int) (energy : Int) (less : Int) (more : Int) (s_1v1 : (Sl (Sl FluxRow))) : Bool :=
  (s11_at2 s t bin n opacity energy less more ((s42 t energy).2) s_1v1 (((s42 t energy).1).Low) (((s42 t energy).1).High))
def p11_at1 (s : Sky) (t : (Sl RangeRow)) (bin : Int) (n : Nature) (opacity : Int) (energy : Int) (less : Int) (more : Int) (s_1v1 : (Sl (Sl FluxRow))) : Bool :=
  (decide ((p42 t energy = true)) &&
  (p11_at2 s t bin n opacity energy less more ((s42 t energy).2) s_1v1 (((s42 t energy).1).Low) (((s42 t energy).1).High)))
theorem q11_at1 (K : List PA → Prop) (s : Sky) (t : (Sl RangeRow)) (bin : Int) (n : Nature) (opacity : Int) (energy : Int) (less : Int) (more : Int) (s_1v1 : (Sl (Sl FluxRow))) (s_1v1_g : Nat → List PV) (s_1v1_h : s_1v1_g = fun i => enc_32 (s_1v1.get i)) (hs : p11_at1 s t bin n opacity energy less more s_1v1 = true) (hk : K (e11 (s11_at1 s t bin n opacity energy less more s_1v1))) : f11_at1 K s t bin n opacity energy less more s_1v1.len s_1v1_g := by
  subst s_1v1_h
  refine ofEq (f11_eq1 K s t bin n opacity energy less more s_1v1) ?_
  unfold p11_at1 at hs
  unfold s11_at1 at hk
  exact (andK hs fun hc hs => ⟨⟨isE, hc⟩, (q11_at2 K s t bin n opacity energy less more ((s42 t energy).2) s_1v1 (((s42 t energy).1).Low) (((s42 t energy).1).High) (fun i => enc_32 (s_1v1.get i)) rfl hs hk)⟩)
def s11_at0 (s : Sky) (t : (Sl RangeRow)) (bin : Int) (n : Nature) (opacity : Int) (energy : Int) (less : Int) (more : Int) (t89v0 : Bool) (s_1v0 : (Sl (Sl FluxRow))) : Bool :=
  (cond t89v0
   true
   (s11_at1 s t bin n opacity energy less more s_1v0))
def p11_at0 (s : Sky) (t : (Sl RangeRow)) (bin : Int) (n : Nature) (opacity : Int) (energy : Int) (less : Int) (more : Int) (t89v0 : Bool) (s_1v0 : (Sl (Sl FluxRow))) : Bool :=
  (cond t89v0
   true
   (p11_at1 s t bin n opacity energy less more s_1v0))
theorem q11_at0 (K : List PA → Prop) (s : Sky) (t : (Sl RangeRow)) (bin : Int) (n : Nature) (opacity : Int) (energy : Int) (less : Int) (more : Int) (t89v0 : Bool) (s_1v0 : (Sl (Sl FluxRow))) (s_1v0_g : Nat → List PV) (s_1v0_h : s_1v0_g = fun i => enc_32 (s_1v0.get i)) (hs : p11_at0 s t bin n opacity energy less more t89v0 s_1v0 = true) (hk : K (e11 (s11_at0 s t bin n opacity energy less more t89v0 s_1v0))) : f11_at0 K s t bin n opacity energy less more t89v0 s_1v0.len s_1v0_g := by
  subst s_1v0_h
  refine ofEq (f11_eq0 K s t bin n opacity energy less more t89v0 s_1v0) ?_
  unfold p11_at0 at hs
  unfold s11_at0 at hk
  exact (condB_go (K := fun r => K (e11 r))
   (fun hs hk => hk)
   (fun hs hk => (q11_at1 K s t bin n opacity energy less more s_1v0 (fun i => enc_32 (s_1v0.get i)) rfl hs hk)) hs hk)
def s11 (s : Sky) (t : (Sl RangeRow)) (bin : Int) (n : Nature) (opacity : Int) (energy : Int) (less : Int) (more : Int) : Bool :=
  (cond (!(s15 s t))
   (s11_at0 s t bin n opacity energy less more true s.Bins)
   (cond (!(s16 s))
    (s11_at0 s t bin n opacity energy less more true s.Bins)
    (cond (!(s17 t))
     (s11_at0 s t bin n opacity energy less more true s.Bins)
     (cond (decide (bin < (0:Int)))
      (s11_at0 s t bin n opacity energy less more true s.Bins)
      (cond (decide (bin ≥ (s.Bins.len : Int)))
       (s11_at0 s t bin n opacity energy less more true s.Bins)
       (cond (!(s31 n (t.len : Int) ((s.Bins.get bin.toNat).len : Int)))
        (s11_at0 s t bin n opacity energy less more true s.Bins)
        (cond (decide (opacity < (0:Int)))
         (s11_at0 s t bin n opacity energy less more true s.Bins)
         (cond (decide (opacity > (1000000:Int)))
          (s11_at0 s t bin n opacity energy less more true s.Bins)
          (cond (decide (energy < (1:Int)))
           (s11_at0 s t bin n opacity energy less more true s.Bins)
           (cond (decide (energy > (1000000:Int)))
            (s11_at0 s t bin n opacity energy less more true s.Bins)
            (cond (decide (less < (0:Int)))
             (s11_at0 s t bin n opacity energy less more true s.Bins)
             (s11_at0 s t bin n opacity energy less more (decide (more < (0:Int))) s.Bins))))))))))))
def p11 (s : Sky) (t : (Sl RangeRow)) (bin : Int) (n : Nature) (opacity : Int) (energy : Int) (less : Int) (more : Int) : Bool :=
  (decide ((p15 s t = true)) &&
  (cond (!(s15 s t))
   (p11_at0 s t bin n opacity energy less more true s.Bins)
   (decide ((p16 s = true)) &&
   (cond (!(s16 s))
    (p11_at0 s t bin n opacity energy less more true s.Bins)
    (decide ((p17 t = true)) &&
    (cond (!(s17 t))
     (p11_at0 s t bin n opacity energy less more true s.Bins)
     (cond (decide (bin < (0:Int)))
      (p11_at0 s t bin n opacity energy less more true s.Bins)
      (cond (decide (bin ≥ (s.Bins.len : Int)))
       (p11_at0 s t bin n opacity energy less more true s.Bins)
       (decide ((0 ≤ bin ∧ bin < (s.Bins.len : Int))) &&
       (decide ((p31 n (t.len : Int) ((s.Bins.get bin.toNat).len : Int) = true)) &&
       (cond (!(s31 n (t.len : Int) ((s.Bins.get bin.toNat).len : Int)))
        (p11_at0 s t bin n opacity energy less more true s.Bins)
        (cond (decide (opacity < (0:Int)))
         (p11_at0 s t bin n opacity energy less more true s.Bins)
         (cond (decide (opacity > (1000000:Int)))
          (p11_at0 s t bin n opacity energy less more true s.Bins)
          (cond (decide (energy < (1:Int)))
           (p11_at0 s t bin n opacity energy less more true s.Bins)
           (cond (decide (energy > (1000000:Int)))
            (p11_at0 s t bin n opacity energy less more true s.Bins)
            (cond (decide (less < (0:Int)))
             (p11_at0 s t bin n opacity energy less more true s.Bins)
             (p11_at0 s t bin n opacity energy less more (decide (more < (0:Int))) s.Bins)))))))))))))))))
theorem q11 (s : Sky) (t : (Sl RangeRow)) (bin : Int) (n : Nature) (opacity : Int) (energy : Int) (less : Int) (more : Int) (K : List PA → Prop) (hs : p11 s t bin n opacity energy less more = true) (hk : K (e11 (s11 s t bin n opacity energy less more))) : vcFun Try.prog G11 ann11 11 [.agg [.int .i64 s.Parts, .sl s.Bins.len 1 (fun i => enc_32 (s.Bins.get i)), .int .i64 s.Beta.Low, .int .i64 s.Beta.High, .int .i64 s.Alpha.Low, .int .i64 s.Alpha.High], .one (.sl t.len 3 (fun i => enc_42 (t.get i))), .one (.int .i64 bin), .agg [.sl n.Ranges.len 1 (fun i => enc_3 (n.Ranges.get i)), .sl n.Rates.len 1 (fun i => enc_3 (n.Rates.get i)), .bool n.Soon], .one (.int .i64 opacity), .one (.int .i64 energy), .one (.int .i64 less), .one (.int .i64 more)] K := by
  refine ofEq (f11_top s t bin n opacity energy less more K) ?_
  unfold p11 at hs
  unfold s11 at hk
  exact (andK hs fun hc hs => ⟨⟨isE, isE, hc⟩, (condB_go (K := fun r => K (e11 r))
   (fun hs hk => (q11_at0 K s t bin n opacity energy less more true s.Bins (fun i => enc_32 (s.Bins.get i)) rfl hs hk))
   (fun hs hk => (andK hs fun hc hs => ⟨⟨isE, hc⟩, (condB_go (K := fun r => K (e11 r))
    (fun hs hk => (q11_at0 K s t bin n opacity energy less more true s.Bins (fun i => enc_32 (s.Bins.get i)) rfl hs hk))
    (fun hs hk => (andK hs fun hc hs => ⟨⟨isE, hc⟩, (condB_go (K := fun r => K (e11 r))
     (fun hs hk => (q11_at0 K s t bin n opacity energy less more true s.Bins (fun i => enc_32 (s.Bins.get i)) rfl hs hk))
     (fun hs hk => (condB_go (K := fun r => K (e11 r))
      (fun hs hk => (q11_at0 K s t bin n opacity energy less more true s.Bins (fun i => enc_32 (s.Bins.get i)) rfl hs hk))
      (fun hs hk => (condB_go (K := fun r => K (e11 r))
       (fun hs hk => (q11_at0 K s t bin n opacity energy less more true s.Bins (fun i => enc_32 (s.Bins.get i)) rfl hs hk))
       (fun hs hk => (andK hs fun hc hs => ⟨hc, (andK hs fun hc hs => ⟨⟨isE, isE, hc⟩, (condB_go (K := fun r => K (e11 r))
        (fun hs hk => (q11_at0 K s t bin n opacity energy less more true s.Bins (fun i => enc_32 (s.Bins.get i)) rfl hs hk))
        (fun hs hk => (condB_go (K := fun r => K (e11 r))
         (fun hs hk => (q11_at0 K s t bin n opacity energy less more true s.Bins (fun i => enc_32 (s.Bins.get i)) rfl hs hk))
         (fun hs hk => (condB_go (K := fun r => K (e11 r))
          (fun hs hk => (q11_at0 K s t bin n opacity energy less more true s.Bins (fun i => enc_32 (s.Bins.get i)) rfl hs hk))
          (fun hs hk => (condB_go (K := fun r => K (e11 r))
           (fun hs hk => (q11_at0 K s t bin n opacity energy less more true s.Bins (fun i => enc_32 (s.Bins.get i)) rfl hs hk))
           (fun hs hk => (condB_go (K := fun r => K (e11 r))
            (fun hs hk => (q11_at0 K s t bin n opacity energy less more true s.Bins (fun i => enc_32 (s.Bins.get i)) rfl hs hk))
            (fun hs hk => (condB_go (K := fun r => K (e11 r))
             (fun hs hk => (q11_at0 K s t bin n opacity energy less more true s.Bins (fun i => enc_32 (s.Bins.get i)) rfl hs hk))
             (fun hs hk => (q11_at0 K s t bin n opacity energy less more (decide (more < (0:Int))) s.Bins (fun i => enc_32 (s.Bins.get i)) rfl hs hk)) hs hk)) hs hk)) hs hk)) hs hk)) hs hk)) hs hk)⟩)⟩)) hs hk)) hs hk)) hs hk)⟩)) hs hk)⟩)) hs hk)⟩)
def ctr11 : List PA → COut
  | [.agg [.int .i64 a0_Parts, .sl a0_Bins_n a0_Bins_s a0_Bins_g, .int .i64 a0_Beta_Low, .int .i64 a0_Beta_High, .int .i64 a0_Alpha_Low, .int .i64 a0_Alpha_High], .one (.sl a1_n a1_s a1_g), .one (.int .i64 a2), .agg [.sl a3_Ranges_n a3_Ranges_s a3_Ranges_g, .sl a3_Rates_n a3_Rates_s a3_Rates_g, .bool a3_Soon], .one (.int .i64 a4), .one (.int .i64 a5), .one (.int .i64 a6), .one (.int .i64 a7)] => .det (IsE enc_32 1 a0_Bins_s a0_Bins_g ∧ IsE enc_42 3 a1_s a1_g ∧ IsE enc_3 1 a3_Ranges_s a3_Ranges_g ∧ IsE enc_3 1 a3_Rates_s a3_Rates_g ∧ p11 (⟨a0_Parts, (⟨a0_Bins_n, decF_32 a0_Bins_g⟩ : (Sl (Sl FluxRow))), (⟨a0_Beta_Low, a0_Beta_High⟩ : Span), (⟨a0_Alpha_Low, a0_Alpha_High⟩ : Span)⟩ : Sky) (⟨a1_n, decF_42 a1_g⟩ : (Sl RangeRow)) a2 (⟨(⟨a3_Ranges_n, decF_3 a3_Ranges_g⟩ : (Sl Int)), (⟨a3_Rates_n, decF_3 a3_Rates_g⟩ : (Sl Int)), a3_Soon⟩ : Nature) a4 a5 a6 a7 = true) [.one (.bool (s11 (⟨a0_Parts, (⟨a0_Bins_n, decF_32 a0_Bins_g⟩ : (Sl (Sl FluxRow))), (⟨a0_Beta_Low, a0_Beta_High⟩ : Span), (⟨a0_Alpha_Low, a0_Alpha_High⟩ : Span)⟩ : Sky) (⟨a1_n, decF_42 a1_g⟩ : (Sl RangeRow)) a2 (⟨(⟨a3_Ranges_n, decF_3 a3_Ranges_g⟩ : (Sl Int)), (⟨a3_Rates_n, decF_3 a3_Rates_g⟩ : (Sl Int)), a3_Soon⟩ : Nature) a4 a5 a6 a7))]
  | _ => .no
theorem call11 : Callable Try.prog 11 := ⟨_, rfl, rfl, by kernel_rfl⟩
theorem ok11 : Ok Try.prog 11 ctr11 := ok_tab okT11 call11 fun args K h => by
  unfold ctr11 at h
  split at h
  · rename_i a0_Parts a0_Bins_n a0_Bins_s a0_Bins_g a0_Beta_Low a0_Beta_High a0_Alpha_Low a0_Alpha_High a1_n a1_s a1_g a2 a3_Ranges_n a3_Ranges_s a3_Ranges_g a3_Rates_n a3_Rates_s a3_Rates_g a3_Soon a4 a5 a6 a7
    obtain ⟨⟨⟨rfl, a0_Bins_f, rfl⟩, ⟨rfl, a1_f, rfl⟩, ⟨rfl, a3_Ranges_f, rfl⟩, ⟨rfl, a3_Rates_f, rfl⟩, hs⟩, hk⟩ := h
    try rw [decF_enc_32 a0_Bins_f] at hs
    try rw [decF_enc_32 a0_Bins_f] at hk
    try rw [decF_enc_42 a1_f] at hs
    try rw [decF_enc_42 a1_f] at hk
    try rw [decF_enc_3 a3_Ranges_f] at hs
    try rw [decF_enc_3 a3_Ranges_f] at hk
    try rw [decF_enc_3 a3_Rates_f] at hs
    try rw [decF_enc_3 a3_Rates_f] at hk
    exact ⟨(fun _ _ => []), (fun _ => false), ann11, q11 (⟨a0_Parts, (⟨a0_Bins_n, a0_Bins_f⟩ : (Sl (Sl FluxRow))), (⟨a0_Beta_Low, a0_Beta_High⟩ : Span), (⟨a0_Alpha_Low, a0_Alpha_High⟩ : Span)⟩ : Sky) (⟨a1_n, a1_f⟩ : (Sl RangeRow)) a2 (⟨(⟨a3_Ranges_n, a3_Ranges_f⟩ : (Sl Int)), (⟨a3_Rates_n, a3_Rates_f⟩ : (Sl Int)), a3_Soon⟩ : Nature) a4 a5 a6 a7 K hs hk⟩
  · exact h.elim
end Go.Proofs
namespace Go.Proofs
open Go Go.Pm
set_option maxRecDepth 100000
set_option linter.unusedVariables false
attribute [local irreducible] Go.Pm.vcFun Go.Pm.vc Go.Pm.vcIter
theorem C_3 : Try.prog.cellsOf 3 = 1 := by kernel_rfl
theorem C_4 : Try.prog.cellsOf 4 = 1 := by kernel_rfl
theorem C_22 : Try.prog.cellsOf 22 = 1 := by kernel_rfl
theorem C_24 : Try.prog.cellsOf 24 = 2 := by kernel_rfl
theorem C_26 : Try.prog.cellsOf 26 = 6 := by kernel_rfl
theorem C_32 : Try.prog.cellsOf 32 = 1 := by kernel_rfl
theorem C_37 : Try.prog.cellsOf 37 = 1 := by kernel_rfl
theorem C_39 : Try.prog.cellsOf 39 = 3 := by kernel_rfl
theorem C_42 : Try.prog.cellsOf 42 = 3 := by kernel_rfl
theorem C_44 : Try.prog.cellsOf 44 = 3 := by kernel_rfl
abbrev wf_3 (x : Int) : Prop := wfI x
theorem rd_3 {H : Type} {en : TypeId × Value → H} {w : World} {sp : Nat → Bool} {held : Bool} : Rd H en Try.prog w sp held 3 enc_3 wf_3 := rd_int Try.underlying3
def wf_24 (x : Span) : Prop := wf_3 x.Low ∧ wf_3 x.High
theorem rd_24 {H : Type} {en : TypeId × Value → H} {w : World} {sp : Nat → Bool} {held : Bool} : Rd H en Try.prog w sp held 24 enc_24 wf_24 := by
  intro fuel cs x h
  obtain ⟨hl, hf⟩ := rd_struct Try.underlying24 h
  rw [C_24] at hl
  obtain ⟨n0, y0, g0⟩ := hf 0 _ rfl
  have g0 : DataW.trod en Try.prog w 0 sp held n0 3 ((cs.drop 0).take (Try.prog.cellsOf 3)) = some y0 := g0
  rw [C_3] at g0
  obtain ⟨a0, r0, w0⟩ := rd_3 _ _ _ g0
  obtain ⟨n1, y1, g1⟩ := hf 1 _ rfl
  have g1 : DataW.trod en Try.prog w 0 sp held n1 3 ((cs.drop 1).take (Try.prog.cellsOf 3)) = some y1 := g1
  rw [C_3] at g1
  obtain ⟨a1, r1, w1⟩ := rd_3 _ _ _ g1
  have z : cs.drop 2 = [] := List.drop_eq_nil_of_le (by omega)
  have R := (r0.append (r1.append (show RL (Rep (H0 w)) [] (cs.drop 2) by rw [z]; exact rl_n)))
  rw [← (show cs.drop 1 = (cs.drop 1).take 1 ++ cs.drop 2 from split_drop cs 1 1)] at R
  rw [← (show cs.drop 0 = (cs.drop 0).take 1 ++ cs.drop 1 from split_drop cs 0 1)] at R
  exact ⟨⟨a0, a1⟩, R, ⟨w0, w1⟩⟩
def wf_44 (x : FluxRow) : Prop := wf_3 x.Energy ∧ wf_24 x.Rate
theorem rd_44 {H : Type} {en : TypeId × Value → H} {w : World} {sp : Nat → Bool} {held : Bool} : Rd H en Try.prog w sp held 44 enc_44 wf_44 := by
  intro fuel cs x h
  obtain ⟨hl, hf⟩ := rd_struct Try.underlying44 h
  rw [C_44] at hl
  obtain ⟨n0, y0, g0⟩ := hf 0 _ rfl
  have g0 : DataW.trod en Try.prog w 0 sp held n0 3 ((cs.drop 0).take (Try.prog.cellsOf 3)) = some y0 := g0
  rw [C_3] at g0
  obtain ⟨a0, r0, w0⟩ := rd_3 _ _ _ g0
  obtain ⟨n1, y1, g1⟩ := hf 1 _ rfl
  have g1 : DataW.trod en Try.prog w 0 sp held n1 24 ((cs.drop 1).take (Try.prog.cellsOf 24)) = some y1 := g1
  rw [C_24] at g1
  obtain ⟨a1, r1, w1⟩ := rd_24 _ _ _ g1
  have z : cs.drop 3 = [] := List.drop_eq_nil_of_le (by omega)
  have R := (r0.append (r1.append (show RL (Rep (H0 w)) [] (cs.drop 3) by rw [z]; exact rl_n)))
  rw [← (show cs.drop 1 = (cs.drop 1).take 2 ++ cs.drop 3 from split_drop cs 1 2)] at R
  rw [← (show cs.drop 0 = (cs.drop 0).take 1 ++ cs.drop 1 from split_drop cs 0 1)] at R
  exact ⟨⟨a0, a1⟩, R, ⟨w0, w1⟩⟩
def wf_32 (x : (Sl FluxRow)) : Prop := x.len ≤ 9223372036854775807 ∧ ∀ i, i < x.len → wf_44 (x.get i)
theorem rd_32 {H : Type} {en : TypeId × Value → H} {w : World} {sp : Nat → Bool} {held : Bool} : Rd H en Try.prog w sp held 32 enc_32 wf_32 := rd_slice Try.underlying32 C_44 (by decide) (fun _ => rfl) rd_44
def wf_22 (x : (Sl (Sl FluxRow))) : Prop := x.len ≤ 9223372036854775807 ∧ ∀ i, i < x.len → wf_32 (x.get i)
theorem rd_22 {H : Type} {en : TypeId × Value → H} {w : World} {sp : Nat → Bool} {held : Bool} : Rd H en Try.prog w sp held 22 enc_22 wf_22 := rd_slice Try.underlying22 C_32 (by decide) (fun _ => rfl) rd_32
def wf_26 (x : Sky) : Prop := wf_3 x.Parts ∧ wf_22 x.Bins ∧ wf_24 x.Beta ∧ wf_24 x.Alpha
theorem rd_26 {H : Type} {en : TypeId × Value → H} {w : World} {sp : Nat → Bool} {held : Bool} : Rd H en Try.prog w sp held 26 enc_26 wf_26 := by
  intro fuel cs x h
  obtain ⟨hl, hf⟩ := rd_struct Try.underlying26 h
  rw [C_26] at hl
  obtain ⟨n0, y0, g0⟩ := hf 0 _ rfl
  have g0 : DataW.trod en Try.prog w 0 sp held n0 3 ((cs.drop 0).take (Try.prog.cellsOf 3)) = some y0 := g0
  rw [C_3] at g0
  obtain ⟨a0, r0, w0⟩ := rd_3 _ _ _ g0
  obtain ⟨n1, y1, g1⟩ := hf 1 _ rfl
  have g1 : DataW.trod en Try.prog w 0 sp held n1 22 ((cs.drop 1).take (Try.prog.cellsOf 22)) = some y1 := g1
  rw [C_22] at g1
  obtain ⟨a1, r1, w1⟩ := rd_22 _ _ _ g1
  obtain ⟨n2, y2, g2⟩ := hf 2 _ rfl
  have g2 : DataW.trod en Try.prog w 0 sp held n2 24 ((cs.drop 2).take (Try.prog.cellsOf 24)) = some y2 := g2
  rw [C_24] at g2
  obtain ⟨a2, r2, w2⟩ := rd_24 _ _ _ g2
  obtain ⟨n3, y3, g3⟩ := hf 3 _ rfl
  have g3 : DataW.trod en Try.prog w 0 sp held n3 24 ((cs.drop 4).take (Try.prog.cellsOf 24)) = some y3 := g3
  rw [C_24] at g3
  obtain ⟨a3, r3, w3⟩ := rd_24 _ _ _ g3
  have z : cs.drop 6 = [] := List.drop_eq_nil_of_le (by omega)
  have R := (r0.append (r1.append (r2.append (r3.append (show RL (Rep (H0 w)) [] (cs.drop 6) by rw [z]; exact rl_n)))))
  rw [← (show cs.drop 4 = (cs.drop 4).take 2 ++ cs.drop 6 from split_drop cs 4 2)] at R
  rw [← (show cs.drop 2 = (cs.drop 2).take 2 ++ cs.drop 4 from split_drop cs 2 2)] at R
  rw [← (show cs.drop 1 = (cs.drop 1).take 1 ++ cs.drop 2 from split_drop cs 1 1)] at R
  rw [← (show cs.drop 0 = (cs.drop 0).take 1 ++ cs.drop 1 from split_drop cs 0 1)] at R
  exact ⟨⟨a0, a1, a2, a3⟩, R, ⟨w0, w1, w2, w3⟩⟩
def wf_42 (x : RangeRow) : Prop := wf_3 x.Energy ∧ wf_24 x.Range
theorem rd_42 {H : Type} {en : TypeId × Value → H} {w : World} {sp : Nat → Bool} {held : Bool} : Rd H en Try.prog w sp held 42 enc_42 wf_42 := by
  intro fuel cs x h
  obtain ⟨hl, hf⟩ := rd_struct Try.underlying42 h
  rw [C_42] at hl
  obtain ⟨n0, y0, g0⟩ := hf 0 _ rfl
  have g0 : DataW.trod en Try.prog w 0 sp held n0 3 ((cs.drop 0).take (Try.prog.cellsOf 3)) = some y0 := g0
  rw [C_3] at g0
  obtain ⟨a0, r0, w0⟩ := rd_3 _ _ _ g0
  obtain ⟨n1, y1, g1⟩ := hf 1 _ rfl
  have g1 : DataW.trod en Try.prog w 0 sp held n1 24 ((cs.drop 1).take (Try.prog.cellsOf 24)) = some y1 := g1
  rw [C_24] at g1
  obtain ⟨a1, r1, w1⟩ := rd_24 _ _ _ g1
  have z : cs.drop 3 = [] := List.drop_eq_nil_of_le (by omega)
  have R := (r0.append (r1.append (show RL (Rep (H0 w)) [] (cs.drop 3) by rw [z]; exact rl_n)))
  rw [← (show cs.drop 1 = (cs.drop 1).take 2 ++ cs.drop 3 from split_drop cs 1 2)] at R
  rw [← (show cs.drop 0 = (cs.drop 0).take 1 ++ cs.drop 1 from split_drop cs 0 1)] at R
  exact ⟨⟨a0, a1⟩, R, ⟨w0, w1⟩⟩
def wf_27 (x : (Sl RangeRow)) : Prop := x.len ≤ 9223372036854775807 ∧ ∀ i, i < x.len → wf_42 (x.get i)
theorem rd_27 {H : Type} {en : TypeId × Value → H} {w : World} {sp : Nat → Bool} {held : Bool} : Rd H en Try.prog w sp held 27 enc_27 wf_27 := rd_slice Try.underlying27 C_42 (by decide) (fun _ => rfl) rd_42
def wf_37 (x : (Sl Int)) : Prop := x.len ≤ 9223372036854775807 ∧ ∀ i, i < x.len → wf_3 (x.get i)
theorem rd_37 {H : Type} {en : TypeId × Value → H} {w : World} {sp : Nat → Bool} {held : Bool} : Rd H en Try.prog w sp held 37 enc_37 wf_37 := rd_slice Try.underlying37 C_3 (by decide) (fun _ => rfl) rd_3
abbrev wf_4 (_ : Bool) : Prop := True
theorem rd_4 {H : Type} {en : TypeId × Value → H} {w : World} {sp : Nat → Bool} {held : Bool} : Rd H en Try.prog w sp held 4 enc_4 wf_4 := rd_bool Try.underlying4
def wf_39 (x : Nature) : Prop := wf_37 x.Ranges ∧ wf_37 x.Rates ∧ wf_4 x.Soon
theorem rd_39 {H : Type} {en : TypeId × Value → H} {w : World} {sp : Nat → Bool} {held : Bool} : Rd H en Try.prog w sp held 39 enc_39 wf_39 := by
  intro fuel cs x h
  obtain ⟨hl, hf⟩ := rd_struct Try.underlying39 h
  rw [C_39] at hl
  obtain ⟨n0, y0, g0⟩ := hf 0 _ rfl
  have g0 : DataW.trod en Try.prog w 0 sp held n0 37 ((cs.drop 0).take (Try.prog.cellsOf 37)) = some y0 := g0
  rw [C_37] at g0
  obtain ⟨a0, r0, w0⟩ := rd_37 _ _ _ g0
  obtain ⟨n1, y1, g1⟩ := hf 1 _ rfl
  have g1 : DataW.trod en Try.prog w 0 sp held n1 37 ((cs.drop 1).take (Try.prog.cellsOf 37)) = some y1 := g1
  rw [C_37] at g1
  obtain ⟨a1, r1, w1⟩ := rd_37 _ _ _ g1
  obtain ⟨n2, y2, g2⟩ := hf 2 _ rfl
  have g2 : DataW.trod en Try.prog w 0 sp held n2 4 ((cs.drop 2).take (Try.prog.cellsOf 4)) = some y2 := g2
  rw [C_4] at g2
  obtain ⟨a2, r2, w2⟩ := rd_4 _ _ _ g2
  have z : cs.drop 3 = [] := List.drop_eq_nil_of_le (by omega)
  have R := (r0.append (r1.append (r2.append (show RL (Rep (H0 w)) [] (cs.drop 3) by rw [z]; exact rl_n))))
  rw [← (show cs.drop 2 = (cs.drop 2).take 1 ++ cs.drop 3 from split_drop cs 2 1)] at R
  rw [← (show cs.drop 1 = (cs.drop 1).take 1 ++ cs.drop 2 from split_drop cs 1 1)] at R
  rw [← (show cs.drop 0 = (cs.drop 0).take 1 ++ cs.drop 1 from split_drop cs 0 1)] at R
  exact ⟨⟨a0, a1, a2⟩, R, ⟨w0, w1, w2⟩⟩
end Go.Proofs
namespace Go.Proofs
open Go Go.Pm
set_option maxRecDepth 100000
set_option linter.unusedVariables false
attribute [local irreducible] Go.Pm.vcFun Go.Pm.vc Go.Pm.vcIter
def s36 (w : Weather) : Bool :=
  (cond (s29 w.Pressure (-1000:Int) (1000:Int))
   (s29 w.Warm (-1000:Int) (1000:Int))
   false)
def ctr36 : List PA → COut
  | [.agg [.int .i64 a0_Pressure_Low, .int .i64 a0_Pressure_High, .int .i64 a0_Warm_Low, .int .i64 a0_Warm_High]] => .tot [.one (.bool (s36 (⟨(⟨a0_Pressure_Low, a0_Pressure_High⟩ : Span), (⟨a0_Warm_Low, a0_Warm_High⟩ : Span)⟩ : Weather)))]
  | _ => .no
abbrev T22 : Tabs := ((Tabs.nil.addF 36 ctr36).addF 58 ctr58)
abbrev G22 : Ctrs := csm T22 (fun _ _ => []) (fun _ => false)
def ann22 : Ann := ⟨29, [(0, ⟨[0], [], [], [], []⟩), (1, ⟨[0, 3], [], [], [], []⟩), (2, ⟨[0, 3, 7], [], [], [], []⟩), (3, ⟨[0, 3], [], [], [], []⟩), (4, ⟨[0, 3, 25], [], [], [], []⟩), (5, ⟨[2], [], [], [], []⟩), (6, ⟨[2], [], [], [], []⟩)],
  [(2, ⟨[0, 3], [], [], [], []⟩)],
  [(5, ⟨[0, 3, 25], [], [], [], []⟩)],
  [], []⟩
def f22_g0 (l_a0 : (Sl Spell)) (iv0 : Int) : St := ⟨[(0, .one (.c (.p (.sl l_a0.len 5 (fun i => enc_56 (l_a0.get i)))))), (3, .one (.c (.p (.int .i64 iv0))))], [], []⟩
def f22_at0 (K : List PA → Prop) (l_a0 : (Sl Spell)) (iv0 : Int) : Prop := vc Try.prog G22 ann22 (cdF Try.f22 [1, 0, 1, 0]) (blockK 0 (sqK Try.prog G22 ann22 (cdF Try.f22 [1, 1]) (bodyK Try.prog Try.f22 K))) (f22_g0 l_a0 iv0)
def f22_g1 (l_a0 : (Sl Spell)) (iv1 : Int) (t25v1 : Bool) : St := ⟨[(0, .one (.c (.p (.sl l_a0.len 5 (fun i => enc_56 (l_a0.get i)))))), (3, .one (.c (.p (.int .i64 iv1)))), (25, .one (.c (.p (.bool t25v1))))], [], []⟩
def f22_at1 (K : List PA → Prop) (X0 : St → Prop) (l_a0 : (Sl Spell)) (iv1 : Int) (t25v1 : Bool) : Prop := vc Try.prog G22 ann22 (cdF Try.f22 [1, 0, 1, 0, 0, 1, 0, 0, 1]) (blockK 1 (sqK Try.prog G22 ann22 (cdF Try.f22 [1, 0, 1, 0, 0, 1, 1]) (loopK Try.prog ann22 2 X0 (blockK 0 (sqK Try.prog G22 ann22 (cdF Try.f22 [1, 1]) (bodyK Try.prog Try.f22 K)))))) (f22_g1 l_a0 iv1 t25v1)
attribute [irreducible] f22_at0 f22_at1
end Go.Proofs
namespace Go.Proofs
open Go Go.Pm
set_option linter.unusedVariables false
theorem s63_eq (n lo hi : Int) : s63 n lo hi = decide (lo ≤ n ∧ n ≤ hi) := by
  unfold s63
  by_cases h1 : lo ≤ n <;> by_cases h2 : n ≤ hi <;> simp [h1, h2]
theorem s58_eq (n lo hi : Int) : s58 n lo hi = decide (lo ≤ n ∧ n ≤ hi) := by
  unfold s58
  by_cases h1 : lo ≤ n <;> by_cases h2 : n ≤ hi <;> simp [h1, h2]
theorem s69_eq (s : Span) (lo hi : Int) : s69 s lo hi = decide (lo ≤ s.Low ∧ s.Low ≤ s.High ∧ s.High ≤ hi) := by
  unfold s69
  rw [s63_eq]
  by_cases h1 : lo ≤ s.Low <;> by_cases h2 : s.Low ≤ s.High <;> by_cases h3 : s.High ≤ hi <;> simp [h1, h2, h3]
theorem s29_eq (s : Span) (lo hi : Int) : s29 s lo hi = decide (lo ≤ s.Low ∧ s.Low ≤ s.High ∧ s.High ≤ hi) := by
  unfold s29
  by_cases h1 : lo ≤ s.Low <;> by_cases h2 : s.Low ≤ s.High <;> by_cases h3 : s.High ≤ hi <;> simp [h1, h2, h3]
theorem s94_eq (a b : Span) : s94 a b = decide (a.Low ≤ b.Low ∧ a.High ≤ b.High) := by
  unfold s94
  by_cases h1 : a.Low ≤ b.Low <;> by_cases h2 : a.High ≤ b.High <;> simp [h1, h2]
theorem s104_eq (a b : Span) : s104 a b = decide (b.Low ≤ a.Low ∧ b.High ≤ a.High) := by
  unfold s104
  rw [s94_eq]
def TRow (t : Sl RangeRow) (i : Nat) : Prop := (1 ≤ (t.get i).Energy ∧ (t.get i).Energy ≤ 1000000) ∧ (0 ≤ (t.get i).Range.Low ∧ (t.get i).Range.Low ≤ (t.get i).Range.High ∧ (t.get i).Range.High ≤ 1000000) ∧
  (i = 0 ∨ (t.get (i - 1)).Energy < (t.get i).Energy ∧ (t.get (i - 1)).Range.Low ≤ (t.get i).Range.Low ∧ (t.get (i - 1)).Range.High ≤ (t.get i).Range.High)
instance (t : Sl RangeRow) (i : Nat) : Decidable (TRow t i) := by unfold TRow; infer_instance
def BRow (parts : Int) (t : Sl FluxRow) (i : Nat) : Prop := (1 ≤ (t.get i).Energy ∧ (t.get i).Energy ≤ 1000000) ∧ (0 ≤ (t.get i).Rate.Low ∧ (t.get i).Rate.Low ≤ (t.get i).Rate.High ∧ (t.get i).Rate.High ≤ parts) ∧
  (i = 0 ∨ (t.get (i - 1)).Energy < (t.get i).Energy ∧ (t.get i).Rate.Low ≤ (t.get (i - 1)).Rate.Low ∧ (t.get i).Rate.High ≤ (t.get (i - 1)).Rate.High)
instance (parts : Int) (t : Sl FluxRow) (i : Nat) : Decidable (BRow parts t i) := by unfold BRow; infer_instance
theorem s91_eq (t : Sl RangeRow) (hn : t.len ≤ 9223372036854775807) :
    p91 t 1 1000000 1000000 = true ∧ (s91 t 1 1000000 1000000 = true ↔ (∀ i, i < t.len → decide (TRow t i) = true) ∧ decide (1 ≤ (t.len : Int) ∧ (t.len : Int) ≤ 40) = true) := by
  refine all_loop (n := t.len) (good := fun i => decide (TRow t i)) (lpS := s91_lp0 t 1 1000000 1000000) (lpP := p91_lp0 t 1 1000000 1000000) ?_ ?_ ?_ ?_ hn
  · intro k i hi
    show s91_st0 t 1 1000000 1000000 (s91_lp0 t 1 1000000 1000000 k) i = cond (decide (TRow t i)) _ _
    generalize s91_lp0 t 1 1000000 1000000 k = S
    unfold s91_st0 s91_at1 s91_at2 s91_at3
    have e0 : (i : Int).toNat = i := by omega
    have el : decide ((i : Int) < (t.len : Int)) = true := decide_eq_true (by omega)
    by_cases h0 : 0 < i
    · have e2 : w64 ((i : Int) - 1) = ((i - 1 : Nat) : Int) := by rw [w64_id (by omega) (by omega)]; omega
      by_cases hg : TRow t i
      all_goals
        first | rw [decide_eq_true hg] | rw [decide_eq_false hg]
        unfold TRow at hg
        simp only [s63_eq, s69_eq, s94_eq, s92, s93, e0, el, e2, Int.toNat_natCast, Bool.cond_decide, ← decide_not, cond_true, cond_false]
        repeat' split
        all_goals first | rfl | (exfalso; omega)
    · have : i = 0 := by omega
      subst this
      by_cases hg : TRow t 0
      all_goals
        first | rw [decide_eq_true hg] | rw [decide_eq_false hg]
        unfold TRow at hg
        simp only [s63_eq, s69_eq, s94_eq, s92, s93, e0, el, Bool.cond_decide, ← decide_not, cond_true, cond_false]
        repeat' split
        all_goals first | rfl | (exfalso; omega)
  · intro k
    show s91_st0 t 1 1000000 1000000 (s91_lp0 t 1 1000000 1000000 k) _ = _
    unfold s91_st0
    rw [decide_eq_false (by omega), cond_false]
    rw [s63_eq]
  · intro k i hi
    show p91_st0 t 1 1000000 1000000 (p91_lp0 t 1 1000000 1000000 k) i = cond (decide (TRow t i)) _ _
    generalize p91_lp0 t 1 1000000 1000000 k = S
    unfold p91_st0 p91_at1 p91_at2 p91_at3
    have e0 : (i : Int).toNat = i := by omega
    have el : decide ((i : Int) < (t.len : Int)) = true := decide_eq_true (by omega)
    have e4 : decide (0 ≤ (i : Int) ∧ (i : Int) < (t.len : Int)) = true := decide_eq_true (by omega)
    by_cases h0 : 0 < i
    · have e2 : w64 ((i : Int) - 1) = ((i - 1 : Nat) : Int) := by rw [w64_id (by omega) (by omega)]; omega
      have e3 : decide (0 ≤ ((i - 1 : Nat) : Int) ∧ ((i - 1 : Nat) : Int) < (t.len : Int)) = true := decide_eq_true (by omega)
      by_cases hg : TRow t i
      all_goals
        first | rw [decide_eq_true hg] | rw [decide_eq_false hg]
        unfold TRow at hg
        simp only [s63_eq, s69_eq, s94_eq, s92, s93, e0, el, e2, Int.toNat_natCast, e3, e4, Bool.true_and, Bool.cond_decide, ← decide_not, cond_true, cond_false]
        repeat' split
        all_goals first | rfl | (exfalso; omega)
    · have : i = 0 := by omega
      subst this
      by_cases hg : TRow t 0
      all_goals
        first | rw [decide_eq_true hg] | rw [decide_eq_false hg]
        unfold TRow at hg
        simp only [s63_eq, s69_eq, s94_eq, s92, s93, e0, el, e4, Bool.true_and, Bool.cond_decide, ← decide_not, cond_true, cond_false]
        repeat' split
        all_goals first | rfl | (exfalso; omega)
  · intro k
    show p91_st0 t 1 1000000 1000000 (p91_lp0 t 1 1000000 1000000 k) _ = _
    unfold p91_st0
    rw [decide_eq_false (by omega), cond_false]
theorem s17_eq (t : Sl RangeRow) (hn : t.len ≤ 9223372036854775807) :
    p17 t = true ∧ (s17 t = true ↔ (∀ i, i < t.len → decide (TRow t i) = true) ∧ decide (1 ≤ (t.len : Int) ∧ (t.len : Int) ≤ 40) = true) := by
  refine all_loop (n := t.len) (good := fun i => decide (TRow t i)) (lpS := s17_lp0 t) (lpP := p17_lp0 t) ?_ ?_ ?_ ?_ hn
  · intro k i hi
    show s17_st0 t (s17_lp0 t k) i = cond (decide (TRow t i)) _ _
    generalize s17_lp0 t k = S
    unfold s17_st0 s17_at1
    have e0 : (i : Int).toNat = i := by omega
    have el : decide ((i : Int) < (t.len : Int)) = true := decide_eq_true (by omega)
    by_cases h0 : 0 < i
    · have e2 : w64 ((i : Int) - 1) = ((i - 1 : Nat) : Int) := by rw [w64_id (by omega) (by omega)]; omega
      by_cases hg : TRow t i
      all_goals
        first | rw [decide_eq_true hg] | rw [decide_eq_false hg]
        unfold TRow at hg
        simp only [s58_eq, s29_eq, e0, el, e2, Int.toNat_natCast, Bool.cond_decide, ← decide_not, cond_true, cond_false]
        repeat' split
        all_goals first | rfl | (exfalso; omega)
    · have : i = 0 := by omega
      subst this
      by_cases hg : TRow t 0
      all_goals
        first | rw [decide_eq_true hg] | rw [decide_eq_false hg]
        unfold TRow at hg
        simp only [s58_eq, s29_eq, e0, el, Bool.cond_decide, ← decide_not, cond_true, cond_false]
        repeat' split
        all_goals first | rfl | (exfalso; omega)
  · intro k
    show s17_st0 t (s17_lp0 t k) _ = _
    unfold s17_st0
    rw [decide_eq_false (by omega), cond_false]
    rw [s58_eq]
  · intro k i hi
    show p17_st0 t (p17_lp0 t k) i = cond (decide (TRow t i)) _ _
    generalize p17_lp0 t k = S
    unfold p17_st0 p17_at1
    have e0 : (i : Int).toNat = i := by omega
    have el : decide ((i : Int) < (t.len : Int)) = true := decide_eq_true (by omega)
    have e4 : decide (0 ≤ (i : Int) ∧ (i : Int) < (t.len : Int)) = true := decide_eq_true (by omega)
    by_cases h0 : 0 < i
    · have e2 : w64 ((i : Int) - 1) = ((i - 1 : Nat) : Int) := by rw [w64_id (by omega) (by omega)]; omega
      have e3 : decide (0 ≤ ((i - 1 : Nat) : Int) ∧ ((i - 1 : Nat) : Int) < (t.len : Int)) = true := decide_eq_true (by omega)
      by_cases hg : TRow t i
      all_goals
        first | rw [decide_eq_true hg] | rw [decide_eq_false hg]
        unfold TRow at hg
        simp only [s58_eq, s29_eq, e0, el, e2, Int.toNat_natCast, e3, e4, Bool.true_and, Bool.cond_decide, ← decide_not, cond_true, cond_false]
        repeat' split
        all_goals first | rfl | (exfalso; omega)
    · have : i = 0 := by omega
      subst this
      by_cases hg : TRow t 0
      all_goals
        first | rw [decide_eq_true hg] | rw [decide_eq_false hg]
        unfold TRow at hg
        simp only [s58_eq, s29_eq, e0, el, e4, Bool.true_and, Bool.cond_decide, ← decide_not, cond_true, cond_false]
        repeat' split
        all_goals first | rfl | (exfalso; omega)
  · intro k
    show p17_st0 t (p17_lp0 t k) _ = _
    unfold p17_st0
    rw [decide_eq_false (by omega), cond_false]
theorem s101_eq (parts : Int) (t : Sl FluxRow) (hn : t.len ≤ 9223372036854775807) :
    p101 t 1 1000000 parts = true ∧ (s101 t 1 1000000 parts = true ↔ (∀ i, i < t.len → decide (BRow parts t i) = true) ∧ decide (1 ≤ (t.len : Int) ∧ (t.len : Int) ≤ 40) = true) := by
  refine all_loop (n := t.len) (good := fun i => decide (BRow parts t i)) (lpS := s101_lp0 t 1 1000000 parts) (lpP := p101_lp0 t 1 1000000 parts) ?_ ?_ ?_ ?_ hn
  · intro k i hi
    show s101_st0 t 1 1000000 parts (s101_lp0 t 1 1000000 parts k) i = cond (decide (BRow parts t i)) _ _
    generalize s101_lp0 t 1 1000000 parts k = S
    unfold s101_st0 s101_at1 s101_at2 s101_at3
    have e0 : (i : Int).toNat = i := by omega
    have el : decide ((i : Int) < (t.len : Int)) = true := decide_eq_true (by omega)
    by_cases h0 : 0 < i
    · have e2 : w64 ((i : Int) - 1) = ((i - 1 : Nat) : Int) := by rw [w64_id (by omega) (by omega)]; omega
      by_cases hg : BRow parts t i
      all_goals
        first | rw [decide_eq_true hg] | rw [decide_eq_false hg]
        unfold BRow at hg
        simp only [s63_eq, s69_eq, s104_eq, s102, s103, e0, el, e2, Int.toNat_natCast, Bool.cond_decide, ← decide_not, cond_true, cond_false]
        repeat' split
        all_goals first | rfl | (exfalso; omega)
    · have : i = 0 := by omega
      subst this
      by_cases hg : BRow parts t 0
      all_goals
        first | rw [decide_eq_true hg] | rw [decide_eq_false hg]
        unfold BRow at hg
        simp only [s63_eq, s69_eq, s104_eq, s102, s103, e0, el, Bool.cond_decide, ← decide_not, cond_true, cond_false]
        repeat' split
        all_goals first | rfl | (exfalso; omega)
  · intro k
    show s101_st0 t 1 1000000 parts (s101_lp0 t 1 1000000 parts k) _ = _
    unfold s101_st0
    rw [decide_eq_false (by omega), cond_false]
    rw [s63_eq]
  · intro k i hi
    show p101_st0 t 1 1000000 parts (p101_lp0 t 1 1000000 parts k) i = cond (decide (BRow parts t i)) _ _
    generalize p101_lp0 t 1 1000000 parts k = S
    unfold p101_st0 p101_at1 p101_at2 p101_at3
    have e0 : (i : Int).toNat = i := by omega
    have el : decide ((i : Int) < (t.len : Int)) = true := decide_eq_true (by omega)
    have e4 : decide (0 ≤ (i : Int) ∧ (i : Int) < (t.len : Int)) = true := decide_eq_true (by omega)
    by_cases h0 : 0 < i
    · have e2 : w64 ((i : Int) - 1) = ((i - 1 : Nat) : Int) := by rw [w64_id (by omega) (by omega)]; omega
      have e3 : decide (0 ≤ ((i - 1 : Nat) : Int) ∧ ((i - 1 : Nat) : Int) < (t.len : Int)) = true := decide_eq_true (by omega)
      by_cases hg : BRow parts t i
      all_goals
        first | rw [decide_eq_true hg] | rw [decide_eq_false hg]
        unfold BRow at hg
        simp only [s63_eq, s69_eq, s104_eq, s102, s103, e0, el, e2, Int.toNat_natCast, e3, e4, Bool.true_and, Bool.cond_decide, ← decide_not, cond_true, cond_false]
        repeat' split
        all_goals first | rfl | (exfalso; omega)
    · have : i = 0 := by omega
      subst this
      by_cases hg : BRow parts t 0
      all_goals
        first | rw [decide_eq_true hg] | rw [decide_eq_false hg]
        unfold BRow at hg
        simp only [s63_eq, s69_eq, s104_eq, s102, s103, e0, el, e4, Bool.true_and, Bool.cond_decide, ← decide_not, cond_true, cond_false]
        repeat' split
        all_goals first | rfl | (exfalso; omega)
  · intro k
    show p101_st0 t 1 1000000 parts (p101_lp0 t 1 1000000 parts k) _ = _
    unfold p101_st0
    rw [decide_eq_false (by omega), cond_false]
theorem s59_eq (parts : Int) (t : Sl FluxRow) (hn : t.len ≤ 9223372036854775807) :
    p59 parts t = true ∧ (s59 parts t = true ↔ (∀ i, i < t.len → decide (BRow parts t i) = true) ∧ (cond (decide (1 ≤ (t.len : Int) ∧ (t.len : Int) ≤ 40)) ((t.get 0).Energy == (1:Int)) false) = true) := by
  refine all_loop (n := t.len) (good := fun i => decide (BRow parts t i)) (lpS := s59_lp0 parts t) (lpP := p59_lp0 parts t) ?_ ?_ ?_ ?_ hn
  · intro k i hi
    show s59_st0 parts t (s59_lp0 parts t k) i = cond (decide (BRow parts t i)) _ _
    generalize s59_lp0 parts t k = S
    unfold s59_st0 s59_at1
    have e0 : (i : Int).toNat = i := by omega
    have el : decide ((i : Int) < (t.len : Int)) = true := decide_eq_true (by omega)
    by_cases h0 : 0 < i
    · have e2 : w64 ((i : Int) - 1) = ((i - 1 : Nat) : Int) := by rw [w64_id (by omega) (by omega)]; omega
      by_cases hg : BRow parts t i
      all_goals
        first | rw [decide_eq_true hg] | rw [decide_eq_false hg]
        unfold BRow at hg
        simp only [s58_eq, s29_eq, e0, el, e2, Int.toNat_natCast, Bool.cond_decide, ← decide_not, cond_true, cond_false]
        repeat' split
        all_goals first | rfl | (exfalso; omega)
    · have : i = 0 := by omega
      subst this
      by_cases hg : BRow parts t 0
      all_goals
        first | rw [decide_eq_true hg] | rw [decide_eq_false hg]
        unfold BRow at hg
        simp only [s58_eq, s29_eq, e0, el, Bool.cond_decide, ← decide_not, cond_true, cond_false]
        repeat' split
        all_goals first | rfl | (exfalso; omega)
  · intro k
    show s59_st0 parts t (s59_lp0 parts t k) _ = _
    unfold s59_st0
    rw [decide_eq_false (by omega), cond_false]
    rw [s58_eq]
  · intro k i hi
    show p59_st0 parts t (p59_lp0 parts t k) i = cond (decide (BRow parts t i)) _ _
    generalize p59_lp0 parts t k = S
    unfold p59_st0 p59_at1
    have e0 : (i : Int).toNat = i := by omega
    have el : decide ((i : Int) < (t.len : Int)) = true := decide_eq_true (by omega)
    have e4 : decide (0 ≤ (i : Int) ∧ (i : Int) < (t.len : Int)) = true := decide_eq_true (by omega)
    by_cases h0 : 0 < i
    · have e2 : w64 ((i : Int) - 1) = ((i - 1 : Nat) : Int) := by rw [w64_id (by omega) (by omega)]; omega
      have e3 : decide (0 ≤ ((i - 1 : Nat) : Int) ∧ ((i - 1 : Nat) : Int) < (t.len : Int)) = true := decide_eq_true (by omega)
      by_cases hg : BRow parts t i
      all_goals
        first | rw [decide_eq_true hg] | rw [decide_eq_false hg]
        unfold BRow at hg
        simp only [s58_eq, s29_eq, e0, el, e2, Int.toNat_natCast, e3, e4, Bool.true_and, Bool.cond_decide, ← decide_not, cond_true, cond_false]
        repeat' split
        all_goals first | rfl | (exfalso; omega)
    · have : i = 0 := by omega
      subst this
      by_cases hg : BRow parts t 0
      all_goals
        first | rw [decide_eq_true hg] | rw [decide_eq_false hg]
        unfold BRow at hg
        simp only [s58_eq, s29_eq, e0, el, e4, Bool.true_and, Bool.cond_decide, ← decide_not, cond_true, cond_false]
        repeat' split
        all_goals first | rfl | (exfalso; omega)
  · intro k
    show p59_st0 parts t (p59_lp0 parts t k) _ = _
    unfold p59_st0
    rw [decide_eq_false (by omega), cond_false]
    rw [s58_eq]
    by_cases h : 1 ≤ (t.len : Int) ∧ (t.len : Int) ≤ 40
    · rw [decide_eq_true h, decide_eq_true (by omega)]; rfl
    · rw [decide_eq_false h]; rfl
def TOk (t : Sl RangeRow) : Prop := (1 ≤ (t.len : Int) ∧ (t.len : Int) ≤ 40) ∧ ∀ i, i < t.len → TRow t i
def BOk (parts : Int) (t : Sl FluxRow) : Prop := (1 ≤ (t.len : Int) ∧ (t.len : Int) ≤ 40) ∧ (t.get 0).Energy = 1 ∧ ∀ i, i < t.len → BRow parts t i
def SOk (s : Sky) : Prop := ((2 ≤ s.Parts ∧ s.Parts ≤ 1000000) ∧ (1 ≤ (s.Bins.len : Int) ∧ (s.Bins.len : Int) ≤ 20) ∧ (-100 ≤ s.Beta.Low ∧ s.Beta.Low ≤ s.Beta.High ∧ s.Beta.High ≤ 100) ∧ (-100 ≤ s.Alpha.Low ∧ s.Alpha.Low ≤ s.Alpha.High ∧ s.Alpha.High ≤ 100)) ∧ ∀ i, i < s.Bins.len → BOk s.Parts (s.Bins.get i)
theorem s62_ok (t : Sl RangeRow) (hn : t.len ≤ 9223372036854775807) : p62 t = true ∧ (s62 t = true ↔ TOk t) := by
  obtain ⟨h1, h2⟩ := s91_eq t hn
  unfold p62 s62 TOk
  rw [h1]
  refine ⟨rfl, h2.trans ?_⟩
  simp only [decide_eq_true_eq]
  exact And.comm
theorem s17_ok (t : Sl RangeRow) (hn : t.len ≤ 9223372036854775807) : p17 t = true ∧ s17 t = s62 t := by
  obtain ⟨h1, h2⟩ := s17_eq t hn
  refine ⟨h1, Bool.eq_iff_iff.2 (h2.trans ((s62_ok t hn).2.trans ?_).symm)⟩
  unfold TOk
  simp only [decide_eq_true_eq]
  exact And.comm
theorem s101_ok (parts : Int) (t : Sl FluxRow) (hn : t.len ≤ 9223372036854775807) : p101 t 1 1000000 parts = true ∧ ((s101 t 1 1000000 parts && (t.get 0).Energy == 1) = true ↔ BOk parts t) ∧ (s101 t 1 1000000 parts = true → 0 < t.len) := by
  obtain ⟨h1, h2⟩ := s101_eq parts t hn
  refine ⟨h1, ?_, fun h => ?_⟩
  · rw [Bool.and_eq_true, h2]
    unfold BOk
    simp only [decide_eq_true_eq, beq_iff_eq]
    exact ⟨fun h => ⟨h.1.2, h.2, h.1.1⟩, fun h => ⟨⟨h.2.2, h.1⟩, h.2.1⟩⟩
  · have := of_decide_eq_true (h2.1 h).2
    omega
theorem s59_ok (parts : Int) (t : Sl FluxRow) (hn : t.len ≤ 9223372036854775807) : p59 parts t = true ∧ (s59 parts t = true ↔ BOk parts t) := by
  obtain ⟨h1, h2⟩ := s59_eq parts t hn
  refine ⟨h1, h2.trans ?_⟩
  unfold BOk
  simp only [decide_eq_true_eq, Bool.cond_decide, Bool.if_false_right, Bool.and_eq_true, beq_iff_eq]
  exact ⟨fun h => ⟨h.2.1, h.2.2, h.1⟩, fun h => ⟨h.2.2, h.1, h.2.1⟩⟩
end Go.Proofs
