/- Part 4 of what the proof rests on: a machine that runs functions of the program on pure values, proved sound; the functions that the law reaches, and what they compute. -/
import Derived.Test.YtpjoicpmbdaniaaQ3
set_option linter.all false
namespace Go.Proofs
open Go Go.Pm
set_option maxRecDepth 100000
set_option linter.unusedVariables false
attribute [local irreducible] Go.Pm.vcFun Go.Pm.vc Go.Pm.vcIter
abbrev T105:Tabs:=Tabs.nil
theorem okT105:TabsOk Try.prog T105:=TabsOk.nil
abbrev G105:Ctrs:=csm T105 (fun _ _=>[]) (fun _=>false)
def ann105:Ann:=⟨7,[(0,⟨[2,3],[2,3],[],[],[]⟩),(1,⟨[2,3,5],[2,3,5],[],[],[]⟩),(2,⟨[4],[],[],[],[]⟩)],
  [],
  [],
  [],[]⟩
theorem f105_top (s : Sky) (w : Weather) (K : List PA → Prop) :
  vcFun Try.prog G105 ann105 105 [.agg [.int .i64 s.Parts,.sl s.Bins.len 1 (fun i=>enc_32 (s.Bins.get i)),.int .i64 s.Beta.Low,.int .i64 s.Beta.High,.int .i64 s.Alpha.Low,.int .i64 s.Alpha.High],.agg [.int .i64 w.Pressure.Low,.int .i64 w.Pressure.High,.int .i64 w.Warm.Low,.int .i64 w.Warm.High]] K =
  (K [.one (.fn 117 [] [.fp [.fn 116 [] []] 0,.fp (enc_26 s) 0,.fp (enc_54 w) 0])]):=by kernel_rfl
theorem q105 (s:Sky) (w:Weather) (K:List PA→Prop) (hk:K [.one (.fn 117 [] [.fp [.fn 116 [] []] 0,.fp (enc_26 s) 0,.fp (enc_54 w) 0])]):vcFun Try.prog G105 ann105 105 [.agg [.int .i64 s.Parts,.sl s.Bins.len 1 (fun i=>enc_32 (s.Bins.get i)),.int .i64 s.Beta.Low,.int .i64 s.Beta.High,.int .i64 s.Alpha.Low,.int .i64 s.Alpha.High],.agg [.int .i64 w.Pressure.Low,.int .i64 w.Pressure.High,.int .i64 w.Warm.Low,.int .i64 w.Warm.High]] K:=ofEq (f105_top s w K) hk
def ctr105 : List PA → COut
  | [.agg [.int .i64 a0_Parts,.sl a0_Bins_n a0_Bins_s a0_Bins_g,.int .i64 a0_Beta_Low,.int .i64 a0_Beta_High,.int .i64 a0_Alpha_Low,.int .i64 a0_Alpha_High],.agg [.int .i64 a1_Pressure_Low,.int .i64 a1_Pressure_High,.int .i64 a1_Warm_Low,.int .i64 a1_Warm_High]]=>.det (IsE enc_32 1 a0_Bins_s a0_Bins_g) [.one (.fn 117 [] [.fp [.fn 116 [] []] 0,.fp (enc_26 (⟨a0_Parts,(⟨a0_Bins_n,decF_32 a0_Bins_g⟩:(Sl (Sl FluxRow))),(⟨a0_Beta_Low,a0_Beta_High⟩:Span),(⟨a0_Alpha_Low,a0_Alpha_High⟩:Span)⟩:Sky)) 0,.fp (enc_54 (⟨(⟨a1_Pressure_Low,a1_Pressure_High⟩:Span),(⟨a1_Warm_Low,a1_Warm_High⟩:Span)⟩:Weather)) 0])]
  | _=>.no
theorem call105:Callable Try.prog 105:=⟨_,rfl,rfl,by kernel_rfl⟩
theorem ok105:Ok Try.prog 105 ctr105:=ok_tab okT105 call105 fun args K h=>by
  unfold ctr105 at h
  split at h
  · rename_i a0_Parts a0_Bins_n a0_Bins_s a0_Bins_g a0_Beta_Low a0_Beta_High a0_Alpha_Low a0_Alpha_High a1_Pressure_Low a1_Pressure_High a1_Warm_Low a1_Warm_High
    obtain ⟨⟨rfl,a0_Bins_f,rfl⟩,hk⟩:=h
    rw [decF_enc_32 a0_Bins_f] at hk
    exact ⟨fun _ _=>[],fun _=>false,ann105,q105 (⟨a0_Parts,(⟨a0_Bins_n,a0_Bins_f⟩:(Sl (Sl FluxRow))),(⟨a0_Beta_Low,a0_Beta_High⟩:Span),(⟨a0_Alpha_Low,a0_Alpha_High⟩:Span)⟩:Sky) (⟨(⟨a1_Pressure_Low,a1_Pressure_High⟩:Span),(⟨a1_Warm_Low,a1_Warm_High⟩:Span)⟩:Weather) K hk⟩
  · exact h.elim
abbrev T116:Tabs:=Tabs.nil
theorem okT116:TabsOk Try.prog T116:=TabsOk.nil
abbrev G116:Ctrs:=csm T116 (fun _ _=>[]) (fun _=>false)
def ann116:Ann:=⟨8,[(0,⟨[1,2],[1,2],[],[],[]⟩),(1,⟨[2],[2],[],[],[]⟩)],
  [],
  [],
  [],[]⟩
theorem f116_top (s : Span) (K : List PA → Prop) :
  vcFun Try.prog G116 ann116 116 [.agg [.int .i64 s.Low,.int .i64 s.High]] K =
  (K [.agg [.int .i64 s.Low,.int .i64 s.High]]):=by kernel_rfl
abbrev e116 (r:(Int×Int)):List PA:=[.agg [.int .i64 r.1,.int .i64 r.2]]
def s116 (s:Span):(Int×Int) :=
  (s.Low,s.High)
theorem q116 (s:Span) (K:List PA→Prop) (hk:K (e116 (s116 s))):vcFun Try.prog G116 ann116 116 [.agg [.int .i64 s.Low,.int .i64 s.High]] K:=by
  refine ofEq (f116_top s K) ?_
  unfold s116 at hk
  exact hk
def ctr116 : List PA → COut
  | [.agg [.int .i64 a0_Low,.int .i64 a0_High]]=>.tot [.agg [.int .i64 ((s116 (⟨a0_Low,a0_High⟩:Span)).1),.int .i64 ((s116 (⟨a0_Low,a0_High⟩:Span)).2)]]
  | _=>.no
theorem call116:Callable Try.prog 116:=⟨_,rfl,rfl,by kernel_rfl⟩
theorem ok116:Ok Try.prog 116 ctr116:=ok_tab okT116 call116 fun args K h=>by
  unfold ctr116 at h
  split at h
  · rename_i a0_Low a0_High
    have hk:=h
    exact ⟨(fun _ _=>[]),(fun _=>false),ann116,q116 (⟨a0_Low,a0_High⟩:Span) K hk⟩
  · exact h.elim
abbrev T117:Tabs:=(Tabs.nil.addF 116 ctr116)
theorem okT117:TabsOk Try.prog T117:=(TabsOk.nil.addF ok116)
abbrev G117:Ctrs:=csm T117 (fun _ _=>[]) (fun _=>false)
def ann117:Ann:=⟨57,[(0,⟨[0,1,2,3,16,17],[],[],[],[]⟩),(1,⟨[0,1,2,3,16,17,18],[],[],[],[]⟩),(2,⟨[0,1,2,3,6,16,17],[],[],[],[]⟩),(3,⟨[0,1,2,3,6,16,17,23,24],[],[],[],[]⟩),(4,⟨[0,1,2,3,6,16,17,23,24,25],[],[],[],[]⟩),(5,⟨[0,1,2,3,6,8,16,17,23,24],[],[],[],[]⟩),(6,⟨[0,1,2,3,6,8,16,17,23,24,30,31],[],[],[],[]⟩),(7,⟨[0,1,2,3,6,8,16,17,23,24,30,31,32],[],[],[],[]⟩),(8,⟨[0,1,2,3,6,8,10,16,17,23,24,30,31],[],[],[],[]⟩),(9,⟨[0,1,2,3,6,8,10,16,17,23,24,30,31,37,38],[],[],[],[]⟩),(10,⟨[0,1,2,3,6,8,10,16,17,23,24,30,31,37,38,39],[],[],[],[]⟩),(11,⟨[0,1,2,3,6,8,10,12,16,17,23,24,30,31,37,38],[],[],[],[]⟩),(12,⟨[0,1,2,3,6,8,10,16,17,23,24,30,31,37,38,52],[],[],[],[]⟩),(13,⟨[0,1,2,3,6,8,10,16,17,23,24,30,31,37,38],[],[],[],[]⟩),(14,⟨[0,1,2,3,6,8,16,17,23,24,30,31],[],[],[],[]⟩),(15,⟨[0,1,2,3,6,16,17,23,24],[],[],[],[]⟩),(16,⟨[0,1,2,3,16,17],[],[],[],[]⟩)],
  [],
  [],
  [(1,3,⟨[0,1,2,3,16,17],[],[],[],[]⟩),(4,3,⟨[0,1,2,3,6,16,17,23,24],[],[],[],[]⟩),(7,3,⟨[0,1,2,3,6,8,16,17,23,24,30,31],[],[],[],[]⟩),(10,3,⟨[0,1,2,3,6,8,10,16,17,23,24,30,31,37,38],[],[],[],[]⟩)],[12]⟩
theorem f117_top (l : Nat) (a_Parts : Int) (a_Bins_n a_s : Nat) (a_g : Nat → List PV) (a_Beta_Low a_Beta_High a_Alpha_Low a_Alpha_High b_Pressure_Low b_Pressure_High b_Warm_Low b_Warm_High : Int) (ys : List (List PA)) :
  vcIter Try.prog G117 ann117 117 l [.one (.fp [.fn 116 [] []] 0),.one (.fp [.int .i64 a_Parts,.sl a_Bins_n a_s a_g,.int .i64 a_Beta_Low,.int .i64 a_Beta_High,.int .i64 a_Alpha_Low,.int .i64 a_Alpha_High] 0),.one (.fp [.int .i64 b_Pressure_Low,.int .i64 b_Pressure_High,.int .i64 b_Warm_Low,.int .i64 b_Warm_High] 0)] ys =
  (l=l∧∃ r1,ys=[.one (.int .i64 (if (w64 ((w64 ((1000:Int) - (w64 ((s116 (⟨a_Beta_Low,a_Beta_High⟩:Span)).1 * (s116 (⟨b_Pressure_Low,b_Pressure_High⟩:Span)).1))))+(w64 ((s116 (⟨a_Alpha_Low,a_Alpha_High⟩:Span)).1 * (s116 (⟨b_Warm_Low,b_Warm_High⟩:Span)).1)))) > (0:Int) then (w64 ((w64 ((1000:Int) - (w64 ((s116 (⟨a_Beta_Low,a_Beta_High⟩:Span)).1 * (s116 (⟨b_Pressure_Low,b_Pressure_High⟩:Span)).1))))+(w64 ((s116 (⟨a_Alpha_Low,a_Alpha_High⟩:Span)).1 * (s116 (⟨b_Warm_Low,b_Warm_High⟩:Span)).1)))) else (0:Int)))] :: r1 ∧
  (l=l∧∃ r2,r1=[.one (.int .i64 (if (w64 ((w64 ((1000:Int) - (w64 ((s116 (⟨a_Beta_Low,a_Beta_High⟩:Span)).1 * (s116 (⟨b_Pressure_Low,b_Pressure_High⟩:Span)).1))))+(w64 ((s116 (⟨a_Alpha_Low,a_Alpha_High⟩:Span)).1 * (s116 (⟨b_Warm_Low,b_Warm_High⟩:Span)).2)))) > (0:Int) then (w64 ((w64 ((1000:Int) - (w64 ((s116 (⟨a_Beta_Low,a_Beta_High⟩:Span)).1 * (s116 (⟨b_Pressure_Low,b_Pressure_High⟩:Span)).1))))+(w64 ((s116 (⟨a_Alpha_Low,a_Alpha_High⟩:Span)).1 * (s116 (⟨b_Warm_Low,b_Warm_High⟩:Span)).2)))) else (0:Int)))] :: r2 ∧
  (l=l∧∃ r3,r2=[.one (.int .i64 (if (w64 ((w64 ((1000:Int) - (w64 ((s116 (⟨a_Beta_Low,a_Beta_High⟩:Span)).1 * (s116 (⟨b_Pressure_Low,b_Pressure_High⟩:Span)).1))))+(w64 ((s116 (⟨a_Alpha_Low,a_Alpha_High⟩:Span)).2 * (s116 (⟨b_Warm_Low,b_Warm_High⟩:Span)).1)))) > (0:Int) then (w64 ((w64 ((1000:Int) - (w64 ((s116 (⟨a_Beta_Low,a_Beta_High⟩:Span)).1 * (s116 (⟨b_Pressure_Low,b_Pressure_High⟩:Span)).1))))+(w64 ((s116 (⟨a_Alpha_Low,a_Alpha_High⟩:Span)).2 * (s116 (⟨b_Warm_Low,b_Warm_High⟩:Span)).1)))) else (0:Int)))] :: r3 ∧
  (l=l∧∃ r4,r3=[.one (.int .i64 (if (w64 ((w64 ((1000:Int) - (w64 ((s116 (⟨a_Beta_Low,a_Beta_High⟩:Span)).1 * (s116 (⟨b_Pressure_Low,b_Pressure_High⟩:Span)).1))))+(w64 ((s116 (⟨a_Alpha_Low,a_Alpha_High⟩:Span)).2 * (s116 (⟨b_Warm_Low,b_Warm_High⟩:Span)).2)))) > (0:Int) then (w64 ((w64 ((1000:Int) - (w64 ((s116 (⟨a_Beta_Low,a_Beta_High⟩:Span)).1 * (s116 (⟨b_Pressure_Low,b_Pressure_High⟩:Span)).1))))+(w64 ((s116 (⟨a_Alpha_Low,a_Alpha_High⟩:Span)).2 * (s116 (⟨b_Warm_Low,b_Warm_High⟩:Span)).2)))) else (0:Int)))] :: r4 ∧
  (l=l∧∃ r5,r4=[.one (.int .i64 (if (w64 ((w64 ((1000:Int) - (w64 ((s116 (⟨a_Beta_Low,a_Beta_High⟩:Span)).1 * (s116 (⟨b_Pressure_Low,b_Pressure_High⟩:Span)).2))))+(w64 ((s116 (⟨a_Alpha_Low,a_Alpha_High⟩:Span)).1 * (s116 (⟨b_Warm_Low,b_Warm_High⟩:Span)).1)))) > (0:Int) then (w64 ((w64 ((1000:Int) - (w64 ((s116 (⟨a_Beta_Low,a_Beta_High⟩:Span)).1 * (s116 (⟨b_Pressure_Low,b_Pressure_High⟩:Span)).2))))+(w64 ((s116 (⟨a_Alpha_Low,a_Alpha_High⟩:Span)).1 * (s116 (⟨b_Warm_Low,b_Warm_High⟩:Span)).1)))) else (0:Int)))] :: r5 ∧
  (l=l∧∃ r6,r5=[.one (.int .i64 (if (w64 ((w64 ((1000:Int) - (w64 ((s116 (⟨a_Beta_Low,a_Beta_High⟩:Span)).1 * (s116 (⟨b_Pressure_Low,b_Pressure_High⟩:Span)).2))))+(w64 ((s116 (⟨a_Alpha_Low,a_Alpha_High⟩:Span)).1 * (s116 (⟨b_Warm_Low,b_Warm_High⟩:Span)).2)))) > (0:Int) then (w64 ((w64 ((1000:Int) - (w64 ((s116 (⟨a_Beta_Low,a_Beta_High⟩:Span)).1 * (s116 (⟨b_Pressure_Low,b_Pressure_High⟩:Span)).2))))+(w64 ((s116 (⟨a_Alpha_Low,a_Alpha_High⟩:Span)).1 * (s116 (⟨b_Warm_Low,b_Warm_High⟩:Span)).2)))) else (0:Int)))] :: r6 ∧
  (l=l∧∃ r7,r6=[.one (.int .i64 (if (w64 ((w64 ((1000:Int) - (w64 ((s116 (⟨a_Beta_Low,a_Beta_High⟩:Span)).1 * (s116 (⟨b_Pressure_Low,b_Pressure_High⟩:Span)).2))))+(w64 ((s116 (⟨a_Alpha_Low,a_Alpha_High⟩:Span)).2 * (s116 (⟨b_Warm_Low,b_Warm_High⟩:Span)).1)))) > (0:Int) then (w64 ((w64 ((1000:Int) - (w64 ((s116 (⟨a_Beta_Low,a_Beta_High⟩:Span)).1 * (s116 (⟨b_Pressure_Low,b_Pressure_High⟩:Span)).2))))+(w64 ((s116 (⟨a_Alpha_Low,a_Alpha_High⟩:Span)).2 * (s116 (⟨b_Warm_Low,b_Warm_High⟩:Span)).1)))) else (0:Int)))] :: r7 ∧
  (l=l∧∃ r8,r7=[.one (.int .i64 (if (w64 ((w64 ((1000:Int) - (w64 ((s116 (⟨a_Beta_Low,a_Beta_High⟩:Span)).1 * (s116 (⟨b_Pressure_Low,b_Pressure_High⟩:Span)).2))))+(w64 ((s116 (⟨a_Alpha_Low,a_Alpha_High⟩:Span)).2 * (s116 (⟨b_Warm_Low,b_Warm_High⟩:Span)).2)))) > (0:Int) then (w64 ((w64 ((1000:Int) - (w64 ((s116 (⟨a_Beta_Low,a_Beta_High⟩:Span)).1 * (s116 (⟨b_Pressure_Low,b_Pressure_High⟩:Span)).2))))+(w64 ((s116 (⟨a_Alpha_Low,a_Alpha_High⟩:Span)).2 * (s116 (⟨b_Warm_Low,b_Warm_High⟩:Span)).2)))) else (0:Int)))] :: r8 ∧
  (l=l∧∃ r9,r8=[.one (.int .i64 (if (w64 ((w64 ((1000:Int) - (w64 ((s116 (⟨a_Beta_Low,a_Beta_High⟩:Span)).2 * (s116 (⟨b_Pressure_Low,b_Pressure_High⟩:Span)).1))))+(w64 ((s116 (⟨a_Alpha_Low,a_Alpha_High⟩:Span)).1 * (s116 (⟨b_Warm_Low,b_Warm_High⟩:Span)).1)))) > (0:Int) then (w64 ((w64 ((1000:Int) - (w64 ((s116 (⟨a_Beta_Low,a_Beta_High⟩:Span)).2 * (s116 (⟨b_Pressure_Low,b_Pressure_High⟩:Span)).1))))+(w64 ((s116 (⟨a_Alpha_Low,a_Alpha_High⟩:Span)).1 * (s116 (⟨b_Warm_Low,b_Warm_High⟩:Span)).1)))) else (0:Int)))] :: r9 ∧
  (l=l∧∃ r10,r9=[.one (.int .i64 (if (w64 ((w64 ((1000:Int) - (w64 ((s116 (⟨a_Beta_Low,a_Beta_High⟩:Span)).2 * (s116 (⟨b_Pressure_Low,b_Pressure_High⟩:Span)).1))))+(w64 ((s116 (⟨a_Alpha_Low,a_Alpha_High⟩:Span)).1 * (s116 (⟨b_Warm_Low,b_Warm_High⟩:Span)).2)))) > (0:Int) then (w64 ((w64 ((1000:Int) - (w64 ((s116 (⟨a_Beta_Low,a_Beta_High⟩:Span)).2 * (s116 (⟨b_Pressure_Low,b_Pressure_High⟩:Span)).1))))+(w64 ((s116 (⟨a_Alpha_Low,a_Alpha_High⟩:Span)).1 * (s116 (⟨b_Warm_Low,b_Warm_High⟩:Span)).2)))) else (0:Int)))] :: r10 ∧
  (l=l∧∃ r11,r10=[.one (.int .i64 (if (w64 ((w64 ((1000:Int) - (w64 ((s116 (⟨a_Beta_Low,a_Beta_High⟩:Span)).2 * (s116 (⟨b_Pressure_Low,b_Pressure_High⟩:Span)).1))))+(w64 ((s116 (⟨a_Alpha_Low,a_Alpha_High⟩:Span)).2 * (s116 (⟨b_Warm_Low,b_Warm_High⟩:Span)).1)))) > (0:Int) then (w64 ((w64 ((1000:Int) - (w64 ((s116 (⟨a_Beta_Low,a_Beta_High⟩:Span)).2 * (s116 (⟨b_Pressure_Low,b_Pressure_High⟩:Span)).1))))+(w64 ((s116 (⟨a_Alpha_Low,a_Alpha_High⟩:Span)).2 * (s116 (⟨b_Warm_Low,b_Warm_High⟩:Span)).1)))) else (0:Int)))] :: r11 ∧
  (l=l∧∃ r12,r11=[.one (.int .i64 (if (w64 ((w64 ((1000:Int) - (w64 ((s116 (⟨a_Beta_Low,a_Beta_High⟩:Span)).2 * (s116 (⟨b_Pressure_Low,b_Pressure_High⟩:Span)).1))))+(w64 ((s116 (⟨a_Alpha_Low,a_Alpha_High⟩:Span)).2 * (s116 (⟨b_Warm_Low,b_Warm_High⟩:Span)).2)))) > (0:Int) then (w64 ((w64 ((1000:Int) - (w64 ((s116 (⟨a_Beta_Low,a_Beta_High⟩:Span)).2 * (s116 (⟨b_Pressure_Low,b_Pressure_High⟩:Span)).1))))+(w64 ((s116 (⟨a_Alpha_Low,a_Alpha_High⟩:Span)).2 * (s116 (⟨b_Warm_Low,b_Warm_High⟩:Span)).2)))) else (0:Int)))] :: r12 ∧
  (l=l∧∃ r13,r12=[.one (.int .i64 (if (w64 ((w64 ((1000:Int) - (w64 ((s116 (⟨a_Beta_Low,a_Beta_High⟩:Span)).2 * (s116 (⟨b_Pressure_Low,b_Pressure_High⟩:Span)).2))))+(w64 ((s116 (⟨a_Alpha_Low,a_Alpha_High⟩:Span)).1 * (s116 (⟨b_Warm_Low,b_Warm_High⟩:Span)).1)))) > (0:Int) then (w64 ((w64 ((1000:Int) - (w64 ((s116 (⟨a_Beta_Low,a_Beta_High⟩:Span)).2 * (s116 (⟨b_Pressure_Low,b_Pressure_High⟩:Span)).2))))+(w64 ((s116 (⟨a_Alpha_Low,a_Alpha_High⟩:Span)).1 * (s116 (⟨b_Warm_Low,b_Warm_High⟩:Span)).1)))) else (0:Int)))] :: r13 ∧
  (l=l∧∃ r14,r13=[.one (.int .i64 (if (w64 ((w64 ((1000:Int) - (w64 ((s116 (⟨a_Beta_Low,a_Beta_High⟩:Span)).2 * (s116 (⟨b_Pressure_Low,b_Pressure_High⟩:Span)).2))))+(w64 ((s116 (⟨a_Alpha_Low,a_Alpha_High⟩:Span)).1 * (s116 (⟨b_Warm_Low,b_Warm_High⟩:Span)).2)))) > (0:Int) then (w64 ((w64 ((1000:Int) - (w64 ((s116 (⟨a_Beta_Low,a_Beta_High⟩:Span)).2 * (s116 (⟨b_Pressure_Low,b_Pressure_High⟩:Span)).2))))+(w64 ((s116 (⟨a_Alpha_Low,a_Alpha_High⟩:Span)).1 * (s116 (⟨b_Warm_Low,b_Warm_High⟩:Span)).2)))) else (0:Int)))] :: r14 ∧
  (l=l∧∃ r15,r14=[.one (.int .i64 (if (w64 ((w64 ((1000:Int) - (w64 ((s116 (⟨a_Beta_Low,a_Beta_High⟩:Span)).2 * (s116 (⟨b_Pressure_Low,b_Pressure_High⟩:Span)).2))))+(w64 ((s116 (⟨a_Alpha_Low,a_Alpha_High⟩:Span)).2 * (s116 (⟨b_Warm_Low,b_Warm_High⟩:Span)).1)))) > (0:Int) then (w64 ((w64 ((1000:Int) - (w64 ((s116 (⟨a_Beta_Low,a_Beta_High⟩:Span)).2 * (s116 (⟨b_Pressure_Low,b_Pressure_High⟩:Span)).2))))+(w64 ((s116 (⟨a_Alpha_Low,a_Alpha_High⟩:Span)).2 * (s116 (⟨b_Warm_Low,b_Warm_High⟩:Span)).1)))) else (0:Int)))] :: r15 ∧
  (l=l∧∃ r16,r15=[.one (.int .i64 (if (w64 ((w64 ((1000:Int) - (w64 ((s116 (⟨a_Beta_Low,a_Beta_High⟩:Span)).2 * (s116 (⟨b_Pressure_Low,b_Pressure_High⟩:Span)).2))))+(w64 ((s116 (⟨a_Alpha_Low,a_Alpha_High⟩:Span)).2 * (s116 (⟨b_Warm_Low,b_Warm_High⟩:Span)).2)))) > (0:Int) then (w64 ((w64 ((1000:Int) - (w64 ((s116 (⟨a_Beta_Low,a_Beta_High⟩:Span)).2 * (s116 (⟨b_Pressure_Low,b_Pressure_High⟩:Span)).2))))+(w64 ((s116 (⟨a_Alpha_Low,a_Alpha_High⟩:Span)).2 * (s116 (⟨b_Warm_Low,b_Warm_High⟩:Span)).2)))) else (0:Int)))] :: r16 ∧
  r16=[]∧True)∧True)∧True)∧True)∧True)∧True)∧True)∧True)∧True)∧True)∧True)∧True)∧True)∧True)∧True)∧True):=by kernel_rfl
def ys117 (s:Sky) (w:Weather):List Int:=[(if (w64 ((w64 ((1000:Int) - (w64 ((s116 (⟨s.Beta.Low,s.Beta.High⟩:Span)).1 * (s116 (⟨w.Pressure.Low,w.Pressure.High⟩:Span)).1))))+(w64 ((s116 (⟨s.Alpha.Low,s.Alpha.High⟩:Span)).1 * (s116 (⟨w.Warm.Low,w.Warm.High⟩:Span)).1)))) > (0:Int) then (w64 ((w64 ((1000:Int) - (w64 ((s116 (⟨s.Beta.Low,s.Beta.High⟩:Span)).1 * (s116 (⟨w.Pressure.Low,w.Pressure.High⟩:Span)).1))))+(w64 ((s116 (⟨s.Alpha.Low,s.Alpha.High⟩:Span)).1 * (s116 (⟨w.Warm.Low,w.Warm.High⟩:Span)).1)))) else (0:Int)),
  (if (w64 ((w64 ((1000:Int) - (w64 ((s116 (⟨s.Beta.Low,s.Beta.High⟩:Span)).1 * (s116 (⟨w.Pressure.Low,w.Pressure.High⟩:Span)).1))))+(w64 ((s116 (⟨s.Alpha.Low,s.Alpha.High⟩:Span)).1 * (s116 (⟨w.Warm.Low,w.Warm.High⟩:Span)).2)))) > (0:Int) then (w64 ((w64 ((1000:Int) - (w64 ((s116 (⟨s.Beta.Low,s.Beta.High⟩:Span)).1 * (s116 (⟨w.Pressure.Low,w.Pressure.High⟩:Span)).1))))+(w64 ((s116 (⟨s.Alpha.Low,s.Alpha.High⟩:Span)).1 * (s116 (⟨w.Warm.Low,w.Warm.High⟩:Span)).2)))) else (0:Int)),
  (if (w64 ((w64 ((1000:Int) - (w64 ((s116 (⟨s.Beta.Low,s.Beta.High⟩:Span)).1 * (s116 (⟨w.Pressure.Low,w.Pressure.High⟩:Span)).1))))+(w64 ((s116 (⟨s.Alpha.Low,s.Alpha.High⟩:Span)).2 * (s116 (⟨w.Warm.Low,w.Warm.High⟩:Span)).1)))) > (0:Int) then (w64 ((w64 ((1000:Int) - (w64 ((s116 (⟨s.Beta.Low,s.Beta.High⟩:Span)).1 * (s116 (⟨w.Pressure.Low,w.Pressure.High⟩:Span)).1))))+(w64 ((s116 (⟨s.Alpha.Low,s.Alpha.High⟩:Span)).2 * (s116 (⟨w.Warm.Low,w.Warm.High⟩:Span)).1)))) else (0:Int)),
  (if (w64 ((w64 ((1000:Int) - (w64 ((s116 (⟨s.Beta.Low,s.Beta.High⟩:Span)).1 * (s116 (⟨w.Pressure.Low,w.Pressure.High⟩:Span)).1))))+(w64 ((s116 (⟨s.Alpha.Low,s.Alpha.High⟩:Span)).2 * (s116 (⟨w.Warm.Low,w.Warm.High⟩:Span)).2)))) > (0:Int) then (w64 ((w64 ((1000:Int) - (w64 ((s116 (⟨s.Beta.Low,s.Beta.High⟩:Span)).1 * (s116 (⟨w.Pressure.Low,w.Pressure.High⟩:Span)).1))))+(w64 ((s116 (⟨s.Alpha.Low,s.Alpha.High⟩:Span)).2 * (s116 (⟨w.Warm.Low,w.Warm.High⟩:Span)).2)))) else (0:Int)),
  (if (w64 ((w64 ((1000:Int) - (w64 ((s116 (⟨s.Beta.Low,s.Beta.High⟩:Span)).1 * (s116 (⟨w.Pressure.Low,w.Pressure.High⟩:Span)).2))))+(w64 ((s116 (⟨s.Alpha.Low,s.Alpha.High⟩:Span)).1 * (s116 (⟨w.Warm.Low,w.Warm.High⟩:Span)).1)))) > (0:Int) then (w64 ((w64 ((1000:Int) - (w64 ((s116 (⟨s.Beta.Low,s.Beta.High⟩:Span)).1 * (s116 (⟨w.Pressure.Low,w.Pressure.High⟩:Span)).2))))+(w64 ((s116 (⟨s.Alpha.Low,s.Alpha.High⟩:Span)).1 * (s116 (⟨w.Warm.Low,w.Warm.High⟩:Span)).1)))) else (0:Int)),
  (if (w64 ((w64 ((1000:Int) - (w64 ((s116 (⟨s.Beta.Low,s.Beta.High⟩:Span)).1 * (s116 (⟨w.Pressure.Low,w.Pressure.High⟩:Span)).2))))+(w64 ((s116 (⟨s.Alpha.Low,s.Alpha.High⟩:Span)).1 * (s116 (⟨w.Warm.Low,w.Warm.High⟩:Span)).2)))) > (0:Int) then (w64 ((w64 ((1000:Int) - (w64 ((s116 (⟨s.Beta.Low,s.Beta.High⟩:Span)).1 * (s116 (⟨w.Pressure.Low,w.Pressure.High⟩:Span)).2))))+(w64 ((s116 (⟨s.Alpha.Low,s.Alpha.High⟩:Span)).1 * (s116 (⟨w.Warm.Low,w.Warm.High⟩:Span)).2)))) else (0:Int)),
  (if (w64 ((w64 ((1000:Int) - (w64 ((s116 (⟨s.Beta.Low,s.Beta.High⟩:Span)).1 * (s116 (⟨w.Pressure.Low,w.Pressure.High⟩:Span)).2))))+(w64 ((s116 (⟨s.Alpha.Low,s.Alpha.High⟩:Span)).2 * (s116 (⟨w.Warm.Low,w.Warm.High⟩:Span)).1)))) > (0:Int) then (w64 ((w64 ((1000:Int) - (w64 ((s116 (⟨s.Beta.Low,s.Beta.High⟩:Span)).1 * (s116 (⟨w.Pressure.Low,w.Pressure.High⟩:Span)).2))))+(w64 ((s116 (⟨s.Alpha.Low,s.Alpha.High⟩:Span)).2 * (s116 (⟨w.Warm.Low,w.Warm.High⟩:Span)).1)))) else (0:Int)),
  (if (w64 ((w64 ((1000:Int) - (w64 ((s116 (⟨s.Beta.Low,s.Beta.High⟩:Span)).1 * (s116 (⟨w.Pressure.Low,w.Pressure.High⟩:Span)).2))))+(w64 ((s116 (⟨s.Alpha.Low,s.Alpha.High⟩:Span)).2 * (s116 (⟨w.Warm.Low,w.Warm.High⟩:Span)).2)))) > (0:Int) then (w64 ((w64 ((1000:Int) - (w64 ((s116 (⟨s.Beta.Low,s.Beta.High⟩:Span)).1 * (s116 (⟨w.Pressure.Low,w.Pressure.High⟩:Span)).2))))+(w64 ((s116 (⟨s.Alpha.Low,s.Alpha.High⟩:Span)).2 * (s116 (⟨w.Warm.Low,w.Warm.High⟩:Span)).2)))) else (0:Int)),
  (if (w64 ((w64 ((1000:Int) - (w64 ((s116 (⟨s.Beta.Low,s.Beta.High⟩:Span)).2 * (s116 (⟨w.Pressure.Low,w.Pressure.High⟩:Span)).1))))+(w64 ((s116 (⟨s.Alpha.Low,s.Alpha.High⟩:Span)).1 * (s116 (⟨w.Warm.Low,w.Warm.High⟩:Span)).1)))) > (0:Int) then (w64 ((w64 ((1000:Int) - (w64 ((s116 (⟨s.Beta.Low,s.Beta.High⟩:Span)).2 * (s116 (⟨w.Pressure.Low,w.Pressure.High⟩:Span)).1))))+(w64 ((s116 (⟨s.Alpha.Low,s.Alpha.High⟩:Span)).1 * (s116 (⟨w.Warm.Low,w.Warm.High⟩:Span)).1)))) else (0:Int)),
  (if (w64 ((w64 ((1000:Int) - (w64 ((s116 (⟨s.Beta.Low,s.Beta.High⟩:Span)).2 * (s116 (⟨w.Pressure.Low,w.Pressure.High⟩:Span)).1))))+(w64 ((s116 (⟨s.Alpha.Low,s.Alpha.High⟩:Span)).1 * (s116 (⟨w.Warm.Low,w.Warm.High⟩:Span)).2)))) > (0:Int) then (w64 ((w64 ((1000:Int) - (w64 ((s116 (⟨s.Beta.Low,s.Beta.High⟩:Span)).2 * (s116 (⟨w.Pressure.Low,w.Pressure.High⟩:Span)).1))))+(w64 ((s116 (⟨s.Alpha.Low,s.Alpha.High⟩:Span)).1 * (s116 (⟨w.Warm.Low,w.Warm.High⟩:Span)).2)))) else (0:Int)),
  (if (w64 ((w64 ((1000:Int) - (w64 ((s116 (⟨s.Beta.Low,s.Beta.High⟩:Span)).2 * (s116 (⟨w.Pressure.Low,w.Pressure.High⟩:Span)).1))))+(w64 ((s116 (⟨s.Alpha.Low,s.Alpha.High⟩:Span)).2 * (s116 (⟨w.Warm.Low,w.Warm.High⟩:Span)).1)))) > (0:Int) then (w64 ((w64 ((1000:Int) - (w64 ((s116 (⟨s.Beta.Low,s.Beta.High⟩:Span)).2 * (s116 (⟨w.Pressure.Low,w.Pressure.High⟩:Span)).1))))+(w64 ((s116 (⟨s.Alpha.Low,s.Alpha.High⟩:Span)).2 * (s116 (⟨w.Warm.Low,w.Warm.High⟩:Span)).1)))) else (0:Int)),
  (if (w64 ((w64 ((1000:Int) - (w64 ((s116 (⟨s.Beta.Low,s.Beta.High⟩:Span)).2 * (s116 (⟨w.Pressure.Low,w.Pressure.High⟩:Span)).1))))+(w64 ((s116 (⟨s.Alpha.Low,s.Alpha.High⟩:Span)).2 * (s116 (⟨w.Warm.Low,w.Warm.High⟩:Span)).2)))) > (0:Int) then (w64 ((w64 ((1000:Int) - (w64 ((s116 (⟨s.Beta.Low,s.Beta.High⟩:Span)).2 * (s116 (⟨w.Pressure.Low,w.Pressure.High⟩:Span)).1))))+(w64 ((s116 (⟨s.Alpha.Low,s.Alpha.High⟩:Span)).2 * (s116 (⟨w.Warm.Low,w.Warm.High⟩:Span)).2)))) else (0:Int)),
  (if (w64 ((w64 ((1000:Int) - (w64 ((s116 (⟨s.Beta.Low,s.Beta.High⟩:Span)).2 * (s116 (⟨w.Pressure.Low,w.Pressure.High⟩:Span)).2))))+(w64 ((s116 (⟨s.Alpha.Low,s.Alpha.High⟩:Span)).1 * (s116 (⟨w.Warm.Low,w.Warm.High⟩:Span)).1)))) > (0:Int) then (w64 ((w64 ((1000:Int) - (w64 ((s116 (⟨s.Beta.Low,s.Beta.High⟩:Span)).2 * (s116 (⟨w.Pressure.Low,w.Pressure.High⟩:Span)).2))))+(w64 ((s116 (⟨s.Alpha.Low,s.Alpha.High⟩:Span)).1 * (s116 (⟨w.Warm.Low,w.Warm.High⟩:Span)).1)))) else (0:Int)),
  (if (w64 ((w64 ((1000:Int) - (w64 ((s116 (⟨s.Beta.Low,s.Beta.High⟩:Span)).2 * (s116 (⟨w.Pressure.Low,w.Pressure.High⟩:Span)).2))))+(w64 ((s116 (⟨s.Alpha.Low,s.Alpha.High⟩:Span)).1 * (s116 (⟨w.Warm.Low,w.Warm.High⟩:Span)).2)))) > (0:Int) then (w64 ((w64 ((1000:Int) - (w64 ((s116 (⟨s.Beta.Low,s.Beta.High⟩:Span)).2 * (s116 (⟨w.Pressure.Low,w.Pressure.High⟩:Span)).2))))+(w64 ((s116 (⟨s.Alpha.Low,s.Alpha.High⟩:Span)).1 * (s116 (⟨w.Warm.Low,w.Warm.High⟩:Span)).2)))) else (0:Int)),
  (if (w64 ((w64 ((1000:Int) - (w64 ((s116 (⟨s.Beta.Low,s.Beta.High⟩:Span)).2 * (s116 (⟨w.Pressure.Low,w.Pressure.High⟩:Span)).2))))+(w64 ((s116 (⟨s.Alpha.Low,s.Alpha.High⟩:Span)).2 * (s116 (⟨w.Warm.Low,w.Warm.High⟩:Span)).1)))) > (0:Int) then (w64 ((w64 ((1000:Int) - (w64 ((s116 (⟨s.Beta.Low,s.Beta.High⟩:Span)).2 * (s116 (⟨w.Pressure.Low,w.Pressure.High⟩:Span)).2))))+(w64 ((s116 (⟨s.Alpha.Low,s.Alpha.High⟩:Span)).2 * (s116 (⟨w.Warm.Low,w.Warm.High⟩:Span)).1)))) else (0:Int)),
  (if (w64 ((w64 ((1000:Int) - (w64 ((s116 (⟨s.Beta.Low,s.Beta.High⟩:Span)).2 * (s116 (⟨w.Pressure.Low,w.Pressure.High⟩:Span)).2))))+(w64 ((s116 (⟨s.Alpha.Low,s.Alpha.High⟩:Span)).2 * (s116 (⟨w.Warm.Low,w.Warm.High⟩:Span)).2)))) > (0:Int) then (w64 ((w64 ((1000:Int) - (w64 ((s116 (⟨s.Beta.Low,s.Beta.High⟩:Span)).2 * (s116 (⟨w.Pressure.Low,w.Pressure.High⟩:Span)).2))))+(w64 ((s116 (⟨s.Alpha.Low,s.Alpha.High⟩:Span)).2 * (s116 (⟨w.Warm.Low,w.Warm.High⟩:Span)).2)))) else (0:Int))]
def it117 : List PA → Option (List (List PA))
  | [.one (.fp [.fn 116 [] []] 0),.one (.fp [.int .i64 a_Parts,.sl a_Bins_n a_s a_g,.int .i64 a_Beta_Low,.int .i64 a_Beta_High,.int .i64 a_Alpha_Low,.int .i64 a_Alpha_High] 0),.one (.fp [.int .i64 b_Pressure_Low,.int .i64 b_Pressure_High,.int .i64 b_Warm_Low,.int .i64 b_Warm_High] 0)]=>some ((ys117 (⟨a_Parts,⟨a_Bins_n,decF_32 a_g⟩,⟨a_Beta_Low,a_Beta_High⟩,⟨a_Alpha_Low,a_Alpha_High⟩⟩:Sky) (⟨⟨b_Pressure_Low,b_Pressure_High⟩,⟨b_Warm_Low,b_Warm_High⟩⟩:Weather)).map fun y=>[.one (.int .i64 y)])
  | _=>none
theorem it16 (l:Nat) (y1 y2 y3 y4 y5 y6 y7 y8 y9 y10 y11 y12 y13 y14 y15 y16:List PA):(l=l∧∃ r1,[y1,y2,y3,y4,y5,y6,y7,y8,y9,y10,y11,y12,y13,y14,y15,y16]=y1 :: r1∧(l=l∧∃ r2,r1=y2 :: r2∧(l=l∧∃ r3,r2=y3 :: r3∧(l=l∧∃ r4,r3=y4 :: r4∧(l=l∧∃ r5,r4=y5 :: r5∧(l=l∧∃ r6,r5=y6 :: r6∧(l=l∧∃ r7,r6=y7 :: r7∧(l=l∧∃ r8,r7=y8 :: r8∧(l=l∧∃ r9,r8=y9 :: r9∧(l=l∧∃ r10,r9=y10 :: r10∧(l=l∧∃ r11,r10=y11 :: r11∧(l=l∧∃ r12,r11=y12 :: r12∧(l=l∧∃ r13,r12=y13 :: r13∧(l=l∧∃ r14,r13=y14 :: r14∧(l=l∧∃ r15,r14=y15 :: r15∧(l=l∧∃ r16,r15=y16 :: r16∧r16=[]∧True)∧True)∧True)∧True)∧True)∧True)∧True)∧True)∧True)∧True)∧True)∧True)∧True)∧True)∧True)∧True) :=
  ⟨rfl,_,rfl,⟨rfl,_,rfl,⟨rfl,_,rfl,⟨rfl,_,rfl,⟨rfl,_,rfl,⟨rfl,_,rfl,⟨rfl,_,rfl,⟨rfl,_,rfl,⟨rfl,_,rfl,⟨rfl,_,rfl,⟨rfl,_,rfl,⟨rfl,_,rfl,⟨rfl,_,rfl,⟨rfl,_,rfl,⟨rfl,_,rfl,⟨rfl,_,rfl,rfl,trivial⟩,trivial⟩,trivial⟩,trivial⟩,trivial⟩,trivial⟩,trivial⟩,trivial⟩,trivial⟩,trivial⟩,trivial⟩,trivial⟩,trivial⟩,trivial⟩,trivial⟩,trivial⟩
theorem ys117_eq (a_Parts:Int) (a_Bins_n:Nat) (a_g:Nat→List PV) (a_Beta_Low a_Beta_High a_Alpha_Low a_Alpha_High b_Pressure_Low b_Pressure_High b_Warm_Low b_Warm_High:Int):(ys117 (⟨a_Parts,⟨a_Bins_n,decF_32 a_g⟩,⟨a_Beta_Low,a_Beta_High⟩,⟨a_Alpha_Low,a_Alpha_High⟩⟩:Sky) (⟨⟨b_Pressure_Low,b_Pressure_High⟩,⟨b_Warm_Low,b_Warm_High⟩⟩:Weather)).map (fun y=>[PA.one (.int .i64 y)])=[[.one (.int .i64 (if (w64 ((w64 ((1000:Int) - (w64 ((s116 (⟨a_Beta_Low,a_Beta_High⟩:Span)).1 * (s116 (⟨b_Pressure_Low,b_Pressure_High⟩:Span)).1))))+(w64 ((s116 (⟨a_Alpha_Low,a_Alpha_High⟩:Span)).1 * (s116 (⟨b_Warm_Low,b_Warm_High⟩:Span)).1)))) > (0:Int) then (w64 ((w64 ((1000:Int) - (w64 ((s116 (⟨a_Beta_Low,a_Beta_High⟩:Span)).1 * (s116 (⟨b_Pressure_Low,b_Pressure_High⟩:Span)).1))))+(w64 ((s116 (⟨a_Alpha_Low,a_Alpha_High⟩:Span)).1 * (s116 (⟨b_Warm_Low,b_Warm_High⟩:Span)).1)))) else (0:Int)))],[.one (.int .i64 (if (w64 ((w64 ((1000:Int) - (w64 ((s116 (⟨a_Beta_Low,a_Beta_High⟩:Span)).1 * (s116 (⟨b_Pressure_Low,b_Pressure_High⟩:Span)).1))))+(w64 ((s116 (⟨a_Alpha_Low,a_Alpha_High⟩:Span)).1 * (s116 (⟨b_Warm_Low,b_Warm_High⟩:Span)).2)))) > (0:Int) then (w64 ((w64 ((1000:Int) - (w64 ((s116 (⟨a_Beta_Low,a_Beta_High⟩:Span)).1 * (s116 (⟨b_Pressure_Low,b_Pressure_High⟩:Span)).1))))+(w64 ((s116 (⟨a_Alpha_Low,a_Alpha_High⟩:Span)).1 * (s116 (⟨b_Warm_Low,b_Warm_High⟩:Span)).2)))) else (0:Int)))],[.one (.int .i64 (if (w64 ((w64 ((1000:Int) - (w64 ((s116 (⟨a_Beta_Low,a_Beta_High⟩:Span)).1 * (s116 (⟨b_Pressure_Low,b_Pressure_High⟩:Span)).1))))+(w64 ((s116 (⟨a_Alpha_Low,a_Alpha_High⟩:Span)).2 * (s116 (⟨b_Warm_Low,b_Warm_High⟩:Span)).1)))) > (0:Int) then (w64 ((w64 ((1000:Int) - (w64 ((s116 (⟨a_Beta_Low,a_Beta_High⟩:Span)).1 * (s116 (⟨b_Pressure_Low,b_Pressure_High⟩:Span)).1))))+(w64 ((s116 (⟨a_Alpha_Low,a_Alpha_High⟩:Span)).2 * (s116 (⟨b_Warm_Low,b_Warm_High⟩:Span)).1)))) else (0:Int)))],[.one (.int .i64 (if (w64 ((w64 ((1000:Int) - (w64 ((s116 (⟨a_Beta_Low,a_Beta_High⟩:Span)).1 * (s116 (⟨b_Pressure_Low,b_Pressure_High⟩:Span)).1))))+(w64 ((s116 (⟨a_Alpha_Low,a_Alpha_High⟩:Span)).2 * (s116 (⟨b_Warm_Low,b_Warm_High⟩:Span)).2)))) > (0:Int) then (w64 ((w64 ((1000:Int) - (w64 ((s116 (⟨a_Beta_Low,a_Beta_High⟩:Span)).1 * (s116 (⟨b_Pressure_Low,b_Pressure_High⟩:Span)).1))))+(w64 ((s116 (⟨a_Alpha_Low,a_Alpha_High⟩:Span)).2 * (s116 (⟨b_Warm_Low,b_Warm_High⟩:Span)).2)))) else (0:Int)))],[.one (.int .i64 (if (w64 ((w64 ((1000:Int) - (w64 ((s116 (⟨a_Beta_Low,a_Beta_High⟩:Span)).1 * (s116 (⟨b_Pressure_Low,b_Pressure_High⟩:Span)).2))))+(w64 ((s116 (⟨a_Alpha_Low,a_Alpha_High⟩:Span)).1 * (s116 (⟨b_Warm_Low,b_Warm_High⟩:Span)).1)))) > (0:Int) then (w64 ((w64 ((1000:Int) - (w64 ((s116 (⟨a_Beta_Low,a_Beta_High⟩:Span)).1 * (s116 (⟨b_Pressure_Low,b_Pressure_High⟩:Span)).2))))+(w64 ((s116 (⟨a_Alpha_Low,a_Alpha_High⟩:Span)).1 * (s116 (⟨b_Warm_Low,b_Warm_High⟩:Span)).1)))) else (0:Int)))],[.one (.int .i64 (if (w64 ((w64 ((1000:Int) - (w64 ((s116 (⟨a_Beta_Low,a_Beta_High⟩:Span)).1 * (s116 (⟨b_Pressure_Low,b_Pressure_High⟩:Span)).2))))+(w64 ((s116 (⟨a_Alpha_Low,a_Alpha_High⟩:Span)).1 * (s116 (⟨b_Warm_Low,b_Warm_High⟩:Span)).2)))) > (0:Int) then (w64 ((w64 ((1000:Int) - (w64 ((s116 (⟨a_Beta_Low,a_Beta_High⟩:Span)).1 * (s116 (⟨b_Pressure_Low,b_Pressure_High⟩:Span)).2))))+(w64 ((s116 (⟨a_Alpha_Low,a_Alpha_High⟩:Span)).1 * (s116 (⟨b_Warm_Low,b_Warm_High⟩:Span)).2)))) else (0:Int)))],[.one (.int .i64 (if (w64 ((w64 ((1000:Int) - (w64 ((s116 (⟨a_Beta_Low,a_Beta_High⟩:Span)).1 * (s116 (⟨b_Pressure_Low,b_Pressure_High⟩:Span)).2))))+(w64 ((s116 (⟨a_Alpha_Low,a_Alpha_High⟩:Span)).2 * (s116 (⟨b_Warm_Low,b_Warm_High⟩:Span)).1)))) > (0:Int) then (w64 ((w64 ((1000:Int) - (w64 ((s116 (⟨a_Beta_Low,a_Beta_High⟩:Span)).1 * (s116 (⟨b_Pressure_Low,b_Pressure_High⟩:Span)).2))))+(w64 ((s116 (⟨a_Alpha_Low,a_Alpha_High⟩:Span)).2 * (s116 (⟨b_Warm_Low,b_Warm_High⟩:Span)).1)))) else (0:Int)))],[.one (.int .i64 (if (w64 ((w64 ((1000:Int) - (w64 ((s116 (⟨a_Beta_Low,a_Beta_High⟩:Span)).1 * (s116 (⟨b_Pressure_Low,b_Pressure_High⟩:Span)).2))))+(w64 ((s116 (⟨a_Alpha_Low,a_Alpha_High⟩:Span)).2 * (s116 (⟨b_Warm_Low,b_Warm_High⟩:Span)).2)))) > (0:Int) then (w64 ((w64 ((1000:Int) - (w64 ((s116 (⟨a_Beta_Low,a_Beta_High⟩:Span)).1 * (s116 (⟨b_Pressure_Low,b_Pressure_High⟩:Span)).2))))+(w64 ((s116 (⟨a_Alpha_Low,a_Alpha_High⟩:Span)).2 * (s116 (⟨b_Warm_Low,b_Warm_High⟩:Span)).2)))) else (0:Int)))],[.one (.int .i64 (if (w64 ((w64 ((1000:Int) - (w64 ((s116 (⟨a_Beta_Low,a_Beta_High⟩:Span)).2 * (s116 (⟨b_Pressure_Low,b_Pressure_High⟩:Span)).1))))+(w64 ((s116 (⟨a_Alpha_Low,a_Alpha_High⟩:Span)).1 * (s116 (⟨b_Warm_Low,b_Warm_High⟩:Span)).1)))) > (0:Int) then (w64 ((w64 ((1000:Int) - (w64 ((s116 (⟨a_Beta_Low,a_Beta_High⟩:Span)).2 * (s116 (⟨b_Pressure_Low,b_Pressure_High⟩:Span)).1))))+(w64 ((s116 (⟨a_Alpha_Low,a_Alpha_High⟩:Span)).1 * (s116 (⟨b_Warm_Low,b_Warm_High⟩:Span)).1)))) else (0:Int)))],[.one (.int .i64 (if (w64 ((w64 ((1000:Int) - (w64 ((s116 (⟨a_Beta_Low,a_Beta_High⟩:Span)).2 * (s116 (⟨b_Pressure_Low,b_Pressure_High⟩:Span)).1))))+(w64 ((s116 (⟨a_Alpha_Low,a_Alpha_High⟩:Span)).1 * (s116 (⟨b_Warm_Low,b_Warm_High⟩:Span)).2)))) > (0:Int) then (w64 ((w64 ((1000:Int) - (w64 ((s116 (⟨a_Beta_Low,a_Beta_High⟩:Span)).2 * (s116 (⟨b_Pressure_Low,b_Pressure_High⟩:Span)).1))))+(w64 ((s116 (⟨a_Alpha_Low,a_Alpha_High⟩:Span)).1 * (s116 (⟨b_Warm_Low,b_Warm_High⟩:Span)).2)))) else (0:Int)))],[.one (.int .i64 (if (w64 ((w64 ((1000:Int) - (w64 ((s116 (⟨a_Beta_Low,a_Beta_High⟩:Span)).2 * (s116 (⟨b_Pressure_Low,b_Pressure_High⟩:Span)).1))))+(w64 ((s116 (⟨a_Alpha_Low,a_Alpha_High⟩:Span)).2 * (s116 (⟨b_Warm_Low,b_Warm_High⟩:Span)).1)))) > (0:Int) then (w64 ((w64 ((1000:Int) - (w64 ((s116 (⟨a_Beta_Low,a_Beta_High⟩:Span)).2 * (s116 (⟨b_Pressure_Low,b_Pressure_High⟩:Span)).1))))+(w64 ((s116 (⟨a_Alpha_Low,a_Alpha_High⟩:Span)).2 * (s116 (⟨b_Warm_Low,b_Warm_High⟩:Span)).1)))) else (0:Int)))],[.one (.int .i64 (if (w64 ((w64 ((1000:Int) - (w64 ((s116 (⟨a_Beta_Low,a_Beta_High⟩:Span)).2 * (s116 (⟨b_Pressure_Low,b_Pressure_High⟩:Span)).1))))+(w64 ((s116 (⟨a_Alpha_Low,a_Alpha_High⟩:Span)).2 * (s116 (⟨b_Warm_Low,b_Warm_High⟩:Span)).2)))) > (0:Int) then (w64 ((w64 ((1000:Int) - (w64 ((s116 (⟨a_Beta_Low,a_Beta_High⟩:Span)).2 * (s116 (⟨b_Pressure_Low,b_Pressure_High⟩:Span)).1))))+(w64 ((s116 (⟨a_Alpha_Low,a_Alpha_High⟩:Span)).2 * (s116 (⟨b_Warm_Low,b_Warm_High⟩:Span)).2)))) else (0:Int)))],[.one (.int .i64 (if (w64 ((w64 ((1000:Int) - (w64 ((s116 (⟨a_Beta_Low,a_Beta_High⟩:Span)).2 * (s116 (⟨b_Pressure_Low,b_Pressure_High⟩:Span)).2))))+(w64 ((s116 (⟨a_Alpha_Low,a_Alpha_High⟩:Span)).1 * (s116 (⟨b_Warm_Low,b_Warm_High⟩:Span)).1)))) > (0:Int) then (w64 ((w64 ((1000:Int) - (w64 ((s116 (⟨a_Beta_Low,a_Beta_High⟩:Span)).2 * (s116 (⟨b_Pressure_Low,b_Pressure_High⟩:Span)).2))))+(w64 ((s116 (⟨a_Alpha_Low,a_Alpha_High⟩:Span)).1 * (s116 (⟨b_Warm_Low,b_Warm_High⟩:Span)).1)))) else (0:Int)))],[.one (.int .i64 (if (w64 ((w64 ((1000:Int) - (w64 ((s116 (⟨a_Beta_Low,a_Beta_High⟩:Span)).2 * (s116 (⟨b_Pressure_Low,b_Pressure_High⟩:Span)).2))))+(w64 ((s116 (⟨a_Alpha_Low,a_Alpha_High⟩:Span)).1 * (s116 (⟨b_Warm_Low,b_Warm_High⟩:Span)).2)))) > (0:Int) then (w64 ((w64 ((1000:Int) - (w64 ((s116 (⟨a_Beta_Low,a_Beta_High⟩:Span)).2 * (s116 (⟨b_Pressure_Low,b_Pressure_High⟩:Span)).2))))+(w64 ((s116 (⟨a_Alpha_Low,a_Alpha_High⟩:Span)).1 * (s116 (⟨b_Warm_Low,b_Warm_High⟩:Span)).2)))) else (0:Int)))],[.one (.int .i64 (if (w64 ((w64 ((1000:Int) - (w64 ((s116 (⟨a_Beta_Low,a_Beta_High⟩:Span)).2 * (s116 (⟨b_Pressure_Low,b_Pressure_High⟩:Span)).2))))+(w64 ((s116 (⟨a_Alpha_Low,a_Alpha_High⟩:Span)).2 * (s116 (⟨b_Warm_Low,b_Warm_High⟩:Span)).1)))) > (0:Int) then (w64 ((w64 ((1000:Int) - (w64 ((s116 (⟨a_Beta_Low,a_Beta_High⟩:Span)).2 * (s116 (⟨b_Pressure_Low,b_Pressure_High⟩:Span)).2))))+(w64 ((s116 (⟨a_Alpha_Low,a_Alpha_High⟩:Span)).2 * (s116 (⟨b_Warm_Low,b_Warm_High⟩:Span)).1)))) else (0:Int)))],[.one (.int .i64 (if (w64 ((w64 ((1000:Int) - (w64 ((s116 (⟨a_Beta_Low,a_Beta_High⟩:Span)).2 * (s116 (⟨b_Pressure_Low,b_Pressure_High⟩:Span)).2))))+(w64 ((s116 (⟨a_Alpha_Low,a_Alpha_High⟩:Span)).2 * (s116 (⟨b_Warm_Low,b_Warm_High⟩:Span)).2)))) > (0:Int) then (w64 ((w64 ((1000:Int) - (w64 ((s116 (⟨a_Beta_Low,a_Beta_High⟩:Span)).2 * (s116 (⟨b_Pressure_Low,b_Pressure_High⟩:Span)).2))))+(w64 ((s116 (⟨a_Alpha_Low,a_Alpha_High⟩:Span)).2 * (s116 (⟨b_Warm_Low,b_Warm_High⟩:Span)).2)))) else (0:Int)))]]:=by kernel_rfl
theorem call117:Callable Try.prog 117:=⟨_,rfl,rfl,by kernel_rfl⟩
theorem ok117:ItOk Try.prog 117 it117:=it_tab okT117 call117 fun l caps ys h=>by
  unfold it117 at h
  split at h
  · rename_i a_Parts a_Bins_n a_s a_g a_Beta_Low a_Beta_High a_Alpha_Low a_Alpha_High b_Pressure_Low b_Pressure_High b_Warm_Low b_Warm_High
    cases h
    refine ⟨fun _ _=>[],fun _=>false,ann117,?_⟩
    generalize hy:List.map _ _=ys
    have e:=f117_top l a_Parts a_Bins_n a_s a_g a_Beta_Low a_Beta_High a_Alpha_Low a_Alpha_High b_Pressure_Low b_Pressure_High b_Warm_Low b_Warm_High ys
    show vcIter Try.prog G117 ann117 117 l _ ys
    rw [e]
    rw [ys117_eq] at hy
    subst hy
    exact it16 l _ _ _ _ _ _ _ _ _ _ _ _ _ _ _ _
  · cases h
abbrev T77:Tabs:=((Tabs.nil.addF 105 ctr105).addI 117 it117)
theorem okT77:TabsOk Try.prog T77:=((TabsOk.nil.addF ok105).addI ok117)
abbrev G77:Ctrs:=csm T77 (fun _ _=>[]) (fun _=>false)
def ann77:Ann:=⟨26,[(0,⟨[2,3,4],[2,3,4],[],[],[]⟩),(1,⟨[2,3,4,5],[2,3,4,5],[],[],[]⟩),(2,⟨[2,3,4,5,6],[2,3,4,5,6],[],[],[]⟩),(3,⟨[4,5,6,10],[4,5,6],[],[],[]⟩),(4,⟨[4,5,6,7,10],[4,5,6],[],[],[]⟩),(5,⟨[4,5,6,7,10,12],[4,5,6],[],[],[]⟩),(6,⟨[4,5,6,7,10],[4,5,6],[],[],[]⟩),(7,⟨[4,5,6,10],[4,5,6],[],[],[]⟩),(8,⟨[4],[4],[],[],[]⟩)],
  [(4,⟨[4,5,6,10],[4,5,6],[],[],[]⟩)],
  [],
  [],[]⟩
def f77_g0 (s:Sky) (w:Weather) (firstv0:Bool) (out_0v0:Int) (out_1v0:Int):St:=⟨[(4,.one (.c (.ptr 4 0))),(5,.one (.c (.ptr 5 0))),(6,.one (.c (.ptr 6 0))),(10,.one (.c (.p (.fn 117 [] [.fp [.fn 116 [] []] 0,.fp (enc_26 s) 0,.fp (enc_54 w) 0]))))],[(4,.box 24 [.p (.int .i64 (0:Int)),.p (.int .i64 (0:Int))]),(5,.box 4 [.p (.bool firstv0)]),(6,.box 24 [.p (.int .i64 out_0v0),.p (.int .i64 out_1v0)])],[]⟩
def f77_at0 (K:List PA→Prop) (s:Sky) (w:Weather) (firstv0:Bool) (out_0v0:Int) (out_1v0:Int):Prop:=vc Try.prog G77 ann77 (cdF Try.f77 [1,1,1,0,1,0]) (blockK 0 (sqK Try.prog G77 ann77 (cdF Try.f77 [1,1,1,1]) (bodyK Try.prog Try.f77 K))) (f77_g0 s w firstv0 out_0v0 out_1v0)
theorem f77_top (s : Sky) (w : Weather) (K : List PA → Prop) :
  vcFun Try.prog G77 ann77 77 [.agg [.int .i64 s.Parts,.sl s.Bins.len 1 (fun i=>enc_32 (s.Bins.get i)),.int .i64 s.Beta.Low,.int .i64 s.Beta.High,.int .i64 s.Alpha.Low,.int .i64 s.Alpha.High],.agg [.int .i64 w.Pressure.Low,.int .i64 w.Pressure.High,.int .i64 w.Warm.Low,.int .i64 w.Warm.High]] K =
  ((IsE enc_32 1 1 (fun i=>enc_32 (s.Bins.get i))) ∧
  (f77_at0 K s w true (0:Int) (0:Int))):=by kernel_rfl
def f77_exit0 (K:List PA→Prop) (s:Sky) (w:Weather) (firstv0:Bool) (out_0v0:Int) (out_1v0:Int):Prop :=
  (K [.agg [.int .i64 out_0v0,.int .i64 out_1v0]])
def f77_step0 (K:List PA→Prop) (X0:List (List PA)→St→Prop) (y0:Int) (rest0:List (List PA)) (s:Sky) (w:Weather) (firstv0:Bool) (out_0v0:Int) (out_1v0:Int):Prop :=
  (condP firstv0
   (X0 rest0 (f77_g0 s w false (if y0 < y0 then y0 else y0) (if y0 > y0 then y0 else y0)))
   (X0 rest0 (f77_g0 s w firstv0 (if y0 < out_0v0 then y0 else out_0v0) (if y0 > out_1v0 then y0 else out_1v0))))
theorem f77_exiteq0 (K:List PA→Prop) (s:Sky) (w:Weather) (firstv0:Bool) (out_0v0:Int) (out_1v0:Int):(blockK 0 (sqK Try.prog G77 ann77 (cdF Try.f77 [1,1,1,1]) (bodyK Try.prog Try.f77 K))) .normal (f77_g0 s w firstv0 out_0v0 out_1v0)=f77_exit0 K s w firstv0 out_0v0 out_1v0:=by kernel_rfl
theorem f77_stepeq0 (K : List PA → Prop) (X0 : List (List PA) → St → Prop) (y0 : Int) (rest0 : List (List PA)) (s : Sky) (w : Weather) (firstv0 : Bool) (out_0v0 : Int) (out_1v0 : Int) :
  rngB Try.prog G77 ann77 4 [11] (cd (cdF Try.f77 [1,1,1,0,1,0]) [0]) (cd (cdF Try.f77 [1,1,1,0,1,0]) [1]) X0 (blockK 0 (sqK Try.prog G77 ann77 (cdF Try.f77 [1,1,1,1]) (bodyK Try.prog Try.f77 K))) [.one (.int .i64 y0)] rest0 (f77_g0 s w firstv0 out_0v0 out_1v0)=f77_step0 K X0 y0 rest0 s w firstv0 out_0v0 out_1v0:=by kernel_rfl
theorem f77_loop0 (K : List PA → Prop) (s : Sky) (w : Weather) (firstv0 : Bool) (out_0v0 : Int) (out_1v0 : Int)
  (h:∀ X0:List (List PA)→St→Prop,(∀ (firstv0:Bool) (out_0v0:Int) (out_1v0:Int),f77_exit0 K s w firstv0 out_0v0 out_1v0→X0 [] (f77_g0 s w firstv0 out_0v0 out_1v0))→(∀ (y:Int) (rest:List (List PA)) (firstv0:Bool) (out_0v0:Int) (out_1v0:Int),f77_step0 K X0 y rest s w firstv0 out_0v0 out_1v0→X0 ([.one (.int .i64 y)] :: rest) (f77_g0 s w firstv0 out_0v0 out_1v0))→X0 ((ys117 s w).map fun y=>[.one (.int .i64 y)]) (f77_g0 s w firstv0 out_0v0 out_1v0)) :
  f77_at0 K s w firstv0 out_0v0 out_1v0:=by
  have e:f77_at0 K s w firstv0 out_0v0 out_1v0=(∀ X:List (List PA)→St→Prop,(∀ s,(blockK 0 (sqK Try.prog G77 ann77 (cdF Try.f77 [1,1,1,1]) (bodyK Try.prog Try.f77 K))) .normal s→X [] s)→(∀ y rest s,rngB Try.prog G77 ann77 4 [11] (cd (cdF Try.f77 [1,1,1,0,1,0]) [0]) (cd (cdF Try.f77 [1,1,1,0,1,0]) [1]) X (blockK 0 (sqK Try.prog G77 ann77 (cdF Try.f77 [1,1,1,1]) (bodyK Try.prog Try.f77 K))) y rest s→X (y :: rest) s)→X ((ys117 s w).map fun y=>[.one (.int .i64 y)]) (f77_g0 s w firstv0 out_0v0 out_1v0)):=by kernel_rfl
  refine ofEq e ?_
  intro X h0 h1
  refine h X (fun firstv0 out_0v0 out_1v0 hs=>h0 _ ?_) (fun y rest firstv0 out_0v0 out_1v0 hs=>h1 _ rest _ ?_)
  · rw [f77_exiteq0 K s w firstv0 out_0v0 out_1v0];exact hs
  · have e2 := f77_stepeq0 K X y rest s w firstv0 out_0v0 out_1v0
    rw [e2];exact hs
abbrev e77 (r:Span):List PA:=[.agg [.int .i64 r.Low,.int .i64 r.High]]
attribute [irreducible] f77_at0
def s77_ex0 (s:Sky) (w:Weather) (firstv0:Bool) (out_0v0:Int) (out_1v0:Int):Span :=
  (⟨out_0v0,out_1v0⟩:Span)
def p77_ex0 (s:Sky) (w:Weather) (firstv0:Bool) (out_0v0:Int) (out_1v0:Int):Bool :=
  true
def s77_st0 (s:Sky) (w:Weather) (y0:Int) (S0:Bool→Int→Int→Span) (firstv0:Bool) (out_0v0:Int) (out_1v0:Int):Span :=
  (cond firstv0
   (S0 false (if y0 < y0 then y0 else y0) (if y0 > y0 then y0 else y0))
   (S0 firstv0 (if y0 < out_0v0 then y0 else out_0v0) (if y0 > out_1v0 then y0 else out_1v0)))
def p77_st0 (s:Sky) (w:Weather) (y0:Int) (P0:Bool→Int→Int→Bool) (firstv0:Bool) (out_0v0:Int) (out_1v0:Int):Bool :=
  (cond firstv0
   (P0 false (if y0 < y0 then y0 else y0) (if y0 > y0 then y0 else y0))
   (P0 firstv0 (if y0 < out_0v0 then y0 else out_0v0) (if y0 > out_1v0 then y0 else out_1v0)))
def s77_lp0 (s : Sky) (w : Weather) : List Int → Bool → Int → Int → Span
  | []=>s77_ex0 s w
  | y :: r=>s77_st0 s w y (s77_lp0 s w r)
def p77_lp0 (s : Sky) (w : Weather) : List Int → Bool → Int → Int → Bool
  | []=>p77_ex0 s w
  | y :: r=>p77_st0 s w y (p77_lp0 s w r)
def s77_at0 (s:Sky) (w:Weather) (firstv0:Bool) (out_0v0:Int) (out_1v0:Int):Span:=s77_lp0 s w (ys117 s w) firstv0 out_0v0 out_1v0
def p77_at0 (s:Sky) (w:Weather) (firstv0:Bool) (out_0v0:Int) (out_1v0:Int):Bool:=p77_lp0 s w (ys117 s w) firstv0 out_0v0 out_1v0
theorem q77_at0 (K:List PA→Prop) (s:Sky) (w:Weather) (firstv0:Bool) (out_0v0:Int) (out_1v0:Int) (hs:p77_at0 s w firstv0 out_0v0 out_1v0=true) (hk:K (e77 (s77_at0 s w firstv0 out_0v0 out_1v0))):f77_at0 K s w firstv0 out_0v0 out_1v0:=by
  refine f77_loop0 K s w firstv0 out_0v0 out_1v0 ?_
  intro X0 hexit hstep
  have key:∀ (l:List Int) (firstv0:Bool) (out_0v0:Int) (out_1v0:Int),p77_lp0 s w l firstv0 out_0v0 out_1v0=true→K (e77 (s77_lp0 s w l firstv0 out_0v0 out_1v0))→X0 (l.map fun y=>[.one (.int .i64 y)]) (f77_g0 s w firstv0 out_0v0 out_1v0):=by
    intro l
    induction l with
    | nil =>
      intro firstv0 out_0v0 out_1v0 hs hk
      refine hexit firstv0 out_0v0 out_1v0 ?_
      have hs:p77_ex0 s w firstv0 out_0v0 out_1v0=true:=hs
      have hk:K (e77 (s77_ex0 s w firstv0 out_0v0 out_1v0)):=hk
      unfold p77_ex0 at hs
      unfold s77_ex0 at hk
      exact hk
    | cons y0 l ih =>
      intro firstv0 out_0v0 out_1v0 hs hk
      refine hstep y0 _ firstv0 out_0v0 out_1v0 ?_
      have hs:p77_st0 s w y0 (p77_lp0 s w l) firstv0 out_0v0 out_1v0=true:=hs
      have hk:K (e77 (s77_st0 s w y0 (s77_lp0 s w l) firstv0 out_0v0 out_1v0)):=hk
      unfold p77_st0 at hs
      unfold s77_st0 at hk
      generalize s77_lp0 s w l=S0 at hk ih
      generalize p77_lp0 s w l=P0 at hs ih
      have hX0:=ih
      exact (condB_go (K := fun r => K (e77 r))
       (fun hs hk=>(hX0 false (if y0 < y0 then y0 else y0) (if y0 > y0 then y0 else y0) hs hk))
       (fun hs hk=>(hX0 firstv0 (if y0 < out_0v0 then y0 else out_0v0) (if y0 > out_1v0 then y0 else out_1v0) hs hk)) hs hk)
  exact key _ firstv0 out_0v0 out_1v0 hs hk
def s77 (s:Sky) (w:Weather):Span :=
  (s77_at0 s w true (0:Int) (0:Int))
def p77 (s:Sky) (w:Weather):Bool :=
  (p77_at0 s w true (0:Int) (0:Int))
theorem q77 (s:Sky) (w:Weather) (K:List PA→Prop) (hs:p77 s w=true) (hk:K (e77 (s77 s w))):vcFun Try.prog G77 ann77 77 [.agg [.int .i64 s.Parts,.sl s.Bins.len 1 (fun i=>enc_32 (s.Bins.get i)),.int .i64 s.Beta.Low,.int .i64 s.Beta.High,.int .i64 s.Alpha.Low,.int .i64 s.Alpha.High],.agg [.int .i64 w.Pressure.Low,.int .i64 w.Pressure.High,.int .i64 w.Warm.Low,.int .i64 w.Warm.High]] K:=by
  refine ofEq (f77_top s w K) ?_
  unfold p77 at hs
  unfold s77 at hk
  exact ⟨isE,(q77_at0 K s w true (0:Int) (0:Int) hs hk)⟩
def ctr77 : List PA → COut
  | [.agg [.int .i64 a0_Parts,.sl a0_Bins_n a0_Bins_s a0_Bins_g,.int .i64 a0_Beta_Low,.int .i64 a0_Beta_High,.int .i64 a0_Alpha_Low,.int .i64 a0_Alpha_High],.agg [.int .i64 a1_Pressure_Low,.int .i64 a1_Pressure_High,.int .i64 a1_Warm_Low,.int .i64 a1_Warm_High]]=>.det (IsE enc_32 1 a0_Bins_s a0_Bins_g∧p77 (⟨a0_Parts,(⟨a0_Bins_n,decF_32 a0_Bins_g⟩:(Sl (Sl FluxRow))),(⟨a0_Beta_Low,a0_Beta_High⟩:Span),(⟨a0_Alpha_Low,a0_Alpha_High⟩:Span)⟩:Sky) (⟨(⟨a1_Pressure_Low,a1_Pressure_High⟩:Span),(⟨a1_Warm_Low,a1_Warm_High⟩:Span)⟩:Weather)=true) [.agg [.int .i64 ((s77 (⟨a0_Parts,(⟨a0_Bins_n,decF_32 a0_Bins_g⟩:(Sl (Sl FluxRow))),(⟨a0_Beta_Low,a0_Beta_High⟩:Span),(⟨a0_Alpha_Low,a0_Alpha_High⟩:Span)⟩:Sky) (⟨(⟨a1_Pressure_Low,a1_Pressure_High⟩:Span),(⟨a1_Warm_Low,a1_Warm_High⟩:Span)⟩:Weather)).Low),.int .i64 ((s77 (⟨a0_Parts,(⟨a0_Bins_n,decF_32 a0_Bins_g⟩:(Sl (Sl FluxRow))),(⟨a0_Beta_Low,a0_Beta_High⟩:Span),(⟨a0_Alpha_Low,a0_Alpha_High⟩:Span)⟩:Sky) (⟨(⟨a1_Pressure_Low,a1_Pressure_High⟩:Span),(⟨a1_Warm_Low,a1_Warm_High⟩:Span)⟩:Weather)).High)]]
  | _=>.no
theorem call77:Callable Try.prog 77:=⟨_,rfl,rfl,by kernel_rfl⟩
theorem ok77:Ok Try.prog 77 ctr77:=ok_tab okT77 call77 fun args K h=>by
  unfold ctr77 at h
  split at h
  · rename_i a0_Parts a0_Bins_n a0_Bins_s a0_Bins_g a0_Beta_Low a0_Beta_High a0_Alpha_Low a0_Alpha_High a1_Pressure_Low a1_Pressure_High a1_Warm_Low a1_Warm_High
    obtain ⟨⟨⟨rfl,a0_Bins_f,rfl⟩,hs⟩,hk⟩:=h
    try rw [decF_enc_32 a0_Bins_f] at hs
    try rw [decF_enc_32 a0_Bins_f] at hk
    exact ⟨(fun _ _=>[]),(fun _=>false),ann77,q77 (⟨a0_Parts,(⟨a0_Bins_n,a0_Bins_f⟩:(Sl (Sl FluxRow))),(⟨a0_Beta_Low,a0_Beta_High⟩:Span),(⟨a0_Alpha_Low,a0_Alpha_High⟩:Span)⟩:Sky) (⟨(⟨a1_Pressure_Low,a1_Pressure_High⟩:Span),(⟨a1_Warm_Low,a1_Warm_High⟩:Span)⟩:Weather) K hs hk⟩
  · exact h.elim
abbrev T97:Tabs:=Tabs.nil
theorem okT97:TabsOk Try.prog T97:=TabsOk.nil
abbrev G97:Ctrs:=csm T97 (fun _ _=>[]) (fun _=>false)
def ann97:Ann:=⟨17,[(0,⟨[0,1,2],[],[],[],[]⟩),(1,⟨[6],[],[],[],[]⟩)],
  [],
  [],
  [],[]⟩
theorem f97_top (g : ground) (rate : Int) (factor : Int) (K : List PA → Prop) :
  vcFun Try.prog G97 ann97 97 [.one (.fp (enc_137 g) 0),.one (.int .i64 rate),.one (.int .i64 factor)] K =
  ((((1000:Int) ≠ 0)) ∧
  (K [.one (.int .i64 (if (w64 ((w64 (rate * factor)).tdiv (1000:Int))) < g.Sky.Parts then (w64 ((w64 (rate * factor)).tdiv (1000:Int))) else g.Sky.Parts))])):=by kernel_rfl
abbrev e97 (r:Int):List PA:=[.one (.int .i64 r)]
def s97 (g:ground) (rate:Int) (factor:Int):Int :=
  (if (w64 ((w64 (rate * factor)).tdiv (1000:Int))) < g.Sky.Parts then (w64 ((w64 (rate * factor)).tdiv (1000:Int))) else g.Sky.Parts)
def p97 (g:ground) (rate:Int) (factor:Int):Bool :=
  (decide (((1000:Int) ≠ 0)) &&
  true)
theorem q97 (g:ground) (rate:Int) (factor:Int) (K:List PA→Prop) (hs:p97 g rate factor=true) (hk:K (e97 (s97 g rate factor))):vcFun Try.prog G97 ann97 97 [.one (.fp (enc_137 g) 0),.one (.int .i64 rate),.one (.int .i64 factor)] K:=by
  refine ofEq (f97_top g rate factor K) ?_
  unfold p97 at hs
  unfold s97 at hk
  exact (andK hs fun hc hs=>⟨hc,hk⟩)
def ctr97 : List PA → COut
  | [.one (.fp [.int .i64 a0_Sky_Parts,.sl a0_Sky_Bins_n a0_Sky_Bins_s a0_Sky_Bins_g,.int .i64 a0_Sky_Beta_Low,.int .i64 a0_Sky_Beta_High,.int .i64 a0_Sky_Alpha_Low,.int .i64 a0_Sky_Alpha_High,.sl a0_table_n a0_table_s a0_table_g,.mp a0_known] 0),.one (.int .i64 a1),.one (.int .i64 a2)]=>.det (IsE enc_32 1 a0_Sky_Bins_s a0_Sky_Bins_g∧IsE enc_42 3 a0_table_s a0_table_g∧p97 (⟨(⟨a0_Sky_Parts,(⟨a0_Sky_Bins_n,decF_32 a0_Sky_Bins_g⟩:(Sl (Sl FluxRow))),(⟨a0_Sky_Beta_Low,a0_Sky_Beta_High⟩:Span),(⟨a0_Sky_Alpha_Low,a0_Sky_Alpha_High⟩:Span)⟩:Sky),(⟨a0_table_n,decF_42 a0_table_g⟩:(Sl RangeRow)),a0_known⟩:ground) a1 a2=true) [.one (.int .i64 (s97 (⟨(⟨a0_Sky_Parts,(⟨a0_Sky_Bins_n,decF_32 a0_Sky_Bins_g⟩:(Sl (Sl FluxRow))),(⟨a0_Sky_Beta_Low,a0_Sky_Beta_High⟩:Span),(⟨a0_Sky_Alpha_Low,a0_Sky_Alpha_High⟩:Span)⟩:Sky),(⟨a0_table_n,decF_42 a0_table_g⟩:(Sl RangeRow)),a0_known⟩:ground) a1 a2))]
  | _=>.no
theorem call97:Callable Try.prog 97:=⟨_,rfl,rfl,by kernel_rfl⟩
theorem ok97:Ok Try.prog 97 ctr97:=ok_tab okT97 call97 fun args K h=>by
  unfold ctr97 at h
  split at h
  · rename_i a0_Sky_Parts a0_Sky_Bins_n a0_Sky_Bins_s a0_Sky_Bins_g a0_Sky_Beta_Low a0_Sky_Beta_High a0_Sky_Alpha_Low a0_Sky_Alpha_High a0_table_n a0_table_s a0_table_g a0_known a1 a2
    obtain ⟨⟨⟨rfl,a0_Sky_Bins_f,rfl⟩,⟨rfl,a0_table_f,rfl⟩,hs⟩,hk⟩:=h
    try rw [decF_enc_32 a0_Sky_Bins_f] at hs
    try rw [decF_enc_32 a0_Sky_Bins_f] at hk
    try rw [decF_enc_42 a0_table_f] at hs
    try rw [decF_enc_42 a0_table_f] at hk
    exact ⟨(fun _ _=>[]),(fun _=>false),ann97,q97 (⟨(⟨a0_Sky_Parts,(⟨a0_Sky_Bins_n,a0_Sky_Bins_f⟩:(Sl (Sl FluxRow))),(⟨a0_Sky_Beta_Low,a0_Sky_Beta_High⟩:Span),(⟨a0_Sky_Alpha_Low,a0_Sky_Alpha_High⟩:Span)⟩:Sky),(⟨a0_table_n,a0_table_f⟩:(Sl RangeRow)),a0_known⟩:ground) a1 a2 K hs hk⟩
  · exact h.elim
abbrev T98:Tabs:=Tabs.nil
theorem okT98:TabsOk Try.prog T98:=TabsOk.nil
abbrev G98:Ctrs:=csm T98 (fun _ _=>[]) (fun _=>false)
def ann98:Ann:=⟨18,[(0,⟨[0,1,2],[],[],[],[]⟩),(1,⟨[6],[],[],[],[]⟩)],
  [],
  [],
  [],[]⟩
theorem f98_top (g : ground) (rate : Int) (factor : Int) (K : List PA → Prop) :
  vcFun Try.prog G98 ann98 98 [.one (.fp (enc_137 g) 0),.one (.int .i64 rate),.one (.int .i64 factor)] K =
  ((((1000:Int) ≠ 0)) ∧
  (K [.one (.int .i64 (if (w64 ((w64 ((w64 (rate * factor))+(999:Int))).tdiv (1000:Int))) < g.Sky.Parts then (w64 ((w64 ((w64 (rate * factor))+(999:Int))).tdiv (1000:Int))) else g.Sky.Parts))])):=by kernel_rfl
abbrev e98 (r:Int):List PA:=[.one (.int .i64 r)]
def s98 (g:ground) (rate:Int) (factor:Int):Int :=
  (if (w64 ((w64 ((w64 (rate * factor))+(999:Int))).tdiv (1000:Int))) < g.Sky.Parts then (w64 ((w64 ((w64 (rate * factor))+(999:Int))).tdiv (1000:Int))) else g.Sky.Parts)
def p98 (g:ground) (rate:Int) (factor:Int):Bool :=
  (decide (((1000:Int) ≠ 0)) &&
  true)
theorem q98 (g:ground) (rate:Int) (factor:Int) (K:List PA→Prop) (hs:p98 g rate factor=true) (hk:K (e98 (s98 g rate factor))):vcFun Try.prog G98 ann98 98 [.one (.fp (enc_137 g) 0),.one (.int .i64 rate),.one (.int .i64 factor)] K:=by
  refine ofEq (f98_top g rate factor K) ?_
  unfold p98 at hs
  unfold s98 at hk
  exact (andK hs fun hc hs=>⟨hc,hk⟩)
def ctr98 : List PA → COut
  | [.one (.fp [.int .i64 a0_Sky_Parts,.sl a0_Sky_Bins_n a0_Sky_Bins_s a0_Sky_Bins_g,.int .i64 a0_Sky_Beta_Low,.int .i64 a0_Sky_Beta_High,.int .i64 a0_Sky_Alpha_Low,.int .i64 a0_Sky_Alpha_High,.sl a0_table_n a0_table_s a0_table_g,.mp a0_known] 0),.one (.int .i64 a1),.one (.int .i64 a2)]=>.det (IsE enc_32 1 a0_Sky_Bins_s a0_Sky_Bins_g∧IsE enc_42 3 a0_table_s a0_table_g∧p98 (⟨(⟨a0_Sky_Parts,(⟨a0_Sky_Bins_n,decF_32 a0_Sky_Bins_g⟩:(Sl (Sl FluxRow))),(⟨a0_Sky_Beta_Low,a0_Sky_Beta_High⟩:Span),(⟨a0_Sky_Alpha_Low,a0_Sky_Alpha_High⟩:Span)⟩:Sky),(⟨a0_table_n,decF_42 a0_table_g⟩:(Sl RangeRow)),a0_known⟩:ground) a1 a2=true) [.one (.int .i64 (s98 (⟨(⟨a0_Sky_Parts,(⟨a0_Sky_Bins_n,decF_32 a0_Sky_Bins_g⟩:(Sl (Sl FluxRow))),(⟨a0_Sky_Beta_Low,a0_Sky_Beta_High⟩:Span),(⟨a0_Sky_Alpha_Low,a0_Sky_Alpha_High⟩:Span)⟩:Sky),(⟨a0_table_n,decF_42 a0_table_g⟩:(Sl RangeRow)),a0_known⟩:ground) a1 a2))]
  | _=>.no
theorem call98:Callable Try.prog 98:=⟨_,rfl,rfl,by kernel_rfl⟩
theorem ok98:Ok Try.prog 98 ctr98:=ok_tab okT98 call98 fun args K h=>by
  unfold ctr98 at h
  split at h
  · rename_i a0_Sky_Parts a0_Sky_Bins_n a0_Sky_Bins_s a0_Sky_Bins_g a0_Sky_Beta_Low a0_Sky_Beta_High a0_Sky_Alpha_Low a0_Sky_Alpha_High a0_table_n a0_table_s a0_table_g a0_known a1 a2
    obtain ⟨⟨⟨rfl,a0_Sky_Bins_f,rfl⟩,⟨rfl,a0_table_f,rfl⟩,hs⟩,hk⟩:=h
    try rw [decF_enc_32 a0_Sky_Bins_f] at hs
    try rw [decF_enc_32 a0_Sky_Bins_f] at hk
    try rw [decF_enc_42 a0_table_f] at hs
    try rw [decF_enc_42 a0_table_f] at hk
    exact ⟨(fun _ _=>[]),(fun _=>false),ann98,q98 (⟨(⟨a0_Sky_Parts,(⟨a0_Sky_Bins_n,a0_Sky_Bins_f⟩:(Sl (Sl FluxRow))),(⟨a0_Sky_Beta_Low,a0_Sky_Beta_High⟩:Span),(⟨a0_Sky_Alpha_Low,a0_Sky_Alpha_High⟩:Span)⟩:Sky),(⟨a0_table_n,a0_table_f⟩:(Sl RangeRow)),a0_known⟩:ground) a1 a2 K hs hk⟩
  · exact h.elim
end Go.Proofs
namespace Go.Proofs
open Go Go.Pm
set_option maxRecDepth 100000
set_option linter.unusedVariables false
attribute [local irreducible] Go.Pm.vcFun Go.Pm.vc Go.Pm.vcIter
abbrev T68:Tabs:=(((Tabs.nil.addF 77 ctr77).addF 97 ctr97).addF 98 ctr98)
theorem okT68:TabsOk Try.prog T68:=(((TabsOk.nil.addF ok77).addF ok97).addF ok98)
abbrev G68:Ctrs:=csm T68 (fun _ _=>[]) (fun _=>false)
def ann68:Ann:=⟨80,[(0,⟨[0,2,4,6],[4,6],[],[],[]⟩),(1,⟨[0,2,4,6,7],[4,6],[],[],[]⟩),(2,⟨[0,2,4,6,7,8],[4,6,8],[],[],[]⟩),(3,⟨[0,4,6,7,8,15,16,17],[4,6,8],[],[],[]⟩),(4,⟨[0,4,6,7,8,15,16,17,18],[4,6,8],[],[],[]⟩),(5,⟨[0,4,6,7,8,10,15,16,17],[4,6,8,10],[],[],[]⟩),(6,⟨[0,4,6,7,8,10,11,15,16,17],[4,6,8,10,11],[],[],[]⟩),(7,⟨[0,4,6,7,8,10,11,15,16,17],[4,6,8,10,11],[],[],[]⟩),(8,⟨[0,4,6,7,8,10,15,16,17,46,47],[4,6,8,10],[],[],[]⟩),(9,⟨[0,4,6,7,8,10,15,16,17,46,47,48],[4,6,8,10],[],[],[]⟩),(10,⟨[0,4,6,7,8,10,12,13,15,16,17,46,47],[4,6,8,10,13],[],[],[]⟩),(11,⟨[0,4,6,7,8,10,15,16,17,46,47],[4,6,8,10],[],[],[]⟩),(12,⟨[0,4,6,7,8,10,15,16,17,46,47],[4,6,8,10],[],[],[]⟩),(13,⟨[0,4,6,7,8,15,16,17],[4,6,8],[],[],[]⟩),(14,⟨[6],[6],[],[],[]⟩)],
  [(4,⟨[0,4,6,7,8,15,16,17],[4,6,8],[],[],[]⟩)],
  [(14,⟨[6,7,8],[6,8],[],[],[]⟩)],
  [(9,3,⟨[0,4,6,7,8,10,15,16,17,46,47],[4,6,8,10],[],[],[]⟩)],[]⟩
def f68_g0 (g:ground) (rates:Span) (spells:(Sl Spell)) (slotsv0:Int) (t17v0:Int) (sums_0v0:Int) (sums_1v0:Int):St:=⟨[(0,.one (.c (.p (.fp (enc_137 g) 0)))),(4,.one (.c (.ptr 4 0))),(6,.one (.c (.ptr 6 0))),(7,.one (.c (.p (.int .i64 slotsv0)))),(8,.one (.c (.ptr 8 0))),(15,.one (.c (.p (.sl spells.len 5 (fun i=>enc_56 (spells.get i)))))),(16,.one (.c (.p (.int .i64 (spells.len:Int))))),(17,.one (.c (.p (.int .i64 t17v0))))],[(4,.box 24 [.p (.int .i64 rates.Low),.p (.int .i64 rates.High)]),(6,.box 24 [.p (.int .i64 (0:Int)),.p (.int .i64 (0:Int))]),(8,.box 138 [.p (.int .i64 sums_0v0),.p (.int .i64 sums_1v0)])],[]⟩
def f68_at0 (K:List PA→Prop) (g:ground) (rates:Span) (spells:(Sl Spell)) (slotsv0:Int) (t17v0:Int) (sums_0v0:Int) (sums_1v0:Int):Prop:=vc Try.prog G68 ann68 (cdF Try.f68 [1,1,1,0,1,0]) (blockK 0 (sqK Try.prog G68 ann68 (cdF Try.f68 [1,1,1,1]) (bodyK Try.prog Try.f68 K))) (f68_g0 g rates spells slotsv0 t17v0 sums_0v0 sums_1v0)
def f68_g1 (slotsv1:Int) (sums_0v1:Int) (sums_1v1:Int):St:=⟨[(6,.one (.c (.ptr 6 0))),(7,.one (.c (.p (.int .i64 slotsv1)))),(8,.one (.c (.ptr 8 0)))],[(6,.box 24 [.p (.int .i64 (0:Int)),.p (.int .i64 (0:Int))]),(8,.box 138 [.p (.int .i64 sums_0v1),.p (.int .i64 sums_1v1)])],[]⟩
def f68_at1 (K:List PA→Prop) (slotsv1:Int) (sums_0v1:Int) (sums_1v1:Int):Prop:=vc Try.prog G68 ann68 (cdF Try.f68 [1,1,1,1]) (bodyK Try.prog Try.f68 K) (f68_g1 slotsv1 sums_0v1 sums_1v1)
theorem f68_top (g : ground) (rates : Span) (spells : (Sl Spell)) (K : List PA → Prop) :
  vcFun Try.prog G68 ann68 68 [.one (.fp (enc_137 g) 0),.agg [.int .i64 rates.Low,.int .i64 rates.High],.one (.sl spells.len 5 (fun i=>enc_56 (spells.get i)))] K =
  (f68_at0 K g rates spells (0:Int) (0:Int) (0:Int) (0:Int)):=by kernel_rfl
def f68_step0 (K:List PA→Prop) (X0:St→Prop) (g:ground) (rates:Span) (spells:(Sl Spell)) (slotsv0:Int) (t17v0:Int) (sums_0v0:Int) (sums_1v0:Int):Prop :=
  (condP (decide (t17v0 < (spells.len : Int)))
   (((0≤t17v0∧t17v0 < (spells.len:Int))) ∧
   ((IsE enc_32 1 1 (fun i=>enc_32 (g.Sky.Bins.get i))∧(p77 g.Sky ((spells.get t17v0.toNat).Weather)=true)) ∧
   ((IsE enc_32 1 1 (fun i=>enc_32 (g.Sky.Bins.get i))∧IsE enc_42 3 3 (fun i=>enc_42 (g.table.get i))∧(p97 g rates.Low ((s77 g.Sky ((spells.get t17v0.toNat).Weather)).Low)=true)) ∧
   ((IsE enc_32 1 1 (fun i=>enc_32 (g.Sky.Bins.get i))∧IsE enc_42 3 3 (fun i=>enc_42 (g.table.get i))∧(p98 g rates.High ((s77 g.Sky ((spells.get t17v0.toNat).Weather)).High)=true)) ∧
   (X0 (f68_g0 g rates spells (w64 (slotsv0+(spells.get t17v0.toNat).Slots)) (w64 (t17v0+(1:Int))) (w64 (sums_0v0+(w64 ((spells.get t17v0.toNat).Slots * (s97 g rates.Low ((s77 g.Sky ((spells.get t17v0.toNat).Weather)).Low)))))) (w64 (sums_1v0+(w64 ((spells.get t17v0.toNat).Slots * (s98 g rates.High ((s77 g.Sky ((spells.get t17v0.toNat).Weather)).High))))))))))))
   (f68_at1 K slotsv0 sums_0v0 sums_1v0))
theorem f68_stepeq0 (K : List PA → Prop) (X0 : St → Prop) (g : ground) (rates : Span) (spells : (Sl Spell)) (slotsv0 : Int) (t17v0 : Int) (sums_0v0 : Int) (sums_1v0 : Int) :
  vc Try.prog G68 ann68 (cd (cdF Try.f68 [1,1,1,0,1,0]) [0]) (loopK Try.prog ann68 4 X0 (blockK 0 (sqK Try.prog G68 ann68 (cdF Try.f68 [1,1,1,1]) (bodyK Try.prog Try.f68 K)))) (f68_g0 g rates spells slotsv0 t17v0 sums_0v0 sums_1v0) =
  f68_step0 K X0 g rates spells slotsv0 t17v0 sums_0v0 sums_1v0:=by kernel_rfl
theorem f68_loop0 (K : List PA → Prop) (g : ground) (rates : Span) (spells : (Sl Spell)) (slotsv0 : Int) (t17v0 : Int) (sums_0v0 : Int) (sums_1v0 : Int)
  (h:∀ X0:St→Prop,(∀ (slotsv0:Int) (t17v0:Int) (sums_0v0:Int) (sums_1v0:Int),f68_step0 K X0 g rates spells slotsv0 t17v0 sums_0v0 sums_1v0→X0 (f68_g0 g rates spells slotsv0 t17v0 sums_0v0 sums_1v0))→X0 (f68_g0 g rates spells slotsv0 t17v0 sums_0v0 sums_1v0)) :
  f68_at0 K g rates spells slotsv0 t17v0 sums_0v0 sums_1v0:=by
  have e:f68_at0 K g rates spells slotsv0 t17v0 sums_0v0 sums_1v0=(∀ X:St→Prop,(∀ s,vc Try.prog G68 ann68 (cd (cdF Try.f68 [1,1,1,0,1,0]) [0]) (loopK Try.prog ann68 4 X (blockK 0 (sqK Try.prog G68 ann68 (cdF Try.f68 [1,1,1,1]) (bodyK Try.prog Try.f68 K)))) s→X s)→X (f68_g0 g rates spells slotsv0 t17v0 sums_0v0 sums_1v0)):=by kernel_rfl
  refine ofEq e ?_
  intro X hX
  refine h X ?_
  intro slotsv0 t17v0 sums_0v0 sums_1v0 hs
  refine hX _ ?_
  have e2:=f68_stepeq0 K X g rates spells slotsv0 t17v0 sums_0v0 sums_1v0
  rw [e2]
  exact hs
theorem f68_eq1 (K : List PA → Prop) (slotsv1 : Int) (sums_0v1 : Int) (sums_1v1 : Int) :
  f68_at1 K slotsv1 sums_0v1 sums_1v1 =
  (((slotsv1 ≠ 0)) ∧
  (((slotsv1 ≠ 0)) ∧
  (K [.agg [.int .i64 (w64 (sums_0v1.tdiv slotsv1)),.int .i64 (w64 ((w64 ((w64 (sums_1v1+slotsv1)) - (1:Int))).tdiv slotsv1))]]))):=by kernel_rfl
abbrev e68 (r:Span):List PA:=[.agg [.int .i64 r.Low,.int .i64 r.High]]
attribute [irreducible] f68_at0 f68_at1
def s68_at1 (slotsv1:Int) (sums_0v1:Int) (sums_1v1:Int):Span :=
  (⟨(w64 (sums_0v1.tdiv slotsv1)),(w64 ((w64 ((w64 (sums_1v1+slotsv1)) - (1:Int))).tdiv slotsv1))⟩:Span)
def p68_at1 (slotsv1:Int) (sums_0v1:Int) (sums_1v1:Int):Bool :=
  (decide ((slotsv1 ≠ 0)) &&
  (decide ((slotsv1 ≠ 0)) &&
  true))
theorem q68_at1 (K:List PA→Prop) (slotsv1:Int) (sums_0v1:Int) (sums_1v1:Int) (hs:p68_at1 slotsv1 sums_0v1 sums_1v1=true) (hk:K (e68 (s68_at1 slotsv1 sums_0v1 sums_1v1))):f68_at1 K slotsv1 sums_0v1 sums_1v1:=by
  refine ofEq (f68_eq1 K slotsv1 sums_0v1 sums_1v1) ?_
  unfold p68_at1 at hs
  unfold s68_at1 at hk
  exact (andK hs fun hc hs=>⟨hc,(andK hs fun hc hs=>⟨hc,hk⟩)⟩)
def s68_st0 (g:ground) (rates:Span) (spells:(Sl Spell)) (S0:Int→Int→Int→Int→Span) (slotsv0:Int) (t17v0:Int) (sums_0v0:Int) (sums_1v0:Int):Span :=
  (cond (decide (t17v0 < (spells.len : Int)))
   (S0 (w64 (slotsv0+(spells.get t17v0.toNat).Slots)) (w64 (t17v0+(1:Int))) (w64 (sums_0v0+(w64 ((spells.get t17v0.toNat).Slots * (s97 g rates.Low ((s77 g.Sky ((spells.get t17v0.toNat).Weather)).Low)))))) (w64 (sums_1v0+(w64 ((spells.get t17v0.toNat).Slots * (s98 g rates.High ((s77 g.Sky ((spells.get t17v0.toNat).Weather)).High)))))))
   (s68_at1 slotsv0 sums_0v0 sums_1v0))
def p68_st0 (g:ground) (rates:Span) (spells:(Sl Spell)) (P0:Int→Int→Int→Int→Bool) (slotsv0:Int) (t17v0:Int) (sums_0v0:Int) (sums_1v0:Int):Bool :=
  (cond (decide (t17v0 < (spells.len : Int)))
   (decide ((0≤t17v0∧t17v0 < (spells.len:Int))) &&
   (decide ((p77 g.Sky ((spells.get t17v0.toNat).Weather)=true)) &&
   (decide ((p97 g rates.Low ((s77 g.Sky ((spells.get t17v0.toNat).Weather)).Low)=true)) &&
   (decide ((p98 g rates.High ((s77 g.Sky ((spells.get t17v0.toNat).Weather)).High)=true)) &&
   (P0 (w64 (slotsv0+(spells.get t17v0.toNat).Slots)) (w64 (t17v0+(1:Int))) (w64 (sums_0v0+(w64 ((spells.get t17v0.toNat).Slots * (s97 g rates.Low ((s77 g.Sky ((spells.get t17v0.toNat).Weather)).Low)))))) (w64 (sums_1v0+(w64 ((spells.get t17v0.toNat).Slots * (s98 g rates.High ((s77 g.Sky ((spells.get t17v0.toNat).Weather)).High)))))))))))
   (p68_at1 slotsv0 sums_0v0 sums_1v0))
def s68_lp0 (g : ground) (rates : Span) (spells : (Sl Spell)) : Nat → Int → Int → Int → Int → Span
  | 0=>fun _ _ _ _=>default
  | k+1=>s68_st0 g rates spells (s68_lp0 g rates spells k)
def p68_lp0 (g : ground) (rates : Span) (spells : (Sl Spell)) : Nat → Int → Int → Int → Int → Bool
  | 0=>fun _ _ _ _=>false
  | k+1=>p68_st0 g rates spells (p68_lp0 g rates spells k)
def s68_at0 (g:ground) (rates:Span) (spells:(Sl Spell)) (slotsv0:Int) (t17v0:Int) (sums_0v0:Int) (sums_1v0:Int):Span:=s68_lp0 g rates spells Fuel slotsv0 t17v0 sums_0v0 sums_1v0
def p68_at0 (g:ground) (rates:Span) (spells:(Sl Spell)) (slotsv0:Int) (t17v0:Int) (sums_0v0:Int) (sums_1v0:Int):Bool:=p68_lp0 g rates spells Fuel slotsv0 t17v0 sums_0v0 sums_1v0
theorem q68_at0 (K:List PA→Prop) (g:ground) (rates:Span) (spells:(Sl Spell)) (slotsv0:Int) (t17v0:Int) (sums_0v0:Int) (sums_1v0:Int) (hs:p68_at0 g rates spells slotsv0 t17v0 sums_0v0 sums_1v0=true) (hk:K (e68 (s68_at0 g rates spells slotsv0 t17v0 sums_0v0 sums_1v0))):f68_at0 K g rates spells slotsv0 t17v0 sums_0v0 sums_1v0:=by
  refine f68_loop0 K g rates spells slotsv0 t17v0 sums_0v0 sums_1v0 ?_
  intro X0 hstep
  have key:∀ (k:Nat) (slotsv0:Int) (t17v0:Int) (sums_0v0:Int) (sums_1v0:Int),p68_lp0 g rates spells k slotsv0 t17v0 sums_0v0 sums_1v0=true→K (e68 (s68_lp0 g rates spells k slotsv0 t17v0 sums_0v0 sums_1v0))→X0 (f68_g0 g rates spells slotsv0 t17v0 sums_0v0 sums_1v0):=by
    intro k
    induction k with
    | zero=>intro slotsv0 t17v0 sums_0v0 sums_1v0 hs;exact absurd hs Bool.false_ne_true
    | succ k ih =>
      intro slotsv0 t17v0 sums_0v0 sums_1v0 hs hk
      refine hstep slotsv0 t17v0 sums_0v0 sums_1v0 ?_
      have hs:p68_st0 g rates spells (p68_lp0 g rates spells k) slotsv0 t17v0 sums_0v0 sums_1v0=true:=hs
      have hk:K (e68 (s68_st0 g rates spells (s68_lp0 g rates spells k) slotsv0 t17v0 sums_0v0 sums_1v0)):=hk
      unfold p68_st0 at hs
      unfold s68_st0 at hk
      generalize s68_lp0 g rates spells k=S0 at hk ih
      generalize p68_lp0 g rates spells k=P0 at hs ih
      have hX0:=ih
      exact (condB_go (K := fun r => K (e68 r))
       (fun hs hk=>(andK hs fun hc hs=>⟨hc,(andK hs fun hc hs=>⟨⟨isE,hc⟩,(andK hs fun hc hs=>⟨⟨isE,isE,hc⟩,(andK hs fun hc hs=>⟨⟨isE,isE,hc⟩,(hX0 (w64 (slotsv0+(spells.get t17v0.toNat).Slots)) (w64 (t17v0+(1:Int))) (w64 (sums_0v0+(w64 ((spells.get t17v0.toNat).Slots * (s97 g rates.Low ((s77 g.Sky ((spells.get t17v0.toNat).Weather)).Low)))))) (w64 (sums_1v0+(w64 ((spells.get t17v0.toNat).Slots * (s98 g rates.High ((s77 g.Sky ((spells.get t17v0.toNat).Weather)).High)))))) hs hk)⟩)⟩)⟩)⟩))
       (fun hs hk=>(q68_at1 K slotsv0 sums_0v0 sums_1v0 hs hk)) hs hk)
  exact key _ slotsv0 t17v0 sums_0v0 sums_1v0 hs hk
def s68 (g:ground) (rates:Span) (spells:(Sl Spell)):Span :=
  (s68_at0 g rates spells (0:Int) (0:Int) (0:Int) (0:Int))
def p68 (g:ground) (rates:Span) (spells:(Sl Spell)):Bool :=
  (p68_at0 g rates spells (0:Int) (0:Int) (0:Int) (0:Int))
theorem q68 (g:ground) (rates:Span) (spells:(Sl Spell)) (K:List PA→Prop) (hs:p68 g rates spells=true) (hk:K (e68 (s68 g rates spells))):vcFun Try.prog G68 ann68 68 [.one (.fp (enc_137 g) 0),.agg [.int .i64 rates.Low,.int .i64 rates.High],.one (.sl spells.len 5 (fun i=>enc_56 (spells.get i)))] K:=by
  refine ofEq (f68_top g rates spells K) ?_
  unfold p68 at hs
  unfold s68 at hk
  exact (q68_at0 K g rates spells (0:Int) (0:Int) (0:Int) (0:Int) hs hk)
def ctr68 : List PA → COut
  | [.one (.fp [.int .i64 a0_Sky_Parts,.sl a0_Sky_Bins_n a0_Sky_Bins_s a0_Sky_Bins_g,.int .i64 a0_Sky_Beta_Low,.int .i64 a0_Sky_Beta_High,.int .i64 a0_Sky_Alpha_Low,.int .i64 a0_Sky_Alpha_High,.sl a0_table_n a0_table_s a0_table_g,.mp a0_known] 0),.agg [.int .i64 a1_Low,.int .i64 a1_High],.one (.sl a2_n a2_s a2_g)]=>.det (IsE enc_32 1 a0_Sky_Bins_s a0_Sky_Bins_g∧IsE enc_42 3 a0_table_s a0_table_g∧IsE enc_56 5 a2_s a2_g∧p68 (⟨(⟨a0_Sky_Parts,(⟨a0_Sky_Bins_n,decF_32 a0_Sky_Bins_g⟩:(Sl (Sl FluxRow))),(⟨a0_Sky_Beta_Low,a0_Sky_Beta_High⟩:Span),(⟨a0_Sky_Alpha_Low,a0_Sky_Alpha_High⟩:Span)⟩:Sky),(⟨a0_table_n,decF_42 a0_table_g⟩:(Sl RangeRow)),a0_known⟩:ground) (⟨a1_Low,a1_High⟩:Span) (⟨a2_n,decF_56 a2_g⟩:(Sl Spell))=true) [.agg [.int .i64 ((s68 (⟨(⟨a0_Sky_Parts,(⟨a0_Sky_Bins_n,decF_32 a0_Sky_Bins_g⟩:(Sl (Sl FluxRow))),(⟨a0_Sky_Beta_Low,a0_Sky_Beta_High⟩:Span),(⟨a0_Sky_Alpha_Low,a0_Sky_Alpha_High⟩:Span)⟩:Sky),(⟨a0_table_n,decF_42 a0_table_g⟩:(Sl RangeRow)),a0_known⟩:ground) (⟨a1_Low,a1_High⟩:Span) (⟨a2_n,decF_56 a2_g⟩:(Sl Spell))).Low),.int .i64 ((s68 (⟨(⟨a0_Sky_Parts,(⟨a0_Sky_Bins_n,decF_32 a0_Sky_Bins_g⟩:(Sl (Sl FluxRow))),(⟨a0_Sky_Beta_Low,a0_Sky_Beta_High⟩:Span),(⟨a0_Sky_Alpha_Low,a0_Sky_Alpha_High⟩:Span)⟩:Sky),(⟨a0_table_n,decF_42 a0_table_g⟩:(Sl RangeRow)),a0_known⟩:ground) (⟨a1_Low,a1_High⟩:Span) (⟨a2_n,decF_56 a2_g⟩:(Sl Spell))).High)]]
  | _=>.no
theorem call68:Callable Try.prog 68:=⟨_,rfl,rfl,by kernel_rfl⟩
theorem ok68:Ok Try.prog 68 ctr68:=ok_tab okT68 call68 fun args K h=>by
  unfold ctr68 at h
  split at h
  · rename_i a0_Sky_Parts a0_Sky_Bins_n a0_Sky_Bins_s a0_Sky_Bins_g a0_Sky_Beta_Low a0_Sky_Beta_High a0_Sky_Alpha_Low a0_Sky_Alpha_High a0_table_n a0_table_s a0_table_g a0_known a1_Low a1_High a2_n a2_s a2_g
    obtain ⟨⟨⟨rfl,a0_Sky_Bins_f,rfl⟩,⟨rfl,a0_table_f,rfl⟩,⟨rfl,a2_f,rfl⟩,hs⟩,hk⟩:=h
    try rw [decF_enc_32 a0_Sky_Bins_f] at hs
    try rw [decF_enc_32 a0_Sky_Bins_f] at hk
    try rw [decF_enc_42 a0_table_f] at hs
    try rw [decF_enc_42 a0_table_f] at hk
    try rw [decF_enc_56 a2_f] at hs
    try rw [decF_enc_56 a2_f] at hk
    exact ⟨(fun _ _=>[]),(fun _=>false),ann68,q68 (⟨(⟨a0_Sky_Parts,(⟨a0_Sky_Bins_n,a0_Sky_Bins_f⟩:(Sl (Sl FluxRow))),(⟨a0_Sky_Beta_Low,a0_Sky_Beta_High⟩:Span),(⟨a0_Sky_Alpha_Low,a0_Sky_Alpha_High⟩:Span)⟩:Sky),(⟨a0_table_n,a0_table_f⟩:(Sl RangeRow)),a0_known⟩:ground) (⟨a1_Low,a1_High⟩:Span) (⟨a2_n,a2_f⟩:(Sl Spell)) K hs hk⟩
  · exact h.elim
abbrev T23:Tabs:=((((Tabs.nil.addF 65 ctr65).addF 66 ctr66).addF 67 ctr67).addF 68 ctr68)
theorem okT23:TabsOk Try.prog T23:=((((TabsOk.nil.addF ok65).addF ok66).addF ok67).addF ok68)
abbrev G23:Ctrs:=csm T23 (fun _ _=>[]) (fun _=>false)
def ann23:Ann:=⟨37,[(0,⟨[1,2,3,4,5,10],[5,10],[],[],[]⟩),(1,⟨[2,3,4,10,12,13],[10],[],[],[]⟩),(2,⟨[2,3,4,10,12,28],[10],[],[],[]⟩),(3,⟨[10,11],[10],[],[],[]⟩),(4,⟨[10,11],[10],[],[],[]⟩)],
  [],
  [],
  [],[]⟩
theorem f23_top (s : Sky) (t : (Sl RangeRow)) (bin : Int) (opacity : Int) (spells : (Sl Spell)) (K : List PA → Prop) :
  vcFun Try.prog G23 ann23 23 [.agg [.int .i64 s.Parts,.sl s.Bins.len 1 (fun i=>enc_32 (s.Bins.get i)),.int .i64 s.Beta.Low,.int .i64 s.Beta.High,.int .i64 s.Alpha.Low,.int .i64 s.Alpha.High],.one (.sl t.len 3 (fun i=>enc_42 (t.get i))),.one (.int .i64 bin),.one (.int .i64 opacity),.one (.sl spells.len 5 (fun i=>enc_56 (spells.get i)))] K =
  ((IsE enc_32 1 1 (fun i=>enc_32 (s.Bins.get i))∧IsE enc_42 3 3 (fun i=>enc_42 (t.get i))∧(p65 s t bin opacity=true)) ∧
  (condP (!((s65 s t bin opacity).2))
   (K [.agg [.int .i64 (0:Int),.int .i64 (0:Int)],.one (.int .i64 (2:Int))])
   ((IsE enc_56 5 5 (fun i=>enc_56 (spells.get i))∧(p67 spells=true)) ∧
   (condP (!(s67 spells))
    (K [.agg [.int .i64 (0:Int),.int .i64 (0:Int)],.one (.int .i64 (2:Int))])
    ((IsE enc_32 1 1 (fun i=>enc_32 (((s65 s t bin opacity).1).Sky.Bins.get i))∧IsE enc_42 3 3 (fun i=>enc_42 (((s65 s t bin opacity).1).table.get i))∧((s65 s t bin opacity).1).known=(memoF (((s65 s t bin opacity).1).Sky) (((s65 s t bin opacity).1).table) bin)∧(p66 (((s65 s t bin opacity).1).Sky) (((s65 s t bin opacity).1).table) bin opacity=true)) ∧
    ((IsE enc_32 1 1 (fun i=>enc_32 (((s65 s t bin opacity).1).Sky.Bins.get i))∧IsE enc_42 3 3 (fun i=>enc_42 (((s65 s t bin opacity).1).table.get i))∧IsE enc_56 5 5 (fun i=>enc_56 (spells.get i))∧(p68 ((s65 s t bin opacity).1) (s66 (((s65 s t bin opacity).1).Sky) (((s65 s t bin opacity).1).table) bin opacity) spells=true)) ∧
    (K [.agg [.int .i64 ((s68 ((s65 s t bin opacity).1) (s66 (((s65 s t bin opacity).1).Sky) (((s65 s t bin opacity).1).table) bin opacity) spells).Low),.int .i64 ((s68 ((s65 s t bin opacity).1) (s66 (((s65 s t bin opacity).1).Sky) (((s65 s t bin opacity).1).table) bin opacity) spells).High)],.one (.int .i64 (0:Int))]))))))):=by kernel_rfl
abbrev e23 (r:(Span×Int)):List PA:=[.agg [.int .i64 r.1.Low,.int .i64 r.1.High],.one (.int .i64 r.2)]
def s23 (s:Sky) (t:(Sl RangeRow)) (bin:Int) (opacity:Int) (spells:(Sl Spell)):(Span×Int) :=
  (cond (!((s65 s t bin opacity).2))
   ((⟨(0:Int),(0:Int)⟩:Span),(2:Int))
   (cond (!(s67 spells))
    ((⟨(0:Int),(0:Int)⟩:Span),(2:Int))
    ((s68 ((s65 s t bin opacity).1) (s66 (((s65 s t bin opacity).1).Sky) (((s65 s t bin opacity).1).table) bin opacity) spells),(0:Int))))
def p23 (s:Sky) (t:(Sl RangeRow)) (bin:Int) (opacity:Int) (spells:(Sl Spell)):Bool :=
  (decide ((p65 s t bin opacity=true)) &&
  (cond (!((s65 s t bin opacity).2))
   true
   (decide ((p67 spells=true)) &&
   (cond (!(s67 spells))
    true
    (decide ((p66 (((s65 s t bin opacity).1).Sky) (((s65 s t bin opacity).1).table) bin opacity=true)) &&
    (decide ((p68 ((s65 s t bin opacity).1) (s66 (((s65 s t bin opacity).1).Sky) (((s65 s t bin opacity).1).table) bin opacity) spells=true)) &&
    true))))))
theorem q23 (s:Sky) (t:(Sl RangeRow)) (bin:Int) (opacity:Int) (spells:(Sl Spell)) (K:List PA→Prop) (hs:p23 s t bin opacity spells=true) (hk:K (e23 (s23 s t bin opacity spells))):vcFun Try.prog G23 ann23 23 [.agg [.int .i64 s.Parts,.sl s.Bins.len 1 (fun i=>enc_32 (s.Bins.get i)),.int .i64 s.Beta.Low,.int .i64 s.Beta.High,.int .i64 s.Alpha.Low,.int .i64 s.Alpha.High],.one (.sl t.len 3 (fun i=>enc_42 (t.get i))),.one (.int .i64 bin),.one (.int .i64 opacity),.one (.sl spells.len 5 (fun i=>enc_56 (spells.get i)))] K:=by
  refine ofEq (f23_top s t bin opacity spells K) ?_
  unfold p23 at hs
  unfold s23 at hk
  exact (andK hs fun hc hs => ⟨⟨isE, isE, hc⟩, (condB_go (K := fun r => K (e23 r))
   (fun hs hk=>hk)
   (fun hs hk => (andK hs fun hc hs => ⟨⟨isE, hc⟩, (condB_go (K := fun r => K (e23 r))
    (fun hs hk=>hk)
    (fun hs hk=>(andK hs fun hc hs=>⟨⟨isE,isE,(k65 s t bin opacity),hc⟩,(andK hs fun hc hs=>⟨⟨isE,isE,isE,hc⟩,hk⟩)⟩)) hs hk)⟩)) hs hk)⟩)
def ctr23 : List PA → COut
  | [.agg [.int .i64 a0_Parts,.sl a0_Bins_n a0_Bins_s a0_Bins_g,.int .i64 a0_Beta_Low,.int .i64 a0_Beta_High,.int .i64 a0_Alpha_Low,.int .i64 a0_Alpha_High],.one (.sl a1_n a1_s a1_g),.one (.int .i64 a2),.one (.int .i64 a3),.one (.sl a4_n a4_s a4_g)]=>.det (IsE enc_32 1 a0_Bins_s a0_Bins_g∧IsE enc_42 3 a1_s a1_g∧IsE enc_56 5 a4_s a4_g∧p23 (⟨a0_Parts,(⟨a0_Bins_n,decF_32 a0_Bins_g⟩:(Sl (Sl FluxRow))),(⟨a0_Beta_Low,a0_Beta_High⟩:Span),(⟨a0_Alpha_Low,a0_Alpha_High⟩:Span)⟩:Sky) (⟨a1_n,decF_42 a1_g⟩:(Sl RangeRow)) a2 a3 (⟨a4_n,decF_56 a4_g⟩:(Sl Spell))=true) [.agg [.int .i64 (((s23 (⟨a0_Parts,(⟨a0_Bins_n,decF_32 a0_Bins_g⟩:(Sl (Sl FluxRow))),(⟨a0_Beta_Low,a0_Beta_High⟩:Span),(⟨a0_Alpha_Low,a0_Alpha_High⟩:Span)⟩:Sky) (⟨a1_n,decF_42 a1_g⟩:(Sl RangeRow)) a2 a3 (⟨a4_n,decF_56 a4_g⟩:(Sl Spell))).1).Low),.int .i64 (((s23 (⟨a0_Parts,(⟨a0_Bins_n,decF_32 a0_Bins_g⟩:(Sl (Sl FluxRow))),(⟨a0_Beta_Low,a0_Beta_High⟩:Span),(⟨a0_Alpha_Low,a0_Alpha_High⟩:Span)⟩:Sky) (⟨a1_n,decF_42 a1_g⟩:(Sl RangeRow)) a2 a3 (⟨a4_n,decF_56 a4_g⟩:(Sl Spell))).1).High)],.one (.int .i64 ((s23 (⟨a0_Parts,(⟨a0_Bins_n,decF_32 a0_Bins_g⟩:(Sl (Sl FluxRow))),(⟨a0_Beta_Low,a0_Beta_High⟩:Span),(⟨a0_Alpha_Low,a0_Alpha_High⟩:Span)⟩:Sky) (⟨a1_n,decF_42 a1_g⟩:(Sl RangeRow)) a2 a3 (⟨a4_n,decF_56 a4_g⟩:(Sl Spell))).2))]
  | _=>.no
theorem call23:Callable Try.prog 23:=⟨_,rfl,rfl,by kernel_rfl⟩
theorem ok23:Ok Try.prog 23 ctr23:=ok_tab okT23 call23 fun args K h=>by
  unfold ctr23 at h
  split at h
  · rename_i a0_Parts a0_Bins_n a0_Bins_s a0_Bins_g a0_Beta_Low a0_Beta_High a0_Alpha_Low a0_Alpha_High a1_n a1_s a1_g a2 a3 a4_n a4_s a4_g
    obtain ⟨⟨⟨rfl,a0_Bins_f,rfl⟩,⟨rfl,a1_f,rfl⟩,⟨rfl,a4_f,rfl⟩,hs⟩,hk⟩:=h
    try rw [decF_enc_32 a0_Bins_f] at hs
    try rw [decF_enc_32 a0_Bins_f] at hk
    try rw [decF_enc_42 a1_f] at hs
    try rw [decF_enc_42 a1_f] at hk
    try rw [decF_enc_56 a4_f] at hs
    try rw [decF_enc_56 a4_f] at hk
    exact ⟨(fun _ _=>[]),(fun _=>false),ann23,q23 (⟨a0_Parts,(⟨a0_Bins_n,a0_Bins_f⟩:(Sl (Sl FluxRow))),(⟨a0_Beta_Low,a0_Beta_High⟩:Span),(⟨a0_Alpha_Low,a0_Alpha_High⟩:Span)⟩:Sky) (⟨a1_n,a1_f⟩:(Sl RangeRow)) a2 a3 (⟨a4_n,a4_f⟩:(Sl Spell)) K hs hk⟩
  · exact h.elim
end Go.Proofs
namespace Go.Proofs
open Go Go.Pm
set_option maxRecDepth 100000
set_option linter.unusedVariables false
attribute [local irreducible] Go.Pm.vcFun Go.Pm.vc Go.Pm.vcIter
abbrev T70:Tabs:=((((Tabs.nil.addF 66 ctr66).addF 68 ctr68).addO 99 own99).addO 100 own100)
theorem okT70:TabsOk Try.prog T70:=((((TabsOk.nil.addF ok66).addF ok68).addO ok99).addO ok100)
abbrev G70:Ctrs:=csm T70 (fun _ _=>[]) (fun _=>false)
def ann70:Ann:=⟨77,[(0,⟨[0,1,2],[],[],[],[]⟩),(1,⟨[0,1,2,7],[15],[],[],[]⟩),(2,⟨[0,1,2,7,19,20,21],[15],[],[],[]⟩),(3,⟨[0,1,2,7,19,20,21,22],[15],[],[],[]⟩),(4,⟨[0,1,2,7,9,19,20,21],[9,15],[],[],[]⟩),(5,⟨[0,1,2,7,19,20,21],[15],[],[],[]⟩),(6,⟨[0,1,2,7,19,20,21],[15],[],[],[]⟩),(7,⟨[0,1,2,7],[15],[],[],[]⟩),(8,⟨[0,1,2,7,10],[15],[],[],[]⟩),(9,⟨[0,1,2,10,40,41,42],[15],[],[],[]⟩),(10,⟨[0,1,2,10,40,41,42,43],[15,74],[],[],[]⟩),(11,⟨[0,1,2,10,12,40,41,42],[15,74],[],[],[]⟩),(12,⟨[0,1,2,10,12,40,41,42,47],[15,74],[],[],[]⟩),(13,⟨[0,1,2,10,12,13,40,41,42],[13,15,74],[],[],[]⟩),(14,⟨[0,1,2,10,12,13,14,40,41,42],[13,15,74],[],[],[]⟩),(15,⟨[0,1,2,10,12,13,40,41,42,68],[13,15,74],[],[],[]⟩),(16,⟨[0,1,2,10,40,41,42],[15,74],[],[],[]⟩),(17,⟨[0,1,2,10,40,41,42],[15,74],[],[],[]⟩),(18,⟨[6],[74],[],[],[]⟩)],
  [(3,⟨[0,1,2,7,19,20,21],[15],[],[],[]⟩),(10,⟨[0,1,2,10,40,41,42],[15,74],[(10,74,69,fun _=>enc_69 default)],[],[]⟩)],
  [(7,⟨[0,1,2,7],[15],[],[],[]⟩),(8,⟨[0,1,2,7],[15],[],[],[]⟩),(10,⟨[0,1,2,10,40,41,42],[15],[],[],[]⟩),(14,⟨[0,1,2,10,12,13,40,41,42],[13,15,74],[],[],[]⟩)],
  [],[]⟩
def f70_g0 (xSky:Sky) (xtable:(Sl RangeRow)) (bin:Int) (spells:(Sl Spell)) (t21v0:Int) (v15v0_n:Nat) (v15v0_g:Nat→List PV):St:=⟨[(0,.one (.c (.p (.fp (enc_137 (⟨xSky,xtable,(memoF xSky xtable bin)⟩:ground)) 0)))),(1,.one (.c (.p (.int .i64 bin)))),(2,.one (.c (.p (.sl spells.len 5 (fun i=>enc_56 (spells.get i)))))),(7,.one (.c (.vec 15))),(19,.one (.c (.p (.sl xtable.len 3 (fun i=>enc_42 (xtable.get i)))))),(20,.one (.c (.p (.int .i64 (xtable.len:Int))))),(21,.one (.c (.p (.int .i64 t21v0))))],[(15,.vec 3 1 8 v15v0_n v15v0_g)],[]⟩
def f70_at0 (K:List PA→Prop) (xSky:Sky) (xtable:(Sl RangeRow)) (bin:Int) (spells:(Sl Spell)) (t21v0:Int) (v15v0_n:Nat) (v15v0_g:Nat→List PV):Prop:=vc Try.prog G70 ann70 (cdF Try.f70 [1,0,1,0,1,0]) (blockK 0 (sqK Try.prog G70 ann70 (cdF Try.f70 [1,0,1,1]) (scopeK (bodyK Try.prog Try.f70 K)))) (f70_g0 xSky xtable bin spells t21v0 v15v0_n v15v0_g)
def f70_g1 (xSky:Sky) (xtable:(Sl RangeRow)) (bin:Int) (spellsv1_n:Nat) (spellsv1_g:Nat→List PV) (v15v1_n:Nat) (v15v1_g:Nat→List PV):St:=⟨[(0,.one (.c (.p (.fp (enc_137 (⟨xSky,xtable,(memoF xSky xtable bin)⟩:ground)) 0)))),(1,.one (.c (.p (.int .i64 bin)))),(2,.one (.c (.p (.sl spellsv1_n 5 spellsv1_g)))),(7,.one (.c (.vec 15)))],[(15,.vec 3 1 8 v15v1_n v15v1_g)],[]⟩
def f70_at1 (K:List PA→Prop) (xSky:Sky) (xtable:(Sl RangeRow)) (bin:Int) (spellsv1_n:Nat) (spellsv1_g:Nat→List PV) (v15v1_n:Nat) (v15v1_g:Nat→List PV):Prop:=vc Try.prog G70 ann70 (cdF Try.f70 [1,0,1,1]) (scopeK (bodyK Try.prog Try.f70 K)) (f70_g1 xSky xtable bin spellsv1_n spellsv1_g v15v1_n v15v1_g)
def f70_g2 (xSky:Sky) (xtable:(Sl RangeRow)) (bin:Int) (spellsv2_n:Nat) (spellsv2_g:Nat→List PV) (v15v2_n:Nat) (v15v2_g:Nat→List PV):St:=⟨[(0,.one (.c (.p (.fp (enc_137 (⟨xSky,xtable,(memoF xSky xtable bin)⟩:ground)) 0)))),(1,.one (.c (.p (.int .i64 bin)))),(2,.one (.c (.p (.sl spellsv2_n 5 spellsv2_g)))),(7,.one (.c (.vec 15)))],[(15,.vec 3 1 8 v15v2_n v15v2_g)],[]⟩
def f70_at2 (K:List PA→Prop) (xSky:Sky) (xtable:(Sl RangeRow)) (bin:Int) (spellsv2_n:Nat) (spellsv2_g:Nat→List PV) (v15v2_n:Nat) (v15v2_g:Nat→List PV):Prop:=vc Try.prog G70 ann70 (cdF Try.f70 [1,0,1,1,1]) (scopeK (bodyK Try.prog Try.f70 K)) (f70_g2 xSky xtable bin spellsv2_n spellsv2_g v15v2_n v15v2_g)
def f70_g3 (xSky:Sky) (xtable:(Sl RangeRow)) (bin:Int) (v15v2:(Sl Int)) (spellsv3_n:Nat) (spellsv3_g:Nat→List PV) (v15v3_n:Nat) (v15v3_g:Nat→List PV):St:=⟨[(0,.one (.c (.p (.fp (enc_137 (⟨xSky,xtable,(memoF xSky xtable bin)⟩:ground)) 0)))),(1,.one (.c (.p (.int .i64 bin)))),(2,.one (.c (.p (.sl spellsv3_n 5 spellsv3_g)))),(10,.one (.c (.p (.nils)))),(40,.one (.c (.vec 15))),(41,.one (.c (.p (.int .i64 ((cmpN v15v2.len v15v2.get):Int))))),(42,.one (.c (.p (.int .i64 (0:Int)))))],[(15,.vec 3 1 8 v15v3_n v15v3_g)],[]⟩
def f70_at3 (K:List PA→Prop) (xSky:Sky) (xtable:(Sl RangeRow)) (bin:Int) (v15v2:(Sl Int)) (spellsv3_n:Nat) (spellsv3_g:Nat→List PV) (v15v3_n:Nat) (v15v3_g:Nat→List PV):Prop:=vc Try.prog G70 ann70 (cdF Try.f70 [1,0,1,1,1,1,1,0,1]) (sqK Try.prog G70 ann70 (cdF Try.f70 [1,0,1,1,1,1,1,1]) (scopeK (bodyK Try.prog Try.f70 K))) (f70_g3 xSky xtable bin v15v2 spellsv3_n spellsv3_g v15v3_n v15v3_g)
def f70_g4 (xSky:Sky) (xtable:(Sl RangeRow)) (bin:Int) (v15v2:(Sl Int)) (spellsv4_n:Nat) (spellsv4_g:Nat→List PV) (t42v4:Int) (v15v4_n:Nat) (v15v4_g:Nat→List PV) (v74v4_n:Nat) (v74v4_g:Nat→List PV):St:=⟨[(0,.one (.c (.p (.fp (enc_137 (⟨xSky,xtable,(memoF xSky xtable bin)⟩:ground)) 0)))),(1,.one (.c (.p (.int .i64 bin)))),(2,.one (.c (.p (.sl spellsv4_n 5 spellsv4_g)))),(10,.one (.c (.vec 74))),(40,.one (.c (.vec 15))),(41,.one (.c (.p (.int .i64 ((cmpN v15v2.len v15v2.get):Int))))),(42,.one (.c (.p (.int .i64 t42v4))))],[(15,.vec 3 1 8 v15v4_n v15v4_g),(74,.vec 69 3 24 v74v4_n v74v4_g)],[]⟩
def f70_at4 (K:List PA→Prop) (xSky:Sky) (xtable:(Sl RangeRow)) (bin:Int) (v15v2:(Sl Int)) (spellsv4_n:Nat) (spellsv4_g:Nat→List PV) (t42v4:Int) (v15v4_n:Nat) (v15v4_g:Nat→List PV) (v74v4_n:Nat) (v74v4_g:Nat→List PV):Prop:=vc Try.prog G70 ann70 (cdF Try.f70 [1,0,1,1,1,1,1,0,1,0]) (blockK 2 (sqK Try.prog G70 ann70 (cdF Try.f70 [1,0,1,1,1,1,1,1]) (scopeK (bodyK Try.prog Try.f70 K)))) (f70_g4 xSky xtable bin v15v2 spellsv4_n spellsv4_g t42v4 v15v4_n v15v4_g v74v4_n v74v4_g)
def f70_g5 (xSky:Sky) (xtable:(Sl RangeRow)) (bin:Int) (v15v2:(Sl Int)) (spellsv5_n:Nat) (spellsv5_g:Nat→List PV) (xv5:Int) (t42v5:Int) (m_0v5:Int) (m_1v5:Int) (v15v5_n:Nat) (v15v5_g:Nat→List PV) (v74v5_n:Nat) (v74v5_g:Nat→List PV):St:=⟨[(0,.one (.c (.p (.fp (enc_137 (⟨xSky,xtable,(memoF xSky xtable bin)⟩:ground)) 0)))),(1,.one (.c (.p (.int .i64 bin)))),(2,.one (.c (.p (.sl spellsv5_n 5 spellsv5_g)))),(10,.one (.c (.vec 74))),(12,.one (.c (.p (.int .i64 xv5)))),(13,.one (.c (.ptr 13 0))),(40,.one (.c (.vec 15))),(41,.one (.c (.p (.int .i64 ((cmpN v15v2.len v15v2.get):Int))))),(42,.one (.c (.p (.int .i64 t42v5))))],[(13,.box 24 [.p (.int .i64 m_0v5),.p (.int .i64 m_1v5)]),(15,.vec 3 1 8 v15v5_n v15v5_g),(74,.vec 69 3 24 v74v5_n v74v5_g)],[]⟩
def f70_at5 (K:List PA→Prop) (X4:St→Prop) (xSky:Sky) (xtable:(Sl RangeRow)) (bin:Int) (v15v2:(Sl Int)) (spellsv5_n:Nat) (spellsv5_g:Nat→List PV) (xv5:Int) (t42v5:Int) (m_0v5:Int) (m_1v5:Int) (v15v5_n:Nat) (v15v5_g:Nat→List PV) (v74v5_n:Nat) (v74v5_g:Nat→List PV):Prop:=vc Try.prog G70 ann70 (cdF Try.f70 [1,0,1,1,1,1,1,0,1,0,0,1,1,0,0,1,1,1]) (blockK 3 (sqK Try.prog G70 ann70 (cdF Try.f70 [1,0,1,1,1,1,1,0,1,0,0,1,1,1]) (loopK Try.prog ann70 10 X4 (blockK 2 (sqK Try.prog G70 ann70 (cdF Try.f70 [1,0,1,1,1,1,1,1]) (scopeK (bodyK Try.prog Try.f70 K))))))) (f70_g5 xSky xtable bin v15v2 spellsv5_n spellsv5_g xv5 t42v5 m_0v5 m_1v5 v15v5_n v15v5_g v74v5_n v74v5_g)
theorem f70_top (xSky : Sky) (xtable : (Sl RangeRow)) (bin : Int) (spells : (Sl Spell)) (K : List PA → Prop) :
  vcFun Try.prog G70 ann70 70 [.one (.fp (enc_137 (⟨xSky,xtable,(memoF xSky xtable bin)⟩:ground)) 0),.one (.int .i64 bin),.one (.sl spells.len 5 (fun i=>enc_56 (spells.get i)))] K =
  (f70_at0 K xSky xtable bin spells (0:Int) 2 (getL [(enc_3 (0:Int)),(enc_3 (1:Int))])):=by kernel_rfl
def f70_step0 (K:List PA→Prop) (X0:St→Prop) (xSky:Sky) (xtable:(Sl RangeRow)) (bin:Int) (spells:(Sl Spell)) (t21v0:Int) (v15v0:(Sl Int)):Prop :=
  (condP (decide (t21v0 < (xtable.len : Int)))
   (((0≤t21v0∧t21v0 < (xtable.len:Int))) ∧
   ((((v15v0.len+2) * 8≤140737488355328∧v15v0.len+2≤9223372036854775807)) ∧
   (X0 (f70_g0 xSky xtable bin spells (w64 (t21v0+(1:Int))) (v15v0.len+2) (appG v15v0.len (fun i=>enc_3 (v15v0.get i)) (getL [(enc_3 (w64 ((xtable.get t21v0.toNat).Range.Low+(1:Int)))),(enc_3 (w64 ((xtable.get t21v0.toNat).Range.High+(1:Int))))]))))))
   (f70_at1 K xSky xtable bin spells.len (fun i=>enc_56 (spells.get i)) v15v0.len (fun i=>enc_3 (v15v0.get i))))
theorem f70_stepeq0 (K : List PA → Prop) (X0 : St → Prop) (xSky : Sky) (xtable : (Sl RangeRow)) (bin : Int) (spells : (Sl Spell)) (t21v0 : Int) (v15v0 : (Sl Int)) :
  vc Try.prog G70 ann70 (cd (cdF Try.f70 [1,0,1,0,1,0]) [0]) (loopK Try.prog ann70 3 X0 (blockK 0 (sqK Try.prog G70 ann70 (cdF Try.f70 [1,0,1,1]) (scopeK (bodyK Try.prog Try.f70 K))))) (f70_g0 xSky xtable bin spells t21v0 v15v0.len (fun i=>enc_3 (v15v0.get i))) =
  f70_step0 K X0 xSky xtable bin spells t21v0 v15v0:=by kernel_rfl
theorem f70_loop0 (K : List PA → Prop) (xSky : Sky) (xtable : (Sl RangeRow)) (bin : Int) (spells : (Sl Spell)) (t21v0 : Int) (v15v0_n : Nat) (v15v0_g : Nat → List PV)
  (h:∀ X0:St→Prop,(∀ (t21v0:Int) (v15v0:(Sl Int)),f70_step0 K X0 xSky xtable bin spells t21v0 v15v0→X0 (f70_g0 xSky xtable bin spells t21v0 v15v0.len (fun i=>enc_3 (v15v0.get i))))→X0 (f70_g0 xSky xtable bin spells t21v0 v15v0_n v15v0_g)) :
  f70_at0 K xSky xtable bin spells t21v0 v15v0_n v15v0_g:=by
  have e:f70_at0 K xSky xtable bin spells t21v0 v15v0_n v15v0_g=(∀ X:St→Prop,(∀ s,vc Try.prog G70 ann70 (cd (cdF Try.f70 [1,0,1,0,1,0]) [0]) (loopK Try.prog ann70 3 X (blockK 0 (sqK Try.prog G70 ann70 (cdF Try.f70 [1,0,1,1]) (scopeK (bodyK Try.prog Try.f70 K))))) s→X s)→X (f70_g0 xSky xtable bin spells t21v0 v15v0_n v15v0_g)):=by kernel_rfl
  refine ofEq e ?_
  intro X hX
  refine h X ?_
  intro t21v0 v15v0 hs
  refine hX _ ?_
  have e2:=f70_stepeq0 K X xSky xtable bin spells t21v0 v15v0
  rw [e2]
  exact hs
theorem f70_eq1 (K : List PA → Prop) (xSky : Sky) (xtable : (Sl RangeRow)) (bin : Int) (spellsv1 : (Sl Spell)) (v15v1 : (Sl Int)) :
  f70_at1 K xSky xtable bin spellsv1.len (fun i=>enc_56 (spellsv1.get i)) v15v1.len (fun i=>enc_3 (v15v1.get i)) =
  (((v15v1.len≤4611686018427387)∧IsI (fun i=>enc_3 (v15v1.get i))) ∧
  (f70_at2 K xSky xtable bin spellsv1.len (fun i=>enc_56 (spellsv1.get i)) v15v1.len (fun i=>enc_3 ((sortT v15v1.len v15v1.get) i)))):=by kernel_rfl
theorem f70_eq2 (K : List PA → Prop) (xSky : Sky) (xtable : (Sl RangeRow)) (bin : Int) (spellsv2 : (Sl Spell)) (v15v2 : (Sl Int)) :
  f70_at2 K xSky xtable bin spellsv2.len (fun i=>enc_56 (spellsv2.get i)) v15v2.len (fun i=>enc_3 (v15v2.get i)) =
  (((v15v2.len≤4611686018427387)∧IsI (fun i=>enc_3 (v15v2.get i))) ∧
  (f70_at3 K xSky xtable bin v15v2 spellsv2.len (fun i=>enc_56 (spellsv2.get i)) (cmpN v15v2.len v15v2.get) (fun i=>enc_3 ((cmpT v15v2.len v15v2.get) i)))):=by kernel_rfl
theorem f70_eq3 (K : List PA → Prop) (xSky : Sky) (xtable : (Sl RangeRow)) (bin : Int) (v15v2 : (Sl Int)) (spellsv3 : (Sl Spell)) (v15v3 : (Sl Int)) :
  f70_at3 K xSky xtable bin v15v2 spellsv3.len (fun i=>enc_56 (spellsv3.get i)) v15v3.len (fun i=>enc_3 (v15v3.get i)) =
  (f70_at4 K xSky xtable bin v15v2 spellsv3.len (fun i=>enc_56 (spellsv3.get i)) (0:Int) v15v3.len (fun i=>enc_3 (v15v3.get i)) 0 (fun i=>enc_69 ((fun _=>default) i))):=by kernel_rfl
def f70_step4 (K:List PA→Prop) (X4:St→Prop) (xSky:Sky) (xtable:(Sl RangeRow)) (bin:Int) (v15v2:(Sl Int)) (spellsv4:(Sl Spell)) (t42v4:Int) (v15v4:(Sl Int)) (v74v4:(Sl FluxStep)):Prop :=
  (condP (decide (t42v4 < ((cmpN v15v2.len v15v2.get) : Int)))
   (((0≤t42v4∧t42v4 < (v15v4.len:Int))) ∧
   (((t42v4.toNat < v15v4.len)) ∧
   (condP (decide ((v15v4.get t42v4.toNat) > (1000000:Int)))
    (K [.one (.sl v74v4.len 3 (fun i=>enc_69 (v74v4.get i)))])
    ((IsE enc_32 1 1 (fun i=>enc_32 (xSky.Bins.get i))∧IsE enc_42 3 3 (fun i=>enc_42 (xtable.get i))∧(memoF xSky xtable bin)=(memoF xSky xtable bin)∧(p66 xSky xtable bin (v15v4.get t42v4.toNat)=true)) ∧
    ((IsE enc_32 1 1 (fun i=>enc_32 (xSky.Bins.get i))∧IsE enc_42 3 3 (fun i=>enc_42 (xtable.get i))∧IsE enc_56 5 5 (fun i=>enc_56 (spellsv4.get i))∧(p68 (⟨xSky,xtable,(memoF xSky xtable bin)⟩:ground) (s66 xSky xtable bin (v15v4.get t42v4.toNat)) spellsv4=true)) ∧
    (f70_at5 K X4 xSky xtable bin v15v2 spellsv4.len (fun i=>enc_56 (spellsv4.get i)) (v15v4.get t42v4.toNat) t42v4 ((s68 (⟨xSky,xtable,(memoF xSky xtable bin)⟩:ground) (s66 xSky xtable bin (v15v4.get t42v4.toNat)) spellsv4).Low) ((s68 (⟨xSky,xtable,(memoF xSky xtable bin)⟩:ground) (s66 xSky xtable bin (v15v4.get t42v4.toNat)) spellsv4).High) v15v4.len (fun i=>enc_3 (v15v4.get i)) v74v4.len (fun i=>enc_69 (v74v4.get i))))))))
   (K [.one (.sl v74v4.len 3 (fun i=>enc_69 (v74v4.get i)))]))
theorem f70_stepeq4 (K : List PA → Prop) (X4 : St → Prop) (xSky : Sky) (xtable : (Sl RangeRow)) (bin : Int) (v15v2 : (Sl Int)) (spellsv4 : (Sl Spell)) (t42v4 : Int) (v15v4 : (Sl Int)) (v74v4 : (Sl FluxStep)) :
  vc Try.prog G70 ann70 (cd (cdF Try.f70 [1,0,1,1,1,1,1,0,1,0]) [0]) (loopK Try.prog ann70 10 X4 (blockK 2 (sqK Try.prog G70 ann70 (cdF Try.f70 [1,0,1,1,1,1,1,1]) (scopeK (bodyK Try.prog Try.f70 K))))) (f70_g4 xSky xtable bin v15v2 spellsv4.len (fun i=>enc_56 (spellsv4.get i)) t42v4 v15v4.len (fun i=>enc_3 (v15v4.get i)) v74v4.len (fun i=>enc_69 (v74v4.get i))) =
  f70_step4 K X4 xSky xtable bin v15v2 spellsv4 t42v4 v15v4 v74v4:=by kernel_rfl
theorem f70_loop4 (K : List PA → Prop) (xSky : Sky) (xtable : (Sl RangeRow)) (bin : Int) (v15v2 : (Sl Int)) (spellsv4_n : Nat) (spellsv4_g : Nat → List PV) (t42v4 : Int) (v15v4_n : Nat) (v15v4_g : Nat → List PV) (v74v4_n : Nat) (v74v4_g : Nat → List PV)
  (h:∀ X4:St→Prop,(∀ (spellsv4:(Sl Spell)) (t42v4:Int) (v15v4:(Sl Int)) (v74v4:(Sl FluxStep)),f70_step4 K X4 xSky xtable bin v15v2 spellsv4 t42v4 v15v4 v74v4→X4 (f70_g4 xSky xtable bin v15v2 spellsv4.len (fun i=>enc_56 (spellsv4.get i)) t42v4 v15v4.len (fun i=>enc_3 (v15v4.get i)) v74v4.len (fun i=>enc_69 (v74v4.get i))))→X4 (f70_g4 xSky xtable bin v15v2 spellsv4_n spellsv4_g t42v4 v15v4_n v15v4_g v74v4_n v74v4_g)) :
  f70_at4 K xSky xtable bin v15v2 spellsv4_n spellsv4_g t42v4 v15v4_n v15v4_g v74v4_n v74v4_g:=by
  have e:f70_at4 K xSky xtable bin v15v2 spellsv4_n spellsv4_g t42v4 v15v4_n v15v4_g v74v4_n v74v4_g=(∀ X:St→Prop,(∀ s,vc Try.prog G70 ann70 (cd (cdF Try.f70 [1,0,1,1,1,1,1,0,1,0]) [0]) (loopK Try.prog ann70 10 X (blockK 2 (sqK Try.prog G70 ann70 (cdF Try.f70 [1,0,1,1,1,1,1,1]) (scopeK (bodyK Try.prog Try.f70 K))))) s→X s)→X (f70_g4 xSky xtable bin v15v2 spellsv4_n spellsv4_g t42v4 v15v4_n v15v4_g v74v4_n v74v4_g)):=by kernel_rfl
  refine ofEq e ?_
  intro X hX
  refine h X ?_
  intro spellsv4 t42v4 v15v4 v74v4 hs
  refine hX _ ?_
  have e2:=f70_stepeq4 K X xSky xtable bin v15v2 spellsv4 t42v4 v15v4 v74v4
  rw [e2]
  exact hs
theorem f70_eq5 (K : List PA → Prop) (X4 : St → Prop) (xSky : Sky) (xtable : (Sl RangeRow)) (bin : Int) (v15v2 : (Sl Int)) (spellsv5 : (Sl Spell)) (xv5 : Int) (t42v5 : Int) (m_0v5 : Int) (m_1v5 : Int) (v15v5 : (Sl Int)) (v74v5 : (Sl FluxStep)) :
  f70_at5 K X4 xSky xtable bin v15v2 spellsv5.len (fun i=>enc_56 (spellsv5.get i)) xv5 t42v5 m_0v5 m_1v5 v15v5.len (fun i=>enc_3 (v15v5.get i)) v74v5.len (fun i=>enc_69 (v74v5.get i)) =
  (condP ((v74v5.len : Int) == (0:Int))
   ((((v74v5.len+1) * 24≤140737488355328∧v74v5.len+1≤9223372036854775807)) ∧
   (X4 (f70_g4 xSky xtable bin v15v2 spellsv5.len (fun i=>enc_56 (spellsv5.get i)) (w64 (t42v5+(1:Int))) v15v5.len (fun i=>enc_3 (v15v5.get i)) (v74v5.len+1) (appG v74v5.len (fun i=>enc_69 (v74v5.get i)) (fun _=>(enc_69 (⟨xv5,(⟨m_0v5,m_1v5⟩:Span)⟩:FluxStep)))))))
   (((0≤(w64 ((v74v5.len:Int) - (1:Int)))∧(w64 ((v74v5.len:Int) - (1:Int))) < (v74v5.len:Int))) ∧
   ((((w64 ((v74v5.len:Int) - (1:Int))).toNat < v74v5.len)) ∧
   (condP (!(match ((v74v5.get ((w64 ((v74v5.len : Int) - (1:Int))).toNat)).Rate.Low == m_0v5) with | true => (match ((v74v5.get ((w64 ((v74v5.len : Int) - (1:Int))).toNat)).Rate.High == m_1v5) with | true => true | false => false) | false => false))
    ((((v74v5.len+1) * 24≤140737488355328∧v74v5.len+1≤9223372036854775807)) ∧
    (X4 (f70_g4 xSky xtable bin v15v2 spellsv5.len (fun i=>enc_56 (spellsv5.get i)) (w64 (t42v5+(1:Int))) v15v5.len (fun i=>enc_3 (v15v5.get i)) (v74v5.len+1) (appG v74v5.len (fun i=>enc_69 (v74v5.get i)) (fun _=>(enc_69 (⟨xv5,(⟨m_0v5,m_1v5⟩:Span)⟩:FluxStep)))))))
    (X4 (f70_g4 xSky xtable bin v15v2 spellsv5.len (fun i=>enc_56 (spellsv5.get i)) (w64 (t42v5+(1:Int))) v15v5.len (fun i=>enc_3 (v15v5.get i)) v74v5.len (fun i=>enc_69 (v74v5.get i)))))))):=by kernel_rfl
abbrev e70 (r:(Sl FluxStep)):List PA:=[.one (.sl r.len 3 (fun i=>enc_69 (r.get i)))]
attribute [irreducible] f70_at0 f70_at1 f70_at2 f70_at3 f70_at4 f70_at5
def s70_at5 (S4:(Sl Spell)→Int→(Sl Int)→(Sl FluxStep)→(Sl FluxStep)) (xSky:Sky) (xtable:(Sl RangeRow)) (bin:Int) (v15v2:(Sl Int)) (spellsv5:(Sl Spell)) (xv5:Int) (t42v5:Int) (m_0v5:Int) (m_1v5:Int) (v15v5:(Sl Int)) (v74v5:(Sl FluxStep)):(Sl FluxStep) :=
  (cond ((v74v5.len : Int) == (0:Int))
   (S4 spellsv5 (w64 (t42v5+(1:Int))) v15v5 (⟨(v74v5.len+1),(appT v74v5.len v74v5.get (fun _=>(⟨xv5,(⟨m_0v5,m_1v5⟩:Span)⟩:FluxStep)))⟩:Sl FluxStep))
   (cond (!(match ((v74v5.get ((w64 ((v74v5.len : Int) - (1:Int))).toNat)).Rate.Low == m_0v5) with | true => (match ((v74v5.get ((w64 ((v74v5.len : Int) - (1:Int))).toNat)).Rate.High == m_1v5) with | true => true | false => false) | false => false))
    (S4 spellsv5 (w64 (t42v5+(1:Int))) v15v5 (⟨(v74v5.len+1),(appT v74v5.len v74v5.get (fun _=>(⟨xv5,(⟨m_0v5,m_1v5⟩:Span)⟩:FluxStep)))⟩:Sl FluxStep))
    (S4 spellsv5 (w64 (t42v5+(1:Int))) v15v5 v74v5)))
def p70_at5 (P4:(Sl Spell)→Int→(Sl Int)→(Sl FluxStep)→Bool) (xSky:Sky) (xtable:(Sl RangeRow)) (bin:Int) (v15v2:(Sl Int)) (spellsv5:(Sl Spell)) (xv5:Int) (t42v5:Int) (m_0v5:Int) (m_1v5:Int) (v15v5:(Sl Int)) (v74v5:(Sl FluxStep)):Bool :=
  (cond ((v74v5.len : Int) == (0:Int))
   (decide (((v74v5.len+1) * 24≤140737488355328∧v74v5.len+1≤9223372036854775807)) &&
   (P4 spellsv5 (w64 (t42v5+(1:Int))) v15v5 (⟨(v74v5.len+1),(appT v74v5.len v74v5.get (fun _=>(⟨xv5,(⟨m_0v5,m_1v5⟩:Span)⟩:FluxStep)))⟩:Sl FluxStep)))
   (decide ((0≤(w64 ((v74v5.len:Int) - (1:Int)))∧(w64 ((v74v5.len:Int) - (1:Int))) < (v74v5.len:Int))) &&
   (decide (((w64 ((v74v5.len:Int) - (1:Int))).toNat < v74v5.len)) &&
   (cond (!(match ((v74v5.get ((w64 ((v74v5.len : Int) - (1:Int))).toNat)).Rate.Low == m_0v5) with | true => (match ((v74v5.get ((w64 ((v74v5.len : Int) - (1:Int))).toNat)).Rate.High == m_1v5) with | true => true | false => false) | false => false))
    (decide (((v74v5.len+1) * 24≤140737488355328∧v74v5.len+1≤9223372036854775807)) &&
    (P4 spellsv5 (w64 (t42v5+(1:Int))) v15v5 (⟨(v74v5.len+1),(appT v74v5.len v74v5.get (fun _=>(⟨xv5,(⟨m_0v5,m_1v5⟩:Span)⟩:FluxStep)))⟩:Sl FluxStep)))
    (P4 spellsv5 (w64 (t42v5+(1:Int))) v15v5 v74v5)))))
theorem q70_at5 (K : List PA → Prop) (xSky : Sky) (xtable : (Sl RangeRow)) (bin : Int) (v15v2 : (Sl Int))
  (X4:St→Prop) (P4:(Sl Spell)→Int→(Sl Int)→(Sl FluxStep)→Bool) (S4:(Sl Spell)→Int→(Sl Int)→(Sl FluxStep)→(Sl FluxStep))
  (hX4:∀ (spellsv4:(Sl Spell)) (t42v4:Int) (v15v4:(Sl Int)) (v74v4:(Sl FluxStep)) (spellsv4_g:Nat→List PV) (spellsv4_h:spellsv4_g=fun i=>enc_56 (spellsv4.get i)) (v15v4_g:Nat→List PV) (v15v4_h:v15v4_g=fun i=>enc_3 (v15v4.get i)) (v74v4_g:Nat→List PV) (v74v4_h:v74v4_g=fun i=>enc_69 (v74v4.get i)),P4 spellsv4 t42v4 v15v4 v74v4=true→K (e70 (S4 spellsv4 t42v4 v15v4 v74v4))→X4 (f70_g4 xSky xtable bin v15v2 spellsv4.len spellsv4_g t42v4 v15v4.len v15v4_g v74v4.len v74v4_g)) (spellsv5:(Sl Spell)) (xv5:Int) (t42v5:Int) (m_0v5:Int) (m_1v5:Int) (v15v5:(Sl Int)) (v74v5:(Sl FluxStep)) (spellsv5_g:Nat→List PV) (spellsv5_h:spellsv5_g=fun i=>enc_56 (spellsv5.get i)) (v15v5_g:Nat→List PV) (v15v5_h:v15v5_g=fun i=>enc_3 (v15v5.get i)) (v74v5_g:Nat→List PV) (v74v5_h:v74v5_g=fun i=>enc_69 (v74v5.get i)) (hs:p70_at5 P4 xSky xtable bin v15v2 spellsv5 xv5 t42v5 m_0v5 m_1v5 v15v5 v74v5=true) (hk:K (e70 (s70_at5 S4 xSky xtable bin v15v2 spellsv5 xv5 t42v5 m_0v5 m_1v5 v15v5 v74v5))):f70_at5 K X4 xSky xtable bin v15v2 spellsv5.len spellsv5_g xv5 t42v5 m_0v5 m_1v5 v15v5.len v15v5_g v74v5.len v74v5_g:=by
  subst spellsv5_h
  subst v15v5_h
  subst v74v5_h
  refine ofEq (f70_eq5 K X4 xSky xtable bin v15v2 spellsv5 xv5 t42v5 m_0v5 m_1v5 v15v5 v74v5) ?_
  unfold p70_at5 at hs
  unfold s70_at5 at hk
  exact (condB_go (K := fun r => K (e70 r))
   (fun hs hk=>(andK hs fun hc hs=>⟨hc,(hX4 spellsv5 (w64 (t42v5+(1:Int))) v15v5 (⟨(v74v5.len+1),(appT v74v5.len v74v5.get (fun _=>(⟨xv5,(⟨m_0v5,m_1v5⟩:Span)⟩:FluxStep)))⟩:Sl FluxStep) (fun i=>enc_56 (spellsv5.get i)) rfl (fun i=>enc_3 (v15v5.get i)) rfl (appG v74v5.len (fun i=>enc_69 (v74v5.get i)) (fun _=>(enc_69 (⟨xv5,(⟨m_0v5,m_1v5⟩:Span)⟩:FluxStep)))) (appG_e rfl rfl) hs hk)⟩))
   (fun hs hk => (andK hs fun hc hs => ⟨hc, (andK hs fun hc hs => ⟨hc, (condB_go (K := fun r => K (e70 r))
    (fun hs hk=>(andK hs fun hc hs=>⟨hc,(hX4 spellsv5 (w64 (t42v5+(1:Int))) v15v5 (⟨(v74v5.len+1),(appT v74v5.len v74v5.get (fun _=>(⟨xv5,(⟨m_0v5,m_1v5⟩:Span)⟩:FluxStep)))⟩:Sl FluxStep) (fun i=>enc_56 (spellsv5.get i)) rfl (fun i=>enc_3 (v15v5.get i)) rfl (appG v74v5.len (fun i=>enc_69 (v74v5.get i)) (fun _=>(enc_69 (⟨xv5,(⟨m_0v5,m_1v5⟩:Span)⟩:FluxStep)))) (appG_e rfl rfl) hs hk)⟩))
    (fun hs hk=>(hX4 spellsv5 (w64 (t42v5+(1:Int))) v15v5 v74v5 (fun i=>enc_56 (spellsv5.get i)) rfl (fun i=>enc_3 (v15v5.get i)) rfl (fun i=>enc_69 (v74v5.get i)) rfl hs hk)) hs hk)⟩)⟩)) hs hk)
def s70_st4 (xSky:Sky) (xtable:(Sl RangeRow)) (bin:Int) (v15v2:(Sl Int)) (S4:(Sl Spell)→Int→(Sl Int)→(Sl FluxStep)→(Sl FluxStep)) (spellsv4:(Sl Spell)) (t42v4:Int) (v15v4:(Sl Int)) (v74v4:(Sl FluxStep)):(Sl FluxStep) :=
  (cond (decide (t42v4 < ((cmpN v15v2.len v15v2.get) : Int)))
   (cond (decide ((v15v4.get t42v4.toNat) > (1000000:Int)))
    v74v4
    (s70_at5 S4 xSky xtable bin v15v2 spellsv4 (v15v4.get t42v4.toNat) t42v4 ((s68 (⟨xSky,xtable,(memoF xSky xtable bin)⟩:ground) (s66 xSky xtable bin (v15v4.get t42v4.toNat)) spellsv4).Low) ((s68 (⟨xSky,xtable,(memoF xSky xtable bin)⟩:ground) (s66 xSky xtable bin (v15v4.get t42v4.toNat)) spellsv4).High) v15v4 v74v4))
   v74v4)
def p70_st4 (xSky:Sky) (xtable:(Sl RangeRow)) (bin:Int) (v15v2:(Sl Int)) (P4:(Sl Spell)→Int→(Sl Int)→(Sl FluxStep)→Bool) (spellsv4:(Sl Spell)) (t42v4:Int) (v15v4:(Sl Int)) (v74v4:(Sl FluxStep)):Bool :=
  (cond (decide (t42v4 < ((cmpN v15v2.len v15v2.get) : Int)))
   (decide ((0≤t42v4∧t42v4 < (v15v4.len:Int))) &&
   (decide ((t42v4.toNat < v15v4.len)) &&
   (cond (decide ((v15v4.get t42v4.toNat) > (1000000:Int)))
    true
    (decide ((p66 xSky xtable bin (v15v4.get t42v4.toNat)=true)) &&
    (decide ((p68 (⟨xSky,xtable,(memoF xSky xtable bin)⟩:ground) (s66 xSky xtable bin (v15v4.get t42v4.toNat)) spellsv4=true)) &&
    (p70_at5 P4 xSky xtable bin v15v2 spellsv4 (v15v4.get t42v4.toNat) t42v4 ((s68 (⟨xSky,xtable,(memoF xSky xtable bin)⟩:ground) (s66 xSky xtable bin (v15v4.get t42v4.toNat)) spellsv4).Low) ((s68 (⟨xSky,xtable,(memoF xSky xtable bin)⟩:ground) (s66 xSky xtable bin (v15v4.get t42v4.toNat)) spellsv4).High) v15v4 v74v4))))))
   true)
def s70_lp4 (xSky : Sky) (xtable : (Sl RangeRow)) (bin : Int) (v15v2 : (Sl Int)) : Nat → (Sl Spell) → Int → (Sl Int) → (Sl FluxStep) → (Sl FluxStep)
  | 0=>fun _ _ _ _=>default
  | k+1=>s70_st4 xSky xtable bin v15v2 (s70_lp4 xSky xtable bin v15v2 k)
def p70_lp4 (xSky : Sky) (xtable : (Sl RangeRow)) (bin : Int) (v15v2 : (Sl Int)) : Nat → (Sl Spell) → Int → (Sl Int) → (Sl FluxStep) → Bool
  | 0=>fun _ _ _ _=>false
  | k+1=>p70_st4 xSky xtable bin v15v2 (p70_lp4 xSky xtable bin v15v2 k)
def s70_at4 (xSky:Sky) (xtable:(Sl RangeRow)) (bin:Int) (v15v2:(Sl Int)) (spellsv4:(Sl Spell)) (t42v4:Int) (v15v4:(Sl Int)) (v74v4:(Sl FluxStep)):(Sl FluxStep):=s70_lp4 xSky xtable bin v15v2 Fuel spellsv4 t42v4 v15v4 v74v4
def p70_at4 (xSky:Sky) (xtable:(Sl RangeRow)) (bin:Int) (v15v2:(Sl Int)) (spellsv4:(Sl Spell)) (t42v4:Int) (v15v4:(Sl Int)) (v74v4:(Sl FluxStep)):Bool:=p70_lp4 xSky xtable bin v15v2 Fuel spellsv4 t42v4 v15v4 v74v4
theorem q70_at4 (K:List PA→Prop) (xSky:Sky) (xtable:(Sl RangeRow)) (bin:Int) (v15v2:(Sl Int)) (spellsv4:(Sl Spell)) (t42v4:Int) (v15v4:(Sl Int)) (v74v4:(Sl FluxStep)) (spellsv4_g:Nat→List PV) (spellsv4_h:spellsv4_g=fun i=>enc_56 (spellsv4.get i)) (v15v4_g:Nat→List PV) (v15v4_h:v15v4_g=fun i=>enc_3 (v15v4.get i)) (v74v4_g:Nat→List PV) (v74v4_h:v74v4_g=fun i=>enc_69 (v74v4.get i)) (hs:p70_at4 xSky xtable bin v15v2 spellsv4 t42v4 v15v4 v74v4=true) (hk:K (e70 (s70_at4 xSky xtable bin v15v2 spellsv4 t42v4 v15v4 v74v4))):f70_at4 K xSky xtable bin v15v2 spellsv4.len spellsv4_g t42v4 v15v4.len v15v4_g v74v4.len v74v4_g:=by
  refine f70_loop4 K xSky xtable bin v15v2 spellsv4.len spellsv4_g t42v4 v15v4.len v15v4_g v74v4.len v74v4_g ?_
  intro X4 hstep
  have key:∀ (k:Nat) (spellsv4:(Sl Spell)) (t42v4:Int) (v15v4:(Sl Int)) (v74v4:(Sl FluxStep)) (spellsv4_g:Nat→List PV) (spellsv4_h:spellsv4_g=fun i=>enc_56 (spellsv4.get i)) (v15v4_g:Nat→List PV) (v15v4_h:v15v4_g=fun i=>enc_3 (v15v4.get i)) (v74v4_g:Nat→List PV) (v74v4_h:v74v4_g=fun i=>enc_69 (v74v4.get i)),p70_lp4 xSky xtable bin v15v2 k spellsv4 t42v4 v15v4 v74v4=true→K (e70 (s70_lp4 xSky xtable bin v15v2 k spellsv4 t42v4 v15v4 v74v4))→X4 (f70_g4 xSky xtable bin v15v2 spellsv4.len spellsv4_g t42v4 v15v4.len v15v4_g v74v4.len v74v4_g):=by
    intro k
    induction k with
    | zero=>intro spellsv4 t42v4 v15v4 v74v4 spellsv4_g spellsv4_h v15v4_g v15v4_h v74v4_g v74v4_h hs;exact absurd hs Bool.false_ne_true
    | succ k ih =>
      intro spellsv4 t42v4 v15v4 v74v4 spellsv4_g spellsv4_h v15v4_g v15v4_h v74v4_g v74v4_h hs hk
      subst spellsv4_h
      subst v15v4_h
      subst v74v4_h
      refine hstep spellsv4 t42v4 v15v4 v74v4 ?_
      have hs:p70_st4 xSky xtable bin v15v2 (p70_lp4 xSky xtable bin v15v2 k) spellsv4 t42v4 v15v4 v74v4=true:=hs
      have hk:K (e70 (s70_st4 xSky xtable bin v15v2 (s70_lp4 xSky xtable bin v15v2 k) spellsv4 t42v4 v15v4 v74v4)):=hk
      unfold p70_st4 at hs
      unfold s70_st4 at hk
      generalize s70_lp4 xSky xtable bin v15v2 k=S4 at hk ih
      generalize p70_lp4 xSky xtable bin v15v2 k=P4 at hs ih
      have hX4:=ih
      exact (condB_go (K := fun r => K (e70 r))
       (fun hs hk => (andK hs fun hc hs => ⟨hc, (andK hs fun hc hs => ⟨hc, (condB_go (K := fun r => K (e70 r))
        (fun hs hk=>hk)
        (fun hs hk=>(andK hs fun hc hs=>⟨⟨isE,isE,rfl,hc⟩,(andK hs fun hc hs=>⟨⟨isE,isE,isE,hc⟩,(q70_at5 K xSky xtable bin v15v2 X4 P4 S4 hX4 spellsv4 (v15v4.get t42v4.toNat) t42v4 ((s68 (⟨xSky,xtable,(memoF xSky xtable bin)⟩:ground) (s66 xSky xtable bin (v15v4.get t42v4.toNat)) spellsv4).Low) ((s68 (⟨xSky,xtable,(memoF xSky xtable bin)⟩:ground) (s66 xSky xtable bin (v15v4.get t42v4.toNat)) spellsv4).High) v15v4 v74v4 (fun i=>enc_56 (spellsv4.get i)) rfl (fun i=>enc_3 (v15v4.get i)) rfl (fun i=>enc_69 (v74v4.get i)) rfl hs hk)⟩)⟩)) hs hk)⟩)⟩))
       (fun hs hk=>hk) hs hk)
  exact key _ spellsv4 t42v4 v15v4 v74v4 spellsv4_g spellsv4_h v15v4_g v15v4_h v74v4_g v74v4_h hs hk
def s70_at3 (xSky:Sky) (xtable:(Sl RangeRow)) (bin:Int) (v15v2:(Sl Int)) (spellsv3:(Sl Spell)) (v15v3:(Sl Int)):(Sl FluxStep) :=
  (s70_at4 xSky xtable bin v15v2 spellsv3 (0:Int) v15v3 (⟨0,(fun _=>default)⟩:Sl FluxStep))
def p70_at3 (xSky:Sky) (xtable:(Sl RangeRow)) (bin:Int) (v15v2:(Sl Int)) (spellsv3:(Sl Spell)) (v15v3:(Sl Int)):Bool :=
  (p70_at4 xSky xtable bin v15v2 spellsv3 (0:Int) v15v3 (⟨0,(fun _=>default)⟩:Sl FluxStep))
theorem q70_at3 (K:List PA→Prop) (xSky:Sky) (xtable:(Sl RangeRow)) (bin:Int) (v15v2:(Sl Int)) (spellsv3:(Sl Spell)) (v15v3:(Sl Int)) (spellsv3_g:Nat→List PV) (spellsv3_h:spellsv3_g=fun i=>enc_56 (spellsv3.get i)) (v15v3_g:Nat→List PV) (v15v3_h:v15v3_g=fun i=>enc_3 (v15v3.get i)) (hs:p70_at3 xSky xtable bin v15v2 spellsv3 v15v3=true) (hk:K (e70 (s70_at3 xSky xtable bin v15v2 spellsv3 v15v3))):f70_at3 K xSky xtable bin v15v2 spellsv3.len spellsv3_g v15v3.len v15v3_g:=by
  subst spellsv3_h
  subst v15v3_h
  refine ofEq (f70_eq3 K xSky xtable bin v15v2 spellsv3 v15v3) ?_
  unfold p70_at3 at hs
  unfold s70_at3 at hk
  exact (q70_at4 K xSky xtable bin v15v2 spellsv3 (0:Int) v15v3 (⟨0,(fun _=>default)⟩:Sl FluxStep) (fun i=>enc_56 (spellsv3.get i)) rfl (fun i=>enc_3 (v15v3.get i)) rfl (fun i=>enc_69 ((fun _=>default) i)) rfl hs hk)
def s70_at2 (xSky:Sky) (xtable:(Sl RangeRow)) (bin:Int) (spellsv2:(Sl Spell)) (v15v2:(Sl Int)):(Sl FluxStep) :=
  (s70_at3 xSky xtable bin v15v2 spellsv2 (⟨(cmpN v15v2.len v15v2.get),(cmpT v15v2.len v15v2.get)⟩:Sl Int))
def p70_at2 (xSky:Sky) (xtable:(Sl RangeRow)) (bin:Int) (spellsv2:(Sl Spell)) (v15v2:(Sl Int)):Bool :=
  (decide ((v15v2.len≤4611686018427387)) &&
  (p70_at3 xSky xtable bin v15v2 spellsv2 (⟨(cmpN v15v2.len v15v2.get),(cmpT v15v2.len v15v2.get)⟩:Sl Int)))
theorem q70_at2 (K:List PA→Prop) (xSky:Sky) (xtable:(Sl RangeRow)) (bin:Int) (spellsv2:(Sl Spell)) (v15v2:(Sl Int)) (spellsv2_g:Nat→List PV) (spellsv2_h:spellsv2_g=fun i=>enc_56 (spellsv2.get i)) (v15v2_g:Nat→List PV) (v15v2_h:v15v2_g=fun i=>enc_3 (v15v2.get i)) (hs:p70_at2 xSky xtable bin spellsv2 v15v2=true) (hk:K (e70 (s70_at2 xSky xtable bin spellsv2 v15v2))):f70_at2 K xSky xtable bin spellsv2.len spellsv2_g v15v2.len v15v2_g:=by
  subst spellsv2_h
  subst v15v2_h
  refine ofEq (f70_eq2 K xSky xtable bin spellsv2 v15v2) ?_
  unfold p70_at2 at hs
  unfold s70_at2 at hk
  exact (andK hs fun hc hs=>⟨⟨hc,⟨v15v2.get,rfl⟩⟩,(q70_at3 K xSky xtable bin v15v2 spellsv2 (⟨(cmpN v15v2.len v15v2.get),(cmpT v15v2.len v15v2.get)⟩:Sl Int) (fun i=>enc_56 (spellsv2.get i)) rfl (fun i=>enc_3 ((cmpT v15v2.len v15v2.get) i)) rfl hs hk)⟩)
def s70_at1 (xSky:Sky) (xtable:(Sl RangeRow)) (bin:Int) (spellsv1:(Sl Spell)) (v15v1:(Sl Int)):(Sl FluxStep) :=
  (s70_at2 xSky xtable bin spellsv1 (⟨v15v1.len,(sortT v15v1.len v15v1.get)⟩:Sl Int))
def p70_at1 (xSky:Sky) (xtable:(Sl RangeRow)) (bin:Int) (spellsv1:(Sl Spell)) (v15v1:(Sl Int)):Bool :=
  (decide ((v15v1.len≤4611686018427387)) &&
  (p70_at2 xSky xtable bin spellsv1 (⟨v15v1.len,(sortT v15v1.len v15v1.get)⟩:Sl Int)))
theorem q70_at1 (K:List PA→Prop) (xSky:Sky) (xtable:(Sl RangeRow)) (bin:Int) (spellsv1:(Sl Spell)) (v15v1:(Sl Int)) (spellsv1_g:Nat→List PV) (spellsv1_h:spellsv1_g=fun i=>enc_56 (spellsv1.get i)) (v15v1_g:Nat→List PV) (v15v1_h:v15v1_g=fun i=>enc_3 (v15v1.get i)) (hs:p70_at1 xSky xtable bin spellsv1 v15v1=true) (hk:K (e70 (s70_at1 xSky xtable bin spellsv1 v15v1))):f70_at1 K xSky xtable bin spellsv1.len spellsv1_g v15v1.len v15v1_g:=by
  subst spellsv1_h
  subst v15v1_h
  refine ofEq (f70_eq1 K xSky xtable bin spellsv1 v15v1) ?_
  unfold p70_at1 at hs
  unfold s70_at1 at hk
  exact (andK hs fun hc hs=>⟨⟨hc,⟨v15v1.get,rfl⟩⟩,(q70_at2 K xSky xtable bin spellsv1 (⟨v15v1.len,(sortT v15v1.len v15v1.get)⟩:Sl Int) (fun i=>enc_56 (spellsv1.get i)) rfl (fun i=>enc_3 ((sortT v15v1.len v15v1.get) i)) rfl hs hk)⟩)
def s70_st0 (xSky:Sky) (xtable:(Sl RangeRow)) (bin:Int) (spells:(Sl Spell)) (S0:Int→(Sl Int)→(Sl FluxStep)) (t21v0:Int) (v15v0:(Sl Int)):(Sl FluxStep) :=
  (cond (decide (t21v0 < (xtable.len : Int)))
   (S0 (w64 (t21v0+(1:Int))) (⟨(v15v0.len+2),(appT v15v0.len v15v0.get (getT (w64 ((xtable.get t21v0.toNat).Range.Low+(1:Int))) [(w64 ((xtable.get t21v0.toNat).Range.Low+(1:Int))),(w64 ((xtable.get t21v0.toNat).Range.High+(1:Int)))]))⟩:Sl Int))
   (s70_at1 xSky xtable bin spells v15v0))
def p70_st0 (xSky:Sky) (xtable:(Sl RangeRow)) (bin:Int) (spells:(Sl Spell)) (P0:Int→(Sl Int)→Bool) (t21v0:Int) (v15v0:(Sl Int)):Bool :=
  (cond (decide (t21v0 < (xtable.len : Int)))
   (decide ((0≤t21v0∧t21v0 < (xtable.len:Int))) &&
   (decide (((v15v0.len+2) * 8≤140737488355328∧v15v0.len+2≤9223372036854775807)) &&
   (P0 (w64 (t21v0+(1:Int))) (⟨(v15v0.len+2),(appT v15v0.len v15v0.get (getT (w64 ((xtable.get t21v0.toNat).Range.Low+(1:Int))) [(w64 ((xtable.get t21v0.toNat).Range.Low+(1:Int))),(w64 ((xtable.get t21v0.toNat).Range.High+(1:Int)))]))⟩:Sl Int))))
   (p70_at1 xSky xtable bin spells v15v0))
def s70_lp0 (xSky : Sky) (xtable : (Sl RangeRow)) (bin : Int) (spells : (Sl Spell)) : Nat → Int → (Sl Int) → (Sl FluxStep)
  | 0=>fun _ _=>default
  | k+1=>s70_st0 xSky xtable bin spells (s70_lp0 xSky xtable bin spells k)
def p70_lp0 (xSky : Sky) (xtable : (Sl RangeRow)) (bin : Int) (spells : (Sl Spell)) : Nat → Int → (Sl Int) → Bool
  | 0=>fun _ _=>false
  | k+1=>p70_st0 xSky xtable bin spells (p70_lp0 xSky xtable bin spells k)
def s70_at0 (xSky:Sky) (xtable:(Sl RangeRow)) (bin:Int) (spells:(Sl Spell)) (t21v0:Int) (v15v0:(Sl Int)):(Sl FluxStep):=s70_lp0 xSky xtable bin spells Fuel t21v0 v15v0
def p70_at0 (xSky:Sky) (xtable:(Sl RangeRow)) (bin:Int) (spells:(Sl Spell)) (t21v0:Int) (v15v0:(Sl Int)):Bool:=p70_lp0 xSky xtable bin spells Fuel t21v0 v15v0
theorem q70_at0 (K:List PA→Prop) (xSky:Sky) (xtable:(Sl RangeRow)) (bin:Int) (spells:(Sl Spell)) (t21v0:Int) (v15v0:(Sl Int)) (v15v0_g:Nat→List PV) (v15v0_h:v15v0_g=fun i=>enc_3 (v15v0.get i)) (hs:p70_at0 xSky xtable bin spells t21v0 v15v0=true) (hk:K (e70 (s70_at0 xSky xtable bin spells t21v0 v15v0))):f70_at0 K xSky xtable bin spells t21v0 v15v0.len v15v0_g:=by
  refine f70_loop0 K xSky xtable bin spells t21v0 v15v0.len v15v0_g ?_
  intro X0 hstep
  have key:∀ (k:Nat) (t21v0:Int) (v15v0:(Sl Int)) (v15v0_g:Nat→List PV) (v15v0_h:v15v0_g=fun i=>enc_3 (v15v0.get i)),p70_lp0 xSky xtable bin spells k t21v0 v15v0=true→K (e70 (s70_lp0 xSky xtable bin spells k t21v0 v15v0))→X0 (f70_g0 xSky xtable bin spells t21v0 v15v0.len v15v0_g):=by
    intro k
    induction k with
    | zero=>intro t21v0 v15v0 v15v0_g v15v0_h hs;exact absurd hs Bool.false_ne_true
    | succ k ih =>
      intro t21v0 v15v0 v15v0_g v15v0_h hs hk
      subst v15v0_h
      refine hstep t21v0 v15v0 ?_
      have hs:p70_st0 xSky xtable bin spells (p70_lp0 xSky xtable bin spells k) t21v0 v15v0=true:=hs
      have hk:K (e70 (s70_st0 xSky xtable bin spells (s70_lp0 xSky xtable bin spells k) t21v0 v15v0)):=hk
      unfold p70_st0 at hs
      unfold s70_st0 at hk
      generalize s70_lp0 xSky xtable bin spells k=S0 at hk ih
      generalize p70_lp0 xSky xtable bin spells k=P0 at hs ih
      have hX0:=ih
      exact (condB_go (K := fun r => K (e70 r))
       (fun hs hk=>(andK hs fun hc hs=>⟨hc,(andK hs fun hc hs=>⟨hc,(hX0 (w64 (t21v0+(1:Int))) (⟨(v15v0.len+2),(appT v15v0.len v15v0.get (getT (w64 ((xtable.get t21v0.toNat).Range.Low+(1:Int))) [(w64 ((xtable.get t21v0.toNat).Range.Low+(1:Int))),(w64 ((xtable.get t21v0.toNat).Range.High+(1:Int)))]))⟩:Sl Int) (appG v15v0.len (fun i=>enc_3 (v15v0.get i)) (getL [(enc_3 (w64 ((xtable.get t21v0.toNat).Range.Low+(1:Int)))),(enc_3 (w64 ((xtable.get t21v0.toNat).Range.High+(1:Int))))])) (appG_e rfl (getL_enc (enc:=enc_3) (x:=(w64 ((xtable.get t21v0.toNat).Range.Low+(1:Int)))) (y:=(w64 ((xtable.get t21v0.toNat).Range.High+(1:Int)))) (r:=[]))) hs hk)⟩)⟩))
       (fun hs hk=>(q70_at1 K xSky xtable bin spells v15v0 (fun i=>enc_56 (spells.get i)) rfl (fun i=>enc_3 (v15v0.get i)) rfl hs hk)) hs hk)
  exact key _ t21v0 v15v0 v15v0_g v15v0_h hs hk
def s70 (xSky:Sky) (xtable:(Sl RangeRow)) (bin:Int) (spells:(Sl Spell)):(Sl FluxStep) :=
  (s70_at0 xSky xtable bin spells (0:Int) (⟨2,(getT (0:Int) [(0:Int),(1:Int)])⟩:Sl Int))
def p70 (xSky:Sky) (xtable:(Sl RangeRow)) (bin:Int) (spells:(Sl Spell)):Bool :=
  (p70_at0 xSky xtable bin spells (0:Int) (⟨2,(getT (0:Int) [(0:Int),(1:Int)])⟩:Sl Int))
theorem q70 (xSky:Sky) (xtable:(Sl RangeRow)) (bin:Int) (spells:(Sl Spell)) (K:List PA→Prop) (hs:p70 xSky xtable bin spells=true) (hk:K (e70 (s70 xSky xtable bin spells))):vcFun Try.prog G70 ann70 70 [.one (.fp (enc_137 (⟨xSky,xtable,(memoF xSky xtable bin)⟩:ground)) 0),.one (.int .i64 bin),.one (.sl spells.len 5 (fun i=>enc_56 (spells.get i)))] K:=by
  refine ofEq (f70_top xSky xtable bin spells K) ?_
  unfold p70 at hs
  unfold s70 at hk
  exact (q70_at0 K xSky xtable bin spells (0:Int) (⟨2,(getT (0:Int) [(0:Int),(1:Int)])⟩:Sl Int) (getL [(enc_3 (0:Int)),(enc_3 (1:Int))]) (getL_enc (enc:=enc_3) (x:=(0:Int)) (y:=(1:Int)) (r:=[])) hs hk)
def ctr70 : List PA → COut
  | [.one (.fp [.int .i64 a0_Sky_Parts,.sl a0_Sky_Bins_n a0_Sky_Bins_s a0_Sky_Bins_g,.int .i64 a0_Sky_Beta_Low,.int .i64 a0_Sky_Beta_High,.int .i64 a0_Sky_Alpha_Low,.int .i64 a0_Sky_Alpha_High,.sl a0_table_n a0_table_s a0_table_g,.mp a0_known] 0),.one (.int .i64 a1),.one (.sl a2_n a2_s a2_g)]=>.det (IsE enc_56 5 a2_s a2_g∧IsE enc_32 1 a0_Sky_Bins_s a0_Sky_Bins_g∧IsE enc_42 3 a0_table_s a0_table_g∧a0_known=(memoF (⟨a0_Sky_Parts,(⟨a0_Sky_Bins_n,decF_32 a0_Sky_Bins_g⟩:(Sl (Sl FluxRow))),(⟨a0_Sky_Beta_Low,a0_Sky_Beta_High⟩:Span),(⟨a0_Sky_Alpha_Low,a0_Sky_Alpha_High⟩:Span)⟩:Sky) (⟨a0_table_n,decF_42 a0_table_g⟩:(Sl RangeRow)) a1)∧p70 (⟨a0_Sky_Parts,(⟨a0_Sky_Bins_n,decF_32 a0_Sky_Bins_g⟩:(Sl (Sl FluxRow))),(⟨a0_Sky_Beta_Low,a0_Sky_Beta_High⟩:Span),(⟨a0_Sky_Alpha_Low,a0_Sky_Alpha_High⟩:Span)⟩:Sky) (⟨a0_table_n,decF_42 a0_table_g⟩:(Sl RangeRow)) a1 (⟨a2_n,decF_56 a2_g⟩:(Sl Spell))=true) [.one (.sl ((s70 (⟨a0_Sky_Parts,(⟨a0_Sky_Bins_n,decF_32 a0_Sky_Bins_g⟩:(Sl (Sl FluxRow))),(⟨a0_Sky_Beta_Low,a0_Sky_Beta_High⟩:Span),(⟨a0_Sky_Alpha_Low,a0_Sky_Alpha_High⟩:Span)⟩:Sky) (⟨a0_table_n,decF_42 a0_table_g⟩:(Sl RangeRow)) a1 (⟨a2_n,decF_56 a2_g⟩:(Sl Spell))).len) 3 (fun i=>enc_69 ((s70 (⟨a0_Sky_Parts,(⟨a0_Sky_Bins_n,decF_32 a0_Sky_Bins_g⟩:(Sl (Sl FluxRow))),(⟨a0_Sky_Beta_Low,a0_Sky_Beta_High⟩:Span),(⟨a0_Sky_Alpha_Low,a0_Sky_Alpha_High⟩:Span)⟩:Sky) (⟨a0_table_n,decF_42 a0_table_g⟩:(Sl RangeRow)) a1 (⟨a2_n,decF_56 a2_g⟩:(Sl Spell))).get i)))]
  | _=>.no
theorem call70:Callable Try.prog 70:=⟨_,rfl,rfl,by kernel_rfl⟩
theorem ok70:Ok Try.prog 70 ctr70:=ok_tab okT70 call70 fun args K h=>by
  unfold ctr70 at h
  split at h
  · rename_i a0_Sky_Parts a0_Sky_Bins_n a0_Sky_Bins_s a0_Sky_Bins_g a0_Sky_Beta_Low a0_Sky_Beta_High a0_Sky_Alpha_Low a0_Sky_Alpha_High a0_table_n a0_table_s a0_table_g a0_known a1 a2_n a2_s a2_g
    obtain ⟨⟨⟨rfl,a2_f,rfl⟩,⟨rfl,a0_Sky_Bins_f,rfl⟩,⟨rfl,a0_table_f,rfl⟩,hF,hs⟩,hk⟩:=h
    try rw [decF_enc_32 a0_Sky_Bins_f] at hF
    try rw [decF_enc_32 a0_Sky_Bins_f] at hs
    try rw [decF_enc_32 a0_Sky_Bins_f] at hk
    try rw [decF_enc_42 a0_table_f] at hF
    try rw [decF_enc_42 a0_table_f] at hs
    try rw [decF_enc_42 a0_table_f] at hk
    try rw [decF_enc_56 a2_f] at hF
    try rw [decF_enc_56 a2_f] at hs
    try rw [decF_enc_56 a2_f] at hk
    subst hF
    exact ⟨(fun _ _=>[]),(fun _=>false),ann70,q70 (⟨a0_Sky_Parts,(⟨a0_Sky_Bins_n,a0_Sky_Bins_f⟩:(Sl (Sl FluxRow))),(⟨a0_Sky_Beta_Low,a0_Sky_Beta_High⟩:Span),(⟨a0_Sky_Alpha_Low,a0_Sky_Alpha_High⟩:Span)⟩:Sky) (⟨a0_table_n,a0_table_f⟩:(Sl RangeRow)) a1 (⟨a2_n,a2_f⟩:(Sl Spell)) K hs hk⟩
  · exact h.elim
abbrev T71:Tabs:=Tabs.nil
theorem okT71:TabsOk Try.prog T71:=TabsOk.nil
abbrev G71:Ctrs:=csm T71 (fun _ _=>[]) (fun _=>false)
def ann71:Ann:=⟨18,[(0,⟨[1,2],[2],[],[],[]⟩),(1,⟨[3],[],[],[],[]⟩)],
  [],
  [],
  [],[]⟩
theorem f71_top (c0 : Span) (x : FluxStep) (K : List PA → Prop) :
  vcFun Try.prog G71 ann71 71 [.agg [.int .i64 x.From,.int .i64 x.Rate.Low,.int .i64 x.Rate.High],.one (.fp (enc_24 c0) 0)] K =
  (condP (decide (x.Rate.Low ≤ c0.High))
   (K [.one (.bool (decide (x.Rate.High ≥ c0.Low)))])
   (K [.one (.bool false)])):=by kernel_rfl
abbrev e71 (r:Bool):List PA:=[.one (.bool r)]
def s71 (c0:Span) (x:FluxStep):Bool :=
  (cond (decide (x.Rate.Low ≤ c0.High))
   (decide (x.Rate.High ≥ c0.Low))
   false)
theorem q71 (c0:Span) (x:FluxStep) (K:List PA→Prop) (hk:K (e71 (s71 c0 x))):vcFun Try.prog G71 ann71 71 [.agg [.int .i64 x.From,.int .i64 x.Rate.Low,.int .i64 x.Rate.High],.one (.fp (enc_24 c0) 0)] K:=by
  refine ofEq (f71_top c0 x K) ?_
  unfold s71 at hk
  exact (condP_gt (K := fun r => K (e71 r))
   (fun hk=>hk)
   (fun hk=>hk) hk)
def ctr71 : List PA → COut
  | [.agg [.int .i64 a0_From,.int .i64 a0_Rate_Low,.int .i64 a0_Rate_High],.one (.fp [.int .i64 c0_Low,.int .i64 c0_High] 0)]=>.tot [.one (.bool (s71 (⟨c0_Low,c0_High⟩:Span) (⟨a0_From,(⟨a0_Rate_Low,a0_Rate_High⟩:Span)⟩:FluxStep)))]
  | _=>.no
theorem call71:Callable Try.prog 71:=⟨_,rfl,rfl,by kernel_rfl⟩
theorem ok71:Ok Try.prog 71 ctr71:=ok_tab okT71 call71 fun args K h=>by
  unfold ctr71 at h
  split at h
  · rename_i a0_From a0_Rate_Low a0_Rate_High c0_Low c0_High
    have hk:=h
    exact ⟨(fun _ _=>[]),(fun _=>false),ann71,q71 (⟨c0_Low,c0_High⟩:Span) (⟨a0_From,(⟨a0_Rate_Low,a0_Rate_High⟩:Span)⟩:FluxStep) K hk⟩
  · exact h.elim
abbrev T72:Tabs:=(Tabs.nil.addF 71 ctr71)
theorem okT72:TabsOk Try.prog T72:=(TabsOk.nil.addF ok71)
abbrev G72:Ctrs:=csm T72 (fun _ _=>[]) (fun _=>false)
def ann72:Ann:=⟨19,[(0,⟨[0,1],[],[],[],[]⟩),(1,⟨[0,1,7,8],[],[],[],[]⟩),(2,⟨[0,1,7,8,9],[],[],[],[]⟩),(3,⟨[0,1,5,7,8],[],[],[],[]⟩),(4,⟨[0,1,5,7,8,16],[],[],[],[]⟩),(5,⟨[4],[],[],[],[]⟩),(6,⟨[0,1,7,8],[],[],[],[]⟩),(7,⟨[4],[],[],[],[]⟩)],
  [(2,⟨[0,1,7,8],[],[],[],[]⟩)],
  [(5,⟨[0,1,5,7,8,16],[],[],[],[]⟩)],
  [],[]⟩
def f72_g0 (c0:Span) (sv0_n:Nat) (sv0_g:Nat→List PV) (t7v0:Int) (t8v0:Int):St:=⟨[(0,.one (.c (.p (.sl sv0_n 3 sv0_g)))),(1,.one (.c (.p (.fn 71 [] [.fp (enc_24 c0) 0])))),(7,.one (.c (.p (.int .i64 t7v0)))),(8,.one (.c (.p (.int .i64 t8v0))))],[],[]⟩
def f72_at0 (K:List PA→Prop) (c0:Span) (sv0_n:Nat) (sv0_g:Nat→List PV) (t7v0:Int) (t8v0:Int):Prop:=vc Try.prog G72 ann72 (cdF Try.f72 [1,0,1,0]) (blockK 0 (sqK Try.prog G72 ann72 (cdF Try.f72 [1,1]) (bodyK Try.prog Try.f72 K))) (f72_g0 c0 sv0_n sv0_g t7v0 t8v0)
def f72_g1 (c0:Span) (sv1_n:Nat) (sv1_g:Nat→List PV) (iv1:Int) (t7v1:Int) (t8v1:Int) (t16v1:Bool):St:=⟨[(0,.one (.c (.p (.sl sv1_n 3 sv1_g)))),(1,.one (.c (.p (.fn 71 [] [.fp (enc_24 c0) 0])))),(5,.one (.c (.p (.int .i64 iv1)))),(7,.one (.c (.p (.int .i64 t7v1)))),(8,.one (.c (.p (.int .i64 t8v1)))),(16,.one (.c (.p (.bool t16v1))))],[],[]⟩
def f72_at1 (K:List PA→Prop) (X0:St→Prop) (c0:Span) (sv1_n:Nat) (sv1_g:Nat→List PV) (iv1:Int) (t7v1:Int) (t8v1:Int) (t16v1:Bool):Prop:=vc Try.prog G72 ann72 (cdF Try.f72 [1,0,1,0,0,1,1,0,0,1,1]) (blockK 1 (sqK Try.prog G72 ann72 (cdF Try.f72 [1,0,1,0,0,1,1,1]) (loopK Try.prog ann72 2 X0 (blockK 0 (sqK Try.prog G72 ann72 (cdF Try.f72 [1,1]) (bodyK Try.prog Try.f72 K)))))) (f72_g1 c0 sv1_n sv1_g iv1 t7v1 t8v1 t16v1)
theorem f72_top (c0 : Span) (s : (Sl FluxStep)) (K : List PA → Prop) :
  vcFun Try.prog G72 ann72 72 [.one (.sl s.len 3 (fun i=>enc_69 (s.get i))),.one (.fn 71 [] [.fp (enc_24 c0) 0])] K =
  (f72_at0 K c0 s.len (fun i=>enc_69 (s.get i)) (s.len:Int) (0:Int)):=by kernel_rfl
def f72_step0 (K:List PA→Prop) (X0:St→Prop) (c0:Span) (sv0:(Sl FluxStep)) (t7v0:Int) (t8v0:Int):Prop :=
  (condP (decide (t8v0 < t7v0))
   (((0≤t8v0∧t8v0 < (sv0.len:Int))) ∧
   (f72_at1 K X0 c0 sv0.len (fun i=>enc_69 (sv0.get i)) t8v0 t7v0 t8v0 (s71 c0 (sv0.get t8v0.toNat))))
   (K [.one (.int .i64 (-1:Int))]))
theorem f72_stepeq0 (K : List PA → Prop) (X0 : St → Prop) (c0 : Span) (sv0 : (Sl FluxStep)) (t7v0 : Int) (t8v0 : Int) :
  vc Try.prog G72 ann72 (cd (cdF Try.f72 [1,0,1,0]) [0]) (loopK Try.prog ann72 2 X0 (blockK 0 (sqK Try.prog G72 ann72 (cdF Try.f72 [1,1]) (bodyK Try.prog Try.f72 K)))) (f72_g0 c0 sv0.len (fun i=>enc_69 (sv0.get i)) t7v0 t8v0) =
  f72_step0 K X0 c0 sv0 t7v0 t8v0:=by kernel_rfl
theorem f72_loop0 (K : List PA → Prop) (c0 : Span) (sv0_n : Nat) (sv0_g : Nat → List PV) (t7v0 : Int) (t8v0 : Int)
  (h:∀ X0:St→Prop,(∀ (sv0:(Sl FluxStep)) (t7v0:Int) (t8v0:Int),f72_step0 K X0 c0 sv0 t7v0 t8v0→X0 (f72_g0 c0 sv0.len (fun i=>enc_69 (sv0.get i)) t7v0 t8v0))→X0 (f72_g0 c0 sv0_n sv0_g t7v0 t8v0)) :
  f72_at0 K c0 sv0_n sv0_g t7v0 t8v0:=by
  have e:f72_at0 K c0 sv0_n sv0_g t7v0 t8v0=(∀ X:St→Prop,(∀ s,vc Try.prog G72 ann72 (cd (cdF Try.f72 [1,0,1,0]) [0]) (loopK Try.prog ann72 2 X (blockK 0 (sqK Try.prog G72 ann72 (cdF Try.f72 [1,1]) (bodyK Try.prog Try.f72 K)))) s→X s)→X (f72_g0 c0 sv0_n sv0_g t7v0 t8v0)):=by kernel_rfl
  refine ofEq e ?_
  intro X hX
  refine h X ?_
  intro sv0 t7v0 t8v0 hs
  refine hX _ ?_
  have e2:=f72_stepeq0 K X c0 sv0 t7v0 t8v0
  rw [e2]
  exact hs
theorem f72_eq1 (K : List PA → Prop) (X0 : St → Prop) (c0 : Span) (sv1 : (Sl FluxStep)) (iv1 : Int) (t7v1 : Int) (t8v1 : Int) (t16v1 : Bool) :
  f72_at1 K X0 c0 sv1.len (fun i=>enc_69 (sv1.get i)) iv1 t7v1 t8v1 t16v1 =
  (condP t16v1
   (K [.one (.int .i64 iv1)])
   (X0 (f72_g0 c0 sv1.len (fun i=>enc_69 (sv1.get i)) t7v1 (w64 (t8v1+(1:Int)))))):=by kernel_rfl
abbrev e72 (r:Int):List PA:=[.one (.int .i64 r)]
attribute [irreducible] f72_at0 f72_at1
def s72_at1 (S0:(Sl FluxStep)→Int→Int→Int) (c0:Span) (sv1:(Sl FluxStep)) (iv1:Int) (t7v1:Int) (t8v1:Int) (t16v1:Bool):Int :=
  (cond t16v1
   iv1
   (S0 sv1 t7v1 (w64 (t8v1+(1:Int)))))
def p72_at1 (P0:(Sl FluxStep)→Int→Int→Bool) (c0:Span) (sv1:(Sl FluxStep)) (iv1:Int) (t7v1:Int) (t8v1:Int) (t16v1:Bool):Bool :=
  (cond t16v1
   true
   (P0 sv1 t7v1 (w64 (t8v1+(1:Int)))))
theorem q72_at1 (K : List PA → Prop) (c0 : Span)
  (X0:St→Prop) (P0:(Sl FluxStep)→Int→Int→Bool) (S0:(Sl FluxStep)→Int→Int→Int)
  (hX0:∀ (sv0:(Sl FluxStep)) (t7v0:Int) (t8v0:Int) (sv0_g:Nat→List PV) (sv0_h:sv0_g=fun i=>enc_69 (sv0.get i)),P0 sv0 t7v0 t8v0=true→K (e72 (S0 sv0 t7v0 t8v0))→X0 (f72_g0 c0 sv0.len sv0_g t7v0 t8v0)) (sv1:(Sl FluxStep)) (iv1:Int) (t7v1:Int) (t8v1:Int) (t16v1:Bool) (sv1_g:Nat→List PV) (sv1_h:sv1_g=fun i=>enc_69 (sv1.get i)) (hs:p72_at1 P0 c0 sv1 iv1 t7v1 t8v1 t16v1=true) (hk:K (e72 (s72_at1 S0 c0 sv1 iv1 t7v1 t8v1 t16v1))):f72_at1 K X0 c0 sv1.len sv1_g iv1 t7v1 t8v1 t16v1:=by
  subst sv1_h
  refine ofEq (f72_eq1 K X0 c0 sv1 iv1 t7v1 t8v1 t16v1) ?_
  unfold p72_at1 at hs
  unfold s72_at1 at hk
  exact (condB_go (K := fun r => K (e72 r))
   (fun hs hk=>hk)
   (fun hs hk=>(hX0 sv1 t7v1 (w64 (t8v1+(1:Int))) (fun i=>enc_69 (sv1.get i)) rfl hs hk)) hs hk)
def s72_st0 (c0:Span) (S0:(Sl FluxStep)→Int→Int→Int) (sv0:(Sl FluxStep)) (t7v0:Int) (t8v0:Int):Int :=
  (cond (decide (t8v0 < t7v0))
   (s72_at1 S0 c0 sv0 t8v0 t7v0 t8v0 (s71 c0 (sv0.get t8v0.toNat)))
   (-1:Int))
def p72_st0 (c0:Span) (P0:(Sl FluxStep)→Int→Int→Bool) (sv0:(Sl FluxStep)) (t7v0:Int) (t8v0:Int):Bool :=
  (cond (decide (t8v0 < t7v0))
   (decide ((0≤t8v0∧t8v0 < (sv0.len:Int))) &&
   (p72_at1 P0 c0 sv0 t8v0 t7v0 t8v0 (s71 c0 (sv0.get t8v0.toNat))))
   true)
def s72_lp0 (c0 : Span) : Nat → (Sl FluxStep) → Int → Int → Int
  | 0=>fun _ _ _=>default
  | k+1=>s72_st0 c0 (s72_lp0 c0 k)
def p72_lp0 (c0 : Span) : Nat → (Sl FluxStep) → Int → Int → Bool
  | 0=>fun _ _ _=>false
  | k+1=>p72_st0 c0 (p72_lp0 c0 k)
def s72_at0 (c0:Span) (sv0:(Sl FluxStep)) (t7v0:Int) (t8v0:Int):Int:=s72_lp0 c0 Fuel sv0 t7v0 t8v0
def p72_at0 (c0:Span) (sv0:(Sl FluxStep)) (t7v0:Int) (t8v0:Int):Bool:=p72_lp0 c0 Fuel sv0 t7v0 t8v0
theorem q72_at0 (K:List PA→Prop) (c0:Span) (sv0:(Sl FluxStep)) (t7v0:Int) (t8v0:Int) (sv0_g:Nat→List PV) (sv0_h:sv0_g=fun i=>enc_69 (sv0.get i)) (hs:p72_at0 c0 sv0 t7v0 t8v0=true) (hk:K (e72 (s72_at0 c0 sv0 t7v0 t8v0))):f72_at0 K c0 sv0.len sv0_g t7v0 t8v0:=by
  refine f72_loop0 K c0 sv0.len sv0_g t7v0 t8v0 ?_
  intro X0 hstep
  have key:∀ (k:Nat) (sv0:(Sl FluxStep)) (t7v0:Int) (t8v0:Int) (sv0_g:Nat→List PV) (sv0_h:sv0_g=fun i=>enc_69 (sv0.get i)),p72_lp0 c0 k sv0 t7v0 t8v0=true→K (e72 (s72_lp0 c0 k sv0 t7v0 t8v0))→X0 (f72_g0 c0 sv0.len sv0_g t7v0 t8v0):=by
    intro k
    induction k with
    | zero=>intro sv0 t7v0 t8v0 sv0_g sv0_h hs;exact absurd hs Bool.false_ne_true
    | succ k ih =>
      intro sv0 t7v0 t8v0 sv0_g sv0_h hs hk
      subst sv0_h
      refine hstep sv0 t7v0 t8v0 ?_
      have hs:p72_st0 c0 (p72_lp0 c0 k) sv0 t7v0 t8v0=true:=hs
      have hk:K (e72 (s72_st0 c0 (s72_lp0 c0 k) sv0 t7v0 t8v0)):=hk
      unfold p72_st0 at hs
      unfold s72_st0 at hk
      generalize s72_lp0 c0 k=S0 at hk ih
      generalize p72_lp0 c0 k=P0 at hs ih
      have hX0:=ih
      exact (condB_go (K := fun r => K (e72 r))
       (fun hs hk=>(andK hs fun hc hs=>⟨hc,(q72_at1 K c0 X0 P0 S0 hX0 sv0 t8v0 t7v0 t8v0 (s71 c0 (sv0.get t8v0.toNat)) (fun i=>enc_69 (sv0.get i)) rfl hs hk)⟩))
       (fun hs hk=>hk) hs hk)
  exact key _ sv0 t7v0 t8v0 sv0_g sv0_h hs hk
def s72 (c0:Span) (s:(Sl FluxStep)):Int :=
  (s72_at0 c0 s (s.len:Int) (0:Int))
def p72 (c0:Span) (s:(Sl FluxStep)):Bool :=
  (p72_at0 c0 s (s.len:Int) (0:Int))
theorem q72 (c0:Span) (s:(Sl FluxStep)) (K:List PA→Prop) (hs:p72 c0 s=true) (hk:K (e72 (s72 c0 s))):vcFun Try.prog G72 ann72 72 [.one (.sl s.len 3 (fun i=>enc_69 (s.get i))),.one (.fn 71 [] [.fp (enc_24 c0) 0])] K:=by
  refine ofEq (f72_top c0 s K) ?_
  unfold p72 at hs
  unfold s72 at hk
  exact (q72_at0 K c0 s (s.len:Int) (0:Int) (fun i=>enc_69 (s.get i)) rfl hs hk)
def ctr72 : List PA → COut
  | [.one (.sl a0_n a0_s a0_g),.one (.fn 71 [] [.fp [.int .i64 c0_Low,.int .i64 c0_High] 0])]=>.det (IsE enc_69 3 a0_s a0_g∧p72 (⟨c0_Low,c0_High⟩:Span) (⟨a0_n,decF_69 a0_g⟩:(Sl FluxStep))=true) [.one (.int .i64 (s72 (⟨c0_Low,c0_High⟩:Span) (⟨a0_n,decF_69 a0_g⟩:(Sl FluxStep))))]
  | _=>.no
theorem call72:Callable Try.prog 72:=⟨_,rfl,rfl,by kernel_rfl⟩
theorem ok72:Ok Try.prog 72 ctr72:=ok_tab okT72 call72 fun args K h=>by
  unfold ctr72 at h
  split at h
  · rename_i a0_n a0_s a0_g c0_Low c0_High
    obtain ⟨⟨⟨rfl,a0_f,rfl⟩,hs⟩,hk⟩:=h
    try rw [decF_enc_69 a0_f] at hs
    try rw [decF_enc_69 a0_f] at hk
    exact ⟨(fun _ _=>[]),(fun _=>false),ann72,q72 (⟨c0_Low,c0_High⟩:Span) (⟨a0_n,a0_f⟩:(Sl FluxStep)) K hs hk⟩
  · exact h.elim
end Go.Proofs
namespace Go.Proofs
open Go Go.Pm
set_option maxRecDepth 100000
set_option linter.unusedVariables false
attribute [local irreducible] Go.Pm.vcFun Go.Pm.vc Go.Pm.vcIter
abbrev T25:Tabs:=((((((Tabs.nil.addF 65 ctr65).addF 67 ctr67).addF 69 ctr69).addF 70 ctr70).addF 71 ctr71).addF 72 ctr72)
theorem okT25:TabsOk Try.prog T25:=((((((TabsOk.nil.addF ok65).addF ok67).addF ok69).addF ok70).addF ok71).addF ok72)
abbrev G25:Ctrs:=csm T25 (fun _ _=>[]) (fun _=>false)
def ann25:Ann:=⟨88,[(0,⟨[1,2,4,5,8,10],[5,8,10],[],[],[]⟩),(1,⟨[2,4,5,8,10,12,13],[5,8,10],[],[],[]⟩),(2,⟨[2,4,8,10,12,39],[8,10],[],[],[]⟩),(3,⟨[10,11],[10],[],[],[]⟩),(4,⟨[8,10,14],[8,10],[],[],[]⟩),(5,⟨[10,14,15],[10],[],[],[]⟩),(6,⟨[10,14,15,16],[10],[],[],[]⟩),(7,⟨[10,14,15,16,50],[10],[],[],[]⟩),(8,⟨[10,11],[10],[],[],[]⟩),(9,⟨[10,14,15,16,17],[10,17],[],[],[]⟩),(10,⟨[10,14,15,17,18],[10,17],[],[],[]⟩),(11,⟨[10,14,15,17,18,70],[10,17],[],[],[]⟩),(12,⟨[10,14,15,17,18],[10,17],[],[],[]⟩),(13,⟨[10,14,15,17,18],[10,17],[],[],[]⟩),(14,⟨[10,14,15,17,18,78],[10,17],[],[],[]⟩),(15,⟨[10,14,15,17,18],[10,17],[],[],[]⟩),(16,⟨[10,11],[10],[],[],[]⟩)],
  [(11,⟨[10,14,15,17,18],[10,17],[],[],[]⟩)],
  [(2,⟨[2,4,5,8,10,12,13],[5,8,10],[],[],[]⟩),(3,⟨[2,4,8,10,12,39],[8,10],[],[],[]⟩),(4,⟨[2,4,8,10,12],[8,10],[],[],[]⟩),(5,⟨[8,10,14],[8,10],[],[],[]⟩),(7,⟨[10,14,15,16],[10],[],[],[]⟩),(9,⟨[10,14,15,16],[10],[],[],[]⟩)],
  [],[]⟩
def f25_g0 (s:Sky) (t:(Sl RangeRow)) (bin:Int) (rates:Span) (spellsv0_n:Nat) (spellsv0_g:Nat→List PV) (okv0:Bool) (s_1v0_n:Nat) (s_1v0_g:Nat→List PV):St:=⟨[(2,.one (.c (.p (.int .i64 bin)))),(4,.one (.c (.p (.sl spellsv0_n 5 spellsv0_g)))),(5,.one (.c (.ptr 5 0))),(8,.one (.c (.ptr 8 0))),(10,.one (.c (.ptr 10 0))),(12,.one (.c (.p (.fp (enc_137 ((s65 s t bin (0:Int)).1)) 0)))),(13,.one (.c (.p (.bool okv0))))],[(5,.box 26 [.p (.int .i64 s.Parts),.p (.sl s_1v0_n 1 s_1v0_g),.p (.int .i64 s.Beta.Low),.p (.int .i64 s.Beta.High),.p (.int .i64 s.Alpha.Low),.p (.int .i64 s.Alpha.High)]),(8,.box 24 [.p (.int .i64 rates.Low),.p (.int .i64 rates.High)]),(10,.box 24 [.p (.int .i64 (0:Int)),.p (.int .i64 (0:Int))])],[]⟩
def f25_at0 (K:List PA→Prop) (s:Sky) (t:(Sl RangeRow)) (bin:Int) (rates:Span) (spellsv0_n:Nat) (spellsv0_g:Nat→List PV) (okv0:Bool) (s_1v0_n:Nat) (s_1v0_g:Nat→List PV):Prop:=vc Try.prog G25 ann25 (cdF Try.f25 [1,1]) (bodyK Try.prog Try.f25 K) (f25_g0 s t bin rates spellsv0_n spellsv0_g okv0 s_1v0_n s_1v0_g)
def f25_g1 (s:Sky) (t:(Sl RangeRow)) (bin:Int) (rates:Span) (spellsv1_n:Nat) (spellsv1_g:Nat→List PV) (t39v1:Bool):St:=⟨[(2,.one (.c (.p (.int .i64 bin)))),(4,.one (.c (.p (.sl spellsv1_n 5 spellsv1_g)))),(8,.one (.c (.ptr 8 0))),(10,.one (.c (.ptr 10 0))),(12,.one (.c (.p (.fp (enc_137 ((s65 s t bin (0:Int)).1)) 0)))),(39,.one (.c (.p (.bool t39v1))))],[(8,.box 24 [.p (.int .i64 rates.Low),.p (.int .i64 rates.High)]),(10,.box 24 [.p (.int .i64 (0:Int)),.p (.int .i64 (0:Int))])],[]⟩
def f25_at1 (K:List PA→Prop) (s:Sky) (t:(Sl RangeRow)) (bin:Int) (rates:Span) (spellsv1_n:Nat) (spellsv1_g:Nat→List PV) (t39v1:Bool):Prop:=vc Try.prog G25 ann25 (cdF Try.f25 [1,1,0,1]) (sqK Try.prog G25 ann25 (cdF Try.f25 [1,1,1]) (bodyK Try.prog Try.f25 K)) (f25_g1 s t bin rates spellsv1_n spellsv1_g t39v1)
def f25_g2 (s:Sky) (t:(Sl RangeRow)) (bin:Int) (rates:Span) (spellsv2_n:Nat) (spellsv2_g:Nat→List PV):St:=⟨[(2,.one (.c (.p (.int .i64 bin)))),(4,.one (.c (.p (.sl spellsv2_n 5 spellsv2_g)))),(8,.one (.c (.ptr 8 0))),(10,.one (.c (.ptr 10 0))),(12,.one (.c (.p (.fp (enc_137 ((s65 s t bin (0:Int)).1)) 0))))],[(8,.box 24 [.p (.int .i64 rates.Low),.p (.int .i64 rates.High)]),(10,.box 24 [.p (.int .i64 (0:Int)),.p (.int .i64 (0:Int))])],[]⟩
def f25_at2 (K:List PA→Prop) (s:Sky) (t:(Sl RangeRow)) (bin:Int) (rates:Span) (spellsv2_n:Nat) (spellsv2_g:Nat→List PV):Prop:=vc Try.prog G25 ann25 (cdF Try.f25 [1,1,1]) (bodyK Try.prog Try.f25 K) (f25_g2 s t bin rates spellsv2_n spellsv2_g)
def f25_g3 (rates:Span) (cv3_n:Nat) (cv3_g:Nat→List PV):St:=⟨[(8,.one (.c (.ptr 8 0))),(10,.one (.c (.ptr 10 0))),(14,.one (.c (.p (.sl cv3_n 3 cv3_g))))],[(8,.box 24 [.p (.int .i64 rates.Low),.p (.int .i64 rates.High)]),(10,.box 24 [.p (.int .i64 (0:Int)),.p (.int .i64 (0:Int))])],[]⟩
def f25_at3 (K:List PA→Prop) (rates:Span) (cv3_n:Nat) (cv3_g:Nat→List PV):Prop:=vc Try.prog G25 ann25 (cdF Try.f25 [1,1,1,1]) (bodyK Try.prog Try.f25 K) (f25_g3 rates cv3_n cv3_g)
def f25_g4 (rates:Span) (cv3:(Sl FluxStep)) (iv4:Int):St:=⟨[(10,.one (.c (.ptr 10 0))),(14,.one (.c (.p (.sl cv3.len 3 (fun i=>enc_69 (cv3.get i)))))),(15,.one (.c (.p (.fn 71 [] [.fp (enc_24 rates) 0])))),(16,.one (.c (.p (.int .i64 iv4))))],[(10,.box 24 [.p (.int .i64 (0:Int)),.p (.int .i64 (0:Int))])],[]⟩
def f25_at4 (K:List PA→Prop) (rates:Span) (cv3:(Sl FluxStep)) (iv4:Int):Prop:=vc Try.prog G25 ann25 (cdF Try.f25 [1,1,1,1,1,1]) (bodyK Try.prog Try.f25 K) (f25_g4 rates cv3 iv4)
def f25_g5 (rates:Span) (cv3:(Sl FluxStep)) (iv4:Int):St:=⟨[(10,.one (.c (.ptr 10 0))),(14,.one (.c (.p (.sl cv3.len 3 (fun i=>enc_69 (cv3.get i)))))),(15,.one (.c (.p (.fn 71 [] [.fp (enc_24 rates) 0])))),(16,.one (.c (.p (.int .i64 iv4))))],[(10,.box 24 [.p (.int .i64 (0:Int)),.p (.int .i64 (0:Int))])],[]⟩
def f25_at5 (K:List PA→Prop) (rates:Span) (cv3:(Sl FluxStep)) (iv4:Int):Prop:=vc Try.prog G25 ann25 (cdF Try.f25 [1,1,1,1,1,1,1]) (bodyK Try.prog Try.f25 K) (f25_g5 rates cv3 iv4)
def f25_g6 (rates:Span) (cv3:(Sl FluxStep)) (iv4:Int) (kv6:Int) (out_1v6:Int):St:=⟨[(10,.one (.c (.ptr 10 0))),(14,.one (.c (.p (.sl cv3.len 3 (fun i=>enc_69 (cv3.get i)))))),(15,.one (.c (.p (.fn 71 [] [.fp (enc_24 rates) 0])))),(17,.one (.c (.ptr 17 0))),(18,.one (.c (.p (.int .i64 kv6))))],[(10,.box 24 [.p (.int .i64 (0:Int)),.p (.int .i64 (0:Int))]),(17,.box 24 [.p (.int .i64 ((cv3.get iv4.toNat).From)),.p (.int .i64 out_1v6)])],[]⟩
def f25_at6 (K:List PA→Prop) (rates:Span) (cv3:(Sl FluxStep)) (iv4:Int) (kv6:Int) (out_1v6:Int):Prop:=vc Try.prog G25 ann25 (cdF Try.f25 [1,1,1,1,1,1,1,1,0,1,0]) (blockK 0 (sqK Try.prog G25 ann25 (cdF Try.f25 [1,1,1,1,1,1,1,1,1]) (bodyK Try.prog Try.f25 K))) (f25_g6 rates cv3 iv4 kv6 out_1v6)
theorem f25_top (s : Sky) (t : (Sl RangeRow)) (bin : Int) (rates : Span) (spells : (Sl Spell)) (K : List PA → Prop) :
  vcFun Try.prog G25 ann25 25 [.agg [.int .i64 s.Parts,.sl s.Bins.len 1 (fun i=>enc_32 (s.Bins.get i)),.int .i64 s.Beta.Low,.int .i64 s.Beta.High,.int .i64 s.Alpha.Low,.int .i64 s.Alpha.High],.one (.sl t.len 3 (fun i=>enc_42 (t.get i))),.one (.int .i64 bin),.agg [.int .i64 rates.Low,.int .i64 rates.High],.one (.sl spells.len 5 (fun i=>enc_56 (spells.get i)))] K =
  ((IsE enc_32 1 1 (fun i=>enc_32 (s.Bins.get i))∧IsE enc_42 3 3 (fun i=>enc_42 (t.get i))∧(p65 s t bin (0:Int)=true)) ∧
  (f25_at0 K s t bin rates spells.len (fun i=>enc_56 (spells.get i)) ((s65 s t bin (0:Int)).2) s.Bins.len (fun i=>enc_32 (s.Bins.get i)))):=by kernel_rfl
theorem f25_eq0 (K : List PA → Prop) (s : Sky) (t : (Sl RangeRow)) (bin : Int) (rates : Span) (spellsv0 : (Sl Spell)) (okv0 : Bool) (s_1v0 : (Sl (Sl FluxRow))) :
  f25_at0 K s t bin rates spellsv0.len (fun i=>enc_56 (spellsv0.get i)) okv0 s_1v0.len (fun i=>enc_32 (s_1v0.get i)) =
  (condP (!okv0)
   (f25_at1 K s t bin rates spellsv0.len (fun i=>enc_56 (spellsv0.get i)) true)
   ((IsE enc_56 5 5 (fun i=>enc_56 (spellsv0.get i))∧(p67 spellsv0=true)) ∧
   (condP (!(s67 spellsv0))
    (f25_at1 K s t bin rates spellsv0.len (fun i=>enc_56 (spellsv0.get i)) true)
    (f25_at1 K s t bin rates spellsv0.len (fun i=>enc_56 (spellsv0.get i)) (!(s69 rates (0:Int) s.Parts)))))):=by kernel_rfl
theorem f25_eq1 (K : List PA → Prop) (s : Sky) (t : (Sl RangeRow)) (bin : Int) (rates : Span) (spellsv1 : (Sl Spell)) (t39v1 : Bool) :
  f25_at1 K s t bin rates spellsv1.len (fun i=>enc_56 (spellsv1.get i)) t39v1 =
  (condP t39v1
   (K [.agg [.int .i64 (0:Int),.int .i64 (0:Int)],.one (.int .i64 (2:Int))])
   (f25_at2 K s t bin rates spellsv1.len (fun i=>enc_56 (spellsv1.get i)))):=by kernel_rfl
theorem f25_eq2 (K : List PA → Prop) (s : Sky) (t : (Sl RangeRow)) (bin : Int) (rates : Span) (spellsv2 : (Sl Spell)) :
  f25_at2 K s t bin rates spellsv2.len (fun i=>enc_56 (spellsv2.get i)) =
  ((IsE enc_56 5 5 (fun i=>enc_56 (spellsv2.get i))∧IsE enc_32 1 1 (fun i=>enc_32 (((s65 s t bin (0:Int)).1).Sky.Bins.get i))∧IsE enc_42 3 3 (fun i=>enc_42 (((s65 s t bin (0:Int)).1).table.get i))∧((s65 s t bin (0:Int)).1).known=(memoF (((s65 s t bin (0:Int)).1).Sky) (((s65 s t bin (0:Int)).1).table) bin)∧(p70 (((s65 s t bin (0:Int)).1).Sky) (((s65 s t bin (0:Int)).1).table) bin spellsv2=true)) ∧
  (f25_at3 K rates ((s70 (((s65 s t bin (0:Int)).1).Sky) (((s65 s t bin (0:Int)).1).table) bin spellsv2).len) (fun i=>enc_69 ((s70 (((s65 s t bin (0:Int)).1).Sky) (((s65 s t bin (0:Int)).1).table) bin spellsv2).get i)))):=by kernel_rfl
theorem f25_eq3 (K : List PA → Prop) (rates : Span) (cv3 : (Sl FluxStep)) :
  f25_at3 K rates cv3.len (fun i=>enc_69 (cv3.get i)) =
  ((IsE enc_69 3 3 (fun i=>enc_69 (cv3.get i))∧(p72 rates cv3=true)) ∧
  (f25_at4 K rates cv3 (s72 rates cv3))):=by kernel_rfl
theorem f25_eq4 (K : List PA → Prop) (rates : Span) (cv3 : (Sl FluxStep)) (iv4 : Int) :
  f25_at4 K rates cv3 iv4 =
  (condP (decide (iv4 < (0:Int)))
   (K [.agg [.int .i64 (0:Int),.int .i64 (0:Int)],.one (.int .i64 (5:Int))])
   (f25_at5 K rates cv3 iv4)):=by kernel_rfl
theorem f25_eq5 (K : List PA → Prop) (rates : Span) (cv3 : (Sl FluxStep)) (iv4 : Int) :
  f25_at5 K rates cv3 iv4 =
  (((0≤iv4∧iv4 < (cv3.len:Int))) ∧
  (f25_at6 K rates cv3 iv4 iv4 (0:Int))):=by kernel_rfl
def f25_step6 (K:List PA→Prop) (X6:St→Prop) (rates:Span) (cv3:(Sl FluxStep)) (iv4:Int) (kv6:Int) (out_1v6:Int):Prop :=
  (condP (decide (kv6 < (cv3.len : Int)))
   (((0≤kv6∧kv6 < (cv3.len:Int))) ∧
   (condP (s71 rates (cv3.get kv6.toNat))
    (condP (decide ((w64 (kv6 + (1:Int))) < (cv3.len : Int)))
     (((0≤(w64 (kv6+(1:Int)))∧(w64 (kv6+(1:Int))) < (cv3.len:Int))) ∧
     (X6 (f25_g6 rates cv3 iv4 (w64 (kv6+(1:Int))) (w64 ((cv3.get ((w64 (kv6+(1:Int))).toNat)).From - (1:Int))))))
     (X6 (f25_g6 rates cv3 iv4 (w64 (kv6+(1:Int))) (1000000:Int))))
    (K [.agg [.int .i64 ((cv3.get iv4.toNat).From),.int .i64 out_1v6],.one (.int .i64 (0:Int))])))
   (K [.agg [.int .i64 ((cv3.get iv4.toNat).From),.int .i64 out_1v6],.one (.int .i64 (0:Int))]))
theorem f25_stepeq6 (K : List PA → Prop) (X6 : St → Prop) (rates : Span) (cv3 : (Sl FluxStep)) (iv4 : Int) (kv6 : Int) (out_1v6 : Int) :
  vc Try.prog G25 ann25 (cd (cdF Try.f25 [1,1,1,1,1,1,1,1,0,1,0]) [0]) (loopK Try.prog ann25 11 X6 (blockK 0 (sqK Try.prog G25 ann25 (cdF Try.f25 [1,1,1,1,1,1,1,1,1]) (bodyK Try.prog Try.f25 K)))) (f25_g6 rates cv3 iv4 kv6 out_1v6) =
  f25_step6 K X6 rates cv3 iv4 kv6 out_1v6:=by kernel_rfl
theorem f25_loop6 (K : List PA → Prop) (rates : Span) (cv3 : (Sl FluxStep)) (iv4 : Int) (kv6 : Int) (out_1v6 : Int)
  (h:∀ X6:St→Prop,(∀ (kv6:Int) (out_1v6:Int),f25_step6 K X6 rates cv3 iv4 kv6 out_1v6→X6 (f25_g6 rates cv3 iv4 kv6 out_1v6))→X6 (f25_g6 rates cv3 iv4 kv6 out_1v6)) :
  f25_at6 K rates cv3 iv4 kv6 out_1v6:=by
  have e:f25_at6 K rates cv3 iv4 kv6 out_1v6=(∀ X:St→Prop,(∀ s,vc Try.prog G25 ann25 (cd (cdF Try.f25 [1,1,1,1,1,1,1,1,0,1,0]) [0]) (loopK Try.prog ann25 11 X (blockK 0 (sqK Try.prog G25 ann25 (cdF Try.f25 [1,1,1,1,1,1,1,1,1]) (bodyK Try.prog Try.f25 K)))) s→X s)→X (f25_g6 rates cv3 iv4 kv6 out_1v6)):=by kernel_rfl
  refine ofEq e ?_
  intro X hX
  refine h X ?_
  intro kv6 out_1v6 hs
  refine hX _ ?_
  have e2:=f25_stepeq6 K X rates cv3 iv4 kv6 out_1v6
  rw [e2]
  exact hs
abbrev e25 (r:(Span×Int)):List PA:=[.agg [.int .i64 r.1.Low,.int .i64 r.1.High],.one (.int .i64 r.2)]
attribute [irreducible] f25_at0 f25_at1 f25_at2 f25_at3 f25_at4 f25_at5 f25_at6
def s25_st6 (rates:Span) (cv3:(Sl FluxStep)) (iv4:Int) (S6:Int→Int→(Span×Int)) (kv6:Int) (out_1v6:Int):(Span×Int) :=
  (cond (decide (kv6 < (cv3.len : Int)))
   (cond (s71 rates (cv3.get kv6.toNat))
    (cond (decide ((w64 (kv6 + (1:Int))) < (cv3.len : Int)))
     (S6 (w64 (kv6+(1:Int))) (w64 ((cv3.get ((w64 (kv6+(1:Int))).toNat)).From - (1:Int))))
     (S6 (w64 (kv6+(1:Int))) (1000000:Int)))
    ((⟨(cv3.get iv4.toNat).From,out_1v6⟩:Span),(0:Int)))
   ((⟨(cv3.get iv4.toNat).From,out_1v6⟩:Span),(0:Int)))
def p25_st6 (rates:Span) (cv3:(Sl FluxStep)) (iv4:Int) (P6:Int→Int→Bool) (kv6:Int) (out_1v6:Int):Bool :=
  (cond (decide (kv6 < (cv3.len : Int)))
   (decide ((0≤kv6∧kv6 < (cv3.len:Int))) &&
   (cond (s71 rates (cv3.get kv6.toNat))
    (cond (decide ((w64 (kv6 + (1:Int))) < (cv3.len : Int)))
     (decide ((0≤(w64 (kv6+(1:Int)))∧(w64 (kv6+(1:Int))) < (cv3.len:Int))) &&
     (P6 (w64 (kv6+(1:Int))) (w64 ((cv3.get ((w64 (kv6+(1:Int))).toNat)).From - (1:Int)))))
     (P6 (w64 (kv6+(1:Int))) (1000000:Int)))
    true))
   true)
def s25_lp6 (rates : Span) (cv3 : (Sl FluxStep)) (iv4 : Int) : Nat → Int → Int → (Span × Int)
  | 0=>fun _ _=>default
  | k+1=>s25_st6 rates cv3 iv4 (s25_lp6 rates cv3 iv4 k)
def p25_lp6 (rates : Span) (cv3 : (Sl FluxStep)) (iv4 : Int) : Nat → Int → Int → Bool
  | 0=>fun _ _=>false
  | k+1=>p25_st6 rates cv3 iv4 (p25_lp6 rates cv3 iv4 k)
def s25_at6 (rates:Span) (cv3:(Sl FluxStep)) (iv4:Int) (kv6:Int) (out_1v6:Int):(Span×Int):=s25_lp6 rates cv3 iv4 Fuel kv6 out_1v6
def p25_at6 (rates:Span) (cv3:(Sl FluxStep)) (iv4:Int) (kv6:Int) (out_1v6:Int):Bool:=p25_lp6 rates cv3 iv4 Fuel kv6 out_1v6
theorem q25_at6 (K:List PA→Prop) (rates:Span) (cv3:(Sl FluxStep)) (iv4:Int) (kv6:Int) (out_1v6:Int) (hs:p25_at6 rates cv3 iv4 kv6 out_1v6=true) (hk:K (e25 (s25_at6 rates cv3 iv4 kv6 out_1v6))):f25_at6 K rates cv3 iv4 kv6 out_1v6:=by
  refine f25_loop6 K rates cv3 iv4 kv6 out_1v6 ?_
  intro X6 hstep
  have key:∀ (k:Nat) (kv6:Int) (out_1v6:Int),p25_lp6 rates cv3 iv4 k kv6 out_1v6=true→K (e25 (s25_lp6 rates cv3 iv4 k kv6 out_1v6))→X6 (f25_g6 rates cv3 iv4 kv6 out_1v6):=by
    intro k
    induction k with
    | zero=>intro kv6 out_1v6 hs;exact absurd hs Bool.false_ne_true
    | succ k ih =>
      intro kv6 out_1v6 hs hk
      refine hstep kv6 out_1v6 ?_
      have hs:p25_st6 rates cv3 iv4 (p25_lp6 rates cv3 iv4 k) kv6 out_1v6=true:=hs
      have hk:K (e25 (s25_st6 rates cv3 iv4 (s25_lp6 rates cv3 iv4 k) kv6 out_1v6)):=hk
      unfold p25_st6 at hs
      unfold s25_st6 at hk
      generalize s25_lp6 rates cv3 iv4 k=S6 at hk ih
      generalize p25_lp6 rates cv3 iv4 k=P6 at hs ih
      have hX6:=ih
      exact (condB_go (K := fun r => K (e25 r))
       (fun hs hk => (andK hs fun hc hs => ⟨hc, (condB_go (K := fun r => K (e25 r))
        (fun hs hk => (condB_go (K := fun r => K (e25 r))
         (fun hs hk=>(andK hs fun hc hs=>⟨hc,(hX6 (w64 (kv6+(1:Int))) (w64 ((cv3.get ((w64 (kv6+(1:Int))).toNat)).From - (1:Int))) hs hk)⟩))
         (fun hs hk=>(hX6 (w64 (kv6+(1:Int))) (1000000:Int) hs hk)) hs hk))
        (fun hs hk=>hk) hs hk)⟩))
       (fun hs hk=>hk) hs hk)
  exact key _ kv6 out_1v6 hs hk
def s25_at5 (rates:Span) (cv3:(Sl FluxStep)) (iv4:Int):(Span×Int) :=
  (s25_at6 rates cv3 iv4 iv4 (0:Int))
def p25_at5 (rates:Span) (cv3:(Sl FluxStep)) (iv4:Int):Bool :=
  (decide ((0≤iv4∧iv4 < (cv3.len:Int))) &&
  (p25_at6 rates cv3 iv4 iv4 (0:Int)))
theorem q25_at5 (K:List PA→Prop) (rates:Span) (cv3:(Sl FluxStep)) (iv4:Int) (hs:p25_at5 rates cv3 iv4=true) (hk:K (e25 (s25_at5 rates cv3 iv4))):f25_at5 K rates cv3 iv4:=by
  refine ofEq (f25_eq5 K rates cv3 iv4) ?_
  unfold p25_at5 at hs
  unfold s25_at5 at hk
  exact (andK hs fun hc hs=>⟨hc,(q25_at6 K rates cv3 iv4 iv4 (0:Int) hs hk)⟩)
def s25_at4 (rates:Span) (cv3:(Sl FluxStep)) (iv4:Int):(Span×Int) :=
  (cond (decide (iv4 < (0:Int)))
   ((⟨(0:Int),(0:Int)⟩:Span),(5:Int))
   (s25_at5 rates cv3 iv4))
def p25_at4 (rates:Span) (cv3:(Sl FluxStep)) (iv4:Int):Bool :=
  (cond (decide (iv4 < (0:Int)))
   true
   (p25_at5 rates cv3 iv4))
theorem q25_at4 (K:List PA→Prop) (rates:Span) (cv3:(Sl FluxStep)) (iv4:Int) (hs:p25_at4 rates cv3 iv4=true) (hk:K (e25 (s25_at4 rates cv3 iv4))):f25_at4 K rates cv3 iv4:=by
  refine ofEq (f25_eq4 K rates cv3 iv4) ?_
  unfold p25_at4 at hs
  unfold s25_at4 at hk
  exact (condB_go (K := fun r => K (e25 r))
   (fun hs hk=>hk)
   (fun hs hk=>(q25_at5 K rates cv3 iv4 hs hk)) hs hk)
def s25_at3 (rates:Span) (cv3:(Sl FluxStep)):(Span×Int) :=
  (s25_at4 rates cv3 (s72 rates cv3))
def p25_at3 (rates:Span) (cv3:(Sl FluxStep)):Bool :=
  (decide ((p72 rates cv3=true)) &&
  (p25_at4 rates cv3 (s72 rates cv3)))
theorem q25_at3 (K:List PA→Prop) (rates:Span) (cv3:(Sl FluxStep)) (cv3_g:Nat→List PV) (cv3_h:cv3_g=fun i=>enc_69 (cv3.get i)) (hs:p25_at3 rates cv3=true) (hk:K (e25 (s25_at3 rates cv3))):f25_at3 K rates cv3.len cv3_g:=by
  subst cv3_h
  refine ofEq (f25_eq3 K rates cv3) ?_
  unfold p25_at3 at hs
  unfold s25_at3 at hk
  exact (andK hs fun hc hs=>⟨⟨isE,hc⟩,(q25_at4 K rates cv3 (s72 rates cv3) hs hk)⟩)
def s25_at2 (s:Sky) (t:(Sl RangeRow)) (bin:Int) (rates:Span) (spellsv2:(Sl Spell)):(Span×Int) :=
  (s25_at3 rates (s70 (((s65 s t bin (0:Int)).1).Sky) (((s65 s t bin (0:Int)).1).table) bin spellsv2))
def p25_at2 (s:Sky) (t:(Sl RangeRow)) (bin:Int) (rates:Span) (spellsv2:(Sl Spell)):Bool :=
  (decide ((p70 (((s65 s t bin (0:Int)).1).Sky) (((s65 s t bin (0:Int)).1).table) bin spellsv2=true)) &&
  (p25_at3 rates (s70 (((s65 s t bin (0:Int)).1).Sky) (((s65 s t bin (0:Int)).1).table) bin spellsv2)))
theorem q25_at2 (K:List PA→Prop) (s:Sky) (t:(Sl RangeRow)) (bin:Int) (rates:Span) (spellsv2:(Sl Spell)) (spellsv2_g:Nat→List PV) (spellsv2_h:spellsv2_g=fun i=>enc_56 (spellsv2.get i)) (hs:p25_at2 s t bin rates spellsv2=true) (hk:K (e25 (s25_at2 s t bin rates spellsv2))):f25_at2 K s t bin rates spellsv2.len spellsv2_g:=by
  subst spellsv2_h
  refine ofEq (f25_eq2 K s t bin rates spellsv2) ?_
  unfold p25_at2 at hs
  unfold s25_at2 at hk
  exact (andK hs fun hc hs=>⟨⟨isE,isE,isE,(k65 s t bin (0:Int)),hc⟩,(q25_at3 K rates (s70 (((s65 s t bin (0:Int)).1).Sky) (((s65 s t bin (0:Int)).1).table) bin spellsv2) (fun i=>enc_69 ((s70 (((s65 s t bin (0:Int)).1).Sky) (((s65 s t bin (0:Int)).1).table) bin spellsv2).get i)) rfl hs hk)⟩)
def s25_at1 (s:Sky) (t:(Sl RangeRow)) (bin:Int) (rates:Span) (spellsv1:(Sl Spell)) (t39v1:Bool):(Span×Int) :=
  (cond t39v1
   ((⟨(0:Int),(0:Int)⟩:Span),(2:Int))
   (s25_at2 s t bin rates spellsv1))
def p25_at1 (s:Sky) (t:(Sl RangeRow)) (bin:Int) (rates:Span) (spellsv1:(Sl Spell)) (t39v1:Bool):Bool :=
  (cond t39v1
   true
   (p25_at2 s t bin rates spellsv1))
theorem q25_at1 (K:List PA→Prop) (s:Sky) (t:(Sl RangeRow)) (bin:Int) (rates:Span) (spellsv1:(Sl Spell)) (t39v1:Bool) (spellsv1_g:Nat→List PV) (spellsv1_h:spellsv1_g=fun i=>enc_56 (spellsv1.get i)) (hs:p25_at1 s t bin rates spellsv1 t39v1=true) (hk:K (e25 (s25_at1 s t bin rates spellsv1 t39v1))):f25_at1 K s t bin rates spellsv1.len spellsv1_g t39v1:=by
  subst spellsv1_h
  refine ofEq (f25_eq1 K s t bin rates spellsv1 t39v1) ?_
  unfold p25_at1 at hs
  unfold s25_at1 at hk
  exact (condB_go (K := fun r => K (e25 r))
   (fun hs hk=>hk)
   (fun hs hk=>(q25_at2 K s t bin rates spellsv1 (fun i=>enc_56 (spellsv1.get i)) rfl hs hk)) hs hk)
def s25_at0 (s:Sky) (t:(Sl RangeRow)) (bin:Int) (rates:Span) (spellsv0:(Sl Spell)) (okv0:Bool) (s_1v0:(Sl (Sl FluxRow))):(Span×Int) :=
  (cond (!okv0)
   (s25_at1 s t bin rates spellsv0 true)
   (cond (!(s67 spellsv0))
    (s25_at1 s t bin rates spellsv0 true)
    (s25_at1 s t bin rates spellsv0 (!(s69 rates (0:Int) s.Parts)))))
def p25_at0 (s:Sky) (t:(Sl RangeRow)) (bin:Int) (rates:Span) (spellsv0:(Sl Spell)) (okv0:Bool) (s_1v0:(Sl (Sl FluxRow))):Bool :=
  (cond (!okv0)
   (p25_at1 s t bin rates spellsv0 true)
   (decide ((p67 spellsv0=true)) &&
   (cond (!(s67 spellsv0))
    (p25_at1 s t bin rates spellsv0 true)
    (p25_at1 s t bin rates spellsv0 (!(s69 rates (0:Int) s.Parts))))))
theorem q25_at0 (K:List PA→Prop) (s:Sky) (t:(Sl RangeRow)) (bin:Int) (rates:Span) (spellsv0:(Sl Spell)) (okv0:Bool) (s_1v0:(Sl (Sl FluxRow))) (spellsv0_g:Nat→List PV) (spellsv0_h:spellsv0_g=fun i=>enc_56 (spellsv0.get i)) (s_1v0_g:Nat→List PV) (s_1v0_h:s_1v0_g=fun i=>enc_32 (s_1v0.get i)) (hs:p25_at0 s t bin rates spellsv0 okv0 s_1v0=true) (hk:K (e25 (s25_at0 s t bin rates spellsv0 okv0 s_1v0))):f25_at0 K s t bin rates spellsv0.len spellsv0_g okv0 s_1v0.len s_1v0_g:=by
  subst spellsv0_h
  subst s_1v0_h
  refine ofEq (f25_eq0 K s t bin rates spellsv0 okv0 s_1v0) ?_
  unfold p25_at0 at hs
  unfold s25_at0 at hk
  exact (condB_go (K := fun r => K (e25 r))
   (fun hs hk=>(q25_at1 K s t bin rates spellsv0 true (fun i=>enc_56 (spellsv0.get i)) rfl hs hk))
   (fun hs hk => (andK hs fun hc hs => ⟨⟨isE, hc⟩, (condB_go (K := fun r => K (e25 r))
    (fun hs hk=>(q25_at1 K s t bin rates spellsv0 true (fun i=>enc_56 (spellsv0.get i)) rfl hs hk))
    (fun hs hk=>(q25_at1 K s t bin rates spellsv0 (!(s69 rates (0:Int) s.Parts)) (fun i=>enc_56 (spellsv0.get i)) rfl hs hk)) hs hk)⟩)) hs hk)
def s25 (s:Sky) (t:(Sl RangeRow)) (bin:Int) (rates:Span) (spells:(Sl Spell)):(Span×Int) :=
  (s25_at0 s t bin rates spells ((s65 s t bin (0:Int)).2) s.Bins)
def p25 (s:Sky) (t:(Sl RangeRow)) (bin:Int) (rates:Span) (spells:(Sl Spell)):Bool :=
  (decide ((p65 s t bin (0:Int)=true)) &&
  (p25_at0 s t bin rates spells ((s65 s t bin (0:Int)).2) s.Bins))
theorem q25 (s:Sky) (t:(Sl RangeRow)) (bin:Int) (rates:Span) (spells:(Sl Spell)) (K:List PA→Prop) (hs:p25 s t bin rates spells=true) (hk:K (e25 (s25 s t bin rates spells))):vcFun Try.prog G25 ann25 25 [.agg [.int .i64 s.Parts,.sl s.Bins.len 1 (fun i=>enc_32 (s.Bins.get i)),.int .i64 s.Beta.Low,.int .i64 s.Beta.High,.int .i64 s.Alpha.Low,.int .i64 s.Alpha.High],.one (.sl t.len 3 (fun i=>enc_42 (t.get i))),.one (.int .i64 bin),.agg [.int .i64 rates.Low,.int .i64 rates.High],.one (.sl spells.len 5 (fun i=>enc_56 (spells.get i)))] K:=by
  refine ofEq (f25_top s t bin rates spells K) ?_
  unfold p25 at hs
  unfold s25 at hk
  exact (andK hs fun hc hs=>⟨⟨isE,isE,hc⟩,(q25_at0 K s t bin rates spells ((s65 s t bin (0:Int)).2) s.Bins (fun i=>enc_56 (spells.get i)) rfl (fun i=>enc_32 (s.Bins.get i)) rfl hs hk)⟩)
def ctr25 : List PA → COut
  | [.agg [.int .i64 a0_Parts,.sl a0_Bins_n a0_Bins_s a0_Bins_g,.int .i64 a0_Beta_Low,.int .i64 a0_Beta_High,.int .i64 a0_Alpha_Low,.int .i64 a0_Alpha_High],.one (.sl a1_n a1_s a1_g),.one (.int .i64 a2),.agg [.int .i64 a3_Low,.int .i64 a3_High],.one (.sl a4_n a4_s a4_g)]=>.det (IsE enc_32 1 a0_Bins_s a0_Bins_g∧IsE enc_42 3 a1_s a1_g∧IsE enc_56 5 a4_s a4_g∧p25 (⟨a0_Parts,(⟨a0_Bins_n,decF_32 a0_Bins_g⟩:(Sl (Sl FluxRow))),(⟨a0_Beta_Low,a0_Beta_High⟩:Span),(⟨a0_Alpha_Low,a0_Alpha_High⟩:Span)⟩:Sky) (⟨a1_n,decF_42 a1_g⟩:(Sl RangeRow)) a2 (⟨a3_Low,a3_High⟩:Span) (⟨a4_n,decF_56 a4_g⟩:(Sl Spell))=true) [.agg [.int .i64 (((s25 (⟨a0_Parts,(⟨a0_Bins_n,decF_32 a0_Bins_g⟩:(Sl (Sl FluxRow))),(⟨a0_Beta_Low,a0_Beta_High⟩:Span),(⟨a0_Alpha_Low,a0_Alpha_High⟩:Span)⟩:Sky) (⟨a1_n,decF_42 a1_g⟩:(Sl RangeRow)) a2 (⟨a3_Low,a3_High⟩:Span) (⟨a4_n,decF_56 a4_g⟩:(Sl Spell))).1).Low),.int .i64 (((s25 (⟨a0_Parts,(⟨a0_Bins_n,decF_32 a0_Bins_g⟩:(Sl (Sl FluxRow))),(⟨a0_Beta_Low,a0_Beta_High⟩:Span),(⟨a0_Alpha_Low,a0_Alpha_High⟩:Span)⟩:Sky) (⟨a1_n,decF_42 a1_g⟩:(Sl RangeRow)) a2 (⟨a3_Low,a3_High⟩:Span) (⟨a4_n,decF_56 a4_g⟩:(Sl Spell))).1).High)],.one (.int .i64 ((s25 (⟨a0_Parts,(⟨a0_Bins_n,decF_32 a0_Bins_g⟩:(Sl (Sl FluxRow))),(⟨a0_Beta_Low,a0_Beta_High⟩:Span),(⟨a0_Alpha_Low,a0_Alpha_High⟩:Span)⟩:Sky) (⟨a1_n,decF_42 a1_g⟩:(Sl RangeRow)) a2 (⟨a3_Low,a3_High⟩:Span) (⟨a4_n,decF_56 a4_g⟩:(Sl Spell))).2))]
  | _=>.no
theorem call25:Callable Try.prog 25:=⟨_,rfl,rfl,by kernel_rfl⟩
theorem ok25:Ok Try.prog 25 ctr25:=ok_tab okT25 call25 fun args K h=>by
  unfold ctr25 at h
  split at h
  · rename_i a0_Parts a0_Bins_n a0_Bins_s a0_Bins_g a0_Beta_Low a0_Beta_High a0_Alpha_Low a0_Alpha_High a1_n a1_s a1_g a2 a3_Low a3_High a4_n a4_s a4_g
    obtain ⟨⟨⟨rfl,a0_Bins_f,rfl⟩,⟨rfl,a1_f,rfl⟩,⟨rfl,a4_f,rfl⟩,hs⟩,hk⟩:=h
    try rw [decF_enc_32 a0_Bins_f] at hs
    try rw [decF_enc_32 a0_Bins_f] at hk
    try rw [decF_enc_42 a1_f] at hs
    try rw [decF_enc_42 a1_f] at hk
    try rw [decF_enc_56 a4_f] at hs
    try rw [decF_enc_56 a4_f] at hk
    exact ⟨(fun _ _=>[]),(fun _=>false),ann25,q25 (⟨a0_Parts,(⟨a0_Bins_n,a0_Bins_f⟩:(Sl (Sl FluxRow))),(⟨a0_Beta_Low,a0_Beta_High⟩:Span),(⟨a0_Alpha_Low,a0_Alpha_High⟩:Span)⟩:Sky) (⟨a1_n,a1_f⟩:(Sl RangeRow)) a2 (⟨a3_Low,a3_High⟩:Span) (⟨a4_n,a4_f⟩:(Sl Spell)) K hs hk⟩
  · exact h.elim
abbrev T26:Tabs:=(((Tabs.nil.addF 65 ctr65).addF 67 ctr67).addF 70 ctr70)
theorem okT26:TabsOk Try.prog T26:=(((TabsOk.nil.addF ok65).addF ok67).addF ok70)
abbrev G26:Ctrs:=csm T26 (fun _ _=>[]) (fun _=>false)
def ann26:Ann:=⟨30,[(0,⟨[1,2,3,4],[4],[],[],[]⟩),(1,⟨[2,3,10,11],[],[],[],[]⟩),(2,⟨[2,3,10,25],[],[],[],[]⟩),(3,⟨[8,9],[],[],[],[]⟩),(4,⟨[8,9],[],[],[],[]⟩)],
  [],
  [],
  [],[]⟩
theorem f26_top (s : Sky) (t : (Sl RangeRow)) (bin : Int) (spells : (Sl Spell)) (K : List PA → Prop) :
  vcFun Try.prog G26 ann26 26 [.agg [.int .i64 s.Parts,.sl s.Bins.len 1 (fun i=>enc_32 (s.Bins.get i)),.int .i64 s.Beta.Low,.int .i64 s.Beta.High,.int .i64 s.Alpha.Low,.int .i64 s.Alpha.High],.one (.sl t.len 3 (fun i=>enc_42 (t.get i))),.one (.int .i64 bin),.one (.sl spells.len 5 (fun i=>enc_56 (spells.get i)))] K =
  ((IsE enc_32 1 1 (fun i=>enc_32 (s.Bins.get i))∧IsE enc_42 3 3 (fun i=>enc_42 (t.get i))∧(p65 s t bin (0:Int)=true)) ∧
  (condP (!((s65 s t bin (0:Int)).2))
   (K [.one (.nils),.one (.int .i64 (2:Int))])
   ((IsE enc_56 5 5 (fun i=>enc_56 (spells.get i))∧(p67 spells=true)) ∧
   (condP (!(s67 spells))
    (K [.one (.nils),.one (.int .i64 (2:Int))])
    ((IsE enc_56 5 5 (fun i=>enc_56 (spells.get i))∧IsE enc_32 1 1 (fun i=>enc_32 (((s65 s t bin (0:Int)).1).Sky.Bins.get i))∧IsE enc_42 3 3 (fun i=>enc_42 (((s65 s t bin (0:Int)).1).table.get i))∧((s65 s t bin (0:Int)).1).known=(memoF (((s65 s t bin (0:Int)).1).Sky) (((s65 s t bin (0:Int)).1).table) bin)∧(p70 (((s65 s t bin (0:Int)).1).Sky) (((s65 s t bin (0:Int)).1).table) bin spells=true)) ∧
    (K [.one (.sl ((s70 (((s65 s t bin (0:Int)).1).Sky) (((s65 s t bin (0:Int)).1).table) bin spells).len) 3 (fun i=>enc_69 ((s70 (((s65 s t bin (0:Int)).1).Sky) (((s65 s t bin (0:Int)).1).table) bin spells).get i))),.one (.int .i64 (0:Int))])))))):=by kernel_rfl
abbrev e26 (r:((Sl FluxStep)×Int)):List PA:=[.one (.sl r.1.len 3 (fun i=>enc_69 (r.1.get i))),.one (.int .i64 r.2)]
def s26 (s:Sky) (t:(Sl RangeRow)) (bin:Int) (spells:(Sl Spell)):((Sl FluxStep)×Int) :=
  (cond (!((s65 s t bin (0:Int)).2))
   ((⟨0,fun _=>default⟩:(Sl FluxStep)),(2:Int))
   (cond (!(s67 spells))
    ((⟨0,fun _=>default⟩:(Sl FluxStep)),(2:Int))
    ((s70 (((s65 s t bin (0:Int)).1).Sky) (((s65 s t bin (0:Int)).1).table) bin spells),(0:Int))))
def p26 (s:Sky) (t:(Sl RangeRow)) (bin:Int) (spells:(Sl Spell)):Bool :=
  (decide ((p65 s t bin (0:Int)=true)) &&
  (cond (!((s65 s t bin (0:Int)).2))
   true
   (decide ((p67 spells=true)) &&
   (cond (!(s67 spells))
    true
    (decide ((p70 (((s65 s t bin (0:Int)).1).Sky) (((s65 s t bin (0:Int)).1).table) bin spells=true)) &&
    true)))))
theorem q26 (s:Sky) (t:(Sl RangeRow)) (bin:Int) (spells:(Sl Spell)) (K:List PA→Prop) (hs:p26 s t bin spells=true) (hk:K (e26 (s26 s t bin spells))):vcFun Try.prog G26 ann26 26 [.agg [.int .i64 s.Parts,.sl s.Bins.len 1 (fun i=>enc_32 (s.Bins.get i)),.int .i64 s.Beta.Low,.int .i64 s.Beta.High,.int .i64 s.Alpha.Low,.int .i64 s.Alpha.High],.one (.sl t.len 3 (fun i=>enc_42 (t.get i))),.one (.int .i64 bin),.one (.sl spells.len 5 (fun i=>enc_56 (spells.get i)))] (Wk K):=by
  refine ofEq (f26_top s t bin spells (Wk K)) ?_
  unfold p26 at hs
  unfold s26 at hk
  exact (andK hs fun hc hs => ⟨⟨isE, isE, hc⟩, (condB_go (K := fun r => K (e26 r))
   (fun hs hk=>(wk hk (rl_c (.one (.nil _ _)) (rl_c (.one (.rfl _)) rl_n))))
   (fun hs hk => (andK hs fun hc hs => ⟨⟨isE, hc⟩, (condB_go (K := fun r => K (e26 r))
    (fun hs hk=>(wk hk (rl_c (.one (.nil _ _)) (rl_c (.one (.rfl _)) rl_n))))
    (fun hs hk=>(andK hs fun hc hs=>⟨⟨isE,isE,isE,(k65 s t bin (0:Int)),hc⟩,(wk_rfl hk)⟩)) hs hk)⟩)) hs hk)⟩)
def ctr26 : List PA → COut
  | [.agg [.int .i64 a0_Parts,.sl a0_Bins_n a0_Bins_s a0_Bins_g,.int .i64 a0_Beta_Low,.int .i64 a0_Beta_High,.int .i64 a0_Alpha_Low,.int .i64 a0_Alpha_High],.one (.sl a1_n a1_s a1_g),.one (.int .i64 a2),.one (.sl a3_n a3_s a3_g)]=>.det (IsE enc_32 1 a0_Bins_s a0_Bins_g∧IsE enc_42 3 a1_s a1_g∧IsE enc_56 5 a3_s a3_g∧p26 (⟨a0_Parts,(⟨a0_Bins_n,decF_32 a0_Bins_g⟩:(Sl (Sl FluxRow))),(⟨a0_Beta_Low,a0_Beta_High⟩:Span),(⟨a0_Alpha_Low,a0_Alpha_High⟩:Span)⟩:Sky) (⟨a1_n,decF_42 a1_g⟩:(Sl RangeRow)) a2 (⟨a3_n,decF_56 a3_g⟩:(Sl Spell))=true) [.one (.sl (((s26 (⟨a0_Parts,(⟨a0_Bins_n,decF_32 a0_Bins_g⟩:(Sl (Sl FluxRow))),(⟨a0_Beta_Low,a0_Beta_High⟩:Span),(⟨a0_Alpha_Low,a0_Alpha_High⟩:Span)⟩:Sky) (⟨a1_n,decF_42 a1_g⟩:(Sl RangeRow)) a2 (⟨a3_n,decF_56 a3_g⟩:(Sl Spell))).1).len) 3 (fun i=>enc_69 (((s26 (⟨a0_Parts,(⟨a0_Bins_n,decF_32 a0_Bins_g⟩:(Sl (Sl FluxRow))),(⟨a0_Beta_Low,a0_Beta_High⟩:Span),(⟨a0_Alpha_Low,a0_Alpha_High⟩:Span)⟩:Sky) (⟨a1_n,decF_42 a1_g⟩:(Sl RangeRow)) a2 (⟨a3_n,decF_56 a3_g⟩:(Sl Spell))).1).get i))),.one (.int .i64 ((s26 (⟨a0_Parts,(⟨a0_Bins_n,decF_32 a0_Bins_g⟩:(Sl (Sl FluxRow))),(⟨a0_Beta_Low,a0_Beta_High⟩:Span),(⟨a0_Alpha_Low,a0_Alpha_High⟩:Span)⟩:Sky) (⟨a1_n,decF_42 a1_g⟩:(Sl RangeRow)) a2 (⟨a3_n,decF_56 a3_g⟩:(Sl Spell))).2))]
  | _=>.no
theorem call26:Callable Try.prog 26:=⟨_,rfl,rfl,by kernel_rfl⟩
theorem ok26:Ok Try.prog 26 ctr26:=ok_tabW okT26 call26 fun args K h=>by
  unfold ctr26 at h
  split at h
  · rename_i a0_Parts a0_Bins_n a0_Bins_s a0_Bins_g a0_Beta_Low a0_Beta_High a0_Alpha_Low a0_Alpha_High a1_n a1_s a1_g a2 a3_n a3_s a3_g
    obtain ⟨⟨⟨rfl,a0_Bins_f,rfl⟩,⟨rfl,a1_f,rfl⟩,⟨rfl,a3_f,rfl⟩,hs⟩,hk⟩:=h
    try rw [decF_enc_32 a0_Bins_f] at hs
    try rw [decF_enc_32 a0_Bins_f] at hk
    try rw [decF_enc_42 a1_f] at hs
    try rw [decF_enc_42 a1_f] at hk
    try rw [decF_enc_56 a3_f] at hs
    try rw [decF_enc_56 a3_f] at hk
    exact ⟨_,rl_rfl pa_rfl _,(fun _ _=>[]),(fun _=>false),ann26,q26 (⟨a0_Parts,(⟨a0_Bins_n,a0_Bins_f⟩:(Sl (Sl FluxRow))),(⟨a0_Beta_Low,a0_Beta_High⟩:Span),(⟨a0_Alpha_Low,a0_Alpha_High⟩:Span)⟩:Sky) (⟨a1_n,a1_f⟩:(Sl RangeRow)) a2 (⟨a3_n,a3_f⟩:(Sl Spell)) K hs hk⟩
  · exact h.elim
abbrev T74:Tabs:=Tabs.nil
theorem okT74:TabsOk Try.prog T74:=TabsOk.nil
abbrev G74:Ctrs:=csm T74 (fun _ _=>[]) (fun _=>false)
def ann74:Ann:=⟨8,[(0,⟨[0],[],[],[],[]⟩),(1,⟨[0,4],[],[],[],[]⟩),(2,⟨[2],[],[],[],[]⟩),(3,⟨[2],[5],[],[],[]⟩)],
  [],
  [],
  [],[]⟩
theorem f74_top (n : Nat) (get : Nat → List PV) : vcOwn Try.prog G74 ann74 74 [.one (.sl n 3 get)] 44 3 24 n get =
  ((True)∧(∃ r1:Bool,(n ≠ 0→r1=false))∧∀ r1:Bool,(n ≠ 0→r1=false) →
  (condP r1
   (True∧n=0)
   ((((0+n) * 24≤140737488355328∧0+n≤9223372036854775807)) ∧
   (True∧44=44∧3=3∧24=24∧(0+n)=n∧∀ i,i < n→(appG 0 (getL []) get) i=get i)))):=by kernel_rfl
abbrev own74:OwnK:=.clone 44 3 24
theorem call74:Callable Try.prog 74:=⟨_,rfl,rfl,by kernel_rfl⟩
theorem ok74:OwnOk Try.prog 74 own74:=clone_tab okT74 call74 fun n get h1 h2=>by
  refine ⟨fun _ _=>[],fun _=>false,ann74,?_⟩
  show vcOwn Try.prog G74 ann74 74 _ _ _ _ _ _
  rw [f74_top]
  refine ⟨trivial,⟨decide (n=0),fun h=>decide_eq_false h⟩,fun r1 hr=>?_⟩
  cases r1
  · refine ⟨⟨by omega,by omega⟩,trivial,rfl,rfl,rfl,Nat.zero_add n,fun i _=>rfl⟩
  · exact ⟨trivial,Classical.byContradiction fun h=>by simpa using hr h⟩
end Go.Proofs
namespace Go.Proofs
open Go Go.Pm
set_option maxRecDepth 100000
set_option linter.unusedVariables false
attribute [local irreducible] Go.Pm.vcFun Go.Pm.vc Go.Pm.vcIter
abbrev T33:Tabs:=((((Tabs.nil.addF 64 ctr64).addF 65 ctr65).addF 69 ctr69).addO 74 own74)
theorem okT33:TabsOk Try.prog T33:=((((TabsOk.nil.addF ok64).addF ok65).addF ok69).addO ok74)
abbrev G33:Ctrs:=csm T33 (fun _ _=>[]) (fun l=>Nat.beq l 54)
def ann33:Ann:=⟨131,[(0,⟨[1,2,3,5,9,10],[5,9,10],[],[],[]⟩),(1,⟨[1,2,3,5,9,10,13],[5,9,10],[],[],[]⟩),(2,⟨[1,2,3,5,9,10,36],[5,9,10],[],[],[]⟩),(3,⟨[10,11],[10],[],[],[]⟩),(4,⟨[2,5,9,10,14],[5,9,10,14],[],[],[]⟩),(5,⟨[2,5,9,10,14,15],[5,9,10,14,15],[],[],[]⟩),(6,⟨[2,5,9,10,14,15],[5,9,10,14,15],[],[],[]⟩),(7,⟨[2,9,10,14,15,44,45,46],[9,10,14,15],[],[],[]⟩),(8,⟨[2,9,10,14,15,44,45,46,47],[9,10,14,15,55],[],[],[]⟩),(9,⟨[2,9,10,14,15,17,44,45,46],[9,10,14,15,55],[],[],[]⟩),(10,⟨[2,9,10,14,15,44,45,46],[9,10,14,15,55],[],[],[]⟩),(11,⟨[2,9,10,14,15,44,45,46],[9,10,14,15,55],[],[],[]⟩),(12,⟨[2,9,10,14,15,63,64],[9,10,14,15,55],[],[],[]⟩),(13,⟨[2,9,10,14,15,63,64,65],[9,10,14,15,55],[],[],[]⟩),(14,⟨[2,9,10,14,15,18,63,64],[9,10,14,15,55],[],[],[]⟩),(15,⟨[2,9,10,14,15,19,63,64],[9,10,14,15,55],[],[],[]⟩),(16,⟨[2,9,10,14,15,19,63,64,80],[9,10,14,15,55],[],[],[]⟩),(17,⟨[2,9,10,14,15,19,63,64],[9,10,14,15,55],[],[],[]⟩),(18,⟨[2,9,10,14,15,19,63,64,104],[9,10,14,15,55],[],[],[]⟩),(19,⟨[2,9,10,14,15,19,63,64],[9,10,14,15,55],[],[],[]⟩),(20,⟨[2,9,10,14,15,63,64,127],[9,10,14,15,55],[],[],[]⟩),(21,⟨[10,11],[10],[],[],[]⟩),(22,⟨[2,9,10,14,15,63,64],[9,10,14,15,55],[],[],[]⟩),(23,⟨[10,11],[10,55],[],[],[]⟩)],
  [(8,⟨[2,9,10,14,15,44,45,46],[9,10,14,15,55],[],[],[(15,1,55,32,44,fun _ _=>enc_44 default)]⟩),(13,⟨[2,9,10,14,15,63,64],[9,10,14,15,55],[],[],[]⟩)],
  [(2,⟨[1,2,3,5,9,10,13],[5,9,10],[],[],[]⟩),(3,⟨[1,2,3,5,9,10,36],[5,9,10],[],[],[]⟩),(4,⟨[1,2,3,5,9,10],[5,9,10],[],[],[]⟩),(5,⟨[2,5,9,10,14],[5,9,10,14],[],[],[]⟩),(12,⟨[2,9,10,14,15],[9,10,14,15,55],[],[],[]⟩),(18,⟨[2,9,10,14,15,19,63,64],[9,10,14,15,55],[],[],[]⟩),(20,⟨[2,9,10,14,15,19,63,64],[9,10,14,15,55],[],[],[]⟩)],
  [],[]⟩
def f33_g0 (s:Sky) (t:(Sl RangeRow)) (bin:Int) (opacity:Int) (rates:Span) (okv0:Bool) (s_1v0_n:Nat) (s_1v0_g:Nat→List PV):St:=⟨[(1,.one (.c (.p (.sl t.len 3 (fun i=>enc_42 (t.get i)))))),(2,.one (.c (.p (.int .i64 bin)))),(3,.one (.c (.p (.int .i64 opacity)))),(5,.one (.c (.ptr 5 0))),(9,.one (.c (.ptr 9 0))),(10,.one (.c (.ptr 10 0))),(13,.one (.c (.p (.bool okv0))))],[(5,.box 26 [.p (.int .i64 s.Parts),.p (.sl s_1v0_n 1 s_1v0_g),.p (.int .i64 s.Beta.Low),.p (.int .i64 s.Beta.High),.p (.int .i64 s.Alpha.Low),.p (.int .i64 s.Alpha.High)]),(9,.box 24 [.p (.int .i64 rates.Low),.p (.int .i64 rates.High)]),(10,.box 26 [.p (.int .i64 (0:Int)),.p (.nils),.p (.int .i64 (0:Int)),.p (.int .i64 (0:Int)),.p (.int .i64 (0:Int)),.p (.int .i64 (0:Int))])],[]⟩
def f33_at0 (K:List PA→Prop) (s:Sky) (t:(Sl RangeRow)) (bin:Int) (opacity:Int) (rates:Span) (okv0:Bool) (s_1v0_n:Nat) (s_1v0_g:Nat→List PV):Prop:=vc Try.prog G33 ann33 (cdF Try.f33 [1,0,1]) (sqK Try.prog G33 ann33 (cdF Try.f33 [1,1]) (bodyK Try.prog Try.f33 K)) (f33_g0 s t bin opacity rates okv0 s_1v0_n s_1v0_g)
def f33_g1 (s:Sky) (t:(Sl RangeRow)) (bin:Int) (opacity:Int) (rates:Span) (t36v1:Bool) (s_1v1_n:Nat) (s_1v1_g:Nat→List PV):St:=⟨[(1,.one (.c (.p (.sl t.len 3 (fun i=>enc_42 (t.get i)))))),(2,.one (.c (.p (.int .i64 bin)))),(3,.one (.c (.p (.int .i64 opacity)))),(5,.one (.c (.ptr 5 0))),(9,.one (.c (.ptr 9 0))),(10,.one (.c (.ptr 10 0))),(36,.one (.c (.p (.bool t36v1))))],[(5,.box 26 [.p (.int .i64 s.Parts),.p (.sl s_1v1_n 1 s_1v1_g),.p (.int .i64 s.Beta.Low),.p (.int .i64 s.Beta.High),.p (.int .i64 s.Alpha.Low),.p (.int .i64 s.Alpha.High)]),(9,.box 24 [.p (.int .i64 rates.Low),.p (.int .i64 rates.High)]),(10,.box 26 [.p (.int .i64 (0:Int)),.p (.nils),.p (.int .i64 (0:Int)),.p (.int .i64 (0:Int)),.p (.int .i64 (0:Int)),.p (.int .i64 (0:Int))])],[]⟩
def f33_at1 (K:List PA→Prop) (s:Sky) (t:(Sl RangeRow)) (bin:Int) (opacity:Int) (rates:Span) (t36v1:Bool) (s_1v1_n:Nat) (s_1v1_g:Nat→List PV):Prop:=vc Try.prog G33 ann33 (cdF Try.f33 [1,0,1,1]) (sqK Try.prog G33 ann33 (cdF Try.f33 [1,1]) (bodyK Try.prog Try.f33 K)) (f33_g1 s t bin opacity rates t36v1 s_1v1_n s_1v1_g)
def f33_g2 (s:Sky) (t:(Sl RangeRow)) (bin:Int) (opacity:Int) (rates:Span) (s_1v2_n:Nat) (s_1v2_g:Nat→List PV):St:=⟨[(1,.one (.c (.p (.sl t.len 3 (fun i=>enc_42 (t.get i)))))),(2,.one (.c (.p (.int .i64 bin)))),(3,.one (.c (.p (.int .i64 opacity)))),(5,.one (.c (.ptr 5 0))),(9,.one (.c (.ptr 9 0))),(10,.one (.c (.ptr 10 0)))],[(5,.box 26 [.p (.int .i64 s.Parts),.p (.sl s_1v2_n 1 s_1v2_g),.p (.int .i64 s.Beta.Low),.p (.int .i64 s.Beta.High),.p (.int .i64 s.Alpha.Low),.p (.int .i64 s.Alpha.High)]),(9,.box 24 [.p (.int .i64 rates.Low),.p (.int .i64 rates.High)]),(10,.box 26 [.p (.int .i64 (0:Int)),.p (.nils),.p (.int .i64 (0:Int)),.p (.int .i64 (0:Int)),.p (.int .i64 (0:Int)),.p (.int .i64 (0:Int))])],[]⟩
def f33_at2 (K:List PA→Prop) (s:Sky) (t:(Sl RangeRow)) (bin:Int) (opacity:Int) (rates:Span) (s_1v2_n:Nat) (s_1v2_g:Nat→List PV):Prop:=vc Try.prog G33 ann33 (cdF Try.f33 [1,1]) (bodyK Try.prog Try.f33 K) (f33_g2 s t bin opacity rates s_1v2_n s_1v2_g)
def f33_g3 (s:Sky) (bin:Int) (rates:Span) (s_1v3_n:Nat) (s_1v3_g:Nat→List PV) (x_0v3:Int) (x_1v3:Int):St:=⟨[(2,.one (.c (.p (.int .i64 bin)))),(5,.one (.c (.ptr 5 0))),(9,.one (.c (.ptr 9 0))),(10,.one (.c (.ptr 10 0))),(14,.one (.c (.ptr 14 0)))],[(5,.box 26 [.p (.int .i64 s.Parts),.p (.sl s_1v3_n 1 s_1v3_g),.p (.int .i64 s.Beta.Low),.p (.int .i64 s.Beta.High),.p (.int .i64 s.Alpha.Low),.p (.int .i64 s.Alpha.High)]),(9,.box 24 [.p (.int .i64 rates.Low),.p (.int .i64 rates.High)]),(10,.box 26 [.p (.int .i64 (0:Int)),.p (.nils),.p (.int .i64 (0:Int)),.p (.int .i64 (0:Int)),.p (.int .i64 (0:Int)),.p (.int .i64 (0:Int))]),(14,.box 24 [.p (.int .i64 x_0v3),.p (.int .i64 x_1v3)])],[]⟩
def f33_at3 (K:List PA→Prop) (s:Sky) (bin:Int) (rates:Span) (s_1v3_n:Nat) (s_1v3_g:Nat→List PV) (x_0v3:Int) (x_1v3:Int):Prop:=vc Try.prog G33 ann33 (cdF Try.f33 [1,1,1]) (bodyK Try.prog Try.f33 K) (f33_g3 s bin rates s_1v3_n s_1v3_g x_0v3 x_1v3)
def f33_g4 (s:Sky) (bin:Int) (rates:Span) (s_1v3:(Sl (Sl FluxRow))) (x_0v3:Int) (x_1v3:Int) (t46v4:Int) (w55v4_n:Nat) (w55v4_l:Nat→Nat) (w55v4_g:Nat→Nat→List PV):St:=⟨[(2,.one (.c (.p (.int .i64 bin)))),(9,.one (.c (.ptr 9 0))),(10,.one (.c (.ptr 10 0))),(14,.one (.c (.ptr 14 0))),(15,.one (.c (.ptr 15 0))),(44,.one (.c (.p (.sl s_1v3.len 1 (fun i=>enc_32 (s_1v3.get i)))))),(45,.one (.c (.p (.int .i64 (s_1v3.len:Int))))),(46,.one (.c (.p (.int .i64 t46v4))))],[(9,.box 24 [.p (.int .i64 rates.Low),.p (.int .i64 rates.High)]),(10,.box 26 [.p (.int .i64 (0:Int)),.p (.nils),.p (.int .i64 (0:Int)),.p (.int .i64 (0:Int)),.p (.int .i64 (0:Int)),.p (.int .i64 (0:Int))]),(14,.box 24 [.p (.int .i64 x_0v3),.p (.int .i64 x_1v3)]),(15,.box 26 [.p (.int .i64 s.Parts),.vec 55,.p (.int .i64 s.Beta.Low),.p (.int .i64 s.Beta.High),.p (.int .i64 s.Alpha.Low),.p (.int .i64 s.Alpha.High)]),(55,.vv 32 24 44 3 24 w55v4_n w55v4_l w55v4_g)],[]⟩
def f33_at4 (K:List PA→Prop) (s:Sky) (bin:Int) (rates:Span) (s_1v3:(Sl (Sl FluxRow))) (x_0v3:Int) (x_1v3:Int) (t46v4:Int) (w55v4_n:Nat) (w55v4_l:Nat→Nat) (w55v4_g:Nat→Nat→List PV):Prop:=vc Try.prog G33 ann33 (cdF Try.f33 [1,1,1,1,1,0,1,0]) (blockK 0 (sqK Try.prog G33 ann33 (cdF Try.f33 [1,1,1,1,1,1]) (bodyK Try.prog Try.f33 K))) (f33_g4 s bin rates s_1v3 x_0v3 x_1v3 t46v4 w55v4_n w55v4_l w55v4_g)
def f33_g5 (s:Sky) (bin:Int) (rates:Span) (x_0v3:Int) (x_1v3:Int) (w55v4:(Sl (Sl FluxRow))) (w55v5_n:Nat) (w55v5_l:Nat→Nat) (w55v5_g:Nat→Nat→List PV):St:=⟨[(2,.one (.c (.p (.int .i64 bin)))),(9,.one (.c (.ptr 9 0))),(10,.one (.c (.ptr 10 0))),(14,.one (.c (.ptr 14 0))),(15,.one (.c (.ptr 15 0)))],[(9,.box 24 [.p (.int .i64 rates.Low),.p (.int .i64 rates.High)]),(10,.box 26 [.p (.int .i64 (0:Int)),.p (.nils),.p (.int .i64 (0:Int)),.p (.int .i64 (0:Int)),.p (.int .i64 (0:Int)),.p (.int .i64 (0:Int))]),(14,.box 24 [.p (.int .i64 x_0v3),.p (.int .i64 x_1v3)]),(15,.box 26 [.p (.int .i64 s.Parts),.vec 55,.p (.int .i64 s.Beta.Low),.p (.int .i64 s.Beta.High),.p (.int .i64 s.Alpha.Low),.p (.int .i64 s.Alpha.High)]),(55,.vv 32 24 44 3 24 w55v5_n w55v5_l w55v5_g)],[]⟩
def f33_at5 (K:List PA→Prop) (s:Sky) (bin:Int) (rates:Span) (x_0v3:Int) (x_1v3:Int) (w55v4:(Sl (Sl FluxRow))) (w55v5_n:Nat) (w55v5_l:Nat→Nat) (w55v5_g:Nat→Nat→List PV):Prop:=vc Try.prog G33 ann33 (cdF Try.f33 [1,1,1,1,1,1]) (bodyK Try.prog Try.f33 K) (f33_g5 s bin rates x_0v3 x_1v3 w55v4 w55v5_n w55v5_l w55v5_g)
def f33_g6 (s:Sky) (bin:Int) (rates:Span) (x_0v3:Int) (x_1v3:Int) (w55v5:(Sl (Sl FluxRow))) (t64v6:Int) (w55v6_n:Nat) (w55v6_l:Nat→Nat) (w55v6_g:Nat→Nat→List PV):St:=⟨[(2,.one (.c (.p (.int .i64 bin)))),(9,.one (.c (.ptr 9 0))),(10,.one (.c (.ptr 10 0))),(14,.one (.c (.ptr 14 0))),(15,.one (.c (.ptr 15 0))),(63,.one (.c (.p (.int .i64 (((fun i=>(w55v5.get i).len) bin.toNat:Nat):Int))))),(64,.one (.c (.p (.int .i64 t64v6))))],[(9,.box 24 [.p (.int .i64 rates.Low),.p (.int .i64 rates.High)]),(10,.box 26 [.p (.int .i64 (0:Int)),.p (.nils),.p (.int .i64 (0:Int)),.p (.int .i64 (0:Int)),.p (.int .i64 (0:Int)),.p (.int .i64 (0:Int))]),(14,.box 24 [.p (.int .i64 x_0v3),.p (.int .i64 x_1v3)]),(15,.box 26 [.p (.int .i64 s.Parts),.vec 55,.p (.int .i64 s.Beta.Low),.p (.int .i64 s.Beta.High),.p (.int .i64 s.Alpha.Low),.p (.int .i64 s.Alpha.High)]),(55,.vv 32 24 44 3 24 w55v6_n w55v6_l w55v6_g)],[]⟩
def f33_at6 (K:List PA→Prop) (s:Sky) (bin:Int) (rates:Span) (x_0v3:Int) (x_1v3:Int) (w55v5:(Sl (Sl FluxRow))) (t64v6:Int) (w55v6_n:Nat) (w55v6_l:Nat→Nat) (w55v6_g:Nat→Nat→List PV):Prop:=vc Try.prog G33 ann33 (cdF Try.f33 [1,1,1,1,1,1,0,1,0]) (blockK 2 (sqK Try.prog G33 ann33 (cdF Try.f33 [1,1,1,1,1,1,1]) (bodyK Try.prog Try.f33 K))) (f33_g6 s bin rates x_0v3 x_1v3 w55v5 t64v6 w55v6_n w55v6_l w55v6_g)
def f33_g7 (s:Sky) (bin:Int) (rates:Span) (x_0v3:Int) (x_1v3:Int) (w55v5:(Sl (Sl FluxRow))) (t64v6:Int) (w55v6:(Sl (Sl FluxRow))) (t64v7:Int) (w55v7_n:Nat) (w55v7_l:Nat→Nat) (w55v7_g:Nat→Nat→List PV):St:=⟨[(2,.one (.c (.p (.int .i64 bin)))),(9,.one (.c (.ptr 9 0))),(10,.one (.c (.ptr 10 0))),(14,.one (.c (.ptr 14 0))),(15,.one (.c (.ptr 15 0))),(19,.one (.c (.iptr 55 3 bin.toNat t64v6.toNat 0))),(63,.one (.c (.p (.int .i64 (((fun i=>(w55v5.get i).len) bin.toNat:Nat):Int))))),(64,.one (.c (.p (.int .i64 t64v7))))],[(9,.box 24 [.p (.int .i64 rates.Low),.p (.int .i64 rates.High)]),(10,.box 26 [.p (.int .i64 (0:Int)),.p (.nils),.p (.int .i64 (0:Int)),.p (.int .i64 (0:Int)),.p (.int .i64 (0:Int)),.p (.int .i64 (0:Int))]),(14,.box 24 [.p (.int .i64 x_0v3),.p (.int .i64 x_1v3)]),(15,.box 26 [.p (.int .i64 s.Parts),.vec 55,.p (.int .i64 s.Beta.Low),.p (.int .i64 s.Beta.High),.p (.int .i64 s.Alpha.Low),.p (.int .i64 s.Alpha.High)]),(55,.vv 32 24 44 3 24 w55v7_n w55v7_l w55v7_g)],[]⟩
def f33_at7 (K:List PA→Prop) (X6:St→Prop) (s:Sky) (bin:Int) (rates:Span) (x_0v3:Int) (x_1v3:Int) (w55v5:(Sl (Sl FluxRow))) (t64v6:Int) (w55v6:(Sl (Sl FluxRow))) (t64v7:Int) (w55v7_n:Nat) (w55v7_l:Nat→Nat) (w55v7_g:Nat→Nat→List PV):Prop:=vc Try.prog G33 ann33 (cdF Try.f33 [1,1,1,1,1,1,0,1,0,0,1,1,0,0,1,1,1]) (blockK 3 (sqK Try.prog G33 ann33 (cdF Try.f33 [1,1,1,1,1,1,0,1,0,0,1,1,1]) (loopK Try.prog ann33 13 X6 (blockK 2 (sqK Try.prog G33 ann33 (cdF Try.f33 [1,1,1,1,1,1,1]) (bodyK Try.prog Try.f33 K)))))) (f33_g7 s bin rates x_0v3 x_1v3 w55v5 t64v6 w55v6 t64v7 w55v7_n w55v7_l w55v7_g)
def f33_g8 (s:Sky) (bin:Int) (rates:Span) (x_0v3:Int) (x_1v3:Int) (w55v5:(Sl (Sl FluxRow))) (t64v6:Int) (w55v7:(Sl (Sl FluxRow))) (t64v8:Int) (w55v8_n:Nat) (w55v8_l:Nat→Nat) (w55v8_g:Nat→Nat→List PV):St:=⟨[(2,.one (.c (.p (.int .i64 bin)))),(9,.one (.c (.ptr 9 0))),(10,.one (.c (.ptr 10 0))),(14,.one (.c (.ptr 14 0))),(15,.one (.c (.ptr 15 0))),(19,.one (.c (.iptr 55 3 bin.toNat t64v6.toNat 0))),(63,.one (.c (.p (.int .i64 (((fun i=>(w55v5.get i).len) bin.toNat:Nat):Int))))),(64,.one (.c (.p (.int .i64 t64v8))))],[(9,.box 24 [.p (.int .i64 rates.Low),.p (.int .i64 rates.High)]),(10,.box 26 [.p (.int .i64 (0:Int)),.p (.nils),.p (.int .i64 (0:Int)),.p (.int .i64 (0:Int)),.p (.int .i64 (0:Int)),.p (.int .i64 (0:Int))]),(14,.box 24 [.p (.int .i64 x_0v3),.p (.int .i64 x_1v3)]),(15,.box 26 [.p (.int .i64 s.Parts),.vec 55,.p (.int .i64 s.Beta.Low),.p (.int .i64 s.Beta.High),.p (.int .i64 s.Alpha.Low),.p (.int .i64 s.Alpha.High)]),(55,.vv 32 24 44 3 24 w55v8_n w55v8_l w55v8_g)],[]⟩
def f33_at8 (K:List PA→Prop) (X6:St→Prop) (s:Sky) (bin:Int) (rates:Span) (x_0v3:Int) (x_1v3:Int) (w55v5:(Sl (Sl FluxRow))) (t64v6:Int) (w55v7:(Sl (Sl FluxRow))) (t64v8:Int) (w55v8_n:Nat) (w55v8_l:Nat→Nat) (w55v8_g:Nat→Nat→List PV):Prop:=vc Try.prog G33 ann33 (cdF Try.f33 [1,1,1,1,1,1,0,1,0,0,1,1,0,0,1,1,1,1]) (blockK 3 (sqK Try.prog G33 ann33 (cdF Try.f33 [1,1,1,1,1,1,0,1,0,0,1,1,1]) (loopK Try.prog ann33 13 X6 (blockK 2 (sqK Try.prog G33 ann33 (cdF Try.f33 [1,1,1,1,1,1,1]) (bodyK Try.prog Try.f33 K)))))) (f33_g8 s bin rates x_0v3 x_1v3 w55v5 t64v6 w55v7 t64v8 w55v8_n w55v8_l w55v8_g)
theorem f33_top (s : Sky) (t : (Sl RangeRow)) (bin : Int) (opacity : Int) (rates : Span) (K : List PA → Prop) :
  vcFun Try.prog G33 ann33 33 [.agg [.int .i64 s.Parts,.sl s.Bins.len 1 (fun i=>enc_32 (s.Bins.get i)),.int .i64 s.Beta.Low,.int .i64 s.Beta.High,.int .i64 s.Alpha.Low,.int .i64 s.Alpha.High],.one (.sl t.len 3 (fun i=>enc_42 (t.get i))),.one (.int .i64 bin),.one (.int .i64 opacity),.agg [.int .i64 rates.Low,.int .i64 rates.High]] K =
  ((IsE enc_32 1 1 (fun i=>enc_32 (s.Bins.get i))∧IsE enc_42 3 3 (fun i=>enc_42 (t.get i))∧(p65 s t bin opacity=true)) ∧
  (f33_at0 K s t bin opacity rates ((s65 s t bin opacity).2) s.Bins.len (fun i=>enc_32 (s.Bins.get i)))):=by kernel_rfl
theorem f33_eq0 (K : List PA → Prop) (s : Sky) (t : (Sl RangeRow)) (bin : Int) (opacity : Int) (rates : Span) (okv0 : Bool) (s_1v0 : (Sl (Sl FluxRow))) :
  f33_at0 K s t bin opacity rates okv0 s_1v0.len (fun i=>enc_32 (s_1v0.get i)) =
  (condP (!okv0)
   (f33_at1 K s t bin opacity rates true s_1v0.len (fun i=>enc_32 (s_1v0.get i)))
   (f33_at1 K s t bin opacity rates (!(s69 rates (0:Int) s.Parts)) s_1v0.len (fun i=>enc_32 (s_1v0.get i)))):=by kernel_rfl
theorem f33_eq1 (K : List PA → Prop) (s : Sky) (t : (Sl RangeRow)) (bin : Int) (opacity : Int) (rates : Span) (t36v1 : Bool) (s_1v1 : (Sl (Sl FluxRow))) :
  f33_at1 K s t bin opacity rates t36v1 s_1v1.len (fun i=>enc_32 (s_1v1.get i)) =
  (condP t36v1
   (K [.agg [.int .i64 (0:Int),.nils,.int .i64 (0:Int),.int .i64 (0:Int),.int .i64 (0:Int),.int .i64 (0:Int)],.one (.int .i64 (2:Int))])
   (f33_at2 K s t bin opacity rates s_1v1.len (fun i=>enc_32 (s_1v1.get i)))):=by kernel_rfl
theorem f33_eq2 (K : List PA → Prop) (s : Sky) (t : (Sl RangeRow)) (bin : Int) (opacity : Int) (rates : Span) (s_1v2 : (Sl (Sl FluxRow))) :
  f33_at2 K s t bin opacity rates s_1v2.len (fun i=>enc_32 (s_1v2.get i)) =
  ((IsE enc_42 3 3 (fun i=>enc_42 (t.get i))∧(p64 t opacity=true)) ∧
  (f33_at3 K s bin rates s_1v2.len (fun i=>enc_32 (s_1v2.get i)) ((s64 t opacity).Low) ((s64 t opacity).High))):=by kernel_rfl
theorem f33_eq3 (K : List PA → Prop) (s : Sky) (bin : Int) (rates : Span) (s_1v3 : (Sl (Sl FluxRow))) (x_0v3 : Int) (x_1v3 : Int) :
  f33_at3 K s bin rates s_1v3.len (fun i=>enc_32 (s_1v3.get i)) x_0v3 x_1v3 =
  (f33_at4 K s bin rates s_1v3 x_0v3 x_1v3 (0:Int) 0 (fun _=>0) (fun _ _=>enc_44 default)):=by kernel_rfl
def f33_step4 (K:List PA→Prop) (X4:St→Prop) (s:Sky) (bin:Int) (rates:Span) (s_1v3:(Sl (Sl FluxRow))) (x_0v3:Int) (x_1v3:Int) (t46v4:Int) (w55v4:(Sl (Sl FluxRow))):Prop :=
  (condP (decide (t46v4 < (s_1v3.len : Int)))
   (((0≤t46v4∧t46v4 < (s_1v3.len:Int))) ∧
   ((((s_1v3.get t46v4.toNat).len * 24≤140737488355328∧(s_1v3.get t46v4.toNat).len≤9223372036854775807)) ∧
   ((((w55v4.len+1) * 24≤140737488355328∧w55v4.len+1≤9223372036854775807)) ∧
   (X4 (f33_g4 s bin rates s_1v3 x_0v3 x_1v3 (w64 (t46v4+(1:Int))) (w55v4.len+1) (appN w55v4.len (fun i=>(w55v4.get i).len) (fun _=>(s_1v3.get t46v4.toNat).len)) (appGG w55v4.len (fun i j=>enc_44 ((w55v4.get i).get j)) (fun _=>(fun i=>enc_44 ((s_1v3.get t46v4.toNat).get i)))))))))
   (f33_at5 K s bin rates x_0v3 x_1v3 w55v4 w55v4.len (fun i=>(w55v4.get i).len) (fun i j=>enc_44 ((w55v4.get i).get j))))
theorem f33_stepeq4 (K : List PA → Prop) (X4 : St → Prop) (s : Sky) (bin : Int) (rates : Span) (s_1v3 : (Sl (Sl FluxRow))) (x_0v3 : Int) (x_1v3 : Int) (t46v4 : Int) (w55v4 : (Sl (Sl FluxRow))) :
  vc Try.prog G33 ann33 (cd (cdF Try.f33 [1,1,1,1,1,0,1,0]) [0]) (loopK Try.prog ann33 8 X4 (blockK 0 (sqK Try.prog G33 ann33 (cdF Try.f33 [1,1,1,1,1,1]) (bodyK Try.prog Try.f33 K)))) (f33_g4 s bin rates s_1v3 x_0v3 x_1v3 t46v4 w55v4.len (fun i=>(w55v4.get i).len) (fun i j=>enc_44 ((w55v4.get i).get j))) =
  f33_step4 K X4 s bin rates s_1v3 x_0v3 x_1v3 t46v4 w55v4:=by kernel_rfl
theorem f33_loop4 (K : List PA → Prop) (s : Sky) (bin : Int) (rates : Span) (s_1v3 : (Sl (Sl FluxRow))) (x_0v3 : Int) (x_1v3 : Int) (t46v4 : Int) (w55v4_n : Nat) (w55v4_l : Nat → Nat) (w55v4_g : Nat → Nat → List PV)
  (h:∀ X4:St→Prop,(∀ (t46v4:Int) (w55v4:(Sl (Sl FluxRow))),f33_step4 K X4 s bin rates s_1v3 x_0v3 x_1v3 t46v4 w55v4→X4 (f33_g4 s bin rates s_1v3 x_0v3 x_1v3 t46v4 w55v4.len (fun i=>(w55v4.get i).len) (fun i j=>enc_44 ((w55v4.get i).get j))))→X4 (f33_g4 s bin rates s_1v3 x_0v3 x_1v3 t46v4 w55v4_n w55v4_l w55v4_g)) :
  f33_at4 K s bin rates s_1v3 x_0v3 x_1v3 t46v4 w55v4_n w55v4_l w55v4_g:=by
  have e:f33_at4 K s bin rates s_1v3 x_0v3 x_1v3 t46v4 w55v4_n w55v4_l w55v4_g=(∀ X:St→Prop,(∀ s,vc Try.prog G33 ann33 (cd (cdF Try.f33 [1,1,1,1,1,0,1,0]) [0]) (loopK Try.prog ann33 8 X (blockK 0 (sqK Try.prog G33 ann33 (cdF Try.f33 [1,1,1,1,1,1]) (bodyK Try.prog Try.f33 K)))) s→X s)→X (f33_g4 s bin rates s_1v3 x_0v3 x_1v3 t46v4 w55v4_n w55v4_l w55v4_g)):=by kernel_rfl
  refine ofEq e ?_
  intro X hX
  refine h X ?_
  intro t46v4 w55v4 hs
  refine hX _ ?_
  have e2:=f33_stepeq4 K X s bin rates s_1v3 x_0v3 x_1v3 t46v4 w55v4
  rw [e2]
  exact hs
theorem f33_eq5 (K : List PA → Prop) (s : Sky) (bin : Int) (rates : Span) (x_0v3 : Int) (x_1v3 : Int) (w55v4 : (Sl (Sl FluxRow))) (w55v5 : (Sl (Sl FluxRow))) :
  f33_at5 K s bin rates x_0v3 x_1v3 w55v4 w55v5.len (fun i=>(w55v5.get i).len) (fun i j=>enc_44 ((w55v5.get i).get j)) =
  (((0≤bin∧bin < (w55v5.len:Int))) ∧
  (((bin.toNat < w55v5.len)) ∧
  (((bin.toNat < w55v5.len)) ∧
  (f33_at6 K s bin rates x_0v3 x_1v3 w55v5 (0:Int) w55v5.len (fun i=>(w55v5.get i).len) (fun i j=>enc_44 ((w55v5.get i).get j)))))):=by kernel_rfl
def f33_step6 (K:List PA→Prop) (X6:St→Prop) (s:Sky) (bin:Int) (rates:Span) (x_0v3:Int) (x_1v3:Int) (w55v5:(Sl (Sl FluxRow))) (t64v6:Int) (w55v6:(Sl (Sl FluxRow))):Prop :=
  (condP (decide (t64v6 < (((fun i => (w55v5.get i).len) bin.toNat : Nat) : Int)))
   (((0≤bin∧bin < (w55v6.len:Int))) ∧
   (((bin.toNat < w55v6.len)) ∧
   (((bin.toNat < w55v6.len∧0≤t64v6∧t64v6 < (((fun i=>(w55v6.get i).len) bin.toNat:Nat):Int))) ∧
   (((bin.toNat < w55v6.len∧t64v6.toNat < (fun i=>(w55v6.get i).len) bin.toNat)) ∧
   (condP (decide (((w55v6.get bin.toNat).get t64v6.toNat).Energy ≤ x_0v3))
    (((bin.toNat < w55v6.len∧t64v6.toNat < (fun i=>(w55v6.get i).len) bin.toNat)) ∧
    (((bin.toNat < w55v6.len∧t64v6.toNat < (fun i=>(w55v6.get i).len) bin.toNat)) ∧
    (f33_at7 K X6 s bin rates x_0v3 x_1v3 w55v5 t64v6 w55v6 t64v6 w55v6.len (fun i=>(w55v6.get i).len) (setGG bin.toNat t64v6.toNat 1 (fun i j=>enc_44 ((w55v6.get i).get j)) [.int .i64 (if rates.Low > ((w55v6.get bin.toNat).get t64v6.toNat).Rate.Low then rates.Low else ((w55v6.get bin.toNat).get t64v6.toNat).Rate.Low)]))))
    (f33_at7 K X6 s bin rates x_0v3 x_1v3 w55v5 t64v6 w55v6 t64v6 w55v6.len (fun i=>(w55v6.get i).len) (fun i j=>enc_44 ((w55v6.get i).get j))))))))
   (K [.agg [.int .i64 s.Parts,.sl w55v6.len 1 (fun i=>enc_32 (w55v6.get i)),.int .i64 s.Beta.Low,.int .i64 s.Beta.High,.int .i64 s.Alpha.Low,.int .i64 s.Alpha.High],.one (.int .i64 (0:Int))]))
theorem f33_stepeq6 (K : List PA → Prop) (X6 : St → Prop) (s : Sky) (bin : Int) (rates : Span) (x_0v3 : Int) (x_1v3 : Int) (w55v5 : (Sl (Sl FluxRow))) (t64v6 : Int) (w55v6 : (Sl (Sl FluxRow))) :
  vc Try.prog G33 ann33 (cd (cdF Try.f33 [1,1,1,1,1,1,0,1,0]) [0]) (loopK Try.prog ann33 13 X6 (blockK 2 (sqK Try.prog G33 ann33 (cdF Try.f33 [1,1,1,1,1,1,1]) (bodyK Try.prog Try.f33 K)))) (f33_g6 s bin rates x_0v3 x_1v3 w55v5 t64v6 w55v6.len (fun i=>(w55v6.get i).len) (fun i j=>enc_44 ((w55v6.get i).get j))) =
  f33_step6 K X6 s bin rates x_0v3 x_1v3 w55v5 t64v6 w55v6:=by kernel_rfl
theorem f33_loop6 (K : List PA → Prop) (s : Sky) (bin : Int) (rates : Span) (x_0v3 : Int) (x_1v3 : Int) (w55v5 : (Sl (Sl FluxRow))) (t64v6 : Int) (w55v6_n : Nat) (w55v6_l : Nat → Nat) (w55v6_g : Nat → Nat → List PV)
  (h:∀ X6:St→Prop,(∀ (t64v6:Int) (w55v6:(Sl (Sl FluxRow))),f33_step6 K X6 s bin rates x_0v3 x_1v3 w55v5 t64v6 w55v6→X6 (f33_g6 s bin rates x_0v3 x_1v3 w55v5 t64v6 w55v6.len (fun i=>(w55v6.get i).len) (fun i j=>enc_44 ((w55v6.get i).get j))))→X6 (f33_g6 s bin rates x_0v3 x_1v3 w55v5 t64v6 w55v6_n w55v6_l w55v6_g)) :
  f33_at6 K s bin rates x_0v3 x_1v3 w55v5 t64v6 w55v6_n w55v6_l w55v6_g:=by
  have e:f33_at6 K s bin rates x_0v3 x_1v3 w55v5 t64v6 w55v6_n w55v6_l w55v6_g=(∀ X:St→Prop,(∀ s,vc Try.prog G33 ann33 (cd (cdF Try.f33 [1,1,1,1,1,1,0,1,0]) [0]) (loopK Try.prog ann33 13 X (blockK 2 (sqK Try.prog G33 ann33 (cdF Try.f33 [1,1,1,1,1,1,1]) (bodyK Try.prog Try.f33 K)))) s→X s)→X (f33_g6 s bin rates x_0v3 x_1v3 w55v5 t64v6 w55v6_n w55v6_l w55v6_g)):=by kernel_rfl
  refine ofEq e ?_
  intro X hX
  refine h X ?_
  intro t64v6 w55v6 hs
  refine hX _ ?_
  have e2:=f33_stepeq6 K X s bin rates x_0v3 x_1v3 w55v5 t64v6 w55v6
  rw [e2]
  exact hs
theorem f33_eq7 (K : List PA → Prop) (X6 : St → Prop) (s : Sky) (bin : Int) (rates : Span) (x_0v3 : Int) (x_1v3 : Int) (w55v5 : (Sl (Sl FluxRow))) (t64v6 : Int) (w55v6 : (Sl (Sl FluxRow))) (t64v7 : Int) (w55v7 : (Sl (Sl FluxRow))) :
  f33_at7 K X6 s bin rates x_0v3 x_1v3 w55v5 t64v6 w55v6 t64v7 w55v7.len (fun i=>(w55v7.get i).len) (fun i j=>enc_44 ((w55v7.get i).get j)) =
  (condP (x_1v3 != (-1:Int))
   (((bin.toNat < w55v7.len∧t64v6.toNat < (fun i=>(w55v7.get i).len) bin.toNat)) ∧
   (condP (decide (((w55v7.get bin.toNat).get t64v6.toNat).Energy ≥ x_1v3))
    (((bin.toNat < w55v7.len∧t64v6.toNat < (fun i=>(w55v7.get i).len) bin.toNat)) ∧
    (((bin.toNat < w55v7.len∧t64v6.toNat < (fun i=>(w55v7.get i).len) bin.toNat)) ∧
    (f33_at8 K X6 s bin rates x_0v3 x_1v3 w55v5 t64v6 w55v7 t64v7 w55v7.len (fun i=>(w55v7.get i).len) (setGG bin.toNat t64v6.toNat 2 (fun i j=>enc_44 ((w55v7.get i).get j)) [.int .i64 (if rates.High < ((w55v7.get bin.toNat).get t64v6.toNat).Rate.High then rates.High else ((w55v7.get bin.toNat).get t64v6.toNat).Rate.High)]))))
    (f33_at8 K X6 s bin rates x_0v3 x_1v3 w55v5 t64v6 w55v7 t64v7 w55v7.len (fun i=>(w55v7.get i).len) (fun i j=>enc_44 ((w55v7.get i).get j)))))
   (f33_at8 K X6 s bin rates x_0v3 x_1v3 w55v5 t64v6 w55v7 t64v7 w55v7.len (fun i=>(w55v7.get i).len) (fun i j=>enc_44 ((w55v7.get i).get j)))):=by kernel_rfl
theorem f33_eq8 (K : List PA → Prop) (X6 : St → Prop) (s : Sky) (bin : Int) (rates : Span) (x_0v3 : Int) (x_1v3 : Int) (w55v5 : (Sl (Sl FluxRow))) (t64v6 : Int) (w55v7 : (Sl (Sl FluxRow))) (t64v8 : Int) (w55v8 : (Sl (Sl FluxRow))) :
  f33_at8 K X6 s bin rates x_0v3 x_1v3 w55v5 t64v6 w55v7 t64v8 w55v8.len (fun i=>(w55v8.get i).len) (fun i j=>enc_44 ((w55v8.get i).get j)) =
  (((bin.toNat < w55v8.len∧t64v6.toNat < (fun i=>(w55v8.get i).len) bin.toNat)) ∧
  (((bin.toNat < w55v8.len∧t64v6.toNat < (fun i=>(w55v8.get i).len) bin.toNat)) ∧
  (condP (decide (((w55v8.get bin.toNat).get t64v6.toNat).Rate.Low > ((w55v8.get bin.toNat).get t64v6.toNat).Rate.High))
   (K [.agg [.int .i64 (0:Int),.nils,.int .i64 (0:Int),.int .i64 (0:Int),.int .i64 (0:Int),.int .i64 (0:Int)],.one (.int .i64 (5:Int))])
   (X6 (f33_g6 s bin rates x_0v3 x_1v3 w55v5 (w64 (t64v8+(1:Int))) w55v8.len (fun i=>(w55v8.get i).len) (fun i j=>enc_44 ((w55v8.get i).get j))))))):=by kernel_rfl
abbrev e33 (r:(Sky×Int)):List PA:=[.agg [.int .i64 r.1.Parts,.sl r.1.Bins.len 1 (fun i=>enc_32 (r.1.Bins.get i)),.int .i64 r.1.Beta.Low,.int .i64 r.1.Beta.High,.int .i64 r.1.Alpha.Low,.int .i64 r.1.Alpha.High],.one (.int .i64 r.2)]
attribute [irreducible] f33_at0 f33_at1 f33_at2 f33_at3 f33_at4 f33_at5 f33_at6 f33_at7 f33_at8
def s33_at8 (S6:Int→(Sl (Sl FluxRow))→(Sky×Int)) (s:Sky) (bin:Int) (rates:Span) (x_0v3:Int) (x_1v3:Int) (w55v5:(Sl (Sl FluxRow))) (t64v6:Int) (w55v7:(Sl (Sl FluxRow))) (t64v8:Int) (w55v8:(Sl (Sl FluxRow))):(Sky×Int) :=
  (cond (decide (((w55v8.get bin.toNat).get t64v6.toNat).Rate.Low > ((w55v8.get bin.toNat).get t64v6.toNat).Rate.High))
   ((⟨(0:Int),(⟨0,fun _=>default⟩:(Sl (Sl FluxRow))),(⟨(0:Int),(0:Int)⟩:Span),(⟨(0:Int),(0:Int)⟩:Span)⟩:Sky),(5:Int))
   (S6 (w64 (t64v8+(1:Int))) w55v8))
def p33_at8 (P6:Int→(Sl (Sl FluxRow))→Bool) (s:Sky) (bin:Int) (rates:Span) (x_0v3:Int) (x_1v3:Int) (w55v5:(Sl (Sl FluxRow))) (t64v6:Int) (w55v7:(Sl (Sl FluxRow))) (t64v8:Int) (w55v8:(Sl (Sl FluxRow))):Bool :=
  (decide ((bin.toNat < w55v8.len∧t64v6.toNat < (fun i=>(w55v8.get i).len) bin.toNat)) &&
  (decide ((bin.toNat < w55v8.len∧t64v6.toNat < (fun i=>(w55v8.get i).len) bin.toNat)) &&
  (cond (decide (((w55v8.get bin.toNat).get t64v6.toNat).Rate.Low > ((w55v8.get bin.toNat).get t64v6.toNat).Rate.High))
   true
   (P6 (w64 (t64v8+(1:Int))) w55v8))))
theorem q33_at8 (K : List PA → Prop) (s : Sky) (bin : Int) (rates : Span) (x_0v3 : Int) (x_1v3 : Int) (w55v5 : (Sl (Sl FluxRow))) (t64v6 : Int) (w55v7 : (Sl (Sl FluxRow)))
  (X6:St→Prop) (P6:Int→(Sl (Sl FluxRow))→Bool) (S6:Int→(Sl (Sl FluxRow))→(Sky×Int))
  (hX6:∀ (t64v6:Int) (w55v6:(Sl (Sl FluxRow))) (w55v6_l:Nat→Nat) (w55v6_g:Nat→Nat→List PV) (w55v6_h:VVE enc_44 w55v6_l w55v6_g w55v6.get),P6 t64v6 w55v6=true→K (e33 (S6 t64v6 w55v6))→X6 (f33_g6 s bin rates x_0v3 x_1v3 w55v5 t64v6 w55v6.len w55v6_l w55v6_g)) (t64v8:Int) (w55v8:(Sl (Sl FluxRow))) (w55v8_l:Nat→Nat) (w55v8_g:Nat→Nat→List PV) (w55v8_h:VVE enc_44 w55v8_l w55v8_g w55v8.get) (hs:p33_at8 P6 s bin rates x_0v3 x_1v3 w55v5 t64v6 w55v7 t64v8 w55v8=true) (hk:K (e33 (s33_at8 S6 s bin rates x_0v3 x_1v3 w55v5 t64v6 w55v7 t64v8 w55v8))):f33_at8 (Wk K) X6 s bin rates x_0v3 x_1v3 w55v5 t64v6 w55v7 t64v8 w55v8.len w55v8_l w55v8_g:=by
  obtain ⟨rfl,rfl⟩:=w55v8_h
  refine ofEq (f33_eq8 (Wk K) X6 s bin rates x_0v3 x_1v3 w55v5 t64v6 w55v7 t64v8 w55v8) ?_
  unfold p33_at8 at hs
  unfold s33_at8 at hk
  exact (andK hs fun hc hs => ⟨hc, (andK hs fun hc hs => ⟨hc, (condB_go (K := fun r => K (e33 r))
   (fun hs hk=>(wk hk (rl_c (.agg (rl_c (.rfl _) (rl_c (.nil _ _) (rl_c (.rfl _) (rl_c (.rfl _) (rl_c (.rfl _) (rl_c (.rfl _) rl_n))))))) (rl_c (.one (.rfl _)) rl_n))))
   (fun hs hk=>(hX6 (w64 (t64v8+(1:Int))) w55v8 (fun i=>(w55v8.get i).len) (fun i j=>enc_44 ((w55v8.get i).get j)) vvE_t hs hk)) hs hk)⟩)⟩)
def s33_at7 (S6:Int→(Sl (Sl FluxRow))→(Sky×Int)) (s:Sky) (bin:Int) (rates:Span) (x_0v3:Int) (x_1v3:Int) (w55v5:(Sl (Sl FluxRow))) (t64v6:Int) (w55v6:(Sl (Sl FluxRow))) (t64v7:Int) (w55v7:(Sl (Sl FluxRow))):(Sky×Int) :=
  (cond (x_1v3 != (-1:Int))
   (cond (decide (((w55v7.get bin.toNat).get t64v6.toNat).Energy ≥ x_1v3))
    (s33_at8 S6 s bin rates x_0v3 x_1v3 w55v5 t64v6 w55v7 t64v7 (⟨w55v7.len,(setS bin.toNat t64v6.toNat (⟨((w55v7.get bin.toNat).get t64v6.toNat).Energy,(⟨((w55v7.get bin.toNat).get t64v6.toNat).Rate.Low,(if rates.High < ((w55v7.get bin.toNat).get t64v6.toNat).Rate.High then rates.High else ((w55v7.get bin.toNat).get t64v6.toNat).Rate.High)⟩:Span)⟩:FluxRow) w55v7.get)⟩:Sl (Sl FluxRow)))
    (s33_at8 S6 s bin rates x_0v3 x_1v3 w55v5 t64v6 w55v7 t64v7 w55v7))
   (s33_at8 S6 s bin rates x_0v3 x_1v3 w55v5 t64v6 w55v7 t64v7 w55v7))
def p33_at7 (P6:Int→(Sl (Sl FluxRow))→Bool) (s:Sky) (bin:Int) (rates:Span) (x_0v3:Int) (x_1v3:Int) (w55v5:(Sl (Sl FluxRow))) (t64v6:Int) (w55v6:(Sl (Sl FluxRow))) (t64v7:Int) (w55v7:(Sl (Sl FluxRow))):Bool :=
  (cond (x_1v3 != (-1:Int))
   (decide ((bin.toNat < w55v7.len∧t64v6.toNat < (fun i=>(w55v7.get i).len) bin.toNat)) &&
   (cond (decide (((w55v7.get bin.toNat).get t64v6.toNat).Energy ≥ x_1v3))
    (decide ((bin.toNat < w55v7.len∧t64v6.toNat < (fun i=>(w55v7.get i).len) bin.toNat)) &&
    (decide ((bin.toNat < w55v7.len∧t64v6.toNat < (fun i=>(w55v7.get i).len) bin.toNat)) &&
    (p33_at8 P6 s bin rates x_0v3 x_1v3 w55v5 t64v6 w55v7 t64v7 (⟨w55v7.len,(setS bin.toNat t64v6.toNat (⟨((w55v7.get bin.toNat).get t64v6.toNat).Energy,(⟨((w55v7.get bin.toNat).get t64v6.toNat).Rate.Low,(if rates.High < ((w55v7.get bin.toNat).get t64v6.toNat).Rate.High then rates.High else ((w55v7.get bin.toNat).get t64v6.toNat).Rate.High)⟩:Span)⟩:FluxRow) w55v7.get)⟩:Sl (Sl FluxRow)))))
    (p33_at8 P6 s bin rates x_0v3 x_1v3 w55v5 t64v6 w55v7 t64v7 w55v7)))
   (p33_at8 P6 s bin rates x_0v3 x_1v3 w55v5 t64v6 w55v7 t64v7 w55v7))
theorem q33_at7 (K : List PA → Prop) (s : Sky) (bin : Int) (rates : Span) (x_0v3 : Int) (x_1v3 : Int) (w55v5 : (Sl (Sl FluxRow))) (t64v6 : Int) (w55v6 : (Sl (Sl FluxRow)))
  (X6:St→Prop) (P6:Int→(Sl (Sl FluxRow))→Bool) (S6:Int→(Sl (Sl FluxRow))→(Sky×Int))
  (hX6:∀ (t64v6:Int) (w55v6:(Sl (Sl FluxRow))) (w55v6_l:Nat→Nat) (w55v6_g:Nat→Nat→List PV) (w55v6_h:VVE enc_44 w55v6_l w55v6_g w55v6.get),P6 t64v6 w55v6=true→K (e33 (S6 t64v6 w55v6))→X6 (f33_g6 s bin rates x_0v3 x_1v3 w55v5 t64v6 w55v6.len w55v6_l w55v6_g)) (t64v7:Int) (w55v7:(Sl (Sl FluxRow))) (w55v7_l:Nat→Nat) (w55v7_g:Nat→Nat→List PV) (w55v7_h:VVE enc_44 w55v7_l w55v7_g w55v7.get) (hs:p33_at7 P6 s bin rates x_0v3 x_1v3 w55v5 t64v6 w55v6 t64v7 w55v7=true) (hk:K (e33 (s33_at7 S6 s bin rates x_0v3 x_1v3 w55v5 t64v6 w55v6 t64v7 w55v7))):f33_at7 (Wk K) X6 s bin rates x_0v3 x_1v3 w55v5 t64v6 w55v6 t64v7 w55v7.len w55v7_l w55v7_g:=by
  obtain ⟨rfl,rfl⟩:=w55v7_h
  refine ofEq (f33_eq7 (Wk K) X6 s bin rates x_0v3 x_1v3 w55v5 t64v6 w55v6 t64v7 w55v7) ?_
  unfold p33_at7 at hs
  unfold s33_at7 at hk
  exact (condB_go (K := fun r => K (e33 r))
   (fun hs hk => (andK hs fun hc hs => ⟨hc, (condB_go (K := fun r => K (e33 r))
    (fun hs hk=>(andK hs fun hc hs=>⟨hc,(andK hs fun hc hs=>⟨hc,(q33_at8 K s bin rates x_0v3 x_1v3 w55v5 t64v6 w55v7 X6 P6 S6 hX6 t64v7 (⟨w55v7.len,(setS bin.toNat t64v6.toNat (⟨((w55v7.get bin.toNat).get t64v6.toNat).Energy,(⟨((w55v7.get bin.toNat).get t64v6.toNat).Rate.Low,(if rates.High < ((w55v7.get bin.toNat).get t64v6.toNat).Rate.High then rates.High else ((w55v7.get bin.toNat).get t64v6.toNat).Rate.High)⟩:Span)⟩:FluxRow) w55v7.get)⟩:Sl (Sl FluxRow)) (fun i=>(w55v7.get i).len) (setGG bin.toNat t64v6.toNat 2 (fun i j=>enc_44 ((w55v7.get i).get j)) [.int .i64 (if rates.High < ((w55v7.get bin.toNat).get t64v6.toNat).Rate.High then rates.High else ((w55v7.get bin.toNat).get t64v6.toNat).Rate.High)]) (vvE_set vvE_t rfl) hs hk)⟩)⟩))
    (fun hs hk=>(q33_at8 K s bin rates x_0v3 x_1v3 w55v5 t64v6 w55v7 X6 P6 S6 hX6 t64v7 w55v7 (fun i=>(w55v7.get i).len) (fun i j=>enc_44 ((w55v7.get i).get j)) vvE_t hs hk)) hs hk)⟩))
   (fun hs hk=>(q33_at8 K s bin rates x_0v3 x_1v3 w55v5 t64v6 w55v7 X6 P6 S6 hX6 t64v7 w55v7 (fun i=>(w55v7.get i).len) (fun i j=>enc_44 ((w55v7.get i).get j)) vvE_t hs hk)) hs hk)
def s33_st6 (s:Sky) (bin:Int) (rates:Span) (x_0v3:Int) (x_1v3:Int) (w55v5:(Sl (Sl FluxRow))) (S6:Int→(Sl (Sl FluxRow))→(Sky×Int)) (t64v6:Int) (w55v6:(Sl (Sl FluxRow))):(Sky×Int) :=
  (cond (decide (t64v6 < (((fun i => (w55v5.get i).len) bin.toNat : Nat) : Int)))
   (cond (decide (((w55v6.get bin.toNat).get t64v6.toNat).Energy ≤ x_0v3))
    (s33_at7 S6 s bin rates x_0v3 x_1v3 w55v5 t64v6 w55v6 t64v6 (⟨w55v6.len,(setS bin.toNat t64v6.toNat (⟨((w55v6.get bin.toNat).get t64v6.toNat).Energy,(⟨(if rates.Low > ((w55v6.get bin.toNat).get t64v6.toNat).Rate.Low then rates.Low else ((w55v6.get bin.toNat).get t64v6.toNat).Rate.Low),((w55v6.get bin.toNat).get t64v6.toNat).Rate.High⟩:Span)⟩:FluxRow) w55v6.get)⟩:Sl (Sl FluxRow)))
    (s33_at7 S6 s bin rates x_0v3 x_1v3 w55v5 t64v6 w55v6 t64v6 w55v6))
   ((⟨s.Parts,w55v6,s.Beta,s.Alpha⟩:Sky),(0:Int)))
def p33_st6 (s:Sky) (bin:Int) (rates:Span) (x_0v3:Int) (x_1v3:Int) (w55v5:(Sl (Sl FluxRow))) (P6:Int→(Sl (Sl FluxRow))→Bool) (t64v6:Int) (w55v6:(Sl (Sl FluxRow))):Bool :=
  (cond (decide (t64v6 < (((fun i => (w55v5.get i).len) bin.toNat : Nat) : Int)))
   (decide ((0≤bin∧bin < (w55v6.len:Int))) &&
   (decide ((bin.toNat < w55v6.len)) &&
   (decide ((bin.toNat < w55v6.len∧0≤t64v6∧t64v6 < (((fun i=>(w55v6.get i).len) bin.toNat:Nat):Int))) &&
   (decide ((bin.toNat < w55v6.len∧t64v6.toNat < (fun i=>(w55v6.get i).len) bin.toNat)) &&
   (cond (decide (((w55v6.get bin.toNat).get t64v6.toNat).Energy ≤ x_0v3))
    (decide ((bin.toNat < w55v6.len∧t64v6.toNat < (fun i=>(w55v6.get i).len) bin.toNat)) &&
    (decide ((bin.toNat < w55v6.len∧t64v6.toNat < (fun i=>(w55v6.get i).len) bin.toNat)) &&
    (p33_at7 P6 s bin rates x_0v3 x_1v3 w55v5 t64v6 w55v6 t64v6 (⟨w55v6.len,(setS bin.toNat t64v6.toNat (⟨((w55v6.get bin.toNat).get t64v6.toNat).Energy,(⟨(if rates.Low > ((w55v6.get bin.toNat).get t64v6.toNat).Rate.Low then rates.Low else ((w55v6.get bin.toNat).get t64v6.toNat).Rate.Low),((w55v6.get bin.toNat).get t64v6.toNat).Rate.High⟩:Span)⟩:FluxRow) w55v6.get)⟩:Sl (Sl FluxRow)))))
    (p33_at7 P6 s bin rates x_0v3 x_1v3 w55v5 t64v6 w55v6 t64v6 w55v6))))))
   true)
def s33_lp6 (s : Sky) (bin : Int) (rates : Span) (x_0v3 : Int) (x_1v3 : Int) (w55v5 : (Sl (Sl FluxRow))) : Nat → Int → (Sl (Sl FluxRow)) → (Sky × Int)
  | 0=>fun _ _=>default
  | k+1=>s33_st6 s bin rates x_0v3 x_1v3 w55v5 (s33_lp6 s bin rates x_0v3 x_1v3 w55v5 k)
def p33_lp6 (s : Sky) (bin : Int) (rates : Span) (x_0v3 : Int) (x_1v3 : Int) (w55v5 : (Sl (Sl FluxRow))) : Nat → Int → (Sl (Sl FluxRow)) → Bool
  | 0=>fun _ _=>false
  | k+1=>p33_st6 s bin rates x_0v3 x_1v3 w55v5 (p33_lp6 s bin rates x_0v3 x_1v3 w55v5 k)
def s33_at6 (s:Sky) (bin:Int) (rates:Span) (x_0v3:Int) (x_1v3:Int) (w55v5:(Sl (Sl FluxRow))) (t64v6:Int) (w55v6:(Sl (Sl FluxRow))):(Sky×Int):=s33_lp6 s bin rates x_0v3 x_1v3 w55v5 Fuel t64v6 w55v6
def p33_at6 (s:Sky) (bin:Int) (rates:Span) (x_0v3:Int) (x_1v3:Int) (w55v5:(Sl (Sl FluxRow))) (t64v6:Int) (w55v6:(Sl (Sl FluxRow))):Bool:=p33_lp6 s bin rates x_0v3 x_1v3 w55v5 Fuel t64v6 w55v6
theorem q33_at6 (K:List PA→Prop) (s:Sky) (bin:Int) (rates:Span) (x_0v3:Int) (x_1v3:Int) (w55v5:(Sl (Sl FluxRow))) (t64v6:Int) (w55v6:(Sl (Sl FluxRow))) (w55v6_l:Nat→Nat) (w55v6_g:Nat→Nat→List PV) (w55v6_h:VVE enc_44 w55v6_l w55v6_g w55v6.get) (hs:p33_at6 s bin rates x_0v3 x_1v3 w55v5 t64v6 w55v6=true) (hk:K (e33 (s33_at6 s bin rates x_0v3 x_1v3 w55v5 t64v6 w55v6))):f33_at6 (Wk K) s bin rates x_0v3 x_1v3 w55v5 t64v6 w55v6.len w55v6_l w55v6_g:=by
  refine f33_loop6 (Wk K) s bin rates x_0v3 x_1v3 w55v5 t64v6 w55v6.len w55v6_l w55v6_g ?_
  intro X6 hstep
  have key:∀ (k:Nat) (t64v6:Int) (w55v6:(Sl (Sl FluxRow))) (w55v6_l:Nat→Nat) (w55v6_g:Nat→Nat→List PV) (w55v6_h:VVE enc_44 w55v6_l w55v6_g w55v6.get),p33_lp6 s bin rates x_0v3 x_1v3 w55v5 k t64v6 w55v6=true→K (e33 (s33_lp6 s bin rates x_0v3 x_1v3 w55v5 k t64v6 w55v6))→X6 (f33_g6 s bin rates x_0v3 x_1v3 w55v5 t64v6 w55v6.len w55v6_l w55v6_g):=by
    intro k
    induction k with
    | zero=>intro t64v6 w55v6 w55v6_l w55v6_g w55v6_h hs;exact absurd hs Bool.false_ne_true
    | succ k ih =>
      intro t64v6 w55v6 w55v6_l w55v6_g w55v6_h hs hk
      obtain ⟨rfl,rfl⟩:=w55v6_h
      refine hstep t64v6 w55v6 ?_
      have hs:p33_st6 s bin rates x_0v3 x_1v3 w55v5 (p33_lp6 s bin rates x_0v3 x_1v3 w55v5 k) t64v6 w55v6=true:=hs
      have hk:K (e33 (s33_st6 s bin rates x_0v3 x_1v3 w55v5 (s33_lp6 s bin rates x_0v3 x_1v3 w55v5 k) t64v6 w55v6)):=hk
      unfold p33_st6 at hs
      unfold s33_st6 at hk
      generalize s33_lp6 s bin rates x_0v3 x_1v3 w55v5 k=S6 at hk ih
      generalize p33_lp6 s bin rates x_0v3 x_1v3 w55v5 k=P6 at hs ih
      have hX6:=ih
      exact (condB_go (K := fun r => K (e33 r))
       (fun hs hk => (andK hs fun hc hs => ⟨hc, (andK hs fun hc hs => ⟨hc, (andK hs fun hc hs => ⟨hc, (andK hs fun hc hs => ⟨hc, (condB_go (K := fun r => K (e33 r))
        (fun hs hk=>(andK hs fun hc hs=>⟨hc,(andK hs fun hc hs=>⟨hc,(q33_at7 K s bin rates x_0v3 x_1v3 w55v5 t64v6 w55v6 X6 P6 S6 hX6 t64v6 (⟨w55v6.len,(setS bin.toNat t64v6.toNat (⟨((w55v6.get bin.toNat).get t64v6.toNat).Energy,(⟨(if rates.Low > ((w55v6.get bin.toNat).get t64v6.toNat).Rate.Low then rates.Low else ((w55v6.get bin.toNat).get t64v6.toNat).Rate.Low),((w55v6.get bin.toNat).get t64v6.toNat).Rate.High⟩:Span)⟩:FluxRow) w55v6.get)⟩:Sl (Sl FluxRow)) (fun i=>(w55v6.get i).len) (setGG bin.toNat t64v6.toNat 1 (fun i j=>enc_44 ((w55v6.get i).get j)) [.int .i64 (if rates.Low > ((w55v6.get bin.toNat).get t64v6.toNat).Rate.Low then rates.Low else ((w55v6.get bin.toNat).get t64v6.toNat).Rate.Low)]) (vvE_set vvE_t rfl) hs hk)⟩)⟩))
        (fun hs hk=>(q33_at7 K s bin rates x_0v3 x_1v3 w55v5 t64v6 w55v6 X6 P6 S6 hX6 t64v6 w55v6 (fun i=>(w55v6.get i).len) (fun i j=>enc_44 ((w55v6.get i).get j)) vvE_t hs hk)) hs hk)⟩)⟩)⟩)⟩))
       (fun hs hk=>(wk_rfl hk)) hs hk)
  exact key _ t64v6 w55v6 w55v6_l w55v6_g w55v6_h hs hk
def s33_at5 (s:Sky) (bin:Int) (rates:Span) (x_0v3:Int) (x_1v3:Int) (w55v4:(Sl (Sl FluxRow))) (w55v5:(Sl (Sl FluxRow))):(Sky×Int) :=
  (s33_at6 s bin rates x_0v3 x_1v3 w55v5 (0:Int) w55v5)
def p33_at5 (s:Sky) (bin:Int) (rates:Span) (x_0v3:Int) (x_1v3:Int) (w55v4:(Sl (Sl FluxRow))) (w55v5:(Sl (Sl FluxRow))):Bool :=
  (decide ((0≤bin∧bin < (w55v5.len:Int))) &&
  (decide ((bin.toNat < w55v5.len)) &&
  (decide ((bin.toNat < w55v5.len)) &&
  (p33_at6 s bin rates x_0v3 x_1v3 w55v5 (0:Int) w55v5))))
theorem q33_at5 (K:List PA→Prop) (s:Sky) (bin:Int) (rates:Span) (x_0v3:Int) (x_1v3:Int) (w55v4:(Sl (Sl FluxRow))) (w55v5:(Sl (Sl FluxRow))) (w55v5_l:Nat→Nat) (w55v5_g:Nat→Nat→List PV) (w55v5_h:VVE enc_44 w55v5_l w55v5_g w55v5.get) (hs:p33_at5 s bin rates x_0v3 x_1v3 w55v4 w55v5=true) (hk:K (e33 (s33_at5 s bin rates x_0v3 x_1v3 w55v4 w55v5))):f33_at5 (Wk K) s bin rates x_0v3 x_1v3 w55v4 w55v5.len w55v5_l w55v5_g:=by
  obtain ⟨rfl,rfl⟩:=w55v5_h
  refine ofEq (f33_eq5 (Wk K) s bin rates x_0v3 x_1v3 w55v4 w55v5) ?_
  unfold p33_at5 at hs
  unfold s33_at5 at hk
  exact (andK hs fun hc hs=>⟨hc,(andK hs fun hc hs=>⟨hc,(andK hs fun hc hs=>⟨hc,(q33_at6 K s bin rates x_0v3 x_1v3 w55v5 (0:Int) w55v5 (fun i=>(w55v5.get i).len) (fun i j=>enc_44 ((w55v5.get i).get j)) vvE_t hs hk)⟩)⟩)⟩)
def s33_st4 (s:Sky) (bin:Int) (rates:Span) (s_1v3:(Sl (Sl FluxRow))) (x_0v3:Int) (x_1v3:Int) (S4:Int→(Sl (Sl FluxRow))→(Sky×Int)) (t46v4:Int) (w55v4:(Sl (Sl FluxRow))):(Sky×Int) :=
  (cond (decide (t46v4 < (s_1v3.len : Int)))
   (S4 (w64 (t46v4+(1:Int))) (⟨(w55v4.len+1),(appT w55v4.len w55v4.get (fun _=>(⟨(s_1v3.get t46v4.toNat).len,(s_1v3.get t46v4.toNat).get⟩:Sl FluxRow)))⟩:Sl (Sl FluxRow)))
   (s33_at5 s bin rates x_0v3 x_1v3 w55v4 w55v4))
def p33_st4 (s:Sky) (bin:Int) (rates:Span) (s_1v3:(Sl (Sl FluxRow))) (x_0v3:Int) (x_1v3:Int) (P4:Int→(Sl (Sl FluxRow))→Bool) (t46v4:Int) (w55v4:(Sl (Sl FluxRow))):Bool :=
  (cond (decide (t46v4 < (s_1v3.len : Int)))
   (decide ((0≤t46v4∧t46v4 < (s_1v3.len:Int))) &&
   (decide (((s_1v3.get t46v4.toNat).len * 24≤140737488355328∧(s_1v3.get t46v4.toNat).len≤9223372036854775807)) &&
   (decide (((w55v4.len+1) * 24≤140737488355328∧w55v4.len+1≤9223372036854775807)) &&
   (P4 (w64 (t46v4+(1:Int))) (⟨(w55v4.len+1),(appT w55v4.len w55v4.get (fun _=>(⟨(s_1v3.get t46v4.toNat).len,(s_1v3.get t46v4.toNat).get⟩:Sl FluxRow)))⟩:Sl (Sl FluxRow))))))
   (p33_at5 s bin rates x_0v3 x_1v3 w55v4 w55v4))
def s33_lp4 (s : Sky) (bin : Int) (rates : Span) (s_1v3 : (Sl (Sl FluxRow))) (x_0v3 : Int) (x_1v3 : Int) : Nat → Int → (Sl (Sl FluxRow)) → (Sky × Int)
  | 0=>fun _ _=>default
  | k+1=>s33_st4 s bin rates s_1v3 x_0v3 x_1v3 (s33_lp4 s bin rates s_1v3 x_0v3 x_1v3 k)
def p33_lp4 (s : Sky) (bin : Int) (rates : Span) (s_1v3 : (Sl (Sl FluxRow))) (x_0v3 : Int) (x_1v3 : Int) : Nat → Int → (Sl (Sl FluxRow)) → Bool
  | 0=>fun _ _=>false
  | k+1=>p33_st4 s bin rates s_1v3 x_0v3 x_1v3 (p33_lp4 s bin rates s_1v3 x_0v3 x_1v3 k)
def s33_at4 (s:Sky) (bin:Int) (rates:Span) (s_1v3:(Sl (Sl FluxRow))) (x_0v3:Int) (x_1v3:Int) (t46v4:Int) (w55v4:(Sl (Sl FluxRow))):(Sky×Int):=s33_lp4 s bin rates s_1v3 x_0v3 x_1v3 Fuel t46v4 w55v4
def p33_at4 (s:Sky) (bin:Int) (rates:Span) (s_1v3:(Sl (Sl FluxRow))) (x_0v3:Int) (x_1v3:Int) (t46v4:Int) (w55v4:(Sl (Sl FluxRow))):Bool:=p33_lp4 s bin rates s_1v3 x_0v3 x_1v3 Fuel t46v4 w55v4
theorem q33_at4 (K:List PA→Prop) (s:Sky) (bin:Int) (rates:Span) (s_1v3:(Sl (Sl FluxRow))) (x_0v3:Int) (x_1v3:Int) (t46v4:Int) (w55v4:(Sl (Sl FluxRow))) (w55v4_l:Nat→Nat) (w55v4_g:Nat→Nat→List PV) (w55v4_h:VVE enc_44 w55v4_l w55v4_g w55v4.get) (hs:p33_at4 s bin rates s_1v3 x_0v3 x_1v3 t46v4 w55v4=true) (hk:K (e33 (s33_at4 s bin rates s_1v3 x_0v3 x_1v3 t46v4 w55v4))):f33_at4 (Wk K) s bin rates s_1v3 x_0v3 x_1v3 t46v4 w55v4.len w55v4_l w55v4_g:=by
  refine f33_loop4 (Wk K) s bin rates s_1v3 x_0v3 x_1v3 t46v4 w55v4.len w55v4_l w55v4_g ?_
  intro X4 hstep
  have key:∀ (k:Nat) (t46v4:Int) (w55v4:(Sl (Sl FluxRow))) (w55v4_l:Nat→Nat) (w55v4_g:Nat→Nat→List PV) (w55v4_h:VVE enc_44 w55v4_l w55v4_g w55v4.get),p33_lp4 s bin rates s_1v3 x_0v3 x_1v3 k t46v4 w55v4=true→K (e33 (s33_lp4 s bin rates s_1v3 x_0v3 x_1v3 k t46v4 w55v4))→X4 (f33_g4 s bin rates s_1v3 x_0v3 x_1v3 t46v4 w55v4.len w55v4_l w55v4_g):=by
    intro k
    induction k with
    | zero=>intro t46v4 w55v4 w55v4_l w55v4_g w55v4_h hs;exact absurd hs Bool.false_ne_true
    | succ k ih =>
      intro t46v4 w55v4 w55v4_l w55v4_g w55v4_h hs hk
      obtain ⟨rfl,rfl⟩:=w55v4_h
      refine hstep t46v4 w55v4 ?_
      have hs:p33_st4 s bin rates s_1v3 x_0v3 x_1v3 (p33_lp4 s bin rates s_1v3 x_0v3 x_1v3 k) t46v4 w55v4=true:=hs
      have hk:K (e33 (s33_st4 s bin rates s_1v3 x_0v3 x_1v3 (s33_lp4 s bin rates s_1v3 x_0v3 x_1v3 k) t46v4 w55v4)):=hk
      unfold p33_st4 at hs
      unfold s33_st4 at hk
      generalize s33_lp4 s bin rates s_1v3 x_0v3 x_1v3 k=S4 at hk ih
      generalize p33_lp4 s bin rates s_1v3 x_0v3 x_1v3 k=P4 at hs ih
      have hX4:=ih
      exact (condB_go (K := fun r => K (e33 r))
       (fun hs hk=>(andK hs fun hc hs=>⟨hc,(andK hs fun hc hs=>⟨hc,(andK hs fun hc hs=>⟨hc,(hX4 (w64 (t46v4+(1:Int))) (⟨(w55v4.len+1),(appT w55v4.len w55v4.get (fun _=>(⟨(s_1v3.get t46v4.toNat).len,(s_1v3.get t46v4.toNat).get⟩:Sl FluxRow)))⟩:Sl (Sl FluxRow)) (appN w55v4.len (fun i=>(w55v4.get i).len) (fun _=>(s_1v3.get t46v4.toNat).len)) (appGG w55v4.len (fun i j=>enc_44 ((w55v4.get i).get j)) (fun _=>(fun i=>enc_44 ((s_1v3.get t46v4.toNat).get i)))) (vvE_app vvE_t (vvE_c rfl)) hs hk)⟩)⟩)⟩))
       (fun hs hk=>(q33_at5 K s bin rates x_0v3 x_1v3 w55v4 w55v4 (fun i=>(w55v4.get i).len) (fun i j=>enc_44 ((w55v4.get i).get j)) vvE_t hs hk)) hs hk)
  exact key _ t46v4 w55v4 w55v4_l w55v4_g w55v4_h hs hk
def s33_at3 (s:Sky) (bin:Int) (rates:Span) (s_1v3:(Sl (Sl FluxRow))) (x_0v3:Int) (x_1v3:Int):(Sky×Int) :=
  (s33_at4 s bin rates s_1v3 x_0v3 x_1v3 (0:Int) (⟨0,(fun _=>⟨0,fun _=>default⟩)⟩:Sl (Sl FluxRow)))
def p33_at3 (s:Sky) (bin:Int) (rates:Span) (s_1v3:(Sl (Sl FluxRow))) (x_0v3:Int) (x_1v3:Int):Bool :=
  (p33_at4 s bin rates s_1v3 x_0v3 x_1v3 (0:Int) (⟨0,(fun _=>⟨0,fun _=>default⟩)⟩:Sl (Sl FluxRow)))
theorem q33_at3 (K:List PA→Prop) (s:Sky) (bin:Int) (rates:Span) (s_1v3:(Sl (Sl FluxRow))) (x_0v3:Int) (x_1v3:Int) (s_1v3_g:Nat→List PV) (s_1v3_h:s_1v3_g=fun i=>enc_32 (s_1v3.get i)) (hs:p33_at3 s bin rates s_1v3 x_0v3 x_1v3=true) (hk:K (e33 (s33_at3 s bin rates s_1v3 x_0v3 x_1v3))):f33_at3 (Wk K) s bin rates s_1v3.len s_1v3_g x_0v3 x_1v3:=by
  subst s_1v3_h
  refine ofEq (f33_eq3 (Wk K) s bin rates s_1v3 x_0v3 x_1v3) ?_
  unfold p33_at3 at hs
  unfold s33_at3 at hk
  exact (q33_at4 K s bin rates s_1v3 x_0v3 x_1v3 (0:Int) (⟨0,(fun _=>⟨0,fun _=>default⟩)⟩:Sl (Sl FluxRow)) (fun _=>0) (fun _ _=>enc_44 default) vvE_d hs hk)
def s33_at2 (s:Sky) (t:(Sl RangeRow)) (bin:Int) (opacity:Int) (rates:Span) (s_1v2:(Sl (Sl FluxRow))):(Sky×Int) :=
  (s33_at3 s bin rates s_1v2 ((s64 t opacity).Low) ((s64 t opacity).High))
def p33_at2 (s:Sky) (t:(Sl RangeRow)) (bin:Int) (opacity:Int) (rates:Span) (s_1v2:(Sl (Sl FluxRow))):Bool :=
  (decide ((p64 t opacity=true)) &&
  (p33_at3 s bin rates s_1v2 ((s64 t opacity).Low) ((s64 t opacity).High)))
theorem q33_at2 (K:List PA→Prop) (s:Sky) (t:(Sl RangeRow)) (bin:Int) (opacity:Int) (rates:Span) (s_1v2:(Sl (Sl FluxRow))) (s_1v2_g:Nat→List PV) (s_1v2_h:s_1v2_g=fun i=>enc_32 (s_1v2.get i)) (hs:p33_at2 s t bin opacity rates s_1v2=true) (hk:K (e33 (s33_at2 s t bin opacity rates s_1v2))):f33_at2 (Wk K) s t bin opacity rates s_1v2.len s_1v2_g:=by
  subst s_1v2_h
  refine ofEq (f33_eq2 (Wk K) s t bin opacity rates s_1v2) ?_
  unfold p33_at2 at hs
  unfold s33_at2 at hk
  exact (andK hs fun hc hs=>⟨⟨isE,hc⟩,(q33_at3 K s bin rates s_1v2 ((s64 t opacity).Low) ((s64 t opacity).High) (fun i=>enc_32 (s_1v2.get i)) rfl hs hk)⟩)
def s33_at1 (s:Sky) (t:(Sl RangeRow)) (bin:Int) (opacity:Int) (rates:Span) (t36v1:Bool) (s_1v1:(Sl (Sl FluxRow))):(Sky×Int) :=
  (cond t36v1
   ((⟨(0:Int),(⟨0,fun _=>default⟩:(Sl (Sl FluxRow))),(⟨(0:Int),(0:Int)⟩:Span),(⟨(0:Int),(0:Int)⟩:Span)⟩:Sky),(2:Int))
   (s33_at2 s t bin opacity rates s_1v1))
def p33_at1 (s:Sky) (t:(Sl RangeRow)) (bin:Int) (opacity:Int) (rates:Span) (t36v1:Bool) (s_1v1:(Sl (Sl FluxRow))):Bool :=
  (cond t36v1
   true
   (p33_at2 s t bin opacity rates s_1v1))
theorem q33_at1 (K:List PA→Prop) (s:Sky) (t:(Sl RangeRow)) (bin:Int) (opacity:Int) (rates:Span) (t36v1:Bool) (s_1v1:(Sl (Sl FluxRow))) (s_1v1_g:Nat→List PV) (s_1v1_h:s_1v1_g=fun i=>enc_32 (s_1v1.get i)) (hs:p33_at1 s t bin opacity rates t36v1 s_1v1=true) (hk:K (e33 (s33_at1 s t bin opacity rates t36v1 s_1v1))):f33_at1 (Wk K) s t bin opacity rates t36v1 s_1v1.len s_1v1_g:=by
  subst s_1v1_h
  refine ofEq (f33_eq1 (Wk K) s t bin opacity rates t36v1 s_1v1) ?_
  unfold p33_at1 at hs
  unfold s33_at1 at hk
  exact (condB_go (K := fun r => K (e33 r))
   (fun hs hk=>(wk hk (rl_c (.agg (rl_c (.rfl _) (rl_c (.nil _ _) (rl_c (.rfl _) (rl_c (.rfl _) (rl_c (.rfl _) (rl_c (.rfl _) rl_n))))))) (rl_c (.one (.rfl _)) rl_n))))
   (fun hs hk=>(q33_at2 K s t bin opacity rates s_1v1 (fun i=>enc_32 (s_1v1.get i)) rfl hs hk)) hs hk)
def s33_at0 (s:Sky) (t:(Sl RangeRow)) (bin:Int) (opacity:Int) (rates:Span) (okv0:Bool) (s_1v0:(Sl (Sl FluxRow))):(Sky×Int) :=
  (cond (!okv0)
   (s33_at1 s t bin opacity rates true s_1v0)
   (s33_at1 s t bin opacity rates (!(s69 rates (0:Int) s.Parts)) s_1v0))
def p33_at0 (s:Sky) (t:(Sl RangeRow)) (bin:Int) (opacity:Int) (rates:Span) (okv0:Bool) (s_1v0:(Sl (Sl FluxRow))):Bool :=
  (cond (!okv0)
   (p33_at1 s t bin opacity rates true s_1v0)
   (p33_at1 s t bin opacity rates (!(s69 rates (0:Int) s.Parts)) s_1v0))
theorem q33_at0 (K:List PA→Prop) (s:Sky) (t:(Sl RangeRow)) (bin:Int) (opacity:Int) (rates:Span) (okv0:Bool) (s_1v0:(Sl (Sl FluxRow))) (s_1v0_g:Nat→List PV) (s_1v0_h:s_1v0_g=fun i=>enc_32 (s_1v0.get i)) (hs:p33_at0 s t bin opacity rates okv0 s_1v0=true) (hk:K (e33 (s33_at0 s t bin opacity rates okv0 s_1v0))):f33_at0 (Wk K) s t bin opacity rates okv0 s_1v0.len s_1v0_g:=by
  subst s_1v0_h
  refine ofEq (f33_eq0 (Wk K) s t bin opacity rates okv0 s_1v0) ?_
  unfold p33_at0 at hs
  unfold s33_at0 at hk
  exact (condB_go (K := fun r => K (e33 r))
   (fun hs hk=>(q33_at1 K s t bin opacity rates true s_1v0 (fun i=>enc_32 (s_1v0.get i)) rfl hs hk))
   (fun hs hk=>(q33_at1 K s t bin opacity rates (!(s69 rates (0:Int) s.Parts)) s_1v0 (fun i=>enc_32 (s_1v0.get i)) rfl hs hk)) hs hk)
def s33 (s:Sky) (t:(Sl RangeRow)) (bin:Int) (opacity:Int) (rates:Span):(Sky×Int) :=
  (s33_at0 s t bin opacity rates ((s65 s t bin opacity).2) s.Bins)
def p33 (s:Sky) (t:(Sl RangeRow)) (bin:Int) (opacity:Int) (rates:Span):Bool :=
  (decide ((p65 s t bin opacity=true)) &&
  (p33_at0 s t bin opacity rates ((s65 s t bin opacity).2) s.Bins))
theorem q33 (s:Sky) (t:(Sl RangeRow)) (bin:Int) (opacity:Int) (rates:Span) (K:List PA→Prop) (hs:p33 s t bin opacity rates=true) (hk:K (e33 (s33 s t bin opacity rates))):vcFun Try.prog G33 ann33 33 [.agg [.int .i64 s.Parts,.sl s.Bins.len 1 (fun i=>enc_32 (s.Bins.get i)),.int .i64 s.Beta.Low,.int .i64 s.Beta.High,.int .i64 s.Alpha.Low,.int .i64 s.Alpha.High],.one (.sl t.len 3 (fun i=>enc_42 (t.get i))),.one (.int .i64 bin),.one (.int .i64 opacity),.agg [.int .i64 rates.Low,.int .i64 rates.High]] (Wk K):=by
  refine ofEq (f33_top s t bin opacity rates (Wk K)) ?_
  unfold p33 at hs
  unfold s33 at hk
  exact (andK hs fun hc hs=>⟨⟨isE,isE,hc⟩,(q33_at0 K s t bin opacity rates ((s65 s t bin opacity).2) s.Bins (fun i=>enc_32 (s.Bins.get i)) rfl hs hk)⟩)
def ctr33 : List PA → COut
  | [.agg [.int .i64 a0_Parts,.sl a0_Bins_n a0_Bins_s a0_Bins_g,.int .i64 a0_Beta_Low,.int .i64 a0_Beta_High,.int .i64 a0_Alpha_Low,.int .i64 a0_Alpha_High],.one (.sl a1_n a1_s a1_g),.one (.int .i64 a2),.one (.int .i64 a3),.agg [.int .i64 a4_Low,.int .i64 a4_High]]=>.det (IsE enc_32 1 a0_Bins_s a0_Bins_g∧IsE enc_42 3 a1_s a1_g∧p33 (⟨a0_Parts,(⟨a0_Bins_n,decF_32 a0_Bins_g⟩:(Sl (Sl FluxRow))),(⟨a0_Beta_Low,a0_Beta_High⟩:Span),(⟨a0_Alpha_Low,a0_Alpha_High⟩:Span)⟩:Sky) (⟨a1_n,decF_42 a1_g⟩:(Sl RangeRow)) a2 a3 (⟨a4_Low,a4_High⟩:Span)=true) [.agg [.int .i64 (((s33 (⟨a0_Parts,(⟨a0_Bins_n,decF_32 a0_Bins_g⟩:(Sl (Sl FluxRow))),(⟨a0_Beta_Low,a0_Beta_High⟩:Span),(⟨a0_Alpha_Low,a0_Alpha_High⟩:Span)⟩:Sky) (⟨a1_n,decF_42 a1_g⟩:(Sl RangeRow)) a2 a3 (⟨a4_Low,a4_High⟩:Span)).1).Parts),.sl (((s33 (⟨a0_Parts,(⟨a0_Bins_n,decF_32 a0_Bins_g⟩:(Sl (Sl FluxRow))),(⟨a0_Beta_Low,a0_Beta_High⟩:Span),(⟨a0_Alpha_Low,a0_Alpha_High⟩:Span)⟩:Sky) (⟨a1_n,decF_42 a1_g⟩:(Sl RangeRow)) a2 a3 (⟨a4_Low,a4_High⟩:Span)).1).Bins.len) 1 (fun i=>enc_32 (((s33 (⟨a0_Parts,(⟨a0_Bins_n,decF_32 a0_Bins_g⟩:(Sl (Sl FluxRow))),(⟨a0_Beta_Low,a0_Beta_High⟩:Span),(⟨a0_Alpha_Low,a0_Alpha_High⟩:Span)⟩:Sky) (⟨a1_n,decF_42 a1_g⟩:(Sl RangeRow)) a2 a3 (⟨a4_Low,a4_High⟩:Span)).1).Bins.get i)),.int .i64 (((s33 (⟨a0_Parts,(⟨a0_Bins_n,decF_32 a0_Bins_g⟩:(Sl (Sl FluxRow))),(⟨a0_Beta_Low,a0_Beta_High⟩:Span),(⟨a0_Alpha_Low,a0_Alpha_High⟩:Span)⟩:Sky) (⟨a1_n,decF_42 a1_g⟩:(Sl RangeRow)) a2 a3 (⟨a4_Low,a4_High⟩:Span)).1).Beta.Low),.int .i64 (((s33 (⟨a0_Parts,(⟨a0_Bins_n,decF_32 a0_Bins_g⟩:(Sl (Sl FluxRow))),(⟨a0_Beta_Low,a0_Beta_High⟩:Span),(⟨a0_Alpha_Low,a0_Alpha_High⟩:Span)⟩:Sky) (⟨a1_n,decF_42 a1_g⟩:(Sl RangeRow)) a2 a3 (⟨a4_Low,a4_High⟩:Span)).1).Beta.High),.int .i64 (((s33 (⟨a0_Parts,(⟨a0_Bins_n,decF_32 a0_Bins_g⟩:(Sl (Sl FluxRow))),(⟨a0_Beta_Low,a0_Beta_High⟩:Span),(⟨a0_Alpha_Low,a0_Alpha_High⟩:Span)⟩:Sky) (⟨a1_n,decF_42 a1_g⟩:(Sl RangeRow)) a2 a3 (⟨a4_Low,a4_High⟩:Span)).1).Alpha.Low),.int .i64 (((s33 (⟨a0_Parts,(⟨a0_Bins_n,decF_32 a0_Bins_g⟩:(Sl (Sl FluxRow))),(⟨a0_Beta_Low,a0_Beta_High⟩:Span),(⟨a0_Alpha_Low,a0_Alpha_High⟩:Span)⟩:Sky) (⟨a1_n,decF_42 a1_g⟩:(Sl RangeRow)) a2 a3 (⟨a4_Low,a4_High⟩:Span)).1).Alpha.High)],.one (.int .i64 ((s33 (⟨a0_Parts,(⟨a0_Bins_n,decF_32 a0_Bins_g⟩:(Sl (Sl FluxRow))),(⟨a0_Beta_Low,a0_Beta_High⟩:Span),(⟨a0_Alpha_Low,a0_Alpha_High⟩:Span)⟩:Sky) (⟨a1_n,decF_42 a1_g⟩:(Sl RangeRow)) a2 a3 (⟨a4_Low,a4_High⟩:Span)).2))]
  | _=>.no
theorem call33:Callable Try.prog 33:=⟨_,rfl,rfl,by kernel_rfl⟩
theorem ok33:Ok Try.prog 33 ctr33:=ok_tabW okT33 call33 fun args K h=>by
  unfold ctr33 at h
  split at h
  · rename_i a0_Parts a0_Bins_n a0_Bins_s a0_Bins_g a0_Beta_Low a0_Beta_High a0_Alpha_Low a0_Alpha_High a1_n a1_s a1_g a2 a3 a4_Low a4_High
    obtain ⟨⟨⟨rfl,a0_Bins_f,rfl⟩,⟨rfl,a1_f,rfl⟩,hs⟩,hk⟩:=h
    try rw [decF_enc_32 a0_Bins_f] at hs
    try rw [decF_enc_32 a0_Bins_f] at hk
    try rw [decF_enc_42 a1_f] at hs
    try rw [decF_enc_42 a1_f] at hk
    exact ⟨_,rl_rfl pa_rfl _,(fun _ _=>[]),(fun l=>Nat.beq l 54),ann33,q33 (⟨a0_Parts,(⟨a0_Bins_n,a0_Bins_f⟩:(Sl (Sl FluxRow))),(⟨a0_Beta_Low,a0_Beta_High⟩:Span),(⟨a0_Alpha_Low,a0_Alpha_High⟩:Span)⟩:Sky) (⟨a1_n,a1_f⟩:(Sl RangeRow)) a2 a3 (⟨a4_Low,a4_High⟩:Span) K hs hk⟩
  · exact h.elim
abbrev T34:Tabs:=Tabs.nil
theorem okT34:TabsOk Try.prog T34:=TabsOk.nil
abbrev G34:Ctrs:=csm T34 (fun _ _=>[]) (fun _=>false)
def ann34:Ann:=⟨5,[(0,⟨[0,2],[2],[],[],[]⟩),(1,⟨[2],[2],[],[],[]⟩)],
  [],
  [],
  [],[]⟩
theorem f34_top (slots : Int) (K : List PA → Prop) :
  vcFun Try.prog G34 ann34 34 [.one (.int .i64 slots)] K =
  (K [.agg [.int .i64 slots,.int .i64 (0:Int),.int .i64 (0:Int),.int .i64 (0:Int),.int .i64 (0:Int)]]):=by kernel_rfl
abbrev e34 (r:Spell):List PA:=[.agg [.int .i64 r.Slots,.int .i64 r.Weather.Pressure.Low,.int .i64 r.Weather.Pressure.High,.int .i64 r.Weather.Warm.Low,.int .i64 r.Weather.Warm.High]]
def s34 (slots:Int):Spell :=
  (⟨slots,(⟨(⟨(0:Int),(0:Int)⟩:Span),(⟨(0:Int),(0:Int)⟩:Span)⟩:Weather)⟩:Spell)
theorem q34 (slots:Int) (K:List PA→Prop) (hk:K (e34 (s34 slots))):vcFun Try.prog G34 ann34 34 [.one (.int .i64 slots)] K:=by
  refine ofEq (f34_top slots K) ?_
  unfold s34 at hk
  exact hk
def ctr34 : List PA → COut
  | [.one (.int .i64 a0)]=>.tot [.agg [.int .i64 ((s34 a0).Slots),.int .i64 ((s34 a0).Weather.Pressure.Low),.int .i64 ((s34 a0).Weather.Pressure.High),.int .i64 ((s34 a0).Weather.Warm.Low),.int .i64 ((s34 a0).Weather.Warm.High)]]
  | _=>.no
theorem call34:Callable Try.prog 34:=⟨_,rfl,rfl,by kernel_rfl⟩
theorem ok34:Ok Try.prog 34 ctr34:=ok_tab okT34 call34 fun args K h=>by
  unfold ctr34 at h
  split at h
  · rename_i a0
    have hk:=h
    exact ⟨(fun _ _=>[]),(fun _=>false),ann34,q34 a0 K hk⟩
  · exact h.elim
abbrev T60:Tabs:=Tabs.nil
theorem okT60:TabsOk Try.prog T60:=TabsOk.nil
abbrev G60:Ctrs:=csm T60 (fun _ _=>[]) (fun _=>false)
def ann60:Ann:=⟨14,[(0,⟨[0],[0],[],[],[]⟩),(1,⟨[0],[0,10],[],[],[]⟩)],
  [],
  [],
  [],[]⟩
theorem f60_top (K : List PA → Prop) :
  vcFun Try.prog G60 ann60 60 [] K =
  (K [.agg [.int .i64 (1000:Int),.sl 1 1 (fun _=>[.sl 4 3 (getL [(enc_44 (⟨(1:Int),(⟨(400:Int),(500:Int)⟩:Span)⟩:FluxRow)),(enc_44 (⟨(20:Int),(⟨(200:Int),(260:Int)⟩:Span)⟩:FluxRow)),(enc_44 (⟨(50:Int),(⟨(80:Int),(100:Int)⟩:Span)⟩:FluxRow)),(enc_44 (⟨(120:Int),(⟨(20:Int),(30:Int)⟩:Span)⟩:FluxRow))])]),.int .i64 (2:Int),.int .i64 (3:Int),.int .i64 (0:Int),.int .i64 (1:Int)]]):=by kernel_rfl
abbrev e60 (r:Sky):List PA:=[.agg [.int .i64 r.Parts,.sl r.Bins.len 1 (fun i=>enc_32 (r.Bins.get i)),.int .i64 r.Beta.Low,.int .i64 r.Beta.High,.int .i64 r.Alpha.Low,.int .i64 r.Alpha.High]]
def s60:Sky :=
  (⟨(1000:Int),(⟨1,fun _=>(⟨4,(getT (⟨(1:Int),(⟨(400:Int),(500:Int)⟩:Span)⟩:FluxRow) [(⟨(1:Int),(⟨(400:Int),(500:Int)⟩:Span)⟩:FluxRow),(⟨(20:Int),(⟨(200:Int),(260:Int)⟩:Span)⟩:FluxRow),(⟨(50:Int),(⟨(80:Int),(100:Int)⟩:Span)⟩:FluxRow),(⟨(120:Int),(⟨(20:Int),(30:Int)⟩:Span)⟩:FluxRow)])⟩:(Sl FluxRow))⟩:(Sl (Sl FluxRow))),(⟨(2:Int),(3:Int)⟩:Span),(⟨(0:Int),(1:Int)⟩:Span)⟩:Sky)
theorem q60 (K:List PA→Prop) (hk:K (e60 (s60))):vcFun Try.prog G60 ann60 60 [] K:=by
  refine ofEq (f60_top K) ?_
  unfold s60 at hk
  exact (Eq.mpr (congrArg K (congrArg (fun (g_:Nat→List PV)=>([.agg [.int .i64 (1000:Int),.sl 1 1 (fun _=>[.sl 4 3 g_]),.int .i64 (2:Int),.int .i64 (3:Int),.int .i64 (0:Int),.int .i64 (1:Int)]]:List PA)) (getL_enc (enc:=enc_44) (x:=(⟨(1:Int),(⟨(400:Int),(500:Int)⟩:Span)⟩:FluxRow)) (y:=(⟨(20:Int),(⟨(200:Int),(260:Int)⟩:Span)⟩:FluxRow)) (r:=[(⟨(50:Int),(⟨(80:Int),(100:Int)⟩:Span)⟩:FluxRow),(⟨(120:Int),(⟨(20:Int),(30:Int)⟩:Span)⟩:FluxRow)])))) hk)
def ctr60 : List PA → COut
  | []=>.tot [.agg [.int .i64 ((s60).Parts),.sl ((s60).Bins.len) 1 (fun i=>enc_32 ((s60).Bins.get i)),.int .i64 ((s60).Beta.Low),.int .i64 ((s60).Beta.High),.int .i64 ((s60).Alpha.Low),.int .i64 ((s60).Alpha.High)]]
  | _=>.no
theorem call60:Callable Try.prog 60:=⟨_,rfl,rfl,by kernel_rfl⟩
theorem ok60:Ok Try.prog 60 ctr60:=ok_tab okT60 call60 fun args K h=>by
  unfold ctr60 at h
  split at h
  · have hk := h
    exact ⟨(fun _ _=>[]),(fun _=>false),ann60,q60 K hk⟩
  · exact h.elim
end Go.Proofs
namespace Go.Proofs
open Go Go.Pm
set_option maxRecDepth 100000
set_option linter.unusedVariables false
attribute [local irreducible] Go.Pm.vcFun Go.Pm.vc Go.Pm.vcIter
abbrev T61:Tabs:=Tabs.nil
theorem okT61:TabsOk Try.prog T61:=TabsOk.nil
abbrev G61:Ctrs:=csm T61 (fun _ _=>[]) (fun _=>false)
def ann61:Ann:=⟨8,[(0,⟨[],[],[],[],[]⟩),(1,⟨[0],[7],[],[],[]⟩)],
  [],
  [],
  [],[]⟩
theorem f61_top (K : List PA → Prop) :
  vcFun Try.prog G61 ann61 61 [] K =
  (K [.one (.sl 3 3 (getL [(enc_42 (⟨(10:Int),(⟨(20:Int),(30:Int)⟩:Span)⟩:RangeRow)),(enc_42 (⟨(40:Int),(⟨(90:Int),(120:Int)⟩:Span)⟩:RangeRow)),(enc_42 (⟨(100:Int),(⟨(250:Int),(300:Int)⟩:Span)⟩:RangeRow))]))]):=by kernel_rfl
abbrev e61 (r:(Sl RangeRow)):List PA:=[.one (.sl r.len 3 (fun i=>enc_42 (r.get i)))]
def s61:(Sl RangeRow) :=
  (⟨3,(getT (⟨(10:Int),(⟨(20:Int),(30:Int)⟩:Span)⟩:RangeRow) [(⟨(10:Int),(⟨(20:Int),(30:Int)⟩:Span)⟩:RangeRow),(⟨(40:Int),(⟨(90:Int),(120:Int)⟩:Span)⟩:RangeRow),(⟨(100:Int),(⟨(250:Int),(300:Int)⟩:Span)⟩:RangeRow)])⟩:(Sl RangeRow))
theorem q61 (K:List PA→Prop) (hk:K (e61 (s61))):vcFun Try.prog G61 ann61 61 [] K:=by
  refine ofEq (f61_top K) ?_
  unfold s61 at hk
  exact (Eq.mpr (congrArg K (congrArg (fun (g_:Nat→List PV)=>([.one (.sl 3 3 g_)]:List PA)) (getL_enc (enc:=enc_42) (x:=(⟨(10:Int),(⟨(20:Int),(30:Int)⟩:Span)⟩:RangeRow)) (y:=(⟨(40:Int),(⟨(90:Int),(120:Int)⟩:Span)⟩:RangeRow)) (r:=[(⟨(100:Int),(⟨(250:Int),(300:Int)⟩:Span)⟩:RangeRow)])))) hk)
def ctr61 : List PA → COut
  | []=>.tot [.one (.sl ((s61).len) 3 (fun i=>enc_42 ((s61).get i)))]
  | _=>.no
theorem call61:Callable Try.prog 61:=⟨_,rfl,rfl,by kernel_rfl⟩
theorem ok61:Ok Try.prog 61 ctr61:=ok_tab okT61 call61 fun args K h=>by
  unfold ctr61 at h
  split at h
  · have hk := h
    exact ⟨(fun _ _=>[]),(fun _=>false),ann61,q61 K hk⟩
  · exact h.elim
abbrev T18:Tabs:=(((((((((Tabs.nil.addF 19 ctr19).addF 20 ctr20).addF 23 ctr23).addF 25 ctr25).addF 26 ctr26).addF 33 ctr33).addF 34 ctr34).addF 60 ctr60).addF 61 ctr61)
theorem okT18:TabsOk Try.prog T18:=(((((((((TabsOk.nil.addF ok19).addF ok20).addF ok23).addF ok25).addF ok26).addF ok33).addF ok34).addF ok60).addF ok61)
abbrev G18:Ctrs:=csm T18 (fun _ _=>[]) (fun _=>false)
def ann18:Ann:=⟨142,[(0,⟨[],[],[],[],[]⟩),(1,⟨[1,2],[1],[],[],[]⟩),(2,⟨[1,2,3,4],[1,3],[],[],[]⟩),(3,⟨[1,2,3,4,5,6],[1,3,5],[],[],[]⟩),(4,⟨[1,2,3,4,5,6,7,8],[1,3,5,7],[],[],[]⟩),(5,⟨[1,2,3,4,5,6,7,8,9,10],[1,3,5,7,9],[],[],[]⟩),(6,⟨[1,2,3,4,5,6,7,8,9,10,11,12],[1,3,5,7,9],[],[],[]⟩),(7,⟨[3,4,5,6,7,8,9,10,11,12,13,14],[3,5,7,9,13],[],[],[]⟩),(8,⟨[3,5,7,9,11,13,104],[3,5,7,9,13],[],[],[]⟩),(9,⟨[0],[],[],[],[]⟩),(10,⟨[0],[],[],[],[]⟩)],
  [],
  [(2,⟨[1,2],[1],[],[],[]⟩),(3,⟨[1,2,3,4],[1,3],[],[],[]⟩),(4,⟨[1,2,3,4,5,6],[1,3,5],[],[],[]⟩),(5,⟨[1,2,3,4,5,6,7,8],[1,3,5,7],[],[],[]⟩),(6,⟨[1,2,3,4,5,6,7,8,9,10],[1,3,5,7,9],[],[],[]⟩),(7,⟨[1,2,3,4,5,6,7,8,9,10,11,12],[1,3,5,7,9],[],[],[]⟩),(8,⟨[3,4,5,6,7,8,9,10,11,12,13,14],[3,5,7,9,13],[],[],[]⟩),(10,⟨[3,5,7,9,11,13],[3,5,7,9,13],[],[],[]⟩)],
  [],[]⟩
def f18_g0 (tv0_n:Nat) (tv0_g:Nat→List PV) (s_1v0_n:Nat) (s_1v0_g:Nat→List PV):St:=⟨[(1,.one (.c (.ptr 1 0))),(2,.one (.c (.p (.sl tv0_n 3 tv0_g))))],[(1,.box 26 [.p (.int .i64 s60.Parts),.p (.sl s_1v0_n 1 s_1v0_g),.p (.int .i64 s60.Beta.Low),.p (.int .i64 s60.Beta.High),.p (.int .i64 s60.Alpha.Low),.p (.int .i64 s60.Alpha.High)])],[]⟩
def f18_at0 (K:List PA→Prop) (tv0_n:Nat) (tv0_g:Nat→List PV) (s_1v0_n:Nat) (s_1v0_g:Nat→List PV):Prop:=vc Try.prog G18 ann18 (cdF Try.f18 [1,1]) (bodyK Try.prog Try.f18 K) (f18_g0 tv0_n tv0_g s_1v0_n s_1v0_g)
def f18_g1 (tv0:(Sl RangeRow)) (ev1:Int) (s_1v1_n:Nat) (s_1v1_g:Nat→List PV) (a_0v1:Int) (a_1v1:Int):St:=⟨[(1,.one (.c (.ptr 1 0))),(2,.one (.c (.p (.sl tv0.len 3 (fun i=>enc_42 (tv0.get i)))))),(3,.one (.c (.ptr 3 0))),(4,.one (.c (.p (.int .i64 ev1))))],[(1,.box 26 [.p (.int .i64 s60.Parts),.p (.sl s_1v1_n 1 s_1v1_g),.p (.int .i64 s60.Beta.Low),.p (.int .i64 s60.Beta.High),.p (.int .i64 s60.Alpha.Low),.p (.int .i64 s60.Alpha.High)]),(3,.box 24 [.p (.int .i64 a_0v1),.p (.int .i64 a_1v1)])],[]⟩
def f18_at1 (K:List PA→Prop) (tv0:(Sl RangeRow)) (ev1:Int) (s_1v1_n:Nat) (s_1v1_g:Nat→List PV) (a_0v1:Int) (a_1v1:Int):Prop:=vc Try.prog G18 ann18 (cdF Try.f18 [1,1,1]) (bodyK Try.prog Try.f18 K) (f18_g1 tv0 ev1 s_1v1_n s_1v1_g a_0v1 a_1v1)
def f18_g2 (tv0:(Sl RangeRow)) (ev1:Int) (a_0v1:Int) (a_1v1:Int) (fv2:Int) (s_1v2_n:Nat) (s_1v2_g:Nat→List PV) (b_0v2:Int) (b_1v2:Int):St:=⟨[(1,.one (.c (.ptr 1 0))),(2,.one (.c (.p (.sl tv0.len 3 (fun i=>enc_42 (tv0.get i)))))),(3,.one (.c (.ptr 3 0))),(4,.one (.c (.p (.int .i64 ev1)))),(5,.one (.c (.ptr 5 0))),(6,.one (.c (.p (.int .i64 fv2))))],[(1,.box 26 [.p (.int .i64 s60.Parts),.p (.sl s_1v2_n 1 s_1v2_g),.p (.int .i64 s60.Beta.Low),.p (.int .i64 s60.Beta.High),.p (.int .i64 s60.Alpha.Low),.p (.int .i64 s60.Alpha.High)]),(3,.box 24 [.p (.int .i64 a_0v1),.p (.int .i64 a_1v1)]),(5,.box 24 [.p (.int .i64 b_0v2),.p (.int .i64 b_1v2)])],[]⟩
def f18_at2 (K:List PA→Prop) (tv0:(Sl RangeRow)) (ev1:Int) (a_0v1:Int) (a_1v1:Int) (fv2:Int) (s_1v2_n:Nat) (s_1v2_g:Nat→List PV) (b_0v2:Int) (b_1v2:Int):Prop:=vc Try.prog G18 ann18 (cdF Try.f18 [1,1,1,1]) (bodyK Try.prog Try.f18 K) (f18_g2 tv0 ev1 a_0v1 a_1v1 fv2 s_1v2_n s_1v2_g b_0v2 b_1v2)
def f18_g3 (tv0:(Sl RangeRow)) (ev1:Int) (a_0v1:Int) (a_1v1:Int) (fv2:Int) (b_0v2:Int) (b_1v2:Int) (gv3:Int) (s_1v3_n:Nat) (s_1v3_g:Nat→List PV) (c_0v3:Int) (c_1v3:Int):St:=⟨[(1,.one (.c (.ptr 1 0))),(2,.one (.c (.p (.sl tv0.len 3 (fun i=>enc_42 (tv0.get i)))))),(3,.one (.c (.ptr 3 0))),(4,.one (.c (.p (.int .i64 ev1)))),(5,.one (.c (.ptr 5 0))),(6,.one (.c (.p (.int .i64 fv2)))),(7,.one (.c (.ptr 7 0))),(8,.one (.c (.p (.int .i64 gv3))))],[(1,.box 26 [.p (.int .i64 s60.Parts),.p (.sl s_1v3_n 1 s_1v3_g),.p (.int .i64 s60.Beta.Low),.p (.int .i64 s60.Beta.High),.p (.int .i64 s60.Alpha.Low),.p (.int .i64 s60.Alpha.High)]),(3,.box 24 [.p (.int .i64 a_0v1),.p (.int .i64 a_1v1)]),(5,.box 24 [.p (.int .i64 b_0v2),.p (.int .i64 b_1v2)]),(7,.box 24 [.p (.int .i64 c_0v3),.p (.int .i64 c_1v3)])],[]⟩
def f18_at3 (K:List PA→Prop) (tv0:(Sl RangeRow)) (ev1:Int) (a_0v1:Int) (a_1v1:Int) (fv2:Int) (b_0v2:Int) (b_1v2:Int) (gv3:Int) (s_1v3_n:Nat) (s_1v3_g:Nat→List PV) (c_0v3:Int) (c_1v3:Int):Prop:=vc Try.prog G18 ann18 (cdF Try.f18 [1,1,1,1,1]) (bodyK Try.prog Try.f18 K) (f18_g3 tv0 ev1 a_0v1 a_1v1 fv2 b_0v2 b_1v2 gv3 s_1v3_n s_1v3_g c_0v3 c_1v3)
def f18_g4 (tv0:(Sl RangeRow)) (ev1:Int) (a_0v1:Int) (a_1v1:Int) (fv2:Int) (b_0v2:Int) (b_1v2:Int) (gv3:Int) (c_0v3:Int) (c_1v3:Int) (hv4:Int) (s_1v4_n:Nat) (s_1v4_g:Nat→List PV) (d_0v4:Int) (d_1v4:Int):St:=⟨[(1,.one (.c (.ptr 1 0))),(2,.one (.c (.p (.sl tv0.len 3 (fun i=>enc_42 (tv0.get i)))))),(3,.one (.c (.ptr 3 0))),(4,.one (.c (.p (.int .i64 ev1)))),(5,.one (.c (.ptr 5 0))),(6,.one (.c (.p (.int .i64 fv2)))),(7,.one (.c (.ptr 7 0))),(8,.one (.c (.p (.int .i64 gv3)))),(9,.one (.c (.ptr 9 0))),(10,.one (.c (.p (.int .i64 hv4))))],[(1,.box 26 [.p (.int .i64 s60.Parts),.p (.sl s_1v4_n 1 s_1v4_g),.p (.int .i64 s60.Beta.Low),.p (.int .i64 s60.Beta.High),.p (.int .i64 s60.Alpha.Low),.p (.int .i64 s60.Alpha.High)]),(3,.box 24 [.p (.int .i64 a_0v1),.p (.int .i64 a_1v1)]),(5,.box 24 [.p (.int .i64 b_0v2),.p (.int .i64 b_1v2)]),(7,.box 24 [.p (.int .i64 c_0v3),.p (.int .i64 c_1v3)]),(9,.box 24 [.p (.int .i64 d_0v4),.p (.int .i64 d_1v4)])],[]⟩
def f18_at4 (K:List PA→Prop) (tv0:(Sl RangeRow)) (ev1:Int) (a_0v1:Int) (a_1v1:Int) (fv2:Int) (b_0v2:Int) (b_1v2:Int) (gv3:Int) (c_0v3:Int) (c_1v3:Int) (hv4:Int) (s_1v4_n:Nat) (s_1v4_g:Nat→List PV) (d_0v4:Int) (d_1v4:Int):Prop:=vc Try.prog G18 ann18 (cdF Try.f18 [1,1,1,1,1,1]) (bodyK Try.prog Try.f18 K) (f18_g4 tv0 ev1 a_0v1 a_1v1 fv2 b_0v2 b_1v2 gv3 c_0v3 c_1v3 hv4 s_1v4_n s_1v4_g d_0v4 d_1v4)
def f18_g5 (tv0:(Sl RangeRow)) (ev1:Int) (a_0v1:Int) (a_1v1:Int) (fv2:Int) (b_0v2:Int) (b_1v2:Int) (gv3:Int) (c_0v3:Int) (c_1v3:Int) (hv4:Int) (d_0v4:Int) (d_1v4:Int) (lv5_n:Nat) (lv5_g:Nat→List PV) (iv5:Int) (s_1v5_n:Nat) (s_1v5_g:Nat→List PV):St:=⟨[(1,.one (.c (.ptr 1 0))),(2,.one (.c (.p (.sl tv0.len 3 (fun i=>enc_42 (tv0.get i)))))),(3,.one (.c (.ptr 3 0))),(4,.one (.c (.p (.int .i64 ev1)))),(5,.one (.c (.ptr 5 0))),(6,.one (.c (.p (.int .i64 fv2)))),(7,.one (.c (.ptr 7 0))),(8,.one (.c (.p (.int .i64 gv3)))),(9,.one (.c (.ptr 9 0))),(10,.one (.c (.p (.int .i64 hv4)))),(11,.one (.c (.p (.sl lv5_n 3 lv5_g)))),(12,.one (.c (.p (.int .i64 iv5))))],[(1,.box 26 [.p (.int .i64 s60.Parts),.p (.sl s_1v5_n 1 s_1v5_g),.p (.int .i64 s60.Beta.Low),.p (.int .i64 s60.Beta.High),.p (.int .i64 s60.Alpha.Low),.p (.int .i64 s60.Alpha.High)]),(3,.box 24 [.p (.int .i64 a_0v1),.p (.int .i64 a_1v1)]),(5,.box 24 [.p (.int .i64 b_0v2),.p (.int .i64 b_1v2)]),(7,.box 24 [.p (.int .i64 c_0v3),.p (.int .i64 c_1v3)]),(9,.box 24 [.p (.int .i64 d_0v4),.p (.int .i64 d_1v4)])],[]⟩
def f18_at5 (K:List PA→Prop) (tv0:(Sl RangeRow)) (ev1:Int) (a_0v1:Int) (a_1v1:Int) (fv2:Int) (b_0v2:Int) (b_1v2:Int) (gv3:Int) (c_0v3:Int) (c_1v3:Int) (hv4:Int) (d_0v4:Int) (d_1v4:Int) (lv5_n:Nat) (lv5_g:Nat→List PV) (iv5:Int) (s_1v5_n:Nat) (s_1v5_g:Nat→List PV):Prop:=vc Try.prog G18 ann18 (cdF Try.f18 [1,1,1,1,1,1,1]) (bodyK Try.prog Try.f18 K) (f18_g5 tv0 ev1 a_0v1 a_1v1 fv2 b_0v2 b_1v2 gv3 c_0v3 c_1v3 hv4 d_0v4 d_1v4 lv5_n lv5_g iv5 s_1v5_n s_1v5_g)
def f18_g6 (ev1:Int) (a_0v1:Int) (a_1v1:Int) (fv2:Int) (b_0v2:Int) (b_1v2:Int) (gv3:Int) (c_0v3:Int) (c_1v3:Int) (hv4:Int) (d_0v4:Int) (d_1v4:Int) (lv5:(Sl FluxStep)) (iv5:Int) (jv6:Int) (x_0v6:Int) (x_1v6_n:Nat) (x_1v6_g:Nat→List PV) (x_2v6:Int) (x_3v6:Int) (x_4v6:Int) (x_5v6:Int):St:=⟨[(3,.one (.c (.ptr 3 0))),(4,.one (.c (.p (.int .i64 ev1)))),(5,.one (.c (.ptr 5 0))),(6,.one (.c (.p (.int .i64 fv2)))),(7,.one (.c (.ptr 7 0))),(8,.one (.c (.p (.int .i64 gv3)))),(9,.one (.c (.ptr 9 0))),(10,.one (.c (.p (.int .i64 hv4)))),(11,.one (.c (.p (.sl lv5.len 3 (fun i=>enc_69 (lv5.get i)))))),(12,.one (.c (.p (.int .i64 iv5)))),(13,.one (.c (.ptr 13 0))),(14,.one (.c (.p (.int .i64 jv6))))],[(3,.box 24 [.p (.int .i64 a_0v1),.p (.int .i64 a_1v1)]),(5,.box 24 [.p (.int .i64 b_0v2),.p (.int .i64 b_1v2)]),(7,.box 24 [.p (.int .i64 c_0v3),.p (.int .i64 c_1v3)]),(9,.box 24 [.p (.int .i64 d_0v4),.p (.int .i64 d_1v4)]),(13,.box 26 [.p (.int .i64 x_0v6),.p (.sl x_1v6_n 1 x_1v6_g),.p (.int .i64 x_2v6),.p (.int .i64 x_3v6),.p (.int .i64 x_4v6),.p (.int .i64 x_5v6)])],[]⟩
def f18_at6 (K:List PA→Prop) (ev1:Int) (a_0v1:Int) (a_1v1:Int) (fv2:Int) (b_0v2:Int) (b_1v2:Int) (gv3:Int) (c_0v3:Int) (c_1v3:Int) (hv4:Int) (d_0v4:Int) (d_1v4:Int) (lv5:(Sl FluxStep)) (iv5:Int) (jv6:Int) (x_0v6:Int) (x_1v6_n:Nat) (x_1v6_g:Nat→List PV) (x_2v6:Int) (x_3v6:Int) (x_4v6:Int) (x_5v6:Int):Prop:=vc Try.prog G18 ann18 (cdF Try.f18 [1,1,1,1,1,1,1,1]) (bodyK Try.prog Try.f18 K) (f18_g6 ev1 a_0v1 a_1v1 fv2 b_0v2 b_1v2 gv3 c_0v3 c_1v3 hv4 d_0v4 d_1v4 lv5 iv5 jv6 x_0v6 x_1v6_n x_1v6_g x_2v6 x_3v6 x_4v6 x_5v6)
def f18_g7 (a_0v1:Int) (a_1v1:Int) (b_0v2:Int) (b_1v2:Int) (c_0v3:Int) (c_1v3:Int) (d_0v4:Int) (d_1v4:Int) (lv5:(Sl FluxStep)) (x_0v6:Int) (x_1v6:(Sl (Sl FluxRow))) (x_2v6:Int) (x_3v6:Int) (x_4v6:Int) (x_5v6:Int):St:=⟨[(3,.one (.c (.ptr 3 0))),(5,.one (.c (.ptr 5 0))),(7,.one (.c (.ptr 7 0))),(9,.one (.c (.ptr 9 0))),(11,.one (.c (.p (.sl lv5.len 3 (fun i=>enc_69 (lv5.get i)))))),(13,.one (.c (.ptr 13 0)))],[(3,.box 24 [.p (.int .i64 a_0v1),.p (.int .i64 a_1v1)]),(5,.box 24 [.p (.int .i64 b_0v2),.p (.int .i64 b_1v2)]),(7,.box 24 [.p (.int .i64 c_0v3),.p (.int .i64 c_1v3)]),(9,.box 24 [.p (.int .i64 d_0v4),.p (.int .i64 d_1v4)]),(13,.box 26 [.p (.int .i64 x_0v6),.p (.sl x_1v6.len 1 (fun i=>enc_32 (x_1v6.get i))),.p (.int .i64 x_2v6),.p (.int .i64 x_3v6),.p (.int .i64 x_4v6),.p (.int .i64 x_5v6)])],[]⟩
def f18_at7 (K:List PA→Prop) (a_0v1:Int) (a_1v1:Int) (b_0v2:Int) (b_1v2:Int) (c_0v3:Int) (c_1v3:Int) (d_0v4:Int) (d_1v4:Int) (lv5:(Sl FluxStep)) (x_0v6:Int) (x_1v6:(Sl (Sl FluxRow))) (x_2v6:Int) (x_3v6:Int) (x_4v6:Int) (x_5v6:Int):Prop:=vc Try.prog G18 ann18 (cdF Try.f18 [1,1,1,1,1,1,1,1,1]) (bodyK Try.prog Try.f18 K) (f18_g7 a_0v1 a_1v1 b_0v2 b_1v2 c_0v3 c_1v3 d_0v4 d_1v4 lv5 x_0v6 x_1v6 x_2v6 x_3v6 x_4v6 x_5v6)
theorem f18_top (K : List PA → Prop) :
  vcFun Try.prog G18 ann18 18 [] K =
  (f18_at0 K s61.len (fun i=>enc_42 (s61.get i)) s60.Bins.len (fun i=>enc_32 (s60.Bins.get i))):=by kernel_rfl
theorem f18_eq0 (K : List PA → Prop) (tv0 : (Sl RangeRow)) (s_1v0 : (Sl (Sl FluxRow))) :
  f18_at0 K tv0.len (fun i=>enc_42 (tv0.get i)) s_1v0.len (fun i=>enc_32 (s_1v0.get i)) =
  ((IsE enc_42 3 3 (fun i=>enc_42 (tv0.get i))∧(p19 tv0 (100:Int)=true)) ∧
  (f18_at1 K tv0 ((s19 tv0 (100:Int)).2) s_1v0.len (fun i=>enc_32 (s_1v0.get i)) (((s19 tv0 (100:Int)).1).Low) (((s19 tv0 (100:Int)).1).High))):=by kernel_rfl
theorem f18_eq1 (K : List PA → Prop) (tv0 : (Sl RangeRow)) (ev1 : Int) (s_1v1 : (Sl (Sl FluxRow))) (a_0v1 : Int) (a_1v1 : Int) :
  f18_at1 K tv0 ev1 s_1v1.len (fun i=>enc_32 (s_1v1.get i)) a_0v1 a_1v1 =
  ((IsE enc_32 1 1 (fun i=>enc_32 (s_1v1.get i))∧IsE enc_42 3 3 (fun i=>enc_42 (tv0.get i))∧(p20 (⟨s60.Parts,s_1v1,s60.Beta,s60.Alpha⟩:Sky) tv0 (0:Int) (280:Int)=true)) ∧
  (f18_at2 K tv0 ev1 a_0v1 a_1v1 ((s20 (⟨s60.Parts,s_1v1,s60.Beta,s60.Alpha⟩:Sky) tv0 (0:Int) (280:Int)).2) s_1v1.len (fun i=>enc_32 (s_1v1.get i)) (((s20 (⟨s60.Parts,s_1v1,s60.Beta,s60.Alpha⟩:Sky) tv0 (0:Int) (280:Int)).1).Low) (((s20 (⟨s60.Parts,s_1v1,s60.Beta,s60.Alpha⟩:Sky) tv0 (0:Int) (280:Int)).1).High))):=by kernel_rfl
theorem f18_eq2 (K : List PA → Prop) (tv0 : (Sl RangeRow)) (ev1 : Int) (a_0v1 : Int) (a_1v1 : Int) (fv2 : Int) (s_1v2 : (Sl (Sl FluxRow))) (b_0v2 : Int) (b_1v2 : Int) :
  f18_at2 K tv0 ev1 a_0v1 a_1v1 fv2 s_1v2.len (fun i=>enc_32 (s_1v2.get i)) b_0v2 b_1v2 =
  ((IsE enc_32 1 1 (fun i=>enc_32 (s_1v2.get i))∧IsE enc_42 3 3 (fun i=>enc_42 (tv0.get i))∧IsE enc_56 5 5 (getL [(enc_56 (s34 (3:Int))),(enc_56 (⟨(1:Int),(⟨(⟨(-10:Int),(20:Int)⟩:Span),(⟨(0:Int),(5:Int)⟩:Span)⟩:Weather)⟩:Spell))])∧(p23 (⟨s60.Parts,s_1v2,s60.Beta,s60.Alpha⟩:Sky) tv0 (0:Int) (100:Int) (⟨2,decF_56 (getL [(enc_56 (s34 (3:Int))),(enc_56 (⟨(1:Int),(⟨(⟨(-10:Int),(20:Int)⟩:Span),(⟨(0:Int),(5:Int)⟩:Span)⟩:Weather)⟩:Spell))])⟩:(Sl Spell))=true)) ∧
  (f18_at3 K tv0 ev1 a_0v1 a_1v1 fv2 b_0v2 b_1v2 ((s23 (⟨s60.Parts,s_1v2,s60.Beta,s60.Alpha⟩:Sky) tv0 (0:Int) (100:Int) (⟨2,decF_56 (getL [(enc_56 (s34 (3:Int))),(enc_56 (⟨(1:Int),(⟨(⟨(-10:Int),(20:Int)⟩:Span),(⟨(0:Int),(5:Int)⟩:Span)⟩:Weather)⟩:Spell))])⟩:(Sl Spell))).2) s_1v2.len (fun i=>enc_32 (s_1v2.get i)) (((s23 (⟨s60.Parts,s_1v2,s60.Beta,s60.Alpha⟩:Sky) tv0 (0:Int) (100:Int) (⟨2,decF_56 (getL [(enc_56 (s34 (3:Int))),(enc_56 (⟨(1:Int),(⟨(⟨(-10:Int),(20:Int)⟩:Span),(⟨(0:Int),(5:Int)⟩:Span)⟩:Weather)⟩:Spell))])⟩:(Sl Spell))).1).Low) (((s23 (⟨s60.Parts,s_1v2,s60.Beta,s60.Alpha⟩:Sky) tv0 (0:Int) (100:Int) (⟨2,decF_56 (getL [(enc_56 (s34 (3:Int))),(enc_56 (⟨(1:Int),(⟨(⟨(-10:Int),(20:Int)⟩:Span),(⟨(0:Int),(5:Int)⟩:Span)⟩:Weather)⟩:Spell))])⟩:(Sl Spell))).1).High))):=by kernel_rfl
theorem f18_eq3 (K : List PA → Prop) (tv0 : (Sl RangeRow)) (ev1 : Int) (a_0v1 : Int) (a_1v1 : Int) (fv2 : Int) (b_0v2 : Int) (b_1v2 : Int) (gv3 : Int) (s_1v3 : (Sl (Sl FluxRow))) (c_0v3 : Int) (c_1v3 : Int) :
  f18_at3 K tv0 ev1 a_0v1 a_1v1 fv2 b_0v2 b_1v2 gv3 s_1v3.len (fun i=>enc_32 (s_1v3.get i)) c_0v3 c_1v3 =
  ((IsE enc_32 1 1 (fun i=>enc_32 (s_1v3.get i))∧IsE enc_42 3 3 (fun i=>enc_42 (tv0.get i))∧IsE enc_56 5 5 (fun _=>(enc_56 (s34 (1:Int))))∧(p25 (⟨s60.Parts,s_1v3,s60.Beta,s60.Alpha⟩:Sky) tv0 (0:Int) (⟨(261:Int),(270:Int)⟩:Span) (⟨1,fun _=>(s34 (1:Int))⟩:(Sl Spell))=true)) ∧
  (f18_at4 K tv0 ev1 a_0v1 a_1v1 fv2 b_0v2 b_1v2 gv3 c_0v3 c_1v3 ((s25 (⟨s60.Parts,s_1v3,s60.Beta,s60.Alpha⟩:Sky) tv0 (0:Int) (⟨(261:Int),(270:Int)⟩:Span) (⟨1,fun _=>(s34 (1:Int))⟩:(Sl Spell))).2) s_1v3.len (fun i=>enc_32 (s_1v3.get i)) (((s25 (⟨s60.Parts,s_1v3,s60.Beta,s60.Alpha⟩:Sky) tv0 (0:Int) (⟨(261:Int),(270:Int)⟩:Span) (⟨1,fun _=>(s34 (1:Int))⟩:(Sl Spell))).1).Low) (((s25 (⟨s60.Parts,s_1v3,s60.Beta,s60.Alpha⟩:Sky) tv0 (0:Int) (⟨(261:Int),(270:Int)⟩:Span) (⟨1,fun _=>(s34 (1:Int))⟩:(Sl Spell))).1).High))):=by kernel_rfl
theorem f18_eq4 (K : List PA → Prop) (tv0 : (Sl RangeRow)) (ev1 : Int) (a_0v1 : Int) (a_1v1 : Int) (fv2 : Int) (b_0v2 : Int) (b_1v2 : Int) (gv3 : Int) (c_0v3 : Int) (c_1v3 : Int) (hv4 : Int) (s_1v4 : (Sl (Sl FluxRow))) (d_0v4 : Int) (d_1v4 : Int) :
  f18_at4 K tv0 ev1 a_0v1 a_1v1 fv2 b_0v2 b_1v2 gv3 c_0v3 c_1v3 hv4 s_1v4.len (fun i=>enc_32 (s_1v4.get i)) d_0v4 d_1v4 =
  ((IsE enc_32 1 1 (fun i=>enc_32 (s_1v4.get i))∧IsE enc_42 3 3 (fun i=>enc_42 (tv0.get i))∧IsE enc_56 5 5 (fun _=>(enc_56 (s34 (1:Int))))∧(p26 (⟨s60.Parts,s_1v4,s60.Beta,s60.Alpha⟩:Sky) tv0 (0:Int) (⟨1,fun _=>(s34 (1:Int))⟩:(Sl Spell))=true)) ∧
  (f18_at5 K tv0 ev1 a_0v1 a_1v1 fv2 b_0v2 b_1v2 gv3 c_0v3 c_1v3 hv4 d_0v4 d_1v4 (((s26 (⟨s60.Parts,s_1v4,s60.Beta,s60.Alpha⟩:Sky) tv0 (0:Int) (⟨1,fun _=>(s34 (1:Int))⟩:(Sl Spell))).1).len) (fun i=>enc_69 (((s26 (⟨s60.Parts,s_1v4,s60.Beta,s60.Alpha⟩:Sky) tv0 (0:Int) (⟨1,fun _=>(s34 (1:Int))⟩:(Sl Spell))).1).get i)) ((s26 (⟨s60.Parts,s_1v4,s60.Beta,s60.Alpha⟩:Sky) tv0 (0:Int) (⟨1,fun _=>(s34 (1:Int))⟩:(Sl Spell))).2) s_1v4.len (fun i=>enc_32 (s_1v4.get i)))):=by kernel_rfl
theorem f18_eq5 (K : List PA → Prop) (tv0 : (Sl RangeRow)) (ev1 : Int) (a_0v1 : Int) (a_1v1 : Int) (fv2 : Int) (b_0v2 : Int) (b_1v2 : Int) (gv3 : Int) (c_0v3 : Int) (c_1v3 : Int) (hv4 : Int) (d_0v4 : Int) (d_1v4 : Int) (lv5 : (Sl FluxStep)) (iv5 : Int) (s_1v5 : (Sl (Sl FluxRow))) :
  f18_at5 K tv0 ev1 a_0v1 a_1v1 fv2 b_0v2 b_1v2 gv3 c_0v3 c_1v3 hv4 d_0v4 d_1v4 lv5.len (fun i=>enc_69 (lv5.get i)) iv5 s_1v5.len (fun i=>enc_32 (s_1v5.get i)) =
  ((IsE enc_32 1 1 (fun i=>enc_32 (s_1v5.get i))∧IsE enc_42 3 3 (fun i=>enc_42 (tv0.get i))∧(p33 (⟨s60.Parts,s_1v5,s60.Beta,s60.Alpha⟩:Sky) tv0 (0:Int) (100:Int) (⟨(10:Int),(25:Int)⟩:Span)=true)) ∧
  (f18_at6 K ev1 a_0v1 a_1v1 fv2 b_0v2 b_1v2 gv3 c_0v3 c_1v3 hv4 d_0v4 d_1v4 lv5 iv5 ((s33 (⟨s60.Parts,s_1v5,s60.Beta,s60.Alpha⟩:Sky) tv0 (0:Int) (100:Int) (⟨(10:Int),(25:Int)⟩:Span)).2) (((s33 (⟨s60.Parts,s_1v5,s60.Beta,s60.Alpha⟩:Sky) tv0 (0:Int) (100:Int) (⟨(10:Int),(25:Int)⟩:Span)).1).Parts) (((s33 (⟨s60.Parts,s_1v5,s60.Beta,s60.Alpha⟩:Sky) tv0 (0:Int) (100:Int) (⟨(10:Int),(25:Int)⟩:Span)).1).Bins.len) (fun i=>enc_32 (((s33 (⟨s60.Parts,s_1v5,s60.Beta,s60.Alpha⟩:Sky) tv0 (0:Int) (100:Int) (⟨(10:Int),(25:Int)⟩:Span)).1).Bins.get i)) (((s33 (⟨s60.Parts,s_1v5,s60.Beta,s60.Alpha⟩:Sky) tv0 (0:Int) (100:Int) (⟨(10:Int),(25:Int)⟩:Span)).1).Beta.Low) (((s33 (⟨s60.Parts,s_1v5,s60.Beta,s60.Alpha⟩:Sky) tv0 (0:Int) (100:Int) (⟨(10:Int),(25:Int)⟩:Span)).1).Beta.High) (((s33 (⟨s60.Parts,s_1v5,s60.Beta,s60.Alpha⟩:Sky) tv0 (0:Int) (100:Int) (⟨(10:Int),(25:Int)⟩:Span)).1).Alpha.Low) (((s33 (⟨s60.Parts,s_1v5,s60.Beta,s60.Alpha⟩:Sky) tv0 (0:Int) (100:Int) (⟨(10:Int),(25:Int)⟩:Span)).1).Alpha.High))):=by kernel_rfl
theorem f18_eq6 (K : List PA → Prop) (ev1 : Int) (a_0v1 : Int) (a_1v1 : Int) (fv2 : Int) (b_0v2 : Int) (b_1v2 : Int) (gv3 : Int) (c_0v3 : Int) (c_1v3 : Int) (hv4 : Int) (d_0v4 : Int) (d_1v4 : Int) (lv5 : (Sl FluxStep)) (iv5 : Int) (jv6 : Int) (x_0v6 : Int) (x_1v6 : (Sl (Sl FluxRow))) (x_2v6 : Int) (x_3v6 : Int) (x_4v6 : Int) (x_5v6 : Int) :
  f18_at6 K ev1 a_0v1 a_1v1 fv2 b_0v2 b_1v2 gv3 c_0v3 c_1v3 hv4 d_0v4 d_1v4 lv5 iv5 jv6 x_0v6 x_1v6.len (fun i=>enc_32 (x_1v6.get i)) x_2v6 x_3v6 x_4v6 x_5v6 =
  (condP (ev1 != (0:Int))
   (K [.one (.bool false)])
   (condP (fv2 != (0:Int))
    (K [.one (.bool false)])
    (condP (gv3 != (0:Int))
     (K [.one (.bool false)])
     (condP (hv4 != (0:Int))
      (K [.one (.bool false)])
      (condP (iv5 != (0:Int))
       (K [.one (.bool false)])
       (condP (jv6 != (0:Int))
        (K [.one (.bool false)])
        (condP ((lv5.len : Int) != (7:Int))
         (K [.one (.bool false)])
         (condP ((x_1v6.len : Int) != (1:Int))
          (K [.one (.bool false)])
          (((0≤(0:Int)∧(0:Int) < (x_1v6.len:Int))) ∧
          (condP (((x_1v6.get 0).len : Int) != (4:Int))
           (K [.one (.bool false)])
           (f18_at7 K a_0v1 a_1v1 b_0v2 b_1v2 c_0v3 c_1v3 d_0v4 d_1v4 lv5 x_0v6 x_1v6 x_2v6 x_3v6 x_4v6 x_5v6))))))))))):=by kernel_rfl
theorem f18_eq7 (K : List PA → Prop) (a_0v1 : Int) (a_1v1 : Int) (b_0v2 : Int) (b_1v2 : Int) (c_0v3 : Int) (c_1v3 : Int) (d_0v4 : Int) (d_1v4 : Int) (lv5 : (Sl FluxStep)) (x_0v6 : Int) (x_1v6 : (Sl (Sl FluxRow))) (x_2v6 : Int) (x_3v6 : Int) (x_4v6 : Int) (x_5v6 : Int) :
  f18_at7 K a_0v1 a_1v1 b_0v2 b_1v2 c_0v3 c_1v3 d_0v4 d_1v4 lv5 x_0v6 x_1v6 x_2v6 x_3v6 x_4v6 x_5v6 =
  (condP (match (a_0v1 == (11:Int)) with | true => (match (a_1v1 == (100:Int)) with | true => true | false => false) | false => false)
   (condP (match (b_0v2 == (0:Int)) with | true => (match (b_1v2 == (260:Int)) with | true => true | false => false) | false => false)
    (condP (match (c_0v3 == (19:Int)) with | true => (match (c_1v3 == (505:Int)) with | true => true | false => false) | false => false)
     (condP (match (d_0v4 == (1:Int)) with | true => (match (d_1v4 == (120:Int)) with | true => true | false => false) | false => false)
      (((0≤(4:Int)∧(4:Int) < (lv5.len:Int))) ∧
      (condP (match ((lv5.get 4).From == (121:Int)) with | true => (match (match ((lv5.get 4).Rate.Low == (20:Int)) with | true => (match ((lv5.get 4).Rate.High == (260:Int)) with | true => true | false => false) | false => false) with | true => true | false => false) | false => false)
       (((0≤(0:Int)∧(0:Int) < (x_1v6.len:Int))) ∧
       (((0≤(3:Int)∧(3:Int) < ((x_1v6.get 0).len:Int))) ∧
       (K [.one (.bool (match (((x_1v6.get 0).get 3).Rate.Low == (20:Int)) with | true=>(match (((x_1v6.get 0).get 3).Rate.High == (25:Int)) with | true=>true | false=>false) | false=>false))])))
       (K [.one (.bool false)])))
      (K [.one (.bool false)]))
     (K [.one (.bool false)]))
    (K [.one (.bool false)]))
   (K [.one (.bool false)])):=by kernel_rfl
abbrev e18 (r:Bool):List PA:=[.one (.bool r)]
attribute [irreducible] f18_at0 f18_at1 f18_at2 f18_at3 f18_at4 f18_at5 f18_at6 f18_at7
def s18_at7 (a_0v1:Int) (a_1v1:Int) (b_0v2:Int) (b_1v2:Int) (c_0v3:Int) (c_1v3:Int) (d_0v4:Int) (d_1v4:Int) (lv5:(Sl FluxStep)) (x_0v6:Int) (x_1v6:(Sl (Sl FluxRow))) (x_2v6:Int) (x_3v6:Int) (x_4v6:Int) (x_5v6:Int):Bool :=
  (cond (match (a_0v1 == (11:Int)) with | true => (match (a_1v1 == (100:Int)) with | true => true | false => false) | false => false)
   (cond (match (b_0v2 == (0:Int)) with | true => (match (b_1v2 == (260:Int)) with | true => true | false => false) | false => false)
    (cond (match (c_0v3 == (19:Int)) with | true => (match (c_1v3 == (505:Int)) with | true => true | false => false) | false => false)
     (cond (match (d_0v4 == (1:Int)) with | true => (match (d_1v4 == (120:Int)) with | true => true | false => false) | false => false)
      (cond (match ((lv5.get 4).From == (121:Int)) with | true => (match (match ((lv5.get 4).Rate.Low == (20:Int)) with | true => (match ((lv5.get 4).Rate.High == (260:Int)) with | true => true | false => false) | false => false) with | true => true | false => false) | false => false)
       (match (((x_1v6.get 0).get 3).Rate.Low == (20:Int)) with | true=>(match (((x_1v6.get 0).get 3).Rate.High == (25:Int)) with | true=>true | false=>false) | false=>false)
       false)
      false)
     false)
    false)
   false)
def p18_at7 (a_0v1:Int) (a_1v1:Int) (b_0v2:Int) (b_1v2:Int) (c_0v3:Int) (c_1v3:Int) (d_0v4:Int) (d_1v4:Int) (lv5:(Sl FluxStep)) (x_0v6:Int) (x_1v6:(Sl (Sl FluxRow))) (x_2v6:Int) (x_3v6:Int) (x_4v6:Int) (x_5v6:Int):Bool :=
  (cond (match (a_0v1 == (11:Int)) with | true => (match (a_1v1 == (100:Int)) with | true => true | false => false) | false => false)
   (cond (match (b_0v2 == (0:Int)) with | true => (match (b_1v2 == (260:Int)) with | true => true | false => false) | false => false)
    (cond (match (c_0v3 == (19:Int)) with | true => (match (c_1v3 == (505:Int)) with | true => true | false => false) | false => false)
     (cond (match (d_0v4 == (1:Int)) with | true => (match (d_1v4 == (120:Int)) with | true => true | false => false) | false => false)
      (decide ((0≤(4:Int)∧(4:Int) < (lv5.len:Int))) &&
      (cond (match ((lv5.get 4).From == (121:Int)) with | true => (match (match ((lv5.get 4).Rate.Low == (20:Int)) with | true => (match ((lv5.get 4).Rate.High == (260:Int)) with | true => true | false => false) | false => false) with | true => true | false => false) | false => false)
       (decide ((0≤(0:Int)∧(0:Int) < (x_1v6.len:Int))) &&
       (decide ((0≤(3:Int)∧(3:Int) < ((x_1v6.get 0).len:Int))) &&
       true))
       true))
      true)
     true)
    true)
   true)
theorem q18_at7 (K:List PA→Prop) (a_0v1:Int) (a_1v1:Int) (b_0v2:Int) (b_1v2:Int) (c_0v3:Int) (c_1v3:Int) (d_0v4:Int) (d_1v4:Int) (lv5:(Sl FluxStep)) (x_0v6:Int) (x_1v6:(Sl (Sl FluxRow))) (x_2v6:Int) (x_3v6:Int) (x_4v6:Int) (x_5v6:Int) (hs:p18_at7 a_0v1 a_1v1 b_0v2 b_1v2 c_0v3 c_1v3 d_0v4 d_1v4 lv5 x_0v6 x_1v6 x_2v6 x_3v6 x_4v6 x_5v6=true) (hk:K (e18 (s18_at7 a_0v1 a_1v1 b_0v2 b_1v2 c_0v3 c_1v3 d_0v4 d_1v4 lv5 x_0v6 x_1v6 x_2v6 x_3v6 x_4v6 x_5v6))):f18_at7 K a_0v1 a_1v1 b_0v2 b_1v2 c_0v3 c_1v3 d_0v4 d_1v4 lv5 x_0v6 x_1v6 x_2v6 x_3v6 x_4v6 x_5v6:=by
  refine ofEq (f18_eq7 K a_0v1 a_1v1 b_0v2 b_1v2 c_0v3 c_1v3 d_0v4 d_1v4 lv5 x_0v6 x_1v6 x_2v6 x_3v6 x_4v6 x_5v6) ?_
  unfold p18_at7 at hs
  unfold s18_at7 at hk
  exact (condB_go (K := fun r => K (e18 r))
   (fun hs hk => (condB_go (K := fun r => K (e18 r))
    (fun hs hk => (condB_go (K := fun r => K (e18 r))
     (fun hs hk => (condB_go (K := fun r => K (e18 r))
      (fun hs hk => (andK hs fun hc hs => ⟨hc, (condB_go (K := fun r => K (e18 r))
       (fun hs hk=>(andK hs fun hc hs=>⟨hc,(andK hs fun hc hs=>⟨hc,hk⟩)⟩))
       (fun hs hk=>hk) hs hk)⟩))
      (fun hs hk=>hk) hs hk))
     (fun hs hk=>hk) hs hk))
    (fun hs hk=>hk) hs hk))
   (fun hs hk=>hk) hs hk)
def s18_at6 (ev1:Int) (a_0v1:Int) (a_1v1:Int) (fv2:Int) (b_0v2:Int) (b_1v2:Int) (gv3:Int) (c_0v3:Int) (c_1v3:Int) (hv4:Int) (d_0v4:Int) (d_1v4:Int) (lv5:(Sl FluxStep)) (iv5:Int) (jv6:Int) (x_0v6:Int) (x_1v6:(Sl (Sl FluxRow))) (x_2v6:Int) (x_3v6:Int) (x_4v6:Int) (x_5v6:Int):Bool :=
  (cond (ev1 != (0:Int))
   false
   (cond (fv2 != (0:Int))
    false
    (cond (gv3 != (0:Int))
     false
     (cond (hv4 != (0:Int))
      false
      (cond (iv5 != (0:Int))
       false
       (cond (jv6 != (0:Int))
        false
        (cond ((lv5.len : Int) != (7:Int))
         false
         (cond ((x_1v6.len : Int) != (1:Int))
          false
          (cond (((x_1v6.get 0).len : Int) != (4:Int))
           false
           (s18_at7 a_0v1 a_1v1 b_0v2 b_1v2 c_0v3 c_1v3 d_0v4 d_1v4 lv5 x_0v6 x_1v6 x_2v6 x_3v6 x_4v6 x_5v6))))))))))
def p18_at6 (ev1:Int) (a_0v1:Int) (a_1v1:Int) (fv2:Int) (b_0v2:Int) (b_1v2:Int) (gv3:Int) (c_0v3:Int) (c_1v3:Int) (hv4:Int) (d_0v4:Int) (d_1v4:Int) (lv5:(Sl FluxStep)) (iv5:Int) (jv6:Int) (x_0v6:Int) (x_1v6:(Sl (Sl FluxRow))) (x_2v6:Int) (x_3v6:Int) (x_4v6:Int) (x_5v6:Int):Bool :=
  (cond (ev1 != (0:Int))
   true
   (cond (fv2 != (0:Int))
    true
    (cond (gv3 != (0:Int))
     true
     (cond (hv4 != (0:Int))
      true
      (cond (iv5 != (0:Int))
       true
       (cond (jv6 != (0:Int))
        true
        (cond ((lv5.len : Int) != (7:Int))
         true
         (cond ((x_1v6.len : Int) != (1:Int))
          true
          (decide ((0≤(0:Int)∧(0:Int) < (x_1v6.len:Int))) &&
          (cond (((x_1v6.get 0).len : Int) != (4:Int))
           true
           (p18_at7 a_0v1 a_1v1 b_0v2 b_1v2 c_0v3 c_1v3 d_0v4 d_1v4 lv5 x_0v6 x_1v6 x_2v6 x_3v6 x_4v6 x_5v6)))))))))))
theorem q18_at6 (K:List PA→Prop) (ev1:Int) (a_0v1:Int) (a_1v1:Int) (fv2:Int) (b_0v2:Int) (b_1v2:Int) (gv3:Int) (c_0v3:Int) (c_1v3:Int) (hv4:Int) (d_0v4:Int) (d_1v4:Int) (lv5:(Sl FluxStep)) (iv5:Int) (jv6:Int) (x_0v6:Int) (x_1v6:(Sl (Sl FluxRow))) (x_2v6:Int) (x_3v6:Int) (x_4v6:Int) (x_5v6:Int) (x_1v6_g:Nat→List PV) (x_1v6_h:x_1v6_g=fun i=>enc_32 (x_1v6.get i)) (hs:p18_at6 ev1 a_0v1 a_1v1 fv2 b_0v2 b_1v2 gv3 c_0v3 c_1v3 hv4 d_0v4 d_1v4 lv5 iv5 jv6 x_0v6 x_1v6 x_2v6 x_3v6 x_4v6 x_5v6=true) (hk:K (e18 (s18_at6 ev1 a_0v1 a_1v1 fv2 b_0v2 b_1v2 gv3 c_0v3 c_1v3 hv4 d_0v4 d_1v4 lv5 iv5 jv6 x_0v6 x_1v6 x_2v6 x_3v6 x_4v6 x_5v6))):f18_at6 K ev1 a_0v1 a_1v1 fv2 b_0v2 b_1v2 gv3 c_0v3 c_1v3 hv4 d_0v4 d_1v4 lv5 iv5 jv6 x_0v6 x_1v6.len x_1v6_g x_2v6 x_3v6 x_4v6 x_5v6:=by
  subst x_1v6_h
  refine ofEq (f18_eq6 K ev1 a_0v1 a_1v1 fv2 b_0v2 b_1v2 gv3 c_0v3 c_1v3 hv4 d_0v4 d_1v4 lv5 iv5 jv6 x_0v6 x_1v6 x_2v6 x_3v6 x_4v6 x_5v6) ?_
  unfold p18_at6 at hs
  unfold s18_at6 at hk
  exact (condB_go (K := fun r => K (e18 r))
   (fun hs hk=>hk)
   (fun hs hk => (condB_go (K := fun r => K (e18 r))
    (fun hs hk=>hk)
    (fun hs hk => (condB_go (K := fun r => K (e18 r))
     (fun hs hk=>hk)
     (fun hs hk => (condB_go (K := fun r => K (e18 r))
      (fun hs hk=>hk)
      (fun hs hk => (condB_go (K := fun r => K (e18 r))
       (fun hs hk=>hk)
       (fun hs hk => (condB_go (K := fun r => K (e18 r))
        (fun hs hk=>hk)
        (fun hs hk => (condB_go (K := fun r => K (e18 r))
         (fun hs hk=>hk)
         (fun hs hk => (condB_go (K := fun r => K (e18 r))
          (fun hs hk=>hk)
          (fun hs hk => (andK hs fun hc hs => ⟨hc, (condB_go (K := fun r => K (e18 r))
           (fun hs hk=>hk)
           (fun hs hk=>(q18_at7 K a_0v1 a_1v1 b_0v2 b_1v2 c_0v3 c_1v3 d_0v4 d_1v4 lv5 x_0v6 x_1v6 x_2v6 x_3v6 x_4v6 x_5v6 hs hk)) hs hk)⟩)) hs hk)) hs hk)) hs hk)) hs hk)) hs hk)) hs hk)) hs hk)) hs hk)
def s18_at5 (tv0:(Sl RangeRow)) (ev1:Int) (a_0v1:Int) (a_1v1:Int) (fv2:Int) (b_0v2:Int) (b_1v2:Int) (gv3:Int) (c_0v3:Int) (c_1v3:Int) (hv4:Int) (d_0v4:Int) (d_1v4:Int) (lv5:(Sl FluxStep)) (iv5:Int) (s_1v5:(Sl (Sl FluxRow))):Bool :=
  (s18_at6 ev1 a_0v1 a_1v1 fv2 b_0v2 b_1v2 gv3 c_0v3 c_1v3 hv4 d_0v4 d_1v4 lv5 iv5 ((s33 (⟨s60.Parts,s_1v5,s60.Beta,s60.Alpha⟩:Sky) tv0 (0:Int) (100:Int) (⟨(10:Int),(25:Int)⟩:Span)).2) (((s33 (⟨s60.Parts,s_1v5,s60.Beta,s60.Alpha⟩:Sky) tv0 (0:Int) (100:Int) (⟨(10:Int),(25:Int)⟩:Span)).1).Parts) (((s33 (⟨s60.Parts,s_1v5,s60.Beta,s60.Alpha⟩:Sky) tv0 (0:Int) (100:Int) (⟨(10:Int),(25:Int)⟩:Span)).1).Bins) (((s33 (⟨s60.Parts,s_1v5,s60.Beta,s60.Alpha⟩:Sky) tv0 (0:Int) (100:Int) (⟨(10:Int),(25:Int)⟩:Span)).1).Beta.Low) (((s33 (⟨s60.Parts,s_1v5,s60.Beta,s60.Alpha⟩:Sky) tv0 (0:Int) (100:Int) (⟨(10:Int),(25:Int)⟩:Span)).1).Beta.High) (((s33 (⟨s60.Parts,s_1v5,s60.Beta,s60.Alpha⟩:Sky) tv0 (0:Int) (100:Int) (⟨(10:Int),(25:Int)⟩:Span)).1).Alpha.Low) (((s33 (⟨s60.Parts,s_1v5,s60.Beta,s60.Alpha⟩:Sky) tv0 (0:Int) (100:Int) (⟨(10:Int),(25:Int)⟩:Span)).1).Alpha.High))
def p18_at5 (tv0:(Sl RangeRow)) (ev1:Int) (a_0v1:Int) (a_1v1:Int) (fv2:Int) (b_0v2:Int) (b_1v2:Int) (gv3:Int) (c_0v3:Int) (c_1v3:Int) (hv4:Int) (d_0v4:Int) (d_1v4:Int) (lv5:(Sl FluxStep)) (iv5:Int) (s_1v5:(Sl (Sl FluxRow))):Bool :=
  (decide ((p33 (⟨s60.Parts,s_1v5,s60.Beta,s60.Alpha⟩:Sky) tv0 (0:Int) (100:Int) (⟨(10:Int),(25:Int)⟩:Span)=true)) &&
  (p18_at6 ev1 a_0v1 a_1v1 fv2 b_0v2 b_1v2 gv3 c_0v3 c_1v3 hv4 d_0v4 d_1v4 lv5 iv5 ((s33 (⟨s60.Parts,s_1v5,s60.Beta,s60.Alpha⟩:Sky) tv0 (0:Int) (100:Int) (⟨(10:Int),(25:Int)⟩:Span)).2) (((s33 (⟨s60.Parts,s_1v5,s60.Beta,s60.Alpha⟩:Sky) tv0 (0:Int) (100:Int) (⟨(10:Int),(25:Int)⟩:Span)).1).Parts) (((s33 (⟨s60.Parts,s_1v5,s60.Beta,s60.Alpha⟩:Sky) tv0 (0:Int) (100:Int) (⟨(10:Int),(25:Int)⟩:Span)).1).Bins) (((s33 (⟨s60.Parts,s_1v5,s60.Beta,s60.Alpha⟩:Sky) tv0 (0:Int) (100:Int) (⟨(10:Int),(25:Int)⟩:Span)).1).Beta.Low) (((s33 (⟨s60.Parts,s_1v5,s60.Beta,s60.Alpha⟩:Sky) tv0 (0:Int) (100:Int) (⟨(10:Int),(25:Int)⟩:Span)).1).Beta.High) (((s33 (⟨s60.Parts,s_1v5,s60.Beta,s60.Alpha⟩:Sky) tv0 (0:Int) (100:Int) (⟨(10:Int),(25:Int)⟩:Span)).1).Alpha.Low) (((s33 (⟨s60.Parts,s_1v5,s60.Beta,s60.Alpha⟩:Sky) tv0 (0:Int) (100:Int) (⟨(10:Int),(25:Int)⟩:Span)).1).Alpha.High)))
theorem q18_at5 (K:List PA→Prop) (tv0:(Sl RangeRow)) (ev1:Int) (a_0v1:Int) (a_1v1:Int) (fv2:Int) (b_0v2:Int) (b_1v2:Int) (gv3:Int) (c_0v3:Int) (c_1v3:Int) (hv4:Int) (d_0v4:Int) (d_1v4:Int) (lv5:(Sl FluxStep)) (iv5:Int) (s_1v5:(Sl (Sl FluxRow))) (lv5_g:Nat→List PV) (lv5_h:lv5_g=fun i=>enc_69 (lv5.get i)) (s_1v5_g:Nat→List PV) (s_1v5_h:s_1v5_g=fun i=>enc_32 (s_1v5.get i)) (hs:p18_at5 tv0 ev1 a_0v1 a_1v1 fv2 b_0v2 b_1v2 gv3 c_0v3 c_1v3 hv4 d_0v4 d_1v4 lv5 iv5 s_1v5=true) (hk:K (e18 (s18_at5 tv0 ev1 a_0v1 a_1v1 fv2 b_0v2 b_1v2 gv3 c_0v3 c_1v3 hv4 d_0v4 d_1v4 lv5 iv5 s_1v5))):f18_at5 K tv0 ev1 a_0v1 a_1v1 fv2 b_0v2 b_1v2 gv3 c_0v3 c_1v3 hv4 d_0v4 d_1v4 lv5.len lv5_g iv5 s_1v5.len s_1v5_g:=by
  subst lv5_h
  subst s_1v5_h
  refine ofEq (f18_eq5 K tv0 ev1 a_0v1 a_1v1 fv2 b_0v2 b_1v2 gv3 c_0v3 c_1v3 hv4 d_0v4 d_1v4 lv5 iv5 s_1v5) ?_
  unfold p18_at5 at hs
  unfold s18_at5 at hk
  exact (andK hs fun hc hs=>⟨⟨isE,isE,hc⟩,(q18_at6 K ev1 a_0v1 a_1v1 fv2 b_0v2 b_1v2 gv3 c_0v3 c_1v3 hv4 d_0v4 d_1v4 lv5 iv5 ((s33 (⟨s60.Parts,s_1v5,s60.Beta,s60.Alpha⟩:Sky) tv0 (0:Int) (100:Int) (⟨(10:Int),(25:Int)⟩:Span)).2) (((s33 (⟨s60.Parts,s_1v5,s60.Beta,s60.Alpha⟩:Sky) tv0 (0:Int) (100:Int) (⟨(10:Int),(25:Int)⟩:Span)).1).Parts) (((s33 (⟨s60.Parts,s_1v5,s60.Beta,s60.Alpha⟩:Sky) tv0 (0:Int) (100:Int) (⟨(10:Int),(25:Int)⟩:Span)).1).Bins) (((s33 (⟨s60.Parts,s_1v5,s60.Beta,s60.Alpha⟩:Sky) tv0 (0:Int) (100:Int) (⟨(10:Int),(25:Int)⟩:Span)).1).Beta.Low) (((s33 (⟨s60.Parts,s_1v5,s60.Beta,s60.Alpha⟩:Sky) tv0 (0:Int) (100:Int) (⟨(10:Int),(25:Int)⟩:Span)).1).Beta.High) (((s33 (⟨s60.Parts,s_1v5,s60.Beta,s60.Alpha⟩:Sky) tv0 (0:Int) (100:Int) (⟨(10:Int),(25:Int)⟩:Span)).1).Alpha.Low) (((s33 (⟨s60.Parts,s_1v5,s60.Beta,s60.Alpha⟩:Sky) tv0 (0:Int) (100:Int) (⟨(10:Int),(25:Int)⟩:Span)).1).Alpha.High) (fun i=>enc_32 (((s33 (⟨s60.Parts,s_1v5,s60.Beta,s60.Alpha⟩:Sky) tv0 (0:Int) (100:Int) (⟨(10:Int),(25:Int)⟩:Span)).1).Bins.get i)) rfl hs hk)⟩)
def s18_at4 (tv0:(Sl RangeRow)) (ev1:Int) (a_0v1:Int) (a_1v1:Int) (fv2:Int) (b_0v2:Int) (b_1v2:Int) (gv3:Int) (c_0v3:Int) (c_1v3:Int) (hv4:Int) (s_1v4:(Sl (Sl FluxRow))) (d_0v4:Int) (d_1v4:Int):Bool :=
  (s18_at5 tv0 ev1 a_0v1 a_1v1 fv2 b_0v2 b_1v2 gv3 c_0v3 c_1v3 hv4 d_0v4 d_1v4 ((s26 (⟨s60.Parts,s_1v4,s60.Beta,s60.Alpha⟩:Sky) tv0 (0:Int) (⟨1,fun _=>(s34 (1:Int))⟩:(Sl Spell))).1) ((s26 (⟨s60.Parts,s_1v4,s60.Beta,s60.Alpha⟩:Sky) tv0 (0:Int) (⟨1,fun _=>(s34 (1:Int))⟩:(Sl Spell))).2) s_1v4)
def p18_at4 (tv0:(Sl RangeRow)) (ev1:Int) (a_0v1:Int) (a_1v1:Int) (fv2:Int) (b_0v2:Int) (b_1v2:Int) (gv3:Int) (c_0v3:Int) (c_1v3:Int) (hv4:Int) (s_1v4:(Sl (Sl FluxRow))) (d_0v4:Int) (d_1v4:Int):Bool :=
  (decide ((p26 (⟨s60.Parts,s_1v4,s60.Beta,s60.Alpha⟩:Sky) tv0 (0:Int) (⟨1,fun _=>(s34 (1:Int))⟩:(Sl Spell))=true)) &&
  (p18_at5 tv0 ev1 a_0v1 a_1v1 fv2 b_0v2 b_1v2 gv3 c_0v3 c_1v3 hv4 d_0v4 d_1v4 ((s26 (⟨s60.Parts,s_1v4,s60.Beta,s60.Alpha⟩:Sky) tv0 (0:Int) (⟨1,fun _=>(s34 (1:Int))⟩:(Sl Spell))).1) ((s26 (⟨s60.Parts,s_1v4,s60.Beta,s60.Alpha⟩:Sky) tv0 (0:Int) (⟨1,fun _=>(s34 (1:Int))⟩:(Sl Spell))).2) s_1v4))
theorem q18_at4 (K:List PA→Prop) (tv0:(Sl RangeRow)) (ev1:Int) (a_0v1:Int) (a_1v1:Int) (fv2:Int) (b_0v2:Int) (b_1v2:Int) (gv3:Int) (c_0v3:Int) (c_1v3:Int) (hv4:Int) (s_1v4:(Sl (Sl FluxRow))) (d_0v4:Int) (d_1v4:Int) (s_1v4_g:Nat→List PV) (s_1v4_h:s_1v4_g=fun i=>enc_32 (s_1v4.get i)) (hs:p18_at4 tv0 ev1 a_0v1 a_1v1 fv2 b_0v2 b_1v2 gv3 c_0v3 c_1v3 hv4 s_1v4 d_0v4 d_1v4=true) (hk:K (e18 (s18_at4 tv0 ev1 a_0v1 a_1v1 fv2 b_0v2 b_1v2 gv3 c_0v3 c_1v3 hv4 s_1v4 d_0v4 d_1v4))):f18_at4 K tv0 ev1 a_0v1 a_1v1 fv2 b_0v2 b_1v2 gv3 c_0v3 c_1v3 hv4 s_1v4.len s_1v4_g d_0v4 d_1v4:=by
  subst s_1v4_h
  refine ofEq (f18_eq4 K tv0 ev1 a_0v1 a_1v1 fv2 b_0v2 b_1v2 gv3 c_0v3 c_1v3 hv4 s_1v4 d_0v4 d_1v4) ?_
  unfold p18_at4 at hs
  unfold s18_at4 at hk
  exact (andK hs fun hc hs=>⟨⟨isE,isE,isE_c,hc⟩,(q18_at5 K tv0 ev1 a_0v1 a_1v1 fv2 b_0v2 b_1v2 gv3 c_0v3 c_1v3 hv4 d_0v4 d_1v4 ((s26 (⟨s60.Parts,s_1v4,s60.Beta,s60.Alpha⟩:Sky) tv0 (0:Int) (⟨1,fun _=>(s34 (1:Int))⟩:(Sl Spell))).1) ((s26 (⟨s60.Parts,s_1v4,s60.Beta,s60.Alpha⟩:Sky) tv0 (0:Int) (⟨1,fun _=>(s34 (1:Int))⟩:(Sl Spell))).2) s_1v4 (fun i=>enc_69 (((s26 (⟨s60.Parts,s_1v4,s60.Beta,s60.Alpha⟩:Sky) tv0 (0:Int) (⟨1,fun _=>(s34 (1:Int))⟩:(Sl Spell))).1).get i)) rfl (fun i=>enc_32 (s_1v4.get i)) rfl hs hk)⟩)
def s18_at3 (tv0:(Sl RangeRow)) (ev1:Int) (a_0v1:Int) (a_1v1:Int) (fv2:Int) (b_0v2:Int) (b_1v2:Int) (gv3:Int) (s_1v3:(Sl (Sl FluxRow))) (c_0v3:Int) (c_1v3:Int):Bool :=
  (s18_at4 tv0 ev1 a_0v1 a_1v1 fv2 b_0v2 b_1v2 gv3 c_0v3 c_1v3 ((s25 (⟨s60.Parts,s_1v3,s60.Beta,s60.Alpha⟩:Sky) tv0 (0:Int) (⟨(261:Int),(270:Int)⟩:Span) (⟨1,fun _=>(s34 (1:Int))⟩:(Sl Spell))).2) s_1v3 (((s25 (⟨s60.Parts,s_1v3,s60.Beta,s60.Alpha⟩:Sky) tv0 (0:Int) (⟨(261:Int),(270:Int)⟩:Span) (⟨1,fun _=>(s34 (1:Int))⟩:(Sl Spell))).1).Low) (((s25 (⟨s60.Parts,s_1v3,s60.Beta,s60.Alpha⟩:Sky) tv0 (0:Int) (⟨(261:Int),(270:Int)⟩:Span) (⟨1,fun _=>(s34 (1:Int))⟩:(Sl Spell))).1).High))
def p18_at3 (tv0:(Sl RangeRow)) (ev1:Int) (a_0v1:Int) (a_1v1:Int) (fv2:Int) (b_0v2:Int) (b_1v2:Int) (gv3:Int) (s_1v3:(Sl (Sl FluxRow))) (c_0v3:Int) (c_1v3:Int):Bool :=
  (decide ((p25 (⟨s60.Parts,s_1v3,s60.Beta,s60.Alpha⟩:Sky) tv0 (0:Int) (⟨(261:Int),(270:Int)⟩:Span) (⟨1,fun _=>(s34 (1:Int))⟩:(Sl Spell))=true)) &&
  (p18_at4 tv0 ev1 a_0v1 a_1v1 fv2 b_0v2 b_1v2 gv3 c_0v3 c_1v3 ((s25 (⟨s60.Parts,s_1v3,s60.Beta,s60.Alpha⟩:Sky) tv0 (0:Int) (⟨(261:Int),(270:Int)⟩:Span) (⟨1,fun _=>(s34 (1:Int))⟩:(Sl Spell))).2) s_1v3 (((s25 (⟨s60.Parts,s_1v3,s60.Beta,s60.Alpha⟩:Sky) tv0 (0:Int) (⟨(261:Int),(270:Int)⟩:Span) (⟨1,fun _=>(s34 (1:Int))⟩:(Sl Spell))).1).Low) (((s25 (⟨s60.Parts,s_1v3,s60.Beta,s60.Alpha⟩:Sky) tv0 (0:Int) (⟨(261:Int),(270:Int)⟩:Span) (⟨1,fun _=>(s34 (1:Int))⟩:(Sl Spell))).1).High)))
theorem q18_at3 (K:List PA→Prop) (tv0:(Sl RangeRow)) (ev1:Int) (a_0v1:Int) (a_1v1:Int) (fv2:Int) (b_0v2:Int) (b_1v2:Int) (gv3:Int) (s_1v3:(Sl (Sl FluxRow))) (c_0v3:Int) (c_1v3:Int) (s_1v3_g:Nat→List PV) (s_1v3_h:s_1v3_g=fun i=>enc_32 (s_1v3.get i)) (hs:p18_at3 tv0 ev1 a_0v1 a_1v1 fv2 b_0v2 b_1v2 gv3 s_1v3 c_0v3 c_1v3=true) (hk:K (e18 (s18_at3 tv0 ev1 a_0v1 a_1v1 fv2 b_0v2 b_1v2 gv3 s_1v3 c_0v3 c_1v3))):f18_at3 K tv0 ev1 a_0v1 a_1v1 fv2 b_0v2 b_1v2 gv3 s_1v3.len s_1v3_g c_0v3 c_1v3:=by
  subst s_1v3_h
  refine ofEq (f18_eq3 K tv0 ev1 a_0v1 a_1v1 fv2 b_0v2 b_1v2 gv3 s_1v3 c_0v3 c_1v3) ?_
  unfold p18_at3 at hs
  unfold s18_at3 at hk
  exact (andK hs fun hc hs=>⟨⟨isE,isE,isE_c,hc⟩,(q18_at4 K tv0 ev1 a_0v1 a_1v1 fv2 b_0v2 b_1v2 gv3 c_0v3 c_1v3 ((s25 (⟨s60.Parts,s_1v3,s60.Beta,s60.Alpha⟩:Sky) tv0 (0:Int) (⟨(261:Int),(270:Int)⟩:Span) (⟨1,fun _=>(s34 (1:Int))⟩:(Sl Spell))).2) s_1v3 (((s25 (⟨s60.Parts,s_1v3,s60.Beta,s60.Alpha⟩:Sky) tv0 (0:Int) (⟨(261:Int),(270:Int)⟩:Span) (⟨1,fun _=>(s34 (1:Int))⟩:(Sl Spell))).1).Low) (((s25 (⟨s60.Parts,s_1v3,s60.Beta,s60.Alpha⟩:Sky) tv0 (0:Int) (⟨(261:Int),(270:Int)⟩:Span) (⟨1,fun _=>(s34 (1:Int))⟩:(Sl Spell))).1).High) (fun i=>enc_32 (s_1v3.get i)) rfl hs hk)⟩)
def s18_at2 (tv0:(Sl RangeRow)) (ev1:Int) (a_0v1:Int) (a_1v1:Int) (fv2:Int) (s_1v2:(Sl (Sl FluxRow))) (b_0v2:Int) (b_1v2:Int):Bool :=
  (s18_at3 tv0 ev1 a_0v1 a_1v1 fv2 b_0v2 b_1v2 ((s23 (⟨s60.Parts,s_1v2,s60.Beta,s60.Alpha⟩:Sky) tv0 (0:Int) (100:Int) (⟨2,decF_56 (getL [(enc_56 (s34 (3:Int))),(enc_56 (⟨(1:Int),(⟨(⟨(-10:Int),(20:Int)⟩:Span),(⟨(0:Int),(5:Int)⟩:Span)⟩:Weather)⟩:Spell))])⟩:(Sl Spell))).2) s_1v2 (((s23 (⟨s60.Parts,s_1v2,s60.Beta,s60.Alpha⟩:Sky) tv0 (0:Int) (100:Int) (⟨2,decF_56 (getL [(enc_56 (s34 (3:Int))),(enc_56 (⟨(1:Int),(⟨(⟨(-10:Int),(20:Int)⟩:Span),(⟨(0:Int),(5:Int)⟩:Span)⟩:Weather)⟩:Spell))])⟩:(Sl Spell))).1).Low) (((s23 (⟨s60.Parts,s_1v2,s60.Beta,s60.Alpha⟩:Sky) tv0 (0:Int) (100:Int) (⟨2,decF_56 (getL [(enc_56 (s34 (3:Int))),(enc_56 (⟨(1:Int),(⟨(⟨(-10:Int),(20:Int)⟩:Span),(⟨(0:Int),(5:Int)⟩:Span)⟩:Weather)⟩:Spell))])⟩:(Sl Spell))).1).High))
def p18_at2 (tv0:(Sl RangeRow)) (ev1:Int) (a_0v1:Int) (a_1v1:Int) (fv2:Int) (s_1v2:(Sl (Sl FluxRow))) (b_0v2:Int) (b_1v2:Int):Bool :=
  (decide ((p23 (⟨s60.Parts,s_1v2,s60.Beta,s60.Alpha⟩:Sky) tv0 (0:Int) (100:Int) (⟨2,decF_56 (getL [(enc_56 (s34 (3:Int))),(enc_56 (⟨(1:Int),(⟨(⟨(-10:Int),(20:Int)⟩:Span),(⟨(0:Int),(5:Int)⟩:Span)⟩:Weather)⟩:Spell))])⟩:(Sl Spell))=true)) &&
  (p18_at3 tv0 ev1 a_0v1 a_1v1 fv2 b_0v2 b_1v2 ((s23 (⟨s60.Parts,s_1v2,s60.Beta,s60.Alpha⟩:Sky) tv0 (0:Int) (100:Int) (⟨2,decF_56 (getL [(enc_56 (s34 (3:Int))),(enc_56 (⟨(1:Int),(⟨(⟨(-10:Int),(20:Int)⟩:Span),(⟨(0:Int),(5:Int)⟩:Span)⟩:Weather)⟩:Spell))])⟩:(Sl Spell))).2) s_1v2 (((s23 (⟨s60.Parts,s_1v2,s60.Beta,s60.Alpha⟩:Sky) tv0 (0:Int) (100:Int) (⟨2,decF_56 (getL [(enc_56 (s34 (3:Int))),(enc_56 (⟨(1:Int),(⟨(⟨(-10:Int),(20:Int)⟩:Span),(⟨(0:Int),(5:Int)⟩:Span)⟩:Weather)⟩:Spell))])⟩:(Sl Spell))).1).Low) (((s23 (⟨s60.Parts,s_1v2,s60.Beta,s60.Alpha⟩:Sky) tv0 (0:Int) (100:Int) (⟨2,decF_56 (getL [(enc_56 (s34 (3:Int))),(enc_56 (⟨(1:Int),(⟨(⟨(-10:Int),(20:Int)⟩:Span),(⟨(0:Int),(5:Int)⟩:Span)⟩:Weather)⟩:Spell))])⟩:(Sl Spell))).1).High)))
theorem q18_at2 (K:List PA→Prop) (tv0:(Sl RangeRow)) (ev1:Int) (a_0v1:Int) (a_1v1:Int) (fv2:Int) (s_1v2:(Sl (Sl FluxRow))) (b_0v2:Int) (b_1v2:Int) (s_1v2_g:Nat→List PV) (s_1v2_h:s_1v2_g=fun i=>enc_32 (s_1v2.get i)) (hs:p18_at2 tv0 ev1 a_0v1 a_1v1 fv2 s_1v2 b_0v2 b_1v2=true) (hk:K (e18 (s18_at2 tv0 ev1 a_0v1 a_1v1 fv2 s_1v2 b_0v2 b_1v2))):f18_at2 K tv0 ev1 a_0v1 a_1v1 fv2 s_1v2.len s_1v2_g b_0v2 b_1v2:=by
  subst s_1v2_h
  refine ofEq (f18_eq2 K tv0 ev1 a_0v1 a_1v1 fv2 s_1v2 b_0v2 b_1v2) ?_
  unfold p18_at2 at hs
  unfold s18_at2 at hk
  exact (andK hs fun hc hs=>⟨⟨isE,isE,(isE_list []),hc⟩,(q18_at3 K tv0 ev1 a_0v1 a_1v1 fv2 b_0v2 b_1v2 ((s23 (⟨s60.Parts,s_1v2,s60.Beta,s60.Alpha⟩:Sky) tv0 (0:Int) (100:Int) (⟨2,decF_56 (getL [(enc_56 (s34 (3:Int))),(enc_56 (⟨(1:Int),(⟨(⟨(-10:Int),(20:Int)⟩:Span),(⟨(0:Int),(5:Int)⟩:Span)⟩:Weather)⟩:Spell))])⟩:(Sl Spell))).2) s_1v2 (((s23 (⟨s60.Parts,s_1v2,s60.Beta,s60.Alpha⟩:Sky) tv0 (0:Int) (100:Int) (⟨2,decF_56 (getL [(enc_56 (s34 (3:Int))),(enc_56 (⟨(1:Int),(⟨(⟨(-10:Int),(20:Int)⟩:Span),(⟨(0:Int),(5:Int)⟩:Span)⟩:Weather)⟩:Spell))])⟩:(Sl Spell))).1).Low) (((s23 (⟨s60.Parts,s_1v2,s60.Beta,s60.Alpha⟩:Sky) tv0 (0:Int) (100:Int) (⟨2,decF_56 (getL [(enc_56 (s34 (3:Int))),(enc_56 (⟨(1:Int),(⟨(⟨(-10:Int),(20:Int)⟩:Span),(⟨(0:Int),(5:Int)⟩:Span)⟩:Weather)⟩:Spell))])⟩:(Sl Spell))).1).High) (fun i=>enc_32 (s_1v2.get i)) rfl hs hk)⟩)
def s18_at1 (tv0:(Sl RangeRow)) (ev1:Int) (s_1v1:(Sl (Sl FluxRow))) (a_0v1:Int) (a_1v1:Int):Bool :=
  (s18_at2 tv0 ev1 a_0v1 a_1v1 ((s20 (⟨s60.Parts,s_1v1,s60.Beta,s60.Alpha⟩:Sky) tv0 (0:Int) (280:Int)).2) s_1v1 (((s20 (⟨s60.Parts,s_1v1,s60.Beta,s60.Alpha⟩:Sky) tv0 (0:Int) (280:Int)).1).Low) (((s20 (⟨s60.Parts,s_1v1,s60.Beta,s60.Alpha⟩:Sky) tv0 (0:Int) (280:Int)).1).High))
def p18_at1 (tv0:(Sl RangeRow)) (ev1:Int) (s_1v1:(Sl (Sl FluxRow))) (a_0v1:Int) (a_1v1:Int):Bool :=
  (decide ((p20 (⟨s60.Parts,s_1v1,s60.Beta,s60.Alpha⟩:Sky) tv0 (0:Int) (280:Int)=true)) &&
  (p18_at2 tv0 ev1 a_0v1 a_1v1 ((s20 (⟨s60.Parts,s_1v1,s60.Beta,s60.Alpha⟩:Sky) tv0 (0:Int) (280:Int)).2) s_1v1 (((s20 (⟨s60.Parts,s_1v1,s60.Beta,s60.Alpha⟩:Sky) tv0 (0:Int) (280:Int)).1).Low) (((s20 (⟨s60.Parts,s_1v1,s60.Beta,s60.Alpha⟩:Sky) tv0 (0:Int) (280:Int)).1).High)))
theorem q18_at1 (K:List PA→Prop) (tv0:(Sl RangeRow)) (ev1:Int) (s_1v1:(Sl (Sl FluxRow))) (a_0v1:Int) (a_1v1:Int) (s_1v1_g:Nat→List PV) (s_1v1_h:s_1v1_g=fun i=>enc_32 (s_1v1.get i)) (hs:p18_at1 tv0 ev1 s_1v1 a_0v1 a_1v1=true) (hk:K (e18 (s18_at1 tv0 ev1 s_1v1 a_0v1 a_1v1))):f18_at1 K tv0 ev1 s_1v1.len s_1v1_g a_0v1 a_1v1:=by
  subst s_1v1_h
  refine ofEq (f18_eq1 K tv0 ev1 s_1v1 a_0v1 a_1v1) ?_
  unfold p18_at1 at hs
  unfold s18_at1 at hk
  exact (andK hs fun hc hs=>⟨⟨isE,isE,hc⟩,(q18_at2 K tv0 ev1 a_0v1 a_1v1 ((s20 (⟨s60.Parts,s_1v1,s60.Beta,s60.Alpha⟩:Sky) tv0 (0:Int) (280:Int)).2) s_1v1 (((s20 (⟨s60.Parts,s_1v1,s60.Beta,s60.Alpha⟩:Sky) tv0 (0:Int) (280:Int)).1).Low) (((s20 (⟨s60.Parts,s_1v1,s60.Beta,s60.Alpha⟩:Sky) tv0 (0:Int) (280:Int)).1).High) (fun i=>enc_32 (s_1v1.get i)) rfl hs hk)⟩)
def s18_at0 (tv0:(Sl RangeRow)) (s_1v0:(Sl (Sl FluxRow))):Bool :=
  (s18_at1 tv0 ((s19 tv0 (100:Int)).2) s_1v0 (((s19 tv0 (100:Int)).1).Low) (((s19 tv0 (100:Int)).1).High))
def p18_at0 (tv0:(Sl RangeRow)) (s_1v0:(Sl (Sl FluxRow))):Bool :=
  (decide ((p19 tv0 (100:Int)=true)) &&
  (p18_at1 tv0 ((s19 tv0 (100:Int)).2) s_1v0 (((s19 tv0 (100:Int)).1).Low) (((s19 tv0 (100:Int)).1).High)))
theorem q18_at0 (K:List PA→Prop) (tv0:(Sl RangeRow)) (s_1v0:(Sl (Sl FluxRow))) (tv0_g:Nat→List PV) (tv0_h:tv0_g=fun i=>enc_42 (tv0.get i)) (s_1v0_g:Nat→List PV) (s_1v0_h:s_1v0_g=fun i=>enc_32 (s_1v0.get i)) (hs:p18_at0 tv0 s_1v0=true) (hk:K (e18 (s18_at0 tv0 s_1v0))):f18_at0 K tv0.len tv0_g s_1v0.len s_1v0_g:=by
  subst tv0_h
  subst s_1v0_h
  refine ofEq (f18_eq0 K tv0 s_1v0) ?_
  unfold p18_at0 at hs
  unfold s18_at0 at hk
  exact (andK hs fun hc hs=>⟨⟨isE,hc⟩,(q18_at1 K tv0 ((s19 tv0 (100:Int)).2) s_1v0 (((s19 tv0 (100:Int)).1).Low) (((s19 tv0 (100:Int)).1).High) (fun i=>enc_32 (s_1v0.get i)) rfl hs hk)⟩)
def s18:Bool :=
  (s18_at0 s61 s60.Bins)
def p18:Bool :=
  (p18_at0 s61 s60.Bins)
theorem q18 (K:List PA→Prop) (hs:p18=true) (hk:K (e18 (s18))):vcFun Try.prog G18 ann18 18 [] K:=by
  refine ofEq (f18_top K) ?_
  unfold p18 at hs
  unfold s18 at hk
  exact (q18_at0 K s61 s60.Bins (fun i=>enc_42 (s61.get i)) rfl (fun i=>enc_32 (s60.Bins.get i)) rfl hs hk)
theorem p18_ok:p18=true:=by kernel_rfl
theorem s18_ok:s18=true:=by kernel_rfl
def ctr18 : List PA → COut
  | []=>.tot [.one (.bool true)]
  | _=>.no
theorem call18:Callable Try.prog 18:=⟨_,rfl,rfl,by kernel_rfl⟩
theorem ok18:Ok Try.prog 18 ctr18:=ok_tab okT18 call18 fun args K h=>by
  unfold ctr18 at h
  split at h
  · refine ⟨fun _ _ => [], fun _ => false, ann18, q18 K p18_ok ?_⟩
    show K [.one (.bool s18)]
    rw [s18_ok];exact h
  · exact h.elim
abbrev T15:Tabs:=Tabs.nil
theorem okT15:TabsOk Try.prog T15:=TabsOk.nil
abbrev G15:Ctrs:=csm T15 (fun _ _=>[]) (fun _=>false)
def ann15:Ann:=⟨29,[(0,⟨[1,2],[2],[],[],[]⟩),(1,⟨[1,2,5],[2],[],[],[]⟩),(2,⟨[1,2,5,10],[2],[],[],[]⟩),(3,⟨[1,2,5],[2],[],[],[]⟩),(4,⟨[1,2,5,19],[2],[],[],[]⟩),(5,⟨[4],[],[],[],[]⟩),(6,⟨[4],[],[],[],[]⟩)],
  [(2,⟨[1,2,5],[2],[],[],[]⟩)],
  [],
  [],[]⟩
def f15_g0 (s:Sky) (t:(Sl RangeRow)) (iv0:Int):St:=⟨[(1,.one (.c (.p (.sl t.len 3 (fun i=>enc_42 (t.get i)))))),(2,.one (.c (.ptr 2 0))),(5,.one (.c (.p (.int .i64 iv0))))],[(2,.box 26 [.p (.int .i64 s.Parts),.p (.sl s.Bins.len 1 (fun i=>enc_32 (s.Bins.get i))),.p (.int .i64 s.Beta.Low),.p (.int .i64 s.Beta.High),.p (.int .i64 s.Alpha.Low),.p (.int .i64 s.Alpha.High)])],[]⟩
def f15_at0 (K:List PA→Prop) (s:Sky) (t:(Sl RangeRow)) (iv0:Int):Prop:=vc Try.prog G15 ann15 (cdF Try.f15 [1,0,1,0]) (blockK 0 (sqK Try.prog G15 ann15 (cdF Try.f15 [1,1]) (bodyK Try.prog Try.f15 K))) (f15_g0 s t iv0)
theorem f15_top (s : Sky) (t : (Sl RangeRow)) (K : List PA → Prop) :
  vcFun Try.prog G15 ann15 15 [.agg [.int .i64 s.Parts,.sl s.Bins.len 1 (fun i=>enc_32 (s.Bins.get i)),.int .i64 s.Beta.Low,.int .i64 s.Beta.High,.int .i64 s.Alpha.Low,.int .i64 s.Alpha.High],.one (.sl t.len 3 (fun i=>enc_42 (t.get i)))] K =
  (f15_at0 K s t (0:Int)):=by kernel_rfl
def f15_step0 (K:List PA→Prop) (X0:St→Prop) (s:Sky) (t:(Sl RangeRow)) (iv0:Int):Prop :=
  (condP (decide (iv0 < (s.Bins.len : Int)))
   (((0≤iv0∧iv0 < (s.Bins.len:Int))) ∧
   (condP (decide (((s.Bins.get iv0.toNat).len : Int) > (50:Int)))
    (K [.one (.bool false)])
    (X0 (f15_g0 s t (w64 (iv0+(1:Int)))))))
   (condP (decide ((s.Bins.len : Int) ≤ (25:Int)))
    (K [.one (.bool (decide ((t.len:Int)≤(50:Int))))])
    (K [.one (.bool false)])))
theorem f15_stepeq0 (K : List PA → Prop) (X0 : St → Prop) (s : Sky) (t : (Sl RangeRow)) (iv0 : Int) :
  vc Try.prog G15 ann15 (cd (cdF Try.f15 [1,0,1,0]) [0]) (loopK Try.prog ann15 2 X0 (blockK 0 (sqK Try.prog G15 ann15 (cdF Try.f15 [1,1]) (bodyK Try.prog Try.f15 K)))) (f15_g0 s t iv0) =
  f15_step0 K X0 s t iv0:=by kernel_rfl
theorem f15_loop0 (K : List PA → Prop) (s : Sky) (t : (Sl RangeRow)) (iv0 : Int)
  (h:∀ X0:St→Prop,(∀ (iv0:Int),f15_step0 K X0 s t iv0→X0 (f15_g0 s t iv0))→X0 (f15_g0 s t iv0)) :
  f15_at0 K s t iv0:=by
  have e:f15_at0 K s t iv0=(∀ X:St→Prop,(∀ s,vc Try.prog G15 ann15 (cd (cdF Try.f15 [1,0,1,0]) [0]) (loopK Try.prog ann15 2 X (blockK 0 (sqK Try.prog G15 ann15 (cdF Try.f15 [1,1]) (bodyK Try.prog Try.f15 K)))) s→X s)→X (f15_g0 s t iv0)):=by kernel_rfl
  refine ofEq e ?_
  intro X hX
  refine h X ?_
  intro iv0 hs
  refine hX _ ?_
  have e2:=f15_stepeq0 K X s t iv0
  rw [e2]
  exact hs
abbrev e15 (r:Bool):List PA:=[.one (.bool r)]
attribute [irreducible] f15_at0
def s15_st0 (s:Sky) (t:(Sl RangeRow)) (S0:Int→Bool) (iv0:Int):Bool :=
  (cond (decide (iv0 < (s.Bins.len : Int)))
   (cond (decide (((s.Bins.get iv0.toNat).len : Int) > (50:Int)))
    false
    (S0 (w64 (iv0+(1:Int)))))
   (cond (decide ((s.Bins.len : Int) ≤ (25:Int)))
    (decide ((t.len:Int)≤(50:Int)))
    false))
def p15_st0 (s:Sky) (t:(Sl RangeRow)) (P0:Int→Bool) (iv0:Int):Bool :=
  (cond (decide (iv0 < (s.Bins.len : Int)))
   (decide ((0≤iv0∧iv0 < (s.Bins.len:Int))) &&
   (cond (decide (((s.Bins.get iv0.toNat).len : Int) > (50:Int)))
    true
    (P0 (w64 (iv0+(1:Int))))))
   true)
def s15_lp0 (s : Sky) (t : (Sl RangeRow)) : Nat → Int → Bool
  | 0=>fun _=>default
  | k+1=>s15_st0 s t (s15_lp0 s t k)
def p15_lp0 (s : Sky) (t : (Sl RangeRow)) : Nat → Int → Bool
  | 0=>fun _=>false
  | k+1=>p15_st0 s t (p15_lp0 s t k)
def s15_at0 (s:Sky) (t:(Sl RangeRow)) (iv0:Int):Bool:=s15_lp0 s t Fuel iv0
def p15_at0 (s:Sky) (t:(Sl RangeRow)) (iv0:Int):Bool:=p15_lp0 s t Fuel iv0
theorem q15_at0 (K:List PA→Prop) (s:Sky) (t:(Sl RangeRow)) (iv0:Int) (hs:p15_at0 s t iv0=true) (hk:K (e15 (s15_at0 s t iv0))):f15_at0 K s t iv0:=by
  refine f15_loop0 K s t iv0 ?_
  intro X0 hstep
  have key:∀ (k:Nat) (iv0:Int),p15_lp0 s t k iv0=true→K (e15 (s15_lp0 s t k iv0))→X0 (f15_g0 s t iv0):=by
    intro k
    induction k with
    | zero=>intro iv0 hs;exact absurd hs Bool.false_ne_true
    | succ k ih =>
      intro iv0 hs hk
      refine hstep iv0 ?_
      have hs:p15_st0 s t (p15_lp0 s t k) iv0=true:=hs
      have hk:K (e15 (s15_st0 s t (s15_lp0 s t k) iv0)):=hk
      unfold p15_st0 at hs
      unfold s15_st0 at hk
      generalize s15_lp0 s t k=S0 at hk ih
      generalize p15_lp0 s t k=P0 at hs ih
      have hX0:=ih
      exact (condB_go (K := fun r => K (e15 r))
       (fun hs hk => (andK hs fun hc hs => ⟨hc, (condB_go (K := fun r => K (e15 r))
        (fun hs hk=>hk)
        (fun hs hk=>(hX0 (w64 (iv0+(1:Int))) hs hk)) hs hk)⟩))
       (fun hs hk => (condP_gt (K := fun r => K (e15 r))
        (fun hk=>hk)
        (fun hk=>hk) hk)) hs hk)
  exact key _ iv0 hs hk
def s15 (s:Sky) (t:(Sl RangeRow)):Bool :=
  (s15_at0 s t (0:Int))
def p15 (s:Sky) (t:(Sl RangeRow)):Bool :=
  (p15_at0 s t (0:Int))
theorem q15 (s:Sky) (t:(Sl RangeRow)) (K:List PA→Prop) (hs:p15 s t=true) (hk:K (e15 (s15 s t))):vcFun Try.prog G15 ann15 15 [.agg [.int .i64 s.Parts,.sl s.Bins.len 1 (fun i=>enc_32 (s.Bins.get i)),.int .i64 s.Beta.Low,.int .i64 s.Beta.High,.int .i64 s.Alpha.Low,.int .i64 s.Alpha.High],.one (.sl t.len 3 (fun i=>enc_42 (t.get i)))] K:=by
  refine ofEq (f15_top s t K) ?_
  unfold p15 at hs
  unfold s15 at hk
  exact (q15_at0 K s t (0:Int) hs hk)
def ctr15 : List PA → COut
  | [.agg [.int .i64 a0_Parts,.sl a0_Bins_n a0_Bins_s a0_Bins_g,.int .i64 a0_Beta_Low,.int .i64 a0_Beta_High,.int .i64 a0_Alpha_Low,.int .i64 a0_Alpha_High],.one (.sl a1_n a1_s a1_g)]=>.det (IsE enc_32 1 a0_Bins_s a0_Bins_g∧IsE enc_42 3 a1_s a1_g∧p15 (⟨a0_Parts,(⟨a0_Bins_n,decF_32 a0_Bins_g⟩:(Sl (Sl FluxRow))),(⟨a0_Beta_Low,a0_Beta_High⟩:Span),(⟨a0_Alpha_Low,a0_Alpha_High⟩:Span)⟩:Sky) (⟨a1_n,decF_42 a1_g⟩:(Sl RangeRow))=true) [.one (.bool (s15 (⟨a0_Parts,(⟨a0_Bins_n,decF_32 a0_Bins_g⟩:(Sl (Sl FluxRow))),(⟨a0_Beta_Low,a0_Beta_High⟩:Span),(⟨a0_Alpha_Low,a0_Alpha_High⟩:Span)⟩:Sky) (⟨a1_n,decF_42 a1_g⟩:(Sl RangeRow))))]
  | _=>.no
theorem call15:Callable Try.prog 15:=⟨_,rfl,rfl,by kernel_rfl⟩
theorem ok15:Ok Try.prog 15 ctr15:=ok_tab okT15 call15 fun args K h=>by
  unfold ctr15 at h
  split at h
  · rename_i a0_Parts a0_Bins_n a0_Bins_s a0_Bins_g a0_Beta_Low a0_Beta_High a0_Alpha_Low a0_Alpha_High a1_n a1_s a1_g
    obtain ⟨⟨⟨rfl,a0_Bins_f,rfl⟩,⟨rfl,a1_f,rfl⟩,hs⟩,hk⟩:=h
    try rw [decF_enc_32 a0_Bins_f] at hs
    try rw [decF_enc_32 a0_Bins_f] at hk
    try rw [decF_enc_42 a1_f] at hs
    try rw [decF_enc_42 a1_f] at hk
    exact ⟨(fun _ _=>[]),(fun _=>false),ann15,q15 (⟨a0_Parts,(⟨a0_Bins_n,a0_Bins_f⟩:(Sl (Sl FluxRow))),(⟨a0_Beta_Low,a0_Beta_High⟩:Span),(⟨a0_Alpha_Low,a0_Alpha_High⟩:Span)⟩:Sky) (⟨a1_n,a1_f⟩:(Sl RangeRow)) K hs hk⟩
  · exact h.elim
abbrev T29:Tabs:=Tabs.nil
theorem okT29:TabsOk Try.prog T29:=TabsOk.nil
abbrev G29:Ctrs:=csm T29 (fun _ _=>[]) (fun _=>false)
def ann29:Ann:=⟨24,[(0,⟨[1,2,3],[3],[],[],[]⟩),(1,⟨[6],[],[],[],[]⟩)],
  [],
  [],
  [],[]⟩
theorem f29_top (s : Span) (low : Int) (high : Int) (K : List PA → Prop) :
  vcFun Try.prog G29 ann29 29 [.agg [.int .i64 s.Low,.int .i64 s.High],.one (.int .i64 low),.one (.int .i64 high)] K =
  (condP (decide (s.Low ≥ low))
   (condP (decide (s.Low ≤ s.High))
    (K [.one (.bool (decide (s.High≤high)))])
    (K [.one (.bool false)]))
   (K [.one (.bool false)])):=by kernel_rfl
abbrev e29 (r:Bool):List PA:=[.one (.bool r)]
def s29 (s:Span) (low:Int) (high:Int):Bool :=
  (cond (decide (s.Low ≥ low))
   (cond (decide (s.Low ≤ s.High))
    (decide (s.High≤high))
    false)
   false)
theorem q29 (s:Span) (low:Int) (high:Int) (K:List PA→Prop) (hk:K (e29 (s29 s low high))):vcFun Try.prog G29 ann29 29 [.agg [.int .i64 s.Low,.int .i64 s.High],.one (.int .i64 low),.one (.int .i64 high)] K:=by
  refine ofEq (f29_top s low high K) ?_
  unfold s29 at hk
  exact (condP_gt (K := fun r => K (e29 r))
   (fun hk => (condP_gt (K := fun r => K (e29 r))
    (fun hk=>hk)
    (fun hk=>hk) hk))
   (fun hk=>hk) hk)
def ctr29 : List PA → COut
  | [.agg [.int .i64 a0_Low,.int .i64 a0_High],.one (.int .i64 a1),.one (.int .i64 a2)]=>.tot [.one (.bool (s29 (⟨a0_Low,a0_High⟩:Span) a1 a2))]
  | _=>.no
theorem call29:Callable Try.prog 29:=⟨_,rfl,rfl,by kernel_rfl⟩
theorem ok29:Ok Try.prog 29 ctr29:=ok_tab okT29 call29 fun args K h=>by
  unfold ctr29 at h
  split at h
  · rename_i a0_Low a0_High a1 a2
    have hk:=h
    exact ⟨(fun _ _=>[]),(fun _=>false),ann29,q29 (⟨a0_Low,a0_High⟩:Span) a1 a2 K hk⟩
  · exact h.elim
abbrev T58:Tabs:=Tabs.nil
theorem okT58:TabsOk Try.prog T58:=TabsOk.nil
abbrev G58:Ctrs:=csm T58 (fun _ _=>[]) (fun _=>false)
def ann58:Ann:=⟨15,[(0,⟨[0,1,2],[],[],[],[]⟩),(1,⟨[6],[],[],[],[]⟩)],
  [],
  [],
  [],[]⟩
theorem f58_top (x : Int) (low : Int) (high : Int) (K : List PA → Prop) :
  vcFun Try.prog G58 ann58 58 [.one (.int .i64 x),.one (.int .i64 low),.one (.int .i64 high)] K =
  (condP (decide (x ≥ low))
   (K [.one (.bool (decide (x≤high)))])
   (K [.one (.bool false)])):=by kernel_rfl
abbrev e58 (r:Bool):List PA:=[.one (.bool r)]
def s58 (x:Int) (low:Int) (high:Int):Bool :=
  (cond (decide (x ≥ low))
   (decide (x≤high))
   false)
theorem q58 (x:Int) (low:Int) (high:Int) (K:List PA→Prop) (hk:K (e58 (s58 x low high))):vcFun Try.prog G58 ann58 58 [.one (.int .i64 x),.one (.int .i64 low),.one (.int .i64 high)] K:=by
  refine ofEq (f58_top x low high K) ?_
  unfold s58 at hk
  exact (condP_gt (K := fun r => K (e58 r))
   (fun hk=>hk)
   (fun hk=>hk) hk)
def ctr58 : List PA → COut
  | [.one (.int .i64 a0),.one (.int .i64 a1),.one (.int .i64 a2)]=>.tot [.one (.bool (s58 a0 a1 a2))]
  | _=>.no
theorem call58:Callable Try.prog 58:=⟨_,rfl,rfl,by kernel_rfl⟩
theorem ok58:Ok Try.prog 58 ctr58:=ok_tab okT58 call58 fun args K h=>by
  unfold ctr58 at h
  split at h
  · rename_i a0 a1 a2
    have hk:=h
    exact ⟨(fun _ _=>[]),(fun _=>false),ann58,q58 a0 a1 a2 K hk⟩
  · exact h.elim
end Go.Proofs
