/- Part 5 of what the proof rests on: a machine that runs functions of the program on pure values, proved sound; the functions that the law reaches, and what they compute. -/
import Derived.Test.YtpjoicpmbdaniaaQ4
set_option linter.all false
namespace Go.Proofs
open Go Go.Pm
set_option maxRecDepth 100000
set_option linter.unusedVariables false
attribute [local irreducible] Go.Pm.vcFun Go.Pm.vc Go.Pm.vcIter
abbrev T59:Tabs:=((Tabs.nil.addF 29 ctr29).addF 58 ctr58)
theorem okT59:TabsOk Try.prog T59:=((TabsOk.nil.addF ok29).addF ok58)
abbrev G59:Ctrs:=csm T59 (fun _ _=>[]) (fun _=>false)
def ann59:Ann:=⟨79,[(0,⟨[0,1],[],[],[],[]⟩),(1,⟨[0,1,5],[],[],[],[]⟩),(2,⟨[0,1,5,10],[],[],[],[]⟩),(3,⟨[0,1,5],[],[],[],[]⟩),(4,⟨[0,1,5,6],[6],[],[],[]⟩),(5,⟨[0,1,5,68],[],[],[],[]⟩),(6,⟨[4],[],[],[],[]⟩),(7,⟨[4],[],[],[],[]⟩)],
  [(2,⟨[0,1,5],[],[],[],[]⟩)],
  [(6,⟨[0,1,5,68],[],[],[],[]⟩)],
  [],[]⟩
def f59_g0 (parts:Int) (l_a1:(Sl FluxRow)) (iv0:Int):St:=⟨[(0,.one (.c (.p (.int .i64 parts)))),(1,.one (.c (.p (.sl l_a1.len 3 (fun i=>enc_44 (l_a1.get i)))))),(5,.one (.c (.p (.int .i64 iv0))))],[],[]⟩
def f59_at0 (K:List PA→Prop) (parts:Int) (l_a1:(Sl FluxRow)) (iv0:Int):Prop:=vc Try.prog G59 ann59 (cdF Try.f59 [1,0,1,0]) (blockK 0 (sqK Try.prog G59 ann59 (cdF Try.f59 [1,1]) (bodyK Try.prog Try.f59 K))) (f59_g0 parts l_a1 iv0)
def f59_g1 (parts:Int) (l_a1:(Sl FluxRow)) (iv1:Int) (t68v1:Bool):St:=⟨[(0,.one (.c (.p (.int .i64 parts)))),(1,.one (.c (.p (.sl l_a1.len 3 (fun i=>enc_44 (l_a1.get i)))))),(5,.one (.c (.p (.int .i64 iv1)))),(68,.one (.c (.p (.bool t68v1))))],[],[]⟩
def f59_at1 (K:List PA→Prop) (X0:St→Prop) (parts:Int) (l_a1:(Sl FluxRow)) (iv1:Int) (t68v1:Bool):Prop:=vc Try.prog G59 ann59 (cdF Try.f59 [1,0,1,0,0,1,0,0,1,1]) (blockK 1 (sqK Try.prog G59 ann59 (cdF Try.f59 [1,0,1,0,0,1,1]) (loopK Try.prog ann59 2 X0 (blockK 0 (sqK Try.prog G59 ann59 (cdF Try.f59 [1,1]) (bodyK Try.prog Try.f59 K)))))) (f59_g1 parts l_a1 iv1 t68v1)
theorem f59_top (parts : Int) (l_a1 : (Sl FluxRow)) (K : List PA → Prop) :
  vcFun Try.prog G59 ann59 59 [.one (.int .i64 parts),.one (.sl l_a1.len 3 (fun i=>enc_44 (l_a1.get i)))] K =
  (f59_at0 K parts l_a1 (0:Int)):=by kernel_rfl
def f59_step0 (K:List PA→Prop) (X0:St→Prop) (parts:Int) (l_a1:(Sl FluxRow)) (iv0:Int):Prop :=
  (condP (decide (iv0 < (l_a1.len : Int)))
   (((0≤iv0∧iv0 < (l_a1.len:Int))) ∧
   (condP (!(s58 ((l_a1.get iv0.toNat).Energy) (1:Int) (1000000:Int)))
    (f59_at1 K X0 parts l_a1 iv0 true)
    (condP (!(s29 ((l_a1.get iv0.toNat).Rate) (0:Int) parts))
     (f59_at1 K X0 parts l_a1 iv0 true)
     (condP (decide (iv0 > (0:Int)))
      (((0≤(w64 (iv0 - (1:Int)))∧(w64 (iv0 - (1:Int))) < (l_a1.len:Int))) ∧
      (condP (decide ((l_a1.get iv0.toNat).Energy ≤ (l_a1.get ((w64 (iv0 - (1:Int))).toNat)).Energy))
       (f59_at1 K X0 parts l_a1 iv0 true)
       (((0≤(w64 (iv0 - (1:Int)))∧(w64 (iv0 - (1:Int))) < (l_a1.len:Int))) ∧
       (condP (decide ((l_a1.get iv0.toNat).Rate.Low > (l_a1.get ((w64 (iv0 - (1:Int))).toNat)).Rate.Low))
        (f59_at1 K X0 parts l_a1 iv0 true)
        (((0≤(w64 (iv0 - (1:Int)))∧(w64 (iv0 - (1:Int))) < (l_a1.len:Int))) ∧
        (f59_at1 K X0 parts l_a1 iv0 (decide ((l_a1.get iv0.toNat).Rate.High > (l_a1.get ((w64 (iv0 - (1:Int))).toNat)).Rate.High))))))))
      (f59_at1 K X0 parts l_a1 iv0 false)))))
   (condP (s58 (l_a1.len : Int) (1:Int) (40:Int))
    (((0≤(0:Int)∧(0:Int) < (l_a1.len:Int))) ∧
    (K [.one (.bool ((l_a1.get 0).Energy == (1:Int)))]))
    (K [.one (.bool false)])))
theorem f59_stepeq0 (K : List PA → Prop) (X0 : St → Prop) (parts : Int) (l_a1 : (Sl FluxRow)) (iv0 : Int) :
  vc Try.prog G59 ann59 (cd (cdF Try.f59 [1,0,1,0]) [0]) (loopK Try.prog ann59 2 X0 (blockK 0 (sqK Try.prog G59 ann59 (cdF Try.f59 [1,1]) (bodyK Try.prog Try.f59 K)))) (f59_g0 parts l_a1 iv0) =
  f59_step0 K X0 parts l_a1 iv0:=by kernel_rfl
theorem f59_loop0 (K : List PA → Prop) (parts : Int) (l_a1 : (Sl FluxRow)) (iv0 : Int)
  (h:∀ X0:St→Prop,(∀ (iv0:Int),f59_step0 K X0 parts l_a1 iv0→X0 (f59_g0 parts l_a1 iv0))→X0 (f59_g0 parts l_a1 iv0)) :
  f59_at0 K parts l_a1 iv0:=by
  have e:f59_at0 K parts l_a1 iv0=(∀ X:St→Prop,(∀ s,vc Try.prog G59 ann59 (cd (cdF Try.f59 [1,0,1,0]) [0]) (loopK Try.prog ann59 2 X (blockK 0 (sqK Try.prog G59 ann59 (cdF Try.f59 [1,1]) (bodyK Try.prog Try.f59 K)))) s→X s)→X (f59_g0 parts l_a1 iv0)):=by kernel_rfl
  refine ofEq e ?_
  intro X hX
  refine h X ?_
  intro iv0 hs
  refine hX _ ?_
  have e2:=f59_stepeq0 K X parts l_a1 iv0
  rw [e2]
  exact hs
theorem f59_eq1 (K : List PA → Prop) (X0 : St → Prop) (parts : Int) (l_a1 : (Sl FluxRow)) (iv1 : Int) (t68v1 : Bool) :
  f59_at1 K X0 parts l_a1 iv1 t68v1 =
  (condP t68v1
   (K [.one (.bool false)])
   (X0 (f59_g0 parts l_a1 (w64 (iv1+(1:Int)))))):=by kernel_rfl
abbrev e59 (r:Bool):List PA:=[.one (.bool r)]
attribute [irreducible] f59_at0 f59_at1
def s59_at1 (S0:Int→Bool) (parts:Int) (l_a1:(Sl FluxRow)) (iv1:Int) (t68v1:Bool):Bool :=
  (cond t68v1
   false
   (S0 (w64 (iv1+(1:Int)))))
def p59_at1 (P0:Int→Bool) (parts:Int) (l_a1:(Sl FluxRow)) (iv1:Int) (t68v1:Bool):Bool :=
  (cond t68v1
   true
   (P0 (w64 (iv1+(1:Int)))))
theorem q59_at1 (K : List PA → Prop) (parts : Int) (l_a1 : (Sl FluxRow))
  (X0:St→Prop) (P0:Int→Bool) (S0:Int→Bool)
  (hX0:∀ (iv0:Int),P0 iv0=true→K (e59 (S0 iv0))→X0 (f59_g0 parts l_a1 iv0)) (iv1:Int) (t68v1:Bool) (hs:p59_at1 P0 parts l_a1 iv1 t68v1=true) (hk:K (e59 (s59_at1 S0 parts l_a1 iv1 t68v1))):f59_at1 K X0 parts l_a1 iv1 t68v1:=by
  refine ofEq (f59_eq1 K X0 parts l_a1 iv1 t68v1) ?_
  unfold p59_at1 at hs
  unfold s59_at1 at hk
  exact (condB_go (K := fun r => K (e59 r))
   (fun hs hk=>hk)
   (fun hs hk=>(hX0 (w64 (iv1+(1:Int))) hs hk)) hs hk)
def s59_st0 (parts:Int) (l_a1:(Sl FluxRow)) (S0:Int→Bool) (iv0:Int):Bool :=
  (cond (decide (iv0 < (l_a1.len : Int)))
   (cond (!(s58 ((l_a1.get iv0.toNat).Energy) (1:Int) (1000000:Int)))
    (s59_at1 S0 parts l_a1 iv0 true)
    (cond (!(s29 ((l_a1.get iv0.toNat).Rate) (0:Int) parts))
     (s59_at1 S0 parts l_a1 iv0 true)
     (cond (decide (iv0 > (0:Int)))
      (cond (decide ((l_a1.get iv0.toNat).Energy ≤ (l_a1.get ((w64 (iv0 - (1:Int))).toNat)).Energy))
       (s59_at1 S0 parts l_a1 iv0 true)
       (cond (decide ((l_a1.get iv0.toNat).Rate.Low > (l_a1.get ((w64 (iv0 - (1:Int))).toNat)).Rate.Low))
        (s59_at1 S0 parts l_a1 iv0 true)
        (s59_at1 S0 parts l_a1 iv0 (decide ((l_a1.get iv0.toNat).Rate.High > (l_a1.get ((w64 (iv0 - (1:Int))).toNat)).Rate.High)))))
      (s59_at1 S0 parts l_a1 iv0 false))))
   (cond (s58 (l_a1.len : Int) (1:Int) (40:Int))
    ((l_a1.get 0).Energy == (1:Int))
    false))
def p59_st0 (parts:Int) (l_a1:(Sl FluxRow)) (P0:Int→Bool) (iv0:Int):Bool :=
  (cond (decide (iv0 < (l_a1.len : Int)))
   (decide ((0≤iv0∧iv0 < (l_a1.len:Int))) &&
   (cond (!(s58 ((l_a1.get iv0.toNat).Energy) (1:Int) (1000000:Int)))
    (p59_at1 P0 parts l_a1 iv0 true)
    (cond (!(s29 ((l_a1.get iv0.toNat).Rate) (0:Int) parts))
     (p59_at1 P0 parts l_a1 iv0 true)
     (cond (decide (iv0 > (0:Int)))
      (decide ((0≤(w64 (iv0 - (1:Int)))∧(w64 (iv0 - (1:Int))) < (l_a1.len:Int))) &&
      (cond (decide ((l_a1.get iv0.toNat).Energy ≤ (l_a1.get ((w64 (iv0 - (1:Int))).toNat)).Energy))
       (p59_at1 P0 parts l_a1 iv0 true)
       (decide ((0≤(w64 (iv0 - (1:Int)))∧(w64 (iv0 - (1:Int))) < (l_a1.len:Int))) &&
       (cond (decide ((l_a1.get iv0.toNat).Rate.Low > (l_a1.get ((w64 (iv0 - (1:Int))).toNat)).Rate.Low))
        (p59_at1 P0 parts l_a1 iv0 true)
        (decide ((0≤(w64 (iv0 - (1:Int)))∧(w64 (iv0 - (1:Int))) < (l_a1.len:Int))) &&
        (p59_at1 P0 parts l_a1 iv0 (decide ((l_a1.get iv0.toNat).Rate.High > (l_a1.get ((w64 (iv0 - (1:Int))).toNat)).Rate.High))))))))
      (p59_at1 P0 parts l_a1 iv0 false)))))
   (cond (s58 (l_a1.len : Int) (1:Int) (40:Int))
    (decide ((0≤(0:Int)∧(0:Int) < (l_a1.len:Int))) &&
    true)
    true))
def s59_lp0 (parts : Int) (l_a1 : (Sl FluxRow)) : Nat → Int → Bool
  | 0=>fun _=>default
  | k+1=>s59_st0 parts l_a1 (s59_lp0 parts l_a1 k)
def p59_lp0 (parts : Int) (l_a1 : (Sl FluxRow)) : Nat → Int → Bool
  | 0=>fun _=>false
  | k+1=>p59_st0 parts l_a1 (p59_lp0 parts l_a1 k)
def s59_at0 (parts:Int) (l_a1:(Sl FluxRow)) (iv0:Int):Bool:=s59_lp0 parts l_a1 Fuel iv0
def p59_at0 (parts:Int) (l_a1:(Sl FluxRow)) (iv0:Int):Bool:=p59_lp0 parts l_a1 Fuel iv0
theorem q59_at0 (K:List PA→Prop) (parts:Int) (l_a1:(Sl FluxRow)) (iv0:Int) (hs:p59_at0 parts l_a1 iv0=true) (hk:K (e59 (s59_at0 parts l_a1 iv0))):f59_at0 K parts l_a1 iv0:=by
  refine f59_loop0 K parts l_a1 iv0 ?_
  intro X0 hstep
  have key:∀ (k:Nat) (iv0:Int),p59_lp0 parts l_a1 k iv0=true→K (e59 (s59_lp0 parts l_a1 k iv0))→X0 (f59_g0 parts l_a1 iv0):=by
    intro k
    induction k with
    | zero=>intro iv0 hs;exact absurd hs Bool.false_ne_true
    | succ k ih =>
      intro iv0 hs hk
      refine hstep iv0 ?_
      have hs:p59_st0 parts l_a1 (p59_lp0 parts l_a1 k) iv0=true:=hs
      have hk:K (e59 (s59_st0 parts l_a1 (s59_lp0 parts l_a1 k) iv0)):=hk
      unfold p59_st0 at hs
      unfold s59_st0 at hk
      generalize s59_lp0 parts l_a1 k=S0 at hk ih
      generalize p59_lp0 parts l_a1 k=P0 at hs ih
      have hX0:=ih
      exact (condB_go (K := fun r => K (e59 r))
       (fun hs hk => (andK hs fun hc hs => ⟨hc, (condB_go (K := fun r => K (e59 r))
        (fun hs hk=>(q59_at1 K parts l_a1 X0 P0 S0 hX0 iv0 true hs hk))
        (fun hs hk => (condB_go (K := fun r => K (e59 r))
         (fun hs hk=>(q59_at1 K parts l_a1 X0 P0 S0 hX0 iv0 true hs hk))
         (fun hs hk => (condB_go (K := fun r => K (e59 r))
          (fun hs hk => (andK hs fun hc hs => ⟨hc, (condB_go (K := fun r => K (e59 r))
           (fun hs hk=>(q59_at1 K parts l_a1 X0 P0 S0 hX0 iv0 true hs hk))
           (fun hs hk => (andK hs fun hc hs => ⟨hc, (condB_go (K := fun r => K (e59 r))
            (fun hs hk=>(q59_at1 K parts l_a1 X0 P0 S0 hX0 iv0 true hs hk))
            (fun hs hk=>(andK hs fun hc hs=>⟨hc,(q59_at1 K parts l_a1 X0 P0 S0 hX0 iv0 (decide ((l_a1.get iv0.toNat).Rate.High > (l_a1.get ((w64 (iv0 - (1:Int))).toNat)).Rate.High)) hs hk)⟩)) hs hk)⟩)) hs hk)⟩))
          (fun hs hk=>(q59_at1 K parts l_a1 X0 P0 S0 hX0 iv0 false hs hk)) hs hk)) hs hk)) hs hk)⟩))
       (fun hs hk => (condB_go (K := fun r => K (e59 r))
        (fun hs hk=>(andK hs fun hc hs=>⟨hc,hk⟩))
        (fun hs hk=>hk) hs hk)) hs hk)
  exact key _ iv0 hs hk
def s59 (parts:Int) (l_a1:(Sl FluxRow)):Bool :=
  (s59_at0 parts l_a1 (0:Int))
def p59 (parts:Int) (l_a1:(Sl FluxRow)):Bool :=
  (p59_at0 parts l_a1 (0:Int))
theorem q59 (parts:Int) (l_a1:(Sl FluxRow)) (K:List PA→Prop) (hs:p59 parts l_a1=true) (hk:K (e59 (s59 parts l_a1))):vcFun Try.prog G59 ann59 59 [.one (.int .i64 parts),.one (.sl l_a1.len 3 (fun i=>enc_44 (l_a1.get i)))] K:=by
  refine ofEq (f59_top parts l_a1 K) ?_
  unfold p59 at hs
  unfold s59 at hk
  exact (q59_at0 K parts l_a1 (0:Int) hs hk)
def ctr59 : List PA → COut
  | [.one (.int .i64 a0),.one (.sl a1_n a1_s a1_g)]=>.det (IsE enc_44 3 a1_s a1_g∧p59 a0 (⟨a1_n,decF_44 a1_g⟩:(Sl FluxRow))=true) [.one (.bool (s59 a0 (⟨a1_n,decF_44 a1_g⟩:(Sl FluxRow))))]
  | _=>.no
theorem call59:Callable Try.prog 59:=⟨_,rfl,rfl,by kernel_rfl⟩
theorem ok59:Ok Try.prog 59 ctr59:=ok_tab okT59 call59 fun args K h=>by
  unfold ctr59 at h
  split at h
  · rename_i a0 a1_n a1_s a1_g
    obtain ⟨⟨⟨rfl,a1_f,rfl⟩,hs⟩,hk⟩:=h
    try rw [decF_enc_44 a1_f] at hs
    try rw [decF_enc_44 a1_f] at hk
    exact ⟨(fun _ _=>[]),(fun _=>false),ann59,q59 a0 (⟨a1_n,a1_f⟩:(Sl FluxRow)) K hs hk⟩
  · exact h.elim
abbrev T16:Tabs:=(((Tabs.nil.addF 29 ctr29).addF 58 ctr58).addF 59 ctr59)
theorem okT16:TabsOk Try.prog T16:=(((TabsOk.nil.addF ok29).addF ok58).addF ok59)
abbrev G16:Ctrs:=csm T16 (fun _ _=>[]) (fun _=>false)
def ann16:Ann:=⟨43,[(0,⟨[1],[1],[],[],[]⟩),(1,⟨[1,26],[1],[],[],[]⟩),(2,⟨[2],[],[],[],[]⟩),(3,⟨[1,3],[1],[],[],[]⟩),(4,⟨[1,3,31],[1],[],[],[]⟩),(5,⟨[1,3],[1],[],[],[]⟩),(6,⟨[1,3,42],[1],[],[],[]⟩),(7,⟨[2],[],[],[],[]⟩),(8,⟨[2],[],[],[],[]⟩)],
  [(4,⟨[1,3],[1],[],[],[]⟩)],
  [(2,⟨[1,26],[1],[],[],[]⟩),(3,⟨[1],[1],[],[],[]⟩),(7,⟨[1,3,42],[1],[],[],[]⟩)],
  [],[]⟩
def f16_g0 (s:Sky) (t26v0:Bool) (s_1v0_n:Nat) (s_1v0_g:Nat→List PV):St:=⟨[(1,.one (.c (.ptr 1 0))),(26,.one (.c (.p (.bool t26v0))))],[(1,.box 26 [.p (.int .i64 s.Parts),.p (.sl s_1v0_n 1 s_1v0_g),.p (.int .i64 s.Beta.Low),.p (.int .i64 s.Beta.High),.p (.int .i64 s.Alpha.Low),.p (.int .i64 s.Alpha.High)])],[]⟩
def f16_at0 (K:List PA→Prop) (s:Sky) (t26v0:Bool) (s_1v0_n:Nat) (s_1v0_g:Nat→List PV):Prop:=vc Try.prog G16 ann16 (cdF Try.f16 [1,0,1]) (sqK Try.prog G16 ann16 (cdF Try.f16 [1,1]) (bodyK Try.prog Try.f16 K)) (f16_g0 s t26v0 s_1v0_n s_1v0_g)
def f16_g1 (s:Sky) (s_1v1_n:Nat) (s_1v1_g:Nat→List PV):St:=⟨[(1,.one (.c (.ptr 1 0)))],[(1,.box 26 [.p (.int .i64 s.Parts),.p (.sl s_1v1_n 1 s_1v1_g),.p (.int .i64 s.Beta.Low),.p (.int .i64 s.Beta.High),.p (.int .i64 s.Alpha.Low),.p (.int .i64 s.Alpha.High)])],[]⟩
def f16_at1 (K:List PA→Prop) (s:Sky) (s_1v1_n:Nat) (s_1v1_g:Nat→List PV):Prop:=vc Try.prog G16 ann16 (cdF Try.f16 [1,1]) (bodyK Try.prog Try.f16 K) (f16_g1 s s_1v1_n s_1v1_g)
def f16_g2 (s:Sky) (iv2:Int) (s_1v2_n:Nat) (s_1v2_g:Nat→List PV):St:=⟨[(1,.one (.c (.ptr 1 0))),(3,.one (.c (.p (.int .i64 iv2))))],[(1,.box 26 [.p (.int .i64 s.Parts),.p (.sl s_1v2_n 1 s_1v2_g),.p (.int .i64 s.Beta.Low),.p (.int .i64 s.Beta.High),.p (.int .i64 s.Alpha.Low),.p (.int .i64 s.Alpha.High)])],[]⟩
def f16_at2 (K:List PA→Prop) (s:Sky) (iv2:Int) (s_1v2_n:Nat) (s_1v2_g:Nat→List PV):Prop:=vc Try.prog G16 ann16 (cdF Try.f16 [1,1,0,1,0]) (blockK 0 (sqK Try.prog G16 ann16 (cdF Try.f16 [1,1,1]) (bodyK Try.prog Try.f16 K))) (f16_g2 s iv2 s_1v2_n s_1v2_g)
def f16_g3 (s:Sky) (iv3:Int) (t42v3:Bool) (s_1v3_n:Nat) (s_1v3_g:Nat→List PV):St:=⟨[(1,.one (.c (.ptr 1 0))),(3,.one (.c (.p (.int .i64 iv3)))),(42,.one (.c (.p (.bool t42v3))))],[(1,.box 26 [.p (.int .i64 s.Parts),.p (.sl s_1v3_n 1 s_1v3_g),.p (.int .i64 s.Beta.Low),.p (.int .i64 s.Beta.High),.p (.int .i64 s.Alpha.Low),.p (.int .i64 s.Alpha.High)])],[]⟩
def f16_at3 (K:List PA→Prop) (X2:St→Prop) (s:Sky) (iv3:Int) (t42v3:Bool) (s_1v3_n:Nat) (s_1v3_g:Nat→List PV):Prop:=vc Try.prog G16 ann16 (cdF Try.f16 [1,1,0,1,0,0,1,0,0,1]) (blockK 1 (sqK Try.prog G16 ann16 (cdF Try.f16 [1,1,0,1,0,0,1,1]) (loopK Try.prog ann16 4 X2 (blockK 0 (sqK Try.prog G16 ann16 (cdF Try.f16 [1,1,1]) (bodyK Try.prog Try.f16 K)))))) (f16_g3 s iv3 t42v3 s_1v3_n s_1v3_g)
theorem f16_top (s : Sky) (K : List PA → Prop) :
  vcFun Try.prog G16 ann16 16 [.agg [.int .i64 s.Parts,.sl s.Bins.len 1 (fun i=>enc_32 (s.Bins.get i)),.int .i64 s.Beta.Low,.int .i64 s.Beta.High,.int .i64 s.Alpha.Low,.int .i64 s.Alpha.High]] K =
  (condP (!(s58 s.Parts (2:Int) (1000000:Int)))
   (f16_at0 K s true s.Bins.len (fun i=>enc_32 (s.Bins.get i)))
   (condP (!(s58 (s.Bins.len : Int) (1:Int) (20:Int)))
    (f16_at0 K s true s.Bins.len (fun i=>enc_32 (s.Bins.get i)))
    (condP (!(s29 s.Beta (-100:Int) (100:Int)))
     (f16_at0 K s true s.Bins.len (fun i=>enc_32 (s.Bins.get i)))
     (f16_at0 K s (!(s29 s.Alpha (-100:Int) (100:Int))) s.Bins.len (fun i=>enc_32 (s.Bins.get i)))))):=by kernel_rfl
theorem f16_eq0 (K : List PA → Prop) (s : Sky) (t26v0 : Bool) (s_1v0 : (Sl (Sl FluxRow))) :
  f16_at0 K s t26v0 s_1v0.len (fun i=>enc_32 (s_1v0.get i)) =
  (condP t26v0
   (K [.one (.bool false)])
   (f16_at1 K s s_1v0.len (fun i=>enc_32 (s_1v0.get i)))):=by kernel_rfl
theorem f16_eq1 (K : List PA → Prop) (s : Sky) (s_1v1 : (Sl (Sl FluxRow))) :
  f16_at1 K s s_1v1.len (fun i=>enc_32 (s_1v1.get i)) =
  (f16_at2 K s (0:Int) s_1v1.len (fun i=>enc_32 (s_1v1.get i))):=by kernel_rfl
def f16_step2 (K:List PA→Prop) (X2:St→Prop) (s:Sky) (iv2:Int) (s_1v2:(Sl (Sl FluxRow))):Prop :=
  (condP (decide (iv2 < (s_1v2.len : Int)))
   (((0≤iv2∧iv2 < (s_1v2.len:Int))) ∧
   ((IsE enc_44 3 3 (fun i=>enc_44 ((s_1v2.get iv2.toNat).get i))∧(p59 s.Parts (s_1v2.get iv2.toNat)=true)) ∧
   (f16_at3 K X2 s iv2 (!(s59 s.Parts (s_1v2.get iv2.toNat))) s_1v2.len (fun i=>enc_32 (s_1v2.get i)))))
   (K [.one (.bool true)]))
theorem f16_stepeq2 (K : List PA → Prop) (X2 : St → Prop) (s : Sky) (iv2 : Int) (s_1v2 : (Sl (Sl FluxRow))) :
  vc Try.prog G16 ann16 (cd (cdF Try.f16 [1,1,0,1,0]) [0]) (loopK Try.prog ann16 4 X2 (blockK 0 (sqK Try.prog G16 ann16 (cdF Try.f16 [1,1,1]) (bodyK Try.prog Try.f16 K)))) (f16_g2 s iv2 s_1v2.len (fun i=>enc_32 (s_1v2.get i))) =
  f16_step2 K X2 s iv2 s_1v2:=by kernel_rfl
theorem f16_loop2 (K : List PA → Prop) (s : Sky) (iv2 : Int) (s_1v2_n : Nat) (s_1v2_g : Nat → List PV)
  (h:∀ X2:St→Prop,(∀ (iv2:Int) (s_1v2:(Sl (Sl FluxRow))),f16_step2 K X2 s iv2 s_1v2→X2 (f16_g2 s iv2 s_1v2.len (fun i=>enc_32 (s_1v2.get i))))→X2 (f16_g2 s iv2 s_1v2_n s_1v2_g)) :
  f16_at2 K s iv2 s_1v2_n s_1v2_g:=by
  have e:f16_at2 K s iv2 s_1v2_n s_1v2_g=(∀ X:St→Prop,(∀ s,vc Try.prog G16 ann16 (cd (cdF Try.f16 [1,1,0,1,0]) [0]) (loopK Try.prog ann16 4 X (blockK 0 (sqK Try.prog G16 ann16 (cdF Try.f16 [1,1,1]) (bodyK Try.prog Try.f16 K)))) s→X s)→X (f16_g2 s iv2 s_1v2_n s_1v2_g)):=by kernel_rfl
  refine ofEq e ?_
  intro X hX
  refine h X ?_
  intro iv2 s_1v2 hs
  refine hX _ ?_
  have e2:=f16_stepeq2 K X s iv2 s_1v2
  rw [e2]
  exact hs
theorem f16_eq3 (K : List PA → Prop) (X2 : St → Prop) (s : Sky) (iv3 : Int) (t42v3 : Bool) (s_1v3 : (Sl (Sl FluxRow))) :
  f16_at3 K X2 s iv3 t42v3 s_1v3.len (fun i=>enc_32 (s_1v3.get i)) =
  (condP t42v3
   (K [.one (.bool false)])
   (X2 (f16_g2 s (w64 (iv3+(1:Int))) s_1v3.len (fun i=>enc_32 (s_1v3.get i))))):=by kernel_rfl
abbrev e16 (r:Bool):List PA:=[.one (.bool r)]
attribute [irreducible] f16_at0 f16_at1 f16_at2 f16_at3
def s16_at3 (S2:Int→(Sl (Sl FluxRow))→Bool) (s:Sky) (iv3:Int) (t42v3:Bool) (s_1v3:(Sl (Sl FluxRow))):Bool :=
  (cond t42v3
   false
   (S2 (w64 (iv3+(1:Int))) s_1v3))
def p16_at3 (P2:Int→(Sl (Sl FluxRow))→Bool) (s:Sky) (iv3:Int) (t42v3:Bool) (s_1v3:(Sl (Sl FluxRow))):Bool :=
  (cond t42v3
   true
   (P2 (w64 (iv3+(1:Int))) s_1v3))
theorem q16_at3 (K : List PA → Prop) (s : Sky)
  (X2:St→Prop) (P2:Int→(Sl (Sl FluxRow))→Bool) (S2:Int→(Sl (Sl FluxRow))→Bool)
  (hX2:∀ (iv2:Int) (s_1v2:(Sl (Sl FluxRow))) (s_1v2_g:Nat→List PV) (s_1v2_h:s_1v2_g=fun i=>enc_32 (s_1v2.get i)),P2 iv2 s_1v2=true→K (e16 (S2 iv2 s_1v2))→X2 (f16_g2 s iv2 s_1v2.len s_1v2_g)) (iv3:Int) (t42v3:Bool) (s_1v3:(Sl (Sl FluxRow))) (s_1v3_g:Nat→List PV) (s_1v3_h:s_1v3_g=fun i=>enc_32 (s_1v3.get i)) (hs:p16_at3 P2 s iv3 t42v3 s_1v3=true) (hk:K (e16 (s16_at3 S2 s iv3 t42v3 s_1v3))):f16_at3 K X2 s iv3 t42v3 s_1v3.len s_1v3_g:=by
  subst s_1v3_h
  refine ofEq (f16_eq3 K X2 s iv3 t42v3 s_1v3) ?_
  unfold p16_at3 at hs
  unfold s16_at3 at hk
  exact (condB_go (K := fun r => K (e16 r))
   (fun hs hk=>hk)
   (fun hs hk=>(hX2 (w64 (iv3+(1:Int))) s_1v3 (fun i=>enc_32 (s_1v3.get i)) rfl hs hk)) hs hk)
def s16_st2 (s:Sky) (S2:Int→(Sl (Sl FluxRow))→Bool) (iv2:Int) (s_1v2:(Sl (Sl FluxRow))):Bool :=
  (cond (decide (iv2 < (s_1v2.len : Int)))
   (s16_at3 S2 s iv2 (!(s59 s.Parts (s_1v2.get iv2.toNat))) s_1v2)
   true)
def p16_st2 (s:Sky) (P2:Int→(Sl (Sl FluxRow))→Bool) (iv2:Int) (s_1v2:(Sl (Sl FluxRow))):Bool :=
  (cond (decide (iv2 < (s_1v2.len : Int)))
   (decide ((0≤iv2∧iv2 < (s_1v2.len:Int))) &&
   (decide ((p59 s.Parts (s_1v2.get iv2.toNat)=true)) &&
   (p16_at3 P2 s iv2 (!(s59 s.Parts (s_1v2.get iv2.toNat))) s_1v2)))
   true)
def s16_lp2 (s : Sky) : Nat → Int → (Sl (Sl FluxRow)) → Bool
  | 0=>fun _ _=>default
  | k+1=>s16_st2 s (s16_lp2 s k)
def p16_lp2 (s : Sky) : Nat → Int → (Sl (Sl FluxRow)) → Bool
  | 0=>fun _ _=>false
  | k+1=>p16_st2 s (p16_lp2 s k)
def s16_at2 (s:Sky) (iv2:Int) (s_1v2:(Sl (Sl FluxRow))):Bool:=s16_lp2 s Fuel iv2 s_1v2
def p16_at2 (s:Sky) (iv2:Int) (s_1v2:(Sl (Sl FluxRow))):Bool:=p16_lp2 s Fuel iv2 s_1v2
theorem q16_at2 (K:List PA→Prop) (s:Sky) (iv2:Int) (s_1v2:(Sl (Sl FluxRow))) (s_1v2_g:Nat→List PV) (s_1v2_h:s_1v2_g=fun i=>enc_32 (s_1v2.get i)) (hs:p16_at2 s iv2 s_1v2=true) (hk:K (e16 (s16_at2 s iv2 s_1v2))):f16_at2 K s iv2 s_1v2.len s_1v2_g:=by
  refine f16_loop2 K s iv2 s_1v2.len s_1v2_g ?_
  intro X2 hstep
  have key:∀ (k:Nat) (iv2:Int) (s_1v2:(Sl (Sl FluxRow))) (s_1v2_g:Nat→List PV) (s_1v2_h:s_1v2_g=fun i=>enc_32 (s_1v2.get i)),p16_lp2 s k iv2 s_1v2=true→K (e16 (s16_lp2 s k iv2 s_1v2))→X2 (f16_g2 s iv2 s_1v2.len s_1v2_g):=by
    intro k
    induction k with
    | zero=>intro iv2 s_1v2 s_1v2_g s_1v2_h hs;exact absurd hs Bool.false_ne_true
    | succ k ih =>
      intro iv2 s_1v2 s_1v2_g s_1v2_h hs hk
      subst s_1v2_h
      refine hstep iv2 s_1v2 ?_
      have hs:p16_st2 s (p16_lp2 s k) iv2 s_1v2=true:=hs
      have hk:K (e16 (s16_st2 s (s16_lp2 s k) iv2 s_1v2)):=hk
      unfold p16_st2 at hs
      unfold s16_st2 at hk
      generalize s16_lp2 s k=S2 at hk ih
      generalize p16_lp2 s k=P2 at hs ih
      have hX2:=ih
      exact (condB_go (K := fun r => K (e16 r))
       (fun hs hk=>(andK hs fun hc hs=>⟨hc,(andK hs fun hc hs=>⟨⟨isE,hc⟩,(q16_at3 K s X2 P2 S2 hX2 iv2 (!(s59 s.Parts (s_1v2.get iv2.toNat))) s_1v2 (fun i=>enc_32 (s_1v2.get i)) rfl hs hk)⟩)⟩))
       (fun hs hk=>hk) hs hk)
  exact key _ iv2 s_1v2 s_1v2_g s_1v2_h hs hk
def s16_at1 (s:Sky) (s_1v1:(Sl (Sl FluxRow))):Bool :=
  (s16_at2 s (0:Int) s_1v1)
def p16_at1 (s:Sky) (s_1v1:(Sl (Sl FluxRow))):Bool :=
  (p16_at2 s (0:Int) s_1v1)
theorem q16_at1 (K:List PA→Prop) (s:Sky) (s_1v1:(Sl (Sl FluxRow))) (s_1v1_g:Nat→List PV) (s_1v1_h:s_1v1_g=fun i=>enc_32 (s_1v1.get i)) (hs:p16_at1 s s_1v1=true) (hk:K (e16 (s16_at1 s s_1v1))):f16_at1 K s s_1v1.len s_1v1_g:=by
  subst s_1v1_h
  refine ofEq (f16_eq1 K s s_1v1) ?_
  unfold p16_at1 at hs
  unfold s16_at1 at hk
  exact (q16_at2 K s (0:Int) s_1v1 (fun i=>enc_32 (s_1v1.get i)) rfl hs hk)
def s16_at0 (s:Sky) (t26v0:Bool) (s_1v0:(Sl (Sl FluxRow))):Bool :=
  (cond t26v0
   false
   (s16_at1 s s_1v0))
def p16_at0 (s:Sky) (t26v0:Bool) (s_1v0:(Sl (Sl FluxRow))):Bool :=
  (cond t26v0
   true
   (p16_at1 s s_1v0))
theorem q16_at0 (K:List PA→Prop) (s:Sky) (t26v0:Bool) (s_1v0:(Sl (Sl FluxRow))) (s_1v0_g:Nat→List PV) (s_1v0_h:s_1v0_g=fun i=>enc_32 (s_1v0.get i)) (hs:p16_at0 s t26v0 s_1v0=true) (hk:K (e16 (s16_at0 s t26v0 s_1v0))):f16_at0 K s t26v0 s_1v0.len s_1v0_g:=by
  subst s_1v0_h
  refine ofEq (f16_eq0 K s t26v0 s_1v0) ?_
  unfold p16_at0 at hs
  unfold s16_at0 at hk
  exact (condB_go (K := fun r => K (e16 r))
   (fun hs hk=>hk)
   (fun hs hk=>(q16_at1 K s s_1v0 (fun i=>enc_32 (s_1v0.get i)) rfl hs hk)) hs hk)
def s16 (s:Sky):Bool :=
  (cond (!(s58 s.Parts (2:Int) (1000000:Int)))
   (s16_at0 s true s.Bins)
   (cond (!(s58 (s.Bins.len : Int) (1:Int) (20:Int)))
    (s16_at0 s true s.Bins)
    (cond (!(s29 s.Beta (-100:Int) (100:Int)))
     (s16_at0 s true s.Bins)
     (s16_at0 s (!(s29 s.Alpha (-100:Int) (100:Int))) s.Bins))))
def p16 (s:Sky):Bool :=
  (cond (!(s58 s.Parts (2:Int) (1000000:Int)))
   (p16_at0 s true s.Bins)
   (cond (!(s58 (s.Bins.len : Int) (1:Int) (20:Int)))
    (p16_at0 s true s.Bins)
    (cond (!(s29 s.Beta (-100:Int) (100:Int)))
     (p16_at0 s true s.Bins)
     (p16_at0 s (!(s29 s.Alpha (-100:Int) (100:Int))) s.Bins))))
theorem q16 (s:Sky) (K:List PA→Prop) (hs:p16 s=true) (hk:K (e16 (s16 s))):vcFun Try.prog G16 ann16 16 [.agg [.int .i64 s.Parts,.sl s.Bins.len 1 (fun i=>enc_32 (s.Bins.get i)),.int .i64 s.Beta.Low,.int .i64 s.Beta.High,.int .i64 s.Alpha.Low,.int .i64 s.Alpha.High]] K:=by
  refine ofEq (f16_top s K) ?_
  unfold p16 at hs
  unfold s16 at hk
  exact (condB_go (K := fun r => K (e16 r))
   (fun hs hk=>(q16_at0 K s true s.Bins (fun i=>enc_32 (s.Bins.get i)) rfl hs hk))
   (fun hs hk => (condB_go (K := fun r => K (e16 r))
    (fun hs hk=>(q16_at0 K s true s.Bins (fun i=>enc_32 (s.Bins.get i)) rfl hs hk))
    (fun hs hk => (condB_go (K := fun r => K (e16 r))
     (fun hs hk=>(q16_at0 K s true s.Bins (fun i=>enc_32 (s.Bins.get i)) rfl hs hk))
     (fun hs hk=>(q16_at0 K s (!(s29 s.Alpha (-100:Int) (100:Int))) s.Bins (fun i=>enc_32 (s.Bins.get i)) rfl hs hk)) hs hk)) hs hk)) hs hk)
def ctr16 : List PA → COut
  | [.agg [.int .i64 a0_Parts,.sl a0_Bins_n a0_Bins_s a0_Bins_g,.int .i64 a0_Beta_Low,.int .i64 a0_Beta_High,.int .i64 a0_Alpha_Low,.int .i64 a0_Alpha_High]]=>.det (IsE enc_32 1 a0_Bins_s a0_Bins_g∧p16 (⟨a0_Parts,(⟨a0_Bins_n,decF_32 a0_Bins_g⟩:(Sl (Sl FluxRow))),(⟨a0_Beta_Low,a0_Beta_High⟩:Span),(⟨a0_Alpha_Low,a0_Alpha_High⟩:Span)⟩:Sky)=true) [.one (.bool (s16 (⟨a0_Parts,(⟨a0_Bins_n,decF_32 a0_Bins_g⟩:(Sl (Sl FluxRow))),(⟨a0_Beta_Low,a0_Beta_High⟩:Span),(⟨a0_Alpha_Low,a0_Alpha_High⟩:Span)⟩:Sky)))]
  | _=>.no
theorem call16:Callable Try.prog 16:=⟨_,rfl,rfl,by kernel_rfl⟩
theorem ok16:Ok Try.prog 16 ctr16:=ok_tab okT16 call16 fun args K h=>by
  unfold ctr16 at h
  split at h
  · rename_i a0_Parts a0_Bins_n a0_Bins_s a0_Bins_g a0_Beta_Low a0_Beta_High a0_Alpha_Low a0_Alpha_High
    obtain ⟨⟨⟨rfl,a0_Bins_f,rfl⟩,hs⟩,hk⟩:=h
    try rw [decF_enc_32 a0_Bins_f] at hs
    try rw [decF_enc_32 a0_Bins_f] at hk
    exact ⟨(fun _ _=>[]),(fun _=>false),ann16,q16 (⟨a0_Parts,(⟨a0_Bins_n,a0_Bins_f⟩:(Sl (Sl FluxRow))),(⟨a0_Beta_Low,a0_Beta_High⟩:Span),(⟨a0_Alpha_Low,a0_Alpha_High⟩:Span)⟩:Sky) K hs hk⟩
  · exact h.elim
abbrev T17:Tabs:=((Tabs.nil.addF 29 ctr29).addF 58 ctr58)
theorem okT17:TabsOk Try.prog T17:=((TabsOk.nil.addF ok29).addF ok58)
abbrev G17:Ctrs:=csm T17 (fun _ _=>[]) (fun _=>false)
def ann17:Ann:=⟨69,[(0,⟨[0],[],[],[],[]⟩),(1,⟨[0,3],[],[],[],[]⟩),(2,⟨[0,3,8],[],[],[],[]⟩),(3,⟨[0,3],[],[],[],[]⟩),(4,⟨[0,3,4],[4],[],[],[]⟩),(5,⟨[0,3,65],[],[],[],[]⟩),(6,⟨[2],[],[],[],[]⟩),(7,⟨[2],[],[],[],[]⟩)],
  [(2,⟨[0,3],[],[],[],[]⟩)],
  [(6,⟨[0,3,65],[],[],[],[]⟩)],
  [],[]⟩
def f17_g0 (t:(Sl RangeRow)) (iv0:Int):St:=⟨[(0,.one (.c (.p (.sl t.len 3 (fun i=>enc_42 (t.get i)))))),(3,.one (.c (.p (.int .i64 iv0))))],[],[]⟩
def f17_at0 (K:List PA→Prop) (t:(Sl RangeRow)) (iv0:Int):Prop:=vc Try.prog G17 ann17 (cdF Try.f17 [1,0,1,0]) (blockK 0 (sqK Try.prog G17 ann17 (cdF Try.f17 [1,1]) (bodyK Try.prog Try.f17 K))) (f17_g0 t iv0)
def f17_g1 (t:(Sl RangeRow)) (iv1:Int) (t65v1:Bool):St:=⟨[(0,.one (.c (.p (.sl t.len 3 (fun i=>enc_42 (t.get i)))))),(3,.one (.c (.p (.int .i64 iv1)))),(65,.one (.c (.p (.bool t65v1))))],[],[]⟩
def f17_at1 (K:List PA→Prop) (X0:St→Prop) (t:(Sl RangeRow)) (iv1:Int) (t65v1:Bool):Prop:=vc Try.prog G17 ann17 (cdF Try.f17 [1,0,1,0,0,1,0,0,1,1]) (blockK 1 (sqK Try.prog G17 ann17 (cdF Try.f17 [1,0,1,0,0,1,1]) (loopK Try.prog ann17 2 X0 (blockK 0 (sqK Try.prog G17 ann17 (cdF Try.f17 [1,1]) (bodyK Try.prog Try.f17 K)))))) (f17_g1 t iv1 t65v1)
theorem f17_top (t : (Sl RangeRow)) (K : List PA → Prop) :
  vcFun Try.prog G17 ann17 17 [.one (.sl t.len 3 (fun i=>enc_42 (t.get i)))] K =
  (f17_at0 K t (0:Int)):=by kernel_rfl
def f17_step0 (K:List PA→Prop) (X0:St→Prop) (t:(Sl RangeRow)) (iv0:Int):Prop :=
  (condP (decide (iv0 < (t.len : Int)))
   (((0≤iv0∧iv0 < (t.len:Int))) ∧
   (condP (!(s58 ((t.get iv0.toNat).Energy) (1:Int) (1000000:Int)))
    (f17_at1 K X0 t iv0 true)
    (condP (!(s29 ((t.get iv0.toNat).Range) (0:Int) (1000000:Int)))
     (f17_at1 K X0 t iv0 true)
     (condP (decide (iv0 > (0:Int)))
      (((0≤(w64 (iv0 - (1:Int)))∧(w64 (iv0 - (1:Int))) < (t.len:Int))) ∧
      (condP (decide ((t.get iv0.toNat).Energy ≤ (t.get ((w64 (iv0 - (1:Int))).toNat)).Energy))
       (f17_at1 K X0 t iv0 true)
       (((0≤(w64 (iv0 - (1:Int)))∧(w64 (iv0 - (1:Int))) < (t.len:Int))) ∧
       (condP (decide ((t.get iv0.toNat).Range.Low < (t.get ((w64 (iv0 - (1:Int))).toNat)).Range.Low))
        (f17_at1 K X0 t iv0 true)
        (((0≤(w64 (iv0 - (1:Int)))∧(w64 (iv0 - (1:Int))) < (t.len:Int))) ∧
        (f17_at1 K X0 t iv0 (decide ((t.get iv0.toNat).Range.High < (t.get ((w64 (iv0 - (1:Int))).toNat)).Range.High))))))))
      (f17_at1 K X0 t iv0 false)))))
   (K [.one (.bool (s58 (t.len:Int) (1:Int) (40:Int)))]))
theorem f17_stepeq0 (K : List PA → Prop) (X0 : St → Prop) (t : (Sl RangeRow)) (iv0 : Int) :
  vc Try.prog G17 ann17 (cd (cdF Try.f17 [1,0,1,0]) [0]) (loopK Try.prog ann17 2 X0 (blockK 0 (sqK Try.prog G17 ann17 (cdF Try.f17 [1,1]) (bodyK Try.prog Try.f17 K)))) (f17_g0 t iv0) =
  f17_step0 K X0 t iv0:=by kernel_rfl
theorem f17_loop0 (K : List PA → Prop) (t : (Sl RangeRow)) (iv0 : Int)
  (h:∀ X0:St→Prop,(∀ (iv0:Int),f17_step0 K X0 t iv0→X0 (f17_g0 t iv0))→X0 (f17_g0 t iv0)) :
  f17_at0 K t iv0:=by
  have e:f17_at0 K t iv0=(∀ X:St→Prop,(∀ s,vc Try.prog G17 ann17 (cd (cdF Try.f17 [1,0,1,0]) [0]) (loopK Try.prog ann17 2 X (blockK 0 (sqK Try.prog G17 ann17 (cdF Try.f17 [1,1]) (bodyK Try.prog Try.f17 K)))) s→X s)→X (f17_g0 t iv0)):=by kernel_rfl
  refine ofEq e ?_
  intro X hX
  refine h X ?_
  intro iv0 hs
  refine hX _ ?_
  have e2:=f17_stepeq0 K X t iv0
  rw [e2]
  exact hs
theorem f17_eq1 (K : List PA → Prop) (X0 : St → Prop) (t : (Sl RangeRow)) (iv1 : Int) (t65v1 : Bool) :
  f17_at1 K X0 t iv1 t65v1 =
  (condP t65v1
   (K [.one (.bool false)])
   (X0 (f17_g0 t (w64 (iv1+(1:Int)))))):=by kernel_rfl
abbrev e17 (r:Bool):List PA:=[.one (.bool r)]
attribute [irreducible] f17_at0 f17_at1
def s17_at1 (S0:Int→Bool) (t:(Sl RangeRow)) (iv1:Int) (t65v1:Bool):Bool :=
  (cond t65v1
   false
   (S0 (w64 (iv1+(1:Int)))))
def p17_at1 (P0:Int→Bool) (t:(Sl RangeRow)) (iv1:Int) (t65v1:Bool):Bool :=
  (cond t65v1
   true
   (P0 (w64 (iv1+(1:Int)))))
theorem q17_at1 (K : List PA → Prop) (t : (Sl RangeRow))
  (X0:St→Prop) (P0:Int→Bool) (S0:Int→Bool)
  (hX0:∀ (iv0:Int),P0 iv0=true→K (e17 (S0 iv0))→X0 (f17_g0 t iv0)) (iv1:Int) (t65v1:Bool) (hs:p17_at1 P0 t iv1 t65v1=true) (hk:K (e17 (s17_at1 S0 t iv1 t65v1))):f17_at1 K X0 t iv1 t65v1:=by
  refine ofEq (f17_eq1 K X0 t iv1 t65v1) ?_
  unfold p17_at1 at hs
  unfold s17_at1 at hk
  exact (condB_go (K := fun r => K (e17 r))
   (fun hs hk=>hk)
   (fun hs hk=>(hX0 (w64 (iv1+(1:Int))) hs hk)) hs hk)
def s17_st0 (t:(Sl RangeRow)) (S0:Int→Bool) (iv0:Int):Bool :=
  (cond (decide (iv0 < (t.len : Int)))
   (cond (!(s58 ((t.get iv0.toNat).Energy) (1:Int) (1000000:Int)))
    (s17_at1 S0 t iv0 true)
    (cond (!(s29 ((t.get iv0.toNat).Range) (0:Int) (1000000:Int)))
     (s17_at1 S0 t iv0 true)
     (cond (decide (iv0 > (0:Int)))
      (cond (decide ((t.get iv0.toNat).Energy ≤ (t.get ((w64 (iv0 - (1:Int))).toNat)).Energy))
       (s17_at1 S0 t iv0 true)
       (cond (decide ((t.get iv0.toNat).Range.Low < (t.get ((w64 (iv0 - (1:Int))).toNat)).Range.Low))
        (s17_at1 S0 t iv0 true)
        (s17_at1 S0 t iv0 (decide ((t.get iv0.toNat).Range.High < (t.get ((w64 (iv0 - (1:Int))).toNat)).Range.High)))))
      (s17_at1 S0 t iv0 false))))
   (s58 (t.len:Int) (1:Int) (40:Int)))
def p17_st0 (t:(Sl RangeRow)) (P0:Int→Bool) (iv0:Int):Bool :=
  (cond (decide (iv0 < (t.len : Int)))
   (decide ((0≤iv0∧iv0 < (t.len:Int))) &&
   (cond (!(s58 ((t.get iv0.toNat).Energy) (1:Int) (1000000:Int)))
    (p17_at1 P0 t iv0 true)
    (cond (!(s29 ((t.get iv0.toNat).Range) (0:Int) (1000000:Int)))
     (p17_at1 P0 t iv0 true)
     (cond (decide (iv0 > (0:Int)))
      (decide ((0≤(w64 (iv0 - (1:Int)))∧(w64 (iv0 - (1:Int))) < (t.len:Int))) &&
      (cond (decide ((t.get iv0.toNat).Energy ≤ (t.get ((w64 (iv0 - (1:Int))).toNat)).Energy))
       (p17_at1 P0 t iv0 true)
       (decide ((0≤(w64 (iv0 - (1:Int)))∧(w64 (iv0 - (1:Int))) < (t.len:Int))) &&
       (cond (decide ((t.get iv0.toNat).Range.Low < (t.get ((w64 (iv0 - (1:Int))).toNat)).Range.Low))
        (p17_at1 P0 t iv0 true)
        (decide ((0≤(w64 (iv0 - (1:Int)))∧(w64 (iv0 - (1:Int))) < (t.len:Int))) &&
        (p17_at1 P0 t iv0 (decide ((t.get iv0.toNat).Range.High < (t.get ((w64 (iv0 - (1:Int))).toNat)).Range.High))))))))
      (p17_at1 P0 t iv0 false)))))
   true)
def s17_lp0 (t : (Sl RangeRow)) : Nat → Int → Bool
  | 0=>fun _=>default
  | k+1=>s17_st0 t (s17_lp0 t k)
def p17_lp0 (t : (Sl RangeRow)) : Nat → Int → Bool
  | 0=>fun _=>false
  | k+1=>p17_st0 t (p17_lp0 t k)
def s17_at0 (t:(Sl RangeRow)) (iv0:Int):Bool:=s17_lp0 t Fuel iv0
def p17_at0 (t:(Sl RangeRow)) (iv0:Int):Bool:=p17_lp0 t Fuel iv0
theorem q17_at0 (K:List PA→Prop) (t:(Sl RangeRow)) (iv0:Int) (hs:p17_at0 t iv0=true) (hk:K (e17 (s17_at0 t iv0))):f17_at0 K t iv0:=by
  refine f17_loop0 K t iv0 ?_
  intro X0 hstep
  have key:∀ (k:Nat) (iv0:Int),p17_lp0 t k iv0=true→K (e17 (s17_lp0 t k iv0))→X0 (f17_g0 t iv0):=by
    intro k
    induction k with
    | zero=>intro iv0 hs;exact absurd hs Bool.false_ne_true
    | succ k ih =>
      intro iv0 hs hk
      refine hstep iv0 ?_
      have hs:p17_st0 t (p17_lp0 t k) iv0=true:=hs
      have hk:K (e17 (s17_st0 t (s17_lp0 t k) iv0)):=hk
      unfold p17_st0 at hs
      unfold s17_st0 at hk
      generalize s17_lp0 t k=S0 at hk ih
      generalize p17_lp0 t k=P0 at hs ih
      have hX0:=ih
      exact (condB_go (K := fun r => K (e17 r))
       (fun hs hk => (andK hs fun hc hs => ⟨hc, (condB_go (K := fun r => K (e17 r))
        (fun hs hk=>(q17_at1 K t X0 P0 S0 hX0 iv0 true hs hk))
        (fun hs hk => (condB_go (K := fun r => K (e17 r))
         (fun hs hk=>(q17_at1 K t X0 P0 S0 hX0 iv0 true hs hk))
         (fun hs hk => (condB_go (K := fun r => K (e17 r))
          (fun hs hk => (andK hs fun hc hs => ⟨hc, (condB_go (K := fun r => K (e17 r))
           (fun hs hk=>(q17_at1 K t X0 P0 S0 hX0 iv0 true hs hk))
           (fun hs hk => (andK hs fun hc hs => ⟨hc, (condB_go (K := fun r => K (e17 r))
            (fun hs hk=>(q17_at1 K t X0 P0 S0 hX0 iv0 true hs hk))
            (fun hs hk=>(andK hs fun hc hs=>⟨hc,(q17_at1 K t X0 P0 S0 hX0 iv0 (decide ((t.get iv0.toNat).Range.High < (t.get ((w64 (iv0 - (1:Int))).toNat)).Range.High)) hs hk)⟩)) hs hk)⟩)) hs hk)⟩))
          (fun hs hk=>(q17_at1 K t X0 P0 S0 hX0 iv0 false hs hk)) hs hk)) hs hk)) hs hk)⟩))
       (fun hs hk=>hk) hs hk)
  exact key _ iv0 hs hk
def s17 (t:(Sl RangeRow)):Bool :=
  (s17_at0 t (0:Int))
def p17 (t:(Sl RangeRow)):Bool :=
  (p17_at0 t (0:Int))
theorem q17 (t:(Sl RangeRow)) (K:List PA→Prop) (hs:p17 t=true) (hk:K (e17 (s17 t))):vcFun Try.prog G17 ann17 17 [.one (.sl t.len 3 (fun i=>enc_42 (t.get i)))] K:=by
  refine ofEq (f17_top t K) ?_
  unfold p17 at hs
  unfold s17 at hk
  exact (q17_at0 K t (0:Int) hs hk)
def ctr17 : List PA → COut
  | [.one (.sl a0_n a0_s a0_g)]=>.det (IsE enc_42 3 a0_s a0_g∧p17 (⟨a0_n,decF_42 a0_g⟩:(Sl RangeRow))=true) [.one (.bool (s17 (⟨a0_n,decF_42 a0_g⟩:(Sl RangeRow))))]
  | _=>.no
theorem call17:Callable Try.prog 17:=⟨_,rfl,rfl,by kernel_rfl⟩
theorem ok17:Ok Try.prog 17 ctr17:=ok_tab okT17 call17 fun args K h=>by
  unfold ctr17 at h
  split at h
  · rename_i a0_n a0_s a0_g
    obtain ⟨⟨⟨rfl,a0_f,rfl⟩,hs⟩,hk⟩:=h
    try rw [decF_enc_42 a0_f] at hs
    try rw [decF_enc_42 a0_f] at hk
    exact ⟨(fun _ _=>[]),(fun _=>false),ann17,q17 (⟨a0_n,a0_f⟩:(Sl RangeRow)) K hs hk⟩
  · exact h.elim
end Go.Proofs
namespace Go.Proofs
open Go Go.Pm
set_option maxRecDepth 100000
set_option linter.unusedVariables false
attribute [local irreducible] Go.Pm.vcFun Go.Pm.vc Go.Pm.vcIter
abbrev T36:Tabs:=(Tabs.nil.addF 29 ctr29)
theorem okT36:TabsOk Try.prog T36:=(TabsOk.nil.addF ok29)
abbrev G36:Ctrs:=csm T36 (fun _ _=>[]) (fun _=>false)
def ann36:Ann:=⟨11,[(0,⟨[1],[1],[],[],[]⟩),(1,⟨[2],[],[],[],[]⟩)],
  [],
  [],
  [],[]⟩
theorem f36_top (w : Weather) (K : List PA → Prop) :
  vcFun Try.prog G36 ann36 36 [.agg [.int .i64 w.Pressure.Low,.int .i64 w.Pressure.High,.int .i64 w.Warm.Low,.int .i64 w.Warm.High]] K =
  (condP (s29 w.Pressure (-1000:Int) (1000:Int))
   (K [.one (.bool (s29 w.Warm (-1000:Int) (1000:Int)))])
   (K [.one (.bool false)])):=by kernel_rfl
abbrev e36 (r:Bool):List PA:=[.one (.bool r)]
def s36 (w:Weather):Bool :=
  (cond (s29 w.Pressure (-1000:Int) (1000:Int))
   (s29 w.Warm (-1000:Int) (1000:Int))
   false)
theorem q36 (w:Weather) (K:List PA→Prop) (hk:K (e36 (s36 w))):vcFun Try.prog G36 ann36 36 [.agg [.int .i64 w.Pressure.Low,.int .i64 w.Pressure.High,.int .i64 w.Warm.Low,.int .i64 w.Warm.High]] K:=by
  refine ofEq (f36_top w K) ?_
  unfold s36 at hk
  exact (condP_gt (K := fun r => K (e36 r))
   (fun hk=>hk)
   (fun hk=>hk) hk)
def ctr36 : List PA → COut
  | [.agg [.int .i64 a0_Pressure_Low,.int .i64 a0_Pressure_High,.int .i64 a0_Warm_Low,.int .i64 a0_Warm_High]]=>.tot [.one (.bool (s36 (⟨(⟨a0_Pressure_Low,a0_Pressure_High⟩:Span),(⟨a0_Warm_Low,a0_Warm_High⟩:Span)⟩:Weather)))]
  | _=>.no
theorem call36:Callable Try.prog 36:=⟨_,rfl,rfl,by kernel_rfl⟩
theorem ok36:Ok Try.prog 36 ctr36:=ok_tab okT36 call36 fun args K h=>by
  unfold ctr36 at h
  split at h
  · rename_i a0_Pressure_Low a0_Pressure_High a0_Warm_Low a0_Warm_High
    have hk:=h
    exact ⟨(fun _ _=>[]),(fun _=>false),ann36,q36 (⟨(⟨a0_Pressure_Low,a0_Pressure_High⟩:Span),(⟨a0_Warm_Low,a0_Warm_High⟩:Span)⟩:Weather) K hk⟩
  · exact h.elim
abbrev T22:Tabs:=((Tabs.nil.addF 36 ctr36).addF 58 ctr58)
theorem okT22:TabsOk Try.prog T22:=((TabsOk.nil.addF ok36).addF ok58)
abbrev G22:Ctrs:=csm T22 (fun _ _=>[]) (fun _=>false)
def ann22:Ann:=⟨29,[(0,⟨[0],[],[],[],[]⟩),(1,⟨[0,3],[],[],[],[]⟩),(2,⟨[0,3,7],[],[],[],[]⟩),(3,⟨[0,3],[],[],[],[]⟩),(4,⟨[0,3,25],[],[],[],[]⟩),(5,⟨[2],[],[],[],[]⟩),(6,⟨[2],[],[],[],[]⟩)],
  [(2,⟨[0,3],[],[],[],[]⟩)],
  [(5,⟨[0,3,25],[],[],[],[]⟩)],
  [],[]⟩
def f22_g0 (l_a0:(Sl Spell)) (iv0:Int):St:=⟨[(0,.one (.c (.p (.sl l_a0.len 5 (fun i=>enc_56 (l_a0.get i)))))),(3,.one (.c (.p (.int .i64 iv0))))],[],[]⟩
def f22_at0 (K:List PA→Prop) (l_a0:(Sl Spell)) (iv0:Int):Prop:=vc Try.prog G22 ann22 (cdF Try.f22 [1,0,1,0]) (blockK 0 (sqK Try.prog G22 ann22 (cdF Try.f22 [1,1]) (bodyK Try.prog Try.f22 K))) (f22_g0 l_a0 iv0)
def f22_g1 (l_a0:(Sl Spell)) (iv1:Int) (t25v1:Bool):St:=⟨[(0,.one (.c (.p (.sl l_a0.len 5 (fun i=>enc_56 (l_a0.get i)))))),(3,.one (.c (.p (.int .i64 iv1)))),(25,.one (.c (.p (.bool t25v1))))],[],[]⟩
def f22_at1 (K:List PA→Prop) (X0:St→Prop) (l_a0:(Sl Spell)) (iv1:Int) (t25v1:Bool):Prop:=vc Try.prog G22 ann22 (cdF Try.f22 [1,0,1,0,0,1,0,0,1]) (blockK 1 (sqK Try.prog G22 ann22 (cdF Try.f22 [1,0,1,0,0,1,1]) (loopK Try.prog ann22 2 X0 (blockK 0 (sqK Try.prog G22 ann22 (cdF Try.f22 [1,1]) (bodyK Try.prog Try.f22 K)))))) (f22_g1 l_a0 iv1 t25v1)
theorem f22_top (l_a0 : (Sl Spell)) (K : List PA → Prop) :
  vcFun Try.prog G22 ann22 22 [.one (.sl l_a0.len 5 (fun i=>enc_56 (l_a0.get i)))] K =
  (f22_at0 K l_a0 (0:Int)):=by kernel_rfl
def f22_step0 (K:List PA→Prop) (X0:St→Prop) (l_a0:(Sl Spell)) (iv0:Int):Prop :=
  (condP (decide (iv0 < (l_a0.len : Int)))
   (((0≤iv0∧iv0 < (l_a0.len:Int))) ∧
   (condP (!(s58 ((l_a0.get iv0.toNat).Slots) (1:Int) (1000000:Int)))
    (f22_at1 K X0 l_a0 iv0 true)
    (((0≤iv0∧iv0 < (l_a0.len:Int))) ∧
    (f22_at1 K X0 l_a0 iv0 (!(s36 ((l_a0.get iv0.toNat).Weather)))))))
   (K [.one (.bool (s58 (l_a0.len:Int) (1:Int) (50:Int)))]))
theorem f22_stepeq0 (K : List PA → Prop) (X0 : St → Prop) (l_a0 : (Sl Spell)) (iv0 : Int) :
  vc Try.prog G22 ann22 (cd (cdF Try.f22 [1,0,1,0]) [0]) (loopK Try.prog ann22 2 X0 (blockK 0 (sqK Try.prog G22 ann22 (cdF Try.f22 [1,1]) (bodyK Try.prog Try.f22 K)))) (f22_g0 l_a0 iv0) =
  f22_step0 K X0 l_a0 iv0:=by kernel_rfl
theorem f22_loop0 (K : List PA → Prop) (l_a0 : (Sl Spell)) (iv0 : Int)
  (h:∀ X0:St→Prop,(∀ (iv0:Int),f22_step0 K X0 l_a0 iv0→X0 (f22_g0 l_a0 iv0))→X0 (f22_g0 l_a0 iv0)) :
  f22_at0 K l_a0 iv0:=by
  have e:f22_at0 K l_a0 iv0=(∀ X:St→Prop,(∀ s,vc Try.prog G22 ann22 (cd (cdF Try.f22 [1,0,1,0]) [0]) (loopK Try.prog ann22 2 X (blockK 0 (sqK Try.prog G22 ann22 (cdF Try.f22 [1,1]) (bodyK Try.prog Try.f22 K)))) s→X s)→X (f22_g0 l_a0 iv0)):=by kernel_rfl
  refine ofEq e ?_
  intro X hX
  refine h X ?_
  intro iv0 hs
  refine hX _ ?_
  have e2:=f22_stepeq0 K X l_a0 iv0
  rw [e2]
  exact hs
theorem f22_eq1 (K : List PA → Prop) (X0 : St → Prop) (l_a0 : (Sl Spell)) (iv1 : Int) (t25v1 : Bool) :
  f22_at1 K X0 l_a0 iv1 t25v1 =
  (condP t25v1
   (K [.one (.bool false)])
   (X0 (f22_g0 l_a0 (w64 (iv1+(1:Int)))))):=by kernel_rfl
abbrev e22 (r:Bool):List PA:=[.one (.bool r)]
attribute [irreducible] f22_at0 f22_at1
def s22_at1 (S0:Int→Bool) (l_a0:(Sl Spell)) (iv1:Int) (t25v1:Bool):Bool :=
  (cond t25v1
   false
   (S0 (w64 (iv1+(1:Int)))))
def p22_at1 (P0:Int→Bool) (l_a0:(Sl Spell)) (iv1:Int) (t25v1:Bool):Bool :=
  (cond t25v1
   true
   (P0 (w64 (iv1+(1:Int)))))
theorem q22_at1 (K : List PA → Prop) (l_a0 : (Sl Spell))
  (X0:St→Prop) (P0:Int→Bool) (S0:Int→Bool)
  (hX0:∀ (iv0:Int),P0 iv0=true→K (e22 (S0 iv0))→X0 (f22_g0 l_a0 iv0)) (iv1:Int) (t25v1:Bool) (hs:p22_at1 P0 l_a0 iv1 t25v1=true) (hk:K (e22 (s22_at1 S0 l_a0 iv1 t25v1))):f22_at1 K X0 l_a0 iv1 t25v1:=by
  refine ofEq (f22_eq1 K X0 l_a0 iv1 t25v1) ?_
  unfold p22_at1 at hs
  unfold s22_at1 at hk
  exact (condB_go (K := fun r => K (e22 r))
   (fun hs hk=>hk)
   (fun hs hk=>(hX0 (w64 (iv1+(1:Int))) hs hk)) hs hk)
def s22_st0 (l_a0:(Sl Spell)) (S0:Int→Bool) (iv0:Int):Bool :=
  (cond (decide (iv0 < (l_a0.len : Int)))
   (cond (!(s58 ((l_a0.get iv0.toNat).Slots) (1:Int) (1000000:Int)))
    (s22_at1 S0 l_a0 iv0 true)
    (s22_at1 S0 l_a0 iv0 (!(s36 ((l_a0.get iv0.toNat).Weather)))))
   (s58 (l_a0.len:Int) (1:Int) (50:Int)))
def p22_st0 (l_a0:(Sl Spell)) (P0:Int→Bool) (iv0:Int):Bool :=
  (cond (decide (iv0 < (l_a0.len : Int)))
   (decide ((0≤iv0∧iv0 < (l_a0.len:Int))) &&
   (cond (!(s58 ((l_a0.get iv0.toNat).Slots) (1:Int) (1000000:Int)))
    (p22_at1 P0 l_a0 iv0 true)
    (decide ((0≤iv0∧iv0 < (l_a0.len:Int))) &&
    (p22_at1 P0 l_a0 iv0 (!(s36 ((l_a0.get iv0.toNat).Weather)))))))
   true)
def s22_lp0 (l_a0 : (Sl Spell)) : Nat → Int → Bool
  | 0=>fun _=>default
  | k+1=>s22_st0 l_a0 (s22_lp0 l_a0 k)
def p22_lp0 (l_a0 : (Sl Spell)) : Nat → Int → Bool
  | 0=>fun _=>false
  | k+1=>p22_st0 l_a0 (p22_lp0 l_a0 k)
def s22_at0 (l_a0:(Sl Spell)) (iv0:Int):Bool:=s22_lp0 l_a0 Fuel iv0
def p22_at0 (l_a0:(Sl Spell)) (iv0:Int):Bool:=p22_lp0 l_a0 Fuel iv0
theorem q22_at0 (K:List PA→Prop) (l_a0:(Sl Spell)) (iv0:Int) (hs:p22_at0 l_a0 iv0=true) (hk:K (e22 (s22_at0 l_a0 iv0))):f22_at0 K l_a0 iv0:=by
  refine f22_loop0 K l_a0 iv0 ?_
  intro X0 hstep
  have key:∀ (k:Nat) (iv0:Int),p22_lp0 l_a0 k iv0=true→K (e22 (s22_lp0 l_a0 k iv0))→X0 (f22_g0 l_a0 iv0):=by
    intro k
    induction k with
    | zero=>intro iv0 hs;exact absurd hs Bool.false_ne_true
    | succ k ih =>
      intro iv0 hs hk
      refine hstep iv0 ?_
      have hs:p22_st0 l_a0 (p22_lp0 l_a0 k) iv0=true:=hs
      have hk:K (e22 (s22_st0 l_a0 (s22_lp0 l_a0 k) iv0)):=hk
      unfold p22_st0 at hs
      unfold s22_st0 at hk
      generalize s22_lp0 l_a0 k=S0 at hk ih
      generalize p22_lp0 l_a0 k=P0 at hs ih
      have hX0:=ih
      exact (condB_go (K := fun r => K (e22 r))
       (fun hs hk => (andK hs fun hc hs => ⟨hc, (condB_go (K := fun r => K (e22 r))
        (fun hs hk=>(q22_at1 K l_a0 X0 P0 S0 hX0 iv0 true hs hk))
        (fun hs hk=>(andK hs fun hc hs=>⟨hc,(q22_at1 K l_a0 X0 P0 S0 hX0 iv0 (!(s36 ((l_a0.get iv0.toNat).Weather))) hs hk)⟩)) hs hk)⟩))
       (fun hs hk=>hk) hs hk)
  exact key _ iv0 hs hk
def s22 (l_a0:(Sl Spell)):Bool :=
  (s22_at0 l_a0 (0:Int))
def p22 (l_a0:(Sl Spell)):Bool :=
  (p22_at0 l_a0 (0:Int))
theorem q22 (l_a0:(Sl Spell)) (K:List PA→Prop) (hs:p22 l_a0=true) (hk:K (e22 (s22 l_a0))):vcFun Try.prog G22 ann22 22 [.one (.sl l_a0.len 5 (fun i=>enc_56 (l_a0.get i)))] K:=by
  refine ofEq (f22_top l_a0 K) ?_
  unfold p22 at hs
  unfold s22 at hk
  exact (q22_at0 K l_a0 (0:Int) hs hk)
def ctr22 : List PA → COut
  | [.one (.sl a0_n a0_s a0_g)]=>.det (IsE enc_56 5 a0_s a0_g∧p22 (⟨a0_n,decF_56 a0_g⟩:(Sl Spell))=true) [.one (.bool (s22 (⟨a0_n,decF_56 a0_g⟩:(Sl Spell))))]
  | _=>.no
theorem call22:Callable Try.prog 22:=⟨_,rfl,rfl,by kernel_rfl⟩
theorem ok22:Ok Try.prog 22 ctr22:=ok_tab okT22 call22 fun args K h=>by
  unfold ctr22 at h
  split at h
  · rename_i a0_n a0_s a0_g
    obtain ⟨⟨⟨rfl,a0_f,rfl⟩,hs⟩,hk⟩:=h
    try rw [decF_enc_56 a0_f] at hs
    try rw [decF_enc_56 a0_f] at hk
    exact ⟨(fun _ _=>[]),(fun _=>false),ann22,q22 (⟨a0_n,a0_f⟩:(Sl Spell)) K hs hk⟩
  · exact h.elim
end Go.Proofs
namespace Go.Proofs
open Go Go.Pm
set_option maxRecDepth 100000
set_option linter.unusedVariables false
attribute [local irreducible] Go.Pm.vcFun Go.Pm.vc Go.Pm.vcIter
abbrev T27:Tabs:=Tabs.nil
theorem okT27:TabsOk Try.prog T27:=TabsOk.nil
abbrev G27:Ctrs:=csm T27 (fun _ _=>[]) (fun _=>false)
def ann27:Ann:=⟨26,[(0,⟨[0,1],[],[],[],[]⟩),(1,⟨[0,1,10],[],[],[],[]⟩),(2,⟨[4],[],[],[],[]⟩),(3,⟨[0,1,5],[],[],[],[]⟩),(4,⟨[0,1,5,14],[],[],[],[]⟩),(5,⟨[0,1,5],[],[],[],[]⟩),(6,⟨[0,1,5,25],[],[],[],[]⟩),(7,⟨[4],[],[],[],[]⟩),(8,⟨[4],[],[],[],[]⟩)],
  [(4,⟨[0,1,5],[],[],[],[]⟩)],
  [(3,⟨[0,1],[],[],[],[]⟩)],
  [],[]⟩
def f27_g0 (a:(Sl FluxStep)) (b:(Sl FluxStep)):St:=⟨[(0,.one (.c (.p (.sl a.len 3 (fun i=>enc_69 (a.get i)))))),(1,.one (.c (.p (.sl b.len 3 (fun i=>enc_69 (b.get i))))))],[],[]⟩
def f27_at0 (K:List PA→Prop) (a:(Sl FluxStep)) (b:(Sl FluxStep)):Prop:=vc Try.prog G27 ann27 (cdF Try.f27 [1,1]) (bodyK Try.prog Try.f27 K) (f27_g0 a b)
def f27_g1 (a:(Sl FluxStep)) (b:(Sl FluxStep)) (iv1:Int):St:=⟨[(0,.one (.c (.p (.sl a.len 3 (fun i=>enc_69 (a.get i)))))),(1,.one (.c (.p (.sl b.len 3 (fun i=>enc_69 (b.get i)))))),(5,.one (.c (.p (.int .i64 iv1))))],[],[]⟩
def f27_at1 (K:List PA→Prop) (a:(Sl FluxStep)) (b:(Sl FluxStep)) (iv1:Int):Prop:=vc Try.prog G27 ann27 (cdF Try.f27 [1,1,0,1,0]) (blockK 0 (sqK Try.prog G27 ann27 (cdF Try.f27 [1,1,1]) (bodyK Try.prog Try.f27 K))) (f27_g1 a b iv1)
theorem f27_top (a : (Sl FluxStep)) (b : (Sl FluxStep)) (K : List PA → Prop) :
  vcFun Try.prog G27 ann27 27 [.one (.sl a.len 3 (fun i=>enc_69 (a.get i))),.one (.sl b.len 3 (fun i=>enc_69 (b.get i)))] K =
  (condP ((a.len : Int) != (b.len : Int))
   (K [.one (.bool false)])
   (f27_at0 K a b)):=by kernel_rfl
theorem f27_eq0 (K : List PA → Prop) (a : (Sl FluxStep)) (b : (Sl FluxStep)) :
  f27_at0 K a b =
  (f27_at1 K a b (0:Int)):=by kernel_rfl
def f27_step1 (K:List PA→Prop) (X1:St→Prop) (a:(Sl FluxStep)) (b:(Sl FluxStep)) (iv1:Int):Prop :=
  (condP (decide (iv1 < (a.len : Int)))
   (((0≤iv1∧iv1 < (a.len:Int))) ∧
   (((0≤iv1∧iv1 < (b.len:Int))) ∧
   (condP (!(match ((a.get iv1.toNat).From == (b.get iv1.toNat).From) with | true => (match (match ((a.get iv1.toNat).Rate.Low == (b.get iv1.toNat).Rate.Low) with | true => (match ((a.get iv1.toNat).Rate.High == (b.get iv1.toNat).Rate.High) with | true => true | false => false) | false => false) with | true => true | false => false) | false => false))
    (K [.one (.bool false)])
    (X1 (f27_g1 a b (w64 (iv1+(1:Int))))))))
   (K [.one (.bool true)]))
theorem f27_stepeq1 (K : List PA → Prop) (X1 : St → Prop) (a : (Sl FluxStep)) (b : (Sl FluxStep)) (iv1 : Int) :
  vc Try.prog G27 ann27 (cd (cdF Try.f27 [1,1,0,1,0]) [0]) (loopK Try.prog ann27 4 X1 (blockK 0 (sqK Try.prog G27 ann27 (cdF Try.f27 [1,1,1]) (bodyK Try.prog Try.f27 K)))) (f27_g1 a b iv1) =
  f27_step1 K X1 a b iv1:=by kernel_rfl
theorem f27_loop1 (K : List PA → Prop) (a : (Sl FluxStep)) (b : (Sl FluxStep)) (iv1 : Int)
  (h:∀ X1:St→Prop,(∀ (iv1:Int),f27_step1 K X1 a b iv1→X1 (f27_g1 a b iv1))→X1 (f27_g1 a b iv1)) :
  f27_at1 K a b iv1:=by
  have e:f27_at1 K a b iv1=(∀ X:St→Prop,(∀ s,vc Try.prog G27 ann27 (cd (cdF Try.f27 [1,1,0,1,0]) [0]) (loopK Try.prog ann27 4 X (blockK 0 (sqK Try.prog G27 ann27 (cdF Try.f27 [1,1,1]) (bodyK Try.prog Try.f27 K)))) s→X s)→X (f27_g1 a b iv1)):=by kernel_rfl
  refine ofEq e ?_
  intro X hX
  refine h X ?_
  intro iv1 hs
  refine hX _ ?_
  have e2:=f27_stepeq1 K X a b iv1
  rw [e2]
  exact hs
abbrev e27 (r:Bool):List PA:=[.one (.bool r)]
attribute [irreducible] f27_at0 f27_at1
def s27_st1 (a:(Sl FluxStep)) (b:(Sl FluxStep)) (S1:Int→Bool) (iv1:Int):Bool :=
  (cond (decide (iv1 < (a.len : Int)))
   (cond (!(match ((a.get iv1.toNat).From == (b.get iv1.toNat).From) with | true => (match (match ((a.get iv1.toNat).Rate.Low == (b.get iv1.toNat).Rate.Low) with | true => (match ((a.get iv1.toNat).Rate.High == (b.get iv1.toNat).Rate.High) with | true => true | false => false) | false => false) with | true => true | false => false) | false => false))
    false
    (S1 (w64 (iv1+(1:Int)))))
   true)
def p27_st1 (a:(Sl FluxStep)) (b:(Sl FluxStep)) (P1:Int→Bool) (iv1:Int):Bool :=
  (cond (decide (iv1 < (a.len : Int)))
   (decide ((0≤iv1∧iv1 < (a.len:Int))) &&
   (decide ((0≤iv1∧iv1 < (b.len:Int))) &&
   (cond (!(match ((a.get iv1.toNat).From == (b.get iv1.toNat).From) with | true => (match (match ((a.get iv1.toNat).Rate.Low == (b.get iv1.toNat).Rate.Low) with | true => (match ((a.get iv1.toNat).Rate.High == (b.get iv1.toNat).Rate.High) with | true => true | false => false) | false => false) with | true => true | false => false) | false => false))
    true
    (P1 (w64 (iv1+(1:Int)))))))
   true)
def s27_lp1 (a : (Sl FluxStep)) (b : (Sl FluxStep)) : Nat → Int → Bool
  | 0=>fun _=>default
  | k+1=>s27_st1 a b (s27_lp1 a b k)
def p27_lp1 (a : (Sl FluxStep)) (b : (Sl FluxStep)) : Nat → Int → Bool
  | 0=>fun _=>false
  | k+1=>p27_st1 a b (p27_lp1 a b k)
def s27_at1 (a:(Sl FluxStep)) (b:(Sl FluxStep)) (iv1:Int):Bool:=s27_lp1 a b Fuel iv1
def p27_at1 (a:(Sl FluxStep)) (b:(Sl FluxStep)) (iv1:Int):Bool:=p27_lp1 a b Fuel iv1
theorem q27_at1 (K:List PA→Prop) (a:(Sl FluxStep)) (b:(Sl FluxStep)) (iv1:Int) (hs:p27_at1 a b iv1=true) (hk:K (e27 (s27_at1 a b iv1))):f27_at1 K a b iv1:=by
  refine f27_loop1 K a b iv1 ?_
  intro X1 hstep
  have key:∀ (k:Nat) (iv1:Int),p27_lp1 a b k iv1=true→K (e27 (s27_lp1 a b k iv1))→X1 (f27_g1 a b iv1):=by
    intro k
    induction k with
    | zero=>intro iv1 hs;exact absurd hs Bool.false_ne_true
    | succ k ih =>
      intro iv1 hs hk
      refine hstep iv1 ?_
      have hs:p27_st1 a b (p27_lp1 a b k) iv1=true:=hs
      have hk:K (e27 (s27_st1 a b (s27_lp1 a b k) iv1)):=hk
      unfold p27_st1 at hs
      unfold s27_st1 at hk
      generalize s27_lp1 a b k=S1 at hk ih
      generalize p27_lp1 a b k=P1 at hs ih
      have hX1:=ih
      exact (condB_go (K := fun r => K (e27 r))
       (fun hs hk => (andK hs fun hc hs => ⟨hc, (andK hs fun hc hs => ⟨hc, (condB_go (K := fun r => K (e27 r))
        (fun hs hk=>hk)
        (fun hs hk=>(hX1 (w64 (iv1+(1:Int))) hs hk)) hs hk)⟩)⟩))
       (fun hs hk=>hk) hs hk)
  exact key _ iv1 hs hk
def s27_at0 (a:(Sl FluxStep)) (b:(Sl FluxStep)):Bool :=
  (s27_at1 a b (0:Int))
def p27_at0 (a:(Sl FluxStep)) (b:(Sl FluxStep)):Bool :=
  (p27_at1 a b (0:Int))
theorem q27_at0 (K:List PA→Prop) (a:(Sl FluxStep)) (b:(Sl FluxStep)) (hs:p27_at0 a b=true) (hk:K (e27 (s27_at0 a b))):f27_at0 K a b:=by
  refine ofEq (f27_eq0 K a b) ?_
  unfold p27_at0 at hs
  unfold s27_at0 at hk
  exact (q27_at1 K a b (0:Int) hs hk)
def s27 (a:(Sl FluxStep)) (b:(Sl FluxStep)):Bool :=
  (cond ((a.len : Int) != (b.len : Int))
   false
   (s27_at0 a b))
def p27 (a:(Sl FluxStep)) (b:(Sl FluxStep)):Bool :=
  (cond ((a.len : Int) != (b.len : Int))
   true
   (p27_at0 a b))
theorem q27 (a:(Sl FluxStep)) (b:(Sl FluxStep)) (K:List PA→Prop) (hs:p27 a b=true) (hk:K (e27 (s27 a b))):vcFun Try.prog G27 ann27 27 [.one (.sl a.len 3 (fun i=>enc_69 (a.get i))),.one (.sl b.len 3 (fun i=>enc_69 (b.get i)))] K:=by
  refine ofEq (f27_top a b K) ?_
  unfold p27 at hs
  unfold s27 at hk
  exact (condB_go (K := fun r => K (e27 r))
   (fun hs hk=>hk)
   (fun hs hk=>(q27_at0 K a b hs hk)) hs hk)
def ctr27 : List PA → COut
  | [.one (.sl a0_n a0_s a0_g),.one (.sl a1_n a1_s a1_g)]=>.det (IsE enc_69 3 a0_s a0_g∧IsE enc_69 3 a1_s a1_g∧p27 (⟨a0_n,decF_69 a0_g⟩:(Sl FluxStep)) (⟨a1_n,decF_69 a1_g⟩:(Sl FluxStep))=true) [.one (.bool (s27 (⟨a0_n,decF_69 a0_g⟩:(Sl FluxStep)) (⟨a1_n,decF_69 a1_g⟩:(Sl FluxStep))))]
  | _=>.no
theorem call27:Callable Try.prog 27:=⟨_,rfl,rfl,by kernel_rfl⟩
theorem ok27:Ok Try.prog 27 ctr27:=ok_tab okT27 call27 fun args K h=>by
  unfold ctr27 at h
  split at h
  · rename_i a0_n a0_s a0_g a1_n a1_s a1_g
    obtain ⟨⟨⟨rfl,a0_f,rfl⟩,⟨rfl,a1_f,rfl⟩,hs⟩,hk⟩:=h
    try rw [decF_enc_69 a0_f] at hs
    try rw [decF_enc_69 a0_f] at hk
    try rw [decF_enc_69 a1_f] at hs
    try rw [decF_enc_69 a1_f] at hk
    exact ⟨(fun _ _=>[]),(fun _=>false),ann27,q27 (⟨a0_n,a0_f⟩:(Sl FluxStep)) (⟨a1_n,a1_f⟩:(Sl FluxStep)) K hs hk⟩
  · exact h.elim
abbrev T46:Tabs:=Tabs.nil
theorem okT46:TabsOk Try.prog T46:=TabsOk.nil
abbrev G46:Ctrs:=csm T46 (fun _ _=>[]) (fun _=>false)
def ann46:Ann:=⟨57,[(0,⟨[0,3,4],[3,4],[],[],[]⟩),(1,⟨[0,3,4,5],[3,4,5],[],[],[]⟩),(2,⟨[0,3,4,5,6],[3,4,5],[],[],[]⟩),(3,⟨[0,3,4,5,6,11],[3,4,5],[],[],[]⟩),(4,⟨[0,3,4,5,6],[3,4,5],[],[],[]⟩),(5,⟨[0,3,4,5,6,21],[3,4,5],[],[],[]⟩),(6,⟨[0,3,4,5,6],[3,4,5],[],[],[]⟩),(7,⟨[0,3,4,5,7],[3,4,5],[],[],[]⟩),(8,⟨[0,3,4,5,7,38],[3,4,5],[],[],[]⟩),(9,⟨[0,3,4,5,7],[3,4,5],[],[],[]⟩),(10,⟨[0,3,4,5,7,48],[3,4,5],[],[],[]⟩),(11,⟨[0,3,4,5,7],[3,4,5],[],[],[]⟩),(12,⟨[4],[4],[],[],[]⟩)],
  [(3,⟨[0,3,4,5,6],[3,4,5],[],[],[]⟩),(8,⟨[0,3,4,5,7],[3,4,5],[],[],[]⟩)],
  [(7,⟨[0,3,4,5],[3,4,5],[],[],[]⟩)],
  [],[]⟩
def f46_g0 (l_a0:(Sl FluxRow)) (x:Span) (iv0:Int) (out_1v0:Int):St:=⟨[(0,.one (.c (.p (.sl l_a0.len 3 (fun i=>enc_44 (l_a0.get i)))))),(3,.one (.c (.ptr 3 0))),(4,.one (.c (.ptr 4 0))),(5,.one (.c (.ptr 5 0))),(6,.one (.c (.p (.int .i64 iv0))))],[(3,.box 24 [.p (.int .i64 x.Low),.p (.int .i64 x.High)]),(4,.box 24 [.p (.int .i64 (0:Int)),.p (.int .i64 (0:Int))]),(5,.box 24 [.p (.int .i64 (0:Int)),.p (.int .i64 out_1v0)])],[]⟩
def f46_at0 (K:List PA→Prop) (l_a0:(Sl FluxRow)) (x:Span) (iv0:Int) (out_1v0:Int):Prop:=vc Try.prog G46 ann46 (cdF Try.f46 [1,1,0,1,0]) (blockK 0 (sqK Try.prog G46 ann46 (cdF Try.f46 [1,1,1]) (bodyK Try.prog Try.f46 K))) (f46_g0 l_a0 x iv0 out_1v0)
def f46_g1 (l_a0:(Sl FluxRow)) (x:Span) (out_1v1:Int):St:=⟨[(0,.one (.c (.p (.sl l_a0.len 3 (fun i=>enc_44 (l_a0.get i)))))),(3,.one (.c (.ptr 3 0))),(4,.one (.c (.ptr 4 0))),(5,.one (.c (.ptr 5 0)))],[(3,.box 24 [.p (.int .i64 x.Low),.p (.int .i64 x.High)]),(4,.box 24 [.p (.int .i64 (0:Int)),.p (.int .i64 (0:Int))]),(5,.box 24 [.p (.int .i64 (0:Int)),.p (.int .i64 out_1v1)])],[]⟩
def f46_at1 (K:List PA→Prop) (l_a0:(Sl FluxRow)) (x:Span) (out_1v1:Int):Prop:=vc Try.prog G46 ann46 (cdF Try.f46 [1,1,1]) (bodyK Try.prog Try.f46 K) (f46_g1 l_a0 x out_1v1)
def f46_g2 (l_a0:(Sl FluxRow)) (x:Span) (iv2:Int) (out_0v2:Int) (out_1v2:Int):St:=⟨[(0,.one (.c (.p (.sl l_a0.len 3 (fun i=>enc_44 (l_a0.get i)))))),(3,.one (.c (.ptr 3 0))),(4,.one (.c (.ptr 4 0))),(5,.one (.c (.ptr 5 0))),(7,.one (.c (.p (.int .i64 iv2))))],[(3,.box 24 [.p (.int .i64 x.Low),.p (.int .i64 x.High)]),(4,.box 24 [.p (.int .i64 (0:Int)),.p (.int .i64 (0:Int))]),(5,.box 24 [.p (.int .i64 out_0v2),.p (.int .i64 out_1v2)])],[]⟩
def f46_at2 (K:List PA→Prop) (l_a0:(Sl FluxRow)) (x:Span) (iv2:Int) (out_0v2:Int) (out_1v2:Int):Prop:=vc Try.prog G46 ann46 (cdF Try.f46 [1,1,1,0,1,0]) (blockK 2 (sqK Try.prog G46 ann46 (cdF Try.f46 [1,1,1,1]) (bodyK Try.prog Try.f46 K))) (f46_g2 l_a0 x iv2 out_0v2 out_1v2)
theorem f46_top (l_a0 : (Sl FluxRow)) (x : Span) (K : List PA → Prop) :
  vcFun Try.prog G46 ann46 46 [.one (.sl l_a0.len 3 (fun i=>enc_44 (l_a0.get i))),.agg [.int .i64 x.Low,.int .i64 x.High]] K =
  (f46_at0 K l_a0 x (0:Int) (0:Int)):=by kernel_rfl
def f46_step0 (K:List PA→Prop) (X0:St→Prop) (l_a0:(Sl FluxRow)) (x:Span) (iv0:Int) (out_1v0:Int):Prop :=
  (condP (decide (iv0 < (l_a0.len : Int)))
   (((0≤iv0∧iv0 < (l_a0.len:Int))) ∧
   (condP (decide ((l_a0.get iv0.toNat).Energy ≤ x.Low))
    (((0≤iv0∧iv0 < (l_a0.len:Int))) ∧
    (X0 (f46_g0 l_a0 x (w64 (iv0+(1:Int))) ((l_a0.get iv0.toNat).Rate.High))))
    (X0 (f46_g0 l_a0 x (w64 (iv0+(1:Int))) out_1v0))))
   (f46_at1 K l_a0 x out_1v0))
theorem f46_stepeq0 (K : List PA → Prop) (X0 : St → Prop) (l_a0 : (Sl FluxRow)) (x : Span) (iv0 : Int) (out_1v0 : Int) :
  vc Try.prog G46 ann46 (cd (cdF Try.f46 [1,1,0,1,0]) [0]) (loopK Try.prog ann46 3 X0 (blockK 0 (sqK Try.prog G46 ann46 (cdF Try.f46 [1,1,1]) (bodyK Try.prog Try.f46 K)))) (f46_g0 l_a0 x iv0 out_1v0) =
  f46_step0 K X0 l_a0 x iv0 out_1v0:=by kernel_rfl
theorem f46_loop0 (K : List PA → Prop) (l_a0 : (Sl FluxRow)) (x : Span) (iv0 : Int) (out_1v0 : Int)
  (h:∀ X0:St→Prop,(∀ (iv0:Int) (out_1v0:Int),f46_step0 K X0 l_a0 x iv0 out_1v0→X0 (f46_g0 l_a0 x iv0 out_1v0))→X0 (f46_g0 l_a0 x iv0 out_1v0)) :
  f46_at0 K l_a0 x iv0 out_1v0:=by
  have e:f46_at0 K l_a0 x iv0 out_1v0=(∀ X:St→Prop,(∀ s,vc Try.prog G46 ann46 (cd (cdF Try.f46 [1,1,0,1,0]) [0]) (loopK Try.prog ann46 3 X (blockK 0 (sqK Try.prog G46 ann46 (cdF Try.f46 [1,1,1]) (bodyK Try.prog Try.f46 K)))) s→X s)→X (f46_g0 l_a0 x iv0 out_1v0)):=by kernel_rfl
  refine ofEq e ?_
  intro X hX
  refine h X ?_
  intro iv0 out_1v0 hs
  refine hX _ ?_
  have e2:=f46_stepeq0 K X l_a0 x iv0 out_1v0
  rw [e2]
  exact hs
theorem f46_eq1 (K : List PA → Prop) (l_a0 : (Sl FluxRow)) (x : Span) (out_1v1 : Int) :
  f46_at1 K l_a0 x out_1v1 =
  (f46_at2 K l_a0 x (w64 ((l_a0.len:Int) - (1:Int))) (0:Int) out_1v1):=by kernel_rfl
def f46_step2 (K:List PA→Prop) (X2:St→Prop) (l_a0:(Sl FluxRow)) (x:Span) (iv2:Int) (out_0v2:Int) (out_1v2:Int):Prop :=
  (condP (decide (iv2 ≥ (0:Int)))
   (condP (x.High != (-1:Int))
    (((0≤iv2∧iv2 < (l_a0.len:Int))) ∧
    (condP (decide ((l_a0.get iv2.toNat).Energy ≥ x.High))
     (((0≤iv2∧iv2 < (l_a0.len:Int))) ∧
     (X2 (f46_g2 l_a0 x (w64 (iv2 - (1:Int))) ((l_a0.get iv2.toNat).Rate.Low) out_1v2)))
     (X2 (f46_g2 l_a0 x (w64 (iv2 - (1:Int))) out_0v2 out_1v2))))
    (K [.agg [.int .i64 out_0v2,.int .i64 out_1v2]]))
   (K [.agg [.int .i64 out_0v2,.int .i64 out_1v2]]))
theorem f46_stepeq2 (K : List PA → Prop) (X2 : St → Prop) (l_a0 : (Sl FluxRow)) (x : Span) (iv2 : Int) (out_0v2 : Int) (out_1v2 : Int) :
  vc Try.prog G46 ann46 (cd (cdF Try.f46 [1,1,1,0,1,0]) [0]) (loopK Try.prog ann46 8 X2 (blockK 2 (sqK Try.prog G46 ann46 (cdF Try.f46 [1,1,1,1]) (bodyK Try.prog Try.f46 K)))) (f46_g2 l_a0 x iv2 out_0v2 out_1v2) =
  f46_step2 K X2 l_a0 x iv2 out_0v2 out_1v2:=by kernel_rfl
theorem f46_loop2 (K : List PA → Prop) (l_a0 : (Sl FluxRow)) (x : Span) (iv2 : Int) (out_0v2 : Int) (out_1v2 : Int)
  (h:∀ X2:St→Prop,(∀ (iv2:Int) (out_0v2:Int) (out_1v2:Int),f46_step2 K X2 l_a0 x iv2 out_0v2 out_1v2→X2 (f46_g2 l_a0 x iv2 out_0v2 out_1v2))→X2 (f46_g2 l_a0 x iv2 out_0v2 out_1v2)) :
  f46_at2 K l_a0 x iv2 out_0v2 out_1v2:=by
  have e:f46_at2 K l_a0 x iv2 out_0v2 out_1v2=(∀ X:St→Prop,(∀ s,vc Try.prog G46 ann46 (cd (cdF Try.f46 [1,1,1,0,1,0]) [0]) (loopK Try.prog ann46 8 X (blockK 2 (sqK Try.prog G46 ann46 (cdF Try.f46 [1,1,1,1]) (bodyK Try.prog Try.f46 K)))) s→X s)→X (f46_g2 l_a0 x iv2 out_0v2 out_1v2)):=by kernel_rfl
  refine ofEq e ?_
  intro X hX
  refine h X ?_
  intro iv2 out_0v2 out_1v2 hs
  refine hX _ ?_
  have e2:=f46_stepeq2 K X l_a0 x iv2 out_0v2 out_1v2
  rw [e2]
  exact hs
abbrev e46 (r:Span):List PA:=[.agg [.int .i64 r.Low,.int .i64 r.High]]
attribute [irreducible] f46_at0 f46_at1 f46_at2
def s46_st2 (l_a0:(Sl FluxRow)) (x:Span) (S2:Int→Int→Int→Span) (iv2:Int) (out_0v2:Int) (out_1v2:Int):Span :=
  (cond (decide (iv2 ≥ (0:Int)))
   (cond (x.High != (-1:Int))
    (cond (decide ((l_a0.get iv2.toNat).Energy ≥ x.High))
     (S2 (w64 (iv2 - (1:Int))) ((l_a0.get iv2.toNat).Rate.Low) out_1v2)
     (S2 (w64 (iv2 - (1:Int))) out_0v2 out_1v2))
    (⟨out_0v2,out_1v2⟩:Span))
   (⟨out_0v2,out_1v2⟩:Span))
def p46_st2 (l_a0:(Sl FluxRow)) (x:Span) (P2:Int→Int→Int→Bool) (iv2:Int) (out_0v2:Int) (out_1v2:Int):Bool :=
  (cond (decide (iv2 ≥ (0:Int)))
   (cond (x.High != (-1:Int))
    (decide ((0≤iv2∧iv2 < (l_a0.len:Int))) &&
    (cond (decide ((l_a0.get iv2.toNat).Energy ≥ x.High))
     (decide ((0≤iv2∧iv2 < (l_a0.len:Int))) &&
     (P2 (w64 (iv2 - (1:Int))) ((l_a0.get iv2.toNat).Rate.Low) out_1v2))
     (P2 (w64 (iv2 - (1:Int))) out_0v2 out_1v2)))
    true)
   true)
def s46_lp2 (l_a0 : (Sl FluxRow)) (x : Span) : Nat → Int → Int → Int → Span
  | 0=>fun _ _ _=>default
  | k+1=>s46_st2 l_a0 x (s46_lp2 l_a0 x k)
def p46_lp2 (l_a0 : (Sl FluxRow)) (x : Span) : Nat → Int → Int → Int → Bool
  | 0=>fun _ _ _=>false
  | k+1=>p46_st2 l_a0 x (p46_lp2 l_a0 x k)
def s46_at2 (l_a0:(Sl FluxRow)) (x:Span) (iv2:Int) (out_0v2:Int) (out_1v2:Int):Span:=s46_lp2 l_a0 x Fuel iv2 out_0v2 out_1v2
def p46_at2 (l_a0:(Sl FluxRow)) (x:Span) (iv2:Int) (out_0v2:Int) (out_1v2:Int):Bool:=p46_lp2 l_a0 x Fuel iv2 out_0v2 out_1v2
theorem q46_at2 (K:List PA→Prop) (l_a0:(Sl FluxRow)) (x:Span) (iv2:Int) (out_0v2:Int) (out_1v2:Int) (hs:p46_at2 l_a0 x iv2 out_0v2 out_1v2=true) (hk:K (e46 (s46_at2 l_a0 x iv2 out_0v2 out_1v2))):f46_at2 K l_a0 x iv2 out_0v2 out_1v2:=by
  refine f46_loop2 K l_a0 x iv2 out_0v2 out_1v2 ?_
  intro X2 hstep
  have key:∀ (k:Nat) (iv2:Int) (out_0v2:Int) (out_1v2:Int),p46_lp2 l_a0 x k iv2 out_0v2 out_1v2=true→K (e46 (s46_lp2 l_a0 x k iv2 out_0v2 out_1v2))→X2 (f46_g2 l_a0 x iv2 out_0v2 out_1v2):=by
    intro k
    induction k with
    | zero=>intro iv2 out_0v2 out_1v2 hs;exact absurd hs Bool.false_ne_true
    | succ k ih =>
      intro iv2 out_0v2 out_1v2 hs hk
      refine hstep iv2 out_0v2 out_1v2 ?_
      have hs:p46_st2 l_a0 x (p46_lp2 l_a0 x k) iv2 out_0v2 out_1v2=true:=hs
      have hk:K (e46 (s46_st2 l_a0 x (s46_lp2 l_a0 x k) iv2 out_0v2 out_1v2)):=hk
      unfold p46_st2 at hs
      unfold s46_st2 at hk
      generalize s46_lp2 l_a0 x k=S2 at hk ih
      generalize p46_lp2 l_a0 x k=P2 at hs ih
      have hX2:=ih
      exact (condB_go (K := fun r => K (e46 r))
       (fun hs hk => (condB_go (K := fun r => K (e46 r))
        (fun hs hk => (andK hs fun hc hs => ⟨hc, (condB_go (K := fun r => K (e46 r))
         (fun hs hk=>(andK hs fun hc hs=>⟨hc,(hX2 (w64 (iv2 - (1:Int))) ((l_a0.get iv2.toNat).Rate.Low) out_1v2 hs hk)⟩))
         (fun hs hk=>(hX2 (w64 (iv2 - (1:Int))) out_0v2 out_1v2 hs hk)) hs hk)⟩))
        (fun hs hk=>hk) hs hk))
       (fun hs hk=>hk) hs hk)
  exact key _ iv2 out_0v2 out_1v2 hs hk
def s46_at1 (l_a0:(Sl FluxRow)) (x:Span) (out_1v1:Int):Span :=
  (s46_at2 l_a0 x (w64 ((l_a0.len:Int) - (1:Int))) (0:Int) out_1v1)
def p46_at1 (l_a0:(Sl FluxRow)) (x:Span) (out_1v1:Int):Bool :=
  (p46_at2 l_a0 x (w64 ((l_a0.len:Int) - (1:Int))) (0:Int) out_1v1)
theorem q46_at1 (K:List PA→Prop) (l_a0:(Sl FluxRow)) (x:Span) (out_1v1:Int) (hs:p46_at1 l_a0 x out_1v1=true) (hk:K (e46 (s46_at1 l_a0 x out_1v1))):f46_at1 K l_a0 x out_1v1:=by
  refine ofEq (f46_eq1 K l_a0 x out_1v1) ?_
  unfold p46_at1 at hs
  unfold s46_at1 at hk
  exact (q46_at2 K l_a0 x (w64 ((l_a0.len:Int) - (1:Int))) (0:Int) out_1v1 hs hk)
def s46_st0 (l_a0:(Sl FluxRow)) (x:Span) (S0:Int→Int→Span) (iv0:Int) (out_1v0:Int):Span :=
  (cond (decide (iv0 < (l_a0.len : Int)))
   (cond (decide ((l_a0.get iv0.toNat).Energy ≤ x.Low))
    (S0 (w64 (iv0+(1:Int))) ((l_a0.get iv0.toNat).Rate.High))
    (S0 (w64 (iv0+(1:Int))) out_1v0))
   (s46_at1 l_a0 x out_1v0))
def p46_st0 (l_a0:(Sl FluxRow)) (x:Span) (P0:Int→Int→Bool) (iv0:Int) (out_1v0:Int):Bool :=
  (cond (decide (iv0 < (l_a0.len : Int)))
   (decide ((0≤iv0∧iv0 < (l_a0.len:Int))) &&
   (cond (decide ((l_a0.get iv0.toNat).Energy ≤ x.Low))
    (decide ((0≤iv0∧iv0 < (l_a0.len:Int))) &&
    (P0 (w64 (iv0+(1:Int))) ((l_a0.get iv0.toNat).Rate.High)))
    (P0 (w64 (iv0+(1:Int))) out_1v0)))
   (p46_at1 l_a0 x out_1v0))
def s46_lp0 (l_a0 : (Sl FluxRow)) (x : Span) : Nat → Int → Int → Span
  | 0=>fun _ _=>default
  | k+1=>s46_st0 l_a0 x (s46_lp0 l_a0 x k)
def p46_lp0 (l_a0 : (Sl FluxRow)) (x : Span) : Nat → Int → Int → Bool
  | 0=>fun _ _=>false
  | k+1=>p46_st0 l_a0 x (p46_lp0 l_a0 x k)
def s46_at0 (l_a0:(Sl FluxRow)) (x:Span) (iv0:Int) (out_1v0:Int):Span:=s46_lp0 l_a0 x Fuel iv0 out_1v0
def p46_at0 (l_a0:(Sl FluxRow)) (x:Span) (iv0:Int) (out_1v0:Int):Bool:=p46_lp0 l_a0 x Fuel iv0 out_1v0
theorem q46_at0 (K:List PA→Prop) (l_a0:(Sl FluxRow)) (x:Span) (iv0:Int) (out_1v0:Int) (hs:p46_at0 l_a0 x iv0 out_1v0=true) (hk:K (e46 (s46_at0 l_a0 x iv0 out_1v0))):f46_at0 K l_a0 x iv0 out_1v0:=by
  refine f46_loop0 K l_a0 x iv0 out_1v0 ?_
  intro X0 hstep
  have key:∀ (k:Nat) (iv0:Int) (out_1v0:Int),p46_lp0 l_a0 x k iv0 out_1v0=true→K (e46 (s46_lp0 l_a0 x k iv0 out_1v0))→X0 (f46_g0 l_a0 x iv0 out_1v0):=by
    intro k
    induction k with
    | zero=>intro iv0 out_1v0 hs;exact absurd hs Bool.false_ne_true
    | succ k ih =>
      intro iv0 out_1v0 hs hk
      refine hstep iv0 out_1v0 ?_
      have hs:p46_st0 l_a0 x (p46_lp0 l_a0 x k) iv0 out_1v0=true:=hs
      have hk:K (e46 (s46_st0 l_a0 x (s46_lp0 l_a0 x k) iv0 out_1v0)):=hk
      unfold p46_st0 at hs
      unfold s46_st0 at hk
      generalize s46_lp0 l_a0 x k=S0 at hk ih
      generalize p46_lp0 l_a0 x k=P0 at hs ih
      have hX0:=ih
      exact (condB_go (K := fun r => K (e46 r))
       (fun hs hk => (andK hs fun hc hs => ⟨hc, (condB_go (K := fun r => K (e46 r))
        (fun hs hk=>(andK hs fun hc hs=>⟨hc,(hX0 (w64 (iv0+(1:Int))) ((l_a0.get iv0.toNat).Rate.High) hs hk)⟩))
        (fun hs hk=>(hX0 (w64 (iv0+(1:Int))) out_1v0 hs hk)) hs hk)⟩))
       (fun hs hk=>(q46_at1 K l_a0 x out_1v0 hs hk)) hs hk)
  exact key _ iv0 out_1v0 hs hk
def s46 (l_a0:(Sl FluxRow)) (x:Span):Span :=
  (s46_at0 l_a0 x (0:Int) (0:Int))
def p46 (l_a0:(Sl FluxRow)) (x:Span):Bool :=
  (p46_at0 l_a0 x (0:Int) (0:Int))
theorem q46 (l_a0:(Sl FluxRow)) (x:Span) (K:List PA→Prop) (hs:p46 l_a0 x=true) (hk:K (e46 (s46 l_a0 x))):vcFun Try.prog G46 ann46 46 [.one (.sl l_a0.len 3 (fun i=>enc_44 (l_a0.get i))),.agg [.int .i64 x.Low,.int .i64 x.High]] K:=by
  refine ofEq (f46_top l_a0 x K) ?_
  unfold p46 at hs
  unfold s46 at hk
  exact (q46_at0 K l_a0 x (0:Int) (0:Int) hs hk)
def ctr46 : List PA → COut
  | [.one (.sl a0_n a0_s a0_g),.agg [.int .i64 a1_Low,.int .i64 a1_High]]=>.det (IsE enc_44 3 a0_s a0_g∧p46 (⟨a0_n,decF_44 a0_g⟩:(Sl FluxRow)) (⟨a1_Low,a1_High⟩:Span)=true) [.agg [.int .i64 ((s46 (⟨a0_n,decF_44 a0_g⟩:(Sl FluxRow)) (⟨a1_Low,a1_High⟩:Span)).Low),.int .i64 ((s46 (⟨a0_n,decF_44 a0_g⟩:(Sl FluxRow)) (⟨a1_Low,a1_High⟩:Span)).High)]]
  | _=>.no
theorem call46:Callable Try.prog 46:=⟨_,rfl,rfl,by kernel_rfl⟩
theorem ok46:Ok Try.prog 46 ctr46:=ok_tab okT46 call46 fun args K h=>by
  unfold ctr46 at h
  split at h
  · rename_i a0_n a0_s a0_g a1_Low a1_High
    obtain ⟨⟨⟨rfl,a0_f,rfl⟩,hs⟩,hk⟩:=h
    try rw [decF_enc_44 a0_f] at hs
    try rw [decF_enc_44 a0_f] at hk
    exact ⟨(fun _ _=>[]),(fun _=>false),ann46,q46 (⟨a0_n,a0_f⟩:(Sl FluxRow)) (⟨a1_Low,a1_High⟩:Span) K hs hk⟩
  · exact h.elim
abbrev T49:Tabs:=Tabs.nil
theorem okT49:TabsOk Try.prog T49:=TabsOk.nil
abbrev G49:Ctrs:=csm T49 (fun _ _=>[]) (fun _=>false)
def ann49:Ann:=⟨55,[(0,⟨[0,1,4],[4],[],[],[]⟩),(1,⟨[0,1,4,9],[4],[],[],[]⟩),(2,⟨[4],[4],[],[],[]⟩),(3,⟨[0,1,4,5],[4,5],[],[],[]⟩),(4,⟨[0,1,4,5,6],[4,5],[],[],[]⟩),(5,⟨[0,1,4,5,6,15],[4,5],[],[],[]⟩),(6,⟨[0,1,4,5,6],[4,5],[],[],[]⟩),(7,⟨[0,1,4,5,6,25],[4,5],[],[],[]⟩),(8,⟨[0,1,4,5,6],[4,5],[],[],[]⟩),(9,⟨[0,1,4,5,7],[4,5],[],[],[]⟩),(10,⟨[0,1,4,5,7,37],[4,5],[],[],[]⟩),(11,⟨[0,1,4,5,7],[4,5],[],[],[]⟩),(12,⟨[0,1,4,5,7,47],[4,5],[],[],[]⟩),(13,⟨[0,1,4,5,7],[4,5],[],[],[]⟩),(14,⟨[4],[4],[],[],[]⟩)],
  [(5,⟨[0,1,4,5,6],[4,5],[],[],[]⟩),(10,⟨[0,1,4,5,7],[4,5],[],[],[]⟩)],
  [(3,⟨[0,1,4],[4],[],[],[]⟩),(9,⟨[0,1,4,5],[4,5],[],[],[]⟩)],
  [],[]⟩
def f49_g0 (t:(Sl RangeRow)) (opacity:Int):St:=⟨[(0,.one (.c (.p (.sl t.len 3 (fun i=>enc_42 (t.get i)))))),(1,.one (.c (.p (.int .i64 opacity)))),(4,.one (.c (.ptr 4 0)))],[(4,.box 24 [.p (.int .i64 (0:Int)),.p (.int .i64 (0:Int))])],[]⟩
def f49_at0 (K:List PA→Prop) (t:(Sl RangeRow)) (opacity:Int):Prop:=vc Try.prog G49 ann49 (cdF Try.f49 [1,1]) (bodyK Try.prog Try.f49 K) (f49_g0 t opacity)
def f49_g1 (t:(Sl RangeRow)) (opacity:Int) (iv1:Int) (out_0v1:Int):St:=⟨[(0,.one (.c (.p (.sl t.len 3 (fun i=>enc_42 (t.get i)))))),(1,.one (.c (.p (.int .i64 opacity)))),(4,.one (.c (.ptr 4 0))),(5,.one (.c (.ptr 5 0))),(6,.one (.c (.p (.int .i64 iv1))))],[(4,.box 24 [.p (.int .i64 (0:Int)),.p (.int .i64 (0:Int))]),(5,.box 24 [.p (.int .i64 out_0v1),.p (.int .i64 (-1:Int))])],[]⟩
def f49_at1 (K:List PA→Prop) (t:(Sl RangeRow)) (opacity:Int) (iv1:Int) (out_0v1:Int):Prop:=vc Try.prog G49 ann49 (cdF Try.f49 [1,1,1,0,1,0]) (blockK 0 (sqK Try.prog G49 ann49 (cdF Try.f49 [1,1,1,1]) (bodyK Try.prog Try.f49 K))) (f49_g1 t opacity iv1 out_0v1)
def f49_g2 (t:(Sl RangeRow)) (opacity:Int) (out_0v2:Int):St:=⟨[(0,.one (.c (.p (.sl t.len 3 (fun i=>enc_42 (t.get i)))))),(1,.one (.c (.p (.int .i64 opacity)))),(4,.one (.c (.ptr 4 0))),(5,.one (.c (.ptr 5 0)))],[(4,.box 24 [.p (.int .i64 (0:Int)),.p (.int .i64 (0:Int))]),(5,.box 24 [.p (.int .i64 out_0v2),.p (.int .i64 (-1:Int))])],[]⟩
def f49_at2 (K:List PA→Prop) (t:(Sl RangeRow)) (opacity:Int) (out_0v2:Int):Prop:=vc Try.prog G49 ann49 (cdF Try.f49 [1,1,1,1]) (bodyK Try.prog Try.f49 K) (f49_g2 t opacity out_0v2)
def f49_g3 (t:(Sl RangeRow)) (opacity:Int) (iv3:Int) (out_0v3:Int) (out_1v3:Int):St:=⟨[(0,.one (.c (.p (.sl t.len 3 (fun i=>enc_42 (t.get i)))))),(1,.one (.c (.p (.int .i64 opacity)))),(4,.one (.c (.ptr 4 0))),(5,.one (.c (.ptr 5 0))),(7,.one (.c (.p (.int .i64 iv3))))],[(4,.box 24 [.p (.int .i64 (0:Int)),.p (.int .i64 (0:Int))]),(5,.box 24 [.p (.int .i64 out_0v3),.p (.int .i64 out_1v3)])],[]⟩
def f49_at3 (K:List PA→Prop) (t:(Sl RangeRow)) (opacity:Int) (iv3:Int) (out_0v3:Int) (out_1v3:Int):Prop:=vc Try.prog G49 ann49 (cdF Try.f49 [1,1,1,1,0,1,0]) (blockK 2 (sqK Try.prog G49 ann49 (cdF Try.f49 [1,1,1,1,1]) (bodyK Try.prog Try.f49 K))) (f49_g3 t opacity iv3 out_0v3 out_1v3)
theorem f49_top (t : (Sl RangeRow)) (opacity : Int) (K : List PA → Prop) :
  vcFun Try.prog G49 ann49 49 [.one (.sl t.len 3 (fun i=>enc_42 (t.get i))),.one (.int .i64 opacity)] K =
  (condP (opacity == (0:Int))
   (K [.agg [.int .i64 (1:Int),.int .i64 (1:Int)]])
   (f49_at0 K t opacity)):=by kernel_rfl
theorem f49_eq0 (K : List PA → Prop) (t : (Sl RangeRow)) (opacity : Int) :
  f49_at0 K t opacity =
  (f49_at1 K t opacity (0:Int) (1:Int)):=by kernel_rfl
def f49_step1 (K:List PA→Prop) (X1:St→Prop) (t:(Sl RangeRow)) (opacity:Int) (iv1:Int) (out_0v1:Int):Prop :=
  (condP (decide (iv1 < (t.len : Int)))
   (((0≤iv1∧iv1 < (t.len:Int))) ∧
   (condP (decide ((t.get iv1.toNat).Range.High < opacity))
    (((0≤iv1∧iv1 < (t.len:Int))) ∧
    (X1 (f49_g1 t opacity (w64 (iv1+(1:Int))) (w64 ((t.get iv1.toNat).Energy+(1:Int))))))
    (X1 (f49_g1 t opacity (w64 (iv1+(1:Int))) out_0v1))))
   (f49_at2 K t opacity out_0v1))
theorem f49_stepeq1 (K : List PA → Prop) (X1 : St → Prop) (t : (Sl RangeRow)) (opacity : Int) (iv1 : Int) (out_0v1 : Int) :
  vc Try.prog G49 ann49 (cd (cdF Try.f49 [1,1,1,0,1,0]) [0]) (loopK Try.prog ann49 5 X1 (blockK 0 (sqK Try.prog G49 ann49 (cdF Try.f49 [1,1,1,1]) (bodyK Try.prog Try.f49 K)))) (f49_g1 t opacity iv1 out_0v1) =
  f49_step1 K X1 t opacity iv1 out_0v1:=by kernel_rfl
theorem f49_loop1 (K : List PA → Prop) (t : (Sl RangeRow)) (opacity : Int) (iv1 : Int) (out_0v1 : Int)
  (h:∀ X1:St→Prop,(∀ (iv1:Int) (out_0v1:Int),f49_step1 K X1 t opacity iv1 out_0v1→X1 (f49_g1 t opacity iv1 out_0v1))→X1 (f49_g1 t opacity iv1 out_0v1)) :
  f49_at1 K t opacity iv1 out_0v1:=by
  have e:f49_at1 K t opacity iv1 out_0v1=(∀ X:St→Prop,(∀ s,vc Try.prog G49 ann49 (cd (cdF Try.f49 [1,1,1,0,1,0]) [0]) (loopK Try.prog ann49 5 X (blockK 0 (sqK Try.prog G49 ann49 (cdF Try.f49 [1,1,1,1]) (bodyK Try.prog Try.f49 K)))) s→X s)→X (f49_g1 t opacity iv1 out_0v1)):=by kernel_rfl
  refine ofEq e ?_
  intro X hX
  refine h X ?_
  intro iv1 out_0v1 hs
  refine hX _ ?_
  have e2:=f49_stepeq1 K X t opacity iv1 out_0v1
  rw [e2]
  exact hs
theorem f49_eq2 (K : List PA → Prop) (t : (Sl RangeRow)) (opacity : Int) (out_0v2 : Int) :
  f49_at2 K t opacity out_0v2 =
  (f49_at3 K t opacity (w64 ((t.len:Int) - (1:Int))) out_0v2 (-1:Int)):=by kernel_rfl
def f49_step3 (K:List PA→Prop) (X3:St→Prop) (t:(Sl RangeRow)) (opacity:Int) (iv3:Int) (out_0v3:Int) (out_1v3:Int):Prop :=
  (condP (decide (iv3 ≥ (0:Int)))
   (((0≤iv3∧iv3 < (t.len:Int))) ∧
   (condP (decide ((t.get iv3.toNat).Range.Low ≥ opacity))
    (((0≤iv3∧iv3 < (t.len:Int))) ∧
    (X3 (f49_g3 t opacity (w64 (iv3 - (1:Int))) out_0v3 ((t.get iv3.toNat).Energy))))
    (X3 (f49_g3 t opacity (w64 (iv3 - (1:Int))) out_0v3 out_1v3))))
   (K [.agg [.int .i64 out_0v3,.int .i64 out_1v3]]))
theorem f49_stepeq3 (K : List PA → Prop) (X3 : St → Prop) (t : (Sl RangeRow)) (opacity : Int) (iv3 : Int) (out_0v3 : Int) (out_1v3 : Int) :
  vc Try.prog G49 ann49 (cd (cdF Try.f49 [1,1,1,1,0,1,0]) [0]) (loopK Try.prog ann49 10 X3 (blockK 2 (sqK Try.prog G49 ann49 (cdF Try.f49 [1,1,1,1,1]) (bodyK Try.prog Try.f49 K)))) (f49_g3 t opacity iv3 out_0v3 out_1v3) =
  f49_step3 K X3 t opacity iv3 out_0v3 out_1v3:=by kernel_rfl
theorem f49_loop3 (K : List PA → Prop) (t : (Sl RangeRow)) (opacity : Int) (iv3 : Int) (out_0v3 : Int) (out_1v3 : Int)
  (h:∀ X3:St→Prop,(∀ (iv3:Int) (out_0v3:Int) (out_1v3:Int),f49_step3 K X3 t opacity iv3 out_0v3 out_1v3→X3 (f49_g3 t opacity iv3 out_0v3 out_1v3))→X3 (f49_g3 t opacity iv3 out_0v3 out_1v3)) :
  f49_at3 K t opacity iv3 out_0v3 out_1v3:=by
  have e:f49_at3 K t opacity iv3 out_0v3 out_1v3=(∀ X:St→Prop,(∀ s,vc Try.prog G49 ann49 (cd (cdF Try.f49 [1,1,1,1,0,1,0]) [0]) (loopK Try.prog ann49 10 X (blockK 2 (sqK Try.prog G49 ann49 (cdF Try.f49 [1,1,1,1,1]) (bodyK Try.prog Try.f49 K)))) s→X s)→X (f49_g3 t opacity iv3 out_0v3 out_1v3)):=by kernel_rfl
  refine ofEq e ?_
  intro X hX
  refine h X ?_
  intro iv3 out_0v3 out_1v3 hs
  refine hX _ ?_
  have e2:=f49_stepeq3 K X t opacity iv3 out_0v3 out_1v3
  rw [e2]
  exact hs
abbrev e49 (r:Span):List PA:=[.agg [.int .i64 r.Low,.int .i64 r.High]]
attribute [irreducible] f49_at0 f49_at1 f49_at2 f49_at3
def s49_st3 (t:(Sl RangeRow)) (opacity:Int) (S3:Int→Int→Int→Span) (iv3:Int) (out_0v3:Int) (out_1v3:Int):Span :=
  (cond (decide (iv3 ≥ (0:Int)))
   (cond (decide ((t.get iv3.toNat).Range.Low ≥ opacity))
    (S3 (w64 (iv3 - (1:Int))) out_0v3 ((t.get iv3.toNat).Energy))
    (S3 (w64 (iv3 - (1:Int))) out_0v3 out_1v3))
   (⟨out_0v3,out_1v3⟩:Span))
def p49_st3 (t:(Sl RangeRow)) (opacity:Int) (P3:Int→Int→Int→Bool) (iv3:Int) (out_0v3:Int) (out_1v3:Int):Bool :=
  (cond (decide (iv3 ≥ (0:Int)))
   (decide ((0≤iv3∧iv3 < (t.len:Int))) &&
   (cond (decide ((t.get iv3.toNat).Range.Low ≥ opacity))
    (decide ((0≤iv3∧iv3 < (t.len:Int))) &&
    (P3 (w64 (iv3 - (1:Int))) out_0v3 ((t.get iv3.toNat).Energy)))
    (P3 (w64 (iv3 - (1:Int))) out_0v3 out_1v3)))
   true)
def s49_lp3 (t : (Sl RangeRow)) (opacity : Int) : Nat → Int → Int → Int → Span
  | 0=>fun _ _ _=>default
  | k+1=>s49_st3 t opacity (s49_lp3 t opacity k)
def p49_lp3 (t : (Sl RangeRow)) (opacity : Int) : Nat → Int → Int → Int → Bool
  | 0=>fun _ _ _=>false
  | k+1=>p49_st3 t opacity (p49_lp3 t opacity k)
def s49_at3 (t:(Sl RangeRow)) (opacity:Int) (iv3:Int) (out_0v3:Int) (out_1v3:Int):Span:=s49_lp3 t opacity Fuel iv3 out_0v3 out_1v3
def p49_at3 (t:(Sl RangeRow)) (opacity:Int) (iv3:Int) (out_0v3:Int) (out_1v3:Int):Bool:=p49_lp3 t opacity Fuel iv3 out_0v3 out_1v3
theorem q49_at3 (K:List PA→Prop) (t:(Sl RangeRow)) (opacity:Int) (iv3:Int) (out_0v3:Int) (out_1v3:Int) (hs:p49_at3 t opacity iv3 out_0v3 out_1v3=true) (hk:K (e49 (s49_at3 t opacity iv3 out_0v3 out_1v3))):f49_at3 K t opacity iv3 out_0v3 out_1v3:=by
  refine f49_loop3 K t opacity iv3 out_0v3 out_1v3 ?_
  intro X3 hstep
  have key:∀ (k:Nat) (iv3:Int) (out_0v3:Int) (out_1v3:Int),p49_lp3 t opacity k iv3 out_0v3 out_1v3=true→K (e49 (s49_lp3 t opacity k iv3 out_0v3 out_1v3))→X3 (f49_g3 t opacity iv3 out_0v3 out_1v3):=by
    intro k
    induction k with
    | zero=>intro iv3 out_0v3 out_1v3 hs;exact absurd hs Bool.false_ne_true
    | succ k ih =>
      intro iv3 out_0v3 out_1v3 hs hk
      refine hstep iv3 out_0v3 out_1v3 ?_
      have hs:p49_st3 t opacity (p49_lp3 t opacity k) iv3 out_0v3 out_1v3=true:=hs
      have hk:K (e49 (s49_st3 t opacity (s49_lp3 t opacity k) iv3 out_0v3 out_1v3)):=hk
      unfold p49_st3 at hs
      unfold s49_st3 at hk
      generalize s49_lp3 t opacity k=S3 at hk ih
      generalize p49_lp3 t opacity k=P3 at hs ih
      have hX3:=ih
      exact (condB_go (K := fun r => K (e49 r))
       (fun hs hk => (andK hs fun hc hs => ⟨hc, (condB_go (K := fun r => K (e49 r))
        (fun hs hk=>(andK hs fun hc hs=>⟨hc,(hX3 (w64 (iv3 - (1:Int))) out_0v3 ((t.get iv3.toNat).Energy) hs hk)⟩))
        (fun hs hk=>(hX3 (w64 (iv3 - (1:Int))) out_0v3 out_1v3 hs hk)) hs hk)⟩))
       (fun hs hk=>hk) hs hk)
  exact key _ iv3 out_0v3 out_1v3 hs hk
def s49_at2 (t:(Sl RangeRow)) (opacity:Int) (out_0v2:Int):Span :=
  (s49_at3 t opacity (w64 ((t.len:Int) - (1:Int))) out_0v2 (-1:Int))
def p49_at2 (t:(Sl RangeRow)) (opacity:Int) (out_0v2:Int):Bool :=
  (p49_at3 t opacity (w64 ((t.len:Int) - (1:Int))) out_0v2 (-1:Int))
theorem q49_at2 (K:List PA→Prop) (t:(Sl RangeRow)) (opacity:Int) (out_0v2:Int) (hs:p49_at2 t opacity out_0v2=true) (hk:K (e49 (s49_at2 t opacity out_0v2))):f49_at2 K t opacity out_0v2:=by
  refine ofEq (f49_eq2 K t opacity out_0v2) ?_
  unfold p49_at2 at hs
  unfold s49_at2 at hk
  exact (q49_at3 K t opacity (w64 ((t.len:Int) - (1:Int))) out_0v2 (-1:Int) hs hk)
def s49_st1 (t:(Sl RangeRow)) (opacity:Int) (S1:Int→Int→Span) (iv1:Int) (out_0v1:Int):Span :=
  (cond (decide (iv1 < (t.len : Int)))
   (cond (decide ((t.get iv1.toNat).Range.High < opacity))
    (S1 (w64 (iv1+(1:Int))) (w64 ((t.get iv1.toNat).Energy+(1:Int))))
    (S1 (w64 (iv1+(1:Int))) out_0v1))
   (s49_at2 t opacity out_0v1))
def p49_st1 (t:(Sl RangeRow)) (opacity:Int) (P1:Int→Int→Bool) (iv1:Int) (out_0v1:Int):Bool :=
  (cond (decide (iv1 < (t.len : Int)))
   (decide ((0≤iv1∧iv1 < (t.len:Int))) &&
   (cond (decide ((t.get iv1.toNat).Range.High < opacity))
    (decide ((0≤iv1∧iv1 < (t.len:Int))) &&
    (P1 (w64 (iv1+(1:Int))) (w64 ((t.get iv1.toNat).Energy+(1:Int)))))
    (P1 (w64 (iv1+(1:Int))) out_0v1)))
   (p49_at2 t opacity out_0v1))
def s49_lp1 (t : (Sl RangeRow)) (opacity : Int) : Nat → Int → Int → Span
  | 0=>fun _ _=>default
  | k+1=>s49_st1 t opacity (s49_lp1 t opacity k)
def p49_lp1 (t : (Sl RangeRow)) (opacity : Int) : Nat → Int → Int → Bool
  | 0=>fun _ _=>false
  | k+1=>p49_st1 t opacity (p49_lp1 t opacity k)
def s49_at1 (t:(Sl RangeRow)) (opacity:Int) (iv1:Int) (out_0v1:Int):Span:=s49_lp1 t opacity Fuel iv1 out_0v1
def p49_at1 (t:(Sl RangeRow)) (opacity:Int) (iv1:Int) (out_0v1:Int):Bool:=p49_lp1 t opacity Fuel iv1 out_0v1
theorem q49_at1 (K:List PA→Prop) (t:(Sl RangeRow)) (opacity:Int) (iv1:Int) (out_0v1:Int) (hs:p49_at1 t opacity iv1 out_0v1=true) (hk:K (e49 (s49_at1 t opacity iv1 out_0v1))):f49_at1 K t opacity iv1 out_0v1:=by
  refine f49_loop1 K t opacity iv1 out_0v1 ?_
  intro X1 hstep
  have key:∀ (k:Nat) (iv1:Int) (out_0v1:Int),p49_lp1 t opacity k iv1 out_0v1=true→K (e49 (s49_lp1 t opacity k iv1 out_0v1))→X1 (f49_g1 t opacity iv1 out_0v1):=by
    intro k
    induction k with
    | zero=>intro iv1 out_0v1 hs;exact absurd hs Bool.false_ne_true
    | succ k ih =>
      intro iv1 out_0v1 hs hk
      refine hstep iv1 out_0v1 ?_
      have hs:p49_st1 t opacity (p49_lp1 t opacity k) iv1 out_0v1=true:=hs
      have hk:K (e49 (s49_st1 t opacity (s49_lp1 t opacity k) iv1 out_0v1)):=hk
      unfold p49_st1 at hs
      unfold s49_st1 at hk
      generalize s49_lp1 t opacity k=S1 at hk ih
      generalize p49_lp1 t opacity k=P1 at hs ih
      have hX1:=ih
      exact (condB_go (K := fun r => K (e49 r))
       (fun hs hk => (andK hs fun hc hs => ⟨hc, (condB_go (K := fun r => K (e49 r))
        (fun hs hk=>(andK hs fun hc hs=>⟨hc,(hX1 (w64 (iv1+(1:Int))) (w64 ((t.get iv1.toNat).Energy+(1:Int))) hs hk)⟩))
        (fun hs hk=>(hX1 (w64 (iv1+(1:Int))) out_0v1 hs hk)) hs hk)⟩))
       (fun hs hk=>(q49_at2 K t opacity out_0v1 hs hk)) hs hk)
  exact key _ iv1 out_0v1 hs hk
def s49_at0 (t:(Sl RangeRow)) (opacity:Int):Span :=
  (s49_at1 t opacity (0:Int) (1:Int))
def p49_at0 (t:(Sl RangeRow)) (opacity:Int):Bool :=
  (p49_at1 t opacity (0:Int) (1:Int))
theorem q49_at0 (K:List PA→Prop) (t:(Sl RangeRow)) (opacity:Int) (hs:p49_at0 t opacity=true) (hk:K (e49 (s49_at0 t opacity))):f49_at0 K t opacity:=by
  refine ofEq (f49_eq0 K t opacity) ?_
  unfold p49_at0 at hs
  unfold s49_at0 at hk
  exact (q49_at1 K t opacity (0:Int) (1:Int) hs hk)
def s49 (t:(Sl RangeRow)) (opacity:Int):Span :=
  (cond (opacity == (0:Int))
   (⟨(1:Int),(1:Int)⟩:Span)
   (s49_at0 t opacity))
def p49 (t:(Sl RangeRow)) (opacity:Int):Bool :=
  (cond (opacity == (0:Int))
   true
   (p49_at0 t opacity))
theorem q49 (t:(Sl RangeRow)) (opacity:Int) (K:List PA→Prop) (hs:p49 t opacity=true) (hk:K (e49 (s49 t opacity))):vcFun Try.prog G49 ann49 49 [.one (.sl t.len 3 (fun i=>enc_42 (t.get i))),.one (.int .i64 opacity)] K:=by
  refine ofEq (f49_top t opacity K) ?_
  unfold p49 at hs
  unfold s49 at hk
  exact (condB_go (K := fun r => K (e49 r))
   (fun hs hk=>hk)
   (fun hs hk=>(q49_at0 K t opacity hs hk)) hs hk)
def ctr49 : List PA → COut
  | [.one (.sl a0_n a0_s a0_g),.one (.int .i64 a1)]=>.det (IsE enc_42 3 a0_s a0_g∧p49 (⟨a0_n,decF_42 a0_g⟩:(Sl RangeRow)) a1=true) [.agg [.int .i64 ((s49 (⟨a0_n,decF_42 a0_g⟩:(Sl RangeRow)) a1).Low),.int .i64 ((s49 (⟨a0_n,decF_42 a0_g⟩:(Sl RangeRow)) a1).High)]]
  | _=>.no
theorem call49:Callable Try.prog 49:=⟨_,rfl,rfl,by kernel_rfl⟩
theorem ok49:Ok Try.prog 49 ctr49:=ok_tab okT49 call49 fun args K h=>by
  unfold ctr49 at h
  split at h
  · rename_i a0_n a0_s a0_g a1
    obtain ⟨⟨⟨rfl,a0_f,rfl⟩,hs⟩,hk⟩:=h
    try rw [decF_enc_42 a0_f] at hs
    try rw [decF_enc_42 a0_f] at hk
    exact ⟨(fun _ _=>[]),(fun _=>false),ann49,q49 (⟨a0_n,a0_f⟩:(Sl RangeRow)) a1 K hs hk⟩
  · exact h.elim
abbrev T47:Tabs:=((Tabs.nil.addF 46 ctr46).addF 49 ctr49)
theorem okT47:TabsOk Try.prog T47:=((TabsOk.nil.addF ok46).addF ok49)
abbrev G47:Ctrs:=csm T47 (fun _ _=>[]) (fun _=>false)
def ann47:Ann:=⟨18,[(0,⟨[1,2,3,4,8],[4,8],[],[],[]⟩),(1,⟨[8],[8],[],[],[]⟩)],
  [],
  [],
  [],[]⟩
theorem f47_top (s : Sky) (t : (Sl RangeRow)) (bin : Int) (opacity : Int) (K : List PA → Prop) :
  vcFun Try.prog G47 ann47 47 [.agg [.int .i64 s.Parts,.sl s.Bins.len 1 (fun i=>enc_32 (s.Bins.get i)),.int .i64 s.Beta.Low,.int .i64 s.Beta.High,.int .i64 s.Alpha.Low,.int .i64 s.Alpha.High],.one (.sl t.len 3 (fun i=>enc_42 (t.get i))),.one (.int .i64 bin),.one (.int .i64 opacity)] K =
  (((0≤bin∧bin < (s.Bins.len:Int))) ∧
  ((IsE enc_42 3 3 (fun i=>enc_42 (t.get i))∧(p49 t opacity=true)) ∧
  ((IsE enc_44 3 3 (fun i=>enc_44 ((s.Bins.get bin.toNat).get i))∧(p46 (s.Bins.get bin.toNat) (s49 t opacity)=true)) ∧
  (K [.agg [.int .i64 ((s46 (s.Bins.get bin.toNat) (s49 t opacity)).Low),.int .i64 ((s46 (s.Bins.get bin.toNat) (s49 t opacity)).High)]])))):=by kernel_rfl
abbrev e47 (r:Span):List PA:=[.agg [.int .i64 r.Low,.int .i64 r.High]]
def s47 (s:Sky) (t:(Sl RangeRow)) (bin:Int) (opacity:Int):Span :=
  (s46 (s.Bins.get bin.toNat) (s49 t opacity))
def p47 (s:Sky) (t:(Sl RangeRow)) (bin:Int) (opacity:Int):Bool :=
  (decide ((0≤bin∧bin < (s.Bins.len:Int))) &&
  (decide ((p49 t opacity=true)) &&
  (decide ((p46 (s.Bins.get bin.toNat) (s49 t opacity)=true)) &&
  true)))
theorem q47 (s:Sky) (t:(Sl RangeRow)) (bin:Int) (opacity:Int) (K:List PA→Prop) (hs:p47 s t bin opacity=true) (hk:K (e47 (s47 s t bin opacity))):vcFun Try.prog G47 ann47 47 [.agg [.int .i64 s.Parts,.sl s.Bins.len 1 (fun i=>enc_32 (s.Bins.get i)),.int .i64 s.Beta.Low,.int .i64 s.Beta.High,.int .i64 s.Alpha.Low,.int .i64 s.Alpha.High],.one (.sl t.len 3 (fun i=>enc_42 (t.get i))),.one (.int .i64 bin),.one (.int .i64 opacity)] K:=by
  refine ofEq (f47_top s t bin opacity K) ?_
  unfold p47 at hs
  unfold s47 at hk
  exact (andK hs fun hc hs=>⟨hc,(andK hs fun hc hs=>⟨⟨isE,hc⟩,(andK hs fun hc hs=>⟨⟨isE,hc⟩,hk⟩)⟩)⟩)
def ctr47 : List PA → COut
  | [.agg [.int .i64 a0_Parts,.sl a0_Bins_n a0_Bins_s a0_Bins_g,.int .i64 a0_Beta_Low,.int .i64 a0_Beta_High,.int .i64 a0_Alpha_Low,.int .i64 a0_Alpha_High],.one (.sl a1_n a1_s a1_g),.one (.int .i64 a2),.one (.int .i64 a3)]=>.det (IsE enc_32 1 a0_Bins_s a0_Bins_g∧IsE enc_42 3 a1_s a1_g∧p47 (⟨a0_Parts,(⟨a0_Bins_n,decF_32 a0_Bins_g⟩:(Sl (Sl FluxRow))),(⟨a0_Beta_Low,a0_Beta_High⟩:Span),(⟨a0_Alpha_Low,a0_Alpha_High⟩:Span)⟩:Sky) (⟨a1_n,decF_42 a1_g⟩:(Sl RangeRow)) a2 a3=true) [.agg [.int .i64 ((s47 (⟨a0_Parts,(⟨a0_Bins_n,decF_32 a0_Bins_g⟩:(Sl (Sl FluxRow))),(⟨a0_Beta_Low,a0_Beta_High⟩:Span),(⟨a0_Alpha_Low,a0_Alpha_High⟩:Span)⟩:Sky) (⟨a1_n,decF_42 a1_g⟩:(Sl RangeRow)) a2 a3).Low),.int .i64 ((s47 (⟨a0_Parts,(⟨a0_Bins_n,decF_32 a0_Bins_g⟩:(Sl (Sl FluxRow))),(⟨a0_Beta_Low,a0_Beta_High⟩:Span),(⟨a0_Alpha_Low,a0_Alpha_High⟩:Span)⟩:Sky) (⟨a1_n,decF_42 a1_g⟩:(Sl RangeRow)) a2 a3).High)]]
  | _=>.no
theorem call47:Callable Try.prog 47:=⟨_,rfl,rfl,by kernel_rfl⟩
theorem ok47:Ok Try.prog 47 ctr47:=ok_tab okT47 call47 fun args K h=>by
  unfold ctr47 at h
  split at h
  · rename_i a0_Parts a0_Bins_n a0_Bins_s a0_Bins_g a0_Beta_Low a0_Beta_High a0_Alpha_Low a0_Alpha_High a1_n a1_s a1_g a2 a3
    obtain ⟨⟨⟨rfl,a0_Bins_f,rfl⟩,⟨rfl,a1_f,rfl⟩,hs⟩,hk⟩:=h
    try rw [decF_enc_32 a0_Bins_f] at hs
    try rw [decF_enc_32 a0_Bins_f] at hk
    try rw [decF_enc_42 a1_f] at hs
    try rw [decF_enc_42 a1_f] at hk
    exact ⟨(fun _ _=>[]),(fun _=>false),ann47,q47 (⟨a0_Parts,(⟨a0_Bins_n,a0_Bins_f⟩:(Sl (Sl FluxRow))),(⟨a0_Beta_Low,a0_Beta_High⟩:Span),(⟨a0_Alpha_Low,a0_Alpha_High⟩:Span)⟩:Sky) (⟨a1_n,a1_f⟩:(Sl RangeRow)) a2 a3 K hs hk⟩
  · exact h.elim
abbrev T78:Tabs:=Tabs.nil
theorem okT78:TabsOk Try.prog T78:=TabsOk.nil
abbrev G78:Ctrs:=csm T78 (fun _ _=>[]) (fun _=>false)
def ann78:Ann:=⟨55,[(0,⟨[2,3],[2,3],[],[],[]⟩),(1,⟨[6],[30],[],[],[]⟩),(2,⟨[6,7,8],[30],[],[],[]⟩),(3,⟨[6,7,8,9],[30],[],[],[]⟩),(4,⟨[6,7,8,9,38],[30],[],[],[]⟩),(5,⟨[6,7,8,9],[30],[],[],[]⟩),(6,⟨[6,7,8,9],[30],[],[],[]⟩),(7,⟨[4,5],[],[],[],[]⟩)],
  [(4,⟨[6,7,8,9],[30],[],[],[]⟩)],
  [],
  [],[]⟩
def f78_g0 (lowv0:Int) (highv0:Int) (iv0:Int) (v30v0_n:Nat) (v30v0_g:Nat→List PV):St:=⟨[(6,.one (.c (.vec 30))),(7,.one (.c (.p (.int .i64 lowv0)))),(8,.one (.c (.p (.int .i64 highv0)))),(9,.one (.c (.p (.int .i64 iv0))))],[(30,.vec 3 1 8 v30v0_n v30v0_g)],[]⟩
def f78_at0 (K:List PA→Prop) (lowv0:Int) (highv0:Int) (iv0:Int) (v30v0_n:Nat) (v30v0_g:Nat→List PV):Prop:=vc Try.prog G78 ann78 (cdF Try.f78 [1,1,1,0,1,0]) (blockK 0 (sqK Try.prog G78 ann78 (cdF Try.f78 [1,1,1,1]) (bodyK Try.prog Try.f78 K))) (f78_g0 lowv0 highv0 iv0 v30v0_n v30v0_g)
theorem f78_top (a : Span) (b : Span) (K : List PA → Prop) :
  vcFun Try.prog G78 ann78 78 [.agg [.int .i64 a.Low,.int .i64 a.High],.agg [.int .i64 b.Low,.int .i64 b.High]] K =
  (((0≤(0:Int)∧(0:Int) < (4:Int))) ∧
  (((0 < 4)) ∧
  (((0≤(0:Int)∧(0:Int) < (4:Int))) ∧
  (((0 < 4)) ∧
  (f78_at0 K (w64 (a.Low * b.Low)) (w64 (a.Low * b.Low)) (1:Int) 4 (getL [(enc_3 (w64 (a.Low * b.Low))),(enc_3 (w64 (a.Low * b.High))),(enc_3 (w64 (a.High * b.Low))),(enc_3 (w64 (a.High * b.High)))])))))):=by kernel_rfl
def f78_step0 (K:List PA→Prop) (X0:St→Prop) (lowv0:Int) (highv0:Int) (iv0:Int) (v30v0:(Sl Int)):Prop :=
  (condP (decide (iv0 < (4:Int)))
   (((0≤iv0∧iv0 < (v30v0.len:Int))) ∧
   (((iv0.toNat < v30v0.len)) ∧
   (((0≤iv0∧iv0 < (v30v0.len:Int))) ∧
   (((iv0.toNat < v30v0.len)) ∧
   (X0 (f78_g0 (if (v30v0.get iv0.toNat) < lowv0 then (v30v0.get iv0.toNat) else lowv0) (if (v30v0.get iv0.toNat) > highv0 then (v30v0.get iv0.toNat) else highv0) (w64 (iv0+(1:Int))) v30v0.len (fun i=>enc_3 (v30v0.get i))))))))
   (K [.one (.int .i64 lowv0),.one (.int .i64 highv0)]))
theorem f78_stepeq0 (K : List PA → Prop) (X0 : St → Prop) (lowv0 : Int) (highv0 : Int) (iv0 : Int) (v30v0 : (Sl Int)) :
  vc Try.prog G78 ann78 (cd (cdF Try.f78 [1,1,1,0,1,0]) [0]) (loopK Try.prog ann78 4 X0 (blockK 0 (sqK Try.prog G78 ann78 (cdF Try.f78 [1,1,1,1]) (bodyK Try.prog Try.f78 K)))) (f78_g0 lowv0 highv0 iv0 v30v0.len (fun i=>enc_3 (v30v0.get i))) =
  f78_step0 K X0 lowv0 highv0 iv0 v30v0:=by kernel_rfl
theorem f78_loop0 (K : List PA → Prop) (lowv0 : Int) (highv0 : Int) (iv0 : Int) (v30v0_n : Nat) (v30v0_g : Nat → List PV)
  (h:∀ X0:St→Prop,(∀ (lowv0:Int) (highv0:Int) (iv0:Int) (v30v0:(Sl Int)),f78_step0 K X0 lowv0 highv0 iv0 v30v0→X0 (f78_g0 lowv0 highv0 iv0 v30v0.len (fun i=>enc_3 (v30v0.get i))))→X0 (f78_g0 lowv0 highv0 iv0 v30v0_n v30v0_g)) :
  f78_at0 K lowv0 highv0 iv0 v30v0_n v30v0_g:=by
  have e:f78_at0 K lowv0 highv0 iv0 v30v0_n v30v0_g=(∀ X:St→Prop,(∀ s,vc Try.prog G78 ann78 (cd (cdF Try.f78 [1,1,1,0,1,0]) [0]) (loopK Try.prog ann78 4 X (blockK 0 (sqK Try.prog G78 ann78 (cdF Try.f78 [1,1,1,1]) (bodyK Try.prog Try.f78 K)))) s→X s)→X (f78_g0 lowv0 highv0 iv0 v30v0_n v30v0_g)):=by kernel_rfl
  refine ofEq e ?_
  intro X hX
  refine h X ?_
  intro lowv0 highv0 iv0 v30v0 hs
  refine hX _ ?_
  have e2:=f78_stepeq0 K X lowv0 highv0 iv0 v30v0
  rw [e2]
  exact hs
abbrev e78 (r:(Int×Int)):List PA:=[.one (.int .i64 r.1),.one (.int .i64 r.2)]
attribute [irreducible] f78_at0
def s78_st0 (S0:Int→Int→Int→(Sl Int)→(Int×Int)) (lowv0:Int) (highv0:Int) (iv0:Int) (v30v0:(Sl Int)):(Int×Int) :=
  (cond (decide (iv0 < (4:Int)))
   (S0 (if (v30v0.get iv0.toNat) < lowv0 then (v30v0.get iv0.toNat) else lowv0) (if (v30v0.get iv0.toNat) > highv0 then (v30v0.get iv0.toNat) else highv0) (w64 (iv0+(1:Int))) v30v0)
   (lowv0,highv0))
def p78_st0 (P0:Int→Int→Int→(Sl Int)→Bool) (lowv0:Int) (highv0:Int) (iv0:Int) (v30v0:(Sl Int)):Bool :=
  (cond (decide (iv0 < (4:Int)))
   (decide ((0≤iv0∧iv0 < (v30v0.len:Int))) &&
   (decide ((iv0.toNat < v30v0.len)) &&
   (decide ((0≤iv0∧iv0 < (v30v0.len:Int))) &&
   (decide ((iv0.toNat < v30v0.len)) &&
   (P0 (if (v30v0.get iv0.toNat) < lowv0 then (v30v0.get iv0.toNat) else lowv0) (if (v30v0.get iv0.toNat) > highv0 then (v30v0.get iv0.toNat) else highv0) (w64 (iv0+(1:Int))) v30v0)))))
   true)
def s78_lp0 : Nat → Int → Int → Int → (Sl Int) → (Int × Int)
  | 0=>fun _ _ _ _=>default
  | k+1=>s78_st0 (s78_lp0 k)
def p78_lp0 : Nat → Int → Int → Int → (Sl Int) → Bool
  | 0=>fun _ _ _ _=>false
  | k+1=>p78_st0 (p78_lp0 k)
def s78_at0 (lowv0:Int) (highv0:Int) (iv0:Int) (v30v0:(Sl Int)):(Int×Int):=s78_lp0 Fuel lowv0 highv0 iv0 v30v0
def p78_at0 (lowv0:Int) (highv0:Int) (iv0:Int) (v30v0:(Sl Int)):Bool:=p78_lp0 Fuel lowv0 highv0 iv0 v30v0
theorem q78_at0 (K:List PA→Prop) (lowv0:Int) (highv0:Int) (iv0:Int) (v30v0:(Sl Int)) (v30v0_g:Nat→List PV) (v30v0_h:v30v0_g=fun i=>enc_3 (v30v0.get i)) (hs:p78_at0 lowv0 highv0 iv0 v30v0=true) (hk:K (e78 (s78_at0 lowv0 highv0 iv0 v30v0))):f78_at0 K lowv0 highv0 iv0 v30v0.len v30v0_g:=by
  refine f78_loop0 K lowv0 highv0 iv0 v30v0.len v30v0_g ?_
  intro X0 hstep
  have key:∀ (k:Nat) (lowv0:Int) (highv0:Int) (iv0:Int) (v30v0:(Sl Int)) (v30v0_g:Nat→List PV) (v30v0_h:v30v0_g=fun i=>enc_3 (v30v0.get i)),p78_lp0 k lowv0 highv0 iv0 v30v0=true→K (e78 (s78_lp0 k lowv0 highv0 iv0 v30v0))→X0 (f78_g0 lowv0 highv0 iv0 v30v0.len v30v0_g):=by
    intro k
    induction k with
    | zero=>intro lowv0 highv0 iv0 v30v0 v30v0_g v30v0_h hs;exact absurd hs Bool.false_ne_true
    | succ k ih =>
      intro lowv0 highv0 iv0 v30v0 v30v0_g v30v0_h hs hk
      subst v30v0_h
      refine hstep lowv0 highv0 iv0 v30v0 ?_
      have hs:p78_st0 (p78_lp0 k) lowv0 highv0 iv0 v30v0=true:=hs
      have hk:K (e78 (s78_st0 (s78_lp0 k) lowv0 highv0 iv0 v30v0)):=hk
      unfold p78_st0 at hs
      unfold s78_st0 at hk
      generalize s78_lp0 k=S0 at hk ih
      generalize p78_lp0 k=P0 at hs ih
      have hX0:=ih
      exact (condB_go (K := fun r => K (e78 r))
       (fun hs hk=>(andK hs fun hc hs=>⟨hc,(andK hs fun hc hs=>⟨hc,(andK hs fun hc hs=>⟨hc,(andK hs fun hc hs=>⟨hc,(hX0 (if (v30v0.get iv0.toNat) < lowv0 then (v30v0.get iv0.toNat) else lowv0) (if (v30v0.get iv0.toNat) > highv0 then (v30v0.get iv0.toNat) else highv0) (w64 (iv0+(1:Int))) v30v0 (fun i=>enc_3 (v30v0.get i)) rfl hs hk)⟩)⟩)⟩)⟩))
       (fun hs hk=>hk) hs hk)
  exact key _ lowv0 highv0 iv0 v30v0 v30v0_g v30v0_h hs hk
def s78 (a:Span) (b:Span):(Int×Int) :=
  (s78_at0 (w64 (a.Low * b.Low)) (w64 (a.Low * b.Low)) (1:Int) (⟨4,(getT (w64 (a.Low * b.Low)) [(w64 (a.Low * b.Low)),(w64 (a.Low * b.High)),(w64 (a.High * b.Low)),(w64 (a.High * b.High))])⟩:Sl Int))
def p78 (a:Span) (b:Span):Bool :=
  (decide ((0≤(0:Int)∧(0:Int) < (4:Int))) &&
  (decide ((0 < 4)) &&
  (decide ((0≤(0:Int)∧(0:Int) < (4:Int))) &&
  (decide ((0 < 4)) &&
  (p78_at0 (w64 (a.Low * b.Low)) (w64 (a.Low * b.Low)) (1:Int) (⟨4,(getT (w64 (a.Low * b.Low)) [(w64 (a.Low * b.Low)),(w64 (a.Low * b.High)),(w64 (a.High * b.Low)),(w64 (a.High * b.High))])⟩:Sl Int))))))
theorem q78 (a:Span) (b:Span) (K:List PA→Prop) (hs:p78 a b=true) (hk:K (e78 (s78 a b))):vcFun Try.prog G78 ann78 78 [.agg [.int .i64 a.Low,.int .i64 a.High],.agg [.int .i64 b.Low,.int .i64 b.High]] K:=by
  refine ofEq (f78_top a b K) ?_
  unfold p78 at hs
  unfold s78 at hk
  exact (andK hs fun hc hs=>⟨hc,(andK hs fun hc hs=>⟨hc,(andK hs fun hc hs=>⟨hc,(andK hs fun hc hs=>⟨hc,(q78_at0 K (w64 (a.Low * b.Low)) (w64 (a.Low * b.Low)) (1:Int) (⟨4,(getT (w64 (a.Low * b.Low)) [(w64 (a.Low * b.Low)),(w64 (a.Low * b.High)),(w64 (a.High * b.Low)),(w64 (a.High * b.High))])⟩:Sl Int) (getL [(enc_3 (w64 (a.Low * b.Low))),(enc_3 (w64 (a.Low * b.High))),(enc_3 (w64 (a.High * b.Low))),(enc_3 (w64 (a.High * b.High)))]) (getL_enc (enc:=enc_3) (x:=(w64 (a.Low * b.Low))) (y:=(w64 (a.Low * b.High))) (r:=[(w64 (a.High * b.Low)),(w64 (a.High * b.High))])) hs hk)⟩)⟩)⟩)⟩)
def ctr78 : List PA → COut
  | [.agg [.int .i64 a0_Low,.int .i64 a0_High],.agg [.int .i64 a1_Low,.int .i64 a1_High]]=>.det (p78 (⟨a0_Low,a0_High⟩:Span) (⟨a1_Low,a1_High⟩:Span)=true) [.one (.int .i64 ((s78 (⟨a0_Low,a0_High⟩:Span) (⟨a1_Low,a1_High⟩:Span)).1)),.one (.int .i64 ((s78 (⟨a0_Low,a0_High⟩:Span) (⟨a1_Low,a1_High⟩:Span)).2))]
  | _=>.no
theorem call78:Callable Try.prog 78:=⟨_,rfl,rfl,by kernel_rfl⟩
theorem ok78:Ok Try.prog 78 ctr78:=ok_tab okT78 call78 fun args K h=>by
  unfold ctr78 at h
  split at h
  · rename_i a0_Low a0_High a1_Low a1_High
    obtain ⟨hs,hk⟩:=h
    exact ⟨(fun _ _=>[]),(fun _=>false),ann78,q78 (⟨a0_Low,a0_High⟩:Span) (⟨a1_Low,a1_High⟩:Span) K hs hk⟩
  · exact h.elim
abbrev T37:Tabs:=(Tabs.nil.addF 78 ctr78)
theorem okT37:TabsOk Try.prog T37:=(TabsOk.nil.addF ok78)
abbrev G37:Ctrs:=csm T37 (fun _ _=>[]) (fun _=>false)
def ann37:Ann:=⟨36,[(0,⟨[2,3,4],[2,3,4],[],[],[]⟩),(1,⟨[2,3,4,5,6],[2,3,4],[],[],[]⟩),(2,⟨[4,5,6,7,8],[4],[],[],[]⟩),(3,⟨[4],[4],[],[],[]⟩)],
  [],
  [],
  [],[]⟩
theorem f37_top (s : Sky) (w : Weather) (K : List PA → Prop) :
  vcFun Try.prog G37 ann37 37 [.agg [.int .i64 s.Parts,.sl s.Bins.len 1 (fun i=>enc_32 (s.Bins.get i)),.int .i64 s.Beta.Low,.int .i64 s.Beta.High,.int .i64 s.Alpha.Low,.int .i64 s.Alpha.High],.agg [.int .i64 w.Pressure.Low,.int .i64 w.Pressure.High,.int .i64 w.Warm.Low,.int .i64 w.Warm.High]] K =
  (((p78 s.Beta w.Pressure=true)) ∧
  (((p78 s.Alpha w.Warm=true)) ∧
  (K [.agg [.int .i64 (if (w64 ((w64 ((1000:Int) - ((s78 s.Beta w.Pressure).2)))+((s78 s.Alpha w.Warm).1))) > (0:Int) then (w64 ((w64 ((1000:Int) - ((s78 s.Beta w.Pressure).2)))+((s78 s.Alpha w.Warm).1))) else (0:Int)),.int .i64 (if (w64 ((w64 ((1000:Int) - ((s78 s.Beta w.Pressure).1)))+((s78 s.Alpha w.Warm).2))) > (0:Int) then (w64 ((w64 ((1000:Int) - ((s78 s.Beta w.Pressure).1)))+((s78 s.Alpha w.Warm).2))) else (0:Int))]]))):=by kernel_rfl
abbrev e37 (r:Span):List PA:=[.agg [.int .i64 r.Low,.int .i64 r.High]]
def s37 (s:Sky) (w:Weather):Span :=
  (⟨(if (w64 ((w64 ((1000:Int) - ((s78 s.Beta w.Pressure).2)))+((s78 s.Alpha w.Warm).1))) > (0:Int) then (w64 ((w64 ((1000:Int) - ((s78 s.Beta w.Pressure).2)))+((s78 s.Alpha w.Warm).1))) else (0:Int)),(if (w64 ((w64 ((1000:Int) - ((s78 s.Beta w.Pressure).1)))+((s78 s.Alpha w.Warm).2))) > (0:Int) then (w64 ((w64 ((1000:Int) - ((s78 s.Beta w.Pressure).1)))+((s78 s.Alpha w.Warm).2))) else (0:Int))⟩:Span)
def p37 (s:Sky) (w:Weather):Bool :=
  (decide ((p78 s.Beta w.Pressure=true)) &&
  (decide ((p78 s.Alpha w.Warm=true)) &&
  true))
theorem q37 (s:Sky) (w:Weather) (K:List PA→Prop) (hs:p37 s w=true) (hk:K (e37 (s37 s w))):vcFun Try.prog G37 ann37 37 [.agg [.int .i64 s.Parts,.sl s.Bins.len 1 (fun i=>enc_32 (s.Bins.get i)),.int .i64 s.Beta.Low,.int .i64 s.Beta.High,.int .i64 s.Alpha.Low,.int .i64 s.Alpha.High],.agg [.int .i64 w.Pressure.Low,.int .i64 w.Pressure.High,.int .i64 w.Warm.Low,.int .i64 w.Warm.High]] K:=by
  refine ofEq (f37_top s w K) ?_
  unfold p37 at hs
  unfold s37 at hk
  exact (andK hs fun hc hs=>⟨hc,(andK hs fun hc hs=>⟨hc,hk⟩)⟩)
def ctr37 : List PA → COut
  | [.agg [.int .i64 a0_Parts,.sl a0_Bins_n a0_Bins_s a0_Bins_g,.int .i64 a0_Beta_Low,.int .i64 a0_Beta_High,.int .i64 a0_Alpha_Low,.int .i64 a0_Alpha_High],.agg [.int .i64 a1_Pressure_Low,.int .i64 a1_Pressure_High,.int .i64 a1_Warm_Low,.int .i64 a1_Warm_High]]=>.det (IsE enc_32 1 a0_Bins_s a0_Bins_g∧p37 (⟨a0_Parts,(⟨a0_Bins_n,decF_32 a0_Bins_g⟩:(Sl (Sl FluxRow))),(⟨a0_Beta_Low,a0_Beta_High⟩:Span),(⟨a0_Alpha_Low,a0_Alpha_High⟩:Span)⟩:Sky) (⟨(⟨a1_Pressure_Low,a1_Pressure_High⟩:Span),(⟨a1_Warm_Low,a1_Warm_High⟩:Span)⟩:Weather)=true) [.agg [.int .i64 ((s37 (⟨a0_Parts,(⟨a0_Bins_n,decF_32 a0_Bins_g⟩:(Sl (Sl FluxRow))),(⟨a0_Beta_Low,a0_Beta_High⟩:Span),(⟨a0_Alpha_Low,a0_Alpha_High⟩:Span)⟩:Sky) (⟨(⟨a1_Pressure_Low,a1_Pressure_High⟩:Span),(⟨a1_Warm_Low,a1_Warm_High⟩:Span)⟩:Weather)).Low),.int .i64 ((s37 (⟨a0_Parts,(⟨a0_Bins_n,decF_32 a0_Bins_g⟩:(Sl (Sl FluxRow))),(⟨a0_Beta_Low,a0_Beta_High⟩:Span),(⟨a0_Alpha_Low,a0_Alpha_High⟩:Span)⟩:Sky) (⟨(⟨a1_Pressure_Low,a1_Pressure_High⟩:Span),(⟨a1_Warm_Low,a1_Warm_High⟩:Span)⟩:Weather)).High)]]
  | _=>.no
theorem call37:Callable Try.prog 37:=⟨_,rfl,rfl,by kernel_rfl⟩
theorem ok37:Ok Try.prog 37 ctr37:=ok_tab okT37 call37 fun args K h=>by
  unfold ctr37 at h
  split at h
  · rename_i a0_Parts a0_Bins_n a0_Bins_s a0_Bins_g a0_Beta_Low a0_Beta_High a0_Alpha_Low a0_Alpha_High a1_Pressure_Low a1_Pressure_High a1_Warm_Low a1_Warm_High
    obtain ⟨⟨⟨rfl,a0_Bins_f,rfl⟩,hs⟩,hk⟩:=h
    try rw [decF_enc_32 a0_Bins_f] at hs
    try rw [decF_enc_32 a0_Bins_f] at hk
    exact ⟨(fun _ _=>[]),(fun _=>false),ann37,q37 (⟨a0_Parts,(⟨a0_Bins_n,a0_Bins_f⟩:(Sl (Sl FluxRow))),(⟨a0_Beta_Low,a0_Beta_High⟩:Span),(⟨a0_Alpha_Low,a0_Alpha_High⟩:Span)⟩:Sky) (⟨(⟨a1_Pressure_Low,a1_Pressure_High⟩:Span),(⟨a1_Warm_Low,a1_Warm_High⟩:Span)⟩:Weather) K hs hk⟩
  · exact h.elim
end Go.Proofs
namespace Go.Proofs
open Go Go.Pm
set_option maxRecDepth 100000
set_option linter.unusedVariables false
attribute [local irreducible] Go.Pm.vcFun Go.Pm.vc Go.Pm.vcIter
abbrev T79:Tabs:=(Tabs.nil.addF 37 ctr37)
theorem okT79:TabsOk Try.prog T79:=(TabsOk.nil.addF ok37)
abbrev G79:Ctrs:=csm T79 (fun _ _=>[]) (fun _=>false)
def ann79:Ann:=⟨31,[(0,⟨[3,4,5,6],[3,4,5,6],[],[],[]⟩),(1,⟨[3,4,6,7],[3,4,6,7],[],[],[]⟩),(2,⟨[6],[6],[],[],[]⟩)],
  [],
  [],
  [],[]⟩
theorem f79_top (s : Sky) (x : Span) (w : Weather) (K : List PA → Prop) :
  vcFun Try.prog G79 ann79 79 [.agg [.int .i64 s.Parts,.sl s.Bins.len 1 (fun i=>enc_32 (s.Bins.get i)),.int .i64 s.Beta.Low,.int .i64 s.Beta.High,.int .i64 s.Alpha.Low,.int .i64 s.Alpha.High],.agg [.int .i64 x.Low,.int .i64 x.High],.agg [.int .i64 w.Pressure.Low,.int .i64 w.Pressure.High,.int .i64 w.Warm.Low,.int .i64 w.Warm.High]] K =
  ((IsE enc_32 1 1 (fun i=>enc_32 (s.Bins.get i))∧(p37 s w=true)) ∧
  ((((1000:Int) ≠ 0)) ∧
  ((((1000:Int) ≠ 0)) ∧
  (K [.agg [.int .i64 (if (w64 ((w64 (x.Low * (s37 s w).Low)).tdiv (1000:Int))) < s.Parts then (w64 ((w64 (x.Low * (s37 s w).Low)).tdiv (1000:Int))) else s.Parts),.int .i64 (if (w64 ((w64 ((w64 (x.High * (s37 s w).High))+(999:Int))).tdiv (1000:Int))) < s.Parts then (w64 ((w64 ((w64 (x.High * (s37 s w).High))+(999:Int))).tdiv (1000:Int))) else s.Parts)]])))):=by kernel_rfl
abbrev e79 (r:Span):List PA:=[.agg [.int .i64 r.Low,.int .i64 r.High]]
def s79 (s:Sky) (x:Span) (w:Weather):Span :=
  (⟨(if (w64 ((w64 (x.Low * (s37 s w).Low)).tdiv (1000:Int))) < s.Parts then (w64 ((w64 (x.Low * (s37 s w).Low)).tdiv (1000:Int))) else s.Parts),(if (w64 ((w64 ((w64 (x.High * (s37 s w).High))+(999:Int))).tdiv (1000:Int))) < s.Parts then (w64 ((w64 ((w64 (x.High * (s37 s w).High))+(999:Int))).tdiv (1000:Int))) else s.Parts)⟩:Span)
def p79 (s:Sky) (x:Span) (w:Weather):Bool :=
  (decide ((p37 s w=true)) &&
  (decide (((1000:Int) ≠ 0)) &&
  (decide (((1000:Int) ≠ 0)) &&
  true)))
theorem q79 (s:Sky) (x:Span) (w:Weather) (K:List PA→Prop) (hs:p79 s x w=true) (hk:K (e79 (s79 s x w))):vcFun Try.prog G79 ann79 79 [.agg [.int .i64 s.Parts,.sl s.Bins.len 1 (fun i=>enc_32 (s.Bins.get i)),.int .i64 s.Beta.Low,.int .i64 s.Beta.High,.int .i64 s.Alpha.Low,.int .i64 s.Alpha.High],.agg [.int .i64 x.Low,.int .i64 x.High],.agg [.int .i64 w.Pressure.Low,.int .i64 w.Pressure.High,.int .i64 w.Warm.Low,.int .i64 w.Warm.High]] K:=by
  refine ofEq (f79_top s x w K) ?_
  unfold p79 at hs
  unfold s79 at hk
  exact (andK hs fun hc hs=>⟨⟨isE,hc⟩,(andK hs fun hc hs=>⟨hc,(andK hs fun hc hs=>⟨hc,hk⟩)⟩)⟩)
def ctr79 : List PA → COut
  | [.agg [.int .i64 a0_Parts,.sl a0_Bins_n a0_Bins_s a0_Bins_g,.int .i64 a0_Beta_Low,.int .i64 a0_Beta_High,.int .i64 a0_Alpha_Low,.int .i64 a0_Alpha_High],.agg [.int .i64 a1_Low,.int .i64 a1_High],.agg [.int .i64 a2_Pressure_Low,.int .i64 a2_Pressure_High,.int .i64 a2_Warm_Low,.int .i64 a2_Warm_High]]=>.det (IsE enc_32 1 a0_Bins_s a0_Bins_g∧p79 (⟨a0_Parts,(⟨a0_Bins_n,decF_32 a0_Bins_g⟩:(Sl (Sl FluxRow))),(⟨a0_Beta_Low,a0_Beta_High⟩:Span),(⟨a0_Alpha_Low,a0_Alpha_High⟩:Span)⟩:Sky) (⟨a1_Low,a1_High⟩:Span) (⟨(⟨a2_Pressure_Low,a2_Pressure_High⟩:Span),(⟨a2_Warm_Low,a2_Warm_High⟩:Span)⟩:Weather)=true) [.agg [.int .i64 ((s79 (⟨a0_Parts,(⟨a0_Bins_n,decF_32 a0_Bins_g⟩:(Sl (Sl FluxRow))),(⟨a0_Beta_Low,a0_Beta_High⟩:Span),(⟨a0_Alpha_Low,a0_Alpha_High⟩:Span)⟩:Sky) (⟨a1_Low,a1_High⟩:Span) (⟨(⟨a2_Pressure_Low,a2_Pressure_High⟩:Span),(⟨a2_Warm_Low,a2_Warm_High⟩:Span)⟩:Weather)).Low),.int .i64 ((s79 (⟨a0_Parts,(⟨a0_Bins_n,decF_32 a0_Bins_g⟩:(Sl (Sl FluxRow))),(⟨a0_Beta_Low,a0_Beta_High⟩:Span),(⟨a0_Alpha_Low,a0_Alpha_High⟩:Span)⟩:Sky) (⟨a1_Low,a1_High⟩:Span) (⟨(⟨a2_Pressure_Low,a2_Pressure_High⟩:Span),(⟨a2_Warm_Low,a2_Warm_High⟩:Span)⟩:Weather)).High)]]
  | _=>.no
theorem call79:Callable Try.prog 79:=⟨_,rfl,rfl,by kernel_rfl⟩
theorem ok79:Ok Try.prog 79 ctr79:=ok_tab okT79 call79 fun args K h=>by
  unfold ctr79 at h
  split at h
  · rename_i a0_Parts a0_Bins_n a0_Bins_s a0_Bins_g a0_Beta_Low a0_Beta_High a0_Alpha_Low a0_Alpha_High a1_Low a1_High a2_Pressure_Low a2_Pressure_High a2_Warm_Low a2_Warm_High
    obtain ⟨⟨⟨rfl,a0_Bins_f,rfl⟩,hs⟩,hk⟩:=h
    try rw [decF_enc_32 a0_Bins_f] at hs
    try rw [decF_enc_32 a0_Bins_f] at hk
    exact ⟨(fun _ _=>[]),(fun _=>false),ann79,q79 (⟨a0_Parts,(⟨a0_Bins_n,a0_Bins_f⟩:(Sl (Sl FluxRow))),(⟨a0_Beta_Low,a0_Beta_High⟩:Span),(⟨a0_Alpha_Low,a0_Alpha_High⟩:Span)⟩:Sky) (⟨a1_Low,a1_High⟩:Span) (⟨(⟨a2_Pressure_Low,a2_Pressure_High⟩:Span),(⟨a2_Warm_Low,a2_Warm_High⟩:Span)⟩:Weather) K hs hk⟩
  · exact h.elim
abbrev T38:Tabs:=((Tabs.nil.addF 47 ctr47).addF 79 ctr79)
theorem okT38:TabsOk Try.prog T38:=((TabsOk.nil.addF ok47).addF ok79)
abbrev G38:Ctrs:=csm T38 (fun _ _=>[]) (fun _=>false)
def ann38:Ann:=⟨73,[(0,⟨[1,2,3,4,5,10],[5,10],[],[],[]⟩),(1,⟨[4,5,10,11],[5,10,11],[],[],[]⟩),(2,⟨[4,5,10,11,12,13,14],[5,10,11],[],[],[]⟩),(3,⟨[4,5,10,11,12,13,14,15],[5,10,11],[],[],[]⟩),(4,⟨[4,5,10,11,12,13,14,15,25],[5,10,11],[],[],[]⟩),(5,⟨[4,5,10,11,12,13,14,15],[5,10,11],[],[],[]⟩),(6,⟨[4,5,10,11,12,13,14,15,16],[5,10,11,16],[],[],[]⟩),(7,⟨[4,5,10,11,12,13,14,15],[5,10,11],[],[],[]⟩),(8,⟨[10],[10],[],[],[]⟩)],
  [(4,⟨[4,5,10,11,12,13,14,15],[5,10,11],[],[],[]⟩)],
  [(2,⟨[4,5,10,11],[5,10,11],[],[],[]⟩),(7,⟨[4,5,10,11,12,13,14,15,16],[5,10,11,16],[],[],[]⟩)],
  [],[]⟩
def f38_g0 (s:Sky) (l_a4:(Sl Spell)) (s_1v0_n:Nat) (s_1v0_g:Nat→List PV) (x_0v0:Int) (x_1v0:Int):St:=⟨[(4,.one (.c (.p (.sl l_a4.len 5 (fun i=>enc_56 (l_a4.get i)))))),(5,.one (.c (.ptr 5 0))),(10,.one (.c (.ptr 10 0))),(11,.one (.c (.ptr 11 0)))],[(5,.box 26 [.p (.int .i64 s.Parts),.p (.sl s_1v0_n 1 s_1v0_g),.p (.int .i64 s.Beta.Low),.p (.int .i64 s.Beta.High),.p (.int .i64 s.Alpha.Low),.p (.int .i64 s.Alpha.High)]),(10,.box 24 [.p (.int .i64 (0:Int)),.p (.int .i64 (0:Int))]),(11,.box 24 [.p (.int .i64 x_0v0),.p (.int .i64 x_1v0)])],[]⟩
def f38_at0 (K:List PA→Prop) (s:Sky) (l_a4:(Sl Spell)) (s_1v0_n:Nat) (s_1v0_g:Nat→List PV) (x_0v0:Int) (x_1v0:Int):Prop:=vc Try.prog G38 ann38 (cdF Try.f38 [1,1]) (bodyK Try.prog Try.f38 K) (f38_g0 s l_a4 s_1v0_n s_1v0_g x_0v0 x_1v0)
def f38_g1 (s:Sky) (l_a4:(Sl Spell)) (x_0v0:Int) (x_1v0:Int) (lowv1:Int) (highv1:Int) (slotsv1:Int) (iv1:Int) (s_1v1_n:Nat) (s_1v1_g:Nat→List PV):St:=⟨[(4,.one (.c (.p (.sl l_a4.len 5 (fun i=>enc_56 (l_a4.get i)))))),(5,.one (.c (.ptr 5 0))),(10,.one (.c (.ptr 10 0))),(11,.one (.c (.ptr 11 0))),(12,.one (.c (.p (.int .i64 lowv1)))),(13,.one (.c (.p (.int .i64 highv1)))),(14,.one (.c (.p (.int .i64 slotsv1)))),(15,.one (.c (.p (.int .i64 iv1))))],[(5,.box 26 [.p (.int .i64 s.Parts),.p (.sl s_1v1_n 1 s_1v1_g),.p (.int .i64 s.Beta.Low),.p (.int .i64 s.Beta.High),.p (.int .i64 s.Alpha.Low),.p (.int .i64 s.Alpha.High)]),(10,.box 24 [.p (.int .i64 (0:Int)),.p (.int .i64 (0:Int))]),(11,.box 24 [.p (.int .i64 x_0v0),.p (.int .i64 x_1v0)])],[]⟩
def f38_at1 (K:List PA→Prop) (s:Sky) (l_a4:(Sl Spell)) (x_0v0:Int) (x_1v0:Int) (lowv1:Int) (highv1:Int) (slotsv1:Int) (iv1:Int) (s_1v1_n:Nat) (s_1v1_g:Nat→List PV):Prop:=vc Try.prog G38 ann38 (cdF Try.f38 [1,1,1,0,1,0]) (blockK 0 (sqK Try.prog G38 ann38 (cdF Try.f38 [1,1,1,1]) (bodyK Try.prog Try.f38 K))) (f38_g1 s l_a4 x_0v0 x_1v0 lowv1 highv1 slotsv1 iv1 s_1v1_n s_1v1_g)
def f38_g2 (s:Sky) (l_a4:(Sl Spell)) (x_0v0:Int) (x_1v0:Int) (lowv2:Int) (highv2:Int) (slotsv2:Int) (iv2:Int) (s_1v2_n:Nat) (s_1v2_g:Nat→List PV) (y_0v2:Int) (y_1v2:Int):St:=⟨[(4,.one (.c (.p (.sl l_a4.len 5 (fun i=>enc_56 (l_a4.get i)))))),(5,.one (.c (.ptr 5 0))),(10,.one (.c (.ptr 10 0))),(11,.one (.c (.ptr 11 0))),(12,.one (.c (.p (.int .i64 lowv2)))),(13,.one (.c (.p (.int .i64 highv2)))),(14,.one (.c (.p (.int .i64 slotsv2)))),(15,.one (.c (.p (.int .i64 iv2)))),(16,.one (.c (.ptr 16 0)))],[(5,.box 26 [.p (.int .i64 s.Parts),.p (.sl s_1v2_n 1 s_1v2_g),.p (.int .i64 s.Beta.Low),.p (.int .i64 s.Beta.High),.p (.int .i64 s.Alpha.Low),.p (.int .i64 s.Alpha.High)]),(10,.box 24 [.p (.int .i64 (0:Int)),.p (.int .i64 (0:Int))]),(11,.box 24 [.p (.int .i64 x_0v0),.p (.int .i64 x_1v0)]),(16,.box 24 [.p (.int .i64 y_0v2),.p (.int .i64 y_1v2)])],[]⟩
def f38_at2 (K:List PA→Prop) (X1:St→Prop) (s:Sky) (l_a4:(Sl Spell)) (x_0v0:Int) (x_1v0:Int) (lowv2:Int) (highv2:Int) (slotsv2:Int) (iv2:Int) (s_1v2_n:Nat) (s_1v2_g:Nat→List PV) (y_0v2:Int) (y_1v2:Int):Prop:=vc Try.prog G38 ann38 (cdF Try.f38 [1,1,1,0,1,0,0,1,0,0,1]) (blockK 1 (sqK Try.prog G38 ann38 (cdF Try.f38 [1,1,1,0,1,0,0,1,1]) (loopK Try.prog ann38 4 X1 (blockK 0 (sqK Try.prog G38 ann38 (cdF Try.f38 [1,1,1,1]) (bodyK Try.prog Try.f38 K)))))) (f38_g2 s l_a4 x_0v0 x_1v0 lowv2 highv2 slotsv2 iv2 s_1v2_n s_1v2_g y_0v2 y_1v2)
theorem f38_top (s : Sky) (t : (Sl RangeRow)) (bin : Int) (opacity : Int) (l_a4 : (Sl Spell)) (K : List PA → Prop) :
  vcFun Try.prog G38 ann38 38 [.agg [.int .i64 s.Parts,.sl s.Bins.len 1 (fun i=>enc_32 (s.Bins.get i)),.int .i64 s.Beta.Low,.int .i64 s.Beta.High,.int .i64 s.Alpha.Low,.int .i64 s.Alpha.High],.one (.sl t.len 3 (fun i=>enc_42 (t.get i))),.one (.int .i64 bin),.one (.int .i64 opacity),.one (.sl l_a4.len 5 (fun i=>enc_56 (l_a4.get i)))] K =
  ((IsE enc_32 1 1 (fun i=>enc_32 (s.Bins.get i))∧IsE enc_42 3 3 (fun i=>enc_42 (t.get i))∧(p47 s t bin opacity=true)) ∧
  (f38_at0 K s l_a4 s.Bins.len (fun i=>enc_32 (s.Bins.get i)) ((s47 s t bin opacity).Low) ((s47 s t bin opacity).High))):=by kernel_rfl
theorem f38_eq0 (K : List PA → Prop) (s : Sky) (l_a4 : (Sl Spell)) (s_1v0 : (Sl (Sl FluxRow))) (x_0v0 : Int) (x_1v0 : Int) :
  f38_at0 K s l_a4 s_1v0.len (fun i=>enc_32 (s_1v0.get i)) x_0v0 x_1v0 =
  (f38_at1 K s l_a4 x_0v0 x_1v0 (0:Int) (0:Int) (0:Int) (0:Int) s_1v0.len (fun i=>enc_32 (s_1v0.get i))):=by kernel_rfl
def f38_step1 (K:List PA→Prop) (X1:St→Prop) (s:Sky) (l_a4:(Sl Spell)) (x_0v0:Int) (x_1v0:Int) (lowv1:Int) (highv1:Int) (slotsv1:Int) (iv1:Int) (s_1v1:(Sl (Sl FluxRow))):Prop :=
  (condP (decide (iv1 < (l_a4.len : Int)))
   (((0≤iv1∧iv1 < (l_a4.len:Int))) ∧
   ((IsE enc_32 1 1 (fun i=>enc_32 (s_1v1.get i))∧(p79 (⟨s.Parts,s_1v1,s.Beta,s.Alpha⟩:Sky) (⟨x_0v0,x_1v0⟩:Span) ((l_a4.get iv1.toNat).Weather)=true)) ∧
   (f38_at2 K X1 s l_a4 x_0v0 x_1v0 lowv1 highv1 slotsv1 iv1 s_1v1.len (fun i=>enc_32 (s_1v1.get i)) ((s79 (⟨s.Parts,s_1v1,s.Beta,s.Alpha⟩:Sky) (⟨x_0v0,x_1v0⟩:Span) ((l_a4.get iv1.toNat).Weather)).Low) ((s79 (⟨s.Parts,s_1v1,s.Beta,s.Alpha⟩:Sky) (⟨x_0v0,x_1v0⟩:Span) ((l_a4.get iv1.toNat).Weather)).High))))
   (((slotsv1 ≠ 0)) ∧
   (((slotsv1 ≠ 0)) ∧
   (K [.agg [.int .i64 (w64 (lowv1.tdiv slotsv1)),.int .i64 (w64 ((w64 ((w64 (highv1+slotsv1)) - (1:Int))).tdiv slotsv1))]]))))
theorem f38_stepeq1 (K : List PA → Prop) (X1 : St → Prop) (s : Sky) (l_a4 : (Sl Spell)) (x_0v0 : Int) (x_1v0 : Int) (lowv1 : Int) (highv1 : Int) (slotsv1 : Int) (iv1 : Int) (s_1v1 : (Sl (Sl FluxRow))) :
  vc Try.prog G38 ann38 (cd (cdF Try.f38 [1,1,1,0,1,0]) [0]) (loopK Try.prog ann38 4 X1 (blockK 0 (sqK Try.prog G38 ann38 (cdF Try.f38 [1,1,1,1]) (bodyK Try.prog Try.f38 K)))) (f38_g1 s l_a4 x_0v0 x_1v0 lowv1 highv1 slotsv1 iv1 s_1v1.len (fun i=>enc_32 (s_1v1.get i))) =
  f38_step1 K X1 s l_a4 x_0v0 x_1v0 lowv1 highv1 slotsv1 iv1 s_1v1:=by kernel_rfl
theorem f38_loop1 (K : List PA → Prop) (s : Sky) (l_a4 : (Sl Spell)) (x_0v0 : Int) (x_1v0 : Int) (lowv1 : Int) (highv1 : Int) (slotsv1 : Int) (iv1 : Int) (s_1v1_n : Nat) (s_1v1_g : Nat → List PV)
  (h:∀ X1:St→Prop,(∀ (lowv1:Int) (highv1:Int) (slotsv1:Int) (iv1:Int) (s_1v1:(Sl (Sl FluxRow))),f38_step1 K X1 s l_a4 x_0v0 x_1v0 lowv1 highv1 slotsv1 iv1 s_1v1→X1 (f38_g1 s l_a4 x_0v0 x_1v0 lowv1 highv1 slotsv1 iv1 s_1v1.len (fun i=>enc_32 (s_1v1.get i))))→X1 (f38_g1 s l_a4 x_0v0 x_1v0 lowv1 highv1 slotsv1 iv1 s_1v1_n s_1v1_g)) :
  f38_at1 K s l_a4 x_0v0 x_1v0 lowv1 highv1 slotsv1 iv1 s_1v1_n s_1v1_g:=by
  have e:f38_at1 K s l_a4 x_0v0 x_1v0 lowv1 highv1 slotsv1 iv1 s_1v1_n s_1v1_g=(∀ X:St→Prop,(∀ s,vc Try.prog G38 ann38 (cd (cdF Try.f38 [1,1,1,0,1,0]) [0]) (loopK Try.prog ann38 4 X (blockK 0 (sqK Try.prog G38 ann38 (cdF Try.f38 [1,1,1,1]) (bodyK Try.prog Try.f38 K)))) s→X s)→X (f38_g1 s l_a4 x_0v0 x_1v0 lowv1 highv1 slotsv1 iv1 s_1v1_n s_1v1_g)):=by kernel_rfl
  refine ofEq e ?_
  intro X hX
  refine h X ?_
  intro lowv1 highv1 slotsv1 iv1 s_1v1 hs
  refine hX _ ?_
  have e2:=f38_stepeq1 K X s l_a4 x_0v0 x_1v0 lowv1 highv1 slotsv1 iv1 s_1v1
  rw [e2]
  exact hs
theorem f38_eq2 (K : List PA → Prop) (X1 : St → Prop) (s : Sky) (l_a4 : (Sl Spell)) (x_0v0 : Int) (x_1v0 : Int) (lowv2 : Int) (highv2 : Int) (slotsv2 : Int) (iv2 : Int) (s_1v2 : (Sl (Sl FluxRow))) (y_0v2 : Int) (y_1v2 : Int) :
  f38_at2 K X1 s l_a4 x_0v0 x_1v0 lowv2 highv2 slotsv2 iv2 s_1v2.len (fun i=>enc_32 (s_1v2.get i)) y_0v2 y_1v2 =
  (((0≤iv2∧iv2 < (l_a4.len:Int))) ∧
  (((0≤iv2∧iv2 < (l_a4.len:Int))) ∧
  (((0≤iv2∧iv2 < (l_a4.len:Int))) ∧
  (X1 (f38_g1 s l_a4 x_0v0 x_1v0 (w64 (lowv2+(w64 ((l_a4.get iv2.toNat).Slots * y_0v2)))) (w64 (highv2+(w64 ((l_a4.get iv2.toNat).Slots * y_1v2)))) (w64 (slotsv2+(l_a4.get iv2.toNat).Slots)) (w64 (iv2+(1:Int))) s_1v2.len (fun i=>enc_32 (s_1v2.get i))))))):=by kernel_rfl
abbrev e38 (r:Span):List PA:=[.agg [.int .i64 r.Low,.int .i64 r.High]]
attribute [irreducible] f38_at0 f38_at1 f38_at2
def s38_at2 (S1:Int→Int→Int→Int→(Sl (Sl FluxRow))→Span) (s:Sky) (l_a4:(Sl Spell)) (x_0v0:Int) (x_1v0:Int) (lowv2:Int) (highv2:Int) (slotsv2:Int) (iv2:Int) (s_1v2:(Sl (Sl FluxRow))) (y_0v2:Int) (y_1v2:Int):Span :=
  (S1 (w64 (lowv2+(w64 ((l_a4.get iv2.toNat).Slots * y_0v2)))) (w64 (highv2+(w64 ((l_a4.get iv2.toNat).Slots * y_1v2)))) (w64 (slotsv2+(l_a4.get iv2.toNat).Slots)) (w64 (iv2+(1:Int))) s_1v2)
def p38_at2 (P1:Int→Int→Int→Int→(Sl (Sl FluxRow))→Bool) (s:Sky) (l_a4:(Sl Spell)) (x_0v0:Int) (x_1v0:Int) (lowv2:Int) (highv2:Int) (slotsv2:Int) (iv2:Int) (s_1v2:(Sl (Sl FluxRow))) (y_0v2:Int) (y_1v2:Int):Bool :=
  (decide ((0≤iv2∧iv2 < (l_a4.len:Int))) &&
  (decide ((0≤iv2∧iv2 < (l_a4.len:Int))) &&
  (decide ((0≤iv2∧iv2 < (l_a4.len:Int))) &&
  (P1 (w64 (lowv2+(w64 ((l_a4.get iv2.toNat).Slots * y_0v2)))) (w64 (highv2+(w64 ((l_a4.get iv2.toNat).Slots * y_1v2)))) (w64 (slotsv2+(l_a4.get iv2.toNat).Slots)) (w64 (iv2+(1:Int))) s_1v2))))
theorem q38_at2 (K : List PA → Prop) (s : Sky) (l_a4 : (Sl Spell)) (x_0v0 : Int) (x_1v0 : Int)
  (X1:St→Prop) (P1:Int→Int→Int→Int→(Sl (Sl FluxRow))→Bool) (S1:Int→Int→Int→Int→(Sl (Sl FluxRow))→Span)
  (hX1:∀ (lowv1:Int) (highv1:Int) (slotsv1:Int) (iv1:Int) (s_1v1:(Sl (Sl FluxRow))) (s_1v1_g:Nat→List PV) (s_1v1_h:s_1v1_g=fun i=>enc_32 (s_1v1.get i)),P1 lowv1 highv1 slotsv1 iv1 s_1v1=true→K (e38 (S1 lowv1 highv1 slotsv1 iv1 s_1v1))→X1 (f38_g1 s l_a4 x_0v0 x_1v0 lowv1 highv1 slotsv1 iv1 s_1v1.len s_1v1_g)) (lowv2:Int) (highv2:Int) (slotsv2:Int) (iv2:Int) (s_1v2:(Sl (Sl FluxRow))) (y_0v2:Int) (y_1v2:Int) (s_1v2_g:Nat→List PV) (s_1v2_h:s_1v2_g=fun i=>enc_32 (s_1v2.get i)) (hs:p38_at2 P1 s l_a4 x_0v0 x_1v0 lowv2 highv2 slotsv2 iv2 s_1v2 y_0v2 y_1v2=true) (hk:K (e38 (s38_at2 S1 s l_a4 x_0v0 x_1v0 lowv2 highv2 slotsv2 iv2 s_1v2 y_0v2 y_1v2))):f38_at2 K X1 s l_a4 x_0v0 x_1v0 lowv2 highv2 slotsv2 iv2 s_1v2.len s_1v2_g y_0v2 y_1v2:=by
  subst s_1v2_h
  refine ofEq (f38_eq2 K X1 s l_a4 x_0v0 x_1v0 lowv2 highv2 slotsv2 iv2 s_1v2 y_0v2 y_1v2) ?_
  unfold p38_at2 at hs
  unfold s38_at2 at hk
  exact (andK hs fun hc hs=>⟨hc,(andK hs fun hc hs=>⟨hc,(andK hs fun hc hs=>⟨hc,(hX1 (w64 (lowv2+(w64 ((l_a4.get iv2.toNat).Slots * y_0v2)))) (w64 (highv2+(w64 ((l_a4.get iv2.toNat).Slots * y_1v2)))) (w64 (slotsv2+(l_a4.get iv2.toNat).Slots)) (w64 (iv2+(1:Int))) s_1v2 (fun i=>enc_32 (s_1v2.get i)) rfl hs hk)⟩)⟩)⟩)
def s38_st1 (s:Sky) (l_a4:(Sl Spell)) (x_0v0:Int) (x_1v0:Int) (S1:Int→Int→Int→Int→(Sl (Sl FluxRow))→Span) (lowv1:Int) (highv1:Int) (slotsv1:Int) (iv1:Int) (s_1v1:(Sl (Sl FluxRow))):Span :=
  (cond (decide (iv1 < (l_a4.len : Int)))
   (s38_at2 S1 s l_a4 x_0v0 x_1v0 lowv1 highv1 slotsv1 iv1 s_1v1 ((s79 (⟨s.Parts,s_1v1,s.Beta,s.Alpha⟩:Sky) (⟨x_0v0,x_1v0⟩:Span) ((l_a4.get iv1.toNat).Weather)).Low) ((s79 (⟨s.Parts,s_1v1,s.Beta,s.Alpha⟩:Sky) (⟨x_0v0,x_1v0⟩:Span) ((l_a4.get iv1.toNat).Weather)).High))
   (⟨(w64 (lowv1.tdiv slotsv1)),(w64 ((w64 ((w64 (highv1+slotsv1)) - (1:Int))).tdiv slotsv1))⟩:Span))
def p38_st1 (s:Sky) (l_a4:(Sl Spell)) (x_0v0:Int) (x_1v0:Int) (P1:Int→Int→Int→Int→(Sl (Sl FluxRow))→Bool) (lowv1:Int) (highv1:Int) (slotsv1:Int) (iv1:Int) (s_1v1:(Sl (Sl FluxRow))):Bool :=
  (cond (decide (iv1 < (l_a4.len : Int)))
   (decide ((0≤iv1∧iv1 < (l_a4.len:Int))) &&
   (decide ((p79 (⟨s.Parts,s_1v1,s.Beta,s.Alpha⟩:Sky) (⟨x_0v0,x_1v0⟩:Span) ((l_a4.get iv1.toNat).Weather)=true)) &&
   (p38_at2 P1 s l_a4 x_0v0 x_1v0 lowv1 highv1 slotsv1 iv1 s_1v1 ((s79 (⟨s.Parts,s_1v1,s.Beta,s.Alpha⟩:Sky) (⟨x_0v0,x_1v0⟩:Span) ((l_a4.get iv1.toNat).Weather)).Low) ((s79 (⟨s.Parts,s_1v1,s.Beta,s.Alpha⟩:Sky) (⟨x_0v0,x_1v0⟩:Span) ((l_a4.get iv1.toNat).Weather)).High))))
   (decide ((slotsv1 ≠ 0)) &&
   (decide ((slotsv1 ≠ 0)) &&
   true)))
def s38_lp1 (s : Sky) (l_a4 : (Sl Spell)) (x_0v0 : Int) (x_1v0 : Int) : Nat → Int → Int → Int → Int → (Sl (Sl FluxRow)) → Span
  | 0=>fun _ _ _ _ _=>default
  | k+1=>s38_st1 s l_a4 x_0v0 x_1v0 (s38_lp1 s l_a4 x_0v0 x_1v0 k)
def p38_lp1 (s : Sky) (l_a4 : (Sl Spell)) (x_0v0 : Int) (x_1v0 : Int) : Nat → Int → Int → Int → Int → (Sl (Sl FluxRow)) → Bool
  | 0=>fun _ _ _ _ _=>false
  | k+1=>p38_st1 s l_a4 x_0v0 x_1v0 (p38_lp1 s l_a4 x_0v0 x_1v0 k)
def s38_at1 (s:Sky) (l_a4:(Sl Spell)) (x_0v0:Int) (x_1v0:Int) (lowv1:Int) (highv1:Int) (slotsv1:Int) (iv1:Int) (s_1v1:(Sl (Sl FluxRow))):Span:=s38_lp1 s l_a4 x_0v0 x_1v0 Fuel lowv1 highv1 slotsv1 iv1 s_1v1
def p38_at1 (s:Sky) (l_a4:(Sl Spell)) (x_0v0:Int) (x_1v0:Int) (lowv1:Int) (highv1:Int) (slotsv1:Int) (iv1:Int) (s_1v1:(Sl (Sl FluxRow))):Bool:=p38_lp1 s l_a4 x_0v0 x_1v0 Fuel lowv1 highv1 slotsv1 iv1 s_1v1
theorem q38_at1 (K:List PA→Prop) (s:Sky) (l_a4:(Sl Spell)) (x_0v0:Int) (x_1v0:Int) (lowv1:Int) (highv1:Int) (slotsv1:Int) (iv1:Int) (s_1v1:(Sl (Sl FluxRow))) (s_1v1_g:Nat→List PV) (s_1v1_h:s_1v1_g=fun i=>enc_32 (s_1v1.get i)) (hs:p38_at1 s l_a4 x_0v0 x_1v0 lowv1 highv1 slotsv1 iv1 s_1v1=true) (hk:K (e38 (s38_at1 s l_a4 x_0v0 x_1v0 lowv1 highv1 slotsv1 iv1 s_1v1))):f38_at1 K s l_a4 x_0v0 x_1v0 lowv1 highv1 slotsv1 iv1 s_1v1.len s_1v1_g:=by
  refine f38_loop1 K s l_a4 x_0v0 x_1v0 lowv1 highv1 slotsv1 iv1 s_1v1.len s_1v1_g ?_
  intro X1 hstep
  have key:∀ (k:Nat) (lowv1:Int) (highv1:Int) (slotsv1:Int) (iv1:Int) (s_1v1:(Sl (Sl FluxRow))) (s_1v1_g:Nat→List PV) (s_1v1_h:s_1v1_g=fun i=>enc_32 (s_1v1.get i)),p38_lp1 s l_a4 x_0v0 x_1v0 k lowv1 highv1 slotsv1 iv1 s_1v1=true→K (e38 (s38_lp1 s l_a4 x_0v0 x_1v0 k lowv1 highv1 slotsv1 iv1 s_1v1))→X1 (f38_g1 s l_a4 x_0v0 x_1v0 lowv1 highv1 slotsv1 iv1 s_1v1.len s_1v1_g):=by
    intro k
    induction k with
    | zero=>intro lowv1 highv1 slotsv1 iv1 s_1v1 s_1v1_g s_1v1_h hs;exact absurd hs Bool.false_ne_true
    | succ k ih =>
      intro lowv1 highv1 slotsv1 iv1 s_1v1 s_1v1_g s_1v1_h hs hk
      subst s_1v1_h
      refine hstep lowv1 highv1 slotsv1 iv1 s_1v1 ?_
      have hs:p38_st1 s l_a4 x_0v0 x_1v0 (p38_lp1 s l_a4 x_0v0 x_1v0 k) lowv1 highv1 slotsv1 iv1 s_1v1=true:=hs
      have hk:K (e38 (s38_st1 s l_a4 x_0v0 x_1v0 (s38_lp1 s l_a4 x_0v0 x_1v0 k) lowv1 highv1 slotsv1 iv1 s_1v1)):=hk
      unfold p38_st1 at hs
      unfold s38_st1 at hk
      generalize s38_lp1 s l_a4 x_0v0 x_1v0 k=S1 at hk ih
      generalize p38_lp1 s l_a4 x_0v0 x_1v0 k=P1 at hs ih
      have hX1:=ih
      exact (condB_go (K := fun r => K (e38 r))
       (fun hs hk=>(andK hs fun hc hs=>⟨hc,(andK hs fun hc hs=>⟨⟨isE,hc⟩,(q38_at2 K s l_a4 x_0v0 x_1v0 X1 P1 S1 hX1 lowv1 highv1 slotsv1 iv1 s_1v1 ((s79 (⟨s.Parts,s_1v1,s.Beta,s.Alpha⟩:Sky) (⟨x_0v0,x_1v0⟩:Span) ((l_a4.get iv1.toNat).Weather)).Low) ((s79 (⟨s.Parts,s_1v1,s.Beta,s.Alpha⟩:Sky) (⟨x_0v0,x_1v0⟩:Span) ((l_a4.get iv1.toNat).Weather)).High) (fun i=>enc_32 (s_1v1.get i)) rfl hs hk)⟩)⟩))
       (fun hs hk=>(andK hs fun hc hs=>⟨hc,(andK hs fun hc hs=>⟨hc,hk⟩)⟩)) hs hk)
  exact key _ lowv1 highv1 slotsv1 iv1 s_1v1 s_1v1_g s_1v1_h hs hk
def s38_at0 (s:Sky) (l_a4:(Sl Spell)) (s_1v0:(Sl (Sl FluxRow))) (x_0v0:Int) (x_1v0:Int):Span :=
  (s38_at1 s l_a4 x_0v0 x_1v0 (0:Int) (0:Int) (0:Int) (0:Int) s_1v0)
def p38_at0 (s:Sky) (l_a4:(Sl Spell)) (s_1v0:(Sl (Sl FluxRow))) (x_0v0:Int) (x_1v0:Int):Bool :=
  (p38_at1 s l_a4 x_0v0 x_1v0 (0:Int) (0:Int) (0:Int) (0:Int) s_1v0)
theorem q38_at0 (K:List PA→Prop) (s:Sky) (l_a4:(Sl Spell)) (s_1v0:(Sl (Sl FluxRow))) (x_0v0:Int) (x_1v0:Int) (s_1v0_g:Nat→List PV) (s_1v0_h:s_1v0_g=fun i=>enc_32 (s_1v0.get i)) (hs:p38_at0 s l_a4 s_1v0 x_0v0 x_1v0=true) (hk:K (e38 (s38_at0 s l_a4 s_1v0 x_0v0 x_1v0))):f38_at0 K s l_a4 s_1v0.len s_1v0_g x_0v0 x_1v0:=by
  subst s_1v0_h
  refine ofEq (f38_eq0 K s l_a4 s_1v0 x_0v0 x_1v0) ?_
  unfold p38_at0 at hs
  unfold s38_at0 at hk
  exact (q38_at1 K s l_a4 x_0v0 x_1v0 (0:Int) (0:Int) (0:Int) (0:Int) s_1v0 (fun i=>enc_32 (s_1v0.get i)) rfl hs hk)
def s38 (s:Sky) (t:(Sl RangeRow)) (bin:Int) (opacity:Int) (l_a4:(Sl Spell)):Span :=
  (s38_at0 s l_a4 s.Bins ((s47 s t bin opacity).Low) ((s47 s t bin opacity).High))
def p38 (s:Sky) (t:(Sl RangeRow)) (bin:Int) (opacity:Int) (l_a4:(Sl Spell)):Bool :=
  (decide ((p47 s t bin opacity=true)) &&
  (p38_at0 s l_a4 s.Bins ((s47 s t bin opacity).Low) ((s47 s t bin opacity).High)))
theorem q38 (s:Sky) (t:(Sl RangeRow)) (bin:Int) (opacity:Int) (l_a4:(Sl Spell)) (K:List PA→Prop) (hs:p38 s t bin opacity l_a4=true) (hk:K (e38 (s38 s t bin opacity l_a4))):vcFun Try.prog G38 ann38 38 [.agg [.int .i64 s.Parts,.sl s.Bins.len 1 (fun i=>enc_32 (s.Bins.get i)),.int .i64 s.Beta.Low,.int .i64 s.Beta.High,.int .i64 s.Alpha.Low,.int .i64 s.Alpha.High],.one (.sl t.len 3 (fun i=>enc_42 (t.get i))),.one (.int .i64 bin),.one (.int .i64 opacity),.one (.sl l_a4.len 5 (fun i=>enc_56 (l_a4.get i)))] K:=by
  refine ofEq (f38_top s t bin opacity l_a4 K) ?_
  unfold p38 at hs
  unfold s38 at hk
  exact (andK hs fun hc hs=>⟨⟨isE,isE,hc⟩,(q38_at0 K s l_a4 s.Bins ((s47 s t bin opacity).Low) ((s47 s t bin opacity).High) (fun i=>enc_32 (s.Bins.get i)) rfl hs hk)⟩)
def ctr38 : List PA → COut
  | [.agg [.int .i64 a0_Parts,.sl a0_Bins_n a0_Bins_s a0_Bins_g,.int .i64 a0_Beta_Low,.int .i64 a0_Beta_High,.int .i64 a0_Alpha_Low,.int .i64 a0_Alpha_High],.one (.sl a1_n a1_s a1_g),.one (.int .i64 a2),.one (.int .i64 a3),.one (.sl a4_n a4_s a4_g)]=>.det (IsE enc_32 1 a0_Bins_s a0_Bins_g∧IsE enc_42 3 a1_s a1_g∧IsE enc_56 5 a4_s a4_g∧p38 (⟨a0_Parts,(⟨a0_Bins_n,decF_32 a0_Bins_g⟩:(Sl (Sl FluxRow))),(⟨a0_Beta_Low,a0_Beta_High⟩:Span),(⟨a0_Alpha_Low,a0_Alpha_High⟩:Span)⟩:Sky) (⟨a1_n,decF_42 a1_g⟩:(Sl RangeRow)) a2 a3 (⟨a4_n,decF_56 a4_g⟩:(Sl Spell))=true) [.agg [.int .i64 ((s38 (⟨a0_Parts,(⟨a0_Bins_n,decF_32 a0_Bins_g⟩:(Sl (Sl FluxRow))),(⟨a0_Beta_Low,a0_Beta_High⟩:Span),(⟨a0_Alpha_Low,a0_Alpha_High⟩:Span)⟩:Sky) (⟨a1_n,decF_42 a1_g⟩:(Sl RangeRow)) a2 a3 (⟨a4_n,decF_56 a4_g⟩:(Sl Spell))).Low),.int .i64 ((s38 (⟨a0_Parts,(⟨a0_Bins_n,decF_32 a0_Bins_g⟩:(Sl (Sl FluxRow))),(⟨a0_Beta_Low,a0_Beta_High⟩:Span),(⟨a0_Alpha_Low,a0_Alpha_High⟩:Span)⟩:Sky) (⟨a1_n,decF_42 a1_g⟩:(Sl RangeRow)) a2 a3 (⟨a4_n,decF_56 a4_g⟩:(Sl Spell))).High)]]
  | _=>.no
theorem call38:Callable Try.prog 38:=⟨_,rfl,rfl,by kernel_rfl⟩
theorem ok38:Ok Try.prog 38 ctr38:=ok_tab okT38 call38 fun args K h=>by
  unfold ctr38 at h
  split at h
  · rename_i a0_Parts a0_Bins_n a0_Bins_s a0_Bins_g a0_Beta_Low a0_Beta_High a0_Alpha_Low a0_Alpha_High a1_n a1_s a1_g a2 a3 a4_n a4_s a4_g
    obtain ⟨⟨⟨rfl,a0_Bins_f,rfl⟩,⟨rfl,a1_f,rfl⟩,⟨rfl,a4_f,rfl⟩,hs⟩,hk⟩:=h
    try rw [decF_enc_32 a0_Bins_f] at hs
    try rw [decF_enc_32 a0_Bins_f] at hk
    try rw [decF_enc_42 a1_f] at hs
    try rw [decF_enc_42 a1_f] at hk
    try rw [decF_enc_56 a4_f] at hs
    try rw [decF_enc_56 a4_f] at hk
    exact ⟨(fun _ _=>[]),(fun _=>false),ann38,q38 (⟨a0_Parts,(⟨a0_Bins_n,a0_Bins_f⟩:(Sl (Sl FluxRow))),(⟨a0_Beta_Low,a0_Beta_High⟩:Span),(⟨a0_Alpha_Low,a0_Alpha_High⟩:Span)⟩:Sky) (⟨a1_n,a1_f⟩:(Sl RangeRow)) a2 a3 (⟨a4_n,a4_f⟩:(Sl Spell)) K hs hk⟩
  · exact h.elim
abbrev T73:Tabs:=Tabs.nil
theorem okT73:TabsOk Try.prog T73:=TabsOk.nil
abbrev G73:Ctrs:=csm T73 (fun _ _=>[]) (fun _=>false)
def ann73:Ann:=⟨84,[(0,⟨[0],[],[],[],[]⟩),(1,⟨[0,3],[8],[],[],[]⟩),(2,⟨[0,3,4],[8],[],[],[]⟩),(3,⟨[0,3,4,12],[8],[],[],[]⟩),(4,⟨[0,3,4],[8],[],[],[]⟩),(5,⟨[0,3,4],[8],[],[],[]⟩),(6,⟨[3,5],[8],[],[],[]⟩),(7,⟨[3,5,6],[8,83],[],[],[]⟩),(8,⟨[3,5,6,7],[8,83],[],[],[]⟩),(9,⟨[3,5,6,7,35],[8,83],[],[],[]⟩),(10,⟨[3,5,6,7],[8,83],[],[],[]⟩),(11,⟨[3,5,6,7,72],[8,83],[],[],[]⟩),(12,⟨[3,5,6,7],[8,83],[],[],[]⟩),(13,⟨[3,5,6,78],[8,83],[],[],[]⟩),(14,⟨[2],[83],[],[],[]⟩),(15,⟨[3,5],[8,83],[],[],[]⟩)],
  [(3,⟨[0,3,4],[8],[],[],[]⟩),(7,⟨[3,5],[8,83],[(5,83,3,fun _=>enc_3 default)],[],[]⟩),(9,⟨[3,5,6,7],[8,83],[],[],[]⟩)],
  [(6,⟨[3],[8],[],[],[]⟩)],
  [],[]⟩
def f73_g0 (t:(Sl RangeRow)) (iv0:Int) (v8v0_n:Nat) (v8v0_g:Nat→List PV):St:=⟨[(0,.one (.c (.p (.sl t.len 3 (fun i=>enc_42 (t.get i)))))),(3,.one (.c (.vec 8))),(4,.one (.c (.p (.int .i64 iv0))))],[(8,.vec 3 1 8 v8v0_n v8v0_g)],[]⟩
def f73_at0 (K:List PA→Prop) (t:(Sl RangeRow)) (iv0:Int) (v8v0_n:Nat) (v8v0_g:Nat→List PV):Prop:=vc Try.prog G73 ann73 (cdF Try.f73 [1,1,0,1,0]) (blockK 0 (sqK Try.prog G73 ann73 (cdF Try.f73 [1,1,1]) (bodyK Try.prog Try.f73 K))) (f73_g0 t iv0 v8v0_n v8v0_g)
def f73_g1 (v8v1_n:Nat) (v8v1_g:Nat→List PV):St:=⟨[(3,.one (.c (.vec 8)))],[(8,.vec 3 1 8 v8v1_n v8v1_g)],[]⟩
def f73_at1 (K:List PA→Prop) (v8v1_n:Nat) (v8v1_g:Nat→List PV):Prop:=vc Try.prog G73 ann73 (cdF Try.f73 [1,1,1]) (bodyK Try.prog Try.f73 K) (f73_g1 v8v1_n v8v1_g)
def f73_g2 (v8v1:(Sl Int)) (v83v2_n:Nat) (v83v2_g:Nat→List PV):St:=⟨[(3,.one (.c (.vec 8))),(5,.one (.c (.vec 83)))],[(8,.vec 3 1 8 v8v1.len (fun i=>enc_3 (v8v1.get i))),(83,.vec 3 1 8 v83v2_n v83v2_g)],[]⟩
def f73_at2 (K:List PA→Prop) (v8v1:(Sl Int)) (v83v2_n:Nat) (v83v2_g:Nat→List PV):Prop:=vc Try.prog G73 ann73 (cdF Try.f73 [1,1,1,1,0]) (blockK 2 (bodyK Try.prog Try.f73 K)) (f73_g2 v8v1 v83v2_n v83v2_g)
def f73_g3 (v8v1:(Sl Int)) (leastv3:Int) (iv3:Int) (v83v3_n:Nat) (v83v3_g:Nat→List PV):St:=⟨[(3,.one (.c (.vec 8))),(5,.one (.c (.vec 83))),(6,.one (.c (.p (.int .i64 leastv3)))),(7,.one (.c (.p (.int .i64 iv3))))],[(8,.vec 3 1 8 v8v1.len (fun i=>enc_3 (v8v1.get i))),(83,.vec 3 1 8 v83v3_n v83v3_g)],[]⟩
def f73_at3 (K:List PA→Prop) (X2:St→Prop) (v8v1:(Sl Int)) (leastv3:Int) (iv3:Int) (v83v3_n:Nat) (v83v3_g:Nat→List PV):Prop:=vc Try.prog G73 ann73 (cdF Try.f73 [1,1,1,1,0,0,0,1,0,1,0]) (blockK 4 (sqK Try.prog G73 ann73 (cdF Try.f73 [1,1,1,1,0,0,0,1,1]) (blockK 3 (loopK Try.prog ann73 7 X2 (blockK 2 (bodyK Try.prog Try.f73 K)))))) (f73_g3 v8v1 leastv3 iv3 v83v3_n v83v3_g)
theorem f73_top (t : (Sl RangeRow)) (K : List PA → Prop) :
  vcFun Try.prog G73 ann73 73 [.one (.sl t.len 3 (fun i=>enc_42 (t.get i)))] K =
  (f73_at0 K t (0:Int) 2 (getL [(enc_3 (0:Int)),(enc_3 (1:Int))])):=by kernel_rfl
def f73_step0 (K:List PA→Prop) (X0:St→Prop) (t:(Sl RangeRow)) (iv0:Int) (v8v0:(Sl Int)):Prop :=
  (condP (decide (iv0 < (t.len : Int)))
   (((0≤iv0∧iv0 < (t.len:Int))) ∧
   (((0≤iv0∧iv0 < (t.len:Int))) ∧
   ((((v8v0.len+2) * 8≤140737488355328∧v8v0.len+2≤9223372036854775807)) ∧
   (X0 (f73_g0 t (w64 (iv0+(1:Int))) (v8v0.len+2) (appG v8v0.len (fun i=>enc_3 (v8v0.get i)) (getL [(enc_3 (w64 ((t.get iv0.toNat).Range.Low+(1:Int)))),(enc_3 (w64 ((t.get iv0.toNat).Range.High+(1:Int))))])))))))
   (f73_at1 K v8v0.len (fun i=>enc_3 (v8v0.get i))))
theorem f73_stepeq0 (K : List PA → Prop) (X0 : St → Prop) (t : (Sl RangeRow)) (iv0 : Int) (v8v0 : (Sl Int)) :
  vc Try.prog G73 ann73 (cd (cdF Try.f73 [1,1,0,1,0]) [0]) (loopK Try.prog ann73 3 X0 (blockK 0 (sqK Try.prog G73 ann73 (cdF Try.f73 [1,1,1]) (bodyK Try.prog Try.f73 K)))) (f73_g0 t iv0 v8v0.len (fun i=>enc_3 (v8v0.get i))) =
  f73_step0 K X0 t iv0 v8v0:=by kernel_rfl
theorem f73_loop0 (K : List PA → Prop) (t : (Sl RangeRow)) (iv0 : Int) (v8v0_n : Nat) (v8v0_g : Nat → List PV)
  (h:∀ X0:St→Prop,(∀ (iv0:Int) (v8v0:(Sl Int)),f73_step0 K X0 t iv0 v8v0→X0 (f73_g0 t iv0 v8v0.len (fun i=>enc_3 (v8v0.get i))))→X0 (f73_g0 t iv0 v8v0_n v8v0_g)) :
  f73_at0 K t iv0 v8v0_n v8v0_g:=by
  have e:f73_at0 K t iv0 v8v0_n v8v0_g=(∀ X:St→Prop,(∀ s,vc Try.prog G73 ann73 (cd (cdF Try.f73 [1,1,0,1,0]) [0]) (loopK Try.prog ann73 3 X (blockK 0 (sqK Try.prog G73 ann73 (cdF Try.f73 [1,1,1]) (bodyK Try.prog Try.f73 K)))) s→X s)→X (f73_g0 t iv0 v8v0_n v8v0_g)):=by kernel_rfl
  refine ofEq e ?_
  intro X hX
  refine h X ?_
  intro iv0 v8v0 hs
  refine hX _ ?_
  have e2:=f73_stepeq0 K X t iv0 v8v0
  rw [e2]
  exact hs
theorem f73_eq1 (K : List PA → Prop) (v8v1 : (Sl Int)) :
  f73_at1 K v8v1.len (fun i=>enc_3 (v8v1.get i)) =
  (f73_at2 K v8v1 0 (fun i=>enc_3 ((fun _=>default) i))):=by kernel_rfl
def f73_step2 (K:List PA→Prop) (X2:St→Prop) (v8v1:(Sl Int)) (v83v2:(Sl Int)):Prop :=
  (f73_at3 K X2 v8v1 (-1:Int) (0:Int) v83v2.len (fun i=>enc_3 (v83v2.get i)))
theorem f73_stepeq2 (K : List PA → Prop) (X2 : St → Prop) (v8v1 : (Sl Int)) (v83v2 : (Sl Int)) :
  vc Try.prog G73 ann73 (cd (cdF Try.f73 [1,1,1,1,0]) [0]) (loopK Try.prog ann73 7 X2 (blockK 2 (bodyK Try.prog Try.f73 K))) (f73_g2 v8v1 v83v2.len (fun i=>enc_3 (v83v2.get i))) =
  f73_step2 K X2 v8v1 v83v2:=by kernel_rfl
theorem f73_loop2 (K : List PA → Prop) (v8v1 : (Sl Int)) (v83v2_n : Nat) (v83v2_g : Nat → List PV)
  (h:∀ X2:St→Prop,(∀ (v83v2:(Sl Int)),f73_step2 K X2 v8v1 v83v2→X2 (f73_g2 v8v1 v83v2.len (fun i=>enc_3 (v83v2.get i))))→X2 (f73_g2 v8v1 v83v2_n v83v2_g)) :
  f73_at2 K v8v1 v83v2_n v83v2_g:=by
  have e:f73_at2 K v8v1 v83v2_n v83v2_g=(∀ X:St→Prop,(∀ s,vc Try.prog G73 ann73 (cd (cdF Try.f73 [1,1,1,1,0]) [0]) (loopK Try.prog ann73 7 X (blockK 2 (bodyK Try.prog Try.f73 K))) s→X s)→X (f73_g2 v8v1 v83v2_n v83v2_g)):=by kernel_rfl
  refine ofEq e ?_
  intro X hX
  refine h X ?_
  intro v83v2 hs
  refine hX _ ?_
  have e2:=f73_stepeq2 K X v8v1 v83v2
  rw [e2]
  exact hs
def f73_step3 (K:List PA→Prop) (X2:St→Prop) (X3:St→Prop) (v8v1:(Sl Int)) (leastv3:Int) (iv3:Int) (v83v3:(Sl Int)):Prop :=
  (condP (decide (iv3 < (v8v1.len : Int)))
   (((0≤iv3∧iv3 < (v8v1.len:Int))) ∧
   (((iv3.toNat < v8v1.len)) ∧
   (condP (decide ((v8v1.get iv3.toNat) ≤ (1000000:Int)))
    (condP ((v83v3.len : Int) == (0:Int))
     (condP (decide (leastv3 < (0:Int)))
      (((0≤iv3∧iv3 < (v8v1.len:Int))) ∧
      (((iv3.toNat < v8v1.len)) ∧
      (X3 (f73_g3 v8v1 (v8v1.get iv3.toNat) (w64 (iv3+(1:Int))) v83v3.len (fun i=>enc_3 (v83v3.get i))))))
      (((0≤iv3∧iv3 < (v8v1.len:Int))) ∧
      (((iv3.toNat < v8v1.len)) ∧
      (condP (decide ((v8v1.get iv3.toNat) < leastv3))
       (((0≤iv3∧iv3 < (v8v1.len:Int))) ∧
       (((iv3.toNat < v8v1.len)) ∧
       (X3 (f73_g3 v8v1 (v8v1.get iv3.toNat) (w64 (iv3+(1:Int))) v83v3.len (fun i=>enc_3 (v83v3.get i))))))
       (X3 (f73_g3 v8v1 leastv3 (w64 (iv3+(1:Int))) v83v3.len (fun i=>enc_3 (v83v3.get i))))))))
     (((0≤iv3∧iv3 < (v8v1.len:Int))) ∧
     (((iv3.toNat < v8v1.len)) ∧
     (((0≤(w64 ((v83v3.len:Int) - (1:Int)))∧(w64 ((v83v3.len:Int) - (1:Int))) < (v83v3.len:Int))) ∧
     ((((w64 ((v83v3.len:Int) - (1:Int))).toNat < v83v3.len)) ∧
     (condP (decide ((v8v1.get iv3.toNat) > (v83v3.get ((w64 ((v83v3.len : Int) - (1:Int))).toNat))))
      (condP (decide (leastv3 < (0:Int)))
       (((0≤iv3∧iv3 < (v8v1.len:Int))) ∧
       (((iv3.toNat < v8v1.len)) ∧
       (X3 (f73_g3 v8v1 (v8v1.get iv3.toNat) (w64 (iv3+(1:Int))) v83v3.len (fun i=>enc_3 (v83v3.get i))))))
       (((0≤iv3∧iv3 < (v8v1.len:Int))) ∧
       (((iv3.toNat < v8v1.len)) ∧
       (condP (decide ((v8v1.get iv3.toNat) < leastv3))
        (((0≤iv3∧iv3 < (v8v1.len:Int))) ∧
        (((iv3.toNat < v8v1.len)) ∧
        (X3 (f73_g3 v8v1 (v8v1.get iv3.toNat) (w64 (iv3+(1:Int))) v83v3.len (fun i=>enc_3 (v83v3.get i))))))
        (X3 (f73_g3 v8v1 leastv3 (w64 (iv3+(1:Int))) v83v3.len (fun i=>enc_3 (v83v3.get i))))))))
      (X3 (f73_g3 v8v1 leastv3 (w64 (iv3+(1:Int))) v83v3.len (fun i=>enc_3 (v83v3.get i))))))))))
    (X3 (f73_g3 v8v1 leastv3 (w64 (iv3+(1:Int))) v83v3.len (fun i=>enc_3 (v83v3.get i)))))))
   (condP (decide (leastv3 < (0:Int)))
    (K [.one (.sl v83v3.len 1 (fun i=>enc_3 (v83v3.get i)))])
    ((((v83v3.len+1) * 8≤140737488355328∧v83v3.len+1≤9223372036854775807)) ∧
    (X2 (f73_g2 v8v1 (v83v3.len+1) (appG v83v3.len (fun i=>enc_3 (v83v3.get i)) (fun _=>(enc_3 leastv3))))))))
theorem f73_stepeq3 (K : List PA → Prop) (X2 : St → Prop) (X3 : St → Prop) (v8v1 : (Sl Int)) (leastv3 : Int) (iv3 : Int) (v83v3 : (Sl Int)) :
  vc Try.prog G73 ann73 (cd (cdF Try.f73 [1,1,1,1,0,0,0,1,0,1,0]) [0]) (loopK Try.prog ann73 9 X3 (blockK 4 (sqK Try.prog G73 ann73 (cdF Try.f73 [1,1,1,1,0,0,0,1,1]) (blockK 3 (loopK Try.prog ann73 7 X2 (blockK 2 (bodyK Try.prog Try.f73 K))))))) (f73_g3 v8v1 leastv3 iv3 v83v3.len (fun i=>enc_3 (v83v3.get i))) =
  f73_step3 K X2 X3 v8v1 leastv3 iv3 v83v3:=by kernel_rfl
theorem f73_loop3 (K : List PA → Prop) (X2 : St → Prop) (v8v1 : (Sl Int)) (leastv3 : Int) (iv3 : Int) (v83v3_n : Nat) (v83v3_g : Nat → List PV)
  (h:∀ X3:St→Prop,(∀ (leastv3:Int) (iv3:Int) (v83v3:(Sl Int)),f73_step3 K X2 X3 v8v1 leastv3 iv3 v83v3→X3 (f73_g3 v8v1 leastv3 iv3 v83v3.len (fun i=>enc_3 (v83v3.get i))))→X3 (f73_g3 v8v1 leastv3 iv3 v83v3_n v83v3_g)) :
  f73_at3 K X2 v8v1 leastv3 iv3 v83v3_n v83v3_g:=by
  have e:f73_at3 K X2 v8v1 leastv3 iv3 v83v3_n v83v3_g=(∀ X:St→Prop,(∀ s,vc Try.prog G73 ann73 (cd (cdF Try.f73 [1,1,1,1,0,0,0,1,0,1,0]) [0]) (loopK Try.prog ann73 9 X (blockK 4 (sqK Try.prog G73 ann73 (cdF Try.f73 [1,1,1,1,0,0,0,1,1]) (blockK 3 (loopK Try.prog ann73 7 X2 (blockK 2 (bodyK Try.prog Try.f73 K))))))) s→X s)→X (f73_g3 v8v1 leastv3 iv3 v83v3_n v83v3_g)):=by kernel_rfl
  refine ofEq e ?_
  intro X hX
  refine h X ?_
  intro leastv3 iv3 v83v3 hs
  refine hX _ ?_
  have e2:=f73_stepeq3 K X2 X v8v1 leastv3 iv3 v83v3
  rw [e2]
  exact hs
abbrev e73 (r:(Sl Int)):List PA:=[.one (.sl r.len 1 (fun i=>enc_3 (r.get i)))]
attribute [irreducible] f73_at0 f73_at1 f73_at2 f73_at3
def s73_st3 (S2:(Sl Int)→(Sl Int)) (v8v1:(Sl Int)) (S3:Int→Int→(Sl Int)→(Sl Int)) (leastv3:Int) (iv3:Int) (v83v3:(Sl Int)):(Sl Int) :=
  (cond (decide (iv3 < (v8v1.len : Int)))
   (cond (decide ((v8v1.get iv3.toNat) ≤ (1000000:Int)))
    (cond ((v83v3.len : Int) == (0:Int))
     (cond (decide (leastv3 < (0:Int)))
      (S3 (v8v1.get iv3.toNat) (w64 (iv3+(1:Int))) v83v3)
      (cond (decide ((v8v1.get iv3.toNat) < leastv3))
       (S3 (v8v1.get iv3.toNat) (w64 (iv3+(1:Int))) v83v3)
       (S3 leastv3 (w64 (iv3+(1:Int))) v83v3)))
     (cond (decide ((v8v1.get iv3.toNat) > (v83v3.get ((w64 ((v83v3.len : Int) - (1:Int))).toNat))))
      (cond (decide (leastv3 < (0:Int)))
       (S3 (v8v1.get iv3.toNat) (w64 (iv3+(1:Int))) v83v3)
       (cond (decide ((v8v1.get iv3.toNat) < leastv3))
        (S3 (v8v1.get iv3.toNat) (w64 (iv3+(1:Int))) v83v3)
        (S3 leastv3 (w64 (iv3+(1:Int))) v83v3)))
      (S3 leastv3 (w64 (iv3+(1:Int))) v83v3)))
    (S3 leastv3 (w64 (iv3+(1:Int))) v83v3))
   (cond (decide (leastv3 < (0:Int)))
    v83v3
    (S2 (⟨(v83v3.len+1),(appT v83v3.len v83v3.get (fun _=>leastv3))⟩:Sl Int))))
def p73_st3 (P2:(Sl Int)→Bool) (v8v1:(Sl Int)) (P3:Int→Int→(Sl Int)→Bool) (leastv3:Int) (iv3:Int) (v83v3:(Sl Int)):Bool :=
  (cond (decide (iv3 < (v8v1.len : Int)))
   (decide ((0≤iv3∧iv3 < (v8v1.len:Int))) &&
   (decide ((iv3.toNat < v8v1.len)) &&
   (cond (decide ((v8v1.get iv3.toNat) ≤ (1000000:Int)))
    (cond ((v83v3.len : Int) == (0:Int))
     (cond (decide (leastv3 < (0:Int)))
      (decide ((0≤iv3∧iv3 < (v8v1.len:Int))) &&
      (decide ((iv3.toNat < v8v1.len)) &&
      (P3 (v8v1.get iv3.toNat) (w64 (iv3+(1:Int))) v83v3)))
      (decide ((0≤iv3∧iv3 < (v8v1.len:Int))) &&
      (decide ((iv3.toNat < v8v1.len)) &&
      (cond (decide ((v8v1.get iv3.toNat) < leastv3))
       (decide ((0≤iv3∧iv3 < (v8v1.len:Int))) &&
       (decide ((iv3.toNat < v8v1.len)) &&
       (P3 (v8v1.get iv3.toNat) (w64 (iv3+(1:Int))) v83v3)))
       (P3 leastv3 (w64 (iv3+(1:Int))) v83v3)))))
     (decide ((0≤iv3∧iv3 < (v8v1.len:Int))) &&
     (decide ((iv3.toNat < v8v1.len)) &&
     (decide ((0≤(w64 ((v83v3.len:Int) - (1:Int)))∧(w64 ((v83v3.len:Int) - (1:Int))) < (v83v3.len:Int))) &&
     (decide (((w64 ((v83v3.len:Int) - (1:Int))).toNat < v83v3.len)) &&
     (cond (decide ((v8v1.get iv3.toNat) > (v83v3.get ((w64 ((v83v3.len : Int) - (1:Int))).toNat))))
      (cond (decide (leastv3 < (0:Int)))
       (decide ((0≤iv3∧iv3 < (v8v1.len:Int))) &&
       (decide ((iv3.toNat < v8v1.len)) &&
       (P3 (v8v1.get iv3.toNat) (w64 (iv3+(1:Int))) v83v3)))
       (decide ((0≤iv3∧iv3 < (v8v1.len:Int))) &&
       (decide ((iv3.toNat < v8v1.len)) &&
       (cond (decide ((v8v1.get iv3.toNat) < leastv3))
        (decide ((0≤iv3∧iv3 < (v8v1.len:Int))) &&
        (decide ((iv3.toNat < v8v1.len)) &&
        (P3 (v8v1.get iv3.toNat) (w64 (iv3+(1:Int))) v83v3)))
        (P3 leastv3 (w64 (iv3+(1:Int))) v83v3)))))
      (P3 leastv3 (w64 (iv3+(1:Int))) v83v3)))))))
    (P3 leastv3 (w64 (iv3+(1:Int))) v83v3))))
   (cond (decide (leastv3 < (0:Int)))
    true
    (decide (((v83v3.len+1) * 8≤140737488355328∧v83v3.len+1≤9223372036854775807)) &&
    (P2 (⟨(v83v3.len+1),(appT v83v3.len v83v3.get (fun _=>leastv3))⟩:Sl Int)))))
def s73_lp3 (S2 : (Sl Int) → (Sl Int)) (v8v1 : (Sl Int)) : Nat → Int → Int → (Sl Int) → (Sl Int)
  | 0=>fun _ _ _=>default
  | k+1=>s73_st3 S2 v8v1 (s73_lp3 S2 v8v1 k)
def p73_lp3 (P2 : (Sl Int) → Bool) (v8v1 : (Sl Int)) : Nat → Int → Int → (Sl Int) → Bool
  | 0=>fun _ _ _=>false
  | k+1=>p73_st3 P2 v8v1 (p73_lp3 P2 v8v1 k)
def s73_at3 (S2:(Sl Int)→(Sl Int)) (v8v1:(Sl Int)) (leastv3:Int) (iv3:Int) (v83v3:(Sl Int)):(Sl Int):=s73_lp3 S2 v8v1 Fuel leastv3 iv3 v83v3
def p73_at3 (P2:(Sl Int)→Bool) (v8v1:(Sl Int)) (leastv3:Int) (iv3:Int) (v83v3:(Sl Int)):Bool:=p73_lp3 P2 v8v1 Fuel leastv3 iv3 v83v3
theorem q73_at3 (K : List PA → Prop) (v8v1 : (Sl Int))
  (X2:St→Prop) (P2:(Sl Int)→Bool) (S2:(Sl Int)→(Sl Int))
  (hX2:∀ (v83v2:(Sl Int)) (v83v2_g:Nat→List PV) (v83v2_h:v83v2_g=fun i=>enc_3 (v83v2.get i)),P2 v83v2=true→K (e73 (S2 v83v2))→X2 (f73_g2 v8v1 v83v2.len v83v2_g)) (leastv3:Int) (iv3:Int) (v83v3:(Sl Int)) (v83v3_g:Nat→List PV) (v83v3_h:v83v3_g=fun i=>enc_3 (v83v3.get i)) (hs:p73_at3 P2 v8v1 leastv3 iv3 v83v3=true) (hk:K (e73 (s73_at3 S2 v8v1 leastv3 iv3 v83v3))):f73_at3 K X2 v8v1 leastv3 iv3 v83v3.len v83v3_g:=by
  refine f73_loop3 K X2 v8v1 leastv3 iv3 v83v3.len v83v3_g ?_
  intro X3 hstep
  have key:∀ (k:Nat) (leastv3:Int) (iv3:Int) (v83v3:(Sl Int)) (v83v3_g:Nat→List PV) (v83v3_h:v83v3_g=fun i=>enc_3 (v83v3.get i)),p73_lp3 P2 v8v1 k leastv3 iv3 v83v3=true→K (e73 (s73_lp3 S2 v8v1 k leastv3 iv3 v83v3))→X3 (f73_g3 v8v1 leastv3 iv3 v83v3.len v83v3_g):=by
    intro k
    induction k with
    | zero=>intro leastv3 iv3 v83v3 v83v3_g v83v3_h hs;exact absurd hs Bool.false_ne_true
    | succ k ih =>
      intro leastv3 iv3 v83v3 v83v3_g v83v3_h hs hk
      subst v83v3_h
      refine hstep leastv3 iv3 v83v3 ?_
      have hs:p73_st3 P2 v8v1 (p73_lp3 P2 v8v1 k) leastv3 iv3 v83v3=true:=hs
      have hk:K (e73 (s73_st3 S2 v8v1 (s73_lp3 S2 v8v1 k) leastv3 iv3 v83v3)):=hk
      unfold p73_st3 at hs
      unfold s73_st3 at hk
      generalize s73_lp3 S2 v8v1 k=S3 at hk ih
      generalize p73_lp3 P2 v8v1 k=P3 at hs ih
      have hX3:=ih
      exact (condB_go (K := fun r => K (e73 r))
       (fun hs hk => (andK hs fun hc hs => ⟨hc, (andK hs fun hc hs => ⟨hc, (condB_go (K := fun r => K (e73 r))
        (fun hs hk => (condB_go (K := fun r => K (e73 r))
         (fun hs hk => (condB_go (K := fun r => K (e73 r))
          (fun hs hk=>(andK hs fun hc hs=>⟨hc,(andK hs fun hc hs=>⟨hc,(hX3 (v8v1.get iv3.toNat) (w64 (iv3+(1:Int))) v83v3 (fun i=>enc_3 (v83v3.get i)) rfl hs hk)⟩)⟩))
          (fun hs hk => (andK hs fun hc hs => ⟨hc, (andK hs fun hc hs => ⟨hc, (condB_go (K := fun r => K (e73 r))
           (fun hs hk=>(andK hs fun hc hs=>⟨hc,(andK hs fun hc hs=>⟨hc,(hX3 (v8v1.get iv3.toNat) (w64 (iv3+(1:Int))) v83v3 (fun i=>enc_3 (v83v3.get i)) rfl hs hk)⟩)⟩))
           (fun hs hk=>(hX3 leastv3 (w64 (iv3+(1:Int))) v83v3 (fun i=>enc_3 (v83v3.get i)) rfl hs hk)) hs hk)⟩)⟩)) hs hk))
         (fun hs hk => (andK hs fun hc hs => ⟨hc, (andK hs fun hc hs => ⟨hc, (andK hs fun hc hs => ⟨hc, (andK hs fun hc hs => ⟨hc, (condB_go (K := fun r => K (e73 r))
          (fun hs hk => (condB_go (K := fun r => K (e73 r))
           (fun hs hk=>(andK hs fun hc hs=>⟨hc,(andK hs fun hc hs=>⟨hc,(hX3 (v8v1.get iv3.toNat) (w64 (iv3+(1:Int))) v83v3 (fun i=>enc_3 (v83v3.get i)) rfl hs hk)⟩)⟩))
           (fun hs hk => (andK hs fun hc hs => ⟨hc, (andK hs fun hc hs => ⟨hc, (condB_go (K := fun r => K (e73 r))
            (fun hs hk=>(andK hs fun hc hs=>⟨hc,(andK hs fun hc hs=>⟨hc,(hX3 (v8v1.get iv3.toNat) (w64 (iv3+(1:Int))) v83v3 (fun i=>enc_3 (v83v3.get i)) rfl hs hk)⟩)⟩))
            (fun hs hk=>(hX3 leastv3 (w64 (iv3+(1:Int))) v83v3 (fun i=>enc_3 (v83v3.get i)) rfl hs hk)) hs hk)⟩)⟩)) hs hk))
          (fun hs hk=>(hX3 leastv3 (w64 (iv3+(1:Int))) v83v3 (fun i=>enc_3 (v83v3.get i)) rfl hs hk)) hs hk)⟩)⟩)⟩)⟩)) hs hk))
        (fun hs hk=>(hX3 leastv3 (w64 (iv3+(1:Int))) v83v3 (fun i=>enc_3 (v83v3.get i)) rfl hs hk)) hs hk)⟩)⟩))
       (fun hs hk => (condB_go (K := fun r => K (e73 r))
        (fun hs hk=>hk)
        (fun hs hk=>(andK hs fun hc hs=>⟨hc,(hX2 (⟨(v83v3.len+1),(appT v83v3.len v83v3.get (fun _=>leastv3))⟩:Sl Int) (appG v83v3.len (fun i=>enc_3 (v83v3.get i)) (fun _=>(enc_3 leastv3))) (appG_e rfl rfl) hs hk)⟩)) hs hk)) hs hk)
  exact key _ leastv3 iv3 v83v3 v83v3_g v83v3_h hs hk
def s73_st2 (v8v1:(Sl Int)) (S2:(Sl Int)→(Sl Int)) (v83v2:(Sl Int)):(Sl Int) :=
  (s73_at3 S2 v8v1 (-1:Int) (0:Int) v83v2)
def p73_st2 (v8v1:(Sl Int)) (P2:(Sl Int)→Bool) (v83v2:(Sl Int)):Bool :=
  (p73_at3 P2 v8v1 (-1:Int) (0:Int) v83v2)
def s73_lp2 (v8v1 : (Sl Int)) : Nat → (Sl Int) → (Sl Int)
  | 0=>fun _=>default
  | k+1=>s73_st2 v8v1 (s73_lp2 v8v1 k)
def p73_lp2 (v8v1 : (Sl Int)) : Nat → (Sl Int) → Bool
  | 0=>fun _=>false
  | k+1=>p73_st2 v8v1 (p73_lp2 v8v1 k)
def s73_at2 (v8v1:(Sl Int)) (v83v2:(Sl Int)):(Sl Int):=s73_lp2 v8v1 Fuel v83v2
def p73_at2 (v8v1:(Sl Int)) (v83v2:(Sl Int)):Bool:=p73_lp2 v8v1 Fuel v83v2
theorem q73_at2 (K:List PA→Prop) (v8v1:(Sl Int)) (v83v2:(Sl Int)) (v83v2_g:Nat→List PV) (v83v2_h:v83v2_g=fun i=>enc_3 (v83v2.get i)) (hs:p73_at2 v8v1 v83v2=true) (hk:K (e73 (s73_at2 v8v1 v83v2))):f73_at2 K v8v1 v83v2.len v83v2_g:=by
  refine f73_loop2 K v8v1 v83v2.len v83v2_g ?_
  intro X2 hstep
  have key:∀ (k:Nat) (v83v2:(Sl Int)) (v83v2_g:Nat→List PV) (v83v2_h:v83v2_g=fun i=>enc_3 (v83v2.get i)),p73_lp2 v8v1 k v83v2=true→K (e73 (s73_lp2 v8v1 k v83v2))→X2 (f73_g2 v8v1 v83v2.len v83v2_g):=by
    intro k
    induction k with
    | zero=>intro v83v2 v83v2_g v83v2_h hs;exact absurd hs Bool.false_ne_true
    | succ k ih =>
      intro v83v2 v83v2_g v83v2_h hs hk
      subst v83v2_h
      refine hstep v83v2 ?_
      have hs:p73_st2 v8v1 (p73_lp2 v8v1 k) v83v2=true:=hs
      have hk:K (e73 (s73_st2 v8v1 (s73_lp2 v8v1 k) v83v2)):=hk
      unfold p73_st2 at hs
      unfold s73_st2 at hk
      generalize s73_lp2 v8v1 k=S2 at hk ih
      generalize p73_lp2 v8v1 k=P2 at hs ih
      have hX2:=ih
      exact (q73_at3 K v8v1 X2 P2 S2 hX2 (-1:Int) (0:Int) v83v2 (fun i=>enc_3 (v83v2.get i)) rfl hs hk)
  exact key _ v83v2 v83v2_g v83v2_h hs hk
def s73_at1 (v8v1:(Sl Int)):(Sl Int) :=
  (s73_at2 v8v1 (⟨0,(fun _=>default)⟩:Sl Int))
def p73_at1 (v8v1:(Sl Int)):Bool :=
  (p73_at2 v8v1 (⟨0,(fun _=>default)⟩:Sl Int))
theorem q73_at1 (K:List PA→Prop) (v8v1:(Sl Int)) (v8v1_g:Nat→List PV) (v8v1_h:v8v1_g=fun i=>enc_3 (v8v1.get i)) (hs:p73_at1 v8v1=true) (hk:K (e73 (s73_at1 v8v1))):f73_at1 K v8v1.len v8v1_g:=by
  subst v8v1_h
  refine ofEq (f73_eq1 K v8v1) ?_
  unfold p73_at1 at hs
  unfold s73_at1 at hk
  exact (q73_at2 K v8v1 (⟨0,(fun _=>default)⟩:Sl Int) (fun i=>enc_3 ((fun _=>default) i)) rfl hs hk)
def s73_st0 (t:(Sl RangeRow)) (S0:Int→(Sl Int)→(Sl Int)) (iv0:Int) (v8v0:(Sl Int)):(Sl Int) :=
  (cond (decide (iv0 < (t.len : Int)))
   (S0 (w64 (iv0+(1:Int))) (⟨(v8v0.len+2),(appT v8v0.len v8v0.get (getT (w64 ((t.get iv0.toNat).Range.Low+(1:Int))) [(w64 ((t.get iv0.toNat).Range.Low+(1:Int))),(w64 ((t.get iv0.toNat).Range.High+(1:Int)))]))⟩:Sl Int))
   (s73_at1 v8v0))
def p73_st0 (t:(Sl RangeRow)) (P0:Int→(Sl Int)→Bool) (iv0:Int) (v8v0:(Sl Int)):Bool :=
  (cond (decide (iv0 < (t.len : Int)))
   (decide ((0≤iv0∧iv0 < (t.len:Int))) &&
   (decide ((0≤iv0∧iv0 < (t.len:Int))) &&
   (decide (((v8v0.len+2) * 8≤140737488355328∧v8v0.len+2≤9223372036854775807)) &&
   (P0 (w64 (iv0+(1:Int))) (⟨(v8v0.len+2),(appT v8v0.len v8v0.get (getT (w64 ((t.get iv0.toNat).Range.Low+(1:Int))) [(w64 ((t.get iv0.toNat).Range.Low+(1:Int))),(w64 ((t.get iv0.toNat).Range.High+(1:Int)))]))⟩:Sl Int)))))
   (p73_at1 v8v0))
def s73_lp0 (t : (Sl RangeRow)) : Nat → Int → (Sl Int) → (Sl Int)
  | 0=>fun _ _=>default
  | k+1=>s73_st0 t (s73_lp0 t k)
def p73_lp0 (t : (Sl RangeRow)) : Nat → Int → (Sl Int) → Bool
  | 0=>fun _ _=>false
  | k+1=>p73_st0 t (p73_lp0 t k)
def s73_at0 (t:(Sl RangeRow)) (iv0:Int) (v8v0:(Sl Int)):(Sl Int):=s73_lp0 t Fuel iv0 v8v0
def p73_at0 (t:(Sl RangeRow)) (iv0:Int) (v8v0:(Sl Int)):Bool:=p73_lp0 t Fuel iv0 v8v0
theorem q73_at0 (K:List PA→Prop) (t:(Sl RangeRow)) (iv0:Int) (v8v0:(Sl Int)) (v8v0_g:Nat→List PV) (v8v0_h:v8v0_g=fun i=>enc_3 (v8v0.get i)) (hs:p73_at0 t iv0 v8v0=true) (hk:K (e73 (s73_at0 t iv0 v8v0))):f73_at0 K t iv0 v8v0.len v8v0_g:=by
  refine f73_loop0 K t iv0 v8v0.len v8v0_g ?_
  intro X0 hstep
  have key:∀ (k:Nat) (iv0:Int) (v8v0:(Sl Int)) (v8v0_g:Nat→List PV) (v8v0_h:v8v0_g=fun i=>enc_3 (v8v0.get i)),p73_lp0 t k iv0 v8v0=true→K (e73 (s73_lp0 t k iv0 v8v0))→X0 (f73_g0 t iv0 v8v0.len v8v0_g):=by
    intro k
    induction k with
    | zero=>intro iv0 v8v0 v8v0_g v8v0_h hs;exact absurd hs Bool.false_ne_true
    | succ k ih =>
      intro iv0 v8v0 v8v0_g v8v0_h hs hk
      subst v8v0_h
      refine hstep iv0 v8v0 ?_
      have hs:p73_st0 t (p73_lp0 t k) iv0 v8v0=true:=hs
      have hk:K (e73 (s73_st0 t (s73_lp0 t k) iv0 v8v0)):=hk
      unfold p73_st0 at hs
      unfold s73_st0 at hk
      generalize s73_lp0 t k=S0 at hk ih
      generalize p73_lp0 t k=P0 at hs ih
      have hX0:=ih
      exact (condB_go (K := fun r => K (e73 r))
       (fun hs hk=>(andK hs fun hc hs=>⟨hc,(andK hs fun hc hs=>⟨hc,(andK hs fun hc hs=>⟨hc,(hX0 (w64 (iv0+(1:Int))) (⟨(v8v0.len+2),(appT v8v0.len v8v0.get (getT (w64 ((t.get iv0.toNat).Range.Low+(1:Int))) [(w64 ((t.get iv0.toNat).Range.Low+(1:Int))),(w64 ((t.get iv0.toNat).Range.High+(1:Int)))]))⟩:Sl Int) (appG v8v0.len (fun i=>enc_3 (v8v0.get i)) (getL [(enc_3 (w64 ((t.get iv0.toNat).Range.Low+(1:Int)))),(enc_3 (w64 ((t.get iv0.toNat).Range.High+(1:Int))))])) (appG_e rfl (getL_enc (enc:=enc_3) (x:=(w64 ((t.get iv0.toNat).Range.Low+(1:Int)))) (y:=(w64 ((t.get iv0.toNat).Range.High+(1:Int)))) (r:=[]))) hs hk)⟩)⟩)⟩))
       (fun hs hk=>(q73_at1 K v8v0 (fun i=>enc_3 (v8v0.get i)) rfl hs hk)) hs hk)
  exact key _ iv0 v8v0 v8v0_g v8v0_h hs hk
def s73 (t:(Sl RangeRow)):(Sl Int) :=
  (s73_at0 t (0:Int) (⟨2,(getT (0:Int) [(0:Int),(1:Int)])⟩:Sl Int))
def p73 (t:(Sl RangeRow)):Bool :=
  (p73_at0 t (0:Int) (⟨2,(getT (0:Int) [(0:Int),(1:Int)])⟩:Sl Int))
theorem q73 (t:(Sl RangeRow)) (K:List PA→Prop) (hs:p73 t=true) (hk:K (e73 (s73 t))):vcFun Try.prog G73 ann73 73 [.one (.sl t.len 3 (fun i=>enc_42 (t.get i)))] K:=by
  refine ofEq (f73_top t K) ?_
  unfold p73 at hs
  unfold s73 at hk
  exact (q73_at0 K t (0:Int) (⟨2,(getT (0:Int) [(0:Int),(1:Int)])⟩:Sl Int) (getL [(enc_3 (0:Int)),(enc_3 (1:Int))]) (getL_enc (enc:=enc_3) (x:=(0:Int)) (y:=(1:Int)) (r:=[])) hs hk)
def ctr73 : List PA → COut
  | [.one (.sl a0_n a0_s a0_g)]=>.det (IsE enc_42 3 a0_s a0_g∧p73 (⟨a0_n,decF_42 a0_g⟩:(Sl RangeRow))=true) [.one (.sl ((s73 (⟨a0_n,decF_42 a0_g⟩:(Sl RangeRow))).len) 1 (fun i=>enc_3 ((s73 (⟨a0_n,decF_42 a0_g⟩:(Sl RangeRow))).get i)))]
  | _=>.no
theorem call73:Callable Try.prog 73:=⟨_,rfl,rfl,by kernel_rfl⟩
theorem ok73:Ok Try.prog 73 ctr73:=ok_tab okT73 call73 fun args K h=>by
  unfold ctr73 at h
  split at h
  · rename_i a0_n a0_s a0_g
    obtain ⟨⟨⟨rfl,a0_f,rfl⟩,hs⟩,hk⟩:=h
    try rw [decF_enc_42 a0_f] at hs
    try rw [decF_enc_42 a0_f] at hk
    exact ⟨(fun _ _=>[]),(fun _=>false),ann73,q73 (⟨a0_n,a0_f⟩:(Sl RangeRow)) K hs hk⟩
  · exact h.elim
end Go.Proofs
namespace Go.Proofs
open Go Go.Pm
set_option maxRecDepth 100000
set_option linter.unusedVariables false
attribute [local irreducible] Go.Pm.vcFun Go.Pm.vc Go.Pm.vcIter
abbrev T28:Tabs:=((Tabs.nil.addF 38 ctr38).addF 73 ctr73)
theorem okT28:TabsOk Try.prog T28:=((TabsOk.nil.addF ok38).addF ok73)
abbrev G28:Ctrs:=csm T28 (fun _ _=>[]) (fun _=>false)
def ann28:Ann:=⟨53,[(0,⟨[1,2,3,4],[4],[],[],[]⟩),(1,⟨[1,2,3,4,9],[4],[],[],[]⟩),(2,⟨[1,2,3,4,9,10],[4],[],[],[]⟩),(3,⟨[1,2,3,4,9,10,11],[4],[],[],[]⟩),(4,⟨[1,2,3,4,9,10,11,18],[4,51],[],[],[]⟩),(5,⟨[1,2,3,4,9,10,11],[4,51],[],[],[]⟩),(6,⟨[1,2,3,4,9,10,11,12],[4,12,51],[],[],[]⟩),(7,⟨[1,2,3,4,9,10,11,12,42],[4,12,51],[],[],[]⟩),(8,⟨[1,2,3,4,9,10,11],[4,51],[],[],[]⟩),(9,⟨[8],[51],[],[],[]⟩)],
  [(4,⟨[1,2,3,4,9,10,11],[4,51],[(10,51,69,fun _=>enc_69 default)],[],[]⟩)],
  [(2,⟨[1,2,3,4,9],[4],[],[],[]⟩),(7,⟨[1,2,3,4,9,10,11,12],[4,12,51],[],[],[]⟩)],
  [],[]⟩
def f28_g0 (s:Sky) (t:(Sl RangeRow)) (bin:Int) (l_a3:(Sl Spell)) (ev0_n:Nat) (ev0_g:Nat→List PV) (s_1v0_n:Nat) (s_1v0_g:Nat→List PV):St:=⟨[(1,.one (.c (.p (.sl t.len 3 (fun i=>enc_42 (t.get i)))))),(2,.one (.c (.p (.int .i64 bin)))),(3,.one (.c (.p (.sl l_a3.len 5 (fun i=>enc_56 (l_a3.get i)))))),(4,.one (.c (.ptr 4 0))),(9,.one (.c (.p (.sl ev0_n 1 ev0_g))))],[(4,.box 26 [.p (.int .i64 s.Parts),.p (.sl s_1v0_n 1 s_1v0_g),.p (.int .i64 s.Beta.Low),.p (.int .i64 s.Beta.High),.p (.int .i64 s.Alpha.Low),.p (.int .i64 s.Alpha.High)])],[]⟩
def f28_at0 (K:List PA→Prop) (s:Sky) (t:(Sl RangeRow)) (bin:Int) (l_a3:(Sl Spell)) (ev0_n:Nat) (ev0_g:Nat→List PV) (s_1v0_n:Nat) (s_1v0_g:Nat→List PV):Prop:=vc Try.prog G28 ann28 (cdF Try.f28 [1,1]) (bodyK Try.prog Try.f28 K) (f28_g0 s t bin l_a3 ev0_n ev0_g s_1v0_n s_1v0_g)
def f28_g1 (s:Sky) (t:(Sl RangeRow)) (bin:Int) (l_a3:(Sl Spell)) (ev0:(Sl Int)) (iv1:Int) (s_1v1_n:Nat) (s_1v1_g:Nat→List PV) (v51v1_n:Nat) (v51v1_g:Nat→List PV):St:=⟨[(1,.one (.c (.p (.sl t.len 3 (fun i=>enc_42 (t.get i)))))),(2,.one (.c (.p (.int .i64 bin)))),(3,.one (.c (.p (.sl l_a3.len 5 (fun i=>enc_56 (l_a3.get i)))))),(4,.one (.c (.ptr 4 0))),(9,.one (.c (.p (.sl ev0.len 1 (fun i=>enc_3 (ev0.get i)))))),(10,.one (.c (.vec 51))),(11,.one (.c (.p (.int .i64 iv1))))],[(4,.box 26 [.p (.int .i64 s.Parts),.p (.sl s_1v1_n 1 s_1v1_g),.p (.int .i64 s.Beta.Low),.p (.int .i64 s.Beta.High),.p (.int .i64 s.Alpha.Low),.p (.int .i64 s.Alpha.High)]),(51,.vec 69 3 24 v51v1_n v51v1_g)],[]⟩
def f28_at1 (K:List PA→Prop) (s:Sky) (t:(Sl RangeRow)) (bin:Int) (l_a3:(Sl Spell)) (ev0:(Sl Int)) (iv1:Int) (s_1v1_n:Nat) (s_1v1_g:Nat→List PV) (v51v1_n:Nat) (v51v1_g:Nat→List PV):Prop:=vc Try.prog G28 ann28 (cdF Try.f28 [1,1,1,0,1,0]) (blockK 0 (sqK Try.prog G28 ann28 (cdF Try.f28 [1,1,1,1]) (bodyK Try.prog Try.f28 K))) (f28_g1 s t bin l_a3 ev0 iv1 s_1v1_n s_1v1_g v51v1_n v51v1_g)
def f28_g2 (s:Sky) (t:(Sl RangeRow)) (bin:Int) (l_a3:(Sl Spell)) (ev0:(Sl Int)) (iv2:Int) (s_1v2_n:Nat) (s_1v2_g:Nat→List PV) (x_0v2:Int) (x_1v2:Int) (v51v2_n:Nat) (v51v2_g:Nat→List PV):St:=⟨[(1,.one (.c (.p (.sl t.len 3 (fun i=>enc_42 (t.get i)))))),(2,.one (.c (.p (.int .i64 bin)))),(3,.one (.c (.p (.sl l_a3.len 5 (fun i=>enc_56 (l_a3.get i)))))),(4,.one (.c (.ptr 4 0))),(9,.one (.c (.p (.sl ev0.len 1 (fun i=>enc_3 (ev0.get i)))))),(10,.one (.c (.vec 51))),(11,.one (.c (.p (.int .i64 iv2)))),(12,.one (.c (.ptr 12 0)))],[(4,.box 26 [.p (.int .i64 s.Parts),.p (.sl s_1v2_n 1 s_1v2_g),.p (.int .i64 s.Beta.Low),.p (.int .i64 s.Beta.High),.p (.int .i64 s.Alpha.Low),.p (.int .i64 s.Alpha.High)]),(12,.box 24 [.p (.int .i64 x_0v2),.p (.int .i64 x_1v2)]),(51,.vec 69 3 24 v51v2_n v51v2_g)],[]⟩
def f28_at2 (K:List PA→Prop) (X1:St→Prop) (s:Sky) (t:(Sl RangeRow)) (bin:Int) (l_a3:(Sl Spell)) (ev0:(Sl Int)) (iv2:Int) (s_1v2_n:Nat) (s_1v2_g:Nat→List PV) (x_0v2:Int) (x_1v2:Int) (v51v2_n:Nat) (v51v2_g:Nat→List PV):Prop:=vc Try.prog G28 ann28 (cdF Try.f28 [1,1,1,0,1,0,0,1,0,0,1]) (blockK 1 (sqK Try.prog G28 ann28 (cdF Try.f28 [1,1,1,0,1,0,0,1,1]) (loopK Try.prog ann28 4 X1 (blockK 0 (sqK Try.prog G28 ann28 (cdF Try.f28 [1,1,1,1]) (bodyK Try.prog Try.f28 K)))))) (f28_g2 s t bin l_a3 ev0 iv2 s_1v2_n s_1v2_g x_0v2 x_1v2 v51v2_n v51v2_g)
theorem f28_top (s : Sky) (t : (Sl RangeRow)) (bin : Int) (l_a3 : (Sl Spell)) (K : List PA → Prop) :
  vcFun Try.prog G28 ann28 28 [.agg [.int .i64 s.Parts,.sl s.Bins.len 1 (fun i=>enc_32 (s.Bins.get i)),.int .i64 s.Beta.Low,.int .i64 s.Beta.High,.int .i64 s.Alpha.Low,.int .i64 s.Alpha.High],.one (.sl t.len 3 (fun i=>enc_42 (t.get i))),.one (.int .i64 bin),.one (.sl l_a3.len 5 (fun i=>enc_56 (l_a3.get i)))] K =
  ((IsE enc_42 3 3 (fun i=>enc_42 (t.get i))∧(p73 t=true)) ∧
  (f28_at0 K s t bin l_a3 ((s73 t).len) (fun i=>enc_3 ((s73 t).get i)) s.Bins.len (fun i=>enc_32 (s.Bins.get i)))):=by kernel_rfl
theorem f28_eq0 (K : List PA → Prop) (s : Sky) (t : (Sl RangeRow)) (bin : Int) (l_a3 : (Sl Spell)) (ev0 : (Sl Int)) (s_1v0 : (Sl (Sl FluxRow))) :
  f28_at0 K s t bin l_a3 ev0.len (fun i=>enc_3 (ev0.get i)) s_1v0.len (fun i=>enc_32 (s_1v0.get i)) =
  (f28_at1 K s t bin l_a3 ev0 (0:Int) s_1v0.len (fun i=>enc_32 (s_1v0.get i)) 0 (fun i=>enc_69 ((fun _=>default) i))):=by kernel_rfl
def f28_step1 (K:List PA→Prop) (X1:St→Prop) (s:Sky) (t:(Sl RangeRow)) (bin:Int) (l_a3:(Sl Spell)) (ev0:(Sl Int)) (iv1:Int) (s_1v1:(Sl (Sl FluxRow))) (v51v1:(Sl FluxStep)):Prop :=
  (condP (decide (iv1 < (ev0.len : Int)))
   (((0≤iv1∧iv1 < (ev0.len:Int))) ∧
   ((IsE enc_32 1 1 (fun i=>enc_32 (s_1v1.get i))∧IsE enc_42 3 3 (fun i=>enc_42 (t.get i))∧IsE enc_56 5 5 (fun i=>enc_56 (l_a3.get i))∧(p38 (⟨s.Parts,s_1v1,s.Beta,s.Alpha⟩:Sky) t bin (ev0.get iv1.toNat) l_a3=true)) ∧
   (f28_at2 K X1 s t bin l_a3 ev0 iv1 s_1v1.len (fun i=>enc_32 (s_1v1.get i)) ((s38 (⟨s.Parts,s_1v1,s.Beta,s.Alpha⟩:Sky) t bin (ev0.get iv1.toNat) l_a3).Low) ((s38 (⟨s.Parts,s_1v1,s.Beta,s.Alpha⟩:Sky) t bin (ev0.get iv1.toNat) l_a3).High) v51v1.len (fun i=>enc_69 (v51v1.get i)))))
   (K [.one (.sl v51v1.len 3 (fun i=>enc_69 (v51v1.get i)))]))
theorem f28_stepeq1 (K : List PA → Prop) (X1 : St → Prop) (s : Sky) (t : (Sl RangeRow)) (bin : Int) (l_a3 : (Sl Spell)) (ev0 : (Sl Int)) (iv1 : Int) (s_1v1 : (Sl (Sl FluxRow))) (v51v1 : (Sl FluxStep)) :
  vc Try.prog G28 ann28 (cd (cdF Try.f28 [1,1,1,0,1,0]) [0]) (loopK Try.prog ann28 4 X1 (blockK 0 (sqK Try.prog G28 ann28 (cdF Try.f28 [1,1,1,1]) (bodyK Try.prog Try.f28 K)))) (f28_g1 s t bin l_a3 ev0 iv1 s_1v1.len (fun i=>enc_32 (s_1v1.get i)) v51v1.len (fun i=>enc_69 (v51v1.get i))) =
  f28_step1 K X1 s t bin l_a3 ev0 iv1 s_1v1 v51v1:=by kernel_rfl
theorem f28_loop1 (K : List PA → Prop) (s : Sky) (t : (Sl RangeRow)) (bin : Int) (l_a3 : (Sl Spell)) (ev0 : (Sl Int)) (iv1 : Int) (s_1v1_n : Nat) (s_1v1_g : Nat → List PV) (v51v1_n : Nat) (v51v1_g : Nat → List PV)
  (h:∀ X1:St→Prop,(∀ (iv1:Int) (s_1v1:(Sl (Sl FluxRow))) (v51v1:(Sl FluxStep)),f28_step1 K X1 s t bin l_a3 ev0 iv1 s_1v1 v51v1→X1 (f28_g1 s t bin l_a3 ev0 iv1 s_1v1.len (fun i=>enc_32 (s_1v1.get i)) v51v1.len (fun i=>enc_69 (v51v1.get i))))→X1 (f28_g1 s t bin l_a3 ev0 iv1 s_1v1_n s_1v1_g v51v1_n v51v1_g)) :
  f28_at1 K s t bin l_a3 ev0 iv1 s_1v1_n s_1v1_g v51v1_n v51v1_g:=by
  have e:f28_at1 K s t bin l_a3 ev0 iv1 s_1v1_n s_1v1_g v51v1_n v51v1_g=(∀ X:St→Prop,(∀ s,vc Try.prog G28 ann28 (cd (cdF Try.f28 [1,1,1,0,1,0]) [0]) (loopK Try.prog ann28 4 X (blockK 0 (sqK Try.prog G28 ann28 (cdF Try.f28 [1,1,1,1]) (bodyK Try.prog Try.f28 K)))) s→X s)→X (f28_g1 s t bin l_a3 ev0 iv1 s_1v1_n s_1v1_g v51v1_n v51v1_g)):=by kernel_rfl
  refine ofEq e ?_
  intro X hX
  refine h X ?_
  intro iv1 s_1v1 v51v1 hs
  refine hX _ ?_
  have e2:=f28_stepeq1 K X s t bin l_a3 ev0 iv1 s_1v1 v51v1
  rw [e2]
  exact hs
theorem f28_eq2 (K : List PA → Prop) (X1 : St → Prop) (s : Sky) (t : (Sl RangeRow)) (bin : Int) (l_a3 : (Sl Spell)) (ev0 : (Sl Int)) (iv2 : Int) (s_1v2 : (Sl (Sl FluxRow))) (x_0v2 : Int) (x_1v2 : Int) (v51v2 : (Sl FluxStep)) :
  f28_at2 K X1 s t bin l_a3 ev0 iv2 s_1v2.len (fun i=>enc_32 (s_1v2.get i)) x_0v2 x_1v2 v51v2.len (fun i=>enc_69 (v51v2.get i)) =
  (condP (iv2 == (0:Int))
   (((0≤iv2∧iv2 < (ev0.len:Int))) ∧
   ((((v51v2.len+1) * 24≤140737488355328∧v51v2.len+1≤9223372036854775807)) ∧
   (X1 (f28_g1 s t bin l_a3 ev0 (w64 (iv2+(1:Int))) s_1v2.len (fun i=>enc_32 (s_1v2.get i)) (v51v2.len+1) (appG v51v2.len (fun i=>enc_69 (v51v2.get i)) (fun _=>(enc_69 (⟨(ev0.get iv2.toNat),(⟨x_0v2,x_1v2⟩:Span)⟩:FluxStep))))))))
   (((0≤(w64 ((v51v2.len:Int) - (1:Int)))∧(w64 ((v51v2.len:Int) - (1:Int))) < (v51v2.len:Int))) ∧
   ((((w64 ((v51v2.len:Int) - (1:Int))).toNat < v51v2.len)) ∧
   (condP (!(match ((v51v2.get ((w64 ((v51v2.len : Int) - (1:Int))).toNat)).Rate.Low == x_0v2) with | true => (match ((v51v2.get ((w64 ((v51v2.len : Int) - (1:Int))).toNat)).Rate.High == x_1v2) with | true => true | false => false) | false => false))
    (((0≤iv2∧iv2 < (ev0.len:Int))) ∧
    ((((v51v2.len+1) * 24≤140737488355328∧v51v2.len+1≤9223372036854775807)) ∧
    (X1 (f28_g1 s t bin l_a3 ev0 (w64 (iv2+(1:Int))) s_1v2.len (fun i=>enc_32 (s_1v2.get i)) (v51v2.len+1) (appG v51v2.len (fun i=>enc_69 (v51v2.get i)) (fun _=>(enc_69 (⟨(ev0.get iv2.toNat),(⟨x_0v2,x_1v2⟩:Span)⟩:FluxStep))))))))
    (X1 (f28_g1 s t bin l_a3 ev0 (w64 (iv2+(1:Int))) s_1v2.len (fun i=>enc_32 (s_1v2.get i)) v51v2.len (fun i=>enc_69 (v51v2.get i)))))))):=by kernel_rfl
abbrev e28 (r:(Sl FluxStep)):List PA:=[.one (.sl r.len 3 (fun i=>enc_69 (r.get i)))]
attribute [irreducible] f28_at0 f28_at1 f28_at2
def s28_at2 (S1:Int→(Sl (Sl FluxRow))→(Sl FluxStep)→(Sl FluxStep)) (s:Sky) (t:(Sl RangeRow)) (bin:Int) (l_a3:(Sl Spell)) (ev0:(Sl Int)) (iv2:Int) (s_1v2:(Sl (Sl FluxRow))) (x_0v2:Int) (x_1v2:Int) (v51v2:(Sl FluxStep)):(Sl FluxStep) :=
  (cond (iv2 == (0:Int))
   (S1 (w64 (iv2+(1:Int))) s_1v2 (⟨(v51v2.len+1),(appT v51v2.len v51v2.get (fun _=>(⟨(ev0.get iv2.toNat),(⟨x_0v2,x_1v2⟩:Span)⟩:FluxStep)))⟩:Sl FluxStep))
   (cond (!(match ((v51v2.get ((w64 ((v51v2.len : Int) - (1:Int))).toNat)).Rate.Low == x_0v2) with | true => (match ((v51v2.get ((w64 ((v51v2.len : Int) - (1:Int))).toNat)).Rate.High == x_1v2) with | true => true | false => false) | false => false))
    (S1 (w64 (iv2+(1:Int))) s_1v2 (⟨(v51v2.len+1),(appT v51v2.len v51v2.get (fun _=>(⟨(ev0.get iv2.toNat),(⟨x_0v2,x_1v2⟩:Span)⟩:FluxStep)))⟩:Sl FluxStep))
    (S1 (w64 (iv2+(1:Int))) s_1v2 v51v2)))
def p28_at2 (P1:Int→(Sl (Sl FluxRow))→(Sl FluxStep)→Bool) (s:Sky) (t:(Sl RangeRow)) (bin:Int) (l_a3:(Sl Spell)) (ev0:(Sl Int)) (iv2:Int) (s_1v2:(Sl (Sl FluxRow))) (x_0v2:Int) (x_1v2:Int) (v51v2:(Sl FluxStep)):Bool :=
  (cond (iv2 == (0:Int))
   (decide ((0≤iv2∧iv2 < (ev0.len:Int))) &&
   (decide (((v51v2.len+1) * 24≤140737488355328∧v51v2.len+1≤9223372036854775807)) &&
   (P1 (w64 (iv2+(1:Int))) s_1v2 (⟨(v51v2.len+1),(appT v51v2.len v51v2.get (fun _=>(⟨(ev0.get iv2.toNat),(⟨x_0v2,x_1v2⟩:Span)⟩:FluxStep)))⟩:Sl FluxStep))))
   (decide ((0≤(w64 ((v51v2.len:Int) - (1:Int)))∧(w64 ((v51v2.len:Int) - (1:Int))) < (v51v2.len:Int))) &&
   (decide (((w64 ((v51v2.len:Int) - (1:Int))).toNat < v51v2.len)) &&
   (cond (!(match ((v51v2.get ((w64 ((v51v2.len : Int) - (1:Int))).toNat)).Rate.Low == x_0v2) with | true => (match ((v51v2.get ((w64 ((v51v2.len : Int) - (1:Int))).toNat)).Rate.High == x_1v2) with | true => true | false => false) | false => false))
    (decide ((0≤iv2∧iv2 < (ev0.len:Int))) &&
    (decide (((v51v2.len+1) * 24≤140737488355328∧v51v2.len+1≤9223372036854775807)) &&
    (P1 (w64 (iv2+(1:Int))) s_1v2 (⟨(v51v2.len+1),(appT v51v2.len v51v2.get (fun _=>(⟨(ev0.get iv2.toNat),(⟨x_0v2,x_1v2⟩:Span)⟩:FluxStep)))⟩:Sl FluxStep))))
    (P1 (w64 (iv2+(1:Int))) s_1v2 v51v2)))))
theorem q28_at2 (K : List PA → Prop) (s : Sky) (t : (Sl RangeRow)) (bin : Int) (l_a3 : (Sl Spell)) (ev0 : (Sl Int))
  (X1:St→Prop) (P1:Int→(Sl (Sl FluxRow))→(Sl FluxStep)→Bool) (S1:Int→(Sl (Sl FluxRow))→(Sl FluxStep)→(Sl FluxStep))
  (hX1:∀ (iv1:Int) (s_1v1:(Sl (Sl FluxRow))) (v51v1:(Sl FluxStep)) (s_1v1_g:Nat→List PV) (s_1v1_h:s_1v1_g=fun i=>enc_32 (s_1v1.get i)) (v51v1_g:Nat→List PV) (v51v1_h:v51v1_g=fun i=>enc_69 (v51v1.get i)),P1 iv1 s_1v1 v51v1=true→K (e28 (S1 iv1 s_1v1 v51v1))→X1 (f28_g1 s t bin l_a3 ev0 iv1 s_1v1.len s_1v1_g v51v1.len v51v1_g)) (iv2:Int) (s_1v2:(Sl (Sl FluxRow))) (x_0v2:Int) (x_1v2:Int) (v51v2:(Sl FluxStep)) (s_1v2_g:Nat→List PV) (s_1v2_h:s_1v2_g=fun i=>enc_32 (s_1v2.get i)) (v51v2_g:Nat→List PV) (v51v2_h:v51v2_g=fun i=>enc_69 (v51v2.get i)) (hs:p28_at2 P1 s t bin l_a3 ev0 iv2 s_1v2 x_0v2 x_1v2 v51v2=true) (hk:K (e28 (s28_at2 S1 s t bin l_a3 ev0 iv2 s_1v2 x_0v2 x_1v2 v51v2))):f28_at2 K X1 s t bin l_a3 ev0 iv2 s_1v2.len s_1v2_g x_0v2 x_1v2 v51v2.len v51v2_g:=by
  subst s_1v2_h
  subst v51v2_h
  refine ofEq (f28_eq2 K X1 s t bin l_a3 ev0 iv2 s_1v2 x_0v2 x_1v2 v51v2) ?_
  unfold p28_at2 at hs
  unfold s28_at2 at hk
  exact (condB_go (K := fun r => K (e28 r))
   (fun hs hk=>(andK hs fun hc hs=>⟨hc,(andK hs fun hc hs=>⟨hc,(hX1 (w64 (iv2+(1:Int))) s_1v2 (⟨(v51v2.len+1),(appT v51v2.len v51v2.get (fun _=>(⟨(ev0.get iv2.toNat),(⟨x_0v2,x_1v2⟩:Span)⟩:FluxStep)))⟩:Sl FluxStep) (fun i=>enc_32 (s_1v2.get i)) rfl (appG v51v2.len (fun i=>enc_69 (v51v2.get i)) (fun _=>(enc_69 (⟨(ev0.get iv2.toNat),(⟨x_0v2,x_1v2⟩:Span)⟩:FluxStep)))) (appG_e rfl rfl) hs hk)⟩)⟩))
   (fun hs hk => (andK hs fun hc hs => ⟨hc, (andK hs fun hc hs => ⟨hc, (condB_go (K := fun r => K (e28 r))
    (fun hs hk=>(andK hs fun hc hs=>⟨hc,(andK hs fun hc hs=>⟨hc,(hX1 (w64 (iv2+(1:Int))) s_1v2 (⟨(v51v2.len+1),(appT v51v2.len v51v2.get (fun _=>(⟨(ev0.get iv2.toNat),(⟨x_0v2,x_1v2⟩:Span)⟩:FluxStep)))⟩:Sl FluxStep) (fun i=>enc_32 (s_1v2.get i)) rfl (appG v51v2.len (fun i=>enc_69 (v51v2.get i)) (fun _=>(enc_69 (⟨(ev0.get iv2.toNat),(⟨x_0v2,x_1v2⟩:Span)⟩:FluxStep)))) (appG_e rfl rfl) hs hk)⟩)⟩))
    (fun hs hk=>(hX1 (w64 (iv2+(1:Int))) s_1v2 v51v2 (fun i=>enc_32 (s_1v2.get i)) rfl (fun i=>enc_69 (v51v2.get i)) rfl hs hk)) hs hk)⟩)⟩)) hs hk)
def s28_st1 (s:Sky) (t:(Sl RangeRow)) (bin:Int) (l_a3:(Sl Spell)) (ev0:(Sl Int)) (S1:Int→(Sl (Sl FluxRow))→(Sl FluxStep)→(Sl FluxStep)) (iv1:Int) (s_1v1:(Sl (Sl FluxRow))) (v51v1:(Sl FluxStep)):(Sl FluxStep) :=
  (cond (decide (iv1 < (ev0.len : Int)))
   (s28_at2 S1 s t bin l_a3 ev0 iv1 s_1v1 ((s38 (⟨s.Parts,s_1v1,s.Beta,s.Alpha⟩:Sky) t bin (ev0.get iv1.toNat) l_a3).Low) ((s38 (⟨s.Parts,s_1v1,s.Beta,s.Alpha⟩:Sky) t bin (ev0.get iv1.toNat) l_a3).High) v51v1)
   v51v1)
def p28_st1 (s:Sky) (t:(Sl RangeRow)) (bin:Int) (l_a3:(Sl Spell)) (ev0:(Sl Int)) (P1:Int→(Sl (Sl FluxRow))→(Sl FluxStep)→Bool) (iv1:Int) (s_1v1:(Sl (Sl FluxRow))) (v51v1:(Sl FluxStep)):Bool :=
  (cond (decide (iv1 < (ev0.len : Int)))
   (decide ((0≤iv1∧iv1 < (ev0.len:Int))) &&
   (decide ((p38 (⟨s.Parts,s_1v1,s.Beta,s.Alpha⟩:Sky) t bin (ev0.get iv1.toNat) l_a3=true)) &&
   (p28_at2 P1 s t bin l_a3 ev0 iv1 s_1v1 ((s38 (⟨s.Parts,s_1v1,s.Beta,s.Alpha⟩:Sky) t bin (ev0.get iv1.toNat) l_a3).Low) ((s38 (⟨s.Parts,s_1v1,s.Beta,s.Alpha⟩:Sky) t bin (ev0.get iv1.toNat) l_a3).High) v51v1)))
   true)
def s28_lp1 (s : Sky) (t : (Sl RangeRow)) (bin : Int) (l_a3 : (Sl Spell)) (ev0 : (Sl Int)) : Nat → Int → (Sl (Sl FluxRow)) → (Sl FluxStep) → (Sl FluxStep)
  | 0=>fun _ _ _=>default
  | k+1=>s28_st1 s t bin l_a3 ev0 (s28_lp1 s t bin l_a3 ev0 k)
def p28_lp1 (s : Sky) (t : (Sl RangeRow)) (bin : Int) (l_a3 : (Sl Spell)) (ev0 : (Sl Int)) : Nat → Int → (Sl (Sl FluxRow)) → (Sl FluxStep) → Bool
  | 0=>fun _ _ _=>false
  | k+1=>p28_st1 s t bin l_a3 ev0 (p28_lp1 s t bin l_a3 ev0 k)
def s28_at1 (s:Sky) (t:(Sl RangeRow)) (bin:Int) (l_a3:(Sl Spell)) (ev0:(Sl Int)) (iv1:Int) (s_1v1:(Sl (Sl FluxRow))) (v51v1:(Sl FluxStep)):(Sl FluxStep):=s28_lp1 s t bin l_a3 ev0 Fuel iv1 s_1v1 v51v1
def p28_at1 (s:Sky) (t:(Sl RangeRow)) (bin:Int) (l_a3:(Sl Spell)) (ev0:(Sl Int)) (iv1:Int) (s_1v1:(Sl (Sl FluxRow))) (v51v1:(Sl FluxStep)):Bool:=p28_lp1 s t bin l_a3 ev0 Fuel iv1 s_1v1 v51v1
theorem q28_at1 (K:List PA→Prop) (s:Sky) (t:(Sl RangeRow)) (bin:Int) (l_a3:(Sl Spell)) (ev0:(Sl Int)) (iv1:Int) (s_1v1:(Sl (Sl FluxRow))) (v51v1:(Sl FluxStep)) (s_1v1_g:Nat→List PV) (s_1v1_h:s_1v1_g=fun i=>enc_32 (s_1v1.get i)) (v51v1_g:Nat→List PV) (v51v1_h:v51v1_g=fun i=>enc_69 (v51v1.get i)) (hs:p28_at1 s t bin l_a3 ev0 iv1 s_1v1 v51v1=true) (hk:K (e28 (s28_at1 s t bin l_a3 ev0 iv1 s_1v1 v51v1))):f28_at1 K s t bin l_a3 ev0 iv1 s_1v1.len s_1v1_g v51v1.len v51v1_g:=by
  refine f28_loop1 K s t bin l_a3 ev0 iv1 s_1v1.len s_1v1_g v51v1.len v51v1_g ?_
  intro X1 hstep
  have key:∀ (k:Nat) (iv1:Int) (s_1v1:(Sl (Sl FluxRow))) (v51v1:(Sl FluxStep)) (s_1v1_g:Nat→List PV) (s_1v1_h:s_1v1_g=fun i=>enc_32 (s_1v1.get i)) (v51v1_g:Nat→List PV) (v51v1_h:v51v1_g=fun i=>enc_69 (v51v1.get i)),p28_lp1 s t bin l_a3 ev0 k iv1 s_1v1 v51v1=true→K (e28 (s28_lp1 s t bin l_a3 ev0 k iv1 s_1v1 v51v1))→X1 (f28_g1 s t bin l_a3 ev0 iv1 s_1v1.len s_1v1_g v51v1.len v51v1_g):=by
    intro k
    induction k with
    | zero=>intro iv1 s_1v1 v51v1 s_1v1_g s_1v1_h v51v1_g v51v1_h hs;exact absurd hs Bool.false_ne_true
    | succ k ih =>
      intro iv1 s_1v1 v51v1 s_1v1_g s_1v1_h v51v1_g v51v1_h hs hk
      subst s_1v1_h
      subst v51v1_h
      refine hstep iv1 s_1v1 v51v1 ?_
      have hs:p28_st1 s t bin l_a3 ev0 (p28_lp1 s t bin l_a3 ev0 k) iv1 s_1v1 v51v1=true:=hs
      have hk:K (e28 (s28_st1 s t bin l_a3 ev0 (s28_lp1 s t bin l_a3 ev0 k) iv1 s_1v1 v51v1)):=hk
      unfold p28_st1 at hs
      unfold s28_st1 at hk
      generalize s28_lp1 s t bin l_a3 ev0 k=S1 at hk ih
      generalize p28_lp1 s t bin l_a3 ev0 k=P1 at hs ih
      have hX1:=ih
      exact (condB_go (K := fun r => K (e28 r))
       (fun hs hk=>(andK hs fun hc hs=>⟨hc,(andK hs fun hc hs=>⟨⟨isE,isE,isE,hc⟩,(q28_at2 K s t bin l_a3 ev0 X1 P1 S1 hX1 iv1 s_1v1 ((s38 (⟨s.Parts,s_1v1,s.Beta,s.Alpha⟩:Sky) t bin (ev0.get iv1.toNat) l_a3).Low) ((s38 (⟨s.Parts,s_1v1,s.Beta,s.Alpha⟩:Sky) t bin (ev0.get iv1.toNat) l_a3).High) v51v1 (fun i=>enc_32 (s_1v1.get i)) rfl (fun i=>enc_69 (v51v1.get i)) rfl hs hk)⟩)⟩))
       (fun hs hk=>hk) hs hk)
  exact key _ iv1 s_1v1 v51v1 s_1v1_g s_1v1_h v51v1_g v51v1_h hs hk
def s28_at0 (s:Sky) (t:(Sl RangeRow)) (bin:Int) (l_a3:(Sl Spell)) (ev0:(Sl Int)) (s_1v0:(Sl (Sl FluxRow))):(Sl FluxStep) :=
  (s28_at1 s t bin l_a3 ev0 (0:Int) s_1v0 (⟨0,(fun _=>default)⟩:Sl FluxStep))
def p28_at0 (s:Sky) (t:(Sl RangeRow)) (bin:Int) (l_a3:(Sl Spell)) (ev0:(Sl Int)) (s_1v0:(Sl (Sl FluxRow))):Bool :=
  (p28_at1 s t bin l_a3 ev0 (0:Int) s_1v0 (⟨0,(fun _=>default)⟩:Sl FluxStep))
theorem q28_at0 (K:List PA→Prop) (s:Sky) (t:(Sl RangeRow)) (bin:Int) (l_a3:(Sl Spell)) (ev0:(Sl Int)) (s_1v0:(Sl (Sl FluxRow))) (ev0_g:Nat→List PV) (ev0_h:ev0_g=fun i=>enc_3 (ev0.get i)) (s_1v0_g:Nat→List PV) (s_1v0_h:s_1v0_g=fun i=>enc_32 (s_1v0.get i)) (hs:p28_at0 s t bin l_a3 ev0 s_1v0=true) (hk:K (e28 (s28_at0 s t bin l_a3 ev0 s_1v0))):f28_at0 K s t bin l_a3 ev0.len ev0_g s_1v0.len s_1v0_g:=by
  subst ev0_h
  subst s_1v0_h
  refine ofEq (f28_eq0 K s t bin l_a3 ev0 s_1v0) ?_
  unfold p28_at0 at hs
  unfold s28_at0 at hk
  exact (q28_at1 K s t bin l_a3 ev0 (0:Int) s_1v0 (⟨0,(fun _=>default)⟩:Sl FluxStep) (fun i=>enc_32 (s_1v0.get i)) rfl (fun i=>enc_69 ((fun _=>default) i)) rfl hs hk)
def s28 (s:Sky) (t:(Sl RangeRow)) (bin:Int) (l_a3:(Sl Spell)):(Sl FluxStep) :=
  (s28_at0 s t bin l_a3 (s73 t) s.Bins)
def p28 (s:Sky) (t:(Sl RangeRow)) (bin:Int) (l_a3:(Sl Spell)):Bool :=
  (decide ((p73 t=true)) &&
  (p28_at0 s t bin l_a3 (s73 t) s.Bins))
theorem q28 (s:Sky) (t:(Sl RangeRow)) (bin:Int) (l_a3:(Sl Spell)) (K:List PA→Prop) (hs:p28 s t bin l_a3=true) (hk:K (e28 (s28 s t bin l_a3))):vcFun Try.prog G28 ann28 28 [.agg [.int .i64 s.Parts,.sl s.Bins.len 1 (fun i=>enc_32 (s.Bins.get i)),.int .i64 s.Beta.Low,.int .i64 s.Beta.High,.int .i64 s.Alpha.Low,.int .i64 s.Alpha.High],.one (.sl t.len 3 (fun i=>enc_42 (t.get i))),.one (.int .i64 bin),.one (.sl l_a3.len 5 (fun i=>enc_56 (l_a3.get i)))] K:=by
  refine ofEq (f28_top s t bin l_a3 K) ?_
  unfold p28 at hs
  unfold s28 at hk
  exact (andK hs fun hc hs=>⟨⟨isE,hc⟩,(q28_at0 K s t bin l_a3 (s73 t) s.Bins (fun i=>enc_3 ((s73 t).get i)) rfl (fun i=>enc_32 (s.Bins.get i)) rfl hs hk)⟩)
def ctr28 : List PA → COut
  | [.agg [.int .i64 a0_Parts,.sl a0_Bins_n a0_Bins_s a0_Bins_g,.int .i64 a0_Beta_Low,.int .i64 a0_Beta_High,.int .i64 a0_Alpha_Low,.int .i64 a0_Alpha_High],.one (.sl a1_n a1_s a1_g),.one (.int .i64 a2),.one (.sl a3_n a3_s a3_g)]=>.det (IsE enc_32 1 a0_Bins_s a0_Bins_g∧IsE enc_42 3 a1_s a1_g∧IsE enc_56 5 a3_s a3_g∧p28 (⟨a0_Parts,(⟨a0_Bins_n,decF_32 a0_Bins_g⟩:(Sl (Sl FluxRow))),(⟨a0_Beta_Low,a0_Beta_High⟩:Span),(⟨a0_Alpha_Low,a0_Alpha_High⟩:Span)⟩:Sky) (⟨a1_n,decF_42 a1_g⟩:(Sl RangeRow)) a2 (⟨a3_n,decF_56 a3_g⟩:(Sl Spell))=true) [.one (.sl ((s28 (⟨a0_Parts,(⟨a0_Bins_n,decF_32 a0_Bins_g⟩:(Sl (Sl FluxRow))),(⟨a0_Beta_Low,a0_Beta_High⟩:Span),(⟨a0_Alpha_Low,a0_Alpha_High⟩:Span)⟩:Sky) (⟨a1_n,decF_42 a1_g⟩:(Sl RangeRow)) a2 (⟨a3_n,decF_56 a3_g⟩:(Sl Spell))).len) 3 (fun i=>enc_69 ((s28 (⟨a0_Parts,(⟨a0_Bins_n,decF_32 a0_Bins_g⟩:(Sl (Sl FluxRow))),(⟨a0_Beta_Low,a0_Beta_High⟩:Span),(⟨a0_Alpha_Low,a0_Alpha_High⟩:Span)⟩:Sky) (⟨a1_n,decF_42 a1_g⟩:(Sl RangeRow)) a2 (⟨a3_n,decF_56 a3_g⟩:(Sl Spell))).get i)))]
  | _=>.no
theorem call28:Callable Try.prog 28:=⟨_,rfl,rfl,by kernel_rfl⟩
theorem ok28:Ok Try.prog 28 ctr28:=ok_tab okT28 call28 fun args K h=>by
  unfold ctr28 at h
  split at h
  · rename_i a0_Parts a0_Bins_n a0_Bins_s a0_Bins_g a0_Beta_Low a0_Beta_High a0_Alpha_Low a0_Alpha_High a1_n a1_s a1_g a2 a3_n a3_s a3_g
    obtain ⟨⟨⟨rfl,a0_Bins_f,rfl⟩,⟨rfl,a1_f,rfl⟩,⟨rfl,a3_f,rfl⟩,hs⟩,hk⟩:=h
    try rw [decF_enc_32 a0_Bins_f] at hs
    try rw [decF_enc_32 a0_Bins_f] at hk
    try rw [decF_enc_42 a1_f] at hs
    try rw [decF_enc_42 a1_f] at hk
    try rw [decF_enc_56 a3_f] at hs
    try rw [decF_enc_56 a3_f] at hk
    exact ⟨(fun _ _=>[]),(fun _=>false),ann28,q28 (⟨a0_Parts,(⟨a0_Bins_n,a0_Bins_f⟩:(Sl (Sl FluxRow))),(⟨a0_Beta_Low,a0_Beta_High⟩:Span),(⟨a0_Alpha_Low,a0_Alpha_High⟩:Span)⟩:Sky) (⟨a1_n,a1_f⟩:(Sl RangeRow)) a2 (⟨a3_n,a3_f⟩:(Sl Spell)) K hs hk⟩
  · exact h.elim
abbrev T30:Tabs:=(Tabs.nil.addF 28 ctr28)
theorem okT30:TabsOk Try.prog T30:=(TabsOk.nil.addF ok28)
abbrev G30:Ctrs:=csm T30 (fun _ _=>[]) (fun _=>false)
def ann30:Ann:=⟨76,[(0,⟨[1,2,4,5,8,10],[5,8,10],[],[],[]⟩),(1,⟨[8,10,12],[8,10],[],[],[]⟩),(2,⟨[8,10,12,13],[8,10,13],[],[],[]⟩),(3,⟨[8,10,12,13,14],[8,10,13],[],[],[]⟩),(4,⟨[8,10,12,13,14,25],[8,10,13],[],[],[]⟩),(5,⟨[8,10,12,13,14],[8,10,13],[],[],[]⟩),(6,⟨[8,10,12,13,14,15],[8,10,13],[],[],[]⟩),(7,⟨[8,10,12,13,14,15,32],[8,10,13],[],[],[]⟩),(8,⟨[8,10,12,13,14,15],[8,10,13],[],[],[]⟩),(9,⟨[8,10,12,13,14,15,59],[8,10,13],[],[],[]⟩),(10,⟨[8,10,12,13,14,15,62],[8,10,13],[],[],[]⟩),(11,⟨[8,10,12,13,14,15],[8,10,13],[],[],[]⟩),(12,⟨[8,10,12,13,14],[8,10,13],[],[],[]⟩),(13,⟨[10,13,73],[10,13],[],[],[]⟩),(14,⟨[10,11],[10],[],[],[]⟩),(15,⟨[10,11],[10],[],[],[]⟩)],
  [(4,⟨[8,10,12,13,14],[8,10,13],[],[],[]⟩)],
  [(2,⟨[8,10,12],[8,10],[],[],[]⟩),(9,⟨[8,10,12,13,14,15],[8,10,13],[],[],[]⟩)],
  [],[]⟩
def f30_g0 (rates:Span) (cv0_n:Nat) (cv0_g:Nat→List PV):St:=⟨[(8,.one (.c (.ptr 8 0))),(10,.one (.c (.ptr 10 0))),(12,.one (.c (.p (.sl cv0_n 3 cv0_g))))],[(8,.box 24 [.p (.int .i64 rates.Low),.p (.int .i64 rates.High)]),(10,.box 24 [.p (.int .i64 (0:Int)),.p (.int .i64 (0:Int))])],[]⟩
def f30_at0 (K:List PA→Prop) (rates:Span) (cv0_n:Nat) (cv0_g:Nat→List PV):Prop:=vc Try.prog G30 ann30 (cdF Try.f30 [1,1]) (bodyK Try.prog Try.f30 K) (f30_g0 rates cv0_n cv0_g)
def f30_g1 (rates:Span) (cv0:(Sl FluxStep)) (iv1:Int) (out_0v1:Int) (out_1v1:Int):St:=⟨[(8,.one (.c (.ptr 8 0))),(10,.one (.c (.ptr 10 0))),(12,.one (.c (.p (.sl cv0.len 3 (fun i=>enc_69 (cv0.get i)))))),(13,.one (.c (.ptr 13 0))),(14,.one (.c (.p (.int .i64 iv1))))],[(8,.box 24 [.p (.int .i64 rates.Low),.p (.int .i64 rates.High)]),(10,.box 24 [.p (.int .i64 (0:Int)),.p (.int .i64 (0:Int))]),(13,.box 24 [.p (.int .i64 out_0v1),.p (.int .i64 out_1v1)])],[]⟩
def f30_at1 (K:List PA→Prop) (rates:Span) (cv0:(Sl FluxStep)) (iv1:Int) (out_0v1:Int) (out_1v1:Int):Prop:=vc Try.prog G30 ann30 (cdF Try.f30 [1,1,1,0,1,0]) (blockK 0 (sqK Try.prog G30 ann30 (cdF Try.f30 [1,1,1,1]) (bodyK Try.prog Try.f30 K))) (f30_g1 rates cv0 iv1 out_0v1 out_1v1)
def f30_g2 (rates:Span) (cv0:(Sl FluxStep)) (iv2:Int) (endv2:Int) (out_0v2:Int) (out_1v2:Int):St:=⟨[(8,.one (.c (.ptr 8 0))),(10,.one (.c (.ptr 10 0))),(12,.one (.c (.p (.sl cv0.len 3 (fun i=>enc_69 (cv0.get i)))))),(13,.one (.c (.ptr 13 0))),(14,.one (.c (.p (.int .i64 iv2)))),(15,.one (.c (.p (.int .i64 endv2))))],[(8,.box 24 [.p (.int .i64 rates.Low),.p (.int .i64 rates.High)]),(10,.box 24 [.p (.int .i64 (0:Int)),.p (.int .i64 (0:Int))]),(13,.box 24 [.p (.int .i64 out_0v2),.p (.int .i64 out_1v2)])],[]⟩
def f30_at2 (K:List PA→Prop) (X1:St→Prop) (rates:Span) (cv0:(Sl FluxStep)) (iv2:Int) (endv2:Int) (out_0v2:Int) (out_1v2:Int):Prop:=vc Try.prog G30 ann30 (cdF Try.f30 [1,1,1,0,1,0,0,1,0,0,1,1]) (blockK 1 (sqK Try.prog G30 ann30 (cdF Try.f30 [1,1,1,0,1,0,0,1,1]) (loopK Try.prog ann30 4 X1 (blockK 0 (sqK Try.prog G30 ann30 (cdF Try.f30 [1,1,1,1]) (bodyK Try.prog Try.f30 K)))))) (f30_g2 rates cv0 iv2 endv2 out_0v2 out_1v2)
theorem f30_top (s : Sky) (t : (Sl RangeRow)) (bin : Int) (rates : Span) (l_a4 : (Sl Spell)) (K : List PA → Prop) :
  vcFun Try.prog G30 ann30 30 [.agg [.int .i64 s.Parts,.sl s.Bins.len 1 (fun i=>enc_32 (s.Bins.get i)),.int .i64 s.Beta.Low,.int .i64 s.Beta.High,.int .i64 s.Alpha.Low,.int .i64 s.Alpha.High],.one (.sl t.len 3 (fun i=>enc_42 (t.get i))),.one (.int .i64 bin),.agg [.int .i64 rates.Low,.int .i64 rates.High],.one (.sl l_a4.len 5 (fun i=>enc_56 (l_a4.get i)))] K =
  ((IsE enc_32 1 1 (fun i=>enc_32 (s.Bins.get i))∧IsE enc_42 3 3 (fun i=>enc_42 (t.get i))∧IsE enc_56 5 5 (fun i=>enc_56 (l_a4.get i))∧(p28 s t bin l_a4=true)) ∧
  (f30_at0 K rates ((s28 s t bin l_a4).len) (fun i=>enc_69 ((s28 s t bin l_a4).get i)))):=by kernel_rfl
theorem f30_eq0 (K : List PA → Prop) (rates : Span) (cv0 : (Sl FluxStep)) :
  f30_at0 K rates cv0.len (fun i=>enc_69 (cv0.get i)) =
  (f30_at1 K rates cv0 (0:Int) (-1:Int) (0:Int)):=by kernel_rfl
def f30_step1 (K:List PA→Prop) (X1:St→Prop) (rates:Span) (cv0:(Sl FluxStep)) (iv1:Int) (out_0v1:Int) (out_1v1:Int):Prop :=
  (condP (decide (iv1 < (cv0.len : Int)))
   (condP (decide ((w64 (iv1 + (1:Int))) < (cv0.len : Int)))
    (((0≤(w64 (iv1+(1:Int)))∧(w64 (iv1+(1:Int))) < (cv0.len:Int))) ∧
    (f30_at2 K X1 rates cv0 iv1 (w64 ((cv0.get ((w64 (iv1+(1:Int))).toNat)).From - (1:Int))) out_0v1 out_1v1))
    (f30_at2 K X1 rates cv0 iv1 (1000000:Int) out_0v1 out_1v1))
   (condP (decide (out_0v1 < (0:Int)))
    (K [.agg [.int .i64 (0:Int),.int .i64 (0:Int)],.one (.bool false)])
    (K [.agg [.int .i64 out_0v1,.int .i64 out_1v1],.one (.bool true)])))
theorem f30_stepeq1 (K : List PA → Prop) (X1 : St → Prop) (rates : Span) (cv0 : (Sl FluxStep)) (iv1 : Int) (out_0v1 : Int) (out_1v1 : Int) :
  vc Try.prog G30 ann30 (cd (cdF Try.f30 [1,1,1,0,1,0]) [0]) (loopK Try.prog ann30 4 X1 (blockK 0 (sqK Try.prog G30 ann30 (cdF Try.f30 [1,1,1,1]) (bodyK Try.prog Try.f30 K)))) (f30_g1 rates cv0 iv1 out_0v1 out_1v1) =
  f30_step1 K X1 rates cv0 iv1 out_0v1 out_1v1:=by kernel_rfl
theorem f30_loop1 (K : List PA → Prop) (rates : Span) (cv0 : (Sl FluxStep)) (iv1 : Int) (out_0v1 : Int) (out_1v1 : Int)
  (h:∀ X1:St→Prop,(∀ (iv1:Int) (out_0v1:Int) (out_1v1:Int),f30_step1 K X1 rates cv0 iv1 out_0v1 out_1v1→X1 (f30_g1 rates cv0 iv1 out_0v1 out_1v1))→X1 (f30_g1 rates cv0 iv1 out_0v1 out_1v1)) :
  f30_at1 K rates cv0 iv1 out_0v1 out_1v1:=by
  have e:f30_at1 K rates cv0 iv1 out_0v1 out_1v1=(∀ X:St→Prop,(∀ s,vc Try.prog G30 ann30 (cd (cdF Try.f30 [1,1,1,0,1,0]) [0]) (loopK Try.prog ann30 4 X (blockK 0 (sqK Try.prog G30 ann30 (cdF Try.f30 [1,1,1,1]) (bodyK Try.prog Try.f30 K)))) s→X s)→X (f30_g1 rates cv0 iv1 out_0v1 out_1v1)):=by kernel_rfl
  refine ofEq e ?_
  intro X hX
  refine h X ?_
  intro iv1 out_0v1 out_1v1 hs
  refine hX _ ?_
  have e2:=f30_stepeq1 K X rates cv0 iv1 out_0v1 out_1v1
  rw [e2]
  exact hs
theorem f30_eq2 (K : List PA → Prop) (X1 : St → Prop) (rates : Span) (cv0 : (Sl FluxStep)) (iv2 : Int) (endv2 : Int) (out_0v2 : Int) (out_1v2 : Int) :
  f30_at2 K X1 rates cv0 iv2 endv2 out_0v2 out_1v2 =
  (((0≤iv2∧iv2 < (cv0.len:Int))) ∧
  (condP (decide ((cv0.get iv2.toNat).Rate.Low ≤ rates.High))
   (((0≤iv2∧iv2 < (cv0.len:Int))) ∧
   (condP (decide ((cv0.get iv2.toNat).Rate.High ≥ rates.Low))
    (condP (decide (out_0v2 < (0:Int)))
     (((0≤iv2∧iv2 < (cv0.len:Int))) ∧
     (X1 (f30_g1 rates cv0 (w64 (iv2+(1:Int))) ((cv0.get iv2.toNat).From) endv2)))
     (X1 (f30_g1 rates cv0 (w64 (iv2+(1:Int))) out_0v2 endv2)))
    (X1 (f30_g1 rates cv0 (w64 (iv2+(1:Int))) out_0v2 out_1v2))))
   (X1 (f30_g1 rates cv0 (w64 (iv2+(1:Int))) out_0v2 out_1v2)))):=by kernel_rfl
abbrev e30 (r:(Span×Bool)):List PA:=[.agg [.int .i64 r.1.Low,.int .i64 r.1.High],.one (.bool r.2)]
attribute [irreducible] f30_at0 f30_at1 f30_at2
def s30_at2 (S1:Int→Int→Int→(Span×Bool)) (rates:Span) (cv0:(Sl FluxStep)) (iv2:Int) (endv2:Int) (out_0v2:Int) (out_1v2:Int):(Span×Bool) :=
  (cond (decide ((cv0.get iv2.toNat).Rate.Low ≤ rates.High))
   (cond (decide ((cv0.get iv2.toNat).Rate.High ≥ rates.Low))
    (cond (decide (out_0v2 < (0:Int)))
     (S1 (w64 (iv2+(1:Int))) ((cv0.get iv2.toNat).From) endv2)
     (S1 (w64 (iv2+(1:Int))) out_0v2 endv2))
    (S1 (w64 (iv2+(1:Int))) out_0v2 out_1v2))
   (S1 (w64 (iv2+(1:Int))) out_0v2 out_1v2))
def p30_at2 (P1:Int→Int→Int→Bool) (rates:Span) (cv0:(Sl FluxStep)) (iv2:Int) (endv2:Int) (out_0v2:Int) (out_1v2:Int):Bool :=
  (decide ((0≤iv2∧iv2 < (cv0.len:Int))) &&
  (cond (decide ((cv0.get iv2.toNat).Rate.Low ≤ rates.High))
   (decide ((0≤iv2∧iv2 < (cv0.len:Int))) &&
   (cond (decide ((cv0.get iv2.toNat).Rate.High ≥ rates.Low))
    (cond (decide (out_0v2 < (0:Int)))
     (decide ((0≤iv2∧iv2 < (cv0.len:Int))) &&
     (P1 (w64 (iv2+(1:Int))) ((cv0.get iv2.toNat).From) endv2))
     (P1 (w64 (iv2+(1:Int))) out_0v2 endv2))
    (P1 (w64 (iv2+(1:Int))) out_0v2 out_1v2)))
   (P1 (w64 (iv2+(1:Int))) out_0v2 out_1v2)))
theorem q30_at2 (K : List PA → Prop) (rates : Span) (cv0 : (Sl FluxStep))
  (X1:St→Prop) (P1:Int→Int→Int→Bool) (S1:Int→Int→Int→(Span×Bool))
  (hX1:∀ (iv1:Int) (out_0v1:Int) (out_1v1:Int),P1 iv1 out_0v1 out_1v1=true→K (e30 (S1 iv1 out_0v1 out_1v1))→X1 (f30_g1 rates cv0 iv1 out_0v1 out_1v1)) (iv2:Int) (endv2:Int) (out_0v2:Int) (out_1v2:Int) (hs:p30_at2 P1 rates cv0 iv2 endv2 out_0v2 out_1v2=true) (hk:K (e30 (s30_at2 S1 rates cv0 iv2 endv2 out_0v2 out_1v2))):f30_at2 K X1 rates cv0 iv2 endv2 out_0v2 out_1v2:=by
  refine ofEq (f30_eq2 K X1 rates cv0 iv2 endv2 out_0v2 out_1v2) ?_
  unfold p30_at2 at hs
  unfold s30_at2 at hk
  exact (andK hs fun hc hs => ⟨hc, (condB_go (K := fun r => K (e30 r))
   (fun hs hk => (andK hs fun hc hs => ⟨hc, (condB_go (K := fun r => K (e30 r))
    (fun hs hk => (condB_go (K := fun r => K (e30 r))
     (fun hs hk=>(andK hs fun hc hs=>⟨hc,(hX1 (w64 (iv2+(1:Int))) ((cv0.get iv2.toNat).From) endv2 hs hk)⟩))
     (fun hs hk=>(hX1 (w64 (iv2+(1:Int))) out_0v2 endv2 hs hk)) hs hk))
    (fun hs hk=>(hX1 (w64 (iv2+(1:Int))) out_0v2 out_1v2 hs hk)) hs hk)⟩))
   (fun hs hk=>(hX1 (w64 (iv2+(1:Int))) out_0v2 out_1v2 hs hk)) hs hk)⟩)
def s30_st1 (rates:Span) (cv0:(Sl FluxStep)) (S1:Int→Int→Int→(Span×Bool)) (iv1:Int) (out_0v1:Int) (out_1v1:Int):(Span×Bool) :=
  (cond (decide (iv1 < (cv0.len : Int)))
   (cond (decide ((w64 (iv1 + (1:Int))) < (cv0.len : Int)))
    (s30_at2 S1 rates cv0 iv1 (w64 ((cv0.get ((w64 (iv1+(1:Int))).toNat)).From - (1:Int))) out_0v1 out_1v1)
    (s30_at2 S1 rates cv0 iv1 (1000000:Int) out_0v1 out_1v1))
   (cond (decide (out_0v1 < (0:Int)))
    ((⟨(0:Int),(0:Int)⟩:Span),false)
    ((⟨out_0v1,out_1v1⟩:Span),true)))
def p30_st1 (rates:Span) (cv0:(Sl FluxStep)) (P1:Int→Int→Int→Bool) (iv1:Int) (out_0v1:Int) (out_1v1:Int):Bool :=
  (cond (decide (iv1 < (cv0.len : Int)))
   (cond (decide ((w64 (iv1 + (1:Int))) < (cv0.len : Int)))
    (decide ((0≤(w64 (iv1+(1:Int)))∧(w64 (iv1+(1:Int))) < (cv0.len:Int))) &&
    (p30_at2 P1 rates cv0 iv1 (w64 ((cv0.get ((w64 (iv1+(1:Int))).toNat)).From - (1:Int))) out_0v1 out_1v1))
    (p30_at2 P1 rates cv0 iv1 (1000000:Int) out_0v1 out_1v1))
   true)
def s30_lp1 (rates : Span) (cv0 : (Sl FluxStep)) : Nat → Int → Int → Int → (Span × Bool)
  | 0=>fun _ _ _=>default
  | k+1=>s30_st1 rates cv0 (s30_lp1 rates cv0 k)
def p30_lp1 (rates : Span) (cv0 : (Sl FluxStep)) : Nat → Int → Int → Int → Bool
  | 0=>fun _ _ _=>false
  | k+1=>p30_st1 rates cv0 (p30_lp1 rates cv0 k)
def s30_at1 (rates:Span) (cv0:(Sl FluxStep)) (iv1:Int) (out_0v1:Int) (out_1v1:Int):(Span×Bool):=s30_lp1 rates cv0 Fuel iv1 out_0v1 out_1v1
def p30_at1 (rates:Span) (cv0:(Sl FluxStep)) (iv1:Int) (out_0v1:Int) (out_1v1:Int):Bool:=p30_lp1 rates cv0 Fuel iv1 out_0v1 out_1v1
theorem q30_at1 (K:List PA→Prop) (rates:Span) (cv0:(Sl FluxStep)) (iv1:Int) (out_0v1:Int) (out_1v1:Int) (hs:p30_at1 rates cv0 iv1 out_0v1 out_1v1=true) (hk:K (e30 (s30_at1 rates cv0 iv1 out_0v1 out_1v1))):f30_at1 K rates cv0 iv1 out_0v1 out_1v1:=by
  refine f30_loop1 K rates cv0 iv1 out_0v1 out_1v1 ?_
  intro X1 hstep
  have key:∀ (k:Nat) (iv1:Int) (out_0v1:Int) (out_1v1:Int),p30_lp1 rates cv0 k iv1 out_0v1 out_1v1=true→K (e30 (s30_lp1 rates cv0 k iv1 out_0v1 out_1v1))→X1 (f30_g1 rates cv0 iv1 out_0v1 out_1v1):=by
    intro k
    induction k with
    | zero=>intro iv1 out_0v1 out_1v1 hs;exact absurd hs Bool.false_ne_true
    | succ k ih =>
      intro iv1 out_0v1 out_1v1 hs hk
      refine hstep iv1 out_0v1 out_1v1 ?_
      have hs:p30_st1 rates cv0 (p30_lp1 rates cv0 k) iv1 out_0v1 out_1v1=true:=hs
      have hk:K (e30 (s30_st1 rates cv0 (s30_lp1 rates cv0 k) iv1 out_0v1 out_1v1)):=hk
      unfold p30_st1 at hs
      unfold s30_st1 at hk
      generalize s30_lp1 rates cv0 k=S1 at hk ih
      generalize p30_lp1 rates cv0 k=P1 at hs ih
      have hX1:=ih
      exact (condB_go (K := fun r => K (e30 r))
       (fun hs hk => (condB_go (K := fun r => K (e30 r))
        (fun hs hk=>(andK hs fun hc hs=>⟨hc,(q30_at2 K rates cv0 X1 P1 S1 hX1 iv1 (w64 ((cv0.get ((w64 (iv1+(1:Int))).toNat)).From - (1:Int))) out_0v1 out_1v1 hs hk)⟩))
        (fun hs hk=>(q30_at2 K rates cv0 X1 P1 S1 hX1 iv1 (1000000:Int) out_0v1 out_1v1 hs hk)) hs hk))
       (fun hs hk => (condP_gt (K := fun r => K (e30 r))
        (fun hk=>hk)
        (fun hk=>hk) hk)) hs hk)
  exact key _ iv1 out_0v1 out_1v1 hs hk
def s30_at0 (rates:Span) (cv0:(Sl FluxStep)):(Span×Bool) :=
  (s30_at1 rates cv0 (0:Int) (-1:Int) (0:Int))
def p30_at0 (rates:Span) (cv0:(Sl FluxStep)):Bool :=
  (p30_at1 rates cv0 (0:Int) (-1:Int) (0:Int))
theorem q30_at0 (K:List PA→Prop) (rates:Span) (cv0:(Sl FluxStep)) (cv0_g:Nat→List PV) (cv0_h:cv0_g=fun i=>enc_69 (cv0.get i)) (hs:p30_at0 rates cv0=true) (hk:K (e30 (s30_at0 rates cv0))):f30_at0 K rates cv0.len cv0_g:=by
  subst cv0_h
  refine ofEq (f30_eq0 K rates cv0) ?_
  unfold p30_at0 at hs
  unfold s30_at0 at hk
  exact (q30_at1 K rates cv0 (0:Int) (-1:Int) (0:Int) hs hk)
def s30 (s:Sky) (t:(Sl RangeRow)) (bin:Int) (rates:Span) (l_a4:(Sl Spell)):(Span×Bool) :=
  (s30_at0 rates (s28 s t bin l_a4))
def p30 (s:Sky) (t:(Sl RangeRow)) (bin:Int) (rates:Span) (l_a4:(Sl Spell)):Bool :=
  (decide ((p28 s t bin l_a4=true)) &&
  (p30_at0 rates (s28 s t bin l_a4)))
theorem q30 (s:Sky) (t:(Sl RangeRow)) (bin:Int) (rates:Span) (l_a4:(Sl Spell)) (K:List PA→Prop) (hs:p30 s t bin rates l_a4=true) (hk:K (e30 (s30 s t bin rates l_a4))):vcFun Try.prog G30 ann30 30 [.agg [.int .i64 s.Parts,.sl s.Bins.len 1 (fun i=>enc_32 (s.Bins.get i)),.int .i64 s.Beta.Low,.int .i64 s.Beta.High,.int .i64 s.Alpha.Low,.int .i64 s.Alpha.High],.one (.sl t.len 3 (fun i=>enc_42 (t.get i))),.one (.int .i64 bin),.agg [.int .i64 rates.Low,.int .i64 rates.High],.one (.sl l_a4.len 5 (fun i=>enc_56 (l_a4.get i)))] K:=by
  refine ofEq (f30_top s t bin rates l_a4 K) ?_
  unfold p30 at hs
  unfold s30 at hk
  exact (andK hs fun hc hs=>⟨⟨isE,isE,isE,hc⟩,(q30_at0 K rates (s28 s t bin l_a4) (fun i=>enc_69 ((s28 s t bin l_a4).get i)) rfl hs hk)⟩)
def ctr30 : List PA → COut
  | [.agg [.int .i64 a0_Parts,.sl a0_Bins_n a0_Bins_s a0_Bins_g,.int .i64 a0_Beta_Low,.int .i64 a0_Beta_High,.int .i64 a0_Alpha_Low,.int .i64 a0_Alpha_High],.one (.sl a1_n a1_s a1_g),.one (.int .i64 a2),.agg [.int .i64 a3_Low,.int .i64 a3_High],.one (.sl a4_n a4_s a4_g)]=>.det (IsE enc_32 1 a0_Bins_s a0_Bins_g∧IsE enc_42 3 a1_s a1_g∧IsE enc_56 5 a4_s a4_g∧p30 (⟨a0_Parts,(⟨a0_Bins_n,decF_32 a0_Bins_g⟩:(Sl (Sl FluxRow))),(⟨a0_Beta_Low,a0_Beta_High⟩:Span),(⟨a0_Alpha_Low,a0_Alpha_High⟩:Span)⟩:Sky) (⟨a1_n,decF_42 a1_g⟩:(Sl RangeRow)) a2 (⟨a3_Low,a3_High⟩:Span) (⟨a4_n,decF_56 a4_g⟩:(Sl Spell))=true) [.agg [.int .i64 (((s30 (⟨a0_Parts,(⟨a0_Bins_n,decF_32 a0_Bins_g⟩:(Sl (Sl FluxRow))),(⟨a0_Beta_Low,a0_Beta_High⟩:Span),(⟨a0_Alpha_Low,a0_Alpha_High⟩:Span)⟩:Sky) (⟨a1_n,decF_42 a1_g⟩:(Sl RangeRow)) a2 (⟨a3_Low,a3_High⟩:Span) (⟨a4_n,decF_56 a4_g⟩:(Sl Spell))).1).Low),.int .i64 (((s30 (⟨a0_Parts,(⟨a0_Bins_n,decF_32 a0_Bins_g⟩:(Sl (Sl FluxRow))),(⟨a0_Beta_Low,a0_Beta_High⟩:Span),(⟨a0_Alpha_Low,a0_Alpha_High⟩:Span)⟩:Sky) (⟨a1_n,decF_42 a1_g⟩:(Sl RangeRow)) a2 (⟨a3_Low,a3_High⟩:Span) (⟨a4_n,decF_56 a4_g⟩:(Sl Spell))).1).High)],.one (.bool ((s30 (⟨a0_Parts,(⟨a0_Bins_n,decF_32 a0_Bins_g⟩:(Sl (Sl FluxRow))),(⟨a0_Beta_Low,a0_Beta_High⟩:Span),(⟨a0_Alpha_Low,a0_Alpha_High⟩:Span)⟩:Sky) (⟨a1_n,decF_42 a1_g⟩:(Sl RangeRow)) a2 (⟨a3_Low,a3_High⟩:Span) (⟨a4_n,decF_56 a4_g⟩:(Sl Spell))).2))]
  | _=>.no
theorem call30:Callable Try.prog 30:=⟨_,rfl,rfl,by kernel_rfl⟩
theorem ok30:Ok Try.prog 30 ctr30:=ok_tab okT30 call30 fun args K h=>by
  unfold ctr30 at h
  split at h
  · rename_i a0_Parts a0_Bins_n a0_Bins_s a0_Bins_g a0_Beta_Low a0_Beta_High a0_Alpha_Low a0_Alpha_High a1_n a1_s a1_g a2 a3_Low a3_High a4_n a4_s a4_g
    obtain ⟨⟨⟨rfl,a0_Bins_f,rfl⟩,⟨rfl,a1_f,rfl⟩,⟨rfl,a4_f,rfl⟩,hs⟩,hk⟩:=h
    try rw [decF_enc_32 a0_Bins_f] at hs
    try rw [decF_enc_32 a0_Bins_f] at hk
    try rw [decF_enc_42 a1_f] at hs
    try rw [decF_enc_42 a1_f] at hk
    try rw [decF_enc_56 a4_f] at hs
    try rw [decF_enc_56 a4_f] at hk
    exact ⟨(fun _ _=>[]),(fun _=>false),ann30,q30 (⟨a0_Parts,(⟨a0_Bins_n,a0_Bins_f⟩:(Sl (Sl FluxRow))),(⟨a0_Beta_Low,a0_Beta_High⟩:Span),(⟨a0_Alpha_Low,a0_Alpha_High⟩:Span)⟩:Sky) (⟨a1_n,a1_f⟩:(Sl RangeRow)) a2 (⟨a3_Low,a3_High⟩:Span) (⟨a4_n,a4_f⟩:(Sl Spell)) K hs hk⟩
  · exact h.elim
end Go.Proofs
namespace Go.Proofs
open Go Go.Pm
set_option maxRecDepth 100000
set_option linter.unusedVariables false
attribute [local irreducible] Go.Pm.vcFun Go.Pm.vc Go.Pm.vcIter
abbrev T5:Tabs:=((((((((((((Tabs.nil.addF 15 ctr15).addF 16 ctr16).addF 17 ctr17).addF 18 ctr18).addF 22 ctr22).addF 23 ctr23).addF 25 ctr25).addF 26 ctr26).addF 27 ctr27).addF 28 ctr28).addF 29 ctr29).addF 30 ctr30)
theorem okT5:TabsOk Try.prog T5:=((((((((((((TabsOk.nil.addF ok15).addF ok16).addF ok17).addF ok18).addF ok22).addF ok23).addF ok25).addF ok26).addF ok27).addF ok28).addF ok29).addF ok30)
abbrev G5:Ctrs:=csm T5 (fun _ _=>[]) (fun _=>false)
def ann5:Ann:=⟨212,[(0,⟨[1,2,4,5,6,9],[6,9],[],[],[]⟩),(1,⟨[1,2,4,5,6,9,41],[6,9],[],[],[]⟩),(2,⟨[12],[],[],[],[]⟩),(3,⟨[1,2,4,5,6,9,13,14],[6,9,13],[],[],[]⟩),(4,⟨[1,2,4,5,6,9,13,14,15,16],[6,9,13],[],[],[]⟩),(5,⟨[1,2,4,5,6,9,13,14,15,16,17],[6,9,13],[],[],[]⟩),(6,⟨[1,2,4,5,6,9,13,14,15,16,82],[6,9,13],[],[],[]⟩),(7,⟨[12],[],[],[],[]⟩),(8,⟨[1,2,4,5,6,9,13,14,113],[6,9,13],[],[],[]⟩),(9,⟨[12],[],[],[],[]⟩),(10,⟨[1,2,4,5,6,9,13,14,118],[6,9,13],[],[],[]⟩),(11,⟨[12],[],[],[],[]⟩),(12,⟨[1,2,4,5,6,9,13,14,18,19],[6,9,13,18],[],[],[]⟩),(13,⟨[1,2,4,5,6,9,13,14,160],[6,9,13],[],[],[]⟩),(14,⟨[12],[],[],[],[]⟩),(15,⟨[1,2,4,5,6,9,13,14,166],[6,9,13],[],[],[]⟩),(16,⟨[12],[],[],[],[]⟩),(17,⟨[5,9,13,14,20,21],[9,13,20],[],[],[]⟩),(18,⟨[5,13,14,21,22],[13],[],[],[]⟩),(19,⟨[12],[],[],[],[]⟩)],
  [],
  [(2,⟨[1,2,4,5,6,9,41],[6,9],[],[],[]⟩),(3,⟨[1,2,4,5,6,9],[6,9],[],[],[]⟩),(4,⟨[1,2,4,5,6,9,13,14],[6,9,13],[],[],[]⟩),(5,⟨[1,2,4,5,6,9,13,14,15,16],[6,9,13],[],[],[]⟩),(6,⟨[1,2,4,5,6,9,13,14,15,16,17],[6,9,13],[],[],[]⟩),(8,⟨[1,2,4,5,6,9,13,14,15,16],[6,9,13],[],[],[]⟩),(9,⟨[1,2,4,5,6,9,13,14,113],[6,9,13],[],[],[]⟩),(10,⟨[1,2,4,5,6,9,13,14],[6,9,13],[],[],[]⟩),(11,⟨[1,2,4,5,6,9,13,14,118],[6,9,13],[],[],[]⟩),(12,⟨[1,2,4,5,6,9,13,14],[6,9,13],[],[],[]⟩),(13,⟨[1,2,4,5,6,9,13,14,18,19],[6,9,13,18],[],[],[]⟩),(15,⟨[1,2,4,5,6,9,13,14],[6,9,13],[],[],[]⟩),(17,⟨[1,2,4,5,6,9,13,14],[6,9,13],[],[],[]⟩),(18,⟨[5,9,13,14,20,21],[9,13,20],[],[],[]⟩)],
  [],[]⟩
def f5_g0 (s:Sky) (t:(Sl RangeRow)) (bin:Int) (rates:Span) (l_a4:(Sl Spell)) (opacity:Int) (t41v0:Bool) (s_1v0_n:Nat) (s_1v0_g:Nat→List PV):St:=⟨[(1,.one (.c (.p (.sl t.len 3 (fun i=>enc_42 (t.get i)))))),(2,.one (.c (.p (.int .i64 bin)))),(4,.one (.c (.p (.sl l_a4.len 5 (fun i=>enc_56 (l_a4.get i)))))),(5,.one (.c (.p (.int .i64 opacity)))),(6,.one (.c (.ptr 6 0))),(9,.one (.c (.ptr 9 0))),(41,.one (.c (.p (.bool t41v0))))],[(6,.box 26 [.p (.int .i64 s.Parts),.p (.sl s_1v0_n 1 s_1v0_g),.p (.int .i64 s.Beta.Low),.p (.int .i64 s.Beta.High),.p (.int .i64 s.Alpha.Low),.p (.int .i64 s.Alpha.High)]),(9,.box 24 [.p (.int .i64 rates.Low),.p (.int .i64 rates.High)])],[]⟩
def f5_at0 (K:List PA→Prop) (s:Sky) (t:(Sl RangeRow)) (bin:Int) (rates:Span) (l_a4:(Sl Spell)) (opacity:Int) (t41v0:Bool) (s_1v0_n:Nat) (s_1v0_g:Nat→List PV):Prop:=vc Try.prog G5 ann5 (cdF Try.f5 [1,0,1]) (sqK Try.prog G5 ann5 (cdF Try.f5 [1,1]) (bodyK Try.prog Try.f5 K)) (f5_g0 s t bin rates l_a4 opacity t41v0 s_1v0_n s_1v0_g)
def f5_g1 (s:Sky) (t:(Sl RangeRow)) (bin:Int) (rates:Span) (l_a4:(Sl Spell)) (opacity:Int) (s_1v1_n:Nat) (s_1v1_g:Nat→List PV):St:=⟨[(1,.one (.c (.p (.sl t.len 3 (fun i=>enc_42 (t.get i)))))),(2,.one (.c (.p (.int .i64 bin)))),(4,.one (.c (.p (.sl l_a4.len 5 (fun i=>enc_56 (l_a4.get i)))))),(5,.one (.c (.p (.int .i64 opacity)))),(6,.one (.c (.ptr 6 0))),(9,.one (.c (.ptr 9 0)))],[(6,.box 26 [.p (.int .i64 s.Parts),.p (.sl s_1v1_n 1 s_1v1_g),.p (.int .i64 s.Beta.Low),.p (.int .i64 s.Beta.High),.p (.int .i64 s.Alpha.Low),.p (.int .i64 s.Alpha.High)]),(9,.box 24 [.p (.int .i64 rates.Low),.p (.int .i64 rates.High)])],[]⟩
def f5_at1 (K:List PA→Prop) (s:Sky) (t:(Sl RangeRow)) (bin:Int) (rates:Span) (l_a4:(Sl Spell)) (opacity:Int) (s_1v1_n:Nat) (s_1v1_g:Nat→List PV):Prop:=vc Try.prog G5 ann5 (cdF Try.f5 [1,1]) (bodyK Try.prog Try.f5 K) (f5_g1 s t bin rates l_a4 opacity s_1v1_n s_1v1_g)
def f5_g2 (s:Sky) (t:(Sl RangeRow)) (bin:Int) (rates:Span) (l_a4:(Sl Spell)) (opacity:Int) (ev2:Int) (s_1v2_n:Nat) (s_1v2_g:Nat→List PV) (a_0v2:Int) (a_1v2:Int):St:=⟨[(1,.one (.c (.p (.sl t.len 3 (fun i=>enc_42 (t.get i)))))),(2,.one (.c (.p (.int .i64 bin)))),(4,.one (.c (.p (.sl l_a4.len 5 (fun i=>enc_56 (l_a4.get i)))))),(5,.one (.c (.p (.int .i64 opacity)))),(6,.one (.c (.ptr 6 0))),(9,.one (.c (.ptr 9 0))),(13,.one (.c (.ptr 13 0))),(14,.one (.c (.p (.int .i64 ev2))))],[(6,.box 26 [.p (.int .i64 s.Parts),.p (.sl s_1v2_n 1 s_1v2_g),.p (.int .i64 s.Beta.Low),.p (.int .i64 s.Beta.High),.p (.int .i64 s.Alpha.Low),.p (.int .i64 s.Alpha.High)]),(9,.box 24 [.p (.int .i64 rates.Low),.p (.int .i64 rates.High)]),(13,.box 24 [.p (.int .i64 a_0v2),.p (.int .i64 a_1v2)])],[]⟩
def f5_at2 (K:List PA→Prop) (s:Sky) (t:(Sl RangeRow)) (bin:Int) (rates:Span) (l_a4:(Sl Spell)) (opacity:Int) (ev2:Int) (s_1v2_n:Nat) (s_1v2_g:Nat→List PV) (a_0v2:Int) (a_1v2:Int):Prop:=vc Try.prog G5 ann5 (cdF Try.f5 [1,1,1]) (bodyK Try.prog Try.f5 K) (f5_g2 s t bin rates l_a4 opacity ev2 s_1v2_n s_1v2_g a_0v2 a_1v2)
def f5_g3 (s:Sky) (t:(Sl RangeRow)) (bin:Int) (rates:Span) (l_a4:(Sl Spell)) (opacity:Int) (ev2:Int) (a_0v2:Int) (a_1v2:Int) (cv3_n:Nat) (cv3_g:Nat→List PV) (fv3:Int) (s_1v3_n:Nat) (s_1v3_g:Nat→List PV):St:=⟨[(1,.one (.c (.p (.sl t.len 3 (fun i=>enc_42 (t.get i)))))),(2,.one (.c (.p (.int .i64 bin)))),(4,.one (.c (.p (.sl l_a4.len 5 (fun i=>enc_56 (l_a4.get i)))))),(5,.one (.c (.p (.int .i64 opacity)))),(6,.one (.c (.ptr 6 0))),(9,.one (.c (.ptr 9 0))),(13,.one (.c (.ptr 13 0))),(14,.one (.c (.p (.int .i64 ev2)))),(15,.one (.c (.p (.sl cv3_n 3 cv3_g)))),(16,.one (.c (.p (.int .i64 fv3))))],[(6,.box 26 [.p (.int .i64 s.Parts),.p (.sl s_1v3_n 1 s_1v3_g),.p (.int .i64 s.Beta.Low),.p (.int .i64 s.Beta.High),.p (.int .i64 s.Alpha.Low),.p (.int .i64 s.Alpha.High)]),(9,.box 24 [.p (.int .i64 rates.Low),.p (.int .i64 rates.High)]),(13,.box 24 [.p (.int .i64 a_0v2),.p (.int .i64 a_1v2)])],[]⟩
def f5_at3 (K:List PA→Prop) (s:Sky) (t:(Sl RangeRow)) (bin:Int) (rates:Span) (l_a4:(Sl Spell)) (opacity:Int) (ev2:Int) (a_0v2:Int) (a_1v2:Int) (cv3_n:Nat) (cv3_g:Nat→List PV) (fv3:Int) (s_1v3_n:Nat) (s_1v3_g:Nat→List PV):Prop:=vc Try.prog G5 ann5 (cdF Try.f5 [1,1,1,1]) (bodyK Try.prog Try.f5 K) (f5_g3 s t bin rates l_a4 opacity ev2 a_0v2 a_1v2 cv3_n cv3_g fv3 s_1v3_n s_1v3_g)
def f5_g4 (s:Sky) (t:(Sl RangeRow)) (bin:Int) (rates:Span) (l_a4:(Sl Spell)) (opacity:Int) (ev2:Int) (a_0v2:Int) (a_1v2:Int) (cv3:(Sl FluxStep)) (fv3:Int) (finev4:Bool) (s_1v4_n:Nat) (s_1v4_g:Nat→List PV):St:=⟨[(1,.one (.c (.p (.sl t.len 3 (fun i=>enc_42 (t.get i)))))),(2,.one (.c (.p (.int .i64 bin)))),(4,.one (.c (.p (.sl l_a4.len 5 (fun i=>enc_56 (l_a4.get i)))))),(5,.one (.c (.p (.int .i64 opacity)))),(6,.one (.c (.ptr 6 0))),(9,.one (.c (.ptr 9 0))),(13,.one (.c (.ptr 13 0))),(14,.one (.c (.p (.int .i64 ev2)))),(15,.one (.c (.p (.sl cv3.len 3 (fun i=>enc_69 (cv3.get i)))))),(16,.one (.c (.p (.int .i64 fv3)))),(17,.one (.c (.p (.bool finev4))))],[(6,.box 26 [.p (.int .i64 s.Parts),.p (.sl s_1v4_n 1 s_1v4_g),.p (.int .i64 s.Beta.Low),.p (.int .i64 s.Beta.High),.p (.int .i64 s.Alpha.Low),.p (.int .i64 s.Alpha.High)]),(9,.box 24 [.p (.int .i64 rates.Low),.p (.int .i64 rates.High)]),(13,.box 24 [.p (.int .i64 a_0v2),.p (.int .i64 a_1v2)])],[]⟩
def f5_at4 (K:List PA→Prop) (s:Sky) (t:(Sl RangeRow)) (bin:Int) (rates:Span) (l_a4:(Sl Spell)) (opacity:Int) (ev2:Int) (a_0v2:Int) (a_1v2:Int) (cv3:(Sl FluxStep)) (fv3:Int) (finev4:Bool) (s_1v4_n:Nat) (s_1v4_g:Nat→List PV):Prop:=vc Try.prog G5 ann5 (cdF Try.f5 [1,1,1,1,1]) (bodyK Try.prog Try.f5 K) (f5_g4 s t bin rates l_a4 opacity ev2 a_0v2 a_1v2 cv3 fv3 finev4 s_1v4_n s_1v4_g)
def f5_g5 (s:Sky) (t:(Sl RangeRow)) (bin:Int) (rates:Span) (l_a4:(Sl Spell)) (opacity:Int) (ev2:Int) (a_0v2:Int) (a_1v2:Int) (cv3:(Sl FluxStep)) (fv3:Int) (s_1v5_n:Nat) (s_1v5_g:Nat→List PV):St:=⟨[(1,.one (.c (.p (.sl t.len 3 (fun i=>enc_42 (t.get i)))))),(2,.one (.c (.p (.int .i64 bin)))),(4,.one (.c (.p (.sl l_a4.len 5 (fun i=>enc_56 (l_a4.get i)))))),(5,.one (.c (.p (.int .i64 opacity)))),(6,.one (.c (.ptr 6 0))),(9,.one (.c (.ptr 9 0))),(13,.one (.c (.ptr 13 0))),(14,.one (.c (.p (.int .i64 ev2)))),(15,.one (.c (.p (.sl cv3.len 3 (fun i=>enc_69 (cv3.get i)))))),(16,.one (.c (.p (.int .i64 fv3))))],[(6,.box 26 [.p (.int .i64 s.Parts),.p (.sl s_1v5_n 1 s_1v5_g),.p (.int .i64 s.Beta.Low),.p (.int .i64 s.Beta.High),.p (.int .i64 s.Alpha.Low),.p (.int .i64 s.Alpha.High)]),(9,.box 24 [.p (.int .i64 rates.Low),.p (.int .i64 rates.High)]),(13,.box 24 [.p (.int .i64 a_0v2),.p (.int .i64 a_1v2)])],[]⟩
def f5_at5 (K:List PA→Prop) (s:Sky) (t:(Sl RangeRow)) (bin:Int) (rates:Span) (l_a4:(Sl Spell)) (opacity:Int) (ev2:Int) (a_0v2:Int) (a_1v2:Int) (cv3:(Sl FluxStep)) (fv3:Int) (s_1v5_n:Nat) (s_1v5_g:Nat→List PV):Prop:=vc Try.prog G5 ann5 (cdF Try.f5 [1,1,1,1,1,1]) (bodyK Try.prog Try.f5 K) (f5_g5 s t bin rates l_a4 opacity ev2 a_0v2 a_1v2 cv3 fv3 s_1v5_n s_1v5_g)
def f5_g6 (s:Sky) (t:(Sl RangeRow)) (bin:Int) (rates:Span) (l_a4:(Sl Spell)) (opacity:Int) (ev2:Int) (a_0v2:Int) (a_1v2:Int) (t113v6:Bool) (s_1v6_n:Nat) (s_1v6_g:Nat→List PV):St:=⟨[(1,.one (.c (.p (.sl t.len 3 (fun i=>enc_42 (t.get i)))))),(2,.one (.c (.p (.int .i64 bin)))),(4,.one (.c (.p (.sl l_a4.len 5 (fun i=>enc_56 (l_a4.get i)))))),(5,.one (.c (.p (.int .i64 opacity)))),(6,.one (.c (.ptr 6 0))),(9,.one (.c (.ptr 9 0))),(13,.one (.c (.ptr 13 0))),(14,.one (.c (.p (.int .i64 ev2)))),(113,.one (.c (.p (.bool t113v6))))],[(6,.box 26 [.p (.int .i64 s.Parts),.p (.sl s_1v6_n 1 s_1v6_g),.p (.int .i64 s.Beta.Low),.p (.int .i64 s.Beta.High),.p (.int .i64 s.Alpha.Low),.p (.int .i64 s.Alpha.High)]),(9,.box 24 [.p (.int .i64 rates.Low),.p (.int .i64 rates.High)]),(13,.box 24 [.p (.int .i64 a_0v2),.p (.int .i64 a_1v2)])],[]⟩
def f5_at6 (K:List PA→Prop) (s:Sky) (t:(Sl RangeRow)) (bin:Int) (rates:Span) (l_a4:(Sl Spell)) (opacity:Int) (ev2:Int) (a_0v2:Int) (a_1v2:Int) (t113v6:Bool) (s_1v6_n:Nat) (s_1v6_g:Nat→List PV):Prop:=vc Try.prog G5 ann5 (cdF Try.f5 [1,1,1,1,1,1,0,1]) (sqK Try.prog G5 ann5 (cdF Try.f5 [1,1,1,1,1,1,1]) (bodyK Try.prog Try.f5 K)) (f5_g6 s t bin rates l_a4 opacity ev2 a_0v2 a_1v2 t113v6 s_1v6_n s_1v6_g)
def f5_g7 (s:Sky) (t:(Sl RangeRow)) (bin:Int) (rates:Span) (l_a4:(Sl Spell)) (opacity:Int) (ev2:Int) (a_0v2:Int) (a_1v2:Int) (s_1v7_n:Nat) (s_1v7_g:Nat→List PV):St:=⟨[(1,.one (.c (.p (.sl t.len 3 (fun i=>enc_42 (t.get i)))))),(2,.one (.c (.p (.int .i64 bin)))),(4,.one (.c (.p (.sl l_a4.len 5 (fun i=>enc_56 (l_a4.get i)))))),(5,.one (.c (.p (.int .i64 opacity)))),(6,.one (.c (.ptr 6 0))),(9,.one (.c (.ptr 9 0))),(13,.one (.c (.ptr 13 0))),(14,.one (.c (.p (.int .i64 ev2))))],[(6,.box 26 [.p (.int .i64 s.Parts),.p (.sl s_1v7_n 1 s_1v7_g),.p (.int .i64 s.Beta.Low),.p (.int .i64 s.Beta.High),.p (.int .i64 s.Alpha.Low),.p (.int .i64 s.Alpha.High)]),(9,.box 24 [.p (.int .i64 rates.Low),.p (.int .i64 rates.High)]),(13,.box 24 [.p (.int .i64 a_0v2),.p (.int .i64 a_1v2)])],[]⟩
def f5_at7 (K:List PA→Prop) (s:Sky) (t:(Sl RangeRow)) (bin:Int) (rates:Span) (l_a4:(Sl Spell)) (opacity:Int) (ev2:Int) (a_0v2:Int) (a_1v2:Int) (s_1v7_n:Nat) (s_1v7_g:Nat→List PV):Prop:=vc Try.prog G5 ann5 (cdF Try.f5 [1,1,1,1,1,1,1]) (bodyK Try.prog Try.f5 K) (f5_g7 s t bin rates l_a4 opacity ev2 a_0v2 a_1v2 s_1v7_n s_1v7_g)
def f5_g8 (s:Sky) (t:(Sl RangeRow)) (bin:Int) (rates:Span) (l_a4:(Sl Spell)) (opacity:Int) (ev2:Int) (a_0v2:Int) (a_1v2:Int) (t118v8:Bool) (s_1v8_n:Nat) (s_1v8_g:Nat→List PV):St:=⟨[(1,.one (.c (.p (.sl t.len 3 (fun i=>enc_42 (t.get i)))))),(2,.one (.c (.p (.int .i64 bin)))),(4,.one (.c (.p (.sl l_a4.len 5 (fun i=>enc_56 (l_a4.get i)))))),(5,.one (.c (.p (.int .i64 opacity)))),(6,.one (.c (.ptr 6 0))),(9,.one (.c (.ptr 9 0))),(13,.one (.c (.ptr 13 0))),(14,.one (.c (.p (.int .i64 ev2)))),(118,.one (.c (.p (.bool t118v8))))],[(6,.box 26 [.p (.int .i64 s.Parts),.p (.sl s_1v8_n 1 s_1v8_g),.p (.int .i64 s.Beta.Low),.p (.int .i64 s.Beta.High),.p (.int .i64 s.Alpha.Low),.p (.int .i64 s.Alpha.High)]),(9,.box 24 [.p (.int .i64 rates.Low),.p (.int .i64 rates.High)]),(13,.box 24 [.p (.int .i64 a_0v2),.p (.int .i64 a_1v2)])],[]⟩
def f5_at8 (K:List PA→Prop) (s:Sky) (t:(Sl RangeRow)) (bin:Int) (rates:Span) (l_a4:(Sl Spell)) (opacity:Int) (ev2:Int) (a_0v2:Int) (a_1v2:Int) (t118v8:Bool) (s_1v8_n:Nat) (s_1v8_g:Nat→List PV):Prop:=vc Try.prog G5 ann5 (cdF Try.f5 [1,1,1,1,1,1,1,0,1]) (sqK Try.prog G5 ann5 (cdF Try.f5 [1,1,1,1,1,1,1,1]) (bodyK Try.prog Try.f5 K)) (f5_g8 s t bin rates l_a4 opacity ev2 a_0v2 a_1v2 t118v8 s_1v8_n s_1v8_g)
def f5_g9 (s:Sky) (t:(Sl RangeRow)) (bin:Int) (rates:Span) (l_a4:(Sl Spell)) (opacity:Int) (ev2:Int) (a_0v2:Int) (a_1v2:Int) (s_1v9_n:Nat) (s_1v9_g:Nat→List PV):St:=⟨[(1,.one (.c (.p (.sl t.len 3 (fun i=>enc_42 (t.get i)))))),(2,.one (.c (.p (.int .i64 bin)))),(4,.one (.c (.p (.sl l_a4.len 5 (fun i=>enc_56 (l_a4.get i)))))),(5,.one (.c (.p (.int .i64 opacity)))),(6,.one (.c (.ptr 6 0))),(9,.one (.c (.ptr 9 0))),(13,.one (.c (.ptr 13 0))),(14,.one (.c (.p (.int .i64 ev2))))],[(6,.box 26 [.p (.int .i64 s.Parts),.p (.sl s_1v9_n 1 s_1v9_g),.p (.int .i64 s.Beta.Low),.p (.int .i64 s.Beta.High),.p (.int .i64 s.Alpha.Low),.p (.int .i64 s.Alpha.High)]),(9,.box 24 [.p (.int .i64 rates.Low),.p (.int .i64 rates.High)]),(13,.box 24 [.p (.int .i64 a_0v2),.p (.int .i64 a_1v2)])],[]⟩
def f5_at9 (K:List PA→Prop) (s:Sky) (t:(Sl RangeRow)) (bin:Int) (rates:Span) (l_a4:(Sl Spell)) (opacity:Int) (ev2:Int) (a_0v2:Int) (a_1v2:Int) (s_1v9_n:Nat) (s_1v9_g:Nat→List PV):Prop:=vc Try.prog G5 ann5 (cdF Try.f5 [1,1,1,1,1,1,1,1]) (bodyK Try.prog Try.f5 K) (f5_g9 s t bin rates l_a4 opacity ev2 a_0v2 a_1v2 s_1v9_n s_1v9_g)
def f5_g10 (s:Sky) (t:(Sl RangeRow)) (bin:Int) (rates:Span) (l_a4:(Sl Spell)) (opacity:Int) (ev2:Int) (a_0v2:Int) (a_1v2:Int) (isv10:Bool) (s_1v10_n:Nat) (s_1v10_g:Nat→List PV) (want_0v10:Int) (want_1v10:Int):St:=⟨[(1,.one (.c (.p (.sl t.len 3 (fun i=>enc_42 (t.get i)))))),(2,.one (.c (.p (.int .i64 bin)))),(4,.one (.c (.p (.sl l_a4.len 5 (fun i=>enc_56 (l_a4.get i)))))),(5,.one (.c (.p (.int .i64 opacity)))),(6,.one (.c (.ptr 6 0))),(9,.one (.c (.ptr 9 0))),(13,.one (.c (.ptr 13 0))),(14,.one (.c (.p (.int .i64 ev2)))),(18,.one (.c (.ptr 18 0))),(19,.one (.c (.p (.bool isv10))))],[(6,.box 26 [.p (.int .i64 s.Parts),.p (.sl s_1v10_n 1 s_1v10_g),.p (.int .i64 s.Beta.Low),.p (.int .i64 s.Beta.High),.p (.int .i64 s.Alpha.Low),.p (.int .i64 s.Alpha.High)]),(9,.box 24 [.p (.int .i64 rates.Low),.p (.int .i64 rates.High)]),(13,.box 24 [.p (.int .i64 a_0v2),.p (.int .i64 a_1v2)]),(18,.box 24 [.p (.int .i64 want_0v10),.p (.int .i64 want_1v10)])],[]⟩
def f5_at10 (K:List PA→Prop) (s:Sky) (t:(Sl RangeRow)) (bin:Int) (rates:Span) (l_a4:(Sl Spell)) (opacity:Int) (ev2:Int) (a_0v2:Int) (a_1v2:Int) (isv10:Bool) (s_1v10_n:Nat) (s_1v10_g:Nat→List PV) (want_0v10:Int) (want_1v10:Int):Prop:=vc Try.prog G5 ann5 (cdF Try.f5 [1,1,1,1,1,1,1,1,1]) (bodyK Try.prog Try.f5 K) (f5_g10 s t bin rates l_a4 opacity ev2 a_0v2 a_1v2 isv10 s_1v10_n s_1v10_g want_0v10 want_1v10)
def f5_g11 (s:Sky) (t:(Sl RangeRow)) (bin:Int) (rates:Span) (l_a4:(Sl Spell)) (opacity:Int) (ev2:Int) (a_0v2:Int) (a_1v2:Int) (s_1v11_n:Nat) (s_1v11_g:Nat→List PV):St:=⟨[(1,.one (.c (.p (.sl t.len 3 (fun i=>enc_42 (t.get i)))))),(2,.one (.c (.p (.int .i64 bin)))),(4,.one (.c (.p (.sl l_a4.len 5 (fun i=>enc_56 (l_a4.get i)))))),(5,.one (.c (.p (.int .i64 opacity)))),(6,.one (.c (.ptr 6 0))),(9,.one (.c (.ptr 9 0))),(13,.one (.c (.ptr 13 0))),(14,.one (.c (.p (.int .i64 ev2))))],[(6,.box 26 [.p (.int .i64 s.Parts),.p (.sl s_1v11_n 1 s_1v11_g),.p (.int .i64 s.Beta.Low),.p (.int .i64 s.Beta.High),.p (.int .i64 s.Alpha.Low),.p (.int .i64 s.Alpha.High)]),(9,.box 24 [.p (.int .i64 rates.Low),.p (.int .i64 rates.High)]),(13,.box 24 [.p (.int .i64 a_0v2),.p (.int .i64 a_1v2)])],[]⟩
def f5_at11 (K:List PA→Prop) (s:Sky) (t:(Sl RangeRow)) (bin:Int) (rates:Span) (l_a4:(Sl Spell)) (opacity:Int) (ev2:Int) (a_0v2:Int) (a_1v2:Int) (s_1v11_n:Nat) (s_1v11_g:Nat→List PV):Prop:=vc Try.prog G5 ann5 (cdF Try.f5 [1,1,1,1,1,1,1,1,1,1]) (bodyK Try.prog Try.f5 K) (f5_g11 s t bin rates l_a4 opacity ev2 a_0v2 a_1v2 s_1v11_n s_1v11_g)
def f5_g12 (s:Sky) (t:(Sl RangeRow)) (bin:Int) (rates:Span) (l_a4:(Sl Spell)) (opacity:Int) (ev2:Int) (a_0v2:Int) (a_1v2:Int) (s_1v12_n:Nat) (s_1v12_g:Nat→List PV):St:=⟨[(1,.one (.c (.p (.sl t.len 3 (fun i=>enc_42 (t.get i)))))),(2,.one (.c (.p (.int .i64 bin)))),(4,.one (.c (.p (.sl l_a4.len 5 (fun i=>enc_56 (l_a4.get i)))))),(5,.one (.c (.p (.int .i64 opacity)))),(6,.one (.c (.ptr 6 0))),(9,.one (.c (.ptr 9 0))),(13,.one (.c (.ptr 13 0))),(14,.one (.c (.p (.int .i64 ev2))))],[(6,.box 26 [.p (.int .i64 s.Parts),.p (.sl s_1v12_n 1 s_1v12_g),.p (.int .i64 s.Beta.Low),.p (.int .i64 s.Beta.High),.p (.int .i64 s.Alpha.Low),.p (.int .i64 s.Alpha.High)]),(9,.box 24 [.p (.int .i64 rates.Low),.p (.int .i64 rates.High)]),(13,.box 24 [.p (.int .i64 a_0v2),.p (.int .i64 a_1v2)])],[]⟩
def f5_at12 (K:List PA→Prop) (s:Sky) (t:(Sl RangeRow)) (bin:Int) (rates:Span) (l_a4:(Sl Spell)) (opacity:Int) (ev2:Int) (a_0v2:Int) (a_1v2:Int) (s_1v12_n:Nat) (s_1v12_g:Nat→List PV):Prop:=vc Try.prog G5 ann5 (cdF Try.f5 [1,1,1,1,1,1,1,1,1,1,1]) (bodyK Try.prog Try.f5 K) (f5_g12 s t bin rates l_a4 opacity ev2 a_0v2 a_1v2 s_1v12_n s_1v12_g)
def f5_g13 (rates:Span) (opacity:Int) (ev2:Int) (a_0v2:Int) (a_1v2:Int) (gv13:Int) (m_0v13:Int) (m_1v13:Int):St:=⟨[(5,.one (.c (.p (.int .i64 opacity)))),(9,.one (.c (.ptr 9 0))),(13,.one (.c (.ptr 13 0))),(14,.one (.c (.p (.int .i64 ev2)))),(20,.one (.c (.ptr 20 0))),(21,.one (.c (.p (.int .i64 gv13))))],[(9,.box 24 [.p (.int .i64 rates.Low),.p (.int .i64 rates.High)]),(13,.box 24 [.p (.int .i64 a_0v2),.p (.int .i64 a_1v2)]),(20,.box 24 [.p (.int .i64 m_0v13),.p (.int .i64 m_1v13)])],[]⟩
def f5_at13 (K:List PA→Prop) (rates:Span) (opacity:Int) (ev2:Int) (a_0v2:Int) (a_1v2:Int) (gv13:Int) (m_0v13:Int) (m_1v13:Int):Prop:=vc Try.prog G5 ann5 (cdF Try.f5 [1,1,1,1,1,1,1,1,1,1,1,1]) (bodyK Try.prog Try.f5 K) (f5_g13 rates opacity ev2 a_0v2 a_1v2 gv13 m_0v13 m_1v13)
theorem f5_top (s : Sky) (t : (Sl RangeRow)) (bin : Int) (rates : Span) (l_a4 : (Sl Spell)) (opacity : Int) (K : List PA → Prop) :
  vcFun Try.prog G5 ann5 5 [.agg [.int .i64 s.Parts,.sl s.Bins.len 1 (fun i=>enc_32 (s.Bins.get i)),.int .i64 s.Beta.Low,.int .i64 s.Beta.High,.int .i64 s.Alpha.Low,.int .i64 s.Alpha.High],.one (.sl t.len 3 (fun i=>enc_42 (t.get i))),.one (.int .i64 bin),.agg [.int .i64 rates.Low,.int .i64 rates.High],.one (.sl l_a4.len 5 (fun i=>enc_56 (l_a4.get i))),.one (.int .i64 opacity)] K =
  ((IsE enc_32 1 1 (fun i=>enc_32 (s.Bins.get i))∧IsE enc_42 3 3 (fun i=>enc_42 (t.get i))∧(p15 s t=true)) ∧
  (condP (!(s15 s t))
   (f5_at0 K s t bin rates l_a4 opacity true s.Bins.len (fun i=>enc_32 (s.Bins.get i)))
   (condP (decide ((l_a4.len : Int) > (20:Int)))
    (condP (decide ((l_a4.len : Int) ≤ (50:Int)))
     (f5_at0 K s t bin rates l_a4 opacity true s.Bins.len (fun i=>enc_32 (s.Bins.get i)))
     (f5_at0 K s t bin rates l_a4 opacity (decide ((l_a4.len:Int) > (60:Int))) s.Bins.len (fun i=>enc_32 (s.Bins.get i))))
    (f5_at0 K s t bin rates l_a4 opacity (decide ((l_a4.len:Int) > (60:Int))) s.Bins.len (fun i=>enc_32 (s.Bins.get i)))))):=by kernel_rfl
theorem f5_eq0 (K : List PA → Prop) (s : Sky) (t : (Sl RangeRow)) (bin : Int) (rates : Span) (l_a4 : (Sl Spell)) (opacity : Int) (t41v0 : Bool) (s_1v0 : (Sl (Sl FluxRow))) :
  f5_at0 K s t bin rates l_a4 opacity t41v0 s_1v0.len (fun i=>enc_32 (s_1v0.get i)) =
  (condP t41v0
   (K [.one (.bool true)])
   (f5_at1 K s t bin rates l_a4 opacity s_1v0.len (fun i=>enc_32 (s_1v0.get i)))):=by kernel_rfl
theorem f5_eq1 (K : List PA → Prop) (s : Sky) (t : (Sl RangeRow)) (bin : Int) (rates : Span) (l_a4 : (Sl Spell)) (opacity : Int) (s_1v1 : (Sl (Sl FluxRow))) :
  f5_at1 K s t bin rates l_a4 opacity s_1v1.len (fun i=>enc_32 (s_1v1.get i)) =
  ((IsE enc_32 1 1 (fun i=>enc_32 (s_1v1.get i))∧IsE enc_42 3 3 (fun i=>enc_42 (t.get i))∧IsE enc_56 5 5 (fun i=>enc_56 (l_a4.get i))∧(p25 (⟨s.Parts,s_1v1,s.Beta,s.Alpha⟩:Sky) t bin rates l_a4=true)) ∧
  (f5_at2 K s t bin rates l_a4 opacity ((s25 (⟨s.Parts,s_1v1,s.Beta,s.Alpha⟩:Sky) t bin rates l_a4).2) s_1v1.len (fun i=>enc_32 (s_1v1.get i)) (((s25 (⟨s.Parts,s_1v1,s.Beta,s.Alpha⟩:Sky) t bin rates l_a4).1).Low) (((s25 (⟨s.Parts,s_1v1,s.Beta,s.Alpha⟩:Sky) t bin rates l_a4).1).High))):=by kernel_rfl
theorem f5_eq2 (K : List PA → Prop) (s : Sky) (t : (Sl RangeRow)) (bin : Int) (rates : Span) (l_a4 : (Sl Spell)) (opacity : Int) (ev2 : Int) (s_1v2 : (Sl (Sl FluxRow))) (a_0v2 : Int) (a_1v2 : Int) :
  f5_at2 K s t bin rates l_a4 opacity ev2 s_1v2.len (fun i=>enc_32 (s_1v2.get i)) a_0v2 a_1v2 =
  ((IsE enc_32 1 1 (fun i=>enc_32 (s_1v2.get i))∧IsE enc_42 3 3 (fun i=>enc_42 (t.get i))∧IsE enc_56 5 5 (fun i=>enc_56 (l_a4.get i))∧(p26 (⟨s.Parts,s_1v2,s.Beta,s.Alpha⟩:Sky) t bin l_a4=true)) ∧
  (f5_at3 K s t bin rates l_a4 opacity ev2 a_0v2 a_1v2 (((s26 (⟨s.Parts,s_1v2,s.Beta,s.Alpha⟩:Sky) t bin l_a4).1).len) (fun i=>enc_69 (((s26 (⟨s.Parts,s_1v2,s.Beta,s.Alpha⟩:Sky) t bin l_a4).1).get i)) ((s26 (⟨s.Parts,s_1v2,s.Beta,s.Alpha⟩:Sky) t bin l_a4).2) s_1v2.len (fun i=>enc_32 (s_1v2.get i)))):=by kernel_rfl
theorem f5_eq3 (K : List PA → Prop) (s : Sky) (t : (Sl RangeRow)) (bin : Int) (rates : Span) (l_a4 : (Sl Spell)) (opacity : Int) (ev2 : Int) (a_0v2 : Int) (a_1v2 : Int) (cv3 : (Sl FluxStep)) (fv3 : Int) (s_1v3 : (Sl (Sl FluxRow))) :
  f5_at3 K s t bin rates l_a4 opacity ev2 a_0v2 a_1v2 cv3.len (fun i=>enc_69 (cv3.get i)) fv3 s_1v3.len (fun i=>enc_32 (s_1v3.get i)) =
  ((IsE enc_32 1 1 (fun i=>enc_32 (s_1v3.get i))∧(p16 (⟨s.Parts,s_1v3,s.Beta,s.Alpha⟩:Sky)=true)) ∧
  (condP (s16 (⟨s.Parts, s_1v3, s.Beta, s.Alpha⟩ : Sky))
   ((IsE enc_42 3 3 (fun i=>enc_42 (t.get i))∧(p17 t=true)) ∧
   (condP (s17 t)
    (condP (decide (bin ≥ (0:Int)))
     (condP (decide (bin < (s_1v3.len : Int)))
      ((IsE enc_56 5 5 (fun i=>enc_56 (l_a4.get i))∧(p22 l_a4=true)) ∧
      (f5_at4 K s t bin rates l_a4 opacity ev2 a_0v2 a_1v2 cv3 fv3 (s22 l_a4) s_1v3.len (fun i=>enc_32 (s_1v3.get i))))
      (f5_at4 K s t bin rates l_a4 opacity ev2 a_0v2 a_1v2 cv3 fv3 false s_1v3.len (fun i=>enc_32 (s_1v3.get i))))
     (f5_at4 K s t bin rates l_a4 opacity ev2 a_0v2 a_1v2 cv3 fv3 false s_1v3.len (fun i=>enc_32 (s_1v3.get i))))
    (f5_at4 K s t bin rates l_a4 opacity ev2 a_0v2 a_1v2 cv3 fv3 false s_1v3.len (fun i=>enc_32 (s_1v3.get i)))))
   (f5_at4 K s t bin rates l_a4 opacity ev2 a_0v2 a_1v2 cv3 fv3 false s_1v3.len (fun i=>enc_32 (s_1v3.get i))))):=by kernel_rfl
theorem f5_eq4 (K : List PA → Prop) (s : Sky) (t : (Sl RangeRow)) (bin : Int) (rates : Span) (l_a4 : (Sl Spell)) (opacity : Int) (ev2 : Int) (a_0v2 : Int) (a_1v2 : Int) (cv3 : (Sl FluxStep)) (fv3 : Int) (finev4 : Bool) (s_1v4 : (Sl (Sl FluxRow))) :
  f5_at4 K s t bin rates l_a4 opacity ev2 a_0v2 a_1v2 cv3 fv3 finev4 s_1v4.len (fun i=>enc_32 (s_1v4.get i)) =
  (condP (!finev4)
   (condP (ev2 == (2:Int))
    (condP (fv3 == (2:Int))
     (condP (match (a_0v2 == (0:Int)) with | true => (match (a_1v2 == (0:Int)) with | true => true | false => false) | false => false)
      (condP ((cv3.len : Int) == (0:Int))
       (K [.one (.bool true)])
       (K [.one (.bool false)]))
      (K [.one (.bool false)]))
     (K [.one (.bool false)]))
    (K [.one (.bool false)]))
   (f5_at5 K s t bin rates l_a4 opacity ev2 a_0v2 a_1v2 cv3 fv3 s_1v4.len (fun i=>enc_32 (s_1v4.get i)))):=by kernel_rfl
theorem f5_eq5 (K : List PA → Prop) (s : Sky) (t : (Sl RangeRow)) (bin : Int) (rates : Span) (l_a4 : (Sl Spell)) (opacity : Int) (ev2 : Int) (a_0v2 : Int) (a_1v2 : Int) (cv3 : (Sl FluxStep)) (fv3 : Int) (s_1v5 : (Sl (Sl FluxRow))) :
  f5_at5 K s t bin rates l_a4 opacity ev2 a_0v2 a_1v2 cv3 fv3 s_1v5.len (fun i=>enc_32 (s_1v5.get i)) =
  (condP (fv3 != (0:Int))
   (f5_at6 K s t bin rates l_a4 opacity ev2 a_0v2 a_1v2 true s_1v5.len (fun i=>enc_32 (s_1v5.get i)))
   ((IsE enc_32 1 1 (fun i=>enc_32 (s_1v5.get i))∧IsE enc_42 3 3 (fun i=>enc_42 (t.get i))∧IsE enc_56 5 5 (fun i=>enc_56 (l_a4.get i))∧(p28 (⟨s.Parts,s_1v5,s.Beta,s.Alpha⟩:Sky) t bin l_a4=true)) ∧
   ((IsE enc_69 3 3 (fun i=>enc_69 (cv3.get i))∧IsE enc_69 3 3 (fun i=>enc_69 ((s28 (⟨s.Parts,s_1v5,s.Beta,s.Alpha⟩:Sky) t bin l_a4).get i))∧(p27 cv3 (⟨(s28 (⟨s.Parts,s_1v5,s.Beta,s.Alpha⟩:Sky) t bin l_a4).len,(s28 (⟨s.Parts,s_1v5,s.Beta,s.Alpha⟩:Sky) t bin l_a4).get⟩:(Sl FluxStep))=true)) ∧
   (f5_at6 K s t bin rates l_a4 opacity ev2 a_0v2 a_1v2 (!(s27 cv3 (⟨(s28 (⟨s.Parts,s_1v5,s.Beta,s.Alpha⟩:Sky) t bin l_a4).len,(s28 (⟨s.Parts,s_1v5,s.Beta,s.Alpha⟩:Sky) t bin l_a4).get⟩:(Sl FluxStep)))) s_1v5.len (fun i=>enc_32 (s_1v5.get i)))))):=by kernel_rfl
theorem f5_eq6 (K : List PA → Prop) (s : Sky) (t : (Sl RangeRow)) (bin : Int) (rates : Span) (l_a4 : (Sl Spell)) (opacity : Int) (ev2 : Int) (a_0v2 : Int) (a_1v2 : Int) (t113v6 : Bool) (s_1v6 : (Sl (Sl FluxRow))) :
  f5_at6 K s t bin rates l_a4 opacity ev2 a_0v2 a_1v2 t113v6 s_1v6.len (fun i=>enc_32 (s_1v6.get i)) =
  (condP t113v6
   (K [.one (.bool false)])
   (f5_at7 K s t bin rates l_a4 opacity ev2 a_0v2 a_1v2 s_1v6.len (fun i=>enc_32 (s_1v6.get i)))):=by kernel_rfl
theorem f5_eq7 (K : List PA → Prop) (s : Sky) (t : (Sl RangeRow)) (bin : Int) (rates : Span) (l_a4 : (Sl Spell)) (opacity : Int) (ev2 : Int) (a_0v2 : Int) (a_1v2 : Int) (s_1v7 : (Sl (Sl FluxRow))) :
  f5_at7 K s t bin rates l_a4 opacity ev2 a_0v2 a_1v2 s_1v7.len (fun i=>enc_32 (s_1v7.get i)) =
  (f5_at8 K s t bin rates l_a4 opacity ev2 a_0v2 a_1v2 (!(s29 rates (0:Int) s.Parts)) s_1v7.len (fun i=>enc_32 (s_1v7.get i))):=by kernel_rfl
theorem f5_eq8 (K : List PA → Prop) (s : Sky) (t : (Sl RangeRow)) (bin : Int) (rates : Span) (l_a4 : (Sl Spell)) (opacity : Int) (ev2 : Int) (a_0v2 : Int) (a_1v2 : Int) (t118v8 : Bool) (s_1v8 : (Sl (Sl FluxRow))) :
  f5_at8 K s t bin rates l_a4 opacity ev2 a_0v2 a_1v2 t118v8 s_1v8.len (fun i=>enc_32 (s_1v8.get i)) =
  (condP t118v8
   (condP (ev2 == (2:Int))
    (condP (match (a_0v2 == (0:Int)) with | true => (match (a_1v2 == (0:Int)) with | true => true | false => false) | false => false)
     (K [.one (.bool true)])
     (K [.one (.bool false)]))
    (K [.one (.bool false)]))
   (f5_at9 K s t bin rates l_a4 opacity ev2 a_0v2 a_1v2 s_1v8.len (fun i=>enc_32 (s_1v8.get i)))):=by kernel_rfl
theorem f5_eq9 (K : List PA → Prop) (s : Sky) (t : (Sl RangeRow)) (bin : Int) (rates : Span) (l_a4 : (Sl Spell)) (opacity : Int) (ev2 : Int) (a_0v2 : Int) (a_1v2 : Int) (s_1v9 : (Sl (Sl FluxRow))) :
  f5_at9 K s t bin rates l_a4 opacity ev2 a_0v2 a_1v2 s_1v9.len (fun i=>enc_32 (s_1v9.get i)) =
  ((IsE enc_32 1 1 (fun i=>enc_32 (s_1v9.get i))∧IsE enc_42 3 3 (fun i=>enc_42 (t.get i))∧IsE enc_56 5 5 (fun i=>enc_56 (l_a4.get i))∧(p30 (⟨s.Parts,s_1v9,s.Beta,s.Alpha⟩:Sky) t bin rates l_a4=true)) ∧
  (f5_at10 K s t bin rates l_a4 opacity ev2 a_0v2 a_1v2 ((s30 (⟨s.Parts,s_1v9,s.Beta,s.Alpha⟩:Sky) t bin rates l_a4).2) s_1v9.len (fun i=>enc_32 (s_1v9.get i)) (((s30 (⟨s.Parts,s_1v9,s.Beta,s.Alpha⟩:Sky) t bin rates l_a4).1).Low) (((s30 (⟨s.Parts,s_1v9,s.Beta,s.Alpha⟩:Sky) t bin rates l_a4).1).High))):=by kernel_rfl
theorem f5_eq10 (K : List PA → Prop) (s : Sky) (t : (Sl RangeRow)) (bin : Int) (rates : Span) (l_a4 : (Sl Spell)) (opacity : Int) (ev2 : Int) (a_0v2 : Int) (a_1v2 : Int) (isv10 : Bool) (s_1v10 : (Sl (Sl FluxRow))) (want_0v10 : Int) (want_1v10 : Int) :
  f5_at10 K s t bin rates l_a4 opacity ev2 a_0v2 a_1v2 isv10 s_1v10.len (fun i=>enc_32 (s_1v10.get i)) want_0v10 want_1v10 =
  (condP (!isv10)
   (condP (ev2 != (5:Int))
    (K [.one (.bool false)])
    (condP (!(match (a_0v2 == (0:Int)) with | true => (match (a_1v2 == (0:Int)) with | true => true | false => false) | false => false))
     (K [.one (.bool false)])
     (condP isv10
      (condP (ev2 != (0:Int))
       (K [.one (.bool false)])
       (condP (!(match (a_0v2 == want_0v10) with | true => (match (a_1v2 == want_1v10) with | true => true | false => false) | false => false))
        (K [.one (.bool false)])
        (f5_at11 K s t bin rates l_a4 opacity ev2 a_0v2 a_1v2 s_1v10.len (fun i=>enc_32 (s_1v10.get i)))))
      (f5_at11 K s t bin rates l_a4 opacity ev2 a_0v2 a_1v2 s_1v10.len (fun i=>enc_32 (s_1v10.get i))))))
   (condP isv10
    (condP (ev2 != (0:Int))
     (K [.one (.bool false)])
     (condP (!(match (a_0v2 == want_0v10) with | true => (match (a_1v2 == want_1v10) with | true => true | false => false) | false => false))
      (K [.one (.bool false)])
      (f5_at11 K s t bin rates l_a4 opacity ev2 a_0v2 a_1v2 s_1v10.len (fun i=>enc_32 (s_1v10.get i)))))
    (f5_at11 K s t bin rates l_a4 opacity ev2 a_0v2 a_1v2 s_1v10.len (fun i=>enc_32 (s_1v10.get i))))):=by kernel_rfl
theorem f5_eq11 (K : List PA → Prop) (s : Sky) (t : (Sl RangeRow)) (bin : Int) (rates : Span) (l_a4 : (Sl Spell)) (opacity : Int) (ev2 : Int) (a_0v2 : Int) (a_1v2 : Int) (s_1v11 : (Sl (Sl FluxRow))) :
  f5_at11 K s t bin rates l_a4 opacity ev2 a_0v2 a_1v2 s_1v11.len (fun i=>enc_32 (s_1v11.get i)) =
  (condP (decide (opacity < (0:Int)))
   (K [.one (.bool true)])
   (condP (decide (opacity > (1000000:Int)))
    (K [.one (.bool true)])
    (f5_at12 K s t bin rates l_a4 opacity ev2 a_0v2 a_1v2 s_1v11.len (fun i=>enc_32 (s_1v11.get i))))):=by kernel_rfl
theorem f5_eq12 (K : List PA → Prop) (s : Sky) (t : (Sl RangeRow)) (bin : Int) (rates : Span) (l_a4 : (Sl Spell)) (opacity : Int) (ev2 : Int) (a_0v2 : Int) (a_1v2 : Int) (s_1v12 : (Sl (Sl FluxRow))) :
  f5_at12 K s t bin rates l_a4 opacity ev2 a_0v2 a_1v2 s_1v12.len (fun i=>enc_32 (s_1v12.get i)) =
  ((IsE enc_32 1 1 (fun i=>enc_32 (s_1v12.get i))∧IsE enc_42 3 3 (fun i=>enc_42 (t.get i))∧IsE enc_56 5 5 (fun i=>enc_56 (l_a4.get i))∧(p23 (⟨s.Parts,s_1v12,s.Beta,s.Alpha⟩:Sky) t bin opacity l_a4=true)) ∧
  (f5_at13 K rates opacity ev2 a_0v2 a_1v2 ((s23 (⟨s.Parts,s_1v12,s.Beta,s.Alpha⟩:Sky) t bin opacity l_a4).2) (((s23 (⟨s.Parts,s_1v12,s.Beta,s.Alpha⟩:Sky) t bin opacity l_a4).1).Low) (((s23 (⟨s.Parts,s_1v12,s.Beta,s.Alpha⟩:Sky) t bin opacity l_a4).1).High))):=by kernel_rfl
theorem f5_eq13 (K : List PA → Prop) (rates : Span) (opacity : Int) (ev2 : Int) (a_0v2 : Int) (a_1v2 : Int) (gv13 : Int) (m_0v13 : Int) (m_1v13 : Int) :
  f5_at13 K rates opacity ev2 a_0v2 a_1v2 gv13 m_0v13 m_1v13 =
  (condP (decide (m_0v13 ≤ rates.High))
   (condP (gv13 == (0:Int))
    (condP (ev2 == (0:Int))
     (condP (decide (opacity ≥ a_0v2))
      (condP ((decide (m_1v13 ≥ rates.Low)) == (decide (opacity ≤ a_1v2)))
       (K [.one (.bool true)])
       (K [.one (.bool false)]))
      (condP ((decide (m_1v13 ≥ rates.Low)) == false)
       (K [.one (.bool true)])
       (K [.one (.bool false)])))
     (condP ((decide (m_1v13 ≥ rates.Low)) == false)
      (K [.one (.bool true)])
      (K [.one (.bool false)])))
    (K [.one (.bool false)]))
   (condP (gv13 == (0:Int))
    (condP (ev2 == (0:Int))
     (condP (decide (opacity ≥ a_0v2))
      (condP (false == (decide (opacity ≤ a_1v2)))
       (K [.one (.bool true)])
       (K [.one (.bool false)]))
      (condP (false == false)
       (K [.one (.bool true)])
       (K [.one (.bool false)])))
     (condP (false == false)
      (K [.one (.bool true)])
      (K [.one (.bool false)])))
    (K [.one (.bool false)]))):=by kernel_rfl
abbrev e5 (r:Bool):List PA:=[.one (.bool r)]
attribute [irreducible] f5_at0 f5_at1 f5_at2 f5_at3 f5_at4 f5_at5 f5_at6 f5_at7 f5_at8 f5_at9 f5_at10 f5_at11 f5_at12 f5_at13
def s5_at13 (rates:Span) (opacity:Int) (ev2:Int) (a_0v2:Int) (a_1v2:Int) (gv13:Int) (m_0v13:Int) (m_1v13:Int):Bool :=
  (cond (decide (m_0v13 ≤ rates.High))
   (cond (gv13 == (0:Int))
    (cond (ev2 == (0:Int))
     (cond (decide (opacity ≥ a_0v2))
      (cond ((decide (m_1v13 ≥ rates.Low)) == (decide (opacity ≤ a_1v2)))
       true
       false)
      (cond ((decide (m_1v13 ≥ rates.Low)) == false)
       true
       false))
     (cond ((decide (m_1v13 ≥ rates.Low)) == false)
      true
      false))
    false)
   (cond (gv13 == (0:Int))
    (cond (ev2 == (0:Int))
     (cond (decide (opacity ≥ a_0v2))
      (cond (false == (decide (opacity ≤ a_1v2)))
       true
       false)
      (cond (false == false)
       true
       false))
     (cond (false == false)
      true
      false))
    false))
theorem q5_at13 (K:List PA→Prop) (rates:Span) (opacity:Int) (ev2:Int) (a_0v2:Int) (a_1v2:Int) (gv13:Int) (m_0v13:Int) (m_1v13:Int) (hk:K (e5 (s5_at13 rates opacity ev2 a_0v2 a_1v2 gv13 m_0v13 m_1v13))):f5_at13 K rates opacity ev2 a_0v2 a_1v2 gv13 m_0v13 m_1v13:=by
  refine ofEq (f5_eq13 K rates opacity ev2 a_0v2 a_1v2 gv13 m_0v13 m_1v13) ?_
  unfold s5_at13 at hk
  exact (condP_gt (K := fun r => K (e5 r))
   (fun hk => (condP_gt (K := fun r => K (e5 r))
    (fun hk => (condP_gt (K := fun r => K (e5 r))
     (fun hk => (condP_gt (K := fun r => K (e5 r))
      (fun hk => (condP_gt (K := fun r => K (e5 r))
       (fun hk=>hk)
       (fun hk=>hk) hk))
      (fun hk => (condP_gt (K := fun r => K (e5 r))
       (fun hk=>hk)
       (fun hk=>hk) hk)) hk))
     (fun hk => (condP_gt (K := fun r => K (e5 r))
      (fun hk=>hk)
      (fun hk=>hk) hk)) hk))
    (fun hk=>hk) hk))
   (fun hk => (condP_gt (K := fun r => K (e5 r))
    (fun hk => (condP_gt (K := fun r => K (e5 r))
     (fun hk => (condP_gt (K := fun r => K (e5 r))
      (fun hk => (condP_gt (K := fun r => K (e5 r))
       (fun hk=>hk)
       (fun hk=>hk) hk))
      (fun hk => (condP_gt (K := fun r => K (e5 r))
       (fun hk=>hk)
       (fun hk=>hk) hk)) hk))
     (fun hk => (condP_gt (K := fun r => K (e5 r))
      (fun hk=>hk)
      (fun hk=>hk) hk)) hk))
    (fun hk=>hk) hk)) hk)
def s5_at12 (s:Sky) (t:(Sl RangeRow)) (bin:Int) (rates:Span) (l_a4:(Sl Spell)) (opacity:Int) (ev2:Int) (a_0v2:Int) (a_1v2:Int) (s_1v12:(Sl (Sl FluxRow))):Bool :=
  (s5_at13 rates opacity ev2 a_0v2 a_1v2 ((s23 (⟨s.Parts,s_1v12,s.Beta,s.Alpha⟩:Sky) t bin opacity l_a4).2) (((s23 (⟨s.Parts,s_1v12,s.Beta,s.Alpha⟩:Sky) t bin opacity l_a4).1).Low) (((s23 (⟨s.Parts,s_1v12,s.Beta,s.Alpha⟩:Sky) t bin opacity l_a4).1).High))
def p5_at12 (s:Sky) (t:(Sl RangeRow)) (bin:Int) (rates:Span) (l_a4:(Sl Spell)) (opacity:Int) (ev2:Int) (a_0v2:Int) (a_1v2:Int) (s_1v12:(Sl (Sl FluxRow))):Bool :=
  (decide ((p23 (⟨s.Parts,s_1v12,s.Beta,s.Alpha⟩:Sky) t bin opacity l_a4=true)) &&
  true)
theorem q5_at12 (K:List PA→Prop) (s:Sky) (t:(Sl RangeRow)) (bin:Int) (rates:Span) (l_a4:(Sl Spell)) (opacity:Int) (ev2:Int) (a_0v2:Int) (a_1v2:Int) (s_1v12:(Sl (Sl FluxRow))) (s_1v12_g:Nat→List PV) (s_1v12_h:s_1v12_g=fun i=>enc_32 (s_1v12.get i)) (hs:p5_at12 s t bin rates l_a4 opacity ev2 a_0v2 a_1v2 s_1v12=true) (hk:K (e5 (s5_at12 s t bin rates l_a4 opacity ev2 a_0v2 a_1v2 s_1v12))):f5_at12 K s t bin rates l_a4 opacity ev2 a_0v2 a_1v2 s_1v12.len s_1v12_g:=by
  subst s_1v12_h
  refine ofEq (f5_eq12 K s t bin rates l_a4 opacity ev2 a_0v2 a_1v2 s_1v12) ?_
  unfold p5_at12 at hs
  unfold s5_at12 at hk
  exact (andK hs fun hc hs=>⟨⟨isE,isE,isE,hc⟩,(q5_at13 K rates opacity ev2 a_0v2 a_1v2 ((s23 (⟨s.Parts,s_1v12,s.Beta,s.Alpha⟩:Sky) t bin opacity l_a4).2) (((s23 (⟨s.Parts,s_1v12,s.Beta,s.Alpha⟩:Sky) t bin opacity l_a4).1).Low) (((s23 (⟨s.Parts,s_1v12,s.Beta,s.Alpha⟩:Sky) t bin opacity l_a4).1).High) hk)⟩)
def s5_at11 (s:Sky) (t:(Sl RangeRow)) (bin:Int) (rates:Span) (l_a4:(Sl Spell)) (opacity:Int) (ev2:Int) (a_0v2:Int) (a_1v2:Int) (s_1v11:(Sl (Sl FluxRow))):Bool :=
  (cond (decide (opacity < (0:Int)))
   true
   (cond (decide (opacity > (1000000:Int)))
    true
    (s5_at12 s t bin rates l_a4 opacity ev2 a_0v2 a_1v2 s_1v11)))
def p5_at11 (s:Sky) (t:(Sl RangeRow)) (bin:Int) (rates:Span) (l_a4:(Sl Spell)) (opacity:Int) (ev2:Int) (a_0v2:Int) (a_1v2:Int) (s_1v11:(Sl (Sl FluxRow))):Bool :=
  (cond (decide (opacity < (0:Int)))
   true
   (cond (decide (opacity > (1000000:Int)))
    true
    (p5_at12 s t bin rates l_a4 opacity ev2 a_0v2 a_1v2 s_1v11)))
theorem q5_at11 (K:List PA→Prop) (s:Sky) (t:(Sl RangeRow)) (bin:Int) (rates:Span) (l_a4:(Sl Spell)) (opacity:Int) (ev2:Int) (a_0v2:Int) (a_1v2:Int) (s_1v11:(Sl (Sl FluxRow))) (s_1v11_g:Nat→List PV) (s_1v11_h:s_1v11_g=fun i=>enc_32 (s_1v11.get i)) (hs:p5_at11 s t bin rates l_a4 opacity ev2 a_0v2 a_1v2 s_1v11=true) (hk:K (e5 (s5_at11 s t bin rates l_a4 opacity ev2 a_0v2 a_1v2 s_1v11))):f5_at11 K s t bin rates l_a4 opacity ev2 a_0v2 a_1v2 s_1v11.len s_1v11_g:=by
  subst s_1v11_h
  refine ofEq (f5_eq11 K s t bin rates l_a4 opacity ev2 a_0v2 a_1v2 s_1v11) ?_
  unfold p5_at11 at hs
  unfold s5_at11 at hk
  exact (condB_go (K := fun r => K (e5 r))
   (fun hs hk=>hk)
   (fun hs hk => (condB_go (K := fun r => K (e5 r))
    (fun hs hk=>hk)
    (fun hs hk=>(q5_at12 K s t bin rates l_a4 opacity ev2 a_0v2 a_1v2 s_1v11 (fun i=>enc_32 (s_1v11.get i)) rfl hs hk)) hs hk)) hs hk)
def s5_at10 (s:Sky) (t:(Sl RangeRow)) (bin:Int) (rates:Span) (l_a4:(Sl Spell)) (opacity:Int) (ev2:Int) (a_0v2:Int) (a_1v2:Int) (isv10:Bool) (s_1v10:(Sl (Sl FluxRow))) (want_0v10:Int) (want_1v10:Int):Bool :=
  (cond (!isv10)
   (cond (ev2 != (5:Int))
    false
    (cond (!(match (a_0v2 == (0:Int)) with | true => (match (a_1v2 == (0:Int)) with | true => true | false => false) | false => false))
     false
     (cond isv10
      (cond (ev2 != (0:Int))
       false
       (cond (!(match (a_0v2 == want_0v10) with | true => (match (a_1v2 == want_1v10) with | true => true | false => false) | false => false))
        false
        (s5_at11 s t bin rates l_a4 opacity ev2 a_0v2 a_1v2 s_1v10)))
      (s5_at11 s t bin rates l_a4 opacity ev2 a_0v2 a_1v2 s_1v10))))
   (cond isv10
    (cond (ev2 != (0:Int))
     false
     (cond (!(match (a_0v2 == want_0v10) with | true => (match (a_1v2 == want_1v10) with | true => true | false => false) | false => false))
      false
      (s5_at11 s t bin rates l_a4 opacity ev2 a_0v2 a_1v2 s_1v10)))
    (s5_at11 s t bin rates l_a4 opacity ev2 a_0v2 a_1v2 s_1v10)))
def p5_at10 (s:Sky) (t:(Sl RangeRow)) (bin:Int) (rates:Span) (l_a4:(Sl Spell)) (opacity:Int) (ev2:Int) (a_0v2:Int) (a_1v2:Int) (isv10:Bool) (s_1v10:(Sl (Sl FluxRow))) (want_0v10:Int) (want_1v10:Int):Bool :=
  (cond (!isv10)
   (cond (ev2 != (5:Int))
    true
    (cond (!(match (a_0v2 == (0:Int)) with | true => (match (a_1v2 == (0:Int)) with | true => true | false => false) | false => false))
     true
     (cond isv10
      (cond (ev2 != (0:Int))
       true
       (cond (!(match (a_0v2 == want_0v10) with | true => (match (a_1v2 == want_1v10) with | true => true | false => false) | false => false))
        true
        (p5_at11 s t bin rates l_a4 opacity ev2 a_0v2 a_1v2 s_1v10)))
      (p5_at11 s t bin rates l_a4 opacity ev2 a_0v2 a_1v2 s_1v10))))
   (cond isv10
    (cond (ev2 != (0:Int))
     true
     (cond (!(match (a_0v2 == want_0v10) with | true => (match (a_1v2 == want_1v10) with | true => true | false => false) | false => false))
      true
      (p5_at11 s t bin rates l_a4 opacity ev2 a_0v2 a_1v2 s_1v10)))
    (p5_at11 s t bin rates l_a4 opacity ev2 a_0v2 a_1v2 s_1v10)))
theorem q5_at10 (K:List PA→Prop) (s:Sky) (t:(Sl RangeRow)) (bin:Int) (rates:Span) (l_a4:(Sl Spell)) (opacity:Int) (ev2:Int) (a_0v2:Int) (a_1v2:Int) (isv10:Bool) (s_1v10:(Sl (Sl FluxRow))) (want_0v10:Int) (want_1v10:Int) (s_1v10_g:Nat→List PV) (s_1v10_h:s_1v10_g=fun i=>enc_32 (s_1v10.get i)) (hs:p5_at10 s t bin rates l_a4 opacity ev2 a_0v2 a_1v2 isv10 s_1v10 want_0v10 want_1v10=true) (hk:K (e5 (s5_at10 s t bin rates l_a4 opacity ev2 a_0v2 a_1v2 isv10 s_1v10 want_0v10 want_1v10))):f5_at10 K s t bin rates l_a4 opacity ev2 a_0v2 a_1v2 isv10 s_1v10.len s_1v10_g want_0v10 want_1v10:=by
  subst s_1v10_h
  refine ofEq (f5_eq10 K s t bin rates l_a4 opacity ev2 a_0v2 a_1v2 isv10 s_1v10 want_0v10 want_1v10) ?_
  unfold p5_at10 at hs
  unfold s5_at10 at hk
  exact (condB_go (K := fun r => K (e5 r))
   (fun hs hk => (condB_go (K := fun r => K (e5 r))
    (fun hs hk=>hk)
    (fun hs hk => (condB_go (K := fun r => K (e5 r))
     (fun hs hk=>hk)
     (fun hs hk => (condB_go (K := fun r => K (e5 r))
      (fun hs hk => (condB_go (K := fun r => K (e5 r))
       (fun hs hk=>hk)
       (fun hs hk => (condB_go (K := fun r => K (e5 r))
        (fun hs hk=>hk)
        (fun hs hk=>(q5_at11 K s t bin rates l_a4 opacity ev2 a_0v2 a_1v2 s_1v10 (fun i=>enc_32 (s_1v10.get i)) rfl hs hk)) hs hk)) hs hk))
      (fun hs hk=>(q5_at11 K s t bin rates l_a4 opacity ev2 a_0v2 a_1v2 s_1v10 (fun i=>enc_32 (s_1v10.get i)) rfl hs hk)) hs hk)) hs hk)) hs hk))
   (fun hs hk => (condB_go (K := fun r => K (e5 r))
    (fun hs hk => (condB_go (K := fun r => K (e5 r))
     (fun hs hk=>hk)
     (fun hs hk => (condB_go (K := fun r => K (e5 r))
      (fun hs hk=>hk)
      (fun hs hk=>(q5_at11 K s t bin rates l_a4 opacity ev2 a_0v2 a_1v2 s_1v10 (fun i=>enc_32 (s_1v10.get i)) rfl hs hk)) hs hk)) hs hk))
    (fun hs hk=>(q5_at11 K s t bin rates l_a4 opacity ev2 a_0v2 a_1v2 s_1v10 (fun i=>enc_32 (s_1v10.get i)) rfl hs hk)) hs hk)) hs hk)
def s5_at9 (s:Sky) (t:(Sl RangeRow)) (bin:Int) (rates:Span) (l_a4:(Sl Spell)) (opacity:Int) (ev2:Int) (a_0v2:Int) (a_1v2:Int) (s_1v9:(Sl (Sl FluxRow))):Bool :=
  (s5_at10 s t bin rates l_a4 opacity ev2 a_0v2 a_1v2 ((s30 (⟨s.Parts,s_1v9,s.Beta,s.Alpha⟩:Sky) t bin rates l_a4).2) s_1v9 (((s30 (⟨s.Parts,s_1v9,s.Beta,s.Alpha⟩:Sky) t bin rates l_a4).1).Low) (((s30 (⟨s.Parts,s_1v9,s.Beta,s.Alpha⟩:Sky) t bin rates l_a4).1).High))
def p5_at9 (s:Sky) (t:(Sl RangeRow)) (bin:Int) (rates:Span) (l_a4:(Sl Spell)) (opacity:Int) (ev2:Int) (a_0v2:Int) (a_1v2:Int) (s_1v9:(Sl (Sl FluxRow))):Bool :=
  (decide ((p30 (⟨s.Parts,s_1v9,s.Beta,s.Alpha⟩:Sky) t bin rates l_a4=true)) &&
  (p5_at10 s t bin rates l_a4 opacity ev2 a_0v2 a_1v2 ((s30 (⟨s.Parts,s_1v9,s.Beta,s.Alpha⟩:Sky) t bin rates l_a4).2) s_1v9 (((s30 (⟨s.Parts,s_1v9,s.Beta,s.Alpha⟩:Sky) t bin rates l_a4).1).Low) (((s30 (⟨s.Parts,s_1v9,s.Beta,s.Alpha⟩:Sky) t bin rates l_a4).1).High)))
theorem q5_at9 (K:List PA→Prop) (s:Sky) (t:(Sl RangeRow)) (bin:Int) (rates:Span) (l_a4:(Sl Spell)) (opacity:Int) (ev2:Int) (a_0v2:Int) (a_1v2:Int) (s_1v9:(Sl (Sl FluxRow))) (s_1v9_g:Nat→List PV) (s_1v9_h:s_1v9_g=fun i=>enc_32 (s_1v9.get i)) (hs:p5_at9 s t bin rates l_a4 opacity ev2 a_0v2 a_1v2 s_1v9=true) (hk:K (e5 (s5_at9 s t bin rates l_a4 opacity ev2 a_0v2 a_1v2 s_1v9))):f5_at9 K s t bin rates l_a4 opacity ev2 a_0v2 a_1v2 s_1v9.len s_1v9_g:=by
  subst s_1v9_h
  refine ofEq (f5_eq9 K s t bin rates l_a4 opacity ev2 a_0v2 a_1v2 s_1v9) ?_
  unfold p5_at9 at hs
  unfold s5_at9 at hk
  exact (andK hs fun hc hs=>⟨⟨isE,isE,isE,hc⟩,(q5_at10 K s t bin rates l_a4 opacity ev2 a_0v2 a_1v2 ((s30 (⟨s.Parts,s_1v9,s.Beta,s.Alpha⟩:Sky) t bin rates l_a4).2) s_1v9 (((s30 (⟨s.Parts,s_1v9,s.Beta,s.Alpha⟩:Sky) t bin rates l_a4).1).Low) (((s30 (⟨s.Parts,s_1v9,s.Beta,s.Alpha⟩:Sky) t bin rates l_a4).1).High) (fun i=>enc_32 (s_1v9.get i)) rfl hs hk)⟩)
def s5_at8 (s:Sky) (t:(Sl RangeRow)) (bin:Int) (rates:Span) (l_a4:(Sl Spell)) (opacity:Int) (ev2:Int) (a_0v2:Int) (a_1v2:Int) (t118v8:Bool) (s_1v8:(Sl (Sl FluxRow))):Bool :=
  (cond t118v8
   (cond (ev2 == (2:Int))
    (cond (match (a_0v2 == (0:Int)) with | true => (match (a_1v2 == (0:Int)) with | true => true | false => false) | false => false)
     true
     false)
    false)
   (s5_at9 s t bin rates l_a4 opacity ev2 a_0v2 a_1v2 s_1v8))
def p5_at8 (s:Sky) (t:(Sl RangeRow)) (bin:Int) (rates:Span) (l_a4:(Sl Spell)) (opacity:Int) (ev2:Int) (a_0v2:Int) (a_1v2:Int) (t118v8:Bool) (s_1v8:(Sl (Sl FluxRow))):Bool :=
  (cond t118v8
   true
   (p5_at9 s t bin rates l_a4 opacity ev2 a_0v2 a_1v2 s_1v8))
theorem q5_at8 (K:List PA→Prop) (s:Sky) (t:(Sl RangeRow)) (bin:Int) (rates:Span) (l_a4:(Sl Spell)) (opacity:Int) (ev2:Int) (a_0v2:Int) (a_1v2:Int) (t118v8:Bool) (s_1v8:(Sl (Sl FluxRow))) (s_1v8_g:Nat→List PV) (s_1v8_h:s_1v8_g=fun i=>enc_32 (s_1v8.get i)) (hs:p5_at8 s t bin rates l_a4 opacity ev2 a_0v2 a_1v2 t118v8 s_1v8=true) (hk:K (e5 (s5_at8 s t bin rates l_a4 opacity ev2 a_0v2 a_1v2 t118v8 s_1v8))):f5_at8 K s t bin rates l_a4 opacity ev2 a_0v2 a_1v2 t118v8 s_1v8.len s_1v8_g:=by
  subst s_1v8_h
  refine ofEq (f5_eq8 K s t bin rates l_a4 opacity ev2 a_0v2 a_1v2 t118v8 s_1v8) ?_
  unfold p5_at8 at hs
  unfold s5_at8 at hk
  exact (condB_go (K := fun r => K (e5 r))
   (fun hs hk => (condP_gt (K := fun r => K (e5 r))
    (fun hk => (condP_gt (K := fun r => K (e5 r))
     (fun hk=>hk)
     (fun hk=>hk) hk))
    (fun hk=>hk) hk))
   (fun hs hk=>(q5_at9 K s t bin rates l_a4 opacity ev2 a_0v2 a_1v2 s_1v8 (fun i=>enc_32 (s_1v8.get i)) rfl hs hk)) hs hk)
def s5_at7 (s:Sky) (t:(Sl RangeRow)) (bin:Int) (rates:Span) (l_a4:(Sl Spell)) (opacity:Int) (ev2:Int) (a_0v2:Int) (a_1v2:Int) (s_1v7:(Sl (Sl FluxRow))):Bool :=
  (s5_at8 s t bin rates l_a4 opacity ev2 a_0v2 a_1v2 (!(s29 rates (0:Int) s.Parts)) s_1v7)
def p5_at7 (s:Sky) (t:(Sl RangeRow)) (bin:Int) (rates:Span) (l_a4:(Sl Spell)) (opacity:Int) (ev2:Int) (a_0v2:Int) (a_1v2:Int) (s_1v7:(Sl (Sl FluxRow))):Bool :=
  (p5_at8 s t bin rates l_a4 opacity ev2 a_0v2 a_1v2 (!(s29 rates (0:Int) s.Parts)) s_1v7)
theorem q5_at7 (K:List PA→Prop) (s:Sky) (t:(Sl RangeRow)) (bin:Int) (rates:Span) (l_a4:(Sl Spell)) (opacity:Int) (ev2:Int) (a_0v2:Int) (a_1v2:Int) (s_1v7:(Sl (Sl FluxRow))) (s_1v7_g:Nat→List PV) (s_1v7_h:s_1v7_g=fun i=>enc_32 (s_1v7.get i)) (hs:p5_at7 s t bin rates l_a4 opacity ev2 a_0v2 a_1v2 s_1v7=true) (hk:K (e5 (s5_at7 s t bin rates l_a4 opacity ev2 a_0v2 a_1v2 s_1v7))):f5_at7 K s t bin rates l_a4 opacity ev2 a_0v2 a_1v2 s_1v7.len s_1v7_g:=by
  subst s_1v7_h
  refine ofEq (f5_eq7 K s t bin rates l_a4 opacity ev2 a_0v2 a_1v2 s_1v7) ?_
  unfold p5_at7 at hs
  unfold s5_at7 at hk
  exact (q5_at8 K s t bin rates l_a4 opacity ev2 a_0v2 a_1v2 (!(s29 rates (0:Int) s.Parts)) s_1v7 (fun i=>enc_32 (s_1v7.get i)) rfl hs hk)
def s5_at6 (s:Sky) (t:(Sl RangeRow)) (bin:Int) (rates:Span) (l_a4:(Sl Spell)) (opacity:Int) (ev2:Int) (a_0v2:Int) (a_1v2:Int) (t113v6:Bool) (s_1v6:(Sl (Sl FluxRow))):Bool :=
  (cond t113v6
   false
   (s5_at7 s t bin rates l_a4 opacity ev2 a_0v2 a_1v2 s_1v6))
def p5_at6 (s:Sky) (t:(Sl RangeRow)) (bin:Int) (rates:Span) (l_a4:(Sl Spell)) (opacity:Int) (ev2:Int) (a_0v2:Int) (a_1v2:Int) (t113v6:Bool) (s_1v6:(Sl (Sl FluxRow))):Bool :=
  (cond t113v6
   true
   (p5_at7 s t bin rates l_a4 opacity ev2 a_0v2 a_1v2 s_1v6))
theorem q5_at6 (K:List PA→Prop) (s:Sky) (t:(Sl RangeRow)) (bin:Int) (rates:Span) (l_a4:(Sl Spell)) (opacity:Int) (ev2:Int) (a_0v2:Int) (a_1v2:Int) (t113v6:Bool) (s_1v6:(Sl (Sl FluxRow))) (s_1v6_g:Nat→List PV) (s_1v6_h:s_1v6_g=fun i=>enc_32 (s_1v6.get i)) (hs:p5_at6 s t bin rates l_a4 opacity ev2 a_0v2 a_1v2 t113v6 s_1v6=true) (hk:K (e5 (s5_at6 s t bin rates l_a4 opacity ev2 a_0v2 a_1v2 t113v6 s_1v6))):f5_at6 K s t bin rates l_a4 opacity ev2 a_0v2 a_1v2 t113v6 s_1v6.len s_1v6_g:=by
  subst s_1v6_h
  refine ofEq (f5_eq6 K s t bin rates l_a4 opacity ev2 a_0v2 a_1v2 t113v6 s_1v6) ?_
  unfold p5_at6 at hs
  unfold s5_at6 at hk
  exact (condB_go (K := fun r => K (e5 r))
   (fun hs hk=>hk)
   (fun hs hk=>(q5_at7 K s t bin rates l_a4 opacity ev2 a_0v2 a_1v2 s_1v6 (fun i=>enc_32 (s_1v6.get i)) rfl hs hk)) hs hk)
def s5_at5 (s:Sky) (t:(Sl RangeRow)) (bin:Int) (rates:Span) (l_a4:(Sl Spell)) (opacity:Int) (ev2:Int) (a_0v2:Int) (a_1v2:Int) (cv3:(Sl FluxStep)) (fv3:Int) (s_1v5:(Sl (Sl FluxRow))):Bool :=
  (cond (fv3 != (0:Int))
   (s5_at6 s t bin rates l_a4 opacity ev2 a_0v2 a_1v2 true s_1v5)
   (s5_at6 s t bin rates l_a4 opacity ev2 a_0v2 a_1v2 (!(s27 cv3 (⟨(s28 (⟨s.Parts,s_1v5,s.Beta,s.Alpha⟩:Sky) t bin l_a4).len,(s28 (⟨s.Parts,s_1v5,s.Beta,s.Alpha⟩:Sky) t bin l_a4).get⟩:(Sl FluxStep)))) s_1v5))
def p5_at5 (s:Sky) (t:(Sl RangeRow)) (bin:Int) (rates:Span) (l_a4:(Sl Spell)) (opacity:Int) (ev2:Int) (a_0v2:Int) (a_1v2:Int) (cv3:(Sl FluxStep)) (fv3:Int) (s_1v5:(Sl (Sl FluxRow))):Bool :=
  (cond (fv3 != (0:Int))
   (p5_at6 s t bin rates l_a4 opacity ev2 a_0v2 a_1v2 true s_1v5)
   (decide ((p28 (⟨s.Parts,s_1v5,s.Beta,s.Alpha⟩:Sky) t bin l_a4=true)) &&
   (decide ((p27 cv3 (⟨(s28 (⟨s.Parts,s_1v5,s.Beta,s.Alpha⟩:Sky) t bin l_a4).len,(s28 (⟨s.Parts,s_1v5,s.Beta,s.Alpha⟩:Sky) t bin l_a4).get⟩:(Sl FluxStep))=true)) &&
   (p5_at6 s t bin rates l_a4 opacity ev2 a_0v2 a_1v2 (!(s27 cv3 (⟨(s28 (⟨s.Parts,s_1v5,s.Beta,s.Alpha⟩:Sky) t bin l_a4).len,(s28 (⟨s.Parts,s_1v5,s.Beta,s.Alpha⟩:Sky) t bin l_a4).get⟩:(Sl FluxStep)))) s_1v5))))
theorem q5_at5 (K:List PA→Prop) (s:Sky) (t:(Sl RangeRow)) (bin:Int) (rates:Span) (l_a4:(Sl Spell)) (opacity:Int) (ev2:Int) (a_0v2:Int) (a_1v2:Int) (cv3:(Sl FluxStep)) (fv3:Int) (s_1v5:(Sl (Sl FluxRow))) (s_1v5_g:Nat→List PV) (s_1v5_h:s_1v5_g=fun i=>enc_32 (s_1v5.get i)) (hs:p5_at5 s t bin rates l_a4 opacity ev2 a_0v2 a_1v2 cv3 fv3 s_1v5=true) (hk:K (e5 (s5_at5 s t bin rates l_a4 opacity ev2 a_0v2 a_1v2 cv3 fv3 s_1v5))):f5_at5 K s t bin rates l_a4 opacity ev2 a_0v2 a_1v2 cv3 fv3 s_1v5.len s_1v5_g:=by
  subst s_1v5_h
  refine ofEq (f5_eq5 K s t bin rates l_a4 opacity ev2 a_0v2 a_1v2 cv3 fv3 s_1v5) ?_
  unfold p5_at5 at hs
  unfold s5_at5 at hk
  exact (condB_go (K := fun r => K (e5 r))
   (fun hs hk=>(q5_at6 K s t bin rates l_a4 opacity ev2 a_0v2 a_1v2 true s_1v5 (fun i=>enc_32 (s_1v5.get i)) rfl hs hk))
   (fun hs hk=>(andK hs fun hc hs=>⟨⟨isE,isE,isE,hc⟩,(andK hs fun hc hs=>⟨⟨isE,isE,hc⟩,(q5_at6 K s t bin rates l_a4 opacity ev2 a_0v2 a_1v2 (!(s27 cv3 (⟨(s28 (⟨s.Parts,s_1v5,s.Beta,s.Alpha⟩:Sky) t bin l_a4).len,(s28 (⟨s.Parts,s_1v5,s.Beta,s.Alpha⟩:Sky) t bin l_a4).get⟩:(Sl FluxStep)))) s_1v5 (fun i=>enc_32 (s_1v5.get i)) rfl hs hk)⟩)⟩)) hs hk)
def s5_at4 (s:Sky) (t:(Sl RangeRow)) (bin:Int) (rates:Span) (l_a4:(Sl Spell)) (opacity:Int) (ev2:Int) (a_0v2:Int) (a_1v2:Int) (cv3:(Sl FluxStep)) (fv3:Int) (finev4:Bool) (s_1v4:(Sl (Sl FluxRow))):Bool :=
  (cond (!finev4)
   (cond (ev2 == (2:Int))
    (cond (fv3 == (2:Int))
     (cond (match (a_0v2 == (0:Int)) with | true => (match (a_1v2 == (0:Int)) with | true => true | false => false) | false => false)
      (cond ((cv3.len : Int) == (0:Int))
       true
       false)
      false)
     false)
    false)
   (s5_at5 s t bin rates l_a4 opacity ev2 a_0v2 a_1v2 cv3 fv3 s_1v4))
def p5_at4 (s:Sky) (t:(Sl RangeRow)) (bin:Int) (rates:Span) (l_a4:(Sl Spell)) (opacity:Int) (ev2:Int) (a_0v2:Int) (a_1v2:Int) (cv3:(Sl FluxStep)) (fv3:Int) (finev4:Bool) (s_1v4:(Sl (Sl FluxRow))):Bool :=
  (cond (!finev4)
   true
   (p5_at5 s t bin rates l_a4 opacity ev2 a_0v2 a_1v2 cv3 fv3 s_1v4))
theorem q5_at4 (K:List PA→Prop) (s:Sky) (t:(Sl RangeRow)) (bin:Int) (rates:Span) (l_a4:(Sl Spell)) (opacity:Int) (ev2:Int) (a_0v2:Int) (a_1v2:Int) (cv3:(Sl FluxStep)) (fv3:Int) (finev4:Bool) (s_1v4:(Sl (Sl FluxRow))) (s_1v4_g:Nat→List PV) (s_1v4_h:s_1v4_g=fun i=>enc_32 (s_1v4.get i)) (hs:p5_at4 s t bin rates l_a4 opacity ev2 a_0v2 a_1v2 cv3 fv3 finev4 s_1v4=true) (hk:K (e5 (s5_at4 s t bin rates l_a4 opacity ev2 a_0v2 a_1v2 cv3 fv3 finev4 s_1v4))):f5_at4 K s t bin rates l_a4 opacity ev2 a_0v2 a_1v2 cv3 fv3 finev4 s_1v4.len s_1v4_g:=by
  subst s_1v4_h
  refine ofEq (f5_eq4 K s t bin rates l_a4 opacity ev2 a_0v2 a_1v2 cv3 fv3 finev4 s_1v4) ?_
  unfold p5_at4 at hs
  unfold s5_at4 at hk
  exact (condB_go (K := fun r => K (e5 r))
   (fun hs hk => (condP_gt (K := fun r => K (e5 r))
    (fun hk => (condP_gt (K := fun r => K (e5 r))
     (fun hk => (condP_gt (K := fun r => K (e5 r))
      (fun hk => (condP_gt (K := fun r => K (e5 r))
       (fun hk=>hk)
       (fun hk=>hk) hk))
      (fun hk=>hk) hk))
     (fun hk=>hk) hk))
    (fun hk=>hk) hk))
   (fun hs hk=>(q5_at5 K s t bin rates l_a4 opacity ev2 a_0v2 a_1v2 cv3 fv3 s_1v4 (fun i=>enc_32 (s_1v4.get i)) rfl hs hk)) hs hk)
def s5_at3 (s:Sky) (t:(Sl RangeRow)) (bin:Int) (rates:Span) (l_a4:(Sl Spell)) (opacity:Int) (ev2:Int) (a_0v2:Int) (a_1v2:Int) (cv3:(Sl FluxStep)) (fv3:Int) (s_1v3:(Sl (Sl FluxRow))):Bool :=
  (cond (s16 (⟨s.Parts, s_1v3, s.Beta, s.Alpha⟩ : Sky))
   (cond (s17 t)
    (cond (decide (bin ≥ (0:Int)))
     (cond (decide (bin < (s_1v3.len : Int)))
      (s5_at4 s t bin rates l_a4 opacity ev2 a_0v2 a_1v2 cv3 fv3 (s22 l_a4) s_1v3)
      (s5_at4 s t bin rates l_a4 opacity ev2 a_0v2 a_1v2 cv3 fv3 false s_1v3))
     (s5_at4 s t bin rates l_a4 opacity ev2 a_0v2 a_1v2 cv3 fv3 false s_1v3))
    (s5_at4 s t bin rates l_a4 opacity ev2 a_0v2 a_1v2 cv3 fv3 false s_1v3))
   (s5_at4 s t bin rates l_a4 opacity ev2 a_0v2 a_1v2 cv3 fv3 false s_1v3))
def p5_at3 (s:Sky) (t:(Sl RangeRow)) (bin:Int) (rates:Span) (l_a4:(Sl Spell)) (opacity:Int) (ev2:Int) (a_0v2:Int) (a_1v2:Int) (cv3:(Sl FluxStep)) (fv3:Int) (s_1v3:(Sl (Sl FluxRow))):Bool :=
  (decide ((p16 (⟨s.Parts,s_1v3,s.Beta,s.Alpha⟩:Sky)=true)) &&
  (cond (s16 (⟨s.Parts, s_1v3, s.Beta, s.Alpha⟩ : Sky))
   (decide ((p17 t=true)) &&
   (cond (s17 t)
    (cond (decide (bin ≥ (0:Int)))
     (cond (decide (bin < (s_1v3.len : Int)))
      (decide ((p22 l_a4=true)) &&
      (p5_at4 s t bin rates l_a4 opacity ev2 a_0v2 a_1v2 cv3 fv3 (s22 l_a4) s_1v3))
      (p5_at4 s t bin rates l_a4 opacity ev2 a_0v2 a_1v2 cv3 fv3 false s_1v3))
     (p5_at4 s t bin rates l_a4 opacity ev2 a_0v2 a_1v2 cv3 fv3 false s_1v3))
    (p5_at4 s t bin rates l_a4 opacity ev2 a_0v2 a_1v2 cv3 fv3 false s_1v3)))
   (p5_at4 s t bin rates l_a4 opacity ev2 a_0v2 a_1v2 cv3 fv3 false s_1v3)))
theorem q5_at3 (K:List PA→Prop) (s:Sky) (t:(Sl RangeRow)) (bin:Int) (rates:Span) (l_a4:(Sl Spell)) (opacity:Int) (ev2:Int) (a_0v2:Int) (a_1v2:Int) (cv3:(Sl FluxStep)) (fv3:Int) (s_1v3:(Sl (Sl FluxRow))) (cv3_g:Nat→List PV) (cv3_h:cv3_g=fun i=>enc_69 (cv3.get i)) (s_1v3_g:Nat→List PV) (s_1v3_h:s_1v3_g=fun i=>enc_32 (s_1v3.get i)) (hs:p5_at3 s t bin rates l_a4 opacity ev2 a_0v2 a_1v2 cv3 fv3 s_1v3=true) (hk:K (e5 (s5_at3 s t bin rates l_a4 opacity ev2 a_0v2 a_1v2 cv3 fv3 s_1v3))):f5_at3 K s t bin rates l_a4 opacity ev2 a_0v2 a_1v2 cv3.len cv3_g fv3 s_1v3.len s_1v3_g:=by
  subst cv3_h
  subst s_1v3_h
  refine ofEq (f5_eq3 K s t bin rates l_a4 opacity ev2 a_0v2 a_1v2 cv3 fv3 s_1v3) ?_
  unfold p5_at3 at hs
  unfold s5_at3 at hk
  exact (andK hs fun hc hs => ⟨⟨isE, hc⟩, (condB_go (K := fun r => K (e5 r))
   (fun hs hk => (andK hs fun hc hs => ⟨⟨isE, hc⟩, (condB_go (K := fun r => K (e5 r))
    (fun hs hk => (condB_go (K := fun r => K (e5 r))
     (fun hs hk => (condB_go (K := fun r => K (e5 r))
      (fun hs hk=>(andK hs fun hc hs=>⟨⟨isE,hc⟩,(q5_at4 K s t bin rates l_a4 opacity ev2 a_0v2 a_1v2 cv3 fv3 (s22 l_a4) s_1v3 (fun i=>enc_32 (s_1v3.get i)) rfl hs hk)⟩))
      (fun hs hk=>(q5_at4 K s t bin rates l_a4 opacity ev2 a_0v2 a_1v2 cv3 fv3 false s_1v3 (fun i=>enc_32 (s_1v3.get i)) rfl hs hk)) hs hk))
     (fun hs hk=>(q5_at4 K s t bin rates l_a4 opacity ev2 a_0v2 a_1v2 cv3 fv3 false s_1v3 (fun i=>enc_32 (s_1v3.get i)) rfl hs hk)) hs hk))
    (fun hs hk=>(q5_at4 K s t bin rates l_a4 opacity ev2 a_0v2 a_1v2 cv3 fv3 false s_1v3 (fun i=>enc_32 (s_1v3.get i)) rfl hs hk)) hs hk)⟩))
   (fun hs hk=>(q5_at4 K s t bin rates l_a4 opacity ev2 a_0v2 a_1v2 cv3 fv3 false s_1v3 (fun i=>enc_32 (s_1v3.get i)) rfl hs hk)) hs hk)⟩)
def s5_at2 (s:Sky) (t:(Sl RangeRow)) (bin:Int) (rates:Span) (l_a4:(Sl Spell)) (opacity:Int) (ev2:Int) (s_1v2:(Sl (Sl FluxRow))) (a_0v2:Int) (a_1v2:Int):Bool :=
  (s5_at3 s t bin rates l_a4 opacity ev2 a_0v2 a_1v2 ((s26 (⟨s.Parts,s_1v2,s.Beta,s.Alpha⟩:Sky) t bin l_a4).1) ((s26 (⟨s.Parts,s_1v2,s.Beta,s.Alpha⟩:Sky) t bin l_a4).2) s_1v2)
def p5_at2 (s:Sky) (t:(Sl RangeRow)) (bin:Int) (rates:Span) (l_a4:(Sl Spell)) (opacity:Int) (ev2:Int) (s_1v2:(Sl (Sl FluxRow))) (a_0v2:Int) (a_1v2:Int):Bool :=
  (decide ((p26 (⟨s.Parts,s_1v2,s.Beta,s.Alpha⟩:Sky) t bin l_a4=true)) &&
  (p5_at3 s t bin rates l_a4 opacity ev2 a_0v2 a_1v2 ((s26 (⟨s.Parts,s_1v2,s.Beta,s.Alpha⟩:Sky) t bin l_a4).1) ((s26 (⟨s.Parts,s_1v2,s.Beta,s.Alpha⟩:Sky) t bin l_a4).2) s_1v2))
theorem q5_at2 (K:List PA→Prop) (s:Sky) (t:(Sl RangeRow)) (bin:Int) (rates:Span) (l_a4:(Sl Spell)) (opacity:Int) (ev2:Int) (s_1v2:(Sl (Sl FluxRow))) (a_0v2:Int) (a_1v2:Int) (s_1v2_g:Nat→List PV) (s_1v2_h:s_1v2_g=fun i=>enc_32 (s_1v2.get i)) (hs:p5_at2 s t bin rates l_a4 opacity ev2 s_1v2 a_0v2 a_1v2=true) (hk:K (e5 (s5_at2 s t bin rates l_a4 opacity ev2 s_1v2 a_0v2 a_1v2))):f5_at2 K s t bin rates l_a4 opacity ev2 s_1v2.len s_1v2_g a_0v2 a_1v2:=by
  subst s_1v2_h
  refine ofEq (f5_eq2 K s t bin rates l_a4 opacity ev2 s_1v2 a_0v2 a_1v2) ?_
  unfold p5_at2 at hs
  unfold s5_at2 at hk
  exact (andK hs fun hc hs=>⟨⟨isE,isE,isE,hc⟩,(q5_at3 K s t bin rates l_a4 opacity ev2 a_0v2 a_1v2 ((s26 (⟨s.Parts,s_1v2,s.Beta,s.Alpha⟩:Sky) t bin l_a4).1) ((s26 (⟨s.Parts,s_1v2,s.Beta,s.Alpha⟩:Sky) t bin l_a4).2) s_1v2 (fun i=>enc_69 (((s26 (⟨s.Parts,s_1v2,s.Beta,s.Alpha⟩:Sky) t bin l_a4).1).get i)) rfl (fun i=>enc_32 (s_1v2.get i)) rfl hs hk)⟩)
def s5_at1 (s:Sky) (t:(Sl RangeRow)) (bin:Int) (rates:Span) (l_a4:(Sl Spell)) (opacity:Int) (s_1v1:(Sl (Sl FluxRow))):Bool :=
  (s5_at2 s t bin rates l_a4 opacity ((s25 (⟨s.Parts,s_1v1,s.Beta,s.Alpha⟩:Sky) t bin rates l_a4).2) s_1v1 (((s25 (⟨s.Parts,s_1v1,s.Beta,s.Alpha⟩:Sky) t bin rates l_a4).1).Low) (((s25 (⟨s.Parts,s_1v1,s.Beta,s.Alpha⟩:Sky) t bin rates l_a4).1).High))
def p5_at1 (s:Sky) (t:(Sl RangeRow)) (bin:Int) (rates:Span) (l_a4:(Sl Spell)) (opacity:Int) (s_1v1:(Sl (Sl FluxRow))):Bool :=
  (decide ((p25 (⟨s.Parts,s_1v1,s.Beta,s.Alpha⟩:Sky) t bin rates l_a4=true)) &&
  (p5_at2 s t bin rates l_a4 opacity ((s25 (⟨s.Parts,s_1v1,s.Beta,s.Alpha⟩:Sky) t bin rates l_a4).2) s_1v1 (((s25 (⟨s.Parts,s_1v1,s.Beta,s.Alpha⟩:Sky) t bin rates l_a4).1).Low) (((s25 (⟨s.Parts,s_1v1,s.Beta,s.Alpha⟩:Sky) t bin rates l_a4).1).High)))
theorem q5_at1 (K:List PA→Prop) (s:Sky) (t:(Sl RangeRow)) (bin:Int) (rates:Span) (l_a4:(Sl Spell)) (opacity:Int) (s_1v1:(Sl (Sl FluxRow))) (s_1v1_g:Nat→List PV) (s_1v1_h:s_1v1_g=fun i=>enc_32 (s_1v1.get i)) (hs:p5_at1 s t bin rates l_a4 opacity s_1v1=true) (hk:K (e5 (s5_at1 s t bin rates l_a4 opacity s_1v1))):f5_at1 K s t bin rates l_a4 opacity s_1v1.len s_1v1_g:=by
  subst s_1v1_h
  refine ofEq (f5_eq1 K s t bin rates l_a4 opacity s_1v1) ?_
  unfold p5_at1 at hs
  unfold s5_at1 at hk
  exact (andK hs fun hc hs=>⟨⟨isE,isE,isE,hc⟩,(q5_at2 K s t bin rates l_a4 opacity ((s25 (⟨s.Parts,s_1v1,s.Beta,s.Alpha⟩:Sky) t bin rates l_a4).2) s_1v1 (((s25 (⟨s.Parts,s_1v1,s.Beta,s.Alpha⟩:Sky) t bin rates l_a4).1).Low) (((s25 (⟨s.Parts,s_1v1,s.Beta,s.Alpha⟩:Sky) t bin rates l_a4).1).High) (fun i=>enc_32 (s_1v1.get i)) rfl hs hk)⟩)
def s5_at0 (s:Sky) (t:(Sl RangeRow)) (bin:Int) (rates:Span) (l_a4:(Sl Spell)) (opacity:Int) (t41v0:Bool) (s_1v0:(Sl (Sl FluxRow))):Bool :=
  (cond t41v0
   true
   (s5_at1 s t bin rates l_a4 opacity s_1v0))
def p5_at0 (s:Sky) (t:(Sl RangeRow)) (bin:Int) (rates:Span) (l_a4:(Sl Spell)) (opacity:Int) (t41v0:Bool) (s_1v0:(Sl (Sl FluxRow))):Bool :=
  (cond t41v0
   true
   (p5_at1 s t bin rates l_a4 opacity s_1v0))
theorem q5_at0 (K:List PA→Prop) (s:Sky) (t:(Sl RangeRow)) (bin:Int) (rates:Span) (l_a4:(Sl Spell)) (opacity:Int) (t41v0:Bool) (s_1v0:(Sl (Sl FluxRow))) (s_1v0_g:Nat→List PV) (s_1v0_h:s_1v0_g=fun i=>enc_32 (s_1v0.get i)) (hs:p5_at0 s t bin rates l_a4 opacity t41v0 s_1v0=true) (hk:K (e5 (s5_at0 s t bin rates l_a4 opacity t41v0 s_1v0))):f5_at0 K s t bin rates l_a4 opacity t41v0 s_1v0.len s_1v0_g:=by
  subst s_1v0_h
  refine ofEq (f5_eq0 K s t bin rates l_a4 opacity t41v0 s_1v0) ?_
  unfold p5_at0 at hs
  unfold s5_at0 at hk
  exact (condB_go (K := fun r => K (e5 r))
   (fun hs hk=>hk)
   (fun hs hk=>(q5_at1 K s t bin rates l_a4 opacity s_1v0 (fun i=>enc_32 (s_1v0.get i)) rfl hs hk)) hs hk)
def s5 (s:Sky) (t:(Sl RangeRow)) (bin:Int) (rates:Span) (l_a4:(Sl Spell)) (opacity:Int):Bool :=
  (cond (!(s15 s t))
   (s5_at0 s t bin rates l_a4 opacity true s.Bins)
   (cond (decide ((l_a4.len : Int) > (20:Int)))
    (cond (decide ((l_a4.len : Int) ≤ (50:Int)))
     (s5_at0 s t bin rates l_a4 opacity true s.Bins)
     (s5_at0 s t bin rates l_a4 opacity (decide ((l_a4.len:Int) > (60:Int))) s.Bins))
    (s5_at0 s t bin rates l_a4 opacity (decide ((l_a4.len:Int) > (60:Int))) s.Bins)))
def p5 (s:Sky) (t:(Sl RangeRow)) (bin:Int) (rates:Span) (l_a4:(Sl Spell)) (opacity:Int):Bool :=
  (decide ((p15 s t=true)) &&
  (cond (!(s15 s t))
   (p5_at0 s t bin rates l_a4 opacity true s.Bins)
   (cond (decide ((l_a4.len : Int) > (20:Int)))
    (cond (decide ((l_a4.len : Int) ≤ (50:Int)))
     (p5_at0 s t bin rates l_a4 opacity true s.Bins)
     (p5_at0 s t bin rates l_a4 opacity (decide ((l_a4.len:Int) > (60:Int))) s.Bins))
    (p5_at0 s t bin rates l_a4 opacity (decide ((l_a4.len:Int) > (60:Int))) s.Bins))))
theorem q5 (s:Sky) (t:(Sl RangeRow)) (bin:Int) (rates:Span) (l_a4:(Sl Spell)) (opacity:Int) (K:List PA→Prop) (hs:p5 s t bin rates l_a4 opacity=true) (hk:K (e5 (s5 s t bin rates l_a4 opacity))):vcFun Try.prog G5 ann5 5 [.agg [.int .i64 s.Parts,.sl s.Bins.len 1 (fun i=>enc_32 (s.Bins.get i)),.int .i64 s.Beta.Low,.int .i64 s.Beta.High,.int .i64 s.Alpha.Low,.int .i64 s.Alpha.High],.one (.sl t.len 3 (fun i=>enc_42 (t.get i))),.one (.int .i64 bin),.agg [.int .i64 rates.Low,.int .i64 rates.High],.one (.sl l_a4.len 5 (fun i=>enc_56 (l_a4.get i))),.one (.int .i64 opacity)] K:=by
  refine ofEq (f5_top s t bin rates l_a4 opacity K) ?_
  unfold p5 at hs
  unfold s5 at hk
  exact (andK hs fun hc hs => ⟨⟨isE, isE, hc⟩, (condB_go (K := fun r => K (e5 r))
   (fun hs hk=>(q5_at0 K s t bin rates l_a4 opacity true s.Bins (fun i=>enc_32 (s.Bins.get i)) rfl hs hk))
   (fun hs hk => (condB_go (K := fun r => K (e5 r))
    (fun hs hk => (condB_go (K := fun r => K (e5 r))
     (fun hs hk=>(q5_at0 K s t bin rates l_a4 opacity true s.Bins (fun i=>enc_32 (s.Bins.get i)) rfl hs hk))
     (fun hs hk=>(q5_at0 K s t bin rates l_a4 opacity (decide ((l_a4.len:Int) > (60:Int))) s.Bins (fun i=>enc_32 (s.Bins.get i)) rfl hs hk)) hs hk))
    (fun hs hk=>(q5_at0 K s t bin rates l_a4 opacity (decide ((l_a4.len:Int) > (60:Int))) s.Bins (fun i=>enc_32 (s.Bins.get i)) rfl hs hk)) hs hk)) hs hk)⟩)
def ctr5 : List PA → COut
  | [.agg [.int .i64 a0_Parts,.sl a0_Bins_n a0_Bins_s a0_Bins_g,.int .i64 a0_Beta_Low,.int .i64 a0_Beta_High,.int .i64 a0_Alpha_Low,.int .i64 a0_Alpha_High],.one (.sl a1_n a1_s a1_g),.one (.int .i64 a2),.agg [.int .i64 a3_Low,.int .i64 a3_High],.one (.sl a4_n a4_s a4_g),.one (.int .i64 a5)]=>.det (IsE enc_32 1 a0_Bins_s a0_Bins_g∧IsE enc_42 3 a1_s a1_g∧IsE enc_56 5 a4_s a4_g∧p5 (⟨a0_Parts,(⟨a0_Bins_n,decF_32 a0_Bins_g⟩:(Sl (Sl FluxRow))),(⟨a0_Beta_Low,a0_Beta_High⟩:Span),(⟨a0_Alpha_Low,a0_Alpha_High⟩:Span)⟩:Sky) (⟨a1_n,decF_42 a1_g⟩:(Sl RangeRow)) a2 (⟨a3_Low,a3_High⟩:Span) (⟨a4_n,decF_56 a4_g⟩:(Sl Spell)) a5=true) [.one (.bool (s5 (⟨a0_Parts,(⟨a0_Bins_n,decF_32 a0_Bins_g⟩:(Sl (Sl FluxRow))),(⟨a0_Beta_Low,a0_Beta_High⟩:Span),(⟨a0_Alpha_Low,a0_Alpha_High⟩:Span)⟩:Sky) (⟨a1_n,decF_42 a1_g⟩:(Sl RangeRow)) a2 (⟨a3_Low,a3_High⟩:Span) (⟨a4_n,decF_56 a4_g⟩:(Sl Spell)) a5))]
  | _=>.no
theorem call5:Callable Try.prog 5:=⟨_,rfl,rfl,by kernel_rfl⟩
theorem ok5:Ok Try.prog 5 ctr5:=ok_tab okT5 call5 fun args K h=>by
  unfold ctr5 at h
  split at h
  · rename_i a0_Parts a0_Bins_n a0_Bins_s a0_Bins_g a0_Beta_Low a0_Beta_High a0_Alpha_Low a0_Alpha_High a1_n a1_s a1_g a2 a3_Low a3_High a4_n a4_s a4_g a5
    obtain ⟨⟨⟨rfl,a0_Bins_f,rfl⟩,⟨rfl,a1_f,rfl⟩,⟨rfl,a4_f,rfl⟩,hs⟩,hk⟩:=h
    try rw [decF_enc_32 a0_Bins_f] at hs
    try rw [decF_enc_32 a0_Bins_f] at hk
    try rw [decF_enc_42 a1_f] at hs
    try rw [decF_enc_42 a1_f] at hk
    try rw [decF_enc_56 a4_f] at hs
    try rw [decF_enc_56 a4_f] at hk
    exact ⟨(fun _ _=>[]),(fun _=>false),ann5,q5 (⟨a0_Parts,(⟨a0_Bins_n,a0_Bins_f⟩:(Sl (Sl FluxRow))),(⟨a0_Beta_Low,a0_Beta_High⟩:Span),(⟨a0_Alpha_Low,a0_Alpha_High⟩:Span)⟩:Sky) (⟨a1_n,a1_f⟩:(Sl RangeRow)) a2 (⟨a3_Low,a3_High⟩:Span) (⟨a4_n,a4_f⟩:(Sl Spell)) a5 K hs hk⟩
  · exact h.elim
end Go.Proofs
namespace Go.Proofs
open Go Go.Pm
set_option maxRecDepth 100000
set_option linter.unusedVariables false
attribute [local irreducible] Go.Pm.vcFun Go.Pm.vc Go.Pm.vcIter
theorem C_3:Try.prog.cellsOf 3=1:=by kernel_rfl
theorem C_22:Try.prog.cellsOf 22=1:=by kernel_rfl
theorem C_24:Try.prog.cellsOf 24=2:=by kernel_rfl
theorem C_26:Try.prog.cellsOf 26=6:=by kernel_rfl
theorem C_32:Try.prog.cellsOf 32=1:=by kernel_rfl
theorem C_42:Try.prog.cellsOf 42=3:=by kernel_rfl
theorem C_44:Try.prog.cellsOf 44=3:=by kernel_rfl
theorem C_54:Try.prog.cellsOf 54=4:=by kernel_rfl
theorem C_56:Try.prog.cellsOf 56=5:=by kernel_rfl
abbrev wf_3 (x:Int):Prop:=wfI x
theorem rd_3 {H:Type} {en:TypeId×Value→H} {w:World} {sp:Nat→Bool} {held:Bool} : Rd H en Try.prog w sp held 3 enc_3 wf_3:=rd_int Try.underlying3
def wf_24 (x:Span):Prop:=wf_3 x.Low∧wf_3 x.High
theorem rd_24 {H:Type} {en:TypeId×Value→H} {w:World} {sp:Nat→Bool} {held:Bool} : Rd H en Try.prog w sp held 24 enc_24 wf_24:=by
  intro fuel cs x h
  obtain ⟨hl,hf⟩:=rd_struct Try.underlying24 h
  rw [C_24] at hl
  obtain ⟨n0,y0,g0⟩:=hf 0 _ rfl
  have g0:DataW.trod en Try.prog w 0 sp held n0 3 ((cs.drop 0).take (Try.prog.cellsOf 3))=some y0:=g0
  rw [C_3] at g0
  obtain ⟨a0,r0,w0⟩:=rd_3 _ _ _ g0
  obtain ⟨n1,y1,g1⟩:=hf 1 _ rfl
  have g1:DataW.trod en Try.prog w 0 sp held n1 3 ((cs.drop 1).take (Try.prog.cellsOf 3))=some y1:=g1
  rw [C_3] at g1
  obtain ⟨a1,r1,w1⟩:=rd_3 _ _ _ g1
  have z:cs.drop 2=[]:=List.drop_eq_nil_of_le (by omega)
  have R:=(r0.append (r1.append (show RL (Rep (H0 w)) [] (cs.drop 2) by rw [z];exact rl_n)))
  rw [← (show cs.drop 1=(cs.drop 1).take 1 ++ cs.drop 2 from split_drop cs 1 1)] at R
  rw [← (show cs.drop 0=(cs.drop 0).take 1 ++ cs.drop 1 from split_drop cs 0 1)] at R
  exact ⟨⟨a0,a1⟩,R,⟨w0,w1⟩⟩
def wf_44 (x:FluxRow):Prop:=wf_3 x.Energy∧wf_24 x.Rate
theorem rd_44 {H:Type} {en:TypeId×Value→H} {w:World} {sp:Nat→Bool} {held:Bool} : Rd H en Try.prog w sp held 44 enc_44 wf_44:=by
  intro fuel cs x h
  obtain ⟨hl,hf⟩:=rd_struct Try.underlying44 h
  rw [C_44] at hl
  obtain ⟨n0,y0,g0⟩:=hf 0 _ rfl
  have g0:DataW.trod en Try.prog w 0 sp held n0 3 ((cs.drop 0).take (Try.prog.cellsOf 3))=some y0:=g0
  rw [C_3] at g0
  obtain ⟨a0,r0,w0⟩:=rd_3 _ _ _ g0
  obtain ⟨n1,y1,g1⟩:=hf 1 _ rfl
  have g1:DataW.trod en Try.prog w 0 sp held n1 24 ((cs.drop 1).take (Try.prog.cellsOf 24))=some y1:=g1
  rw [C_24] at g1
  obtain ⟨a1,r1,w1⟩:=rd_24 _ _ _ g1
  have z:cs.drop 3=[]:=List.drop_eq_nil_of_le (by omega)
  have R:=(r0.append (r1.append (show RL (Rep (H0 w)) [] (cs.drop 3) by rw [z];exact rl_n)))
  rw [← (show cs.drop 1=(cs.drop 1).take 2 ++ cs.drop 3 from split_drop cs 1 2)] at R
  rw [← (show cs.drop 0=(cs.drop 0).take 1 ++ cs.drop 1 from split_drop cs 0 1)] at R
  exact ⟨⟨a0,a1⟩,R,⟨w0,w1⟩⟩
def wf_32 (x:(Sl FluxRow)):Prop:=x.len≤9223372036854775807∧∀ i,i < x.len→wf_44 (x.get i)
theorem rd_32 {H:Type} {en:TypeId×Value→H} {w:World} {sp:Nat→Bool} {held:Bool} : Rd H en Try.prog w sp held 32 enc_32 wf_32:=rd_slice Try.underlying32 C_44 (by decide) (fun _=>rfl) rd_44
def wf_22 (x:(Sl (Sl FluxRow))):Prop:=x.len≤9223372036854775807∧∀ i,i < x.len→wf_32 (x.get i)
theorem rd_22 {H:Type} {en:TypeId×Value→H} {w:World} {sp:Nat→Bool} {held:Bool} : Rd H en Try.prog w sp held 22 enc_22 wf_22:=rd_slice Try.underlying22 C_32 (by decide) (fun _=>rfl) rd_32
def wf_26 (x:Sky):Prop:=wf_3 x.Parts∧wf_22 x.Bins∧wf_24 x.Beta∧wf_24 x.Alpha
theorem rd_26 {H:Type} {en:TypeId×Value→H} {w:World} {sp:Nat→Bool} {held:Bool} : Rd H en Try.prog w sp held 26 enc_26 wf_26:=by
  intro fuel cs x h
  obtain ⟨hl,hf⟩:=rd_struct Try.underlying26 h
  rw [C_26] at hl
  obtain ⟨n0,y0,g0⟩:=hf 0 _ rfl
  have g0:DataW.trod en Try.prog w 0 sp held n0 3 ((cs.drop 0).take (Try.prog.cellsOf 3))=some y0:=g0
  rw [C_3] at g0
  obtain ⟨a0,r0,w0⟩:=rd_3 _ _ _ g0
  obtain ⟨n1,y1,g1⟩:=hf 1 _ rfl
  have g1:DataW.trod en Try.prog w 0 sp held n1 22 ((cs.drop 1).take (Try.prog.cellsOf 22))=some y1:=g1
  rw [C_22] at g1
  obtain ⟨a1,r1,w1⟩:=rd_22 _ _ _ g1
  obtain ⟨n2,y2,g2⟩:=hf 2 _ rfl
  have g2:DataW.trod en Try.prog w 0 sp held n2 24 ((cs.drop 2).take (Try.prog.cellsOf 24))=some y2:=g2
  rw [C_24] at g2
  obtain ⟨a2,r2,w2⟩:=rd_24 _ _ _ g2
  obtain ⟨n3,y3,g3⟩:=hf 3 _ rfl
  have g3:DataW.trod en Try.prog w 0 sp held n3 24 ((cs.drop 4).take (Try.prog.cellsOf 24))=some y3:=g3
  rw [C_24] at g3
  obtain ⟨a3,r3,w3⟩:=rd_24 _ _ _ g3
  have z:cs.drop 6=[]:=List.drop_eq_nil_of_le (by omega)
  have R:=(r0.append (r1.append (r2.append (r3.append (show RL (Rep (H0 w)) [] (cs.drop 6) by rw [z];exact rl_n)))))
  rw [← (show cs.drop 4=(cs.drop 4).take 2 ++ cs.drop 6 from split_drop cs 4 2)] at R
  rw [← (show cs.drop 2=(cs.drop 2).take 2 ++ cs.drop 4 from split_drop cs 2 2)] at R
  rw [← (show cs.drop 1=(cs.drop 1).take 1 ++ cs.drop 2 from split_drop cs 1 1)] at R
  rw [← (show cs.drop 0=(cs.drop 0).take 1 ++ cs.drop 1 from split_drop cs 0 1)] at R
  exact ⟨⟨a0,a1,a2,a3⟩,R,⟨w0,w1,w2,w3⟩⟩
def wf_42 (x:RangeRow):Prop:=wf_3 x.Energy∧wf_24 x.Range
theorem rd_42 {H:Type} {en:TypeId×Value→H} {w:World} {sp:Nat→Bool} {held:Bool} : Rd H en Try.prog w sp held 42 enc_42 wf_42:=by
  intro fuel cs x h
  obtain ⟨hl,hf⟩:=rd_struct Try.underlying42 h
  rw [C_42] at hl
  obtain ⟨n0,y0,g0⟩:=hf 0 _ rfl
  have g0:DataW.trod en Try.prog w 0 sp held n0 3 ((cs.drop 0).take (Try.prog.cellsOf 3))=some y0:=g0
  rw [C_3] at g0
  obtain ⟨a0,r0,w0⟩:=rd_3 _ _ _ g0
  obtain ⟨n1,y1,g1⟩:=hf 1 _ rfl
  have g1:DataW.trod en Try.prog w 0 sp held n1 24 ((cs.drop 1).take (Try.prog.cellsOf 24))=some y1:=g1
  rw [C_24] at g1
  obtain ⟨a1,r1,w1⟩:=rd_24 _ _ _ g1
  have z:cs.drop 3=[]:=List.drop_eq_nil_of_le (by omega)
  have R:=(r0.append (r1.append (show RL (Rep (H0 w)) [] (cs.drop 3) by rw [z];exact rl_n)))
  rw [← (show cs.drop 1=(cs.drop 1).take 2 ++ cs.drop 3 from split_drop cs 1 2)] at R
  rw [← (show cs.drop 0=(cs.drop 0).take 1 ++ cs.drop 1 from split_drop cs 0 1)] at R
  exact ⟨⟨a0,a1⟩,R,⟨w0,w1⟩⟩
def wf_27 (x:(Sl RangeRow)):Prop:=x.len≤9223372036854775807∧∀ i,i < x.len→wf_42 (x.get i)
theorem rd_27 {H:Type} {en:TypeId×Value→H} {w:World} {sp:Nat→Bool} {held:Bool} : Rd H en Try.prog w sp held 27 enc_27 wf_27:=rd_slice Try.underlying27 C_42 (by decide) (fun _=>rfl) rd_42
def wf_54 (x:Weather):Prop:=wf_24 x.Pressure∧wf_24 x.Warm
theorem rd_54 {H:Type} {en:TypeId×Value→H} {w:World} {sp:Nat→Bool} {held:Bool} : Rd H en Try.prog w sp held 54 enc_54 wf_54:=by
  intro fuel cs x h
  obtain ⟨hl,hf⟩:=rd_struct Try.underlying54 h
  rw [C_54] at hl
  obtain ⟨n0,y0,g0⟩:=hf 0 _ rfl
  have g0:DataW.trod en Try.prog w 0 sp held n0 24 ((cs.drop 0).take (Try.prog.cellsOf 24))=some y0:=g0
  rw [C_24] at g0
  obtain ⟨a0,r0,w0⟩:=rd_24 _ _ _ g0
  obtain ⟨n1,y1,g1⟩:=hf 1 _ rfl
  have g1:DataW.trod en Try.prog w 0 sp held n1 24 ((cs.drop 2).take (Try.prog.cellsOf 24))=some y1:=g1
  rw [C_24] at g1
  obtain ⟨a1,r1,w1⟩:=rd_24 _ _ _ g1
  have z:cs.drop 4=[]:=List.drop_eq_nil_of_le (by omega)
  have R:=(r0.append (r1.append (show RL (Rep (H0 w)) [] (cs.drop 4) by rw [z];exact rl_n)))
  rw [← (show cs.drop 2=(cs.drop 2).take 2 ++ cs.drop 4 from split_drop cs 2 2)] at R
  rw [← (show cs.drop 0=(cs.drop 0).take 2 ++ cs.drop 2 from split_drop cs 0 2)] at R
  exact ⟨⟨a0,a1⟩,R,⟨w0,w1⟩⟩
def wf_56 (x:Spell):Prop:=wf_3 x.Slots∧wf_54 x.Weather
theorem rd_56 {H:Type} {en:TypeId×Value→H} {w:World} {sp:Nat→Bool} {held:Bool} : Rd H en Try.prog w sp held 56 enc_56 wf_56:=by
  intro fuel cs x h
  obtain ⟨hl,hf⟩:=rd_struct Try.underlying56 h
  rw [C_56] at hl
  obtain ⟨n0,y0,g0⟩:=hf 0 _ rfl
  have g0:DataW.trod en Try.prog w 0 sp held n0 3 ((cs.drop 0).take (Try.prog.cellsOf 3))=some y0:=g0
  rw [C_3] at g0
  obtain ⟨a0,r0,w0⟩:=rd_3 _ _ _ g0
  obtain ⟨n1,y1,g1⟩:=hf 1 _ rfl
  have g1:DataW.trod en Try.prog w 0 sp held n1 54 ((cs.drop 1).take (Try.prog.cellsOf 54))=some y1:=g1
  rw [C_54] at g1
  obtain ⟨a1,r1,w1⟩:=rd_54 _ _ _ g1
  have z:cs.drop 5=[]:=List.drop_eq_nil_of_le (by omega)
  have R:=(r0.append (r1.append (show RL (Rep (H0 w)) [] (cs.drop 5) by rw [z];exact rl_n)))
  rw [← (show cs.drop 1=(cs.drop 1).take 4 ++ cs.drop 5 from split_drop cs 1 4)] at R
  rw [← (show cs.drop 0=(cs.drop 0).take 1 ++ cs.drop 1 from split_drop cs 0 1)] at R
  exact ⟨⟨a0,a1⟩,R,⟨w0,w1⟩⟩
def wf_46 (x:(Sl Spell)):Prop:=x.len≤9223372036854775807∧∀ i,i < x.len→wf_56 (x.get i)
theorem rd_46 {H:Type} {en:TypeId×Value→H} {w:World} {sp:Nat→Bool} {held:Bool} : Rd H en Try.prog w sp held 46 enc_46 wf_46:=rd_slice Try.underlying46 C_56 (by decide) (fun _=>rfl) rd_56
end Go.Proofs
namespace Go.Proofs
open Go Go.Pm
set_option linter.unusedVariables false
theorem s63_eq (n lo hi:Int):s63 n lo hi=decide (lo≤n∧n≤hi):=by
  unfold s63
  by_cases h1:lo≤n <;> by_cases h2:n≤hi <;> simp [h1,h2]
theorem s58_eq (n lo hi:Int):s58 n lo hi=decide (lo≤n∧n≤hi):=by
  unfold s58
  by_cases h1:lo≤n <;> by_cases h2:n≤hi <;> simp [h1,h2]
theorem s69_eq (s:Span) (lo hi:Int):s69 s lo hi=decide (lo≤s.Low∧s.Low≤s.High∧s.High≤hi):=by
  unfold s69
  rw [s63_eq]
  by_cases h1:lo≤s.Low <;> by_cases h2:s.Low≤s.High <;> by_cases h3:s.High≤hi <;> simp [h1,h2,h3]
theorem s29_eq (s:Span) (lo hi:Int):s29 s lo hi=decide (lo≤s.Low∧s.Low≤s.High∧s.High≤hi):=by
  unfold s29
  by_cases h1:lo≤s.Low <;> by_cases h2:s.Low≤s.High <;> by_cases h3:s.High≤hi <;> simp [h1,h2,h3]
theorem s94_eq (a b:Span):s94 a b=decide (a.Low≤b.Low∧a.High≤b.High):=by
  unfold s94
  by_cases h1:a.Low≤b.Low <;> by_cases h2:a.High≤b.High <;> simp [h1,h2]
theorem s104_eq (a b:Span):s104 a b=decide (b.Low≤a.Low∧b.High≤a.High):=by
  unfold s104
  rw [s94_eq]
def TRow (t:Sl RangeRow) (i:Nat):Prop:=(1≤(t.get i).Energy∧(t.get i).Energy≤1000000)∧(0≤(t.get i).Range.Low∧(t.get i).Range.Low≤(t.get i).Range.High∧(t.get i).Range.High≤1000000) ∧
  (i=0∨(t.get (i - 1)).Energy < (t.get i).Energy∧(t.get (i - 1)).Range.Low≤(t.get i).Range.Low∧(t.get (i - 1)).Range.High≤(t.get i).Range.High)
instance (t:Sl RangeRow) (i:Nat):Decidable (TRow t i):=by unfold TRow;infer_instance
def BRow (parts:Int) (t:Sl FluxRow) (i:Nat):Prop:=(1≤(t.get i).Energy∧(t.get i).Energy≤1000000)∧(0≤(t.get i).Rate.Low∧(t.get i).Rate.Low≤(t.get i).Rate.High∧(t.get i).Rate.High≤parts) ∧
  (i=0∨(t.get (i - 1)).Energy < (t.get i).Energy∧(t.get i).Rate.Low≤(t.get (i - 1)).Rate.Low∧(t.get i).Rate.High≤(t.get (i - 1)).Rate.High)
instance (parts:Int) (t:Sl FluxRow) (i:Nat):Decidable (BRow parts t i):=by unfold BRow;infer_instance
theorem s91_eq (t : Sl RangeRow) (hn : t.len ≤ 9223372036854775807) :
    p91 t 1 1000000 1000000=true∧(s91 t 1 1000000 1000000=true↔(∀ i,i < t.len→decide (TRow t i)=true)∧decide (1≤(t.len:Int)∧(t.len:Int)≤40)=true):=by
  refine all_loop (n:=t.len) (good:=fun i=>decide (TRow t i)) (lpS:=s91_lp0 t 1 1000000 1000000) (lpP:=p91_lp0 t 1 1000000 1000000) ?_ ?_ ?_ ?_ hn
  · intro k i hi
    show s91_st0 t 1 1000000 1000000 (s91_lp0 t 1 1000000 1000000 k) i=cond (decide (TRow t i)) _ _
    generalize s91_lp0 t 1 1000000 1000000 k=S
    unfold s91_st0 s91_at1 s91_at2 s91_at3
    have e0:(i:Int).toNat=i:=by omega
    have el:decide ((i:Int) < (t.len:Int))=true:=decide_eq_true (by omega)
    by_cases h0:0 < i
    · have e2 : w64 ((i : Int) - 1) = ((i - 1 : Nat) : Int) := by rw [w64_id (by omega) (by omega)]; omega
      by_cases hg:TRow t i
      all_goals
        first | rw [decide_eq_true hg] | rw [decide_eq_false hg]
        unfold TRow at hg
        simp only [s63_eq,s69_eq,s94_eq,s92,s93,e0,el,e2,Int.toNat_natCast,Bool.cond_decide,← decide_not,cond_true,cond_false]
        repeat' split
        all_goals first | rfl | (exfalso;omega)
    · have : i = 0 := by omega
      subst this
      by_cases hg:TRow t 0
      all_goals
        first | rw [decide_eq_true hg] | rw [decide_eq_false hg]
        unfold TRow at hg
        simp only [s63_eq,s69_eq,s94_eq,s92,s93,e0,el,Bool.cond_decide,← decide_not,cond_true,cond_false]
        repeat' split
        all_goals first | rfl | (exfalso;omega)
  · intro k
    show s91_st0 t 1 1000000 1000000 (s91_lp0 t 1 1000000 1000000 k) _=_
    unfold s91_st0
    rw [decide_eq_false (by omega),cond_false]
    rw [s63_eq]
  · intro k i hi
    show p91_st0 t 1 1000000 1000000 (p91_lp0 t 1 1000000 1000000 k) i=cond (decide (TRow t i)) _ _
    generalize p91_lp0 t 1 1000000 1000000 k=S
    unfold p91_st0 p91_at1 p91_at2 p91_at3
    have e0:(i:Int).toNat=i:=by omega
    have el:decide ((i:Int) < (t.len:Int))=true:=decide_eq_true (by omega)
    have e4:decide (0≤(i:Int)∧(i:Int) < (t.len:Int))=true:=decide_eq_true (by omega)
    by_cases h0:0 < i
    · have e2 : w64 ((i : Int) - 1) = ((i - 1 : Nat) : Int) := by rw [w64_id (by omega) (by omega)]; omega
      have e3:decide (0≤((i - 1:Nat):Int)∧((i - 1:Nat):Int) < (t.len:Int))=true:=decide_eq_true (by omega)
      by_cases hg:TRow t i
      all_goals
        first | rw [decide_eq_true hg] | rw [decide_eq_false hg]
        unfold TRow at hg
        simp only [s63_eq,s69_eq,s94_eq,s92,s93,e0,el,e2,Int.toNat_natCast,e3,e4,Bool.true_and,Bool.cond_decide,← decide_not,cond_true,cond_false]
        repeat' split
        all_goals first | rfl | (exfalso;omega)
    · have : i = 0 := by omega
      subst this
      by_cases hg:TRow t 0
      all_goals
        first | rw [decide_eq_true hg] | rw [decide_eq_false hg]
        unfold TRow at hg
        simp only [s63_eq,s69_eq,s94_eq,s92,s93,e0,el,e4,Bool.true_and,Bool.cond_decide,← decide_not,cond_true,cond_false]
        repeat' split
        all_goals first | rfl | (exfalso;omega)
  · intro k
    show p91_st0 t 1 1000000 1000000 (p91_lp0 t 1 1000000 1000000 k) _=_
    unfold p91_st0
    rw [decide_eq_false (by omega),cond_false]
theorem s17_eq (t : Sl RangeRow) (hn : t.len ≤ 9223372036854775807) :
    p17 t=true∧(s17 t=true↔(∀ i,i < t.len→decide (TRow t i)=true)∧decide (1≤(t.len:Int)∧(t.len:Int)≤40)=true):=by
  refine all_loop (n:=t.len) (good:=fun i=>decide (TRow t i)) (lpS:=s17_lp0 t) (lpP:=p17_lp0 t) ?_ ?_ ?_ ?_ hn
  · intro k i hi
    show s17_st0 t (s17_lp0 t k) i=cond (decide (TRow t i)) _ _
    generalize s17_lp0 t k=S
    unfold s17_st0 s17_at1
    have e0:(i:Int).toNat=i:=by omega
    have el:decide ((i:Int) < (t.len:Int))=true:=decide_eq_true (by omega)
    by_cases h0:0 < i
    · have e2 : w64 ((i : Int) - 1) = ((i - 1 : Nat) : Int) := by rw [w64_id (by omega) (by omega)]; omega
      by_cases hg:TRow t i
      all_goals
        first | rw [decide_eq_true hg] | rw [decide_eq_false hg]
        unfold TRow at hg
        simp only [s58_eq,s29_eq,e0,el,e2,Int.toNat_natCast,Bool.cond_decide,← decide_not,cond_true,cond_false]
        repeat' split
        all_goals first | rfl | (exfalso;omega)
    · have : i = 0 := by omega
      subst this
      by_cases hg:TRow t 0
      all_goals
        first | rw [decide_eq_true hg] | rw [decide_eq_false hg]
        unfold TRow at hg
        simp only [s58_eq,s29_eq,e0,el,Bool.cond_decide,← decide_not,cond_true,cond_false]
        repeat' split
        all_goals first | rfl | (exfalso;omega)
  · intro k
    show s17_st0 t (s17_lp0 t k) _=_
    unfold s17_st0
    rw [decide_eq_false (by omega),cond_false]
    rw [s58_eq]
  · intro k i hi
    show p17_st0 t (p17_lp0 t k) i=cond (decide (TRow t i)) _ _
    generalize p17_lp0 t k=S
    unfold p17_st0 p17_at1
    have e0:(i:Int).toNat=i:=by omega
    have el:decide ((i:Int) < (t.len:Int))=true:=decide_eq_true (by omega)
    have e4:decide (0≤(i:Int)∧(i:Int) < (t.len:Int))=true:=decide_eq_true (by omega)
    by_cases h0:0 < i
    · have e2 : w64 ((i : Int) - 1) = ((i - 1 : Nat) : Int) := by rw [w64_id (by omega) (by omega)]; omega
      have e3:decide (0≤((i - 1:Nat):Int)∧((i - 1:Nat):Int) < (t.len:Int))=true:=decide_eq_true (by omega)
      by_cases hg:TRow t i
      all_goals
        first | rw [decide_eq_true hg] | rw [decide_eq_false hg]
        unfold TRow at hg
        simp only [s58_eq,s29_eq,e0,el,e2,Int.toNat_natCast,e3,e4,Bool.true_and,Bool.cond_decide,← decide_not,cond_true,cond_false]
        repeat' split
        all_goals first | rfl | (exfalso;omega)
    · have : i = 0 := by omega
      subst this
      by_cases hg:TRow t 0
      all_goals
        first | rw [decide_eq_true hg] | rw [decide_eq_false hg]
        unfold TRow at hg
        simp only [s58_eq,s29_eq,e0,el,e4,Bool.true_and,Bool.cond_decide,← decide_not,cond_true,cond_false]
        repeat' split
        all_goals first | rfl | (exfalso;omega)
  · intro k
    show p17_st0 t (p17_lp0 t k) _=_
    unfold p17_st0
    rw [decide_eq_false (by omega),cond_false]
theorem s101_eq (parts : Int) (t : Sl FluxRow) (hn : t.len ≤ 9223372036854775807) :
    p101 t 1 1000000 parts=true∧(s101 t 1 1000000 parts=true↔(∀ i,i < t.len→decide (BRow parts t i)=true)∧decide (1≤(t.len:Int)∧(t.len:Int)≤40)=true):=by
  refine all_loop (n:=t.len) (good:=fun i=>decide (BRow parts t i)) (lpS:=s101_lp0 t 1 1000000 parts) (lpP:=p101_lp0 t 1 1000000 parts) ?_ ?_ ?_ ?_ hn
  · intro k i hi
    show s101_st0 t 1 1000000 parts (s101_lp0 t 1 1000000 parts k) i=cond (decide (BRow parts t i)) _ _
    generalize s101_lp0 t 1 1000000 parts k=S
    unfold s101_st0 s101_at1 s101_at2 s101_at3
    have e0:(i:Int).toNat=i:=by omega
    have el:decide ((i:Int) < (t.len:Int))=true:=decide_eq_true (by omega)
    by_cases h0:0 < i
    · have e2 : w64 ((i : Int) - 1) = ((i - 1 : Nat) : Int) := by rw [w64_id (by omega) (by omega)]; omega
      by_cases hg:BRow parts t i
      all_goals
        first | rw [decide_eq_true hg] | rw [decide_eq_false hg]
        unfold BRow at hg
        simp only [s63_eq,s69_eq,s104_eq,s102,s103,e0,el,e2,Int.toNat_natCast,Bool.cond_decide,← decide_not,cond_true,cond_false]
        repeat' split
        all_goals first | rfl | (exfalso;omega)
    · have : i = 0 := by omega
      subst this
      by_cases hg:BRow parts t 0
      all_goals
        first | rw [decide_eq_true hg] | rw [decide_eq_false hg]
        unfold BRow at hg
        simp only [s63_eq,s69_eq,s104_eq,s102,s103,e0,el,Bool.cond_decide,← decide_not,cond_true,cond_false]
        repeat' split
        all_goals first | rfl | (exfalso;omega)
  · intro k
    show s101_st0 t 1 1000000 parts (s101_lp0 t 1 1000000 parts k) _=_
    unfold s101_st0
    rw [decide_eq_false (by omega),cond_false]
    rw [s63_eq]
  · intro k i hi
    show p101_st0 t 1 1000000 parts (p101_lp0 t 1 1000000 parts k) i=cond (decide (BRow parts t i)) _ _
    generalize p101_lp0 t 1 1000000 parts k=S
    unfold p101_st0 p101_at1 p101_at2 p101_at3
    have e0:(i:Int).toNat=i:=by omega
    have el:decide ((i:Int) < (t.len:Int))=true:=decide_eq_true (by omega)
    have e4:decide (0≤(i:Int)∧(i:Int) < (t.len:Int))=true:=decide_eq_true (by omega)
    by_cases h0:0 < i
    · have e2 : w64 ((i : Int) - 1) = ((i - 1 : Nat) : Int) := by rw [w64_id (by omega) (by omega)]; omega
      have e3:decide (0≤((i - 1:Nat):Int)∧((i - 1:Nat):Int) < (t.len:Int))=true:=decide_eq_true (by omega)
      by_cases hg:BRow parts t i
      all_goals
        first | rw [decide_eq_true hg] | rw [decide_eq_false hg]
        unfold BRow at hg
        simp only [s63_eq,s69_eq,s104_eq,s102,s103,e0,el,e2,Int.toNat_natCast,e3,e4,Bool.true_and,Bool.cond_decide,← decide_not,cond_true,cond_false]
        repeat' split
        all_goals first | rfl | (exfalso;omega)
    · have : i = 0 := by omega
      subst this
      by_cases hg:BRow parts t 0
      all_goals
        first | rw [decide_eq_true hg] | rw [decide_eq_false hg]
        unfold BRow at hg
        simp only [s63_eq,s69_eq,s104_eq,s102,s103,e0,el,e4,Bool.true_and,Bool.cond_decide,← decide_not,cond_true,cond_false]
        repeat' split
        all_goals first | rfl | (exfalso;omega)
  · intro k
    show p101_st0 t 1 1000000 parts (p101_lp0 t 1 1000000 parts k) _=_
    unfold p101_st0
    rw [decide_eq_false (by omega),cond_false]
theorem s59_eq (parts : Int) (t : Sl FluxRow) (hn : t.len ≤ 9223372036854775807) :
    p59 parts t=true∧(s59 parts t=true↔(∀ i,i < t.len→decide (BRow parts t i)=true)∧(cond (decide (1≤(t.len:Int)∧(t.len:Int)≤40)) ((t.get 0).Energy == (1:Int)) false)=true):=by
  refine all_loop (n:=t.len) (good:=fun i=>decide (BRow parts t i)) (lpS:=s59_lp0 parts t) (lpP:=p59_lp0 parts t) ?_ ?_ ?_ ?_ hn
  · intro k i hi
    show s59_st0 parts t (s59_lp0 parts t k) i=cond (decide (BRow parts t i)) _ _
    generalize s59_lp0 parts t k=S
    unfold s59_st0 s59_at1
    have e0:(i:Int).toNat=i:=by omega
    have el:decide ((i:Int) < (t.len:Int))=true:=decide_eq_true (by omega)
    by_cases h0:0 < i
    · have e2 : w64 ((i : Int) - 1) = ((i - 1 : Nat) : Int) := by rw [w64_id (by omega) (by omega)]; omega
      by_cases hg:BRow parts t i
      all_goals
        first | rw [decide_eq_true hg] | rw [decide_eq_false hg]
        unfold BRow at hg
        simp only [s58_eq,s29_eq,e0,el,e2,Int.toNat_natCast,Bool.cond_decide,← decide_not,cond_true,cond_false]
        repeat' split
        all_goals first | rfl | (exfalso;omega)
    · have : i = 0 := by omega
      subst this
      by_cases hg:BRow parts t 0
      all_goals
        first | rw [decide_eq_true hg] | rw [decide_eq_false hg]
        unfold BRow at hg
        simp only [s58_eq,s29_eq,e0,el,Bool.cond_decide,← decide_not,cond_true,cond_false]
        repeat' split
        all_goals first | rfl | (exfalso;omega)
  · intro k
    show s59_st0 parts t (s59_lp0 parts t k) _=_
    unfold s59_st0
    rw [decide_eq_false (by omega),cond_false]
    rw [s58_eq]
  · intro k i hi
    show p59_st0 parts t (p59_lp0 parts t k) i=cond (decide (BRow parts t i)) _ _
    generalize p59_lp0 parts t k=S
    unfold p59_st0 p59_at1
    have e0:(i:Int).toNat=i:=by omega
    have el:decide ((i:Int) < (t.len:Int))=true:=decide_eq_true (by omega)
    have e4:decide (0≤(i:Int)∧(i:Int) < (t.len:Int))=true:=decide_eq_true (by omega)
    by_cases h0:0 < i
    · have e2 : w64 ((i : Int) - 1) = ((i - 1 : Nat) : Int) := by rw [w64_id (by omega) (by omega)]; omega
      have e3:decide (0≤((i - 1:Nat):Int)∧((i - 1:Nat):Int) < (t.len:Int))=true:=decide_eq_true (by omega)
      by_cases hg:BRow parts t i
      all_goals
        first | rw [decide_eq_true hg] | rw [decide_eq_false hg]
        unfold BRow at hg
        simp only [s58_eq,s29_eq,e0,el,e2,Int.toNat_natCast,e3,e4,Bool.true_and,Bool.cond_decide,← decide_not,cond_true,cond_false]
        repeat' split
        all_goals first | rfl | (exfalso;omega)
    · have : i = 0 := by omega
      subst this
      by_cases hg:BRow parts t 0
      all_goals
        first | rw [decide_eq_true hg] | rw [decide_eq_false hg]
        unfold BRow at hg
        simp only [s58_eq,s29_eq,e0,el,e4,Bool.true_and,Bool.cond_decide,← decide_not,cond_true,cond_false]
        repeat' split
        all_goals first | rfl | (exfalso;omega)
  · intro k
    show p59_st0 parts t (p59_lp0 parts t k) _=_
    unfold p59_st0
    rw [decide_eq_false (by omega),cond_false]
    rw [s58_eq]
    by_cases h:1≤(t.len:Int)∧(t.len:Int)≤40
    · rw [decide_eq_true h,decide_eq_true (by omega)];rfl
    · rw [decide_eq_false h];rfl
def TOk (t:Sl RangeRow):Prop:=(1≤(t.len:Int)∧(t.len:Int)≤40)∧∀ i,i < t.len→TRow t i
def BOk (parts:Int) (t:Sl FluxRow):Prop:=(1≤(t.len:Int)∧(t.len:Int)≤40)∧(t.get 0).Energy=1∧∀ i,i < t.len→BRow parts t i
def SOk (s:Sky):Prop:=((2≤s.Parts∧s.Parts≤1000000)∧(1≤(s.Bins.len:Int)∧(s.Bins.len:Int)≤20)∧(-100≤s.Beta.Low∧s.Beta.Low≤s.Beta.High∧s.Beta.High≤100)∧(-100≤s.Alpha.Low∧s.Alpha.Low≤s.Alpha.High∧s.Alpha.High≤100))∧∀ i,i < s.Bins.len→BOk s.Parts (s.Bins.get i)
theorem s62_ok (t:Sl RangeRow) (hn:t.len≤9223372036854775807):p62 t=true∧(s62 t=true↔TOk t):=by
  obtain ⟨h1,h2⟩:=s91_eq t hn
  unfold p62 s62 TOk
  rw [h1]
  refine ⟨rfl,h2.trans ?_⟩
  simp only [decide_eq_true_eq]
  exact And.comm
theorem s17_ok (t:Sl RangeRow) (hn:t.len≤9223372036854775807):p17 t=true∧s17 t=s62 t:=by
  obtain ⟨h1,h2⟩:=s17_eq t hn
  refine ⟨h1,Bool.eq_iff_iff.2 (h2.trans ((s62_ok t hn).2.trans ?_).symm)⟩
  unfold TOk
  simp only [decide_eq_true_eq]
  exact And.comm
theorem s101_ok (parts:Int) (t:Sl FluxRow) (hn:t.len≤9223372036854775807):p101 t 1 1000000 parts=true∧((s101 t 1 1000000 parts && (t.get 0).Energy == 1)=true↔BOk parts t)∧(s101 t 1 1000000 parts=true→0 < t.len):=by
  obtain ⟨h1,h2⟩:=s101_eq parts t hn
  refine ⟨h1,?_,fun h=>?_⟩
  · rw [Bool.and_eq_true, h2]
    unfold BOk
    simp only [decide_eq_true_eq,beq_iff_eq]
    exact ⟨fun h=>⟨h.1.2,h.2,h.1.1⟩,fun h=>⟨⟨h.2.2,h.1⟩,h.2.1⟩⟩
  · have := of_decide_eq_true (h2.1 h).2
    omega
theorem s59_ok (parts:Int) (t:Sl FluxRow) (hn:t.len≤9223372036854775807):p59 parts t=true∧(s59 parts t=true↔BOk parts t):=by
  obtain ⟨h1,h2⟩:=s59_eq parts t hn
  refine ⟨h1,h2.trans ?_⟩
  unfold BOk
  simp only [decide_eq_true_eq,Bool.cond_decide,Bool.if_false_right,Bool.and_eq_true,beq_iff_eq]
  exact ⟨fun h=>⟨h.2.1,h.2.2,h.1⟩,fun h=>⟨h.2.2,h.1,h.2.1⟩⟩
end Go.Proofs
