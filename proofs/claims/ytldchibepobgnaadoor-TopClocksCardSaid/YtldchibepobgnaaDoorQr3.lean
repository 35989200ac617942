/- the theorem of clocks holds: whatever the clocks of the planes are in truth, muons narrow what is known, and the clocks of truth remain -/
import Derived.Test.YtldchibepobgnaaDoorQ7
import Derived.Test.YtldchibepobgnaaDoorRows
import Derived.Test.YtldchibepobgnaaDoorCards
import Derived.WalkKit
import Derived.ProofKit
import Derived.OpenShut
import Derived.ShutString
import Derived.ChangeOld
import Derived.Below
set_option linter.all false
namespace Go.Proofs.YtldchibepobgnaaDoor
open Go.ChangeShapes Go.WideShapes Go.ChangeAt Go.RowKit Go.Pm
open Go.ChangeMaps (open_string shut_string)
set_option linter.unusedVariables false
attribute [local irreducible] Go.Pm.vcFun Go.Pm.vc Go.Pm.vcIter
theorem law3 (a0:Setup) (a1:(Sl Int)) (a2:(Sl Flown)) (a3:Int) (w0:wf_24 a0) (w1:wf_25 a1) (w2:wf_26 a2) (w3:wf_3 a3):p3 a0 a1 a2 a3=true/\s3 a0 a1 a2 a3=true:=clocks_true a0 a1 a2 a3 w0

theorem own:ownKnob Tryd.prog.godebug=none:=by kernel_rfl
theorem laidOut:laidOutB Tryd.prog=true:=by kernel_rfl
set_option maxRecDepth 100000 in
theorem lifted (os : Os) (started : os.Started) (H : Type) (enc : TypeId × Value → H) :
    ReturnsInHanded {} Tryd.checked os 3 .any (fun w args => (Rows.topClocksSpec.pre enc Tryd.prog Tryd.f3 [] false w args ∧ laidMetH Tryd.prog laid1 w) ∧ sizedMet enc Tryd.prog Tryd.f3 (OpenSpec.ofChange Rows.topClocksSpec) false w args)
      (Rows.topClocksSpec.post enc Tryd.prog Tryd.f3 false true false false):=by
  refine returnsInHanded_of_change_and (C := Tryd.checked) (X := fun w _ => laidMetH Tryd.prog laid1 w) (fun _ _ _ hh h => h.of_heap hh) own started (by kernel_rfl) Tryd.func3
    (ChangeSpec.witness_shaped (enc:=enc) (C:=Tryd.checked) (os:=os) (X:=λ w _=>laidMetH Tryd.prog laid1 w) false (World.doorLaid Tryd.prog 400 os) #[.agg #[.slice none 0 0],.slice none 0 0,.slice none 0 0,.int .i64 0] 8 rfl (World.shaped_of_RefB (by kernel_rfl) (by kernel_rfl)) (by kernel_rfl) (by kernel_rfl) (by kernel_rfl) (door_met os _)) ?_
  intro W base args ds gs before hval0 hW _ _ hL _
  have hval:∀ (j:Nat) t v,Tryd.f3.params[j]? = some t->args[j]? = some v->Value.okWide Tryd.prog W .any base t v:=hval0
  have hW':=hW
  obtain⟨p,q,hA0,hV,rfl,hfz,hnd⟩:=hW
  have hA:DataW.TrodAll enc Tryd.prog W 0 (λ _=>true) true Tryd.f3.params.toList args.toList ds p:=hA0
  rw[Tryd.params3] at hA hval
  obtain⟨v0,vs0,d0,ds0,p0,q0,hargs,rfl,rfl,h0,r0⟩:=trodAll_cons hA
  obtain⟨v1,vs1,d1,ds1,p1,q1,rfl,rfl,rfl,h1,r1⟩:=trodAll_cons r0
  obtain⟨v2,vs2,d2,ds2,p2,q2,rfl,rfl,rfl,h2,r2⟩:=trodAll_cons r1
  obtain⟨v3,vs3,d3,ds3,p3,q3,rfl,rfl,rfl,h3,r3⟩:=trodAll_cons r2
  obtain⟨rfl,rfl,rfl⟩:=trodAll_nil r3
  obtain rfl:args = #[v0,v1,v2,v3]:=by cases args;simp_all
  obtain⟨rfl,rfl⟩:=trodVars_none hV
  have k0:=h0
  have lt0:∀ x∈p0,x.block < W.heap.size:=by obtain⟨m,hm⟩:=k0;exact DataW.trod_lt m _ _ _ hm
  obtain⟨fu0,gg0⟩:=h0
  obtain⟨a0,rr0,w0⟩:=rd_24 _ _ _ gg0
  have P0:paR (H0 W) (.agg (enc_24 a0)) v0:=pa_agg (okWide_agg Tryd.underlying24 (hval 0 24 v0 rfl rfl)) rr0
  have k1:=h1
  have lt1:∀ x∈p1,x.block < W.heap.size:=by obtain⟨m,hm⟩:=k1;exact DataW.trod_lt m _ _ _ hm
  obtain⟨fu1,gg1⟩:=h1
  obtain⟨a1,rr1,w1⟩:=rd_25 _ _ _ gg1
  have P1:paR (H0 W) (.one (.sl a1.len 1 (λ i=>enc_3 (a1.get i)))) v1:=pa_one (okWide_one Tryd.underlying25 (by decide) (hval 1 25 v1 rfl rfl)) rr1
  have k2:=h2
  have lt2:∀ x∈p2,x.block < W.heap.size:=by obtain⟨m,hm⟩:=k2;exact DataW.trod_lt m _ _ _ hm
  obtain⟨fu2,gg2⟩:=h2
  obtain⟨a2,rr2,w2⟩:=rd_26 _ _ _ gg2
  have P2:paR (H0 W) (.one (.sl a2.len 6 (λ i=>enc_39 (a2.get i)))) v2:=pa_one (okWide_one Tryd.underlying26 (by decide) (hval 2 26 v2 rfl rfl)) rr2
  have k3:=h3
  have lt3:∀ x∈p3,x.block < W.heap.size:=by obtain⟨m,hm⟩:=k3;exact DataW.trod_lt m _ _ _ hm
  obtain⟨fu3,gg3⟩:=h3
  obtain⟨a3,rr3,w3⟩:=rd_3 _ _ _ gg3
  have P3:paR (H0 W) (.one (.int .i64 a3)) v3:=pa_one (okWide_one Tryd.underlying3 (by decide) (hval 3 3 v3 rfl rfl)) rr3
  clear hA0 hval0
  obtain⟨hp,hs⟩:=law3 a0 a1 a2 a3 w0 w1 w2 w3
  have hk:(λ rs:List PA=>rs=[.one (.bool true)]) [.one (.bool (s3 a0 a1 a2 a3))]:=by rw[hs]
  have hrun:=(ok3 [.agg [.sl a0.Planes.len 15 (λ i=>enc_35 (a0.Planes.get i))],.one (.sl a1.len 1 (λ i=>enc_3 (a1.get i))),.one (.sl a2.len 6 (λ i=>enc_39 (a2.get i))),.one (.int .i64 a3)] (λ rs=>rs=[.one (.bool true)]) ⟨⟨isE,isE,isE,hp⟩,hk⟩ W (H0 W) [v0,v1,v2,v3] ⟨P0,P1,P2,P3,trivial⟩ (hw_H0 W) (gl_of hL)).2
  refine hrun.mono λ e W' ⟨h',rs,v,hrs,he,hres,hb,_,_,_⟩=>?_
  subst hrs
  subst he
  have hv:v=.bool true:=by
    have hv:Rep h' (.bool true) v:=hres
    cases hv;rfl
  subst hv
  have bel:Below W.heap.size W W':=below_H0 hb
  exact⟨_,rfl,_,_,_,[],_,[],hW',trodAll_mk1 (shut_bool Tryd.underlying4 _),(trodAll_cons_mk (Below.trod laidOut (by kernel_rfl) (of_decide_eq_true (by kernel_rfl)) k0 bel lt0) (trodAll_cons_mk (Below.trod laidOut (by kernel_rfl) (of_decide_eq_true (by kernel_rfl)) k1 bel lt1) (trodAll_cons_mk (Below.trod laidOut (by kernel_rfl) (of_decide_eq_true (by kernel_rfl)) k2 bel lt2) (trodAll_cons_mk (Below.trod laidOut (by kernel_rfl) (of_decide_eq_true (by kernel_rfl)) k3 bel lt3) trodAll_mk0)))),rfl,bel.frame _,λ h=>by cases h⟩
theorem closed:joinedFacts Tryd.prog 3 Tryd.f3 Rows.topClocksSpec Rows.topClocksRow=true:=by
 unfold joinedFacts
 rw[ioE,ioK,ioF]
 kernel_rfl
theorem over:Rows.topClocksRow.holds Tryd.pinned (OpenSpec.ofChange Rows.topClocksSpec) :=
  OpenClaim.holds_of_wide 3 Tryd.f3 rfl rfl rfl rfl rfl rfl rfl ⟨rfl, rfl, rfl, rfl, rfl⟩ rfl rfl rfl rfl rfl (by kernel_rfl) Tryd.func3 closed
    (of_decide_eq_true (by kernel_rfl)) (by unfold Func.isWrapper;first | (rw[if_pos (by decide +kernel)];kernel_rfl) | (rw[if_neg (by decide +kernel)];exact⟨rfl,rfl⟩))
    (λ os started H enc _=>lifted os started H enc)
theorem card:Rows.TopClocksCardSaid :=
  Claim7.holds_tied_plain_at .later [] [.data] true (true, "0ee2cee5cbe110d46606f48aae4a85d8ffa3962fbd3c4f914a8f9a49086f8d81") false
    over (λ _ h=>by cases h) (by kernel_rfl) (λ _ h=>by cases h) topClocks_row_tie rfl ⟨rfl,rfl⟩ ioM rfl
    (λ f fn hf hfn=>by
      obtain rfl : f = 3 := Option.some.inj ((show Tryd.prog.funcNamed "overburden/overburdentop.TopClocks" = some 3 by kernel_rfl).symm.trans hf) |>.symm
      obtain rfl:fn=Tryd.f3:=(Option.some.inj (Tryd.func3.symm.trans hfn)).symm
      exact⟨by kernel_rfl,λ j t ht=>by
        rw[Tryd.params3] at ht
        have hm:t∈[24,25,26,3]:=by simpa using Array.mem_of_getElem? ht
        have hall:([24,25,26,3].all λ u=>!Tryd.prog.wantsStandIn u)=true:=by kernel_rfl
        exact (show Tryd.prog.wantsStandIn t=false by simpa using List.all_eq_true.1 hall t hm)⟩)
    (by kernel_rfl)
theorem proved:Rows.TopClocksCardSaid:=card

end Go.Proofs.YtldchibepobgnaaDoor
