/- Proved: AlignMerges, the card's statement: the program's merged net of any net is the reference's, or the errors are; the same values agree with both. No condition but the statement's own. -/
import Derived.Test.YtedhjaaikeakoaaDoorQ7
import Derived.Test.YtedhjaaikeakoaaDoorRows
import Derived.Test.YtedhjaaikeakoaaDoorCards
import Derived.WalkKit
import Derived.ProofKit
import Derived.OpenShut
import Derived.ShutString
import Derived.ChangeOld
import Derived.Below
set_option linter.all false
namespace Go.Proofs.YtedhjaaikeakoaaDoor
open Go.ChangeShapes Go.WideShapes Go.ChangeAt Go.RowKit Go.Pm
open Go.ChangeMaps (open_string shut_string)
set_option linter.unusedVariables false
attribute [local irreducible] Go.Pm.vcFun Go.Pm.vc Go.Pm.vcIter
theorem law19 (a0:Net) (a1:(Sl Int)) (w0:wf_24 a0) (w1:wf_27 a1):p19 a0 a1=true/\s19 a0 a1=true:=merges_true a0 a1

theorem own:ownKnob Tryd.prog.godebug=none:=by kernel_rfl
theorem laidOut:laidOutB Tryd.prog=true:=by kernel_rfl
set_option maxRecDepth 100000 in
theorem lifted (os : Os) (started : os.Started) (H : Type) (enc : TypeId × Value → H) :
    ReturnsInHanded {} Tryd.checked os 19 .any (fun w args => (Rows.alignMergesSpec.pre enc Tryd.prog Tryd.f19 [] false w args ∧ laidMetH Tryd.prog laid1 w) ∧ sizedMet enc Tryd.prog Tryd.f19 (OpenSpec.ofChange Rows.alignMergesSpec) false w args)
      (Rows.alignMergesSpec.post enc Tryd.prog Tryd.f19 false true false false):=by
  refine returnsInHanded_of_change_and (C := Tryd.checked) (X := fun w _ => laidMetH Tryd.prog laid1 w) (fun _ _ _ hh h => h.of_heap hh) own started (by kernel_rfl) Tryd.func19
    (ChangeSpec.witness_shaped (enc:=enc) (C:=Tryd.checked) (os:=os) (X:=λ w _=>laidMetH Tryd.prog laid1 w) false (World.doorLaid Tryd.prog 400 os) #[.agg #[.int .i64 0,.slice none 0 0],.slice none 0 0] 8 rfl (World.shaped_of_RefB (by kernel_rfl) (by kernel_rfl)) (by kernel_rfl) (by kernel_rfl) (by kernel_rfl) (door_met os _)) ?_
  intro W base args ds gs before hval0 hW _ _ hL _
  have hval:∀ (j:Nat) t v,Tryd.f19.params[j]? = some t->args[j]? = some v->Value.okWide Tryd.prog W .any base t v:=hval0
  have hW':=hW
  obtain⟨p,q,hA0,hV,rfl,hfz,hnd⟩:=hW
  have hA:DataW.TrodAll enc Tryd.prog W 0 (λ _=>true) true Tryd.f19.params.toList args.toList ds p:=hA0
  rw[Tryd.params19] at hA hval
  obtain⟨v0,vs0,d0,ds0,p0,q0,hargs,rfl,rfl,h0,r0⟩:=trodAll_cons hA
  obtain⟨v1,vs1,d1,ds1,p1,q1,rfl,rfl,rfl,h1,r1⟩:=trodAll_cons r0
  obtain⟨rfl,rfl,rfl⟩:=trodAll_nil r1
  obtain rfl:args = #[v0,v1]:=by cases args;simp_all
  obtain⟨rfl,rfl⟩:=trodVars_none hV
  have k0:=h0
  have lt0:∀ x∈p0,x.block < W.heap.size:=by obtain⟨m,hm⟩:=k0;exact DataW.trod_lt m _ _ _ hm
  obtain⟨fu0,gg0⟩:=h0
  obtain⟨a0,rr0,w0⟩:=rd_24 _ _ _ gg0
  have P0:paR (H0 W) (.agg (enc_24 a0)) v0:=pa_agg (okWide_agg Tryd.underlying24 (hval 0 24 v0 rfl rfl)) rr0
  have k1:=h1
  have lt1:∀ x∈p1,x.block < W.heap.size:=by obtain⟨m,hm⟩:=k1;exact DataW.trod_lt m _ _ _ hm
  obtain⟨fu1,gg1⟩:=h1
  obtain⟨a1,rr1,w1⟩:=rd_27 _ _ _ gg1
  have P1:paR (H0 W) (.one (.sl a1.len 1 (λ i=>enc_3 (a1.get i)))) v1:=pa_one (okWide_one Tryd.underlying27 (by decide) (hval 1 27 v1 rfl rfl)) rr1
  clear hA0 hval0
  obtain⟨hp,hs⟩:=law19 a0 a1 w0 w1
  have hk:(λ rs:List PA=>rs=[.one (.bool true)]) [.one (.bool (s19 a0 a1))]:=by rw[hs]
  have hrun:=(ok19 [.agg [.int .i64 a0.Nodes,.sl a0.Ties.len 4 (λ i=>enc_40 (a0.Ties.get i))],.one (.sl a1.len 1 (λ i=>enc_3 (a1.get i)))] (λ rs=>rs=[.one (.bool true)]) ⟨⟨isE,isE,hp⟩,hk⟩ W (H0 W) [v0,v1] ⟨P0,P1,trivial⟩ (hw_H0 W) (gl_of hL)).2
  refine hrun.mono λ e W' ⟨h',rs,v,hrs,he,hres,hb,_,_,_⟩=>?_
  subst hrs
  subst he
  have hv:v=.bool true:=by
    have hv:Rep h' (.bool true) v:=hres
    cases hv;rfl
  subst hv
  have bel:Below W.heap.size W W':=below_H0 hb
  exact⟨_,rfl,_,_,_,[],_,[],hW',trodAll_mk1 (shut_bool Tryd.underlying4 _),(trodAll_cons_mk (Below.trod laidOut (by kernel_rfl) (of_decide_eq_true (by kernel_rfl)) k0 bel lt0) (trodAll_cons_mk (Below.trod laidOut (by kernel_rfl) (of_decide_eq_true (by kernel_rfl)) k1 bel lt1) trodAll_mk0)),rfl,bel.frame _,λ h=>by cases h⟩
theorem closed:joinedFacts Tryd.prog 19 Tryd.f19 Rows.alignMergesSpec Rows.alignMergesRow=true:=by
 unfold joinedFacts
 rw[ioE,ioK,ioF]
 kernel_rfl
theorem over:Rows.alignMergesRow.holds Tryd.pinned (OpenSpec.ofChange Rows.alignMergesSpec) :=
  OpenClaim.holds_of_wide 19 Tryd.f19 rfl rfl rfl rfl rfl rfl rfl ⟨rfl, rfl, rfl, rfl, rfl⟩ rfl rfl rfl rfl rfl (by kernel_rfl) Tryd.func19 closed
    (of_decide_eq_true (by kernel_rfl)) (by unfold Func.isWrapper;first | (rw[if_pos (by decide +kernel)];kernel_rfl) | (rw[if_neg (by decide +kernel)];exact⟨rfl,rfl⟩))
    (λ os started H enc _=>lifted os started H enc)
theorem card:Rows.AlignMergesCardSaid :=
  Claim7.holds_tied_plain_at .later [] [.data] true (true, "5097d02014b7f9bdc457588f16a61179f96daee4a085c0a2c5462d863db43dbf") true
    over (λ _ h=>by cases h) (by kernel_rfl) (λ _ h=>by cases h) alignMerges_row_tie rfl ⟨rfl,rfl⟩ ioM rfl
    (λ f fn hf hfn=>by
      obtain rfl : f = 19 := Option.some.inj ((show Tryd.prog.funcNamed "overburden/overburdenlaw03.AlignMerges" = some 19 by kernel_rfl).symm.trans hf) |>.symm
      obtain rfl:fn=Tryd.f19:=(Option.some.inj (Tryd.func19.symm.trans hfn)).symm
      exact⟨by kernel_rfl,λ j t ht=>by
        rw[Tryd.params19] at ht
        have hm:t∈[24,27]:=by simpa using Array.mem_of_getElem? ht
        have hall:([24,27].all λ u=>!Tryd.prog.wantsStandIn u)=true:=by kernel_rfl
        exact (show Tryd.prog.wantsStandIn t=false by simpa using List.all_eq_true.1 hall t hm)⟩)
    (by kernel_rfl)
theorem proved:Rows.AlignMergesCardSaid:=card

end Go.Proofs.YtedhjaaikeakoaaDoor
