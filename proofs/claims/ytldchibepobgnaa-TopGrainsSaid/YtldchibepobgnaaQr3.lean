/- TopGrains is true of every input: where the tracker without a gap tells a track, the grains up to there are a hit of the film, unless a channel is dead. -/
import Derived.Test.YtldchibepobgnaaQ7
import Derived.Test.YtldchibepobgnaaRows
import Derived.WalkKit
import Derived.ProofKit
import Derived.OpenShut
import Derived.ShutString
import Derived.ChangeOld
import Derived.Below
set_option linter.all false
namespace Go.Proofs.Ytldchibepobgnaa
open Go.ChangeShapes Go.WideShapes Go.ChangeAt Go.RowKit Go.Pm
open Go.ChangeMaps (open_string shut_string)
set_option linter.unusedVariables false
attribute [local irreducible] Go.Pm.vcFun Go.Pm.vc Go.Pm.vcIter
theorem law3 (a0:Setup) (a1:Int) (a2:(Sl Bool)) (a3:Int) (a4:Int) (w0:wf_24 a0) (w1:wf_3 a1) (w2:wf_25 a2) (w3:wf_3 a3) (w4:wf_3 a4):p3 a0 a1 a2 a3 a4=true/\s3 a0 a1 a2 a3 a4=true:=grains_true a0 a1 a2 a3 a4 w0

theorem own:ownKnob Try.prog.godebug=none:=by kernel_rfl
theorem laidOut:laidOutB Try.prog=true:=by kernel_rfl
set_option maxRecDepth 100000 in
theorem lifted (os : Os) (started : os.Started) (H : Type) (enc : TypeId × Value → H) :
    ReturnsInHanded {} Try.checked os 3 .any (Rows.topGrainsSpec.pre6 enc Try.prog Try.f3 Rows.topGrainsRow.domain false) (Rows.topGrainsSpec.post enc Try.prog Try.f3 false true false false):=by
  refine returnsInHanded_of_change (C := Try.checked) own started (by kernel_rfl) Try.func3
    (ChangeSpec.witness6 (enc:=enc) (C:=Try.checked) false ⟨#[],#[.agg #[.slice none 0 0],.int .i64 0,.slice none 0 0,.int .i64 0,.int .i64 0],[]⟩ 8 (by kernel_rfl) (by kernel_rfl) (by kernel_rfl) (by kernel_rfl)) ?_
  intro W base args ds gs before hval0 hW hcnd _
  have hval:∀ (j:Nat) t v,Try.f3.params[j]? = some t->args[j]? = some v->Value.okWide Try.prog W .any base t v:=hval0
  have hW':=hW
  obtain⟨p,q,hA0,hV,rfl,hfz,hnd⟩:=hW
  have hA:DataW.TrodAll enc Try.prog W 0 (λ _=>true) true Try.f3.params.toList args.toList ds p:=hA0
  rw[Try.params3] at hA hval
  obtain⟨v0,vs0,d0,ds0,p0,q0,hargs,rfl,rfl,h0,r0⟩:=trodAll_cons hA
  obtain⟨v1,vs1,d1,ds1,p1,q1,rfl,rfl,rfl,h1,r1⟩:=trodAll_cons r0
  obtain⟨v2,vs2,d2,ds2,p2,q2,rfl,rfl,rfl,h2,r2⟩:=trodAll_cons r1
  obtain⟨v3,vs3,d3,ds3,p3,q3,rfl,rfl,rfl,h3,r3⟩:=trodAll_cons r2
  obtain⟨v4,vs4,d4,ds4,p4,q4,rfl,rfl,rfl,h4,r4⟩:=trodAll_cons r3
  obtain⟨rfl,rfl,rfl⟩:=trodAll_nil r4
  obtain rfl:args = #[v0,v1,v2,v3,v4]:=by cases args;simp_all
  obtain⟨rfl,rfl⟩:=trodVars_none hV
  have k0:=h0
  have lt0:∀ x∈p0,x.block < W.heap.size:=by obtain⟨m,hm⟩:=k0;exact DataW.trod_lt m _ _ _ hm
  obtain⟨fu0,gg0⟩:=h0
  obtain⟨a0,rr0,w0⟩:=rd_24 _ _ _ gg0
  have P0:paR (H0 W) (.agg (enc_24 a0)) v0:=pa_agg (okWide_agg Try.underlying24 (hval 0 24 v0 rfl rfl)) rr0
  have k1:=h1
  have lt1:∀ x∈p1,x.block < W.heap.size:=by obtain⟨m,hm⟩:=k1;exact DataW.trod_lt m _ _ _ hm
  obtain⟨fu1,gg1⟩:=h1
  obtain⟨a1,rr1,w1⟩:=rd_3 _ _ _ gg1
  have P1:paR (H0 W) (.one (.int .i64 a1)) v1:=pa_one (okWide_one Try.underlying3 (by decide) (hval 1 3 v1 rfl rfl)) rr1
  have k2:=h2
  have lt2:∀ x∈p2,x.block < W.heap.size:=by obtain⟨m,hm⟩:=k2;exact DataW.trod_lt m _ _ _ hm
  obtain⟨fu2,gg2⟩:=h2
  obtain⟨a2,rr2,w2⟩:=rd_25 _ _ _ gg2
  have P2:paR (H0 W) (.one (.sl a2.len 1 (λ i=>enc_4 (a2.get i)))) v2:=pa_one (okWide_one Try.underlying25 (by decide) (hval 2 25 v2 rfl rfl)) rr2
  have k3:=h3
  have lt3:∀ x∈p3,x.block < W.heap.size:=by obtain⟨m,hm⟩:=k3;exact DataW.trod_lt m _ _ _ hm
  obtain⟨fu3,gg3⟩:=h3
  obtain⟨a3,rr3,w3⟩:=rd_3 _ _ _ gg3
  have P3:paR (H0 W) (.one (.int .i64 a3)) v3:=pa_one (okWide_one Try.underlying3 (by decide) (hval 3 3 v3 rfl rfl)) rr3
  have k4:=h4
  have lt4:∀ x∈p4,x.block < W.heap.size:=by obtain⟨m,hm⟩:=k4;exact DataW.trod_lt m _ _ _ hm
  obtain⟨fu4,gg4⟩:=h4
  obtain⟨a4,rr4,w4⟩:=rd_3 _ _ _ gg4
  have P4:paR (H0 W) (.one (.int .i64 a4)) v4:=pa_one (okWide_one Try.underlying3 (by decide) (hval 4 3 v4 rfl rfl)) rr4
  clear hA0 hval0
  obtain⟨hp,hs⟩:=law3 a0 a1 a2 a3 a4 w0 w1 w2 w3 w4
  have hk:(λ rs:List PA=>rs=[.one (.bool true)]) [.one (.bool (s3 a0 a1 a2 a3 a4))]:=by rw[hs]
  have hrun:=(ok3 [.agg [.sl a0.Planes.len 15 (λ i=>enc_34 (a0.Planes.get i))],.one (.int .i64 a1),.one (.sl a2.len 1 (λ i=>enc_4 (a2.get i))),.one (.int .i64 a3),.one (.int .i64 a4)] (λ rs=>rs=[.one (.bool true)]) ⟨⟨isE,isE,hp⟩,hk⟩ W (H0 W) [v0,v1,v2,v3,v4] ⟨P0,P1,P2,P3,P4,trivial⟩ (hw_H0 W) (λ _ _ h=>by cases h)).2
  refine hrun.mono λ e W' ⟨h',rs,v,hrs,he,hres,hb,_,_,_⟩=>?_
  subst hrs
  subst he
  have hv:v=.bool true:=by
    have hv:Rep h' (.bool true) v:=hres
    cases hv;rfl
  subst hv
  have bel:Below W.heap.size W W':=below_H0 hb
  exact⟨_,rfl,_,_,_,[],_,[],hW',trodAll_mk1 (shut_bool Try.underlying4 _),(trodAll_cons_mk (Below.trod laidOut (by kernel_rfl) (of_decide_eq_true (by kernel_rfl)) k0 bel lt0) (trodAll_cons_mk (Below.trod laidOut (by kernel_rfl) (of_decide_eq_true (by kernel_rfl)) k1 bel lt1) (trodAll_cons_mk (Below.trod laidOut (by kernel_rfl) (of_decide_eq_true (by kernel_rfl)) k2 bel lt2) (trodAll_cons_mk (Below.trod laidOut (by kernel_rfl) (of_decide_eq_true (by kernel_rfl)) k3 bel lt3) (trodAll_cons_mk (Below.trod laidOut (by kernel_rfl) (of_decide_eq_true (by kernel_rfl)) k4 bel lt4) trodAll_mk0))))),rfl,bel.frame _,λ h=>by cases h⟩
theorem over:Rows.topGrainsRow.holds Try.pinned (OpenSpec.ofChange Rows.topGrainsSpec) :=
  OpenClaim.holds_of_wide 3 Try.f3 rfl rfl rfl rfl rfl rfl rfl ⟨rfl, rfl, rfl, rfl, rfl⟩ rfl rfl rfl rfl rfl (by kernel_rfl) Try.func3 (by kernel_rfl)
    (of_decide_eq_true (by kernel_rfl)) (by unfold Func.isWrapper;first | (rw[if_pos (by decide +kernel)];kernel_rfl) | (rw[if_neg (by decide +kernel)];exact⟨rfl,rfl⟩))
    (λ os started H enc _=>lifted os started H enc)
theorem proved:Rows.TopGrainsSaid:=over

end Go.Proofs.Ytldchibepobgnaa
