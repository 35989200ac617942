/- LineMost: the law answers true for every input and leaves its arguments as they were. No condition. -/
import Derived.Test.YtkilnbolehhcnaaGreatQ7
import Derived.Test.YtkilnbolehhcnaaGreatRows
import Derived.WalkKit
import Derived.ProofKit
import Derived.OpenShut
import Derived.ShutString
import Derived.ChangeOld
import Derived.Below
set_option linter.all false
namespace Go.Proofs.YtkilnbolehhcnaaGreat
open Go.ChangeShapes Go.WideShapes Go.ChangeAt Go.RowKit Go.Pm
open Go.ChangeMaps (open_string shut_string)
set_option linter.unusedVariables false
attribute [local irreducible] Go.Pm.vcFun Go.Pm.vc Go.Pm.vcIter
theorem law3 (a0:(Sl Gate)) (a1:Int) (w0:wf_22 a0) (w1:wf_3 a1):p3 a0 a1=true/\s3 a0 a1=true:=most_true a0 a1 w0

theorem own:ownKnob Tryz.prog.godebug=none:=by kernel_rfl
theorem laidOut:laidOutB Tryz.prog=true:=by kernel_rfl
set_option maxRecDepth 100000 in
theorem lifted (os : Os) (started : os.Started) (H : Type) (enc : TypeId × Value → H) :
    ReturnsInHanded {} Tryz.checked os 3 .any (Rows.lineMostSpec.pre6 enc Tryz.prog Tryz.f3 Rows.lineMostRow.domain false) (Rows.lineMostSpec.post enc Tryz.prog Tryz.f3 false true false false):=by
  refine returnsInHanded_of_change (C := Tryz.checked) own started (by kernel_rfl) Tryz.func3
    (ChangeSpec.witness6 (enc:=enc) (C:=Tryz.checked) false ⟨#[],#[.slice none 0 0,.int .i64 0],[]⟩ 8 (by kernel_rfl) (by kernel_rfl) (by kernel_rfl) (by kernel_rfl)) ?_
  intro W base args ds gs before hval0 hW hcnd _
  have hval:∀ (j:Nat) t v,Tryz.f3.params[j]? = some t->args[j]? = some v->Value.okWide Tryz.prog W .any base t v:=hval0
  have hW':=hW
  obtain⟨p,q,hA0,hV,rfl,hfz,hnd⟩:=hW
  have hA:DataW.TrodAll enc Tryz.prog W 0 (λ _=>true) true Tryz.f3.params.toList args.toList ds p:=hA0
  rw[Tryz.params3] at hA hval
  obtain⟨v0,vs0,d0,ds0,p0,q0,hargs,rfl,rfl,h0,r0⟩:=trodAll_cons hA
  obtain⟨v1,vs1,d1,ds1,p1,q1,rfl,rfl,rfl,h1,r1⟩:=trodAll_cons r0
  obtain⟨rfl,rfl,rfl⟩:=trodAll_nil r1
  obtain rfl:args = #[v0,v1]:=by cases args;simp_all
  obtain⟨rfl,rfl⟩:=trodVars_none hV
  have k0:=h0
  have lt0:∀ x∈p0,x.block < W.heap.size:=by obtain⟨m,hm⟩:=k0;exact DataW.trod_lt m _ _ _ hm
  obtain⟨fu0,gg0⟩:=h0
  obtain⟨a0,rr0,w0⟩:=rd_22 _ _ _ gg0
  have P0:paR (H0 W) (.one (.sl a0.len 3 (λ i=>enc_48 (a0.get i)))) v0:=pa_one (okWide_one Tryz.underlying22 (by decide) (hval 0 22 v0 rfl rfl)) rr0
  have k1:=h1
  have lt1:∀ x∈p1,x.block < W.heap.size:=by obtain⟨m,hm⟩:=k1;exact DataW.trod_lt m _ _ _ hm
  obtain⟨fu1,gg1⟩:=h1
  obtain⟨a1,rr1,w1⟩:=rd_3 _ _ _ gg1
  have P1:paR (H0 W) (.one (.int .i64 a1)) v1:=pa_one (okWide_one Tryz.underlying3 (by decide) (hval 1 3 v1 rfl rfl)) rr1
  clear hA0 hval0
  obtain⟨hp,hs⟩:=law3 a0 a1 w0 w1
  have hk:(λ rs:List PA=>rs=[.one (.bool true)]) [.one (.bool (s3 a0 a1))]:=by rw[hs]
  have hrun:=(ok3 [.one (.sl a0.len 3 (λ i=>enc_48 (a0.get i))),.one (.int .i64 a1)] (λ rs=>rs=[.one (.bool true)]) ⟨⟨isE,hp⟩,hk⟩ W (H0 W) [v0,v1] ⟨P0,P1,trivial⟩ (hw_H0 W) (λ _ _ h=>by cases h)).2
  refine hrun.mono λ e W' ⟨h',rs,v,hrs,he,hres,hb,_,_,_⟩=>?_
  subst hrs
  subst he
  have hv:v=.bool true:=by
    have hv:Rep h' (.bool true) v:=hres
    cases hv;rfl
  subst hv
  have bel:Below W.heap.size W W':=below_H0 hb
  exact⟨_,rfl,_,_,_,[],_,[],hW',trodAll_mk1 (shut_bool Tryz.underlying4 _),(trodAll_cons_mk (Below.trod laidOut (by kernel_rfl) (of_decide_eq_true (by kernel_rfl)) k0 bel lt0) (trodAll_cons_mk (Below.trod laidOut (by kernel_rfl) (of_decide_eq_true (by kernel_rfl)) k1 bel lt1) trodAll_mk0)),rfl,bel.frame _,λ h=>by cases h⟩
theorem over:Rows.lineMostRow.holds Tryz.pinned (OpenSpec.ofChange Rows.lineMostSpec) :=
  OpenClaim.holds_of_wide 3 Tryz.f3 rfl rfl rfl rfl rfl rfl rfl ⟨rfl, rfl, rfl, rfl, rfl⟩ rfl rfl rfl rfl rfl (by kernel_rfl) Tryz.func3 (by kernel_rfl)
    (of_decide_eq_true (by kernel_rfl)) (by unfold Func.isWrapper;first | (rw[if_pos (by decide +kernel)];kernel_rfl) | (rw[if_neg (by decide +kernel)];exact⟨rfl,rfl⟩))
    (λ os started H enc _=>lifted os started H enc)
theorem proved:Rows.LineMostSaid:=over

end Go.Proofs.YtkilnbolehhcnaaGreat
