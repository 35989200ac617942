/- LineBent: the law answers true for every input and leaves its arguments as they were. No condition. -/
import Derived.Test.YtkpjhhoafenogaaQ6
import Derived.Test.YtkpjhhoafenogaaRows
import Derived.WalkKit
import Derived.ProofKit
import Derived.OpenShut
import Derived.ShutString
import Derived.ChangeOld
import Derived.Below
set_option linter.all false
namespace Go.Proofs.Ytkpjhhoafenogaa
open Go.ChangeShapes Go.WideShapes Go.ChangeAt Go.RowKit Go.Pm
open Go.ChangeMaps (open_string shut_string)
set_option linter.unusedVariables false
attribute [local irreducible] Go.Pm.vcFun Go.Pm.vc Go.Pm.vcIter
theorem law16 (a0:(Sl Gate)) (a1:(Sl Int)) (a2:Int) (w0:wf_22 a0) (w1:wf_39 a1) (w2:wf_3 a2) (z0:a0.len≤17592186044416):p16 a0 a1 a2=true∧s16 a0 a1 a2=true:=bent_true a0 a1 a2 w0 w1 w2 z0

theorem own:ownKnob Try.prog.godebug=none:=by kernel_rfl
theorem laidOut:laidOutB Try.prog=true:=by kernel_rfl
set_option maxRecDepth 100000 in
theorem lifted (os : Os) (started : os.Started) (H : Type) (enc : TypeId × Value → H) :
    ReturnsInHanded {} Try.checked os 16 .any (Rows.lineBentSpec.pre6 enc Try.prog Try.f16 Rows.lineBentRow.domain false) (Rows.lineBentSpec.post enc Try.prog Try.f16 false true false false):=by
  refine returnsInHanded_of_change_sized (C := Try.checked) own started (by kernel_rfl) Try.func16
    (ChangeSpec.witness6 (enc:=enc) (C:=Try.checked) false ⟨#[],#[.slice none 0 0,.slice none 0 0,.int .i64 0],[]⟩ 8 (by kernel_rfl) (by kernel_rfl) (by kernel_rfl) (by kernel_rfl)) ?_
  intro W base args ds gs before hval0 hW hcnd hz _
  have hval:∀ (j:Nat) t v,Try.f16.params[j]? = some t→args[j]? = some v→Value.okWide Try.prog W .any base t v:=hval0
  have hW':=hW
  obtain ⟨p,q,hA0,hV,rfl,hfz,hnd⟩:=hW
  have hA:DataW.TrodAll enc Try.prog W 0 (fun _=>true) true Try.f16.params.toList args.toList ds p:=hA0
  rw [Try.params16] at hA hval
  obtain ⟨v0,vs0,d0,ds0,p0,q0,hargs,rfl,rfl,h0,r0⟩:=trodAll_cons hA
  obtain ⟨v1,vs1,d1,ds1,p1,q1,rfl,rfl,rfl,h1,r1⟩:=trodAll_cons r0
  obtain ⟨v2,vs2,d2,ds2,p2,q2,rfl,rfl,rfl,h2,r2⟩:=trodAll_cons r1
  obtain ⟨rfl,rfl,rfl⟩:=trodAll_nil r2
  obtain rfl:args = #[v0,v1,v2]:=by cases args;simp_all
  obtain ⟨rfl,rfl⟩:=trodVars_none hV
  have k0:=h0
  have lt0:∀ x∈p0,x.block < W.heap.size:=by obtain ⟨m,hm⟩:=k0;exact DataW.trod_lt m _ _ _ hm
  obtain ⟨fu0,gg0⟩:=h0
  obtain ⟨a0,rr0,w0⟩:=rd_22 _ _ _ gg0
  have z0:a0.len≤17592186044416:=by
    have h0:=sized_len (by kernel_rfl:Try.prog.underlying 22=some (.slice 55)) gg0 rr0 (fun k hk=>of_decide_eq_true (List.all_eq_true.1 hz k (DataW.weights_mem_each (j:=0) (t:=22) (d:=d0) rfl rfl k hk)))
    have e1:Try.prog.bytesOf 55=24:=by kernel_rfl
    have e2:reachBytes=140737488351232:=rfl
    rw [e1,e2] at h0
    omega
  have P0:paR (H0 W) (.one (.sl a0.len 3 (fun i=>enc_55 (a0.get i)))) v0:=pa_one (okWide_one Try.underlying22 (by decide) (hval 0 22 v0 rfl rfl)) rr0
  have k1:=h1
  have lt1:∀ x∈p1,x.block < W.heap.size:=by obtain ⟨m,hm⟩:=k1;exact DataW.trod_lt m _ _ _ hm
  obtain ⟨fu1,gg1⟩:=h1
  obtain ⟨a1,rr1,w1⟩:=rd_39 _ _ _ gg1
  have P1:paR (H0 W) (.one (.sl a1.len 1 (fun i=>enc_3 (a1.get i)))) v1:=pa_one (okWide_one Try.underlying39 (by decide) (hval 1 39 v1 rfl rfl)) rr1
  have k2:=h2
  have lt2:∀ x∈p2,x.block < W.heap.size:=by obtain ⟨m,hm⟩:=k2;exact DataW.trod_lt m _ _ _ hm
  obtain ⟨fu2,gg2⟩:=h2
  obtain ⟨a2,rr2,w2⟩:=rd_3 _ _ _ gg2
  have P2:paR (H0 W) (.one (.int .i64 a2)) v2:=pa_one (okWide_one Try.underlying3 (by decide) (hval 2 3 v2 rfl rfl)) rr2
  clear hA0 hval0
  obtain ⟨hp,hs⟩:=law16 a0 a1 a2 w0 w1 w2 z0
  have hk:(fun rs:List PA=>rs=[.one (.bool true)]) [.one (.bool (s16 a0 a1 a2))]:=by rw [hs]
  have hrun:=(ok16 [.one (.sl a0.len 3 (fun i=>enc_55 (a0.get i))),.one (.sl a1.len 1 (fun i=>enc_3 (a1.get i))),.one (.int .i64 a2)] (fun rs=>rs=[.one (.bool true)]) ⟨⟨isE,isE,hp⟩,hk⟩ W (H0 W) [v0,v1,v2] ⟨P0,P1,P2,trivial⟩ (hw_H0 W)).2
  refine hrun.mono fun e W' ⟨h',rs,v,hrs,he,hres,hb,_,_,_⟩=>?_
  subst hrs
  subst he
  have hv:v=.bool true:=by
    have hv:Rep h' (.bool true) v:=hres
    cases hv;rfl
  subst hv
  have bel:Below W.heap.size W W':=below_H0 hb
  exact ⟨_,rfl,_,_,_,[],_,[],hW',trodAll_mk1 (shut_bool Try.underlying4 _),(trodAll_cons_mk (Below.trod laidOut (by kernel_rfl) (of_decide_eq_true (by kernel_rfl)) k0 bel lt0) (trodAll_cons_mk (Below.trod laidOut (by kernel_rfl) (of_decide_eq_true (by kernel_rfl)) k1 bel lt1) (trodAll_cons_mk (Below.trod laidOut (by kernel_rfl) (of_decide_eq_true (by kernel_rfl)) k2 bel lt2) trodAll_mk0))),rfl,bel.frame _,fun h=>by cases h⟩
theorem over:Rows.lineBentRow.holds Try.pinned (OpenSpec.ofChange Rows.lineBentSpec) :=
  OpenClaim.holds_of_wide 16 Try.f16 rfl rfl rfl rfl rfl rfl rfl ⟨rfl, rfl, rfl, rfl, rfl⟩ rfl rfl rfl rfl rfl (by kernel_rfl) Try.func16 (by kernel_rfl)
    (of_decide_eq_true (by kernel_rfl)) (by unfold Func.isWrapper;first | (rw [if_pos (by decide +kernel)];kernel_rfl) | (rw [if_neg (by decide +kernel)];exact ⟨rfl,rfl⟩))
    (fun os started H enc _=>lifted os started H enc)
theorem proved:Rows.LineBentSaid:=over

end Go.Proofs.Ytkpjhhoafenogaa
