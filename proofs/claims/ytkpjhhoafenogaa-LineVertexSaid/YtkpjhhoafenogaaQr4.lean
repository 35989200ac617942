/- LineVertex: the law answers true for every input and leaves its arguments as they were. No condition. -/
import Derived.Test.YtkpjhhoafenogaaQ6
import Derived.Test.YtkpjhhoafenogaaRows
import Derived.WalkKit
import Derived.ProofKit
import Derived.OpenShut
import Derived.ShutString
import Derived.ChangeOld
import Derived.Below
set_option linter.all false
namespace Go.Proofs.Ytkpjhhoafenogaa
open Go.ChangeShapes Go.WideShapes Go.ChangeAt Go.RowKit Go.Pm
open Go.ChangeMaps (open_string shut_string)
set_option linter.unusedVariables false
attribute [local irreducible] Go.Pm.vcFun Go.Pm.vc Go.Pm.vcIter
theorem law4 (a0:(Sl Gate)) (a1:(Sl Gate)) (a2:(Int×Int×Int×Int)) (a3:(Int×Int×Int×Int)) (a4:Int) (a5:Int) (a6:Int) (w0:wf_22 a0) (w1:wf_22 a1) (w2:wf_34 a2) (w3:wf_34 a3) (w4:wf_3 a4) (w5:wf_3 a5) (w6:wf_3 a6):p4 a0 a1 a2 a3 a4 a5 a6=true∧s4 a0 a1 a2 a3 a4 a5 a6=true:=vertex_true a0 a1 w0.1 w1.1 a2 a3 a4 a5 a6

theorem own:ownKnob Try.prog.godebug=none:=by kernel_rfl
theorem laidOut:laidOutB Try.prog=true:=by kernel_rfl
set_option maxRecDepth 100000 in
theorem lifted (os : Os) (started : os.Started) (H : Type) (enc : TypeId × Value → H) :
    ReturnsInHanded {} Try.checked os 4 .any (Rows.lineVertexSpec.pre6 enc Try.prog Try.f4 Rows.lineVertexRow.domain false) (Rows.lineVertexSpec.post enc Try.prog Try.f4 false true false false):=by
  refine returnsInHanded_of_change (C := Try.checked) own started (by kernel_rfl) Try.func4
    (ChangeSpec.witness6 (enc:=enc) (C:=Try.checked) false ⟨#[],#[.slice none 0 0,.slice none 0 0,.agg #[.int .i64 0,.int .i64 0,.int .i64 0,.int .i64 0],.agg #[.int .i64 0,.int .i64 0,.int .i64 0,.int .i64 0],.int .i64 0,.int .i64 0,.int .i64 0],[]⟩ 8 (by kernel_rfl) (by kernel_rfl) (by kernel_rfl) (by kernel_rfl)) ?_
  intro W base args ds gs before hval0 hW hcnd _
  have hval:∀ (j:Nat) t v,Try.f4.params[j]? = some t→args[j]? = some v→Value.okWide Try.prog W .any base t v:=hval0
  have hW':=hW
  obtain ⟨p,q,hA0,hV,rfl,hfz,hnd⟩:=hW
  have hA:DataW.TrodAll enc Try.prog W 0 (fun _=>true) true Try.f4.params.toList args.toList ds p:=hA0
  rw [Try.params4] at hA hval
  obtain ⟨v0,vs0,d0,ds0,p0,q0,hargs,rfl,rfl,h0,r0⟩:=trodAll_cons hA
  obtain ⟨v1,vs1,d1,ds1,p1,q1,rfl,rfl,rfl,h1,r1⟩:=trodAll_cons r0
  obtain ⟨v2,vs2,d2,ds2,p2,q2,rfl,rfl,rfl,h2,r2⟩:=trodAll_cons r1
  obtain ⟨v3,vs3,d3,ds3,p3,q3,rfl,rfl,rfl,h3,r3⟩:=trodAll_cons r2
  obtain ⟨v4,vs4,d4,ds4,p4,q4,rfl,rfl,rfl,h4,r4⟩:=trodAll_cons r3
  obtain ⟨v5,vs5,d5,ds5,p5,q5,rfl,rfl,rfl,h5,r5⟩:=trodAll_cons r4
  obtain ⟨v6,vs6,d6,ds6,p6,q6,rfl,rfl,rfl,h6,r6⟩:=trodAll_cons r5
  obtain ⟨rfl,rfl,rfl⟩:=trodAll_nil r6
  obtain rfl:args = #[v0,v1,v2,v3,v4,v5,v6]:=by cases args;simp_all
  obtain ⟨rfl,rfl⟩:=trodVars_none hV
  have k0:=h0
  have lt0:∀ x∈p0,x.block < W.heap.size:=by obtain ⟨m,hm⟩:=k0;exact DataW.trod_lt m _ _ _ hm
  obtain ⟨fu0,gg0⟩:=h0
  obtain ⟨a0,rr0,w0⟩:=rd_22 _ _ _ gg0
  have P0:paR (H0 W) (.one (.sl a0.len 3 (fun i=>enc_55 (a0.get i)))) v0:=pa_one (okWide_one Try.underlying22 (by decide) (hval 0 22 v0 rfl rfl)) rr0
  have k1:=h1
  have lt1:∀ x∈p1,x.block < W.heap.size:=by obtain ⟨m,hm⟩:=k1;exact DataW.trod_lt m _ _ _ hm
  obtain ⟨fu1,gg1⟩:=h1
  obtain ⟨a1,rr1,w1⟩:=rd_22 _ _ _ gg1
  have P1:paR (H0 W) (.one (.sl a1.len 3 (fun i=>enc_55 (a1.get i)))) v1:=pa_one (okWide_one Try.underlying22 (by decide) (hval 1 22 v1 rfl rfl)) rr1
  have k2:=h2
  have lt2:∀ x∈p2,x.block < W.heap.size:=by obtain ⟨m,hm⟩:=k2;exact DataW.trod_lt m _ _ _ hm
  obtain ⟨fu2,gg2⟩:=h2
  obtain ⟨a2,rr2,w2⟩:=rd_34 _ _ _ gg2
  have P2:paR (H0 W) (.agg (enc_34 a2)) v2:=pa_agg (okWide_aggA Try.underlying34 (hval 2 34 v2 rfl rfl)) rr2
  have k3:=h3
  have lt3:∀ x∈p3,x.block < W.heap.size:=by obtain ⟨m,hm⟩:=k3;exact DataW.trod_lt m _ _ _ hm
  obtain ⟨fu3,gg3⟩:=h3
  obtain ⟨a3,rr3,w3⟩:=rd_34 _ _ _ gg3
  have P3:paR (H0 W) (.agg (enc_34 a3)) v3:=pa_agg (okWide_aggA Try.underlying34 (hval 3 34 v3 rfl rfl)) rr3
  have k4:=h4
  have lt4:∀ x∈p4,x.block < W.heap.size:=by obtain ⟨m,hm⟩:=k4;exact DataW.trod_lt m _ _ _ hm
  obtain ⟨fu4,gg4⟩:=h4
  obtain ⟨a4,rr4,w4⟩:=rd_3 _ _ _ gg4
  have P4:paR (H0 W) (.one (.int .i64 a4)) v4:=pa_one (okWide_one Try.underlying3 (by decide) (hval 4 3 v4 rfl rfl)) rr4
  have k5:=h5
  have lt5:∀ x∈p5,x.block < W.heap.size:=by obtain ⟨m,hm⟩:=k5;exact DataW.trod_lt m _ _ _ hm
  obtain ⟨fu5,gg5⟩:=h5
  obtain ⟨a5,rr5,w5⟩:=rd_3 _ _ _ gg5
  have P5:paR (H0 W) (.one (.int .i64 a5)) v5:=pa_one (okWide_one Try.underlying3 (by decide) (hval 5 3 v5 rfl rfl)) rr5
  have k6:=h6
  have lt6:∀ x∈p6,x.block < W.heap.size:=by obtain ⟨m,hm⟩:=k6;exact DataW.trod_lt m _ _ _ hm
  obtain ⟨fu6,gg6⟩:=h6
  obtain ⟨a6,rr6,w6⟩:=rd_3 _ _ _ gg6
  have P6:paR (H0 W) (.one (.int .i64 a6)) v6:=pa_one (okWide_one Try.underlying3 (by decide) (hval 6 3 v6 rfl rfl)) rr6
  clear hA0 hval0
  obtain ⟨hp,hs⟩:=law4 a0 a1 a2 a3 a4 a5 a6 w0 w1 w2 w3 w4 w5 w6
  have hk:(fun rs:List PA=>rs=[.one (.bool true)]) [.one (.bool (s4 a0 a1 a2 a3 a4 a5 a6))]:=by rw [hs]
  have hrun:=(ok4 [.one (.sl a0.len 3 (fun i=>enc_55 (a0.get i))),.one (.sl a1.len 3 (fun i=>enc_55 (a1.get i))),.agg [.int .i64 a2.1,.int .i64 a2.2.1,.int .i64 a2.2.2.1,.int .i64 a2.2.2.2],.agg [.int .i64 a3.1,.int .i64 a3.2.1,.int .i64 a3.2.2.1,.int .i64 a3.2.2.2],.one (.int .i64 a4),.one (.int .i64 a5),.one (.int .i64 a6)] (fun rs=>rs=[.one (.bool true)]) ⟨⟨isE,isE,hp⟩,hk⟩ W (H0 W) [v0,v1,v2,v3,v4,v5,v6] ⟨P0,P1,P2,P3,P4,P5,P6,trivial⟩ (hw_H0 W)).2
  refine hrun.mono fun e W' ⟨h',rs,v,hrs,he,hres,hb,_,_,_⟩=>?_
  subst hrs
  subst he
  have hv:v=.bool true:=by
    have hv:Rep h' (.bool true) v:=hres
    cases hv;rfl
  subst hv
  have bel:Below W.heap.size W W':=below_H0 hb
  exact ⟨_,rfl,_,_,_,[],_,[],hW',trodAll_mk1 (shut_bool Try.underlying4 _),(trodAll_cons_mk (Below.trod laidOut (by kernel_rfl) (of_decide_eq_true (by kernel_rfl)) k0 bel lt0) (trodAll_cons_mk (Below.trod laidOut (by kernel_rfl) (of_decide_eq_true (by kernel_rfl)) k1 bel lt1) (trodAll_cons_mk (Below.trod laidOut (by kernel_rfl) (of_decide_eq_true (by kernel_rfl)) k2 bel lt2) (trodAll_cons_mk (Below.trod laidOut (by kernel_rfl) (of_decide_eq_true (by kernel_rfl)) k3 bel lt3) (trodAll_cons_mk (Below.trod laidOut (by kernel_rfl) (of_decide_eq_true (by kernel_rfl)) k4 bel lt4) (trodAll_cons_mk (Below.trod laidOut (by kernel_rfl) (of_decide_eq_true (by kernel_rfl)) k5 bel lt5) (trodAll_cons_mk (Below.trod laidOut (by kernel_rfl) (of_decide_eq_true (by kernel_rfl)) k6 bel lt6) trodAll_mk0))))))),rfl,bel.frame _,fun h=>by cases h⟩
theorem over:Rows.lineVertexRow.holds Try.pinned (OpenSpec.ofChange Rows.lineVertexSpec) :=
  OpenClaim.holds_of_wide 4 Try.f4 rfl rfl rfl rfl rfl rfl rfl ⟨rfl, rfl, rfl, rfl, rfl⟩ rfl rfl rfl rfl rfl (by kernel_rfl) Try.func4 (by kernel_rfl)
    (of_decide_eq_true (by kernel_rfl)) (by unfold Func.isWrapper;first | (rw [if_pos (by decide +kernel)];kernel_rfl) | (rw [if_neg (by decide +kernel)];exact ⟨rfl,rfl⟩))
    (fun os started H enc _=>lifted os started H enc)
theorem proved:Rows.LineVertexSaid:=over

end Go.Proofs.Ytkpjhhoafenogaa
