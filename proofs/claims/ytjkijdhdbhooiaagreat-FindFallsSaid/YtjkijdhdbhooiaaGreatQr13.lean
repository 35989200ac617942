/- FindFalls of the Find layer holds, whatever it is given. -/
import Derived.Test.YtjkijdhdbhooiaaGreatQ6
import Derived.Test.YtjkijdhdbhooiaaGreatRows
import Derived.WalkKit
import Derived.ProofKit
import Derived.OpenShut
import Derived.ShutString
import Derived.ChangeOld
import Derived.Below
set_option linter.all false
namespace Go.Proofs.YtjkijdhdbhooiaaGreat
open Go.ChangeShapes Go.WideShapes Go.ChangeAt Go.RowKit Go.Pm
open Go.ChangeMaps (open_string shut_string)
set_option linter.unusedVariables false
attribute [local irreducible] Go.Pm.vcFun Go.Pm.vc Go.Pm.vcC
theorem own:ownKnob Tryz.prog.godebug=none:=by kernel_rfl
theorem laidOut:laidOutB Tryz.prog=true:=by kernel_rfl
set_option maxRecDepth 100000 in
theorem lifted (os : Os) (started : os.Started) (H : Type) (enc : TypeId × Value → H) :
    ReturnsInHanded {} Tryz.checked os 13 .any (Rows.findFallsSpec.pre6 enc Tryz.prog Tryz.f13 Rows.findFallsRow.domain false) (Rows.findFallsSpec.post enc Tryz.prog Tryz.f13 false true false false):=by
  refine returnsInHanded_of_change (C := Tryz.checked) own started (by kernel_rfl) Tryz.func13
    (ChangeSpec.witness6 (enc:=enc) (C:=Tryz.checked) false ⟨#[],#[.agg #[.slice none 0 0],.agg #[.int .i64 0,.int .i64 0],.slice none 0 0,.agg #[.int .i64 0,.int .i64 0,.int .i64 0,.int .i64 0,.int .i64 0],.agg #[.int .i64 0,.int .i64 0],.agg #[.int .i64 0,.int .i64 0,.int .i64 0,.int .i64 0]],[]⟩ 8 (by kernel_rfl) (by kernel_rfl) (by kernel_rfl) (by kernel_rfl)) ?_
  intro W base args ds gs before zvh hW z9I _
  have zfL:∀ (j:Nat) t v,Tryz.f13.params[j]? = some t→args[j]? = some v→Value.okWide Tryz.prog W .any base t v:=zvh
  have hW':=hW
  obtain ⟨p,q,hA0,hV,rfl,Oa,zC⟩:=hW
  have hA:DataW.TrodAll enc Tryz.prog W 0 (fun _=>true) true Tryz.f13.params.toList args.toList ds p:=hA0
  rw [Tryz.params13] at hA zfL
  obtain ⟨v0,vs0,d0,ds0,p0,q0,gB,rfl,rfl,h0,r0⟩:=trodAll_cons hA
  obtain ⟨v1,vs1,d1,ds1,p1,q1,rfl,rfl,rfl,h1,r1⟩:=trodAll_cons r0
  obtain ⟨v2,vs2,d2,ds2,p2,q2,rfl,rfl,rfl,h2,r2⟩:=trodAll_cons r1
  obtain ⟨v3,vs3,d3,ds3,p3,q3,rfl,rfl,rfl,h3,r3⟩:=trodAll_cons r2
  obtain ⟨v4,vs4,d4,ds4,p4,q4,rfl,rfl,rfl,h4,r4⟩:=trodAll_cons r3
  obtain ⟨v5,vs5,d5,ds5,p5,q5,rfl,rfl,rfl,h5,r5⟩:=trodAll_cons r4
  obtain ⟨rfl,rfl,rfl⟩:=trodAll_nil r5
  obtain rfl:args = #[v0,v1,v2,v3,v4,v5]:=by cases args;simp_all
  obtain ⟨rfl,rfl⟩:=trodVars_none hV
  have k0:=h0
  have lt0:∀ x∈p0,x.block < W.heap.size:=by obtain ⟨m,hm⟩:=k0;exact DataW.trod_lt m _ _ _ hm
  obtain ⟨fu0,gg0⟩:=h0
  obtain ⟨a0,rr0,w0⟩:=zFX _ _ _ gg0
  have P0:nU (H0 W) (iT.enc a0) v0:=zaf (BC Tryz.underlying24 (zfL 0 24 v0 rfl rfl)) rr0
  have k1:=h1
  have lt1:∀ x∈p1,x.block < W.heap.size:=by obtain ⟨m,hm⟩:=k1;exact DataW.trod_lt m _ _ _ hm
  obtain ⟨fu1,gg1⟩:=h1
  obtain ⟨a1,rr1,w1⟩:=zFY _ _ _ gg1
  have P1:nU (H0 W) (iT.enc a1) v1:=zaf (BC Tryz.underlying26 (zfL 1 26 v1 rfl rfl)) rr1
  have k2:=h2
  have lt2:∀ x∈p2,x.block < W.heap.size:=by obtain ⟨m,hm⟩:=k2;exact DataW.trod_lt m _ _ _ hm
  obtain ⟨fu2,gg2⟩:=h2
  obtain ⟨a2,rr2,w2⟩:=zF0 _ _ _ gg2
  have P2:nU (H0 W) (iT.enc a2) v2:=zoi (SX Tryz.underlying27 (by decide) (zfL 2 27 v2 rfl rfl)) rr2
  have k3:=h3
  have lt3:∀ x∈p3,x.block < W.heap.size:=by obtain ⟨m,hm⟩:=k3;exact DataW.trod_lt m _ _ _ hm
  obtain ⟨fu3,gg3⟩:=h3
  obtain ⟨a3,rr3,w3⟩:=z8C _ _ _ gg3
  have P3:nU (H0 W) (iT.enc a3) v3:=zaf (BC Tryz.underlying87 (zfL 3 87 v3 rfl rfl)) rr3
  have k4:=h4
  have lt4:∀ x∈p4,x.block < W.heap.size:=by obtain ⟨m,hm⟩:=k4;exact DataW.trod_lt m _ _ _ hm
  obtain ⟨fu4,gg4⟩:=h4
  obtain ⟨a4,rr4,w4⟩:=zYj _ _ _ gg4
  have P4:nU (H0 W) (iT.enc a4) v4:=zaf (BC Tryz.underlying85 (zfL 4 85 v4 rfl rfl)) rr4
  have k5:=h5
  have lt5:∀ x∈p5,x.block < W.heap.size:=by obtain ⟨m,hm⟩:=k5;exact DataW.trod_lt m _ _ _ hm
  obtain ⟨fu5,gg5⟩:=h5
  obtain ⟨a5,rr5,w5⟩:=z2v _ _ _ gg5
  have P5:nU (H0 W) (iT.enc a5) v5:=zaf (BC Tryz.underlying29 (zfL 5 29 v5 rfl rfl)) rr5
  clear hA0 zvh
  have dA:=(Zjs (dG.enc (a0,a1,a2,a3,a4,a5)) _ (zWL (a:=(a0,a1,a2,a3,a4,a5)) rfl rfl (Zju a0 a1 a2 a3 a4 a5)) W (H0 W) [v0,v1,v2,v3,v4,v5] ⟨P0,P1,P2,P3,P4,P5,trivial⟩ (zFu W)).2
  refine dA.mono fun e W' ⟨h',v,he,oI,hb,_,_,_⟩=>?_
  subst he
  have hv:v=.bool true:=by
    have hv:Rep h' (.bool true) v:=oI
    cases hv;rfl
  subst hv
  have bel:Below W.heap.size W W':=ziQ hb
  exact ⟨_,rfl,_,_,_,[],_,[],hW',trodAll_mk1 (shut_bool Tryz.underlying4 _),(trodAll_cons_mk (Below.trod laidOut (by kernel_rfl) (of_decide_eq_true (by kernel_rfl)) k0 bel lt0) (trodAll_cons_mk (Below.trod laidOut (by kernel_rfl) (of_decide_eq_true (by kernel_rfl)) k1 bel lt1) (trodAll_cons_mk (Below.trod laidOut (by kernel_rfl) (of_decide_eq_true (by kernel_rfl)) k2 bel lt2) (trodAll_cons_mk (Below.trod laidOut (by kernel_rfl) (of_decide_eq_true (by kernel_rfl)) k3 bel lt3) (trodAll_cons_mk (Below.trod laidOut (by kernel_rfl) (of_decide_eq_true (by kernel_rfl)) k4 bel lt4) (trodAll_cons_mk (Below.trod laidOut (by kernel_rfl) (of_decide_eq_true (by kernel_rfl)) k5 bel lt5) trodAll_mk0)))))),rfl,bel.frame _,fun h=>by cases h⟩
theorem closed:joinedFacts Tryz.prog 13 Tryz.f13 Rows.findFallsSpec Rows.findFallsRow=true:=by
 unfold joinedFacts
 rw [ioE,ioK,ioF]
 kernel_rfl
theorem over:Rows.findFallsRow.holds Tryz.pinned (OpenSpec.ofChange Rows.findFallsSpec) :=
  OpenClaim.holds_of_wide 13 Tryz.f13 rfl rfl rfl rfl rfl rfl rfl ⟨rfl, rfl, rfl, rfl, rfl⟩ rfl rfl rfl rfl rfl (by kernel_rfl) Tryz.func13 closed
    (of_decide_eq_true (by kernel_rfl)) (by unfold Func.isWrapper;first | (rw [if_pos (by decide +kernel)];kernel_rfl) | (rw [if_neg (by decide +kernel)];exact ⟨rfl,rfl⟩))
    (fun os started H enc _=>lifted os started H enc)
theorem proved:Rows.FindFallsSaid:=over
end Go.Proofs.YtjkijdhdbhooiaaGreat
