/- FindNumber of the Find layer holds, whatever it is given. -/
import Derived.Test.YtjkijdhdbhooiaaGreatQ7
import Derived.Test.YtjkijdhdbhooiaaGreatRows
import Derived.WalkKit
import Derived.ProofKit
import Derived.OpenShut
import Derived.ShutString
import Derived.ChangeOld
import Derived.Below
set_option linter.all false
namespace Go.Proofs.YtjkijdhdbhooiaaGreat
open Go.ChangeShapes Go.WideShapes Go.ChangeAt Go.RowKit Go.Pm
open Go.ChangeMaps (open_string shut_string)
set_option linter.unusedVariables false
attribute [local irreducible] Go.Pm.vcFun Go.Pm.vc Go.Pm.vcC
theorem own:ownKnob Tryz.prog.godebug=none:=by kernel_rfl
theorem laidOut:laidOutB Tryz.prog=true:=by kernel_rfl
set_option maxRecDepth 100000 in
theorem lifted (os : Os) (started : os.Started) (H : Type) (enc : TypeId × Value → H) :
    ReturnsInHanded {} Tryz.checked os 7 .any (Rows.findNumberSpec.pre6 enc Tryz.prog Tryz.f7 Rows.findNumberRow.domain false) (Rows.findNumberSpec.post enc Tryz.prog Tryz.f7 false true false false):=by
  refine returnsInHanded_of_change (C := Tryz.checked) own started (by kernel_rfl) Tryz.func7
    (ChangeSpec.witness6 (enc:=enc) (C:=Tryz.checked) false ⟨#[],#[.agg #[.slice none 0 0],.agg #[.int .i64 0,.int .i64 0],.slice none 0 0,.int .i64 0],[]⟩ 8 (by kernel_rfl) (by kernel_rfl) (by kernel_rfl) (by kernel_rfl)) ?_
  intro W base args ds gs before zx1 hW z9U _
  have zhR:∀ (j:Nat) t v,Tryz.f7.params[j]? = some t→args[j]? = some v→Value.okWide Tryz.prog W .any base t v:=zx1
  have hW':=hW
  obtain ⟨p,q,hA0,hV,rfl,PH,Aa⟩:=hW
  have hA:DataW.TrodAll enc Tryz.prog W 0 (fun _=>true) true Tryz.f7.params.toList args.toList ds p:=hA0
  rw [Tryz.params7] at hA zhR
  obtain ⟨v0,vs0,d0,ds0,p0,q0,gJ,rfl,rfl,h0,r0⟩:=trodAll_cons hA
  obtain ⟨v1,vs1,d1,ds1,p1,q1,rfl,rfl,rfl,h1,r1⟩:=trodAll_cons r0
  obtain ⟨v2,vs2,d2,ds2,p2,q2,rfl,rfl,rfl,h2,r2⟩:=trodAll_cons r1
  obtain ⟨v3,vs3,d3,ds3,p3,q3,rfl,rfl,rfl,h3,r3⟩:=trodAll_cons r2
  obtain ⟨rfl,rfl,rfl⟩:=trodAll_nil r3
  obtain rfl:args = #[v0,v1,v2,v3]:=by cases args;simp_all
  obtain ⟨rfl,rfl⟩:=trodVars_none hV
  have k0:=h0
  have lt0:∀ x∈p0,x.block < W.heap.size:=by obtain ⟨m,hm⟩:=k0;exact DataW.trod_lt m _ _ _ hm
  obtain ⟨fu0,gg0⟩:=h0
  obtain ⟨a0,rr0,w0⟩:=zIl _ _ _ gg0
  have P0:oC (H0 W) (iV.enc a0) v0:=zj6 (NR Tryz.underlying24 (zhR 0 24 v0 rfl rfl)) rr0
  have k1:=h1
  have lt1:∀ x∈p1,x.block < W.heap.size:=by obtain ⟨m,hm⟩:=k1;exact DataW.trod_lt m _ _ _ hm
  obtain ⟨fu1,gg1⟩:=h1
  obtain ⟨a1,rr1,w1⟩:=zIm _ _ _ gg1
  have P1:oC (H0 W) (iV.enc a1) v1:=zj6 (NR Tryz.underlying26 (zhR 1 26 v1 rfl rfl)) rr1
  have k2:=h2
  have lt2:∀ x∈p2,x.block < W.heap.size:=by obtain ⟨m,hm⟩:=k2;exact DataW.trod_lt m _ _ _ hm
  obtain ⟨fu2,gg2⟩:=h2
  obtain ⟨a2,rr2,w2⟩:=zIo _ _ _ gg2
  have P2:oC (H0 W) (iV.enc a2) v2:=zfS (Ht Tryz.underlying27 (by decide) (zhR 2 27 v2 rfl rfl)) rr2
  have k3:=h3
  have lt3:∀ x∈p3,x.block < W.heap.size:=by obtain ⟨m,hm⟩:=k3;exact DataW.trod_lt m _ _ _ hm
  obtain ⟨fu3,gg3⟩:=h3
  obtain ⟨a3,rr3,w3⟩:=zwe _ _ _ gg3
  have P3:oC (H0 W) (iV.enc a3) v3:=zfS (Ht Tryz.underlying38 (by decide) (zhR 3 38 v3 rfl rfl)) rr3
  clear hA0 zx1
  have df:=(oD7 (dA.enc (a0,a1,a2,a3)) _ (z0w (a:=(a0,a1,a2,a3)) rfl rfl (qD7 a0 a1 a2 a3)) W (H0 W) [v0,v1,v2,v3] ⟨P0,P1,P2,P3,trivial⟩ (zHR W)).2
  refine df.mono fun e W' ⟨h',v,he,o6,hb,_,_,_⟩=>?_
  subst he
  have hv:v=.bool true:=by
    have hv:Rep h' (.bool true) v:=o6
    cases hv;rfl
  subst hv
  have bel:Below W.heap.size W W':=zj7 hb
  exact ⟨_,rfl,_,_,_,[],_,[],hW',trodAll_mk1 (shut_bool Tryz.underlying4 _),(trodAll_cons_mk (Below.trod laidOut (by kernel_rfl) (of_decide_eq_true (by kernel_rfl)) k0 bel lt0) (trodAll_cons_mk (Below.trod laidOut (by kernel_rfl) (of_decide_eq_true (by kernel_rfl)) k1 bel lt1) (trodAll_cons_mk (Below.trod laidOut (by kernel_rfl) (of_decide_eq_true (by kernel_rfl)) k2 bel lt2) (trodAll_cons_mk (Below.trod laidOut (by kernel_rfl) (of_decide_eq_true (by kernel_rfl)) k3 bel lt3) trodAll_mk0)))),rfl,bel.frame _,fun h=>by cases h⟩
theorem closed:joinedFacts Tryz.prog 7 Tryz.f7 Rows.findNumberSpec Rows.findNumberRow=true:=by
 unfold joinedFacts
 rw [ioE,ioK,ioF]
 kernel_rfl
theorem over:Rows.findNumberRow.holds Tryz.pinned (OpenSpec.ofChange Rows.findNumberSpec) :=
  OpenClaim.holds_of_wide 7 Tryz.f7 rfl rfl rfl rfl rfl rfl rfl ⟨rfl, rfl, rfl, rfl, rfl⟩ rfl rfl rfl rfl rfl (by kernel_rfl) Tryz.func7 closed
    (of_decide_eq_true (by kernel_rfl)) (by unfold Func.isWrapper;first | (rw [if_pos (by decide +kernel)];kernel_rfl) | (rw [if_neg (by decide +kernel)];exact ⟨rfl,rfl⟩))
    (fun os started H enc _=>lifted os started H enc)
theorem proved:Rows.FindNumberSaid:=over
end Go.Proofs.YtjkijdhdbhooiaaGreat
