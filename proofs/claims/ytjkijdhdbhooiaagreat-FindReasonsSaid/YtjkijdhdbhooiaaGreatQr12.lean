/- FindReasons of the Find layer holds, whatever it is given. -/
import Derived.Test.YtjkijdhdbhooiaaGreatQ6
import Derived.Test.YtjkijdhdbhooiaaGreatRows
import Derived.WalkKit
import Derived.ProofKit
import Derived.OpenShut
import Derived.ShutString
import Derived.ChangeOld
import Derived.Below
set_option linter.all false
namespace Go.Proofs.YtjkijdhdbhooiaaGreat
open Go.ChangeShapes Go.WideShapes Go.ChangeAt Go.RowKit Go.Pm
open Go.ChangeMaps (open_string shut_string)
set_option linter.unusedVariables false
attribute [local irreducible] Go.Pm.vcFun Go.Pm.vc Go.Pm.vcC
theorem own:ownKnob Tryz.prog.godebug=none:=by kernel_rfl
theorem laidOut:laidOutB Tryz.prog=true:=by kernel_rfl
set_option maxRecDepth 100000 in
theorem lifted (os : Os) (started : os.Started) (H : Type) (enc : TypeId × Value → H) :
    ReturnsInHanded {} Tryz.checked os 12 .any (Rows.findReasonsSpec.pre6 enc Tryz.prog Tryz.f12 Rows.findReasonsRow.domain false) (Rows.findReasonsSpec.post enc Tryz.prog Tryz.f12 false true false false):=by
  refine returnsInHanded_of_change (C := Tryz.checked) own started (by kernel_rfl) Tryz.func12
    (ChangeSpec.witness6 (enc:=enc) (C:=Tryz.checked) false ⟨#[],#[.agg #[.slice none 0 0],.agg #[.int .i64 0,.int .i64 0],.slice none 0 0,.agg #[.int .i64 0,.slice none 0 0,.slice none 0 0]],[]⟩ 8 (by kernel_rfl) (by kernel_rfl) (by kernel_rfl) (by kernel_rfl)) ?_
  intro W base args ds gs before zv4 hW z7G _
  have zlS:∀ (j:Nat) t v,Tryz.f12.params[j]? = some t→args[j]? = some v→Value.okWide Tryz.prog W .any base t v:=zv4
  have hW':=hW
  obtain ⟨p,q,hA0,hV,rfl,NZ,zf⟩:=hW
  have hA:DataW.TrodAll enc Tryz.prog W 0 (fun _=>true) true Tryz.f12.params.toList args.toList ds p:=hA0
  rw [Tryz.params12] at hA zlS
  obtain ⟨v0,vs0,d0,ds0,p0,q0,gp,rfl,rfl,h0,r0⟩:=trodAll_cons hA
  obtain ⟨v1,vs1,d1,ds1,p1,q1,rfl,rfl,rfl,h1,r1⟩:=trodAll_cons r0
  obtain ⟨v2,vs2,d2,ds2,p2,q2,rfl,rfl,rfl,h2,r2⟩:=trodAll_cons r1
  obtain ⟨v3,vs3,d3,ds3,p3,q3,rfl,rfl,rfl,h3,r3⟩:=trodAll_cons r2
  obtain ⟨rfl,rfl,rfl⟩:=trodAll_nil r3
  obtain rfl:args = #[v0,v1,v2,v3]:=by cases args;simp_all
  obtain ⟨rfl,rfl⟩:=trodVars_none hV
  have k0:=h0
  have lt0:∀ x∈p0,x.block < W.heap.size:=by obtain ⟨m,hm⟩:=k0;exact DataW.trod_lt m _ _ _ hm
  obtain ⟨fu0,gg0⟩:=h0
  obtain ⟨a0,rr0,w0⟩:=zF7 _ _ _ gg0
  have P0:nN (H0 W) (iQ.enc a0) v0:=Zr (Bq Tryz.underlying24 (zlS 0 24 v0 rfl rfl)) rr0
  have k1:=h1
  have lt1:∀ x∈p1,x.block < W.heap.size:=by obtain ⟨m,hm⟩:=k1;exact DataW.trod_lt m _ _ _ hm
  obtain ⟨fu1,gg1⟩:=h1
  obtain ⟨a1,rr1,w1⟩:=zF8 _ _ _ gg1
  have P1:nN (H0 W) (iQ.enc a1) v1:=Zr (Bq Tryz.underlying26 (zlS 1 26 v1 rfl rfl)) rr1
  have k2:=h2
  have lt2:∀ x∈p2,x.block < W.heap.size:=by obtain ⟨m,hm⟩:=k2;exact DataW.trod_lt m _ _ _ hm
  obtain ⟨fu2,gg2⟩:=h2
  obtain ⟨a2,rr2,w2⟩:=zGa _ _ _ gg2
  have P2:nN (H0 W) (iQ.enc a2) v2:=zxr (Zq Tryz.underlying27 (by decide) (zlS 2 27 v2 rfl rfl)) rr2
  have k3:=h3
  have lt3:∀ x∈p3,x.block < W.heap.size:=by obtain ⟨m,hm⟩:=k3;exact DataW.trod_lt m _ _ _ hm
  obtain ⟨fu3,gg3⟩:=h3
  obtain ⟨a3,rr3,w3⟩:=zGb _ _ _ gg3
  have P3:nN (H0 W) (iQ.enc a3) v3:=Zr (Bq Tryz.underlying43 (zlS 3 43 v3 rfl rfl)) rr3
  clear hA0 zv4
  have df:=(zX1 (dE.enc (a0,a1,a2,a3)) _ (zYB (a:=(a0,a1,a2,a3)) rfl rfl (zYA a0 a1 a2 a3)) W (H0 W) [v0,v1,v2,v3] ⟨P0,P1,P2,P3,trivial⟩ (zF0 W)).2
  refine df.mono fun e W' ⟨h',v,he,og,hb,_,_,_⟩=>?_
  subst he
  have hv:v=.bool true:=by
    have hv:Rep h' (.bool true) v:=og
    cases hv;rfl
  subst hv
  have bel:Below W.heap.size W W':=zis hb
  exact ⟨_,rfl,_,_,_,[],_,[],hW',trodAll_mk1 (shut_bool Tryz.underlying4 _),(trodAll_cons_mk (Below.trod laidOut (by kernel_rfl) (of_decide_eq_true (by kernel_rfl)) k0 bel lt0) (trodAll_cons_mk (Below.trod laidOut (by kernel_rfl) (of_decide_eq_true (by kernel_rfl)) k1 bel lt1) (trodAll_cons_mk (Below.trod laidOut (by kernel_rfl) (of_decide_eq_true (by kernel_rfl)) k2 bel lt2) (trodAll_cons_mk (Below.trod laidOut (by kernel_rfl) (of_decide_eq_true (by kernel_rfl)) k3 bel lt3) trodAll_mk0)))),rfl,bel.frame _,fun h=>by cases h⟩
theorem closed:joinedFacts Tryz.prog 12 Tryz.f12 Rows.findReasonsSpec Rows.findReasonsRow=true:=by
 unfold joinedFacts
 rw [ioE,ioK,ioF]
 kernel_rfl
theorem over:Rows.findReasonsRow.holds Tryz.pinned (OpenSpec.ofChange Rows.findReasonsSpec) :=
  OpenClaim.holds_of_wide 12 Tryz.f12 rfl rfl rfl rfl rfl rfl rfl ⟨rfl, rfl, rfl, rfl, rfl⟩ rfl rfl rfl rfl rfl (by kernel_rfl) Tryz.func12 closed
    (of_decide_eq_true (by kernel_rfl)) (by unfold Func.isWrapper;first | (rw [if_pos (by decide +kernel)];kernel_rfl) | (rw [if_neg (by decide +kernel)];exact ⟨rfl,rfl⟩))
    (fun os started H enc _=>lifted os started H enc)
theorem proved:Rows.FindReasonsSaid:=over
end Go.Proofs.YtjkijdhdbhooiaaGreat
