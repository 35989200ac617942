/- FindOpen of the Find layer holds, whatever it is given. -/
import Derived.Test.YtjkijdhdbhooiaaGreatQ6
import Derived.Test.YtjkijdhdbhooiaaGreatRows
import Derived.WalkKit
import Derived.ProofKit
import Derived.OpenShut
import Derived.ShutString
import Derived.ChangeOld
import Derived.Below
set_option linter.all false
namespace Go.Proofs.YtjkijdhdbhooiaaGreat
open Go.ChangeShapes Go.WideShapes Go.ChangeAt Go.RowKit Go.Pm
open Go.ChangeMaps (open_string shut_string)
set_option linter.unusedVariables false
attribute [local irreducible] Go.Pm.vcFun Go.Pm.vc Go.Pm.vcC
theorem own:ownKnob Tryz.prog.godebug=none:=by kernel_rfl
theorem laidOut:laidOutB Tryz.prog=true:=by kernel_rfl
set_option maxRecDepth 100000 in
theorem lifted (os : Os) (started : os.Started) (H : Type) (enc : TypeId × Value → H) :
    ReturnsInHanded {} Tryz.checked os 14 .any (Rows.findOpenSpec.pre6 enc Tryz.prog Tryz.f14 Rows.findOpenRow.domain false) (Rows.findOpenSpec.post enc Tryz.prog Tryz.f14 false true false false):=by
  refine returnsInHanded_of_change (C := Tryz.checked) own started (by kernel_rfl) Tryz.func14
    (ChangeSpec.witness6 (enc:=enc) (C:=Tryz.checked) false ⟨#[],#[.int .i64 0],[]⟩ 8 (by kernel_rfl) (by kernel_rfl) (by kernel_rfl) (by kernel_rfl)) ?_
  intro W base args ds gs before zum hW zYr _
  have zlg:∀ (j:Nat) t v,Tryz.f14.params[j]? = some t→args[j]? = some v→Value.okWide Tryz.prog W .any base t v:=zum
  have hW':=hW
  obtain ⟨p,q,hA0,hV,rfl,NV,yN⟩:=hW
  have hA:DataW.TrodAll enc Tryz.prog W 0 (fun _=>true) true Tryz.f14.params.toList args.toList ds p:=hA0
  rw [Tryz.params14] at hA zlg
  obtain ⟨v0,vs0,d0,ds0,p0,q0,fO,rfl,rfl,h0,r0⟩:=trodAll_cons hA
  obtain ⟨rfl,rfl,rfl⟩:=trodAll_nil r0
  obtain rfl:args = #[v0]:=by cases args;simp_all
  obtain ⟨rfl,rfl⟩:=trodVars_none hV
  have k0:=h0
  have lt0:∀ x∈p0,x.block < W.heap.size:=by obtain ⟨m,hm⟩:=k0;exact DataW.trod_lt m _ _ _ hm
  obtain ⟨fu0,gg0⟩:=h0
  obtain ⟨a0,rr0,w0⟩:=zMt _ _ _ gg0
  have P0:pJ (H0 W) (iR.enc a0) v0:=zvO (Zg Tryz.underlying3 (by decide) (zlg 0 3 v0 rfl rfl)) rr0
  clear hA0 zum
  have cu:=(zRj (dm.enc (a0)) _ (zRz (a:=(a0)) rfl rfl (zRy a0)) W (H0 W) [v0] ⟨P0,trivial⟩ (zDg W)).2
  refine cu.mono fun e W' ⟨h',v,he,nS,hb,_,_,_⟩=>?_
  subst he
  have hv:v=.bool true:=by
    have hv:Rep h' (.bool true) v:=nS
    cases hv;rfl
  subst hv
  have bel:Below W.heap.size W W':=zhX hb
  exact ⟨_,rfl,_,_,_,[],_,[],hW',trodAll_mk1 (shut_bool Tryz.underlying4 _),(trodAll_cons_mk (Below.trod laidOut (by kernel_rfl) (of_decide_eq_true (by kernel_rfl)) k0 bel lt0) trodAll_mk0),rfl,bel.frame _,fun h=>by cases h⟩
theorem closed:joinedFacts Tryz.prog 14 Tryz.f14 Rows.findOpenSpec Rows.findOpenRow=true:=by
 unfold joinedFacts
 rw [ioE,ioK,ioF]
 kernel_rfl
theorem over:Rows.findOpenRow.holds Tryz.pinned (OpenSpec.ofChange Rows.findOpenSpec) :=
  OpenClaim.holds_of_wide 14 Tryz.f14 rfl rfl rfl rfl rfl rfl rfl ⟨rfl, rfl, rfl, rfl, rfl⟩ rfl rfl rfl rfl rfl (by kernel_rfl) Tryz.func14 closed
    (of_decide_eq_true (by kernel_rfl)) (by unfold Func.isWrapper;first | (rw [if_pos (by decide +kernel)];kernel_rfl) | (rw [if_neg (by decide +kernel)];exact ⟨rfl,rfl⟩))
    (fun os started H enc _=>lifted os started H enc)
theorem proved:Rows.FindOpenSaid:=over
end Go.Proofs.YtjkijdhdbhooiaaGreat
