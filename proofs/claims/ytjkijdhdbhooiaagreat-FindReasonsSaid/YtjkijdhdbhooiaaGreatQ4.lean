/- Part 4: framework, functions, plain laws. -/
import Derived.Test.YtjkijdhdbhooiaaGreatQ3
import Derived.Test.YtjkijdhdbhooiaaGreatProg
import Derived.Tactics
import Derived.Tactics2
import Derived.Recover
import Derived.RecoverIn
import Derived.TacticsInMore
import Derived.ProofKit
import Derived.Deep.Slices
import Derived.OpenShut
set_option linter.all false
noncomputable section
namespace Go.Pm
open Go Go.Proofs
variable [aH]
set_option maxRecDepth 100000
theorem zn8:∀caps:Array Value,caps.size=2->Gx Tryz.prog {target:=.fn (.func 177) caps,args:=#[]}:=λcaps hc=>by
 match caps,hc with
 | ⟨[x,y]⟩,_ =>
 refine⟨.func 177,#[x,y],177,#[x,y],rfl,λw=>?_,λn w=>?_⟩;have h:dm Tryz.prog 177:=⟨_,rfl,rfl,by kernel_rfl⟩;show(callFunc 177 (#[] ++ #[x,y])).run Tryz.prog w=_;exact ed h;have key:CallsDIn {fn:=λ_=>True,depth:=none,alive:=false,round:=none} n Tryz.prog 177 #[x,y] .returning w λe u' w'=>e=.returned (.tuple #[])/\u'=.returning/\w'=w:=by
  refine callsDIn_of_wpSIn Tryz.func177 rfl trivial λc₀ cs hu=>?_;apply wpSIn_seq;apply wpSIn_region;simp[wpOpsSIn,go_sem,recoverD,hu,Tryz.ntmps177,Exit.thenS];refine wpSIn_of_wpIn rfl (wpIn_block (wpIn_seq (wpIn_region ?_)));simp[wpOpsIn,go_sem,Oper.wpIn];refine wpIn_cond (t:=true) (by simp[Act.eval,Array.replicate]) ?_;simp only[OV];refine wpIn_region ?_;simp[wpOpsIn,go_sem,Oper.wpIn,Exit.inBlock];cases c₀;simp_all [bodyPostS,results,Tryz.results177]
 exact key.mono λe u' w' h=>⟨⟨_,h.1⟩,h.2⟩
theorem zFY:∃fs,Tryz.prog.underlying 254=some (.struct fs):=by
 have h:(match Tryz.prog.underlying 254 with|some (.struct _)=>true|_=>false)=true:=by kernel_rfl
 split at h;rename_i fs e;exact⟨fs,e⟩;cases h
abbrev zbY:qm:=⟨4,30,5,4,false,254⟩
theorem zFZ(v:Value)(w:World):(Instr.typeAssert (.iface 254 v) 20 254 true).run Tryz.prog w=.ok (.tuple #[v,.bool true]) w:=by
 obtain⟨fs,h⟩:=zFY;simp only[Instr.typeAssert,Sem.run_bind,run_underlying h,Result.andThen_ok,OV,Sem.run_pure]
theorem zxq:zFS Tryz.prog zbY 177:=λch fP v1 v2 w=>by
 unfold qm.ok at fP;split at fP
 rotate_left
 cases fP;rename_i ty kd nn;have hty:ty=254:=kP fP;subst hty;refine⟨#[.cells #[.int kd nn] 254 (0,0)],λw1 w2 h1 h2=>⟨λw=>?_,λn=>?_⟩⟩;have h:dm Tryz.prog 177:=⟨_,rfl,rfl,by kernel_rfl⟩;show(callFunc 177 (#[] ++ #[v1,v2])).run Tryz.prog w=_;exact ed h;have key:CallsDIn {fn:=λ_=>True,depth:=none,alive:=false,round:=none} n Tryz.prog 177 #[v1,v2] (.panicking [⟨.iface 254 (.agg #[.int kd nn]),false,false⟩]) w λe u' w'=>e=.returned (.tuple #[])/\u'=.panicking (zed [⟨.iface 254 (.agg #[.int kd nn]),false,false⟩])/\w'=w2:=by
  refine callsDIn_of_wpSIn Tryz.func177 rfl trivial λc₀ cs hu=>?_;apply wpSIn_seq;apply wpSIn_region;simp[wpOpsSIn,go_sem,recoverD,hu,Tryz.ntmps177,Exit.thenS];refine wpSIn_of_wpIn rfl (wpIn_block (wpIn_seq (wpIn_region ?_)));simp[wpOpsIn,go_sem,Oper.wpIn];refine wpIn_cond (t:=false) (by simp[Act.eval,Array.replicate]) ?_;simp only[qds,qd4];refine wpIn_seq (wpIn_region ?_);simp[wpOpsIn,go_sem,Oper.wpIn,zFZ];refine wpIn_cond (t:=true) (by simp[Act.eval,Array.replicate]) ?_;simp only[OV];refine wpIn_seq (wpIn_region ?_);simp[wpOpsIn,go_sem,Oper.wpIn];refine wpIn_region ?_;have e:w.alloc (Obj.cells #[.int kd nn] 254)={w with heap:=w.heap ++ #[.cells #[.int kd nn] 254 (0,0)]}:=by
   show({w with heap:=w.heap.push _}:World)=_;rw[Array.push_eq_append]
  rw[<- e]at h1;generalize hA:(Act.mk _ _)=A;have hA0:A.eval (.tmp 0)=v1:=by subst hA;simp[Act.eval]
  have hA1:A.eval (.tmp 1)=v2:=by subst hA;simp[Act.eval]
  have hc:A.eval (.const (.slice none 0 0))=.slice none 0 0:=rfl;have hc':A.eval (.const (.bool false))=.bool false:=rfl;have hAd:A.defers=[]:=by subst hA;rfl
  clear hA;show wpOpsIn _ n Tryz.prog _ _ [0,1] A _;have h1:(Instr.storeAt 30 v1 (.slice none 0 0)).run Tryz.prog (w.alloc (Obj.cells #[.int kd nn] 254))=.ok () w1:=h1;have h2:(Instr.storeAt 4 v2 (.bool false)).run Tryz.prog w1=.ok () w2:=h2;simp[wpOpsIn,Oper.wpIn,Oper.semAt,execOp,hA0,hA1,hc,hc',h1,h2,Region.wanted,Act.put,Oper.about,Exit.inBlock,Oper.uponIn_skip];clear e h1 h2 hA0 hA1 hc hc';cases c₀;simp[bodyPostS,results,Tryz.results177,zed,hAd]
 exact key.mono λe u' w' h=>⟨⟨_,h.1⟩,h.2⟩
theorem zio:zxk Tryz.prog zbY 177:=⟨zn8,zxq⟩
end Go.Pm
namespace Go.Pm
instance dz0:aH:=⟨0⟩
end Go.Pm
namespace Go.Proofs
open Go Go.Pm
set_option maxRecDepth 100000
abbrev aC:=Tryz.prog
structure bZ where
 Low:Int
 High:Int
deriving Inhabited
instance:bG bZ:=bG.iso (α:=Int×Int) (λ⟨x0,x1⟩=>⟨x0,x1⟩) (λx=>(x.Low,x.High)) (λ_=>rfl)
instance:iQ bZ:=.agg'
structure aT where
 Time:Int
 dQ:bZ
deriving Inhabited
instance:bG aT:=bG.iso (α:=Int×bZ) (λ⟨x0,x1⟩=>⟨x0,x1⟩) (λx=>(x.Time,x.dQ)) (λ_=>rfl)
instance:iQ aT:=.agg'
structure ak where
 Kind:Int
 View:Int
 Z:Int
 First:Int
 aY:Int
 bT:Int
 dK:Int
 bz:bZ
 Clock:bZ
 dL:Int
 Least:Int
 aT:Sl aT
 Dead:Sl Int
deriving Inhabited
instance:bG ak:=bG.iso (α:=Int×Int×Int×Int×Int×Int×Int×bZ×bZ×Int×Int×Sl aT×Sl Int) (λ⟨x0,x1,x2,x3,x4,x5,x6,x7,x8,x9,x10,pK,x12⟩=>⟨x0,x1,x2,x3,x4,x5,x6,x7,x8,x9,x10,pK,x12⟩) (λx=>(x.Kind,x.View,x.Z,x.First,x.aY,x.bT,x.dK,x.bz,x.Clock,x.dL,x.Least,x.aT,x.Dead)) (λ_=>rfl)
instance:iQ ak:=.agg'
structure au where
 aj:Sl ak
deriving Inhabited
instance:bG au:=bG.iso (α:=Sl ak) (λx0=>⟨x0⟩) (λx=>x.aj) (λ_=>rfl)
instance:iQ au:=.agg'
structure bC where
 rF:Int
 vM:Int
deriving Inhabited
instance:bG bC:=bG.iso (α:=Int×Int) (λ⟨x0,x1⟩=>⟨x0,x1⟩) (λx=>(x.rF,x.vM)) (λ_=>rfl)
instance:iQ bC:=.agg'
structure bi where
 ak:Int
 Channel:Int
 jR:Int
 aT:Int
 BQ:Int
 Time:Int
deriving Inhabited
instance:bG bi:=bG.iso (α:=Int×Int×Int×Int×Int×Int) (λ⟨x0,x1,x2,x3,x4,x5⟩=>⟨x0,x1,x2,x3,x4,x5⟩) (λx=>(x.ak,x.Channel,x.jR,x.aT,x.BQ,x.Time)) (λ_=>rfl)
instance:iQ bi:=.agg'
structure af where
 View:Int
 Hits:Sl Int
 aV:Sl Int
deriving Inhabited
instance:bG af:=bG.iso (α:=Int×Sl Int×Sl Int) (λ⟨x0,x1,x2⟩=>⟨x0,x1,x2⟩) (λx=>(x.View,x.Hits,x.aV)) (λ_=>rfl)
instance:iQ af:=.agg'
structure ax where
 Z:Int
 Low:Int
 High:Int
deriving Inhabited
instance:bG ax:=bG.iso (α:=Int×Int×Int) (λ⟨x0,x1,x2⟩=>⟨x0,x1,x2⟩) (λx=>(x.Z,x.Low,x.High)) (λ_=>rfl)
instance:iQ ax:=.agg'
structure aS where
 au:au
 hits:Sl bi
 iR:Sl (Sl ax)
 rules:bC
deriving Inhabited
instance:bG aS:=bG.iso (α:=au×Sl bi×Sl (Sl ax)×bC) (λ⟨x0,x1,x2,x3⟩=>⟨x0,x1,x2,x3⟩) (λx=>(x.au,x.hits,x.iR,x.rules)) (λ_=>rfl)
instance:iQ aS:=.agg'
structure placed where
 ak:ak
 index:Int
deriving Inhabited
instance:bG placed:=bG.iso (α:=ak×Int) (λ⟨x0,x1⟩=>⟨x0,x1⟩) (λx=>(x.ak,x.index)) (λ_=>rfl)
instance:iQ placed:=.agg'
structure found where
 aS:Pt aS
 fits:Sl af
 dw:Sl af
deriving Inhabited
instance:bG found:=bG.iso (α:=Pt aS×Sl af×Sl af) (λ⟨x0,x1,x2⟩=>⟨x0,x1,x2⟩) (λx=>(x.aS,x.fits,x.dw)) (λ_=>rfl)
instance:iQ found:=.agg'
structure aP where
 Num:Int
 bV:Int
deriving Inhabited
instance:bG aP:=bG.iso (α:=Int×Int) (λ⟨x0,x1⟩=>⟨x0,x1⟩) (λx=>(x.Num,x.bV)) (λ_=>rfl)
instance:iQ aP:=.agg'
structure Line where
 dX:aP
 Start:aP
deriving Inhabited
instance:bG Line:=bG.iso (α:=aP×aP) (λ⟨x0,x1⟩=>⟨x0,x1⟩) (λx=>(x.dX,x.Start)) (λ_=>rfl)
instance:iQ Line:=.agg'
structure list where
 bM:Sl ax
deriving Inhabited
instance:bG list:=bG.iso (α:=Sl ax) (λx0=>⟨x0⟩) (λx=>x.bM) (λ_=>rfl)
instance:iQ list:=.agg'
structure straight where
 bD:Int
 start:Int
 den:Int
deriving Inhabited
instance:bG straight:=bG.iso (α:=Int×Int×Int) (λ⟨x0,x1,x2⟩=>⟨x0,x1,x2⟩) (λx=>(x.bD,x.start,x.den)) (λ_=>rfl)
instance:iQ straight:=.agg'
structure set where
 list:list
 cZ:Sl straight
deriving Inhabited
instance:bG set:=bG.iso (α:=list×Sl straight) (λ⟨x0,x1⟩=>⟨x0,x1⟩) (λx=>(x.list,x.cZ)) (λ_=>rfl)
instance:iQ set:=.agg'
structure ziq where
 Z:Int
 X:Int
 W:Int
 Y:Int
deriving Inhabited
instance:bG ziq:=bG.iso (α:=Int×Int×Int×Int) (λ⟨x0,x1,x2,x3⟩=>⟨x0,x1,x2,x3⟩) (λx=>(x.Z,x.X,x.W,x.Y)) (λ_=>rfl)
instance:iQ ziq:=.agg'
structure zn9 where
 X:Int
 Y:Int
deriving Inhabited
instance:bG zn9:=bG.iso (α:=Int×Int) (λ⟨x0,x1⟩=>⟨x0,x1⟩) (λx=>(x.X,x.Y)) (λ_=>rfl)
instance:iQ zn9:=.agg'
structure bK where
 vN:Int
 Hits:Sl Int
 aj:Sl Int
 lC:af
deriving Inhabited
instance:bG bK:=bG.iso (α:=Int×Sl Int×Sl Int×af) (λ⟨x0,x1,x2,x3⟩=>⟨x0,x1,x2,x3⟩) (λx=>(x.vN,x.Hits,x.aj,x.lC)) (λ_=>rfl)
instance:iQ bK:=.agg'
structure Bin where
 View:Int
 Low:aP
 High:aP
deriving Inhabited
instance:bG Bin:=bG.iso (α:=Int×aP×aP) (λ⟨x0,x1,x2⟩=>⟨x0,x1,x2⟩) (λx=>(x.View,x.Low,x.High)) (λ_=>rfl)
instance:iQ Bin:=.agg'
structure Tally where
 zYD:Int
 zlE:Int
deriving Inhabited
instance:bG Tally:=bG.iso (α:=Int×Int) (λ⟨x0,x1⟩=>⟨x0,x1⟩) (λx=>(x.zYD,x.zlE)) (λ_=>rfl)
instance:iQ Tally:=.agg'
instance:uh Int:=⟨λ_=>rfl⟩
instance:uh Bool:=⟨λ_=>rfl⟩
instance:uh bZ:=⟨λ_=>rfl⟩
instance:uh aT:=⟨λ_=>rfl⟩
instance:uh ak:=⟨λ_=>rfl⟩
instance:uh au:=⟨λ_=>rfl⟩
instance:uh bC:=⟨λ_=>rfl⟩
instance:uh bi:=⟨λ_=>rfl⟩
instance:uh af:=⟨λ_=>rfl⟩
instance:uh ax:=⟨λ_=>rfl⟩
instance:uh aS:=⟨λ_=>rfl⟩
instance:uh placed:=⟨λ_=>rfl⟩
instance:uh found:=⟨λ_=>rfl⟩
instance:uh aP:=⟨λ_=>rfl⟩
instance:uh Line:=⟨λ_=>rfl⟩
instance:uh list:=⟨λ_=>rfl⟩
instance:uh straight:=⟨λ_=>rfl⟩
instance:uh set:=⟨λ_=>rfl⟩
instance:uh ziq:=⟨λ_=>rfl⟩
instance:uh zn9:=⟨λ_=>rfl⟩
instance:uh bK:=⟨λ_=>rfl⟩
instance:uh Bin:=⟨λ_=>rfl⟩
instance:uh Tally:=⟨λ_=>rfl⟩
theorem krY{p:Prop}(h:p:=by kernel_rfl):p:=h
theorem dO [aH]{P:Program}{N:Nat}{Γ:bI}{A δ ρ:Type}[dE δ][dE ρ]{aQ:dG}{f:FuncId}{x:δ}{k:ρ->Option A}{r:Option A}(h:Go.Pm.runT P Γ N aQ f (gW k) (dE.enc x)=r:=by kernel_rfl):(ae.ty (aF P N Γ aQ f) x:ae ρ).T k=r:=zPY.trans h
theorem dP [aH]{P:Program}{N:Nat}{T:Tabs}{vv:List Nat}{δ ρ:Type}[dE δ][dE ρ]{aQ:dG}{f:FuncId}(h:ay P T)(hb:VY P f=true:=by kernel_rfl):Ok P f (ae.un (ae.ty (aF P N (gq T vv) aQ f):δ->ae ρ)):=ztT (wF h (dJ hb))
abbrev ik{δ ρ:Type}[dE δ][dE ρ](N:Nat)(T:Tabs)(f:FuncId):δ->ae ρ:=ae.ty (aF Tryz.prog N (gq T []) (bP Tryz.prog f [] {}) f)
end Go.Proofs
namespace Go.Pm
variable [aH]
open Go Go.Deep
theorem zir(b o i j:Nat):((⟨b,o,none⟩:Addr).add i).add j=⟨b,o+i+j,none⟩:=by
 simp only[Addr.add];by_cases h1:i=0;subst h1;by_cases h2:j=0;subst h2;rfl;rw[fF h2];rfl;rw [fF h1];by_cases h2:j=0;subst h2;rfl;rw[fF h2]
def H0(w:World):Fz:=λb=>(w.heap[b]?).map .fz
theorem zF0(w:World):Hw (H0 w) w:=by
 intro b x h;unfold H0 at h;cases e:w.heap[b]? with|none=>rw[e]at h;cases h|some o=>rw[e]at h;cases h;exact⟨o,rfl,rfl⟩
def wfI(x:Int):Prop:=-9223372036854775808<=x/\x<=9223372036854775807
class rQ (α : Type) where
  wf:α->Prop
instance:rQ Int:=⟨wfI⟩
instance:rQ Bool:=⟨λ_=>True⟩
instance{α:Type}[rQ α]:rQ (Sl α):=⟨λx=>x.len<=9223372036854775807/\∀i,i<x.len->rQ.wf (x.get i)⟩
section
variable{H:Type}{en:TypeId×Value->H}{P:Program}{w:World}{sp:Nat->Bool}{held:Bool}
def Rd(H:Type)(en:TypeId×Value->H)(P:Program)(w:World)(sp:Nat->Bool)(held:Bool)(t:TypeId)(α:Type)[bG α][rQ α]:Prop :=
 ∀(fuel:Nat)(cs:List Value)(x:DataW H×List MemPlace),DataW.trod en P w 0 sp held fuel t cs=some x->∃a:α,RL (Rep (H0 w)) (bG.enc a) cs/\rQ.wf a
theorem Zp{t:TypeId}(ht:P.underlying t=some (.int .i64)):Rd H en P w sp held t Int:=by
 intro fuel cs x h;obtain⟨n,rfl,_,hw⟩:=DataW.trod_int ht h;refine⟨n,⟨.int _ _,trivial⟩,?_⟩;simp only[Lit.wf,gz,oW]at hw;exact⟨hw.1,hw.2⟩
theorem nU{t:TypeId}{fs:Array Field}(ht:P.underlying t=some (.struct fs)){fuel:Nat}{cs:List Value}{x:DataW H×List MemPlace}(h:DataW.trod en P w 0 sp held fuel t cs=some x) :
  cs.length=P.cellsOf t/\∀(i:Nat)(f:Field),fs[i]? = some f->∃n y,DataW.trod en P w 0 sp held n f.type ((cs.drop f.offset).take (P.cellsOf f.type))=some y:=by
 obtain⟨xs,n,_,_,hl,hx,hf⟩:=DataW.trod_struct ht h;refine⟨hl,λi f hi=>?_⟩;have iw:i<xs.length:=by rw[hx];exact(Us.1 hi).1
 exact⟨n,xs[i],by rw[hf i f hi,Ae iw]⟩
theorem Dw{t e:TypeId}{α:Type}[bG α][rQ α][Inhabited α]{s:Nat}(ht:P.underlying t=some (.slice e))(hc:P.cellsOf e=s)(he:s=(bG.enc (default:α)).length)(hs:0<s)
    (Gt:Rd H en P w sp held e α):Rd H en P w sp held t (Sl α):=by
  have hlen:∀a:α,(bG.enc a).length=s:=λa=>by rw[he];exact(bG.sm a default).length
  intro fuel cs x h;rcases open_slice ht h with⟨rfl,_⟩|⟨a,len,cap,m,n,D,Pl,rfl,_,hl,hm,hmm,_,zaO⟩
  exact⟨⟨0,λ_=>default⟩,⟨.sl0 _ _ (λ_ _=>bG.sm _ _),trivial⟩,AP _,λi hi=>absurd hi (Ut i)⟩
  · by_cases h0 : len = 0;subst h0;exact⟨⟨0,λ _=>default⟩,⟨.sle _ _ _ _ (λ _ _=>bG.sm _ _),trivial⟩,AP _,λ i hi=>absurd hi (Ut i)⟩
    · have hlm : len ≤ m := by rw [hmm]; split <;> omega
      rw[hc]at zaO;have hex:∀i,i<len->∃y:α,(∃Ij,w.cells? 0 (a.add (i*s)) s=some Ij/\RL (Rep (H0 w)) (bG.enc y) Ij)/\rQ.wf y:=by
        intro i hi;obtain⟨Ij,h1,h2⟩:=zaO i omY;obtain⟨y,h3,h4⟩:=Gt _ _ _ h2;exact⟨y,⟨Ij,h1,h3⟩,h4⟩
      have hch:∃f:Nat->α,∀i,i<len->(∃Ij,w.cells? 0 (a.add (i*s)) s=some Ij/\RL (Rep (H0 w)) (bG.enc (f i)) Ij)/\rQ.wf (f i):=by
        refine⟨λi=>if hi:i<len then Classical.choose (hex i hi)else default,λi hi=>?_⟩;simp only[dif_pos hi];exact Classical.choose_spec (hex i hi)
      obtain⟨f,hf⟩:=hch
      -- the block
      have nG:∀i,i<len->∀j,j<s->∃Ij,w.cells? 0 (a.add (i*s)) s=some Ij/\RL (Rep (H0 w)) (bG.enc (f i)) Ij/\w.cell? ((a.add (i*s)).add j)=Ij[j]?/\Ij.length=s:=by
        intro i hi j hj;obtain⟨⟨Ij,h1,h2⟩,_⟩:=hf i hi;obtain⟨_,h3,h4⟩:=World.cells?_some h1;exact⟨Ij,h1,h2,h4 j hj,h3⟩
      obtain⟨cs0,_,_,hc0,hl0⟩:=nG 0 omY 0 hs;have ha0:w.cell? a=cs0[0]?:=by simpa [Addr.add]using hc0
      rw[Ae omY]at ha0;obtain⟨C,ty,fr,hblk,zLA⟩:∃C ty fr,w.heap[a.block]? = some (.cells C ty fr)/\a.spot=none:=by
        unfold World.cell? at ha0;split at ha0
        · rename_i C ty fr hb;refine⟨C,ty,fr,hb,?_⟩;cases hsp:a.spot with|none=>rfl|some k=>rw[hsp]at ha0;simp at ha0
        cases ha0
      have ea:a=⟨a.block,a.off,none⟩:=by rw[<- zLA]
      have hat:∀i j,i<len->j<s->∃Ij,RL (Rep (H0 w)) (bG.enc (f i)) Ij/\C[a.off+i*s+j]? = Ij[j]?/\Ij.length=s:=by
        intro i j hi hj;obtain⟨Ij,_,h2,h3,h4⟩:=nG i hi j hj;refine⟨Ij,h2,?_,h4⟩;rw[<- h3];have e2:(a.add (i*s)).add j=⟨a.block,a.off+i*s+j,none⟩:=(kz (λz:Addr=>(z.add (i*s)).add j) ea).trans (zir _ _ _ _);rw[e2];simp[World.cell?,hblk]
      refine⟨⟨len,f⟩,⟨?_,trivial⟩,by simp only[maxLen]at hm;show len<=_;omega,λi hi=>(hf i hi).2⟩;rw[ea];show Rep (H0 w) (.sl len (bG.enc (default:α)).length (λi=>bG.enc (f i))) _;rw[<- he];refine .sl len s _ (λ_ _=>bG.sm _ _) a.block a.off cap C ty fr (λi j=>C.getD (a.off+i*s+j) undef) (by simp[H0,hblk]) hl (λi _=>hlen _) ?_ ?_;intro i j x hi hx;have hj:j<s:=by have:=(AL.1 hx).1;rw[hlen]at this;exact this
      obtain⟨Ij,h1,h2,h3⟩:=hat i j hi hj;rw[xI,h2,Ae omY];rfl;intro i j x hi hx;have hj:j<s:=by have:=(AL.1 hx).1;rw[hlen]at this;exact this
      obtain⟨Ij,h1,h2,h3⟩:=hat i j hi hj;obtain⟨v,hv,hr⟩:=h1.get j x hx;rw[xI,h2,hv];exact hr
theorem dH{α:Type}(l:List α)(o s:Nat):l.drop o=(l.drop o).take s++l.drop (o+s):=by
 rw[<- List.drop_drop];exact(List.take_append_drop s (l.drop o)).symm
theorem Bq{t:TypeId}{fs:Array Field}{r:Reach}{base:Nat}{v:Value}(ht:P.underlying t=some (.struct fs))(h:Value.okWide P w r base t v):∃cs,v=.agg cs:=by
 unfold Value.okWide at h;rw[ht]at h;obtain⟨cs,hv,_⟩:=h;exact⟨cs,hv⟩
def zF1:TypeDesc→Bool|.struct _=>false|.array _ _=>false|_=>true
theorem Zq{t:TypeId}{d:TypeDesc}{r:Reach}{base:Nat}{v:Value}(ht:P.underlying t=some d)(hd:zF1 d=true)(h:Value.okWide P w r base t v):v.cells.toList=[v]:=by
 unfold Value.okWide at h;rw[ht]at h;cases v with
 | agg cs =>
  exfalso;cases d<;>first|(cases hd;done)|(simp only[Cell.okWide,Cell.ok,ht]at h)
 | _=>rfl
theorem zxr{h:Fz}{p:PV}{v:Value}(hv:v.cells.toList=[v])(r:RL (Rep h) [p] v.cells.toList):nN h (.one p) v:=by
 rw[hv]at r;exact r.1
theorem Zr{h:Fz}{l:List PV}{v:Value}(hv:∃cs,v=.agg cs)(r:RL (Rep h) l v.cells.toList):nN h (.agg l) v:=by
 obtain⟨cs,rfl⟩:=hv;exact⟨cs.toList,by simp,r⟩
theorem zis{w':World}(b:xx (H0 w) w.heap.size w w'):Go.RowKit.Below w.heap.size w w' :=
 ⟨b.os,b.tape,b.output,b.size,λk hk=>b.block k hk⟩
end
end Go.Pm
namespace Go.Proofs
open Go Go.Pm
set_option maxRecDepth 100000
theorem RN:Tryz.prog.cellsOf 3=1:=krY
theorem zP2:Tryz.prog.cellsOf 22=1:=krY
theorem zP3:Tryz.prog.cellsOf 24=1:=krY
theorem zP4:Tryz.prog.cellsOf 26=2:=krY
theorem zF2:Tryz.prog.cellsOf 38=1:=krY
theorem zxs:Tryz.prog.cellsOf 39=1:=krY
theorem zP5:Tryz.prog.cellsOf 43=3:=krY
theorem zF3:Tryz.prog.cellsOf 92=6:=krY
theorem zbZ:Tryz.prog.cellsOf 105=2:=krY
theorem zF4:Tryz.prog.cellsOf 121=1:=krY
theorem zF5:Tryz.prog.cellsOf 122=1:=krY
theorem zt2:Tryz.prog.cellsOf 124=15:=krY
theorem zt3:Tryz.prog.cellsOf 264=3:=krY
section
variable{H:Type}{en:TypeId×Value->H}{w:World}{sp:Nat->Bool}{held:Bool}
theorem zxt:Rd H en Tryz.prog w sp held 121 Int:=Zp Tryz.underlying121
theorem zt4:Rd H en Tryz.prog w sp held 38 Int:=Zp Tryz.underlying38
theorem wH:Rd H en Tryz.prog w sp held 3 Int:=Zp Tryz.underlying3
instance:rQ bZ:=⟨λx=>rQ.wf x.Low/\rQ.wf x.High⟩
theorem Zt:Rd H en Tryz.prog w sp held 105 bZ:=by
 intro fuel cs x h;obtain⟨hl,hf⟩:=nU Tryz.underlying105 h;rw[zbZ]at hl;obtain⟨n0,y0,g0⟩:=hf 0 _ rfl;have g0:DataW.trod en Tryz.prog w 0 sp held n0 3 ((cs.drop 0).take (Tryz.prog.cellsOf 3))=some y0:=g0;rw[RN]at g0;obtain⟨a0,r0,w0⟩:=wH _ _ _ g0;obtain⟨n1,y1,g1⟩:=hf 1 _ rfl;have g1:DataW.trod en Tryz.prog w 0 sp held n1 3 ((cs.drop 1).take (Tryz.prog.cellsOf 3))=some y1:=g1;rw[RN]at g1;obtain⟨a1,r1,w1⟩:=wH _ _ _ g1;rw[dq3 (l:=cs.drop 1) (by rw[qdd];omega)]at r1;have R:=(r0.append r1);rw[<- (show cs.drop 0=(cs.drop 0).take 1++cs.drop 1 from dH cs 0 1)]at R;exact⟨⟨a0,a1⟩,R,⟨w0,w1⟩⟩
instance:rQ aT:=⟨λx=>rQ.wf x.Time/\rQ.wf x.dQ⟩
theorem zxu:Rd H en Tryz.prog w sp held 264 aT:=by
 intro fuel cs x h;obtain⟨hl,hf⟩:=nU Tryz.underlying264 h;rw[zt3]at hl;obtain⟨n0,y0,g0⟩:=hf 0 _ rfl;have g0:DataW.trod en Tryz.prog w 0 sp held n0 3 ((cs.drop 0).take (Tryz.prog.cellsOf 3))=some y0:=g0;rw[RN]at g0;obtain⟨a0,r0,w0⟩:=wH _ _ _ g0;obtain⟨n1,y1,g1⟩:=hf 1 _ rfl;have g1:DataW.trod en Tryz.prog w 0 sp held n1 105 ((cs.drop 1).take (Tryz.prog.cellsOf 105))=some y1:=g1;rw[zbZ]at g1;obtain⟨a1,r1,w1⟩:=Zt _ _ _ g1;rw[dq3 (l:=cs.drop 1) (by rw[qdd];omega)]at r1;have R:=(r0.append r1);rw[<- (show cs.drop 0=(cs.drop 0).take 1++cs.drop 1 from dH cs 0 1)]at R;exact⟨⟨a0,a1⟩,R,⟨w0,w1⟩⟩
theorem zxv:Rd H en Tryz.prog w sp held 122 (Sl aT):=Dw Tryz.underlying122 zt3 rfl (by decide) zxu
theorem zit:Rd H en Tryz.prog w sp held 39 (Sl Int):=Dw Tryz.underlying39 RN rfl (by decide) wH
instance:rQ ak:=⟨λx=>rQ.wf x.Kind/\rQ.wf x.View/\rQ.wf x.Z/\rQ.wf x.First/\rQ.wf x.aY/\rQ.wf x.bT/\rQ.wf x.dK/\rQ.wf x.bz/\rQ.wf x.Clock/\rQ.wf x.dL/\rQ.wf x.Least/\rQ.wf x.aT/\rQ.wf x.Dead⟩
theorem zxw:Rd H en Tryz.prog w sp held 124 ak:=by
 intro fuel cs x h;obtain⟨hl,hf⟩:=nU Tryz.underlying124 h;rw[zt2]at hl;obtain⟨n0,y0,g0⟩:=hf 0 _ rfl;have g0:DataW.trod en Tryz.prog w 0 sp held n0 121 ((cs.drop 0).take (Tryz.prog.cellsOf 121))=some y0:=g0;rw[zF4]at g0;obtain⟨a0,r0,w0⟩:=zxt _ _ _ g0;obtain⟨n1,y1,g1⟩:=hf 1 _ rfl;have g1:DataW.trod en Tryz.prog w 0 sp held n1 38 ((cs.drop 1).take (Tryz.prog.cellsOf 38))=some y1:=g1;rw[zF2]at g1;obtain⟨a1,r1,w1⟩:=zt4 _ _ _ g1;obtain⟨n2,y2,g2⟩:=hf 2 _ rfl;have g2:DataW.trod en Tryz.prog w 0 sp held n2 3 ((cs.drop 2).take (Tryz.prog.cellsOf 3))=some y2:=g2;rw[RN]at g2;obtain⟨a2,r2,w2⟩:=wH _ _ _ g2;obtain⟨n3,y3,g3⟩:=hf 3 _ rfl;have g3:DataW.trod en Tryz.prog w 0 sp held n3 3 ((cs.drop 3).take (Tryz.prog.cellsOf 3))=some y3:=g3;rw[RN]at g3;obtain⟨a3,r3,w3⟩:=wH _ _ _ g3;obtain⟨n4,y4,g4⟩:=hf 4 _ rfl;have g4:DataW.trod en Tryz.prog w 0 sp held n4 3 ((cs.drop 4).take (Tryz.prog.cellsOf 3))=some y4:=g4;rw[RN]at g4;obtain⟨a4,r4,w4⟩:=wH _ _ _ g4;obtain⟨n5,y5,g5⟩:=hf 5 _ rfl;have g5:DataW.trod en Tryz.prog w 0 sp held n5 3 ((cs.drop 5).take (Tryz.prog.cellsOf 3))=some y5:=g5;rw[RN]at g5;obtain⟨a5,r5,w5⟩:=wH _ _ _ g5;obtain⟨n6,y6,g6⟩:=hf 6 _ rfl;have g6:DataW.trod en Tryz.prog w 0 sp held n6 3 ((cs.drop 6).take (Tryz.prog.cellsOf 3))=some y6:=g6;rw[RN]at g6;obtain⟨a6,r6,w6⟩:=wH _ _ _ g6;obtain⟨n7,y7,g7⟩:=hf 7 _ rfl;have g7:DataW.trod en Tryz.prog w 0 sp held n7 105 ((cs.drop 7).take (Tryz.prog.cellsOf 105))=some y7:=g7;rw[zbZ]at g7;obtain⟨a7,r7,w7⟩:=Zt _ _ _ g7;obtain⟨n8,y8,g8⟩:=hf 8 _ rfl;have g8:DataW.trod en Tryz.prog w 0 sp held n8 105 ((cs.drop 9).take (Tryz.prog.cellsOf 105))=some y8:=g8;rw[zbZ]at g8;obtain⟨a8,r8,w8⟩:=Zt _ _ _ g8;obtain⟨n9,y9,g9⟩:=hf 9 _ rfl;have g9:DataW.trod en Tryz.prog w 0 sp held n9 3 ((cs.drop 11).take (Tryz.prog.cellsOf 3))=some y9:=g9;rw[RN]at g9;obtain⟨a9,r9,w9⟩:=wH _ _ _ g9;obtain⟨n10,y10,g10⟩:=hf 10 _ rfl;have g10:DataW.trod en Tryz.prog w 0 sp held n10 3 ((cs.drop 12).take (Tryz.prog.cellsOf 3))=some y10:=g10;rw[RN]at g10;obtain⟨a10,Ua,w10⟩:=wH _ _ _ g10;obtain⟨n11,y11,g11⟩:=hf 11 _ rfl;have g11:DataW.trod en Tryz.prog w 0 sp held n11 122 ((cs.drop 13).take (Tryz.prog.cellsOf 122))=some y11:=g11;rw[zF5]at g11;obtain⟨a11,r11,w11⟩:=zxv _ _ _ g11;obtain⟨n12,y12,g12⟩:=hf 12 _ rfl;have g12:DataW.trod en Tryz.prog w 0 sp held n12 39 ((cs.drop 14).take (Tryz.prog.cellsOf 39))=some y12:=g12;rw[zxs]at g12;obtain⟨a12,r12,w12⟩:=zit _ _ _ g12;rw[dq3 (l:=cs.drop 14) (by rw[qdd];omega)]at r12;have R:=(r0.append (r1.append (r2.append (r3.append (r4.append (r5.append (r6.append (r7.append (r8.append (r9.append (Ua.append (r11.append r12))))))))))));rw[<- (show cs.drop 13=(cs.drop 13).take 1++cs.drop 14 from dH cs 13 1)]at R;rw[<- (show cs.drop 12=(cs.drop 12).take 1++cs.drop 13 from dH cs 12 1)]at R;rw[<- (show cs.drop 11=(cs.drop 11).take 1++cs.drop 12 from dH cs 11 1)]at R;rw[<- (show cs.drop 9=(cs.drop 9).take 2++cs.drop 11 from dH cs 9 2)]at R;rw[<- (show cs.drop 7=(cs.drop 7).take 2++cs.drop 9 from dH cs 7 2)]at R;rw[<- (show cs.drop 6=(cs.drop 6).take 1++cs.drop 7 from dH cs 6 1)]at R;rw[<- (show cs.drop 5=(cs.drop 5).take 1++cs.drop 6 from dH cs 5 1)]at R;rw[<- (show cs.drop 4=(cs.drop 4).take 1++cs.drop 5 from dH cs 4 1)]at R;rw[<- (show cs.drop 3=(cs.drop 3).take 1++cs.drop 4 from dH cs 3 1)]at R;rw[<- (show cs.drop 2=(cs.drop 2).take 1++cs.drop 3 from dH cs 2 1)]at R;rw[<- (show cs.drop 1=(cs.drop 1).take 1++cs.drop 2 from dH cs 1 1)]at R;rw[<- (show cs.drop 0=(cs.drop 0).take 1++cs.drop 1 from dH cs 0 1)]at R;exact⟨⟨a0,a1,a2,a3,a4,a5,a6,a7,a8,a9,a10,a11,a12⟩,R,⟨w0,w1,w2,w3,w4,w5,w6,w7,w8,w9,w10,w11,w12⟩⟩
theorem zF6:Rd H en Tryz.prog w sp held 22 (Sl ak):=Dw Tryz.underlying22 zt2 rfl (by decide) zxw
instance:rQ au:=⟨λx=>rQ.wf x.aj⟩
theorem zF7:Rd H en Tryz.prog w sp held 24 au:=by
 intro fuel cs x h;obtain⟨hl,hf⟩:=nU Tryz.underlying24 h;rw[zP3]at hl;obtain⟨n0,y0,g0⟩:=hf 0 _ rfl;have g0:DataW.trod en Tryz.prog w 0 sp held n0 22 ((cs.drop 0).take (Tryz.prog.cellsOf 22))=some y0:=g0;rw[zP2]at g0;obtain⟨a0,r0,w0⟩:=zF6 _ _ _ g0;rw[dq3 (l:=cs.drop 0) (by rw[qdd];omega)]at r0;have R:=r0;exact⟨⟨a0⟩,R,w0⟩
instance:rQ bC:=⟨λx=>rQ.wf x.rF/\rQ.wf x.vM⟩
theorem zF8:Rd H en Tryz.prog w sp held 26 bC:=by
 intro fuel cs x h;obtain⟨hl,hf⟩:=nU Tryz.underlying26 h;rw[zP4]at hl;obtain⟨n0,y0,g0⟩:=hf 0 _ rfl;have g0:DataW.trod en Tryz.prog w 0 sp held n0 3 ((cs.drop 0).take (Tryz.prog.cellsOf 3))=some y0:=g0;rw[RN]at g0;obtain⟨a0,r0,w0⟩:=wH _ _ _ g0;obtain⟨n1,y1,g1⟩:=hf 1 _ rfl;have g1:DataW.trod en Tryz.prog w 0 sp held n1 3 ((cs.drop 1).take (Tryz.prog.cellsOf 3))=some y1:=g1;rw[RN]at g1;obtain⟨a1,r1,w1⟩:=wH _ _ _ g1;rw[dq3 (l:=cs.drop 1) (by rw[qdd];omega)]at r1;have R:=(r0.append r1);rw[<- (show cs.drop 0=(cs.drop 0).take 1++cs.drop 1 from dH cs 0 1)]at R;exact⟨⟨a0,a1⟩,R,⟨w0,w1⟩⟩
instance:rQ bi:=⟨λx=>rQ.wf x.ak/\rQ.wf x.Channel/\rQ.wf x.jR/\rQ.wf x.aT/\rQ.wf x.BQ/\rQ.wf x.Time⟩
theorem zF9:Rd H en Tryz.prog w sp held 92 bi:=by
 intro fuel cs x h;obtain⟨hl,hf⟩:=nU Tryz.underlying92 h;rw[zF3]at hl;obtain⟨n0,y0,g0⟩:=hf 0 _ rfl;have g0:DataW.trod en Tryz.prog w 0 sp held n0 3 ((cs.drop 0).take (Tryz.prog.cellsOf 3))=some y0:=g0;rw[RN]at g0;obtain⟨a0,r0,w0⟩:=wH _ _ _ g0;obtain⟨n1,y1,g1⟩:=hf 1 _ rfl;have g1:DataW.trod en Tryz.prog w 0 sp held n1 3 ((cs.drop 1).take (Tryz.prog.cellsOf 3))=some y1:=g1;rw[RN]at g1;obtain⟨a1,r1,w1⟩:=wH _ _ _ g1;obtain⟨n2,y2,g2⟩:=hf 2 _ rfl;have g2:DataW.trod en Tryz.prog w 0 sp held n2 3 ((cs.drop 2).take (Tryz.prog.cellsOf 3))=some y2:=g2;rw[RN]at g2;obtain⟨a2,r2,w2⟩:=wH _ _ _ g2;obtain⟨n3,y3,g3⟩:=hf 3 _ rfl;have g3:DataW.trod en Tryz.prog w 0 sp held n3 3 ((cs.drop 3).take (Tryz.prog.cellsOf 3))=some y3:=g3;rw[RN]at g3;obtain⟨a3,r3,w3⟩:=wH _ _ _ g3;obtain⟨n4,y4,g4⟩:=hf 4 _ rfl;have g4:DataW.trod en Tryz.prog w 0 sp held n4 3 ((cs.drop 4).take (Tryz.prog.cellsOf 3))=some y4:=g4;rw[RN]at g4;obtain⟨a4,r4,w4⟩:=wH _ _ _ g4;obtain⟨n5,y5,g5⟩:=hf 5 _ rfl;have g5:DataW.trod en Tryz.prog w 0 sp held n5 3 ((cs.drop 5).take (Tryz.prog.cellsOf 3))=some y5:=g5;rw[RN]at g5;obtain⟨a5,r5,w5⟩:=wH _ _ _ g5;rw[dq3 (l:=cs.drop 5) (by rw[qdd];omega)]at r5;have R:=(r0.append (r1.append (r2.append (r3.append (r4.append r5)))));rw[<- (show cs.drop 4=(cs.drop 4).take 1++cs.drop 5 from dH cs 4 1)]at R;rw[<- (show cs.drop 3=(cs.drop 3).take 1++cs.drop 4 from dH cs 3 1)]at R;rw[<- (show cs.drop 2=(cs.drop 2).take 1++cs.drop 3 from dH cs 2 1)]at R;rw[<- (show cs.drop 1=(cs.drop 1).take 1++cs.drop 2 from dH cs 1 1)]at R;rw[<- (show cs.drop 0=(cs.drop 0).take 1++cs.drop 1 from dH cs 0 1)]at R;exact⟨⟨a0,a1,a2,a3,a4,a5⟩,R,⟨w0,w1,w2,w3,w4,w5⟩⟩
theorem zGa:Rd H en Tryz.prog w sp held 27 (Sl bi):=Dw Tryz.underlying27 zF3 rfl (by decide) zF9
instance:rQ af:=⟨λx=>rQ.wf x.View/\rQ.wf x.Hits/\rQ.wf x.aV⟩
theorem zGb:Rd H en Tryz.prog w sp held 43 af:=by
 intro fuel cs x h;obtain⟨hl,hf⟩:=nU Tryz.underlying43 h;rw[zP5]at hl;obtain⟨n0,y0,g0⟩:=hf 0 _ rfl;have g0:DataW.trod en Tryz.prog w 0 sp held n0 38 ((cs.drop 0).take (Tryz.prog.cellsOf 38))=some y0:=g0;rw[zF2]at g0;obtain⟨a0,r0,w0⟩:=zt4 _ _ _ g0;obtain⟨n1,y1,g1⟩:=hf 1 _ rfl;have g1:DataW.trod en Tryz.prog w 0 sp held n1 39 ((cs.drop 1).take (Tryz.prog.cellsOf 39))=some y1:=g1;rw[zxs]at g1;obtain⟨a1,r1,w1⟩:=zit _ _ _ g1;obtain⟨n2,y2,g2⟩:=hf 2 _ rfl;have g2:DataW.trod en Tryz.prog w 0 sp held n2 39 ((cs.drop 2).take (Tryz.prog.cellsOf 39))=some y2:=g2;rw[zxs]at g2;obtain⟨a2,r2,w2⟩:=zit _ _ _ g2;rw[dq3 (l:=cs.drop 2) (by rw[qdd];omega)]at r2;have R:=(r0.append (r1.append r2));rw[<- (show cs.drop 1=(cs.drop 1).take 1++cs.drop 2 from dH cs 1 1)]at R;rw[<- (show cs.drop 0=(cs.drop 0).take 1++cs.drop 1 from dH cs 0 1)]at R;exact⟨⟨a0,a1,a2⟩,R,⟨w0,w1,w2⟩⟩
end
structure E23 where
 N:Nat
abbrev G23(E:E23):bI:=gq Tabs.nil []
def A23:dG:=bP aC 23 [] {}
def F23(E:E23):au×(Sl bi)×Int->ae Bool:=ae.ty (aF aC E.N (G23 E) A23 23)
section
variable(E:E23){A:Type}(k:Bool->Option A)
def LQ(E:E23)(n:Nat)(a0:au)(v7:Int){A:Type}(k:Bool->Option A):Option A:=gX aC (G23 E) E.N A23 23 [1,1,0,1,0] [.n n] (gW k) ⟨[(3,.cl (.ptr 3 0)),(7,.int v7)],[(3,eB 24 a0)],[]⟩
theorem e23(a0:au)(a1:Sl bi)(a2:Int):(F23 E (a0,a1,a2)).T k=cond (decide ((a0.aj.len:Int)>20)) (k false) (cond (decide ((a1.len:Int)>a2)) (cond (decide ((a1.len:Int)<=24)) (k false) (cond (decide ((a1.len:Int)>40)) (k false) (LQ E E.N a0 0 k))) (cond (decide ((a1.len:Int)>40)) (k false) (LQ E E.N a0 0 k))):=dO
theorem zt5(n0:Nat)(a0:au)(v7:Int):LQ E (n0+1) a0 v7 k=cond (decide (v7<(a0.aj.len:Int))) (aU (decide (0<=v7/\v7<(a0.aj.len:Int))) (cond (decide (((a0.aj.get v7.toNat).aT.len:Int)>60)) (k false) (aU (decide (0<=v7/\v7<(a0.aj.len:Int))) (cond (decide (((a0.aj.get v7.toNat).Dead.len:Int)>110)) (k false) (LQ E n0 a0 (aO (v7+1)) k))))) (k true):=krY
end
theorem o23 [aH](E:E23):Ok aC 23 (ae.un (F23 E)):=dP ay.nil
structure E24 where
 N:Nat
def F24(E:E24):af->ae Bool:=ik E.N Tabs.nil 24
theorem e24(E:E24){A:Type}(k:Bool→Option A)(a0:af):(F24 E (a0)).T k=cond (decide ((a0.Hits.len:Int)<=30)) (k (decide ((a0.aV.len:Int)<=30))) (k false):=dO
theorem o24 [aH](E:E24):Ok aC 24 (ae.un (F24 E)):=dP ay.nil
structure E26 where
 N:Nat
 c61:au->ae Bool
 c62:bC->ae Bool
 c85:au×(Sl bi)->ae Bool
def F26(E:E26):au×bC×(Sl bi)->ae Int:=ik E.N (((Tabs.nil.addF 61 (ae.un E.c61)).addF 62 (ae.un E.c62)).addF 85 (ae.un E.c85)) 26
theorem e26(E:E26){A:Type}(k:Int→Option A)(a0:au)(a1:bC)(a2:Sl bi):(F26 E (a0,a1,a2)).T k=cond (decide ((a2.len:Int)>24)) (k 3) ((E.c61 a0).T λr1=>cond (!r1) (k 2) ((E.c62 a1).T λr2=>cond (!r2) (k 2) ((E.c85 (a0,a2)).T λr3=>cond (!r3) (k 2) (k 0)))):=dO
theorem o26 [aH](E:E26)(h61:Ok aC 61 (ae.un E.c61))(h62:Ok aC 62 (ae.un E.c62))(h85:Ok aC 85 (ae.un E.c85)):Ok aC 26 (ae.un (F26 E)):=dP (((ay.nil.addF h61).addF h62).addF h85)
structure E27 where
 N:Nat
 c34:Int->ae Bool
 X3:Int×Int×Int->ae Bool
 c75:au×bi->ae ((Sl ax))
 c87:(Sl bi)×(Sl Int)×Int->ae Bool
abbrev G27(E:E27):bI:=gq ((((Tabs.nil.addF 34 (ae.un E.c34)).addF 86 (ae.un E.X3)).addF 75 (ae.un E.c75)).addF 87 (ae.un E.c87)) []
def A27:dG:=bP aC 27 [] {cut:=[8,9]}
def F27(E:E27):au×(Sl bi)×af->ae Bool:=ae.ty (aF aC E.N (G27 E) A27 27)
section
variable(E:E27){A:Type}(k:Bool->Option A)
def VZ(E:E27)(n:Nat)(a0:au)(a1:Sl bi)(a2:af)(v7:Int){A:Type}(k:Bool->Option A):Option A:=gX aC (G27 E) E.N A27 27 [1,1,0,1,0] [.n n] (gW k) ⟨[(1,eP a1),(3,.cl (.ptr 3 0)),(5,.cl (.ptr 5 0)),(7,.int v7)],[(3,eB 24 a0),(5,eB 43 a2)],[]⟩
def zb0(E:E27)(n0:Nat)(a0:au)(a1:Sl bi)(a2:af)(v7:Int){A:Type}(k:Bool->Option A):Option A:=gX aC (G27 E) E.N A27 27 [1,1,0,1,0,0,1,0,0,1] [.n n0] (gW k) ⟨[(1,eP a1),(3,.cl (.ptr 3 0)),(5,.cl (.ptr 5 0)),(7,.int v7)],[(3,eB 24 a0),(5,eB 43 a2)],[]⟩
def zt7(E:E27)(n0:Nat)(a0:au)(a1:Sl bi)(a2:af)(v7:Int)(x8:bi){A:Type}(k:Bool->Option A):Option A:=gX aC (G27 E) E.N A27 27 [1,1,0,1,0,0,1,0,0,1,1] [.n n0] (gW k) ⟨[(1,eP a1),(3,.cl (.ptr 3 0)),(5,.cl (.ptr 5 0)),(7,.int v7),(8,.cl (.ptr 8 0))],[(3,eB 24 a0),(5,eB 43 a2),(8,eB 92 x8)],[]⟩
theorem e27(a0:au)(a1:Sl bi)(a2:af):(F27 E (a0,a1,a2)).T k=(E.c34 a2.View).T λr1=>cond (!r1) (k false) (cond ((a2.Hits.len:Int)==0) (k false) (cond ((a2.aV.len:Int) != (a2.Hits.len:Int)) (k false) (VZ E E.N a0 a1 a2 0 k))):=dO
theorem zt8(n0:Nat)(a0:au)(a1:Sl bi)(a2:af)(v7:Int):VZ E (n0+1) a0 a1 a2 v7 k=cond (decide (v7<(a2.Hits.len:Int))) (aU (decide (0<=v7/\v7<(a2.Hits.len:Int))) ((E.X3 (a2.Hits.get v7.toNat,0,(aO ((a1.len:Int)-1)))).T λr1=>cond (!r1) (k false) (cond (decide (v7>0)) (aU (decide (0<=v7/\v7<(a2.Hits.len:Int))) (aU (decide (0<=(aO (v7-1))/\(aO (v7-1))<(a2.Hits.len:Int))) (cond (decide (a2.Hits.get v7.toNat<=a2.Hits.get (aO (v7-1)).toNat)) (k false) (zb0 E n0 a0 a1 a2 v7 k)))) (zb0 E n0 a0 a1 a2 v7 k)))) (k true):=krY
theorem zGc(n0:Nat)(a0:au)(a1:Sl bi)(a2:af)(v7:Int):zb0 E n0 a0 a1 a2 v7 k=aU (decide (0<=v7/\v7<(a2.Hits.len:Int))) (aU (decide (0<=a2.Hits.get v7.toNat/\a2.Hits.get v7.toNat<(a1.len:Int))) (zt7 E n0 a0 a1 a2 v7 (a1.get (a2.Hits.get v7.toNat).toNat) k)):=krY
theorem zGd(n0:Nat)(a0:au)(a1:Sl bi)(a2:af)(v7:Int)(x8:bi):zt7 E n0 a0 a1 a2 v7 x8 k=aU (decide (0<=x8.ak/\x8.ak<(a0.aj.len:Int))) (cond ((a0.aj.get x8.ak.toNat).View != a2.View) (k false) (aU (decide (0<=v7/\v7<(a2.aV.len:Int))) ((E.c75 (a0,x8)).T λr1=>(E.X3 (a2.aV.get v7.toNat,0,(aO ((r1.len:Int)-1)))).T λr2=>cond (!r2) (k false) (aU (decide ((0:Int)<=0/\(0:Int)<=v7/\v7<=(a2.Hits.len:Int))) ((E.c87 (a1,(⟨((v7:Int)-0).toNat,(Ar a2.Hits.get 0)⟩:(Sl Int)),x8.ak)).T λr3=>cond r3 (k false) (VZ E n0 a0 a1 a2 (aO (v7+1)) k)))))):=krY
end
theorem o27 [aH](E:E27)(h34:Ok aC 34 (ae.un E.c34))(h86:Ok aC 86 (ae.un E.X3))(h75:Ok aC 75 (ae.un E.c75))(h87:Ok aC 87 (ae.un E.c87)):Ok aC 27 (ae.un (F27 E)):=dP ((((ay.nil.addF h34).addF h86).addF h75).addF h87)
structure E34 where
 N:Nat
def F34(E:E34):Int->ae Bool:=ik E.N Tabs.nil 34
theorem e34(E:E34){A:Type}(k:Bool→Option A)(a0:Int):(F34 E (a0)).T k=cond (a0==1) (k true) (k (a0==2)):=dO
theorem o34 [aH](E:E34):Ok aC 34 (ae.un (F34 E)):=dP ay.nil
structure E47 where
 N:Nat
 zsw:Unit->ae bC
 c78:au×bC×(Sl bi)->ae (Int ⊕ ((Pt aS)×Int))
 c79:(Pt aS)×af->ae Bool
 c105:(Pt aS)×af->ae ((Sl ax))
def F47(E:E47):au×(Sl bi)×af->ae ((Sl ax)×Int):=ik E.N ((((Tabs.nil.addF 108 (ae.un E.zsw)).addF 78 (ae.unA E.c78)).addF 79 (ae.un E.c79)).addF 105 (ae.un E.c105)) 47
theorem e47(E:E47){A:Type}(k:((Sl ax)×Int)→Option A)(a0:au)(a1:Sl bi)(a2:af):(F47 E (a0,a1,a2)).T k=(E.zsw ()).T λr1=>(E.c78 (a0,r1,a1)).T λr2=>zec r2 (λr2=>cond (r2 != 0) (k ((⟨0,λ_=>default⟩:(Sl ax)),r2)) (none)) (λr2=>cond (r2.2 != 0) (k ((⟨0,λ_=>default⟩:(Sl ax)),r2.2)) ((E.c79 (r2.1,a2)).T λr3=>cond (!r3) (k ((⟨0,λ_=>default⟩:(Sl ax)),2)) ((E.c105 (r2.1,a2)).T λr4=>k (r4,0)))):=dO
theorem o47 [aH](E:E47)(zxx:Ok aC 108 (ae.un E.zsw))(h78:Ok aC 78 (ae.unA E.c78))(h79:Ok aC 79 (ae.un E.c79))(Bv:Ok aC 105 (ae.un E.c105)):Ok aC 47 (ae.un (F47 E)):=dP ((((ay.nil.addF zxx).addF h78).addF h79).addF Bv)
structure E60 where
 N:Nat
 zsA:au->ae Int
 Gn:Int×Int×Int->ae Bool
def F60(E:E60):au×bC->ae Int:=ik E.N ((Tabs.nil.addF 122 (ae.un E.zsA)).addF 123 (ae.un E.Gn)) 60
theorem e60(E:E60){A:Type}(k:Int→Option A)(a0:au)(a1:bC):(F60 E (a0,a1)).T k=(E.zsA a0).T λr1=>cond (r1 != 0) (k 2) ((E.Gn (a1.rF,1,16)).T λr2=>cond (!r2) (k 2) ((E.Gn (a1.vM,0,16)).T λr3=>cond (!r3) (k 2) (k 0))):=dO
theorem o60 [aH](E:E60)(zCJ:Ok aC 122 (ae.un E.zsA))(V3:Ok aC 123 (ae.un E.Gn)):Ok aC 60 (ae.un (F60 E)):=dP ((ay.nil.addF zCJ).addF V3)
structure E61 where
 N:Nat
 uz:Int×Int×Int->ae Bool
 c124:ak->ae Bool
abbrev G61(E:E61):bI:=gq ((Tabs.nil.addF 73 (ae.un E.uz)).addF 124 (ae.un E.c124)) []
def A61:dG:=bP aC 61 [] {}
def F61(E:E61):au->ae Bool:=ae.ty (aF aC E.N (G61 E) A61 61)
section
variable(E:E61){A:Type}(k:Bool->Option A)
def LU(E:E61)(n:Nat)(a0:au)(v3:Int){A:Type}(k:Bool->Option A):Option A:=gX aC (G61 E) E.N A61 61 [1,1,0,1,0] [.n n] (gW k) ⟨[(1,.cl (.ptr 1 0)),(3,.int v3)],[(1,eB 24 a0)],[]⟩
theorem e61(a0:au):(F61 E (a0)).T k=(E.uz ((a0.aj.len:Int),1,16)).T λr1=>cond (!r1) (k false) (LU E E.N a0 0 k):=dO
theorem zt9(n0:Nat)(a0:au)(v3:Int):LU E (n0+1) a0 v3 k=cond (decide (v3<(a0.aj.len:Int))) (aU (decide (0<=v3/\v3<(a0.aj.len:Int))) ((E.c124 (a0.aj.get v3.toNat)).T λr1=>cond (!r1) (k false) (cond (decide (v3>0)) (aU (decide (0<=v3/\v3<(a0.aj.len:Int))) (aU (decide (0<=(aO (v3-1))/\(aO (v3-1))<(a0.aj.len:Int))) (cond (decide ((a0.aj.get v3.toNat).Z<=(a0.aj.get (aO (v3-1)).toNat).Z)) (k false) (LU E n0 a0 (aO (v3+1)) k)))) (LU E n0 a0 (aO (v3+1)) k)))) (k true):=krY
end
theorem o61 [aH](E:E61)(NV:Ok aC 73 (ae.un E.uz))(zxz:Ok aC 124 (ae.un E.c124)):Ok aC 61 (ae.un (F61 E)):=dP ((ay.nil.addF NV).addF zxz)
structure E62 where
 N:Nat
 X3:Int×Int×Int->ae Bool
def F62(E:E62):bC->ae Bool:=ik E.N (Tabs.nil.addF 86 (ae.un E.X3)) 62
theorem e62(E:E62){A:Type}(k:Bool→Option A)(a0:bC):(F62 E (a0)).T k=(E.X3 (a0.rF,1,16)).T λr1=>cond r1 ((E.X3 (a0.vM,0,16)).T λr2=>k r2) (k false):=dO
theorem o62 [aH](E:E62)(h86:Ok aC 86 (ae.un E.X3)):Ok aC 62 (ae.un (F62 E)):=dP (ay.nil.addF h86)
structure E65 where
 N:Nat
 c75:au×bi->ae ((Sl ax))
abbrev G65(E:E65):bI:=gq (Tabs.nil.addF 75 (ae.un E.c75)) []
def A65:dG:=bP aC 65 [] {ks:=[(1,3,⟨[],[(7,35,101)],[],[],[],[],[]⟩)]}
def F65(E:E65):au×(Sl bi)×af->ae ((Sl ax)):=ae.ty (aF aC E.N (G65 E) A65 65)
section
variable(E:E65){A:Type}(k:(Sl ax)->Option A)
def zb1(E:E65)(n:Nat)(a0:au)(a1:Sl bi)(a2:af)(v8:Int)(w35:Sl ax){A:Type}(k:(Sl ax)->Option A):Option A:=gX aC (G65 E) E.N A65 65 [1,1,0,1,0] [.n n] (gW k) ⟨[(1,eP a1),(3,.cl (.ptr 3 0)),(5,.cl (.ptr 5 0)),(7,.cl (.vec 35)),(8,.int v8)],[(3,eB 24 a0),(5,eB 43 a2),(35,eV 101 3 24 w35)],[]⟩
theorem e65(a0:au)(a1:Sl bi)(a2:af):(F65 E (a0,a1,a2)).T k=zb1 E E.N a0 a1 a2 0 (⟨0,(λ_=>(⟨0,0,0⟩:ax))⟩:(Sl ax)) k:=dO
theorem zue(n0:Nat)(a0:au)(a1:Sl bi)(a2:af)(v8:Int)(w35:Sl ax):zb1 E (n0+1) a0 a1 a2 v8 w35 k=cond (decide (v8<(a2.Hits.len:Int))) (aU (decide (0<=v8/\v8<(a2.Hits.len:Int))) (aU (decide (0<=a2.Hits.get v8.toNat/\a2.Hits.get v8.toNat<(a1.len:Int))) ((E.c75 (a0,(a1.get (a2.Hits.get v8.toNat).toNat))).T λr1=>aU (decide (0≤v8∧v8<(a2.aV.len:Int))) (aU (decide (0≤a2.aV.get v8.toNat∧a2.aV.get v8.toNat<(r1.len:Int))) (aU (room (w35.len+1) 24) (zb1 E n0 a0 a1 a2 (aO (v8+1)) (⟨(w35.len+1),(jY w35.len w35.get (fun _=>(r1.get (a2.aV.get v8.toNat).toNat)))⟩:(Sl ax)) k)))))) (k w35):=krY
end
theorem o65 [aH](E:E65)(h75:Ok aC 75 (ae.un E.c75)):Ok aC 65 (ae.un (F65 E)):=dP (ay.nil.addF h75)
structure E73 where
 N:Nat
def F73(E:E73):Int×Int×Int->ae Bool:=ik E.N Tabs.nil 73
theorem e73(E:E73){A:Type}(k:Bool→Option A)(a0 a1 a2:Int):(F73 E (a0,a1,a2)).T k=cond (decide (a0>=a1)) (k (decide (a0<=a2))) (k false):=dO
theorem o73 [aH](E:E73):Ok aC 73 (ae.un (F73 E)):=dP ay.nil
structure E75 where
 N:Nat
 zsD:ak×Int->ae (Int×Int)
def F75(E:E75):au×bi->ae ((Sl ax)):=ik E.N (Tabs.nil.addF 135 (ae.un E.zsD)) 75
theorem e75(E:E75){A:Type}(k:(Sl ax)→Option A)(a0:au)(a1:bi):(F75 E (a0,a1)).T k=aU (decide (0<=a1.ak/\a1.ak<(a0.aj.len:Int))) (cond ((a0.aj.get a1.ak.toNat).Kind != 2) (cond (decide ((aO ((aO ((a0.aj.get a1.ak.toNat).First+(aO ((aO ((aO (a1.Channel+a1.jR))-1))*(a0.aj.get a1.ak.toNat).aY))))-(a0.aj.get a1.ak.toNat).dK))>(aO ((aO ((a0.aj.get a1.ak.toNat).First+(aO ((aO (a1.Channel+1))*(a0.aj.get a1.ak.toNat).aY))))+(a0.aj.get a1.ak.toNat).dK)))) (k (⟨0,λ_=>default⟩:(Sl ax))) (k (⟨1,(λ_=>(⟨(a0.aj.get a1.ak.toNat).Z,(aO ((aO ((aO ((a0.aj.get a1.ak.toNat).First+(aO ((aO ((aO (a1.Channel+a1.jR))-1))*(a0.aj.get a1.ak.toNat).aY))))-(a0.aj.get a1.ak.toNat).dK))+(a0.aj.get a1.ak.toNat).bz.Low)),(aO ((aO ((aO ((a0.aj.get a1.ak.toNat).First+(aO ((aO (a1.Channel+1))*(a0.aj.get a1.ak.toNat).aY))))+(a0.aj.get a1.ak.toNat).dK))+(a0.aj.get a1.ak.toNat).bz.High))⟩:ax))⟩:(Sl ax)))) ((E.zsD ((a0.aj.get a1.ak.toNat),a1.aT)).T λr1=>cond (decide ((aO ((aO ((aO ((a0.aj.get a1.ak.toNat).First+(aO (a1.Channel*(a0.aj.get a1.ak.toNat).aY))))-r1.1))+(a0.aj.get a1.ak.toNat).bz.High))>=(aO ((aO ((aO ((a0.aj.get a1.ak.toNat).First+(aO (a1.Channel*(a0.aj.get a1.ak.toNat).aY))))+r1.1))+(a0.aj.get a1.ak.toNat).bz.Low)))) (k (⟨1,(λ_=>(⟨(a0.aj.get a1.ak.toNat).Z,(aO ((aO ((aO ((a0.aj.get a1.ak.toNat).First+(aO (a1.Channel*(a0.aj.get a1.ak.toNat).aY))))-r1.2))+(a0.aj.get a1.ak.toNat).bz.Low)),(aO ((aO ((aO ((a0.aj.get a1.ak.toNat).First+(aO (a1.Channel*(a0.aj.get a1.ak.toNat).aY))))+r1.2))+(a0.aj.get a1.ak.toNat).bz.High))⟩:ax))⟩:(Sl ax))) (k (⟨2,(kL [(⟨(a0.aj.get a1.ak.toNat).Z,(aO ((aO ((aO ((a0.aj.get a1.ak.toNat).First+(aO (a1.Channel*(a0.aj.get a1.ak.toNat).aY))))-r1.2))+(a0.aj.get a1.ak.toNat).bz.Low)),(aO ((aO ((aO ((a0.aj.get a1.ak.toNat).First+(aO (a1.Channel*(a0.aj.get a1.ak.toNat).aY))))-r1.1))+(a0.aj.get a1.ak.toNat).bz.High))⟩:ax),(⟨(a0.aj.get a1.ak.toNat).Z,(aO ((aO ((aO ((a0.aj.get a1.ak.toNat).First+(aO (a1.Channel*(a0.aj.get a1.ak.toNat).aY))))+r1.1))+(a0.aj.get a1.ak.toNat).bz.Low)),(aO ((aO ((aO ((a0.aj.get a1.ak.toNat).First+(aO (a1.Channel*(a0.aj.get a1.ak.toNat).aY))))+r1.2))+(a0.aj.get a1.ak.toNat).bz.High))⟩:ax)])⟩:(Sl ax))))):=dO
theorem o75 [aH](E:E75)(zxA:Ok aC 135 (ae.un E.zsD)):Ok aC 75 (ae.un (F75 E)):=dP (ay.nil.addF zxA)
structure E85 where
 N:Nat
 c143:au×bi->ae Bool
abbrev G85(E:E85):bI:=gq (Tabs.nil.addF 143 (ae.un E.c143)) []
def A85:dG:=bP aC 85 [] {}
def F85(E:E85):au×(Sl bi)->ae Bool:=ae.ty (aF aC E.N (G85 E) A85 85)
section
variable(E:E85){A:Type}(k:Bool->Option A)
def zb2(E:E85)(n:Nat)(a0:au)(a1:Sl bi)(v5:Int){A:Type}(k:Bool->Option A):Option A:=gX aC (G85 E) E.N A85 85 [1,0,1,0] [.n n] (gW k) ⟨[(1,eP a1),(2,.cl (.ptr 2 0)),(5,.int v5)],[(2,eB 24 a0)],[]⟩
theorem e85(a0:au)(a1:Sl bi):(F85 E (a0,a1)).T k=zb2 E E.N a0 a1 0 k:=dO
theorem zuf(n0:Nat)(a0:au)(a1:Sl bi)(v5:Int):zb2 E (n0+1) a0 a1 v5 k=cond (decide (v5<(a1.len:Int))) (aU (decide (0<=v5/\v5<(a1.len:Int))) ((E.c143 (a0,(a1.get v5.toNat))).T λr1=>cond (!r1) (k false) (zb2 E n0 a0 a1 (aO (v5+1)) k))) (k true):=krY
end
theorem o85 [aH](E:E85)(zxB:Ok aC 143 (ae.un E.c143)):Ok aC 85 (ae.un (F85 E)):=dP (ay.nil.addF zxB)
structure E86 where
 N:Nat
def F86(E:E86):Int×Int×Int->ae Bool:=ik E.N Tabs.nil 86
theorem e86(E:E86){A:Type}(k:Bool→Option A)(a0 a1 a2:Int):(F86 E (a0,a1,a2)).T k=cond (decide (a0>=a1)) (k (decide (a0<=a2))) (k false):=dO
theorem o86 [aH](E:E86):Ok aC 86 (ae.un (F86 E)):=dP ay.nil
structure E87 where
 N:Nat
abbrev G87(E:E87):bI:=gq Tabs.nil []
def A87:dG:=bP aC 87 [] {}
def F87(E:E87):(Sl bi)×(Sl Int)×Int->ae Bool:=ae.ty (aF aC E.N (G87 E) A87 87)
section
variable(E:E87){A:Type}(k:Bool->Option A)
def zb3(E:E87)(n:Nat)(a0:Sl bi)(a1:Sl Int)(a2 v7:Int){A:Type}(k:Bool->Option A):Option A:=gX aC (G87 E) E.N A87 87 [1,0,1,0] [.n n] (gW k) ⟨[(0,eP a0),(1,eP a1),(2,.int a2),(7,.int v7)],[],[]⟩
theorem e87(a0:Sl bi)(a1:Sl Int)(a2:Int):(F87 E (a0,a1,a2)).T k=zb3 E E.N a0 a1 a2 0 k:=dO
theorem zug(n0:Nat)(a0:Sl bi)(a1:Sl Int)(a2 v7:Int):zb3 E (n0+1) a0 a1 a2 v7 k=cond (decide (v7<(a1.len:Int))) (aU (decide (0<=v7/\v7<(a1.len:Int))) (aU (decide (0<=a1.get v7.toNat/\a1.get v7.toNat<(a0.len:Int))) (cond ((a0.get (a1.get v7.toNat).toNat).ak==a2) (k true) (zb3 E n0 a0 a1 a2 (aO (v7+1)) k)))) (k false):=krY
end
theorem o87 [aH](E:E87):Ok aC 87 (ae.un (F87 E)):=dP ay.nil
structure zoa where
 N:Nat
def zob(E:zoa):Unit->ae bC:=ik E.N Tabs.nil 108
theorem e108(E:zoa){A:Type}(k:bC→Option A):(zob E ()).T k=k (⟨1,0⟩:bC):=dO
theorem zQa [aH](E:zoa):Ok aC 108 (ae.un (zob E)):=dP ay.nil
structure RP where
 N:Nat
 uz:Int×Int×Int->ae Bool
 TT:Int->ae Bool
 c175:(Sl aT)×Int->ae Bool
abbrev ziw(E:RP):bI:=gq (((Tabs.nil.addF 73 (ae.un E.uz)).addF 174 (ae.un E.TT)).addF 175 (ae.un E.c175)) []
def zix:dG:=bP aC 124 [] {cut:=[3,5,7]}
def zoc(E:RP):ak->ae Bool:=ae.ty (aF aC E.N (ziw E) zix 124)
section
variable(E:RP){A:Type}(k:Bool->Option A)
def Zu(E:RP)(a0:ak){A:Type}(k:Bool->Option A):Option A:=gX aC (ziw E) E.N zix 124 [1,1] [] (gW k) ⟨[(1,.cl (.ptr 1 0))],[(1,eB 124 a0)],[]⟩
def ziy(E:RP)(a0:ak){A:Type}(k:Bool->Option A):Option A:=gX aC (ziw E) E.N zix 124 [1,1,1] [] (gW k) ⟨[(1,.cl (.ptr 1 0))],[(1,eB 124 a0)],[]⟩
def ziz(E:RP)(a0:ak){A:Type}(k:Bool->Option A):Option A:=gX aC (ziw E) E.N zix 124 [1,1,1,1] [] (gW k) ⟨[(1,.cl (.ptr 1 0))],[(1,eB 124 a0)],[]⟩
def uk(E:RP)(n:Nat)(a0:ak)(v3:Int){A:Type}(k:Bool->Option A):Option A:=gX aC (ziw E) E.N zix 124 [1,1,1,1,1,0,1,0] [.n n] (gW k) ⟨[(1,.cl (.ptr 1 0)),(3,.int v3)],[(1,eB 124 a0)],[]⟩
theorem zQb(a0:ak):(zoc E (a0)).T k=cond (decide (a0.Kind<1)) (k false) (cond (decide (a0.Kind>3)) (k false) (cond (a0.View != 1) (cond (a0.View != 2) (k false) ((E.uz (a0.Z,0,100000)).T λr1=>cond (!r1) (k false) ((E.TT a0.First).T λr2=>cond (!r2) (k false) ((E.uz (a0.aY,2,100000)).T λr3=>cond (!r3) (k false) ((E.uz (a0.bT,1,2000)).T λr4=>cond (!r4) (k false) ((E.uz (a0.dK,0,100000)).T λr5=>cond (!r5) (k false) (Zu E a0 k))))))) ((E.uz (a0.Z,0,100000)).T λr6=>cond (!r6) (k false) ((E.TT a0.First).T λr7=>cond (!r7) (k false) ((E.uz (a0.aY,2,100000)).T λr8=>cond (!r8) (k false) ((E.uz (a0.bT,1,2000)).T λr9=>cond (!r9) (k false) ((E.uz (a0.dK,0,100000)).T λUa=>cond (!Ua) (k false) (Zu E a0 k)))))))):=dO
theorem zxC(a0:ak):Zu E a0 k=(E.TT a0.bz.Low).T λr1=>cond (!r1) (k false) ((E.TT a0.bz.High).T λr2=>cond (!r2) (k false) (cond (decide (a0.bz.Low>a0.bz.High)) (k false) ((E.uz (a0.Clock.Low,(-1000000000),1000000000)).T λr3=>cond (!r3) (k false) ((E.uz (a0.Clock.High,(-1000000000),1000000000)).T λr4=>cond (!r4) (k false) (cond (decide (a0.Clock.Low>a0.Clock.High)) (k false) (ziy E a0 k)))))):=krY
theorem zxD(a0:ak):ziy E a0 k=(E.uz (a0.dL,0,1000000)).T λr1=>cond (!r1) (k false) ((E.uz (a0.Least,0,1000000)).T λr2=>cond (!r2) (k false) ((E.TT (aO ((aO ((aO (a0.First-a0.aY))-a0.dK))+a0.bz.Low))).T λr3=>cond (!r3) (k false) ((E.TT (aO ((aO ((aO (a0.First+(aO ((aO (a0.bT+1))*a0.aY))))+a0.dK))+a0.bz.High))).T λr4=>cond (!r4) (k false) (ziz E a0 k)))):=krY
theorem zxE(a0:ak):ziz E a0 k=cond (a0.Kind==2) ((E.c175 (a0.aT,a0.aY)).T λr1=>cond (!r1) (k false) (cond (a0.Kind != 2) (cond (decide ((a0.aT.len:Int)>0)) (k false) (cond (decide ((a0.Dead.len:Int)>100)) (k false) (uk E E.N a0 0 k))) (cond (decide ((a0.Dead.len:Int)>100)) (k false) (uk E E.N a0 0 k)))) (cond (a0.Kind != 2) (cond (decide ((a0.aT.len:Int)>0)) (k false) (cond (decide ((a0.Dead.len:Int)>100)) (k false) (uk E E.N a0 0 k))) (cond (decide ((a0.Dead.len:Int)>100)) (k false) (uk E E.N a0 0 k))):=krY
theorem ziA(n0:Nat)(a0:ak)(v3:Int):uk E (n0+1) a0 v3 k=cond (decide (v3<(a0.Dead.len:Int))) (aU (decide (0<=v3/\v3<(a0.Dead.len:Int))) ((E.uz (a0.Dead.get v3.toNat,0,(aO (a0.bT-1)))).T λr1=>cond (!r1) (k false) (cond (decide (v3>0)) (aU (decide (0<=v3/\v3<(a0.Dead.len:Int))) (aU (decide (0<=(aO (v3-1))/\(aO (v3-1))<(a0.Dead.len:Int))) (cond (decide (a0.Dead.get v3.toNat<=a0.Dead.get (aO (v3-1)).toNat)) (k false) (uk E n0 a0 (aO (v3+1)) k)))) (uk E n0 a0 (aO (v3+1)) k)))) (k true):=krY
end
theorem zQc [aH](E:RP)(NV:Ok aC 73 (ae.un E.uz))(zxF:Ok aC 174 (ae.un E.TT))(zxG:Ok aC 175 (ae.un E.c175)):Ok aC 124 (ae.un (zoc E)):=dP (((ay.nil.addF NV).addF zxF).addF zxG)
structure Zv where
 N:Nat
abbrev zxH(E:Zv):bI:=gq Tabs.nil []
def zxI:dG:=bP aC 135 [] {}
def zod(E:Zv):ak×Int->ae (Int×Int):=ae.ty (aF aC E.N (zxH E) zxI 135)
section
variable(E:Zv){A:Type}(k:(Int×Int)->Option A)
def LV(E:Zv)(n:Nat)(a0:ak)(a1 v6 v7 v8:Int){A:Type}(k:(Int×Int)->Option A):Option A:=gX aC (zxH E) E.N zxI 135 [1,1,0,1,0] [.n n] (gW k) ⟨[(1,.int a1),(2,.cl (.ptr 2 0)),(6,.int v6),(7,.int v7),(8,.int v8)],[(2,eB 124 a0)],[]⟩
def LW(E:Zv)(n:Nat)(a0:ak)(a1 v6 v7 v9:Int){A:Type}(k:(Int×Int)->Option A):Option A:=gX aC (zxH E) E.N zxI 135 [1,1,1,0,1,0] [.n n] (gW k) ⟨[(1,.int a1),(2,.cl (.ptr 2 0)),(6,.int v6),(7,.int v7),(9,.int v9)],[(2,eB 124 a0)],[]⟩
theorem zQd(a0:ak)(a1:Int):(zod E (a0,a1)).T k=LV E E.N a0 a1 0 (aO (a0.aY.tdiv 2)) 0 k:=dO
theorem ziB(n0:Nat)(a0:ak)(a1 v6 v7 v8:Int):LV E (n0+1) a0 a1 v6 v7 v8 k=cond (decide (v8<(a0.aT.len:Int))) (aU (decide (0<=v8/\v8<(a0.aT.len:Int))) (cond (decide ((a0.aT.get v8.toNat).Time<=(aO (a1-a0.dL)))) (aU (decide (0<=v8/\v8<(a0.aT.len:Int))) (LV E n0 a0 a1 (a0.aT.get v8.toNat).dQ.Low v7 (aO (v8+1)) k)) (LV E n0 a0 a1 v6 v7 (aO (v8+1)) k))) (LW E E.N a0 a1 v6 v7 (aO ((a0.aT.len:Int)-1)) k):=krY
theorem ziC(n0:Nat)(a0:ak)(a1 v6 v7 v9:Int):LW E (n0+1) a0 a1 v6 v7 v9 k=cond (decide (v9>=0)) (aU (decide (0<=v9/\v9<(a0.aT.len:Int))) (cond (decide ((a0.aT.get v9.toNat).Time>=(aO (a1+a0.dL)))) (aU (decide (0<=v9/\v9<(a0.aT.len:Int))) (LW E n0 a0 a1 v6 (a0.aT.get v9.toNat).dQ.High (aO (v9-1)) k)) (LW E n0 a0 a1 v6 v7 (aO (v9-1)) k))) (k (v6,v7)):=krY
end
theorem zQe [aH](E:Zv):Ok aC 135 (ae.un (zod E)):=dP ay.nil
structure zei where
 N:Nat
abbrev zGe(E:zei):bI:=gq Tabs.nil []
def zGf:dG:=bP aC 137 [] {}
def zoe(E:zei):ak×Int->ae Bool:=ae.ty (aF aC E.N (zGe E) zGf 137)
section
variable(E:zei){A:Type}(k:Bool->Option A)
def LX(E:zei)(n:Nat)(a0:ak)(a1 v5:Int){A:Type}(k:Bool->Option A):Option A:=gX aC (zGe E) E.N zGf 137 [1,0,1,0] [.n n] (gW k) ⟨[(1,.int a1),(2,.cl (.ptr 2 0)),(5,.int v5)],[(2,eB 124 a0)],[]⟩
theorem e137(a0:ak)(a1:Int):(zoe E (a0,a1)).T k=LX E E.N a0 a1 0 k:=dO
theorem ziD(n0:Nat)(a0:ak)(a1 v5:Int):LX E (n0+1) a0 a1 v5 k=cond (decide (v5<(a0.Dead.len:Int))) (aU (decide (0<=v5/\v5<(a0.Dead.len:Int))) (cond (a0.Dead.get v5.toNat==a1) (k true) (LX E n0 a0 a1 (aO (v5+1)) k))) (k false):=krY
end
theorem zQf [aH](E:zei):Ok aC 137 (ae.un (zoe E)):=dP ay.nil
structure zej where
 N:Nat
 uz:Int×Int×Int->ae Bool
 OH:ak×Int->ae Bool
abbrev zGg(E:zej):bI:=gq ((Tabs.nil.addF 73 (ae.un E.uz)).addF 137 (ae.un E.OH)) []
def zGh:dG:=bP aC 143 [] {}
def zof(E:zej):au×bi->ae Bool:=ae.ty (aF aC E.N (zGg E) zGh 143)
section
variable(E:zej){A:Type}(k:Bool->Option A)
def RQ(E:zej)(n:Nat)(a0:au)(a1:bi)(v6:Int){A:Type}(k:Bool->Option A):Option A:=gX aC (zGg E) E.N zGh 143 [1,1,1,1,0,1,0] [.n n] (gW k) ⟨[(3,.cl (.ptr 3 0)),(5,.cl (.ptr 5 0)),(6,.int v6)],[(3,eB 92 a1),(5,eB 124 (a0.aj.get a1.ak.toNat))],[]⟩
theorem e143(a0:au)(a1:bi):(zof E (a0,a1)).T k=(E.uz (a1.ak,0,(aO ((a0.aj.len:Int)-1)))).T λr1=>cond (!r1) (k false) (aU (decide (0<=a1.ak/\a1.ak<(a0.aj.len:Int))) ((E.uz (a1.Channel,0,(aO ((a0.aj.get a1.ak.toNat).bT-1)))).T λr2=>cond (!r2) (k false) ((E.uz (a1.jR,1,(aO ((a0.aj.get a1.ak.toNat).bT-a1.Channel)))).T λr3=>cond (!r3) (k false) ((E.uz (a1.BQ,(a0.aj.get a1.ak.toNat).Least,1000000)).T λr4=>cond (!r4) (k false) ((E.uz (a1.Time,(-1000000000),1000000000)).T λr5=>cond (!r5) (k false) (RQ E E.N a0 a1 0 k)))))):=dO
theorem ziE(n0:Nat)(a0:au)(a1:bi)(v6:Int):RQ E (n0+1) a0 a1 v6 k=cond (decide (v6<a1.jR)) ((E.OH ((a0.aj.get a1.ak.toNat),(aO (a1.Channel+v6)))).T λr1=>cond r1 (k false) (RQ E n0 a0 a1 (aO (v6+1)) k)) (cond ((a0.aj.get a1.ak.toNat).Kind==2) (cond (a1.jR==1) ((E.uz (a1.aT,0,1000000)).T λr2=>k r2) (k false)) (cond ((a0.aj.get a1.ak.toNat).Kind==3) (cond (a1.aT==0) (k (a1.Time==0)) (k false)) (k (a1.aT==0)))):=krY
end
theorem zQg [aH](E:zej)(NV:Ok aC 73 (ae.un E.uz))(Zw:Ok aC 137 (ae.un E.OH)):Ok aC 143 (ae.un (zof E)):=dP ((ay.nil.addF NV).addF Zw)
structure zog where
 N:Nat
 uz:Int×Int×Int->ae Bool
def zoh(E:zog):Int->ae Bool:=ik E.N (Tabs.nil.addF 73 (ae.un E.uz)) 174
theorem zQh(E:zog){A:Type}(k:Bool→Option A)(a0:Int):(zoh E (a0)).T k=(E.uz (a0,(-1000000),1000000)).T λr1=>k r1:=dO
theorem zQi [aH](E:zog)(NV:Ok aC 73 (ae.un E.uz)):Ok aC 174 (ae.un (zoh E)):=dP (ay.nil.addF NV)
structure zek where
 N:Nat
 uz:Int×Int×Int->ae Bool
abbrev zGi(E:zek):bI:=gq (Tabs.nil.addF 73 (ae.un E.uz)) []
def zGj:dG:=bP aC 175 [] {}
def zoi(E:zek):(Sl aT)×Int->ae Bool:=ae.ty (aF aC E.N (zGi E) zGj 175)
section
variable(E:zek){A:Type}(k:Bool->Option A)
def FW(E:zek)(n:Nat)(a0:Sl aT)(a1 v5:Int){A:Type}(k:Bool->Option A):Option A:=gX aC (zGi E) E.N zGj 175 [1,0,1,0] [.n n] (gW k) ⟨[(0,eP a0),(1,.int a1),(5,.int v5)],[],[]⟩
theorem zQj(a0:Sl aT)(a1:Int):(zoi E (a0,a1)).T k=FW E E.N a0 a1 0 k:=dO
theorem ziF(n0:Nat)(a0:Sl aT)(a1 v5:Int):FW E (n0+1) a0 a1 v5 k=cond (decide (v5<(a0.len:Int))) (aU (decide (0<=v5/\v5<(a0.len:Int))) ((E.uz ((a0.get v5.toNat).Time,0,1000000)).T λr1=>cond (!r1) (k false) (cond (decide ((a0.get v5.toNat).dQ.Low<0)) (k false) (cond (decide ((a0.get v5.toNat).dQ.Low>(a0.get v5.toNat).dQ.High)) (k false) (cond (decide ((a0.get v5.toNat).dQ.High>(aO (a1.tdiv 2)))) (k false) (cond (decide (v5>0)) (aU (decide (0<=(aO (v5-1))/\(aO (v5-1))<(a0.len:Int))) (cond (decide ((a0.get v5.toNat).Time<=(a0.get (aO (v5-1)).toNat).Time)) (k false) (aU (decide (0<=(aO (v5-1))/\(aO (v5-1))<(a0.len:Int))) (cond (decide ((a0.get v5.toNat).dQ.Low<(a0.get (aO (v5-1)).toNat).dQ.Low)) (k false) (aU (decide (0<=(aO (v5-1))/\(aO (v5-1))<(a0.len:Int))) (cond (decide ((a0.get v5.toNat).dQ.High<(a0.get (aO (v5-1)).toNat).dQ.High)) (k false) (FW E n0 a0 a1 (aO (v5+1)) k))))))) (FW E n0 a0 a1 (aO (v5+1)) k))))))) ((E.uz ((a0.len:Int),1,50)).T λr2=>k r2):=krY
end
theorem zQk [aH](E:zek)(NV:Ok aC 73 (ae.un E.uz)):Ok aC 175 (ae.un (zoi E)):=dP (ay.nil.addF NV)
structure E78 where
 N:Nat
 c60:au×bC->ae Int
 c138:au×bi->ae Int
 c139:au×bi->ae ((Sl ax)×Int)
abbrev G78(E:E78):bI:=gq (((Tabs.nil.addF 60 (ae.un E.c60)).addF 138 (ae.un E.c138)).addF 139 (ae.un E.c139)) []
def A78:dG:=bP aC 78 [] {ks:=[(1,7,⟨[],[],[(24,2,55,96)],[],[],[],[]⟩)],cut:=[14]}
def F78(E:E78):au×bC×(Sl bi)->ae (Int ⊕ ((Pt aS)×Int)):=ae.tyA (aF aC E.N (G78 E) A78 78)
section
variable(E:E78){A:Type}(k:(Int ⊕ ((Pt aS)×Int))->Option A)
def V4(E:E78)(n:Nat)(a0:au)(a1:bC)(a2:Sl bi)(Ik:Int)(w55:Sl (Sl ax)){A:Type}(k:(Int ⊕ ((Pt aS)×Int))->Option A):Option A:=gX aC (G78 E) E.N A78 78 [1,1,1,1,0,1,0] [.n n] (zh7 k) ⟨[(3,.cl (.ptr 3 0)),(8,.cl (.ptr 24 0)),(25,eP a2),(26,.int (a2.len:Int)),(27,.int Ik)],[(3,eB 24 a0),(24,.box 208 [.p (.sl a0.aj.len 15 (λi=>bG.enc (a0.aj.get i))),.p (.sl a2.len 6 (λi=>bG.enc (a2.get i))),.vec 55,.p (.int .i64 a1.rF),.p (.int .i64 a1.vM)]),(55,eV 96 1 24 w55)],[]⟩
def V5(E:E78)(n0:Nat)(a0:au)(a1:bC)(a2:Sl bi)(v11:Sl ax)(Ik:Int)(w55:Sl (Sl ax)){A:Type}(k:(Int ⊕ ((Pt aS)×Int))->Option A):Option A:=gX aC (G78 E) E.N A78 78 [1,1,1,1,0,1,0,0,1,1,0,0,1,1,1,1] [.n n0] (zh7 k) ⟨[(3,.cl (.ptr 3 0)),(8,.cl (.ptr 24 0)),(11,eP v11),(25,eP a2),(26,.int (a2.len:Int)),(27,.int Ik)],[(3,eB 24 a0),(24,.box 208 [.p (.sl a0.aj.len 15 (λi=>bG.enc (a0.aj.get i))),.p (.sl a2.len 6 (λi=>bG.enc (a2.get i))),.vec 55,.p (.int .i64 a1.rF),.p (.int .i64 a1.vM)]),(55,eV 96 1 24 w55)],[]⟩
theorem e78(a0:au)(a1:bC)(a2:Sl bi):(F78 E (a0,a1,a2)).T k=cond (decide ((a2.len:Int)>24)) (k (.inl 3)) ((E.c60 (a0,a1)).T λr1=>cond (r1 != 0) (k (.inl 2)) (V4 E E.N a0 a1 a2 0 (⟨0,(λ_=>(⟨0,(λ_=>(⟨0,0,0⟩:ax))⟩:(Sl ax)))⟩:(Sl (Sl ax))) k)):=ztW.trans krY
theorem zuh(n0:Nat)(a0:au)(a1:bC)(a2:Sl bi)(Ik:Int)(w55:Sl (Sl ax)):V4 E (n0+1) a0 a1 a2 Ik w55 k=cond (decide (Ik<(a2.len:Int))) (aU (decide (0<=Ik/\Ik<(a2.len:Int))) ((E.c138 (a0,(a2.get Ik.toNat))).T λr1=>cond (r1 != 0) (k (.inl 2)) ((E.c139 (a0,(a2.get Ik.toNat))).T λr2=>cond (r2.2 != 0) (cond (r2.2 != 5) (k (.inl r2.2)) (V5 E n0 a0 a1 a2 r2.1 Ik w55 k)) (V5 E n0 a0 a1 a2 r2.1 Ik w55 k)))) (k (.inr ((⟨(⟨a0,a2,w55,a1⟩:aS)⟩:(Pt aS)),0))):=krY
theorem zGk(n0:Nat)(a0:au)(a1:bC)(a2:Sl bi)(v11:Sl ax)(Ik:Int)(w55:Sl (Sl ax)):V5 E n0 a0 a1 a2 v11 Ik w55 k=aU (room (w55.len+1) 24) (V4 E n0 a0 a1 a2 (aO (Ik+1)) (⟨(w55.len+1),(jY w55.len w55.get (λ_=>v11))⟩:(Sl (Sl ax))) k):=krY
end
theorem o78 [aH](E:E78)(h60:Ok aC 60 (ae.un E.c60))(zxK:Ok aC 138 (ae.un E.c138))(zxL:Ok aC 139 (ae.un E.c139)):Ok aC 78 (ae.unA (F78 E)):=zh8 (wF (((ay.nil.addF h60).addF zxK).addF zxL) (dJ krY))
structure E79 where
 N:Nat
 Gn:Int×Int×Int->ae Bool
 IG:(Pt aS)×Int->ae Int
 c96:Int->ae Bool
abbrev G79(E:E79):bI:=gq (((Tabs.nil.addF 123 (ae.un E.Gn)).addF 140 (ae.un E.IG)).addF 96 (ae.un E.c96)) [8]
def A79:dG:=bP aC 79 [] {cut:=[7]}
def F79(E:E79):(Pt aS)×af->ae Bool:=ae.ty (aF aC E.N (G79 E) A79 79)
section
variable(E:E79){A:Type}(k:Bool->Option A)
def P8(E:E79)(n:Nat)(a0:Pt aS)(a1:af)(v12:Int)(mn8:Nat)(mf8:List Int->Option (List Int)){A:Type}(k:Bool->Option A):Option A:=gX aC (G79 E) E.N A79 79 [1,1,0,1,0] [.n n] (gW k) ⟨[(0,eP a0),(3,.cl (.ptr 3 0)),(5,.cl (.mo 8)),(10,eP a1.Hits),(11,.int (a1.Hits.len:Int)),(12,.int v12)],[(3,eB 43 a1),(8,.mo 3 4 (.one,1,false,[none]) mn8 mf8)],[]⟩
def V6(E:E79)(n0:Nat)(a0:Pt aS)(a1:af)(v7 v12:Int)(mn8:Nat)(mf8:List Int->Option (List Int)){A:Type}(k:Bool->Option A):Option A:=gX aC (G79 E) E.N A79 79 [1,1,0,1,0,0,1,1,0,0,1,1] [.n n0] (gW k) ⟨[(0,eP a0),(3,.cl (.ptr 3 0)),(5,.cl (.mo 8)),(7,.int v7),(10,eP a1.Hits),(11,.int (a1.Hits.len:Int)),(12,.int v12)],[(3,eB 43 a1),(8,.mo 3 4 (.one,1,false,[none]) mn8 mf8)],[]⟩
theorem e79(a0:Pt aS)(a1:af):(F79 E (a0,a1)).T k=P8 E E.N a0 a1 0 0 (λ_=>none) k:=dO
theorem zui(n0:Nat)(a0:Pt aS)(a1:af)(v12:Int)(mn8:Nat)(mf8:List Int→Option (List Int)):P8 E (n0+1) a0 a1 v12 mn8 mf8 k=cond (decide (v12<(a1.Hits.len:Int))) (aU (decide (0<=v12/\v12<(a1.Hits.len:Int))) ((E.Gn (a1.Hits.get v12.toNat,0,(aO ((a0.v.hits.len:Int)-1)))).T λr1=>cond (!r1) (k false) (cond (decide (v12>0)) (aU (decide (0<=(aO (v12-1))/\(aO (v12-1))<(a1.Hits.len:Int))) (cond (decide (a1.Hits.get v12.toNat<=a1.Hits.get (aO (v12-1)).toNat)) (k false) ((E.IG (a0,a1.Hits.get v12.toNat)).T λr2=>cond (r2 != a1.View) (k false) (aU (decide (0<=a1.Hits.get v12.toNat/\a1.Hits.get v12.toNat<(a0.v.hits.len:Int))) (cond (xX (mf8 [(a0.v.hits.get (a1.Hits.get v12.toNat).toNat).ak]) 0 != 0) (k false) (cond (decide (v12>=(a1.aV.len:Int))) (k false) (aU (decide (0<=v12/\v12<(a1.aV.len:Int))) (aU (decide (0<=a1.Hits.get v12.toNat/\a1.Hits.get v12.toNat<(a0.v.iR.len:Int))) ((E.Gn (a1.aV.get v12.toNat,0,(aO (((a0.v.iR.get (a1.Hits.get v12.toNat).toNat).len:Int)-1)))).T λr3=>cond (!r3) (k false) (V6 E n0 a0 a1 (a1.Hits.get v12.toNat) v12 mn8 mf8 k)))))))))) ((E.IG (a0,a1.Hits.get v12.toNat)).T λr4=>cond (r4 != a1.View) (k false) (aU (decide (0<=a1.Hits.get v12.toNat/\a1.Hits.get v12.toNat<(a0.v.hits.len:Int))) (cond (xX (mf8 [(a0.v.hits.get (a1.Hits.get v12.toNat).toNat).ak]) 0 != 0) (k false) (cond (decide (v12>=(a1.aV.len:Int))) (k false) (aU (decide (0<=v12/\v12<(a1.aV.len:Int))) (aU (decide (0<=a1.Hits.get v12.toNat/\a1.Hits.get v12.toNat<(a0.v.iR.len:Int))) ((E.Gn (a1.aV.get v12.toNat,0,(aO (((a0.v.iR.get (a1.Hits.get v12.toNat).toNat).len:Int)-1)))).T λr5=>cond (!r5) (k false) (V6 E n0 a0 a1 (a1.Hits.get v12.toNat) v12 mn8 mf8 k))))))))))) ((E.c96 a1.View).T λr6=>cond r6 (cond (decide ((a1.Hits.len:Int)>0)) (k ((a1.aV.len:Int)==(a1.Hits.len:Int))) (k false)) (k false)):=krY
theorem zGl(n0:Nat)(a0:Pt aS)(a1:af)(v7 v12:Int)(mn8:Nat)(mf8:List Int→Option (List Int)):V6 E n0 a0 a1 v7 v12 mn8 mf8 k=aU (decide (0<=v7/\v7<(a0.v.hits.len:Int))) (P8 E n0 a0 a1 (aO (v12+1)) (addN (mf8 [(a0.v.hits.get v7.toNat).ak]) mn8) (Cb [(a0.v.hits.get v7.toNat).ak] [1] mf8) k):=krY
end
theorem o79 [aH](E:E79)(V3:Ok aC 123 (ae.un E.Gn))(Zx:Ok aC 140 (ae.un E.IG))(h96:Ok aC 96 (ae.un E.c96)):Ok aC 79 (ae.un (F79 E)):=dP (((ay.nil.addF V3).addF Zx).addF h96)
structure E96 where
 N:Nat
def F96(E:E96):Int->ae Bool:=ik E.N Tabs.nil 96
theorem e96(E:E96){A:Type}(k:Bool→Option A)(a0:Int):(F96 E (a0)).T k=cond (a0==1) (k true) (k (a0==2)):=dO
theorem o96 [aH](E:E96):Ok aC 96 (ae.un (F96 E)):=dP ay.nil
structure zem where
 N:Nat
abbrev zGm(E:zem):bI:=gq Tabs.nil []
def zGn:dG:=bP aC 105 [] {ks:=[(1,3,⟨[],[(5,32,101)],[],[],[],[],[]⟩)]}
def zoj(E:zem):(Pt aS)×af->ae ((Sl ax)):=ae.ty (aF aC E.N (zGm E) zGn 105)
section
variable(E:zem){A:Type}(k:(Sl ax)->Option A)
def RU(E:zem)(n:Nat)(a0:Pt aS)(a1:af)(v11:Int)(w32:Sl ax){A:Type}(k:(Sl ax)->Option A):Option A:=gX aC (zGm E) E.N zGn 105 [1,1,0,1,0] [.n n] (gW k) ⟨[(0,eP a0),(3,.cl (.ptr 3 0)),(5,.cl (.vec 32)),(9,eP a1.Hits),(10,.int (a1.Hits.len:Int)),(11,.int v11)],[(3,eB 43 a1),(32,eV 101 3 24 w32)],[]⟩
theorem zQq(a0:Pt aS)(a1:af):(zoj E (a0,a1)).T k=RU E E.N a0 a1 0 (⟨0,(λ_=>(⟨0,0,0⟩:ax))⟩:(Sl ax)) k:=dO
theorem ziG(n0:Nat)(a0:Pt aS)(a1:af)(v11:Int)(w32:Sl ax):RU E (n0+1) a0 a1 v11 w32 k=cond (decide (v11<(a1.Hits.len:Int))) (aU (decide (0<=v11/\v11<(a1.Hits.len:Int))) (aU (decide (0<=a1.Hits.get v11.toNat/\a1.Hits.get v11.toNat<(a0.v.iR.len:Int))) (aU (decide (0<=v11/\v11<(a1.aV.len:Int))) (aU (decide (0<=a1.aV.get v11.toNat/\a1.aV.get v11.toNat<((a0.v.iR.get (a1.Hits.get v11.toNat).toNat).len:Int))) (aU (room (w32.len+1) 24) (RU E n0 a0 a1 (aO (v11+1)) (⟨(w32.len+1),(jY w32.len w32.get (λ_=>((a0.v.iR.get (a1.Hits.get v11.toNat).toNat).get (a1.aV.get v11.toNat).toNat)))⟩:(Sl ax)) k)))))) (k w32):=krY
end
theorem zQr [aH](E:zem):Ok aC 105 (ae.un (zoj E)):=dP ay.nil
structure V7 where
 N:Nat
 IG:(Pt aS)×Int->ae Int
abbrev zxN(E:V7):bI:=gq (Tabs.nil.addF 140 (ae.un E.IG)) []
def zxO:dG:=bP aC 173 [0] {yl:=[7]}
def zGo(E:V7)(c:List PA):YO:=aI aC (zxN E) E.N zxO 173 c
def zxP(E:V7):(Pt Int)×(Pt (Pt aS))×(Pt Int)->ae (List (Int×Int)):=ae.tyI λc=>.opt (zGo E c)
section
variable(E:V7)
def LY(E:V7)(n:Nat)(a2:(Pt (Pt aS)))(a3:Pt Int)(v5:Int):YO:=ptY aC (zxN E) E.N zxO 173 [1,0] [n] ⟨[(0,.cl (.vec 4095)),(2,eP a2),(3,eP a3),(5,.int v5)],[(4095,.gone)],[]⟩
def LZ(E:V7)(n0 n:Nat)(a2:(Pt (Pt aS)))(a3:Pt Int)(v5 v29 v30:Int):YO:=ptY aC (zxN E) E.N zxO 173 [1,0,0,1,0,0,1,1,0] [n0,n] ⟨[(0,.cl (.vec 4095)),(2,eP a2),(3,eP a3),(5,.int v5),(29,.int v29),(30,.int v30)],[(4095,.gone)],[]⟩
theorem zQs(a1:Pt Int)(a2:(Pt (Pt aS)))(a3:Pt Int):zGo E (dE.enc ((a1,a2,a3):(Pt Int)×(Pt (Pt aS))×(Pt Int)))=LY E E.N a2 a3 a1.v:=krY
theorem ziH(n0:Nat)(a2:(Pt (Pt aS)))(a3:Pt Int)(v5:Int):LY E (n0+1) a2 a3 v5=cond (decide (v5<(a2.v.v.hits.len:Int))) ((E.IG (a2.v,v5)).T λr1=>cond (r1 != a3.v) (LY E n0 a2 a3 (aO (v5+1))) (aU (decide (0≤v5∧v5<(a2.v.v.iR.len:Int))) (LZ E n0 E.N a2 a3 v5 ((a2.v.v.iR.get v5.toNat).len:Int) 0))) (some []):=krY
theorem ziI(n0 n1:Nat)(a2:(Pt (Pt aS)))(a3:Pt Int)(v5 v29 v30:Int):LZ E n0 (n1+1) a2 a3 v5 v29 v30=cond (decide (v30<v29)) (yT (dE.enc ((v5,v30):Int×Int)) (some []) (LZ E n0 n1 a2 a3 v5 v29 (aO (v30+1)))) (LY E n0 a2 a3 (aO (v5+1))):=krY
end
theorem zQt(E:V7)(Zx:Ok aC 140 (ae.un E.IG)):zT aC 173 (ae.unI (zxP E)):=RH (LK (ay.nil.addF Zx) (dJ krY))
structure zok where
 N:Nat
def zol(E:zok):(Pt aS)×Int->ae Int:=ik E.N Tabs.nil 140
theorem zQu(E:zok){A:Type}(k:Int→Option A)(a0:Pt aS)(a1:Int):(zol E (a0,a1)).T k=aU (decide (0<=a1/\a1<(a0.v.hits.len:Int))) (aU (decide (0<=(a0.v.hits.get a1.toNat).ak/\(a0.v.hits.get a1.toNat).ak<(a0.v.au.aj.len:Int))) (k (a0.v.au.aj.get (a0.v.hits.get a1.toNat).ak.toNat).View)):=dO
theorem zQv [aH](E:zok):Ok aC 140 (ae.un (zol E)):=dP ay.nil
structure zom where
 N:Nat
 c160:au->ae Bool
def zon(E:zom):au->ae Int:=ik E.N (Tabs.nil.addF 160 (ae.un E.c160)) 122
theorem zQw(E:zom){A:Type}(k:Int→Option A)(a0:au):(zon E (a0)).T k=(E.c160 a0).T λr1=>cond (!r1) (k 2) (k 0):=dO
theorem zQx [aH](E:zom)(Bz:Ok aC 160 (ae.un E.c160)):Ok aC 122 (ae.un (zon E)):=dP (ay.nil.addF Bz)
structure zoo where
 N:Nat
def zop(E:zoo):Int×Int×Int->ae Bool:=ik E.N Tabs.nil 123
theorem zQy(E:zoo){A:Type}(k:Bool→Option A)(a0 a1 a2:Int):(zop E (a0,a1,a2)).T k=cond (decide (a0>=a1)) (k (decide (a0<=a2))) (k false):=dO
theorem zQz [aH](E:zoo):Ok aC 123 (ae.un (zop E)):=dP ay.nil
structure zoq where
 N:Nat
 TU:au×bi->ae Bool
def zor(E:zoq):au×bi->ae Int:=ik E.N (Tabs.nil.addF 188 (ae.un E.TU)) 138
theorem e138(E:zoq){A:Type}(k:Int→Option A)(a0:au)(a1:bi):(zor E (a0,a1)).T k=(E.TU (a0,a1)).T λr1=>cond (!r1) (k 2) (k 0):=dO
theorem zQA [aH](E:zoq)(Zy:Ok aC 188 (ae.un E.TU)):Ok aC 138 (ae.un (zor E)):=dP (ay.nil.addF Zy)
structure zos where
 N:Nat
 TU:au×bi->ae Bool
 ut:au×bi->ae (placed×Bool)
 zsN:placed×bi->ae ((Sl ax))
def zot(E:zos):au×bi->ae ((Sl ax)×Int):=ik E.N (((Tabs.nil.addF 188 (ae.un E.TU)).addF 112 (ae.un E.ut)).addF 189 (ae.un E.zsN)) 139
theorem zQB(E:zos){A:Type}(k:((Sl ax)×Int)→Option A)(a0:au)(a1:bi):(zot E (a0,a1)).T k=(E.TU (a0,a1)).T λr1=>cond (!r1) (k ((⟨0,λ_=>default⟩:(Sl ax)),2)) ((E.ut (a0,a1)).T λr2=>(E.zsN (r2.1,a1)).T λr3=>cond ((r3.len:Int)==0) (k ((⟨0,λ_=>default⟩:(Sl ax)),5)) (k (r3,0))):=dO
theorem zQC [aH](E:zos)(Zy:Ok aC 188 (ae.un E.TU))(Ac:Ok aC 112 (ae.un E.ut))(zxQ:Ok aC 189 (ae.un E.zsN)):Ok aC 139 (ae.un (zot E)):=dP (((ay.nil.addF Zy).addF Ac).addF zxQ)
structure zen where
 N:Nat
 ig:Int×Int×Int->ae Bool
abbrev zGp(E:zen):bI:=gq (Tabs.nil.addF 161 (ae.un E.ig)) []
def zGq:dG:=bP aC 112 [] {}
def zou(E:zen):au×bi->ae (placed×Bool):=ae.ty (aF aC E.N (zGp E) zGq 112)
section
variable(E:zen){A:Type}(k:(placed×Bool)->Option A)
def RV(E:zen)(n:Nat)(a0:au)(a1:bi)(v67:Int){A:Type}(k:(placed×Bool)->Option A):Option A:=gX aC (zGp E) E.N zGq 112 [1,1,1,1,0,1,0] [.n n] (gW k) ⟨[(3,.cl (.ptr 3 0)),(4,.cl (.ptr 4 0)),(6,.cl (.ptr 6 0)),(65,eP (a0.aj.get a1.ak.toNat).Dead),(66,.int ((a0.aj.get a1.ak.toNat).Dead.len:Int)),(67,.int v67)],[(3,eB 92 a1),(4,.box 185 [.p (.int .i64 0),.p (.int .i64 0),.p (.int .i64 0),.p (.int .i64 0),.p (.int .i64 0),.p (.int .i64 0),.p (.int .i64 0),.p (.int .i64 0),.p (.int .i64 0),.p (.int .i64 0),.p (.int .i64 0),.p (.int .i64 0),.p (.int .i64 0),.p (.nils),.p (.nils),.p (.int .i64 0)]),(6,.box 185 [.p (.int .i64 (a0.aj.get a1.ak.toNat).Kind),.p (.int .i64 (a0.aj.get a1.ak.toNat).View),.p (.int .i64 (a0.aj.get a1.ak.toNat).Z),.p (.int .i64 (a0.aj.get a1.ak.toNat).First),.p (.int .i64 (a0.aj.get a1.ak.toNat).aY),.p (.int .i64 (a0.aj.get a1.ak.toNat).bT),.p (.int .i64 (a0.aj.get a1.ak.toNat).dK),.p (.int .i64 (a0.aj.get a1.ak.toNat).bz.Low),.p (.int .i64 (a0.aj.get a1.ak.toNat).bz.High),.p (.int .i64 (a0.aj.get a1.ak.toNat).Clock.Low),.p (.int .i64 (a0.aj.get a1.ak.toNat).Clock.High),.p (.int .i64 (a0.aj.get a1.ak.toNat).dL),.p (.int .i64 (a0.aj.get a1.ak.toNat).Least),.p (.sl (a0.aj.get a1.ak.toNat).aT.len 3 (λi=>bG.enc ((a0.aj.get a1.ak.toNat).aT.get i))),.p (.sl (a0.aj.get a1.ak.toNat).Dead.len 1 (λi=>bG.enc ((a0.aj.get a1.ak.toNat).Dead.get i))),.p (.int .i64 a1.ak)])],[]⟩
theorem zQD(a0:au)(a1:bi):(zou E (a0,a1)).T k=(E.ig (a1.ak,0,(aO ((a0.aj.len:Int)-1)))).T λr1=>cond (!r1) (k ((⟨(⟨0,0,0,0,0,0,0,(⟨0,0⟩:bZ),(⟨0,0⟩:bZ),0,0,(⟨0,λ_=>default⟩:(Sl aT)),(⟨0,λ_=>default⟩:(Sl Int))⟩:ak),0⟩:placed),false)) (aU (decide (0<=a1.ak/\a1.ak<(a0.aj.len:Int))) ((E.ig (a1.Channel,0,(aO ((a0.aj.get a1.ak.toNat).bT-1)))).T λr2=>cond (!r2) (k ((⟨(a0.aj.get a1.ak.toNat),a1.ak⟩:placed),false)) ((E.ig (a1.jR,1,(aO ((a0.aj.get a1.ak.toNat).bT-a1.Channel)))).T λr3=>cond (!r3) (k ((⟨(a0.aj.get a1.ak.toNat),a1.ak⟩:placed),false)) ((E.ig (a1.BQ,(a0.aj.get a1.ak.toNat).Least,1000000)).T λr4=>cond (!r4) (k ((⟨(a0.aj.get a1.ak.toNat),a1.ak⟩:placed),false)) ((E.ig (a1.Time,(-1000000000),1000000000)).T λr5=>cond (!r5) (k ((⟨(a0.aj.get a1.ak.toNat),a1.ak⟩:placed),false)) (RV E E.N a0 a1 0 k)))))):=dO
theorem ziJ(n0:Nat)(a0:au)(a1:bi)(v67:Int):RV E (n0+1) a0 a1 v67 k=cond (decide (v67<((a0.aj.get a1.ak.toNat).Dead.len:Int))) (aU (decide (0<=v67/\v67<((a0.aj.get a1.ak.toNat).Dead.len:Int))) ((E.ig ((a0.aj.get a1.ak.toNat).Dead.get v67.toNat,a1.Channel,(aO ((aO (a1.Channel+a1.jR))-1)))).T λr1=>cond r1 (k ((⟨(a0.aj.get a1.ak.toNat),a1.ak⟩:placed),false)) (RV E n0 a0 a1 (aO (v67+1)) k))) (cond ((a0.aj.get a1.ak.toNat).Kind==2) (cond (a1.jR==1) ((E.ig (a1.aT,0,1000000)).T λr2=>k ((⟨(a0.aj.get a1.ak.toNat),a1.ak⟩:placed),r2)) (k ((⟨(a0.aj.get a1.ak.toNat),a1.ak⟩:placed),false))) (cond (a1.aT==0) (cond ((a0.aj.get a1.ak.toNat).Kind != 3) (k ((⟨(a0.aj.get a1.ak.toNat),a1.ak⟩:placed),true)) (k ((⟨(a0.aj.get a1.ak.toNat),a1.ak⟩:placed),(a1.Time==0)))) (k ((⟨(a0.aj.get a1.ak.toNat),a1.ak⟩:placed),false)))):=krY
end
theorem zQE [aH](E:zen)(lK:Ok aC 161 (ae.un E.ig)):Ok aC 112 (ae.un (zou E)):=dP (ay.nil.addF lK)
structure zov where
 N:Nat
def zow(E:zov):Int×Int×Int->ae Bool:=ik E.N Tabs.nil 161
theorem e161(E:zov){A:Type}(k:Bool→Option A)(a0 a1 a2:Int):(zow E (a0,a1,a2)).T k=cond (decide (a0>=a1)) (k (decide (a0<=a2))) (k false):=dO
theorem zQF [aH](E:zov):Ok aC 161 (ae.un (zow E)):=dP ay.nil
structure zeo where
 N:Nat
 c201:placed->ae Bool
 ig:Int×Int×Int->ae Bool
abbrev zGr(E:zeo):bI:=gq ((Tabs.nil.addF 201 (ae.un E.c201)).addF 161 (ae.un E.ig)) []
def zGs:dG:=bP aC 160 [] {}
def zox(E:zeo):au->ae Bool:=ae.ty (aF aC E.N (zGr E) zGs 160)
section
variable(E:zeo){A:Type}(k:Bool->Option A)
def FX(E:zeo)(n:Nat)(a0:au)(v9:Int){A:Type}(k:Bool->Option A):Option A:=gX aC (zGr E) E.N zGs 160 [1,0,1,0] [.n n] (gW k) ⟨[(1,.cl (.ptr 1 0)),(7,eP a0.aj),(8,.int (a0.aj.len:Int)),(9,.int v9)],[(1,eB 24 a0)],[]⟩
theorem e160(a0:au):(zox E (a0)).T k=FX E E.N a0 0 k:=dO
theorem ziK(n0:Nat)(a0:au)(v9:Int):FX E (n0+1) a0 v9 k=cond (decide (v9<(a0.aj.len:Int))) (aU (decide (0<=v9/\v9<(a0.aj.len:Int))) ((E.c201 (⟨(a0.aj.get v9.toNat),v9⟩:placed)).T λr1=>cond (!r1) (k false) (cond (decide (v9>0)) (aU (decide (0<=(aO (v9-1))/\(aO (v9-1))<(a0.aj.len:Int))) (cond (decide ((a0.aj.get v9.toNat).Z<=(a0.aj.get (aO (v9-1)).toNat).Z)) (k false) (FX E n0 a0 (aO (v9+1)) k))) (FX E n0 a0 (aO (v9+1)) k)))) ((E.ig ((a0.aj.len:Int),1,16)).T λr2=>k r2):=krY
end
theorem zQG [aH](E:zeo)(zxR:Ok aC 201 (ae.un E.c201))(lK:Ok aC 161 (ae.un E.ig)):Ok aC 160 (ae.un (zox E)):=dP ((ay.nil.addF zxR).addF lK)
structure zoy where
 N:Nat
 ig:Int×Int×Int->ae Bool
def zoz(E:zoy):bZ×Int->ae Bool:=ik E.N (Tabs.nil.addF 161 (ae.un E.ig)) 164
theorem zQH(E:zoy){A:Type}(k:Bool→Option A)(a0:bZ)(a1:Int):(zoz E (a0,a1)).T k=(E.ig (a0.Low,(aO (0-a1)),a0.High)).T λr1=>cond r1 (k (decide (a0.High<=a1))) (k false):=dO
theorem zQI [aH](E:zoy)(lK:Ok aC 161 (ae.un E.ig)):Ok aC 164 (ae.un (zoz E)):=dP (ay.nil.addF lK)
structure Zz where
 N:Nat
 ig:Int×Int×Int->ae Bool
 zfQ:placed->ae Bool
 c232:placed->ae Bool
 c233:placed->ae Bool
 c234:placed->ae Bool
abbrev zxS(E:Zz):bI:=gq (((((Tabs.nil.addF 161 (ae.un E.ig)).addF 235 (ae.un E.zfQ)).addF 232 (ae.un E.c232)).addF 233 (ae.un E.c233)).addF 234 (ae.un E.c234)) []
def zxT:dG:=bP aC 201 [] {}
def zoA(E:Zz):placed->ae Bool:=ae.ty (aF aC E.N (zxS E) zxT 201)
abbrev ZA(n:Int)(a:placed):placed:={a with ak:={a.ak with Kind:=n}}
section
variable(E:Zz){A:Type}(k:Bool->Option A)
def L6(E:Zz)(a0:placed)(uy:Bool){A:Type}(k:Bool->Option A):Option A:=gX aC (zxS E) E.N zxT 201 [1,1,0,0] [.o 4] (gW k) ⟨[(16,.bool uy),(15,.int a0.ak.Kind),(14,.cl (.ptr 1 0)),(13,.cl (.ptr 1 0)),(1,.cl (.ptr 1 0)),(3,.cl (.ptr 3 0))],[(1,eB 185 a0),(3,.box 301 [.p (.nilf),.p (.fna 232 (bG.enc a0)),.p (.fna 233 (bG.enc a0)),.p (.fna 234 (bG.enc a0))])],[(2,1,0)]⟩
def wI(E:Zz)(n:Nat)(a0:placed)(v36:Int){A:Type}(k:Bool->Option A):Option A:=gX aC (zxS E) E.N zxT 201 [1,1,1,0,1,0] [.n n] (gW k) ⟨[(1,.cl (.ptr 1 0)),(34,eP a0.ak.Dead),(35,.int (a0.ak.Dead.len:Int)),(36,.int v36)],[(1,eB 185 a0)],[]⟩
theorem zQJ(a0:placed):(zoA E (a0)).T k=(E.ig (a0.ak.Kind,1,3)).T λr1=>L6 E a0 r1 k:=dO
theorem zoB(a0:placed):L6 E a0 false k=k false:=krY
theorem zoC(a0:placed):L6 E (ZA 1 a0) true k=(E.zfQ (ZA 1 a0)).T λr1=>cond (!r1) (k false) ((E.c232 (ZA 1 a0)).T λr2=>cond (!r2) (k false) (wI E E.N (ZA 1 a0) 0 k)):=krY
theorem zoD(a0:placed):L6 E (ZA 2 a0) true k=(E.zfQ (ZA 2 a0)).T λr1=>cond (!r1) (k false) ((E.c233 (ZA 2 a0)).T λr2=>cond (!r2) (k false) (wI E E.N (ZA 2 a0) 0 k)):=krY
theorem zoE(a0:placed):L6 E (ZA 3 a0) true k=(E.zfQ (ZA 3 a0)).T λr1=>cond (!r1) (k false) ((E.c234 (ZA 3 a0)).T λr2=>cond (!r2) (k false) (wI E E.N (ZA 3 a0) 0 k)):=krY
theorem ziL(n0:Nat)(a0:placed)(v36:Int):wI E (n0+1) a0 v36 k=cond (decide (v36<(a0.ak.Dead.len:Int))) (aU (decide (0<=v36/\v36<(a0.ak.Dead.len:Int))) ((E.ig (a0.ak.Dead.get v36.toNat,0,(aO (a0.ak.bT-1)))).T λr1=>cond (!r1) (k false) (cond (decide (v36>0)) (aU (decide (0<=(aO (v36-1))/\(aO (v36-1))<(a0.ak.Dead.len:Int))) (cond (decide (a0.ak.Dead.get v36.toNat<=a0.ak.Dead.get (aO (v36-1)).toNat)) (k false) (wI E n0 a0 (aO (v36+1)) k))) (wI E n0 a0 (aO (v36+1)) k)))) (k (decide ((a0.ak.Dead.len:Int)<=100))):=krY
end
theorem zQK [aH](E:Zz)(lK:Ok aC 161 (ae.un E.ig))(ziM:Ok aC 235 (ae.un E.zfQ))(zxU:Ok aC 232 (ae.un E.c232))(zxV:Ok aC 233 (ae.un E.c233))(zxW:Ok aC 234 (ae.un E.c234)):Ok aC 201 (ae.un (zoA E)):=dP (((((ay.nil.addF lK).addF ziM).addF zxU).addF zxV).addF zxW)
structure zoF where
 N:Nat
def zoG(E:zoF):placed->ae Bool:=ik E.N Tabs.nil 232
theorem e232(E:zoF){A:Type}(k:Bool→Option A)(a0:placed):(zoG E (a0)).T k=k ((a0.ak.aT.len:Int)==0):=dO
theorem zQL [aH](E:zoF):Ok aC 232 (ae.un (zoG E)):=dP ay.nil
structure zep where
 N:Nat
 ig:Int×Int×Int->ae Bool
abbrev zGt(E:zep):bI:=gq (Tabs.nil.addF 161 (ae.un E.ig)) []
def zGu:dG:=bP aC 233 [] {}
def zoH(E:zep):placed->ae Bool:=ae.ty (aF aC E.N (zGt E) zGu 233)
section
variable(E:zep){A:Type}(k:Bool->Option A)
def FY(E:zep)(n:Nat)(a0:placed)(v9:Int){A:Type}(k:Bool->Option A):Option A:=gX aC (zGt E) E.N zGu 233 [1,0,1,0] [.n n] (gW k) ⟨[(1,.cl (.ptr 1 0)),(7,eP a0.ak.aT),(8,.int (a0.ak.aT.len:Int)),(9,.int v9)],[(1,eB 185 a0)],[]⟩
theorem e233(a0:placed):(zoH E (a0)).T k=FY E E.N a0 0 k:=dO
theorem ziN(n0:Nat)(a0:placed)(v9:Int):FY E (n0+1) a0 v9 k=cond (decide (v9<(a0.ak.aT.len:Int))) (aU (decide (0<=v9/\v9<(a0.ak.aT.len:Int))) ((E.ig ((a0.ak.aT.get v9.toNat).Time,0,1000000)).T λr1=>cond (!r1) (k false) ((E.ig ((a0.ak.aT.get v9.toNat).dQ.Low,0,(a0.ak.aT.get v9.toNat).dQ.High)).T λr2=>cond (!r2) (k false) (cond (decide ((a0.ak.aT.get v9.toNat).dQ.High>(aO (a0.ak.aY.tdiv 2)))) (k false) (cond (decide (v9>0)) (aU (decide (0<=(aO (v9-1))/\(aO (v9-1))<(a0.ak.aT.len:Int))) (cond (decide ((a0.ak.aT.get v9.toNat).Time<=(a0.ak.aT.get (aO (v9-1)).toNat).Time)) (k false) (aU (decide (0<=(aO (v9-1))/\(aO (v9-1))<(a0.ak.aT.len:Int))) (cond (decide ((a0.ak.aT.get v9.toNat).dQ.Low<(a0.ak.aT.get (aO (v9-1)).toNat).dQ.Low)) (k false) (aU (decide (0<=(aO (v9-1))/\(aO (v9-1))<(a0.ak.aT.len:Int))) (cond (decide ((a0.ak.aT.get v9.toNat).dQ.High<(a0.ak.aT.get (aO (v9-1)).toNat).dQ.High)) (k false) (FY E n0 a0 (aO (v9+1)) k))))))) (FY E n0 a0 (aO (v9+1)) k)))))) ((E.ig ((a0.ak.aT.len:Int),1,50)).T λr3=>k r3):=krY
end
theorem zQM [aH](E:zep)(lK:Ok aC 161 (ae.un E.ig)):Ok aC 233 (ae.un (zoH E)):=dP (ay.nil.addF lK)
structure zoI where
 N:Nat
def zoJ(E:zoI):placed->ae Bool:=ik E.N Tabs.nil 234
theorem e234(E:zoI){A:Type}(k:Bool→Option A)(a0:placed):(zoJ E (a0)).T k=k ((a0.ak.aT.len:Int)==0):=dO
theorem zQN [aH](E:zoI):Ok aC 234 (ae.un (zoJ E)):=dP ay.nil
structure zoK where
 N:Nat
 ig:Int×Int×Int->ae Bool
 c164:bZ×Int->ae Bool
def zoL(E:zoK):placed->ae Bool:=ik E.N ((Tabs.nil.addF 161 (ae.un E.ig)).addF 164 (ae.un E.c164)) 235
theorem zQO(E:zoK){A:Type}(k:Bool→Option A)(a0:placed):(zoL E (a0)).T k=(E.ig (a0.ak.View,1,2)).T λr1=>cond (!r1) (k false) ((E.ig (a0.ak.Z,0,100000)).T λr2=>cond (!r2) (k false) ((E.ig (a0.ak.First,(-1000000),1000000)).T λr3=>cond (!r3) (k false) ((E.ig (a0.ak.aY,2,100000)).T λr4=>cond (!r4) (k false) ((E.ig (a0.ak.bT,1,2000)).T λr5=>cond (!r5) (k false) ((E.ig (a0.ak.dK,0,100000)).T λr6=>cond (!r6) (k false) ((E.c164 (a0.ak.bz,1000000)).T λr7=>cond (!r7) (k false) ((E.c164 (a0.ak.Clock,1000000000)).T λr8=>cond (!r8) (k false) ((E.ig (a0.ak.dL,0,1000000)).T λr9=>cond (!r9) (k false) ((E.ig (a0.ak.Least,0,1000000)).T λUa=>cond (!Ua) (k false) (cond (decide ((aO ((aO ((aO (a0.ak.First-a0.ak.aY))-a0.ak.dK))+a0.ak.bz.Low))>=(-1000000))) (k (decide ((aO ((aO ((aO (a0.ak.First+(aO ((aO (a0.ak.bT+1))*a0.ak.aY))))+a0.ak.dK))+a0.ak.bz.High))<=1000000))) (k false))))))))))):=dO
theorem zQP [aH](E:zoK)(lK:Ok aC 161 (ae.un E.ig))(V8:Ok aC 164 (ae.un E.c164)):Ok aC 235 (ae.un (zoL E)):=dP ((ay.nil.addF lK).addF V8)
structure zoM where
 N:Nat
 c160:au->ae Bool
 ut:au×bi->ae (placed×Bool)
def zoN(E:zoM):au×bi->ae Bool:=ik E.N ((Tabs.nil.addF 160 (ae.un E.c160)).addF 112 (ae.un E.ut)) 188
theorem zQQ(E:zoM){A:Type}(k:Bool→Option A)(a0:au)(a1:bi):(zoN E (a0,a1)).T k=(E.c160 a0).T λr1=>cond (!r1) (k false) ((E.ut (a0,a1)).T λr2=>k r2.2):=dO
theorem zQR [aH](E:zoM)(Bz:Ok aC 160 (ae.un E.c160))(Ac:Ok aC 112 (ae.un E.ut)):Ok aC 188 (ae.un (zoN E)):=dP ((ay.nil.addF Bz).addF Ac)
structure zoO where
 N:Nat
 zfP:placed×Int×Int->ae ax
 zsW:placed×Int->ae (Int×Int)
def zoP(E:zoO):placed×bi->ae ((Sl ax)):=ik E.N ((Tabs.nil.addF 223 (ae.un E.zfP)).addF 224 (ae.un E.zsW)) 189
theorem e189(E:zoO){A:Type}(k:(Sl ax)→Option A)(a0:placed)(a1:bi):(zoP E (a0,a1)).T k=cond (a0.ak.Kind != 2) (cond (decide ((aO ((aO (a0.ak.First+(aO ((aO ((aO (a1.Channel+a1.jR))-1))*a0.ak.aY))))-a0.ak.dK))>(aO ((aO (a0.ak.First+(aO ((aO (a1.Channel+1))*a0.ak.aY))))+a0.ak.dK)))) (k (⟨0,λ_=>default⟩:(Sl ax))) ((E.zfP (a0,(aO ((aO (a0.ak.First+(aO ((aO ((aO (a1.Channel+a1.jR))-1))*a0.ak.aY))))-a0.ak.dK)),(aO ((aO (a0.ak.First+(aO ((aO (a1.Channel+1))*a0.ak.aY))))+a0.ak.dK)))).T λr1=>k (⟨1,(fun _=>r1)⟩:(Sl ax)))) ((E.zsW (a0,a1.aT)).T λr2=>(E.zfP (a0,(aO ((aO (a0.ak.First+(aO (a1.Channel*a0.ak.aY))))-r2.2)),(aO ((aO (a0.ak.First+(aO (a1.Channel*a0.ak.aY))))-r2.1)))).T λr3=>(E.zfP (a0,(aO ((aO (a0.ak.First+(aO (a1.Channel*a0.ak.aY))))+r2.1)),(aO ((aO (a0.ak.First+(aO (a1.Channel*a0.ak.aY))))+r2.2)))).T λr4=>cond (decide (r3.High>=r4.Low)) (k (⟨1,(λ_=>(⟨a0.ak.Z,r3.Low,r4.High⟩:ax))⟩:(Sl ax))) (k (⟨2,(kL [r3,r4])⟩:(Sl ax)))):=dO
theorem zQS [aH](E:zoO)(zxX:Ok aC 223 (ae.un E.zfP))(zxY:Ok aC 224 (ae.un E.zsW)):Ok aC 189 (ae.un (zoP E)):=dP ((ay.nil.addF zxX).addF zxY)
structure zoQ where
 N:Nat
def zoR(E:zoQ):placed×Int×Int->ae ax:=ik E.N Tabs.nil 223
theorem e223(E:zoQ){A:Type}(k:ax→Option A)(a0:placed)(a1 a2:Int):(zoR E (a0,a1,a2)).T k=k (⟨a0.ak.Z,(aO (a1+a0.ak.bz.Low)),(aO (a2+a0.ak.bz.High))⟩:ax):=dO
theorem zQT [aH](E:zoQ):Ok aC 223 (ae.un (zoR E)):=dP ay.nil
structure ZB where
 N:Nat
 zs8:(Pt (Sl aT))->ae (List (Int×aT))
abbrev zxZ(E:ZB):bI:=gq ((Tabs.nil.addF 246 (aF aC E.N (gq Tabs.nil []) (bP aC 246 [] {}) 246)).addI 251 (ae.unI E.zs8)) []
def zx0:dG:=bP aC 224 [] {}
def zoS(E:ZB):placed×Int->ae (Int×Int):=ae.ty (aF aC E.N (zxZ E) zx0 224)
section
variable(E:ZB){A:Type}(k:(Int×Int)->Option A)
def L8(E:ZB)(n:Nat)(a0:placed)(a1 v6 v20 Dx:Int){A:Type}(k:(Int×Int)->Option A):Option A:=gX aC (zxZ E) E.N zx0 224 [1,1,0,1,0] [.n n] (gW k) ⟨[(2,.cl (.ptr 2 0)),(3,.cl (.ptr 3 0)),(6,.int v6),(7,.cl (.ptr 7 0)),(18,eP a0.ak.aT),(19,.int (a0.ak.aT.len:Int)),(20,.int v20)],[(2,eB 185 a0),(3,eB 3 a1),(7,eB 3 Dx)],[]⟩
def FZ(E:ZB)(l:List (Int×aT))(a0:placed)(a1 v6 Dx:Int){A:Type}(k:(Int×Int)->Option A):Option A:=gX aC (zxZ E) E.N zx0 224 [1,1,1,0,1,0] [.y (l.map dE.enc)] (gW k) ⟨[(2,.cl (.ptr 2 0)),(3,.cl (.ptr 3 0)),(6,.int v6),(7,.cl (.ptr 7 0)),(39,.p (.fn 251 [] [.fp [.sl a0.ak.aT.len 3 (λi=>bG.enc (a0.ak.aT.get i))] 0]))],[(2,eB 185 a0),(3,eB 3 a1),(7,eB 3 Dx)],[]⟩
theorem e224(a0:placed)(a1:Int):(zoS E (a0,a1)).T k=L8 E E.N a0 a1 0 0 (aO (a0.ak.aY.tdiv 2)) k:=dO
theorem ziO(n0:Nat)(a0:placed)(a1 v6 v20 Dx:Int):L8 E (n0+1) a0 a1 v6 v20 Dx k=cond (decide (v20<(a0.ak.aT.len:Int))) (aU (decide (0<=v20/\v20<(a0.ak.aT.len:Int))) (cond (decide ((a0.ak.aT.get v20.toNat).Time<=(aO (a1-a0.ak.dL)))) (L8 E n0 a0 a1 (a0.ak.aT.get v20.toNat).dQ.Low (aO (v20+1)) Dx k) (L8 E n0 a0 a1 v6 (aO (v20+1)) Dx k))) ((E.zs8 (⟨a0.ak.aT⟩:(Pt (Sl aT)))).T λr1=>FZ E r1 a0 a1 v6 Dx k):=krY
theorem zoT(a0:placed)(a1 v6 Dx:Int):FZ E [] a0 a1 v6 Dx k=k (v6,Dx):=krY
theorem zx1(y:Int×aT)(l0:List (Int×aT))(a0:placed)(a1 v6 Dx:Int):FZ E (y::l0) a0 a1 v6 Dx k=cond (decide (y.2.Time>=(aO (a1+a0.ak.dL)))) (FZ E l0 a0 a1 v6 y.2.dQ.High k) (FZ E l0 a0 a1 v6 Dx k):=krY
end
theorem zQU [aH](E:ZB)(zQV:zT aC 251 (ae.unI E.zs8)):Ok aC 224 (ae.un (zoS E)):=dP ((ay.nil.addF (wF ay.nil (dJ krY))).addI zQV)
structure ZC where
 N:Nat
abbrev zGv(E:ZC):bI:=gq Tabs.nil []
def zGw:dG:=bP aC 251 [0] {yl:=[3]}
def zGx(E:ZC)(c:List PA):YO:=aI aC (zGv E) E.N zGw 251 c
def zx2(E:ZC):(Pt (Sl aT))->ae (List (Int×aT)):=ae.tyI λc=>.opt (zGx E c)
section
variable(E:ZC)
def RX(E:ZC)(n:Nat)(a1:(Pt (Sl aT)))(v3:Int):YO:=ptY aC (zGv E) E.N zGw 251 [1,0] [n] ⟨[(0,.cl (.vec 4095)),(1,eP a1),(3,.int v3)],[(4095,.gone)],[]⟩
theorem e251(a1:(Pt (Sl aT))):zGx E (dE.enc ((a1):(Pt (Sl aT))))=RX E E.N a1 (aO ((a1.v.len:Int)-1)):=krY
theorem ziP(n0:Nat)(a1:(Pt (Sl aT)))(v3:Int):RX E (n0+1) a1 v3=cond (decide (v3>=0)) (aU (decide (0<=v3/\v3<(a1.v.len:Int))) (yT (dE.enc ((v3,(a1.v.get v3.toNat)):Int×aT)) (some []) (RX E n0 a1 (aO (v3-1))))) (some []):=krY
end
theorem zQW(E:ZC):zT aC 251 (ae.unI (zx2 E)):=RH (LK ay.nil (dJ krY))
theorem aZ{x:Int}(h1 : -9223372036854775808<=x)(h2:x<=9223372036854775807):aO x=x:=by
 have hb:IntKind.i64.bits=64:=rfl;have hs:IntKind.i64.signed=true:=rfl;unfold aO IntKind.wrap;rw[hb,hs];simp only[N9,oW];split<;>omega
theorem bF{i:Nat}(h:i<4611686018427387904):aO ((i:Int)+1)=((i+1:Nat):Int):=by rw[aZ omY omY];omega
theorem qV{i:Nat}(h:i<4611686018427387904):aO ((i:Int)-1)=(i:Int)-1:=aZ omY omY
section
variable{A ρ:Type}
theorem aX{r:ρ}{k:ρ->Option A}:(ae.ok r).T k=k r:=rfl
theorem bn{p:Prop}[Decidable p]{x:Option A}(h:p):aU (decide p) x=x:=by rw[dM h];rfl
theorem zGy{p:Prop}[Decidable p]{x y:Option A}(h:p):cond (decide p) x y=x:=by rw[dM h];rfl
theorem zGz{p:Prop}[Decidable p]{x y:Option A}(h:¬p):cond (decide p) x y=y:=by rw[dR h];rfl
theorem kc{τ:Type}(f:τ->Option A)(b:Bool)(x y:τ):cond b (f x) (f y)=f (cond b x y):=by cases b<;>rfl
theorem two(Y s:Option A):∃f:Bool->Option A,f true=Y/\f false=s:=⟨λb=>cond b Y s,rfl,rfl⟩
theorem zeq(k:Bool->Option A)(a b:Bool):cond a (k b) (k false)=k (a&&b):=by cases a<;>rfl
end
theorem dA{p:Nat->Bool}{n:Nat}:eH p n=true↔∀i,i<n->p i=true:=by
 refine⟨λh i hi=>QF h i hi,λh=>?_⟩
 induction n with|zero=>rfl|succ n ih=>simp only[eH,ih λi hi=>h i omY,h n omY,qjW]
section
variable{A:Type}
theorem ziQ{L:Nat→Int→Option A}{p:Nat→Bool}{m:Nat}{fin stop:Option A}(hm:m<4611686018427387904)
    (hL:∀n i,i<m->(∀j,j<i->p j=true)->L (n+1) (i:Int)=cond (p i) (L n (aO ((i:Int)+1))) stop) (hE:∀n,(∀j,j<m->p j=true)->L (n+1) (m:Int)=fin) :
    ∀n,m<n->L n 0=cond (eH p m) fin stop:=by
  have key:∀(d i n:Nat),i+d=m->d<n->(∀j,j<i->p j=true)->L n (i:Int)=cond (eH p m) fin stop:=by
    intro d
    induction d with
    | zero =>
      intro i n hi hn hp;obtain⟨n,rfl⟩:∃n',n=n'+1:=⟨n-1,omY⟩;have e:i=m:=by omega
      subst e;rw[hE n hp,dA.2 hp];rfl
    | succ d ih =>
      intro i n hi hn hp;obtain⟨n,rfl⟩:∃n',n=n'+1:=⟨n-1,omY⟩;rw[hL n i omY hp];cases kX:p i with
      | true =>
        rw[dS,bF omY];exact ih (i+1) n omY omY λj hj=>by
          by_cases e:j=i;rw[e];exact kX;exact hp j omY
      | false =>
        have:eH p m=false:=by
          cases e:eH p m with|false=>rfl|true=>rw[dA.1 e i omY]at kX;cases kX
        rw[this];rfl
  intro n hn;exact key m 0 n omY hn λj hj=>absurd hj omY
theorem loopA{L:Nat→Int→Option A}{p:Nat→Bool}{m:Nat}{fin stop:Option A}(hm:m<4611686018427387904)
    (hL:∀n i,i<m->L (n+1) (i:Int)=cond (p i) (L n (aO ((i:Int)+1))) stop) (hE:∀n,L (n+1) (m:Int)=fin) :
    ∀n,m<n->L n 0=cond (eH p m) fin stop:=ziQ hm (λn i hi _=>hL n i hi) λn _=>hE n
end
theorem BA{p q:Nat->Bool}{n:Nat}(h:∀i,i<n->p i=q i):eH p n=eH q n:=by
 rw[Yh,dA,dA];exact⟨λg i hi=>by rw[<- h i hi];exact g i hi,λg i hi=>by rw[h i hi];exact g i hi⟩
def inB(x a b:Int):Bool:=decide (a<=x/\x<=b)
abbrev BB(C:Int×Int×Int->ae Bool):Prop:=∀x a b,C (x,a,b)=.ok (inB x a b)
theorem s73{E:E73}:BB (F73 E):=λx a b=>ae.ext λk=>by rw[e73,kc k,aX];congr 1;simp only[inB];grind
theorem s86{E:E86}:BB (F86 E):=λx a b=>ae.ext λk=>by rw[e86,kc k,aX];congr 1;simp only[inB];grind
theorem zQX{E:zoo}:BB (zop E):=λx a b=>ae.ext λk=>by rw[zQy,kc k,aX];congr 1;simp only[inB];grind
theorem zQY{E:zov}:BB (zow E):=λx a b=>ae.ext λk=>by rw[e161,kc k,aX];congr 1;simp only[inB];grind
abbrev zx3(C:Int->ae Bool):Prop:=∀x,C x=.ok (inB x (-1000000) 1000000)
theorem zQZ{E:zog}(NV:BB E.uz):zx3 (zoh E):=λx=>ae.ext λk=>by rw[zQh];simp only[NV,aX]
abbrev Big(N:Nat):Prop:=20000000<N
def stB(l:Sl aT)(ziR:Int)(i:Nat):Bool :=
  inB (l.get i).Time 0 1000000&&inB (l.get i).dQ.Low 0 (l.get i).dQ.High&&decide ((l.get i).dQ.High≤aO (ziR.tdiv 2)) &&
    (decide (i=0)||decide ((l.get (i-1)).Time<(l.get i).Time)&&decide ((l.get (i-1)).dQ.Low<=(l.get i).dQ.Low)&&decide ((l.get (i-1)).dQ.High<=(l.get i).dQ.High))
def qW(l:Sl aT)(ziR:Int):Bool:=eH (stB l ziR) l.len&&inB l.len 1 50
theorem V9{i n:Nat}(h:i<n)(hn:n<4611686018427387904)(h0:(i:Int)>0):(0<=aO ((i:Int)-1)/\aO ((i:Int)-1)<(n:Int))/\(aO ((i:Int)-1)).toNat=i-1:=by
 rw[qV omY];omega
abbrev zx4(C:Sl aT×Int->ae Bool):Prop:=∀l p,l.len<=60->C (l,p)=.ok (qW l p)
theorem zQ0{E:zek}(N:Big E.N)(NV:BB E.uz):zx4 (zoi E):=λl p h=>ae.ext λk=>by
 rw[zQj];refine(loopA (L:=λn v=>FW E n l p v k) (p:=stB l p) (m:=l.len) (fin:=k (inB l.len 1 50)) (stop:=k false) omY (λn i hi=>?_) (λn=>?_) _ omY).trans ?_;obtain⟨f,h1,h2⟩:=two (FW E n l p (aO ((i:Int)+1)) k) (k false);rw[ziF,bn omY,<- h1,<- h2];simp only[NV,aX,gy];by_cases h0:(i:Int)>0;obtain⟨p1,p2⟩:=V9 hi omY h0;simp only[bn p1,p2,kc f];congr 1;simp only[stB,inB];grind;simp only [dR h0,dF,kc f];congr 1;simp only[stB,inB];grind;rw[ziF];simp only[NV,aX,QB,Jt,dF];exact zeq k _ _
def lfP(p:ak):Int:=aO (aO (aO (p.First-p.aY)-p.dK)+p.bz.Low)
def rtP(p:ak):Int:=aO (aO (aO (p.First+aO (aO (p.bT+1)*p.aY))+p.dK)+p.bz.High)
def PlN(p:ak):Prop:=(1<=p.Kind/\p.Kind<=3)/\(1<=p.View/\p.View<=2)/\(0<=p.Z/\p.Z<=100000)/\(-1000000<=p.First/\p.First<=1000000)/\(2<=p.aY/\p.aY<=100000)/\(1<=p.bT/\p.bT<=2000)/\(0<=p.dK/\p.dK<=100000) /\
 (-1000000<=p.bz.Low/\p.bz.Low<=p.bz.High/\p.bz.High<=1000000)/\(-1000000000<=p.Clock.Low/\p.Clock.Low<=p.Clock.High/\p.Clock.High<=1000000000)/\(0<=p.dL/\p.dL<=1000000)/\(0<=p.Least/\p.Least<=1000000)/\-1000000<=lfP p/\rtP p<=1000000
instance(p:ak):Decidable (PlN p):=by unfold PlN;infer_instance
theorem zB{a b:Int}(ha:0<=a/\a<=10000)(hb:0<=b/\b<=100000):0<=a*b/\a*b<=1000000000 :=
 ⟨qd3 ha.1 hb.1,by have:=Int.mul_le_mul ha.2 hb.2 hb.1 omY;omega⟩
theorem zGA{p:ak}(h1 : -1000000≤p.First∧p.First≤1000000)(h2:2≤p.aY∧p.aY≤100000)(h3:1≤p.bT∧p.bT≤2000)(h4:0≤p.dK∧p.dK≤100000)
    (h5 : -1000000<=p.bz.Low/\p.bz.Low<=p.bz.High/\p.bz.High<=1000000) :
    lfP p=p.First-p.aY-p.dK+p.bz.Low/\rtP p=p.First+(p.bT+1)*p.aY+p.dK+p.bz.High/\lfP p<rtP p:=by
  obtain⟨q1,q2⟩:=zB (a:=p.bT+1) (b:=p.aY) omY omY;have e1:lfP p=p.First-p.aY-p.dK+p.bz.Low:=by
    unfold lfP;rw[aZ (x:=p.First-p.aY) omY omY,aZ (x:=p.First-p.aY-p.dK) omY omY,aZ omY omY]
  have e2:rtP p=p.First+(p.bT+1)*p.aY+p.dK+p.bz.High:=by
    unfold rtP;rw[aZ (x:=p.bT+1) omY omY,aZ (x:=(p.bT+1)*p.aY) omY omY,aZ (x:=p.First+(p.bT+1)*p.aY) omY omY,aZ (x:=p.First+(p.bT+1)*p.aY+p.dK) omY omY,aZ omY omY]
  exact⟨e1,e2,omY⟩
def dB(p:ak)(i:Nat):Bool:=inB (p.Dead.get i) 0 (aO (p.bT-1))&&(decide (i=0)||decide (p.Dead.get (i-1)<p.Dead.get i))
def plB(p:ak):Bool:=decide (PlN p)&&cond (p.Kind==2) (qW p.aT p.aY) (decide (p.aT.len=0))&&decide (p.Dead.len<=100)&&eH (dB p) p.Dead.len
def Few(p:ak):Prop:=p.aT.len<=60/\p.Dead.len<=110
abbrev zx5(C:ak->ae Bool):Prop:=∀p,Few p->C p=.ok (plB p)
theorem zQ1{E:RP}(N:Big E.N)(NV:BB E.uz)(zxF:zx3 E.TT)(zxG:zx4 E.c175):zx5 (zoc E):=λp h=>ae.ext λk=>by
 have hl:=h.1;have hd:=h.2;have lp:uk E E.N p 0 k=k (eH (dB p) p.Dead.len):=by
  refine(loopA (L:=λn v=>uk E n p v k) (p:=dB p) (m:=p.Dead.len) (fin:=k true) (stop:=k false) omY (λn i hi=>?_) (λn=>?_) _ omY).trans ?_;obtain⟨f,h1,h2⟩:=two (uk E n p (aO ((i:Int)+1)) k) (k false);rw[ziA,bn omY,<- h1,<- h2];simp only[NV,aX,gy];by_cases h0:(i:Int)>0;obtain⟨p1,p2⟩:=V9 hi omY h0;simp only[bn p1,bn (show 0<=(i:Int)/\(i:Int)<(p.Dead.len:Int)by omega),p2,kc f];congr 1;simp only[dB];grind;simp only [dR h0,dF,kc f];congr 1;simp only[dB];grind;rw[ziA];simp only[QB,Jt,dF];rw[kc k];congr 1;cases eH (dB p) p.Dead.len<;>rfl
 rw[zQb];simp only[zxC,zxD,zxE,NV,zxF,zxG _ _ hl,aX,lp,kc k];congr 1;have lr:=@zGA p;have e1:aO (aO (aO (p.First-p.aY)-p.dK)+p.bz.Low)=lfP p:=rfl;have e2:aO (aO (aO (p.First+aO (aO (p.bT+1)*p.aY))+p.dK)+p.bz.High)=rtP p:=rfl;simp only[e1,e2,plB,PlN,inB];generalize qW p.aT p.aY=A;generalize eH (dB p) p.Dead.len=B
 grind (splits:=60)
def qX(s:au):Prop:=s.aj.len<=20/\∀i,i<s.aj.len->Few (s.aj.get i)
def seB(s:au)(i:Nat):Bool:=plB (s.aj.get i)&&(decide (i=0)||decide ((s.aj.get (i-1)).Z<(s.aj.get i).Z))
def fE(s:au):Bool:=inB s.aj.len 1 16&&eH (seB s) s.aj.len
abbrev QSe(C:au->ae Bool):Prop:=∀s,qX s->C s=.ok (fE s)
theorem s61{E:E61}(N:Big E.N)(NV:BB E.uz)(zxz:zx5 E.c124):QSe (F61 E):=λs h=>ae.ext λk=>by
 have hl:=h.1;rw[e61];have lp:LU E E.N s 0 k=k (eH (seB s) s.aj.len):=by
  refine(loopA (L:=λn v=>LU E n s v k) (p:=seB s) (m:=s.aj.len) (fin:=k true) (stop:=k false) omY (λn i hi=>?_) (λn=>?_) _ omY).trans ?_;obtain⟨f,h1,h2⟩:=two (LU E n s (aO ((i:Int)+1)) k) (k false);rw[zt9,bn omY,<- h1,<- h2];simp only[gy,zxz _ (h.2 i hi),aX];by_cases h0:(i:Int)>0;obtain⟨p1,p2⟩:=V9 hi omY h0;simp only[bn p1,bn (show 0<=(i:Int)/\(i:Int)<(s.aj.len:Int)by omega),p2,kc f];congr 1;simp only[seB];grind;simp only [dR h0,dF,kc f];congr 1;simp only[seB];grind;rw[zt9];simp only[QB,Jt,dF];rw[kc k];congr 1;cases eH (seB s) s.aj.len<;>rfl
 simp only[NV,aX,lp,kc k];congr 1;simp only[fE];cases inB s.aj.len 1 16<;>rfl
/-! The program. -/
abbrev zoV(C:bZ×Int->ae Bool):Prop:=∀x m,0<=m/\m<=1000000000->C (x,m)=.ok (decide (-m<=x.Low/\x.Low<=x.High/\x.High<=m))
theorem zQ2{E:zoy}(lK:BB E.ig):zoV (zoz E):=λx m h=>ae.ext λk=>by
 rw[zQH];simp only[lK,aX,aZ (x:=0-m) omY omY,kc k];congr 1;simp only[inB];grind
def shB(p:ak):Bool:=decide ((1<=p.View/\p.View<=2)/\(0<=p.Z/\p.Z<=100000)/\(-1000000<=p.First/\p.First<=1000000)/\(2<=p.aY/\p.aY<=100000)/\(1<=p.bT/\p.bT<=2000)/\(0<=p.dK/\p.dK<=100000) /\
 (-1000000<=p.bz.Low/\p.bz.Low<=p.bz.High/\p.bz.High<=1000000)/\(-1000000000<=p.Clock.Low/\p.Clock.Low<=p.Clock.High/\p.Clock.High<=1000000000)/\(0<=p.dL/\p.dL<=1000000)/\(0<=p.Least/\p.Least<=1000000)/\-1000000<=lfP p/\rtP p<=1000000)
abbrev zx6(C:placed->ae Bool):Prop:=∀p,C p=.ok (shB p.ak)
theorem zQ3{E:zoK}(lK:BB E.ig)(V8:zoV E.c164):zx6 (zoL E):=λp=>ae.ext λk=>by
 rw[zQO];simp only[lK,V8 _ _ (show(0:Int)<=1000000/\(1000000:Int)<=1000000000 by omega),V8 _ _ (show(0:Int)<=1000000000/\(1000000000:Int)<=1000000000 by omega),aX,kc k];congr 1;have e1:aO (aO (aO (p.ak.First-p.ak.aY)-p.ak.dK)+p.ak.bz.Low)=lfP p.ak:=rfl;have e2:aO (aO (aO (p.ak.First+aO (aO (p.ak.bT+1)*p.ak.aY))+p.ak.dK)+p.ak.bz.High)=rtP p.ak:=rfl;simp only[e1,e2,shB,inB]
 grind (splits:=60)
abbrev zes(C:placed->ae Bool):Prop:=∀p,C p=.ok (decide (p.ak.aT.len=0))
theorem zQ4{E:zoF}:zes (zoG E):=λp=>ae.ext λk=>by
 rw[e232,aX];congr 1;grind
theorem zQ5{E:zoI}:zes (zoJ E):=λp=>ae.ext λk=>by
 rw[e234,aX];congr 1;grind
abbrev zx7(C:placed->ae Bool):Prop:=∀q,Few q.ak->C q=.ok (qW q.ak.aT q.ak.aY)
theorem zQ6{E:zep}(N:Big E.N)(lK:BB E.ig):zx7 (zoH E):=λq h=>ae.ext λk=>by
 rw[e233];have h':=h.1;refine(loopA (L:=λn v=>FY E n q v k) (p:=stB q.ak.aT q.ak.aY) (m:=q.ak.aT.len) (fin:=k (inB q.ak.aT.len 1 50)) (stop:=k false) omY (λn i hi=>?_) (λn=>?_) _ omY).trans ?_;obtain⟨f,h1,h2⟩:=two (FY E n q (aO ((i:Int)+1)) k) (k false);rw[ziN,bn omY,<- h1,<- h2];simp only[lK,aX,gy];by_cases h0:(i:Int)>0;obtain⟨p1,p2⟩:=V9 hi omY h0;simp only[bn p1,p2,kc f];congr 1;simp only[stB,inB];grind;simp only [dR h0,dF,kc f];congr 1;simp only[stB,inB];grind;rw[ziN];simp only[lK,aX,QB,Jt,dF];exact zeq k _ _
abbrev zx8(C:placed->ae Bool):Prop:=∀q,Few q.ak->C q=.ok (plB q.ak)
theorem zQ7{E:Zz}(N:Big E.N)(lK:BB E.ig)(ziM:zx6 E.zfQ)(zxU:zes E.c232)(zxV:zx7 E.c233)(zxW:zes E.c234):zx8 (zoA E):=λq h=>ae.ext λk=>by
 have lp:∀q:placed,Few q.ak->wI E E.N q 0 k=k (decide (q.ak.Dead.len<=100)&&eH (dB q.ak) q.ak.Dead.len):=by
  intro q h;have h':=h.2;refine(loopA (L:=λn v=>wI E n q v k) (p:=dB q.ak) (m:=q.ak.Dead.len) (fin:=k (decide (q.ak.Dead.len<=100))) (stop:=k false) omY (λn i hi=>?_) (λn=>?_) _ omY).trans ?_;obtain⟨f,h1,h2⟩:=two (wI E n q (aO ((i:Int)+1)) k) (k false);rw[ziL,bn omY,<- h1,<- h2];simp only[lK,aX,gy];by_cases h0:(i:Int)>0;obtain⟨p1,p2⟩:=V9 hi omY h0;simp only[bn p1,p2,kc f];congr 1;simp only[dB];grind;simp only [dR h0,dF,kc f];congr 1;simp only[dB];grind;rw[ziL];simp only[QB,Jt,dF];congr 1;grind;rw[zeq,jqq]
 rw[zQJ];simp only[lK,aX];have fin:plB q.ak=(inB q.ak.Kind 1 3&&shB q.ak&&cond (q.ak.Kind==2) (qW q.ak.aT q.ak.aY) (decide (q.ak.aT.len=0))&&(decide (q.ak.Dead.len<=100)&&eH (dB q.ak) q.ak.Dead.len)):=by
  simp only[plB,PlN,shB,inB];generalize qW q.ak.aT q.ak.aY=A;generalize eH (dB q.ak) q.ak.Dead.len=B
  grind (splits:=60)
 rw[fin];cases hk:inB q.ak.Kind 1 3 with
 | false=>exact zoB _ _ _
 | true =>
  simp only[inB,oW]at hk;have hc:q.ak.Kind=1\/q.ak.Kind=2\/q.ak.Kind=3:=by omega
  obtain⟨⟨kd,vw,z,fi,pi,st,sp,of,cl,ji,le,dr,de⟩,ix⟩:=q;rcases hc with e|e|e<;>simp only at e<;>subst e
  refine(zoC E k ⟨⟨1,vw,z,fi,pi,st,sp,of,cl,ji,le,dr,de⟩,ix⟩).trans ?_;simp only[ziM _,zxU _,aX,lp ⟨⟨1,vw,z,fi,pi,st,sp,of,cl,ji,le,dr,de⟩,ix⟩ h,kc k,ZA];congr 1;grind;refine(zoD E k ⟨⟨2,vw,z,fi,pi,st,sp,of,cl,ji,le,dr,de⟩,ix⟩).trans ?_;simp only[ziM _,zxV ⟨⟨2,vw,z,fi,pi,st,sp,of,cl,ji,le,dr,de⟩,ix⟩ h,aX,lp ⟨⟨2,vw,z,fi,pi,st,sp,of,cl,ji,le,dr,de⟩,ix⟩ h,kc k,ZA];congr 1;grind;refine(zoE E k ⟨⟨3,vw,z,fi,pi,st,sp,of,cl,ji,le,dr,de⟩,ix⟩).trans ?_;simp only[ziM _,zxW _,aX,lp ⟨⟨3,vw,z,fi,pi,st,sp,of,cl,ji,le,dr,de⟩,ix⟩ h,kc k,ZA];congr 1;grind
theorem zQ8{E:zeo}(N:Big E.N)(zxR:zx8 E.c201)(lK:BB E.ig):QSe (zox E):=λs h=>ae.ext λk=>by
 rw[e160];have h':=h.1;refine(loopA (L:=λn v=>FX E n s v k) (p:=seB s) (m:=s.aj.len) (fin:=k (inB s.aj.len 1 16)) (stop:=k false) omY (λn i hi=>?_) (λn=>?_) _ omY).trans ?_;obtain⟨f,h1,h2⟩:=two (FX E n s (aO ((i:Int)+1)) k) (k false);rw[ziK,bn omY,<- h1,<- h2];simp only[gy,zxR ⟨s.aj.get i,(i:Int)⟩ (h.2 i hi),aX];by_cases h0:(i:Int)>0;obtain⟨p1,p2⟩:=V9 hi omY h0;simp only[bn p1,p2,kc f];congr 1;simp only[seB];grind;simp only [dR h0,dF,kc f];congr 1;simp only[seB];grind;rw[ziK];simp only[lK,aX,QB,Jt,dF];rw[zeq,jqq];rfl
abbrev zx9(C:au->ae Int):Prop:=∀s,qX s->C s=.ok (cond (fE s) 0 2)
theorem zQ9{E:zom}(Bz:QSe E.c160):zx9 (zon E):=λs h=>ae.ext λk=>by
 rw[zQw];simp only[Bz s h,aX,kc k];congr 1;cases fE s<;>rfl
theorem jO{A:Type}{X:Nat->Nat->Option A}{m:Nat}{fin:Option A}(hL:∀n i,i<m->X (n+1) i=X n (i+1))(hE:∀n,X (n+1) m=fin):∀n,m<n->X n 0=fin:=by
 have key:∀d i n,i+d=m->d<n->X n i=fin:=by
  intro d
  induction d with
  | zero =>
   intro i n hi hn;obtain⟨n,rfl⟩:∃n',n=n'+1:=⟨n-1,omY⟩;have e:i=m:=by omega
   subst e;exact hE n
  | succ d ih =>
   intro i n hi hn;obtain⟨n,rfl⟩:∃n',n=n'+1:=⟨n-1,omY⟩;rw[hL n i omY];exact ih (i+1) n omY omY
 intro n hn;exact key m 0 n omY hn
theorem qI{s:au}(h:fE s=true):1<=s.aj.len/\s.aj.len<=16:=by
 simp only[fE,inB,gz,oW]at h;omega
theorem L9{s:au}(h:fE s=true){i:Nat}(hi:i<s.aj.len):plB (s.aj.get i)=true:=by
 simp only[fE,gz,dA]at h;have:=h.2 i hi;simp only[seB,gz]at this;exact this.1
theorem zGB{p:ak}(h:plB p=true):PlN p:=by
 simp only[plB,gz,oW]at h;exact h.1.1.1
theorem sN{s:au}(h:fE s=true){i:Nat}(hi:i<s.aj.len):PlN (s.aj.get i):=zGB (L9 h hi)
def knB(p:ak)(h:bi):Bool:=cond (p.Kind==2) (decide (h.jR=1)&&inB h.aT 0 1000000) (cond (p.Kind==3) (decide (h.aT=0)&&decide (h.Time=0)) (decide (h.aT=0)))
def lvB(p:ak)(h:bi):Bool:=eH (λj=>!inB (p.Dead.get j) h.Channel (h.Channel+h.jR-1)) p.Dead.len
def hpB(p:ak)(h:bi):Bool:=inB h.Channel 0 (p.bT-1)&&inB h.jR 1 (p.bT-h.Channel)&&inB h.BQ p.Least 1000000&&inB h.Time (-1000000000) 1000000000&&lvB p h&&knB p h
def kV(s:au)(h:bi):Bool:=decide (0<=h.ak/\h.ak<s.aj.len)&&hpB (s.aj.get h.ak.toNat) h
abbrev zoW(C:ak×Int->ae Bool):Prop:=∀p c,Few p->C (p,c)=.ok (!eH (λj=>!decide (p.Dead.get j=c)) p.Dead.len)
theorem zRa{E:zei}(N:Big E.N):zoW (zoe E):=λp c h=>ae.ext λk=>by
 have hd:=h.2;rw[e137];refine(loopA (L:=λn v=>LX E n p c v k) (p:=λj=>!decide (p.Dead.get j=c)) (m:=p.Dead.len) (fin:=k false) (stop:=k true) omY (λn i hi=>?_) (λn=>?_) _ omY).trans ?_;obtain⟨f,h1,h2⟩:=two (LX E n p c (aO ((i:Int)+1)) k) (k true);rw[ziD,bn omY,<- h1,<- h2];simp only[gy,kc f];congr 1;grind;rw[ziD];simp only[QB,Jt,dF];cases eH (λj=>!decide (p.Dead.get j=c)) p.Dead.len<;>rfl
theorem zGC{p:ak}{h:bi}(hm:0<=h.jR):eH (λi=>eH (λj=>!decide (p.Dead.get j=h.Channel+(i:Int))) p.Dead.len) h.jR.toNat=lvB p h:=by
 rw[Yh];simp only[lvB,dA,N8,dqS,inB];constructor;intro h1 j hj h2;have:=h1 (p.Dead.get j-h.Channel).toNat omY j hj;omega;intro h1 i hi j hj h2;exact h1 j hj omY
abbrev zya(C:au×bi->ae Bool):Prop:=∀s h,qX s->fE s=true->C (s,h)=.ok (kV s h)
theorem zRb{E:zej}(N:Big E.N)(NV:BB E.uz)(Zw:zoW E.OH):zya (zof E):=λs h hs hb=>ae.ext λk=>by
 rw[e143,aX];have hl:=qI hb;simp only[NV,aX,aZ (x:=(s.aj.len:Int)-1) omY omY];by_cases hp:0<=h.ak/\h.ak<s.aj.len
 ·have hn := sN hb (i := h.ak.toNat) omY;have hf:=hs.2 h.ak.toNat omY;have e1:inB h.ak 0 (s.aj.len - 1)=true:=by simp only[inB,oW];omega
  simp only[e1,Js,dF,bn hp,kV,dM hp,N9];obtain⟨_,_,_,_,_,Ih,_⟩:=hn;simp only[aZ (x:=(s.aj.get h.ak.toNat).bT-1) omY omY,hpB];cases c1:inB h.Channel 0 ((s.aj.get h.ak.toNat).bT-1)with
  | false=>rfl
  | true =>
  simp only[inB,oW]at c1;simp only[Js,dF,N9,aZ (x:=(s.aj.get h.ak.toNat).bT-h.Channel) omY omY];cases c2:inB h.jR 1 ((s.aj.get h.ak.toNat).bT-h.Channel)with
  | false=>rfl
  | true =>
  simp only[inB,oW]at c2;simp only[Js,dF,N9];cases inB h.BQ (s.aj.get h.ak.toNat).Least 1000000 with
  | false=>rfl
  | true =>
  cases inB h.Time (-1000000000) 1000000000 with
  | false=>rfl
  | true =>
  simp only[Js,dF,N9];refine(loopA (L:=λn v=>RQ E n s h v k) (p:=λi=>eH (λj=>!decide ((s.aj.get h.ak.toNat).Dead.get j=h.Channel+(i:Int))) (s.aj.get h.ak.toNat).Dead.len) (m:=h.jR.toNat) (fin:=k (knB (s.aj.get h.ak.toNat) h)) (stop:=k false) omY (λn i hi=>?_) (λn=>?_) _ omY).trans ?_;rw [ziE,dM (show(i:Int)<h.jR by omega),dS,aZ (x:=h.Channel+i) omY omY,Zw _ _ hf,aX];cases eH (λj=>!decide ((s.aj.get h.ak.toNat).Dead.get j=h.Channel+(i:Int))) (s.aj.get h.ak.toNat).Dead.len<;>rfl;rw [ziE,dR (show ¬((h.jR.toNat:Int)<h.jR)by omega),dF];simp only[NV,aX,kc k];congr 1;simp only[knB,inB];grind;rw[zeq,zGC omY]
 have e1:inB h.ak 0 (s.aj.len-1)=false:=by simp only [inB,dqS];omega
 simp only[e1,qdM,dS,kV,dR hp,Yp]
def ofP(s:au)(h:bi):placed:=cond (decide (0<=h.ak/\h.ak<s.aj.len)) ⟨s.aj.get h.ak.toNat,h.ak⟩ ⟨⟨0,0,0,0,0,0,0,⟨0,0⟩,⟨0,0⟩,0,0,⟨0,λ_=>default⟩,⟨0,λ_=>default⟩⟩,0⟩
abbrev zet(C:au×bi->ae (placed×Bool)):Prop:=∀s h,qX s->fE s=true->C (s,h)=.ok (ofP s h,kV s h)
theorem zRc{E:zen}(N:Big E.N)(lK:BB E.ig):zet (zou E):=λs h hs hb=>ae.ext λk=>by
 rw[zQD,aX];have hl:=qI hb;simp only[lK,aX,aZ (x:=(s.aj.len:Int)-1) omY omY];by_cases hp:0<=h.ak/\h.ak<s.aj.len
 ·have hn := sN hb (i := h.ak.toNat) omY;have hf:=hs.2 h.ak.toNat omY;have e1:inB h.ak 0 (s.aj.len - 1)=true:=by simp only[inB,oW];omega
  simp only[e1,Js,dF,bn hp,kV,dM hp,N9,ofP,dS];obtain⟨_,_,_,_,_,Ih,_⟩:=hn;have hd:=hf.2;simp only[aZ (x:=(s.aj.get h.ak.toNat).bT-1) omY omY,hpB];cases c1:inB h.Channel 0 ((s.aj.get h.ak.toNat).bT-1)with
  | false=>rfl
  | true =>
  simp only[inB,oW]at c1;simp only[Js,dF,N9,aZ (x:=(s.aj.get h.ak.toNat).bT-h.Channel) omY omY];cases c2:inB h.jR 1 ((s.aj.get h.ak.toNat).bT-h.Channel)with
  | false=>rfl
  | true =>
  simp only[inB,oW]at c2;simp only[Js,dF,N9];cases inB h.BQ (s.aj.get h.ak.toNat).Least 1000000 with
  | false=>rfl
  | true =>
  cases c3:inB h.Time (-1000000000) 1000000000 with
  | false=>rfl
  | true =>
  simp only[Js,dF,N9];refine(loopA (L:=λn v=>RV E n s h v k) (p:=λj=>!inB ((s.aj.get h.ak.toNat).Dead.get j) h.Channel (h.Channel+h.jR-1)) (m:=(s.aj.get h.ak.toNat).Dead.len) (fin:=k (⟨s.aj.get h.ak.toNat,h.ak⟩,knB (s.aj.get h.ak.toNat) h)) (stop:=k (⟨s.aj.get h.ak.toNat,h.ak⟩,false)) omY (λn i hi=>?_) (λn=>?_) _ omY).trans ?_;rw [ziJ,dM (show(i:Int)<_ by omega),dS,bn omY,lK,aX,aZ (x:=h.Channel+h.jR) omY omY,aZ (x:=h.Channel+h.jR-1) omY omY,gy];cases inB ((s.aj.get h.ak.toNat).Dead.get i) h.Channel (h.Channel+h.jR-1)<;>rfl;rw [ziJ];simp only [QB,Jt,dF,lK,aX,kc k];congr 1;simp only[knB,inB]
  grind
  simp only [lvB];cases eH (λj=>!inB ((s.aj.get h.ak.toNat).Dead.get j) h.Channel (h.Channel+h.jR-1)) (s.aj.get h.ak.toNat).Dead.len<;>rfl
 have e1:inB h.ak 0 (s.aj.len-1)=false:=by simp only [inB,dqS];omega
 simp only[e1,qdM,dS,kV,dR hp,Yp,ofP,dF]
abbrev zoX(C:au×bi->ae Bool):Prop:=∀s h,qX s->C (s,h)=.ok (fE s&&kV s h)
theorem zRd{E:zoM}(Bz:QSe E.c160)(Ac:zet E.ut):zoX (zoN E):=λs h hs=>ae.ext λk=>by
 rw[zQQ,Bz s hs,aX,aX];cases hb:fE s with|false=>rfl|true=>simp only[Js,dF,Ac s h hs hb,aX,N9]
abbrev zyb(C:au×bi->ae Int):Prop:=∀s h,qX s->C (s,h)=.ok (cond (fE s&&kV s h) 0 2)
theorem zRe{E:zoq}(Zy:zoX E.TU):zyb (zor E):=λs h hs=>ae.ext λk=>by
 rw[e138,Zy s h hs,aX,aX];cases fE s&&kV s h<;>rfl
def uS(l:Sl aT)(t:Int):Nat→Int|0=>0|n+1=>cond (decide ((l.get n).Time<=t)) (l.get n).dQ.Low (uS l t n)
def yO(l:Sl aT)(t z:Int):Nat→Int|0=>z|d+1=>cond (decide ((l.get (l.len-1-d)).Time>=t)) (l.get (l.len-1-d)).dQ.High (yO l t z d)
def ul(p:ak)(t:Int):Int×Int:=(uS p.aT (aO (t-p.dL)) p.aT.len,yO p.aT (aO (t+p.dL)) (aO (p.aY.tdiv 2)) p.aT.len)
abbrev zyc(C:ak×Int->ae (Int×Int)):Prop:=∀p t,Few p->C (p,t)=.ok (ul p t)
theorem zRf{E:Zv}(N:Big E.N):zyc (zod E):=λp t h=>ae.ext λk=>by
 have hd:=h.1;rw[zQd,aX];refine jO (X:=λn i=>LV E n p t (uS p.aT (aO (t-p.dL)) i) (aO (p.aY.tdiv 2)) (i:Int) k) (m:=p.aT.len) (λn i hi=>?_) (λn=>?_) _ omY;rw [ziB,dM (show(i:Int)<_ by omega),dS,bn omY,bn omY,bF omY,gy];simp only[uS];cases decide ((p.aT.get i).Time<=aO (t-p.dL))<;>rfl;rw [ziB];simp only [QB,Jt,dF];rw[show aO ((p.aT.len:Int)-1)=aO ((p.aT.len:Int)-1)-((0:Nat):Int)by simp];refine jO (X:=λn i=>LW E n p t (uS p.aT (aO (t-p.dL)) p.aT.len) (yO p.aT (aO (t+p.dL)) (aO (p.aY.tdiv 2)) i) (aO ((p.aT.len:Int)-1)-(i:Int)) k) (m:=p.aT.len) (λn i hi=>?_) (λn=>?_) _ omY;rw [qV omY,ziC,dM (show(p.aT.len:Int)-1-i≥0 by omega),dS,bn omY,bn omY,aZ (x:=(p.aT.len:Int)-1-i-1) omY omY,show((p.aT.len:Int)-1-i).toNat=p.aT.len-1-i by omega];simp only[yO];cases decide ((p.aT.get (p.aT.len-1-i)).Time>=aO (t+p.dL))<;>simp only[dS,dF]<;>congr 1<;>omega;rw[qV omY,ziC,dR omY,dF];rfl
def bk(l:Sl aT):Nat→List (Int×aT)|0=>[]|n+1=>((n:Int),l.get n)::bk l n
theorem Dy{δ ε:Type}[dE δ][dE ε]{R:List PA→YO}{x:δ}{l:List ε}(h:R (dE.enc x)=some (l.map dE.enc))(hc:∀y:ε,dE.ck (α:=ε) (dE.enc y)=true)(hd:∀y:ε,dE.dec (dE.enc y)=y) :
  (ae.tyI (λc=>.opt (R c)) x:ae (List ε))=.ok l:=by
 refine ae.ext λk=>?_;show(ae.opt (R (dE.enc x))).T _=_;rw[h];show(ae.chk ((l.map dE.enc).all (dE.ck (α:=ε))) (ae.ok ((l.map dE.enc).map dE.dec))).T k=k l;rw[show(l.map dE.enc).all (dE.ck (α:=ε))=true by simp[hc],show(l.map dE.enc).map dE.dec=l by rw[qdR];exact(qdb λy _=>hd y).trans (qjr l)];rfl
abbrev zyd(I:Pt (Sl aT)->ae (List (Int×aT))):Prop:=∀l,l.v.len<=60->I l=.ok (bk l.v l.v.len)
theorem zRg{E:ZC}(N:Big E.N):zyd (zx2 E):=λl h=>by
 refine Dy ?_ (λ_=>rfl) (λ_=>rfl);rw[e251];have key:∀d n,d<=l.v.len->d<n->RX E n l ((d:Int)-1)=some ((bk l.v d).map dE.enc):=by
  intro d
  induction d with
  | zero =>
   intro n _ hn;obtain⟨n,rfl⟩:∃n',n=n'+1:=⟨n-1,omY⟩;rw[ziP,dR omY];rfl
  | succ d ih =>
   intro n hd hn;obtain⟨n,rfl⟩:∃n',n=n'+1:=⟨n-1,omY⟩;rw[ziP,dM omY,dS,bn omY,show((d+1:Nat):Int)-1=(d:Int)by omega,qV omY,ih n omY omY,gy];rfl
 rw[qV omY];exact key _ _ (kw _) omY
abbrev zye(C:placed×Int->ae (Int×Int)):Prop:=∀q t,Few q.ak->C (q,t)=.ok (ul q.ak t)
theorem zRh{E:ZB}(N:Big E.N)(zRi:zyd E.zs8):zye (zoS E):=λq t h=>ae.ext λk=>by
 have hd:=h.1;rw[e224,aX];refine jO (X:=λn i=>L8 E n q t (uS q.ak.aT (aO (t-q.ak.dL)) i) (i:Int) (aO (q.ak.aY.tdiv 2)) k) (m:=q.ak.aT.len) (λn i hi=>?_) (λn=>?_) _ omY;rw [ziO,dM (show(i:Int)<_ by omega),dS,bn omY,bF omY,gy];simp only[uS];cases decide ((q.ak.aT.get i).Time<=aO (t-q.ak.dL))<;>rfl;rw [ziO];simp only [QB,Jt,dF];rw[zRi _ hd,aX];have key:∀d,d<=q.ak.aT.len->FZ E (bk q.ak.aT d) q t (uS q.ak.aT (aO (t-q.ak.dL)) q.ak.aT.len) (yO q.ak.aT (aO (t+q.ak.dL)) (aO (q.ak.aY.tdiv 2)) (q.ak.aT.len-d)) k=k (ul q.ak t):=by
  intro d
  induction d with
  | zero=>intro _;rw[bk,zoT];rfl
  | succ d ih =>
   intro hi;rw[bk,zx1];have e:q.ak.aT.len-d=(q.ak.aT.len-(d+1))+1:=by omega
   have ih:=ih omY;rw[e]at ih;simp only[yO,show q.ak.aT.len-1-(q.ak.aT.len-(d+1))=d by omega]at ih;revert ih;cases decide ((q.ak.aT.get d).Time>=aO (t+q.ak.dL))<;>exact id
 have:=key q.ak.aT.len (kw _);rwa[Nat.sub_self]at this
def gate(p:ak)(a b:Int):ax:=⟨p.Z,aO (a+p.bz.Low),aO (b+p.bz.High)⟩
def gaP(p:ak)(h:bi):Sl ax :=
  cond (p.Kind != 2)
    (cond (decide (aO (aO (p.First + aO (aO (aO (h.Channel + h.jR) - 1) * p.aY)) - p.dK) > aO (aO (p.First + aO (aO (h.Channel + 1) * p.aY)) + p.dK))) ⟨0, fun _ => default⟩
      ⟨1,λ_=>gate p (aO (aO (p.First+aO (aO (aO (h.Channel+h.jR)-1)*p.aY))-p.dK)) (aO (aO (p.First+aO (aO (h.Channel+1)*p.aY))+p.dK))⟩)
    (cond (decide ((gate p (aO (aO (p.First+aO (h.Channel*p.aY))-(ul p h.aT).2)) (aO (aO (p.First+aO (h.Channel*p.aY))-(ul p h.aT).1))).High≥(gate p (aO (aO (p.First+aO (h.Channel*p.aY))+(ul p h.aT).1)) (aO (aO (p.First+aO (h.Channel*p.aY))+(ul p h.aT).2))).Low))
      ⟨1,λ_=>⟨p.Z,(gate p (aO (aO (p.First+aO (h.Channel*p.aY))-(ul p h.aT).2)) (aO (aO (p.First+aO (h.Channel*p.aY))-(ul p h.aT).1))).Low,(gate p (aO (aO (p.First+aO (h.Channel*p.aY))+(ul p h.aT).1)) (aO (aO (p.First+aO (h.Channel*p.aY))+(ul p h.aT).2))).High⟩⟩
      ⟨2,kL [gate p (aO (aO (p.First+aO (h.Channel*p.aY))-(ul p h.aT).2)) (aO (aO (p.First+aO (h.Channel*p.aY))-(ul p h.aT).1)),gate p (aO (aO (p.First+aO (h.Channel*p.aY))+(ul p h.aT).1)) (aO (aO (p.First+aO (h.Channel*p.aY))+(ul p h.aT).2))]⟩)
theorem RY(p:ak)(h:bi):(gaP p h).len<=2:=by
 have key:∀(a b c:Bool)(x y z w:Sl ax),x.len<=2->y.len<=2->z.len<=2->w.len<=2->(cond a (cond b x y) (cond c z w)).len<=2:=by
  intro a b c x y z w h1 h2 h3 h4;cases a<;>cases b<;>cases c<;>assumption
 exact key _ _ _ _ _ _ _ (AP _) (by simp) (by simp) (by simp)
abbrev zyf(C:placed×Int×Int->ae ax):Prop:=∀q a b,C (q,a,b)=.ok (gate q.ak a b)
theorem zRj{E:zoQ}:zyf (zoR E):=λq a b=>ae.ext λk=>e223 E k q a b
abbrev zyg(C:placed×bi->ae (Sl ax)):Prop:=∀q h,Few q.ak->C (q,h)=.ok (gaP q.ak h)
theorem zRk{E:zoO}(zxX:zyf E.zfP)(zxY:zye E.zsW):zyg (zoP E):=λq h hf=>ae.ext λk=>by
 rw[e189,aX];simp only[zxX,zxY _ _ hf,aX,kc k];rfl
def wJ(s:au)(h:bi):Sl ax:=gaP (s.aj.get h.ak.toNat) h
abbrev Q75(C:au×bi->ae (Sl ax)):Prop:=∀s h,qX s->0<=h.ak/\h.ak<(s.aj.len:Int)->C (s,h)=.ok (wJ s h)
theorem s75{E:E75}(zxA:zyc E.zsD):Q75 (F75 E):=λs h hs hp=>ae.ext λk=>by
 rw[e75,aX,bn hp];simp only[zxA _ _ (hs.2 h.ak.toNat omY),aX,kc k];rfl
theorem Mc{s:au}{h:bi}(hh:kV s h=true):0<=h.ak/\h.ak<s.aj.len:=by
 simp only[kV,gz,oW]at hh;exact hh.1
theorem ziS{s:au}{h:bi}(hh:kV s h=true):ofP s h=⟨s.aj.get h.ak.toNat,h.ak⟩:=by
 unfold ofP;rw[dM (Mc hh)];rfl
abbrev zyh(C:au×bi->ae (Sl ax×Int)):Prop:=∀s h,qX s->C (s,h)=.ok (cond (fE s&&kV s h) (cond (((wJ s h).len:Int)==0) (⟨0,λ_=>default⟩,5) (wJ s h,0)) (⟨0,λ_=>default⟩,2))
theorem zRl{E:zos}(Zy:zoX E.TU)(Ac:zet E.ut)(zxQ:zyg E.zsN):zyh (zot E):=λs h hs=>ae.ext λk=>by
 rw[zQB,Zy s h hs,aX,aX];cases hb:fE s&&kV s h with
 | false=>rfl
 | true =>
  rw[gz]at hb;have hp:=Mc hb.2;simp only[Js,dF,Ac s h hs hb.1,aX,ziS hb.2,zxQ ⟨s.aj.get h.ak.toNat,h.ak⟩ h (hs.2 _ omY),kc k];rfl
def qY(r:bC):Bool:=inB r.rF 1 16&&inB r.vM 0 16
abbrev Q62(C:bC->ae Bool):Prop:=∀r,C r=.ok (qY r)
theorem s62{E:E62}(h86:BB E.X3):Q62 (F62 E):=λr=>ae.ext λk=>by
 rw[e62];simp only[h86,aX,kc k];congr 1;simp only[qY];cases inB r.rF 1 16<;>rfl
def vwB(x:Int):Bool:=decide (x=1\/x=2)
abbrev QVw(C:Int->ae Bool):Prop:=∀x,C x=.ok (vwB x)
theorem s34{E:E34}:QVw (F34 E):=λx=>ae.ext λk=>by rw[e34,kc k,aX];congr 1;simp only[vwB];grind
theorem s96{E:E96}:QVw (F96 E):=λx=>ae.ext λk=>by rw[e96,kc k,aX];congr 1;simp only[vwB];grind
abbrev Q60(C:au×bC->ae Int):Prop:=∀s r,qX s->C (s,r)=.ok (cond (fE s&&qY r) 0 2)
theorem s60{E:E60}(zCJ:zx9 E.zsA)(V3:BB E.Gn):Q60 (F60 E):=λs r h=>ae.ext λk=>by
 rw[e60];simp only[zCJ s h,V3,aX,kc k,qY];congr 1;cases fE s<;>cases inB r.rF 1 16<;>cases inB r.vM 0 16<;>rfl
def Dz(s:au)(l:Sl bi):Bool:=eH (λi=>kV s (l.get i)) l.len
abbrev Q85(C:au×Sl bi->ae Bool):Prop:=∀s l,qX s->fE s=true->l.len<=40->C (s,l)=.ok (Dz s l)
theorem s85{E:E85}(N:Big E.N)(zxB:zya E.c143):Q85 (F85 E):=λs l hs hb hl=>ae.ext λk=>by
 rw[e85];refine(loopA (L:=λn v=>zb2 E n s l v k) (p:=λi=>kV s (l.get i)) (m:=l.len) (fin:=k true) (stop:=k false) omY (λn i hi=>?_) (λn=>?_) _ omY).trans ?_;rw [zuf,dM (show(i:Int)<_ by omega),dS,bn omY,gy,zxB _ _ hs hb,aX];cases kV s (l.get i)<;>rfl;rw[zuf];simp only[QB,Jt,dF];rw[aX];simp only[Dz];cases eH (λi=>kV s (l.get i)) l.len<;>rfl
def gw{α:Type}[bG α](z f:Nat→α):Nat→Sl α|0=>⟨0,z⟩|n+1=>⟨n+1,jY n (gw z f n).get λ_=>f n⟩
theorem pg{α:Type}[bG α](z f:Nat->α)(n:Nat):(gw z f n).len=n:=by cases n<;>rfl
theorem BC{α:Type}[bG α][uh α]{z f:Nat→α}:∀{n i:Nat},i<n→(gw z f n).get i=f i
  | n+1,i,h=>by
    show jY n (gw z f n).get (λ_=>f n) i=f i;rw[jA];by_cases hi:n<=i;rw[eX hi,show i=n by omega];rw[fF hi];exact BC omY
theorem zoY{n b:Nat}(hn:n<=1000000)(hb:b<=1000):room n b=true:=by
 refine dM ⟨?_,omY⟩;have:=jqk hn hb;omega
theorem jG{A:Type}{n b:Nat}{x:Option A}(hn:n<=1000000)(hb:b<=1000):aU (room n b) x=x:=by rw[zoY hn hb];rfl
theorem zoZ{p:ak}{h:bi}:(gaP p h).len=0->gaP p h=⟨0,λ_=>default⟩:=by
 have key:∀(a b c:Bool)(y z w:Sl ax),0<y.len->0<z.len->0<w.len->(cond a (cond b (⟨0,λ_=>default⟩:Sl ax) y) (cond c z w)).len=0->cond a (cond b (⟨0,λ_=>default⟩:Sl ax) y) (cond c z w)=⟨0,λ_=>default⟩:=by
  intro a b c y z w h2 h3 h4 h;cases a<;>cases b<;>cases c<;>simp only[dS,dF]at h ⊢ <;> omega
 exact key _ _ _ _ _ _ (by simp) (by simp) (by simp)
def z0:Nat->ax:=λ_=>⟨0,0,0⟩
def evG(s:au)(l:Sl bi):Sl (Sl ax):=gw (λ_=>⟨0,z0⟩) (λi=>wJ s (l.get i)) l.len
theorem RZ(s:au)(l:Sl bi):(evG s l).len=l.len:=pg _ _ _
theorem Jd{s:au}{l:Sl bi}{i:Nat}(h:i<l.len):(evG s l).get i=wJ s (l.get i):=BC h
def iE(s:au)(r:bC)(l:Sl bi):Pt aS:=⟨⟨s,l,evG s l,r⟩⟩
def oO(s:au)(r:bC)(l:Sl bi):Int:=cond (decide (l.len>24)) 3 (cond (fE s&&qY r&&Dz s l) 0 2)
def opn(s:au)(r:bC)(l:Sl bi):Int ⊕ (Pt aS×Int):=cond (oO s r l==0) (.inr (iE s r l,0)) (.inl (oO s r l))
abbrev Q78(C:au×bC×Sl bi->ae (Int ⊕ (Pt aS×Int))):Prop:=∀s r l,qX s->l.len<=40->C (s,r,l)=.ok (opn s r l)
theorem s78{E:E78}(N:Big E.N)(h60:Q60 E.c60)(zxK:zyb E.c138)(zxL:zyh E.c139):Q78 (F78 E):=λs r l hs hl=>ae.ext λk=>by
 rw[e78,aX];by_cases h24:(l.len:Int)>24;rw [dM h24];have:oO s r l=3:=by unfold oO;rw[dM (show l.len>24 by omega)];rfl
 simp only[opn,this];rfl
 ·rw [dR h24, dF, h60 s r hs, aX];have e1:oO s r l=cond (fE s && qY r && Dz s l) 0 2:=by unfold oO;rw[dR (show ¬ l.len > 24 by omega)];rfl
  cases hb:fE s&&qY r with
  | false =>
   have:oO s r l=2:=by rw[e1,hb];rfl
   simp only[opn,this];rfl
  | true =>
   have hsb:=(gz _ _▸hb).1;refine(loopA (L:=λn v=>V4 E n s r l v (gw (λ_=>⟨0,z0⟩) (λi=>wJ s (l.get i)) v.toNat) k) (p:=λi=>kV s (l.get i)) (m:=l.len) (fin:=k (.inr (iE s r l,0))) (stop:=k (.inl 2)) omY (λn i hi=>?_) (λn=>?_) _ omY).trans ?_
   ·rw [zuh,dM (show(i:Int)<_ by omega),dS,bn omY,gy,zxK _ _ hs,aX,hsb,N9];cases hh:kV s (l.get i)with
    | false=>rfl
    | true =>
     rw[zxL _ _ hs,aX,hsb,hh];have e2:V5 E n s r l (wJ s (l.get i)) (i:Int) (gw (λ_=>⟨0,z0⟩) (λi=>wJ s (l.get i)) i) k=V4 E n s r l (aO ((i:Int)+1)) (gw (λ_=>⟨0,z0⟩) (λi=>wJ s (l.get i)) (aO ((i:Int)+1)).toNat) k:=by
      rw[zGk,pg,jG omY omY,bF omY,gy];rfl
     by_cases h0:(wJ s (l.get i)).len=0;have e3:((wJ s (l.get i)).len:Int)==0:=by rw [h0];rfl
     simp only[e3,qjW,dS];show V5 E n s r l ⟨0,λ_=>default⟩ _ _ k=_;rw[<- zoZ (p:=s.aj.get (l.get i).ak.toNat) (h:=l.get i) h0];exact e2;have e3:(((wJ s (l.get i)).len:Int)==0)=false:=by rw [qdS];omega
     simp only[e3,qjW,dS,dF];exact e2
   rw[zuh];simp only[QB,Jt,dF,gy];rfl;have:oO s r l=cond (Dz s l) 0 2:=by rw [e1,hb];rfl
   simp only[opn,this,Dz];cases eH (λi=>kV s (l.get i)) l.len<;>rfl
def Uj(l:Sl bi)(w:Sl Int)(n:Nat)(p:Int):Bool:=eH (λj=>!decide ((l.get (w.get j).toNat).ak=p)) n
abbrev Q87(C:Sl bi×Sl Int×Int->ae Bool):Prop:=∀l w p,w.len<=100->(∀j,j<w.len->0<=w.get j/\w.get j<l.len)->C (l,w,p)=.ok (!Uj l w w.len p)
theorem s87{E:E87}(N:Big E.N):Q87 (F87 E):=λl w p hw hv=>ae.ext λk=>by
 rw[e87,aX];refine(loopA (L:=λn v=>zb3 E n l w p v k) (p:=λj=>!decide ((l.get (w.get j).toNat).ak=p)) (m:=w.len) (fin:=k false) (stop:=k true) omY (λn i hi=>?_) (λn=>?_) _ omY).trans ?_;have:=hv i hi;rw[zug,dM (show(i:Int)<_ by omega),dS,bn omY,gy,bn omY];show cond ((l.get (w.get i).toNat).ak==p) _ _=cond (!((l.get (w.get i).toNat).ak==p)) _ _;cases(l.get (w.get i).toNat).ak==p<;>rfl;rw[zug];simp only[QB,Jt,dF];simp only[Uj];cases eH (λj=>!decide ((l.get (w.get j).toNat).ak=p)) w.len<;>rfl
def hiA(l:Sl bi)(t:af)(i:Nat):bi:=l.get (t.Hits.get i).toNat
def Je(s:au)(l:Sl bi)(t:af)(i:Nat):Bool :=
 inB (t.Hits.get i) 0 ((l.len:Int)-1)&&(decide (i=0)||decide (t.Hits.get (i-1)<t.Hits.get i))&&decide ((s.aj.get (hiA l t i).ak.toNat).View=t.View)&&inB (t.aV.get i) 0 (((wJ s (hiA l t i)).len:Int)-1)&&Uj l t.Hits i (hiA l t i).ak
def pq(s:au)(l:Sl bi)(t:af):Bool:=vwB t.View&&decide (0<t.Hits.len)&&decide (t.aV.len=t.Hits.len)&&eH (Je s l t) t.Hits.len
structure Evt (s : au) (l : Sl bi) : Prop where
  sh:qX s
  se:fE s=true
  hi:Dz s l=true
  le:l.len<=40
theorem Evt.pl{s:au}{l:Sl bi}(h:Evt s l){i:Nat}(hi:i<l.len):0<=(l.get i).ak/\(l.get i).ak<s.aj.len:=Mc (dA.1 h.hi i hi)
theorem F5{s:au}{l:Sl bi}{t:af}{i:Nat}(h:Je s l t i=true):0<=t.Hits.get i/\t.Hits.get i<l.len:=by
 simp only[Je,gz,inB,oW]at h;omega
theorem We{s:au}{l:Sl bi}{t:af}{i:Nat}(h:Je s l t i=true):0<=t.aV.get i/\t.aV.get i<(wJ s (hiA l t i)).len:=by
 simp only[Je,gz,inB,oW]at h;omega
abbrev QCh(C:au×Sl bi×af->ae Bool):Prop:=∀s l t,Evt s l->t.Hits.len<=30->C (s,l,t)=.ok (pq s l t)
theorem s27{E:E27}(N:Big E.N)(h34:QVw E.c34)(h86:BB E.X3)(h75:Q75 E.c75)(h87:Q87 E.c87):QCh (F27 E):=λs l t he ht=>ae.ext λk=>by
 have hle:=he.le;rw[e27,h34,aX,aX];cases h1:vwB t.View with
 | false =>
  have:pq s l t=false:=by simp only[pq,h1,Yp]
  rw[this];rfl
 | true =>
 by_cases h2:t.Hits.len=0;have:pq s l t=false:=by simp only [pq,h2,jqr,Jt,qdL,Yp]
 rw[this,h2];rfl;have h2':((t.Hits.len:Int)==0)=false:=by rw[qdS];omega
 by_cases h3:¬t.aV.len=t.Hits.len;have:pq s l t=false:=by simp only [pq,h3,Jt,qdL,Yp]
 rw[this,h2',show((t.aV.len:Int) != (t.Hits.len:Int))=true by rw[bne_iff_ne];omega];rfl;have h3:t.aV.len=t.Hits.len:=by omega
 rw[h2',show((t.aV.len:Int) != (t.Hits.len:Int))=false by rw[qjR];omega];simp only[Js,dF];have:pq s l t=eH (Je s l t) t.Hits.len:=by simp only[pq,h1,h3,decide_true,N9,dM (show 0<t.Hits.len by omega)]
 rw[this];refine(ziQ (L:=λn v=>VZ E n s l t v k) (p:=Je s l t) (m:=t.Hits.len) (fin:=k true) (stop:=k false) omY (λn i hi hp=>?_) (λn _=>?_) _ omY).trans ?_
 ·rw [zt8,dM (show(i:Int)<_ by omega),dS,bn omY,qV omY,gy,h86,aX];cases c1:inB (t.Hits.get i) 0 ((l.len:Int)-1)with
  | false=>simp only[Je,c1,Yp];rfl
  | true =>
  have c1':0<=t.Hits.get i/\t.Hits.get i<l.len:=by simp only[inB,oW]at c1;omega
  have Ig:=he.pl (i:=(t.Hits.get i).toNat) omY;have c2:zb0 E n s l t (i:Int) k=cond (decide ((s.aj.get (hiA l t i).ak.toNat).View=t.View)&&inB (t.aV.get i) 0 (((wJ s (hiA l t i)).len:Int)-1)&&Uj l t.Hits i (hiA l t i).ak) (VZ E n s l t (aO ((i:Int)+1)) k) (k false):=by
   rw[zGc,bn omY,gy,bn omY,zGd,bn Ig,<- hiA];by_cases v:¬(s.aj.get (hiA l t i).ak.toNat).View=t.View;rw[show((s.aj.get (hiA l t i).ak.toNat).View != t.View)=true from bne_iff_ne.2 v,dR v];rfl;have v:(s.aj.get (hiA l t i).ak.toNat).View=t.View:=qdv v;have hg:=RY (s.aj.get (hiA l t i).ak.toNat) (hiA l t i);rw[show((s.aj.get (hiA l t i).ak.toNat).View != t.View)=false from qjR.2 v,dM v,dF,bn omY,h75 s (hiA l t i) he.sh Ig,aX,h86,aX,gy,qV (by simp only[wJ];omega)];cases inB (t.aV.get i) 0 (((wJ s (hiA l t i)).len:Int)-1)with
   | false=>rfl
   | true =>
    simp only[Js,dF,N9];rw[bn omY,h87 l ⟨((i:Int)-0).toNat,Ar t.Hits.get 0⟩ _ (by show((i:Int)-0).toNat<=_;omega) (λj hj=>?_),aX];have:Uj l (⟨((i:Int)-0).toNat,Ar t.Hits.get 0⟩:Sl Int) ((i:Int)-0).toNat (hiA l t i).ak=Uj l t.Hits i (hiA l t i).ak:=by
     rw[show((i:Int)-0).toNat=i by omega];rfl
    show cond (!Uj l (⟨((i:Int)-0).toNat,Ar t.Hits.get 0⟩:Sl Int) ((i:Int)-0).toNat (hiA l t i).ak) _ _=_;rw[this];cases Uj l t.Hits i (hiA l t i).ak<;>rfl;have hj:j<((i:Int)-0).toNat:=hj;exact F5 (hp j omY)
  simp only[Js,dF];by_cases h0:(i:Int)>0;obtain⟨p1,p2⟩:=V9 (n:=t.Hits.len) hi omY h0;rw[dM h0,dS,bn omY,bn p1,p2,c2];by_cases d:t.Hits.get i<=t.Hits.get (i-1);rw [dM d];have:Je s l t i=false:=by simp only[Je,dR (show ¬i=0 by omega),dR (show ¬t.Hits.get (i-1)<t.Hits.get i by omega),jqC,qdL,Yp]
  rw[this];rfl;rw [dR d,dF];congr 1;simp only[Je,c1,dM (show t.Hits.get (i-1)<t.Hits.get i by omega),qjK,N9];rw [dR h0,dF,c2];congr 1;simp only[Je,c1,dM (show i=0 by omega),jqD,N9]
 rw[zt8];simp only[QB,Jt,dF];cases eH (Je s l t) t.Hits.len<;>rfl
/-! The program. -/
abbrev zo0(C:Pt aS×Int->ae Int):Prop:=∀s l r i,Evt s l->0<=i/\i<(l.len:Int)->C (iE s r l,i)=.ok (s.aj.get (l.get i.toNat).ak.toNat).View
theorem zRq{E:zok}:zo0 (zol E):=λs l r i he hi=>ae.ext λk=>by
 have hp:=he.pl (i:=i.toNat) omY;exact(zQu E k _ _).trans ((bn (p:=0<=i/\i<(l.len:Int)) hi).trans (bn (p:=0<=(l.get i.toNat).ak/\(l.get i.toNat).ak<(s.aj.len:Int)) hp))
def mfS(l:Sl bi)(t:af):Nat→List Int→Option (List Int)|0=>λ_=>none|i+1=>Cb [(hiA l t i).ak] [1] (mfS l t i)
def mnS(l:Sl bi)(t:af):Nat→Nat|0=>0|i+1=>addN (mfS l t i [(hiA l t i).ak]) (mnS l t i)
theorem ziT{l:Sl bi}{t:af}{p:Int}:∀i,(xX (mfS l t i [p]) 0 != 0) = !Uj l t.Hits i p
  | 0=>rfl
  | i+1=>by
    simp only[mfS,Cb,Uj,eH];by_cases h:(hiA l t i).ak=p;rw[dM (show [p]=[(hiA l t i).ak]by rw[h]),dM (show(l.get (t.Hits.get i).toNat).ak=p from h)];simp[xX];rw [dR (show ¬ [p]=[(hiA l t i).ak]by intro e;cases e;exact h rfl),dR (show ¬(l.get (t.Hits.get i).toNat).ak=p from h)];have:=ziT (l:=l) (t:=t) (p:=p) i;simp only[Uj]at this;simp only[this,qdM,qjU]
abbrev Q79(C:Pt aS×af->ae Bool):Prop:=∀s l r t,Evt s l->t.Hits.len<=30->t.aV.len<=30->C (iE s r l,t)=.ok (pq s l t)
theorem s79{E:E79}(N:Big E.N)(V3:BB E.Gn)(Zx:zo0 E.IG)(h96:QVw E.c96):Q79 (F79 E):=λs l r t he ht hs=>ae.ext λk=>by
  have hle:=he.le;rw[e79,aX];refine(ziQ (L:=λn v=>P8 E n (iE s r l) t v (mnS l t v.toNat) (mfS l t v.toNat) k) (p:=λi=>Je s l t i&&decide (i<t.aV.len)) (m:=t.Hits.len) (fin:=k (vwB t.View&&decide (0<t.Hits.len)&&decide (t.aV.len=t.Hits.len))) (stop:=k false) omY (λn i hi hp=>?_) (λn _=>?_) _ omY).trans ?_
  · rw [zui,dM (show(i:Int)<_ by omega),dS,bn omY,gy,show(iE s r l).v.hits=l from rfl,qV omY,V3,aX];cases c1:inB (t.Hits.get i) 0 ((l.len:Int)-1)with
    | false=>simp only[Je,c1,Yp];rfl
    | true =>
    have c1':0<=t.Hits.get i/\t.Hits.get i<(l.len:Int):=by simp only[inB,oW]at c1;omega
    have Ig:=he.pl (i:=(t.Hits.get i).toNat) omY;have hg:=RY (s.aj.get (hiA l t i).ak.toNat) (hiA l t i);have hgg:(iE s r l).v.iR.get (t.Hits.get i).toNat=wJ s (hiA l t i):=Jd omY;have hgl:((iE s r l).v.iR.len:Int)=l.len:=by show((evG s l).len:Int)=l.len;rw[RZ]
    have e2:V6 E n (iE s r l) t (t.Hits.get i) (i:Int) (mnS l t i) (mfS l t i) k=P8 E n (iE s r l) t (aO ((i:Int)+1)) (mnS l t (aO ((i:Int)+1)).toNat) (mfS l t (aO ((i:Int)+1)).toNat) k:=by
      rw[zGl,bn (by exact c1'),bF omY,gy];rfl
    have c2 : ∀ X : Option _, (E.IG (iE s r l, t.Hits.get i)).T (fun r2 => cond (r2 != t.View) X (aU (decide (0 ≤ t.Hits.get i ∧ t.Hits.get i < (l.len : Int))) (cond (xX (mfS l t i [(l.get (t.Hits.get i).toNat).ak]) 0 != 0) X
        (cond (decide ((i:Int)≥(t.aV.len:Int))) X (aU (decide (0≤(i:Int)∧(i:Int)<(t.aV.len:Int))) (aU (decide (0≤t.Hits.get i∧t.Hits.get i<((iE s r l).v.iR.len:Int)))
          ((E.Gn (t.aV.get i,0,aO ((((iE s r l).v.iR.get (t.Hits.get i).toNat).len:Int)-1))).T λr3=>cond (!r3) X (V6 E n (iE s r l) t (t.Hits.get i) (i:Int) (mnS l t i) (mfS l t i) k))))))))
        = cond (decide ((s.aj.get (hiA l t i).ak.toNat).View=t.View)&&Uj l t.Hits i (hiA l t i).ak&&decide (i<t.aV.len)&&inB (t.aV.get i) 0 (((wJ s (hiA l t i)).len:Int)-1)) (P8 E n (iE s r l) t (aO ((i:Int)+1)) (mnS l t (aO ((i:Int)+1)).toNat) (mfS l t (aO ((i:Int)+1)).toNat) k) X:=by
      intro X;rw[Zx s l r _ he c1',aX,bn c1',ziT,hgg,hgl,bn c1',V3,aX,e2,qV (by simp only[wJ];omega)];by_cases hS:i<t.aV.len;rw [dR (show ¬(i:Int)≥(t.aV.len:Int)by omega),bn omY,dM hS];by_cases v:(s.aj.get (hiA l t i).ak.toNat).View=t.View;rw [show((s.aj.get (l.get (t.Hits.get i).toNat).ak.toNat).View != t.View)=false from qjR.2 v,dM v];show cond (!Uj l t.Hits i (hiA l t i).ak) _ _=_;cases Uj l t.Hits i (hiA l t i).ak<;>cases inB (t.aV.get i) 0 (((wJ s (hiA l t i)).len:Int)-1)<;>rfl;rw[show((s.aj.get (l.get (t.Hits.get i).toNat).ak.toNat).View != t.View)=true from bne_iff_ne.2 v,dR v];rfl;rw [dM (show(i:Int)≥(t.aV.len:Int)by omega),dR hS];simp only[qdL,Yp,dS,dF];cases(s.aj.get (l.get (t.Hits.get i).toNat).ak.toNat).View != t.View<;>cases Uj l t.Hits i (l.get (t.Hits.get i).toNat).ak<;>rfl
    simp only[Js,dF];by_cases h0:(i:Int)>0;obtain⟨p1,p2⟩:=V9 (n:=t.Hits.len) hi omY h0;rw[dM h0,dS,bn p1,p2];by_cases d:t.Hits.get i<=t.Hits.get (i-1);rw [dM d];have:Je s l t i=false:=by simp only[Je,dR (show ¬i=0 by omega),dR (show ¬t.Hits.get (i-1)<t.Hits.get i by omega),jqC,qdL,Yp]
    rw[this];rfl;rw [dR d,dF];refine(c2 _).trans ?_;congr 1;simp only[Je,c1,dM (show t.Hits.get (i-1)<t.Hits.get i by omega),qjK,N9]
    ac_rfl
    rw [dR h0,dF];refine(c2 _).trans ?_;congr 1;simp only[Je,c1,dM (show i=0 by omega),jqD,N9]
    ac_rfl
  rw [zui];simp only [QB,Jt,dF,h96,aX];rw[kc k,kc k];congr 1;cases vwB t.View<;>simp<;>grind;rw [zeq];congr 1;simp only[pq];by_cases h3:t.aV.len=t.Hits.len;have:eH (fun i=>Je s l t i&&decide (i<t.aV.len)) t.Hits.len=eH (Je s l t) t.Hits.len:=BA fun i hi=>by rw [dM omY,qjU]
  rw[this,jqq];simp only[h3,Jt,qdL,Yp]
theorem Md{α:Type}[bG α]{z f g:Nat→α}:∀{n:Nat},(∀i,i<n→f i=g i)→gw z f n=gw z g n|0,_=>rfl|n+1,h=>by simp only[gw,Md (n:=n) λi hi=>h i omY,h n omY]
def lV(s:au)(l:Sl bi)(t:af):Sl ax:=gw z0 (λi=>(wJ s (hiA l t i)).get (t.aV.get i).toNat) t.Hits.len
theorem Si{s:au}{l:Sl bi}{t:af}(h:pq s l t=true):t.aV.len=t.Hits.len/\∀i,i<t.Hits.len->Je s l t i=true:=by
 simp only[pq,gz,oW,dA]at h;exact⟨h.1.2,h.2⟩
abbrev Q65(C:au×Sl bi×af->ae (Sl ax)):Prop:=∀s l t,Evt s l->t.Hits.len<=30->pq s l t=true->C (s,l,t)=.ok (lV s l t)
theorem s65{E:E65}(N:Big E.N)(h75:Q75 E.c75):Q65 (F65 E):=λs l t he ht hc=>ae.ext λk=>by
 obtain⟨h1,h2⟩:=Si hc;rw[e65,aX];refine jO (X:=λn i=>zb1 E n s l t (i:Int) (gw z0 (λi=>(wJ s (hiA l t i)).get (t.aV.get i).toNat) i) k) (m:=t.Hits.len) (λn i hi=>?_) (λn=>?_) _ omY;have a1:=F5 (h2 i hi);have a2:0<=t.aV.get i/\t.aV.get i<((wJ s (l.get (t.Hits.get i).toNat)).len:Int):=We (h2 i hi);have Ig:=he.pl (i:=(t.Hits.get i).toNat) omY;rw[zue,dM (show(i:Int)<_ by omega),dS,bn omY,gy,bn omY,h75 _ _ he.sh Ig,aX,bn omY,bn a2,pg,jG omY omY,bF omY];rfl;rw[zue];simp only[QB,Jt,dF];rfl
abbrev zeu(C:Pt aS×af->ae (Sl ax)):Prop:=∀s l r t,Evt s l->t.Hits.len<=2100->pq s l t=true->C (iE s r l,t)=.ok (lV s l t)
theorem zRr{E:zem}(N:Big E.N):zeu (zoj E):=λs l r t he ht hc=>ae.ext λk=>by
 obtain⟨h1,h2⟩:=Si hc;have e:lV s l t=gw z0 (λi=>((evG s l).get (t.Hits.get i).toNat).get (t.aV.get i).toNat) t.Hits.len:=Md λi hi=>by
  have a1:=F5 (h2 i hi);rw[Jd omY];rfl
 rw[zQq,aX,e];refine jO (X:=λn i=>RU E n (iE s r l) t (i:Int) (gw z0 (λi=>((evG s l).get (t.Hits.get i).toNat).get (t.aV.get i).toNat) i) k) (m:=t.Hits.len) (λn i hi=>?_) (λn=>?_) _ omY;have a1:=F5 (h2 i hi);have a2:=We (h2 i hi);have a3:0<=t.Hits.get i/\t.Hits.get i<((iE s r l).v.iR.len:Int):=by show _/\t.Hits.get i<((evG s l).len:Int);rw[RZ];omega
 have a4:0<=t.aV.get i/\t.aV.get i<(((iE s r l).v.iR.get (t.Hits.get i).toNat).len:Int):=by
  show _/\t.aV.get i<(((evG s l).get (t.Hits.get i).toNat).len:Int);rw[Jd omY];exact a2
 rw[ziG,dM (show(i:Int)<_ by omega),dS,bn omY,gy,bn a3,bn omY,bn a4,pg,jG omY omY,bF omY];rfl;rw[ziG];simp only[QB,Jt,dF]
abbrev zyi(C:Unit->ae bC):Prop:=C ()=.ok ⟨1,0⟩
theorem zRs{E:zoa}:zyi (zob E):=ae.ext λk=>e108 E k
abbrev Q26(C:au×bC×Sl bi->ae Int):Prop:=∀s r l,qX s->l.len<=40->C (s,r,l)=.ok (oO s r l)
theorem s26{E:E26}(h61:QSe E.c61)(h62:Q62 E.c62)(h85:Q85 E.c85):Q26 (F26 E):=λs r l hs hl=>ae.ext λk=>by
 rw[e26,aX];by_cases h24:(l.len:Int)>24;rw[dM h24];simp only[oO,dM (show l.len>24 by omega),dS]
 ·rw [dR h24,dF,h61 s hs,aX];simp only[oO,dR (show ¬l.len>24 by omega),dF,h62,aX];cases hb:fE s with
  | false=>rfl
  | true =>
   cases qY r with
   | false=>rfl
   | true =>
    simp only[h85 s l hs hb hl,aX];cases Dz s l<;>rfl
theorem DD{s:au}{r:bC}{l:Sl bi}(hs:qX s)(h:oO s r l=0):Evt s l/\qY r=true/\l.len<=24:=by
 unfold oO at h;by_cases h24:l.len>24;rw[dM h24]at h;cases h
 ·rw [dR h24,dF]at h;cases e:fE s&&qY r&&Dz s l with
  | false=>rw[e]at h;cases h
  | true =>
   simp only[gz]at e;exact⟨⟨hs,e.1.1,e.2,omY⟩,e.1.2,omY⟩
abbrev Q47(C:au×Sl bi×af->ae (Sl ax×Int)):Prop:=∀s l t,qX s->l.len<=40->t.Hits.len<=30->t.aV.len<=30 ->
 C (s,l,t)=.ok (cond (oO s ⟨1,0⟩ l==0) (cond (pq s l t) (lV s l t,0) (⟨0,λ_=>default⟩,2)) (⟨0,λ_=>default⟩,oO s ⟨1,0⟩ l))
theorem s47{E:E47}(zxx:zyi E.zsw)(h78:Q78 E.c78)(h79:Q79 E.c79)(Bv:zeu E.c105):Q47 (F47 E):=λs l t hs hl ht hd=>ae.ext λk=>by
 rw[e47,zxx,aX,h78 s _ l hs hl,aX,aX,opn];cases e:oO s ⟨1,0⟩ l==0 with
 | false =>
  show cond (oO s ⟨1,0⟩ l != 0) _ _=_;rw[show(oO s ⟨1,0⟩ l != 0)=true by rw[bne,e];rfl];rfl
 | true =>
  obtain⟨he,_,_⟩:=DD hs (eq_of_beq e);show(E.c79 (iE s ⟨1,0⟩ l,t)).T _=_;rw[h79 s l _ t he ht hd,aX];cases hc:pq s l t with
  | false=>rfl
  | true =>
   show(E.c105 (iE s ⟨1,0⟩ l,t)).T _=_;rw[Bv s l _ t he omY hc,aX];rfl
abbrev Q24(C:af->ae Bool):Prop:=∀t,C t=.ok (decide (t.Hits.len<=30/\t.aV.len<=30))
theorem s24{E:E24}:Q24 (F24 E):=λt=>ae.ext λk=>by rw[e24,kc k,aX];congr 1;grind
def zev(s:au)(l:Sl bi)(m:Int):Bool:=decide (s.aj.len<=20)&&(decide ((l.len:Int)<=m)||decide (l.len>24))&&decide (l.len<=40)&&eH (λi=>decide ((s.aj.get i).aT.len<=60/\(s.aj.get i).Dead.len<=110)) s.aj.len
abbrev Q23(C:au×Sl bi×Int->ae Bool):Prop:=∀s l m,C (s,l,m)=.ok (zev s l m)
theorem s23{E:E23}(N:Big E.N):Q23 (F23 E):=λs l m=>ae.ext λk=>by
 rw[e23,aX];by_cases h20:(s.aj.len:Int)>20;rw[dM h20];simp only[zev,dR (show ¬s.aj.len<=20 by omega),Yp,dS];have lp:LQ E E.N s 0 k=k (eH (λi=>decide ((s.aj.get i).aT.len<=60/\(s.aj.get i).Dead.len<=110)) s.aj.len):=by
  refine(loopA (L:=λn v=>LQ E n s v k) (p:=λi=>decide ((s.aj.get i).aT.len<=60/\(s.aj.get i).Dead.len<=110)) (m:=s.aj.len) (fin:=k true) (stop:=k false) omY (λn i hi=>?_) (λn=>?_) _ omY).trans ?_;rw [zt5,dM (show(i:Int)<_ by omega),dS,bn omY,bn omY,gy];obtain⟨f,h1,h2⟩:=two (LQ E n s (aO ((i:Int)+1)) k) (k false);rw[<- h1,<- h2,kc f,kc f,kc f];congr 1;grind;rw[zt5];simp only[QB,Jt,dF];cases eH (λi=>decide ((s.aj.get i).aT.len<=60/\(s.aj.get i).Dead.len<=110)) s.aj.len<;>rfl
 rw[dR h20,dF,lp];simp only[kc k,zev];congr 1;generalize eH (λi=>decide ((s.aj.get i).aT.len<=60/\(s.aj.get i).Dead.len<=110)) s.aj.len=B
 grind
theorem zyj{s:au}{l:Sl bi}{m:Int}(h:zev s l m=true):qX s/\l.len<=40/\((l.len:Int)<=m\/24<l.len):=by
 simp only[zev,gz,oW,qdj,dA]at h;exact⟨⟨h.1.1.1,λi hi=>h.2 i hi⟩,h.1.2,h.1.1.2⟩
def wK(s:au)(l:Sl bi)(i:Nat):Nat:=(wJ s (l.get i)).len
theorem Jf(s:au)(l:Sl bi)(i:Nat):wK s l i<=2:=RY _ _
def P9(s:au)(l:Sl bi)(i:Nat):Int:=(s.aj.get (l.get i).ak.toNat).View
def sdK(i:Int):Nat→Nat→List (Int×Int)|0,_=>[]|d+1,k=>(i,(k:Int))::sdK i d (k+1)
def sdL(s:au)(l:Sl bi)(x:Int):Nat→Nat→List (Int×Int)|0,_=>[]|d+1,i=>cond (P9 s l i==x) (sdK i (wK s l i) 0) []++sdL s l x d (i+1)
abbrev zyk(I:Pt Int×Pt (Pt aS)×Pt Int->ae (List (Int×Int))):Prop:=∀s l r x (fr:Nat),Evt s l->fr<=l.len->I (⟨fr⟩,⟨iE s r l⟩,⟨x⟩)=.ok (sdL s l x (l.len-fr) fr)
theorem zRx{E:V7}(N:Big E.N)(Zx:zo0 E.IG):zyk (zxP E):=λs l r x fr he hfr=>by
 refine Dy ?_ (λ_=>rfl) (λ_=>rfl);refine(zQs E _ _ _).trans ?_;have hl:=he.le;have key:∀d n (i:Nat),i+d=l.len->d<n->LY E n ⟨iE s r l⟩ ⟨x⟩ (i:Int)=some ((sdL s l x d i).map dE.enc):=by
  intro d
  induction d with
  | zero =>
   intro n i hi hn;obtain⟨n,rfl⟩:∃n',n=n'+1:=⟨n-1,omY⟩;exact(ziH E n _ _ _).trans (zGz (p:=(i:Int)<(l.len:Int)) omY)
  | succ d ih =>
   intro n i hi hn;obtain⟨n,rfl⟩:∃n',n=n'+1:=⟨n-1,omY⟩;have nx:=ih n (i+1) omY omY;refine(ziH E n _ _ _).trans ((zGy (p:=(i:Int)<(l.len:Int)) omY).trans ?_);rw[bF omY,nx];show(E.IG (iE s r l,(i:Int))).T _=_;rw[Zx s l r _ he omY,aX,gy];show cond (P9 s l i != x) _ _=_;rw[sdL];cases hv:P9 s l i==x with
   | false=>rw[show(P9 s l i != x)=true by rw[bne,hv];rfl];rfl
   | true =>
    rw[show(P9 s l i != x)=false by rw[bne,hv];rfl,dF,dS];have hg:((iE s r l).v.iR.get i)=wJ s (l.get i):=Jd omY;have hgl:(iE s r l).v.iR.len=l.len:=RZ s l;have inn:∀e m (k:Nat),k+e=wK s l i->e<m->LZ E n m ⟨iE s r l⟩ ⟨x⟩ (i:Int) (wK s l i:Int) (k:Int)=some ((sdK i e k++sdL s l x d (i+1)).map dE.enc):=by
     have hg2:=Jf s l i;intro e
     induction e with
     | zero =>
      intro m k hk hm;obtain⟨m,rfl⟩:∃n',m=n'+1:=⟨m-1,omY⟩;rw[ziI,dR omY,dF,bF omY,nx];rfl
     | succ e ih2 =>
      intro m k hk hm;obtain⟨m,rfl⟩:∃n',m=n'+1:=⟨m-1,omY⟩;rw[ziI,dM omY,dS,bF omY,ih2 m (k+1) omY omY];rfl
    have hg2:=Jf s l i;rw[bn (by rw[hgl];omega)];show LZ E n E.N ⟨iE s r l⟩ ⟨x⟩ (i:Int) (((iE s r l).v.iR.get (i:Int).toNat).len:Int) ((0:Nat):Int)=_;rw[gy,hg];exact inn _ _ _ omY omY
 exact key _ _ _ omY omY
abbrev Q19(C:Unit->ae Bool):Prop:=C ()=.ok true
structure E20 where
 N:Nat
 c72:au×bC×(Sl bi)×(Sl Bool)->ae (Int ⊕ ((Pt found)×Int))
def F20(E:E20):au×bC×(Sl bi)->ae ((Sl af)×Int):=ik E.N (Tabs.nil.addF 72 (ae.unA E.c72)) 20
theorem e20(E:E20){A:Type}(k:((Sl af)×Int)→Option A)(a0:au)(a1:bC)(a2:Sl bi):(F20 E (a0,a1,a2)).T k=(E.c72 (a0,a1,a2,(⟨0,λ_=>default⟩:(Sl Bool)))).T λr1=>zec r1 (λr1=>cond (r1 != 0) (k ((⟨0,λ_=>default⟩:(Sl af)),r1)) (none)) (λr1=>cond (r1.2 != 0) (k ((⟨0,λ_=>default⟩:(Sl af)),r1.2)) (k (r1.1.v.dw,0))):=dO
theorem o20 [aH](E:E20)(h72:Ok aC 72 (ae.unA E.c72)):Ok aC 20 (ae.un (F20 E)):=dP (ay.nil.addF h72)
structure E28 where
 N:Nat
 v88:au×bC×(Sl bi)×Int->ae (Sl af×Bool)
def F28(E:E28):au×bC×(Sl bi)->ae ((Sl af)×Bool):=ik E.N (Tabs.nil.addO 88 (.mkv 43 3 56 (ae.unV E.v88))) 28
theorem e28(E:E28){A:Type}(k:((Sl af)×Bool)→Option A)(a0:au)(a1:bC)(a2:Sl bi):(F28 E (a0,a1,a2)).T k=(E.v88 (a0,a1,a2,1)).T λr1=>(E.v88 (a0,a1,a2,2)).T λr2=>aU (room (r1.1.len+r2.1.len) 56) (cond r1.2 (k ((⟨(r1.1.len+r2.1.len),(jY r1.1.len r1.1.get r2.1.get)⟩:(Sl af)),r2.2)) (k ((⟨(r1.1.len+r2.1.len),(jY r1.1.len r1.1.get r2.1.get)⟩:(Sl af)),false))):=dO
theorem o28 [aH](E:E28)(x88:fU aC 88 (.mkv 43 3 56 (ae.unV E.v88))):Ok aC 28 (ae.un (F28 E)):=dP (ay.nil.addO x88)
structure E38 where
 N:Nat
abbrev G38(E:E38):bI:=gq Tabs.nil []
def A38:dG:=bP aC 38 [] {cut:=[8,10]}
def F38(E:E38):(Sl Int)×(Sl Int)->ae Int:=ae.ty (aF aC E.N (G38 E) A38 38)
section
variable(E:E38){A:Type}(k:Int->Option A)
def zb7(E:E38)(n:Nat)(a0 a1:Sl Int)(v5:Int){A:Type}(k:Int->Option A):Option A:=gX aC (G38 E) E.N A38 38 [1,0,1,0] [.n n] (gW k) ⟨[(0,eP a0),(1,eP a1),(5,.int v5)],[],[]⟩
def ziU(E:E38)(a0 a1:Sl Int){A:Type}(k:Int->Option A):Option A:=gX aC (G38 E) E.N A38 38 [1,1] [] (gW k) ⟨[(0,eP a0),(1,eP a1)],[],[]⟩
def zup(E:E38)(a0 a1:Sl Int){A:Type}(k:Int->Option A):Option A:=gX aC (G38 E) E.N A38 38 [1,1,1] [] (gW k) ⟨[(0,eP a0),(1,eP a1)],[],[]⟩
theorem e38(a0 a1:Sl Int):(F38 E (a0,a1)).T k=zb7 E E.N a0 a1 0 k:=dO
theorem zuq(n0:Nat)(a0 a1:Sl Int)(v5:Int):zb7 E (n0+1) a0 a1 v5 k=cond (decide (v5<(a0.len:Int))) (cond (decide (v5<(a1.len:Int))) (aU (decide (0<=v5/\v5<(a0.len:Int))) (aU (decide (0<=v5/\v5<(a1.len:Int))) (cond (decide (a0.get v5.toNat<a1.get v5.toNat)) (k (-1)) (aU (decide (0<=v5/\v5<(a0.len:Int))) (aU (decide (0<=v5/\v5<(a1.len:Int))) (cond (decide (a0.get v5.toNat>a1.get v5.toNat)) (k 1) (zb7 E n0 a0 a1 (aO (v5+1)) k))))))) (ziU E a0 a1 k)) (ziU E a0 a1 k):=krY
theorem zur(a0 a1:Sl Int):ziU E a0 a1 k=cond (decide ((a0.len:Int)<(a1.len:Int))) (k (-1)) (zup E a0 a1 k):=krY
theorem zus(a0 a1:Sl Int):zup E a0 a1 k=cond (decide ((a0.len:Int)>(a1.len:Int))) (k 1) (k 0):=krY
end
theorem o38 [aH](E:E38):Ok aC 38 (ae.un (F38 E)):=dP ay.nil
structure E48 where
 N:Nat
abbrev G48(E:E48):bI:=gq Tabs.nil []
def A48:dG:=bP aC 48 [] {}
def F48(E:E48):(Sl Int)×Int->ae Bool:=ae.ty (aF aC E.N (G48 E) A48 48)
section
variable(E:E48){A:Type}(k:Bool->Option A)
def zb8(E:E48)(n:Nat)(a0:Sl Int)(a1 v5:Int){A:Type}(k:Bool->Option A):Option A:=gX aC (G48 E) E.N A48 48 [1,0,1,0] [.n n] (gW k) ⟨[(0,eP a0),(1,.int a1),(5,.int v5)],[],[]⟩
theorem e48(a0:Sl Int)(a1:Int):(F48 E (a0,a1)).T k=zb8 E E.N a0 a1 0 k:=dO
theorem zut(n0:Nat)(a0:Sl Int)(a1 v5:Int):zb8 E (n0+1) a0 a1 v5 k=cond (decide (v5<(a0.len:Int))) (aU (decide (0<=v5/\v5<(a0.len:Int))) (cond (a0.get v5.toNat==a1) (k true) (zb8 E n0 a0 a1 (aO (v5+1)) k))) (k false):=krY
end
theorem o48 [aH](E:E48):Ok aC 48 (ae.un (F48 E)):=dP ay.nil
structure E50 where
 N:Nat
 zsx:au×(Sl bi)->ae Int
 ut:au×bi->ae (placed×Bool)
 zaE:placed×bi->ae bZ
abbrev G50(E:E50):bI:=gq (((Tabs.nil.addF 111 (ae.un E.zsx)).addF 112 (ae.un E.ut)).addF 113 (ae.un E.zaE)) []
def A50:dG:=bP aC 50 [] {}
def F50(E:E50):au×(Sl bi)->ae (bZ×Int):=ae.ty (aF aC E.N (G50 E) A50 50)
section
variable(E:E50){A:Type}(k:(bZ×Int)->Option A)
def zb9(E:E50)(n:Nat)(a0:au)(a1:Sl bi)(v42:Int)(x9:bZ){A:Type}(k:(bZ×Int)->Option A):Option A:=gX aC (G50 E) E.N A50 50 [1,1,1,1,1,0,1,0] [.n n] (gW k) ⟨[(2,.cl (.ptr 2 0)),(4,.cl (.ptr 4 0)),(9,.cl (.ptr 9 0)),(40,.cl (.p (.sl (((a1.len:Int):Int)-1).toNat 6 (λi=>bG.enc ((Ar a1.get 1) i))))),(41,.int ((((a1.len:Int):Int)-1).toNat:Int)),(42,.int v42)],[(2,eB 24 a0),(4,.box 105 [.p (.int .i64 0),.p (.int .i64 0)]),(9,eB 105 x9)],[]⟩
theorem e50(a0:au)(a1:Sl bi):(F50 E (a0,a1)).T k=(E.zsx (a0,a1)).T λr1=>cond (r1 != 0) (k ((⟨0,0⟩:bZ),r1)) (cond ((a1.len:Int)==0) (k ((⟨0,0⟩:bZ),2)) (aU (decide ((0:Int)<=0/\0<(a1.len:Int))) ((E.ut (a0,(a1.get 0))).T λr2=>aU (decide ((0:Int)<=0/\0<(a1.len:Int))) ((E.zaE (r2.1,(a1.get 0))).T λr3=>aU (decide ((0:Int)<=1/\(1:Int)<=(a1.len:Int)/\(a1.len:Int)<=(a1.len:Int))) (zb9 E E.N a0 a1 0 r3 k))))):=dO
theorem zuu(n0:Nat)(a0:au)(a1:Sl bi)(v42:Int)(x9:bZ):zb9 E (n0+1) a0 a1 v42 x9 k=cond (decide (v42<((((a1.len:Int):Int)-1).toNat:Int))) (aU (decide (0<=v42/\v42<((((a1.len:Int):Int)-1).toNat:Int))) ((E.ut (a0,((Ar a1.get 1) v42.toNat))).T λr1=>(E.zaE (r1.1,((Ar a1.get 1) v42.toNat))).T λr2=>zb9 E n0 a0 a1 (aO (v42+1)) (⟨(if r2.Low>x9.Low then r2.Low else x9.Low),(if r2.High<x9.High then r2.High else x9.High)⟩:bZ) k)) (cond (decide (x9.Low>x9.High)) (k ((⟨0,0⟩:bZ),5)) (k (x9,0))):=krY
end
theorem o50 [aH](E:E50)(zyl:Ok aC 111 (ae.un E.zsx))(Ac:Ok aC 112 (ae.un E.ut))(zo1:Ok aC 113 (ae.un E.zaE)):Ok aC 50 (ae.un (F50 E)):=dP (((ay.nil.addF zyl).addF Ac).addF zo1)
structure E52 where
 N:Nat
 c38:(Sl Int)×(Sl Int)->ae Int
def F52(E:E52):af×af->ae Bool:=ik E.N (Tabs.nil.addF 38 (ae.un E.c38)) 52
theorem e52(E:E52){A:Type}(k:Bool→Option A)(a0 a1:af):(F52 E (a0,a1)).T k=cond (a0.View==a1.View) ((E.c38 (a0.Hits,a1.Hits)).T λr1=>cond (r1==0) ((E.c38 (a0.aV,a1.aV)).T λr2=>k (r2==0)) (k false)) (k false):=dO
theorem o52 [aH](E:E52)(h38:Ok aC 38 (ae.un E.c38)):Ok aC 52 (ae.un (F52 E)):=dP (ay.nil.addF h38)
structure E53 where
 N:Nat
abbrev G53(E:E53):bI:=gq Tabs.nil []
def A53:dG:=bP aC 53 [] {cut:=[7]}
def F53(E:E53):af×af->ae Bool:=ae.ty (aF aC E.N (G53 E) A53 53)
section
variable(E:E53){A:Type}(k:Bool->Option A)
def zca(E:E53)(n:Nat)(a0 a1:af)(v5 v6:Int){A:Type}(k:Bool->Option A):Option A:=gX aC (G53 E) E.N A53 53 [1,1,0,1,0] [.n n] (gW k) ⟨[(2,.cl (.ptr 2 0)),(3,.cl (.ptr 3 0)),(5,.int v5),(6,.int v6)],[(2,eB 43 a0),(3,eB 43 a1)],[]⟩
def Qa(E:E53)(n0 n:Nat)(a0 a1:af)(v5 v6:Int){A:Type}(k:Bool->Option A):Option A:=gX aC (G53 E) E.N A53 53 [1,1,0,1,0,0,1,0,0,0,0] [.n n0,.n n] (gW k) ⟨[(2,.cl (.ptr 2 0)),(3,.cl (.ptr 3 0)),(5,.int v5),(6,.int v6)],[(2,eB 43 a0),(3,eB 43 a1)],[]⟩
def Wi(E:E53)(n0:Nat)(a0 a1:af)(v5 v6:Int){A:Type}(k:Bool->Option A):Option A:=gX aC (G53 E) E.N A53 53 [1,1,0,1,0,0,1,0,0,1] [.n n0] (gW k) ⟨[(2,.cl (.ptr 2 0)),(3,.cl (.ptr 3 0)),(5,.int v5),(6,.int v6)],[(2,eB 43 a0),(3,eB 43 a1)],[]⟩
theorem e53(a0 a1:af):(F53 E (a0,a1)).T k=zca E E.N a0 a1 0 0 k:=dO
theorem zuw(n0:Nat)(a0 a1:af)(v5 v6:Int):zca E (n0+1) a0 a1 v5 v6 k=cond (decide (v6<(a1.Hits.len:Int))) (Qa E n0 E.N a0 a1 v5 v6 k) (k (a0.View==a1.View)):=krY
theorem zux(n0 n1:Nat)(a0 a1:af)(v5 v6:Int):Qa E n0 (n1+1) a0 a1 v5 v6 k=cond (decide (v5<(a0.Hits.len:Int))) (aU (decide (0<=v5/\v5<(a0.Hits.len:Int))) (aU (decide (0<=v6/\v6<(a1.Hits.len:Int))) (cond (decide (a0.Hits.get v5.toNat<a1.Hits.get v6.toNat)) (Qa E n0 n1 a0 a1 (aO (v5+1)) v6 k) (Wi E n0 a0 a1 v5 v6 k)))) (Wi E n0 a0 a1 v5 v6 k):=krY
theorem zGG(n0:Nat)(a0 a1:af)(v5 v6:Int):Wi E n0 a0 a1 v5 v6 k=cond (v5==(a0.Hits.len:Int)) (k false) (aU (decide (0<=v5/\v5<(a0.Hits.len:Int))) (aU (decide (0<=v6/\v6<(a1.Hits.len:Int))) (cond (a0.Hits.get v5.toNat != a1.Hits.get v6.toNat) (k false) (aU (decide (0<=v5/\v5<(a0.aV.len:Int))) (aU (decide (0<=v6/\v6<(a1.aV.len:Int))) (cond (a0.aV.get v5.toNat != a1.aV.get v6.toNat) (k false) (zca E n0 a0 a1 v5 (aO (v6+1)) k))))))):=krY
end
theorem o53 [aH](E:E53):Ok aC 53 (ae.un (F53 E)):=dP ay.nil
structure E55 where
 N:Nat
 Ul:Int×Int->ae aP
abbrev G55(E:E55):bI:=gq (Tabs.nil.addF 71 (ae.un E.Ul)) []
def A55:dG:=bP aC 55 [] {cut:=[3]}
def F55(E:E55):Int×Int×Int×Int->ae Line:=ae.ty (aF aC E.N (G55 E) A55 55)
section
variable(E:E55){A:Type}(k:Line->Option A)
def ziV(E:E55)(v0 v1 v2 v3:Int){A:Type}(k:Line->Option A):Option A:=gX aC (G55 E) E.N A55 55 [1,1] [] (gW k) ⟨[(0,.int v0),(1,.int v1),(2,.int v2),(3,.int v3),(8,.cl (.ptr 8 0))],[(8,.box 114 [.p (.int .i64 0),.p (.int .i64 0),.p (.int .i64 0),.p (.int .i64 0)])],[]⟩
theorem e55(a0 a1 a2 a3:Int):(F55 E (a0,a1,a2,a3)).T k=cond (decide (a2<a0)) (ziV E a2 a3 a0 a1 k) (ziV E a0 a1 a2 a3 k):=dO
theorem zuy(v0 v1 v2 v3:Int):ziV E v0 v1 v2 v3 k=(E.Ul ((aO (v3-v1)),(aO (v2-v0)))).T λr1=>(E.Ul ((aO ((aO (v1*v2))-(aO (v3*v0)))),(aO (v2-v0)))).T λr2=>k (⟨r1,r2⟩:Line):=krY
end
theorem o55 [aH](E:E55)(ZE:Ok aC 71 (ae.un E.Ul)):Ok aC 55 (ae.un (F55 E)):=dP (ay.nil.addF ZE)
structure E56 where
 N:Nat
def F56(E:E56):aP×aP->ae Bool:=ik E.N Tabs.nil 56
theorem e56(E:E56){A:Type}(k:Bool→Option A)(a0 a1:aP):(F56 E (a0,a1)).T k=k (decide ((aO (a0.Num*a1.bV))<(aO (a1.Num*a0.bV)))):=dO
theorem o56 [aH](E:E56):Ok aC 56 (ae.un (F56 E)):=dP ay.nil
structure E57 where
 N:Nat
 c116:Line×ax->ae Bool
abbrev G57(E:E57):bI:=gq (Tabs.nil.addF 116 (ae.un E.c116)) []
def A57:dG:=bP aC 57 [] {ks:=[(1,3,⟨[],[(5,22,3)],[],[],[],[],[]⟩)]}
def F57(E:E57):Line×(Sl ax)->ae ((Sl Int)):=ae.ty (aF aC E.N (G57 E) A57 57)
section
variable(E:E57){A:Type}(k:(Sl Int)->Option A)
def Wj(E:E57)(n:Nat)(a0:Line)(a1:Sl ax)(v6:Int)(Uk:Sl Int){A:Type}(k:(Sl Int)->Option A):Option A:=gX aC (G57 E) E.N A57 57 [1,1,0,1,0] [.n n] (gW k) ⟨[(1,eP a1),(2,.cl (.ptr 2 0)),(5,.cl (.vec 22)),(6,.int v6)],[(2,eB 114 a0),(22,eV 3 1 8 Uk)],[]⟩
theorem e57(a0:Line)(a1:Sl ax):(F57 E (a0,a1)).T k=Wj E E.N a0 a1 0 (⟨0,(λ_=>0)⟩:(Sl Int)) k:=dO
theorem zuz(n0:Nat)(a0:Line)(a1:Sl ax)(v6:Int)(Uk:Sl Int):Wj E (n0+1) a0 a1 v6 Uk k=cond (decide (v6<(a1.len:Int))) (aU (decide (0<=v6/\v6<(a1.len:Int))) ((E.c116 (a0,(a1.get v6.toNat))).T λr1=>cond r1 (aU (room (Uk.len+1) 8) (Wj E n0 a0 a1 (aO (v6+1)) (⟨(Uk.len+1),(jY Uk.len Uk.get (λ_=>v6))⟩:(Sl Int)) k)) (Wj E n0 a0 a1 (aO (v6+1)) Uk k))) (k Uk):=krY
end
theorem o57 [aH](E:E57)(zCY:Ok aC 116 (ae.un E.c116)):Ok aC 57 (ae.un (F57 E)):=dP (ay.nil.addF zCY)
structure E71 where
 N:Nat
 TR:Int×Int->ae Int
def F71(E:E71):Int×Int->ae aP:=ik E.N (Tabs.nil.addF 125 (ae.un E.TR)) 71
theorem e71(E:E71){A:Type}(k:aP→Option A)(a0 a1:Int):(F71 E (a0,a1)).T k=(E.TR ((if(aO (0-a0))>a0 then(aO (0-a0))else a0),a1)).T λr1=>aU (decide (r1≠0)) (aU (decide (r1≠0)) (k (⟨(aO (a0.tdiv r1)),(aO (a1.tdiv r1))⟩:aP))):=dO
theorem o71 [aH](E:E71)(ZF:Ok aC 125 (ae.un E.TR)):Ok aC 71 (ae.un (F71 E)):=dP (ay.nil.addF ZF)
structure E72 where
 N:Nat
 c78:au×bC×(Sl bi)->ae (Int ⊕ ((Pt aS)×Int))
 zfM:(Sl Bool)×Bool->ae Bool
 c127:(Pt aS)×Int->ae ((Sl af)×Bool)
 IJ:(Sl af)×((dY 129 (Pt aS) Unit) ⊕ (dY 130 Unit (Pt (Pt found))))->ae (Sl af×Unit)
 X4:af×af->ae Int
abbrev G72(E:E72):bI:=gq (((((((Tabs.nil.addN [130]).addO 128 (.mkv 43 3 56 (ae.unV E.IJ))).addO 133 (.sort 43 3 56)).addC 134 (ae.un E.X4)).addF 78 (ae.unA E.c78)).addF 126 (ae.un E.zfM)).addF 127 (ae.un E.c127)) []
def A72:dG:=bP aC 72 [] {ks:=[(0,6,⟨[],[],[(35,2,5001,43)],[],[],[],[]⟩),(2,15,⟨[],[],[],[],[57,5001],[],[]⟩)],cut:=[15,16],unr:=[(8,3)],clo:=[130]}
def F72(E:E72):au×bC×(Sl bi)×(Sl Bool)->ae (Int ⊕ ((Pt found)×Int)):=ae.tyA (aF aC E.N (G72 E) A72 72)
section
variable(E:E72){A:Type}(k:(Int ⊕ ((Pt found)×Int))->Option A)
def zcb(E:E72)(yP:Pt aS)(w57 w67:Sl af){A:Type}(k:(Int ⊕ ((Pt found)×Int))->Option A):Option A:=gX aC (G72 E) E.N A72 72 [1,1,1,1,1,1,1] [] (zh7 k) ⟨[(12,.cl (.ptr 12 0))],[(12,.box 140 [.ptr 35 0]),(35,.box 145 [.p (.fp [.sl yP.v.au.aj.len 15 (λi=>bG.enc (yP.v.au.aj.get i)),.sl yP.v.hits.len 6 (λi=>bG.enc (yP.v.hits.get i)),.sl yP.v.iR.len 1 (λi=>bG.enc (yP.v.iR.get i)),.int .i64 yP.v.rules.rF,.int .i64 yP.v.rules.vM] 0),.vec 57,.vec 67]),(57,.fvec 3 w57.len (λi=>bG.enc (w57.get i))),(67,eV 43 3 56 w67)],[]⟩
theorem e72(a0:au)(a1:bC)(a2:Sl bi)(a3:Sl Bool):(F72 E (a0,a1,a2,a3)).T k=(E.c78 (a0,a1,a2)).T λr1=>zec r1 (λr1=>cond (r1==0) ((E.zfM (a3,false)).T λr2=>cond r2 (k (.inl 2)) (cond (r1 != 0) (k (.inl r1)) (none))) (cond (r1 != 0) (k (.inl r1)) (none))) (λr1=>cond (r1.2==0) ((E.zfM (a3,false)).T λr3=>cond r3 (k (.inl 2)) (cond (r1.2 != 0) (k (.inl r1.2)) ((E.c127 (r1.1,1)).T λr4=>cond (!r4.2) (k (.inl 8)) ((E.IJ (r4.1,(Sum.inl (⟨r1.1,()⟩:(dY 129 (Pt aS) Unit))))).T λr5=>aU (room r5.1.len 56) ((E.c127 (r1.1,2)).T λr6=>cond (!r6.2) (k (.inl 8)) ((E.IJ (r6.1,(Sum.inl (⟨r1.1,()⟩:(dY 129 (Pt aS) Unit))))).T λr7=>aU (room (r5.1.len+r7.1.len) 56) ((E.IJ ((⟨(r5.1.len+r7.1.len),(jY r5.1.len r5.1.get r7.1.get)⟩:(Sl af)),(Sum.inr (⟨(),(⟨(⟨(⟨r1.1,(⟨(r5.1.len+r7.1.len),(jY r5.1.len r5.1.get r7.1.get)⟩:(Sl af)),(⟨0,(λ_=>(⟨0,(⟨0,(λ_=>0)⟩:(Sl Int)),(⟨0,(λ_=>0)⟩:(Sl Int))⟩:af))⟩:(Sl af))⟩:found)⟩:(Pt found))⟩:(Pt (Pt found)))⟩:(dY 130 Unit (Pt (Pt found))))))).T λr8=>zcb E r1.1 (⟨(r5.1.len+r7.1.len),(jY r5.1.len r5.1.get r7.1.get)⟩:(Sl af)) r8.1 k))))))) (cond (r1.2 != 0) (k (.inl r1.2)) ((E.c127 (r1.1,1)).T λr9=>cond (!r9.2) (k (.inl 8)) ((E.IJ (r9.1,(Sum.inl (⟨r1.1,()⟩:(dY 129 (Pt aS) Unit))))).T λUa=>aU (room Ua.1.len 56) ((E.c127 (r1.1,2)).T λr11=>cond (!r11.2) (k (.inl 8)) ((E.IJ (r11.1,(Sum.inl (⟨r1.1,()⟩:(dY 129 (Pt aS) Unit))))).T λr12=>aU (room (Ua.1.len+r12.1.len) 56) ((E.IJ ((⟨(Ua.1.len+r12.1.len),(jY Ua.1.len Ua.1.get r12.1.get)⟩:(Sl af)),(Sum.inr (⟨(),(⟨(⟨(⟨r1.1,(⟨(Ua.1.len+r12.1.len),(jY Ua.1.len Ua.1.get r12.1.get)⟩:(Sl af)),(⟨0,(λ_=>(⟨0,(⟨0,(λ_=>0)⟩:(Sl Int)),(⟨0,(λ_=>0)⟩:(Sl Int))⟩:af))⟩:(Sl af))⟩:found)⟩:(Pt found))⟩:(Pt (Pt found)))⟩:(dY 130 Unit (Pt (Pt found))))))).T λr13=>zcb E r1.1 (⟨(Ua.1.len+r12.1.len),(jY Ua.1.len Ua.1.get r12.1.get)⟩:(Sl af)) r13.1 k))))))):=ztW.trans krY
theorem zGI(yP:Pt aS)(w57 w67:Sl af):zcb E yP w57 w67 k=aU (soP (ae.un E.X4) [] true w67) (k (.inr ((⟨(⟨yP,w57,(⟨w67.len,(soG (ae.un E.X4) [] true w67)⟩:(Sl af))⟩:found)⟩:(Pt found)),0))):=krY
end
theorem o72 [aH](E:E72)(h78:Ok aC 78 (ae.unA E.c78))(zym:Ok aC 126 (ae.un E.zfM))(ztl:Ok aC 127 (ae.un E.c127))(zRy:fU aC 128 (.mkv 43 3 56 (ae.unV E.IJ)))(zRz:fU aC 133 (.sort 43 3 56))(zRA : @Ok ⟨1⟩ aC 134 (ae.un E.X4)):Ok aC 72 (ae.unA (F72 E)):=zh8 (wF (((((((ay.nil.addN).addO zRy).addO zRz).addC zRA).addF h78).addF zym).addF ztl) (dJ krY))
structure E74 where
 N:Nat
def F74(E:E74):au×bi->ae bZ:=ik E.N Tabs.nil 74
theorem e74(E:E74){A:Type}(k:bZ→Option A)(a0:au)(a1:bi):(F74 E (a0,a1)).T k=aU (decide (0<=a1.ak/\a1.ak<(a0.aj.len:Int))) (cond ((a0.aj.get a1.ak.toNat).Kind==3) (k (a0.aj.get a1.ak.toNat).Clock) (k (⟨(aO ((aO (a1.Time-(a0.aj.get a1.ak.toNat).Clock.High))-(a0.aj.get a1.ak.toNat).dL)),(aO ((aO (a1.Time-(a0.aj.get a1.ak.toNat).Clock.Low))+(a0.aj.get a1.ak.toNat).dL))⟩:bZ))):=dO
theorem o74 [aH](E:E74):Ok aC 74 (ae.un (F74 E)):=dP ay.nil
structure E76 where
 N:Nat
 TR:Int×Int->ae Int
 Ul:Int×Int->ae aP
def F76(E:E76):Line×Int->ae aP:=ik E.N ((Tabs.nil.addF 125 (ae.un E.TR)).addF 71 (ae.un E.Ul)) 76
theorem e76(E:E76){A:Type}(k:aP→Option A)(a0:Line)(a1:Int):(F76 E (a0,a1)).T k=(E.TR (a0.Start.bV,a0.dX.bV)).T λr1=>aU (decide (r1≠0)) (aU (decide (a0.Start.bV≠0)) (aU (decide (a0.dX.bV≠0)) ((E.Ul ((aO ((aO (a0.Start.Num*(aO ((aO ((aO (a0.Start.bV.tdiv r1))*a0.dX.bV)).tdiv a0.Start.bV))))+(aO ((aO (a0.dX.Num*(aO ((aO ((aO (a0.Start.bV.tdiv r1))*a0.dX.bV)).tdiv a0.dX.bV))))*a1)))),(aO ((aO (a0.Start.bV.tdiv r1))*a0.dX.bV)))).T λr2=>k r2))):=dO
theorem o76 [aH](E:E76)(ZF:Ok aC 125 (ae.un E.TR))(ZE:Ok aC 71 (ae.un E.Ul)):Ok aC 76 (ae.un (F76 E)):=dP ((ay.nil.addF ZF).addF ZE)
structure E77 where
 N:Nat
 zfN:ak×Int->ae (Int×Int)
 OH:ak×Int->ae Bool
abbrev G77(E:E77):bI:=gq ((Tabs.nil.addF 136 (ae.un E.zfN)).addF 137 (ae.un E.OH)) []
def A77:dG:=bP aC 77 [] {}
def F77(E:E77):ak×bZ->ae (Bool×Bool):=ae.ty (aF aC E.N (G77 E) A77 77)
section
variable(E:E77){A:Type}(k:(Bool×Bool)->Option A)
def mG(E:E77)(n:Nat)(a0:ak)(v6 v7:Int)(v12 iG:Bool)(iD:Int){A:Type}(k:(Bool×Bool)->Option A):Option A:=gX aC (G77 E) E.N A77 77 [1,1,1,1,1,0,1,0] [.n n] (gW k) ⟨[(2,.cl (.ptr 2 0)),(6,.int v6),(7,.int v7),(12,.bool v12),(13,.bool iG),(14,.int iD)],[(2,eB 124 a0)],[]⟩
theorem e77(a0:ak)(a1:bZ):(F77 E (a0,a1)).T k=(E.zfN (a0,0)).T λr1=>(E.zfN (a0,(aO (a0.bT-1)))).T λr2=>cond (decide ((aO (a1.Low-a0.bz.High))>=r1.1)) (mG E E.N a0 (aO (a1.Low-a0.bz.High)) (aO (a1.High-a0.bz.Low)) (decide ((aO (a1.High-a0.bz.Low))<=r2.2)) false 0 k) (mG E E.N a0 (aO (a1.Low-a0.bz.High)) (aO (a1.High-a0.bz.Low)) false false 0 k):=dO
theorem zuA(n0:Nat)(a0:ak)(v6 v7:Int)(v12 iG:Bool)(iD:Int):mG E (n0+1) a0 v6 v7 v12 iG iD k=cond (decide (iD<a0.bT)) ((E.zfN (a0,iD)).T λr1=>(E.OH (a0,iD)).T λr2=>cond r2 (cond (decide (r1.1<=v7)) (cond (decide (r1.2>=v6)) (mG E n0 a0 v6 v7 false iG (aO (iD+1)) k) (mG E n0 a0 v6 v7 v12 iG (aO (iD+1)) k)) (mG E n0 a0 v6 v7 v12 iG (aO (iD+1)) k)) (cond (decide ((aO (r1.1-a0.dK))<=v7)) (cond (decide ((aO (r1.2+a0.dK))>=v6)) (mG E n0 a0 v6 v7 v12 true (aO (iD+1)) k) (mG E n0 a0 v6 v7 v12 iG (aO (iD+1)) k)) (mG E n0 a0 v6 v7 v12 iG (aO (iD+1)) k))) (k (v12,iG)):=krY
end
theorem o77 [aH](E:E77)(ziW:Ok aC 136 (ae.un E.zfN))(Zw:Ok aC 137 (ae.un E.OH)):Ok aC 77 (ae.un (F77 E)):=dP ((ay.nil.addF ziW).addF Zw)
structure E88 where
 N:Nat
 c94:au×bC×(Sl bi)×Int->ae ((Sl af)×Bool)
 c53:af×af->ae Bool
 zsF:af×af->ae Bool
abbrev G88(E:E88):bI:=gq (((Tabs.nil.addF 94 (ae.un E.c94)).addF 53 (ae.un E.c53)).addF 144 (ae.un E.zsF)) []
def A88:dG:=bP aC 88 [] {ks:=[(0,3,⟨[],[(8,5000,43)],[],[],[],[],[]⟩),(1,6,⟨[],[(12,79,43)],[],[],[],[],[]⟩),(1,15,⟨[],[],[],[],[],[12],[]⟩)],cut:=[17]}
def F88(E:E88):au×bC×(Sl bi)×Int->ae (Sl af×Bool):=ae.tyV (aK aC E.N (G88 E) A88 88 43 3 56)
section
variable(E:E88){A:Type}(k:(Sl af×Bool)->Option A)
def Aw(E:E88)(n:Nat)(v10:Sl af)(iG:Int)(w79:Sl af){A:Type}(k:(Sl af×Bool)->Option A):Option A:=ptG aC (G88 E) E.N A88 88 [1,1,1,1,0,1,0] [.n n] (Zm 43 3 56) (Zl k) ⟨[(10,eP v10),(12,.cl (.vec 79)),(13,.int iG)],[(79,eV 43 3 56 w79)],[]⟩
def Ho(E:E88)(n0 n:Nat)(v10:Sl af)(iG:Int)(iD:Bool)(rJ:Int)(w79:Sl af){A:Type}(k:(Sl af×Bool)->Option A):Option A:=ptG aC (G88 E) E.N A88 88 [1,1,1,1,0,1,0,0,1,0,0,1,0,1,0] [.n n0,.n n] (Zm 43 3 56) (Zl k) ⟨[(10,eP v10),(12,.cl (.vec 79)),(13,.int iG),(14,.bool iD),(15,.int rJ)],[(79,eV 43 3 56 w79)],[]⟩
def Me(E:E88)(n0 n:Nat)(v10 v12:Sl af)(iG uy:Int){A:Type}(k:(Sl af×Bool)->Option A):Option A:=ptG aC (G88 E) E.N A88 88 [1,1,1,1,0,1,0,0,1,0,0,1,1,1,1,0,0] [.n n0,.n n] (Zm 43 3 56) (Zl k) ⟨[(10,eP v10),(12,eP v12),(13,.int iG),(16,.int uy)],[],[]⟩
def Qb(E:E88)(n0:Nat)(v10 v12:Sl af)(iG uy:Int){A:Type}(k:(Sl af×Bool)->Option A):Option A:=ptG aC (G88 E) E.N A88 88 [1,1,1,1,0,1,0,0,1,0,0,1,1,1,1,1] [.n n0] (Zm 43 3 56) (Zl k) ⟨[(10,eP v10),(12,eP v12),(13,.int iG),(16,.int uy)],[],[]⟩
theorem e88(a0:au)(a1:bC)(a2:Sl bi)(a3:Int):(F88 E (a0,a1,a2,a3)).T k=(E.c94 (a0,a1,a2,a3)).T λr1=>cond (!r1.2) (k ((⟨0,(λ_=>(⟨0,(⟨0,(λ_=>0)⟩:(Sl Int)),(⟨0,(λ_=>0)⟩:(Sl Int))⟩:af))⟩:(Sl af)),false)) (Aw E E.N r1.1 0 (⟨0,(λ_=>(⟨0,(⟨0,(λ_=>0)⟩:(Sl Int)),(⟨0,(λ_=>0)⟩:(Sl Int))⟩:af))⟩:(Sl af)) k):=zia.trans krY
theorem zuB(n0:Nat)(v10:Sl af)(iG:Int)(w79:Sl af):Aw E (n0+1) v10 iG w79 k=cond (decide (iG<(v10.len:Int))) (Ho E n0 E.N v10 iG true 0 w79 k) (k (w79,true)):=krY
theorem zcd(n0 n1:Nat)(v10:Sl af)(iG:Int)(iD:Bool)(rJ:Int)(w79:Sl af):Ho E n0 (n1+1) v10 iG iD rJ w79 k=cond (decide (rJ<(v10.len:Int))) (cond iD (cond (iG==rJ) (Ho E n0 n1 v10 iG true (aO (rJ+1)) w79 k) (aU (decide (0<=rJ/\rJ<(v10.len:Int))) (aU (decide (0<=iG/\iG<(v10.len:Int))) ((E.c53 ((v10.get rJ.toNat),(v10.get iG.toNat))).T λr1=>Ho E n0 n1 v10 iG (!r1) (aO (rJ+1)) w79 k)))) (Ho E n0 n1 v10 iG false (aO (rJ+1)) w79 k)) (cond (!iD) (Aw E n0 v10 (aO (iG+1)) w79 k) (Me E n0 E.N v10 w79 iG 0 k)):=krY
theorem zuC(n0 n1:Nat)(v10 v12:Sl af)(iG uy:Int):Me E n0 (n1+1) v10 v12 iG uy k=cond (decide (uy<(v12.len:Int))) (aU (decide (0<=uy/\uy<(v12.len:Int))) (aU (decide (0<=iG/\iG<(v10.len:Int))) ((E.zsF ((v12.get uy.toNat),(v10.get iG.toNat))).T λr1=>cond r1 (Me E n0 n1 v10 v12 iG (aO (uy+1)) k) (Qb E n0 v10 v12 iG uy k)))) (Qb E n0 v10 v12 iG uy k):=krY
theorem zGL(n0:Nat)(v10 v12:Sl af)(iG uy:Int):Qb E n0 v10 v12 iG uy k=aU (decide ((0:Int)<=0/\(0:Int)<=uy/\uy<=(v12.len:Int))) (aU (room ((uy:Int)-0).toNat 56) (aU (decide (0<=iG/\iG<(v10.len:Int))) (aU (room (((uy:Int)-0).toNat+1) 56) (aU (decide ((0:Int)<=uy/\(uy:Int)<=(v12.len:Int)/\(v12.len:Int)<=(v12.len:Int))) (aU (room ((((uy:Int)-0).toNat+1)+(((v12.len:Int):Int)-uy).toNat) 56) (Aw E n0 v10 (aO (iG+1)) (⟨((((uy:Int)-0).toNat+1)+(((v12.len:Int):Int)-uy).toNat),(jY (((uy:Int)-0).toNat+1) (jY ((uy:Int)-0).toNat (Ar v12.get 0) (λ_=>(v10.get iG.toNat))) (Ar v12.get uy.toNat))⟩:(Sl af)) k)))))):=krY
end
theorem o88 [aH](E:E88)(h94:Ok aC 94 (ae.un E.c94))(h53:Ok aC 53 (ae.un E.c53))(zyo:Ok aC 144 (ae.un E.zsF)):fU aC 88 (.mkv 43 3 56 (ae.unV (F88 E))):=Zk (RG (((ay.nil.addF h94).addF h53).addF zyo) (dJ krY))
structure E90 where
 N:Nat
 c148:(Sl bi)×(Sl Int)->ae ((Sl bi))
 zsG:au×(Sl bi)->ae (bZ×Bool)
def F90(E:E90):au×(Sl bi)×(Sl Int)->ae Bool:=ik E.N ((Tabs.nil.addF 148 (ae.un E.c148)).addF 147 (ae.un E.zsG)) 90
theorem e90(E:E90){A:Type}(k:Bool→Option A)(a0:au)(a1:Sl bi)(a2:Sl Int):(F90 E (a0,a1,a2)).T k=(E.c148 (a1,a2)).T λr1=>(E.zsG (a0,r1)).T λr2=>k r2.2:=dO
theorem o90 [aH](E:E90)(zyp:Ok aC 148 (ae.un E.c148))(zyq:Ok aC 147 (ae.un E.zsG)):Ok aC 90 (ae.un (F90 E)):=dP ((ay.nil.addF zyp).addF zyq)
structure E91 where
 N:Nat
 c65:au×(Sl bi)×af->ae ((Sl ax))
 c87:(Sl bi)×(Sl Int)×Int->ae Bool
 EE:(Sl ax)->ae Bool
 zsH:(Sl ax)×Int->ae (aP×aP)
 zaF:aP->ae Int
 X3:Int×Int×Int->ae Bool
 c77:ak×bZ->ae (Bool×Bool)
abbrev G91(E:E91):bI:=gq (((((((Tabs.nil.addF 65 (ae.un E.c65)).addF 87 (ae.un E.c87)).addF 149 (ae.un E.EE)).addF 150 (ae.un E.zsH)).addF 151 (ae.un E.zaF)).addF 86 (ae.un E.X3)).addF 77 (ae.un E.c77)) []
def A91:dG:=bP aC 91 [] {ks:=[(1,4,⟨[],[(7,92,3)],[],[],[],[],[]⟩)]}
def F91(E:E91):au×(Sl bi)×af->ae ((Sl Int)):=ae.ty (aF aC E.N (G91 E) A91 91)
section
variable(E:E91){A:Type}(k:(Sl Int)->Option A)
def xC(E:E91)(n:Nat)(a0:au)(a1:Sl bi)(a2:af)(v8:Sl ax)(v9:Int)(w92:Sl Int){A:Type}(k:(Sl Int)->Option A):Option A:=gX aC (G91 E) E.N A91 91 [1,1,1,0,1,0] [.n n] (gW k) ⟨[(1,eP a1),(3,.cl (.ptr 3 0)),(5,.cl (.ptr 5 0)),(7,.cl (.vec 92)),(8,eP v8),(9,.int v9)],[(3,eB 24 a0),(5,eB 43 a2),(92,eV 3 1 8 w92)],[]⟩
theorem e91(a0:au)(a1:Sl bi)(a2:af):(F91 E (a0,a1,a2)).T k=(E.c65 (a0,a1,a2)).T λr1=>xC E E.N a0 a1 a2 r1 0 (⟨0,(λ_=>0)⟩:(Sl Int)) k:=dO
theorem zuD(n0:Nat)(a0:au)(a1:Sl bi)(a2:af)(v8:Sl ax)(v9:Int)(w92:Sl Int):xC E (n0+1) a0 a1 a2 v8 v9 w92 k=cond (decide (v9<(a0.aj.len:Int))) (aU (decide (0<=v9/\v9<(a0.aj.len:Int))) (cond ((a0.aj.get v9.toNat).View != a2.View) (xC E n0 a0 a1 a2 v8 (aO (v9+1)) w92 k) ((E.c87 (a1,a2.Hits,v9)).T λr1=>cond r1 (xC E n0 a0 a1 a2 v8 (aO (v9+1)) w92 k) ((E.EE v8).T λr2=>cond r2 (xC E n0 a0 a1 a2 v8 (aO (v9+1)) w92 k) (aU (decide (0<=v9/\v9<(a0.aj.len:Int))) ((E.zsH (v8,(a0.aj.get v9.toNat).Z)).T λr3=>(E.zaF r3.1).T λr4=>(E.zaF (⟨(aO (0-r3.2.Num)),r3.2.bV⟩:aP)).T λr5=>(E.X3 (r4,(-1000000),1000000)).T λr6=>cond (!r6) (xC E n0 a0 a1 a2 v8 (aO (v9+1)) w92 k) ((E.X3 ((aO (0-r5)),(-1000000),1000000)).T λr7=>cond (!r7) (xC E n0 a0 a1 a2 v8 (aO (v9+1)) w92 k) (aU (decide (0<=v9/\v9<(a0.aj.len:Int))) ((E.c77 ((a0.aj.get v9.toNat),(⟨r4,(aO (0-r5))⟩:bZ))).T λr8=>cond r8.1 (aU (room (w92.len+1) 8) (xC E n0 a0 a1 a2 v8 (aO (v9+1)) (⟨(w92.len+1),(jY w92.len w92.get (λ_=>v9))⟩:(Sl Int)) k)) (xC E n0 a0 a1 a2 v8 (aO (v9+1)) w92 k)))))))))) (k w92):=krY
end
theorem o91 [aH](E:E91)(h65:Ok aC 65 (ae.un E.c65))(h87:Ok aC 87 (ae.un E.c87))(Iy:Ok aC 149 (ae.un E.EE))(zyr:Ok aC 150 (ae.un E.zsH))(zo3:Ok aC 151 (ae.un E.zaF))(h86:Ok aC 86 (ae.un E.X3))(h77:Ok aC 77 (ae.un E.c77)):Ok aC 91 (ae.un (F91 E)):=dP (((((((ay.nil.addF h65).addF h87).addF Iy).addF zyr).addF zo3).addF h86).addF h77)
structure E92 where
 N:Nat
 c152:(Sl Int)×Int->ae Int
abbrev G92(E:E92):bI:=gq (Tabs.nil.addF 152 (ae.un E.c152)) []
def A92:dG:=bP aC 92 [] {}
def F92(E:E92):af×af->ae Bool:=ae.ty (aF aC E.N (G92 E) A92 92)
section
variable(E:E92){A:Type}(k:Bool->Option A)
def zcf(E:E92)(n:Nat)(a0 a1:af)(v11:Int){A:Type}(k:Bool->Option A):Option A:=gX aC (G92 E) E.N A92 92 [1,0,1,0] [.n n] (gW k) ⟨[(2,.cl (.ptr 2 0)),(3,.cl (.ptr 3 0)),(9,eP a1.Hits),(10,.int (a1.Hits.len:Int)),(11,.int v11)],[(2,eB 43 a0),(3,eB 43 a1)],[]⟩
theorem e92(a0 a1:af):(F92 E (a0,a1)).T k=zcf E E.N a0 a1 0 k:=dO
theorem zuE(n0:Nat)(a0 a1:af)(v11:Int):zcf E (n0+1) a0 a1 v11 k=cond (decide (v11<(a1.Hits.len:Int))) (aU (decide (0<=v11/\v11<(a1.Hits.len:Int))) ((E.c152 (a0.Hits,a1.Hits.get v11.toNat)).T λr1=>cond (decide (r1<0)) (k false) (aU (decide (0<=r1/\r1<(a0.aV.len:Int))) (aU (decide (0<=v11/\v11<(a1.aV.len:Int))) (cond (a0.aV.get r1.toNat != a1.aV.get v11.toNat) (k false) (zcf E n0 a0 a1 (aO (v11+1)) k)))))) (k (a0.View==a1.View)):=krY
end
theorem o92 [aH](E:E92)(zys:Ok aC 152 (ae.un E.c152)):Ok aC 92 (ae.un (F92 E)):=dP (ay.nil.addF zys)
structure E93 where
 N:Nat
 c50:au×(Sl bi)->ae (bZ×Int)
abbrev G93(E:E93):bI:=gq (Tabs.nil.addF 50 (ae.un E.c50)) []
def A93:dG:=bP aC 93 [] {ks:=[(1,3,⟨[],[(6,27,92)],[],[],[],[],[]⟩)]}
def F93(E:E93):(Pt aS)×af->ae (bZ×Bool):=ae.ty (aF aC E.N (G93 E) A93 93)
section
variable(E:E93){A:Type}(k:(bZ×Bool)->Option A)
def zcg(E:E93)(n:Nat)(a0:Pt aS)(a1:af)(iD:Int)(w27:Sl bi){A:Type}(k:(bZ×Bool)->Option A):Option A:=gX aC (G93 E) E.N A93 93 [1,1,0,1,0] [.n n] (gW k) ⟨[(0,eP a0),(4,.cl (.ptr 4 0)),(6,.cl (.vec 27)),(12,eP a1.Hits),(13,.int (a1.Hits.len:Int)),(14,.int iD)],[(4,.box 105 [.p (.int .i64 0),.p (.int .i64 0)]),(27,eV 92 6 48 w27)],[]⟩
theorem e93(a0:Pt aS)(a1:af):(F93 E (a0,a1)).T k=zcg E E.N a0 a1 0 (⟨0,(λ_=>(⟨0,0,0,0,0,0⟩:bi))⟩:(Sl bi)) k:=dO
theorem zuG(n0:Nat)(a0:Pt aS)(a1:af)(iD:Int)(w27:Sl bi):zcg E (n0+1) a0 a1 iD w27 k=cond (decide (iD<(a1.Hits.len:Int))) (aU (decide (0<=iD/\iD<(a1.Hits.len:Int))) (aU (decide (0<=a1.Hits.get iD.toNat/\a1.Hits.get iD.toNat<(a0.v.hits.len:Int))) (aU (room (w27.len+1) 48) (zcg E n0 a0 a1 (aO (iD+1)) (⟨(w27.len+1),(jY w27.len w27.get (λ_=>(a0.v.hits.get (a1.Hits.get iD.toNat).toNat)))⟩:(Sl bi)) k)))) ((E.c50 (a0.v.au,w27)).T λr1=>k (r1.1,(r1.2==0))):=krY
end
theorem o93 [aH](E:E93)(h50:Ok aC 50 (ae.un E.c50)):Ok aC 93 (ae.un (F93 E)):=dP (ay.nil.addF h50)
structure E94 where
 N:Nat
 zsI:au×(Sl bi)×Int->ae ((Sl af)×Bool)
 c154:au×bC×(Sl bi)×af->ae Bool
abbrev G94(E:E94):bI:=gq ((Tabs.nil.addF 153 (ae.un E.zsI)).addF 154 (ae.un E.c154)) []
def A94:dG:=bP aC 94 [] {ks:=[(1,6,⟨[],[(12,43,43)],[],[],[],[],[]⟩)]}
def F94(E:E94):au×bC×(Sl bi)×Int->ae ((Sl af)×Bool):=ae.ty (aF aC E.N (G94 E) A94 94)
section
variable(E:E94){A:Type}(k:((Sl af)×Bool)->Option A)
def Hq(E:E94)(n:Nat)(a0:au)(a1:bC)(a2:Sl bi)(v10:Sl af)(iG:Int)(w43:Sl af){A:Type}(k:((Sl af)×Bool)->Option A):Option A:=gX aC (G94 E) E.N A94 94 [1,1,1,1,0,1,0] [.n n] (gW k) ⟨[(2,eP a2),(4,.cl (.ptr 4 0)),(5,.cl (.ptr 5 0)),(10,eP v10),(12,.cl (.vec 43)),(13,.int iG)],[(4,eB 24 a0),(5,eB 26 a1),(43,eV 43 3 56 w43)],[]⟩
theorem e94(a0:au)(a1:bC)(a2:Sl bi)(a3:Int):(F94 E (a0,a1,a2,a3)).T k=(E.zsI (a0,a2,a3)).T λr1=>cond (!r1.2) (k ((⟨0,λ_=>default⟩:(Sl af)),false)) (Hq E E.N a0 a1 a2 r1.1 0 (⟨0,(λ_=>(⟨0,(⟨0,(λ_=>0)⟩:(Sl Int)),(⟨0,(λ_=>0)⟩:(Sl Int))⟩:af))⟩:(Sl af)) k):=dO
theorem zuH(n0:Nat)(a0:au)(a1:bC)(a2:Sl bi)(v10:Sl af)(iG:Int)(w43:Sl af):Hq E (n0+1) a0 a1 a2 v10 iG w43 k=cond (decide (iG<(v10.len:Int))) (aU (decide (0<=iG/\iG<(v10.len:Int))) ((E.c154 (a0,a1,a2,(v10.get iG.toNat))).T λr1=>cond r1 (aU (decide (0<=iG/\iG<(v10.len:Int))) (aU (room (w43.len+1) 56) (Hq E n0 a0 a1 a2 v10 (aO (iG+1)) (⟨(w43.len+1),(jY w43.len w43.get (λ_=>(v10.get iG.toNat)))⟩:(Sl af)) k))) (Hq E n0 a0 a1 a2 v10 (aO (iG+1)) w43 k))) (k (w43,true)):=krY
end
theorem o94 [aH](E:E94)(zyt:Ok aC 153 (ae.un E.zsI))(zyu:Ok aC 154 (ae.un E.c154)):Ok aC 94 (ae.un (F94 E)):=dP ((ay.nil.addF zyt).addF zyu)
structure E97 where
 N:Nat
 zsC:af×(Pt af)->ae Bool
abbrev G97(E:E97):bI:=gq (Tabs.nil.addF 132 (ae.un E.zsC)) []
def A97:dG:=bP aC 97 [] {}
def F97(E:E97):(Sl af)×(dY 132 Unit (Pt af))->ae Int:=ae.ty (aF aC E.N (G97 E) A97 97)
section
variable(E:E97){A:Type}(k:Int->Option A)
def zch(E:E97)(n:Nat)(a0:Sl af)(a1:(dY 132 Unit (Pt af)))(v8:Int){A:Type}(k:Int->Option A):Option A:=gX aC (G97 E) E.N A97 97 [1,0,1,0] [.n n] (gW k) ⟨[(0,eP a0),(1,eP a1),(7,.int (a0.len:Int)),(8,.int v8)],[],[]⟩
theorem e97(a0:Sl af)(a1:(dY 132 Unit (Pt af))):(F97 E (a0,a1)).T k=zch E E.N a0 a1 0 k:=dO
theorem zuI(n0:Nat)(a0:Sl af)(a1:(dY 132 Unit (Pt af)))(v8:Int):zch E (n0+1) a0 a1 v8 k=cond (decide (v8<(a0.len:Int))) (aU (decide (0<=v8/\v8<(a0.len:Int))) ((E.zsC ((a0.get v8.toNat),a1.v)).T λr1=>cond r1 (k v8) (zch E n0 a0 a1 (aO (v8+1)) k))) (k (-1)):=krY
end
theorem o97 [aH](E:E97)(zyv:Ok aC 132 (ae.un E.zsC)):Ok aC 97 (ae.un (F97 E)):=dP (ay.nil.addF zyv)
structure zew where
 N:Nat
 c156:ax->ae Bool
 c157:Int×Int×Int->ae Bool
abbrev zGM(E:zew):bI:=gq ((Tabs.nil.addF 156 (ae.un E.c156)).addF 157 (ae.un E.c157)) []
def zGN:dG:=bP aC 109 [] {}
def zo5(E:zew):(Sl ax)->ae Bool:=ae.ty (aF aC E.N (zGM E) zGN 109)
section
variable(E:zew){A:Type}(k:Bool->Option A)
def Sj(E:zew)(n:Nat)(a0:Sl ax)(v7:Int){A:Type}(k:Bool->Option A):Option A:=gX aC (zGM E) E.N zGN 109 [1,0,1,0] [.n n] (gW k) ⟨[(0,eP a0),(5,eP a0),(6,.int (a0.len:Int)),(7,.int v7)],[],[]⟩
theorem e109(a0:Sl ax):(zo5 E (a0)).T k=Sj E E.N a0 0 k:=dO
theorem ziX(n0:Nat)(a0:Sl ax)(v7:Int):Sj E (n0+1) a0 v7 k=cond (decide (v7<(a0.len:Int))) (aU (decide (0<=v7/\v7<(a0.len:Int))) ((E.c156 (a0.get v7.toNat)).T λr1=>cond (!r1) (k false) (Sj E n0 a0 (aO (v7+1)) k))) ((E.c157 ((a0.len:Int),1,24)).T λr2=>k r2):=krY
end
theorem zRD [aH](E:zew)(zyw:Ok aC 156 (ae.un E.c156))(BD:Ok aC 157 (ae.un E.c157)):Ok aC 109 (ae.un (zo5 E)):=dP ((ay.nil.addF zyw).addF BD)
structure zex where
 N:Nat
 c160:au->ae Bool
 ut:au×bi->ae (placed×Bool)
abbrev zGO(E:zex):bI:=gq ((Tabs.nil.addF 160 (ae.un E.c160)).addF 112 (ae.un E.ut)) []
def zGP:dG:=bP aC 111 [] {}
def zo6(E:zex):au×(Sl bi)->ae Int:=ae.ty (aF aC E.N (zGO E) zGP 111)
section
variable(E:zex){A:Type}(k:Int->Option A)
def Su(E:zex)(n:Nat)(a0:au)(a1:Sl bi)(v17:Int){A:Type}(k:Int->Option A):Option A:=gX aC (zGO E) E.N zGP 111 [1,1,1,0,1,0] [.n n] (gW k) ⟨[(2,.cl (.ptr 2 0)),(15,eP a1),(16,.int (a1.len:Int)),(17,.int v17)],[(2,eB 24 a0)],[]⟩
theorem zRE(a0:au)(a1:Sl bi):(zo6 E (a0,a1)).T k=cond (decide ((a1.len:Int)>2000)) (k 3) ((E.c160 a0).T λr1=>cond (!r1) (k 2) (Su E E.N a0 a1 0 k)):=dO
theorem ziY(n0:Nat)(a0:au)(a1:Sl bi)(v17:Int):Su E (n0+1) a0 a1 v17 k=cond (decide (v17<(a1.len:Int))) (aU (decide (0<=v17/\v17<(a1.len:Int))) ((E.ut (a0,(a1.get v17.toNat))).T λr1=>cond (!r1.2) (k 2) (Su E n0 a0 a1 (aO (v17+1)) k))) (k 0):=krY
end
theorem o111 [aH](E:zex)(Bz:Ok aC 160 (ae.un E.c160))(Ac:Ok aC 112 (ae.un E.ut)):Ok aC 111 (ae.un (zo6 E)):=dP ((ay.nil.addF Bz).addF Ac)
structure zo7 where
 N:Nat
def zo8(E:zo7):placed×bi->ae bZ:=ik E.N Tabs.nil 113
theorem zRF(E:zo7){A:Type}(k:bZ→Option A)(a0:placed)(a1:bi):(zo8 E (a0,a1)).T k=cond (a0.ak.Kind==3) (k a0.ak.Clock) (k (⟨(aO ((aO (a1.Time-a0.ak.Clock.High))-a0.ak.dL)),(aO ((aO (a1.Time-a0.ak.Clock.Low))+a0.ak.dL))⟩:bZ)):=dO
theorem zRG [aH](E:zo7):Ok aC 113 (ae.un (zo8 E)):=dP ay.nil
structure zo9 where
 N:Nat
 c157:Int×Int×Int->ae Bool
 c117:(Sl ax)×((dY 118 Unit Unit) ⊕ (dY 162 Unit (Pt Int)))->ae (set×Int)
 zfO:set×Int->ae (aP×aP)
def zpa(E:zo9):(Sl ax)×Int->ae (aP×aP×Int):=ik E.N (((Tabs.nil.addF 157 (ae.un E.c157)).addF 117 (ae.un E.c117)).addF 163 (ae.un E.zfO)) 114
theorem zRH(E:zo9){A:Type}(k:(aP×aP×Int)→Option A)(a0:Sl ax)(a1:Int):(zpa E (a0,a1)).T k=(E.c157 (a1,(-100000),200000)).T λr1=>cond (!r1) (k ((⟨0,0⟩:aP),(⟨0,0⟩:aP),2)) ((E.c117 (a0,(Sum.inr (⟨(),(⟨a1⟩:(Pt Int))⟩:(dY 162 Unit (Pt Int)))))).T λr2=>cond (r2.2 != 0) (k ((⟨0,0⟩:aP),(⟨0,0⟩:aP),r2.2)) ((E.zfO (r2.1,a1)).T λr3=>k (r3.1,r3.2,0))):=dO
theorem zRI [aH](E:zo9)(BD:Ok aC 157 (ae.un E.c157))(ZG:Ok aC 117 (ae.un E.c117))(zyx:Ok aC 163 (ae.un E.zfO)):Ok aC 114 (ae.un (zpa E)):=dP (((ay.nil.addF BD).addF ZG).addF zyx)
structure ZH where
 N:Nat
 c160:au->ae Bool
 ig:Int×Int×Int->ae Bool
 c164:bZ×Int->ae Bool
 zfR:(Pt placed)->ae (List (Int×bZ))
abbrev zyy(E:ZH):bI:=gq (((((Tabs.nil.addF 160 (ae.un E.c160)).addF 161 (ae.un E.ig)).addF 164 (ae.un E.c164)).addF 165 (aF aC E.N (gq Tabs.nil []) (bP aC 165 [] {}) 165)).addI 204 (ae.unI E.zfR)) []
def zyz:dG:=bP aC 115 [] {cut:=[10]}
def zpb(E:ZH):au×Int×bZ->ae (Bool×Bool×Int):=ae.ty (aF aC E.N (zyy E) zyz 115)
section
variable(E:ZH){A:Type}(k:(Bool×Bool×Int)->Option A)
def um(E:ZH)(l:List (Int×bZ))(a0:au)(a1 pX oP:Int)(sO:Bool)(oQ:Int){A:Type}(k:(Bool×Bool×Int)->Option A):Option A:=gX aC (zyy E) E.N zyz 115 [1,1,1,1,1,1,0,1,0] [.y (l.map dE.enc)] (gW k) ⟨[(9,.cl (.ptr 9 0)),(10,.cl (.ptr 10 0)),(11,.cl (.ptr 11 0)),(12,.cl (.ptr 12 0)),(13,.cl (.ptr 13 0)),(56,.p (.fn 204 [] [.fp [.int .i64 (a0.aj.get a1.toNat).Kind,.int .i64 (a0.aj.get a1.toNat).View,.int .i64 (a0.aj.get a1.toNat).Z,.int .i64 (a0.aj.get a1.toNat).First,.int .i64 (a0.aj.get a1.toNat).aY,.int .i64 (a0.aj.get a1.toNat).bT,.int .i64 (a0.aj.get a1.toNat).dK,.int .i64 (a0.aj.get a1.toNat).bz.Low,.int .i64 (a0.aj.get a1.toNat).bz.High,.int .i64 (a0.aj.get a1.toNat).Clock.Low,.int .i64 (a0.aj.get a1.toNat).Clock.High,.int .i64 (a0.aj.get a1.toNat).dL,.int .i64 (a0.aj.get a1.toNat).Least,.sl (a0.aj.get a1.toNat).aT.len 3 (λi=>bG.enc ((a0.aj.get a1.toNat).aT.get i)),.sl (a0.aj.get a1.toNat).Dead.len 1 (λi=>bG.enc ((a0.aj.get a1.toNat).Dead.get i)),.int .i64 a1] 0]))],[(9,.box 185 [.p (.int .i64 (a0.aj.get a1.toNat).Kind),.p (.int .i64 (a0.aj.get a1.toNat).View),.p (.int .i64 (a0.aj.get a1.toNat).Z),.p (.int .i64 (a0.aj.get a1.toNat).First),.p (.int .i64 (a0.aj.get a1.toNat).aY),.p (.int .i64 (a0.aj.get a1.toNat).bT),.p (.int .i64 (a0.aj.get a1.toNat).dK),.p (.int .i64 (a0.aj.get a1.toNat).bz.Low),.p (.int .i64 (a0.aj.get a1.toNat).bz.High),.p (.int .i64 (a0.aj.get a1.toNat).Clock.Low),.p (.int .i64 (a0.aj.get a1.toNat).Clock.High),.p (.int .i64 (a0.aj.get a1.toNat).dL),.p (.int .i64 (a0.aj.get a1.toNat).Least),.p (.sl (a0.aj.get a1.toNat).aT.len 3 (λi=>bG.enc ((a0.aj.get a1.toNat).aT.get i))),.p (.sl (a0.aj.get a1.toNat).Dead.len 1 (λi=>bG.enc ((a0.aj.get a1.toNat).Dead.get i))),.p (.int .i64 a1)]),(10,eB 3 pX),(11,eB 3 oP),(12,eB 4 sO),(13,eB 3 oQ)],[]⟩
def MB(E:ZH)(l0:List (Int×bZ))(a0:au)(a1 pX oP:Int)(sO:Bool)(oQ:Int)(x15:bZ){A:Type}(k:(Bool×Bool×Int)->Option A):Option A:=gX aC (zyy E) E.N zyz 115 [1,1,1,1,1,1,0,1,0,0,0,1] [.y (l0.map dE.enc)] (gW k) ⟨[(9,.cl (.ptr 9 0)),(10,.cl (.ptr 10 0)),(11,.cl (.ptr 11 0)),(12,.cl (.ptr 12 0)),(13,.cl (.ptr 13 0)),(15,.cl (.ptr 15 0)),(56,.p (.fn 204 [] [.fp [.int .i64 (a0.aj.get a1.toNat).Kind,.int .i64 (a0.aj.get a1.toNat).View,.int .i64 (a0.aj.get a1.toNat).Z,.int .i64 (a0.aj.get a1.toNat).First,.int .i64 (a0.aj.get a1.toNat).aY,.int .i64 (a0.aj.get a1.toNat).bT,.int .i64 (a0.aj.get a1.toNat).dK,.int .i64 (a0.aj.get a1.toNat).bz.Low,.int .i64 (a0.aj.get a1.toNat).bz.High,.int .i64 (a0.aj.get a1.toNat).Clock.Low,.int .i64 (a0.aj.get a1.toNat).Clock.High,.int .i64 (a0.aj.get a1.toNat).dL,.int .i64 (a0.aj.get a1.toNat).Least,.sl (a0.aj.get a1.toNat).aT.len 3 (λi=>bG.enc ((a0.aj.get a1.toNat).aT.get i)),.sl (a0.aj.get a1.toNat).Dead.len 1 (λi=>bG.enc ((a0.aj.get a1.toNat).Dead.get i)),.int .i64 a1] 0]))],[(9,.box 185 [.p (.int .i64 (a0.aj.get a1.toNat).Kind),.p (.int .i64 (a0.aj.get a1.toNat).View),.p (.int .i64 (a0.aj.get a1.toNat).Z),.p (.int .i64 (a0.aj.get a1.toNat).First),.p (.int .i64 (a0.aj.get a1.toNat).aY),.p (.int .i64 (a0.aj.get a1.toNat).bT),.p (.int .i64 (a0.aj.get a1.toNat).dK),.p (.int .i64 (a0.aj.get a1.toNat).bz.Low),.p (.int .i64 (a0.aj.get a1.toNat).bz.High),.p (.int .i64 (a0.aj.get a1.toNat).Clock.Low),.p (.int .i64 (a0.aj.get a1.toNat).Clock.High),.p (.int .i64 (a0.aj.get a1.toNat).dL),.p (.int .i64 (a0.aj.get a1.toNat).Least),.p (.sl (a0.aj.get a1.toNat).aT.len 3 (λi=>bG.enc ((a0.aj.get a1.toNat).aT.get i))),.p (.sl (a0.aj.get a1.toNat).Dead.len 1 (λi=>bG.enc ((a0.aj.get a1.toNat).Dead.get i))),.p (.int .i64 a1)]),(10,eB 3 pX),(11,eB 3 oP),(12,eB 4 sO),(13,eB 3 oQ),(15,eB 105 x15)],[]⟩
theorem e115(a0:au)(a1:Int)(a2:bZ):(zpb E (a0,a1,a2)).T k=(E.c160 a0).T λr1=>cond (!r1) (k (false,false,2)) ((E.ig (a1,0,(aO ((a0.aj.len:Int)-1)))).T λr2=>cond (!r2) (k (false,false,2)) ((E.c164 (a2,1000000)).T λr3=>cond (!r3) (k (false,false,2)) (aU (decide (0<=a1/\a1<(a0.aj.len:Int))) ((E.zfR (⟨(⟨(a0.aj.get a1.toNat),a1⟩:placed)⟩:(Pt placed))).T λr4=>um E r4 a0 a1 (aO (a2.Low-(a0.aj.get a1.toNat).bz.High)) (aO (a2.High-(a0.aj.get a1.toNat).bz.Low)) false (aO (a2.Low-(a0.aj.get a1.toNat).bz.High)) k)))):=dO
theorem zpc(a0:au)(a1 pX oP:Int)(sO:Bool)(oQ:Int):um E [] a0 a1 pX oP sO oQ k=k (decide (oQ>oP),sO,0):=krY
theorem ZI(y:Int×bZ)(l0:List (Int×bZ))(a0:au)(a1 pX oP:Int)(sO:Bool)(oQ:Int):um E (y::l0) a0 a1 pX oP sO oQ k=cond sO (MB E l0 a0 a1 pX oP true oQ y.2 k) (cond (decide ((aO (y.2.Low-(a0.aj.get a1.toNat).dK))<=oP)) (MB E l0 a0 a1 pX oP (decide ((aO (y.2.High+(a0.aj.get a1.toNat).dK))>=pX)) oQ y.2 k) (MB E l0 a0 a1 pX oP false oQ y.2 k)):=krY
theorem zyA(l0:List (Int×bZ))(a0:au)(a1 pX oP:Int)(sO:Bool)(oQ:Int)(x15:bZ):MB E l0 a0 a1 pX oP sO oQ x15 k=cond (decide (x15.Low<=oQ)) (cond (decide (oQ<=x15.High)) (um E l0 a0 a1 pX oP sO (aO (x15.High+1)) k) (um E l0 a0 a1 pX oP sO oQ k)) (um E l0 a0 a1 pX oP sO oQ k):=krY
end
theorem zRJ [aH](E:ZH)(Bz:Ok aC 160 (ae.un E.c160))(lK:Ok aC 161 (ae.un E.ig))(V8:Ok aC 164 (ae.un E.c164))(zRK:zT aC 204 (ae.unI E.zfR)):Ok aC 115 (ae.un (zpb E)):=dP (((((ay.nil.addF Bz).addF lK).addF V8).addF (wF ay.nil (dJ krY))).addI zRK)
structure zpd where
 N:Nat
 TS:Line×Int->ae (Int×Int)
def zpe(E:zpd):Line×ax->ae Bool:=ik E.N (Tabs.nil.addF 166 (ae.un E.TS)) 116
theorem e116(E:zpd){A:Type}(k:Bool→Option A)(a0:Line)(a1:ax):(zpe E (a0,a1)).T k=(E.TS (a0,a1.Z)).T λr1=>cond (decide ((aO (a1.Low*r1.2))<=r1.1)) (k (decide (r1.1<=(aO (a1.High*r1.2))))) (k false):=dO
theorem zRL [aH](E:zpd)(ZJ:Ok aC 166 (ae.un E.TS)):Ok aC 116 (ae.un (zpe E)):=dP (ay.nil.addF ZJ)
structure DF where
 N:Nat
 c109:(Sl ax)->ae Bool
 BR:(Sl ax)->ae set
 c159:set->ae Bool
 c167:list->ae Bool
 zsy:list->ae Bool
def DI(E:DF):(Sl ax)×(dY 118 Unit Unit)->ae (set×Int):=ik E.N (((((Tabs.nil.addF 109 (ae.un E.c109)).addF 158 (ae.un E.BR)).addF 159 (ae.un E.c159)).addF 167 (ae.un E.c167)).addF 118 (ae.un E.zsy)) 117
theorem ziZ(E:DF){A:Type}(k:(set×Int)→Option A)(a0:Sl ax)(a1:(dY 118 Unit Unit)):(DI E (a0,a1)).T k=(E.c109 a0).T λr1=>cond (!r1) (k ((⟨(⟨(⟨0,λ_=>default⟩:(Sl ax))⟩:list),(⟨0,λ_=>default⟩:(Sl straight))⟩:set),2)) ((E.BR a0).T λr2=>(E.c159 r2).T λr3=>cond (!r3) (k ((⟨(⟨(⟨0,λ_=>default⟩:(Sl ax))⟩:list),(⟨0,λ_=>default⟩:(Sl straight))⟩:set),5)) ((E.c167 r2.list).T λr4=>cond r4 ((E.zsy r2.list).T λr5=>cond (!r5) (k ((⟨(⟨(⟨0,λ_=>default⟩:(Sl ax))⟩:list),(⟨0,λ_=>default⟩:(Sl straight))⟩:set),6)) (k (r2,0))) (k (r2,0)))):=dO
theorem zi0 [aH](E:DF)(MC:Ok aC 109 (ae.un E.c109))(MF:Ok aC 158 (ae.un E.BR))(MG:Ok aC 159 (ae.un E.c159))(wL:Ok aC 167 (ae.un E.c167))(zyB:Ok aC 118 (ae.un E.zsy)):Ok aC 117 (ae.un (DI E)):=dP (((((ay.nil.addF MC).addF MF).addF MG).addF wL).addF zyB)
structure DJ where
 N:Nat
 c109:(Sl ax)->ae Bool
 BR:(Sl ax)->ae set
 c159:set->ae Bool
 c167:list->ae Bool
 c162:list×(Pt Int)->ae Bool
def DK(E:DJ):(Sl ax)×(dY 162 Unit (Pt Int))->ae (set×Int):=ik E.N (((((Tabs.nil.addF 109 (ae.un E.c109)).addF 158 (ae.un E.BR)).addF 159 (ae.un E.c159)).addF 167 (ae.un E.c167)).addF 162 (ae.un E.c162)) 117
theorem zi1(E:DJ){A:Type}(k:(set×Int)→Option A)(a0:Sl ax)(a1:(dY 162 Unit (Pt Int))):(DK E (a0,a1)).T k=(E.c109 a0).T λr1=>cond (!r1) (k ((⟨(⟨(⟨0,λ_=>default⟩:(Sl ax))⟩:list),(⟨0,λ_=>default⟩:(Sl straight))⟩:set),2)) ((E.BR a0).T λr2=>(E.c159 r2).T λr3=>cond (!r3) (k ((⟨(⟨(⟨0,λ_=>default⟩:(Sl ax))⟩:list),(⟨0,λ_=>default⟩:(Sl straight))⟩:set),5)) ((E.c167 r2.list).T λr4=>cond r4 ((E.c162 (r2.list,a1.v)).T λr5=>cond (!r5) (k ((⟨(⟨(⟨0,λ_=>default⟩:(Sl ax))⟩:list),(⟨0,λ_=>default⟩:(Sl straight))⟩:set),6)) (k (r2,0))) (k (r2,0)))):=dO
theorem zi2 [aH](E:DJ)(MC:Ok aC 109 (ae.un E.c109))(MF:Ok aC 158 (ae.un E.BR))(MG:Ok aC 159 (ae.un E.c159))(wL:Ok aC 167 (ae.un E.c167))(zyC:Ok aC 162 (ae.un E.c162)):Ok aC 117 (ae.un (DK E)):=dP (((((ay.nil.addF MC).addF MF).addF MG).addF wL).addF zyC)
structure zpf where
 N:Nat
def zpg(E:zpf):list->ae Bool:=ik E.N Tabs.nil 118
theorem e118(E:zpf){A:Type}(k:Bool→Option A)(a0:list):(zpg E (a0)).T k=k false:=dO
theorem zRM [aH](E:zpf):Ok aC 118 (ae.un (zpg E)):=dP ay.nil
structure uT where
 N:Nat
 zsQ:straight×(Pt Int)->ae aP
 c168:(Sl aP)×((dY 169 Unit Unit) ⊕ (dY 171 Unit Unit))->ae aP
 kE:Int×Int->ae aP
abbrev Wl(E:uT):bI:=gq (((Tabs.nil.addF 202 (ae.un E.zsQ)).addF 168 (ae.un E.c168)).addF 172 (ae.un E.kE)) []
def Wn:dG:=bP aC 119 [] {ks:=[(1,3,⟨[],[(6,23,85)],[],[],[],[],[]⟩)]}
def DL(E:uT):set×(dY 202 Unit (Pt Int))->ae (aP×aP):=ae.ty (aF aC E.N (Wl E) Wn 119)
section
variable(E:uT){A:Type}(k:(aP×aP)->Option A)
def wM(E:uT)(n:Nat)(a0:set)(a1:(dY 202 Unit (Pt Int)))(iD:Int)(Sv:Sl aP){A:Type}(k:(aP×aP)->Option A):Option A:=gX aC (Wl E) E.N Wn 119 [1,1,0,1,0] [.n n] (gW k) ⟨[(1,eP a1),(4,.cl (.ptr 4 0)),(5,.cl (.ptr 5 0)),(6,.cl (.vec 23)),(12,eP a0.cZ),(13,.int (a0.cZ.len:Int)),(14,.int iD)],[(4,.box 85 [.p (.int .i64 0),.p (.int .i64 0)]),(5,.box 85 [.p (.int .i64 0),.p (.int .i64 0)]),(23,eV 85 2 16 Sv)],[]⟩
theorem zi3(a0:set)(a1:(dY 202 Unit (Pt Int))):(DL E (a0,a1)).T k=wM E E.N a0 a1 0 (⟨0,(λ_=>(⟨0,0⟩:aP))⟩:(Sl aP)) k:=dO
theorem MH(n0:Nat)(a0:set)(a1:(dY 202 Unit (Pt Int)))(iD:Int)(Sv:Sl aP):wM E (n0+1) a0 a1 iD Sv k=cond (decide (iD<(a0.cZ.len:Int))) (aU (decide (0<=iD/\iD<(a0.cZ.len:Int))) ((E.zsQ ((a0.cZ.get iD.toNat),a1.v)).T λr1=>aU (room (Sv.len+1) 16) (wM E n0 a0 a1 (aO (iD+1)) (⟨(Sv.len+1),(jY Sv.len Sv.get (fun _=>r1))⟩:(Sl aP)) k))) ((E.c168 (Sv,(Sum.inl (⟨(),()⟩:(dY 169 Unit Unit))))).T λr2=>(E.c168 (Sv,(Sum.inr (⟨(),()⟩:(dY 171 Unit Unit))))).T λr3=>(E.kE (r2.Num,r2.bV)).T λr4=>(E.kE (r3.Num,r3.bV)).T λr5=>k (r4,r5)):=krY
end
theorem zi4 [aH](E:uT)(zyD:Ok aC 202 (ae.un E.zsQ))(Sz:Ok aC 168 (ae.un E.c168))(qo:Ok aC 172 (ae.un E.kE)):Ok aC 119 (ae.un (DL E)):=dP (((ay.nil.addF zyD).addF Sz).addF qo)
structure uU where
 N:Nat
 zsz:straight->ae aP
 c168:(Sl aP)×((dY 169 Unit Unit) ⊕ (dY 171 Unit Unit))->ae aP
 kE:Int×Int->ae aP
abbrev Wp(E:uU):bI:=gq (((Tabs.nil.addF 120 (ae.un E.zsz)).addF 168 (ae.un E.c168)).addF 172 (ae.un E.kE)) []
def Wq:dG:=bP aC 119 [] {ks:=[(1,3,⟨[],[(6,23,85)],[],[],[],[],[]⟩)]}
def DN(E:uU):set×(dY 120 Unit Unit)->ae (aP×aP):=ae.ty (aF aC E.N (Wp E) Wq 119)
section
variable(E:uU){A:Type}(k:(aP×aP)->Option A)
def wO(E:uU)(n:Nat)(a0:set)(iD:Int)(Sv:Sl aP){A:Type}(k:(aP×aP)->Option A):Option A:=gX aC (Wp E) E.N Wq 119 [1,1,0,1,0] [.n n] (gW k) ⟨[(1,.p (.fn 120 [] [])),(4,.cl (.ptr 4 0)),(5,.cl (.ptr 5 0)),(6,.cl (.vec 23)),(12,eP a0.cZ),(13,.int (a0.cZ.len:Int)),(14,.int iD)],[(4,.box 85 [.p (.int .i64 0),.p (.int .i64 0)]),(5,.box 85 [.p (.int .i64 0),.p (.int .i64 0)]),(23,eV 85 2 16 Sv)],[]⟩
theorem zi5(a0:set)(a1:(dY 120 Unit Unit)):(DN E (a0,a1)).T k=wO E E.N a0 0 (⟨0,(λ_=>(⟨0,0⟩:aP))⟩:(Sl aP)) k:=dO
theorem MI(n0:Nat)(a0:set)(iD:Int)(Sv:Sl aP):wO E (n0+1) a0 iD Sv k=cond (decide (iD<(a0.cZ.len:Int))) (aU (decide (0<=iD/\iD<(a0.cZ.len:Int))) ((E.zsz (a0.cZ.get iD.toNat)).T λr1=>aU (room (Sv.len+1) 16) (wO E n0 a0 (aO (iD+1)) (⟨(Sv.len+1),(jY Sv.len Sv.get (fun _=>r1))⟩:(Sl aP)) k))) ((E.c168 (Sv,(Sum.inl (⟨(),()⟩:(dY 169 Unit Unit))))).T λr2=>(E.c168 (Sv,(Sum.inr (⟨(),()⟩:(dY 171 Unit Unit))))).T λr3=>(E.kE (r2.Num,r2.bV)).T λr4=>(E.kE (r3.Num,r3.bV)).T λr5=>k (r4,r5)):=krY
end
theorem zi6 [aH](E:uU)(zyE:Ok aC 120 (ae.un E.zsz))(Sz:Ok aC 168 (ae.un E.c168))(qo:Ok aC 172 (ae.un E.kE)):Ok aC 119 (ae.un (DN E)):=dP (((ay.nil.addF zyE).addF Sz).addF qo)
structure zph where
 N:Nat
def zpi(E:zph):straight->ae aP:=ik E.N Tabs.nil 120
theorem e120(E:zph){A:Type}(k:aP→Option A)(a0:straight):(zpi E (a0)).T k=k (⟨a0.bD,a0.den⟩:aP):=dO
theorem zRN [aH](E:zph):Ok aC 120 (ae.un (zpi E)):=dP ay.nil
structure zey where
 N:Nat
abbrev zGQ(E:zey):bI:=gq Tabs.nil []
def zGR:dG:=bP aC 125 [] {}
def zpj(E:zey):Int×Int->ae Int:=ae.ty (aF aC E.N (zGQ E) zGR 125)
section
variable(E:zey){A:Type}(k:Int->Option A)
def SA(E:zey)(n:Nat)(v0 v1:Int){A:Type}(k:Int->Option A):Option A:=gX aC (zGQ E) E.N zGR 125 [1,0,0] [.n n] (gW k) ⟨[(0,.int v0),(1,.int v1)],[],[]⟩
theorem e125(a0 a1:Int):(zpj E (a0,a1)).T k=SA E E.N a0 a1 k:=dO
theorem zyF(n0:Nat)(v0 v1:Int):SA E (n0+1) v0 v1 k=cond (v1 != 0) (aU (decide (v1≠0)) (SA E n0 v1 (v0.tmod v1) k)) (k v0):=krY
end
theorem zRO [aH](E:zey):Ok aC 125 (ae.un (zpj E)):=dP ay.nil
structure zpk where
 N:Nat
 zsK:(Sl Bool)×Bool->ae Int
def zpl(E:zpk):(Sl Bool)×Bool->ae Bool:=ik E.N (Tabs.nil.addF 176 (ae.un E.zsK)) 126
theorem e126(E:zpk){A:Type}(k:Bool→Option A)(a0:Sl Bool)(a1:Bool):(zpl E (a0,a1)).T k=(E.zsK (a0,a1)).T λr1=>k (decide (r1>=0)):=dO
theorem zRP [aH](E:zpk)(zyG:Ok aC 176 (ae.un E.zsK)):Ok aC 126 (ae.un (zpl E)):=dP (ay.nil.addF zyG)
structure zi7 where
 N:Nat
 II:af×Int×Bc 143 (Pt aS)×Bc 38 Int×Bw 30 43 3 56 af×Bs 255 178 2 4×Unit->ae ((Bool×Int)×(Unit×Unit×(Pt aS)×Int×Sl af×Unit×Unit))
abbrev zRQ(E:zi7):bI:=gq (Tabs.nil.addM 178 (ae.unP 254 E.II)) []
def zRR:dG:=bP aC 127 [] {ks:=[(0,3,⟨[],[],[(4,0,5000,43)],[],[],[],[]⟩)],pan:=[4]}
def zpm(E:zi7):(Pt aS)×Int->ae ((Sl af)×Bool):=ae.ty (aD aC (zRQ E) E.N zbY 177 zRR 127)
theorem e127(E:zi7){A:Type}(k:((Sl af)×Bool)→Option A)(a0:Pt aS)(a1:Int):(zpm E (a0,a1)).T k=(E.II ((⟨0,(⟨0,λ_=>default⟩:(Sl Int)),(⟨0,λ_=>default⟩:(Sl Int))⟩:af),0,(⟨a0⟩:Bc 143 (Pt aS)),(⟨a1⟩:Bc 38 Int),(⟨(⟨0,(λ_=>(⟨0,(⟨0,(λ_=>0)⟩:(Sl Int)),(⟨0,(λ_=>0)⟩:(Sl Int))⟩:af))⟩:(Sl af))⟩:Bw 30 43 3 56 af),({}:Bs 255 178 2 4),())).T λr1=>cond r1.1.1 (k ((⟨0,λ_=>default⟩:(Sl af)),false)) (k (r1.2.2.2.2.2.1,true)):=zFV.trans krY
theorem zRS [aH](E:zi7)(zyH:qN aC 178 (ae.unP 254 E.II)):Ok aC 127 (ae.un (zpm E)):=ztT (zik (ay.nil.addM zyH) (dJ krY) zio)
structure uV where
 N:Nat
 zsB:(Pt aS)×af->ae Bool
abbrev Ws(E:uV):bI:=gq (Tabs.nil.addF 129 (ae.un E.zsB)) []
def Wu:dG:=bP aC 128 [] {ks:=[(1,3,⟨[],[(5,20,43)],[],[],[],[],[]⟩)]}
def DR(E:uV):(Sl af)×(dY 129 (Pt aS) Unit)->ae (Sl af×Unit):=ae.tyV (aK aC E.N (Ws E) Wu 128 43 3 56)
section
variable(E:uV){A:Type}(k:(Sl af×Unit)->Option A)
def qZ(E:uV)(n:Nat)(a0:Sl af)(a1:(dY 129 (Pt aS) Unit))(v10:Int)(EO:Sl af){A:Type}(k:(Sl af×Unit)->Option A):Option A:=ptG aC (Ws E) E.N Wu 128 [1,1,0,1,0] [.n n] (Zm 43 3 56) (Zl k) ⟨[(1,.p (.fn 129 [.fp [.sl a1.a.v.au.aj.len 15 (λi=>bG.enc (a1.a.v.au.aj.get i)),.sl a1.a.v.hits.len 6 (λi=>bG.enc (a1.a.v.hits.get i)),.sl a1.a.v.iR.len 1 (λi=>bG.enc (a1.a.v.iR.get i)),.int .i64 a1.a.v.rules.rF,.int .i64 a1.a.v.rules.vM] 0] [])),(5,.cl (.vec 20)),(8,eP a0),(9,.int (a0.len:Int)),(10,.int v10)],[(20,eV 43 3 56 EO)],[]⟩
theorem zi8(a0:Sl af)(a1:(dY 129 (Pt aS) Unit)):(DR E (a0,a1)).T k=qZ E E.N a0 a1 0 (⟨0,(λ_=>(⟨0,(⟨0,(λ_=>0)⟩:(Sl Int)),(⟨0,(λ_=>0)⟩:(Sl Int))⟩:af))⟩:(Sl af)) k:=zia.trans krY
theorem MJ(n0:Nat)(a0:Sl af)(a1:(dY 129 (Pt aS) Unit))(v10:Int)(EO:Sl af):qZ E (n0+1) a0 a1 v10 EO k=cond (decide (v10<(a0.len:Int))) (aU (decide (0<=v10/\v10<(a0.len:Int))) ((E.zsB (a1.a,(a0.get v10.toNat))).T λr1=>cond r1 (aU (room (EO.len+1) 56) (qZ E n0 a0 a1 (aO (v10+1)) (⟨(EO.len+1),(jY EO.len EO.get (λ_=>(a0.get v10.toNat)))⟩:(Sl af)) k)) (qZ E n0 a0 a1 (aO (v10+1)) EO k))) (k (EO,())):=krY
end
theorem zi9 [aH](E:uV)(zyI:Ok aC 129 (ae.un E.zsB)):fU aC 128 (.mkv 43 3 56 (ae.unV (DR E))):=Zk (RG (ay.nil.addF zyI) (dJ krY))
structure uX where
 N:Nat
 c130:af×(Pt (Pt found))->ae Bool
abbrev Wv(E:uX):bI:=gq (Tabs.nil.addF 130 (ae.un E.c130)) []
def Wx:dG:=bP aC 128 [] {ks:=[(1,3,⟨[],[(5,20,43)],[],[],[],[],[]⟩)]}
def DT(E:uX):(Sl af)×(dY 130 Unit (Pt (Pt found)))->ae (Sl af×Unit):=ae.tyV (aK aC E.N (Wv E) Wx 128 43 3 56)
section
variable(E:uX){A:Type}(k:(Sl af×Unit)->Option A)
def rq(E:uX)(n:Nat)(a0:Sl af)(a1:(dY 130 Unit (Pt (Pt found))))(v10:Int)(EO:Sl af){A:Type}(k:(Sl af×Unit)->Option A):Option A:=ptG aC (Wv E) E.N Wx 128 [1,1,0,1,0] [.n n] (Zm 43 3 56) (Zl k) ⟨[(1,eP a1),(5,.cl (.vec 20)),(8,eP a0),(9,.int (a0.len:Int)),(10,.int v10)],[(20,eV 43 3 56 EO)],[]⟩
theorem zja(a0:Sl af)(a1:(dY 130 Unit (Pt (Pt found)))):(DT E (a0,a1)).T k=rq E E.N a0 a1 0 (⟨0,(λ_=>(⟨0,(⟨0,(λ_=>0)⟩:(Sl Int)),(⟨0,(λ_=>0)⟩:(Sl Int))⟩:af))⟩:(Sl af)) k:=zia.trans krY
theorem ML(n0:Nat)(a0:Sl af)(a1:(dY 130 Unit (Pt (Pt found))))(v10:Int)(EO:Sl af):rq E (n0+1) a0 a1 v10 EO k=cond (decide (v10<(a0.len:Int))) (aU (decide (0<=v10/\v10<(a0.len:Int))) ((E.c130 ((a0.get v10.toNat),a1.v)).T λr1=>cond r1 (aU (room (EO.len+1) 56) (rq E n0 a0 a1 (aO (v10+1)) (⟨(EO.len+1),(jY EO.len EO.get (λ_=>(a0.get v10.toNat)))⟩:(Sl af)) k)) (rq E n0 a0 a1 (aO (v10+1)) EO k))) (k (EO,())):=krY
end
theorem zjb [aH](E:uX)(zyJ:Ok aC 130 (ae.un E.c130)):fU aC 128 (.mkv 43 3 56 (ae.unV (DT E))):=Zk (RG (ay.nil.addF zyJ) (dJ krY))
structure zpn where
 N:Nat
 c141:(Pt aS)×af->ae ((Sl Int))
def zpo(E:zpn):(Pt aS)×af->ae Bool:=ik E.N (Tabs.nil.addF 141 (ae.un E.c141)) 129
theorem e129(E:zpn){A:Type}(k:Bool→Option A)(a0:Pt aS)(a1:af):(zpo E (a0,a1)).T k=cond (decide ((a1.Hits.len:Int)>=a0.v.rules.rF)) ((E.c141 (a0,a1)).T λr1=>k (decide ((r1.len:Int)≤a0.v.rules.vM))) (k false):=dO
theorem zRT [aH](E:zpn)(ZK:Ok aC 141 (ae.un E.c141)):Ok aC 129 (ae.un (zpo E)):=dP (ay.nil.addF ZK)
structure zpp where
 N:Nat
 c131:(Sl af)×(dY 132 Unit (Pt af))->ae Bool
def zpq(E:zpp):af×(Pt (Pt found))->ae Bool:=ik E.N (Tabs.nil.addF 131 (ae.un E.c131)) 130
theorem zRU(E:zpp){A:Type}(k:Bool→Option A)(a0:af)(a1:(Pt (Pt found))):(zpq E (a0,a1)).T k=(E.c131 (a1.v.v.fits,(⟨(),(⟨a0⟩:(Pt af))⟩:(dY 132 Unit (Pt af))))).T λr1=>k (!r1):=dO
theorem zRV [aH](E:zpp)(zyK:Ok aC 131 (ae.un E.c131)):Ok aC 130 (ae.un (zpq E)):=dP (ay.nil.addF zyK)
structure zpr where
 N:Nat
 c97:(Sl af)×(dY 132 Unit (Pt af))->ae Int
def zps(E:zpr):(Sl af)×(dY 132 Unit (Pt af))->ae Bool:=ik E.N (Tabs.nil.addF 97 (ae.un E.c97)) 131
theorem zRW(E:zpr){A:Type}(k:Bool→Option A)(a0:Sl af)(a1:(dY 132 Unit (Pt af))):(zps E (a0,a1)).T k=(E.c97 (a0,a1)).T λr1=>k (decide (r1>=0)):=dO
theorem zRX [aH](E:zpr)(h97:Ok aC 97 (ae.un E.c97)):Ok aC 131 (ae.un (zps E)):=dP (ay.nil.addF h97)
structure zpt where
 N:Nat
 c92:af×af->ae Bool
def zpu(E:zpt):af×(Pt af)->ae Bool:=ik E.N (Tabs.nil.addF 92 (ae.un E.c92)) 132
theorem zRY(E:zpt){A:Type}(k:Bool→Option A)(a0:af)(a1:Pt af):(zpu E (a0,a1)).T k=cond (decide ((a0.Hits.len:Int)>(a1.v.Hits.len:Int))) ((E.c92 (a0,a1.v)).T λr1=>k r1) (k false):=dO
theorem zRZ [aH](E:zpt)(h92:Ok aC 92 (ae.un E.c92)):Ok aC 132 (ae.un (zpu E)):=dP (ay.nil.addF h92)
structure zpv where
 N:Nat
 zsM:Int×Int->ae Int
 zlH:(Sl Int)×(Sl Int)->ae Int
 zsL:(Sl Int)->ae Int
def zpw(E:zpv):af×af->ae Int:=ik E.N (((Tabs.nil.addF 186 (ae.un E.zsM)).addF 187 (ae.un E.zlH)).addF 185 (ae.un E.zsL)) 134
theorem zR0(E:zpv){A:Type}(k:Int→Option A)(a0 a1:af):(zpw E (a0,a1)).T k=(E.zsM (a0.View,a1.View)).T λr1=>(E.zlH (a0.Hits,a1.Hits)).T λr2=>(E.zlH (a0.aV,a1.aV)).T λr3=>(E.zsL (⟨3,(kL [r1,r2,r3])⟩:(Sl Int))).T λr4=>k r4:=dO
theorem zR1 [aH](E:zpv)(zyM:Ok aC 186 (ae.un E.zsM))(zpx:Ok aC 187 (ae.un E.zlH))(zyN:Ok aC 185 (ae.un E.zsL)):Ok aC 134 (ae.un (zpw E)):=dP (((ay.nil.addF zyM).addF zpx).addF zyN)
structure zpy where
 N:Nat
def zpz(E:zpy):ak×Int->ae (Int×Int):=ik E.N Tabs.nil 136
theorem zR2(E:zpy){A:Type}(k:(Int×Int)→Option A)(a0:ak)(a1:Int):(zpz E (a0,a1)).T k=cond (a0.Kind==2) (k ((aO ((aO (a0.First+(aO (a1*a0.aY))))-(aO (a0.aY.tdiv 2)))),(aO ((aO ((aO ((aO (a0.First+(aO (a1*a0.aY))))-(aO (a0.aY.tdiv 2))))+a0.aY))-1)))) (k ((aO ((aO (a0.First+(aO (a1*a0.aY))))-0)),(aO ((aO ((aO ((aO (a0.First+(aO (a1*a0.aY))))-0))+a0.aY))-1)))):=dO
theorem zR3 [aH](E:zpy):Ok aC 136 (ae.un (zpz E)):=dP ay.nil
structure zez where
 N:Nat
 c105:(Pt aS)×af->ae ((Sl ax))
 NL:(Sl Int)×((dY 180 Unit ((Pt (Pt aS))×(Pt Int))) ⊕ (dY 190 Unit ((Pt (Pt aS))×(Pt Int))))->ae Bool
 OE:(Sl ax)×Int->ae (aP×aP×Int)
 OI:aP->ae Int
 zsO:aP->ae Int
 OG:au×Int×bZ->ae (Bool×Bool×Int)
abbrev zGS(E:zez):bI:=gq (((((((Tabs.nil.addN [190]).addF 105 (ae.un E.c105)).addF 179 (ae.un E.NL)).addF 114 (ae.un E.OE)).addF 191 (ae.un E.OI)).addF 192 (ae.un E.zsO)).addF 115 (ae.un E.OG)) []
def zGT:dG:=bP aC 141 [] {ks:=[(1,4,⟨[],[(5,83,3)],[],[],[],[],[]⟩)],clo:=[190]}
def zpA(E:zez):(Pt aS)×af->ae ((Sl Int)):=ae.ty (aF aC E.N (zGS E) zGT 141)
section
variable(E:zez){A:Type}(k:(Sl Int)->Option A)
def mJ(E:zez)(n:Nat)(a0:Pt aS)(a1:af)(v6:Sl ax)(v26:Int)(ZL:Sl Int){A:Type}(k:(Sl Int)->Option A):Option A:=gX aC (zGS E) E.N zGT 141 [1,1,1,0,1,0] [.n n] (gW k) ⟨[(2,.cl (.ptr 2 0)),(3,.cl (.ptr 3 0)),(5,.cl (.vec 83)),(6,eP v6),(24,eP a0.v.au.aj),(25,.int (a0.v.au.aj.len:Int)),(26,.int v26)],[(2,eB 143 a0),(3,eB 43 a1),(83,eV 3 1 8 ZL)],[]⟩
theorem zR4(a0:Pt aS)(a1:af):(zpA E (a0,a1)).T k=(E.c105 (a0,a1)).T λr1=>mJ E E.N a0 a1 r1 0 (⟨0,(λ_=>0)⟩:(Sl Int)) k:=dO
theorem zjc(n0:Nat)(a0:Pt aS)(a1:af)(v6:Sl ax)(v26:Int)(ZL:Sl Int):mJ E (n0+1) a0 a1 v6 v26 ZL k=cond (decide (v26<(a0.v.au.aj.len:Int))) (aU (decide (0<=v26/\v26<(a0.v.au.aj.len:Int))) (cond ((a0.v.au.aj.get v26.toNat).View != a1.View) (mJ E n0 a0 a1 v6 (aO (v26+1)) ZL k) ((E.NL (a1.Hits,(Sum.inr (⟨(),((⟨a0⟩:(Pt (Pt aS))),(⟨v26⟩:(Pt Int)))⟩:(dY 190 Unit ((Pt (Pt aS))×(Pt Int))))))).T λr1=>cond r1 (mJ E n0 a0 a1 v6 (aO (v26+1)) ZL k) ((E.OE (v6,(a0.v.au.aj.get v26.toNat).Z)).T λr2=>cond (r2.2.2 != 0) (mJ E n0 a0 a1 v6 (aO (v26+1)) ZL k) ((E.OI r2.1).T λr3=>(E.zsO r2.2.1).T λr4=>cond (decide (r3<(-1000000))) (mJ E n0 a0 a1 v6 (aO (v26+1)) ZL k) (cond (decide (r4>1000000)) (mJ E n0 a0 a1 v6 (aO (v26+1)) ZL k) ((E.OG (a0.v.au,v26,(⟨r3,r4⟩:bZ))).T λr5=>cond (r5.2.2==0) (cond r5.1 (aU (room (ZL.len+1) 8) (mJ E n0 a0 a1 v6 (aO (v26+1)) (⟨(ZL.len+1),(jY ZL.len ZL.get (λ_=>v26))⟩:(Sl Int)) k)) (mJ E n0 a0 a1 v6 (aO (v26+1)) ZL k)) (mJ E n0 a0 a1 v6 (aO (v26+1)) ZL k)))))))) (k ZL):=krY
end
theorem zR5 [aH](E:zez)(Bv:Ok aC 105 (ae.un E.c105))(ZM:Ok aC 179 (ae.un E.NL))(ZN:Ok aC 114 (ae.un E.OE))(ZO:Ok aC 191 (ae.un E.OI))(zyO:Ok aC 192 (ae.un E.zsO))(ZP:Ok aC 115 (ae.un E.OG)):Ok aC 141 (ae.un (zpA E)):=dP (((((((ay.nil.addN).addF Bv).addF ZM).addF ZN).addF ZO).addF zyO).addF ZP)
structure zpB where
 N:Nat
 c38:(Sl Int)×(Sl Int)->ae Int
def zpC(E:zpB):af×af->ae Bool:=ik E.N (Tabs.nil.addF 38 (ae.un E.c38)) 144
theorem zR6(E:zpB){A:Type}(k:Bool→Option A)(a0 a1:af):(zpC E (a0,a1)).T k=cond (a0.View != a1.View) (k (decide (a0.View<a1.View))) ((E.c38 (a0.Hits,a1.Hits)).T λr1=>cond (r1 != 0) (k (decide (r1<0))) ((E.c38 (a0.aV,a1.aV)).T λr2=>k (decide (r2<0)))):=dO
theorem zR7 [aH](E:zpB)(h38:Ok aC 38 (ae.un E.c38)):Ok aC 144 (ae.un (zpC E)):=dP (ay.nil.addF h38)
structure zpD where
 N:Nat
 EE:(Sl ax)->ae Bool
 c193:(Sl ax)->ae (Int×Int×Bool)
 c194:(Sl ax)->ae ((Sl Line))
def zpE(E:zpD):(Sl ax)->ae Bool:=ik E.N (((Tabs.nil.addF 149 (ae.un E.EE)).addF 193 (ae.un E.c193)).addF 194 (ae.un E.c194)) 145
theorem zR8(E:zpD){A:Type}(k:Bool→Option A)(a0:Sl ax):(zpE E (a0)).T k=(E.EE a0).T λr1=>cond r1 ((E.c193 a0).T λr2=>k r2.2.2) ((E.c194 a0).T λr3=>k (decide ((r3.len:Int)>0))):=dO
theorem zR9 [aH](E:zpD)(Iy:Ok aC 149 (ae.un E.EE))(ZQ:Ok aC 193 (ae.un E.c193))(ZR:Ok aC 194 (ae.un E.c194)):Ok aC 145 (ae.un (zpE E)):=dP (((ay.nil.addF Iy).addF ZQ).addF ZR)
structure zeA where
 N:Nat
 c74:au×bi->ae bZ
abbrev zGU(E:zeA):bI:=gq (Tabs.nil.addF 74 (ae.un E.c74)) []
def zGV:dG:=bP aC 147 [] {}
def zpF(E:zeA):au×(Sl bi)->ae (bZ×Bool):=ae.ty (aF aC E.N (zGU E) zGV 147)
section
variable(E:zeA){A:Type}(k:(bZ×Bool)->Option A)
def SB(E:zeA)(n:Nat)(a0:au)(a1:Sl bi)(v7:Int)(x6:bZ){A:Type}(k:(bZ×Bool)->Option A):Option A:=gX aC (zGU E) E.N zGV 147 [1,1,0,1,0] [.n n] (gW k) ⟨[(1,eP a1),(2,.cl (.ptr 2 0)),(4,.cl (.ptr 4 0)),(6,.cl (.ptr 6 0)),(7,.int v7)],[(2,eB 24 a0),(4,.box 105 [.p (.int .i64 0),.p (.int .i64 0)]),(6,eB 105 x6)],[]⟩
theorem zSa(a0:au)(a1:Sl bi):(zpF E (a0,a1)).T k=aU (decide ((0:Int)<=0/\0<(a1.len:Int))) ((E.c74 (a0,(a1.get 0))).T λr1=>SB E E.N a0 a1 1 r1 k):=dO
theorem zjd(n0:Nat)(a0:au)(a1:Sl bi)(v7:Int)(x6:bZ):SB E (n0+1) a0 a1 v7 x6 k=cond (decide (v7<(a1.len:Int))) (aU (decide (0<=v7/\v7<(a1.len:Int))) ((E.c74 (a0,(a1.get v7.toNat))).T λr1=>SB E n0 a0 a1 (aO (v7+1)) (⟨(if r1.Low>x6.Low then r1.Low else x6.Low),(if r1.High<x6.High then r1.High else x6.High)⟩:bZ) k)) (k (x6,decide (x6.Low<=x6.High))):=krY
end
theorem zSb [aH](E:zeA)(h74:Ok aC 74 (ae.un E.c74)):Ok aC 147 (ae.un (zpF E)):=dP (ay.nil.addF h74)
structure zeB where
 N:Nat
abbrev zGW(E:zeB):bI:=gq Tabs.nil []
def zGX:dG:=bP aC 148 [] {ks:=[(1,3,⟨[],[(5,22,92)],[],[],[],[],[]⟩)]}
def zpG(E:zeB):(Sl bi)×(Sl Int)->ae ((Sl bi)):=ae.ty (aF aC E.N (zGW E) zGX 148)
section
variable(E:zeB){A:Type}(k:(Sl bi)->Option A)
def SC(E:zeB)(n:Nat)(a0:Sl bi)(a1:Sl Int)(v6:Int)(Uk:Sl bi){A:Type}(k:(Sl bi)->Option A):Option A:=gX aC (zGW E) E.N zGX 148 [1,1,0,1,0] [.n n] (gW k) ⟨[(0,eP a0),(1,eP a1),(5,.cl (.vec 22)),(6,.int v6)],[(22,eV 92 6 48 Uk)],[]⟩
theorem zSc(a0:Sl bi)(a1:Sl Int):(zpG E (a0,a1)).T k=SC E E.N a0 a1 0 (⟨0,(λ_=>(⟨0,0,0,0,0,0⟩:bi))⟩:(Sl bi)) k:=dO
theorem zje(n0:Nat)(a0:Sl bi)(a1:Sl Int)(v6:Int)(Uk:Sl bi):SC E (n0+1) a0 a1 v6 Uk k=cond (decide (v6<(a1.len:Int))) (aU (decide (0<=v6/\v6<(a1.len:Int))) (aU (decide (0<=a1.get v6.toNat/\a1.get v6.toNat<(a0.len:Int))) (aU (room (Uk.len+1) 48) (SC E n0 a0 a1 (aO (v6+1)) (⟨(Uk.len+1),(jY Uk.len Uk.get (λ_=>(a0.get (a1.get v6.toNat).toNat)))⟩:(Sl bi)) k)))) (k Uk):=krY
end
theorem zSd [aH](E:zeB):Ok aC 148 (ae.un (zpG E)):=dP ay.nil
structure zeC where
 N:Nat
abbrev zGY(E:zeC):bI:=gq Tabs.nil []
def zGZ:dG:=bP aC 149 [] {}
def zpH(E:zeC):(Sl ax)->ae Bool:=ae.ty (aF aC E.N (zGY E) zGZ 149)
section
variable(E:zeC){A:Type}(k:Bool->Option A)
def BF(E:zeC)(n:Nat)(a0:Sl ax)(v3:Int){A:Type}(k:Bool->Option A):Option A:=gX aC (zGY E) E.N zGZ 149 [1,0,1,0] [.n n] (gW k) ⟨[(0,eP a0),(3,.int v3)],[],[]⟩
theorem zSe(a0:Sl ax):(zpH E (a0)).T k=BF E E.N a0 1 k:=dO
theorem zjf(n0:Nat)(a0:Sl ax)(v3:Int):BF E (n0+1) a0 v3 k=cond (decide (v3<(a0.len:Int))) (aU (decide (0<=v3/\v3<(a0.len:Int))) (aU (decide ((0:Int)<=0/\0<(a0.len:Int))) (cond ((a0.get v3.toNat).Z != (a0.get 0).Z) (k false) (BF E n0 a0 (aO (v3+1)) k)))) (k true):=krY
end
theorem zSf [aH](E:zeC):Ok aC 149 (ae.un (zpH E)):=dP ay.nil
structure ZT where
 N:Nat
 EE:(Sl ax)->ae Bool
 c193:(Sl ax)->ae (Int×Int×Bool)
 Ul:Int×Int->ae aP
 c194:(Sl ax)->ae ((Sl Line))
 c76:Line×Int->ae aP
 c56:aP×aP->ae Bool
abbrev zyP(E:ZT):bI:=gq ((((((Tabs.nil.addF 149 (ae.un E.EE)).addF 193 (ae.un E.c193)).addF 71 (ae.un E.Ul)).addF 194 (ae.un E.c194)).addF 76 (ae.un E.c76)).addF 56 (ae.un E.c56)) []
def zyQ:dG:=bP aC 150 [] {cut:=[12]}
def zpI(E:ZT):(Sl ax)×Int->ae (aP×aP):=ae.ty (aF aC E.N (zyP E) zyQ 150)
section
variable(E:ZT){A:Type}(k:(aP×aP)->Option A)
def BG(E:ZT)(n:Nat)(a1:Int)(v9:Sl Line)(v12:Int)(x10 pK:aP){A:Type}(k:(aP×aP)->Option A):Option A:=gX aC (zyP E) E.N zyQ 150 [1,1,1,1,0,1,0] [.n n] (gW k) ⟨[(1,.int a1),(4,.cl (.ptr 4 0)),(5,.cl (.ptr 5 0)),(9,eP v9),(10,.cl (.ptr 10 0)),(11,.cl (.ptr 11 0)),(12,.int v12)],[(4,.box 85 [.p (.int .i64 0),.p (.int .i64 0)]),(5,.box 85 [.p (.int .i64 0),.p (.int .i64 0)]),(10,eB 85 x10),(11,eB 85 pK)],[]⟩
def ZU(E:ZT)(n0:Nat)(a1:Int)(v9:Sl Line)(v12:Int)(x10 pK x13:aP){A:Type}(k:(aP×aP)->Option A):Option A:=gX aC (zyP E) E.N zyQ 150 [1,1,1,1,0,1,0,0,1,0,0,1,1] [.n n0] (gW k) ⟨[(1,.int a1),(4,.cl (.ptr 4 0)),(5,.cl (.ptr 5 0)),(9,eP v9),(10,.cl (.ptr 10 0)),(11,.cl (.ptr 11 0)),(12,.int v12),(13,.cl (.ptr 13 0))],[(4,.box 85 [.p (.int .i64 0),.p (.int .i64 0)]),(5,.box 85 [.p (.int .i64 0),.p (.int .i64 0)]),(10,eB 85 x10),(11,eB 85 pK),(13,eB 85 x13)],[]⟩
theorem zG1(a0:Sl ax)(a1:Int):(zpI E (a0,a1)).T k=(E.EE a0).T λr1=>cond r1 ((E.c193 a0).T λr2=>(E.Ul (r2.1,1)).T λr3=>(E.Ul (r2.2.1,1)).T λr4=>k (r3,r4)) ((E.c194 a0).T λr5=>aU (decide ((0:Int)<=0/\0<(r5.len:Int))) ((E.c76 ((r5.get 0),a1)).T λr6=>aU (decide ((0:Int)<=0/\0<(r5.len:Int))) ((E.c76 ((r5.get 0),a1)).T λr7=>BG E E.N a1 r5 1 r6 r7 k))):=dO
theorem zjg(n0:Nat)(a1:Int)(v9:Sl Line)(v12:Int)(x10 pK:aP):BG E (n0+1) a1 v9 v12 x10 pK k=cond (decide (v12<(v9.len:Int))) (aU (decide (0<=v12/\v12<(v9.len:Int))) ((E.c76 ((v9.get v12.toNat),a1)).T λr1=>(E.c56 (r1,x10)).T λr2=>cond r2 (ZU E n0 a1 v9 v12 r1 pK r1 k) (ZU E n0 a1 v9 v12 x10 pK r1 k))) (k (x10,pK)):=krY
theorem zyR(n0:Nat)(a1:Int)(v9:Sl Line)(v12:Int)(x10 pK x13:aP):ZU E n0 a1 v9 v12 x10 pK x13 k=(E.c56 (pK,x13)).T λr1=>cond r1 (BG E n0 a1 v9 (aO (v12+1)) x10 x13 k) (BG E n0 a1 v9 (aO (v12+1)) x10 pK k):=krY
end
theorem zSg [aH](E:ZT)(Iy:Ok aC 149 (ae.un E.EE))(ZQ:Ok aC 193 (ae.un E.c193))(ZE:Ok aC 71 (ae.un E.Ul))(ZR:Ok aC 194 (ae.un E.c194))(h76:Ok aC 76 (ae.un E.c76))(h56:Ok aC 56 (ae.un E.c56)):Ok aC 150 (ae.un (zpI E)):=dP ((((((ay.nil.addF Iy).addF ZQ).addF ZE).addF ZR).addF h76).addF h56)
structure zpK where
 N:Nat
def zpL(E:zpK):aP->ae Int:=ik E.N Tabs.nil 151
theorem zSi(E:zpK){A:Type}(k:Int→Option A)(a0:aP):(zpL E (a0)).T k=aU (decide (a0.bV≠0)) (cond (decide ((aO ((aO (a0.Num.tdiv a0.bV))*a0.bV))>a0.Num)) (k (aO ((aO (a0.Num.tdiv a0.bV))-1))) (k (aO (a0.Num.tdiv a0.bV)))):=dO
theorem zSj [aH](E:zpK):Ok aC 151 (ae.un (zpL E)):=dP ay.nil
structure zeD where
 N:Nat
abbrev zG2(E:zeD):bI:=gq Tabs.nil []
def zG3:dG:=bP aC 152 [] {}
def zpM(E:zeD):(Sl Int)×Int->ae Int:=ae.ty (aF aC E.N (zG2 E) zG3 152)
section
variable(E:zeD){A:Type}(k:Int->Option A)
def SE(E:zeD)(n:Nat)(a0:Sl Int)(a1 v8:Int){A:Type}(k:Int->Option A):Option A:=gX aC (zG2 E) E.N zG3 152 [1,0,1,0] [.n n] (gW k) ⟨[(0,eP a0),(1,.int a1),(7,.int (a0.len:Int)),(8,.int v8)],[],[]⟩
theorem e152(a0:Sl Int)(a1:Int):(zpM E (a0,a1)).T k=SE E E.N a0 a1 0 k:=dO
theorem zjh(n0:Nat)(a0:Sl Int)(a1 v8:Int):SE E (n0+1) a0 a1 v8 k=cond (decide (v8<(a0.len:Int))) (aU (decide (0<=v8/\v8<(a0.len:Int))) (cond (a1==a0.get v8.toNat) (k v8) (SE E n0 a0 a1 (aO (v8+1)) k))) (k (-1)):=krY
end
theorem zSk [aH](E:zeD):Ok aC 152 (ae.un (zpM E)):=dP ay.nil
structure zpN where
 N:Nat
 NP:(au×(Sl bi)×af×Int)×Sl af->ae (Sl af)
def zpO(E:zpN):au×(Sl bi)×Int->ae ((Sl af)×Bool):=ik E.N (Tabs.nil.addO 195 (.grow 43 3 56 (ae.unW E.NP))) 153
theorem e153(E:zpN){A:Type}(k:((Sl af)×Bool)→Option A)(a0:au)(a1:Sl bi)(a2:Int):(zpO E (a0,a1,a2)).T k=(E.NP ((a0,a1,(⟨a2,(⟨0,λ_=>default⟩:(Sl Int)),(⟨0,λ_=>default⟩:(Sl Int))⟩:af),0),(⟨0,(λ_=>(⟨0,(⟨0,λ_=>default⟩:(Sl Int)),(⟨0,λ_=>default⟩:(Sl Int))⟩:af))⟩:(Sl af)))).T λr1=>k (r1,decide ((r1.len:Int)<=2000)):=dO
theorem zSl [aH](E:zpN)(zyS:fU aC 195 (.grow 43 3 56 (ae.unW E.NP))):Ok aC 153 (ae.un (zpO E)):=dP (ay.nil.addO zyS)
structure zpP where
 N:Nat
 c196:au×(Sl bi)×af->ae Bool
 c91:au×(Sl bi)×af->ae ((Sl Int))
def zpQ(E:zpP):au×bC×(Sl bi)×af->ae Bool:=ik E.N ((Tabs.nil.addF 196 (ae.un E.c196)).addF 91 (ae.un E.c91)) 154
theorem e154(E:zpP){A:Type}(k:Bool→Option A)(a0:au)(a1:bC)(a2:Sl bi)(a3:af):(zpQ E (a0,a1,a2,a3)).T k=(E.c196 (a0,a2,a3)).T λr1=>cond r1 (cond (decide ((a3.Hits.len:Int)>=a1.rF)) ((E.c91 (a0,a2,a3)).T λr2=>k (decide ((r2.len:Int)<=a1.vM))) (k false)) (k false):=dO
theorem zSm [aH](E:zpP)(ZV:Ok aC 196 (ae.un E.c196))(h91:Ok aC 91 (ae.un E.c91)):Ok aC 154 (ae.un (zpQ E)):=dP ((ay.nil.addF ZV).addF h91)
structure zpR where
 N:Nat
 c157:Int×Int×Int->ae Bool
def zpS(E:zpR):ax->ae Bool:=ik E.N (Tabs.nil.addF 157 (ae.un E.c157)) 156
theorem zSo(E:zpR){A:Type}(k:Bool→Option A)(a0:ax):(zpS E (a0)).T k=(E.c157 (a0.Z,0,100000)).T λr1=>cond r1 (cond (decide (a0.Low>=(-1000000))) (cond (decide (a0.Low<=a0.High)) (k (decide (a0.High<=1000000))) (k false)) (k false)) (k false):=dO
theorem zSp [aH](E:zpR)(BD:Ok aC 157 (ae.un E.c157)):Ok aC 156 (ae.un (zpS E)):=dP (ay.nil.addF BD)
structure zpT where
 N:Nat
def zpU(E:zpT):Int×Int×Int->ae Bool:=ik E.N Tabs.nil 157
theorem zSq(E:zpT){A:Type}(k:Bool→Option A)(a0 a1 a2:Int):(zpU E (a0,a1,a2)).T k=cond (decide (a0>=a1)) (k (decide (a0<=a2))) (k false):=dO
theorem zSr [aH](E:zpT):Ok aC 157 (ae.un (zpU E)):=dP ay.nil
structure zeE where
 N:Nat
 c167:list->ae Bool
 c198:straight->ae Line
 zsP:set×straight->ae Bool
 i228:(Pt list)->ae (List (straight))
abbrev zG4(E:zeE):bI:=gq (((((Tabs.nil.addF 167 (ae.un E.c167)).addF 198 (ae.un E.c198)).addF 199 (ae.un E.zsP)).addF 197 (aF aC E.N (gq Tabs.nil []) (bP aC 197 [] {}) 197)).addI 228 (ae.unI E.i228)) [14]
def zG5:dG:=bP aC 158 [] {ks:=[(1,6,⟨[],[],[(3,1,36,204)],[],[],[],[]⟩)]}
def zpV(E:zeE):(Sl ax)->ae set:=ae.ty (aF aC E.N (zG4 E) zG5 158)
section
variable(E:zeE){A:Type}(k:set->Option A)
def pz(E:zeE)(l:List (straight))(a0:Sl ax)(w36:Sl straight)(Wy:Nat)(Ot:List Int->Option (List Int)){A:Type}(k:set->Option A):Option A:=gX aC (zG4 E) E.N zG5 158 [1,1,1,1,0,1,0] [.y (l.map dE.enc)] (gW k) ⟨[(2,.cl (.ptr 2 0)),(3,.cl (.ptr 3 0)),(4,.cl (.ptr 4 0)),(17,.p (.fn 228 [] [.fp [.sl a0.len 3 (λi=>bG.enc (a0.get i))] 0]))],[(2,.box 197 [.p (.nils),.p (.nils)]),(3,.box 197 [.p (.sl a0.len 3 (λi=>bG.enc (a0.get i))),.vec 36]),(4,.box 271 [.mo 14]),(36,eV 204 3 24 w36),(14,.mo 114 4 (.ints,4,false,[none]) Wy Ot)],[]⟩
theorem zSs(a0:Sl ax):(zpV E (a0)).T k=(E.c167 (⟨a0⟩:list)).T λr1=>cond r1 (k (⟨(⟨a0⟩:list),(⟨0,λ_=>default⟩:(Sl straight))⟩:set)) ((E.i228 (⟨(⟨a0⟩:list)⟩:(Pt list))).T λr2=>pz E r2 a0 (⟨0,(λ_=>(⟨0,0,0⟩:straight))⟩:(Sl straight)) 0 (λ_=>none) k):=dO
theorem zpW(a0:Sl ax)(w36:Sl straight)(Wy:Nat)(Ot:List Int→Option (List Int)):pz E [] a0 w36 Wy Ot k=k (⟨(⟨a0⟩:list),w36⟩:set):=krY
theorem zyT(y:straight)(l0:List (straight))(a0:Sl ax)(w36:Sl straight)(Wy:Nat)(Ot:List Int→Option (List Int)):pz E (y::l0) a0 w36 Wy Ot k=(E.c198 y).T λr1=>cond (!(xX (Ot [r1.dX.Num,r1.dX.bV,r1.Start.Num,r1.Start.bV]) 0 != 0)) ((E.zsP ((⟨(⟨a0⟩:list),w36⟩:set),y)).T λr2=>cond r2 (aU (room (w36.len+1) 24) (pz E l0 a0 (⟨(w36.len+1),(jY w36.len w36.get (λ_=>y))⟩:(Sl straight)) (addN (Ot [r1.dX.Num,r1.dX.bV,r1.Start.Num,r1.Start.bV]) Wy) (Cb [r1.dX.Num,r1.dX.bV,r1.Start.Num,r1.Start.bV] [1] Ot) k)) (pz E l0 a0 w36 Wy Ot k)) (pz E l0 a0 w36 Wy Ot k):=krY
end
theorem zSt [aH](E:zeE)(wL:Ok aC 167 (ae.un E.c167))(ZW:Ok aC 198 (ae.un E.c198))(zyU:Ok aC 199 (ae.un E.zsP))(zSu:zT aC 228 (ae.unI E.i228)):Ok aC 158 (ae.un (zpV E)):=dP (((((ay.nil.addF wL).addF ZW).addF zyU).addF (wF ay.nil (dJ krY))).addI zSu)
structure zpX where
 N:Nat
 TV:list->ae bZ
 c167:list->ae Bool
def zpY(E:zpX):set->ae Bool:=ik E.N ((Tabs.nil.addF 200 (ae.un E.TV)).addF 167 (ae.un E.c167)) 159
theorem zSv(E:zpX){A:Type}(k:Bool→Option A)(a0:set):(zpY E (a0)).T k=(E.TV a0.list).T λr1=>(E.c167 a0.list).T λr2=>cond r2 (k (decide (r1.Low<=r1.High))) (k (decide ((a0.cZ.len:Int)>0))):=dO
theorem zSw [aH](E:zpX)(ZX:Ok aC 200 (ae.un E.TV))(wL:Ok aC 167 (ae.un E.c167)):Ok aC 159 (ae.un (zpY E)):=dP ((ay.nil.addF ZX).addF wL)
structure zpZ where
 N:Nat
def zp0(E:zpZ):list×(Pt Int)->ae Bool:=ik E.N Tabs.nil 162
theorem e162(E:zpZ){A:Type}(k:Bool→Option A)(a0:list)(a1:Pt Int):(zp0 E (a0,a1)).T k=aU (decide ((0:Int)<=0/\0<(a0.bM.len:Int))) (k ((a0.bM.get 0).Z==a1.v)):=dO
theorem zSx [aH](E:zpZ):Ok aC 162 (ae.un (zp0 E)):=dP ay.nil
structure zp1 where
 N:Nat
 c167:list->ae Bool
 TV:list->ae bZ
 kE:Int×Int->ae aP
 c119:set×((dY 202 Unit (Pt Int)) ⊕ (dY 120 Unit Unit))->ae (aP×aP)
def zp2(E:zp1):set×Int->ae (aP×aP):=ik E.N ((((Tabs.nil.addF 167 (ae.un E.c167)).addF 200 (ae.un E.TV)).addF 172 (ae.un E.kE)).addF 119 (ae.un E.c119)) 163
theorem zSy(E:zp1){A:Type}(k:(aP×aP)→Option A)(a0:set)(a1:Int):(zp2 E (a0,a1)).T k=(E.c167 a0.list).T λr1=>cond r1 ((E.TV a0.list).T λr2=>(E.kE (r2.Low,1)).T λr3=>(E.kE (r2.High,1)).T λr4=>k (r3,r4)) ((E.c119 (a0,(Sum.inl (⟨(),(⟨a1⟩:(Pt Int))⟩:(dY 202 Unit (Pt Int)))))).T λr5=>k (r5.1,r5.2)):=dO
theorem zSz [aH](E:zp1)(wL:Ok aC 167 (ae.un E.c167))(ZX:Ok aC 200 (ae.un E.TV))(qo:Ok aC 172 (ae.un E.kE))(zC6:Ok aC 119 (ae.un E.c119)):Ok aC 163 (ae.un (zp2 E)):=dP ((((ay.nil.addF wL).addF ZX).addF qo).addF zC6)
structure zp3 where
 N:Nat
def zp4(E:zp3):Line×Int->ae (Int×Int):=ik E.N Tabs.nil 166
theorem e166(E:zp3){A:Type}(k:(Int×Int)→Option A)(a0:Line)(a1:Int):(zp4 E (a0,a1)).T k=k ((aO ((aO (a0.Start.Num*a0.dX.bV))+(aO ((aO (a0.dX.Num*a1))*a0.Start.bV)))),(aO (a0.Start.bV*a0.dX.bV))):=dO
theorem zSA [aH](E:zp3):Ok aC 166 (ae.un (zp4 E)):=dP ay.nil
structure zp5 where
 N:Nat
 c206:(Sl ax)×((dY 207 Unit (Pt list)) ⊕ (dY 230 Unit (Pt straight)) ⊕ (dY 257 Unit (Pt straight)))->ae Bool
def zp6(E:zp5):list->ae Bool:=ik E.N (Tabs.nil.addF 206 (ae.un E.c206)) 167
theorem e167(E:zp5){A:Type}(k:Bool→Option A)(a0:list):(zp6 E (a0)).T k=(E.c206 (a0.bM,(Sum.inl (⟨(),(⟨a0⟩:(Pt list))⟩:(dY 207 Unit (Pt list)))))).T λr1=>k (!r1):=dO
theorem zSB [aH](E:zp5)(MM:Ok aC 206 (ae.un E.c206)):Ok aC 167 (ae.un (zp6 E)):=dP (ay.nil.addF MM)
structure uY where
 N:Nat
 zsJ:aP×aP->ae Bool
abbrev WA(E:uY):bI:=gq (Tabs.nil.addF 169 (ae.un E.zsJ)) []
def WB:dG:=bP aC 168 [] {}
def DU(E:uY):(Sl aP)×(dY 169 Unit Unit)->ae aP:=ae.ty (aF aC E.N (WA E) WB 168)
section
variable(E:uY){A:Type}(k:aP->Option A)
def nV(E:uY)(n:Nat)(a0:Sl aP)(iD:Int)(x5:aP){A:Type}(k:aP->Option A):Option A:=gX aC (WA E) E.N WB 168 [1,1,0,1,0] [.n n] (gW k) ⟨[(1,.p (.fn 169 [] [])),(4,.cl (.ptr 4 0)),(5,.cl (.ptr 5 0)),(12,.cl (.p (.sl (((a0.len:Int):Int)-1).toNat 2 (λi=>bG.enc ((Ar a0.get 1) i))))),(13,.int ((((a0.len:Int):Int)-1).toNat:Int)),(14,.int iD)],[(4,.box 85 [.p (.int .i64 0),.p (.int .i64 0)]),(5,eB 85 x5)],[]⟩
theorem zji(a0:Sl aP)(a1:(dY 169 Unit Unit)):(DU E (a0,a1)).T k=aU (decide ((0:Int)<=0/\0<(a0.len:Int))) (aU (decide ((0:Int)<=1/\(1:Int)<=(a0.len:Int)/\(a0.len:Int)<=(a0.len:Int))) (nV E E.N a0 0 (a0.get 0) k)):=dO
theorem MN(n0:Nat)(a0:Sl aP)(iD:Int)(x5:aP):nV E (n0+1) a0 iD x5 k=cond (decide (iD<((((a0.len:Int):Int)-1).toNat:Int))) (aU (decide (0<=iD/\iD<((((a0.len:Int):Int)-1).toNat:Int))) ((E.zsJ (((Ar a0.get 1) iD.toNat),x5)).T λr1=>cond r1 (nV E n0 a0 (aO (iD+1)) ((Ar a0.get 1) iD.toNat) k) (nV E n0 a0 (aO (iD+1)) x5 k))) (k x5):=krY
end
theorem zjj [aH](E:uY)(zyV:Ok aC 169 (ae.un E.zsJ)):Ok aC 168 (ae.un (DU E)):=dP (ay.nil.addF zyV)
structure uZ where
 N:Nat
 c171:aP×aP->ae Bool
abbrev WC(E:uZ):bI:=gq (Tabs.nil.addF 171 (ae.un E.c171)) []
def WE:dG:=bP aC 168 [] {}
def DW(E:uZ):(Sl aP)×(dY 171 Unit Unit)->ae aP:=ae.ty (aF aC E.N (WC E) WE 168)
section
variable(E:uZ){A:Type}(k:aP->Option A)
def nX(E:uZ)(n:Nat)(a0:Sl aP)(iD:Int)(x5:aP){A:Type}(k:aP->Option A):Option A:=gX aC (WC E) E.N WE 168 [1,1,0,1,0] [.n n] (gW k) ⟨[(1,.p (.fn 171 [] [])),(4,.cl (.ptr 4 0)),(5,.cl (.ptr 5 0)),(12,.cl (.p (.sl (((a0.len:Int):Int)-1).toNat 2 (λi=>bG.enc ((Ar a0.get 1) i))))),(13,.int ((((a0.len:Int):Int)-1).toNat:Int)),(14,.int iD)],[(4,.box 85 [.p (.int .i64 0),.p (.int .i64 0)]),(5,eB 85 x5)],[]⟩
theorem zjk(a0:Sl aP)(a1:(dY 171 Unit Unit)):(DW E (a0,a1)).T k=aU (decide ((0:Int)<=0/\0<(a0.len:Int))) (aU (decide ((0:Int)<=1/\(1:Int)<=(a0.len:Int)/\(a0.len:Int)<=(a0.len:Int))) (nX E E.N a0 0 (a0.get 0) k)):=dO
theorem MO(n0:Nat)(a0:Sl aP)(iD:Int)(x5:aP):nX E (n0+1) a0 iD x5 k=cond (decide (iD<((((a0.len:Int):Int)-1).toNat:Int))) (aU (decide (0<=iD/\iD<((((a0.len:Int):Int)-1).toNat:Int))) ((E.c171 (((Ar a0.get 1) iD.toNat),x5)).T λr1=>cond r1 (nX E n0 a0 (aO (iD+1)) ((Ar a0.get 1) iD.toNat) k) (nX E n0 a0 (aO (iD+1)) x5 k))) (k x5):=krY
end
theorem zjl [aH](E:uZ)(zyW:Ok aC 171 (ae.un E.c171)):Ok aC 168 (ae.un (DW E)):=dP (ay.nil.addF zyW)
structure zp7 where
 N:Nat
 EF:aP×aP->ae Int
def zp8(E:zp7):aP×aP->ae Bool:=ik E.N (Tabs.nil.addF 170 (ae.un E.EF)) 169
theorem e169(E:zp7){A:Type}(k:Bool→Option A)(a0 a1:aP):(zp8 E (a0,a1)).T k=(E.EF (a0,a1)).T λr1=>k (decide (r1<0)):=dO
theorem zSC [aH](E:zp7)(MP:Ok aC 170 (ae.un E.EF)):Ok aC 169 (ae.un (zp8 E)):=dP (ay.nil.addF MP)
structure zp9 where
 N:Nat
 c208:Int×Int->ae Int
def zqa(E:zp9):aP×aP->ae Int:=ik E.N (Tabs.nil.addF 208 (ae.un E.c208)) 170
theorem e170(E:zp9){A:Type}(k:Int→Option A)(a0 a1:aP):(zqa E (a0,a1)).T k=(E.c208 ((aO (a0.Num*a1.bV)),(aO (a1.Num*a0.bV)))).T λr1=>k r1:=dO
theorem zSD [aH](E:zp9)(ZY:Ok aC 208 (ae.un E.c208)):Ok aC 170 (ae.un (zqa E)):=dP (ay.nil.addF ZY)
structure zqb where
 N:Nat
 EF:aP×aP->ae Int
def zqc(E:zqb):aP×aP->ae Bool:=ik E.N (Tabs.nil.addF 170 (ae.un E.EF)) 171
theorem zSE(E:zqb){A:Type}(k:Bool→Option A)(a0 a1:aP):(zqc E (a0,a1)).T k=(E.EF (a0,a1)).T λr1=>k (decide (r1>0)):=dO
theorem zSF [aH](E:zqb)(MP:Ok aC 170 (ae.un E.EF)):Ok aC 171 (ae.un (zqc E)):=dP (ay.nil.addF MP)
structure zqd where
 N:Nat
 zsU:Int×Int->ae Int
def zqe(E:zqd):Int×Int->ae aP:=ik E.N (Tabs.nil.addF 209 (ae.un E.zsU)) 172
theorem zSG(E:zqd){A:Type}(k:aP→Option A)(a0 a1:Int):(zqe E (a0,a1)).T k=(E.zsU ((if(aO (0-a0))>a0 then(aO (0-a0))else a0),a1)).T λr1=>aU (decide (r1≠0)) (aU (decide (r1≠0)) (k (⟨(aO (a0.tdiv r1)),(aO (a1.tdiv r1))⟩:aP))):=dO
theorem zSH [aH](E:zqd)(zyX:Ok aC 209 (ae.un E.zsU)):Ok aC 172 (ae.un (zqe E)):=dP (ay.nil.addF zyX)
structure zeG where
 N:Nat
abbrev zG6(E:zeG):bI:=gq Tabs.nil []
def zG7:dG:=bP aC 176 [] {}
def zqf(E:zeG):(Sl Bool)×Bool->ae Int:=ae.ty (aF aC E.N (zG6 E) zG7 176)
section
variable(E:zeG){A:Type}(k:Int->Option A)
def SG(E:zeG)(n:Nat)(a0:Sl Bool)(a1:Bool)(v8:Int){A:Type}(k:Int->Option A):Option A:=gX aC (zG6 E) E.N zG7 176 [1,0,1,0] [.n n] (gW k) ⟨[(0,eP a0),(1,.bool a1),(7,.int (a0.len:Int)),(8,.int v8)],[],[]⟩
theorem zSI(a0:Sl Bool)(a1:Bool):(zqf E (a0,a1)).T k=SG E E.N a0 a1 0 k:=dO
theorem zjm(n0:Nat)(a0:Sl Bool)(a1:Bool)(v8:Int):SG E (n0+1) a0 a1 v8 k=cond (decide (v8<(a0.len:Int))) (aU (decide (0<=v8/\v8<(a0.len:Int))) (cond (a1==(a0.get v8.toNat)) (k v8) (SG E n0 a0 a1 (aO (v8+1)) k))) (k (-1)):=krY
end
theorem zSJ [aH](E:zeG):Ok aC 176 (ae.un (zqf E)):=dP ay.nil
structure zeH where
 N:Nat
 NL:(Sl Int)×((dY 180 Unit ((Pt (Pt aS))×(Pt Int))) ⊕ (dY 190 Unit ((Pt (Pt aS))×(Pt Int))))->ae Bool
 c182:(Pt aS)×af->ae Bool
 i173:(Pt Int)×(Pt (Pt aS))×(Pt Int)->ae (List (Int×Int))
 II:af×Int×Bc 143 (Pt aS)×Bc 38 Int×Bw 30 43 3 56 af×Bs 255 178 2 4×Unit->ae ((Bool×Int)×(Unit×Unit×(Pt aS)×Int×Sl af×Unit×Unit))
abbrev zyY(E:zeH):bI:=gq (((((((Tabs.nil.addN [180]).addO 181 (.clone 3 1 8)).addM 178 (ae.unP 254 E.II)).addF 179 (ae.un E.NL)).addF 182 (ae.un E.c182)).addF 121 (aF aC E.N (gq Tabs.nil []) (bP aC 121 [] {}) 121)).addI 173 (ae.unI E.i173)) []
def zqg:dG:=bP aC 178 [2,3,4,5] {clo:=[180],pan:=[9,10]}
def zqh(E:zeH):af×Int×Bc 143 (Pt aS)×Bc 38 Int×Bw 30 43 3 56 af×Bs 255 178 2 4×Unit->ae ((Bool×Int)×(Unit×Unit×(Pt aS)×Int×Sl af×Unit×Unit)):=ae.tyP 254 λxs=>aM aC E.N (zyY E) zqg 178 xs
section
variable(E:zeH){A:Type}(k:((Bool×Int)×(Unit×Unit×(Pt aS)×Int×Sl af×Unit×Unit))->Option A)
def pF(E:zeH)(l:List (Int×Int))(a0:af)(a1:Int)(a2:Pt aS)(a3:Int)(a4:Sl af)(Iz:Pt aS)(BH:Int)(pY:Sl af){A:Type}(k:((Bool×Int)×(Unit×Unit×(Pt aS)×Int×Sl af×Unit×Unit))->Option A):Option A:=ptM aC (zyY E) E.N zqg 178 [1,1,0] [.y (l.map dE.enc)] (zxb aC (sH.enc ((a0,a1,⟨a2⟩,⟨a3⟩,⟨a4⟩,{},()):af×Int×Bc 143 (Pt aS)×Bc 38 Int×Bw 30 43 3 56 af×Bs 255 178 2 4×Unit))) (zn2 254 ((a0,a1,⟨a2⟩,⟨a3⟩,⟨a4⟩,{},()):af×Int×Bc 143 (Pt aS)×Bc 38 Int×Bw 30 43 3 56 af×Bs 255 178 2 4×Unit) k) ⟨[(2,.cl (.ptr 2 0)),(3,.cl (.ptr 3 0)),(4,.cl (.ptr 4 0)),(5,.cl (.ptr 5 0)),(6,.cl (.ptr 6 0)),(14,.p (.fn 173 [] [.fp [.int .i64 a1] 0,.fp [.fp [.sl a2.v.au.aj.len 15 (λi=>bG.enc (a2.v.au.aj.get i)),.sl a2.v.hits.len 6 (λi=>bG.enc (a2.v.hits.get i)),.sl a2.v.iR.len 1 (λi=>bG.enc (a2.v.iR.get i)),.int .i64 a2.v.rules.rF,.int .i64 a2.v.rules.vM] 0] 0,.fp [.int .i64 a3] 0]))],[(2,eB 143 Iz),(3,eB 38 BH),(4,.box 30 [.vec 4100]),(5,.box 255 [.clo 178 [.b 2,.b 3,.b 4,.b 5]]),(6,eB 43 a0),(4100,eV 43 3 56 pY)],[]⟩
theorem zSK(a0:af)(a1:Int)(a2:Pt aS)(a3:Int)(a4:Sl af):(zqh E (a0,a1,⟨a2⟩,⟨a3⟩,⟨a4⟩,{},())).T k=(E.i173 ((⟨a1⟩:(Pt Int)),(⟨a2⟩:(Pt (Pt aS))),(⟨a3⟩:(Pt Int)))).T λr1=>pF E r1 a0 a1 a2 a3 a4 a2 a3 a4 k:=zFP.trans krY
theorem zqi(a0:af)(a1:Int)(a2:Pt aS)(a3:Int)(a4:Sl af)(Iz:Pt aS)(BH:Int)(pY:Sl af):pF E [] a0 a1 a2 a3 a4 Iz BH pY k=k ((false,0),(),(),Iz,BH,pY,(),()):=krY
theorem zjn(y:Int×Int)(l0:List (Int×Int))(a0:af)(a1:Int)(a2:Pt aS)(a3:Int)(a4:Sl af)(Iz:Pt aS)(BH:Int)(pY:Sl af):pF E (y::l0) a0 a1 a2 a3 a4 Iz BH pY k=(E.NL (a0.Hits,(Sum.inl (⟨(),((⟨Iz⟩:(Pt (Pt aS))),(⟨y.1⟩:(Pt Int)))⟩:(dY 180 Unit ((Pt (Pt aS))×(Pt Int))))))).T λr1=>cond r1 (pF E l0 a0 a1 a2 a3 a4 Iz BH pY k) (aU (room a0.Hits.len 8) (aU (room (a0.Hits.len+1) 8) (aU (room a0.aV.len 8) (aU (room (a0.aV.len+1) 8) ((E.c182 (Iz,(⟨BH,(⟨(a0.Hits.len+1),(jY a0.Hits.len a0.Hits.get (λ_=>y.1))⟩:(Sl Int)),(⟨(a0.aV.len+1),(jY a0.aV.len a0.aV.get (λ_=>y.2))⟩:(Sl Int))⟩:af))).T λr2=>cond (!r2) (pF E l0 a0 a1 a2 a3 a4 Iz BH pY k) (aU (room (pY.len+1) 56) (cond (decide (((pY.len+1):Int)>2000)) (k ((true,BH),(),(),Iz,BH,(⟨(pY.len+1),(jY pY.len pY.get (λ_=>(⟨BH,(⟨(a0.Hits.len+1),(jY a0.Hits.len a0.Hits.get (λ_=>y.1))⟩:(Sl Int)),(⟨(a0.aV.len+1),(jY a0.aV.len a0.aV.get (λ_=>y.2))⟩:(Sl Int))⟩:af)))⟩:(Sl af)),(),())) ((E.II ((⟨BH,(⟨(a0.Hits.len+1),(jY a0.Hits.len a0.Hits.get (λ_=>y.1))⟩:(Sl Int)),(⟨(a0.aV.len+1),(jY a0.aV.len a0.aV.get (λ_=>y.2))⟩:(Sl Int))⟩:af),(aO (y.1+1)),(⟨Iz⟩:Bc 143 (Pt aS)),(⟨BH⟩:Bc 38 Int),(⟨(⟨(pY.len+1),(jY pY.len pY.get (λ_=>(⟨BH,(⟨(a0.Hits.len+1),(jY a0.Hits.len a0.Hits.get (λ_=>y.1))⟩:(Sl Int)),(⟨(a0.aV.len+1),(jY a0.aV.len a0.aV.get (λ_=>y.2))⟩:(Sl Int))⟩:af)))⟩:(Sl af))⟩:Bw 30 43 3 56 af),({}:Bs 255 178 2 4),())).T λr3=>cond r3.1.1 (k ((true,r3.1.2),(),(),r3.2.2.2.1,r3.2.2.2.2.1,r3.2.2.2.2.2.1,(),())) (pF E l0 a0 a1 a2 a3 a4 r3.2.2.2.1 r3.2.2.2.2.1 r3.2.2.2.2.2.1 k))))))))):=krY
end
theorem zSL(E:zeH)(ZM:Ok aC 179 (ae.un E.NL))(zyZ:Ok aC 182 (ae.un E.c182))(zSM:zT aC 173 (ae.unI E.i173))(zy0:fU aC 181 (.clone 3 1 8))(zyH:qN aC 178 (ae.unP 254 E.II)):qN aC 178 (ae.unP 254 (zqh E)):=by
  have h:qN aC 178 (λxs=>aM aC E.N (zyY E) zqg 178 xs):=Zj (aQ:=λ_=>zqg) (((((((ay.nil.addN).addO zy0).addM zyH).addF ZM).addF zyZ).addF (wF ay.nil (dJ krY))).addI zSM) (dJ krY);exact(zxh h:qN aC 178 (ae.unP 254 (ae.tyP 254 _:af×Int×Bc 143 (Pt aS)×Bc 38 Int×Bw 30 43 3 56 af×Bs 255 178 2 4×Unit->ae ((Bool×Int)×(Unit×Unit×(Pt aS)×Int×Sl af×Unit×Unit)))))
structure DX where
 N:Nat
 c210:(Sl Int)×((dY 180 Unit ((Pt (Pt aS))×(Pt Int))) ⊕ (dY 190 Unit ((Pt (Pt aS))×(Pt Int))))->ae Int
def DY(E:DX):(Sl Int)×(dY 180 Unit ((Pt (Pt aS))×(Pt Int)))->ae Bool:=ik E.N (Tabs.nil.addF 210 (ae.un E.c210)) 179
theorem zjo(E:DX){A:Type}(k:Bool→Option A)(a0:Sl Int)(a1:(dY 180 Unit ((Pt (Pt aS))×(Pt Int)))):(DY E (a0,a1)).T k=(E.c210 (a0,(Sum.inl a1))).T λr1=>k (decide (r1>=0)):=dO
theorem zjq [aH](E:DX)(ZZ:Ok aC 210 (ae.un E.c210)):Ok aC 179 (ae.un (DY E)):=dP (ay.nil.addF ZZ)
structure DZ where
 N:Nat
 c210:(Sl Int)×((dY 180 Unit ((Pt (Pt aS))×(Pt Int))) ⊕ (dY 190 Unit ((Pt (Pt aS))×(Pt Int))))->ae Int
def D5(E:DZ):(Sl Int)×(dY 190 Unit ((Pt (Pt aS))×(Pt Int)))->ae Bool:=ik E.N (Tabs.nil.addF 210 (ae.un E.c210)) 179
theorem zjr(E:DZ){A:Type}(k:Bool→Option A)(a0:Sl Int)(a1:(dY 190 Unit ((Pt (Pt aS))×(Pt Int)))):(D5 E (a0,a1)).T k=(E.c210 (a0,(Sum.inr a1))).T λr1=>k (decide (r1>=0)):=dO
theorem zjs [aH](E:DZ)(ZZ:Ok aC 210 (ae.un E.c210)):Ok aC 179 (ae.un (D5 E)):=dP (ay.nil.addF ZZ)
structure zqj where
 N:Nat
def zqk(E:zqj):Int×(Pt (Pt aS))×(Pt Int)->ae Bool:=ik E.N Tabs.nil 180
theorem zSN(E:zqj){A:Type}(k:Bool→Option A)(a0:Int)(a1:(Pt (Pt aS)))(a2:Pt Int):(zqk E (a0,a1,a2)).T k=aU (decide (0<=a0/\a0<(a1.v.v.hits.len:Int))) (aU (decide (0<=a2.v/\a2.v<(a1.v.v.hits.len:Int))) (k ((a1.v.v.hits.get a0.toNat).ak==(a1.v.v.hits.get a2.v.toNat).ak))):=dO
theorem zSO [aH](E:zqj):Ok aC 180 (ae.un (zqk E)):=dP ay.nil
structure zql where
 N:Nat
 c93:(Pt aS)×af->ae (bZ×Bool)
 c105:(Pt aS)×af->ae ((Sl ax))
 zsV:(Sl ax)->ae (Line×Int)
def zqm(E:zql):(Pt aS)×af->ae Bool:=ik E.N (((Tabs.nil.addF 93 (ae.un E.c93)).addF 105 (ae.un E.c105)).addF 211 (ae.un E.zsV)) 182
theorem zSP(E:zql){A:Type}(k:Bool→Option A)(a0:Pt aS)(a1:af):(zqm E (a0,a1)).T k=(E.c93 (a0,a1)).T λr1=>cond (!r1.2) (k false) ((E.c105 (a0,a1)).T λr2=>(E.zsV r2).T λr3=>k (r3.2 != 5)):=dO
theorem zSQ [aH](E:zql)(h93:Ok aC 93 (ae.un E.c93))(Bv:Ok aC 105 (ae.un E.c105))(zy1:Ok aC 211 (ae.un E.zsV)):Ok aC 182 (ae.un (zqm E)):=dP (((ay.nil.addF h93).addF Bv).addF zy1)
structure zeI where
 N:Nat
abbrev zG8(E:zeI):bI:=gq Tabs.nil []
def zG9:dG:=bP aC 185 [] {}
def zqn(E:zeI):(Sl Int)->ae Int:=ae.ty (aF aC E.N (zG8 E) zG9 185)
section
variable(E:zeI){A:Type}(k:Int->Option A)
def F6(E:zeI)(n:Nat)(a0:Sl Int)(v8:Int){A:Type}(k:Int->Option A):Option A:=gX aC (zG8 E) E.N zG9 185 [1,1,0,1,0] [.n n] (gW k) ⟨[(3,.int 0),(6,eP a0),(7,.int (a0.len:Int)),(8,.int v8)],[],[]⟩
theorem e185(a0:Sl Int):(zqn E (a0)).T k=F6 E E.N a0 0 k:=dO
theorem zjt(n0:Nat)(a0:Sl Int)(v8:Int):F6 E (n0+1) a0 v8 k=cond (decide (v8<(a0.len:Int))) (aU (decide (0<=v8/\v8<(a0.len:Int))) (cond (a0.get v8.toNat != 0) (k (a0.get v8.toNat)) (F6 E n0 a0 (aO (v8+1)) k))) (k 0):=krY
end
theorem zSS [aH](E:zeI):Ok aC 185 (ae.un (zqn E)):=dP ay.nil
structure zqo where
 N:Nat
 c222:Int->ae Bool
def zqp(E:zqo):Int×Int->ae Int:=ik E.N (Tabs.nil.addF 222 (ae.un E.c222)) 186
theorem zST(E:zqo){A:Type}(k:Int→Option A)(a0 a1:Int):(zqp E (a0,a1)).T k=(E.c222 a0).T λr1=>(E.c222 a1).T λr2=>cond r1 (cond r2 (k 0) (k (-1))) (cond r2 (k 1) (cond (decide (a0<a1)) (k (-1)) (cond (decide (a0>a1)) (k 1) (k 0)))):=dO
theorem zSU [aH](E:zqo)(zqq:Ok aC 222 (ae.un E.c222)):Ok aC 186 (ae.un (zqp E)):=dP (ay.nil.addF zqq)
structure zeJ where
 N:Nat
 c208:Int×Int->ae Int
abbrev zHa(E:zeJ):bI:=gq (Tabs.nil.addF 208 (ae.un E.c208)) []
def zHb:dG:=bP aC 187 [] {}
def zqr(E:zeJ):(Sl Int)×(Sl Int)->ae Int:=ae.ty (aF aC E.N (zHa E) zHb 187)
section
variable(E:zeJ){A:Type}(k:Int->Option A)
def SH(E:zeJ)(n:Nat)(a0 a1:Sl Int)(v11:Int){A:Type}(k:Int->Option A):Option A:=gX aC (zHa E) E.N zHb 187 [1,0,1,0] [.n n] (gW k) ⟨[(0,eP a0),(1,eP a1),(9,eP a0),(10,.int (a0.len:Int)),(11,.int v11)],[],[]⟩
theorem e187(a0 a1:Sl Int):(zqr E (a0,a1)).T k=SH E E.N a0 a1 0 k:=dO
theorem zju(n0:Nat)(a0 a1:Sl Int)(v11:Int):SH E (n0+1) a0 a1 v11 k=cond (decide (v11<(a0.len:Int))) (aU (decide (0<=v11/\v11<(a0.len:Int))) (cond (decide (v11>=(a1.len:Int))) (k 1) (aU (decide (0<=v11/\v11<(a1.len:Int))) ((E.c208 (a0.get v11.toNat,a1.get v11.toNat)).T λr1=>cond (r1 != 0) (k r1) (SH E n0 a0 a1 (aO (v11+1)) k))))) (cond (decide ((a0.len:Int)<(a1.len:Int))) (k (-1)) (k 0)):=krY
end
theorem zSV [aH](E:zeJ)(ZY:Ok aC 208 (ae.un E.c208)):Ok aC 187 (ae.un (zqr E)):=dP (ay.nil.addF ZY)
structure zqs where
 N:Nat
def zqu(E:zqs):Int×(Pt (Pt aS))×(Pt Int)->ae Bool:=ik E.N Tabs.nil 190
theorem e190(E:zqs){A:Type}(k:Bool→Option A)(a0:Int)(a1:(Pt (Pt aS)))(a2:Pt Int):(zqu E (a0,a1,a2)).T k=aU (decide (0<=a0/\a0<(a1.v.v.hits.len:Int))) (k ((a1.v.v.hits.get a0.toNat).ak==a2.v)):=dO
theorem zSW [aH](E:zqs):Ok aC 190 (ae.un (zqu E)):=dP ay.nil
structure zqv where
 N:Nat
def zqw(E:zqv):aP->ae Int:=ik E.N Tabs.nil 191
theorem zSX(E:zqv){A:Type}(k:Int→Option A)(a0:aP):(zqw E (a0)).T k=cond (decide (a0.Num<0)) (aU (decide (a0.bV≠0)) (k (aO (0-(aO ((aO ((aO ((aO (0-a0.Num))+a0.bV))-1)).tdiv a0.bV)))))) (aU (decide (a0.bV≠0)) (k (aO (a0.Num.tdiv a0.bV)))):=dO
theorem zSY [aH](E:zqv):Ok aC 191 (ae.un (zqw E)):=dP ay.nil
structure zqx where
 N:Nat
 OI:aP->ae Int
def zqy(E:zqx):aP->ae Int:=ik E.N (Tabs.nil.addF 191 (ae.un E.OI)) 192
theorem zSZ(E:zqx){A:Type}(k:Int→Option A)(a0:aP):(zqy E (a0)).T k=(E.OI (⟨(aO (0-a0.Num)),a0.bV⟩:aP)).T λr1=>k (aO (0-r1)):=dO
theorem zS1 [aH](E:zqx)(ZO:Ok aC 191 (ae.un E.OI)):Ok aC 192 (ae.un (zqy E)):=dP (ay.nil.addF ZO)
structure zeK where
 N:Nat
abbrev zHc(E:zeK):bI:=gq Tabs.nil []
def zHd:dG:=bP aC 193 [] {}
def zqz(E:zeK):(Sl ax)->ae (Int×Int×Bool):=ae.ty (aF aC E.N (zHc E) zHd 193)
section
variable(E:zeK){A:Type}(k:(Int×Int×Bool)->Option A)
def SI(E:zeK)(n:Nat)(a0:Sl ax)(v5 v6 v7:Int){A:Type}(k:(Int×Int×Bool)->Option A):Option A:=gX aC (zHc E) E.N zHd 193 [1,1,0,1,0] [.n n] (gW k) ⟨[(0,eP a0),(5,.int v5),(6,.int v6),(7,.int v7)],[],[]⟩
theorem zS2(a0:Sl ax):(zqz E (a0)).T k=aU (decide ((0:Int)<=0/\0<(a0.len:Int))) (aU (decide ((0:Int)<=0/\0<(a0.len:Int))) (SI E E.N a0 (a0.get 0).Low (a0.get 0).High 1 k)):=dO
theorem zjv(n0:Nat)(a0:Sl ax)(v5 v6 v7:Int):SI E (n0+1) a0 v5 v6 v7 k=cond (decide (v7<(a0.len:Int))) (aU (decide (0<=v7/\v7<(a0.len:Int))) (aU (decide (0<=v7/\v7<(a0.len:Int))) (SI E n0 a0 (if(a0.get v7.toNat).Low>v5 then(a0.get v7.toNat).Low else v5) (if(a0.get v7.toNat).High<v6 then(a0.get v7.toNat).High else v6) (aO (v7+1)) k))) (k (v5,v6,decide (v5<=v6))):=krY
end
theorem zS3 [aH](E:zeK):Ok aC 193 (ae.un (zqz E)):=dP ay.nil
structure SK where
 N:Nat
 zsX:(Sl ax)->ae ((Sl Line))
 c57:Line×(Sl ax)->ae ((Sl Int))
 c226:Line×Line×(Sl ax)->ae Bool
abbrev zjw(E:SK):bI:=gq (((Tabs.nil.addF 225 (ae.un E.zsX)).addF 57 (ae.un E.c57)).addF 226 (ae.un E.c226)) []
def zjx:dG:=bP aC 194 [] {ks:=[(0,1,⟨[],[(3,5000,114)],[],[],[],[],[]⟩),(1,4,⟨[],[],[],[],[],[3],[]⟩)],cut:=[10,11]}
def zqA(E:SK):(Sl ax)->ae ((Sl Line)):=ae.ty (aF aC E.N (zjw E) zjx 194)
section
variable(E:SK){A:Type}(k:(Sl Line)->Option A)
def pG(E:SK)(n:Nat)(a0:Sl ax)(v3 v4:Sl Line)(v5:Int){A:Type}(k:(Sl Line)->Option A):Option A:=gX aC (zjw E) E.N zjx 194 [1,1,1,0,1,0] [.n n] (gW k) ⟨[(0,eP a0),(3,eP v3),(4,eP v4),(5,.int v5)],[],[]⟩
def yQ(E:SK)(n0 n:Nat)(a0:Sl ax)(v3 v4:Sl Line)(v5 v6:Int){A:Type}(k:(Sl Line)->Option A):Option A:=gX aC (zjw E) E.N zjx 194 [1,1,1,0,1,0,0,1,0,0,1,1,0,0] [.n n0,.n n] (gW k) ⟨[(0,eP a0),(3,eP v3),(4,eP v4),(5,.int v5),(6,.int v6)],[],[]⟩
def wP(E:SK)(n0:Nat)(a0:Sl ax)(v3 v4:Sl Line)(v5 v6:Int){A:Type}(k:(Sl Line)->Option A):Option A:=gX aC (zjw E) E.N zjx 194 [1,1,1,0,1,0,0,1,0,0,1,1,1] [.n n0] (gW k) ⟨[(0,eP a0),(3,eP v3),(4,eP v4),(5,.int v5),(6,.int v6)],[],[]⟩
def MR(E:SK)(n0:Nat)(a0:Sl ax)(v3 v4:Sl Line)(v5 v6:Int){A:Type}(k:(Sl Line)->Option A):Option A:=gX aC (zjw E) E.N zjx 194 [1,1,1,0,1,0,0,1,0,0,1,1,1,1] [.n n0] (gW k) ⟨[(0,eP a0),(3,eP v3),(4,eP v4),(5,.int v5),(6,.int v6)],[],[]⟩
theorem zS4(a0:Sl ax):(zqA E (a0)).T k=(E.zsX a0).T λr1=>pG E E.N a0 (⟨0,(λ_=>(⟨(⟨0,0⟩:aP),(⟨0,0⟩:aP)⟩:Line))⟩:(Sl Line)) r1 0 k:=dO
theorem zjy(n0:Nat)(a0:Sl ax)(v3 v4:Sl Line)(v5:Int):pG E (n0+1) a0 v3 v4 v5 k=cond (decide (v5<(v4.len:Int))) (aU (decide (0<=v5/\v5<(v4.len:Int))) ((E.c57 ((v4.get v5.toNat),a0)).T λr1=>cond (decide ((r1.len:Int)<(a0.len:Int))) (pG E n0 a0 v3 v4 (aO (v5+1)) k) (yQ E n0 E.N a0 v3 v4 v5 0 k))) (k v3):=krY
theorem zjz(n0 n1:Nat)(a0:Sl ax)(v3 v4:Sl Line)(v5 v6:Int):yQ E n0 (n1+1) a0 v3 v4 v5 v6 k=cond (decide (v6<(v3.len:Int))) (aU (decide (0<=v6/\v6<(v3.len:Int))) (aU (decide (0<=v5/\v5<(v4.len:Int))) ((E.c226 ((v3.get v6.toNat),(v4.get v5.toNat),a0)).T λr1=>cond r1 (yQ E n0 n1 a0 v3 v4 v5 (aO (v6+1)) k) (wP E n0 a0 v3 v4 v5 v6 k)))) (wP E n0 a0 v3 v4 v5 v6 k):=krY
theorem zjA(n0:Nat)(a0:Sl ax)(v3 v4:Sl Line)(v5 v6:Int):wP E n0 a0 v3 v4 v5 v6 k=cond (decide (v6<(v3.len:Int))) (aU (decide (0<=v6/\v6<(v3.len:Int))) (aU (decide (0<=v5/\v5<(v4.len:Int))) (cond (cond (cond ((v3.get v6.toNat).dX.Num==(v4.get v5.toNat).dX.Num) (cond ((v3.get v6.toNat).dX.bV==(v4.get v5.toNat).dX.bV) true false) false) (cond (cond ((v3.get v6.toNat).Start.Num==(v4.get v5.toNat).Start.Num) (cond ((v3.get v6.toNat).Start.bV==(v4.get v5.toNat).Start.bV) true false) false) true false) false) (pG E n0 a0 v3 v4 (aO (v5+1)) k) (MR E n0 a0 v3 v4 v5 v6 k)))) (MR E n0 a0 v3 v4 v5 v6 k):=krY
theorem zy2(n0:Nat)(a0:Sl ax)(v3 v4:Sl Line)(v5 v6:Int):MR E n0 a0 v3 v4 v5 v6 k=aU (decide ((0:Int)<=0/\(0:Int)<=v6/\v6<=(v3.len:Int))) (aU (room ((v6:Int)-0).toNat 32) (aU (decide (0<=v5/\v5<(v4.len:Int))) (aU (room (((v6:Int)-0).toNat+1) 32) (aU (decide ((0:Int)<=v6/\(v6:Int)<=(v3.len:Int)/\(v3.len:Int)<=(v3.len:Int))) (aU (room ((((v6:Int)-0).toNat+1)+(((v3.len:Int):Int)-v6).toNat) 32) (pG E n0 a0 (⟨((((v6:Int)-0).toNat+1)+(((v3.len:Int):Int)-v6).toNat),(jY (((v6:Int)-0).toNat+1) (jY ((v6:Int)-0).toNat (Ar v3.get 0) (λ_=>(v4.get v5.toNat))) (Ar v3.get v6.toNat))⟩:(Sl Line)) v4 (aO (v5+1)) k)))))):=krY
end
theorem zS5 [aH](E:SK)(zy3:Ok aC 225 (ae.un E.zsX))(h57:Ok aC 57 (ae.un E.c57))(zy4:Ok aC 226 (ae.un E.c226)):Ok aC 194 (ae.un (zqA E)):=dP (((ay.nil.addF zy3).addF h57).addF zy4)
structure Z4 where
 N:Nat
 c87:(Sl bi)×(Sl Int)×Int->ae Bool
 c75:au×bi->ae ((Sl ax))
 c227:af×Int×Int->ae af
 c196:au×(Sl bi)×af->ae Bool
 NP:(au×(Sl bi)×af×Int)×Sl af->ae (Sl af)
abbrev zy5(E:Z4):bI:=gq (((((Tabs.nil.addO 195 (.grow 43 3 56 (ae.unW E.NP))).addF 87 (ae.un E.c87)).addF 75 (ae.un E.c75)).addF 227 (ae.un E.c227)).addF 196 (ae.un E.c196)) []
def zy6:dG:=bP aC 195 [] {}
def zqB(E:Z4):(au×(Sl bi)×af×Int)×Sl af->ae (Sl af):=ae.tyW (aG aC E.N (zy5 E) zy6 195 43 3 56)
section
variable(E:Z4){A:Type}(k:(Sl af)->Option A)
def ry(E:Z4)(n:Nat)(a0:au)(a1:Sl bi)(a2:af)(v11:Int)(mM:Sl af){A:Type}(k:(Sl af)->Option A):Option A:=ptG aC (zy5 E) E.N zy6 195 [1,0,1,0] [.n n] (LP 43 3 56) (zxp k) ⟨[(1,eP a1),(4,.cl (.vec 4095)),(5,.cl (.ptr 5 0)),(7,.cl (.ptr 7 0)),(11,.int v11)],[(4095,eV 43 3 56 mM),(5,eB 24 a0),(7,eB 43 a2)],[]⟩
def wQ(E:Z4)(n0 n:Nat)(a0:au)(a1:Sl bi)(a2:af)(v11:Int)(iG:Sl ax)(iD:Int)(mM:Sl af){A:Type}(k:(Sl af)->Option A):Option A:=ptG aC (zy5 E) E.N zy6 195 [1,0,1,0,0,1,0,0,1,1,1,1,0] [.n n0,.n n] (LP 43 3 56) (zxp k) ⟨[(1,eP a1),(4,.cl (.vec 4095)),(5,.cl (.ptr 5 0)),(7,.cl (.ptr 7 0)),(11,.int v11),(13,eP iG),(14,.int iD)],[(4095,eV 43 3 56 mM),(5,eB 24 a0),(7,eB 43 a2)],[]⟩
theorem e195(a0:au)(a1:Sl bi)(a2:af)(a3:Int)(a4:Sl af):(zqB E ((a0,a1,a2,a3),a4)).T k=ry E E.N a0 a1 a2 a3 a4 k:=zFX.trans krY
theorem zjB(n0:Nat)(a0:au)(a1:Sl bi)(a2:af)(v11:Int)(mM:Sl af):ry E (n0+1) a0 a1 a2 v11 mM k=cond (decide (v11<(a1.len:Int))) (aU (decide (0<=v11/\v11<(a1.len:Int))) (aU (decide (0<=(a1.get v11.toNat).ak/\(a1.get v11.toNat).ak<(a0.aj.len:Int))) (cond ((a0.aj.get (a1.get v11.toNat).ak.toNat).View != a2.View) (ry E n0 a0 a1 a2 (aO (v11+1)) mM k) ((E.c87 (a1,a2.Hits,(a1.get v11.toNat).ak)).T λr1=>cond r1 (ry E n0 a0 a1 a2 (aO (v11+1)) mM k) ((E.c75 (a0,(a1.get v11.toNat))).T λr2=>wQ E n0 E.N a0 a1 a2 v11 r2 0 mM k))))) (k mM):=krY
theorem Z5(n0 n1:Nat)(a0:au)(a1:Sl bi)(a2:af)(v11:Int)(iG:Sl ax)(iD:Int)(mM:Sl af):wQ E n0 (n1+1) a0 a1 a2 v11 iG iD mM k=cond (decide (iD<(iG.len:Int))) (cond (decide ((mM.len:Int)<=2000)) ((E.c227 (a2,v11,iD)).T λr1=>(E.c196 (a0,a1,r1)).T λr2=>cond r2 (aU (room (mM.len+1) 56) ((E.NP ((a0,a1,r1,(aO (v11+1))),(⟨(mM.len+1),(jY mM.len mM.get (λ_=>r1))⟩:(Sl af)))).T λr3=>wQ E n0 n1 a0 a1 a2 v11 iG (aO (iD+1)) r3 k)) (wQ E n0 n1 a0 a1 a2 v11 iG (aO (iD+1)) mM k)) (ry E n0 a0 a1 a2 (aO (v11+1)) mM k)) (ry E n0 a0 a1 a2 (aO (v11+1)) mM k):=krY
end
theorem zS6 [aH](E:Z4)(h87:Ok aC 87 (ae.un E.c87))(h75:Ok aC 75 (ae.un E.c75))(zy7:Ok aC 227 (ae.un E.c227))(ZV:Ok aC 196 (ae.un E.c196))(zyS:fU aC 195 (.grow 43 3 56 (ae.unW E.NP))):fU aC 195 (.grow 43 3 56 (ae.unW (zqB E))):=zxo (zxn (((((ay.nil.addO zyS).addF h87).addF h75).addF zy7).addF ZV) (dJ krY))
structure zqC where
 N:Nat
 c65:au×(Sl bi)×af->ae ((Sl ax))
 c145:(Sl ax)->ae Bool
 c90:au×(Sl bi)×(Sl Int)->ae Bool
def zqD(E:zqC):au×(Sl bi)×af->ae Bool:=ik E.N (((Tabs.nil.addF 65 (ae.un E.c65)).addF 145 (ae.un E.c145)).addF 90 (ae.un E.c90)) 196
theorem zS7(E:zqC){A:Type}(k:Bool→Option A)(a0:au)(a1:Sl bi)(a2:af):(zqD E (a0,a1,a2)).T k=(E.c65 (a0,a1,a2)).T λr1=>(E.c145 r1).T λr2=>cond r2 ((E.c90 (a0,a1,a2.Hits)).T λr3=>k r3) (k false):=dO
theorem zS8 [aH](E:zqC)(h65:Ok aC 65 (ae.un E.c65))(zy8:Ok aC 145 (ae.un E.c145))(h90:Ok aC 90 (ae.un E.c90)):Ok aC 196 (ae.un (zqD E)):=dP (((ay.nil.addF h65).addF zy8).addF h90)
structure zqE where
 N:Nat
 kE:Int×Int->ae aP
def zqF(E:zqE):straight->ae Line:=ik E.N (Tabs.nil.addF 172 (ae.un E.kE)) 198
theorem zTa(E:zqE){A:Type}(k:Line→Option A)(a0:straight):(zqF E (a0)).T k=(E.kE (a0.bD,a0.den)).T λr1=>(E.kE (a0.start,a0.den)).T λr2=>k (⟨r1,r2⟩:Line):=dO
theorem zTb [aH](E:zqE)(qo:Ok aC 172 (ae.un E.kE)):Ok aC 198 (ae.un (zqF E)):=dP (ay.nil.addF qo)
structure zqG where
 N:Nat
 c206:(Sl ax)×((dY 207 Unit (Pt list)) ⊕ (dY 230 Unit (Pt straight)) ⊕ (dY 257 Unit (Pt straight)))->ae Bool
def zqH(E:zqG):set×straight->ae Bool:=ik E.N (Tabs.nil.addF 206 (ae.un E.c206)) 199
theorem e199(E:zqG){A:Type}(k:Bool→Option A)(a0:set)(a1:straight):(zqH E (a0,a1)).T k=(E.c206 (a0.list.bM,(Sum.inr (Sum.inl (⟨(),(⟨a1⟩:(Pt straight))⟩:(dY 230 Unit (Pt straight))))))).T λr1=>k (!r1):=dO
theorem zTc [aH](E:zqG)(MM:Ok aC 206 (ae.un E.c206)):Ok aC 199 (ae.un (zqH E)):=dP (ay.nil.addF MM)
structure zeL where
 N:Nat
abbrev zHe(E:zeL):bI:=gq Tabs.nil []
def zHf:dG:=bP aC 200 [] {}
def zqI(E:zeL):list->ae bZ:=ae.ty (aF aC E.N (zHe E) zHf 200)
section
variable(E:zeL){A:Type}(k:bZ->Option A)
def SL(E:zeL)(n:Nat)(a0:list)(v20:Int)(x3:bZ){A:Type}(k:bZ->Option A):Option A:=gX aC (zHe E) E.N zHf 200 [1,1,0,1,0] [.n n] (gW k) ⟨[(2,.cl (.ptr 2 0)),(3,.cl (.ptr 3 0)),(18,eP a0.bM),(19,.int (a0.bM.len:Int)),(20,.int v20)],[(2,.box 105 [.p (.int .i64 0),.p (.int .i64 0)]),(3,eB 105 x3)],[]⟩
theorem zTd(a0:list):(zqI E (a0)).T k=aU (decide ((0:Int)<=0/\0<(a0.bM.len:Int))) (aU (decide ((0:Int)<=0/\0<(a0.bM.len:Int))) (SL E E.N a0 0 (⟨(a0.bM.get 0).Low,(a0.bM.get 0).High⟩:bZ) k)):=dO
theorem zjC(n0:Nat)(a0:list)(v20:Int)(x3:bZ):SL E (n0+1) a0 v20 x3 k=cond (decide (v20<(a0.bM.len:Int))) (aU (decide (0<=v20/\v20<(a0.bM.len:Int))) (SL E n0 a0 (aO (v20+1)) (⟨(if(a0.bM.get v20.toNat).Low>x3.Low then(a0.bM.get v20.toNat).Low else x3.Low),(if(a0.bM.get v20.toNat).High<x3.High then(a0.bM.get v20.toNat).High else x3.High)⟩:bZ) k)) (k x3):=krY
end
theorem zTe [aH](E:zeL):Ok aC 200 (ae.un (zqI E)):=dP ay.nil
structure zqJ where
 N:Nat
 c203:straight×Int->ae aP
def zqK(E:zqJ):straight×(Pt Int)->ae aP:=ik E.N (Tabs.nil.addF 203 (ae.un E.c203)) 202
theorem zTf(E:zqJ){A:Type}(k:aP→Option A)(a0:straight)(a1:Pt Int):(zqK E (a0,a1)).T k=(E.c203 (a0,a1.v)).T λr1=>k r1:=dO
theorem zTg [aH](E:zqJ)(zy9:Ok aC 203 (ae.un E.c203)):Ok aC 202 (ae.un (zqK E)):=dP (ay.nil.addF zy9)
structure zqL where
 N:Nat
def zqM(E:zqL):straight×Int->ae aP:=ik E.N Tabs.nil 203
theorem e203(E:zqL){A:Type}(k:aP→Option A)(a0:straight)(a1:Int):(zqM E (a0,a1)).T k=k (⟨(aO (a0.start+(aO (a0.bD*a1)))),a0.den⟩:aP):=dO
theorem zTh [aH](E:zqL):Ok aC 203 (ae.un (zqM E)):=dP ay.nil
structure Z7 where
 N:Nat
 zsR:(Sl Int)×Int->ae (Int×Bool)
abbrev zHg(E:Z7):bI:=gq (Tabs.nil.addF 205 (ae.un E.zsR)) []
def zHh:dG:=bP aC 204 [0] {yl:=[9]}
def zHi(E:Z7)(c:List PA):YO:=aI aC (zHg E) E.N zHh 204 c
def zza(E:Z7):(Pt placed)->ae (List (Int×bZ)):=ae.tyI λc=>.opt (zHi E c)
section
variable(E:Z7)
def F7(E:Z7)(n:Nat)(a1:Pt placed)(v3 zJ:Int):YO:=ptY aC (zHg E) E.N zHh 204 [1,1,1,0] [n] ⟨[(0,.cl (.vec 4095)),(1,eP a1),(3,.int v3),(18,.int a1.v.ak.bT),(19,.int zJ)],[(4095,.gone)],[]⟩
theorem e204(a1:Pt placed):zHi E (dE.enc ((a1):(Pt placed)))=cond (a1.v.ak.Kind==2) (F7 E E.N a1 (aO (a1.v.ak.aY.tdiv 2)) 0) (F7 E E.N a1 0 0):=krY
theorem zjD(n0:Nat)(a1:Pt placed)(v3 zJ:Int):F7 E (n0+1) a1 v3 zJ=cond (decide (zJ<a1.v.ak.bT)) ((E.zsR (a1.v.ak.Dead,zJ)).T λr1=>cond r1.2 (F7 E n0 a1 v3 (aO (zJ+1))) (yT (dE.enc ((zJ,(⟨(aO ((aO (a1.v.ak.First+(aO (zJ*a1.v.ak.aY))))-v3)),(aO ((aO ((aO ((aO (a1.v.ak.First+(aO (zJ*a1.v.ak.aY))))-v3))+a1.v.ak.aY))-1))⟩:bZ)):Int×bZ)) (some []) (F7 E n0 a1 v3 (aO (zJ+1))))) (some []):=krY
end
theorem zTi(E:Z7)(zzb:Ok aC 205 (ae.un E.zsR)):zT aC 204 (ae.unI (zza E)):=RH (LK (ay.nil.addF zzb) (dJ krY))
structure zeM where
 N:Nat
 c236:Int×Int->ae Bool
 zlJ:Int->ae Bool
abbrev zHj(E:zeM):bI:=gq ((Tabs.nil.addF 236 (ae.un E.c236)).addF 237 (ae.un E.zlJ)) []
def zHk:dG:=bP aC 205 [] {}
def zqN(E:zeM):(Sl Int)×Int->ae (Int×Bool):=ae.ty (aF aC E.N (zHj E) zHk 205)
section
variable(E:zeM){A:Type}(k:(Int×Bool)->Option A)
def yR(E:zeM)(n:Nat)(a0:Sl Int)(a1 v7 v8:Int){A:Type}(k:(Int×Bool)->Option A):Option A:=gX aC (zHj E) E.N zHk 205 [1,1,1,0,0] [.n n] (gW k) ⟨[(0,eP a0),(1,.int a1),(6,.int (a0.len:Int)),(7,.int v7),(8,.int v8)],[],[]⟩
theorem zTj(a0:Sl Int)(a1:Int):(zqN E (a0,a1)).T k=yR E E.N a0 a1 0 (a0.len:Int) k:=dO
theorem SN(n0:Nat)(a0:Sl Int)(a1 v7 v8:Int):yR E (n0+1) a0 a1 v7 v8 k=cond (decide (v7<v8)) (aU (decide (0<=(aO (Io .u64 (IntKind.u64.wrap (aO (v7+v8))) 1))/\(aO (Io .u64 (IntKind.u64.wrap (aO (v7+v8))) 1))<(a0.len:Int))) ((E.c236 (a0.get (aO (Io .u64 (IntKind.u64.wrap (aO (v7+v8))) 1)).toNat,a1)).T λr1=>cond r1 (yR E n0 a0 a1 (aO ((aO (Io .u64 (IntKind.u64.wrap (aO (v7+v8))) 1))+1)) v8 k) (yR E n0 a0 a1 v7 (aO (Io .u64 (IntKind.u64.wrap (aO (v7+v8))) 1)) k))) (cond (decide (v7<(a0.len:Int))) (aU (decide (0<=v7/\v7<(a0.len:Int))) (cond (a0.get v7.toNat==a1) (k (v7,true)) (aU (decide (0<=v7/\v7<(a0.len:Int))) ((E.zlJ (a0.get v7.toNat)).T λr2=>cond r2 ((E.zlJ a1).T λr3=>k (v7,r3)) (k (v7,false)))))) (k (v7,false))):=krY
end
theorem zTk [aH](E:zeM)(zzc:Ok aC 236 (ae.un E.c236))(zzd:Ok aC 237 (ae.un E.zlJ)):Ok aC 205 (ae.un (zqN E)):=dP ((ay.nil.addF zzc).addF zzd)
structure D6 where
 N:Nat
 EG:(Sl ax)×((dY 207 Unit (Pt list)) ⊕ (dY 230 Unit (Pt straight)) ⊕ (dY 257 Unit (Pt straight)))->ae Int
def D7(E:D6):(Sl ax)×(dY 207 Unit (Pt list))->ae Bool:=ik E.N (Tabs.nil.addF 238 (ae.un E.EG)) 206
theorem zjE(E:D6){A:Type}(k:Bool→Option A)(a0:Sl ax)(a1:(dY 207 Unit (Pt list))):(D7 E (a0,a1)).T k=(E.EG (a0,(Sum.inl a1))).T λr1=>k (decide (r1>=0)):=dO
theorem zjF [aH](E:D6)(MS:Ok aC 238 (ae.un E.EG)):Ok aC 206 (ae.un (D7 E)):=dP (ay.nil.addF MS)
structure D8 where
 N:Nat
 EG:(Sl ax)×((dY 207 Unit (Pt list)) ⊕ (dY 230 Unit (Pt straight)) ⊕ (dY 257 Unit (Pt straight)))->ae Int
def D9(E:D8):(Sl ax)×(dY 230 Unit (Pt straight))->ae Bool:=ik E.N (Tabs.nil.addF 238 (ae.un E.EG)) 206
theorem zjG(E:D8){A:Type}(k:Bool→Option A)(a0:Sl ax)(a1:(dY 230 Unit (Pt straight))):(D9 E (a0,a1)).T k=(E.EG (a0,(Sum.inr (Sum.inl a1)))).T λr1=>k (decide (r1>=0)):=dO
theorem zjH [aH](E:D8)(MS:Ok aC 238 (ae.un E.EG)):Ok aC 206 (ae.un (D9 E)):=dP (ay.nil.addF MS)
structure Ea where
 N:Nat
 EG:(Sl ax)×((dY 207 Unit (Pt list)) ⊕ (dY 230 Unit (Pt straight)) ⊕ (dY 257 Unit (Pt straight)))->ae Int
def Eb(E:Ea):(Sl ax)×(dY 257 Unit (Pt straight))->ae Bool:=ik E.N (Tabs.nil.addF 238 (ae.un E.EG)) 206
theorem zjI(E:Ea){A:Type}(k:Bool→Option A)(a0:Sl ax)(a1:(dY 257 Unit (Pt straight))):(Eb E (a0,a1)).T k=(E.EG (a0,(Sum.inr (Sum.inr a1)))).T λr1=>k (decide (r1>=0)):=dO
theorem zjJ [aH](E:Ea)(MS:Ok aC 238 (ae.un E.EG)):Ok aC 206 (ae.un (Eb E)):=dP (ay.nil.addF MS)
structure zqO where
 N:Nat
def zqP(E:zqO):ax×(Pt list)->ae Bool:=ik E.N Tabs.nil 207
theorem e207(E:zqO){A:Type}(k:Bool→Option A)(a0:ax)(a1:Pt list):(zqP E (a0,a1)).T k=aU (decide ((0:Int)<=0/\0<(a1.v.bM.len:Int))) (k (a0.Z != (a1.v.bM.get 0).Z)):=dO
theorem zTl [aH](E:zqO):Ok aC 207 (ae.un (zqP E)):=dP ay.nil
structure zqQ where
 N:Nat
 NM:Int->ae Bool
def zqR(E:zqQ):Int×Int->ae Int:=ik E.N (Tabs.nil.addF 239 (ae.un E.NM)) 208
theorem e208(E:zqQ){A:Type}(k:Int→Option A)(a0 a1:Int):(zqR E (a0,a1)).T k=(E.NM a0).T λr1=>(E.NM a1).T λr2=>cond r1 (cond r2 (k 0) (k (-1))) (cond r2 (k 1) (cond (decide (a0<a1)) (k (-1)) (cond (decide (a0>a1)) (k 1) (k 0)))):=dO
theorem zTm [aH](E:zqQ)(WF:Ok aC 239 (ae.un E.NM)):Ok aC 208 (ae.un (zqR E)):=dP (ay.nil.addF WF)
structure zeN where
 N:Nat
abbrev zHl(E:zeN):bI:=gq Tabs.nil []
def zHm:dG:=bP aC 209 [] {}
def zqS(E:zeN):Int×Int->ae Int:=ae.ty (aF aC E.N (zHl E) zHm 209)
section
variable(E:zeN){A:Type}(k:Int->Option A)
def SQ(E:zeN)(n:Nat)(v0 v1:Int){A:Type}(k:Int->Option A):Option A:=gX aC (zHl E) E.N zHm 209 [1,0,0] [.n n] (gW k) ⟨[(0,.int v0),(1,.int v1)],[],[]⟩
theorem e209(a0 a1:Int):(zqS E (a0,a1)).T k=SQ E E.N a0 a1 k:=dO
theorem zze(n0:Nat)(v0 v1:Int):SQ E (n0+1) v0 v1 k=cond (decide (v1>0)) (aU (decide (v1≠0)) (SQ E n0 v1 (v0.tmod v1) k)) (k v0):=krY
end
theorem zTn [aH](E:zeN):Ok aC 209 (ae.un (zqS E)):=dP ay.nil
structure ve where
 N:Nat
 zlG:Int×(Pt (Pt aS))×(Pt Int)->ae Bool
abbrev WG(E:ve):bI:=gq (Tabs.nil.addF 180 (ae.un E.zlG)) []
def WH:dG:=bP aC 210 [] {}
def Ec(E:ve):(Sl Int)×(dY 180 Unit ((Pt (Pt aS))×(Pt Int)))->ae Int:=ae.ty (aF aC E.N (WG E) WH 210)
section
variable(E:ve){A:Type}(k:Int->Option A)
def wR(E:ve)(n:Nat)(a0:Sl Int)(a1:(dY 180 Unit ((Pt (Pt aS))×(Pt Int))))(v8:Int){A:Type}(k:Int->Option A):Option A:=gX aC (WG E) E.N WH 210 [1,0,1,0] [.n n] (gW k) ⟨[(0,eP a0),(1,eP a1),(7,.int (a0.len:Int)),(8,.int v8)],[],[]⟩
theorem zjK(a0:Sl Int)(a1:(dY 180 Unit ((Pt (Pt aS))×(Pt Int)))):(Ec E (a0,a1)).T k=wR E E.N a0 a1 0 k:=dO
theorem MV(n0:Nat)(a0:Sl Int)(a1:(dY 180 Unit ((Pt (Pt aS))×(Pt Int))))(v8:Int):wR E (n0+1) a0 a1 v8 k=cond (decide (v8<(a0.len:Int))) (aU (decide (0<=v8/\v8<(a0.len:Int))) ((E.zlG (a0.get v8.toNat,a1.v.1,a1.v.2)).T λr1=>cond r1 (k v8) (wR E n0 a0 a1 (aO (v8+1)) k))) (k (-1)):=krY
end
theorem zjL [aH](E:ve)(zzf:Ok aC 180 (ae.un E.zlG)):Ok aC 210 (ae.un (Ec E)):=dP (ay.nil.addF zzf)
structure vg where
 N:Nat
 zlI:Int×(Pt (Pt aS))×(Pt Int)->ae Bool
abbrev WI(E:vg):bI:=gq (Tabs.nil.addF 190 (ae.un E.zlI)) []
def WJ:dG:=bP aC 210 [] {}
def Ed(E:vg):(Sl Int)×(dY 190 Unit ((Pt (Pt aS))×(Pt Int)))->ae Int:=ae.ty (aF aC E.N (WI E) WJ 210)
section
variable(E:vg){A:Type}(k:Int->Option A)
def wS(E:vg)(n:Nat)(a0:Sl Int)(a1:(dY 190 Unit ((Pt (Pt aS))×(Pt Int))))(v8:Int){A:Type}(k:Int->Option A):Option A:=gX aC (WI E) E.N WJ 210 [1,0,1,0] [.n n] (gW k) ⟨[(0,eP a0),(1,eP a1),(7,.int (a0.len:Int)),(8,.int v8)],[],[]⟩
theorem zjM(a0:Sl Int)(a1:(dY 190 Unit ((Pt (Pt aS))×(Pt Int)))):(Ed E (a0,a1)).T k=wS E E.N a0 a1 0 k:=dO
theorem MW(n0:Nat)(a0:Sl Int)(a1:(dY 190 Unit ((Pt (Pt aS))×(Pt Int))))(v8:Int):wS E (n0+1) a0 a1 v8 k=cond (decide (v8<(a0.len:Int))) (aU (decide (0<=v8/\v8<(a0.len:Int))) ((E.zlI (a0.get v8.toNat,a1.v.1,a1.v.2)).T λr1=>cond r1 (k v8) (wS E n0 a0 a1 (aO (v8+1)) k))) (k (-1)):=krY
end
theorem zjN [aH](E:vg)(zzg:Ok aC 190 (ae.un E.zlI)):Ok aC 210 (ae.un (Ed E)):=dP (ay.nil.addF zzg)
structure zqT where
 N:Nat
 zs3:(Sl ax)->ae ((Sl Line)×Int)
def zqU(E:zqT):(Sl ax)->ae (Line×Int):=ik E.N (Tabs.nil.addF 240 (ae.un E.zs3)) 211
theorem e211(E:zqT){A:Type}(k:(Line×Int)→Option A)(a0:Sl ax):(zqU E (a0)).T k=(E.zs3 a0).T λr1=>cond (r1.2 != 0) (k ((⟨(⟨0,0⟩:aP),(⟨0,0⟩:aP)⟩:Line),r1.2)) (aU (decide ((0:Int)<=0/\0<(r1.1.len:Int))) (k ((r1.1.get 0),0))):=dO
theorem zTo [aH](E:zqT)(zzh:Ok aC 240 (ae.un E.zs3)):Ok aC 211 (ae.un (zqU E)):=dP (ay.nil.addF zzh)
structure zqV where
 N:Nat
def zqW(E:zqV):Int->ae Bool:=ik E.N Tabs.nil 222
theorem e222(E:zqV){A:Type}(k:Bool→Option A)(a0:Int):(zqW E (a0)).T k=k (a0 != a0):=dO
theorem zTp [aH](E:zqV):Ok aC 222 (ae.un (zqW E)):=dP ay.nil
structure WL where
 N:Nat
 zlK:ax×Int->ae Int
 c55:Int×Int×Int×Int->ae Line
abbrev zqX(E:WL):bI:=gq ((Tabs.nil.addF 247 (ae.un E.zlK)).addF 55 (ae.un E.c55)) []
def zqY:dG:=bP aC 225 [] {ks:=[(1,3,⟨[],[(3,65,114)],[],[],[],[],[]⟩),(1,6,⟨[],[(3,65,114)],[],[],[],[],[]⟩),(1,9,⟨[],[(3,65,114)],[],[],[],[],[]⟩)]}
def zqZ(E:WL):(Sl ax)->ae ((Sl Line)):=ae.ty (aF aC E.N (zqX E) zqY 225)
section
variable(E:WL){A:Type}(k:(Sl Line)->Option A)
def MX(E:WL)(n:Nat)(a0:Sl ax)(v4:Int)(Ou:Sl Line){A:Type}(k:(Sl Line)->Option A):Option A:=gX aC (zqX E) E.N zqY 225 [1,1,0,1,0] [.n n] (gW k) ⟨[(0,eP a0),(3,.cl (.vec 65)),(4,.int v4)],[(65,eV 114 4 32 Ou)],[]⟩
def F8(E:WL)(n0 n:Nat)(a0:Sl ax)(v4 v5:Int)(Ou:Sl Line){A:Type}(k:(Sl Line)->Option A):Option A:=gX aC (zqX E) E.N zqY 225 [1,1,0,1,0,0,1,0,0,1,0] [.n n0,.n n] (gW k) ⟨[(0,eP a0),(3,.cl (.vec 65)),(4,.int v4),(5,.int v5)],[(65,eV 114 4 32 Ou)],[]⟩
def F9(E:WL)(n0 n1 n:Nat)(a0:Sl ax)(v4 v5 v6:Int)(Ou:Sl Line){A:Type}(k:(Sl Line)->Option A):Option A:=gX aC (zqX E) E.N zqY 225 [1,1,0,1,0,0,1,0,0,1,0,0,1,0,0,1,0] [.n n0,.n n1,.n n] (gW k) ⟨[(0,eP a0),(3,.cl (.vec 65)),(4,.int v4),(5,.int v5),(6,.int v6)],[(65,eV 114 4 32 Ou)],[]⟩
theorem zTq(a0:Sl ax):(zqZ E (a0)).T k=MX E E.N a0 0 (⟨0,(λ_=>(⟨(⟨0,0⟩:aP),(⟨0,0⟩:aP)⟩:Line))⟩:(Sl Line)) k:=dO
theorem zjO(n0:Nat)(a0:Sl ax)(v4:Int)(Ou:Sl Line):MX E (n0+1) a0 v4 Ou k=cond (decide (v4<(a0.len:Int))) (F8 E n0 E.N a0 v4 (aO (v4+1)) Ou k) (k Ou):=krY
theorem zjP(n0 n1:Nat)(a0:Sl ax)(v4 v5:Int)(Ou:Sl Line):F8 E n0 (n1+1) a0 v4 v5 Ou k=cond (decide (v5<(a0.len:Int))) (F9 E n0 n1 E.N a0 v4 v5 0 Ou k) (MX E n0 a0 (aO (v4+1)) Ou k):=krY
theorem Z8(n0 n1 n2:Nat)(a0:Sl ax)(v4 v5 v6:Int)(Ou:Sl Line):F9 E n0 n1 (n2+1) a0 v4 v5 v6 Ou k=cond (decide (v6<4)) (aU (decide (0<=v4/\v4<(a0.len:Int))) (aU (decide (0<=v5/\v5<(a0.len:Int))) (cond ((a0.get v4.toNat).Z != (a0.get v5.toNat).Z) (aU (decide (0<=v4/\v4<(a0.len:Int))) (aU (decide (0<=v4/\v4<(a0.len:Int))) ((E.zlK ((a0.get v4.toNat),(aO (v6.tdiv 2)))).T λr1=>aU (decide (0<=v5/\v5<(a0.len:Int))) (aU (decide (0<=v5/\v5<(a0.len:Int))) ((E.zlK ((a0.get v5.toNat),(v6.tmod 2))).T λr2=>(E.c55 ((a0.get v4.toNat).Z,r1,(a0.get v5.toNat).Z,r2)).T λr3=>aU (room (Ou.len+1) 32) (F9 E n0 n1 n2 a0 v4 v5 (aO (v6+1)) (⟨(Ou.len+1),(jY Ou.len Ou.get (λ_=>r3))⟩:(Sl Line)) k)))))) (F8 E n0 n1 a0 v4 (aO (v5+1)) Ou k)))) (F8 E n0 n1 a0 v4 (aO (v5+1)) Ou k):=krY
end
theorem zTr [aH](E:WL)(zq0:Ok aC 247 (ae.un E.zlK))(h55:Ok aC 55 (ae.un E.c55)):Ok aC 225 (ae.un (zqZ E)):=dP ((ay.nil.addF zq0).addF h55)
structure zq1 where
 N:Nat
 zaG:Line×(Sl ax)->ae Bool
 c56:aP×aP->ae Bool
def zq2(E:zq1):Line×Line×(Sl ax)->ae Bool:=ik E.N ((Tabs.nil.addF 248 (ae.un E.zaG)).addF 56 (ae.un E.c56)) 226
theorem e226(E:zq1){A:Type}(k:Bool→Option A)(a0 a1:Line)(a2:Sl ax):(zq2 E (a0,a1,a2)).T k=(E.zaG (a0,a2)).T λr1=>(E.zaG (a1,a2)).T λr2=>cond (r1 != r2) ((E.zaG (a0,a2)).T λr3=>k r3) ((E.zaG (a0,a2)).T λr4=>cond r4 ((E.c56 (a0.dX,a1.dX)).T λr5=>k r5) ((E.c56 (a1.dX,a0.dX)).T λr6=>k r6)):=dO
theorem zTt [aH](E:zq1)(zq3:Ok aC 248 (ae.un E.zaG))(h56:Ok aC 56 (ae.un E.c56)):Ok aC 226 (ae.un (zq2 E)):=dP ((ay.nil.addF zq3).addF h56)
structure zq4 where
 N:Nat
def zq5(E:zq4):af×Int×Int->ae af:=ik E.N Tabs.nil 227
theorem e227(E:zq4){A:Type}(k:af→Option A)(a0:af)(a1 a2:Int):(zq5 E (a0,a1,a2)).T k=aU (room a0.Hits.len 8) (aU (room (a0.Hits.len+1) 8) (aU (room a0.aV.len 8) (aU (room (a0.aV.len+1) 8) (k (⟨a0.View,(⟨(a0.Hits.len+1),(jY a0.Hits.len a0.Hits.get (λ_=>a1))⟩:(Sl Int)),(⟨(a0.aV.len+1),(jY a0.aV.len a0.aV.get (λ_=>a2))⟩:(Sl Int))⟩:af))))):=dO
theorem zTu [aH](E:zq4):Ok aC 227 (ae.un (zq5 E)):=dP ay.nil
structure WM where
 N:Nat
 c229:Int×Int×Int×Int->ae straight
abbrev zzi(E:WM):bI:=gq (Tabs.nil.addF 229 (ae.un E.c229)) []
def zzj:dG:=bP aC 228 [0] {ks:=[(1,4,⟨[],[],[],[],[4],[],[]⟩)],unr:=[(8,3),(11,3)],yl:=[13]}
def zHn(E:WM)(c:List PA):YO:=aI aC (zzi E) E.N zzj 228 c
def zzk(E:WM):(Pt list)->ae (List (straight)):=ae.tyI λc=>.opt (zHn E c)
section
variable(E:WM)
def MZ(E:WM)(n:Nat)(a1:Pt list)(iD:Int):YO:=ptY aC (zzi E) E.N zzj 228 [1,0] [n] ⟨[(0,.cl (.vec 4095)),(1,eP a1),(12,eP a1.v.bM),(13,.int (a1.v.bM.len:Int)),(14,.int iD)],[(4095,.gone)],[]⟩
def Na(E:WM)(n0 n:Nat)(a1:Pt list)(iD:Int)(v23:Sl ax)(v24 v25:Int)(x4:ax):YO:=ptY aC (zzi E) E.N zzj 228 [1,0,0,1,1,0,0,1,1,0] [n0,n] ⟨[(0,.cl (.vec 4095)),(1,eP a1),(4,.cl (.ptr 4 0)),(12,eP a1.v.bM),(13,.int (a1.v.bM.len:Int)),(14,.int iD),(23,eP v23),(24,.int v24),(25,.int v25)],[(4095,.gone),(4,.fbox (bG.enc x4))],[]⟩
theorem e228(a1:Pt list):zHn E (dE.enc ((a1):(Pt list)))=MZ E E.N a1 0:=krY
theorem zjQ(n0:Nat)(a1:Pt list)(iD:Int):MZ E (n0+1) a1 iD=cond (decide (iD<(a1.v.bM.len:Int))) (aU (decide (0<=iD/\iD<(a1.v.bM.len:Int))) (aU (decide ((0:Int)<=(aO (iD+1))/\((aO (iD+1)):Int)<=(a1.v.bM.len:Int)/\(a1.v.bM.len:Int)<=(a1.v.bM.len:Int))) (Na E n0 E.N a1 iD (⟨(((a1.v.bM.len:Int):Int)-(aO (iD+1))).toNat,(Ar a1.v.bM.get (aO (iD+1)).toNat)⟩:(Sl ax)) ((((a1.v.bM.len:Int):Int)-(aO (iD+1))).toNat:Int) 0 (a1.v.bM.get iD.toNat)))) (some []):=krY
theorem zjR(n0 n1:Nat)(a1:Pt list)(iD:Int)(v23:Sl ax)(v24 v25:Int)(x4:ax):Na E n0 (n1+1) a1 iD v23 v24 v25 x4=cond (decide (v25<v24)) (aU (decide (0<=v25/\v25<(v23.len:Int))) (cond (x4.Z==(v23.get v25.toNat).Z) (Na E n0 n1 a1 iD v23 v24 (aO (v25+1)) x4) ((E.c229 (x4.Z,x4.Low,(v23.get v25.toNat).Z,(v23.get v25.toNat).Low)).T λr1=>yT (dE.enc (r1:straight)) (some []) ((E.c229 (x4.Z,x4.Low,(v23.get v25.toNat).Z,(v23.get v25.toNat).High)).T λr2=>yT (dE.enc (r2:straight)) (some []) ((E.c229 (x4.Z,x4.High,(v23.get v25.toNat).Z,(v23.get v25.toNat).Low)).T λr3=>yT (dE.enc (r3:straight)) (some []) ((E.c229 (x4.Z,x4.High,(v23.get v25.toNat).Z,(v23.get v25.toNat).High)).T λr4=>yT (dE.enc (r4:straight)) (some []) (Na E n0 n1 a1 iD v23 v24 (aO (v25+1)) x4))))))) (MZ E n0 a1 (aO (iD+1))):=krY
end
theorem zTv(E:WM)(zeO:Ok aC 229 (ae.un E.c229)):zT aC 228 (ae.unI (zzk E)):=RH (LK (ay.nil.addF zeO) (dJ krY))
structure zq6 where
 N:Nat
def zq7(E:zq6):Int×Int×Int×Int->ae straight:=ik E.N Tabs.nil 229
theorem e229(E:zq6){A:Type}(k:straight→Option A)(a0 a1 a2 a3:Int):(zq7 E (a0,a1,a2,a3)).T k=cond (decide (a0>a2)) (k (⟨(aO (a1-a3)),(aO ((aO (a3*a0))-(aO (a1*a2)))),(aO (a0-a2))⟩:straight)) (k (⟨(aO (a3-a1)),(aO ((aO (a1*a2))-(aO (a3*a0)))),(aO (a2-a0))⟩:straight)):=dO
theorem zTw [aH](E:zq6):Ok aC 229 (ae.un (zq7 E)):=dP ay.nil
structure zq8 where
 N:Nat
 zsZ:straight×ax->ae Bool
def zq9(E:zq8):ax×(Pt straight)->ae Bool:=ik E.N (Tabs.nil.addF 231 (ae.un E.zsZ)) 230
theorem e230(E:zq8){A:Type}(k:Bool→Option A)(a0:ax)(a1:Pt straight):(zq9 E (a0,a1)).T k=(E.zsZ (a1.v,a0)).T λr1=>k (!r1):=dO
theorem zTx [aH](E:zq8)(zzl:Ok aC 231 (ae.un E.zsZ)):Ok aC 230 (ae.un (zq9 E)):=dP (ay.nil.addF zzl)
structure zra where
 N:Nat
 c157:Int×Int×Int->ae Bool
def zrb(E:zra):straight×ax->ae Bool:=ik E.N (Tabs.nil.addF 157 (ae.un E.c157)) 231
theorem e231(E:zra){A:Type}(k:Bool→Option A)(a0:straight)(a1:ax):(zrb E (a0,a1)).T k=(E.c157 ((aO (a0.start+(aO (a0.bD*a1.Z)))),(aO (a1.Low*a0.den)),(aO (a1.High*a0.den)))).T λr1=>k r1:=dO
theorem zTy [aH](E:zra)(BD:Ok aC 157 (ae.un E.c157)):Ok aC 231 (ae.un (zrb E)):=dP (ay.nil.addF BD)
structure zrd where
 N:Nat
 NM:Int->ae Bool
def zre(E:zrd):Int×Int->ae Bool:=ik E.N (Tabs.nil.addF 239 (ae.un E.NM)) 236
theorem zTz(E:zrd){A:Type}(k:Bool→Option A)(a0 a1:Int):(zre E (a0,a1)).T k=(E.NM a0).T λr1=>cond r1 ((E.NM a1).T λr2=>cond (!r2) (k true) (k (decide (a0<a1)))) (k (decide (a0<a1))):=dO
theorem zTA [aH](E:zrd)(WF:Ok aC 239 (ae.un E.NM)):Ok aC 236 (ae.un (zre E)):=dP (ay.nil.addF WF)
structure zrf where
 N:Nat
def zrg(E:zrf):Int->ae Bool:=ik E.N Tabs.nil 237
theorem e237(E:zrf){A:Type}(k:Bool→Option A)(a0:Int):(zrg E (a0)).T k=k (a0 != a0):=dO
theorem zTB [aH](E:zrf):Ok aC 237 (ae.un (zrg E)):=dP ay.nil
structure vk where
 N:Nat
 zsS:ax×(Pt list)->ae Bool
abbrev WN(E:vk):bI:=gq (Tabs.nil.addF 207 (ae.un E.zsS)) []
def WP:dG:=bP aC 238 [] {}
def Ee(E:vk):(Sl ax)×(dY 207 Unit (Pt list))->ae Int:=ae.ty (aF aC E.N (WN E) WP 238)
section
variable(E:vk){A:Type}(k:Int->Option A)
def wU(E:vk)(n:Nat)(a0:Sl ax)(a1:(dY 207 Unit (Pt list)))(v8:Int){A:Type}(k:Int->Option A):Option A:=gX aC (WN E) E.N WP 238 [1,0,1,0] [.n n] (gW k) ⟨[(0,eP a0),(1,.p (.fn 207 [] [.fp [.sl a1.v.v.bM.len 3 (λi=>bG.enc (a1.v.v.bM.get i))] 0])),(7,.int (a0.len:Int)),(8,.int v8)],[],[]⟩
theorem zjS(a0:Sl ax)(a1:(dY 207 Unit (Pt list))):(Ee E (a0,a1)).T k=wU E E.N a0 a1 0 k:=dO
theorem Nb(n0:Nat)(a0:Sl ax)(a1:(dY 207 Unit (Pt list)))(v8:Int):wU E (n0+1) a0 a1 v8 k=cond (decide (v8<(a0.len:Int))) (aU (decide (0<=v8/\v8<(a0.len:Int))) ((E.zsS ((a0.get v8.toNat),a1.v)).T λr1=>cond r1 (k v8) (wU E n0 a0 a1 (aO (v8+1)) k))) (k (-1)):=krY
end
theorem zjT [aH](E:vk)(zzm:Ok aC 207 (ae.un E.zsS)):Ok aC 238 (ae.un (Ee E)):=dP (ay.nil.addF zzm)
structure vz where
 N:Nat
 zsY:ax×(Pt straight)->ae Bool
abbrev WQ(E:vz):bI:=gq (Tabs.nil.addF 230 (ae.un E.zsY)) []
def WR:dG:=bP aC 238 [] {}
def Ef(E:vz):(Sl ax)×(dY 230 Unit (Pt straight))->ae Int:=ae.ty (aF aC E.N (WQ E) WR 238)
section
variable(E:vz){A:Type}(k:Int->Option A)
def wV(E:vz)(n:Nat)(a0:Sl ax)(a1:(dY 230 Unit (Pt straight)))(v8:Int){A:Type}(k:Int->Option A):Option A:=gX aC (WQ E) E.N WR 238 [1,0,1,0] [.n n] (gW k) ⟨[(0,eP a0),(1,eP a1),(7,.int (a0.len:Int)),(8,.int v8)],[],[]⟩
theorem zjU(a0:Sl ax)(a1:(dY 230 Unit (Pt straight))):(Ef E (a0,a1)).T k=wV E E.N a0 a1 0 k:=dO
theorem Nc(n0:Nat)(a0:Sl ax)(a1:(dY 230 Unit (Pt straight)))(v8:Int):wV E (n0+1) a0 a1 v8 k=cond (decide (v8<(a0.len:Int))) (aU (decide (0<=v8/\v8<(a0.len:Int))) ((E.zsY ((a0.get v8.toNat),a1.v)).T λr1=>cond r1 (k v8) (wV E n0 a0 a1 (aO (v8+1)) k))) (k (-1)):=krY
end
theorem zjV [aH](E:vz)(zzn:Ok aC 230 (ae.un E.zsY)):Ok aC 238 (ae.un (Ef E)):=dP (ay.nil.addF zzn)
structure vC where
 N:Nat
 zs4:ax×(Pt straight)->ae Bool
abbrev WS(E:vC):bI:=gq (Tabs.nil.addF 257 (ae.un E.zs4)) []
def WT:dG:=bP aC 238 [] {}
def Eg(E:vC):(Sl ax)×(dY 257 Unit (Pt straight))->ae Int:=ae.ty (aF aC E.N (WS E) WT 238)
section
variable(E:vC){A:Type}(k:Int->Option A)
def wW(E:vC)(n:Nat)(a0:Sl ax)(a1:(dY 257 Unit (Pt straight)))(v8:Int){A:Type}(k:Int->Option A):Option A:=gX aC (WS E) E.N WT 238 [1,0,1,0] [.n n] (gW k) ⟨[(0,eP a0),(1,eP a1),(7,.int (a0.len:Int)),(8,.int v8)],[],[]⟩
theorem zjW(a0:Sl ax)(a1:(dY 257 Unit (Pt straight))):(Eg E (a0,a1)).T k=wW E E.N a0 a1 0 k:=dO
theorem Nh(n0:Nat)(a0:Sl ax)(a1:(dY 257 Unit (Pt straight)))(v8:Int):wW E (n0+1) a0 a1 v8 k=cond (decide (v8<(a0.len:Int))) (aU (decide (0<=v8/\v8<(a0.len:Int))) ((E.zs4 ((a0.get v8.toNat),a1.v)).T λr1=>cond r1 (k v8) (wW E n0 a0 a1 (aO (v8+1)) k))) (k (-1)):=krY
end
theorem zjX [aH](E:vC)(zzo:Ok aC 257 (ae.un E.zs4)):Ok aC 238 (ae.un (Eg E)):=dP (ay.nil.addF zzo)
structure zrh where
 N:Nat
def zri(E:zrh):Int->ae Bool:=ik E.N Tabs.nil 239
theorem zTC(E:zrh){A:Type}(k:Bool→Option A)(a0:Int):(zri E (a0)).T k=k (a0 != a0):=dO
theorem zTD [aH](E:zrh):Ok aC 239 (ae.un (zri E)):=dP ay.nil
structure zeP where
 N:Nat
 c117:(Sl ax)×((dY 118 Unit Unit) ⊕ (dY 162 Unit (Pt Int)))->ae (set×Int)
 zlL:set->ae ((Sl straight))
 c198:straight->ae Line
abbrev zHo(E:zeP):bI:=gq (((Tabs.nil.addF 117 (ae.un E.c117)).addF 249 (ae.un E.zlL)).addF 198 (ae.un E.c198)) []
def zHp:dG:=bP aC 240 [] {ks:=[(1,6,⟨[],[(6,28,114)],[],[],[],[],[]⟩)]}
def zjY(E:zeP):(Sl ax)->ae ((Sl Line)×Int):=ae.ty (aF aC E.N (zHo E) zHp 240)
section
variable(E:zeP){A:Type}(k:((Sl Line)×Int)->Option A)
def Gf(E:zeP)(n:Nat)(Uo:Sl straight)(zJ v20:Int)(w28:Sl Line){A:Type}(k:((Sl Line)×Int)->Option A):Option A:=gX aC (zHo E) E.N zHp 240 [1,1,1,1,0,1,0] [.n n] (gW k) ⟨[(6,.cl (.vec 28)),(18,eP Uo),(19,.int zJ),(20,.int v20)],[(28,eV 114 4 32 w28)],[]⟩
theorem e240(a0:Sl ax):(zjY E (a0)).T k=(E.c117 (a0,(Sum.inl (⟨(),()⟩:(dY 118 Unit Unit))))).T λr1=>cond (r1.2 != 0) (k ((⟨0,λ_=>default⟩:(Sl Line)),r1.2)) ((E.zlL r1.1).T λr2=>Gf E E.N r2 (r2.len:Int) 0 (⟨0,(λ_=>(⟨(⟨0,0⟩:aP),(⟨0,0⟩:aP)⟩:Line))⟩:(Sl Line)) k):=dO
theorem zjZ(n0:Nat)(Uo:Sl straight)(zJ v20:Int)(w28:Sl Line):Gf E (n0+1) Uo zJ v20 w28 k=cond (decide (v20<zJ)) (aU (decide (0<=v20/\v20<(Uo.len:Int))) ((E.c198 (Uo.get v20.toNat)).T λr1=>aU (room (w28.len+1) 32) (Gf E n0 Uo zJ (aO (v20+1)) (⟨(w28.len+1),(jY w28.len w28.get (fun _=>r1))⟩:(Sl Line)) k))) (k (w28,0)):=krY
end
theorem zTE [aH](E:zeP)(ZG:Ok aC 117 (ae.un E.c117))(zzp:Ok aC 249 (ae.un E.zlL))(ZW:Ok aC 198 (ae.un E.c198)):Ok aC 240 (ae.un (zjY E)):=dP (((ay.nil.addF ZG).addF zzp).addF ZW)
structure zrj where
 N:Nat
def zrk(E:zrj):ax×Int->ae Int:=ik E.N Tabs.nil 247
theorem e247(E:zrj){A:Type}(k:Int→Option A)(a0:ax)(a1:Int):(zrk E (a0,a1)).T k=cond (a1==0) (k a0.Low) (k a0.High):=dO
theorem zTF [aH](E:zrj):Ok aC 247 (ae.un (zrk E)):=dP ay.nil
structure zeQ where
 N:Nat
 TS:Line×Int->ae (Int×Int)
abbrev zHq(E:zeQ):bI:=gq (Tabs.nil.addF 166 (ae.un E.TS)) []
def zHr:dG:=bP aC 248 [] {}
def zrl(E:zeQ):Line×(Sl ax)->ae Bool:=ae.ty (aF aC E.N (zHq E) zHr 248)
section
variable(E:zeQ){A:Type}(k:Bool->Option A)
def SS(E:zeQ)(n:Nat)(a0:Line)(a1:Sl ax)(v5:Int){A:Type}(k:Bool->Option A):Option A:=gX aC (zHq E) E.N zHr 248 [1,0,1,0] [.n n] (gW k) ⟨[(1,eP a1),(2,.cl (.ptr 2 0)),(5,.int v5)],[(2,eB 114 a0)],[]⟩
theorem e248(a0:Line)(a1:Sl ax):(zrl E (a0,a1)).T k=SS E E.N a0 a1 0 k:=dO
theorem zj0(n0:Nat)(a0:Line)(a1:Sl ax)(v5:Int):SS E (n0+1) a0 a1 v5 k=cond (decide (v5<(a1.len:Int))) (aU (decide (0<=v5/\v5<(a1.len:Int))) ((E.TS (a0,(a1.get v5.toNat).Z)).T λr1=>aU (decide (0<=v5/\v5<(a1.len:Int))) (cond (r1.1==(aO ((a1.get v5.toNat).Low*r1.2))) (k true) (SS E n0 a0 a1 (aO (v5+1)) k)))) (k false):=krY
end
theorem zTG [aH](E:zeQ)(ZJ:Ok aC 166 (ae.un E.TS)):Ok aC 248 (ae.un (zrl E)):=dP (ay.nil.addF ZJ)
structure zrm where
 N:Nat
 X5:straight×straight×(Pt set)->ae Int
def zrn(E:zrm):set->ae ((Sl straight)):=ik E.N (((Tabs.nil.addO 252 (.clone 204 3 24)).addO 253 (.sort 204 3 24)).addC 254 (ae.un E.X5)) 249
theorem e249(E:zrm){A:Type}(k:(Sl straight)→Option A)(a0:set):(zrn E (a0)).T k=aU (room a0.cZ.len 24) (aU (soP (ae.un E.X5) (bG.enc (⟨a0⟩:(Pt set))) true a0.cZ) (k (⟨a0.cZ.len,(soG (ae.un E.X5) (bG.enc (⟨a0⟩:(Pt set))) true a0.cZ)⟩:(Sl straight)))):=dO
theorem zTH [aH](E:zrm)(zTI:fU aC 252 (.clone 204 3 24))(zTJ:fU aC 253 (.sort 204 3 24))(zTK : @Ok ⟨1⟩ aC 254 (ae.un E.X5)):Ok aC 249 (ae.un (zrn E)):=dP (((ay.nil.addO zTI).addO zTJ).addC zTK)
structure zro where
 N:Nat
 zlM:set×straight->ae Bool
 kE:Int×Int->ae aP
 EF:aP×aP->ae Int
def zrp(E:zro):straight×straight×(Pt set)->ae Int:=ik E.N (((Tabs.nil.addF 255 (ae.un E.zlM)).addF 172 (ae.un E.kE)).addF 170 (ae.un E.EF)) 254
theorem e254(E:zro){A:Type}(k:Int→Option A)(a0 a1:straight)(a2:Pt set):(zrp E (a0,a1,a2)).T k=(E.zlM (a2.v,a0)).T λr1=>(E.zlM (a2.v,a1)).T λr2=>(E.kE (a0.bD,a0.den)).T λr3=>(E.kE (a1.bD,a1.den)).T λr4=>(E.EF (r3,r4)).T λr5=>cond r1 (cond r2 (k r5) (cond r1 (k (-1)) (cond r2 (k 1) (k (aO (0-r5)))))) (cond r1 (k (-1)) (cond r2 (k 1) (k (aO (0-r5))))):=dO
theorem zTL [aH](E:zro)(zrq:Ok aC 255 (ae.un E.zlM))(qo:Ok aC 172 (ae.un E.kE))(MP:Ok aC 170 (ae.un E.EF)):Ok aC 254 (ae.un (zrp E)):=dP (((ay.nil.addF zrq).addF qo).addF MP)
structure zrr where
 N:Nat
 c206:(Sl ax)×((dY 207 Unit (Pt list)) ⊕ (dY 230 Unit (Pt straight)) ⊕ (dY 257 Unit (Pt straight)))->ae Bool
def zrt(E:zrr):set×straight->ae Bool:=ik E.N (Tabs.nil.addF 206 (ae.un E.c206)) 255
theorem zTM(E:zrr){A:Type}(k:Bool→Option A)(a0:set)(a1:straight):(zrt E (a0,a1)).T k=(E.c206 (a0.list.bM,(Sum.inr (Sum.inr (⟨(),(⟨a1⟩:(Pt straight))⟩:(dY 257 Unit (Pt straight))))))).T λr1=>k r1:=dO
theorem zTN [aH](E:zrr)(MM:Ok aC 206 (ae.un E.c206)):Ok aC 255 (ae.un (zrt E)):=dP (ay.nil.addF MM)
structure zru where
 N:Nat
def zrv(E:zru):ax×(Pt straight)->ae Bool:=ik E.N Tabs.nil 257
theorem e257(E:zru){A:Type}(k:Bool→Option A)(a0:ax)(a1:Pt straight):(zrv E (a0,a1)).T k=k ((aO (a1.v.start+(aO (a1.v.bD*a0.Z))))==(aO (a0.Low*a1.v.den))):=dO
theorem zTO [aH](E:zru):Ok aC 257 (ae.un (zrv E)):=dP ay.nil
theorem qp{x y X Y:Int}(h1 : -X<=x)(h2:x<=X)(h3:0<=y)(h4:y<=Y) : -(X*Y)<=x*y/\x*y<=X*Y:=by
 have hX:0<=X:=by omega
 have a:=Qy h2 h3;have b:=dqV h4 hX;have c:=Qy h1 h3;rw[Int.neg_mul]at c;omega
def red(num den:Int):aP:=⟨num.tdiv (Int.gcd num den:Int),den.tdiv (Int.gcd num den:Int)⟩
theorem zj1(num:Int):(if -num>num then -num else num)=(num.natAbs:Int):=by split<;>omega
theorem zci(num den:Int):Int.gcd (num.natAbs:Int) den=Int.gcd num den:=by
 unfold Int.gcd;rw[Int.natAbs_natCast]
theorem lh{num den:Int}(hd:0<den):0<(Int.gcd num den:Int):=by
 have:Int.gcd num den≠0:=λh=>by have:=(Int.gcd_eq_zero_iff.1 h).2;omega
 omega
theorem zHs(num den:Int):∃a,num=(Int.gcd num den:Int)*a:=Int.gcd_dvd_left num den
theorem zHt(num den:Int):∃a,den=(Int.gcd num den:Int)*a:=Int.gcd_dvd_right num den
theorem qw{num den:Int}(hd:0<den):(Int.gcd num den:Int)*(red num den).Num=num:=by
 have hg:=lh (num:=num) hd;obtain⟨a,ha⟩:=zHs num den;show(Int.gcd num den:Int)*num.tdiv (Int.gcd num den:Int)=num;generalize (Int.gcd num den:Int)=g at ha hg ⊢;rw[ha,qdP _ omY]
theorem oz{num den:Int}(hd:0<den):(Int.gcd num den:Int)*(red num den).bV=den:=by
 have hg:=lh (num:=num) hd;obtain⟨a,ha⟩:=zHt num den;show(Int.gcd num den:Int)*den.tdiv (Int.gcd num den:Int)=den;generalize (Int.gcd num den:Int)=g at ha hg ⊢;rw[ha,qdP _ omY]
theorem mO{num den:Int}(hd:0<den):0<(red num den).bV:=by
 have h1:=oz (num:=num) hd;have hg:=lh (num:=num) hd;rcases qdY 0 (red num den).bV with h|h
 exact h;have:=dqV h (xQ hg);rw[h1,qj3]at this;omega
theorem Nj{num den:Int}(hd:0<den):(red num den).bV<=den:=by
 have h1:=oz (num:=num) hd;have hg:=lh (num:=num) hd;have:=Qy (show(1:Int)<=(Int.gcd num den:Int)by omega) (xQ (mO (num:=num) hd));omega
theorem Eh{num den:Int}(hd:0<den) : -(num.natAbs:Int)<=(red num den).Num/\(red num den).Num<=(num.natAbs:Int):=by
 have h1:=qw (num:=num) hd;have hg:=lh (num:=num) hd;have h2:num.natAbs=(Int.gcd num den)*(red num den).Num.natAbs:=by
  have:=kz Int.natAbs h1;rw[jql]at this;simpa using this.symm
 have h3:(red num den).Num.natAbs<=num.natAbs:=by
  rw[h2];exact Nat.le_mul_of_pos_left _ omY
 omega
theorem zcj{num den:Int}(hd:0<den):Int.gcd (red num den).Num (red num den).bV=1:=by
 have h1:=qw (num:=num) hd;have h2:=oz (num:=num) hd;have hg:=lh (num:=num) hd;have h3:Int.gcd ((Int.gcd num den:Int)*(red num den).Num) ((Int.gcd num den:Int)*(red num den).bV)=Int.gcd num den*Int.gcd (red num den).Num (red num den).bV:=by
  rw[Int.gcd_mul_left];simp
 rw[h1,h2]at h3;have h4:Int.gcd num den*1=Int.gcd num den*Int.gcd (red num den).Num (red num den).bV:=by rw[Nat.mul_one];exact h3
 exact(Nat.eq_of_mul_eq_mul_left omY h4).symm
theorem Z9{a b c d:Int}(hb:0<b)(hd:0<d):red a b=red c d↔a*d=c*b:=by
 have a1:=qw (num:=a) hb;have a2:=oz (num:=a) hb;have c1:=qw (num:=c) hd;have c2:=oz (num:=c) hd;constructor;intro h;rw[h]at a1 a2;generalize hG:(Int.gcd a b:Int)=G at a1 a2;generalize hK:(Int.gcd c d:Int)=K at c1 c2;generalize (red c d).Num=x at a1 c1;generalize (red c d).bV=y at a2 c2;subst a1;subst a2;subst c1;subst c2
 ac_rfl
 ·intro h;have ga:=zcj (num:=a) hb;have gc:=zcj (num:=c) hd;have pa:=mO (num:=a) hb;have pc:=mO (num:=c) hd;have hG:=lh (num:=a) hb;have hK:=lh (num:=c) hd
  -- Qu products of the lowest forms
  have hx:(red a b).Num*(red c d).bV=(red c d).Num*(red a b).bV:=by
   have e:((Int.gcd a b:Int)*(Int.gcd c d:Int))*((red a b).Num*(red c d).bV)=((Int.gcd a b:Int)*(Int.gcd c d:Int))*((red c d).Num*(red a b).bV):=by
    have l1:((Int.gcd a b:Int)*(Int.gcd c d:Int))*((red a b).Num*(red c d).bV)=((Int.gcd a b:Int)*(red a b).Num)*((Int.gcd c d:Int)*(red c d).bV):=by
     generalize (Int.gcd a b:Int)=G;generalize (Int.gcd c d:Int)=K
     ac_rfl
    have l2:((Int.gcd a b:Int)*(Int.gcd c d:Int))*((red c d).Num*(red a b).bV)=((Int.gcd c d:Int)*(red c d).Num)*((Int.gcd a b:Int)*(red a b).bV):=by
     generalize (Int.gcd a b:Int)=G;generalize (Int.gcd c d:Int)=K
     ac_rfl
    rw[l1,l2,a1,a2,c1,c2];exact h
   exact Int.eq_of_mul_eq_mul_left (by have:=qjS hG hK;omega) e
  have xW:=kz Int.natAbs hx;rw[jql,jql]at xW;have ga':Nat.Coprime (red a b).bV.natAbs (red a b).Num.natAbs:=(qj4 _ _).trans ga;have gc':Nat.Coprime (red c d).bV.natAbs (red c d).Num.natAbs:=(qj4 _ _).trans gc;have d1:(red a b).bV∣(red c d).bV:=jqE.1 (ga'.dvd_of_dvd_mul_left ⟨(red c d).Num.natAbs,by rw[xW,qdD]⟩);have d2:(red c d).bV∣(red a b).bV:=jqE.1 (gc'.dvd_of_dvd_mul_left ⟨(red a b).Num.natAbs,by rw[<- xW,qdD]⟩);have ztc:(red a b).bV=(red c d).bV:=Int.le_antisymm (Int.le_of_dvd pc d1) (Int.le_of_dvd pa d2);rw[<- ztc]at hx;have zC3:=Int.eq_of_mul_eq_mul_right omY hx;cases h1:red a b;cases h2:red c d;rw[h1,h2]at ztc zC3;simp only at ztc zC3;rw[ztc,zC3]
def EP(z p y q:Int):straight:=if z>y then⟨p-q,q*z-p*y,z-y⟩else⟨q-p,p*y-q*z,y-z⟩
def gu(s:straight):Line:=⟨red s.bD s.den,red s.start s.den⟩
theorem WU{a b:Int}(ha:0<=a)(hb:0<b):0<=a.tmod b/\a.tmod b<b/\Int.gcd b (a.tmod b)=Int.gcd a b:=by
 refine⟨Int.tmod_nonneg b ha,Int.tmod_lt_of_pos a hb,?_⟩;obtain⟨m,rfl⟩:=jqs ha;obtain⟨n,rfl⟩:=jqs (xQ hb);show Nat.gcd n (m%n)=Nat.gcd m n;rw[qj4 m n,Nat.gcd_rec n m,qj4]
theorem WV{A:Type}{X:Nat→Int→Int→Option A}{k:Int→Option A}(hX:∀n a b,0≤a→0≤b→X (n+1) a b=if b=0 then k a else X n b (a.tmod b)) :
  ∀(m n:Nat)(a b:Int),0<=a->0<=b->b<2^m->2*m<n->X n a b=k (Int.gcd a b:Int):=by
 have zero:∀a:Int,0<=a->(Int.gcd a 0:Int)=a:=λa ha=>by rw[Int.gcd_zero_right];omega
 intro m
 induction m with
 | zero =>
  intro n a b ha hb hm hn;obtain⟨n,rfl⟩:∃n',n=n'+1:=⟨n-1,omY⟩;have:b=0:=by simp at hm;omega
  subst this;rw[hX n a 0 ha hb,eX rfl,zero a ha]
 | succ m ih =>
  intro n a b ha hb hm hn;obtain⟨n,rfl⟩:∃n',n=n'+1+1:=⟨n-2,omY⟩;rw[hX _ a b ha hb];by_cases h0:b=0;subst h0;rw[eX rfl,zero a ha];rw[fF h0];obtain⟨r0,r1,g1⟩:=WU ha (show 0<b by omega);rw[hX _ b _ hb r0];by_cases h1:a.tmod b=0;rw[eX h1,<- g1,h1,zero b hb];rw[fF h1];obtain⟨q0,q1,g2⟩:=WU hb (show 0<a.tmod b by omega);rw[ih n _ _ r0 q0 ?_ omY,g2,g1];have e:=Int.tmod_add_mul_tdiv b (a.tmod b);have hq:1<=b.tdiv (a.tmod b):=by
   rcases qdY 0 (b.tdiv (a.tmod b))with h|h
   omega;have:=dqV h r0;rw[qj3]at this;omega
  have:=dqV hq r0;rw[Int.mul_one]at this;have h2:(2:Int)^(m+1)=2^m*2:=Int.pow_succ 2 m;omega
abbrev zaa(C:Int×Int->ae Int):Prop:=∀a b,0<=a->0<=b->b<=1152921504606846976->C (a,b)=.ok (Int.gcd a b:Int)
theorem zTP{E:zeN}(N:Big E.N):zaa (zqS E):=λa b ha hb hk=>ae.ext λk=>by
 rw[e209,aX];refine WV (X:=λn a b=>SQ E n a b k) (λn a b h1 h2=>?_) 61 _ a b ha hb omY (by have:=N;omega);rw[zze];by_cases h:b=0;subst h;rfl;rw[dM (show b>0 by omega),dS,bn h,fF h]
theorem zTQ{E:zey}(N:Big E.N):zaa (zpj E):=λa b ha hb hk=>ae.ext λk=>by
 rw[e125,aX];refine WV (X:=λn a b=>SA E n a b k) (λn a b h1 h2=>?_) 61 _ a b ha hb omY (by have:=N;omega);rw[zyF];by_cases h:b=0;subst h;rfl;rw[show(b != 0)=true by simpa using h,dS,bn h,fF h]
abbrev IA(C:Int×Int->ae aP):Prop:=∀a b,-1000000000000000000<=a->a<=1000000000000000000->0<b->b<=1000000000000000000->C (a,b)=.ok (red a b)
theorem zuK{num den:Int}(h1 : -1000000000000000000≤num)(h2:num≤1000000000000000000)(hd:0<den)(hd2:den≤1000000000000000000){A:Type}(k:aP→Option A) :
  aU (decide ((Int.gcd num den:Int)≠0)) (aU (decide ((Int.gcd num den:Int)≠0)) (k ⟨aO (num.tdiv (Int.gcd num den:Int)),aO (den.tdiv (Int.gcd num den:Int))⟩))=k (red num den):=by
 have hg:=lh (num:=num) hd;have r1:=Eh (num:=num) hd;have r2:=Nj (num:=num) hd;have r3:=mO (num:=num) hd;have w1:aO (num.tdiv (Int.gcd num den:Int))=(red num den).Num:=aZ (by show _<=(red num den).Num;omega) (by show(red num den).Num<=_;omega);have w2:aO (den.tdiv (Int.gcd num den:Int))=(red num den).bV:=aZ (by show _<=(red num den).bV;omega) (by show(red num den).bV<=_;omega);rw[w1,w2,bn omY,bn omY]
theorem zTR{E:zqd}(zyX:zaa E.zsU):IA (zqe E):=λa b h1 h2 hd hd2=>ae.ext λk=>by
 rw[zSG,show aO (0-a) = -a by rw[aZ omY omY];omega,zj1,zyX _ _ omY omY omY,zci,aX,aX];exact zuK h1 h2 hd hd2 k
theorem s71{E:E71}(ZF:zaa E.TR):IA (F71 E):=λa b h1 h2 hd hd2=>ae.ext λk=>by
 rw[e71,show aO (0-a) = -a by rw[aZ omY omY];omega,zj1,ZF _ _ omY omY omY,zci,aX,aX];exact zuK h1 h2 hd hd2 k
end Go.Proofs
