/- Part 4: framework, functions, plain laws. -/
import Derived.Test.YtjkijdhdbhooiaaGreatQ3
import Derived.Test.YtjkijdhdbhooiaaGreatProg
import Derived.Tactics
import Derived.Tactics2
import Derived.Recover
import Derived.RecoverIn
import Derived.TacticsInMore
import Derived.ProofKit
import Derived.Deep.Slices
import Derived.OpenShut
import Derived.Shelf.SlSortCmp.NoneTotal
import Derived.Shelf.SlicesE.Clone
import Derived.Shelf.SlLaysF0
import Derived.Shelf.SlLaysE0
import Derived.Test.YtjkijdhdbhooiaaGreatRows
import Derived.WalkKit
import Derived.ChangeOld
set_option linter.all false
noncomputable section
namespace Go.Pm
open Go Go.Proofs
variable [aH]
set_option maxRecDepth 100000
theorem zp5:∀caps:Array Value,caps.size=2->IE Tryz.prog {target:=.fn (.func 177) caps,args:=#[]}:=λcaps hc=>by
 match caps,hc with
 | ⟨[x,y]⟩,_ =>
 refine⟨.func 177,#[x,y],177,#[x,y],rfl,λw=>?_,λn w=>?_⟩;have h:dw Tryz.prog 177:=⟨_,rfl,rfl,by kernel_rfl⟩;show(callFunc 177 (#[] ++ #[x,y])).run Tryz.prog w=_;exact eF h;have key:CallsDIn {fn:=λ_=>True,depth:=none,alive:=false,round:=none} n Tryz.prog 177 #[x,y] .returning w λe u' w'=>e=.returned (.tuple #[])/\u'=.returning/\w'=w:=by
  refine callsDIn_of_wpSIn Tryz.func177 rfl trivial λc₀ cs hu=>?_;apply wpSIn_seq;apply wpSIn_region;simp[wpOpsSIn,go_sem,recoverD,hu,Tryz.ntmps177,Exit.thenS];refine wpSIn_of_wpIn rfl (wpIn_block (wpIn_seq (wpIn_region ?_)));simp[wpOpsIn,go_sem,Oper.wpIn];refine wpIn_cond (t:=true) (by simp[Act.eval,Array.replicate]) ?_;simp only[Qs];refine wpIn_region ?_;simp[wpOpsIn,go_sem,Oper.wpIn,Exit.inBlock];cases c₀;simp_all [bodyPostS,results,Tryz.results177]
 exact key.mono λe u' w' h=>⟨⟨_,h.1⟩,h.2⟩
theorem zHP:∃fs,Tryz.prog.underlying 254=some (.struct fs):=by
 have h:(match Tryz.prog.underlying 254 with|some (.struct _)=>true|_=>false)=true:=by kernel_rfl
 split at h;rename_i fs e;exact⟨fs,e⟩;cases h
abbrev zdD:qZ:=⟨4,30,5,4,false,254⟩
theorem zHQ(v:Value)(w:World):(Instr.typeAssert (.iface 254 v) 20 254 true).run Tryz.prog w=.ok (.tuple #[v,.bool true]) w:=by
 obtain⟨fs,h⟩:=zHP;simp only[Instr.typeAssert,Sem.run_bind,run_underlying h,Result.andThen_ok,Qs,Sem.run_pure]
theorem zzo:zHJ Tryz.prog zdD 177:=λch gp v1 v2 w=>by
 unfold qZ.ok at gp;split at gp
 rotate_left
 cases gp;rename_i ty kd nn;have hty:ty=254:=lu gp;subst hty;refine⟨#[.cells #[.int kd nn] 254 (0,0)],λw1 w2 h1 h2=>⟨λw=>?_,λn=>?_⟩⟩;have h:dw Tryz.prog 177:=⟨_,rfl,rfl,by kernel_rfl⟩;show(callFunc 177 (#[] ++ #[v1,v2])).run Tryz.prog w=_;exact eF h;have key:CallsDIn {fn:=λ_=>True,depth:=none,alive:=false,round:=none} n Tryz.prog 177 #[v1,v2] (.panicking [⟨.iface 254 (.agg #[.int kd nn]),false,false⟩]) w λe u' w'=>e=.returned (.tuple #[])/\u'=.panicking (zfO [⟨.iface 254 (.agg #[.int kd nn]),false,false⟩])/\w'=w2:=by
  refine callsDIn_of_wpSIn Tryz.func177 rfl trivial λc₀ cs hu=>?_;apply wpSIn_seq;apply wpSIn_region;simp[wpOpsSIn,go_sem,recoverD,hu,Tryz.ntmps177,Exit.thenS];refine wpSIn_of_wpIn rfl (wpIn_block (wpIn_seq (wpIn_region ?_)));simp[wpOpsIn,go_sem,Oper.wpIn];refine wpIn_cond (t:=false) (by simp[Act.eval,Array.replicate]) ?_;simp only[qdz,qje];refine wpIn_seq (wpIn_region ?_);simp[wpOpsIn,go_sem,Oper.wpIn,zHQ];refine wpIn_cond (t:=true) (by simp[Act.eval,Array.replicate]) ?_;simp only[Qs];refine wpIn_seq (wpIn_region ?_);simp[wpOpsIn,go_sem,Oper.wpIn];refine wpIn_region ?_;have e:w.alloc (Obj.cells #[.int kd nn] 254)={w with heap:=w.heap ++ #[.cells #[.int kd nn] 254 (0,0)]}:=by
   show({w with heap:=w.heap.push _}:World)=_;rw[Array.push_eq_append]
  rw[<- e]at h1;generalize hA:(Act.mk _ _)=A;have hA0:A.eval (.tmp 0)=v1:=by subst hA;simp[Act.eval]
  have hA1:A.eval (.tmp 1)=v2:=by subst hA;simp[Act.eval]
  have hc:A.eval (.const (.slice none 0 0))=.slice none 0 0:=rfl;have hc':A.eval (.const (.bool false))=.bool false:=rfl;have hAd:A.defers=[]:=by subst hA;rfl
  clear hA;show wpOpsIn _ n Tryz.prog _ _ [0,1] A _;have h1:(Instr.storeAt 30 v1 (.slice none 0 0)).run Tryz.prog (w.alloc (Obj.cells #[.int kd nn] 254))=.ok () w1:=h1;have h2:(Instr.storeAt 4 v2 (.bool false)).run Tryz.prog w1=.ok () w2:=h2;simp[wpOpsIn,Oper.wpIn,Oper.semAt,execOp,hA0,hA1,hc,hc',h1,h2,Region.wanted,Act.put,Oper.about,Exit.inBlock,Oper.uponIn_skip];clear e h1 h2 hA0 hA1 hc hc';cases c₀;simp[bodyPostS,results,Tryz.results177,zfO,hAd]
 exact key.mono λe u' w' h=>⟨⟨_,h.1⟩,h.2⟩
theorem zj3:zzi Tryz.prog zdD 177:=⟨zp5,zzo⟩
end Go.Pm
namespace Go.Pm
instance dz0:aH:=⟨0⟩
end Go.Pm
namespace Go.Proofs
open Go Go.Pm
set_option maxRecDepth 100000
abbrev aB:=Tryz.prog
structure bW where
 Low:Int
 High:Int
deriving Inhabited
instance:bD bW:=bD.iso (α:=Int×Int) (λ⟨x0,x1⟩=>⟨x0,x1⟩) (λx=>(x.Low,x.High)) (λ_=>rfl)
instance:iV bW:=.agg'
structure aS where
 Time:Int
 dQ:bW
deriving Inhabited
instance:bD aS:=bD.iso (α:=Int×bW) (λ⟨x0,x1⟩=>⟨x0,x1⟩) (λx=>(x.Time,x.dQ)) (λ_=>rfl)
instance:iV aS:=.agg'
structure aj where
 Kind:Int
 View:Int
 Z:Int
 First:Int
 aO:Int
 bC:Int
 dJ:Int
 aZ:bW
 Clock:bW
 dO:Int
 Least:Int
 aS:Sl aS
 Dead:Sl Int
deriving Inhabited
instance:bD aj:=bD.iso (α:=Int×Int×Int×Int×Int×Int×Int×bW×bW×Int×Int×Sl aS×Sl Int) (λ⟨x0,x1,x2,x3,x4,x5,x6,x7,x8,x9,x10,x11,x12⟩=>⟨x0,x1,x2,x3,x4,x5,x6,x7,x8,x9,x10,x11,x12⟩) (λx=>(x.Kind,x.View,x.Z,x.First,x.aO,x.bC,x.dJ,x.aZ,x.Clock,x.dO,x.Least,x.aS,x.Dead)) (λ_=>rfl)
instance:iV aj:=.agg'
structure ak where
 ai:Sl aj
deriving Inhabited
instance:bD ak:=bD.iso (α:=Sl aj) (λx0=>⟨x0⟩) (λx=>x.ai) (λ_=>rfl)
instance:iV ak:=.agg'
structure bQ where
 yI:Int
 Dj:Int
deriving Inhabited
instance:bD bQ:=bD.iso (α:=Int×Int) (λ⟨x0,x1⟩=>⟨x0,x1⟩) (λx=>(x.yI,x.Dj)) (λ_=>rfl)
instance:iV bQ:=.agg'
structure bz where
 aj:Int
 Channel:Int
 kz:Int
 aS:Int
 Di:Int
 Time:Int
deriving Inhabited
instance:bD bz:=bD.iso (α:=Int×Int×Int×Int×Int×Int) (λ⟨x0,x1,x2,x3,x4,x5⟩=>⟨x0,x1,x2,x3,x4,x5⟩) (λx=>(x.aj,x.Channel,x.kz,x.aS,x.Di,x.Time)) (λ_=>rfl)
instance:iV bz:=.agg'
structure af where
 View:Int
 Hits:Sl Int
 bu:Sl Int
deriving Inhabited
instance:bD af:=bD.iso (α:=Int×Sl Int×Sl Int) (λ⟨x0,x1,x2⟩=>⟨x0,x1,x2⟩) (λx=>(x.View,x.Hits,x.bu)) (λ_=>rfl)
instance:iV af:=.agg'
structure ay where
 Z:Int
 Low:Int
 High:Int
deriving Inhabited
instance:bD ay:=bD.iso (α:=Int×Int×Int) (λ⟨x0,x1,x2⟩=>⟨x0,x1,x2⟩) (λx=>(x.Z,x.Low,x.High)) (λ_=>rfl)
instance:iV ay:=.agg'
structure aW where
 ak:ak
 hits:Sl bz
 oq:Sl (Sl ay)
 rules:bQ
deriving Inhabited
instance:bD aW:=bD.iso (α:=ak×Sl bz×Sl (Sl ay)×bQ) (λ⟨x0,x1,x2,x3⟩=>⟨x0,x1,x2,x3⟩) (λx=>(x.ak,x.hits,x.oq,x.rules)) (λ_=>rfl)
instance:iV aW:=.agg'
structure placed where
 aj:aj
 index:Int
deriving Inhabited
instance:bD placed:=bD.iso (α:=aj×Int) (λ⟨x0,x1⟩=>⟨x0,x1⟩) (λx=>(x.aj,x.index)) (λ_=>rfl)
instance:iV placed:=.agg'
structure found where
 aW:Pt aW
 fits:Sl af
 bn:Sl af
deriving Inhabited
instance:bD found:=bD.iso (α:=Pt aW×Sl af×Sl af) (λ⟨x0,x1,x2⟩=>⟨x0,x1,x2⟩) (λx=>(x.aW,x.fits,x.bn)) (λ_=>rfl)
instance:iV found:=.agg'
structure aP where
 Num:Int
 bK:Int
deriving Inhabited
instance:bD aP:=bD.iso (α:=Int×Int) (λ⟨x0,x1⟩=>⟨x0,x1⟩) (λx=>(x.Num,x.bK)) (λ_=>rfl)
instance:iV aP:=.agg'
structure Line where
 dI:aP
 Start:aP
deriving Inhabited
instance:bD Line:=bD.iso (α:=aP×aP) (λ⟨x0,x1⟩=>⟨x0,x1⟩) (λx=>(x.dI,x.Start)) (λ_=>rfl)
instance:iV Line:=.agg'
structure list where
 bJ:Sl ay
deriving Inhabited
instance:bD list:=bD.iso (α:=Sl ay) (λx0=>⟨x0⟩) (λx=>x.bJ) (λ_=>rfl)
instance:iV list:=.agg'
structure straight where
 bT:Int
 start:Int
 den:Int
deriving Inhabited
instance:bD straight:=bD.iso (α:=Int×Int×Int) (λ⟨x0,x1,x2⟩=>⟨x0,x1,x2⟩) (λx=>(x.bT,x.start,x.den)) (λ_=>rfl)
instance:iV straight:=.agg'
structure set where
 list:list
 cO:Sl straight
deriving Inhabited
instance:bD set:=bD.iso (α:=list×Sl straight) (λ⟨x0,x1⟩=>⟨x0,x1⟩) (λx=>(x.list,x.cO)) (λ_=>rfl)
instance:iV set:=.agg'
structure zj4 where
 Z:Int
 X:Int
 W:Int
 Y:Int
deriving Inhabited
instance:bD zj4:=bD.iso (α:=Int×Int×Int×Int) (λ⟨x0,x1,x2,x3⟩=>⟨x0,x1,x2,x3⟩) (λx=>(x.Z,x.X,x.W,x.Y)) (λ_=>rfl)
instance:iV zj4:=.agg'
structure zp6 where
 X:Int
 Y:Int
deriving Inhabited
instance:bD zp6:=bD.iso (α:=Int×Int) (λ⟨x0,x1⟩=>⟨x0,x1⟩) (λx=>(x.X,x.Y)) (λ_=>rfl)
instance:iV zp6:=.agg'
structure Ug where
 z0A:Int
 Hits:Sl Int
 ai:Sl Int
 zuJ:af
deriving Inhabited
instance:bD Ug:=bD.iso (α:=Int×Sl Int×Sl Int×af) (λ⟨x0,x1,x2,x3⟩=>⟨x0,x1,x2,x3⟩) (λx=>(x.z0A,x.Hits,x.ai,x.zuJ)) (λ_=>rfl)
instance:iV Ug:=.agg'
structure Bin where
 View:Int
 Low:aP
 High:aP
deriving Inhabited
instance:bD Bin:=bD.iso (α:=Int×aP×aP) (λ⟨x0,x1,x2⟩=>⟨x0,x1,x2⟩) (λx=>(x.View,x.Low,x.High)) (λ_=>rfl)
instance:iV Bin:=.agg'
structure Tally where
 z0B:Int
 znJ:Int
deriving Inhabited
instance:bD Tally:=bD.iso (α:=Int×Int) (λ⟨x0,x1⟩=>⟨x0,x1⟩) (λx=>(x.z0B,x.znJ)) (λ_=>rfl)
instance:iV Tally:=.agg'
instance:tZ Int:=⟨λ_=>rfl⟩
instance:tZ Bool:=⟨λ_=>rfl⟩
instance:tZ bW:=⟨λ_=>rfl⟩
instance:tZ aS:=⟨λ_=>rfl⟩
instance:tZ aj:=⟨λ_=>rfl⟩
instance:tZ ak:=⟨λ_=>rfl⟩
instance:tZ bQ:=⟨λ_=>rfl⟩
instance:tZ bz:=⟨λ_=>rfl⟩
instance:tZ af:=⟨λ_=>rfl⟩
instance:tZ ay:=⟨λ_=>rfl⟩
instance:tZ aW:=⟨λ_=>rfl⟩
instance:tZ placed:=⟨λ_=>rfl⟩
instance:tZ found:=⟨λ_=>rfl⟩
instance:tZ aP:=⟨λ_=>rfl⟩
instance:tZ Line:=⟨λ_=>rfl⟩
instance:tZ list:=⟨λ_=>rfl⟩
instance:tZ straight:=⟨λ_=>rfl⟩
instance:tZ set:=⟨λ_=>rfl⟩
instance:tZ zj4:=⟨λ_=>rfl⟩
instance:tZ zp6:=⟨λ_=>rfl⟩
instance:tZ Ug:=⟨λ_=>rfl⟩
instance:tZ Bin:=⟨λ_=>rfl⟩
instance:tZ Tally:=⟨λ_=>rfl⟩
theorem krY{p:Prop}(h:p:=by kernel_rfl):p:=h
theorem dU [aH]{P:Program}{N:Nat}{Γ:bI}{A δ ρ:Type}[dA δ][dA ρ]{aQ:dG}{f:FuncId}{x:δ}{k:ρ->Option A}{r:Option A}(h:Go.Pm.runT P Γ N aQ f (iJ k) (dA.enc x)=r:=by kernel_rfl):(ae.ty (aF P N Γ aQ f) x:ae ρ).T k=r:=zSA.trans h
theorem dV [aH]{P:Program}{N:Nat}{T:Tabs}{vv:List Nat}{δ ρ:Type}[dA δ][dA ρ]{aQ:dG}{f:FuncId}(h:au P T)(hb:X4 P f=true:=by kernel_rfl):Ok P f (ae.un (ae.ty (aF P N (gQ T vv) aQ f):δ->ae ρ)):=zvZ (xw h (dE hb))
abbrev iW{δ ρ:Type}[dA δ][dA ρ](N:Nat)(T:Tabs)(f:FuncId):δ->ae ρ:=ae.ty (aF Tryz.prog N (gQ T []) (bP Tryz.prog f [] {}) f)
end Go.Proofs
namespace Go.Pm
variable [aH]
open Go Go.Deep
theorem zj5(b o i j:Nat):((⟨b,o,none⟩:Addr).add i).add j=⟨b,o+i+j,none⟩:=by
 simp only[Addr.add];by_cases h1:i=0;subst h1;by_cases h2:j=0;subst h2;rfl;rw[eY h2];rfl;rw [eY h1];by_cases h2:j=0;subst h2;rfl;rw[eY h2]
def H0(w:World):Fz:=λb=>(w.heap[b]?).map .fz
theorem zHR(w:World):Hw (H0 w) w:=by
 intro b x h;unfold H0 at h;cases e:w.heap[b]? with|none=>rw[e]at h;cases h|some o=>rw[e]at h;cases h;exact⟨o,rfl,rfl⟩
def wfI(x:Int):Prop:=-9223372036854775808<=x/\x<=9223372036854775807
class vC (α : Type) where
  wf:α->Prop
instance:vC Int:=⟨wfI⟩
instance:vC Bool:=⟨λ_=>True⟩
instance{α:Type}[vC α]:vC (Sl α):=⟨λx=>x.len<=9223372036854775807/\∀i,i<x.len->vC.wf (x.get i)⟩
section
variable{H:Type}{en:TypeId×Value->H}{P:Program}{w:World}{sp:Nat->Bool}{held:Bool}
def Rd(H:Type)(en:TypeId×Value->H)(P:Program)(w:World)(sp:Nat->Bool)(held:Bool)(t:TypeId)(α:Type)[bD α][vC α]:Prop :=
 ∀(fuel:Nat)(cs:List Value)(x:DataW H×List MemPlace),DataW.trod en P w 0 sp held fuel t cs=some x->∃a:α,RL (Rep (H0 w)) (bD.enc a) cs/\vC.wf a
theorem zbk{t:TypeId}(ht:P.underlying t=some (.int .i64)):Rd H en P w sp held t Int:=by
 intro fuel cs x h;obtain⟨n,rfl,_,hw⟩:=DataW.trod_int ht h;refine⟨n,⟨.int _ _,trivial⟩,?_⟩;simp only[Lit.wf,fQ,oD]at hw;exact⟨hw.1,hw.2⟩
theorem rO{t:TypeId}{fs:Array Field}(ht:P.underlying t=some (.struct fs)){fuel:Nat}{cs:List Value}{x:DataW H×List MemPlace}(h:DataW.trod en P w 0 sp held fuel t cs=some x) :
  cs.length=P.cellsOf t/\∀(i:Nat)(f:Field),fs[i]? = some f->∃n y,DataW.trod en P w 0 sp held n f.type ((cs.drop f.offset).take (P.cellsOf f.type))=some y:=by
 obtain⟨xs,n,_,_,hl,hx,hf⟩:=DataW.trod_struct ht h;refine⟨hl,λi f hi=>?_⟩;have iF:i<xs.length:=by rw[hx];exact(Wh.1 hi).1
 exact⟨n,xs[i],by rw[hf i f hi,yC iF]⟩
theorem Es{t e:TypeId}{α:Type}[bD α][vC α][Inhabited α]{s:Nat}(ht:P.underlying t=some (.slice e))(hc:P.cellsOf e=s)(he:s=(bD.enc (default:α)).length)(hs:0<s)
    (Iy:Rd H en P w sp held e α):Rd H en P w sp held t (Sl α):=by
  have hlen:∀a:α,(bD.enc a).length=s:=λa=>by rw[he];exact(bD.sm a default).length
  intro fuel cs x h;rcases open_slice ht h with⟨rfl,_⟩|⟨a,len,cap,m,n,D,Pl,rfl,_,hl,hm,hmm,_,zcu⟩
  exact⟨⟨0,λ_=>default⟩,⟨.sl0 _ _ (λ_ _=>bD.sm _ _),trivial⟩,Ad _,λi hi=>absurd hi (Wi i)⟩
  · by_cases h0 : len = 0;subst h0;exact⟨⟨0,λ _=>default⟩,⟨.sle _ _ _ _ (λ _ _=>bD.sm _ _),trivial⟩,Ad _,λ i hi=>absurd hi (Wi i)⟩
    · have hlm : len ≤ m := by rw [hmm]; split <;> omega
      rw[hc]at zcu;have hex:∀i,i<len->∃y:α,(∃Jt,w.cells? 0 (a.add (i*s)) s=some Jt/\RL (Rep (H0 w)) (bD.enc y) Jt)/\vC.wf y:=by
        intro i hi;obtain⟨Jt,h1,h2⟩:=zcu i omY;obtain⟨y,h3,h4⟩:=Iy _ _ _ h2;exact⟨y,⟨Jt,h1,h3⟩,h4⟩
      have hch:∃f:Nat->α,∀i,i<len->(∃Jt,w.cells? 0 (a.add (i*s)) s=some Jt/\RL (Rep (H0 w)) (bD.enc (f i)) Jt)/\vC.wf (f i):=by
        refine⟨λi=>if hi:i<len then Classical.choose (hex i hi)else default,λi hi=>?_⟩;simp only[dif_pos hi];exact Classical.choose_spec (hex i hi)
      obtain⟨f,hf⟩:=hch
      -- the block
      have ou:∀i,i<len->∀j,j<s->∃Jt,w.cells? 0 (a.add (i*s)) s=some Jt/\RL (Rep (H0 w)) (bD.enc (f i)) Jt/\w.cell? ((a.add (i*s)).add j)=Jt[j]?/\Jt.length=s:=by
        intro i hi j hj;obtain⟨⟨Jt,h1,h2⟩,_⟩:=hf i hi;obtain⟨_,h3,h4⟩:=World.cells?_some h1;exact⟨Jt,h1,h2,h4 j hj,h3⟩
      obtain⟨cs0,_,_,hc0,hl0⟩:=ou 0 omY 0 hs;have ha0:w.cell? a=cs0[0]?:=by simpa [Addr.add]using hc0
      rw[yC omY]at ha0;obtain⟨C,ty,fr,hblk,zN5⟩:∃C ty fr,w.heap[a.block]? = some (.cells C ty fr)/\a.spot=none:=by
        unfold World.cell? at ha0;split at ha0
        · rename_i C ty fr hb;refine⟨C,ty,fr,hb,?_⟩;cases hsp:a.spot with|none=>rfl|some k=>rw[hsp]at ha0;simp at ha0
        cases ha0
      have ea:a=⟨a.block,a.off,none⟩:=by rw[<- zN5]
      have hat:∀i j,i<len->j<s->∃Jt,RL (Rep (H0 w)) (bD.enc (f i)) Jt/\C[a.off+i*s+j]? = Jt[j]?/\Jt.length=s:=by
        intro i j hi hj;obtain⟨Jt,_,h2,h3,h4⟩:=ou i hi j hj;refine⟨Jt,h2,?_,h4⟩;rw[<- h3];have e2:(a.add (i*s)).add j=⟨a.block,a.off+i*s+j,none⟩:=(jZ (λz:Addr=>(z.add (i*s)).add j) ea).trans (zj5 _ _ _ _);rw[e2];simp[World.cell?,hblk]
      refine⟨⟨len,f⟩,⟨?_,trivial⟩,by simp only[maxLen]at hm;show len<=_;omega,λi hi=>(hf i hi).2⟩;rw[ea];show Rep (H0 w) (.sl len (bD.enc (default:α)).length (λi=>bD.enc (f i))) _;rw[<- he];refine .sl len s _ (λ_ _=>bD.sm _ _) a.block a.off cap C ty fr (λi j=>C.getD (a.off+i*s+j) undef) (by simp[H0,hblk]) hl (λi _=>hlen _) ?_ ?_;intro i j x hi hx;have hj:j<s:=by have:=(BP.1 hx).1;rw[hlen]at this;exact this
      obtain⟨Jt,h1,h2,h3⟩:=hat i j hi hj;rw[yB,h2,yC omY];rfl;intro i j x hi hx;have hj:j<s:=by have:=(BP.1 hx).1;rw[hlen]at this;exact this
      obtain⟨Jt,h1,h2,h3⟩:=hat i j hi hj;obtain⟨v,hv,hr⟩:=h1.get j x hx;rw[yB,h2,hv];exact hr
theorem dN{α:Type}(l:List α)(o s:Nat):l.drop o=(l.drop o).take s++l.drop (o+s):=by
 rw[<- List.drop_drop];exact(qjt s (l.drop o)).symm
theorem NR{t:TypeId}{fs:Array Field}{r:Reach}{base:Nat}{v:Value}(ht:P.underlying t=some (.struct fs))(h:Value.okWide P w r base t v):∃cs,v=.agg cs:=by
 unfold Value.okWide at h;rw[ht]at h;obtain⟨cs,hv,_⟩:=h;exact⟨cs,hv⟩
def zHS:TypeDesc→Bool|.struct _=>false|.array _ _=>false|_=>true
theorem Ht{t:TypeId}{d:TypeDesc}{r:Reach}{base:Nat}{v:Value}(ht:P.underlying t=some d)(hd:zHS d=true)(h:Value.okWide P w r base t v):v.cells.toList=[v]:=by
 unfold Value.okWide at h;rw[ht]at h;cases v with
 | agg cs =>
  exfalso;cases d<;>first|(cases hd;done)|(simp only[Cell.okWide,Cell.ok,ht]at h)
 | _=>rfl
theorem zfS{h:Fz}{p:PV}{v:Value}(hv:v.cells.toList=[v])(r:RL (Rep h) [p] v.cells.toList):oC h (.one p) v:=by
 rw[hv]at r;exact r.1
theorem zj6{h:Fz}{l:List PV}{v:Value}(hv:∃cs,v=.agg cs)(r:RL (Rep h) l v.cells.toList):oC h (.agg l) v:=by
 obtain⟨cs,rfl⟩:=hv;exact⟨cs.toList,by simp,r⟩
theorem zj7{w':World}(b:yg (H0 w) w.heap.size w w'):Go.RowKit.Below w.heap.size w w' :=
 ⟨b.os,b.tape,b.output,b.size,λk hk=>b.block k hk⟩
end
end Go.Pm
namespace Go.Pm
section perm
variable{c:Nat->Nat->Int}
theorem Au(x:Nat):∀l:List Nat,(SK c x l).Perm (x::l)
  | []=>.refl _
  | y::r=>by
    unfold SK;split;exact .refl _;exact((Au x r).cons y).trans (.swap _ _ _)
theorem CQ(n:Nat):(yR n c).Perm (List.range n):=by
 unfold yR;generalize List.range n=l
 induction l with|nil=>exact .refl _|cons x l ih=>exact(Au x _).trans (ih.cons x)
def leB(c:Nat->Nat->Int)(a b:Nat):Prop:=¬c b a<0
theorem zdE{n:Nat}(H:STO n c){x:Nat}(hx:x<n):∀{l:List Nat},(∀y∈l,y<n)→l.Pairwise (leB c)→(SK c x l).Pairwise (leB c)
  | [],_,_=>by simp[SK]
  | y::r,hl,hp=>by
    have hy:=hl y kH;rw[qdm]at hp;unfold SK;split;rename_i h;have h:=qdE h;rw[qdm];refine⟨λz hz=>?_,qdm.2 hp⟩;have hxy:leB c x y:=λh2=>by
      have:=H.1 x hx;have:=H.2.2 x y x hx hy hx h h2;omega
    rcases jV.1 hz with rfl|hz
    exact hxy;intro h2;exact hp.1 z hz (H.2.2 z x y (hl z (jM _ hz)) hx hy h2 h);rename_i h;have h:=of_decide_eq_false h;rw[qdm];refine⟨λz hz=>?_,zdE H hx (λz hz=>hl z (jM _ hz)) hp.2⟩;rcases jV.1 ((Au x r).mem_iff.1 hz)with rfl|hz
    exact h;exact hp.1 z hz
theorem X6{n:Nat}(H:STO n c):(yR n c).Pairwise (leB c):=by
 have key:∀l:List Nat,(∀y∈l,y<n)->(l.foldr (SK c) []).Pairwise (leB c)/\∀y∈l.foldr (SK c) [],y<n:=by
  intro l
  induction l with
  | nil=>intro _;exact⟨List.Pairwise.nil,λy hy=>by simp at hy⟩
  | cons x l ih =>
   intro h;obtain⟨h1,h2⟩:=ih λy hy=>h y (jM _ hy);have hx:=h x kH;refine⟨zdE H hx h2 h1,λy hy=>?_⟩;rcases jV.1 ((Au x _).mem_iff.1 hy)with rfl|hy
   exact hx;exact h2 y hy
 exact(key _ λy hy=>KQ.1 hy).1
theorem zbl{n:Nat}(H:STO n c){l:List Nat}(hp:l.Perm (List.range n))(hs:l.Pairwise (leB c)):l=yR n c:=by
 refine jqN (le:=leB c) (λa b ha hb h1 h2=>?_) hs (X6 H) (hp.trans (CQ n).symm);have ha:=KQ.1 (hp.mem_iff.1 ha);have hb:=KQ.1 ((CQ n).mem_iff.1 hb);by_cases e:a=b;exact e;rcases H.2.1 a b ha hb e with h|h
 exact absurd h.1 h2;exact absurd h.1 h1
end perm
end Go.Pm
namespace Go.Pm
variable [aH]
open Go.Shelf Go.RowKit Go.Lib Go.Sort Go.Proofs
theorem zfT{w w':World}(h1:w'.heap=w.heap)(h2:w'.tape=w.tape)(h3:w'.drawn=w.drawn)(h4:w'.os=w.os)(h5:w'.output=w.output):w'=w:=by
 cases w;cases w';simp_all
theorem zj8{w w':World}{h:Fz}(b : @yg ⟨1⟩ h w.heap.size w w'):∃q os,w'=grow (w.drewN q) os:=by
 obtain⟨bos,zHT,zSD,z2A,zzp,zzq⟩:=b;refine⟨w'.drawn-w.drawn,w'.heap.extract w.heap.size w'.heap.size,zfT ?_ zHT ?_ bos zSD⟩;show w'.heap=w.heap++w'.heap.extract w.heap.size w'.heap.size;apply Array.ext_getElem?;intro i;rw[Array.getElem?_append];split;rename_i hl;exact zzq i hl;rename_i hl;rw[Array.getElem?_extract];by_cases iF:i<w'.heap.size;rw[eU omY];congr 1;omega;rw[eY omY,qjp omY];show w'.drawn=w.drawn+(w'.drawn-w.drawn);have:w.drawn*1<=w'.drawn*1:=zzp;omega
theorem Uh{w:World}{g q:Nat}{cur:Array Value}{e:TypeId}{fr:Nat×Nat}{off:Nat}(F:Array Value)(hb:w.heap[g]? = some (.cells cur e fr)) :
  ∃Z9,(putRow id (Sort.ahead w q) g off F).heap[g]? = some (.cells Z9 e fr)/\Z9.size=cur.size:=by
 refine⟨putCells id off F cur,?_,by simp[putCells]⟩;simp[putRow,mapBlock,Sort.ahead,qjY,hb,onCells]
theorem Jg{w:World}{g q off:Nat}(F:Array Value){k:Nat}(hk:k≠g):(putRow id (Sort.ahead w q) g off F).heap[k]? = w.heap[k]?:=by
 simp[putRow,mapBlock,Sort.ahead,qjY,qjV hk]
theorem zj9{C:List PA→ae (List PA)}{caps:List PV}{ag:Bool}{get:Nat→List PV}{i j:Nat}(h:(Lc C caps ag get i j).isSome=true) :
  ∃rs,(C (elP ag (get i)::elP ag (get j)::caps.map .one)).o=some rs/\rs=[.one (.int .i64 (oJ C caps ag get i j))]:=by
 unfold oJ;cases e:Lc C caps ag get i j with
 | none=>rw[e]at h;cases h
 | some c =>
  unfold Lc at e;obtain⟨rs,h1,h2⟩:=ae.T_some e;refine⟨rs,h1,?_⟩;split at h2;cases h2;rfl;cases h2
theorem Rx{P:Program}{ρ:Ren}(L:SlLaysF0.n6 P ρ){e s b:Nat}(he:ρ.t 24=e)(vk:jG P e=some true)(jL:qK P e=some s)(hc:dw P (ρ.f 6)):gI P (ρ.f 6) (.sort e s b):=by
 intro w h base v n get gf caps cv ag C hC hcv ve _ iL ⟨xs,jh,hr⟩ l9 hw bZ SC ⟨hn,hS,hO⟩;rw[vk]at ve;simp only[bM]at ve;subst ve;refine⟨hc,?_⟩;have hdr:∀(w':World)(k:Nat),w.drawn<=w.drawn+k:=λ_ k=>Nat.le_add_right _ _;have none:∀(p:Option Addr)(cap:Nat),n=0->v=.slice p 0 cap->Calls P (ρ.f 6) #[v,.func (.func gf) #[] cv.toArray] w λr w'=>r=.returned (.tuple #[])/\Be h w' base e s v n (Ld n (oJ C caps true get) get)/\GrB w w' v.ownBlock:=by
  rintro p cap rfl rfl;refine(AnyF.slices_SortFunc_none L p cap _ w).mono ?_;rintro r w' ⟨rfl,rfl⟩;exact⟨rfl,⟨xs,jh,λi hi=>absurd hi (Wi i)⟩,⟨rfl,rfl,rfl,jP _,λ_ _ _=>rfl⟩,jP _⟩
 rcases jh.2 with⟨h1,h2⟩|⟨Ql,cap,cur,rfl,hb,ou,zx2,kK,hcs,htk⟩
 exact none _ _ h2 h1;by_cases hn0:n=0;subst hn0;exact none _ _ rfl rfl;have:Inhabited (Fin n):=⟨⟨0,omY⟩⟩;let enc:Fin n->List Value:=λi=>(xs.drop (i.val*s)).take s;let c:=oJ C caps true get;let cf:Fin n->Fin n->Int:=λx y=>c x.val y.val;let d:Array (Fin n):=Array.ofFn id;have Qm:d.size=n:=Array.size_ofFn;have hdi:∀i (hi:i<n),d[i]! = ⟨i,hi⟩:=λi hi=>by
  rw[qjH d i (by rw[Qm];exact hi)];simp[d]
 have iF:Ql<w.heap.size:=(Wh.1 ou).1;have hbn:h Ql=Option.none:=bZ Ql rfl;have hmul:∀i,i<n->i*s+s<=n*s:=λi hi=>by have:=SI s (qdt hi);rw[VQ]at this;exact this
 have hk:∀x,(enc x).length=s:=λx=>by
  have:=hmul x.val x.isLt;simp only[enc,qdC,VO,jh.1];omega
 have zSE:∀j,j<n*s->cur[j]? = xs[j]?:=λj hj=>by
  have:(cur.toList.take (n*s))[j]? = xs[j]?:=by rw[htk]
  rw[JR,eU hj]at this;simpa using this
 have hxl:∀j,j<n*s->∃u,xs[j]? = some u:=λj hj=>⟨xs[j]'(by rw[jh.1];exact hj),yC _⟩;have h1:∀x,∀u∈enc x,u.oneCell'=true:=λx u hu=>by
  obtain⟨j,hj⟩:=dq0 hu;obtain⟨p,_,hp⟩:=(hr x.val x.isLt).get' j u hj;exact hp.one
 have zHU:∀j (hj:j<n*s),(flatK enc s d)[j]! = xs[j]'(by rw[jh.1];exact hj):=λj hj=>by
  have hq:j/s<n:=qj5 (by rw[qdN];exact hj);rw[get_flatK _ _ _ _ (by rw[Qm];exact hj),hdi _ hq];have hm:=Nat.mod_lt j iL;have hdm:=jqx j s;rw[qjH _ _ (by rw[hk];exact hm)];simp only[enc,List.getElem_take,List.getElem_drop];congr 1;rw[qdN];exact hdm
 have hH:HoldsK enc s w Ql 0 d:=λj hj=>by
  have hj:j<n*s:=by rw[size_flatK,Qm]at hj;exact hj
  refine⟨?_,frozen_of_row w Ql _ cur e ou⟩;rw[zHU j hj,cell_of ou,PK,zSE j hj];exact yC _
 have eg:∀args w,(callFunc gf args).run P w=.ok (.enter gf args) w:=by
  have hcg:dw P gf:=by
   obtain⟨rs,hwp,_⟩:=zj9 (hS 0 0 omY omY);exact(hC _ _ hwp w h (.agg (enc ⟨0,omY⟩).toArray :: .agg (enc ⟨0,omY⟩).toArray::cv) ⟨⟨_,rfl,hr 0 omY⟩,⟨_,rfl,hr 0 omY⟩,RL.map_left.2 hcv⟩ hw).1
  exact λargs w=>eF hcg
 have z06:CmpLays P gf cv.toArray enc s cf Ql 0 d.size w:=by
  intro m os dk hdk x y;obtain⟨rs,hwp,hrs⟩:=zj9 (hS x.val y.val x.isLt y.isLt);have hwh:Hw h (sortWorldK enc s w Ql 0 m dk os):=hw.same λk o hk=>by
   have hkb:k≠Ql:=λe=>by rw[e,hbn]at hk;cases hk
   have hkl:=hw.lt hk;show((putRow id (Sort.ahead w m) Ql 0 (flatK enc s dk)).heap++os)[k]? = _;rw[qda (by simpa [putRow,mapBlock,Sort.ahead]using hkl)];exact Jg _ hkb
  obtain⟨_,df⟩:=hC _ _ hwp (sortWorldK enc s w Ql 0 m dk os) h (.agg (enc x).toArray :: .agg (enc y).toArray::cv) ⟨⟨_,rfl,hr x.val x.isLt⟩,⟨_,rfl,hr y.val y.isLt⟩,RL.map_left.2 hcv⟩ hwh;rw[show(#[Value.agg (enc x).toArray,.agg (enc y).toArray]++cv.toArray)=(Value.agg (enc x).toArray :: .agg (enc y).toArray::cv).toArray by simp];refine df.mono ?_;rintro e' w' ⟨h',v',rfl,o6,sV,_,_,_⟩;subst hrs;have BL:v'=.int .i64 (cf x y):=by
   have:Rep h' (.int .i64 (cf x y)) v':=o6;cases this;rfl
  subst BL;exact⟨rfl,zj8 sV⟩
 have zSF:SWO (ltOf cf):=by
  refine⟨λx=>?_,λx y z hxy hyz=>?_,λx y z hxy hyz=>?_⟩;have:0≤c x.val x.val:=hO.1 x.val x.isLt;simp only[ltOf,dqM];show ¬c x.val x.val<0;omega;simp only [ltOf,oD]at hxy hyz ⊢;exact hO.2.2 _ _ _ x.isLt y.isLt z.isLt hxy hyz;simp only [ltOf,dqM]at hxy hyz ⊢;intro hxz;have hxy:¬c x.val y.val<0:=hxy;have hyz:¬c y.val z.val<0:=hyz;have hxz:c x.val z.val<0:=hxz;by_cases e1:y.val=z.val;rw[e1]at hxy;exact hxy hxz;by_cases e2:x.val=y.val;rw[e2]at hxz;exact hyz hxz;have a1:c z.val y.val<0:=by rcases hO.2.1 y.val z.val y.isLt z.isLt e1 with h|h;exact absurd h.1 hyz;exact h.1
  exact hxy (hO.2.2 _ _ _ x.isLt z.isLt y.isLt hxz a1)
 have aE:∀w,(isAgg (ρ.t 24)).run P w=.ok true w:=λw=>by rw[he];exact oM vk
 have zE:∀w,(Go.sizeOf (ρ.t 24)).run P w=.ok s w:=λw=>by rw[he];exact run_sizeOf jL
 have df:=AnyQ.slices_SortFunc L s aE zE enc hk h1 cf zSF gf cv.toArray Ql 0 cap d w eg z06 hH iF (by rw[Qm];omega);rw[Qm]at df;refine df.mono ?_;rintro r w' ⟨rfl,d',m,os,zOz,Jr,rfl⟩;obtain⟨hps,_,hpp⟩:=zOz;have zbm:d'.size=n:=by rw[hps,Qm]
 have BN:∀(z:Array (Fin n)),z.size=n->z.extract 0 n=z:=λz hz=>Array.ext (by simp[hz]) (λi h1 h2=>by simp);rw[BN d' zbm,BN d Qm]at hpp;have hl:d'.toList.map Fin.val=yR n c:=by
  refine zbl hO ?_ ?_;refine(hpp.map Fin.val).trans ?_;have:d.toList.map Fin.val=List.range n:=by
   apply qdd;intro i;simp only[d,qde];by_cases hi:i<n;simp[hi];rw[dq2 (by simp;omega),dq2 (by simp;omega)];rfl
  rw[this];rw [qjr,dq9];intro i j hi hj Ju;have jY:i<n:=by simpa [zbm]using hi
  have rC:j<n:=by simpa [zbm]using hj
  have:=Jr i j (Ad _) Ju rC;rw[qjH d' j omY,qjH d' i omY]at this;simp only[ltOf,dqM]at this;exact this
 have zcu:∀i (hi:i<n),Ld n c get i=get (d'[i]'omY).val:=λi hi=>by
  unfold Ld;rw[<- hl];congr 1;rw[jqG,qde];simp[zbm,hi]
 obtain⟨Z9,zEr,zOx⟩:=Uh (q:=m) (off:=0) (flatK enc s d') ou;have zeO:(sortWorldK enc s w Ql 0 m d' os).heap[Ql]? = some (.cells Z9 e (0,0)):=by
  show((putRow id (Sort.ahead w m) Ql 0 (flatK enc s d')).heap++os)[Ql]? = _;rw[qda (by simpa [putRow,mapBlock,Sort.ahead]using iF)];exact zEr
 have hH':HoldsK enc s (sortWorldK enc s w Ql 0 m d' os) Ql 0 d':=holdsK_sortWorldK_c enc s w Ql 0 d d' m os hH iF (by rw[zbm,Qm]);have zHV:∀j (hj:j<n*s),Z9[j]? = some ((flatK enc s d')[j]!):=λj hj=>by
  have:=(hH' j (by rw[size_flatK,zbm];exact hj)).1;rw[cell_of zeO,PK]at this;exact this
 refine⟨rfl,⟨Z9.toList.take (n*s),⟨by rw[qdC,qjg,zOx,hcs];exact Nat.min_eq_left (SI s zx2),.inr ⟨Ql,cap,Z9,rfl,hb,zeO,zx2,kK,by rw[zOx,hcs],rfl⟩⟩,λi hi=>?_⟩,?_⟩;have e1:((Z9.toList.take (n*s)).drop (i*s)).take s=enc (d'[i]'omY):=by
  apply qdd;intro j;have hm:=hmul i hi;rw[JR];split;rename_i hj;rw[qdl,JR,eU omY,jqZ,zHV _ omY];have hdiv:(i*s+j)/s=i:=by rw[qdN,Nat.mul_add_div iL,Nat.div_eq_of_lt hj,qja]
  have zn9:(i*s+j)%s=j:=by rw[qdN,jqy,jqt hj]
  rw[get_flatK _ _ _ _ (by rw[zbm];omega),hdiv,zn9,qjH d' i omY,qjH _ _ (by rw[hk];exact hj)];exact(yC _).symm;rename_i hj;rw[dq2 (by rw[hk];omega)]
 rw[e1,zcu i hi];exact hr _ (d'[i]'omY).isLt;refine⟨⟨rfl,rfl,rfl,?_,fun k hk jb => ?_⟩,LC (Nat.le_add_right _ _)⟩;show w.heap.size≤((putRow id (Sort.ahead w m) Ql 0 (flatK enc s d')).heap++os).size;simp[putRow,mapBlock,Sort.ahead];show((putRow id (Sort.ahead w m) Ql 0 (flatK enc s d')).heap++os)[k]? = _;rw[qda (by simpa [putRow,mapBlock,Sort.ahead]using hk)];exact Jg _ λe=>jb (by rw[e];rfl)
end Go.Pm
namespace Go.Pm
open Go.Shelf Go.RowKit Go.Lib Go.Proofs
theorem zbn{P:Program}{ρ:Ren}(L:SlLaysE0.n41 P ρ)(i0:TypeInfo)(z:Value)(size bytes:Nat)(hi:P.info? (ρ.t 23)=some i0)(hz0:i0.zero=some z)(hz1:i0.size=size)(hz2:i0.bytes=bytes)(Bl:z.cells.size=size)(jL:0<size)
    (z23:∀w,(Go.sizeOf (ρ.t 23)).run P w=.ok size w) (a:Addr) (c:Nat) (w:World) :
    Calls P (ρ.f 41) #[.slice (some a) 0 c] w λe w'=>∃v',e=.returned v'/\w'.ownsRow w.heap.size (ρ.t 23) size v' 0 []/\Below w.heap.size w w':=by
  have mixed:=L.mixed;have t4:=L.t4;have a4:=L.a4;have z4:=L.z4;have v4:=L.v4;have t22:=L.t22;have a22:=L.a22;have z22:=L.z22;have v22:=L.v22;have q22:∀(w:World)(a:Option Addr)(n c n' c':Nat),(binOp .eql (ρ.t 22) (.slice a n c) (.slice none n' c')).run P w=.ok (.bool a.isNone) w:=λw a n c n' c'=>Lib.run_eql_slice_nil w _ _ a n c n' c' L.t22;have u22:∀w,Sem.run P (underlying (ρ.t 22)) w=.ok (TypeDesc.slice (ρ.t 23)) w:=λw=>run_underlying t22;obtain⟨_,_,FG⟩:=L.f41
  go_enter FG,SlBodyN.n41_ntmps ρ
  go_wp2_with (at_builtin;refine wpList_append_own _ rfl _ _ (ρ.t 22) rfl w.heap.size (ρ.t 23) i0 z size bytes t22 hi hz0 hz1 hz2 Bl jL _ _ _ rfl (World.ownsRow_made w #[] 0 (jP _) (Ad _) (by simp)) a 0 c [] rfl (by simp) (by intro j u hj;simp at hj) (by intro u hu;cases hu) (by unfold maxLen;omega) omY (by simp) ?_)
  intro v' w1 jh zeO zcp
  go_wp2
  go_ret
  exact⟨v',rfl,by simpa using jh,((Below.refl _ w).alloc (jP _) _).grown zeO (by simp) (by intro k hk;simp[Value.ownBlock]at hk;omega)⟩
theorem Ry{P:Program}{ρ:Ren}(L:SlLaysE0.n41 P ρ){e s b:Nat}{i0:TypeInfo}{z:Value}(he:ρ.t 23=e)(hi:P.info? e=some i0)(hz0:i0.zero=some z)(hz1:i0.size=s)(hz2:i0.bytes=b)(Bl:z.cells.size=s)(jL:qK P e=some s)(hs:0<s)
    (hc:dw P (ρ.f 41)):gI P (ρ.f 41) (.clone e s b):=by
  subst he;intro w h v n get hv hw h1 h2;refine⟨hc,?_⟩;have zE:∀w,(Go.sizeOf (ρ.t 23)).run P w=.ok s w:=λw=>run_sizeOf jL
  have fin:∀(v':Value)(w':World)(news:List Value),w'.ownsRow w.heap.size (ρ.t 23) s v' n news->Below w.heap.size w w'->(∀i,i<n->RL (Rep h) (get i) ((news.drop (i*s)).take s)) ->
      ∃(h':Fz)(u:Value),Ending.returned v'=.returned u/\u.oneCell'=true/\Be h' w' w.heap.size (ρ.t 23) s u n get/\(∀k,u.ownBlock=some k->h' k=none) /\
        yg h w.heap.size w w'/\ku h h'/\Hw h' w'/\∀b o,h' b=some o->h b=some o\/w.heap.size<=b:=by
    intro v' w' news jh sV hr;have hb:yg h w.heap.size w w':=⟨sV.os,sV.tape,sV.output,sV.size,jP _,λk hk=>sV.block k hk⟩;refine⟨h,v',rfl,?_,⟨news,jh,hr⟩,λk hk=>?_,hb,λ_ _ h=>h,hw.same λk o hk=>hb.block k (hw.lt hk),λ_ _ h=>.inl h⟩;rcases jh.2 with⟨rfl,_⟩|⟨g,cap,cur,rfl,_⟩<;>rfl
    rcases jh.2 with⟨rfl,_⟩|⟨g,cap,cur,rfl,hg,_⟩
    cases hk
    · have : g = k := by simpa [Value.ownBlock] using hk
      subst this;cases e:h g with|none=>rfl|some o=>have:=hw.lt e;omega
  cases hv with
  | sl0 _ _ hu =>
    refine(AnyE.slices_Clone_nil L 0 0 w).mono ?_;rintro r w' ⟨rfl,rfl⟩;exact fin _ _ [] (World.ownsRow_nil _ _ _ _) (Below.refl _ _) λi hi=>absurd hi (Wi i)
  | sle _ _ a cap hu =>
    refine(zbn L i0 z s b hi hz0 hz1 hz2 Bl hs zE a cap w).mono ?_;rintro r w' ⟨v',rfl,jh,sV⟩;exact fin _ _ [] jh sV λi hi=>absurd hi (Wi i)
  | sl _ _ _ hu bk off cap C ty fr vs hb kK hlen Bv hr =>
    let news:List Value:=(List.range (n*s)).map λq=>vs (q/s) (q%s);have hl:news.length=n*s:=by simp[news]
    have hq:∀q,q<n*s->q/s<n/\q%s<s:=λq hq=>⟨qj5 (by rw[qdN];exact hq),Nat.mod_lt q hs⟩;have hn:∀q,q<n*s->news[q]? = some (vs (q/s) (q%s)):=λq hq=>by simp[news,hq]
    have hx:∀i j,i<n->j<s->∃x,(get i)[j]? = some x:=λi j hi hj=>⟨_,yC (by rw[hlen i hi];exact hj)⟩;have ou:=hw.fz hb;refine(AnyE.slices_Clone L i0 z s b hi hz0 hz1 hz2 Bl hs zE bk off n cap news w hl h2 h1 (λj u hj=>?_) λu hu=>?_).mono ?_;have hjl:j<n*s:=by have:=(BP.1 hj).1;omega
    obtain⟨a1,a2⟩:=hq j hjl;rw[hn j hjl]at hj;cases hj;obtain⟨x,hx⟩:=hx _ _ a1 a2;have hc:=Bv _ _ x a1 hx;have l9:=(hr _ _ x a1 hx).one;rw[show off+j/s*s+j%s=off+j by rw[qjA,qdN];rw[jqx]]at hc;rw[cell_of ou];exact hc;obtain⟨j,hj⟩:=dq0 hu;have hjl:j<n*s:=by have:=(BP.1 hj).1;omega
    obtain⟨a1,a2⟩:=hq j hjl;rw[hn j hjl]at hj;cases hj;obtain⟨x,hx⟩:=hx _ _ a1 a2;exact(hr _ _ x a1 hx).one;rintro r w' ⟨v',rfl,jh,_,sV⟩;refine fin _ _ news jh sV λi hi=>RL.of_get ?_ λj x y hx hy=>?_;have hm:i*s+s≤n*s:=by have:=SI s (qdt hi);rw [VQ]at this;exact this
    rw[hlen i hi,qdC,VO,hl];omega;have hj:j<s:=by have:=(BP.1 hx).1;rw [hlen i hi]at this;exact this
    have hm:i*s+s<=n*s:=by have:=SI s (qdt hi);rw[VQ]at this;exact this
    rw[JR,eU hj,qdl,hn _ omY]at hy;rw[show(i*s+j)/s=i by rw[qdN,Nat.mul_add_div hs,Nat.div_eq_of_lt hj,qja],show(i*s+j)%s=j by rw[qdN,jqy,jqt hj]]at hy;cases hy;exact hr i j x hi hx
end Go.Pm
namespace Go.Proofs
open Go.Shelf
open Go.Pm (jZ)
def Tryz.laysS253_ren:Go.Shelf.Ren:=⟨fun|6=>253|15=>184|14=>256|28=>220|29=>221|20=>258|21=>259|22=>260|23=>261|24=>262|25=>263|26=>264|27=>265|46=>266|47=>242|48=>243|49=>267|50=>268|57=>269|n=>n,fun|22=>195|24=>204|25=>322|3=>3|39=>260|0=>0|53=>292|55=>294|4=>4|46=>286|45=>285|50=>174|5=>5|9=>9|66=>305|70=>309|76=>317|77=>221|n=>n,fun|n=>n⟩
theorem Tryz.laysS253:Go.Proofs.SlLaysF0.n6 Tryz.prog Tryz.laysS253_ren:={
  mixed:=by kernel_rfl
  f6:=⟨Tryz.f253.name,by decide,Tryz.func253.trans (jZ some (by kernel_rfl))⟩
  f14:=⟨Tryz.f256.name,by decide,Tryz.func256.trans (jZ some (by kernel_rfl))⟩
  f15:=Tryz.func184.trans (jZ some (by kernel_rfl))
  f20:=⟨Tryz.f258.name,by decide,Tryz.func258.trans (jZ some (by kernel_rfl))⟩
  f21:=⟨Tryz.f259.name,by decide,Tryz.func259.trans (jZ some (by kernel_rfl))⟩
  f22:=⟨Tryz.f260.name,by decide,Tryz.func260.trans (jZ some (by kernel_rfl))⟩
  f23:=⟨Tryz.f261.name,by decide,Tryz.func261.trans (jZ some (by kernel_rfl))⟩
  f24:=⟨Tryz.f262.name,by decide,Tryz.func262.trans (jZ some (by kernel_rfl))⟩
  f25:=⟨Tryz.f263.name,by decide,Tryz.func263.trans (jZ some (by kernel_rfl))⟩
  f26:=⟨Tryz.f264.name,by decide,Tryz.func264.trans (jZ some (by kernel_rfl))⟩
  f27:=⟨Tryz.f265.name,by decide,Tryz.func265.trans (jZ some (by kernel_rfl))⟩
  f28:=Tryz.func220.trans (jZ some (by kernel_rfl))
  f29:=Tryz.func221.trans (jZ some (by kernel_rfl))
  f46:=⟨Tryz.f266.name,by decide,Tryz.func266.trans (jZ some (by kernel_rfl))⟩
  f47:=Tryz.func242.trans (jZ some (by kernel_rfl))
  f48:=Tryz.func243.trans (jZ some (by kernel_rfl))
  f49:=⟨Tryz.f267.name,by decide,Tryz.func267.trans (jZ some (by kernel_rfl))⟩
  f50:=⟨Tryz.f268.name,by decide,Tryz.func268.trans (jZ some (by kernel_rfl))⟩
  f57:=⟨Tryz.f269.name,by decide,Tryz.func269.trans (jZ some (by kernel_rfl))⟩
  t0:=Tryz.underlying0
  a0:=Tryz.isAgg0
  z0:=Tryz.sizeOf0
  v0:=Tryz.zeroValue0
  t3:=Tryz.underlying3
  a3:=Tryz.isAgg3
  z3:=Tryz.sizeOf3
  v3:=Tryz.zeroValue3
  t4:=Tryz.underlying4
  a4:=Tryz.isAgg4
  z4:=Tryz.sizeOf4
  v4:=Tryz.zeroValue4
  t5:=Tryz.underlying5
  a5:=Tryz.isAgg5
  z5:=Tryz.sizeOf5
  v5:=Tryz.zeroValue5
  t9:=Tryz.underlying9
  a9:=Tryz.isAgg9
  z9:=Tryz.sizeOf9
  v9:=Tryz.zeroValue9
  t22:=Tryz.underlying195
  a22:=Tryz.isAgg195
  z22:=Tryz.sizeOf195
  v22:=Tryz.zeroValue195
  t25:=Tryz.underlying322
  a25:=Tryz.isAgg322
  z25:=Tryz.sizeOf322
  v25:=Tryz.zeroValue322
  t39:=Tryz.underlying260
  a39:=Tryz.isAgg260
  z39:=Tryz.sizeOf260
  v39:=Tryz.zeroValue260
  t45:=Tryz.underlying285
  a45:=Tryz.isAgg285
  z45:=Tryz.sizeOf285
  v45:=Tryz.zeroValue285
  t46:=Tryz.underlying286
  a46:=Tryz.isAgg286
  z46:=Tryz.sizeOf286
  v46:=Tryz.zeroValue286
  t50:=Tryz.underlying174
  a50:=Tryz.isAgg174
  z50:=Tryz.sizeOf174
  v50:=Tryz.zeroValue174
  t53:=Tryz.underlying292
  a53:=Tryz.isAgg292
  z53:=Tryz.sizeOf292
  v53:=Tryz.zeroValue292
  t55:=Tryz.underlying294
  a55:=Tryz.isAgg294
  z55:=Tryz.sizeOf294
  v55:=Tryz.zeroValue294
  t66:=Tryz.underlying305
  a66:=Tryz.isAgg305
  z66:=Tryz.sizeOf305
  v66:=Tryz.zeroValue305
  t70:=Tryz.underlying309
  a70:=Tryz.isAgg309
  z70:=Tryz.sizeOf309
  v70:=Tryz.zeroValue309
  t76:=Tryz.underlying317
  a76:=Tryz.isAgg317
  z76:=Tryz.sizeOf317
  v76:=Tryz.zeroValue317
  t77:=Tryz.underlying221
  a77:=Tryz.isAgg221
  z77:=Tryz.sizeOf221
  v77:=Tryz.zeroValue221}
def Tryz.laysS133_ren:Go.Shelf.Ren:=⟨fun|6=>133|15=>184|14=>183|28=>220|29=>221|20=>212|21=>213|22=>214|23=>215|24=>216|25=>217|26=>218|27=>219|46=>241|47=>242|48=>243|49=>244|50=>245|57=>250|n=>n,fun|22=>30|24=>43|25=>220|3=>3|39=>260|0=>0|53=>292|55=>294|4=>4|46=>286|45=>285|50=>174|5=>5|9=>9|66=>305|70=>309|76=>317|77=>221|n=>n,fun|n=>n⟩
theorem Tryz.laysS133:Go.Proofs.SlLaysF0.n6 Tryz.prog Tryz.laysS133_ren:={
  mixed:=by kernel_rfl
  f6:=⟨Tryz.f133.name,by decide,Tryz.func133.trans (jZ some (by kernel_rfl))⟩
  f14:=⟨Tryz.f183.name,by decide,Tryz.func183.trans (jZ some (by kernel_rfl))⟩
  f15:=Tryz.func184.trans (jZ some (by kernel_rfl))
  f20:=⟨Tryz.f212.name,by decide,Tryz.func212.trans (jZ some (by kernel_rfl))⟩
  f21:=⟨Tryz.f213.name,by decide,Tryz.func213.trans (jZ some (by kernel_rfl))⟩
  f22:=⟨Tryz.f214.name,by decide,Tryz.func214.trans (jZ some (by kernel_rfl))⟩
  f23:=⟨Tryz.f215.name,by decide,Tryz.func215.trans (jZ some (by kernel_rfl))⟩
  f24:=⟨Tryz.f216.name,by decide,Tryz.func216.trans (jZ some (by kernel_rfl))⟩
  f25:=⟨Tryz.f217.name,by decide,Tryz.func217.trans (jZ some (by kernel_rfl))⟩
  f26:=⟨Tryz.f218.name,by decide,Tryz.func218.trans (jZ some (by kernel_rfl))⟩
  f27:=⟨Tryz.f219.name,by decide,Tryz.func219.trans (jZ some (by kernel_rfl))⟩
  f28:=Tryz.func220.trans (jZ some (by kernel_rfl))
  f29:=Tryz.func221.trans (jZ some (by kernel_rfl))
  f46:=⟨Tryz.f241.name,by decide,Tryz.func241.trans (jZ some (by kernel_rfl))⟩
  f47:=Tryz.func242.trans (jZ some (by kernel_rfl))
  f48:=Tryz.func243.trans (jZ some (by kernel_rfl))
  f49:=⟨Tryz.f244.name,by decide,Tryz.func244.trans (jZ some (by kernel_rfl))⟩
  f50:=⟨Tryz.f245.name,by decide,Tryz.func245.trans (jZ some (by kernel_rfl))⟩
  f57:=⟨Tryz.f250.name,by decide,Tryz.func250.trans (jZ some (by kernel_rfl))⟩
  t0:=Tryz.underlying0
  a0:=Tryz.isAgg0
  z0:=Tryz.sizeOf0
  v0:=Tryz.zeroValue0
  t3:=Tryz.underlying3
  a3:=Tryz.isAgg3
  z3:=Tryz.sizeOf3
  v3:=Tryz.zeroValue3
  t4:=Tryz.underlying4
  a4:=Tryz.isAgg4
  z4:=Tryz.sizeOf4
  v4:=Tryz.zeroValue4
  t5:=Tryz.underlying5
  a5:=Tryz.isAgg5
  z5:=Tryz.sizeOf5
  v5:=Tryz.zeroValue5
  t9:=Tryz.underlying9
  a9:=Tryz.isAgg9
  z9:=Tryz.sizeOf9
  v9:=Tryz.zeroValue9
  t22:=Tryz.underlying30
  a22:=Tryz.isAgg30
  z22:=Tryz.sizeOf30
  v22:=Tryz.zeroValue30
  t25:=Tryz.underlying220
  a25:=Tryz.isAgg220
  z25:=Tryz.sizeOf220
  v25:=Tryz.zeroValue220
  t39:=Tryz.underlying260
  a39:=Tryz.isAgg260
  z39:=Tryz.sizeOf260
  v39:=Tryz.zeroValue260
  t45:=Tryz.underlying285
  a45:=Tryz.isAgg285
  z45:=Tryz.sizeOf285
  v45:=Tryz.zeroValue285
  t46:=Tryz.underlying286
  a46:=Tryz.isAgg286
  z46:=Tryz.sizeOf286
  v46:=Tryz.zeroValue286
  t50:=Tryz.underlying174
  a50:=Tryz.isAgg174
  z50:=Tryz.sizeOf174
  v50:=Tryz.zeroValue174
  t53:=Tryz.underlying292
  a53:=Tryz.isAgg292
  z53:=Tryz.sizeOf292
  v53:=Tryz.zeroValue292
  t55:=Tryz.underlying294
  a55:=Tryz.isAgg294
  z55:=Tryz.sizeOf294
  v55:=Tryz.zeroValue294
  t66:=Tryz.underlying305
  a66:=Tryz.isAgg305
  z66:=Tryz.sizeOf305
  v66:=Tryz.zeroValue305
  t70:=Tryz.underlying309
  a70:=Tryz.isAgg309
  z70:=Tryz.sizeOf309
  v70:=Tryz.zeroValue309
  t76:=Tryz.underlying317
  a76:=Tryz.isAgg317
  z76:=Tryz.sizeOf317
  v76:=Tryz.zeroValue317
  t77:=Tryz.underlying221
  a77:=Tryz.isAgg221
  z77:=Tryz.sizeOf221
  v77:=Tryz.zeroValue221}
end Go.Proofs
namespace Go.Proofs
open Go.Shelf
open Go.Pm (jZ)
def Tryz.laysC181_ren:Go.Shelf.Ren:=⟨fun|41=>181|n=>n,fun|22=>39|23=>3|n=>n,fun|n=>n⟩
theorem Tryz.laysC181:Go.Proofs.SlLaysE0.n41 Tryz.prog Tryz.laysC181_ren:={
  mixed:=by kernel_rfl
  f41:=⟨Tryz.f181.name,by decide,Tryz.func181.trans (jZ some (by kernel_rfl))⟩
  t4:=Tryz.underlying4
  a4:=Tryz.isAgg4
  z4:=Tryz.sizeOf4
  v4:=Tryz.zeroValue4
  t22:=Tryz.underlying39
  a22:=Tryz.isAgg39
  z22:=Tryz.sizeOf39
  v22:=Tryz.zeroValue39}
def Tryz.laysC252_ren:Go.Shelf.Ren:=⟨fun|41=>252|n=>n,fun|22=>195|23=>204|n=>n,fun|n=>n⟩
theorem Tryz.laysC252:Go.Proofs.SlLaysE0.n41 Tryz.prog Tryz.laysC252_ren:={
  mixed:=by kernel_rfl
  f41:=⟨Tryz.f252.name,by decide,Tryz.func252.trans (jZ some (by kernel_rfl))⟩
  t4:=Tryz.underlying4
  a4:=Tryz.isAgg4
  z4:=Tryz.sizeOf4
  v4:=Tryz.zeroValue4
  t22:=Tryz.underlying195
  a22:=Tryz.isAgg195
  z22:=Tryz.sizeOf195
  v22:=Tryz.zeroValue195}
end Go.Proofs
namespace Go.Proofs
open Go Go.Pm
set_option maxRecDepth 100000
abbrev NK:Nat:=1000
def rP:ak:=⟨.of [⟨1,1,0,0,10,10,0,⟨0,0⟩,⟨0,0⟩,2,0,.of [],.of []⟩,⟨1,2,50,0,10,10,0,⟨0,0⟩,⟨0,0⟩,2,0,.of [],.of []⟩,⟨1,1,100,0,10,10,0,⟨0,0⟩,⟨0,0⟩,2,0,.of [],.of []⟩,⟨1,2,150,0,10,10,0,⟨0,0⟩,⟨0,0⟩,2,0,.of [],.of []⟩,⟨1,1,200,0,10,10,0,⟨0,0⟩,⟨0,0⟩,2,0,.of [],.of []⟩]⟩
def zA0:Sl bz:=.of [⟨0,2,1,0,0,0⟩,⟨2,3,1,0,0,1⟩,⟨4,4,1,0,0,2⟩,⟨4,8,1,0,0,0⟩,⟨1,5,1,0,0,1⟩,⟨3,5,1,0,0,1⟩]
def zB0:Sl (Sl ay):=.of [.of [⟨0,20,30⟩],.of [⟨100,30,40⟩],.of [⟨200,40,50⟩],.of [⟨200,80,90⟩],.of [⟨50,50,60⟩],.of [⟨150,50,60⟩]]
def Ku:Pt aW:=⟨⟨rP,zA0,zB0,⟨2,0⟩⟩⟩
abbrev TB:={T:Tabs // au aB T}
def TB.m{δ ρ:Type}[dA δ][dA ρ](T:TB)(f:FuncId)(y:δ×ρ)(h:zpP ((gQ T.1 []).fn f) y=true):TB:=⟨T.1.memo f y,au.memo T.2 h⟩
theorem zka:gI aB 253 (.sort 204 3 24):=Rx Tryz.laysS253 rfl rfl rfl (dE krY)
theorem zkb:gI aB 133 (.sort 43 3 56):=Rx Tryz.laysS133 rfl rfl rfl (dE krY)
theorem zkc:gI aB 181 (.clone 3 1 8):=Ry Tryz.laysC181 rfl rfl rfl rfl rfl rfl rfl (by decide) (dE krY)
theorem zkd:gI aB 252 (.clone 204 3 24):=Ry Tryz.laysC252 rfl rfl rfl rfl rfl rfl rfl (by decide) (dE krY)
def K1:TB:=⟨oQ aB NK Tabs.nil
 [.f 161 {},
 .f 232 {},
 .f 233 {},
 .f 234 {},
 .f 164 {},
 .f 235 {},
 .f 201 {},
 .f 160 {}],eX au.nil krY⟩
def K2:TB:=K1.m 160 (((rP),true):(ak)×(Bool)) krY
def K3:TB:=⟨oQ aB NK K2.1
 [.f 122 {},
 .f 123 {},
 .f 60 {},
 .f 112 {},
 .f 188 {},
 .f 138 {},
 .f 223 {},
 .i 251 {yl:=[3]},
 .f 246 {},
 .f 224 {},
 .f 189 {},
 .f 139 {}],eX K2.2 krY⟩
def K4:TB:=K3.m 139 (((rP,⟨0,2,1,0,0,0⟩),((.of [⟨0,20,30⟩]),0)):(ak×bz)×(Sl ay×Int)) krY
def K5:TB:=K4.m 139 (((rP,⟨2,3,1,0,0,1⟩),((.of [⟨100,30,40⟩]),0)):(ak×bz)×(Sl ay×Int)) krY
def K6:TB:=K5.m 139 (((rP,⟨4,4,1,0,0,2⟩),((.of [⟨200,40,50⟩]),0)):(ak×bz)×(Sl ay×Int)) krY
def K7:TB:=K6.m 139 (((rP,⟨4,8,1,0,0,0⟩),((.of [⟨200,80,90⟩]),0)):(ak×bz)×(Sl ay×Int)) krY
def K8:TB:=K7.m 139 (((rP,⟨1,5,1,0,0,1⟩),((.of [⟨50,50,60⟩]),0)):(ak×bz)×(Sl ay×Int)) krY
def K9:TB:=K8.m 139 (((rP,⟨3,5,1,0,0,1⟩),((.of [⟨150,50,60⟩]),0)):(ak×bz)×(Sl ay×Int)) krY
def K10:TB:=⟨oQ aB NK K9.1
 [.f 78 {}],eX K9.2 krY⟩
def K11:TB:=K10.m 78 (((rP,⟨2,0⟩,zA0),(Ku,0)):(ak×bQ×Sl bz)×(Pt aW×Int)) krY
def K12:TB:=⟨oQ aB NK K11.1
 [.f 176 {},
 .f 126 {},
 .f 140 {},
 .i 173 {yl:=[7]},
 .f 121 {},
 .f 180 {},
 .f 190 {},
 .f 210 {},
 .f 179 {}],eX K11.2 krY⟩
def K13:TB:=⟨K12.1.addO 181 (.clone 3 1 8),au.addO K12.2 zkc⟩
def K14:TB:=⟨oQ aB NK K13.1
 [.f 111 {}],eX K13.2 krY⟩
def K15:TB:=K14.m 111 (((rP,(.of [⟨0,2,1,0,0,0⟩])),0):(ak×Sl bz)×(Int)) krY
def K16:TB:=K15.m 111 (((rP,(.of [⟨0,2,1,0,0,0⟩,⟨2,3,1,0,0,1⟩])),0):(ak×Sl bz)×(Int)) krY
def K17:TB:=K16.m 111 (((rP,(.of [⟨0,2,1,0,0,0⟩,⟨2,3,1,0,0,1⟩,⟨4,4,1,0,0,2⟩])),0):(ak×Sl bz)×(Int)) krY
def K18:TB:=K17.m 111 (((rP,(.of [⟨0,2,1,0,0,0⟩,⟨2,3,1,0,0,1⟩,⟨4,8,1,0,0,0⟩])),0):(ak×Sl bz)×(Int)) krY
def K19:TB:=K18.m 111 (((rP,(.of [⟨0,2,1,0,0,0⟩,⟨4,4,1,0,0,2⟩])),0):(ak×Sl bz)×(Int)) krY
def K20:TB:=K19.m 111 (((rP,(.of [⟨0,2,1,0,0,0⟩,⟨4,8,1,0,0,0⟩])),0):(ak×Sl bz)×(Int)) krY
def K21:TB:=K20.m 111 (((rP,(.of [⟨2,3,1,0,0,1⟩])),0):(ak×Sl bz)×(Int)) krY
def K22:TB:=K21.m 111 (((rP,(.of [⟨2,3,1,0,0,1⟩,⟨4,4,1,0,0,2⟩])),0):(ak×Sl bz)×(Int)) krY
def K23:TB:=K22.m 111 (((rP,(.of [⟨2,3,1,0,0,1⟩,⟨4,8,1,0,0,0⟩])),0):(ak×Sl bz)×(Int)) krY
def K24:TB:=K23.m 111 (((rP,(.of [⟨4,4,1,0,0,2⟩])),0):(ak×Sl bz)×(Int)) krY
def K25:TB:=K24.m 111 (((rP,(.of [⟨4,8,1,0,0,0⟩])),0):(ak×Sl bz)×(Int)) krY
def K26:TB:=K25.m 111 (((rP,(.of [⟨1,5,1,0,0,1⟩])),0):(ak×Sl bz)×(Int)) krY
def K27:TB:=K26.m 111 (((rP,(.of [⟨1,5,1,0,0,1⟩,⟨3,5,1,0,0,1⟩])),0):(ak×Sl bz)×(Int)) krY
def K28:TB:=K27.m 111 (((rP,(.of [⟨3,5,1,0,0,1⟩])),0):(ak×Sl bz)×(Int)) krY
def K29:TB:=⟨oQ aB NK K28.1
 [.f 113 {},
 .f 50 {}],eX K28.2 krY⟩
def K30:TB:=K29.m 50 (((rP,(.of [⟨0,2,1,0,0,0⟩])),(⟨(-2),2⟩,0)):(ak×Sl bz)×(bW×Int)) krY
def K31:TB:=K30.m 50 (((rP,(.of [⟨0,2,1,0,0,0⟩,⟨2,3,1,0,0,1⟩])),(⟨(-1),2⟩,0)):(ak×Sl bz)×(bW×Int)) krY
def K32:TB:=K31.m 50 (((rP,(.of [⟨0,2,1,0,0,0⟩,⟨2,3,1,0,0,1⟩,⟨4,4,1,0,0,2⟩])),(⟨0,2⟩,0)):(ak×Sl bz)×(bW×Int)) krY
def K33:TB:=K32.m 50 (((rP,(.of [⟨0,2,1,0,0,0⟩,⟨2,3,1,0,0,1⟩,⟨4,8,1,0,0,0⟩])),(⟨(-1),2⟩,0)):(ak×Sl bz)×(bW×Int)) krY
def K34:TB:=K33.m 50 (((rP,(.of [⟨0,2,1,0,0,0⟩,⟨4,4,1,0,0,2⟩])),(⟨0,2⟩,0)):(ak×Sl bz)×(bW×Int)) krY
def K35:TB:=K34.m 50 (((rP,(.of [⟨0,2,1,0,0,0⟩,⟨4,8,1,0,0,0⟩])),(⟨(-2),2⟩,0)):(ak×Sl bz)×(bW×Int)) krY
def K36:TB:=K35.m 50 (((rP,(.of [⟨2,3,1,0,0,1⟩])),(⟨(-1),3⟩,0)):(ak×Sl bz)×(bW×Int)) krY
def K37:TB:=K36.m 50 (((rP,(.of [⟨2,3,1,0,0,1⟩,⟨4,4,1,0,0,2⟩])),(⟨0,3⟩,0)):(ak×Sl bz)×(bW×Int)) krY
def K38:TB:=K37.m 50 (((rP,(.of [⟨2,3,1,0,0,1⟩,⟨4,8,1,0,0,0⟩])),(⟨(-1),2⟩,0)):(ak×Sl bz)×(bW×Int)) krY
def K39:TB:=K38.m 50 (((rP,(.of [⟨4,4,1,0,0,2⟩])),(⟨0,4⟩,0)):(ak×Sl bz)×(bW×Int)) krY
def K40:TB:=K39.m 50 (((rP,(.of [⟨4,8,1,0,0,0⟩])),(⟨(-2),2⟩,0)):(ak×Sl bz)×(bW×Int)) krY
def K41:TB:=K40.m 50 (((rP,(.of [⟨1,5,1,0,0,1⟩])),(⟨(-1),3⟩,0)):(ak×Sl bz)×(bW×Int)) krY
def K42:TB:=K41.m 50 (((rP,(.of [⟨1,5,1,0,0,1⟩,⟨3,5,1,0,0,1⟩])),(⟨(-1),3⟩,0)):(ak×Sl bz)×(bW×Int)) krY
def K43:TB:=K42.m 50 (((rP,(.of [⟨3,5,1,0,0,1⟩])),(⟨(-1),3⟩,0)):(ak×Sl bz)×(bW×Int)) krY
def K44:TB:=⟨oQ aB NK K43.1
 [.f 93 {},
 .f 105 {},
 .f 118 {},
 .f 162 {},
 .f 157 {},
 .f 156 {},
 .f 109 {},
 .f 207 {},
 .f 231 {},
 .f 230 {},
 .f 257 {},
 .f 238 {},
 .f 206 {},
 .f 167 {},
 .f 229 {},
 .i 228 {yl:=[13]},
 .f 197 {},
 .f 209 {},
 .f 172 {}],eX K43.2 krY⟩
def K45:TB:=K44.m 172 (((10,100),(⟨1,10⟩)):(Int×Int)×(aP)) krY
def K46:TB:=K45.m 172 (((2000,100),(⟨20,1⟩)):(Int×Int)×(aP)) krY
def K47:TB:=K46.m 172 (((20,100),(⟨1,5⟩)):(Int×Int)×(aP)) krY
def K48:TB:=K47.m 172 (((0,100),(⟨0,1⟩)):(Int×Int)×(aP)) krY
def K49:TB:=K48.m 172 (((3000,100),(⟨30,1⟩)):(Int×Int)×(aP)) krY
def K50:TB:=K49.m 172 (((20,200),(⟨1,10⟩)):(Int×Int)×(aP)) krY
def K51:TB:=K50.m 172 (((4000,200),(⟨20,1⟩)):(Int×Int)×(aP)) krY
def K52:TB:=K51.m 172 (((30,200),(⟨3,20⟩)):(Int×Int)×(aP)) krY
def K53:TB:=K52.m 172 (((10,200),(⟨1,20⟩)):(Int×Int)×(aP)) krY
def K54:TB:=K53.m 172 (((6000,200),(⟨30,1⟩)):(Int×Int)×(aP)) krY
def K55:TB:=K54.m 172 (((1000,100),(⟨10,1⟩)):(Int×Int)×(aP)) krY
def K56:TB:=K55.m 172 (((4000,100),(⟨40,1⟩)):(Int×Int)×(aP)) krY
def K57:TB:=K56.m 172 (((60,200),(⟨3,10⟩)):(Int×Int)×(aP)) krY
def K58:TB:=K57.m 172 (((70,200),(⟨7,20⟩)):(Int×Int)×(aP)) krY
def K59:TB:=K58.m 172 (((50,200),(⟨1,4⟩)):(Int×Int)×(aP)) krY
def K60:TB:=K59.m 172 (((50,100),(⟨1,2⟩)):(Int×Int)×(aP)) krY
def K61:TB:=K60.m 172 ((((-2000),100),(⟨(-20),1⟩)):(Int×Int)×(aP)) krY
def K62:TB:=K61.m 172 (((60,100),(⟨3,5⟩)):(Int×Int)×(aP)) krY
def K63:TB:=K62.m 172 ((((-3000),100),(⟨(-30),1⟩)):(Int×Int)×(aP)) krY
def K64:TB:=K63.m 172 (((40,100),(⟨2,5⟩)):(Int×Int)×(aP)) krY
def K65:TB:=K64.m 172 ((((-1000),100),(⟨(-10),1⟩)):(Int×Int)×(aP)) krY
def K66:TB:=K65.m 172 (((6000,100),(⟨60,1⟩)):(Int×Int)×(aP)) krY
def K67:TB:=K66.m 172 (((8000,200),(⟨40,1⟩)):(Int×Int)×(aP)) krY
def K68:TB:=K67.m 172 (((10000,200),(⟨50,1⟩)):(Int×Int)×(aP)) krY
def K69:TB:=K68.m 172 (((12000,200),(⟨60,1⟩)):(Int×Int)×(aP)) krY
def K70:TB:=K69.m 172 (((5000,100),(⟨50,1⟩)):(Int×Int)×(aP)) krY
def K71:TB:=K70.m 172 (((4500,100),(⟨45,1⟩)):(Int×Int)×(aP)) krY
def K72:TB:=K71.m 172 ((((-10),100),(⟨(-1),10⟩)):(Int×Int)×(aP)) krY
def K73:TB:=K72.m 172 (((6500,100),(⟨65,1⟩)):(Int×Int)×(aP)) krY
def K74:TB:=⟨oQ aB NK K73.1
 [.f 198 {}],eX K73.2 krY⟩
def K75:TB:=K74.m 198 (((⟨10,2000,100⟩),(⟨⟨1,10⟩,⟨20,1⟩⟩)):(straight)×(Line)) krY
def K76:TB:=K75.m 198 (((⟨20,2000,100⟩),(⟨⟨1,5⟩,⟨20,1⟩⟩)):(straight)×(Line)) krY
def K77:TB:=K76.m 198 (((⟨0,3000,100⟩),(⟨⟨0,1⟩,⟨30,1⟩⟩)):(straight)×(Line)) krY
def K78:TB:=K77.m 198 (((⟨10,3000,100⟩),(⟨⟨1,10⟩,⟨30,1⟩⟩)):(straight)×(Line)) krY
def K79:TB:=K78.m 198 (((⟨20,4000,200⟩),(⟨⟨1,10⟩,⟨20,1⟩⟩)):(straight)×(Line)) krY
def K80:TB:=K79.m 198 (((⟨30,4000,200⟩),(⟨⟨3,20⟩,⟨20,1⟩⟩)):(straight)×(Line)) krY
def K81:TB:=K80.m 198 (((⟨10,6000,200⟩),(⟨⟨1,20⟩,⟨30,1⟩⟩)):(straight)×(Line)) krY
def K82:TB:=K81.m 198 (((⟨20,6000,200⟩),(⟨⟨1,10⟩,⟨30,1⟩⟩)):(straight)×(Line)) krY
def K83:TB:=K82.m 198 (((⟨20,1000,100⟩),(⟨⟨1,5⟩,⟨10,1⟩⟩)):(straight)×(Line)) krY
def K84:TB:=K83.m 198 (((⟨0,4000,100⟩),(⟨⟨0,1⟩,⟨40,1⟩⟩)):(straight)×(Line)) krY
def K85:TB:=K84.m 198 (((⟨60,4000,200⟩),(⟨⟨3,10⟩,⟨20,1⟩⟩)):(straight)×(Line)) krY
def K86:TB:=K85.m 198 (((⟨70,4000,200⟩),(⟨⟨7,20⟩,⟨20,1⟩⟩)):(straight)×(Line)) krY
def K87:TB:=K86.m 198 (((⟨50,6000,200⟩),(⟨⟨1,4⟩,⟨30,1⟩⟩)):(straight)×(Line)) krY
def K88:TB:=K87.m 198 (((⟨60,6000,200⟩),(⟨⟨3,10⟩,⟨30,1⟩⟩)):(straight)×(Line)) krY
def K89:TB:=K88.m 198 (((⟨50,(-2000),100⟩),(⟨⟨1,2⟩,⟨(-20),1⟩⟩)):(straight)×(Line)) krY
def K90:TB:=K89.m 198 (((⟨60,(-3000),100⟩),(⟨⟨3,5⟩,⟨(-30),1⟩⟩)):(straight)×(Line)) krY
def K91:TB:=K90.m 198 (((⟨40,0,100⟩),(⟨⟨2,5⟩,⟨0,1⟩⟩)):(straight)×(Line)) krY
def K92:TB:=K91.m 198 (((⟨50,(-1000),100⟩),(⟨⟨1,2⟩,⟨(-10),1⟩⟩)):(straight)×(Line)) krY
def K93:TB:=K92.m 198 (((⟨0,5000,100⟩),(⟨⟨0,1⟩,⟨50,1⟩⟩)):(straight)×(Line)) krY
def K94:TB:=K93.m 198 (((⟨10,4500,100⟩),(⟨⟨1,10⟩,⟨45,1⟩⟩)):(straight)×(Line)) krY
def K95:TB:=K94.m 198 (((⟨(-10),6500,100⟩),(⟨⟨(-1),10⟩,⟨65,1⟩⟩)):(straight)×(Line)) krY
def K96:TB:=K95.m 198 (((⟨0,6000,100⟩),(⟨⟨0,1⟩,⟨60,1⟩⟩)):(straight)×(Line)) krY
def K97:TB:=⟨oQ aB NK K96.1
 [.f 199 {},
 .f 158 {vv:=[14]}],eX K96.2 krY⟩
def K98:TB:=K97.m 158 ((((.of [⟨0,20,30⟩])),(⟨⟨.of [⟨0,20,30⟩]⟩,.of []⟩)):(Sl ay)×(set)) krY
def K99:TB:=K98.m 158 ((((.of [⟨0,20,30⟩,⟨100,30,40⟩])),(⟨⟨.of [⟨0,20,30⟩,⟨100,30,40⟩]⟩,.of [⟨10,2000,100⟩,⟨20,2000,100⟩,⟨0,3000,100⟩,⟨10,3000,100⟩]⟩)):(Sl ay)×(set)) krY
def zSG:TB:=K99.m 158 ((((.of [⟨0,20,30⟩,⟨100,30,40⟩,⟨200,40,50⟩])),(⟨⟨.of [⟨0,20,30⟩,⟨100,30,40⟩,⟨200,40,50⟩]⟩,.of [⟨10,2000,100⟩,⟨10,3000,100⟩,⟨30,4000,200⟩,⟨10,6000,200⟩]⟩)):(Sl ay)×(set)) krY
def zSH:TB:=zSG.m 158 ((((.of [⟨0,20,30⟩,⟨100,30,40⟩,⟨200,80,90⟩])),(⟨⟨.of [⟨0,20,30⟩,⟨100,30,40⟩,⟨200,80,90⟩]⟩,.of []⟩)):(Sl ay)×(set)) krY
def zSI:TB:=zSH.m 158 ((((.of [⟨0,20,30⟩,⟨200,40,50⟩])),(⟨⟨.of [⟨0,20,30⟩,⟨200,40,50⟩]⟩,.of [⟨20,4000,200⟩,⟨30,4000,200⟩,⟨10,6000,200⟩,⟨20,6000,200⟩]⟩)):(Sl ay)×(set)) krY
def zSJ:TB:=zSI.m 158 ((((.of [⟨0,20,30⟩,⟨200,80,90⟩])),(⟨⟨.of [⟨0,20,30⟩,⟨200,80,90⟩]⟩,.of [⟨60,4000,200⟩,⟨70,4000,200⟩,⟨50,6000,200⟩,⟨60,6000,200⟩]⟩)):(Sl ay)×(set)) krY
def zSK:TB:=zSJ.m 158 ((((.of [⟨100,30,40⟩])),(⟨⟨.of [⟨100,30,40⟩]⟩,.of []⟩)):(Sl ay)×(set)) krY
def zSL:TB:=zSK.m 158 ((((.of [⟨100,30,40⟩,⟨200,40,50⟩])),(⟨⟨.of [⟨100,30,40⟩,⟨200,40,50⟩]⟩,.of [⟨10,2000,100⟩,⟨20,1000,100⟩,⟨0,4000,100⟩,⟨10,3000,100⟩]⟩)):(Sl ay)×(set)) krY
def zSM:TB:=zSL.m 158 ((((.of [⟨100,30,40⟩,⟨200,80,90⟩])),(⟨⟨.of [⟨100,30,40⟩,⟨200,80,90⟩]⟩,.of [⟨50,(-2000),100⟩,⟨60,(-3000),100⟩,⟨40,0,100⟩,⟨50,(-1000),100⟩]⟩)):(Sl ay)×(set)) krY
def zSN:TB:=zSM.m 158 ((((.of [⟨200,40,50⟩])),(⟨⟨.of [⟨200,40,50⟩]⟩,.of []⟩)):(Sl ay)×(set)) krY
def zSO:TB:=zSN.m 158 ((((.of [⟨200,80,90⟩])),(⟨⟨.of [⟨200,80,90⟩]⟩,.of []⟩)):(Sl ay)×(set)) krY
def zSP:TB:=zSO.m 158 ((((.of [⟨50,50,60⟩])),(⟨⟨.of [⟨50,50,60⟩]⟩,.of []⟩)):(Sl ay)×(set)) krY
def zSQ:TB:=zSP.m 158 ((((.of [⟨50,50,60⟩,⟨150,50,60⟩])),(⟨⟨.of [⟨50,50,60⟩,⟨150,50,60⟩]⟩,.of [⟨0,5000,100⟩,⟨10,4500,100⟩,⟨(-10),6500,100⟩,⟨0,6000,100⟩]⟩)):(Sl ay)×(set)) krY
def zHW:TB:=zSQ.m 158 ((((.of [⟨150,50,60⟩])),(⟨⟨.of [⟨150,50,60⟩]⟩,.of []⟩)):(Sl ay)×(set)) krY
def zHX:TB:=⟨oQ aB NK zHW.1
 [.f 200 {},
 .f 159 {},
 .f 117 {}],eX zHW.2 krY⟩
def zHY:TB:=⟨zHX.1.addO 252 (.clone 204 3 24),au.addO zHX.2 zkd⟩
def zHZ:TB:=⟨zHY.1.addO 253 (.sort 204 3 24),au.addO zHY.2 zka⟩
def zH0:TB:=⟨oQ aB NK zHZ.1
 [.f 239 {},
 .f 208 {},
 .f 170 {},
 .f 255 {},
 .f 254 {}],eX zHZ.2 krY⟩
def zSR:Tabs:=oQ aB NK Tabs.nil [.f 239 {},.f 208 {},.f 170 {},.f 209 {},.f 172 {},.f 118 {},.f 162 {},.f 207 {},.f 157 {},.f 231 {},.f 230 {},.f 257 {},.f 238 {},.f 206 {},.f 255 {}]
def zH1:TB:=⟨zH0.1.addC 254 (aF aB NK (gQ zSR []) (bP aB 254 [] {}) 254),au.addC zH0.2 (zjJ (@eX ⟨1⟩ _ _ _ _ (@au.nil ⟨1⟩ _) krY) (dE krY))⟩
def zSS:TB:=⟨oQ aB NK zH1.1
 [.f 249 {},
 .f 240 {},
 .f 211 {}],eX zH1.2 krY⟩
def zST:TB:=zSS.m 211 ((((.of [⟨0,20,30⟩])),(⟨⟨0,0⟩,⟨0,0⟩⟩,6)):(Sl ay)×(Line×Int)) krY
def zSU:TB:=zST.m 211 ((((.of [⟨0,20,30⟩,⟨100,30,40⟩])),(⟨⟨0,1⟩,⟨30,1⟩⟩,0)):(Sl ay)×(Line×Int)) krY
def zSV:TB:=zSU.m 211 ((((.of [⟨0,20,30⟩,⟨100,30,40⟩,⟨200,40,50⟩])),(⟨⟨1,20⟩,⟨30,1⟩⟩,0)):(Sl ay)×(Line×Int)) krY
def zSW:TB:=zSV.m 211 ((((.of [⟨0,20,30⟩,⟨100,30,40⟩,⟨200,80,90⟩])),(⟨⟨0,0⟩,⟨0,0⟩⟩,5)):(Sl ay)×(Line×Int)) krY
def zSX:TB:=zSW.m 211 ((((.of [⟨0,20,30⟩,⟨200,40,50⟩])),(⟨⟨1,20⟩,⟨30,1⟩⟩,0)):(Sl ay)×(Line×Int)) krY
def zSY:TB:=zSX.m 211 ((((.of [⟨0,20,30⟩,⟨200,80,90⟩])),(⟨⟨1,4⟩,⟨30,1⟩⟩,0)):(Sl ay)×(Line×Int)) krY
def zSZ:TB:=zSY.m 211 ((((.of [⟨100,30,40⟩])),(⟨⟨0,0⟩,⟨0,0⟩⟩,6)):(Sl ay)×(Line×Int)) krY
def zS1:TB:=zSZ.m 211 ((((.of [⟨100,30,40⟩,⟨200,40,50⟩])),(⟨⟨0,1⟩,⟨40,1⟩⟩,0)):(Sl ay)×(Line×Int)) krY
def zS2:TB:=zS1.m 211 ((((.of [⟨100,30,40⟩,⟨200,80,90⟩])),(⟨⟨2,5⟩,⟨0,1⟩⟩,0)):(Sl ay)×(Line×Int)) krY
def zS3:TB:=zS2.m 211 ((((.of [⟨200,40,50⟩])),(⟨⟨0,0⟩,⟨0,0⟩⟩,6)):(Sl ay)×(Line×Int)) krY
def zS4:TB:=zS3.m 211 ((((.of [⟨200,80,90⟩])),(⟨⟨0,0⟩,⟨0,0⟩⟩,6)):(Sl ay)×(Line×Int)) krY
def zS5:TB:=zS4.m 211 ((((.of [⟨50,50,60⟩])),(⟨⟨0,0⟩,⟨0,0⟩⟩,6)):(Sl ay)×(Line×Int)) krY
def zS6:TB:=zS5.m 211 ((((.of [⟨50,50,60⟩,⟨150,50,60⟩])),(⟨⟨(-1),10⟩,⟨65,1⟩⟩,0)):(Sl ay)×(Line×Int)) krY
def zH2:TB:=zS6.m 211 ((((.of [⟨150,50,60⟩])),(⟨⟨0,0⟩,⟨0,0⟩⟩,6)):(Sl ay)×(Line×Int)) krY
def zS7:TB:=⟨oQ aB NK zH2.1
 [.f 182 {}],eX zH2.2 krY⟩
def zS8:TB:=zS7.m 182 (((Ku,⟨1,.of [0],.of [0]⟩),true):(Pt aW×af)×(Bool)) krY
def zS9:TB:=zS8.m 182 (((Ku,⟨1,.of [0,1],.of [0,0]⟩),true):(Pt aW×af)×(Bool)) krY
def zTa:TB:=zS9.m 182 (((Ku,⟨1,.of [0,1,2],.of [0,0,0]⟩),true):(Pt aW×af)×(Bool)) krY
def zTb:TB:=zTa.m 182 (((Ku,⟨1,.of [0,1,3],.of [0,0,0]⟩),false):(Pt aW×af)×(Bool)) krY
def zTc:TB:=zTb.m 182 (((Ku,⟨1,.of [0,2],.of [0,0]⟩),true):(Pt aW×af)×(Bool)) krY
def zTd:TB:=zTc.m 182 (((Ku,⟨1,.of [0,3],.of [0,0]⟩),true):(Pt aW×af)×(Bool)) krY
def zTe:TB:=zTd.m 182 (((Ku,⟨1,.of [1],.of [0]⟩),true):(Pt aW×af)×(Bool)) krY
def zTf:TB:=zTe.m 182 (((Ku,⟨1,.of [1,2],.of [0,0]⟩),true):(Pt aW×af)×(Bool)) krY
def zTg:TB:=zTf.m 182 (((Ku,⟨1,.of [1,3],.of [0,0]⟩),true):(Pt aW×af)×(Bool)) krY
def zTh:TB:=zTg.m 182 (((Ku,⟨1,.of [2],.of [0]⟩),true):(Pt aW×af)×(Bool)) krY
def zTi:TB:=zTh.m 182 (((Ku,⟨1,.of [3],.of [0]⟩),true):(Pt aW×af)×(Bool)) krY
def zTj:TB:=zTi.m 182 (((Ku,⟨2,.of [4],.of [0]⟩),true):(Pt aW×af)×(Bool)) krY
def zTk:TB:=zTj.m 182 (((Ku,⟨2,.of [4,5],.of [0,0]⟩),true):(Pt aW×af)×(Bool)) krY
def zH3:TB:=zTk.m 182 (((Ku,⟨2,.of [5],.of [0]⟩),true):(Pt aW×af)×(Bool)) krY
def zp7:TB:=⟨oQ aB NK zH3.1
 [.r 178 64 {clo:=[180]}],eX zH3.2 krY⟩
def zH4:TB:=⟨zp7.1.addF 127 (aD aB (gQ zp7.1 []) NK zdD 177 (bP aB 127 [] {ks:=[(0,3,⟨[],[],[(4,0,5000,43)],[],[],[],[]⟩)]}) 127),au.addF zp7.2 (zjZ zp7.2 (dE krY) zj3)⟩
def zTl:TB:=⟨oQ aB NK zH4.1
 [.f 120 {},
 .f 203 {},
 .f 202 {},
 .f 169 {},
 .f 171 {},
 .f 168 {},
 .f 119 {},
 .f 163 {},
 .f 114 {},
 .f 236 {},
 .f 237 {},
 .f 205 {},
 .i 204 {yl:=[9]},
 .f 165 {},
 .f 115 {}],eX zH4.2 krY⟩
def zTm:TB:=zTl.m 115 (((rP,4,⟨30,60⟩),(true,true,0)):(ak×Int×bW)×(Bool×Bool×Int)) krY
def zTn:TB:=zTm.m 115 (((rP,2,⟨30,40⟩),(true,true,0)):(ak×Int×bW)×(Bool×Bool×Int)) krY
def zTo:TB:=zTn.m 115 (((rP,2,⟨50,60⟩),(true,true,0)):(ak×Int×bW)×(Bool×Bool×Int)) krY
def zTp:TB:=zTo.m 115 (((rP,0,⟨10,40⟩),(true,true,0)):(ak×Int×bW)×(Bool×Bool×Int)) krY
def zH5:TB:=zTp.m 115 (((rP,0,⟨(-30),0⟩),(false,true,0)):(ak×Int×bW)×(Bool×Bool×Int)) krY
def zTq:TB:=⟨oQ aB NK zH5.1
 [.f 191 {},
 .f 192 {},
 .f 141 {clo:=[190]}],eX zH5.2 krY⟩
def zTr:TB:=zTq.m 141 (((Ku,⟨1,.of [0,1],.of [0,0]⟩),(.of [4])):(Pt aW×af)×(Sl Int)) krY
def zTs:TB:=zTr.m 141 (((Ku,⟨1,.of [0,1,2],.of [0,0,0]⟩),(.of [])):(Pt aW×af)×(Sl Int)) krY
def zTt:TB:=zTs.m 141 (((Ku,⟨1,.of [0,2],.of [0,0]⟩),(.of [2])):(Pt aW×af)×(Sl Int)) krY
def zTu:TB:=zTt.m 141 (((Ku,⟨1,.of [0,3],.of [0,0]⟩),(.of [2])):(Pt aW×af)×(Sl Int)) krY
def zTv:TB:=zTu.m 141 (((Ku,⟨1,.of [1,2],.of [0,0]⟩),(.of [0])):(Pt aW×af)×(Sl Int)) krY
def zTw:TB:=zTv.m 141 (((Ku,⟨1,.of [1,3],.of [0,0]⟩),(.of [])):(Pt aW×af)×(Sl Int)) krY
def zH6:TB:=zTw.m 141 (((Ku,⟨2,.of [4,5],.of [0,0]⟩),(.of [])):(Pt aW×af)×(Sl Int)) krY
def zH7:TB:=⟨oQ aB NK zH6.1
 [.f 129 {},
 .f 98 {},
 .f 152 {},
 .f 92 {},
 .f 132 {},
 .f 97 {},
 .f 131 {},
 .f 130 {},
 .k 128 43 3 56 {}],eX zH6.2 krY⟩
def zH8:TB:=⟨zH7.1.addO 133 (.sort 43 3 56),au.addO zH7.2 zkb⟩
def zH9:TB:=⟨oQ aB NK zH8.1
 [.f 185 {},
 .f 222 {},
 .f 186 {},
 .f 187 {},
 .f 134 {}],eX zH8.2 krY⟩
def zTx:Tabs:=oQ aB NK Tabs.nil [.f 185 {},.f 222 {},.f 186 {},.f 239 {},.f 208 {},.f 187 {}]
def zIa:TB:=⟨zH9.1.addC 134 (aF aB NK (gQ zTx []) (bP aB 134 [] {}) 134),au.addC zH9.2 (zjJ (@eX ⟨1⟩ _ _ _ _ (@au.nil ⟨1⟩ _) krY) (dE krY))⟩
def zTy:TB:=⟨oQ aB NK zIa.1
 [.f 72 {clo:=[130],cut:=[15],ks:=[(0,6,⟨[],[],[(35,2,5001,43)],[],[],[],[]⟩),(2,15,⟨[],[],[],[],[57,5001],[],[]⟩)]}],eX zIa.2 krY⟩
def zTz:TB:=zTy.m 72 (((rP,⟨2,0⟩,zA0,(.of [])),(⟨⟨Ku,.of [⟨1,.of [0,1,2],.of [0,0,0]⟩,⟨1,.of [1,3],.of [0,0]⟩,⟨2,.of [4,5],.of [0,0]⟩],.of [⟨1,.of [0,1,2],.of [0,0,0]⟩,⟨1,.of [1,3],.of [0,0]⟩,⟨2,.of [4,5],.of [0,0]⟩]⟩⟩,0)):(ak×bQ×Sl bz×Sl Bool)×(Pt found×Int)) krY
def zIb:TB:=zTz.m 72 (((rP,⟨2,0⟩,zA0,(.of [true])),(⟨⟨Ku,.of [⟨1,.of [0,1,2],.of [0,0,0]⟩,⟨1,.of [1,3],.of [0,0]⟩,⟨2,.of [4,5],.of [0,0]⟩],.of [⟨1,.of [0,1,2],.of [0,0,0]⟩,⟨1,.of [1,3],.of [0,0]⟩,⟨2,.of [4,5],.of [0,0]⟩]⟩⟩,0)):(ak×bQ×Sl bz×Sl Bool)×(Pt found×Int)) krY
def zTA:TB:=⟨oQ aB NK zIb.1
 [.f 20 {},
 .f 96 {},
 .f 79 {vv:=[8]},
 .f 110 {},
 .f 49 {},
 .f 80 {},
 .f 81 {},
 .f 82 {},
 .f 83 {},
 .f 142 {},
 .f 84 {},
 .f 25 {}],eX zIb.2 krY⟩
def zIc:TB:=zTA.m 25 (((rP,⟨2,0⟩,zA0,⟨1,.of [0,1],.of [0,0]⟩),(⟨5,.of [],.of [4],⟨0,.of [],.of []⟩⟩,0)):(ak×bQ×Sl bz×af)×(Ug×Int)) krY
def zTB:TB:=⟨oQ aB NK zIc.1
 [.f 38 {},
 .f 52 {},
 .f 29 {},
 .f 31 {ks:=[(0,16,⟨[],[],[],[],[],[10],[]⟩)],vv:=[41]}],eX zIc.2 krY⟩
def zId:TB:=zTB.m 31 (((rP,⟨2,0⟩,zA0),((.of [⟨0,2⟩,⟨1,2⟩]),0)):(ak×bQ×Sl bz)×(Sl zp6×Int)) krY
def zTC:TB:=⟨oQ aB NK zId.1
 [.f 32 {},
 .f 99 {},
 .r 100 64 {},
 .r 101 64 {},
 .f 36 {ks:=[(0,16,⟨[],[],[],[],[1000896],[],[]⟩)],vv:=[73,75]}],eX zId.2 krY⟩
def zIe:TB:=zTC.m 36 (((rP,⟨2,0⟩,zA0,1),((.of [0,1]),(.of [0]),0)):(ak×bQ×Sl bz×Int)×(Sl Int×Sl Int×Int)) krY
def zTD:TB:=⟨oQ aB NK zIe.1
 [.f 58 {},
 .f 103 {},
 .f 104 {},
 .f 42 {}],eX zIe.2 krY⟩
def zIf:TB:=zTD.m 42 (((rP,⟨2,0⟩,zA0,(.of [⟨1,⟨0,1⟩,⟨1,5⟩⟩,⟨1,⟨1,10⟩,⟨1,2⟩⟩])),((.of [⟨1,1⟩,⟨0,2⟩]),0)):(ak×bQ×Sl bz×Sl Bin)×(Sl Tally×Int)) krY
def zzr:TB:=⟨oQ aB NK zIf.1
 [.f 44 {},
 .f 67 {},
 .f 69 {},
 .f 70 {},
 .f 125 {},
 .f 71 {},
 .f 19 {}],eX zIf.2 krY⟩
theorem k19:((gQ zzr.1 []).fn 19 []).o=some [.one (.bool true)]:=krY
theorem zTE:au aB zzr.1:=zzr.2
end Go.Proofs
namespace Go.Proofs.YtjkijdhdbhooiaaGreat
open Go.Pm (jZ)
set_option maxRecDepth 100000
def dc:Nat→Nat→List Char|0,_=>[]|k+1,n=>Char.ofNat (n%128)::dc k (n/128)
def ioR:List (List Char):=[dc 2 14945,dc 35 45019731839301669745199096094014757347713743838262223150477152386253683567,dc 34 420377978748125055740877229337914779690535202023532228586777341826005871,dc 36 6550971710285934913754052784167232504664614938228495552548125985273808517999,dc 37 729461727561750118551056160028214191605660185564422184735309847620634057210735,dc 37 830772752598413053766828580736873493486916948856955428203985110704856283839343,dc 37 846039670449084468774387244088358248202427724899131661281249209823569867537263,dc 35 51179294023049743501667742572912222775214732381401055866039370168307121007,dc 35 45009296865569399087797946188323693179256993798839364341239407728733551471,dc 37 830780268438003779521215029671213750534782202343527674838098051362097095867247,dc 38 107331119686939743456630664922862568562027744964707129139922504835010957783169903,dc 36 6550077393460720109370983476171913501904522994409179701070095258754267839343,dc 35 48939868791262458989610581110577656928740303271215203627173391395041409903,dc 37 838349406564167396116242431067385471964016398604997842927764345145510690650991,dc 37 838349393033854787123352198492273111221406595137993776056015629414144918780783]
def ioN:List Char:=dc 599 149771092015852491278000662115128137748269599194581860494294778261301651447965370062645304741743729477171988600934799727326517975522812478602000462062741437383719700469441320225746001460657778919864702789185877727655633384756976915120483667267389003774318074344898749855352565971438052119468579606834274369754786466833197740569138863177439610707078849369185453345527529660045569842755503891534211525146045868530953689090964949867816695296345068916719713389224171554417522039179151544735265211004436216097918169509036553218766076260083794299680425243321104884652801756935939016856612808890681403713245564864003766772582403997404693715256366145143767382394449050497631406600169134111017758420705379181155399036702826495772349138224361597591141153214596847427732622443000331392581117708063194127217598752738628016573330186096707239904130243791293223266344009164320459711360917953739697093488615153066332379337541176729581439867139231308816545570621442575900426155419574959597509166851618974720944858788987333755451277637880095378589630688375170213056367090535571658338605777263539845461211124236505614769845380929544309814139208243656161387198222242061066521483984326294839656717673867435632142724742576645662295495695963786797012817486377421718128934313825440411880
theorem ioS:Tryz.prog.initOrder=String.ofList ioN:=by kernel_rfl
theorem ioL:Tryz.prog.initOrder.toList=ioN:=(jZ String.toList ioS).trans String.toList_ofList
theorem ioW:wordsSigns Tryz.prog.initOrder.toList=(dc 7 509754063237352)::(dc 64 572163061260696105970074307196347989822506933787247010369012457204266251338368704666046318255463753418979972205211827874765770452792118)::(dc 3 1915619)::ioR:=(jZ wordsSigns ioL).trans (by kernel_rfl)
theorem ioB:behindMainWord (wordsSigns Tryz.prog.initOrder.toList)=(dc 3 1915619)::ioR:=(jZ behindMainWord ioW).trans (by kernel_rfl)
theorem Ui {P : Program} {l : List (List Char)} (h : behindMainWord (wordsSigns P.initOrder.toList) = l) : P.headLifts = (if (stripLifts liftWords l).2.head? == some "cut".toList then (stripLifts liftWords l).1 else []) := by subst h; rfl
theorem zp8{P:Program}{rest:List (List Char)}(h:behindMainWord (wordsSigns P.initOrder.toList)=(dc 3 1915619)::rest):P.make=some .cut:=by unfold Program.make;rw[h];rfl
theorem zke{P:Program}{rest:List (List Char)}(h:behindMainWord (wordsSigns P.initOrder.toList)=(dc 3 1915619)::rest)(hl:P.headLifts=[]):P.liftsFinal=false:=by unfold Program.liftsFinal;rw[h,hl];rfl
theorem zkf {P : Program} {c : List Char} {rest : List (List Char)} (h : behindMainWord (wordsSigns P.initOrder.toList) = c :: rest) (Gn : (stripLifts liftWords (c :: rest)).2.head? = some "cut".toList)
    (hs1:(stripLifts liftWords (c::rest)).1=[]) (zTF:P.laysLater=false) (hb:P.bearsReflect=false) (hd:P.doorFits []=true):P.mayEnter=true:=by
  unfold Program.mayEnter;rw[h];simp[Gn,hs1,zTF,hb,hd]
theorem ioH:Tryz.prog.headLifts=[]:=(Ui ioB).trans (by kernel_rfl)
theorem ioK:Tryz.prog.make=some .cut:=zp8 ioB
theorem ioF:Tryz.prog.liftsFinal=false:=zke ioB ioH
theorem ioE:Tryz.prog.mayEnter=true:=zkf ioB (by kernel_rfl) (by kernel_rfl) (by kernel_rfl) (by kernel_rfl) (by kernel_rfl)
end Go.Proofs.YtjkijdhdbhooiaaGreat
