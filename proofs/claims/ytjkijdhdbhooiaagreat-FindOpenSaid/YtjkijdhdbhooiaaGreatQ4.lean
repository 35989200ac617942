/- Part 4: framework, functions, plain laws. -/
import Derived.Test.YtjkijdhdbhooiaaGreatQ3
import Derived.Test.YtjkijdhdbhooiaaGreatProg
import Derived.Tactics
import Derived.Tactics2
import Derived.Recover
import Derived.RecoverIn
import Derived.TacticsInMore
import Derived.ProofKit
import Derived.Deep.Slices
import Derived.OpenShut
import Derived.Shelf.SlSortCmp.NoneTotal
import Derived.Shelf.SlicesE.Clone
import Derived.Shelf.SlLaysF0
import Derived.Shelf.SlLaysE0
import Derived.Test.YtjkijdhdbhooiaaGreatRows
import Derived.WalkKit
import Derived.ChangeOld
set_option linter.all false
noncomputable section
namespace Go.Pm
open Go Go.Proofs
variable [aG]
set_option maxRecDepth 100000
theorem znz:∀caps:Array Value,caps.size=2->GH Tryz.prog {target:=.fn (.func 177) caps,args:=#[]}:=λcaps hc=>by
 match caps,hc with
 | ⟨[x,y]⟩,_ =>
 refine⟨.func 177,#[x,y],177,#[x,y],rfl,λw=>?_,λn w=>?_⟩;have h:df Tryz.prog 177:=⟨_,rfl,rfl,by kernel_rfl⟩;show(callFunc 177 (#[] ++ #[x,y])).run Tryz.prog w=_;exact dN h;have key:CallsDIn {fn:=λ_=>True,depth:=none,alive:=false,round:=none} n Tryz.prog 177 #[x,y] .returning w λe u' w'=>e=.returned (.tuple #[])/\u'=.returning/\w'=w:=by
  refine callsDIn_of_wpSIn Tryz.func177 rfl trivial λc₀ cs hu=>?_;apply wpSIn_seq;apply wpSIn_region;simp[wpOpsSIn,go_sem,recoverD,hu,Tryz.ntmps177,Exit.thenS];refine wpSIn_of_wpIn rfl (wpIn_block (wpIn_seq (wpIn_region ?_)));simp[wpOpsIn,go_sem,Oper.wpIn];refine wpIn_cond (t:=true) (by simp[Act.eval,Array.replicate]) ?_;simp only[OM];refine wpIn_region ?_;simp[wpOpsIn,go_sem,Oper.wpIn,Exit.inBlock];cases c₀;simp_all [bodyPostS,results,Tryz.results177]
 exact key.mono λe u' w' h=>⟨⟨_,h.1⟩,h.2⟩
theorem zDe:∃fs,Tryz.prog.underlying 254=some (.struct fs):=by
 have h:(match Tryz.prog.underlying 254 with|some (.struct _)=>true|_=>false)=true:=by kernel_rfl
 split at h;rename_i fs e;exact⟨fs,e⟩;cases h
abbrev zby:pY:=⟨4,30,5,4,false,254⟩
theorem zDf(v:Value)(w:World):(Instr.typeAssert (.iface 254 v) 20 254 true).run Tryz.prog w=.ok (.tuple #[v,.bool true]) w:=by
 obtain⟨fs,h⟩:=zDe;simp only[Instr.typeAssert,Sem.run_bind,run_underlying h,Result.andThen_ok,OM,Sem.run_pure]
theorem zvL:zDa Tryz.prog zby 177:=λch fK v1 v2 w=>by
 unfold pY.ok at fK;split at fK
 rotate_left
 cases fK;rename_i ty kd nn;have hty:ty=254:=kY fK;subst hty;refine⟨#[.cells #[.int kd nn] 254 (0,0)],λw1 w2 h1 h2=>⟨λw=>?_,λn=>?_⟩⟩;have h:df Tryz.prog 177:=⟨_,rfl,rfl,by kernel_rfl⟩;show(callFunc 177 (#[] ++ #[v1,v2])).run Tryz.prog w=_;exact dN h;have key:CallsDIn {fn:=λ_=>True,depth:=none,alive:=false,round:=none} n Tryz.prog 177 #[v1,v2] (.panicking [⟨.iface 254 (.agg #[.int kd nn]),false,false⟩]) w λe u' w'=>e=.returned (.tuple #[])/\u'=.panicking (zdL [⟨.iface 254 (.agg #[.int kd nn]),false,false⟩])/\w'=w2:=by
  refine callsDIn_of_wpSIn Tryz.func177 rfl trivial λc₀ cs hu=>?_;apply wpSIn_seq;apply wpSIn_region;simp[wpOpsSIn,go_sem,recoverD,hu,Tryz.ntmps177,Exit.thenS];refine wpSIn_of_wpIn rfl (wpIn_block (wpIn_seq (wpIn_region ?_)));simp[wpOpsIn,go_sem,Oper.wpIn];refine wpIn_cond (t:=false) (by simp[Act.eval,Array.replicate]) ?_;simp only[qdm,qd2];refine wpIn_seq (wpIn_region ?_);simp[wpOpsIn,go_sem,Oper.wpIn,zDf];refine wpIn_cond (t:=true) (by simp[Act.eval,Array.replicate]) ?_;simp only[OM];refine wpIn_seq (wpIn_region ?_);simp[wpOpsIn,go_sem,Oper.wpIn];refine wpIn_region ?_;have e:w.alloc (Obj.cells #[.int kd nn] 254)={w with heap:=w.heap ++ #[.cells #[.int kd nn] 254 (0,0)]}:=by
   show({w with heap:=w.heap.push _}:World)=_;rw[Array.push_eq_append]
  rw[<- e]at h1;generalize hA:(Act.mk _ _)=A;have hA0:A.eval (.tmp 0)=v1:=by subst hA;simp[Act.eval]
  have hA1:A.eval (.tmp 1)=v2:=by subst hA;simp[Act.eval]
  have hc:A.eval (.const (.slice none 0 0))=.slice none 0 0:=rfl;have hc':A.eval (.const (.bool false))=.bool false:=rfl;have hAd:A.defers=[]:=by subst hA;rfl
  clear hA;show wpOpsIn _ n Tryz.prog _ _ [0,1] A _;have h1:(Instr.storeAt 30 v1 (.slice none 0 0)).run Tryz.prog (w.alloc (Obj.cells #[.int kd nn] 254))=.ok () w1:=h1;have h2:(Instr.storeAt 4 v2 (.bool false)).run Tryz.prog w1=.ok () w2:=h2;simp[wpOpsIn,Oper.wpIn,Oper.semAt,execOp,hA0,hA1,hc,hc',h1,h2,Region.wanted,Act.put,Oper.about,Exit.inBlock,Oper.uponIn_skip];clear e h1 h2 hA0 hA1 hc hc';cases c₀;simp[bodyPostS,results,Tryz.results177,zdL,hAd]
 exact key.mono λe u' w' h=>⟨⟨_,h.1⟩,h.2⟩
theorem zhV:zvJ Tryz.prog zby 177:=⟨znz,zvL⟩
end Go.Pm
namespace Go.Pm
instance dz0:aG:=⟨0⟩
end Go.Pm
namespace Go.Proofs
open Go Go.Pm
set_option maxRecDepth 100000
abbrev aJ:=Tryz.prog
structure bC where
 Low:Int
 High:Int
deriving Inhabited
instance:bn bC:=bn.iso (α:=Int×Int) (λ⟨x0,x1⟩=>⟨x0,x1⟩) (λx=>(x.Low,x.High)) (λ_=>rfl)
instance:iR bC:=.agg'
structure aW where
 Time:Int
 fB:bC
deriving Inhabited
instance:bn aW:=bn.iso (α:=Int×bC) (λ⟨x0,x1⟩=>⟨x0,x1⟩) (λx=>(x.Time,x.fB)) (λ_=>rfl)
instance:iR aW:=.agg'
structure aj where
 Kind:Int
 View:Int
 Z:Int
 First:Int
 aT:Int
 bW:Int
 dZ:Int
 bH:bC
 Clock:bC
 dX:Int
 Least:Int
 aW:Sl aW
 Dead:Sl Int
deriving Inhabited
instance:bn aj:=bn.iso (α:=Int×Int×Int×Int×Int×Int×Int×bC×bC×Int×Int×Sl aW×Sl Int) (λ⟨x0,x1,x2,x3,x4,x5,x6,x7,x8,x9,x10,x11,x12⟩=>⟨x0,x1,x2,x3,x4,x5,x6,x7,x8,x9,x10,x11,x12⟩) (λx=>(x.Kind,x.View,x.Z,x.First,x.aT,x.bW,x.dZ,x.bH,x.Clock,x.dX,x.Least,x.aW,x.Dead)) (λ_=>rfl)
instance:iR aj:=.agg'
structure au where
 ak:Sl aj
deriving Inhabited
instance:bn au:=bn.iso (α:=Sl aj) (λx0=>⟨x0⟩) (λx=>x.ak) (λ_=>rfl)
instance:iR au:=.agg'
structure bI where
 ve:Int
 xA:Int
deriving Inhabited
instance:bn bI:=bn.iso (α:=Int×Int) (λ⟨x0,x1⟩=>⟨x0,x1⟩) (λx=>(x.ve,x.xA)) (λ_=>rfl)
instance:iR bI:=.agg'
structure bu where
 aj:Int
 Channel:Int
 qm:Int
 aW:Int
 TG:Int
 Time:Int
deriving Inhabited
instance:bn bu:=bn.iso (α:=Int×Int×Int×Int×Int×Int) (λ⟨x0,x1,x2,x3,x4,x5⟩=>⟨x0,x1,x2,x3,x4,x5⟩) (λx=>(x.aj,x.Channel,x.qm,x.aW,x.TG,x.Time)) (λ_=>rfl)
instance:iR bu:=.agg'
structure af where
 View:Int
 Hits:Sl Int
 aX:Sl Int
deriving Inhabited
instance:bn af:=bn.iso (α:=Int×Sl Int×Sl Int) (λ⟨x0,x1,x2⟩=>⟨x0,x1,x2⟩) (λx=>(x.View,x.Hits,x.aX)) (λ_=>rfl)
instance:iR af:=.agg'
structure aC where
 Z:Int
 Low:Int
 High:Int
deriving Inhabited
instance:bn aC:=bn.iso (α:=Int×Int×Int) (λ⟨x0,x1,x2⟩=>⟨x0,x1,x2⟩) (λx=>(x.Z,x.Low,x.High)) (λ_=>rfl)
instance:iR aC:=.agg'
structure aH where
 au:au
 hits:Sl bu
 iT:Sl (Sl aC)
 rules:bI
deriving Inhabited
instance:bn aH:=bn.iso (α:=au×Sl bu×Sl (Sl aC)×bI) (λ⟨x0,x1,x2,x3⟩=>⟨x0,x1,x2,x3⟩) (λx=>(x.au,x.hits,x.iT,x.rules)) (λ_=>rfl)
instance:iR aH:=.agg'
structure placed where
 aj:aj
 index:Int
deriving Inhabited
instance:bn placed:=bn.iso (α:=aj×Int) (λ⟨x0,x1⟩=>⟨x0,x1⟩) (λx=>(x.aj,x.index)) (λ_=>rfl)
instance:iR placed:=.agg'
structure found where
 aH:Pt aH
 fits:Sl af
 ax:Sl af
deriving Inhabited
instance:bn found:=bn.iso (α:=Pt aH×Sl af×Sl af) (λ⟨x0,x1,x2⟩=>⟨x0,x1,x2⟩) (λx=>(x.aH,x.fits,x.ax)) (λ_=>rfl)
instance:iR found:=.agg'
structure aP where
 Num:Int
 bV:Int
deriving Inhabited
instance:bn aP:=bn.iso (α:=Int×Int) (λ⟨x0,x1⟩=>⟨x0,x1⟩) (λx=>(x.Num,x.bV)) (λ_=>rfl)
instance:iR aP:=.agg'
structure Line where
 pO:aP
 Start:aP
deriving Inhabited
instance:bn Line:=bn.iso (α:=aP×aP) (λ⟨x0,x1⟩=>⟨x0,x1⟩) (λx=>(x.pO,x.Start)) (λ_=>rfl)
instance:iR Line:=.agg'
structure list where
 bz:Sl aC
deriving Inhabited
instance:bn list:=bn.iso (α:=Sl aC) (λx0=>⟨x0⟩) (λx=>x.bz) (λ_=>rfl)
instance:iR list:=.agg'
structure straight where
 bg:Int
 start:Int
 den:Int
deriving Inhabited
instance:bn straight:=bn.iso (α:=Int×Int×Int) (λ⟨x0,x1,x2⟩=>⟨x0,x1,x2⟩) (λx=>(x.bg,x.start,x.den)) (λ_=>rfl)
instance:iR straight:=.agg'
structure set where
 list:list
 bU:Sl straight
deriving Inhabited
instance:bn set:=bn.iso (α:=list×Sl straight) (λ⟨x0,x1⟩=>⟨x0,x1⟩) (λx=>(x.list,x.bU)) (λ_=>rfl)
instance:iR set:=.agg'
structure zhW where
 Z:Int
 X:Int
 W:Int
 Y:Int
deriving Inhabited
instance:bn zhW:=bn.iso (α:=Int×Int×Int×Int) (λ⟨x0,x1,x2,x3⟩=>⟨x0,x1,x2,x3⟩) (λx=>(x.Z,x.X,x.W,x.Y)) (λ_=>rfl)
instance:iR zhW:=.agg'
structure iC where
 X:Int
 Y:Int
deriving Inhabited
instance:bn iC:=bn.iso (α:=Int×Int) (λ⟨x0,x1⟩=>⟨x0,x1⟩) (λx=>(x.X,x.Y)) (λ_=>rfl)
instance:iR iC:=.agg'
structure bD where
 ED:Int
 Hits:Sl Int
 ak:Sl Int
 wO:af
deriving Inhabited
instance:bn bD:=bn.iso (α:=Int×Sl Int×Sl Int×af) (λ⟨x0,x1,x2,x3⟩=>⟨x0,x1,x2,x3⟩) (λx=>(x.ED,x.Hits,x.ak,x.wO)) (λ_=>rfl)
instance:iR bD:=.agg'
structure Bin where
 View:Int
 Low:aP
 High:aP
deriving Inhabited
instance:bn Bin:=bn.iso (α:=Int×aP×aP) (λ⟨x0,x1,x2⟩=>⟨x0,x1,x2⟩) (λx=>(x.View,x.Low,x.High)) (λ_=>rfl)
instance:iR Bin:=.agg'
structure Tally where
 zRA:Int
 zk4:Int
deriving Inhabited
instance:bn Tally:=bn.iso (α:=Int×Int) (λ⟨x0,x1⟩=>⟨x0,x1⟩) (λx=>(x.zRA,x.zk4)) (λ_=>rfl)
instance:iR Tally:=.agg'
instance:rq Int:=⟨λ_=>rfl⟩
instance:rq Bool:=⟨λ_=>rfl⟩
instance:rq bC:=⟨λ_=>rfl⟩
instance:rq aW:=⟨λ_=>rfl⟩
instance:rq aj:=⟨λ_=>rfl⟩
instance:rq au:=⟨λ_=>rfl⟩
instance:rq bI:=⟨λ_=>rfl⟩
instance:rq bu:=⟨λ_=>rfl⟩
instance:rq af:=⟨λ_=>rfl⟩
instance:rq aC:=⟨λ_=>rfl⟩
instance:rq aH:=⟨λ_=>rfl⟩
instance:rq placed:=⟨λ_=>rfl⟩
instance:rq found:=⟨λ_=>rfl⟩
instance:rq aP:=⟨λ_=>rfl⟩
instance:rq Line:=⟨λ_=>rfl⟩
instance:rq list:=⟨λ_=>rfl⟩
instance:rq straight:=⟨λ_=>rfl⟩
instance:rq set:=⟨λ_=>rfl⟩
instance:rq zhW:=⟨λ_=>rfl⟩
instance:rq iC:=⟨λ_=>rfl⟩
instance:rq bD:=⟨λ_=>rfl⟩
instance:rq Bin:=⟨λ_=>rfl⟩
instance:rq Tally:=⟨λ_=>rfl⟩
theorem krY{p:Prop}(h:p:=by kernel_rfl):p:=h
theorem eX [aG]{P:Program}{N:Nat}{Γ:bM}{A δ ρ:Type}[dm δ][dm ρ]{aO:dI}{f:FuncId}{x:δ}{k:ρ->Option A}{r:Option A}(h:Go.Pm.runT P Γ N aO f (kz k) (dm.enc x)=r:=by kernel_rfl):(ae.ty (aF P N Γ aO f) x:ae ρ).T k=r:=zLo.trans h
theorem eY [aG]{P:Program}{N:Nat}{T:Tabs}{vv:List Nat}{δ ρ:Type}[dm δ][dm ρ]{aO:dI}{f:FuncId}(h:aB P T)(hb:VF P f=true:=by kernel_rfl):Ok P f (ae.un (ae.ty (aF P N (jc T vv) aO f):δ->ae ρ)):=zsw (sU h (dC hb))
abbrev jS{δ ρ:Type}[dm δ][dm ρ](N:Nat)(T:Tabs)(f:FuncId):δ->ae ρ:=ae.ty (aF Tryz.prog N (jc T []) (bZ Tryz.prog f [] {}) f)
end Go.Proofs
namespace Go.Pm
variable [aG]
open Go Go.Deep
def H0(w:World):Fz:=λb=>(w.heap[b]?).map .fz
theorem zDg(w:World):Hw (H0 w) w:=by
 intro b x h;unfold H0 at h;cases e:w.heap[b]? with|none=>rw[e]at h;cases h|some o=>rw[e]at h;cases h;exact⟨o,rfl,rfl⟩
def wfI(x:Int):Prop:=-9223372036854775808<=x/\x<=9223372036854775807
class WfC (α : Type) where
  wf:α->Prop
instance:WfC Int:=⟨wfI⟩
instance:WfC Bool:=⟨λ_=>True⟩
instance{α:Type}[WfC α]:WfC (Sl α):=⟨λx=>x.len<=9223372036854775807/\∀i,i<x.len->WfC.wf (x.get i)⟩
section
variable{H:Type}{en:TypeId×Value->H}{P:Program}{w:World}{sp:Nat->Bool}{held:Bool}
def Rd(H:Type)(en:TypeId×Value->H)(P:Program)(w:World)(sp:Nat->Bool)(held:Bool)(t:TypeId)(α:Type)[bn α][WfC α]:Prop :=
 ∀(fuel:Nat)(cs:List Value)(x:DataW H×List MemPlace),DataW.trod en P w 0 sp held fuel t cs=some x->∃a:α,RL (Rep (H0 w)) (bn.enc a) cs/\WfC.wf a
theorem zvN{t:TypeId}(ht:P.underlying t=some (.int .i64)):Rd H en P w sp held t Int:=by
 intro fuel cs x h;obtain⟨n,rfl,_,hw⟩:=DataW.trod_int ht h;refine⟨n,⟨.int _ _,trivial⟩,?_⟩;simp only[Lit.wf,fH,oO]at hw;exact⟨hw.1,hw.2⟩
def zDh:TypeDesc→Bool|.struct _=>false|.array _ _=>false|_=>true
theorem Zg{t:TypeId}{d:TypeDesc}{r:Reach}{base:Nat}{v:Value}(ht:P.underlying t=some d)(hd:zDh d=true)(h:Value.okWide P w r base t v):v.cells.toList=[v]:=by
 unfold Value.okWide at h;rw[ht]at h;cases v with
 | agg cs =>
  exfalso;cases d<;>first|(cases hd;done)|(simp only[Cell.okWide,Cell.ok,ht]at h)
 | _=>rfl
theorem zvO{h:Fz}{p:PV}{v:Value}(hv:v.cells.toList=[v])(r:RL (Rep h) [p] v.cells.toList):pJ h (.one p) v:=by
 rw[hv]at r;exact r.1
theorem zhX{w':World}(b:xE (H0 w) w.heap.size w w'):Go.RowKit.Below w.heap.size w w' :=
 ⟨b.os,b.tape,b.output,b.size,λk hk=>b.block k hk⟩
end
end Go.Pm
namespace Go.Pm
section perm
variable{c:Nat->Nat->Int}
theorem y9(x:Nat):∀l:List Nat,(Qx c x l).Perm (x::l)
  | []=>.refl _
  | y::r=>by
    unfold Qx;split;exact .refl _;exact((y9 x r).cons y).trans (.swap _ _ _)
theorem AY(n:Nat):(xJ n c).Perm (List.range n):=by
 unfold xJ;generalize List.range n=l
 induction l with|nil=>exact .refl _|cons x l ih=>exact(y9 x _).trans (ih.cons x)
def leB(c:Nat->Nat->Int)(a b:Nat):Prop:=¬c b a<0
theorem zbz{n:Nat}(H:STO n c){x:Nat}(hx:x<n):∀{l:List Nat},(∀y∈l,y<n)→l.Pairwise (leB c)→(Qx c x l).Pairwise (leB c)
  | [],_,_=>by simp[Qx]
  | y::r,hl,hp=>by
    have hy:=hl y jM;rw[qdr]at hp;unfold Qx;split;rename_i h;have h:=qde h;rw[qdr];refine⟨λz hz=>?_,qdr.2 hp⟩;have hxy:leB c x y:=λh2=>by
      have:=H.1 x hx;have:=H.2.2 x y x hx hy hx h h2;omega
    rcases jW.1 hz with rfl|hz
    exact hxy;intro h2;exact hp.1 z hz (H.2.2 z x y (hl z (jB _ hz)) hx hy h2 h);rename_i h;have h:=of_decide_eq_false h;rw[qdr];refine⟨λz hz=>?_,zbz H hx (λz hz=>hl z (jB _ hz)) hp.2⟩;rcases jW.1 ((y9 x r).mem_iff.1 hz)with rfl|hz
    exact h;exact hp.1 z hz
theorem VH{n:Nat}(H:STO n c):(xJ n c).Pairwise (leB c):=by
 have key:∀l:List Nat,(∀y∈l,y<n)->(l.foldr (Qx c) []).Pairwise (leB c)/\∀y∈l.foldr (Qx c) [],y<n:=by
  intro l
  induction l with
  | nil=>intro _;exact⟨List.Pairwise.nil,λy hy=>by simp at hy⟩
  | cons x l ih =>
   intro h;obtain⟨h1,h2⟩:=ih λy hy=>h y (jB _ hy);have hx:=h x jM;refine⟨zbz H hx h2 h1,λy hy=>?_⟩;rcases jW.1 ((y9 x _).mem_iff.1 hy)with rfl|hy
   exact hx;exact h2 y hy
 exact(key _ λy hy=>Ak.1 hy).1
theorem Zh{n:Nat}(H:STO n c){l:List Nat}(hp:l.Perm (List.range n))(hs:l.Pairwise (leB c)):l=xJ n c:=by
 refine List.Perm.eq_of_pairwise (le:=leB c) (λa b ha hb h1 h2=>?_) hs (VH H) (hp.trans (AY n).symm);have ha:=Ak.1 (hp.mem_iff.1 ha);have hb:=Ak.1 ((AY n).mem_iff.1 hb);by_cases e:a=b;exact e;rcases H.2.1 a b ha hb e with h|h
 exact absurd h.1 h2;exact absurd h.1 h1
end perm
end Go.Pm
namespace Go.Pm
variable [aG]
open Go.Shelf Go.RowKit Go.Lib Go.Sort Go.Proofs
theorem zdP{w w':World}(h1:w'.heap=w.heap)(h2:w'.tape=w.tape)(h3:w'.drawn=w.drawn)(h4:w'.os=w.os)(h5:w'.output=w.output):w'=w:=by
 cases w;cases w';simp_all
theorem zhY{w w':World}{h:Fz}(b : @xE ⟨1⟩ h w.heap.size w w'):∃q os,w'=grow (w.drewN q) os:=by
 obtain⟨bos,zDi,zLr,zTt,zvP,zvQ⟩:=b;refine⟨w'.drawn-w.drawn,w'.heap.extract w.heap.size w'.heap.size,zdP ?_ zDi ?_ bos zLr⟩;show w'.heap=w.heap++w'.heap.extract w.heap.size w'.heap.size;apply Array.ext_getElem?;intro i;rw[Array.getElem?_append];split;rename_i hl;exact zvQ i hl;rename_i hl;rw[Array.getElem?_extract];by_cases jv:i<w'.heap.size;rw[dH omY];congr 1;omega;rw[dM omY,qjc omY];show w'.drawn=w.drawn+(w'.drawn-w.drawn);have:w.drawn*1<=w'.drawn*1:=zvP;omega
theorem Rz{w:World}{g q:Nat}{cur:Array Value}{e:TypeId}{fr:Nat×Nat}{off:Nat}(F:Array Value)(hb:w.heap[g]? = some (.cells cur e fr)) :
  ∃X4,(putRow id (Sort.ahead w q) g off F).heap[g]? = some (.cells X4 e fr)/\X4.size=cur.size:=by
 refine⟨putCells id off F cur,?_,by simp[putCells]⟩;simp[putRow,mapBlock,Sort.ahead,qjP,hb,onCells]
theorem Hu{w:World}{g q off:Nat}(F:Array Value){k:Nat}(hk:k≠g):(putRow id (Sort.ahead w q) g off F).heap[k]? = w.heap[k]?:=by
 simp[putRow,mapBlock,Sort.ahead,qjP,qjL hk]
theorem zhZ{C:List PA→ae (List PA)}{caps:List PV}{ag:Bool}{get:Nat→List PV}{i j:Nat}(h:(JG C caps ag get i j).isSome=true) :
  ∃rs,(C (elP ag (get i)::elP ag (get j)::caps.map .one)).o=some rs/\rs=[.one (.int .i64 (nH C caps ag get i j))]:=by
 unfold nH;cases e:JG C caps ag get i j with
 | none=>rw[e]at h;cases h
 | some c =>
  unfold JG at e;obtain⟨rs,h1,h2⟩:=ae.T_some e;refine⟨rs,h1,?_⟩;split at h2;cases h2;rfl;cases h2
theorem PW{P:Program}{ρ:Ren}(L:SlLaysF0.n6 P ρ){e s b:Nat}(he:ρ.t 24=e)(xk:jb P e=some true)(jw:oP P e=some s)(hc:df P (ρ.f 6)):jh P (ρ.f 6) (.sort e s b):=by
 intro w h base v n get gf caps cv ag C hC hcv tJ _ jr ⟨xs,iU,hr⟩ pg hw bT Qq ⟨hn,hS,hO⟩;rw[xk]at tJ;simp only[bG]at tJ;subst tJ;refine⟨hc,?_⟩;have hdr:∀(w':World)(k:Nat),w.drawn<=w.drawn+k:=λ_ k=>Nat.le_add_right _ _;have none:∀(p:Option Addr)(cap:Nat),n=0->v=.slice p 0 cap->Calls P (ρ.f 6) #[v,.func (.func gf) #[] cv.toArray] w λr w'=>r=.returned (.tuple #[])/\BQ h w' base e s v n (JH n (nH C caps true get) get)/\GrB w w' v.ownBlock:=by
  rintro p cap rfl rfl;refine(AnyF.slices_SortFunc_none L p cap _ w).mono ?_;rintro r w' ⟨rfl,rfl⟩;exact⟨rfl,⟨xs,iU,λi hi=>absurd hi (dq8 i)⟩,⟨rfl,rfl,rfl,jy _,λ_ _ _=>rfl⟩,jy _⟩
 rcases iU.2 with⟨h1,h2⟩|⟨OG,cap,cur,rfl,hb,qW,zun,jV,hcs,htk⟩
 exact none _ _ h2 h1;by_cases hn0:n=0;subst hn0;exact none _ _ rfl rfl;have:Inhabited (Fin n):=⟨⟨0,omY⟩⟩;let enc:Fin n->List Value:=λi=>(xs.drop (i.val*s)).take s;let c:=nH C caps true get;let cf:Fin n->Fin n->Int:=λx y=>c x.val y.val;let d:Array (Fin n):=Array.ofFn id;have OJ:d.size=n:=Array.size_ofFn;have hdi:∀i (hi:i<n),d[i]! = ⟨i,hi⟩:=λi hi=>by
  rw[qjB d i (by rw[OJ];exact hi)];simp[d]
 have jv:OG<w.heap.size:=(X5.1 qW).1;have hbn:h OG=Option.none:=bT OG rfl;have hmul:∀i,i<n->i*s+s<=n*s:=λi hi=>by have:=Qs s (qdf hi);rw[Qv]at this;exact this
 have hk:∀x,(enc x).length=s:=λx=>by
  have:=hmul x.val x.isLt;simp only[enc,qdC,qdD,iU.1];omega
 have zLs:∀j,j<n*s->cur[j]? = xs[j]?:=λj hj=>by
  have:(cur.toList.take (n*s))[j]? = xs[j]?:=by rw[htk]
  rw[IV,dH hj]at this;simpa using this
 have hxl:∀j,j<n*s->∃u,xs[j]? = some u:=λj hj=>⟨xs[j]'(by rw[iU.1];exact hj),Ai _⟩;have h1:∀x,∀u∈enc x,u.oneCell'=true:=λx u hu=>by
  obtain⟨j,hj⟩:=Yi hu;obtain⟨p,_,hp⟩:=(hr x.val x.isLt).get' j u hj;exact hp.one
 have zDj:∀j (hj:j<n*s),(flatK enc s d)[j]! = xs[j]'(by rw[iU.1];exact hj):=λj hj=>by
  have hq:j/s<n:=qjV (by rw[qdz];exact hj);rw[get_flatK _ _ _ _ (by rw[OJ];exact hj),hdi _ hq];have hm:=Nat.mod_lt j jr;have hdm:=jqf j s;rw[qjB _ _ (by rw[hk];exact hm)];simp only[enc,List.getElem_take,List.getElem_drop];congr 1;rw[qdz];exact hdm
 have hH:HoldsK enc s w OG 0 d:=λj hj=>by
  have hj:j<n*s:=by rw[size_flatK,OJ]at hj;exact hj
  refine⟨?_,frozen_of_row w OG _ cur e qW⟩;rw[zDj j hj,cell_of qW,NR,zLs j hj];exact Ai _
 have eg:∀args w,(callFunc gf args).run P w=.ok (.enter gf args) w:=by
  have hcg:df P gf:=by
   obtain⟨rs,hwp,_⟩:=zhZ (hS 0 0 omY omY);exact(hC _ _ hwp w h (.agg (enc ⟨0,omY⟩).toArray :: .agg (enc ⟨0,omY⟩).toArray::cv) ⟨⟨_,rfl,hr 0 omY⟩,⟨_,rfl,hr 0 omY⟩,RL.map_left.2 hcv⟩ hw).1
  exact λargs w=>dN hcg
 have zR6:CmpLays P gf cv.toArray enc s cf OG 0 d.size w:=by
  intro m os dk hdk x y;obtain⟨rs,hwp,hrs⟩:=zhZ (hS x.val y.val x.isLt y.isLt);have hwh:Hw h (sortWorldK enc s w OG 0 m dk os):=hw.same λk o hk=>by
   have hkb:k≠OG:=λe=>by rw[e,hbn]at hk;cases hk
   have hkl:=hw.lt hk;show((putRow id (Sort.ahead w m) OG 0 (flatK enc s dk)).heap++os)[k]? = _;rw[dqZ (by simpa [putRow,mapBlock,Sort.ahead]using hkl)];exact Hu _ hkb
  obtain⟨_,cu⟩:=hC _ _ hwp (sortWorldK enc s w OG 0 m dk os) h (.agg (enc x).toArray :: .agg (enc y).toArray::cv) ⟨⟨_,rfl,hr x.val x.isLt⟩,⟨_,rfl,hr y.val y.isLt⟩,RL.map_left.2 hcv⟩ hwh;rw[show(#[Value.agg (enc x).toArray,.agg (enc y).toArray]++cv.toArray)=(Value.agg (enc x).toArray :: .agg (enc y).toArray::cv).toArray by simp];refine cu.mono ?_;rintro e' w' ⟨h',v',rfl,nS,qV,_,_,_⟩;subst hrs;have Ah:v'=.int .i64 (cf x y):=by
   have:Rep h' (.int .i64 (cf x y)) v':=nS;cases this;rfl
  subst Ah;exact⟨rfl,zhY qV⟩
 have zLt:SWO (ltOf cf):=by
  refine⟨λx=>?_,λx y z hxy hyz=>?_,λx y z hxy hyz=>?_⟩;have:0≤c x.val x.val:=hO.1 x.val x.isLt;simp only[ltOf,qdk];show ¬c x.val x.val<0;omega;simp only [ltOf,oO]at hxy hyz ⊢;exact hO.2.2 _ _ _ x.isLt y.isLt z.isLt hxy hyz;simp only [ltOf,qdk]at hxy hyz ⊢;intro hxz;have hxy:¬c x.val y.val<0:=hxy;have hyz:¬c y.val z.val<0:=hyz;have hxz:c x.val z.val<0:=hxz;by_cases e1:y.val=z.val;rw[e1]at hxy;exact hxy hxz;by_cases e2:x.val=y.val;rw[e2]at hxz;exact hyz hxz;have a1:c z.val y.val<0:=by rcases hO.2.1 y.val z.val y.isLt z.isLt e1 with h|h;exact absurd h.1 hyz;exact h.1
  exact hxy (hO.2.2 _ _ _ x.isLt z.isLt y.isLt hxz a1)
 have aE:∀w,(isAgg (ρ.t 24)).run P w=.ok true w:=λw=>by rw[he];exact nI xk
 have zE:∀w,(Go.sizeOf (ρ.t 24)).run P w=.ok s w:=λw=>by rw[he];exact run_sizeOf jw
 have cu:=AnyQ.slices_SortFunc L s aE zE enc hk h1 cf zLt gf cv.toArray OG 0 cap d w eg zR6 hH jv (by rw[OJ];omega);rw[OJ]at cu;refine cu.mono ?_;rintro r w' ⟨rfl,d',m,os,zIm,Ih,rfl⟩;obtain⟨hps,_,hpp⟩:=zIm;have Zi:d'.size=n:=by rw[hps,OJ]
 have Gy:∀(z:Array (Fin n)),z.size=n->z.extract 0 n=z:=λz hz=>Array.ext (by simp[hz]) (λi h1 h2=>by simp);rw[Gy d' Zi,Gy d OJ]at hpp;have hl:d'.toList.map Fin.val=xJ n c:=by
  refine Zh hO ?_ ?_;refine(hpp.map Fin.val).trans ?_;have:d.toList.map Fin.val=List.range n:=by
   apply dq5;intro i;simp only[d,dq0];by_cases hi:i<n;simp[hi];rw[dq7 (by simp;omega),dq7 (by simp;omega)];rfl
  rw[this];rw [qjf,qdg];intro i j hi hj IR;have mV:i<n:=by simpa [Zi]using hi
  have oM:j<n:=by simpa [Zi]using hj
  have:=Ih i j (xn _) IR oM;rw[qjB d' j omY,qjB d' i omY]at this;simp only[ltOf,qdk]at this;exact this
 have zr2:∀i (hi:i<n),JH n c get i=get (d'[i]'omY).val:=λi hi=>by
  unfold JH;rw[<- hl];congr 1;rw[jqq,dq0];simp[Zi,hi]
 obtain⟨X4,zz8,zIj⟩:=Rz (q:=m) (off:=0) (flatK enc s d') qW;have zcH:(sortWorldK enc s w OG 0 m d' os).heap[OG]? = some (.cells X4 e (0,0)):=by
  show((putRow id (Sort.ahead w m) OG 0 (flatK enc s d')).heap++os)[OG]? = _;rw[dqZ (by simpa [putRow,mapBlock,Sort.ahead]using jv)];exact zz8
 have hH':HoldsK enc s (sortWorldK enc s w OG 0 m d' os) OG 0 d':=holdsK_sortWorldK_c enc s w OG 0 d d' m os hH jv (by rw[Zi,OJ]);have zDk:∀j (hj:j<n*s),X4[j]? = some ((flatK enc s d')[j]!):=λj hj=>by
  have:=(hH' j (by rw[size_flatK,Zi];exact hj)).1;rw[cell_of zcH,NR]at this;exact this
 refine⟨rfl,⟨X4.toList.take (n*s),⟨by rw[qdC,qd3,zIj,hcs];exact Nat.min_eq_left (Qs s zun),.inr ⟨OG,cap,X4,rfl,hb,zcH,zun,jV,by rw[zIj,hcs],rfl⟩⟩,λi hi=>?_⟩,?_⟩;have e1:((X4.toList.take (n*s)).drop (i*s)).take s=enc (d'[i]'omY):=by
  apply dq5;intro j;have hm:=hmul i hi;rw[IV];split;rename_i hj;rw[dqX,IV,dH omY,jqP,zDk _ omY];have hdiv:(i*s+j)/s=i:=by rw[qdz,Nat.mul_add_div jr,Nat.div_eq_of_lt hj,qdQ]
  have zlq:(i*s+j)%s=j:=by rw[qdz,jqg,jqd hj]
  rw[get_flatK _ _ _ _ (by rw[Zi];omega),hdiv,zlq,qjB d' i omY,qjB _ _ (by rw[hk];exact hj)];exact(Ai _).symm;rename_i hj;rw[dq7 (by rw[hk];omega)]
 rw[e1,zr2 i hi];exact hr _ (d'[i]'omY).isLt;refine⟨⟨rfl,rfl,rfl,?_,fun k hk iK => ?_⟩,JV (Nat.le_add_right _ _)⟩;show w.heap.size≤((putRow id (Sort.ahead w m) OG 0 (flatK enc s d')).heap++os).size;simp[putRow,mapBlock,Sort.ahead];show((putRow id (Sort.ahead w m) OG 0 (flatK enc s d')).heap++os)[k]? = _;rw[dqZ (by simpa [putRow,mapBlock,Sort.ahead]using hk)];exact Hu _ λe=>iK (by rw[e];rfl)
end Go.Pm
namespace Go.Pm
open Go.Shelf Go.RowKit Go.Lib Go.Proofs
theorem Zj{P:Program}{ρ:Ren}(L:SlLaysE0.n41 P ρ)(i0:TypeInfo)(z:Value)(size bytes:Nat)(hi:P.info? (ρ.t 23)=some i0)(hz0:i0.zero=some z)(hz1:i0.size=size)(hz2:i0.bytes=bytes)(zJ:z.cells.size=size)(jw:0<size)
    (z23:∀w,(Go.sizeOf (ρ.t 23)).run P w=.ok size w) (a:Addr) (c:Nat) (w:World) :
    Calls P (ρ.f 41) #[.slice (some a) 0 c] w λe w'=>∃v',e=.returned v'/\w'.ownsRow w.heap.size (ρ.t 23) size v' 0 []/\Below w.heap.size w w':=by
  have mixed:=L.mixed;have t4:=L.t4;have a4:=L.a4;have z4:=L.z4;have v4:=L.v4;have t22:=L.t22;have a22:=L.a22;have z22:=L.z22;have v22:=L.v22;have q22:∀(w:World)(a:Option Addr)(n c n' c':Nat),(binOp .eql (ρ.t 22) (.slice a n c) (.slice none n' c')).run P w=.ok (.bool a.isNone) w:=λw a n c n' c'=>Lib.run_eql_slice_nil w _ _ a n c n' c' L.t22;have u22:∀w,Sem.run P (underlying (ρ.t 22)) w=.ok (TypeDesc.slice (ρ.t 23)) w:=λw=>run_underlying t22;obtain⟨_,_,FG⟩:=L.f41
  go_enter FG,SlBodyN.n41_ntmps ρ
  go_wp2_with (at_builtin;refine wpList_append_own _ rfl _ _ (ρ.t 22) rfl w.heap.size (ρ.t 23) i0 z size bytes t22 hi hz0 hz1 hz2 zJ jw _ _ _ rfl (World.ownsRow_made w #[] 0 (jy _) (xn _) (by simp)) a 0 c [] rfl (by simp) (by intro j u hj;simp at hj) (by intro u hu;cases hu) (by unfold maxLen;omega) omY (by simp) ?_)
  intro v' w1 iU zcH zac
  go_wp2
  go_ret
  exact⟨v',rfl,by simpa using iU,((Below.refl _ w).alloc (jy _) _).grown zcH (by simp) (by intro k hk;simp[Value.ownBlock]at hk;omega)⟩
theorem PX{P:Program}{ρ:Ren}(L:SlLaysE0.n41 P ρ){e s b:Nat}{i0:TypeInfo}{z:Value}(he:ρ.t 23=e)(hi:P.info? e=some i0)(hz0:i0.zero=some z)(hz1:i0.size=s)(hz2:i0.bytes=b)(zJ:z.cells.size=s)(jw:oP P e=some s)(hs:0<s)
    (hc:df P (ρ.f 41)):jh P (ρ.f 41) (.clone e s b):=by
  subst he;intro w h v n get hv hw h1 h2;refine⟨hc,?_⟩;have zE:∀w,(Go.sizeOf (ρ.t 23)).run P w=.ok s w:=λw=>run_sizeOf jw
  have fin:∀(v':Value)(w':World)(news:List Value),w'.ownsRow w.heap.size (ρ.t 23) s v' n news->Below w.heap.size w w'->(∀i,i<n->RL (Rep h) (get i) ((news.drop (i*s)).take s)) ->
      ∃(h':Fz)(u:Value),Ending.returned v'=.returned u/\u.oneCell'=true/\BQ h' w' w.heap.size (ρ.t 23) s u n get/\(∀k,u.ownBlock=some k->h' k=none) /\
        xE h w.heap.size w w'/\jX h h'/\Hw h' w'/\∀b o,h' b=some o->h b=some o\/w.heap.size<=b:=by
    intro v' w' news iU qV hr;have hb:xE h w.heap.size w w':=⟨qV.os,qV.tape,qV.output,qV.size,jy _,λk hk=>qV.block k hk⟩;refine⟨h,v',rfl,?_,⟨news,iU,hr⟩,λk hk=>?_,hb,λ_ _ h=>h,hw.same λk o hk=>hb.block k (hw.lt hk),λ_ _ h=>.inl h⟩;rcases iU.2 with⟨rfl,_⟩|⟨g,cap,cur,rfl,_⟩<;>rfl
    rcases iU.2 with⟨rfl,_⟩|⟨g,cap,cur,rfl,hg,_⟩
    cases hk
    · have : g = k := by simpa [Value.ownBlock] using hk
      subst this;cases e:h g with|none=>rfl|some o=>have:=hw.lt e;omega
  cases hv with
  | sl0 _ _ hu =>
    refine(AnyE.slices_Clone_nil L 0 0 w).mono ?_;rintro r w' ⟨rfl,rfl⟩;exact fin _ _ [] (World.ownsRow_nil _ _ _ _) (Below.refl _ _) λi hi=>absurd hi (dq8 i)
  | sle _ _ a cap hu =>
    refine(Zj L i0 z s b hi hz0 hz1 hz2 zJ hs zE a cap w).mono ?_;rintro r w' ⟨v',rfl,iU,qV⟩;exact fin _ _ [] iU qV λi hi=>absurd hi (dq8 i)
  | sl _ _ _ hu bk off cap C ty fr vs hb jV hlen zN hr =>
    let news:List Value:=(List.range (n*s)).map λq=>vs (q/s) (q%s);have hl:news.length=n*s:=by simp[news]
    have hq:∀q,q<n*s->q/s<n/\q%s<s:=λq hq=>⟨qjV (by rw[qdz];exact hq),Nat.mod_lt q hs⟩;have hn:∀q,q<n*s->news[q]? = some (vs (q/s) (q%s)):=λq hq=>by simp[news,hq]
    have hx:∀i j,i<n->j<s->∃x,(get i)[j]? = some x:=λi j hi hj=>⟨_,Ai (by rw[hlen i hi];exact hj)⟩;have qW:=hw.fz hb;refine(AnyE.slices_Clone L i0 z s b hi hz0 hz1 hz2 zJ hs zE bk off n cap news w hl h2 h1 (λj u hj=>?_) λu hu=>?_).mono ?_;have hjl:j<n*s:=by have:=(ER.1 hj).1;omega
    obtain⟨a1,a2⟩:=hq j hjl;rw[hn j hjl]at hj;cases hj;obtain⟨x,hx⟩:=hx _ _ a1 a2;have hc:=zN _ _ x a1 hx;have pg:=(hr _ _ x a1 hx).one;rw[show off+j/s*s+j%s=off+j by rw[qjn,qdz];rw[jqf]]at hc;rw[cell_of qW];exact hc;obtain⟨j,hj⟩:=Yi hu;have hjl:j<n*s:=by have:=(ER.1 hj).1;omega
    obtain⟨a1,a2⟩:=hq j hjl;rw[hn j hjl]at hj;cases hj;obtain⟨x,hx⟩:=hx _ _ a1 a2;exact(hr _ _ x a1 hx).one;rintro r w' ⟨v',rfl,iU,_,qV⟩;refine fin _ _ news iU qV λi hi=>RL.of_get ?_ λj x y hx hy=>?_;have hm:i*s+s≤n*s:=by have:=Qs s (qdf hi);rw [Qv]at this;exact this
    rw[hlen i hi,qdC,qdD,hl];omega;have hj:j<s:=by have:=(ER.1 hx).1;rw [hlen i hi]at this;exact this
    have hm:i*s+s<=n*s:=by have:=Qs s (qdf hi);rw[Qv]at this;exact this
    rw[IV,dH hj,dqX,hn _ omY]at hy;rw[show(i*s+j)/s=i by rw[qdz,Nat.mul_add_div hs,Nat.div_eq_of_lt hj,qdQ],show(i*s+j)%s=j by rw[qdz,jqg,jqd hj]]at hy;cases hy;exact hr i j x hi hx
end Go.Pm
namespace Go.Proofs
open Go.Shelf
open Go.Pm (jF)
def Tryz.laysS253_ren:Go.Shelf.Ren:=⟨fun|6=>253|15=>184|14=>256|28=>220|29=>221|20=>258|21=>259|22=>260|23=>261|24=>262|25=>263|26=>264|27=>265|46=>266|47=>242|48=>243|49=>267|50=>268|57=>269|n=>n,fun|22=>195|24=>204|25=>322|3=>3|39=>260|0=>0|53=>292|55=>294|4=>4|46=>286|45=>285|50=>174|5=>5|9=>9|66=>305|70=>309|76=>317|77=>221|n=>n,fun|n=>n⟩
theorem Tryz.laysS253:Go.Proofs.SlLaysF0.n6 Tryz.prog Tryz.laysS253_ren:={
  mixed:=by kernel_rfl
  f6:=⟨Tryz.f253.name,by decide,Tryz.func253.trans (jF some (by kernel_rfl))⟩
  f14:=⟨Tryz.f256.name,by decide,Tryz.func256.trans (jF some (by kernel_rfl))⟩
  f15:=Tryz.func184.trans (jF some (by kernel_rfl))
  f20:=⟨Tryz.f258.name,by decide,Tryz.func258.trans (jF some (by kernel_rfl))⟩
  f21:=⟨Tryz.f259.name,by decide,Tryz.func259.trans (jF some (by kernel_rfl))⟩
  f22:=⟨Tryz.f260.name,by decide,Tryz.func260.trans (jF some (by kernel_rfl))⟩
  f23:=⟨Tryz.f261.name,by decide,Tryz.func261.trans (jF some (by kernel_rfl))⟩
  f24:=⟨Tryz.f262.name,by decide,Tryz.func262.trans (jF some (by kernel_rfl))⟩
  f25:=⟨Tryz.f263.name,by decide,Tryz.func263.trans (jF some (by kernel_rfl))⟩
  f26:=⟨Tryz.f264.name,by decide,Tryz.func264.trans (jF some (by kernel_rfl))⟩
  f27:=⟨Tryz.f265.name,by decide,Tryz.func265.trans (jF some (by kernel_rfl))⟩
  f28:=Tryz.func220.trans (jF some (by kernel_rfl))
  f29:=Tryz.func221.trans (jF some (by kernel_rfl))
  f46:=⟨Tryz.f266.name,by decide,Tryz.func266.trans (jF some (by kernel_rfl))⟩
  f47:=Tryz.func242.trans (jF some (by kernel_rfl))
  f48:=Tryz.func243.trans (jF some (by kernel_rfl))
  f49:=⟨Tryz.f267.name,by decide,Tryz.func267.trans (jF some (by kernel_rfl))⟩
  f50:=⟨Tryz.f268.name,by decide,Tryz.func268.trans (jF some (by kernel_rfl))⟩
  f57:=⟨Tryz.f269.name,by decide,Tryz.func269.trans (jF some (by kernel_rfl))⟩
  t0:=Tryz.underlying0
  a0:=Tryz.isAgg0
  z0:=Tryz.sizeOf0
  v0:=Tryz.zeroValue0
  t3:=Tryz.underlying3
  a3:=Tryz.isAgg3
  z3:=Tryz.sizeOf3
  v3:=Tryz.zeroValue3
  t4:=Tryz.underlying4
  a4:=Tryz.isAgg4
  z4:=Tryz.sizeOf4
  v4:=Tryz.zeroValue4
  t5:=Tryz.underlying5
  a5:=Tryz.isAgg5
  z5:=Tryz.sizeOf5
  v5:=Tryz.zeroValue5
  t9:=Tryz.underlying9
  a9:=Tryz.isAgg9
  z9:=Tryz.sizeOf9
  v9:=Tryz.zeroValue9
  t22:=Tryz.underlying195
  a22:=Tryz.isAgg195
  z22:=Tryz.sizeOf195
  v22:=Tryz.zeroValue195
  t25:=Tryz.underlying322
  a25:=Tryz.isAgg322
  z25:=Tryz.sizeOf322
  v25:=Tryz.zeroValue322
  t39:=Tryz.underlying260
  a39:=Tryz.isAgg260
  z39:=Tryz.sizeOf260
  v39:=Tryz.zeroValue260
  t45:=Tryz.underlying285
  a45:=Tryz.isAgg285
  z45:=Tryz.sizeOf285
  v45:=Tryz.zeroValue285
  t46:=Tryz.underlying286
  a46:=Tryz.isAgg286
  z46:=Tryz.sizeOf286
  v46:=Tryz.zeroValue286
  t50:=Tryz.underlying174
  a50:=Tryz.isAgg174
  z50:=Tryz.sizeOf174
  v50:=Tryz.zeroValue174
  t53:=Tryz.underlying292
  a53:=Tryz.isAgg292
  z53:=Tryz.sizeOf292
  v53:=Tryz.zeroValue292
  t55:=Tryz.underlying294
  a55:=Tryz.isAgg294
  z55:=Tryz.sizeOf294
  v55:=Tryz.zeroValue294
  t66:=Tryz.underlying305
  a66:=Tryz.isAgg305
  z66:=Tryz.sizeOf305
  v66:=Tryz.zeroValue305
  t70:=Tryz.underlying309
  a70:=Tryz.isAgg309
  z70:=Tryz.sizeOf309
  v70:=Tryz.zeroValue309
  t76:=Tryz.underlying317
  a76:=Tryz.isAgg317
  z76:=Tryz.sizeOf317
  v76:=Tryz.zeroValue317
  t77:=Tryz.underlying221
  a77:=Tryz.isAgg221
  z77:=Tryz.sizeOf221
  v77:=Tryz.zeroValue221}
def Tryz.laysS133_ren:Go.Shelf.Ren:=⟨fun|6=>133|15=>184|14=>183|28=>220|29=>221|20=>212|21=>213|22=>214|23=>215|24=>216|25=>217|26=>218|27=>219|46=>241|47=>242|48=>243|49=>244|50=>245|57=>250|n=>n,fun|22=>30|24=>43|25=>220|3=>3|39=>260|0=>0|53=>292|55=>294|4=>4|46=>286|45=>285|50=>174|5=>5|9=>9|66=>305|70=>309|76=>317|77=>221|n=>n,fun|n=>n⟩
theorem Tryz.laysS133:Go.Proofs.SlLaysF0.n6 Tryz.prog Tryz.laysS133_ren:={
  mixed:=by kernel_rfl
  f6:=⟨Tryz.f133.name,by decide,Tryz.func133.trans (jF some (by kernel_rfl))⟩
  f14:=⟨Tryz.f183.name,by decide,Tryz.func183.trans (jF some (by kernel_rfl))⟩
  f15:=Tryz.func184.trans (jF some (by kernel_rfl))
  f20:=⟨Tryz.f212.name,by decide,Tryz.func212.trans (jF some (by kernel_rfl))⟩
  f21:=⟨Tryz.f213.name,by decide,Tryz.func213.trans (jF some (by kernel_rfl))⟩
  f22:=⟨Tryz.f214.name,by decide,Tryz.func214.trans (jF some (by kernel_rfl))⟩
  f23:=⟨Tryz.f215.name,by decide,Tryz.func215.trans (jF some (by kernel_rfl))⟩
  f24:=⟨Tryz.f216.name,by decide,Tryz.func216.trans (jF some (by kernel_rfl))⟩
  f25:=⟨Tryz.f217.name,by decide,Tryz.func217.trans (jF some (by kernel_rfl))⟩
  f26:=⟨Tryz.f218.name,by decide,Tryz.func218.trans (jF some (by kernel_rfl))⟩
  f27:=⟨Tryz.f219.name,by decide,Tryz.func219.trans (jF some (by kernel_rfl))⟩
  f28:=Tryz.func220.trans (jF some (by kernel_rfl))
  f29:=Tryz.func221.trans (jF some (by kernel_rfl))
  f46:=⟨Tryz.f241.name,by decide,Tryz.func241.trans (jF some (by kernel_rfl))⟩
  f47:=Tryz.func242.trans (jF some (by kernel_rfl))
  f48:=Tryz.func243.trans (jF some (by kernel_rfl))
  f49:=⟨Tryz.f244.name,by decide,Tryz.func244.trans (jF some (by kernel_rfl))⟩
  f50:=⟨Tryz.f245.name,by decide,Tryz.func245.trans (jF some (by kernel_rfl))⟩
  f57:=⟨Tryz.f250.name,by decide,Tryz.func250.trans (jF some (by kernel_rfl))⟩
  t0:=Tryz.underlying0
  a0:=Tryz.isAgg0
  z0:=Tryz.sizeOf0
  v0:=Tryz.zeroValue0
  t3:=Tryz.underlying3
  a3:=Tryz.isAgg3
  z3:=Tryz.sizeOf3
  v3:=Tryz.zeroValue3
  t4:=Tryz.underlying4
  a4:=Tryz.isAgg4
  z4:=Tryz.sizeOf4
  v4:=Tryz.zeroValue4
  t5:=Tryz.underlying5
  a5:=Tryz.isAgg5
  z5:=Tryz.sizeOf5
  v5:=Tryz.zeroValue5
  t9:=Tryz.underlying9
  a9:=Tryz.isAgg9
  z9:=Tryz.sizeOf9
  v9:=Tryz.zeroValue9
  t22:=Tryz.underlying30
  a22:=Tryz.isAgg30
  z22:=Tryz.sizeOf30
  v22:=Tryz.zeroValue30
  t25:=Tryz.underlying220
  a25:=Tryz.isAgg220
  z25:=Tryz.sizeOf220
  v25:=Tryz.zeroValue220
  t39:=Tryz.underlying260
  a39:=Tryz.isAgg260
  z39:=Tryz.sizeOf260
  v39:=Tryz.zeroValue260
  t45:=Tryz.underlying285
  a45:=Tryz.isAgg285
  z45:=Tryz.sizeOf285
  v45:=Tryz.zeroValue285
  t46:=Tryz.underlying286
  a46:=Tryz.isAgg286
  z46:=Tryz.sizeOf286
  v46:=Tryz.zeroValue286
  t50:=Tryz.underlying174
  a50:=Tryz.isAgg174
  z50:=Tryz.sizeOf174
  v50:=Tryz.zeroValue174
  t53:=Tryz.underlying292
  a53:=Tryz.isAgg292
  z53:=Tryz.sizeOf292
  v53:=Tryz.zeroValue292
  t55:=Tryz.underlying294
  a55:=Tryz.isAgg294
  z55:=Tryz.sizeOf294
  v55:=Tryz.zeroValue294
  t66:=Tryz.underlying305
  a66:=Tryz.isAgg305
  z66:=Tryz.sizeOf305
  v66:=Tryz.zeroValue305
  t70:=Tryz.underlying309
  a70:=Tryz.isAgg309
  z70:=Tryz.sizeOf309
  v70:=Tryz.zeroValue309
  t76:=Tryz.underlying317
  a76:=Tryz.isAgg317
  z76:=Tryz.sizeOf317
  v76:=Tryz.zeroValue317
  t77:=Tryz.underlying221
  a77:=Tryz.isAgg221
  z77:=Tryz.sizeOf221
  v77:=Tryz.zeroValue221}
end Go.Proofs
namespace Go.Proofs
open Go.Shelf
open Go.Pm (jF)
def Tryz.laysC181_ren:Go.Shelf.Ren:=⟨fun|41=>181|n=>n,fun|22=>39|23=>3|n=>n,fun|n=>n⟩
theorem Tryz.laysC181:Go.Proofs.SlLaysE0.n41 Tryz.prog Tryz.laysC181_ren:={
  mixed:=by kernel_rfl
  f41:=⟨Tryz.f181.name,by decide,Tryz.func181.trans (jF some (by kernel_rfl))⟩
  t4:=Tryz.underlying4
  a4:=Tryz.isAgg4
  z4:=Tryz.sizeOf4
  v4:=Tryz.zeroValue4
  t22:=Tryz.underlying39
  a22:=Tryz.isAgg39
  z22:=Tryz.sizeOf39
  v22:=Tryz.zeroValue39}
def Tryz.laysC252_ren:Go.Shelf.Ren:=⟨fun|41=>252|n=>n,fun|22=>195|23=>204|n=>n,fun|n=>n⟩
theorem Tryz.laysC252:Go.Proofs.SlLaysE0.n41 Tryz.prog Tryz.laysC252_ren:={
  mixed:=by kernel_rfl
  f41:=⟨Tryz.f252.name,by decide,Tryz.func252.trans (jF some (by kernel_rfl))⟩
  t4:=Tryz.underlying4
  a4:=Tryz.isAgg4
  z4:=Tryz.sizeOf4
  v4:=Tryz.zeroValue4
  t22:=Tryz.underlying195
  a22:=Tryz.isAgg195
  z22:=Tryz.sizeOf195
  v22:=Tryz.zeroValue195}
end Go.Proofs
namespace Go.Proofs
open Go Go.Pm
set_option maxRecDepth 100000
abbrev NK:Nat:=1000
def qA:au:=⟨.of [⟨1,1,0,0,10,10,0,⟨0,0⟩,⟨0,0⟩,2,0,.of [],.of []⟩,⟨1,2,50,0,10,10,0,⟨0,0⟩,⟨0,0⟩,2,0,.of [],.of []⟩,⟨1,1,100,0,10,10,0,⟨0,0⟩,⟨0,0⟩,2,0,.of [],.of []⟩,⟨1,2,150,0,10,10,0,⟨0,0⟩,⟨0,0⟩,2,0,.of [],.of []⟩,⟨1,1,200,0,10,10,0,⟨0,0⟩,⟨0,0⟩,2,0,.of [],.of []⟩]⟩
def zA0:Sl bu:=.of [⟨0,2,1,0,0,0⟩,⟨2,3,1,0,0,1⟩,⟨4,4,1,0,0,2⟩,⟨4,8,1,0,0,0⟩,⟨1,5,1,0,0,1⟩,⟨3,5,1,0,0,1⟩]
def zB0:Sl (Sl aC):=.of [.of [⟨0,20,30⟩],.of [⟨100,30,40⟩],.of [⟨200,40,50⟩],.of [⟨200,80,90⟩],.of [⟨50,50,60⟩],.of [⟨150,50,60⟩]]
def Ji:Pt aH:=⟨⟨qA,zA0,zB0,⟨2,0⟩⟩⟩
abbrev TB:={T:Tabs // aB aJ T}
def TB.m{δ ρ:Type}[dm δ][dm ρ](T:TB)(f:FuncId)(y:δ×ρ)(h:zni ((jc T.1 []).fn f) y=true):TB:=⟨T.1.memo f y,aB.memo T.2 h⟩
theorem zh0:jh aJ 253 (.sort 204 3 24):=PW Tryz.laysS253 rfl rfl rfl (dC krY)
theorem zh1:jh aJ 133 (.sort 43 3 56):=PW Tryz.laysS133 rfl rfl rfl (dC krY)
theorem Zk:jh aJ 181 (.clone 3 1 8):=PX Tryz.laysC181 rfl rfl rfl rfl rfl rfl rfl (by decide) (dC krY)
theorem zh2:jh aJ 252 (.clone 204 3 24):=PX Tryz.laysC252 rfl rfl rfl rfl rfl rfl rfl (by decide) (dC krY)
def K1:TB:=⟨nN aJ NK Tabs.nil
 [.f 161 {},
 .f 232 {},
 .f 233 {},
 .f 234 {},
 .f 164 {},
 .f 235 {},
 .f 201 {},
 .f 160 {}],dS aB.nil krY⟩
def K2:TB:=K1.m 160 (((qA),true):(au)×(Bool)) krY
def K3:TB:=⟨nN aJ NK K2.1
 [.f 122 {},
 .f 123 {},
 .f 60 {},
 .f 112 {},
 .f 188 {},
 .f 138 {},
 .f 223 {},
 .i 251 {yl:=[3]},
 .f 246 {},
 .f 224 {},
 .f 189 {},
 .f 139 {}],dS K2.2 krY⟩
def K4:TB:=K3.m 139 (((qA,⟨0,2,1,0,0,0⟩),((.of [⟨0,20,30⟩]),0)):(au×bu)×(Sl aC×Int)) krY
def K5:TB:=K4.m 139 (((qA,⟨2,3,1,0,0,1⟩),((.of [⟨100,30,40⟩]),0)):(au×bu)×(Sl aC×Int)) krY
def K6:TB:=K5.m 139 (((qA,⟨4,4,1,0,0,2⟩),((.of [⟨200,40,50⟩]),0)):(au×bu)×(Sl aC×Int)) krY
def K7:TB:=K6.m 139 (((qA,⟨4,8,1,0,0,0⟩),((.of [⟨200,80,90⟩]),0)):(au×bu)×(Sl aC×Int)) krY
def K8:TB:=K7.m 139 (((qA,⟨1,5,1,0,0,1⟩),((.of [⟨50,50,60⟩]),0)):(au×bu)×(Sl aC×Int)) krY
def K9:TB:=K8.m 139 (((qA,⟨3,5,1,0,0,1⟩),((.of [⟨150,50,60⟩]),0)):(au×bu)×(Sl aC×Int)) krY
def K10:TB:=⟨nN aJ NK K9.1
 [.f 78 {}],dS K9.2 krY⟩
def K11:TB:=K10.m 78 (((qA,⟨2,0⟩,zA0),(Ji,0)):(au×bI×Sl bu)×(Pt aH×Int)) krY
def K12:TB:=⟨nN aJ NK K11.1
 [.f 176 {},
 .f 126 {},
 .f 140 {},
 .i 173 {yl:=[7]},
 .f 121 {},
 .f 180 {},
 .f 190 {},
 .f 210 {},
 .f 179 {}],dS K11.2 krY⟩
def K13:TB:=⟨K12.1.addO 181 (.clone 3 1 8),aB.addO K12.2 Zk⟩
def K14:TB:=⟨nN aJ NK K13.1
 [.f 111 {}],dS K13.2 krY⟩
def K15:TB:=K14.m 111 (((qA,(.of [⟨0,2,1,0,0,0⟩])),0):(au×Sl bu)×(Int)) krY
def K16:TB:=K15.m 111 (((qA,(.of [⟨0,2,1,0,0,0⟩,⟨2,3,1,0,0,1⟩])),0):(au×Sl bu)×(Int)) krY
def K17:TB:=K16.m 111 (((qA,(.of [⟨0,2,1,0,0,0⟩,⟨2,3,1,0,0,1⟩,⟨4,4,1,0,0,2⟩])),0):(au×Sl bu)×(Int)) krY
def K18:TB:=K17.m 111 (((qA,(.of [⟨0,2,1,0,0,0⟩,⟨2,3,1,0,0,1⟩,⟨4,8,1,0,0,0⟩])),0):(au×Sl bu)×(Int)) krY
def K19:TB:=K18.m 111 (((qA,(.of [⟨0,2,1,0,0,0⟩,⟨4,4,1,0,0,2⟩])),0):(au×Sl bu)×(Int)) krY
def K20:TB:=K19.m 111 (((qA,(.of [⟨0,2,1,0,0,0⟩,⟨4,8,1,0,0,0⟩])),0):(au×Sl bu)×(Int)) krY
def K21:TB:=K20.m 111 (((qA,(.of [⟨2,3,1,0,0,1⟩])),0):(au×Sl bu)×(Int)) krY
def K22:TB:=K21.m 111 (((qA,(.of [⟨2,3,1,0,0,1⟩,⟨4,4,1,0,0,2⟩])),0):(au×Sl bu)×(Int)) krY
def K23:TB:=K22.m 111 (((qA,(.of [⟨2,3,1,0,0,1⟩,⟨4,8,1,0,0,0⟩])),0):(au×Sl bu)×(Int)) krY
def K24:TB:=K23.m 111 (((qA,(.of [⟨4,4,1,0,0,2⟩])),0):(au×Sl bu)×(Int)) krY
def K25:TB:=K24.m 111 (((qA,(.of [⟨4,8,1,0,0,0⟩])),0):(au×Sl bu)×(Int)) krY
def K26:TB:=K25.m 111 (((qA,(.of [⟨1,5,1,0,0,1⟩])),0):(au×Sl bu)×(Int)) krY
def K27:TB:=K26.m 111 (((qA,(.of [⟨1,5,1,0,0,1⟩,⟨3,5,1,0,0,1⟩])),0):(au×Sl bu)×(Int)) krY
def K28:TB:=K27.m 111 (((qA,(.of [⟨3,5,1,0,0,1⟩])),0):(au×Sl bu)×(Int)) krY
def K29:TB:=⟨nN aJ NK K28.1
 [.f 113 {},
 .f 50 {}],dS K28.2 krY⟩
def K30:TB:=K29.m 50 (((qA,(.of [⟨0,2,1,0,0,0⟩])),(⟨(-2),2⟩,0)):(au×Sl bu)×(bC×Int)) krY
def K31:TB:=K30.m 50 (((qA,(.of [⟨0,2,1,0,0,0⟩,⟨2,3,1,0,0,1⟩])),(⟨(-1),2⟩,0)):(au×Sl bu)×(bC×Int)) krY
def K32:TB:=K31.m 50 (((qA,(.of [⟨0,2,1,0,0,0⟩,⟨2,3,1,0,0,1⟩,⟨4,4,1,0,0,2⟩])),(⟨0,2⟩,0)):(au×Sl bu)×(bC×Int)) krY
def K33:TB:=K32.m 50 (((qA,(.of [⟨0,2,1,0,0,0⟩,⟨2,3,1,0,0,1⟩,⟨4,8,1,0,0,0⟩])),(⟨(-1),2⟩,0)):(au×Sl bu)×(bC×Int)) krY
def K34:TB:=K33.m 50 (((qA,(.of [⟨0,2,1,0,0,0⟩,⟨4,4,1,0,0,2⟩])),(⟨0,2⟩,0)):(au×Sl bu)×(bC×Int)) krY
def K35:TB:=K34.m 50 (((qA,(.of [⟨0,2,1,0,0,0⟩,⟨4,8,1,0,0,0⟩])),(⟨(-2),2⟩,0)):(au×Sl bu)×(bC×Int)) krY
def K36:TB:=K35.m 50 (((qA,(.of [⟨2,3,1,0,0,1⟩])),(⟨(-1),3⟩,0)):(au×Sl bu)×(bC×Int)) krY
def K37:TB:=K36.m 50 (((qA,(.of [⟨2,3,1,0,0,1⟩,⟨4,4,1,0,0,2⟩])),(⟨0,3⟩,0)):(au×Sl bu)×(bC×Int)) krY
def K38:TB:=K37.m 50 (((qA,(.of [⟨2,3,1,0,0,1⟩,⟨4,8,1,0,0,0⟩])),(⟨(-1),2⟩,0)):(au×Sl bu)×(bC×Int)) krY
def K39:TB:=K38.m 50 (((qA,(.of [⟨4,4,1,0,0,2⟩])),(⟨0,4⟩,0)):(au×Sl bu)×(bC×Int)) krY
def K40:TB:=K39.m 50 (((qA,(.of [⟨4,8,1,0,0,0⟩])),(⟨(-2),2⟩,0)):(au×Sl bu)×(bC×Int)) krY
def K41:TB:=K40.m 50 (((qA,(.of [⟨1,5,1,0,0,1⟩])),(⟨(-1),3⟩,0)):(au×Sl bu)×(bC×Int)) krY
def K42:TB:=K41.m 50 (((qA,(.of [⟨1,5,1,0,0,1⟩,⟨3,5,1,0,0,1⟩])),(⟨(-1),3⟩,0)):(au×Sl bu)×(bC×Int)) krY
def K43:TB:=K42.m 50 (((qA,(.of [⟨3,5,1,0,0,1⟩])),(⟨(-1),3⟩,0)):(au×Sl bu)×(bC×Int)) krY
def K44:TB:=⟨nN aJ NK K43.1
 [.f 93 {},
 .f 105 {},
 .f 118 {},
 .f 162 {},
 .f 157 {},
 .f 156 {},
 .f 109 {},
 .f 207 {},
 .f 231 {},
 .f 230 {},
 .f 257 {},
 .f 238 {},
 .f 206 {},
 .f 167 {},
 .f 229 {},
 .i 228 {yl:=[13]},
 .f 197 {},
 .f 209 {},
 .f 172 {}],dS K43.2 krY⟩
def K45:TB:=K44.m 172 (((10,100),(⟨1,10⟩)):(Int×Int)×(aP)) krY
def K46:TB:=K45.m 172 (((2000,100),(⟨20,1⟩)):(Int×Int)×(aP)) krY
def K47:TB:=K46.m 172 (((20,100),(⟨1,5⟩)):(Int×Int)×(aP)) krY
def K48:TB:=K47.m 172 (((0,100),(⟨0,1⟩)):(Int×Int)×(aP)) krY
def K49:TB:=K48.m 172 (((3000,100),(⟨30,1⟩)):(Int×Int)×(aP)) krY
def K50:TB:=K49.m 172 (((20,200),(⟨1,10⟩)):(Int×Int)×(aP)) krY
def K51:TB:=K50.m 172 (((4000,200),(⟨20,1⟩)):(Int×Int)×(aP)) krY
def K52:TB:=K51.m 172 (((30,200),(⟨3,20⟩)):(Int×Int)×(aP)) krY
def K53:TB:=K52.m 172 (((10,200),(⟨1,20⟩)):(Int×Int)×(aP)) krY
def K54:TB:=K53.m 172 (((6000,200),(⟨30,1⟩)):(Int×Int)×(aP)) krY
def K55:TB:=K54.m 172 (((1000,100),(⟨10,1⟩)):(Int×Int)×(aP)) krY
def K56:TB:=K55.m 172 (((4000,100),(⟨40,1⟩)):(Int×Int)×(aP)) krY
def K57:TB:=K56.m 172 (((60,200),(⟨3,10⟩)):(Int×Int)×(aP)) krY
def K58:TB:=K57.m 172 (((70,200),(⟨7,20⟩)):(Int×Int)×(aP)) krY
def K59:TB:=K58.m 172 (((50,200),(⟨1,4⟩)):(Int×Int)×(aP)) krY
def K60:TB:=K59.m 172 (((50,100),(⟨1,2⟩)):(Int×Int)×(aP)) krY
def K61:TB:=K60.m 172 ((((-2000),100),(⟨(-20),1⟩)):(Int×Int)×(aP)) krY
def K62:TB:=K61.m 172 (((60,100),(⟨3,5⟩)):(Int×Int)×(aP)) krY
def K63:TB:=K62.m 172 ((((-3000),100),(⟨(-30),1⟩)):(Int×Int)×(aP)) krY
def K64:TB:=K63.m 172 (((40,100),(⟨2,5⟩)):(Int×Int)×(aP)) krY
def K65:TB:=K64.m 172 ((((-1000),100),(⟨(-10),1⟩)):(Int×Int)×(aP)) krY
def K66:TB:=K65.m 172 (((6000,100),(⟨60,1⟩)):(Int×Int)×(aP)) krY
def K67:TB:=K66.m 172 (((8000,200),(⟨40,1⟩)):(Int×Int)×(aP)) krY
def K68:TB:=K67.m 172 (((10000,200),(⟨50,1⟩)):(Int×Int)×(aP)) krY
def K69:TB:=K68.m 172 (((12000,200),(⟨60,1⟩)):(Int×Int)×(aP)) krY
def K70:TB:=K69.m 172 (((5000,100),(⟨50,1⟩)):(Int×Int)×(aP)) krY
def K71:TB:=K70.m 172 (((4500,100),(⟨45,1⟩)):(Int×Int)×(aP)) krY
def K72:TB:=K71.m 172 ((((-10),100),(⟨(-1),10⟩)):(Int×Int)×(aP)) krY
def K73:TB:=K72.m 172 (((6500,100),(⟨65,1⟩)):(Int×Int)×(aP)) krY
def K74:TB:=⟨nN aJ NK K73.1
 [.f 198 {}],dS K73.2 krY⟩
def K75:TB:=K74.m 198 (((⟨10,2000,100⟩),(⟨⟨1,10⟩,⟨20,1⟩⟩)):(straight)×(Line)) krY
def K76:TB:=K75.m 198 (((⟨20,2000,100⟩),(⟨⟨1,5⟩,⟨20,1⟩⟩)):(straight)×(Line)) krY
def K77:TB:=K76.m 198 (((⟨0,3000,100⟩),(⟨⟨0,1⟩,⟨30,1⟩⟩)):(straight)×(Line)) krY
def K78:TB:=K77.m 198 (((⟨10,3000,100⟩),(⟨⟨1,10⟩,⟨30,1⟩⟩)):(straight)×(Line)) krY
def K79:TB:=K78.m 198 (((⟨20,4000,200⟩),(⟨⟨1,10⟩,⟨20,1⟩⟩)):(straight)×(Line)) krY
def K80:TB:=K79.m 198 (((⟨30,4000,200⟩),(⟨⟨3,20⟩,⟨20,1⟩⟩)):(straight)×(Line)) krY
def K81:TB:=K80.m 198 (((⟨10,6000,200⟩),(⟨⟨1,20⟩,⟨30,1⟩⟩)):(straight)×(Line)) krY
def K82:TB:=K81.m 198 (((⟨20,6000,200⟩),(⟨⟨1,10⟩,⟨30,1⟩⟩)):(straight)×(Line)) krY
def K83:TB:=K82.m 198 (((⟨20,1000,100⟩),(⟨⟨1,5⟩,⟨10,1⟩⟩)):(straight)×(Line)) krY
def K84:TB:=K83.m 198 (((⟨0,4000,100⟩),(⟨⟨0,1⟩,⟨40,1⟩⟩)):(straight)×(Line)) krY
def K85:TB:=K84.m 198 (((⟨60,4000,200⟩),(⟨⟨3,10⟩,⟨20,1⟩⟩)):(straight)×(Line)) krY
def K86:TB:=K85.m 198 (((⟨70,4000,200⟩),(⟨⟨7,20⟩,⟨20,1⟩⟩)):(straight)×(Line)) krY
def K87:TB:=K86.m 198 (((⟨50,6000,200⟩),(⟨⟨1,4⟩,⟨30,1⟩⟩)):(straight)×(Line)) krY
def K88:TB:=K87.m 198 (((⟨60,6000,200⟩),(⟨⟨3,10⟩,⟨30,1⟩⟩)):(straight)×(Line)) krY
def K89:TB:=K88.m 198 (((⟨50,(-2000),100⟩),(⟨⟨1,2⟩,⟨(-20),1⟩⟩)):(straight)×(Line)) krY
def K90:TB:=K89.m 198 (((⟨60,(-3000),100⟩),(⟨⟨3,5⟩,⟨(-30),1⟩⟩)):(straight)×(Line)) krY
def K91:TB:=K90.m 198 (((⟨40,0,100⟩),(⟨⟨2,5⟩,⟨0,1⟩⟩)):(straight)×(Line)) krY
def K92:TB:=K91.m 198 (((⟨50,(-1000),100⟩),(⟨⟨1,2⟩,⟨(-10),1⟩⟩)):(straight)×(Line)) krY
def K93:TB:=K92.m 198 (((⟨0,5000,100⟩),(⟨⟨0,1⟩,⟨50,1⟩⟩)):(straight)×(Line)) krY
def K94:TB:=K93.m 198 (((⟨10,4500,100⟩),(⟨⟨1,10⟩,⟨45,1⟩⟩)):(straight)×(Line)) krY
def K95:TB:=K94.m 198 (((⟨(-10),6500,100⟩),(⟨⟨(-1),10⟩,⟨65,1⟩⟩)):(straight)×(Line)) krY
def K96:TB:=K95.m 198 (((⟨0,6000,100⟩),(⟨⟨0,1⟩,⟨60,1⟩⟩)):(straight)×(Line)) krY
def K97:TB:=⟨nN aJ NK K96.1
 [.f 199 {},
 .f 158 {vv:=[14]}],dS K96.2 krY⟩
def K98:TB:=K97.m 158 ((((.of [⟨0,20,30⟩])),(⟨⟨.of [⟨0,20,30⟩]⟩,.of []⟩)):(Sl aC)×(set)) krY
def K99:TB:=K98.m 158 ((((.of [⟨0,20,30⟩,⟨100,30,40⟩])),(⟨⟨.of [⟨0,20,30⟩,⟨100,30,40⟩]⟩,.of [⟨10,2000,100⟩,⟨20,2000,100⟩,⟨0,3000,100⟩,⟨10,3000,100⟩]⟩)):(Sl aC)×(set)) krY
def zLu:TB:=K99.m 158 ((((.of [⟨0,20,30⟩,⟨100,30,40⟩,⟨200,40,50⟩])),(⟨⟨.of [⟨0,20,30⟩,⟨100,30,40⟩,⟨200,40,50⟩]⟩,.of [⟨10,2000,100⟩,⟨10,3000,100⟩,⟨30,4000,200⟩,⟨10,6000,200⟩]⟩)):(Sl aC)×(set)) krY
def zLv:TB:=zLu.m 158 ((((.of [⟨0,20,30⟩,⟨100,30,40⟩,⟨200,80,90⟩])),(⟨⟨.of [⟨0,20,30⟩,⟨100,30,40⟩,⟨200,80,90⟩]⟩,.of []⟩)):(Sl aC)×(set)) krY
def zLw:TB:=zLv.m 158 ((((.of [⟨0,20,30⟩,⟨200,40,50⟩])),(⟨⟨.of [⟨0,20,30⟩,⟨200,40,50⟩]⟩,.of [⟨20,4000,200⟩,⟨30,4000,200⟩,⟨10,6000,200⟩,⟨20,6000,200⟩]⟩)):(Sl aC)×(set)) krY
def zLx:TB:=zLw.m 158 ((((.of [⟨0,20,30⟩,⟨200,80,90⟩])),(⟨⟨.of [⟨0,20,30⟩,⟨200,80,90⟩]⟩,.of [⟨60,4000,200⟩,⟨70,4000,200⟩,⟨50,6000,200⟩,⟨60,6000,200⟩]⟩)):(Sl aC)×(set)) krY
def zLy:TB:=zLx.m 158 ((((.of [⟨100,30,40⟩])),(⟨⟨.of [⟨100,30,40⟩]⟩,.of []⟩)):(Sl aC)×(set)) krY
def zLz:TB:=zLy.m 158 ((((.of [⟨100,30,40⟩,⟨200,40,50⟩])),(⟨⟨.of [⟨100,30,40⟩,⟨200,40,50⟩]⟩,.of [⟨10,2000,100⟩,⟨20,1000,100⟩,⟨0,4000,100⟩,⟨10,3000,100⟩]⟩)):(Sl aC)×(set)) krY
def zLA:TB:=zLz.m 158 ((((.of [⟨100,30,40⟩,⟨200,80,90⟩])),(⟨⟨.of [⟨100,30,40⟩,⟨200,80,90⟩]⟩,.of [⟨50,(-2000),100⟩,⟨60,(-3000),100⟩,⟨40,0,100⟩,⟨50,(-1000),100⟩]⟩)):(Sl aC)×(set)) krY
def zLB:TB:=zLA.m 158 ((((.of [⟨200,40,50⟩])),(⟨⟨.of [⟨200,40,50⟩]⟩,.of []⟩)):(Sl aC)×(set)) krY
def zLC:TB:=zLB.m 158 ((((.of [⟨200,80,90⟩])),(⟨⟨.of [⟨200,80,90⟩]⟩,.of []⟩)):(Sl aC)×(set)) krY
def zLD:TB:=zLC.m 158 ((((.of [⟨50,50,60⟩])),(⟨⟨.of [⟨50,50,60⟩]⟩,.of []⟩)):(Sl aC)×(set)) krY
def zLE:TB:=zLD.m 158 ((((.of [⟨50,50,60⟩,⟨150,50,60⟩])),(⟨⟨.of [⟨50,50,60⟩,⟨150,50,60⟩]⟩,.of [⟨0,5000,100⟩,⟨10,4500,100⟩,⟨(-10),6500,100⟩,⟨0,6000,100⟩]⟩)):(Sl aC)×(set)) krY
def zDl:TB:=zLE.m 158 ((((.of [⟨150,50,60⟩])),(⟨⟨.of [⟨150,50,60⟩]⟩,.of []⟩)):(Sl aC)×(set)) krY
def zDm:TB:=⟨nN aJ NK zDl.1
 [.f 200 {},
 .f 159 {},
 .f 117 {}],dS zDl.2 krY⟩
def zDn:TB:=⟨zDm.1.addO 252 (.clone 204 3 24),aB.addO zDm.2 zh2⟩
def zDo:TB:=⟨zDn.1.addO 253 (.sort 204 3 24),aB.addO zDn.2 zh0⟩
def zDp:TB:=⟨nN aJ NK zDo.1
 [.f 239 {},
 .f 208 {},
 .f 170 {},
 .f 255 {},
 .f 254 {}],dS zDo.2 krY⟩
def zLF:Tabs:=nN aJ NK Tabs.nil [.f 239 {},.f 208 {},.f 170 {},.f 209 {},.f 172 {},.f 118 {},.f 162 {},.f 207 {},.f 157 {},.f 231 {},.f 230 {},.f 257 {},.f 238 {},.f 206 {},.f 255 {}]
def zDq:TB:=⟨zDp.1.addC 254 (aF aJ NK (jc zLF []) (bZ aJ 254 [] {}) 254),aB.addC zDp.2 (zhB (@dS ⟨1⟩ _ _ _ _ (@aB.nil ⟨1⟩ _) krY) (dC krY))⟩
def zLG:TB:=⟨nN aJ NK zDq.1
 [.f 249 {},
 .f 240 {},
 .f 211 {}],dS zDq.2 krY⟩
def zLH:TB:=zLG.m 211 ((((.of [⟨0,20,30⟩])),(⟨⟨0,0⟩,⟨0,0⟩⟩,6)):(Sl aC)×(Line×Int)) krY
def zLI:TB:=zLH.m 211 ((((.of [⟨0,20,30⟩,⟨100,30,40⟩])),(⟨⟨0,1⟩,⟨30,1⟩⟩,0)):(Sl aC)×(Line×Int)) krY
def zLJ:TB:=zLI.m 211 ((((.of [⟨0,20,30⟩,⟨100,30,40⟩,⟨200,40,50⟩])),(⟨⟨1,20⟩,⟨30,1⟩⟩,0)):(Sl aC)×(Line×Int)) krY
def zLK:TB:=zLJ.m 211 ((((.of [⟨0,20,30⟩,⟨100,30,40⟩,⟨200,80,90⟩])),(⟨⟨0,0⟩,⟨0,0⟩⟩,5)):(Sl aC)×(Line×Int)) krY
def zLL:TB:=zLK.m 211 ((((.of [⟨0,20,30⟩,⟨200,40,50⟩])),(⟨⟨1,20⟩,⟨30,1⟩⟩,0)):(Sl aC)×(Line×Int)) krY
def zLM:TB:=zLL.m 211 ((((.of [⟨0,20,30⟩,⟨200,80,90⟩])),(⟨⟨1,4⟩,⟨30,1⟩⟩,0)):(Sl aC)×(Line×Int)) krY
def zLN:TB:=zLM.m 211 ((((.of [⟨100,30,40⟩])),(⟨⟨0,0⟩,⟨0,0⟩⟩,6)):(Sl aC)×(Line×Int)) krY
def zLO:TB:=zLN.m 211 ((((.of [⟨100,30,40⟩,⟨200,40,50⟩])),(⟨⟨0,1⟩,⟨40,1⟩⟩,0)):(Sl aC)×(Line×Int)) krY
def zLP:TB:=zLO.m 211 ((((.of [⟨100,30,40⟩,⟨200,80,90⟩])),(⟨⟨2,5⟩,⟨0,1⟩⟩,0)):(Sl aC)×(Line×Int)) krY
def zLQ:TB:=zLP.m 211 ((((.of [⟨200,40,50⟩])),(⟨⟨0,0⟩,⟨0,0⟩⟩,6)):(Sl aC)×(Line×Int)) krY
def zLR:TB:=zLQ.m 211 ((((.of [⟨200,80,90⟩])),(⟨⟨0,0⟩,⟨0,0⟩⟩,6)):(Sl aC)×(Line×Int)) krY
def zLS:TB:=zLR.m 211 ((((.of [⟨50,50,60⟩])),(⟨⟨0,0⟩,⟨0,0⟩⟩,6)):(Sl aC)×(Line×Int)) krY
def zLT:TB:=zLS.m 211 ((((.of [⟨50,50,60⟩,⟨150,50,60⟩])),(⟨⟨(-1),10⟩,⟨65,1⟩⟩,0)):(Sl aC)×(Line×Int)) krY
def zDr:TB:=zLT.m 211 ((((.of [⟨150,50,60⟩])),(⟨⟨0,0⟩,⟨0,0⟩⟩,6)):(Sl aC)×(Line×Int)) krY
def zLU:TB:=⟨nN aJ NK zDr.1
 [.f 182 {}],dS zDr.2 krY⟩
def zLV:TB:=zLU.m 182 (((Ji,⟨1,.of [0],.of [0]⟩),true):(Pt aH×af)×(Bool)) krY
def zLW:TB:=zLV.m 182 (((Ji,⟨1,.of [0,1],.of [0,0]⟩),true):(Pt aH×af)×(Bool)) krY
def zLX:TB:=zLW.m 182 (((Ji,⟨1,.of [0,1,2],.of [0,0,0]⟩),true):(Pt aH×af)×(Bool)) krY
def zLY:TB:=zLX.m 182 (((Ji,⟨1,.of [0,1,3],.of [0,0,0]⟩),false):(Pt aH×af)×(Bool)) krY
def zLZ:TB:=zLY.m 182 (((Ji,⟨1,.of [0,2],.of [0,0]⟩),true):(Pt aH×af)×(Bool)) krY
def zL0:TB:=zLZ.m 182 (((Ji,⟨1,.of [0,3],.of [0,0]⟩),true):(Pt aH×af)×(Bool)) krY
def zL1:TB:=zL0.m 182 (((Ji,⟨1,.of [1],.of [0]⟩),true):(Pt aH×af)×(Bool)) krY
def zL2:TB:=zL1.m 182 (((Ji,⟨1,.of [1,2],.of [0,0]⟩),true):(Pt aH×af)×(Bool)) krY
def zL3:TB:=zL2.m 182 (((Ji,⟨1,.of [1,3],.of [0,0]⟩),true):(Pt aH×af)×(Bool)) krY
def zL4:TB:=zL3.m 182 (((Ji,⟨1,.of [2],.of [0]⟩),true):(Pt aH×af)×(Bool)) krY
def zL5:TB:=zL4.m 182 (((Ji,⟨1,.of [3],.of [0]⟩),true):(Pt aH×af)×(Bool)) krY
def zL6:TB:=zL5.m 182 (((Ji,⟨2,.of [4],.of [0]⟩),true):(Pt aH×af)×(Bool)) krY
def zL7:TB:=zL6.m 182 (((Ji,⟨2,.of [4,5],.of [0,0]⟩),true):(Pt aH×af)×(Bool)) krY
def zDs:TB:=zL7.m 182 (((Ji,⟨2,.of [5],.of [0]⟩),true):(Pt aH×af)×(Bool)) krY
def znA:TB:=⟨nN aJ NK zDs.1
 [.r 178 64 {clo:=[180]}],dS zDs.2 krY⟩
def zDt:TB:=⟨znA.1.addF 127 (aD aJ (jc znA.1 []) NK zby 177 (bZ aJ 127 [] {ks:=[(0,3,⟨[],[],[(4,0,5000,43)],[],[],[],[]⟩)]}) 127),aB.addF znA.2 (zhT znA.2 (dC krY) zhV)⟩
def zL8:TB:=⟨nN aJ NK zDt.1
 [.f 120 {},
 .f 203 {},
 .f 202 {},
 .f 169 {},
 .f 171 {},
 .f 168 {},
 .f 119 {},
 .f 163 {},
 .f 114 {},
 .f 236 {},
 .f 237 {},
 .f 205 {},
 .i 204 {yl:=[9]},
 .f 165 {},
 .f 115 {}],dS zDt.2 krY⟩
def zL9:TB:=zL8.m 115 (((qA,4,⟨30,60⟩),(true,true,0)):(au×Int×bC)×(Bool×Bool×Int)) krY
def zMa:TB:=zL9.m 115 (((qA,2,⟨30,40⟩),(true,true,0)):(au×Int×bC)×(Bool×Bool×Int)) krY
def zMb:TB:=zMa.m 115 (((qA,2,⟨50,60⟩),(true,true,0)):(au×Int×bC)×(Bool×Bool×Int)) krY
def zMc:TB:=zMb.m 115 (((qA,0,⟨10,40⟩),(true,true,0)):(au×Int×bC)×(Bool×Bool×Int)) krY
def zDu:TB:=zMc.m 115 (((qA,0,⟨(-30),0⟩),(false,true,0)):(au×Int×bC)×(Bool×Bool×Int)) krY
def zMd:TB:=⟨nN aJ NK zDu.1
 [.f 191 {},
 .f 192 {},
 .f 141 {clo:=[190]}],dS zDu.2 krY⟩
def zMe:TB:=zMd.m 141 (((Ji,⟨1,.of [0,1],.of [0,0]⟩),(.of [4])):(Pt aH×af)×(Sl Int)) krY
def zMf:TB:=zMe.m 141 (((Ji,⟨1,.of [0,1,2],.of [0,0,0]⟩),(.of [])):(Pt aH×af)×(Sl Int)) krY
def zMg:TB:=zMf.m 141 (((Ji,⟨1,.of [0,2],.of [0,0]⟩),(.of [2])):(Pt aH×af)×(Sl Int)) krY
def zMh:TB:=zMg.m 141 (((Ji,⟨1,.of [0,3],.of [0,0]⟩),(.of [2])):(Pt aH×af)×(Sl Int)) krY
def zMi:TB:=zMh.m 141 (((Ji,⟨1,.of [1,2],.of [0,0]⟩),(.of [0])):(Pt aH×af)×(Sl Int)) krY
def zMj:TB:=zMi.m 141 (((Ji,⟨1,.of [1,3],.of [0,0]⟩),(.of [])):(Pt aH×af)×(Sl Int)) krY
def zDv:TB:=zMj.m 141 (((Ji,⟨2,.of [4,5],.of [0,0]⟩),(.of [])):(Pt aH×af)×(Sl Int)) krY
def zDw:TB:=⟨nN aJ NK zDv.1
 [.f 129 {},
 .f 98 {},
 .f 152 {},
 .f 92 {},
 .f 132 {},
 .f 97 {},
 .f 131 {},
 .f 130 {},
 .k 128 43 3 56 {}],dS zDv.2 krY⟩
def zDx:TB:=⟨zDw.1.addO 133 (.sort 43 3 56),aB.addO zDw.2 zh1⟩
def zDy:TB:=⟨nN aJ NK zDx.1
 [.f 185 {},
 .f 222 {},
 .f 186 {},
 .f 187 {},
 .f 134 {}],dS zDx.2 krY⟩
def zMk:Tabs:=nN aJ NK Tabs.nil [.f 185 {},.f 222 {},.f 186 {},.f 239 {},.f 208 {},.f 187 {}]
def zDz:TB:=⟨zDy.1.addC 134 (aF aJ NK (jc zMk []) (bZ aJ 134 [] {}) 134),aB.addC zDy.2 (zhB (@dS ⟨1⟩ _ _ _ _ (@aB.nil ⟨1⟩ _) krY) (dC krY))⟩
def zMl:TB:=⟨nN aJ NK zDz.1
 [.f 72 {clo:=[130],cut:=[15],ks:=[(0,6,⟨[],[],[(35,2,5001,43)],[],[],[],[]⟩),(2,15,⟨[],[],[],[],[57,5001],[],[]⟩)]}],dS zDz.2 krY⟩
def zMm:TB:=zMl.m 72 (((qA,⟨2,0⟩,zA0,(.of [])),(⟨⟨Ji,.of [⟨1,.of [0,1,2],.of [0,0,0]⟩,⟨1,.of [1,3],.of [0,0]⟩,⟨2,.of [4,5],.of [0,0]⟩],.of [⟨1,.of [0,1,2],.of [0,0,0]⟩,⟨1,.of [1,3],.of [0,0]⟩,⟨2,.of [4,5],.of [0,0]⟩]⟩⟩,0)):(au×bI×Sl bu×Sl Bool)×(Pt found×Int)) krY
def zDA:TB:=zMm.m 72 (((qA,⟨2,0⟩,zA0,(.of [true])),(⟨⟨Ji,.of [⟨1,.of [0,1,2],.of [0,0,0]⟩,⟨1,.of [1,3],.of [0,0]⟩,⟨2,.of [4,5],.of [0,0]⟩],.of [⟨1,.of [0,1,2],.of [0,0,0]⟩,⟨1,.of [1,3],.of [0,0]⟩,⟨2,.of [4,5],.of [0,0]⟩]⟩⟩,0)):(au×bI×Sl bu×Sl Bool)×(Pt found×Int)) krY
def zMn:TB:=⟨nN aJ NK zDA.1
 [.f 20 {},
 .f 96 {},
 .f 79 {vv:=[8]},
 .f 110 {},
 .f 49 {},
 .f 80 {},
 .f 81 {},
 .f 82 {},
 .f 83 {},
 .f 142 {},
 .f 84 {},
 .f 25 {}],dS zDA.2 krY⟩
def zDB:TB:=zMn.m 25 (((qA,⟨2,0⟩,zA0,⟨1,.of [0,1],.of [0,0]⟩),(⟨5,.of [],.of [4],⟨0,.of [],.of []⟩⟩,0)):(au×bI×Sl bu×af)×(bD×Int)) krY
def zMo:TB:=⟨nN aJ NK zDB.1
 [.f 38 {},
 .f 52 {},
 .f 29 {},
 .f 31 {ks:=[(0,16,⟨[],[],[],[],[],[10],[]⟩)],vv:=[41]}],dS zDB.2 krY⟩
def zDC:TB:=zMo.m 31 (((qA,⟨2,0⟩,zA0),((.of [⟨0,2⟩,⟨1,2⟩]),0)):(au×bI×Sl bu)×(Sl iC×Int)) krY
def zMp:TB:=⟨nN aJ NK zDC.1
 [.f 32 {},
 .f 99 {},
 .r 100 64 {},
 .r 101 64 {},
 .f 36 {ks:=[(0,16,⟨[],[],[],[],[1000896],[],[]⟩)],vv:=[73,75]}],dS zDC.2 krY⟩
def zDD:TB:=zMp.m 36 (((qA,⟨2,0⟩,zA0,1),((.of [0,1]),(.of [0]),0)):(au×bI×Sl bu×Int)×(Sl Int×Sl Int×Int)) krY
def zMq:TB:=⟨nN aJ NK zDD.1
 [.f 58 {},
 .f 103 {},
 .f 104 {},
 .f 42 {}],dS zDD.2 krY⟩
def zDE:TB:=zMq.m 42 (((qA,⟨2,0⟩,zA0,(.of [⟨1,⟨0,1⟩,⟨1,5⟩⟩,⟨1,⟨1,10⟩,⟨1,2⟩⟩])),((.of [⟨1,1⟩,⟨0,2⟩]),0)):(au×bI×Sl bu×Sl Bin)×(Sl Tally×Int)) krY
def zvR:TB:=⟨nN aJ NK zDE.1
 [.f 44 {},
 .f 67 {},
 .f 69 {},
 .f 70 {},
 .f 125 {},
 .f 71 {},
 .f 19 {}],dS zDE.2 krY⟩
theorem k19:((jc zvR.1 []).fn 19 []).o=some [.one (.bool true)]:=krY
theorem zMr:aB aJ zvR.1:=zvR.2
end Go.Proofs
namespace Go.Proofs.YtjkijdhdbhooiaaGreat
open Go.Pm (jF)
set_option maxRecDepth 100000
def dc:Nat→Nat→List Char|0,_=>[]|k+1,n=>Char.ofNat (n%128)::dc k (n/128)
def ioR:List (List Char):=[dc 2 14945,dc 35 45019731839301669745199096094014757347713743838262223150477152386253683567,dc 34 420377978748125055740877229337914779690535202023532228586777341826005871,dc 36 6550971710285934913754052784167232504664614938228495552548125985273808517999,dc 37 729461727561750118551056160028214191605660185564422184735309847620634057210735,dc 37 830772752598413053766828580736873493486916948856955428203985110704856283839343,dc 37 846039670449084468774387244088358248202427724899131661281249209823569867537263,dc 35 51179294023049743501667742572912222775214732381401055866039370168307121007,dc 35 45009296865569399087797946188323693179256993798839364341239407728733551471,dc 37 830780268438003779521215029671213750534782202343527674838098051362097095867247,dc 38 107331119686939743456630664922862568562027744964707129139922504835010957783169903,dc 36 6550077393460720109370983476171913501904522994409179701070095258754267839343,dc 35 48939868791262458989610581110577656928740303271215203627173391395041409903,dc 37 838349406564167396116242431067385471964016398604997842927764345145510690650991,dc 37 838349393033854787123352198492273111221406595137993776056015629414144918780783]
def ioN:List Char:=dc 599 149771092015852491278000662115128137748269599194581860494294778261301651447965370062645304741743729477171988600934799727326517975522812478602000462062741437383719700469441320225746001460657778919864702789185877727655633384756976915120483667267389003774318074344898749855352565971438052119468579606834274369754786466833197740569138863177439610707078849369185453345527529660045569842755503891534211525146045868530953689090964949867816695296345068916719713389224171554417522039179151544735265211004436216097918169509036553218766076260083794299680425243321104884652801756935939016856612808890681403713245564864003766772582403997404693715256366145143767382394449050497631406600169134111017758420705379181155399036702826495772349138224361597591141153214596847427732622443000331392581117708063194127217598752738628016573330186096707239904130243791293223266344009164320459711360917953739697093488615153066332379337541176729581439867139231308816545570621442575900426155419574959597509166851618974720944858788987333755451277637880095378589630688375170213056367090535571658338605777263539845461211124236505614769845380929544309814139208243656161387198222242061066521483984326294839656717673867435632142724742576645662295495695963786797012817486377421718128934313825440411880
theorem ioS:Tryz.prog.initOrder=String.ofList ioN:=by kernel_rfl
theorem ioL:Tryz.prog.initOrder.toList=ioN:=(jF String.toList ioS).trans String.toList_ofList
theorem ioW:wordsSigns Tryz.prog.initOrder.toList=(dc 7 509754063237352)::(dc 64 572163061260696105970074307196347989822506933787247010369012457204266251338368704666046318255463753418979972205211827874765770452792118)::(dc 3 1915619)::ioR:=(jF wordsSigns ioL).trans (by kernel_rfl)
theorem ioB:behindMainWord (wordsSigns Tryz.prog.initOrder.toList)=(dc 3 1915619)::ioR:=(jF behindMainWord ioW).trans (by kernel_rfl)
theorem RD {P : Program} {l : List (List Char)} (h : behindMainWord (wordsSigns P.initOrder.toList) = l) : P.headLifts = (if (stripLifts liftWords l).2.head? == some "cut".toList then (stripLifts liftWords l).1 else []) := by subst h; rfl
theorem znB{P:Program}{rest:List (List Char)}(h:behindMainWord (wordsSigns P.initOrder.toList)=(dc 3 1915619)::rest):P.make=some .cut:=by unfold Program.make;rw[h];rfl
theorem zh3{P:Program}{rest:List (List Char)}(h:behindMainWord (wordsSigns P.initOrder.toList)=(dc 3 1915619)::rest)(hl:P.headLifts=[]):P.liftsFinal=false:=by unfold Program.liftsFinal;rw[h,hl];rfl
theorem zh4 {P : Program} {c : List Char} {rest : List (List Char)} (h : behindMainWord (wordsSigns P.initOrder.toList) = c :: rest) (IQ : (stripLifts liftWords (c :: rest)).2.head? = some "cut".toList)
    (hs1:(stripLifts liftWords (c::rest)).1=[]) (zMs:P.laysLater=false) (hb:P.bearsReflect=false) (hd:P.doorFits []=true):P.mayEnter=true:=by
  unfold Program.mayEnter;rw[h];simp[IQ,hs1,zMs,hb,hd]
theorem ioH:Tryz.prog.headLifts=[]:=(RD ioB).trans (by kernel_rfl)
theorem ioK:Tryz.prog.make=some .cut:=znB ioB
theorem ioF:Tryz.prog.liftsFinal=false:=zh3 ioB ioH
theorem ioE:Tryz.prog.mayEnter=true:=zh4 ioB (by kernel_rfl) (by kernel_rfl) (by kernel_rfl) (by kernel_rfl) (by kernel_rfl)
end Go.Proofs.YtjkijdhdbhooiaaGreat
