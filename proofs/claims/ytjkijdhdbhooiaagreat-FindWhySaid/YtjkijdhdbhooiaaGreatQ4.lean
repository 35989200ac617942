/- Part 4: framework, functions, plain laws. -/
import Derived.Test.YtjkijdhdbhooiaaGreatQ3
import Derived.Test.YtjkijdhdbhooiaaGreatProg
import Derived.Tactics
import Derived.Tactics2
import Derived.Recover
import Derived.RecoverIn
import Derived.TacticsInMore
import Derived.ProofKit
import Derived.Deep.Slices
import Derived.OpenShut
set_option linter.all false
noncomputable section
namespace Go.Pm
open Go Go.Proofs
variable [aC]
set_option maxRecDepth 100000
theorem zpC:∀caps:Array Value,caps.size=2->H8 Tryz.prog {target:=.fn (.func 177) caps,args:=#[]}:=λcaps hc=>by
 match caps,hc with
 | ⟨[x,y]⟩,_ =>
 refine⟨.func 177,#[x,y],177,#[x,y],rfl,λw=>?_,λn w=>?_⟩;have h:dA Tryz.prog 177:=⟨_,rfl,rfl,by kernel_rfl⟩;show(callFunc 177 (#[] ++ #[x,y])).run Tryz.prog w=_;exact eF h;have key:CallsDIn {fn:=λ_=>True,depth:=none,alive:=false,round:=none} n Tryz.prog 177 #[x,y] .returning w λe u' w'=>e=.returned (.tuple #[])/\u'=.returning/\w'=w:=by
  refine callsDIn_of_wpSIn Tryz.func177 rfl trivial λc₀ cs hu=>?_;apply wpSIn_seq;apply wpSIn_region;simp[wpOpsSIn,go_sem,recoverD,hu,Tryz.ntmps177,Exit.thenS];refine wpSIn_of_wpIn rfl (wpIn_block (wpIn_seq (wpIn_region ?_)));simp[wpOpsIn,go_sem,Oper.wpIn];refine wpIn_cond (t:=true) (by simp[Act.eval,Array.replicate]) ?_;simp only[PW];refine wpIn_region ?_;simp[wpOpsIn,go_sem,Oper.wpIn,Exit.inBlock];cases c₀;simp_all [bodyPostS,results,Tryz.results177]
 exact key.mono λe u' w' h=>⟨⟨_,h.1⟩,h.2⟩
theorem zHG:∃fs,Tryz.prog.underlying 254=some (.struct fs):=by
 have h:(match Tryz.prog.underlying 254 with|some (.struct _)=>true|_=>false)=true:=by kernel_rfl
 split at h;rename_i fs e;exact⟨fs,e⟩;cases h
abbrev zc4:qV:=⟨4,30,5,4,false,254⟩
theorem zHH(v:Value)(w:World):(Instr.typeAssert (.iface 254 v) 20 254 true).run Tryz.prog w=.ok (.tuple #[v,.bool true]) w:=by
 obtain⟨fs,h⟩:=zHG;simp only[Instr.typeAssert,Sem.run_bind,run_underlying h,Result.andThen_ok,PW,Sem.run_pure]
theorem zy4:zHA Tryz.prog zc4 177:=λch gy v1 v2 w=>by
 unfold qV.ok at gy;split at gy
 rotate_left
 cases gy;rename_i ty kd nn;have hty:ty=254:=lH gy;subst hty;refine⟨#[.cells #[.int kd nn] 254 (0,0)],λw1 w2 h1 h2=>⟨λw=>?_,λn=>?_⟩⟩;have h:dA Tryz.prog 177:=⟨_,rfl,rfl,by kernel_rfl⟩;show(callFunc 177 (#[] ++ #[v1,v2])).run Tryz.prog w=_;exact eF h;have key:CallsDIn {fn:=λ_=>True,depth:=none,alive:=false,round:=none} n Tryz.prog 177 #[v1,v2] (.panicking [⟨.iface 254 (.agg #[.int kd nn]),false,false⟩]) w λe u' w'=>e=.returned (.tuple #[])/\u'=.panicking (zfd [⟨.iface 254 (.agg #[.int kd nn]),false,false⟩])/\w'=w2:=by
  refine callsDIn_of_wpSIn Tryz.func177 rfl trivial λc₀ cs hu=>?_;apply wpSIn_seq;apply wpSIn_region;simp[wpOpsSIn,go_sem,recoverD,hu,Tryz.ntmps177,Exit.thenS];refine wpSIn_of_wpIn rfl (wpIn_block (wpIn_seq (wpIn_region ?_)));simp[wpOpsIn,go_sem,Oper.wpIn];refine wpIn_cond (t:=false) (by simp[Act.eval,Array.replicate]) ?_;simp only[qdw,qd8];refine wpIn_seq (wpIn_region ?_);simp[wpOpsIn,go_sem,Oper.wpIn,zHH];refine wpIn_cond (t:=true) (by simp[Act.eval,Array.replicate]) ?_;simp only[PW];refine wpIn_seq (wpIn_region ?_);simp[wpOpsIn,go_sem,Oper.wpIn];refine wpIn_region ?_;have e:w.alloc (Obj.cells #[.int kd nn] 254)={w with heap:=w.heap ++ #[.cells #[.int kd nn] 254 (0,0)]}:=by
   show({w with heap:=w.heap.push _}:World)=_;rw[Array.push_eq_append]
  rw[<- e]at h1;generalize hA:(Act.mk _ _)=A;have hA0:A.eval (.tmp 0)=v1:=by subst hA;simp[Act.eval]
  have hA1:A.eval (.tmp 1)=v2:=by subst hA;simp[Act.eval]
  have hc:A.eval (.const (.slice none 0 0))=.slice none 0 0:=rfl;have hc':A.eval (.const (.bool false))=.bool false:=rfl;have hAd:A.defers=[]:=by subst hA;rfl
  clear hA;show wpOpsIn _ n Tryz.prog _ _ [0,1] A _;have h1:(Instr.storeAt 30 v1 (.slice none 0 0)).run Tryz.prog (w.alloc (Obj.cells #[.int kd nn] 254))=.ok () w1:=h1;have h2:(Instr.storeAt 4 v2 (.bool false)).run Tryz.prog w1=.ok () w2:=h2;simp[wpOpsIn,Oper.wpIn,Oper.semAt,execOp,hA0,hA1,hc,hc',h1,h2,Region.wanted,Act.put,Oper.about,Exit.inBlock,Oper.uponIn_skip];clear e h1 h2 hA0 hA1 hc hc';cases c₀;simp[bodyPostS,results,Tryz.results177,zfd,hAd]
 exact key.mono λe u' w' h=>⟨⟨_,h.1⟩,h.2⟩
theorem zju:zyY Tryz.prog zc4 177:=⟨zpC,zy4⟩
end Go.Pm
namespace Go.Pm
instance dz0:aC:=⟨0⟩
end Go.Pm
namespace Go.Proofs
open Go Go.Pm
set_option maxRecDepth 100000
abbrev aB:=Tryz.prog
structure bY where
 Low:Int
 High:Int
deriving Inhabited
instance:bI bY:=bI.iso (α:=Int×Int) (λ⟨x0,x1⟩=>⟨x0,x1⟩) (λx=>(x.Low,x.High)) (λ_=>rfl)
instance:je bY:=.agg'
structure aT where
 Time:Int
 dV:bY
deriving Inhabited
instance:bI aT:=bI.iso (α:=Int×bY) (λ⟨x0,x1⟩=>⟨x0,x1⟩) (λx=>(x.Time,x.dV)) (λ_=>rfl)
instance:je aT:=.agg'
structure ai where
 Kind:Int
 View:Int
 Z:Int
 First:Int
 aO:Int
 bG:Int
 dL:Int
 bf:bY
 Clock:bY
 dP:Int
 Least:Int
 aT:Sl aT
 Dead:Sl Int
deriving Inhabited
instance:bI ai:=bI.iso (α:=Int×Int×Int×Int×Int×Int×Int×bY×bY×Int×Int×Sl aT×Sl Int) (λ⟨x0,x1,x2,x3,x4,x5,x6,x7,x8,x9,x10,x11,x12⟩=>⟨x0,x1,x2,x3,x4,x5,x6,x7,x8,x9,x10,x11,x12⟩) (λx=>(x.Kind,x.View,x.Z,x.First,x.aO,x.bG,x.dL,x.bf,x.Clock,x.dP,x.Least,x.aT,x.Dead)) (λ_=>rfl)
instance:je ai:=.agg'
structure ak where
 aj:Sl ai
deriving Inhabited
instance:bI ak:=bI.iso (α:=Sl ai) (λx0=>⟨x0⟩) (λx=>x.aj) (λ_=>rfl)
instance:je ak:=.agg'
structure bF where
 mO:Int
 o7:Int
deriving Inhabited
instance:bI bF:=bI.iso (α:=Int×Int) (λ⟨x0,x1⟩=>⟨x0,x1⟩) (λx=>(x.mO,x.o7)) (λ_=>rfl)
instance:je bF:=.agg'
structure bg where
 ai:Int
 Channel:Int
 kG:Int
 aT:Int
 CS:Int
 Time:Int
deriving Inhabited
instance:bI bg:=bI.iso (α:=Int×Int×Int×Int×Int×Int) (λ⟨x0,x1,x2,x3,x4,x5⟩=>⟨x0,x1,x2,x3,x4,x5⟩) (λx=>(x.ai,x.Channel,x.kG,x.aT,x.CS,x.Time)) (λ_=>rfl)
instance:je bg:=.agg'
structure af where
 View:Int
 Hits:Sl Int
 aU:Sl Int
deriving Inhabited
instance:bI af:=bI.iso (α:=Int×Sl Int×Sl Int) (λ⟨x0,x1,x2⟩=>⟨x0,x1,x2⟩) (λx=>(x.View,x.Hits,x.aU)) (λ_=>rfl)
instance:je af:=.agg'
structure au where
 Z:Int
 Low:Int
 High:Int
deriving Inhabited
instance:bI au:=bI.iso (α:=Int×Int×Int) (λ⟨x0,x1,x2⟩=>⟨x0,x1,x2⟩) (λx=>(x.Z,x.Low,x.High)) (λ_=>rfl)
instance:je au:=.agg'
structure aS where
 ak:ak
 hits:Sl bg
 jr:Sl (Sl au)
 rules:bF
deriving Inhabited
instance:bI aS:=bI.iso (α:=ak×Sl bg×Sl (Sl au)×bF) (λ⟨x0,x1,x2,x3⟩=>⟨x0,x1,x2,x3⟩) (λx=>(x.ak,x.hits,x.jr,x.rules)) (λ_=>rfl)
instance:je aS:=.agg'
structure placed where
 ai:ai
 index:Int
deriving Inhabited
instance:bI placed:=bI.iso (α:=ai×Int) (λ⟨x0,x1⟩=>⟨x0,x1⟩) (λx=>(x.ai,x.index)) (λ_=>rfl)
instance:je placed:=.agg'
structure found where
 aS:Pt aS
 fits:Sl af
 bn:Sl af
deriving Inhabited
instance:bI found:=bI.iso (α:=Pt aS×Sl af×Sl af) (λ⟨x0,x1,x2⟩=>⟨x0,x1,x2⟩) (λx=>(x.aS,x.fits,x.bn)) (λ_=>rfl)
instance:je found:=.agg'
structure aP where
 Num:Int
 bQ:Int
deriving Inhabited
instance:bI aP:=bI.iso (α:=Int×Int) (λ⟨x0,x1⟩=>⟨x0,x1⟩) (λx=>(x.Num,x.bQ)) (λ_=>rfl)
instance:je aP:=.agg'
structure Line where
 dK:aP
 Start:aP
deriving Inhabited
instance:bI Line:=bI.iso (α:=aP×aP) (λ⟨x0,x1⟩=>⟨x0,x1⟩) (λx=>(x.dK,x.Start)) (λ_=>rfl)
instance:je Line:=.agg'
structure list where
 bP:Sl au
deriving Inhabited
instance:bI list:=bI.iso (α:=Sl au) (λx0=>⟨x0⟩) (λx=>x.bP) (λ_=>rfl)
instance:je list:=.agg'
structure straight where
 bH:Int
 start:Int
 den:Int
deriving Inhabited
instance:bI straight:=bI.iso (α:=Int×Int×Int) (λ⟨x0,x1,x2⟩=>⟨x0,x1,x2⟩) (λx=>(x.bH,x.start,x.den)) (λ_=>rfl)
instance:je straight:=.agg'
structure set where
 list:list
 df:Sl straight
deriving Inhabited
instance:bI set:=bI.iso (α:=list×Sl straight) (λ⟨x0,x1⟩=>⟨x0,x1⟩) (λx=>(x.list,x.df)) (λ_=>rfl)
instance:je set:=.agg'
structure zjv where
 Z:Int
 X:Int
 W:Int
 Y:Int
deriving Inhabited
instance:bI zjv:=bI.iso (α:=Int×Int×Int×Int) (λ⟨x0,x1,x2,x3⟩=>⟨x0,x1,x2,x3⟩) (λx=>(x.Z,x.X,x.W,x.Y)) (λ_=>rfl)
instance:je zjv:=.agg'
structure zpD where
 X:Int
 Y:Int
deriving Inhabited
instance:bI zpD:=bI.iso (α:=Int×Int) (λ⟨x0,x1⟩=>⟨x0,x1⟩) (λx=>(x.X,x.Y)) (λ_=>rfl)
instance:je zpD:=.agg'
structure bz where
 zgO:Int
 Hits:Sl Int
 aj:Sl Int
 rf:af
deriving Inhabited
instance:bI bz:=bI.iso (α:=Int×Sl Int×Sl Int×af) (λ⟨x0,x1,x2,x3⟩=>⟨x0,x1,x2,x3⟩) (λx=>(x.zgO,x.Hits,x.aj,x.rf)) (λ_=>rfl)
instance:je bz:=.agg'
structure Bin where
 View:Int
 Low:aP
 High:aP
deriving Inhabited
instance:bI Bin:=bI.iso (α:=Int×aP×aP) (λ⟨x0,x1,x2⟩=>⟨x0,x1,x2⟩) (λx=>(x.View,x.Low,x.High)) (λ_=>rfl)
instance:je Bin:=.agg'
structure Tally where
 z0l:Int
 zm3:Int
deriving Inhabited
instance:bI Tally:=bI.iso (α:=Int×Int) (λ⟨x0,x1⟩=>⟨x0,x1⟩) (λx=>(x.z0l,x.zm3)) (λ_=>rfl)
instance:je Tally:=.agg'
instance:sU Int:=⟨λ_=>rfl⟩
instance:sU Bool:=⟨λ_=>rfl⟩
instance:sU bY:=⟨λ_=>rfl⟩
instance:sU aT:=⟨λ_=>rfl⟩
instance:sU ai:=⟨λ_=>rfl⟩
instance:sU ak:=⟨λ_=>rfl⟩
instance:sU bF:=⟨λ_=>rfl⟩
instance:sU bg:=⟨λ_=>rfl⟩
instance:sU af:=⟨λ_=>rfl⟩
instance:sU au:=⟨λ_=>rfl⟩
instance:sU aS:=⟨λ_=>rfl⟩
instance:sU placed:=⟨λ_=>rfl⟩
instance:sU found:=⟨λ_=>rfl⟩
instance:sU aP:=⟨λ_=>rfl⟩
instance:sU Line:=⟨λ_=>rfl⟩
instance:sU list:=⟨λ_=>rfl⟩
instance:sU straight:=⟨λ_=>rfl⟩
instance:sU set:=⟨λ_=>rfl⟩
instance:sU zjv:=⟨λ_=>rfl⟩
instance:sU zpD:=⟨λ_=>rfl⟩
instance:sU bz:=⟨λ_=>rfl⟩
instance:sU Bin:=⟨λ_=>rfl⟩
instance:sU Tally:=⟨λ_=>rfl⟩
theorem krY{p:Prop}(h:p:=by kernel_rfl):p:=h
theorem dS [aC]{P:Program}{N:Nat}{Γ:bK}{A δ ρ:Type}[dF δ][dF ρ]{aQ:dG}{f:FuncId}{x:δ}{k:ρ->Option A}{r:Option A}(h:Go.Pm.runT P Γ N aQ f (gV k) (dF.enc x)=r:=by kernel_rfl):(ae.ty (aF P N Γ aQ f) x:ae ρ).T k=r:=zR8.trans h
theorem dU [aC]{P:Program}{N:Nat}{T:Tabs}{vv:List Nat}{δ ρ:Type}[dF δ][dF ρ]{aQ:dG}{f:FuncId}(h:ax P T)(hb:Xv P f=true:=by kernel_rfl):Ok P f (ae.un (ae.ty (aF P N (gU T vv) aQ f):δ->ae ρ)):=zvp (xq h (dJ hb))
abbrev iR{δ ρ:Type}[dF δ][dF ρ](N:Nat)(T:Tabs)(f:FuncId):δ->ae ρ:=ae.ty (aF Tryz.prog N (gU T []) (bT Tryz.prog f [] {}) f)
end Go.Proofs
namespace Go.Pm
variable [aC]
open Go Go.Deep
theorem zjw(b o i j:Nat):((⟨b,o,none⟩:Addr).add i).add j=⟨b,o+i+j,none⟩:=by
 simp only[Addr.add];by_cases h1:i=0;subst h1;by_cases h2:j=0;subst h2;rfl;rw[fH h2];rfl;rw [fH h1];by_cases h2:j=0;subst h2;rfl;rw[fH h2]
def H0(w:World):Fz:=λb=>(w.heap[b]?).map .fz
theorem zHI(w:World):Hw (H0 w) w:=by
 intro b x h;unfold H0 at h;cases e:w.heap[b]? with|none=>rw[e]at h;cases h|some o=>rw[e]at h;cases h;exact⟨o,rfl,rfl⟩
def wfI(x:Int):Prop:=-9223372036854775808<=x/\x<=9223372036854775807
class sQ (α : Type) where
  wf:α->Prop
instance:sQ Int:=⟨wfI⟩
instance:sQ Bool:=⟨λ_=>True⟩
instance{α:Type}[sQ α]:sQ (Sl α):=⟨λx=>x.len<=9223372036854775807/\∀i,i<x.len->sQ.wf (x.get i)⟩
section
variable{H:Type}{en:TypeId×Value->H}{P:Program}{w:World}{sp:Nat->Bool}{held:Bool}
def Rd(H:Type)(en:TypeId×Value->H)(P:Program)(w:World)(sp:Nat->Bool)(held:Bool)(t:TypeId)(α:Type)[bI α][sQ α]:Prop :=
 ∀(fuel:Nat)(cs:List Value)(x:DataW H×List MemPlace),DataW.trod en P w 0 sp held fuel t cs=some x->∃a:α,RL (Rep (H0 w)) (bI.enc a) cs/\sQ.wf a
theorem zaO{t:TypeId}(ht:P.underlying t=some (.int .i64)):Rd H en P w sp held t Int:=by
 intro fuel cs x h;obtain⟨n,rfl,_,hw⟩:=DataW.trod_int ht h;refine⟨n,⟨.int _ _,trivial⟩,?_⟩;simp only[Lit.wf,gq,lQ]at hw;exact⟨hw.1,hw.2⟩
theorem oQ{t:TypeId}{fs:Array Field}(ht:P.underlying t=some (.struct fs)){fuel:Nat}{cs:List Value}{x:DataW H×List MemPlace}(h:DataW.trod en P w 0 sp held fuel t cs=some x) :
  cs.length=P.cellsOf t/\∀(i:Nat)(f:Field),fs[i]? = some f->∃n y,DataW.trod en P w 0 sp held n f.type ((cs.drop f.offset).take (P.cellsOf f.type))=some y:=by
 obtain⟨xs,n,_,_,hl,hx,hf⟩:=DataW.trod_struct ht h;refine⟨hl,λi f hi=>?_⟩;have iM:i<xs.length:=by rw[hx];exact(VD.1 hi).1
 exact⟨n,xs[i],by rw[hf i f hi,Au iM]⟩
theorem Ea{t e:TypeId}{α:Type}[bI α][sQ α][Inhabited α]{s:Nat}(ht:P.underlying t=some (.slice e))(hc:P.cellsOf e=s)(he:s=(bI.enc (default:α)).length)(hs:0<s)
    (H5:Rd H en P w sp held e α):Rd H en P w sp held t (Sl α):=by
  have hlen:∀a:α,(bI.enc a).length=s:=λa=>by rw[he];exact(bI.sm a default).length
  intro fuel cs x h;rcases open_slice ht h with⟨rfl,_⟩|⟨a,len,cap,m,n,D,Pl,rfl,_,hl,hm,hmm,_,zbV⟩
  exact⟨⟨0,λ_=>default⟩,⟨.sl0 _ _ (λ_ _=>bI.sm _ _),trivial⟩,ui _,λi hi=>absurd hi (RP i)⟩
  · by_cases h0 : len = 0;subst h0;exact⟨⟨0,λ _=>default⟩,⟨.sle _ _ _ _ (λ _ _=>bI.sm _ _),trivial⟩,ui _,λ i hi=>absurd hi (RP i)⟩
    · have hlm : len ≤ m := by rw [hmm]; split <;> omega
      rw[hc]at zbV;have hex:∀i,i<len->∃y:α,(∃IZ,w.cells? 0 (a.add (i*s)) s=some IZ/\RL (Rep (H0 w)) (bI.enc y) IZ)/\sQ.wf y:=by
        intro i hi;obtain⟨IZ,h1,h2⟩:=zbV i omY;obtain⟨y,h3,h4⟩:=H5 _ _ _ h2;exact⟨y,⟨IZ,h1,h3⟩,h4⟩
      have hch:∃f:Nat->α,∀i,i<len->(∃IZ,w.cells? 0 (a.add (i*s)) s=some IZ/\RL (Rep (H0 w)) (bI.enc (f i)) IZ)/\sQ.wf (f i):=by
        refine⟨λi=>if hi:i<len then Classical.choose (hex i hi)else default,λi hi=>?_⟩;simp only[dif_pos hi];exact Classical.choose_spec (hex i hi)
      obtain⟨f,hf⟩:=hch
      -- the block
      have ou:∀i,i<len->∀j,j<s->∃IZ,w.cells? 0 (a.add (i*s)) s=some IZ/\RL (Rep (H0 w)) (bI.enc (f i)) IZ/\w.cell? ((a.add (i*s)).add j)=IZ[j]?/\IZ.length=s:=by
        intro i hi j hj;obtain⟨⟨IZ,h1,h2⟩,_⟩:=hf i hi;obtain⟨_,h3,h4⟩:=World.cells?_some h1;exact⟨IZ,h1,h2,h4 j hj,h3⟩
      obtain⟨cs0,_,_,hc0,hl0⟩:=ou 0 omY 0 hs;have ha0:w.cell? a=cs0[0]?:=by simpa [Addr.add]using hc0
      rw[Au omY]at ha0;obtain⟨C,ty,fr,hblk,zNR⟩:∃C ty fr,w.heap[a.block]? = some (.cells C ty fr)/\a.spot=none:=by
        unfold World.cell? at ha0;split at ha0
        · rename_i C ty fr hb;refine⟨C,ty,fr,hb,?_⟩;cases hsp:a.spot with|none=>rfl|some k=>rw[hsp]at ha0;simp at ha0
        cases ha0
      have ea:a=⟨a.block,a.off,none⟩:=by rw[<- zNR]
      have hat:∀i j,i<len->j<s->∃IZ,RL (Rep (H0 w)) (bI.enc (f i)) IZ/\C[a.off+i*s+j]? = IZ[j]?/\IZ.length=s:=by
        intro i j hi hj;obtain⟨IZ,_,h2,h3,h4⟩:=ou i hi j hj;refine⟨IZ,h2,?_,h4⟩;rw[<- h3];have e2:(a.add (i*s)).add j=⟨a.block,a.off+i*s+j,none⟩:=(jX (λz:Addr=>(z.add (i*s)).add j) ea).trans (zjw _ _ _ _);rw[e2];simp[World.cell?,hblk]
      refine⟨⟨len,f⟩,⟨?_,trivial⟩,by simp only[maxLen]at hm;show len<=_;omega,λi hi=>(hf i hi).2⟩;rw[ea];show Rep (H0 w) (.sl len (bI.enc (default:α)).length (λi=>bI.enc (f i))) _;rw[<- he];refine .sl len s _ (λ_ _=>bI.sm _ _) a.block a.off cap C ty fr (λi j=>C.getD (a.off+i*s+j) undef) (by simp[H0,hblk]) hl (λi _=>hlen _) ?_ ?_;intro i j x hi hx;have hj:j<s:=by have:=(Bl.1 hx).1;rw[hlen]at this;exact this
      obtain⟨IZ,h1,h2,h3⟩:=hat i j hi hj;rw[yA,h2,Au omY];rfl;intro i j x hi hx;have hj:j<s:=by have:=(Bl.1 hx).1;rw[hlen]at this;exact this
      obtain⟨IZ,h1,h2,h3⟩:=hat i j hi hj;obtain⟨v,hv,hr⟩:=h1.get j x hx;rw[yA,h2,hv];exact hr
theorem dH{α:Type}(l:List α)(o s:Nat):l.drop o=(l.drop o).take s++l.drop (o+s):=by
 rw[<- List.drop_drop];exact(qjm s (l.drop o)).symm
theorem BQ{t:TypeId}{fs:Array Field}{r:Reach}{base:Nat}{v:Value}(ht:P.underlying t=some (.struct fs))(h:Value.okWide P w r base t v):∃cs,v=.agg cs:=by
 unfold Value.okWide at h;rw[ht]at h;obtain⟨cs,hv,_⟩:=h;exact⟨cs,hv⟩
def zHJ:TypeDesc→Bool|.struct _=>false|.array _ _=>false|_=>true
theorem zaP{t:TypeId}{d:TypeDesc}{r:Reach}{base:Nat}{v:Value}(ht:P.underlying t=some d)(hd:zHJ d=true)(h:Value.okWide P w r base t v):v.cells.toList=[v]:=by
 unfold Value.okWide at h;rw[ht]at h;cases v with
 | agg cs =>
  exfalso;cases d<;>first|(cases hd;done)|(simp only[Cell.okWide,Cell.ok,ht]at h)
 | _=>rfl
theorem zy5{h:Fz}{p:PV}{v:Value}(hv:v.cells.toList=[v])(r:RL (Rep h) [p] v.cells.toList):oJ h (.one p) v:=by
 rw[hv]at r;exact r.1
theorem zaQ{h:Fz}{l:List PV}{v:Value}(hv:∃cs,v=.agg cs)(r:RL (Rep h) l v.cells.toList):oJ h (.agg l) v:=by
 obtain⟨cs,rfl⟩:=hv;exact⟨cs.toList,by simp,r⟩
theorem zjx{w':World}(b:yh (H0 w) w.heap.size w w'):Go.RowKit.Below w.heap.size w w' :=
 ⟨b.os,b.tape,b.output,b.size,λk hk=>b.block k hk⟩
end
end Go.Pm
namespace Go.Proofs
open Go Go.Pm
set_option maxRecDepth 100000
theorem TS:Tryz.prog.cellsOf 3=1:=krY
theorem zSc:Tryz.prog.cellsOf 22=1:=krY
theorem zSd:Tryz.prog.cellsOf 24=1:=krY
theorem zSe:Tryz.prog.cellsOf 26=2:=krY
theorem zHK:Tryz.prog.cellsOf 38=1:=krY
theorem zy6:Tryz.prog.cellsOf 39=1:=krY
theorem zSf:Tryz.prog.cellsOf 43=3:=krY
theorem zHL:Tryz.prog.cellsOf 92=6:=krY
theorem zc5:Tryz.prog.cellsOf 105=2:=krY
theorem zHM:Tryz.prog.cellsOf 121=1:=krY
theorem zHN:Tryz.prog.cellsOf 122=1:=krY
theorem zvy:Tryz.prog.cellsOf 124=15:=krY
theorem zvz:Tryz.prog.cellsOf 264=3:=krY
section
variable{H:Type}{en:TypeId×Value->H}{w:World}{sp:Nat->Bool}{held:Bool}
theorem zy7:Rd H en Tryz.prog w sp held 121 Int:=zaO Tryz.underlying121
theorem zvA:Rd H en Tryz.prog w sp held 38 Int:=zaO Tryz.underlying38
theorem xw:Rd H en Tryz.prog w sp held 3 Int:=zaO Tryz.underlying3
instance:sQ bY:=⟨λx=>sQ.wf x.Low/\sQ.wf x.High⟩
theorem zaR:Rd H en Tryz.prog w sp held 105 bY:=by
 intro fuel cs x h;obtain⟨hl,hf⟩:=oQ Tryz.underlying105 h;rw[zc5]at hl;obtain⟨n0,y0,g0⟩:=hf 0 _ rfl;have g0:DataW.trod en Tryz.prog w 0 sp held n0 3 ((cs.drop 0).take (Tryz.prog.cellsOf 3))=some y0:=g0;rw[TS]at g0;obtain⟨a0,r0,w0⟩:=xw _ _ _ g0;obtain⟨n1,y1,g1⟩:=hf 1 _ rfl;have g1:DataW.trod en Tryz.prog w 0 sp held n1 3 ((cs.drop 1).take (Tryz.prog.cellsOf 3))=some y1:=g1;rw[TS]at g1;obtain⟨a1,r1,w1⟩:=xw _ _ _ g1;rw[qdc (l:=cs.drop 1) (by rw[Zx];omega)]at r1;have R:=(r0.append r1);rw[<- (show cs.drop 0=(cs.drop 0).take 1++cs.drop 1 from dH cs 0 1)]at R;exact⟨⟨a0,a1⟩,R,⟨w0,w1⟩⟩
instance:sQ aT:=⟨λx=>sQ.wf x.Time/\sQ.wf x.dV⟩
theorem zy8:Rd H en Tryz.prog w sp held 264 aT:=by
 intro fuel cs x h;obtain⟨hl,hf⟩:=oQ Tryz.underlying264 h;rw[zvz]at hl;obtain⟨n0,y0,g0⟩:=hf 0 _ rfl;have g0:DataW.trod en Tryz.prog w 0 sp held n0 3 ((cs.drop 0).take (Tryz.prog.cellsOf 3))=some y0:=g0;rw[TS]at g0;obtain⟨a0,r0,w0⟩:=xw _ _ _ g0;obtain⟨n1,y1,g1⟩:=hf 1 _ rfl;have g1:DataW.trod en Tryz.prog w 0 sp held n1 105 ((cs.drop 1).take (Tryz.prog.cellsOf 105))=some y1:=g1;rw[zc5]at g1;obtain⟨a1,r1,w1⟩:=zaR _ _ _ g1;rw[qdc (l:=cs.drop 1) (by rw[Zx];omega)]at r1;have R:=(r0.append r1);rw[<- (show cs.drop 0=(cs.drop 0).take 1++cs.drop 1 from dH cs 0 1)]at R;exact⟨⟨a0,a1⟩,R,⟨w0,w1⟩⟩
theorem zy9:Rd H en Tryz.prog w sp held 122 (Sl aT):=Ea Tryz.underlying122 zvz rfl (by decide) zy8
theorem zjy:Rd H en Tryz.prog w sp held 39 (Sl Int):=Ea Tryz.underlying39 TS rfl (by decide) xw
instance:sQ ai:=⟨λx=>sQ.wf x.Kind/\sQ.wf x.View/\sQ.wf x.Z/\sQ.wf x.First/\sQ.wf x.aO/\sQ.wf x.bG/\sQ.wf x.dL/\sQ.wf x.bf/\sQ.wf x.Clock/\sQ.wf x.dP/\sQ.wf x.Least/\sQ.wf x.aT/\sQ.wf x.Dead⟩
theorem zza:Rd H en Tryz.prog w sp held 124 ai:=by
 intro fuel cs x h;obtain⟨hl,hf⟩:=oQ Tryz.underlying124 h;rw[zvy]at hl;obtain⟨n0,y0,g0⟩:=hf 0 _ rfl;have g0:DataW.trod en Tryz.prog w 0 sp held n0 121 ((cs.drop 0).take (Tryz.prog.cellsOf 121))=some y0:=g0;rw[zHM]at g0;obtain⟨a0,r0,w0⟩:=zy7 _ _ _ g0;obtain⟨n1,y1,g1⟩:=hf 1 _ rfl;have g1:DataW.trod en Tryz.prog w 0 sp held n1 38 ((cs.drop 1).take (Tryz.prog.cellsOf 38))=some y1:=g1;rw[zHK]at g1;obtain⟨a1,r1,w1⟩:=zvA _ _ _ g1;obtain⟨n2,y2,g2⟩:=hf 2 _ rfl;have g2:DataW.trod en Tryz.prog w 0 sp held n2 3 ((cs.drop 2).take (Tryz.prog.cellsOf 3))=some y2:=g2;rw[TS]at g2;obtain⟨a2,r2,w2⟩:=xw _ _ _ g2;obtain⟨n3,y3,g3⟩:=hf 3 _ rfl;have g3:DataW.trod en Tryz.prog w 0 sp held n3 3 ((cs.drop 3).take (Tryz.prog.cellsOf 3))=some y3:=g3;rw[TS]at g3;obtain⟨a3,r3,w3⟩:=xw _ _ _ g3;obtain⟨n4,y4,g4⟩:=hf 4 _ rfl;have g4:DataW.trod en Tryz.prog w 0 sp held n4 3 ((cs.drop 4).take (Tryz.prog.cellsOf 3))=some y4:=g4;rw[TS]at g4;obtain⟨a4,r4,w4⟩:=xw _ _ _ g4;obtain⟨n5,y5,g5⟩:=hf 5 _ rfl;have g5:DataW.trod en Tryz.prog w 0 sp held n5 3 ((cs.drop 5).take (Tryz.prog.cellsOf 3))=some y5:=g5;rw[TS]at g5;obtain⟨a5,r5,w5⟩:=xw _ _ _ g5;obtain⟨n6,y6,g6⟩:=hf 6 _ rfl;have g6:DataW.trod en Tryz.prog w 0 sp held n6 3 ((cs.drop 6).take (Tryz.prog.cellsOf 3))=some y6:=g6;rw[TS]at g6;obtain⟨a6,r6,w6⟩:=xw _ _ _ g6;obtain⟨n7,y7,g7⟩:=hf 7 _ rfl;have g7:DataW.trod en Tryz.prog w 0 sp held n7 105 ((cs.drop 7).take (Tryz.prog.cellsOf 105))=some y7:=g7;rw[zc5]at g7;obtain⟨a7,r7,w7⟩:=zaR _ _ _ g7;obtain⟨n8,y8,g8⟩:=hf 8 _ rfl;have g8:DataW.trod en Tryz.prog w 0 sp held n8 105 ((cs.drop 9).take (Tryz.prog.cellsOf 105))=some y8:=g8;rw[zc5]at g8;obtain⟨a8,r8,w8⟩:=zaR _ _ _ g8;obtain⟨n9,y9,g9⟩:=hf 9 _ rfl;have g9:DataW.trod en Tryz.prog w 0 sp held n9 3 ((cs.drop 11).take (Tryz.prog.cellsOf 3))=some y9:=g9;rw[TS]at g9;obtain⟨a9,r9,w9⟩:=xw _ _ _ g9;obtain⟨n10,y10,g10⟩:=hf 10 _ rfl;have g10:DataW.trod en Tryz.prog w 0 sp held n10 3 ((cs.drop 12).take (Tryz.prog.cellsOf 3))=some y10:=g10;rw[TS]at g10;obtain⟨a10,Zm,w10⟩:=xw _ _ _ g10;obtain⟨n11,y11,g11⟩:=hf 11 _ rfl;have g11:DataW.trod en Tryz.prog w 0 sp held n11 122 ((cs.drop 13).take (Tryz.prog.cellsOf 122))=some y11:=g11;rw[zHN]at g11;obtain⟨a11,r11,w11⟩:=zy9 _ _ _ g11;obtain⟨n12,y12,g12⟩:=hf 12 _ rfl;have g12:DataW.trod en Tryz.prog w 0 sp held n12 39 ((cs.drop 14).take (Tryz.prog.cellsOf 39))=some y12:=g12;rw[zy6]at g12;obtain⟨a12,r12,w12⟩:=zjy _ _ _ g12;rw[qdc (l:=cs.drop 14) (by rw[Zx];omega)]at r12;have R:=(r0.append (r1.append (r2.append (r3.append (r4.append (r5.append (r6.append (r7.append (r8.append (r9.append (Zm.append (r11.append r12))))))))))));rw[<- (show cs.drop 13=(cs.drop 13).take 1++cs.drop 14 from dH cs 13 1)]at R;rw[<- (show cs.drop 12=(cs.drop 12).take 1++cs.drop 13 from dH cs 12 1)]at R;rw[<- (show cs.drop 11=(cs.drop 11).take 1++cs.drop 12 from dH cs 11 1)]at R;rw[<- (show cs.drop 9=(cs.drop 9).take 2++cs.drop 11 from dH cs 9 2)]at R;rw[<- (show cs.drop 7=(cs.drop 7).take 2++cs.drop 9 from dH cs 7 2)]at R;rw[<- (show cs.drop 6=(cs.drop 6).take 1++cs.drop 7 from dH cs 6 1)]at R;rw[<- (show cs.drop 5=(cs.drop 5).take 1++cs.drop 6 from dH cs 5 1)]at R;rw[<- (show cs.drop 4=(cs.drop 4).take 1++cs.drop 5 from dH cs 4 1)]at R;rw[<- (show cs.drop 3=(cs.drop 3).take 1++cs.drop 4 from dH cs 3 1)]at R;rw[<- (show cs.drop 2=(cs.drop 2).take 1++cs.drop 3 from dH cs 2 1)]at R;rw[<- (show cs.drop 1=(cs.drop 1).take 1++cs.drop 2 from dH cs 1 1)]at R;rw[<- (show cs.drop 0=(cs.drop 0).take 1++cs.drop 1 from dH cs 0 1)]at R;exact⟨⟨a0,a1,a2,a3,a4,a5,a6,a7,a8,a9,a10,a11,a12⟩,R,⟨w0,w1,w2,w3,w4,w5,w6,w7,w8,w9,w10,w11,w12⟩⟩
theorem zHO:Rd H en Tryz.prog w sp held 22 (Sl ai):=Ea Tryz.underlying22 zvy rfl (by decide) zza
instance:sQ ak:=⟨λx=>sQ.wf x.aj⟩
theorem zHP:Rd H en Tryz.prog w sp held 24 ak:=by
 intro fuel cs x h;obtain⟨hl,hf⟩:=oQ Tryz.underlying24 h;rw[zSd]at hl;obtain⟨n0,y0,g0⟩:=hf 0 _ rfl;have g0:DataW.trod en Tryz.prog w 0 sp held n0 22 ((cs.drop 0).take (Tryz.prog.cellsOf 22))=some y0:=g0;rw[zSc]at g0;obtain⟨a0,r0,w0⟩:=zHO _ _ _ g0;rw[qdc (l:=cs.drop 0) (by rw[Zx];omega)]at r0;have R:=r0;exact⟨⟨a0⟩,R,w0⟩
instance:sQ bF:=⟨λx=>sQ.wf x.mO/\sQ.wf x.o7⟩
theorem zHQ:Rd H en Tryz.prog w sp held 26 bF:=by
 intro fuel cs x h;obtain⟨hl,hf⟩:=oQ Tryz.underlying26 h;rw[zSe]at hl;obtain⟨n0,y0,g0⟩:=hf 0 _ rfl;have g0:DataW.trod en Tryz.prog w 0 sp held n0 3 ((cs.drop 0).take (Tryz.prog.cellsOf 3))=some y0:=g0;rw[TS]at g0;obtain⟨a0,r0,w0⟩:=xw _ _ _ g0;obtain⟨n1,y1,g1⟩:=hf 1 _ rfl;have g1:DataW.trod en Tryz.prog w 0 sp held n1 3 ((cs.drop 1).take (Tryz.prog.cellsOf 3))=some y1:=g1;rw[TS]at g1;obtain⟨a1,r1,w1⟩:=xw _ _ _ g1;rw[qdc (l:=cs.drop 1) (by rw[Zx];omega)]at r1;have R:=(r0.append r1);rw[<- (show cs.drop 0=(cs.drop 0).take 1++cs.drop 1 from dH cs 0 1)]at R;exact⟨⟨a0,a1⟩,R,⟨w0,w1⟩⟩
instance:sQ bg:=⟨λx=>sQ.wf x.ai/\sQ.wf x.Channel/\sQ.wf x.kG/\sQ.wf x.aT/\sQ.wf x.CS/\sQ.wf x.Time⟩
theorem zHR:Rd H en Tryz.prog w sp held 92 bg:=by
 intro fuel cs x h;obtain⟨hl,hf⟩:=oQ Tryz.underlying92 h;rw[zHL]at hl;obtain⟨n0,y0,g0⟩:=hf 0 _ rfl;have g0:DataW.trod en Tryz.prog w 0 sp held n0 3 ((cs.drop 0).take (Tryz.prog.cellsOf 3))=some y0:=g0;rw[TS]at g0;obtain⟨a0,r0,w0⟩:=xw _ _ _ g0;obtain⟨n1,y1,g1⟩:=hf 1 _ rfl;have g1:DataW.trod en Tryz.prog w 0 sp held n1 3 ((cs.drop 1).take (Tryz.prog.cellsOf 3))=some y1:=g1;rw[TS]at g1;obtain⟨a1,r1,w1⟩:=xw _ _ _ g1;obtain⟨n2,y2,g2⟩:=hf 2 _ rfl;have g2:DataW.trod en Tryz.prog w 0 sp held n2 3 ((cs.drop 2).take (Tryz.prog.cellsOf 3))=some y2:=g2;rw[TS]at g2;obtain⟨a2,r2,w2⟩:=xw _ _ _ g2;obtain⟨n3,y3,g3⟩:=hf 3 _ rfl;have g3:DataW.trod en Tryz.prog w 0 sp held n3 3 ((cs.drop 3).take (Tryz.prog.cellsOf 3))=some y3:=g3;rw[TS]at g3;obtain⟨a3,r3,w3⟩:=xw _ _ _ g3;obtain⟨n4,y4,g4⟩:=hf 4 _ rfl;have g4:DataW.trod en Tryz.prog w 0 sp held n4 3 ((cs.drop 4).take (Tryz.prog.cellsOf 3))=some y4:=g4;rw[TS]at g4;obtain⟨a4,r4,w4⟩:=xw _ _ _ g4;obtain⟨n5,y5,g5⟩:=hf 5 _ rfl;have g5:DataW.trod en Tryz.prog w 0 sp held n5 3 ((cs.drop 5).take (Tryz.prog.cellsOf 3))=some y5:=g5;rw[TS]at g5;obtain⟨a5,r5,w5⟩:=xw _ _ _ g5;rw[qdc (l:=cs.drop 5) (by rw[Zx];omega)]at r5;have R:=(r0.append (r1.append (r2.append (r3.append (r4.append r5)))));rw[<- (show cs.drop 4=(cs.drop 4).take 1++cs.drop 5 from dH cs 4 1)]at R;rw[<- (show cs.drop 3=(cs.drop 3).take 1++cs.drop 4 from dH cs 3 1)]at R;rw[<- (show cs.drop 2=(cs.drop 2).take 1++cs.drop 3 from dH cs 2 1)]at R;rw[<- (show cs.drop 1=(cs.drop 1).take 1++cs.drop 2 from dH cs 1 1)]at R;rw[<- (show cs.drop 0=(cs.drop 0).take 1++cs.drop 1 from dH cs 0 1)]at R;exact⟨⟨a0,a1,a2,a3,a4,a5⟩,R,⟨w0,w1,w2,w3,w4,w5⟩⟩
theorem zHS:Rd H en Tryz.prog w sp held 27 (Sl bg):=Ea Tryz.underlying27 zHL rfl (by decide) zHR
instance:sQ af:=⟨λx=>sQ.wf x.View/\sQ.wf x.Hits/\sQ.wf x.aU⟩
theorem zHT:Rd H en Tryz.prog w sp held 43 af:=by
 intro fuel cs x h;obtain⟨hl,hf⟩:=oQ Tryz.underlying43 h;rw[zSf]at hl;obtain⟨n0,y0,g0⟩:=hf 0 _ rfl;have g0:DataW.trod en Tryz.prog w 0 sp held n0 38 ((cs.drop 0).take (Tryz.prog.cellsOf 38))=some y0:=g0;rw[zHK]at g0;obtain⟨a0,r0,w0⟩:=zvA _ _ _ g0;obtain⟨n1,y1,g1⟩:=hf 1 _ rfl;have g1:DataW.trod en Tryz.prog w 0 sp held n1 39 ((cs.drop 1).take (Tryz.prog.cellsOf 39))=some y1:=g1;rw[zy6]at g1;obtain⟨a1,r1,w1⟩:=zjy _ _ _ g1;obtain⟨n2,y2,g2⟩:=hf 2 _ rfl;have g2:DataW.trod en Tryz.prog w 0 sp held n2 39 ((cs.drop 2).take (Tryz.prog.cellsOf 39))=some y2:=g2;rw[zy6]at g2;obtain⟨a2,r2,w2⟩:=zjy _ _ _ g2;rw[qdc (l:=cs.drop 2) (by rw[Zx];omega)]at r2;have R:=(r0.append (r1.append r2));rw[<- (show cs.drop 1=(cs.drop 1).take 1++cs.drop 2 from dH cs 1 1)]at R;rw[<- (show cs.drop 0=(cs.drop 0).take 1++cs.drop 1 from dH cs 0 1)]at R;exact⟨⟨a0,a1,a2⟩,R,⟨w0,w1,w2⟩⟩
end
structure E23 where
 N:Nat
abbrev G23(E:E23):bK:=gU Tabs.nil []
def A23:dG:=bT aB 23 [] {}
def F23(E:E23):ak×(Sl bg)×Int->ae Bool:=ae.ty (aF aB E.N (G23 E) A23 23)
section
variable(E:E23){A:Type}(k:Bool->Option A)
def Nl(E:E23)(n:Nat)(a0:ak)(v7:Int){A:Type}(k:Bool->Option A):Option A:=gW aB (G23 E) E.N A23 23 [1,1,0,1,0] [.n n] (gV k) ⟨[(3,.cl (.ptr 3 0)),(7,.int v7)],[(3,eB 24 a0)],[]⟩
theorem e23(a0:ak)(a1:Sl bg)(a2:Int):(F23 E (a0,a1,a2)).T k=cond (decide ((a0.aj.len:Int)>20)) (k false) (cond (decide ((a1.len:Int)>a2)) (cond (decide ((a1.len:Int)<=24)) (k false) (cond (decide ((a1.len:Int)>40)) (k false) (Nl E E.N a0 0 k))) (cond (decide ((a1.len:Int)>40)) (k false) (Nl E E.N a0 0 k))):=dS
theorem zvB(n0:Nat)(a0:ak)(v7:Int):Nl E (n0+1) a0 v7 k=cond (decide (v7<(a0.aj.len:Int))) (aV (decide (0<=v7/\v7<(a0.aj.len:Int))) (cond (decide (((a0.aj.get v7.toNat).aT.len:Int)>60)) (k false) (aV (decide (0<=v7/\v7<(a0.aj.len:Int))) (cond (decide (((a0.aj.get v7.toNat).Dead.len:Int)>110)) (k false) (Nl E n0 a0 (aJ (v7+1)) k))))) (k true):=krY
end
theorem o23 [aC](E:E23):Ok aB 23 (ae.un (F23 E)):=dU ax.nil
structure E24 where
 N:Nat
def F24(E:E24):af->ae Bool:=iR E.N Tabs.nil 24
theorem e24(E:E24){A:Type}(k:Bool→Option A)(a0:af):(F24 E (a0)).T k=cond (decide ((a0.Hits.len:Int)<=30)) (k (decide ((a0.aU.len:Int)<=30))) (k false):=dS
theorem o24 [aC](E:E24):Ok aB 24 (ae.un (F24 E)):=dU ax.nil
structure E26 where
 N:Nat
 c61:ak->ae Bool
 c62:bF->ae Bool
 c85:ak×(Sl bg)->ae Bool
def F26(E:E26):ak×bF×(Sl bg)->ae Int:=iR E.N (((Tabs.nil.addF 61 (ae.un E.c61)).addF 62 (ae.un E.c62)).addF 85 (ae.un E.c85)) 26
theorem e26(E:E26){A:Type}(k:Int→Option A)(a0:ak)(a1:bF)(a2:Sl bg):(F26 E (a0,a1,a2)).T k=cond (decide ((a2.len:Int)>24)) (k 3) ((E.c61 a0).T λr1=>cond (!r1) (k 2) ((E.c62 a1).T λr2=>cond (!r2) (k 2) ((E.c85 (a0,a2)).T λr3=>cond (!r3) (k 2) (k 0)))):=dS
theorem o26 [aC](E:E26)(h61:Ok aB 61 (ae.un E.c61))(h62:Ok aB 62 (ae.un E.c62))(h85:Ok aB 85 (ae.un E.c85)):Ok aB 26 (ae.un (F26 E)):=dU (((ax.nil.addF h61).addF h62).addF h85)
structure E27 where
 N:Nat
 c34:Int->ae Bool
 Zj:Int×Int×Int->ae Bool
 c75:ak×bg->ae ((Sl au))
 c87:(Sl bg)×(Sl Int)×Int->ae Bool
abbrev G27(E:E27):bK:=gU ((((Tabs.nil.addF 34 (ae.un E.c34)).addF 86 (ae.un E.Zj)).addF 75 (ae.un E.c75)).addF 87 (ae.un E.c87)) []
def A27:dG:=bT aB 27 [] {cut:=[8,9]}
def F27(E:E27):ak×(Sl bg)×af->ae Bool:=ae.ty (aF aB E.N (G27 E) A27 27)
section
variable(E:E27){A:Type}(k:Bool->Option A)
def Xw(E:E27)(n:Nat)(a0:ak)(a1:Sl bg)(a2:af)(v7:Int){A:Type}(k:Bool->Option A):Option A:=gW aB (G27 E) E.N A27 27 [1,1,0,1,0] [.n n] (gV k) ⟨[(1,eP a1),(3,.cl (.ptr 3 0)),(5,.cl (.ptr 5 0)),(7,.int v7)],[(3,eB 24 a0),(5,eB 43 a2)],[]⟩
def zc6(E:E27)(n0:Nat)(a0:ak)(a1:Sl bg)(a2:af)(v7:Int){A:Type}(k:Bool->Option A):Option A:=gW aB (G27 E) E.N A27 27 [1,1,0,1,0,0,1,0,0,1] [.n n0] (gV k) ⟨[(1,eP a1),(3,.cl (.ptr 3 0)),(5,.cl (.ptr 5 0)),(7,.int v7)],[(3,eB 24 a0),(5,eB 43 a2)],[]⟩
def zvD(E:E27)(n0:Nat)(a0:ak)(a1:Sl bg)(a2:af)(v7:Int)(x8:bg){A:Type}(k:Bool->Option A):Option A:=gW aB (G27 E) E.N A27 27 [1,1,0,1,0,0,1,0,0,1,1] [.n n0] (gV k) ⟨[(1,eP a1),(3,.cl (.ptr 3 0)),(5,.cl (.ptr 5 0)),(7,.int v7),(8,.cl (.ptr 8 0))],[(3,eB 24 a0),(5,eB 43 a2),(8,eB 92 x8)],[]⟩
theorem e27(a0:ak)(a1:Sl bg)(a2:af):(F27 E (a0,a1,a2)).T k=(E.c34 a2.View).T λr1=>cond (!r1) (k false) (cond ((a2.Hits.len:Int)==0) (k false) (cond ((a2.aU.len:Int) != (a2.Hits.len:Int)) (k false) (Xw E E.N a0 a1 a2 0 k))):=dS
theorem zvE(n0:Nat)(a0:ak)(a1:Sl bg)(a2:af)(v7:Int):Xw E (n0+1) a0 a1 a2 v7 k=cond (decide (v7<(a2.Hits.len:Int))) (aV (decide (0<=v7/\v7<(a2.Hits.len:Int))) ((E.Zj (a2.Hits.get v7.toNat,0,(aJ ((a1.len:Int)-1)))).T λr1=>cond (!r1) (k false) (cond (decide (v7>0)) (aV (decide (0<=v7/\v7<(a2.Hits.len:Int))) (aV (decide (0<=(aJ (v7-1))/\(aJ (v7-1))<(a2.Hits.len:Int))) (cond (decide (a2.Hits.get v7.toNat<=a2.Hits.get (aJ (v7-1)).toNat)) (k false) (zc6 E n0 a0 a1 a2 v7 k)))) (zc6 E n0 a0 a1 a2 v7 k)))) (k true):=krY
theorem zHU(n0:Nat)(a0:ak)(a1:Sl bg)(a2:af)(v7:Int):zc6 E n0 a0 a1 a2 v7 k=aV (decide (0<=v7/\v7<(a2.Hits.len:Int))) (aV (decide (0<=a2.Hits.get v7.toNat/\a2.Hits.get v7.toNat<(a1.len:Int))) (zvD E n0 a0 a1 a2 v7 (a1.get (a2.Hits.get v7.toNat).toNat) k)):=krY
theorem zHV(n0:Nat)(a0:ak)(a1:Sl bg)(a2:af)(v7:Int)(x8:bg):zvD E n0 a0 a1 a2 v7 x8 k=aV (decide (0<=x8.ai/\x8.ai<(a0.aj.len:Int))) (cond ((a0.aj.get x8.ai.toNat).View != a2.View) (k false) (aV (decide (0<=v7/\v7<(a2.aU.len:Int))) ((E.c75 (a0,x8)).T λr1=>(E.Zj (a2.aU.get v7.toNat,0,(aJ ((r1.len:Int)-1)))).T λr2=>cond (!r2) (k false) (aV (decide ((0:Int)<=0/\(0:Int)<=v7/\v7<=(a2.Hits.len:Int))) ((E.c87 (a1,(⟨((v7:Int)-0).toNat,(uY a2.Hits.get 0)⟩:(Sl Int)),x8.ai)).T λr3=>cond r3 (k false) (Xw E n0 a0 a1 a2 (aJ (v7+1)) k)))))):=krY
end
theorem o27 [aC](E:E27)(h34:Ok aB 34 (ae.un E.c34))(h86:Ok aB 86 (ae.un E.Zj))(h75:Ok aB 75 (ae.un E.c75))(h87:Ok aB 87 (ae.un E.c87)):Ok aB 27 (ae.un (F27 E)):=dU ((((ax.nil.addF h34).addF h86).addF h75).addF h87)
structure E34 where
 N:Nat
def F34(E:E34):Int->ae Bool:=iR E.N Tabs.nil 34
theorem e34(E:E34){A:Type}(k:Bool→Option A)(a0:Int):(F34 E (a0)).T k=cond (a0==1) (k true) (k (a0==2)):=dS
theorem o34 [aC](E:E34):Ok aB 34 (ae.un (F34 E)):=dU ax.nil
structure E60 where
 N:Nat
 zuf:ak->ae Int
 Hu:Int×Int×Int->ae Bool
def F60(E:E60):ak×bF->ae Int:=iR E.N ((Tabs.nil.addF 122 (ae.un E.zuf)).addF 123 (ae.un E.Hu)) 60
theorem e60(E:E60){A:Type}(k:Int→Option A)(a0:ak)(a1:bF):(F60 E (a0,a1)).T k=(E.zuf a0).T λr1=>cond (r1 != 0) (k 2) ((E.Hu (a1.mO,1,16)).T λr2=>cond (!r2) (k 2) ((E.Hu (a1.o7,0,16)).T λr3=>cond (!r3) (k 2) (k 0))):=dS
theorem o60 [aC](E:E60)(zEo:Ok aB 122 (ae.un E.zuf))(Xx:Ok aB 123 (ae.un E.Hu)):Ok aB 60 (ae.un (F60 E)):=dU ((ax.nil.addF zEo).addF Xx)
structure E61 where
 N:Nat
 uZ:Int×Int×Int->ae Bool
 c124:ai->ae Bool
abbrev G61(E:E61):bK:=gU ((Tabs.nil.addF 73 (ae.un E.uZ)).addF 124 (ae.un E.c124)) []
def A61:dG:=bT aB 61 [] {}
def F61(E:E61):ak->ae Bool:=ae.ty (aF aB E.N (G61 E) A61 61)
section
variable(E:E61){A:Type}(k:Bool->Option A)
def Np(E:E61)(n:Nat)(a0:ak)(v3:Int){A:Type}(k:Bool->Option A):Option A:=gW aB (G61 E) E.N A61 61 [1,1,0,1,0] [.n n] (gV k) ⟨[(1,.cl (.ptr 1 0)),(3,.int v3)],[(1,eB 24 a0)],[]⟩
theorem e61(a0:ak):(F61 E (a0)).T k=(E.uZ ((a0.aj.len:Int),1,16)).T λr1=>cond (!r1) (k false) (Np E E.N a0 0 k):=dS
theorem zvF(n0:Nat)(a0:ak)(v3:Int):Np E (n0+1) a0 v3 k=cond (decide (v3<(a0.aj.len:Int))) (aV (decide (0<=v3/\v3<(a0.aj.len:Int))) ((E.c124 (a0.aj.get v3.toNat)).T λr1=>cond (!r1) (k false) (cond (decide (v3>0)) (aV (decide (0<=v3/\v3<(a0.aj.len:Int))) (aV (decide (0<=(aJ (v3-1))/\(aJ (v3-1))<(a0.aj.len:Int))) (cond (decide ((a0.aj.get v3.toNat).Z<=(a0.aj.get (aJ (v3-1)).toNat).Z)) (k false) (Np E n0 a0 (aJ (v3+1)) k)))) (Np E n0 a0 (aJ (v3+1)) k)))) (k true):=krY
end
theorem o61 [aC](E:E61)(OY:Ok aB 73 (ae.un E.uZ))(zzb:Ok aB 124 (ae.un E.c124)):Ok aB 61 (ae.un (F61 E)):=dU ((ax.nil.addF OY).addF zzb)
structure E62 where
 N:Nat
 Zj:Int×Int×Int->ae Bool
def F62(E:E62):bF->ae Bool:=iR E.N (Tabs.nil.addF 86 (ae.un E.Zj)) 62
theorem e62(E:E62){A:Type}(k:Bool→Option A)(a0:bF):(F62 E (a0)).T k=(E.Zj (a0.mO,1,16)).T λr1=>cond r1 ((E.Zj (a0.o7,0,16)).T λr2=>k r2) (k false):=dS
theorem o62 [aC](E:E62)(h86:Ok aB 86 (ae.un E.Zj)):Ok aB 62 (ae.un (F62 E)):=dU (ax.nil.addF h86)
structure E65 where
 N:Nat
 c75:ak×bg->ae ((Sl au))
abbrev G65(E:E65):bK:=gU (Tabs.nil.addF 75 (ae.un E.c75)) []
def A65:dG:=bT aB 65 [] {ks:=[(1,3,⟨[],[(7,35,101)],[],[],[],[],[]⟩)]}
def F65(E:E65):ak×(Sl bg)×af->ae ((Sl au)):=ae.ty (aF aB E.N (G65 E) A65 65)
section
variable(E:E65){A:Type}(k:(Sl au)->Option A)
def zc7(E:E65)(n:Nat)(a0:ak)(a1:Sl bg)(a2:af)(v8:Int)(w35:Sl au){A:Type}(k:(Sl au)->Option A):Option A:=gW aB (G65 E) E.N A65 65 [1,1,0,1,0] [.n n] (gV k) ⟨[(1,eP a1),(3,.cl (.ptr 3 0)),(5,.cl (.ptr 5 0)),(7,.cl (.vec 35)),(8,.int v8)],[(3,eB 24 a0),(5,eB 43 a2),(35,eV 101 3 24 w35)],[]⟩
theorem e65(a0:ak)(a1:Sl bg)(a2:af):(F65 E (a0,a1,a2)).T k=zc7 E E.N a0 a1 a2 0 (⟨0,(λ_=>(⟨0,0,0⟩:au))⟩:(Sl au)) k:=dS
theorem zvH(n0:Nat)(a0:ak)(a1:Sl bg)(a2:af)(v8:Int)(w35:Sl au):zc7 E (n0+1) a0 a1 a2 v8 w35 k=cond (decide (v8<(a2.Hits.len:Int))) (aV (decide (0<=v8/\v8<(a2.Hits.len:Int))) (aV (decide (0<=a2.Hits.get v8.toNat/\a2.Hits.get v8.toNat<(a1.len:Int))) ((E.c75 (a0,(a1.get (a2.Hits.get v8.toNat).toNat))).T λr1=>aV (decide (0≤v8∧v8<(a2.aU.len:Int))) (aV (decide (0≤a2.aU.get v8.toNat∧a2.aU.get v8.toNat<(r1.len:Int))) (aV (room (w35.len+1) 24) (zc7 E n0 a0 a1 a2 (aJ (v8+1)) (⟨(w35.len+1),(jy w35.len w35.get (fun _=>(r1.get (a2.aU.get v8.toNat).toNat)))⟩:(Sl au)) k)))))) (k w35):=krY
end
theorem o65 [aC](E:E65)(h75:Ok aB 75 (ae.un E.c75)):Ok aB 65 (ae.un (F65 E)):=dU (ax.nil.addF h75)
structure E73 where
 N:Nat
def F73(E:E73):Int×Int×Int->ae Bool:=iR E.N Tabs.nil 73
theorem e73(E:E73){A:Type}(k:Bool→Option A)(a0 a1 a2:Int):(F73 E (a0,a1,a2)).T k=cond (decide (a0>=a1)) (k (decide (a0<=a2))) (k false):=dS
theorem o73 [aC](E:E73):Ok aB 73 (ae.un (F73 E)):=dU ax.nil
structure E75 where
 N:Nat
 zui:ai×Int->ae (Int×Int)
def F75(E:E75):ak×bg->ae ((Sl au)):=iR E.N (Tabs.nil.addF 135 (ae.un E.zui)) 75
theorem e75(E:E75){A:Type}(k:(Sl au)→Option A)(a0:ak)(a1:bg):(F75 E (a0,a1)).T k=aV (decide (0<=a1.ai/\a1.ai<(a0.aj.len:Int))) (cond ((a0.aj.get a1.ai.toNat).Kind != 2) (cond (decide ((aJ ((aJ ((a0.aj.get a1.ai.toNat).First+(aJ ((aJ ((aJ (a1.Channel+a1.kG))-1))*(a0.aj.get a1.ai.toNat).aO))))-(a0.aj.get a1.ai.toNat).dL))>(aJ ((aJ ((a0.aj.get a1.ai.toNat).First+(aJ ((aJ (a1.Channel+1))*(a0.aj.get a1.ai.toNat).aO))))+(a0.aj.get a1.ai.toNat).dL)))) (k (⟨0,λ_=>default⟩:(Sl au))) (k (⟨1,(λ_=>(⟨(a0.aj.get a1.ai.toNat).Z,(aJ ((aJ ((aJ ((a0.aj.get a1.ai.toNat).First+(aJ ((aJ ((aJ (a1.Channel+a1.kG))-1))*(a0.aj.get a1.ai.toNat).aO))))-(a0.aj.get a1.ai.toNat).dL))+(a0.aj.get a1.ai.toNat).bf.Low)),(aJ ((aJ ((aJ ((a0.aj.get a1.ai.toNat).First+(aJ ((aJ (a1.Channel+1))*(a0.aj.get a1.ai.toNat).aO))))+(a0.aj.get a1.ai.toNat).dL))+(a0.aj.get a1.ai.toNat).bf.High))⟩:au))⟩:(Sl au)))) ((E.zui ((a0.aj.get a1.ai.toNat),a1.aT)).T λr1=>cond (decide ((aJ ((aJ ((aJ ((a0.aj.get a1.ai.toNat).First+(aJ (a1.Channel*(a0.aj.get a1.ai.toNat).aO))))-r1.1))+(a0.aj.get a1.ai.toNat).bf.High))>=(aJ ((aJ ((aJ ((a0.aj.get a1.ai.toNat).First+(aJ (a1.Channel*(a0.aj.get a1.ai.toNat).aO))))+r1.1))+(a0.aj.get a1.ai.toNat).bf.Low)))) (k (⟨1,(λ_=>(⟨(a0.aj.get a1.ai.toNat).Z,(aJ ((aJ ((aJ ((a0.aj.get a1.ai.toNat).First+(aJ (a1.Channel*(a0.aj.get a1.ai.toNat).aO))))-r1.2))+(a0.aj.get a1.ai.toNat).bf.Low)),(aJ ((aJ ((aJ ((a0.aj.get a1.ai.toNat).First+(aJ (a1.Channel*(a0.aj.get a1.ai.toNat).aO))))+r1.2))+(a0.aj.get a1.ai.toNat).bf.High))⟩:au))⟩:(Sl au))) (k (⟨2,(gK [(⟨(a0.aj.get a1.ai.toNat).Z,(aJ ((aJ ((aJ ((a0.aj.get a1.ai.toNat).First+(aJ (a1.Channel*(a0.aj.get a1.ai.toNat).aO))))-r1.2))+(a0.aj.get a1.ai.toNat).bf.Low)),(aJ ((aJ ((aJ ((a0.aj.get a1.ai.toNat).First+(aJ (a1.Channel*(a0.aj.get a1.ai.toNat).aO))))-r1.1))+(a0.aj.get a1.ai.toNat).bf.High))⟩:au),(⟨(a0.aj.get a1.ai.toNat).Z,(aJ ((aJ ((aJ ((a0.aj.get a1.ai.toNat).First+(aJ (a1.Channel*(a0.aj.get a1.ai.toNat).aO))))+r1.1))+(a0.aj.get a1.ai.toNat).bf.Low)),(aJ ((aJ ((aJ ((a0.aj.get a1.ai.toNat).First+(aJ (a1.Channel*(a0.aj.get a1.ai.toNat).aO))))+r1.2))+(a0.aj.get a1.ai.toNat).bf.High))⟩:au)])⟩:(Sl au))))):=dS
theorem o75 [aC](E:E75)(zzc:Ok aB 135 (ae.un E.zui)):Ok aB 75 (ae.un (F75 E)):=dU (ax.nil.addF zzc)
structure E85 where
 N:Nat
 c143:ak×bg->ae Bool
abbrev G85(E:E85):bK:=gU (Tabs.nil.addF 143 (ae.un E.c143)) []
def A85:dG:=bT aB 85 [] {}
def F85(E:E85):ak×(Sl bg)->ae Bool:=ae.ty (aF aB E.N (G85 E) A85 85)
section
variable(E:E85){A:Type}(k:Bool->Option A)
def zc8(E:E85)(n:Nat)(a0:ak)(a1:Sl bg)(v5:Int){A:Type}(k:Bool->Option A):Option A:=gW aB (G85 E) E.N A85 85 [1,0,1,0] [.n n] (gV k) ⟨[(1,eP a1),(2,.cl (.ptr 2 0)),(5,.int v5)],[(2,eB 24 a0)],[]⟩
theorem e85(a0:ak)(a1:Sl bg):(F85 E (a0,a1)).T k=zc8 E E.N a0 a1 0 k:=dS
theorem zvI(n0:Nat)(a0:ak)(a1:Sl bg)(v5:Int):zc8 E (n0+1) a0 a1 v5 k=cond (decide (v5<(a1.len:Int))) (aV (decide (0<=v5/\v5<(a1.len:Int))) ((E.c143 (a0,(a1.get v5.toNat))).T λr1=>cond (!r1) (k false) (zc8 E n0 a0 a1 (aJ (v5+1)) k))) (k true):=krY
end
theorem o85 [aC](E:E85)(zzd:Ok aB 143 (ae.un E.c143)):Ok aB 85 (ae.un (F85 E)):=dU (ax.nil.addF zzd)
structure E86 where
 N:Nat
def F86(E:E86):Int×Int×Int->ae Bool:=iR E.N Tabs.nil 86
theorem e86(E:E86){A:Type}(k:Bool→Option A)(a0 a1 a2:Int):(F86 E (a0,a1,a2)).T k=cond (decide (a0>=a1)) (k (decide (a0<=a2))) (k false):=dS
theorem o86 [aC](E:E86):Ok aB 86 (ae.un (F86 E)):=dU ax.nil
structure E87 where
 N:Nat
abbrev G87(E:E87):bK:=gU Tabs.nil []
def A87:dG:=bT aB 87 [] {}
def F87(E:E87):(Sl bg)×(Sl Int)×Int->ae Bool:=ae.ty (aF aB E.N (G87 E) A87 87)
section
variable(E:E87){A:Type}(k:Bool->Option A)
def zc9(E:E87)(n:Nat)(a0:Sl bg)(a1:Sl Int)(a2 v7:Int){A:Type}(k:Bool->Option A):Option A:=gW aB (G87 E) E.N A87 87 [1,0,1,0] [.n n] (gV k) ⟨[(0,eP a0),(1,eP a1),(2,.int a2),(7,.int v7)],[],[]⟩
theorem e87(a0:Sl bg)(a1:Sl Int)(a2:Int):(F87 E (a0,a1,a2)).T k=zc9 E E.N a0 a1 a2 0 k:=dS
theorem zvJ(n0:Nat)(a0:Sl bg)(a1:Sl Int)(a2 v7:Int):zc9 E (n0+1) a0 a1 a2 v7 k=cond (decide (v7<(a1.len:Int))) (aV (decide (0<=v7/\v7<(a1.len:Int))) (aV (decide (0<=a1.get v7.toNat/\a1.get v7.toNat<(a0.len:Int))) (cond ((a0.get (a1.get v7.toNat).toNat).ai==a2) (k true) (zc9 E n0 a0 a1 a2 (aJ (v7+1)) k)))) (k false):=krY
end
theorem o87 [aC](E:E87):Ok aB 87 (ae.un (F87 E)):=dU ax.nil
structure TT where
 N:Nat
 uZ:Int×Int×Int->ae Bool
 Vg:Int->ae Bool
 c175:(Sl aT)×Int->ae Bool
abbrev zjA(E:TT):bK:=gU (((Tabs.nil.addF 73 (ae.un E.uZ)).addF 174 (ae.un E.Vg)).addF 175 (ae.un E.c175)) []
def zjB:dG:=bT aB 124 [] {cut:=[3,5,7]}
def zpE(E:TT):ai->ae Bool:=ae.ty (aF aB E.N (zjA E) zjB 124)
section
variable(E:TT){A:Type}(k:Bool->Option A)
def zaS(E:TT)(a0:ai){A:Type}(k:Bool->Option A):Option A:=gW aB (zjA E) E.N zjB 124 [1,1] [] (gV k) ⟨[(1,.cl (.ptr 1 0))],[(1,eB 124 a0)],[]⟩
def zjC(E:TT)(a0:ai){A:Type}(k:Bool->Option A):Option A:=gW aB (zjA E) E.N zjB 124 [1,1,1] [] (gV k) ⟨[(1,.cl (.ptr 1 0))],[(1,eB 124 a0)],[]⟩
def zjD(E:TT)(a0:ai){A:Type}(k:Bool->Option A):Option A:=gW aB (zjA E) E.N zjB 124 [1,1,1,1] [] (gV k) ⟨[(1,.cl (.ptr 1 0))],[(1,eB 124 a0)],[]⟩
def uH(E:TT)(n:Nat)(a0:ai)(v3:Int){A:Type}(k:Bool->Option A):Option A:=gW aB (zjA E) E.N zjB 124 [1,1,1,1,1,0,1,0] [.n n] (gV k) ⟨[(1,.cl (.ptr 1 0)),(3,.int v3)],[(1,eB 124 a0)],[]⟩
theorem zSk(a0:ai):(zpE E (a0)).T k=cond (decide (a0.Kind<1)) (k false) (cond (decide (a0.Kind>3)) (k false) (cond (a0.View != 1) (cond (a0.View != 2) (k false) ((E.uZ (a0.Z,0,100000)).T λr1=>cond (!r1) (k false) ((E.Vg a0.First).T λr2=>cond (!r2) (k false) ((E.uZ (a0.aO,2,100000)).T λr3=>cond (!r3) (k false) ((E.uZ (a0.bG,1,2000)).T λr4=>cond (!r4) (k false) ((E.uZ (a0.dL,0,100000)).T λr5=>cond (!r5) (k false) (zaS E a0 k))))))) ((E.uZ (a0.Z,0,100000)).T λr6=>cond (!r6) (k false) ((E.Vg a0.First).T λr7=>cond (!r7) (k false) ((E.uZ (a0.aO,2,100000)).T λr8=>cond (!r8) (k false) ((E.uZ (a0.bG,1,2000)).T λr9=>cond (!r9) (k false) ((E.uZ (a0.dL,0,100000)).T λZm=>cond (!Zm) (k false) (zaS E a0 k)))))))):=dS
theorem zze(a0:ai):zaS E a0 k=(E.Vg a0.bf.Low).T λr1=>cond (!r1) (k false) ((E.Vg a0.bf.High).T λr2=>cond (!r2) (k false) (cond (decide (a0.bf.Low>a0.bf.High)) (k false) ((E.uZ (a0.Clock.Low,(-1000000000),1000000000)).T λr3=>cond (!r3) (k false) ((E.uZ (a0.Clock.High,(-1000000000),1000000000)).T λr4=>cond (!r4) (k false) (cond (decide (a0.Clock.Low>a0.Clock.High)) (k false) (zjC E a0 k)))))):=krY
theorem zzf(a0:ai):zjC E a0 k=(E.uZ (a0.dP,0,1000000)).T λr1=>cond (!r1) (k false) ((E.uZ (a0.Least,0,1000000)).T λr2=>cond (!r2) (k false) ((E.Vg (aJ ((aJ ((aJ (a0.First-a0.aO))-a0.dL))+a0.bf.Low))).T λr3=>cond (!r3) (k false) ((E.Vg (aJ ((aJ ((aJ (a0.First+(aJ ((aJ (a0.bG+1))*a0.aO))))+a0.dL))+a0.bf.High))).T λr4=>cond (!r4) (k false) (zjD E a0 k)))):=krY
theorem zzg(a0:ai):zjD E a0 k=cond (a0.Kind==2) ((E.c175 (a0.aT,a0.aO)).T λr1=>cond (!r1) (k false) (cond (a0.Kind != 2) (cond (decide ((a0.aT.len:Int)>0)) (k false) (cond (decide ((a0.Dead.len:Int)>100)) (k false) (uH E E.N a0 0 k))) (cond (decide ((a0.Dead.len:Int)>100)) (k false) (uH E E.N a0 0 k)))) (cond (a0.Kind != 2) (cond (decide ((a0.aT.len:Int)>0)) (k false) (cond (decide ((a0.Dead.len:Int)>100)) (k false) (uH E E.N a0 0 k))) (cond (decide ((a0.Dead.len:Int)>100)) (k false) (uH E E.N a0 0 k))):=krY
theorem zjE(n0:Nat)(a0:ai)(v3:Int):uH E (n0+1) a0 v3 k=cond (decide (v3<(a0.Dead.len:Int))) (aV (decide (0<=v3/\v3<(a0.Dead.len:Int))) ((E.uZ (a0.Dead.get v3.toNat,0,(aJ (a0.bG-1)))).T λr1=>cond (!r1) (k false) (cond (decide (v3>0)) (aV (decide (0<=v3/\v3<(a0.Dead.len:Int))) (aV (decide (0<=(aJ (v3-1))/\(aJ (v3-1))<(a0.Dead.len:Int))) (cond (decide (a0.Dead.get v3.toNat<=a0.Dead.get (aJ (v3-1)).toNat)) (k false) (uH E n0 a0 (aJ (v3+1)) k)))) (uH E n0 a0 (aJ (v3+1)) k)))) (k true):=krY
end
theorem zSl [aC](E:TT)(OY:Ok aB 73 (ae.un E.uZ))(zzh:Ok aB 174 (ae.un E.Vg))(zzi:Ok aB 175 (ae.un E.c175)):Ok aB 124 (ae.un (zpE E)):=dU (((ax.nil.addF OY).addF zzh).addF zzi)
structure zaT where
 N:Nat
abbrev zzj(E:zaT):bK:=gU Tabs.nil []
def zzk:dG:=bT aB 135 [] {}
def zpF(E:zaT):ai×Int->ae (Int×Int):=ae.ty (aF aB E.N (zzj E) zzk 135)
section
variable(E:zaT){A:Type}(k:(Int×Int)->Option A)
def Nq(E:zaT)(n:Nat)(a0:ai)(a1 v6 v7 v8:Int){A:Type}(k:(Int×Int)->Option A):Option A:=gW aB (zzj E) E.N zzk 135 [1,1,0,1,0] [.n n] (gV k) ⟨[(1,.int a1),(2,.cl (.ptr 2 0)),(6,.int v6),(7,.int v7),(8,.int v8)],[(2,eB 124 a0)],[]⟩
def Nr(E:zaT)(n:Nat)(a0:ai)(a1 v6 v7 v9:Int){A:Type}(k:(Int×Int)->Option A):Option A:=gW aB (zzj E) E.N zzk 135 [1,1,1,0,1,0] [.n n] (gV k) ⟨[(1,.int a1),(2,.cl (.ptr 2 0)),(6,.int v6),(7,.int v7),(9,.int v9)],[(2,eB 124 a0)],[]⟩
theorem zSm(a0:ai)(a1:Int):(zpF E (a0,a1)).T k=Nq E E.N a0 a1 0 (aJ (a0.aO.tdiv 2)) 0 k:=dS
theorem zjF(n0:Nat)(a0:ai)(a1 v6 v7 v8:Int):Nq E (n0+1) a0 a1 v6 v7 v8 k=cond (decide (v8<(a0.aT.len:Int))) (aV (decide (0<=v8/\v8<(a0.aT.len:Int))) (cond (decide ((a0.aT.get v8.toNat).Time<=(aJ (a1-a0.dP)))) (aV (decide (0<=v8/\v8<(a0.aT.len:Int))) (Nq E n0 a0 a1 (a0.aT.get v8.toNat).dV.Low v7 (aJ (v8+1)) k)) (Nq E n0 a0 a1 v6 v7 (aJ (v8+1)) k))) (Nr E E.N a0 a1 v6 v7 (aJ ((a0.aT.len:Int)-1)) k):=krY
theorem zjG(n0:Nat)(a0:ai)(a1 v6 v7 v9:Int):Nr E (n0+1) a0 a1 v6 v7 v9 k=cond (decide (v9>=0)) (aV (decide (0<=v9/\v9<(a0.aT.len:Int))) (cond (decide ((a0.aT.get v9.toNat).Time>=(aJ (a1+a0.dP)))) (aV (decide (0<=v9/\v9<(a0.aT.len:Int))) (Nr E n0 a0 a1 v6 (a0.aT.get v9.toNat).dV.High (aJ (v9-1)) k)) (Nr E n0 a0 a1 v6 v7 (aJ (v9-1)) k))) (k (v6,v7)):=krY
end
theorem zSn [aC](E:zaT):Ok aB 135 (ae.un (zpF E)):=dU ax.nil
structure zfi where
 N:Nat
abbrev zHW(E:zfi):bK:=gU Tabs.nil []
def zHX:dG:=bT aB 137 [] {}
def zpG(E:zfi):ai×Int->ae Bool:=ae.ty (aF aB E.N (zHW E) zHX 137)
section
variable(E:zfi){A:Type}(k:Bool->Option A)
def Ns(E:zfi)(n:Nat)(a0:ai)(a1 v5:Int){A:Type}(k:Bool->Option A):Option A:=gW aB (zHW E) E.N zHX 137 [1,0,1,0] [.n n] (gV k) ⟨[(1,.int a1),(2,.cl (.ptr 2 0)),(5,.int v5)],[(2,eB 124 a0)],[]⟩
theorem e137(a0:ai)(a1:Int):(zpG E (a0,a1)).T k=Ns E E.N a0 a1 0 k:=dS
theorem zjH(n0:Nat)(a0:ai)(a1 v5:Int):Ns E (n0+1) a0 a1 v5 k=cond (decide (v5<(a0.Dead.len:Int))) (aV (decide (0<=v5/\v5<(a0.Dead.len:Int))) (cond (a0.Dead.get v5.toNat==a1) (k true) (Ns E n0 a0 a1 (aJ (v5+1)) k))) (k false):=krY
end
theorem zSo [aC](E:zfi):Ok aB 137 (ae.un (zpG E)):=dU ax.nil
structure zfj where
 N:Nat
 uZ:Int×Int×Int->ae Bool
 PI:ai×Int->ae Bool
abbrev zHY(E:zfj):bK:=gU ((Tabs.nil.addF 73 (ae.un E.uZ)).addF 137 (ae.un E.PI)) []
def zHZ:dG:=bT aB 143 [] {}
def zpH(E:zfj):ak×bg->ae Bool:=ae.ty (aF aB E.N (zHY E) zHZ 143)
section
variable(E:zfj){A:Type}(k:Bool->Option A)
def TU(E:zfj)(n:Nat)(a0:ak)(a1:bg)(v6:Int){A:Type}(k:Bool->Option A):Option A:=gW aB (zHY E) E.N zHZ 143 [1,1,1,1,0,1,0] [.n n] (gV k) ⟨[(3,.cl (.ptr 3 0)),(5,.cl (.ptr 5 0)),(6,.int v6)],[(3,eB 92 a1),(5,eB 124 (a0.aj.get a1.ai.toNat))],[]⟩
theorem e143(a0:ak)(a1:bg):(zpH E (a0,a1)).T k=(E.uZ (a1.ai,0,(aJ ((a0.aj.len:Int)-1)))).T λr1=>cond (!r1) (k false) (aV (decide (0<=a1.ai/\a1.ai<(a0.aj.len:Int))) ((E.uZ (a1.Channel,0,(aJ ((a0.aj.get a1.ai.toNat).bG-1)))).T λr2=>cond (!r2) (k false) ((E.uZ (a1.kG,1,(aJ ((a0.aj.get a1.ai.toNat).bG-a1.Channel)))).T λr3=>cond (!r3) (k false) ((E.uZ (a1.CS,(a0.aj.get a1.ai.toNat).Least,1000000)).T λr4=>cond (!r4) (k false) ((E.uZ (a1.Time,(-1000000000),1000000000)).T λr5=>cond (!r5) (k false) (TU E E.N a0 a1 0 k)))))):=dS
theorem zjI(n0:Nat)(a0:ak)(a1:bg)(v6:Int):TU E (n0+1) a0 a1 v6 k=cond (decide (v6<a1.kG)) ((E.PI ((a0.aj.get a1.ai.toNat),(aJ (a1.Channel+v6)))).T λr1=>cond r1 (k false) (TU E n0 a0 a1 (aJ (v6+1)) k)) (cond ((a0.aj.get a1.ai.toNat).Kind==2) (cond (a1.kG==1) ((E.uZ (a1.aT,0,1000000)).T λr2=>k r2) (k false)) (cond ((a0.aj.get a1.ai.toNat).Kind==3) (cond (a1.aT==0) (k (a1.Time==0)) (k false)) (k (a1.aT==0)))):=krY
end
theorem zSp [aC](E:zfj)(OY:Ok aB 73 (ae.un E.uZ))(zaU:Ok aB 137 (ae.un E.PI)):Ok aB 143 (ae.un (zpH E)):=dU ((ax.nil.addF OY).addF zaU)
structure zpI where
 N:Nat
 uZ:Int×Int×Int->ae Bool
def zpJ(E:zpI):Int->ae Bool:=iR E.N (Tabs.nil.addF 73 (ae.un E.uZ)) 174
theorem zSq(E:zpI){A:Type}(k:Bool→Option A)(a0:Int):(zpJ E (a0)).T k=(E.uZ (a0,(-1000000),1000000)).T λr1=>k r1:=dS
theorem zSr [aC](E:zpI)(OY:Ok aB 73 (ae.un E.uZ)):Ok aB 174 (ae.un (zpJ E)):=dU (ax.nil.addF OY)
structure zfk where
 N:Nat
 uZ:Int×Int×Int->ae Bool
abbrev zH0(E:zfk):bK:=gU (Tabs.nil.addF 73 (ae.un E.uZ)) []
def zH1:dG:=bT aB 175 [] {}
def zpK(E:zfk):(Sl aT)×Int->ae Bool:=ae.ty (aF aB E.N (zH0 E) zH1 175)
section
variable(E:zfk){A:Type}(k:Bool->Option A)
def GU(E:zfk)(n:Nat)(a0:Sl aT)(a1 v5:Int){A:Type}(k:Bool->Option A):Option A:=gW aB (zH0 E) E.N zH1 175 [1,0,1,0] [.n n] (gV k) ⟨[(0,eP a0),(1,.int a1),(5,.int v5)],[],[]⟩
theorem zSs(a0:Sl aT)(a1:Int):(zpK E (a0,a1)).T k=GU E E.N a0 a1 0 k:=dS
theorem zjJ(n0:Nat)(a0:Sl aT)(a1 v5:Int):GU E (n0+1) a0 a1 v5 k=cond (decide (v5<(a0.len:Int))) (aV (decide (0<=v5/\v5<(a0.len:Int))) ((E.uZ ((a0.get v5.toNat).Time,0,1000000)).T λr1=>cond (!r1) (k false) (cond (decide ((a0.get v5.toNat).dV.Low<0)) (k false) (cond (decide ((a0.get v5.toNat).dV.Low>(a0.get v5.toNat).dV.High)) (k false) (cond (decide ((a0.get v5.toNat).dV.High>(aJ (a1.tdiv 2)))) (k false) (cond (decide (v5>0)) (aV (decide (0<=(aJ (v5-1))/\(aJ (v5-1))<(a0.len:Int))) (cond (decide ((a0.get v5.toNat).Time<=(a0.get (aJ (v5-1)).toNat).Time)) (k false) (aV (decide (0<=(aJ (v5-1))/\(aJ (v5-1))<(a0.len:Int))) (cond (decide ((a0.get v5.toNat).dV.Low<(a0.get (aJ (v5-1)).toNat).dV.Low)) (k false) (aV (decide (0<=(aJ (v5-1))/\(aJ (v5-1))<(a0.len:Int))) (cond (decide ((a0.get v5.toNat).dV.High<(a0.get (aJ (v5-1)).toNat).dV.High)) (k false) (GU E n0 a0 a1 (aJ (v5+1)) k))))))) (GU E n0 a0 a1 (aJ (v5+1)) k))))))) ((E.uZ ((a0.len:Int),1,50)).T λr2=>k r2):=krY
end
theorem zSt [aC](E:zfk)(OY:Ok aB 73 (ae.un E.uZ)):Ok aB 175 (ae.un (zpK E)):=dU (ax.nil.addF OY)
structure E78 where
 N:Nat
 c60:ak×bF->ae Int
 c138:ak×bg->ae Int
 c139:ak×bg->ae ((Sl au)×Int)
abbrev G78(E:E78):bK:=gU (((Tabs.nil.addF 60 (ae.un E.c60)).addF 138 (ae.un E.c138)).addF 139 (ae.un E.c139)) []
def A78:dG:=bT aB 78 [] {ks:=[(1,7,⟨[],[],[(24,2,55,96)],[],[],[],[]⟩)],cut:=[14]}
def F78(E:E78):ak×bF×(Sl bg)->ae (Int ⊕ ((Pt aS)×Int)):=ae.tyA (aF aB E.N (G78 E) A78 78)
section
variable(E:E78){A:Type}(k:(Int ⊕ ((Pt aS)×Int))->Option A)
def Xy(E:E78)(n:Nat)(a0:ak)(a1:bF)(a2:Sl bg)(I4:Int)(w55:Sl (Sl au)){A:Type}(k:(Int ⊕ ((Pt aS)×Int))->Option A):Option A:=gW aB (G78 E) E.N A78 78 [1,1,1,1,0,1,0] [.n n] (zjd k) ⟨[(3,.cl (.ptr 3 0)),(8,.cl (.ptr 24 0)),(25,eP a2),(26,.int (a2.len:Int)),(27,.int I4)],[(3,eB 24 a0),(24,.box 208 [.p (.sl a0.aj.len 15 (λi=>bI.enc (a0.aj.get i))),.p (.sl a2.len 6 (λi=>bI.enc (a2.get i))),.vec 55,.p (.int .i64 a1.mO),.p (.int .i64 a1.o7)]),(55,eV 96 1 24 w55)],[]⟩
def Xz(E:E78)(n0:Nat)(a0:ak)(a1:bF)(a2:Sl bg)(v11:Sl au)(I4:Int)(w55:Sl (Sl au)){A:Type}(k:(Int ⊕ ((Pt aS)×Int))->Option A):Option A:=gW aB (G78 E) E.N A78 78 [1,1,1,1,0,1,0,0,1,1,0,0,1,1,1,1] [.n n0] (zjd k) ⟨[(3,.cl (.ptr 3 0)),(8,.cl (.ptr 24 0)),(11,eP v11),(25,eP a2),(26,.int (a2.len:Int)),(27,.int I4)],[(3,eB 24 a0),(24,.box 208 [.p (.sl a0.aj.len 15 (λi=>bI.enc (a0.aj.get i))),.p (.sl a2.len 6 (λi=>bI.enc (a2.get i))),.vec 55,.p (.int .i64 a1.mO),.p (.int .i64 a1.o7)]),(55,eV 96 1 24 w55)],[]⟩
theorem e78(a0:ak)(a1:bF)(a2:Sl bg):(F78 E (a0,a1,a2)).T k=cond (decide ((a2.len:Int)>24)) (k (.inl 3)) ((E.c60 (a0,a1)).T λr1=>cond (r1 != 0) (k (.inl 2)) (Xy E E.N a0 a1 a2 0 (⟨0,(λ_=>(⟨0,(λ_=>(⟨0,0,0⟩:au))⟩:(Sl au)))⟩:(Sl (Sl au))) k)):=zvs.trans krY
theorem zvK(n0:Nat)(a0:ak)(a1:bF)(a2:Sl bg)(I4:Int)(w55:Sl (Sl au)):Xy E (n0+1) a0 a1 a2 I4 w55 k=cond (decide (I4<(a2.len:Int))) (aV (decide (0<=I4/\I4<(a2.len:Int))) ((E.c138 (a0,(a2.get I4.toNat))).T λr1=>cond (r1 != 0) (k (.inl 2)) ((E.c139 (a0,(a2.get I4.toNat))).T λr2=>cond (r2.2 != 0) (cond (r2.2 != 5) (k (.inl r2.2)) (Xz E n0 a0 a1 a2 r2.1 I4 w55 k)) (Xz E n0 a0 a1 a2 r2.1 I4 w55 k)))) (k (.inr ((⟨(⟨a0,a2,w55,a1⟩:aS)⟩:(Pt aS)),0))):=krY
theorem zH2(n0:Nat)(a0:ak)(a1:bF)(a2:Sl bg)(v11:Sl au)(I4:Int)(w55:Sl (Sl au)):Xz E n0 a0 a1 a2 v11 I4 w55 k=aV (room (w55.len+1) 24) (Xy E n0 a0 a1 a2 (aJ (I4+1)) (⟨(w55.len+1),(jy w55.len w55.get (λ_=>v11))⟩:(Sl (Sl au))) k):=krY
end
theorem o78 [aC](E:E78)(h60:Ok aB 60 (ae.un E.c60))(zzm:Ok aB 138 (ae.un E.c138))(zzn:Ok aB 139 (ae.un E.c139)):Ok aB 78 (ae.unA (F78 E)):=zje (xq (((ax.nil.addF h60).addF zzm).addF zzn) (dJ krY))
structure E79 where
 N:Nat
 Hu:Int×Int×Int->ae Bool
 Ji:(Pt aS)×Int->ae Int
 c96:Int->ae Bool
abbrev G79(E:E79):bK:=gU (((Tabs.nil.addF 123 (ae.un E.Hu)).addF 140 (ae.un E.Ji)).addF 96 (ae.un E.c96)) [8]
def A79:dG:=bT aB 79 [] {cut:=[7]}
def F79(E:E79):(Pt aS)×af->ae Bool:=ae.ty (aF aB E.N (G79 E) A79 79)
section
variable(E:E79){A:Type}(k:Bool->Option A)
def QO(E:E79)(n:Nat)(a0:Pt aS)(a1:af)(v12:Int)(mn8:Nat)(mf8:List Int->Option (List Int)){A:Type}(k:Bool->Option A):Option A:=gW aB (G79 E) E.N A79 79 [1,1,0,1,0] [.n n] (gV k) ⟨[(0,eP a0),(3,.cl (.ptr 3 0)),(5,.cl (.mo 8)),(10,eP a1.Hits),(11,.int (a1.Hits.len:Int)),(12,.int v12)],[(3,eB 43 a1),(8,.mo 3 4 (.one,1,false,[none]) mn8 mf8)],[]⟩
def XB(E:E79)(n0:Nat)(a0:Pt aS)(a1:af)(v7 v12:Int)(mn8:Nat)(mf8:List Int->Option (List Int)){A:Type}(k:Bool->Option A):Option A:=gW aB (G79 E) E.N A79 79 [1,1,0,1,0,0,1,1,0,0,1,1] [.n n0] (gV k) ⟨[(0,eP a0),(3,.cl (.ptr 3 0)),(5,.cl (.mo 8)),(7,.int v7),(10,eP a1.Hits),(11,.int (a1.Hits.len:Int)),(12,.int v12)],[(3,eB 43 a1),(8,.mo 3 4 (.one,1,false,[none]) mn8 mf8)],[]⟩
theorem e79(a0:Pt aS)(a1:af):(F79 E (a0,a1)).T k=QO E E.N a0 a1 0 0 (λ_=>none) k:=dS
theorem zvL(n0:Nat)(a0:Pt aS)(a1:af)(v12:Int)(mn8:Nat)(mf8:List Int→Option (List Int)):QO E (n0+1) a0 a1 v12 mn8 mf8 k=cond (decide (v12<(a1.Hits.len:Int))) (aV (decide (0<=v12/\v12<(a1.Hits.len:Int))) ((E.Hu (a1.Hits.get v12.toNat,0,(aJ ((a0.v.hits.len:Int)-1)))).T λr1=>cond (!r1) (k false) (cond (decide (v12>0)) (aV (decide (0<=(aJ (v12-1))/\(aJ (v12-1))<(a1.Hits.len:Int))) (cond (decide (a1.Hits.get v12.toNat<=a1.Hits.get (aJ (v12-1)).toNat)) (k false) ((E.Ji (a0,a1.Hits.get v12.toNat)).T λr2=>cond (r2 != a1.View) (k false) (aV (decide (0<=a1.Hits.get v12.toNat/\a1.Hits.get v12.toNat<(a0.v.hits.len:Int))) (cond (yL (mf8 [(a0.v.hits.get (a1.Hits.get v12.toNat).toNat).ai]) 0 != 0) (k false) (cond (decide (v12>=(a1.aU.len:Int))) (k false) (aV (decide (0<=v12/\v12<(a1.aU.len:Int))) (aV (decide (0<=a1.Hits.get v12.toNat/\a1.Hits.get v12.toNat<(a0.v.jr.len:Int))) ((E.Hu (a1.aU.get v12.toNat,0,(aJ (((a0.v.jr.get (a1.Hits.get v12.toNat).toNat).len:Int)-1)))).T λr3=>cond (!r3) (k false) (XB E n0 a0 a1 (a1.Hits.get v12.toNat) v12 mn8 mf8 k)))))))))) ((E.Ji (a0,a1.Hits.get v12.toNat)).T λr4=>cond (r4 != a1.View) (k false) (aV (decide (0<=a1.Hits.get v12.toNat/\a1.Hits.get v12.toNat<(a0.v.hits.len:Int))) (cond (yL (mf8 [(a0.v.hits.get (a1.Hits.get v12.toNat).toNat).ai]) 0 != 0) (k false) (cond (decide (v12>=(a1.aU.len:Int))) (k false) (aV (decide (0<=v12/\v12<(a1.aU.len:Int))) (aV (decide (0<=a1.Hits.get v12.toNat/\a1.Hits.get v12.toNat<(a0.v.jr.len:Int))) ((E.Hu (a1.aU.get v12.toNat,0,(aJ (((a0.v.jr.get (a1.Hits.get v12.toNat).toNat).len:Int)-1)))).T λr5=>cond (!r5) (k false) (XB E n0 a0 a1 (a1.Hits.get v12.toNat) v12 mn8 mf8 k))))))))))) ((E.c96 a1.View).T λr6=>cond r6 (cond (decide ((a1.Hits.len:Int)>0)) (k ((a1.aU.len:Int)==(a1.Hits.len:Int))) (k false)) (k false)):=krY
theorem zH3(n0:Nat)(a0:Pt aS)(a1:af)(v7 v12:Int)(mn8:Nat)(mf8:List Int→Option (List Int)):XB E n0 a0 a1 v7 v12 mn8 mf8 k=aV (decide (0<=v7/\v7<(a0.v.hits.len:Int))) (QO E n0 a0 a1 (aJ (v12+1)) (addN (mf8 [(a0.v.hits.get v7.toNat).ai]) mn8) (Di [(a0.v.hits.get v7.toNat).ai] [1] mf8) k):=krY
end
theorem o79 [aC](E:E79)(Xx:Ok aB 123 (ae.un E.Hu))(zaV:Ok aB 140 (ae.un E.Ji))(h96:Ok aB 96 (ae.un E.c96)):Ok aB 79 (ae.un (F79 E)):=dU (((ax.nil.addF Xx).addF zaV).addF h96)
structure E96 where
 N:Nat
def F96(E:E96):Int->ae Bool:=iR E.N Tabs.nil 96
theorem e96(E:E96){A:Type}(k:Bool→Option A)(a0:Int):(F96 E (a0)).T k=cond (a0==1) (k true) (k (a0==2)):=dS
theorem o96 [aC](E:E96):Ok aB 96 (ae.un (F96 E)):=dU ax.nil
structure zfm where
 N:Nat
abbrev zH4(E:zfm):bK:=gU Tabs.nil []
def zH5:dG:=bT aB 105 [] {ks:=[(1,3,⟨[],[(5,32,101)],[],[],[],[],[]⟩)]}
def zpL(E:zfm):(Pt aS)×af->ae ((Sl au)):=ae.ty (aF aB E.N (zH4 E) zH5 105)
section
variable(E:zfm){A:Type}(k:(Sl au)->Option A)
def TV(E:zfm)(n:Nat)(a0:Pt aS)(a1:af)(v11:Int)(w32:Sl au){A:Type}(k:(Sl au)->Option A):Option A:=gW aB (zH4 E) E.N zH5 105 [1,1,0,1,0] [.n n] (gV k) ⟨[(0,eP a0),(3,.cl (.ptr 3 0)),(5,.cl (.vec 32)),(9,eP a1.Hits),(10,.int (a1.Hits.len:Int)),(11,.int v11)],[(3,eB 43 a1),(32,eV 101 3 24 w32)],[]⟩
theorem zSz(a0:Pt aS)(a1:af):(zpL E (a0,a1)).T k=TV E E.N a0 a1 0 (⟨0,(λ_=>(⟨0,0,0⟩:au))⟩:(Sl au)) k:=dS
theorem zjK(n0:Nat)(a0:Pt aS)(a1:af)(v11:Int)(w32:Sl au):TV E (n0+1) a0 a1 v11 w32 k=cond (decide (v11<(a1.Hits.len:Int))) (aV (decide (0<=v11/\v11<(a1.Hits.len:Int))) (aV (decide (0<=a1.Hits.get v11.toNat/\a1.Hits.get v11.toNat<(a0.v.jr.len:Int))) (aV (decide (0<=v11/\v11<(a1.aU.len:Int))) (aV (decide (0<=a1.aU.get v11.toNat/\a1.aU.get v11.toNat<((a0.v.jr.get (a1.Hits.get v11.toNat).toNat).len:Int))) (aV (room (w32.len+1) 24) (TV E n0 a0 a1 (aJ (v11+1)) (⟨(w32.len+1),(jy w32.len w32.get (λ_=>((a0.v.jr.get (a1.Hits.get v11.toNat).toNat).get (a1.aU.get v11.toNat).toNat)))⟩:(Sl au)) k)))))) (k w32):=krY
end
theorem zSA [aC](E:zfm):Ok aB 105 (ae.un (zpL E)):=dU ax.nil
structure XD where
 N:Nat
 Ji:(Pt aS)×Int->ae Int
abbrev zzp(E:XD):bK:=gU (Tabs.nil.addF 140 (ae.un E.Ji)) []
def zzq:dG:=bT aB 173 [0] {yl:=[7]}
def zH6(E:XD)(c:List PA):YO:=aI aB (zzp E) E.N zzq 173 c
def zzr(E:XD):(Pt Int)×(Pt (Pt aS))×(Pt Int)->ae (List (Int×Int)):=ae.tyI λc=>.opt (zH6 E c)
section
variable(E:XD)
def Nu(E:XD)(n:Nat)(a2:(Pt (Pt aS)))(a3:Pt Int)(v5:Int):YO:=ptY aB (zzp E) E.N zzq 173 [1,0] [n] ⟨[(0,.cl (.vec 4095)),(2,eP a2),(3,eP a3),(5,.int v5)],[(4095,.gone)],[]⟩
def Nv(E:XD)(n0 n:Nat)(a2:(Pt (Pt aS)))(a3:Pt Int)(v5 v29 v30:Int):YO:=ptY aB (zzp E) E.N zzq 173 [1,0,0,1,0,0,1,1,0] [n0,n] ⟨[(0,.cl (.vec 4095)),(2,eP a2),(3,eP a3),(5,.int v5),(29,.int v29),(30,.int v30)],[(4095,.gone)],[]⟩
theorem zSB(a1:Pt Int)(a2:(Pt (Pt aS)))(a3:Pt Int):zH6 E (dF.enc ((a1,a2,a3):(Pt Int)×(Pt (Pt aS))×(Pt Int)))=Nu E E.N a2 a3 a1.v:=krY
theorem zjL(n0:Nat)(a2:(Pt (Pt aS)))(a3:Pt Int)(v5:Int):Nu E (n0+1) a2 a3 v5=cond (decide (v5<(a2.v.v.hits.len:Int))) ((E.Ji (a2.v,v5)).T λr1=>cond (r1 != a3.v) (Nu E n0 a2 a3 (aJ (v5+1))) (aV (decide (0≤v5∧v5<(a2.v.v.jr.len:Int))) (Nv E n0 E.N a2 a3 v5 ((a2.v.v.jr.get v5.toNat).len:Int) 0))) (some []):=krY
theorem zjM(n0 n1:Nat)(a2:(Pt (Pt aS)))(a3:Pt Int)(v5 v29 v30:Int):Nv E n0 (n1+1) a2 a3 v5 v29 v30=cond (decide (v30<v29)) (yT (dF.enc ((v5,v30):Int×Int)) (some []) (Nv E n0 n1 a2 a3 v5 v29 (aJ (v30+1)))) (Nu E n0 a2 a3 (aJ (v5+1))):=krY
end
theorem zSC(E:XD)(zaV:Ok aB 140 (ae.un E.Ji)):AL aB 173 (ae.unI (zzr E)):=TP (Nh (ax.nil.addF zaV) (dJ krY))
structure zpM where
 N:Nat
def zpN(E:zpM):(Pt aS)×Int->ae Int:=iR E.N Tabs.nil 140
theorem zSD(E:zpM){A:Type}(k:Int→Option A)(a0:Pt aS)(a1:Int):(zpN E (a0,a1)).T k=aV (decide (0<=a1/\a1<(a0.v.hits.len:Int))) (aV (decide (0<=(a0.v.hits.get a1.toNat).ai/\(a0.v.hits.get a1.toNat).ai<(a0.v.ak.aj.len:Int))) (k (a0.v.ak.aj.get (a0.v.hits.get a1.toNat).ai.toNat).View)):=dS
theorem zSE [aC](E:zpM):Ok aB 140 (ae.un (zpN E)):=dU ax.nil
structure zpO where
 N:Nat
 c160:ak->ae Bool
def zpP(E:zpO):ak->ae Int:=iR E.N (Tabs.nil.addF 160 (ae.un E.c160)) 122
theorem zSF(E:zpO){A:Type}(k:Int→Option A)(a0:ak):(zpP E (a0)).T k=(E.c160 a0).T λr1=>cond (!r1) (k 2) (k 0):=dS
theorem zSG [aC](E:zpO)(BR:Ok aB 160 (ae.un E.c160)):Ok aB 122 (ae.un (zpP E)):=dU (ax.nil.addF BR)
structure zpQ where
 N:Nat
def zpR(E:zpQ):Int×Int×Int->ae Bool:=iR E.N Tabs.nil 123
theorem zSH(E:zpQ){A:Type}(k:Bool→Option A)(a0 a1 a2:Int):(zpR E (a0,a1,a2)).T k=cond (decide (a0>=a1)) (k (decide (a0<=a2))) (k false):=dS
theorem zSI [aC](E:zpQ):Ok aB 123 (ae.un (zpR E)):=dU ax.nil
structure zpS where
 N:Nat
 Vh:ak×bg->ae Bool
def zpT(E:zpS):ak×bg->ae Int:=iR E.N (Tabs.nil.addF 188 (ae.un E.Vh)) 138
theorem e138(E:zpS){A:Type}(k:Int→Option A)(a0:ak)(a1:bg):(zpT E (a0,a1)).T k=(E.Vh (a0,a1)).T λr1=>cond (!r1) (k 2) (k 0):=dS
theorem zSJ [aC](E:zpS)(zaW:Ok aB 188 (ae.un E.Vh)):Ok aB 138 (ae.un (zpT E)):=dU (ax.nil.addF zaW)
structure zpU where
 N:Nat
 Vh:ak×bg->ae Bool
 uP:ak×bg->ae (placed×Bool)
 zus:placed×bg->ae ((Sl au))
def zpV(E:zpU):ak×bg->ae ((Sl au)×Int):=iR E.N (((Tabs.nil.addF 188 (ae.un E.Vh)).addF 112 (ae.un E.uP)).addF 189 (ae.un E.zus)) 139
theorem zSK(E:zpU){A:Type}(k:((Sl au)×Int)→Option A)(a0:ak)(a1:bg):(zpV E (a0,a1)).T k=(E.Vh (a0,a1)).T λr1=>cond (!r1) (k ((⟨0,λ_=>default⟩:(Sl au)),2)) ((E.uP (a0,a1)).T λr2=>(E.zus (r2.1,a1)).T λr3=>cond ((r3.len:Int)==0) (k ((⟨0,λ_=>default⟩:(Sl au)),5)) (k (r3,0))):=dS
theorem zSL [aC](E:zpU)(zaW:Ok aB 188 (ae.un E.Vh))(AV:Ok aB 112 (ae.un E.uP))(zzs:Ok aB 189 (ae.un E.zus)):Ok aB 139 (ae.un (zpV E)):=dU (((ax.nil.addF zaW).addF AV).addF zzs)
structure zfn where
 N:Nat
 iJ:Int×Int×Int->ae Bool
abbrev zH7(E:zfn):bK:=gU (Tabs.nil.addF 161 (ae.un E.iJ)) []
def zH8:dG:=bT aB 112 [] {}
def zpW(E:zfn):ak×bg->ae (placed×Bool):=ae.ty (aF aB E.N (zH7 E) zH8 112)
section
variable(E:zfn){A:Type}(k:(placed×Bool)->Option A)
def TW(E:zfn)(n:Nat)(a0:ak)(a1:bg)(v67:Int){A:Type}(k:(placed×Bool)->Option A):Option A:=gW aB (zH7 E) E.N zH8 112 [1,1,1,1,0,1,0] [.n n] (gV k) ⟨[(3,.cl (.ptr 3 0)),(4,.cl (.ptr 4 0)),(6,.cl (.ptr 6 0)),(65,eP (a0.aj.get a1.ai.toNat).Dead),(66,.int ((a0.aj.get a1.ai.toNat).Dead.len:Int)),(67,.int v67)],[(3,eB 92 a1),(4,.box 185 [.p (.int .i64 0),.p (.int .i64 0),.p (.int .i64 0),.p (.int .i64 0),.p (.int .i64 0),.p (.int .i64 0),.p (.int .i64 0),.p (.int .i64 0),.p (.int .i64 0),.p (.int .i64 0),.p (.int .i64 0),.p (.int .i64 0),.p (.int .i64 0),.p (.nils),.p (.nils),.p (.int .i64 0)]),(6,.box 185 [.p (.int .i64 (a0.aj.get a1.ai.toNat).Kind),.p (.int .i64 (a0.aj.get a1.ai.toNat).View),.p (.int .i64 (a0.aj.get a1.ai.toNat).Z),.p (.int .i64 (a0.aj.get a1.ai.toNat).First),.p (.int .i64 (a0.aj.get a1.ai.toNat).aO),.p (.int .i64 (a0.aj.get a1.ai.toNat).bG),.p (.int .i64 (a0.aj.get a1.ai.toNat).dL),.p (.int .i64 (a0.aj.get a1.ai.toNat).bf.Low),.p (.int .i64 (a0.aj.get a1.ai.toNat).bf.High),.p (.int .i64 (a0.aj.get a1.ai.toNat).Clock.Low),.p (.int .i64 (a0.aj.get a1.ai.toNat).Clock.High),.p (.int .i64 (a0.aj.get a1.ai.toNat).dP),.p (.int .i64 (a0.aj.get a1.ai.toNat).Least),.p (.sl (a0.aj.get a1.ai.toNat).aT.len 3 (λi=>bI.enc ((a0.aj.get a1.ai.toNat).aT.get i))),.p (.sl (a0.aj.get a1.ai.toNat).Dead.len 1 (λi=>bI.enc ((a0.aj.get a1.ai.toNat).Dead.get i))),.p (.int .i64 a1.ai)])],[]⟩
theorem zSM(a0:ak)(a1:bg):(zpW E (a0,a1)).T k=(E.iJ (a1.ai,0,(aJ ((a0.aj.len:Int)-1)))).T λr1=>cond (!r1) (k ((⟨(⟨0,0,0,0,0,0,0,(⟨0,0⟩:bY),(⟨0,0⟩:bY),0,0,(⟨0,λ_=>default⟩:(Sl aT)),(⟨0,λ_=>default⟩:(Sl Int))⟩:ai),0⟩:placed),false)) (aV (decide (0<=a1.ai/\a1.ai<(a0.aj.len:Int))) ((E.iJ (a1.Channel,0,(aJ ((a0.aj.get a1.ai.toNat).bG-1)))).T λr2=>cond (!r2) (k ((⟨(a0.aj.get a1.ai.toNat),a1.ai⟩:placed),false)) ((E.iJ (a1.kG,1,(aJ ((a0.aj.get a1.ai.toNat).bG-a1.Channel)))).T λr3=>cond (!r3) (k ((⟨(a0.aj.get a1.ai.toNat),a1.ai⟩:placed),false)) ((E.iJ (a1.CS,(a0.aj.get a1.ai.toNat).Least,1000000)).T λr4=>cond (!r4) (k ((⟨(a0.aj.get a1.ai.toNat),a1.ai⟩:placed),false)) ((E.iJ (a1.Time,(-1000000000),1000000000)).T λr5=>cond (!r5) (k ((⟨(a0.aj.get a1.ai.toNat),a1.ai⟩:placed),false)) (TW E E.N a0 a1 0 k)))))):=dS
theorem zjN(n0:Nat)(a0:ak)(a1:bg)(v67:Int):TW E (n0+1) a0 a1 v67 k=cond (decide (v67<((a0.aj.get a1.ai.toNat).Dead.len:Int))) (aV (decide (0<=v67/\v67<((a0.aj.get a1.ai.toNat).Dead.len:Int))) ((E.iJ ((a0.aj.get a1.ai.toNat).Dead.get v67.toNat,a1.Channel,(aJ ((aJ (a1.Channel+a1.kG))-1)))).T λr1=>cond r1 (k ((⟨(a0.aj.get a1.ai.toNat),a1.ai⟩:placed),false)) (TW E n0 a0 a1 (aJ (v67+1)) k))) (cond ((a0.aj.get a1.ai.toNat).Kind==2) (cond (a1.kG==1) ((E.iJ (a1.aT,0,1000000)).T λr2=>k ((⟨(a0.aj.get a1.ai.toNat),a1.ai⟩:placed),r2)) (k ((⟨(a0.aj.get a1.ai.toNat),a1.ai⟩:placed),false))) (cond (a1.aT==0) (cond ((a0.aj.get a1.ai.toNat).Kind != 3) (k ((⟨(a0.aj.get a1.ai.toNat),a1.ai⟩:placed),true)) (k ((⟨(a0.aj.get a1.ai.toNat),a1.ai⟩:placed),(a1.Time==0)))) (k ((⟨(a0.aj.get a1.ai.toNat),a1.ai⟩:placed),false)))):=krY
end
theorem zSN [aC](E:zfn)(l7:Ok aB 161 (ae.un E.iJ)):Ok aB 112 (ae.un (zpW E)):=dU (ax.nil.addF l7)
structure zpX where
 N:Nat
def zpY(E:zpX):Int×Int×Int->ae Bool:=iR E.N Tabs.nil 161
theorem e161(E:zpX){A:Type}(k:Bool→Option A)(a0 a1 a2:Int):(zpY E (a0,a1,a2)).T k=cond (decide (a0>=a1)) (k (decide (a0<=a2))) (k false):=dS
theorem zSO [aC](E:zpX):Ok aB 161 (ae.un (zpY E)):=dU ax.nil
structure zfo where
 N:Nat
 c201:placed->ae Bool
 iJ:Int×Int×Int->ae Bool
abbrev zH9(E:zfo):bK:=gU ((Tabs.nil.addF 201 (ae.un E.c201)).addF 161 (ae.un E.iJ)) []
def zIa:dG:=bT aB 160 [] {}
def zpZ(E:zfo):ak->ae Bool:=ae.ty (aF aB E.N (zH9 E) zIa 160)
section
variable(E:zfo){A:Type}(k:Bool->Option A)
def GV(E:zfo)(n:Nat)(a0:ak)(v9:Int){A:Type}(k:Bool->Option A):Option A:=gW aB (zH9 E) E.N zIa 160 [1,0,1,0] [.n n] (gV k) ⟨[(1,.cl (.ptr 1 0)),(7,eP a0.aj),(8,.int (a0.aj.len:Int)),(9,.int v9)],[(1,eB 24 a0)],[]⟩
theorem e160(a0:ak):(zpZ E (a0)).T k=GV E E.N a0 0 k:=dS
theorem zjO(n0:Nat)(a0:ak)(v9:Int):GV E (n0+1) a0 v9 k=cond (decide (v9<(a0.aj.len:Int))) (aV (decide (0<=v9/\v9<(a0.aj.len:Int))) ((E.c201 (⟨(a0.aj.get v9.toNat),v9⟩:placed)).T λr1=>cond (!r1) (k false) (cond (decide (v9>0)) (aV (decide (0<=(aJ (v9-1))/\(aJ (v9-1))<(a0.aj.len:Int))) (cond (decide ((a0.aj.get v9.toNat).Z<=(a0.aj.get (aJ (v9-1)).toNat).Z)) (k false) (GV E n0 a0 (aJ (v9+1)) k))) (GV E n0 a0 (aJ (v9+1)) k)))) ((E.iJ ((a0.aj.len:Int),1,16)).T λr2=>k r2):=krY
end
theorem zSP [aC](E:zfo)(zzt:Ok aB 201 (ae.un E.c201))(l7:Ok aB 161 (ae.un E.iJ)):Ok aB 160 (ae.un (zpZ E)):=dU ((ax.nil.addF zzt).addF l7)
structure zp0 where
 N:Nat
 iJ:Int×Int×Int->ae Bool
def zp1(E:zp0):bY×Int->ae Bool:=iR E.N (Tabs.nil.addF 161 (ae.un E.iJ)) 164
theorem zSQ(E:zp0){A:Type}(k:Bool→Option A)(a0:bY)(a1:Int):(zp1 E (a0,a1)).T k=(E.iJ (a0.Low,(aJ (0-a1)),a0.High)).T λr1=>cond r1 (k (decide (a0.High<=a1))) (k false):=dS
theorem zSR [aC](E:zp0)(l7:Ok aB 161 (ae.un E.iJ)):Ok aB 164 (ae.un (zp1 E)):=dU (ax.nil.addF l7)
structure zaX where
 N:Nat
 iJ:Int×Int×Int->ae Bool
 zgS:placed->ae Bool
 c232:placed->ae Bool
 c233:placed->ae Bool
 c234:placed->ae Bool
abbrev zzu(E:zaX):bK:=gU (((((Tabs.nil.addF 161 (ae.un E.iJ)).addF 235 (ae.un E.zgS)).addF 232 (ae.un E.c232)).addF 233 (ae.un E.c233)).addF 234 (ae.un E.c234)) []
def zzv:dG:=bT aB 201 [] {}
def zp2(E:zaX):placed->ae Bool:=ae.ty (aF aB E.N (zzu E) zzv 201)
abbrev knd(n:Int)(a:placed):placed:={a with ai:={a.ai with Kind:=n}}
section
variable(E:zaX){A:Type}(k:Bool->Option A)
def Nw(E:zaX)(a0:placed)(uU:Bool){A:Type}(k:Bool->Option A):Option A:=gW aB (zzu E) E.N zzv 201 [1,1,0,0] [.o 4] (gV k) ⟨[(16,.bool uU),(15,.int a0.ai.Kind),(14,.cl (.ptr 1 0)),(13,.cl (.ptr 1 0)),(1,.cl (.ptr 1 0)),(3,.cl (.ptr 3 0))],[(1,eB 185 a0),(3,.box 301 [.p (.nilf),.p (.fna 232 (bI.enc a0)),.p (.fna 233 (bI.enc a0)),.p (.fna 234 (bI.enc a0))])],[(2,1,0)]⟩
def xx(E:zaX)(n:Nat)(a0:placed)(v36:Int){A:Type}(k:Bool->Option A):Option A:=gW aB (zzu E) E.N zzv 201 [1,1,1,0,1,0] [.n n] (gV k) ⟨[(1,.cl (.ptr 1 0)),(34,eP a0.ai.Dead),(35,.int (a0.ai.Dead.len:Int)),(36,.int v36)],[(1,eB 185 a0)],[]⟩
theorem zSS(a0:placed):(zp2 E (a0)).T k=(E.iJ (a0.ai.Kind,1,3)).T λr1=>Nw E a0 r1 k:=dS
theorem zp3(a0:placed):Nw E a0 false k=k false:=krY
theorem zp4(a0:placed):Nw E (knd 1 a0) true k=(E.zgS (knd 1 a0)).T λr1=>cond (!r1) (k false) ((E.c232 (knd 1 a0)).T λr2=>cond (!r2) (k false) (xx E E.N (knd 1 a0) 0 k)):=krY
theorem zp5(a0:placed):Nw E (knd 2 a0) true k=(E.zgS (knd 2 a0)).T λr1=>cond (!r1) (k false) ((E.c233 (knd 2 a0)).T λr2=>cond (!r2) (k false) (xx E E.N (knd 2 a0) 0 k)):=krY
theorem zp6(a0:placed):Nw E (knd 3 a0) true k=(E.zgS (knd 3 a0)).T λr1=>cond (!r1) (k false) ((E.c234 (knd 3 a0)).T λr2=>cond (!r2) (k false) (xx E E.N (knd 3 a0) 0 k)):=krY
theorem zjP(n0:Nat)(a0:placed)(v36:Int):xx E (n0+1) a0 v36 k=cond (decide (v36<(a0.ai.Dead.len:Int))) (aV (decide (0<=v36/\v36<(a0.ai.Dead.len:Int))) ((E.iJ (a0.ai.Dead.get v36.toNat,0,(aJ (a0.ai.bG-1)))).T λr1=>cond (!r1) (k false) (cond (decide (v36>0)) (aV (decide (0<=(aJ (v36-1))/\(aJ (v36-1))<(a0.ai.Dead.len:Int))) (cond (decide (a0.ai.Dead.get v36.toNat<=a0.ai.Dead.get (aJ (v36-1)).toNat)) (k false) (xx E n0 a0 (aJ (v36+1)) k))) (xx E n0 a0 (aJ (v36+1)) k)))) (k (decide ((a0.ai.Dead.len:Int)<=100))):=krY
end
theorem zST [aC](E:zaX)(l7:Ok aB 161 (ae.un E.iJ))(zjQ:Ok aB 235 (ae.un E.zgS))(zzw:Ok aB 232 (ae.un E.c232))(zzx:Ok aB 233 (ae.un E.c233))(zzy:Ok aB 234 (ae.un E.c234)):Ok aB 201 (ae.un (zp2 E)):=dU (((((ax.nil.addF l7).addF zjQ).addF zzw).addF zzx).addF zzy)
structure zp7 where
 N:Nat
def zp8(E:zp7):placed->ae Bool:=iR E.N Tabs.nil 232
theorem e232(E:zp7){A:Type}(k:Bool→Option A)(a0:placed):(zp8 E (a0)).T k=k ((a0.ai.aT.len:Int)==0):=dS
theorem zSU [aC](E:zp7):Ok aB 232 (ae.un (zp8 E)):=dU ax.nil
structure zfp where
 N:Nat
 iJ:Int×Int×Int->ae Bool
abbrev zIb(E:zfp):bK:=gU (Tabs.nil.addF 161 (ae.un E.iJ)) []
def zIc:dG:=bT aB 233 [] {}
def zp9(E:zfp):placed->ae Bool:=ae.ty (aF aB E.N (zIb E) zIc 233)
section
variable(E:zfp){A:Type}(k:Bool->Option A)
def GX(E:zfp)(n:Nat)(a0:placed)(v9:Int){A:Type}(k:Bool->Option A):Option A:=gW aB (zIb E) E.N zIc 233 [1,0,1,0] [.n n] (gV k) ⟨[(1,.cl (.ptr 1 0)),(7,eP a0.ai.aT),(8,.int (a0.ai.aT.len:Int)),(9,.int v9)],[(1,eB 185 a0)],[]⟩
theorem e233(a0:placed):(zp9 E (a0)).T k=GX E E.N a0 0 k:=dS
theorem zjR(n0:Nat)(a0:placed)(v9:Int):GX E (n0+1) a0 v9 k=cond (decide (v9<(a0.ai.aT.len:Int))) (aV (decide (0<=v9/\v9<(a0.ai.aT.len:Int))) ((E.iJ ((a0.ai.aT.get v9.toNat).Time,0,1000000)).T λr1=>cond (!r1) (k false) ((E.iJ ((a0.ai.aT.get v9.toNat).dV.Low,0,(a0.ai.aT.get v9.toNat).dV.High)).T λr2=>cond (!r2) (k false) (cond (decide ((a0.ai.aT.get v9.toNat).dV.High>(aJ (a0.ai.aO.tdiv 2)))) (k false) (cond (decide (v9>0)) (aV (decide (0<=(aJ (v9-1))/\(aJ (v9-1))<(a0.ai.aT.len:Int))) (cond (decide ((a0.ai.aT.get v9.toNat).Time<=(a0.ai.aT.get (aJ (v9-1)).toNat).Time)) (k false) (aV (decide (0<=(aJ (v9-1))/\(aJ (v9-1))<(a0.ai.aT.len:Int))) (cond (decide ((a0.ai.aT.get v9.toNat).dV.Low<(a0.ai.aT.get (aJ (v9-1)).toNat).dV.Low)) (k false) (aV (decide (0<=(aJ (v9-1))/\(aJ (v9-1))<(a0.ai.aT.len:Int))) (cond (decide ((a0.ai.aT.get v9.toNat).dV.High<(a0.ai.aT.get (aJ (v9-1)).toNat).dV.High)) (k false) (GX E n0 a0 (aJ (v9+1)) k))))))) (GX E n0 a0 (aJ (v9+1)) k)))))) ((E.iJ ((a0.ai.aT.len:Int),1,50)).T λr3=>k r3):=krY
end
theorem zSV [aC](E:zfp)(l7:Ok aB 161 (ae.un E.iJ)):Ok aB 233 (ae.un (zp9 E)):=dU (ax.nil.addF l7)
structure zqa where
 N:Nat
def zqb(E:zqa):placed->ae Bool:=iR E.N Tabs.nil 234
theorem e234(E:zqa){A:Type}(k:Bool→Option A)(a0:placed):(zqb E (a0)).T k=k ((a0.ai.aT.len:Int)==0):=dS
theorem zSW [aC](E:zqa):Ok aB 234 (ae.un (zqb E)):=dU ax.nil
structure zqc where
 N:Nat
 iJ:Int×Int×Int->ae Bool
 c164:bY×Int->ae Bool
def zqd(E:zqc):placed->ae Bool:=iR E.N ((Tabs.nil.addF 161 (ae.un E.iJ)).addF 164 (ae.un E.c164)) 235
theorem zSX(E:zqc){A:Type}(k:Bool→Option A)(a0:placed):(zqd E (a0)).T k=(E.iJ (a0.ai.View,1,2)).T λr1=>cond (!r1) (k false) ((E.iJ (a0.ai.Z,0,100000)).T λr2=>cond (!r2) (k false) ((E.iJ (a0.ai.First,(-1000000),1000000)).T λr3=>cond (!r3) (k false) ((E.iJ (a0.ai.aO,2,100000)).T λr4=>cond (!r4) (k false) ((E.iJ (a0.ai.bG,1,2000)).T λr5=>cond (!r5) (k false) ((E.iJ (a0.ai.dL,0,100000)).T λr6=>cond (!r6) (k false) ((E.c164 (a0.ai.bf,1000000)).T λr7=>cond (!r7) (k false) ((E.c164 (a0.ai.Clock,1000000000)).T λr8=>cond (!r8) (k false) ((E.iJ (a0.ai.dP,0,1000000)).T λr9=>cond (!r9) (k false) ((E.iJ (a0.ai.Least,0,1000000)).T λZm=>cond (!Zm) (k false) (cond (decide ((aJ ((aJ ((aJ (a0.ai.First-a0.ai.aO))-a0.ai.dL))+a0.ai.bf.Low))>=(-1000000))) (k (decide ((aJ ((aJ ((aJ (a0.ai.First+(aJ ((aJ (a0.ai.bG+1))*a0.ai.aO))))+a0.ai.dL))+a0.ai.bf.High))<=1000000))) (k false))))))))))):=dS
theorem zSY [aC](E:zqc)(l7:Ok aB 161 (ae.un E.iJ))(XE:Ok aB 164 (ae.un E.c164)):Ok aB 235 (ae.un (zqd E)):=dU ((ax.nil.addF l7).addF XE)
structure zqe where
 N:Nat
 c160:ak->ae Bool
 uP:ak×bg->ae (placed×Bool)
def zqf(E:zqe):ak×bg->ae Bool:=iR E.N ((Tabs.nil.addF 160 (ae.un E.c160)).addF 112 (ae.un E.uP)) 188
theorem zSZ(E:zqe){A:Type}(k:Bool→Option A)(a0:ak)(a1:bg):(zqf E (a0,a1)).T k=(E.c160 a0).T λr1=>cond (!r1) (k false) ((E.uP (a0,a1)).T λr2=>k r2.2):=dS
theorem zS1 [aC](E:zqe)(BR:Ok aB 160 (ae.un E.c160))(AV:Ok aB 112 (ae.un E.uP)):Ok aB 188 (ae.un (zqf E)):=dU ((ax.nil.addF BR).addF AV)
structure zqg where
 N:Nat
 zgR:placed×Int×Int->ae au
 zuA:placed×Int->ae (Int×Int)
def zqh(E:zqg):placed×bg->ae ((Sl au)):=iR E.N ((Tabs.nil.addF 223 (ae.un E.zgR)).addF 224 (ae.un E.zuA)) 189
theorem e189(E:zqg){A:Type}(k:(Sl au)→Option A)(a0:placed)(a1:bg):(zqh E (a0,a1)).T k=cond (a0.ai.Kind != 2) (cond (decide ((aJ ((aJ (a0.ai.First+(aJ ((aJ ((aJ (a1.Channel+a1.kG))-1))*a0.ai.aO))))-a0.ai.dL))>(aJ ((aJ (a0.ai.First+(aJ ((aJ (a1.Channel+1))*a0.ai.aO))))+a0.ai.dL)))) (k (⟨0,λ_=>default⟩:(Sl au))) ((E.zgR (a0,(aJ ((aJ (a0.ai.First+(aJ ((aJ ((aJ (a1.Channel+a1.kG))-1))*a0.ai.aO))))-a0.ai.dL)),(aJ ((aJ (a0.ai.First+(aJ ((aJ (a1.Channel+1))*a0.ai.aO))))+a0.ai.dL)))).T λr1=>k (⟨1,(fun _=>r1)⟩:(Sl au)))) ((E.zuA (a0,a1.aT)).T λr2=>(E.zgR (a0,(aJ ((aJ (a0.ai.First+(aJ (a1.Channel*a0.ai.aO))))-r2.2)),(aJ ((aJ (a0.ai.First+(aJ (a1.Channel*a0.ai.aO))))-r2.1)))).T λr3=>(E.zgR (a0,(aJ ((aJ (a0.ai.First+(aJ (a1.Channel*a0.ai.aO))))+r2.1)),(aJ ((aJ (a0.ai.First+(aJ (a1.Channel*a0.ai.aO))))+r2.2)))).T λr4=>cond (decide (r3.High>=r4.Low)) (k (⟨1,(λ_=>(⟨a0.ai.Z,r3.Low,r4.High⟩:au))⟩:(Sl au))) (k (⟨2,(gK [r3,r4])⟩:(Sl au)))):=dS
theorem zS2 [aC](E:zqg)(zzz:Ok aB 223 (ae.un E.zgR))(zzA:Ok aB 224 (ae.un E.zuA)):Ok aB 189 (ae.un (zqh E)):=dU ((ax.nil.addF zzz).addF zzA)
structure zqi where
 N:Nat
def zqj(E:zqi):placed×Int×Int->ae au:=iR E.N Tabs.nil 223
theorem e223(E:zqi){A:Type}(k:au→Option A)(a0:placed)(a1 a2:Int):(zqj E (a0,a1,a2)).T k=k (⟨a0.ai.Z,(aJ (a1+a0.ai.bf.Low)),(aJ (a2+a0.ai.bf.High))⟩:au):=dS
theorem zS3 [aC](E:zqi):Ok aB 223 (ae.un (zqj E)):=dU ax.nil
structure zaZ where
 N:Nat
 zuH:(Pt (Sl aT))->ae (List (Int×aT))
abbrev zzB(E:zaZ):bK:=gU ((Tabs.nil.addF 246 (aF aB E.N (gU Tabs.nil []) (bT aB 246 [] {}) 246)).addI 251 (ae.unI E.zuH)) []
def zzC:dG:=bT aB 224 [] {}
def zqk(E:zaZ):placed×Int->ae (Int×Int):=ae.ty (aF aB E.N (zzB E) zzC 224)
section
variable(E:zaZ){A:Type}(k:(Int×Int)->Option A)
def Ny(E:zaZ)(n:Nat)(a0:placed)(a1 v6 v20 Eb:Int){A:Type}(k:(Int×Int)->Option A):Option A:=gW aB (zzB E) E.N zzC 224 [1,1,0,1,0] [.n n] (gV k) ⟨[(2,.cl (.ptr 2 0)),(3,.cl (.ptr 3 0)),(6,.int v6),(7,.cl (.ptr 7 0)),(18,eP a0.ai.aT),(19,.int (a0.ai.aT.len:Int)),(20,.int v20)],[(2,eB 185 a0),(3,eB 3 a1),(7,eB 3 Eb)],[]⟩
def GY(E:zaZ)(l:List (Int×aT))(a0:placed)(a1 v6 Eb:Int){A:Type}(k:(Int×Int)->Option A):Option A:=gW aB (zzB E) E.N zzC 224 [1,1,1,0,1,0] [.y (l.map dF.enc)] (gV k) ⟨[(2,.cl (.ptr 2 0)),(3,.cl (.ptr 3 0)),(6,.int v6),(7,.cl (.ptr 7 0)),(39,.p (.fn 251 [] [.fp [.sl a0.ai.aT.len 3 (λi=>bI.enc (a0.ai.aT.get i))] 0]))],[(2,eB 185 a0),(3,eB 3 a1),(7,eB 3 Eb)],[]⟩
theorem e224(a0:placed)(a1:Int):(zqk E (a0,a1)).T k=Ny E E.N a0 a1 0 0 (aJ (a0.ai.aO.tdiv 2)) k:=dS
theorem zjS(n0:Nat)(a0:placed)(a1 v6 v20 Eb:Int):Ny E (n0+1) a0 a1 v6 v20 Eb k=cond (decide (v20<(a0.ai.aT.len:Int))) (aV (decide (0<=v20/\v20<(a0.ai.aT.len:Int))) (cond (decide ((a0.ai.aT.get v20.toNat).Time<=(aJ (a1-a0.ai.dP)))) (Ny E n0 a0 a1 (a0.ai.aT.get v20.toNat).dV.Low (aJ (v20+1)) Eb k) (Ny E n0 a0 a1 v6 (aJ (v20+1)) Eb k))) ((E.zuH (⟨a0.ai.aT⟩:(Pt (Sl aT)))).T λr1=>GY E r1 a0 a1 v6 Eb k):=krY
theorem zql(a0:placed)(a1 v6 Eb:Int):GY E [] a0 a1 v6 Eb k=k (v6,Eb):=krY
theorem zzD(y:Int×aT)(l0:List (Int×aT))(a0:placed)(a1 v6 Eb:Int):GY E (y::l0) a0 a1 v6 Eb k=cond (decide (y.2.Time>=(aJ (a1+a0.ai.dP)))) (GY E l0 a0 a1 v6 y.2.dV.High k) (GY E l0 a0 a1 v6 Eb k):=krY
end
theorem zS4 [aC](E:zaZ)(zS5:AL aB 251 (ae.unI E.zuH)):Ok aB 224 (ae.un (zqk E)):=dU ((ax.nil.addF (xq ax.nil (dJ krY))).addI zS5)
structure za0 where
 N:Nat
abbrev zId(E:za0):bK:=gU Tabs.nil []
def zIe:dG:=bT aB 251 [0] {yl:=[3]}
def zIf(E:za0)(c:List PA):YO:=aI aB (zId E) E.N zIe 251 c
def zzE(E:za0):(Pt (Sl aT))->ae (List (Int×aT)):=ae.tyI λc=>.opt (zIf E c)
section
variable(E:za0)
def TY(E:za0)(n:Nat)(a1:(Pt (Sl aT)))(v3:Int):YO:=ptY aB (zId E) E.N zIe 251 [1,0] [n] ⟨[(0,.cl (.vec 4095)),(1,eP a1),(3,.int v3)],[(4095,.gone)],[]⟩
theorem e251(a1:(Pt (Sl aT))):zIf E (dF.enc ((a1):(Pt (Sl aT))))=TY E E.N a1 (aJ ((a1.v.len:Int)-1)):=krY
theorem zjT(n0:Nat)(a1:(Pt (Sl aT)))(v3:Int):TY E (n0+1) a1 v3=cond (decide (v3>=0)) (aV (decide (0<=v3/\v3<(a1.v.len:Int))) (yT (dF.enc ((v3,(a1.v.get v3.toNat)):Int×aT)) (some []) (TY E n0 a1 (aJ (v3-1))))) (some []):=krY
end
theorem zS6(E:za0):AL aB 251 (ae.unI (zzE E)):=TP (Nh ax.nil (dJ krY))
theorem aW{x:Int}(h1 : -9223372036854775808<=x)(h2:x<=9223372036854775807):aJ x=x:=by
 have hb:IntKind.i64.bits=64:=rfl;have hs:IntKind.i64.signed=true:=rfl;unfold aJ IntKind.wrap;rw[hb,hs];simp only[I5,lQ];split<;>omega
theorem bD{i:Nat}(h:i<4611686018427387904):aJ ((i:Int)+1)=((i+1:Nat):Int):=by rw[aW omY omY];omega
theorem uI{i:Nat}(h:i<4611686018427387904):aJ ((i:Int)-1)=(i:Int)-1:=aW omY omY
section
variable{A ρ:Type}
theorem aY{r:ρ}{k:ρ->Option A}:(ae.ok r).T k=k r:=rfl
theorem bu{p:Prop}[Decidable p]{x:Option A}(h:p):aV (decide p) x=x:=by rw[dC h];rfl
theorem zIg{p:Prop}[Decidable p]{x y:Option A}(h:p):cond (decide p) x y=x:=by rw[dC h];rfl
theorem zIh{p:Prop}[Decidable p]{x y:Option A}(h:¬p):cond (decide p) x y=y:=by rw[dR h];rfl
theorem kc{τ:Type}(f:τ->Option A)(b:Bool)(x y:τ):cond b (f x) (f y)=f (cond b x y):=by cases b<;>rfl
theorem two(Y s:Option A):∃f:Bool->Option A,f true=Y/\f false=s:=⟨λb=>cond b Y s,rfl,rfl⟩
theorem zfq(k:Bool->Option A)(a b:Bool):cond a (k b) (k false)=k (a&&b):=by cases a<;>rfl
end
theorem dm{p:Nat->Bool}{n:Nat}:fA p n=true↔∀i,i<n->p i=true:=by
 refine⟨λh i hi=>Sj h i hi,λh=>?_⟩
 induction n with|zero=>rfl|succ n ih=>simp only[fA,ih λi hi=>h i omY,h n omY,qjN]
section
variable{A:Type}
theorem zjU{L:Nat→Int→Option A}{p:Nat→Bool}{m:Nat}{fin stop:Option A}(hm:m<4611686018427387904)
    (hL:∀n i,i<m->(∀j,j<i->p j=true)->L (n+1) (i:Int)=cond (p i) (L n (aJ ((i:Int)+1))) stop) (hE:∀n,(∀j,j<m->p j=true)->L (n+1) (m:Int)=fin) :
    ∀n,m<n->L n 0=cond (fA p m) fin stop:=by
  have key:∀(d i n:Nat),i+d=m->d<n->(∀j,j<i->p j=true)->L n (i:Int)=cond (fA p m) fin stop:=by
    intro d
    induction d with
    | zero =>
      intro i n hi hn hp;obtain⟨n,rfl⟩:∃n',n=n'+1:=⟨n-1,omY⟩;have e:i=m:=by omega
      subst e;rw[hE n hp,dm.2 hp];rfl
    | succ d ih =>
      intro i n hi hn hp;obtain⟨n,rfl⟩:∃n',n=n'+1:=⟨n-1,omY⟩;rw[hL n i omY hp];cases kH:p i with
      | true =>
        rw[dO,bD omY];exact ih (i+1) n omY omY λj hj=>by
          by_cases e:j=i;rw[e];exact kH;exact hp j omY
      | false =>
        have:fA p m=false:=by
          cases e:fA p m with|false=>rfl|true=>rw[dm.1 e i omY]at kH;cases kH
        rw[this];rfl
  intro n hn;exact key m 0 n omY hn λj hj=>absurd hj omY
theorem loopA{L:Nat→Int→Option A}{p:Nat→Bool}{m:Nat}{fin stop:Option A}(hm:m<4611686018427387904)
    (hL:∀n i,i<m->L (n+1) (i:Int)=cond (p i) (L n (aJ ((i:Int)+1))) stop) (hE:∀n,L (n+1) (m:Int)=fin) :
    ∀n,m<n->L n 0=cond (fA p m) fin stop:=zjU hm (λn i hi _=>hL n i hi) λn _=>hE n
end
theorem BU{p q:Nat->Bool}{n:Nat}(h:∀i,i<n->p i=q i):fA p n=fA q n:=by
 rw[VG,dm,dm];exact⟨λg i hi=>by rw[<- h i hi];exact g i hi,λg i hi=>by rw[h i hi];exact g i hi⟩
def inB(x a b:Int):Bool:=decide (a<=x/\x<=b)
abbrev BV(C:Int×Int×Int->ae Bool):Prop:=∀x a b,C (x,a,b)=.ok (inB x a b)
theorem s73{E:E73}:BV (F73 E):=λx a b=>ae.ext λk=>by rw[e73,kc k,aY];congr 1;simp only[inB];grind
theorem s86{E:E86}:BV (F86 E):=λx a b=>ae.ext λk=>by rw[e86,kc k,aY];congr 1;simp only[inB];grind
theorem zS7{E:zpQ}:BV (zpR E):=λx a b=>ae.ext λk=>by rw[zSH,kc k,aY];congr 1;simp only[inB];grind
theorem zS8{E:zpX}:BV (zpY E):=λx a b=>ae.ext λk=>by rw[e161,kc k,aY];congr 1;simp only[inB];grind
abbrev zzF(C:Int->ae Bool):Prop:=∀x,C x=.ok (inB x (-1000000) 1000000)
theorem zS9{E:zpI}(OY:BV E.uZ):zzF (zpJ E):=λx=>ae.ext λk=>by rw[zSq];simp only[OY,aY]
abbrev Big(N:Nat):Prop:=20000000<N
def stB(l:Sl aT)(zjV:Int)(i:Nat):Bool :=
  inB (l.get i).Time 0 1000000&&inB (l.get i).dV.Low 0 (l.get i).dV.High&&decide ((l.get i).dV.High≤aJ (zjV.tdiv 2)) &&
    (decide (i=0)||decide ((l.get (i-1)).Time<(l.get i).Time)&&decide ((l.get (i-1)).dV.Low<=(l.get i).dV.Low)&&decide ((l.get (i-1)).dV.High<=(l.get i).dV.High))
def rY(l:Sl aT)(zjV:Int):Bool:=fA (stB l zjV) l.len&&inB l.len 1 50
theorem XF{i n:Nat}(h:i<n)(hn:n<4611686018427387904)(h0:(i:Int)>0):(0<=aJ ((i:Int)-1)/\aJ ((i:Int)-1)<(n:Int))/\(aJ ((i:Int)-1)).toNat=i-1:=by
 rw[uI omY];omega
abbrev zzG(C:Sl aT×Int->ae Bool):Prop:=∀l p,l.len<=60->C (l,p)=.ok (rY l p)
theorem zTa{E:zfk}(N:Big E.N)(OY:BV E.uZ):zzG (zpK E):=λl p h=>ae.ext λk=>by
 rw[zSs];refine(loopA (L:=λn v=>GU E n l p v k) (p:=stB l p) (m:=l.len) (fin:=k (inB l.len 1 50)) (stop:=k false) omY (λn i hi=>?_) (λn=>?_) _ omY).trans ?_;obtain⟨f,h1,h2⟩:=two (GU E n l p (aJ ((i:Int)+1)) k) (k false);rw[zjJ,bu omY,<- h1,<- h2];simp only[OY,aY,gm];by_cases h0:(i:Int)>0;obtain⟨p1,p2⟩:=XF hi omY h0;simp only[bu p1,p2,kc f];congr 1;simp only[stB,inB];grind;simp only [dR h0,dN,kc f];congr 1;simp only[stB,inB];grind;rw[zjJ];simp only[OY,aY,RX,Kq,dN];exact zfq k _ _
def lfP(p:ai):Int:=aJ (aJ (aJ (p.First-p.aO)-p.dL)+p.bf.Low)
def rtP(p:ai):Int:=aJ (aJ (aJ (p.First+aJ (aJ (p.bG+1)*p.aO))+p.dL)+p.bf.High)
def Vw(p:ai):Prop:=(1<=p.Kind/\p.Kind<=3)/\(1<=p.View/\p.View<=2)/\(0<=p.Z/\p.Z<=100000)/\(-1000000<=p.First/\p.First<=1000000)/\(2<=p.aO/\p.aO<=100000)/\(1<=p.bG/\p.bG<=2000)/\(0<=p.dL/\p.dL<=100000) /\
 (-1000000<=p.bf.Low/\p.bf.Low<=p.bf.High/\p.bf.High<=1000000)/\(-1000000000<=p.Clock.Low/\p.Clock.Low<=p.Clock.High/\p.Clock.High<=1000000000)/\(0<=p.dP/\p.dP<=1000000)/\(0<=p.Least/\p.Least<=1000000)/\-1000000<=lfP p/\rtP p<=1000000
instance(p:ai):Decidable (Vw p):=by unfold Vw;infer_instance
theorem xy{a b:Int}(ha:0<=a/\a<=10000)(hb:0<=b/\b<=100000):0<=a*b/\a*b<=1000000000 :=
 ⟨qd0 ha.1 hb.1,by have:=Int.mul_le_mul ha.2 hb.2 hb.1 omY;omega⟩
theorem zIi{p:ai}(h1 : -1000000≤p.First∧p.First≤1000000)(h2:2≤p.aO∧p.aO≤100000)(h3:1≤p.bG∧p.bG≤2000)(h4:0≤p.dL∧p.dL≤100000)
    (h5 : -1000000<=p.bf.Low/\p.bf.Low<=p.bf.High/\p.bf.High<=1000000) :
    lfP p=p.First-p.aO-p.dL+p.bf.Low/\rtP p=p.First+(p.bG+1)*p.aO+p.dL+p.bf.High/\lfP p<rtP p:=by
  obtain⟨q1,q2⟩:=xy (a:=p.bG+1) (b:=p.aO) omY omY;have e1:lfP p=p.First-p.aO-p.dL+p.bf.Low:=by
    unfold lfP;rw[aW (x:=p.First-p.aO) omY omY,aW (x:=p.First-p.aO-p.dL) omY omY,aW omY omY]
  have e2:rtP p=p.First+(p.bG+1)*p.aO+p.dL+p.bf.High:=by
    unfold rtP;rw[aW (x:=p.bG+1) omY omY,aW (x:=(p.bG+1)*p.aO) omY omY,aW (x:=p.First+(p.bG+1)*p.aO) omY omY,aW (x:=p.First+(p.bG+1)*p.aO+p.dL) omY omY,aW omY omY]
  exact⟨e1,e2,omY⟩
def dB(p:ai)(i:Nat):Bool:=inB (p.Dead.get i) 0 (aJ (p.bG-1))&&(decide (i=0)||decide (p.Dead.get (i-1)<p.Dead.get i))
def plB(p:ai):Bool:=decide (Vw p)&&cond (p.Kind==2) (rY p.aT p.aO) (decide (p.aT.len=0))&&decide (p.Dead.len<=100)&&fA (dB p) p.Dead.len
def Few(p:ai):Prop:=p.aT.len<=60/\p.Dead.len<=110
abbrev zzH(C:ai->ae Bool):Prop:=∀p,Few p->C p=.ok (plB p)
theorem zTb{E:TT}(N:Big E.N)(OY:BV E.uZ)(zzh:zzF E.Vg)(zzi:zzG E.c175):zzH (zpE E):=λp h=>ae.ext λk=>by
 have hl:=h.1;have hd:=h.2;have lp:uH E E.N p 0 k=k (fA (dB p) p.Dead.len):=by
  refine(loopA (L:=λn v=>uH E n p v k) (p:=dB p) (m:=p.Dead.len) (fin:=k true) (stop:=k false) omY (λn i hi=>?_) (λn=>?_) _ omY).trans ?_;obtain⟨f,h1,h2⟩:=two (uH E n p (aJ ((i:Int)+1)) k) (k false);rw[zjE,bu omY,<- h1,<- h2];simp only[OY,aY,gm];by_cases h0:(i:Int)>0;obtain⟨p1,p2⟩:=XF hi omY h0;simp only[bu p1,bu (show 0<=(i:Int)/\(i:Int)<(p.Dead.len:Int)by omega),p2,kc f];congr 1;simp only[dB];grind;simp only [dR h0,dN,kc f];congr 1;simp only[dB];grind;rw[zjE];simp only[RX,Kq,dN];rw[kc k];congr 1;cases fA (dB p) p.Dead.len<;>rfl
 rw[zSk];simp only[zze,zzf,zzg,OY,zzh,zzi _ _ hl,aY,lp,kc k];congr 1;have lr:=@zIi p;have e1:aJ (aJ (aJ (p.First-p.aO)-p.dL)+p.bf.Low)=lfP p:=rfl;have e2:aJ (aJ (aJ (p.First+aJ (aJ (p.bG+1)*p.aO))+p.dL)+p.bf.High)=rtP p:=rfl;simp only[e1,e2,plB,Vw,inB];generalize rY p.aT p.aO=A;generalize fA (dB p) p.Dead.len=B
 grind (splits:=60)
def sV(s:ak):Prop:=s.aj.len<=20/\∀i,i<s.aj.len->Few (s.aj.get i)
def seB(s:ak)(i:Nat):Bool:=plB (s.aj.get i)&&(decide (i=0)||decide ((s.aj.get (i-1)).Z<(s.aj.get i).Z))
def fD(s:ak):Bool:=inB s.aj.len 1 16&&fA (seB s) s.aj.len
abbrev QSe(C:ak->ae Bool):Prop:=∀s,sV s->C s=.ok (fD s)
theorem s61{E:E61}(N:Big E.N)(OY:BV E.uZ)(zzb:zzH E.c124):QSe (F61 E):=λs h=>ae.ext λk=>by
 have hl:=h.1;rw[e61];have lp:Np E E.N s 0 k=k (fA (seB s) s.aj.len):=by
  refine(loopA (L:=λn v=>Np E n s v k) (p:=seB s) (m:=s.aj.len) (fin:=k true) (stop:=k false) omY (λn i hi=>?_) (λn=>?_) _ omY).trans ?_;obtain⟨f,h1,h2⟩:=two (Np E n s (aJ ((i:Int)+1)) k) (k false);rw[zvF,bu omY,<- h1,<- h2];simp only[gm,zzb _ (h.2 i hi),aY];by_cases h0:(i:Int)>0;obtain⟨p1,p2⟩:=XF hi omY h0;simp only[bu p1,bu (show 0<=(i:Int)/\(i:Int)<(s.aj.len:Int)by omega),p2,kc f];congr 1;simp only[seB];grind;simp only [dR h0,dN,kc f];congr 1;simp only[seB];grind;rw[zvF];simp only[RX,Kq,dN];rw[kc k];congr 1;cases fA (seB s) s.aj.len<;>rfl
 simp only[OY,aY,lp,kc k];congr 1;simp only[fD];cases inB s.aj.len 1 16<;>rfl
/-! The program. -/
abbrev zqn(C:bY×Int->ae Bool):Prop:=∀x m,0<=m/\m<=1000000000->C (x,m)=.ok (decide (-m<=x.Low/\x.Low<=x.High/\x.High<=m))
theorem zTc{E:zp0}(l7:BV E.iJ):zqn (zp1 E):=λx m h=>ae.ext λk=>by
 rw[zSQ];simp only[l7,aY,aW (x:=0-m) omY omY,kc k];congr 1;simp only[inB];grind
def shB(p:ai):Bool:=decide ((1<=p.View/\p.View<=2)/\(0<=p.Z/\p.Z<=100000)/\(-1000000<=p.First/\p.First<=1000000)/\(2<=p.aO/\p.aO<=100000)/\(1<=p.bG/\p.bG<=2000)/\(0<=p.dL/\p.dL<=100000) /\
 (-1000000<=p.bf.Low/\p.bf.Low<=p.bf.High/\p.bf.High<=1000000)/\(-1000000000<=p.Clock.Low/\p.Clock.Low<=p.Clock.High/\p.Clock.High<=1000000000)/\(0<=p.dP/\p.dP<=1000000)/\(0<=p.Least/\p.Least<=1000000)/\-1000000<=lfP p/\rtP p<=1000000)
abbrev zzI(C:placed->ae Bool):Prop:=∀p,C p=.ok (shB p.ai)
theorem zTd{E:zqc}(l7:BV E.iJ)(XE:zqn E.c164):zzI (zqd E):=λp=>ae.ext λk=>by
 rw[zSX];simp only[l7,XE _ _ (show(0:Int)<=1000000/\(1000000:Int)<=1000000000 by omega),XE _ _ (show(0:Int)<=1000000000/\(1000000000:Int)<=1000000000 by omega),aY,kc k];congr 1;have e1:aJ (aJ (aJ (p.ai.First-p.ai.aO)-p.ai.dL)+p.ai.bf.Low)=lfP p.ai:=rfl;have e2:aJ (aJ (aJ (p.ai.First+aJ (aJ (p.ai.bG+1)*p.ai.aO))+p.ai.dL)+p.ai.bf.High)=rtP p.ai:=rfl;simp only[e1,e2,shB,inB]
 grind (splits:=60)
abbrev zfs(C:placed->ae Bool):Prop:=∀p,C p=.ok (decide (p.ai.aT.len=0))
theorem zTe{E:zp7}:zfs (zp8 E):=λp=>ae.ext λk=>by
 rw[e232,aY];congr 1;grind
theorem zTf{E:zqa}:zfs (zqb E):=λp=>ae.ext λk=>by
 rw[e234,aY];congr 1;grind
abbrev zzJ(C:placed->ae Bool):Prop:=∀q,Few q.ai->C q=.ok (rY q.ai.aT q.ai.aO)
theorem zTg{E:zfp}(N:Big E.N)(l7:BV E.iJ):zzJ (zp9 E):=λq h=>ae.ext λk=>by
 rw[e233];have h':=h.1;refine(loopA (L:=λn v=>GX E n q v k) (p:=stB q.ai.aT q.ai.aO) (m:=q.ai.aT.len) (fin:=k (inB q.ai.aT.len 1 50)) (stop:=k false) omY (λn i hi=>?_) (λn=>?_) _ omY).trans ?_;obtain⟨f,h1,h2⟩:=two (GX E n q (aJ ((i:Int)+1)) k) (k false);rw[zjR,bu omY,<- h1,<- h2];simp only[l7,aY,gm];by_cases h0:(i:Int)>0;obtain⟨p1,p2⟩:=XF hi omY h0;simp only[bu p1,p2,kc f];congr 1;simp only[stB,inB];grind;simp only [dR h0,dN,kc f];congr 1;simp only[stB,inB];grind;rw[zjR];simp only[l7,aY,RX,Kq,dN];exact zfq k _ _
abbrev zzK(C:placed->ae Bool):Prop:=∀q,Few q.ai->C q=.ok (plB q.ai)
theorem zTh{E:zaX}(N:Big E.N)(l7:BV E.iJ)(zjQ:zzI E.zgS)(zzw:zfs E.c232)(zzx:zzJ E.c233)(zzy:zfs E.c234):zzK (zp2 E):=λq h=>ae.ext λk=>by
 have lp:∀q:placed,Few q.ai->xx E E.N q 0 k=k (decide (q.ai.Dead.len<=100)&&fA (dB q.ai) q.ai.Dead.len):=by
  intro q h;have h':=h.2;refine(loopA (L:=λn v=>xx E n q v k) (p:=dB q.ai) (m:=q.ai.Dead.len) (fin:=k (decide (q.ai.Dead.len<=100))) (stop:=k false) omY (λn i hi=>?_) (λn=>?_) _ omY).trans ?_;obtain⟨f,h1,h2⟩:=two (xx E n q (aJ ((i:Int)+1)) k) (k false);rw[zjP,bu omY,<- h1,<- h2];simp only[l7,aY,gm];by_cases h0:(i:Int)>0;obtain⟨p1,p2⟩:=XF hi omY h0;simp only[bu p1,p2,kc f];congr 1;simp only[dB];grind;simp only [dR h0,dN,kc f];congr 1;simp only[dB];grind;rw[zjP];simp only[RX,Kq,dN];congr 1;grind;rw[zfq,jqH]
 rw[zSS];simp only[l7,aY];have fin:plB q.ai=(inB q.ai.Kind 1 3&&shB q.ai&&cond (q.ai.Kind==2) (rY q.ai.aT q.ai.aO) (decide (q.ai.aT.len=0))&&(decide (q.ai.Dead.len<=100)&&fA (dB q.ai) q.ai.Dead.len)):=by
  simp only[plB,Vw,shB,inB];generalize rY q.ai.aT q.ai.aO=A;generalize fA (dB q.ai) q.ai.Dead.len=B
  grind (splits:=60)
 rw[fin];cases hk:inB q.ai.Kind 1 3 with
 | false=>exact zp3 _ _ _
 | true =>
  simp only[inB,lQ]at hk;have hc:q.ai.Kind=1\/q.ai.Kind=2\/q.ai.Kind=3:=by omega
  obtain⟨⟨kd,vw,z,fi,pi,st,sp,of,cl,ji,le,dr,de⟩,ix⟩:=q;rcases hc with e|e|e<;>simp only at e<;>subst e
  refine(zp4 E k ⟨⟨1,vw,z,fi,pi,st,sp,of,cl,ji,le,dr,de⟩,ix⟩).trans ?_;simp only[zjQ _,zzw _,aY,lp ⟨⟨1,vw,z,fi,pi,st,sp,of,cl,ji,le,dr,de⟩,ix⟩ h,kc k,knd];congr 1;grind;refine(zp5 E k ⟨⟨2,vw,z,fi,pi,st,sp,of,cl,ji,le,dr,de⟩,ix⟩).trans ?_;simp only[zjQ _,zzx ⟨⟨2,vw,z,fi,pi,st,sp,of,cl,ji,le,dr,de⟩,ix⟩ h,aY,lp ⟨⟨2,vw,z,fi,pi,st,sp,of,cl,ji,le,dr,de⟩,ix⟩ h,kc k,knd];congr 1;grind;refine(zp6 E k ⟨⟨3,vw,z,fi,pi,st,sp,of,cl,ji,le,dr,de⟩,ix⟩).trans ?_;simp only[zjQ _,zzy _,aY,lp ⟨⟨3,vw,z,fi,pi,st,sp,of,cl,ji,le,dr,de⟩,ix⟩ h,kc k,knd];congr 1;grind
theorem zTi{E:zfo}(N:Big E.N)(zzt:zzK E.c201)(l7:BV E.iJ):QSe (zpZ E):=λs h=>ae.ext λk=>by
 rw[e160];have h':=h.1;refine(loopA (L:=λn v=>GV E n s v k) (p:=seB s) (m:=s.aj.len) (fin:=k (inB s.aj.len 1 16)) (stop:=k false) omY (λn i hi=>?_) (λn=>?_) _ omY).trans ?_;obtain⟨f,h1,h2⟩:=two (GV E n s (aJ ((i:Int)+1)) k) (k false);rw[zjO,bu omY,<- h1,<- h2];simp only[gm,zzt ⟨s.aj.get i,(i:Int)⟩ (h.2 i hi),aY];by_cases h0:(i:Int)>0;obtain⟨p1,p2⟩:=XF hi omY h0;simp only[bu p1,p2,kc f];congr 1;simp only[seB];grind;simp only [dR h0,dN,kc f];congr 1;simp only[seB];grind;rw[zjO];simp only[l7,aY,RX,Kq,dN];rw[zfq,jqH];rfl
abbrev zzL(C:ak->ae Int):Prop:=∀s,sV s->C s=.ok (cond (fD s) 0 2)
theorem zTj{E:zpO}(BR:QSe E.c160):zzL (zpP E):=λs h=>ae.ext λk=>by
 rw[zSF];simp only[BR s h,aY,kc k];congr 1;cases fD s<;>rfl
theorem kP{A:Type}{X:Nat->Nat->Option A}{m:Nat}{fin:Option A}(hL:∀n i,i<m->X (n+1) i=X n (i+1))(hE:∀n,X (n+1) m=fin):∀n,m<n->X n 0=fin:=by
 have key:∀d i n,i+d=m->d<n->X n i=fin:=by
  intro d
  induction d with
  | zero =>
   intro i n hi hn;obtain⟨n,rfl⟩:∃n',n=n'+1:=⟨n-1,omY⟩;have e:i=m:=by omega
   subst e;exact hE n
  | succ d ih =>
   intro i n hi hn;obtain⟨n,rfl⟩:∃n',n=n'+1:=⟨n-1,omY⟩;rw[hL n i omY];exact ih (i+1) n omY omY
 intro n hn;exact key m 0 n omY hn
theorem oU{s:ak}(h:fD s=true):1<=s.aj.len/\s.aj.len<=16:=by
 simp only[fD,inB,gq,lQ]at h;omega
theorem Nz{s:ak}(h:fD s=true){i:Nat}(hi:i<s.aj.len):plB (s.aj.get i)=true:=by
 simp only[fD,gq,dm]at h;have:=h.2 i hi;simp only[seB,gq]at this;exact this.1
theorem zIj{p:ai}(h:plB p=true):Vw p:=by
 simp only[plB,gq,lQ]at h;exact h.1.1.1
theorem xA{s:ak}(h:fD s=true){i:Nat}(hi:i<s.aj.len):Vw (s.aj.get i):=zIj (Nz h hi)
def knB(p:ai)(h:bg):Bool:=cond (p.Kind==2) (decide (h.kG=1)&&inB h.aT 0 1000000) (cond (p.Kind==3) (decide (h.aT=0)&&decide (h.Time=0)) (decide (h.aT=0)))
def lvB(p:ai)(h:bg):Bool:=fA (λj=>!inB (p.Dead.get j) h.Channel (h.Channel+h.kG-1)) p.Dead.len
def hpB(p:ai)(h:bg):Bool:=inB h.Channel 0 (p.bG-1)&&inB h.kG 1 (p.bG-h.Channel)&&inB h.CS p.Least 1000000&&inB h.Time (-1000000000) 1000000000&&lvB p h&&knB p h
def lM(s:ak)(h:bg):Bool:=decide (0<=h.ai/\h.ai<s.aj.len)&&hpB (s.aj.get h.ai.toNat) h
abbrev zqo(C:ai×Int->ae Bool):Prop:=∀p c,Few p->C (p,c)=.ok (!fA (λj=>!decide (p.Dead.get j=c)) p.Dead.len)
theorem zTk{E:zfi}(N:Big E.N):zqo (zpG E):=λp c h=>ae.ext λk=>by
 have hd:=h.2;rw[e137];refine(loopA (L:=λn v=>Ns E n p c v k) (p:=λj=>!decide (p.Dead.get j=c)) (m:=p.Dead.len) (fin:=k false) (stop:=k true) omY (λn i hi=>?_) (λn=>?_) _ omY).trans ?_;obtain⟨f,h1,h2⟩:=two (Ns E n p c (aJ ((i:Int)+1)) k) (k true);rw[zjH,bu omY,<- h1,<- h2];simp only[gm,kc f];congr 1;grind;rw[zjH];simp only[RX,Kq,dN];cases fA (λj=>!decide (p.Dead.get j=c)) p.Dead.len<;>rfl
theorem zIk{p:ai}{h:bg}(hm:0<=h.kG):fA (λi=>fA (λj=>!decide (p.Dead.get j=h.Channel+(i:Int))) p.Dead.len) h.kG.toNat=lvB p h:=by
 rw[VG];simp only[lvB,dm,H6,dqQ,inB];constructor;intro h1 j hj h2;have:=h1 (p.Dead.get j-h.Channel).toNat omY j hj;omega;intro h1 i hi j hj h2;exact h1 j hj omY
abbrev zzM(C:ak×bg->ae Bool):Prop:=∀s h,sV s->fD s=true->C (s,h)=.ok (lM s h)
theorem zTl{E:zfj}(N:Big E.N)(OY:BV E.uZ)(zaU:zqo E.PI):zzM (zpH E):=λs h hs hb=>ae.ext λk=>by
 rw[e143,aY];have hl:=oU hb;simp only[OY,aY,aW (x:=(s.aj.len:Int)-1) omY omY];by_cases hp:0<=h.ai/\h.ai<s.aj.len
 ·have hn := xA hb (i := h.ai.toNat) omY;have hf:=hs.2 h.ai.toNat omY;have e1:inB h.ai 0 (s.aj.len - 1)=true:=by simp only[inB,lQ];omega
  simp only[e1,I7,dN,bu hp,lM,dC hp,I5];obtain⟨_,_,_,_,_,FT,_⟩:=hn;simp only[aW (x:=(s.aj.get h.ai.toNat).bG-1) omY omY,hpB];cases c1:inB h.Channel 0 ((s.aj.get h.ai.toNat).bG-1)with
  | false=>rfl
  | true =>
  simp only[inB,lQ]at c1;simp only[I7,dN,I5,aW (x:=(s.aj.get h.ai.toNat).bG-h.Channel) omY omY];cases c2:inB h.kG 1 ((s.aj.get h.ai.toNat).bG-h.Channel)with
  | false=>rfl
  | true =>
  simp only[inB,lQ]at c2;simp only[I7,dN,I5];cases inB h.CS (s.aj.get h.ai.toNat).Least 1000000 with
  | false=>rfl
  | true =>
  cases inB h.Time (-1000000000) 1000000000 with
  | false=>rfl
  | true =>
  simp only[I7,dN,I5];refine(loopA (L:=λn v=>TU E n s h v k) (p:=λi=>fA (λj=>!decide ((s.aj.get h.ai.toNat).Dead.get j=h.Channel+(i:Int))) (s.aj.get h.ai.toNat).Dead.len) (m:=h.kG.toNat) (fin:=k (knB (s.aj.get h.ai.toNat) h)) (stop:=k false) omY (λn i hi=>?_) (λn=>?_) _ omY).trans ?_;rw [zjI,dC (show(i:Int)<h.kG by omega),dO,aW (x:=h.Channel+i) omY omY,zaU _ _ hf,aY];cases fA (λj=>!decide ((s.aj.get h.ai.toNat).Dead.get j=h.Channel+(i:Int))) (s.aj.get h.ai.toNat).Dead.len<;>rfl;rw [zjI,dR (show ¬((h.kG.toNat:Int)<h.kG)by omega),dN];simp only[OY,aY,kc k];congr 1;simp only[knB,inB];grind;rw[zfq,zIk omY]
 have e1:inB h.ai 0 (s.aj.len-1)=false:=by simp only [inB,dqQ];omega
 simp only[e1,qdQ,dO,lM,dR hp,ZL]
def ofP(s:ak)(h:bg):placed:=cond (decide (0<=h.ai/\h.ai<s.aj.len)) ⟨s.aj.get h.ai.toNat,h.ai⟩ ⟨⟨0,0,0,0,0,0,0,⟨0,0⟩,⟨0,0⟩,0,0,⟨0,λ_=>default⟩,⟨0,λ_=>default⟩⟩,0⟩
abbrev zft(C:ak×bg->ae (placed×Bool)):Prop:=∀s h,sV s->fD s=true->C (s,h)=.ok (ofP s h,lM s h)
theorem zTm{E:zfn}(N:Big E.N)(l7:BV E.iJ):zft (zpW E):=λs h hs hb=>ae.ext λk=>by
 rw[zSM,aY];have hl:=oU hb;simp only[l7,aY,aW (x:=(s.aj.len:Int)-1) omY omY];by_cases hp:0<=h.ai/\h.ai<s.aj.len
 ·have hn := xA hb (i := h.ai.toNat) omY;have hf:=hs.2 h.ai.toNat omY;have e1:inB h.ai 0 (s.aj.len - 1)=true:=by simp only[inB,lQ];omega
  simp only[e1,I7,dN,bu hp,lM,dC hp,I5,ofP,dO];obtain⟨_,_,_,_,_,FT,_⟩:=hn;have hd:=hf.2;simp only[aW (x:=(s.aj.get h.ai.toNat).bG-1) omY omY,hpB];cases c1:inB h.Channel 0 ((s.aj.get h.ai.toNat).bG-1)with
  | false=>rfl
  | true =>
  simp only[inB,lQ]at c1;simp only[I7,dN,I5,aW (x:=(s.aj.get h.ai.toNat).bG-h.Channel) omY omY];cases c2:inB h.kG 1 ((s.aj.get h.ai.toNat).bG-h.Channel)with
  | false=>rfl
  | true =>
  simp only[inB,lQ]at c2;simp only[I7,dN,I5];cases inB h.CS (s.aj.get h.ai.toNat).Least 1000000 with
  | false=>rfl
  | true =>
  cases c3:inB h.Time (-1000000000) 1000000000 with
  | false=>rfl
  | true =>
  simp only[I7,dN,I5];refine(loopA (L:=λn v=>TW E n s h v k) (p:=λj=>!inB ((s.aj.get h.ai.toNat).Dead.get j) h.Channel (h.Channel+h.kG-1)) (m:=(s.aj.get h.ai.toNat).Dead.len) (fin:=k (⟨s.aj.get h.ai.toNat,h.ai⟩,knB (s.aj.get h.ai.toNat) h)) (stop:=k (⟨s.aj.get h.ai.toNat,h.ai⟩,false)) omY (λn i hi=>?_) (λn=>?_) _ omY).trans ?_;rw [zjN,dC (show(i:Int)<_ by omega),dO,bu omY,l7,aY,aW (x:=h.Channel+h.kG) omY omY,aW (x:=h.Channel+h.kG-1) omY omY,gm];cases inB ((s.aj.get h.ai.toNat).Dead.get i) h.Channel (h.Channel+h.kG-1)<;>rfl;rw [zjN];simp only [RX,Kq,dN,l7,aY,kc k];congr 1;simp only[knB,inB]
  grind
  simp only [lvB];cases fA (λj=>!inB ((s.aj.get h.ai.toNat).Dead.get j) h.Channel (h.Channel+h.kG-1)) (s.aj.get h.ai.toNat).Dead.len<;>rfl
 have e1:inB h.ai 0 (s.aj.len-1)=false:=by simp only [inB,dqQ];omega
 simp only[e1,qdQ,dO,lM,dR hp,ZL,ofP,dN]
abbrev zqp(C:ak×bg->ae Bool):Prop:=∀s h,sV s->C (s,h)=.ok (fD s&&lM s h)
theorem zTn{E:zqe}(BR:QSe E.c160)(AV:zft E.uP):zqp (zqf E):=λs h hs=>ae.ext λk=>by
 rw[zSZ,BR s hs,aY,aY];cases hb:fD s with|false=>rfl|true=>simp only[I7,dN,AV s h hs hb,aY,I5]
abbrev zzN(C:ak×bg->ae Int):Prop:=∀s h,sV s->C (s,h)=.ok (cond (fD s&&lM s h) 0 2)
theorem zTo{E:zpS}(zaW:zqp E.Vh):zzN (zpT E):=λs h hs=>ae.ext λk=>by
 rw[e138,zaW s h hs,aY,aY];cases fD s&&lM s h<;>rfl
def vP(l:Sl aT)(t:Int):Nat→Int|0=>0|n+1=>cond (decide ((l.get n).Time<=t)) (l.get n).dV.Low (vP l t n)
def zC(l:Sl aT)(t z:Int):Nat→Int|0=>z|d+1=>cond (decide ((l.get (l.len-1-d)).Time>=t)) (l.get (l.len-1-d)).dV.High (zC l t z d)
def uJ(p:ai)(t:Int):Int×Int:=(vP p.aT (aJ (t-p.dP)) p.aT.len,zC p.aT (aJ (t+p.dP)) (aJ (p.aO.tdiv 2)) p.aT.len)
abbrev zzO(C:ai×Int->ae (Int×Int)):Prop:=∀p t,Few p->C (p,t)=.ok (uJ p t)
theorem zTp{E:zaT}(N:Big E.N):zzO (zpF E):=λp t h=>ae.ext λk=>by
 have hd:=h.1;rw[zSm,aY];refine kP (X:=λn i=>Nq E n p t (vP p.aT (aJ (t-p.dP)) i) (aJ (p.aO.tdiv 2)) (i:Int) k) (m:=p.aT.len) (λn i hi=>?_) (λn=>?_) _ omY;rw [zjF,dC (show(i:Int)<_ by omega),dO,bu omY,bu omY,bD omY,gm];simp only[vP];cases decide ((p.aT.get i).Time<=aJ (t-p.dP))<;>rfl;rw [zjF];simp only [RX,Kq,dN];rw[show aJ ((p.aT.len:Int)-1)=aJ ((p.aT.len:Int)-1)-((0:Nat):Int)by simp];refine kP (X:=λn i=>Nr E n p t (vP p.aT (aJ (t-p.dP)) p.aT.len) (zC p.aT (aJ (t+p.dP)) (aJ (p.aO.tdiv 2)) i) (aJ ((p.aT.len:Int)-1)-(i:Int)) k) (m:=p.aT.len) (λn i hi=>?_) (λn=>?_) _ omY;rw [uI omY,zjG,dC (show(p.aT.len:Int)-1-i≥0 by omega),dO,bu omY,bu omY,aW (x:=(p.aT.len:Int)-1-i-1) omY omY,show((p.aT.len:Int)-1-i).toNat=p.aT.len-1-i by omega];simp only[zC];cases decide ((p.aT.get (p.aT.len-1-i)).Time>=aJ (t+p.dP))<;>simp only[dO,dN]<;>congr 1<;>omega;rw[uI omY,zjG,dR omY,dN];rfl
def bk(l:Sl aT):Nat→List (Int×aT)|0=>[]|n+1=>((n:Int),l.get n)::bk l n
theorem Ec{δ ε:Type}[dF δ][dF ε]{R:List PA→YO}{x:δ}{l:List ε}(h:R (dF.enc x)=some (l.map dF.enc))(hc:∀y:ε,dF.ck (α:=ε) (dF.enc y)=true)(hd:∀y:ε,dF.dec (dF.enc y)=y) :
  (ae.tyI (λc=>.opt (R c)) x:ae (List ε))=.ok l:=by
 refine ae.ext λk=>?_;show(ae.opt (R (dF.enc x))).T _=_;rw[h];show(ae.chk ((l.map dF.enc).all (dF.ck (α:=ε))) (ae.ok ((l.map dF.enc).map dF.dec))).T k=k l;rw[show(l.map dF.enc).all (dF.ck (α:=ε))=true by simp[hc],show(l.map dF.enc).map dF.dec=l by rw[qdO];exact(qda λy _=>hd y).trans (qjv l)];rfl
abbrev zzQ(I:Pt (Sl aT)->ae (List (Int×aT))):Prop:=∀l,l.v.len<=60->I l=.ok (bk l.v l.v.len)
theorem zTq{E:za0}(N:Big E.N):zzQ (zzE E):=λl h=>by
 refine Ec ?_ (λ_=>rfl) (λ_=>rfl);rw[e251];have key:∀d n,d<=l.v.len->d<n->TY E n l ((d:Int)-1)=some ((bk l.v d).map dF.enc):=by
  intro d
  induction d with
  | zero =>
   intro n _ hn;obtain⟨n,rfl⟩:∃n',n=n'+1:=⟨n-1,omY⟩;rw[zjT,dR omY];rfl
  | succ d ih =>
   intro n hd hn;obtain⟨n,rfl⟩:∃n',n=n'+1:=⟨n-1,omY⟩;rw[zjT,dC omY,dO,bu omY,show((d+1:Nat):Int)-1=(d:Int)by omega,uI omY,ih n omY omY,gm];rfl
 rw[uI omY];exact key _ _ (kD _) omY
abbrev zzR(C:placed×Int->ae (Int×Int)):Prop:=∀q t,Few q.ai->C (q,t)=.ok (uJ q.ai t)
theorem zTr{E:zaZ}(N:Big E.N)(zTs:zzQ E.zuH):zzR (zqk E):=λq t h=>ae.ext λk=>by
 have hd:=h.1;rw[e224,aY];refine kP (X:=λn i=>Ny E n q t (vP q.ai.aT (aJ (t-q.ai.dP)) i) (i:Int) (aJ (q.ai.aO.tdiv 2)) k) (m:=q.ai.aT.len) (λn i hi=>?_) (λn=>?_) _ omY;rw [zjS,dC (show(i:Int)<_ by omega),dO,bu omY,bD omY,gm];simp only[vP];cases decide ((q.ai.aT.get i).Time<=aJ (t-q.ai.dP))<;>rfl;rw [zjS];simp only [RX,Kq,dN];rw[zTs _ hd,aY];have key:∀d,d<=q.ai.aT.len->GY E (bk q.ai.aT d) q t (vP q.ai.aT (aJ (t-q.ai.dP)) q.ai.aT.len) (zC q.ai.aT (aJ (t+q.ai.dP)) (aJ (q.ai.aO.tdiv 2)) (q.ai.aT.len-d)) k=k (uJ q.ai t):=by
  intro d
  induction d with
  | zero=>intro _;rw[bk,zql];rfl
  | succ d ih =>
   intro hi;rw[bk,zzD];have e:q.ai.aT.len-d=(q.ai.aT.len-(d+1))+1:=by omega
   have ih:=ih omY;rw[e]at ih;simp only[zC,show q.ai.aT.len-1-(q.ai.aT.len-(d+1))=d by omega]at ih;revert ih;cases decide ((q.ai.aT.get d).Time>=aJ (t+q.ai.dP))<;>exact id
 have:=key q.ai.aT.len (kD _);rwa[Nat.sub_self]at this
def gate(p:ai)(a b:Int):au:=⟨p.Z,aJ (a+p.bf.Low),aJ (b+p.bf.High)⟩
def gaP(p:ai)(h:bg):Sl au :=
  cond (p.Kind != 2)
    (cond (decide (aJ (aJ (p.First + aJ (aJ (aJ (h.Channel + h.kG) - 1) * p.aO)) - p.dL) > aJ (aJ (p.First + aJ (aJ (h.Channel + 1) * p.aO)) + p.dL))) ⟨0, fun _ => default⟩
      ⟨1,λ_=>gate p (aJ (aJ (p.First+aJ (aJ (aJ (h.Channel+h.kG)-1)*p.aO))-p.dL)) (aJ (aJ (p.First+aJ (aJ (h.Channel+1)*p.aO))+p.dL))⟩)
    (cond (decide ((gate p (aJ (aJ (p.First+aJ (h.Channel*p.aO))-(uJ p h.aT).2)) (aJ (aJ (p.First+aJ (h.Channel*p.aO))-(uJ p h.aT).1))).High≥(gate p (aJ (aJ (p.First+aJ (h.Channel*p.aO))+(uJ p h.aT).1)) (aJ (aJ (p.First+aJ (h.Channel*p.aO))+(uJ p h.aT).2))).Low))
      ⟨1,λ_=>⟨p.Z,(gate p (aJ (aJ (p.First+aJ (h.Channel*p.aO))-(uJ p h.aT).2)) (aJ (aJ (p.First+aJ (h.Channel*p.aO))-(uJ p h.aT).1))).Low,(gate p (aJ (aJ (p.First+aJ (h.Channel*p.aO))+(uJ p h.aT).1)) (aJ (aJ (p.First+aJ (h.Channel*p.aO))+(uJ p h.aT).2))).High⟩⟩
      ⟨2,gK [gate p (aJ (aJ (p.First+aJ (h.Channel*p.aO))-(uJ p h.aT).2)) (aJ (aJ (p.First+aJ (h.Channel*p.aO))-(uJ p h.aT).1)),gate p (aJ (aJ (p.First+aJ (h.Channel*p.aO))+(uJ p h.aT).1)) (aJ (aJ (p.First+aJ (h.Channel*p.aO))+(uJ p h.aT).2))]⟩)
theorem TZ(p:ai)(h:bg):(gaP p h).len<=2:=by
 have key:∀(a b c:Bool)(x y z w:Sl au),x.len<=2->y.len<=2->z.len<=2->w.len<=2->(cond a (cond b x y) (cond c z w)).len<=2:=by
  intro a b c x y z w h1 h2 h3 h4;cases a<;>cases b<;>cases c<;>assumption
 exact key _ _ _ _ _ _ _ (ui _) (by simp) (by simp) (by simp)
abbrev zzS(C:placed×Int×Int->ae au):Prop:=∀q a b,C (q,a,b)=.ok (gate q.ai a b)
theorem zTt{E:zqi}:zzS (zqj E):=λq a b=>ae.ext λk=>e223 E k q a b
abbrev zzT(C:placed×bg->ae (Sl au)):Prop:=∀q h,Few q.ai->C (q,h)=.ok (gaP q.ai h)
theorem zTu{E:zqg}(zzz:zzS E.zgR)(zzA:zzR E.zuA):zzT (zqh E):=λq h hf=>ae.ext λk=>by
 rw[e189,aY];simp only[zzz,zzA _ _ hf,aY,kc k];rfl
def vS(s:ak)(h:bg):Sl au:=gaP (s.aj.get h.ai.toNat) h
abbrev Q75(C:ak×bg->ae (Sl au)):Prop:=∀s h,sV s->0<=h.ai/\h.ai<(s.aj.len:Int)->C (s,h)=.ok (vS s h)
theorem s75{E:E75}(zzc:zzO E.zui):Q75 (F75 E):=λs h hs hp=>ae.ext λk=>by
 rw[e75,aY,bu hp];simp only[zzc _ _ (hs.2 h.ai.toNat omY),aY,kc k];rfl
theorem NC{s:ak}{h:bg}(hh:lM s h=true):0<=h.ai/\h.ai<s.aj.len:=by
 simp only[lM,gq,lQ]at hh;exact hh.1
theorem zjY{s:ak}{h:bg}(hh:lM s h=true):ofP s h=⟨s.aj.get h.ai.toNat,h.ai⟩:=by
 unfold ofP;rw[dC (NC hh)];rfl
abbrev zzU(C:ak×bg->ae (Sl au×Int)):Prop:=∀s h,sV s->C (s,h)=.ok (cond (fD s&&lM s h) (cond (((vS s h).len:Int)==0) (⟨0,λ_=>default⟩,5) (vS s h,0)) (⟨0,λ_=>default⟩,2))
theorem zTv{E:zpU}(zaW:zqp E.Vh)(AV:zft E.uP)(zzs:zzT E.zus):zzU (zpV E):=λs h hs=>ae.ext λk=>by
 rw[zSK,zaW s h hs,aY,aY];cases hb:fD s&&lM s h with
 | false=>rfl
 | true =>
  rw[gq]at hb;have hp:=NC hb.2;simp only[I7,dN,AV s h hs hb.1,aY,zjY hb.2,zzs ⟨s.aj.get h.ai.toNat,h.ai⟩ h (hs.2 _ omY),kc k];rfl
def uK(r:bF):Bool:=inB r.mO 1 16&&inB r.o7 0 16
abbrev Q62(C:bF->ae Bool):Prop:=∀r,C r=.ok (uK r)
theorem s62{E:E62}(h86:BV E.Zj):Q62 (F62 E):=λr=>ae.ext λk=>by
 rw[e62];simp only[h86,aY,kc k];congr 1;simp only[uK];cases inB r.mO 1 16<;>rfl
def vwB(x:Int):Bool:=decide (x=1\/x=2)
abbrev QVw(C:Int->ae Bool):Prop:=∀x,C x=.ok (vwB x)
theorem s34{E:E34}:QVw (F34 E):=λx=>ae.ext λk=>by rw[e34,kc k,aY];congr 1;simp only[vwB];grind
theorem s96{E:E96}:QVw (F96 E):=λx=>ae.ext λk=>by rw[e96,kc k,aY];congr 1;simp only[vwB];grind
abbrev Q60(C:ak×bF->ae Int):Prop:=∀s r,sV s->C (s,r)=.ok (cond (fD s&&uK r) 0 2)
theorem s60{E:E60}(zEo:zzL E.zuf)(Xx:BV E.Hu):Q60 (F60 E):=λs r h=>ae.ext λk=>by
 rw[e60];simp only[zEo s h,Xx,aY,kc k,uK];congr 1;cases fD s<;>cases inB r.mO 1 16<;>cases inB r.o7 0 16<;>rfl
def Ed(s:ak)(l:Sl bg):Bool:=fA (λi=>lM s (l.get i)) l.len
abbrev Q85(C:ak×Sl bg->ae Bool):Prop:=∀s l,sV s->fD s=true->l.len<=40->C (s,l)=.ok (Ed s l)
theorem s85{E:E85}(N:Big E.N)(zzd:zzM E.c143):Q85 (F85 E):=λs l hs hb hl=>ae.ext λk=>by
 rw[e85];refine(loopA (L:=λn v=>zc8 E n s l v k) (p:=λi=>lM s (l.get i)) (m:=l.len) (fin:=k true) (stop:=k false) omY (λn i hi=>?_) (λn=>?_) _ omY).trans ?_;rw [zvI,dC (show(i:Int)<_ by omega),dO,bu omY,gm,zzd _ _ hs hb,aY];cases lM s (l.get i)<;>rfl;rw[zvI];simp only[RX,Kq,dN];rw[aY];simp only[Ed];cases fA (λi=>lM s (l.get i)) l.len<;>rfl
def gw{α:Type}[bI α](z f:Nat→α):Nat→Sl α|0=>⟨0,z⟩|n+1=>⟨n+1,jy n (gw z f n).get λ_=>f n⟩
theorem lD{α:Type}[bI α](z f:Nat->α)(n:Nat):(gw z f n).len=n:=by cases n<;>rfl
theorem BX{α:Type}[bI α][sU α]{z f:Nat→α}:∀{n i:Nat},i<n→(gw z f n).get i=f i
  | n+1,i,h=>by
    show jy n (gw z f n).get (λ_=>f n) i=f i;rw[jQ];by_cases hi:n<=i;rw[eY hi,show i=n by omega];rw[fH hi];exact BX omY
theorem zqq{n b:Nat}(hn:n<=1000000)(hb:b<=1000):room n b=true:=by
 refine dC ⟨?_,omY⟩;have:=jqA hn hb;omega
theorem jg{A:Type}{n b:Nat}{x:Option A}(hn:n<=1000000)(hb:b<=1000):aV (room n b) x=x:=by rw[zqq hn hb];rfl
theorem zqr{p:ai}{h:bg}:(gaP p h).len=0->gaP p h=⟨0,λ_=>default⟩:=by
 have key:∀(a b c:Bool)(y z w:Sl au),0<y.len->0<z.len->0<w.len->(cond a (cond b (⟨0,λ_=>default⟩:Sl au) y) (cond c z w)).len=0->cond a (cond b (⟨0,λ_=>default⟩:Sl au) y) (cond c z w)=⟨0,λ_=>default⟩:=by
  intro a b c y z w h2 h3 h4 h;cases a<;>cases b<;>cases c<;>simp only[dO,dN]at h ⊢ <;> omega
 exact key _ _ _ _ _ _ (by simp) (by simp) (by simp)
def z0:Nat->au:=λ_=>⟨0,0,0⟩
def evG(s:ak)(l:Sl bg):Sl (Sl au):=gw (λ_=>⟨0,z0⟩) (λi=>vS s (l.get i)) l.len
theorem Ua(s:ak)(l:Sl bg):(evG s l).len=l.len:=lD _ _ _
theorem JJ{s:ak}{l:Sl bg}{i:Nat}(h:i<l.len):(evG s l).get i=vS s (l.get i):=BX h
def iD(s:ak)(r:bF)(l:Sl bg):Pt aS:=⟨⟨s,l,evG s l,r⟩⟩
def jY(s:ak)(r:bF)(l:Sl bg):Int:=cond (decide (l.len>24)) 3 (cond (fD s&&uK r&&Ed s l) 0 2)
def opn(s:ak)(r:bF)(l:Sl bg):Int ⊕ (Pt aS×Int):=cond (jY s r l==0) (.inr (iD s r l,0)) (.inl (jY s r l))
abbrev Q78(C:ak×bF×Sl bg->ae (Int ⊕ (Pt aS×Int))):Prop:=∀s r l,sV s->l.len<=40->C (s,r,l)=.ok (opn s r l)
theorem s78{E:E78}(N:Big E.N)(h60:Q60 E.c60)(zzm:zzN E.c138)(zzn:zzU E.c139):Q78 (F78 E):=λs r l hs hl=>ae.ext λk=>by
 rw[e78,aY];by_cases h24:(l.len:Int)>24;rw [dC h24];have:jY s r l=3:=by unfold jY;rw[dC (show l.len>24 by omega)];rfl
 simp only[opn,this];rfl
 ·rw [dR h24, dN, h60 s r hs, aY];have e1:jY s r l=cond (fD s && uK r && Ed s l) 0 2:=by unfold jY;rw[dR (show ¬ l.len > 24 by omega)];rfl
  cases hb:fD s&&uK r with
  | false =>
   have:jY s r l=2:=by rw[e1,hb];rfl
   simp only[opn,this];rfl
  | true =>
   have hsb:=(gq _ _▸hb).1;refine(loopA (L:=λn v=>Xy E n s r l v (gw (λ_=>⟨0,z0⟩) (λi=>vS s (l.get i)) v.toNat) k) (p:=λi=>lM s (l.get i)) (m:=l.len) (fin:=k (.inr (iD s r l,0))) (stop:=k (.inl 2)) omY (λn i hi=>?_) (λn=>?_) _ omY).trans ?_
   ·rw [zvK,dC (show(i:Int)<_ by omega),dO,bu omY,gm,zzm _ _ hs,aY,hsb,I5];cases hh:lM s (l.get i)with
    | false=>rfl
    | true =>
     rw[zzn _ _ hs,aY,hsb,hh];have e2:Xz E n s r l (vS s (l.get i)) (i:Int) (gw (λ_=>⟨0,z0⟩) (λi=>vS s (l.get i)) i) k=Xy E n s r l (aJ ((i:Int)+1)) (gw (λ_=>⟨0,z0⟩) (λi=>vS s (l.get i)) (aJ ((i:Int)+1)).toNat) k:=by
      rw[zH2,lD,jg omY omY,bD omY,gm];rfl
     by_cases h0:(vS s (l.get i)).len=0;have e3:((vS s (l.get i)).len:Int)==0:=by rw [h0];rfl
     simp only[e3,qjN,dO];show Xz E n s r l ⟨0,λ_=>default⟩ _ _ k=_;rw[<- zqr (p:=s.aj.get (l.get i).ai.toNat) (h:=l.get i) h0];exact e2;have e3:(((vS s (l.get i)).len:Int)==0)=false:=by rw [qdS];omega
     simp only[e3,qjN,dO,dN];exact e2
   rw[zvK];simp only[RX,Kq,dN,gm];rfl;have:jY s r l=cond (Ed s l) 0 2:=by rw [e1,hb];rfl
   simp only[opn,this,Ed];cases fA (λi=>lM s (l.get i)) l.len<;>rfl
def Ub(l:Sl bg)(w:Sl Int)(n:Nat)(p:Int):Bool:=fA (λj=>!decide ((l.get (w.get j).toNat).ai=p)) n
abbrev Q87(C:Sl bg×Sl Int×Int->ae Bool):Prop:=∀l w p,w.len<=100->(∀j,j<w.len->0<=w.get j/\w.get j<l.len)->C (l,w,p)=.ok (!Ub l w w.len p)
theorem s87{E:E87}(N:Big E.N):Q87 (F87 E):=λl w p hw hv=>ae.ext λk=>by
 rw[e87,aY];refine(loopA (L:=λn v=>zc9 E n l w p v k) (p:=λj=>!decide ((l.get (w.get j).toNat).ai=p)) (m:=w.len) (fin:=k false) (stop:=k true) omY (λn i hi=>?_) (λn=>?_) _ omY).trans ?_;have:=hv i hi;rw[zvJ,dC (show(i:Int)<_ by omega),dO,bu omY,gm,bu omY];show cond ((l.get (w.get i).toNat).ai==p) _ _=cond (!((l.get (w.get i).toNat).ai==p)) _ _;cases(l.get (w.get i).toNat).ai==p<;>rfl;rw[zvJ];simp only[RX,Kq,dN];simp only[Ub];cases fA (λj=>!decide ((l.get (w.get j).toNat).ai=p)) w.len<;>rfl
def hiA(l:Sl bg)(t:af)(i:Nat):bg:=l.get (t.Hits.get i).toNat
def JK(s:ak)(l:Sl bg)(t:af)(i:Nat):Bool :=
 inB (t.Hits.get i) 0 ((l.len:Int)-1)&&(decide (i=0)||decide (t.Hits.get (i-1)<t.Hits.get i))&&decide ((s.aj.get (hiA l t i).ai.toNat).View=t.View)&&inB (t.aU.get i) 0 (((vS s (hiA l t i)).len:Int)-1)&&Ub l t.Hits i (hiA l t i).ai
def kZ(s:ak)(l:Sl bg)(t:af):Bool:=vwB t.View&&decide (0<t.Hits.len)&&decide (t.aU.len=t.Hits.len)&&fA (JK s l t) t.Hits.len
structure Evt (s : ak) (l : Sl bg) : Prop where
  sh:sV s
  se:fD s=true
  hi:Ed s l=true
  le:l.len<=40
theorem Evt.pl{s:ak}{l:Sl bg}(h:Evt s l){i:Nat}(hi:i<l.len):0<=(l.get i).ai/\(l.get i).ai<s.aj.len:=NC (dm.1 h.hi i hi)
theorem ND{s:ak}{l:Sl bg}{t:af}{i:Nat}(h:JK s l t i=true):0<=t.Hits.get i/\t.Hits.get i<l.len:=by
 simp only[JK,gq,inB,lQ]at h;omega
theorem XG{s:ak}{l:Sl bg}{t:af}{i:Nat}(h:JK s l t i=true):0<=t.aU.get i/\t.aU.get i<(vS s (hiA l t i)).len:=by
 simp only[JK,gq,inB,lQ]at h;omega
abbrev QCh(C:ak×Sl bg×af->ae Bool):Prop:=∀s l t,Evt s l->t.Hits.len<=30->C (s,l,t)=.ok (kZ s l t)
theorem s27{E:E27}(N:Big E.N)(h34:QVw E.c34)(h86:BV E.Zj)(h75:Q75 E.c75)(h87:Q87 E.c87):QCh (F27 E):=λs l t he ht=>ae.ext λk=>by
 have hle:=he.le;rw[e27,h34,aY,aY];cases h1:vwB t.View with
 | false =>
  have:kZ s l t=false:=by simp only[kZ,h1,ZL]
  rw[this];rfl
 | true =>
 by_cases h2:t.Hits.len=0;have:kZ s l t=false:=by simp only [kZ,h2,jqI,Kq,ZK,ZL]
 rw[this,h2];rfl;have h2':((t.Hits.len:Int)==0)=false:=by rw[qdS];omega
 by_cases h3:¬t.aU.len=t.Hits.len;have:kZ s l t=false:=by simp only [kZ,h3,Kq,ZK,ZL]
 rw[this,h2',show((t.aU.len:Int) != (t.Hits.len:Int))=true by rw[bne_iff_ne];omega];rfl;have h3:t.aU.len=t.Hits.len:=by omega
 rw[h2',show((t.aU.len:Int) != (t.Hits.len:Int))=false by rw[qj2];omega];simp only[I7,dN];have:kZ s l t=fA (JK s l t) t.Hits.len:=by simp only[kZ,h1,h3,decide_true,I5,dC (show 0<t.Hits.len by omega)]
 rw[this];refine(zjU (L:=λn v=>Xw E n s l t v k) (p:=JK s l t) (m:=t.Hits.len) (fin:=k true) (stop:=k false) omY (λn i hi hp=>?_) (λn _=>?_) _ omY).trans ?_
 ·rw [zvE,dC (show(i:Int)<_ by omega),dO,bu omY,uI omY,gm,h86,aY];cases c1:inB (t.Hits.get i) 0 ((l.len:Int)-1)with
  | false=>simp only[JK,c1,ZL];rfl
  | true =>
  have c1':0<=t.Hits.get i/\t.Hits.get i<l.len:=by simp only[inB,lQ]at c1;omega
  have Jk:=he.pl (i:=(t.Hits.get i).toNat) omY;have c2:zc6 E n s l t (i:Int) k=cond (decide ((s.aj.get (hiA l t i).ai.toNat).View=t.View)&&inB (t.aU.get i) 0 (((vS s (hiA l t i)).len:Int)-1)&&Ub l t.Hits i (hiA l t i).ai) (Xw E n s l t (aJ ((i:Int)+1)) k) (k false):=by
   rw[zHU,bu omY,gm,bu omY,zHV,bu Jk,<- hiA];by_cases v:¬(s.aj.get (hiA l t i).ai.toNat).View=t.View;rw[show((s.aj.get (hiA l t i).ai.toNat).View != t.View)=true from bne_iff_ne.2 v,dR v];rfl;have v:(s.aj.get (hiA l t i).ai.toNat).View=t.View:=qdA v;have hg:=TZ (s.aj.get (hiA l t i).ai.toNat) (hiA l t i);rw[show((s.aj.get (hiA l t i).ai.toNat).View != t.View)=false from qj2.2 v,dC v,dN,bu omY,h75 s (hiA l t i) he.sh Jk,aY,h86,aY,gm,uI (by simp only[vS];omega)];cases inB (t.aU.get i) 0 (((vS s (hiA l t i)).len:Int)-1)with
   | false=>rfl
   | true =>
    simp only[I7,dN,I5];rw[bu omY,h87 l ⟨((i:Int)-0).toNat,uY t.Hits.get 0⟩ _ (by show((i:Int)-0).toNat<=_;omega) (λj hj=>?_),aY];have:Ub l (⟨((i:Int)-0).toNat,uY t.Hits.get 0⟩:Sl Int) ((i:Int)-0).toNat (hiA l t i).ai=Ub l t.Hits i (hiA l t i).ai:=by
     rw[show((i:Int)-0).toNat=i by omega];rfl
    show cond (!Ub l (⟨((i:Int)-0).toNat,uY t.Hits.get 0⟩:Sl Int) ((i:Int)-0).toNat (hiA l t i).ai) _ _=_;rw[this];cases Ub l t.Hits i (hiA l t i).ai<;>rfl;have hj:j<((i:Int)-0).toNat:=hj;exact ND (hp j omY)
  simp only[I7,dN];by_cases h0:(i:Int)>0;obtain⟨p1,p2⟩:=XF (n:=t.Hits.len) hi omY h0;rw[dC h0,dO,bu omY,bu p1,p2,c2];by_cases d:t.Hits.get i<=t.Hits.get (i-1);rw [dC d];have:JK s l t i=false:=by simp only[JK,dR (show ¬i=0 by omega),dR (show ¬t.Hits.get (i-1)<t.Hits.get i by omega),jqV,ZK,ZL]
  rw[this];rfl;rw [dR d,dN];congr 1;simp only[JK,c1,dC (show t.Hits.get (i-1)<t.Hits.get i by omega),qjV,I5];rw [dR h0,dN,c2];congr 1;simp only[JK,c1,dC (show i=0 by omega),jqW,I5]
 rw[zvE];simp only[RX,Kq,dN];cases fA (JK s l t) t.Hits.len<;>rfl
/-! The program. -/
abbrev zqs(C:Pt aS×Int->ae Int):Prop:=∀s l r i,Evt s l->0<=i/\i<(l.len:Int)->C (iD s r l,i)=.ok (s.aj.get (l.get i.toNat).ai.toNat).View
theorem zTz{E:zpM}:zqs (zpN E):=λs l r i he hi=>ae.ext λk=>by
 have hp:=he.pl (i:=i.toNat) omY;exact(zSD E k _ _).trans ((bu (p:=0<=i/\i<(l.len:Int)) hi).trans (bu (p:=0<=(l.get i.toNat).ai/\(l.get i.toNat).ai<(s.aj.len:Int)) hp))
def mfS(l:Sl bg)(t:af):Nat→List Int→Option (List Int)|0=>λ_=>none|i+1=>Di [(hiA l t i).ai] [1] (mfS l t i)
def mnS(l:Sl bg)(t:af):Nat→Nat|0=>0|i+1=>addN (mfS l t i [(hiA l t i).ai]) (mnS l t i)
theorem zjZ{l:Sl bg}{t:af}{p:Int}:∀i,(yL (mfS l t i [p]) 0 != 0) = !Ub l t.Hits i p
  | 0=>rfl
  | i+1=>by
    simp only[mfS,Di,Ub,fA];by_cases h:(hiA l t i).ai=p;rw[dC (show [p]=[(hiA l t i).ai]by rw[h]),dC (show(l.get (t.Hits.get i).toNat).ai=p from h)];simp[yL];rw [dR (show ¬ [p]=[(hiA l t i).ai]by intro e;cases e;exact h rfl),dR (show ¬(l.get (t.Hits.get i).toNat).ai=p from h)];have:=zjZ (l:=l) (t:=t) (p:=p) i;simp only[Ub]at this;simp only[this,qdQ,qju]
abbrev Q79(C:Pt aS×af->ae Bool):Prop:=∀s l r t,Evt s l->t.Hits.len<=30->t.aU.len<=30->C (iD s r l,t)=.ok (kZ s l t)
theorem s79{E:E79}(N:Big E.N)(Xx:BV E.Hu)(zaV:zqs E.Ji)(h96:QVw E.c96):Q79 (F79 E):=λs l r t he ht hs=>ae.ext λk=>by
  have hle:=he.le;rw[e79,aY];refine(zjU (L:=λn v=>QO E n (iD s r l) t v (mnS l t v.toNat) (mfS l t v.toNat) k) (p:=λi=>JK s l t i&&decide (i<t.aU.len)) (m:=t.Hits.len) (fin:=k (vwB t.View&&decide (0<t.Hits.len)&&decide (t.aU.len=t.Hits.len))) (stop:=k false) omY (λn i hi hp=>?_) (λn _=>?_) _ omY).trans ?_
  · rw [zvL,dC (show(i:Int)<_ by omega),dO,bu omY,gm,show(iD s r l).v.hits=l from rfl,uI omY,Xx,aY];cases c1:inB (t.Hits.get i) 0 ((l.len:Int)-1)with
    | false=>simp only[JK,c1,ZL];rfl
    | true =>
    have c1':0<=t.Hits.get i/\t.Hits.get i<(l.len:Int):=by simp only[inB,lQ]at c1;omega
    have Jk:=he.pl (i:=(t.Hits.get i).toNat) omY;have hg:=TZ (s.aj.get (hiA l t i).ai.toNat) (hiA l t i);have hgg:(iD s r l).v.jr.get (t.Hits.get i).toNat=vS s (hiA l t i):=JJ omY;have hgl:((iD s r l).v.jr.len:Int)=l.len:=by show((evG s l).len:Int)=l.len;rw[Ua]
    have e2:XB E n (iD s r l) t (t.Hits.get i) (i:Int) (mnS l t i) (mfS l t i) k=QO E n (iD s r l) t (aJ ((i:Int)+1)) (mnS l t (aJ ((i:Int)+1)).toNat) (mfS l t (aJ ((i:Int)+1)).toNat) k:=by
      rw[zH3,bu (by exact c1'),bD omY,gm];rfl
    have c2 : ∀ X : Option _, (E.Ji (iD s r l, t.Hits.get i)).T (fun r2 => cond (r2 != t.View) X (aV (decide (0 ≤ t.Hits.get i ∧ t.Hits.get i < (l.len : Int))) (cond (yL (mfS l t i [(l.get (t.Hits.get i).toNat).ai]) 0 != 0) X
        (cond (decide ((i:Int)≥(t.aU.len:Int))) X (aV (decide (0≤(i:Int)∧(i:Int)<(t.aU.len:Int))) (aV (decide (0≤t.Hits.get i∧t.Hits.get i<((iD s r l).v.jr.len:Int)))
          ((E.Hu (t.aU.get i,0,aJ ((((iD s r l).v.jr.get (t.Hits.get i).toNat).len:Int)-1))).T λr3=>cond (!r3) X (XB E n (iD s r l) t (t.Hits.get i) (i:Int) (mnS l t i) (mfS l t i) k))))))))
        = cond (decide ((s.aj.get (hiA l t i).ai.toNat).View=t.View)&&Ub l t.Hits i (hiA l t i).ai&&decide (i<t.aU.len)&&inB (t.aU.get i) 0 (((vS s (hiA l t i)).len:Int)-1)) (QO E n (iD s r l) t (aJ ((i:Int)+1)) (mnS l t (aJ ((i:Int)+1)).toNat) (mfS l t (aJ ((i:Int)+1)).toNat) k) X:=by
      intro X;rw[zaV s l r _ he c1',aY,bu c1',zjZ,hgg,hgl,bu c1',Xx,aY,e2,uI (by simp only[vS];omega)];by_cases hS:i<t.aU.len;rw [dR (show ¬(i:Int)≥(t.aU.len:Int)by omega),bu omY,dC hS];by_cases v:(s.aj.get (hiA l t i).ai.toNat).View=t.View;rw [show((s.aj.get (l.get (t.Hits.get i).toNat).ai.toNat).View != t.View)=false from qj2.2 v,dC v];show cond (!Ub l t.Hits i (hiA l t i).ai) _ _=_;cases Ub l t.Hits i (hiA l t i).ai<;>cases inB (t.aU.get i) 0 (((vS s (hiA l t i)).len:Int)-1)<;>rfl;rw[show((s.aj.get (l.get (t.Hits.get i).toNat).ai.toNat).View != t.View)=true from bne_iff_ne.2 v,dR v];rfl;rw [dC (show(i:Int)≥(t.aU.len:Int)by omega),dR hS];simp only[ZK,ZL,dO,dN];cases(s.aj.get (l.get (t.Hits.get i).toNat).ai.toNat).View != t.View<;>cases Ub l t.Hits i (l.get (t.Hits.get i).toNat).ai<;>rfl
    simp only[I7,dN];by_cases h0:(i:Int)>0;obtain⟨p1,p2⟩:=XF (n:=t.Hits.len) hi omY h0;rw[dC h0,dO,bu p1,p2];by_cases d:t.Hits.get i<=t.Hits.get (i-1);rw [dC d];have:JK s l t i=false:=by simp only[JK,dR (show ¬i=0 by omega),dR (show ¬t.Hits.get (i-1)<t.Hits.get i by omega),jqV,ZK,ZL]
    rw[this];rfl;rw [dR d,dN];refine(c2 _).trans ?_;congr 1;simp only[JK,c1,dC (show t.Hits.get (i-1)<t.Hits.get i by omega),qjV,I5]
    ac_rfl
    rw [dR h0,dN];refine(c2 _).trans ?_;congr 1;simp only[JK,c1,dC (show i=0 by omega),jqW,I5]
    ac_rfl
  rw [zvL];simp only [RX,Kq,dN,h96,aY];rw[kc k,kc k];congr 1;cases vwB t.View<;>simp<;>grind;rw [zfq];congr 1;simp only[kZ];by_cases h3:t.aU.len=t.Hits.len;have:fA (fun i=>JK s l t i&&decide (i<t.aU.len)) t.Hits.len=fA (JK s l t) t.Hits.len:=BU fun i hi=>by rw [dC omY,qju]
  rw[this,jqH];simp only[h3,Kq,ZK,ZL]
theorem NE{α:Type}[bI α]{z f g:Nat→α}:∀{n:Nat},(∀i,i<n→f i=g i)→gw z f n=gw z g n|0,_=>rfl|n+1,h=>by simp only[gw,NE (n:=n) λi hi=>h i omY,h n omY]
def ZB(s:ak)(l:Sl bg)(t:af):Sl au:=gw z0 (λi=>(vS s (hiA l t i)).get (t.aU.get i).toNat) t.Hits.len
theorem za1{s:ak}{l:Sl bg}{t:af}(h:kZ s l t=true):t.aU.len=t.Hits.len/\∀i,i<t.Hits.len->JK s l t i=true:=by
 simp only[kZ,gq,lQ,dm]at h;exact⟨h.1.2,h.2⟩
abbrev Q65(C:ak×Sl bg×af->ae (Sl au)):Prop:=∀s l t,Evt s l->t.Hits.len<=30->kZ s l t=true->C (s,l,t)=.ok (ZB s l t)
theorem s65{E:E65}(N:Big E.N)(h75:Q75 E.c75):Q65 (F65 E):=λs l t he ht hc=>ae.ext λk=>by
 obtain⟨h1,h2⟩:=za1 hc;rw[e65,aY];refine kP (X:=λn i=>zc7 E n s l t (i:Int) (gw z0 (λi=>(vS s (hiA l t i)).get (t.aU.get i).toNat) i) k) (m:=t.Hits.len) (λn i hi=>?_) (λn=>?_) _ omY;have a1:=ND (h2 i hi);have a2:0<=t.aU.get i/\t.aU.get i<((vS s (l.get (t.Hits.get i).toNat)).len:Int):=XG (h2 i hi);have Jk:=he.pl (i:=(t.Hits.get i).toNat) omY;rw[zvH,dC (show(i:Int)<_ by omega),dO,bu omY,gm,bu omY,h75 _ _ he.sh Jk,aY,bu omY,bu a2,lD,jg omY omY,bD omY];rfl;rw[zvH];simp only[RX,Kq,dN];rfl
abbrev zj0(C:Pt aS×af->ae (Sl au)):Prop:=∀s l r t,Evt s l->t.Hits.len<=2100->kZ s l t=true->C (iD s r l,t)=.ok (ZB s l t)
theorem zTB{E:zfm}(N:Big E.N):zj0 (zpL E):=λs l r t he ht hc=>ae.ext λk=>by
 obtain⟨h1,h2⟩:=za1 hc;have e:ZB s l t=gw z0 (λi=>((evG s l).get (t.Hits.get i).toNat).get (t.aU.get i).toNat) t.Hits.len:=NE λi hi=>by
  have a1:=ND (h2 i hi);rw[JJ omY];rfl
 rw[zSz,aY,e];refine kP (X:=λn i=>TV E n (iD s r l) t (i:Int) (gw z0 (λi=>((evG s l).get (t.Hits.get i).toNat).get (t.aU.get i).toNat) i) k) (m:=t.Hits.len) (λn i hi=>?_) (λn=>?_) _ omY;have a1:=ND (h2 i hi);have a2:=XG (h2 i hi);have a3:0<=t.Hits.get i/\t.Hits.get i<((iD s r l).v.jr.len:Int):=by show _/\t.Hits.get i<((evG s l).len:Int);rw[Ua];omega
 have a4:0<=t.aU.get i/\t.aU.get i<(((iD s r l).v.jr.get (t.Hits.get i).toNat).len:Int):=by
  show _/\t.aU.get i<(((evG s l).get (t.Hits.get i).toNat).len:Int);rw[JJ omY];exact a2
 rw[zjK,dC (show(i:Int)<_ by omega),dO,bu omY,gm,bu a3,bu omY,bu a4,lD,jg omY omY,bD omY];rfl;rw[zjK];simp only[RX,Kq,dN]
abbrev Q26(C:ak×bF×Sl bg->ae Int):Prop:=∀s r l,sV s->l.len<=40->C (s,r,l)=.ok (jY s r l)
theorem s26{E:E26}(h61:QSe E.c61)(h62:Q62 E.c62)(h85:Q85 E.c85):Q26 (F26 E):=λs r l hs hl=>ae.ext λk=>by
 rw[e26,aY];by_cases h24:(l.len:Int)>24;rw[dC h24];simp only[jY,dC (show l.len>24 by omega),dO]
 ·rw [dR h24,dN,h61 s hs,aY];simp only[jY,dR (show ¬l.len>24 by omega),dN,h62,aY];cases hb:fD s with
  | false=>rfl
  | true =>
   cases uK r with
   | false=>rfl
   | true =>
    simp only[h85 s l hs hb hl,aY];cases Ed s l<;>rfl
theorem JL{s:ak}{r:bF}{l:Sl bg}(hs:sV s)(h:jY s r l=0):Evt s l/\uK r=true/\l.len<=24:=by
 unfold jY at h;by_cases h24:l.len>24;rw[dC h24]at h;cases h
 ·rw [dR h24,dN]at h;cases e:fD s&&uK r&&Ed s l with
  | false=>rw[e]at h;cases h
  | true =>
   simp only[gq]at e;exact⟨⟨hs,e.1.1,e.2,omY⟩,e.1.2,omY⟩
abbrev Q24(C:af->ae Bool):Prop:=∀t,C t=.ok (decide (t.Hits.len<=30/\t.aU.len<=30))
theorem s24{E:E24}:Q24 (F24 E):=λt=>ae.ext λk=>by rw[e24,kc k,aY];congr 1;grind
def zfu(s:ak)(l:Sl bg)(m:Int):Bool:=decide (s.aj.len<=20)&&(decide ((l.len:Int)<=m)||decide (l.len>24))&&decide (l.len<=40)&&fA (λi=>decide ((s.aj.get i).aT.len<=60/\(s.aj.get i).Dead.len<=110)) s.aj.len
abbrev Q23(C:ak×Sl bg×Int->ae Bool):Prop:=∀s l m,C (s,l,m)=.ok (zfu s l m)
theorem s23{E:E23}(N:Big E.N):Q23 (F23 E):=λs l m=>ae.ext λk=>by
 rw[e23,aY];by_cases h20:(s.aj.len:Int)>20;rw[dC h20];simp only[zfu,dR (show ¬s.aj.len<=20 by omega),ZL,dO];have lp:Nl E E.N s 0 k=k (fA (λi=>decide ((s.aj.get i).aT.len<=60/\(s.aj.get i).Dead.len<=110)) s.aj.len):=by
  refine(loopA (L:=λn v=>Nl E n s v k) (p:=λi=>decide ((s.aj.get i).aT.len<=60/\(s.aj.get i).Dead.len<=110)) (m:=s.aj.len) (fin:=k true) (stop:=k false) omY (λn i hi=>?_) (λn=>?_) _ omY).trans ?_;rw [zvB,dC (show(i:Int)<_ by omega),dO,bu omY,bu omY,gm];obtain⟨f,h1,h2⟩:=two (Nl E n s (aJ ((i:Int)+1)) k) (k false);rw[<- h1,<- h2,kc f,kc f,kc f];congr 1;grind;rw[zvB];simp only[RX,Kq,dN];cases fA (λi=>decide ((s.aj.get i).aT.len<=60/\(s.aj.get i).Dead.len<=110)) s.aj.len<;>rfl
 rw[dR h20,dN,lp];simp only[kc k,zfu];congr 1;generalize fA (λi=>decide ((s.aj.get i).aT.len<=60/\(s.aj.get i).Dead.len<=110)) s.aj.len=B
 grind
theorem zzV{s:ak}{l:Sl bg}{m:Int}(h:zfu s l m=true):sV s/\l.len<=40/\((l.len:Int)<=m\/24<l.len):=by
 simp only[zfu,gq,lQ,VE,dm]at h;exact⟨⟨h.1.1.1,λi hi=>h.2 i hi⟩,h.1.2,h.1.1.2⟩
def vT(s:ak)(l:Sl bg)(i:Nat):Nat:=(vS s (l.get i)).len
theorem JM(s:ak)(l:Sl bg)(i:Nat):vT s l i<=2:=TZ _ _
def Po(s:ak)(l:Sl bg)(i:Nat):Int:=(s.aj.get (l.get i).ai.toNat).View
def sdK(i:Int):Nat→Nat→List (Int×Int)|0,_=>[]|d+1,k=>(i,(k:Int))::sdK i d (k+1)
def sdL(s:ak)(l:Sl bg)(x:Int):Nat→Nat→List (Int×Int)|0,_=>[]|d+1,i=>cond (Po s l i==x) (sdK i (vT s l i) 0) []++sdL s l x d (i+1)
abbrev zzW(I:Pt Int×Pt (Pt aS)×Pt Int->ae (List (Int×Int))):Prop:=∀s l r x (fr:Nat),Evt s l->fr<=l.len->I (⟨fr⟩,⟨iD s r l⟩,⟨x⟩)=.ok (sdL s l x (l.len-fr) fr)
theorem zTE{E:XD}(N:Big E.N)(zaV:zqs E.Ji):zzW (zzr E):=λs l r x fr he hfr=>by
 refine Ec ?_ (λ_=>rfl) (λ_=>rfl);refine(zSB E _ _ _).trans ?_;have hl:=he.le;have key:∀d n (i:Nat),i+d=l.len->d<n->Nu E n ⟨iD s r l⟩ ⟨x⟩ (i:Int)=some ((sdL s l x d i).map dF.enc):=by
  intro d
  induction d with
  | zero =>
   intro n i hi hn;obtain⟨n,rfl⟩:∃n',n=n'+1:=⟨n-1,omY⟩;exact(zjL E n _ _ _).trans (zIh (p:=(i:Int)<(l.len:Int)) omY)
  | succ d ih =>
   intro n i hi hn;obtain⟨n,rfl⟩:∃n',n=n'+1:=⟨n-1,omY⟩;have nx:=ih n (i+1) omY omY;refine(zjL E n _ _ _).trans ((zIg (p:=(i:Int)<(l.len:Int)) omY).trans ?_);rw[bD omY,nx];show(E.Ji (iD s r l,(i:Int))).T _=_;rw[zaV s l r _ he omY,aY,gm];show cond (Po s l i != x) _ _=_;rw[sdL];cases hv:Po s l i==x with
   | false=>rw[show(Po s l i != x)=true by rw[bne,hv];rfl];rfl
   | true =>
    rw[show(Po s l i != x)=false by rw[bne,hv];rfl,dN,dO];have hg:((iD s r l).v.jr.get i)=vS s (l.get i):=JJ omY;have hgl:(iD s r l).v.jr.len=l.len:=Ua s l;have inn:∀e m (k:Nat),k+e=vT s l i->e<m->Nv E n m ⟨iD s r l⟩ ⟨x⟩ (i:Int) (vT s l i:Int) (k:Int)=some ((sdK i e k++sdL s l x d (i+1)).map dF.enc):=by
     have hg2:=JM s l i;intro e
     induction e with
     | zero =>
      intro m k hk hm;obtain⟨m,rfl⟩:∃n',m=n'+1:=⟨m-1,omY⟩;rw[zjM,dR omY,dN,bD omY,nx];rfl
     | succ e ih2 =>
      intro m k hk hm;obtain⟨m,rfl⟩:∃n',m=n'+1:=⟨m-1,omY⟩;rw[zjM,dC omY,dO,bD omY,ih2 m (k+1) omY omY];rfl
    have hg2:=JM s l i;rw[bu (by rw[hgl];omega)];show Nv E n E.N ⟨iD s r l⟩ ⟨x⟩ (i:Int) (((iD s r l).v.jr.get (i:Int).toNat).len:Int) ((0:Nat):Int)=_;rw[gm,hg];exact inn _ _ _ omY omY
 exact key _ _ _ omY omY
abbrev Q19(C:Unit->ae Bool):Prop:=C ()=.ok true
structure E28 where
 N:Nat
 v88:ak×bF×(Sl bg)×Int->ae (Sl af×Bool)
def F28(E:E28):ak×bF×(Sl bg)->ae ((Sl af)×Bool):=iR E.N (Tabs.nil.addO 88 (.mkv 43 3 56 (ae.unV E.v88))) 28
theorem e28(E:E28){A:Type}(k:((Sl af)×Bool)→Option A)(a0:ak)(a1:bF)(a2:Sl bg):(F28 E (a0,a1,a2)).T k=(E.v88 (a0,a1,a2,1)).T λr1=>(E.v88 (a0,a1,a2,2)).T λr2=>aV (room (r1.1.len+r2.1.len) 56) (cond r1.2 (k ((⟨(r1.1.len+r2.1.len),(jy r1.1.len r1.1.get r2.1.get)⟩:(Sl af)),r2.2)) (k ((⟨(r1.1.len+r2.1.len),(jy r1.1.len r1.1.get r2.1.get)⟩:(Sl af)),false))):=dS
theorem o28 [aC](E:E28)(x88:gB aB 88 (.mkv 43 3 56 (ae.unV E.v88))):Ok aB 28 (ae.un (F28 E)):=dU (ax.nil.addO x88)
structure E38 where
 N:Nat
abbrev G38(E:E38):bK:=gU Tabs.nil []
def A38:dG:=bT aB 38 [] {cut:=[8,10]}
def F38(E:E38):(Sl Int)×(Sl Int)->ae Int:=ae.ty (aF aB E.N (G38 E) A38 38)
section
variable(E:E38){A:Type}(k:Int->Option A)
def zdc(E:E38)(n:Nat)(a0 a1:Sl Int)(v5:Int){A:Type}(k:Int->Option A):Option A:=gW aB (G38 E) E.N A38 38 [1,0,1,0] [.n n] (gV k) ⟨[(0,eP a0),(1,eP a1),(5,.int v5)],[],[]⟩
def zj1(E:E38)(a0 a1:Sl Int){A:Type}(k:Int->Option A):Option A:=gW aB (G38 E) E.N A38 38 [1,1] [] (gV k) ⟨[(0,eP a0),(1,eP a1)],[],[]⟩
def zvR(E:E38)(a0 a1:Sl Int){A:Type}(k:Int->Option A):Option A:=gW aB (G38 E) E.N A38 38 [1,1,1] [] (gV k) ⟨[(0,eP a0),(1,eP a1)],[],[]⟩
theorem e38(a0 a1:Sl Int):(F38 E (a0,a1)).T k=zdc E E.N a0 a1 0 k:=dS
theorem zvS(n0:Nat)(a0 a1:Sl Int)(v5:Int):zdc E (n0+1) a0 a1 v5 k=cond (decide (v5<(a0.len:Int))) (cond (decide (v5<(a1.len:Int))) (aV (decide (0<=v5/\v5<(a0.len:Int))) (aV (decide (0<=v5/\v5<(a1.len:Int))) (cond (decide (a0.get v5.toNat<a1.get v5.toNat)) (k (-1)) (aV (decide (0<=v5/\v5<(a0.len:Int))) (aV (decide (0<=v5/\v5<(a1.len:Int))) (cond (decide (a0.get v5.toNat>a1.get v5.toNat)) (k 1) (zdc E n0 a0 a1 (aJ (v5+1)) k))))))) (zj1 E a0 a1 k)) (zj1 E a0 a1 k):=krY
theorem zvT(a0 a1:Sl Int):zj1 E a0 a1 k=cond (decide ((a0.len:Int)<(a1.len:Int))) (k (-1)) (zvR E a0 a1 k):=krY
theorem zvU(a0 a1:Sl Int):zvR E a0 a1 k=cond (decide ((a0.len:Int)>(a1.len:Int))) (k 1) (k 0):=krY
end
theorem o38 [aC](E:E38):Ok aB 38 (ae.un (F38 E)):=dU ax.nil
structure E50 where
 N:Nat
 zt9:ak×(Sl bg)->ae Int
 uP:ak×bg->ae (placed×Bool)
 zbM:placed×bg->ae bY
abbrev G50(E:E50):bK:=gU (((Tabs.nil.addF 111 (ae.un E.zt9)).addF 112 (ae.un E.uP)).addF 113 (ae.un E.zbM)) []
def A50:dG:=bT aB 50 [] {}
def F50(E:E50):ak×(Sl bg)->ae (bY×Int):=ae.ty (aF aB E.N (G50 E) A50 50)
section
variable(E:E50){A:Type}(k:(bY×Int)->Option A)
def zdd(E:E50)(n:Nat)(a0:ak)(a1:Sl bg)(v42:Int)(x9:bY){A:Type}(k:(bY×Int)->Option A):Option A:=gW aB (G50 E) E.N A50 50 [1,1,1,1,1,0,1,0] [.n n] (gV k) ⟨[(2,.cl (.ptr 2 0)),(4,.cl (.ptr 4 0)),(9,.cl (.ptr 9 0)),(40,.cl (.p (.sl (((a1.len:Int):Int)-1).toNat 6 (λi=>bI.enc ((uY a1.get 1) i))))),(41,.int ((((a1.len:Int):Int)-1).toNat:Int)),(42,.int v42)],[(2,eB 24 a0),(4,.box 105 [.p (.int .i64 0),.p (.int .i64 0)]),(9,eB 105 x9)],[]⟩
theorem e50(a0:ak)(a1:Sl bg):(F50 E (a0,a1)).T k=(E.zt9 (a0,a1)).T λr1=>cond (r1 != 0) (k ((⟨0,0⟩:bY),r1)) (cond ((a1.len:Int)==0) (k ((⟨0,0⟩:bY),2)) (aV (decide ((0:Int)<=0/\0<(a1.len:Int))) ((E.uP (a0,(a1.get 0))).T λr2=>aV (decide ((0:Int)<=0/\0<(a1.len:Int))) ((E.zbM (r2.1,(a1.get 0))).T λr3=>aV (decide ((0:Int)<=1/\(1:Int)<=(a1.len:Int)/\(a1.len:Int)<=(a1.len:Int))) (zdd E E.N a0 a1 0 r3 k))))):=dS
theorem zvV(n0:Nat)(a0:ak)(a1:Sl bg)(v42:Int)(x9:bY):zdd E (n0+1) a0 a1 v42 x9 k=cond (decide (v42<((((a1.len:Int):Int)-1).toNat:Int))) (aV (decide (0<=v42/\v42<((((a1.len:Int):Int)-1).toNat:Int))) ((E.uP (a0,((uY a1.get 1) v42.toNat))).T λr1=>(E.zbM (r1.1,((uY a1.get 1) v42.toNat))).T λr2=>zdd E n0 a0 a1 (aJ (v42+1)) (⟨(if r2.Low>x9.Low then r2.Low else x9.Low),(if r2.High<x9.High then r2.High else x9.High)⟩:bY) k)) (cond (decide (x9.Low>x9.High)) (k ((⟨0,0⟩:bY),5)) (k (x9,0))):=krY
end
theorem o50 [aC](E:E50)(zzX:Ok aB 111 (ae.un E.zt9))(AV:Ok aB 112 (ae.un E.uP))(zqu:Ok aB 113 (ae.un E.zbM)):Ok aB 50 (ae.un (F50 E)):=dU (((ax.nil.addF zzX).addF AV).addF zqu)
structure E52 where
 N:Nat
 Vx:(Sl Int)×(Sl Int)->ae Int
def F52(E:E52):af×af->ae Bool:=iR E.N (Tabs.nil.addF 38 (ae.un E.Vx)) 52
theorem e52(E:E52){A:Type}(k:Bool→Option A)(a0 a1:af):(F52 E (a0,a1)).T k=cond (a0.View==a1.View) ((E.Vx (a0.Hits,a1.Hits)).T λr1=>cond (r1==0) ((E.Vx (a0.aU,a1.aU)).T λr2=>k (r2==0)) (k false)) (k false):=dS
theorem o52 [aC](E:E52)(h38:Ok aB 38 (ae.un E.Vx)):Ok aB 52 (ae.un (F52 E)):=dU (ax.nil.addF h38)
structure E53 where
 N:Nat
abbrev G53(E:E53):bK:=gU Tabs.nil []
def A53:dG:=bT aB 53 [] {cut:=[7]}
def F53(E:E53):af×af->ae Bool:=ae.ty (aF aB E.N (G53 E) A53 53)
section
variable(E:E53){A:Type}(k:Bool->Option A)
def zde(E:E53)(n:Nat)(a0 a1:af)(v5 v6:Int){A:Type}(k:Bool->Option A):Option A:=gW aB (G53 E) E.N A53 53 [1,1,0,1,0] [.n n] (gV k) ⟨[(2,.cl (.ptr 2 0)),(3,.cl (.ptr 3 0)),(5,.int v5),(6,.int v6)],[(2,eB 43 a0),(3,eB 43 a1)],[]⟩
def QP(E:E53)(n0 n:Nat)(a0 a1:af)(v5 v6:Int){A:Type}(k:Bool->Option A):Option A:=gW aB (G53 E) E.N A53 53 [1,1,0,1,0,0,1,0,0,0,0] [.n n0,.n n] (gV k) ⟨[(2,.cl (.ptr 2 0)),(3,.cl (.ptr 3 0)),(5,.int v5),(6,.int v6)],[(2,eB 43 a0),(3,eB 43 a1)],[]⟩
def XH(E:E53)(n0:Nat)(a0 a1:af)(v5 v6:Int){A:Type}(k:Bool->Option A):Option A:=gW aB (G53 E) E.N A53 53 [1,1,0,1,0,0,1,0,0,1] [.n n0] (gV k) ⟨[(2,.cl (.ptr 2 0)),(3,.cl (.ptr 3 0)),(5,.int v5),(6,.int v6)],[(2,eB 43 a0),(3,eB 43 a1)],[]⟩
theorem e53(a0 a1:af):(F53 E (a0,a1)).T k=zde E E.N a0 a1 0 0 k:=dS
theorem zvX(n0:Nat)(a0 a1:af)(v5 v6:Int):zde E (n0+1) a0 a1 v5 v6 k=cond (decide (v6<(a1.Hits.len:Int))) (QP E n0 E.N a0 a1 v5 v6 k) (k (a0.View==a1.View)):=krY
theorem zvY(n0 n1:Nat)(a0 a1:af)(v5 v6:Int):QP E n0 (n1+1) a0 a1 v5 v6 k=cond (decide (v5<(a0.Hits.len:Int))) (aV (decide (0<=v5/\v5<(a0.Hits.len:Int))) (aV (decide (0<=v6/\v6<(a1.Hits.len:Int))) (cond (decide (a0.Hits.get v5.toNat<a1.Hits.get v6.toNat)) (QP E n0 n1 a0 a1 (aJ (v5+1)) v6 k) (XH E n0 a0 a1 v5 v6 k)))) (XH E n0 a0 a1 v5 v6 k):=krY
theorem zIp(n0:Nat)(a0 a1:af)(v5 v6:Int):XH E n0 a0 a1 v5 v6 k=cond (v5==(a0.Hits.len:Int)) (k false) (aV (decide (0<=v5/\v5<(a0.Hits.len:Int))) (aV (decide (0<=v6/\v6<(a1.Hits.len:Int))) (cond (a0.Hits.get v5.toNat != a1.Hits.get v6.toNat) (k false) (aV (decide (0<=v5/\v5<(a0.aU.len:Int))) (aV (decide (0<=v6/\v6<(a1.aU.len:Int))) (cond (a0.aU.get v5.toNat != a1.aU.get v6.toNat) (k false) (zde E n0 a0 a1 v5 (aJ (v6+1)) k))))))):=krY
end
theorem o53 [aC](E:E53):Ok aB 53 (ae.un (F53 E)):=dU ax.nil
structure E55 where
 N:Nat
 c71:Int×Int->ae aP
abbrev G55(E:E55):bK:=gU (Tabs.nil.addF 71 (ae.un E.c71)) []
def A55:dG:=bT aB 55 [] {cut:=[3]}
def F55(E:E55):Int×Int×Int×Int->ae Line:=ae.ty (aF aB E.N (G55 E) A55 55)
section
variable(E:E55){A:Type}(k:Line->Option A)
def zj2(E:E55)(v0 v1 v2 v3:Int){A:Type}(k:Line->Option A):Option A:=gW aB (G55 E) E.N A55 55 [1,1] [] (gV k) ⟨[(0,.int v0),(1,.int v1),(2,.int v2),(3,.int v3),(8,.cl (.ptr 8 0))],[(8,.box 114 [.p (.int .i64 0),.p (.int .i64 0),.p (.int .i64 0),.p (.int .i64 0)])],[]⟩
theorem e55(a0 a1 a2 a3:Int):(F55 E (a0,a1,a2,a3)).T k=cond (decide (a2<a0)) (zj2 E a2 a3 a0 a1 k) (zj2 E a0 a1 a2 a3 k):=dS
theorem zvZ(v0 v1 v2 v3:Int):zj2 E v0 v1 v2 v3 k=(E.c71 ((aJ (v3-v1)),(aJ (v2-v0)))).T λr1=>(E.c71 ((aJ ((aJ (v1*v2))-(aJ (v3*v0)))),(aJ (v2-v0)))).T λr2=>k (⟨r1,r2⟩:Line):=krY
end
theorem o55 [aC](E:E55)(h71:Ok aB 71 (ae.un E.c71)):Ok aB 55 (ae.un (F55 E)):=dU (ax.nil.addF h71)
structure E56 where
 N:Nat
def F56(E:E56):aP×aP->ae Bool:=iR E.N Tabs.nil 56
theorem e56(E:E56){A:Type}(k:Bool→Option A)(a0 a1:aP):(F56 E (a0,a1)).T k=k (decide ((aJ (a0.Num*a1.bQ))<(aJ (a1.Num*a0.bQ)))):=dS
theorem o56 [aC](E:E56):Ok aB 56 (ae.un (F56 E)):=dU ax.nil
structure E57 where
 N:Nat
 c116:Line×au->ae Bool
abbrev G57(E:E57):bK:=gU (Tabs.nil.addF 116 (ae.un E.c116)) []
def A57:dG:=bT aB 57 [] {ks:=[(1,3,⟨[],[(5,22,3)],[],[],[],[],[]⟩)]}
def F57(E:E57):Line×(Sl au)->ae ((Sl Int)):=ae.ty (aF aB E.N (G57 E) A57 57)
section
variable(E:E57){A:Type}(k:(Sl Int)->Option A)
def XI(E:E57)(n:Nat)(a0:Line)(a1:Sl au)(v6:Int)(GZ:Sl Int){A:Type}(k:(Sl Int)->Option A):Option A:=gW aB (G57 E) E.N A57 57 [1,1,0,1,0] [.n n] (gV k) ⟨[(1,eP a1),(2,.cl (.ptr 2 0)),(5,.cl (.vec 22)),(6,.int v6)],[(2,eB 114 a0),(22,eV 3 1 8 GZ)],[]⟩
theorem e57(a0:Line)(a1:Sl au):(F57 E (a0,a1)).T k=XI E E.N a0 a1 0 (⟨0,(λ_=>0)⟩:(Sl Int)) k:=dS
theorem zv0(n0:Nat)(a0:Line)(a1:Sl au)(v6:Int)(GZ:Sl Int):XI E (n0+1) a0 a1 v6 GZ k=cond (decide (v6<(a1.len:Int))) (aV (decide (0<=v6/\v6<(a1.len:Int))) ((E.c116 (a0,(a1.get v6.toNat))).T λr1=>cond r1 (aV (room (GZ.len+1) 8) (XI E n0 a0 a1 (aJ (v6+1)) (⟨(GZ.len+1),(jy GZ.len GZ.get (λ_=>v6))⟩:(Sl Int)) k)) (XI E n0 a0 a1 (aJ (v6+1)) GZ k))) (k GZ):=krY
end
theorem o57 [aC](E:E57)(zEE:Ok aB 116 (ae.un E.c116)):Ok aB 57 (ae.un (F57 E)):=dU (ax.nil.addF zEE)
structure E71 where
 N:Nat
 Ve:Int×Int->ae Int
def F71(E:E71):Int×Int->ae aP:=iR E.N (Tabs.nil.addF 125 (ae.un E.Ve)) 71
theorem e71(E:E71){A:Type}(k:aP→Option A)(a0 a1:Int):(F71 E (a0,a1)).T k=(E.Ve ((if(aJ (0-a0))>a0 then(aJ (0-a0))else a0),a1)).T λr1=>aV (decide (r1≠0)) (aV (decide (r1≠0)) (k (⟨(aJ (a0.tdiv r1)),(aJ (a1.tdiv r1))⟩:aP))):=dS
theorem o71 [aC](E:E71)(za2:Ok aB 125 (ae.un E.Ve)):Ok aB 71 (ae.un (F71 E)):=dU (ax.nil.addF za2)
structure E72 where
 N:Nat
 c78:ak×bF×(Sl bg)->ae (Int ⊕ ((Pt aS)×Int))
 PH:(Sl Bool)×Bool->ae Bool
 c127:(Pt aS)×Int->ae ((Sl af)×Bool)
 FC:(Sl af)×((dZ 129 (Pt aS) Unit) ⊕ (dZ 130 Unit (Pt (Pt found))))->ae (Sl af×Unit)
 Vk:af×af->ae Int
abbrev G72(E:E72):bK:=gU (((((((Tabs.nil.addN [130]).addO 128 (.mkv 43 3 56 (ae.unV E.FC))).addO 133 (.sort 43 3 56)).addC 134 (ae.un E.Vk)).addF 78 (ae.unA E.c78)).addF 126 (ae.un E.PH)).addF 127 (ae.un E.c127)) []
def A72:dG:=bT aB 72 [] {ks:=[(0,6,⟨[],[],[(35,2,5001,43)],[],[],[],[]⟩),(2,15,⟨[],[],[],[],[57,5001],[],[]⟩)],cut:=[15,16],unr:=[(8,3)],clo:=[130]}
def F72(E:E72):ak×bF×(Sl bg)×(Sl Bool)->ae (Int ⊕ ((Pt found)×Int)):=ae.tyA (aF aB E.N (G72 E) A72 72)
section
variable(E:E72){A:Type}(k:(Int ⊕ ((Pt found)×Int))->Option A)
def zdf(E:E72)(zD:Pt aS)(w57 w67:Sl af){A:Type}(k:(Int ⊕ ((Pt found)×Int))->Option A):Option A:=gW aB (G72 E) E.N A72 72 [1,1,1,1,1,1,1] [] (zjd k) ⟨[(12,.cl (.ptr 12 0))],[(12,.box 140 [.ptr 35 0]),(35,.box 145 [.p (.fp [.sl zD.v.ak.aj.len 15 (λi=>bI.enc (zD.v.ak.aj.get i)),.sl zD.v.hits.len 6 (λi=>bI.enc (zD.v.hits.get i)),.sl zD.v.jr.len 1 (λi=>bI.enc (zD.v.jr.get i)),.int .i64 zD.v.rules.mO,.int .i64 zD.v.rules.o7] 0),.vec 57,.vec 67]),(57,.fvec 3 w57.len (λi=>bI.enc (w57.get i))),(67,eV 43 3 56 w67)],[]⟩
theorem e72(a0:ak)(a1:bF)(a2:Sl bg)(a3:Sl Bool):(F72 E (a0,a1,a2,a3)).T k=(E.c78 (a0,a1,a2)).T λr1=>zpq r1 (λr1=>cond (r1==0) ((E.PH (a3,false)).T λr2=>cond r2 (k (.inl 2)) (cond (r1 != 0) (k (.inl r1)) (none))) (cond (r1 != 0) (k (.inl r1)) (none))) (λr1=>cond (r1.2==0) ((E.PH (a3,false)).T λr3=>cond r3 (k (.inl 2)) (cond (r1.2 != 0) (k (.inl r1.2)) ((E.c127 (r1.1,1)).T λr4=>cond (!r4.2) (k (.inl 8)) ((E.FC (r4.1,(Sum.inl (⟨r1.1,()⟩:(dZ 129 (Pt aS) Unit))))).T λr5=>aV (room r5.1.len 56) ((E.c127 (r1.1,2)).T λr6=>cond (!r6.2) (k (.inl 8)) ((E.FC (r6.1,(Sum.inl (⟨r1.1,()⟩:(dZ 129 (Pt aS) Unit))))).T λr7=>aV (room (r5.1.len+r7.1.len) 56) ((E.FC ((⟨(r5.1.len+r7.1.len),(jy r5.1.len r5.1.get r7.1.get)⟩:(Sl af)),(Sum.inr (⟨(),(⟨(⟨(⟨r1.1,(⟨(r5.1.len+r7.1.len),(jy r5.1.len r5.1.get r7.1.get)⟩:(Sl af)),(⟨0,(λ_=>(⟨0,(⟨0,(λ_=>0)⟩:(Sl Int)),(⟨0,(λ_=>0)⟩:(Sl Int))⟩:af))⟩:(Sl af))⟩:found)⟩:(Pt found))⟩:(Pt (Pt found)))⟩:(dZ 130 Unit (Pt (Pt found))))))).T λr8=>zdf E r1.1 (⟨(r5.1.len+r7.1.len),(jy r5.1.len r5.1.get r7.1.get)⟩:(Sl af)) r8.1 k))))))) (cond (r1.2 != 0) (k (.inl r1.2)) ((E.c127 (r1.1,1)).T λr9=>cond (!r9.2) (k (.inl 8)) ((E.FC (r9.1,(Sum.inl (⟨r1.1,()⟩:(dZ 129 (Pt aS) Unit))))).T λZm=>aV (room Zm.1.len 56) ((E.c127 (r1.1,2)).T λr11=>cond (!r11.2) (k (.inl 8)) ((E.FC (r11.1,(Sum.inl (⟨r1.1,()⟩:(dZ 129 (Pt aS) Unit))))).T λr12=>aV (room (Zm.1.len+r12.1.len) 56) ((E.FC ((⟨(Zm.1.len+r12.1.len),(jy Zm.1.len Zm.1.get r12.1.get)⟩:(Sl af)),(Sum.inr (⟨(),(⟨(⟨(⟨r1.1,(⟨(Zm.1.len+r12.1.len),(jy Zm.1.len Zm.1.get r12.1.get)⟩:(Sl af)),(⟨0,(λ_=>(⟨0,(⟨0,(λ_=>0)⟩:(Sl Int)),(⟨0,(λ_=>0)⟩:(Sl Int))⟩:af))⟩:(Sl af))⟩:found)⟩:(Pt found))⟩:(Pt (Pt found)))⟩:(dZ 130 Unit (Pt (Pt found))))))).T λr13=>zdf E r1.1 (⟨(Zm.1.len+r12.1.len),(jy Zm.1.len Zm.1.get r12.1.get)⟩:(Sl af)) r13.1 k))))))):=zvs.trans krY
theorem zIt(zD:Pt aS)(w57 w67:Sl af):zdf E zD w57 w67 k=aV (soP (ae.un E.Vk) [] true w67) (k (.inr ((⟨(⟨zD,w57,(⟨w67.len,(soG (ae.un E.Vk) [] true w67)⟩:(Sl af))⟩:found)⟩:(Pt found)),0))):=krY
end
theorem o72 [aC](E:E72)(h78:Ok aB 78 (ae.unA E.c78))(XJ:Ok aB 126 (ae.un E.PH))(Zq:Ok aB 127 (ae.un E.c127))(zTG:gB aB 128 (.mkv 43 3 56 (ae.unV E.FC)))(zTH:gB aB 133 (.sort 43 3 56))(zTI : @Ok ⟨1⟩ aB 134 (ae.un E.Vk)):Ok aB 72 (ae.unA (F72 E)):=zje (xq (((((((ax.nil.addN).addO zTG).addO zTH).addC zTI).addF h78).addF XJ).addF Zq) (dJ krY))
structure E74 where
 N:Nat
def F74(E:E74):ak×bg->ae bY:=iR E.N Tabs.nil 74
theorem e74(E:E74){A:Type}(k:bY→Option A)(a0:ak)(a1:bg):(F74 E (a0,a1)).T k=aV (decide (0<=a1.ai/\a1.ai<(a0.aj.len:Int))) (cond ((a0.aj.get a1.ai.toNat).Kind==3) (k (a0.aj.get a1.ai.toNat).Clock) (k (⟨(aJ ((aJ (a1.Time-(a0.aj.get a1.ai.toNat).Clock.High))-(a0.aj.get a1.ai.toNat).dP)),(aJ ((aJ (a1.Time-(a0.aj.get a1.ai.toNat).Clock.Low))+(a0.aj.get a1.ai.toNat).dP))⟩:bY))):=dS
theorem o74 [aC](E:E74):Ok aB 74 (ae.un (F74 E)):=dU ax.nil
structure E76 where
 N:Nat
 Ve:Int×Int->ae Int
 c71:Int×Int->ae aP
def F76(E:E76):Line×Int->ae aP:=iR E.N ((Tabs.nil.addF 125 (ae.un E.Ve)).addF 71 (ae.un E.c71)) 76
theorem e76(E:E76){A:Type}(k:aP→Option A)(a0:Line)(a1:Int):(F76 E (a0,a1)).T k=(E.Ve (a0.Start.bQ,a0.dK.bQ)).T λr1=>aV (decide (r1≠0)) (aV (decide (a0.Start.bQ≠0)) (aV (decide (a0.dK.bQ≠0)) ((E.c71 ((aJ ((aJ (a0.Start.Num*(aJ ((aJ ((aJ (a0.Start.bQ.tdiv r1))*a0.dK.bQ)).tdiv a0.Start.bQ))))+(aJ ((aJ (a0.dK.Num*(aJ ((aJ ((aJ (a0.Start.bQ.tdiv r1))*a0.dK.bQ)).tdiv a0.dK.bQ))))*a1)))),(aJ ((aJ (a0.Start.bQ.tdiv r1))*a0.dK.bQ)))).T λr2=>k r2))):=dS
theorem o76 [aC](E:E76)(za2:Ok aB 125 (ae.un E.Ve))(h71:Ok aB 71 (ae.un E.c71)):Ok aB 76 (ae.un (F76 E)):=dU ((ax.nil.addF za2).addF h71)
structure E77 where
 N:Nat
 zgP:ai×Int->ae (Int×Int)
 PI:ai×Int->ae Bool
abbrev G77(E:E77):bK:=gU ((Tabs.nil.addF 136 (ae.un E.zgP)).addF 137 (ae.un E.PI)) []
def A77:dG:=bT aB 77 [] {}
def F77(E:E77):ai×bY->ae (Bool×Bool):=ae.ty (aF aB E.N (G77 E) A77 77)
section
variable(E:E77){A:Type}(k:(Bool×Bool)->Option A)
def nG(E:E77)(n:Nat)(a0:ai)(v6 v7:Int)(v12 ja:Bool)(fU:Int){A:Type}(k:(Bool×Bool)->Option A):Option A:=gW aB (G77 E) E.N A77 77 [1,1,1,1,1,0,1,0] [.n n] (gV k) ⟨[(2,.cl (.ptr 2 0)),(6,.int v6),(7,.int v7),(12,.bool v12),(13,.bool ja),(14,.int fU)],[(2,eB 124 a0)],[]⟩
theorem e77(a0:ai)(a1:bY):(F77 E (a0,a1)).T k=(E.zgP (a0,0)).T λr1=>(E.zgP (a0,(aJ (a0.bG-1)))).T λr2=>cond (decide ((aJ (a1.Low-a0.bf.High))>=r1.1)) (nG E E.N a0 (aJ (a1.Low-a0.bf.High)) (aJ (a1.High-a0.bf.Low)) (decide ((aJ (a1.High-a0.bf.Low))<=r2.2)) false 0 k) (nG E E.N a0 (aJ (a1.Low-a0.bf.High)) (aJ (a1.High-a0.bf.Low)) false false 0 k):=dS
theorem zv1(n0:Nat)(a0:ai)(v6 v7:Int)(v12 ja:Bool)(fU:Int):nG E (n0+1) a0 v6 v7 v12 ja fU k=cond (decide (fU<a0.bG)) ((E.zgP (a0,fU)).T λr1=>(E.PI (a0,fU)).T λr2=>cond r2 (cond (decide (r1.1<=v7)) (cond (decide (r1.2>=v6)) (nG E n0 a0 v6 v7 false ja (aJ (fU+1)) k) (nG E n0 a0 v6 v7 v12 ja (aJ (fU+1)) k)) (nG E n0 a0 v6 v7 v12 ja (aJ (fU+1)) k)) (cond (decide ((aJ (r1.1-a0.dL))<=v7)) (cond (decide ((aJ (r1.2+a0.dL))>=v6)) (nG E n0 a0 v6 v7 v12 true (aJ (fU+1)) k) (nG E n0 a0 v6 v7 v12 ja (aJ (fU+1)) k)) (nG E n0 a0 v6 v7 v12 ja (aJ (fU+1)) k))) (k (v12,ja)):=krY
end
theorem o77 [aC](E:E77)(zj3:Ok aB 136 (ae.un E.zgP))(zaU:Ok aB 137 (ae.un E.PI)):Ok aB 77 (ae.un (F77 E)):=dU ((ax.nil.addF zj3).addF zaU)
structure E88 where
 N:Nat
 c94:ak×bF×(Sl bg)×Int->ae ((Sl af)×Bool)
 c53:af×af->ae Bool
 zuk:af×af->ae Bool
abbrev G88(E:E88):bK:=gU (((Tabs.nil.addF 94 (ae.un E.c94)).addF 53 (ae.un E.c53)).addF 144 (ae.un E.zuk)) []
def A88:dG:=bT aB 88 [] {ks:=[(0,3,⟨[],[(8,5000,43)],[],[],[],[],[]⟩),(1,6,⟨[],[(12,79,43)],[],[],[],[],[]⟩),(1,15,⟨[],[],[],[],[],[12],[]⟩)],cut:=[17]}
def F88(E:E88):ak×bF×(Sl bg)×Int->ae (Sl af×Bool):=ae.tyV (aK aB E.N (G88 E) A88 88 43 3 56)
section
variable(E:E88){A:Type}(k:(Sl af×Bool)->Option A)
def Ee(E:E88)(n:Nat)(v10:Sl af)(ja:Int)(w79:Sl af){A:Type}(k:(Sl af×Bool)->Option A):Option A:=ptG aB (G88 E) E.N A88 88 [1,1,1,1,0,1,0] [.n n] (zaL 43 3 56) (zaK k) ⟨[(10,eP v10),(12,.cl (.vec 79)),(13,.int ja)],[(79,eV 43 3 56 w79)],[]⟩
def QQ(E:E88)(n0 n:Nat)(v10:Sl af)(ja:Int)(fU:Bool)(uS:Int)(w79:Sl af){A:Type}(k:(Sl af×Bool)->Option A):Option A:=ptG aB (G88 E) E.N A88 88 [1,1,1,1,0,1,0,0,1,0,0,1,0,1,0] [.n n0,.n n] (zaL 43 3 56) (zaK k) ⟨[(10,eP v10),(12,.cl (.vec 79)),(13,.int ja),(14,.bool fU),(15,.int uS)],[(79,eV 43 3 56 w79)],[]⟩
def IK(E:E88)(n0 n:Nat)(v10 v12:Sl af)(ja uU:Int){A:Type}(k:(Sl af×Bool)->Option A):Option A:=ptG aB (G88 E) E.N A88 88 [1,1,1,1,0,1,0,0,1,0,0,1,1,1,1,0,0] [.n n0,.n n] (zaL 43 3 56) (zaK k) ⟨[(10,eP v10),(12,eP v12),(13,.int ja),(16,.int uU)],[],[]⟩
def QR(E:E88)(n0:Nat)(v10 v12:Sl af)(ja uU:Int){A:Type}(k:(Sl af×Bool)->Option A):Option A:=ptG aB (G88 E) E.N A88 88 [1,1,1,1,0,1,0,0,1,0,0,1,1,1,1,1] [.n n0] (zaL 43 3 56) (zaK k) ⟨[(10,eP v10),(12,eP v12),(13,.int ja),(16,.int uU)],[],[]⟩
theorem e88(a0:ak)(a1:bF)(a2:Sl bg)(a3:Int):(F88 E (a0,a1,a2,a3)).T k=(E.c94 (a0,a1,a2,a3)).T λr1=>cond (!r1.2) (k ((⟨0,(λ_=>(⟨0,(⟨0,(λ_=>0)⟩:(Sl Int)),(⟨0,(λ_=>0)⟩:(Sl Int))⟩:af))⟩:(Sl af)),false)) (Ee E E.N r1.1 0 (⟨0,(λ_=>(⟨0,(⟨0,(λ_=>0)⟩:(Sl Int)),(⟨0,(λ_=>0)⟩:(Sl Int))⟩:af))⟩:(Sl af)) k):=zjg.trans krY
theorem zv3(n0:Nat)(v10:Sl af)(ja:Int)(w79:Sl af):Ee E (n0+1) v10 ja w79 k=cond (decide (ja<(v10.len:Int))) (QQ E n0 E.N v10 ja true 0 w79 k) (k (w79,true)):=krY
theorem zv4(n0 n1:Nat)(v10:Sl af)(ja:Int)(fU:Bool)(uS:Int)(w79:Sl af):QQ E n0 (n1+1) v10 ja fU uS w79 k=cond (decide (uS<(v10.len:Int))) (cond fU (cond (ja==uS) (QQ E n0 n1 v10 ja true (aJ (uS+1)) w79 k) (aV (decide (0<=uS/\uS<(v10.len:Int))) (aV (decide (0<=ja/\ja<(v10.len:Int))) ((E.c53 ((v10.get uS.toNat),(v10.get ja.toNat))).T λr1=>QQ E n0 n1 v10 ja (!r1) (aJ (uS+1)) w79 k)))) (QQ E n0 n1 v10 ja false (aJ (uS+1)) w79 k)) (cond (!fU) (Ee E n0 v10 (aJ (ja+1)) w79 k) (IK E n0 E.N v10 w79 ja 0 k)):=krY
theorem zv5(n0 n1:Nat)(v10 v12:Sl af)(ja uU:Int):IK E n0 (n1+1) v10 v12 ja uU k=cond (decide (uU<(v12.len:Int))) (aV (decide (0<=uU/\uU<(v12.len:Int))) (aV (decide (0<=ja/\ja<(v10.len:Int))) ((E.zuk ((v12.get uU.toNat),(v10.get ja.toNat))).T λr1=>cond r1 (IK E n0 n1 v10 v12 ja (aJ (uU+1)) k) (QR E n0 v10 v12 ja uU k)))) (QR E n0 v10 v12 ja uU k):=krY
theorem zIw(n0:Nat)(v10 v12:Sl af)(ja uU:Int):QR E n0 v10 v12 ja uU k=aV (decide ((0:Int)<=0/\(0:Int)<=uU/\uU<=(v12.len:Int))) (aV (room ((uU:Int)-0).toNat 56) (aV (decide (0<=ja/\ja<(v10.len:Int))) (aV (room (((uU:Int)-0).toNat+1) 56) (aV (decide ((0:Int)<=uU/\(uU:Int)<=(v12.len:Int)/\(v12.len:Int)<=(v12.len:Int))) (aV (room ((((uU:Int)-0).toNat+1)+(((v12.len:Int):Int)-uU).toNat) 56) (Ee E n0 v10 (aJ (ja+1)) (⟨((((uU:Int)-0).toNat+1)+(((v12.len:Int):Int)-uU).toNat),(jy (((uU:Int)-0).toNat+1) (jy ((uU:Int)-0).toNat (uY v12.get 0) (λ_=>(v10.get ja.toNat))) (uY v12.get uU.toNat))⟩:(Sl af)) k)))))):=krY
end
theorem o88 [aC](E:E88)(h94:Ok aB 94 (ae.un E.c94))(h53:Ok aB 53 (ae.un E.c53))(zz0:Ok aB 144 (ae.un E.zuk)):gB aB 88 (.mkv 43 3 56 (ae.unV (F88 E))):=zaJ (TN (((ax.nil.addF h94).addF h53).addF zz0) (dJ krY))
structure E90 where
 N:Nat
 c148:(Sl bg)×(Sl Int)->ae ((Sl bg))
 zul:ak×(Sl bg)->ae (bY×Bool)
def F90(E:E90):ak×(Sl bg)×(Sl Int)->ae Bool:=iR E.N ((Tabs.nil.addF 148 (ae.un E.c148)).addF 147 (ae.un E.zul)) 90
theorem e90(E:E90){A:Type}(k:Bool→Option A)(a0:ak)(a1:Sl bg)(a2:Sl Int):(F90 E (a0,a1,a2)).T k=(E.c148 (a1,a2)).T λr1=>(E.zul (a0,r1)).T λr2=>k r2.2:=dS
theorem o90 [aC](E:E90)(zz1:Ok aB 148 (ae.un E.c148))(zz2:Ok aB 147 (ae.un E.zul)):Ok aB 90 (ae.un (F90 E)):=dU ((ax.nil.addF zz1).addF zz2)
structure E91 where
 N:Nat
 c65:ak×(Sl bg)×af->ae ((Sl au))
 c87:(Sl bg)×(Sl Int)×Int->ae Bool
 Fq:(Sl au)->ae Bool
 zum:(Sl au)×Int->ae (aP×aP)
 Zi:aP->ae Int
 Zj:Int×Int×Int->ae Bool
 c77:ai×bY->ae (Bool×Bool)
abbrev G91(E:E91):bK:=gU (((((((Tabs.nil.addF 65 (ae.un E.c65)).addF 87 (ae.un E.c87)).addF 149 (ae.un E.Fq)).addF 150 (ae.un E.zum)).addF 151 (ae.un E.Zi)).addF 86 (ae.un E.Zj)).addF 77 (ae.un E.c77)) []
def A91:dG:=bT aB 91 [] {ks:=[(1,4,⟨[],[(7,92,3)],[],[],[],[],[]⟩)]}
def F91(E:E91):ak×(Sl bg)×af->ae ((Sl Int)):=ae.ty (aF aB E.N (G91 E) A91 91)
section
variable(E:E91){A:Type}(k:(Sl Int)->Option A)
def pW(E:E91)(n:Nat)(a0:ak)(a1:Sl bg)(a2:af)(v8:Sl au)(v9:Int)(w92:Sl Int){A:Type}(k:(Sl Int)->Option A):Option A:=gW aB (G91 E) E.N A91 91 [1,1,1,0,1,0] [.n n] (gV k) ⟨[(1,eP a1),(3,.cl (.ptr 3 0)),(5,.cl (.ptr 5 0)),(7,.cl (.vec 92)),(8,eP v8),(9,.int v9)],[(3,eB 24 a0),(5,eB 43 a2),(92,eV 3 1 8 w92)],[]⟩
theorem e91(a0:ak)(a1:Sl bg)(a2:af):(F91 E (a0,a1,a2)).T k=(E.c65 (a0,a1,a2)).T λr1=>pW E E.N a0 a1 a2 r1 0 (⟨0,(λ_=>0)⟩:(Sl Int)) k:=dS
theorem zv6(n0:Nat)(a0:ak)(a1:Sl bg)(a2:af)(v8:Sl au)(v9:Int)(w92:Sl Int):pW E (n0+1) a0 a1 a2 v8 v9 w92 k=cond (decide (v9<(a0.aj.len:Int))) (aV (decide (0<=v9/\v9<(a0.aj.len:Int))) (cond ((a0.aj.get v9.toNat).View != a2.View) (pW E n0 a0 a1 a2 v8 (aJ (v9+1)) w92 k) ((E.c87 (a1,a2.Hits,v9)).T λr1=>cond r1 (pW E n0 a0 a1 a2 v8 (aJ (v9+1)) w92 k) ((E.Fq v8).T λr2=>cond r2 (pW E n0 a0 a1 a2 v8 (aJ (v9+1)) w92 k) (aV (decide (0<=v9/\v9<(a0.aj.len:Int))) ((E.zum (v8,(a0.aj.get v9.toNat).Z)).T λr3=>(E.Zi r3.1).T λr4=>(E.Zi (⟨(aJ (0-r3.2.Num)),r3.2.bQ⟩:aP)).T λr5=>(E.Zj (r4,(-1000000),1000000)).T λr6=>cond (!r6) (pW E n0 a0 a1 a2 v8 (aJ (v9+1)) w92 k) ((E.Zj ((aJ (0-r5)),(-1000000),1000000)).T λr7=>cond (!r7) (pW E n0 a0 a1 a2 v8 (aJ (v9+1)) w92 k) (aV (decide (0<=v9/\v9<(a0.aj.len:Int))) ((E.c77 ((a0.aj.get v9.toNat),(⟨r4,(aJ (0-r5))⟩:bY))).T λr8=>cond r8.1 (aV (room (w92.len+1) 8) (pW E n0 a0 a1 a2 v8 (aJ (v9+1)) (⟨(w92.len+1),(jy w92.len w92.get (λ_=>v9))⟩:(Sl Int)) k)) (pW E n0 a0 a1 a2 v8 (aJ (v9+1)) w92 k)))))))))) (k w92):=krY
end
theorem o91 [aC](E:E91)(h65:Ok aB 65 (ae.un E.c65))(h87:Ok aB 87 (ae.un E.c87))(NF:Ok aB 149 (ae.un E.Fq))(zz3:Ok aB 150 (ae.un E.zum))(zqw:Ok aB 151 (ae.un E.Zi))(h86:Ok aB 86 (ae.un E.Zj))(h77:Ok aB 77 (ae.un E.c77)):Ok aB 91 (ae.un (F91 E)):=dU (((((((ax.nil.addF h65).addF h87).addF NF).addF zz3).addF zqw).addF h86).addF h77)
structure E92 where
 N:Nat
 c152:(Sl Int)×Int->ae Int
abbrev G92(E:E92):bK:=gU (Tabs.nil.addF 152 (ae.un E.c152)) []
def A92:dG:=bT aB 92 [] {}
def F92(E:E92):af×af->ae Bool:=ae.ty (aF aB E.N (G92 E) A92 92)
section
variable(E:E92){A:Type}(k:Bool->Option A)
def zdj(E:E92)(n:Nat)(a0 a1:af)(v11:Int){A:Type}(k:Bool->Option A):Option A:=gW aB (G92 E) E.N A92 92 [1,0,1,0] [.n n] (gV k) ⟨[(2,.cl (.ptr 2 0)),(3,.cl (.ptr 3 0)),(9,eP a1.Hits),(10,.int (a1.Hits.len:Int)),(11,.int v11)],[(2,eB 43 a0),(3,eB 43 a1)],[]⟩
theorem e92(a0 a1:af):(F92 E (a0,a1)).T k=zdj E E.N a0 a1 0 k:=dS
theorem zv7(n0:Nat)(a0 a1:af)(v11:Int):zdj E (n0+1) a0 a1 v11 k=cond (decide (v11<(a1.Hits.len:Int))) (aV (decide (0<=v11/\v11<(a1.Hits.len:Int))) ((E.c152 (a0.Hits,a1.Hits.get v11.toNat)).T λr1=>cond (decide (r1<0)) (k false) (aV (decide (0<=r1/\r1<(a0.aU.len:Int))) (aV (decide (0<=v11/\v11<(a1.aU.len:Int))) (cond (a0.aU.get r1.toNat != a1.aU.get v11.toNat) (k false) (zdj E n0 a0 a1 (aJ (v11+1)) k)))))) (k (a0.View==a1.View)):=krY
end
theorem o92 [aC](E:E92)(zz4:Ok aB 152 (ae.un E.c152)):Ok aB 92 (ae.un (F92 E)):=dU (ax.nil.addF zz4)
structure E93 where
 N:Nat
 c50:ak×(Sl bg)->ae (bY×Int)
abbrev G93(E:E93):bK:=gU (Tabs.nil.addF 50 (ae.un E.c50)) []
def A93:dG:=bT aB 93 [] {ks:=[(1,3,⟨[],[(6,27,92)],[],[],[],[],[]⟩)]}
def F93(E:E93):(Pt aS)×af->ae (bY×Bool):=ae.ty (aF aB E.N (G93 E) A93 93)
section
variable(E:E93){A:Type}(k:(bY×Bool)->Option A)
def zdk(E:E93)(n:Nat)(a0:Pt aS)(a1:af)(fU:Int)(w27:Sl bg){A:Type}(k:(bY×Bool)->Option A):Option A:=gW aB (G93 E) E.N A93 93 [1,1,0,1,0] [.n n] (gV k) ⟨[(0,eP a0),(4,.cl (.ptr 4 0)),(6,.cl (.vec 27)),(12,eP a1.Hits),(13,.int (a1.Hits.len:Int)),(14,.int fU)],[(4,.box 105 [.p (.int .i64 0),.p (.int .i64 0)]),(27,eV 92 6 48 w27)],[]⟩
theorem e93(a0:Pt aS)(a1:af):(F93 E (a0,a1)).T k=zdk E E.N a0 a1 0 (⟨0,(λ_=>(⟨0,0,0,0,0,0⟩:bg))⟩:(Sl bg)) k:=dS
theorem zv9(n0:Nat)(a0:Pt aS)(a1:af)(fU:Int)(w27:Sl bg):zdk E (n0+1) a0 a1 fU w27 k=cond (decide (fU<(a1.Hits.len:Int))) (aV (decide (0<=fU/\fU<(a1.Hits.len:Int))) (aV (decide (0<=a1.Hits.get fU.toNat/\a1.Hits.get fU.toNat<(a0.v.hits.len:Int))) (aV (room (w27.len+1) 48) (zdk E n0 a0 a1 (aJ (fU+1)) (⟨(w27.len+1),(jy w27.len w27.get (λ_=>(a0.v.hits.get (a1.Hits.get fU.toNat).toNat)))⟩:(Sl bg)) k)))) ((E.c50 (a0.v.ak,w27)).T λr1=>k (r1.1,(r1.2==0))):=krY
end
theorem o93 [aC](E:E93)(h50:Ok aB 50 (ae.un E.c50)):Ok aB 93 (ae.un (F93 E)):=dU (ax.nil.addF h50)
structure E94 where
 N:Nat
 zun:ak×(Sl bg)×Int->ae ((Sl af)×Bool)
 c154:ak×bF×(Sl bg)×af->ae Bool
abbrev G94(E:E94):bK:=gU ((Tabs.nil.addF 153 (ae.un E.zun)).addF 154 (ae.un E.c154)) []
def A94:dG:=bT aB 94 [] {ks:=[(1,6,⟨[],[(12,43,43)],[],[],[],[],[]⟩)]}
def F94(E:E94):ak×bF×(Sl bg)×Int->ae ((Sl af)×Bool):=ae.ty (aF aB E.N (G94 E) A94 94)
section
variable(E:E94){A:Type}(k:((Sl af)×Bool)->Option A)
def IL(E:E94)(n:Nat)(a0:ak)(a1:bF)(a2:Sl bg)(v10:Sl af)(ja:Int)(w43:Sl af){A:Type}(k:((Sl af)×Bool)->Option A):Option A:=gW aB (G94 E) E.N A94 94 [1,1,1,1,0,1,0] [.n n] (gV k) ⟨[(2,eP a2),(4,.cl (.ptr 4 0)),(5,.cl (.ptr 5 0)),(10,eP v10),(12,.cl (.vec 43)),(13,.int ja)],[(4,eB 24 a0),(5,eB 26 a1),(43,eV 43 3 56 w43)],[]⟩
theorem e94(a0:ak)(a1:bF)(a2:Sl bg)(a3:Int):(F94 E (a0,a1,a2,a3)).T k=(E.zun (a0,a2,a3)).T λr1=>cond (!r1.2) (k ((⟨0,λ_=>default⟩:(Sl af)),false)) (IL E E.N a0 a1 a2 r1.1 0 (⟨0,(λ_=>(⟨0,(⟨0,(λ_=>0)⟩:(Sl Int)),(⟨0,(λ_=>0)⟩:(Sl Int))⟩:af))⟩:(Sl af)) k):=dS
theorem zwa(n0:Nat)(a0:ak)(a1:bF)(a2:Sl bg)(v10:Sl af)(ja:Int)(w43:Sl af):IL E (n0+1) a0 a1 a2 v10 ja w43 k=cond (decide (ja<(v10.len:Int))) (aV (decide (0<=ja/\ja<(v10.len:Int))) ((E.c154 (a0,a1,a2,(v10.get ja.toNat))).T λr1=>cond r1 (aV (decide (0<=ja/\ja<(v10.len:Int))) (aV (room (w43.len+1) 56) (IL E n0 a0 a1 a2 v10 (aJ (ja+1)) (⟨(w43.len+1),(jy w43.len w43.get (λ_=>(v10.get ja.toNat)))⟩:(Sl af)) k))) (IL E n0 a0 a1 a2 v10 (aJ (ja+1)) w43 k))) (k (w43,true)):=krY
end
theorem o94 [aC](E:E94)(zz5:Ok aB 153 (ae.un E.zun))(zz6:Ok aB 154 (ae.un E.c154)):Ok aB 94 (ae.un (F94 E)):=dU ((ax.nil.addF zz5).addF zz6)
structure E97 where
 N:Nat
 zuh:af×(Pt af)->ae Bool
abbrev G97(E:E97):bK:=gU (Tabs.nil.addF 132 (ae.un E.zuh)) []
def A97:dG:=bT aB 97 [] {}
def F97(E:E97):(Sl af)×(dZ 132 Unit (Pt af))->ae Int:=ae.ty (aF aB E.N (G97 E) A97 97)
section
variable(E:E97){A:Type}(k:Int->Option A)
def zdl(E:E97)(n:Nat)(a0:Sl af)(a1:(dZ 132 Unit (Pt af)))(v8:Int){A:Type}(k:Int->Option A):Option A:=gW aB (G97 E) E.N A97 97 [1,0,1,0] [.n n] (gV k) ⟨[(0,eP a0),(1,eP a1),(7,.int (a0.len:Int)),(8,.int v8)],[],[]⟩
theorem e97(a0:Sl af)(a1:(dZ 132 Unit (Pt af))):(F97 E (a0,a1)).T k=zdl E E.N a0 a1 0 k:=dS
theorem zwb(n0:Nat)(a0:Sl af)(a1:(dZ 132 Unit (Pt af)))(v8:Int):zdl E (n0+1) a0 a1 v8 k=cond (decide (v8<(a0.len:Int))) (aV (decide (0<=v8/\v8<(a0.len:Int))) ((E.zuh ((a0.get v8.toNat),a1.v)).T λr1=>cond r1 (k v8) (zdl E n0 a0 a1 (aJ (v8+1)) k))) (k (-1)):=krY
end
theorem o97 [aC](E:E97)(zz7:Ok aB 132 (ae.un E.zuh)):Ok aB 97 (ae.un (F97 E)):=dU (ax.nil.addF zz7)
structure zfv where
 N:Nat
 c156:au->ae Bool
 c157:Int×Int×Int->ae Bool
abbrev zIx(E:zfv):bK:=gU ((Tabs.nil.addF 156 (ae.un E.c156)).addF 157 (ae.un E.c157)) []
def zIy:dG:=bT aB 109 [] {}
def zqy(E:zfv):(Sl au)->ae Bool:=ae.ty (aF aB E.N (zIx E) zIy 109)
section
variable(E:zfv){A:Type}(k:Bool->Option A)
def Uc(E:zfv)(n:Nat)(a0:Sl au)(v7:Int){A:Type}(k:Bool->Option A):Option A:=gW aB (zIx E) E.N zIy 109 [1,0,1,0] [.n n] (gV k) ⟨[(0,eP a0),(5,eP a0),(6,.int (a0.len:Int)),(7,.int v7)],[],[]⟩
theorem e109(a0:Sl au):(zqy E (a0)).T k=Uc E E.N a0 0 k:=dS
theorem zj4(n0:Nat)(a0:Sl au)(v7:Int):Uc E (n0+1) a0 v7 k=cond (decide (v7<(a0.len:Int))) (aV (decide (0<=v7/\v7<(a0.len:Int))) ((E.c156 (a0.get v7.toNat)).T λr1=>cond (!r1) (k false) (Uc E n0 a0 (aJ (v7+1)) k))) ((E.c157 ((a0.len:Int),1,24)).T λr2=>k r2):=krY
end
theorem zTL [aC](E:zfv)(zz8:Ok aB 156 (ae.un E.c156))(BZ:Ok aB 157 (ae.un E.c157)):Ok aB 109 (ae.un (zqy E)):=dU ((ax.nil.addF zz8).addF BZ)
structure zfw where
 N:Nat
 c160:ak->ae Bool
 uP:ak×bg->ae (placed×Bool)
abbrev zIz(E:zfw):bK:=gU ((Tabs.nil.addF 160 (ae.un E.c160)).addF 112 (ae.un E.uP)) []
def zIA:dG:=bT aB 111 [] {}
def zqz(E:zfw):ak×(Sl bg)->ae Int:=ae.ty (aF aB E.N (zIz E) zIA 111)
section
variable(E:zfw){A:Type}(k:Int->Option A)
def Ud(E:zfw)(n:Nat)(a0:ak)(a1:Sl bg)(v17:Int){A:Type}(k:Int->Option A):Option A:=gW aB (zIz E) E.N zIA 111 [1,1,1,0,1,0] [.n n] (gV k) ⟨[(2,.cl (.ptr 2 0)),(15,eP a1),(16,.int (a1.len:Int)),(17,.int v17)],[(2,eB 24 a0)],[]⟩
theorem zTM(a0:ak)(a1:Sl bg):(zqz E (a0,a1)).T k=cond (decide ((a1.len:Int)>2000)) (k 3) ((E.c160 a0).T λr1=>cond (!r1) (k 2) (Ud E E.N a0 a1 0 k)):=dS
theorem zj5(n0:Nat)(a0:ak)(a1:Sl bg)(v17:Int):Ud E (n0+1) a0 a1 v17 k=cond (decide (v17<(a1.len:Int))) (aV (decide (0<=v17/\v17<(a1.len:Int))) ((E.uP (a0,(a1.get v17.toNat))).T λr1=>cond (!r1.2) (k 2) (Ud E n0 a0 a1 (aJ (v17+1)) k))) (k 0):=krY
end
theorem o111 [aC](E:zfw)(BR:Ok aB 160 (ae.un E.c160))(AV:Ok aB 112 (ae.un E.uP)):Ok aB 111 (ae.un (zqz E)):=dU ((ax.nil.addF BR).addF AV)
structure zqA where
 N:Nat
def zqB(E:zqA):placed×bg->ae bY:=iR E.N Tabs.nil 113
theorem zTN(E:zqA){A:Type}(k:bY→Option A)(a0:placed)(a1:bg):(zqB E (a0,a1)).T k=cond (a0.ai.Kind==3) (k a0.ai.Clock) (k (⟨(aJ ((aJ (a1.Time-a0.ai.Clock.High))-a0.ai.dP)),(aJ ((aJ (a1.Time-a0.ai.Clock.Low))+a0.ai.dP))⟩:bY)):=dS
theorem zTO [aC](E:zqA):Ok aB 113 (ae.un (zqB E)):=dU ax.nil
structure zqC where
 N:Nat
 c157:Int×Int×Int->ae Bool
 c117:(Sl au)×((dZ 118 Unit Unit) ⊕ (dZ 162 Unit (Pt Int)))->ae (set×Int)
 zgQ:set×Int->ae (aP×aP)
def zqD(E:zqC):(Sl au)×Int->ae (aP×aP×Int):=iR E.N (((Tabs.nil.addF 157 (ae.un E.c157)).addF 117 (ae.un E.c117)).addF 163 (ae.un E.zgQ)) 114
theorem zTP(E:zqC){A:Type}(k:(aP×aP×Int)→Option A)(a0:Sl au)(a1:Int):(zqD E (a0,a1)).T k=(E.c157 (a1,(-100000),200000)).T λr1=>cond (!r1) (k ((⟨0,0⟩:aP),(⟨0,0⟩:aP),2)) ((E.c117 (a0,(Sum.inr (⟨(),(⟨a1⟩:(Pt Int))⟩:(dZ 162 Unit (Pt Int)))))).T λr2=>cond (r2.2 != 0) (k ((⟨0,0⟩:aP),(⟨0,0⟩:aP),r2.2)) ((E.zgQ (r2.1,a1)).T λr3=>k (r3.1,r3.2,0))):=dS
theorem zTQ [aC](E:zqC)(BZ:Ok aB 157 (ae.un E.c157))(za3:Ok aB 117 (ae.un E.c117))(zz9:Ok aB 163 (ae.un E.zgQ)):Ok aB 114 (ae.un (zqD E)):=dU (((ax.nil.addF BZ).addF za3).addF zz9)
structure za4 where
 N:Nat
 c160:ak->ae Bool
 iJ:Int×Int×Int->ae Bool
 c164:bY×Int->ae Bool
 zgT:(Pt placed)->ae (List (Int×bY))
abbrev zAa(E:za4):bK:=gU (((((Tabs.nil.addF 160 (ae.un E.c160)).addF 161 (ae.un E.iJ)).addF 164 (ae.un E.c164)).addF 165 (aF aB E.N (gU Tabs.nil []) (bT aB 165 [] {}) 165)).addI 204 (ae.unI E.zgT)) []
def zAb:dG:=bT aB 115 [] {cut:=[10]}
def zqE(E:za4):ak×Int×bY->ae (Bool×Bool×Int):=ae.ty (aF aB E.N (zAa E) zAb 115)
section
variable(E:za4){A:Type}(k:(Bool×Bool×Int)->Option A)
def uM(E:za4)(l:List (Int×bY))(a0:ak)(a1 qL pX:Int)(tY:Bool)(pY:Int){A:Type}(k:(Bool×Bool×Int)->Option A):Option A:=gW aB (zAa E) E.N zAb 115 [1,1,1,1,1,1,0,1,0] [.y (l.map dF.enc)] (gV k) ⟨[(9,.cl (.ptr 9 0)),(10,.cl (.ptr 10 0)),(11,.cl (.ptr 11 0)),(12,.cl (.ptr 12 0)),(13,.cl (.ptr 13 0)),(56,.p (.fn 204 [] [.fp [.int .i64 (a0.aj.get a1.toNat).Kind,.int .i64 (a0.aj.get a1.toNat).View,.int .i64 (a0.aj.get a1.toNat).Z,.int .i64 (a0.aj.get a1.toNat).First,.int .i64 (a0.aj.get a1.toNat).aO,.int .i64 (a0.aj.get a1.toNat).bG,.int .i64 (a0.aj.get a1.toNat).dL,.int .i64 (a0.aj.get a1.toNat).bf.Low,.int .i64 (a0.aj.get a1.toNat).bf.High,.int .i64 (a0.aj.get a1.toNat).Clock.Low,.int .i64 (a0.aj.get a1.toNat).Clock.High,.int .i64 (a0.aj.get a1.toNat).dP,.int .i64 (a0.aj.get a1.toNat).Least,.sl (a0.aj.get a1.toNat).aT.len 3 (λi=>bI.enc ((a0.aj.get a1.toNat).aT.get i)),.sl (a0.aj.get a1.toNat).Dead.len 1 (λi=>bI.enc ((a0.aj.get a1.toNat).Dead.get i)),.int .i64 a1] 0]))],[(9,.box 185 [.p (.int .i64 (a0.aj.get a1.toNat).Kind),.p (.int .i64 (a0.aj.get a1.toNat).View),.p (.int .i64 (a0.aj.get a1.toNat).Z),.p (.int .i64 (a0.aj.get a1.toNat).First),.p (.int .i64 (a0.aj.get a1.toNat).aO),.p (.int .i64 (a0.aj.get a1.toNat).bG),.p (.int .i64 (a0.aj.get a1.toNat).dL),.p (.int .i64 (a0.aj.get a1.toNat).bf.Low),.p (.int .i64 (a0.aj.get a1.toNat).bf.High),.p (.int .i64 (a0.aj.get a1.toNat).Clock.Low),.p (.int .i64 (a0.aj.get a1.toNat).Clock.High),.p (.int .i64 (a0.aj.get a1.toNat).dP),.p (.int .i64 (a0.aj.get a1.toNat).Least),.p (.sl (a0.aj.get a1.toNat).aT.len 3 (λi=>bI.enc ((a0.aj.get a1.toNat).aT.get i))),.p (.sl (a0.aj.get a1.toNat).Dead.len 1 (λi=>bI.enc ((a0.aj.get a1.toNat).Dead.get i))),.p (.int .i64 a1)]),(10,eB 3 qL),(11,eB 3 pX),(12,eB 4 tY),(13,eB 3 pY)],[]⟩
def NG(E:za4)(l0:List (Int×bY))(a0:ak)(a1 qL pX:Int)(tY:Bool)(pY:Int)(x15:bY){A:Type}(k:(Bool×Bool×Int)->Option A):Option A:=gW aB (zAa E) E.N zAb 115 [1,1,1,1,1,1,0,1,0,0,0,1] [.y (l0.map dF.enc)] (gV k) ⟨[(9,.cl (.ptr 9 0)),(10,.cl (.ptr 10 0)),(11,.cl (.ptr 11 0)),(12,.cl (.ptr 12 0)),(13,.cl (.ptr 13 0)),(15,.cl (.ptr 15 0)),(56,.p (.fn 204 [] [.fp [.int .i64 (a0.aj.get a1.toNat).Kind,.int .i64 (a0.aj.get a1.toNat).View,.int .i64 (a0.aj.get a1.toNat).Z,.int .i64 (a0.aj.get a1.toNat).First,.int .i64 (a0.aj.get a1.toNat).aO,.int .i64 (a0.aj.get a1.toNat).bG,.int .i64 (a0.aj.get a1.toNat).dL,.int .i64 (a0.aj.get a1.toNat).bf.Low,.int .i64 (a0.aj.get a1.toNat).bf.High,.int .i64 (a0.aj.get a1.toNat).Clock.Low,.int .i64 (a0.aj.get a1.toNat).Clock.High,.int .i64 (a0.aj.get a1.toNat).dP,.int .i64 (a0.aj.get a1.toNat).Least,.sl (a0.aj.get a1.toNat).aT.len 3 (λi=>bI.enc ((a0.aj.get a1.toNat).aT.get i)),.sl (a0.aj.get a1.toNat).Dead.len 1 (λi=>bI.enc ((a0.aj.get a1.toNat).Dead.get i)),.int .i64 a1] 0]))],[(9,.box 185 [.p (.int .i64 (a0.aj.get a1.toNat).Kind),.p (.int .i64 (a0.aj.get a1.toNat).View),.p (.int .i64 (a0.aj.get a1.toNat).Z),.p (.int .i64 (a0.aj.get a1.toNat).First),.p (.int .i64 (a0.aj.get a1.toNat).aO),.p (.int .i64 (a0.aj.get a1.toNat).bG),.p (.int .i64 (a0.aj.get a1.toNat).dL),.p (.int .i64 (a0.aj.get a1.toNat).bf.Low),.p (.int .i64 (a0.aj.get a1.toNat).bf.High),.p (.int .i64 (a0.aj.get a1.toNat).Clock.Low),.p (.int .i64 (a0.aj.get a1.toNat).Clock.High),.p (.int .i64 (a0.aj.get a1.toNat).dP),.p (.int .i64 (a0.aj.get a1.toNat).Least),.p (.sl (a0.aj.get a1.toNat).aT.len 3 (λi=>bI.enc ((a0.aj.get a1.toNat).aT.get i))),.p (.sl (a0.aj.get a1.toNat).Dead.len 1 (λi=>bI.enc ((a0.aj.get a1.toNat).Dead.get i))),.p (.int .i64 a1)]),(10,eB 3 qL),(11,eB 3 pX),(12,eB 4 tY),(13,eB 3 pY),(15,eB 105 x15)],[]⟩
theorem e115(a0:ak)(a1:Int)(a2:bY):(zqE E (a0,a1,a2)).T k=(E.c160 a0).T λr1=>cond (!r1) (k (false,false,2)) ((E.iJ (a1,0,(aJ ((a0.aj.len:Int)-1)))).T λr2=>cond (!r2) (k (false,false,2)) ((E.c164 (a2,1000000)).T λr3=>cond (!r3) (k (false,false,2)) (aV (decide (0<=a1/\a1<(a0.aj.len:Int))) ((E.zgT (⟨(⟨(a0.aj.get a1.toNat),a1⟩:placed)⟩:(Pt placed))).T λr4=>uM E r4 a0 a1 (aJ (a2.Low-(a0.aj.get a1.toNat).bf.High)) (aJ (a2.High-(a0.aj.get a1.toNat).bf.Low)) false (aJ (a2.Low-(a0.aj.get a1.toNat).bf.High)) k)))):=dS
theorem zqF(a0:ak)(a1 qL pX:Int)(tY:Bool)(pY:Int):uM E [] a0 a1 qL pX tY pY k=k (decide (pY>pX),tY,0):=krY
theorem za5(y:Int×bY)(l0:List (Int×bY))(a0:ak)(a1 qL pX:Int)(tY:Bool)(pY:Int):uM E (y::l0) a0 a1 qL pX tY pY k=cond tY (NG E l0 a0 a1 qL pX true pY y.2 k) (cond (decide ((aJ (y.2.Low-(a0.aj.get a1.toNat).dL))<=pX)) (NG E l0 a0 a1 qL pX (decide ((aJ (y.2.High+(a0.aj.get a1.toNat).dL))>=qL)) pY y.2 k) (NG E l0 a0 a1 qL pX false pY y.2 k)):=krY
theorem zAc(l0:List (Int×bY))(a0:ak)(a1 qL pX:Int)(tY:Bool)(pY:Int)(x15:bY):NG E l0 a0 a1 qL pX tY pY x15 k=cond (decide (x15.Low<=pY)) (cond (decide (pY<=x15.High)) (uM E l0 a0 a1 qL pX tY (aJ (x15.High+1)) k) (uM E l0 a0 a1 qL pX tY pY k)) (uM E l0 a0 a1 qL pX tY pY k):=krY
end
theorem zTR [aC](E:za4)(BR:Ok aB 160 (ae.un E.c160))(l7:Ok aB 161 (ae.un E.iJ))(XE:Ok aB 164 (ae.un E.c164))(zTS:AL aB 204 (ae.unI E.zgT)):Ok aB 115 (ae.un (zqE E)):=dU (((((ax.nil.addF BR).addF l7).addF XE).addF (xq ax.nil (dJ krY))).addI zTS)
structure zqG where
 N:Nat
 Vf:Line×Int->ae (Int×Int)
def zqH(E:zqG):Line×au->ae Bool:=iR E.N (Tabs.nil.addF 166 (ae.un E.Vf)) 116
theorem e116(E:zqG){A:Type}(k:Bool→Option A)(a0:Line)(a1:au):(zqH E (a0,a1)).T k=(E.Vf (a0,a1.Z)).T λr1=>cond (decide ((aJ (a1.Low*r1.2))<=r1.1)) (k (decide (r1.1<=(aJ (a1.High*r1.2))))) (k false):=dS
theorem zTT [aC](E:zqG)(za6:Ok aB 166 (ae.un E.Vf)):Ok aB 116 (ae.un (zqH E)):=dU (ax.nil.addF za6)
structure Ef where
 N:Nat
 c109:(Sl au)->ae Bool
 CU:(Sl au)->ae set
 c159:set->ae Bool
 c167:list->ae Bool
 zua:list->ae Bool
def Eg(E:Ef):(Sl au)×(dZ 118 Unit Unit)->ae (set×Int):=iR E.N (((((Tabs.nil.addF 109 (ae.un E.c109)).addF 158 (ae.un E.CU)).addF 159 (ae.un E.c159)).addF 167 (ae.un E.c167)).addF 118 (ae.un E.zua)) 117
theorem zj6(E:Ef){A:Type}(k:(set×Int)→Option A)(a0:Sl au)(a1:(dZ 118 Unit Unit)):(Eg E (a0,a1)).T k=(E.c109 a0).T λr1=>cond (!r1) (k ((⟨(⟨(⟨0,λ_=>default⟩:(Sl au))⟩:list),(⟨0,λ_=>default⟩:(Sl straight))⟩:set),2)) ((E.CU a0).T λr2=>(E.c159 r2).T λr3=>cond (!r3) (k ((⟨(⟨(⟨0,λ_=>default⟩:(Sl au))⟩:list),(⟨0,λ_=>default⟩:(Sl straight))⟩:set),5)) ((E.c167 r2.list).T λr4=>cond r4 ((E.zua r2.list).T λr5=>cond (!r5) (k ((⟨(⟨(⟨0,λ_=>default⟩:(Sl au))⟩:list),(⟨0,λ_=>default⟩:(Sl straight))⟩:set),6)) (k (r2,0))) (k (r2,0)))):=dS
theorem zj7 [aC](E:Ef)(NH:Ok aB 109 (ae.un E.c109))(NI:Ok aB 158 (ae.un E.CU))(NJ:Ok aB 159 (ae.un E.c159))(xB:Ok aB 167 (ae.un E.c167))(zAd:Ok aB 118 (ae.un E.zua)):Ok aB 117 (ae.un (Eg E)):=dU (((((ax.nil.addF NH).addF NI).addF NJ).addF xB).addF zAd)
structure Eh where
 N:Nat
 c109:(Sl au)->ae Bool
 CU:(Sl au)->ae set
 c159:set->ae Bool
 c167:list->ae Bool
 c162:list×(Pt Int)->ae Bool
def Ei(E:Eh):(Sl au)×(dZ 162 Unit (Pt Int))->ae (set×Int):=iR E.N (((((Tabs.nil.addF 109 (ae.un E.c109)).addF 158 (ae.un E.CU)).addF 159 (ae.un E.c159)).addF 167 (ae.un E.c167)).addF 162 (ae.un E.c162)) 117
theorem zj8(E:Eh){A:Type}(k:(set×Int)→Option A)(a0:Sl au)(a1:(dZ 162 Unit (Pt Int))):(Ei E (a0,a1)).T k=(E.c109 a0).T λr1=>cond (!r1) (k ((⟨(⟨(⟨0,λ_=>default⟩:(Sl au))⟩:list),(⟨0,λ_=>default⟩:(Sl straight))⟩:set),2)) ((E.CU a0).T λr2=>(E.c159 r2).T λr3=>cond (!r3) (k ((⟨(⟨(⟨0,λ_=>default⟩:(Sl au))⟩:list),(⟨0,λ_=>default⟩:(Sl straight))⟩:set),5)) ((E.c167 r2.list).T λr4=>cond r4 ((E.c162 (r2.list,a1.v)).T λr5=>cond (!r5) (k ((⟨(⟨(⟨0,λ_=>default⟩:(Sl au))⟩:list),(⟨0,λ_=>default⟩:(Sl straight))⟩:set),6)) (k (r2,0))) (k (r2,0)))):=dS
theorem zj9 [aC](E:Eh)(NH:Ok aB 109 (ae.un E.c109))(NI:Ok aB 158 (ae.un E.CU))(NJ:Ok aB 159 (ae.un E.c159))(xB:Ok aB 167 (ae.un E.c167))(zAe:Ok aB 162 (ae.un E.c162)):Ok aB 117 (ae.un (Ei E)):=dU (((((ax.nil.addF NH).addF NI).addF NJ).addF xB).addF zAe)
structure zqI where
 N:Nat
def zqJ(E:zqI):list->ae Bool:=iR E.N Tabs.nil 118
theorem e118(E:zqI){A:Type}(k:Bool→Option A)(a0:list):(zqJ E (a0)).T k=k false:=dS
theorem zTU [aC](E:zqI):Ok aB 118 (ae.un (zqJ E)):=dU ax.nil
structure vU where
 N:Nat
 zuv:straight×(Pt Int)->ae aP
 c168:(Sl aP)×((dZ 169 Unit Unit) ⊕ (dZ 171 Unit Unit))->ae aP
 kW:Int×Int->ae aP
abbrev XK(E:vU):bK:=gU (((Tabs.nil.addF 202 (ae.un E.zuv)).addF 168 (ae.un E.c168)).addF 172 (ae.un E.kW)) []
def XL:dG:=bT aB 119 [] {ks:=[(1,3,⟨[],[(6,23,85)],[],[],[],[],[]⟩)]}
def Ej(E:vU):set×(dZ 202 Unit (Pt Int))->ae (aP×aP):=ae.ty (aF aB E.N (XK E) XL 119)
section
variable(E:vU){A:Type}(k:(aP×aP)->Option A)
def xC(E:vU)(n:Nat)(a0:set)(a1:(dZ 202 Unit (Pt Int)))(fU:Int)(Ue:Sl aP){A:Type}(k:(aP×aP)->Option A):Option A:=gW aB (XK E) E.N XL 119 [1,1,0,1,0] [.n n] (gV k) ⟨[(1,eP a1),(4,.cl (.ptr 4 0)),(5,.cl (.ptr 5 0)),(6,.cl (.vec 23)),(12,eP a0.df),(13,.int (a0.df.len:Int)),(14,.int fU)],[(4,.box 85 [.p (.int .i64 0),.p (.int .i64 0)]),(5,.box 85 [.p (.int .i64 0),.p (.int .i64 0)]),(23,eV 85 2 16 Ue)],[]⟩
theorem zka(a0:set)(a1:(dZ 202 Unit (Pt Int))):(Ej E (a0,a1)).T k=xC E E.N a0 a1 0 (⟨0,(λ_=>(⟨0,0⟩:aP))⟩:(Sl aP)) k:=dS
theorem NL(n0:Nat)(a0:set)(a1:(dZ 202 Unit (Pt Int)))(fU:Int)(Ue:Sl aP):xC E (n0+1) a0 a1 fU Ue k=cond (decide (fU<(a0.df.len:Int))) (aV (decide (0<=fU/\fU<(a0.df.len:Int))) ((E.zuv ((a0.df.get fU.toNat),a1.v)).T λr1=>aV (room (Ue.len+1) 16) (xC E n0 a0 a1 (aJ (fU+1)) (⟨(Ue.len+1),(jy Ue.len Ue.get (fun _=>r1))⟩:(Sl aP)) k))) ((E.c168 (Ue,(Sum.inl (⟨(),()⟩:(dZ 169 Unit Unit))))).T λr2=>(E.c168 (Ue,(Sum.inr (⟨(),()⟩:(dZ 171 Unit Unit))))).T λr3=>(E.kW (r2.Num,r2.bQ)).T λr4=>(E.kW (r3.Num,r3.bQ)).T λr5=>k (r4,r5)):=krY
end
theorem zkb [aC](E:vU)(zAf:Ok aB 202 (ae.un E.zuv))(Uf:Ok aB 168 (ae.un E.c168))(qW:Ok aB 172 (ae.un E.kW)):Ok aB 119 (ae.un (Ej E)):=dU (((ax.nil.addF zAf).addF Uf).addF qW)
structure vV where
 N:Nat
 zue:straight->ae aP
 c168:(Sl aP)×((dZ 169 Unit Unit) ⊕ (dZ 171 Unit Unit))->ae aP
 kW:Int×Int->ae aP
abbrev XM(E:vV):bK:=gU (((Tabs.nil.addF 120 (ae.un E.zue)).addF 168 (ae.un E.c168)).addF 172 (ae.un E.kW)) []
def XN:dG:=bT aB 119 [] {ks:=[(1,3,⟨[],[(6,23,85)],[],[],[],[],[]⟩)]}
def Em(E:vV):set×(dZ 120 Unit Unit)->ae (aP×aP):=ae.ty (aF aB E.N (XM E) XN 119)
section
variable(E:vV){A:Type}(k:(aP×aP)->Option A)
def xE(E:vV)(n:Nat)(a0:set)(fU:Int)(Ue:Sl aP){A:Type}(k:(aP×aP)->Option A):Option A:=gW aB (XM E) E.N XN 119 [1,1,0,1,0] [.n n] (gV k) ⟨[(1,.p (.fn 120 [] [])),(4,.cl (.ptr 4 0)),(5,.cl (.ptr 5 0)),(6,.cl (.vec 23)),(12,eP a0.df),(13,.int (a0.df.len:Int)),(14,.int fU)],[(4,.box 85 [.p (.int .i64 0),.p (.int .i64 0)]),(5,.box 85 [.p (.int .i64 0),.p (.int .i64 0)]),(23,eV 85 2 16 Ue)],[]⟩
theorem zkc(a0:set)(a1:(dZ 120 Unit Unit)):(Em E (a0,a1)).T k=xE E E.N a0 0 (⟨0,(λ_=>(⟨0,0⟩:aP))⟩:(Sl aP)) k:=dS
theorem NM(n0:Nat)(a0:set)(fU:Int)(Ue:Sl aP):xE E (n0+1) a0 fU Ue k=cond (decide (fU<(a0.df.len:Int))) (aV (decide (0<=fU/\fU<(a0.df.len:Int))) ((E.zue (a0.df.get fU.toNat)).T λr1=>aV (room (Ue.len+1) 16) (xE E n0 a0 (aJ (fU+1)) (⟨(Ue.len+1),(jy Ue.len Ue.get (fun _=>r1))⟩:(Sl aP)) k))) ((E.c168 (Ue,(Sum.inl (⟨(),()⟩:(dZ 169 Unit Unit))))).T λr2=>(E.c168 (Ue,(Sum.inr (⟨(),()⟩:(dZ 171 Unit Unit))))).T λr3=>(E.kW (r2.Num,r2.bQ)).T λr4=>(E.kW (r3.Num,r3.bQ)).T λr5=>k (r4,r5)):=krY
end
theorem zkd [aC](E:vV)(zAg:Ok aB 120 (ae.un E.zue))(Uf:Ok aB 168 (ae.un E.c168))(qW:Ok aB 172 (ae.un E.kW)):Ok aB 119 (ae.un (Em E)):=dU (((ax.nil.addF zAg).addF Uf).addF qW)
structure zqK where
 N:Nat
def zqL(E:zqK):straight->ae aP:=iR E.N Tabs.nil 120
theorem e120(E:zqK){A:Type}(k:aP→Option A)(a0:straight):(zqL E (a0)).T k=k (⟨a0.bH,a0.den⟩:aP):=dS
theorem zTV [aC](E:zqK):Ok aB 120 (ae.un (zqL E)):=dU ax.nil
structure zfx where
 N:Nat
abbrev zIB(E:zfx):bK:=gU Tabs.nil []
def zIC:dG:=bT aB 125 [] {}
def zqM(E:zfx):Int×Int->ae Int:=ae.ty (aF aB E.N (zIB E) zIC 125)
section
variable(E:zfx){A:Type}(k:Int->Option A)
def Ug(E:zfx)(n:Nat)(v0 v1:Int){A:Type}(k:Int->Option A):Option A:=gW aB (zIB E) E.N zIC 125 [1,0,0] [.n n] (gV k) ⟨[(0,.int v0),(1,.int v1)],[],[]⟩
theorem e125(a0 a1:Int):(zqM E (a0,a1)).T k=Ug E E.N a0 a1 k:=dS
theorem zAh(n0:Nat)(v0 v1:Int):Ug E (n0+1) v0 v1 k=cond (v1 != 0) (aV (decide (v1≠0)) (Ug E n0 v1 (v0.tmod v1) k)) (k v0):=krY
end
theorem zTW [aC](E:zfx):Ok aB 125 (ae.un (zqM E)):=dU ax.nil
structure zqN where
 N:Nat
 zup:(Sl Bool)×Bool->ae Int
def zqO(E:zqN):(Sl Bool)×Bool->ae Bool:=iR E.N (Tabs.nil.addF 176 (ae.un E.zup)) 126
theorem e126(E:zqN){A:Type}(k:Bool→Option A)(a0:Sl Bool)(a1:Bool):(zqO E (a0,a1)).T k=(E.zup (a0,a1)).T λr1=>k (decide (r1>=0)):=dS
theorem zTX [aC](E:zqN)(zAi:Ok aB 176 (ae.un E.zup)):Ok aB 126 (ae.un (zqO E)):=dU (ax.nil.addF zAi)
structure zke where
 N:Nat
 Jj:af×Int×Bc 143 (Pt aS)×Bc 38 Int×Bw 30 43 3 56 af×Bs 255 178 2 4×Unit->ae ((Bool×Int)×(Unit×Unit×(Pt aS)×Int×Sl af×Unit×Unit))
abbrev zTY(E:zke):bK:=gU (Tabs.nil.addM 178 (ae.unP 254 E.Jj)) []
def zTZ:dG:=bT aB 127 [] {ks:=[(0,3,⟨[],[],[(4,0,5000,43)],[],[],[],[]⟩)],pan:=[4]}
def zqP(E:zke):(Pt aS)×Int->ae ((Sl af)×Bool):=ae.ty (aD aB (zTY E) E.N zc4 177 zTZ 127)
theorem e127(E:zke){A:Type}(k:((Sl af)×Bool)→Option A)(a0:Pt aS)(a1:Int):(zqP E (a0,a1)).T k=(E.Jj ((⟨0,(⟨0,λ_=>default⟩:(Sl Int)),(⟨0,λ_=>default⟩:(Sl Int))⟩:af),0,(⟨a0⟩:Bc 143 (Pt aS)),(⟨a1⟩:Bc 38 Int),(⟨(⟨0,(λ_=>(⟨0,(⟨0,(λ_=>0)⟩:(Sl Int)),(⟨0,(λ_=>0)⟩:(Sl Int))⟩:af))⟩:(Sl af))⟩:Bw 30 43 3 56 af),({}:Bs 255 178 2 4),())).T λr1=>cond r1.1.1 (k ((⟨0,λ_=>default⟩:(Sl af)),false)) (k (r1.2.2.2.2.2.1,true)):=zHD.trans krY
theorem zT0 [aC](E:zke)(zAj:rP aB 178 (ae.unP 254 E.Jj)):Ok aB 127 (ae.un (zqP E)):=zvp (zjq (ax.nil.addM zAj) (dJ krY) zju)
structure vW where
 N:Nat
 zug:(Pt aS)×af->ae Bool
abbrev XO(E:vW):bK:=gU (Tabs.nil.addF 129 (ae.un E.zug)) []
def XP:dG:=bT aB 128 [] {ks:=[(1,3,⟨[],[(5,20,43)],[],[],[],[],[]⟩)]}
def En(E:vW):(Sl af)×(dZ 129 (Pt aS) Unit)->ae (Sl af×Unit):=ae.tyV (aK aB E.N (XO E) XP 128 43 3 56)
section
variable(E:vW){A:Type}(k:(Sl af×Unit)->Option A)
def rZ(E:vW)(n:Nat)(a0:Sl af)(a1:(dZ 129 (Pt aS) Unit))(v10:Int)(FO:Sl af){A:Type}(k:(Sl af×Unit)->Option A):Option A:=ptG aB (XO E) E.N XP 128 [1,1,0,1,0] [.n n] (zaL 43 3 56) (zaK k) ⟨[(1,.p (.fn 129 [.fp [.sl a1.a.v.ak.aj.len 15 (λi=>bI.enc (a1.a.v.ak.aj.get i)),.sl a1.a.v.hits.len 6 (λi=>bI.enc (a1.a.v.hits.get i)),.sl a1.a.v.jr.len 1 (λi=>bI.enc (a1.a.v.jr.get i)),.int .i64 a1.a.v.rules.mO,.int .i64 a1.a.v.rules.o7] 0] [])),(5,.cl (.vec 20)),(8,eP a0),(9,.int (a0.len:Int)),(10,.int v10)],[(20,eV 43 3 56 FO)],[]⟩
theorem zkf(a0:Sl af)(a1:(dZ 129 (Pt aS) Unit)):(En E (a0,a1)).T k=rZ E E.N a0 a1 0 (⟨0,(λ_=>(⟨0,(⟨0,(λ_=>0)⟩:(Sl Int)),(⟨0,(λ_=>0)⟩:(Sl Int))⟩:af))⟩:(Sl af)) k:=zjg.trans krY
theorem NP(n0:Nat)(a0:Sl af)(a1:(dZ 129 (Pt aS) Unit))(v10:Int)(FO:Sl af):rZ E (n0+1) a0 a1 v10 FO k=cond (decide (v10<(a0.len:Int))) (aV (decide (0<=v10/\v10<(a0.len:Int))) ((E.zug (a1.a,(a0.get v10.toNat))).T λr1=>cond r1 (aV (room (FO.len+1) 56) (rZ E n0 a0 a1 (aJ (v10+1)) (⟨(FO.len+1),(jy FO.len FO.get (λ_=>(a0.get v10.toNat)))⟩:(Sl af)) k)) (rZ E n0 a0 a1 (aJ (v10+1)) FO k))) (k (FO,())):=krY
end
theorem zkg [aC](E:vW)(zAk:Ok aB 129 (ae.un E.zug)):gB aB 128 (.mkv 43 3 56 (ae.unV (En E))):=zaJ (TN (ax.nil.addF zAk) (dJ krY))
structure vX where
 N:Nat
 c130:af×(Pt (Pt found))->ae Bool
abbrev XQ(E:vX):bK:=gU (Tabs.nil.addF 130 (ae.un E.c130)) []
def XR:dG:=bT aB 128 [] {ks:=[(1,3,⟨[],[(5,20,43)],[],[],[],[],[]⟩)]}
def Eo(E:vX):(Sl af)×(dZ 130 Unit (Pt (Pt found)))->ae (Sl af×Unit):=ae.tyV (aK aB E.N (XQ E) XR 128 43 3 56)
section
variable(E:vX){A:Type}(k:(Sl af×Unit)->Option A)
def su(E:vX)(n:Nat)(a0:Sl af)(a1:(dZ 130 Unit (Pt (Pt found))))(v10:Int)(FO:Sl af){A:Type}(k:(Sl af×Unit)->Option A):Option A:=ptG aB (XQ E) E.N XR 128 [1,1,0,1,0] [.n n] (zaL 43 3 56) (zaK k) ⟨[(1,eP a1),(5,.cl (.vec 20)),(8,eP a0),(9,.int (a0.len:Int)),(10,.int v10)],[(20,eV 43 3 56 FO)],[]⟩
theorem zkh(a0:Sl af)(a1:(dZ 130 Unit (Pt (Pt found)))):(Eo E (a0,a1)).T k=su E E.N a0 a1 0 (⟨0,(λ_=>(⟨0,(⟨0,(λ_=>0)⟩:(Sl Int)),(⟨0,(λ_=>0)⟩:(Sl Int))⟩:af))⟩:(Sl af)) k:=zjg.trans krY
theorem NQ(n0:Nat)(a0:Sl af)(a1:(dZ 130 Unit (Pt (Pt found))))(v10:Int)(FO:Sl af):su E (n0+1) a0 a1 v10 FO k=cond (decide (v10<(a0.len:Int))) (aV (decide (0<=v10/\v10<(a0.len:Int))) ((E.c130 ((a0.get v10.toNat),a1.v)).T λr1=>cond r1 (aV (room (FO.len+1) 56) (su E n0 a0 a1 (aJ (v10+1)) (⟨(FO.len+1),(jy FO.len FO.get (λ_=>(a0.get v10.toNat)))⟩:(Sl af)) k)) (su E n0 a0 a1 (aJ (v10+1)) FO k))) (k (FO,())):=krY
end
theorem zki [aC](E:vX)(zAl:Ok aB 130 (ae.un E.c130)):gB aB 128 (.mkv 43 3 56 (ae.unV (Eo E))):=zaJ (TN (ax.nil.addF zAl) (dJ krY))
structure zqQ where
 N:Nat
 c141:(Pt aS)×af->ae ((Sl Int))
def zqR(E:zqQ):(Pt aS)×af->ae Bool:=iR E.N (Tabs.nil.addF 141 (ae.un E.c141)) 129
theorem e129(E:zqQ){A:Type}(k:Bool→Option A)(a0:Pt aS)(a1:af):(zqR E (a0,a1)).T k=cond (decide ((a1.Hits.len:Int)>=a0.v.rules.mO)) ((E.c141 (a0,a1)).T λr1=>k (decide ((r1.len:Int)≤a0.v.rules.o7))) (k false):=dS
theorem zT1 [aC](E:zqQ)(za7:Ok aB 141 (ae.un E.c141)):Ok aB 129 (ae.un (zqR E)):=dU (ax.nil.addF za7)
structure zqS where
 N:Nat
 c131:(Sl af)×(dZ 132 Unit (Pt af))->ae Bool
def zqT(E:zqS):af×(Pt (Pt found))->ae Bool:=iR E.N (Tabs.nil.addF 131 (ae.un E.c131)) 130
theorem zT2(E:zqS){A:Type}(k:Bool→Option A)(a0:af)(a1:(Pt (Pt found))):(zqT E (a0,a1)).T k=(E.c131 (a1.v.v.fits,(⟨(),(⟨a0⟩:(Pt af))⟩:(dZ 132 Unit (Pt af))))).T λr1=>k (!r1):=dS
theorem zT3 [aC](E:zqS)(zAm:Ok aB 131 (ae.un E.c131)):Ok aB 130 (ae.un (zqT E)):=dU (ax.nil.addF zAm)
structure zqU where
 N:Nat
 c97:(Sl af)×(dZ 132 Unit (Pt af))->ae Int
def zqV(E:zqU):(Sl af)×(dZ 132 Unit (Pt af))->ae Bool:=iR E.N (Tabs.nil.addF 97 (ae.un E.c97)) 131
theorem zT4(E:zqU){A:Type}(k:Bool→Option A)(a0:Sl af)(a1:(dZ 132 Unit (Pt af))):(zqV E (a0,a1)).T k=(E.c97 (a0,a1)).T λr1=>k (decide (r1>=0)):=dS
theorem zT5 [aC](E:zqU)(h97:Ok aB 97 (ae.un E.c97)):Ok aB 131 (ae.un (zqV E)):=dU (ax.nil.addF h97)
structure zqW where
 N:Nat
 c92:af×af->ae Bool
def zqX(E:zqW):af×(Pt af)->ae Bool:=iR E.N (Tabs.nil.addF 92 (ae.un E.c92)) 132
theorem zT6(E:zqW){A:Type}(k:Bool→Option A)(a0:af)(a1:Pt af):(zqX E (a0,a1)).T k=cond (decide ((a0.Hits.len:Int)>(a1.v.Hits.len:Int))) ((E.c92 (a0,a1.v)).T λr1=>k r1) (k false):=dS
theorem zT7 [aC](E:zqW)(h92:Ok aB 92 (ae.un E.c92)):Ok aB 132 (ae.un (zqX E)):=dU (ax.nil.addF h92)
structure zqY where
 N:Nat
 zur:Int×Int->ae Int
 zm8:(Sl Int)×(Sl Int)->ae Int
 zuq:(Sl Int)->ae Int
def zqZ(E:zqY):af×af->ae Int:=iR E.N (((Tabs.nil.addF 186 (ae.un E.zur)).addF 187 (ae.un E.zm8)).addF 185 (ae.un E.zuq)) 134
theorem zT8(E:zqY){A:Type}(k:Int→Option A)(a0 a1:af):(zqZ E (a0,a1)).T k=(E.zur (a0.View,a1.View)).T λr1=>(E.zm8 (a0.Hits,a1.Hits)).T λr2=>(E.zm8 (a0.aU,a1.aU)).T λr3=>(E.zuq (⟨3,(gK [r1,r2,r3])⟩:(Sl Int))).T λr4=>k r4:=dS
theorem zT9 [aC](E:zqY)(zAo:Ok aB 186 (ae.un E.zur))(zq0:Ok aB 187 (ae.un E.zm8))(zAp:Ok aB 185 (ae.un E.zuq)):Ok aB 134 (ae.un (zqZ E)):=dU (((ax.nil.addF zAo).addF zq0).addF zAp)
structure zq1 where
 N:Nat
def zq2(E:zq1):ai×Int->ae (Int×Int):=iR E.N Tabs.nil 136
theorem zUa(E:zq1){A:Type}(k:(Int×Int)→Option A)(a0:ai)(a1:Int):(zq2 E (a0,a1)).T k=cond (a0.Kind==2) (k ((aJ ((aJ (a0.First+(aJ (a1*a0.aO))))-(aJ (a0.aO.tdiv 2)))),(aJ ((aJ ((aJ ((aJ (a0.First+(aJ (a1*a0.aO))))-(aJ (a0.aO.tdiv 2))))+a0.aO))-1)))) (k ((aJ ((aJ (a0.First+(aJ (a1*a0.aO))))-0)),(aJ ((aJ ((aJ ((aJ (a0.First+(aJ (a1*a0.aO))))-0))+a0.aO))-1)))):=dS
theorem zUb [aC](E:zq1):Ok aB 136 (ae.un (zq2 E)):=dU ax.nil
structure zfy where
 N:Nat
 c105:(Pt aS)×af->ae ((Sl au))
 OM:(Sl Int)×((dZ 180 Unit ((Pt (Pt aS))×(Pt Int))) ⊕ (dZ 190 Unit ((Pt (Pt aS))×(Pt Int))))->ae Bool
 zm5:(Sl au)×Int->ae (aP×aP×Int)
 PK:aP->ae Int
 zut:aP->ae Int
 zm6:ak×Int×bY->ae (Bool×Bool×Int)
abbrev zID(E:zfy):bK:=gU (((((((Tabs.nil.addN [190]).addF 105 (ae.un E.c105)).addF 179 (ae.un E.OM)).addF 114 (ae.un E.zm5)).addF 191 (ae.un E.PK)).addF 192 (ae.un E.zut)).addF 115 (ae.un E.zm6)) []
def zIE:dG:=bT aB 141 [] {ks:=[(1,4,⟨[],[(5,83,3)],[],[],[],[],[]⟩)],clo:=[190]}
def zq3(E:zfy):(Pt aS)×af->ae ((Sl Int)):=ae.ty (aF aB E.N (zID E) zIE 141)
section
variable(E:zfy){A:Type}(k:(Sl Int)->Option A)
def nH(E:zfy)(n:Nat)(a0:Pt aS)(a1:af)(v6:Sl au)(v26:Int)(w83:Sl Int){A:Type}(k:(Sl Int)->Option A):Option A:=gW aB (zID E) E.N zIE 141 [1,1,1,0,1,0] [.n n] (gV k) ⟨[(2,.cl (.ptr 2 0)),(3,.cl (.ptr 3 0)),(5,.cl (.vec 83)),(6,eP v6),(24,eP a0.v.ak.aj),(25,.int (a0.v.ak.aj.len:Int)),(26,.int v26)],[(2,eB 143 a0),(3,eB 43 a1),(83,eV 3 1 8 w83)],[]⟩
theorem zUc(a0:Pt aS)(a1:af):(zq3 E (a0,a1)).T k=(E.c105 (a0,a1)).T λr1=>nH E E.N a0 a1 r1 0 (⟨0,(λ_=>0)⟩:(Sl Int)) k:=dS
theorem zkj(n0:Nat)(a0:Pt aS)(a1:af)(v6:Sl au)(v26:Int)(w83:Sl Int):nH E (n0+1) a0 a1 v6 v26 w83 k=cond (decide (v26<(a0.v.ak.aj.len:Int))) (aV (decide (0<=v26/\v26<(a0.v.ak.aj.len:Int))) (cond ((a0.v.ak.aj.get v26.toNat).View != a1.View) (nH E n0 a0 a1 v6 (aJ (v26+1)) w83 k) ((E.OM (a1.Hits,(Sum.inr (⟨(),((⟨a0⟩:(Pt (Pt aS))),(⟨v26⟩:(Pt Int)))⟩:(dZ 190 Unit ((Pt (Pt aS))×(Pt Int))))))).T λr1=>cond r1 (nH E n0 a0 a1 v6 (aJ (v26+1)) w83 k) ((E.zm5 (v6,(a0.v.ak.aj.get v26.toNat).Z)).T λr2=>cond (r2.2.2 != 0) (nH E n0 a0 a1 v6 (aJ (v26+1)) w83 k) ((E.PK r2.1).T λr3=>(E.zut r2.2.1).T λr4=>cond (decide (r3<(-1000000))) (nH E n0 a0 a1 v6 (aJ (v26+1)) w83 k) (cond (decide (r4>1000000)) (nH E n0 a0 a1 v6 (aJ (v26+1)) w83 k) ((E.zm6 (a0.v.ak,v26,(⟨r3,r4⟩:bY))).T λr5=>cond (r5.2.2==0) (cond r5.1 (aV (room (w83.len+1) 8) (nH E n0 a0 a1 v6 (aJ (v26+1)) (⟨(w83.len+1),(jy w83.len w83.get (λ_=>v26))⟩:(Sl Int)) k)) (nH E n0 a0 a1 v6 (aJ (v26+1)) w83 k)) (nH E n0 a0 a1 v6 (aJ (v26+1)) w83 k)))))))) (k w83):=krY
end
theorem zUd [aC](E:zfy)(NR:Ok aB 105 (ae.un E.c105))(za9:Ok aB 179 (ae.un E.OM))(zAq:Ok aB 114 (ae.un E.zm5))(zba:Ok aB 191 (ae.un E.PK))(zAr:Ok aB 192 (ae.un E.zut))(zAs:Ok aB 115 (ae.un E.zm6)):Ok aB 141 (ae.un (zq3 E)):=dU (((((((ax.nil.addN).addF NR).addF za9).addF zAq).addF zba).addF zAr).addF zAs)
structure zq4 where
 N:Nat
 Vx:(Sl Int)×(Sl Int)->ae Int
def zq5(E:zq4):af×af->ae Bool:=iR E.N (Tabs.nil.addF 38 (ae.un E.Vx)) 144
theorem zUe(E:zq4){A:Type}(k:Bool→Option A)(a0 a1:af):(zq5 E (a0,a1)).T k=cond (a0.View != a1.View) (k (decide (a0.View<a1.View))) ((E.Vx (a0.Hits,a1.Hits)).T λr1=>cond (r1 != 0) (k (decide (r1<0))) ((E.Vx (a0.aU,a1.aU)).T λr2=>k (decide (r2<0)))):=dS
theorem zUf [aC](E:zq4)(h38:Ok aB 38 (ae.un E.Vx)):Ok aB 144 (ae.un (zq5 E)):=dU (ax.nil.addF h38)
structure zq6 where
 N:Nat
 Fq:(Sl au)->ae Bool
 c193:(Sl au)->ae (Int×Int×Bool)
 c194:(Sl au)->ae ((Sl Line))
def zq7(E:zq6):(Sl au)->ae Bool:=iR E.N (((Tabs.nil.addF 149 (ae.un E.Fq)).addF 193 (ae.un E.c193)).addF 194 (ae.un E.c194)) 145
theorem zUg(E:zq6){A:Type}(k:Bool→Option A)(a0:Sl au):(zq7 E (a0)).T k=(E.Fq a0).T λr1=>cond r1 ((E.c193 a0).T λr2=>k r2.2.2) ((E.c194 a0).T λr3=>k (decide ((r3.len:Int)>0))):=dS
theorem zUh [aC](E:zq6)(NF:Ok aB 149 (ae.un E.Fq))(zkk:Ok aB 193 (ae.un E.c193))(zbb:Ok aB 194 (ae.un E.c194)):Ok aB 145 (ae.un (zq7 E)):=dU (((ax.nil.addF NF).addF zkk).addF zbb)
structure zfz where
 N:Nat
 c74:ak×bg->ae bY
abbrev zIF(E:zfz):bK:=gU (Tabs.nil.addF 74 (ae.un E.c74)) []
def zIG:dG:=bT aB 147 [] {}
def zq8(E:zfz):ak×(Sl bg)->ae (bY×Bool):=ae.ty (aF aB E.N (zIF E) zIG 147)
section
variable(E:zfz){A:Type}(k:(bY×Bool)->Option A)
def Uh(E:zfz)(n:Nat)(a0:ak)(a1:Sl bg)(v7:Int)(x6:bY){A:Type}(k:(bY×Bool)->Option A):Option A:=gW aB (zIF E) E.N zIG 147 [1,1,0,1,0] [.n n] (gV k) ⟨[(1,eP a1),(2,.cl (.ptr 2 0)),(4,.cl (.ptr 4 0)),(6,.cl (.ptr 6 0)),(7,.int v7)],[(2,eB 24 a0),(4,.box 105 [.p (.int .i64 0),.p (.int .i64 0)]),(6,eB 105 x6)],[]⟩
theorem zUi(a0:ak)(a1:Sl bg):(zq8 E (a0,a1)).T k=aV (decide ((0:Int)<=0/\0<(a1.len:Int))) ((E.c74 (a0,(a1.get 0))).T λr1=>Uh E E.N a0 a1 1 r1 k):=dS
theorem zkl(n0:Nat)(a0:ak)(a1:Sl bg)(v7:Int)(x6:bY):Uh E (n0+1) a0 a1 v7 x6 k=cond (decide (v7<(a1.len:Int))) (aV (decide (0<=v7/\v7<(a1.len:Int))) ((E.c74 (a0,(a1.get v7.toNat))).T λr1=>Uh E n0 a0 a1 (aJ (v7+1)) (⟨(if r1.Low>x6.Low then r1.Low else x6.Low),(if r1.High<x6.High then r1.High else x6.High)⟩:bY) k)) (k (x6,decide (x6.Low<=x6.High))):=krY
end
theorem zUj [aC](E:zfz)(h74:Ok aB 74 (ae.un E.c74)):Ok aB 147 (ae.un (zq8 E)):=dU (ax.nil.addF h74)
structure zfA where
 N:Nat
abbrev zIH(E:zfA):bK:=gU Tabs.nil []
def zII:dG:=bT aB 148 [] {ks:=[(1,3,⟨[],[(5,22,92)],[],[],[],[],[]⟩)]}
def zq9(E:zfA):(Sl bg)×(Sl Int)->ae ((Sl bg)):=ae.ty (aF aB E.N (zIH E) zII 148)
section
variable(E:zfA){A:Type}(k:(Sl bg)->Option A)
def Ui(E:zfA)(n:Nat)(a0:Sl bg)(a1:Sl Int)(v6:Int)(GZ:Sl bg){A:Type}(k:(Sl bg)->Option A):Option A:=gW aB (zIH E) E.N zII 148 [1,1,0,1,0] [.n n] (gV k) ⟨[(0,eP a0),(1,eP a1),(5,.cl (.vec 22)),(6,.int v6)],[(22,eV 92 6 48 GZ)],[]⟩
theorem zUk(a0:Sl bg)(a1:Sl Int):(zq9 E (a0,a1)).T k=Ui E E.N a0 a1 0 (⟨0,(λ_=>(⟨0,0,0,0,0,0⟩:bg))⟩:(Sl bg)) k:=dS
theorem zkm(n0:Nat)(a0:Sl bg)(a1:Sl Int)(v6:Int)(GZ:Sl bg):Ui E (n0+1) a0 a1 v6 GZ k=cond (decide (v6<(a1.len:Int))) (aV (decide (0<=v6/\v6<(a1.len:Int))) (aV (decide (0<=a1.get v6.toNat/\a1.get v6.toNat<(a0.len:Int))) (aV (room (GZ.len+1) 48) (Ui E n0 a0 a1 (aJ (v6+1)) (⟨(GZ.len+1),(jy GZ.len GZ.get (λ_=>(a0.get (a1.get v6.toNat).toNat)))⟩:(Sl bg)) k)))) (k GZ):=krY
end
theorem zUl [aC](E:zfA):Ok aB 148 (ae.un (zq9 E)):=dU ax.nil
structure zfB where
 N:Nat
abbrev zIJ(E:zfB):bK:=gU Tabs.nil []
def zIK:dG:=bT aB 149 [] {}
def zra(E:zfB):(Sl au)->ae Bool:=ae.ty (aF aB E.N (zIJ E) zIK 149)
section
variable(E:zfB){A:Type}(k:Bool->Option A)
def Cb(E:zfB)(n:Nat)(a0:Sl au)(v3:Int){A:Type}(k:Bool->Option A):Option A:=gW aB (zIJ E) E.N zIK 149 [1,0,1,0] [.n n] (gV k) ⟨[(0,eP a0),(3,.int v3)],[],[]⟩
theorem zUm(a0:Sl au):(zra E (a0)).T k=Cb E E.N a0 1 k:=dS
theorem zkn(n0:Nat)(a0:Sl au)(v3:Int):Cb E (n0+1) a0 v3 k=cond (decide (v3<(a0.len:Int))) (aV (decide (0<=v3/\v3<(a0.len:Int))) (aV (decide ((0:Int)<=0/\0<(a0.len:Int))) (cond ((a0.get v3.toNat).Z != (a0.get 0).Z) (k false) (Cb E n0 a0 (aJ (v3+1)) k)))) (k true):=krY
end
theorem zUn [aC](E:zfB):Ok aB 149 (ae.un (zra E)):=dU ax.nil
structure zbc where
 N:Nat
 Fq:(Sl au)->ae Bool
 c193:(Sl au)->ae (Int×Int×Bool)
 c71:Int×Int->ae aP
 c194:(Sl au)->ae ((Sl Line))
 c76:Line×Int->ae aP
 c56:aP×aP->ae Bool
abbrev zAt(E:zbc):bK:=gU ((((((Tabs.nil.addF 149 (ae.un E.Fq)).addF 193 (ae.un E.c193)).addF 71 (ae.un E.c71)).addF 194 (ae.un E.c194)).addF 76 (ae.un E.c76)).addF 56 (ae.un E.c56)) []
def zAu:dG:=bT aB 150 [] {cut:=[12]}
def zrb(E:zbc):(Sl au)×Int->ae (aP×aP):=ae.ty (aF aB E.N (zAt E) zAu 150)
section
variable(E:zbc){A:Type}(k:(aP×aP)->Option A)
def Cc(E:zbc)(n:Nat)(a1:Int)(v9:Sl Line)(v12:Int)(x10 x11:aP){A:Type}(k:(aP×aP)->Option A):Option A:=gW aB (zAt E) E.N zAu 150 [1,1,1,1,0,1,0] [.n n] (gV k) ⟨[(1,.int a1),(4,.cl (.ptr 4 0)),(5,.cl (.ptr 5 0)),(9,eP v9),(10,.cl (.ptr 10 0)),(11,.cl (.ptr 11 0)),(12,.int v12)],[(4,.box 85 [.p (.int .i64 0),.p (.int .i64 0)]),(5,.box 85 [.p (.int .i64 0),.p (.int .i64 0)]),(10,eB 85 x10),(11,eB 85 x11)],[]⟩
def zbd(E:zbc)(n0:Nat)(a1:Int)(v9:Sl Line)(v12:Int)(x10 x11 x13:aP){A:Type}(k:(aP×aP)->Option A):Option A:=gW aB (zAt E) E.N zAu 150 [1,1,1,1,0,1,0,0,1,0,0,1,1] [.n n0] (gV k) ⟨[(1,.int a1),(4,.cl (.ptr 4 0)),(5,.cl (.ptr 5 0)),(9,eP v9),(10,.cl (.ptr 10 0)),(11,.cl (.ptr 11 0)),(12,.int v12),(13,.cl (.ptr 13 0))],[(4,.box 85 [.p (.int .i64 0),.p (.int .i64 0)]),(5,.box 85 [.p (.int .i64 0),.p (.int .i64 0)]),(10,eB 85 x10),(11,eB 85 x11),(13,eB 85 x13)],[]⟩
theorem zUo(a0:Sl au)(a1:Int):(zrb E (a0,a1)).T k=(E.Fq a0).T λr1=>cond r1 ((E.c193 a0).T λr2=>(E.c71 (r2.1,1)).T λr3=>(E.c71 (r2.2.1,1)).T λr4=>k (r3,r4)) ((E.c194 a0).T λr5=>aV (decide ((0:Int)<=0/\0<(r5.len:Int))) ((E.c76 ((r5.get 0),a1)).T λr6=>aV (decide ((0:Int)<=0/\0<(r5.len:Int))) ((E.c76 ((r5.get 0),a1)).T λr7=>Cc E E.N a1 r5 1 r6 r7 k))):=dS
theorem zko(n0:Nat)(a1:Int)(v9:Sl Line)(v12:Int)(x10 x11:aP):Cc E (n0+1) a1 v9 v12 x10 x11 k=cond (decide (v12<(v9.len:Int))) (aV (decide (0<=v12/\v12<(v9.len:Int))) ((E.c76 ((v9.get v12.toNat),a1)).T λr1=>(E.c56 (r1,x10)).T λr2=>cond r2 (zbd E n0 a1 v9 v12 r1 x11 r1 k) (zbd E n0 a1 v9 v12 x10 x11 r1 k))) (k (x10,x11)):=krY
theorem zAv(n0:Nat)(a1:Int)(v9:Sl Line)(v12:Int)(x10 x11 x13:aP):zbd E n0 a1 v9 v12 x10 x11 x13 k=(E.c56 (x11,x13)).T λr1=>cond r1 (Cc E n0 a1 v9 (aJ (v12+1)) x10 x13 k) (Cc E n0 a1 v9 (aJ (v12+1)) x10 x11 k):=krY
end
theorem zUp [aC](E:zbc)(NF:Ok aB 149 (ae.un E.Fq))(zkk:Ok aB 193 (ae.un E.c193))(h71:Ok aB 71 (ae.un E.c71))(zbb:Ok aB 194 (ae.un E.c194))(h76:Ok aB 76 (ae.un E.c76))(h56:Ok aB 56 (ae.un E.c56)):Ok aB 150 (ae.un (zrb E)):=dU ((((((ax.nil.addF NF).addF zkk).addF h71).addF zbb).addF h76).addF h56)
structure zre where
 N:Nat
def zrf(E:zre):aP->ae Int:=iR E.N Tabs.nil 151
theorem zUq(E:zre){A:Type}(k:Int→Option A)(a0:aP):(zrf E (a0)).T k=aV (decide (a0.bQ≠0)) (cond (decide ((aJ ((aJ (a0.Num.tdiv a0.bQ))*a0.bQ))>a0.Num)) (k (aJ ((aJ (a0.Num.tdiv a0.bQ))-1))) (k (aJ (a0.Num.tdiv a0.bQ)))):=dS
theorem zUr [aC](E:zre):Ok aB 151 (ae.un (zrf E)):=dU ax.nil
structure zfC where
 N:Nat
abbrev zIM(E:zfC):bK:=gU Tabs.nil []
def zIN:dG:=bT aB 152 [] {}
def zrg(E:zfC):(Sl Int)×Int->ae Int:=ae.ty (aF aB E.N (zIM E) zIN 152)
section
variable(E:zfC){A:Type}(k:Int->Option A)
def Uj(E:zfC)(n:Nat)(a0:Sl Int)(a1 v8:Int){A:Type}(k:Int->Option A):Option A:=gW aB (zIM E) E.N zIN 152 [1,0,1,0] [.n n] (gV k) ⟨[(0,eP a0),(1,.int a1),(7,.int (a0.len:Int)),(8,.int v8)],[],[]⟩
theorem e152(a0:Sl Int)(a1:Int):(zrg E (a0,a1)).T k=Uj E E.N a0 a1 0 k:=dS
theorem zkp(n0:Nat)(a0:Sl Int)(a1 v8:Int):Uj E (n0+1) a0 a1 v8 k=cond (decide (v8<(a0.len:Int))) (aV (decide (0<=v8/\v8<(a0.len:Int))) (cond (a1==a0.get v8.toNat) (k v8) (Uj E n0 a0 a1 (aJ (v8+1)) k))) (k (-1)):=krY
end
theorem zUs [aC](E:zfC):Ok aB 152 (ae.un (zrg E)):=dU ax.nil
structure zrh where
 N:Nat
 OQ:(ak×(Sl bg)×af×Int)×Sl af->ae (Sl af)
def zri(E:zrh):ak×(Sl bg)×Int->ae ((Sl af)×Bool):=iR E.N (Tabs.nil.addO 195 (.grow 43 3 56 (ae.unW E.OQ))) 153
theorem e153(E:zrh){A:Type}(k:((Sl af)×Bool)→Option A)(a0:ak)(a1:Sl bg)(a2:Int):(zri E (a0,a1,a2)).T k=(E.OQ ((a0,a1,(⟨a2,(⟨0,λ_=>default⟩:(Sl Int)),(⟨0,λ_=>default⟩:(Sl Int))⟩:af),0),(⟨0,(λ_=>(⟨0,(⟨0,λ_=>default⟩:(Sl Int)),(⟨0,λ_=>default⟩:(Sl Int))⟩:af))⟩:(Sl af)))).T λr1=>k (r1,decide ((r1.len:Int)<=2000)):=dS
theorem zUt [aC](E:zrh)(zAw:gB aB 195 (.grow 43 3 56 (ae.unW E.OQ))):Ok aB 153 (ae.un (zri E)):=dU (ax.nil.addO zAw)
structure zrj where
 N:Nat
 c196:ak×(Sl bg)×af->ae Bool
 c91:ak×(Sl bg)×af->ae ((Sl Int))
def zrk(E:zrj):ak×bF×(Sl bg)×af->ae Bool:=iR E.N ((Tabs.nil.addF 196 (ae.un E.c196)).addF 91 (ae.un E.c91)) 154
theorem e154(E:zrj){A:Type}(k:Bool→Option A)(a0:ak)(a1:bF)(a2:Sl bg)(a3:af):(zrk E (a0,a1,a2,a3)).T k=(E.c196 (a0,a2,a3)).T λr1=>cond r1 (cond (decide ((a3.Hits.len:Int)>=a1.mO)) ((E.c91 (a0,a2,a3)).T λr2=>k (decide ((r2.len:Int)<=a1.o7))) (k false)) (k false):=dS
theorem zUu [aC](E:zrj)(zbe:Ok aB 196 (ae.un E.c196))(h91:Ok aB 91 (ae.un E.c91)):Ok aB 154 (ae.un (zrk E)):=dU ((ax.nil.addF zbe).addF h91)
structure zrl where
 N:Nat
 c157:Int×Int×Int->ae Bool
def zrm(E:zrl):au->ae Bool:=iR E.N (Tabs.nil.addF 157 (ae.un E.c157)) 156
theorem zUv(E:zrl){A:Type}(k:Bool→Option A)(a0:au):(zrm E (a0)).T k=(E.c157 (a0.Z,0,100000)).T λr1=>cond r1 (cond (decide (a0.Low>=(-1000000))) (cond (decide (a0.Low<=a0.High)) (k (decide (a0.High<=1000000))) (k false)) (k false)) (k false):=dS
theorem zUw [aC](E:zrl)(BZ:Ok aB 157 (ae.un E.c157)):Ok aB 156 (ae.un (zrm E)):=dU (ax.nil.addF BZ)
structure zrn where
 N:Nat
def zro(E:zrn):Int×Int×Int->ae Bool:=iR E.N Tabs.nil 157
theorem zUx(E:zrn){A:Type}(k:Bool→Option A)(a0 a1 a2:Int):(zro E (a0,a1,a2)).T k=cond (decide (a0>=a1)) (k (decide (a0<=a2))) (k false):=dS
theorem zUy [aC](E:zrn):Ok aB 157 (ae.un (zro E)):=dU ax.nil
structure zfD where
 N:Nat
 c167:list->ae Bool
 c198:straight->ae Line
 zuu:set×straight->ae Bool
 i228:(Pt list)->ae (List (straight))
abbrev zIO(E:zfD):bK:=gU (((((Tabs.nil.addF 167 (ae.un E.c167)).addF 198 (ae.un E.c198)).addF 199 (ae.un E.zuu)).addF 197 (aF aB E.N (gU Tabs.nil []) (bT aB 197 [] {}) 197)).addI 228 (ae.unI E.i228)) [14]
def zIP:dG:=bT aB 158 [] {ks:=[(1,6,⟨[],[],[(3,1,36,204)],[],[],[],[]⟩)]}
def zrp(E:zfD):(Sl au)->ae set:=ae.ty (aF aB E.N (zIO E) zIP 158)
section
variable(E:zfD){A:Type}(k:set->Option A)
def qx(E:zfD)(l:List (straight))(a0:Sl au)(w36:Sl straight)(XT:Nat)(Pq:List Int->Option (List Int)){A:Type}(k:set->Option A):Option A:=gW aB (zIO E) E.N zIP 158 [1,1,1,1,0,1,0] [.y (l.map dF.enc)] (gV k) ⟨[(2,.cl (.ptr 2 0)),(3,.cl (.ptr 3 0)),(4,.cl (.ptr 4 0)),(17,.p (.fn 228 [] [.fp [.sl a0.len 3 (λi=>bI.enc (a0.get i))] 0]))],[(2,.box 197 [.p (.nils),.p (.nils)]),(3,.box 197 [.p (.sl a0.len 3 (λi=>bI.enc (a0.get i))),.vec 36]),(4,.box 271 [.mo 14]),(36,eV 204 3 24 w36),(14,.mo 114 4 (.ints,4,false,[none]) XT Pq)],[]⟩
theorem zUz(a0:Sl au):(zrp E (a0)).T k=(E.c167 (⟨a0⟩:list)).T λr1=>cond r1 (k (⟨(⟨a0⟩:list),(⟨0,λ_=>default⟩:(Sl straight))⟩:set)) ((E.i228 (⟨(⟨a0⟩:list)⟩:(Pt list))).T λr2=>qx E r2 a0 (⟨0,(λ_=>(⟨0,0,0⟩:straight))⟩:(Sl straight)) 0 (λ_=>none) k):=dS
theorem zrq(a0:Sl au)(w36:Sl straight)(XT:Nat)(Pq:List Int→Option (List Int)):qx E [] a0 w36 XT Pq k=k (⟨(⟨a0⟩:list),w36⟩:set):=krY
theorem zAy(y:straight)(l0:List (straight))(a0:Sl au)(w36:Sl straight)(XT:Nat)(Pq:List Int→Option (List Int)):qx E (y::l0) a0 w36 XT Pq k=(E.c198 y).T λr1=>cond (!(yL (Pq [r1.dK.Num,r1.dK.bQ,r1.Start.Num,r1.Start.bQ]) 0 != 0)) ((E.zuu ((⟨(⟨a0⟩:list),w36⟩:set),y)).T λr2=>cond r2 (aV (room (w36.len+1) 24) (qx E l0 a0 (⟨(w36.len+1),(jy w36.len w36.get (λ_=>y))⟩:(Sl straight)) (addN (Pq [r1.dK.Num,r1.dK.bQ,r1.Start.Num,r1.Start.bQ]) XT) (Di [r1.dK.Num,r1.dK.bQ,r1.Start.Num,r1.Start.bQ] [1] Pq) k)) (qx E l0 a0 w36 XT Pq k)) (qx E l0 a0 w36 XT Pq k):=krY
end
theorem zUA [aC](E:zfD)(xB:Ok aB 167 (ae.un E.c167))(zbf:Ok aB 198 (ae.un E.c198))(zAz:Ok aB 199 (ae.un E.zuu))(zUB:AL aB 228 (ae.unI E.i228)):Ok aB 158 (ae.un (zrp E)):=dU (((((ax.nil.addF xB).addF zbf).addF zAz).addF (xq ax.nil (dJ krY))).addI zUB)
structure zrr where
 N:Nat
 Vj:list->ae bY
 c167:list->ae Bool
def zrt(E:zrr):set->ae Bool:=iR E.N ((Tabs.nil.addF 200 (ae.un E.Vj)).addF 167 (ae.un E.c167)) 159
theorem zUC(E:zrr){A:Type}(k:Bool→Option A)(a0:set):(zrt E (a0)).T k=(E.Vj a0.list).T λr1=>(E.c167 a0.list).T λr2=>cond r2 (k (decide (r1.Low<=r1.High))) (k (decide ((a0.df.len:Int)>0))):=dS
theorem zUD [aC](E:zrr)(zbg:Ok aB 200 (ae.un E.Vj))(xB:Ok aB 167 (ae.un E.c167)):Ok aB 159 (ae.un (zrt E)):=dU ((ax.nil.addF zbg).addF xB)
structure zru where
 N:Nat
def zrv(E:zru):list×(Pt Int)->ae Bool:=iR E.N Tabs.nil 162
theorem e162(E:zru){A:Type}(k:Bool→Option A)(a0:list)(a1:Pt Int):(zrv E (a0,a1)).T k=aV (decide ((0:Int)<=0/\0<(a0.bP.len:Int))) (k ((a0.bP.get 0).Z==a1.v)):=dS
theorem zUE [aC](E:zru):Ok aB 162 (ae.un (zrv E)):=dU ax.nil
structure zrx where
 N:Nat
 c167:list->ae Bool
 Vj:list->ae bY
 kW:Int×Int->ae aP
 c119:set×((dZ 202 Unit (Pt Int)) ⊕ (dZ 120 Unit Unit))->ae (aP×aP)
def zry(E:zrx):set×Int->ae (aP×aP):=iR E.N ((((Tabs.nil.addF 167 (ae.un E.c167)).addF 200 (ae.un E.Vj)).addF 172 (ae.un E.kW)).addF 119 (ae.un E.c119)) 163
theorem zUF(E:zrx){A:Type}(k:(aP×aP)→Option A)(a0:set)(a1:Int):(zry E (a0,a1)).T k=(E.c167 a0.list).T λr1=>cond r1 ((E.Vj a0.list).T λr2=>(E.kW (r2.Low,1)).T λr3=>(E.kW (r2.High,1)).T λr4=>k (r3,r4)) ((E.c119 (a0,(Sum.inl (⟨(),(⟨a1⟩:(Pt Int))⟩:(dZ 202 Unit (Pt Int)))))).T λr5=>k (r5.1,r5.2)):=dS
theorem zUG [aC](E:zrx)(xB:Ok aB 167 (ae.un E.c167))(zbg:Ok aB 200 (ae.un E.Vj))(qW:Ok aB 172 (ae.un E.kW))(zEM:Ok aB 119 (ae.un E.c119)):Ok aB 163 (ae.un (zry E)):=dU ((((ax.nil.addF xB).addF zbg).addF qW).addF zEM)
structure zrz where
 N:Nat
def zrA(E:zrz):Line×Int->ae (Int×Int):=iR E.N Tabs.nil 166
theorem e166(E:zrz){A:Type}(k:(Int×Int)→Option A)(a0:Line)(a1:Int):(zrA E (a0,a1)).T k=k ((aJ ((aJ (a0.Start.Num*a0.dK.bQ))+(aJ ((aJ (a0.dK.Num*a1))*a0.Start.bQ)))),(aJ (a0.Start.bQ*a0.dK.bQ))):=dS
theorem zUH [aC](E:zrz):Ok aB 166 (ae.un (zrA E)):=dU ax.nil
structure zrB where
 N:Nat
 c206:(Sl au)×((dZ 207 Unit (Pt list)) ⊕ (dZ 230 Unit (Pt straight)) ⊕ (dZ 257 Unit (Pt straight)))->ae Bool
def zrC(E:zrB):list->ae Bool:=iR E.N (Tabs.nil.addF 206 (ae.un E.c206)) 167
theorem e167(E:zrB){A:Type}(k:Bool→Option A)(a0:list):(zrC E (a0)).T k=(E.c206 (a0.bP,(Sum.inl (⟨(),(⟨a0⟩:(Pt list))⟩:(dZ 207 Unit (Pt list)))))).T λr1=>k (!r1):=dS
theorem zUI [aC](E:zrB)(NS:Ok aB 206 (ae.un E.c206)):Ok aB 167 (ae.un (zrC E)):=dU (ax.nil.addF NS)
structure vY where
 N:Nat
 zuo:aP×aP->ae Bool
abbrev XU(E:vY):bK:=gU (Tabs.nil.addF 169 (ae.un E.zuo)) []
def XV:dG:=bT aB 168 [] {}
def Ep(E:vY):(Sl aP)×(dZ 169 Unit Unit)->ae aP:=ae.ty (aF aB E.N (XU E) XV 168)
section
variable(E:vY){A:Type}(k:aP->Option A)
def oV(E:vY)(n:Nat)(a0:Sl aP)(fU:Int)(x5:aP){A:Type}(k:aP->Option A):Option A:=gW aB (XU E) E.N XV 168 [1,1,0,1,0] [.n n] (gV k) ⟨[(1,.p (.fn 169 [] [])),(4,.cl (.ptr 4 0)),(5,.cl (.ptr 5 0)),(12,.cl (.p (.sl (((a0.len:Int):Int)-1).toNat 2 (λi=>bI.enc ((uY a0.get 1) i))))),(13,.int ((((a0.len:Int):Int)-1).toNat:Int)),(14,.int fU)],[(4,.box 85 [.p (.int .i64 0),.p (.int .i64 0)]),(5,eB 85 x5)],[]⟩
theorem zkq(a0:Sl aP)(a1:(dZ 169 Unit Unit)):(Ep E (a0,a1)).T k=aV (decide ((0:Int)<=0/\0<(a0.len:Int))) (aV (decide ((0:Int)<=1/\(1:Int)<=(a0.len:Int)/\(a0.len:Int)<=(a0.len:Int))) (oV E E.N a0 0 (a0.get 0) k)):=dS
theorem NT(n0:Nat)(a0:Sl aP)(fU:Int)(x5:aP):oV E (n0+1) a0 fU x5 k=cond (decide (fU<((((a0.len:Int):Int)-1).toNat:Int))) (aV (decide (0<=fU/\fU<((((a0.len:Int):Int)-1).toNat:Int))) ((E.zuo (((uY a0.get 1) fU.toNat),x5)).T λr1=>cond r1 (oV E n0 a0 (aJ (fU+1)) ((uY a0.get 1) fU.toNat) k) (oV E n0 a0 (aJ (fU+1)) x5 k))) (k x5):=krY
end
theorem zkr [aC](E:vY)(zAA:Ok aB 169 (ae.un E.zuo)):Ok aB 168 (ae.un (Ep E)):=dU (ax.nil.addF zAA)
structure vZ where
 N:Nat
 c171:aP×aP->ae Bool
abbrev XW(E:vZ):bK:=gU (Tabs.nil.addF 171 (ae.un E.c171)) []
def XX:dG:=bT aB 168 [] {}
def Es(E:vZ):(Sl aP)×(dZ 171 Unit Unit)->ae aP:=ae.ty (aF aB E.N (XW E) XX 168)
section
variable(E:vZ){A:Type}(k:aP->Option A)
def oW(E:vZ)(n:Nat)(a0:Sl aP)(fU:Int)(x5:aP){A:Type}(k:aP->Option A):Option A:=gW aB (XW E) E.N XX 168 [1,1,0,1,0] [.n n] (gV k) ⟨[(1,.p (.fn 171 [] [])),(4,.cl (.ptr 4 0)),(5,.cl (.ptr 5 0)),(12,.cl (.p (.sl (((a0.len:Int):Int)-1).toNat 2 (λi=>bI.enc ((uY a0.get 1) i))))),(13,.int ((((a0.len:Int):Int)-1).toNat:Int)),(14,.int fU)],[(4,.box 85 [.p (.int .i64 0),.p (.int .i64 0)]),(5,eB 85 x5)],[]⟩
theorem zks(a0:Sl aP)(a1:(dZ 171 Unit Unit)):(Es E (a0,a1)).T k=aV (decide ((0:Int)<=0/\0<(a0.len:Int))) (aV (decide ((0:Int)<=1/\(1:Int)<=(a0.len:Int)/\(a0.len:Int)<=(a0.len:Int))) (oW E E.N a0 0 (a0.get 0) k)):=dS
theorem NU(n0:Nat)(a0:Sl aP)(fU:Int)(x5:aP):oW E (n0+1) a0 fU x5 k=cond (decide (fU<((((a0.len:Int):Int)-1).toNat:Int))) (aV (decide (0<=fU/\fU<((((a0.len:Int):Int)-1).toNat:Int))) ((E.c171 (((uY a0.get 1) fU.toNat),x5)).T λr1=>cond r1 (oW E n0 a0 (aJ (fU+1)) ((uY a0.get 1) fU.toNat) k) (oW E n0 a0 (aJ (fU+1)) x5 k))) (k x5):=krY
end
theorem zkt [aC](E:vZ)(zAB:Ok aB 171 (ae.un E.c171)):Ok aB 168 (ae.un (Es E)):=dU (ax.nil.addF zAB)
structure zrD where
 N:Nat
 Fv:aP×aP->ae Int
def zrE(E:zrD):aP×aP->ae Bool:=iR E.N (Tabs.nil.addF 170 (ae.un E.Fv)) 169
theorem e169(E:zrD){A:Type}(k:Bool→Option A)(a0 a1:aP):(zrE E (a0,a1)).T k=(E.Fv (a0,a1)).T λr1=>k (decide (r1<0)):=dS
theorem zUJ [aC](E:zrD)(NV:Ok aB 170 (ae.un E.Fv)):Ok aB 169 (ae.un (zrE E)):=dU (ax.nil.addF NV)
structure zrF where
 N:Nat
 c208:Int×Int->ae Int
def zrG(E:zrF):aP×aP->ae Int:=iR E.N (Tabs.nil.addF 208 (ae.un E.c208)) 170
theorem e170(E:zrF){A:Type}(k:Int→Option A)(a0 a1:aP):(zrG E (a0,a1)).T k=(E.c208 ((aJ (a0.Num*a1.bQ)),(aJ (a1.Num*a0.bQ)))).T λr1=>k r1:=dS
theorem zUK [aC](E:zrF)(zbh:Ok aB 208 (ae.un E.c208)):Ok aB 170 (ae.un (zrG E)):=dU (ax.nil.addF zbh)
structure zrH where
 N:Nat
 Fv:aP×aP->ae Int
def zrI(E:zrH):aP×aP->ae Bool:=iR E.N (Tabs.nil.addF 170 (ae.un E.Fv)) 171
theorem zUL(E:zrH){A:Type}(k:Bool→Option A)(a0 a1:aP):(zrI E (a0,a1)).T k=(E.Fv (a0,a1)).T λr1=>k (decide (r1>0)):=dS
theorem zUM [aC](E:zrH)(NV:Ok aB 170 (ae.un E.Fv)):Ok aB 171 (ae.un (zrI E)):=dU (ax.nil.addF NV)
structure zrJ where
 N:Nat
 zuy:Int×Int->ae Int
def zrK(E:zrJ):Int×Int->ae aP:=iR E.N (Tabs.nil.addF 209 (ae.un E.zuy)) 172
theorem zUN(E:zrJ){A:Type}(k:aP→Option A)(a0 a1:Int):(zrK E (a0,a1)).T k=(E.zuy ((if(aJ (0-a0))>a0 then(aJ (0-a0))else a0),a1)).T λr1=>aV (decide (r1≠0)) (aV (decide (r1≠0)) (k (⟨(aJ (a0.tdiv r1)),(aJ (a1.tdiv r1))⟩:aP))):=dS
theorem zUO [aC](E:zrJ)(zAC:Ok aB 209 (ae.un E.zuy)):Ok aB 172 (ae.un (zrK E)):=dU (ax.nil.addF zAC)
structure zfF where
 N:Nat
abbrev zIQ(E:zfF):bK:=gU Tabs.nil []
def zIR:dG:=bT aB 176 [] {}
def zrL(E:zfF):(Sl Bool)×Bool->ae Int:=ae.ty (aF aB E.N (zIQ E) zIR 176)
section
variable(E:zfF){A:Type}(k:Int->Option A)
def Uk(E:zfF)(n:Nat)(a0:Sl Bool)(a1:Bool)(v8:Int){A:Type}(k:Int->Option A):Option A:=gW aB (zIQ E) E.N zIR 176 [1,0,1,0] [.n n] (gV k) ⟨[(0,eP a0),(1,.bool a1),(7,.int (a0.len:Int)),(8,.int v8)],[],[]⟩
theorem zUP(a0:Sl Bool)(a1:Bool):(zrL E (a0,a1)).T k=Uk E E.N a0 a1 0 k:=dS
theorem zku(n0:Nat)(a0:Sl Bool)(a1:Bool)(v8:Int):Uk E (n0+1) a0 a1 v8 k=cond (decide (v8<(a0.len:Int))) (aV (decide (0<=v8/\v8<(a0.len:Int))) (cond (a1==(a0.get v8.toNat)) (k v8) (Uk E n0 a0 a1 (aJ (v8+1)) k))) (k (-1)):=krY
end
theorem zUQ [aC](E:zfF):Ok aB 176 (ae.un (zrL E)):=dU ax.nil
structure zfG where
 N:Nat
 OM:(Sl Int)×((dZ 180 Unit ((Pt (Pt aS))×(Pt Int))) ⊕ (dZ 190 Unit ((Pt (Pt aS))×(Pt Int))))->ae Bool
 c182:(Pt aS)×af->ae Bool
 i173:(Pt Int)×(Pt (Pt aS))×(Pt Int)->ae (List (Int×Int))
 Jj:af×Int×Bc 143 (Pt aS)×Bc 38 Int×Bw 30 43 3 56 af×Bs 255 178 2 4×Unit->ae ((Bool×Int)×(Unit×Unit×(Pt aS)×Int×Sl af×Unit×Unit))
abbrev zAD(E:zfG):bK:=gU (((((((Tabs.nil.addN [180]).addO 181 (.clone 3 1 8)).addM 178 (ae.unP 254 E.Jj)).addF 179 (ae.un E.OM)).addF 182 (ae.un E.c182)).addF 121 (aF aB E.N (gU Tabs.nil []) (bT aB 121 [] {}) 121)).addI 173 (ae.unI E.i173)) []
def zrM:dG:=bT aB 178 [2,3,4,5] {clo:=[180],pan:=[9,10]}
def zrN(E:zfG):af×Int×Bc 143 (Pt aS)×Bc 38 Int×Bw 30 43 3 56 af×Bs 255 178 2 4×Unit->ae ((Bool×Int)×(Unit×Unit×(Pt aS)×Int×Sl af×Unit×Unit)):=ae.tyP 254 λxs=>aM aB E.N (zAD E) zrM 178 xs
section
variable(E:zfG){A:Type}(k:((Bool×Int)×(Unit×Unit×(Pt aS)×Int×Sl af×Unit×Unit))->Option A)
def qy(E:zfG)(l:List (Int×Int))(a0:af)(a1:Int)(a2:Pt aS)(a3:Int)(a4:Sl af)(Jf:Pt aS)(Ce:Int)(qM:Sl af){A:Type}(k:((Bool×Int)×(Unit×Unit×(Pt aS)×Int×Sl af×Unit×Unit))->Option A):Option A:=ptM aB (zAD E) E.N zrM 178 [1,1,0] [.y (l.map dF.enc)] (zyP aB (tV.enc ((a0,a1,⟨a2⟩,⟨a3⟩,⟨a4⟩,{},()):af×Int×Bc 143 (Pt aS)×Bc 38 Int×Bw 30 43 3 56 af×Bs 255 178 2 4×Unit))) (zpw 254 ((a0,a1,⟨a2⟩,⟨a3⟩,⟨a4⟩,{},()):af×Int×Bc 143 (Pt aS)×Bc 38 Int×Bw 30 43 3 56 af×Bs 255 178 2 4×Unit) k) ⟨[(2,.cl (.ptr 2 0)),(3,.cl (.ptr 3 0)),(4,.cl (.ptr 4 0)),(5,.cl (.ptr 5 0)),(6,.cl (.ptr 6 0)),(14,.p (.fn 173 [] [.fp [.int .i64 a1] 0,.fp [.fp [.sl a2.v.ak.aj.len 15 (λi=>bI.enc (a2.v.ak.aj.get i)),.sl a2.v.hits.len 6 (λi=>bI.enc (a2.v.hits.get i)),.sl a2.v.jr.len 1 (λi=>bI.enc (a2.v.jr.get i)),.int .i64 a2.v.rules.mO,.int .i64 a2.v.rules.o7] 0] 0,.fp [.int .i64 a3] 0]))],[(2,eB 143 Jf),(3,eB 38 Ce),(4,.box 30 [.vec 4100]),(5,.box 255 [.clo 178 [.b 2,.b 3,.b 4,.b 5]]),(6,eB 43 a0),(4100,eV 43 3 56 qM)],[]⟩
theorem zUR(a0:af)(a1:Int)(a2:Pt aS)(a3:Int)(a4:Sl af):(zrN E (a0,a1,⟨a2⟩,⟨a3⟩,⟨a4⟩,{},())).T k=(E.i173 ((⟨a1⟩:(Pt Int)),(⟨a2⟩:(Pt (Pt aS))),(⟨a3⟩:(Pt Int)))).T λr1=>qy E r1 a0 a1 a2 a3 a4 a2 a3 a4 k:=zHx.trans krY
theorem zrO(a0:af)(a1:Int)(a2:Pt aS)(a3:Int)(a4:Sl af)(Jf:Pt aS)(Ce:Int)(qM:Sl af):qy E [] a0 a1 a2 a3 a4 Jf Ce qM k=k ((false,0),(),(),Jf,Ce,qM,(),()):=krY
theorem zkv(y:Int×Int)(l0:List (Int×Int))(a0:af)(a1:Int)(a2:Pt aS)(a3:Int)(a4:Sl af)(Jf:Pt aS)(Ce:Int)(qM:Sl af):qy E (y::l0) a0 a1 a2 a3 a4 Jf Ce qM k=(E.OM (a0.Hits,(Sum.inl (⟨(),((⟨Jf⟩:(Pt (Pt aS))),(⟨y.1⟩:(Pt Int)))⟩:(dZ 180 Unit ((Pt (Pt aS))×(Pt Int))))))).T λr1=>cond r1 (qy E l0 a0 a1 a2 a3 a4 Jf Ce qM k) (aV (room a0.Hits.len 8) (aV (room (a0.Hits.len+1) 8) (aV (room a0.aU.len 8) (aV (room (a0.aU.len+1) 8) ((E.c182 (Jf,(⟨Ce,(⟨(a0.Hits.len+1),(jy a0.Hits.len a0.Hits.get (λ_=>y.1))⟩:(Sl Int)),(⟨(a0.aU.len+1),(jy a0.aU.len a0.aU.get (λ_=>y.2))⟩:(Sl Int))⟩:af))).T λr2=>cond (!r2) (qy E l0 a0 a1 a2 a3 a4 Jf Ce qM k) (aV (room (qM.len+1) 56) (cond (decide (((qM.len+1):Int)>2000)) (k ((true,Ce),(),(),Jf,Ce,(⟨(qM.len+1),(jy qM.len qM.get (λ_=>(⟨Ce,(⟨(a0.Hits.len+1),(jy a0.Hits.len a0.Hits.get (λ_=>y.1))⟩:(Sl Int)),(⟨(a0.aU.len+1),(jy a0.aU.len a0.aU.get (λ_=>y.2))⟩:(Sl Int))⟩:af)))⟩:(Sl af)),(),())) ((E.Jj ((⟨Ce,(⟨(a0.Hits.len+1),(jy a0.Hits.len a0.Hits.get (λ_=>y.1))⟩:(Sl Int)),(⟨(a0.aU.len+1),(jy a0.aU.len a0.aU.get (λ_=>y.2))⟩:(Sl Int))⟩:af),(aJ (y.1+1)),(⟨Jf⟩:Bc 143 (Pt aS)),(⟨Ce⟩:Bc 38 Int),(⟨(⟨(qM.len+1),(jy qM.len qM.get (λ_=>(⟨Ce,(⟨(a0.Hits.len+1),(jy a0.Hits.len a0.Hits.get (λ_=>y.1))⟩:(Sl Int)),(⟨(a0.aU.len+1),(jy a0.aU.len a0.aU.get (λ_=>y.2))⟩:(Sl Int))⟩:af)))⟩:(Sl af))⟩:Bw 30 43 3 56 af),({}:Bs 255 178 2 4),())).T λr3=>cond r3.1.1 (k ((true,r3.1.2),(),(),r3.2.2.2.1,r3.2.2.2.2.1,r3.2.2.2.2.2.1,(),())) (qy E l0 a0 a1 a2 a3 a4 r3.2.2.2.1 r3.2.2.2.2.1 r3.2.2.2.2.2.1 k))))))))):=krY
end
theorem zUS(E:zfG)(za9:Ok aB 179 (ae.un E.OM))(zAE:Ok aB 182 (ae.un E.c182))(zUT:AL aB 173 (ae.unI E.i173))(zAF:gB aB 181 (.clone 3 1 8))(zAj:rP aB 178 (ae.unP 254 E.Jj)):rP aB 178 (ae.unP 254 (zrN E)):=by
  have h:rP aB 178 (λxs=>aM aB E.N (zAD E) zrM 178 xs):=zaI (aQ:=λ_=>zrM) (((((((ax.nil.addN).addO zAF).addM zAj).addF za9).addF zAE).addF (xq ax.nil (dJ krY))).addI zUT) (dJ krY);exact(zyV h:rP aB 178 (ae.unP 254 (ae.tyP 254 _:af×Int×Bc 143 (Pt aS)×Bc 38 Int×Bw 30 43 3 56 af×Bs 255 178 2 4×Unit->ae ((Bool×Int)×(Unit×Unit×(Pt aS)×Int×Sl af×Unit×Unit)))))
structure Et where
 N:Nat
 c210:(Sl Int)×((dZ 180 Unit ((Pt (Pt aS))×(Pt Int))) ⊕ (dZ 190 Unit ((Pt (Pt aS))×(Pt Int))))->ae Int
def Eu(E:Et):(Sl Int)×(dZ 180 Unit ((Pt (Pt aS))×(Pt Int)))->ae Bool:=iR E.N (Tabs.nil.addF 210 (ae.un E.c210)) 179
theorem zkw(E:Et){A:Type}(k:Bool→Option A)(a0:Sl Int)(a1:(dZ 180 Unit ((Pt (Pt aS))×(Pt Int)))):(Eu E (a0,a1)).T k=(E.c210 (a0,(Sum.inl a1))).T λr1=>k (decide (r1>=0)):=dS
theorem zkx [aC](E:Et)(zbi:Ok aB 210 (ae.un E.c210)):Ok aB 179 (ae.un (Eu E)):=dU (ax.nil.addF zbi)
structure Ew where
 N:Nat
 c210:(Sl Int)×((dZ 180 Unit ((Pt (Pt aS))×(Pt Int))) ⊕ (dZ 190 Unit ((Pt (Pt aS))×(Pt Int))))->ae Int
def Ey(E:Ew):(Sl Int)×(dZ 190 Unit ((Pt (Pt aS))×(Pt Int)))->ae Bool:=iR E.N (Tabs.nil.addF 210 (ae.un E.c210)) 179
theorem zky(E:Ew){A:Type}(k:Bool→Option A)(a0:Sl Int)(a1:(dZ 190 Unit ((Pt (Pt aS))×(Pt Int)))):(Ey E (a0,a1)).T k=(E.c210 (a0,(Sum.inr a1))).T λr1=>k (decide (r1>=0)):=dS
theorem zkz [aC](E:Ew)(zbi:Ok aB 210 (ae.un E.c210)):Ok aB 179 (ae.un (Ey E)):=dU (ax.nil.addF zbi)
structure zrP where
 N:Nat
def zrQ(E:zrP):Int×(Pt (Pt aS))×(Pt Int)->ae Bool:=iR E.N Tabs.nil 180
theorem zUU(E:zrP){A:Type}(k:Bool→Option A)(a0:Int)(a1:(Pt (Pt aS)))(a2:Pt Int):(zrQ E (a0,a1,a2)).T k=aV (decide (0<=a0/\a0<(a1.v.v.hits.len:Int))) (aV (decide (0<=a2.v/\a2.v<(a1.v.v.hits.len:Int))) (k ((a1.v.v.hits.get a0.toNat).ai==(a1.v.v.hits.get a2.v.toNat).ai))):=dS
theorem zUV [aC](E:zrP):Ok aB 180 (ae.un (zrQ E)):=dU ax.nil
structure zrR where
 N:Nat
 c93:(Pt aS)×af->ae (bY×Bool)
 c105:(Pt aS)×af->ae ((Sl au))
 zuz:(Sl au)->ae (Line×Int)
def zrS(E:zrR):(Pt aS)×af->ae Bool:=iR E.N (((Tabs.nil.addF 93 (ae.un E.c93)).addF 105 (ae.un E.c105)).addF 211 (ae.un E.zuz)) 182
theorem zUW(E:zrR){A:Type}(k:Bool→Option A)(a0:Pt aS)(a1:af):(zrS E (a0,a1)).T k=(E.c93 (a0,a1)).T λr1=>cond (!r1.2) (k false) ((E.c105 (a0,a1)).T λr2=>(E.zuz r2).T λr3=>k (r3.2 != 5)):=dS
theorem zUX [aC](E:zrR)(h93:Ok aB 93 (ae.un E.c93))(NR:Ok aB 105 (ae.un E.c105))(zAG:Ok aB 211 (ae.un E.zuz)):Ok aB 182 (ae.un (zrS E)):=dU (((ax.nil.addF h93).addF NR).addF zAG)
structure zfH where
 N:Nat
abbrev zIS(E:zfH):bK:=gU Tabs.nil []
def zIT:dG:=bT aB 185 [] {}
def zrT(E:zfH):(Sl Int)->ae Int:=ae.ty (aF aB E.N (zIS E) zIT 185)
section
variable(E:zfH){A:Type}(k:Int->Option A)
def G5(E:zfH)(n:Nat)(a0:Sl Int)(v8:Int){A:Type}(k:Int->Option A):Option A:=gW aB (zIS E) E.N zIT 185 [1,1,0,1,0] [.n n] (gV k) ⟨[(3,.int 0),(6,eP a0),(7,.int (a0.len:Int)),(8,.int v8)],[],[]⟩
theorem e185(a0:Sl Int):(zrT E (a0)).T k=G5 E E.N a0 0 k:=dS
theorem zkA(n0:Nat)(a0:Sl Int)(v8:Int):G5 E (n0+1) a0 v8 k=cond (decide (v8<(a0.len:Int))) (aV (decide (0<=v8/\v8<(a0.len:Int))) (cond (a0.get v8.toNat != 0) (k (a0.get v8.toNat)) (G5 E n0 a0 (aJ (v8+1)) k))) (k 0):=krY
end
theorem zUZ [aC](E:zfH):Ok aB 185 (ae.un (zrT E)):=dU ax.nil
structure zrU where
 N:Nat
 c222:Int->ae Bool
def zrV(E:zrU):Int×Int->ae Int:=iR E.N (Tabs.nil.addF 222 (ae.un E.c222)) 186
theorem zU0(E:zrU){A:Type}(k:Int→Option A)(a0 a1:Int):(zrV E (a0,a1)).T k=(E.c222 a0).T λr1=>(E.c222 a1).T λr2=>cond r1 (cond r2 (k 0) (k (-1))) (cond r2 (k 1) (cond (decide (a0<a1)) (k (-1)) (cond (decide (a0>a1)) (k 1) (k 0)))):=dS
theorem zU1 [aC](E:zrU)(zrW:Ok aB 222 (ae.un E.c222)):Ok aB 186 (ae.un (zrV E)):=dU (ax.nil.addF zrW)
structure zfI where
 N:Nat
 c208:Int×Int->ae Int
abbrev zIU(E:zfI):bK:=gU (Tabs.nil.addF 208 (ae.un E.c208)) []
def zIV:dG:=bT aB 187 [] {}
def zrX(E:zfI):(Sl Int)×(Sl Int)->ae Int:=ae.ty (aF aB E.N (zIU E) zIV 187)
section
variable(E:zfI){A:Type}(k:Int->Option A)
def Ul(E:zfI)(n:Nat)(a0 a1:Sl Int)(v11:Int){A:Type}(k:Int->Option A):Option A:=gW aB (zIU E) E.N zIV 187 [1,0,1,0] [.n n] (gV k) ⟨[(0,eP a0),(1,eP a1),(9,eP a0),(10,.int (a0.len:Int)),(11,.int v11)],[],[]⟩
theorem e187(a0 a1:Sl Int):(zrX E (a0,a1)).T k=Ul E E.N a0 a1 0 k:=dS
theorem zkB(n0:Nat)(a0 a1:Sl Int)(v11:Int):Ul E (n0+1) a0 a1 v11 k=cond (decide (v11<(a0.len:Int))) (aV (decide (0<=v11/\v11<(a0.len:Int))) (cond (decide (v11>=(a1.len:Int))) (k 1) (aV (decide (0<=v11/\v11<(a1.len:Int))) ((E.c208 (a0.get v11.toNat,a1.get v11.toNat)).T λr1=>cond (r1 != 0) (k r1) (Ul E n0 a0 a1 (aJ (v11+1)) k))))) (cond (decide ((a0.len:Int)<(a1.len:Int))) (k (-1)) (k 0)):=krY
end
theorem zU2 [aC](E:zfI)(zbh:Ok aB 208 (ae.un E.c208)):Ok aB 187 (ae.un (zrX E)):=dU (ax.nil.addF zbh)
structure zrY where
 N:Nat
def zrZ(E:zrY):Int×(Pt (Pt aS))×(Pt Int)->ae Bool:=iR E.N Tabs.nil 190
theorem e190(E:zrY){A:Type}(k:Bool→Option A)(a0:Int)(a1:(Pt (Pt aS)))(a2:Pt Int):(zrZ E (a0,a1,a2)).T k=aV (decide (0<=a0/\a0<(a1.v.v.hits.len:Int))) (k ((a1.v.v.hits.get a0.toNat).ai==a2.v)):=dS
theorem zU3 [aC](E:zrY):Ok aB 190 (ae.un (zrZ E)):=dU ax.nil
structure zr0 where
 N:Nat
def zr1(E:zr0):aP->ae Int:=iR E.N Tabs.nil 191
theorem zU4(E:zr0){A:Type}(k:Int→Option A)(a0:aP):(zr1 E (a0)).T k=cond (decide (a0.Num<0)) (aV (decide (a0.bQ≠0)) (k (aJ (0-(aJ ((aJ ((aJ ((aJ (0-a0.Num))+a0.bQ))-1)).tdiv a0.bQ)))))) (aV (decide (a0.bQ≠0)) (k (aJ (a0.Num.tdiv a0.bQ)))):=dS
theorem zU5 [aC](E:zr0):Ok aB 191 (ae.un (zr1 E)):=dU ax.nil
structure zr2 where
 N:Nat
 PK:aP->ae Int
def zr3(E:zr2):aP->ae Int:=iR E.N (Tabs.nil.addF 191 (ae.un E.PK)) 192
theorem zU6(E:zr2){A:Type}(k:Int→Option A)(a0:aP):(zr3 E (a0)).T k=(E.PK (⟨(aJ (0-a0.Num)),a0.bQ⟩:aP)).T λr1=>k (aJ (0-r1)):=dS
theorem zU7 [aC](E:zr2)(zba:Ok aB 191 (ae.un E.PK)):Ok aB 192 (ae.un (zr3 E)):=dU (ax.nil.addF zba)
structure zfJ where
 N:Nat
abbrev zIW(E:zfJ):bK:=gU Tabs.nil []
def zIX:dG:=bT aB 193 [] {}
def zr4(E:zfJ):(Sl au)->ae (Int×Int×Bool):=ae.ty (aF aB E.N (zIW E) zIX 193)
section
variable(E:zfJ){A:Type}(k:(Int×Int×Bool)->Option A)
def Um(E:zfJ)(n:Nat)(a0:Sl au)(v5 v6 v7:Int){A:Type}(k:(Int×Int×Bool)->Option A):Option A:=gW aB (zIW E) E.N zIX 193 [1,1,0,1,0] [.n n] (gV k) ⟨[(0,eP a0),(5,.int v5),(6,.int v6),(7,.int v7)],[],[]⟩
theorem zU8(a0:Sl au):(zr4 E (a0)).T k=aV (decide ((0:Int)<=0/\0<(a0.len:Int))) (aV (decide ((0:Int)<=0/\0<(a0.len:Int))) (Um E E.N a0 (a0.get 0).Low (a0.get 0).High 1 k)):=dS
theorem zkC(n0:Nat)(a0:Sl au)(v5 v6 v7:Int):Um E (n0+1) a0 v5 v6 v7 k=cond (decide (v7<(a0.len:Int))) (aV (decide (0<=v7/\v7<(a0.len:Int))) (aV (decide (0<=v7/\v7<(a0.len:Int))) (Um E n0 a0 (if(a0.get v7.toNat).Low>v5 then(a0.get v7.toNat).Low else v5) (if(a0.get v7.toNat).High<v6 then(a0.get v7.toNat).High else v6) (aJ (v7+1)) k))) (k (v5,v6,decide (v5<=v6))):=krY
end
theorem zU9 [aC](E:zfJ):Ok aB 193 (ae.un (zr4 E)):=dU ax.nil
structure Pv where
 N:Nat
 zna:(Sl au)->ae ((Sl Line))
 c57:Line×(Sl au)->ae ((Sl Int))
 c226:Line×Line×(Sl au)->ae Bool
abbrev zkD(E:Pv):bK:=gU (((Tabs.nil.addF 225 (ae.un E.zna)).addF 57 (ae.un E.c57)).addF 226 (ae.un E.c226)) []
def zkE:dG:=bT aB 194 [] {ks:=[(0,1,⟨[],[(3,5000,114)],[],[],[],[],[]⟩),(1,4,⟨[],[],[],[],[],[3],[]⟩)],cut:=[10,11]}
def zkF(E:Pv):(Sl au)->ae ((Sl Line)):=ae.ty (aF aB E.N (zkD E) zkE 194)
section
variable(E:Pv){A:Type}(k:(Sl Line)->Option A)
def jZ(E:Pv)(n:Nat)(a0:Sl au)(v3 v4:Sl Line)(v5:Int){A:Type}(k:(Sl Line)->Option A):Option A:=gW aB (zkD E) E.N zkE 194 [1,1,1,0,1,0] [.n n] (gV k) ⟨[(0,eP a0),(3,eP v3),(4,eP v4),(5,.int v5)],[],[]⟩
def oZ(E:Pv)(n0 n:Nat)(a0:Sl au)(v3 v4:Sl Line)(v5 v6:Int){A:Type}(k:(Sl Line)->Option A):Option A:=gW aB (zkD E) E.N zkE 194 [1,1,1,0,1,0,0,1,0,0,1,1,0,0] [.n n0,.n n] (gV k) ⟨[(0,eP a0),(3,eP v3),(4,eP v4),(5,.int v5),(6,.int v6)],[],[]⟩
def l9(E:Pv)(n0:Nat)(a0:Sl au)(v3 v4:Sl Line)(v5 v6:Int){A:Type}(k:(Sl Line)->Option A):Option A:=gW aB (zkD E) E.N zkE 194 [1,1,1,0,1,0,0,1,0,0,1,1,1] [.n n0] (gV k) ⟨[(0,eP a0),(3,eP v3),(4,eP v4),(5,.int v5),(6,.int v6)],[],[]⟩
def Cf(E:Pv)(n0:Nat)(a0:Sl au)(v3 v4:Sl Line)(v5 v6:Int){A:Type}(k:(Sl Line)->Option A):Option A:=gW aB (zkD E) E.N zkE 194 [1,1,1,0,1,0,0,1,0,0,1,1,1,1] [.n n0] (gV k) ⟨[(0,eP a0),(3,eP v3),(4,eP v4),(5,.int v5),(6,.int v6)],[],[]⟩
theorem zIY(a0:Sl au):(zkF E (a0)).T k=(E.zna a0).T λr1=>jZ E E.N a0 (⟨0,(λ_=>(⟨(⟨0,0⟩:aP),(⟨0,0⟩:aP)⟩:Line))⟩:(Sl Line)) r1 0 k:=dS
theorem Un(n0:Nat)(a0:Sl au)(v3 v4:Sl Line)(v5:Int):jZ E (n0+1) a0 v3 v4 v5 k=cond (decide (v5<(v4.len:Int))) (aV (decide (0<=v5/\v5<(v4.len:Int))) ((E.c57 ((v4.get v5.toNat),a0)).T λr1=>cond (decide ((r1.len:Int)<(a0.len:Int))) (jZ E n0 a0 v3 v4 (aJ (v5+1)) k) (oZ E n0 E.N a0 v3 v4 v5 0 k))) (k v3):=krY
theorem Uo(n0 n1:Nat)(a0:Sl au)(v3 v4:Sl Line)(v5 v6:Int):oZ E n0 (n1+1) a0 v3 v4 v5 v6 k=cond (decide (v6<(v3.len:Int))) (aV (decide (0<=v6/\v6<(v3.len:Int))) (aV (decide (0<=v5/\v5<(v4.len:Int))) ((E.c226 ((v3.get v6.toNat),(v4.get v5.toNat),a0)).T λr1=>cond r1 (oZ E n0 n1 a0 v3 v4 v5 (aJ (v6+1)) k) (l9 E n0 a0 v3 v4 v5 v6 k)))) (l9 E n0 a0 v3 v4 v5 v6 k):=krY
theorem Ur(n0:Nat)(a0:Sl au)(v3 v4:Sl Line)(v5 v6:Int):l9 E n0 a0 v3 v4 v5 v6 k=cond (decide (v6<(v3.len:Int))) (aV (decide (0<=v6/\v6<(v3.len:Int))) (aV (decide (0<=v5/\v5<(v4.len:Int))) (cond (cond (cond ((v3.get v6.toNat).dK.Num==(v4.get v5.toNat).dK.Num) (cond ((v3.get v6.toNat).dK.bQ==(v4.get v5.toNat).dK.bQ) true false) false) (cond (cond ((v3.get v6.toNat).Start.Num==(v4.get v5.toNat).Start.Num) (cond ((v3.get v6.toNat).Start.bQ==(v4.get v5.toNat).Start.bQ) true false) false) true false) false) (jZ E n0 a0 v3 v4 (aJ (v5+1)) k) (Cf E n0 a0 v3 v4 v5 v6 k)))) (Cf E n0 a0 v3 v4 v5 v6 k):=krY
theorem zkG(n0:Nat)(a0:Sl au)(v3 v4:Sl Line)(v5 v6:Int):Cf E n0 a0 v3 v4 v5 v6 k=aV (decide ((0:Int)<=0/\(0:Int)<=v6/\v6<=(v3.len:Int))) (aV (room ((v6:Int)-0).toNat 32) (aV (decide (0<=v5/\v5<(v4.len:Int))) (aV (room (((v6:Int)-0).toNat+1) 32) (aV (decide ((0:Int)<=v6/\(v6:Int)<=(v3.len:Int)/\(v3.len:Int)<=(v3.len:Int))) (aV (room ((((v6:Int)-0).toNat+1)+(((v3.len:Int):Int)-v6).toNat) 32) (jZ E n0 a0 (⟨((((v6:Int)-0).toNat+1)+(((v3.len:Int):Int)-v6).toNat),(jy (((v6:Int)-0).toNat+1) (jy ((v6:Int)-0).toNat (uY v3.get 0) (λ_=>(v4.get v5.toNat))) (uY v3.get v6.toNat))⟩:(Sl Line)) v4 (aJ (v5+1)) k)))))):=krY
end
theorem zVa [aC](E:Pv)(zkH:Ok aB 225 (ae.un E.zna))(h57:Ok aB 57 (ae.un E.c57))(zkI:Ok aB 226 (ae.un E.c226)):Ok aB 194 (ae.un (zkF E)):=dU (((ax.nil.addF zkH).addF h57).addF zkI)
structure zbj where
 N:Nat
 c87:(Sl bg)×(Sl Int)×Int->ae Bool
 c75:ak×bg->ae ((Sl au))
 c227:af×Int×Int->ae af
 c196:ak×(Sl bg)×af->ae Bool
 OQ:(ak×(Sl bg)×af×Int)×Sl af->ae (Sl af)
abbrev zAH(E:zbj):bK:=gU (((((Tabs.nil.addO 195 (.grow 43 3 56 (ae.unW E.OQ))).addF 87 (ae.un E.c87)).addF 75 (ae.un E.c75)).addF 227 (ae.un E.c227)).addF 196 (ae.un E.c196)) []
def zAI:dG:=bT aB 195 [] {}
def zr5(E:zbj):(ak×(Sl bg)×af×Int)×Sl af->ae (Sl af):=ae.tyW (aG aB E.N (zAH E) zAI 195 43 3 56)
section
variable(E:zbj){A:Type}(k:(Sl af)->Option A)
def sD(E:zbj)(n:Nat)(a0:ak)(a1:Sl bg)(a2:af)(v11:Int)(nI:Sl af){A:Type}(k:(Sl af)->Option A):Option A:=ptG aB (zAH E) E.N zAI 195 [1,0,1,0] [.n n] (Nk 43 3 56) (zy3 k) ⟨[(1,eP a1),(4,.cl (.vec 4095)),(5,.cl (.ptr 5 0)),(7,.cl (.ptr 7 0)),(11,.int v11)],[(4095,eV 43 3 56 nI),(5,eB 24 a0),(7,eB 43 a2)],[]⟩
def xG(E:zbj)(n0 n:Nat)(a0:ak)(a1:Sl bg)(a2:af)(v11:Int)(ja:Sl au)(fU:Int)(nI:Sl af){A:Type}(k:(Sl af)->Option A):Option A:=ptG aB (zAH E) E.N zAI 195 [1,0,1,0,0,1,0,0,1,1,1,1,0] [.n n0,.n n] (Nk 43 3 56) (zy3 k) ⟨[(1,eP a1),(4,.cl (.vec 4095)),(5,.cl (.ptr 5 0)),(7,.cl (.ptr 7 0)),(11,.int v11),(13,eP ja),(14,.int fU)],[(4095,eV 43 3 56 nI),(5,eB 24 a0),(7,eB 43 a2)],[]⟩
theorem e195(a0:ak)(a1:Sl bg)(a2:af)(a3:Int)(a4:Sl af):(zr5 E ((a0,a1,a2,a3),a4)).T k=sD E E.N a0 a1 a2 a3 a4 k:=zHF.trans krY
theorem zkJ(n0:Nat)(a0:ak)(a1:Sl bg)(a2:af)(v11:Int)(nI:Sl af):sD E (n0+1) a0 a1 a2 v11 nI k=cond (decide (v11<(a1.len:Int))) (aV (decide (0<=v11/\v11<(a1.len:Int))) (aV (decide (0<=(a1.get v11.toNat).ai/\(a1.get v11.toNat).ai<(a0.aj.len:Int))) (cond ((a0.aj.get (a1.get v11.toNat).ai.toNat).View != a2.View) (sD E n0 a0 a1 a2 (aJ (v11+1)) nI k) ((E.c87 (a1,a2.Hits,(a1.get v11.toNat).ai)).T λr1=>cond r1 (sD E n0 a0 a1 a2 (aJ (v11+1)) nI k) ((E.c75 (a0,(a1.get v11.toNat))).T λr2=>xG E n0 E.N a0 a1 a2 v11 r2 0 nI k))))) (k nI):=krY
theorem zbk(n0 n1:Nat)(a0:ak)(a1:Sl bg)(a2:af)(v11:Int)(ja:Sl au)(fU:Int)(nI:Sl af):xG E n0 (n1+1) a0 a1 a2 v11 ja fU nI k=cond (decide (fU<(ja.len:Int))) (cond (decide ((nI.len:Int)<=2000)) ((E.c227 (a2,v11,fU)).T λr1=>(E.c196 (a0,a1,r1)).T λr2=>cond r2 (aV (room (nI.len+1) 56) ((E.OQ ((a0,a1,r1,(aJ (v11+1))),(⟨(nI.len+1),(jy nI.len nI.get (λ_=>r1))⟩:(Sl af)))).T λr3=>xG E n0 n1 a0 a1 a2 v11 ja (aJ (fU+1)) r3 k)) (xG E n0 n1 a0 a1 a2 v11 ja (aJ (fU+1)) nI k)) (sD E n0 a0 a1 a2 (aJ (v11+1)) nI k)) (sD E n0 a0 a1 a2 (aJ (v11+1)) nI k):=krY
end
theorem zVb [aC](E:zbj)(h87:Ok aB 87 (ae.un E.c87))(h75:Ok aB 75 (ae.un E.c75))(zAJ:Ok aB 227 (ae.un E.c227))(zbe:Ok aB 196 (ae.un E.c196))(zAw:gB aB 195 (.grow 43 3 56 (ae.unW E.OQ))):gB aB 195 (.grow 43 3 56 (ae.unW (zr5 E))):=zy2 (zy1 (((((ax.nil.addO zAw).addF h87).addF h75).addF zAJ).addF zbe) (dJ krY))
structure zr6 where
 N:Nat
 c65:ak×(Sl bg)×af->ae ((Sl au))
 c145:(Sl au)->ae Bool
 c90:ak×(Sl bg)×(Sl Int)->ae Bool
def zr7(E:zr6):ak×(Sl bg)×af->ae Bool:=iR E.N (((Tabs.nil.addF 65 (ae.un E.c65)).addF 145 (ae.un E.c145)).addF 90 (ae.un E.c90)) 196
theorem zVc(E:zr6){A:Type}(k:Bool→Option A)(a0:ak)(a1:Sl bg)(a2:af):(zr7 E (a0,a1,a2)).T k=(E.c65 (a0,a1,a2)).T λr1=>(E.c145 r1).T λr2=>cond r2 ((E.c90 (a0,a1,a2.Hits)).T λr3=>k r3) (k false):=dS
theorem zVd [aC](E:zr6)(h65:Ok aB 65 (ae.un E.c65))(XY:Ok aB 145 (ae.un E.c145))(h90:Ok aB 90 (ae.un E.c90)):Ok aB 196 (ae.un (zr7 E)):=dU (((ax.nil.addF h65).addF XY).addF h90)
structure zr8 where
 N:Nat
 kW:Int×Int->ae aP
def zr9(E:zr8):straight->ae Line:=iR E.N (Tabs.nil.addF 172 (ae.un E.kW)) 198
theorem zVe(E:zr8){A:Type}(k:Line→Option A)(a0:straight):(zr9 E (a0)).T k=(E.kW (a0.bH,a0.den)).T λr1=>(E.kW (a0.start,a0.den)).T λr2=>k (⟨r1,r2⟩:Line):=dS
theorem zVf [aC](E:zr8)(qW:Ok aB 172 (ae.un E.kW)):Ok aB 198 (ae.un (zr9 E)):=dU (ax.nil.addF qW)
structure zsa where
 N:Nat
 c206:(Sl au)×((dZ 207 Unit (Pt list)) ⊕ (dZ 230 Unit (Pt straight)) ⊕ (dZ 257 Unit (Pt straight)))->ae Bool
def zsb(E:zsa):set×straight->ae Bool:=iR E.N (Tabs.nil.addF 206 (ae.un E.c206)) 199
theorem e199(E:zsa){A:Type}(k:Bool→Option A)(a0:set)(a1:straight):(zsb E (a0,a1)).T k=(E.c206 (a0.list.bP,(Sum.inr (Sum.inl (⟨(),(⟨a1⟩:(Pt straight))⟩:(dZ 230 Unit (Pt straight))))))).T λr1=>k (!r1):=dS
theorem zVg [aC](E:zsa)(NS:Ok aB 206 (ae.un E.c206)):Ok aB 199 (ae.un (zsb E)):=dU (ax.nil.addF NS)
structure zfK where
 N:Nat
abbrev zIZ(E:zfK):bK:=gU Tabs.nil []
def zI0:dG:=bT aB 200 [] {}
def zsc(E:zfK):list->ae bY:=ae.ty (aF aB E.N (zIZ E) zI0 200)
section
variable(E:zfK){A:Type}(k:bY->Option A)
def Us(E:zfK)(n:Nat)(a0:list)(v20:Int)(x3:bY){A:Type}(k:bY->Option A):Option A:=gW aB (zIZ E) E.N zI0 200 [1,1,0,1,0] [.n n] (gV k) ⟨[(2,.cl (.ptr 2 0)),(3,.cl (.ptr 3 0)),(18,eP a0.bP),(19,.int (a0.bP.len:Int)),(20,.int v20)],[(2,.box 105 [.p (.int .i64 0),.p (.int .i64 0)]),(3,eB 105 x3)],[]⟩
theorem zVh(a0:list):(zsc E (a0)).T k=aV (decide ((0:Int)<=0/\0<(a0.bP.len:Int))) (aV (decide ((0:Int)<=0/\0<(a0.bP.len:Int))) (Us E E.N a0 0 (⟨(a0.bP.get 0).Low,(a0.bP.get 0).High⟩:bY) k)):=dS
theorem zkK(n0:Nat)(a0:list)(v20:Int)(x3:bY):Us E (n0+1) a0 v20 x3 k=cond (decide (v20<(a0.bP.len:Int))) (aV (decide (0<=v20/\v20<(a0.bP.len:Int))) (Us E n0 a0 (aJ (v20+1)) (⟨(if(a0.bP.get v20.toNat).Low>x3.Low then(a0.bP.get v20.toNat).Low else x3.Low),(if(a0.bP.get v20.toNat).High<x3.High then(a0.bP.get v20.toNat).High else x3.High)⟩:bY) k)) (k x3):=krY
end
theorem zVi [aC](E:zfK):Ok aB 200 (ae.un (zsc E)):=dU ax.nil
structure zsd where
 N:Nat
 c203:straight×Int->ae aP
def zse(E:zsd):straight×(Pt Int)->ae aP:=iR E.N (Tabs.nil.addF 203 (ae.un E.c203)) 202
theorem zVj(E:zsd){A:Type}(k:aP→Option A)(a0:straight)(a1:Pt Int):(zse E (a0,a1)).T k=(E.c203 (a0,a1.v)).T λr1=>k r1:=dS
theorem zVk [aC](E:zsd)(zAL:Ok aB 203 (ae.un E.c203)):Ok aB 202 (ae.un (zse E)):=dU (ax.nil.addF zAL)
structure zsf where
 N:Nat
def zsg(E:zsf):straight×Int->ae aP:=iR E.N Tabs.nil 203
theorem e203(E:zsf){A:Type}(k:aP→Option A)(a0:straight)(a1:Int):(zsg E (a0,a1)).T k=k (⟨(aJ (a0.start+(aJ (a0.bH*a1)))),a0.den⟩:aP):=dS
theorem zVm [aC](E:zsf):Ok aB 203 (ae.un (zsg E)):=dU ax.nil
structure zbl where
 N:Nat
 zuw:(Sl Int)×Int->ae (Int×Bool)
abbrev zI1(E:zbl):bK:=gU (Tabs.nil.addF 205 (ae.un E.zuw)) []
def zI2:dG:=bT aB 204 [0] {yl:=[9]}
def zI3(E:zbl)(c:List PA):YO:=aI aB (zI1 E) E.N zI2 204 c
def zAM(E:zbl):(Pt placed)->ae (List (Int×bY)):=ae.tyI λc=>.opt (zI3 E c)
section
variable(E:zbl)
def G6(E:zbl)(n:Nat)(a1:Pt placed)(v3 ZG:Int):YO:=ptY aB (zI1 E) E.N zI2 204 [1,1,1,0] [n] ⟨[(0,.cl (.vec 4095)),(1,eP a1),(3,.int v3),(18,.int a1.v.ai.bG),(19,.int ZG)],[(4095,.gone)],[]⟩
theorem e204(a1:Pt placed):zI3 E (dF.enc ((a1):(Pt placed)))=cond (a1.v.ai.Kind==2) (G6 E E.N a1 (aJ (a1.v.ai.aO.tdiv 2)) 0) (G6 E E.N a1 0 0):=krY
theorem zkL(n0:Nat)(a1:Pt placed)(v3 ZG:Int):G6 E (n0+1) a1 v3 ZG=cond (decide (ZG<a1.v.ai.bG)) ((E.zuw (a1.v.ai.Dead,ZG)).T λr1=>cond r1.2 (G6 E n0 a1 v3 (aJ (ZG+1))) (yT (dF.enc ((ZG,(⟨(aJ ((aJ (a1.v.ai.First+(aJ (ZG*a1.v.ai.aO))))-v3)),(aJ ((aJ ((aJ ((aJ (a1.v.ai.First+(aJ (ZG*a1.v.ai.aO))))-v3))+a1.v.ai.aO))-1))⟩:bY)):Int×bY)) (some []) (G6 E n0 a1 v3 (aJ (ZG+1))))) (some []):=krY
end
theorem zVn(E:zbl)(zAN:Ok aB 205 (ae.un E.zuw)):AL aB 204 (ae.unI (zAM E)):=TP (Nh (ax.nil.addF zAN) (dJ krY))
structure zfL where
 N:Nat
 c236:Int×Int->ae Bool
 znb:Int->ae Bool
abbrev zI4(E:zfL):bK:=gU ((Tabs.nil.addF 236 (ae.un E.c236)).addF 237 (ae.un E.znb)) []
def zI5:dG:=bT aB 205 [] {}
def zsh(E:zfL):(Sl Int)×Int->ae (Int×Bool):=ae.ty (aF aB E.N (zI4 E) zI5 205)
section
variable(E:zfL){A:Type}(k:(Int×Bool)->Option A)
def zF(E:zfL)(n:Nat)(a0:Sl Int)(a1 v7 v8:Int){A:Type}(k:(Int×Bool)->Option A):Option A:=gW aB (zI4 E) E.N zI5 205 [1,1,1,0,0] [.n n] (gV k) ⟨[(0,eP a0),(1,.int a1),(6,.int (a0.len:Int)),(7,.int v7),(8,.int v8)],[],[]⟩
theorem zVo(a0:Sl Int)(a1:Int):(zsh E (a0,a1)).T k=zF E E.N a0 a1 0 (a0.len:Int) k:=dS
theorem Ut(n0:Nat)(a0:Sl Int)(a1 v7 v8:Int):zF E (n0+1) a0 a1 v7 v8 k=cond (decide (v7<v8)) (aV (decide (0<=(aJ (I9 .u64 (IntKind.u64.wrap (aJ (v7+v8))) 1))/\(aJ (I9 .u64 (IntKind.u64.wrap (aJ (v7+v8))) 1))<(a0.len:Int))) ((E.c236 (a0.get (aJ (I9 .u64 (IntKind.u64.wrap (aJ (v7+v8))) 1)).toNat,a1)).T λr1=>cond r1 (zF E n0 a0 a1 (aJ ((aJ (I9 .u64 (IntKind.u64.wrap (aJ (v7+v8))) 1))+1)) v8 k) (zF E n0 a0 a1 v7 (aJ (I9 .u64 (IntKind.u64.wrap (aJ (v7+v8))) 1)) k))) (cond (decide (v7<(a0.len:Int))) (aV (decide (0<=v7/\v7<(a0.len:Int))) (cond (a0.get v7.toNat==a1) (k (v7,true)) (aV (decide (0<=v7/\v7<(a0.len:Int))) ((E.znb (a0.get v7.toNat)).T λr2=>cond r2 ((E.znb a1).T λr3=>k (v7,r3)) (k (v7,false)))))) (k (v7,false))):=krY
end
theorem zVp [aC](E:zfL)(zAO:Ok aB 236 (ae.un E.c236))(zAP:Ok aB 237 (ae.un E.znb)):Ok aB 205 (ae.un (zsh E)):=dU ((ax.nil.addF zAO).addF zAP)
structure Ez where
 N:Nat
 FB:(Sl au)×((dZ 207 Unit (Pt list)) ⊕ (dZ 230 Unit (Pt straight)) ⊕ (dZ 257 Unit (Pt straight)))->ae Int
def EC(E:Ez):(Sl au)×(dZ 207 Unit (Pt list))->ae Bool:=iR E.N (Tabs.nil.addF 238 (ae.un E.FB)) 206
theorem zkM(E:Ez){A:Type}(k:Bool→Option A)(a0:Sl au)(a1:(dZ 207 Unit (Pt list))):(EC E (a0,a1)).T k=(E.FB (a0,(Sum.inl a1))).T λr1=>k (decide (r1>=0)):=dS
theorem zkN [aC](E:Ez)(NW:Ok aB 238 (ae.un E.FB)):Ok aB 206 (ae.un (EC E)):=dU (ax.nil.addF NW)
structure ED where
 N:Nat
 FB:(Sl au)×((dZ 207 Unit (Pt list)) ⊕ (dZ 230 Unit (Pt straight)) ⊕ (dZ 257 Unit (Pt straight)))->ae Int
def EE(E:ED):(Sl au)×(dZ 230 Unit (Pt straight))->ae Bool:=iR E.N (Tabs.nil.addF 238 (ae.un E.FB)) 206
theorem zkO(E:ED){A:Type}(k:Bool→Option A)(a0:Sl au)(a1:(dZ 230 Unit (Pt straight))):(EE E (a0,a1)).T k=(E.FB (a0,(Sum.inr (Sum.inl a1)))).T λr1=>k (decide (r1>=0)):=dS
theorem zkP [aC](E:ED)(NW:Ok aB 238 (ae.un E.FB)):Ok aB 206 (ae.un (EE E)):=dU (ax.nil.addF NW)
structure EF where
 N:Nat
 FB:(Sl au)×((dZ 207 Unit (Pt list)) ⊕ (dZ 230 Unit (Pt straight)) ⊕ (dZ 257 Unit (Pt straight)))->ae Int
def EG(E:EF):(Sl au)×(dZ 257 Unit (Pt straight))->ae Bool:=iR E.N (Tabs.nil.addF 238 (ae.un E.FB)) 206
theorem zkQ(E:EF){A:Type}(k:Bool→Option A)(a0:Sl au)(a1:(dZ 257 Unit (Pt straight))):(EG E (a0,a1)).T k=(E.FB (a0,(Sum.inr (Sum.inr a1)))).T λr1=>k (decide (r1>=0)):=dS
theorem zkR [aC](E:EF)(NW:Ok aB 238 (ae.un E.FB)):Ok aB 206 (ae.un (EG E)):=dU (ax.nil.addF NW)
structure zsi where
 N:Nat
def zsj(E:zsi):au×(Pt list)->ae Bool:=iR E.N Tabs.nil 207
theorem e207(E:zsi){A:Type}(k:Bool→Option A)(a0:au)(a1:Pt list):(zsj E (a0,a1)).T k=aV (decide ((0:Int)<=0/\0<(a1.v.bP.len:Int))) (k (a0.Z != (a1.v.bP.get 0).Z)):=dS
theorem zVq [aC](E:zsi):Ok aB 207 (ae.un (zsj E)):=dU ax.nil
structure zsk where
 N:Nat
 OO:Int->ae Bool
def zsl(E:zsk):Int×Int->ae Int:=iR E.N (Tabs.nil.addF 239 (ae.un E.OO)) 208
theorem e208(E:zsk){A:Type}(k:Int→Option A)(a0 a1:Int):(zsl E (a0,a1)).T k=(E.OO a0).T λr1=>(E.OO a1).T λr2=>cond r1 (cond r2 (k 0) (k (-1))) (cond r2 (k 1) (cond (decide (a0<a1)) (k (-1)) (cond (decide (a0>a1)) (k 1) (k 0)))):=dS
theorem zVr [aC](E:zsk)(XZ:Ok aB 239 (ae.un E.OO)):Ok aB 208 (ae.un (zsl E)):=dU (ax.nil.addF XZ)
structure zfM where
 N:Nat
abbrev zI6(E:zfM):bK:=gU Tabs.nil []
def zI7:dG:=bT aB 209 [] {}
def zsm(E:zfM):Int×Int->ae Int:=ae.ty (aF aB E.N (zI6 E) zI7 209)
section
variable(E:zfM){A:Type}(k:Int->Option A)
def Uu(E:zfM)(n:Nat)(v0 v1:Int){A:Type}(k:Int->Option A):Option A:=gW aB (zI6 E) E.N zI7 209 [1,0,0] [.n n] (gV k) ⟨[(0,.int v0),(1,.int v1)],[],[]⟩
theorem e209(a0 a1:Int):(zsm E (a0,a1)).T k=Uu E E.N a0 a1 k:=dS
theorem zAQ(n0:Nat)(v0 v1:Int):Uu E (n0+1) v0 v1 k=cond (decide (v1>0)) (aV (decide (v1≠0)) (Uu E n0 v1 (v0.tmod v1) k)) (k v0):=krY
end
theorem zVs [aC](E:zfM):Ok aB 209 (ae.un (zsm E)):=dU ax.nil
structure wo where
 N:Nat
 zm7:Int×(Pt (Pt aS))×(Pt Int)->ae Bool
abbrev X0(E:wo):bK:=gU (Tabs.nil.addF 180 (ae.un E.zm7)) []
def X3:dG:=bT aB 210 [] {}
def EH(E:wo):(Sl Int)×(dZ 180 Unit ((Pt (Pt aS))×(Pt Int)))->ae Int:=ae.ty (aF aB E.N (X0 E) X3 210)
section
variable(E:wo){A:Type}(k:Int->Option A)
def xH(E:wo)(n:Nat)(a0:Sl Int)(a1:(dZ 180 Unit ((Pt (Pt aS))×(Pt Int))))(v8:Int){A:Type}(k:Int->Option A):Option A:=gW aB (X0 E) E.N X3 210 [1,0,1,0] [.n n] (gV k) ⟨[(0,eP a0),(1,eP a1),(7,.int (a0.len:Int)),(8,.int v8)],[],[]⟩
theorem zkS(a0:Sl Int)(a1:(dZ 180 Unit ((Pt (Pt aS))×(Pt Int)))):(EH E (a0,a1)).T k=xH E E.N a0 a1 0 k:=dS
theorem NY(n0:Nat)(a0:Sl Int)(a1:(dZ 180 Unit ((Pt (Pt aS))×(Pt Int))))(v8:Int):xH E (n0+1) a0 a1 v8 k=cond (decide (v8<(a0.len:Int))) (aV (decide (0<=v8/\v8<(a0.len:Int))) ((E.zm7 (a0.get v8.toNat,a1.v.1,a1.v.2)).T λr1=>cond r1 (k v8) (xH E n0 a0 a1 (aJ (v8+1)) k))) (k (-1)):=krY
end
theorem zkT [aC](E:wo)(zAR:Ok aB 180 (ae.un E.zm7)):Ok aB 210 (ae.un (EH E)):=dU (ax.nil.addF zAR)
structure wu where
 N:Nat
 zm9:Int×(Pt (Pt aS))×(Pt Int)->ae Bool
abbrev X4(E:wu):bK:=gU (Tabs.nil.addF 190 (ae.un E.zm9)) []
def X5:dG:=bT aB 210 [] {}
def EI(E:wu):(Sl Int)×(dZ 190 Unit ((Pt (Pt aS))×(Pt Int)))->ae Int:=ae.ty (aF aB E.N (X4 E) X5 210)
section
variable(E:wu){A:Type}(k:Int->Option A)
def xI(E:wu)(n:Nat)(a0:Sl Int)(a1:(dZ 190 Unit ((Pt (Pt aS))×(Pt Int))))(v8:Int){A:Type}(k:Int->Option A):Option A:=gW aB (X4 E) E.N X5 210 [1,0,1,0] [.n n] (gV k) ⟨[(0,eP a0),(1,eP a1),(7,.int (a0.len:Int)),(8,.int v8)],[],[]⟩
theorem zkU(a0:Sl Int)(a1:(dZ 190 Unit ((Pt (Pt aS))×(Pt Int)))):(EI E (a0,a1)).T k=xI E E.N a0 a1 0 k:=dS
theorem NZ(n0:Nat)(a0:Sl Int)(a1:(dZ 190 Unit ((Pt (Pt aS))×(Pt Int))))(v8:Int):xI E (n0+1) a0 a1 v8 k=cond (decide (v8<(a0.len:Int))) (aV (decide (0<=v8/\v8<(a0.len:Int))) ((E.zm9 (a0.get v8.toNat,a1.v.1,a1.v.2)).T λr1=>cond r1 (k v8) (xI E n0 a0 a1 (aJ (v8+1)) k))) (k (-1)):=krY
end
theorem zkV [aC](E:wu)(zAS:Ok aB 190 (ae.un E.zm9)):Ok aB 210 (ae.un (EI E)):=dU (ax.nil.addF zAS)
structure zsn where
 N:Nat
 zuD:(Sl au)->ae ((Sl Line)×Int)
def zso(E:zsn):(Sl au)->ae (Line×Int):=iR E.N (Tabs.nil.addF 240 (ae.un E.zuD)) 211
theorem e211(E:zsn){A:Type}(k:(Line×Int)→Option A)(a0:Sl au):(zso E (a0)).T k=(E.zuD a0).T λr1=>cond (r1.2 != 0) (k ((⟨(⟨0,0⟩:aP),(⟨0,0⟩:aP)⟩:Line),r1.2)) (aV (decide ((0:Int)<=0/\0<(r1.1.len:Int))) (k ((r1.1.get 0),0))):=dS
theorem zVt [aC](E:zsn)(zAT:Ok aB 240 (ae.un E.zuD)):Ok aB 211 (ae.un (zso E)):=dU (ax.nil.addF zAT)
structure zsp where
 N:Nat
def zsq(E:zsp):Int->ae Bool:=iR E.N Tabs.nil 222
theorem e222(E:zsp){A:Type}(k:Bool→Option A)(a0:Int):(zsq E (a0)).T k=k (a0 != a0):=dS
theorem zVu [aC](E:zsp):Ok aB 222 (ae.un (zsq E)):=dU ax.nil
structure X6 where
 N:Nat
 znc:au×Int->ae Int
 c55:Int×Int×Int×Int->ae Line
abbrev zsr(E:X6):bK:=gU ((Tabs.nil.addF 247 (ae.un E.znc)).addF 55 (ae.un E.c55)) []
def zss:dG:=bT aB 225 [] {ks:=[(1,3,⟨[],[(3,65,114)],[],[],[],[],[]⟩),(1,6,⟨[],[(3,65,114)],[],[],[],[],[]⟩),(1,9,⟨[],[(3,65,114)],[],[],[],[],[]⟩)]}
def zst(E:X6):(Sl au)->ae ((Sl Line)):=ae.ty (aF aB E.N (zsr E) zss 225)
section
variable(E:X6){A:Type}(k:(Sl Line)->Option A)
def N7(E:X6)(n:Nat)(a0:Sl au)(v4:Int)(Px:Sl Line){A:Type}(k:(Sl Line)->Option A):Option A:=gW aB (zsr E) E.N zss 225 [1,1,0,1,0] [.n n] (gV k) ⟨[(0,eP a0),(3,.cl (.vec 65)),(4,.int v4)],[(65,eV 114 4 32 Px)],[]⟩
def G7(E:X6)(n0 n:Nat)(a0:Sl au)(v4 v5:Int)(Px:Sl Line){A:Type}(k:(Sl Line)->Option A):Option A:=gW aB (zsr E) E.N zss 225 [1,1,0,1,0,0,1,0,0,1,0] [.n n0,.n n] (gV k) ⟨[(0,eP a0),(3,.cl (.vec 65)),(4,.int v4),(5,.int v5)],[(65,eV 114 4 32 Px)],[]⟩
def G8(E:X6)(n0 n1 n:Nat)(a0:Sl au)(v4 v5 v6:Int)(Px:Sl Line){A:Type}(k:(Sl Line)->Option A):Option A:=gW aB (zsr E) E.N zss 225 [1,1,0,1,0,0,1,0,0,1,0,0,1,0,0,1,0] [.n n0,.n n1,.n n] (gV k) ⟨[(0,eP a0),(3,.cl (.vec 65)),(4,.int v4),(5,.int v5),(6,.int v6)],[(65,eV 114 4 32 Px)],[]⟩
theorem zVv(a0:Sl au):(zst E (a0)).T k=N7 E E.N a0 0 (⟨0,(λ_=>(⟨(⟨0,0⟩:aP),(⟨0,0⟩:aP)⟩:Line))⟩:(Sl Line)) k:=dS
theorem zkW(n0:Nat)(a0:Sl au)(v4:Int)(Px:Sl Line):N7 E (n0+1) a0 v4 Px k=cond (decide (v4<(a0.len:Int))) (G7 E n0 E.N a0 v4 (aJ (v4+1)) Px k) (k Px):=krY
theorem zkX(n0 n1:Nat)(a0:Sl au)(v4 v5:Int)(Px:Sl Line):G7 E n0 (n1+1) a0 v4 v5 Px k=cond (decide (v5<(a0.len:Int))) (G8 E n0 n1 E.N a0 v4 v5 0 Px k) (N7 E n0 a0 (aJ (v4+1)) Px k):=krY
theorem zbm(n0 n1 n2:Nat)(a0:Sl au)(v4 v5 v6:Int)(Px:Sl Line):G8 E n0 n1 (n2+1) a0 v4 v5 v6 Px k=cond (decide (v6<4)) (aV (decide (0<=v4/\v4<(a0.len:Int))) (aV (decide (0<=v5/\v5<(a0.len:Int))) (cond ((a0.get v4.toNat).Z != (a0.get v5.toNat).Z) (aV (decide (0<=v4/\v4<(a0.len:Int))) (aV (decide (0<=v4/\v4<(a0.len:Int))) ((E.znc ((a0.get v4.toNat),(aJ (v6.tdiv 2)))).T λr1=>aV (decide (0<=v5/\v5<(a0.len:Int))) (aV (decide (0<=v5/\v5<(a0.len:Int))) ((E.znc ((a0.get v5.toNat),(v6.tmod 2))).T λr2=>(E.c55 ((a0.get v4.toNat).Z,r1,(a0.get v5.toNat).Z,r2)).T λr3=>aV (room (Px.len+1) 32) (G8 E n0 n1 n2 a0 v4 v5 (aJ (v6+1)) (⟨(Px.len+1),(jy Px.len Px.get (λ_=>r3))⟩:(Sl Line)) k)))))) (G7 E n0 n1 a0 v4 (aJ (v5+1)) Px k)))) (G7 E n0 n1 a0 v4 (aJ (v5+1)) Px k):=krY
end
theorem zVw [aC](E:X6)(zsu:Ok aB 247 (ae.un E.znc))(h55:Ok aB 55 (ae.un E.c55)):Ok aB 225 (ae.un (zst E)):=dU ((ax.nil.addF zsu).addF h55)
structure zsv where
 N:Nat
 zbN:Line×(Sl au)->ae Bool
 c56:aP×aP->ae Bool
def zsw(E:zsv):Line×Line×(Sl au)->ae Bool:=iR E.N ((Tabs.nil.addF 248 (ae.un E.zbN)).addF 56 (ae.un E.c56)) 226
theorem e226(E:zsv){A:Type}(k:Bool→Option A)(a0 a1:Line)(a2:Sl au):(zsw E (a0,a1,a2)).T k=(E.zbN (a0,a2)).T λr1=>(E.zbN (a1,a2)).T λr2=>cond (r1 != r2) ((E.zbN (a0,a2)).T λr3=>k r3) ((E.zbN (a0,a2)).T λr4=>cond r4 ((E.c56 (a0.dK,a1.dK)).T λr5=>k r5) ((E.c56 (a1.dK,a0.dK)).T λr6=>k r6)):=dS
theorem zVy [aC](E:zsv)(zsx:Ok aB 248 (ae.un E.zbN))(h56:Ok aB 56 (ae.un E.c56)):Ok aB 226 (ae.un (zsw E)):=dU ((ax.nil.addF zsx).addF h56)
structure zsy where
 N:Nat
def zsz(E:zsy):af×Int×Int->ae af:=iR E.N Tabs.nil 227
theorem e227(E:zsy){A:Type}(k:af→Option A)(a0:af)(a1 a2:Int):(zsz E (a0,a1,a2)).T k=aV (room a0.Hits.len 8) (aV (room (a0.Hits.len+1) 8) (aV (room a0.aU.len 8) (aV (room (a0.aU.len+1) 8) (k (⟨a0.View,(⟨(a0.Hits.len+1),(jy a0.Hits.len a0.Hits.get (λ_=>a1))⟩:(Sl Int)),(⟨(a0.aU.len+1),(jy a0.aU.len a0.aU.get (λ_=>a2))⟩:(Sl Int))⟩:af))))):=dS
theorem zVz [aC](E:zsy):Ok aB 227 (ae.un (zsz E)):=dU ax.nil
structure X7 where
 N:Nat
 c229:Int×Int×Int×Int->ae straight
abbrev zAU(E:X7):bK:=gU (Tabs.nil.addF 229 (ae.un E.c229)) []
def zAV:dG:=bT aB 228 [0] {ks:=[(1,4,⟨[],[],[],[],[4],[],[]⟩)],unr:=[(8,3),(11,3)],yl:=[13]}
def zI8(E:X7)(c:List PA):YO:=aI aB (zAU E) E.N zAV 228 c
def zAW(E:X7):(Pt list)->ae (List (straight)):=ae.tyI λc=>.opt (zI8 E c)
section
variable(E:X7)
def N8(E:X7)(n:Nat)(a1:Pt list)(fU:Int):YO:=ptY aB (zAU E) E.N zAV 228 [1,0] [n] ⟨[(0,.cl (.vec 4095)),(1,eP a1),(12,eP a1.v.bP),(13,.int (a1.v.bP.len:Int)),(14,.int fU)],[(4095,.gone)],[]⟩
def N9(E:X7)(n0 n:Nat)(a1:Pt list)(fU:Int)(v23:Sl au)(v24 v25:Int)(x4:au):YO:=ptY aB (zAU E) E.N zAV 228 [1,0,0,1,1,0,0,1,1,0] [n0,n] ⟨[(0,.cl (.vec 4095)),(1,eP a1),(4,.cl (.ptr 4 0)),(12,eP a1.v.bP),(13,.int (a1.v.bP.len:Int)),(14,.int fU),(23,eP v23),(24,.int v24),(25,.int v25)],[(4095,.gone),(4,.fbox (bI.enc x4))],[]⟩
theorem e228(a1:Pt list):zI8 E (dF.enc ((a1):(Pt list)))=N8 E E.N a1 0:=krY
theorem zkY(n0:Nat)(a1:Pt list)(fU:Int):N8 E (n0+1) a1 fU=cond (decide (fU<(a1.v.bP.len:Int))) (aV (decide (0<=fU/\fU<(a1.v.bP.len:Int))) (aV (decide ((0:Int)<=(aJ (fU+1))/\((aJ (fU+1)):Int)<=(a1.v.bP.len:Int)/\(a1.v.bP.len:Int)<=(a1.v.bP.len:Int))) (N9 E n0 E.N a1 fU (⟨(((a1.v.bP.len:Int):Int)-(aJ (fU+1))).toNat,(uY a1.v.bP.get (aJ (fU+1)).toNat)⟩:(Sl au)) ((((a1.v.bP.len:Int):Int)-(aJ (fU+1))).toNat:Int) 0 (a1.v.bP.get fU.toNat)))) (some []):=krY
theorem zkZ(n0 n1:Nat)(a1:Pt list)(fU:Int)(v23:Sl au)(v24 v25:Int)(x4:au):N9 E n0 (n1+1) a1 fU v23 v24 v25 x4=cond (decide (v25<v24)) (aV (decide (0<=v25/\v25<(v23.len:Int))) (cond (x4.Z==(v23.get v25.toNat).Z) (N9 E n0 n1 a1 fU v23 v24 (aJ (v25+1)) x4) ((E.c229 (x4.Z,x4.Low,(v23.get v25.toNat).Z,(v23.get v25.toNat).Low)).T λr1=>yT (dF.enc (r1:straight)) (some []) ((E.c229 (x4.Z,x4.Low,(v23.get v25.toNat).Z,(v23.get v25.toNat).High)).T λr2=>yT (dF.enc (r2:straight)) (some []) ((E.c229 (x4.Z,x4.High,(v23.get v25.toNat).Z,(v23.get v25.toNat).Low)).T λr3=>yT (dF.enc (r3:straight)) (some []) ((E.c229 (x4.Z,x4.High,(v23.get v25.toNat).Z,(v23.get v25.toNat).High)).T λr4=>yT (dF.enc (r4:straight)) (some []) (N9 E n0 n1 a1 fU v23 v24 (aJ (v25+1)) x4))))))) (N8 E n0 a1 (aJ (fU+1))):=krY
end
theorem zVA(E:X7)(zfN:Ok aB 229 (ae.un E.c229)):AL aB 228 (ae.unI (zAW E)):=TP (Nh (ax.nil.addF zfN) (dJ krY))
structure zsA where
 N:Nat
def zsB(E:zsA):Int×Int×Int×Int->ae straight:=iR E.N Tabs.nil 229
theorem e229(E:zsA){A:Type}(k:straight→Option A)(a0 a1 a2 a3:Int):(zsB E (a0,a1,a2,a3)).T k=cond (decide (a0>a2)) (k (⟨(aJ (a1-a3)),(aJ ((aJ (a3*a0))-(aJ (a1*a2)))),(aJ (a0-a2))⟩:straight)) (k (⟨(aJ (a3-a1)),(aJ ((aJ (a1*a2))-(aJ (a3*a0)))),(aJ (a2-a0))⟩:straight)):=dS
theorem zVB [aC](E:zsA):Ok aB 229 (ae.un (zsB E)):=dU ax.nil
structure zsC where
 N:Nat
 zuC:straight×au->ae Bool
def zsD(E:zsC):au×(Pt straight)->ae Bool:=iR E.N (Tabs.nil.addF 231 (ae.un E.zuC)) 230
theorem e230(E:zsC){A:Type}(k:Bool→Option A)(a0:au)(a1:Pt straight):(zsD E (a0,a1)).T k=(E.zuC (a1.v,a0)).T λr1=>k (!r1):=dS
theorem zVC [aC](E:zsC)(zAX:Ok aB 231 (ae.un E.zuC)):Ok aB 230 (ae.un (zsD E)):=dU (ax.nil.addF zAX)
structure zsE where
 N:Nat
 c157:Int×Int×Int->ae Bool
def zsF(E:zsE):straight×au->ae Bool:=iR E.N (Tabs.nil.addF 157 (ae.un E.c157)) 231
theorem e231(E:zsE){A:Type}(k:Bool→Option A)(a0:straight)(a1:au):(zsF E (a0,a1)).T k=(E.c157 ((aJ (a0.start+(aJ (a0.bH*a1.Z)))),(aJ (a1.Low*a0.den)),(aJ (a1.High*a0.den)))).T λr1=>k r1:=dS
theorem zVD [aC](E:zsE)(BZ:Ok aB 157 (ae.un E.c157)):Ok aB 231 (ae.un (zsF E)):=dU (ax.nil.addF BZ)
structure zsG where
 N:Nat
 OO:Int->ae Bool
def zsH(E:zsG):Int×Int->ae Bool:=iR E.N (Tabs.nil.addF 239 (ae.un E.OO)) 236
theorem zVE(E:zsG){A:Type}(k:Bool→Option A)(a0 a1:Int):(zsH E (a0,a1)).T k=(E.OO a0).T λr1=>cond r1 ((E.OO a1).T λr2=>cond (!r2) (k true) (k (decide (a0<a1)))) (k (decide (a0<a1))):=dS
theorem zVF [aC](E:zsG)(XZ:Ok aB 239 (ae.un E.OO)):Ok aB 236 (ae.un (zsH E)):=dU (ax.nil.addF XZ)
structure zsI where
 N:Nat
def zsJ(E:zsI):Int->ae Bool:=iR E.N Tabs.nil 237
theorem e237(E:zsI){A:Type}(k:Bool→Option A)(a0:Int):(zsJ E (a0)).T k=k (a0 != a0):=dS
theorem zVG [aC](E:zsI):Ok aB 237 (ae.un (zsJ E)):=dU ax.nil
structure wz where
 N:Nat
 zux:au×(Pt list)->ae Bool
abbrev X8(E:wz):bK:=gU (Tabs.nil.addF 207 (ae.un E.zux)) []
def X9:dG:=bT aB 238 [] {}
def EJ(E:wz):(Sl au)×(dZ 207 Unit (Pt list))->ae Int:=ae.ty (aF aB E.N (X8 E) X9 238)
section
variable(E:wz){A:Type}(k:Int->Option A)
def xJ(E:wz)(n:Nat)(a0:Sl au)(a1:(dZ 207 Unit (Pt list)))(v8:Int){A:Type}(k:Int->Option A):Option A:=gW aB (X8 E) E.N X9 238 [1,0,1,0] [.n n] (gV k) ⟨[(0,eP a0),(1,.p (.fn 207 [] [.fp [.sl a1.v.v.bP.len 3 (λi=>bI.enc (a1.v.v.bP.get i))] 0])),(7,.int (a0.len:Int)),(8,.int v8)],[],[]⟩
theorem zk0(a0:Sl au)(a1:(dZ 207 Unit (Pt list))):(EJ E (a0,a1)).T k=xJ E E.N a0 a1 0 k:=dS
theorem Oa(n0:Nat)(a0:Sl au)(a1:(dZ 207 Unit (Pt list)))(v8:Int):xJ E (n0+1) a0 a1 v8 k=cond (decide (v8<(a0.len:Int))) (aV (decide (0<=v8/\v8<(a0.len:Int))) ((E.zux ((a0.get v8.toNat),a1.v)).T λr1=>cond r1 (k v8) (xJ E n0 a0 a1 (aJ (v8+1)) k))) (k (-1)):=krY
end
theorem zk1 [aC](E:wz)(zAY:Ok aB 207 (ae.un E.zux)):Ok aB 238 (ae.un (EJ E)):=dU (ax.nil.addF zAY)
structure wB where
 N:Nat
 zuB:au×(Pt straight)->ae Bool
abbrev Ya(E:wB):bK:=gU (Tabs.nil.addF 230 (ae.un E.zuB)) []
def Yb:dG:=bT aB 238 [] {}
def EL(E:wB):(Sl au)×(dZ 230 Unit (Pt straight))->ae Int:=ae.ty (aF aB E.N (Ya E) Yb 238)
section
variable(E:wB){A:Type}(k:Int->Option A)
def xK(E:wB)(n:Nat)(a0:Sl au)(a1:(dZ 230 Unit (Pt straight)))(v8:Int){A:Type}(k:Int->Option A):Option A:=gW aB (Ya E) E.N Yb 238 [1,0,1,0] [.n n] (gV k) ⟨[(0,eP a0),(1,eP a1),(7,.int (a0.len:Int)),(8,.int v8)],[],[]⟩
theorem zk2(a0:Sl au)(a1:(dZ 230 Unit (Pt straight))):(EL E (a0,a1)).T k=xK E E.N a0 a1 0 k:=dS
theorem Ob(n0:Nat)(a0:Sl au)(a1:(dZ 230 Unit (Pt straight)))(v8:Int):xK E (n0+1) a0 a1 v8 k=cond (decide (v8<(a0.len:Int))) (aV (decide (0<=v8/\v8<(a0.len:Int))) ((E.zuB ((a0.get v8.toNat),a1.v)).T λr1=>cond r1 (k v8) (xK E n0 a0 a1 (aJ (v8+1)) k))) (k (-1)):=krY
end
theorem zk3 [aC](E:wB)(zAZ:Ok aB 230 (ae.un E.zuB)):Ok aB 238 (ae.un (EL E)):=dU (ax.nil.addF zAZ)
structure wC where
 N:Nat
 zuE:au×(Pt straight)->ae Bool
abbrev Yc(E:wC):bK:=gU (Tabs.nil.addF 257 (ae.un E.zuE)) []
def Yd:dG:=bT aB 238 [] {}
def EM(E:wC):(Sl au)×(dZ 257 Unit (Pt straight))->ae Int:=ae.ty (aF aB E.N (Yc E) Yd 238)
section
variable(E:wC){A:Type}(k:Int->Option A)
def xM(E:wC)(n:Nat)(a0:Sl au)(a1:(dZ 257 Unit (Pt straight)))(v8:Int){A:Type}(k:Int->Option A):Option A:=gW aB (Yc E) E.N Yd 238 [1,0,1,0] [.n n] (gV k) ⟨[(0,eP a0),(1,eP a1),(7,.int (a0.len:Int)),(8,.int v8)],[],[]⟩
theorem zk4(a0:Sl au)(a1:(dZ 257 Unit (Pt straight))):(EM E (a0,a1)).T k=xM E E.N a0 a1 0 k:=dS
theorem Oc(n0:Nat)(a0:Sl au)(a1:(dZ 257 Unit (Pt straight)))(v8:Int):xM E (n0+1) a0 a1 v8 k=cond (decide (v8<(a0.len:Int))) (aV (decide (0<=v8/\v8<(a0.len:Int))) ((E.zuE ((a0.get v8.toNat),a1.v)).T λr1=>cond r1 (k v8) (xM E n0 a0 a1 (aJ (v8+1)) k))) (k (-1)):=krY
end
theorem zk5 [aC](E:wC)(zA1:Ok aB 257 (ae.un E.zuE)):Ok aB 238 (ae.un (EM E)):=dU (ax.nil.addF zA1)
structure zsK where
 N:Nat
def zsL(E:zsK):Int->ae Bool:=iR E.N Tabs.nil 239
theorem zVH(E:zsK){A:Type}(k:Bool→Option A)(a0:Int):(zsL E (a0)).T k=k (a0 != a0):=dS
theorem zVI [aC](E:zsK):Ok aB 239 (ae.un (zsL E)):=dU ax.nil
structure zfO where
 N:Nat
 c117:(Sl au)×((dZ 118 Unit Unit) ⊕ (dZ 162 Unit (Pt Int)))->ae (set×Int)
 znd:set->ae ((Sl straight))
 c198:straight->ae Line
abbrev zI9(E:zfO):bK:=gU (((Tabs.nil.addF 117 (ae.un E.c117)).addF 249 (ae.un E.znd)).addF 198 (ae.un E.c198)) []
def zJa:dG:=bT aB 240 [] {ks:=[(1,6,⟨[],[(6,28,114)],[],[],[],[],[]⟩)]}
def zk6(E:zfO):(Sl au)->ae ((Sl Line)×Int):=ae.ty (aF aB E.N (zI9 E) zJa 240)
section
variable(E:zfO){A:Type}(k:((Sl Line)×Int)->Option A)
def G9(E:zfO)(n:Nat)(VA:Sl straight)(ZG v20:Int)(w28:Sl Line){A:Type}(k:((Sl Line)×Int)->Option A):Option A:=gW aB (zI9 E) E.N zJa 240 [1,1,1,1,0,1,0] [.n n] (gV k) ⟨[(6,.cl (.vec 28)),(18,eP VA),(19,.int ZG),(20,.int v20)],[(28,eV 114 4 32 w28)],[]⟩
theorem e240(a0:Sl au):(zk6 E (a0)).T k=(E.c117 (a0,(Sum.inl (⟨(),()⟩:(dZ 118 Unit Unit))))).T λr1=>cond (r1.2 != 0) (k ((⟨0,λ_=>default⟩:(Sl Line)),r1.2)) ((E.znd r1.1).T λr2=>G9 E E.N r2 (r2.len:Int) 0 (⟨0,(λ_=>(⟨(⟨0,0⟩:aP),(⟨0,0⟩:aP)⟩:Line))⟩:(Sl Line)) k):=dS
theorem zk7(n0:Nat)(VA:Sl straight)(ZG v20:Int)(w28:Sl Line):G9 E (n0+1) VA ZG v20 w28 k=cond (decide (v20<ZG)) (aV (decide (0<=v20/\v20<(VA.len:Int))) ((E.c198 (VA.get v20.toNat)).T λr1=>aV (room (w28.len+1) 32) (G9 E n0 VA ZG (aJ (v20+1)) (⟨(w28.len+1),(jy w28.len w28.get (fun _=>r1))⟩:(Sl Line)) k))) (k (w28,0)):=krY
end
theorem zVJ [aC](E:zfO)(za3:Ok aB 117 (ae.un E.c117))(zA2:Ok aB 249 (ae.un E.znd))(zbf:Ok aB 198 (ae.un E.c198)):Ok aB 240 (ae.un (zk6 E)):=dU (((ax.nil.addF za3).addF zA2).addF zbf)
structure zsM where
 N:Nat
def zsN(E:zsM):au×Int->ae Int:=iR E.N Tabs.nil 247
theorem e247(E:zsM){A:Type}(k:Int→Option A)(a0:au)(a1:Int):(zsN E (a0,a1)).T k=cond (a1==0) (k a0.Low) (k a0.High):=dS
theorem zVK [aC](E:zsM):Ok aB 247 (ae.un (zsN E)):=dU ax.nil
structure zfP where
 N:Nat
 Vf:Line×Int->ae (Int×Int)
abbrev zJb(E:zfP):bK:=gU (Tabs.nil.addF 166 (ae.un E.Vf)) []
def zJc:dG:=bT aB 248 [] {}
def zsO(E:zfP):Line×(Sl au)->ae Bool:=ae.ty (aF aB E.N (zJb E) zJc 248)
section
variable(E:zfP){A:Type}(k:Bool->Option A)
def Uw(E:zfP)(n:Nat)(a0:Line)(a1:Sl au)(v5:Int){A:Type}(k:Bool->Option A):Option A:=gW aB (zJb E) E.N zJc 248 [1,0,1,0] [.n n] (gV k) ⟨[(1,eP a1),(2,.cl (.ptr 2 0)),(5,.int v5)],[(2,eB 114 a0)],[]⟩
theorem e248(a0:Line)(a1:Sl au):(zsO E (a0,a1)).T k=Uw E E.N a0 a1 0 k:=dS
theorem zk8(n0:Nat)(a0:Line)(a1:Sl au)(v5:Int):Uw E (n0+1) a0 a1 v5 k=cond (decide (v5<(a1.len:Int))) (aV (decide (0<=v5/\v5<(a1.len:Int))) ((E.Vf (a0,(a1.get v5.toNat).Z)).T λr1=>aV (decide (0<=v5/\v5<(a1.len:Int))) (cond (r1.1==(aJ ((a1.get v5.toNat).Low*r1.2))) (k true) (Uw E n0 a0 a1 (aJ (v5+1)) k)))) (k false):=krY
end
theorem zVL [aC](E:zfP)(za6:Ok aB 166 (ae.un E.Vf)):Ok aB 248 (ae.un (zsO E)):=dU (ax.nil.addF za6)
structure zsP where
 N:Nat
 Zk:straight×straight×(Pt set)->ae Int
def zsQ(E:zsP):set->ae ((Sl straight)):=iR E.N (((Tabs.nil.addO 252 (.clone 204 3 24)).addO 253 (.sort 204 3 24)).addC 254 (ae.un E.Zk)) 249
theorem e249(E:zsP){A:Type}(k:(Sl straight)→Option A)(a0:set):(zsQ E (a0)).T k=aV (room a0.df.len 24) (aV (soP (ae.un E.Zk) (bI.enc (⟨a0⟩:(Pt set))) true a0.df) (k (⟨a0.df.len,(soG (ae.un E.Zk) (bI.enc (⟨a0⟩:(Pt set))) true a0.df)⟩:(Sl straight)))):=dS
theorem zVM [aC](E:zsP)(zVN:gB aB 252 (.clone 204 3 24))(zVO:gB aB 253 (.sort 204 3 24))(zVP : @Ok ⟨1⟩ aB 254 (ae.un E.Zk)):Ok aB 249 (ae.un (zsQ E)):=dU (((ax.nil.addO zVN).addO zVO).addC zVP)
structure zsR where
 N:Nat
 zne:set×straight->ae Bool
 kW:Int×Int->ae aP
 Fv:aP×aP->ae Int
def zsS(E:zsR):straight×straight×(Pt set)->ae Int:=iR E.N (((Tabs.nil.addF 255 (ae.un E.zne)).addF 172 (ae.un E.kW)).addF 170 (ae.un E.Fv)) 254
theorem e254(E:zsR){A:Type}(k:Int→Option A)(a0 a1:straight)(a2:Pt set):(zsS E (a0,a1,a2)).T k=(E.zne (a2.v,a0)).T λr1=>(E.zne (a2.v,a1)).T λr2=>(E.kW (a0.bH,a0.den)).T λr3=>(E.kW (a1.bH,a1.den)).T λr4=>(E.Fv (r3,r4)).T λr5=>cond r1 (cond r2 (k r5) (cond r1 (k (-1)) (cond r2 (k 1) (k (aJ (0-r5)))))) (cond r1 (k (-1)) (cond r2 (k 1) (k (aJ (0-r5))))):=dS
theorem zVQ [aC](E:zsR)(zsU:Ok aB 255 (ae.un E.zne))(qW:Ok aB 172 (ae.un E.kW))(NV:Ok aB 170 (ae.un E.Fv)):Ok aB 254 (ae.un (zsS E)):=dU (((ax.nil.addF zsU).addF qW).addF NV)
structure zsV where
 N:Nat
 c206:(Sl au)×((dZ 207 Unit (Pt list)) ⊕ (dZ 230 Unit (Pt straight)) ⊕ (dZ 257 Unit (Pt straight)))->ae Bool
def zsW(E:zsV):set×straight->ae Bool:=iR E.N (Tabs.nil.addF 206 (ae.un E.c206)) 255
theorem zVR(E:zsV){A:Type}(k:Bool→Option A)(a0:set)(a1:straight):(zsW E (a0,a1)).T k=(E.c206 (a0.list.bP,(Sum.inr (Sum.inr (⟨(),(⟨a1⟩:(Pt straight))⟩:(dZ 257 Unit (Pt straight))))))).T λr1=>k r1:=dS
theorem zVS [aC](E:zsV)(NS:Ok aB 206 (ae.un E.c206)):Ok aB 255 (ae.un (zsW E)):=dU (ax.nil.addF NS)
structure zsX where
 N:Nat
def zsY(E:zsX):au×(Pt straight)->ae Bool:=iR E.N Tabs.nil 257
theorem e257(E:zsX){A:Type}(k:Bool→Option A)(a0:au)(a1:Pt straight):(zsY E (a0,a1)).T k=k ((aJ (a1.v.start+(aJ (a1.v.bH*a0.Z))))==(aJ (a0.Low*a1.v.den))):=dS
theorem zVT [aC](E:zsX):Ok aB 257 (ae.un (zsY E)):=dU ax.nil
theorem qX{x y X Y:Int}(h1 : -X<=x)(h2:x<=X)(h3:0<=y)(h4:y<=Y) : -(X*Y)<=x*y/\x*y<=X*Y:=by
 have hX:0<=X:=by omega
 have a:=J9 h2 h3;have b:=dq4 h4 hX;have c:=J9 h1 h3;rw[qj3]at c;omega
def red(num den:Int):aP:=⟨num.tdiv (Int.gcd num den:Int),den.tdiv (Int.gcd num den:Int)⟩
theorem zk9(num:Int):(if -num>num then -num else num)=(num.natAbs:Int):=by split<;>omega
theorem zdm(num den:Int):Int.gcd (num.natAbs:Int) den=Int.gcd num den:=by
 unfold Int.gcd;rw[Int.natAbs_natCast]
theorem lT{num den:Int}(hd:0<den):0<(Int.gcd num den:Int):=by
 have:Int.gcd num den≠0:=λh=>by have:=(Int.gcd_eq_zero_iff.1 h).2;omega
 omega
theorem zJd(num den:Int):∃a,num=(Int.gcd num den:Int)*a:=Int.gcd_dvd_left num den
theorem zJe(num den:Int):∃a,den=(Int.gcd num den:Int)*a:=Int.gcd_dvd_right num den
theorem pF{num den:Int}(hd:0<den):(Int.gcd num den:Int)*(red num den).Num=num:=by
 have hg:=lT (num:=num) hd;obtain⟨a,ha⟩:=zJd num den;show(Int.gcd num den:Int)*num.tdiv (Int.gcd num den:Int)=num;generalize (Int.gcd num den:Int)=g at ha hg ⊢;rw[ha,qdX _ omY]
theorem nJ{num den:Int}(hd:0<den):(Int.gcd num den:Int)*(red num den).bQ=den:=by
 have hg:=lT (num:=num) hd;obtain⟨a,ha⟩:=zJe num den;show(Int.gcd num den:Int)*den.tdiv (Int.gcd num den:Int)=den;generalize (Int.gcd num den:Int)=g at ha hg ⊢;rw[ha,qdX _ omY]
theorem jH{num den:Int}(hd:0<den):0<(red num den).bQ:=by
 have h1:=nJ (num:=num) hd;have hg:=lT (num:=num) hd;rcases qdV 0 (red num den).bQ with h|h
 exact h;have:=dq4 h (uX hg);rw[h1,jqg]at this;omega
theorem Ha{num den:Int}(hd:0<den):(red num den).bQ<=den:=by
 have h1:=nJ (num:=num) hd;have hg:=lT (num:=num) hd;have:=J9 (show(1:Int)<=(Int.gcd num den:Int)by omega) (uX (jH (num:=num) hd));omega
theorem Af{num den:Int}(hd:0<den) : -(num.natAbs:Int)<=(red num den).Num/\(red num den).Num<=(num.natAbs:Int):=by
 have h1:=pF (num:=num) hd;have hg:=lT (num:=num) hd;have h2:num.natAbs=(Int.gcd num den)*(red num den).Num.natAbs:=by
  have:=jX Int.natAbs h1;rw[jqB]at this;simpa using this.symm
 have h3:(red num den).Num.natAbs<=num.natAbs:=by
  rw[h2];exact Nat.le_mul_of_pos_left _ omY
 omega
theorem zdn{num den:Int}(hd:0<den):Int.gcd (red num den).Num (red num den).bQ=1:=by
 have h1:=pF (num:=num) hd;have h2:=nJ (num:=num) hd;have hg:=lT (num:=num) hd;have h3:Int.gcd ((Int.gcd num den:Int)*(red num den).Num) ((Int.gcd num den:Int)*(red num den).bQ)=Int.gcd num den*Int.gcd (red num den).Num (red num den).bQ:=by
  rw[Int.gcd_mul_left];simp
 rw[h1,h2]at h3;have h4:Int.gcd num den*1=Int.gcd num den*Int.gcd (red num den).Num (red num den).bQ:=by rw[Nat.mul_one];exact h3
 exact(Nat.eq_of_mul_eq_mul_left omY h4).symm
theorem zbn{a b c d:Int}(hb:0<b)(hd:0<d):red a b=red c d↔a*d=c*b:=by
 have a1:=pF (num:=a) hb;have a2:=nJ (num:=a) hb;have c1:=pF (num:=c) hd;have c2:=nJ (num:=c) hd;constructor;intro h;rw[h]at a1 a2;generalize hG:(Int.gcd a b:Int)=G at a1 a2;generalize hK:(Int.gcd c d:Int)=K at c1 c2;generalize (red c d).Num=x at a1 c1;generalize (red c d).bQ=y at a2 c2;subst a1;subst a2;subst c1;subst c2
 ac_rfl
 ·intro h;have ga:=zdn (num:=a) hb;have gc:=zdn (num:=c) hd;have pa:=jH (num:=a) hb;have pc:=jH (num:=c) hd;have hG:=lT (num:=a) hb;have hK:=lT (num:=c) hd
  -- RF products of the lowest forms
  have hx:(red a b).Num*(red c d).bQ=(red c d).Num*(red a b).bQ:=by
   have e:((Int.gcd a b:Int)*(Int.gcd c d:Int))*((red a b).Num*(red c d).bQ)=((Int.gcd a b:Int)*(Int.gcd c d:Int))*((red c d).Num*(red a b).bQ):=by
    have l1:((Int.gcd a b:Int)*(Int.gcd c d:Int))*((red a b).Num*(red c d).bQ)=((Int.gcd a b:Int)*(red a b).Num)*((Int.gcd c d:Int)*(red c d).bQ):=by
     generalize (Int.gcd a b:Int)=G;generalize (Int.gcd c d:Int)=K
     ac_rfl
    have l2:((Int.gcd a b:Int)*(Int.gcd c d:Int))*((red c d).Num*(red a b).bQ)=((Int.gcd c d:Int)*(red c d).Num)*((Int.gcd a b:Int)*(red a b).bQ):=by
     generalize (Int.gcd a b:Int)=G;generalize (Int.gcd c d:Int)=K
     ac_rfl
    rw[l1,l2,a1,a2,c1,c2];exact h
   exact Int.eq_of_mul_eq_mul_left (by have:=qj4 hG hK;omega) e
  have yK:=jX Int.natAbs hx;rw[jqB,jqB]at yK;have ga':Nat.Coprime (red a b).bQ.natAbs (red a b).Num.natAbs:=(jqh _ _).trans ga;have gc':Nat.Coprime (red c d).bQ.natAbs (red c d).Num.natAbs:=(jqh _ _).trans gc;have d1:(red a b).bQ∣(red c d).bQ:=jqX.1 (ga'.dvd_of_dvd_mul_left ⟨(red c d).Num.natAbs,by rw[yK,qdK]⟩);have d2:(red c d).bQ∣(red a b).bQ:=jqX.1 (gc'.dvd_of_dvd_mul_left ⟨(red a b).Num.natAbs,by rw[<- yK,qdK]⟩);have zuK:(red a b).bQ=(red c d).bQ:=jqp (Int.le_of_dvd pc d1) (Int.le_of_dvd pa d2);rw[<- zuK]at hx;have zEJ:=jqv omY hx;cases h1:red a b;cases h2:red c d;rw[h1,h2]at zuK zEJ;simp only at zuK zEJ;rw[zuK,zEJ]
def FP(z p y q:Int):straight:=if z>y then⟨p-q,q*z-p*y,z-y⟩else⟨q-p,p*y-q*z,y-z⟩
def fB(s:straight):Line:=⟨red s.bH s.den,red s.start s.den⟩
theorem Ye{a b:Int}(ha:0<=a)(hb:0<b):0<=a.tmod b/\a.tmod b<b/\Int.gcd b (a.tmod b)=Int.gcd a b:=by
 refine⟨Int.tmod_nonneg b ha,Int.tmod_lt_of_pos a hb,?_⟩;obtain⟨m,rfl⟩:=jqJ ha;obtain⟨n,rfl⟩:=jqJ (uX hb);show Nat.gcd n (m%n)=Nat.gcd m n;rw[jqh m n,Nat.gcd_rec n m,jqh]
theorem Yf{A:Type}{X:Nat→Int→Int→Option A}{k:Int→Option A}(hX:∀n a b,0≤a→0≤b→X (n+1) a b=if b=0 then k a else X n b (a.tmod b)) :
  ∀(m n:Nat)(a b:Int),0<=a->0<=b->b<2^m->2*m<n->X n a b=k (Int.gcd a b:Int):=by
 have zero:∀a:Int,0<=a->(Int.gcd a 0:Int)=a:=λa ha=>by rw[Int.gcd_zero_right];omega
 intro m
 induction m with
 | zero =>
  intro n a b ha hb hm hn;obtain⟨n,rfl⟩:∃n',n=n'+1:=⟨n-1,omY⟩;have:b=0:=by simp at hm;omega
  subst this;rw[hX n a 0 ha hb,eY rfl,zero a ha]
 | succ m ih =>
  intro n a b ha hb hm hn;obtain⟨n,rfl⟩:∃n',n=n'+1+1:=⟨n-2,omY⟩;rw[hX _ a b ha hb];by_cases h0:b=0;subst h0;rw[eY rfl,zero a ha];rw[fH h0];obtain⟨r0,r1,g1⟩:=Ye ha (show 0<b by omega);rw[hX _ b _ hb r0];by_cases h1:a.tmod b=0;rw[eY h1,<- g1,h1,zero b hb];rw[fH h1];obtain⟨q0,q1,g2⟩:=Ye hb (show 0<a.tmod b by omega);rw[ih n _ _ r0 q0 ?_ omY,g2,g1];have e:=Int.tmod_add_mul_tdiv b (a.tmod b);have hq:1<=b.tdiv (a.tmod b):=by
   rcases qdV 0 (b.tdiv (a.tmod b))with h|h
   omega;have:=dq4 h r0;rw[jqg]at this;omega
  have:=dq4 hq r0;rw[Int.mul_one]at this;have h2:(2:Int)^(m+1)=2^m*2:=Int.pow_succ 2 m;omega
abbrev zbo(C:Int×Int->ae Int):Prop:=∀a b,0<=a->0<=b->b<=1152921504606846976->C (a,b)=.ok (Int.gcd a b:Int)
theorem zVU{E:zfM}(N:Big E.N):zbo (zsm E):=λa b ha hb hk=>ae.ext λk=>by
 rw[e209,aY];refine Yf (X:=λn a b=>Uu E n a b k) (λn a b h1 h2=>?_) 61 _ a b ha hb omY (by have:=N;omega);rw[zAQ];by_cases h:b=0;subst h;rfl;rw[dC (show b>0 by omega),dO,bu h,fH h]
theorem zVV{E:zfx}(N:Big E.N):zbo (zqM E):=λa b ha hb hk=>ae.ext λk=>by
 rw[e125,aY];refine Yf (X:=λn a b=>Ug E n a b k) (λn a b h1 h2=>?_) 61 _ a b ha hb omY (by have:=N;omega);rw[zAh];by_cases h:b=0;subst h;rfl;rw[show(b != 0)=true by simpa using h,dO,bu h,fH h]
abbrev Oe(C:Int×Int->ae aP):Prop:=∀a b,-1000000000000000000<=a->a<=1000000000000000000->0<b->b<=1000000000000000000->C (a,b)=.ok (red a b)
theorem zwd{num den:Int}(h1 : -1000000000000000000≤num)(h2:num≤1000000000000000000)(hd:0<den)(hd2:den≤1000000000000000000){A:Type}(k:aP→Option A) :
  aV (decide ((Int.gcd num den:Int)≠0)) (aV (decide ((Int.gcd num den:Int)≠0)) (k ⟨aJ (num.tdiv (Int.gcd num den:Int)),aJ (den.tdiv (Int.gcd num den:Int))⟩))=k (red num den):=by
 have hg:=lT (num:=num) hd;have r1:=Af (num:=num) hd;have r2:=Ha (num:=num) hd;have r3:=jH (num:=num) hd;have w1:aJ (num.tdiv (Int.gcd num den:Int))=(red num den).Num:=aW (by show _<=(red num den).Num;omega) (by show(red num den).Num<=_;omega);have w2:aJ (den.tdiv (Int.gcd num den:Int))=(red num den).bQ:=aW (by show _<=(red num den).bQ;omega) (by show(red num den).bQ<=_;omega);rw[w1,w2,bu omY,bu omY]
theorem zVW{E:zrJ}(zAC:zbo E.zuy):Oe (zrK E):=λa b h1 h2 hd hd2=>ae.ext λk=>by
 rw[zUN,show aJ (0-a) = -a by rw[aW omY omY];omega,zk9,zAC _ _ omY omY omY,zdm,aY,aY];exact zwd h1 h2 hd hd2 k
theorem s71{E:E71}(za2:zbo E.Ve):Oe (F71 E):=λa b h1 h2 hd hd2=>ae.ext λk=>by
 rw[e71,show aJ (0-a) = -a by rw[aW omY omY];omega,zk9,za2 _ _ omY omY omY,zdm,aY,aY];exact zwd h1 h2 hd hd2 k
theorem zVX{E:zrn}:BV (zro E):=λx a b=>ae.ext λk=>by rw[zUx,kc k,aY];congr 1;simp only[inB];grind
def IM(g:au):Bool:=inB g.Z 0 100000&&(decide (g.Low >= -1000000)&&(decide (g.Low<=g.High)&&decide (g.High<=1000000)))
def ik(g:au):Prop:=(0<=g.Z/\g.Z<=100000)/\-1000000<=g.Low/\g.Low<=g.High/\g.High<=1000000
def bU(l:Sl au):Prop:=(∀i,i<l.len->ik (l.get i))/\1<=l.len/\l.len<=24
theorem zla{g:au}:IM g=true↔ik g:=by
 simp only[IM,inB,gq,lQ,ik,ge_iff_le]
def Ci(a b:au):List straight:=if a.Z=b.Z then []else [FP a.Z a.Low b.Z b.Low,FP a.Z a.Low b.Z b.High,FP a.Z a.High b.Z b.Low,FP a.Z a.High b.Z b.High]
def EN(g:Sl au)(i:Nat):Nat→Nat→List straight|0,_=>[]|m+1,k=>Ci (g.get i) (g.get k)++EN g i m (k+1)
def Py(g:Sl au):Nat→Nat→List straight|0,_=>[]|m+1,i=>EN g i (g.len-(i+1)) (i+1)++Py g m (i+1)
def cst(g:Sl au):List straight:=Py g g.len 0
theorem qN{g:au}(h:ik g) : -1000000<=g.Low/\g.Low<=1000000:=⟨h.2.1,by have:=h.2;omega⟩
theorem sF{g:au}(h:ik g) : -1000000<=g.High/\g.High<=1000000:=⟨by have:=h.2;omega,h.2.2.2⟩
abbrev zA3(C:Int×Int×Int×Int->ae straight):Prop:=∀z p y q,(0<=z/\z<=100000)->(0<=y/\y<=100000)->(-1000000<=p/\p<=1000000)->(-1000000<=q/\q<=1000000)->C (z,p,y,q)=.ok (FP z p y q)
theorem zVY{E:zsA}:zA3 (zsB E):=λz p y q hz hy hp hq=>ae.ext λk=>by
 have b1:=qX hp.1 hp.2 hy.1 hy.2;have b2:=qX hq.1 hq.2 hz.1 hz.2;rw[e229,aY,aW (x:=p*y) omY omY,aW (x:=q*z) omY omY];unfold FP;by_cases h:z>y;rw[dC h,dO,eY h,aW (x:=p-q) omY omY,aW (x:=z-y) omY omY,aW (x:=q*z-p*y) omY omY];rw[dR h,dN,fH h,aW (x:=q-p) omY omY,aW (x:=y-z) omY omY,aW (x:=p*y-q*z) omY omY]
abbrev zA4(I:Pt list->ae (List straight)):Prop:=∀l:Pt list,bU l.v.bP->I l=.ok (cst l.v.bP)
theorem zVZ{E:X7}(N:Big E.N)(zfN:zA3 E.c229):zA4 (zAW E):=λl G=>by
 have hl:=G.2.2;refine Ec ?_ (λ_=>rfl) (λ_=>rfl);rw[e228]
 have inn:∀(n i:Nat)(R:List (List PA))(sl:Sl au),i<l.v.bP.len->sl.len=l.v.bP.len-(i+1)->(∀x,sl.get x=l.v.bP.get (x+(i+1)))->N8 E n l (aJ ((i:Int)+1))=some R ->
   ∀(m j n1:Nat),j+m=sl.len->m<n1->N9 E n n1 l (i:Int) sl (sl.len:Int) (j:Int) (l.v.bP.get i)=some ((EN l.v.bP i m (j+(i+1))).map dF.enc++R):=by
  intro n i R sl hi hs hg hR m
  induction m with
  | zero =>
   intro j n1 hj hn;obtain⟨n1,rfl⟩:∃n',n1=n'+1:=⟨n1-1,omY⟩;rw[zkZ,dR omY,dN,hR];rfl
  | succ m ih =>
   intro j n1 hj hn;obtain⟨n1,rfl⟩:∃n',n1=n'+1:=⟨n1-1,omY⟩;have gi:=G.1 i hi;have gk:=G.1 (j+(i+1)) omY;have i1:=ih (j+1) n1 omY omY;rw[zkZ,dC omY,dO,bu omY,bD omY,i1,gm,hg];show _=some (List.map dF.enc (Ci (l.v.bP.get i) (l.v.bP.get (j+(i+1)))++EN l.v.bP i m (j+(i+1)+1))++R);unfold Ci;by_cases hz:(l.v.bP.get i).Z=(l.v.bP.get (j+(i+1))).Z;rw[eY hz,show((l.v.bP.get i).Z==(l.v.bP.get (j+(i+1))).Z)=true by simpa using hz,dO,show j+1+(i+1)=j+(i+1)+1 by omega];rfl
   rw[fH hz,show((l.v.bP.get i).Z==(l.v.bP.get (j+(i+1))).Z)=false by simpa using hz,dN,zfN _ _ _ _ gi.1 gk.1 (qN gi) (qN gk),zfN _ _ _ _ gi.1 gk.1 (qN gi) (sF gk),zfN _ _ _ _ gi.1 gk.1 (sF gi) (qN gk),zfN _ _ _ _ gi.1 gk.1 (sF gi) (sF gk),aY,aY,aY,aY,
    show j+1+(i+1)=j+(i+1)+1 by omega];rfl
 have key:∀(m i n:Nat),i+m=l.v.bP.len->m<n->N8 E n l (i:Int)=some ((Py l.v.bP m i).map dF.enc):=by
  intro m
  induction m with
  | zero =>
   intro i n hi hn;obtain⟨n,rfl⟩:∃n',n=n'+1:=⟨n-1,omY⟩;rw[zkY,dR omY];rfl
  | succ m ih =>
   intro i n hi hn;obtain⟨n,rfl⟩:∃n',n=n'+1:=⟨n-1,omY⟩;have i1:=ih (i+1) n omY omY;rw[zkY,dC omY,dO,bu omY,bD omY,bu omY,gm];have hs:((l.v.bP.len:Int)-((i+1:Nat):Int)).toNat=l.v.bP.len-(i+1):=by omega
   have:=inn n i _ ⟨((l.v.bP.len:Int)-((i+1:Nat):Int)).toNat,uY l.v.bP.get (((i+1:Nat):Int)).toNat⟩ omY hs (λx=>by show l.v.bP.get (x+(((i+1:Nat):Int)).toNat)=_;rw[gm]) (by rw[bD omY];exact i1) (l.v.bP.len-(i+1)) 0 E.N (by show 0+(l.v.bP.len-(i+1))=((l.v.bP.len:Int)-((i+1:Nat):Int)).toNat;omega) (by have:=N;omega);rw[O3]at this;refine this.trans ?_;show _=some (((EN l.v.bP i (l.v.bP.len-(i+1)) (i+1))++Py l.v.bP m (i+1)).map dF.enc);rw[PU]
 exact key l.v.bP.len 0 E.N omY (by have:=N;omega)
abbrev zA5(C:au->ae Bool):Prop:=∀g,C g=.ok (IM g)
theorem zV1{E:zrl}(BZ:BV E.c157):zA5 (zrm E):=λg=>ae.ext λk=>by
 rw[zUv,BZ,aY,aY];unfold IM;cases inB g.Z 0 100000<;>cases decide (g.Low >= -1000000)<;>cases decide (g.Low<=g.High)<;>rfl
def xN(l:Sl au):Bool:=fA (λi=>IM (l.get i)) l.len&&inB (l.len:Int) 1 24
theorem kE{l:Sl au}:xN l=true↔bU l:=by
 simp only[xN,gq,dm,inB,lQ,zla,bU];exact and_congr VH omY
abbrev zlb(C:Sl au->ae Bool):Prop:=∀l:Sl au,l.len<=1000->C l=.ok (xN l)
theorem zV2{E:zfv}(N:Big E.N)(zz8:zA5 E.c156)(BZ:BV E.c157):zlb (zqy E):=λl hl=>ae.ext λk=>by
 rw[e109,aY,loopA (L:=λn i=>Uc E n l i k) (p:=λi=>IM (l.get i)) (m:=l.len) (fin:=k (inB (l.len:Int) 1 24)) (stop:=k false) omY (λn i hi=>?_) (λn=>?_) _ (by have:=N;omega)];unfold xN;cases fA (λi=>IM (l.get i)) l.len<;>rfl;rw [zj4,dC omY,dO,bu omY,zz8,aY,gm];cases IM (l.get i)<;>rfl;rw[zj4,dR omY,dN,BZ,aY]
/-! The first one of a list that is as wanted. -/
def fst(p:Nat→Bool):Nat→Nat→Int|0,_=>-1|m+1,i=>cond (p i) (i:Int) (fst p m (i+1))
theorem zdo(p:Nat->Bool):∀m i,(0<=fst p m i↔∃j,i<=j/\j<i+m/\p j=true):=by
 intro m
 induction m with
 | zero=>intro i;exact⟨λh=>by simp[fst]at h,λ⟨j,h1,h2,_⟩=>by omega⟩
 | succ m ih =>
  intro i;simp only[fst];cases h:p i with
  | true=>exact⟨λ_=>⟨i,kD _,omY,h⟩,λ_=>by simp⟩
  | false =>
   rw[dN,ih];exact⟨λ⟨j,h1,h2,h3⟩=>⟨j,omY,omY,h3⟩,λ⟨j,h1,h2,h3⟩=>⟨j,by
    have:j≠i:=λe=>by rw[e,h]at h3;cases h3
    omega,omY,h3⟩⟩
theorem xO(p:Nat->Bool)(m:Nat):decide (fst p m 0>=0) = !fA (λi=>!p i) m:=by
 rw[VG];simp only[lQ,ge_iff_le,zdo,H6,<- qjr,dm];constructor;rintro⟨j,_,h2,h3⟩ h;have:=h j omY;rw[h3]at this;exact absurd rfl this;intro h;apply qdA;intro hc;exact h λi hi hp=>hc ⟨i,ui _,omY,hp⟩
theorem IP{A:Type}{L:Nat→Int→Option A}{p:Nat→Bool}{m:Nat}{k:Int→Option A}(hm:m<4611686018427387904)
    (hL:∀n i,i<m->L (n+1) (i:Int)=cond (p i) (k (i:Int)) (L n (aJ ((i:Int)+1)))) (hE:∀n,L (n+1) (m:Int)=k (-1)):∀n,m<n->L n 0=k (fst p m 0):=by
  have key:∀(d i n:Nat),i+d=m->d<n->L n (i:Int)=k (fst p d i):=by
    intro d
    induction d with
    | zero =>
      intro i n hi hn;obtain⟨n,rfl⟩:∃n',n=n'+1:=⟨n-1,omY⟩;have e:i=m:=by omega
      subst e;exact hE n
    | succ d ih =>
      intro i n hi hn;obtain⟨n,rfl⟩:∃n',n=n'+1:=⟨n-1,omY⟩;rw[hL n i omY,bD omY,ih (i+1) n omY omY];simp only[fst];cases p i<;>rfl
  intro n hn;exact key m 0 n omY hn
end Go.Proofs
