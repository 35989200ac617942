/- Part 5 of what the proof rests on: a machine that runs functions of the program on pure values, proved sound; the functions that the law reaches, and what they compute. -/
import Derived.Test.YtldchibepobgnaaDoorQ4
import Derived.Test.YtldchibepobgnaaDoorTie
import Derived.ProofKit
import Derived.LaidMore
import Derived.OpenShut
import Derived.Stop.Joined
import Derived.Test.YtldchibepobgnaaDoorCards
import Derived.WalkKit
set_option linter.all false
namespace Go.Proofs
open Go Go.Pm
set_option maxRecDepth 100000
set_option linter.unusedVariables false
attribute [local irreducible] Go.Pm.vcFun Go.Pm.vc Go.Pm.vcIter
abbrev T72:Tabs:=(Tabs.nil.addF 95 zH5)
theorem zQJ:TabsOk Tryd.prog T72:=(TabsOk.nil.addF zTX)
abbrev G72:Ctrs:=csm T72 (λ _ _=>[]) (λ _=>false)
def zMS:Ann:=⟨19,[(0,zK [0,1,4] [4]),(1,zK [0,1,4,5] [4]),(2,zK [4] [4])],
 [],
 [],
 [],[]⟩
abbrev R72:=Frac
abbrev e72 (r:R72):List PA:=[.agg [.int .i64 r.Num,.int .i64 r.Den]]
section
variable {K:List PA->Prop}{num:Int}{den:Int}
def s72 (num:Int) (den:Int):Frac :=
  (⟨(w64 (num.tdiv (s95 (if (w64 (0 - num)) > num then (w64 (0 - num)) else num) den))),(w64 (den.tdiv (s95 (if (w64 (0 - num)) > num then (w64 (0 - num)) else num) den)))⟩:Frac)
def p72 (num:Int) (den:Int):Bool :=
  (decide ((p95 (if (w64 (0 - num)) > num then (w64 (0 - num)) else num) den=true)) &&
 (decide (((s95 (if (w64 (0 - num)) > num then (w64 (0 - num)) else num) den) ≠ 0)) &&
 (decide (((s95 (if (w64 (0 - num)) > num then (w64 (0 - num)) else num) den) ≠ 0)) &&
 true)))
end
theorem q72 (num:Int) (den:Int) (K:List PA->Prop) (hs:p72 num den=true) (hk:K (e72 (s72 num den))):vcFun Tryd.prog G72 zMS 72 [.one (.int .i64 num),.one (.int .i64 den)] K :=
  zaE (by kernel_rfl) (zaJ hs λ hc hs=>And.intro hc (zaJ hs λ hc hs=>And.intro hc (zaJ hs λ hc hs=>And.intro hc hk)))
def zzV : List PA → COut
  | [.one (.int .i64 a0),.one (.int .i64 a1)]=>.det (p72 a0 a1=true) [.agg [.int .i64 ((s72 a0 a1).Num),.int .i64 ((s72 a0 a1).Den)]]
  | _=>.no
theorem zMT:zac Tryd.prog 72:=⟨_,rfl,rfl,by kernel_rfl⟩
theorem zQK:Ok Tryd.prog 72 zzV:=zau zQJ zMT λ args K h=>by
  unfold zzV at h
  split at h
  · rename_i a0 a1
    obtain⟨hs,hk⟩:=h
    exact⟨(λ _ _=>[]),(λ _=>false),zMS,q72 a0 a1 K hs hk⟩
  · exact h.elim
abbrev T91:Tabs:=(Tabs.nil.addF 72 zzV)
theorem zQL:TabsOk Tryd.prog T91:=(TabsOk.nil.addF zQK)
abbrev G91:Ctrs:=csm T91 (λ _ _=>[]) (λ _=>false)
def zMU:Ann:=⟨14,[(0,zK [1,2] [1,2]),(1,zK [2] [2])],
 [],
 [],
 [],[]⟩
abbrev R91:=Line
abbrev e91 (r:R91):List PA:=[.agg [.int .i64 r.Slope.Num,.int .i64 r.Slope.Den,.int .i64 r.Start.Num,.int .i64 r.Start.Den]]
section
variable {K:List PA->Prop}{s:straight}
def s91 (s:straight):Line :=
  (⟨(s72 s.slope s.den),(s72 s.start s.den)⟩:Line)
def p91 (s:straight):Bool :=
  (decide ((p72 s.slope s.den=true)) &&
 (decide ((p72 s.start s.den=true)) &&
 true))
end
theorem q91 (s:straight) (K:List PA->Prop) (hs:p91 s=true) (hk:K (e91 (s91 s))):vcFun Tryd.prog G91 zMU 91 [.agg (zaS s)] K :=
  zaE (by kernel_rfl) (zaJ hs λ hc hs=>And.intro hc (zaJ hs λ hc hs=>And.intro hc hk))
def zH6 : List PA → COut
  | [.agg [.int .i64 zb0,.int .i64 zb1,.int .i64 zdm]]=>.det (p91 (⟨zb0,zb1,zdm⟩:straight)=true) [.agg [.int .i64 ((s91 (⟨zb0,zb1,zdm⟩:straight)).Slope.Num),.int .i64 ((s91 (⟨zb0,zb1,zdm⟩:straight)).Slope.Den),.int .i64 ((s91 (⟨zb0,zb1,zdm⟩:straight)).Start.Num),.int .i64 ((s91 (⟨zb0,zb1,zdm⟩:straight)).Start.Den)]]
  | _=>.no
theorem zMV:zac Tryd.prog 91:=⟨_,rfl,rfl,by kernel_rfl⟩
theorem zTY:Ok Tryd.prog 91 zH6:=zau zQL zMV λ args K h=>by
  unfold zH6 at h
  split at h
  · rename_i zb0 zb1 zdm
    obtain⟨hs,hk⟩:=h
    exact⟨(λ _ _=>[]),(λ _=>false),zMU,q91 (⟨zb0,zb1,zdm⟩:straight) K hs hk⟩
  · exact h.elim
abbrev T92:Tabs:=(Tabs.nil.addF 93 zCZ)
theorem zQM:TabsOk Tryd.prog T92:=(TabsOk.nil.addF zRY)
abbrev G92:Ctrs:=csm T92 (λ _ _=>[]) (λ _=>false)
def zH7:Ann:=⟨11,[(0,zK [2,3] [2,3]),(1,zK [4] [])],
 [],
 [],
 [],[]⟩
abbrev R92:=Bool
abbrev e92 (r:R92):List PA:=[.one (.bool r)]
section
variable {K:List PA->Prop}{s:set}{x:straight}
def s92 (s:set) (x:straight):Bool :=
  (!(zOR x s.list.Gates))
def p92 (s:set) (x:straight):Bool :=
  (decide ((zOS x s.list.Gates=true)) &&
 true)
end
theorem q92 (s:set) (x:straight) (K:List PA->Prop) (hs:p92 s x=true) (hk:K (e92 (s92 s x))):vcFun Tryd.prog G92 zH7 92 [.agg (znn s),.agg (zaS x)] K :=
  zaE (by kernel_rfl) (zaJ hs λ hc hs=>And.intro (And.intro (zE zad 3 s.list.Gates.get) hc) hk)
def zH8 : List PA → COut
  | [.agg [.sl zah za1 zai,.sl zaC zb8 zaD],.agg [.int .i64 zef,.int .i64 zeg,.int .i64 zic]]=>.det (IsE zad 3 za1 zai/\IsE zaS 3 zb8 zaD/\p92 (⟨(⟨(⟨zah,zaj zai⟩:(Sl Gate))⟩:list),(⟨zaC,zcR zaD⟩:(Sl straight))⟩:set) (⟨zef,zeg,zic⟩:straight)=true) [.one (.bool (s92 (⟨(⟨(⟨zah,zaj zai⟩:(Sl Gate))⟩:list),(⟨zaC,zcR zaD⟩:(Sl straight))⟩:set) (⟨zef,zeg,zic⟩:straight)))]
  | [.agg [.sl zah za1 zai,.nils],.agg [.int .i64 zef,.int .i64 zeg,.int .i64 zic]]=>.det (IsE zad 3 za1 zai/\p92 (⟨(⟨(⟨zah,zaj zai⟩:(Sl Gate))⟩:list),(⟨0,λ _=>default⟩:(Sl straight))⟩:set) (⟨zef,zeg,zic⟩:straight)=true) [.one (.bool (s92 (⟨(⟨(⟨zah,zaj zai⟩:(Sl Gate))⟩:list),(⟨0,λ _=>default⟩:(Sl straight))⟩:set) (⟨zef,zeg,zic⟩:straight)))]
  | _=>.no
theorem zMW:zac Tryd.prog 92:=⟨_,rfl,rfl,by kernel_rfl⟩
theorem zTZ:Ok Tryd.prog 92 zH8:=zhl zQM zMW λ args K h=>by
  unfold zH8 at h
  split at h
  · rename_i zah za1 zai zaC zb8 zaD zef zeg zic
    obtain⟨⟨⟨rfl,zaB,rfl⟩,⟨rfl,zbw,rfl⟩,hs⟩,hk⟩:=h
    try rw[zae zaB] at hs
    try rw[zae zaB] at hk
    try rw[zcN zbw] at hs
    try rw[zcN zbw] at hk
    exact⟨_,zg8 zfW _,(λ _ _=>[]),(λ _=>false),zH7,q92 (⟨(⟨(⟨zah,zaB⟩:(Sl Gate))⟩:list),(⟨zaC,zbw⟩:(Sl straight))⟩:set) (⟨zef,zeg,zic⟩:straight) (Wk K) hs (zfX hk)⟩
  · rename_i zah za1 zai zef zeg zic
    obtain⟨⟨⟨rfl,zaB,rfl⟩,hs⟩,hk⟩:=h
    try rw[zae zaB] at hs
    try rw[zae zaB] at hk
    exact⟨_,(ze4 (.agg (ze4 (.rfl _) (ze4 (.nil _ _) zka))) (ze4 (zfW _) zka)),(λ _ _=>[]),(λ _=>false),zH7,q92 (⟨(⟨(⟨zah,zaB⟩:(Sl Gate))⟩:list),(⟨0,λ _=>default⟩:(Sl straight))⟩:set) (⟨zef,zeg,zic⟩:straight) (Wk K) hs (zfX hk)⟩
  · exact h.elim
abbrev zRZ:Tabs:=Tabs.nil
theorem zMX:TabsOk Tryd.prog zRZ:=TabsOk.nil
abbrev zR0:Ctrs:=csm zRZ (λ _ _=>[]) (λ _=>false)
def zzW:Ann:=⟨30,[(0,zK [0,1,2,3,8] [8]),(1,zK [0,1,2,3,8,11] [8]),(2,zK [0,1,2,3,8] [8]),(3,zK [8] [8])],
 [],
 [(3,zK [0,1,2,3,8] [8])],
 [],[]⟩
abbrev zT0:=straight
abbrev e117 (r:zT0):List PA:=[.agg [.int .i64 r.slope,.int .i64 r.start,.int .i64 r.den]]
@[irreducible] def z117:=ptF Tryd.prog zR0 zzW Tryd.f117
section
variable {K:List PA->Prop}{z:Int}{p:Int}{y_a2:Int}{q:Int}{zv0:Int}{pv0:Int}{yv0:Int}{qv0:Int}
def zkk (zv0:Int) (pv0:Int) (yv0:Int) (qv0:Int):straight :=
  (⟨(w64 (qv0 - pv0)),(w64 ((w64 (pv0 * yv0)) - (w64 (qv0 * zv0)))),(w64 (yv0 - zv0))⟩:straight)
theorem zuN (hk:K (e117 (zkk zv0 pv0 yv0 qv0))):z117 K [1,1] [] ⟨[(0,zI zv0),(1,zI pv0),(2,zI yv0),(3,zI qv0),(8,zp 8 0)],[(8,.box 164 (zm (zaS (⟨(0:Int),(0:Int),(0:Int)⟩:straight))))],[]⟩:=zaE (by kernel_rfl) hk
def zlK (z:Int) (p:Int) (y_a2:Int) (q:Int):straight :=
  (cond (decide (z > y_a2))
 (zkk y_a2 q z p)
 (zkk z p y_a2 q))
end
theorem zT1 (z:Int) (p:Int) (y_a2:Int) (q:Int) (K:List PA->Prop) (hk:K (e117 (zlK z p y_a2 q))):vcFun Tryd.prog zR0 zzW 117 [.one (.int .i64 z),.one (.int .i64 p),.one (.int .i64 y_a2),.one (.int .i64 q)] K :=
  zaE (by kernel_rfl) (zt hk (λ hk=>(zuN hk)) (λ hk=>(zuN hk)))
def zzX : List PA → COut
  | [.one (.int .i64 a0),.one (.int .i64 a1),.one (.int .i64 a2),.one (.int .i64 a3)]=>.tot [.agg [.int .i64 ((zlK a0 a1 a2 a3).slope),.int .i64 ((zlK a0 a1 a2 a3).start),.int .i64 ((zlK a0 a1 a2 a3).den)]]
  | _=>.no
theorem zH9:zac Tryd.prog 117:=⟨_,rfl,rfl,by kernel_rfl⟩
theorem zQN:Ok Tryd.prog 117 zzX:=zau zMX zH9 λ args K h=>by
  unfold zzX at h
  split at h
  · rename_i a0 a1 a2 a3
    have hk:=h
    exact⟨(λ _ _=>[]),(λ _=>false),zzW,zT1 a0 a1 a2 a3 K hk⟩
  · exact h.elim
abbrev zR1:Tabs:=(Tabs.nil.addF 117 zzX)
theorem zMY:TabsOk Tryd.prog zR1:=(TabsOk.nil.addF zQN)
abbrev zzY:Ctrs:=csm zR1 (λ _ _=>[]) (λ _=>false)
def zcV:Ann:=⟨64,[(0,zK [0,1,12,13,14] []),(1,zK [0,1,12,13,14,15] []),(2,zK [0,1,3,4,12,13,14] [4]),(3,zK [0,1,4,12,13,14,23,24,25] [4]),(4,zK [0,1,4,12,13,14,23,24,25,26] [4]),(5,zK [0,1,4,6,12,13,14,23,24,25] [4,6]),(6,zK [0,1,4,6,12,13,14,23,24,25,33] [4,6]),(7,zK [0,1,4,6,12,13,14,23,24,25,38,39] [4,6]),(8,zK [0,1,4,6,12,13,14,23,24,25,38,39,40] [4,6]),(9,zK [0,1,4,6,8,12,13,14,23,24,25,38,39] [4,6]),(10,zK [0,1,4,6,8,12,13,14,23,24,25,38,39,46,47] [4,6]),(11,zK [0,1,4,6,8,12,13,14,23,24,25,38,39,46,47,48] [4,6]),(12,zK [0,1,4,6,8,10,12,13,14,23,24,25,38,39,46,47] [4,6]),(13,zK [0,1,4,6,8,12,13,14,23,24,25,38,39,46,47,59] [4,6]),(14,zK [0,1,4,6,8,12,13,14,23,24,25,38,39,46,47] [4,6]),(15,zK [0,1,4,6,12,13,14,23,24,25,38,39] [4,6]),(16,zK [0,1,4,12,13,14,23,24,25] [4]),(17,zK [0,1,12,13,14] [])],
 [(1,zK [0,1,12,13,14] []),(4,⟨[0,1,4,12,13,14,23,24,25],[4],[],[],[],[4],[]⟩)],
 [],
 [(8,3,zK [0,1,4,6,12,13,14,23,24,25,38,39] [4,6]),(11,3,zK [0,1,4,6,8,12,13,14,23,24,25,38,39,46,47] [4,6])],[13]⟩
def zgm (l:Nat) (a:list) (zak:Int):St:=⟨[(0,.one (.c (.p (.yl l)))),(1,.one (.c (.p (.fp (zdi a) 0)))),(12,.one (.c (.p (.sl a.Gates.len 3 (λ i=>zad (a.Gates.get i)))))),(13,.one (.c (.p (.int .i64 (a.Gates.len:Int))))),(14,.one (.c (.p (.int .i64 zak))))],[],[]⟩
def zid (l:Nat) (ys:List (List PA)) (a:list) (zak:Int):Prop:=vcY Tryd.prog zzY zcV l (cdF Tryd.f116 [1,0]) (zc2 0 zgY) ys false (zgm l a zak)
def zgn (l:Nat) (a:list) (zbA:Int) (zgo:Nat) (zcZ:Nat->List PV) (zcd:Int) (za3:Int) (zbI:Int) (zb2:Int) (zb3:Int):St:=⟨[(0,.one (.c (.p (.yl l)))),(1,.one (.c (.p (.fp (zdi a) 0)))),(4,.one (.c (.ptr 4 0))),(12,.one (.c (.p (.sl a.Gates.len 3 (λ i=>zad (a.Gates.get i)))))),(13,.one (.c (.p (.int .i64 (a.Gates.len:Int))))),(14,.one (.c (.p (.int .i64 zbA)))),(23,.one (.c (.p (.sl zgo 3 zcZ)))),(24,.one (.c (.p (.int .i64 zcd)))),(25,.one (.c (.p (.int .i64 za3))))],[(4,.fbox [.int .i64 zbI,.int .i64 zb2,.int .i64 zb3])],[]⟩
def zie (l:Nat) (X0:List (List PA)->Bool->St->Prop) (ys:List (List PA)) (a:list) (zbA:Int) (zgo:Nat) (zcZ:Nat->List PV) (zcd:Int) (za3:Int) (zbI:Int) (zb2:Int) (zb3:Int):Prop:=vcY Tryd.prog zzY zcV l (cdF Tryd.f116 [1,0,0,1,1,0,0,1,1,0]) (zc2 2 (zc2 1 (zKu (zKw Tryd.prog zcV 17 (vcY Tryd.prog zzY zcV l (cdF Tryd.f116 [1,0,0,1,1,1]) (zgX Tryd.prog zcV 1 X0 (zc2 0 zgY)))) (zgX Tryd.prog zcV 1 X0 (zc2 0 zgY))))) ys false (zgn l a zbA zgo zcZ zcd za3 zbI zb2 zb3)
theorem zC0 (l : Nat) (a : list) (ys : List (List PA)) :
  vcIter Tryd.prog zzY zcV 116 l [.one (.fp (zdi a) 0)] ys =
  (zid l ys a (0:Int)):=by kernel_rfl
def zmo (l:Nat) (X0:List (List PA)->Bool->St->Prop) (ys:List (List PA)) (a:list) (zak:Int):Prop :=
  (zdK (decide (zak < (a.Gates.len : Int)))
 (((0<=zak/\zak < (a.Gates.len:Int))) /\
 (((0<=(w64 (zak+(1:Int)))/\(w64 (zak+(1:Int)))<=(a.Gates.len:Int)/\(a.Gates.len:Int)<=(a.Gates.len:Int))) /\
 (zie l  X0 ys a zak (((a.Gates.len:Int) - (w64 (zak+(1:Int)))).toNat) (slG (λ i=>zad (a.Gates.get i)) ((w64 (zak+(1:Int))).toNat)) (((a.Gates.len:Int) - (w64 (zak+(1:Int)))).toNat:Int) (0:Int) ((a.Gates.get zak.toNat).Z) ((a.Gates.get zak.toNat).Low) ((a.Gates.get zak.toNat).High))))
 (ys=[]))
theorem zpY (l : Nat) (X0 : List (List PA) → Bool → St → Prop) (ys : List (List PA)) (a : list) (zak : Int) :
  vcY Tryd.prog zzY zcV l (cd (cdF Tryd.f116 [1,0]) [0]) (zgX Tryd.prog zcV 1 X0 (zc2 0 zgY)) ys false (zgm l a zak) =
  zmo l X0 ys a zak:=by kernel_rfl
theorem zv3 (l : Nat) (ys : List (List PA)) (a : list) (zak : Int)
  (h:∀ X0:List (List PA)->Bool->St->Prop,(∀ (ys:List (List PA)) (zak:Int),zmo l X0 ys a zak->X0 ys false (zgm l a zak))->X0 ys false (zgm l a zak)) :
  zid l ys a zak:=by
  have e:zid l ys a zak=(∀ X:List (List PA)->Bool->St->Prop,(∀ ys q s,vcY Tryd.prog zzY zcV l (cd (cdF Tryd.f116 [1,0]) [0]) (zgX Tryd.prog zcV 1 X (zc2 0 zgY)) ys q s->X ys q s)->X ys false (zgm l a zak)):=by kernel_rfl
  refine zaE e ?_
  intro X hX
  refine h X ?_
  intro ys zak hs
  refine hX _ _ _ ?_
  have e2:=zpY l X ys a zak
  rw[e2]
  exact hs
def zmp (l:Nat) (X0:List (List PA)->Bool->St->Prop) (X1:List (List PA)->Bool->St->Prop) (ys:List (List PA)) (a:list) (zbA:Int) (zaY:(Sl Gate)) (zcd:Int) (za3:Int) (zbI:Int) (zb2:Int) (zb3:Int):Prop :=
  (zdK (decide (za3 < zcd))
 (((0<=za3/\za3 < (zaY.len:Int))) /\
 (zdK (zbI == (zaY.get za3.toNat).Z)
 (X1 ys false (zgn l a zbA zaY.len (λ i=>zad (zaY.get i)) zcd (w64 (za3+(1:Int))) zbI zb2 zb3))
 (l=l/\∃ r1,ys=[.agg [.int .i64 ((zlK zbI zb2 ((zaY.get za3.toNat).Z) ((zaY.get za3.toNat).Low)).slope),.int .i64 ((zlK zbI zb2 ((zaY.get za3.toNat).Z) ((zaY.get za3.toNat).Low)).start),.int .i64 ((zlK zbI zb2 ((zaY.get za3.toNat).Z) ((zaY.get za3.toNat).Low)).den)]] :: r1 /\
 (l=l/\∃ r2,r1=[.agg [.int .i64 ((zlK zbI zb2 ((zaY.get za3.toNat).Z) ((zaY.get za3.toNat).High)).slope),.int .i64 ((zlK zbI zb2 ((zaY.get za3.toNat).Z) ((zaY.get za3.toNat).High)).start),.int .i64 ((zlK zbI zb2 ((zaY.get za3.toNat).Z) ((zaY.get za3.toNat).High)).den)]] :: r2 /\
 (l=l/\∃ r3,r2=[.agg [.int .i64 ((zlK zbI zb3 ((zaY.get za3.toNat).Z) ((zaY.get za3.toNat).Low)).slope),.int .i64 ((zlK zbI zb3 ((zaY.get za3.toNat).Z) ((zaY.get za3.toNat).Low)).start),.int .i64 ((zlK zbI zb3 ((zaY.get za3.toNat).Z) ((zaY.get za3.toNat).Low)).den)]] :: r3 /\
 (l=l/\∃ r4,r3=[.agg [.int .i64 ((zlK zbI zb3 ((zaY.get za3.toNat).Z) ((zaY.get za3.toNat).High)).slope),.int .i64 ((zlK zbI zb3 ((zaY.get za3.toNat).Z) ((zaY.get za3.toNat).High)).start),.int .i64 ((zlK zbI zb3 ((zaY.get za3.toNat).Z) ((zaY.get za3.toNat).High)).den)]] :: r4 /\
 (X1 r4 false (zgn l a zbA zaY.len (λ i=>zad (zaY.get i)) zcd (w64 (za3+(1:Int))) zbI zb2 zb3))/\True)/\True)/\True)/\True)))
 (X0 ys false (zgm l a (w64 (zbA+(1:Int))))))
theorem zpZ (l : Nat) (X0 : List (List PA) → Bool → St → Prop) (X1 : List (List PA) → Bool → St → Prop) (ys : List (List PA)) (a : list) (zbA : Int) (zaY : (Sl Gate)) (zcd : Int) (za3 : Int) (zbI : Int) (zb2 : Int) (zb3 : Int) :
  vcY Tryd.prog zzY zcV l (cd (cdF Tryd.f116 [1,0,0,1,1,0,0,1,1,0]) [0]) (zgX Tryd.prog zcV 4 X1 (zc2 2 (zc2 1 (zKu (zKw Tryd.prog zcV 17 (vcY Tryd.prog zzY zcV l (cdF Tryd.f116 [1,0,0,1,1,1]) (zgX Tryd.prog zcV 1 X0 (zc2 0 zgY)))) (zgX Tryd.prog zcV 1 X0 (zc2 0 zgY)))))) ys false (zgn l a zbA zaY.len (λ i=>zad (zaY.get i)) zcd za3 zbI zb2 zb3) =
  zmp l  X0 X1 ys a zbA zaY zcd za3 zbI zb2 zb3:=by kernel_rfl
theorem zv4 (l : Nat) (X0 : List (List PA) → Bool → St → Prop) (ys : List (List PA)) (a : list) (zbA : Int) (zgo : Nat) (zcZ : Nat → List PV) (zcd : Int) (za3 : Int) (zbI : Int) (zb2 : Int) (zb3 : Int)
  (h:∀ X1:List (List PA)->Bool->St->Prop,(∀ (ys:List (List PA)) (zbA:Int) (zaY:(Sl Gate)) (zcd:Int) (za3:Int) (zbI:Int) (zb2:Int) (zb3:Int),zmp l  X0 X1 ys a zbA zaY zcd za3 zbI zb2 zb3->X1 ys false (zgn l a zbA zaY.len (λ i=>zad (zaY.get i)) zcd za3 zbI zb2 zb3))->X1 ys false (zgn l a zbA zgo zcZ zcd za3 zbI zb2 zb3)) :
  zie l  X0 ys a zbA zgo zcZ zcd za3 zbI zb2 zb3:=by
  have e:zie l  X0 ys a zbA zgo zcZ zcd za3 zbI zb2 zb3=(∀ X:List (List PA)->Bool->St->Prop,(∀ ys q s,vcY Tryd.prog zzY zcV l (cd (cdF Tryd.f116 [1,0,0,1,1,0,0,1,1,0]) [0]) (zgX Tryd.prog zcV 4 X (zc2 2 (zc2 1 (zKu (zKw Tryd.prog zcV 17 (vcY Tryd.prog zzY zcV l (cdF Tryd.f116 [1,0,0,1,1,1]) (zgX Tryd.prog zcV 1 X0 (zc2 0 zgY)))) (zgX Tryd.prog zcV 1 X0 (zc2 0 zgY)))))) ys q s->X ys q s)->X ys false (zgn l a zbA zgo zcZ zcd za3 zbI zb2 zb3)):=by kernel_rfl
  refine zaE e ?_
  intro X hX
  refine h X ?_
  intro ys zbA zaY zcd za3 zbI zb2 zb3 hs
  refine hX _ _ _ ?_
  have e2:=zpZ l  X0 X ys a zbA zaY zcd za3 zbI zb2 zb3
  rw[e2]
  exact hs
attribute [irreducible] zid zie
def zfx (S0:Int->List straight) (a:list) (S1:Int->(Sl Gate)->Int->Int->Int->Int->Int->List straight) (zbA:Int) (zaY:(Sl Gate)) (zcd:Int) (za3:Int) (zbI:Int) (zb2:Int) (zb3:Int):List straight :=
  (cond (decide (za3 < zcd))
 (cond (zbI == (zaY.get za3.toNat).Z)
 (S1 zbA zaY zcd (w64 (za3+(1:Int))) zbI zb2 zb3)
 ((zlK zbI zb2 ((zaY.get za3.toNat).Z) ((zaY.get za3.toNat).Low)) :: ((zlK zbI zb2 ((zaY.get za3.toNat).Z) ((zaY.get za3.toNat).High)) :: ((zlK zbI zb3 ((zaY.get za3.toNat).Z) ((zaY.get za3.toNat).Low)) :: ((zlK zbI zb3 ((zaY.get za3.toNat).Z) ((zaY.get za3.toNat).High)) :: (S1 zbA zaY zcd (w64 (za3+(1:Int))) zbI zb2 zb3))))))
 (S0 (w64 (zbA+(1:Int)))))
def zfy (P0:Int->Bool) (a:list) (P1:Int->(Sl Gate)->Int->Int->Int->Int->Int->Bool) (zbA:Int) (zaY:(Sl Gate)) (zcd:Int) (za3:Int) (zbI:Int) (zb2:Int) (zb3:Int):Bool :=
  (cond (decide (za3 < zcd))
 (decide ((0<=za3/\za3 < (zaY.len:Int))) &&
 (cond (zbI == (zaY.get za3.toNat).Z)
 (P1 zbA zaY zcd (w64 (za3+(1:Int))) zbI zb2 zb3)
 (P1 zbA zaY zcd (w64 (za3+(1:Int))) zbI zb2 zb3)))
 (P0 (w64 (zbA+(1:Int)))))
def zeh (S0 : Int → List straight) (a : list) : Nat → Int → (Sl Gate) → Int → Int → Int → Int → Int → List straight
  | 0=>λ _ _ _ _ _ _ _=>[]
  | k+1=>zfx S0 a (zeh S0 a k)
def zei (P0 : Int → Bool) (a : list) : Nat → Int → (Sl Gate) → Int → Int → Int → Int → Int → Bool
  | 0=>λ _ _ _ _ _ _ _=>false
  | k+1=>zfy P0 a (zei P0 a k)
def znQ (S0:Int->List straight) (a:list) (zbA:Int) (zaY:(Sl Gate)) (zcd:Int) (za3:Int) (zbI:Int) (zb2:Int) (zb3:Int):List straight:=zeh S0 a Fuel zbA zaY zcd za3 zbI zb2 zb3
def znR (P0:Int->Bool) (a:list) (zbA:Int) (zaY:(Sl Gate)) (zcd:Int) (za3:Int) (zbI:Int) (zb2:Int) (zb3:Int):Bool:=zei P0 a Fuel zbA zaY zcd za3 zbI zb2 zb3
theorem zC1 (l : Nat) (a : list)
  (X0:List (List PA)->Bool->St->Prop) (P0:Int->Bool) (S0:Int->List straight)
  (hX0:∀ (ys:List (List PA)) (zak:Int),P0 zak=true->ys=(S0 zak).map (λ y=>[.agg (zaS y)])->X0 ys false (zgm l a zak)) (ys:List (List PA)) (zbA:Int) (zaY:(Sl Gate)) (zcd:Int) (za3:Int) (zbI:Int) (zb2:Int) (zb3:Int) (zcZ:Nat->List PV) (zlp:zcZ=λ i=>zad (zaY.get i)) (hs:znR P0 a zbA zaY zcd za3 zbI zb2 zb3=true) (hk:ys=(znQ S0 a zbA zaY zcd za3 zbI zb2 zb3).map (λ y=>[.agg (zaS y)])):zie l  X0 ys a zbA zaY.len zcZ zcd za3 zbI zb2 zb3:=by
  refine zv4 l  X0 ys a zbA zaY.len zcZ zcd za3 zbI zb2 zb3 ?_
  intro X1 hstep
  have key:∀ (k:Nat) (ys:List (List PA)) (zbA:Int) (zaY:(Sl Gate)) (zcd:Int) (za3:Int) (zbI:Int) (zb2:Int) (zb3:Int) (zcZ:Nat->List PV) (zlp:zcZ=λ i=>zad (zaY.get i)),zei P0 a k zbA zaY zcd za3 zbI zb2 zb3=true->ys=(zeh S0 a k zbA zaY zcd za3 zbI zb2 zb3).map (λ y=>[.agg (zaS y)])->X1 ys false (zgn l a zbA zaY.len zcZ zcd za3 zbI zb2 zb3):=by
    intro k
    induction k with
    | zero=>intro ys zbA zaY zcd za3 zbI zb2 zb3 zcZ zlp hs;exact absurd hs dqk
    | succ k ih =>
      intro ys zbA zaY zcd za3 zbI zb2 zb3 zcZ zlp hs hk
      subst zlp
      refine hstep ys zbA zaY zcd za3 zbI zb2 zb3 ?_
      have hs:zfy P0 a (zei P0 a k) zbA zaY zcd za3 zbI zb2 zb3=true:=hs
      have hk:ys=(zfx S0 a (zeh S0 a k) zbA zaY zcd za3 zbI zb2 zb3).map (λ y=>[.agg (zaS y)]):=hk
      unfold zfy at hs
      unfold zfx at hk
      generalize zeh S0 a k=S1 at hk ih
      generalize zei P0 a k=P1 at hs ih
      have hX1:=ih
      exact (zec hs hk
 (λ hs hk => (zaJ hs λ hc hs => ⟨hc, (zec hs hk
 (λ hs hk=>(hX1 _ zbA zaY zcd (w64 (za3+(1:Int))) zbI zb2 zb3 (λ i=>zad (zaY.get i)) rfl hs hk))
 (λ hs hk=>(itY hk rfl (λ _ hk=>(itY hk rfl (λ _ hk=>(itY hk rfl (λ _ hk=>(itY hk rfl (λ _ hk=>(hX1 _ zbA zaY zcd (w64 (za3+(1:Int))) zbI zb2 zb3 (λ i=>zad (zaY.get i)) rfl hs hk)))))))))))⟩))
 (fun hs hk=>(hX0 _ (w64 (zbA+(1:Int))) hs hk)))
  exact key _ _ zbA zaY zcd za3 zbI zb2 zb3 zcZ zlp hs hk
def zfz (a:list) (S0:Int->List straight) (zak:Int):List straight :=
  (cond (decide (zak < (a.Gates.len : Int)))
 (znQ S0 a zak (⟨((a.Gates.len:Int) - (w64 (zak+(1:Int)))).toNat,(λ i=>a.Gates.get (i+((w64 (zak+(1:Int))).toNat)))⟩:Sl Gate) (((a.Gates.len:Int) - (w64 (zak+(1:Int)))).toNat:Int) (0:Int) ((a.Gates.get zak.toNat).Z) ((a.Gates.get zak.toNat).Low) ((a.Gates.get zak.toNat).High))
 [])
def zfA (a:list) (P0:Int->Bool) (zak:Int):Bool :=
  (cond (decide (zak < (a.Gates.len : Int)))
 (decide ((0<=zak/\zak < (a.Gates.len:Int))) &&
 (decide ((0<=(w64 (zak+(1:Int)))/\(w64 (zak+(1:Int)))<=(a.Gates.len:Int)/\(a.Gates.len:Int)<=(a.Gates.len:Int))) &&
 (znR P0 a zak (⟨((a.Gates.len:Int) - (w64 (zak+(1:Int)))).toNat,(λ i=>a.Gates.get (i+((w64 (zak+(1:Int))).toNat)))⟩:Sl Gate) (((a.Gates.len:Int) - (w64 (zak+(1:Int)))).toNat:Int) (0:Int) ((a.Gates.get zak.toNat).Z) ((a.Gates.get zak.toNat).Low) ((a.Gates.get zak.toNat).High))))
 true)
def zej (a : list) : Nat → Int → List straight
  | 0=>λ _=>[]
  | k+1=>zfz a (zej a k)
def zek (a : list) : Nat → Int → Bool
  | 0=>λ _=>false
  | k+1=>zfA a (zek a k)
def zuO (a:list) (zak:Int):List straight:=zej a Fuel zak
def zuP (a:list) (zak:Int):Bool:=zek a Fuel zak
theorem zC2 (l:Nat) (a:list) (ys:List (List PA)) (zak:Int) (hs:zuP a zak=true) (hk:ys=(zuO a zak).map (λ y=>[.agg (zaS y)])):zid l ys a zak:=by
  refine zv3 l ys a zak ?_
  intro X0 hstep
  have key:∀ (k:Nat) (ys:List (List PA)) (zak:Int),zek a k zak=true->ys=(zej a k zak).map (λ y=>[.agg (zaS y)])->X0 ys false (zgm l a zak):=by
    intro k
    induction k with
    | zero=>intro ys zak hs;exact absurd hs dqk
    | succ k ih =>
      intro ys zak hs hk
      refine hstep ys zak ?_
      have hs:zfA a (zek a k) zak=true:=hs
      have hk:ys=(zfz a (zej a k) zak).map (λ y=>[.agg (zaS y)]):=hk
      unfold zfA at hs
      unfold zfz at hk
      generalize zej a k=S0 at hk ih
      generalize zek a k=P0 at hs ih
      have hX0:=ih
      exact (zec hs hk
 (λ hs hk=>(zaJ hs λ hc hs=>⟨hc,(zaJ hs λ hc hs=>⟨hc,(zC1 l a X0 P0 S0 hX0 _ zak (⟨((a.Gates.len:Int) - (w64 (zak+(1:Int)))).toNat,(λ i=>a.Gates.get (i+((w64 (zak+(1:Int))).toNat)))⟩:Sl Gate) (((a.Gates.len:Int) - (w64 (zak+(1:Int)))).toNat:Int) (0:Int) ((a.Gates.get zak.toNat).Z) ((a.Gates.get zak.toNat).Low) ((a.Gates.get zak.toNat).High) (slG (λ i=>zad (a.Gates.get i)) ((w64 (zak+(1:Int))).toNat)) rfl hs hk)⟩)⟩))
 (fun hs hk=>hk))
  exact key _ _ zak hs hk
def zIa (a:list):List straight :=
  (zuO a (0:Int))
def zMZ (a:list):Bool :=
  (zuP a (0:Int))
theorem zT2 (l:Nat) (a:list) (ys:List (List PA)) (hs:zMZ a=true) (hk:ys=(zIa a).map (λ y=>[.agg (zaS y)])):vcIter Tryd.prog zzY zcV 116 l [.one (.fp (zdi a) 0)] ys:=by
  refine zaE (zC0 l a ys) ?_
  unfold zMZ at hs
  unfold zIa at hk
  exact (zC2 l a _ (0:Int) hs hk)
def zIb : List PA → Option (Prop × List (List PA))
  | [.one (.fp [.sl a_Gates_n a_Gates_s a_Gates_g] 0)]=>some (IsE zad 3 a_Gates_s a_Gates_g/\zMZ (⟨(⟨a_Gates_n,zaj a_Gates_g⟩:(Sl Gate))⟩:list)=true,(zIa (⟨(⟨a_Gates_n,zaj a_Gates_g⟩:(Sl Gate))⟩:list)).map λ y=>[.agg (zaS y)])
  | _=>none
theorem zIc:zac Tryd.prog 116:=⟨_,rfl,rfl,by kernel_rfl⟩
theorem zQO:zBA Tryd.prog 116 zIb:=zxE zMY zIc λ l caps safe ys h hs=>by
  unfold zIb at h
  split at h
  · rename_i a_Gates_n a_Gates_s a_Gates_g
    cases h
    obtain⟨⟨rfl,a_Gates_f,rfl⟩,hs⟩:=hs
    try rw[zae a_Gates_f] at hs
    try rw[zae a_Gates_f]
    exact⟨λ _ _=>[],λ _=>false,zcV,zT2 l (⟨(⟨a_Gates_n,a_Gates_f⟩:(Sl Gate))⟩:list) _ hs rfl⟩
  · cases h
abbrev T68:Tabs:=(((((Tabs.nil.addF 70 zv1).addF 90 zH2).addF 91 zH6).addF 92 zH8).addI 116 zIb)
theorem zQP:TabsOk Tryd.prog T68:=(((((TabsOk.nil.addF zOT).addF zTW).addF zTY).addF zTZ).addI zQO)
abbrev G68:Ctrs:=csm T68 (λ _ _=>[]) (λ l=>Nat.beq l 14)
def zzZ:Ann:=⟨39,[(0,zK [0,2] [2]),(1,zK [2,3] [2,3]),(2,zK [2,3,12] [2,3]),(3,zK [2] [2]),(4,zK [2,3,4] [2,3,4,14]),(5,zK [2,3,4,17] [2,3,4,14]),(6,zK [2,3,4,5,17] [2,3,4,5,14,36]),(7,zK [2,3,4,5,6,17] [2,3,4,5,6,14,36]),(8,zK [2,3,4,5,6,17,29] [2,3,4,5,6,14,36]),(9,zK [2,3,4,5,17] [2,3,4,5,14,36]),(10,zK [2,3,4,17] [2,3,4,14,36]),(11,zK [2] [2,36])],
 [(6,⟨[2,3,4,17],[2,3,4,14,36],[],[(3,1,36,164,λ _=>zaS default)],[],[],[]⟩)],
 [(3,zK [2,3,12] [2,3]),(4,zK [2,3] [2,3])],
 [],[]⟩
abbrev R68:=set
abbrev e68 (r:R68):List PA:=[.agg [.sl r.list.Gates.len 3 (λ i=>zad (r.list.Gates.get i)),.sl r.corners.len 3 (λ i=>zaS (r.corners.get i))]]
@[irreducible] def z68:=ptF Tryd.prog G68 zzZ Tryd.f68
@[irreducible] def x68:=exF Tryd.prog G68 zzZ Tryd.f68
@[irreducible] def y68:=rnF Tryd.prog G68 zzZ Tryd.f68
def zz0 (zaa:(Sl Gate)) (zcC:(Sl straight)) (zb9:Nat) (zbN:(List Int->Option (List Int))) (ze3:Nat->List PV):St:=⟨[(2,zp 2 0),(3,zp 3 0),(4,zp 4 0),(17,zP (.fn 116 [] [.fp (zdi (⟨zaa⟩:list)) 0]))],[(2,.box 121 [.p (.nils),.p (.nils)]),(3,.box 121 [.p (.sl zaa.len 3 (λ i=>zad (zaa.get i))),.vec 36]),(4,.box 185 [.mo 14]),(14,.mo 71 4 (true,4,false,[none]) zb9 zbN),(36,.vec 164 3 24 zcC.len ze3)],[]⟩
abbrev zM0 (K:List PA->Prop) (zaa:(Sl Gate)) (X:St->Prop) (P:(Sl straight)->Nat->(List Int->Option (List Int))->Bool) (S:(Sl straight)->Nat->(List Int->Option (List Int))->set):Prop:=∀ ⦃zcC:(Sl straight)⦄ ⦃zb9:Nat⦄ ⦃zbN:(List Int->Option (List Int))⦄ ⦃ze3:Nat->List PV⦄,P zcC zb9 zbN=true->K (e68 (S zcC zb9 zbN))->ze3=zg zaS zcC->X (zz0 zaa zcC zb9 zbN ze3)
section
variable {K:List PA->Prop}{zaa:(Sl Gate)}{zaI:Bool}{zcC:(Sl straight)}{zb9:Nat}{zbN:(List Int->Option (List Int))}{ze3:Nat->List PV}
def zId (zaa:(Sl Gate)) (zcC:(Sl straight)) (zb9:Nat) (zbN:(List Int->Option (List Int))):set :=
  (⟨(⟨zaa⟩:list),zcC⟩:set)
def zIe (zaa:(Sl Gate)) (zcC:(Sl straight)) (zb9:Nat) (zbN:(List Int->Option (List Int))):Bool :=
  true
def znS (zaa:(Sl Gate)) (y2:straight) (S2:(Sl straight)->Nat->(List Int->Option (List Int))->set) (zcC:(Sl straight)) (zb9:Nat) (zbN:(List Int->Option (List Int))):set :=
  (cond (!((zqm (zbN [(s91 y2).Slope.Num, (s91 y2).Slope.Den, (s91 y2).Start.Num, (s91 y2).Start.Den]) 0) != 0))
 (cond (s92 (⟨(⟨zaa⟩ : list), zcC⟩ : set) y2)
 (S2 (⟨(zcC.len+1),(zh3 zcC.len zcC.get (λ _=>y2))⟩:Sl straight) (addN (zbN [(s91 y2).Slope.Num,(s91 y2).Slope.Den,(s91 y2).Start.Num,(s91 y2).Start.Den]) zb9) (ztu [(s91 y2).Slope.Num,(s91 y2).Slope.Den,(s91 y2).Start.Num,(s91 y2).Start.Den] [1] zbN))
 (S2 zcC zb9 zbN))
 (S2 zcC zb9 zbN))
def znT (zaa:(Sl Gate)) (y2:straight) (P2:(Sl straight)->Nat->(List Int->Option (List Int))->Bool) (zcC:(Sl straight)) (zb9:Nat) (zbN:(List Int->Option (List Int))):Bool :=
  (decide ((p91 y2=true)) &&
 (cond (!((zqm (zbN [(s91 y2).Slope.Num, (s91 y2).Slope.Den, (s91 y2).Start.Num, (s91 y2).Start.Den]) 0) != 0))
 (decide ((p92 (⟨(⟨zaa⟩:list),zcC⟩:set) y2=true)) &&
 (cond (s92 (⟨(⟨zaa⟩ : list), zcC⟩ : set) y2)
 (decide (((zcC.len+1) * 24<=140737488355328/\zcC.len+1<=9223372036854775807)) &&
 (P2 (⟨(zcC.len+1),(zh3 zcC.len zcC.get (λ _=>y2))⟩:Sl straight) (addN (zbN [(s91 y2).Slope.Num,(s91 y2).Slope.Den,(s91 y2).Start.Num,(s91 y2).Start.Den]) zb9) (ztu [(s91 y2).Slope.Num,(s91 y2).Slope.Den,(s91 y2).Start.Num,(s91 y2).Start.Den] [1] zbN)))
 (P2 zcC zb9 zbN)))
 (P2 zcC zb9 zbN)))
def zlq (zaa:(Sl Gate)):List straight->(Sl straight)->Nat->(List Int->Option (List Int))->set:=lpR (zId zaa) (znS zaa)
def zlr (zaa:(Sl Gate)):List straight->(Sl straight)->Nat->(List Int->Option (List Int))->Bool:=lpR (zIe zaa) (znT zaa)
def zr3 (zaa:(Sl Gate)) (zcC:(Sl straight)) (zb9:Nat) (zbN:(List Int->Option (List Int))):set:=zlq zaa (zIa (⟨zaa⟩:list)) zcC zb9 zbN
def zr4 (zaa:(Sl Gate)) (zcC:(Sl straight)) (zb9:Nat) (zbN:(List Int->Option (List Int))):Bool:=decide ((zMZ (⟨zaa⟩:list)=true)) && zlr zaa (zIa (⟨zaa⟩:list)) zcC zb9 zbN
theorem zIf (hs:zr4 zaa zcC zb9 zbN=true) (hk:K (e68 (zr3 zaa zcC zb9 zbN))) (zls:ze3=zg zaS zcC):z68 (Wk K) [1,1,1,1,0,1,0] [] (zz0 zaa zcC zb9 zbN ze3) :=
  zaJ hs λ hc hs=>zr (enc:=(λ y:straight=>[.agg (zaS y)])) (ys:=zIa (⟨zaa⟩:list)) (g:=(zz0 zaa zcC zb9 zbN ze3)) (x68 (Wk K) [1,1,1,1,0,1,0] []) (y68 (Wk K) [1,1,1,1,0,1,0] []) (by kernel_rfl) (And.intro (zE zad 3 ((⟨zaa⟩:list).Gates.get)) hc) λ X2 hE hR =>
  (show ∀ l : List straight, zM0 K zaa (X2 (l.map (λ y : straight => [.agg (zaS y)]))) (zlr zaa l) (zlq zaa l) from zri (X := X2) (enc := (λ y : straight => [.agg (zaS y)])) _ _ (znT zaa) (znS zaa) (λ Z P S => zM0 K zaa Z P S)
 (by intro zcC zb9 zbN ze3 hs hk zls;subst zls;exact hE _ (zaE (by kernel_rfl) ((zfX hk):Wk K [.agg [.sl zaa.len 3 (λ i=>zad (zaa.get i)),.sl zcC.len 3 (λ i=>zaS (zcC.get i))]])))
 (by intro y2 rest P2 S2 hX2 zcC zb9 zbN ze3 hs hk zls;subst zls;exact hR _ rest _ (zaE (by kernel_rfl) (zaJ hs λ hc hs=>And.intro hc (zc hs hk (λ hs hk=>(zaJ hs λ hc hs=>And.intro (And.intro (zE zad 3 zaa.get) (And.intro (zE zaS 3 zcC.get) hc)) (zc hs hk (λ hs hk=>(zaJ hs λ hc hs=>And.intro hc (hX2 hs hk (zpr (enc:=zaS) (f:=zcC.get) (h:=(λ _=>y2)) rfl rfl)))) (λ hs hk=>(hX2 hs hk rfl))))) (λ hs hk=>(hX2 hs hk rfl))))))) _ hs hk zls
def zr5 (zaa:(Sl Gate)):set :=
  (zr3 zaa (⟨0,(λ _=>default)⟩:Sl straight) 0 (λ _=>none))
def zr6 (zaa:(Sl Gate)):Bool :=
  (zr4 zaa (⟨0,(λ _=>default)⟩:Sl straight) 0 (λ _=>none))
theorem zIg (hs:zr6 zaa=true) (hk:K (e68 (zr5 zaa))):z68 (Wk K) [1,1,1] [] ⟨[(2,zp 2 0),(3,zp 3 0)],[(2,.box 121 [.p (.nils),.p (.nils)]),(3,.box 121 [.p (.sl zaa.len 3 (λ i=>zad (zaa.get i))),.p (.nils)])],[]⟩:=zaE (by kernel_rfl) (And.intro (zE zad 3 zaa.get) (zIf hs hk rfl))
def zr7 (zaa:(Sl Gate)) (zaI:Bool):set :=
  (cond zaI
 (⟨(⟨zaa⟩:list),(⟨0,λ _=>default⟩:(Sl straight))⟩:set)
 (zr5 zaa))
def zr8 (zaa:(Sl Gate)) (zaI:Bool):Bool :=
  (cond zaI
 true
 (zr6 zaa))
theorem zIh (hs:zr8 zaa zaI=true) (hk:K (e68 (zr7 zaa zaI))):z68 (Wk K) [1,1,0,1] [] ⟨[(2,zp 2 0),(3,zp 3 0),(12,zB zaI)],[(2,.box 121 [.p (.nils),.p (.nils)]),(3,.box 121 [.p (.sl zaa.len 3 (λ i=>zad (zaa.get i))),.p (.nils)])],[]⟩:=zaE (by kernel_rfl) (zc hs hk (λ hs hk=>((wk hk (ze4 (.agg (ze4 (.rfl _) (ze4 (.nil _ _) zka))) zka)):Wk K [.agg [.sl zaa.len 3 (λ i=>zad (zaa.get i)),.nils]])) (λ hs hk=>(zIg hs hk)))
def s68 (zaa:(Sl Gate)):set :=
  (zr7 zaa (s70 (⟨zaa⟩:list)))
def p68 (zaa:(Sl Gate)):Bool :=
  (decide ((p70 (⟨zaa⟩:list)=true)) &&
 (zr8 zaa (s70 (⟨zaa⟩:list))))
end
theorem q68 (zaa:(Sl Gate)) (K:List PA->Prop) (hs:p68 zaa=true) (hk:K (e68 (s68 zaa))):vcFun Tryd.prog G68 zzZ 68 [.one (.sl zaa.len 3 (λ i=>zad (zaa.get i)))] (Wk K) :=
  zaE (by kernel_rfl) (zaJ hs λ hc hs=>And.intro (And.intro (zE zad 3 zaa.get) hc) (zIh hs hk))
def zIi : List PA → COut
  | [.one (.sl zbq zcO zbr)]=>.det (IsE zad 3 zcO zbr/\p68 (⟨zbq,zaj zbr⟩:(Sl Gate))=true) [.agg [.sl ((s68 (⟨zbq,zaj zbr⟩:(Sl Gate))).list.Gates.len) 3 (λ i=>zad ((s68 (⟨zbq,zaj zbr⟩:(Sl Gate))).list.Gates.get i)),.sl ((s68 (⟨zbq,zaj zbr⟩:(Sl Gate))).corners.len) 3 (λ i=>zaS ((s68 (⟨zbq,zaj zbr⟩:(Sl Gate))).corners.get i))]]
  | _=>.no
theorem zM1:zac Tryd.prog 68:=⟨_,rfl,rfl,by kernel_rfl⟩
theorem zT3:Ok Tryd.prog 68 zIi:=zhl zQP zM1 λ args K h=>by
  unfold zIi at h
  split at h
  · rename_i zbq zcO zbr
    obtain⟨⟨⟨rfl,zb6,rfl⟩,hs⟩,hk⟩:=h
    try rw[zae zb6] at hs
    try rw[zae zb6] at hk
    exact⟨_,zg8 zfW _,(λ _ _=>[]),(λ l=>Nat.beq l 14),zzZ,q68 (⟨zbq,zb6⟩:(Sl Gate)) K hs hk⟩
  · exact h.elim
abbrev T71:Tabs:=Tabs.nil
theorem zQQ:TabsOk Tryd.prog T71:=TabsOk.nil
abbrev G71:Ctrs:=csm T71 (λ _ _=>[]) (λ _=>false)
def zIj:Ann:=⟨38,[(0,zK [1,2] [1,2]),(1,zK [1,2,3] [1,2,3]),(2,zK [2,3,18,19,20] [2,3]),(3,zK [2,3,18,19,20,21] [2,3]),(4,zK [2,3,5,18,19,20] [2,3,5]),(5,zK [2,3,18,19,20] [2,3]),(6,zK [2,3,18,19,20] [2,3]),(7,zK [2] [2])],
 [(3,zK [2,3,18,19,20] [2,3])],
 [],
 [],[]⟩
abbrev R71:=Span
abbrev e71 (r:R71):List PA:=[.agg [.int .i64 r.Low,.int .i64 r.High]]
@[irreducible] def z71:=ptF Tryd.prog G71 zIj Tryd.f71
def zEG (l_a0:list) (zdw:Int) (zas:Int) (zat:Int):St:=⟨[(2,zp 2 0),(3,zp 3 0),(18,zS zad 3 l_a0.Gates),(19,zI (l_a0.Gates.len:Int)),(20,zI zdw)],[(2,.box 32 (zm (zbh (⟨(0:Int),(0:Int)⟩:Span)))),(3,.box 32 (zm (zbh (⟨zas,zat⟩:Span))))],[]⟩
abbrev zM2 (K:List PA->Prop) (l_a0:list) (X:St->Prop) (P:Int->Int->Int->Bool) (S:Int->Int->Int->Span):Prop:=∀ ⦃zdw:Int⦄ ⦃zas:Int⦄ ⦃zat:Int⦄,P zdw zas zat=true->K (e71 (S zdw zas zat))->X (zEG l_a0 zdw zas zat)
section
variable {K:List PA->Prop}{l_a0:list}{zdw:Int}{zas:Int}{zat:Int}{X0:St->Prop}{P0:Int->Int->Int->Bool}{S0:Int->Int->Int->Span}
def zi2 (l_a0:list) (S0:Int->Int->Int->Span) (zdw:Int) (zas:Int) (zat:Int):Span :=
  (cond (decide (zdw < (l_a0.Gates.len : Int)))
 (S0 (w64 (zdw+(1:Int))) (if (l_a0.Gates.get zdw.toNat).Low > zas then (l_a0.Gates.get zdw.toNat).Low else zas) (if (l_a0.Gates.get zdw.toNat).High < zat then (l_a0.Gates.get zdw.toNat).High else zat))
 (⟨zas,zat⟩:Span))
def zi3 (l_a0:list) (P0:Int->Int->Int->Bool) (zdw:Int) (zas:Int) (zat:Int):Bool :=
  (cond (decide (zdw < (l_a0.Gates.len : Int)))
 (decide ((0<=zdw/\zdw < (l_a0.Gates.len:Int))) &&
 (P0 (w64 (zdw+(1:Int))) (if (l_a0.Gates.get zdw.toNat).Low > zas then (l_a0.Gates.get zdw.toNat).Low else zas) (if (l_a0.Gates.get zdw.toNat).High < zat then (l_a0.Gates.get zdw.toNat).High else zat)))
 true)
def zi4 (l_a0:list):Nat->Int->Int->Int->Span:=lpO (λ _ _ _=>default) (zi2 l_a0)
def zi5 (l_a0:list):Nat->Int->Int->Int->Bool:=lpO (λ _ _ _=>false) (zi3 l_a0)
def zz1 (l_a0:list) (zdw:Int) (zas:Int) (zat:Int):Span:=zi4 l_a0 Fuel zdw zas zat
def zz2 (l_a0:list) (zdw:Int) (zas:Int) (zat:Int):Bool:=zi5 l_a0 Fuel zdw zas zat
theorem zIk (hs:zz2 l_a0 zdw zas zat=true) (hk:K (e71 (zz1 l_a0 zdw zas zat))):z71 K [1,1,0,1,0] [] (zEG l_a0 zdw zas zat) :=
  zl (λ X=>z71 K [1,1,0,1,0,0] [X]) (by kernel_rfl) λ X0 hX =>
  (show ∀ k, zM2 K l_a0 X0 (zi5 l_a0 k) (zi4 l_a0 k) from zgd _ _ (zi3 l_a0) (zi2 l_a0) (zM2 K l_a0 X0)
 (by intro _ _ _ hs;exact absurd hs dqk)
 (by intro P0 S0 hX0 zdw zas zat hs hk;exact hX _ (zaE (by kernel_rfl) (zc hs hk (λ hs hk=>(zaJ hs λ hc hs=>And.intro hc (hX0 hs hk))) (λ hs hk=>hk))))) _ hs hk
def s71 (l_a0:list):Span :=
  (zz1 l_a0 (0:Int) ((l_a0.Gates.get 0).Low) ((l_a0.Gates.get 0).High))
def p71 (l_a0:list):Bool :=
  (decide ((0<=(0:Int)/\(0:Int) < (l_a0.Gates.len:Int))) &&
 (decide ((0<=(0:Int)/\(0:Int) < (l_a0.Gates.len:Int))) &&
 (zz2 l_a0 (0:Int) ((l_a0.Gates.get 0).Low) ((l_a0.Gates.get 0).High))))
end
theorem q71 (l_a0:list) (K:List PA->Prop) (hs:p71 l_a0=true) (hk:K (e71 (s71 l_a0))):vcFun Tryd.prog G71 zIj 71 [.agg (zdi l_a0)] K :=
  zaE (by kernel_rfl) (zaJ hs λ hc hs=>And.intro hc (zaJ hs λ hc hs=>And.intro hc (zIk hs hk)))
def zC3 : List PA → COut
  | [.agg [.sl zbC zcI zbD]]=>.det (IsE zad 3 zcI zbD/\p71 (⟨(⟨zbC,zaj zbD⟩:(Sl Gate))⟩:list)=true) [.agg [.int .i64 ((s71 (⟨(⟨zbC,zaj zbD⟩:(Sl Gate))⟩:list)).Low),.int .i64 ((s71 (⟨(⟨zbC,zaj zbD⟩:(Sl Gate))⟩:list)).High)]]
  | _=>.no
theorem zM3:zac Tryd.prog 71:=⟨_,rfl,rfl,by kernel_rfl⟩
theorem zR2:Ok Tryd.prog 71 zC3:=zau zQQ zM3 λ args K h=>by
  unfold zC3 at h
  split at h
  · rename_i zbC zcI zbD
    obtain⟨⟨⟨rfl,zcb,rfl⟩,hs⟩,hk⟩:=h
    try rw[zae zcb] at hs
    try rw[zae zcb] at hk
    exact⟨(λ _ _=>[]),(λ _=>false),zIj,q71 (⟨(⟨zbC,zcb⟩:(Sl Gate))⟩:list) K hs hk⟩
  · exact h.elim
abbrev T69:Tabs:=((Tabs.nil.addF 70 zv1).addF 71 zC3)
theorem zQR:TabsOk Tryd.prog T69:=((TabsOk.nil.addF zOT).addF zR2)
abbrev G69:Ctrs:=csm T69 (λ _ _=>[]) (λ _=>false)
def zM4:Ann:=⟨19,[(0,zK [1] [1]),(1,zK [1,3] [1,3]),(2,zK [1,3,9] [1,3]),(3,zK [2] []),(4,zK [2] [])],
 [],
 [],
 [],[]⟩
abbrev R69:=Bool
abbrev e69 (r:R69):List PA:=[.one (.bool r)]
section
variable {K:List PA->Prop}{s:set}
def s69 (s:set):Bool :=
  (cond (s70 s.list)
 (decide ((s71 s.list).Low<=(s71 s.list).High))
 (decide ((s.corners.len:Int) > (0:Int))))
def p69 (s:set):Bool :=
  (decide ((p71 s.list=true)) &&
 (decide ((p70 s.list=true)) &&
 true))
end
theorem q69 (s:set) (K:List PA->Prop) (hs:p69 s=true) (hk:K (e69 (s69 s))):vcFun Tryd.prog G69 zM4 69 [.agg (znn s)] K :=
  zaE (by kernel_rfl) (zaJ hs λ hc hs=>And.intro (And.intro (zE zad 3 s.list.Gates.get) hc) (zaJ hs λ hc hs=>And.intro (And.intro (zE zad 3 s.list.Gates.get) hc) (zt hk (λ hk=>hk) (λ hk=>hk))))
def zIl : List PA → COut
  | [.agg [.sl zah za1 zai,.sl zaC zb8 zaD]]=>.det (IsE zad 3 za1 zai/\IsE zaS 3 zb8 zaD/\p69 (⟨(⟨(⟨zah,zaj zai⟩:(Sl Gate))⟩:list),(⟨zaC,zcR zaD⟩:(Sl straight))⟩:set)=true) [.one (.bool (s69 (⟨(⟨(⟨zah,zaj zai⟩:(Sl Gate))⟩:list),(⟨zaC,zcR zaD⟩:(Sl straight))⟩:set)))]
  | _=>.no
theorem zM5:zac Tryd.prog 69:=⟨_,rfl,rfl,by kernel_rfl⟩
theorem zT4:Ok Tryd.prog 69 zIl:=zau zQR zM5 λ args K h=>by
  unfold zIl at h
  split at h
  · rename_i zah za1 zai zaC zb8 zaD
    obtain⟨⟨⟨rfl,zaB,rfl⟩,⟨rfl,zbw,rfl⟩,hs⟩,hk⟩:=h
    try rw[zae zaB] at hs
    try rw[zae zaB] at hk
    try rw[zcN zbw] at hs
    try rw[zcN zbw] at hk
    exact⟨(λ _ _=>[]),(λ _=>false),zM4,q69 (⟨(⟨(⟨zah,zaB⟩:(Sl Gate))⟩:list),(⟨zaC,zbw⟩:(Sl straight))⟩:set) K hs hk⟩
  · exact h.elim
abbrev T48:Tabs:=(((((Tabs.nil.addF 49 zHN).addF 67 zHT).addF 68 zIi).addF 69 zIl).addF 70 zv1)
theorem zQS:TabsOk Tryd.prog T48:=(((((TabsOk.nil.addF zTG).addF zTI).addF zT3).addF zT4).addF zOT)
abbrev G48:Ctrs:=csm T48 (λ _ _=>[]) (λ _=>false)
def zIm:Ann:=⟨31,[(0,zK [0,1,4] [4]),(1,zK [0,1,4,9] [4]),(2,zK [4,5] [4]),(3,zK [1,4,6] [4,6]),(4,zK [1,4,6,13] [4,6]),(5,zK [4,5] [4]),(6,zK [4,6,18] [4,6]),(7,zK [4,5] [4]),(8,zK [4,5] [4])],
 [],
 [(3,zK [0,1,4] [4])],
 [],[]⟩
abbrev R48:=(set×Int)
abbrev e48 (r:R48):List PA:=[.agg [.sl r.1.list.Gates.len 3 (λ i=>zad (r.1.list.Gates.get i)),.sl r.1.corners.len 3 (λ i=>zaS (r.1.corners.get i))],.one (.int .i64 r.2)]
@[irreducible] def z48:=ptF Tryd.prog G48 zIm Tryd.f48
section
variable {K:List PA->Prop}{c0:Int}{zaa:(Sl Gate)}
def zr9 (c0:Int) (zaa:(Sl Gate)):(set×Int) :=
  (cond (!(s69 (s68 zaa)))
 ((⟨(⟨(⟨0,λ _=>default⟩:(Sl Gate))⟩:list),(⟨0,λ _=>default⟩:(Sl straight))⟩:set),(5:Int))
 (cond (s70 ((s68 zaa).list))
 (cond (!(s49 c0 ((s68 zaa).list)))
 ((⟨(⟨(⟨0,λ _=>default⟩:(Sl Gate))⟩:list),(⟨0,λ _=>default⟩:(Sl straight))⟩:set),(6:Int))
 ((s68 zaa),(0:Int)))
 ((s68 zaa),(0:Int))))
def zsa (c0:Int) (zaa:(Sl Gate)):Bool :=
  (decide ((p68 zaa=true)) &&
 (decide ((p69 (s68 zaa)=true)) &&
 (cond (!(s69 (s68 zaa)))
 true
 (decide ((p70 ((s68 zaa).list)=true)) &&
 (cond (s70 ((s68 zaa).list))
 (decide ((p49 c0 ((s68 zaa).list)=true)) &&
 true)
 true)))))
theorem zIn (hs:zsa c0 zaa=true) (hk:K (e48 (zr9 c0 zaa))):z48 (Wk K) [1,1] [] ⟨[(0,zS zad 3 zaa),(1,zP (.fn 49 [] [.fp (zaL c0) 0])),(4,zp 4 0)],[(4,.box 121 [.p (.nils),.p (.nils)])],[]⟩:=zaE (by kernel_rfl) (zaJ hs λ hc hs=>And.intro (And.intro (zE zad 3 zaa.get) hc) (zaJ hs λ hc hs=>And.intro (And.intro (zE zad 3 ((s68 zaa).list.Gates.get)) (And.intro (zE zaS 3 ((s68 zaa).corners.get)) hc)) (zc hs hk (λ hs hk=>((wk hk (ze4 (.agg (ze4 (.nil _ _) (ze4 (.nil _ _) zka))) (ze4 (.one (.rfl _)) zka))):Wk K [.agg [.nils,.nils],.one (.int .i64 (5:Int))])) (λ hs hk=>(zaJ hs λ hc hs=>And.intro (And.intro (zE zad 3 ((s68 zaa).list.Gates.get)) hc) (zc hs hk (λ hs hk=>(zaJ hs λ hc hs=>And.intro (And.intro (zE zad 3 ((s68 zaa).list.Gates.get)) hc) (zt hk (λ hk=>((wk hk (ze4 (.agg (ze4 (.nil _ _) (ze4 (.nil _ _) zka))) (ze4 (.one (.rfl _)) zka))):Wk K [.agg [.nils,.nils],.one (.int .i64 (6:Int))])) (λ hk=>((zfX hk):Wk K [.agg [.sl ((s68 zaa).list.Gates.len) 3 (λ i=>zad ((s68 zaa).list.Gates.get i)),.sl ((s68 zaa).corners.len) 3 (λ i=>zaS ((s68 zaa).corners.get i))],.one (.int .i64 (0:Int))]))))) (λ hs hk=>((zfX hk):Wk K [.agg [.sl ((s68 zaa).list.Gates.len) 3 (λ i=>zad ((s68 zaa).list.Gates.get i)),.sl ((s68 zaa).corners.len) 3 (λ i=>zaS ((s68 zaa).corners.get i))],.one (.int .i64 (0:Int))]))))))))
def s48 (c0:Int) (zaa:(Sl Gate)):(set×Int) :=
  (cond (!(s67 zaa))
 ((⟨(⟨(⟨0,λ _=>default⟩:(Sl Gate))⟩:list),(⟨0,λ _=>default⟩:(Sl straight))⟩:set),(2:Int))
 (zr9 c0 zaa))
def p48 (c0:Int) (zaa:(Sl Gate)):Bool :=
  (decide ((p67 zaa=true)) &&
 (cond (!(s67 zaa))
 true
 (zsa c0 zaa)))
end
theorem q48 (c0:Int) (zaa:(Sl Gate)) (K:List PA->Prop) (hs:p48 c0 zaa=true) (hk:K (e48 (s48 c0 zaa))):vcFun Tryd.prog G48 zIm 48 [.one (.sl zaa.len 3 (λ i=>zad (zaa.get i))),.one (.fn 49 [] [.fp (zaL c0) 0])] (Wk K) :=
  zaE (by kernel_rfl) (zaJ hs λ hc hs=>And.intro (And.intro (zE zad 3 zaa.get) hc) (zc hs hk (λ hs hk=>((wk hk (ze4 (.agg (ze4 (.nil _ _) (ze4 (.nil _ _) zka))) (ze4 (.one (.rfl _)) zka))):Wk K [.agg [.nils,.nils],.one (.int .i64 (2:Int))])) (λ hs hk=>(zIn hs hk))))
def zIo : List PA → COut
  | [.one (.sl zbq zcO zbr),.one (.fn 49 [] [.fp [.int .i64 c0] 0])]=>.det (IsE zad 3 zcO zbr/\p48 c0 (⟨zbq,zaj zbr⟩:(Sl Gate))=true) [.agg [.sl (((s48 c0 (⟨zbq,zaj zbr⟩:(Sl Gate))).1).list.Gates.len) 3 (λ i=>zad (((s48 c0 (⟨zbq,zaj zbr⟩:(Sl Gate))).1).list.Gates.get i)),.sl (((s48 c0 (⟨zbq,zaj zbr⟩:(Sl Gate))).1).corners.len) 3 (λ i=>zaS (((s48 c0 (⟨zbq,zaj zbr⟩:(Sl Gate))).1).corners.get i))],.one (.int .i64 ((s48 c0 (⟨zbq,zaj zbr⟩:(Sl Gate))).2))]
  | _=>.no
theorem zM6:zac Tryd.prog 48:=⟨_,rfl,rfl,by kernel_rfl⟩
theorem zT5:Ok Tryd.prog 48 zIo:=zhl zQS zM6 λ args K h=>by
  unfold zIo at h
  split at h
  · rename_i zbq zcO zbr c0
    obtain⟨⟨⟨rfl,zb6,rfl⟩,hs⟩,hk⟩:=h
    try rw[zae zb6] at hs
    try rw[zae zb6] at hk
    exact⟨_,zg8 zfW _,(λ _ _=>[]),(λ _=>false),zIm,q48 c0 (⟨zbq,zb6⟩:(Sl Gate)) K hs hk⟩
  · exact h.elim
abbrev T75:Tabs:=Tabs.nil
theorem zQT:TabsOk Tryd.prog T75:=TabsOk.nil
abbrev G75:Ctrs:=csm T75 (λ _ _=>[]) (λ _=>false)
def zM7:Ann:=⟨15,[(0,zK [1,2,4] [2,4]),(1,zK [4] [4])],
 [],
 [],
 [],[]⟩
abbrev R75:=Frac
abbrev e75 (r:R75):List PA:=[.agg [.int .i64 r.Num,.int .i64 r.Den]]
section
variable {K:List PA->Prop}{s:straight}{z:Int}
def s75 (s:straight) (z:Int):Frac :=
  (⟨(w64 (s.start+(w64 (s.slope * z)))),s.den⟩:Frac)
end
theorem q75 (s:straight) (z:Int) (K:List PA->Prop) (hk:K (e75 (s75 s z))):vcFun Tryd.prog G75 zM7 75 [.agg (zaS s),.one (.int .i64 z)] K :=
  zaE (by kernel_rfl) hk
def zIp : List PA → COut
  | [.agg [.int .i64 zb0,.int .i64 zb1,.int .i64 zdm],.one (.int .i64 a1)]=>.tot [.agg [.int .i64 ((s75 (⟨zb0,zb1,zdm⟩:straight) a1).Num),.int .i64 ((s75 (⟨zb0,zb1,zdm⟩:straight) a1).Den)]]
  | _=>.no
theorem zM8:zac Tryd.prog 75:=⟨_,rfl,rfl,by kernel_rfl⟩
theorem zT6:Ok Tryd.prog 75 zIp:=zau zQT zM8 λ args K h=>by
  unfold zIp at h
  split at h
  · rename_i zb0 zb1 zdm a1
    have hk:=h
    exact⟨(λ _ _=>[]),(λ _=>false),zM7,q75 (⟨zb0,zb1,zdm⟩:straight) a1 K hk⟩
  · exact h.elim
abbrev T74:Tabs:=(Tabs.nil.addF 75 zIp)
theorem zQU:TabsOk Tryd.prog T74:=(TabsOk.nil.addF zT6)
abbrev G74:Ctrs:=csm T74 (λ _ _=>[]) (λ _=>false)
def zM9:Ann:=⟨7,[(0,zK [1,2,3] [2,3]),(1,zK [3] [3])],
 [],
 [],
 [],[]⟩
abbrev R74:=Frac
abbrev e74 (r:R74):List PA:=[.agg [.int .i64 r.Num,.int .i64 r.Den]]
section
variable {K:List PA->Prop}{c0:Int}{x:straight}
def s74 (c0:Int) (x:straight):Frac :=
  (s75 x c0)
end
theorem q74 (c0:Int) (x:straight) (K:List PA->Prop) (hk:K (e74 (s74 c0 x))):vcFun Tryd.prog G74 zM9 74 [.agg (zaS x),.one (.fp (zaL c0) 0)] K :=
  zaE (by kernel_rfl) hk
def zIq : List PA → COut
  | [.agg [.int .i64 zb0,.int .i64 zb1,.int .i64 zdm],.one (.fp [.int .i64 c0] 0)]=>.tot [.agg [.int .i64 ((s74 c0 (⟨zb0,zb1,zdm⟩:straight)).Num),.int .i64 ((s74 c0 (⟨zb0,zb1,zdm⟩:straight)).Den)]]
  | _=>.no
theorem zNa:zac Tryd.prog 74:=⟨_,rfl,rfl,by kernel_rfl⟩
theorem zT7:Ok Tryd.prog 74 zIq:=zau zQU zNa λ args K h=>by
  unfold zIq at h
  split at h
  · rename_i zb0 zb1 zdm c0
    have hk:=h
    exact⟨(λ _ _=>[]),(λ _=>false),zM9,q74 c0 (⟨zb0,zb1,zdm⟩:straight) K hk⟩
  · exact h.elim
abbrev zR3:Tabs:=Tabs.nil
theorem zNb:TabsOk Tryd.prog zR3:=TabsOk.nil
abbrev zT8:Ctrs:=csm zR3 (λ _ _=>[]) (λ _=>false)
def zEH:Ann:=⟨6,[(0,zK [0] []),(1,zK [2] [])],
 [],
 [],
 [],[]⟩
abbrev zT9:=Bool
abbrev zUa (r:zT9):List PA:=[.one (.bool r)]
section
variable {K:List PA->Prop}{x:Int}
def zIr (x:Int):Bool :=
  (x != x)
end
theorem zUb (x:Int) (K:List PA->Prop) (hk:K (zUa (zIr x))):vcFun Tryd.prog zT8 zEH 124 [.one (.int .i64 x)] K :=
  zaE (by kernel_rfl) hk
def zz3 : List PA → COut
  | [.one (.int .i64 a0)]=>.tot [.one (.bool (zIr a0))]
  | _=>.no
theorem zIs:zac Tryd.prog 124:=⟨_,rfl,rfl,by kernel_rfl⟩
theorem zQV:Ok Tryd.prog 124 zz3:=zau zNb zIs λ args K h=>by
  unfold zz3 at h
  split at h
  · rename_i a0
    have hk:=h
    exact⟨(λ _ _=>[]),(λ _=>false),zEH,zUb a0 K hk⟩
  · exact h.elim
abbrev zR4:Tabs:=(Tabs.nil.addF 124 zz3)
theorem zNc:TabsOk Tryd.prog zR4:=(TabsOk.nil.addF zQV)
abbrev zUc:Ctrs:=csm zR4 (λ _ _=>[]) (λ _=>false)
def zEI:Ann:=⟨20,[(0,zK [0,1] []),(1,zK [0,1,5] []),(2,zK [0,1,5,6] []),(3,zK [0,1,6,11] []),(4,zK [12] []),(5,zK [4] []),(6,zK [4] []),(7,zK [0,1,13] []),(8,zK [4] []),(9,zK [0,1,16] []),(10,zK [4] []),(11,zK [19] []),(12,zK [4] []),(13,zK [4] [])],
 [],
 [],
 [],[]⟩
abbrev zUd:=Int
abbrev zUe (r:zUd):List PA:=[.one (.int .i64 r)]
section
variable {K:List PA->Prop}{x:Int}{y_a1:Int}
def zIt (x:Int) (y_a1:Int):Int :=
  (cond (zIr x)
 (cond (zIr y_a1)
 (0:Int)
 (-1:Int))
 (cond (zIr y_a1)
 (1:Int)
 (cond (decide (x < y_a1))
 (-1:Int)
 (cond (decide (x > y_a1))
 (1:Int)
 (0:Int)))))
end
theorem zUf (x:Int) (y_a1:Int) (K:List PA->Prop) (hk:K (zUe (zIt x y_a1))):vcFun Tryd.prog zUc zEI 121 [.one (.int .i64 x),.one (.int .i64 y_a1)] K :=
  zaE (by kernel_rfl) (zt hk (λ hk=>(zt hk (λ hk=>hk) (λ hk=>hk))) (λ hk=>(zt hk (λ hk=>hk) (λ hk=>(zt hk (λ hk=>hk) (λ hk=>(zt hk (λ hk=>hk) (λ hk=>hk))))))))
def zz4 : List PA → COut
  | [.one (.int .i64 a0),.one (.int .i64 a1)]=>.tot [.one (.int .i64 (zIt a0 a1))]
  | _=>.no
theorem zIu:zac Tryd.prog 121:=⟨_,rfl,rfl,by kernel_rfl⟩
theorem zQW:Ok Tryd.prog 121 zz4:=zau zNc zIu λ args K h=>by
  unfold zz4 at h
  split at h
  · rename_i a0 a1
    have hk:=h
    exact⟨(λ _ _=>[]),(λ _=>false),zEI,zUf a0 a1 K hk⟩
  · exact h.elim
abbrev T98:Tabs:=(Tabs.nil.addF 121 zz4)
theorem zQX:TabsOk Tryd.prog T98:=(TabsOk.nil.addF zQW)
abbrev G98:Ctrs:=csm T98 (λ _ _=>[]) (λ _=>false)
def zNd:Ann:=⟨16,[(0,zK [2,3] [2,3]),(1,zK [4] [])],
 [],
 [],
 [],[]⟩
abbrev R98:=Int
abbrev e98 (r:R98):List PA:=[.one (.int .i64 r)]
section
variable {K:List PA->Prop}{a:Frac}{b:Frac}
def s98 (a:Frac) (b:Frac):Int :=
  (zIt (w64 (a.Num * b.Den)) (w64 (b.Num * a.Den)))
end
theorem q98 (a:Frac) (b:Frac) (K:List PA->Prop) (hk:K (e98 (s98 a b))):vcFun Tryd.prog G98 zNd 98 [.agg (zaR a),.agg (zaR b)] K :=
  zaE (by kernel_rfl) hk
def zC4 : List PA → COut
  | [.agg [.int .i64 zd2,.int .i64 zd3],.agg [.int .i64 zgp,.int .i64 zgq]]=>.tot [.one (.int .i64 (s98 (⟨zd2,zd3⟩:Frac) (⟨zgp,zgq⟩:Frac)))]
  | _=>.no
theorem zNe:zac Tryd.prog 98:=⟨_,rfl,rfl,by kernel_rfl⟩
theorem zR5:Ok Tryd.prog 98 zC4:=zau zQX zNe λ args K h=>by
  unfold zC4 at h
  split at h
  · rename_i zd2 zd3 zgp zgq
    have hk:=h
    exact⟨(λ _ _=>[]),(λ _=>false),zNd,q98 (⟨zd2,zd3⟩:Frac) (⟨zgp,zgq⟩:Frac) K hk⟩
  · exact h.elim
abbrev T97:Tabs:=(Tabs.nil.addF 98 zC4)
theorem zQY:TabsOk Tryd.prog T97:=(TabsOk.nil.addF zR5)
abbrev G97:Ctrs:=csm T97 (λ _ _=>[]) (λ _=>false)
def zNf:Ann:=⟨9,[(0,zK [2,3] [2,3]),(1,zK [4] [])],
 [],
 [],
 [],[]⟩
abbrev R97:=Bool
abbrev e97 (r:R97):List PA:=[.one (.bool r)]
section
variable {K:List PA->Prop}{a:Frac}{b:Frac}
def s97 (a:Frac) (b:Frac):Bool :=
  (decide ((s98 a b) < (0:Int)))
end
theorem q97 (a:Frac) (b:Frac) (K:List PA->Prop) (hk:K (e97 (s97 a b))):vcFun Tryd.prog G97 zNf 97 [.agg (zaR a),.agg (zaR b)] K :=
  zaE (by kernel_rfl) hk
def zIv : List PA → COut
  | [.agg [.int .i64 zd2,.int .i64 zd3],.agg [.int .i64 zgp,.int .i64 zgq]]=>.tot [.one (.bool (s97 (⟨zd2,zd3⟩:Frac) (⟨zgp,zgq⟩:Frac)))]
  | _=>.no
theorem zNg:zac Tryd.prog 97:=⟨_,rfl,rfl,by kernel_rfl⟩
theorem zUg:Ok Tryd.prog 97 zIv:=zau zQY zNg λ args K h=>by
  unfold zIv at h
  split at h
  · rename_i zd2 zd3 zgp zgq
    have hk:=h
    exact⟨(λ _ _=>[]),(λ _=>false),zNf,q97 (⟨zd2,zd3⟩:Frac) (⟨zgp,zgq⟩:Frac) K hk⟩
  · exact h.elim
abbrev T99:Tabs:=(Tabs.nil.addF 98 zC4)
theorem zQZ:TabsOk Tryd.prog T99:=(TabsOk.nil.addF zR5)
abbrev G99:Ctrs:=csm T99 (λ _ _=>[]) (λ _=>false)
def zNh:Ann:=⟨9,[(0,zK [2,3] [2,3]),(1,zK [4] [])],
 [],
 [],
 [],[]⟩
abbrev R99:=Bool
abbrev e99 (r:R99):List PA:=[.one (.bool r)]
section
variable {K:List PA->Prop}{a:Frac}{b:Frac}
def s99 (a:Frac) (b:Frac):Bool :=
  (decide ((s98 a b) > (0:Int)))
end
theorem q99 (a:Frac) (b:Frac) (K:List PA->Prop) (hk:K (e99 (s99 a b))):vcFun Tryd.prog G99 zNh 99 [.agg (zaR a),.agg (zaR b)] K :=
  zaE (by kernel_rfl) hk
def zIw : List PA → COut
  | [.agg [.int .i64 zd2,.int .i64 zd3],.agg [.int .i64 zgp,.int .i64 zgq]]=>.tot [.one (.bool (s99 (⟨zd2,zd3⟩:Frac) (⟨zgp,zgq⟩:Frac)))]
  | _=>.no
theorem zNi:zac Tryd.prog 99:=⟨_,rfl,rfl,by kernel_rfl⟩
theorem zUh:Ok Tryd.prog 99 zIw:=zau zQZ zNi λ args K h=>by
  unfold zIw at h
  split at h
  · rename_i zd2 zd3 zgp zgq
    have hk:=h
    exact⟨(λ _ _=>[]),(λ _=>false),zNh,q99 (⟨zd2,zd3⟩:Frac) (⟨zgp,zgq⟩:Frac) K hk⟩
  · exact h.elim
abbrev T96:Tabs:=((Tabs.nil.addF 97 zIv).addF 99 zIw)
theorem zQ0:TabsOk Tryd.prog T96:=((TabsOk.nil.addF zUg).addF zUh)
abbrev G96:Ctrs:=csm T96 (λ _ _=>[]) (λ _=>false)
def zIx:Ann:=⟨25,[(0,zK [0,1,4] [4]),(1,zK [0,1,4,5] [4,5]),(2,zK [1,4,5,12,13,14] [4,5]),(3,zK [1,4,5,12,13,14,15] [4,5]),(4,zK [1,4,5,7,12,13,14] [4,5,7]),(5,zK [1,4,5,7,12,13,14,21] [4,5,7]),(6,zK [1,4,5,12,13,14] [4,5]),(7,zK [1,4,5,12,13,14] [4,5]),(8,zK [4] [4])],
 [(3,zK [1,4,5,12,13,14] [4,5])],
 [(6,zK [1,4,5,7,12,13,14,21] [4,5,7])],
 [],[]⟩
abbrev R96:=Frac
abbrev e96 (r:R96):List PA:=[.agg [.int .i64 r.Num,.int .i64 r.Den]]
@[irreducible] def z96:=ptF Tryd.prog G96 zIx Tryd.f96
def zEJ (l_a0:(Sl Frac)) (zaI:(Sl Frac)) (zak:Int) (zas:Int) (zat:Int) (zc8:Nat->List PV):St:=⟨[(1,zP (.fn 97 [] [])),(4,zp 4 0),(5,zp 5 0),(12,zP (.sl zaI.len 2 zc8)),(13,zI (((l_a0.len:Int) - (1:Int)).toNat:Int)),(14,zI zak)],[(4,.box 69 (zm (zaR (⟨(0:Int),(0:Int)⟩:Frac)))),(5,.box 69 (zm (zaR (⟨zas,zat⟩:Frac))))],[]⟩
abbrev zIy (K:List PA->Prop) (l_a0:(Sl Frac)) (X:St->Prop) (P:(Sl Frac)->Int->Int->Int->Bool) (S:(Sl Frac)->Int->Int->Int->Frac):Prop:=∀ ⦃zaI:(Sl Frac)⦄ ⦃zak:Int⦄ ⦃zas:Int⦄ ⦃zat:Int⦄ ⦃zc8:Nat->List PV⦄,P zaI zak zas zat=true->K (e96 (S zaI zak zas zat))->zc8=zg zaR zaI->X (zEJ l_a0 zaI zak zas zat zc8)
section
variable {K:List PA->Prop}{l_a0:(Sl Frac)}{zaI:(Sl Frac)}{zak:Int}{zas:Int}{zat:Int}{zc8:Nat->List PV}{X0:St->Prop}{P0:(Sl Frac)->Int->Int->Int->Bool}{S0:(Sl Frac)->Int->Int->Int->Frac}{zck:(Sl Frac)}{zbA:Int}{zhz:Bool}{zdr:Int}{zbk:Int}{zcX:Int}{zcY:Int}{zlt:Nat->List PV}
def zsb (S0:(Sl Frac)->Int->Int->Int->Frac) (l_a0:(Sl Frac)) (zck:(Sl Frac)) (zbA:Int) (zhz:Bool) (zdr:Int) (zbk:Int) (zcX:Int) (zcY:Int):Frac :=
  (cond zhz
 (S0 zck (w64 (zbA+(1:Int))) zcX zcY)
 (S0 zck (w64 (zbA+(1:Int))) zdr zbk))
def zsc (P0:(Sl Frac)->Int->Int->Int->Bool) (l_a0:(Sl Frac)) (zck:(Sl Frac)) (zbA:Int) (zhz:Bool) (zdr:Int) (zbk:Int) (zcX:Int) (zcY:Int):Bool :=
  (cond zhz
 (P0 zck (w64 (zbA+(1:Int))) zcX zcY)
 (P0 zck (w64 (zbA+(1:Int))) zdr zbk))
theorem zIz (hX0:zIy K l_a0 X0 P0 S0) (hs:zsc P0 l_a0 zck zbA zhz zdr zbk zcX zcY=true) (hk:K (e96 (zsb S0 l_a0 zck zbA zhz zdr zbk zcX zcY))) (zsd:zlt=zg zaR zck):z96 K [1,1,0,1,0,0,1,1,0,0,1,1] [X0] ⟨[(1,zP (.fn 97 [] [])),(4,zp 4 0),(5,zp 5 0),(7,zp 7 0),(12,zP (.sl zck.len 2 zlt)),(13,zI (((l_a0.len:Int) - (1:Int)).toNat:Int)),(14,zI zbA),(21,zB zhz)],[(4,.box 69 (zm (zaR (⟨(0:Int),(0:Int)⟩:Frac)))),(5,.box 69 (zm (zaR (⟨zdr,zbk⟩:Frac)))),(7,.box 69 (zm (zaR (⟨zcX,zcY⟩:Frac))))],[]⟩:=by subst zsd;exact zaE (by kernel_rfl) (zc hs hk (λ hs hk=>(hX0 hs hk rfl)) (λ hs hk=>(hX0 hs hk rfl)))
def zi6 (l_a0:(Sl Frac)) (S0:(Sl Frac)->Int->Int->Int->Frac) (zaI:(Sl Frac)) (zak:Int) (zas:Int) (zat:Int):Frac :=
  (cond (decide (zak < (((l_a0.len : Int) - (1:Int)).toNat : Int)))
 (zsb S0 l_a0 zaI zak (s97 (zaI.get zak.toNat) (⟨zas,zat⟩:Frac)) zas zat ((zaI.get zak.toNat).Num) ((zaI.get zak.toNat).Den))
 (⟨zas,zat⟩:Frac))
def zi7 (l_a0:(Sl Frac)) (P0:(Sl Frac)->Int->Int->Int->Bool) (zaI:(Sl Frac)) (zak:Int) (zas:Int) (zat:Int):Bool :=
  (cond (decide (zak < (((l_a0.len : Int) - (1:Int)).toNat : Int)))
 (decide ((0<=zak/\zak < (zaI.len:Int))) &&
 (zsc P0 l_a0 zaI zak (s97 (zaI.get zak.toNat) (⟨zas,zat⟩:Frac)) zas zat ((zaI.get zak.toNat).Num) ((zaI.get zak.toNat).Den)))
 true)
def zi8 (l_a0:(Sl Frac)):Nat->(Sl Frac)->Int->Int->Int->Frac:=lpO (λ _ _ _ _=>default) (zi6 l_a0)
def zi9 (l_a0:(Sl Frac)):Nat->(Sl Frac)->Int->Int->Int->Bool:=lpO (λ _ _ _ _=>false) (zi7 l_a0)
def zz5 (l_a0:(Sl Frac)) (zaI:(Sl Frac)) (zak:Int) (zas:Int) (zat:Int):Frac:=zi8 l_a0 Fuel zaI zak zas zat
def zz6 (l_a0:(Sl Frac)) (zaI:(Sl Frac)) (zak:Int) (zas:Int) (zat:Int):Bool:=zi9 l_a0 Fuel zaI zak zas zat
theorem zIA (hs:zz6 l_a0 zaI zak zas zat=true) (hk:K (e96 (zz5 l_a0 zaI zak zas zat))) (zhA:zc8=zg zaR zaI):z96 K [1,1,0,1,0] [] (zEJ l_a0 zaI zak zas zat zc8) :=
  zl (λ X=>z96 K [1,1,0,1,0,0] [X]) (by kernel_rfl) λ X0 hX =>
  (show ∀ k, zIy K l_a0 X0 (zi9 l_a0 k) (zi8 l_a0 k) from zgd _ _ (zi7 l_a0) (zi6 l_a0) (zIy K l_a0 X0)
 (by intro _ _ _ _ _ hs;exact absurd hs dqk)
 (by intro P0 S0 hX0 zaI zak zas zat zc8 hs hk zhA;subst zhA;exact hX _ (zaE (by kernel_rfl) (zc hs hk (λ hs hk=>(zaJ hs λ hc hs=>And.intro hc (zIz hX0 hs hk rfl))) (λ hs hk=>hk))))) _ hs hk zhA
def s96 (l_a0:(Sl Frac)):Frac :=
  (zz5 l_a0 (⟨((l_a0.len:Int) - (1:Int)).toNat,(λ i=>l_a0.get (i+((1:Int).toNat)))⟩:Sl Frac) (0:Int) ((l_a0.get 0).Num) ((l_a0.get 0).Den))
def p96 (l_a0:(Sl Frac)):Bool :=
  (decide ((0<=(0:Int)/\(0:Int) < (l_a0.len:Int))) &&
 (decide ((0<=(1:Int)/\(1:Int)<=(l_a0.len:Int)/\(l_a0.len:Int)<=(l_a0.len:Int))) &&
 (zz6 l_a0 (⟨((l_a0.len:Int) - (1:Int)).toNat,(λ i=>l_a0.get (i+((1:Int).toNat)))⟩:Sl Frac) (0:Int) ((l_a0.get 0).Num) ((l_a0.get 0).Den))))
end
theorem q96 (l_a0:(Sl Frac)) (K:List PA->Prop) (hs:p96 l_a0=true) (hk:K (e96 (s96 l_a0))):vcFun Tryd.prog G96 zIx 96 [.one (.sl l_a0.len 2 (λ i=>zaR (l_a0.get i))),.one (.fn 97 [] [])] K :=
  zaE (by kernel_rfl) (zaJ hs λ hc hs=>And.intro hc (zaJ hs λ hc hs=>And.intro hc (zIA hs hk rfl)))
abbrev zR6:Ctrs:=csm T96 (λ _ _=>[]) (λ _=>false)
def zz7:Ann:=⟨25,[(0,zK [0,1,4] [4]),(1,zK [0,1,4,5] [4,5]),(2,zK [1,4,5,12,13,14] [4,5]),(3,zK [1,4,5,12,13,14,15] [4,5]),(4,zK [1,4,5,7,12,13,14] [4,5,7]),(5,zK [1,4,5,7,12,13,14,21] [4,5,7]),(6,zK [1,4,5,12,13,14] [4,5]),(7,zK [1,4,5,12,13,14] [4,5]),(8,zK [4] [4])],
 [(3,zK [1,4,5,12,13,14] [4,5])],
 [(6,zK [1,4,5,7,12,13,14,21] [4,5,7])],
 [],[]⟩
abbrev zUi:=Frac
abbrev zOU (r:zUi):List PA:=[.agg [.int .i64 r.Num,.int .i64 r.Den]]
@[irreducible] def z96a:=ptF Tryd.prog zR6 zz7 Tryd.f96
def zz8 (l_a0:(Sl Frac)) (zaI:(Sl Frac)) (zak:Int) (zas:Int) (zat:Int) (zc8:Nat->List PV):St:=⟨[(1,zP (.fn 99 [] [])),(4,zp 4 0),(5,zp 5 0),(12,zP (.sl zaI.len 2 zc8)),(13,zI (((l_a0.len:Int) - (1:Int)).toNat:Int)),(14,zI zak)],[(4,.box 69 (zm (zaR (⟨(0:Int),(0:Int)⟩:Frac)))),(5,.box 69 (zm (zaR (⟨zas,zat⟩:Frac))))],[]⟩
abbrev zz9 (K:List PA->Prop) (l_a0:(Sl Frac)) (X:St->Prop) (P:(Sl Frac)->Int->Int->Int->Bool) (S:(Sl Frac)->Int->Int->Int->Frac):Prop:=∀ ⦃zaI:(Sl Frac)⦄ ⦃zak:Int⦄ ⦃zas:Int⦄ ⦃zat:Int⦄ ⦃zc8:Nat->List PV⦄,P zaI zak zas zat=true->K (zOU (S zaI zak zas zat))->zc8=zg zaR zaI->X (zz8 l_a0 zaI zak zas zat zc8)
section
variable {K:List PA->Prop}{l_a0:(Sl Frac)}{zaI:(Sl Frac)}{zak:Int}{zas:Int}{zat:Int}{zc8:Nat->List PV}{X0:St->Prop}{P0:(Sl Frac)->Int->Int->Int->Bool}{S0:(Sl Frac)->Int->Int->Int->Frac}{zck:(Sl Frac)}{zbA:Int}{zhz:Bool}{zdr:Int}{zbk:Int}{zcX:Int}{zcY:Int}{zlt:Nat->List PV}
def znU (S0:(Sl Frac)->Int->Int->Int->Frac) (l_a0:(Sl Frac)) (zck:(Sl Frac)) (zbA:Int) (zhz:Bool) (zdr:Int) (zbk:Int) (zcX:Int) (zcY:Int):Frac :=
  (cond zhz
 (S0 zck (w64 (zbA+(1:Int))) zcX zcY)
 (S0 zck (w64 (zbA+(1:Int))) zdr zbk))
def znV (P0:(Sl Frac)->Int->Int->Int->Bool) (l_a0:(Sl Frac)) (zck:(Sl Frac)) (zbA:Int) (zhz:Bool) (zdr:Int) (zbk:Int) (zcX:Int) (zcY:Int):Bool :=
  (cond zhz
 (P0 zck (w64 (zbA+(1:Int))) zcX zcY)
 (P0 zck (w64 (zbA+(1:Int))) zdr zbk))
theorem zC5 (hX0:zz9 K l_a0 X0 P0 S0) (hs:znV P0 l_a0 zck zbA zhz zdr zbk zcX zcY=true) (hk:K (zOU (znU S0 l_a0 zck zbA zhz zdr zbk zcX zcY))) (zsd:zlt=zg zaR zck):z96a K [1,1,0,1,0,0,1,1,0,0,1,1] [X0] ⟨[(1,zP (.fn 99 [] [])),(4,zp 4 0),(5,zp 5 0),(7,zp 7 0),(12,zP (.sl zck.len 2 zlt)),(13,zI (((l_a0.len:Int) - (1:Int)).toNat:Int)),(14,zI zbA),(21,zB zhz)],[(4,.box 69 (zm (zaR (⟨(0:Int),(0:Int)⟩:Frac)))),(5,.box 69 (zm (zaR (⟨zdr,zbk⟩:Frac)))),(7,.box 69 (zm (zaR (⟨zcX,zcY⟩:Frac))))],[]⟩:=by subst zsd;exact zaE (by kernel_rfl) (zc hs hk (λ hs hk=>(hX0 hs hk rfl)) (λ hs hk=>(hX0 hs hk rfl)))
def zgM (l_a0:(Sl Frac)) (S0:(Sl Frac)->Int->Int->Int->Frac) (zaI:(Sl Frac)) (zak:Int) (zas:Int) (zat:Int):Frac :=
  (cond (decide (zak < (((l_a0.len : Int) - (1:Int)).toNat : Int)))
 (znU S0 l_a0 zaI zak (s99 (zaI.get zak.toNat) (⟨zas,zat⟩:Frac)) zas zat ((zaI.get zak.toNat).Num) ((zaI.get zak.toNat).Den))
 (⟨zas,zat⟩:Frac))
def zgN (l_a0:(Sl Frac)) (P0:(Sl Frac)->Int->Int->Int->Bool) (zaI:(Sl Frac)) (zak:Int) (zas:Int) (zat:Int):Bool :=
  (cond (decide (zak < (((l_a0.len : Int) - (1:Int)).toNat : Int)))
 (decide ((0<=zak/\zak < (zaI.len:Int))) &&
 (znV P0 l_a0 zaI zak (s99 (zaI.get zak.toNat) (⟨zas,zat⟩:Frac)) zas zat ((zaI.get zak.toNat).Num) ((zaI.get zak.toNat).Den)))
 true)
def zgO (l_a0:(Sl Frac)):Nat->(Sl Frac)->Int->Int->Int->Frac:=lpO (λ _ _ _ _=>default) (zgM l_a0)
def zgP (l_a0:(Sl Frac)):Nat->(Sl Frac)->Int->Int->Int->Bool:=lpO (λ _ _ _ _=>false) (zgN l_a0)
def zuQ (l_a0:(Sl Frac)) (zaI:(Sl Frac)) (zak:Int) (zas:Int) (zat:Int):Frac:=zgO l_a0 Fuel zaI zak zas zat
def zuR (l_a0:(Sl Frac)) (zaI:(Sl Frac)) (zak:Int) (zas:Int) (zat:Int):Bool:=zgP l_a0 Fuel zaI zak zas zat
theorem zC6 (hs:zuR l_a0 zaI zak zas zat=true) (hk:K (zOU (zuQ l_a0 zaI zak zas zat))) (zhA:zc8=zg zaR zaI):z96a K [1,1,0,1,0] [] (zz8 l_a0 zaI zak zas zat zc8) :=
  zl (λ X=>z96a K [1,1,0,1,0,0] [X]) (by kernel_rfl) λ X0 hX =>
  (show ∀ k, zz9 K l_a0 X0 (zgP l_a0 k) (zgO l_a0 k) from zgd _ _ (zgN l_a0) (zgM l_a0) (zz9 K l_a0 X0)
 (by intro _ _ _ _ _ hs;exact absurd hs dqk)
 (by intro P0 S0 hX0 zaI zak zas zat zc8 hs hk zhA;subst zhA;exact hX _ (zaE (by kernel_rfl) (zc hs hk (λ hs hk=>(zaJ hs λ hc hs=>And.intro hc (zC5 hX0 hs hk rfl))) (λ hs hk=>hk))))) _ hs hk zhA
def zAa (l_a0:(Sl Frac)):Frac :=
  (zuQ l_a0 (⟨((l_a0.len:Int) - (1:Int)).toNat,(λ i=>l_a0.get (i+((1:Int).toNat)))⟩:Sl Frac) (0:Int) ((l_a0.get 0).Num) ((l_a0.get 0).Den))
def zNj (l_a0:(Sl Frac)):Bool :=
  (decide ((0<=(0:Int)/\(0:Int) < (l_a0.len:Int))) &&
 (decide ((0<=(1:Int)/\(1:Int)<=(l_a0.len:Int)/\(l_a0.len:Int)<=(l_a0.len:Int))) &&
 (zuR l_a0 (⟨((l_a0.len:Int) - (1:Int)).toNat,(λ i=>l_a0.get (i+((1:Int).toNat)))⟩:Sl Frac) (0:Int) ((l_a0.get 0).Num) ((l_a0.get 0).Den))))
end
theorem zUj (l_a0:(Sl Frac)) (K:List PA->Prop) (hs:zNj l_a0=true) (hk:K (zOU (zAa l_a0))):vcFun Tryd.prog zR6 zz7 96 [.one (.sl l_a0.len 2 (λ i=>zaR (l_a0.get i))),.one (.fn 99 [] [])] K :=
  zaE (by kernel_rfl) (zaJ hs λ hc hs=>And.intro hc (zaJ hs λ hc hs=>And.intro hc (zC6 hs hk rfl)))
def zIB : List PA → COut
  | [.one (.sl zbq zcO zbr),.one (.fn 97 [] [])]=>.det (IsE zaR 2 zcO zbr/\p96 (⟨zbq,zhm zbr⟩:(Sl Frac))=true) [.agg [.int .i64 ((s96 (⟨zbq,zhm zbr⟩:(Sl Frac))).Num),.int .i64 ((s96 (⟨zbq,zhm zbr⟩:(Sl Frac))).Den)]]
  | [.one (.sl zbq zcO zbr),.one (.fn 99 [] [])]=>.det (IsE zaR 2 zcO zbr/\zNj (⟨zbq,zhm zbr⟩:(Sl Frac))=true) [.agg [.int .i64 ((zAa (⟨zbq,zhm zbr⟩:(Sl Frac))).Num),.int .i64 ((zAa (⟨zbq,zhm zbr⟩:(Sl Frac))).Den)]]
  | _=>.no
theorem zNk:zac Tryd.prog 96:=⟨_,rfl,rfl,by kernel_rfl⟩
theorem zUk:Ok Tryd.prog 96 zIB:=zau zQ0 zNk λ args K h=>by
  unfold zIB at h
  split at h
  · rename_i zbq zcO zbr
    obtain⟨⟨⟨rfl,zb6,rfl⟩,hs⟩,hk⟩:=h
    try rw[zft zb6] at hs
    try rw[zft zb6] at hk
    exact⟨(λ _ _=>[]),(λ _=>false),zIx,q96 (⟨zbq,zb6⟩:(Sl Frac)) K hs hk⟩
  · rename_i zbq zcO zbr
    obtain⟨⟨⟨rfl,zb6,rfl⟩,hs⟩,hk⟩:=h
    try rw[zft zb6] at hs
    try rw[zft zb6] at hk
    exact⟨(λ _ _=>[]),(λ _=>false),zz7,zUj (⟨zbq,zb6⟩:(Sl Frac)) K hs hk⟩
  · exact h.elim
abbrev T73:Tabs:=(((Tabs.nil.addF 72 zzV).addF 74 zIq).addF 96 zIB)
theorem zQ1:TabsOk Tryd.prog T73:=(((TabsOk.nil.addF zQK).addF zT7).addF zUk)
abbrev G73:Ctrs:=csm T73 (λ _ _=>[]) (λ _=>false)
def zIC:Ann:=⟨39,[(0,zK [1,2,4,5] [2,4,5]),(1,zK [1,2,4,5,6] [2,4,5]),(2,zK [1,4,5,6,12,13,14] [4,5]),(3,zK [1,4,5,6,12,13,14,15] [4,5,23]),(4,zK [1,4,5,6,8,12,13,14] [4,5,8,23]),(5,zK [1,4,5,6,12,13,14] [4,5,23]),(6,zK [1,4,5,6,12,13,14] [4,5,23]),(7,zK [4,5,6,9] [4,5,9,23]),(8,zK [4,5,9,10] [4,5,9,10]),(9,zK [4,5] [4,5])],
 [(3,⟨[1,4,5,6,12,13,14],[4,5,23],[(6,23,69,λ _=>zaR default)],[],[],[],[]⟩)],
 [(7,zK [4,5,6] [4,5,23]),(8,zK [4,5,6,9] [4,5,9,23]),(9,zK [4,5,9,10] [4,5,9,10])],
 [],[]⟩
abbrev R73:=(Frac×Frac)
abbrev e73 (r:R73):List PA:=[.agg [.int .i64 r.1.Num,.int .i64 r.1.Den],.agg [.int .i64 r.2.Num,.int .i64 r.2.Den]]
@[irreducible] def z73:=ptF Tryd.prog G73 zIC Tryd.f73
def zEK (c0:Int) (s:set) (zak:Int) (zdB:(Sl Frac)) (zgr:Nat->List PV):St:=⟨[(1,zP (.fn 74 [] [.fp (zaL c0) 0])),(4,zp 4 0),(5,zp 5 0),(6,zv 23),(12,zS zaS 3 s.corners),(13,zI (s.corners.len:Int)),(14,zI zak)],[(4,.box 69 (zm (zaR (⟨(0:Int),(0:Int)⟩:Frac)))),(5,.box 69 (zm (zaR (⟨(0:Int),(0:Int)⟩:Frac)))),(23,.vec 69 2 16 zdB.len zgr)],[]⟩
abbrev zNl (K:List PA->Prop) (c0:Int) (s:set) (X:St->Prop) (P:Int->(Sl Frac)->Bool) (S:Int->(Sl Frac)->(Frac×Frac)):Prop:=∀ ⦃zak:Int⦄ ⦃zdB:(Sl Frac)⦄ ⦃zgr:Nat->List PV⦄,P zak zdB=true->K (e73 (S zak zdB))->zgr=zg zaR zdB->X (zEK c0 s zak zdB zgr)
section
variable {K:List PA->Prop}{c0:Int}{s:set}{zak:Int}{zdB:(Sl Frac)}{zgr:Nat->List PV}{X0:St->Prop}{P0:Int->(Sl Frac)->Bool}{S0:Int->(Sl Frac)->(Frac×Frac)}{zif:(Sl Frac)}{zAb:Nat->List PV}{zdC:Int}{zdD:Int}{zjW:(Sl Frac)}{zAc:Nat->List PV}{zfB:Int}{zfC:Int}
def zse (zdC:Int) (zdD:Int) (zfB:Int) (zfC:Int):(Frac×Frac) :=
  ((s72 zdC zdD),(s72 zfB zfC))
def zsf (zdC:Int) (zdD:Int) (zfB:Int) (zfC:Int):Bool :=
  (decide ((p72 zdC zdD=true)) &&
 (decide ((p72 zfB zfC=true)) &&
 true))
theorem zID (hs:zsf zdC zdD zfB zfC=true) (hk:K (e73 (zse zdC zdD zfB zfC))):z73 K [1,1,1,1,1] [] ⟨[(4,zp 4 0),(5,zp 5 0),(9,zp 9 0),(10,zp 10 0)],[(4,.box 69 (zm (zaR (⟨(0:Int),(0:Int)⟩:Frac)))),(5,.box 69 (zm (zaR (⟨(0:Int),(0:Int)⟩:Frac)))),(9,.box 69 (zm (zaR (⟨zdC,zdD⟩:Frac)))),(10,.box 69 (zm (zaR (⟨zfB,zfC⟩:Frac))))],[]⟩:=zaE (by kernel_rfl) (zaJ hs λ hc hs=>And.intro hc (zaJ hs λ hc hs=>And.intro hc hk))
def zsg (zdC:Int) (zdD:Int) (zjW:(Sl Frac)):(Frac×Frac) :=
  (zse zdC zdD ((zAa zjW).Num) ((zAa zjW).Den))
def zsh (zdC:Int) (zdD:Int) (zjW:(Sl Frac)):Bool :=
  (decide ((zNj zjW=true)) &&
 (zsf zdC zdD ((zAa zjW).Num) ((zAa zjW).Den)))
theorem zIE (hs:zsh zdC zdD zjW=true) (hk:K (e73 (zsg zdC zdD zjW))) (zIF:zAc=zg zaR zjW):z73 K [1,1,1,1] [] ⟨[(4,zp 4 0),(5,zp 5 0),(6,zv 23),(9,zp 9 0)],[(4,.box 69 (zm (zaR (⟨(0:Int),(0:Int)⟩:Frac)))),(5,.box 69 (zm (zaR (⟨(0:Int),(0:Int)⟩:Frac)))),(9,.box 69 (zm (zaR (⟨zdC,zdD⟩:Frac)))),(23,.vec 69 2 16 zjW.len zAc)],[]⟩:=by subst zIF;exact zaE (by kernel_rfl) (zaJ hs λ hc hs=>And.intro (And.intro (zE zaR 2 zjW.get) hc) (zID hs hk))
def zhB (zif:(Sl Frac)):(Frac×Frac) :=
  (zsg ((s96 zif).Num) ((s96 zif).Den) zif)
def znW (zif:(Sl Frac)):Bool :=
  (decide ((p96 zif=true)) &&
 (zsh ((s96 zif).Num) ((s96 zif).Den) zif))
theorem zIG (hs:znW zif=true) (hk:K (e73 (zhB zif))) (zIH:zAb=zg zaR zif):z73 K [1,1,1] [] ⟨[(4,zp 4 0),(5,zp 5 0),(6,zv 23)],[(4,.box 69 (zm (zaR (⟨(0:Int),(0:Int)⟩:Frac)))),(5,.box 69 (zm (zaR (⟨(0:Int),(0:Int)⟩:Frac)))),(23,.vec 69 2 16 zif.len zAb)],[]⟩:=by subst zIH;exact zaE (by kernel_rfl) (zaJ hs λ hc hs=>And.intro (And.intro (zE zaR 2 zif.get) hc) (zIE hs hk rfl))
def zja (c0:Int) (s:set) (S0:Int->(Sl Frac)->(Frac×Frac)) (zak:Int) (zdB:(Sl Frac)):(Frac×Frac) :=
  (cond (decide (zak < (s.corners.len : Int)))
 (S0 (w64 (zak+(1:Int))) (⟨(zdB.len+1),(zh3 zdB.len zdB.get (λ _=>(s74 c0 (s.corners.get zak.toNat))))⟩:Sl Frac))
 (zhB zdB))
def zjb (c0:Int) (s:set) (P0:Int->(Sl Frac)->Bool) (zak:Int) (zdB:(Sl Frac)):Bool :=
  (cond (decide (zak < (s.corners.len : Int)))
 (decide ((0<=zak/\zak < (s.corners.len:Int))) &&
 (decide (((zdB.len+1) * 16<=140737488355328/\zdB.len+1<=9223372036854775807)) &&
 (P0 (w64 (zak+(1:Int))) (⟨(zdB.len+1),(zh3 zdB.len zdB.get (λ _=>(s74 c0 (s.corners.get zak.toNat))))⟩:Sl Frac))))
 (znW zdB))
def zjc (c0:Int) (s:set):Nat->Int->(Sl Frac)->(Frac×Frac):=lpO (λ _ _=>default) (zja c0 s)
def zjd (c0:Int) (s:set):Nat->Int->(Sl Frac)->Bool:=lpO (λ _ _=>false) (zjb c0 s)
def zAd (c0:Int) (s:set) (zak:Int) (zdB:(Sl Frac)):(Frac×Frac):=zjc c0 s Fuel zak zdB
def zAe (c0:Int) (s:set) (zak:Int) (zdB:(Sl Frac)):Bool:=zjd c0 s Fuel zak zdB
theorem zII (hs:zAe c0 s zak zdB=true) (hk:K (e73 (zAd c0 s zak zdB))) (zsi:zgr=zg zaR zdB):z73 K [1,1,0,1,0] [] (zEK c0 s zak zdB zgr) :=
  zl (λ X=>z73 K [1,1,0,1,0,0] [X]) (by kernel_rfl) λ X0 hX =>
  (show ∀ k, zNl K c0 s X0 (zjd c0 s k) (zjc c0 s k) from zgd _ _ (zjb c0 s) (zja c0 s) (zNl K c0 s X0)
 (by intro _ _ _ hs;exact absurd hs dqk)
 (by intro P0 S0 hX0 zak zdB zgr hs hk zsi;subst zsi;exact hX _ (zaE (by kernel_rfl) (zc hs hk (λ hs hk=>(zaJ hs λ hc hs=>And.intro hc (zaJ hs λ hc hs=>And.intro hc (hX0 hs hk (zpr (enc:=zaR) (f:=zdB.get) (h:=(λ _=>(s74 c0 (s.corners.get zak.toNat)))) rfl rfl))))) (λ hs hk=>(zIG hs hk rfl)))))) _ hs hk zsi
def s73 (c0:Int) (s:set):(Frac×Frac) :=
  (zAd c0 s (0:Int) (⟨0,(λ _=>default)⟩:Sl Frac))
def p73 (c0:Int) (s:set):Bool :=
  (zAe c0 s (0:Int) (⟨0,(λ _=>default)⟩:Sl Frac))
end
theorem q73 (c0:Int) (s:set) (K:List PA->Prop) (hs:p73 c0 s=true) (hk:K (e73 (s73 c0 s))):vcFun Tryd.prog G73 zIC 73 [.agg (znn s),.one (.fn 74 [] [.fp (zaL c0) 0])] K :=
  zaE (by kernel_rfl) (zII hs hk rfl)
def zIJ : List PA → COut
  | [.agg [.sl zah za1 zai,.sl zaC zb8 zaD],.one (.fn 74 [] [.fp [.int .i64 c0] 0])]=>.det (IsE zad 3 za1 zai/\IsE zaS 3 zb8 zaD/\p73 c0 (⟨(⟨(⟨zah,zaj zai⟩:(Sl Gate))⟩:list),(⟨zaC,zcR zaD⟩:(Sl straight))⟩:set)=true) [.agg [.int .i64 (((s73 c0 (⟨(⟨(⟨zah,zaj zai⟩:(Sl Gate))⟩:list),(⟨zaC,zcR zaD⟩:(Sl straight))⟩:set)).1).Num),.int .i64 (((s73 c0 (⟨(⟨(⟨zah,zaj zai⟩:(Sl Gate))⟩:list),(⟨zaC,zcR zaD⟩:(Sl straight))⟩:set)).1).Den)],.agg [.int .i64 (((s73 c0 (⟨(⟨(⟨zah,zaj zai⟩:(Sl Gate))⟩:list),(⟨zaC,zcR zaD⟩:(Sl straight))⟩:set)).2).Num),.int .i64 (((s73 c0 (⟨(⟨(⟨zah,zaj zai⟩:(Sl Gate))⟩:list),(⟨zaC,zcR zaD⟩:(Sl straight))⟩:set)).2).Den)]]
  | _=>.no
theorem zNm:zac Tryd.prog 73:=⟨_,rfl,rfl,by kernel_rfl⟩
theorem zUl:Ok Tryd.prog 73 zIJ:=zau zQ1 zNm λ args K h=>by
  unfold zIJ at h
  split at h
  · rename_i zah za1 zai zaC zb8 zaD c0
    obtain⟨⟨⟨rfl,zaB,rfl⟩,⟨rfl,zbw,rfl⟩,hs⟩,hk⟩:=h
    try rw[zae zaB] at hs
    try rw[zae zaB] at hk
    try rw[zcN zbw] at hs
    try rw[zcN zbw] at hk
    exact⟨(λ _ _=>[]),(λ _=>false),zIC,q73 c0 (⟨(⟨(⟨zah,zaB⟩:(Sl Gate))⟩:list),(⟨zaC,zbw⟩:(Sl straight))⟩:set) K hs hk⟩
  · exact h.elim
abbrev T50:Tabs:=((((Tabs.nil.addF 70 zv1).addF 71 zC3).addF 72 zzV).addF 73 zIJ)
theorem zQ2:TabsOk Tryd.prog T50:=((((TabsOk.nil.addF zOT).addF zR2).addF zQK).addF zUl)
abbrev G50:Ctrs:=csm T50 (λ _ _=>[]) (λ _=>false)
def zNn:Ann:=⟨24,[(0,zK [2,3,4,5] [2,3,4,5]),(1,zK [2,3,4,5,9] [2,3,4,5]),(2,zK [4,5,6] [4,5,6]),(3,zK [4,5] [4,5]),(4,zK [4,5] [4,5])],
 [],
 [],
 [],[]⟩
abbrev R50:=(Frac×Frac)
abbrev e50 (r:R50):List PA:=[.agg [.int .i64 r.1.Num,.int .i64 r.1.Den],.agg [.int .i64 r.2.Num,.int .i64 r.2.Den]]
section
variable {K:List PA->Prop}{s:set}{z:Int}
def s50 (s:set) (z:Int):(Frac×Frac) :=
  (cond (s70 s.list)
 ((s72 ((s71 s.list).Low) (1:Int)),(s72 ((s71 s.list).High) (1:Int)))
 (((s73 z s).1),((s73 z s).2)))
def p50 (s:set) (z:Int):Bool :=
  (decide ((p70 s.list=true)) &&
 (cond (s70 s.list)
 (decide ((p71 s.list=true)) &&
 (decide ((p72 ((s71 s.list).Low) (1:Int)=true)) &&
 (decide ((p72 ((s71 s.list).High) (1:Int)=true)) &&
 true)))
 (decide ((p73 z s=true)) &&
 true)))
end
theorem q50 (s:set) (z:Int) (K:List PA->Prop) (hs:p50 s z=true) (hk:K (e50 (s50 s z))):vcFun Tryd.prog G50 zNn 50 [.agg (znn s),.one (.int .i64 z)] K :=
  zaE (by kernel_rfl) (zaJ hs λ hc hs=>And.intro (And.intro (zE zad 3 s.list.Gates.get) hc) (zc hs hk (λ hs hk=>(zaJ hs λ hc hs=>And.intro (And.intro (zE zad 3 s.list.Gates.get) hc) (zaJ hs λ hc hs=>And.intro hc (zaJ hs λ hc hs=>And.intro hc hk)))) (λ hs hk=>(zaJ hs λ hc hs=>And.intro (And.intro (zE zad 3 s.list.Gates.get) (And.intro (zE zaS 3 s.corners.get) hc)) hk))))
def zIK : List PA → COut
  | [.agg [.sl zah za1 zai,.sl zaC zb8 zaD],.one (.int .i64 a1)]=>.det (IsE zad 3 za1 zai/\IsE zaS 3 zb8 zaD/\p50 (⟨(⟨(⟨zah,zaj zai⟩:(Sl Gate))⟩:list),(⟨zaC,zcR zaD⟩:(Sl straight))⟩:set) a1=true) [.agg [.int .i64 (((s50 (⟨(⟨(⟨zah,zaj zai⟩:(Sl Gate))⟩:list),(⟨zaC,zcR zaD⟩:(Sl straight))⟩:set) a1).1).Num),.int .i64 (((s50 (⟨(⟨(⟨zah,zaj zai⟩:(Sl Gate))⟩:list),(⟨zaC,zcR zaD⟩:(Sl straight))⟩:set) a1).1).Den)],.agg [.int .i64 (((s50 (⟨(⟨(⟨zah,zaj zai⟩:(Sl Gate))⟩:list),(⟨zaC,zcR zaD⟩:(Sl straight))⟩:set) a1).2).Num),.int .i64 (((s50 (⟨(⟨(⟨zah,zaj zai⟩:(Sl Gate))⟩:list),(⟨zaC,zcR zaD⟩:(Sl straight))⟩:set) a1).2).Den)]]
  | _=>.no
theorem zNo:zac Tryd.prog 50:=⟨_,rfl,rfl,by kernel_rfl⟩
theorem zUm:Ok Tryd.prog 50 zIK:=zau zQ2 zNo λ args K h=>by
  unfold zIK at h
  split at h
  · rename_i zah za1 zai zaC zb8 zaD a1
    obtain⟨⟨⟨rfl,zaB,rfl⟩,⟨rfl,zbw,rfl⟩,hs⟩,hk⟩:=h
    try rw[zae zaB] at hs
    try rw[zae zaB] at hk
    try rw[zcN zbw] at hs
    try rw[zcN zbw] at hk
    exact⟨(λ _ _=>[]),(λ _=>false),zNn,q50 (⟨(⟨(⟨zah,zaB⟩:(Sl Gate))⟩:list),(⟨zaC,zbw⟩:(Sl straight))⟩:set) a1 K hs hk⟩
  · exact h.elim
abbrev T21:Tabs:=(((Tabs.nil.addF 47 zvZ).addF 48 zIo).addF 50 zIK)
theorem zQ3:TabsOk Tryd.prog T21:=(((TabsOk.nil.addF zOQ).addF zT5).addF zUm)
abbrev G21:Ctrs:=csm T21 (λ _ _=>[]) (λ _=>false)
def zIL:Ann:=⟨35,[(0,zK [0,3,4,5] [3,4,5]),(1,zK [0,3,4,5,13] [3,4,5]),(2,zK [4,5,6] [4,5]),(3,zK [3,4,5,7,8] [3,4,5,7]),(4,zK [3,4,5,7,8,23] [3,4,5,7]),(5,zK [4,5,6] [4,5]),(6,zK [4,5,9,10] [4,5,9,10]),(7,zK [4,5,6] [4,5])],
 [],
 [(2,zK [0,3,4,5,13] [3,4,5]),(3,zK [0,3,4,5] [3,4,5]),(4,zK [3,4,5,7,8] [3,4,5,7]),(6,zK [3,4,5,7] [3,4,5,7]),(7,zK [4,5,9,10] [4,5,9,10])],
 [],[]⟩
abbrev R21:=(Frac×Frac×Int)
abbrev e21 (r:R21):List PA:=[.agg [.int .i64 r.1.Num,.int .i64 r.1.Den],.agg [.int .i64 r.2.1.Num,.int .i64 r.2.1.Den],.one (.int .i64 r.2.2)]
@[irreducible] def z21:=ptF Tryd.prog G21 zIL Tryd.f21
section
variable {K:List PA->Prop}{zaa:(Sl Gate)}{z:Int}{zhy:Bool}{ev2:Int}{zp0:(Sl Gate)}{zh5:(Sl straight)}{zAf:Nat->List PV}{zlg:Nat->List PV}{zjX:(Sl Gate)}{zjY:(Sl straight)}{zAg:Nat->List PV}{zAh:Nat->List PV}{znX:Int}{znY:Int}{zkl:Int}{zkm:Int}
def zsj (znX:Int) (znY:Int) (zkl:Int) (zkm:Int):(Frac×Frac×Int) :=
  ((⟨znX,znY⟩:Frac),(⟨zkl,zkm⟩:Frac),(0:Int))
theorem zIM (hk:K (e21 (zsj znX znY zkl zkm))):z21 K [1,1,1,1,1] [] ⟨[(4,zp 4 0),(5,zp 5 0),(9,zp 9 0),(10,zp 10 0)],[(4,.box 69 (zm (zaR (⟨(0:Int),(0:Int)⟩:Frac)))),(5,.box 69 (zm (zaR (⟨(0:Int),(0:Int)⟩:Frac)))),(9,.box 69 (zm (zaR (⟨znX,znY⟩:Frac)))),(10,.box 69 (zm (zaR (⟨zkl,zkm⟩:Frac))))],[]⟩:=zaE (by kernel_rfl) hk
def zsk (z:Int) (zjX:(Sl Gate)) (zjY:(Sl straight)):(Frac×Frac×Int) :=
  (zsj (((s50 (⟨(⟨zjX⟩:list),zjY⟩:set) z).1).Num) (((s50 (⟨(⟨zjX⟩:list),zjY⟩:set) z).1).Den) (((s50 (⟨(⟨zjX⟩:list),zjY⟩:set) z).2).Num) (((s50 (⟨(⟨zjX⟩:list),zjY⟩:set) z).2).Den))
def zsl (z:Int) (zjX:(Sl Gate)) (zjY:(Sl straight)):Bool :=
  (decide ((p50 (⟨(⟨zjX⟩:list),zjY⟩:set) z=true)) &&
 true)
theorem zIN (hs:zsl z zjX zjY=true) (hk:K (e21 (zsk z zjX zjY))) (zIO:zAg=zg zad zjX) (zIP:zAh=zg zaS zjY):z21 K [1,1,1,1] [] ⟨[(3,zp 3 0),(4,zp 4 0),(5,zp 5 0),(7,zp 7 0)],[(3,.fbox [.int .i64 z]),(4,.box 69 (zm (zaR (⟨(0:Int),(0:Int)⟩:Frac)))),(5,.box 69 (zm (zaR (⟨(0:Int),(0:Int)⟩:Frac)))),(7,.box 121 [.p (.sl zjX.len 3 zAg),.p (.sl zjY.len 3 zAh)])],[]⟩:=by subst zIO;subst zIP;exact zaE (by kernel_rfl) (zaJ hs λ hc hs=>And.intro (And.intro (zE zad 3 zjX.get) (And.intro (zE zaS 3 zjY.get) hc)) (zIM hk))
def zsm (z:Int) (ev2:Int) (zp0:(Sl Gate)) (zh5:(Sl straight)):(Frac×Frac×Int) :=
  (cond (ev2 != (0:Int))
 ((⟨(0:Int),(0:Int)⟩:Frac),(⟨(0:Int),(0:Int)⟩:Frac),ev2)
 (zsk z zp0 zh5))
def zsn (z:Int) (ev2:Int) (zp0:(Sl Gate)) (zh5:(Sl straight)):Bool :=
  (cond (ev2 != (0:Int))
 true
 (zsl z zp0 zh5))
theorem zIQ (hs:zsn z ev2 zp0 zh5=true) (hk:K (e21 (zsm z ev2 zp0 zh5))) (zIR:zAf=zg zad zp0) (zrD:zlg=zg zaS zh5):z21 K [1,1,1] [] ⟨[(3,zp 3 0),(4,zp 4 0),(5,zp 5 0),(7,zp 7 0),(8,zI ev2)],[(3,.fbox [.int .i64 z]),(4,.box 69 (zm (zaR (⟨(0:Int),(0:Int)⟩:Frac)))),(5,.box 69 (zm (zaR (⟨(0:Int),(0:Int)⟩:Frac)))),(7,.box 121 [.p (.sl zp0.len 3 zAf),.p (.sl zh5.len 3 zlg)])],[]⟩:=by subst zIR;subst zrD;exact zaE (by kernel_rfl) (zc hs hk (λ hs hk=>hk) (λ hs hk=>(zIN hs hk rfl rfl)))
def zso (zaa:(Sl Gate)) (z:Int):(Frac×Frac×Int) :=
  (zsm z ((s48 z zaa).2) (((s48 z zaa).1).list.Gates) (((s48 z zaa).1).corners))
def zsp (zaa:(Sl Gate)) (z:Int):Bool :=
  (decide ((p48 z zaa=true)) &&
 (zsn z ((s48 z zaa).2) (((s48 z zaa).1).list.Gates) (((s48 z zaa).1).corners)))
theorem zIS (hs:zsp zaa z=true) (hk:K (e21 (zso zaa z))):z21 K [1,1] [] ⟨[(0,zS zad 3 zaa),(3,zp 3 0),(4,zp 4 0),(5,zp 5 0)],[(3,.box 3 [zi z]),(4,.box 69 (zm (zaR (⟨(0:Int),(0:Int)⟩:Frac)))),(5,.box 69 (zm (zaR (⟨(0:Int),(0:Int)⟩:Frac))))],[]⟩:=zaE (by kernel_rfl) (zaJ hs λ hc hs=>And.intro (And.intro (zE zad 3 zaa.get) hc) (zIQ hs hk rfl rfl))
def zsq (zaa:(Sl Gate)) (z:Int) (zhy:Bool):(Frac×Frac×Int) :=
  (cond zhy
 ((⟨(0:Int),(0:Int)⟩:Frac),(⟨(0:Int),(0:Int)⟩:Frac),(2:Int))
 (zso zaa z))
def zsr (zaa:(Sl Gate)) (z:Int) (zhy:Bool):Bool :=
  (cond zhy
 true
 (zsp zaa z))
theorem zIT (hs:zsr zaa z zhy=true) (hk:K (e21 (zsq zaa z zhy))):z21 K [1,0,1] [] ⟨[(0,zS zad 3 zaa),(3,zp 3 0),(4,zp 4 0),(5,zp 5 0),(13,zB zhy)],[(3,.box 3 [zi z]),(4,.box 69 (zm (zaR (⟨(0:Int),(0:Int)⟩:Frac)))),(5,.box 69 (zm (zaR (⟨(0:Int),(0:Int)⟩:Frac))))],[]⟩:=zaE (by kernel_rfl) (zc hs hk (λ hs hk=>hk) (λ hs hk=>(zIS hs hk)))
def s21 (zaa:(Sl Gate)) (z:Int):(Frac×Frac×Int) :=
  (zsq zaa z (!(s47 z (-100000:Int) (200000:Int))))
def p21 (zaa:(Sl Gate)) (z:Int):Bool :=
  (zsr zaa z (!(s47 z (-100000:Int) (200000:Int))))
end
theorem q21 (zaa:(Sl Gate)) (z:Int) (K:List PA->Prop) (hs:p21 zaa z=true) (hk:K (e21 (s21 zaa z))):vcFun Tryd.prog G21 zIL 21 [.one (.sl zaa.len 3 (λ i=>zad (zaa.get i))),.one (.int .i64 z)] K :=
  zaE (by kernel_rfl) (zIT hs hk)
def zIU : List PA → COut
  | [.one (.sl zbq zcO zbr),.one (.int .i64 a1)]=>.det (IsE zad 3 zcO zbr/\p21 (⟨zbq,zaj zbr⟩:(Sl Gate)) a1=true) [.agg [.int .i64 (((s21 (⟨zbq,zaj zbr⟩:(Sl Gate)) a1).1).Num),.int .i64 (((s21 (⟨zbq,zaj zbr⟩:(Sl Gate)) a1).1).Den)],.agg [.int .i64 (((s21 (⟨zbq,zaj zbr⟩:(Sl Gate)) a1).2.1).Num),.int .i64 (((s21 (⟨zbq,zaj zbr⟩:(Sl Gate)) a1).2.1).Den)],.one (.int .i64 ((s21 (⟨zbq,zaj zbr⟩:(Sl Gate)) a1).2.2))]
  | _=>.no
theorem zNp:zac Tryd.prog 21:=⟨_,rfl,rfl,by kernel_rfl⟩
theorem zUn:Ok Tryd.prog 21 zIU:=zau zQ3 zNp λ args K h=>by
  unfold zIU at h
  split at h
  · rename_i zbq zcO zbr a1
    obtain⟨⟨⟨rfl,zb6,rfl⟩,hs⟩,hk⟩:=h
    try rw[zae zb6] at hs
    try rw[zae zb6] at hk
    exact⟨(λ _ _=>[]),(λ _=>false),zIL,q21 (⟨zbq,zb6⟩:(Sl Gate)) a1 K hs hk⟩
  · exact h.elim
abbrev T61:Tabs:=Tabs.nil
theorem zQ4:TabsOk Tryd.prog T61:=TabsOk.nil
abbrev G61:Ctrs:=csm T61 (λ _ _=>[]) (λ _=>false)
def zIV:Ann:=⟨4,[(0,zK [1] [1]),(1,zK [2] [])],
 [],
 [],
 [],[]⟩
theorem zIW (w : web) (K : List PA → Prop) :
  vcFun Tryd.prog G61 zIV 61 [.one (.fp (zbG w) 0)] K =
  (K [.one (.fn 82 [] [.fp [.fp (zbG w) 0] 0])]):=by kernel_rfl
theorem q61 (w:web) (K:List PA->Prop) (hk:K [.one (.fn 82 [] [.fp [.fp (zbG w) 0] 0])]):vcFun Tryd.prog G61 zIV 61 [.one (.fp (zbG w) 0)] K:=zaE (zIW w K) hk
def zAi : List PA → COut
  | [.one (.fp [.int .i64 za2,.sl zaO zbQ zaP,.fm zdE zce zcf] 0)]=>.det (IsE zao 4 zbQ zaP/\zdE=(false,1,false,[none])) [.one (.fn 82 [] [.fp [.fp (zbG (⟨(⟨(⟨za2,(⟨zaO,za6 zaP⟩:(Sl Tie))⟩:Net),(⟨zce,zcf⟩:Mp)⟩:web).Net,((⟨(⟨za2,(⟨zaO,za6 zaP⟩:(Sl Tie))⟩:Net),(⟨zce,zcf⟩:Mp)⟩:web).out)⟩:web)) 0] 0])]
  | _=>.no
theorem zNq:zac Tryd.prog 61:=⟨_,rfl,rfl,by kernel_rfl⟩
theorem zQ5:Ok Tryd.prog 61 zAi:=zau zQ4 zNq λ args K h=>by
  unfold zAi at h
  split at h
  · rename_i za2 zaO zbQ zaP zdE zce zcf
    obtain⟨⟨⟨rfl,zbs,rfl⟩,rfl⟩,hk⟩:=h
    try rw[zaN zbs] at hk
    exact⟨λ _ _=>[],λ _=>false,zIV,q61 (⟨(⟨za2,(⟨zaO,zbs⟩:(Sl Tie))⟩:Net),(⟨zce,zcf⟩:Mp)⟩:web) K hk⟩
  · exact h.elim
abbrev T83:Tabs:=Tabs.nil
theorem zQ6:TabsOk Tryd.prog T83:=TabsOk.nil
abbrev G83:Ctrs:=csm T83 (λ _ _=>[]) (λ _=>false)
def zNr:Ann:=⟨21,[(0,zK [1,2] [1,2]),(1,zK [2,3] [2])],
 [],
 [],
 [],[]⟩
abbrev R83:=(step×Bool)
abbrev e83 (r:R83):List PA:=[.agg [.int .i64 r.1.Use.Tie,.bool r.1.Use.Back,.int .i64 r.1.from_,.int .i64 r.1.to,.int .i64 r.1.length],.one (.bool r.2)]
section
variable {K:List PA->Prop}{t:tie}
def s83 (t:tie):(step×Bool) :=
  ((⟨(⟨t.index,false⟩:Use),t.Tie.From,t.Tie.To,t.Tie.High⟩:step),(t.Tie.High != (1000000000000:Int)))
end
theorem q83 (t:tie) (K:List PA->Prop) (hk:K (e83 (s83 t))):vcFun Tryd.prog G83 zNr 83 [.agg (zxH t)] K :=
  zaE (by kernel_rfl) hk
def zIX : List PA → COut
  | [.agg [.int .i64 zbx,.int .i64 zca,.int .i64 zbM,.int .i64 zby,.int .i64 zcx]]=>.tot [.agg [.int .i64 (((s83 (⟨(⟨zbx,zca,zbM,zby⟩:Tie),zcx⟩:tie)).1).Use.Tie),.bool (((s83 (⟨(⟨zbx,zca,zbM,zby⟩:Tie),zcx⟩:tie)).1).Use.Back),.int .i64 (((s83 (⟨(⟨zbx,zca,zbM,zby⟩:Tie),zcx⟩:tie)).1).from_),.int .i64 (((s83 (⟨(⟨zbx,zca,zbM,zby⟩:Tie),zcx⟩:tie)).1).to),.int .i64 (((s83 (⟨(⟨zbx,zca,zbM,zby⟩:Tie),zcx⟩:tie)).1).length)],.one (.bool ((s83 (⟨(⟨zbx,zca,zbM,zby⟩:Tie),zcx⟩:tie)).2))]
  | _=>.no
theorem zNs:zac Tryd.prog 83:=⟨_,rfl,rfl,by kernel_rfl⟩
theorem zUo:Ok Tryd.prog 83 zIX:=zau zQ6 zNs λ args K h=>by
  unfold zIX at h
  split at h
  · rename_i zbx zca zbM zby zcx
    have hk:=h
    exact⟨(λ _ _=>[]),(λ _=>false),zNr,q83 (⟨(⟨zbx,zca,zbM,zby⟩:Tie),zcx⟩:tie) K hk⟩
  · exact h.elim
abbrev T84:Tabs:=Tabs.nil
theorem zQ7:TabsOk Tryd.prog T84:=TabsOk.nil
abbrev G84:Ctrs:=csm T84 (λ _ _=>[]) (λ _=>false)
def zNt:Ann:=⟨22,[(0,zK [1,2] [1,2]),(1,zK [2,3] [2])],
 [],
 [],
 [],[]⟩
abbrev R84:=(step×Bool)
abbrev e84 (r:R84):List PA:=[.agg [.int .i64 r.1.Use.Tie,.bool r.1.Use.Back,.int .i64 r.1.from_,.int .i64 r.1.to,.int .i64 r.1.length],.one (.bool r.2)]
section
variable {K:List PA->Prop}{t:tie}
def s84 (t:tie):(step×Bool) :=
  ((⟨(⟨t.index,true⟩:Use),t.Tie.To,t.Tie.From,(w64 (0 - t.Tie.Low))⟩:step),(t.Tie.Low != (-1000000000000:Int)))
end
theorem q84 (t:tie) (K:List PA->Prop) (hk:K (e84 (s84 t))):vcFun Tryd.prog G84 zNt 84 [.agg (zxH t)] K :=
  zaE (by kernel_rfl) hk
def zIY : List PA → COut
  | [.agg [.int .i64 zbx,.int .i64 zca,.int .i64 zbM,.int .i64 zby,.int .i64 zcx]]=>.tot [.agg [.int .i64 (((s84 (⟨(⟨zbx,zca,zbM,zby⟩:Tie),zcx⟩:tie)).1).Use.Tie),.bool (((s84 (⟨(⟨zbx,zca,zbM,zby⟩:Tie),zcx⟩:tie)).1).Use.Back),.int .i64 (((s84 (⟨(⟨zbx,zca,zbM,zby⟩:Tie),zcx⟩:tie)).1).from_),.int .i64 (((s84 (⟨(⟨zbx,zca,zbM,zby⟩:Tie),zcx⟩:tie)).1).to),.int .i64 (((s84 (⟨(⟨zbx,zca,zbM,zby⟩:Tie),zcx⟩:tie)).1).length)],.one (.bool ((s84 (⟨(⟨zbx,zca,zbM,zby⟩:Tie),zcx⟩:tie)).2))]
  | _=>.no
theorem zNu:zac Tryd.prog 84:=⟨_,rfl,rfl,by kernel_rfl⟩
theorem zUp:Ok Tryd.prog 84 zIY:=zau zQ7 zNu λ args K h=>by
  unfold zIY at h
  split at h
  · rename_i zbx zca zbM zby zcx
    have hk:=h
    exact⟨(λ _ _=>[]),(λ _=>false),zNt,q84 (⟨(⟨zbx,zca,zbM,zby⟩:Tie),zcx⟩:tie) K hk⟩
  · exact h.elim
abbrev T82:Tabs:=((Tabs.nil.addF 83 zIX).addF 84 zIY)
theorem zQ8:TabsOk Tryd.prog T82:=((TabsOk.nil.addF zUo).addF zUp)
abbrev G82:Ctrs:=csm T82 (λ _ _=>[]) (λ _=>false)
def zp1:Ann:=⟨52,[(0,zK [0,1,14,15,16] []),(1,zK [0,1,14,15,16,17] []),(2,zK [0,1,3,4,14,15,16] [4]),(3,zK [0,1,3,4,14,15,16,26] [4]),(4,zK [0,1,5,14,15,16] [5]),(5,zK [0,1,14,15,16,34,35] []),(6,zK [0,1,14,15,16,34,35,36] []),(7,zK [0,1,7,14,15,16,34,35] []),(8,zK [0,1,8,9,14,15,16,34,35] [8]),(9,zK [0,1,14,15,16,34,35,49] []),(10,zK [0,1,14,15,16,34,35] []),(11,zK [0,1,14,15,16] [])],
 [(1,zK [0,1,14,15,16] [])],
 [],
 [(6,3,zK [0,1,14,15,16,34,35] [])],[9]⟩
def zgs (l:Nat) (a:web) (zax:Int):St:=⟨[(0,.one (.c (.p (.yl l)))),(1,.one (.c (.p (.fp [.fp (zbG a) 0] 0)))),(14,.one (.c (.p (.sl a.Net.Ties.len 4 (λ i=>zao (a.Net.Ties.get i)))))),(15,.one (.c (.p (.int .i64 (a.Net.Ties.len:Int))))),(16,.one (.c (.p (.int .i64 zax))))],[],[]⟩
def zlu (l:Nat) (ys:List (List PA)) (a:web) (zax:Int):Prop:=vcY Tryd.prog G82 zp1 l (cdF Tryd.f82 [1,0]) (zc2 0 zgY) ys false (zgs l a zax)
theorem zIZ (l : Nat) (a : web) (ys : List (List PA)) :
  vcIter Tryd.prog G82 zp1 82 l [.one (.fp [.fp (zbG a) 0] 0)] ys =
  (zlu l ys a (0:Int)):=by kernel_rfl
def zp2 (l:Nat) (X0:List (List PA)->Bool->St->Prop) (ys:List (List PA)) (a:web) (zax:Int):Prop :=
  (zdK (decide (zax < (a.Net.Ties.len : Int)))
 (((0<=zax/\zax < (a.Net.Ties.len:Int))) /\
 (zdK ((zqm (a.out.F [zax]) 0) != 0)
 (X0 ys false (zgs l a (w64 (zax+(1:Int)))))
 (zdK ((s83 (⟨(a.Net.Ties.get zax.toNat), zax⟩ : tie)).2)
 (l=l/\∃ r1,ys=[.agg [.int .i64 (((s83 (⟨(a.Net.Ties.get zax.toNat),zax⟩:tie)).1).Use.Tie),.bool (((s83 (⟨(a.Net.Ties.get zax.toNat),zax⟩:tie)).1).Use.Back),.int .i64 (((s83 (⟨(a.Net.Ties.get zax.toNat),zax⟩:tie)).1).from_),.int .i64 (((s83 (⟨(a.Net.Ties.get zax.toNat),zax⟩:tie)).1).to),.int .i64 (((s83 (⟨(a.Net.Ties.get zax.toNat),zax⟩:tie)).1).length)]] :: r1 /\
 (zdK ((s84 (⟨(a.Net.Ties.get zax.toNat), zax⟩ : tie)).2)
 (l=l/\∃ r2,r1=[.agg [.int .i64 (((s84 (⟨(a.Net.Ties.get zax.toNat),zax⟩:tie)).1).Use.Tie),.bool (((s84 (⟨(a.Net.Ties.get zax.toNat),zax⟩:tie)).1).Use.Back),.int .i64 (((s84 (⟨(a.Net.Ties.get zax.toNat),zax⟩:tie)).1).from_),.int .i64 (((s84 (⟨(a.Net.Ties.get zax.toNat),zax⟩:tie)).1).to),.int .i64 (((s84 (⟨(a.Net.Ties.get zax.toNat),zax⟩:tie)).1).length)]] :: r2 /\
 (X0 r2 false (zgs l a (w64 (zax+(1:Int)))))/\True)
 (X0 r1 false (zgs l a (w64 (zax+(1:Int))))))/\True)
 (zdK ((s84 (⟨(a.Net.Ties.get zax.toNat), zax⟩ : tie)).2)
 (l=l/\∃ r3,ys=[.agg [.int .i64 (((s84 (⟨(a.Net.Ties.get zax.toNat),zax⟩:tie)).1).Use.Tie),.bool (((s84 (⟨(a.Net.Ties.get zax.toNat),zax⟩:tie)).1).Use.Back),.int .i64 (((s84 (⟨(a.Net.Ties.get zax.toNat),zax⟩:tie)).1).from_),.int .i64 (((s84 (⟨(a.Net.Ties.get zax.toNat),zax⟩:tie)).1).to),.int .i64 (((s84 (⟨(a.Net.Ties.get zax.toNat),zax⟩:tie)).1).length)]] :: r3 /\
 (X0 r3 false (zgs l a (w64 (zax+(1:Int)))))/\True)
 (X0 ys false (zgs l a (w64 (zax+(1:Int)))))))))
 (ys=[]))
theorem zss (l : Nat) (X0 : List (List PA) → Bool → St → Prop) (ys : List (List PA)) (a : web) (zax : Int) :
  vcY Tryd.prog G82 zp1 l (cd (cdF Tryd.f82 [1,0]) [0]) (zgX Tryd.prog zp1 1 X0 (zc2 0 zgY)) ys false (zgs l a zax) =
  zp2 l X0 ys a zax:=by kernel_rfl
theorem zAj (l : Nat) (ys : List (List PA)) (a : web) (zax : Int)
  (h:∀ X0:List (List PA)->Bool->St->Prop,(∀ (ys:List (List PA)) (zax:Int),zp2 l X0 ys a zax->X0 ys false (zgs l a zax))->X0 ys false (zgs l a zax)) :
  zlu l ys a zax:=by
  have e:zlu l ys a zax=(∀ X:List (List PA)->Bool->St->Prop,(∀ ys q s,vcY Tryd.prog G82 zp1 l (cd (cdF Tryd.f82 [1,0]) [0]) (zgX Tryd.prog zp1 1 X (zc2 0 zgY)) ys q s->X ys q s)->X ys false (zgs l a zax)):=by kernel_rfl
  refine zaE e ?_
  intro X hX
  refine h X ?_
  intro ys zax hs
  refine hX _ _ _ ?_
  have e2:=zss l X ys a zax
  rw[e2]
  exact hs
attribute [irreducible] zlu
def zhC (a:web) (S0:Int->List step) (zax:Int):List step :=
  (cond (decide (zax < (a.Net.Ties.len : Int)))
 (cond ((zqm (a.out.F [zax]) 0) != 0)
 (S0 (w64 (zax+(1:Int))))
 (cond ((s83 (⟨(a.Net.Ties.get zax.toNat), zax⟩ : tie)).2)
 (((s83 (⟨(a.Net.Ties.get zax.toNat), zax⟩ : tie)).1) :: (cond ((s84 (⟨(a.Net.Ties.get zax.toNat), zax⟩ : tie)).2)
 (((s84 (⟨(a.Net.Ties.get zax.toNat),zax⟩:tie)).1) :: (S0 (w64 (zax+(1:Int)))))
 (S0 (w64 (zax+(1:Int))))))
 (cond ((s84 (⟨(a.Net.Ties.get zax.toNat), zax⟩ : tie)).2)
 (((s84 (⟨(a.Net.Ties.get zax.toNat),zax⟩:tie)).1) :: (S0 (w64 (zax+(1:Int)))))
 (S0 (w64 (zax+(1:Int)))))))
 [])
def zhD (a:web) (P0:Int->Bool) (zax:Int):Bool :=
  (cond (decide (zax < (a.Net.Ties.len : Int)))
 (decide ((0<=zax/\zax < (a.Net.Ties.len:Int))) &&
 (cond ((zqm (a.out.F [zax]) 0) != 0)
 (P0 (w64 (zax+(1:Int))))
 (cond ((s83 (⟨(a.Net.Ties.get zax.toNat), zax⟩ : tie)).2)
 (cond ((s84 (⟨(a.Net.Ties.get zax.toNat), zax⟩ : tie)).2)
 (P0 (w64 (zax+(1:Int))))
 (P0 (w64 (zax+(1:Int)))))
 (cond ((s84 (⟨(a.Net.Ties.get zax.toNat), zax⟩ : tie)).2)
 (P0 (w64 (zax+(1:Int))))
 (P0 (w64 (zax+(1:Int))))))))
 true)
def zgt (a : web) : Nat → Int → List step
  | 0=>λ _=>[]
  | k+1=>zhC a (zgt a k)
def zgu (a : web) : Nat → Int → Bool
  | 0=>λ _=>false
  | k+1=>zhD a (zgu a k)
def zAk (a:web) (zax:Int):List step:=zgt a Fuel zax
def zAl (a:web) (zax:Int):Bool:=zgu a Fuel zax
theorem zI0 (l:Nat) (a:web) (ys:List (List PA)) (zax:Int) (hs:zAl a zax=true) (hk:ys=(zAk a zax).map (λ y=>[.agg (zdz y)])):zlu l ys a zax:=by
  refine zAj l ys a zax ?_
  intro X0 hstep
  have key:∀ (k:Nat) (ys:List (List PA)) (zax:Int),zgu a k zax=true->ys=(zgt a k zax).map (λ y=>[.agg (zdz y)])->X0 ys false (zgs l a zax):=by
    intro k
    induction k with
    | zero=>intro ys zax hs;exact absurd hs dqk
    | succ k ih =>
      intro ys zax hs hk
      refine hstep ys zax ?_
      have hs:zhD a (zgu a k) zax=true:=hs
      have hk:ys=(zhC a (zgt a k) zax).map (λ y=>[.agg (zdz y)]):=hk
      unfold zhD at hs
      unfold zhC at hk
      generalize zgt a k=S0 at hk ih
      generalize zgu a k=P0 at hs ih
      have hX0:=ih
      exact (zec hs hk
 (λ hs hk => (zaJ hs λ hc hs => ⟨hc, (zec hs hk
 (λ hs hk=>(hX0 _ (w64 (zax+(1:Int))) hs hk))
 (λ hs hk => (zec hs hk
 (λ hs hk => (itY hk rfl (λ _ hk => (zec hs hk
 (λ hs hk=>(itY hk rfl (λ _ hk=>(hX0 _ (w64 (zax+(1:Int))) hs hk))))
 (λ hs hk=>(hX0 _ (w64 (zax+(1:Int))) hs hk))))))
 (λ hs hk => (zec hs hk
 (λ hs hk=>(itY hk rfl (λ _ hk=>(hX0 _ (w64 (zax+(1:Int))) hs hk))))
 (λ hs hk=>(hX0 _ (w64 (zax+(1:Int))) hs hk)))))))⟩))
 (fun hs hk=>hk))
  exact key _ _ zax hs hk
def s82 (a:web):List step :=
  (zAk a (0:Int))
def p82 (a:web):Bool :=
  (zAl a (0:Int))
theorem q82 (l:Nat) (a:web) (ys:List (List PA)) (hs:p82 a=true) (hk:ys=(s82 a).map (λ y=>[.agg (zdz y)])):vcIter Tryd.prog G82 zp1 82 l [.one (.fp [.fp (zbG a) 0] 0)] ys:=by
  refine zaE (zIZ l a ys) ?_
  unfold p82 at hs
  unfold s82 at hk
  exact (zI0 l a _ (0:Int) hs hk)
def zNv : List PA → Option (Prop × List (List PA))
  | [.one (.fp [.fp [.int .i64 a_Net_Nodes,.sl a_Net_Ties_n a_Net_Ties_s a_Net_Ties_g,.fm a_out_q a_out_n a_out_F] 0] 0)]=>some (IsE zao 4 a_Net_Ties_s a_Net_Ties_g/\a_out_q=(false,1,false,[none])/\p82 (⟨(⟨a_Net_Nodes,(⟨a_Net_Ties_n,za6 a_Net_Ties_g⟩:(Sl Tie))⟩:Net),(⟨a_out_n,a_out_F⟩:Mp)⟩:web)=true,(s82 (⟨(⟨a_Net_Nodes,(⟨a_Net_Ties_n,za6 a_Net_Ties_g⟩:(Sl Tie))⟩:Net),(⟨a_out_n,a_out_F⟩:Mp)⟩:web)).map λ y=>[.agg (zdz y)])
  | _=>none
theorem zNw:zac Tryd.prog 82:=⟨_,rfl,rfl,by kernel_rfl⟩
theorem zQ9:zBA Tryd.prog 82 zNv:=zxE zQ8 zNw λ l caps safe ys h hs=>by
  unfold zNv at h
  split at h
  · rename_i a_Net_Nodes a_Net_Ties_n a_Net_Ties_s a_Net_Ties_g a_out_q a_out_n a_out_F
    cases h
    obtain⟨⟨rfl,a_Net_Ties_f,rfl⟩,rfl,hs⟩:=hs
    try rw[zaN a_Net_Ties_f] at hs
    try rw[zaN a_Net_Ties_f]
    exact⟨λ _ _=>[],λ _=>false,zp1,q82 l (⟨(⟨a_Net_Nodes,(⟨a_Net_Ties_n,a_Net_Ties_f⟩:(Sl Tie))⟩:Net),(⟨a_out_n,a_out_F⟩:Mp)⟩:web) _ hs rfl⟩
  · cases h
abbrev T60:Tabs:=((Tabs.nil.addF 61 zAi).addI 82 zNv)
theorem zRa:TabsOk Tryd.prog T60:=((TabsOk.nil.addF zQ5).addI zQ9)
abbrev G60:Ctrs:=csm T60 (λ _ _=>[]) (λ _=>false)
def zAm:Ann:=⟨37,[(0,zK [0] []),(1,zK [0,3] [3]),(2,zK [0,3,11,12] [3]),(3,zK [0,3,11,12,13] [3]),(4,zK [0,3,4,11,12] [3,4]),(5,zK [0,3,4,11,12,15] [3,4]),(6,zK [0,3,4,5,11,12,15] [3,4,5]),(7,zK [0,3,4,5,6,11,12,15] [3,4,5]),(8,zK [0,3,4,5,6,11,12,15,29] [3,4,5]),(9,zK [0,3,4,11,12,15] [3,4]),(10,zK [0,3,4,11,12,15] [3,4]),(11,zK [0,3,11,12,35] [3]),(12,zK [2] []),(13,zK [0,3,11,12] [3]),(14,zK [2] [])],
 [(3,zK [0,3,11,12] [3]),(6,zK [0,3,4,11,12,15] [3,4])],
 [],
 [],[]⟩
abbrev R60:=Bool
abbrev e60 (r:R60):List PA:=[.one (.bool r)]
@[irreducible] def z60:=ptF Tryd.prog G60 zAm Tryd.f60
@[irreducible] def x60:=exF Tryd.prog G60 zAm Tryd.f60
@[irreducible] def y60:=rnF Tryd.prog G60 zAm Tryd.f60
def zEL (w:web) (zaI:Int) (dt0:Tab):St:=⟨[(0,zP (.fp (zbG w) 0)),(3,zp 3 0),(11,zI w.Net.Nodes),(12,zI zaI)],[(3,.box 176 (zm (zxG dt0)))],[]⟩
abbrev zI1 (K:List PA->Prop) (w:web) (X:St->Prop) (P:Int->Tab->Bool) (S:Int->Tab->Bool):Prop:=∀ ⦃zaI:Int⦄ ⦃dt0:Tab⦄,P zaI dt0=true->K (e60 (S zaI dt0))->X (zEL w zaI dt0)
def zAn (w:web) (zck:Int) (zbt:Bool) (dt1:Tab):St:=⟨[(0,zP (.fp (zbG w) 0)),(3,zp 3 0),(4,zp 4 0),(11,zI w.Net.Nodes),(12,zI zck),(15,zP (.fn 82 [] [.fp [.fp (zbG w) 0] 0]))],[(3,.box 176 (zm (zxG dt1))),(4,.box 4 [.p (.bool zbt)])],[]⟩
abbrev zNx (K:List PA->Prop) (w:web) (X:St->Prop) (P:Int->Bool->Tab->Bool) (S:Int->Bool->Tab->Bool):Prop:=∀ ⦃zck:Int⦄ ⦃zbt:Bool⦄ ⦃dt1:Tab⦄,P zck zbt dt1=true->K (e60 (S zck zbt dt1))->X (zAn w zck zbt dt1)
section
variable {K:List PA->Prop}{w:web}{zaI:Int}{dt0:Tab}{X0:St->Prop}{P0:Int->Tab->Bool}{S0:Int->Tab->Bool}{zck:Int}{zbt:Bool}{dt1:Tab}
def znZ (S0:Int->Tab->Bool) (w:web) (zck:Int) (zbt:Bool) (dt1:Tab):Bool :=
  (cond (!zbt)
 false
 (S0 (w64 (zck+(1:Int))) dt1))
def zn0 (P0:Int->Tab->Bool) (w:web) (zck:Int) (zbt:Bool) (dt1:Tab):Bool :=
  (cond (!zbt)
 true
 (P0 (w64 (zck+(1:Int))) dt1))
def zn1 (S0:Int->Tab->Bool) (w:web) (y1:step) (S1:Int->Bool->Tab->Bool) (zck:Int) (zbt:Bool) (dt1:Tab):Bool :=
  (cond (decide ((w64 ((tg 40 dt1 (0 + y1.from_.toNat * 1 + 0)) + y1.length)) < (tg 40 dt1 (0 + y1.to.toNat * 1 + 0))))
 (S1 zck true (ts 40 dt1 (0+y1.to.toNat * 1+0) [(w64 ((tg 40 dt1 (0+y1.from_.toNat * 1+0))+y1.length))]))
 (S1 zck zbt dt1))
def zn2 (P0:Int->Tab->Bool) (w:web) (y1:step) (P1:Int->Bool->Tab->Bool) (zck:Int) (zbt:Bool) (dt1:Tab):Bool :=
  (decide ((0<=y1.from_/\y1.from_ < (40:Int))) &&
 (decide ((0<=y1.to/\y1.to < (40:Int))) &&
 (cond (decide ((w64 ((tg 40 dt1 (0 + y1.from_.toNat * 1 + 0)) + y1.length)) < (tg 40 dt1 (0 + y1.to.toNat * 1 + 0))))
 (decide ((0<=y1.to/\y1.to < (40:Int))) &&
 (P1 zck true (ts 40 dt1 (0+y1.to.toNat * 1+0) [(w64 ((tg 40 dt1 (0+y1.from_.toNat * 1+0))+y1.length))])))
 (P1 zck zbt dt1))))
def zgv (S0:Int->Tab->Bool) (w:web):List step->Int->Bool->Tab->Bool:=lpR (znZ S0 w) (zn1 S0 w)
def zgw (P0:Int->Tab->Bool) (w:web):List step->Int->Bool->Tab->Bool:=lpR (zn0 P0 w) (zn2 P0 w)
def zst (S0:Int->Tab->Bool) (w:web) (zck:Int) (zbt:Bool) (dt1:Tab):Bool:=zgv S0 w (s82 w) zck zbt dt1
def zsu (P0:Int->Tab->Bool) (w:web) (zck:Int) (zbt:Bool) (dt1:Tab):Bool:=decide ((p82 w=true)) && zgw P0 w (s82 w) zck zbt dt1
theorem zI2 (hX0:zI1 K w X0 P0 S0) (hs:zsu P0 w zck zbt dt1=true) (hk:K (e60 (zst S0 w zck zbt dt1))):z60 K [1,1,0,1,0,0,1,1,0,0,1,0,1,0] [X0] (zAn w zck zbt dt1) :=
  zaJ hs λ hc hs=>zr (enc:=(λ y:step=>[.agg (zdz y)])) (ys:=s82 w) (g:=(zAn w zck zbt dt1)) (x60 K [1,1,0,1,0,0,1,1,0,0,1,0,1,0] [X0]) (y60 K [1,1,0,1,0,0,1,1,0,0,1,0,1,0] [X0]) (by kernel_rfl) (And.intro (zE zao 4 w.Net.Ties.get) (And.intro (rfl:((false,1,false,[none]):MQ)=(false,1,false,[none])) hc)) λ X1 hE hR =>
  (show ∀ l : List step, zNx K w (X1 (l.map (λ y : step => [.agg (zdz y)]))) (zgw P0 w l) (zgv S0 w l) from zri (X := X1) (enc := (λ y : step => [.agg (zdz y)])) _ _ (zn2 P0 w) (zn1 S0 w) (λ Z P S => zNx K w Z P S)
 (by intro zck zbt dt1 hs hk;exact hE _ (zaE (by kernel_rfl) (zc hs hk (λ hs hk=>hk) (λ hs hk=>(hX0 hs hk)))))
 (by intro y1 rest P1 S1 hX1 zck zbt dt1 hs hk;exact hR _ rest _ (zaE (by kernel_rfl) (zaJ hs λ hc hs=>And.intro hc (zaJ hs λ hc hs=>And.intro hc (zc hs hk (λ hs hk=>(zaJ hs λ hc hs=>And.intro hc (hX1 hs hk))) (λ hs hk=>(hX1 hs hk)))))))) _ hs hk
def zje (w:web) (S0:Int->Tab->Bool) (zaI:Int) (dt0:Tab):Bool :=
  (cond (decide (zaI < w.Net.Nodes))
 (zst S0 w zaI false dt0)
 true)
def zjf (w:web) (P0:Int->Tab->Bool) (zaI:Int) (dt0:Tab):Bool :=
  (cond (decide (zaI < w.Net.Nodes))
 (zsu P0 w zaI false dt0)
 true)
def zjg (w:web):Nat->Int->Tab->Bool:=lpO (λ _ _=>default) (zje w)
def zjh (w:web):Nat->Int->Tab->Bool:=lpO (λ _ _=>false) (zjf w)
def zAo (w:web) (zaI:Int) (dt0:Tab):Bool:=zjg w Fuel zaI dt0
def zAp (w:web) (zaI:Int) (dt0:Tab):Bool:=zjh w Fuel zaI dt0
theorem zI3 (hs:zAp w zaI dt0=true) (hk:K (e60 (zAo w zaI dt0))):z60 K [1,1,0,1,0] [] (zEL w zaI dt0) :=
  zl (λ X=>z60 K [1,1,0,1,0,0] [X]) (by kernel_rfl) λ X0 hX =>
  (show ∀ k, zI1 K w X0 (zjh w k) (zjg w k) from zgd _ _ (zjf w) (zje w) (zI1 K w X0)
 (by intro _ _ hs;exact absurd hs dqk)
 (by intro P0 S0 hX0 zaI dt0 hs hk;exact hX _ (zaE (by kernel_rfl) (zc hs hk (λ hs hk=>(And.intro (And.intro (zE zao 4 w.Net.Ties.get) (rfl:((false,1,false,[none]):MQ)=(false,1,false,[none]))) (zI2 hX0 hs hk))) (λ hs hk=>hk))))) _ hs hk
def s60 (w:web):Bool :=
  (zAo w (0:Int) (λ _=>(0:Int)))
def p60 (w:web):Bool :=
  (zAp w (0:Int) (λ _=>(0:Int)))
end
theorem q60 (w:web) (K:List PA->Prop) (hs:p60 w=true) (hk:K (e60 (s60 w))):vcFun Tryd.prog G60 zAm 60 [.one (.fp (zbG w) 0)] K :=
  zaE (by kernel_rfl) (zI3 hs hk)
def zI4 : List PA → COut
  | [.one (.fp [.int .i64 za2,.sl zaO zbQ zaP,.fm zdE zce zcf] 0)]=>.det (IsE zao 4 zbQ zaP/\zdE=(false,1,false,[none])/\p60 (⟨(⟨za2,(⟨zaO,za6 zaP⟩:(Sl Tie))⟩:Net),(⟨zce,zcf⟩:Mp)⟩:web)=true) [.one (.bool (s60 (⟨(⟨za2,(⟨zaO,za6 zaP⟩:(Sl Tie))⟩:Net),(⟨zce,zcf⟩:Mp)⟩:web)))]
  | _=>.no
theorem zNy:zac Tryd.prog 60:=⟨_,rfl,rfl,by kernel_rfl⟩
theorem zUq:Ok Tryd.prog 60 zI4:=zau zRa zNy λ args K h=>by
  unfold zI4 at h
  split at h
  · rename_i za2 zaO zbQ zaP zdE zce zcf
    obtain⟨⟨⟨rfl,zbs,rfl⟩,rfl,hs⟩,hk⟩:=h
    try rw[zaN zbs] at hs
    try rw[zaN zbs] at hk
    exact⟨(λ _ _=>[]),(λ _=>false),zAm,q60 (⟨(⟨za2,(⟨zaO,zbs⟩:(Sl Tie))⟩:Net),(⟨zce,zcf⟩:Mp)⟩:web) K hs hk⟩
  · exact h.elim
abbrev T33:Tabs:=(((Tabs.nil.addF 31 zra).addF 32 zxM).addF 60 zI4)
theorem zRb:TabsOk Tryd.prog T33:=(((TabsOk.nil.addF zLj).addF ok32).addF zUq)
abbrev G33:Ctrs:=csm T33 (λ _ _=>[]) (λ _=>false)
def zC7:Ann:=⟨31,[(0,zK [1,2] [2]),(1,zK [1,2,6] [2,11]),(2,zK [1,2,6,14] [2,11]),(3,zK [4,5] []),(4,zK [2,6,15,16,17] [2,11]),(5,zK [2,6,15,16,17,18] [2,11]),(6,zK [2,6,8,15,16,17] [2,11]),(7,zK [2,6,15,16,17,26] [2,11]),(8,zK [4,5] []),(9,zK [2,6,15,16,17] [2,11]),(10,zK [6,29] [11]),(11,zK [4,5] []),(12,zK [4,5] [11])],
 [(5,zK [2,6,15,16,17] [2,11])],
 [(3,zK [1,2,6,14] [2,11]),(4,zK [1,2,6] [2,11]),(8,zK [2,6,15,16,17,26] [2,11]),(11,zK [6,29] [11])],
 [],[]⟩
abbrev R33:=(web×Int)
abbrev e33 (r:R33):List PA:=cond (r.2 == 0) [.one (.fp (zbG r.1) 0),.one (.int .i64 (0:Int))] [.one (.nilp),.one (.int .i64 r.2)]
@[irreducible] def z33:=ptF Tryd.prog G33 zC7 Tryd.f33
def zEM (n:Net) (nodes:(Sl Int)) (zel:Int):St:=⟨[(2,zp 2 0),(6,zp 11 0),(15,zS zaL 1 nodes),(16,zI (nodes.len:Int)),(17,zI zel)],[(2,.box 48 (zm (zc7 n))),(11,.box 147 (zm (zbG (⟨n,(⟨0,(λ _=>none)⟩:Mp)⟩:web))))],[]⟩
abbrev zI5 (K:List PA->Prop) (n:Net) (nodes:(Sl Int)) (X:St->Prop) (P:Int->Bool) (S:Int->(web×Int)):Prop:=∀ ⦃zel:Int⦄,P zel=true->K (e33 (S zel))->X (zEM n nodes zel)
section
variable {K:List PA->Prop}{n:Net}{nodes:(Sl Int)}{zak:Bool}{zel:Int}{X2:St->Prop}{P2:Int->Bool}{S2:Int->(web×Int)}{zdI:Int}{zsv:Bool}{zC8:Bool}
def zsw (n:Net) (zC8:Bool):(web×Int) :=
  (cond zC8
 ((default:web),(5:Int))
 ((⟨n,(⟨0,(λ _=>none)⟩:Mp)⟩:web),(0:Int)))
theorem zI6 (hk:K (e33 (zsw n zC8))):z33 K [1,1,1,1,0,1] [] ⟨[(6,zp 11 0),(29,zB zC8)],[(11,.box 147 (zm (zbG (⟨n,(⟨0,(λ _=>none)⟩:Mp)⟩:web))))],[]⟩:=zaE (by kernel_rfl) (zt hk (λ hk=>hk) (λ hk=>hk))
def zsx (S2:Int->(web×Int)) (n:Net) (nodes:(Sl Int)) (zdI:Int) (zsv:Bool):(web×Int) :=
  (cond zsv
 ((default:web),(2:Int))
 (S2 (w64 (zdI+(1:Int)))))
def zsy (P2:Int->Bool) (n:Net) (nodes:(Sl Int)) (zdI:Int) (zsv:Bool):Bool :=
  (cond zsv
 true
 (P2 (w64 (zdI+(1:Int)))))
theorem zI7 (hX2:zI5 K n nodes X2 P2 S2) (hs:zsy P2 n nodes zdI zsv=true) (hk:K (e33 (zsx S2 n nodes zdI zsv))):z33 K [1,1,1,0,1,0,0,1,1,0,0,1,1] [X2] ⟨[(2,zp 2 0),(6,zp 11 0),(15,zS zaL 1 nodes),(16,zI (nodes.len:Int)),(17,zI zdI),(26,zB zsv)],[(2,.box 48 (zm (zc7 n))),(11,.box 147 (zm (zbG (⟨n,(⟨0,(λ _=>none)⟩:Mp)⟩:web))))],[]⟩:=zaE (by kernel_rfl) (zc hs hk (λ hs hk=>hk) (λ hs hk=>(hX2 hs hk)))
def zji (n:Net) (nodes:(Sl Int)) (S2:Int->(web×Int)) (zel:Int):(web×Int) :=
  (cond (decide (zel < (nodes.len : Int)))
 (zsx S2 n nodes zel (!(s31 (nodes.get zel.toNat) (0:Int) (w64 (n.Nodes - (1:Int))))))
 (zsw n (s60 (⟨n,(⟨0,(λ _=>none)⟩:Mp)⟩:web))))
def zjj (n:Net) (nodes:(Sl Int)) (P2:Int->Bool) (zel:Int):Bool :=
  (cond (decide (zel < (nodes.len : Int)))
 (decide ((0<=zel/\zel < (nodes.len:Int))) &&
 (zsy P2 n nodes zel (!(s31 (nodes.get zel.toNat) (0:Int) (w64 (n.Nodes - (1:Int)))))))
 (decide ((p60 (⟨n,(⟨0,(λ _=>none)⟩:Mp)⟩:web)=true)) &&
 true))
def zjk (n:Net) (nodes:(Sl Int)):Nat->Int->(web×Int):=lpO (λ _=>default) (zji n nodes)
def zjl (n:Net) (nodes:(Sl Int)):Nat->Int->Bool:=lpO (λ _=>false) (zjj n nodes)
def zsz (n:Net) (nodes:(Sl Int)) (zel:Int):(web×Int):=zjk n nodes Fuel zel
def zsA (n:Net) (nodes:(Sl Int)) (zel:Int):Bool:=zjl n nodes Fuel zel
theorem zI8 (hs:zsA n nodes zel=true) (hk:K (e33 (zsz n nodes zel))):z33 K [1,1,1,0,1,0] [] (zEM n nodes zel) :=
  zl (λ X=>z33 K [1,1,1,0,1,0,0] [X]) (by kernel_rfl) λ X2 hX =>
  (show ∀ k, zI5 K n nodes X2 (zjl n nodes k) (zjk n nodes k) from zgd _ _ (zjj n nodes) (zji n nodes) (zI5 K n nodes X2)
 (by intro _ hs;exact absurd hs dqk)
 (by intro P2 S2 hX2 zel hs hk;exact hX _ (zaE (by kernel_rfl) (zc hs hk (λ hs hk=>(zaJ hs λ hc hs=>And.intro hc (zI7 hX2 hs hk))) (λ hs hk=>(zaJ hs λ hc hs=>And.intro (And.intro (zE zao 4 n.Ties.get) (And.intro (rfl:((false,1,false,[none]):MQ)=(false,1,false,[none])) hc)) (zI6 hk))))))) _ hs hk
def zsB (n:Net) (nodes:(Sl Int)):(web×Int) :=
  (zsz n nodes (0:Int))
def zsC (n:Net) (nodes:(Sl Int)):Bool :=
  (zsA n nodes (0:Int))
theorem zI9 (hs:zsC n nodes=true) (hk:K (e33 (zsB n nodes))):z33 K [1,1,1] [] ⟨[(1,zS zaL 1 nodes),(2,zp 2 0),(6,zp 11 0)],[(2,.box 48 (zm (zc7 n))),(11,.box 147 (zm (zbG (⟨n,(⟨0,(λ _=>none)⟩:Mp)⟩:web))))],[]⟩:=zaE (by kernel_rfl) (zI8 hs hk)
def zsD (n:Net) (nodes:(Sl Int)) (zak:Bool):(web×Int) :=
  (cond zak
 ((default:web),(2:Int))
 (zsB n nodes))
def zsE (n:Net) (nodes:(Sl Int)) (zak:Bool):Bool :=
  (cond zak
 true
 (zsC n nodes))
theorem zJa (hs:zsE n nodes zak=true) (hk:K (e33 (zsD n nodes zak))):z33 K [1,1,0,1] [] ⟨[(1,zS zaL 1 nodes),(2,zp 2 0),(6,zp 11 0),(14,zB zak)],[(2,.box 48 (zm (zc7 n))),(11,.box 147 (zm (zbG (⟨n,(⟨0,(λ _=>none)⟩:Mp)⟩:web))))],[]⟩:=zaE (by kernel_rfl) (zc hs hk (λ hs hk=>hk) (λ hs hk=>(zI9 hs hk)))
def s33 (n:Net) (nodes:(Sl Int)):(web×Int) :=
  (zsD n nodes (!(s32 n)))
def p33 (n:Net) (nodes:(Sl Int)):Bool :=
  (decide ((p32 n=true)) &&
 (zsE n nodes (!(s32 n))))
end
theorem q33 (n:Net) (nodes:(Sl Int)) (K:List PA->Prop) (hs:p33 n nodes=true) (hk:K (e33 (s33 n nodes))):vcFun Tryd.prog G33 zC7 33 [.agg (zc7 n),.one (.sl nodes.len 1 (λ i=>zaL (nodes.get i)))] K :=
  zaE (by kernel_rfl) (zaJ hs λ hc hs=>And.intro (And.intro (zE zao 4 n.Ties.get) hc) (zJa hs hk))
def zJb : List PA → COut
  | [.agg [.int .i64 zaw,.sl zaA zbP zav],.one (.sl zeK zlQ zeL)]=>.alt ((s33 (⟨zaw,(⟨zaA,za6 zav⟩:(Sl Tie))⟩:Net) (⟨zeK,zbZ zeL⟩:(Sl Int))).2 == 0) (IsE zao 4 zbP zav/\IsE zaL 1 zlQ zeL/\p33 (⟨zaw,(⟨zaA,za6 zav⟩:(Sl Tie))⟩:Net) (⟨zeK,zbZ zeL⟩:(Sl Int))=true) [.one (.fp (zbG (⟨(s33 (⟨zaw,(⟨zaA,za6 zav⟩:(Sl Tie))⟩:Net) (⟨zeK,zbZ zeL⟩:(Sl Int))).1.Net,((s33 (⟨zaw,(⟨zaA,za6 zav⟩:(Sl Tie))⟩:Net) (⟨zeK,zbZ zeL⟩:(Sl Int))).1.out)⟩:web)) 0),.one (.int .i64 (0:Int))] (IsE zao 4 zbP zav/\IsE zaL 1 zlQ zeL/\p33 (⟨zaw,(⟨zaA,za6 zav⟩:(Sl Tie))⟩:Net) (⟨zeK,zbZ zeL⟩:(Sl Int))=true) [.one (.nilp),.one (.int .i64 ((s33 (⟨zaw,(⟨zaA,za6 zav⟩:(Sl Tie))⟩:Net) (⟨zeK,zbZ zeL⟩:(Sl Int))).2))]
  | [.agg [.int .i64 zaw,.sl zaA zbP zav],.one (.nils)]=>.alt ((s33 (⟨zaw,(⟨zaA,za6 zav⟩:(Sl Tie))⟩:Net) (⟨0,λ _=>default⟩:(Sl Int))).2 == 0) (IsE zao 4 zbP zav/\p33 (⟨zaw,(⟨zaA,za6 zav⟩:(Sl Tie))⟩:Net) (⟨0,λ _=>default⟩:(Sl Int))=true) [.one (.fp (zbG (⟨(s33 (⟨zaw,(⟨zaA,za6 zav⟩:(Sl Tie))⟩:Net) (⟨0,λ _=>default⟩:(Sl Int))).1.Net,((s33 (⟨zaw,(⟨zaA,za6 zav⟩:(Sl Tie))⟩:Net) (⟨0,λ _=>default⟩:(Sl Int))).1.out)⟩:web)) 0),.one (.int .i64 (0:Int))] (IsE zao 4 zbP zav/\p33 (⟨zaw,(⟨zaA,za6 zav⟩:(Sl Tie))⟩:Net) (⟨0,λ _=>default⟩:(Sl Int))=true) [.one (.nilp),.one (.int .i64 ((s33 (⟨zaw,(⟨zaA,za6 zav⟩:(Sl Tie))⟩:Net) (⟨0,λ _=>default⟩:(Sl Int))).2))]
  | _=>.no
theorem zNz:zac Tryd.prog 33:=⟨_,rfl,rfl,by kernel_rfl⟩
theorem zUr:Ok Tryd.prog 33 zJb:=zhl zRb zNz λ args K h=>by
  unfold zJb at h
  split at h
  · rename_i zaw zaA zbP zav zeK zlQ zeL
    have h:=zK4 h
    obtain⟨⟨⟨rfl,zbv,rfl⟩,⟨rfl,zin,rfl⟩,hs⟩,hk⟩:=h
    try rw[zaN zbv] at hs
    try rw[zaN zbv] at hk
    try rw[zeo zin] at hs
    try rw[zeo zin] at hk
    exact⟨_,zg8 zfW _,(λ _ _=>[]),(λ _=>false),zC7,q33 (⟨zaw,(⟨zaA,zbv⟩:(Sl Tie))⟩:Net) (⟨zeK,zin⟩:(Sl Int)) (Wk K) hs (zfX hk)⟩
  · rename_i zaw zaA zbP zav
    have h:=zK4 h
    obtain⟨⟨⟨rfl,zbv,rfl⟩,hs⟩,hk⟩:=h
    try rw[zaN zbv] at hs
    try rw[zaN zbv] at hk
    exact⟨_,(ze4 (zfW _) (ze4 (.one (.nil _ _)) zka)),(λ _ _=>[]),(λ _=>false),zC7,q33 (⟨zaw,(⟨zaA,zbv⟩:(Sl Tie))⟩:Net) (⟨0,λ _=>default⟩:(Sl Int)) (Wk K) hs (zfX hk)⟩
  · exact h.elim
abbrev T63:Tabs:=Tabs.nil
theorem zRc:TabsOk Tryd.prog T63:=TabsOk.nil
abbrev G63:Ctrs:=csm T63 (λ _ _=>[]) (λ _=>false)
def zNA:Ann:=⟨24,[(0,zK [2,3] [2,3]),(1,zK [4] [])],
 [],
 [],
 [],[]⟩
abbrev R63:=Bool
abbrev e63 (r:R63):List PA:=[.one (.bool r)]
section
variable {K:List PA->Prop}{a:far}{b:far}
def s63 (a:far) (b:far):Bool :=
  (cond (decide (a.length < b.length))
 true
 (cond (a.length == b.length)
 (decide (a.uses < b.uses))
 false))
end
theorem q63 (a:far) (b:far) (K:List PA->Prop) (hk:K (e63 (s63 a b))):vcFun Tryd.prog G63 zNA 63 [.agg (zdX a),.agg (zdX b)] K :=
  zaE (by kernel_rfl) (zt hk (λ hk=>hk) (λ hk=>(zt hk (λ hk=>hk) (λ hk=>hk))))
def zJc : List PA → COut
  | [.agg [.int .i64 zlv,.int .i64 zsF],.agg [.int .i64 zdF,.int .i64 zfD]]=>.tot [.one (.bool (s63 (⟨zlv,zsF⟩:far) (⟨zdF,zfD⟩:far)))]
  | _=>.no
theorem zNB:zac Tryd.prog 63:=⟨_,rfl,rfl,by kernel_rfl⟩
theorem zUs:Ok Tryd.prog 63 zJc:=zau zRc zNB λ args K h=>by
  unfold zJc at h
  split at h
  · rename_i zlv zsF zdF zfD
    have hk:=h
    exact⟨(λ _ _=>[]),(λ _=>false),zNA,q63 (⟨zlv,zsF⟩:far) (⟨zdF,zfD⟩:far) K hk⟩
  · exact h.elim
abbrev T62:Tabs:=(Tabs.nil.addF 63 zJc)
theorem zRd:TabsOk Tryd.prog T62:=(TabsOk.nil.addF zUs)
abbrev G62:Ctrs:=csm T62 (λ _ _=>[]) (λ _=>false)
def zJd:Ann:=⟨22,[(0,zK [0,2,4,6] [4,6]),(1,zK [0,4,6,9,10,11] [4,6]),(2,zK [0,4,6,9,10,11,12] [4,6]),(3,zK [0,4,6,8,9,10,11] [4,6,8]),(4,zK [0,4,6,8,9,10,11,18] [4,6,8]),(5,zK [0,4,6,9,10,11] [4,6]),(6,zK [0,4,6,9,10,11] [4,6]),(7,zK [6] [6])],
 [(2,zK [0,4,6,9,10,11] [4,6])],
 [(5,zK [0,4,6,8,9,10,11,18] [4,6,8])],
 [],[]⟩
abbrev R62:=far
abbrev e62 (r:R62):List PA:=[.agg [.int .i64 r.length,.int .i64 r.uses]]
@[irreducible] def z62:=ptF Tryd.prog G62 zJd Tryd.f62
def zEN (others:(Sl far)) (zdJ:Int) (zbJ:Int) (zbK:Int):St:=⟨[(0,zP (.fn 63 [] [])),(4,zp 4 0),(6,zp 6 0),(9,zS zdX 2 others),(10,zI (others.len:Int)),(11,zI zdJ)],[(4,.box 98 (zm (zdX (⟨zbJ,zbK⟩:far)))),(6,.box 98 (zm (zdX (⟨(0:Int),(0:Int)⟩:far))))],[]⟩
abbrev zJe (K:List PA->Prop) (others:(Sl far)) (X:St->Prop) (P:Int->Int->Int->Bool) (S:Int->Int->Int->far):Prop:=∀ ⦃zdJ:Int⦄ ⦃zbJ:Int⦄ ⦃zbK:Int⦄,P zdJ zbJ zbK=true->K (e62 (S zdJ zbJ zbK))->X (zEN others zdJ zbJ zbK)
section
variable {K:List PA->Prop}{first:far}{others:(Sl far)}{zdJ:Int}{zbJ:Int}{zbK:Int}{X0:St->Prop}{P0:Int->Int->Int->Bool}{S0:Int->Int->Int->far}{zn3:Int}{zan:Bool}{zeB:Int}{zeC:Int}{zcX:Int}{zcY:Int}
def zsG (S0:Int->Int->Int->far) (others:(Sl far)) (zn3:Int) (zan:Bool) (zeB:Int) (zeC:Int) (zcX:Int) (zcY:Int):far :=
  (cond zan
 (S0 (w64 (zn3+(1:Int))) zcX zcY)
 (S0 (w64 (zn3+(1:Int))) zeB zeC))
def zsH (P0:Int->Int->Int->Bool) (others:(Sl far)) (zn3:Int) (zan:Bool) (zeB:Int) (zeC:Int) (zcX:Int) (zcY:Int):Bool :=
  (cond zan
 (P0 (w64 (zn3+(1:Int))) zcX zcY)
 (P0 (w64 (zn3+(1:Int))) zeB zeC))
theorem zJf (hX0:zJe K others X0 P0 S0) (hs:zsH P0 others zn3 zan zeB zeC zcX zcY=true) (hk:K (e62 (zsG S0 others zn3 zan zeB zeC zcX zcY))):z62 K [1,0,1,0,0,1,1,0,0,1,1] [X0] ⟨[(0,zP (.fn 63 [] [])),(4,zp 4 0),(6,zp 6 0),(8,zp 8 0),(9,zS zdX 2 others),(10,zI (others.len:Int)),(11,zI zn3),(18,zB zan)],[(4,.box 98 (zm (zdX (⟨zeB,zeC⟩:far)))),(6,.box 98 (zm (zdX (⟨(0:Int),(0:Int)⟩:far)))),(8,.box 98 (zm (zdX (⟨zcX,zcY⟩:far))))],[]⟩:=zaE (by kernel_rfl) (zc hs hk (λ hs hk=>(hX0 hs hk)) (λ hs hk=>(hX0 hs hk)))
def zjm (others:(Sl far)) (S0:Int->Int->Int->far) (zdJ:Int) (zbJ:Int) (zbK:Int):far :=
  (cond (decide (zdJ < (others.len : Int)))
 (zsG S0 others zdJ (s63 (others.get zdJ.toNat) (⟨zbJ,zbK⟩:far)) zbJ zbK ((others.get zdJ.toNat).length) ((others.get zdJ.toNat).uses))
 (⟨zbJ,zbK⟩:far))
def zjn (others:(Sl far)) (P0:Int->Int->Int->Bool) (zdJ:Int) (zbJ:Int) (zbK:Int):Bool :=
  (cond (decide (zdJ < (others.len : Int)))
 (decide ((0<=zdJ/\zdJ < (others.len:Int))) &&
 (zsH P0 others zdJ (s63 (others.get zdJ.toNat) (⟨zbJ,zbK⟩:far)) zbJ zbK ((others.get zdJ.toNat).length) ((others.get zdJ.toNat).uses)))
 true)
def zjo (others:(Sl far)):Nat->Int->Int->Int->far:=lpO (λ _ _ _=>default) (zjm others)
def zjq (others:(Sl far)):Nat->Int->Int->Int->Bool:=lpO (λ _ _ _=>false) (zjn others)
def zsI (others:(Sl far)) (zdJ:Int) (zbJ:Int) (zbK:Int):far:=zjo others Fuel zdJ zbJ zbK
def zsJ (others:(Sl far)) (zdJ:Int) (zbJ:Int) (zbK:Int):Bool:=zjq others Fuel zdJ zbJ zbK
theorem zJg (hs:zsJ others zdJ zbJ zbK=true) (hk:K (e62 (zsI others zdJ zbJ zbK))):z62 K [1,0,1,0] [] (zEN others zdJ zbJ zbK) :=
  zl (λ X=>z62 K [1,0,1,0,0] [X]) (by kernel_rfl) λ X0 hX =>
  (show ∀ k, zJe K others X0 (zjq others k) (zjo others k) from zgd _ _ (zjn others) (zjm others) (zJe K others X0)
 (by intro _ _ _ hs;exact absurd hs dqk)
 (by intro P0 S0 hX0 zdJ zbJ zbK hs hk;exact hX _ (zaE (by kernel_rfl) (zc hs hk (λ hs hk=>(zaJ hs λ hc hs=>And.intro hc (zJf hX0 hs hk))) (λ hs hk=>hk))))) _ hs hk
def s62 (first:far) (others:(Sl far)):far :=
  (zsI others (0:Int) first.length first.uses)
def p62 (first:far) (others:(Sl far)):Bool :=
  (zsJ others (0:Int) first.length first.uses)
end
theorem q62 (first:far) (others:(Sl far)) (K:List PA->Prop) (hs:p62 first others=true) (hk:K (e62 (s62 first others))):vcFun Tryd.prog G62 zJd 62 [.one (.fn 63 [] []),.agg (zdX first),.one (.sl others.len 2 (λ i=>zdX (others.get i)))] K :=
  zaE (by kernel_rfl) (zJg hs hk)
def zC9 : List PA → COut
  | [.one (.fn 63 [] []),.agg [.int .i64 zdF,.int .i64 zfD],.one (.sl zNC zR7 zND)]=>.det (IsE zdX 2 zR7 zND/\p62 (⟨zdF,zfD⟩:far) (⟨zNC,znm zND⟩:(Sl far))=true) [.agg [.int .i64 ((s62 (⟨zdF,zfD⟩:far) (⟨zNC,znm zND⟩:(Sl far))).length),.int .i64 ((s62 (⟨zdF,zfD⟩:far) (⟨zNC,znm zND⟩:(Sl far))).uses)]]
  | _=>.no
theorem zNE:zac Tryd.prog 62:=⟨_,rfl,rfl,by kernel_rfl⟩
theorem zR8:Ok Tryd.prog 62 zC9:=zau zRd zNE λ args K h=>by
  unfold zC9 at h
  split at h
  · rename_i zdF zfD zNC zR7 zND
    obtain⟨⟨⟨rfl,zRe,rfl⟩,hs⟩,hk⟩:=h
    try rw[zlb zRe] at hs
    try rw[zlb zRe] at hk
    exact⟨(λ _ _=>[]),(λ _=>false),zJd,q62 (⟨zdF,zfD⟩:far) (⟨zNC,zRe⟩:(Sl far)) K hs hk⟩
  · exact h.elim
abbrev T34:Tabs:=(((Tabs.nil.addF 61 zAi).addF 62 zC9).addI 82 zNv)
theorem zRf:TabsOk Tryd.prog T34:=(((TabsOk.nil.addF zQ5).addF zR8).addI zQ9)
abbrev G34:Ctrs:=csm T34 (λ _ _=>[]) (λ _=>false)
def zAq:Ann:=⟨66,[(0,zK [0,1,4] [4]),(1,zK [0,1,4,5] [4,5]),(2,zK [0,1,4,5,10] [4,5]),(3,zK [0,1,4,5,10,11] [4,5]),(4,zK [0,1,4,5,6,10] [4,5]),(5,zK [0,1,4,5,10] [4,5]),(6,zK [0,1,4,5,10] [4,5]),(7,zK [0,4,5] [4,5]),(8,zK [0,4,5,7] [4,5,7]),(9,zK [0,4,5,7,20] [4,5,7]),(10,zK [0,4,5,7] [4,5,7]),(11,zK [0,4,5,7,22] [4,5,7]),(12,zK [0,4,5,7,8,22] [4,5,7,8]),(13,zK [0,4,5,7,8,22,29] [4,5,7,8]),(14,zK [0,4,5,7,8,9,22] [4,5,7,8,9]),(15,zK [0,4,5,7,8,9,22] [4,5,7,8,9]),(16,zK [0,4,5,7,22] [4,5,7]),(17,zK [0,4,5,64] [4,5]),(18,zK [0,4,5,7] [4,5,7]),(19,zK [4] [4])],
 [(3,zK [0,1,4,5,10] [4,5]),(9,zK [0,4,5,7] [4,5,7]),(12,zK [0,4,5,7,22] [4,5,7])],
 [(7,zK [0,1,4,5] [4,5])],
 [],[]⟩
abbrev R34:=Tab
abbrev e34 (r:R34):List PA:=[.agg (zcG r)]
@[irreducible] def z34:=ptF Tryd.prog G34 zAq Tryd.f34
@[irreducible] def x34:=exF Tryd.prog G34 zAq Tryd.f34
@[irreducible] def y34:=rnF Tryd.prog G34 zAq Tryd.f34
def zEO (w:web) (node:Int) (zcg:Int) (t4t0:Tab) (dt0:Tab):St:=⟨[(0,zP (.fp (zbG w) 0)),(1,zI node),(4,zp 4 0),(5,zp 5 0),(10,zI zcg)],[(4,.box 100 (zm (zcG t4t0))),(5,.box 100 (zm (zcG dt0)))],[]⟩
abbrev zNF (K:List PA->Prop) (w:web) (node:Int) (X:St->Prop) (P:Int->Tab->Tab->Bool) (S:Int->Tab->Tab->Tab):Prop:=∀ ⦃zcg:Int⦄ ⦃t4t0:Tab⦄ ⦃dt0:Tab⦄,P zcg t4t0 dt0=true->K (e34 (S zcg t4t0 dt0))->X (zEO w node zcg t4t0 dt0)
def zEP (w:web) (zaF:Bool) (t4t2:Tab) (dt2:Tab):St:=⟨[(0,zP (.fp (zbG w) 0)),(4,zp 4 0),(5,zp 5 0),(7,zp 7 0)],[(4,.box 100 (zm (zcG t4t2))),(5,.box 100 (zm (zcG dt2))),(7,.box 4 [.p (.bool zaF)])],[]⟩
abbrev zJh (K:List PA->Prop) (w:web) (X:St->Prop) (P:Bool->Tab->Tab->Bool) (S:Bool->Tab->Tab->Tab):Prop:=∀ ⦃zaF:Bool⦄ ⦃t4t2:Tab⦄ ⦃dt2:Tab⦄,P zaF t4t2 dt2=true->K (e34 (S zaF t4t2 dt2))->X (zEP w zaF t4t2 dt2)
def zAr (w:web) (zam:Bool) (t4t3:Tab) (dt3:Tab):St:=⟨[(0,zP (.fp (zbG w) 0)),(4,zp 4 0),(5,zp 5 0),(7,zp 7 0),(22,zP (.fn 82 [] [.fp [.fp (zbG w) 0] 0]))],[(4,.box 100 (zm (zcG t4t3))),(5,.box 100 (zm (zcG dt3))),(7,.box 4 [.p (.bool zam)])],[]⟩
abbrev zNG (K:List PA->Prop) (w:web) (X:St->Prop) (P:Bool->Tab->Tab->Bool) (S:Bool->Tab->Tab->Tab):Prop:=∀ ⦃zam:Bool⦄ ⦃t4t3:Tab⦄ ⦃dt3:Tab⦄,P zam t4t3 dt3=true->K (e34 (S zam t4t3 dt3))->X (zAr w zam t4t3 dt3)
section
variable {K:List PA->Prop}{w:web}{node:Int}{zcg:Int}{t4t0:Tab}{dt0:Tab}{X0:St->Prop}{P0:Int->Tab->Tab->Bool}{S0:Int->Tab->Tab->Tab}{t4t1:Tab}{dt1:Tab}{zaF:Bool}{t4t2:Tab}{dt2:Tab}{X2:St->Prop}{P2:Bool->Tab->Tab->Bool}{S2:Bool->Tab->Tab->Tab}{zam:Bool}{t4t3:Tab}{dt3:Tab}
def zJi (S2:Bool->Tab->Tab->Tab) (w:web) (zam:Bool) (t4t3:Tab) (dt3:Tab):Tab :=
  (S2 zam t4t3 dt3)
def zJj (P2:Bool->Tab->Tab->Bool) (w:web) (zam:Bool) (t4t3:Tab) (dt3:Tab):Bool :=
  (P2 zam t4t3 dt3)
def zn4 (S2:Bool->Tab->Tab->Tab) (w:web) (y3:step) (S3:Bool->Tab->Tab->Tab) (zam:Bool) (t4t3:Tab) (dt3:Tab):Tab :=
  (cond (nvr (tL dt3 y3.to) (tU dt3 y3.to))
 (S3 zam t4t3 dt3)
 (cond zam
 (S3 true t4t3 (ts 80 dt3 (0+y3.from_.toNat * 2+0) [(s62 (⟨(tL dt3 y3.from_),(tU dt3 y3.from_)⟩:far) (⟨1,λ _=>(⟨(w64 ((tL dt3 y3.to)+y3.length)),(w64 ((tV dt3 y3.to)+(1:Int)))⟩:far)⟩:(Sl far))).length,(s62 (⟨(tL dt3 y3.from_),(tU dt3 y3.from_)⟩:far) (⟨1,λ _=>(⟨(w64 ((tL dt3 y3.to)+y3.length)),(w64 ((tV dt3 y3.to)+(1:Int)))⟩:far)⟩:(Sl far))).uses]))
 (S3 (!(match ((s62 (⟨(tL dt3 y3.from_),(tU dt3 y3.from_)⟩:far) (⟨1,λ _=>(⟨(w64 ((tL dt3 y3.to)+y3.length)),(w64 ((tV dt3 y3.to)+(1:Int)))⟩:far)⟩:(Sl far))).length == (tL dt3 y3.from_)) with | true=>(match ((s62 (⟨(tL dt3 y3.from_),(tU dt3 y3.from_)⟩:far) (⟨1,λ _=>(⟨(w64 ((tL dt3 y3.to)+y3.length)),(w64 ((tV dt3 y3.to)+(1:Int)))⟩:far)⟩:(Sl far))).uses == (tU dt3 y3.from_)) with | true=>true | false=>false) | false=>false)) t4t3 (ts 80 dt3 (0+y3.from_.toNat * 2+0) [(s62 (⟨(tL dt3 y3.from_),(tU dt3 y3.from_)⟩:far) (⟨1,λ _=>(⟨(w64 ((tL dt3 y3.to)+y3.length)),(w64 ((tV dt3 y3.to)+(1:Int)))⟩:far)⟩:(Sl far))).length,(s62 (⟨(tL dt3 y3.from_),(tU dt3 y3.from_)⟩:far) (⟨1,λ _=>(⟨(w64 ((tL dt3 y3.to)+y3.length)),(w64 ((tV dt3 y3.to)+(1:Int)))⟩:far)⟩:(Sl far))).uses]))))
def zn5 (P2:Bool->Tab->Tab->Bool) (w:web) (y3:step) (P3:Bool->Tab->Tab->Bool) (zam:Bool) (t4t3:Tab) (dt3:Tab):Bool :=
  (decide ((0<=y3.to/\y3.to < (40:Int))) &&
 (cond (nvr (tL dt3 y3.to) (tU dt3 y3.to))
 (P3 zam t4t3 dt3)
 (decide ((0<=y3.from_/\y3.from_ < (40:Int))) &&
 (decide ((0<=y3.to/\y3.to < (40:Int))) &&
 (decide ((0<=y3.to/\y3.to < (40:Int))) &&
 (decide ((p62 (⟨(tL dt3 y3.from_),(tU dt3 y3.from_)⟩:far) (⟨1,λ _=>(⟨(w64 ((tL dt3 y3.to)+y3.length)),(w64 ((tV dt3 y3.to)+(1:Int)))⟩:far)⟩:(Sl far))=true)) &&
 (cond zam
 (decide ((0<=y3.from_/\y3.from_ < (40:Int))) &&
 (P3 true t4t3 (ts 80 dt3 (0+y3.from_.toNat * 2+0) [(s62 (⟨(tL dt3 y3.from_),(tU dt3 y3.from_)⟩:far) (⟨1,λ _=>(⟨(w64 ((tL dt3 y3.to)+y3.length)),(w64 ((tV dt3 y3.to)+(1:Int)))⟩:far)⟩:(Sl far))).length,(s62 (⟨(tL dt3 y3.from_),(tU dt3 y3.from_)⟩:far) (⟨1,λ _=>(⟨(w64 ((tL dt3 y3.to)+y3.length)),(w64 ((tV dt3 y3.to)+(1:Int)))⟩:far)⟩:(Sl far))).uses])))
 (decide ((0<=y3.from_/\y3.from_ < (40:Int))) &&
 (decide ((0<=y3.from_/\y3.from_ < (40:Int))) &&
 (P3 (!(match ((s62 (⟨(tL dt3 y3.from_),(tU dt3 y3.from_)⟩:far) (⟨1,λ _=>(⟨(w64 ((tL dt3 y3.to)+y3.length)),(w64 ((tV dt3 y3.to)+(1:Int)))⟩:far)⟩:(Sl far))).length == (tL dt3 y3.from_)) with | true=>(match ((s62 (⟨(tL dt3 y3.from_),(tU dt3 y3.from_)⟩:far) (⟨1,λ _=>(⟨(w64 ((tL dt3 y3.to)+y3.length)),(w64 ((tV dt3 y3.to)+(1:Int)))⟩:far)⟩:(Sl far))).uses == (tU dt3 y3.from_)) with | true=>true | false=>false) | false=>false)) t4t3 (ts 80 dt3 (0+y3.from_.toNat * 2+0) [(s62 (⟨(tL dt3 y3.from_),(tU dt3 y3.from_)⟩:far) (⟨1,λ _=>(⟨(w64 ((tL dt3 y3.to)+y3.length)),(w64 ((tV dt3 y3.to)+(1:Int)))⟩:far)⟩:(Sl far))).length,(s62 (⟨(tL dt3 y3.from_),(tU dt3 y3.from_)⟩:far) (⟨1,λ _=>(⟨(w64 ((tL dt3 y3.to)+y3.length)),(w64 ((tV dt3 y3.to)+(1:Int)))⟩:far)⟩:(Sl far))).uses])))))))))))
def zn6 (S2:Bool->Tab->Tab->Tab) (w:web):List step->Bool->Tab->Tab->Tab:=lpR (zJi S2 w) (zn4 S2 w)
def zn7 (P2:Bool->Tab->Tab->Bool) (w:web):List step->Bool->Tab->Tab->Bool:=lpR (zJj P2 w) (zn5 P2 w)
def zsK (S2:Bool->Tab->Tab->Tab) (w:web) (zam:Bool) (t4t3:Tab) (dt3:Tab):Tab:=zn6 S2 w (s82 w) zam t4t3 dt3
def zsL (P2:Bool->Tab->Tab->Bool) (w:web) (zam:Bool) (t4t3:Tab) (dt3:Tab):Bool:=decide ((p82 w=true)) && zn7 P2 w (s82 w) zam t4t3 dt3
theorem zJk (hX2:zJh K w X2 P2 S2) (hs:zsL P2 w zam t4t3 dt3=true) (hk:K (e34 (zsK S2 w zam t4t3 dt3))):z34 K [1,1,1,1,0,1,0,0,1,0,0,1,1,0] [X2] (zAr w zam t4t3 dt3) :=
  zaJ hs λ hc hs=>zr (enc:=(λ y:step=>[.agg (zdz y)])) (ys:=s82 w) (g:=(zAr w zam t4t3 dt3)) (x34 K [1,1,1,1,0,1,0,0,1,0,0,1,1,0] [X2]) (y34 K [1,1,1,1,0,1,0,0,1,0,0,1,1,0] [X2]) (by kernel_rfl) (And.intro (zE zao 4 w.Net.Ties.get) (And.intro (rfl:((false,1,false,[none]):MQ)=(false,1,false,[none])) hc)) λ X3 hE hR =>
  (show ∀ l : List step, zNG K w (X3 (l.map (λ y : step => [.agg (zdz y)]))) (zn7 P2 w l) (zn6 S2 w l) from zri (X := X3) (enc := (λ y : step => [.agg (zdz y)])) _ _ (zn5 P2 w) (zn4 S2 w) (λ Z P S => zNG K w Z P S)
 (by intro zam t4t3 dt3 hs hk;exact hE _ (zaE (by kernel_rfl) (hX2 hs hk)))
 (by intro y3 rest P3 S3 hX3 zam t4t3 dt3 hs hk;exact hR _ rest _ (zaE (by kernel_rfl) (zaJ hs λ hc hs=>And.intro hc (zc hs hk (λ hs hk=>(hX3 hs hk)) (λ hs hk=>(zaJ hs λ hc hs=>And.intro hc (zaJ hs λ hc hs=>And.intro hc (zaJ hs λ hc hs=>And.intro hc (zaJ hs λ hc hs=>And.intro (And.intro (zxF:IsE zdX 2 2 (λ _=>(zdX (⟨(w64 ((tL dt3 y3.to)+y3.length)),(w64 ((tV dt3 y3.to)+(1:Int)))⟩:far)))) hc) (zc hs hk (λ hs hk=>(zaJ hs λ hc hs=>And.intro hc (hX3 hs hk))) (λ hs hk=>(zaJ hs λ hc hs=>And.intro hc (zaJ hs λ hc hs=>And.intro hc (hX3 hs hk))))))))))))))) _ hs hk
def zn8 (w:web) (S2:Bool->Tab->Tab->Tab) (zaF:Bool) (t4t2:Tab) (dt2:Tab):Tab :=
  (cond zaF
 (zsK S2 w false t4t2 dt2)
 dt2)
def zn9 (w:web) (P2:Bool->Tab->Tab->Bool) (zaF:Bool) (t4t2:Tab) (dt2:Tab):Bool :=
  (cond zaF
 (zsL P2 w false t4t2 dt2)
 true)
def zgx (w:web):Nat->Bool->Tab->Tab->Tab:=lpO (λ _ _ _=>default) (zn8 w)
def zgy (w:web):Nat->Bool->Tab->Tab->Bool:=lpO (λ _ _ _=>false) (zn9 w)
def zsM (w:web) (zaF:Bool) (t4t2:Tab) (dt2:Tab):Tab:=zgx w Fuel zaF t4t2 dt2
def zsN (w:web) (zaF:Bool) (t4t2:Tab) (dt2:Tab):Bool:=zgy w Fuel zaF t4t2 dt2
theorem zJl (hs:zsN w zaF t4t2 dt2=true) (hk:K (e34 (zsM w zaF t4t2 dt2))):z34 K [1,1,1,1,0,1,0] [] (zEP w zaF t4t2 dt2) :=
  zl (λ X=>z34 K [1,1,1,1,0,1,0,0] [X]) (by kernel_rfl) λ X2 hX =>
  (show ∀ k, zJh K w X2 (zgy w k) (zgx w k) from zgd _ _ (zn9 w) (zn8 w) (zJh K w X2)
 (by intro _ _ _ hs;exact absurd hs dqk)
 (by intro P2 S2 hX2 zaF t4t2 dt2 hs hk;exact hX _ (zaE (by kernel_rfl) (zc hs hk (λ hs hk=>(And.intro (And.intro (zE zao 4 w.Net.Ties.get) (rfl:((false,1,false,[none]):MQ)=(false,1,false,[none]))) (zJk hX2 hs hk))) (λ hs hk=>hk))))) _ hs hk
def zoa (w:web) (node:Int) (t4t1:Tab) (dt1:Tab):Tab :=
  (zsM w true t4t1 (ts 80 dt1 (0+node.toNat * 2+0) [(0:Int),(0:Int)]))
def zob (w:web) (node:Int) (t4t1:Tab) (dt1:Tab):Bool :=
  (decide ((0<=node/\node < (40:Int))) &&
 (zsN w true t4t1 (ts 80 dt1 (0+node.toNat * 2+0) [(0:Int),(0:Int)])))
theorem zJm (hs:zob w node t4t1 dt1=true) (hk:K (e34 (zoa w node t4t1 dt1))):z34 K [1,1,1] [] ⟨[(0,zP (.fp (zbG w) 0)),(1,zI node),(4,zp 4 0),(5,zp 5 0)],[(4,.box 100 (zm (zcG t4t1))),(5,.box 100 (zm (zcG dt1)))],[]⟩:=zaE (by kernel_rfl) (zaJ hs λ hc hs=>And.intro hc (zJl hs hk))
def zjr (w:web) (node:Int) (S0:Int->Tab->Tab->Tab) (zcg:Int) (t4t0:Tab) (dt0:Tab):Tab :=
  (cond (decide (zcg < (40:Int)))
 (S0 (w64 (zcg+(1:Int))) t4t0 (ts 80 dt0 (0+zcg.toNat * 2+0) [(1000000000000:Int),(0:Int)]))
 (zoa w node t4t0 dt0))
def zjs (w:web) (node:Int) (P0:Int->Tab->Tab->Bool) (zcg:Int) (t4t0:Tab) (dt0:Tab):Bool :=
  (cond (decide (zcg < (40:Int)))
 (decide ((0<=zcg/\zcg < (40:Int))) &&
 (P0 (w64 (zcg+(1:Int))) t4t0 (ts 80 dt0 (0+zcg.toNat * 2+0) [(1000000000000:Int),(0:Int)])))
 (zob w node t4t0 dt0))
def zjt (w:web) (node:Int):Nat->Int->Tab->Tab->Tab:=lpO (λ _ _ _=>default) (zjr w node)
def zju (w:web) (node:Int):Nat->Int->Tab->Tab->Bool:=lpO (λ _ _ _=>false) (zjs w node)
def zAs (w:web) (node:Int) (zcg:Int) (t4t0:Tab) (dt0:Tab):Tab:=zjt w node Fuel zcg t4t0 dt0
def zAt (w:web) (node:Int) (zcg:Int) (t4t0:Tab) (dt0:Tab):Bool:=zju w node Fuel zcg t4t0 dt0
theorem zJn (hs:zAt w node zcg t4t0 dt0=true) (hk:K (e34 (zAs w node zcg t4t0 dt0))):z34 K [1,1,0,1,0] [] (zEO w node zcg t4t0 dt0) :=
  zl (λ X=>z34 K [1,1,0,1,0,0] [X]) (by kernel_rfl) λ X0 hX =>
  (show ∀ k, zNF K w node X0 (zju w node k) (zjt w node k) from zgd _ _ (zjs w node) (zjr w node) (zNF K w node X0)
 (by intro _ _ _ hs;exact absurd hs dqk)
 (by intro P0 S0 hX0 zcg t4t0 dt0 hs hk;exact hX _ (zaE (by kernel_rfl) (zc hs hk (λ hs hk=>(zaJ hs λ hc hs=>And.intro hc (hX0 hs hk))) (λ hs hk=>(zJm hs hk)))))) _ hs hk
def s34 (w:web) (node:Int):Tab :=
  (zAs w node (0:Int) (λ _=>(0:Int)) (λ _=>(0:Int)))
def p34 (w:web) (node:Int):Bool :=
  (zAt w node (0:Int) (λ _=>(0:Int)) (λ _=>(0:Int)))
end
theorem q34 (w:web) (node:Int) (K:List PA->Prop) (hs:p34 w node=true) (hk:K (e34 (s34 w node))):vcFun Tryd.prog G34 zAq 34 [.one (.fp (zbG w) 0),.one (.int .i64 node)] K :=
  zaE (by kernel_rfl) (zJn hs hk)
def zJo : List PA → COut
  | [.one (.fp [.int .i64 za2,.sl zaO zbQ zaP,.fm zdE zce zcf] 0),.one (.int .i64 a1)]=>.det (IsE zao 4 zbQ zaP/\zdE=(false,1,false,[none])/\p34 (⟨(⟨za2,(⟨zaO,za6 zaP⟩:(Sl Tie))⟩:Net),(⟨zce,zcf⟩:Mp)⟩:web) a1=true) [.agg (zcG ((s34 (⟨(⟨za2,(⟨zaO,za6 zaP⟩:(Sl Tie))⟩:Net),(⟨zce,zcf⟩:Mp)⟩:web) a1)))]
  | _=>.no
theorem zNH:zac Tryd.prog 34:=⟨_,rfl,rfl,by kernel_rfl⟩
theorem zUt:Ok Tryd.prog 34 zJo:=zau zRf zNH λ args K h=>by
  unfold zJo at h
  split at h
  · rename_i za2 zaO zbQ zaP zdE zce zcf a1
    obtain⟨⟨⟨rfl,zbs,rfl⟩,rfl,hs⟩,hk⟩:=h
    try rw[zaN zbs] at hs
    try rw[zaN zbs] at hk
    exact⟨(λ _ _=>[]),(λ _=>false),zAq,q34 (⟨(⟨za2,(⟨zaO,zbs⟩:(Sl Tie))⟩:Net),(⟨zce,zcf⟩:Mp)⟩:web) a1 K hs hk⟩
  · exact h.elim
abbrev T35:Tabs:=(((Tabs.nil.addF 61 zAi).addF 62 zC9).addI 82 zNv)
theorem zRg:TabsOk Tryd.prog T35:=(((TabsOk.nil.addF zQ5).addF zR8).addI zQ9)
abbrev G35:Ctrs:=csm T35 (λ _ _=>[]) (λ _=>false)
def zAu:Ann:=⟨66,[(0,zK [0,1,4] [4]),(1,zK [0,1,4,5] [4,5]),(2,zK [0,1,4,5,10] [4,5]),(3,zK [0,1,4,5,10,11] [4,5]),(4,zK [0,1,4,5,6,10] [4,5]),(5,zK [0,1,4,5,10] [4,5]),(6,zK [0,1,4,5,10] [4,5]),(7,zK [0,4,5] [4,5]),(8,zK [0,4,5,7] [4,5,7]),(9,zK [0,4,5,7,20] [4,5,7]),(10,zK [0,4,5,7] [4,5,7]),(11,zK [0,4,5,7,22] [4,5,7]),(12,zK [0,4,5,7,8,22] [4,5,7,8]),(13,zK [0,4,5,7,8,22,29] [4,5,7,8]),(14,zK [0,4,5,7,8,9,22] [4,5,7,8,9]),(15,zK [0,4,5,7,8,9,22] [4,5,7,8,9]),(16,zK [0,4,5,7,22] [4,5,7]),(17,zK [0,4,5,64] [4,5]),(18,zK [0,4,5,7] [4,5,7]),(19,zK [4] [4])],
 [(3,zK [0,1,4,5,10] [4,5]),(9,zK [0,4,5,7] [4,5,7]),(12,zK [0,4,5,7,22] [4,5,7])],
 [(7,zK [0,1,4,5] [4,5])],
 [],[]⟩
abbrev R35:=Tab
abbrev e35 (r:R35):List PA:=[.agg (zcG r)]
@[irreducible] def z35:=ptF Tryd.prog G35 zAu Tryd.f35
@[irreducible] def x35:=exF Tryd.prog G35 zAu Tryd.f35
@[irreducible] def y35:=rnF Tryd.prog G35 zAu Tryd.f35
def zEQ (w:web) (node:Int) (zcg:Int) (t4t0:Tab) (dt0:Tab):St:=⟨[(0,zP (.fp (zbG w) 0)),(1,zI node),(4,zp 4 0),(5,zp 5 0),(10,zI zcg)],[(4,.box 100 (zm (zcG t4t0))),(5,.box 100 (zm (zcG dt0)))],[]⟩
abbrev zNI (K:List PA->Prop) (w:web) (node:Int) (X:St->Prop) (P:Int->Tab->Tab->Bool) (S:Int->Tab->Tab->Tab):Prop:=∀ ⦃zcg:Int⦄ ⦃t4t0:Tab⦄ ⦃dt0:Tab⦄,P zcg t4t0 dt0=true->K (e35 (S zcg t4t0 dt0))->X (zEQ w node zcg t4t0 dt0)
def zER (w:web) (zaF:Bool) (t4t2:Tab) (dt2:Tab):St:=⟨[(0,zP (.fp (zbG w) 0)),(4,zp 4 0),(5,zp 5 0),(7,zp 7 0)],[(4,.box 100 (zm (zcG t4t2))),(5,.box 100 (zm (zcG dt2))),(7,.box 4 [.p (.bool zaF)])],[]⟩
abbrev zJp (K:List PA->Prop) (w:web) (X:St->Prop) (P:Bool->Tab->Tab->Bool) (S:Bool->Tab->Tab->Tab):Prop:=∀ ⦃zaF:Bool⦄ ⦃t4t2:Tab⦄ ⦃dt2:Tab⦄,P zaF t4t2 dt2=true->K (e35 (S zaF t4t2 dt2))->X (zER w zaF t4t2 dt2)
def zAv (w:web) (zam:Bool) (t4t3:Tab) (dt3:Tab):St:=⟨[(0,zP (.fp (zbG w) 0)),(4,zp 4 0),(5,zp 5 0),(7,zp 7 0),(22,zP (.fn 82 [] [.fp [.fp (zbG w) 0] 0]))],[(4,.box 100 (zm (zcG t4t3))),(5,.box 100 (zm (zcG dt3))),(7,.box 4 [.p (.bool zam)])],[]⟩
abbrev zNJ (K:List PA->Prop) (w:web) (X:St->Prop) (P:Bool->Tab->Tab->Bool) (S:Bool->Tab->Tab->Tab):Prop:=∀ ⦃zam:Bool⦄ ⦃t4t3:Tab⦄ ⦃dt3:Tab⦄,P zam t4t3 dt3=true->K (e35 (S zam t4t3 dt3))->X (zAv w zam t4t3 dt3)
section
variable {K:List PA->Prop}{w:web}{node:Int}{zcg:Int}{t4t0:Tab}{dt0:Tab}{X0:St->Prop}{P0:Int->Tab->Tab->Bool}{S0:Int->Tab->Tab->Tab}{t4t1:Tab}{dt1:Tab}{zaF:Bool}{t4t2:Tab}{dt2:Tab}{X2:St->Prop}{P2:Bool->Tab->Tab->Bool}{S2:Bool->Tab->Tab->Tab}{zam:Bool}{t4t3:Tab}{dt3:Tab}
def zJq (S2:Bool->Tab->Tab->Tab) (w:web) (zam:Bool) (t4t3:Tab) (dt3:Tab):Tab :=
  (S2 zam t4t3 dt3)
def zJr (P2:Bool->Tab->Tab->Bool) (w:web) (zam:Bool) (t4t3:Tab) (dt3:Tab):Bool :=
  (P2 zam t4t3 dt3)
def zoc (S2:Bool->Tab->Tab->Tab) (w:web) (y3:step) (S3:Bool->Tab->Tab->Tab) (zam:Bool) (t4t3:Tab) (dt3:Tab):Tab :=
  (cond (nvr (tL dt3 y3.from_) (tU dt3 y3.from_))
 (S3 zam t4t3 dt3)
 (cond zam
 (S3 true t4t3 (ts 80 dt3 (0+y3.to.toNat * 2+0) [(s62 (⟨(tL dt3 y3.to),(tU dt3 y3.to)⟩:far) (⟨1,λ _=>(⟨(w64 ((tL dt3 y3.from_)+y3.length)),(w64 ((tV dt3 y3.from_)+(1:Int)))⟩:far)⟩:(Sl far))).length,(s62 (⟨(tL dt3 y3.to),(tU dt3 y3.to)⟩:far) (⟨1,λ _=>(⟨(w64 ((tL dt3 y3.from_)+y3.length)),(w64 ((tV dt3 y3.from_)+(1:Int)))⟩:far)⟩:(Sl far))).uses]))
 (S3 (!(match ((s62 (⟨(tL dt3 y3.to),(tU dt3 y3.to)⟩:far) (⟨1,λ _=>(⟨(w64 ((tL dt3 y3.from_)+y3.length)),(w64 ((tV dt3 y3.from_)+(1:Int)))⟩:far)⟩:(Sl far))).length == (tL dt3 y3.to)) with | true=>(match ((s62 (⟨(tL dt3 y3.to),(tU dt3 y3.to)⟩:far) (⟨1,λ _=>(⟨(w64 ((tL dt3 y3.from_)+y3.length)),(w64 ((tV dt3 y3.from_)+(1:Int)))⟩:far)⟩:(Sl far))).uses == (tU dt3 y3.to)) with | true=>true | false=>false) | false=>false)) t4t3 (ts 80 dt3 (0+y3.to.toNat * 2+0) [(s62 (⟨(tL dt3 y3.to),(tU dt3 y3.to)⟩:far) (⟨1,λ _=>(⟨(w64 ((tL dt3 y3.from_)+y3.length)),(w64 ((tV dt3 y3.from_)+(1:Int)))⟩:far)⟩:(Sl far))).length,(s62 (⟨(tL dt3 y3.to),(tU dt3 y3.to)⟩:far) (⟨1,λ _=>(⟨(w64 ((tL dt3 y3.from_)+y3.length)),(w64 ((tV dt3 y3.from_)+(1:Int)))⟩:far)⟩:(Sl far))).uses]))))
def zod (P2:Bool->Tab->Tab->Bool) (w:web) (y3:step) (P3:Bool->Tab->Tab->Bool) (zam:Bool) (t4t3:Tab) (dt3:Tab):Bool :=
  (decide ((0<=y3.from_/\y3.from_ < (40:Int))) &&
 (cond (nvr (tL dt3 y3.from_) (tU dt3 y3.from_))
 (P3 zam t4t3 dt3)
 (decide ((0<=y3.to/\y3.to < (40:Int))) &&
 (decide ((0<=y3.from_/\y3.from_ < (40:Int))) &&
 (decide ((0<=y3.from_/\y3.from_ < (40:Int))) &&
 (decide ((p62 (⟨(tL dt3 y3.to),(tU dt3 y3.to)⟩:far) (⟨1,λ _=>(⟨(w64 ((tL dt3 y3.from_)+y3.length)),(w64 ((tV dt3 y3.from_)+(1:Int)))⟩:far)⟩:(Sl far))=true)) &&
 (cond zam
 (decide ((0<=y3.to/\y3.to < (40:Int))) &&
 (P3 true t4t3 (ts 80 dt3 (0+y3.to.toNat * 2+0) [(s62 (⟨(tL dt3 y3.to),(tU dt3 y3.to)⟩:far) (⟨1,λ _=>(⟨(w64 ((tL dt3 y3.from_)+y3.length)),(w64 ((tV dt3 y3.from_)+(1:Int)))⟩:far)⟩:(Sl far))).length,(s62 (⟨(tL dt3 y3.to),(tU dt3 y3.to)⟩:far) (⟨1,λ _=>(⟨(w64 ((tL dt3 y3.from_)+y3.length)),(w64 ((tV dt3 y3.from_)+(1:Int)))⟩:far)⟩:(Sl far))).uses])))
 (decide ((0<=y3.to/\y3.to < (40:Int))) &&
 (decide ((0<=y3.to/\y3.to < (40:Int))) &&
 (P3 (!(match ((s62 (⟨(tL dt3 y3.to),(tU dt3 y3.to)⟩:far) (⟨1,λ _=>(⟨(w64 ((tL dt3 y3.from_)+y3.length)),(w64 ((tV dt3 y3.from_)+(1:Int)))⟩:far)⟩:(Sl far))).length == (tL dt3 y3.to)) with | true=>(match ((s62 (⟨(tL dt3 y3.to),(tU dt3 y3.to)⟩:far) (⟨1,λ _=>(⟨(w64 ((tL dt3 y3.from_)+y3.length)),(w64 ((tV dt3 y3.from_)+(1:Int)))⟩:far)⟩:(Sl far))).uses == (tU dt3 y3.to)) with | true=>true | false=>false) | false=>false)) t4t3 (ts 80 dt3 (0+y3.to.toNat * 2+0) [(s62 (⟨(tL dt3 y3.to),(tU dt3 y3.to)⟩:far) (⟨1,λ _=>(⟨(w64 ((tL dt3 y3.from_)+y3.length)),(w64 ((tV dt3 y3.from_)+(1:Int)))⟩:far)⟩:(Sl far))).length,(s62 (⟨(tL dt3 y3.to),(tU dt3 y3.to)⟩:far) (⟨1,λ _=>(⟨(w64 ((tL dt3 y3.from_)+y3.length)),(w64 ((tV dt3 y3.from_)+(1:Int)))⟩:far)⟩:(Sl far))).uses])))))))))))
def zoe (S2:Bool->Tab->Tab->Tab) (w:web):List step->Bool->Tab->Tab->Tab:=lpR (zJq S2 w) (zoc S2 w)
def zof (P2:Bool->Tab->Tab->Bool) (w:web):List step->Bool->Tab->Tab->Bool:=lpR (zJr P2 w) (zod P2 w)
def zsO (S2:Bool->Tab->Tab->Tab) (w:web) (zam:Bool) (t4t3:Tab) (dt3:Tab):Tab:=zoe S2 w (s82 w) zam t4t3 dt3
def zsP (P2:Bool->Tab->Tab->Bool) (w:web) (zam:Bool) (t4t3:Tab) (dt3:Tab):Bool:=decide ((p82 w=true)) && zof P2 w (s82 w) zam t4t3 dt3
theorem zJs (hX2:zJp K w X2 P2 S2) (hs:zsP P2 w zam t4t3 dt3=true) (hk:K (e35 (zsO S2 w zam t4t3 dt3))):z35 K [1,1,1,1,0,1,0,0,1,0,0,1,1,0] [X2] (zAv w zam t4t3 dt3) :=
  zaJ hs λ hc hs=>zr (enc:=(λ y:step=>[.agg (zdz y)])) (ys:=s82 w) (g:=(zAv w zam t4t3 dt3)) (x35 K [1,1,1,1,0,1,0,0,1,0,0,1,1,0] [X2]) (y35 K [1,1,1,1,0,1,0,0,1,0,0,1,1,0] [X2]) (by kernel_rfl) (And.intro (zE zao 4 w.Net.Ties.get) (And.intro (rfl:((false,1,false,[none]):MQ)=(false,1,false,[none])) hc)) λ X3 hE hR =>
  (show ∀ l : List step, zNJ K w (X3 (l.map (λ y : step => [.agg (zdz y)]))) (zof P2 w l) (zoe S2 w l) from zri (X := X3) (enc := (λ y : step => [.agg (zdz y)])) _ _ (zod P2 w) (zoc S2 w) (λ Z P S => zNJ K w Z P S)
 (by intro zam t4t3 dt3 hs hk;exact hE _ (zaE (by kernel_rfl) (hX2 hs hk)))
 (by intro y3 rest P3 S3 hX3 zam t4t3 dt3 hs hk;exact hR _ rest _ (zaE (by kernel_rfl) (zaJ hs λ hc hs=>And.intro hc (zc hs hk (λ hs hk=>(hX3 hs hk)) (λ hs hk=>(zaJ hs λ hc hs=>And.intro hc (zaJ hs λ hc hs=>And.intro hc (zaJ hs λ hc hs=>And.intro hc (zaJ hs λ hc hs=>And.intro (And.intro (zxF:IsE zdX 2 2 (λ _=>(zdX (⟨(w64 ((tL dt3 y3.from_)+y3.length)),(w64 ((tV dt3 y3.from_)+(1:Int)))⟩:far)))) hc) (zc hs hk (λ hs hk=>(zaJ hs λ hc hs=>And.intro hc (hX3 hs hk))) (λ hs hk=>(zaJ hs λ hc hs=>And.intro hc (zaJ hs λ hc hs=>And.intro hc (hX3 hs hk))))))))))))))) _ hs hk
def zog (w:web) (S2:Bool->Tab->Tab->Tab) (zaF:Bool) (t4t2:Tab) (dt2:Tab):Tab :=
  (cond zaF
 (zsO S2 w false t4t2 dt2)
 dt2)
def zoh (w:web) (P2:Bool->Tab->Tab->Bool) (zaF:Bool) (t4t2:Tab) (dt2:Tab):Bool :=
  (cond zaF
 (zsP P2 w false t4t2 dt2)
 true)
def zgz (w:web):Nat->Bool->Tab->Tab->Tab:=lpO (λ _ _ _=>default) (zog w)
def zgA (w:web):Nat->Bool->Tab->Tab->Bool:=lpO (λ _ _ _=>false) (zoh w)
def zsQ (w:web) (zaF:Bool) (t4t2:Tab) (dt2:Tab):Tab:=zgz w Fuel zaF t4t2 dt2
def zsR (w:web) (zaF:Bool) (t4t2:Tab) (dt2:Tab):Bool:=zgA w Fuel zaF t4t2 dt2
theorem zJt (hs:zsR w zaF t4t2 dt2=true) (hk:K (e35 (zsQ w zaF t4t2 dt2))):z35 K [1,1,1,1,0,1,0] [] (zER w zaF t4t2 dt2) :=
  zl (λ X=>z35 K [1,1,1,1,0,1,0,0] [X]) (by kernel_rfl) λ X2 hX =>
  (show ∀ k, zJp K w X2 (zgA w k) (zgz w k) from zgd _ _ (zoh w) (zog w) (zJp K w X2)
 (by intro _ _ _ hs;exact absurd hs dqk)
 (by intro P2 S2 hX2 zaF t4t2 dt2 hs hk;exact hX _ (zaE (by kernel_rfl) (zc hs hk (λ hs hk=>(And.intro (And.intro (zE zao 4 w.Net.Ties.get) (rfl:((false,1,false,[none]):MQ)=(false,1,false,[none]))) (zJs hX2 hs hk))) (λ hs hk=>hk))))) _ hs hk
def zoi (w:web) (node:Int) (t4t1:Tab) (dt1:Tab):Tab :=
  (zsQ w true t4t1 (ts 80 dt1 (0+node.toNat * 2+0) [(0:Int),(0:Int)]))
def zoj (w:web) (node:Int) (t4t1:Tab) (dt1:Tab):Bool :=
  (decide ((0<=node/\node < (40:Int))) &&
 (zsR w true t4t1 (ts 80 dt1 (0+node.toNat * 2+0) [(0:Int),(0:Int)])))
theorem zJu (hs:zoj w node t4t1 dt1=true) (hk:K (e35 (zoi w node t4t1 dt1))):z35 K [1,1,1] [] ⟨[(0,zP (.fp (zbG w) 0)),(1,zI node),(4,zp 4 0),(5,zp 5 0)],[(4,.box 100 (zm (zcG t4t1))),(5,.box 100 (zm (zcG dt1)))],[]⟩:=zaE (by kernel_rfl) (zaJ hs λ hc hs=>And.intro hc (zJt hs hk))
def zjv (w:web) (node:Int) (S0:Int->Tab->Tab->Tab) (zcg:Int) (t4t0:Tab) (dt0:Tab):Tab :=
  (cond (decide (zcg < (40:Int)))
 (S0 (w64 (zcg+(1:Int))) t4t0 (ts 80 dt0 (0+zcg.toNat * 2+0) [(1000000000000:Int),(0:Int)]))
 (zoi w node t4t0 dt0))
def zjw (w:web) (node:Int) (P0:Int->Tab->Tab->Bool) (zcg:Int) (t4t0:Tab) (dt0:Tab):Bool :=
  (cond (decide (zcg < (40:Int)))
 (decide ((0<=zcg/\zcg < (40:Int))) &&
 (P0 (w64 (zcg+(1:Int))) t4t0 (ts 80 dt0 (0+zcg.toNat * 2+0) [(1000000000000:Int),(0:Int)])))
 (zoj w node t4t0 dt0))
def zjx (w:web) (node:Int):Nat->Int->Tab->Tab->Tab:=lpO (λ _ _ _=>default) (zjv w node)
def zjy (w:web) (node:Int):Nat->Int->Tab->Tab->Bool:=lpO (λ _ _ _=>false) (zjw w node)
def zAw (w:web) (node:Int) (zcg:Int) (t4t0:Tab) (dt0:Tab):Tab:=zjx w node Fuel zcg t4t0 dt0
def zAx (w:web) (node:Int) (zcg:Int) (t4t0:Tab) (dt0:Tab):Bool:=zjy w node Fuel zcg t4t0 dt0
theorem zJv (hs:zAx w node zcg t4t0 dt0=true) (hk:K (e35 (zAw w node zcg t4t0 dt0))):z35 K [1,1,0,1,0] [] (zEQ w node zcg t4t0 dt0) :=
  zl (λ X=>z35 K [1,1,0,1,0,0] [X]) (by kernel_rfl) λ X0 hX =>
  (show ∀ k, zNI K w node X0 (zjy w node k) (zjx w node k) from zgd _ _ (zjw w node) (zjv w node) (zNI K w node X0)
 (by intro _ _ _ hs;exact absurd hs dqk)
 (by intro P0 S0 hX0 zcg t4t0 dt0 hs hk;exact hX _ (zaE (by kernel_rfl) (zc hs hk (λ hs hk=>(zaJ hs λ hc hs=>And.intro hc (hX0 hs hk))) (λ hs hk=>(zJu hs hk)))))) _ hs hk
def s35 (w:web) (node:Int):Tab :=
  (zAw w node (0:Int) (λ _=>(0:Int)) (λ _=>(0:Int)))
def p35 (w:web) (node:Int):Bool :=
  (zAx w node (0:Int) (λ _=>(0:Int)) (λ _=>(0:Int)))
end
theorem q35 (w:web) (node:Int) (K:List PA->Prop) (hs:p35 w node=true) (hk:K (e35 (s35 w node))):vcFun Tryd.prog G35 zAu 35 [.one (.fp (zbG w) 0),.one (.int .i64 node)] K :=
  zaE (by kernel_rfl) (zJv hs hk)
def zJw : List PA → COut
  | [.one (.fp [.int .i64 za2,.sl zaO zbQ zaP,.fm zdE zce zcf] 0),.one (.int .i64 a1)]=>.det (IsE zao 4 zbQ zaP/\zdE=(false,1,false,[none])/\p35 (⟨(⟨za2,(⟨zaO,za6 zaP⟩:(Sl Tie))⟩:Net),(⟨zce,zcf⟩:Mp)⟩:web) a1=true) [.agg (zcG ((s35 (⟨(⟨za2,(⟨zaO,za6 zaP⟩:(Sl Tie))⟩:Net),(⟨zce,zcf⟩:Mp)⟩:web) a1)))]
  | _=>.no
theorem zNK:zac Tryd.prog 35:=⟨_,rfl,rfl,by kernel_rfl⟩
theorem zUu:Ok Tryd.prog 35 zJw:=zau zRg zNK λ args K h=>by
  unfold zJw at h
  split at h
  · rename_i za2 zaO zbQ zaP zdE zce zcf a1
    obtain⟨⟨⟨rfl,zbs,rfl⟩,rfl,hs⟩,hk⟩:=h
    try rw[zaN zbs] at hs
    try rw[zaN zbs] at hk
    exact⟨(λ _ _=>[]),(λ _=>false),zAu,q35 (⟨(⟨za2,(⟨zaO,zbs⟩:(Sl Tie))⟩:Net),(⟨zce,zcf⟩:Mp)⟩:web) a1 K hs hk⟩
  · exact h.elim
abbrev T22:Tabs:=(((Tabs.nil.addF 33 zJb).addF 34 zJo).addF 35 zJw)
theorem zRh:TabsOk Tryd.prog T22:=(((TabsOk.nil.addF zUr).addF zUt).addF zUu)
abbrev G22:Ctrs:=csm T22 (λ _ _=>[]) (λ _=>false)
def zNL:Ann:=⟨36,[(0,zK [1,2,3,6] [3,6]),(1,zK [1,2,6,8,9] [6]),(2,zK [1,2,6,8,9,19] [6]),(3,zK [6,7] [6]),(4,zK [6,7] [6])],
 [],
 [],
 [],[]⟩
abbrev R22:=(Span×Int)
abbrev e22 (r:R22):List PA:=[.agg [.int .i64 r.1.Low,.int .i64 r.1.High],.one (.int .i64 r.2)]
section
variable {K:List PA->Prop}{n:Net}{zab:Int}{to:Int}
def s22 (n:Net) (zab:Int) (to:Int):(Span×Int) :=
  (cond ((s33 n (⟨2, zbZ (zfY [(zaL zab), (zaL to)])⟩ : (Sl Int))).2 == 0)
 (cond ((0:Int) != (0:Int))
 ((⟨(0:Int),(0:Int)⟩:Span),(0:Int))
 ((⟨(w64 (0 - (tg 80 (s34 (⟨(s33 n (⟨2,zbZ (zfY [(zaL zab),(zaL to)])⟩:(Sl Int))).1.Net,((s33 n (⟨2,zbZ (zfY [(zaL zab),(zaL to)])⟩:(Sl Int))).1.out)⟩:web) zab) (0+to.toNat * 2+0)))),(tg 80 (s35 (⟨(s33 n (⟨2,zbZ (zfY [(zaL zab),(zaL to)])⟩:(Sl Int))).1.Net,((s33 n (⟨2,zbZ (zfY [(zaL zab),(zaL to)])⟩:(Sl Int))).1.out)⟩:web) zab) (0+to.toNat * 2+0))⟩:Span),(0:Int)))
 (cond ((s33 n (⟨2, zbZ (zfY [(zaL zab), (zaL to)])⟩ : (Sl Int))).2 != (0:Int))
 ((⟨(0:Int),(0:Int)⟩:Span),(s33 n (⟨2,zbZ (zfY [(zaL zab),(zaL to)])⟩:(Sl Int))).2)
 default))
def p22 (n:Net) (zab:Int) (to:Int):Bool :=
  (cond ((s33 n (⟨2, zbZ (zfY [(zaL zab), (zaL to)])⟩ : (Sl Int))).2 == 0)
 (decide ((p33 n (⟨2,zbZ (zfY [(zaL zab),(zaL to)])⟩:(Sl Int))=true)) &&
 (cond ((0:Int) != (0:Int))
 true
 (decide ((p34 (⟨(s33 n (⟨2,zbZ (zfY [(zaL zab),(zaL to)])⟩:(Sl Int))).1.Net,((s33 n (⟨2,zbZ (zfY [(zaL zab),(zaL to)])⟩:(Sl Int))).1.out)⟩:web) zab=true)) &&
 (decide ((0<=to/\to < (40:Int))) &&
 (decide ((p35 (⟨(s33 n (⟨2,zbZ (zfY [(zaL zab),(zaL to)])⟩:(Sl Int))).1.Net,((s33 n (⟨2,zbZ (zfY [(zaL zab),(zaL to)])⟩:(Sl Int))).1.out)⟩:web) zab=true)) &&
 (decide ((0<=to/\to < (40:Int))) &&
 true))))))
 (decide ((p33 n (⟨2,zbZ (zfY [(zaL zab),(zaL to)])⟩:(Sl Int))=true)) &&
 (cond ((s33 n (⟨2, zbZ (zfY [(zaL zab), (zaL to)])⟩ : (Sl Int))).2 != (0:Int))
 true
 false)))
end
theorem q22 (n:Net) (zab:Int) (to:Int) (K:List PA->Prop) (hs:p22 n zab to=true) (hk:K (e22 (s22 n zab to))):vcFun Tryd.prog G22 zNL 22 [.agg (zc7 n),.one (.int .i64 zab),.one (.int .i64 to)] K :=
  zaE (by kernel_rfl) (zc hs hk (λ hs hk=>(zaJ hs λ hc hs=>And.intro (And.intro (zE zao 4 n.Ties.get) (And.intro ((znl []):IsE zaL 1 1 (zfY [(zaL zab),(zaL to)])) hc)) (zc hs hk (λ hs hk=>hk) (λ hs hk=>(zaJ hs λ hc hs=>And.intro (And.intro (zE zao 4 ((s33 n (⟨2,zbZ (zfY [(zaL zab),(zaL to)])⟩:(Sl Int))).1.Net.Ties.get)) (And.intro (rfl:((false,1,false,[none]):MQ)=(false,1,false,[none])) hc)) (zaJ hs λ hc hs=>And.intro hc (zaJ hs λ hc hs=>And.intro (And.intro (zE zao 4 ((s33 n (⟨2,zbZ (zfY [(zaL zab),(zaL to)])⟩:(Sl Int))).1.Net.Ties.get)) (And.intro (rfl:((false,1,false,[none]):MQ)=(false,1,false,[none])) hc)) (zaJ hs λ hc hs=>And.intro hc hk)))))))) (λ hs hk=>(zaJ hs λ hc hs=>And.intro (And.intro (zE zao 4 n.Ties.get) (And.intro ((znl []):IsE zaL 1 1 (zfY [(zaL zab),(zaL to)])) hc)) (zc hs hk (λ hs hk=>hk) (λ hs hk=>(absurd hs dqk:False))))))
def zJx : List PA → COut
  | [.agg [.int .i64 zaw,.sl zaA zbP zav],.one (.int .i64 a1),.one (.int .i64 a2)]=>.det (IsE zao 4 zbP zav/\p22 (⟨zaw,(⟨zaA,za6 zav⟩:(Sl Tie))⟩:Net) a1 a2=true) [.agg [.int .i64 (((s22 (⟨zaw,(⟨zaA,za6 zav⟩:(Sl Tie))⟩:Net) a1 a2).1).Low),.int .i64 (((s22 (⟨zaw,(⟨zaA,za6 zav⟩:(Sl Tie))⟩:Net) a1 a2).1).High)],.one (.int .i64 ((s22 (⟨zaw,(⟨zaA,za6 zav⟩:(Sl Tie))⟩:Net) a1 a2).2))]
  | _=>.no
theorem zNM:zac Tryd.prog 22:=⟨_,rfl,rfl,by kernel_rfl⟩
theorem zUv:Ok Tryd.prog 22 zJx:=zau zRh zNM λ args K h=>by
  unfold zJx at h
  split at h
  · rename_i zaw zaA zbP zav a1 a2
    obtain⟨⟨⟨rfl,zbv,rfl⟩,hs⟩,hk⟩:=h
    try rw[zaN zbv] at hs
    try rw[zaN zbv] at hk
    exact⟨(λ _ _=>[]),(λ _=>false),zNL,q22 (⟨zaw,(⟨zaA,zbv⟩:(Sl Tie))⟩:Net) a1 a2 K hs hk⟩
  · exact h.elim
abbrev T4:Tabs:=((((((((((Tabs.nil.addF 7 zQg).addF 12 zHm).addF 15 zHs).addF 16 zHv).addF 17 zHz).addF 18 zHI).addF 19 zHJ).addF 20 zHM).addF 21 zIU).addF 22 zJx)
theorem zUw:TabsOk Tryd.prog T4:=((((((((((TabsOk.nil.addF ok7).addF zTx).addF zTz).addF ok16).addF zTA).addF zTD).addF zTE).addF zTF).addF zUn).addF zUv)
abbrev G4:Ctrs:=csm T4 (λ _ _=>[]) (λ _=>false)
def zRi:Ann:=⟨283,[(0,zK [0,1,2,3] []),(1,zK [0,1,2,3,52] []),(2,zK [8] []),(3,zK [0,1,2,3,9] [9]),(4,zK [0,1,2,3,9,10] [9,10]),(5,zK [0,1,2,3,9,10,11] [9,10]),(6,zK [0,1,2,3,9,10,11,59] [9,10,240]),(7,zK [0,1,2,3,9,10,11] [9,10,240]),(8,zK [0,1,2,3,9,10,11,12] [9,10,12,240]),(9,zK [0,1,2,3,9,10,11,12,137] [9,10,12,240]),(10,zK [8] []),(11,zK [0,1,2,3,9,10,11,12,13] [9,10,12,13,240]),(12,zK [0,1,2,3,9,10,11,12,13,156] [9,10,12,13,240]),(13,zK [8] []),(14,zK [0,1,2,3,9,10,11,12,14] [9,10,12,240]),(15,zK [0,1,2,3,9,10,11,14,15,16,17] [9,10,15,16,240]),(16,zK [0,1,2,3,9,10,11,14,15,16,194] [9,10,15,16,240]),(17,zK [8] []),(18,zK [0,1,2,3,9,10,11,18] [9,10,18,240]),(19,zK [0,1,2,3,9,10,11,18,227] [9,10,18,240]),(20,zK [8] []),(21,zK [0,1,2,3,9,10,11] [9,10,240]),(22,zK [0,1,2,3,9,10,11,19,20] [9,10,19,240]),(23,zK [0,1,2,3,9,10,11,19,274] [9,10,19,240]),(24,zK [8] []),(25,zK [0,1,2,3,9,10,11] [9,10,240]),(26,zK [8] [])],
 [(6,⟨[0,1,2,3,9,10,11],[9,10,240],[],[(9,1,240,54,λ _=>zao default)],[],[],[]⟩)],
 [(3,zK [0,1,2,3] []),(10,zK [0,1,2,3,9,10,11,12,137] [9,10,12,240]),(11,zK [0,1,2,3,9,10,11,12] [9,10,12,240]),(12,zK [0,1,2,3,9,10,11,12,13] [9,10,12,13,240]),(13,zK [0,1,2,3,9,10,11,12,13,156] [9,10,12,13,240]),(14,zK [0,1,2,3,9,10,11,12,13] [9,10,12,13,240]),(15,zK [0,1,2,3,9,10,11,12,14] [9,10,12,240]),(16,zK [0,1,2,3,9,10,11,14,15,16,17] [9,10,15,16,240]),(18,zK [0,1,2,3,9,10,11,14,15,16] [9,10,15,16,240]),(19,zK [0,1,2,3,9,10,11,18] [9,10,18,240]),(21,zK [0,1,2,3,9,10,11,18] [9,10,18,240]),(23,zK [0,1,2,3,9,10,11,19,20] [9,10,19,240])],
 [],[]⟩
abbrev R4:=Bool
abbrev e4 (r:R4):List PA:=[.one (.bool r)]
@[irreducible] def z4:=ptF Tryd.prog G4 zRi Tryd.f4
def zNN (l_a0:(Sl Sight)) (height:Int) (offset:Int) (wide:Int) (iv1:Int) (zaG:Int) (zaH:Int) (zbu:(Sl Tie)) (zeT:Nat->List PV):St:=⟨[(0,zS enc_66 6 l_a0),(1,zI height),(2,zI offset),(3,zI wide),(9,zp 9 0),(10,zp 10 0),(11,zI iv1)],[(9,.box 48 [zi (2:Int),.vec 240]),(10,.box 32 (zm (zbh (⟨zaG,zaH⟩:Span)))),(240,.vec 54 4 32 zbu.len zeT)],[]⟩
abbrev zv5 (K:List PA->Prop) (l_a0:(Sl Sight)) (height:Int) (offset:Int) (wide:Int) (X:St->Prop) (P:Int->Int->Int->(Sl Tie)->Bool) (S:Int->Int->Int->(Sl Tie)->Bool):Prop:=∀ ⦃iv1:Int⦄ ⦃zaG:Int⦄ ⦃zaH:Int⦄ ⦃zbu:(Sl Tie)⦄ ⦃zeT:Nat->List PV⦄,P iv1 zaG zaH zbu=true->K (e4 (S iv1 zaG zaH zbu))->zeT=zg zao zbu->X (zNN l_a0 height offset wide iv1 zaG zaH zbu zeT)
section
variable {K:List PA->Prop}{l_a0:(Sl Sight)}{height:Int}{offset:Int}{wide:Int}{iv1:Int}{zaG:Int}{zaH:Int}{zbu:(Sl Tie)}{zeT:Nat->List PV}{X1:St->Prop}{P1:Int->Int->Int->(Sl Tie)->Bool}{S1:Int->Int->Int->(Sl Tie)->Bool}{iv2:Int}{zlw:Bool}{zfE:Int}{zfF:Int}{zbR:(Sl Gate)}{zsS:Int}{zsU:Int}{zsV:Int}{zsW:Int}{zsX:Int}{zjL:(Sl Tie)}{zAy:Nat->List PV}{zuS:Nat->List PV}{iv3:Int}{zfG:Int}{zfH:Int}{zgZ:Int}{zg0:Int}{zg1:Int}{zg2:Int}{zsY:Int}{zjM:(Sl Tie)}{zuT:Nat->List PV}{iv4:Int}{zfI:Int}{zfJ:Int}{zsZ:Int}{zs3:Int}{zs4:Int}{zs5:Int}{zs6:Int}{zbd:Int}{zbe:Int}{zbf:Int}{zbg:Int}{zjN:(Sl Tie)}{zuU:Nat->List PV}{iv5:Int}{zlx:Bool}{zfK:Int}{zfL:Int}{zs7:Int}{zs8:Int}{zs9:Int}{zta:Int}{ztb:Int}{zjO:(Sl Tie)}{zuV:Nat->List PV}{iv6:Int}{zfM:Int}{zfN:Int}{ztc:Int}{ztd:Int}{zte:Int}{ztf:Int}{zok:Int}{zjP:(Sl Tie)}{zuW:Nat->List PV}{iv7:Int}{zbz:Int}{zfO:Int}{zfP:Int}{zAz:Int}{zAA:Int}{zAB:Int}{zAC:Int}{zAD:Int}{zjQ:(Sl Tie)}{zuX:Nat->List PV}{iv8:Int}{ev8:Int}{zfQ:Int}{zfR:Int}{zds:Int}{zc9:Int}{zcS:Int}{zcy:Int}{zjR:(Sl Tie)}{zuY:Nat->List PV}{iv9:Int}{zfS:Int}{zfT:Int}{zjS:(Sl Tie)}{zuZ:Nat->List PV}{zJy:Int}{zeD:Int}{zeE:Int}{zcp:Int}{zcq:Int}{zgB:(Sl Tie)}{zp3:Nat->List PV}{zJz:Int}{zeF:Int}{zeG:Int}{zbl:(Sl Tie)}{zp4:Nat->List PV}{zJA:Int}{zJB:Int}{zeH:Int}{zeI:Int}{zgC:Int}{zgD:Int}{zgE:(Sl Tie)}{zp5:Nat->List PV}
def ztg (S1:Int->Int->Int->(Sl Tie)->Bool) (l_a0:(Sl Sight)) (height:Int) (offset:Int) (wide:Int) (zJA:Int) (zJB:Int) (zeH:Int) (zeI:Int) (zgC:Int) (zgD:Int) (zgE:(Sl Tie)):Bool :=
  (cond (zJB != (0:Int))
 false
 (cond (decide (offset < zgC))
 false
 (cond (decide (offset > zgD))
 false
 (cond (decide (zgC < zeH))
 false
 (cond (decide (zgD > zeI))
 false
 (S1 (w64 (zJA+(1:Int))) zgC zgD zgE))))))
def zth (P1:Int->Int->Int->(Sl Tie)->Bool) (l_a0:(Sl Sight)) (height:Int) (offset:Int) (wide:Int) (zJA:Int) (zJB:Int) (zeH:Int) (zeI:Int) (zgC:Int) (zgD:Int) (zgE:(Sl Tie)):Bool :=
  (cond (zJB != (0:Int))
 true
 (cond (decide (offset < zgC))
 true
 (cond (decide (offset > zgD))
 true
 (cond (decide (zgC < zeH))
 true
 (cond (decide (zgD > zeI))
 true
 (P1 (w64 (zJA+(1:Int))) zgC zgD zgE))))))
theorem zJC (hX1:zv5 K l_a0 height offset wide X1 P1 S1) (hs:zth P1 l_a0 height offset wide zJA zJB zeH zeI zgC zgD zgE=true) (hk:K (e4 (ztg S1 l_a0 height offset wide zJA zJB zeH zeI zgC zgD zgE))) (zAE:zp5=zg zao zgE):z4 K [1,1,1,1,0,1,0,0,1,0,0,1,1,1,1,1,1,1,1,1,1,1] [X1] ⟨[(0,zS enc_66 6 l_a0),(1,zI height),(2,zI offset),(3,zI wide),(9,zp 9 0),(10,zp 10 0),(11,zI zJA),(19,zp 19 0),(20,zI zJB)],[(9,.box 48 [zi (2:Int),.vec 240]),(10,.box 32 (zm (zbh (⟨zeH,zeI⟩:Span)))),(19,.box 32 (zm (zbh (⟨zgC,zgD⟩:Span)))),(240,.vec 54 4 32 zgE.len zp5)],[]⟩:=by subst zAE;exact zaE (by kernel_rfl) (zc hs hk (λ hs hk=>hk) (λ hs hk=>(zc hs hk (λ hs hk=>hk) (λ hs hk=>(zc hs hk (λ hs hk=>hk) (λ hs hk=>(zc hs hk (λ hs hk=>hk) (λ hs hk=>(zc hs hk (λ hs hk=>hk) (λ hs hk=>(hX1 hs hk rfl)))))))))))
def zol (S1:Int->Int->Int->(Sl Tie)->Bool) (l_a0:(Sl Sight)) (height:Int) (offset:Int) (wide:Int) (zcp:Int) (zcq:Int) (zJz:Int) (zeF:Int) (zeG:Int) (zbl:(Sl Tie)):Bool :=
  (ztg S1 l_a0 height offset wide zJz ((s22 (⟨(2:Int),(⟨(zbl.len+1),za6 (appG zbl.len (λ i=>zao (zbl.get i)) (λ _=>(zao (⟨(0:Int),(1:Int),zcp,zcq⟩:Tie))))⟩:(Sl Tie))⟩:Net) (0:Int) (1:Int)).2) zeF zeG (((s22 (⟨(2:Int),(⟨(zbl.len+1),za6 (appG zbl.len (λ i=>zao (zbl.get i)) (λ _=>(zao (⟨(0:Int),(1:Int),zcp,zcq⟩:Tie))))⟩:(Sl Tie))⟩:Net) (0:Int) (1:Int)).1).Low) (((s22 (⟨(2:Int),(⟨(zbl.len+1),za6 (appG zbl.len (λ i=>zao (zbl.get i)) (λ _=>(zao (⟨(0:Int),(1:Int),zcp,zcq⟩:Tie))))⟩:(Sl Tie))⟩:Net) (0:Int) (1:Int)).1).High) (⟨(zbl.len+1),(zh3 zbl.len zbl.get (λ _=>(⟨(0:Int),(1:Int),zcp,zcq⟩:Tie)))⟩:Sl Tie))
def zom (P1:Int->Int->Int->(Sl Tie)->Bool) (l_a0:(Sl Sight)) (height:Int) (offset:Int) (wide:Int) (zcp:Int) (zcq:Int) (zJz:Int) (zeF:Int) (zeG:Int) (zbl:(Sl Tie)):Bool :=
  (decide (((zbl.len+1) * 32<=140737488355328/\zbl.len+1<=9223372036854775807)) &&
 (decide ((p22 (⟨(2:Int),(⟨(zbl.len+1),za6 (appG zbl.len (λ i=>zao (zbl.get i)) (λ _=>(zao (⟨(0:Int),(1:Int),zcp,zcq⟩:Tie))))⟩:(Sl Tie))⟩:Net) (0:Int) (1:Int)=true)) &&
 (zth P1 l_a0 height offset wide zJz ((s22 (⟨(2:Int),(⟨(zbl.len+1),za6 (appG zbl.len (λ i=>zao (zbl.get i)) (λ _=>(zao (⟨(0:Int),(1:Int),zcp,zcq⟩:Tie))))⟩:(Sl Tie))⟩:Net) (0:Int) (1:Int)).2) zeF zeG (((s22 (⟨(2:Int),(⟨(zbl.len+1),za6 (appG zbl.len (λ i=>zao (zbl.get i)) (λ _=>(zao (⟨(0:Int),(1:Int),zcp,zcq⟩:Tie))))⟩:(Sl Tie))⟩:Net) (0:Int) (1:Int)).1).Low) (((s22 (⟨(2:Int),(⟨(zbl.len+1),za6 (appG zbl.len (λ i=>zao (zbl.get i)) (λ _=>(zao (⟨(0:Int),(1:Int),zcp,zcq⟩:Tie))))⟩:(Sl Tie))⟩:Net) (0:Int) (1:Int)).1).High) (⟨(zbl.len+1),(zh3 zbl.len zbl.get (λ _=>(⟨(0:Int),(1:Int),zcp,zcq⟩:Tie)))⟩:Sl Tie))))
theorem zJD (hX1:zv5 K l_a0 height offset wide X1 P1 S1) (hs:zom P1 l_a0 height offset wide zcp zcq zJz zeF zeG zbl=true) (hk:K (e4 (zol S1 l_a0 height offset wide zcp zcq zJz zeF zeG zbl))) (zAF:zp4=zg zao zbl):z4 K [1,1,1,1,0,1,0,0,1,0,0,1,1,1,1,1,1,1,1,1] [X1] ⟨[(0,zS enc_66 6 l_a0),(1,zI height),(2,zI offset),(3,zI wide),(9,zp 9 0),(10,zp 10 0),(11,zI zJz),(18,zp 18 0)],[(9,.box 48 [zi (2:Int),.vec 240]),(10,.box 32 (zm (zbh (⟨zeF,zeG⟩:Span)))),(18,.box 54 (zm (zao (⟨(0:Int),(1:Int),zcp,zcq⟩:Tie)))),(240,.vec 54 4 32 zbl.len zp4)],[]⟩:=by subst zAF;exact zaE (by kernel_rfl) (zaJ hs λ hc hs=>And.intro hc (zaJ hs λ hc hs=>And.intro (And.intro ((zFQ isE zxF):IsE zao 4 4 (appG zbl.len (λ i=>zao (zbl.get i)) (λ _=>(zao (⟨(0:Int),(1:Int),zcp,zcq⟩:Tie))))) hc) (zJC hX1 hs hk (zpr (enc:=zao) (f:=zbl.get) (h:=(λ _=>(⟨(0:Int),(1:Int),zcp,zcq⟩:Tie))) rfl rfl))))
def zon (S1:Int->Int->Int->(Sl Tie)->Bool) (l_a0:(Sl Sight)) (height:Int) (offset:Int) (wide:Int) (zJy:Int) (zeD:Int) (zeE:Int) (zcp:Int) (zcq:Int) (zgB:(Sl Tie)):Bool :=
  (cond (decide (zcp < (-1000000000:Int)))
 (cond (decide (zcp <= zcq))
 true
 false)
 (cond (decide (zcq > (1000000000:Int)))
 (cond (decide (zcp <= zcq))
 true
 false)
 (cond (decide (zcp > zcq))
 (cond (decide (zcp <= zcq))
 true
 false)
 (zol S1 l_a0 height offset wide zcp zcq zJy zeD zeE zgB))))
def zoo (P1:Int->Int->Int->(Sl Tie)->Bool) (l_a0:(Sl Sight)) (height:Int) (offset:Int) (wide:Int) (zJy:Int) (zeD:Int) (zeE:Int) (zcp:Int) (zcq:Int) (zgB:(Sl Tie)):Bool :=
  (cond (decide (zcp < (-1000000000:Int)))
 true
 (cond (decide (zcq > (1000000000:Int)))
 true
 (cond (decide (zcp > zcq))
 true
 (zom P1 l_a0 height offset wide zcp zcq zJy zeD zeE zgB))))
theorem zJE (hX1:zv5 K l_a0 height offset wide X1 P1 S1) (hs:zoo P1 l_a0 height offset wide zJy zeD zeE zcp zcq zgB=true) (hk:K (e4 (zon S1 l_a0 height offset wide zJy zeD zeE zcp zcq zgB))) (zAG:zp3=zg zao zgB):z4 K [1,1,1,1,0,1,0,0,1,0,0,1,1,1,1,1,1,1,1] [X1] ⟨[(0,zS enc_66 6 l_a0),(1,zI height),(2,zI offset),(3,zI wide),(9,zp 9 0),(10,zp 10 0),(11,zI zJy),(18,zp 18 0)],[(9,.box 48 [zi (2:Int),.vec 240]),(10,.box 32 (zm (zbh (⟨zeD,zeE⟩:Span)))),(18,.box 54 (zm (zao (⟨(0:Int),(1:Int),zcp,zcq⟩:Tie)))),(240,.vec 54 4 32 zgB.len zp3)],[]⟩:=by subst zAG;exact zaE (by kernel_rfl) (zc hs hk (λ hs hk=>(zt hk (λ hk=>hk) (λ hk=>hk))) (λ hs hk=>(zc hs hk (λ hs hk=>(zt hk (λ hk=>hk) (λ hk=>hk))) (λ hs hk=>(zc hs hk (λ hs hk=>(zt hk (λ hk=>hk) (λ hk=>hk))) (λ hs hk=>(zJD hX1 hs hk rfl)))))))
def zu0 (S1:Int->Int->Int->(Sl Tie)->Bool) (l_a0:(Sl Sight)) (height:Int) (offset:Int) (wide:Int) (zbz:Int) (zds:Int) (zc9:Int) (zcS:Int) (zcy:Int) (iv9:Int) (zfS:Int) (zfT:Int) (zjS:(Sl Tie)):Bool :=
  (zon S1 l_a0 height offset wide iv9 zfS zfT (w64 ((w64 (zbz - wide)) - (s19 (⟨zcS,zcy⟩:Frac)))) (w64 ((w64 (zbz+wide))+(s19 (⟨(w64 (0 - zds)),zc9⟩:Frac)))) zjS)
def zu1 (P1:Int->Int->Int->(Sl Tie)->Bool) (l_a0:(Sl Sight)) (height:Int) (offset:Int) (wide:Int) (zbz:Int) (zds:Int) (zc9:Int) (zcS:Int) (zcy:Int) (iv9:Int) (zfS:Int) (zfT:Int) (zjS:(Sl Tie)):Bool :=
  (decide ((p19 (⟨zcS,zcy⟩:Frac)=true)) &&
 (decide ((p19 (⟨(w64 (0 - zds)),zc9⟩:Frac)=true)) &&
 (zoo P1 l_a0 height offset wide iv9 zfS zfT (w64 ((w64 (zbz - wide)) - (s19 (⟨zcS,zcy⟩:Frac)))) (w64 ((w64 (zbz+wide))+(s19 (⟨(w64 (0 - zds)),zc9⟩:Frac)))) zjS)))
theorem zNO (hX1:zv5 K l_a0 height offset wide X1 P1 S1) (hs:zu1 P1 l_a0 height offset wide zbz zds zc9 zcS zcy iv9 zfS zfT zjS=true) (hk:K (e4 (zu0 S1 l_a0 height offset wide zbz zds zc9 zcS zcy iv9 zfS zfT zjS))) (zDa:zuZ=zg zao zjS):z4 K [1,1,1,1,0,1,0,0,1,0,0,1,1,1,1,1,1,1] [X1] ⟨[(0,zS enc_66 6 l_a0),(1,zI height),(2,zI offset),(3,zI wide),(9,zp 9 0),(10,zp 10 0),(11,zI iv9),(14,zI zbz),(15,zp 15 0),(16,zp 16 0)],[(9,.box 48 [zi (2:Int),.vec 240]),(10,.box 32 (zm (zbh (⟨zfS,zfT⟩:Span)))),(15,.box 69 (zm (zaR (⟨zds,zc9⟩:Frac)))),(16,.box 69 (zm (zaR (⟨zcS,zcy⟩:Frac)))),(240,.vec 54 4 32 zjS.len zuZ)],[]⟩:=by subst zDa;exact zaE (by kernel_rfl) (zaJ hs λ hc hs=>And.intro hc (zaJ hs λ hc hs=>And.intro hc (zJE hX1 hs hk rfl)))
def zAH (S1:Int->Int->Int->(Sl Tie)->Bool) (l_a0:(Sl Sight)) (height:Int) (offset:Int) (wide:Int) (zbz:Int) (iv8:Int) (ev8:Int) (zfQ:Int) (zfR:Int) (zds:Int) (zc9:Int) (zcS:Int) (zcy:Int) (zjR:(Sl Tie)):Bool :=
  (cond (ev8 != (0:Int))
 false
 (cond (decide (zc9 < (1:Int)))
 false
 (cond (decide (zcy < (1:Int)))
 false
 (zu0 S1 l_a0 height offset wide zbz zds zc9 zcS zcy iv8 zfQ zfR zjR))))
def zAI (P1:Int->Int->Int->(Sl Tie)->Bool) (l_a0:(Sl Sight)) (height:Int) (offset:Int) (wide:Int) (zbz:Int) (iv8:Int) (ev8:Int) (zfQ:Int) (zfR:Int) (zds:Int) (zc9:Int) (zcS:Int) (zcy:Int) (zjR:(Sl Tie)):Bool :=
  (cond (ev8 != (0:Int))
 true
 (cond (decide (zc9 < (1:Int)))
 true
 (cond (decide (zcy < (1:Int)))
 true
 (zu1 P1 l_a0 height offset wide zbz zds zc9 zcS zcy iv8 zfQ zfR zjR))))
theorem zNP (hX1:zv5 K l_a0 height offset wide X1 P1 S1) (hs:zAI P1 l_a0 height offset wide zbz iv8 ev8 zfQ zfR zds zc9 zcS zcy zjR=true) (hk:K (e4 (zAH S1 l_a0 height offset wide zbz iv8 ev8 zfQ zfR zds zc9 zcS zcy zjR))) (zDb:zuY=zg zao zjR):z4 K [1,1,1,1,0,1,0,0,1,0,0,1,1,1,1,1,1] [X1] ⟨[(0,zS enc_66 6 l_a0),(1,zI height),(2,zI offset),(3,zI wide),(9,zp 9 0),(10,zp 10 0),(11,zI iv8),(14,zI zbz),(15,zp 15 0),(16,zp 16 0),(17,zI ev8)],[(9,.box 48 [zi (2:Int),.vec 240]),(10,.box 32 (zm (zbh (⟨zfQ,zfR⟩:Span)))),(15,.box 69 (zm (zaR (⟨zds,zc9⟩:Frac)))),(16,.box 69 (zm (zaR (⟨zcS,zcy⟩:Frac)))),(240,.vec 54 4 32 zjR.len zuY)],[]⟩:=by subst zDb;exact zaE (by kernel_rfl) (zc hs hk (λ hs hk=>hk) (λ hs hk=>(zc hs hk (λ hs hk=>hk) (λ hs hk=>(zc hs hk (λ hs hk=>hk) (λ hs hk=>(zNO hX1 hs hk rfl)))))))
def zAJ (S1:Int->Int->Int->(Sl Tie)->Bool) (l_a0:(Sl Sight)) (height:Int) (offset:Int) (wide:Int) (zbR:(Sl Gate)) (iv7:Int) (zbz:Int) (zfO:Int) (zfP:Int) (zAz:Int) (zAA:Int) (zAB:Int) (zAC:Int) (zAD:Int) (zjQ:(Sl Tie)):Bool :=
  (zAH S1 l_a0 height offset wide zbz iv7 ((s21 zbR height).2.2) zfO zfP (((s21 zbR height).1).Num) (((s21 zbR height).1).Den) (((s21 zbR height).2.1).Num) (((s21 zbR height).2.1).Den) zjQ)
def zAK (P1:Int->Int->Int->(Sl Tie)->Bool) (l_a0:(Sl Sight)) (height:Int) (offset:Int) (wide:Int) (zbR:(Sl Gate)) (iv7:Int) (zbz:Int) (zfO:Int) (zfP:Int) (zAz:Int) (zAA:Int) (zAB:Int) (zAC:Int) (zAD:Int) (zjQ:(Sl Tie)):Bool :=
  (decide ((p21 zbR height=true)) &&
 (zAI P1 l_a0 height offset wide zbz iv7 ((s21 zbR height).2.2) zfO zfP (((s21 zbR height).1).Num) (((s21 zbR height).1).Den) (((s21 zbR height).2.1).Num) (((s21 zbR height).2.1).Den) zjQ))
theorem zNQ (hX1:zv5 K l_a0 height offset wide X1 P1 S1) (hs:zAK P1 l_a0 height offset wide zbR iv7 zbz zfO zfP zAz zAA zAB zAC zAD zjQ=true) (hk:K (e4 (zAJ S1 l_a0 height offset wide zbR iv7 zbz zfO zfP zAz zAA zAB zAC zAD zjQ))) (zDc:zuX=zg zao zjQ):z4 K [1,1,1,1,0,1,0,0,1,0,0,1,1,1,1,1] [X1] ⟨[(0,zS enc_66 6 l_a0),(1,zI height),(2,zI offset),(3,zI wide),(9,zp 9 0),(10,zp 10 0),(11,zI iv7),(12,zp 12 0),(14,zI zbz)],[(9,.box 48 [zi (2:Int),.vec 240]),(10,.box 32 (zm (zbh (⟨zfO,zfP⟩:Span)))),(12,.box 66 (zm (enc_66 (⟨zbR,zAz,zAA,zAB,zAC,zAD⟩:Sight)))),(240,.vec 54 4 32 zjQ.len zuX)],[]⟩:=by subst zDc;exact zaE (by kernel_rfl) (zaJ hs λ hc hs=>And.intro (And.intro (zE zad 3 zbR.get) hc) (zNP hX1 hs hk rfl))
def zu3 (S1:Int->Int->Int->(Sl Tie)->Bool) (l_a0:(Sl Sight)) (height:Int) (offset:Int) (wide:Int) (zbR:(Sl Gate)) (zbd:Int) (zbe:Int) (zbf:Int) (zbg:Int) (iv6:Int) (zfM:Int) (zfN:Int) (ztc:Int) (ztd:Int) (zte:Int) (ztf:Int) (zok:Int) (zjP:(Sl Tie)):Bool :=
  (zAJ S1 l_a0 height offset wide zbR iv6 (w64 ((w64 ((w64 ((w64 ((s19 (s20 (⟨(⟨zbd,zbe⟩:Frac),(⟨zbf,zbg⟩:Frac)⟩:Line) height))+offset))+(1:Int))) - wide))+(w64 ((w64 ((w64 ((w64 ((2:Int) * wide)) - (1:Int))) * zok)).tdiv (100:Int))))) zfM zfN ztc ztd zte ztf zok zjP)
def zu4 (P1:Int->Int->Int->(Sl Tie)->Bool) (l_a0:(Sl Sight)) (height:Int) (offset:Int) (wide:Int) (zbR:(Sl Gate)) (zbd:Int) (zbe:Int) (zbf:Int) (zbg:Int) (iv6:Int) (zfM:Int) (zfN:Int) (ztc:Int) (ztd:Int) (zte:Int) (ztf:Int) (zok:Int) (zjP:(Sl Tie)):Bool :=
  (decide ((p20 (⟨(⟨zbd,zbe⟩:Frac),(⟨zbf,zbg⟩:Frac)⟩:Line) height=true)) &&
 (decide ((p19 (s20 (⟨(⟨zbd,zbe⟩:Frac),(⟨zbf,zbg⟩:Frac)⟩:Line) height)=true)) &&
 (decide (((100:Int) ≠ 0)) &&
 (zAK P1 l_a0 height offset wide zbR iv6 (w64 ((w64 ((w64 ((w64 ((s19 (s20 (⟨(⟨zbd,zbe⟩:Frac),(⟨zbf,zbg⟩:Frac)⟩:Line) height))+offset))+(1:Int))) - wide))+(w64 ((w64 ((w64 ((w64 ((2:Int) * wide)) - (1:Int))) * zok)).tdiv (100:Int))))) zfM zfN ztc ztd zte ztf zok zjP))))
theorem zNR (hX1:zv5 K l_a0 height offset wide X1 P1 S1) (hs:zu4 P1 l_a0 height offset wide zbR zbd zbe zbf zbg iv6 zfM zfN ztc ztd zte ztf zok zjP=true) (hk:K (e4 (zu3 S1 l_a0 height offset wide zbR zbd zbe zbf zbg iv6 zfM zfN ztc ztd zte ztf zok zjP))) (zDd:zuW=zg zao zjP):z4 K [1,1,1,1,0,1,0,0,1,0,0,1,1,1,1] [X1] ⟨[(0,zS enc_66 6 l_a0),(1,zI height),(2,zI offset),(3,zI wide),(9,zp 9 0),(10,zp 10 0),(11,zI iv6),(12,zp 12 0),(13,zp 13 0)],[(9,.box 48 [zi (2:Int),.vec 240]),(10,.box 32 (zm (zbh (⟨zfM,zfN⟩:Span)))),(12,.box 66 (zm (enc_66 (⟨zbR,ztc,ztd,zte,ztf,zok⟩:Sight)))),(13,.box 71 (zm (zgf (⟨(⟨zbd,zbe⟩:Frac),(⟨zbf,zbg⟩:Frac)⟩:Line)))),(240,.vec 54 4 32 zjP.len zuW)],[]⟩:=by subst zDd;exact zaE (by kernel_rfl) (zaJ hs λ hc hs=>And.intro hc (zaJ hs λ hc hs=>And.intro hc (zaJ hs λ hc hs=>And.intro hc (zNQ hX1 hs hk rfl))))
def zAL (S1:Int->Int->Int->(Sl Tie)->Bool) (l_a0:(Sl Sight)) (height:Int) (offset:Int) (wide:Int) (zbR:(Sl Gate)) (zbd:Int) (zbe:Int) (zbf:Int) (zbg:Int) (iv5:Int) (zlx:Bool) (zfK:Int) (zfL:Int) (zs7:Int) (zs8:Int) (zs9:Int) (zta:Int) (ztb:Int) (zjO:(Sl Tie)):Bool :=
  (cond zlx
 true
 (zu3 S1 l_a0 height offset wide zbR zbd zbe zbf zbg iv5 zfK zfL zs7 zs8 zs9 zta ztb zjO))
def zAM (P1:Int->Int->Int->(Sl Tie)->Bool) (l_a0:(Sl Sight)) (height:Int) (offset:Int) (wide:Int) (zbR:(Sl Gate)) (zbd:Int) (zbe:Int) (zbf:Int) (zbg:Int) (iv5:Int) (zlx:Bool) (zfK:Int) (zfL:Int) (zs7:Int) (zs8:Int) (zs9:Int) (zta:Int) (ztb:Int) (zjO:(Sl Tie)):Bool :=
  (cond zlx
 true
 (zu4 P1 l_a0 height offset wide zbR zbd zbe zbf zbg iv5 zfK zfL zs7 zs8 zs9 zta ztb zjO))
theorem zNS (hX1:zv5 K l_a0 height offset wide X1 P1 S1) (hs:zAM P1 l_a0 height offset wide zbR zbd zbe zbf zbg iv5 zlx zfK zfL zs7 zs8 zs9 zta ztb zjO=true) (hk:K (e4 (zAL S1 l_a0 height offset wide zbR zbd zbe zbf zbg iv5 zlx zfK zfL zs7 zs8 zs9 zta ztb zjO))) (zDe:zuV=zg zao zjO):z4 K [1,1,1,1,0,1,0,0,1,0,0,1,1,1,0,1] [X1] ⟨[(0,zS enc_66 6 l_a0),(1,zI height),(2,zI offset),(3,zI wide),(9,zp 9 0),(10,zp 10 0),(11,zI iv5),(12,zp 12 0),(13,zp 13 0),(156,zB zlx)],[(9,.box 48 [zi (2:Int),.vec 240]),(10,.box 32 (zm (zbh (⟨zfK,zfL⟩:Span)))),(12,.box 66 (zm (enc_66 (⟨zbR,zs7,zs8,zs9,zta,ztb⟩:Sight)))),(13,.box 71 (zm (zgf (⟨(⟨zbd,zbe⟩:Frac),(⟨zbf,zbg⟩:Frac)⟩:Line)))),(240,.vec 54 4 32 zjO.len zuV)],[]⟩:=by subst zDe;exact zaE (by kernel_rfl) (zc hs hk (λ hs hk=>hk) (λ hs hk=>(zNR hX1 hs hk rfl)))
def zAN (S1:Int->Int->Int->(Sl Tie)->Bool) (l_a0:(Sl Sight)) (height:Int) (offset:Int) (wide:Int) (zbR:(Sl Gate)) (iv4:Int) (zfI:Int) (zfJ:Int) (zsZ:Int) (zs3:Int) (zs4:Int) (zs5:Int) (zs6:Int) (zbd:Int) (zbe:Int) (zbf:Int) (zbg:Int) (zjN:(Sl Tie)):Bool :=
  (zAL S1 l_a0 height offset wide zbR zbd zbe zbf zbg iv4 (decide (((s18 (⟨(⟨zbd,zbe⟩:Frac),(⟨zbf,zbg⟩:Frac)⟩:Line) zbR).len:Int) < (zbR.len:Int))) zfI zfJ zsZ zs3 zs4 zs5 zs6 zjN)
def zAO (P1:Int->Int->Int->(Sl Tie)->Bool) (l_a0:(Sl Sight)) (height:Int) (offset:Int) (wide:Int) (zbR:(Sl Gate)) (iv4:Int) (zfI:Int) (zfJ:Int) (zsZ:Int) (zs3:Int) (zs4:Int) (zs5:Int) (zs6:Int) (zbd:Int) (zbe:Int) (zbf:Int) (zbg:Int) (zjN:(Sl Tie)):Bool :=
  (decide ((p18 (⟨(⟨zbd,zbe⟩:Frac),(⟨zbf,zbg⟩:Frac)⟩:Line) zbR=true)) &&
 (zAM P1 l_a0 height offset wide zbR zbd zbe zbf zbg iv4 (decide (((s18 (⟨(⟨zbd,zbe⟩:Frac),(⟨zbf,zbg⟩:Frac)⟩:Line) zbR).len:Int) < (zbR.len:Int))) zfI zfJ zsZ zs3 zs4 zs5 zs6 zjN))
theorem zNT (hX1:zv5 K l_a0 height offset wide X1 P1 S1) (hs:zAO P1 l_a0 height offset wide zbR iv4 zfI zfJ zsZ zs3 zs4 zs5 zs6 zbd zbe zbf zbg zjN=true) (hk:K (e4 (zAN S1 l_a0 height offset wide zbR iv4 zfI zfJ zsZ zs3 zs4 zs5 zs6 zbd zbe zbf zbg zjN))) (zDf:zuU=zg zao zjN):z4 K [1,1,1,1,0,1,0,0,1,0,0,1,1,1] [X1] ⟨[(0,zS enc_66 6 l_a0),(1,zI height),(2,zI offset),(3,zI wide),(9,zp 9 0),(10,zp 10 0),(11,zI iv4),(12,zp 12 0),(13,zp 13 0)],[(9,.box 48 [zi (2:Int),.vec 240]),(10,.box 32 (zm (zbh (⟨zfI,zfJ⟩:Span)))),(12,.box 66 (zm (enc_66 (⟨zbR,zsZ,zs3,zs4,zs5,zs6⟩:Sight)))),(13,.box 71 (zm (zgf (⟨(⟨zbd,zbe⟩:Frac),(⟨zbf,zbg⟩:Frac)⟩:Line)))),(240,.vec 54 4 32 zjN.len zuU)],[]⟩:=by subst zDf;exact zaE (by kernel_rfl) (zaJ hs λ hc hs=>And.intro (And.intro (zE zad 3 zbR.get) hc) (zNS hX1 hs hk rfl))
def zAP (S1:Int->Int->Int->(Sl Tie)->Bool) (l_a0:(Sl Sight)) (height:Int) (offset:Int) (wide:Int) (zbR:(Sl Gate)) (iv3:Int) (zfG:Int) (zfH:Int) (zgZ:Int) (zg0:Int) (zg1:Int) (zg2:Int) (zsY:Int) (zjM:(Sl Tie)):Bool :=
  (zAN S1 l_a0 height offset wide zbR iv3 zfG zfH zgZ zg0 zg1 zg2 zsY ((s17 zgZ zg0 zg1 zg2).Slope.Num) ((s17 zgZ zg0 zg1 zg2).Slope.Den) ((s17 zgZ zg0 zg1 zg2).Start.Num) ((s17 zgZ zg0 zg1 zg2).Start.Den) zjM)
def zAQ (P1:Int->Int->Int->(Sl Tie)->Bool) (l_a0:(Sl Sight)) (height:Int) (offset:Int) (wide:Int) (zbR:(Sl Gate)) (iv3:Int) (zfG:Int) (zfH:Int) (zgZ:Int) (zg0:Int) (zg1:Int) (zg2:Int) (zsY:Int) (zjM:(Sl Tie)):Bool :=
  (decide ((p17 zgZ zg0 zg1 zg2=true)) &&
 (zAO P1 l_a0 height offset wide zbR iv3 zfG zfH zgZ zg0 zg1 zg2 zsY ((s17 zgZ zg0 zg1 zg2).Slope.Num) ((s17 zgZ zg0 zg1 zg2).Slope.Den) ((s17 zgZ zg0 zg1 zg2).Start.Num) ((s17 zgZ zg0 zg1 zg2).Start.Den) zjM))
theorem zNU (hX1:zv5 K l_a0 height offset wide X1 P1 S1) (hs:zAQ P1 l_a0 height offset wide zbR iv3 zfG zfH zgZ zg0 zg1 zg2 zsY zjM=true) (hk:K (e4 (zAP S1 l_a0 height offset wide zbR iv3 zfG zfH zgZ zg0 zg1 zg2 zsY zjM))) (zDg:zuT=zg zao zjM):z4 K [1,1,1,1,0,1,0,0,1,0,0,1,1] [X1] ⟨[(0,zS enc_66 6 l_a0),(1,zI height),(2,zI offset),(3,zI wide),(9,zp 9 0),(10,zp 10 0),(11,zI iv3),(12,zp 12 0)],[(9,.box 48 [zi (2:Int),.vec 240]),(10,.box 32 (zm (zbh (⟨zfG,zfH⟩:Span)))),(12,.box 66 (zm (enc_66 (⟨zbR,zgZ,zg0,zg1,zg2,zsY⟩:Sight)))),(240,.vec 54 4 32 zjM.len zuT)],[]⟩:=by subst zDg;exact zaE (by kernel_rfl) (zaJ hs λ hc hs=>And.intro hc (zNT hX1 hs hk rfl))
def zd4 (S1:Int->Int->Int->(Sl Tie)->Bool) (l_a0:(Sl Sight)) (height:Int) (offset:Int) (wide:Int) (iv2:Int) (zlw:Bool) (zfE:Int) (zfF:Int) (zbR:(Sl Gate)) (zsS:Int) (zsU:Int) (zsV:Int) (zsW:Int) (zsX:Int) (zjL:(Sl Tie)):Bool :=
  (cond zlw
 true
 (zAP S1 l_a0 height offset wide zbR iv2 zfE zfF zsS zsU zsV zsW zsX zjL))
def zd5 (P1:Int->Int->Int->(Sl Tie)->Bool) (l_a0:(Sl Sight)) (height:Int) (offset:Int) (wide:Int) (iv2:Int) (zlw:Bool) (zfE:Int) (zfF:Int) (zbR:(Sl Gate)) (zsS:Int) (zsU:Int) (zsV:Int) (zsW:Int) (zsX:Int) (zjL:(Sl Tie)):Bool :=
  (cond zlw
 true
 (zAQ P1 l_a0 height offset wide zbR iv2 zfE zfF zsS zsU zsV zsW zsX zjL))
theorem zeU (hX1:zv5 K l_a0 height offset wide X1 P1 S1) (hs:zd5 P1 l_a0 height offset wide iv2 zlw zfE zfF zbR zsS zsU zsV zsW zsX zjL=true) (hk:K (e4 (zd4 S1 l_a0 height offset wide iv2 zlw zfE zfF zbR zsS zsU zsV zsW zsX zjL))) (zJF:zAy=zg zad zbR) (zDh:zuS=zg zao zjL):z4 K [1,1,1,1,0,1,0,0,1,0,0,1,0,1] [X1] ⟨[(0,zS enc_66 6 l_a0),(1,zI height),(2,zI offset),(3,zI wide),(9,zp 9 0),(10,zp 10 0),(11,zI iv2),(12,zp 12 0),(137,zB zlw)],[(9,.box 48 [zi (2:Int),.vec 240]),(10,.box 32 (zm (zbh (⟨zfE,zfF⟩:Span)))),(12,.box 66 (zm (enc_66 (⟨(⟨zbR.len,zaj zAy⟩:(Sl Gate)),zsS,zsU,zsV,zsW,zsX⟩:Sight)))),(240,.vec 54 4 32 zjL.len zuS)],[]⟩:=by subst zJF;subst zDh;exact zaE (by kernel_rfl) (zc hs hk (λ hs hk=>hk) (λ hs hk=>(zNU hX1 hs hk rfl)))
def zly (l_a0:(Sl Sight)) (height:Int) (offset:Int) (wide:Int) (S1:Int->Int->Int->(Sl Tie)->Bool) (iv1:Int) (zaG:Int) (zaH:Int) (zbu:(Sl Tie)):Bool :=
  (cond (decide (iv1 < (l_a0.len : Int)))
 (cond (decide (((l_a0.get iv1.toNat).Gates.len : Int) > (10:Int)))
 (zd4 S1 l_a0 height offset wide iv1 true zaG zaH ((l_a0.get iv1.toNat).Gates) ((l_a0.get iv1.toNat).Z) ((l_a0.get iv1.toNat).X) ((l_a0.get iv1.toNat).W) ((l_a0.get iv1.toNat).Y) ((l_a0.get iv1.toNat).Wrong) zbu)
 (cond (!(s15 ((l_a0.get iv1.toNat).Gates)))
 (zd4 S1 l_a0 height offset wide iv1 true zaG zaH ((l_a0.get iv1.toNat).Gates) ((l_a0.get iv1.toNat).Z) ((l_a0.get iv1.toNat).X) ((l_a0.get iv1.toNat).W) ((l_a0.get iv1.toNat).Y) ((l_a0.get iv1.toNat).Wrong) zbu)
 (cond (s16 ((l_a0.get iv1.toNat).Gates))
 (zd4 S1 l_a0 height offset wide iv1 true zaG zaH ((l_a0.get iv1.toNat).Gates) ((l_a0.get iv1.toNat).Z) ((l_a0.get iv1.toNat).X) ((l_a0.get iv1.toNat).W) ((l_a0.get iv1.toNat).Y) ((l_a0.get iv1.toNat).Wrong) zbu)
 (cond (decide ((l_a0.get iv1.toNat).Z < (0:Int)))
 (zd4 S1 l_a0 height offset wide iv1 true zaG zaH ((l_a0.get iv1.toNat).Gates) ((l_a0.get iv1.toNat).Z) ((l_a0.get iv1.toNat).X) ((l_a0.get iv1.toNat).W) ((l_a0.get iv1.toNat).Y) ((l_a0.get iv1.toNat).Wrong) zbu)
 (cond (decide ((l_a0.get iv1.toNat).Z > (100000:Int)))
 (zd4 S1 l_a0 height offset wide iv1 true zaG zaH ((l_a0.get iv1.toNat).Gates) ((l_a0.get iv1.toNat).Z) ((l_a0.get iv1.toNat).X) ((l_a0.get iv1.toNat).W) ((l_a0.get iv1.toNat).Y) ((l_a0.get iv1.toNat).Wrong) zbu)
 (cond (decide ((l_a0.get iv1.toNat).W < (0:Int)))
 (zd4 S1 l_a0 height offset wide iv1 true zaG zaH ((l_a0.get iv1.toNat).Gates) ((l_a0.get iv1.toNat).Z) ((l_a0.get iv1.toNat).X) ((l_a0.get iv1.toNat).W) ((l_a0.get iv1.toNat).Y) ((l_a0.get iv1.toNat).Wrong) zbu)
 (cond (decide ((l_a0.get iv1.toNat).W > (100000:Int)))
 (zd4 S1 l_a0 height offset wide iv1 true zaG zaH ((l_a0.get iv1.toNat).Gates) ((l_a0.get iv1.toNat).Z) ((l_a0.get iv1.toNat).X) ((l_a0.get iv1.toNat).W) ((l_a0.get iv1.toNat).Y) ((l_a0.get iv1.toNat).Wrong) zbu)
 (cond ((l_a0.get iv1.toNat).Z == (l_a0.get iv1.toNat).W)
 (zd4 S1 l_a0 height offset wide iv1 true zaG zaH ((l_a0.get iv1.toNat).Gates) ((l_a0.get iv1.toNat).Z) ((l_a0.get iv1.toNat).X) ((l_a0.get iv1.toNat).W) ((l_a0.get iv1.toNat).Y) ((l_a0.get iv1.toNat).Wrong) zbu)
 (cond (decide ((l_a0.get iv1.toNat).X < (-1000000:Int)))
 (zd4 S1 l_a0 height offset wide iv1 true zaG zaH ((l_a0.get iv1.toNat).Gates) ((l_a0.get iv1.toNat).Z) ((l_a0.get iv1.toNat).X) ((l_a0.get iv1.toNat).W) ((l_a0.get iv1.toNat).Y) ((l_a0.get iv1.toNat).Wrong) zbu)
 (cond (decide ((l_a0.get iv1.toNat).X > (1000000:Int)))
 (zd4 S1 l_a0 height offset wide iv1 true zaG zaH ((l_a0.get iv1.toNat).Gates) ((l_a0.get iv1.toNat).Z) ((l_a0.get iv1.toNat).X) ((l_a0.get iv1.toNat).W) ((l_a0.get iv1.toNat).Y) ((l_a0.get iv1.toNat).Wrong) zbu)
 (cond (decide ((l_a0.get iv1.toNat).Y < (-1000000:Int)))
 (zd4 S1 l_a0 height offset wide iv1 true zaG zaH ((l_a0.get iv1.toNat).Gates) ((l_a0.get iv1.toNat).Z) ((l_a0.get iv1.toNat).X) ((l_a0.get iv1.toNat).W) ((l_a0.get iv1.toNat).Y) ((l_a0.get iv1.toNat).Wrong) zbu)
 (cond (decide ((l_a0.get iv1.toNat).Y > (1000000:Int)))
 (zd4 S1 l_a0 height offset wide iv1 true zaG zaH ((l_a0.get iv1.toNat).Gates) ((l_a0.get iv1.toNat).Z) ((l_a0.get iv1.toNat).X) ((l_a0.get iv1.toNat).W) ((l_a0.get iv1.toNat).Y) ((l_a0.get iv1.toNat).Wrong) zbu)
 (cond (decide ((l_a0.get iv1.toNat).Wrong < (0:Int)))
 (zd4 S1 l_a0 height offset wide iv1 true zaG zaH ((l_a0.get iv1.toNat).Gates) ((l_a0.get iv1.toNat).Z) ((l_a0.get iv1.toNat).X) ((l_a0.get iv1.toNat).W) ((l_a0.get iv1.toNat).Y) ((l_a0.get iv1.toNat).Wrong) zbu)
 (zd4 S1 l_a0 height offset wide iv1 (decide ((l_a0.get iv1.toNat).Wrong > (100:Int))) zaG zaH ((l_a0.get iv1.toNat).Gates) ((l_a0.get iv1.toNat).Z) ((l_a0.get iv1.toNat).X) ((l_a0.get iv1.toNat).W) ((l_a0.get iv1.toNat).Y) ((l_a0.get iv1.toNat).Wrong) zbu))))))))))))))
 (cond (s12 (⟨(2:Int), zbu⟩ : Net) (⟨2, zbZ (zfY [(zaL (0:Int)), (zaL offset)])⟩ : (Sl Int)))
 true
 false))
def zlz (l_a0:(Sl Sight)) (height:Int) (offset:Int) (wide:Int) (P1:Int->Int->Int->(Sl Tie)->Bool) (iv1:Int) (zaG:Int) (zaH:Int) (zbu:(Sl Tie)):Bool :=
  (cond (decide (iv1 < (l_a0.len : Int)))
 (decide ((0<=iv1/\iv1 < (l_a0.len:Int))) &&
 (cond (decide (((l_a0.get iv1.toNat).Gates.len : Int) > (10:Int)))
 (zd5 P1 l_a0 height offset wide iv1 true zaG zaH ((l_a0.get iv1.toNat).Gates) ((l_a0.get iv1.toNat).Z) ((l_a0.get iv1.toNat).X) ((l_a0.get iv1.toNat).W) ((l_a0.get iv1.toNat).Y) ((l_a0.get iv1.toNat).Wrong) zbu)
 (decide ((p15 ((l_a0.get iv1.toNat).Gates)=true)) &&
 (cond (!(s15 ((l_a0.get iv1.toNat).Gates)))
 (zd5 P1 l_a0 height offset wide iv1 true zaG zaH ((l_a0.get iv1.toNat).Gates) ((l_a0.get iv1.toNat).Z) ((l_a0.get iv1.toNat).X) ((l_a0.get iv1.toNat).W) ((l_a0.get iv1.toNat).Y) ((l_a0.get iv1.toNat).Wrong) zbu)
 (decide ((p16 ((l_a0.get iv1.toNat).Gates)=true)) &&
 (cond (s16 ((l_a0.get iv1.toNat).Gates))
 (zd5 P1 l_a0 height offset wide iv1 true zaG zaH ((l_a0.get iv1.toNat).Gates) ((l_a0.get iv1.toNat).Z) ((l_a0.get iv1.toNat).X) ((l_a0.get iv1.toNat).W) ((l_a0.get iv1.toNat).Y) ((l_a0.get iv1.toNat).Wrong) zbu)
 (cond (decide ((l_a0.get iv1.toNat).Z < (0:Int)))
 (zd5 P1 l_a0 height offset wide iv1 true zaG zaH ((l_a0.get iv1.toNat).Gates) ((l_a0.get iv1.toNat).Z) ((l_a0.get iv1.toNat).X) ((l_a0.get iv1.toNat).W) ((l_a0.get iv1.toNat).Y) ((l_a0.get iv1.toNat).Wrong) zbu)
 (cond (decide ((l_a0.get iv1.toNat).Z > (100000:Int)))
 (zd5 P1 l_a0 height offset wide iv1 true zaG zaH ((l_a0.get iv1.toNat).Gates) ((l_a0.get iv1.toNat).Z) ((l_a0.get iv1.toNat).X) ((l_a0.get iv1.toNat).W) ((l_a0.get iv1.toNat).Y) ((l_a0.get iv1.toNat).Wrong) zbu)
 (cond (decide ((l_a0.get iv1.toNat).W < (0:Int)))
 (zd5 P1 l_a0 height offset wide iv1 true zaG zaH ((l_a0.get iv1.toNat).Gates) ((l_a0.get iv1.toNat).Z) ((l_a0.get iv1.toNat).X) ((l_a0.get iv1.toNat).W) ((l_a0.get iv1.toNat).Y) ((l_a0.get iv1.toNat).Wrong) zbu)
 (cond (decide ((l_a0.get iv1.toNat).W > (100000:Int)))
 (zd5 P1 l_a0 height offset wide iv1 true zaG zaH ((l_a0.get iv1.toNat).Gates) ((l_a0.get iv1.toNat).Z) ((l_a0.get iv1.toNat).X) ((l_a0.get iv1.toNat).W) ((l_a0.get iv1.toNat).Y) ((l_a0.get iv1.toNat).Wrong) zbu)
 (cond ((l_a0.get iv1.toNat).Z == (l_a0.get iv1.toNat).W)
 (zd5 P1 l_a0 height offset wide iv1 true zaG zaH ((l_a0.get iv1.toNat).Gates) ((l_a0.get iv1.toNat).Z) ((l_a0.get iv1.toNat).X) ((l_a0.get iv1.toNat).W) ((l_a0.get iv1.toNat).Y) ((l_a0.get iv1.toNat).Wrong) zbu)
 (cond (decide ((l_a0.get iv1.toNat).X < (-1000000:Int)))
 (zd5 P1 l_a0 height offset wide iv1 true zaG zaH ((l_a0.get iv1.toNat).Gates) ((l_a0.get iv1.toNat).Z) ((l_a0.get iv1.toNat).X) ((l_a0.get iv1.toNat).W) ((l_a0.get iv1.toNat).Y) ((l_a0.get iv1.toNat).Wrong) zbu)
 (cond (decide ((l_a0.get iv1.toNat).X > (1000000:Int)))
 (zd5 P1 l_a0 height offset wide iv1 true zaG zaH ((l_a0.get iv1.toNat).Gates) ((l_a0.get iv1.toNat).Z) ((l_a0.get iv1.toNat).X) ((l_a0.get iv1.toNat).W) ((l_a0.get iv1.toNat).Y) ((l_a0.get iv1.toNat).Wrong) zbu)
 (cond (decide ((l_a0.get iv1.toNat).Y < (-1000000:Int)))
 (zd5 P1 l_a0 height offset wide iv1 true zaG zaH ((l_a0.get iv1.toNat).Gates) ((l_a0.get iv1.toNat).Z) ((l_a0.get iv1.toNat).X) ((l_a0.get iv1.toNat).W) ((l_a0.get iv1.toNat).Y) ((l_a0.get iv1.toNat).Wrong) zbu)
 (cond (decide ((l_a0.get iv1.toNat).Y > (1000000:Int)))
 (zd5 P1 l_a0 height offset wide iv1 true zaG zaH ((l_a0.get iv1.toNat).Gates) ((l_a0.get iv1.toNat).Z) ((l_a0.get iv1.toNat).X) ((l_a0.get iv1.toNat).W) ((l_a0.get iv1.toNat).Y) ((l_a0.get iv1.toNat).Wrong) zbu)
 (cond (decide ((l_a0.get iv1.toNat).Wrong < (0:Int)))
 (zd5 P1 l_a0 height offset wide iv1 true zaG zaH ((l_a0.get iv1.toNat).Gates) ((l_a0.get iv1.toNat).Z) ((l_a0.get iv1.toNat).X) ((l_a0.get iv1.toNat).W) ((l_a0.get iv1.toNat).Y) ((l_a0.get iv1.toNat).Wrong) zbu)
 (zd5 P1 l_a0 height offset wide iv1 (decide ((l_a0.get iv1.toNat).Wrong > (100:Int))) zaG zaH ((l_a0.get iv1.toNat).Gates) ((l_a0.get iv1.toNat).Z) ((l_a0.get iv1.toNat).X) ((l_a0.get iv1.toNat).W) ((l_a0.get iv1.toNat).Y) ((l_a0.get iv1.toNat).Wrong) zbu)))))))))))))))))
 (decide ((p12 (⟨(2:Int),zbu⟩:Net) (⟨2,zbZ (zfY [(zaL (0:Int)),(zaL offset)])⟩:(Sl Int))=true)) &&
 true))
def zmq (l_a0:(Sl Sight)) (height:Int) (offset:Int) (wide:Int):Nat->Int->Int->Int->(Sl Tie)->Bool:=lpO (λ _ _ _ _=>default) (zly l_a0 height offset wide)
def zmr (l_a0:(Sl Sight)) (height:Int) (offset:Int) (wide:Int):Nat->Int->Int->Int->(Sl Tie)->Bool:=lpO (λ _ _ _ _=>false) (zlz l_a0 height offset wide)
def zAR (l_a0:(Sl Sight)) (height:Int) (offset:Int) (wide:Int) (iv1:Int) (zaG:Int) (zaH:Int) (zbu:(Sl Tie)):Bool:=zmq l_a0 height offset wide Fuel iv1 zaG zaH zbu
def zAS (l_a0:(Sl Sight)) (height:Int) (offset:Int) (wide:Int) (iv1:Int) (zaG:Int) (zaH:Int) (zbu:(Sl Tie)):Bool:=zmr l_a0 height offset wide Fuel iv1 zaG zaH zbu
theorem zNV (hs:zAS l_a0 height offset wide iv1 zaG zaH zbu=true) (hk:K (e4 (zAR l_a0 height offset wide iv1 zaG zaH zbu))) (zop:zeT=zg zao zbu):z4 K [1,1,1,1,0,1,0] [] (zNN l_a0 height offset wide iv1 zaG zaH zbu zeT) :=
  zl (λ X=>z4 K [1,1,1,1,0,1,0,0] [X]) (by kernel_rfl) λ X1 hX =>
  (show ∀ k, zv5 K l_a0 height offset wide X1 (zmr l_a0 height offset wide k) (zmq l_a0 height offset wide k) from zgd _ _ (zlz l_a0 height offset wide) (zly l_a0 height offset wide) (zv5 K l_a0 height offset wide X1)
 (by intro _ _ _ _ _ hs;exact absurd hs dqk)
 (by intro P1 S1 hX1 iv1 zaG zaH zbu zeT hs hk zop;subst zop;exact hX _ (zaE (by kernel_rfl) (zc hs hk (λ hs hk=>(zaJ hs λ hc hs=>And.intro hc (zc hs hk (λ hs hk=>(zeU hX1 hs hk rfl rfl)) (λ hs hk=>(zaJ hs λ hc hs=>And.intro (And.intro (zE zad 3 ((l_a0.get iv1.toNat).Gates.get)) hc) (zc hs hk (λ hs hk=>(zeU hX1 hs hk rfl rfl)) (λ hs hk=>(zaJ hs λ hc hs=>And.intro (And.intro (zE zad 3 ((l_a0.get iv1.toNat).Gates.get)) hc) (zc hs hk (λ hs hk=>(zeU hX1 hs hk rfl rfl)) (λ hs hk=>(zc hs hk (λ hs hk=>(zeU hX1 hs hk rfl rfl)) (λ hs hk=>(zc hs hk (λ hs hk=>(zeU hX1 hs hk rfl rfl)) (λ hs hk=>(zc hs hk (λ hs hk=>(zeU hX1 hs hk rfl rfl)) (λ hs hk=>(zc hs hk (λ hs hk=>(zeU hX1 hs hk rfl rfl)) (λ hs hk=>(zc hs hk (λ hs hk=>(zeU hX1 hs hk rfl rfl)) (λ hs hk=>(zc hs hk (λ hs hk=>(zeU hX1 hs hk rfl rfl)) (λ hs hk=>(zc hs hk (λ hs hk=>(zeU hX1 hs hk rfl rfl)) (λ hs hk=>(zc hs hk (λ hs hk=>(zeU hX1 hs hk rfl rfl)) (λ hs hk=>(zc hs hk (λ hs hk=>(zeU hX1 hs hk rfl rfl)) (λ hs hk=>(zc hs hk (λ hs hk=>(zeU hX1 hs hk rfl rfl)) (λ hs hk=>(zeU hX1 hs hk rfl rfl))))))))))))))))))))))))))))))) (λ hs hk=>(zaJ hs λ hc hs=>And.intro (And.intro (zE zao 4 zbu.get) (And.intro ((znl []):IsE zaL 1 1 (zfY [(zaL (0:Int)),(zaL offset)])) hc)) (zt hk (λ hk=>hk) (λ hk=>hk)))))))) _ hs hk zop
def zAT (l_a0:(Sl Sight)) (height:Int) (offset:Int) (wide:Int):Bool :=
  (zAR l_a0 height offset wide (0:Int) (-1000000000000:Int) (1000000000000:Int) (⟨0,(λ _=>default)⟩:Sl Tie))
def zAU (l_a0:(Sl Sight)) (height:Int) (offset:Int) (wide:Int):Bool :=
  (zAS l_a0 height offset wide (0:Int) (-1000000000000:Int) (1000000000000:Int) (⟨0,(λ _=>default)⟩:Sl Tie))
theorem zNW (hs:zAU l_a0 height offset wide=true) (hk:K (e4 (zAT l_a0 height offset wide))):z4 K [1,1] [] ⟨[(0,zS enc_66 6 l_a0),(1,zI height),(2,zI offset),(3,zI wide)],[],[]⟩:=zaE (by kernel_rfl) (zNV hs hk rfl)
def s4 (l_a0:(Sl Sight)) (height:Int) (offset:Int) (wide:Int):Bool :=
  (cond (decide ((l_a0.len : Int) < (1:Int)))
 true
 (cond (decide ((l_a0.len : Int) > (8:Int)))
 true
 (cond (decide (height < (0:Int)))
 true
 (cond (decide (height > (100000:Int)))
 true
 (cond (decide (offset < (-1000000:Int)))
 true
 (cond (decide (offset > (1000000:Int)))
 true
 (cond (decide (wide < (1:Int)))
 true
 (cond (decide (wide > (1000:Int)))
 true
 (zAT l_a0 height offset wide)))))))))
def p4 (l_a0:(Sl Sight)) (height:Int) (offset:Int) (wide:Int):Bool :=
  (cond (decide ((l_a0.len : Int) < (1:Int)))
 true
 (cond (decide ((l_a0.len : Int) > (8:Int)))
 true
 (cond (decide (height < (0:Int)))
 true
 (cond (decide (height > (100000:Int)))
 true
 (cond (decide (offset < (-1000000:Int)))
 true
 (cond (decide (offset > (1000000:Int)))
 true
 (cond (decide (wide < (1:Int)))
 true
 (cond (decide (wide > (1000:Int)))
 true
 (zAU l_a0 height offset wide)))))))))
end
theorem q4 (l_a0:(Sl Sight)) (height:Int) (offset:Int) (wide:Int) (K:List PA->Prop) (hs:p4 l_a0 height offset wide=true) (hk:K (e4 (s4 l_a0 height offset wide))):vcFun Tryd.prog G4 zRi 4 [.one (.sl l_a0.len 6 (λ i=>enc_66 (l_a0.get i))),.one (.int .i64 height),.one (.int .i64 offset),.one (.int .i64 wide)] K :=
  zaE (by kernel_rfl) (zc hs hk (λ hs hk=>hk) (λ hs hk=>(zc hs hk (λ hs hk=>hk) (λ hs hk=>(zc hs hk (λ hs hk=>hk) (λ hs hk=>(zc hs hk (λ hs hk=>hk) (λ hs hk=>(zc hs hk (λ hs hk=>hk) (λ hs hk=>(zc hs hk (λ hs hk=>hk) (λ hs hk=>(zc hs hk (λ hs hk=>hk) (λ hs hk=>(zc hs hk (λ hs hk=>hk) (λ hs hk=>(zNW hs hk)))))))))))))))))
def zR9 : List PA → COut
  | [.one (.sl zbq zcO zbr),.one (.int .i64 a1),.one (.int .i64 a2),.one (.int .i64 a3)]=>.det (IsE enc_66 6 zcO zbr/\p4 (⟨zbq,zq9 zbr⟩:(Sl Sight)) a1 a2 a3=true) [.one (.bool (s4 (⟨zbq,zq9 zbr⟩:(Sl Sight)) a1 a2 a3))]
  | _=>.no
theorem call4:zac Tryd.prog 4:=⟨_,rfl,rfl,by kernel_rfl⟩
theorem ok4:Ok Tryd.prog 4 zR9:=zau zUw call4 λ args K h=>by
  unfold zR9 at h
  split at h
  · rename_i zbq zcO zbr a1 a2 a3
    obtain⟨⟨⟨rfl,zb6,rfl⟩,hs⟩,hk⟩:=h
    try rw[zla zb6] at hs
    try rw[zla zb6] at hk
    exact⟨(λ _ _=>[]),(λ _=>false),zRi,q4 (⟨zbq,zb6⟩:(Sl Sight)) a1 a2 a3 K hs hk⟩
  · exact h.elim
end Go.Proofs
namespace Go.Proofs.YtldchibepobgnaaDoor
open Go Go.Pm Go.ChangeShapes
set_option maxRecDepth 100000
abbrev laid1 : List (String × DataW Unit) := [("overburden/align.never", Rows.laid_overburden_align_never)]
theorem zES : Tryd.prog.globalNamed "overburden/align.never" = some 0 := by kernel_rfl
theorem zNX:(Tryd.prog.globals[0]?).map (·.type)=some 98:=by kernel_rfl
theorem zNY:Tryd.prog.cellsOf 98=2:=by kernel_rfl
theorem zSa:Tryd.prog.cellsOf 3=1:=by kernel_rfl
theorem door_met (os:Os) (args:Array Value):laidMetH Tryd.prog laid1 ((World.doorLaid Tryd.prog 400 os).forCall (λ _ _=>0) ⟨#[],args,[]⟩).memory :=
 laidMetH_of_parts3 (fuel:=8) (laidMet_of_run' 8 (by kernel_rfl) (by kernel_rfl)) (by kernel_rfl) (by kernel_rfl)
theorem gl_of {W:World}(h:laidMetH Tryd.prog laid1 W):zf2 (H0 W):=by
 rw[MakeChecks.laidMetH_plain _ _ _ (by kernel_rfl)] at h
 obtain⟨ps,⟨g0,t0,cs0,f0,p0,q0,hg0,ht0,hv0,hd0,_,_⟩,_,_⟩:=h
 obtain rfl:=Option.some.inj (zES.symm.trans hg0)
 obtain rfl:=Option.some.inj (zNX.symm.trans ht0)
 obtain⟨y0,y1,n,hx,hl,h0,h1⟩:=trod_struct2 Tryd.underlying98 hd0
 simp only[dqh] at hx
 obtain⟨hx,-⟩:=hx
 simp only[Rows.laid_overburden_align_never,DataW.agg.injEq,dqy,and_true] at hx
 obtain⟨k0,e0,d0,_⟩:=DataW.trod_int Tryd.underlying3 h0
 obtain⟨k1,e1,d1,_⟩:=DataW.trod_int Tryd.underlying3 h1
 rw[zNY] at hl
 have e0':cs0.toList.take 1=[.int .i64 k0]:=by
  have:=e0
  rw[show Tryd.prog.cellsOf _=1 from zSa] at this
  simpa using this
 have e1':(cs0.toList.drop 1).take 1=[.int .i64 k1]:=by
  have:=e1
  rw[show Tryd.prog.cellsOf _=1 from zSa] at this
  simpa using this
 have hk0:k0=1000000000000:=by have:=hx.1;rw[d0] at this;injection this with a;injection a with _ a;exact a.symm
 have hk1:k1=0:=by have:=hx.2;rw[d1] at this;injection this with a;injection a with _ a;exact a.symm
 have hC:cs0.toList=[.int .i64 1000000000000,.int .i64 0]:=by
  have h2:cs0.toList=cs0.toList.take 1 ++ (cs0.toList.drop 1).take 1:=by
   rw[<- List.take_add,List.take_of_length_le (by omega)]
  rw[h2,e0',e1',hk0,hk1];rfl
 intro k l hk
 unfold World.var? at hv0
 rw[zES] at hv0
 simp only[Option.bind_some] at hv0
 cases k with
 | succ k=>cases hk
 | zero =>
  obtain rfl:[PV.int .i64 1000000000000,.int .i64 0]=l:=Option.some.inj hk
  cases eo:W.heap[0]? with
  | none=>rw[eo] at hv0;cases hv0
  | some o =>
   rw[eo] at hv0
   cases o with
   | cells C ty fr =>
    simp only[dqa] at hv0
    subst hv0
    exact⟨_,ty,fr,by unfold H0;rw[eo];rfl,by rw[hC];exact⟨.int _ _,.int _ _,trivial⟩⟩
   | _=>cases hv0
end Go.Proofs.YtldchibepobgnaaDoor
namespace Go.Proofs.YtldchibepobgnaaDoor
set_option maxRecDepth 100000
def dc : Nat → Nat → List Char
  | 0,_=>[]
  | k+1,n=>Char.ofNat (n % 128) :: dc k (n / 128)
def ioR:List (List Char):=[dc 2 14945,dc 34 399756165113810860405123747561083598328709158383043168901083853636598639,dc 36 5698943799327879142190826543221619858489383843563469017403155196654508407663]
def ioN:List Char:=dc 151 1216020464194862402549110884685396001460281756945981333032886797653041051700143131070021235301297101403928754228893408613665257464122322425613818168264680399200632846679559902755390411465917260643571611089994848002700497141340089951518382775036556753014702842741720359283471273993859166266842389306905274727842080141544
theorem ioS:Tryd.prog.initOrder=String.ofList ioN:=by kernel_rfl
theorem ioL:Tryd.prog.initOrder.toList=ioN:=(congrArg String.toList ioS).trans String.toList_ofList
theorem ioW:wordsSigns Tryd.prog.initOrder.toList=(dc 7 509754063237352) :: (dc 64 280762073358578399723192560932519151918837521674807598191946440507161504529176939736918491805508981372431107812236517754624012463993520) :: (dc 3 1915619) :: ioR:=(congrArg wordsSigns ioL).trans (by kernel_rfl)
theorem ioB:behindMainWord (wordsSigns Tryd.prog.initOrder.toList)=(dc 3 1915619) :: ioR:=(congrArg behindMainWord ioW).trans (by kernel_rfl)
theorem zp6 {P : Program} {l : List (List Char)} (h : behindMainWord (wordsSigns P.initOrder.toList) = l) : P.headLifts = (if (stripLifts liftWords l).2.head? == some "cut".toList then (stripLifts liftWords l).1 else []) := by subst h; rfl
theorem zJG {P:Program}{rest:List (List Char)}(h:behindMainWord (wordsSigns P.initOrder.toList)=(dc 3 1915619) :: rest):P.make=some .cut:=by unfold Program.make;rw[h];rfl
theorem zDi {P:Program}{rest:List (List Char)}(h:behindMainWord (wordsSigns P.initOrder.toList)=(dc 3 1915619) :: rest) (hl:P.headLifts=[]):P.liftsFinal=false:=by unfold Program.liftsFinal;rw[h,hl];rfl
theorem zJH {P : Program} {a b : List Char} {rest : List (List Char)} (h : wordsSigns P.initOrder.toList = a :: b :: rest) (hs : isSumSigns b = true) (ha : (a == "harness".toList) = true) : P.mainIs = some (true, b) := by unfold Program.mainIs; rw [h]; simp only [hs, ha]; rfl
theorem zDj {P : Program} {c : List Char} {rest : List (List Char)} (h : behindMainWord (wordsSigns P.initOrder.toList) = c :: rest) (hst : (stripLifts liftWords (c :: rest)).2.head? = some "cut".toList)
    (hs1:(stripLifts liftWords (c :: rest)).1=[]) (hlay:P.laysLater=false) (hb:P.bearsReflect=false) (hd:P.doorFits []=true):P.mayEnter=true:=by
  unfold Program.mayEnter
  rw[h]
  simp[hst,hs1,hlay,hb,hd]
theorem ioH:Tryd.prog.headLifts=[]:=(zp6 ioB).trans (by kernel_rfl)
theorem ioK:Tryd.prog.make=some .cut:=zJG ioB
theorem ioF:Tryd.prog.liftsFinal=false:=zDi ioB ioH
theorem ioM : Tryd.prog.mainIs = some (true, "0ee2cee5cbe110d46606f48aae4a85d8ffa3962fbd3c4f914a8f9a49086f8d81".toList) := (zJH ioW (by kernel_rfl) (by kernel_rfl)).trans (by kernel_rfl)
theorem ioE:Tryd.prog.mayEnter=true:=zDj ioB (by kernel_rfl) (by kernel_rfl) (by kernel_rfl) (by kernel_rfl) (by kernel_rfl)
end Go.Proofs.YtldchibepobgnaaDoor
namespace Go.Pm
open Go

theorem zay {x:Int}(h1 : -9223372036854775808<=x) (h2:x<=9223372036854775807):w64 x=x:=by
 have hb:IntKind.i64.bits=64:=rfl
 have hs:IntKind.i64.signed=true:=rfl
 unfold w64 IntKind.wrap
 rw[hb,hs]
 simp only[Bool.true_and,decide_eq_true_eq]
 split <;> omega
theorem dqT {p:Prop} [Decidable p] (h:p):decide p=true:=decide_eq_true h
theorem dqF {p:Prop} [Decidable p] (h : ¬ p):decide p=false:=decide_eq_false h
theorem dqA {α:Type}(a b:α):cond true a b=a:=rfl
theorem dqB {α:Type}(a b:α):cond false a b=b:=rfl
theorem dqN (n:Nat):((n:Nat):Int).toNat=n:=Int.toNat_natCast n
theorem dqP {c:Prop}{h:Decidable c}(hc:c){α:Type}{t e:α} : ite c t e=t:=if_pos hc
theorem dqG {c:Prop}{h:Decidable c}(hc : ¬ c){α:Type}{t e:α} : ite c t e=e:=if_neg hc
def zp7 (c : Nat → Bool) : Nat → Nat → Nat
  | 0,i=>i
  | m+1,i=>match c i with | true=>i | false=>zp7 c m (i+1)
theorem zET {c:Nat->Bool}{m i:Nat}(h:c i=true):zp7 c (m+1) i=i:=by simp only[zp7,h]
theorem zEU {c:Nat->Bool}{m i:Nat}(h:c i=false):zp7 c (m+1) i=zp7 c m (i+1):=by simp only[zp7,h]
theorem zp8 (c:Nat->Bool) (m i:Nat):i<=zp7 c m i/\zp7 c m i<=i+m/\(∀ j,i<=j->j < zp7 c m i->c j=false)/\(zp7 c m i < i+m->c (zp7 c m i)=true):=by
 induction m generalizing i with
 | zero=>exact⟨dqt _,dqt _,λ j h1 h2=>absurd h2 (by simp only[zp7];omega),λ h=>absurd h (by simp only[zp7];omega)⟩
 | succ m ih =>
  cases e:c i
  ·rw [zEU e]
   obtain⟨h1,h2,h3,h4⟩:=ih (i+1)
   refine⟨by omega,by omega,λ j hj1 hj2=>?_,λ h=>h4 (by omega)⟩
   by_cases hji:j=i
   ·rw[hji];exact e
   ·exact h3 j (by omega) hj2
  ·rw [zET e]
   exact⟨dqt _,by omega,λ j h1 h2=>absurd h2 (by omega),λ _=>e⟩
def fst (c:Nat->Bool) (n:Nat):Nat:=zp7 c n 0
theorem zNZ {c:Nat->Bool}{n j:Nat}(h:j < fst c n):c j=false:=(zp8 c n 0).2.2.1 j (Nat.zero_le _) h
theorem zN0 {c:Nat->Bool}{n:Nat}(h:fst c n < n):c (fst c n)=true:=(zp8 c n 0).2.2.2 (by simpa [fst] using h)
theorem zu5 {α : Type} {c : α → Bool} {lpS : Nat → Sl α → Int → Int → Int} {lpP : Nat → Sl α → Int → Int → Bool}
    (hS:∀ k s t i,lpS (k+1) s t i=cond (decide (i < t)) (cond (c (s.get i.toNat)) i (lpS k s t (w64 (i+(1:Int))))) (-1:Int))
    (hP:∀ k s t i,lpP (k+1) s t i=cond (decide (i < t)) (decide (0<=i/\i < (s.len:Int)) && cond (c (s.get i.toNat)) true (lpP k s t (w64 (i+(1:Int))))) true)
    (s:Sl α) (hn:s.len<=9223372036854775807):lpP Fuel s (s.len:Int) 0=true/\lpS Fuel s (s.len:Int) 0=if fst (λ i=>c (s.get i)) s.len < s.len then ((fst (λ i=>c (s.get i)) s.len:Nat):Int) else -1:=by
  have key:∀ (m k i:Nat),i+m=s.len->m < k->lpP k s (s.len:Int) (i:Int)=true /\
      lpS k s (s.len:Int) (i:Int)=if zp7 (λ i=>c (s.get i)) m i < s.len then ((zp7 (λ i=>c (s.get i)) m i:Nat):Int) else -1:=by
    intro m
    induction m with
    | zero =>
      intro k i hi hk
      obtain⟨k,rfl⟩:∃ k',k=k'+1:=⟨k - 1,by omega⟩
      rw[hS,hP]
      have e:decide ((i:Int) < (s.len:Int))=false:=decide_eq_false (by omega)
      rw[e]
      have e5 : ¬ zp7 (λ i=>c (s.get i)) 0 i < s.len:=by show ¬ i < s.len;omega
      rw[if_neg e5]
      exact⟨rfl,rfl⟩
    | succ m ih =>
      intro k i hi hk
      obtain⟨k,rfl⟩:∃ k',k=k'+1:=⟨k - 1,by omega⟩
      rw[hS,hP]
      have e:decide ((i:Int) < (s.len:Int))=true:=decide_eq_true (by omega)
      have e2:decide (0<=(i:Int)/\(i:Int) < (s.len:Int))=true:=decide_eq_true (by omega)
      have e3:w64 ((i:Int)+1)=((i+1:Nat):Int):=by rw[zay (by omega) (by omega)];omega
      have e4:(i:Int).toNat=i:=by omega
      rw[e,e2,e3,e4]
      cases hc:c (s.get i)
      · rw [zEU (c := fun i => c (s.get i)) hc]
        exact ih k (i+1) (by omega) (by omega)
      · rw [zET (c := fun i => c (s.get i)) hc, if_pos (by omega)]
        exact⟨rfl,rfl⟩
  exact key s.len Fuel 0 (by omega) (by simp only[Fuel];omega)

theorem zih {good : Nat → Bool} {fin : Bool} {n : Nat} {lpS lpP : Nat → Int → Bool}
    (hS:∀ (k i:Nat),i < n->lpS (k+1) (i:Int)=cond (good i) (lpS k (w64 ((i:Int)+(1:Int)))) false)
    (hE:∀ k,lpS (k+1) (n:Int)=fin)
    (hP:∀ (k i:Nat),i < n->lpP (k+1) (i:Int)=cond (good i) (lpP k (w64 ((i:Int)+(1:Int)))) true)
    (hPE:∀ k,lpP (k+1) (n:Int)=true) (hn:n<=9223372036854775807) :
    lpP Fuel 0=true/\(lpS Fuel 0=true↔(∀ i,i < n->good i=true)/\fin=true):=by
  have key:∀ (m k i:Nat),i+m=n->m < k->lpP k (i:Int)=true/\(lpS k (i:Int)=true↔(∀ j,i<=j->j < n->good j=true)/\fin=true):=by
    intro m
    induction m with
    | zero =>
      intro k i hi hk
      obtain⟨k,rfl⟩:∃ k',k=k'+1:=⟨k - 1,by omega⟩
      have:i=n:=by omega
      subst this
      rw[hE,hPE]
      exact⟨rfl,⟨λ h=>⟨λ j h1 h2=>absurd h2 (by omega),h⟩,λ h=>h.2⟩⟩
    | succ m ih =>
      intro k i hi hk
      obtain⟨k,rfl⟩:∃ k',k=k'+1:=⟨k - 1,by omega⟩
      rw[hS k i (by omega),hP k i (by omega)]
      have e3:w64 ((i:Int)+1)=((i+1:Nat):Int):=by rw[zay (by omega) (by omega)];omega
      rw[e3]
      obtain⟨h1,h2⟩:=ih k (i+1) (by omega) (by omega)
      cases hg:good i
      · refine ⟨rfl, ⟨fun h => (by cases h), fun h => ?_⟩⟩
        have:=h.1 i (dqt _) (by omega)
        rw[hg] at this;cases this
      · refine ⟨h1, h2.trans ⟨fun h => ⟨fun j hj1 hj2 => ?_, h.2⟩, fun h => ⟨fun j hj1 hj2 => h.1 j (by omega) hj2, h.2⟩⟩⟩
        by_cases hji:j=i
        · rw[hji];exact hg
        · exact h.1 j (by omega) hj2
  have:=key n Fuel 0 (by omega) (by simp only[Fuel];omega)
  simpa using this

end Go.Pm
namespace Go.Pm
open Go
theorem zdn {i n:Nat}(h:i < n) (hn:n<=9223372036854775807):w64 ((i:Int)+(1:Int))=((i+1:Nat):Int):=by
 rw[zay (by omega) (by omega)];omega
theorem zAV {β : Type} {good : Nat → Bool} {bad fin : β} {finP : Bool} {n : Nat} {lpS : Nat → Int → β} {lpP : Nat → Int → Bool}
    (hS:∀ (k i:Nat),i < n->lpS (k+1) (i:Int)=cond (good i) (lpS k (w64 ((i:Int)+(1:Int)))) bad)
    (hE:∀ k,lpS (k+1) (n:Int)=fin)
    (hP:∀ (k i:Nat),i < n->lpP (k+1) (i:Int)=cond (good i) (lpP k (w64 ((i:Int)+(1:Int)))) true)
    (hPE:∀ k,lpP (k+1) (n:Int)=finP) (hn:n<=9223372036854775807) :
    ((∀ i,i < n->good i=true)->lpP Fuel 0=finP/\lpS Fuel 0=fin)/\((¬ ∀ i,i < n->good i=true)->lpP Fuel 0=true/\lpS Fuel 0=bad):=by
  have key:∀ (m k i:Nat),i+m=n->m < k->((∀ j,i<=j->j < n->good j=true)->lpP k (i:Int)=finP/\lpS k (i:Int)=fin)/\((¬ ∀ j,i<=j->j < n->good j=true)->lpP k (i:Int)=true/\lpS k (i:Int)=bad):=by
    intro m
    induction m with
    | zero =>
      intro k i hi hk
      obtain⟨k,rfl⟩:∃ k',k=k'+1:=⟨k - 1,by omega⟩
      have:i=n:=by omega
      subst this
      rw[hE,hPE]
      exact⟨λ _=>⟨rfl,rfl⟩,λ h=>absurd (λ j h1 h2=>absurd h2 (by omega)) h⟩
    | succ m ih =>
      intro k i hi hk
      obtain⟨k,rfl⟩:∃ k',k=k'+1:=⟨k - 1,by omega⟩
      rw[hS k i (by omega),hP k i (by omega),zdn (n:=n) (by omega) hn]
      obtain⟨h1,h2⟩:=ih k (i+1) (by omega) (by omega)
      cases hg:good i
      · refine ⟨fun h => ?_, fun _ => ⟨rfl, rfl⟩⟩
        have:=h i (dqt _) (by omega)
        rw[hg] at this;cases this
      · refine ⟨fun h => h1 fun j a b => h j (by omega) b, fun h => h2 fun h' => h fun j a b => ?_⟩
        by_cases hji:j=i
        · rw[hji];exact hg
        · exact h' j (by omega) b
  have:=key n Fuel 0 (by omega) (by simp only[Fuel];omega)
  simpa using this
def zjZ {σ : Type} (step : Nat → σ → σ) : Nat → Nat → σ → σ
  | 0,_,s=>s
  | m+1,i,s=>zjZ step m (i+1) (step i s)
theorem zp9 {σ β : Type} {step : Nat → σ → σ} {E : σ → β} {EP : σ → Bool} {Inv : Nat → σ → Prop} {a n : Nat} {lpS : Nat → σ → Int → β} {lpP : Nat → σ → Int → Bool}
    (hS:∀ (k i:Nat) (s:σ),a<=i->i < n->Inv i s->lpS (k+1) s (i:Int)=lpS k (step i s) (w64 ((i:Int)+(1:Int))))
    (hE:∀ k s,lpS (k+1) s (n:Int)=E s)
    (hP:∀ (k i:Nat) (s:σ),a<=i->i < n->Inv i s->lpP (k+1) s (i:Int)=lpP k (step i s) (w64 ((i:Int)+(1:Int))))
    (hPE:∀ k s,lpP (k+1) s (n:Int)=EP s)
    (hI:∀ i s,a<=i->i < n->Inv i s->Inv (i+1) (step i s)) (ha:a<=n) (hn:n<=9223372036854775807) (s:σ) (h0:Inv a s) :
    lpP Fuel s (a:Int)=EP (zjZ step (n - a) a s)/\lpS Fuel s (a:Int)=E (zjZ step (n - a) a s):=by
  have key:∀ (m k i:Nat) (s:σ),a<=i->i+m=n->m < k->Inv i s->lpP k s (i:Int)=EP (zjZ step m i s)/\lpS k s (i:Int)=E (zjZ step m i s):=by
    intro m
    induction m with
    | zero =>
      intro k i s h1 hi hk _
      obtain⟨k,rfl⟩:∃ k',k=k'+1:=⟨k - 1,by omega⟩
      have:i=n:=by omega
      subst this
      rw[hE,hPE]
      exact⟨rfl,rfl⟩
    | succ m ih =>
      intro k i s h1 hi hk hs
      obtain⟨k,rfl⟩:∃ k',k=k'+1:=⟨k - 1,by omega⟩
      rw[hS k i s h1 (by omega) hs,hP k i s h1 (by omega) hs,zdn (n:=n) (by omega) hn]
      exact ih k (i+1) (step i s) (by omega) (by omega) (by omega) (hI i s h1 (by omega) hs)
  exact key (n - a) Fuel a s (dqt _) (by omega) (by simp only[Fuel];omega) h0
end Go.Pm
namespace Go.Proofs
open Go Go.Pm
set_option maxRecDepth 100000
theorem zu6 (n a b:Int):s43 n a b=decide (a<=n/\n<=b):=by
 unfold s43;by_cases h:n >= a
 ·rw[dqT h,dqA];exact decide_eq_decide.2 ⟨λ k=>⟨h,k⟩,λ k=>k.2⟩
 ·rw[dqF h,dqB];exact (dqF λ k=>h k.1).symm
theorem zu7 (n a b:Int):s47 n a b=decide (a<=n/\n<=b):=zu6 n a b
def zii (g:Gate):Prop:=(0<=g.Z/\g.Z<=100000)/\-1000000<=g.Low/\g.Low<=g.High/\g.High<=1000000
def zcc (l:Sl Gate):Prop:=(∀ i,i < l.len->zii (l.get i))/\1<=l.len/\l.len<=24
theorem zgQ (a b:Bool):cond a b false=(a && b):=by cases a <;> rfl
theorem zEV (g:Gate):s89 g=true↔zii g:=by
 unfold s89 zii
 rw[zu7,zgQ,zgQ,zgQ,dqm,dqm,dqm,decide_eq_true_eq,decide_eq_true_eq,decide_eq_true_eq,decide_eq_true_eq]
theorem zEW (g:Gate):s42 g=true↔zii g:=by
 unfold s42 zii
 rw[zu6,zu6,zgQ,zgQ,dqm,dqm,decide_eq_true_eq,decide_eq_true_eq,decide_eq_true_eq]
 omega
theorem zN1 (l:Sl Gate) (hn:l.len<=9223372036854775807):p67 l=true/\(s67 l=true↔zcc l):=by
  have := zih (good := fun i => s89 (l.get i)) (fin := s47 (l.len : Int) 1 24) (n := l.len) (lpS := zi0 l) (lpP := zi1 l)
    (λ k i hi=>by
      show ziY l (zi0 l k) (i:Int)=_
      generalize zi0 l k=S
      unfold ziY zrZ
      rw[dqT (show (i:Int) < (l.len:Int) by omega),dqA,dqN]
      cases s89 (l.get i) <;> rfl)
    (λ k=>by
      show ziY l (zi0 l k) (l.len:Int)=_
      unfold ziY
      rw[dqF (show ¬ (l.len:Int) < (l.len:Int) by omega),dqB])
    (λ k i hi=>by
      show ziZ l (zi1 l k) (i:Int)=_
      generalize zi1 l k=S
      unfold ziZ zr0
      rw[dqT (show (i:Int) < (l.len:Int) by omega),dqA,dqN,dqT (show 0<=(i:Int)/\(i:Int) < (l.len:Int) by omega),Bool.true_and]
      cases s89 (l.get i) <;> rfl)
    (λ k=>by
      show ziZ l (zi1 l k) (l.len:Int)=_
      unfold ziZ
      rw[dqF (show ¬ (l.len:Int) < (l.len:Int) by omega),dqB])
    hn
  refine⟨this.1,this.2.trans ?_⟩
  rw[zu7,decide_eq_true_eq]
  exact⟨λ k=>⟨λ i hi=>(zEV _).1 (k.1 i hi),by omega,by omega⟩,λ k=>⟨λ i hi=>(zEV _).2 (k.1 i hi),by have:=k.2;omega⟩⟩
theorem zN2 (l:Sl Gate) (hn:l.len<=9223372036854775807):p15 l=true/\(s15 l=true↔zcc l):=by
  have := zih (good := fun i => s42 (l.get i)) (fin := s43 (l.len : Int) 1 24) (n := l.len) (lpS := ziO l) (lpP := ziP l)
    (λ k i hi=>by
      show ziM l (ziO l k) (i:Int)=_
      generalize ziO l k=S
      unfold ziM zrR
      rw[dqT (show (i:Int) < (l.len:Int) by omega),dqA,dqN]
      cases s42 (l.get i) <;> rfl)
    (λ k=>by
      show ziM l (ziO l k) (l.len:Int)=_
      unfold ziM
      rw[dqF (show ¬ (l.len:Int) < (l.len:Int) by omega),dqB])
    (λ k i hi=>by
      show ziN l (ziP l k) (i:Int)=_
      generalize ziP l k=S
      unfold ziN zrS
      rw[dqT (show (i:Int) < (l.len:Int) by omega),dqA,dqN,dqT (show 0<=(i:Int)/\(i:Int) < (l.len:Int) by omega),Bool.true_and]
      cases s42 (l.get i) <;> rfl)
    (λ k=>by
      show ziN l (ziP l k) (l.len:Int)=_
      unfold ziN
      rw[dqF (show ¬ (l.len:Int) < (l.len:Int) by omega),dqB])
    hn
  refine⟨this.1,this.2.trans ?_⟩
  rw[zu6,decide_eq_true_eq]
  exact⟨λ k=>⟨λ i hi=>(zEW _).1 (k.1 i hi),by omega,by omega⟩,λ k=>⟨λ i hi=>(zEW _).2 (k.1 i hi),by have:=k.2;omega⟩⟩
theorem zAW:∀ (k:Nat) (a b:Int),0<=a->0<=b->b < (k:Int) ->
  (znP k a b=true/\znO k a b=(Int.gcd a b:Int))/\(znH k a b=true/\znG k a b=(Int.gcd a b:Int)):=by
 intro k
 induction k with
 | zero=>intro a b _ h1 h2;omega
 | succ k ih =>
  intro a b ha hb hk
  show (znN (znP k) a b=true/\znM (znO k) a b=_)/\(znF (znH k) a b=true/\znE (znG k) a b=_)
  unfold znN znM znF znE
  by_cases h0:b=0
  ·subst h0
   simp[Int.natAbs_of_nonneg ha]
  ·have hb0 : b > 0 := by omega
   have e1:(b != (0:Int))=true:=by simpa using h0
   have m0:0<=a.tmod b:=Int.tmod_nonneg b ha
   have m1:a.tmod b < b:=Int.tmod_lt_of_pos a hb0
   have g:Int.gcd b (a.tmod b)=Int.gcd a b:=by
    obtain⟨m,rfl⟩:=Int.eq_ofNat_of_zero_le ha
    obtain⟨n,rfl⟩:=Int.eq_ofNat_of_zero_le hb
    show Nat.gcd n (m % n)=Nat.gcd m n
    rw[Nat.gcd_comm m n,Nat.gcd_rec n m,Nat.gcd_comm]
   obtain⟨⟨i1,i2⟩,i3,i4⟩:=ih b (a.tmod b) hb m0 (by omega)
   rw[dqT hb0,e1,dqT (show b ≠ 0 from h0),dqA,dqA,dqA,dqA,Bool.true_and,Bool.true_and,i1,i2,i3,i4,g]
   exact⟨⟨rfl,rfl⟩,rfl,rfl⟩
theorem zJI (a b:Int) (ha:0<=a) (hb:0<=b) (hk:b<=9223372036854775807):p95 a b=true/\s95 a b=(Int.gcd a b:Int) :=
 (zAW Fuel a b ha hb (by simp only[Fuel];omega)).1
theorem zEX (a b:Int) (ha:0<=a) (hb:0<=b) (hk:b<=9223372036854775807):p46 a b=true/\s46 a b=(Int.gcd a b:Int) :=
 (zAW Fuel a b ha hb (by simp only[Fuel];omega)).2
-- the order of equal lists
end Go.Proofs
namespace Go.Proofs
open Go Go.Pm
set_option maxRecDepth 100000
def red (num den:Int):Frac:=⟨num.tdiv (Int.gcd num den:Int),den.tdiv (Int.gcd num den:Int)⟩
theorem zEY (num:Int):(if -num > num then -num else num)=(num.natAbs:Int):=by split <;> omega
theorem zAX (num den:Int):Int.gcd (num.natAbs:Int) den=Int.gcd num den:=by
 unfold Int.gcd;rw[Int.natAbs_natCast]
theorem zda {num den:Int}(hd:0 < den):0 < (Int.gcd num den:Int):=by
 have:Int.gcd num den ≠ 0:=λ h=>by have:=(Int.gcd_eq_zero_iff.1 h).2;omega
 omega
theorem zSb (num den:Int):∃ a,num=(Int.gcd num den:Int) * a:=Int.gcd_dvd_left num den
theorem zSc (num den:Int):∃ a,den=(Int.gcd num den:Int) * a:=Int.gcd_dvd_right num den
theorem zeJ {num den:Int}(hd:0 < den):(Int.gcd num den:Int) * (red num den).Num=num:=by
 have hg:=zda (num:=num) hd
 obtain⟨a,ha⟩:=zSb num den
 show (Int.gcd num den:Int) * num.tdiv (Int.gcd num den:Int)=num
 generalize (Int.gcd num den:Int)=g at ha hg ⊢
 rw[ha,Int.mul_tdiv_cancel_left _ (by omega)]
theorem zd1 {num den:Int}(hd:0 < den):(Int.gcd num den:Int) * (red num den).Den=den:=by
 have hg:=zda (num:=num) hd
 obtain⟨a,ha⟩:=zSc num den
 show (Int.gcd num den:Int) * den.tdiv (Int.gcd num den:Int)=den
 generalize (Int.gcd num den:Int)=g at ha hg ⊢
 rw[ha,Int.mul_tdiv_cancel_left _ (by omega)]
theorem zdP {num den:Int}(hd:0 < den):0 < (red num den).Den:=by
 have h1:=zd1 (num:=num) hd
 have hg:=zda (num:=num) hd
 rcases Int.lt_or_le 0 (red num den).Den with h | h
 ·exact h
 ·have := Int.mul_le_mul_of_nonneg_left h (Int.le_of_lt hg)
  rw[h1,Int.mul_zero] at this
  omega
theorem zlA {num den:Int}(hd:0 < den):(red num den).Den<=den:=by
 have h1:=zd1 (num:=num) hd
 have hg:=zda (num:=num) hd
 have:=Int.mul_le_mul_of_nonneg_right (show (1:Int)<=(Int.gcd num den:Int) by omega) (Int.le_of_lt (zdP (num:=num) hd))
 omega
theorem zhE {num den:Int}(hd:0 < den) : -(num.natAbs:Int)<=(red num den).Num/\(red num den).Num<=(num.natAbs:Int):=by
 have h1:=zeJ (num:=num) hd
 have hg:=zda (num:=num) hd
 have h2:num.natAbs=(Int.gcd num den) * (red num den).Num.natAbs:=by
  have:=congrArg Int.natAbs h1
  rw[Int.natAbs_mul] at this
  simpa using this.symm
 have h3:(red num den).Num.natAbs<=num.natAbs:=by
  rw[h2];exact Nat.le_mul_of_pos_left _ (by omega)
 omega
theorem zAY {num den:Int}(hd:0 < den):Int.gcd (red num den).Num (red num den).Den=1:=by
 have h1:=zeJ (num:=num) hd
 have h2:=zd1 (num:=num) hd
 have hg:=zda (num:=num) hd
 have h3:Int.gcd ((Int.gcd num den:Int) * (red num den).Num) ((Int.gcd num den:Int) * (red num den).Den)=Int.gcd num den * Int.gcd (red num den).Num (red num den).Den:=by
  rw[Int.gcd_mul_left];simp
 rw[h1,h2] at h3
 have h4:Int.gcd num den * 1=Int.gcd num den * Int.gcd (red num den).Num (red num den).Den:=by rw[Nat.mul_one];exact h3
 exact (Nat.eq_of_mul_eq_mul_left (by omega) h4).symm
theorem zEZ {a b c d:Int}(hb:0 < b) (hd:0 < d):red a b=red c d↔a * d=c * b:=by
 have a1:=zeJ (num:=a) hb
 have a2:=zd1 (num:=a) hb
 have c1:=zeJ (num:=c) hd
 have c2:=zd1 (num:=c) hd
 constructor
 ·intro h
  rw[h] at a1 a2
  generalize hG:(Int.gcd a b:Int)=G at a1 a2
  generalize hK:(Int.gcd c d:Int)=K at c1 c2
  generalize (red c d).Num=x at a1 c1
  generalize (red c d).Den=y at a2 c2
  subst a1;subst a2;subst c1;subst c2
  ac_rfl
 ·intro h
  have ga:=zAY (num:=a) hb
  have gc:=zAY (num:=c) hd
  have pa:=zdP (num:=a) hb
  have pc:=zdP (num:=c) hd
  have hG:=zda (num:=a) hb
  have hK:=zda (num:=c) hd
  -- cross products of the lowest forms
  have hx:(red a b).Num * (red c d).Den=(red c d).Num * (red a b).Den:=by
   have e:((Int.gcd a b:Int) * (Int.gcd c d:Int)) * ((red a b).Num * (red c d).Den)=((Int.gcd a b:Int) * (Int.gcd c d:Int)) * ((red c d).Num * (red a b).Den):=by
    have l1:((Int.gcd a b:Int) * (Int.gcd c d:Int)) * ((red a b).Num * (red c d).Den)=((Int.gcd a b:Int) * (red a b).Num) * ((Int.gcd c d:Int) * (red c d).Den):=by
     generalize (Int.gcd a b:Int)=G;generalize (Int.gcd c d:Int)=K
     ac_rfl
    have l2:((Int.gcd a b:Int) * (Int.gcd c d:Int)) * ((red c d).Num * (red a b).Den)=((Int.gcd c d:Int) * (red c d).Num) * ((Int.gcd a b:Int) * (red a b).Den):=by
     generalize (Int.gcd a b:Int)=G;generalize (Int.gcd c d:Int)=K
     ac_rfl
    rw[l1,l2,a1,a2,c1,c2];exact h
   exact Int.eq_of_mul_eq_mul_left (by have:=Int.mul_pos hG hK;omega) e
  have hx':=congrArg Int.natAbs hx
  rw[Int.natAbs_mul,Int.natAbs_mul] at hx'
  have ga':Nat.Coprime (red a b).Den.natAbs (red a b).Num.natAbs:=(Nat.gcd_comm _ _).trans ga
  have gc':Nat.Coprime (red c d).Den.natAbs (red c d).Num.natAbs:=(Nat.gcd_comm _ _).trans gc
  have d1:(red a b).Den ∣ (red c d).Den:=Int.natAbs_dvd_natAbs.1 (ga'.dvd_of_dvd_mul_left ⟨(red c d).Num.natAbs,by rw[hx',Nat.mul_comm]⟩)
  have d2:(red c d).Den ∣ (red a b).Den:=Int.natAbs_dvd_natAbs.1 (gc'.dvd_of_dvd_mul_left ⟨(red a b).Num.natAbs,by rw[<- hx',Nat.mul_comm]⟩)
  have hden:(red a b).Den=(red c d).Den:=Int.le_antisymm (Int.le_of_dvd pc d1) (Int.le_of_dvd pa d2)
  rw[<- hden] at hx
  have hnum:=Int.eq_of_mul_eq_mul_right (by omega) hx
  cases h1:red a b;cases h2:red c d
  rw[h1,h2] at hden hnum
  simp only at hden hnum
  rw[hden,hnum]
theorem zu8 {num den:Int}(h1 : -4611686018427387904<=num) (h2:num<=4611686018427387904) (hd:0 < den) (hd2:den<=4611686018427387904):p72 num den=true/\s72 num den=red num den:=by
 have e:w64 (0 - num) = -num:=by rw[zay (by omega) (by omega)];omega
 obtain⟨g1,g2⟩:=zJI (num.natAbs:Int) den (by omega) (by omega) (by omega)
 have hg:=zda (num:=num) hd
 have r1:=zhE (num:=num) hd
 have r2:=zlA (num:=num) hd
 have r3:=zdP (num:=num) hd
 unfold p72 s72
 rw[e,zEY,g1,g2,zAX]
 have w1:w64 (num.tdiv (Int.gcd num den:Int))=(red num den).Num:=zay (by show _<=(red num den).Num;omega) (by show (red num den).Num<=_;omega)
 have w2:w64 (den.tdiv (Int.gcd num den:Int))=(red num den).Den:=zay (by show _<=(red num den).Den;omega) (by show (red num den).Den<=_;omega)
 rw[w1,w2,dqT (show (Int.gcd num den:Int) ≠ 0 by omega)]
 exact⟨by simp only[decide_true,Bool.and_self],by cases red num den;simp only⟩
theorem zlB {num den:Int}(h1 : -4611686018427387904<=num) (h2:num<=4611686018427387904) (hd:0 < den) (hd2:den<=4611686018427387904):p44 num den=true/\s44 num den=red num den:=by
 have e:w64 (0 - num) = -num:=by rw[zay (by omega) (by omega)];omega
 obtain⟨g1,g2⟩:=zEX (num.natAbs:Int) den (by omega) (by omega) (by omega)
 have hg:=zda (num:=num) hd
 have r1:=zhE (num:=num) hd
 have r2:=zlA (num:=num) hd
 have r3:=zdP (num:=num) hd
 unfold p44 s44
 rw[e,zEY,g1,g2,zAX]
 have w1:w64 (num.tdiv (Int.gcd num den:Int))=(red num den).Num:=zay (by show _<=(red num den).Num;omega) (by show (red num den).Num<=_;omega)
 have w2:w64 (den.tdiv (Int.gcd num den:Int))=(red num den).Den:=zay (by show _<=(red num den).Den;omega) (by show (red num den).Den<=_;omega)
 rw[w1,w2,dqT (show (Int.gcd num den:Int) ≠ 0 by omega)]
 exact⟨by simp only[decide_true,Bool.and_self],by cases red num den;simp only⟩
end Go.Proofs
namespace Go.Proofs
open Go Go.Pm
set_option maxRecDepth 100000
theorem zlR {x y X Y:Int}(h1 : -X<=x) (h2:x<=X) (h3:0<=y) (h4:y<=Y) : -(X * Y)<=x * y/\x * y<=X * Y:=by
 have hX:0<=X:=by omega
 have a:=Int.mul_le_mul_of_nonneg_right h2 h3
 have b:=Int.mul_le_mul_of_nonneg_left h4 hX
 have c:=Int.mul_le_mul_of_nonneg_right h1 h3
 rw[Int.neg_mul] at c
 omega
def thr (z p y q:Int):straight:=if z > y then ⟨p - q,q * z - p * y,z - y⟩ else ⟨q - p,p * y - q * z,y - z⟩
def toL (s:straight):Line:=⟨red s.slope s.den,red s.start s.den⟩
theorem zoq {z p y q:Int}(hz:0<=z/\z<=100000) (hy:0<=y/\y<=100000) (hp : -1000000<=p/\p<=1000000) (hq : -1000000<=q/\q<=1000000):zlK z p y q=thr z p y q:=by
 have b1:=zlR hp.1 hp.2 hy.1 hy.2
 have b2:=zlR hq.1 hq.2 hz.1 hz.2
 unfold zlK zkk thr
 rw[zay (x:=p * y) (by omega) (by omega),zay (x:=q * z) (by omega) (by omega)]
 by_cases h:z > y
 ·rw[dqT h,dqA,dqP h,zay (by omega) (by omega),zay (by omega) (by omega),zay (by omega) (by omega)]
 ·rw[dqF h,dqB,dqG h,zay (by omega) (by omega),zay (by omega) (by omega),zay (by omega) (by omega)]
theorem zN3 {z p y q:Int}(hz:0<=z/\z<=100000) (hy:0<=y/\y<=100000) (hp : -1000000<=p/\p<=1000000) (hq : -1000000<=q/\q<=1000000) (hn:z ≠ y):p17 z p y q=true/\s17 z p y q=toL (thr z p y q):=by
 have b1:=zlR hp.1 hp.2 hy.1 hy.2
 have b2:=zlR hq.1 hq.2 hz.1 hz.2
 unfold p17 s17 znJ znI thr toL
 rw[zay (x:=p * y) (by omega) (by omega),zay (x:=q * z) (by omega) (by omega)]
 by_cases h:z > y
 ·rw [dqT (show y < z from h), dqA, dqA, dqP h, zay (x := p - q) (by omega) (by omega), zay (x := z - y) (by omega) (by omega), zay (x := q * z - p * y) (by omega) (by omega)]
  obtain⟨c1,c2⟩:=zlB (num:=p - q) (den:=z - y) (by omega) (by omega) (by omega) (by omega)
  obtain⟨d1,d2⟩:=zlB (num:=q * z - p * y) (den:=z - y) (by omega) (by omega) (by omega) (by omega)
  rw[c1,c2,d1,d2]
  exact⟨by simp only[decide_true,Bool.and_self],rfl⟩
 ·rw [dqF (show ¬ y < z from h), dqB, dqB, dqG h, zay (x := q - p) (by omega) (by omega), zay (x := y - z) (by omega) (by omega), zay (x := p * y - q * z) (by omega) (by omega)]
  obtain⟨c1,c2⟩:=zlB (num:=q - p) (den:=y - z) (by omega) (by omega) (by omega) (by omega)
  obtain⟨d1,d2⟩:=zlB (num:=p * y - q * z) (den:=y - z) (by omega) (by omega) (by omega) (by omega)
  rw[c1,c2,d1,d2]
  exact⟨by simp only[decide_true,Bool.and_self],rfl⟩
def zv6 (a b:Gate):List straight:=if a.Z=b.Z then [] else [thr a.Z a.Low b.Z b.Low,thr a.Z a.Low b.Z b.High,thr a.Z a.High b.Z b.Low,thr a.Z a.High b.Z b.High]
def zu9 (g : Sl Gate) (i : Nat) : Nat → Nat → List straight
  | 0,_=>[]
  | m+1,k=>zv6 (g.get i) (g.get k) ++ zu9 g i m (k+1)
def zDk (g : Sl Gate) : Nat → Nat → List straight
  | 0,_=>[]
  | m+1,i=>zu9 g i (g.len - (i+1)) (i+1) ++ zDk g m (i+1)
def cst (g:Sl Gate):List straight:=zDk g g.len 0
theorem zlS {g:Gate}(h:zii g) : -1000000<=g.Low/\g.Low<=1000000:=⟨h.2.1,by have:=h.2;omega⟩
theorem zlT {g:Gate}(h:zii g) : -1000000<=g.High/\g.High<=1000000:=⟨by have:=h.2;omega,h.2.2.2⟩
theorem zRj (g : Sl Gate) (G : zcc g) (i : Nat) (hi : i < g.len) (sl : Sl Gate) (hs : sl.len = g.len - (i + 1)) (hg : ∀ x, sl.get x = g.get (x + (i + 1)))
    (S0:Int->List straight) (P0:Int->Bool):∀ (m k j:Nat),j+m=sl.len->m < k ->
    zei P0 ⟨g⟩ k (i:Int) sl (sl.len:Int) (j:Int) (g.get i).Z (g.get i).Low (g.get i).High=P0 ((i+1:Nat):Int) /\
    zeh S0 ⟨g⟩ k (i:Int) sl (sl.len:Int) (j:Int) (g.get i).Z (g.get i).Low (g.get i).High=zu9 g i m (j+(i+1)) ++ S0 ((i+1:Nat):Int):=by
  have hl:=G.2.2
  intro m
  induction m with
  | zero =>
    intro k j hj hk
    obtain⟨k,rfl⟩:∃ k',k=k'+1:=⟨k - 1,by omega⟩
    show zfy P0 ⟨g⟩ (zei P0 ⟨g⟩ k) _ _ _ _ _ _ _=_/\zfx S0 ⟨g⟩ (zeh S0 ⟨g⟩ k) _ _ _ _ _ _ _=_
    unfold zfy zfx
    rw[dqF (show ¬ (j:Int) < (sl.len:Int) by omega),dqB,dqB,zdn (n:=g.len) hi (by omega)]
    exact⟨rfl,rfl⟩
  | succ m ih =>
    intro k j hj hk
    obtain⟨k,rfl⟩:∃ k',k=k'+1:=⟨k - 1,by omega⟩
    obtain⟨i1,i2⟩:=ih k (j+1) (by omega) (by omega)
    show zfy P0 ⟨g⟩ (zei P0 ⟨g⟩ k) _ _ _ _ _ _ _=_/\zfx S0 ⟨g⟩ (zeh S0 ⟨g⟩ k) _ _ _ _ _ _ _=zu9 g i (m+1) (j+(i+1)) ++ _
    generalize zei P0 ⟨g⟩ k=P at i1
    generalize zeh S0 ⟨g⟩ k=S at i2
    unfold zfy zfx
    have gi:=G.1 i hi
    have gk:=G.1 (j+(i+1)) (by omega)
    rw[dqT (show (j:Int) < (sl.len:Int) by omega),dqT (show 0<=(j:Int)/\(j:Int) < (sl.len:Int) by omega),dqA,dqA,Bool.true_and,dqN,hg,
      zdn (n:=sl.len) (by omega) (by omega),i1,i2,zoq gi.1 gk.1 (zlS gi) (zlS gk),zoq gi.1 gk.1 (zlS gi) (zlT gk),zoq gi.1 gk.1 (zlT gi) (zlS gk),zoq gi.1 gk.1 (zlT gi) (zlT gk)]
    show _/\_=(zv6 (g.get i) (g.get (j+(i+1))) ++ zu9 g i m (j+(i+1)+1)) ++ _
    rw[show j+1+(i+1)=j+(i+1)+1 by omega]
    unfold zv6
    by_cases hz:(g.get i).Z=(g.get (j+(i+1))).Z
    · rw [dqP hz, show ((g.get i).Z == (g.get (j + (i + 1))).Z) = true by simpa using hz]
      exact⟨rfl,rfl⟩
    · rw [dqG hz, show ((g.get i).Z == (g.get (j + (i + 1))).Z) = false by simpa using hz]
      exact⟨rfl,rfl⟩
theorem zJJ (g:Sl Gate) (G:zcc g):zMZ ⟨g⟩=true/\zIa ⟨g⟩=cst g:=by
 have hl:=G.2.2
 have key:∀ (m k i:Nat),i+m=g.len->m < k->zek ⟨g⟩ k (i:Int)=true/\zej ⟨g⟩ k (i:Int)=zDk g m i:=by
  intro m
  induction m with
  | zero =>
   intro k i hi hk
   obtain⟨k,rfl⟩:∃ k',k=k'+1:=⟨k - 1,by omega⟩
   show zfA ⟨g⟩ (zek ⟨g⟩ k) _=_/\zfz ⟨g⟩ (zej ⟨g⟩ k) _=_
   unfold zfA zfz
   rw[dqF (show ¬ (i:Int) < (g.len:Int) by omega),dqB,dqB]
   exact⟨rfl,rfl⟩
  | succ m ih =>
   intro k i hi hk
   obtain⟨k,rfl⟩:∃ k',k=k'+1:=⟨k - 1,by omega⟩
   obtain⟨i1,i2⟩:=ih k (i+1) (by omega) (by omega)
   show zfA ⟨g⟩ (zek ⟨g⟩ k) _=_/\zfz ⟨g⟩ (zej ⟨g⟩ k) _=zu9 g i (g.len - (i+1)) (i+1) ++ zDk g m (i+1)
   generalize zek ⟨g⟩ k=P at i1
   generalize zej ⟨g⟩ k=S at i2
   unfold zfA zfz znR znQ
   rw[zdn (n:=g.len) (by omega) (by omega)]
   rw[dqT (show (i:Int) < (g.len:Int) by omega),dqT (show 0<=(i:Int)/\(i:Int) < (g.len:Int) by omega),dqT (show 0<=((i+1:Nat):Int)/\((i+1:Nat):Int)<=(g.len:Int)/\(g.len:Int)<=(g.len:Int) by omega),
    dqA,dqA,Bool.true_and,Bool.true_and,dqN,dqN]
   have hs:((g.len:Int) - ((i+1:Nat):Int)).toNat=g.len - (i+1):=by omega
   have:=zRj g G i (by omega) (⟨((g.len:Int) - ((i+1:Nat):Int)).toNat,λ x=>g.get (x+(i+1))⟩:Sl Gate) hs (λ _=>rfl) S P (g.len - (i+1)) Fuel 0 (by show 0+(g.len - (i+1))=((g.len:Int) - ((i+1:Nat):Int)).toNat;omega) (by simp only[Fuel];omega)
   rw[i1,i2,Nat.zero_add] at this
   exact this
 exact key g.len Fuel 0 (by omega) (by simp only[Fuel];omega)
end Go.Proofs
namespace Go.Proofs
open Go Go.Pm
set_option maxRecDepth 100000
def zhH {α:Type}(v:Sl α) (x:α):Sl α:=⟨v.len+1,zh3 v.len v.get (λ _=>x)⟩
theorem zij {α:Type}(l:List α):∀ v:Sl α,(l.foldl zhH v).len=v.len+l.length:=by
 induction l with
 | nil=>intro v;rfl
 | cons x l ih=>intro v;rw[List.foldl_cons,ih];show v.len+1+l.length=v.len+(l.length+1);omega
theorem zDl (a b:Gate):(zv6 a b).length<=4:=by unfold zv6;split <;> simp
theorem zDm (g:Sl Gate) (i m k:Nat):(zu9 g i m k).length<=4 * m:=by
 induction m generalizing k with
 | zero=>exact dqt _
 | succ m ih=>show (zv6 _ _ ++ zu9 g i m (k+1)).length<=_;rw[dqu];have:=ih (k+1);have:=zDl (g.get i) (g.get k);omega
end Go.Proofs
namespace Go.Proofs
open Go Go.Pm
set_option maxRecDepth 100000
def SOK (s:straight):Prop:=(-2000000<=s.slope/\s.slope<=2000000)/\(-200000000000<=s.start/\s.start<=200000000000)/\1<=s.den/\s.den<=100000
theorem zE0 {z p y q:Int}(hz:0<=z/\z<=100000) (hy:0<=y/\y<=100000) (hp : -1000000<=p/\p<=1000000) (hq : -1000000<=q/\q<=1000000) (hn:z ≠ y):SOK (thr z p y q):=by
 have b1:=zlR hp.1 hp.2 hy.1 hy.2
 have b2:=zlR hq.1 hq.2 hz.1 hz.2
 unfold thr SOK
 by_cases h:z > y
 ·rw[dqP h];exact⟨⟨by show _<=p - q;omega,by show p - q<=_;omega⟩,⟨by show _<=q * z - p * y;omega,by show q * z - p * y<=_;omega⟩,by show _<=z - y;omega,by show z - y<=_;omega⟩
 ·rw[dqG h];exact⟨⟨by show _<=q - p;omega,by show q - p<=_;omega⟩,⟨by show _<=p * y - q * z;omega,by show p * y - q * z<=_;omega⟩,by show _<=y - z;omega,by show y - z<=_;omega⟩
theorem zDn {a b:Gate}{s:straight}(h:s∈zv6 a b):a.Z ≠ b.Z/\∃ p q,(p=a.Low\/p=a.High)/\(q=b.Low\/q=b.High)/\s=thr a.Z p b.Z q:=by
 unfold zv6 at h
 by_cases hz:a.Z=b.Z
 ·rw[dqP hz] at h;cases h
 ·rw [dqG hz] at h
  refine⟨hz,?_⟩
  simp only[dqq,List.not_mem_nil,or_false] at h
  rcases h with h | h | h | h
  ·exact⟨_,_,.inl rfl,.inl rfl,h⟩
  ·exact⟨_,_,.inl rfl,.inr rfl,h⟩
  ·exact⟨_,_,.inr rfl,.inl rfl,h⟩
  ·exact⟨_,_,.inr rfl,.inr rfl,h⟩
theorem zva {g : Sl Gate} {i : Nat} {s : straight} : ∀ {m k : Nat}, s ∈ zu9 g i m k → ∃ j, k ≤ j ∧ j < k + m ∧ s ∈ zv6 (g.get i) (g.get j)
  | 0,_,h=>by cases h
  | m+1,k,h=>by
    rcases dqg.1 h with h | h
    · exact⟨k,dqt _,by omega,h⟩
    · obtain ⟨j, a, b, c⟩ := zva h
      exact⟨j,by omega,by omega,c⟩
theorem zvb {g : Sl Gate} {s : straight} : ∀ {m i : Nat}, s ∈ zDk g m i → ∃ a b, i ≤ a ∧ a < i + m ∧ a < b ∧ b < g.len ∧ s ∈ zv6 (g.get a) (g.get b)
  | 0,_,h=>by cases h
  | m+1,i,h=>by
    rcases dqg.1 h with h | h
    · obtain ⟨j, a, b, c⟩ := zva h
      exact⟨i,j,dqt _,by omega,by omega,by omega,c⟩
    · obtain ⟨a, b, h1, h2, h3, h4, h5⟩ := zvb h
      exact⟨a,b,by omega,by omega,h3,h4,h5⟩
theorem zAZ {g:Sl Gate}{s:straight}(h:s∈cst g):∃ a b,a < b/\b < g.len/\(g.get a).Z ≠ (g.get b).Z/\∃ p q,(p=(g.get a).Low\/p=(g.get a).High)/\(q=(g.get b).Low\/q=(g.get b).High)/\s=thr (g.get a).Z p (g.get b).Z q:=by
 obtain⟨a,b,_,_,h3,h4,h5⟩:=zvb h
 obtain⟨hz,r⟩:=zDn h5
 exact⟨a,b,h3,h4,hz,r⟩
theorem zE1 {g:Sl Gate}(G:zcc g){s:straight}(h:s∈cst g):SOK s:=by
 obtain⟨a,b,h1,h2,hz,p,q,hp,hq,rfl⟩:=zAZ h
 have ga:=G.1 a (by omega)
 have gb:=G.1 b h2
 refine zE0 ga.1 gb.1 ?_ ?_ hz
 ·rcases hp with rfl | rfl;exact zlS ga;exact zlT ga
 ·rcases hq with rfl | rfl;exact zlS gb;exact zlT gb
def plc (s:straight) (z:Int):Int:=s.start+s.slope * z
def zlU (s:straight) (g:Gate):Bool:=decide (g.Low * s.den<=plc s g.Z/\plc s g.Z<=g.High * s.den)
theorem zA0 {s:straight}(S:SOK s){g:Gate}(G:zii g):zHV s g=zlU s g:=by
 obtain⟨S1,S2,S3⟩:=S
 have b1:=zlR S1.1 S1.2 G.1.1 G.1.2
 have b2:=zlR (zlS G).1 (zlS G).2 (show 0<=s.den by omega) S3.2
 have b3:=zlR (zlT G).1 (zlT G).2 (show 0<=s.den by omega) S3.2
 unfold zHV zlU plc
 rw[zu7,zay (x:=s.slope * g.Z) (by omega) (by omega),zay (x:=s.start+s.slope * g.Z) (by omega) (by omega),zay (x:=g.Low * s.den) (by omega) (by omega),zay (x:=g.High * s.den) (by omega) (by omega)]
theorem zik {a x y:Int}(h:0 < a):a * x<=a * y↔x<=y:=⟨λ k=>Int.le_of_mul_le_mul_left k h,λ k=>Int.mul_le_mul_of_nonneg_left k (Int.le_of_lt h)⟩
theorem zJK {s:straight}(S:SOK s){z:Int}(hz:0<=z/\z<=100000):∃ n d k,s66 (toL s) z=(n,d)/\0 < k/\k * n=s.den * plc s z/\k * d=s.den * s.den/\0 < d/\d<=10000000000:=by
  obtain⟨S1,S2,S3⟩:=S
  have hd:0 < s.den:=by omega
  have g1:=zda (num:=s.slope) hd
  have g2:=zda (num:=s.start) hd
  have r1:=zhE (num:=s.slope) hd
  have r2:=zhE (num:=s.start) hd
  have e1:=zeJ (num:=s.slope) hd
  have e2:=zd1 (num:=s.slope) hd
  have e3:=zeJ (num:=s.start) hd
  have e4:=zd1 (num:=s.start) hd
  have p1:=zdP (num:=s.slope) hd
  have p2:=zdP (num:=s.start) hd
  have q1:=zlA (num:=s.slope) hd
  have q2:=zlA (num:=s.start) hd
  unfold s66 toL
  simp only
  generalize (red s.slope s.den).Num=a at *
  generalize (red s.slope s.den).Den=b at *
  generalize (red s.start s.den).Num=c at *
  generalize (red s.start s.den).Den=d at *
  generalize (Int.gcd s.slope s.den:Int)=G1 at *
  generalize (Int.gcd s.start s.den:Int)=G2 at *
  have m1:=zlR (x:=c) (X:=200000000000) (y:=b) (Y:=100000) (by omega) (by omega) (by omega) (by omega)
  have m2:=zlR (x:=a) (X:=2000000) (y:=z) (Y:=100000) (by omega) (by omega) hz.1 hz.2
  have m3:=zlR (x:=a * z) (X:=2000000 * 100000) (y:=d) (Y:=100000) (by omega) (by omega) (by omega) (by omega)
  have m4:=zlR (x:=d) (X:=100000) (y:=b) (Y:=100000) (by omega) (by omega) (by omega) (by omega)
  have m5:=Int.mul_pos p2 p1
  rw[zay (x:=c * b) (by omega) (by omega),zay (x:=a * z) (by omega) (by omega),zay (x:=a * z * d) (by omega) (by omega),zay (x:=c * b+a * z * d) (by omega) (by omega),zay (x:=d * b) (by omega) (by omega)]
  refine⟨_,_,G1 * G2,rfl,Int.mul_pos g1 g2,?_,?_,m5,by omega⟩
  · unfold plc
    have t1:G1 * G2 * (c * b)=s.den * s.start:=by
      calc G1 * G2 * (c * b) = (G1 * b) * (G2 * c) := by ac_rfl
        _=_:=by rw[e2,e3]
    have t2:G1 * G2 * (a * z * d)=s.den * (s.slope * z):=by
      calc G1 * G2 * (a * z * d) = (G2 * d) * ((G1 * a) * z) := by ac_rfl
        _=_:=by rw[e4,e1]
    rw[Int.mul_add,t1,t2,Int.mul_add]
  · calc G1 * G2 * (d * b) = (G1 * b) * (G2 * d) := by ac_rfl
      _=_:=by rw[e2,e4]
theorem zE2 {s:straight}(S:SOK s){g:Gate}(G:zii g):s45 (toL s) g=zlU s g:=by
  obtain⟨n,d,k,e,hk,kn,kd,d1,d2⟩:=zJK S G.1
  have hd:0 < s.den:=by have:=S.2.2;omega
  have b2:=zlR (zlS G).1 (zlS G).2 (show 0<=d by omega) d2
  have b3:=zlR (zlT G).1 (zlT G).2 (show 0<=d by omega) d2
  have key:∀ x:Int,k * (x * d)=s.den * (x * s.den):=λ x=>by
    calc k * (x * d) = x * (k * d) := by ac_rfl
      _=s.den * (x * s.den):=by rw[kd];ac_rfl
  unfold s45 zlU
  rw[e,zgQ]
  simp only
  rw[zay (x:=g.Low * d) (by omega) (by omega),zay (x:=g.High * d) (by omega) (by omega),Bool.decide_and]
  congr 1
  · refine decide_eq_decide.2 ?_
    rw[<- zik hk,key,kn,zik hd]
  · refine decide_eq_decide.2 ?_
    rw[<- zik hk,key,kn,zik hd]
end Go.Proofs
namespace Go.Proofs
open Go Go.Pm
set_option maxRecDepth 100000
theorem zvc {c:Nat->Bool}{n:Nat} : fst c n < n↔∃ i,i < n/\c i=true:=by
 refine⟨λ h=>⟨_,h,zN0 h⟩,λ ⟨i,hi,hc⟩=>?_⟩
 rcases Nat.lt_or_ge (fst c n) n with h | h
 ·exact h
 ·have := zNZ (c := c) (n := n) (j := i) (by omega)
  rw[hc] at this;cases this
def zor (g:Sl Gate):Prop:=∀ i,i < g.len->(g.get i).Z=(g.get 0).Z
def zfe (g:Sl Gate) (s:straight):Prop:=∀ i,i < g.len->zlU s (g.get i)=true
theorem zti (g:Sl Gate) (G:zcc g):p70 ⟨g⟩=true/\(s70 ⟨g⟩=true↔zor g):=by
  have hl:=G.2.2
  have hl1:=G.2.1
  have p94:∀ x,p94 ⟨g⟩ x=true:=λ x=>by
    unfold p94
    rw[dqT (show 0<=(0:Int)/\(0:Int) < ((⟨g⟩:list).Gates.len:Int) from ⟨by omega,by show (0:Int) < (g.len:Int);omega⟩)];rfl
  have := zu5 (c := s94 ⟨g⟩) (lpS := zki ⟨g⟩) (lpP := zkj ⟨g⟩)
    (λ k s t i=>by
      show zkg ⟨g⟩ (zki ⟨g⟩ k) s t i=_
      unfold zkg znK;rfl)
    (λ k s t i=>by
      show zkh ⟨g⟩ (zkj ⟨g⟩ k) s t i=_
      unfold zkh znL
      rw[p94]
      simp only[decide_true,Bool.true_and])
    g (by omega)
  obtain⟨a,b⟩:=this
  have e:zMJ ⟨g⟩ g=true:=a
  have f:zMI ⟨g⟩ g=_:=b
  unfold p70 s70 p93 s93
  show (decide ((decide (zMJ ⟨g⟩ g=true) && true)=true) && true)=true/\((!decide (zMI ⟨g⟩ g >= 0))=true↔_)
  rw[e,f]
  refine⟨by simp,?_⟩
  rw[Bool.not_eq_true',decide_eq_false_iff_not]
  by_cases h:fst (λ i=>s94 ⟨g⟩ (g.get i)) g.len < g.len
  · rw [dqP h]
    obtain⟨i,hi,hc⟩:=zvc.1 h
    refine⟨λ k=>absurd (show ((fst (λ i=>s94 ⟨g⟩ (g.get i)) g.len:Nat):Int) >= 0 by omega) k,λ k=>?_⟩
    have hc:((g.get i).Z != (g.get 0).Z)=true:=hc
    rw[k i hi] at hc
    simp at hc
  · rw [dqG h]
    refine⟨λ _ i hi=>?_,λ _=>by omega⟩
    have:=mt zvc.2 h
    have hc : ¬ ((g.get i).Z != (g.get 0).Z)=true:=λ hc=>this ⟨i,hi,hc⟩
    simpa using hc
theorem zN4 (g:Sl Gate) (G:zcc g) (v:Sl straight){x:straight}(S:SOK x):p92 ⟨⟨g⟩,v⟩ x=true/\(s92 ⟨⟨g⟩,v⟩ x=true↔zfe g x):=by
  have hl:=G.2.2
  have := zu5 (c := zHX x) (lpS := zia x) (lpP := zib x)
    (λ k s t i=>by
      show zh8 x (zia x k) s t i=_
      unfold zh8 zln;rfl)
    (λ k s t i=>by
      show zh9 x (zib x k) s t i=_
      unfold zh9 zlo;rfl)
    g (by omega)
  obtain⟨a,b⟩:=this
  have e:zzR x g=true:=a
  have f:zzQ x g=_:=b
  unfold p92 s92 zOS zOR
  show (decide ((decide (zzR x g=true) && true)=true) && true)=true/\((!decide (zzQ x g >= 0))=true↔_)
  rw[e,f]
  refine⟨by simp,?_⟩
  rw[Bool.not_eq_true',decide_eq_false_iff_not]
  by_cases h:fst (λ i=>zHX x (g.get i)) g.len < g.len
  · rw [dqP h]
    obtain⟨i,hi,hc⟩:=zvc.1 h
    refine⟨λ k=>absurd (show ((fst (λ i=>zHX x (g.get i)) g.len:Nat):Int) >= 0 by omega) k,λ k=>?_⟩
    have hc:(!(zHV x (g.get i)))=true:=hc
    rw[zA0 S (G.1 i hi),k i hi] at hc
    cases hc
  · rw [dqG h]
    refine⟨λ _ i hi=>?_,λ _=>by omega⟩
    have:=mt zvc.2 h
    have hc : ¬ (!(zHV x (g.get i)))=true:=λ hc=>this ⟨i,hi,hc⟩
    rw[<- zA0 S (G.1 i hi)]
    simpa using hc
theorem zN5 {x:straight}(S:SOK x):p91 x=true/\s91 x=toL x:=by
 obtain⟨S1,S2,S3⟩:=S
 obtain⟨a1,a2⟩:=zu8 (num:=x.slope) (den:=x.den) (by omega) (by omega) (by omega) (by omega)
 obtain⟨b1,b2⟩:=zu8 (num:=x.start) (den:=x.den) (by omega) (by omega) (by omega) (by omega)
 unfold p91 s91 toL
 rw[a1,a2,b1,b2]
 exact⟨by simp,rfl⟩
-- the reference
theorem zvd (g:Sl Gate) (G:zcc g):p16 g=true/\(s16 g=true↔zor g):=by
 have hl:=G.2.2
 have hl1:=G.2.1
 have key:∀ (m k i:Nat),i+m=g.len->m < k->ziT g k (i:Int)=true/\(ziS g k (i:Int)=true↔∀ j,i<=j->j < g.len->(g.get j).Z=(g.get 0).Z):=by
  intro m
  induction m with
  | zero =>
   intro k i hi hk
   obtain⟨k,rfl⟩:∃ k',k=k'+1:=⟨k - 1,by omega⟩
   show ziR g (ziT g k) _=_/\(ziQ g (ziS g k) _=_↔_)
   unfold ziR ziQ
   rw[dqF (show ¬ (i:Int) < (g.len:Int) by omega),dqB,dqB]
   exact⟨rfl,⟨λ _ j a b=>absurd b (by omega),λ _=>rfl⟩⟩
  | succ m ih =>
   intro k i hi hk
   obtain⟨k,rfl⟩:∃ k',k=k'+1:=⟨k - 1,by omega⟩
   obtain⟨i1,i2⟩:=ih k (i+1) (by omega) (by omega)
   show ziR g (ziT g k) _=_/\(ziQ g (ziS g k) _=_↔_)
   generalize ziT g k=P at i1
   generalize ziS g k=S at i2
   unfold ziR ziQ
   rw[dqT (show (i:Int) < (g.len:Int) by omega),dqT (show 0<=(i:Int)/\(i:Int) < (g.len:Int) by omega),dqT (show 0<=(0:Int)/\(0:Int) < (g.len:Int) by omega),dqA,dqA,dqN,zdn (n:=g.len) (by omega) (by omega),i1]
   by_cases hz:(g.get i).Z=(g.get 0).Z
   ·rw [show ((g.get i).Z != (g.get 0).Z) = false by simpa using hz, dqB, dqB]
    refine⟨by simp,i2.trans ⟨λ h j a b=>?_,λ h j a b=>h j (by omega) b⟩⟩
    by_cases hj:j=i
    ·rw[hj];exact hz
    ·exact h j (by omega) b
   ·rw [show ((g.get i).Z != (g.get 0).Z) = true by simpa using hz, dqA, dqA]
    exact⟨by simp,⟨λ h=>(by cases h),λ h=>absurd (h i (dqt _) (by omega)) hz⟩⟩
 obtain⟨a,b⟩:=key (g.len - 1) Fuel 1 (by omega) (by simp only[Fuel];omega)
 refine⟨a,Iff.trans b ⟨λ h i hi=>?_,λ h j _ hj=>h j hj⟩⟩
 by_cases h0:i=0
 ·rw[h0]
 ·exact h i (by omega) hi
end Go.Proofs
namespace Go.Proofs
open Go Go.Pm
set_option maxRecDepth 100000
def zj0 (l:Line):List Int:=[l.Slope.Num,l.Slope.Den,l.Start.Num,l.Start.Den]
theorem zqa {a b:Line}(h:zj0 a=zj0 b):a=b:=by
 unfold zj0 at h
 simp only[dqy,and_true] at h
 obtain⟨h1,h2,h3,h4⟩:=h
 obtain⟨⟨a1,a2⟩,a3,a4⟩:=a
 obtain⟨⟨b1,b2⟩,b3,b4⟩:=b
 simp only at h1 h2 h3 h4
 rw[h1,h2,h3,h4]
abbrev zlC {α:Type} [Inhabited α]:Sl α:=⟨0,λ _=>default⟩
theorem zDo {g:Sl Gate}(h:zor g):cst g=[]:=by
 rcases List.eq_nil_or_concat (cst g) with e | ⟨l,x,e⟩
 ·exact e
 ·have : x ∈ cst g := by rw [e]; simp
  obtain⟨a,b,h1,h2,hz,_⟩:=zAZ this
  exact absurd ((h a (by omega)).trans (h b h2).symm) hz
theorem zDp (g:Sl Gate):∀ m i,(zDk g m i).length<=4 * g.len * m:=by
 intro m
 induction m with
 | zero=>intro i;exact dqt _
 | succ m ih =>
  intro i
  show (zu9 g i (g.len - (i+1)) (i+1) ++ zDk g m (i+1)).length<=_
  rw[dqu,Nat.mul_succ]
  have:=ih (i+1)
  have:=zDm g i (g.len - (i+1)) (i+1)
  omega
theorem zA1 {g:Sl Gate}(G:zcc g):(cst g).length<=2304:=by
 have h1:=zDp g g.len 0
 have hl:=G.2.2
 have:4 * g.len * g.len<=4 * 24 * 24:=Nat.mul_le_mul (by omega) hl
 exact dqE h1 this
theorem zJL (g:Sl Gate) (G:zcc g):∀ (r acc:List straight) (n:Nat) (F:List Int->Option (List Int)),
    (∀ s∈r,SOK s)->acc.length+r.length<=10000->(∀ c,(zqm (F c) 0 != 0)=true↔∃ x∈acc,zj0 (toL x)=c)->acc.Pairwise (λ x y=>toL x ≠ toL y) ->
    ∃ C:List straight,zlr g r (acc.foldl zhH zlC) n F=true/\zlq g r (acc.foldl zhH zlC) n F=⟨⟨g⟩,C.foldl zhH zlC⟩ /\
      (∀ s∈C,s∈acc\/(s∈r/\zfe g s))/\(∀ s∈acc,s∈C)/\(∀ s∈r,zfe g s->∃ x∈C,toL x=toL s)/\C.Pairwise (λ x y=>toL x ≠ toL y):=by
  intro r
  induction r with
  | nil =>
    intro acc n F _ _ _ hp
    exact⟨acc,rfl,rfl,λ s h=>.inl h,λ s h=>h,(λ s h=>by cases h),hp⟩
  | cons y r ih =>
    intro acc n F hs hl hF hp
    have hs':∀ s∈r,SOK s:=λ s h=>hs s (dqf _ h)
    have Sy:=hs y dqj
    obtain⟨e1,e2⟩:=zN5 Sy
    obtain⟨a1,a2⟩:=zN4 g G (acc.foldl zhH zlC) Sy
    rw[dqr] at hl
    show ∃ C:List straight,znT g y (zlr g r) (acc.foldl zhH zlC) n F=true/\znS g y (zlq g r) (acc.foldl zhH zlC) n F=_/\_
    unfold znT znS
    rw[e1,e2,a1]
    have hcode:([(toL y).Slope.Num,(toL y).Slope.Den,(toL y).Start.Num,(toL y).Start.Den]:List Int)=zj0 (toL y):=rfl
    rw[hcode]
    have skip:(∃ C:List straight,zlr g r (acc.foldl zhH zlC) n F=true/\zlq g r (acc.foldl zhH zlC) n F=⟨⟨g⟩,C.foldl zhH zlC⟩ /\
      (∀ s∈C,s∈acc\/(s∈r/\zfe g s))/\(∀ s∈acc,s∈C)/\(∀ s∈r,zfe g s->∃ x∈C,toL x=toL s)/\C.Pairwise (λ x y=>toL x ≠ toL y)):=ih acc n F hs' (by omega) hF hp
    by_cases h1:(zqm (F (zj0 (toL y))) 0 != 0)=true
    · obtain ⟨C, c1, c2, c3, c4, c5, c6⟩ := skip
      rw[h1]
      refine⟨C,by simp only[decide_true,Bool.true_and,Bool.not_true,dqB];exact c1,by simp only[Bool.not_true,dqB];exact c2,λ s h=>(c3 s h).imp id λ k=>⟨dqf _ k.1,k.2⟩,c4,λ s h ha=>?_,c6⟩
      rcases dqq.1 h with rfl | h
      · obtain ⟨x, hx, hc⟩ := (hF _).1 h1
        exact⟨x,c4 x hx,zqa hc⟩
      · exact c5 s h ha
    · have h1' : (zqm (F (zj0 (toL y))) 0 != 0) = false := by simpa using h1
      rw[h1']
      by_cases h2:s92 ⟨⟨g⟩,acc.foldl zhH zlC⟩ y=true
      · rw [h2]
        have hlen:(acc.foldl zhH zlC).len=acc.length:=by rw[zij];simp
        have hfold:(⟨(acc.foldl zhH zlC).len+1,zh3 (acc.foldl zhH zlC).len (acc.foldl zhH zlC).get (λ _=>y)⟩:Sl straight)=(acc ++ [y]).foldl zhH zlC:=by rw[List.foldl_append];rfl
        rw[hfold,hlen,dqT (show (acc.length+1) * 24<=140737488355328/\acc.length+1<=9223372036854775807 by omega)]
        obtain ⟨C, c1, c2, c3, c4, c5, c6⟩ := ih (acc ++ [y]) (addN (F (zj0 (toL y))) n) (ztu (zj0 (toL y)) [1] F) hs' (by rw [dqu]; simp only [dqr, dqL]; omega)
          (λ c=>by
            unfold ztu
            by_cases hc:c=zj0 (toL y)
            · rw [dqT hc]
              exact⟨λ _=>⟨y,by simp,hc.symm⟩,λ _=>rfl⟩
            · rw [dqF hc]
              refine (hF c).trans ⟨λ ⟨x,hx,e⟩=>⟨x,dqg.2 (.inl hx),e⟩,λ ⟨x,hx,e⟩=>?_⟩
              rcases dqg.1 hx with hx | hx
              · exact⟨x,hx,e⟩
              · rw[dqi.1 hx] at e;exact absurd e.symm hc)
          (by
            rw[List.pairwise_append]
            refine⟨hp,List.pairwise_singleton _ _,λ a ha b hb=>?_⟩
            rw[dqi.1 hb]
            exact λ e=>h1 ((hF _).2 ⟨a,ha,by rw[e]⟩))
        have hy:y∈C:=c4 y (by simp)
        refine⟨C,by simp only[decide_true,Bool.true_and,Bool.not_false,dqA];exact c1,by simp only[Bool.not_false,dqA];exact c2,λ s h=>?_,λ s h=>c4 s (dqg.2 (.inl h)),λ s h ha=>?_,c6⟩
        · rcases c3 s h with h | h
          · rcases dqg.1 h with h | h
            · exact .inl h
            · rw[dqi.1 h];exact .inr ⟨dqj,a2.1 h2⟩
          · exact .inr ⟨dqf _ h.1,h.2⟩
        · rcases dqq.1 h with rfl | h
          · exact⟨s,hy,rfl⟩
          · exact c5 s h ha
      · have h2' : s92 ⟨⟨g⟩, acc.foldl zhH zlC⟩ y = false := by simpa using h2
        rw[h2']
        obtain⟨C,c1,c2,c3,c4,c5,c6⟩:=skip
        refine⟨C,by simp only[decide_true,Bool.true_and,Bool.not_false,dqA,dqB];exact c1,by simp only[Bool.not_false,dqA,dqB];exact c2,λ s h=>(c3 s h).imp id λ k=>⟨dqf _ k.1,k.2⟩,c4,λ s h ha=>?_,c6⟩
        rcases dqq.1 h with rfl | h
        · exact absurd (a2.2 ha) h2
        · exact c5 s h ha
theorem zDq (g:Sl Gate) (G:zcc g):∃ C:List straight,p68 g=true/\s68 g=⟨⟨g⟩,C.foldl zhH zlC⟩/\(∀ s∈C,s∈cst g/\zfe g s)/\(∀ s∈cst g,zfe g s->∃ x∈C,toL x=toL s)/\C.Pairwise (λ x y=>toL x ≠ toL y):=by
 obtain⟨e1,e2⟩:=zti g G
 obtain⟨f1,f2⟩:=zJJ g G
 unfold p68 s68
 rw[e1]
 by_cases hf:zor g
 ·rw [e2.2 hf]
  refine⟨[],rfl,rfl,(λ s h=>by cases h),λ s h=>?_,List.Pairwise.nil⟩
  rw[zDo hf] at h;cases h
 ·have : s70 ⟨g⟩ = false := by cases h : s70 ⟨g⟩; rfl; exact absurd (e2.1 h) hf
  rw[this]
  unfold zr8 zr7 zr6 zr5 zr4 zr3
  rw[f1,f2]
  obtain⟨C,c1,c2,c3,_,c5,c6⟩:=zJL g G (cst g) [] 0 (λ _=>none) (λ s h=>zE1 G h) (by have:=zA1 G;simp only[dqL];omega) (λ c=>⟨λ h=>by simp[zqm] at h,λ ⟨x,hx,_⟩=>by cases hx⟩) List.Pairwise.nil
  refine⟨C,by simp only[decide_true,Bool.true_and,dqB];exact c1,by simp only[dqB];exact c2,λ s h=>?_,c5,c6⟩
  rcases c3 s h with h | h
  ·cases h
  ·exact h
end Go.Proofs
namespace Go.Proofs
open Go Go.Pm
set_option maxRecDepth 100000
def addI (l:Line) (zaa:Sl Gate) (i:Nat) (v:Sl Int):Sl Int:=cond (s45 l (zaa.get i)) (⟨v.len+1,zh3 v.len v.get (λ _=>(i:Int))⟩:Sl Int) v
def zOV (l:Line) (zaa:Sl Gate):Sl Int:=zjZ (addI l zaa) zaa.len 0 (⟨0,λ _=>default⟩:Sl Int)
theorem zve (l:Line) (zaa:Sl Gate) (i:Nat) (v:Sl Int) (h:v.len<=i):(addI l zaa i v).len<=i+1:=by
 unfold addI;cases s45 l (zaa.get i)
 ·exact Nat.le_succ_of_le h
 ·exact Nat.succ_le_succ h
theorem zN6 (l:Line) (zaa:Sl Gate) (hn:zaa.len<=40):p18 l zaa=true/\s18 l zaa=zOV l zaa:=by
  have := zp9 (σ := Sl Int) (step := addI l zaa) (E := id) (EP := fun _ => true) (Inv := fun i v => v.len ≤ i) (a := 0) (n := zaa.len) (lpS := fun k v i => ziW l zaa k i v) (lpP := fun k v i => ziX l zaa k i v)
    (λ k i v _ hi _=>by
      show ziU l zaa (ziW l zaa k) (i:Int) v=_
      generalize ziW l zaa k=S
      unfold ziU zrT addI
      rw[dqT (show (i:Int) < (zaa.len:Int) by omega),dqA,dqN]
      cases s45 l (zaa.get i) <;> rfl)
    (λ k v=>by
      show ziU l zaa (ziW l zaa k) (zaa.len:Int) v=_
      unfold ziU
      rw[dqF (show ¬ (zaa.len:Int) < (zaa.len:Int) by omega),dqB];rfl)
    (λ k i v _ hi hv=>by
      show ziV l zaa (ziX l zaa k) (i:Int) v=_
      generalize ziX l zaa k=S
      unfold ziV zrU addI
      rw[dqT (show (i:Int) < (zaa.len:Int) by omega),dqA,dqN,dqT (show 0<=(i:Int)/\(i:Int) < (zaa.len:Int) by omega),dqT (show (v.len+1) * 8<=140737488355328/\v.len+1<=9223372036854775807 by omega)]
      cases s45 l (zaa.get i) <;> rfl)
    (λ k v=>by
      show ziV l zaa (ziX l zaa k) (zaa.len:Int) v=_
      unfold ziV
      rw[dqF (show ¬ (zaa.len:Int) < (zaa.len:Int) by omega),dqB])
    (λ i v _ _ h=>zve l zaa i v h) (Nat.zero_le _) (by omega) (⟨0,λ _=>default⟩:Sl Int) (dqt _)
  exact this
end Go.Proofs
namespace Go.Proofs
open Go Go.Pm
set_option maxRecDepth 100000
theorem zDr (l:Line) (g:Sl Gate):∀ (m i:Nat) (v:Sl Int),i+m=g.len->v.len<=i->((zjZ (addI l g) m i v).len < g.len↔v.len < i\/∃ j,i<=j/\j < g.len/\s45 l (g.get j)=false):=by
 intro m
 induction m with
 | zero =>
  intro i v hi hv
  have:i=g.len:=by omega
  subst this
  exact⟨λ h=>.inl h,λ h=>h.elim id λ ⟨j,a,b,_⟩=>absurd b (by omega)⟩
 | succ m ih =>
  intro i v hi hv
  show (zjZ (addI l g) m (i+1) (addI l g i v)).len < g.len↔_
  rw[ih (i+1) (addI l g i v) (by omega) (zve l g i v hv)]
  unfold addI
  cases h:s45 l (g.get i)
  ·rw [dqB]
   exact⟨λ _=>.inr ⟨i,dqt _,by omega,h⟩,λ _=>.inl (by omega)⟩
  ·rw [dqA]
   refine⟨λ k=>k.imp (λ (k:v.len+1 < i+1)=>by omega) λ ⟨j,a,b,c⟩=>⟨j,by omega,b,c⟩,λ k=>k.imp (λ k=>by show v.len+1 < i+1;omega) λ ⟨j,a,b,c⟩=>⟨j,?_,b,c⟩⟩
   by_cases hj:j=i
   ·rw[hj,h] at c;cases c
   ·omega
theorem zDs {g:Sl Gate}(G:zcc g){s:straight}(S:SOK s):p18 (toL s) g=true/\(((s18 (toL s) g).len:Int) < (g.len:Int)↔¬ zfe g s):=by
 have hl:=G.2.2
 obtain⟨a,b⟩:=zN6 (toL s) g (by omega)
 refine⟨a,?_⟩
 rw[b]
 have:=zDr (toL s) g g.len 0 (⟨0,λ _=>default⟩:Sl Int) (by omega) (dqt _)
 have e:((zOV (toL s) g).len < g.len↔_):=this
 rw[show (((zOV (toL s) g).len:Int) < (g.len:Int))↔(zOV (toL s) g).len < g.len by omega,e]
 constructor
 ·rintro (h | ⟨j, _, hj, hc⟩)
  ·exact absurd h (by omega)
  ·intro h
   have:=h j hj
   rw[<- zE2 S (G.1 j hj),hc] at this;cases this
 ·intro h
  refine .inr (Classical.byContradiction λ hn=>h λ i hi=>?_)
  rw[<- zE2 S (G.1 i hi)]
  cases hc:s45 (toL s) (g.get i)
  ·exact absurd ⟨i,Nat.zero_le _,hi,hc⟩ hn
  ·rfl
theorem zqb {α:Type}(l:List α):∀ (v:Sl α) (i:Nat),i < v.len->(l.foldl zhH v).get i=v.get i:=by
 induction l with
 | nil=>intro v i _;rfl
 | cons x l ih =>
  intro v i hi
  rw[List.foldl_cons,ih _ _ (show i < v.len+1 by omega)]
  show zh3 v.len v.get (λ _=>x) i=_
  unfold zh3
  rw[show Nat.ble v.len i=false by rw[<- Bool.not_eq_true,Nat.ble_eq];omega]
theorem zos {α:Type}(l:List α):∀ (v:Sl α) (i:Nat) (x:α),l[i]? = some x->(l.foldl zhH v).get (v.len+i)=x:=by
 induction l with
 | nil=>intro v i x h;simp at h
 | cons y l ih =>
  intro v i x h
  rw[List.foldl_cons]
  cases i with
  | zero =>
   have h:some y=some x:=h
   cases h
   rw[zqb _ _ _ (show v.len+0 < v.len+1 by omega)]
   show zh3 v.len v.get (λ _=>y) (v.len+0)=_
   unfold zh3
   rw[show Nat.ble v.len (v.len+0)=true by rw[Nat.ble_eq];omega]
  | succ i =>
   have:=ih (zhH v y) i x (by simpa using h)
   rw[<- this]
   show _=(l.foldl zhH (zhH v y)).get (v.len+1+i)
   congr 1;omega
end Go.Proofs
namespace Go.Proofs
open Go Go.Pm
set_option maxRecDepth 100000
end Go.Proofs
namespace Go.Proofs
open Go Go.Pm
set_option maxRecDepth 100000
def cmS (g:Sl Gate) (i:Nat) (s:Int×Int):Int×Int:=(if (g.get i).Low > s.1 then (g.get i).Low else s.1,if (g.get i).High < s.2 then (g.get i).High else s.2)
def com (g:Sl Gate):Int×Int:=zjZ (cmS g) (g.len - 1) 1 ((g.get 0).Low,(g.get 0).High)
theorem zUx (g:Sl Gate) (h:1<=g.len):zjZ (cmS g) g.len 0 ((g.get 0).Low,(g.get 0).High)=com g:=by
 obtain⟨m,hm⟩:∃ m,g.len=m+1:=⟨g.len - 1,by omega⟩
 unfold com
 rw[hm]
 show zjZ (cmS g) m 1 (cmS g 0 ((g.get 0).Low,(g.get 0).High))=zjZ (cmS g) m 1 _
 have:cmS g 0 ((g.get 0).Low,(g.get 0).High)=((g.get 0).Low,(g.get 0).High):=by
  unfold cmS
  rw[dqG (by show ¬ (g.get 0).Low > (g.get 0).Low;omega),dqG (by show ¬ (g.get 0).High < (g.get 0).High;omega)]
 rw[this]
theorem zN7 (g:Sl Gate) (G:zcc g):p71 ⟨g⟩=true/\s71 ⟨g⟩=⟨(com g).1,(com g).2⟩:=by
  have hl:=G.2
  have := zp9 (σ := Int × Int) (step := cmS g) (E := fun s => (⟨s.1, s.2⟩ : Span)) (EP := fun _ => true) (Inv := fun _ _ => True) (a := 0) (n := g.len) (lpS := fun k s i => zi4 ⟨g⟩ k i s.1 s.2) (lpP := fun k s i => zi5 ⟨g⟩ k i s.1 s.2)
    (λ k i s _ hi _=>by
      show zi2 ⟨g⟩ (zi4 ⟨g⟩ k) (i:Int) s.1 s.2=_
      generalize zi4 ⟨g⟩ k=S
      unfold zi2
      rw[dqT (show (i:Int) < ((⟨g⟩:list).Gates.len:Int) by show (i:Int) < (g.len:Int);omega),dqA,dqN]
      rfl)
    (λ k s=>by
      show zi2 ⟨g⟩ (zi4 ⟨g⟩ k) (g.len:Int) s.1 s.2=_
      unfold zi2
      rw[dqF (show ¬ (g.len:Int) < ((⟨g⟩:list).Gates.len:Int) by show ¬ (g.len:Int) < (g.len:Int);omega),dqB])
    (λ k i s _ hi _=>by
      show zi3 ⟨g⟩ (zi5 ⟨g⟩ k) (i:Int) s.1 s.2=_
      generalize zi5 ⟨g⟩ k=S
      unfold zi3
      rw[dqT (show (i:Int) < ((⟨g⟩:list).Gates.len:Int) by show (i:Int) < (g.len:Int);omega),dqT (show 0<=(i:Int)/\(i:Int) < ((⟨g⟩:list).Gates.len:Int) by show 0<=(i:Int)/\(i:Int) < (g.len:Int);omega),dqA,Bool.true_and,dqN]
      rfl)
    (λ k s=>by
      show zi3 ⟨g⟩ (zi5 ⟨g⟩ k) (g.len:Int) s.1 s.2=_
      unfold zi3
      rw[dqF (show ¬ (g.len:Int) < ((⟨g⟩:list).Gates.len:Int) by show ¬ (g.len:Int) < (g.len:Int);omega),dqB])
    (λ _ _ _ _ _=>trivial) (Nat.zero_le _) (by omega) ((g.get 0).Low,(g.get 0).High) trivial
  obtain⟨a,b⟩:=this
  rw[show g.len - 0=g.len from rfl,zUx g hl.1] at b
  refine⟨?_,b⟩
  unfold p71
  rw[dqT (show 0<=(0:Int)/\(0:Int) < ((⟨g⟩:list).Gates.len:Int) from ⟨by omega,by show (0:Int) < (g.len:Int);omega⟩),Bool.true_and,Bool.true_and]
  exact a
end Go.Proofs
namespace Go.Proofs
open Go Go.Pm
set_option maxRecDepth 100000
def FOK (f:Frac):Prop:=(-1000000000000<=f.Num/\f.Num<=1000000000000)/\1<=f.Den/\f.Den<=100000
def ltF (a b:Frac):Prop:=a.Num * b.Den < b.Num * a.Den
theorem zJM (x y:Int):zIt x y < 0↔x < y:=by
 unfold zIt zIr
 by_cases h:x < y
 ·simp[h]
 ·by_cases h2:x > y <;> simp[h,h2]
theorem zJN (x y:Int):zIt x y > 0↔x > y:=by
 unfold zIt zIr
 by_cases h:x < y
 ·have : ¬ x > y := by omega
  simp[h];omega
 ·by_cases h2:x > y <;> simp[h,h2]
theorem cross {a b:Frac}(ha:FOK a) (hb:FOK b):w64 (a.Num * b.Den)=a.Num * b.Den:=by
 have:=zlR ha.1.1 ha.1.2 (show 0<=b.Den by have:=hb.2;omega) hb.2.2
 exact zay (by omega) (by omega)
theorem zA2 {a b:Frac}(ha:FOK a) (hb:FOK b):s97 a b=true↔ltF a b:=by
 unfold s97 s98 ltF
 rw[cross ha hb,cross hb ha,decide_eq_true_eq,zJM]
theorem zA3 {a b:Frac}(ha:FOK a) (hb:FOK b):s99 a b=true↔ltF b a:=by
 unfold s99 s98 ltF
 rw[cross ha hb,cross hb ha,decide_eq_true_eq,zJN]
theorem zot {a b:Frac}(ha:0 < a.Den) (hb:0 < b.Den):ltF (red a.Num a.Den) (red b.Num b.Den)↔ltF a b:=by
 have a1:=zeJ (num:=a.Num) ha
 have a2:=zd1 (num:=a.Num) ha
 have b1:=zeJ (num:=b.Num) hb
 have b2:=zd1 (num:=b.Num) hb
 have ga:=zda (num:=a.Num) ha
 have gb:=zda (num:=b.Num) hb
 unfold ltF
 generalize red a.Num a.Den=x at *
 generalize red b.Num b.Den=y at *
 generalize (Int.gcd a.Num a.Den:Int)=G at *
 generalize (Int.gcd b.Num b.Den:Int)=K at *
 have hk:=Int.mul_pos ga gb
 have e1:a.Num * b.Den=(G * K) * (x.Num * y.Den):=by rw[<- a1,<- b2];ac_rfl
 have e2:b.Num * a.Den=(G * K) * (y.Num * x.Den):=by rw[<- b1,<- a2];ac_rfl
 rw[e1,e2]
 have:=zik (x:=y.Num * x.Den) (y:=x.Num * y.Den) hk
 constructor
 ·intro h;exact Int.not_le.1 λ k=>absurd (this.1 k) (by omega)
 ·intro h;exact Int.not_le.1 λ k=>absurd (this.2 k) (by omega)
theorem ztj {f:Frac}(h:FOK f):FOK (red f.Num f.Den):=by
 obtain⟨h1,h2,h3⟩:=h
 have hd:0 < f.Den:=by omega
 have:=zhE (num:=f.Num) hd
 have:=zlA (num:=f.Num) hd
 have:=zdP (num:=f.Num) hd
 exact⟨⟨by omega,by omega⟩,by omega,by omega⟩
end Go.Proofs
namespace Go.Proofs
open Go Go.Pm
set_option maxRecDepth 100000
theorem zN8 {x y X Y:Int}(h1 : -X<=x) (h2:x<=X) (h3 : -Y<=y) (h4:y<=Y) : -(X * Y)<=x * y/\x * y<=X * Y:=by
 rcases Int.le_total 0 y with h | h
 ·exact zlR h1 h2 h h4
 ·have := zlR (x := x) (y := -y) (X := X) (Y := Y) h1 h2 (by omega) (by omega)
  rw[Int.mul_neg] at this
  omega
theorem zA4 {s:straight}(S:SOK s){z:Int}(hz : -200000<=z/\z<=200000):p20 (toL s) z=true/\s20 (toL s) z=red (plc s z) s.den:=by
 obtain⟨S1,S2,S3⟩:=S
 have hd:0 < s.den:=by omega
 have g1:=zda (num:=s.slope) hd
 have g2:=zda (num:=s.start) hd
 have r1:=zhE (num:=s.slope) hd
 have r2:=zhE (num:=s.start) hd
 have e1:=zeJ (num:=s.slope) hd
 have e2:=zd1 (num:=s.slope) hd
 have e3:=zeJ (num:=s.start) hd
 have e4:=zd1 (num:=s.start) hd
 have p1:=zdP (num:=s.slope) hd
 have p2:=zdP (num:=s.start) hd
 have q1:=zlA (num:=s.slope) hd
 have q2:=zlA (num:=s.start) hd
 unfold p20 s20 zrX zrW toL
 simp only
 generalize (red s.slope s.den).Num=a at *
 generalize (red s.slope s.den).Den=b at *
 generalize (red s.start s.den).Num=c at *
 generalize (red s.start s.den).Den=d at *
 generalize (Int.gcd s.slope s.den:Int)=G1 at *
 generalize (Int.gcd s.start s.den:Int)=G2 at *
 obtain⟨k1,k2⟩:=zEX d b (by omega) (by omega) (by omega)
 have g0:=zda (num:=d) p1
 obtain⟨d',hd'⟩:=zSb d b
 obtain⟨b',hb'⟩:=zSc d b
 rw[k1,k2]
 generalize (Int.gcd d b:Int)=g at *
 have pd:0 < d':=by
  rcases Int.lt_or_le 0 d' with h | h
  ·exact h
  ·have:=Int.mul_le_mul_of_nonneg_left h (Int.le_of_lt g0);rw[<- hd',Int.mul_zero] at this;omega
 have pb:0 < b':=by
  rcases Int.lt_or_le 0 b' with h | h
  ·exact h
  ·have:=Int.mul_le_mul_of_nonneg_left h (Int.le_of_lt g0);rw[<- hb',Int.mul_zero] at this;omega
 have ld:d'<=d:=by have:=Int.mul_le_mul_of_nonneg_right (show 1<=g by omega) (Int.le_of_lt pd);omega
 have lb:b'<=b:=by have:=Int.mul_le_mul_of_nonneg_right (show 1<=g by omega) (Int.le_of_lt pb);omega
 have t1:d.tdiv g=d':=by rw[hd'];exact Int.mul_tdiv_cancel_left _ (by omega)
 have m1:=zlR (x:=d') (X:=100000) (y:=b) (Y:=100000) (by omega) (by omega) (by omega) (by omega)
 have m2:=Int.mul_pos pd p1
 have t2:(d' * b).tdiv d=b':=by
  have:d' * b=d * b':=by rw[hb',hd'];ac_rfl
  rw[this];exact Int.mul_tdiv_cancel_left _ (by omega)
 have t3:(d' * b).tdiv b=d':=by rw[Int.mul_comm];exact Int.mul_tdiv_cancel_left _ (by omega)
 have m3:=zlR (x:=c) (X:=200000000000) (y:=b') (Y:=100000) (by omega) (by omega) (by omega) (by omega)
 have m4:=zlR (x:=a) (X:=2000000) (y:=d') (Y:=100000) (by omega) (by omega) (by omega) (by omega)
 have m5:=zN8 (x:=a * d') (X:=2000000 * 100000) (y:=z) (Y:=200000) (by omega) (by omega) (by omega) (by omega)
 rw[t1,zay (x:=d') (by omega) (by omega),zay (x:=d' * b) (by omega) (by omega),t2,t3,zay (x:=b') (by omega) (by omega),zay (x:=d') (by omega) (by omega),zay (x:=c * b') (by omega) (by omega),zay (x:=a * d') (by omega) (by omega),zay (x:=a * d' * z) (by omega) (by omega),zay (x:=c * b'+a * d' * z) (by omega) (by omega)]
 obtain⟨x1,x2⟩:=zlB (num:=c * b'+a * d' * z) (den:=d' * b) (by omega) (by omega) (by omega) (by omega)
 rw[x1,x2,dqT (show g ≠ 0 by omega),dqT (show d ≠ 0 by omega),dqT (show b ≠ 0 by omega)]
 refine⟨by simp,(zEZ m2 hd).2 ?_⟩
 unfold plc
 have u1:c * b' * s.den=s.start * (d' * b):=by
  rw[<- e3,<- e4,hb',hd'];ac_rfl
 have u2:a * d' * z * s.den=s.slope * z * (d' * b):=by
  rw[<- e1,<- e2];ac_rfl
 rw[Int.add_mul,Int.add_mul,u1,u2]
theorem zgR {a b c:Frac}(ha:0 < a.Den) (hb:0 < b.Den) (hc:0 < c.Den) (h1 : ¬ ltF b a) (h2 : ¬ ltF c b) : ¬ ltF c a:=by
 unfold ltF at *
 intro h3
 -- a ≤ b, b ≤ c, c < a
 have x1:a.Num * b.Den<=b.Num * a.Den:=by omega
 have x2:b.Num * c.Den<=c.Num * b.Den:=by omega
 have y1:=Int.mul_le_mul_of_nonneg_right x1 (Int.le_of_lt hc)
 have y2:=Int.mul_le_mul_of_nonneg_right x2 (Int.le_of_lt ha)
 have y3:=Int.mul_lt_mul_of_pos_right h3 hb
 have z1:b.Num * a.Den * c.Den=b.Num * c.Den * a.Den:=by ac_rfl
 have z2:c.Num * b.Den * a.Den=c.Num * a.Den * b.Den:=by ac_rfl
 have z3:a.Num * b.Den * c.Den=a.Num * c.Den * b.Den:=by ac_rfl
 omega
def zjz (v:Sl Frac) (f:Frac):Prop:=(∃ i,i < v.len/\v.get i=f)/\∀ j,j < v.len->¬ ltF (v.get j) f
def zjA (v:Sl Frac) (f:Frac):Prop:=(∃ i,i < v.len/\v.get i=f)/\∀ j,j < v.len->¬ ltF f (v.get j)
theorem zJO (v:Sl Frac) (h1:1<=v.len) (h2:v.len<=100000) (hv:∀ i,i < v.len->FOK (v.get i)):p96 v=true/\zjz v (s96 v):=by
  have key:∀ (m k i:Nat) (sl:Sl Frac) (o:Frac),sl.len=v.len - 1->(∀ x,sl.get x=v.get (x+1))->i+m=v.len - 1->m < k->(∃ a,a < v.len/\v.get a=o)->(∀ j,j<=i->¬ ltF (v.get j) o) ->
      zi9 v k sl (i:Int) o.Num o.Den=true/\zjz v (zi8 v k sl (i:Int) o.Num o.Den):=by
    intro m
    induction m with
    | zero =>
      intro k i sl o hs hg hi hk ho hl
      obtain⟨k,rfl⟩:∃ k',k=k'+1:=⟨k - 1,by omega⟩
      show zi7 v (zi9 v k) _ _ _ _=_/\zjz v (zi6 v (zi8 v k) _ _ _ _)
      unfold zi7 zi6
      rw[dqF (show ¬ (i:Int) < (((v.len:Int) - (1:Int)).toNat:Int) by omega),dqB,dqB]
      exact⟨rfl,ho,λ j hj=>hl j (by omega)⟩
    | succ m ih =>
      intro k i sl o hs hg hi hk ho hl
      obtain⟨k,rfl⟩:∃ k',k=k'+1:=⟨k - 1,by omega⟩
      have ih:=λ o ho hl=>ih k (i+1) sl o hs hg (by omega) (by omega) ho hl
      show zi7 v (zi9 v k) _ _ _ _=_/\zjz v (zi6 v (zi8 v k) _ _ _ _)
      generalize zi9 v k=P at ih
      generalize zi8 v k=S at ih
      unfold zi7 zi6 zsc zsb
      have ho':=ho
      obtain⟨a,ha,ea⟩:=ho'
      have fo:FOK o:=ea ▸ hv a ha
      have fx:=hv (i+1) (by omega)
      rw[dqT (show (i:Int) < (((v.len:Int) - (1:Int)).toNat:Int) by omega),dqT (show 0<=(i:Int)/\(i:Int) < (sl.len:Int) by omega),dqA,dqA,Bool.true_and,dqN,hg,zdn (n:=v.len) (by omega) (by omega)]
      by_cases hlt:ltF (v.get (i+1)) o
      · rw [show s97 (v.get (i + 1)) (⟨o.Num, o.Den⟩ : Frac) = true from (zA2 fx fo).2 hlt, dqA, dqA]
        refine ih (v.get (i+1)) ⟨i+1,by omega,rfl⟩ λ j hj=>?_
        by_cases hji:j=i+1
        · rw[hji];unfold ltF;omega
        · have g1 := hl j (by omega)
          have fj:=hv j (by omega)
          refine zgR (b:=o) (by have:=fx.2;omega) (by have:=fo.2;omega) (by have:=fj.2;omega) ?_ g1
          unfold ltF at hlt ⊢;omega
      · have e:s97 (v.get (i+1)) (⟨o.Num,o.Den⟩:Frac)=false:=by
          cases h:s97 (v.get (i+1)) (⟨o.Num,o.Den⟩:Frac)
          · rfl
          · exact absurd ((zA2 fx fo).1 h) hlt
        rw[e,dqB,dqB]
        refine ih o ho λ j hj=>?_
        by_cases hji:j=i+1
        · rw[hji];exact hlt
        · exact hl j (by omega)
  have hk := key (v.len - 1) Fuel 0 (⟨((v.len : Int) - (1:Int)).toNat, (fun i => v.get (i + ((1:Int).toNat)))⟩ : Sl Frac) (v.get 0) (by show ((v.len : Int) - (1:Int)).toNat = _; omega) (fun _ => rfl) (by omega) (by simp only [Fuel]; omega) ⟨0, by omega, rfl⟩
    (fun j hj => by have : j = 0 := by omega
                    rw[this];unfold ltF;omega)
  refine⟨?_,hk.2⟩
  unfold p96
  rw[dqT (show 0<=(0:Int)/\(0:Int) < (v.len:Int) by omega),dqT (show 0<=(1:Int)/\(1:Int)<=(v.len:Int)/\(v.len:Int)<=(v.len:Int) by omega),Bool.true_and,Bool.true_and]
  exact hk.1
end Go.Proofs
