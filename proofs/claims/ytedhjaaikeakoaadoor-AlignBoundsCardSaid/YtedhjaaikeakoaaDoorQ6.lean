/- Part 6 of what the proof rests on: a machine that runs functions of the program on pure values, proved sound; the functions that the law reaches, and what they compute. -/
import Derived.Test.YtedhjaaikeakoaaDoorQ5
import Derived.Shelf.SlIterI.Nil
import Derived.Shelf.SortM.Plain
import Derived.Shelf.SortM.SortNone
import Derived.Ground.GgzProg
import Derived.Ground.SlgmProg
import Derived.Test.YtedhjaaikeakoaaDoorProg
import Derived.Tactics
import Derived.Tactics2
import Derived.Recover
import Derived.RecoverIn
import Derived.TacticsInMore
set_option linter.all false
namespace Go.Proofs
open Go Go.Pm
set_option maxRecDepth 100000
set_option linter.unusedVariables false
attribute [local irreducible] Go.Pm.vcFun Go.Pm.vc Go.Pm.vcIter
abbrev T89:Tabs:=((((Tabs.nil.addF 93 zpv).addF 106 zxG).addF 107 zxU).addI 110 zpx)
theorem zLv:TabsOk Tryd.prog T89:=((((TabsOk.nil.addF zHq).addF zLl).addF zLu).addI zvc)
abbrev G89:Ctrs:=csm T89 (λ _ _=>[]) (λ _=>false)
def zaZ:Ann:=⟨148,[(0,zK [0] []),(1,zK [0,3] [21]),(2,zK [0,3,23,24] [21]),(3,zK [0,3,23,24,25] [21]),(4,zK [0,3,4,23,24] [21]),(5,zK [0,3,23,24] [21]),(6,zK [0,3,23,24] [21]),(7,zK [0,3] [21]),(8,zK [0,3,5] [21]),(9,zK [0,3,5,45] [21]),(10,zK [0,3,5] [21]),(11,zK [0,3,5,48,49,50] [21]),(12,zK [0,3,5,48,49,50,51] [21]),(13,zK [0,3,5,6,7,48,49,50] [21]),(14,zK [0,3,5,48,49,50,62] [21]),(15,zK [0,3,5,48,49,50] [21]),(16,zK [0,3,5,8] [21]),(17,zK [0,5,8,64,65,66] [21]),(18,zK [0,5,8,64,65,66,67] [21]),(19,zK [0,5,8,9,10,64,65,66] [9,10,21]),(20,zK [0,5,8,9,10,64,65,66,78] [9,10,21]),(21,zK [0,5,8,9,10,11,64,65,66] [9,10,11,21]),(22,zK [0,5,8,9,10,11,12,13,64,65,66] [9,10,11,12,13,21]),(23,zK [0,5,8,9,10,11,12,13,14,64,65,66] [9,10,11,12,13,14,21]),(24,zK [0,5,8,9,10,11,12,13,14,64,65,66,83] [9,10,11,12,13,14,21,129]),(25,zK [0,5,8,9,10,11,12,13,14,64,65,66] [9,10,11,12,13,14,21,129]),(26,zK [0,5,8,9,10,11,12,13,14,64,65,66,87] [9,10,11,12,13,14,21,129]),(27,zK [0,5,8,9,10,11,12,13,14,15,64,65,66,87] [9,10,11,12,13,14,15,21,129]),(28,zK [0,5,8,9,10,11,12,13,14,15,64,65,66,87,125] [9,10,11,12,13,14,15,21,129]),(29,zK [0,5,8,9,10,11,12,13,14,15,64,65,66] [9,10,11,12,13,14,15,21,129]),(30,zK [0,5,8,9,10,11,12,13,14,64,65,66] [9,10,11,12,13,14,21,129]),(31,zK [0,5,8,9,10,11,12,13,64,65,66,136] [9,10,11,12,13,21,129]),(32,zK [0,5,8,9,10,11,12,13,14,64,65,66] [9,10,11,12,13,14,21,129]),(33,zK [0,5,8,11,64,65,66,144] [11,21,129]),(34,zK [0,5,8,64,65,66] [21,129]),(35,zK [0,5,8,64,65,66] [21,129]),(36,zK [2] [])],
 [(3,zK [0,3,23,24] [21]),(9,zK [0,3,5] [21]),(12,zK [0,3,5,48,49,50] [21]),(18,⟨[0,5,8,64,65,66],[21],[],[],[],[],[(8,1005,λ _=>zai default)]⟩),(24,⟨[0,5,8,9,10,11,12,13,14,64,65,66],[9,10,11,12,13,14,21,129],[],[(11,0,129,130,λ _=>zai default)],[],[],[]⟩),(27,zK [0,5,8,9,10,11,12,13,14,64,65,66,87] [9,10,11,12,13,14,21,129])],
 [(7,zK [0,3] [21]),(16,zK [0,3,5] [21]),(34,zK [0,5,8,11,64,65,66,144] [11,21,129])],
 [],[]⟩
def zlB (w:web) (zbB:Int) (zgj:Nat) (zcO:Nat->List PV):St:=⟨[(0,.one (.c (.p (.fp (zaD w) 0)))),(3,.one (.c (.vec 21))),(23,.one (.c (.p (.int .i64 (w.Net.Nodes.toNat:Int))))),(24,.one (.c (.p (.int .i64 zbB))))],[(21,.vec 159 1 24 zgj zcO)],[]⟩
def zlC (K:List PA->Prop) (w:web) (zbB:Int) (zgj:Nat) (zcO:Nat->List PV):Prop:=vc Tryd.prog G89 zaZ (cdF Tryd.f89 [1,0,1,0,1,0]) (zas 0 (sqK Tryd.prog G89 zaZ (cdF Tryd.f89 [1,0,1,1]) (zcG (zbp Tryd.prog Tryd.f89 K)))) (zlB w zbB zgj zcO)
def zIP (w:web) (zrU:Nat) (zi0:Nat->List PV):St:=⟨[(0,.one (.c (.p (.fp (zaD w) 0)))),(3,.one (.c (.vec 21)))],[(21,.vec 159 1 24 zrU zi0)],[]⟩
def zof (K:List PA->Prop) (w:web) (zrU:Nat) (zi0:Nat->List PV):Prop:=vc Tryd.prog G89 zaZ (cdF Tryd.f89 [1,0,1,1]) (zcG (zbp Tryd.prog Tryd.f89 K)) (zIP w zrU zi0)
def zjH (w:web) (zaP:(Sl (Sl Tab))) (zbg:Int):St:=⟨[(0,.one (.c (.p (.fp (zaD w) 0)))),(3,.one (.c (.vec 21))),(5,.one (.c (.p (.int .i64 zbg))))],[(21,.vec 159 1 24 zaP.len (λ i=>zaI (zaP.get i)))],[]⟩
def zlD (K:List PA->Prop) (w:web) (zaP:(Sl (Sl Tab))) (zbg:Int):Prop:=vc Tryd.prog G89 zaZ (cdF Tryd.f89 [1,0,1,1,1,1,0,1,0]) (zas 2 (sqK Tryd.prog G89 zaZ (cdF Tryd.f89 [1,0,1,1,1,1,1]) (zcG (zbp Tryd.prog Tryd.f89 K)))) (zjH w zaP zbg)
def zlE (w:web) (zaP:(Sl (Sl Tab))) (zba:Int) (zbJ:Int):St:=⟨[(0,.one (.c (.p (.fp (zaD w) 0)))),(3,.one (.c (.vec 21))),(5,.one (.c (.p (.int .i64 zba)))),(48,.one (.c (.vec 21))),(49,.one (.c (.p (.int .i64 (zaP.len:Int))))),(50,.one (.c (.p (.int .i64 zbJ))))],[(21,.vec 159 1 24 zaP.len (λ i=>zaI (zaP.get i)))],[]⟩
def zlF (K:List PA->Prop) (X2:St->Prop) (w:web) (zaP:(Sl (Sl Tab))) (zba:Int) (zbJ:Int):Prop:=vc Tryd.prog G89 zaZ (cdF Tryd.f89 [1,0,1,1,1,1,0,1,0,0,1,0,0,1,0]) (zas 4 (zas 3 (sqK Tryd.prog G89 zaZ (cdF Tryd.f89 [1,0,1,1,1,1,0,1,0,0,1,1]) (zbr Tryd.prog zaZ 9 X2 (zas 2 (sqK Tryd.prog G89 zaZ (cdF Tryd.f89 [1,0,1,1,1,1,1]) (zcG (zbp Tryd.prog Tryd.f89 K)))))))) (zlE w zaP zba zbJ)
def zIQ (w:web) (zdP:Int) (zrV:Nat) (zi1:Nat->List PV):St:=⟨[(0,.one (.c (.p (.fp (zaD w) 0)))),(3,.one (.c (.vec 21))),(5,.one (.c (.p (.int .i64 zdP))))],[(21,.vec 159 1 24 zrV zi1)],[]⟩
def zlG (K:List PA->Prop) (w:web) (zdP:Int) (zrV:Nat) (zi1:Nat->List PV):Prop:=vc Tryd.prog G89 zaZ (cdF Tryd.f89 [1,0,1,1,1,1,1]) (zcG (zbp Tryd.prog Tryd.f89 K)) (zIQ w zdP zrV zi1)
def zfI (w:web) (zav:(Sl (Sl Tab))) (zaW:Int) (zaH:Bool) (zeK:Nat) (zbx:Nat->List PV) (za3:Int) (zgk:Nat) (zbY:Nat->List PV):St:=⟨[(0,.one (.c (.p (.fp (zaD w) 0)))),(5,.one (.c (.p (.int .i64 zaW)))),(8,.one (.c (.p (.ns zaH zeK 5 zbx)))),(64,.one (.c (.vec 21))),(65,.one (.c (.p (.int .i64 (zav.len:Int))))),(66,.one (.c (.p (.int .i64 za3))))],[(21,.vec 159 1 24 zgk zbY)],[]⟩
def zlH (K:List PA->Prop) (w:web) (zav:(Sl (Sl Tab))) (zaW:Int) (zaH:Bool) (zeK:Nat) (zbx:Nat->List PV) (za3:Int) (zgk:Nat) (zbY:Nat->List PV):Prop:=vc Tryd.prog G89 zaZ (cdF Tryd.f89 [1,0,1,1,1,1,1,1,0,1,0]) (zas 6 (sqK Tryd.prog G89 zaZ (cdF Tryd.f89 [1,0,1,1,1,1,1,1,1]) (zcG (zbp Tryd.prog Tryd.f89 K)))) (zfI w zav zaW zaH zeK zbx za3 zgk zbY)
def zij (w:web) (zav:(Sl (Sl Tab))) (zbe:Int) (zaF:Bool) (zeL:Nat) (zb2:Nat->List PV) (zb3:Int) (iv6:Int) (zpX:Nat) (zeW:Nat->List PV) (zeo:Int) (zaT:Int) (kv6:Int) (zgl:Nat) (zcr:Nat->List PV) (zeM:Nat) (zb4:Nat->List PV):St:=⟨[(0,.one (.c (.p (.fp (zaD w) 0)))),(5,.one (.c (.p (.int .i64 zbe)))),(8,.one (.c (.p (.ns zaF zeL 5 zb2)))),(9,.one (.c (.ptr 9 0))),(10,.one (.c (.ptr 10 0))),(11,.one (.c (.ptr 11 0))),(12,.one (.c (.ptr 12 0))),(13,.one (.c (.ptr 13 0))),(14,.one (.c (.ptr 14 0))),(64,.one (.c (.vec 21))),(65,.one (.c (.p (.int .i64 (zav.len:Int))))),(66,.one (.c (.p (.int .i64 zb3))))],[(9,.box 3 [.p (.int .i64 iv6)]),(10,.box 159 [.p (.sl zpX 80 zeW)]),(11,.box 127 [.vec 129]),(12,.box 3 [.p (.int .i64 zeo)]),(13,.box 3 [.p (.int .i64 zaT)]),(14,.box 3 [.p (.int .i64 kv6)]),(21,.vec 159 1 24 zgl zcr),(129,.vec 130 5 40 zeM zb4)],[]⟩
def zlI (K:List PA->Prop) (X5:St->Prop) (w:web) (zav:(Sl (Sl Tab))) (zbe:Int) (zaF:Bool) (zeL:Nat) (zb2:Nat->List PV) (zb3:Int) (iv6:Int) (zpX:Nat) (zeW:Nat->List PV) (zeo:Int) (zaT:Int) (kv6:Int) (zgl:Nat) (zcr:Nat->List PV) (zeM:Nat) (zb4:Nat->List PV):Prop:=vc Tryd.prog G89 zaZ (cdF Tryd.f89 [1,0,1,1,1,1,1,1,0,1,0,0,1,1,0,0,1,1,1,1,0,1,0]) (zas 8 (sqK Tryd.prog G89 zaZ (cdF Tryd.f89 [1,0,1,1,1,1,1,1,0,1,0,0,1,1,0,0,1,1,1,1,1]) (zas 7 (sqK Tryd.prog G89 zaZ (cdF Tryd.f89 [1,0,1,1,1,1,1,1,0,1,0,0,1,1,1]) (zbr Tryd.prog zaZ 18 X5 (zas 6 (sqK Tryd.prog G89 zaZ (cdF Tryd.f89 [1,0,1,1,1,1,1,1,1]) (zcG (zbp Tryd.prog Tryd.f89 K))))))))) (zij w zav zbe zaF zeL zb2 zb3 iv6 zpX zeW zeo zaT kv6 zgl zcr zeM zb4)
def zfJ (w:web) (zav:(Sl (Sl Tab))) (zaU:Int) (zaz:Bool) (zeN:Nat) (zce:Nat->List PV) (zbn:Int) (iv7:Int) (zpY:Nat) (zfT:Nat->List PV) (zcP:Int) (zaw:Int) (kv7:Int) (zgm:Nat) (zcQ:Nat->List PV) (zeO:Nat) (zcf:Nat->List PV):St:=⟨[(0,.one (.c (.p (.fp (zaD w) 0)))),(5,.one (.c (.p (.int .i64 zaU)))),(8,.one (.c (.p (.ns zaz zeN 5 zce)))),(9,.one (.c (.ptr 9 0))),(10,.one (.c (.ptr 10 0))),(11,.one (.c (.ptr 11 0))),(12,.one (.c (.ptr 12 0))),(13,.one (.c (.ptr 13 0))),(14,.one (.c (.ptr 14 0))),(64,.one (.c (.vec 21))),(65,.one (.c (.p (.int .i64 (zav.len:Int))))),(66,.one (.c (.p (.int .i64 zbn)))),(87,.one (.c (.p (.fn 110 [] [.fp [.fp (zaD w) 0] 0]))))],[(9,.box 3 [.p (.int .i64 iv7)]),(10,.box 159 [.p (.sl zpY 80 zfT)]),(11,.box 127 [.vec 129]),(12,.box 3 [.p (.int .i64 zcP)]),(13,.box 3 [.p (.int .i64 zaw)]),(14,.box 3 [.p (.int .i64 kv7)]),(21,.vec 159 1 24 zgm zcQ),(129,.vec 130 5 40 zeO zcf)],[]⟩
def zlJ (K:List PA->Prop) (X5:St->Prop) (X6:St->Prop) (w:web) (zav:(Sl (Sl Tab))) (zaU:Int) (zaz:Bool) (zeN:Nat) (zce:Nat->List PV) (zbn:Int) (iv7:Int) (zpY:Nat) (zfT:Nat->List PV) (zcP:Int) (zaw:Int) (kv7:Int) (zgm:Nat) (zcQ:Nat->List PV) (zeO:Nat) (zcf:Nat->List PV):Prop:=vc Tryd.prog G89 zaZ (cdF Tryd.f89 [1,0,1,1,1,1,1,1,0,1,0,0,1,1,0,0,1,1,1,1,0,1,0,0,1,0,0,1,0]) (zas 10 (zas 9 (sqK Tryd.prog G89 zaZ (cdF Tryd.f89 [1,0,1,1,1,1,1,1,0,1,0,0,1,1,0,0,1,1,1,1,0,1,0,0,1,1]) (zbr Tryd.prog zaZ 24 X6 (zas 8 (sqK Tryd.prog G89 zaZ (cdF Tryd.f89 [1,0,1,1,1,1,1,1,0,1,0,0,1,1,0,0,1,1,1,1,1]) (zas 7 (sqK Tryd.prog G89 zaZ (cdF Tryd.f89 [1,0,1,1,1,1,1,1,0,1,0,0,1,1,1]) (zbr Tryd.prog zaZ 18 X5 (zas 6 (sqK Tryd.prog G89 zaZ (cdF Tryd.f89 [1,0,1,1,1,1,1,1,1]) (zcG (zbp Tryd.prog Tryd.f89 K))))))))))))) (zfJ w zav zaU zaz zeN zce zbn iv7 zpY zfT zcP zaw kv7 zgm zcQ zeO zcf)
def zIR (w:web) (zav:(Sl (Sl Tab))) (zde:Int) (zct:Bool) (zog:Nat) (zgO:Nat->List PV) (ze8:Int) (zep:Bool) (zrW:Nat) (zi2:Nat->List PV) (zoh:Nat) (zgP:Nat->List PV):St:=⟨[(0,.one (.c (.p (.fp (zaD w) 0)))),(5,.one (.c (.p (.int .i64 zde)))),(8,.one (.c (.p (.ns zct zog 5 zgO)))),(11,.one (.c (.ptr 11 0))),(64,.one (.c (.vec 21))),(65,.one (.c (.p (.int .i64 (zav.len:Int))))),(66,.one (.c (.p (.int .i64 ze8)))),(144,.one (.c (.p (.bool zep))))],[(11,.box 127 [.vec 129]),(21,.vec 159 1 24 zrW zi2),(129,.vec 130 5 40 zoh zgP)],[]⟩
def zlK (K:List PA->Prop) (X5:St->Prop) (w:web) (zav:(Sl (Sl Tab))) (zde:Int) (zct:Bool) (zog:Nat) (zgO:Nat->List PV) (ze8:Int) (zep:Bool) (zrW:Nat) (zi2:Nat->List PV) (zoh:Nat) (zgP:Nat->List PV):Prop:=vc Tryd.prog G89 zaZ (cdF Tryd.f89 [1,0,1,1,1,1,1,1,0,1,0,0,1,1,0,0,1,1,1,1,1,1]) (zas 7 (sqK Tryd.prog G89 zaZ (cdF Tryd.f89 [1,0,1,1,1,1,1,1,0,1,0,0,1,1,1]) (zbr Tryd.prog zaZ 18 X5 (zas 6 (sqK Tryd.prog G89 zaZ (cdF Tryd.f89 [1,0,1,1,1,1,1,1,1]) (zcG (zbp Tryd.prog Tryd.f89 K))))))) (zIR w zav zde zct zog zgO ze8 zep zrW zi2 zoh zgP)
theorem zFh (w : web) (K : List PA -> Prop) :
  vcFun Tryd.prog G89 zaZ 89 [.one (.fp (zaD w) 0)] K =
  (((0≤w.Net.Nodes/\w.Net.Nodes=w.Net.Nodes/\w.Net.Nodes≤1000000)) /\
 (zlC K w (0:Int) w.Net.Nodes.toNat (λ _=>(zaI (⟨0,λ _=>(λ _=>(0:Int))⟩:(Sl Tab)))))):=by kernel_rfl
def zpZ (K:List PA->Prop) (X0:St->Prop) (w:web) (zbB:Int) (zb8:(Sl (Sl Tab))):Prop :=
  (zbR (decide (zbB < (w.Net.Nodes.toNat : Int)))
 ((IsE enc_40 4 4 (λ i=>enc_40 (w.Net.Ties.get i))/\((false,1,false,[none]):MQ)=(false,1,false,[none])/\(zIF w zbB w.Net.Nodes=true)) /\
 (((0≤zbB/\zbB < (zb8.len:Int))) /\
 (((zbB.toNat < zb8.len)) /\
 (X0 (zlB w (w64 (zbB+(1:Int))) zb8.len (zjP zbB.toNat 0 (λ i=>zaI (zb8.get i)) (zaI (zxF w zbB w.Net.Nodes))))))))
 (zof K w zb8.len (λ i=>zaI (zb8.get i))))
theorem zrX (K : List PA -> Prop) (X0 : St -> Prop) (w : web) (zbB : Int) (zb8 : (Sl (Sl Tab))) :
  vc Tryd.prog G89 zaZ (cd (cdF Tryd.f89 [1,0,1,0,1,0]) [0]) (zbr Tryd.prog zaZ 3 X0 (zas 0 (sqK Tryd.prog G89 zaZ (cdF Tryd.f89 [1,0,1,1]) (zcG (zbp Tryd.prog Tryd.f89 K))))) (zlB w zbB zb8.len (λ i=>zaI (zb8.get i))) =
  zpZ K X0 w zbB zb8:=by kernel_rfl
theorem zxV (K : List PA -> Prop) (w : web) (zbB : Int) (zgj : Nat) (zcO : Nat -> List PV)
  (h:∀ X0:St->Prop,(∀ (zbB:Int) (zb8:(Sl (Sl Tab))),zpZ K X0 w zbB zb8->X0 (zlB w zbB zb8.len (λ i=>zaI (zb8.get i))))->X0 (zlB w zbB zgj zcO)) :
  zlC K w zbB zgj zcO:=by
  have e:zlC K w zbB zgj zcO=(∀ X:St->Prop,(∀ s,vc Tryd.prog G89 zaZ (cd (cdF Tryd.f89 [1,0,1,0,1,0]) [0]) (zbr Tryd.prog zaZ 3 X (zas 0 (sqK Tryd.prog G89 zaZ (cdF Tryd.f89 [1,0,1,1]) (zcG (zbp Tryd.prog Tryd.f89 K))))) s->X s)->X (zlB w zbB zgj zcO)):=by kernel_rfl
  refine zbk e ?_
  intro X hX
  refine h X ?_
  intro zbB zb8 hs
  refine hX _ ?_
  have e2:=zrX K X w zbB zb8
  rw[e2]
  exact hs
theorem zFi (K : List PA -> Prop) (w : web) (zaP : (Sl (Sl Tab))) :
  zof K w zaP.len (λ i=>zaI (zaP.get i)) =
  (zlD K w zaP (1:Int)):=by kernel_rfl
def zp0 (K:List PA->Prop) (X2:St->Prop) (w:web) (zaP:(Sl (Sl Tab))) (zbg:Int):Prop :=
  (zbR (decide (zbg < w.Net.Nodes))
 (zlF K X2 w zaP zbg (0:Int))
 (zlG K w zbg zaP.len (λ i=>zaI (zaP.get i))))
theorem zrY (K : List PA -> Prop) (X2 : St -> Prop) (w : web) (zaP : (Sl (Sl Tab))) (zbg : Int) :
  vc Tryd.prog G89 zaZ (cd (cdF Tryd.f89 [1,0,1,1,1,1,0,1,0]) [0]) (zbr Tryd.prog zaZ 9 X2 (zas 2 (sqK Tryd.prog G89 zaZ (cdF Tryd.f89 [1,0,1,1,1,1,1]) (zcG (zbp Tryd.prog Tryd.f89 K))))) (zjH w zaP zbg) =
  zp0 K X2 w zaP zbg:=by kernel_rfl
theorem zxW (K : List PA -> Prop) (w : web) (zaP : (Sl (Sl Tab))) (zbg : Int)
  (h:∀ X2:St->Prop,(∀ (zbg:Int),zp0 K X2 w zaP zbg->X2 (zjH w zaP zbg))->X2 (zjH w zaP zbg)) :
  zlD K w zaP zbg:=by
  have e:zlD K w zaP zbg=(∀ X:St->Prop,(∀ s,vc Tryd.prog G89 zaZ (cd (cdF Tryd.f89 [1,0,1,1,1,1,0,1,0]) [0]) (zbr Tryd.prog zaZ 9 X (zas 2 (sqK Tryd.prog G89 zaZ (cdF Tryd.f89 [1,0,1,1,1,1,1]) (zcG (zbp Tryd.prog Tryd.f89 K))))) s->X s)->X (zjH w zaP zbg)):=by kernel_rfl
  refine zbk e ?_
  intro X hX
  refine h X ?_
  intro zbg hs
  refine hX _ ?_
  have e2:=zrY K X w zaP zbg
  rw[e2]
  exact hs
def zp1 (K:List PA->Prop) (X2:St->Prop) (X3:St->Prop) (w:web) (zaP:(Sl (Sl Tab))) (zba:Int) (zbJ:Int):Prop :=
  (zbR (decide (zbJ < (zaP.len : Int)))
 (((0≤zbJ/\zbJ < (zaP.len:Int))) /\
 (((zbJ.toNat < zaP.len)) /\
 (((0≤zba/\zba < ((zaP.get zbJ.toNat).len:Int))) /\
 (((0≤zbJ/\zbJ < (40:Int))) /\
 (zbR (decide ((tL ((zaP.get zbJ.toNat).get zba.toNat) zbJ) < (0:Int)))
 (zlG K w zba zaP.len (λ i=>zaI (zaP.get i)))
 (X3 (zlE w zaP zba (w64 (zbJ+(1:Int))))))))))
 (X2 (zjH w zaP (w64 (zba+(1:Int))))))
theorem zrZ (K : List PA -> Prop) (X2 : St -> Prop) (X3 : St -> Prop) (w : web) (zaP : (Sl (Sl Tab))) (zba : Int) (zbJ : Int) :
  vc Tryd.prog G89 zaZ (cd (cdF Tryd.f89 [1,0,1,1,1,1,0,1,0,0,1,0,0,1,0]) [0]) (zbr Tryd.prog zaZ 12 X3 (zas 4 (zas 3 (sqK Tryd.prog G89 zaZ (cdF Tryd.f89 [1,0,1,1,1,1,0,1,0,0,1,1]) (zbr Tryd.prog zaZ 9 X2 (zas 2 (sqK Tryd.prog G89 zaZ (cdF Tryd.f89 [1,0,1,1,1,1,1]) (zcG (zbp Tryd.prog Tryd.f89 K))))))))) (zlE w zaP zba zbJ) =
  zp1 K X2 X3 w zaP zba zbJ:=by kernel_rfl
theorem zxX (K : List PA -> Prop) (X2 : St -> Prop) (w : web) (zaP : (Sl (Sl Tab))) (zba : Int) (zbJ : Int)
  (h:∀ X3:St->Prop,(∀ (zba:Int) (zbJ:Int),zp1 K X2 X3 w zaP zba zbJ->X3 (zlE w zaP zba zbJ))->X3 (zlE w zaP zba zbJ)) :
  zlF K X2 w zaP zba zbJ:=by
  have e:zlF K X2 w zaP zba zbJ=(∀ X:St->Prop,(∀ s,vc Tryd.prog G89 zaZ (cd (cdF Tryd.f89 [1,0,1,1,1,1,0,1,0,0,1,0,0,1,0]) [0]) (zbr Tryd.prog zaZ 12 X (zas 4 (zas 3 (sqK Tryd.prog G89 zaZ (cdF Tryd.f89 [1,0,1,1,1,1,0,1,0,0,1,1]) (zbr Tryd.prog zaZ 9 X2 (zas 2 (sqK Tryd.prog G89 zaZ (cdF Tryd.f89 [1,0,1,1,1,1,1]) (zcG (zbp Tryd.prog Tryd.f89 K))))))))) s->X s)->X (zlE w zaP zba zbJ)):=by kernel_rfl
  refine zbk e ?_
  intro X hX
  refine h X ?_
  intro zba zbJ hs
  refine hX _ ?_
  have e2:=zrZ K X2 X w zaP zba zbJ
  rw[e2]
  exact hs
theorem zFj (K : List PA -> Prop) (w : web) (zdP : Int) (zav : (Sl (Sl Tab))) :
  zlG K w zdP zav.len (λ i=>zaI (zav.get i)) =
  (zlH K w zav zdP true 0 (λ i=>zai ((λ _=>default) i)) (0:Int) zav.len (λ i=>zaI (zav.get i))):=by kernel_rfl
def zp2 (K:List PA->Prop) (X5:St->Prop) (w:web) (zav:(Sl (Sl Tab))) (zaW:Int) (zaH:Bool) (za0:(Sl step)) (za3:Int) (zbo:(Sl (Sl Tab))):Prop :=
  (zbR (decide (za3 < (zav.len : Int)))
 (((0≤za3/\za3 < (zbo.len:Int))) /\
 (((za3.toNat < zbo.len)) /\
 (((0≤zaW/\zaW < ((zbo.get za3.toNat).len:Int))) /\
 (((0≤za3/\za3 < (40:Int))) /\
 (zbR (decide ((tL ((zbo.get za3.toNat).get zaW.toNat) za3) ≥ (0:Int)))
 (X5 (zfI w zav zaW zaH za0.len (λ i=>zai (za0.get i)) (w64 (za3+(1:Int))) zbo.len (λ i=>zaI (zbo.get i))))
 (zlI K X5 w zav zaW zaH za0.len (λ i=>zai (za0.get i)) za3 za3 ((zbo.get za3.toNat).len) (λ i=>zac ((zbo.get za3.toNat).get i)) za3 (0:Int) (w64 (zaW - (1:Int))) zbo.len (λ i=>zaI (zbo.get i)) 0 (λ i=>zai ((λ _=>default) i))))))))
 (K [.one (.sl za0.len 5 (λ i=>zai (za0.get i)))]))
theorem zr0 (K : List PA -> Prop) (X5 : St -> Prop) (w : web) (zav : (Sl (Sl Tab))) (zaW : Int) (zaH : Bool) (za0 : (Sl step)) (za3 : Int) (zbo : (Sl (Sl Tab))) :
  vc Tryd.prog G89 zaZ (cd (cdF Tryd.f89 [1,0,1,1,1,1,1,1,0,1,0]) [0]) (zbr Tryd.prog zaZ 18 X5 (zas 6 (sqK Tryd.prog G89 zaZ (cdF Tryd.f89 [1,0,1,1,1,1,1,1,1]) (zcG (zbp Tryd.prog Tryd.f89 K))))) (zfI w zav zaW zaH za0.len (λ i=>zai (za0.get i)) za3 zbo.len (λ i=>zaI (zbo.get i))) =
  zp2 K X5 w zav zaW zaH za0 za3 zbo:=by kernel_rfl
theorem zxY (K : List PA -> Prop) (w : web) (zav : (Sl (Sl Tab))) (zaW : Int) (zaH : Bool) (zeK : Nat) (zbx : Nat -> List PV) (za3 : Int) (zgk : Nat) (zbY : Nat -> List PV)
  (h:∀ X5:St->Prop,(∀ (zaW:Int) (zaH:Bool) (za0:(Sl step)) (za3:Int) (zbo:(Sl (Sl Tab))),zp2 K X5 w zav zaW zaH za0 za3 zbo->X5 (zfI w zav zaW zaH za0.len (λ i=>zai (za0.get i)) za3 zbo.len (λ i=>zaI (zbo.get i))))->X5 (zfI w zav zaW zaH zeK zbx za3 zgk zbY)) :
  zlH K w zav zaW zaH zeK zbx za3 zgk zbY:=by
  have e:zlH K w zav zaW zaH zeK zbx za3 zgk zbY=(∀ X:St->Prop,(∀ s,vc Tryd.prog G89 zaZ (cd (cdF Tryd.f89 [1,0,1,1,1,1,1,1,0,1,0]) [0]) (zbr Tryd.prog zaZ 18 X (zas 6 (sqK Tryd.prog G89 zaZ (cdF Tryd.f89 [1,0,1,1,1,1,1,1,1]) (zcG (zbp Tryd.prog Tryd.f89 K))))) s->X s)->X (zfI w zav zaW zaH zeK zbx za3 zgk zbY)):=by kernel_rfl
  refine zbk e ?_
  intro X hX
  refine h X ?_
  intro zaW zaH za0 za3 zbo hs
  refine hX _ ?_
  have e2:=zr0 K X w zav zaW zaH za0 za3 zbo
  rw[e2]
  exact hs
def zp3 (K:List PA->Prop) (X5:St->Prop) (X6:St->Prop) (w:web) (zav:(Sl (Sl Tab))) (zbe:Int) (zaF:Bool) (zaY:(Sl step)) (zb3:Int) (iv6:Int) (hv6:(Sl Tab)) (zeo:Int) (zaT:Int) (kv6:Int) (zbU:(Sl (Sl Tab))) (za1:(Sl step)):Prop :=
  (zbR (decide (kv6 ≥ (0:Int)))
 ((IsE enc_40 4 4 (λ i=>enc_40 (w.Net.Ties.get i))/\((false,1,false,[none]):MQ)=(false,1,false,[none])) /\
 (zlJ K X5 X6 w zav zbe zaF zaY.len (λ i=>zai (zaY.get i)) zb3 iv6 hv6.len (λ i=>zac (hv6.get i)) zeo zaT kv6 zbU.len (λ i=>zaI (zbU.get i)) za1.len (λ i=>zai (za1.get i))))
 (((zaF=true∨zaY.len ≠ 0)) /\
 (zbR zaF
 (zlK K X5 w zav zbe zaF zaY.len (λ i=>zai (zaY.get i)) zb3 true zbU.len (λ i=>zaI (zbU.get i)) za1.len (λ i=>zai (za1.get i)))
 ((IsE zai 5 5 (λ i=>zai (za1.get i))/\IsE zai 5 5 (λ i=>zai (zaY.get i))/\(zKJ za1 zaY=true)) /\
 (zlK K X5 w zav zbe zaF zaY.len (λ i=>zai (zaY.get i)) zb3 (decide ((zHr za1 zaY) < (0:Int))) zbU.len (λ i=>zaI (zbU.get i)) za1.len (λ i=>zai (za1.get i)))))))
theorem zr1 (K : List PA -> Prop) (X5 : St -> Prop) (X6 : St -> Prop) (w : web) (zav : (Sl (Sl Tab))) (zbe : Int) (zaF : Bool) (zaY : (Sl step)) (zb3 : Int) (iv6 : Int) (hv6 : (Sl Tab)) (zeo : Int) (zaT : Int) (kv6 : Int) (zbU : (Sl (Sl Tab))) (za1 : (Sl step)) :
  vc Tryd.prog G89 zaZ (cd (cdF Tryd.f89 [1,0,1,1,1,1,1,1,0,1,0,0,1,1,0,0,1,1,1,1,0,1,0]) [0]) (zbr Tryd.prog zaZ 24 X6 (zas 8 (sqK Tryd.prog G89 zaZ (cdF Tryd.f89 [1,0,1,1,1,1,1,1,0,1,0,0,1,1,0,0,1,1,1,1,1]) (zas 7 (sqK Tryd.prog G89 zaZ (cdF Tryd.f89 [1,0,1,1,1,1,1,1,0,1,0,0,1,1,1]) (zbr Tryd.prog zaZ 18 X5 (zas 6 (sqK Tryd.prog G89 zaZ (cdF Tryd.f89 [1,0,1,1,1,1,1,1,1]) (zcG (zbp Tryd.prog Tryd.f89 K)))))))))) (zij w zav zbe zaF zaY.len (λ i=>zai (zaY.get i)) zb3 iv6 hv6.len (λ i=>zac (hv6.get i)) zeo zaT kv6 zbU.len (λ i=>zaI (zbU.get i)) za1.len (λ i=>zai (za1.get i))) =
  zp3 K X5 X6 w zav zbe zaF zaY zb3 iv6 hv6 zeo zaT kv6 zbU za1:=by kernel_rfl
theorem zxZ (K : List PA -> Prop) (X5 : St -> Prop) (w : web) (zav : (Sl (Sl Tab))) (zbe : Int) (zaF : Bool) (zeL : Nat) (zb2 : Nat -> List PV) (zb3 : Int) (iv6 : Int) (zpX : Nat) (zeW : Nat -> List PV) (zeo : Int) (zaT : Int) (kv6 : Int) (zgl : Nat) (zcr : Nat -> List PV) (zeM : Nat) (zb4 : Nat -> List PV)
  (h:∀ X6:St->Prop,(∀ (zbe:Int) (zaF:Bool) (zaY:(Sl step)) (zb3:Int) (iv6:Int) (hv6:(Sl Tab)) (zeo:Int) (zaT:Int) (kv6:Int) (zbU:(Sl (Sl Tab))) (za1:(Sl step)),zp3 K X5 X6 w zav zbe zaF zaY zb3 iv6 hv6 zeo zaT kv6 zbU za1->X6 (zij w zav zbe zaF zaY.len (λ i=>zai (zaY.get i)) zb3 iv6 hv6.len (λ i=>zac (hv6.get i)) zeo zaT kv6 zbU.len (λ i=>zaI (zbU.get i)) za1.len (λ i=>zai (za1.get i))))->X6 (zij w zav zbe zaF zeL zb2 zb3 iv6 zpX zeW zeo zaT kv6 zgl zcr zeM zb4)) :
  zlI K X5 w zav zbe zaF zeL zb2 zb3 iv6 zpX zeW zeo zaT kv6 zgl zcr zeM zb4:=by
  have e:zlI K X5 w zav zbe zaF zeL zb2 zb3 iv6 zpX zeW zeo zaT kv6 zgl zcr zeM zb4=(∀ X:St->Prop,(∀ s,vc Tryd.prog G89 zaZ (cd (cdF Tryd.f89 [1,0,1,1,1,1,1,1,0,1,0,0,1,1,0,0,1,1,1,1,0,1,0]) [0]) (zbr Tryd.prog zaZ 24 X (zas 8 (sqK Tryd.prog G89 zaZ (cdF Tryd.f89 [1,0,1,1,1,1,1,1,0,1,0,0,1,1,0,0,1,1,1,1,1]) (zas 7 (sqK Tryd.prog G89 zaZ (cdF Tryd.f89 [1,0,1,1,1,1,1,1,0,1,0,0,1,1,1]) (zbr Tryd.prog zaZ 18 X5 (zas 6 (sqK Tryd.prog G89 zaZ (cdF Tryd.f89 [1,0,1,1,1,1,1,1,1]) (zcG (zbp Tryd.prog Tryd.f89 K)))))))))) s->X s)->X (zij w zav zbe zaF zeL zb2 zb3 iv6 zpX zeW zeo zaT kv6 zgl zcr zeM zb4)):=by kernel_rfl
  refine zbk e ?_
  intro X hX
  refine h X ?_
  intro zbe zaF zaY zb3 iv6 hv6 zeo zaT kv6 zbU za1 hs
  refine hX _ ?_
  have e2:=zr1 K X5 X w zav zbe zaF zaY zb3 iv6 hv6 zeo zaT kv6 zbU za1
  rw[e2]
  exact hs
def zp4 (K:List PA->Prop) (X5:St->Prop) (X6:St->Prop) (w:web) (zav:(Sl (Sl Tab))) (zaU:Int) (zaz:Bool) (zaR:(Sl step)) (zbn:Int) (iv7:Int) (hv7:(Sl Tab)) (zcP:Int) (zaw:Int) (kv7:Int) (zbb:(Sl (Sl Tab))) (zaG:(Sl step)):Prop :=
  (X6 (zij w zav zaU zaz zaR.len (λ i=>zai (zaR.get i)) zbn iv7 hv7.len (λ i=>zac (hv7.get i)) zcP zaw (w64 (kv7 - (1:Int))) zbb.len (λ i=>zaI (zbb.get i)) zaG.len (λ i=>zai (zaG.get i))))
def zp5 (K:List PA->Prop) (X5:St->Prop) (X6:St->Prop) (X7:List (List PA)->St->Prop) (y7:step) (rest7:List (List PA)) (w:web) (zav:(Sl (Sl Tab))) (zaU:Int) (zaz:Bool) (zaR:(Sl step)) (zbn:Int) (iv7:Int) (hv7:(Sl Tab)) (zcP:Int) (zaw:Int) (kv7:Int) (zbb:(Sl (Sl Tab))) (zaG:(Sl step)):Prop :=
  (zbR (y7.from_ == zcP)
 (zbR (decide (y7.to ≥ iv7))
 (((0≤kv7/\kv7 < (hv7.len:Int))) /\
 (((0≤y7.to/\y7.to < (40:Int))) /\
 (zbR (!(nvr (tL (hv7.get kv7.toNat) y7.to) (tU (hv7.get kv7.toNat) y7.to)))
 (((0≤kv7/\kv7 < (hv7.len:Int))) /\
 (((0≤y7.to/\y7.to < (40:Int))) /\
 (zbR (decide ((w64 ((w64 (zaw + y7.length)) + (tL (hv7.get kv7.toNat) y7.to))) < (0:Int)))
 ((((zaG.len+1) * 40≤140737488355328/\zaG.len+1≤9223372036854775807)) /\
 (X6 (zij w zav zaU zaz zaR.len (λ i=>zai (zaR.get i)) zbn iv7 hv7.len (λ i=>zac (hv7.get i)) y7.to (w64 (zaw+y7.length)) (w64 (kv7 - (1:Int))) zbb.len (λ i=>zaI (zbb.get i)) (zaG.len+1) (appG zaG.len (λ i=>zai (zaG.get i)) (λ _=>(zai y7))))))
 (X7 rest7 (zfJ w zav zaU zaz zaR.len (λ i=>zai (zaR.get i)) zbn iv7 hv7.len (λ i=>zac (hv7.get i)) zcP zaw kv7 zbb.len (λ i=>zaI (zbb.get i)) zaG.len (λ i=>zai (zaG.get i)))))))
 (X7 rest7 (zfJ w zav zaU zaz zaR.len (λ i=>zai (zaR.get i)) zbn iv7 hv7.len (λ i=>zac (hv7.get i)) zcP zaw kv7 zbb.len (λ i=>zaI (zbb.get i)) zaG.len (λ i=>zai (zaG.get i)))))))
 (X7 rest7 (zfJ w zav zaU zaz zaR.len (λ i=>zai (zaR.get i)) zbn iv7 hv7.len (λ i=>zac (hv7.get i)) zcP zaw kv7 zbb.len (λ i=>zaI (zbb.get i)) zaG.len (λ i=>zai (zaG.get i)))))
 (X7 rest7 (zfJ w zav zaU zaz zaR.len (λ i=>zai (zaR.get i)) zbn iv7 hv7.len (λ i=>zac (hv7.get i)) zcP zaw kv7 zbb.len (λ i=>zaI (zbb.get i)) zaG.len (λ i=>zai (zaG.get i)))))
theorem zr2 (K:List PA->Prop) (X5:St->Prop) (X6:St->Prop) (w:web) (zav:(Sl (Sl Tab))) (zaU:Int) (zaz:Bool) (zaR:(Sl step)) (zbn:Int) (iv7:Int) (hv7:(Sl Tab)) (zcP:Int) (zaw:Int) (kv7:Int) (zbb:(Sl (Sl Tab))) (zaG:(Sl step)):(zas 10 (zas 9 (sqK Tryd.prog G89 zaZ (cdF Tryd.f89 [1,0,1,1,1,1,1,1,0,1,0,0,1,1,0,0,1,1,1,1,0,1,0,0,1,1]) (zbr Tryd.prog zaZ 24 X6 (zas 8 (sqK Tryd.prog G89 zaZ (cdF Tryd.f89 [1,0,1,1,1,1,1,1,0,1,0,0,1,1,0,0,1,1,1,1,1]) (zas 7 (sqK Tryd.prog G89 zaZ (cdF Tryd.f89 [1,0,1,1,1,1,1,1,0,1,0,0,1,1,1]) (zbr Tryd.prog zaZ 18 X5 (zas 6 (sqK Tryd.prog G89 zaZ (cdF Tryd.f89 [1,0,1,1,1,1,1,1,1]) (zcG (zbp Tryd.prog Tryd.f89 K))))))))))))) .normal (zfJ w zav zaU zaz zaR.len (λ i=>zai (zaR.get i)) zbn iv7 hv7.len (λ i=>zac (hv7.get i)) zcP zaw kv7 zbb.len (λ i=>zaI (zbb.get i)) zaG.len (λ i=>zai (zaG.get i)))=zp4 K X5 X6 w zav zaU zaz zaR zbn iv7 hv7 zcP zaw kv7 zbb zaG:=by kernel_rfl
theorem zr3 (K : List PA -> Prop) (X5 : St -> Prop) (X6 : St -> Prop) (X7 : List (List PA) -> St -> Prop) (y7 : step) (rest7 : List (List PA)) (w : web) (zav : (Sl (Sl Tab))) (zaU : Int) (zaz : Bool) (zaR : (Sl step)) (zbn : Int) (iv7 : Int) (hv7 : (Sl Tab)) (zcP : Int) (zaw : Int) (kv7 : Int) (zbb : (Sl (Sl Tab))) (zaG : (Sl step)) :
  zvu Tryd.prog G89 zaZ 27 [88] (cd (cdF Tryd.f89 [1,0,1,1,1,1,1,1,0,1,0,0,1,1,0,0,1,1,1,1,0,1,0,0,1,0,0,1,0]) [0]) (cd (cdF Tryd.f89 [1,0,1,1,1,1,1,1,0,1,0,0,1,1,0,0,1,1,1,1,0,1,0,0,1,0,0,1,0]) [1]) X7 (zas 10 (zas 9 (sqK Tryd.prog G89 zaZ (cdF Tryd.f89 [1,0,1,1,1,1,1,1,0,1,0,0,1,1,0,0,1,1,1,1,0,1,0,0,1,1]) (zbr Tryd.prog zaZ 24 X6 (zas 8 (sqK Tryd.prog G89 zaZ (cdF Tryd.f89 [1,0,1,1,1,1,1,1,0,1,0,0,1,1,0,0,1,1,1,1,1]) (zas 7 (sqK Tryd.prog G89 zaZ (cdF Tryd.f89 [1,0,1,1,1,1,1,1,0,1,0,0,1,1,1]) (zbr Tryd.prog zaZ 18 X5 (zas 6 (sqK Tryd.prog G89 zaZ (cdF Tryd.f89 [1,0,1,1,1,1,1,1,1]) (zcG (zbp Tryd.prog Tryd.f89 K))))))))))))) [.agg (zai y7)] rest7 (zfJ w zav zaU zaz zaR.len (λ i=>zai (zaR.get i)) zbn iv7 hv7.len (λ i=>zac (hv7.get i)) zcP zaw kv7 zbb.len (λ i=>zaI (zbb.get i)) zaG.len (λ i=>zai (zaG.get i)))=zp5 K X5 X6 X7 y7 rest7 w zav zaU zaz zaR zbn iv7 hv7 zcP zaw kv7 zbb zaG:=by kernel_rfl
theorem zx0 (K : List PA -> Prop) (X5 : St -> Prop) (X6 : St -> Prop) (w : web) (zav : (Sl (Sl Tab))) (zaU : Int) (zaz : Bool) (zeN : Nat) (zce : Nat -> List PV) (zbn : Int) (iv7 : Int) (zpY : Nat) (zfT : Nat -> List PV) (zcP : Int) (zaw : Int) (kv7 : Int) (zgm : Nat) (zcQ : Nat -> List PV) (zeO : Nat) (zcf : Nat -> List PV)
  (hsafe:IsE enc_40 4 4 (λ i=>enc_40 (w.Net.Ties.get i))/\((false,1,false,[none]):MQ)=(false,1,false,[none])/\(zme w=true)) (h:∀ X7:List (List PA)->St->Prop,(∀ (zaU:Int) (zaz:Bool) (zaR:(Sl step)) (zbn:Int) (iv7:Int) (hv7:(Sl Tab)) (zcP:Int) (zaw:Int) (kv7:Int) (zbb:(Sl (Sl Tab))) (zaG:(Sl step)),zp4 K X5 X6 w zav zaU zaz zaR zbn iv7 hv7 zcP zaw kv7 zbb zaG->X7 [] (zfJ w zav zaU zaz zaR.len (λ i=>zai (zaR.get i)) zbn iv7 hv7.len (λ i=>zac (hv7.get i)) zcP zaw kv7 zbb.len (λ i=>zaI (zbb.get i)) zaG.len (λ i=>zai (zaG.get i))))->(∀ (y:step) (rest:List (List PA)) (zaU:Int) (zaz:Bool) (zaR:(Sl step)) (zbn:Int) (iv7:Int) (hv7:(Sl Tab)) (zcP:Int) (zaw:Int) (kv7:Int) (zbb:(Sl (Sl Tab))) (zaG:(Sl step)),zp5 K X5 X6 X7 y rest w zav zaU zaz zaR zbn iv7 hv7 zcP zaw kv7 zbb zaG->X7 ([.agg (zai y)] :: rest) (zfJ w zav zaU zaz zaR.len (λ i=>zai (zaR.get i)) zbn iv7 hv7.len (λ i=>zac (hv7.get i)) zcP zaw kv7 zbb.len (λ i=>zaI (zbb.get i)) zaG.len (λ i=>zai (zaG.get i))))->X7 ((zit w).map λ y=>[.agg (zai y)]) (zfJ w zav zaU zaz zeN zce zbn iv7 zpY zfT zcP zaw kv7 zgm zcQ zeO zcf)) :
  zlJ K X5 X6 w zav zaU zaz zeN zce zbn iv7 zpY zfT zcP zaw kv7 zgm zcQ zeO zcf:=by
  have e:zlJ K X5 X6 w zav zaU zaz zeN zce zbn iv7 zpY zfT zcP zaw kv7 zgm zcQ zeO zcf=((IsE enc_40 4 4 (λ i=>enc_40 (w.Net.Ties.get i))/\((false,1,false,[none]):MQ)=(false,1,false,[none])/\(zme w=true))/\∀ X:List (List PA)->St->Prop,(∀ s,(zas 10 (zas 9 (sqK Tryd.prog G89 zaZ (cdF Tryd.f89 [1,0,1,1,1,1,1,1,0,1,0,0,1,1,0,0,1,1,1,1,0,1,0,0,1,1]) (zbr Tryd.prog zaZ 24 X6 (zas 8 (sqK Tryd.prog G89 zaZ (cdF Tryd.f89 [1,0,1,1,1,1,1,1,0,1,0,0,1,1,0,0,1,1,1,1,1]) (zas 7 (sqK Tryd.prog G89 zaZ (cdF Tryd.f89 [1,0,1,1,1,1,1,1,0,1,0,0,1,1,1]) (zbr Tryd.prog zaZ 18 X5 (zas 6 (sqK Tryd.prog G89 zaZ (cdF Tryd.f89 [1,0,1,1,1,1,1,1,1]) (zcG (zbp Tryd.prog Tryd.f89 K))))))))))))) .normal s->X [] s)->(∀ y rest s,zvu Tryd.prog G89 zaZ 27 [88] (cd (cdF Tryd.f89 [1,0,1,1,1,1,1,1,0,1,0,0,1,1,0,0,1,1,1,1,0,1,0,0,1,0,0,1,0]) [0]) (cd (cdF Tryd.f89 [1,0,1,1,1,1,1,1,0,1,0,0,1,1,0,0,1,1,1,1,0,1,0,0,1,0,0,1,0]) [1]) X (zas 10 (zas 9 (sqK Tryd.prog G89 zaZ (cdF Tryd.f89 [1,0,1,1,1,1,1,1,0,1,0,0,1,1,0,0,1,1,1,1,0,1,0,0,1,1]) (zbr Tryd.prog zaZ 24 X6 (zas 8 (sqK Tryd.prog G89 zaZ (cdF Tryd.f89 [1,0,1,1,1,1,1,1,0,1,0,0,1,1,0,0,1,1,1,1,1]) (zas 7 (sqK Tryd.prog G89 zaZ (cdF Tryd.f89 [1,0,1,1,1,1,1,1,0,1,0,0,1,1,1]) (zbr Tryd.prog zaZ 18 X5 (zas 6 (sqK Tryd.prog G89 zaZ (cdF Tryd.f89 [1,0,1,1,1,1,1,1,1]) (zcG (zbp Tryd.prog Tryd.f89 K))))))))))))) y rest s->X (y :: rest) s)->X ((zit w).map λ y=>[.agg (zai y)]) (zfJ w zav zaU zaz zeN zce zbn iv7 zpY zfT zcP zaw kv7 zgm zcQ zeO zcf)):=by kernel_rfl
  refine zbk e ⟨hsafe,?_⟩
  intro X h0 h1
  refine h X (λ zaU zaz zaR zbn iv7 hv7 zcP zaw kv7 zbb zaG hs=>h0 _ ?_) (λ y rest zaU zaz zaR zbn iv7 hv7 zcP zaw kv7 zbb zaG hs=>h1 _ rest _ ?_)
  · rw[zr2 K X5 X6 w zav zaU zaz zaR zbn iv7 hv7 zcP zaw kv7 zbb zaG];exact hs
  · have e2 := zr3 K X5 X6 X y rest w zav zaU zaz zaR zbn iv7 hv7 zcP zaw kv7 zbb zaG
    rw[e2];exact hs
theorem zFk (K : List PA -> Prop) (X5 : St -> Prop) (w : web) (zav : (Sl (Sl Tab))) (zde : Int) (zct : Bool) (zdQ : (Sl step)) (ze8 : Int) (zep : Bool) (zew : (Sl (Sl Tab))) (zdR : (Sl step)) :
  zlK K X5 w zav zde zct zdQ.len (λ i=>zai (zdQ.get i)) ze8 zep zew.len (λ i=>zaI (zew.get i)) zdR.len (λ i=>zai (zdR.get i)) =
  (zbR zep
 (X5 (zfI w zav zde false zdR.len (λ i=>zai (zdR.get i)) (w64 (ze8+(1:Int))) zew.len (λ i=>zaI (zew.get i))))
 (X5 (zfI w zav zde zct zdQ.len (λ i=>zai (zdQ.get i)) (w64 (ze8+(1:Int))) zew.len (λ i=>zaI (zew.get i))))):=by kernel_rfl
abbrev e89 (r:(Sl step)):List PA:=[.one (.sl r.len 5 (λ i=>zai (r.get i)))]
attribute [irreducible] zlC zof zlD zlF zlG zlH zlI zlJ zlK
def zoi (S5:Int->Bool->(Sl step)->Int->(Sl (Sl Tab))->(Sl step)) (w:web) (zav:(Sl (Sl Tab))) (zde:Int) (zct:Bool) (zdQ:(Sl step)) (ze8:Int) (zep:Bool) (zew:(Sl (Sl Tab))) (zdR:(Sl step)):(Sl step) :=
  (cond zep
 (S5 zde false zdR (w64 (ze8+(1:Int))) zew)
 (S5 zde zct zdQ (w64 (ze8+(1:Int))) zew))
def zoj (P5:Int->Bool->(Sl step)->Int->(Sl (Sl Tab))->Bool) (w:web) (zav:(Sl (Sl Tab))) (zde:Int) (zct:Bool) (zdQ:(Sl step)) (ze8:Int) (zep:Bool) (zew:(Sl (Sl Tab))) (zdR:(Sl step)):Bool :=
  (cond zep
 (P5 zde false zdR (w64 (ze8+(1:Int))) zew)
 (P5 zde zct zdQ (w64 (ze8+(1:Int))) zew))
theorem zx1 (K : List PA -> Prop) (w : web) (zav : (Sl (Sl Tab)))
  (X5:St->Prop) (P5:Int->Bool->(Sl step)->Int->(Sl (Sl Tab))->Bool) (S5:Int->Bool->(Sl step)->Int->(Sl (Sl Tab))->(Sl step))
  (hX5:∀ (zaW:Int) (zaH:Bool) (za0:(Sl step)) (za3:Int) (zbo:(Sl (Sl Tab))) (zbx:Nat->List PV) (zeP:zbx=λ i=>zai (za0.get i)) (zbY:Nat->List PV) (zgn:zbY=λ i=>zaI (zbo.get i)),P5 zaW zaH za0 za3 zbo=true->K (e89 (S5 zaW zaH za0 za3 zbo))->X5 (zfI w zav zaW zaH za0.len zbx za3 zbo.len zbY)) (zde:Int) (zct:Bool) (zdQ:(Sl step)) (ze8:Int) (zep:Bool) (zew:(Sl (Sl Tab))) (zdR:(Sl step)) (zgO:Nat->List PV) (zB2:zgO=λ i=>zai (zdQ.get i)) (zi2:Nat->List PV) (zFl:zi2=λ i=>zaI (zew.get i)) (zgP:Nat->List PV) (zB3:zgP=λ i=>zai (zdR.get i)) (hs:zoj P5 w zav zde zct zdQ ze8 zep zew zdR=true) (hk:K (e89 (zoi S5 w zav zde zct zdQ ze8 zep zew zdR))):zlK K X5 w zav zde zct zdQ.len zgO ze8 zep zew.len zi2 zdR.len zgP:=by
  subst zB2
  subst zFl
  subst zB3
  refine zbk (zFk K X5 w zav zde zct zdQ ze8 zep zew zdR) ?_
  unfold zoj at hs
  unfold zoi at hk
  exact (za2 (K := λ r => K (e89 r))
 (λ hs hk=>(hX5 zde false zdR (w64 (ze8+(1:Int))) zew (λ i=>zai (zdR.get i)) rfl (λ i=>zaI (zew.get i)) rfl hs hk))
 (λ hs hk=>(hX5 zde zct zdQ (w64 (ze8+(1:Int))) zew (λ i=>zai (zdQ.get i)) rfl (λ i=>zaI (zew.get i)) rfl hs hk)) hs hk)
def zr4 (S5:Int->Bool->(Sl step)->Int->(Sl (Sl Tab))->(Sl step)) (S6:Int->Bool->(Sl step)->Int->Int->(Sl Tab)->Int->Int->Int->(Sl (Sl Tab))->(Sl step)->(Sl step)) (w:web) (zav:(Sl (Sl Tab))) (zaU:Int) (zaz:Bool) (zaR:(Sl step)) (zbn:Int) (iv7:Int) (hv7:(Sl Tab)) (zcP:Int) (zaw:Int) (kv7:Int) (zbb:(Sl (Sl Tab))) (zaG:(Sl step)):(Sl step) :=
  (S6 zaU zaz zaR zbn iv7 hv7 zcP zaw (w64 (kv7 - (1:Int))) zbb zaG)
def zr5 (P5:Int->Bool->(Sl step)->Int->(Sl (Sl Tab))->Bool) (P6:Int->Bool->(Sl step)->Int->Int->(Sl Tab)->Int->Int->Int->(Sl (Sl Tab))->(Sl step)->Bool) (w:web) (zav:(Sl (Sl Tab))) (zaU:Int) (zaz:Bool) (zaR:(Sl step)) (zbn:Int) (iv7:Int) (hv7:(Sl Tab)) (zcP:Int) (zaw:Int) (kv7:Int) (zbb:(Sl (Sl Tab))) (zaG:(Sl step)):Bool :=
  (P6 zaU zaz zaR zbn iv7 hv7 zcP zaw (w64 (kv7 - (1:Int))) zbb zaG)
def zr6 (S5:Int->Bool->(Sl step)->Int->(Sl (Sl Tab))->(Sl step)) (S6:Int->Bool->(Sl step)->Int->Int->(Sl Tab)->Int->Int->Int->(Sl (Sl Tab))->(Sl step)->(Sl step)) (w:web) (zav:(Sl (Sl Tab))) (y7:step) (S7:Int->Bool->(Sl step)->Int->Int->(Sl Tab)->Int->Int->Int->(Sl (Sl Tab))->(Sl step)->(Sl step)) (zaU:Int) (zaz:Bool) (zaR:(Sl step)) (zbn:Int) (iv7:Int) (hv7:(Sl Tab)) (zcP:Int) (zaw:Int) (kv7:Int) (zbb:(Sl (Sl Tab))) (zaG:(Sl step)):(Sl step) :=
  (cond (y7.from_ == zcP)
 (cond (decide (y7.to ≥ iv7))
 (cond (!(nvr (tL (hv7.get kv7.toNat) y7.to) (tU (hv7.get kv7.toNat) y7.to)))
 (cond (decide ((w64 ((w64 (zaw + y7.length)) + (tL (hv7.get kv7.toNat) y7.to))) < (0:Int)))
 (S6 zaU zaz zaR zbn iv7 hv7 y7.to (w64 (zaw+y7.length)) (w64 (kv7 - (1:Int))) zbb (⟨(zaG.len+1),(zf4 zaG.len zaG.get (λ _=>y7))⟩:Sl step))
 (S7 zaU zaz zaR zbn iv7 hv7 zcP zaw kv7 zbb zaG))
 (S7 zaU zaz zaR zbn iv7 hv7 zcP zaw kv7 zbb zaG))
 (S7 zaU zaz zaR zbn iv7 hv7 zcP zaw kv7 zbb zaG))
 (S7 zaU zaz zaR zbn iv7 hv7 zcP zaw kv7 zbb zaG))
def zr7 (P5:Int->Bool->(Sl step)->Int->(Sl (Sl Tab))->Bool) (P6:Int->Bool->(Sl step)->Int->Int->(Sl Tab)->Int->Int->Int->(Sl (Sl Tab))->(Sl step)->Bool) (w:web) (zav:(Sl (Sl Tab))) (y7:step) (P7:Int->Bool->(Sl step)->Int->Int->(Sl Tab)->Int->Int->Int->(Sl (Sl Tab))->(Sl step)->Bool) (zaU:Int) (zaz:Bool) (zaR:(Sl step)) (zbn:Int) (iv7:Int) (hv7:(Sl Tab)) (zcP:Int) (zaw:Int) (kv7:Int) (zbb:(Sl (Sl Tab))) (zaG:(Sl step)):Bool :=
  (cond (y7.from_ == zcP)
 (cond (decide (y7.to ≥ iv7))
 (decide ((0≤kv7/\kv7 < (hv7.len:Int))) &&
 (decide ((0≤y7.to/\y7.to < (40:Int))) &&
 (cond (!(nvr (tL (hv7.get kv7.toNat) y7.to) (tU (hv7.get kv7.toNat) y7.to)))
 (decide ((0≤kv7/\kv7 < (hv7.len:Int))) &&
 (decide ((0≤y7.to/\y7.to < (40:Int))) &&
 (cond (decide ((w64 ((w64 (zaw + y7.length)) + (tL (hv7.get kv7.toNat) y7.to))) < (0:Int)))
 (decide (((zaG.len+1) * 40≤140737488355328/\zaG.len+1≤9223372036854775807)) &&
 (P6 zaU zaz zaR zbn iv7 hv7 y7.to (w64 (zaw+y7.length)) (w64 (kv7 - (1:Int))) zbb (⟨(zaG.len+1),(zf4 zaG.len zaG.get (λ _=>y7))⟩:Sl step)))
 (P7 zaU zaz zaR zbn iv7 hv7 zcP zaw kv7 zbb zaG))))
 (P7 zaU zaz zaR zbn iv7 hv7 zcP zaw kv7 zbb zaG))))
 (P7 zaU zaz zaR zbn iv7 hv7 zcP zaw kv7 zbb zaG))
 (P7 zaU zaz zaR zbn iv7 hv7 zcP zaw kv7 zbb zaG))
def zlL (S5 : Int -> Bool -> (Sl step) -> Int -> (Sl (Sl Tab)) -> (Sl step)) (S6 : Int -> Bool -> (Sl step) -> Int -> Int -> (Sl Tab) -> Int -> Int -> Int -> (Sl (Sl Tab)) -> (Sl step) -> (Sl step)) (w : web) (zav : (Sl (Sl Tab))) : List step -> Int -> Bool -> (Sl step) -> Int -> Int -> (Sl Tab) -> Int -> Int -> Int -> (Sl (Sl Tab)) -> (Sl step) -> (Sl step)
  | []=>zr4 S5 S6 w zav
  | y :: r=>zr6 S5 S6 w zav y (zlL S5 S6 w zav r)
def zlM (P5 : Int -> Bool -> (Sl step) -> Int -> (Sl (Sl Tab)) -> Bool) (P6 : Int -> Bool -> (Sl step) -> Int -> Int -> (Sl Tab) -> Int -> Int -> Int -> (Sl (Sl Tab)) -> (Sl step) -> Bool) (w : web) (zav : (Sl (Sl Tab))) : List step -> Int -> Bool -> (Sl step) -> Int -> Int -> (Sl Tab) -> Int -> Int -> Int -> (Sl (Sl Tab)) -> (Sl step) -> Bool
  | []=>zr5 P5 P6 w zav
  | y :: r=>zr7 P5 P6 w zav y (zlM P5 P6 w zav r)
def zx2 (S5:Int->Bool->(Sl step)->Int->(Sl (Sl Tab))->(Sl step)) (S6:Int->Bool->(Sl step)->Int->Int->(Sl Tab)->Int->Int->Int->(Sl (Sl Tab))->(Sl step)->(Sl step)) (w:web) (zav:(Sl (Sl Tab))) (zaU:Int) (zaz:Bool) (zaR:(Sl step)) (zbn:Int) (iv7:Int) (hv7:(Sl Tab)) (zcP:Int) (zaw:Int) (kv7:Int) (zbb:(Sl (Sl Tab))) (zaG:(Sl step)):(Sl step):=zlL S5 S6 w zav (zit w) zaU zaz zaR zbn iv7 hv7 zcP zaw kv7 zbb zaG
def zr8 (P5:Int->Bool->(Sl step)->Int->(Sl (Sl Tab))->Bool) (P6:Int->Bool->(Sl step)->Int->Int->(Sl Tab)->Int->Int->Int->(Sl (Sl Tab))->(Sl step)->Bool) (w:web) (zav:(Sl (Sl Tab))) (zaU:Int) (zaz:Bool) (zaR:(Sl step)) (zbn:Int) (iv7:Int) (hv7:(Sl Tab)) (zcP:Int) (zaw:Int) (kv7:Int) (zbb:(Sl (Sl Tab))) (zaG:(Sl step)):Bool:=decide ((zme w=true)) && zlM P5 P6 w zav (zit w) zaU zaz zaR zbn iv7 hv7 zcP zaw kv7 zbb zaG
theorem zFm (K : List PA -> Prop) (w : web) (zav : (Sl (Sl Tab)))
  (X5:St->Prop) (P5:Int->Bool->(Sl step)->Int->(Sl (Sl Tab))->Bool) (S5:Int->Bool->(Sl step)->Int->(Sl (Sl Tab))->(Sl step))
  (hX5:∀ (zaW:Int) (zaH:Bool) (za0:(Sl step)) (za3:Int) (zbo:(Sl (Sl Tab))) (zbx:Nat->List PV) (zeP:zbx=λ i=>zai (za0.get i)) (zbY:Nat->List PV) (zgn:zbY=λ i=>zaI (zbo.get i)),P5 zaW zaH za0 za3 zbo=true->K (e89 (S5 zaW zaH za0 za3 zbo))->X5 (zfI w zav zaW zaH za0.len zbx za3 zbo.len zbY))
  (X6:St->Prop) (P6:Int->Bool->(Sl step)->Int->Int->(Sl Tab)->Int->Int->Int->(Sl (Sl Tab))->(Sl step)->Bool) (S6:Int->Bool->(Sl step)->Int->Int->(Sl Tab)->Int->Int->Int->(Sl (Sl Tab))->(Sl step)->(Sl step))
  (hX6:∀ (zbe:Int) (zaF:Bool) (zaY:(Sl step)) (zb3:Int) (iv6:Int) (hv6:(Sl Tab)) (zeo:Int) (zaT:Int) (kv6:Int) (zbU:(Sl (Sl Tab))) (za1:(Sl step)) (zb2:Nat->List PV) (zgQ:zb2=λ i=>zai (zaY.get i)) (zeW:Nat->List PV) (zvk:zeW=λ i=>zac (hv6.get i)) (zcr:Nat->List PV) (zi3:zcr=λ i=>zaI (zbU.get i)) (zb4:Nat->List PV) (zgR:zb4=λ i=>zai (za1.get i)),P6 zbe zaF zaY zb3 iv6 hv6 zeo zaT kv6 zbU za1=true->K (e89 (S6 zbe zaF zaY zb3 iv6 hv6 zeo zaT kv6 zbU za1))->X6 (zij w zav zbe zaF zaY.len zb2 zb3 iv6 hv6.len zeW zeo zaT kv6 zbU.len zcr za1.len zb4)) (zaU:Int) (zaz:Bool) (zaR:(Sl step)) (zbn:Int) (iv7:Int) (hv7:(Sl Tab)) (zcP:Int) (zaw:Int) (kv7:Int) (zbb:(Sl (Sl Tab))) (zaG:(Sl step)) (zce:Nat->List PV) (zgS:zce=λ i=>zai (zaR.get i)) (zfT:Nat->List PV) (zvl:zfT=λ i=>zac (hv7.get i)) (zcQ:Nat->List PV) (zi4:zcQ=λ i=>zaI (zbb.get i)) (zcf:Nat->List PV) (zgT:zcf=λ i=>zai (zaG.get i)) (hs:zr8 P5 P6 w zav zaU zaz zaR zbn iv7 hv7 zcP zaw kv7 zbb zaG=true) (hk:K (e89 (zx2 S5 S6 w zav zaU zaz zaR zbn iv7 hv7 zcP zaw kv7 zbb zaG))):zlJ K X5 X6 w zav zaU zaz zaR.len zce zbn iv7 hv7.len zfT zcP zaw kv7 zbb.len zcQ zaG.len zcf:=by
  unfold zr8 at hs
  rw[Bool.and_eq_true] at hs
  obtain⟨hsf,hs⟩:=hs
  have hc:=of_decide_eq_true hsf
  refine zx0 K X5 X6 w zav zaU zaz zaR.len zce zbn iv7 hv7.len zfT zcP zaw kv7 zbb.len zcQ zaG.len zcf ⟨isE,rfl,hc⟩ ?_
  intro X7 hexit hstep
  have key:∀ (l:List step) (zaU:Int) (zaz:Bool) (zaR:(Sl step)) (zbn:Int) (iv7:Int) (hv7:(Sl Tab)) (zcP:Int) (zaw:Int) (kv7:Int) (zbb:(Sl (Sl Tab))) (zaG:(Sl step)) (zce:Nat->List PV) (zgS:zce=λ i=>zai (zaR.get i)) (zfT:Nat->List PV) (zvl:zfT=λ i=>zac (hv7.get i)) (zcQ:Nat->List PV) (zi4:zcQ=λ i=>zaI (zbb.get i)) (zcf:Nat->List PV) (zgT:zcf=λ i=>zai (zaG.get i)),zlM P5 P6 w zav l zaU zaz zaR zbn iv7 hv7 zcP zaw kv7 zbb zaG=true->K (e89 (zlL S5 S6 w zav l zaU zaz zaR zbn iv7 hv7 zcP zaw kv7 zbb zaG))->X7 (l.map λ y=>[.agg (zai y)]) (zfJ w zav zaU zaz zaR.len zce zbn iv7 hv7.len zfT zcP zaw kv7 zbb.len zcQ zaG.len zcf):=by
    intro l
    induction l with
    | nil =>
      intro zaU zaz zaR zbn iv7 hv7 zcP zaw kv7 zbb zaG zce zgS zfT zvl zcQ zi4 zcf zgT hs hk
      subst zgS
      subst zvl
      subst zi4
      subst zgT
      refine hexit zaU zaz zaR zbn iv7 hv7 zcP zaw kv7 zbb zaG ?_
      have hs:zr5 P5 P6 w zav zaU zaz zaR zbn iv7 hv7 zcP zaw kv7 zbb zaG=true:=hs
      have hk:K (e89 (zr4 S5 S6 w zav zaU zaz zaR zbn iv7 hv7 zcP zaw kv7 zbb zaG)):=hk
      unfold zr5 at hs
      unfold zr4 at hk
      exact (hX6 zaU zaz zaR zbn iv7 hv7 zcP zaw (w64 (kv7 - (1:Int))) zbb zaG (λ i=>zai (zaR.get i)) rfl (λ i=>zac (hv7.get i)) rfl (λ i=>zaI (zbb.get i)) rfl (λ i=>zai (zaG.get i)) rfl hs hk)
    | cons y7 l ih =>
      intro zaU zaz zaR zbn iv7 hv7 zcP zaw kv7 zbb zaG zce zgS zfT zvl zcQ zi4 zcf zgT hs hk
      subst zgS
      subst zvl
      subst zi4
      subst zgT
      refine hstep y7 _ zaU zaz zaR zbn iv7 hv7 zcP zaw kv7 zbb zaG ?_
      have hs:zr7 P5 P6 w zav y7 (zlM P5 P6 w zav l) zaU zaz zaR zbn iv7 hv7 zcP zaw kv7 zbb zaG=true:=hs
      have hk:K (e89 (zr6 S5 S6 w zav y7 (zlL S5 S6 w zav l) zaU zaz zaR zbn iv7 hv7 zcP zaw kv7 zbb zaG)):=hk
      unfold zr7 at hs
      unfold zr6 at hk
      generalize zlL S5 S6 w zav l=S7 at hk ih
      generalize zlM P5 P6 w zav l=P7 at hs ih
      have hX7:=ih
      exact (za2 (K := λ r => K (e89 r))
 (λ hs hk => (za2 (K := λ r => K (e89 r))
 (λ hs hk => (zaX hs λ hc hs => ⟨hc, (zaX hs λ hc hs => ⟨hc, (za2 (K := λ r => K (e89 r))
 (λ hs hk => (zaX hs λ hc hs => ⟨hc, (zaX hs λ hc hs => ⟨hc, (za2 (K := λ r => K (e89 r))
 (λ hs hk=>(zaX hs λ hc hs=>⟨hc,(hX6 zaU zaz zaR zbn iv7 hv7 y7.to (w64 (zaw+y7.length)) (w64 (kv7 - (1:Int))) zbb (⟨(zaG.len+1),(zf4 zaG.len zaG.get (λ _=>y7))⟩:Sl step) (λ i=>zai (zaR.get i)) rfl (λ i=>zac (hv7.get i)) rfl (λ i=>zaI (zbb.get i)) rfl (appG zaG.len (λ i=>zai (zaG.get i)) (λ _=>(zai y7))) (zjw (enc:=zai) (f:=zaG.get) (h:=(λ _=>y7)) rfl rfl) hs hk)⟩))
 (λ hs hk=>(hX7 zaU zaz zaR zbn iv7 hv7 zcP zaw kv7 zbb zaG (λ i=>zai (zaR.get i)) rfl (λ i=>zac (hv7.get i)) rfl (λ i=>zaI (zbb.get i)) rfl (λ i=>zai (zaG.get i)) rfl hs hk)) hs hk)⟩)⟩))
 (λ hs hk=>(hX7 zaU zaz zaR zbn iv7 hv7 zcP zaw kv7 zbb zaG (λ i=>zai (zaR.get i)) rfl (λ i=>zac (hv7.get i)) rfl (λ i=>zaI (zbb.get i)) rfl (λ i=>zai (zaG.get i)) rfl hs hk)) hs hk)⟩)⟩))
 (λ hs hk=>(hX7 zaU zaz zaR zbn iv7 hv7 zcP zaw kv7 zbb zaG (λ i=>zai (zaR.get i)) rfl (λ i=>zac (hv7.get i)) rfl (λ i=>zaI (zbb.get i)) rfl (λ i=>zai (zaG.get i)) rfl hs hk)) hs hk))
 (λ hs hk=>(hX7 zaU zaz zaR zbn iv7 hv7 zcP zaw kv7 zbb zaG (λ i=>zai (zaR.get i)) rfl (λ i=>zac (hv7.get i)) rfl (λ i=>zaI (zbb.get i)) rfl (λ i=>zai (zaG.get i)) rfl hs hk)) hs hk)
  exact key _ zaU zaz zaR zbn iv7 hv7 zcP zaw kv7 zbb zaG zce zgS zfT zvl zcQ zi4 zcf zgT hs hk
def zr9 (S5:Int->Bool->(Sl step)->Int->(Sl (Sl Tab))->(Sl step)) (w:web) (zav:(Sl (Sl Tab))) (S6:Int->Bool->(Sl step)->Int->Int->(Sl Tab)->Int->Int->Int->(Sl (Sl Tab))->(Sl step)->(Sl step)) (zbe:Int) (zaF:Bool) (zaY:(Sl step)) (zb3:Int) (iv6:Int) (hv6:(Sl Tab)) (zeo:Int) (zaT:Int) (kv6:Int) (zbU:(Sl (Sl Tab))) (za1:(Sl step)):(Sl step) :=
  (cond (decide (kv6 ≥ (0:Int)))
 (zx2 S5 S6 w zav zbe zaF zaY zb3 iv6 hv6 zeo zaT kv6 zbU za1)
 (cond zaF
 (zoi S5 w zav zbe zaF zaY zb3 true zbU za1)
 (zoi S5 w zav zbe zaF zaY zb3 (decide ((zHr za1 zaY) < (0:Int))) zbU za1)))
def zsa (P5:Int->Bool->(Sl step)->Int->(Sl (Sl Tab))->Bool) (w:web) (zav:(Sl (Sl Tab))) (P6:Int->Bool->(Sl step)->Int->Int->(Sl Tab)->Int->Int->Int->(Sl (Sl Tab))->(Sl step)->Bool) (zbe:Int) (zaF:Bool) (zaY:(Sl step)) (zb3:Int) (iv6:Int) (hv6:(Sl Tab)) (zeo:Int) (zaT:Int) (kv6:Int) (zbU:(Sl (Sl Tab))) (za1:(Sl step)):Bool :=
  (cond (decide (kv6 ≥ (0:Int)))
 (zr8 P5 P6 w zav zbe zaF zaY zb3 iv6 hv6 zeo zaT kv6 zbU za1)
 (decide ((zaF=true∨zaY.len ≠ 0)) &&
 (cond zaF
 (zoj P5 w zav zbe zaF zaY zb3 true zbU za1)
 (decide ((zKJ za1 zaY=true)) &&
 (zoj P5 w zav zbe zaF zaY zb3 (decide ((zHr za1 zaY) < (0:Int))) zbU za1)))))
def zlN (S5 : Int -> Bool -> (Sl step) -> Int -> (Sl (Sl Tab)) -> (Sl step)) (w : web) (zav : (Sl (Sl Tab))) : Nat -> Int -> Bool -> (Sl step) -> Int -> Int -> (Sl Tab) -> Int -> Int -> Int -> (Sl (Sl Tab)) -> (Sl step) -> (Sl step)
  | 0=>λ _ _ _ _ _ _ _ _ _ _ _=>default
  | k+1=>zr9 S5 w zav (zlN S5 w zav k)
def zlO (P5 : Int -> Bool -> (Sl step) -> Int -> (Sl (Sl Tab)) -> Bool) (w : web) (zav : (Sl (Sl Tab))) : Nat -> Int -> Bool -> (Sl step) -> Int -> Int -> (Sl Tab) -> Int -> Int -> Int -> (Sl (Sl Tab)) -> (Sl step) -> Bool
  | 0=>λ _ _ _ _ _ _ _ _ _ _ _=>false
  | k+1=>zsa P5 w zav (zlO P5 w zav k)
def zx3 (S5:Int->Bool->(Sl step)->Int->(Sl (Sl Tab))->(Sl step)) (w:web) (zav:(Sl (Sl Tab))) (zbe:Int) (zaF:Bool) (zaY:(Sl step)) (zb3:Int) (iv6:Int) (hv6:(Sl Tab)) (zeo:Int) (zaT:Int) (kv6:Int) (zbU:(Sl (Sl Tab))) (za1:(Sl step)):(Sl step):=zlN S5 w zav Fuel zbe zaF zaY zb3 iv6 hv6 zeo zaT kv6 zbU za1
def zx4 (P5:Int->Bool->(Sl step)->Int->(Sl (Sl Tab))->Bool) (w:web) (zav:(Sl (Sl Tab))) (zbe:Int) (zaF:Bool) (zaY:(Sl step)) (zb3:Int) (iv6:Int) (hv6:(Sl Tab)) (zeo:Int) (zaT:Int) (kv6:Int) (zbU:(Sl (Sl Tab))) (za1:(Sl step)):Bool:=zlO P5 w zav Fuel zbe zaF zaY zb3 iv6 hv6 zeo zaT kv6 zbU za1
theorem zFn (K : List PA -> Prop) (w : web) (zav : (Sl (Sl Tab)))
  (X5:St->Prop) (P5:Int->Bool->(Sl step)->Int->(Sl (Sl Tab))->Bool) (S5:Int->Bool->(Sl step)->Int->(Sl (Sl Tab))->(Sl step))
  (hX5:∀ (zaW:Int) (zaH:Bool) (za0:(Sl step)) (za3:Int) (zbo:(Sl (Sl Tab))) (zbx:Nat->List PV) (zeP:zbx=λ i=>zai (za0.get i)) (zbY:Nat->List PV) (zgn:zbY=λ i=>zaI (zbo.get i)),P5 zaW zaH za0 za3 zbo=true->K (e89 (S5 zaW zaH za0 za3 zbo))->X5 (zfI w zav zaW zaH za0.len zbx za3 zbo.len zbY)) (zbe:Int) (zaF:Bool) (zaY:(Sl step)) (zb3:Int) (iv6:Int) (hv6:(Sl Tab)) (zeo:Int) (zaT:Int) (kv6:Int) (zbU:(Sl (Sl Tab))) (za1:(Sl step)) (zb2:Nat->List PV) (zgQ:zb2=λ i=>zai (zaY.get i)) (zeW:Nat->List PV) (zvk:zeW=λ i=>zac (hv6.get i)) (zcr:Nat->List PV) (zi3:zcr=λ i=>zaI (zbU.get i)) (zb4:Nat->List PV) (zgR:zb4=λ i=>zai (za1.get i)) (hs:zx4 P5 w zav zbe zaF zaY zb3 iv6 hv6 zeo zaT kv6 zbU za1=true) (hk:K (e89 (zx3 S5 w zav zbe zaF zaY zb3 iv6 hv6 zeo zaT kv6 zbU za1))):zlI K X5 w zav zbe zaF zaY.len zb2 zb3 iv6 hv6.len zeW zeo zaT kv6 zbU.len zcr za1.len zb4:=by
  refine zxZ K X5 w zav zbe zaF zaY.len zb2 zb3 iv6 hv6.len zeW zeo zaT kv6 zbU.len zcr za1.len zb4 ?_
  intro X6 hstep
  have key:∀ (k:Nat) (zbe:Int) (zaF:Bool) (zaY:(Sl step)) (zb3:Int) (iv6:Int) (hv6:(Sl Tab)) (zeo:Int) (zaT:Int) (kv6:Int) (zbU:(Sl (Sl Tab))) (za1:(Sl step)) (zb2:Nat->List PV) (zgQ:zb2=λ i=>zai (zaY.get i)) (zeW:Nat->List PV) (zvk:zeW=λ i=>zac (hv6.get i)) (zcr:Nat->List PV) (zi3:zcr=λ i=>zaI (zbU.get i)) (zb4:Nat->List PV) (zgR:zb4=λ i=>zai (za1.get i)),zlO P5 w zav k zbe zaF zaY zb3 iv6 hv6 zeo zaT kv6 zbU za1=true->K (e89 (zlN S5 w zav k zbe zaF zaY zb3 iv6 hv6 zeo zaT kv6 zbU za1))->X6 (zij w zav zbe zaF zaY.len zb2 zb3 iv6 hv6.len zeW zeo zaT kv6 zbU.len zcr za1.len zb4):=by
    intro k
    induction k with
    | zero=>intro zbe zaF zaY zb3 iv6 hv6 zeo zaT kv6 zbU za1 zb2 zgQ zeW zvk zcr zi3 zb4 zgR hs;exact absurd hs Bool.false_ne_true
    | succ k ih =>
      intro zbe zaF zaY zb3 iv6 hv6 zeo zaT kv6 zbU za1 zb2 zgQ zeW zvk zcr zi3 zb4 zgR hs hk
      subst zgQ
      subst zvk
      subst zi3
      subst zgR
      refine hstep zbe zaF zaY zb3 iv6 hv6 zeo zaT kv6 zbU za1 ?_
      have hs:zsa P5 w zav (zlO P5 w zav k) zbe zaF zaY zb3 iv6 hv6 zeo zaT kv6 zbU za1=true:=hs
      have hk:K (e89 (zr9 S5 w zav (zlN S5 w zav k) zbe zaF zaY zb3 iv6 hv6 zeo zaT kv6 zbU za1)):=hk
      unfold zsa at hs
      unfold zr9 at hk
      generalize zlN S5 w zav k=S6 at hk ih
      generalize zlO P5 w zav k=P6 at hs ih
      have hX6:=ih
      exact (za2 (K := λ r => K (e89 r))
 (λ hs hk=>⟨⟨isE,rfl⟩,(zFm K w zav X5 P5 S5 hX5 X6 P6 S6 hX6 zbe zaF zaY zb3 iv6 hv6 zeo zaT kv6 zbU za1 (λ i=>zai (zaY.get i)) rfl (λ i=>zac (hv6.get i)) rfl (λ i=>zaI (zbU.get i)) rfl (λ i=>zai (za1.get i)) rfl hs hk)⟩)
 (λ hs hk => (zaX hs λ hc hs => ⟨hc, (za2 (K := λ r => K (e89 r))
 (λ hs hk=>(zx1 K w zav X5 P5 S5 hX5 zbe zaF zaY zb3 true zbU za1 (λ i=>zai (zaY.get i)) rfl (λ i=>zaI (zbU.get i)) rfl (λ i=>zai (za1.get i)) rfl hs hk))
 (λ hs hk=>(zaX hs λ hc hs=>⟨⟨isE,isE,hc⟩,(zx1 K w zav X5 P5 S5 hX5 zbe zaF zaY zb3 (decide ((zHr za1 zaY) < (0:Int))) zbU za1 (λ i=>zai (zaY.get i)) rfl (λ i=>zaI (zbU.get i)) rfl (λ i=>zai (za1.get i)) rfl hs hk)⟩)) hs hk)⟩)) hs hk)
  exact key _ zbe zaF zaY zb3 iv6 hv6 zeo zaT kv6 zbU za1 zb2 zgQ zeW zvk zcr zi3 zb4 zgR hs hk
def zsb (w:web) (zav:(Sl (Sl Tab))) (S5:Int->Bool->(Sl step)->Int->(Sl (Sl Tab))->(Sl step)) (zaW:Int) (zaH:Bool) (za0:(Sl step)) (za3:Int) (zbo:(Sl (Sl Tab))):(Sl step) :=
  (cond (decide (za3 < (zav.len : Int)))
 (cond (decide ((tL ((zbo.get za3.toNat).get zaW.toNat) za3) ≥ (0:Int)))
 (S5 zaW zaH za0 (w64 (za3+(1:Int))) zbo)
 (zx3 S5 w zav zaW zaH za0 za3 za3 (zbo.get za3.toNat) za3 (0:Int) (w64 (zaW - (1:Int))) zbo (⟨0,(λ _=>default)⟩:Sl step)))
 za0)
def zsc (w:web) (zav:(Sl (Sl Tab))) (P5:Int->Bool->(Sl step)->Int->(Sl (Sl Tab))->Bool) (zaW:Int) (zaH:Bool) (za0:(Sl step)) (za3:Int) (zbo:(Sl (Sl Tab))):Bool :=
  (cond (decide (za3 < (zav.len : Int)))
 (decide ((0≤za3/\za3 < (zbo.len:Int))) &&
 (decide ((za3.toNat < zbo.len)) &&
 (decide ((0≤zaW/\zaW < ((zbo.get za3.toNat).len:Int))) &&
 (decide ((0≤za3/\za3 < (40:Int))) &&
 (cond (decide ((tL ((zbo.get za3.toNat).get zaW.toNat) za3) ≥ (0:Int)))
 (P5 zaW zaH za0 (w64 (za3+(1:Int))) zbo)
 (zx4 P5 w zav zaW zaH za0 za3 za3 (zbo.get za3.toNat) za3 (0:Int) (w64 (zaW - (1:Int))) zbo (⟨0,(λ _=>default)⟩:Sl step)))))))
 true)
def zlP (w : web) (zav : (Sl (Sl Tab))) : Nat -> Int -> Bool -> (Sl step) -> Int -> (Sl (Sl Tab)) -> (Sl step)
  | 0=>λ _ _ _ _ _=>default
  | k+1=>zsb w zav (zlP w zav k)
def zlQ (w : web) (zav : (Sl (Sl Tab))) : Nat -> Int -> Bool -> (Sl step) -> Int -> (Sl (Sl Tab)) -> Bool
  | 0=>λ _ _ _ _ _=>false
  | k+1=>zsc w zav (zlQ w zav k)
def zx5 (w:web) (zav:(Sl (Sl Tab))) (zaW:Int) (zaH:Bool) (za0:(Sl step)) (za3:Int) (zbo:(Sl (Sl Tab))):(Sl step):=zlP w zav Fuel zaW zaH za0 za3 zbo
def zx6 (w:web) (zav:(Sl (Sl Tab))) (zaW:Int) (zaH:Bool) (za0:(Sl step)) (za3:Int) (zbo:(Sl (Sl Tab))):Bool:=zlQ w zav Fuel zaW zaH za0 za3 zbo
theorem zFo (K:List PA->Prop) (w:web) (zav:(Sl (Sl Tab))) (zaW:Int) (zaH:Bool) (za0:(Sl step)) (za3:Int) (zbo:(Sl (Sl Tab))) (zbx:Nat->List PV) (zeP:zbx=λ i=>zai (za0.get i)) (zbY:Nat->List PV) (zgn:zbY=λ i=>zaI (zbo.get i)) (hs:zx6 w zav zaW zaH za0 za3 zbo=true) (hk:K (e89 (zx5 w zav zaW zaH za0 za3 zbo))):zlH K w zav zaW zaH za0.len zbx za3 zbo.len zbY:=by
  refine zxY K w zav zaW zaH za0.len zbx za3 zbo.len zbY ?_
  intro X5 hstep
  have key:∀ (k:Nat) (zaW:Int) (zaH:Bool) (za0:(Sl step)) (za3:Int) (zbo:(Sl (Sl Tab))) (zbx:Nat->List PV) (zeP:zbx=λ i=>zai (za0.get i)) (zbY:Nat->List PV) (zgn:zbY=λ i=>zaI (zbo.get i)),zlQ w zav k zaW zaH za0 za3 zbo=true->K (e89 (zlP w zav k zaW zaH za0 za3 zbo))->X5 (zfI w zav zaW zaH za0.len zbx za3 zbo.len zbY):=by
    intro k
    induction k with
    | zero=>intro zaW zaH za0 za3 zbo zbx zeP zbY zgn hs;exact absurd hs Bool.false_ne_true
    | succ k ih =>
      intro zaW zaH za0 za3 zbo zbx zeP zbY zgn hs hk
      subst zeP
      subst zgn
      refine hstep zaW zaH za0 za3 zbo ?_
      have hs:zsc w zav (zlQ w zav k) zaW zaH za0 za3 zbo=true:=hs
      have hk:K (e89 (zsb w zav (zlP w zav k) zaW zaH za0 za3 zbo)):=hk
      unfold zsc at hs
      unfold zsb at hk
      generalize zlP w zav k=S5 at hk ih
      generalize zlQ w zav k=P5 at hs ih
      have hX5:=ih
      exact (za2 (K := λ r => K (e89 r))
 (λ hs hk => (zaX hs λ hc hs => ⟨hc, (zaX hs λ hc hs => ⟨hc, (zaX hs λ hc hs => ⟨hc, (zaX hs λ hc hs => ⟨hc, (za2 (K := λ r => K (e89 r))
 (λ hs hk=>(hX5 zaW zaH za0 (w64 (za3+(1:Int))) zbo (λ i=>zai (za0.get i)) rfl (λ i=>zaI (zbo.get i)) rfl hs hk))
 (λ hs hk=>(zFn K w zav X5 P5 S5 hX5 zaW zaH za0 za3 za3 (zbo.get za3.toNat) za3 (0:Int) (w64 (zaW - (1:Int))) zbo (⟨0,(λ _=>default)⟩:Sl step) (λ i=>zai (za0.get i)) rfl (λ i=>zac ((zbo.get za3.toNat).get i)) rfl (λ i=>zaI (zbo.get i)) rfl (λ i=>zai ((λ _=>default) i)) rfl hs hk)) hs hk)⟩)⟩)⟩)⟩))
 (λ hs hk=>hk) hs hk)
  exact key _ zaW zaH za0 za3 zbo zbx zeP zbY zgn hs hk
def zok (w:web) (zdP:Int) (zav:(Sl (Sl Tab))):(Sl step) :=
  (zx5 w zav zdP true (⟨0,(λ _=>default)⟩:Sl step) (0:Int) zav)
def zol (w:web) (zdP:Int) (zav:(Sl (Sl Tab))):Bool :=
  (zx6 w zav zdP true (⟨0,(λ _=>default)⟩:Sl step) (0:Int) zav)
theorem zx7 (K:List PA->Prop) (w:web) (zdP:Int) (zav:(Sl (Sl Tab))) (zi1:Nat->List PV) (zFp:zi1=λ i=>zaI (zav.get i)) (hs:zol w zdP zav=true) (hk:K (e89 (zok w zdP zav))):zlG K w zdP zav.len zi1:=by
  subst zFp
  refine zbk (zFj K w zdP zav) ?_
  unfold zol at hs
  unfold zok at hk
  exact (zFo K w zav zdP true (⟨0,(λ _=>default)⟩:Sl step) (0:Int) zav (λ i=>zai ((λ _=>default) i)) rfl (λ i=>zaI (zav.get i)) rfl hs hk)
def zsd (S2:Int->(Sl step)) (w:web) (zaP:(Sl (Sl Tab))) (S3:Int->Int->(Sl step)) (zba:Int) (zbJ:Int):(Sl step) :=
  (cond (decide (zbJ < (zaP.len : Int)))
 (cond (decide ((tL ((zaP.get zbJ.toNat).get zba.toNat) zbJ) < (0:Int)))
 (zok w zba zaP)
 (S3 zba (w64 (zbJ+(1:Int)))))
 (S2 (w64 (zba+(1:Int)))))
def zse (P2:Int->Bool) (w:web) (zaP:(Sl (Sl Tab))) (P3:Int->Int->Bool) (zba:Int) (zbJ:Int):Bool :=
  (cond (decide (zbJ < (zaP.len : Int)))
 (decide ((0≤zbJ/\zbJ < (zaP.len:Int))) &&
 (decide ((zbJ.toNat < zaP.len)) &&
 (decide ((0≤zba/\zba < ((zaP.get zbJ.toNat).len:Int))) &&
 (decide ((0≤zbJ/\zbJ < (40:Int))) &&
 (cond (decide ((tL ((zaP.get zbJ.toNat).get zba.toNat) zbJ) < (0:Int)))
 (zol w zba zaP)
 (P3 zba (w64 (zbJ+(1:Int)))))))))
 (P2 (w64 (zba+(1:Int)))))
def zlR (S2 : Int -> (Sl step)) (w : web) (zaP : (Sl (Sl Tab))) : Nat -> Int -> Int -> (Sl step)
  | 0=>λ _ _=>default
  | k+1=>zsd S2 w zaP (zlR S2 w zaP k)
def zlS (P2 : Int -> Bool) (w : web) (zaP : (Sl (Sl Tab))) : Nat -> Int -> Int -> Bool
  | 0=>λ _ _=>false
  | k+1=>zse P2 w zaP (zlS P2 w zaP k)
def zx8 (S2:Int->(Sl step)) (w:web) (zaP:(Sl (Sl Tab))) (zba:Int) (zbJ:Int):(Sl step):=zlR S2 w zaP Fuel zba zbJ
def zx9 (P2:Int->Bool) (w:web) (zaP:(Sl (Sl Tab))) (zba:Int) (zbJ:Int):Bool:=zlS P2 w zaP Fuel zba zbJ
theorem zFq (K : List PA -> Prop) (w : web) (zaP : (Sl (Sl Tab)))
  (X2:St->Prop) (P2:Int->Bool) (S2:Int->(Sl step))
  (hX2:∀ (zbg:Int),P2 zbg=true->K (e89 (S2 zbg))->X2 (zjH w zaP zbg)) (zba:Int) (zbJ:Int) (hs:zx9 P2 w zaP zba zbJ=true) (hk:K (e89 (zx8 S2 w zaP zba zbJ))):zlF K X2 w zaP zba zbJ:=by
  refine zxX K X2 w zaP zba zbJ ?_
  intro X3 hstep
  have key:∀ (k:Nat) (zba:Int) (zbJ:Int),zlS P2 w zaP k zba zbJ=true->K (e89 (zlR S2 w zaP k zba zbJ))->X3 (zlE w zaP zba zbJ):=by
    intro k
    induction k with
    | zero=>intro zba zbJ hs;exact absurd hs Bool.false_ne_true
    | succ k ih =>
      intro zba zbJ hs hk
      refine hstep zba zbJ ?_
      have hs:zse P2 w zaP (zlS P2 w zaP k) zba zbJ=true:=hs
      have hk:K (e89 (zsd S2 w zaP (zlR S2 w zaP k) zba zbJ)):=hk
      unfold zse at hs
      unfold zsd at hk
      generalize zlR S2 w zaP k=S3 at hk ih
      generalize zlS P2 w zaP k=P3 at hs ih
      have hX3:=ih
      exact (za2 (K := λ r => K (e89 r))
 (λ hs hk => (zaX hs λ hc hs => ⟨hc, (zaX hs λ hc hs => ⟨hc, (zaX hs λ hc hs => ⟨hc, (zaX hs λ hc hs => ⟨hc, (za2 (K := λ r => K (e89 r))
 (λ hs hk=>(zx7 K w zba zaP (λ i=>zaI (zaP.get i)) rfl hs hk))
 (λ hs hk=>(hX3 zba (w64 (zbJ+(1:Int))) hs hk)) hs hk)⟩)⟩)⟩)⟩))
 (λ hs hk=>(hX2 (w64 (zba+(1:Int))) hs hk)) hs hk)
  exact key _ zba zbJ hs hk
def zsf (w:web) (zaP:(Sl (Sl Tab))) (S2:Int->(Sl step)) (zbg:Int):(Sl step) :=
  (cond (decide (zbg < w.Net.Nodes))
 (zx8 S2 w zaP zbg (0:Int))
 (zok w zbg zaP))
def zsg (w:web) (zaP:(Sl (Sl Tab))) (P2:Int->Bool) (zbg:Int):Bool :=
  (cond (decide (zbg < w.Net.Nodes))
 (zx9 P2 w zaP zbg (0:Int))
 (zol w zbg zaP))
def zlT (w : web) (zaP : (Sl (Sl Tab))) : Nat -> Int -> (Sl step)
  | 0=>λ _=>default
  | k+1=>zsf w zaP (zlT w zaP k)
def zlU (w : web) (zaP : (Sl (Sl Tab))) : Nat -> Int -> Bool
  | 0=>λ _=>false
  | k+1=>zsg w zaP (zlU w zaP k)
def zya (w:web) (zaP:(Sl (Sl Tab))) (zbg:Int):(Sl step):=zlT w zaP Fuel zbg
def zyb (w:web) (zaP:(Sl (Sl Tab))) (zbg:Int):Bool:=zlU w zaP Fuel zbg
theorem zFr (K:List PA->Prop) (w:web) (zaP:(Sl (Sl Tab))) (zbg:Int) (hs:zyb w zaP zbg=true) (hk:K (e89 (zya w zaP zbg))):zlD K w zaP zbg:=by
  refine zxW K w zaP zbg ?_
  intro X2 hstep
  have key:∀ (k:Nat) (zbg:Int),zlU w zaP k zbg=true->K (e89 (zlT w zaP k zbg))->X2 (zjH w zaP zbg):=by
    intro k
    induction k with
    | zero=>intro zbg hs;exact absurd hs Bool.false_ne_true
    | succ k ih =>
      intro zbg hs hk
      refine hstep zbg ?_
      have hs:zsg w zaP (zlU w zaP k) zbg=true:=hs
      have hk:K (e89 (zsf w zaP (zlT w zaP k) zbg)):=hk
      unfold zsg at hs
      unfold zsf at hk
      generalize zlT w zaP k=S2 at hk ih
      generalize zlU w zaP k=P2 at hs ih
      have hX2:=ih
      exact (za2 (K := λ r => K (e89 r))
 (λ hs hk=>(zFq K w zaP X2 P2 S2 hX2 zbg (0:Int) hs hk))
 (λ hs hk=>(zx7 K w zbg zaP (λ i=>zaI (zaP.get i)) rfl hs hk)) hs hk)
  exact key _ zbg hs hk
def zsh (w:web) (zaP:(Sl (Sl Tab))):(Sl step) :=
  (zya w zaP (1:Int))
def zsi (w:web) (zaP:(Sl (Sl Tab))):Bool :=
  (zyb w zaP (1:Int))
theorem zFs (K:List PA->Prop) (w:web) (zaP:(Sl (Sl Tab))) (zi0:Nat->List PV) (zFt:zi0=λ i=>zaI (zaP.get i)) (hs:zsi w zaP=true) (hk:K (e89 (zsh w zaP))):zof K w zaP.len zi0:=by
  subst zFt
  refine zbk (zFi K w zaP) ?_
  unfold zsi at hs
  unfold zsh at hk
  exact (zFr K w zaP (1:Int) hs hk)
def zsj (w:web) (S0:Int->(Sl (Sl Tab))->(Sl step)) (zbB:Int) (zb8:(Sl (Sl Tab))):(Sl step) :=
  (cond (decide (zbB < (w.Net.Nodes.toNat : Int)))
 (S0 (w64 (zbB+(1:Int))) (⟨zb8.len,(setT zbB.toNat (zxF w zbB w.Net.Nodes) zb8.get)⟩:Sl (Sl Tab)))
 (zsh w zb8))
def zsk (w:web) (P0:Int->(Sl (Sl Tab))->Bool) (zbB:Int) (zb8:(Sl (Sl Tab))):Bool :=
  (cond (decide (zbB < (w.Net.Nodes.toNat : Int)))
 (decide ((zIF w zbB w.Net.Nodes=true)) &&
 (decide ((0≤zbB/\zbB < (zb8.len:Int))) &&
 (decide ((zbB.toNat < zb8.len)) &&
 (P0 (w64 (zbB+(1:Int))) (⟨zb8.len,(setT zbB.toNat (zxF w zbB w.Net.Nodes) zb8.get)⟩:Sl (Sl Tab))))))
 (zsi w zb8))
def zlV (w : web) : Nat -> Int -> (Sl (Sl Tab)) -> (Sl step)
  | 0=>λ _ _=>default
  | k+1=>zsj w (zlV w k)
def zlW (w : web) : Nat -> Int -> (Sl (Sl Tab)) -> Bool
  | 0=>λ _ _=>false
  | k+1=>zsk w (zlW w k)
def zyc (w:web) (zbB:Int) (zb8:(Sl (Sl Tab))):(Sl step):=zlV w Fuel zbB zb8
def zyd (w:web) (zbB:Int) (zb8:(Sl (Sl Tab))):Bool:=zlW w Fuel zbB zb8
theorem zFu (K:List PA->Prop) (w:web) (zbB:Int) (zb8:(Sl (Sl Tab))) (zcO:Nat->List PV) (zlX:zcO=λ i=>zaI (zb8.get i)) (hs:zyd w zbB zb8=true) (hk:K (e89 (zyc w zbB zb8))):zlC K w zbB zb8.len zcO:=by
  refine zxV K w zbB zb8.len zcO ?_
  intro X0 hstep
  have key:∀ (k:Nat) (zbB:Int) (zb8:(Sl (Sl Tab))) (zcO:Nat->List PV) (zlX:zcO=λ i=>zaI (zb8.get i)),zlW w k zbB zb8=true->K (e89 (zlV w k zbB zb8))->X0 (zlB w zbB zb8.len zcO):=by
    intro k
    induction k with
    | zero=>intro zbB zb8 zcO zlX hs;exact absurd hs Bool.false_ne_true
    | succ k ih =>
      intro zbB zb8 zcO zlX hs hk
      subst zlX
      refine hstep zbB zb8 ?_
      have hs:zsk w (zlW w k) zbB zb8=true:=hs
      have hk:K (e89 (zsj w (zlV w k) zbB zb8)):=hk
      unfold zsk at hs
      unfold zsj at hk
      generalize zlV w k=S0 at hk ih
      generalize zlW w k=P0 at hs ih
      have hX0:=ih
      exact (za2 (K := λ r => K (e89 r))
 (λ hs hk=>(zaX hs λ hc hs=>⟨⟨isE,rfl,hc⟩,(zaX hs λ hc hs=>⟨hc,(zaX hs λ hc hs=>⟨hc,(hX0 (w64 (zbB+(1:Int))) (⟨zb8.len,(setT zbB.toNat (zxF w zbB w.Net.Nodes) zb8.get)⟩:Sl (Sl Tab)) (zjP zbB.toNat 0 (λ i=>zaI (zb8.get i)) (zaI (zxF w zbB w.Net.Nodes))) (zfH (enc:=zaI) (i:=zbB.toNat) (k:=0) (f:=zb8.get) (new:=(zaI (zxF w zbB w.Net.Nodes))) (v:=(zxF w zbB w.Net.Nodes)) rfl rfl) hs hk)⟩)⟩)⟩))
 (λ hs hk=>(zFs K w zb8 (λ i=>zaI (zb8.get i)) rfl hs hk)) hs hk)
  exact key _ zbB zb8 zcO zlX hs hk
def s89 (w:web):(Sl step) :=
  (zyc w (0:Int) (⟨w.Net.Nodes.toNat,(λ _=>(⟨0,λ _=>(λ _=>(0:Int))⟩:(Sl Tab)))⟩:Sl (Sl Tab)))
def p89 (w:web):Bool :=
  (decide ((0≤w.Net.Nodes/\w.Net.Nodes=w.Net.Nodes/\w.Net.Nodes≤1000000)) &&
 (zyd w (0:Int) (⟨w.Net.Nodes.toNat,(λ _=>(⟨0,λ _=>(λ _=>(0:Int))⟩:(Sl Tab)))⟩:Sl (Sl Tab))))
theorem q89 (w:web) (K:List PA->Prop) (hs:p89 w=true) (hk:K (e89 (s89 w))):vcFun Tryd.prog G89 zaZ 89 [.one (.fp (zaD w) 0)] K:=by
  refine zbk (zFh w K) ?_
  unfold p89 at hs
  unfold s89 at hk
  exact (zaX hs λ hc hs=>⟨hc,(zFu K w (0:Int) (⟨w.Net.Nodes.toNat,(λ _=>(⟨0,λ _=>(λ _=>(0:Int))⟩:(Sl Tab)))⟩:Sl (Sl Tab)) (λ _=>(zaI (⟨0,λ _=>(λ _=>(0:Int))⟩:(Sl Tab)))) rfl hs hk)⟩)
def zB4 : List PA -> COut
  | [.one (.fp [.int .i64 zan,.sl zal zaE zam,.fm zbq zaL zaM] 0)]=>.det (IsE enc_40 4 zaE zam/\zbq=(false,1,false,[none])/\p89 (⟨(⟨zan,(⟨zal,zar zam⟩:(Sl Tie))⟩:Net),(⟨zaL,zaM⟩:Mp)⟩:web)=true) [.one (.sl ((s89 (⟨(⟨zan,(⟨zal,zar zam⟩:(Sl Tie))⟩:Net),(⟨zaL,zaM⟩:Mp)⟩:web)).len) 5 (λ i=>zai ((s89 (⟨(⟨zan,(⟨zal,zar zam⟩:(Sl Tie))⟩:Net),(⟨zaL,zaM⟩:Mp)⟩:web)).get i)))]
  | _=>.no
theorem zIS:zaA Tryd.prog 89:=⟨_,rfl,rfl,by kernel_rfl⟩
theorem zMH:Ok Tryd.prog 89 zB4:=zbH zLv zIS λ args K h=>by
  unfold zB4 at h
  split at h
  · rename_i zan zal zaE zam zbq zaL zaM
    obtain⟨⟨⟨rfl,zay,rfl⟩,rfl,hs⟩,hk⟩:=h
    try rw[zao zay] at hs
    try rw[zao zay] at hk
    exact⟨(λ _ _=>[]),(λ _=>false),zaZ,q89 (⟨(⟨zan,(⟨zal,zay⟩:(Sl Tie))⟩:Net),(⟨zaL,zaM⟩:Mp)⟩:web) K hs hk⟩
  · exact h.elim
end Go.Proofs
/-
  DERIVED: THE SHELF's CONTRACTS AT THIS DUMP,IN PLAIN WORDS (tools/lay-plain.mjs out of 'YtedhjaaikeakoaaDoorPmLk.lean',which tools/lay-shelf.mjs wrote): THE SAME DECLARATIONS UNDER THE SAME NAMES: 'import','namespace','open','def','theorem' AND NOTHING ELSE: no command of the shelf's: FOR A HAND-IN. Each laying: the table of numbers ('.._ren') and one theorem,a field a fact of the dump's own or the kernel's comparison;each contract: ONE APPLICATION.
-/
namespace Go.Proofs
open Go.Shelf
def Tryd.keysA_ren:Go.Shelf.Ren:=⟨fun | 7=>103 | 10=>117 | n=>n,fun | 23=>103 | 26=>3 | 3=>4 | 28=>152 | 0=>0 | 27=>151 | 33=>169 | 4=>4 | n=>n,fun | n=>n⟩
theorem Tryd.keysA : Go.Proofs.SlLaysZI.n7 Tryd.prog Tryd.keysA_ren := {
  mixed:=by kernel_rfl
  f7:=⟨Tryd.f103.name,by decide,Tryd.func103.trans (congrArg some (by kernel_rfl))⟩
  f10:=⟨Tryd.f117.name,by decide,Tryd.func117.trans (congrArg some (by kernel_rfl))⟩
  t0:=Tryd.underlying0
  a0:=Tryd.isAgg0
  z0:=Tryd.sizeOf0
  v0:=Tryd.zeroValue0
  t4:=Tryd.underlying4
  a4:=Tryd.isAgg4
  z4:=Tryd.sizeOf4
  v4:=Tryd.zeroValue4
  t23:=Tryd.underlying103
  a23:=Tryd.isAgg103
  z23:=Tryd.sizeOf103
  v23:=Tryd.zeroValue103
  t26:=Tryd.underlying3
  a26:=Tryd.isAgg3
  z26:=Tryd.sizeOf3
  v26:=Tryd.zeroValue3
  t27:=Tryd.underlying151
  a27:=Tryd.isAgg151
  z27:=Tryd.sizeOf151
  v27:=Tryd.zeroValue151
  t28:=Tryd.underlying152
  a28:=Tryd.isAgg152
  z28:=Tryd.sizeOf152
  v28:=Tryd.zeroValue152
  t33:=Tryd.underlying169
  a33:=Tryd.isAgg169
  z33:=Tryd.sizeOf169
  v33:=Tryd.zeroValue169 }
def Tryd.sortedA_ren:Go.Shelf.Ren:=⟨fun | 6=>102 | 8=>115 | 9=>116 | 11=>129 | 13=>113 | 12=>130 | 23=>127 | 24=>128 | 14=>136 | 15=>137 | 16=>138 | 17=>139 | 18=>140 | 19=>141 | 20=>142 | 21=>143 | 22=>144 | 25=>146 | 26=>132 | 27=>133 | 28=>147 | 29=>148 | 30=>114 | 31=>149 | n=>n,fun | 26=>3 | 28=>152 | 24=>27 | 0=>0 | 3=>3 | 37=>168 | 48=>182 | 50=>184 | 4=>4 | 40=>175 | 39=>174 | 45=>179 | 5=>5 | 9=>9 | 51=>187 | 55=>191 | 57=>199 | 58=>200 | 33=>169 | n=>n,fun | n=>n⟩
theorem Tryd.sortedA : Go.Proofs.SlLaysZI.n6 Tryd.prog Tryd.sortedA_ren := {
  mixed:=by kernel_rfl
  f6:=⟨Tryd.f102.name,by decide,Tryd.func102.trans (congrArg some (by kernel_rfl))⟩
  f8:=⟨Tryd.f115.name,by decide,Tryd.func115.trans (congrArg some (by kernel_rfl))⟩
  f11:=⟨Tryd.f129.name,by decide,Tryd.func129.trans (congrArg some (by kernel_rfl))⟩
  t0:=Tryd.underlying0
  a0:=Tryd.isAgg0
  z0:=Tryd.sizeOf0
  v0:=Tryd.zeroValue0
  t24:=Tryd.underlying27
  a24:=Tryd.isAgg27
  z24:=Tryd.sizeOf27
  v24:=Tryd.zeroValue27
  t26:=Tryd.underlying3
  a26:=Tryd.isAgg3
  z26:=Tryd.sizeOf3
  v26:=Tryd.zeroValue3
  t28:=Tryd.underlying152
  a28:=Tryd.isAgg152
  z28:=Tryd.sizeOf152
  v28:=Tryd.zeroValue152
  i26:=by kernel_rfl }
def Tryd.sortA_ren:Go.Shelf.Ren:=⟨fun | 5=>116 | 8=>113 | 7=>130 | 19=>127 | 20=>128 | 10=>136 | 11=>137 | 12=>138 | 13=>139 | 14=>140 | 15=>141 | 16=>142 | 17=>143 | 18=>144 | 30=>146 | 31=>132 | 32=>133 | 33=>147 | 34=>148 | 35=>114 | 40=>149 | n=>n,fun | 23=>27 | 25=>3 | 3=>3 | 32=>168 | 22=>27 | 0=>0 | 44=>182 | 46=>184 | 4=>4 | 36=>175 | 35=>174 | 41=>179 | 5=>5 | 9=>9 | 53=>187 | 57=>191 | 63=>199 | 64=>200 | n=>n,fun | n=>n⟩
theorem Tryd.sortA : Go.Proofs.SlLaysM.n5 Tryd.prog Tryd.sortA_ren := {
  mixed:=by kernel_rfl
  f5:=⟨Tryd.f116.name,by decide,Tryd.func116.trans (congrArg some (by kernel_rfl))⟩
  f7:=⟨Tryd.f130.name,by decide,Tryd.func130.trans (congrArg some (by kernel_rfl))⟩
  f8:=Tryd.func113.trans (congrArg some (by kernel_rfl))
  f10:=⟨Tryd.f136.name,by decide,Tryd.func136.trans (congrArg some (by kernel_rfl))⟩
  f11:=⟨Tryd.f137.name,by decide,Tryd.func137.trans (congrArg some (by kernel_rfl))⟩
  f12:=⟨Tryd.f138.name,by decide,Tryd.func138.trans (congrArg some (by kernel_rfl))⟩
  f13:=⟨Tryd.f139.name,by decide,Tryd.func139.trans (congrArg some (by kernel_rfl))⟩
  f14:=⟨Tryd.f140.name,by decide,Tryd.func140.trans (congrArg some (by kernel_rfl))⟩
  f15:=⟨Tryd.f141.name,by decide,Tryd.func141.trans (congrArg some (by kernel_rfl))⟩
  f16:=⟨Tryd.f142.name,by decide,Tryd.func142.trans (congrArg some (by kernel_rfl))⟩
  f17:=⟨Tryd.f143.name,by decide,Tryd.func143.trans (congrArg some (by kernel_rfl))⟩
  f18:=⟨Tryd.f144.name,by decide,Tryd.func144.trans (congrArg some (by kernel_rfl))⟩
  f19:=Tryd.func127.trans (congrArg some (by kernel_rfl))
  f20:=Tryd.func128.trans (congrArg some (by kernel_rfl))
  f30:=⟨Tryd.f146.name,by decide,Tryd.func146.trans (congrArg some (by kernel_rfl))⟩
  f31:=Tryd.func132.trans (congrArg some (by kernel_rfl))
  f32:=Tryd.func133.trans (congrArg some (by kernel_rfl))
  f33:=⟨Tryd.f147.name,by decide,Tryd.func147.trans (congrArg some (by kernel_rfl))⟩
  f34:=⟨Tryd.f148.name,by decide,Tryd.func148.trans (congrArg some (by kernel_rfl))⟩
  f35:=⟨Tryd.f114.name,by decide,Tryd.func114.trans (congrArg some (by kernel_rfl))⟩
  f40:=⟨Tryd.f149.name,by decide,Tryd.func149.trans (congrArg some (by kernel_rfl))⟩
  t0:=Tryd.underlying0
  a0:=Tryd.isAgg0
  z0:=Tryd.sizeOf0
  v0:=Tryd.zeroValue0
  t3:=Tryd.underlying3
  a3:=Tryd.isAgg3
  z3:=Tryd.sizeOf3
  v3:=Tryd.zeroValue3
  t4:=Tryd.underlying4
  a4:=Tryd.isAgg4
  z4:=Tryd.sizeOf4
  v4:=Tryd.zeroValue4
  t5:=Tryd.underlying5
  a5:=Tryd.isAgg5
  z5:=Tryd.sizeOf5
  v5:=Tryd.zeroValue5
  t9:=Tryd.underlying9
  a9:=Tryd.isAgg9
  z9:=Tryd.sizeOf9
  v9:=Tryd.zeroValue9
  t22:=Tryd.underlying27
  a22:=Tryd.isAgg27
  z22:=Tryd.sizeOf27
  v22:=Tryd.zeroValue27
  t23:=Tryd.underlying27
  a23:=Tryd.isAgg27
  z23:=Tryd.sizeOf27
  v23:=Tryd.zeroValue27
  t25:=Tryd.underlying3
  a25:=Tryd.isAgg3
  z25:=Tryd.sizeOf3
  v25:=Tryd.zeroValue3
  t32:=Tryd.underlying168
  a32:=Tryd.isAgg168
  z32:=Tryd.sizeOf168
  v32:=Tryd.zeroValue168
  t35:=Tryd.underlying174
  a35:=Tryd.isAgg174
  z35:=Tryd.sizeOf174
  v35:=Tryd.zeroValue174
  t36:=Tryd.underlying175
  a36:=Tryd.isAgg175
  z36:=Tryd.sizeOf175
  v36:=Tryd.zeroValue175
  t41:=Tryd.underlying179
  a41:=Tryd.isAgg179
  z41:=Tryd.sizeOf179
  v41:=Tryd.zeroValue179
  t44:=Tryd.underlying182
  a44:=Tryd.isAgg182
  z44:=Tryd.sizeOf182
  v44:=Tryd.zeroValue182
  t46:=Tryd.underlying184
  a46:=Tryd.isAgg184
  z46:=Tryd.sizeOf184
  v46:=Tryd.zeroValue184
  t53:=Tryd.underlying187
  a53:=Tryd.isAgg187
  z53:=Tryd.sizeOf187
  v53:=Tryd.zeroValue187
  t57:=Tryd.underlying191
  a57:=Tryd.isAgg191
  z57:=Tryd.sizeOf191
  v57:=Tryd.zeroValue191
  t63:=Tryd.underlying199
  a63:=Tryd.isAgg199
  z63:=Tryd.sizeOf199
  v63:=Tryd.zeroValue199
  t64:=Tryd.underlying200
  a64:=Tryd.isAgg200
  z64:=Tryd.sizeOf200
  v64:=Tryd.zeroValue200 }
end Go.Proofs
namespace Go.Pm
open Go.RowKit Go.Maps Go.Sort Go.Shelf Go.Proofs
set_option maxRecDepth 100000

theorem zlY {F : List Int -> Option (List Int)} : ∀ (f : Nat) (i : Int) (n : Nat) (l : List Int), zvs F f i n = some l -> l.length = n /\ (∀ x ∈ l, F [x] ≠ none /\ i ≤ x /\ x < i + f) /\ l.Pairwise (· < ·)
  | _,_,0,l,h=>by simp[zvs] at h;subst h;exact⟨rfl,λ x hx=>by simp at hx,List.Pairwise.nil⟩
  | 0,_,n+1,l,h=>by simp[zvs] at h
  | f+1,i,n+1,l,h=>by
    simp only[zvs] at h
    split at h
    · rename_i v hv
      split at h
      · rename_i r hr
        simp only[Option.some.injEq] at h;subst h
        obtain⟨h1,h2,h3⟩:=zlY f (i+1) n r hr
        refine⟨by simp[h1],λ x hx=>?_,List.pairwise_cons.2 ⟨λ x hx=>by have:=h2 x hx;omega,h3⟩⟩
        rcases List.mem_cons.1 hx with rfl | hx
        · exact⟨by rw[hv];simp,by omega,by omega⟩
        · have:=h2 x hx;exact⟨this.1,by omega,by omega⟩
      · cases h
    · obtain⟨h1, h2, h3⟩ := zlY f (i + 1) (n + 1) l h
      exact⟨h1,λ x hx=>by have:=h2 x hx;exact⟨this.1,by omega,by omega⟩,h3⟩
theorem zlZ {α : Type} [DecidableEq α] : ∀ {l m : List α}, l.Nodup -> (∀ x ∈ l, x ∈ m) -> m.length ≤ l.length -> l.Perm m
  | [],m,_,_,h=>by
    have:m=[]:=List.eq_nil_of_length_eq_zero (by simpa using h)
    subst this;exact .refl _
  | a :: l,m,hn,hs,h=>by
    obtain⟨h1,h2⟩:=List.nodup_cons.1 hn
    have ha:=hs a List.mem_cons_self
    have hp:=List.perm_cons_erase ha
    refine (List.Perm.cons a (zlZ h2 (λ x hx=>?_) ?_)).trans hp.symm
    · exact (List.mem_erase_of_ne (λ e=>h1 (by rw[← e];exact hx))).2 (hs x (List.mem_cons_of_mem _ hx))
    · have := hp.length_eq
      simp at this h
      omega

theorem zB5:zoK Tryd.prog 103 (.keys 117):=λ w mb=>by
 refine⟨⟨_,rfl,rfl,by kernel_rfl⟩,?_⟩
 have c:CallsIn Fence.wide 5 Tryd.prog 103 #[.map (some mb)] w λ e w'=>e=.returned (.func (.func 117) #[] #[.pointer (some ⟨w.heap.size,0,none⟩)])/\w'=w.alloc (.cells #[.map (some mb)] 103):=AnyZI.keys_in Tryd.keysA Fence.wide 5 trivial rfl (some mb) w
 refine ((callsIn_wide (n:=5)).1 c).mono ?_
 rintro e w' ⟨rfl,rfl⟩
 exact⟨rfl,_,rfl⟩
theorem sortsA (m:Nat):AnyZI.SortsIn Tryd.prog Tryd.sortedA_ren Fence.wide m :=
  ⟨λ blk off cap ss W hH hblk hsz=>callsIn_wide.2 (AnyM.slices_Sort_int Tryd.sortA blk off cap ss W hH hblk hsz),
   λ p cap W=>callsIn_wide.2 (AnyM.slices_Sort_int_none Tryd.sortA p cap W)⟩

def rdN:Value->Option (DataW Unit×List MemPlace):=λ _=>some (.nil,[])
theorem zvm:zoK Tryd.prog 102 (.sorted 117):=λ w h k mb C ty fr es clock vt q n F hw hk hC hb hE hm hn hky=>by
 refine⟨⟨_,rfl,rfl,by kernel_rfl⟩,?_⟩
 obtain⟨en,M⟩:=hm
 have E:=zg1 hE
 have hq1:q.1=false:=by
  have e:=E.kag
  rw[show zeZ Tryd.prog 3=some false by kernel_rfl] at e
  exact (Option.some.inj e).symm
 have hq2:q.2.1=1:=by
  have e:=E.key
  rw[show zdT Tryd.prog 8 3=some 1 by kernel_rfl] at e
  exact (Option.some.inj e).symm
 obtain⟨l,hl⟩:=Option.isSome_iff_exists.1 hky
 have hll:zvt F n=l:=by unfold zvt;rw[hl];rfl
 obtain⟨l1,l2,l3⟩:=zlY _ _ _ _ hl
 rw[hll]
 have one:∀ x∈en,x.1=[x.1.headD 0]:=λ x hx=>by
  have:=(M.len x hx).1
  rw[hq2] at this
  match x.1,this with
  | [a],_=>rfl
 have hkeys:es.toList.map (·.key)=(en.map λ x=>x.1.headD 0).map encZ:=by
  have:=congrArg (List.map Prod.fst) M.ents
  simp only[List.map_map] at this ⊢
  refine (show es.toList.map (·.key)=_ from this).trans (List.map_congr_left λ x hx=>?_)
  show zbQ q.1 x.1=encZ (x.1.headD 0)
  rw[hq1];rfl
 have hkn:(en.map λ x=>x.1.headD 0).Nodup:=by
  have:(en.map (·.1))=(en.map λ x=>x.1.headD 0).map λ a=>[a]:=by
   rw[List.map_map];exact List.map_congr_left λ x hx=>one x hx
  have hd:=M.nodup
  rw[this] at hd
  exact (List.pairwise_map.1 hd).imp λ h e=>h (by rw[e])
 have hperm:l.Perm (en.map λ x=>x.1.headD 0):=by
  refine zlZ (l3.imp λ h=>Int.ne_of_lt h) (λ x hx=>?_) (by rw[List.length_map,← M.size,l1];exact Nat.le_refl _)
  have h1:=(l2 x hx).1
  rw[M.find [x] (by rw[hq2];rfl)] at h1
  by_cases hex:∃ y∈en,y.1=[x]
  ·obtain⟨y, hy, e⟩ := hex
   exact List.mem_map.2 ⟨y,hy,by rw[e];rfl⟩
  ·exact absurd (zgF λ y hy e=>hex ⟨y,hy,e⟩) h1
 have hread:∀ x∈es.toList,∃ a:Int,x.key=encZ a/\keyOf Tryd.prog 3 x.key=some (.int .i64 a):=λ x hx=>by
  have hm:x.key∈es.toList.map (·.key):=List.mem_map.2 ⟨x,hx,rfl⟩
  rw[hkeys] at hm
  obtain⟨a,ha,e⟩:=List.mem_map.1 hm
  have hb:=(l2 a (hperm.mem_iff.2 ha)).2
  refine⟨a,e.symm,?_⟩
  rw[← e]
  have hu:Tryd.prog.underlying 3=some (.int .i64):=Tryd.underlying3
  have hwf:(Lit.int .i64 a).wf=true:=by
   simp only[Lit.wf,Bool.and_eq_true,decide_eq_true_eq]
   have e1:IntKind.i64.min = -9223372036854775808:=by decide
   have e2:IntKind.i64.max=9223372036854775807:=by decide
   rw[e1,e2]
   have:=hb.2
   omega
  simp[keyOf,mapKey,hu,hwf]
 have hsize:es.size=n:=by
  have:=congrArg List.length M.ents
  simp at this
  rw[this,M.size]
 have hst:MapKept.Stamped es clock:=⟨M.born,M.bornN,by rw[hkeys];exact List.pairwise_map.2 (hkn.imp λ h e=>h (encZ_inj e))⟩
 have hown:w.ownsMap Tryd.prog 3 rdN mb n (.map ((es.toList.map (WideElems.rg Tryd.prog 3 rdN)).foldr DataW.insert [])) :=
  ⟨es,clock,hb,⟨by rw[hsize];exact Nat.le_trans hn (by decide),hst,λ x hx=>by
   obtain⟨a,e1,e2⟩:=hread x hx
   exact⟨(.int .i64 a,.nil),by simp only[WideElems.rd,e2,rdN,Option.bind_some,Option.map_some]⟩⟩,by omega,rfl⟩
 have hik:(intKeys (.map ((es.toList.map (WideElems.rg Tryd.prog 3 rdN)).foldr DataW.insert []))).Perm l:=by
  show (((es.toList.map (WideElems.rg Tryd.prog 3 rdN)).foldr DataW.insert []).map λ p=>intOf p.1).Perm l
  refine ((WideShapes.sorted_perm _).map _).trans (List.Perm.trans (List.Perm.of_eq ?_) hperm.symm)
  rw[List.map_map]
  have e:(en.map λ x=>x.1.headD 0)=es.toList.map λ x=>intOf ((keyOf Tryd.prog 3 x.key).getD (.bool false)):=by
   have h1:(en.map λ x=>x.1.headD 0)=((en.map λ x=>x.1.headD 0).map encZ).map λ v=>match v with | .int _ a=>a | _=>0:=by
    rw[List.map_map];exact (List.map_id _).symm
   rw[h1,← hkeys,List.map_map]
   refine List.map_congr_left λ x hx=>?_
   obtain⟨a,e1,e2⟩:=hread x hx
   simp only[Function.comp,e2]
   rw[e1];rfl
  rw[e]
  refine List.map_congr_left λ x hx=>?_
  obtain⟨a,e1,e2⟩:=hread x hx
  simp only[Function.comp,WideElems.rg,WideElems.rd,e2,rdN,Option.bind_some,Option.map_some,Option.getD_some]
 have hsz:Maps.size (DataW.map ((es.toList.map (WideElems.rg Tryd.prog 3 rdN)).foldr DataW.insert []):DataW Unit)=n:=by
  show List.length _=n
  rw[(WideShapes.sorted_perm _).length_eq];simp[hsize]
 have hlt:k < w.heap.size:=hw.lt hk
 have hcell:w.cell? ⟨k,0,none⟩=some (.map (some mb)):=by
  have:=hw.fz hk
  simp[World.cell?,this,hC]
 have hseq:SeqGives Fence.wide 2 Tryd.prog 117 #[.pointer (some ⟨k,0,none⟩)] encZ (λ ss=>ss.Perm (intKeys _)) (Maps.size _) w :=
  AnyZI.keys_gives (ρ:=Tryd.keysA_ren) { Tryd.keysA with } Fence.wide _ trivial rfl (by omega) k mb n _ w hlt hcell hown
 have cS:=AnyZI.sorted_in Tryd.sortedA Fence.wide 5 trivial trivial trivial trivial rfl (by omega) (sortsA _) (enters_of Tryd.func116 (by kernel_rfl) rfl) 117 #[.pointer (some ⟨k,0,none⟩)] trivial (enters_of Tryd.func117 (by kernel_rfl) rfl) _ _ (by rw[hsz];exact Nat.le_trans hn (by decide)) (by rw[hsz];omega) _ hseq
 change CallsIn _ _ Tryd.prog 102 _ _ _ at cS
 refine ((callsIn_wide (n:=5)).1 cS).mono ?_
 rintro e w' ⟨v,ss,rfl,hS,hrow,_,hbel⟩
 refine⟨v,rfl,?_,⟨hbel,Nat.zero_le _⟩⟩
 have hsl:ss.mergeSort (λ x y=>decide (x≤y))=l:=by
  rw[show ss.mergeSort (λ x y=>decide (x≤y))=l.mergeSort leI from mergeSort_of_perm_i (hS.trans hik)]
  exact List.mergeSort_of_pairwise (l3.imp λ h=>by simp only[leI,decide_eq_true_eq];exact Int.le_of_lt h)
 have hlen:ss.length=n:=by rw[(hS.trans hik).length_eq,l1]
 rw[hsl,hlen] at hrow
 exact hrow
end Go.Pm
namespace Go.Proofs
open Go Go.Pm
set_option maxRecDepth 100000
set_option linter.unusedVariables false
attribute [local irreducible] Go.Pm.vcFun Go.Pm.vc Go.Pm.vcIter
abbrev zC7:OwnK:=.sorted 117
theorem zLw:zoK Tryd.prog 102 zC7:=zvm
abbrev zC8:OwnK:=.keys 117
theorem zLx:zoK Tryd.prog 103 zC8:=zB5
structure Rec69 where
  S:web->Int->((Sl (Sl Int))×web)
  P:web->Int->Bool
class Slf69 where
  r:Rec69
section
variable [Slf69]
def zye : MK
  | [.box 105 [.p (.int .i64 b0_Net_Nodes),.p (.sl b0_Net_Ties_n b0_Net_Ties_s b0_Net_Ties_g),.mo 3 4 b0_out_q b0_out_n b0_out_F],.d (.one (.int .i64 b1))]=>some (IsE enc_40 4 b0_Net_Ties_s b0_Net_Ties_g/\b0_out_q=(false,1,false,[none])/\Slf69.r.P (⟨(⟨b0_Net_Nodes,(⟨b0_Net_Ties_n,zar b0_Net_Ties_g⟩:(Sl Tie))⟩:Net),(⟨b0_out_n,b0_out_F⟩:Mp)⟩:web) b1=true,[.one (.sl (((Slf69.r.S (⟨(⟨b0_Net_Nodes,(⟨b0_Net_Ties_n,zar b0_Net_Ties_g⟩:(Sl Tie))⟩:Net),(⟨b0_out_n,b0_out_F⟩:Mp)⟩:web) b1).1).len) 1 (λ i=>zcv (((Slf69.r.S (⟨(⟨b0_Net_Nodes,(⟨b0_Net_Ties_n,zar b0_Net_Ties_g⟩:(Sl Tie))⟩:Net),(⟨b0_out_n,b0_out_F⟩:Mp)⟩:web) b1).1).get i)))],[.box 105 [.p (.int .i64 (((Slf69.r.S (⟨(⟨b0_Net_Nodes,(⟨b0_Net_Ties_n,zar b0_Net_Ties_g⟩:(Sl Tie))⟩:Net),(⟨b0_out_n,b0_out_F⟩:Mp)⟩:web) b1).2).Net.Nodes)),.p (.sl (((Slf69.r.S (⟨(⟨b0_Net_Nodes,(⟨b0_Net_Ties_n,zar b0_Net_Ties_g⟩:(Sl Tie))⟩:Net),(⟨b0_out_n,b0_out_F⟩:Mp)⟩:web) b1).2).Net.Ties.len) 4 (λ i=>enc_40 (((Slf69.r.S (⟨(⟨b0_Net_Nodes,(⟨b0_Net_Ties_n,zar b0_Net_Ties_g⟩:(Sl Tie))⟩:Net),(⟨b0_out_n,b0_out_F⟩:Mp)⟩:web) b1).2).Net.Ties.get i))),.mo 3 4 (false,1,false,[none]) ((((Slf69.r.S (⟨(⟨b0_Net_Nodes,(⟨b0_Net_Ties_n,zar b0_Net_Ties_g⟩:(Sl Tie))⟩:Net),(⟨b0_out_n,b0_out_F⟩:Mp)⟩:web) b1).2).out).n) ((((Slf69.r.S (⟨(⟨b0_Net_Nodes,(⟨b0_Net_Ties_n,zar b0_Net_Ties_g⟩:(Sl Tie))⟩:Net),(⟨b0_out_n,b0_out_F⟩:Mp)⟩:web) b1).2).out).F)],.d (.one (.int .i64 b1))])
  | _=>none
abbrev T69:Tabs:=(((((Tabs.nil.addF 88 zxl).addF 89 zB4).addO 102 zC7).addO 103 zC8).addM 69 zye)
theorem zLy (hself:zjM Tryd.prog 69 zye):TabsOk Tryd.prog T69:=(((((TabsOk.nil.addF zLd).addF zMH).addO zLw).addO zLx).addM hself)
abbrev zB6:Ctrs:=csm T69 (λ _ _=>[]) (λ _=>false)
def zfK:Ann:=⟨57,[(0,zK [0,1] [0,12288]),(1,zK [0,1,10] [0,12288]),(2,zK [0,4] [0,17,12288]),(3,zK [0,1,19] [0,12288]),(4,zK [0,4] [0,12288]),(5,zK [0,1,5] [0,12288]),(6,zK [0,1,5,21,22,23] [0,12288]),(7,zK [0,1,5,21,22,23,24] [0,47,12288]),(8,zK [0,1,5,7,21,22,23] [0,7,47,12288]),(9,zK [0,1,5,7,21,22,23,34] [0,7,47,12288]),(10,zK [0,1,5,7,21,22,23] [0,7,47,12288]),(11,zK [0,1,5,7,21,22,23] [0,7,47,12288]),(12,zK [0,1,5,21,22,23] [0,47,12288]),(13,zK [0,1,5,21,22,23] [0,47,12288]),(14,zK [0,4] [0,47,12288])],
 [(7,⟨[0,1,5,21,22,23],[0,47,12288],[(5,47,27,λ _=>zcv default)],[],[],[],[]⟩)],
 [],
 [],[]⟩
def zgo (w:web) (left:Int) (zaJ:Int) (zbd:Int) (zgp:Nat) (zcR:Nat->List PV) (zgq:Nat) (zcS:Nat->List PV) (zak:Nat) (zab:(List Int->Option (List Int))):St:=⟨[(0,.one (.c (.ptr 0 0))),(1,.one (.c (.p (.int .i64 left)))),(5,.one (.c (.vec 47))),(21,.one (.c (.p (.sl ((s89 w).len) 5 (λ i=>zai ((s89 w).get i)))))),(22,.one (.c (.p (.int .i64 ((s89 w).len:Int))))),(23,.one (.c (.p (.int .i64 zaJ))))],[(0,.box 105 [.p (.int .i64 zbd),.p (.sl zgp 4 zcR),.mo 12288]),(47,.vec 27 1 24 zgq zcS),(12288,.mo 3 4 (false,1,false,[none]) zak zab)],[]⟩
def zik (K:List PA×List XA->Prop) (w:web) (left:Int) (zaJ:Int) (zbd:Int) (zgp:Nat) (zcR:Nat->List PV) (zgq:Nat) (zcS:Nat->List PV) (zak:Nat) (zab:(List Int->Option (List Int))):Prop:=vc Tryd.prog zB6 zfK (cdF Tryd.f69 [1,1,1,1,0,1,0]) (zas 0 (sqK Tryd.prog zB6 zfK (cdF Tryd.f69 [1,1,1,1,1]) (zmj Tryd.prog Tryd.f69 [.box 105 [.p (.int .i64 w.Net.Nodes),.p (.sl w.Net.Ties.len 4 (λ i=>enc_40 (w.Net.Ties.get i))),.mo 3 4 (false,1,false,[none]) w.out.n w.out.F],.d (.one (.int .i64 left))] (λ a b=>K (a,b))))) (zgo w left zaJ zbd zgp zcR zgq zcS zak zab)
theorem zB7 (w : web) (left : Int) (K : List PA × List XA -> Prop) :
  zk2 Tryd.prog zB6 zfK 69 [.box 105 [.p (.int .i64 w.Net.Nodes),.p (.sl w.Net.Ties.len 4 (λ i=>enc_40 (w.Net.Ties.get i))),.mo 3 4 (false,1,false,[none]) w.out.n w.out.F],.d (.one (.int .i64 left))] (λ a b=>K (a,b)) =
  ((IsE enc_40 4 4 (λ i=>enc_40 (w.Net.Ties.get i))/\((false,1,false,[none]):MQ)=(false,1,false,[none])/\(p88 w=true)) /\
 (zbR (!(s88 w))
 (((w.out.n≤1000000/\(zvs w.out.F 9223372036854775808 0 w.out.n).isSome=true)) /\
 (K ([.one (.sl 1 1 (λ _=>(zcv (⟨w.out.n,(λ i=>(zvt w.out.F w.out.n).getD i 0)⟩:(Sl Int)))))],[.box 105 [.p (.int .i64 w.Net.Nodes),.p (.sl w.Net.Ties.len 4 (λ i=>enc_40 (w.Net.Ties.get i))),.mo 3 4 (false,1,false,[none]) w.out.n w.out.F],.d (.one (.int .i64 left))])))
 (zbR (left == (0:Int))
 (K ([.one (.nils)],[.box 105 [.p (.int .i64 w.Net.Nodes),.p (.sl w.Net.Ties.len 4 (λ i=>enc_40 (w.Net.Ties.get i))),.mo 3 4 (false,1,false,[none]) w.out.n w.out.F],.d (.one (.int .i64 left))]))
 (((∀ i,sc2 ((λ i=>zai ((s89 w).get i)) i)=true)/\IsE enc_40 4 4 (λ i=>enc_40 (w.Net.Ties.get i))/\((false,1,false,[none]):MQ)=(false,1,false,[none])/\(p89 w=true)) /\
 (zik K w left (0:Int) w.Net.Nodes w.Net.Ties.len (λ i=>enc_40 (w.Net.Ties.get i)) 0 (λ i=>zcv ((λ _=>default) i)) w.out.n w.out.F))))):=by kernel_rfl
def zm0 (K:List PA×List XA->Prop) (X0:St->Prop) (w:web) (left:Int) (zaJ:Int) (zbd:Int) (zbf:(Sl Tie)) (zbM:(Sl (Sl Int))) (zak:Nat) (zab:(List Int->Option (List Int))):Prop :=
  (zbR (decide (zaJ < ((s89 w).len : Int)))
 (((0≤zaJ/\zaJ < ((s89 w).len:Int))) /\
 (zbR ((zuF (zab [((s89 w).get zaJ.toNat).Use.Tie]) 0) != 0)
 (X0 (zgo w left (w64 (zaJ+(1:Int))) zbd zbf.len (λ i=>enc_40 (zbf.get i)) zbM.len (λ i=>zcv (zbM.get i)) zak zab))
 ((IsE enc_40 4 4 (λ i=>enc_40 (zbf.get i))/\((false,1,false,[none]):MQ)=(false,1,false,[none])/\(Slf69.r.P (⟨(⟨zbd,zbf⟩:Net),(⟨(addN (zab [((s89 w).get zaJ.toNat).Use.Tie]) zak),(zd1 [((s89 w).get zaJ.toNat).Use.Tie] [1] zab)⟩:Mp)⟩:web) (w64 (left - (1:Int)))=true)) /\
 ((((zbM.len+((Slf69.r.S (⟨(⟨zbd,zbf⟩:Net),(⟨(addN (zab [((s89 w).get zaJ.toNat).Use.Tie]) zak),(zd1 [((s89 w).get zaJ.toNat).Use.Tie] [1] zab)⟩:Mp)⟩:web) (w64 (left - (1:Int)))).1).len) * 24≤140737488355328/\zbM.len+((Slf69.r.S (⟨(⟨zbd,zbf⟩:Net),(⟨(addN (zab [((s89 w).get zaJ.toNat).Use.Tie]) zak),(zd1 [((s89 w).get zaJ.toNat).Use.Tie] [1] zab)⟩:Mp)⟩:web) (w64 (left - (1:Int)))).1).len≤9223372036854775807)) /\
 (X0 (zgo w left (w64 (zaJ+(1:Int))) (((Slf69.r.S (⟨(⟨zbd,zbf⟩:Net),(⟨(addN (zab [((s89 w).get zaJ.toNat).Use.Tie]) zak),(zd1 [((s89 w).get zaJ.toNat).Use.Tie] [1] zab)⟩:Mp)⟩:web) (w64 (left - (1:Int)))).2).Net.Nodes) (((Slf69.r.S (⟨(⟨zbd,zbf⟩:Net),(⟨(addN (zab [((s89 w).get zaJ.toNat).Use.Tie]) zak),(zd1 [((s89 w).get zaJ.toNat).Use.Tie] [1] zab)⟩:Mp)⟩:web) (w64 (left - (1:Int)))).2).Net.Ties.len) (λ i=>enc_40 (((Slf69.r.S (⟨(⟨zbd,zbf⟩:Net),(⟨(addN (zab [((s89 w).get zaJ.toNat).Use.Tie]) zak),(zd1 [((s89 w).get zaJ.toNat).Use.Tie] [1] zab)⟩:Mp)⟩:web) (w64 (left - (1:Int)))).2).Net.Ties.get i)) (zbM.len+((Slf69.r.S (⟨(⟨zbd,zbf⟩:Net),(⟨(addN (zab [((s89 w).get zaJ.toNat).Use.Tie]) zak),(zd1 [((s89 w).get zaJ.toNat).Use.Tie] [1] zab)⟩:Mp)⟩:web) (w64 (left - (1:Int)))).1).len) (appG zbM.len (λ i=>zcv (zbM.get i)) (λ i=>zcv (((Slf69.r.S (⟨(⟨zbd,zbf⟩:Net),(⟨(addN (zab [((s89 w).get zaJ.toNat).Use.Tie]) zak),(zd1 [((s89 w).get zaJ.toNat).Use.Tie] [1] zab)⟩:Mp)⟩:web) (w64 (left - (1:Int)))).1).get i))) (zCC (((((Slf69.r.S (⟨(⟨zbd,zbf⟩:Net),(⟨(addN (zab [((s89 w).get zaJ.toNat).Use.Tie]) zak),(zd1 [((s89 w).get zaJ.toNat).Use.Tie] [1] zab)⟩:Mp)⟩:web) (w64 (left - (1:Int)))).2).out).F) [((s89 w).get zaJ.toNat).Use.Tie]) ((((Slf69.r.S (⟨(⟨zbd,zbf⟩:Net),(⟨(addN (zab [((s89 w).get zaJ.toNat).Use.Tie]) zak),(zd1 [((s89 w).get zaJ.toNat).Use.Tie] [1] zab)⟩:Mp)⟩:web) (w64 (left - (1:Int)))).2).out).n)) (zAL [((s89 w).get zaJ.toNat).Use.Tie] ((((Slf69.r.S (⟨(⟨zbd,zbf⟩:Net),(⟨(addN (zab [((s89 w).get zaJ.toNat).Use.Tie]) zak),(zd1 [((s89 w).get zaJ.toNat).Use.Tie] [1] zab)⟩:Mp)⟩:web) (w64 (left - (1:Int)))).2).out).F))))))))
 (K ([.one (.sl zbM.len 1 (λ i=>zcv (zbM.get i)))],[.box 105 [.p (.int .i64 zbd),.p (.sl zbf.len 4 (λ i=>enc_40 (zbf.get i))),.mo 3 4 (false,1,false,[none]) zak zab],.d (.one (.int .i64 left))])))
theorem zp6 (K : List PA × List XA -> Prop) (X0 : St -> Prop) (w : web) (left : Int) (zaJ : Int) (zbd : Int) (zbf : (Sl Tie)) (zbM : (Sl (Sl Int))) (zak : Nat) (zab : (List Int -> Option (List Int))) :
  vc Tryd.prog zB6 zfK (cd (cdF Tryd.f69 [1,1,1,1,0,1,0]) [0]) (zbr Tryd.prog zfK 7 X0 (zas 0 (sqK Tryd.prog zB6 zfK (cdF Tryd.f69 [1,1,1,1,1]) (zmj Tryd.prog Tryd.f69 [.box 105 [.p (.int .i64 w.Net.Nodes),.p (.sl w.Net.Ties.len 4 (λ i=>enc_40 (w.Net.Ties.get i))),.mo 3 4 (false,1,false,[none]) w.out.n w.out.F],.d (.one (.int .i64 left))] (λ a b=>K (a,b)))))) (zgo w left zaJ zbd zbf.len (λ i=>enc_40 (zbf.get i)) zbM.len (λ i=>zcv (zbM.get i)) zak zab) =
  zm0 K X0 w left zaJ zbd zbf zbM zak zab:=by kernel_rfl
theorem zvn (K : List PA × List XA -> Prop) (w : web) (left : Int) (zaJ : Int) (zbd : Int) (zgp : Nat) (zcR : Nat -> List PV) (zgq : Nat) (zcS : Nat -> List PV) (zak : Nat) (zab : (List Int -> Option (List Int)))
  (h:∀ X0:St->Prop,(∀ (zaJ:Int) (zbd:Int) (zbf:(Sl Tie)) (zbM:(Sl (Sl Int))) (zak:Nat) (zab:(List Int->Option (List Int))),zm0 K X0 w left zaJ zbd zbf zbM zak zab->X0 (zgo w left zaJ zbd zbf.len (λ i=>enc_40 (zbf.get i)) zbM.len (λ i=>zcv (zbM.get i)) zak zab))->X0 (zgo w left zaJ zbd zgp zcR zgq zcS zak zab)) :
  zik K w left zaJ zbd zgp zcR zgq zcS zak zab:=by
  have e:zik K w left zaJ zbd zgp zcR zgq zcS zak zab=(∀ X:St->Prop,(∀ s,vc Tryd.prog zB6 zfK (cd (cdF Tryd.f69 [1,1,1,1,0,1,0]) [0]) (zbr Tryd.prog zfK 7 X (zas 0 (sqK Tryd.prog zB6 zfK (cdF Tryd.f69 [1,1,1,1,1]) (zmj Tryd.prog Tryd.f69 [.box 105 [.p (.int .i64 w.Net.Nodes),.p (.sl w.Net.Ties.len 4 (λ i=>enc_40 (w.Net.Ties.get i))),.mo 3 4 (false,1,false,[none]) w.out.n w.out.F],.d (.one (.int .i64 left))] (λ a b=>K (a,b)))))) s->X s)->X (zgo w left zaJ zbd zgp zcR zgq zcS zak zab)):=by kernel_rfl
  refine zbk e ?_
  intro X hX
  refine h X ?_
  intro zaJ zbd zbf zbM zak zab hs
  refine hX _ ?_
  have e2:=zp6 K X w left zaJ zbd zbf zbM zak zab
  rw[e2]
  exact hs
abbrev zC9 (left:Int) (r:((Sl (Sl Int))×web)):List PA×List XA:=([.one (.sl r.1.len 1 (λ i=>zcv (r.1.get i)))],[.box 105 [.p (.int .i64 r.2.Net.Nodes),.p (.sl r.2.Net.Ties.len 4 (λ i=>enc_40 (r.2.Net.Ties.get i))),.mo 3 4 (false,1,false,[none]) r.2.out.n r.2.out.F],.d (.one (.int .i64 left))])
attribute [irreducible] zik
def zom (w:web) (left:Int) (S0:Int->Int->(Sl Tie)->(Sl (Sl Int))->Nat->(List Int->Option (List Int))->((Sl (Sl Int))×web)) (zaJ:Int) (zbd:Int) (zbf:(Sl Tie)) (zbM:(Sl (Sl Int))) (zak:Nat) (zab:(List Int->Option (List Int))):((Sl (Sl Int))×web) :=
  (cond (decide (zaJ < ((s89 w).len : Int)))
 (cond ((zuF (zab [((s89 w).get zaJ.toNat).Use.Tie]) 0) != 0)
 (S0 (w64 (zaJ+(1:Int))) zbd zbf zbM zak zab)
 (S0 (w64 (zaJ+(1:Int))) (((Slf69.r.S (⟨(⟨zbd,zbf⟩:Net),(⟨(addN (zab [((s89 w).get zaJ.toNat).Use.Tie]) zak),(zd1 [((s89 w).get zaJ.toNat).Use.Tie] [1] zab)⟩:Mp)⟩:web) (w64 (left - (1:Int)))).2).Net.Nodes) (((Slf69.r.S (⟨(⟨zbd,zbf⟩:Net),(⟨(addN (zab [((s89 w).get zaJ.toNat).Use.Tie]) zak),(zd1 [((s89 w).get zaJ.toNat).Use.Tie] [1] zab)⟩:Mp)⟩:web) (w64 (left - (1:Int)))).2).Net.Ties) (⟨(zbM.len+((Slf69.r.S (⟨(⟨zbd,zbf⟩:Net),(⟨(addN (zab [((s89 w).get zaJ.toNat).Use.Tie]) zak),(zd1 [((s89 w).get zaJ.toNat).Use.Tie] [1] zab)⟩:Mp)⟩:web) (w64 (left - (1:Int)))).1).len),(zf4 zbM.len zbM.get ((Slf69.r.S (⟨(⟨zbd,zbf⟩:Net),(⟨(addN (zab [((s89 w).get zaJ.toNat).Use.Tie]) zak),(zd1 [((s89 w).get zaJ.toNat).Use.Tie] [1] zab)⟩:Mp)⟩:web) (w64 (left - (1:Int)))).1).get)⟩:Sl (Sl Int)) (zCC (((((Slf69.r.S (⟨(⟨zbd,zbf⟩:Net),(⟨(addN (zab [((s89 w).get zaJ.toNat).Use.Tie]) zak),(zd1 [((s89 w).get zaJ.toNat).Use.Tie] [1] zab)⟩:Mp)⟩:web) (w64 (left - (1:Int)))).2).out).F) [((s89 w).get zaJ.toNat).Use.Tie]) ((((Slf69.r.S (⟨(⟨zbd,zbf⟩:Net),(⟨(addN (zab [((s89 w).get zaJ.toNat).Use.Tie]) zak),(zd1 [((s89 w).get zaJ.toNat).Use.Tie] [1] zab)⟩:Mp)⟩:web) (w64 (left - (1:Int)))).2).out).n)) (zAL [((s89 w).get zaJ.toNat).Use.Tie] ((((Slf69.r.S (⟨(⟨zbd,zbf⟩:Net),(⟨(addN (zab [((s89 w).get zaJ.toNat).Use.Tie]) zak),(zd1 [((s89 w).get zaJ.toNat).Use.Tie] [1] zab)⟩:Mp)⟩:web) (w64 (left - (1:Int)))).2).out).F))))
 (zbM,(⟨(⟨zbd,zbf⟩:Net),(⟨zak,zab⟩:Mp)⟩:web)))
def zon (w:web) (left:Int) (P0:Int->Int->(Sl Tie)->(Sl (Sl Int))->Nat->(List Int->Option (List Int))->Bool) (zaJ:Int) (zbd:Int) (zbf:(Sl Tie)) (zbM:(Sl (Sl Int))) (zak:Nat) (zab:(List Int->Option (List Int))):Bool :=
  (cond (decide (zaJ < ((s89 w).len : Int)))
 (decide ((0≤zaJ/\zaJ < ((s89 w).len:Int))) &&
 (cond ((zuF (zab [((s89 w).get zaJ.toNat).Use.Tie]) 0) != 0)
 (P0 (w64 (zaJ+(1:Int))) zbd zbf zbM zak zab)
 (decide ((Slf69.r.P (⟨(⟨zbd,zbf⟩:Net),(⟨(addN (zab [((s89 w).get zaJ.toNat).Use.Tie]) zak),(zd1 [((s89 w).get zaJ.toNat).Use.Tie] [1] zab)⟩:Mp)⟩:web) (w64 (left - (1:Int)))=true)) &&
 (decide (((zbM.len+((Slf69.r.S (⟨(⟨zbd,zbf⟩:Net),(⟨(addN (zab [((s89 w).get zaJ.toNat).Use.Tie]) zak),(zd1 [((s89 w).get zaJ.toNat).Use.Tie] [1] zab)⟩:Mp)⟩:web) (w64 (left - (1:Int)))).1).len) * 24≤140737488355328/\zbM.len+((Slf69.r.S (⟨(⟨zbd,zbf⟩:Net),(⟨(addN (zab [((s89 w).get zaJ.toNat).Use.Tie]) zak),(zd1 [((s89 w).get zaJ.toNat).Use.Tie] [1] zab)⟩:Mp)⟩:web) (w64 (left - (1:Int)))).1).len≤9223372036854775807)) &&
 (P0 (w64 (zaJ+(1:Int))) (((Slf69.r.S (⟨(⟨zbd,zbf⟩:Net),(⟨(addN (zab [((s89 w).get zaJ.toNat).Use.Tie]) zak),(zd1 [((s89 w).get zaJ.toNat).Use.Tie] [1] zab)⟩:Mp)⟩:web) (w64 (left - (1:Int)))).2).Net.Nodes) (((Slf69.r.S (⟨(⟨zbd,zbf⟩:Net),(⟨(addN (zab [((s89 w).get zaJ.toNat).Use.Tie]) zak),(zd1 [((s89 w).get zaJ.toNat).Use.Tie] [1] zab)⟩:Mp)⟩:web) (w64 (left - (1:Int)))).2).Net.Ties) (⟨(zbM.len+((Slf69.r.S (⟨(⟨zbd,zbf⟩:Net),(⟨(addN (zab [((s89 w).get zaJ.toNat).Use.Tie]) zak),(zd1 [((s89 w).get zaJ.toNat).Use.Tie] [1] zab)⟩:Mp)⟩:web) (w64 (left - (1:Int)))).1).len),(zf4 zbM.len zbM.get ((Slf69.r.S (⟨(⟨zbd,zbf⟩:Net),(⟨(addN (zab [((s89 w).get zaJ.toNat).Use.Tie]) zak),(zd1 [((s89 w).get zaJ.toNat).Use.Tie] [1] zab)⟩:Mp)⟩:web) (w64 (left - (1:Int)))).1).get)⟩:Sl (Sl Int)) (zCC (((((Slf69.r.S (⟨(⟨zbd,zbf⟩:Net),(⟨(addN (zab [((s89 w).get zaJ.toNat).Use.Tie]) zak),(zd1 [((s89 w).get zaJ.toNat).Use.Tie] [1] zab)⟩:Mp)⟩:web) (w64 (left - (1:Int)))).2).out).F) [((s89 w).get zaJ.toNat).Use.Tie]) ((((Slf69.r.S (⟨(⟨zbd,zbf⟩:Net),(⟨(addN (zab [((s89 w).get zaJ.toNat).Use.Tie]) zak),(zd1 [((s89 w).get zaJ.toNat).Use.Tie] [1] zab)⟩:Mp)⟩:web) (w64 (left - (1:Int)))).2).out).n)) (zAL [((s89 w).get zaJ.toNat).Use.Tie] ((((Slf69.r.S (⟨(⟨zbd,zbf⟩:Net),(⟨(addN (zab [((s89 w).get zaJ.toNat).Use.Tie]) zak),(zd1 [((s89 w).get zaJ.toNat).Use.Tie] [1] zab)⟩:Mp)⟩:web) (w64 (left - (1:Int)))).2).out).F)))))))
 true)
def zil (w : web) (left : Int) : Nat -> Int -> Int -> (Sl Tie) -> (Sl (Sl Int)) -> Nat -> (List Int -> Option (List Int)) -> ((Sl (Sl Int)) × web)
  | 0=>λ _ _ _ _ _ _=>default
  | k+1=>zom w left (zil w left k)
def zim (w : web) (left : Int) : Nat -> Int -> Int -> (Sl Tie) -> (Sl (Sl Int)) -> Nat -> (List Int -> Option (List Int)) -> Bool
  | 0=>λ _ _ _ _ _ _=>false
  | k+1=>zon w left (zim w left k)
def zt9 (w:web) (left:Int) (zaJ:Int) (zbd:Int) (zbf:(Sl Tie)) (zbM:(Sl (Sl Int))) (zak:Nat) (zab:(List Int->Option (List Int))):((Sl (Sl Int))×web):=zil w left Fuel zaJ zbd zbf zbM zak zab
def zua (w:web) (left:Int) (zaJ:Int) (zbd:Int) (zbf:(Sl Tie)) (zbM:(Sl (Sl Int))) (zak:Nat) (zab:(List Int->Option (List Int))):Bool:=zim w left Fuel zaJ zbd zbf zbM zak zab
theorem zB8 (K:List PA×List XA->Prop) (w:web) (left:Int) (zaJ:Int) (zbd:Int) (zbf:(Sl Tie)) (zbM:(Sl (Sl Int))) (zak:Nat) (zab:(List Int->Option (List Int))) (zcR:Nat->List PV) (zl0:zcR=λ i=>enc_40 (zbf.get i)) (zcS:Nat->List PV) (zl1:zcS=λ i=>zcv (zbM.get i)) (hs:zua w left zaJ zbd zbf zbM zak zab=true) (hk:K (zC9 left (zt9 w left zaJ zbd zbf zbM zak zab))):zik (WkM K) w left zaJ zbd zbf.len zcR zbM.len zcS zak zab:=by
  refine zvn (WkM K) w left zaJ zbd zbf.len zcR zbM.len zcS zak zab ?_
  intro X0 hstep
  have key:∀ (k:Nat) (zaJ:Int) (zbd:Int) (zbf:(Sl Tie)) (zbM:(Sl (Sl Int))) (zak:Nat) (zab:(List Int->Option (List Int))) (zcR:Nat->List PV) (zl0:zcR=λ i=>enc_40 (zbf.get i)) (zcS:Nat->List PV) (zl1:zcS=λ i=>zcv (zbM.get i)),zim w left k zaJ zbd zbf zbM zak zab=true->K (zC9 left (zil w left k zaJ zbd zbf zbM zak zab))->X0 (zgo w left zaJ zbd zbf.len zcR zbM.len zcS zak zab):=by
    intro k
    induction k with
    | zero=>intro zaJ zbd zbf zbM zak zab zcR zl0 zcS zl1 hs;exact absurd hs Bool.false_ne_true
    | succ k ih =>
      intro zaJ zbd zbf zbM zak zab zcR zl0 zcS zl1 hs hk
      subst zl0
      subst zl1
      refine hstep zaJ zbd zbf zbM zak zab ?_
      have hs:zon w left (zim w left k) zaJ zbd zbf zbM zak zab=true:=hs
      have hk:K (zC9 left (zom w left (zil w left k) zaJ zbd zbf zbM zak zab)):=hk
      unfold zon at hs
      unfold zom at hk
      generalize zil w left k=S0 at hk ih
      generalize zim w left k=P0 at hs ih
      have hX0:=ih
      exact (za2 (K := λ r => K (zC9 left r))
 (λ hs hk => (zaX hs λ hc hs => ⟨hc, (za2 (K := λ r => K (zC9 left r))
 (λ hs hk=>(hX0 (w64 (zaJ+(1:Int))) zbd zbf zbM zak zab (λ i=>enc_40 (zbf.get i)) rfl (λ i=>zcv (zbM.get i)) rfl hs hk))
 (λ hs hk=>(zaX hs λ hc hs=>⟨⟨isE,rfl,hc⟩,(zaX hs λ hc hs=>⟨hc,(hX0 (w64 (zaJ+(1:Int))) (((Slf69.r.S (⟨(⟨zbd,zbf⟩:Net),(⟨(addN (zab [((s89 w).get zaJ.toNat).Use.Tie]) zak),(zd1 [((s89 w).get zaJ.toNat).Use.Tie] [1] zab)⟩:Mp)⟩:web) (w64 (left - (1:Int)))).2).Net.Nodes) (((Slf69.r.S (⟨(⟨zbd,zbf⟩:Net),(⟨(addN (zab [((s89 w).get zaJ.toNat).Use.Tie]) zak),(zd1 [((s89 w).get zaJ.toNat).Use.Tie] [1] zab)⟩:Mp)⟩:web) (w64 (left - (1:Int)))).2).Net.Ties) (⟨(zbM.len+((Slf69.r.S (⟨(⟨zbd,zbf⟩:Net),(⟨(addN (zab [((s89 w).get zaJ.toNat).Use.Tie]) zak),(zd1 [((s89 w).get zaJ.toNat).Use.Tie] [1] zab)⟩:Mp)⟩:web) (w64 (left - (1:Int)))).1).len),(zf4 zbM.len zbM.get ((Slf69.r.S (⟨(⟨zbd,zbf⟩:Net),(⟨(addN (zab [((s89 w).get zaJ.toNat).Use.Tie]) zak),(zd1 [((s89 w).get zaJ.toNat).Use.Tie] [1] zab)⟩:Mp)⟩:web) (w64 (left - (1:Int)))).1).get)⟩:Sl (Sl Int)) (zCC (((((Slf69.r.S (⟨(⟨zbd,zbf⟩:Net),(⟨(addN (zab [((s89 w).get zaJ.toNat).Use.Tie]) zak),(zd1 [((s89 w).get zaJ.toNat).Use.Tie] [1] zab)⟩:Mp)⟩:web) (w64 (left - (1:Int)))).2).out).F) [((s89 w).get zaJ.toNat).Use.Tie]) ((((Slf69.r.S (⟨(⟨zbd,zbf⟩:Net),(⟨(addN (zab [((s89 w).get zaJ.toNat).Use.Tie]) zak),(zd1 [((s89 w).get zaJ.toNat).Use.Tie] [1] zab)⟩:Mp)⟩:web) (w64 (left - (1:Int)))).2).out).n)) (zAL [((s89 w).get zaJ.toNat).Use.Tie] ((((Slf69.r.S (⟨(⟨zbd,zbf⟩:Net),(⟨(addN (zab [((s89 w).get zaJ.toNat).Use.Tie]) zak),(zd1 [((s89 w).get zaJ.toNat).Use.Tie] [1] zab)⟩:Mp)⟩:web) (w64 (left - (1:Int)))).2).out).F)) (λ i=>enc_40 (((Slf69.r.S (⟨(⟨zbd,zbf⟩:Net),(⟨(addN (zab [((s89 w).get zaJ.toNat).Use.Tie]) zak),(zd1 [((s89 w).get zaJ.toNat).Use.Tie] [1] zab)⟩:Mp)⟩:web) (w64 (left - (1:Int)))).2).Net.Ties.get i)) rfl (appG zbM.len (λ i=>zcv (zbM.get i)) (λ i=>zcv (((Slf69.r.S (⟨(⟨zbd,zbf⟩:Net),(⟨(addN (zab [((s89 w).get zaJ.toNat).Use.Tie]) zak),(zd1 [((s89 w).get zaJ.toNat).Use.Tie] [1] zab)⟩:Mp)⟩:web) (w64 (left - (1:Int)))).1).get i))) (zjw (enc:=zcv) (f:=zbM.get) (h:=((Slf69.r.S (⟨(⟨zbd,zbf⟩:Net),(⟨(addN (zab [((s89 w).get zaJ.toNat).Use.Tie]) zak),(zd1 [((s89 w).get zaJ.toNat).Use.Tie] [1] zab)⟩:Mp)⟩:web) (w64 (left - (1:Int)))).1).get) rfl rfl) hs hk)⟩)⟩)) hs hk)⟩))
 (λ hs hk=>(zw5 hk)) hs hk)
  exact key _ zaJ zbd zbf zbM zak zab zcR zl0 zcS zl1 hs hk
def zAI (w:web) (left:Int):((Sl (Sl Int))×web) :=
  (cond (!(s88 w))
 ((⟨1,λ _=>(⟨w.out.n,(λ i=>(zvt w.out.F w.out.n).getD i 0)⟩:(Sl Int))⟩:(Sl (Sl Int))),w)
 (cond (left == (0:Int))
 ((⟨0,λ _=>default⟩:(Sl (Sl Int))),w)
 (zt9 w left (0:Int) w.Net.Nodes w.Net.Ties (⟨0,(λ _=>default)⟩:Sl (Sl Int)) w.out.n w.out.F)))
def zKK (w:web) (left:Int):Bool :=
  (decide ((p88 w=true)) &&
 (cond (!(s88 w))
 (decide ((w.out.n≤1000000/\(zvs w.out.F 9223372036854775808 0 w.out.n).isSome=true)) &&
 true)
 (cond (left == (0:Int))
 true
 (decide ((p89 w=true)) &&
 (zua w left (0:Int) w.Net.Nodes w.Net.Ties (⟨0,(λ _=>default)⟩:Sl (Sl Int)) w.out.n w.out.F)))))
theorem zNr (w:web) (left:Int) (K:List PA×List XA->Prop) (hs:zKK w left=true) (hk:K (zC9 left (zAI w left))):zk2 Tryd.prog zB6 zfK 69 [.box 105 [.p (.int .i64 w.Net.Nodes),.p (.sl w.Net.Ties.len 4 (λ i=>enc_40 (w.Net.Ties.get i))),.mo 3 4 (false,1,false,[none]) w.out.n w.out.F],.d (.one (.int .i64 left))] (λ a b=>(WkM K) (a,b)):=by
  refine zbk (zB7 w left (WkM K)) ?_
  unfold zKK at hs
  unfold zAI at hk
  exact (zaX hs λ hc hs => ⟨⟨isE, rfl, hc⟩, (za2 (K := λ r => K (zC9 left r))
 (λ hs hk=>(zaX hs λ hc hs=>⟨hc,(zw5 hk)⟩))
 (λ hs hk => (za2 (K := λ r => K (zC9 left r))
 (λ hs hk=>(wkM hk (zis (.one (.nil _ _)) zpt)))
 (λ hs hk=>(zaX hs λ hc hs=>⟨⟨(λ _=>rfl),isE,rfl,hc⟩,(zB8 K w left (0:Int) w.Net.Nodes w.Net.Ties (⟨0,(λ _=>default)⟩:Sl (Sl Int)) w.out.n w.out.F (λ i=>enc_40 (w.Net.Ties.get i)) rfl (λ i=>zcv ((λ _=>default) i)) rfl hs hk)⟩)) hs hk)) hs hk)⟩)
def zIT : MK
  | [.box 105 [.p (.int .i64 b0_Net_Nodes),.p (.sl b0_Net_Ties_n b0_Net_Ties_s b0_Net_Ties_g),.mo 3 4 b0_out_q b0_out_n b0_out_F],.d (.one (.int .i64 b1))]=>some (IsE enc_40 4 b0_Net_Ties_s b0_Net_Ties_g/\b0_out_q=(false,1,false,[none])/\zKK (⟨(⟨b0_Net_Nodes,(⟨b0_Net_Ties_n,zar b0_Net_Ties_g⟩:(Sl Tie))⟩:Net),(⟨b0_out_n,b0_out_F⟩:Mp)⟩:web) b1=true,[.one (.sl (((zAI (⟨(⟨b0_Net_Nodes,(⟨b0_Net_Ties_n,zar b0_Net_Ties_g⟩:(Sl Tie))⟩:Net),(⟨b0_out_n,b0_out_F⟩:Mp)⟩:web) b1).1).len) 1 (λ i=>zcv (((zAI (⟨(⟨b0_Net_Nodes,(⟨b0_Net_Ties_n,zar b0_Net_Ties_g⟩:(Sl Tie))⟩:Net),(⟨b0_out_n,b0_out_F⟩:Mp)⟩:web) b1).1).get i)))],[.box 105 [.p (.int .i64 (((zAI (⟨(⟨b0_Net_Nodes,(⟨b0_Net_Ties_n,zar b0_Net_Ties_g⟩:(Sl Tie))⟩:Net),(⟨b0_out_n,b0_out_F⟩:Mp)⟩:web) b1).2).Net.Nodes)),.p (.sl (((zAI (⟨(⟨b0_Net_Nodes,(⟨b0_Net_Ties_n,zar b0_Net_Ties_g⟩:(Sl Tie))⟩:Net),(⟨b0_out_n,b0_out_F⟩:Mp)⟩:web) b1).2).Net.Ties.len) 4 (λ i=>enc_40 (((zAI (⟨(⟨b0_Net_Nodes,(⟨b0_Net_Ties_n,zar b0_Net_Ties_g⟩:(Sl Tie))⟩:Net),(⟨b0_out_n,b0_out_F⟩:Mp)⟩:web) b1).2).Net.Ties.get i))),.mo 3 4 (false,1,false,[none]) ((((zAI (⟨(⟨b0_Net_Nodes,(⟨b0_Net_Ties_n,zar b0_Net_Ties_g⟩:(Sl Tie))⟩:Net),(⟨b0_out_n,b0_out_F⟩:Mp)⟩:web) b1).2).out).n) ((((zAI (⟨(⟨b0_Net_Nodes,(⟨b0_Net_Ties_n,zar b0_Net_Ties_g⟩:(Sl Tie))⟩:Net),(⟨b0_out_n,b0_out_F⟩:Mp)⟩:web) b1).2).out).F)],.d (.one (.int .i64 b1))])
  | _=>none
theorem zIU:zaA Tryd.prog 69:=⟨_,rfl,rfl,by kernel_rfl⟩
theorem zLz (hself:zjM Tryd.prog 69 zye):zjM Tryd.prog 69 zIT:=zBD (zLy hself) zIU λ xs safe rs ys h hs K hk=>by
  unfold zIT at h
  split at h
  · rename_i b0_Net_Nodes b0_Net_Ties_n b0_Net_Ties_s b0_Net_Ties_g b0_out_q b0_out_n b0_out_F b1
    simp only[Option.some.injEq,Prod.mk.injEq] at h
    obtain⟨rfl,rfl,rfl⟩:=h
    obtain⟨⟨rfl,b0_Net_Ties_f,rfl⟩,rfl,hs⟩:=hs
    try rw[zao b0_Net_Ties_f] at hs
    try rw[zao b0_Net_Ties_f] at hk
    refine⟨λ _ _=>[],λ _=>false,zfK,?_⟩
    show zk2 Tryd.prog zB6 zfK 69 _ _
    exact zNr (⟨(⟨b0_Net_Nodes,(⟨b0_Net_Ties_n,b0_Net_Ties_f⟩:(Sl Tie))⟩:Net),(⟨b0_out_n,b0_out_F⟩:Mp)⟩:web) b1 (λ x=>K x.1 x.2) hs hk
  · cases h
end
def zvo : Nat -> Rec69
  | 0=>⟨λ _ _=>default,λ _ _=>false⟩
  | k+1=>⟨@zAI ⟨zvo k⟩,@zKK ⟨zvo k⟩⟩
theorem zIV : ∀ k, zjM Tryd.prog 69 (@zye ⟨zvo k⟩)
  | 0=>λ xs ys safe rs h hs=>by
    unfold zye at h
    split at h
    · simp only[Option.some.injEq, Prod.mk.injEq] at h
      obtain⟨rfl,rfl,rfl⟩:=h
      exact absurd hs.2.2 Bool.false_ne_true
    · cases h
  | k+1=>@zLz ⟨zvo k⟩ (zIV k)
def s69 (w:web) (left:Int):((Sl (Sl Int))×web):=(zvo 64).S w left
def p69 (w:web) (left:Int):Bool:=(zvo 64).P w left
def zIW : MK
  | [.box 105 [.p (.int .i64 b0_Net_Nodes),.p (.sl b0_Net_Ties_n b0_Net_Ties_s b0_Net_Ties_g),.mo 3 4 b0_out_q b0_out_n b0_out_F],.d (.one (.int .i64 b1))]=>some (IsE enc_40 4 b0_Net_Ties_s b0_Net_Ties_g/\b0_out_q=(false,1,false,[none])/\p69 (⟨(⟨b0_Net_Nodes,(⟨b0_Net_Ties_n,zar b0_Net_Ties_g⟩:(Sl Tie))⟩:Net),(⟨b0_out_n,b0_out_F⟩:Mp)⟩:web) b1=true,[.one (.sl (((s69 (⟨(⟨b0_Net_Nodes,(⟨b0_Net_Ties_n,zar b0_Net_Ties_g⟩:(Sl Tie))⟩:Net),(⟨b0_out_n,b0_out_F⟩:Mp)⟩:web) b1).1).len) 1 (λ i=>zcv (((s69 (⟨(⟨b0_Net_Nodes,(⟨b0_Net_Ties_n,zar b0_Net_Ties_g⟩:(Sl Tie))⟩:Net),(⟨b0_out_n,b0_out_F⟩:Mp)⟩:web) b1).1).get i)))],[.box 105 [.p (.int .i64 (((s69 (⟨(⟨b0_Net_Nodes,(⟨b0_Net_Ties_n,zar b0_Net_Ties_g⟩:(Sl Tie))⟩:Net),(⟨b0_out_n,b0_out_F⟩:Mp)⟩:web) b1).2).Net.Nodes)),.p (.sl (((s69 (⟨(⟨b0_Net_Nodes,(⟨b0_Net_Ties_n,zar b0_Net_Ties_g⟩:(Sl Tie))⟩:Net),(⟨b0_out_n,b0_out_F⟩:Mp)⟩:web) b1).2).Net.Ties.len) 4 (λ i=>enc_40 (((s69 (⟨(⟨b0_Net_Nodes,(⟨b0_Net_Ties_n,zar b0_Net_Ties_g⟩:(Sl Tie))⟩:Net),(⟨b0_out_n,b0_out_F⟩:Mp)⟩:web) b1).2).Net.Ties.get i))),.mo 3 4 (false,1,false,[none]) ((((s69 (⟨(⟨b0_Net_Nodes,(⟨b0_Net_Ties_n,zar b0_Net_Ties_g⟩:(Sl Tie))⟩:Net),(⟨b0_out_n,b0_out_F⟩:Mp)⟩:web) b1).2).out).n) ((((s69 (⟨(⟨b0_Net_Nodes,(⟨b0_Net_Ties_n,zar b0_Net_Ties_g⟩:(Sl Tie))⟩:Net),(⟨b0_out_n,b0_out_F⟩:Mp)⟩:web) b1).2).out).F)],.d (.one (.int .i64 b1))])
  | _=>none
theorem zNs:zjM Tryd.prog 69 zIW:=zIV 64
abbrev T71:Tabs:=(Tabs.nil.addF 101 ztX)
theorem zLA:TabsOk Tryd.prog T71:=(TabsOk.nil.addF zIK)
abbrev G71:Ctrs:=csm T71 (λ _ _=>[]) (λ _=>false)
def zFv:Ann:=⟨36,[(0,zK [0,1] []),(1,zK [0,1,9,10,11] []),(2,zK [0,1,9,10,11,12] []),(3,zK [0,1,5,6,9,10,11] []),(4,zK [0,1,5,6,9,10,11,19] []),(5,zK [4] []),(6,zK [0,1,6,7,9,10,11] []),(7,zK [0,1,8,9,10,11] []),(8,zK [0,1,8,9,10,11,28] []),(9,zK [4] []),(10,zK [0,1,9,10,11] []),(11,zK [35] []),(12,zK [4] []),(13,zK [4] [])],
 [(2,zK [0,1,9,10,11] [])],
 [(6,zK [0,1,5,6,9,10,11] []),(8,zK [0,1,8,9,10,11] [])],
 [],[]⟩
abbrev R71:=Int
abbrev e71 (r:R71):List PA:=[.one (.int .i64 r)]
@[irreducible] def z71:=ptF Tryd.prog G71 zFv Tryd.f71
def zDa (zeV:(Sl Int)) (zen:(Sl Int)) (zj3:(Sl Int)) (zaO:Int) (za5:Int) (zdC:Nat->List PV) (zdD:Nat->List PV) (zjI:Nat->List PV):St:=⟨[(0,zP (.sl zeV.len 1 zdC)),(1,zP (.sl zen.len 1 zdD)),(9,zP (.sl zj3.len 1 zjI)),(10,zI zaO),(11,zI za5)],[],[]⟩
abbrev zB9 (K:List PA->Prop) (X:St->Prop) (P:(Sl Int)->(Sl Int)->(Sl Int)->Int->Int->Bool) (S:(Sl Int)->(Sl Int)->(Sl Int)->Int->Int->Int):Prop:=∀ ⦃zeV:(Sl Int)⦄ ⦃zen:(Sl Int)⦄ ⦃zj3:(Sl Int)⦄ ⦃zaO:Int⦄ ⦃za5:Int⦄ ⦃zdC:Nat->List PV⦄ ⦃zdD:Nat->List PV⦄ ⦃zjI:Nat->List PV⦄,P zeV zen zj3 zaO za5=true->K (e71 (S zeV zen zj3 zaO za5))->zdC=zg zad zeV->zdD=zg zad zen->zjI=zg zad zj3->X (zDa zeV zen zj3 zaO za5 zdC zdD zjI)
section
variable {K:List PA->Prop}{s1_a0:(Sl Int)}{s2_a1:(Sl Int)}{zeV:(Sl Int)}{zen:(Sl Int)}{zj3:(Sl Int)}{zaO:Int}{za5:Int}{zdC:Nat->List PV}{zdD:Nat->List PV}{zjI:Nat->List PV}{X0:St->Prop}{P0:(Sl Int)->(Sl Int)->(Sl Int)->Int->Int->Bool}{S0:(Sl Int)->(Sl Int)->(Sl Int)->Int->Int->Int}{zpQ:(Sl Int)}{zj2:(Sl Int)}{iv1:Int}{zFw:Int}{zsl:(Sl Int)}{zin:Int}{zc5:Int}{zpR:Nat->List PV}{zpS:Nat->List PV}{zDb:Nat->List PV}{zpT:(Sl Int)}{zpU:(Sl Int)}{cv2:Int}{zsm:Int}{zpV:Nat->List PV}{zpW:Nat->List PV}
def zyf (S0:(Sl Int)->(Sl Int)->(Sl Int)->Int->Int->Int) (zsl:(Sl Int)) (zin:Int) (zpT:(Sl Int)) (zpU:(Sl Int)) (cv2:Int) (zsm:Int):Int :=
  (cond (cv2 != (0:Int))
 cv2
 (S0 zpT zpU zsl zin (w64 (zsm+(1:Int)))))
def zyg (P0:(Sl Int)->(Sl Int)->(Sl Int)->Int->Int->Bool) (zsl:(Sl Int)) (zin:Int) (zpT:(Sl Int)) (zpU:(Sl Int)) (cv2:Int) (zsm:Int):Bool :=
  (cond (cv2 != (0:Int))
 true
 (P0 zpT zpU zsl zin (w64 (zsm+(1:Int)))))
theorem zFx (hX0:zB9 K X0 P0 S0) (hs:zyg P0 zsl zin zpT zpU cv2 zsm=true) (hk:K (e71 (zyf S0 zsl zin zpT zpU cv2 zsm))) (zxQ:zpV=zg zad zpT) (zxR:zpW=zg zad zpU):z71 K [1,0,1,0,0,1,1,0,0,1,1,1,1] [X0] ⟨[(0,zP (.sl zpT.len 1 zpV)),(1,zP (.sl zpU.len 1 zpW)),(8,zI cv2),(9,zS zad 1 zsl),(10,zI zin),(11,zI zsm)],[],[]⟩:=by subst zxQ;subst zxR;exact zbk (by kernel_rfl) (zc hs hk (λ hs hk=>hk) (λ hs hk=>(hX0 hs hk rfl rfl rfl)))
def zyh (S0:(Sl Int)->(Sl Int)->(Sl Int)->Int->Int->Int) (zpQ:(Sl Int)) (zj2:(Sl Int)) (iv1:Int) (zFw:Int) (zsl:(Sl Int)) (zin:Int) (zc5:Int):Int :=
  (zyf S0 zsl zin zpQ zj2 (zAH zFw (zj2.get iv1.toNat)) zc5)
def zyi (P0:(Sl Int)->(Sl Int)->(Sl Int)->Int->Int->Bool) (zpQ:(Sl Int)) (zj2:(Sl Int)) (iv1:Int) (zFw:Int) (zsl:(Sl Int)) (zin:Int) (zc5:Int):Bool :=
  (decide ((0≤iv1/\iv1 < (zj2.len:Int))) &&
 (zyg P0 zsl zin zpQ zj2 (zAH zFw (zj2.get iv1.toNat)) zc5))
theorem zFy (hX0:zB9 K X0 P0 S0) (hs:zyi P0 zpQ zj2 iv1 zFw zsl zin zc5=true) (hk:K (e71 (zyh S0 zpQ zj2 iv1 zFw zsl zin zc5))) (zxS:zpR=zg zad zpQ) (zxT:zpS=zg zad zj2) (zIX:zDb=zg zad zsl):z71 K [1,0,1,0,0,1,1,0,0,1,1] [X0] ⟨[(0,zP (.sl zpQ.len 1 zpR)),(1,zP (.sl zj2.len 1 zpS)),(5,zI iv1),(6,zI zFw),(9,zP (.sl zsl.len 1 zDb)),(10,zI zin),(11,zI zc5)],[],[]⟩:=by subst zxS;subst zxT;subst zIX;exact zbk (by kernel_rfl) (zaX hs λ hc hs=>And.intro hc (zFx hX0 hs hk rfl rfl))
def zyj (S0:(Sl Int)->(Sl Int)->(Sl Int)->Int->Int->Int) (zeV:(Sl Int)) (zen:(Sl Int)) (zj3:(Sl Int)) (zaO:Int) (za5:Int):Int :=
  (cond (decide (za5 < zaO))
 (cond (decide (za5 ≥ (zen.len : Int)))
 (1:Int)
 (zyh S0 zeV zen za5 (zj3.get za5.toNat) zj3 zaO za5))
 (cond (decide ((zeV.len : Int) < (zen.len : Int)))
 (-1:Int)
 (0:Int)))
def zyk (P0:(Sl Int)->(Sl Int)->(Sl Int)->Int->Int->Bool) (zeV:(Sl Int)) (zen:(Sl Int)) (zj3:(Sl Int)) (zaO:Int) (za5:Int):Bool :=
  (cond (decide (za5 < zaO))
 (decide ((0≤za5/\za5 < (zj3.len:Int))) &&
 (cond (decide (za5 ≥ (zen.len : Int)))
 true
 (zyi P0 zeV zen za5 (zj3.get za5.toNat) zj3 zaO za5)))
 true)
def zyl:Nat->(Sl Int)->(Sl Int)->(Sl Int)->Int->Int->Int:=lpO (λ _ _ _ _ _=>default) (zyj)
def zym:Nat->(Sl Int)->(Sl Int)->(Sl Int)->Int->Int->Bool:=lpO (λ _ _ _ _ _=>false) (zyk)
def zyn (zeV:(Sl Int)) (zen:(Sl Int)) (zj3:(Sl Int)) (zaO:Int) (za5:Int):Int:=zyl Fuel zeV zen zj3 zaO za5
def zyo (zeV:(Sl Int)) (zen:(Sl Int)) (zj3:(Sl Int)) (zaO:Int) (za5:Int):Bool:=zym Fuel zeV zen zj3 zaO za5
theorem zFz (hs:zyo zeV zen zj3 zaO za5=true) (hk:K (e71 (zyn zeV zen zj3 zaO za5))) (zlz:zdC=zg zad zeV) (zlA:zdD=zg zad zen) (zyp:zjI=zg zad zj3):z71 K [1,0,1,0] [] (zDa zeV zen zj3 zaO za5 zdC zdD zjI) :=
  zl (λ X=>z71 K [1,0,1,0,0] [X]) (by kernel_rfl) λ X0 hX =>
  (show ∀ k, zB9 K X0 (zym k) (zyl k) from ziH _ _ (zyk) (zyj) (zB9 K X0)
 (by intro _ _ _ _ _ _ _ _ hs;exact absurd hs Bool.false_ne_true)
 (by intro P0 S0 hX0 zeV zen zj3 zaO za5 zdC zdD zjI hs hk zlz zlA zyp;subst zlz;subst zlA;subst zyp;exact hX _ (zbk (by kernel_rfl) (zc hs hk (λ hs hk=>(zaX hs λ hc hs=>And.intro hc (zc hs hk (λ hs hk=>hk) (λ hs hk=>(zFy hX0 hs hk rfl rfl rfl))))) (λ hs hk=>(zt hk (λ hk=>hk) (λ hk=>hk))))))) _ hs hk zlz zlA zyp
def s71 (s1_a0:(Sl Int)) (s2_a1:(Sl Int)):Int :=
  (zyn s1_a0 s2_a1 s1_a0 (s1_a0.len:Int) (0:Int))
def p71 (s1_a0:(Sl Int)) (s2_a1:(Sl Int)):Bool :=
  (zyo s1_a0 s2_a1 s1_a0 (s1_a0.len:Int) (0:Int))
end
theorem q71 (s1_a0:(Sl Int)) (s2_a1:(Sl Int)) (K:List PA->Prop) (hs:p71 s1_a0 s2_a1=true) (hk:K (e71 (s71 s1_a0 s2_a1))):vcFun Tryd.prog G71 zFv 71 [.one (.sl s1_a0.len 1 (λ i=>zad (s1_a0.get i))),.one (.sl s2_a1.len 1 (λ i=>zad (s2_a1.get i)))] K :=
  zbk (by kernel_rfl) (zFz hs hk rfl rfl rfl)
def zFA : List PA -> COut
  | [.one (.sl zga zmU zgb),.one (.sl zgX zoC zgI)]=>.det (IsE zad 1 zmU zgb/\IsE zad 1 zoC zgI/\p71 (⟨zga,zax zgb⟩:(Sl Int)) (⟨zgX,zax zgI⟩:(Sl Int))=true) [.one (.int .i64 (s71 (⟨zga,zax zgb⟩:(Sl Int)) (⟨zgX,zax zgI⟩:(Sl Int))))]
  | _=>.no
theorem zIY:zaA Tryd.prog 71:=⟨_,rfl,rfl,by kernel_rfl⟩
theorem zNt:Ok Tryd.prog 71 zFA:=zbH zLA zIY λ args K h=>by
  unfold zFA at h
  split at h
  · rename_i zga zmU zgb zgX zoC zgI
    obtain⟨⟨⟨rfl,ziY,rfl⟩,⟨rfl,zld,rfl⟩,hs⟩,hk⟩:=h
    try rw[zck ziY] at hs
    try rw[zck ziY] at hk
    try rw[zck zld] at hs
    try rw[zck zld] at hk
    exact⟨(λ _ _=>[]),(λ _=>false),zFv,q71 (⟨zga,ziY⟩:(Sl Int)) (⟨zgX,zld⟩:(Sl Int)) K hs hk⟩
  · exact h.elim
abbrev T70:Tabs:=(Tabs.nil.addF 71 zFA)
theorem zLB:TabsOk Tryd.prog T70:=(TabsOk.nil.addF zNt)
abbrev G70:Ctrs:=csm T70 (λ _ _=>[]) (λ _=>false)
def zFB:Ann:=⟨33,[(0,zK [0,1] []),(1,zK [0,1,9] []),(3,zK [0,1,5] []),(4,zK [0,1,5,6] []),(5,zK [0,1,5,6,17] []),(6,zK [0,1,5,6] []),(7,zK [0,1,5,6,27] []),(8,zK [0,1,5,6] []),(9,zK [4] [])],
 [(5,zK [0,1,5,6] [])],
 [(3,zK [0,1] []),(8,zK [0,1,5,6,27] [])],
 [],[]⟩
abbrev R70:=(Sl Int)
abbrev e70 (r:R70):List PA:=[.one (.sl r.len 1 (λ i=>zad (r.get i)))]
@[irreducible] def z70:=ptF Tryd.prog G70 zFB Tryd.f70
def zDc (x:(Sl (Sl Int))) (mv1:(Sl Int)) (iv1:Int) (zp7:Nat->List PV):St:=⟨[(0,zS zcv 1 x),(1,zP (.fn 71 [] [])),(5,zP (.sl mv1.len 1 zp7)),(6,zI iv1)],[],[]⟩
abbrev zFC (K:List PA->Prop) (x:(Sl (Sl Int))) (X:St->Prop) (P:(Sl Int)->Int->Bool) (S:(Sl Int)->Int->(Sl Int)):Prop:=∀ ⦃mv1:(Sl Int)⦄ ⦃iv1:Int⦄ ⦃zp7:Nat->List PV⦄,P mv1 iv1=true->K (e70 (S mv1 iv1))->zp7=zg zad mv1->X (zDc x mv1 iv1 zp7)
section
variable {K:List PA->Prop}{x:(Sl (Sl Int))}{mv1:(Sl Int)}{iv1:Int}{zp7:Nat->List PV}{X1:St->Prop}{P1:(Sl Int)->Int->Bool}{S1:(Sl Int)->Int->(Sl Int)}{mv2:(Sl Int)}{iv2:Int}{zsn:Bool}{zIZ:Nat->List PV}
def zyq (S1:(Sl Int)->Int->(Sl Int)) (x:(Sl (Sl Int))) (mv2:(Sl Int)) (iv2:Int) (zsn:Bool):(Sl Int) :=
  (cond zsn
 (S1 (x.get iv2.toNat) (w64 (iv2+(1:Int))))
 (S1 mv2 (w64 (iv2+(1:Int)))))
def zyr (P1:(Sl Int)->Int->Bool) (x:(Sl (Sl Int))) (mv2:(Sl Int)) (iv2:Int) (zsn:Bool):Bool :=
  (cond zsn
 (decide ((0≤iv2/\iv2 < (x.len:Int))) &&
 (P1 (x.get iv2.toNat) (w64 (iv2+(1:Int)))))
 (P1 mv2 (w64 (iv2+(1:Int)))))
theorem zFD (hX1:zFC K x X1 P1 S1) (hs:zyr P1 x mv2 iv2 zsn=true) (hk:K (e70 (zyq S1 x mv2 iv2 zsn))) (zLC:zIZ=zg zad mv2):z70 K [1,1,1,0,1,0,0,1,0,0,1] [X1] ⟨[(0,zS zcv 1 x),(1,zP (.fn 71 [] [])),(5,zP (.sl mv2.len 1 zIZ)),(6,zI iv2),(27,zB zsn)],[],[]⟩:=by subst zLC;exact zbk (by kernel_rfl) (zc hs hk (λ hs hk=>(zaX hs λ hc hs=>And.intro hc (hX1 hs hk rfl))) (λ hs hk=>(hX1 hs hk rfl)))
def zys (x:(Sl (Sl Int))) (S1:(Sl Int)->Int->(Sl Int)) (mv1:(Sl Int)) (iv1:Int):(Sl Int) :=
  (cond (decide (iv1 < (x.len : Int)))
 (zyq S1 x mv1 iv1 (decide ((s71 (x.get iv1.toNat) mv1) < (0:Int))))
 mv1)
def zyt (x:(Sl (Sl Int))) (P1:(Sl Int)->Int->Bool) (mv1:(Sl Int)) (iv1:Int):Bool :=
  (cond (decide (iv1 < (x.len : Int)))
 (decide ((0≤iv1/\iv1 < (x.len:Int))) &&
 (decide ((p71 (x.get iv1.toNat) mv1=true)) &&
 (zyr P1 x mv1 iv1 (decide ((s71 (x.get iv1.toNat) mv1) < (0:Int))))))
 true)
def zyu (x:(Sl (Sl Int))):Nat->(Sl Int)->Int->(Sl Int):=lpO (λ _ _=>default) (zys x)
def zyv (x:(Sl (Sl Int))):Nat->(Sl Int)->Int->Bool:=lpO (λ _ _=>false) (zyt x)
def zyw (x:(Sl (Sl Int))) (mv1:(Sl Int)) (iv1:Int):(Sl Int):=zyu x Fuel mv1 iv1
def zyx (x:(Sl (Sl Int))) (mv1:(Sl Int)) (iv1:Int):Bool:=zyv x Fuel mv1 iv1
theorem zFE (hs:zyx x mv1 iv1=true) (hk:K (e70 (zyw x mv1 iv1))) (zFF:zp7=zg zad mv1):z70 K [1,1,1,0,1,0] [] (zDc x mv1 iv1 zp7) :=
  zl (λ X=>z70 K [1,1,1,0,1,0,0] [X]) (by kernel_rfl) λ X1 hX =>
  (show ∀ k, zFC K x X1 (zyv x k) (zyu x k) from ziH _ _ (zyt x) (zys x) (zFC K x X1)
 (by intro _ _ _ hs;exact absurd hs Bool.false_ne_true)
 (by intro P1 S1 hX1 mv1 iv1 zp7 hs hk zFF;subst zFF;exact hX _ (zbk (by kernel_rfl) (zc hs hk (λ hs hk=>(zaX hs λ hc hs=>And.intro hc (zaX hs λ hc hs=>And.intro (And.intro (zE zad 1 ((x.get iv1.toNat).get)) (And.intro (zE zad 1 mv1.get) hc)) (zFD hX1 hs hk rfl)))) (λ hs hk=>hk))))) _ hs hk zFF
def zyy (x:(Sl (Sl Int))):(Sl Int) :=
  (zyw x (x.get 0) (1:Int))
def zyz (x:(Sl (Sl Int))):Bool :=
  (decide ((0≤(0:Int)/\(0:Int) < (x.len:Int))) &&
 (zyx x (x.get 0) (1:Int)))
theorem zFG (hs:zyz x=true) (hk:K (e70 (zyy x))):z70 K [1,1] [] ⟨[(0,zS zcv 1 x),(1,zP (.fn 71 [] []))],[],[]⟩:=zbk (by kernel_rfl) (zaX hs λ hc hs=>And.intro hc (zFE hs hk rfl))
def s70 (x:(Sl (Sl Int))):(Sl Int) :=
  (cond (decide ((x.len : Int) < (1:Int)))
 default
 (zyy x))
def p70 (x:(Sl (Sl Int))):Bool :=
  (cond (decide ((x.len : Int) < (1:Int)))
 false
 (zyz x))
end
theorem q70 (x:(Sl (Sl Int))) (K:List PA->Prop) (hs:p70 x=true) (hk:K (e70 (s70 x))):vcFun Tryd.prog G70 zFB 70 [.one (.sl x.len 1 (λ i=>zcv (x.get i))),.one (.fn 71 [] [])] K :=
  zbk (by kernel_rfl) (zc hs hk (λ hs hk=>(absurd hs Bool.false_ne_true:False)) (λ hs hk=>(zFG hs hk)))
def zFH : List PA -> COut
  | [.one (.sl zga zmU zgb),.one (.fn 71 [] [])]=>.det (IsE zcv 1 zmU zgb/\p70 (⟨zga,znR zgb⟩:(Sl (Sl Int)))=true) [.one (.sl ((s70 (⟨zga,znR zgb⟩:(Sl (Sl Int)))).len) 1 (λ i=>zad ((s70 (⟨zga,znR zgb⟩:(Sl (Sl Int)))).get i)))]
  | _=>.no
theorem zI0:zaA Tryd.prog 70:=⟨_,rfl,rfl,by kernel_rfl⟩
theorem zNu:Ok Tryd.prog 70 zFH:=zbH zLB zI0 λ args K h=>by
  unfold zFH at h
  split at h
  · rename_i zga zmU zgb
    obtain⟨⟨⟨rfl,ziY,rfl⟩,hs⟩,hk⟩:=h
    try rw[zk6 ziY] at hs
    try rw[zk6 ziY] at hk
    exact⟨(λ _ _=>[]),(λ _=>false),zFB,q70 (⟨zga,ziY⟩:(Sl (Sl Int))) K hs hk⟩
  · exact h.elim
end Go.Proofs
namespace Go.Pm
open Go.RowKit (Below)
section
variable (P:Program) (Γ:Ctrs)
def zue (fi : FuncId) : Code -> Option (Nat × Nat)
  | .region id ops false=>match ops.toList with
    | [o1,o2]=>match o1.op,o1.dst,o1.guard,o2.op,o2.dst,o2.guard with
      | .makeFunc (.func f) first caps,some t,none,.defer { callee:=.value (.tmp t'),args,argTypes:=_ },none,none=>match Nat.beq f fi && Nat.beq t t' && first.isEmpty && args.isEmpty && Nat.beq caps.size 2 with
        | true=>some (id,t)
        | false=>none
      | _,_,_,_,_,_=>none
    | _=>none
  | _=>none
def zCa (fi : FuncId) (ann : Ann) : Code -> (Exit -> St -> Prop) -> St -> Prop
  | .seq a b,K,σ=>match zue fi a with
    | some (id,t)=>match Nat.blt t ann.nt with
      | true=>zDR P ann id (vc P Γ ann b K) ⟨(t,.junk) :: σ.env,σ.objs,[]⟩
      | false=>False
    | none=>vc P Γ ann a (zCE (zCa fi ann b K) K) σ
  | c,K,σ=>vc P Γ ann c K σ
def zuf (fi:FuncId) (ann:Ann) (f:FuncId) (args:List PA) (K:List PA->Prop):Prop :=
 match P.funcs[f]? with
 | some fn=>match fn.body with
  | some c=>match Nat.beq ann.nt fn.ntmps && Nat.ble args.length ann.nt with
   | true=>zCa P Γ fi ann c (zbp P fn K) ⟨zhQ 0 args,[],[]⟩
   | false=>False
  | none=>False
 | none=>False
end
section
variable {P:Program}{Γ:Ctrs}{B:Nat}{w0:World}
theorem zm1 {fi:FuncId}{c:Code}{id t:Nat}(h:zue fi c=some (id,t)):∃ (o1 o2:Oper) (caps:Array Operand) (ats:Array TypeId),c=.region id #[o1,o2] false/\caps.size=2/\o1.op=.makeFunc (.func fi) #[] caps/\o1.dst=some t/\o1.guard=none /\
  o2.op=.defer { callee:=.value (.tmp t),args:=#[],argTypes:=ats }/\o2.dst=none/\o2.guard=none:=by
 unfold zue at h
 split at h
 ·rename_i id' ops
  split at h
  ·rename_i o1 o2 hops
   split at h
   ·rename_i f first caps t' t2 args ats e1 e2 e3 e4 e5 e6
    split at h
    ·rename_i hc
     simp only[Bool.and_eq_true] at hc
     simp only[Option.some.injEq,Prod.mk.injEq] at h
     obtain⟨rfl,rfl⟩:=h
     obtain⟨⟨⟨⟨h1,h2⟩,h3⟩,h4⟩,h5⟩:=hc
     have h5:=Nat.eq_of_beq_eq_true h5
     have h1:=Nat.eq_of_beq_eq_true h1
     have h2:=Nat.eq_of_beq_eq_true h2
     have h3:first = #[]:=by simpa using h3
     have h4:args = #[]:=by simpa using h4
     subst h1 h2 h3 h4
     refine⟨o1,o2,caps,ats,?_,h5,e1,e2,e3,e4,e5,e6⟩
     rw[← Array.toArray_toList (xs:=ops),hops]
    ·cases h
   ·cases h
  ·cases h
 ·cases h
theorem zvp {fi : FuncId}(hidle : ∀ caps : Array Value, caps.size = 2 -> znh P { target := .fn (.func fi) caps, args := #[] }) {c : Code} {id t nt n : Nat} {h0 : Fz} {D : List Nat} {a0 a : Act} {σ : St} {g : Gh} {w : World} {Q : Exit -> Act -> World -> Prop}
    (h:zue fi c=some (id,t)) (ht:t < nt) (htD:t∈D) (S:Sim P nt B w0 h0 g σ a w) (hkp:Kp D a0 a)
    (hQ:∀ a',Sim P nt B w0 h0 g ⟨(t,.junk) :: σ.env,σ.objs,[]⟩ a' w->Kp D a0 a'->Q .normal a' w):c.wpIn (FR none) n P Q a w:=by
  obtain⟨o1,o2,caps,ats,rfl,e0,e1,e2,e3,e4,e5,e6⟩:=zm1 h
  refine wpIn_region ?_
  show wpOpsIn (FR none) n P #[o1,o2] Q [0,1] a w
  have w1:∀ tm,Region.wanted o1 (yielded #[o1,o2] tm)=true:=λ tm=>by simp[Region.wanted,e3]
  have w2:∀ tm,Region.wanted o2 (yielded #[o1,o2] tm)=true:=λ tm=>by simp[Region.wanted,e6]
  have r1:(execOp a.eval o1).run P w=.ok (.value (.func (.func fi) #[] (caps.map a.eval))) w:=by
    simp only[execOp,e1,Instr.makeFunc,Sem.run_bind,Sem.run_pure,Result.andThen_ok];simp
  have ets:t < a.tmps.size:=Nat.lt_of_lt_of_le ht S.size
  have ev:(a.put (some t) (.func (.func fi) #[] (caps.map a.eval))).eval (.tmp t)=.func (.func fi) #[] (caps.map a.eval):=by
    simp[Act.put,Act.eval,Array.getD_eq_getD_getElem?,ets]
  have r2:(execOp (a.put (some t) (.func (.func fi) #[] (caps.map a.eval))).eval o2).run P w=.ok (.defer { target:=.fn (.func fi) (caps.map a.eval),args:=#[] }) w:=by
    simp only[execOp,e4,resolve,Sem.run_bind,ev,Deferred.ofValue,Sem.run_pure,Result.andThen_ok];simp
  show (if Region.wanted o1 (yielded #[o1,o2] a.tmps) then o1.wpIn (FR none) n P a w (wpOpsIn (FR none) n P #[o1,o2] Q [1]) Q else _)
  rw[if_pos (w1 _)]
  refine⟨λ _ _=>trivial,?_⟩
  rw[show o1.semAt (FR none).round a.eval=execOp a.eval o1 from rfl,r1]
  show wpOpsIn (FR none) n P #[o1,o2] Q [1] (a.put o1.dst _) w
  rw[e2]
  show (if Region.wanted o2 (yielded #[o1,o2] (a.put (some t) _).tmps) then o2.wpIn (FR none) n P (a.put (some t) _) w (wpOpsIn (FR none) n P #[o1,o2] Q []) Q else _)
  rw[if_pos (w2 _)]
  refine⟨λ _ _=>trivial,?_⟩
  have r3:Sem.run P (o2.semAt (FR none).round (a.put (some t) (.func (.func fi) #[] (caps.map a.eval))).eval) w=.ok (.defer { target:=.fn (.func fi) (caps.map a.eval),args:=#[] }) w:=r2
  rw[r3]
  have S1:=S.put (dst:=some t) (d:=.junk) (v:=.func (.func fi) #[] (caps.map a.eval)) (by simpa [zbS,Nat.blt_eq] using ht) trivial (λ L hL=>by simp[za8,zby,zaN] at hL) []
  refine hQ _ (S1.act ?_ ?_ ?_) ?_
  · obtain⟨es, m1, m2, m3, m4⟩ := S1.dfr
    refine⟨.inr { target:=.fn (.func fi) (caps.map a.eval),args:=#[] } :: es,m1,?_,λ E hE=>?_,λ d hd=>?_⟩
    · rw[e5,List.map_cons,← m2];rfl
    · rcases List.mem_cons.1 hE with e | hE
      · cases e
      · exact m3 E hE
    · rcases List.mem_cons.1 hd with e | hd
      · cases e;exact hidle _ (by simpa using e0)
      · exact m4 d hd
  · rw[e5];exact S1.size
  · rw[e5];exact S1.env
  · rw[e5]
    exact hkp.put (dst:=some t) (λ z hz=>by cases hz;exact htD) _ a.defers
theorem zyA (hok:OkAll P Γ){fi:FuncId}(hidle:∀ caps:Array Value,caps.size=2->znh P { target:=.fn (.func fi) caps,args:=#[] }) (ann:Ann):∀ (c:Code) (n:Nat) (h0:Fz) (D:List Nat) (a0:Act) (K:Exit->St->Prop) (σ:St) (g:Gh) (a:Act) (w:World),
  (∀ t∈zhO c,t∈D)->zCa P Γ fi ann c K σ->Sim P ann.nt B w0 h0 g σ a w->Kp D a0 a->c.wpIn (FR none) n P (PostR P ann.nt B w0 h0 D a0 K) a w
 | .seq x y,n,h0,D,a0,K,σ,g,a,w,hD,h,S,hkp=>by
  have hDx:∀ t∈zhO x,t∈D:=λ t ht=>hD t (List.mem_append.2 (.inl ht))
  have hDy:∀ t∈zhO y,t∈D:=λ t ht=>hD t (List.mem_append.2 (.inr ht))
  simp only[zCa] at h
  split at h
  ·rename_i id t hdf
   split at h
   ·rename_i hlt
    have ht:t < ann.nt:=by simpa [Nat.blt_eq] using hlt
    have htD:t∈D:=by
     obtain⟨o1,o2,caps,ats,rfl,_,_,e2,_,_,e5,_⟩:=zm1 hdf
     exact hDx t (by simp[zhO,zvD,e2])
    refine wpIn_seq (zvp hidle hdf ht htD S hkp λ a' S' hk'=>?_)
    have hk:∀ s g2,vc P Γ ann y K s->Sim P ann.nt B w0 h0 g2 s a' w->y.wpIn (FR none) n P (PostR P ann.nt B w0 h0 D a0 K) a' w:=λ s g2 hv S2=>zdN hok ann y none n h0 D a0 K s g2 a' w hDy (Rnd.none h0) hv S2 hk'
    unfold zDR at h
    split at h
    ·split at h
     ·rename_i s hs
      obtain⟨g2,S2⟩:=zbI hs S'
      exact hk s g2 h S2
     ·exact h.elim
    ·exact hk _ g h S'
   ·exact h.elim
  ·refine wpIn_seq (wpIn_mono (zdN hok ann x none n h0 D a0 _ σ g a w hDx (Rnd.none h0) h S hkp) ?_)
   rintro e a' w' ⟨g',σ',hK,S',hk'⟩
   cases e with
   | normal=>exact zyA hok hidle ann y n h0 D a0 K σ' g' a' w' hDy hK S' hk'
   | exit id=>exact⟨g',σ',hK,S',hk'⟩
   | goto l=>exact⟨g',σ',hK,S',hk'⟩
   | ret=>exact⟨g',σ',hK,S',hk'⟩
   | panic ch=>exact⟨g',σ',hK,S',hk'⟩
   | outgrown=>exact⟨g',σ',hK,S',hk'⟩
 | .skip,n,h0,D,a0,K,σ,g,a,w,hD,h,S,hkp=>zdN hok ann .skip none n h0 D a0 K σ g a w hD (Rnd.none h0) h S hkp
 | .region i o d,n,h0,D,a0,K,σ,g,a,w,hD,h,S,hkp=>zdN hok ann (.region i o d) none n h0 D a0 K σ g a w hD (Rnd.none h0) h S hkp
 | .cond c x y,n,h0,D,a0,K,σ,g,a,w,hD,h,S,hkp=>zdN hok ann (.cond c x y) none n h0 D a0 K σ g a w hD (Rnd.none h0) h S hkp
 | .block i x,n,h0,D,a0,K,σ,g,a,w,hD,h,S,hkp=>zdN hok ann (.block i x) none n h0 D a0 K σ g a w hD (Rnd.none h0) h S hkp
 | .loop x,n,h0,D,a0,K,σ,g,a,w,hD,h,S,hkp=>zdN hok ann (.loop x) none n h0 D a0 K σ g a w hD (Rnd.none h0) h S hkp
 | .scope x,n,h0,D,a0,K,σ,g,a,w,hD,h,S,hkp=>zdN hok ann (.scope x) none n h0 D a0 K σ g a w hD (Rnd.none h0) h S hkp
 | .exit i,n,h0,D,a0,K,σ,g,a,w,hD,h,S,hkp=>zdN hok ann (.exit i) none n h0 D a0 K σ g a w hD (Rnd.none h0) h S hkp
 | .goto i,n,h0,D,a0,K,σ,g,a,w,hD,h,S,hkp=>zdN hok ann (.goto i) none n h0 D a0 K σ g a w hD (Rnd.none h0) h S hkp
 | .label i,n,h0,D,a0,K,σ,g,a,w,hD,h,S,hkp=>zdN hok ann (.label i) none n h0 D a0 K σ g a w hD (Rnd.none h0) h S hkp
 | .ret,n,h0,D,a0,K,σ,g,a,w,hD,h,S,hkp=>zdN hok ann .ret none n h0 D a0 K σ g a w hD (Rnd.none h0) h S hkp
 | .rangeFunc f p x y,n,h0,D,a0,K,σ,g,a,w,hD,h,S,hkp=>zdN hok ann (.rangeFunc f p x y) none n h0 D a0 K σ g a w hD (Rnd.none h0) h S hkp
 | .refuse x,n,h0,D,a0,K,σ,g,a,w,hD,h,S,hkp=>zdN hok ann (.refuse x) none n h0 D a0 K σ g a w hD (Rnd.none h0) h S hkp
theorem zCb {G : Ctrs}(hok : OkAll P G){f fi : FuncId}(hidle : ∀ caps : Array Value, caps.size = 2 -> znh P { target := .fn (.func fi) caps, args := #[] }) {args : List PA} {K : List PA -> Prop} {ann : Ann} (hv : zuf P G fi ann f args K) {w : World} {h0 : Fz} {vs : List Value} (hvs : RL (paR h0) args vs) (hfz : Hw h0 w) (hgl : zev h0) :
  Calls P f vs.toArray w λ e w'=>∃ (h':Fz) (rs:List PA) (v:Value),K rs/\e=.returned v/\zoB h' rs v/\Bel h0 w.heap.size w w' /\
   Fle h0 h'/\Hw h' w'/\∀ b o,h' b=some o->h0 b=some o∨w.heap.size≤b:=by
 unfold zuf at hv
 split at hv
 ·rename_i fn hfn
  split at hv
  ·rename_i c hbody
   split at hv
   ·rename_i hnt
    simp only[Bool.and_eq_true,Nat.ble_eq] at hnt
    have S:=zk1 (P:=P) (Nat.eq_of_beq_eq_true hnt.1) hnt.2 hvs hfz hgl
    have hwp:=zyA (B:=w.heap.size) (w0:=w) hok hidle ann c 0 h0 (zhO c) _ _ _ _ _ _ (λ _ h=>h) hv S (Kp.refl _ _)
    refine (callsIn_wide (n:=0)).1 ?_
    refine callsIn_of_wp_marks (F:=FR none) hfn hbody trivial (wpIn_mono hwp ?_)
    have h0b:∀ b,h0 b=some (.fz (.deferred (some [])))->b < w.heap.size:=λ b h=>hfz.lt h
    rintro e a' w' ⟨g',σ',hK',S',_⟩
    have fin:zHo P fn K σ'->LeavesInM (FR none) 0 P fn a'.tmps (λ e w'=>∃ (h':Fz) (rs:List PA) (v:Value),K rs/\e=.returned v/\zoB h' rs v/\Bel h0 w.heap.size w w' /\
      Fle h0 h'/\Hw h' w'/\∀ b o,h' b=some o->h0 b=some o∨w.heap.size≤b) a'.defers .returning w':=by
     intro hf
     obtain⟨Ds,h1,h2,h3,h4⟩:=S'.dfr
     refine zk0 h0b Ds g' a' w' h1 h2 h3 h4 S' λ g2 a2 w2 _ S2=>?_
     unfold zHo at hf
     split at hf
     ·rename_i l hl
      obtain⟨u,v,hu,hrun,hres⟩:=zkZ S2 hl
      obtain⟨h',S3,F⟩:=S2.freeze hu
      exact⟨v,hrun,h',l,v,hf,rfl,hres h' F,S3.below,S3.le0,S3.hw,S3.hn⟩
     ·exact hf.elim
    cases e with
    | normal=>exact fin hK'
    | ret=>exact fin hK'
    | exit id=>exact hK'.elim
    | goto l=>exact hK'.elim
    | panic ch=>exact hK'.elim
    | outgrown=>exact hK'.elim
   ·exact hv.elim
  ·exact hv.elim
 ·exact hv.elim
theorem zCc {T : Tabs}(hT : TabsOk P T){f fi : FuncId}{C : List PA -> COut}(hc : zaA P f) (hidle : ∀ caps : Array Value, caps.size = 2 -> znh P { target := .fn (.func fi) caps, args := #[] })
    (h:∀ args K,(C args).wp K->∃ args',RL PAle args args'/\∃ memo vv ann,zuf P (csm T memo vv) fi ann f args' (Wk K)):Ok P f C:=by
  intro args K hK w h0 vs hvs hfz hgl
  obtain⟨args',hle,memo,vv,ann,hv⟩:=h args K hK
  refine⟨hc,(zCb (hT.all memo vv) hidle hv (zw3 (R:=paR h0) (S:=PAle) (T:=paR h0) (λ _ _ _ e r=>zBC e r) _ _ _ hle hvs) hfz hgl).mono ?_⟩
  rintro e w' ⟨h',rs,v,⟨rs',hr,hk⟩,he,hres,rest⟩
  exact⟨h',rs',v,hk,he,zw4 hr hres,rest⟩
end
end Go.Pm
namespace Go.Pm
open Go Go.Proofs
set_option maxRecDepth 100000
theorem zI1:∀ caps:Array Value,caps.size=2->znh Tryd.prog { target:=.fn (.func 68) caps,args:=#[] }:=λ caps hc=>by
 match caps,hc with
 | ⟨[x,y]⟩,_ =>
 refine⟨.func 68,#[x,y],68,#[x,y],rfl,λ w=>?_,λ n w=>?_⟩
 ·have h : zaA Tryd.prog 68 := ⟨_, rfl, rfl, by kernel_rfl⟩
  show (callFunc 68 (#[] ++ #[x,y])).run Tryd.prog w=_
  exact zcA h
 have key:CallsDIn { fn:=λ _=>True,depth:=none,alive:=false,round:=none } n Tryd.prog 68 #[x,y] .returning w λ e u' w'=>e=.returned (.tuple #[])/\u'=.returning/\w'=w:=by
  refine callsDIn_of_wpSIn Tryd.func68 rfl trivial λ c₀ cs hu=>?_
  apply wpSIn_seq
  apply wpSIn_region
  simp[wpOpsSIn,go_sem,recoverD,hu,Tryd.ntmps68,Exit.thenS]
  apply wpSIn_seq
  apply wpSIn_region
  simp[wpOpsSIn,go_sem,recoverD,hu,Tryd.ntmps68,Exit.thenS]
  refine wpSIn_cond (t:=false) (by simp[Act.eval,Array.replicate]) ?_
  simp only[Bool.false_eq_true,if_false]
  refine wpSIn_of_wpIn rfl (wpIn_skip ?_)
  cases c₀
  simp_all [bodyPostS,results,Tryd.results68]
 exact key.mono λ e u' w' h=>⟨⟨_,h.1⟩,h.2⟩
end Go.Pm
namespace Go.Proofs
open Go Go.Pm
set_option maxRecDepth 100000
set_option linter.unusedVariables false
attribute [local irreducible] Go.Pm.vcFun Go.Pm.vc Go.Pm.vcIter
abbrev T22:Tabs:=(((Tabs.nil.addF 67 zxg).addM 69 zIW).addF 70 zFH)
theorem zLD:TabsOk Tryd.prog T22:=(((TabsOk.nil.addF zK8).addM zNs).addF zNu)
abbrev G22:Ctrs:=csm T22 (λ _ _=>[]) (λ l=>Nat.beq l 12)
def zFI:Ann:=⟨29,[(0,zK [1,2,3] [1,2,3]),(1,zK [1,2,3,9] [1,2,3]),(2,zK [2,3] [2,3]),(3,zK [1,2,3] [1,2,3]),(4,zK [2,3,4] [2,3,12,14]),(5,zK [2,3,4,15] [2,3,12,14]),(6,zK [2,3,4,15,16] [2,3,12,14]),(7,zK [2,3,4,5,15] [2,3,12,14]),(8,zK [2,3,4,6,15] [2,3,12,14]),(9,zK [2,3,4,6,15,23] [2,3,12,14]),(10,zK [2,3] [2,3]),(11,zK [2,3,4,15] [2,3,12,14])],
 [(6,zK [2,3,4,15] [2,3,12,14])],
 [],
 [],[]⟩
abbrev R22:=((Sl Int)×Int)
abbrev e22 (r:R22):List PA:=[.one (.sl r.1.len 1 (λ i=>zad (r.1.get i))),.one (.int .i64 r.2)]
@[irreducible] def z22:=ptF Tryd.prog G22 zFI Tryd.f22
def zDd (zaQ:Int) (zbE:Int) (zbu:(Sl Tie)) (zbF:Nat) (zbG:(List Int->Option (List Int))) (zdE:Nat->List PV):St:=⟨[(2,zp 2 0),(3,zp 3 0),(4,zp 14 0),(15,zI zaQ)],[(2,.box 27 [.p (.nils)]),(3,.box 28 [zi (0:Int)]),(12,.mo 3 4 (false,1,false,[none]) zbF zbG),(14,.box 105 [zi zbE,.p (.sl zbu.len 4 zdE),.mo 12])],[]⟩
abbrev zI2 (K:List PA->Prop) (X:St->Prop) (P:Int->Int->(Sl Tie)->Nat->(List Int->Option (List Int))->Bool) (S:Int->Int->(Sl Tie)->Nat->(List Int->Option (List Int))->((Sl Int)×Int)):Prop:=∀ ⦃zaQ:Int⦄ ⦃zbE:Int⦄ ⦃zbu:(Sl Tie)⦄ ⦃zbF:Nat⦄ ⦃zbG:(List Int->Option (List Int))⦄ ⦃zdE:Nat->List PV⦄,P zaQ zbE zbu zbF zbG=true->K (e22 (S zaQ zbE zbu zbF zbG))->zdE=zg enc_40 zbu->X (zDd zaQ zbE zbu zbF zbG zdE)
section
variable {K:List PA->Prop}{n:Net}{zaQ:Int}{zbE:Int}{zbu:(Sl Tie)}{zbF:Nat}{zbG:(List Int->Option (List Int))}{zdE:Nat->List PV}{X0:St->Prop}{P0:Int->Int->(Sl Tie)->Nat->(List Int->Option (List Int))->Bool}{S0:Int->Int->(Sl Tie)->Nat->(List Int->Option (List Int))->((Sl Int)×Int)}
def zyB (S0:Int->Int->(Sl Tie)->Nat->(List Int->Option (List Int))->((Sl Int)×Int)) (zaQ:Int) (zbE:Int) (zbu:(Sl Tie)) (zbF:Nat) (zbG:(List Int->Option (List Int))):((Sl Int)×Int) :=
  (cond (decide (zaQ < (4:Int)))
 (cond (decide ((((s69 (⟨(⟨zbE, zbu⟩ : Net), (⟨zbF, zbG⟩ : Mp)⟩ : web) zaQ).1).len : Int) > (0:Int)))
 ((s70 ((s69 (⟨(⟨zbE,zbu⟩:Net),(⟨zbF,zbG⟩:Mp)⟩:web) zaQ).1)),(0:Int))
 (S0 (w64 (zaQ+(1:Int))) (((s69 (⟨(⟨zbE,zbu⟩:Net),(⟨zbF,zbG⟩:Mp)⟩:web) zaQ).2).Net.Nodes) (((s69 (⟨(⟨zbE,zbu⟩:Net),(⟨zbF,zbG⟩:Mp)⟩:web) zaQ).2).Net.Ties) ((((s69 (⟨(⟨zbE,zbu⟩:Net),(⟨zbF,zbG⟩:Mp)⟩:web) zaQ).2).out).n) ((((s69 (⟨(⟨zbE,zbu⟩:Net),(⟨zbF,zbG⟩:Mp)⟩:web) zaQ).2).out).F)))
 default)
def zyC (P0:Int->Int->(Sl Tie)->Nat->(List Int->Option (List Int))->Bool) (zaQ:Int) (zbE:Int) (zbu:(Sl Tie)) (zbF:Nat) (zbG:(List Int->Option (List Int))):Bool :=
  (cond (decide (zaQ < (4:Int)))
 (decide ((p69 (⟨(⟨zbE,zbu⟩:Net),(⟨zbF,zbG⟩:Mp)⟩:web) zaQ=true)) &&
 (cond (decide ((((s69 (⟨(⟨zbE, zbu⟩ : Net), (⟨zbF, zbG⟩ : Mp)⟩ : web) zaQ).1).len : Int) > (0:Int)))
 (decide ((p70 ((s69 (⟨(⟨zbE,zbu⟩:Net),(⟨zbF,zbG⟩:Mp)⟩:web) zaQ).1)=true)) &&
 true)
 (P0 (w64 (zaQ+(1:Int))) (((s69 (⟨(⟨zbE,zbu⟩:Net),(⟨zbF,zbG⟩:Mp)⟩:web) zaQ).2).Net.Nodes) (((s69 (⟨(⟨zbE,zbu⟩:Net),(⟨zbF,zbG⟩:Mp)⟩:web) zaQ).2).Net.Ties) ((((s69 (⟨(⟨zbE,zbu⟩:Net),(⟨zbF,zbG⟩:Mp)⟩:web) zaQ).2).out).n) ((((s69 (⟨(⟨zbE,zbu⟩:Net),(⟨zbF,zbG⟩:Mp)⟩:web) zaQ).2).out).F))))
 false)
def zyD:Nat->Int->Int->(Sl Tie)->Nat->(List Int->Option (List Int))->((Sl Int)×Int):=lpO (λ _ _ _ _ _=>default) (zyB)
def zyE:Nat->Int->Int->(Sl Tie)->Nat->(List Int->Option (List Int))->Bool:=lpO (λ _ _ _ _ _=>false) (zyC)
def zyF (zaQ:Int) (zbE:Int) (zbu:(Sl Tie)) (zbF:Nat) (zbG:(List Int->Option (List Int))):((Sl Int)×Int):=zyD Fuel zaQ zbE zbu zbF zbG
def zyG (zaQ:Int) (zbE:Int) (zbu:(Sl Tie)) (zbF:Nat) (zbG:(List Int->Option (List Int))):Bool:=zyE Fuel zaQ zbE zbu zbF zbG
theorem zFJ (hs:zyG zaQ zbE zbu zbF zbG=true) (hk:K (e22 (zyF zaQ zbE zbu zbF zbG))) (zl2:zdE=zg enc_40 zbu):z22 (Wk K) [1,1,1,1,0,1,0] [] (zDd zaQ zbE zbu zbF zbG zdE) :=
  zl (λ X=>z22 (Wk K) [1,1,1,1,0,1,0,0] [X]) (by kernel_rfl) λ X0 hX =>
  (show ∀ k, zI2 K X0 (zyE k) (zyD k) from ziH _ _ (zyC) (zyB) (zI2 K X0)
 (by intro _ _ _ _ _ _ hs;exact absurd hs Bool.false_ne_true)
 (by intro P0 S0 hX0 zaQ zbE zbu zbF zbG zdE hs hk zl2;subst zl2;exact hX _ (zbk (by kernel_rfl) (zc hs hk (λ hs hk=>(zaX hs λ hc hs=>And.intro (And.intro (zE enc_40 4 zbu.get) (And.intro (rfl:((false,1,false,[none]):MQ)=(false,1,false,[none])) hc)) (zc hs hk (λ hs hk=>(zaX hs λ hc hs=>And.intro (And.intro (zE zcv 1 (((s69 (⟨(⟨zbE,zbu⟩:Net),(⟨zbF,zbG⟩:Mp)⟩:web) zaQ).1).get)) hc) ((zg5 hk):Wk K [.one (.sl ((s70 ((s69 (⟨(⟨zbE,zbu⟩:Net),(⟨zbF,zbG⟩:Mp)⟩:web) zaQ).1)).len) 1 (λ i=>zad ((s70 ((s69 (⟨(⟨zbE,zbu⟩:Net),(⟨zbF,zbG⟩:Mp)⟩:web) zaQ).1)).get i))),.one (.int .i64 (0:Int))]))) (λ hs hk=>(hX0 hs hk rfl))))) (λ hs hk=>(absurd hs Bool.false_ne_true:False)))))) _ hs hk zl2
def s22 (n:Net):((Sl Int)×Int) :=
  (cond (!(s67 n))
 ((⟨0,λ _=>default⟩:(Sl Int)),(2:Int))
 (zyF (0:Int) n.Nodes n.Ties 0 (λ _=>none)))
def p22 (n:Net):Bool :=
  (decide ((p67 n=true)) &&
 (cond (!(s67 n))
 true
 (zyG (0:Int) n.Nodes n.Ties 0 (λ _=>none))))
end
theorem q22 (n:Net) (K:List PA->Prop) (hs:p22 n=true) (hk:K (e22 (s22 n))):zuf Tryd.prog G22 68 zFI 22 [.agg (enc_24 n)] (Wk K) :=
  zbk (by kernel_rfl) (zaX hs λ hc hs=>And.intro (And.intro (zE enc_40 4 n.Ties.get) hc) (zc hs hk (λ hs hk=>((wk hk (zis (.one (.nil _ _)) (zis (.one (.rfl _)) zpt))):Wk K [.one (.nils),.one (.int .i64 (2:Int))])) (λ hs hk=>(zFJ hs hk rfl))))
def zFK : List PA -> COut
  | [.agg [.int .i64 zaj,.sl zaf zaB zae]]=>.det (IsE enc_40 4 zaB zae/\p22 (⟨zaj,(⟨zaf,zar zae⟩:(Sl Tie))⟩:Net)=true) [.one (.sl (((s22 (⟨zaj,(⟨zaf,zar zae⟩:(Sl Tie))⟩:Net)).1).len) 1 (λ i=>zad (((s22 (⟨zaj,(⟨zaf,zar zae⟩:(Sl Tie))⟩:Net)).1).get i))),.one (.int .i64 ((s22 (⟨zaj,(⟨zaf,zar zae⟩:(Sl Tie))⟩:Net)).2))]
  | _=>.no
theorem zI3:zaA Tryd.prog 22:=⟨_,rfl,rfl,by kernel_rfl⟩
theorem zNv:Ok Tryd.prog 22 zFK:=zCc zLD zI3 zI1 λ args K h=>by
  unfold zFK at h
  split at h
  · rename_i zaj zaf zaB zae
    obtain⟨⟨⟨rfl,zat,rfl⟩,hs⟩,hk⟩:=h
    try rw[zao zat] at hs
    try rw[zao zat] at hk
    exact⟨_,zf5 zg4 _,(λ _ _=>[]),(λ l=>Nat.beq l 12),zFI,q22 (⟨zaj,(⟨zaf,zat⟩:(Sl Tie))⟩:Net) K hs hk⟩
  · exact h.elim
abbrev T25:Tabs:=Tabs.nil
theorem zLE:TabsOk Tryd.prog T25:=TabsOk.nil
abbrev G25:Ctrs:=csm T25 (λ _ _=>[]) (λ _=>false)
def zFL:Ann:=⟨26,[(0,zK [0,1] []),(1,zK [0,1,10] []),(2,zK [4] []),(3,zK [0,1,5] []),(4,zK [0,1,5,14] []),(5,zK [0,1,5] []),(6,zK [0,1,5,25] []),(7,zK [4] []),(8,zK [4] [])],
 [(4,zK [0,1,5] [])],
 [(3,zK [0,1] [])],
 [],[]⟩
abbrev R25:=Bool
abbrev e25 (r:R25):List PA:=[.one (.bool r)]
@[irreducible] def z25:=ptF Tryd.prog G25 zFL Tryd.f25
def zDe (a:(Sl Int)) (b:(Sl Int)) (iv1:Int):St:=⟨[(0,zS zad 1 a),(1,zS zad 1 b),(5,zI iv1)],[],[]⟩
abbrev zI4 (K:List PA->Prop) (a:(Sl Int)) (b:(Sl Int)) (X:St->Prop) (P:Int->Bool) (S:Int->Bool):Prop:=∀ ⦃iv1:Int⦄,P iv1=true->K (e25 (S iv1))->X (zDe a b iv1)
section
variable {K:List PA->Prop}{a:(Sl Int)}{b:(Sl Int)}{iv1:Int}{X1:St->Prop}{P1:Int->Bool}{S1:Int->Bool}
def zyH (a:(Sl Int)) (b:(Sl Int)) (S1:Int->Bool) (iv1:Int):Bool :=
  (cond (decide (iv1 < (a.len : Int)))
 (cond ((a.get iv1.toNat) != (b.get iv1.toNat))
 false
 (S1 (w64 (iv1+(1:Int)))))
 true)
def zyI (a:(Sl Int)) (b:(Sl Int)) (P1:Int->Bool) (iv1:Int):Bool :=
  (cond (decide (iv1 < (a.len : Int)))
 (decide ((0≤iv1/\iv1 < (a.len:Int))) &&
 (decide ((0≤iv1/\iv1 < (b.len:Int))) &&
 (cond ((a.get iv1.toNat) != (b.get iv1.toNat))
 true
 (P1 (w64 (iv1+(1:Int)))))))
 true)
def zyJ (a:(Sl Int)) (b:(Sl Int)):Nat->Int->Bool:=lpO (λ _=>default) (zyH a b)
def zyK (a:(Sl Int)) (b:(Sl Int)):Nat->Int->Bool:=lpO (λ _=>false) (zyI a b)
def zyL (a:(Sl Int)) (b:(Sl Int)) (iv1:Int):Bool:=zyJ a b Fuel iv1
def zyM (a:(Sl Int)) (b:(Sl Int)) (iv1:Int):Bool:=zyK a b Fuel iv1
theorem zFM (hs:zyM a b iv1=true) (hk:K (e25 (zyL a b iv1))):z25 K [1,1,0,1,0] [] (zDe a b iv1) :=
  zl (λ X=>z25 K [1,1,0,1,0,0] [X]) (by kernel_rfl) λ X1 hX =>
  (show ∀ k, zI4 K a b X1 (zyK a b k) (zyJ a b k) from ziH _ _ (zyI a b) (zyH a b) (zI4 K a b X1)
 (by intro _ hs;exact absurd hs Bool.false_ne_true)
 (by intro P1 S1 hX1 iv1 hs hk;exact hX _ (zbk (by kernel_rfl) (zc hs hk (λ hs hk=>(zaX hs λ hc hs=>And.intro hc (zaX hs λ hc hs=>And.intro hc (zc hs hk (λ hs hk=>hk) (λ hs hk=>(hX1 hs hk)))))) (λ hs hk=>hk))))) _ hs hk
def zyN (a:(Sl Int)) (b:(Sl Int)):Bool :=
  (zyL a b (0:Int))
def zyO (a:(Sl Int)) (b:(Sl Int)):Bool :=
  (zyM a b (0:Int))
theorem zFN (hs:zyO a b=true) (hk:K (e25 (zyN a b))):z25 K [1,1] [] ⟨[(0,zS zad 1 a),(1,zS zad 1 b)],[],[]⟩:=zbk (by kernel_rfl) (zFM hs hk)
def s25 (a:(Sl Int)) (b:(Sl Int)):Bool :=
  (cond ((a.len : Int) != (b.len : Int))
 false
 (zyN a b))
def p25 (a:(Sl Int)) (b:(Sl Int)):Bool :=
  (cond ((a.len : Int) != (b.len : Int))
 true
 (zyO a b))
end
theorem q25 (a:(Sl Int)) (b:(Sl Int)) (K:List PA->Prop) (hs:p25 a b=true) (hk:K (e25 (s25 a b))):vcFun Tryd.prog G25 zFL 25 [.one (.sl a.len 1 (λ i=>zad (a.get i))),.one (.sl b.len 1 (λ i=>zad (b.get i)))] K :=
  zbk (by kernel_rfl) (zc hs hk (λ hs hk=>hk) (λ hs hk=>(zFN hs hk)))
def zFO : List PA -> COut
  | [.one (.sl zga zmU zgb),.one (.sl zgX zoC zgI)]=>.det (IsE zad 1 zmU zgb/\IsE zad 1 zoC zgI/\p25 (⟨zga,zax zgb⟩:(Sl Int)) (⟨zgX,zax zgI⟩:(Sl Int))=true) [.one (.bool (s25 (⟨zga,zax zgb⟩:(Sl Int)) (⟨zgX,zax zgI⟩:(Sl Int))))]
  | _=>.no
theorem zI5:zaA Tryd.prog 25:=⟨_,rfl,rfl,by kernel_rfl⟩
theorem zNw:Ok Tryd.prog 25 zFO:=zbH zLE zI5 λ args K h=>by
  unfold zFO at h
  split at h
  · rename_i zga zmU zgb zgX zoC zgI
    obtain⟨⟨⟨rfl,ziY,rfl⟩,⟨rfl,zld,rfl⟩,hs⟩,hk⟩:=h
    try rw[zck ziY] at hs
    try rw[zck ziY] at hk
    try rw[zck zld] at hs
    try rw[zck zld] at hk
    exact⟨(λ _ _=>[]),(λ _=>false),zFL,q25 (⟨zga,ziY⟩:(Sl Int)) (⟨zgX,zld⟩:(Sl Int)) K hs hk⟩
  · exact h.elim
abbrev T29:Tabs:=Tabs.nil
theorem zLF:TabsOk Tryd.prog T29:=TabsOk.nil
abbrev G29:Ctrs:=csm T29 (λ _ _=>[]) (λ _=>false)
def zI6:Ann:=⟨13,[(0,zK [2,3,4] [2,3,4]),(1,zK [2,4] [2,4,7]),(2,zK [4] [4,7])],
 [],
 [],
 [],[]⟩
abbrev R29:=Net
abbrev e29 (r:R29):List PA:=[.agg [.int .i64 r.Nodes,.sl r.Ties.len 4 (λ i=>enc_40 (r.Ties.get i))]]
section
variable {K:List PA->Prop}{n:Net}{t:Tie}
def s29 (n:Net) (t:Tie):Net :=
  (⟨n.Nodes,(⟨(n.Ties.len+1),(zf4 n.Ties.len n.Ties.get (λ _=>t))⟩:(Sl Tie))⟩:Net)
def p29 (n:Net) (t:Tie):Bool :=
  (decide ((n.Ties.len * 32≤140737488355328/\n.Ties.len≤9223372036854775807)) &&
 (decide (((n.Ties.len+1) * 32≤140737488355328/\n.Ties.len+1≤9223372036854775807)) &&
 true))
end
theorem q29 (n:Net) (t:Tie) (K:List PA->Prop) (hs:p29 n t=true) (hk:K (e29 (s29 n t))):vcFun Tryd.prog G29 zI6 29 [.agg (enc_24 n),.agg (enc_40 t)] K :=
  zbk (by kernel_rfl) (zaX hs λ hc hs=>And.intro hc (zaX hs λ hc hs=>And.intro hc (Eq.mpr (congrArg K (congrArg (λ (g_:Nat->List PV)=>([.agg [.int .i64 n.Nodes,.sl (n.Ties.len+1) 4 g_]]:List PA)) (zjw (enc:=enc_40) (f:=n.Ties.get) (h:=(λ _=>t)) rfl rfl))) hk)))
def zFP : List PA -> COut
  | [.agg [.int .i64 zaj,.sl zaf zaB zae],.agg [.int .i64 zeX,.int .i64 zmk,.int .i64 zg7,.int .i64 zeY]]=>.det (IsE enc_40 4 zaB zae/\p29 (⟨zaj,(⟨zaf,zar zae⟩:(Sl Tie))⟩:Net) (⟨zeX,zmk,zg7,zeY⟩:Tie)=true) [.agg [.int .i64 ((s29 (⟨zaj,(⟨zaf,zar zae⟩:(Sl Tie))⟩:Net) (⟨zeX,zmk,zg7,zeY⟩:Tie)).Nodes),.sl ((s29 (⟨zaj,(⟨zaf,zar zae⟩:(Sl Tie))⟩:Net) (⟨zeX,zmk,zg7,zeY⟩:Tie)).Ties.len) 4 (λ i=>enc_40 ((s29 (⟨zaj,(⟨zaf,zar zae⟩:(Sl Tie))⟩:Net) (⟨zeX,zmk,zg7,zeY⟩:Tie)).Ties.get i))]]
  | _=>.no
theorem zI7:zaA Tryd.prog 29:=⟨_,rfl,rfl,by kernel_rfl⟩
theorem zNx:Ok Tryd.prog 29 zFP:=zbH zLF zI7 λ args K h=>by
  unfold zFP at h
  split at h
  · rename_i zaj zaf zaB zae zeX zmk zg7 zeY
    obtain⟨⟨⟨rfl,zat,rfl⟩,hs⟩,hk⟩:=h
    try rw[zao zat] at hs
    try rw[zao zat] at hk
    exact⟨(λ _ _=>[]),(λ _=>false),zI6,q29 (⟨zaj,(⟨zaf,zat⟩:(Sl Tie))⟩:Net) (⟨zeX,zmk,zg7,zeY⟩:Tie) K hs hk⟩
  · exact h.elim
abbrev T83:Tabs:=((Tabs.nil.addF 75 zve).addF 76 zvf)
theorem zLG:TabsOk Tryd.prog T83:=((TabsOk.nil.addF zKG).addF zKH)
abbrev G83:Ctrs:=csm T83 (λ _ _=>[]) (λ _=>false)
def zFQ:Ann:=⟨31,[(0,zK [0] []),(1,zK [0,3,4] [3,4]),(2,zK [3,4,14,15] [3,4]),(3,zK [3,4,14,15,16] [3,4]),(4,zK [3,4,5,14,15] [3,4]),(5,zK [3,4,14,15,29] [3,4]),(6,zK [2] []),(7,zK [3,4,14,15] [3,4]),(8,zK [2] [])],
 [(3,zK [3,4,14,15] [3,4])],
 [(2,zK [0,3,4] [3,4])],
 [],[]⟩
abbrev R83:=Bool
abbrev e83 (r:R83):List PA:=[.one (.bool r)]
@[irreducible] def z83:=ptF Tryd.prog G83 zFQ Tryd.f83
def zDf (w:web) (zc7:Int) (tot1:Tab) (fromt1:Tab):St:=⟨[(3,zp 3 0),(4,zp 4 0),(14,zI w.Net.Nodes),(15,zI zc7)],[(3,.box 116 (zm (zac tot1))),(4,.box 116 (zm (zac fromt1)))],[]⟩
abbrev zI8 (K:List PA->Prop) (w:web) (X:St->Prop) (P:Int->Tab->Tab->Bool) (S:Int->Tab->Tab->Bool):Prop:=∀ ⦃zc7:Int⦄ ⦃tot1:Tab⦄ ⦃fromt1:Tab⦄,P zc7 tot1 fromt1=true->K (e83 (S zc7 tot1 fromt1))->X (zDf w zc7 tot1 fromt1)
section
variable {K:List PA->Prop}{w:web}{tot0:Tab}{fromt0:Tab}{zc7:Int}{tot1:Tab}{fromt1:Tab}{X1:St->Prop}{P1:Int->Tab->Tab->Bool}{S1:Int->Tab->Tab->Bool}
def zyP (w:web) (S1:Int->Tab->Tab->Bool) (zc7:Int) (tot1:Tab) (fromt1:Tab):Bool :=
  (cond (decide (zc7 < w.Net.Nodes))
 (cond (match ((tg 80 tot1 (0 + zc7.toNat * 2 + 0)) == (1000000000000:Int)) with | true => (match ((tg 80 tot1 (0 + zc7.toNat * 2 + 0 + 1)) == (0:Int)) with | true => true | false => false) | false => false)
 false
 (cond (match ((tg 80 fromt1 (0 + zc7.toNat * 2 + 0)) == (1000000000000:Int)) with | true => (match ((tg 80 fromt1 (0 + zc7.toNat * 2 + 0 + 1)) == (0:Int)) with | true => true | false => false) | false => false)
 false
 (S1 (w64 (zc7+(1:Int))) tot1 fromt1)))
 true)
def zyQ (w:web) (P1:Int->Tab->Tab->Bool) (zc7:Int) (tot1:Tab) (fromt1:Tab):Bool :=
  (cond (decide (zc7 < w.Net.Nodes))
 (decide ((0≤zc7/\zc7 < (40:Int))) &&
 (cond (match ((tg 80 tot1 (0 + zc7.toNat * 2 + 0)) == (1000000000000:Int)) with | true => (match ((tg 80 tot1 (0 + zc7.toNat * 2 + 0 + 1)) == (0:Int)) with | true => true | false => false) | false => false)
 true
 (decide ((0≤zc7/\zc7 < (40:Int))) &&
 (cond (match ((tg 80 fromt1 (0 + zc7.toNat * 2 + 0)) == (1000000000000:Int)) with | true => (match ((tg 80 fromt1 (0 + zc7.toNat * 2 + 0 + 1)) == (0:Int)) with | true => true | false => false) | false => false)
 true
 (P1 (w64 (zc7+(1:Int))) tot1 fromt1)))))
 true)
def zyR (w:web):Nat->Int->Tab->Tab->Bool:=lpO (λ _ _ _=>default) (zyP w)
def zyS (w:web):Nat->Int->Tab->Tab->Bool:=lpO (λ _ _ _=>false) (zyQ w)
def zyT (w:web) (zc7:Int) (tot1:Tab) (fromt1:Tab):Bool:=zyR w Fuel zc7 tot1 fromt1
def zyU (w:web) (zc7:Int) (tot1:Tab) (fromt1:Tab):Bool:=zyS w Fuel zc7 tot1 fromt1
theorem zFR (hs:zyU w zc7 tot1 fromt1=true) (hk:K (e83 (zyT w zc7 tot1 fromt1))):z83 K [1,1,0,1,0] [] (zDf w zc7 tot1 fromt1) :=
  zl (λ X=>z83 K [1,1,0,1,0,0] [X]) (by kernel_rfl) λ X1 hX =>
  (show ∀ k, zI8 K w X1 (zyS w k) (zyR w k) from ziH _ _ (zyQ w) (zyP w) (zI8 K w X1)
 (by intro _ _ _ hs;exact absurd hs Bool.false_ne_true)
 (by intro P1 S1 hX1 zc7 tot1 fromt1 hs hk;exact hX _ (zbk (by kernel_rfl) (zc hs hk (λ hs hk=>(zaX hs λ hc hs=>And.intro hc (zc hs hk (λ hs hk=>hk) (λ hs hk=>(zaX hs λ hc hs=>And.intro hc (zc hs hk (λ hs hk=>hk) (λ hs hk=>(hX1 hs hk)))))))) (λ hs hk=>hk))))) _ hs hk
def zyV (w:web) (tot0:Tab) (fromt0:Tab):Bool :=
  (zyT w (0:Int) tot0 fromt0)
def zyW (w:web) (tot0:Tab) (fromt0:Tab):Bool :=
  (zyU w (0:Int) tot0 fromt0)
theorem zFS (hs:zyW w tot0 fromt0=true) (hk:K (e83 (zyV w tot0 fromt0))):z83 K [1,1] [] ⟨[(0,zP (.fp (zaD w) 0)),(3,zp 3 0),(4,zp 4 0)],[(3,.box 116 (zm (zac tot0))),(4,.box 116 (zm (zac fromt0)))],[]⟩:=zbk (by kernel_rfl) (zFR hs hk)
def s83 (w:web):Bool :=
  (zyV w (s75 w (0:Int)) (s76 w (0:Int)))
def p83 (w:web):Bool :=
  (decide ((p75 w (0:Int)=true)) &&
 (decide ((p76 w (0:Int)=true)) &&
 (zyW w (s75 w (0:Int)) (s76 w (0:Int)))))
end
theorem q83 (w:web) (K:List PA->Prop) (hs:p83 w=true) (hk:K (e83 (s83 w))):vcFun Tryd.prog G83 zFQ 83 [.one (.fp (zaD w) 0)] K :=
  zbk (by kernel_rfl) (zaX hs λ hc hs=>And.intro (And.intro (zE enc_40 4 w.Net.Ties.get) (And.intro (rfl:((false,1,false,[none]):MQ)=(false,1,false,[none])) hc)) (zaX hs λ hc hs=>And.intro (And.intro (zE enc_40 4 w.Net.Ties.get) (And.intro (rfl:((false,1,false,[none]):MQ)=(false,1,false,[none])) hc)) (zFS hs hk)))
def zFT : List PA -> COut
  | [.one (.fp [.int .i64 zan,.sl zal zaE zam,.fm zbq zaL zaM] 0)]=>.det (IsE enc_40 4 zaE zam/\zbq=(false,1,false,[none])/\p83 (⟨(⟨zan,(⟨zal,zar zam⟩:(Sl Tie))⟩:Net),(⟨zaL,zaM⟩:Mp)⟩:web)=true) [.one (.bool (s83 (⟨(⟨zan,(⟨zal,zar zam⟩:(Sl Tie))⟩:Net),(⟨zaL,zaM⟩:Mp)⟩:web)))]
  | _=>.no
theorem zI9:zaA Tryd.prog 83:=⟨_,rfl,rfl,by kernel_rfl⟩
theorem zNy:Ok Tryd.prog 83 zFT:=zbH zLG zI9 λ args K h=>by
  unfold zFT at h
  split at h
  · rename_i zan zal zaE zam zbq zaL zaM
    obtain⟨⟨⟨rfl,zay,rfl⟩,rfl,hs⟩,hk⟩:=h
    try rw[zao zay] at hs
    try rw[zao zay] at hk
    exact⟨(λ _ _=>[]),(λ _=>false),zFQ,q83 (⟨(⟨zan,(⟨zal,zay⟩:(Sl Tie))⟩:Net),(⟨zaL,zaM⟩:Mp)⟩:web) K hs hk⟩
  · exact h.elim
abbrev T85:Tabs:=Tabs.nil
theorem zLH:TabsOk Tryd.prog T85:=TabsOk.nil
abbrev G85:Ctrs:=csm T85 (λ _ _=>[]) (λ _=>false)
def zJa:Ann:=⟨8,[(0,zK [0,1] []),(1,zK [3] [])],
 [],
 [],
 [],[]⟩
abbrev R85:=Int
abbrev e85 (r:R85):List PA:=[.one (.int .i64 r)]
section
variable {K:List PA->Prop}{c0:Tab}{i_a0:Int}
def s85 (c0:Tab) (i_a0:Int):Int :=
  (tg 80 c0 (0+i_a0.toNat * 2+0))
def p85 (c0:Tab) (i_a0:Int):Bool :=
  (decide ((0≤i_a0/\i_a0 < (40:Int))) &&
 true)
end
theorem q85 (c0:Tab) (i_a0:Int) (K:List PA->Prop) (hs:p85 c0 i_a0=true) (hk:K (e85 (s85 c0 i_a0))):vcFun Tryd.prog G85 zJa 85 [.one (.int .i64 i_a0),.one (.fp (zac c0) 0)] K :=
  zbk (by kernel_rfl) (zaX hs λ hc hs=>And.intro hc hk)
def zFU : List PA -> COut
  | [.one (.int .i64 a0),.one (.fp c0_t 0)]=>.det (c0_t=zac (zaK c0_t)/\p85 (zaK c0_t) a0=true) [.one (.int .i64 (s85 (zaK c0_t) a0))]
  | _=>.no
theorem zJb:zaA Tryd.prog 85:=⟨_,rfl,rfl,by kernel_rfl⟩
theorem zNz:Ok Tryd.prog 85 zFU:=zbH zLH zJb λ args K h=>by
  unfold zFU at h
  split at h
  · rename_i a0 c0_t
    obtain⟨⟨hT_c0,hs⟩,hk⟩:=h
    exact⟨(λ _ _=>[]),(λ _=>false),zJa,(by have hq:=q85 (zaK c0_t) a0 K hs hk;rw[← hT_c0] at hq;exact hq)⟩
  · exact h.elim
abbrev T86:Tabs:=Tabs.nil
theorem zLI:TabsOk Tryd.prog T86:=TabsOk.nil
abbrev G86:Ctrs:=csm T86 (λ _ _=>[]) (λ _=>false)
def zJc:Ann:=⟨9,[(0,zK [0,1] []),(1,zK [3] [])],
 [],
 [],
 [],[]⟩
abbrev R86:=Int
abbrev e86 (r:R86):List PA:=[.one (.int .i64 r)]
section
variable {K:List PA->Prop}{c0:Tab}{i_a0:Int}
def s86 (c0:Tab) (i_a0:Int):Int :=
  (w64 (0 - (tg 80 c0 (0+i_a0.toNat * 2+0))))
def p86 (c0:Tab) (i_a0:Int):Bool :=
  (decide ((0≤i_a0/\i_a0 < (40:Int))) &&
 true)
end
theorem q86 (c0:Tab) (i_a0:Int) (K:List PA->Prop) (hs:p86 c0 i_a0=true) (hk:K (e86 (s86 c0 i_a0))):vcFun Tryd.prog G86 zJc 86 [.one (.int .i64 i_a0),.one (.fp (zac c0) 0)] K :=
  zbk (by kernel_rfl) (zaX hs λ hc hs=>And.intro hc hk)
def zFV : List PA -> COut
  | [.one (.int .i64 a0),.one (.fp c0_t 0)]=>.det (c0_t=zac (zaK c0_t)/\p86 (zaK c0_t) a0=true) [.one (.int .i64 (s86 (zaK c0_t) a0))]
  | _=>.no
theorem zJd:zaA Tryd.prog 86:=⟨_,rfl,rfl,by kernel_rfl⟩
theorem zNA:Ok Tryd.prog 86 zFV:=zbH zLI zJd λ args K h=>by
  unfold zFV at h
  split at h
  · rename_i a0 c0_t
    obtain⟨⟨hT_c0,hs⟩,hk⟩:=h
    exact⟨(λ _ _=>[]),(λ _=>false),zJc,(by have hq:=q86 (zaK c0_t) a0 K hs hk;rw[← hT_c0] at hq;exact hq)⟩
  · exact h.elim
abbrev T87:Tabs:=Tabs.nil
theorem zLJ:TabsOk Tryd.prog T87:=TabsOk.nil
abbrev G87:Ctrs:=csm T87 (λ _ _=>[]) (λ _=>false)
def zJe:Ann:=⟨12,[(0,zK [0,1] []),(1,zK [3] [])],
 [],
 [],
 [],[]⟩
abbrev R87:=Int
abbrev e87 (r:R87):List PA:=[.one (.int .i64 r)]
section
variable {K:List PA->Prop}{c0:Tab}{i_a0:Int}
def s87 (c0:Tab) (i_a0:Int):Int :=
  (w64 ((tg 80 c0 (0+i_a0.toNat * 2+0)) - (tg 80 c0 (0+0 * 2+0))))
def p87 (c0:Tab) (i_a0:Int):Bool :=
  (decide ((0≤i_a0/\i_a0 < (40:Int))) &&
 (decide ((0≤(0:Int)/\(0:Int) < (40:Int))) &&
 true))
end
theorem q87 (c0:Tab) (i_a0:Int) (K:List PA->Prop) (hs:p87 c0 i_a0=true) (hk:K (e87 (s87 c0 i_a0))):vcFun Tryd.prog G87 zJe 87 [.one (.int .i64 i_a0),.one (.fp (zac c0) 0)] K :=
  zbk (by kernel_rfl) (zaX hs λ hc hs=>And.intro hc (zaX hs λ hc hs=>And.intro hc hk))
def zFW : List PA -> COut
  | [.one (.int .i64 a0),.one (.fp c0_t 0)]=>.det (c0_t=zac (zaK c0_t)/\p87 (zaK c0_t) a0=true) [.one (.int .i64 (s87 (zaK c0_t) a0))]
  | _=>.no
theorem zJf:zaA Tryd.prog 87:=⟨_,rfl,rfl,by kernel_rfl⟩
theorem zNB:Ok Tryd.prog 87 zFW:=zbH zLJ zJf λ args K h=>by
  unfold zFW at h
  split at h
  · rename_i a0 c0_t
    obtain⟨⟨hT_c0,hs⟩,hk⟩:=h
    exact⟨(λ _ _=>[]),(λ _=>false),zJe,(by have hq:=q87 (zaK c0_t) a0 K hs hk;rw[← hT_c0] at hq;exact hq)⟩
  · exact h.elim
abbrev T84:Tabs:=(((Tabs.nil.addF 85 zFU).addF 86 zFV).addF 87 zFW)
theorem zLK:TabsOk Tryd.prog T84:=(((TabsOk.nil.addF zNz).addF zNA).addF zNB)
abbrev G84:Ctrs:=csm T84 (λ _ _=>[]) (λ _=>false)
def zFX:Ann:=⟨26,[(0,zK [0,1] []),(1,zK [1,5] [12]),(2,zK [1,5,14,15] [12]),(3,zK [1,5,14,15,16] [12]),(4,zK [1,5,6,14,15] [12]),(5,zK [1,5,14,15] [12]),(6,zK [1,5,14,15] [12]),(7,zK [4] [12])],
 [(3,zK [1,5,14,15] [12])],
 [],
 [],[]⟩
abbrev R84:=(Sl Int)
abbrev e84 (r:R84):List PA:=[.one (.sl r.len 1 (λ i=>zad (r.get i)))]
@[irreducible] def z84:=ptF Tryd.prog G84 zFX Tryd.f84
def zDg (c0:Tab) (w:web) (zaQ:Int) (zbh:(Sl Int)) (zb9:Nat->List PV):St:=⟨[(1,zP (.fn 87 [] [.fp (zac c0) 0])),(5,zv 12),(14,zI (w.Net.Nodes.toNat:Int)),(15,zI zaQ)],[(12,.vec 3 1 8 zbh.len zb9)],[]⟩
abbrev zJg (K:List PA->Prop) (c0:Tab) (w:web) (X:St->Prop) (P:Int->(Sl Int)->Bool) (S:Int->(Sl Int)->(Sl Int)):Prop:=∀ ⦃zaQ:Int⦄ ⦃zbh:(Sl Int)⦄ ⦃zb9:Nat->List PV⦄,P zaQ zbh=true->K (e84 (S zaQ zbh))->zb9=zg zad zbh->X (zDg c0 w zaQ zbh zb9)
section
variable {K:List PA->Prop}{c0:Tab}{w:web}{zaQ:Int}{zbh:(Sl Int)}{zb9:Nat->List PV}{X0:St->Prop}{P0:Int->(Sl Int)->Bool}{S0:Int->(Sl Int)->(Sl Int)}
def zyX (c0:Tab) (w:web) (S0:Int->(Sl Int)->(Sl Int)) (zaQ:Int) (zbh:(Sl Int)):(Sl Int) :=
  (cond (decide (zaQ < (w.Net.Nodes.toNat : Int)))
 (S0 (w64 (zaQ+(1:Int))) (⟨zbh.len,(setT zaQ.toNat (s87 (zaK (zac c0)) zaQ) zbh.get)⟩:Sl Int))
 zbh)
def zyY (c0:Tab) (w:web) (P0:Int->(Sl Int)->Bool) (zaQ:Int) (zbh:(Sl Int)):Bool :=
  (cond (decide (zaQ < (w.Net.Nodes.toNat : Int)))
 (decide ((p87 (zaK (zac c0)) zaQ=true)) &&
 (decide ((0≤zaQ/\zaQ < (zbh.len:Int))) &&
 (decide ((zaQ.toNat < zbh.len)) &&
 (P0 (w64 (zaQ+(1:Int))) (⟨zbh.len,(setT zaQ.toNat (s87 (zaK (zac c0)) zaQ) zbh.get)⟩:Sl Int)))))
 true)
def zyZ (c0:Tab) (w:web):Nat->Int->(Sl Int)->(Sl Int):=lpO (λ _ _=>default) (zyX c0 w)
def zy0 (c0:Tab) (w:web):Nat->Int->(Sl Int)->Bool:=lpO (λ _ _=>false) (zyY c0 w)
def zy1 (c0:Tab) (w:web) (zaQ:Int) (zbh:(Sl Int)):(Sl Int):=zyZ c0 w Fuel zaQ zbh
def zy2 (c0:Tab) (w:web) (zaQ:Int) (zbh:(Sl Int)):Bool:=zy0 c0 w Fuel zaQ zbh
theorem zFY (hs:zy2 c0 w zaQ zbh=true) (hk:K (e84 (zy1 c0 w zaQ zbh))) (zeq:zb9=zg zad zbh):z84 K [1,1,0,1,0] [] (zDg c0 w zaQ zbh zb9) :=
  zl (λ X=>z84 K [1,1,0,1,0,0] [X]) (by kernel_rfl) λ X0 hX =>
  (show ∀ k, zJg K c0 w X0 (zy0 c0 w k) (zyZ c0 w k) from ziH _ _ (zyY c0 w) (zyX c0 w) (zJg K c0 w X0)
 (by intro _ _ _ hs;exact absurd hs Bool.false_ne_true)
 (by intro P0 S0 hX0 zaQ zbh zb9 hs hk zeq;subst zeq;exact hX _ (zbk (by kernel_rfl) (zc hs hk (λ hs hk=>(zaX hs λ hc hs=>And.intro (And.intro (zh3:zac c0=zac (zaK (zac c0))) hc) (zaX hs λ hc hs=>And.intro hc (zaX hs λ hc hs=>And.intro hc (hX0 hs hk (zfH (enc:=zad) (i:=zaQ.toNat) (k:=0) (f:=zbh.get) (new:=(zad (s87 (zaK (zac c0)) zaQ))) (v:=(s87 (zaK (zac c0)) zaQ)) rfl rfl)))))) (λ hs hk=>hk))))) _ hs hk zeq
def s84 (c0:Tab) (w:web):(Sl Int) :=
  (zy1 c0 w (0:Int) (⟨w.Net.Nodes.toNat,(λ _=>(0:Int))⟩:Sl Int))
def p84 (c0:Tab) (w:web):Bool :=
  (decide ((0≤w.Net.Nodes/\w.Net.Nodes=w.Net.Nodes/\w.Net.Nodes≤1000000)) &&
 (zy2 c0 w (0:Int) (⟨w.Net.Nodes.toNat,(λ _=>(0:Int))⟩:Sl Int)))
end
theorem q84 (c0:Tab) (w:web) (K:List PA->Prop) (hs:p84 c0 w=true) (hk:K (e84 (s84 c0 w))):vcFun Tryd.prog G84 zFX 84 [.one (.fp (zaD w) 0),.one (.fn 87 [] [.fp (zac c0) 0])] K :=
  zbk (by kernel_rfl) (zaX hs λ hc hs=>And.intro hc (zFY hs hk rfl))
abbrev zMI:Ctrs:=csm T84 (λ _ _=>[]) (λ _=>false)
def zy3:Ann:=⟨26,[(0,zK [0,1] []),(1,zK [1,5] [12]),(2,zK [1,5,14,15] [12]),(3,zK [1,5,14,15,16] [12]),(4,zK [1,5,6,14,15] [12]),(5,zK [1,5,14,15] [12]),(6,zK [1,5,14,15] [12]),(7,zK [4] [12])],
 [(3,zK [1,5,14,15] [12])],
 [],
 [],[]⟩
abbrev zNC:=(Sl Int)
abbrev zLL (r:zNC):List PA:=[.one (.sl r.len 1 (λ i=>zad (r.get i)))]
@[irreducible] def z84a:=ptF Tryd.prog zMI zy3 Tryd.f84
def zy4 (c0:Tab) (w:web) (zaQ:Int) (zbh:(Sl Int)) (zb9:Nat->List PV):St:=⟨[(1,zP (.fn 85 [] [.fp (zac c0) 0])),(5,zv 12),(14,zI (w.Net.Nodes.toNat:Int)),(15,zI zaQ)],[(12,.vec 3 1 8 zbh.len zb9)],[]⟩
abbrev zDh (K:List PA->Prop) (c0:Tab) (w:web) (X:St->Prop) (P:Int->(Sl Int)->Bool) (S:Int->(Sl Int)->(Sl Int)):Prop:=∀ ⦃zaQ:Int⦄ ⦃zbh:(Sl Int)⦄ ⦃zb9:Nat->List PV⦄,P zaQ zbh=true->K (zLL (S zaQ zbh))->zb9=zg zad zbh->X (zy4 c0 w zaQ zbh zb9)
section
variable {K:List PA->Prop}{c0:Tab}{w:web}{zaQ:Int}{zbh:(Sl Int)}{zb9:Nat->List PV}{X0:St->Prop}{P0:Int->(Sl Int)->Bool}{S0:Int->(Sl Int)->(Sl Int)}
def zug (c0:Tab) (w:web) (S0:Int->(Sl Int)->(Sl Int)) (zaQ:Int) (zbh:(Sl Int)):(Sl Int) :=
  (cond (decide (zaQ < (w.Net.Nodes.toNat : Int)))
 (S0 (w64 (zaQ+(1:Int))) (⟨zbh.len,(setT zaQ.toNat (s85 (zaK (zac c0)) zaQ) zbh.get)⟩:Sl Int))
 zbh)
def zuh (c0:Tab) (w:web) (P0:Int->(Sl Int)->Bool) (zaQ:Int) (zbh:(Sl Int)):Bool :=
  (cond (decide (zaQ < (w.Net.Nodes.toNat : Int)))
 (decide ((p85 (zaK (zac c0)) zaQ=true)) &&
 (decide ((0≤zaQ/\zaQ < (zbh.len:Int))) &&
 (decide ((zaQ.toNat < zbh.len)) &&
 (P0 (w64 (zaQ+(1:Int))) (⟨zbh.len,(setT zaQ.toNat (s85 (zaK (zac c0)) zaQ) zbh.get)⟩:Sl Int)))))
 true)
def zui (c0:Tab) (w:web):Nat->Int->(Sl Int)->(Sl Int):=lpO (λ _ _=>default) (zug c0 w)
def zuj (c0:Tab) (w:web):Nat->Int->(Sl Int)->Bool:=lpO (λ _ _=>false) (zuh c0 w)
def zuk (c0:Tab) (w:web) (zaQ:Int) (zbh:(Sl Int)):(Sl Int):=zui c0 w Fuel zaQ zbh
def zul (c0:Tab) (w:web) (zaQ:Int) (zbh:(Sl Int)):Bool:=zuj c0 w Fuel zaQ zbh
theorem zCd (hs:zul c0 w zaQ zbh=true) (hk:K (zLL (zuk c0 w zaQ zbh))) (zeq:zb9=zg zad zbh):z84a K [1,1,0,1,0] [] (zy4 c0 w zaQ zbh zb9) :=
  zl (λ X=>z84a K [1,1,0,1,0,0] [X]) (by kernel_rfl) λ X0 hX =>
  (show ∀ k, zDh K c0 w X0 (zuj c0 w k) (zui c0 w k) from ziH _ _ (zuh c0 w) (zug c0 w) (zDh K c0 w X0)
 (by intro _ _ _ hs;exact absurd hs Bool.false_ne_true)
 (by intro P0 S0 hX0 zaQ zbh zb9 hs hk zeq;subst zeq;exact hX _ (zbk (by kernel_rfl) (zc hs hk (λ hs hk=>(zaX hs λ hc hs=>And.intro (And.intro (zh3:zac c0=zac (zaK (zac c0))) hc) (zaX hs λ hc hs=>And.intro hc (zaX hs λ hc hs=>And.intro hc (hX0 hs hk (zfH (enc:=zad) (i:=zaQ.toNat) (k:=0) (f:=zbh.get) (new:=(zad (s85 (zaK (zac c0)) zaQ))) (v:=(s85 (zaK (zac c0)) zaQ)) rfl rfl)))))) (λ hs hk=>hk))))) _ hs hk zeq
def zLM (c0:Tab) (w:web):(Sl Int) :=
  (zuk c0 w (0:Int) (⟨w.Net.Nodes.toNat,(λ _=>(0:Int))⟩:Sl Int))
def zMJ (c0:Tab) (w:web):Bool :=
  (decide ((0≤w.Net.Nodes/\w.Net.Nodes=w.Net.Nodes/\w.Net.Nodes≤1000000)) &&
 (zul c0 w (0:Int) (⟨w.Net.Nodes.toNat,(λ _=>(0:Int))⟩:Sl Int)))
end
theorem zND (c0:Tab) (w:web) (K:List PA->Prop) (hs:zMJ c0 w=true) (hk:K (zLL (zLM c0 w))):vcFun Tryd.prog zMI zy3 84 [.one (.fp (zaD w) 0),.one (.fn 85 [] [.fp (zac c0) 0])] K :=
  zbk (by kernel_rfl) (zaX hs λ hc hs=>And.intro hc (zCd hs hk rfl))
abbrev zMK:Ctrs:=csm T84 (λ _ _=>[]) (λ _=>false)
def zy5:Ann:=⟨26,[(0,zK [0,1] []),(1,zK [1,5] [12]),(2,zK [1,5,14,15] [12]),(3,zK [1,5,14,15,16] [12]),(4,zK [1,5,6,14,15] [12]),(5,zK [1,5,14,15] [12]),(6,zK [1,5,14,15] [12]),(7,zK [4] [12])],
 [(3,zK [1,5,14,15] [12])],
 [],
 [],[]⟩
abbrev zNE:=(Sl Int)
abbrev zLN (r:zNE):List PA:=[.one (.sl r.len 1 (λ i=>zad (r.get i)))]
@[irreducible] def z84b:=ptF Tryd.prog zMK zy5 Tryd.f84
def zy6 (c0:Tab) (w:web) (zaQ:Int) (zbh:(Sl Int)) (zb9:Nat->List PV):St:=⟨[(1,zP (.fn 86 [] [.fp (zac c0) 0])),(5,zv 12),(14,zI (w.Net.Nodes.toNat:Int)),(15,zI zaQ)],[(12,.vec 3 1 8 zbh.len zb9)],[]⟩
abbrev zDi (K:List PA->Prop) (c0:Tab) (w:web) (X:St->Prop) (P:Int->(Sl Int)->Bool) (S:Int->(Sl Int)->(Sl Int)):Prop:=∀ ⦃zaQ:Int⦄ ⦃zbh:(Sl Int)⦄ ⦃zb9:Nat->List PV⦄,P zaQ zbh=true->K (zLN (S zaQ zbh))->zb9=zg zad zbh->X (zy6 c0 w zaQ zbh zb9)
section
variable {K:List PA->Prop}{c0:Tab}{w:web}{zaQ:Int}{zbh:(Sl Int)}{zb9:Nat->List PV}{X0:St->Prop}{P0:Int->(Sl Int)->Bool}{S0:Int->(Sl Int)->(Sl Int)}
def zum (c0:Tab) (w:web) (S0:Int->(Sl Int)->(Sl Int)) (zaQ:Int) (zbh:(Sl Int)):(Sl Int) :=
  (cond (decide (zaQ < (w.Net.Nodes.toNat : Int)))
 (S0 (w64 (zaQ+(1:Int))) (⟨zbh.len,(setT zaQ.toNat (s86 (zaK (zac c0)) zaQ) zbh.get)⟩:Sl Int))
 zbh)
def zun (c0:Tab) (w:web) (P0:Int->(Sl Int)->Bool) (zaQ:Int) (zbh:(Sl Int)):Bool :=
  (cond (decide (zaQ < (w.Net.Nodes.toNat : Int)))
 (decide ((p86 (zaK (zac c0)) zaQ=true)) &&
 (decide ((0≤zaQ/\zaQ < (zbh.len:Int))) &&
 (decide ((zaQ.toNat < zbh.len)) &&
 (P0 (w64 (zaQ+(1:Int))) (⟨zbh.len,(setT zaQ.toNat (s86 (zaK (zac c0)) zaQ) zbh.get)⟩:Sl Int)))))
 true)
def zuo (c0:Tab) (w:web):Nat->Int->(Sl Int)->(Sl Int):=lpO (λ _ _=>default) (zum c0 w)
def zup (c0:Tab) (w:web):Nat->Int->(Sl Int)->Bool:=lpO (λ _ _=>false) (zun c0 w)
def zuq (c0:Tab) (w:web) (zaQ:Int) (zbh:(Sl Int)):(Sl Int):=zuo c0 w Fuel zaQ zbh
def zur (c0:Tab) (w:web) (zaQ:Int) (zbh:(Sl Int)):Bool:=zup c0 w Fuel zaQ zbh
theorem zCe (hs:zur c0 w zaQ zbh=true) (hk:K (zLN (zuq c0 w zaQ zbh))) (zeq:zb9=zg zad zbh):z84b K [1,1,0,1,0] [] (zy6 c0 w zaQ zbh zb9) :=
  zl (λ X=>z84b K [1,1,0,1,0,0] [X]) (by kernel_rfl) λ X0 hX =>
  (show ∀ k, zDi K c0 w X0 (zup c0 w k) (zuo c0 w k) from ziH _ _ (zun c0 w) (zum c0 w) (zDi K c0 w X0)
 (by intro _ _ _ hs;exact absurd hs Bool.false_ne_true)
 (by intro P0 S0 hX0 zaQ zbh zb9 hs hk zeq;subst zeq;exact hX _ (zbk (by kernel_rfl) (zc hs hk (λ hs hk=>(zaX hs λ hc hs=>And.intro (And.intro (zh3:zac c0=zac (zaK (zac c0))) hc) (zaX hs λ hc hs=>And.intro hc (zaX hs λ hc hs=>And.intro hc (hX0 hs hk (zfH (enc:=zad) (i:=zaQ.toNat) (k:=0) (f:=zbh.get) (new:=(zad (s86 (zaK (zac c0)) zaQ))) (v:=(s86 (zaK (zac c0)) zaQ)) rfl rfl)))))) (λ hs hk=>hk))))) _ hs hk zeq
def zLO (c0:Tab) (w:web):(Sl Int) :=
  (zuq c0 w (0:Int) (⟨w.Net.Nodes.toNat,(λ _=>(0:Int))⟩:Sl Int))
def zML (c0:Tab) (w:web):Bool :=
  (decide ((0≤w.Net.Nodes/\w.Net.Nodes=w.Net.Nodes/\w.Net.Nodes≤1000000)) &&
 (zur c0 w (0:Int) (⟨w.Net.Nodes.toNat,(λ _=>(0:Int))⟩:Sl Int)))
end
theorem zNF (c0:Tab) (w:web) (K:List PA->Prop) (hs:zML c0 w=true) (hk:K (zLN (zLO c0 w))):vcFun Tryd.prog zMK zy5 84 [.one (.fp (zaD w) 0),.one (.fn 86 [] [.fp (zac c0) 0])] K :=
  zbk (by kernel_rfl) (zaX hs λ hc hs=>And.intro hc (zCe hs hk rfl))
def zFZ : List PA -> COut
  | [.one (.fp [.int .i64 zan,.sl zal zaE zam,.fm zbq zaL zaM] 0),.one (.fn 87 [] [.fp c0_t 0])]=>.det (IsE enc_40 4 zaE zam/\zbq=(false,1,false,[none])/\c0_t=zac (zaK c0_t)/\p84 (zaK c0_t) (⟨(⟨zan,(⟨zal,zar zam⟩:(Sl Tie))⟩:Net),(⟨zaL,zaM⟩:Mp)⟩:web)=true) [.one (.sl ((s84 (zaK c0_t) (⟨(⟨zan,(⟨zal,zar zam⟩:(Sl Tie))⟩:Net),(⟨zaL,zaM⟩:Mp)⟩:web)).len) 1 (λ i=>zad ((s84 (zaK c0_t) (⟨(⟨zan,(⟨zal,zar zam⟩:(Sl Tie))⟩:Net),(⟨zaL,zaM⟩:Mp)⟩:web)).get i)))]
  | [.one (.fp [.int .i64 zan,.sl zal zaE zam,.fm zbq zaL zaM] 0),.one (.fn 85 [] [.fp c0_t 0])]=>.det (IsE enc_40 4 zaE zam/\zbq=(false,1,false,[none])/\c0_t=zac (zaK c0_t)/\zMJ (zaK c0_t) (⟨(⟨zan,(⟨zal,zar zam⟩:(Sl Tie))⟩:Net),(⟨zaL,zaM⟩:Mp)⟩:web)=true) [.one (.sl ((zLM (zaK c0_t) (⟨(⟨zan,(⟨zal,zar zam⟩:(Sl Tie))⟩:Net),(⟨zaL,zaM⟩:Mp)⟩:web)).len) 1 (λ i=>zad ((zLM (zaK c0_t) (⟨(⟨zan,(⟨zal,zar zam⟩:(Sl Tie))⟩:Net),(⟨zaL,zaM⟩:Mp)⟩:web)).get i)))]
  | [.one (.fp [.int .i64 zan,.sl zal zaE zam,.fm zbq zaL zaM] 0),.one (.fn 86 [] [.fp c0_t 0])]=>.det (IsE enc_40 4 zaE zam/\zbq=(false,1,false,[none])/\c0_t=zac (zaK c0_t)/\zML (zaK c0_t) (⟨(⟨zan,(⟨zal,zar zam⟩:(Sl Tie))⟩:Net),(⟨zaL,zaM⟩:Mp)⟩:web)=true) [.one (.sl ((zLO (zaK c0_t) (⟨(⟨zan,(⟨zal,zar zam⟩:(Sl Tie))⟩:Net),(⟨zaL,zaM⟩:Mp)⟩:web)).len) 1 (λ i=>zad ((zLO (zaK c0_t) (⟨(⟨zan,(⟨zal,zar zam⟩:(Sl Tie))⟩:Net),(⟨zaL,zaM⟩:Mp)⟩:web)).get i)))]
  | _=>.no
theorem zJh:zaA Tryd.prog 84:=⟨_,rfl,rfl,by kernel_rfl⟩
theorem zNG:Ok Tryd.prog 84 zFZ:=zbH zLK zJh λ args K h=>by
  unfold zFZ at h
  split at h
  · rename_i zan zal zaE zam zbq zaL zaM c0_t
    obtain⟨⟨⟨rfl,zay,rfl⟩,rfl,hT_c0,hs⟩,hk⟩:=h
    try rw[zao zay] at hs
    try rw[zao zay] at hk
    exact⟨(λ _ _=>[]),(λ _=>false),zFX,(by have hq:=q84 (zaK c0_t) (⟨(⟨zan,(⟨zal,zay⟩:(Sl Tie))⟩:Net),(⟨zaL,zaM⟩:Mp)⟩:web) K hs hk;rw[← hT_c0] at hq;exact hq)⟩
  · rename_i zan zal zaE zam zbq zaL zaM c0_t
    obtain⟨⟨⟨rfl,zay,rfl⟩,rfl,hT_c0,hs⟩,hk⟩:=h
    try rw[zao zay] at hs
    try rw[zao zay] at hk
    exact⟨(λ _ _=>[]),(λ _=>false),zy3,(by have hq:=zND (zaK c0_t) (⟨(⟨zan,(⟨zal,zay⟩:(Sl Tie))⟩:Net),(⟨zaL,zaM⟩:Mp)⟩:web) K hs hk;rw[← hT_c0] at hq;exact hq)⟩
  · rename_i zan zal zaE zam zbq zaL zaM c0_t
    obtain⟨⟨⟨rfl,zay,rfl⟩,rfl,hT_c0,hs⟩,hk⟩:=h
    try rw[zao zay] at hs
    try rw[zao zay] at hk
    exact⟨(λ _ _=>[]),(λ _=>false),zy5,(by have hq:=zNF (zaK c0_t) (⟨(⟨zan,(⟨zal,zay⟩:(Sl Tie))⟩:Net),(⟨zaL,zaM⟩:Mp)⟩:web) K hs hk;rw[← hT_c0] at hq;exact hq)⟩
  · exact h.elim
abbrev T45:Tabs:=((((Tabs.nil.addF 74 zvd).addF 76 zvf).addF 83 zFT).addF 84 zFZ)
theorem zLP:TabsOk Tryd.prog T45:=((((TabsOk.nil.addF zKE).addF zKH).addF zNy).addF zNG)
abbrev G45:Ctrs:=csm T45 (λ _ _=>[]) (λ _=>false)
def zJi:Ann:=⟨31,[(0,zK [1,2,3] [3]),(1,zK [1,8,9] []),(2,zK [1,8,9,20] []),(3,zK [6,7] []),(4,zK [1,8,24] []),(5,zK [6,7] []),(6,zK [8,10] [10]),(7,zK [6,7] [])],
 [],
 [],
 [],[]⟩
abbrev R45:=((Sl Int)×Int)
abbrev e45 (r:R45):List PA:=[.one (.sl r.1.len 1 (λ i=>zad (r.1.get i))),.one (.int .i64 r.2)]
section
variable {K:List PA->Prop}{n:Net}{from_a1:Int}{to:Int}
def s45 (n:Net) (from_a1:Int) (to:Int):((Sl Int)×Int) :=
  (cond ((s74 n (⟨2, zax (zbz [(zad from_a1), (zad to)])⟩ : (Sl Int))).2 == 0)
 (cond ((0:Int) != (0:Int))
 ((⟨0,λ _=>default⟩:(Sl Int)),(0:Int))
 (cond (!(s83 (⟨(s74 n (⟨2, zax (zbz [(zad from_a1), (zad to)])⟩ : (Sl Int))).1.Net, ((s74 n (⟨2, zax (zbz [(zad from_a1), (zad to)])⟩ : (Sl Int))).1.out)⟩ : web)))
 ((⟨0,λ _=>default⟩:(Sl Int)),(6:Int))
 ((s84 (zaK (zac (s76 (⟨(s74 n (⟨2,zax (zbz [(zad from_a1),(zad to)])⟩:(Sl Int))).1.Net,((s74 n (⟨2,zax (zbz [(zad from_a1),(zad to)])⟩:(Sl Int))).1.out)⟩:web) from_a1))) (⟨(s74 n (⟨2,zax (zbz [(zad from_a1),(zad to)])⟩:(Sl Int))).1.Net,((s74 n (⟨2,zax (zbz [(zad from_a1),(zad to)])⟩:(Sl Int))).1.out)⟩:web)),(0:Int))))
 (cond ((s74 n (⟨2, zax (zbz [(zad from_a1), (zad to)])⟩ : (Sl Int))).2 != (0:Int))
 ((⟨0,λ _=>default⟩:(Sl Int)),(s74 n (⟨2,zax (zbz [(zad from_a1),(zad to)])⟩:(Sl Int))).2)
 default))
def p45 (n:Net) (from_a1:Int) (to:Int):Bool :=
  (cond ((s74 n (⟨2, zax (zbz [(zad from_a1), (zad to)])⟩ : (Sl Int))).2 == 0)
 (decide ((p74 n (⟨2,zax (zbz [(zad from_a1),(zad to)])⟩:(Sl Int))=true)) &&
 (cond ((0:Int) != (0:Int))
 true
 (decide ((p83 (⟨(s74 n (⟨2,zax (zbz [(zad from_a1),(zad to)])⟩:(Sl Int))).1.Net,((s74 n (⟨2,zax (zbz [(zad from_a1),(zad to)])⟩:(Sl Int))).1.out)⟩:web)=true)) &&
 (cond (!(s83 (⟨(s74 n (⟨2, zax (zbz [(zad from_a1), (zad to)])⟩ : (Sl Int))).1.Net, ((s74 n (⟨2, zax (zbz [(zad from_a1), (zad to)])⟩ : (Sl Int))).1.out)⟩ : web)))
 true
 (decide ((p76 (⟨(s74 n (⟨2,zax (zbz [(zad from_a1),(zad to)])⟩:(Sl Int))).1.Net,((s74 n (⟨2,zax (zbz [(zad from_a1),(zad to)])⟩:(Sl Int))).1.out)⟩:web) from_a1=true)) &&
 (decide ((p84 (zaK (zac (s76 (⟨(s74 n (⟨2,zax (zbz [(zad from_a1),(zad to)])⟩:(Sl Int))).1.Net,((s74 n (⟨2,zax (zbz [(zad from_a1),(zad to)])⟩:(Sl Int))).1.out)⟩:web) from_a1))) (⟨(s74 n (⟨2,zax (zbz [(zad from_a1),(zad to)])⟩:(Sl Int))).1.Net,((s74 n (⟨2,zax (zbz [(zad from_a1),(zad to)])⟩:(Sl Int))).1.out)⟩:web)=true)) &&
 true))))))
 (decide ((p74 n (⟨2,zax (zbz [(zad from_a1),(zad to)])⟩:(Sl Int))=true)) &&
 (cond ((s74 n (⟨2, zax (zbz [(zad from_a1), (zad to)])⟩ : (Sl Int))).2 != (0:Int))
 true
 false)))
end
theorem q45 (n:Net) (from_a1:Int) (to:Int) (K:List PA->Prop) (hs:p45 n from_a1 to=true) (hk:K (e45 (s45 n from_a1 to))):vcFun Tryd.prog G45 zJi 45 [.agg (enc_24 n),.one (.int .i64 from_a1),.one (.int .i64 to)] (Wk K) :=
  zbk (by kernel_rfl) (zc hs hk (λ hs hk=>(zaX hs λ hc hs=>And.intro (And.intro (zE enc_40 4 n.Ties.get) (And.intro ((zdx []):IsE zad 1 1 (zbz [(zad from_a1),(zad to)])) hc)) (zc hs hk (λ hs hk=>((wk hk (zis (.one (.nil _ _)) (zis (.one (.rfl _)) zpt))):Wk K [.one (.nils),.one (.int .i64 (0:Int))])) (λ hs hk=>(zaX hs λ hc hs=>And.intro (And.intro (zE enc_40 4 ((s74 n (⟨2,zax (zbz [(zad from_a1),(zad to)])⟩:(Sl Int))).1.Net.Ties.get)) (And.intro (rfl:((false,1,false,[none]):MQ)=(false,1,false,[none])) hc)) (zc hs hk (λ hs hk=>((wk hk (zis (.one (.nil _ _)) (zis (.one (.rfl _)) zpt))):Wk K [.one (.nils),.one (.int .i64 (6:Int))])) (λ hs hk=>(zaX hs λ hc hs=>And.intro (And.intro (zE enc_40 4 ((s74 n (⟨2,zax (zbz [(zad from_a1),(zad to)])⟩:(Sl Int))).1.Net.Ties.get)) (And.intro (rfl:((false,1,false,[none]):MQ)=(false,1,false,[none])) hc)) (zaX hs λ hc hs=>And.intro (And.intro (zE enc_40 4 ((s74 n (⟨2,zax (zbz [(zad from_a1),(zad to)])⟩:(Sl Int))).1.Net.Ties.get)) (And.intro (rfl:((false,1,false,[none]):MQ)=(false,1,false,[none])) (And.intro (zh3:zac (s76 (⟨(s74 n (⟨2,zax (zbz [(zad from_a1),(zad to)])⟩:(Sl Int))).1.Net,((s74 n (⟨2,zax (zbz [(zad from_a1),(zad to)])⟩:(Sl Int))).1.out)⟩:web) from_a1)=zac (zaK (zac (s76 (⟨(s74 n (⟨2,zax (zbz [(zad from_a1),(zad to)])⟩:(Sl Int))).1.Net,((s74 n (⟨2,zax (zbz [(zad from_a1),(zad to)])⟩:(Sl Int))).1.out)⟩:web) from_a1)))) hc))) ((zg5 hk):Wk K [.one (.sl ((s84 (zaK (zac (s76 (⟨(s74 n (⟨2,zax (zbz [(zad from_a1),(zad to)])⟩:(Sl Int))).1.Net,((s74 n (⟨2,zax (zbz [(zad from_a1),(zad to)])⟩:(Sl Int))).1.out)⟩:web) from_a1))) (⟨(s74 n (⟨2,zax (zbz [(zad from_a1),(zad to)])⟩:(Sl Int))).1.Net,((s74 n (⟨2,zax (zbz [(zad from_a1),(zad to)])⟩:(Sl Int))).1.out)⟩:web)).len) 1 (λ i=>zad ((s84 (zaK (zac (s76 (⟨(s74 n (⟨2,zax (zbz [(zad from_a1),(zad to)])⟩:(Sl Int))).1.Net,((s74 n (⟨2,zax (zbz [(zad from_a1),(zad to)])⟩:(Sl Int))).1.out)⟩:web) from_a1))) (⟨(s74 n (⟨2,zax (zbz [(zad from_a1),(zad to)])⟩:(Sl Int))).1.Net,((s74 n (⟨2,zax (zbz [(zad from_a1),(zad to)])⟩:(Sl Int))).1.out)⟩:web)).get i))),.one (.int .i64 (0:Int))])))))))))) (λ hs hk=>(zaX hs λ hc hs=>And.intro (And.intro (zE enc_40 4 n.Ties.get) (And.intro ((zdx []):IsE zad 1 1 (zbz [(zad from_a1),(zad to)])) hc)) (zc hs hk (λ hs hk=>((wk hk (zis (.one (.nil _ _)) (zis (.one (.rfl _)) zpt))):Wk K [.one (.nils),.one (.int .i64 ((s74 n (⟨2,zax (zbz [(zad from_a1),(zad to)])⟩:(Sl Int))).2))])) (λ hs hk=>(absurd hs Bool.false_ne_true:False))))))
def zF0 : List PA -> COut
  | [.agg [.int .i64 zaj,.sl zaf zaB zae],.one (.int .i64 a1),.one (.int .i64 a2)]=>.det (IsE enc_40 4 zaB zae/\p45 (⟨zaj,(⟨zaf,zar zae⟩:(Sl Tie))⟩:Net) a1 a2=true) [.one (.sl (((s45 (⟨zaj,(⟨zaf,zar zae⟩:(Sl Tie))⟩:Net) a1 a2).1).len) 1 (λ i=>zad (((s45 (⟨zaj,(⟨zaf,zar zae⟩:(Sl Tie))⟩:Net) a1 a2).1).get i))),.one (.int .i64 ((s45 (⟨zaj,(⟨zaf,zar zae⟩:(Sl Tie))⟩:Net) a1 a2).2))]
  | _=>.no
theorem zJj:zaA Tryd.prog 45:=⟨_,rfl,rfl,by kernel_rfl⟩
theorem zNH:Ok Tryd.prog 45 zF0:=ziG zLP zJj λ args K h=>by
  unfold zF0 at h
  split at h
  · rename_i zaj zaf zaB zae a1 a2
    obtain⟨⟨⟨rfl,zat,rfl⟩,hs⟩,hk⟩:=h
    try rw[zao zat] at hs
    try rw[zao zat] at hk
    exact⟨_,zf5 zg4 _,(λ _ _=>[]),(λ _=>false),zJi,q45 (⟨zaj,(⟨zaf,zat⟩:(Sl Tie))⟩:Net) a1 a2 K hs hk⟩
  · exact h.elim
abbrev T49:Tabs:=(((Tabs.nil.addF 67 zxg).addF 88 zxl).addF 89 zB4)
theorem zLQ:TabsOk Tryd.prog T49:=(((TabsOk.nil.addF zK8).addF zLd).addF zMH)
abbrev G49:Ctrs:=csm T49 (λ _ _=>[]) (λ _=>false)
def zF1:Ann:=⟨31,[(0,zK [1] [1]),(1,zK [1,10] [1]),(2,zK [2,3] []),(3,zK [4] [13]),(4,zK [4,16] [13]),(5,zK [2,3] []),(6,zK [4,5] [13]),(7,zK [5,18,19,20] []),(8,zK [5,18,19,20,21] [28]),(9,zK [5,7,18,19,20] [7,28]),(10,zK [5,18,19,20] [28]),(11,zK [5,18,19,20] [28]),(12,zK [2,3] [28])],
 [(8,⟨[5,18,19,20],[28],[(5,28,75,λ _=>za4 default)],[],[],[],[]⟩)],
 [(2,zK [1,10] [1]),(3,zK [1] [1]),(5,zK [4,16] [13]),(6,zK [4] [13]),(8,zK [5,18,19,20] [])],
 [],[]⟩
abbrev R49:=((Sl Use)×Int)
abbrev e49 (r:R49):List PA:=[.one (.sl r.1.len 2 (λ i=>za4 (r.1.get i))),.one (.int .i64 r.2)]
@[irreducible] def z49:=ptF Tryd.prog G49 zF1 Tryd.f49
def zDj (zc0:(Sl step)) (zc8:Int) (zdJ:Int) (zdh:(Sl Use)) (zgr:Nat->List PV):St:=⟨[(5,zv 28),(18,zS zai 5 zc0),(19,zI zc8),(20,zI zdJ)],[(28,.vec 75 2 16 zdh.len zgr)],[]⟩
abbrev zJk (K:List PA->Prop) (zc0:(Sl step)) (zc8:Int) (X:St->Prop) (P:Int->(Sl Use)->Bool) (S:Int->(Sl Use)->((Sl Use)×Int)):Prop:=∀ ⦃zdJ:Int⦄ ⦃zdh:(Sl Use)⦄ ⦃zgr:Nat->List PV⦄,P zdJ zdh=true->K (e49 (S zdJ zdh))->zgr=zg za4 zdh->X (zDj zc0 zc8 zdJ zdh zgr)
section
variable {K:List PA->Prop}{n:Net}{zaO:Bool}{zso:Bool}{zc0:(Sl step)}{zc8:Int}{zy7:Nat->List PV}{zdJ:Int}{zdh:(Sl Use)}{zgr:Nat->List PV}{X5:St->Prop}{P5:Int->(Sl Use)->Bool}{S5:Int->(Sl Use)->((Sl Use)×Int)}
def zy8 (zc0:(Sl step)) (zc8:Int) (S5:Int->(Sl Use)->((Sl Use)×Int)) (zdJ:Int) (zdh:(Sl Use)):((Sl Use)×Int) :=
  (cond (decide (zdJ < zc8))
 (S5 (w64 (zdJ+(1:Int))) (⟨(zdh.len+1),(zf4 zdh.len zdh.get (λ _=>(zc0.get zdJ.toNat).Use))⟩:Sl Use))
 (zdh,(0:Int)))
def zy9 (zc0:(Sl step)) (zc8:Int) (P5:Int->(Sl Use)->Bool) (zdJ:Int) (zdh:(Sl Use)):Bool :=
  (cond (decide (zdJ < zc8))
 (decide ((0≤zdJ/\zdJ < (zc0.len:Int))) &&
 (decide (((zdh.len+1) * 16≤140737488355328/\zdh.len+1≤9223372036854775807)) &&
 (P5 (w64 (zdJ+(1:Int))) (⟨(zdh.len+1),(zf4 zdh.len zdh.get (λ _=>(zc0.get zdJ.toNat).Use))⟩:Sl Use))))
 true)
def zza (zc0:(Sl step)) (zc8:Int):Nat->Int->(Sl Use)->((Sl Use)×Int):=lpO (λ _ _=>default) (zy8 zc0 zc8)
def zzb (zc0:(Sl step)) (zc8:Int):Nat->Int->(Sl Use)->Bool:=lpO (λ _ _=>false) (zy9 zc0 zc8)
def zzc (zc0:(Sl step)) (zc8:Int) (zdJ:Int) (zdh:(Sl Use)):((Sl Use)×Int):=zza zc0 zc8 Fuel zdJ zdh
def zzd (zc0:(Sl step)) (zc8:Int) (zdJ:Int) (zdh:(Sl Use)):Bool:=zzb zc0 zc8 Fuel zdJ zdh
theorem zF2 (hs:zzd zc0 zc8 zdJ zdh=true) (hk:K (e49 (zzc zc0 zc8 zdJ zdh))) (zsp:zgr=zg za4 zdh):z49 (Wk K) [1,1,1,1,1,0,1,0] [] (zDj zc0 zc8 zdJ zdh zgr) :=
  zl (λ X=>z49 (Wk K) [1,1,1,1,1,0,1,0,0] [X]) (by kernel_rfl) λ X5 hX =>
  (show ∀ k, zJk K zc0 zc8 X5 (zzb zc0 zc8 k) (zza zc0 zc8 k) from ziH _ _ (zy9 zc0 zc8) (zy8 zc0 zc8) (zJk K zc0 zc8 X5)
 (by intro _ _ _ hs;exact absurd hs Bool.false_ne_true)
 (by intro P5 S5 hX5 zdJ zdh zgr hs hk zsp;subst zsp;exact hX _ (zbk (by kernel_rfl) (zc hs hk (λ hs hk=>(zaX hs λ hc hs=>And.intro hc (zaX hs λ hc hs=>And.intro hc (hX5 hs hk (zjw (enc:=za4) (f:=zdh.get) (h:=(λ _=>(zc0.get zdJ.toNat).Use)) rfl rfl))))) (λ hs hk=>((zg5 hk):Wk K [.one (.sl zdh.len 2 (λ i=>za4 (zdh.get i))),.one (.int .i64 (0:Int))])))))) _ hs hk zsp
def zze (zc0:(Sl step)) (zc8:Int):((Sl Use)×Int) :=
  (zzc zc0 zc8 (0:Int) (⟨0,(λ _=>default)⟩:Sl Use))
def zzf (zc0:(Sl step)) (zc8:Int):Bool :=
  (zzd zc0 zc8 (0:Int) (⟨0,(λ _=>default)⟩:Sl Use))
theorem zF3 (hs:zzf zc0 zc8=true) (hk:K (e49 (zze zc0 zc8))) (zF4:zy7=zg zai zc0):z49 (Wk K) [1,1,1,1,1,0,1] [] ⟨[(5,zP (.nils)),(18,zP (.sl zc0.len 5 zy7)),(19,zI zc8),(20,zI (0:Int))],[],[]⟩:=by subst zF4;exact zbk (by kernel_rfl) (zF2 hs hk rfl)
def zzg (n:Net):((Sl Use)×Int) :=
  (zze (s89 (⟨n,(⟨0,(λ _=>none)⟩:Mp)⟩:web)) ((s89 (⟨n,(⟨0,(λ _=>none)⟩:Mp)⟩:web)).len:Int))
def zzh (n:Net):Bool :=
  (decide ((p89 (⟨n,(⟨0,(λ _=>none)⟩:Mp)⟩:web)=true)) &&
 (zzf (s89 (⟨n,(⟨0,(λ _=>none)⟩:Mp)⟩:web)) ((s89 (⟨n,(⟨0,(λ _=>none)⟩:Mp)⟩:web)).len:Int)))
theorem zF5 (hs:zzh n=true) (hk:K (e49 (zzg n))):z49 (Wk K) [1,1,1,1] [] ⟨[(4,zp 13 0)],[(13,.box 105 (zm (zaD (⟨n,(⟨0,(λ _=>none)⟩:Mp)⟩:web))))],[]⟩:=zbk (by kernel_rfl) (zaX hs λ hc hs=>And.intro (And.intro ((λ _=>rfl):(∀ i,sc2 ((λ i=>zai ((s89 (⟨n,(⟨0,(λ _=>none)⟩:Mp)⟩:web)).get i)) i)=true)) (And.intro (zE enc_40 4 n.Ties.get) (And.intro (rfl:((false,1,false,[none]):MQ)=(false,1,false,[none])) hc))) (zF3 hs hk rfl))
def zzi (n:Net) (zso:Bool):((Sl Use)×Int) :=
  (cond zso
 ((⟨0,λ _=>default⟩:(Sl Use)),(6:Int))
 (zzg n))
def zzj (n:Net) (zso:Bool):Bool :=
  (cond zso
 true
 (zzh n))
theorem zF6 (hs:zzj n zso=true) (hk:K (e49 (zzi n zso))):z49 (Wk K) [1,1,1,0,1] [] ⟨[(4,zp 13 0),(16,zB zso)],[(13,.box 105 (zm (zaD (⟨n,(⟨0,(λ _=>none)⟩:Mp)⟩:web))))],[]⟩:=zbk (by kernel_rfl) (zc hs hk (λ hs hk=>((wk hk (zis (.one (.nil _ _)) (zis (.one (.rfl _)) zpt))):Wk K [.one (.nils),.one (.int .i64 (6:Int))])) (λ hs hk=>(zF5 hs hk)))
def zzk (n:Net):((Sl Use)×Int) :=
  (zzi n (!(s88 (⟨n,(⟨0,(λ _=>none)⟩:Mp)⟩:web))))
def zzl (n:Net):Bool :=
  (decide ((p88 (⟨n,(⟨0,(λ _=>none)⟩:Mp)⟩:web)=true)) &&
 (zzj n (!(s88 (⟨n,(⟨0,(λ _=>none)⟩:Mp)⟩:web)))))
theorem zF7 (hs:zzl n=true) (hk:K (e49 (zzk n))):z49 (Wk K) [1,1] [] ⟨[(1,zp 1 0)],[(1,.box 24 (zm (enc_24 n)))],[]⟩:=zbk (by kernel_rfl) (zaX hs λ hc hs=>And.intro (And.intro (zE enc_40 4 n.Ties.get) (And.intro (rfl:((false,1,false,[none]):MQ)=(false,1,false,[none])) hc)) (zF6 hs hk))
def zzm (n:Net) (zaO:Bool):((Sl Use)×Int) :=
  (cond zaO
 ((⟨0,λ _=>default⟩:(Sl Use)),(2:Int))
 (zzk n))
def zzn (n:Net) (zaO:Bool):Bool :=
  (cond zaO
 true
 (zzl n))
theorem zF8 (hs:zzn n zaO=true) (hk:K (e49 (zzm n zaO))):z49 (Wk K) [1,0,1] [] ⟨[(1,zp 1 0),(10,zB zaO)],[(1,.box 24 (zm (enc_24 n)))],[]⟩:=zbk (by kernel_rfl) (zc hs hk (λ hs hk=>((wk hk (zis (.one (.nil _ _)) (zis (.one (.rfl _)) zpt))):Wk K [.one (.nils),.one (.int .i64 (2:Int))])) (λ hs hk=>(zF7 hs hk)))
def s49 (n:Net):((Sl Use)×Int) :=
  (zzm n (!(s67 n)))
def p49 (n:Net):Bool :=
  (decide ((p67 n=true)) &&
 (zzn n (!(s67 n))))
end
theorem q49 (n:Net) (K:List PA->Prop) (hs:p49 n=true) (hk:K (e49 (s49 n))):vcFun Tryd.prog G49 zF1 49 [.agg (enc_24 n)] (Wk K) :=
  zbk (by kernel_rfl) (zaX hs λ hc hs=>And.intro (And.intro (zE enc_40 4 n.Ties.get) hc) (zF8 hs hk))
def zF9 : List PA -> COut
  | [.agg [.int .i64 zaj,.sl zaf zaB zae]]=>.det (IsE enc_40 4 zaB zae/\p49 (⟨zaj,(⟨zaf,zar zae⟩:(Sl Tie))⟩:Net)=true) [.one (.sl (((s49 (⟨zaj,(⟨zaf,zar zae⟩:(Sl Tie))⟩:Net)).1).len) 2 (λ i=>za4 (((s49 (⟨zaj,(⟨zaf,zar zae⟩:(Sl Tie))⟩:Net)).1).get i))),.one (.int .i64 ((s49 (⟨zaj,(⟨zaf,zar zae⟩:(Sl Tie))⟩:Net)).2))]
  | _=>.no
theorem zJl:zaA Tryd.prog 49:=⟨_,rfl,rfl,by kernel_rfl⟩
theorem zNI:Ok Tryd.prog 49 zF9:=ziG zLQ zJl λ args K h=>by
  unfold zF9 at h
  split at h
  · rename_i zaj zaf zaB zae
    obtain⟨⟨⟨rfl,zat,rfl⟩,hs⟩,hk⟩:=h
    try rw[zao zat] at hs
    try rw[zao zat] at hk
    exact⟨_,zf5 zg4 _,(λ _ _=>[]),(λ _=>false),zF1,q49 (⟨zaj,(⟨zaf,zat⟩:(Sl Tie))⟩:Net) K hs hk⟩
  · exact h.elim
abbrev T53:Tabs:=Tabs.nil
theorem zLR:TabsOk Tryd.prog T53:=TabsOk.nil
abbrev G53:Ctrs:=csm T53 (λ _ _=>[]) (λ _=>false)
def zGa:Ann:=⟨26,[(0,zK [0,1] []),(1,zK [0,1,10] []),(2,zK [4] []),(3,zK [0,1,5] []),(4,zK [0,1,5,14] []),(5,zK [0,1,5] []),(6,zK [0,1,5,25] []),(7,zK [4] []),(8,zK [4] [])],
 [(4,zK [0,1,5] [])],
 [(3,zK [0,1] [])],
 [],[]⟩
abbrev R53:=Bool
abbrev e53 (r:R53):List PA:=[.one (.bool r)]
@[irreducible] def z53:=ptF Tryd.prog G53 zGa Tryd.f53
def zDk (a:(Sl Use)) (b:(Sl Use)) (iv1:Int):St:=⟨[(0,zS za4 2 a),(1,zS za4 2 b),(5,zI iv1)],[],[]⟩
abbrev zJm (K:List PA->Prop) (a:(Sl Use)) (b:(Sl Use)) (X:St->Prop) (P:Int->Bool) (S:Int->Bool):Prop:=∀ ⦃iv1:Int⦄,P iv1=true->K (e53 (S iv1))->X (zDk a b iv1)
section
variable {K:List PA->Prop}{a:(Sl Use)}{b:(Sl Use)}{iv1:Int}{X1:St->Prop}{P1:Int->Bool}{S1:Int->Bool}
def zzo (a:(Sl Use)) (b:(Sl Use)) (S1:Int->Bool) (iv1:Int):Bool :=
  (cond (decide (iv1 < (a.len : Int)))
 (cond (!(match ((a.get iv1.toNat).Tie == (b.get iv1.toNat).Tie) with | true => (match ((a.get iv1.toNat).Back == (b.get iv1.toNat).Back) with | true => true | false => false) | false => false))
 false
 (S1 (w64 (iv1+(1:Int)))))
 true)
def zzp (a:(Sl Use)) (b:(Sl Use)) (P1:Int->Bool) (iv1:Int):Bool :=
  (cond (decide (iv1 < (a.len : Int)))
 (decide ((0≤iv1/\iv1 < (a.len:Int))) &&
 (decide ((0≤iv1/\iv1 < (b.len:Int))) &&
 (cond (!(match ((a.get iv1.toNat).Tie == (b.get iv1.toNat).Tie) with | true => (match ((a.get iv1.toNat).Back == (b.get iv1.toNat).Back) with | true => true | false => false) | false => false))
 true
 (P1 (w64 (iv1+(1:Int)))))))
 true)
def zzq (a:(Sl Use)) (b:(Sl Use)):Nat->Int->Bool:=lpO (λ _=>default) (zzo a b)
def zzr (a:(Sl Use)) (b:(Sl Use)):Nat->Int->Bool:=lpO (λ _=>false) (zzp a b)
def zzs (a:(Sl Use)) (b:(Sl Use)) (iv1:Int):Bool:=zzq a b Fuel iv1
def zzt (a:(Sl Use)) (b:(Sl Use)) (iv1:Int):Bool:=zzr a b Fuel iv1
theorem zGb (hs:zzt a b iv1=true) (hk:K (e53 (zzs a b iv1))):z53 K [1,1,0,1,0] [] (zDk a b iv1) :=
  zl (λ X=>z53 K [1,1,0,1,0,0] [X]) (by kernel_rfl) λ X1 hX =>
  (show ∀ k, zJm K a b X1 (zzr a b k) (zzq a b k) from ziH _ _ (zzp a b) (zzo a b) (zJm K a b X1)
 (by intro _ hs;exact absurd hs Bool.false_ne_true)
 (by intro P1 S1 hX1 iv1 hs hk;exact hX _ (zbk (by kernel_rfl) (zc hs hk (λ hs hk=>(zaX hs λ hc hs=>And.intro hc (zaX hs λ hc hs=>And.intro hc (zc hs hk (λ hs hk=>hk) (λ hs hk=>(hX1 hs hk)))))) (λ hs hk=>hk))))) _ hs hk
def zzu (a:(Sl Use)) (b:(Sl Use)):Bool :=
  (zzs a b (0:Int))
def zzv (a:(Sl Use)) (b:(Sl Use)):Bool :=
  (zzt a b (0:Int))
theorem zGc (hs:zzv a b=true) (hk:K (e53 (zzu a b))):z53 K [1,1] [] ⟨[(0,zS za4 2 a),(1,zS za4 2 b)],[],[]⟩:=zbk (by kernel_rfl) (zGb hs hk)
def s53 (a:(Sl Use)) (b:(Sl Use)):Bool :=
  (cond ((a.len : Int) != (b.len : Int))
 false
 (zzu a b))
def p53 (a:(Sl Use)) (b:(Sl Use)):Bool :=
  (cond ((a.len : Int) != (b.len : Int))
 true
 (zzv a b))
end
theorem q53 (a:(Sl Use)) (b:(Sl Use)) (K:List PA->Prop) (hs:p53 a b=true) (hk:K (e53 (s53 a b))):vcFun Tryd.prog G53 zGa 53 [.one (.sl a.len 2 (λ i=>za4 (a.get i))),.one (.sl b.len 2 (λ i=>za4 (b.get i)))] K :=
  zbk (by kernel_rfl) (zc hs hk (λ hs hk=>hk) (λ hs hk=>(zGc hs hk)))
def zGd : List PA -> COut
  | [.one (.sl zga zmU zgb),.one (.sl zgX zoC zgI)]=>.det (IsE za4 2 zmU zgb/\IsE za4 2 zoC zgI/\p53 (⟨zga,zdr zgb⟩:(Sl Use)) (⟨zgX,zdr zgI⟩:(Sl Use))=true) [.one (.bool (s53 (⟨zga,zdr zgb⟩:(Sl Use)) (⟨zgX,zdr zgI⟩:(Sl Use))))]
  | _=>.no
theorem zJn:zaA Tryd.prog 53:=⟨_,rfl,rfl,by kernel_rfl⟩
theorem zNJ:Ok Tryd.prog 53 zGd:=zbH zLR zJn λ args K h=>by
  unfold zGd at h
  split at h
  · rename_i zga zmU zgb zgX zoC zgI
    obtain⟨⟨⟨rfl,ziY,rfl⟩,⟨rfl,zld,rfl⟩,hs⟩,hk⟩:=h
    try rw[zds ziY] at hs
    try rw[zds ziY] at hk
    try rw[zds zld] at hs
    try rw[zds zld] at hk
    exact⟨(λ _ _=>[]),(λ _=>false),zGa,q53 (⟨zga,ziY⟩:(Sl Use)) (⟨zgX,zld⟩:(Sl Use)) K hs hk⟩
  · exact h.elim
abbrev T92:Tabs:=((Tabs.nil.addF 93 zpv).addI 110 zpx)
theorem zLS:TabsOk Tryd.prog T92:=((TabsOk.nil.addF zHq).addI zvc)
abbrev G92:Ctrs:=csm T92 (λ _ _=>[]) (λ _=>false)
def zjO:Ann:=⟨49,[(0,zK [0,1,2,3,4] [0,1,2,3,4,4099]),(1,zK [0,1,2,3,4,7] [0,1,2,3,4,4099]),(2,zK [0,1,2,3,4,5,7] [0,1,2,3,4,5,4099]),(3,zK [0,1,2,3,4,5,7,41] [0,1,2,3,4,5,4099]),(4,zK [0,1,2,3,4,5] [0,1,2,3,4,5,4099]),(5,zK [0,1,2,3,4] [0,1,2,3,4,4099]),(6,zK [0,1,2,3,4] [0,1,2,3,4,4099]),(7,zK [0,1,2,3,4] [0,1,2,3,4,4099])],
 [(2,zK [0,1,2,3,4,7] [0,1,2,3,4,4099])],
 [],
 [],[]⟩
def zgs (w:web) (at_:Int) (d:Tab) (out:(Sl Use)):St:=⟨[(0,.one (.c (.ptr 0 0))),(1,.one (.c (.ptr 1 0))),(2,.one (.c (.ptr 2 0))),(3,.one (.c (.ptr 3 0))),(4,.one (.c (.ptr 4 0))),(7,.one (.c (.p (.fn 110 [] [.fp [.fp (zaD w) 0] 0]))))],[(0,.box 102 [.p (.fp (zaD w) 0)]),(1,.box 3 [.p (.int .i64 at_)]),(2,.box 116 (zm (zac d))),(3,.box 67 [.vec 4099]),(4,.box 4 [.p (.bool false)]),(4099,.vec 75 2 16 out.len (λ i=>za4 (out.get i)))],[]⟩
def zl3 (K:List PA×List XA->Prop) (w:web) (at_:Int) (d:Tab) (out:(Sl Use)):Prop:=vc Tryd.prog G92 zjO (cdF Tryd.f92 [1,0,1,0]) (zas 0 (sqK Tryd.prog G92 zjO (cdF Tryd.f92 [1,1]) (zmj Tryd.prog Tryd.f92 [.box 102 [.p (.fp (zaD w) 0)],.box 3 [.p (.int .i64 at_)],.box 116 (xcm (zac d)),.box 67 [.vec 75 2 16 out.len (λ i=>za4 (out.get i))]] (λ a b=>K (a,b))))) (zgs w at_ d out)
theorem zGe (w : web) (at_ : Int) (d : Tab) (out : (Sl Use)) (K : List PA × List XA -> Prop) :
  zk2 Tryd.prog G92 zjO 92 [.box 102 [.p (.fp (zaD w) 0)],.box 3 [.p (.int .i64 at_)],.box 116 (xcm (zac d)),.box 67 [.vec 75 2 16 out.len (λ i=>za4 (out.get i))]] (λ a b=>K (a,b)) =
  ((IsE enc_40 4 4 (λ i=>enc_40 (w.Net.Ties.get i))/\((false,1,false,[none]):MQ)=(false,1,false,[none])) /\
 (zl3 K w at_ d out)):=by kernel_rfl
def zp8 (K:List PA×List XA->Prop) (w:web) (at_:Int) (d:Tab) (out:(Sl Use)):Prop :=
  (K ([.one (.bool false)],[.box 102 [.p (.fp (zaD w) 0)],.box 3 [.p (.int .i64 at_)],.box 116 (xcm (zac d)),.box 67 [.vec 75 2 16 out.len (λ i=>za4 (out.get i))]]))
def zp9 (K:List PA×List XA->Prop) (X0:List (List PA)->St->Prop) (y0:step) (rest0:List (List PA)) (w:web) (at_:Int) (d:Tab) (out:(Sl Use)):Prop :=
  (zbR (y0.from_ == at_)
 (((0≤y0.to/\y0.to < (40:Int))) /\
 (zbR (!(match ((tg 80 d (0 + y0.to.toNat * 2 + 0)) == (1000000000000:Int)) with | true => (match ((tg 80 d (0 + y0.to.toNat * 2 + 0 + 1)) == (0:Int)) with | true => true | false => false) | false => false))
 (((0≤y0.to/\y0.to < (40:Int))) /\
 (((0≤y0.to/\y0.to < (40:Int))) /\
 (((0≤at_/\at_ < (40:Int))) /\
 (zbR (match ((w64 ((tg 80 d (0 + y0.to.toNat * 2 + 0)) + y0.length)) == (tg 80 d (0 + at_.toNat * 2 + 0))) with | true => (match ((w64 ((tg 80 d (0 + y0.to.toNat * 2 + 1)) + (1:Int))) == (tg 80 d (0 + at_.toNat * 2 + 0 + 1))) with | true => true | false => false) | false => false)
 ((((out.len+1) * 16≤140737488355328/\out.len+1≤9223372036854775807)) /\
 (K ([.one (.bool true)],[.box 102 [.p (.fp (zaD w) 0)],.box 3 [.p (.int .i64 y0.to)],.box 116 (xcm (zac d)),.box 67 [.vec 75 2 16 (out.len+1) (appG out.len (λ i=>za4 (out.get i)) (λ _=>(za4 y0.Use)))]])))
 (X0 rest0 (zgs w at_ d out))))))
 (X0 rest0 (zgs w at_ d out))))
 (X0 rest0 (zgs w at_ d out)))
theorem zsq (K:List PA×List XA->Prop) (w:web) (at_:Int) (d:Tab) (out:(Sl Use)):(zas 0 (sqK Tryd.prog G92 zjO (cdF Tryd.f92 [1,1]) (zmj Tryd.prog Tryd.f92 [.box 102 [.p (.fp (zaD w) 0)],.box 3 [.p (.int .i64 at_)],.box 116 (xcm (zac d)),.box 67 [.vec 75 2 16 out.len (λ i=>za4 (out.get i))]] (λ a b=>K (a,b))))) .normal (zgs w at_ d out)=zp8 K w at_ d out:=by kernel_rfl
theorem zsr (K : List PA × List XA -> Prop) (X0 : List (List PA) -> St -> Prop) (y0 : step) (rest0 : List (List PA)) (w : web) (at_ : Int) (d : Tab) (out : (Sl Use)) :
  zvu Tryd.prog G92 zjO 2 [8] (cd (cdF Tryd.f92 [1,0,1,0]) [0]) (cd (cdF Tryd.f92 [1,0,1,0]) [1]) X0 (zas 0 (sqK Tryd.prog G92 zjO (cdF Tryd.f92 [1,1]) (zmj Tryd.prog Tryd.f92 [.box 102 [.p (.fp (zaD w) 0)],.box 3 [.p (.int .i64 at_)],.box 116 (xcm (zac d)),.box 67 [.vec 75 2 16 out.len (λ i=>za4 (out.get i))]] (λ a b=>K (a,b))))) [.agg (zai y0)] rest0 (zgs w at_ d out)=zp9 K X0 y0 rest0 w at_ d out:=by kernel_rfl
theorem zzw (K : List PA × List XA -> Prop) (w : web) (at_ : Int) (d : Tab) (out : (Sl Use))
  (hsafe:IsE enc_40 4 4 (λ i=>enc_40 (w.Net.Ties.get i))/\((false,1,false,[none]):MQ)=(false,1,false,[none])/\(zme w=true)) (h:∀ X0:List (List PA)->St->Prop,(∀ (_:Unit),zp8 K w at_ d out->X0 [] (zgs w at_ d out))->(∀ (y:step) (rest:List (List PA)) (_:Unit),zp9 K X0 y rest w at_ d out->X0 ([.agg (zai y)] :: rest) (zgs w at_ d out))->X0 ((zit w).map λ y=>[.agg (zai y)]) (zgs w at_ d out)) :
  zl3 K w at_ d out:=by
  have e:zl3 K w at_ d out=((IsE enc_40 4 4 (λ i=>enc_40 (w.Net.Ties.get i))/\((false,1,false,[none]):MQ)=(false,1,false,[none])/\(zme w=true))/\∀ X:List (List PA)->St->Prop,(∀ s,(zas 0 (sqK Tryd.prog G92 zjO (cdF Tryd.f92 [1,1]) (zmj Tryd.prog Tryd.f92 [.box 102 [.p (.fp (zaD w) 0)],.box 3 [.p (.int .i64 at_)],.box 116 (xcm (zac d)),.box 67 [.vec 75 2 16 out.len (λ i=>za4 (out.get i))]] (λ a b=>K (a,b))))) .normal s->X [] s)->(∀ y rest s,zvu Tryd.prog G92 zjO 2 [8] (cd (cdF Tryd.f92 [1,0,1,0]) [0]) (cd (cdF Tryd.f92 [1,0,1,0]) [1]) X (zas 0 (sqK Tryd.prog G92 zjO (cdF Tryd.f92 [1,1]) (zmj Tryd.prog Tryd.f92 [.box 102 [.p (.fp (zaD w) 0)],.box 3 [.p (.int .i64 at_)],.box 116 (xcm (zac d)),.box 67 [.vec 75 2 16 out.len (λ i=>za4 (out.get i))]] (λ a b=>K (a,b))))) y rest s->X (y :: rest) s)->X ((zit w).map λ y=>[.agg (zai y)]) (zgs w at_ d out)):=by kernel_rfl
  refine zbk e ⟨hsafe,?_⟩
  intro X h0 h1
  refine h X (λ _ hs=>h0 _ ?_) (λ y rest _ hs=>h1 _ rest _ ?_)
  · rw[zsq K w at_ d out];exact hs
  · have e2 := zsr K X y rest w at_ d out
    rw[e2];exact hs
abbrev e92 (w:web) (d:Tab) (r:(Bool×Int×(Sl Use))):List PA×List XA:=([.one (.bool r.1)],[.box 102 [.p (.fp (zaD w) 0)],.box 3 [.p (.int .i64 r.2.1)],.box 116 (xcm (zac d)),.box 67 [.vec 75 2 16 r.2.2.len (λ i=>za4 (r.2.2.get i))]])
attribute [irreducible] zl3
def zss (w:web) (at_:Int) (d:Tab) (out:(Sl Use)):(Bool×Int×(Sl Use)) :=
  (false,at_,(⟨out.len,out.get⟩:(Sl Use)))
def zst (w:web) (at_:Int) (d:Tab) (out:(Sl Use)):Bool :=
  true
def zsu (w:web) (at_:Int) (d:Tab) (out:(Sl Use)) (y0:step) (S0:(Bool×Int×(Sl Use))):(Bool×Int×(Sl Use)) :=
  (cond (y0.from_ == at_)
 (cond (!(match ((tg 80 d (0 + y0.to.toNat * 2 + 0)) == (1000000000000:Int)) with | true => (match ((tg 80 d (0 + y0.to.toNat * 2 + 0 + 1)) == (0:Int)) with | true => true | false => false) | false => false))
 (cond (match ((w64 ((tg 80 d (0 + y0.to.toNat * 2 + 0)) + y0.length)) == (tg 80 d (0 + at_.toNat * 2 + 0))) with | true => (match ((w64 ((tg 80 d (0 + y0.to.toNat * 2 + 1)) + (1:Int))) == (tg 80 d (0 + at_.toNat * 2 + 0 + 1))) with | true => true | false => false) | false => false)
 (true,y0.to,(⟨(out.len+1),(zf4 out.len out.get (λ _=>y0.Use))⟩:(Sl Use)))
 (S0))
 (S0))
 (S0))
def zsv (w:web) (at_:Int) (d:Tab) (out:(Sl Use)) (y0:step) (P0:Bool):Bool :=
  (cond (y0.from_ == at_)
 (decide ((0≤y0.to/\y0.to < (40:Int))) &&
 (cond (!(match ((tg 80 d (0 + y0.to.toNat * 2 + 0)) == (1000000000000:Int)) with | true => (match ((tg 80 d (0 + y0.to.toNat * 2 + 0 + 1)) == (0:Int)) with | true => true | false => false) | false => false))
 (decide ((0≤y0.to/\y0.to < (40:Int))) &&
 (decide ((0≤y0.to/\y0.to < (40:Int))) &&
 (decide ((0≤at_/\at_ < (40:Int))) &&
 (cond (match ((w64 ((tg 80 d (0 + y0.to.toNat * 2 + 0)) + y0.length)) == (tg 80 d (0 + at_.toNat * 2 + 0))) with | true => (match ((w64 ((tg 80 d (0 + y0.to.toNat * 2 + 1)) + (1:Int))) == (tg 80 d (0 + at_.toNat * 2 + 0 + 1))) with | true => true | false => false) | false => false)
 (decide (((out.len+1) * 16≤140737488355328/\out.len+1≤9223372036854775807)) &&
 true)
 (P0)))))
 (P0)))
 (P0))
def zl4 (w : web) (at_ : Int) (d : Tab) (out : (Sl Use)) : List step -> (Bool × Int × (Sl Use))
  | []=>zss w at_ d out
  | y :: r=>zsu w at_ d out y (zl4 w at_ d out r)
def zl5 (w : web) (at_ : Int) (d : Tab) (out : (Sl Use)) : List step -> Bool
  | []=>zst w at_ d out
  | y :: r=>zsv w at_ d out y (zl5 w at_ d out r)
def zzx (w:web) (at_:Int) (d:Tab) (out:(Sl Use)):(Bool×Int×(Sl Use)):=zl4 w at_ d out (zit w)
def zsw (w:web) (at_:Int) (d:Tab) (out:(Sl Use)):Bool:=decide ((zme w=true)) && zl5 w at_ d out (zit w)
theorem zGf (K:List PA×List XA->Prop) (w:web) (at_:Int) (d:Tab) (out:(Sl Use)) (hs:zsw w at_ d out=true) (hk:K (e92 w d (zzx w at_ d out))):zl3 K w at_ d out:=by
  unfold zsw at hs
  rw[Bool.and_eq_true] at hs
  obtain⟨hsf,hs⟩:=hs
  have hc:=of_decide_eq_true hsf
  refine zzw K w at_ d out ⟨isE,rfl,hc⟩ ?_
  intro X0 hexit hstep
  have key:∀ (l:List step),zl5 w at_ d out l=true->K (e92 w d (zl4 w at_ d out l))->X0 (l.map λ y=>[.agg (zai y)]) (zgs w at_ d out):=by
    intro l
    induction l with
    | nil =>
      intro hs hk
      refine hexit () ?_
      have hs:zst w at_ d out=true:=hs
      have hk:K (e92 w d (zss w at_ d out)):=hk
      unfold zst at hs
      unfold zss at hk
      exact hk
    | cons y0 l ih =>
      intro hs hk
      refine hstep y0 _ () ?_
      have hs:zsv w at_ d out y0 (zl5 w at_ d out l)=true:=hs
      have hk:K (e92 w d (zsu w at_ d out y0 (zl4 w at_ d out l))):=hk
      unfold zsv at hs
      unfold zsu at hk
      generalize zl4 w at_ d out l=S0 at hk ih
      generalize zl5 w at_ d out l=P0 at hs ih
      have hX0:=ih
      exact (za2 (K := λ r => K (e92 w d r))
 (λ hs hk => (zaX hs λ hc hs => ⟨hc, (za2 (K := λ r => K (e92 w d r))
 (λ hs hk => (zaX hs λ hc hs => ⟨hc, (zaX hs λ hc hs => ⟨hc, (zaX hs λ hc hs => ⟨hc, (za2 (K := λ r => K (e92 w d r))
 (λ hs hk=>(zaX hs λ hc hs=>⟨hc,(Eq.mpr (congrArg K (congrArg (λ (g_:Nat->List PV)=>(([.one (.bool true)],[.box 102 [.p (.fp (zaD w) 0)],.box 3 [.p (.int .i64 y0.to)],.box 116 (xcm (zac d)),.box 67 [.vec 75 2 16 (out.len+1) g_]]):List PA×List XA)) (zjw (enc:=za4) (f:=out.get) (h:=(λ _=>y0.Use)) rfl rfl))) hk)⟩))
 (λ hs hk=>(hX0 hs hk)) hs hk)⟩)⟩)⟩))
 (λ hs hk=>(hX0 hs hk)) hs hk)⟩))
 (λ hs hk=>(hX0 hs hk)) hs hk)
  exact key _ hs hk
def s92 (w:web) (at_:Int) (d:Tab) (out:(Sl Use)):(Bool×Int×(Sl Use)) :=
  (zzx w at_ d out)
def p92 (w:web) (at_:Int) (d:Tab) (out:(Sl Use)):Bool :=
  (zsw w at_ d out)
theorem q92 (w:web) (at_:Int) (d:Tab) (out:(Sl Use)) (K:List PA×List XA->Prop) (hs:p92 w at_ d out=true) (hk:K (e92 w d (s92 w at_ d out))):zk2 Tryd.prog G92 zjO 92 [.box 102 [.p (.fp (zaD w) 0)],.box 3 [.p (.int .i64 at_)],.box 116 (xcm (zac d)),.box 67 [.vec 75 2 16 out.len (λ i=>za4 (out.get i))]] (λ a b=>K (a,b)):=by
  refine zbk (zGe w at_ d out K) ?_
  unfold p92 at hs
  unfold s92 at hk
  exact⟨⟨isE,rfl⟩,(zGf K w at_ d out hs hk)⟩
def zGg : MK
  | [.box 102 [.p (.fp [.int .i64 b0_Net_Nodes,.sl b0_Net_Ties_n b0_Net_Ties_s b0_Net_Ties_g,.fm b0_out_q b0_out_n b0_out_F] 0)],.box 3 [.p (.int .i64 b1)],.box 116 b2_cs,.box 67 [.vec 75 2 16 b3_n b3_g]]=>some (IsE enc_40 4 b0_Net_Ties_s b0_Net_Ties_g/\b0_out_q=(false,1,false,[none])/\b2_cs=xcm (zac (zaK (unX b2_cs)))/\IsE za4 2 2 b3_g/\p92 (⟨(⟨b0_Net_Nodes,(⟨b0_Net_Ties_n,zar b0_Net_Ties_g⟩:(Sl Tie))⟩:Net),(⟨b0_out_n,b0_out_F⟩:Mp)⟩:web) b1 (zaK (unX b2_cs)) (⟨b3_n,zdr b3_g⟩:(Sl Use))=true,[.one (.bool ((s92 (⟨(⟨b0_Net_Nodes,(⟨b0_Net_Ties_n,zar b0_Net_Ties_g⟩:(Sl Tie))⟩:Net),(⟨b0_out_n,b0_out_F⟩:Mp)⟩:web) b1 (zaK (unX b2_cs)) (⟨b3_n,zdr b3_g⟩:(Sl Use))).1))],[.box 102 [.p (.fp [.int .i64 b0_Net_Nodes,.sl b0_Net_Ties_n b0_Net_Ties_s b0_Net_Ties_g,.fm b0_out_q b0_out_n b0_out_F] 0)],.box 3 [.p (.int .i64 ((s92 (⟨(⟨b0_Net_Nodes,(⟨b0_Net_Ties_n,zar b0_Net_Ties_g⟩:(Sl Tie))⟩:Net),(⟨b0_out_n,b0_out_F⟩:Mp)⟩:web) b1 (zaK (unX b2_cs)) (⟨b3_n,zdr b3_g⟩:(Sl Use))).2.1))],.box 116 b2_cs,.box 67 [.vec 75 2 16 (((s92 (⟨(⟨b0_Net_Nodes,(⟨b0_Net_Ties_n,zar b0_Net_Ties_g⟩:(Sl Tie))⟩:Net),(⟨b0_out_n,b0_out_F⟩:Mp)⟩:web) b1 (zaK (unX b2_cs)) (⟨b3_n,zdr b3_g⟩:(Sl Use))).2.2).len) (λ i=>za4 (((s92 (⟨(⟨b0_Net_Nodes,(⟨b0_Net_Ties_n,zar b0_Net_Ties_g⟩:(Sl Tie))⟩:Net),(⟨b0_out_n,b0_out_F⟩:Mp)⟩:web) b1 (zaK (unX b2_cs)) (⟨b3_n,zdr b3_g⟩:(Sl Use))).2.2).get i))]])
  | _=>none
theorem zJo:zaA Tryd.prog 92:=⟨_,rfl,rfl,by kernel_rfl⟩
theorem zNK:zjM Tryd.prog 92 zGg:=zEp zLS zJo λ xs safe rs ys h hs K hk=>by
  unfold zGg at h
  split at h
  · rename_i b0_Net_Nodes b0_Net_Ties_n b0_Net_Ties_s b0_Net_Ties_g b0_out_q b0_out_n b0_out_F b1 b2_cs b3_n b3_g
    simp only[Option.some.injEq,Prod.mk.injEq] at h
    obtain⟨rfl,rfl,rfl⟩:=h
    obtain⟨⟨rfl,b0_Net_Ties_f,rfl⟩,rfl,hT_b2,⟨_,b3_f,rfl⟩,hs⟩:=hs
    try rw[zao b0_Net_Ties_f] at hs
    try rw[zao b0_Net_Ties_f] at hk
    try rw[zds b3_f] at hs
    try rw[zds b3_f] at hk
    refine⟨λ _ _=>[],λ _=>false,zjO,?_⟩
    show zk2 Tryd.prog G92 zjO 92 _ K
    have hq:=q92 (⟨(⟨b0_Net_Nodes,(⟨b0_Net_Ties_n,b0_Net_Ties_f⟩:(Sl Tie))⟩:Net),(⟨b0_out_n,b0_out_F⟩:Mp)⟩:web) b1 (zaK (unX b2_cs)) (⟨b3_n,b3_f⟩:(Sl Use)) (λ x=>K x.1 x.2) hs
    dsimp only[e92] at hq
    rw[← hT_b2] at hq
    exact hq hk
  · cases h
abbrev T54:Tabs:=(((Tabs.nil.addF 74 zvd).addF 75 zve).addM 92 zGg)
theorem zLT:TabsOk Tryd.prog T54:=(((TabsOk.nil.addF zKE).addF zKG).addM zNK)
abbrev G54:Ctrs:=csm T54 (λ _ _=>[]) (λ _=>false)
def zGh:Ann:=⟨45,[(0,zK [1,2,3] [3]),(1,zK [1,2,8,9] [8]),(2,zK [1,2,8,9,23] [8]),(3,zK [6,7] []),(4,zK [1,8,10] [8,10]),(5,zK [1,8,10,32] [8,10]),(6,zK [6,7] []),(7,zK [1,8,10,11] [8,10,11]),(8,zK [8,10,11,12] [8,10,11,12]),(9,zK [10,11,12,13] [8,10,11,12]),(10,zK [10,11,12,13,43] [8,10,11,12,5000]),(11,zK [6,7] [5000])],
 [(10,⟨[10,11,12,13],[8,10,11,12,5000],[],[(11,0,5000,75,λ _=>za4 default)],[],[],[]⟩)],
 [],
 [],[]⟩
abbrev R54:=((Sl Use)×Int)
abbrev e54 (r:R54):List PA:=[.one (.sl r.1.len 2 (λ i=>za4 (r.1.get i))),.one (.int .i64 r.2)]
@[irreducible] def z54:=ptF Tryd.prog G54 zGh Tryd.f54
def zDl (n:Net) (from_a1:Int) (to:Int) (zhF:Int) (zbc:(Sl Use)) (dt0:Tab) (zdF:Nat->List PV):St:=⟨[(10,zp 10 0),(11,zp 11 0),(12,zp 12 0),(13,.one (.c (.clo 92 [.b 8,.b 12,.b 10,.b 11])))],[(8,.box 102 [.p (.fp (zaD (⟨(s74 n (⟨2,zax (zbz [(zad from_a1),(zad to)])⟩:(Sl Int))).1.Net,((s74 n (⟨2,zax (zbz [(zad from_a1),(zad to)])⟩:(Sl Int))).1.out)⟩:web)) 0)]),(10,.box 116 (zm (zac dt0))),(11,.box 67 [.vec 5000]),(12,.box 3 [zi zhF]),(5000,.vec 75 2 16 zbc.len zdF)],[]⟩
abbrev zJp (K:List PA->Prop) (n:Net) (from_a1:Int) (to:Int) (X:St->Prop) (P:Int->(Sl Use)->Tab->Bool) (S:Int->(Sl Use)->Tab->((Sl Use)×Int)):Prop:=∀ ⦃zhF:Int⦄ ⦃zbc:(Sl Use)⦄ ⦃dt0:Tab⦄ ⦃zdF:Nat->List PV⦄,P zhF zbc dt0=true->K (e54 (S zhF zbc dt0))->zdF=zg za4 zbc->X (zDl n from_a1 to zhF zbc dt0 zdF)
section
variable {K:List PA->Prop}{n:Net}{from_a1:Int}{to:Int}{zhF:Int}{zbc:(Sl Use)}{dt0:Tab}{zdF:Nat->List PV}{X0:St->Prop}{P0:Int->(Sl Use)->Tab->Bool}{S0:Int->(Sl Use)->Tab->((Sl Use)×Int)}
def zzy (n:Net) (from_a1:Int) (to:Int) (S0:Int->(Sl Use)->Tab->((Sl Use)×Int)) (zhF:Int) (zbc:(Sl Use)) (dt0:Tab):((Sl Use)×Int) :=
  (cond (decide ((tg 80 dt0 (0 + zhF.toNat * 2 + 1)) > (0:Int)))
 (cond ((s92 (⟨(s74 n (⟨2, zax (zbz [(zad from_a1), (zad to)])⟩ : (Sl Int))).1.Net, ((s74 n (⟨2, zax (zbz [(zad from_a1), (zad to)])⟩ : (Sl Int))).1.out)⟩ : web) zhF (zaK (unX (xcm (zac dt0)))) (⟨zbc.len, zbc.get⟩ : (Sl Use))).1)
 (S0 ((s92 (⟨(s74 n (⟨2,zax (zbz [(zad from_a1),(zad to)])⟩:(Sl Int))).1.Net,((s74 n (⟨2,zax (zbz [(zad from_a1),(zad to)])⟩:(Sl Int))).1.out)⟩:web) zhF (zaK (unX (xcm (zac dt0)))) (⟨zbc.len,zbc.get⟩:(Sl Use))).2.1) ((s92 (⟨(s74 n (⟨2,zax (zbz [(zad from_a1),(zad to)])⟩:(Sl Int))).1.Net,((s74 n (⟨2,zax (zbz [(zad from_a1),(zad to)])⟩:(Sl Int))).1.out)⟩:web) zhF (zaK (unX (xcm (zac dt0)))) (⟨zbc.len,zbc.get⟩:(Sl Use))).2.2) dt0)
 (((s92 (⟨(s74 n (⟨2,zax (zbz [(zad from_a1),(zad to)])⟩:(Sl Int))).1.Net,((s74 n (⟨2,zax (zbz [(zad from_a1),(zad to)])⟩:(Sl Int))).1.out)⟩:web) zhF (zaK (unX (xcm (zac dt0)))) (⟨zbc.len,zbc.get⟩:(Sl Use))).2.2),(0:Int)))
 (zbc,(0:Int)))
def zzz (n:Net) (from_a1:Int) (to:Int) (P0:Int->(Sl Use)->Tab->Bool) (zhF:Int) (zbc:(Sl Use)) (dt0:Tab):Bool :=
  (decide ((0≤zhF/\zhF < (40:Int))) &&
 (cond (decide ((tg 80 dt0 (0 + zhF.toNat * 2 + 1)) > (0:Int)))
 (decide ((p92 (⟨(s74 n (⟨2,zax (zbz [(zad from_a1),(zad to)])⟩:(Sl Int))).1.Net,((s74 n (⟨2,zax (zbz [(zad from_a1),(zad to)])⟩:(Sl Int))).1.out)⟩:web) zhF (zaK (unX (xcm (zac dt0)))) (⟨zbc.len,zbc.get⟩:(Sl Use))=true)) &&
 (cond ((s92 (⟨(s74 n (⟨2, zax (zbz [(zad from_a1), (zad to)])⟩ : (Sl Int))).1.Net, ((s74 n (⟨2, zax (zbz [(zad from_a1), (zad to)])⟩ : (Sl Int))).1.out)⟩ : web) zhF (zaK (unX (xcm (zac dt0)))) (⟨zbc.len, zbc.get⟩ : (Sl Use))).1)
 (P0 ((s92 (⟨(s74 n (⟨2,zax (zbz [(zad from_a1),(zad to)])⟩:(Sl Int))).1.Net,((s74 n (⟨2,zax (zbz [(zad from_a1),(zad to)])⟩:(Sl Int))).1.out)⟩:web) zhF (zaK (unX (xcm (zac dt0)))) (⟨zbc.len,zbc.get⟩:(Sl Use))).2.1) ((s92 (⟨(s74 n (⟨2,zax (zbz [(zad from_a1),(zad to)])⟩:(Sl Int))).1.Net,((s74 n (⟨2,zax (zbz [(zad from_a1),(zad to)])⟩:(Sl Int))).1.out)⟩:web) zhF (zaK (unX (xcm (zac dt0)))) (⟨zbc.len,zbc.get⟩:(Sl Use))).2.2) dt0)
 true))
 true))
def zzA (n:Net) (from_a1:Int) (to:Int):Nat->Int->(Sl Use)->Tab->((Sl Use)×Int):=lpO (λ _ _ _=>default) (zzy n from_a1 to)
def zzB (n:Net) (from_a1:Int) (to:Int):Nat->Int->(Sl Use)->Tab->Bool:=lpO (λ _ _ _=>false) (zzz n from_a1 to)
def zzC (n:Net) (from_a1:Int) (to:Int) (zhF:Int) (zbc:(Sl Use)) (dt0:Tab):((Sl Use)×Int):=zzA n from_a1 to Fuel zhF zbc dt0
def zzD (n:Net) (from_a1:Int) (to:Int) (zhF:Int) (zbc:(Sl Use)) (dt0:Tab):Bool:=zzB n from_a1 to Fuel zhF zbc dt0
theorem zGi (hs:zzD n from_a1 to zhF zbc dt0=true) (hk:K (e54 (zzC n from_a1 to zhF zbc dt0))) (zl6:zdF=zg za4 zbc):z54 (Wk K) [1,1,1,1,1,1,1,1,0,0] [] (zDl n from_a1 to zhF zbc dt0 zdF) :=
  zl (λ X=>z54 (Wk K) [1,1,1,1,1,1,1,1,0,0,0] [X]) (by kernel_rfl) λ X0 hX =>
  (show ∀ k, zJp K n from_a1 to X0 (zzB n from_a1 to k) (zzA n from_a1 to k) from ziH _ _ (zzz n from_a1 to) (zzy n from_a1 to) (zJp K n from_a1 to X0)
 (by intro _ _ _ _ hs;exact absurd hs Bool.false_ne_true)
 (by intro P0 S0 hX0 zhF zbc dt0 zdF hs hk zl6;subst zl6;exact hX _ (zbk (by kernel_rfl) (zaX hs λ hc hs=>And.intro hc (zc hs hk (λ hs hk=>(zaX hs λ hc hs=>And.intro (And.intro (zE enc_40 4 ((s74 n (⟨2,zax (zbz [(zad from_a1),(zad to)])⟩:(Sl Int))).1.Net.Ties.get)) (And.intro (rfl:((false,1,false,[none]):MQ)=(false,1,false,[none])) (And.intro (zEq:xcm (zac dt0)=xcm (zac (zaK (unX (xcm (zac dt0)))))) (And.intro (zE za4 2 zbc.get) hc)))) (zc hs hk (λ hs hk=>(hX0 hs hk rfl)) (λ hs hk=>((zg5 hk):Wk K [.one (.sl (((s92 (⟨(s74 n (⟨2,zax (zbz [(zad from_a1),(zad to)])⟩:(Sl Int))).1.Net,((s74 n (⟨2,zax (zbz [(zad from_a1),(zad to)])⟩:(Sl Int))).1.out)⟩:web) zhF (zaK (unX (xcm (zac dt0)))) (⟨zbc.len,zbc.get⟩:(Sl Use))).2.2).len) 2 (λ i=>za4 (((s92 (⟨(s74 n (⟨2,zax (zbz [(zad from_a1),(zad to)])⟩:(Sl Int))).1.Net,((s74 n (⟨2,zax (zbz [(zad from_a1),(zad to)])⟩:(Sl Int))).1.out)⟩:web) zhF (zaK (unX (xcm (zac dt0)))) (⟨zbc.len,zbc.get⟩:(Sl Use))).2.2).get i))),.one (.int .i64 (0:Int))]))))) (λ hs hk=>((zg5 hk):Wk K [.one (.sl zbc.len 2 (λ i=>za4 (zbc.get i))),.one (.int .i64 (0:Int))]))))))) _ hs hk zl6
def s54 (n:Net) (from_a1:Int) (to:Int):((Sl Use)×Int) :=
  (cond ((s74 n (⟨2, zax (zbz [(zad from_a1), (zad to)])⟩ : (Sl Int))).2 == 0)
 (cond ((0:Int) != (0:Int))
 ((⟨0,λ _=>default⟩:(Sl Use)),(0:Int))
 (cond (match ((tg 80 (s75 (⟨(s74 n (⟨2, zax (zbz [(zad from_a1), (zad to)])⟩ : (Sl Int))).1.Net, ((s74 n (⟨2, zax (zbz [(zad from_a1), (zad to)])⟩ : (Sl Int))).1.out)⟩ : web) to) (0 + from_a1.toNat * 2 + 0)) == (1000000000000:Int)) with | true => (match ((tg 80 (s75 (⟨(s74 n (⟨2, zax (zbz [(zad from_a1), (zad to)])⟩ : (Sl Int))).1.Net, ((s74 n (⟨2, zax (zbz [(zad from_a1), (zad to)])⟩ : (Sl Int))).1.out)⟩ : web) to) (0 + from_a1.toNat * 2 + 0 + 1)) == (0:Int)) with | true => true | false => false) | false => false)
 ((⟨0,λ _=>default⟩:(Sl Use)),(6:Int))
 (zzC n from_a1 to from_a1 (⟨0,(λ _=>default)⟩:Sl Use) (s75 (⟨(s74 n (⟨2,zax (zbz [(zad from_a1),(zad to)])⟩:(Sl Int))).1.Net,((s74 n (⟨2,zax (zbz [(zad from_a1),(zad to)])⟩:(Sl Int))).1.out)⟩:web) to))))
 (cond ((s74 n (⟨2, zax (zbz [(zad from_a1), (zad to)])⟩ : (Sl Int))).2 != (0:Int))
 ((⟨0,λ _=>default⟩:(Sl Use)),(s74 n (⟨2,zax (zbz [(zad from_a1),(zad to)])⟩:(Sl Int))).2)
 default))
def p54 (n:Net) (from_a1:Int) (to:Int):Bool :=
  (cond ((s74 n (⟨2, zax (zbz [(zad from_a1), (zad to)])⟩ : (Sl Int))).2 == 0)
 (decide ((p74 n (⟨2,zax (zbz [(zad from_a1),(zad to)])⟩:(Sl Int))=true)) &&
 (cond ((0:Int) != (0:Int))
 true
 (decide ((p75 (⟨(s74 n (⟨2,zax (zbz [(zad from_a1),(zad to)])⟩:(Sl Int))).1.Net,((s74 n (⟨2,zax (zbz [(zad from_a1),(zad to)])⟩:(Sl Int))).1.out)⟩:web) to=true)) &&
 (decide ((0≤from_a1/\from_a1 < (40:Int))) &&
 (cond (match ((tg 80 (s75 (⟨(s74 n (⟨2, zax (zbz [(zad from_a1), (zad to)])⟩ : (Sl Int))).1.Net, ((s74 n (⟨2, zax (zbz [(zad from_a1), (zad to)])⟩ : (Sl Int))).1.out)⟩ : web) to) (0 + from_a1.toNat * 2 + 0)) == (1000000000000:Int)) with | true => (match ((tg 80 (s75 (⟨(s74 n (⟨2, zax (zbz [(zad from_a1), (zad to)])⟩ : (Sl Int))).1.Net, ((s74 n (⟨2, zax (zbz [(zad from_a1), (zad to)])⟩ : (Sl Int))).1.out)⟩ : web) to) (0 + from_a1.toNat * 2 + 0 + 1)) == (0:Int)) with | true => true | false => false) | false => false)
 true
 (zzD n from_a1 to from_a1 (⟨0,(λ _=>default)⟩:Sl Use) (s75 (⟨(s74 n (⟨2,zax (zbz [(zad from_a1),(zad to)])⟩:(Sl Int))).1.Net,((s74 n (⟨2,zax (zbz [(zad from_a1),(zad to)])⟩:(Sl Int))).1.out)⟩:web) to)))))))
 (decide ((p74 n (⟨2,zax (zbz [(zad from_a1),(zad to)])⟩:(Sl Int))=true)) &&
 (cond ((s74 n (⟨2, zax (zbz [(zad from_a1), (zad to)])⟩ : (Sl Int))).2 != (0:Int))
 true
 false)))
end
theorem q54 (n:Net) (from_a1:Int) (to:Int) (K:List PA->Prop) (hs:p54 n from_a1 to=true) (hk:K (e54 (s54 n from_a1 to))):vcFun Tryd.prog G54 zGh 54 [.agg (enc_24 n),.one (.int .i64 from_a1),.one (.int .i64 to)] (Wk K) :=
  zbk (by kernel_rfl) (zc hs hk (λ hs hk=>(zaX hs λ hc hs=>And.intro (And.intro (zE enc_40 4 n.Ties.get) (And.intro ((zdx []):IsE zad 1 1 (zbz [(zad from_a1),(zad to)])) hc)) (zc hs hk (λ hs hk=>((wk hk (zis (.one (.nil _ _)) (zis (.one (.rfl _)) zpt))):Wk K [.one (.nils),.one (.int .i64 (0:Int))])) (λ hs hk=>(zaX hs λ hc hs=>And.intro (And.intro (zE enc_40 4 ((s74 n (⟨2,zax (zbz [(zad from_a1),(zad to)])⟩:(Sl Int))).1.Net.Ties.get)) (And.intro (rfl:((false,1,false,[none]):MQ)=(false,1,false,[none])) hc)) (zaX hs λ hc hs=>And.intro hc (zc hs hk (λ hs hk=>((wk hk (zis (.one (.nil _ _)) (zis (.one (.rfl _)) zpt))):Wk K [.one (.nils),.one (.int .i64 (6:Int))])) (λ hs hk=>(zGi hs hk rfl))))))))) (λ hs hk=>(zaX hs λ hc hs=>And.intro (And.intro (zE enc_40 4 n.Ties.get) (And.intro ((zdx []):IsE zad 1 1 (zbz [(zad from_a1),(zad to)])) hc)) (zc hs hk (λ hs hk=>((wk hk (zis (.one (.nil _ _)) (zis (.one (.rfl _)) zpt))):Wk K [.one (.nils),.one (.int .i64 ((s74 n (⟨2,zax (zbz [(zad from_a1),(zad to)])⟩:(Sl Int))).2))])) (λ hs hk=>(absurd hs Bool.false_ne_true:False))))))
def zGj : List PA -> COut
  | [.agg [.int .i64 zaj,.sl zaf zaB zae],.one (.int .i64 a1),.one (.int .i64 a2)]=>.det (IsE enc_40 4 zaB zae/\p54 (⟨zaj,(⟨zaf,zar zae⟩:(Sl Tie))⟩:Net) a1 a2=true) [.one (.sl (((s54 (⟨zaj,(⟨zaf,zar zae⟩:(Sl Tie))⟩:Net) a1 a2).1).len) 2 (λ i=>za4 (((s54 (⟨zaj,(⟨zaf,zar zae⟩:(Sl Tie))⟩:Net) a1 a2).1).get i))),.one (.int .i64 ((s54 (⟨zaj,(⟨zaf,zar zae⟩:(Sl Tie))⟩:Net) a1 a2).2))]
  | _=>.no
theorem zJq:zaA Tryd.prog 54:=⟨_,rfl,rfl,by kernel_rfl⟩
theorem zNL:Ok Tryd.prog 54 zGj:=ziG zLT zJq λ args K h=>by
  unfold zGj at h
  split at h
  · rename_i zaj zaf zaB zae a1 a2
    obtain⟨⟨⟨rfl,zat,rfl⟩,hs⟩,hk⟩:=h
    try rw[zao zat] at hs
    try rw[zao zat] at hk
    exact⟨_,zf5 zg4 _,(λ _ _=>[]),(λ _=>false),zGh,q54 (⟨zaj,(⟨zaf,zat⟩:(Sl Tie))⟩:Net) a1 a2 K hs hk⟩
  · exact h.elim
abbrev T66:Tabs:=Tabs.nil
theorem zLU:TabsOk Tryd.prog T66:=TabsOk.nil
abbrev G66:Ctrs:=csm T66 (λ _ _=>[]) (λ _=>false)
def zJr:Ann:=⟨6,[(0,zK [0] [0]),(1,zK [0] [0,4])],
 [],
 [],
 [],[]⟩
abbrev R66:=Net
abbrev e66 (r:R66):List PA:=[.agg [.int .i64 r.Nodes,.sl r.Ties.len 4 (λ i=>enc_40 (r.Ties.get i))]]
section
variable {K:List PA->Prop}
def s66:Net :=
  (⟨(3:Int),(⟨3,(zqv (⟨(0:Int),(1:Int),(5:Int),(8:Int)⟩:Tie) [(⟨(0:Int),(1:Int),(5:Int),(8:Int)⟩:Tie),(⟨(1:Int),(2:Int),(-2:Int),(3:Int)⟩:Tie),(⟨(2:Int),(0:Int),(-9:Int),(1000000000000:Int)⟩:Tie)])⟩:(Sl Tie))⟩:Net)
end
theorem q66 (K:List PA->Prop) (hk:K (e66 (s66))):vcFun Tryd.prog G66 zJr 66 [] K :=
  zbk (by kernel_rfl) (Eq.mpr (congrArg K (congrArg (λ (g_:Nat->List PV)=>([.agg [.int .i64 (3:Int),.sl 3 4 g_]]:List PA)) (ztG (enc:=enc_40) (x:=(⟨(0:Int),(1:Int),(5:Int),(8:Int)⟩:Tie)) (y:=(⟨(1:Int),(2:Int),(-2:Int),(3:Int)⟩:Tie)) (r:=[(⟨(2:Int),(0:Int),(-9:Int),(1000000000000:Int)⟩:Tie)])))) hk)
def zGk : List PA -> COut
  | []=>.tot [.agg [.int .i64 ((s66).Nodes),.sl ((s66).Ties.len) 4 (λ i=>enc_40 ((s66).Ties.get i))]]
  | _=>.no
theorem zJs:zaA Tryd.prog 66:=⟨_,rfl,rfl,by kernel_rfl⟩
theorem zNM:Ok Tryd.prog 66 zGk:=zbH zLU zJs λ args K h=>by
  unfold zGk at h
  split at h
  · have hk := h
    exact⟨(λ _ _=>[]),(λ _=>false),zJr,q66 K hk⟩
  · exact h.elim
abbrev T21:Tabs:=((((((((((Tabs.nil.addF 22 zFK).addF 25 zFO).addF 26 zBO).addF 29 zFP).addF 32 zBP).addF 45 zF0).addF 49 zF9).addF 53 zGd).addF 54 zGj).addF 66 zGk)
theorem zLV:TabsOk Tryd.prog T21:=((((((((((TabsOk.nil.addF zNv).addF zNw).addF zMx).addF zNx).addF ok32).addF zNH).addF zNI).addF zNJ).addF zNL).addF zNM)
abbrev G21:Ctrs:=csm T21 (λ _ _=>[]) (λ _=>false)
def zGl:Ann:=⟨87,[(0,zK [] []),(1,zK [1,2] []),(2,zK [1,2,3,4] []),(3,zK [1,2,3,4,5,6] []),(4,zK [1,2,3,4,5,6,7] [7]),(5,zK [1,2,3,4,5,6,7,8,9] [7]),(6,zK [1,2,3,4,5,6,8,9,10,11] []),(7,zK [1,3,5,8,10,57] []),(8,zK [0] []),(9,zK [0] [])],
 [],
 [(2,zK [1,2] []),(3,zK [1,2,3,4] []),(4,zK [1,2,3,4,5,6] []),(5,zK [1,2,3,4,5,6,7] [7]),(6,zK [1,2,3,4,5,6,7,8,9] [7]),(7,zK [1,2,3,4,5,6,8,9,10,11] []),(9,zK [1,3,5,8,10] [])],
 [],[]⟩
abbrev R21:=Bool
abbrev e21 (r:R21):List PA:=[.one (.bool r)]
@[irreducible] def z21:=ptF Tryd.prog G21 zGl Tryd.f21
section
variable {K:List PA->Prop}{bv0:(Sl Span)}{ev0:Int}{zJt:Nat->List PV}{cv1:(Sl Use)}{fv1:Int}{zJu:Nat->List PV}{vv2:(Sl Int)}{gv2:Int}{zJv:Nat->List PV}{zex:Int}{zdK:(Sl Tie)}{zzE:Nat->List PV}{xv4:(Sl Use)}{hv4:Int}{zJw:Nat->List PV}{lv5:(Sl Int)}{iv5:Int}{zJx:Nat->List PV}
def zzF (bv0:(Sl Span)) (cv1:(Sl Use)) (vv2:(Sl Int)) (xv4:(Sl Use)) (lv5:(Sl Int)):Bool :=
  (cond (s32 bv0 (⟨3, zf6 (zbz [(za7 (⟨(0:Int), (0:Int)⟩ : Span)), (za7 (⟨(5:Int), (8:Int)⟩ : Span)), (za7 (⟨(3:Int), (9:Int)⟩ : Span))])⟩ : (Sl Span)))
 (cond (s53 cv1 (⟨1, λ _ => (⟨(2:Int), true⟩ : Use)⟩ : (Sl Use)))
 (cond (s25 vv2 (⟨3, zax (zbz [(zad (0:Int)), (zad (5:Int)), (zad (8:Int))])⟩ : (Sl Int)))
 (cond (s53 xv4 (⟨2, zdr (zbz [(za4 (⟨(2:Int), true⟩ : Use)), (za4 (⟨(3:Int), true⟩ : Use))])⟩ : (Sl Use)))
 (s25 lv5 (⟨1,λ _=>(2:Int)⟩:(Sl Int)))
 false)
 false)
 false)
 false)
def zzG (bv0:(Sl Span)) (cv1:(Sl Use)) (vv2:(Sl Int)) (xv4:(Sl Use)) (lv5:(Sl Int)):Bool :=
  (decide ((p32 bv0 (⟨3,zf6 (zbz [(za7 (⟨(0:Int),(0:Int)⟩:Span)),(za7 (⟨(5:Int),(8:Int)⟩:Span)),(za7 (⟨(3:Int),(9:Int)⟩:Span))])⟩:(Sl Span))=true)) &&
 (cond (s32 bv0 (⟨3, zf6 (zbz [(za7 (⟨(0:Int), (0:Int)⟩ : Span)), (za7 (⟨(5:Int), (8:Int)⟩ : Span)), (za7 (⟨(3:Int), (9:Int)⟩ : Span))])⟩ : (Sl Span)))
 (decide ((p53 cv1 (⟨1,λ _=>(⟨(2:Int),true⟩:Use)⟩:(Sl Use))=true)) &&
 (cond (s53 cv1 (⟨1, λ _ => (⟨(2:Int), true⟩ : Use)⟩ : (Sl Use)))
 (decide ((p25 vv2 (⟨3,zax (zbz [(zad (0:Int)),(zad (5:Int)),(zad (8:Int))])⟩:(Sl Int))=true)) &&
 (cond (s25 vv2 (⟨3, zax (zbz [(zad (0:Int)), (zad (5:Int)), (zad (8:Int))])⟩ : (Sl Int)))
 (decide ((p53 xv4 (⟨2,zdr (zbz [(za4 (⟨(2:Int),true⟩:Use)),(za4 (⟨(3:Int),true⟩:Use))])⟩:(Sl Use))=true)) &&
 (cond (s53 xv4 (⟨2, zdr (zbz [(za4 (⟨(2:Int), true⟩ : Use)), (za4 (⟨(3:Int), true⟩ : Use))])⟩ : (Sl Use)))
 (decide ((p25 lv5 (⟨1,λ _=>(2:Int)⟩:(Sl Int))=true)) &&
 true)
 true))
 true))
 true))
 true))
theorem zGm (hs:zzG bv0 cv1 vv2 xv4 lv5=true) (hk:K (e21 (zzF bv0 cv1 vv2 xv4 lv5))):z21 K [1,1,1,1,1,1,1,1] [] ⟨[(1,zS za7 2 bv0),(3,zS za4 2 cv1),(5,zS zad 1 vv2),(8,zS za4 2 xv4),(10,zS zad 1 lv5)],[],[]⟩:=zbk (by kernel_rfl) (zaX hs λ hc hs=>And.intro (And.intro (zE za7 2 bv0.get) (And.intro ((zdx [(⟨(3:Int),(9:Int)⟩:Span)]):IsE za7 2 2 (zbz [(za7 (⟨(0:Int),(0:Int)⟩:Span)),(za7 (⟨(5:Int),(8:Int)⟩:Span)),(za7 (⟨(3:Int),(9:Int)⟩:Span))])) hc)) (zc hs hk (λ hs hk=>(zaX hs λ hc hs=>And.intro (And.intro (zE za4 2 cv1.get) (And.intro (zw2:IsE za4 2 2 (λ _=>(za4 (⟨(2:Int),true⟩:Use)))) hc)) (zc hs hk (λ hs hk=>(zaX hs λ hc hs=>And.intro (And.intro (zE zad 1 vv2.get) (And.intro ((zdx [(8:Int)]):IsE zad 1 1 (zbz [(zad (0:Int)),(zad (5:Int)),(zad (8:Int))])) hc)) (zc hs hk (λ hs hk=>(zaX hs λ hc hs=>And.intro (And.intro (zE za4 2 xv4.get) (And.intro ((zdx []):IsE za4 2 2 (zbz [(za4 (⟨(2:Int),true⟩:Use)),(za4 (⟨(3:Int),true⟩:Use))])) hc)) (zc hs hk (λ hs hk=>(zaX hs λ hc hs=>And.intro (And.intro (zE zad 1 lv5.get) (And.intro (zw2:IsE zad 1 1 (λ _=>(zad (2:Int)))) hc)) hk)) (λ hs hk=>hk)))) (λ hs hk=>hk)))) (λ hs hk=>hk)))) (λ hs hk=>hk)))
def zzH (bv0:(Sl Span)) (ev0:Int) (cv1:(Sl Use)) (fv1:Int) (vv2:(Sl Int)) (gv2:Int) (xv4:(Sl Use)) (hv4:Int) (lv5:(Sl Int)) (iv5:Int):Bool :=
  (cond (ev0 != (0:Int))
 false
 (cond (fv1 != (0:Int))
 false
 (cond (gv2 != (0:Int))
 false
 (cond (hv4 != (0:Int))
 false
 (cond (iv5 != (0:Int))
 false
 (zzF bv0 cv1 vv2 xv4 lv5))))))
def zzI (bv0:(Sl Span)) (ev0:Int) (cv1:(Sl Use)) (fv1:Int) (vv2:(Sl Int)) (gv2:Int) (xv4:(Sl Use)) (hv4:Int) (lv5:(Sl Int)) (iv5:Int):Bool :=
  (cond (ev0 != (0:Int))
 true
 (cond (fv1 != (0:Int))
 true
 (cond (gv2 != (0:Int))
 true
 (cond (hv4 != (0:Int))
 true
 (cond (iv5 != (0:Int))
 true
 (zzG bv0 cv1 vv2 xv4 lv5))))))
theorem zGn (hs:zzI bv0 ev0 cv1 fv1 vv2 gv2 xv4 hv4 lv5 iv5=true) (hk:K (e21 (zzH bv0 ev0 cv1 fv1 vv2 gv2 xv4 hv4 lv5 iv5))) (zLW:zJx=zg zad lv5):z21 K [1,1,1,1,1,1,1] [] ⟨[(1,zS za7 2 bv0),(2,zI ev0),(3,zS za4 2 cv1),(4,zI fv1),(5,zS zad 1 vv2),(6,zI gv2),(8,zS za4 2 xv4),(9,zI hv4),(10,zP (.sl lv5.len 1 zJx)),(11,zI iv5)],[],[]⟩:=by subst zLW;exact zbk (by kernel_rfl) (zc hs hk (λ hs hk=>hk) (λ hs hk=>(zc hs hk (λ hs hk=>hk) (λ hs hk=>(zc hs hk (λ hs hk=>hk) (λ hs hk=>(zc hs hk (λ hs hk=>hk) (λ hs hk=>(zc hs hk (λ hs hk=>hk) (λ hs hk=>(zGm hs hk)))))))))))
def zzJ (bv0:(Sl Span)) (ev0:Int) (cv1:(Sl Use)) (fv1:Int) (vv2:(Sl Int)) (gv2:Int) (zex:Int) (zdK:(Sl Tie)) (xv4:(Sl Use)) (hv4:Int):Bool :=
  (zzH bv0 ev0 cv1 fv1 vv2 gv2 xv4 hv4 ((s22 (⟨zex,zdK⟩:Net)).1) ((s22 (⟨zex,zdK⟩:Net)).2))
def zzK (bv0:(Sl Span)) (ev0:Int) (cv1:(Sl Use)) (fv1:Int) (vv2:(Sl Int)) (gv2:Int) (zex:Int) (zdK:(Sl Tie)) (xv4:(Sl Use)) (hv4:Int):Bool :=
  (decide ((p22 (⟨zex,zdK⟩:Net)=true)) &&
 (zzI bv0 ev0 cv1 fv1 vv2 gv2 xv4 hv4 ((s22 (⟨zex,zdK⟩:Net)).1) ((s22 (⟨zex,zdK⟩:Net)).2)))
theorem zGo (hs:zzK bv0 ev0 cv1 fv1 vv2 gv2 zex zdK xv4 hv4=true) (hk:K (e21 (zzJ bv0 ev0 cv1 fv1 vv2 gv2 zex zdK xv4 hv4))) (zLX:zJw=zg za4 xv4):z21 K [1,1,1,1,1,1] [] ⟨[(1,zS za7 2 bv0),(2,zI ev0),(3,zS za4 2 cv1),(4,zI fv1),(5,zS zad 1 vv2),(6,zI gv2),(7,zp 7 0),(8,zP (.sl xv4.len 2 zJw)),(9,zI hv4)],[(7,.box 24 (zm (enc_24 (⟨zex,zdK⟩:Net))))],[]⟩:=by subst zLX;exact zbk (by kernel_rfl) (zaX hs λ hc hs=>And.intro (And.intro (zE enc_40 4 zdK.get) hc) (zGn hs hk rfl))
def zzL (bv0:(Sl Span)) (ev0:Int) (cv1:(Sl Use)) (fv1:Int) (vv2:(Sl Int)) (gv2:Int) (zex:Int) (zdK:(Sl Tie)):Bool :=
  (zzJ bv0 ev0 cv1 fv1 vv2 gv2 zex zdK ((s49 (⟨zex,zdK⟩:Net)).1) ((s49 (⟨zex,zdK⟩:Net)).2))
def zzM (bv0:(Sl Span)) (ev0:Int) (cv1:(Sl Use)) (fv1:Int) (vv2:(Sl Int)) (gv2:Int) (zex:Int) (zdK:(Sl Tie)):Bool :=
  (decide ((p49 (⟨zex,zdK⟩:Net)=true)) &&
 (zzK bv0 ev0 cv1 fv1 vv2 gv2 zex zdK ((s49 (⟨zex,zdK⟩:Net)).1) ((s49 (⟨zex,zdK⟩:Net)).2)))
theorem zGp (hs:zzM bv0 ev0 cv1 fv1 vv2 gv2 zex zdK=true) (hk:K (e21 (zzL bv0 ev0 cv1 fv1 vv2 gv2 zex zdK))) (zGq:zzE=zg enc_40 zdK):z21 K [1,1,1,1,1] [] ⟨[(1,zS za7 2 bv0),(2,zI ev0),(3,zS za4 2 cv1),(4,zI fv1),(5,zS zad 1 vv2),(6,zI gv2),(7,zp 7 0)],[(7,.box 24 [zi zex,.p (.sl zdK.len 4 zzE)])],[]⟩:=by subst zGq;exact zbk (by kernel_rfl) (zaX hs λ hc hs=>And.intro (And.intro (zE enc_40 4 zdK.get) hc) (zGo hs hk rfl))
def zzN (bv0:(Sl Span)) (ev0:Int) (cv1:(Sl Use)) (fv1:Int) (vv2:(Sl Int)) (gv2:Int):Bool :=
  (zzL bv0 ev0 cv1 fv1 vv2 gv2 ((s29 s66 (⟨(0:Int),(2:Int),(10:Int),(12:Int)⟩:Tie)).Nodes) ((s29 s66 (⟨(0:Int),(2:Int),(10:Int),(12:Int)⟩:Tie)).Ties))
def zzO (bv0:(Sl Span)) (ev0:Int) (cv1:(Sl Use)) (fv1:Int) (vv2:(Sl Int)) (gv2:Int):Bool :=
  (decide ((p29 s66 (⟨(0:Int),(2:Int),(10:Int),(12:Int)⟩:Tie)=true)) &&
 (zzM bv0 ev0 cv1 fv1 vv2 gv2 ((s29 s66 (⟨(0:Int),(2:Int),(10:Int),(12:Int)⟩:Tie)).Nodes) ((s29 s66 (⟨(0:Int),(2:Int),(10:Int),(12:Int)⟩:Tie)).Ties)))
theorem zGr (hs:zzO bv0 ev0 cv1 fv1 vv2 gv2=true) (hk:K (e21 (zzN bv0 ev0 cv1 fv1 vv2 gv2))) (zLY:zJv=zg zad vv2):z21 K [1,1,1,1] [] ⟨[(1,zS za7 2 bv0),(2,zI ev0),(3,zS za4 2 cv1),(4,zI fv1),(5,zP (.sl vv2.len 1 zJv)),(6,zI gv2)],[],[]⟩:=by subst zLY;exact zbk (by kernel_rfl) (zaX hs λ hc hs=>And.intro (And.intro (zE enc_40 4 s66.Ties.get) hc) (zGp hs hk rfl))
def zzP (bv0:(Sl Span)) (ev0:Int) (cv1:(Sl Use)) (fv1:Int):Bool :=
  (zzN bv0 ev0 cv1 fv1 ((s45 s66 (1:Int) (0:Int)).1) ((s45 s66 (1:Int) (0:Int)).2))
def zzQ (bv0:(Sl Span)) (ev0:Int) (cv1:(Sl Use)) (fv1:Int):Bool :=
  (decide ((p45 s66 (1:Int) (0:Int)=true)) &&
 (zzO bv0 ev0 cv1 fv1 ((s45 s66 (1:Int) (0:Int)).1) ((s45 s66 (1:Int) (0:Int)).2)))
theorem zGs (hs:zzQ bv0 ev0 cv1 fv1=true) (hk:K (e21 (zzP bv0 ev0 cv1 fv1))) (zLZ:zJu=zg za4 cv1):z21 K [1,1,1] [] ⟨[(1,zS za7 2 bv0),(2,zI ev0),(3,zP (.sl cv1.len 2 zJu)),(4,zI fv1)],[],[]⟩:=by subst zLZ;exact zbk (by kernel_rfl) (zaX hs λ hc hs=>And.intro (And.intro (zE enc_40 4 s66.Ties.get) hc) (zGr hs hk rfl))
def zzR (bv0:(Sl Span)) (ev0:Int):Bool :=
  (zzP bv0 ev0 ((s54 s66 (0:Int) (2:Int)).1) ((s54 s66 (0:Int) (2:Int)).2))
def zzS (bv0:(Sl Span)) (ev0:Int):Bool :=
  (decide ((p54 s66 (0:Int) (2:Int)=true)) &&
 (zzQ bv0 ev0 ((s54 s66 (0:Int) (2:Int)).1) ((s54 s66 (0:Int) (2:Int)).2)))
theorem zGt (hs:zzS bv0 ev0=true) (hk:K (e21 (zzR bv0 ev0))) (zL0:zJt=zg za7 bv0):z21 K [1,1] [] ⟨[(1,zP (.sl bv0.len 2 zJt)),(2,zI ev0)],[],[]⟩:=by subst zL0;exact zbk (by kernel_rfl) (zaX hs λ hc hs=>And.intro (And.intro (zE enc_40 4 s66.Ties.get) hc) (zGs hs hk rfl))
def s21:Bool :=
  (zzR ((s26 s66).1) ((s26 s66).2))
def p21:Bool :=
  (decide ((p26 s66=true)) &&
 (zzS ((s26 s66).1) ((s26 s66).2)))
end
theorem q21 (K:List PA->Prop) (hs:p21=true) (hk:K (e21 (s21))):vcFun Tryd.prog G21 zGl 21 [] K :=
  zbk (by kernel_rfl) (zaX hs λ hc hs=>And.intro (And.intro (zE enc_40 4 s66.Ties.get) hc) (zGt hs hk rfl))
theorem zJy:p21=true:=by kernel_rfl
theorem zJz:s21=true:=by kernel_rfl
def zGu : List PA -> COut
  | []=>.tot [.one (.bool true)]
  | _=>.no
theorem zJA:zaA Tryd.prog 21:=⟨_,rfl,rfl,by kernel_rfl⟩
theorem zNN:Ok Tryd.prog 21 zGu:=zbH zLV zJA λ args K h=>by
  unfold zGu at h
  split at h
  · refine⟨λ _ _ => [], λ _ => false, zGl, q21 K zJy ?_⟩
    show K [.one (.bool s21)]
    rw[zJz];exact h
  · exact h.elim
abbrev T20:Tabs:=Tabs.nil
theorem zL1:TabsOk Tryd.prog T20:=TabsOk.nil
abbrev G20:Ctrs:=csm T20 (λ _ _=>[]) (λ _=>false)
def zJB:Ann:=⟨32,[(0,zK [1,2] [2]),(1,zK [4] [])],
 [],
 [],
 [],[]⟩
abbrev R20:=Bool
abbrev e20 (r:R20):List PA:=[.one (.bool r)]
section
variable {K:List PA->Prop}{n:Net}{ties:Int}
def s20 (n:Net) (ties:Int):Bool :=
  (cond (decide (n.Nodes ≤ (7:Int)))
 (cond (decide ((n.Ties.len : Int) ≤ ties))
 true
 (cond (decide ((n.Ties.len : Int) > (200:Int)))
 (decide ((n.Ties.len:Int)≤(210:Int)))
 false))
 (cond (decide (n.Nodes > (40:Int)))
 (cond (decide ((n.Ties.len : Int) ≤ ties))
 true
 (cond (decide ((n.Ties.len : Int) > (200:Int)))
 (decide ((n.Ties.len:Int)≤(210:Int)))
 false))
 false))
end
theorem q20 (n:Net) (ties:Int) (K:List PA->Prop) (hk:K (e20 (s20 n ties))):vcFun Tryd.prog G20 zJB 20 [.agg (enc_24 n),.one (.int .i64 ties)] K :=
  zbk (by kernel_rfl) (zt hk (λ hk=>(zt hk (λ hk=>hk) (λ hk=>(zt hk (λ hk=>hk) (λ hk=>hk))))) (λ hk=>(zt hk (λ hk=>(zt hk (λ hk=>hk) (λ hk=>(zt hk (λ hk=>hk) (λ hk=>hk))))) (λ hk=>hk))))
def zGv : List PA -> COut
  | [.agg [.int .i64 zaj,.sl zaf zaB zae],.one (.int .i64 a1)]=>.det (IsE enc_40 4 zaB zae) [.one (.bool (s20 (⟨zaj,(⟨zaf,zar zae⟩:(Sl Tie))⟩:Net) a1))]
  | _=>.no
theorem zJC:zaA Tryd.prog 20:=⟨_,rfl,rfl,by kernel_rfl⟩
theorem zNO:Ok Tryd.prog 20 zGv:=zbH zL1 zJC λ args K h=>by
  unfold zGv at h
  split at h
  · rename_i zaj zaf zaB zae a1
    obtain⟨⟨rfl,zat,rfl⟩,hk⟩:=h
    try rw[zao zat] at hk
    exact⟨(λ _ _=>[]),(λ _=>false),zJB,q20 (⟨zaj,(⟨zaf,zat⟩:(Sl Tie))⟩:Net) a1 K hk⟩
  · exact h.elim
abbrev T72:Tabs:=Tabs.nil
theorem zL2:TabsOk Tryd.prog T72:=TabsOk.nil
abbrev G72:Ctrs:=csm T72 (λ _ _=>[]) (λ _=>false)
def zJD:Ann:=⟨15,[(0,zK [0,1,2] []),(1,zK [6] [])],
 [],
 [],
 [],[]⟩
abbrev R72:=Bool
abbrev e72 (r:R72):List PA:=[.one (.bool r)]
section
variable {K:List PA->Prop}{x:Int}{low:Int}{high:Int}
def s72 (x:Int) (low:Int) (high:Int):Bool :=
  (cond (decide (x ≥ low))
 (decide (x≤high))
 false)
end
theorem q72 (x:Int) (low:Int) (high:Int) (K:List PA->Prop) (hk:K (e72 (s72 x low high))):vcFun Tryd.prog G72 zJD 72 [.one (.int .i64 x),.one (.int .i64 low),.one (.int .i64 high)] K :=
  zbk (by kernel_rfl) (zt hk (λ hk=>hk) (λ hk=>hk))
def zCf : List PA -> COut
  | [.one (.int .i64 a0),.one (.int .i64 a1),.one (.int .i64 a2)]=>.tot [.one (.bool (s72 a0 a1 a2))]
  | _=>.no
theorem zJE:zaA Tryd.prog 72:=⟨_,rfl,rfl,by kernel_rfl⟩
theorem zMM:Ok Tryd.prog 72 zCf:=zbH zL2 zJE λ args K h=>by
  unfold zCf at h
  split at h
  · rename_i a0 a1 a2
    have hk:=h
    exact⟨(λ _ _=>[]),(λ _=>false),zJD,q72 a0 a1 a2 K hk⟩
  · exact h.elim
abbrev T36:Tabs:=(Tabs.nil.addF 72 zCf)
theorem zL3:TabsOk Tryd.prog T36:=(TabsOk.nil.addF zMM)
abbrev G36:Ctrs:=csm T36 (λ _ _=>[]) (λ _=>false)
def zGw:Ann:=⟨51,[(0,zK [0,3] [3]),(1,zK [3,32] [3]),(2,zK [4] []),(3,zK [4] [])],
 [],
 [(2,zK [3,32] [3]),(3,zK [3] [3])],
 [],[]⟩
abbrev R36:=Bool
abbrev e36 (r:R36):List PA:=[.one (.bool r)]
@[irreducible] def z36:=ptF Tryd.prog G36 zGw Tryd.f36
section
variable {K:List PA->Prop}{nodes:Int}{t:Tie}{zCg:Bool}
def zsx (t:Tie):Bool :=
  (cond (t.Low == (-1000000000000:Int))
 (cond (t.High == (1000000000000:Int))
 true
 (s72 t.High (-1000000000:Int) (1000000000:Int)))
 (cond (s72 t.Low (-1000000000:Int) (1000000000:Int))
 (cond (t.High == (1000000000000:Int))
 true
 (s72 t.High (-1000000000:Int) (1000000000:Int)))
 false))
theorem zGx (hk:K (e36 (zsx t))):z36 K [1,1] [] ⟨[(3,zp 3 0)],[(3,.box 40 (zm (enc_40 t)))],[]⟩:=zbk (by kernel_rfl) (zt hk (λ hk=>(zt hk (λ hk=>hk) (λ hk=>hk))) (λ hk=>(zt hk (λ hk=>(zt hk (λ hk=>hk) (λ hk=>hk))) (λ hk=>hk))))
def zi5 (t:Tie) (zCg:Bool):Bool :=
  (cond zCg
 false
 (zsx t))
theorem zoo (hk:K (e36 (zi5 t zCg))):z36 K [1,0,1] [] ⟨[(3,zp 3 0),(32,zB zCg)],[(3,.box 40 (zm (enc_40 t)))],[]⟩:=zbk (by kernel_rfl) (zt hk (λ hk=>hk) (λ hk=>(zGx hk)))
def s36 (nodes:Int) (t:Tie):Bool :=
  (cond (!(s72 t.From (0:Int) (w64 (nodes - (1:Int)))))
 (zi5 t true)
 (cond (!(s72 t.To (0:Int) (w64 (nodes - (1:Int)))))
 (zi5 t true)
 (cond (t.From == t.To)
 (zi5 t true)
 (zi5 t (decide (t.Low > t.High))))))
end
theorem q36 (nodes:Int) (t:Tie) (K:List PA->Prop) (hk:K (e36 (s36 nodes t))):vcFun Tryd.prog G36 zGw 36 [.one (.int .i64 nodes),.agg (enc_40 t)] K :=
  zbk (by kernel_rfl) (zt hk (λ hk=>(zoo hk)) (λ hk=>(zt hk (λ hk=>(zoo hk)) (λ hk=>(zt hk (λ hk=>(zoo hk)) (λ hk=>(zoo hk)))))))
def zGy : List PA -> COut
  | [.one (.int .i64 a0),.agg [.int .i64 zeX,.int .i64 zmk,.int .i64 zg7,.int .i64 zeY]]=>.tot [.one (.bool (s36 a0 (⟨zeX,zmk,zg7,zeY⟩:Tie)))]
  | _=>.no
theorem zJF:zaA Tryd.prog 36:=⟨_,rfl,rfl,by kernel_rfl⟩
theorem zNP:Ok Tryd.prog 36 zGy:=zbH zL3 zJF λ args K h=>by
  unfold zGy at h
  split at h
  · rename_i a0 zeX zmk zg7 zeY
    have hk:=h
    exact⟨(λ _ _=>[]),(λ _=>false),zGw,q36 a0 (⟨zeX,zmk,zg7,zeY⟩:Tie) K hk⟩
  · exact h.elim
abbrev T23:Tabs:=((Tabs.nil.addF 36 zGy).addF 72 zCf)
theorem zL4:TabsOk Tryd.prog T23:=((TabsOk.nil.addF zNP).addF zMM)
abbrev G23:Ctrs:=csm T23 (λ _ _=>[]) (λ _=>false)
def zGz:Ann:=⟨30,[(0,zK [1] [1]),(1,zK [1,13] [1]),(2,zK [2] []),(3,zK [1,3] [1]),(4,zK [1,3,18] [1]),(5,zK [1,3] [1]),(6,zK [1,3,29] [1]),(7,zK [2] []),(8,zK [2] [])],
 [(4,zK [1,3] [1])],
 [(2,zK [1,13] [1]),(3,zK [1] [1]),(7,zK [1,3,29] [1])],
 [],[]⟩
abbrev R23:=Bool
abbrev e23 (r:R23):List PA:=[.one (.bool r)]
@[irreducible] def z23:=ptF Tryd.prog G23 zGz Tryd.f23
def zDm (n:Net) (iv2:Int):St:=⟨[(1,zp 1 0),(3,zI iv2)],[(1,.box 24 (zm (enc_24 n)))],[]⟩
abbrev zGA (K:List PA->Prop) (n:Net) (X:St->Prop) (P:Int->Bool) (S:Int->Bool):Prop:=∀ ⦃iv2:Int⦄,P iv2=true->K (e23 (S iv2))->X (zDm n iv2)
section
variable {K:List PA->Prop}{n:Net}{zco:Bool}{iv2:Int}{X2:St->Prop}{P2:Int->Bool}{S2:Int->Bool}{iv3:Int}{zsy:Bool}
def zsz (S2:Int->Bool) (n:Net) (iv3:Int) (zsy:Bool):Bool :=
  (cond zsy
 false
 (S2 (w64 (iv3+(1:Int)))))
def zsA (P2:Int->Bool) (n:Net) (iv3:Int) (zsy:Bool):Bool :=
  (cond zsy
 true
 (P2 (w64 (iv3+(1:Int)))))
theorem zGB (hX2:zGA K n X2 P2 S2) (hs:zsA P2 n iv3 zsy=true) (hk:K (e23 (zsz S2 n iv3 zsy))):z23 K [1,1,0,1,0,0,1,0,0,1] [X2] ⟨[(1,zp 1 0),(3,zI iv3),(29,zB zsy)],[(1,.box 24 (zm (enc_24 n)))],[]⟩:=zbk (by kernel_rfl) (zc hs hk (λ hs hk=>hk) (λ hs hk=>(hX2 hs hk)))
def zi6 (n:Net) (S2:Int->Bool) (iv2:Int):Bool :=
  (cond (decide (iv2 < (n.Ties.len : Int)))
 (zsz S2 n iv2 (!(s36 n.Nodes (n.Ties.get iv2.toNat))))
 true)
def zi7 (n:Net) (P2:Int->Bool) (iv2:Int):Bool :=
  (cond (decide (iv2 < (n.Ties.len : Int)))
 (decide ((0≤iv2/\iv2 < (n.Ties.len:Int))) &&
 (zsA P2 n iv2 (!(s36 n.Nodes (n.Ties.get iv2.toNat)))))
 true)
def zhz (n:Net):Nat->Int->Bool:=lpO (λ _=>default) (zi6 n)
def zi8 (n:Net):Nat->Int->Bool:=lpO (λ _=>false) (zi7 n)
def zsB (n:Net) (iv2:Int):Bool:=zhz n Fuel iv2
def zsC (n:Net) (iv2:Int):Bool:=zi8 n Fuel iv2
theorem zGC (hs:zsC n iv2=true) (hk:K (e23 (zsB n iv2))):z23 K [1,1,0,1,0] [] (zDm n iv2) :=
  zl (λ X=>z23 K [1,1,0,1,0,0] [X]) (by kernel_rfl) λ X2 hX =>
  (show ∀ k, zGA K n X2 (zi8 n k) (zhz n k) from ziH _ _ (zi7 n) (zi6 n) (zGA K n X2)
 (by intro _ hs;exact absurd hs Bool.false_ne_true)
 (by intro P2 S2 hX2 iv2 hs hk;exact hX _ (zbk (by kernel_rfl) (zc hs hk (λ hs hk=>(zaX hs λ hc hs=>And.intro hc (zGB hX2 hs hk))) (λ hs hk=>hk))))) _ hs hk
def zsD (n:Net):Bool :=
  (zsB n (0:Int))
def zsE (n:Net):Bool :=
  (zsC n (0:Int))
theorem zGD (hs:zsE n=true) (hk:K (e23 (zsD n))):z23 K [1,1] [] ⟨[(1,zp 1 0)],[(1,.box 24 (zm (enc_24 n)))],[]⟩:=zbk (by kernel_rfl) (zGC hs hk)
def zop (n:Net) (zco:Bool):Bool :=
  (cond zco
 false
 (zsD n))
def zoq (n:Net) (zco:Bool):Bool :=
  (cond zco
 true
 (zsE n))
theorem zzT (hs:zoq n zco=true) (hk:K (e23 (zop n zco))):z23 K [1,0,1] [] ⟨[(1,zp 1 0),(13,zB zco)],[(1,.box 24 (zm (enc_24 n)))],[]⟩:=zbk (by kernel_rfl) (zc hs hk (λ hs hk=>hk) (λ hs hk=>(zGD hs hk)))
def s23 (n:Net):Bool :=
  (cond (!(s72 n.Nodes (1:Int) (40:Int)))
 (zop n true)
 (zop n (decide ((n.Ties.len:Int) > (200:Int)))))
def p23 (n:Net):Bool :=
  (cond (!(s72 n.Nodes (1:Int) (40:Int)))
 (zoq n true)
 (zoq n (decide ((n.Ties.len:Int) > (200:Int)))))
end
theorem q23 (n:Net) (K:List PA->Prop) (hs:p23 n=true) (hk:K (e23 (s23 n))):vcFun Tryd.prog G23 zGz 23 [.agg (enc_24 n)] K :=
  zbk (by kernel_rfl) (zc hs hk (λ hs hk=>(zzT hs hk)) (λ hs hk=>(zzT hs hk)))
def zGE : List PA -> COut
  | [.agg [.int .i64 zaj,.sl zaf zaB zae]]=>.det (IsE enc_40 4 zaB zae/\p23 (⟨zaj,(⟨zaf,zar zae⟩:(Sl Tie))⟩:Net)=true) [.one (.bool (s23 (⟨zaj,(⟨zaf,zar zae⟩:(Sl Tie))⟩:Net)))]
  | _=>.no
theorem zJG:zaA Tryd.prog 23:=⟨_,rfl,rfl,by kernel_rfl⟩
theorem zNQ:Ok Tryd.prog 23 zGE:=zbH zL4 zJG λ args K h=>by
  unfold zGE at h
  split at h
  · rename_i zaj zaf zaB zae
    obtain⟨⟨⟨rfl,zat,rfl⟩,hs⟩,hk⟩:=h
    try rw[zao zat] at hs
    try rw[zao zat] at hk
    exact⟨(λ _ _=>[]),(λ _=>false),zGz,q23 (⟨zaj,(⟨zaf,zat⟩:(Sl Tie))⟩:Net) K hs hk⟩
  · exact h.elim
abbrev T30:Tabs:=(((Tabs.nil.addF 74 zvd).addF 75 zve).addF 76 zvf)
theorem zL5:TabsOk Tryd.prog T30:=(((TabsOk.nil.addF zKE).addF zKG).addF zKH)
abbrev G30:Ctrs:=csm T30 (λ _ _=>[]) (λ _=>false)
def zJH:Ann:=⟨36,[(0,zK [1,2,3,6] [3,6]),(1,zK [1,2,6,8,9] [6]),(2,zK [1,2,6,8,9,19] [6]),(3,zK [6,7] [6]),(4,zK [6,7] [6])],
 [],
 [],
 [],[]⟩
abbrev R30:=(Span×Int)
abbrev e30 (r:R30):List PA:=[.agg [.int .i64 r.1.Low,.int .i64 r.1.High],.one (.int .i64 r.2)]
section
variable {K:List PA->Prop}{n:Net}{from_a1:Int}{to:Int}
def s30 (n:Net) (from_a1:Int) (to:Int):(Span×Int) :=
  (cond ((s74 n (⟨2, zax (zbz [(zad from_a1), (zad to)])⟩ : (Sl Int))).2 == 0)
 (cond ((0:Int) != (0:Int))
 ((⟨(0:Int),(0:Int)⟩:Span),(0:Int))
 ((⟨(w64 (0 - (tg 80 (s75 (⟨(s74 n (⟨2,zax (zbz [(zad from_a1),(zad to)])⟩:(Sl Int))).1.Net,((s74 n (⟨2,zax (zbz [(zad from_a1),(zad to)])⟩:(Sl Int))).1.out)⟩:web) from_a1) (0+to.toNat * 2+0)))),(tg 80 (s76 (⟨(s74 n (⟨2,zax (zbz [(zad from_a1),(zad to)])⟩:(Sl Int))).1.Net,((s74 n (⟨2,zax (zbz [(zad from_a1),(zad to)])⟩:(Sl Int))).1.out)⟩:web) from_a1) (0+to.toNat * 2+0))⟩:Span),(0:Int)))
 (cond ((s74 n (⟨2, zax (zbz [(zad from_a1), (zad to)])⟩ : (Sl Int))).2 != (0:Int))
 ((⟨(0:Int),(0:Int)⟩:Span),(s74 n (⟨2,zax (zbz [(zad from_a1),(zad to)])⟩:(Sl Int))).2)
 default))
def p30 (n:Net) (from_a1:Int) (to:Int):Bool :=
  (cond ((s74 n (⟨2, zax (zbz [(zad from_a1), (zad to)])⟩ : (Sl Int))).2 == 0)
 (decide ((p74 n (⟨2,zax (zbz [(zad from_a1),(zad to)])⟩:(Sl Int))=true)) &&
 (cond ((0:Int) != (0:Int))
 true
 (decide ((p75 (⟨(s74 n (⟨2,zax (zbz [(zad from_a1),(zad to)])⟩:(Sl Int))).1.Net,((s74 n (⟨2,zax (zbz [(zad from_a1),(zad to)])⟩:(Sl Int))).1.out)⟩:web) from_a1=true)) &&
 (decide ((0≤to/\to < (40:Int))) &&
 (decide ((p76 (⟨(s74 n (⟨2,zax (zbz [(zad from_a1),(zad to)])⟩:(Sl Int))).1.Net,((s74 n (⟨2,zax (zbz [(zad from_a1),(zad to)])⟩:(Sl Int))).1.out)⟩:web) from_a1=true)) &&
 (decide ((0≤to/\to < (40:Int))) &&
 true))))))
 (decide ((p74 n (⟨2,zax (zbz [(zad from_a1),(zad to)])⟩:(Sl Int))=true)) &&
 (cond ((s74 n (⟨2, zax (zbz [(zad from_a1), (zad to)])⟩ : (Sl Int))).2 != (0:Int))
 true
 false)))
end
theorem q30 (n:Net) (from_a1:Int) (to:Int) (K:List PA->Prop) (hs:p30 n from_a1 to=true) (hk:K (e30 (s30 n from_a1 to))):vcFun Tryd.prog G30 zJH 30 [.agg (enc_24 n),.one (.int .i64 from_a1),.one (.int .i64 to)] K :=
  zbk (by kernel_rfl) (zc hs hk (λ hs hk=>(zaX hs λ hc hs=>And.intro (And.intro (zE enc_40 4 n.Ties.get) (And.intro ((zdx []):IsE zad 1 1 (zbz [(zad from_a1),(zad to)])) hc)) (zc hs hk (λ hs hk=>hk) (λ hs hk=>(zaX hs λ hc hs=>And.intro (And.intro (zE enc_40 4 ((s74 n (⟨2,zax (zbz [(zad from_a1),(zad to)])⟩:(Sl Int))).1.Net.Ties.get)) (And.intro (rfl:((false,1,false,[none]):MQ)=(false,1,false,[none])) hc)) (zaX hs λ hc hs=>And.intro hc (zaX hs λ hc hs=>And.intro (And.intro (zE enc_40 4 ((s74 n (⟨2,zax (zbz [(zad from_a1),(zad to)])⟩:(Sl Int))).1.Net.Ties.get)) (And.intro (rfl:((false,1,false,[none]):MQ)=(false,1,false,[none])) hc)) (zaX hs λ hc hs=>And.intro hc hk)))))))) (λ hs hk=>(zaX hs λ hc hs=>And.intro (And.intro (zE enc_40 4 n.Ties.get) (And.intro ((zdx []):IsE zad 1 1 (zbz [(zad from_a1),(zad to)])) hc)) (zc hs hk (λ hs hk=>hk) (λ hs hk=>(absurd hs Bool.false_ne_true:False))))))
def zGF : List PA -> COut
  | [.agg [.int .i64 zaj,.sl zaf zaB zae],.one (.int .i64 a1),.one (.int .i64 a2)]=>.det (IsE enc_40 4 zaB zae/\p30 (⟨zaj,(⟨zaf,zar zae⟩:(Sl Tie))⟩:Net) a1 a2=true) [.agg [.int .i64 (((s30 (⟨zaj,(⟨zaf,zar zae⟩:(Sl Tie))⟩:Net) a1 a2).1).Low),.int .i64 (((s30 (⟨zaj,(⟨zaf,zar zae⟩:(Sl Tie))⟩:Net) a1 a2).1).High)],.one (.int .i64 ((s30 (⟨zaj,(⟨zaf,zar zae⟩:(Sl Tie))⟩:Net) a1 a2).2))]
  | _=>.no
theorem zJI:zaA Tryd.prog 30:=⟨_,rfl,rfl,by kernel_rfl⟩
theorem zNR:Ok Tryd.prog 30 zGF:=zbH zL5 zJI λ args K h=>by
  unfold zGF at h
  split at h
  · rename_i zaj zaf zaB zae a1 a2
    obtain⟨⟨⟨rfl,zat,rfl⟩,hs⟩,hk⟩:=h
    try rw[zao zat] at hs
    try rw[zao zat] at hk
    exact⟨(λ _ _=>[]),(λ _=>false),zJH,q30 (⟨zaj,(⟨zaf,zat⟩:(Sl Tie))⟩:Net) a1 a2 K hs hk⟩
  · exact h.elim
abbrev T77:Tabs:=Tabs.nil
theorem zL6:TabsOk Tryd.prog T77:=TabsOk.nil
abbrev G77:Ctrs:=csm T77 (λ _ _=>[]) (λ _=>false)
def zGG:Ann:=⟨50,[(0,zK [1] [1]),(1,zK [1,3] [1]),(2,zK [1,3,4] [1]),(3,zK [1,3,4,10] [1,32]),(4,zK [1,3,4] [1,32]),(5,zK [1,3,4,5] [1,5,32]),(6,zK [1,3,4,5,20] [1,5,32]),(7,zK [1,3,4,5] [1,5,32]),(8,zK [1,3,4,5,35] [1,5,32]),(9,zK [1,3,4] [1,32]),(10,zK [2] [32])],
 [(3,⟨[1,3,4],[1,32],[(3,32,121,λ _=>zcY default)],[],[],[],[]⟩)],
 [(8,⟨[1,3,4,5],[1,5,32],[(3,32,121,λ _=>zcY default)],[],[],[],[]⟩)],
 [],[]⟩
abbrev R77:=(Sl Step)
abbrev e77 (r:R77):List PA:=[.one (.sl r.len 5 (λ i=>zcY (r.get i)))]
@[irreducible] def z77:=ptF Tryd.prog G77 zGG Tryd.f77
def zDn (n:Net) (iv0:Int) (zdi:(Sl Step)) (zgt:Nat->List PV):St:=⟨[(1,zp 1 0),(3,zv 32),(4,zI iv0)],[(1,.box 24 (zm (enc_24 n))),(32,.vec 121 5 40 zdi.len zgt)],[]⟩
abbrev zGH (K:List PA->Prop) (n:Net) (X:St->Prop) (P:Int->(Sl Step)->Bool) (S:Int->(Sl Step)->(Sl Step)):Prop:=∀ ⦃iv0:Int⦄ ⦃zdi:(Sl Step)⦄ ⦃zgt:Nat->List PV⦄,P iv0 zdi=true->K (e77 (S iv0 zdi))->zgt=zg zcY zdi->X (zDn n iv0 zdi zgt)
section
variable {K:List PA->Prop}{n:Net}{iv0:Int}{zdi:(Sl Step)}{zgt:Nat->List PV}{X0:St->Prop}{P0:Int->(Sl Step)->Bool}{S0:Int->(Sl Step)->(Sl Step)}{iv1:Int}{zqa:Int}{zqb:Int}{zml:Int}{zzU:Int}{zgu:(Sl Step)}{zzV:Nat->List PV}
def zor (S0:Int->(Sl Step)->(Sl Step)) (n:Net) (iv1:Int) (zqa:Int) (zqb:Int) (zml:Int) (zzU:Int) (zgu:(Sl Step)):(Sl Step) :=
  (cond (zml != (-1000000000000:Int))
 (S0 (w64 (iv1+(1:Int))) (⟨(zgu.len+1),(zf4 zgu.len zgu.get (λ _=>(⟨zqb,zqa,(w64 (0 - zml)),(⟨iv1,true⟩:Use)⟩:Step)))⟩:Sl Step))
 (S0 (w64 (iv1+(1:Int))) zgu))
def zos (P0:Int->(Sl Step)->Bool) (n:Net) (iv1:Int) (zqa:Int) (zqb:Int) (zml:Int) (zzU:Int) (zgu:(Sl Step)):Bool :=
  (cond (zml != (-1000000000000:Int))
 (decide (((zgu.len+1) * 40≤140737488355328/\zgu.len+1≤9223372036854775807)) &&
 (P0 (w64 (iv1+(1:Int))) (⟨(zgu.len+1),(zf4 zgu.len zgu.get (λ _=>(⟨zqb,zqa,(w64 (0 - zml)),(⟨iv1,true⟩:Use)⟩:Step)))⟩:Sl Step)))
 (P0 (w64 (iv1+(1:Int))) zgu))
theorem zzW (hX0:zGH K n X0 P0 S0) (hs:zos P0 n iv1 zqa zqb zml zzU zgu=true) (hk:K (e77 (zor S0 n iv1 zqa zqb zml zzU zgu))) (zGI:zzV=zg zcY zgu):z77 K [1,1,0,1,0,0,1,0,0,1,1] [X0] ⟨[(1,zp 1 0),(3,zv 32),(4,zI iv1),(5,zp 5 0)],[(1,.box 24 (zm (enc_24 n))),(5,.box 40 (zm (enc_40 (⟨zqa,zqb,zml,zzU⟩:Tie)))),(32,.vec 121 5 40 zgu.len zzV)],[]⟩:=by subst zGI;exact zbk (by kernel_rfl) (zc hs hk (λ hs hk=>(zaX hs λ hc hs=>And.intro hc (hX0 hs hk (zjw (enc:=zcY) (f:=zgu.get) (h:=(λ _=>(⟨zqb,zqa,(w64 (0 - zml)),(⟨iv1,true⟩:Use)⟩:Step))) rfl rfl)))) (λ hs hk=>(hX0 hs hk rfl)))
def zi9 (n:Net) (S0:Int->(Sl Step)->(Sl Step)) (iv0:Int) (zdi:(Sl Step)):(Sl Step) :=
  (cond (decide (iv0 < (n.Ties.len : Int)))
 (cond ((n.Ties.get iv0.toNat).High != (1000000000000:Int))
 (zor S0 n iv0 ((n.Ties.get iv0.toNat).From) ((n.Ties.get iv0.toNat).To) ((n.Ties.get iv0.toNat).Low) ((n.Ties.get iv0.toNat).High) (⟨(zdi.len+1),(zf4 zdi.len zdi.get (λ _=>(⟨(n.Ties.get iv0.toNat).From,(n.Ties.get iv0.toNat).To,(n.Ties.get iv0.toNat).High,(⟨iv0,false⟩:Use)⟩:Step)))⟩:Sl Step))
 (zor S0 n iv0 ((n.Ties.get iv0.toNat).From) ((n.Ties.get iv0.toNat).To) ((n.Ties.get iv0.toNat).Low) ((n.Ties.get iv0.toNat).High) zdi))
 zdi)
def zja (n:Net) (P0:Int->(Sl Step)->Bool) (iv0:Int) (zdi:(Sl Step)):Bool :=
  (cond (decide (iv0 < (n.Ties.len : Int)))
 (decide ((0≤iv0/\iv0 < (n.Ties.len:Int))) &&
 (cond ((n.Ties.get iv0.toNat).High != (1000000000000:Int))
 (decide (((zdi.len+1) * 40≤140737488355328/\zdi.len+1≤9223372036854775807)) &&
 (zos P0 n iv0 ((n.Ties.get iv0.toNat).From) ((n.Ties.get iv0.toNat).To) ((n.Ties.get iv0.toNat).Low) ((n.Ties.get iv0.toNat).High) (⟨(zdi.len+1),(zf4 zdi.len zdi.get (λ _=>(⟨(n.Ties.get iv0.toNat).From,(n.Ties.get iv0.toNat).To,(n.Ties.get iv0.toNat).High,(⟨iv0,false⟩:Use)⟩:Step)))⟩:Sl Step)))
 (zos P0 n iv0 ((n.Ties.get iv0.toNat).From) ((n.Ties.get iv0.toNat).To) ((n.Ties.get iv0.toNat).Low) ((n.Ties.get iv0.toNat).High) zdi)))
 true)
def zdL (n:Net):Nat->Int->(Sl Step)->(Sl Step):=lpO (λ _ _=>default) (zi9 n)
def zdM (n:Net):Nat->Int->(Sl Step)->Bool:=lpO (λ _ _=>false) (zja n)
def zzX (n:Net) (iv0:Int) (zdi:(Sl Step)):(Sl Step):=zdL n Fuel iv0 zdi
def zzY (n:Net) (iv0:Int) (zdi:(Sl Step)):Bool:=zdM n Fuel iv0 zdi
theorem zGJ (hs:zzY n iv0 zdi=true) (hk:K (e77 (zzX n iv0 zdi))) (zsF:zgt=zg zcY zdi):z77 K [1,1,0,1,0] [] (zDn n iv0 zdi zgt) :=
  zl (λ X=>z77 K [1,1,0,1,0,0] [X]) (by kernel_rfl) λ X0 hX =>
  (show ∀ k, zGH K n X0 (zdM n k) (zdL n k) from ziH _ _ (zja n) (zi9 n) (zGH K n X0)
 (by intro _ _ _ hs;exact absurd hs Bool.false_ne_true)
 (by intro P0 S0 hX0 iv0 zdi zgt hs hk zsF;subst zsF;exact hX _ (zbk (by kernel_rfl) (zc hs hk (λ hs hk=>(zaX hs λ hc hs=>And.intro hc (zc hs hk (λ hs hk=>(zaX hs λ hc hs=>And.intro hc (zzW hX0 hs hk (zjw (enc:=zcY) (f:=zdi.get) (h:=(λ _=>(⟨(n.Ties.get iv0.toNat).From,(n.Ties.get iv0.toNat).To,(n.Ties.get iv0.toNat).High,(⟨iv0,false⟩:Use)⟩:Step))) rfl rfl)))) (λ hs hk=>(zzW hX0 hs hk rfl))))) (λ hs hk=>hk))))) _ hs hk zsF
def s77 (n:Net):(Sl Step) :=
  (zzX n (0:Int) (⟨0,(λ _=>default)⟩:Sl Step))
def p77 (n:Net):Bool :=
  (zzY n (0:Int) (⟨0,(λ _=>default)⟩:Sl Step))
end
theorem q77 (n:Net) (K:List PA->Prop) (hs:p77 n=true) (hk:K (e77 (s77 n))):vcFun Tryd.prog G77 zGG 77 [.agg (enc_24 n)] K :=
  zbk (by kernel_rfl) (zGJ hs hk rfl)
def zCh : List PA -> COut
  | [.agg [.int .i64 zaj,.sl zaf zaB zae]]=>.det (IsE enc_40 4 zaB zae/\p77 (⟨zaj,(⟨zaf,zar zae⟩:(Sl Tie))⟩:Net)=true) [.one (.sl ((s77 (⟨zaj,(⟨zaf,zar zae⟩:(Sl Tie))⟩:Net)).len) 5 (λ i=>zcY ((s77 (⟨zaj,(⟨zaf,zar zae⟩:(Sl Tie))⟩:Net)).get i)))]
  | _=>.no
theorem zJJ:zaA Tryd.prog 77:=⟨_,rfl,rfl,by kernel_rfl⟩
theorem zMN:Ok Tryd.prog 77 zCh:=zbH zL6 zJJ λ args K h=>by
  unfold zCh at h
  split at h
  · rename_i zaj zaf zaB zae
    obtain⟨⟨⟨rfl,zat,rfl⟩,hs⟩,hk⟩:=h
    try rw[zao zat] at hs
    try rw[zao zat] at hk
    exact⟨(λ _ _=>[]),(λ _=>false),zGG,q77 (⟨zaj,(⟨zaf,zat⟩:(Sl Tie))⟩:Net) K hs hk⟩
  · exact h.elim
abbrev T31:Tabs:=(Tabs.nil.addF 77 zCh)
theorem zL7:TabsOk Tryd.prog T31:=(TabsOk.nil.addF zMN)
abbrev G31:Ctrs:=csm T31 (λ _ _=>[]) (λ _=>false)
def zGK:Ann:=⟨67,[(0,zK [1] [1]),(1,zK [1,3] [1]),(2,zK [1,3,4] [1,14]),(3,zK [1,3,4,5] [1,14]),(4,zK [1,3,4,5,6] [1,14]),(5,zK [1,3,4,5,6,21] [1]),(6,zK [1,3,4,5,6] [1,25]),(7,zK [1,3,4,5,6] [1]),(8,zK [1,3,4,5,6,7] [1,25]),(9,zK [1,3,4,5,6,7,8] [1,25]),(10,zK [1,3,4,5,6,7,8,29] [1,25]),(11,zK [1,3,4,5,6,7,8] [1,25]),(12,zK [1,3,4,5,6,7,8,9] [1,25]),(13,zK [1,3,4,5,6,7,8,9,55] [1,25]),(14,zK [1,3,4,5,6,7,8] [1,25]),(15,zK [1,3,4,5,6] [1,25]),(16,zK [2] [])],
 [(5,⟨[1,3,4,5,6],[1],[],[],[],[],[(4,1,λ _=>zad default)]⟩),(10,zK [1,3,4,5,6,7,8] [1,25])],
 [(2,zK [1,3] [1])],
 [],[]⟩
abbrev R31:=Bool
abbrev e31 (r:R31):List PA:=[.one (.bool r)]
@[irreducible] def z31:=ptF Tryd.prog G31 zGK Tryd.f31
def zDo (n:Net) (lv0:(Sl Step)) (zcT:(Sl Int)) (zaq:Bool) (rv1:Int) (zeQ:Nat->List PV):St:=⟨[(1,zp 1 0),(3,zS zcY 5 lv0),(4,zP (.sl zcT.len 1 zeQ)),(5,zB zaq),(6,zI rv1)],[(1,.box 24 (zm (enc_24 n)))],[]⟩
abbrev zGL (K:List PA->Prop) (n:Net) (lv0:(Sl Step)) (X:St->Prop) (P:(Sl Int)->Bool->Int->Bool) (S:(Sl Int)->Bool->Int->Bool):Prop:=∀ ⦃zcT:(Sl Int)⦄ ⦃zaq:Bool⦄ ⦃rv1:Int⦄ ⦃zeQ:Nat->List PV⦄,P zcT zaq rv1=true->K (e31 (S zcT zaq rv1))->zeQ=zg zad zcT->X (zDo n lv0 zcT zaq rv1 zeQ)
def zDp (n:Net) (lv0:(Sl Step)) (zcp:(Sl Int)) (zah:Bool) (rv2:Int) (iv2:Int) (zc6:(Sl Int)) (zeR:Nat->List PV) (zgv:Nat->List PV):St:=⟨[(1,zp 1 0),(3,zS zcY 5 lv0),(4,zP (.sl zcp.len 1 zeR)),(5,zB zah),(6,zI rv2),(7,zv 25),(8,zI iv2)],[(1,.box 24 (zm (enc_24 n))),(25,.vec 3 1 8 zc6.len zgv)],[]⟩
abbrev zJK (K:List PA->Prop) (n:Net) (lv0:(Sl Step)) (X:St->Prop) (P:(Sl Int)->Bool->Int->Int->(Sl Int)->Bool) (S:(Sl Int)->Bool->Int->Int->(Sl Int)->Bool):Prop:=∀ ⦃zcp:(Sl Int)⦄ ⦃zah:Bool⦄ ⦃rv2:Int⦄ ⦃iv2:Int⦄ ⦃zc6:(Sl Int)⦄ ⦃zeR:Nat->List PV⦄ ⦃zgv:Nat->List PV⦄,P zcp zah rv2 iv2 zc6=true->K (e31 (S zcp zah rv2 iv2 zc6))->zeR=zg zad zcp->zgv=zg zad zc6->X (zDp n lv0 zcp zah rv2 iv2 zc6 zeR zgv)
section
variable {K:List PA->Prop}{n:Net}{lv0:(Sl Step)}{zzZ:Nat->List PV}{zcT:(Sl Int)}{zaq:Bool}{rv1:Int}{zeQ:Nat->List PV}{X1:St->Prop}{P1:(Sl Int)->Bool->Int->Bool}{S1:(Sl Int)->Bool->Int->Bool}{zcp:(Sl Int)}{zah:Bool}{rv2:Int}{iv2:Int}{zc6:(Sl Int)}{zeR:Nat->List PV}{zgv:Nat->List PV}{X2:St->Prop}{P2:(Sl Int)->Bool->Int->Int->(Sl Int)->Bool}{S2:(Sl Int)->Bool->Int->Int->(Sl Int)->Bool}
def zjb (S1:(Sl Int)->Bool->Int->Bool) (n:Net) (lv0:(Sl Step)) (S2:(Sl Int)->Bool->Int->Int->(Sl Int)->Bool) (zcp:(Sl Int)) (zah:Bool) (rv2:Int) (iv2:Int) (zc6:(Sl Int)):Bool :=
  (cond (decide (iv2 < (lv0.len : Int)))
 (cond (decide ((w64 ((zcp.get (((lv0.get iv2.toNat).From).toNat)) + (lv0.get iv2.toNat).Length)) < (zc6.get (((lv0.get iv2.toNat).To).toNat))))
 (S2 zcp true rv2 (w64 (iv2+(1:Int))) (⟨zc6.len,(setT (((lv0.get iv2.toNat).To).toNat) (w64 ((zcp.get (((lv0.get iv2.toNat).From).toNat))+(lv0.get iv2.toNat).Length)) zc6.get)⟩:Sl Int))
 (S2 zcp zah rv2 (w64 (iv2+(1:Int))) zc6))
 (S1 zc6 zah (w64 (rv2+(1:Int)))))
def zjc (P1:(Sl Int)->Bool->Int->Bool) (n:Net) (lv0:(Sl Step)) (P2:(Sl Int)->Bool->Int->Int->(Sl Int)->Bool) (zcp:(Sl Int)) (zah:Bool) (rv2:Int) (iv2:Int) (zc6:(Sl Int)):Bool :=
  (cond (decide (iv2 < (lv0.len : Int)))
 (decide ((0≤iv2/\iv2 < (lv0.len:Int))) &&
 (decide ((0≤(lv0.get iv2.toNat).From/\(lv0.get iv2.toNat).From < (zcp.len:Int))) &&
 (decide ((0≤iv2/\iv2 < (lv0.len:Int))) &&
 (decide ((0≤iv2/\iv2 < (lv0.len:Int))) &&
 (decide ((0≤(lv0.get iv2.toNat).To/\(lv0.get iv2.toNat).To < (zc6.len:Int))) &&
 (decide ((((lv0.get iv2.toNat).To).toNat < zc6.len)) &&
 (cond (decide ((w64 ((zcp.get (((lv0.get iv2.toNat).From).toNat)) + (lv0.get iv2.toNat).Length)) < (zc6.get (((lv0.get iv2.toNat).To).toNat))))
 (decide ((0≤iv2/\iv2 < (lv0.len:Int))) &&
 (decide ((0≤(lv0.get iv2.toNat).To/\(lv0.get iv2.toNat).To < (zc6.len:Int))) &&
 (decide ((((lv0.get iv2.toNat).To).toNat < zc6.len)) &&
 (P2 zcp true rv2 (w64 (iv2+(1:Int))) (⟨zc6.len,(setT (((lv0.get iv2.toNat).To).toNat) (w64 ((zcp.get (((lv0.get iv2.toNat).From).toNat))+(lv0.get iv2.toNat).Length)) zc6.get)⟩:Sl Int)))))
 (P2 zcp zah rv2 (w64 (iv2+(1:Int))) zc6))))))))
 (P1 zc6 zah (w64 (rv2+(1:Int)))))
def zfB (S1:(Sl Int)->Bool->Int->Bool) (n:Net) (lv0:(Sl Step)):Nat->(Sl Int)->Bool->Int->Int->(Sl Int)->Bool:=lpO (λ _ _ _ _ _=>default) (zjb S1 n lv0)
def zfC (P1:(Sl Int)->Bool->Int->Bool) (n:Net) (lv0:(Sl Step)):Nat->(Sl Int)->Bool->Int->Int->(Sl Int)->Bool:=lpO (λ _ _ _ _ _=>false) (zjc P1 n lv0)
def zz0 (S1:(Sl Int)->Bool->Int->Bool) (n:Net) (lv0:(Sl Step)) (zcp:(Sl Int)) (zah:Bool) (rv2:Int) (iv2:Int) (zc6:(Sl Int)):Bool:=zfB S1 n lv0 Fuel zcp zah rv2 iv2 zc6
def zz1 (P1:(Sl Int)->Bool->Int->Bool) (n:Net) (lv0:(Sl Step)) (zcp:(Sl Int)) (zah:Bool) (rv2:Int) (iv2:Int) (zc6:(Sl Int)):Bool:=zfC P1 n lv0 Fuel zcp zah rv2 iv2 zc6
theorem zGM (hX1:zGL K n lv0 X1 P1 S1) (hs:zz1 P1 n lv0 zcp zah rv2 iv2 zc6=true) (hk:K (e31 (zz0 S1 n lv0 zcp zah rv2 iv2 zc6))) (zot:zeR=zg zad zcp) (zsG:zgv=zg zad zc6):z31 K [1,1,1,1,0,1,0,0,1,0,0,1,1,0,1,0] [X1] (zDp n lv0 zcp zah rv2 iv2 zc6 zeR zgv) :=
  zl (λ X=>z31 K [1,1,1,1,0,1,0,0,1,0,0,1,1,0,1,0,0] [X1,X]) (by kernel_rfl) λ X2 hX =>
  (show ∀ k, zJK K n lv0 X2 (zfC P1 n lv0 k) (zfB S1 n lv0 k) from ziH _ _ (zjc P1 n lv0) (zjb S1 n lv0) (zJK K n lv0 X2)
 (by intro _ _ _ _ _ _ _ hs;exact absurd hs Bool.false_ne_true)
 (by intro P2 S2 hX2 zcp zah rv2 iv2 zc6 zeR zgv hs hk zot zsG;subst zot;subst zsG;exact hX _ (zbk (by kernel_rfl) (zc hs hk (λ hs hk=>(zaX hs λ hc hs=>And.intro hc (zaX hs λ hc hs=>And.intro hc (zaX hs λ hc hs=>And.intro hc (zaX hs λ hc hs=>And.intro hc (zaX hs λ hc hs=>And.intro hc (zaX hs λ hc hs=>And.intro hc (zc hs hk (λ hs hk=>(zaX hs λ hc hs=>And.intro hc (zaX hs λ hc hs=>And.intro hc (zaX hs λ hc hs=>And.intro hc (hX2 hs hk rfl (zfH (enc:=zad) (i:=((lv0.get iv2.toNat).To).toNat) (k:=0) (f:=zc6.get) (new:=(zad (w64 ((zcp.get (((lv0.get iv2.toNat).From).toNat))+(lv0.get iv2.toNat).Length)))) (v:=(w64 ((zcp.get (((lv0.get iv2.toNat).From).toNat))+(lv0.get iv2.toNat).Length))) rfl rfl)))))) (λ hs hk=>(hX2 hs hk rfl rfl)))))))))) (λ hs hk=>(hX1 hs hk rfl)))))) _ hs hk zot zsG
def zgw (n:Net) (lv0:(Sl Step)) (S1:(Sl Int)->Bool->Int->Bool) (zcT:(Sl Int)) (zaq:Bool) (rv1:Int):Bool :=
  (cond (decide (rv1 < n.Nodes))
 (cond zaq
 (zz0 S1 n lv0 zcT false rv1 (0:Int) zcT)
 (!zaq))
 (!zaq))
def zgx (n:Net) (lv0:(Sl Step)) (P1:(Sl Int)->Bool->Int->Bool) (zcT:(Sl Int)) (zaq:Bool) (rv1:Int):Bool :=
  (cond (decide (rv1 < n.Nodes))
 (cond zaq
 (decide ((zcT.len * 8≤140737488355328/\zcT.len≤9223372036854775807)) &&
 (zz1 P1 n lv0 zcT false rv1 (0:Int) zcT))
 true)
 true)
def zhA (n:Net) (lv0:(Sl Step)):Nat->(Sl Int)->Bool->Int->Bool:=lpO (λ _ _ _=>default) (zgw n lv0)
def zhB (n:Net) (lv0:(Sl Step)):Nat->(Sl Int)->Bool->Int->Bool:=lpO (λ _ _ _=>false) (zgx n lv0)
def zz2 (n:Net) (lv0:(Sl Step)) (zcT:(Sl Int)) (zaq:Bool) (rv1:Int):Bool:=zhA n lv0 Fuel zcT zaq rv1
def zz3 (n:Net) (lv0:(Sl Step)) (zcT:(Sl Int)) (zaq:Bool) (rv1:Int):Bool:=zhB n lv0 Fuel zcT zaq rv1
theorem zGN (hs:zz3 n lv0 zcT zaq rv1=true) (hk:K (e31 (zz2 n lv0 zcT zaq rv1))) (zou:zeQ=zg zad zcT):z31 K [1,1,1,1,0,1,0] [] (zDo n lv0 zcT zaq rv1 zeQ) :=
  zl (λ X=>z31 K [1,1,1,1,0,1,0,0] [X]) (by kernel_rfl) λ X1 hX =>
  (show ∀ k, zGL K n lv0 X1 (zhB n lv0 k) (zhA n lv0 k) from ziH _ _ (zgx n lv0) (zgw n lv0) (zGL K n lv0 X1)
 (by intro _ _ _ _ hs;exact absurd hs Bool.false_ne_true)
 (by intro P1 S1 hX1 zcT zaq rv1 zeQ hs hk zou;subst zou;exact hX _ (zbk (by kernel_rfl) (zc hs hk (λ hs hk=>(zc hs hk (λ hs hk=>(zaX hs λ hc hs=>And.intro hc (zGM hX1 hs hk rfl rfl))) (λ hs hk=>hk))) (λ hs hk=>hk))))) _ hs hk zou
def zz4 (n:Net) (lv0:(Sl Step)):Bool :=
  (zz2 n lv0 (⟨n.Nodes.toNat,(λ _=>(0:Int))⟩:Sl Int) true (0:Int))
def zsH (n:Net) (lv0:(Sl Step)):Bool :=
  (decide ((0≤n.Nodes/\n.Nodes=n.Nodes/\n.Nodes≤1000000)) &&
 (zz3 n lv0 (⟨n.Nodes.toNat,(λ _=>(0:Int))⟩:Sl Int) true (0:Int)))
theorem zGO (hs:zsH n lv0=true) (hk:K (e31 (zz4 n lv0))) (zGP:zzZ=zg zcY lv0):z31 K [1,1] [] ⟨[(1,zp 1 0),(3,zP (.sl lv0.len 5 zzZ))],[(1,.box 24 (zm (enc_24 n)))],[]⟩:=by subst zGP;exact zbk (by kernel_rfl) (zaX hs λ hc hs=>And.intro hc (zGN hs hk rfl))
def s31 (n:Net):Bool :=
  (zz4 n (s77 n))
def p31 (n:Net):Bool :=
  (decide ((p77 n=true)) &&
 (zsH n (s77 n)))
end
theorem q31 (n:Net) (K:List PA->Prop) (hs:p31 n=true) (hk:K (e31 (s31 n))):vcFun Tryd.prog G31 zGK 31 [.agg (enc_24 n)] K :=
  zbk (by kernel_rfl) (zaX hs λ hc hs=>And.intro (And.intro (zE enc_40 4 n.Ties.get) hc) (zGO hs hk rfl))
def zGQ : List PA -> COut
  | [.agg [.int .i64 zaj,.sl zaf zaB zae]]=>.det (IsE enc_40 4 zaB zae/\p31 (⟨zaj,(⟨zaf,zar zae⟩:(Sl Tie))⟩:Net)=true) [.one (.bool (s31 (⟨zaj,(⟨zaf,zar zae⟩:(Sl Tie))⟩:Net)))]
  | _=>.no
theorem zJL:zaA Tryd.prog 31:=⟨_,rfl,rfl,by kernel_rfl⟩
theorem zNS:Ok Tryd.prog 31 zGQ:=zbH zL7 zJL λ args K h=>by
  unfold zGQ at h
  split at h
  · rename_i zaj zaf zaB zae
    obtain⟨⟨⟨rfl,zat,rfl⟩,hs⟩,hk⟩:=h
    try rw[zao zat] at hs
    try rw[zao zat] at hk
    exact⟨(λ _ _=>[]),(λ _=>false),zGK,q31 (⟨zaj,(⟨zaf,zat⟩:(Sl Tie))⟩:Net) K hs hk⟩
  · exact h.elim
end Go.Proofs
