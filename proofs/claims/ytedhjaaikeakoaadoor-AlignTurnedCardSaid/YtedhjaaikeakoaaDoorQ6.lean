/- Part 6 of what the proof rests on: a machine that runs functions of the program on pure values, proved sound; the functions that the law reaches, and what they compute. -/
import Derived.Test.YtedhjaaikeakoaaDoorQ5
import Derived.Shelf.SlIterI.Nil
import Derived.Shelf.SortM.Plain
import Derived.Shelf.SortM.SortNone
import Derived.Ground.GgzProg
import Derived.Ground.SlgmProg
import Derived.Test.YtedhjaaikeakoaaDoorProg
import Derived.Tactics
import Derived.Tactics2
import Derived.Recover
import Derived.RecoverIn
import Derived.TacticsInMore
import Derived.Test.YtedhjaaikeakoaaDoorTie
import Derived.ProofKit
import Derived.LaidMore
import Derived.OpenShut
import Derived.Stop.Joined
set_option linter.all false
namespace Go.Proofs
open Go Go.Pm
set_option maxRecDepth 100000
set_option linter.unusedVariables false
attribute [local irreducible] Go.Pm.vcFun Go.Pm.vc Go.Pm.vcIter
abbrev T89:Tabs:=((((Tabs.nil.addF 93 zn9).addF 106 zvX).addF 107 zwb).addI 110 zob)
theorem zIu:TabsOk Tryd.prog T89:=((((TabsOk.nil.addF zEV).addF zIk).addF zIt).addI ztw)
abbrev G89:Ctrs:=csm T89 (fun _ _=>[]) (fun _=>false)
def zaK:Ann:=⟨148,[(0,⟨[0],[],[],[],[],[],[]⟩),(1,⟨[0,3],[21],[],[],[],[],[]⟩),(2,⟨[0,3,23,24],[21],[],[],[],[],[]⟩),(3,⟨[0,3,23,24,25],[21],[],[],[],[],[]⟩),(4,⟨[0,3,4,23,24],[21],[],[],[],[],[]⟩),(5,⟨[0,3,23,24],[21],[],[],[],[],[]⟩),(6,⟨[0,3,23,24],[21],[],[],[],[],[]⟩),(7,⟨[0,3],[21],[],[],[],[],[]⟩),(8,⟨[0,3,5],[21],[],[],[],[],[]⟩),(9,⟨[0,3,5,45],[21],[],[],[],[],[]⟩),(10,⟨[0,3,5],[21],[],[],[],[],[]⟩),(11,⟨[0,3,5,48,49,50],[21],[],[],[],[],[]⟩),(12,⟨[0,3,5,48,49,50,51],[21],[],[],[],[],[]⟩),(13,⟨[0,3,5,6,7,48,49,50],[21],[],[],[],[],[]⟩),(14,⟨[0,3,5,48,49,50,62],[21],[],[],[],[],[]⟩),(15,⟨[0,3,5,48,49,50],[21],[],[],[],[],[]⟩),(16,⟨[0,3,5,8],[21],[],[],[],[],[]⟩),(17,⟨[0,5,8,64,65,66],[21],[],[],[],[],[]⟩),(18,⟨[0,5,8,64,65,66,67],[21],[],[],[],[],[]⟩),(19,⟨[0,5,8,9,10,64,65,66],[9,10,21],[],[],[],[],[]⟩),(20,⟨[0,5,8,9,10,64,65,66,78],[9,10,21],[],[],[],[],[]⟩),(21,⟨[0,5,8,9,10,11,64,65,66],[9,10,11,21],[],[],[],[],[]⟩),(22,⟨[0,5,8,9,10,11,12,13,64,65,66],[9,10,11,12,13,21],[],[],[],[],[]⟩),(23,⟨[0,5,8,9,10,11,12,13,14,64,65,66],[9,10,11,12,13,14,21],[],[],[],[],[]⟩),(24,⟨[0,5,8,9,10,11,12,13,14,64,65,66,83],[9,10,11,12,13,14,21,129],[],[],[],[],[]⟩),(25,⟨[0,5,8,9,10,11,12,13,14,64,65,66],[9,10,11,12,13,14,21,129],[],[],[],[],[]⟩),(26,⟨[0,5,8,9,10,11,12,13,14,64,65,66,87],[9,10,11,12,13,14,21,129],[],[],[],[],[]⟩),(27,⟨[0,5,8,9,10,11,12,13,14,15,64,65,66,87],[9,10,11,12,13,14,15,21,129],[],[],[],[],[]⟩),(28,⟨[0,5,8,9,10,11,12,13,14,15,64,65,66,87,125],[9,10,11,12,13,14,15,21,129],[],[],[],[],[]⟩),(29,⟨[0,5,8,9,10,11,12,13,14,15,64,65,66],[9,10,11,12,13,14,15,21,129],[],[],[],[],[]⟩),(30,⟨[0,5,8,9,10,11,12,13,14,64,65,66],[9,10,11,12,13,14,21,129],[],[],[],[],[]⟩),(31,⟨[0,5,8,9,10,11,12,13,64,65,66,136],[9,10,11,12,13,21,129],[],[],[],[],[]⟩),(32,⟨[0,5,8,9,10,11,12,13,14,64,65,66],[9,10,11,12,13,14,21,129],[],[],[],[],[]⟩),(33,⟨[0,5,8,11,64,65,66,144],[11,21,129],[],[],[],[],[]⟩),(34,⟨[0,5,8,64,65,66],[21,129],[],[],[],[],[]⟩),(35,⟨[0,5,8,64,65,66],[21,129],[],[],[],[],[]⟩),(36,⟨[2],[],[],[],[],[],[]⟩)],
 [(3,⟨[0,3,23,24],[21],[],[],[],[],[]⟩),(9,⟨[0,3,5],[21],[],[],[],[],[]⟩),(12,⟨[0,3,5,48,49,50],[21],[],[],[],[],[]⟩),(18,⟨[0,5,8,64,65,66],[21],[],[],[],[],[(8,1005,fun _=>zae default)]⟩),(24,⟨[0,5,8,9,10,11,12,13,14,64,65,66],[9,10,11,12,13,14,21,129],[],[(11,0,129,130,fun _=>zae default)],[],[],[]⟩),(27,⟨[0,5,8,9,10,11,12,13,14,64,65,66,87],[9,10,11,12,13,14,21,129],[],[],[],[],[]⟩)],
 [(7,⟨[0,3],[21],[],[],[],[],[]⟩),(16,⟨[0,3,5],[21],[],[],[],[],[]⟩),(34,⟨[0,5,8,11,64,65,66,144],[11,21,129],[],[],[],[],[]⟩)],
 [],[]⟩
def zkj (w:web) (zbh:Int) (zfk:Nat) (zcj:Nat→List PV):St:=⟨[(0,.one (.c (.p (.fp (zau w) 0)))),(3,.one (.c (.vec 21))),(23,.one (.c (.p (.int .i64 (w.Net.Nodes.toNat:Int))))),(24,.one (.c (.p (.int .i64 zbh))))],[(21,.vec 159 1 24 zfk zcj)],[]⟩
def zkk (K:List PA→Prop) (w:web) (zbh:Int) (zfk:Nat) (zcj:Nat→List PV):Prop:=vc Tryd.prog G89 zaK (cdF Tryd.f89 [1,0,1,0,1,0]) (zaj 0 (sqK Tryd.prog G89 zaK (cdF Tryd.f89 [1,0,1,1]) (zcb (za9 Tryd.prog Tryd.f89 K)))) (zkj w zbh zfk zcj)
def zGj (w:web) (zqr:Nat) (zhP:Nat→List PV):St:=⟨[(0,.one (.c (.p (.fp (zau w) 0)))),(3,.one (.c (.vec 21)))],[(21,.vec 159 1 24 zqr zhP)],[]⟩
def zmZ (K:List PA→Prop) (w:web) (zqr:Nat) (zhP:Nat→List PV):Prop:=vc Tryd.prog G89 zaK (cdF Tryd.f89 [1,0,1,1]) (zcb (za9 Tryd.prog Tryd.f89 K)) (zGj w zqr zhP)
def zis (w:web) (zaC:(Sl (Sl Tab))) (za1:Int):St:=⟨[(0,.one (.c (.p (.fp (zau w) 0)))),(3,.one (.c (.vec 21))),(5,.one (.c (.p (.int .i64 za1))))],[(21,.vec 159 1 24 zaC.len (fun i=>zay (zaC.get i)))],[]⟩
def zkl (K:List PA→Prop) (w:web) (zaC:(Sl (Sl Tab))) (za1:Int):Prop:=vc Tryd.prog G89 zaK (cdF Tryd.f89 [1,0,1,1,1,1,0,1,0]) (zaj 2 (sqK Tryd.prog G89 zaK (cdF Tryd.f89 [1,0,1,1,1,1,1]) (zcb (za9 Tryd.prog Tryd.f89 K)))) (zis w zaC za1)
def zkm (w:web) (zaC:(Sl (Sl Tab))) (zaT:Int) (zbo:Int):St:=⟨[(0,.one (.c (.p (.fp (zau w) 0)))),(3,.one (.c (.vec 21))),(5,.one (.c (.p (.int .i64 zaT)))),(48,.one (.c (.vec 21))),(49,.one (.c (.p (.int .i64 (zaC.len:Int))))),(50,.one (.c (.p (.int .i64 zbo))))],[(21,.vec 159 1 24 zaC.len (fun i=>zay (zaC.get i)))],[]⟩
def zkn (K:List PA→Prop) (X2:St→Prop) (w:web) (zaC:(Sl (Sl Tab))) (zaT:Int) (zbo:Int):Prop:=vc Tryd.prog G89 zaK (cdF Tryd.f89 [1,0,1,1,1,1,0,1,0,0,1,0,0,1,0]) (zaj 4 (zaj 3 (sqK Tryd.prog G89 zaK (cdF Tryd.f89 [1,0,1,1,1,1,0,1,0,0,1,1]) (zba Tryd.prog zaK 9 X2 (zaj 2 (sqK Tryd.prog G89 zaK (cdF Tryd.f89 [1,0,1,1,1,1,1]) (zcb (za9 Tryd.prog Tryd.f89 K)))))))) (zkm w zaC zaT zbo)
def zGk (w:web) (zde:Int) (zqs:Nat) (zhQ:Nat→List PV):St:=⟨[(0,.one (.c (.p (.fp (zau w) 0)))),(3,.one (.c (.vec 21))),(5,.one (.c (.p (.int .i64 zde))))],[(21,.vec 159 1 24 zqs zhQ)],[]⟩
def zko (K:List PA→Prop) (w:web) (zde:Int) (zqs:Nat) (zhQ:Nat→List PV):Prop:=vc Tryd.prog G89 zaK (cdF Tryd.f89 [1,0,1,1,1,1,1]) (zcb (za9 Tryd.prog Tryd.f89 K)) (zGk w zde zqs zhQ)
def zeM (w:web) (zak:(Sl (Sl Tab))) (zaI:Int) (zax:Bool) (zd3:Nat) (zbe:Nat→List PV) (zaO:Int) (zfl:Nat) (zbz:Nat→List PV):St:=⟨[(0,.one (.c (.p (.fp (zau w) 0)))),(5,.one (.c (.p (.int .i64 zaI)))),(8,.one (.c (.p (.ns zax zd3 5 zbe)))),(64,.one (.c (.vec 21))),(65,.one (.c (.p (.int .i64 (zak.len:Int))))),(66,.one (.c (.p (.int .i64 zaO))))],[(21,.vec 159 1 24 zfl zbz)],[]⟩
def zkp (K:List PA→Prop) (w:web) (zak:(Sl (Sl Tab))) (zaI:Int) (zax:Bool) (zd3:Nat) (zbe:Nat→List PV) (zaO:Int) (zfl:Nat) (zbz:Nat→List PV):Prop:=vc Tryd.prog G89 zaK (cdF Tryd.f89 [1,0,1,1,1,1,1,1,0,1,0]) (zaj 6 (sqK Tryd.prog G89 zaK (cdF Tryd.f89 [1,0,1,1,1,1,1,1,1]) (zcb (za9 Tryd.prog Tryd.f89 K)))) (zeM w zak zaI zax zd3 zbe zaO zfl zbz)
def zhc (w:web) (zak:(Sl (Sl Tab))) (zaY:Int) (zav:Bool) (zd4:Nat) (zbC:Nat→List PV) (zbD:Int) (iv6:Int) (zoA:Nat) (zeb:Nat→List PV) (zdM:Int) (zaF:Int) (kv6:Int) (zfm:Nat) (zbX:Nat→List PV) (zd5:Nat) (zbE:Nat→List PV):St:=⟨[(0,.one (.c (.p (.fp (zau w) 0)))),(5,.one (.c (.p (.int .i64 zaY)))),(8,.one (.c (.p (.ns zav zd4 5 zbC)))),(9,.one (.c (.ptr 9 0))),(10,.one (.c (.ptr 10 0))),(11,.one (.c (.ptr 11 0))),(12,.one (.c (.ptr 12 0))),(13,.one (.c (.ptr 13 0))),(14,.one (.c (.ptr 14 0))),(64,.one (.c (.vec 21))),(65,.one (.c (.p (.int .i64 (zak.len:Int))))),(66,.one (.c (.p (.int .i64 zbD))))],[(9,.box 3 [.p (.int .i64 iv6)]),(10,.box 159 [.p (.sl zoA 80 zeb)]),(11,.box 127 [.vec 129]),(12,.box 3 [.p (.int .i64 zdM)]),(13,.box 3 [.p (.int .i64 zaF)]),(14,.box 3 [.p (.int .i64 kv6)]),(21,.vec 159 1 24 zfm zbX),(129,.vec 130 5 40 zd5 zbE)],[]⟩
def zkq (K:List PA→Prop) (X5:St→Prop) (w:web) (zak:(Sl (Sl Tab))) (zaY:Int) (zav:Bool) (zd4:Nat) (zbC:Nat→List PV) (zbD:Int) (iv6:Int) (zoA:Nat) (zeb:Nat→List PV) (zdM:Int) (zaF:Int) (kv6:Int) (zfm:Nat) (zbX:Nat→List PV) (zd5:Nat) (zbE:Nat→List PV):Prop:=vc Tryd.prog G89 zaK (cdF Tryd.f89 [1,0,1,1,1,1,1,1,0,1,0,0,1,1,0,0,1,1,1,1,0,1,0]) (zaj 8 (sqK Tryd.prog G89 zaK (cdF Tryd.f89 [1,0,1,1,1,1,1,1,0,1,0,0,1,1,0,0,1,1,1,1,1]) (zaj 7 (sqK Tryd.prog G89 zaK (cdF Tryd.f89 [1,0,1,1,1,1,1,1,0,1,0,0,1,1,1]) (zba Tryd.prog zaK 18 X5 (zaj 6 (sqK Tryd.prog G89 zaK (cdF Tryd.f89 [1,0,1,1,1,1,1,1,1]) (zcb (za9 Tryd.prog Tryd.f89 K))))))))) (zhc w zak zaY zav zd4 zbC zbD iv6 zoA zeb zdM zaF kv6 zfm zbX zd5 zbE)
def zeN (w:web) (zak:(Sl (Sl Tab))) (zaG:Int) (zam:Bool) (zd6:Nat) (zbO:Nat→List PV) (za7:Int) (iv7:Int) (zoB:Nat) (zeV:Nat→List PV) (zck:Int) (zal:Int) (kv7:Int) (zfn:Nat) (zcl:Nat→List PV) (zd7:Nat) (zbP:Nat→List PV):St:=⟨[(0,.one (.c (.p (.fp (zau w) 0)))),(5,.one (.c (.p (.int .i64 zaG)))),(8,.one (.c (.p (.ns zam zd6 5 zbO)))),(9,.one (.c (.ptr 9 0))),(10,.one (.c (.ptr 10 0))),(11,.one (.c (.ptr 11 0))),(12,.one (.c (.ptr 12 0))),(13,.one (.c (.ptr 13 0))),(14,.one (.c (.ptr 14 0))),(64,.one (.c (.vec 21))),(65,.one (.c (.p (.int .i64 (zak.len:Int))))),(66,.one (.c (.p (.int .i64 za7)))),(87,.one (.c (.p (.fn 110 [] [.fp [.fp (zau w) 0] 0]))))],[(9,.box 3 [.p (.int .i64 iv7)]),(10,.box 159 [.p (.sl zoB 80 zeV)]),(11,.box 127 [.vec 129]),(12,.box 3 [.p (.int .i64 zck)]),(13,.box 3 [.p (.int .i64 zal)]),(14,.box 3 [.p (.int .i64 kv7)]),(21,.vec 159 1 24 zfn zcl),(129,.vec 130 5 40 zd7 zbP)],[]⟩
def zkr (K:List PA→Prop) (X5:St→Prop) (X6:St→Prop) (w:web) (zak:(Sl (Sl Tab))) (zaG:Int) (zam:Bool) (zd6:Nat) (zbO:Nat→List PV) (za7:Int) (iv7:Int) (zoB:Nat) (zeV:Nat→List PV) (zck:Int) (zal:Int) (kv7:Int) (zfn:Nat) (zcl:Nat→List PV) (zd7:Nat) (zbP:Nat→List PV):Prop:=vc Tryd.prog G89 zaK (cdF Tryd.f89 [1,0,1,1,1,1,1,1,0,1,0,0,1,1,0,0,1,1,1,1,0,1,0,0,1,0,0,1,0]) (zaj 10 (zaj 9 (sqK Tryd.prog G89 zaK (cdF Tryd.f89 [1,0,1,1,1,1,1,1,0,1,0,0,1,1,0,0,1,1,1,1,0,1,0,0,1,1]) (zba Tryd.prog zaK 24 X6 (zaj 8 (sqK Tryd.prog G89 zaK (cdF Tryd.f89 [1,0,1,1,1,1,1,1,0,1,0,0,1,1,0,0,1,1,1,1,1]) (zaj 7 (sqK Tryd.prog G89 zaK (cdF Tryd.f89 [1,0,1,1,1,1,1,1,0,1,0,0,1,1,1]) (zba Tryd.prog zaK 18 X5 (zaj 6 (sqK Tryd.prog G89 zaK (cdF Tryd.f89 [1,0,1,1,1,1,1,1,1]) (zcb (za9 Tryd.prog Tryd.f89 K))))))))))))) (zeN w zak zaG zam zd6 zbO za7 iv7 zoB zeV zck zal kv7 zfn zcl zd7 zbP)
def zGl (w:web) (zak:(Sl (Sl Tab))) (zcF:Int) (zbZ:Bool) (zm0:Nat) (zfJ:Nat→List PV) (zel:Int) (zdL:Bool) (zqu:Nat) (zhR:Nat→List PV) (zm1:Nat) (zfK:Nat→List PV):St:=⟨[(0,.one (.c (.p (.fp (zau w) 0)))),(5,.one (.c (.p (.int .i64 zcF)))),(8,.one (.c (.p (.ns zbZ zm0 5 zfJ)))),(11,.one (.c (.ptr 11 0))),(64,.one (.c (.vec 21))),(65,.one (.c (.p (.int .i64 (zak.len:Int))))),(66,.one (.c (.p (.int .i64 zel)))),(144,.one (.c (.p (.bool zdL))))],[(11,.box 127 [.vec 129]),(21,.vec 159 1 24 zqu zhR),(129,.vec 130 5 40 zm1 zfK)],[]⟩
def zks (K:List PA→Prop) (X5:St→Prop) (w:web) (zak:(Sl (Sl Tab))) (zcF:Int) (zbZ:Bool) (zm0:Nat) (zfJ:Nat→List PV) (zel:Int) (zdL:Bool) (zqu:Nat) (zhR:Nat→List PV) (zm1:Nat) (zfK:Nat→List PV):Prop:=vc Tryd.prog G89 zaK (cdF Tryd.f89 [1,0,1,1,1,1,1,1,0,1,0,0,1,1,0,0,1,1,1,1,1,1]) (zaj 7 (sqK Tryd.prog G89 zaK (cdF Tryd.f89 [1,0,1,1,1,1,1,1,0,1,0,0,1,1,1]) (zba Tryd.prog zaK 18 X5 (zaj 6 (sqK Tryd.prog G89 zaK (cdF Tryd.f89 [1,0,1,1,1,1,1,1,1]) (zcb (za9 Tryd.prog Tryd.f89 K))))))) (zGl w zak zcF zbZ zm0 zfJ zel zdL zqu zhR zm1 zfK)
theorem zC2 (w : web) (K : List PA → Prop) :
  vcFun Tryd.prog G89 zaK 89 [.one (.fp (zau w) 0)] K =
  (((0≤w.Net.Nodes∧w.Net.Nodes=w.Net.Nodes∧w.Net.Nodes≤1000000)) ∧
 (zkk K w (0:Int) w.Net.Nodes.toNat (fun _=>(zay (⟨0,fun _=>(fun _=>(0:Int))⟩:(Sl Tab)))))):=by kernel_rfl
def zoC (K:List PA→Prop) (X0:St→Prop) (w:web) (zbh:Int) (zbI:(Sl (Sl Tab))):Prop :=
  (zby (decide (zbh < (w.Net.Nodes.toNat : Int)))
 ((IsE enc_40 4 4 (fun i=>enc_40 (w.Net.Ties.get i))∧((false,1,false,[none]):MQ)=(false,1,false,[none])∧(zF9 w zbh w.Net.Nodes=true)) ∧
 (((0≤zbh∧zbh < (zbI.len:Int))) ∧
 (((zbh.toNat < zbI.len)) ∧
 (X0 (zkj w (w64 (zbh+(1:Int))) zbI.len (ziz zbh.toNat 0 (fun i=>zay (zbI.get i)) (zay (zvW w zbh w.Net.Nodes))))))))
 (zmZ K w zbI.len (fun i=>zay (zbI.get i))))
theorem zqv (K : List PA → Prop) (X0 : St → Prop) (w : web) (zbh : Int) (zbI : (Sl (Sl Tab))) :
  vc Tryd.prog G89 zaK (cd (cdF Tryd.f89 [1,0,1,0,1,0]) [0]) (zba Tryd.prog zaK 3 X0 (zaj 0 (sqK Tryd.prog G89 zaK (cdF Tryd.f89 [1,0,1,1]) (zcb (za9 Tryd.prog Tryd.f89 K))))) (zkj w zbh zbI.len (fun i=>zay (zbI.get i))) =
  zoC K X0 w zbh zbI:=by kernel_rfl
theorem zwc (K : List PA → Prop) (w : web) (zbh : Int) (zfk : Nat) (zcj : Nat → List PV)
  (h:∀ X0:St→Prop,(∀ (zbh:Int) (zbI:(Sl (Sl Tab))),zoC K X0 w zbh zbI→X0 (zkj w zbh zbI.len (fun i=>zay (zbI.get i))))→X0 (zkj w zbh zfk zcj)) :
  zkk K w zbh zfk zcj:=by
  have e:zkk K w zbh zfk zcj=(∀ X:St→Prop,(∀ s,vc Tryd.prog G89 zaK (cd (cdF Tryd.f89 [1,0,1,0,1,0]) [0]) (zba Tryd.prog zaK 3 X (zaj 0 (sqK Tryd.prog G89 zaK (cdF Tryd.f89 [1,0,1,1]) (zcb (za9 Tryd.prog Tryd.f89 K))))) s→X s)→X (zkj w zbh zfk zcj)):=by kernel_rfl
  refine zbd e ?_
  intro X hX
  refine h X ?_
  intro zbh zbI hs
  refine hX _ ?_
  have e2:=zqv K X w zbh zbI
  rw [e2]
  exact hs
theorem zC3 (K : List PA → Prop) (w : web) (zaC : (Sl (Sl Tab))) :
  zmZ K w zaC.len (fun i=>zay (zaC.get i)) =
  (zkl K w zaC (1:Int)):=by kernel_rfl
def zoD (K:List PA→Prop) (X2:St→Prop) (w:web) (zaC:(Sl (Sl Tab))) (za1:Int):Prop :=
  (zby (decide (za1 < w.Net.Nodes))
 (zkn K X2 w zaC za1 (0:Int))
 (zko K w za1 zaC.len (fun i=>zay (zaC.get i))))
theorem zqw (K : List PA → Prop) (X2 : St → Prop) (w : web) (zaC : (Sl (Sl Tab))) (za1 : Int) :
  vc Tryd.prog G89 zaK (cd (cdF Tryd.f89 [1,0,1,1,1,1,0,1,0]) [0]) (zba Tryd.prog zaK 9 X2 (zaj 2 (sqK Tryd.prog G89 zaK (cdF Tryd.f89 [1,0,1,1,1,1,1]) (zcb (za9 Tryd.prog Tryd.f89 K))))) (zis w zaC za1) =
  zoD K X2 w zaC za1:=by kernel_rfl
theorem zwd (K : List PA → Prop) (w : web) (zaC : (Sl (Sl Tab))) (za1 : Int)
  (h:∀ X2:St→Prop,(∀ (za1:Int),zoD K X2 w zaC za1→X2 (zis w zaC za1))→X2 (zis w zaC za1)) :
  zkl K w zaC za1:=by
  have e:zkl K w zaC za1=(∀ X:St→Prop,(∀ s,vc Tryd.prog G89 zaK (cd (cdF Tryd.f89 [1,0,1,1,1,1,0,1,0]) [0]) (zba Tryd.prog zaK 9 X (zaj 2 (sqK Tryd.prog G89 zaK (cdF Tryd.f89 [1,0,1,1,1,1,1]) (zcb (za9 Tryd.prog Tryd.f89 K))))) s→X s)→X (zis w zaC za1)):=by kernel_rfl
  refine zbd e ?_
  intro X hX
  refine h X ?_
  intro za1 hs
  refine hX _ ?_
  have e2:=zqw K X w zaC za1
  rw [e2]
  exact hs
def zoE (K:List PA→Prop) (X2:St→Prop) (X3:St→Prop) (w:web) (zaC:(Sl (Sl Tab))) (zaT:Int) (zbo:Int):Prop :=
  (zby (decide (zbo < (zaC.len : Int)))
 (((0≤zbo∧zbo < (zaC.len:Int))) ∧
 (((zbo.toNat < zaC.len)) ∧
 (((0≤zaT∧zaT < ((zaC.get zbo.toNat).len:Int))) ∧
 (((0≤zbo∧zbo < (40:Int))) ∧
 (zby (decide ((tg 80 ((zaC.get zbo.toNat).get zaT.toNat) (0 + zbo.toNat * 2 + 0)) < (0:Int)))
 (zko K w zaT zaC.len (fun i=>zay (zaC.get i)))
 (X3 (zkm w zaC zaT (w64 (zbo+(1:Int))))))))))
 (X2 (zis w zaC (w64 (zaT+(1:Int))))))
theorem zqx (K : List PA → Prop) (X2 : St → Prop) (X3 : St → Prop) (w : web) (zaC : (Sl (Sl Tab))) (zaT : Int) (zbo : Int) :
  vc Tryd.prog G89 zaK (cd (cdF Tryd.f89 [1,0,1,1,1,1,0,1,0,0,1,0,0,1,0]) [0]) (zba Tryd.prog zaK 12 X3 (zaj 4 (zaj 3 (sqK Tryd.prog G89 zaK (cdF Tryd.f89 [1,0,1,1,1,1,0,1,0,0,1,1]) (zba Tryd.prog zaK 9 X2 (zaj 2 (sqK Tryd.prog G89 zaK (cdF Tryd.f89 [1,0,1,1,1,1,1]) (zcb (za9 Tryd.prog Tryd.f89 K))))))))) (zkm w zaC zaT zbo) =
  zoE K X2 X3 w zaC zaT zbo:=by kernel_rfl
theorem zwe (K : List PA → Prop) (X2 : St → Prop) (w : web) (zaC : (Sl (Sl Tab))) (zaT : Int) (zbo : Int)
  (h:∀ X3:St→Prop,(∀ (zaT:Int) (zbo:Int),zoE K X2 X3 w zaC zaT zbo→X3 (zkm w zaC zaT zbo))→X3 (zkm w zaC zaT zbo)) :
  zkn K X2 w zaC zaT zbo:=by
  have e:zkn K X2 w zaC zaT zbo=(∀ X:St→Prop,(∀ s,vc Tryd.prog G89 zaK (cd (cdF Tryd.f89 [1,0,1,1,1,1,0,1,0,0,1,0,0,1,0]) [0]) (zba Tryd.prog zaK 12 X (zaj 4 (zaj 3 (sqK Tryd.prog G89 zaK (cdF Tryd.f89 [1,0,1,1,1,1,0,1,0,0,1,1]) (zba Tryd.prog zaK 9 X2 (zaj 2 (sqK Tryd.prog G89 zaK (cdF Tryd.f89 [1,0,1,1,1,1,1]) (zcb (za9 Tryd.prog Tryd.f89 K))))))))) s→X s)→X (zkm w zaC zaT zbo)):=by kernel_rfl
  refine zbd e ?_
  intro X hX
  refine h X ?_
  intro zaT zbo hs
  refine hX _ ?_
  have e2:=zqx K X2 X w zaC zaT zbo
  rw [e2]
  exact hs
theorem zC4 (K : List PA → Prop) (w : web) (zde : Int) (zak : (Sl (Sl Tab))) :
  zko K w zde zak.len (fun i=>zay (zak.get i)) =
  (zkp K w zak zde true 0 (fun i=>zae ((fun _=>default) i)) (0:Int) zak.len (fun i=>zay (zak.get i))):=by kernel_rfl
def zoF (K:List PA→Prop) (X5:St→Prop) (w:web) (zak:(Sl (Sl Tab))) (zaI:Int) (zax:Bool) (zaL:(Sl step)) (zaO:Int) (za8:(Sl (Sl Tab))):Prop :=
  (zby (decide (zaO < (zak.len : Int)))
 (((0≤zaO∧zaO < (za8.len:Int))) ∧
 (((zaO.toNat < za8.len)) ∧
 (((0≤zaI∧zaI < ((za8.get zaO.toNat).len:Int))) ∧
 (((0≤zaO∧zaO < (40:Int))) ∧
 (zby (decide ((tg 80 ((za8.get zaO.toNat).get zaI.toNat) (0 + zaO.toNat * 2 + 0)) ≥ (0:Int)))
 (X5 (zeM w zak zaI zax zaL.len (fun i=>zae (zaL.get i)) (w64 (zaO+(1:Int))) za8.len (fun i=>zay (za8.get i))))
 (zkq K X5 w zak zaI zax zaL.len (fun i=>zae (zaL.get i)) zaO zaO ((za8.get zaO.toNat).len) (fun i=>zad ((za8.get zaO.toNat).get i)) zaO (0:Int) (w64 (zaI - (1:Int))) za8.len (fun i=>zay (za8.get i)) 0 (fun i=>zae ((fun _=>default) i))))))))
 (K [.one (.sl zaL.len 5 (fun i=>zae (zaL.get i)))]))
theorem zqy (K : List PA → Prop) (X5 : St → Prop) (w : web) (zak : (Sl (Sl Tab))) (zaI : Int) (zax : Bool) (zaL : (Sl step)) (zaO : Int) (za8 : (Sl (Sl Tab))) :
  vc Tryd.prog G89 zaK (cd (cdF Tryd.f89 [1,0,1,1,1,1,1,1,0,1,0]) [0]) (zba Tryd.prog zaK 18 X5 (zaj 6 (sqK Tryd.prog G89 zaK (cdF Tryd.f89 [1,0,1,1,1,1,1,1,1]) (zcb (za9 Tryd.prog Tryd.f89 K))))) (zeM w zak zaI zax zaL.len (fun i=>zae (zaL.get i)) zaO za8.len (fun i=>zay (za8.get i))) =
  zoF K X5 w zak zaI zax zaL zaO za8:=by kernel_rfl
theorem zwf (K : List PA → Prop) (w : web) (zak : (Sl (Sl Tab))) (zaI : Int) (zax : Bool) (zd3 : Nat) (zbe : Nat → List PV) (zaO : Int) (zfl : Nat) (zbz : Nat → List PV)
  (h:∀ X5:St→Prop,(∀ (zaI:Int) (zax:Bool) (zaL:(Sl step)) (zaO:Int) (za8:(Sl (Sl Tab))),zoF K X5 w zak zaI zax zaL zaO za8→X5 (zeM w zak zaI zax zaL.len (fun i=>zae (zaL.get i)) zaO za8.len (fun i=>zay (za8.get i))))→X5 (zeM w zak zaI zax zd3 zbe zaO zfl zbz)) :
  zkp K w zak zaI zax zd3 zbe zaO zfl zbz:=by
  have e:zkp K w zak zaI zax zd3 zbe zaO zfl zbz=(∀ X:St→Prop,(∀ s,vc Tryd.prog G89 zaK (cd (cdF Tryd.f89 [1,0,1,1,1,1,1,1,0,1,0]) [0]) (zba Tryd.prog zaK 18 X (zaj 6 (sqK Tryd.prog G89 zaK (cdF Tryd.f89 [1,0,1,1,1,1,1,1,1]) (zcb (za9 Tryd.prog Tryd.f89 K))))) s→X s)→X (zeM w zak zaI zax zd3 zbe zaO zfl zbz)):=by kernel_rfl
  refine zbd e ?_
  intro X hX
  refine h X ?_
  intro zaI zax zaL zaO za8 hs
  refine hX _ ?_
  have e2:=zqy K X w zak zaI zax zaL zaO za8
  rw [e2]
  exact hs
def zoG (K:List PA→Prop) (X5:St→Prop) (X6:St→Prop) (w:web) (zak:(Sl (Sl Tab))) (zaY:Int) (zav:Bool) (zaJ:(Sl step)) (zbD:Int) (iv6:Int) (hv6:(Sl Tab)) (zdM:Int) (zaF:Int) (kv6:Int) (zbv:(Sl (Sl Tab))) (zaM:(Sl step)):Prop :=
  (zby (decide (kv6 ≥ (0:Int)))
 ((IsE enc_40 4 4 (fun i=>enc_40 (w.Net.Ties.get i))∧((false,1,false,[none]):MQ)=(false,1,false,[none])) ∧
 (zkr K X5 X6 w zak zaY zav zaJ.len (fun i=>zae (zaJ.get i)) zbD iv6 hv6.len (fun i=>zad (hv6.get i)) zdM zaF kv6 zbv.len (fun i=>zay (zbv.get i)) zaM.len (fun i=>zae (zaM.get i))))
 (((zav=true∨zaJ.len ≠ 0)) ∧
 (zby zav
 (zks K X5 w zak zaY zav zaJ.len (fun i=>zae (zaJ.get i)) zbD true zbv.len (fun i=>zay (zbv.get i)) zaM.len (fun i=>zae (zaM.get i)))
 ((IsE zae 5 5 (fun i=>zae (zaM.get i))∧IsE zae 5 5 (fun i=>zae (zaJ.get i))∧(zHM zaM zaJ=true)) ∧
 (zks K X5 w zak zaY zav zaJ.len (fun i=>zae (zaJ.get i)) zbD (decide ((zEW zaM zaJ) < (0:Int))) zbv.len (fun i=>zay (zbv.get i)) zaM.len (fun i=>zae (zaM.get i)))))))
theorem zqz (K : List PA → Prop) (X5 : St → Prop) (X6 : St → Prop) (w : web) (zak : (Sl (Sl Tab))) (zaY : Int) (zav : Bool) (zaJ : (Sl step)) (zbD : Int) (iv6 : Int) (hv6 : (Sl Tab)) (zdM : Int) (zaF : Int) (kv6 : Int) (zbv : (Sl (Sl Tab))) (zaM : (Sl step)) :
  vc Tryd.prog G89 zaK (cd (cdF Tryd.f89 [1,0,1,1,1,1,1,1,0,1,0,0,1,1,0,0,1,1,1,1,0,1,0]) [0]) (zba Tryd.prog zaK 24 X6 (zaj 8 (sqK Tryd.prog G89 zaK (cdF Tryd.f89 [1,0,1,1,1,1,1,1,0,1,0,0,1,1,0,0,1,1,1,1,1]) (zaj 7 (sqK Tryd.prog G89 zaK (cdF Tryd.f89 [1,0,1,1,1,1,1,1,0,1,0,0,1,1,1]) (zba Tryd.prog zaK 18 X5 (zaj 6 (sqK Tryd.prog G89 zaK (cdF Tryd.f89 [1,0,1,1,1,1,1,1,1]) (zcb (za9 Tryd.prog Tryd.f89 K)))))))))) (zhc w zak zaY zav zaJ.len (fun i=>zae (zaJ.get i)) zbD iv6 hv6.len (fun i=>zad (hv6.get i)) zdM zaF kv6 zbv.len (fun i=>zay (zbv.get i)) zaM.len (fun i=>zae (zaM.get i))) =
  zoG K X5 X6 w zak zaY zav zaJ zbD iv6 hv6 zdM zaF kv6 zbv zaM:=by kernel_rfl
theorem zwg (K : List PA → Prop) (X5 : St → Prop) (w : web) (zak : (Sl (Sl Tab))) (zaY : Int) (zav : Bool) (zd4 : Nat) (zbC : Nat → List PV) (zbD : Int) (iv6 : Int) (zoA : Nat) (zeb : Nat → List PV) (zdM : Int) (zaF : Int) (kv6 : Int) (zfm : Nat) (zbX : Nat → List PV) (zd5 : Nat) (zbE : Nat → List PV)
  (h:∀ X6:St→Prop,(∀ (zaY:Int) (zav:Bool) (zaJ:(Sl step)) (zbD:Int) (iv6:Int) (hv6:(Sl Tab)) (zdM:Int) (zaF:Int) (kv6:Int) (zbv:(Sl (Sl Tab))) (zaM:(Sl step)),zoG K X5 X6 w zak zaY zav zaJ zbD iv6 hv6 zdM zaF kv6 zbv zaM→X6 (zhc w zak zaY zav zaJ.len (fun i=>zae (zaJ.get i)) zbD iv6 hv6.len (fun i=>zad (hv6.get i)) zdM zaF kv6 zbv.len (fun i=>zay (zbv.get i)) zaM.len (fun i=>zae (zaM.get i))))→X6 (zhc w zak zaY zav zd4 zbC zbD iv6 zoA zeb zdM zaF kv6 zfm zbX zd5 zbE)) :
  zkq K X5 w zak zaY zav zd4 zbC zbD iv6 zoA zeb zdM zaF kv6 zfm zbX zd5 zbE:=by
  have e:zkq K X5 w zak zaY zav zd4 zbC zbD iv6 zoA zeb zdM zaF kv6 zfm zbX zd5 zbE=(∀ X:St→Prop,(∀ s,vc Tryd.prog G89 zaK (cd (cdF Tryd.f89 [1,0,1,1,1,1,1,1,0,1,0,0,1,1,0,0,1,1,1,1,0,1,0]) [0]) (zba Tryd.prog zaK 24 X (zaj 8 (sqK Tryd.prog G89 zaK (cdF Tryd.f89 [1,0,1,1,1,1,1,1,0,1,0,0,1,1,0,0,1,1,1,1,1]) (zaj 7 (sqK Tryd.prog G89 zaK (cdF Tryd.f89 [1,0,1,1,1,1,1,1,0,1,0,0,1,1,1]) (zba Tryd.prog zaK 18 X5 (zaj 6 (sqK Tryd.prog G89 zaK (cdF Tryd.f89 [1,0,1,1,1,1,1,1,1]) (zcb (za9 Tryd.prog Tryd.f89 K)))))))))) s→X s)→X (zhc w zak zaY zav zd4 zbC zbD iv6 zoA zeb zdM zaF kv6 zfm zbX zd5 zbE)):=by kernel_rfl
  refine zbd e ?_
  intro X hX
  refine h X ?_
  intro zaY zav zaJ zbD iv6 hv6 zdM zaF kv6 zbv zaM hs
  refine hX _ ?_
  have e2:=zqz K X5 X w zak zaY zav zaJ zbD iv6 hv6 zdM zaF kv6 zbv zaM
  rw [e2]
  exact hs
def zoH (K:List PA→Prop) (X5:St→Prop) (X6:St→Prop) (w:web) (zak:(Sl (Sl Tab))) (zaG:Int) (zam:Bool) (zaD:(Sl step)) (za7:Int) (iv7:Int) (hv7:(Sl Tab)) (zck:Int) (zal:Int) (kv7:Int) (zaU:(Sl (Sl Tab))) (zaw:(Sl step)):Prop :=
  (X6 (zhc w zak zaG zam zaD.len (fun i=>zae (zaD.get i)) za7 iv7 hv7.len (fun i=>zad (hv7.get i)) zck zal (w64 (kv7 - (1:Int))) zaU.len (fun i=>zay (zaU.get i)) zaw.len (fun i=>zae (zaw.get i))))
def zoI (K:List PA→Prop) (X5:St→Prop) (X6:St→Prop) (X7:List (List PA)→St→Prop) (y7:step) (rest7:List (List PA)) (w:web) (zak:(Sl (Sl Tab))) (zaG:Int) (zam:Bool) (zaD:(Sl step)) (za7:Int) (iv7:Int) (hv7:(Sl Tab)) (zck:Int) (zal:Int) (kv7:Int) (zaU:(Sl (Sl Tab))) (zaw:(Sl step)):Prop :=
  (zby (y7.from_ == zck)
 (zby (decide (y7.to ≥ iv7))
 (((0≤kv7∧kv7 < (hv7.len:Int))) ∧
 (((0≤y7.to∧y7.to < (40:Int))) ∧
 (zby (!(match ((tg 80 (hv7.get kv7.toNat) (0 + y7.to.toNat * 2 + 0)) == (1000000000000:Int)) with | true => (match ((tg 80 (hv7.get kv7.toNat) (0 + y7.to.toNat * 2 + 0 + 1)) == (0:Int)) with | true => true | false => false) | false => false))
 (((0≤kv7∧kv7 < (hv7.len:Int))) ∧
 (((0≤y7.to∧y7.to < (40:Int))) ∧
 (zby (decide ((w64 ((w64 (zal + y7.length)) + (tg 80 (hv7.get kv7.toNat) (0 + y7.to.toNat * 2 + 0)))) < (0:Int)))
 ((((zaw.len+1) * 40≤140737488355328∧zaw.len+1≤9223372036854775807)) ∧
 (X6 (zhc w zak zaG zam zaD.len (fun i=>zae (zaD.get i)) za7 iv7 hv7.len (fun i=>zad (hv7.get i)) y7.to (w64 (zal+y7.length)) (w64 (kv7 - (1:Int))) zaU.len (fun i=>zay (zaU.get i)) (zaw.len+1) (appG zaw.len (fun i=>zae (zaw.get i)) (fun _=>(zae y7))))))
 (X7 rest7 (zeN w zak zaG zam zaD.len (fun i=>zae (zaD.get i)) za7 iv7 hv7.len (fun i=>zad (hv7.get i)) zck zal kv7 zaU.len (fun i=>zay (zaU.get i)) zaw.len (fun i=>zae (zaw.get i)))))))
 (X7 rest7 (zeN w zak zaG zam zaD.len (fun i=>zae (zaD.get i)) za7 iv7 hv7.len (fun i=>zad (hv7.get i)) zck zal kv7 zaU.len (fun i=>zay (zaU.get i)) zaw.len (fun i=>zae (zaw.get i)))))))
 (X7 rest7 (zeN w zak zaG zam zaD.len (fun i=>zae (zaD.get i)) za7 iv7 hv7.len (fun i=>zad (hv7.get i)) zck zal kv7 zaU.len (fun i=>zay (zaU.get i)) zaw.len (fun i=>zae (zaw.get i)))))
 (X7 rest7 (zeN w zak zaG zam zaD.len (fun i=>zae (zaD.get i)) za7 iv7 hv7.len (fun i=>zad (hv7.get i)) zck zal kv7 zaU.len (fun i=>zay (zaU.get i)) zaw.len (fun i=>zae (zaw.get i)))))
theorem zqA (K:List PA→Prop) (X5:St→Prop) (X6:St→Prop) (w:web) (zak:(Sl (Sl Tab))) (zaG:Int) (zam:Bool) (zaD:(Sl step)) (za7:Int) (iv7:Int) (hv7:(Sl Tab)) (zck:Int) (zal:Int) (kv7:Int) (zaU:(Sl (Sl Tab))) (zaw:(Sl step)):(zaj 10 (zaj 9 (sqK Tryd.prog G89 zaK (cdF Tryd.f89 [1,0,1,1,1,1,1,1,0,1,0,0,1,1,0,0,1,1,1,1,0,1,0,0,1,1]) (zba Tryd.prog zaK 24 X6 (zaj 8 (sqK Tryd.prog G89 zaK (cdF Tryd.f89 [1,0,1,1,1,1,1,1,0,1,0,0,1,1,0,0,1,1,1,1,1]) (zaj 7 (sqK Tryd.prog G89 zaK (cdF Tryd.f89 [1,0,1,1,1,1,1,1,0,1,0,0,1,1,1]) (zba Tryd.prog zaK 18 X5 (zaj 6 (sqK Tryd.prog G89 zaK (cdF Tryd.f89 [1,0,1,1,1,1,1,1,1]) (zcb (za9 Tryd.prog Tryd.f89 K))))))))))))) .normal (zeN w zak zaG zam zaD.len (fun i=>zae (zaD.get i)) za7 iv7 hv7.len (fun i=>zad (hv7.get i)) zck zal kv7 zaU.len (fun i=>zay (zaU.get i)) zaw.len (fun i=>zae (zaw.get i)))=zoH K X5 X6 w zak zaG zam zaD za7 iv7 hv7 zck zal kv7 zaU zaw:=by kernel_rfl
theorem zqB (K : List PA → Prop) (X5 : St → Prop) (X6 : St → Prop) (X7 : List (List PA) → St → Prop) (y7 : step) (rest7 : List (List PA)) (w : web) (zak : (Sl (Sl Tab))) (zaG : Int) (zam : Bool) (zaD : (Sl step)) (za7 : Int) (iv7 : Int) (hv7 : (Sl Tab)) (zck : Int) (zal : Int) (kv7 : Int) (zaU : (Sl (Sl Tab))) (zaw : (Sl step)) :
  ztK Tryd.prog G89 zaK 27 [88] (cd (cdF Tryd.f89 [1,0,1,1,1,1,1,1,0,1,0,0,1,1,0,0,1,1,1,1,0,1,0,0,1,0,0,1,0]) [0]) (cd (cdF Tryd.f89 [1,0,1,1,1,1,1,1,0,1,0,0,1,1,0,0,1,1,1,1,0,1,0,0,1,0,0,1,0]) [1]) X7 (zaj 10 (zaj 9 (sqK Tryd.prog G89 zaK (cdF Tryd.f89 [1,0,1,1,1,1,1,1,0,1,0,0,1,1,0,0,1,1,1,1,0,1,0,0,1,1]) (zba Tryd.prog zaK 24 X6 (zaj 8 (sqK Tryd.prog G89 zaK (cdF Tryd.f89 [1,0,1,1,1,1,1,1,0,1,0,0,1,1,0,0,1,1,1,1,1]) (zaj 7 (sqK Tryd.prog G89 zaK (cdF Tryd.f89 [1,0,1,1,1,1,1,1,0,1,0,0,1,1,1]) (zba Tryd.prog zaK 18 X5 (zaj 6 (sqK Tryd.prog G89 zaK (cdF Tryd.f89 [1,0,1,1,1,1,1,1,1]) (zcb (za9 Tryd.prog Tryd.f89 K))))))))))))) [.agg (zae y7)] rest7 (zeN w zak zaG zam zaD.len (fun i=>zae (zaD.get i)) za7 iv7 hv7.len (fun i=>zad (hv7.get i)) zck zal kv7 zaU.len (fun i=>zay (zaU.get i)) zaw.len (fun i=>zae (zaw.get i)))=zoI K X5 X6 X7 y7 rest7 w zak zaG zam zaD za7 iv7 hv7 zck zal kv7 zaU zaw:=by kernel_rfl
theorem zwh (K : List PA → Prop) (X5 : St → Prop) (X6 : St → Prop) (w : web) (zak : (Sl (Sl Tab))) (zaG : Int) (zam : Bool) (zd6 : Nat) (zbO : Nat → List PV) (za7 : Int) (iv7 : Int) (zoB : Nat) (zeV : Nat → List PV) (zck : Int) (zal : Int) (kv7 : Int) (zfn : Nat) (zcl : Nat → List PV) (zd7 : Nat) (zbP : Nat → List PV)
  (hsafe:IsE enc_40 4 4 (fun i=>enc_40 (w.Net.Ties.get i))∧((false,1,false,[none]):MQ)=(false,1,false,[none])∧(zkZ w=true)) (h:∀ X7:List (List PA)→St→Prop,(∀ (zaG:Int) (zam:Bool) (zaD:(Sl step)) (za7:Int) (iv7:Int) (hv7:(Sl Tab)) (zck:Int) (zal:Int) (kv7:Int) (zaU:(Sl (Sl Tab))) (zaw:(Sl step)),zoH K X5 X6 w zak zaG zam zaD za7 iv7 hv7 zck zal kv7 zaU zaw→X7 [] (zeN w zak zaG zam zaD.len (fun i=>zae (zaD.get i)) za7 iv7 hv7.len (fun i=>zad (hv7.get i)) zck zal kv7 zaU.len (fun i=>zay (zaU.get i)) zaw.len (fun i=>zae (zaw.get i))))→(∀ (y:step) (rest:List (List PA)) (zaG:Int) (zam:Bool) (zaD:(Sl step)) (za7:Int) (iv7:Int) (hv7:(Sl Tab)) (zck:Int) (zal:Int) (kv7:Int) (zaU:(Sl (Sl Tab))) (zaw:(Sl step)),zoI K X5 X6 X7 y rest w zak zaG zam zaD za7 iv7 hv7 zck zal kv7 zaU zaw→X7 ([.agg (zae y)] :: rest) (zeN w zak zaG zam zaD.len (fun i=>zae (zaD.get i)) za7 iv7 hv7.len (fun i=>zad (hv7.get i)) zck zal kv7 zaU.len (fun i=>zay (zaU.get i)) zaw.len (fun i=>zae (zaw.get i))))→X7 ((zhl w).map fun y=>[.agg (zae y)]) (zeN w zak zaG zam zd6 zbO za7 iv7 zoB zeV zck zal kv7 zfn zcl zd7 zbP)) :
  zkr K X5 X6 w zak zaG zam zd6 zbO za7 iv7 zoB zeV zck zal kv7 zfn zcl zd7 zbP:=by
  have e:zkr K X5 X6 w zak zaG zam zd6 zbO za7 iv7 zoB zeV zck zal kv7 zfn zcl zd7 zbP=((IsE enc_40 4 4 (fun i=>enc_40 (w.Net.Ties.get i))∧((false,1,false,[none]):MQ)=(false,1,false,[none])∧(zkZ w=true))∧∀ X:List (List PA)→St→Prop,(∀ s,(zaj 10 (zaj 9 (sqK Tryd.prog G89 zaK (cdF Tryd.f89 [1,0,1,1,1,1,1,1,0,1,0,0,1,1,0,0,1,1,1,1,0,1,0,0,1,1]) (zba Tryd.prog zaK 24 X6 (zaj 8 (sqK Tryd.prog G89 zaK (cdF Tryd.f89 [1,0,1,1,1,1,1,1,0,1,0,0,1,1,0,0,1,1,1,1,1]) (zaj 7 (sqK Tryd.prog G89 zaK (cdF Tryd.f89 [1,0,1,1,1,1,1,1,0,1,0,0,1,1,1]) (zba Tryd.prog zaK 18 X5 (zaj 6 (sqK Tryd.prog G89 zaK (cdF Tryd.f89 [1,0,1,1,1,1,1,1,1]) (zcb (za9 Tryd.prog Tryd.f89 K))))))))))))) .normal s→X [] s)→(∀ y rest s,ztK Tryd.prog G89 zaK 27 [88] (cd (cdF Tryd.f89 [1,0,1,1,1,1,1,1,0,1,0,0,1,1,0,0,1,1,1,1,0,1,0,0,1,0,0,1,0]) [0]) (cd (cdF Tryd.f89 [1,0,1,1,1,1,1,1,0,1,0,0,1,1,0,0,1,1,1,1,0,1,0,0,1,0,0,1,0]) [1]) X (zaj 10 (zaj 9 (sqK Tryd.prog G89 zaK (cdF Tryd.f89 [1,0,1,1,1,1,1,1,0,1,0,0,1,1,0,0,1,1,1,1,0,1,0,0,1,1]) (zba Tryd.prog zaK 24 X6 (zaj 8 (sqK Tryd.prog G89 zaK (cdF Tryd.f89 [1,0,1,1,1,1,1,1,0,1,0,0,1,1,0,0,1,1,1,1,1]) (zaj 7 (sqK Tryd.prog G89 zaK (cdF Tryd.f89 [1,0,1,1,1,1,1,1,0,1,0,0,1,1,1]) (zba Tryd.prog zaK 18 X5 (zaj 6 (sqK Tryd.prog G89 zaK (cdF Tryd.f89 [1,0,1,1,1,1,1,1,1]) (zcb (za9 Tryd.prog Tryd.f89 K))))))))))))) y rest s→X (y :: rest) s)→X ((zhl w).map fun y=>[.agg (zae y)]) (zeN w zak zaG zam zd6 zbO za7 iv7 zoB zeV zck zal kv7 zfn zcl zd7 zbP)):=by kernel_rfl
  refine zbd e ⟨hsafe,?_⟩
  intro X h0 h1
  refine h X (fun zaG zam zaD za7 iv7 hv7 zck zal kv7 zaU zaw hs=>h0 _ ?_) (fun y rest zaG zam zaD za7 iv7 hv7 zck zal kv7 zaU zaw hs=>h1 _ rest _ ?_)
  · rw [zqA K X5 X6 w zak zaG zam zaD za7 iv7 hv7 zck zal kv7 zaU zaw];exact hs
  · have e2 := zqB K X5 X6 X y rest w zak zaG zam zaD za7 iv7 hv7 zck zal kv7 zaU zaw
    rw [e2];exact hs
theorem zC5 (K : List PA → Prop) (X5 : St → Prop) (w : web) (zak : (Sl (Sl Tab))) (zcF : Int) (zbZ : Bool) (zdf : (Sl step)) (zel : Int) (zdL : Bool) (zdP : (Sl (Sl Tab))) (zdg : (Sl step)) :
  zks K X5 w zak zcF zbZ zdf.len (fun i=>zae (zdf.get i)) zel zdL zdP.len (fun i=>zay (zdP.get i)) zdg.len (fun i=>zae (zdg.get i)) =
  (zby zdL
 (X5 (zeM w zak zcF false zdg.len (fun i=>zae (zdg.get i)) (w64 (zel+(1:Int))) zdP.len (fun i=>zay (zdP.get i))))
 (X5 (zeM w zak zcF zbZ zdf.len (fun i=>zae (zdf.get i)) (w64 (zel+(1:Int))) zdP.len (fun i=>zay (zdP.get i))))):=by kernel_rfl
abbrev e89 (r:(Sl step)):List PA:=[.one (.sl r.len 5 (fun i=>zae (r.get i)))]
attribute [irreducible] zkk zmZ zkl zkn zko zkp zkq zkr zks
def zm2 (S5:Int→Bool→(Sl step)→Int→(Sl (Sl Tab))→(Sl step)) (w:web) (zak:(Sl (Sl Tab))) (zcF:Int) (zbZ:Bool) (zdf:(Sl step)) (zel:Int) (zdL:Bool) (zdP:(Sl (Sl Tab))) (zdg:(Sl step)):(Sl step) :=
  (cond zdL
 (S5 zcF false zdg (w64 (zel+(1:Int))) zdP)
 (S5 zcF zbZ zdf (w64 (zel+(1:Int))) zdP))
def zm3 (P5:Int→Bool→(Sl step)→Int→(Sl (Sl Tab))→Bool) (w:web) (zak:(Sl (Sl Tab))) (zcF:Int) (zbZ:Bool) (zdf:(Sl step)) (zel:Int) (zdL:Bool) (zdP:(Sl (Sl Tab))) (zdg:(Sl step)):Bool :=
  (cond zdL
 (P5 zcF false zdg (w64 (zel+(1:Int))) zdP)
 (P5 zcF zbZ zdf (w64 (zel+(1:Int))) zdP))
theorem zwi (K : List PA → Prop) (w : web) (zak : (Sl (Sl Tab)))
  (X5:St→Prop) (P5:Int→Bool→(Sl step)→Int→(Sl (Sl Tab))→Bool) (S5:Int→Bool→(Sl step)→Int→(Sl (Sl Tab))→(Sl step))
  (hX5:∀ (zaI:Int) (zax:Bool) (zaL:(Sl step)) (zaO:Int) (za8:(Sl (Sl Tab))) (zbe:Nat→List PV) (zd8:zbe=fun i=>zae (zaL.get i)) (zbz:Nat→List PV) (zfo:zbz=fun i=>zay (za8.get i)),P5 zaI zax zaL zaO za8=true→K (e89 (S5 zaI zax zaL zaO za8))→X5 (zeM w zak zaI zax zaL.len zbe zaO za8.len zbz)) (zcF:Int) (zbZ:Bool) (zdf:(Sl step)) (zel:Int) (zdL:Bool) (zdP:(Sl (Sl Tab))) (zdg:(Sl step)) (zfJ:Nat→List PV) (zz8:zfJ=fun i=>zae (zdf.get i)) (zhR:Nat→List PV) (zC6:zhR=fun i=>zay (zdP.get i)) (zfK:Nat→List PV) (zz9:zfK=fun i=>zae (zdg.get i)) (hs:zm3 P5 w zak zcF zbZ zdf zel zdL zdP zdg=true) (hk:K (e89 (zm2 S5 w zak zcF zbZ zdf zel zdL zdP zdg))):zks K X5 w zak zcF zbZ zdf.len zfJ zel zdL zdP.len zhR zdg.len zfK:=by
  subst zz8
  subst zC6
  subst zz9
  refine zbd (zC5 K X5 w zak zcF zbZ zdf zel zdL zdP zdg) ?_
  unfold zm3 at hs
  unfold zm2 at hk
  exact (zaN (K := fun r => K (e89 r))
 (fun hs hk=>(hX5 zcF false zdg (w64 (zel+(1:Int))) zdP (fun i=>zae (zdg.get i)) rfl (fun i=>zay (zdP.get i)) rfl hs hk))
 (fun hs hk=>(hX5 zcF zbZ zdf (w64 (zel+(1:Int))) zdP (fun i=>zae (zdf.get i)) rfl (fun i=>zay (zdP.get i)) rfl hs hk)) hs hk)
def zqC (S5:Int→Bool→(Sl step)→Int→(Sl (Sl Tab))→(Sl step)) (S6:Int→Bool→(Sl step)→Int→Int→(Sl Tab)→Int→Int→Int→(Sl (Sl Tab))→(Sl step)→(Sl step)) (w:web) (zak:(Sl (Sl Tab))) (zaG:Int) (zam:Bool) (zaD:(Sl step)) (za7:Int) (iv7:Int) (hv7:(Sl Tab)) (zck:Int) (zal:Int) (kv7:Int) (zaU:(Sl (Sl Tab))) (zaw:(Sl step)):(Sl step) :=
  (S6 zaG zam zaD za7 iv7 hv7 zck zal (w64 (kv7 - (1:Int))) zaU zaw)
def zqD (P5:Int→Bool→(Sl step)→Int→(Sl (Sl Tab))→Bool) (P6:Int→Bool→(Sl step)→Int→Int→(Sl Tab)→Int→Int→Int→(Sl (Sl Tab))→(Sl step)→Bool) (w:web) (zak:(Sl (Sl Tab))) (zaG:Int) (zam:Bool) (zaD:(Sl step)) (za7:Int) (iv7:Int) (hv7:(Sl Tab)) (zck:Int) (zal:Int) (kv7:Int) (zaU:(Sl (Sl Tab))) (zaw:(Sl step)):Bool :=
  (P6 zaG zam zaD za7 iv7 hv7 zck zal (w64 (kv7 - (1:Int))) zaU zaw)
def zqE (S5:Int→Bool→(Sl step)→Int→(Sl (Sl Tab))→(Sl step)) (S6:Int→Bool→(Sl step)→Int→Int→(Sl Tab)→Int→Int→Int→(Sl (Sl Tab))→(Sl step)→(Sl step)) (w:web) (zak:(Sl (Sl Tab))) (y7:step) (S7:Int→Bool→(Sl step)→Int→Int→(Sl Tab)→Int→Int→Int→(Sl (Sl Tab))→(Sl step)→(Sl step)) (zaG:Int) (zam:Bool) (zaD:(Sl step)) (za7:Int) (iv7:Int) (hv7:(Sl Tab)) (zck:Int) (zal:Int) (kv7:Int) (zaU:(Sl (Sl Tab))) (zaw:(Sl step)):(Sl step) :=
  (cond (y7.from_ == zck)
 (cond (decide (y7.to ≥ iv7))
 (cond (!(match ((tg 80 (hv7.get kv7.toNat) (0 + y7.to.toNat * 2 + 0)) == (1000000000000:Int)) with | true => (match ((tg 80 (hv7.get kv7.toNat) (0 + y7.to.toNat * 2 + 0 + 1)) == (0:Int)) with | true => true | false => false) | false => false))
 (cond (decide ((w64 ((w64 (zal + y7.length)) + (tg 80 (hv7.get kv7.toNat) (0 + y7.to.toNat * 2 + 0)))) < (0:Int)))
 (S6 zaG zam zaD za7 iv7 hv7 y7.to (w64 (zal+y7.length)) (w64 (kv7 - (1:Int))) zaU (⟨(zaw.len+1),(zlC zaw.len zaw.get (fun _=>y7))⟩:Sl step))
 (S7 zaG zam zaD za7 iv7 hv7 zck zal kv7 zaU zaw))
 (S7 zaG zam zaD za7 iv7 hv7 zck zal kv7 zaU zaw))
 (S7 zaG zam zaD za7 iv7 hv7 zck zal kv7 zaU zaw))
 (S7 zaG zam zaD za7 iv7 hv7 zck zal kv7 zaU zaw))
def zqF (P5:Int→Bool→(Sl step)→Int→(Sl (Sl Tab))→Bool) (P6:Int→Bool→(Sl step)→Int→Int→(Sl Tab)→Int→Int→Int→(Sl (Sl Tab))→(Sl step)→Bool) (w:web) (zak:(Sl (Sl Tab))) (y7:step) (P7:Int→Bool→(Sl step)→Int→Int→(Sl Tab)→Int→Int→Int→(Sl (Sl Tab))→(Sl step)→Bool) (zaG:Int) (zam:Bool) (zaD:(Sl step)) (za7:Int) (iv7:Int) (hv7:(Sl Tab)) (zck:Int) (zal:Int) (kv7:Int) (zaU:(Sl (Sl Tab))) (zaw:(Sl step)):Bool :=
  (cond (y7.from_ == zck)
 (cond (decide (y7.to ≥ iv7))
 (decide ((0≤kv7∧kv7 < (hv7.len:Int))) &&
 (decide ((0≤y7.to∧y7.to < (40:Int))) &&
 (cond (!(match ((tg 80 (hv7.get kv7.toNat) (0 + y7.to.toNat * 2 + 0)) == (1000000000000:Int)) with | true => (match ((tg 80 (hv7.get kv7.toNat) (0 + y7.to.toNat * 2 + 0 + 1)) == (0:Int)) with | true => true | false => false) | false => false))
 (decide ((0≤kv7∧kv7 < (hv7.len:Int))) &&
 (decide ((0≤y7.to∧y7.to < (40:Int))) &&
 (cond (decide ((w64 ((w64 (zal + y7.length)) + (tg 80 (hv7.get kv7.toNat) (0 + y7.to.toNat * 2 + 0)))) < (0:Int)))
 (decide (((zaw.len+1) * 40≤140737488355328∧zaw.len+1≤9223372036854775807)) &&
 (P6 zaG zam zaD za7 iv7 hv7 y7.to (w64 (zal+y7.length)) (w64 (kv7 - (1:Int))) zaU (⟨(zaw.len+1),(zlC zaw.len zaw.get (fun _=>y7))⟩:Sl step)))
 (P7 zaG zam zaD za7 iv7 hv7 zck zal kv7 zaU zaw))))
 (P7 zaG zam zaD za7 iv7 hv7 zck zal kv7 zaU zaw))))
 (P7 zaG zam zaD za7 iv7 hv7 zck zal kv7 zaU zaw))
 (P7 zaG zam zaD za7 iv7 hv7 zck zal kv7 zaU zaw))
def zkt (S5 : Int → Bool → (Sl step) → Int → (Sl (Sl Tab)) → (Sl step)) (S6 : Int → Bool → (Sl step) → Int → Int → (Sl Tab) → Int → Int → Int → (Sl (Sl Tab)) → (Sl step) → (Sl step)) (w : web) (zak : (Sl (Sl Tab))) : List step → Int → Bool → (Sl step) → Int → Int → (Sl Tab) → Int → Int → Int → (Sl (Sl Tab)) → (Sl step) → (Sl step)
  | []=>zqC S5 S6 w zak
  | y :: r=>zqE S5 S6 w zak y (zkt S5 S6 w zak r)
def zku (P5 : Int → Bool → (Sl step) → Int → (Sl (Sl Tab)) → Bool) (P6 : Int → Bool → (Sl step) → Int → Int → (Sl Tab) → Int → Int → Int → (Sl (Sl Tab)) → (Sl step) → Bool) (w : web) (zak : (Sl (Sl Tab))) : List step → Int → Bool → (Sl step) → Int → Int → (Sl Tab) → Int → Int → Int → (Sl (Sl Tab)) → (Sl step) → Bool
  | []=>zqD P5 P6 w zak
  | y :: r=>zqF P5 P6 w zak y (zku P5 P6 w zak r)
def zwj (S5:Int→Bool→(Sl step)→Int→(Sl (Sl Tab))→(Sl step)) (S6:Int→Bool→(Sl step)→Int→Int→(Sl Tab)→Int→Int→Int→(Sl (Sl Tab))→(Sl step)→(Sl step)) (w:web) (zak:(Sl (Sl Tab))) (zaG:Int) (zam:Bool) (zaD:(Sl step)) (za7:Int) (iv7:Int) (hv7:(Sl Tab)) (zck:Int) (zal:Int) (kv7:Int) (zaU:(Sl (Sl Tab))) (zaw:(Sl step)):(Sl step):=zkt S5 S6 w zak (zhl w) zaG zam zaD za7 iv7 hv7 zck zal kv7 zaU zaw
def zqG (P5:Int→Bool→(Sl step)→Int→(Sl (Sl Tab))→Bool) (P6:Int→Bool→(Sl step)→Int→Int→(Sl Tab)→Int→Int→Int→(Sl (Sl Tab))→(Sl step)→Bool) (w:web) (zak:(Sl (Sl Tab))) (zaG:Int) (zam:Bool) (zaD:(Sl step)) (za7:Int) (iv7:Int) (hv7:(Sl Tab)) (zck:Int) (zal:Int) (kv7:Int) (zaU:(Sl (Sl Tab))) (zaw:(Sl step)):Bool:=decide ((zkZ w=true)) && zku P5 P6 w zak (zhl w) zaG zam zaD za7 iv7 hv7 zck zal kv7 zaU zaw
theorem zC7 (K : List PA → Prop) (w : web) (zak : (Sl (Sl Tab)))
  (X5:St→Prop) (P5:Int→Bool→(Sl step)→Int→(Sl (Sl Tab))→Bool) (S5:Int→Bool→(Sl step)→Int→(Sl (Sl Tab))→(Sl step))
  (hX5:∀ (zaI:Int) (zax:Bool) (zaL:(Sl step)) (zaO:Int) (za8:(Sl (Sl Tab))) (zbe:Nat→List PV) (zd8:zbe=fun i=>zae (zaL.get i)) (zbz:Nat→List PV) (zfo:zbz=fun i=>zay (za8.get i)),P5 zaI zax zaL zaO za8=true→K (e89 (S5 zaI zax zaL zaO za8))→X5 (zeM w zak zaI zax zaL.len zbe zaO za8.len zbz))
  (X6:St→Prop) (P6:Int→Bool→(Sl step)→Int→Int→(Sl Tab)→Int→Int→Int→(Sl (Sl Tab))→(Sl step)→Bool) (S6:Int→Bool→(Sl step)→Int→Int→(Sl Tab)→Int→Int→Int→(Sl (Sl Tab))→(Sl step)→(Sl step))
  (hX6:∀ (zaY:Int) (zav:Bool) (zaJ:(Sl step)) (zbD:Int) (iv6:Int) (hv6:(Sl Tab)) (zdM:Int) (zaF:Int) (kv6:Int) (zbv:(Sl (Sl Tab))) (zaM:(Sl step)) (zbC:Nat→List PV) (zfL:zbC=fun i=>zae (zaJ.get i)) (zeb:Nat→List PV) (ztB:zeb=fun i=>zad (hv6.get i)) (zbX:Nat→List PV) (zhS:zbX=fun i=>zay (zbv.get i)) (zbE:Nat→List PV) (zfM:zbE=fun i=>zae (zaM.get i)),P6 zaY zav zaJ zbD iv6 hv6 zdM zaF kv6 zbv zaM=true→K (e89 (S6 zaY zav zaJ zbD iv6 hv6 zdM zaF kv6 zbv zaM))→X6 (zhc w zak zaY zav zaJ.len zbC zbD iv6 hv6.len zeb zdM zaF kv6 zbv.len zbX zaM.len zbE)) (zaG:Int) (zam:Bool) (zaD:(Sl step)) (za7:Int) (iv7:Int) (hv7:(Sl Tab)) (zck:Int) (zal:Int) (kv7:Int) (zaU:(Sl (Sl Tab))) (zaw:(Sl step)) (zbO:Nat→List PV) (zfN:zbO=fun i=>zae (zaD.get i)) (zeV:Nat→List PV) (ztC:zeV=fun i=>zad (hv7.get i)) (zcl:Nat→List PV) (zhT:zcl=fun i=>zay (zaU.get i)) (zbP:Nat→List PV) (zfO:zbP=fun i=>zae (zaw.get i)) (hs:zqG P5 P6 w zak zaG zam zaD za7 iv7 hv7 zck zal kv7 zaU zaw=true) (hk:K (e89 (zwj S5 S6 w zak zaG zam zaD za7 iv7 hv7 zck zal kv7 zaU zaw))):zkr K X5 X6 w zak zaG zam zaD.len zbO za7 iv7 hv7.len zeV zck zal kv7 zaU.len zcl zaw.len zbP:=by
  unfold zqG at hs
  rw [Bool.and_eq_true] at hs
  obtain ⟨hsf,hs⟩:=hs
  have hc:=of_decide_eq_true hsf
  refine zwh K X5 X6 w zak zaG zam zaD.len zbO za7 iv7 hv7.len zeV zck zal kv7 zaU.len zcl zaw.len zbP ⟨isE,rfl,hc⟩ ?_
  intro X7 hexit hstep
  have key:∀ (l:List step) (zaG:Int) (zam:Bool) (zaD:(Sl step)) (za7:Int) (iv7:Int) (hv7:(Sl Tab)) (zck:Int) (zal:Int) (kv7:Int) (zaU:(Sl (Sl Tab))) (zaw:(Sl step)) (zbO:Nat→List PV) (zfN:zbO=fun i=>zae (zaD.get i)) (zeV:Nat→List PV) (ztC:zeV=fun i=>zad (hv7.get i)) (zcl:Nat→List PV) (zhT:zcl=fun i=>zay (zaU.get i)) (zbP:Nat→List PV) (zfO:zbP=fun i=>zae (zaw.get i)),zku P5 P6 w zak l zaG zam zaD za7 iv7 hv7 zck zal kv7 zaU zaw=true→K (e89 (zkt S5 S6 w zak l zaG zam zaD za7 iv7 hv7 zck zal kv7 zaU zaw))→X7 (l.map fun y=>[.agg (zae y)]) (zeN w zak zaG zam zaD.len zbO za7 iv7 hv7.len zeV zck zal kv7 zaU.len zcl zaw.len zbP):=by
    intro l
    induction l with
    | nil =>
      intro zaG zam zaD za7 iv7 hv7 zck zal kv7 zaU zaw zbO zfN zeV ztC zcl zhT zbP zfO hs hk
      subst zfN
      subst ztC
      subst zhT
      subst zfO
      refine hexit zaG zam zaD za7 iv7 hv7 zck zal kv7 zaU zaw ?_
      have hs:zqD P5 P6 w zak zaG zam zaD za7 iv7 hv7 zck zal kv7 zaU zaw=true:=hs
      have hk:K (e89 (zqC S5 S6 w zak zaG zam zaD za7 iv7 hv7 zck zal kv7 zaU zaw)):=hk
      unfold zqD at hs
      unfold zqC at hk
      exact (hX6 zaG zam zaD za7 iv7 hv7 zck zal (w64 (kv7 - (1:Int))) zaU zaw (fun i=>zae (zaD.get i)) rfl (fun i=>zad (hv7.get i)) rfl (fun i=>zay (zaU.get i)) rfl (fun i=>zae (zaw.get i)) rfl hs hk)
    | cons y7 l ih =>
      intro zaG zam zaD za7 iv7 hv7 zck zal kv7 zaU zaw zbO zfN zeV ztC zcl zhT zbP zfO hs hk
      subst zfN
      subst ztC
      subst zhT
      subst zfO
      refine hstep y7 _ zaG zam zaD za7 iv7 hv7 zck zal kv7 zaU zaw ?_
      have hs:zqF P5 P6 w zak y7 (zku P5 P6 w zak l) zaG zam zaD za7 iv7 hv7 zck zal kv7 zaU zaw=true:=hs
      have hk:K (e89 (zqE S5 S6 w zak y7 (zkt S5 S6 w zak l) zaG zam zaD za7 iv7 hv7 zck zal kv7 zaU zaw)):=hk
      unfold zqF at hs
      unfold zqE at hk
      generalize zkt S5 S6 w zak l=S7 at hk ih
      generalize zku P5 P6 w zak l=P7 at hs ih
      have hX7:=ih
      exact (zaN (K := fun r => K (e89 r))
 (fun hs hk => (zaN (K := fun r => K (e89 r))
 (fun hs hk => (za0 hs fun hc hs => ⟨hc, (za0 hs fun hc hs => ⟨hc, (zaN (K := fun r => K (e89 r))
 (fun hs hk => (za0 hs fun hc hs => ⟨hc, (za0 hs fun hc hs => ⟨hc, (zaN (K := fun r => K (e89 r))
 (fun hs hk=>(za0 hs fun hc hs=>⟨hc,(hX6 zaG zam zaD za7 iv7 hv7 y7.to (w64 (zal+y7.length)) (w64 (kv7 - (1:Int))) zaU (⟨(zaw.len+1),(zlC zaw.len zaw.get (fun _=>y7))⟩:Sl step) (fun i=>zae (zaD.get i)) rfl (fun i=>zad (hv7.get i)) rfl (fun i=>zay (zaU.get i)) rfl (appG zaw.len (fun i=>zae (zaw.get i)) (fun _=>(zae y7))) (zlD (enc:=zae) (f:=zaw.get) (h:=(fun _=>y7)) rfl rfl) hs hk)⟩))
 (fun hs hk=>(hX7 zaG zam zaD za7 iv7 hv7 zck zal kv7 zaU zaw (fun i=>zae (zaD.get i)) rfl (fun i=>zad (hv7.get i)) rfl (fun i=>zay (zaU.get i)) rfl (fun i=>zae (zaw.get i)) rfl hs hk)) hs hk)⟩)⟩))
 (fun hs hk=>(hX7 zaG zam zaD za7 iv7 hv7 zck zal kv7 zaU zaw (fun i=>zae (zaD.get i)) rfl (fun i=>zad (hv7.get i)) rfl (fun i=>zay (zaU.get i)) rfl (fun i=>zae (zaw.get i)) rfl hs hk)) hs hk)⟩)⟩))
 (fun hs hk=>(hX7 zaG zam zaD za7 iv7 hv7 zck zal kv7 zaU zaw (fun i=>zae (zaD.get i)) rfl (fun i=>zad (hv7.get i)) rfl (fun i=>zay (zaU.get i)) rfl (fun i=>zae (zaw.get i)) rfl hs hk)) hs hk))
 (fun hs hk=>(hX7 zaG zam zaD za7 iv7 hv7 zck zal kv7 zaU zaw (fun i=>zae (zaD.get i)) rfl (fun i=>zad (hv7.get i)) rfl (fun i=>zay (zaU.get i)) rfl (fun i=>zae (zaw.get i)) rfl hs hk)) hs hk)
  exact key _ zaG zam zaD za7 iv7 hv7 zck zal kv7 zaU zaw zbO zfN zeV ztC zcl zhT zbP zfO hs hk
def zqH (S5:Int→Bool→(Sl step)→Int→(Sl (Sl Tab))→(Sl step)) (w:web) (zak:(Sl (Sl Tab))) (S6:Int→Bool→(Sl step)→Int→Int→(Sl Tab)→Int→Int→Int→(Sl (Sl Tab))→(Sl step)→(Sl step)) (zaY:Int) (zav:Bool) (zaJ:(Sl step)) (zbD:Int) (iv6:Int) (hv6:(Sl Tab)) (zdM:Int) (zaF:Int) (kv6:Int) (zbv:(Sl (Sl Tab))) (zaM:(Sl step)):(Sl step) :=
  (cond (decide (kv6 ≥ (0:Int)))
 (zwj S5 S6 w zak zaY zav zaJ zbD iv6 hv6 zdM zaF kv6 zbv zaM)
 (cond zav
 (zm2 S5 w zak zaY zav zaJ zbD true zbv zaM)
 (zm2 S5 w zak zaY zav zaJ zbD (decide ((zEW zaM zaJ) < (0:Int))) zbv zaM)))
def zqI (P5:Int→Bool→(Sl step)→Int→(Sl (Sl Tab))→Bool) (w:web) (zak:(Sl (Sl Tab))) (P6:Int→Bool→(Sl step)→Int→Int→(Sl Tab)→Int→Int→Int→(Sl (Sl Tab))→(Sl step)→Bool) (zaY:Int) (zav:Bool) (zaJ:(Sl step)) (zbD:Int) (iv6:Int) (hv6:(Sl Tab)) (zdM:Int) (zaF:Int) (kv6:Int) (zbv:(Sl (Sl Tab))) (zaM:(Sl step)):Bool :=
  (cond (decide (kv6 ≥ (0:Int)))
 (zqG P5 P6 w zak zaY zav zaJ zbD iv6 hv6 zdM zaF kv6 zbv zaM)
 (decide ((zav=true∨zaJ.len ≠ 0)) &&
 (cond zav
 (zm3 P5 w zak zaY zav zaJ zbD true zbv zaM)
 (decide ((zHM zaM zaJ=true)) &&
 (zm3 P5 w zak zaY zav zaJ zbD (decide ((zEW zaM zaJ) < (0:Int))) zbv zaM)))))
def zkv (S5 : Int → Bool → (Sl step) → Int → (Sl (Sl Tab)) → (Sl step)) (w : web) (zak : (Sl (Sl Tab))) : Nat → Int → Bool → (Sl step) → Int → Int → (Sl Tab) → Int → Int → Int → (Sl (Sl Tab)) → (Sl step) → (Sl step)
  | 0=>fun _ _ _ _ _ _ _ _ _ _ _=>default
  | k+1=>zqH S5 w zak (zkv S5 w zak k)
def zkw (P5 : Int → Bool → (Sl step) → Int → (Sl (Sl Tab)) → Bool) (w : web) (zak : (Sl (Sl Tab))) : Nat → Int → Bool → (Sl step) → Int → Int → (Sl Tab) → Int → Int → Int → (Sl (Sl Tab)) → (Sl step) → Bool
  | 0=>fun _ _ _ _ _ _ _ _ _ _ _=>false
  | k+1=>zqI P5 w zak (zkw P5 w zak k)
def zwk (S5:Int→Bool→(Sl step)→Int→(Sl (Sl Tab))→(Sl step)) (w:web) (zak:(Sl (Sl Tab))) (zaY:Int) (zav:Bool) (zaJ:(Sl step)) (zbD:Int) (iv6:Int) (hv6:(Sl Tab)) (zdM:Int) (zaF:Int) (kv6:Int) (zbv:(Sl (Sl Tab))) (zaM:(Sl step)):(Sl step):=zkv S5 w zak Fuel zaY zav zaJ zbD iv6 hv6 zdM zaF kv6 zbv zaM
def zwl (P5:Int→Bool→(Sl step)→Int→(Sl (Sl Tab))→Bool) (w:web) (zak:(Sl (Sl Tab))) (zaY:Int) (zav:Bool) (zaJ:(Sl step)) (zbD:Int) (iv6:Int) (hv6:(Sl Tab)) (zdM:Int) (zaF:Int) (kv6:Int) (zbv:(Sl (Sl Tab))) (zaM:(Sl step)):Bool:=zkw P5 w zak Fuel zaY zav zaJ zbD iv6 hv6 zdM zaF kv6 zbv zaM
theorem zC8 (K : List PA → Prop) (w : web) (zak : (Sl (Sl Tab)))
  (X5:St→Prop) (P5:Int→Bool→(Sl step)→Int→(Sl (Sl Tab))→Bool) (S5:Int→Bool→(Sl step)→Int→(Sl (Sl Tab))→(Sl step))
  (hX5:∀ (zaI:Int) (zax:Bool) (zaL:(Sl step)) (zaO:Int) (za8:(Sl (Sl Tab))) (zbe:Nat→List PV) (zd8:zbe=fun i=>zae (zaL.get i)) (zbz:Nat→List PV) (zfo:zbz=fun i=>zay (za8.get i)),P5 zaI zax zaL zaO za8=true→K (e89 (S5 zaI zax zaL zaO za8))→X5 (zeM w zak zaI zax zaL.len zbe zaO za8.len zbz)) (zaY:Int) (zav:Bool) (zaJ:(Sl step)) (zbD:Int) (iv6:Int) (hv6:(Sl Tab)) (zdM:Int) (zaF:Int) (kv6:Int) (zbv:(Sl (Sl Tab))) (zaM:(Sl step)) (zbC:Nat→List PV) (zfL:zbC=fun i=>zae (zaJ.get i)) (zeb:Nat→List PV) (ztB:zeb=fun i=>zad (hv6.get i)) (zbX:Nat→List PV) (zhS:zbX=fun i=>zay (zbv.get i)) (zbE:Nat→List PV) (zfM:zbE=fun i=>zae (zaM.get i)) (hs:zwl P5 w zak zaY zav zaJ zbD iv6 hv6 zdM zaF kv6 zbv zaM=true) (hk:K (e89 (zwk S5 w zak zaY zav zaJ zbD iv6 hv6 zdM zaF kv6 zbv zaM))):zkq K X5 w zak zaY zav zaJ.len zbC zbD iv6 hv6.len zeb zdM zaF kv6 zbv.len zbX zaM.len zbE:=by
  refine zwg K X5 w zak zaY zav zaJ.len zbC zbD iv6 hv6.len zeb zdM zaF kv6 zbv.len zbX zaM.len zbE ?_
  intro X6 hstep
  have key:∀ (k:Nat) (zaY:Int) (zav:Bool) (zaJ:(Sl step)) (zbD:Int) (iv6:Int) (hv6:(Sl Tab)) (zdM:Int) (zaF:Int) (kv6:Int) (zbv:(Sl (Sl Tab))) (zaM:(Sl step)) (zbC:Nat→List PV) (zfL:zbC=fun i=>zae (zaJ.get i)) (zeb:Nat→List PV) (ztB:zeb=fun i=>zad (hv6.get i)) (zbX:Nat→List PV) (zhS:zbX=fun i=>zay (zbv.get i)) (zbE:Nat→List PV) (zfM:zbE=fun i=>zae (zaM.get i)),zkw P5 w zak k zaY zav zaJ zbD iv6 hv6 zdM zaF kv6 zbv zaM=true→K (e89 (zkv S5 w zak k zaY zav zaJ zbD iv6 hv6 zdM zaF kv6 zbv zaM))→X6 (zhc w zak zaY zav zaJ.len zbC zbD iv6 hv6.len zeb zdM zaF kv6 zbv.len zbX zaM.len zbE):=by
    intro k
    induction k with
    | zero=>intro zaY zav zaJ zbD iv6 hv6 zdM zaF kv6 zbv zaM zbC zfL zeb ztB zbX zhS zbE zfM hs;exact absurd hs Bool.false_ne_true
    | succ k ih =>
      intro zaY zav zaJ zbD iv6 hv6 zdM zaF kv6 zbv zaM zbC zfL zeb ztB zbX zhS zbE zfM hs hk
      subst zfL
      subst ztB
      subst zhS
      subst zfM
      refine hstep zaY zav zaJ zbD iv6 hv6 zdM zaF kv6 zbv zaM ?_
      have hs:zqI P5 w zak (zkw P5 w zak k) zaY zav zaJ zbD iv6 hv6 zdM zaF kv6 zbv zaM=true:=hs
      have hk:K (e89 (zqH S5 w zak (zkv S5 w zak k) zaY zav zaJ zbD iv6 hv6 zdM zaF kv6 zbv zaM)):=hk
      unfold zqI at hs
      unfold zqH at hk
      generalize zkv S5 w zak k=S6 at hk ih
      generalize zkw P5 w zak k=P6 at hs ih
      have hX6:=ih
      exact (zaN (K := fun r => K (e89 r))
 (fun hs hk=>⟨⟨isE,rfl⟩,(zC7 K w zak X5 P5 S5 hX5 X6 P6 S6 hX6 zaY zav zaJ zbD iv6 hv6 zdM zaF kv6 zbv zaM (fun i=>zae (zaJ.get i)) rfl (fun i=>zad (hv6.get i)) rfl (fun i=>zay (zbv.get i)) rfl (fun i=>zae (zaM.get i)) rfl hs hk)⟩)
 (fun hs hk => (za0 hs fun hc hs => ⟨hc, (zaN (K := fun r => K (e89 r))
 (fun hs hk=>(zwi K w zak X5 P5 S5 hX5 zaY zav zaJ zbD true zbv zaM (fun i=>zae (zaJ.get i)) rfl (fun i=>zay (zbv.get i)) rfl (fun i=>zae (zaM.get i)) rfl hs hk))
 (fun hs hk=>(za0 hs fun hc hs=>⟨⟨isE,isE,hc⟩,(zwi K w zak X5 P5 S5 hX5 zaY zav zaJ zbD (decide ((zEW zaM zaJ) < (0:Int))) zbv zaM (fun i=>zae (zaJ.get i)) rfl (fun i=>zay (zbv.get i)) rfl (fun i=>zae (zaM.get i)) rfl hs hk)⟩)) hs hk)⟩)) hs hk)
  exact key _ zaY zav zaJ zbD iv6 hv6 zdM zaF kv6 zbv zaM zbC zfL zeb ztB zbX zhS zbE zfM hs hk
def zqJ (w:web) (zak:(Sl (Sl Tab))) (S5:Int→Bool→(Sl step)→Int→(Sl (Sl Tab))→(Sl step)) (zaI:Int) (zax:Bool) (zaL:(Sl step)) (zaO:Int) (za8:(Sl (Sl Tab))):(Sl step) :=
  (cond (decide (zaO < (zak.len : Int)))
 (cond (decide ((tg 80 ((za8.get zaO.toNat).get zaI.toNat) (0 + zaO.toNat * 2 + 0)) ≥ (0:Int)))
 (S5 zaI zax zaL (w64 (zaO+(1:Int))) za8)
 (zwk S5 w zak zaI zax zaL zaO zaO (za8.get zaO.toNat) zaO (0:Int) (w64 (zaI - (1:Int))) za8 (⟨0,(fun _=>default)⟩:Sl step)))
 zaL)
def zqK (w:web) (zak:(Sl (Sl Tab))) (P5:Int→Bool→(Sl step)→Int→(Sl (Sl Tab))→Bool) (zaI:Int) (zax:Bool) (zaL:(Sl step)) (zaO:Int) (za8:(Sl (Sl Tab))):Bool :=
  (cond (decide (zaO < (zak.len : Int)))
 (decide ((0≤zaO∧zaO < (za8.len:Int))) &&
 (decide ((zaO.toNat < za8.len)) &&
 (decide ((0≤zaI∧zaI < ((za8.get zaO.toNat).len:Int))) &&
 (decide ((0≤zaO∧zaO < (40:Int))) &&
 (cond (decide ((tg 80 ((za8.get zaO.toNat).get zaI.toNat) (0 + zaO.toNat * 2 + 0)) ≥ (0:Int)))
 (P5 zaI zax zaL (w64 (zaO+(1:Int))) za8)
 (zwl P5 w zak zaI zax zaL zaO zaO (za8.get zaO.toNat) zaO (0:Int) (w64 (zaI - (1:Int))) za8 (⟨0,(fun _=>default)⟩:Sl step)))))))
 true)
def zkx (w : web) (zak : (Sl (Sl Tab))) : Nat → Int → Bool → (Sl step) → Int → (Sl (Sl Tab)) → (Sl step)
  | 0=>fun _ _ _ _ _=>default
  | k+1=>zqJ w zak (zkx w zak k)
def zky (w : web) (zak : (Sl (Sl Tab))) : Nat → Int → Bool → (Sl step) → Int → (Sl (Sl Tab)) → Bool
  | 0=>fun _ _ _ _ _=>false
  | k+1=>zqK w zak (zky w zak k)
def zwm (w:web) (zak:(Sl (Sl Tab))) (zaI:Int) (zax:Bool) (zaL:(Sl step)) (zaO:Int) (za8:(Sl (Sl Tab))):(Sl step):=zkx w zak Fuel zaI zax zaL zaO za8
def zwn (w:web) (zak:(Sl (Sl Tab))) (zaI:Int) (zax:Bool) (zaL:(Sl step)) (zaO:Int) (za8:(Sl (Sl Tab))):Bool:=zky w zak Fuel zaI zax zaL zaO za8
theorem zC9 (K:List PA→Prop) (w:web) (zak:(Sl (Sl Tab))) (zaI:Int) (zax:Bool) (zaL:(Sl step)) (zaO:Int) (za8:(Sl (Sl Tab))) (zbe:Nat→List PV) (zd8:zbe=fun i=>zae (zaL.get i)) (zbz:Nat→List PV) (zfo:zbz=fun i=>zay (za8.get i)) (hs:zwn w zak zaI zax zaL zaO za8=true) (hk:K (e89 (zwm w zak zaI zax zaL zaO za8))):zkp K w zak zaI zax zaL.len zbe zaO za8.len zbz:=by
  refine zwf K w zak zaI zax zaL.len zbe zaO za8.len zbz ?_
  intro X5 hstep
  have key:∀ (k:Nat) (zaI:Int) (zax:Bool) (zaL:(Sl step)) (zaO:Int) (za8:(Sl (Sl Tab))) (zbe:Nat→List PV) (zd8:zbe=fun i=>zae (zaL.get i)) (zbz:Nat→List PV) (zfo:zbz=fun i=>zay (za8.get i)),zky w zak k zaI zax zaL zaO za8=true→K (e89 (zkx w zak k zaI zax zaL zaO za8))→X5 (zeM w zak zaI zax zaL.len zbe zaO za8.len zbz):=by
    intro k
    induction k with
    | zero=>intro zaI zax zaL zaO za8 zbe zd8 zbz zfo hs;exact absurd hs Bool.false_ne_true
    | succ k ih =>
      intro zaI zax zaL zaO za8 zbe zd8 zbz zfo hs hk
      subst zd8
      subst zfo
      refine hstep zaI zax zaL zaO za8 ?_
      have hs:zqK w zak (zky w zak k) zaI zax zaL zaO za8=true:=hs
      have hk:K (e89 (zqJ w zak (zkx w zak k) zaI zax zaL zaO za8)):=hk
      unfold zqK at hs
      unfold zqJ at hk
      generalize zkx w zak k=S5 at hk ih
      generalize zky w zak k=P5 at hs ih
      have hX5:=ih
      exact (zaN (K := fun r => K (e89 r))
 (fun hs hk => (za0 hs fun hc hs => ⟨hc, (za0 hs fun hc hs => ⟨hc, (za0 hs fun hc hs => ⟨hc, (za0 hs fun hc hs => ⟨hc, (zaN (K := fun r => K (e89 r))
 (fun hs hk=>(hX5 zaI zax zaL (w64 (zaO+(1:Int))) za8 (fun i=>zae (zaL.get i)) rfl (fun i=>zay (za8.get i)) rfl hs hk))
 (fun hs hk=>(zC8 K w zak X5 P5 S5 hX5 zaI zax zaL zaO zaO (za8.get zaO.toNat) zaO (0:Int) (w64 (zaI - (1:Int))) za8 (⟨0,(fun _=>default)⟩:Sl step) (fun i=>zae (zaL.get i)) rfl (fun i=>zad ((za8.get zaO.toNat).get i)) rfl (fun i=>zay (za8.get i)) rfl (fun i=>zae ((fun _=>default) i)) rfl hs hk)) hs hk)⟩)⟩)⟩)⟩))
 (fun hs hk=>hk) hs hk)
  exact key _ zaI zax zaL zaO za8 zbe zd8 zbz zfo hs hk
def zm4 (w:web) (zde:Int) (zak:(Sl (Sl Tab))):(Sl step) :=
  (zwm w zak zde true (⟨0,(fun _=>default)⟩:Sl step) (0:Int) zak)
def zm5 (w:web) (zde:Int) (zak:(Sl (Sl Tab))):Bool :=
  (zwn w zak zde true (⟨0,(fun _=>default)⟩:Sl step) (0:Int) zak)
theorem zwo (K:List PA→Prop) (w:web) (zde:Int) (zak:(Sl (Sl Tab))) (zhQ:Nat→List PV) (zDa:zhQ=fun i=>zay (zak.get i)) (hs:zm5 w zde zak=true) (hk:K (e89 (zm4 w zde zak))):zko K w zde zak.len zhQ:=by
  subst zDa
  refine zbd (zC4 K w zde zak) ?_
  unfold zm5 at hs
  unfold zm4 at hk
  exact (zC9 K w zak zde true (⟨0,(fun _=>default)⟩:Sl step) (0:Int) zak (fun i=>zae ((fun _=>default) i)) rfl (fun i=>zay (zak.get i)) rfl hs hk)
def zqL (S2:Int→(Sl step)) (w:web) (zaC:(Sl (Sl Tab))) (S3:Int→Int→(Sl step)) (zaT:Int) (zbo:Int):(Sl step) :=
  (cond (decide (zbo < (zaC.len : Int)))
 (cond (decide ((tg 80 ((zaC.get zbo.toNat).get zaT.toNat) (0 + zbo.toNat * 2 + 0)) < (0:Int)))
 (zm4 w zaT zaC)
 (S3 zaT (w64 (zbo+(1:Int)))))
 (S2 (w64 (zaT+(1:Int)))))
def zqM (P2:Int→Bool) (w:web) (zaC:(Sl (Sl Tab))) (P3:Int→Int→Bool) (zaT:Int) (zbo:Int):Bool :=
  (cond (decide (zbo < (zaC.len : Int)))
 (decide ((0≤zbo∧zbo < (zaC.len:Int))) &&
 (decide ((zbo.toNat < zaC.len)) &&
 (decide ((0≤zaT∧zaT < ((zaC.get zbo.toNat).len:Int))) &&
 (decide ((0≤zbo∧zbo < (40:Int))) &&
 (cond (decide ((tg 80 ((zaC.get zbo.toNat).get zaT.toNat) (0 + zbo.toNat * 2 + 0)) < (0:Int)))
 (zm5 w zaT zaC)
 (P3 zaT (w64 (zbo+(1:Int)))))))))
 (P2 (w64 (zaT+(1:Int)))))
def zkz (S2 : Int → (Sl step)) (w : web) (zaC : (Sl (Sl Tab))) : Nat → Int → Int → (Sl step)
  | 0=>fun _ _=>default
  | k+1=>zqL S2 w zaC (zkz S2 w zaC k)
def zkA (P2 : Int → Bool) (w : web) (zaC : (Sl (Sl Tab))) : Nat → Int → Int → Bool
  | 0=>fun _ _=>false
  | k+1=>zqM P2 w zaC (zkA P2 w zaC k)
def zwp (S2:Int→(Sl step)) (w:web) (zaC:(Sl (Sl Tab))) (zaT:Int) (zbo:Int):(Sl step):=zkz S2 w zaC Fuel zaT zbo
def zwq (P2:Int→Bool) (w:web) (zaC:(Sl (Sl Tab))) (zaT:Int) (zbo:Int):Bool:=zkA P2 w zaC Fuel zaT zbo
theorem zDb (K : List PA → Prop) (w : web) (zaC : (Sl (Sl Tab)))
  (X2:St→Prop) (P2:Int→Bool) (S2:Int→(Sl step))
  (hX2:∀ (za1:Int),P2 za1=true→K (e89 (S2 za1))→X2 (zis w zaC za1)) (zaT:Int) (zbo:Int) (hs:zwq P2 w zaC zaT zbo=true) (hk:K (e89 (zwp S2 w zaC zaT zbo))):zkn K X2 w zaC zaT zbo:=by
  refine zwe K X2 w zaC zaT zbo ?_
  intro X3 hstep
  have key:∀ (k:Nat) (zaT:Int) (zbo:Int),zkA P2 w zaC k zaT zbo=true→K (e89 (zkz S2 w zaC k zaT zbo))→X3 (zkm w zaC zaT zbo):=by
    intro k
    induction k with
    | zero=>intro zaT zbo hs;exact absurd hs Bool.false_ne_true
    | succ k ih =>
      intro zaT zbo hs hk
      refine hstep zaT zbo ?_
      have hs:zqM P2 w zaC (zkA P2 w zaC k) zaT zbo=true:=hs
      have hk:K (e89 (zqL S2 w zaC (zkz S2 w zaC k) zaT zbo)):=hk
      unfold zqM at hs
      unfold zqL at hk
      generalize zkz S2 w zaC k=S3 at hk ih
      generalize zkA P2 w zaC k=P3 at hs ih
      have hX3:=ih
      exact (zaN (K := fun r => K (e89 r))
 (fun hs hk => (za0 hs fun hc hs => ⟨hc, (za0 hs fun hc hs => ⟨hc, (za0 hs fun hc hs => ⟨hc, (za0 hs fun hc hs => ⟨hc, (zaN (K := fun r => K (e89 r))
 (fun hs hk=>(zwo K w zaT zaC (fun i=>zay (zaC.get i)) rfl hs hk))
 (fun hs hk=>(hX3 zaT (w64 (zbo+(1:Int))) hs hk)) hs hk)⟩)⟩)⟩)⟩))
 (fun hs hk=>(hX2 (w64 (zaT+(1:Int))) hs hk)) hs hk)
  exact key _ zaT zbo hs hk
def zqN (w:web) (zaC:(Sl (Sl Tab))) (S2:Int→(Sl step)) (za1:Int):(Sl step) :=
  (cond (decide (za1 < w.Net.Nodes))
 (zwp S2 w zaC za1 (0:Int))
 (zm4 w za1 zaC))
def zqO (w:web) (zaC:(Sl (Sl Tab))) (P2:Int→Bool) (za1:Int):Bool :=
  (cond (decide (za1 < w.Net.Nodes))
 (zwq P2 w zaC za1 (0:Int))
 (zm5 w za1 zaC))
def zkB (w : web) (zaC : (Sl (Sl Tab))) : Nat → Int → (Sl step)
  | 0=>fun _=>default
  | k+1=>zqN w zaC (zkB w zaC k)
def zkC (w : web) (zaC : (Sl (Sl Tab))) : Nat → Int → Bool
  | 0=>fun _=>false
  | k+1=>zqO w zaC (zkC w zaC k)
def zwr (w:web) (zaC:(Sl (Sl Tab))) (za1:Int):(Sl step):=zkB w zaC Fuel za1
def zwt (w:web) (zaC:(Sl (Sl Tab))) (za1:Int):Bool:=zkC w zaC Fuel za1
theorem zDc (K:List PA→Prop) (w:web) (zaC:(Sl (Sl Tab))) (za1:Int) (hs:zwt w zaC za1=true) (hk:K (e89 (zwr w zaC za1))):zkl K w zaC za1:=by
  refine zwd K w zaC za1 ?_
  intro X2 hstep
  have key:∀ (k:Nat) (za1:Int),zkC w zaC k za1=true→K (e89 (zkB w zaC k za1))→X2 (zis w zaC za1):=by
    intro k
    induction k with
    | zero=>intro za1 hs;exact absurd hs Bool.false_ne_true
    | succ k ih =>
      intro za1 hs hk
      refine hstep za1 ?_
      have hs:zqO w zaC (zkC w zaC k) za1=true:=hs
      have hk:K (e89 (zqN w zaC (zkB w zaC k) za1)):=hk
      unfold zqO at hs
      unfold zqN at hk
      generalize zkB w zaC k=S2 at hk ih
      generalize zkC w zaC k=P2 at hs ih
      have hX2:=ih
      exact (zaN (K := fun r => K (e89 r))
 (fun hs hk=>(zDb K w zaC X2 P2 S2 hX2 za1 (0:Int) hs hk))
 (fun hs hk=>(zwo K w za1 zaC (fun i=>zay (zaC.get i)) rfl hs hk)) hs hk)
  exact key _ za1 hs hk
def zqP (w:web) (zaC:(Sl (Sl Tab))):(Sl step) :=
  (zwr w zaC (1:Int))
def zqQ (w:web) (zaC:(Sl (Sl Tab))):Bool :=
  (zwt w zaC (1:Int))
theorem zDd (K:List PA→Prop) (w:web) (zaC:(Sl (Sl Tab))) (zhP:Nat→List PV) (zDe:zhP=fun i=>zay (zaC.get i)) (hs:zqQ w zaC=true) (hk:K (e89 (zqP w zaC))):zmZ K w zaC.len zhP:=by
  subst zDe
  refine zbd (zC3 K w zaC) ?_
  unfold zqQ at hs
  unfold zqP at hk
  exact (zDc K w zaC (1:Int) hs hk)
def zqR (w:web) (S0:Int→(Sl (Sl Tab))→(Sl step)) (zbh:Int) (zbI:(Sl (Sl Tab))):(Sl step) :=
  (cond (decide (zbh < (w.Net.Nodes.toNat : Int)))
 (S0 (w64 (zbh+(1:Int))) (⟨zbI.len,(setT zbh.toNat (zvW w zbh w.Net.Nodes) zbI.get)⟩:Sl (Sl Tab)))
 (zqP w zbI))
def zqS (w:web) (P0:Int→(Sl (Sl Tab))→Bool) (zbh:Int) (zbI:(Sl (Sl Tab))):Bool :=
  (cond (decide (zbh < (w.Net.Nodes.toNat : Int)))
 (decide ((zF9 w zbh w.Net.Nodes=true)) &&
 (decide ((0≤zbh∧zbh < (zbI.len:Int))) &&
 (decide ((zbh.toNat < zbI.len)) &&
 (P0 (w64 (zbh+(1:Int))) (⟨zbI.len,(setT zbh.toNat (zvW w zbh w.Net.Nodes) zbI.get)⟩:Sl (Sl Tab))))))
 (zqQ w zbI))
def zkD (w : web) : Nat → Int → (Sl (Sl Tab)) → (Sl step)
  | 0=>fun _ _=>default
  | k+1=>zqR w (zkD w k)
def zkE (w : web) : Nat → Int → (Sl (Sl Tab)) → Bool
  | 0=>fun _ _=>false
  | k+1=>zqS w (zkE w k)
def zwu (w:web) (zbh:Int) (zbI:(Sl (Sl Tab))):(Sl step):=zkD w Fuel zbh zbI
def zwv (w:web) (zbh:Int) (zbI:(Sl (Sl Tab))):Bool:=zkE w Fuel zbh zbI
theorem zDf (K:List PA→Prop) (w:web) (zbh:Int) (zbI:(Sl (Sl Tab))) (zcj:Nat→List PV) (zkF:zcj=fun i=>zay (zbI.get i)) (hs:zwv w zbh zbI=true) (hk:K (e89 (zwu w zbh zbI))):zkk K w zbh zbI.len zcj:=by
  refine zwc K w zbh zbI.len zcj ?_
  intro X0 hstep
  have key:∀ (k:Nat) (zbh:Int) (zbI:(Sl (Sl Tab))) (zcj:Nat→List PV) (zkF:zcj=fun i=>zay (zbI.get i)),zkE w k zbh zbI=true→K (e89 (zkD w k zbh zbI))→X0 (zkj w zbh zbI.len zcj):=by
    intro k
    induction k with
    | zero=>intro zbh zbI zcj zkF hs;exact absurd hs Bool.false_ne_true
    | succ k ih =>
      intro zbh zbI zcj zkF hs hk
      subst zkF
      refine hstep zbh zbI ?_
      have hs:zqS w (zkE w k) zbh zbI=true:=hs
      have hk:K (e89 (zqR w (zkD w k) zbh zbI)):=hk
      unfold zqS at hs
      unfold zqR at hk
      generalize zkD w k=S0 at hk ih
      generalize zkE w k=P0 at hs ih
      have hX0:=ih
      exact (zaN (K := fun r => K (e89 r))
 (fun hs hk=>(za0 hs fun hc hs=>⟨⟨isE,rfl,hc⟩,(za0 hs fun hc hs=>⟨hc,(za0 hs fun hc hs=>⟨hc,(hX0 (w64 (zbh+(1:Int))) (⟨zbI.len,(setT zbh.toNat (zvW w zbh w.Net.Nodes) zbI.get)⟩:Sl (Sl Tab)) (ziz zbh.toNat 0 (fun i=>zay (zbI.get i)) (zay (zvW w zbh w.Net.Nodes))) (zlE (enc:=zay) (i:=zbh.toNat) (k:=0) (f:=zbI.get) (new:=(zay (zvW w zbh w.Net.Nodes))) (v:=(zvW w zbh w.Net.Nodes)) rfl rfl) hs hk)⟩)⟩)⟩))
 (fun hs hk=>(zDd K w zbI (fun i=>zay (zbI.get i)) rfl hs hk)) hs hk)
  exact key _ zbh zbI zcj zkF hs hk
def s89 (w:web):(Sl step) :=
  (zwu w (0:Int) (⟨w.Net.Nodes.toNat,(fun _=>(⟨0,fun _=>(fun _=>(0:Int))⟩:(Sl Tab)))⟩:Sl (Sl Tab)))
def p89 (w:web):Bool :=
  (decide ((0≤w.Net.Nodes∧w.Net.Nodes=w.Net.Nodes∧w.Net.Nodes≤1000000)) &&
 (zwv w (0:Int) (⟨w.Net.Nodes.toNat,(fun _=>(⟨0,fun _=>(fun _=>(0:Int))⟩:(Sl Tab)))⟩:Sl (Sl Tab))))
theorem q89 (w:web) (K:List PA→Prop) (hs:p89 w=true) (hk:K (e89 (s89 w))):vcFun Tryd.prog G89 zaK 89 [.one (.fp (zau w) 0)] K:=by
  refine zbd (zC2 w K) ?_
  unfold p89 at hs
  unfold s89 at hk
  exact (za0 hs fun hc hs=>⟨hc,(zDf K w (0:Int) (⟨w.Net.Nodes.toNat,(fun _=>(⟨0,fun _=>(fun _=>(0:Int))⟩:(Sl Tab)))⟩:Sl (Sl Tab)) (fun _=>(zay (⟨0,fun _=>(fun _=>(0:Int))⟩:(Sl Tab)))) rfl hs hk)⟩)
def zAa : List PA → COut
  | [.one (.fp [.int .i64 a0_Net_Nodes,.sl a0_Net_Ties_n a0_Net_Ties_s a0_Net_Ties_g,.fm a0_out_q a0_out_n a0_out_F] 0)]=>.det (IsE enc_40 4 a0_Net_Ties_s a0_Net_Ties_g∧a0_out_q=(false,1,false,[none])∧p89 (⟨(⟨a0_Net_Nodes,(⟨a0_Net_Ties_n,zaa a0_Net_Ties_g⟩:(Sl Tie))⟩:Net),(⟨a0_out_n,a0_out_F⟩:Mp)⟩:web)=true) [.one (.sl ((s89 (⟨(⟨a0_Net_Nodes,(⟨a0_Net_Ties_n,zaa a0_Net_Ties_g⟩:(Sl Tie))⟩:Net),(⟨a0_out_n,a0_out_F⟩:Mp)⟩:web)).len) 5 (fun i=>zae ((s89 (⟨(⟨a0_Net_Nodes,(⟨a0_Net_Ties_n,zaa a0_Net_Ties_g⟩:(Sl Tie))⟩:Net),(⟨a0_out_n,a0_out_F⟩:Mp)⟩:web)).get i)))]
  | _=>.no
theorem zGm:zaq Tryd.prog 89:=⟨_,rfl,rfl,by kernel_rfl⟩
theorem zJs:Ok Tryd.prog 89 zAa:=zbG zIu zGm fun args K h=>by
  unfold zAa at h
  split at h
  · rename_i a0_Net_Nodes a0_Net_Ties_n a0_Net_Ties_s a0_Net_Ties_g a0_out_q a0_out_n a0_out_F
    obtain ⟨⟨⟨rfl,a0_Net_Ties_f,rfl⟩,rfl,hs⟩,hk⟩:=h
    try rw [zan a0_Net_Ties_f] at hs
    try rw [zan a0_Net_Ties_f] at hk
    exact ⟨(fun _ _=>[]),(fun _=>false),zaK,q89 (⟨(⟨a0_Net_Nodes,(⟨a0_Net_Ties_n,a0_Net_Ties_f⟩:(Sl Tie))⟩:Net),(⟨a0_out_n,a0_out_F⟩:Mp)⟩:web) K hs hk⟩
  · exact h.elim
end Go.Proofs
/-
  DERIVED: THE SHELF's CONTRACTS AT THIS DUMP,IN PLAIN WORDS (tools/lay-plain.mjs out of 'YtedhjaaikeakoaaDoorPmLk.lean',which tools/lay-shelf.mjs wrote): THE SAME DECLARATIONS UNDER THE SAME NAMES: 'import','namespace','open','def','theorem' AND NOTHING ELSE: no command of the shelf's: FOR A HAND-IN. Each laying: the table of numbers ('.._ren') and one theorem,a field a fact of the dump's own or the kernel's comparison;each contract: ONE APPLICATION.
-/
namespace Go.Proofs
open Go.Shelf
def Tryd.keysA_ren:Go.Shelf.Ren:=⟨fun | 7=>103 | 10=>117 | n=>n,fun | 23=>103 | 26=>3 | 3=>4 | 28=>152 | 0=>0 | 27=>151 | 33=>169 | 4=>4 | n=>n,fun | n=>n⟩
theorem Tryd.keysA : Go.Proofs.SlLaysZI.n7 Tryd.prog Tryd.keysA_ren := {
  mixed:=by kernel_rfl
  f7:=⟨Tryd.f103.name,by decide,Tryd.func103.trans (congrArg some (by kernel_rfl))⟩
  f10:=⟨Tryd.f117.name,by decide,Tryd.func117.trans (congrArg some (by kernel_rfl))⟩
  t0:=Tryd.underlying0
  a0:=Tryd.isAgg0
  z0:=Tryd.sizeOf0
  v0:=Tryd.zeroValue0
  t4:=Tryd.underlying4
  a4:=Tryd.isAgg4
  z4:=Tryd.sizeOf4
  v4:=Tryd.zeroValue4
  t23:=Tryd.underlying103
  a23:=Tryd.isAgg103
  z23:=Tryd.sizeOf103
  v23:=Tryd.zeroValue103
  t26:=Tryd.underlying3
  a26:=Tryd.isAgg3
  z26:=Tryd.sizeOf3
  v26:=Tryd.zeroValue3
  t27:=Tryd.underlying151
  a27:=Tryd.isAgg151
  z27:=Tryd.sizeOf151
  v27:=Tryd.zeroValue151
  t28:=Tryd.underlying152
  a28:=Tryd.isAgg152
  z28:=Tryd.sizeOf152
  v28:=Tryd.zeroValue152
  t33:=Tryd.underlying169
  a33:=Tryd.isAgg169
  z33:=Tryd.sizeOf169
  v33:=Tryd.zeroValue169 }
def Tryd.sortedA_ren:Go.Shelf.Ren:=⟨fun | 6=>102 | 8=>115 | 9=>116 | 11=>129 | 13=>113 | 12=>130 | 23=>127 | 24=>128 | 14=>136 | 15=>137 | 16=>138 | 17=>139 | 18=>140 | 19=>141 | 20=>142 | 21=>143 | 22=>144 | 25=>146 | 26=>132 | 27=>133 | 28=>147 | 29=>148 | 30=>114 | 31=>149 | n=>n,fun | 26=>3 | 28=>152 | 24=>27 | 0=>0 | 3=>3 | 37=>168 | 48=>182 | 50=>184 | 4=>4 | 40=>175 | 39=>174 | 45=>179 | 5=>5 | 9=>9 | 51=>187 | 55=>191 | 57=>199 | 58=>200 | 33=>169 | n=>n,fun | n=>n⟩
theorem Tryd.sortedA : Go.Proofs.SlLaysZI.n6 Tryd.prog Tryd.sortedA_ren := {
  mixed:=by kernel_rfl
  f6:=⟨Tryd.f102.name,by decide,Tryd.func102.trans (congrArg some (by kernel_rfl))⟩
  f8:=⟨Tryd.f115.name,by decide,Tryd.func115.trans (congrArg some (by kernel_rfl))⟩
  f11:=⟨Tryd.f129.name,by decide,Tryd.func129.trans (congrArg some (by kernel_rfl))⟩
  t0:=Tryd.underlying0
  a0:=Tryd.isAgg0
  z0:=Tryd.sizeOf0
  v0:=Tryd.zeroValue0
  t24:=Tryd.underlying27
  a24:=Tryd.isAgg27
  z24:=Tryd.sizeOf27
  v24:=Tryd.zeroValue27
  t26:=Tryd.underlying3
  a26:=Tryd.isAgg3
  z26:=Tryd.sizeOf3
  v26:=Tryd.zeroValue3
  t28:=Tryd.underlying152
  a28:=Tryd.isAgg152
  z28:=Tryd.sizeOf152
  v28:=Tryd.zeroValue152
  i26:=by kernel_rfl }
def Tryd.sortA_ren:Go.Shelf.Ren:=⟨fun | 5=>116 | 8=>113 | 7=>130 | 19=>127 | 20=>128 | 10=>136 | 11=>137 | 12=>138 | 13=>139 | 14=>140 | 15=>141 | 16=>142 | 17=>143 | 18=>144 | 30=>146 | 31=>132 | 32=>133 | 33=>147 | 34=>148 | 35=>114 | 40=>149 | n=>n,fun | 23=>27 | 25=>3 | 3=>3 | 32=>168 | 22=>27 | 0=>0 | 44=>182 | 46=>184 | 4=>4 | 36=>175 | 35=>174 | 41=>179 | 5=>5 | 9=>9 | 53=>187 | 57=>191 | 63=>199 | 64=>200 | n=>n,fun | n=>n⟩
theorem Tryd.sortA : Go.Proofs.SlLaysM.n5 Tryd.prog Tryd.sortA_ren := {
  mixed:=by kernel_rfl
  f5:=⟨Tryd.f116.name,by decide,Tryd.func116.trans (congrArg some (by kernel_rfl))⟩
  f7:=⟨Tryd.f130.name,by decide,Tryd.func130.trans (congrArg some (by kernel_rfl))⟩
  f8:=Tryd.func113.trans (congrArg some (by kernel_rfl))
  f10:=⟨Tryd.f136.name,by decide,Tryd.func136.trans (congrArg some (by kernel_rfl))⟩
  f11:=⟨Tryd.f137.name,by decide,Tryd.func137.trans (congrArg some (by kernel_rfl))⟩
  f12:=⟨Tryd.f138.name,by decide,Tryd.func138.trans (congrArg some (by kernel_rfl))⟩
  f13:=⟨Tryd.f139.name,by decide,Tryd.func139.trans (congrArg some (by kernel_rfl))⟩
  f14:=⟨Tryd.f140.name,by decide,Tryd.func140.trans (congrArg some (by kernel_rfl))⟩
  f15:=⟨Tryd.f141.name,by decide,Tryd.func141.trans (congrArg some (by kernel_rfl))⟩
  f16:=⟨Tryd.f142.name,by decide,Tryd.func142.trans (congrArg some (by kernel_rfl))⟩
  f17:=⟨Tryd.f143.name,by decide,Tryd.func143.trans (congrArg some (by kernel_rfl))⟩
  f18:=⟨Tryd.f144.name,by decide,Tryd.func144.trans (congrArg some (by kernel_rfl))⟩
  f19:=Tryd.func127.trans (congrArg some (by kernel_rfl))
  f20:=Tryd.func128.trans (congrArg some (by kernel_rfl))
  f30:=⟨Tryd.f146.name,by decide,Tryd.func146.trans (congrArg some (by kernel_rfl))⟩
  f31:=Tryd.func132.trans (congrArg some (by kernel_rfl))
  f32:=Tryd.func133.trans (congrArg some (by kernel_rfl))
  f33:=⟨Tryd.f147.name,by decide,Tryd.func147.trans (congrArg some (by kernel_rfl))⟩
  f34:=⟨Tryd.f148.name,by decide,Tryd.func148.trans (congrArg some (by kernel_rfl))⟩
  f35:=⟨Tryd.f114.name,by decide,Tryd.func114.trans (congrArg some (by kernel_rfl))⟩
  f40:=⟨Tryd.f149.name,by decide,Tryd.func149.trans (congrArg some (by kernel_rfl))⟩
  t0:=Tryd.underlying0
  a0:=Tryd.isAgg0
  z0:=Tryd.sizeOf0
  v0:=Tryd.zeroValue0
  t3:=Tryd.underlying3
  a3:=Tryd.isAgg3
  z3:=Tryd.sizeOf3
  v3:=Tryd.zeroValue3
  t4:=Tryd.underlying4
  a4:=Tryd.isAgg4
  z4:=Tryd.sizeOf4
  v4:=Tryd.zeroValue4
  t5:=Tryd.underlying5
  a5:=Tryd.isAgg5
  z5:=Tryd.sizeOf5
  v5:=Tryd.zeroValue5
  t9:=Tryd.underlying9
  a9:=Tryd.isAgg9
  z9:=Tryd.sizeOf9
  v9:=Tryd.zeroValue9
  t22:=Tryd.underlying27
  a22:=Tryd.isAgg27
  z22:=Tryd.sizeOf27
  v22:=Tryd.zeroValue27
  t23:=Tryd.underlying27
  a23:=Tryd.isAgg27
  z23:=Tryd.sizeOf27
  v23:=Tryd.zeroValue27
  t25:=Tryd.underlying3
  a25:=Tryd.isAgg3
  z25:=Tryd.sizeOf3
  v25:=Tryd.zeroValue3
  t32:=Tryd.underlying168
  a32:=Tryd.isAgg168
  z32:=Tryd.sizeOf168
  v32:=Tryd.zeroValue168
  t35:=Tryd.underlying174
  a35:=Tryd.isAgg174
  z35:=Tryd.sizeOf174
  v35:=Tryd.zeroValue174
  t36:=Tryd.underlying175
  a36:=Tryd.isAgg175
  z36:=Tryd.sizeOf175
  v36:=Tryd.zeroValue175
  t41:=Tryd.underlying179
  a41:=Tryd.isAgg179
  z41:=Tryd.sizeOf179
  v41:=Tryd.zeroValue179
  t44:=Tryd.underlying182
  a44:=Tryd.isAgg182
  z44:=Tryd.sizeOf182
  v44:=Tryd.zeroValue182
  t46:=Tryd.underlying184
  a46:=Tryd.isAgg184
  z46:=Tryd.sizeOf184
  v46:=Tryd.zeroValue184
  t53:=Tryd.underlying187
  a53:=Tryd.isAgg187
  z53:=Tryd.sizeOf187
  v53:=Tryd.zeroValue187
  t57:=Tryd.underlying191
  a57:=Tryd.isAgg191
  z57:=Tryd.sizeOf191
  v57:=Tryd.zeroValue191
  t63:=Tryd.underlying199
  a63:=Tryd.isAgg199
  z63:=Tryd.sizeOf199
  v63:=Tryd.zeroValue199
  t64:=Tryd.underlying200
  a64:=Tryd.isAgg200
  z64:=Tryd.sizeOf200
  v64:=Tryd.zeroValue200 }
end Go.Proofs
namespace Go.Pm
open Go.RowKit Go.Maps Go.Sort Go.Shelf Go.Proofs
set_option maxRecDepth 100000

theorem zkG {F : List Int → Option (List Int)} : ∀ (f : Nat) (i : Int) (n : Nat) (l : List Int), ztI F f i n = some l → l.length = n ∧ (∀ x ∈ l, F [x] ≠ none ∧ i ≤ x ∧ x < i + f) ∧ l.Pairwise (· < ·)
  | _,_,0,l,h=>by simp [ztI] at h;subst h;exact ⟨rfl,fun x hx=>by simp at hx,List.Pairwise.nil⟩
  | 0,_,n+1,l,h=>by simp [ztI] at h
  | f+1,i,n+1,l,h=>by
    simp only [ztI] at h
    split at h
    · rename_i v hv
      split at h
      · rename_i r hr
        simp only [Option.some.injEq] at h;subst h
        obtain ⟨h1,h2,h3⟩:=zkG f (i+1) n r hr
        refine ⟨by simp [h1],fun x hx=>?_,List.pairwise_cons.2 ⟨fun x hx=>by have:=h2 x hx;omega,h3⟩⟩
        rcases List.mem_cons.1 hx with rfl | hx
        · exact ⟨by rw [hv];simp,by omega,by omega⟩
        · have:=h2 x hx;exact ⟨this.1,by omega,by omega⟩
      · cases h
    · obtain ⟨h1, h2, h3⟩ := zkG f (i + 1) (n + 1) l h
      exact ⟨h1,fun x hx=>by have:=h2 x hx;exact ⟨this.1,by omega,by omega⟩,h3⟩
theorem zkH {α : Type} [DecidableEq α] : ∀ {l m : List α}, l.Nodup → (∀ x ∈ l, x ∈ m) → m.length ≤ l.length → l.Perm m
  | [],m,_,_,h=>by
    have:m=[]:=List.eq_nil_of_length_eq_zero (by simpa using h)
    subst this;exact .refl _
  | a :: l,m,hn,hs,h=>by
    obtain ⟨h1,h2⟩:=List.nodup_cons.1 hn
    have ha:=hs a List.mem_cons_self
    have hp:=List.perm_cons_erase ha
    refine (List.Perm.cons a (zkH h2 (fun x hx=>?_) ?_)).trans hp.symm
    · exact (List.mem_erase_of_ne (fun e=>h1 (by rw [← e];exact hx))).2 (hs x (List.mem_cons_of_mem _ hx))
    · have := hp.length_eq
      simp at this h
      omega

theorem zAb:zno Tryd.prog 103 (.keys 117):=fun w mb=>by
 refine ⟨⟨_,rfl,rfl,by kernel_rfl⟩,?_⟩
 have c:CallsIn Fence.wide 5 Tryd.prog 103 #[.map (some mb)] w fun e w'=>e=.returned (.func (.func 117) #[] #[.pointer (some ⟨w.heap.size,0,none⟩)])∧w'=w.alloc (.cells #[.map (some mb)] 103):=AnyZI.keys_in Tryd.keysA Fence.wide 5 trivial rfl (some mb) w
 refine ((callsIn_wide (n:=5)).1 c).mono ?_
 rintro e w' ⟨rfl,rfl⟩
 exact ⟨rfl,_,rfl⟩
theorem sortsA (m:Nat):AnyZI.SortsIn Tryd.prog Tryd.sortedA_ren Fence.wide m :=
  ⟨fun blk off cap ss W hH hblk hsz=>callsIn_wide.2 (AnyM.slices_Sort_int Tryd.sortA blk off cap ss W hH hblk hsz),
   fun p cap W=>callsIn_wide.2 (AnyM.slices_Sort_int_none Tryd.sortA p cap W)⟩

def rdN:Value→Option (DataW Unit×List MemPlace):=fun _=>some (.nil,[])
theorem ztD:zno Tryd.prog 102 (.sorted 117):=fun w h k mb C ty fr es clock vt q n F hw hk hC hb hE hm hn hky=>by
 refine ⟨⟨_,rfl,rfl,by kernel_rfl⟩,?_⟩
 obtain ⟨en,M⟩:=hm
 have E:=zfY hE
 have hq1:q.1=false:=by
  have e:=E.kag
  rw [show zec Tryd.prog 3=some false by kernel_rfl] at e
  exact (Option.some.inj e).symm
 have hq2:q.2.1=1:=by
  have e:=E.key
  rw [show zdi Tryd.prog 8 3=some 1 by kernel_rfl] at e
  exact (Option.some.inj e).symm
 obtain ⟨l,hl⟩:=Option.isSome_iff_exists.1 hky
 have hll:ztJ F n=l:=by unfold ztJ;rw [hl];rfl
 obtain ⟨l1,l2,l3⟩:=zkG _ _ _ _ hl
 rw [hll]
 have one:∀ x∈en,x.1=[x.1.headD 0]:=fun x hx=>by
  have:=(M.len x hx).1
  rw [hq2] at this
  match x.1,this with
  | [a],_=>rfl
 have hkeys:es.toList.map (·.key)=(en.map fun x=>x.1.headD 0).map encZ:=by
  have:=congrArg (List.map Prod.fst) M.ents
  simp only [List.map_map] at this ⊢
  refine (show es.toList.map (·.key)=_ from this).trans (List.map_congr_left fun x hx=>?_)
  show zbs q.1 x.1=encZ (x.1.headD 0)
  rw [hq1];rfl
 have hkn:(en.map fun x=>x.1.headD 0).Nodup:=by
  have:(en.map (·.1))=(en.map fun x=>x.1.headD 0).map fun a=>[a]:=by
   rw [List.map_map];exact List.map_congr_left fun x hx=>one x hx
  have hd:=M.nodup
  rw [this] at hd
  exact (List.pairwise_map.1 hd).imp fun h e=>h (by rw [e])
 have hperm:l.Perm (en.map fun x=>x.1.headD 0):=by
  refine zkH (l3.imp fun h=>Int.ne_of_lt h) (fun x hx=>?_) (by rw [List.length_map,← M.size,l1];exact Nat.le_refl _)
  have h1:=(l2 x hx).1
  rw [M.find [x] (by rw [hq2];rfl)] at h1
  by_cases hex:∃ y∈en,y.1=[x]
  ·obtain ⟨y, hy, e⟩ := hex
   exact List.mem_map.2 ⟨y,hy,by rw [e];rfl⟩
  ·exact absurd (zfC fun y hy e=>hex ⟨y,hy,e⟩) h1
 have hread:∀ x∈es.toList,∃ a:Int,x.key=encZ a∧keyOf Tryd.prog 3 x.key=some (.int .i64 a):=fun x hx=>by
  have hm:x.key∈es.toList.map (·.key):=List.mem_map.2 ⟨x,hx,rfl⟩
  rw [hkeys] at hm
  obtain ⟨a,ha,e⟩:=List.mem_map.1 hm
  have hb:=(l2 a (hperm.mem_iff.2 ha)).2
  refine ⟨a,e.symm,?_⟩
  rw [← e]
  have hu:Tryd.prog.underlying 3=some (.int .i64):=Tryd.underlying3
  have hwf:(Lit.int .i64 a).wf=true:=by
   simp only [Lit.wf,Bool.and_eq_true,decide_eq_true_eq]
   have e1:IntKind.i64.min = -9223372036854775808:=by decide
   have e2:IntKind.i64.max=9223372036854775807:=by decide
   rw [e1,e2]
   have:=hb.2
   omega
  simp [keyOf,mapKey,hu,hwf]
 have hsize:es.size=n:=by
  have:=congrArg List.length M.ents
  simp at this
  rw [this,M.size]
 have hst:MapKept.Stamped es clock:=⟨M.born,M.bornN,by rw [hkeys];exact List.pairwise_map.2 (hkn.imp fun h e=>h (encZ_inj e))⟩
 have hown:w.ownsMap Tryd.prog 3 rdN mb n (.map ((es.toList.map (WideElems.rg Tryd.prog 3 rdN)).foldr DataW.insert [])) :=
  ⟨es,clock,hb,⟨by rw [hsize];exact Nat.le_trans hn (by decide),hst,fun x hx=>by
   obtain ⟨a,e1,e2⟩:=hread x hx
   exact ⟨(.int .i64 a,.nil),by simp only [WideElems.rd,e2,rdN,Option.bind_some,Option.map_some]⟩⟩,by omega,rfl⟩
 have hik:(intKeys (.map ((es.toList.map (WideElems.rg Tryd.prog 3 rdN)).foldr DataW.insert []))).Perm l:=by
  show (((es.toList.map (WideElems.rg Tryd.prog 3 rdN)).foldr DataW.insert []).map fun p=>intOf p.1).Perm l
  refine ((WideShapes.sorted_perm _).map _).trans (List.Perm.trans (List.Perm.of_eq ?_) hperm.symm)
  rw [List.map_map]
  have e:(en.map fun x=>x.1.headD 0)=es.toList.map fun x=>intOf ((keyOf Tryd.prog 3 x.key).getD (.bool false)):=by
   have h1:(en.map fun x=>x.1.headD 0)=((en.map fun x=>x.1.headD 0).map encZ).map fun v=>match v with | .int _ a=>a | _=>0:=by
    rw [List.map_map];exact (List.map_id _).symm
   rw [h1,← hkeys,List.map_map]
   refine List.map_congr_left fun x hx=>?_
   obtain ⟨a,e1,e2⟩:=hread x hx
   simp only [Function.comp,e2]
   rw [e1];rfl
  rw [e]
  refine List.map_congr_left fun x hx=>?_
  obtain ⟨a,e1,e2⟩:=hread x hx
  simp only [Function.comp,WideElems.rg,WideElems.rd,e2,rdN,Option.bind_some,Option.map_some,Option.getD_some]
 have hsz:Maps.size (DataW.map ((es.toList.map (WideElems.rg Tryd.prog 3 rdN)).foldr DataW.insert []):DataW Unit)=n:=by
  show List.length _=n
  rw [(WideShapes.sorted_perm _).length_eq];simp [hsize]
 have hlt:k < w.heap.size:=hw.lt hk
 have hcell:w.cell? ⟨k,0,none⟩=some (.map (some mb)):=by
  have:=hw.fz hk
  simp [World.cell?,this,hC]
 have hseq:SeqGives Fence.wide 2 Tryd.prog 117 #[.pointer (some ⟨k,0,none⟩)] encZ (fun ss=>ss.Perm (intKeys _)) (Maps.size _) w :=
  AnyZI.keys_gives (ρ:=Tryd.keysA_ren) { Tryd.keysA with } Fence.wide _ trivial rfl (by omega) k mb n _ w hlt hcell hown
 have cS:=AnyZI.sorted_in Tryd.sortedA Fence.wide 5 trivial trivial trivial trivial rfl (by omega) (sortsA _) (enters_of Tryd.func116 (by kernel_rfl) rfl) 117 #[.pointer (some ⟨k,0,none⟩)] trivial (enters_of Tryd.func117 (by kernel_rfl) rfl) _ _ (by rw [hsz];exact Nat.le_trans hn (by decide)) (by rw [hsz];omega) _ hseq
 change CallsIn _ _ Tryd.prog 102 _ _ _ at cS
 refine ((callsIn_wide (n:=5)).1 cS).mono ?_
 rintro e w' ⟨v,ss,rfl,hS,hrow,_,hbel⟩
 refine ⟨v,rfl,?_,⟨hbel,Nat.zero_le _⟩⟩
 have hsl:ss.mergeSort (fun x y=>decide (x≤y))=l:=by
  rw [show ss.mergeSort (fun x y=>decide (x≤y))=l.mergeSort leI from mergeSort_of_perm_i (hS.trans hik)]
  exact List.mergeSort_of_pairwise (l3.imp fun h=>by simp only [leI,decide_eq_true_eq];exact Int.le_of_lt h)
 have hlen:ss.length=n:=by rw [(hS.trans hik).length_eq,l1]
 rw [hsl,hlen] at hrow
 exact hrow
end Go.Pm
namespace Go.Proofs
open Go Go.Pm
set_option maxRecDepth 100000
set_option linter.unusedVariables false
attribute [local irreducible] Go.Pm.vcFun Go.Pm.vc Go.Pm.vcIter
abbrev zA4:OwnK:=.sorted 117
theorem zIv:zno Tryd.prog 102 zA4:=ztD
abbrev zA5:OwnK:=.keys 117
theorem zIw:zno Tryd.prog 103 zA5:=zAb
structure Rec69 where
  S:web→Int→((Sl (Sl Int))×web)
  P:web→Int→Bool
class Slf69 where
  r:Rec69
section
variable [Slf69]
def zww : MK
  | [.box 105 [.p (.int .i64 b0_Net_Nodes),.p (.sl b0_Net_Ties_n b0_Net_Ties_s b0_Net_Ties_g),.mo 3 4 b0_out_q b0_out_n b0_out_F],.d (.one (.int .i64 b1))]=>some (IsE enc_40 4 b0_Net_Ties_s b0_Net_Ties_g∧b0_out_q=(false,1,false,[none])∧Slf69.r.P (⟨(⟨b0_Net_Nodes,(⟨b0_Net_Ties_n,zaa b0_Net_Ties_g⟩:(Sl Tie))⟩:Net),(⟨b0_out_n,b0_out_F⟩:Mp)⟩:web) b1=true,[.one (.sl (((Slf69.r.S (⟨(⟨b0_Net_Nodes,(⟨b0_Net_Ties_n,zaa b0_Net_Ties_g⟩:(Sl Tie))⟩:Net),(⟨b0_out_n,b0_out_F⟩:Mp)⟩:web) b1).1).len) 1 (fun i=>zb1 (((Slf69.r.S (⟨(⟨b0_Net_Nodes,(⟨b0_Net_Ties_n,zaa b0_Net_Ties_g⟩:(Sl Tie))⟩:Net),(⟨b0_out_n,b0_out_F⟩:Mp)⟩:web) b1).1).get i)))],[.box 105 [.p (.int .i64 (((Slf69.r.S (⟨(⟨b0_Net_Nodes,(⟨b0_Net_Ties_n,zaa b0_Net_Ties_g⟩:(Sl Tie))⟩:Net),(⟨b0_out_n,b0_out_F⟩:Mp)⟩:web) b1).2).Net.Nodes)),.p (.sl (((Slf69.r.S (⟨(⟨b0_Net_Nodes,(⟨b0_Net_Ties_n,zaa b0_Net_Ties_g⟩:(Sl Tie))⟩:Net),(⟨b0_out_n,b0_out_F⟩:Mp)⟩:web) b1).2).Net.Ties.len) 4 (fun i=>enc_40 (((Slf69.r.S (⟨(⟨b0_Net_Nodes,(⟨b0_Net_Ties_n,zaa b0_Net_Ties_g⟩:(Sl Tie))⟩:Net),(⟨b0_out_n,b0_out_F⟩:Mp)⟩:web) b1).2).Net.Ties.get i))),.mo 3 4 (false,1,false,[none]) ((((Slf69.r.S (⟨(⟨b0_Net_Nodes,(⟨b0_Net_Ties_n,zaa b0_Net_Ties_g⟩:(Sl Tie))⟩:Net),(⟨b0_out_n,b0_out_F⟩:Mp)⟩:web) b1).2).out).n) ((((Slf69.r.S (⟨(⟨b0_Net_Nodes,(⟨b0_Net_Ties_n,zaa b0_Net_Ties_g⟩:(Sl Tie))⟩:Net),(⟨b0_out_n,b0_out_F⟩:Mp)⟩:web) b1).2).out).F)],.d (.one (.int .i64 b1))])
  | _=>none
abbrev T69:Tabs:=(((((Tabs.nil.addF 88 zvD).addF 89 zAa).addO 102 zA4).addO 103 zA5).addM 69 zww)
theorem zIx (hself:ziw Tryd.prog 69 zww):TabsOk Tryd.prog T69:=(((((TabsOk.nil.addF zIa).addF zJs).addO zIv).addO zIw).addM hself)
abbrev zAc:Ctrs:=csm T69 (fun _ _=>[]) (fun _=>false)
def zeO:Ann:=⟨57,[(0,⟨[0,1],[0,12288],[],[],[],[],[]⟩),(1,⟨[0,1,10],[0,12288],[],[],[],[],[]⟩),(2,⟨[0,4],[0,17,12288],[],[],[],[],[]⟩),(3,⟨[0,1,19],[0,12288],[],[],[],[],[]⟩),(4,⟨[0,4],[0,12288],[],[],[],[],[]⟩),(5,⟨[0,1,5],[0,12288],[],[],[],[],[]⟩),(6,⟨[0,1,5,21,22,23],[0,12288],[],[],[],[],[]⟩),(7,⟨[0,1,5,21,22,23,24],[0,47,12288],[],[],[],[],[]⟩),(8,⟨[0,1,5,7,21,22,23],[0,7,47,12288],[],[],[],[],[]⟩),(9,⟨[0,1,5,7,21,22,23,34],[0,7,47,12288],[],[],[],[],[]⟩),(10,⟨[0,1,5,7,21,22,23],[0,7,47,12288],[],[],[],[],[]⟩),(11,⟨[0,1,5,7,21,22,23],[0,7,47,12288],[],[],[],[],[]⟩),(12,⟨[0,1,5,21,22,23],[0,47,12288],[],[],[],[],[]⟩),(13,⟨[0,1,5,21,22,23],[0,47,12288],[],[],[],[],[]⟩),(14,⟨[0,4],[0,47,12288],[],[],[],[],[]⟩)],
 [(7,⟨[0,1,5,21,22,23],[0,47,12288],[(5,47,27,fun _=>zb1 default)],[],[],[],[]⟩)],
 [],
 [],[]⟩
def zfp (w:web) (left:Int) (zaz:Int) (zaX:Int) (zfq:Nat) (zcm:Nat→List PV) (zfr:Nat) (zcn:Nat→List PV) (zaf:Nat) (zab:(List Int→Option (List Int))):St:=⟨[(0,.one (.c (.ptr 0 0))),(1,.one (.c (.p (.int .i64 left)))),(5,.one (.c (.vec 47))),(21,.one (.c (.p (.sl ((s89 w).len) 5 (fun i=>zae ((s89 w).get i)))))),(22,.one (.c (.p (.int .i64 ((s89 w).len:Int))))),(23,.one (.c (.p (.int .i64 zaz))))],[(0,.box 105 [.p (.int .i64 zaX),.p (.sl zfq 4 zcm),.mo 12288]),(47,.vec 27 1 24 zfr zcn),(12288,.mo 3 4 (false,1,false,[none]) zaf zab)],[]⟩
def zhd (K:List PA×List XA→Prop) (w:web) (left:Int) (zaz:Int) (zaX:Int) (zfq:Nat) (zcm:Nat→List PV) (zfr:Nat) (zcn:Nat→List PV) (zaf:Nat) (zab:(List Int→Option (List Int))):Prop:=vc Tryd.prog zAc zeO (cdF Tryd.f69 [1,1,1,1,0,1,0]) (zaj 0 (sqK Tryd.prog zAc zeO (cdF Tryd.f69 [1,1,1,1,1]) (zk4 Tryd.prog Tryd.f69 [.box 105 [.p (.int .i64 w.Net.Nodes),.p (.sl w.Net.Ties.len 4 (fun i=>enc_40 (w.Net.Ties.get i))),.mo 3 4 (false,1,false,[none]) w.out.n w.out.F],.d (.one (.int .i64 left))] (fun a b=>K (a,b))))) (zfp w left zaz zaX zfq zcm zfr zcn zaf zab)
theorem zAd (w : web) (left : Int) (K : List PA × List XA → Prop) :
  zjK Tryd.prog zAc zeO 69 [.box 105 [.p (.int .i64 w.Net.Nodes),.p (.sl w.Net.Ties.len 4 (fun i=>enc_40 (w.Net.Ties.get i))),.mo 3 4 (false,1,false,[none]) w.out.n w.out.F],.d (.one (.int .i64 left))] (fun a b=>K (a,b)) =
  ((IsE enc_40 4 4 (fun i=>enc_40 (w.Net.Ties.get i))∧((false,1,false,[none]):MQ)=(false,1,false,[none])∧(p88 w=true)) ∧
 (zby (!(s88 w))
 (((w.out.n≤1000000∧(ztI w.out.F 9223372036854775808 0 w.out.n).isSome=true)) ∧
 (K ([.one (.sl 1 1 (fun _=>(zb1 (⟨w.out.n,(fun i=>(ztJ w.out.F w.out.n).getD i 0)⟩:(Sl Int)))))],[.box 105 [.p (.int .i64 w.Net.Nodes),.p (.sl w.Net.Ties.len 4 (fun i=>enc_40 (w.Net.Ties.get i))),.mo 3 4 (false,1,false,[none]) w.out.n w.out.F],.d (.one (.int .i64 left))])))
 (zby (left == (0:Int))
 (K ([.one (.nils)],[.box 105 [.p (.int .i64 w.Net.Nodes),.p (.sl w.Net.Ties.len 4 (fun i=>enc_40 (w.Net.Ties.get i))),.mo 3 4 (false,1,false,[none]) w.out.n w.out.F],.d (.one (.int .i64 left))]))
 (((∀ i,sc2 ((fun i=>zae ((s89 w).get i)) i)=true)∧IsE enc_40 4 4 (fun i=>enc_40 (w.Net.Ties.get i))∧((false,1,false,[none]):MQ)=(false,1,false,[none])∧(p89 w=true)) ∧
 (zhd K w left (0:Int) w.Net.Nodes w.Net.Ties.len (fun i=>enc_40 (w.Net.Ties.get i)) 0 (fun i=>zb1 ((fun _=>default) i)) w.out.n w.out.F))))):=by kernel_rfl
def zlL (K:List PA×List XA→Prop) (X0:St→Prop) (w:web) (left:Int) (zaz:Int) (zaX:Int) (zaZ:(Sl Tie)) (zbp:(Sl (Sl Int))) (zaf:Nat) (zab:(List Int→Option (List Int))):Prop :=
  (zby (decide (zaz < ((s89 w).len : Int)))
 (((0≤zaz∧zaz < ((s89 w).len:Int))) ∧
 (zby ((zsX (zab [((s89 w).get zaz.toNat).Use.Tie]) 0) != 0)
 (X0 (zfp w left (w64 (zaz+(1:Int))) zaX zaZ.len (fun i=>enc_40 (zaZ.get i)) zbp.len (fun i=>zb1 (zbp.get i)) zaf zab))
 ((IsE enc_40 4 4 (fun i=>enc_40 (zaZ.get i))∧((false,1,false,[none]):MQ)=(false,1,false,[none])∧(Slf69.r.P (⟨(⟨zaX,zaZ⟩:Net),(⟨(addN (zab [((s89 w).get zaz.toNat).Use.Tie]) zaf),(zdp [((s89 w).get zaz.toNat).Use.Tie] [1] zab)⟩:Mp)⟩:web) (w64 (left - (1:Int)))=true)) ∧
 ((((zbp.len+((Slf69.r.S (⟨(⟨zaX,zaZ⟩:Net),(⟨(addN (zab [((s89 w).get zaz.toNat).Use.Tie]) zaf),(zdp [((s89 w).get zaz.toNat).Use.Tie] [1] zab)⟩:Mp)⟩:web) (w64 (left - (1:Int)))).1).len) * 24≤140737488355328∧zbp.len+((Slf69.r.S (⟨(⟨zaX,zaZ⟩:Net),(⟨(addN (zab [((s89 w).get zaz.toNat).Use.Tie]) zaf),(zdp [((s89 w).get zaz.toNat).Use.Tie] [1] zab)⟩:Mp)⟩:web) (w64 (left - (1:Int)))).1).len≤9223372036854775807)) ∧
 (X0 (zfp w left (w64 (zaz+(1:Int))) (((Slf69.r.S (⟨(⟨zaX,zaZ⟩:Net),(⟨(addN (zab [((s89 w).get zaz.toNat).Use.Tie]) zaf),(zdp [((s89 w).get zaz.toNat).Use.Tie] [1] zab)⟩:Mp)⟩:web) (w64 (left - (1:Int)))).2).Net.Nodes) (((Slf69.r.S (⟨(⟨zaX,zaZ⟩:Net),(⟨(addN (zab [((s89 w).get zaz.toNat).Use.Tie]) zaf),(zdp [((s89 w).get zaz.toNat).Use.Tie] [1] zab)⟩:Mp)⟩:web) (w64 (left - (1:Int)))).2).Net.Ties.len) (fun i=>enc_40 (((Slf69.r.S (⟨(⟨zaX,zaZ⟩:Net),(⟨(addN (zab [((s89 w).get zaz.toNat).Use.Tie]) zaf),(zdp [((s89 w).get zaz.toNat).Use.Tie] [1] zab)⟩:Mp)⟩:web) (w64 (left - (1:Int)))).2).Net.Ties.get i)) (zbp.len+((Slf69.r.S (⟨(⟨zaX,zaZ⟩:Net),(⟨(addN (zab [((s89 w).get zaz.toNat).Use.Tie]) zaf),(zdp [((s89 w).get zaz.toNat).Use.Tie] [1] zab)⟩:Mp)⟩:web) (w64 (left - (1:Int)))).1).len) (appG zbp.len (fun i=>zb1 (zbp.get i)) (fun i=>zb1 (((Slf69.r.S (⟨(⟨zaX,zaZ⟩:Net),(⟨(addN (zab [((s89 w).get zaz.toNat).Use.Tie]) zaf),(zdp [((s89 w).get zaz.toNat).Use.Tie] [1] zab)⟩:Mp)⟩:web) (w64 (left - (1:Int)))).1).get i))) (zAA (((((Slf69.r.S (⟨(⟨zaX,zaZ⟩:Net),(⟨(addN (zab [((s89 w).get zaz.toNat).Use.Tie]) zaf),(zdp [((s89 w).get zaz.toNat).Use.Tie] [1] zab)⟩:Mp)⟩:web) (w64 (left - (1:Int)))).2).out).F) [((s89 w).get zaz.toNat).Use.Tie]) ((((Slf69.r.S (⟨(⟨zaX,zaZ⟩:Net),(⟨(addN (zab [((s89 w).get zaz.toNat).Use.Tie]) zaf),(zdp [((s89 w).get zaz.toNat).Use.Tie] [1] zab)⟩:Mp)⟩:web) (w64 (left - (1:Int)))).2).out).n)) (zyS [((s89 w).get zaz.toNat).Use.Tie] ((((Slf69.r.S (⟨(⟨zaX,zaZ⟩:Net),(⟨(addN (zab [((s89 w).get zaz.toNat).Use.Tie]) zaf),(zdp [((s89 w).get zaz.toNat).Use.Tie] [1] zab)⟩:Mp)⟩:web) (w64 (left - (1:Int)))).2).out).F))))))))
 (K ([.one (.sl zbp.len 1 (fun i=>zb1 (zbp.get i)))],[.box 105 [.p (.int .i64 zaX),.p (.sl zaZ.len 4 (fun i=>enc_40 (zaZ.get i))),.mo 3 4 (false,1,false,[none]) zaf zab],.d (.one (.int .i64 left))])))
theorem zoJ (K : List PA × List XA → Prop) (X0 : St → Prop) (w : web) (left : Int) (zaz : Int) (zaX : Int) (zaZ : (Sl Tie)) (zbp : (Sl (Sl Int))) (zaf : Nat) (zab : (List Int → Option (List Int))) :
  vc Tryd.prog zAc zeO (cd (cdF Tryd.f69 [1,1,1,1,0,1,0]) [0]) (zba Tryd.prog zeO 7 X0 (zaj 0 (sqK Tryd.prog zAc zeO (cdF Tryd.f69 [1,1,1,1,1]) (zk4 Tryd.prog Tryd.f69 [.box 105 [.p (.int .i64 w.Net.Nodes),.p (.sl w.Net.Ties.len 4 (fun i=>enc_40 (w.Net.Ties.get i))),.mo 3 4 (false,1,false,[none]) w.out.n w.out.F],.d (.one (.int .i64 left))] (fun a b=>K (a,b)))))) (zfp w left zaz zaX zaZ.len (fun i=>enc_40 (zaZ.get i)) zbp.len (fun i=>zb1 (zbp.get i)) zaf zab) =
  zlL K X0 w left zaz zaX zaZ zbp zaf zab:=by kernel_rfl
theorem ztE (K : List PA × List XA → Prop) (w : web) (left : Int) (zaz : Int) (zaX : Int) (zfq : Nat) (zcm : Nat → List PV) (zfr : Nat) (zcn : Nat → List PV) (zaf : Nat) (zab : (List Int → Option (List Int)))
  (h:∀ X0:St→Prop,(∀ (zaz:Int) (zaX:Int) (zaZ:(Sl Tie)) (zbp:(Sl (Sl Int))) (zaf:Nat) (zab:(List Int→Option (List Int))),zlL K X0 w left zaz zaX zaZ zbp zaf zab→X0 (zfp w left zaz zaX zaZ.len (fun i=>enc_40 (zaZ.get i)) zbp.len (fun i=>zb1 (zbp.get i)) zaf zab))→X0 (zfp w left zaz zaX zfq zcm zfr zcn zaf zab)) :
  zhd K w left zaz zaX zfq zcm zfr zcn zaf zab:=by
  have e:zhd K w left zaz zaX zfq zcm zfr zcn zaf zab=(∀ X:St→Prop,(∀ s,vc Tryd.prog zAc zeO (cd (cdF Tryd.f69 [1,1,1,1,0,1,0]) [0]) (zba Tryd.prog zeO 7 X (zaj 0 (sqK Tryd.prog zAc zeO (cdF Tryd.f69 [1,1,1,1,1]) (zk4 Tryd.prog Tryd.f69 [.box 105 [.p (.int .i64 w.Net.Nodes),.p (.sl w.Net.Ties.len 4 (fun i=>enc_40 (w.Net.Ties.get i))),.mo 3 4 (false,1,false,[none]) w.out.n w.out.F],.d (.one (.int .i64 left))] (fun a b=>K (a,b)))))) s→X s)→X (zfp w left zaz zaX zfq zcm zfr zcn zaf zab)):=by kernel_rfl
  refine zbd e ?_
  intro X hX
  refine h X ?_
  intro zaz zaX zaZ zbp zaf zab hs
  refine hX _ ?_
  have e2:=zoJ K X w left zaz zaX zaZ zbp zaf zab
  rw [e2]
  exact hs
abbrev zA6 (left:Int) (r:((Sl (Sl Int))×web)):List PA×List XA:=([.one (.sl r.1.len 1 (fun i=>zb1 (r.1.get i)))],[.box 105 [.p (.int .i64 r.2.Net.Nodes),.p (.sl r.2.Net.Ties.len 4 (fun i=>enc_40 (r.2.Net.Ties.get i))),.mo 3 4 (false,1,false,[none]) r.2.out.n r.2.out.F],.d (.one (.int .i64 left))])
attribute [irreducible] zhd
def zm6 (w:web) (left:Int) (S0:Int→Int→(Sl Tie)→(Sl (Sl Int))→Nat→(List Int→Option (List Int))→((Sl (Sl Int))×web)) (zaz:Int) (zaX:Int) (zaZ:(Sl Tie)) (zbp:(Sl (Sl Int))) (zaf:Nat) (zab:(List Int→Option (List Int))):((Sl (Sl Int))×web) :=
  (cond (decide (zaz < ((s89 w).len : Int)))
 (cond ((zsX (zab [((s89 w).get zaz.toNat).Use.Tie]) 0) != 0)
 (S0 (w64 (zaz+(1:Int))) zaX zaZ zbp zaf zab)
 (S0 (w64 (zaz+(1:Int))) (((Slf69.r.S (⟨(⟨zaX,zaZ⟩:Net),(⟨(addN (zab [((s89 w).get zaz.toNat).Use.Tie]) zaf),(zdp [((s89 w).get zaz.toNat).Use.Tie] [1] zab)⟩:Mp)⟩:web) (w64 (left - (1:Int)))).2).Net.Nodes) (((Slf69.r.S (⟨(⟨zaX,zaZ⟩:Net),(⟨(addN (zab [((s89 w).get zaz.toNat).Use.Tie]) zaf),(zdp [((s89 w).get zaz.toNat).Use.Tie] [1] zab)⟩:Mp)⟩:web) (w64 (left - (1:Int)))).2).Net.Ties) (⟨(zbp.len+((Slf69.r.S (⟨(⟨zaX,zaZ⟩:Net),(⟨(addN (zab [((s89 w).get zaz.toNat).Use.Tie]) zaf),(zdp [((s89 w).get zaz.toNat).Use.Tie] [1] zab)⟩:Mp)⟩:web) (w64 (left - (1:Int)))).1).len),(zlC zbp.len zbp.get ((Slf69.r.S (⟨(⟨zaX,zaZ⟩:Net),(⟨(addN (zab [((s89 w).get zaz.toNat).Use.Tie]) zaf),(zdp [((s89 w).get zaz.toNat).Use.Tie] [1] zab)⟩:Mp)⟩:web) (w64 (left - (1:Int)))).1).get)⟩:Sl (Sl Int)) (zAA (((((Slf69.r.S (⟨(⟨zaX,zaZ⟩:Net),(⟨(addN (zab [((s89 w).get zaz.toNat).Use.Tie]) zaf),(zdp [((s89 w).get zaz.toNat).Use.Tie] [1] zab)⟩:Mp)⟩:web) (w64 (left - (1:Int)))).2).out).F) [((s89 w).get zaz.toNat).Use.Tie]) ((((Slf69.r.S (⟨(⟨zaX,zaZ⟩:Net),(⟨(addN (zab [((s89 w).get zaz.toNat).Use.Tie]) zaf),(zdp [((s89 w).get zaz.toNat).Use.Tie] [1] zab)⟩:Mp)⟩:web) (w64 (left - (1:Int)))).2).out).n)) (zyS [((s89 w).get zaz.toNat).Use.Tie] ((((Slf69.r.S (⟨(⟨zaX,zaZ⟩:Net),(⟨(addN (zab [((s89 w).get zaz.toNat).Use.Tie]) zaf),(zdp [((s89 w).get zaz.toNat).Use.Tie] [1] zab)⟩:Mp)⟩:web) (w64 (left - (1:Int)))).2).out).F))))
 (zbp,(⟨(⟨zaX,zaZ⟩:Net),(⟨zaf,zab⟩:Mp)⟩:web)))
def zm7 (w:web) (left:Int) (P0:Int→Int→(Sl Tie)→(Sl (Sl Int))→Nat→(List Int→Option (List Int))→Bool) (zaz:Int) (zaX:Int) (zaZ:(Sl Tie)) (zbp:(Sl (Sl Int))) (zaf:Nat) (zab:(List Int→Option (List Int))):Bool :=
  (cond (decide (zaz < ((s89 w).len : Int)))
 (decide ((0≤zaz∧zaz < ((s89 w).len:Int))) &&
 (cond ((zsX (zab [((s89 w).get zaz.toNat).Use.Tie]) 0) != 0)
 (P0 (w64 (zaz+(1:Int))) zaX zaZ zbp zaf zab)
 (decide ((Slf69.r.P (⟨(⟨zaX,zaZ⟩:Net),(⟨(addN (zab [((s89 w).get zaz.toNat).Use.Tie]) zaf),(zdp [((s89 w).get zaz.toNat).Use.Tie] [1] zab)⟩:Mp)⟩:web) (w64 (left - (1:Int)))=true)) &&
 (decide (((zbp.len+((Slf69.r.S (⟨(⟨zaX,zaZ⟩:Net),(⟨(addN (zab [((s89 w).get zaz.toNat).Use.Tie]) zaf),(zdp [((s89 w).get zaz.toNat).Use.Tie] [1] zab)⟩:Mp)⟩:web) (w64 (left - (1:Int)))).1).len) * 24≤140737488355328∧zbp.len+((Slf69.r.S (⟨(⟨zaX,zaZ⟩:Net),(⟨(addN (zab [((s89 w).get zaz.toNat).Use.Tie]) zaf),(zdp [((s89 w).get zaz.toNat).Use.Tie] [1] zab)⟩:Mp)⟩:web) (w64 (left - (1:Int)))).1).len≤9223372036854775807)) &&
 (P0 (w64 (zaz+(1:Int))) (((Slf69.r.S (⟨(⟨zaX,zaZ⟩:Net),(⟨(addN (zab [((s89 w).get zaz.toNat).Use.Tie]) zaf),(zdp [((s89 w).get zaz.toNat).Use.Tie] [1] zab)⟩:Mp)⟩:web) (w64 (left - (1:Int)))).2).Net.Nodes) (((Slf69.r.S (⟨(⟨zaX,zaZ⟩:Net),(⟨(addN (zab [((s89 w).get zaz.toNat).Use.Tie]) zaf),(zdp [((s89 w).get zaz.toNat).Use.Tie] [1] zab)⟩:Mp)⟩:web) (w64 (left - (1:Int)))).2).Net.Ties) (⟨(zbp.len+((Slf69.r.S (⟨(⟨zaX,zaZ⟩:Net),(⟨(addN (zab [((s89 w).get zaz.toNat).Use.Tie]) zaf),(zdp [((s89 w).get zaz.toNat).Use.Tie] [1] zab)⟩:Mp)⟩:web) (w64 (left - (1:Int)))).1).len),(zlC zbp.len zbp.get ((Slf69.r.S (⟨(⟨zaX,zaZ⟩:Net),(⟨(addN (zab [((s89 w).get zaz.toNat).Use.Tie]) zaf),(zdp [((s89 w).get zaz.toNat).Use.Tie] [1] zab)⟩:Mp)⟩:web) (w64 (left - (1:Int)))).1).get)⟩:Sl (Sl Int)) (zAA (((((Slf69.r.S (⟨(⟨zaX,zaZ⟩:Net),(⟨(addN (zab [((s89 w).get zaz.toNat).Use.Tie]) zaf),(zdp [((s89 w).get zaz.toNat).Use.Tie] [1] zab)⟩:Mp)⟩:web) (w64 (left - (1:Int)))).2).out).F) [((s89 w).get zaz.toNat).Use.Tie]) ((((Slf69.r.S (⟨(⟨zaX,zaZ⟩:Net),(⟨(addN (zab [((s89 w).get zaz.toNat).Use.Tie]) zaf),(zdp [((s89 w).get zaz.toNat).Use.Tie] [1] zab)⟩:Mp)⟩:web) (w64 (left - (1:Int)))).2).out).n)) (zyS [((s89 w).get zaz.toNat).Use.Tie] ((((Slf69.r.S (⟨(⟨zaX,zaZ⟩:Net),(⟨(addN (zab [((s89 w).get zaz.toNat).Use.Tie]) zaf),(zdp [((s89 w).get zaz.toNat).Use.Tie] [1] zab)⟩:Mp)⟩:web) (w64 (left - (1:Int)))).2).out).F)))))))
 true)
def zhe (w : web) (left : Int) : Nat → Int → Int → (Sl Tie) → (Sl (Sl Int)) → Nat → (List Int → Option (List Int)) → ((Sl (Sl Int)) × web)
  | 0=>fun _ _ _ _ _ _=>default
  | k+1=>zm6 w left (zhe w left k)
def zhf (w : web) (left : Int) : Nat → Int → Int → (Sl Tie) → (Sl (Sl Int)) → Nat → (List Int → Option (List Int)) → Bool
  | 0=>fun _ _ _ _ _ _=>false
  | k+1=>zm7 w left (zhf w left k)
def zsy (w:web) (left:Int) (zaz:Int) (zaX:Int) (zaZ:(Sl Tie)) (zbp:(Sl (Sl Int))) (zaf:Nat) (zab:(List Int→Option (List Int))):((Sl (Sl Int))×web):=zhe w left Fuel zaz zaX zaZ zbp zaf zab
def zsz (w:web) (left:Int) (zaz:Int) (zaX:Int) (zaZ:(Sl Tie)) (zbp:(Sl (Sl Int))) (zaf:Nat) (zab:(List Int→Option (List Int))):Bool:=zhf w left Fuel zaz zaX zaZ zbp zaf zab
theorem zAe (K:List PA×List XA→Prop) (w:web) (left:Int) (zaz:Int) (zaX:Int) (zaZ:(Sl Tie)) (zbp:(Sl (Sl Int))) (zaf:Nat) (zab:(List Int→Option (List Int))) (zcm:Nat→List PV) (zkI:zcm=fun i=>enc_40 (zaZ.get i)) (zcn:Nat→List PV) (zkJ:zcn=fun i=>zb1 (zbp.get i)) (hs:zsz w left zaz zaX zaZ zbp zaf zab=true) (hk:K (zA6 left (zsy w left zaz zaX zaZ zbp zaf zab))):zhd (WkM K) w left zaz zaX zaZ.len zcm zbp.len zcn zaf zab:=by
  refine ztE (WkM K) w left zaz zaX zaZ.len zcm zbp.len zcn zaf zab ?_
  intro X0 hstep
  have key:∀ (k:Nat) (zaz:Int) (zaX:Int) (zaZ:(Sl Tie)) (zbp:(Sl (Sl Int))) (zaf:Nat) (zab:(List Int→Option (List Int))) (zcm:Nat→List PV) (zkI:zcm=fun i=>enc_40 (zaZ.get i)) (zcn:Nat→List PV) (zkJ:zcn=fun i=>zb1 (zbp.get i)),zhf w left k zaz zaX zaZ zbp zaf zab=true→K (zA6 left (zhe w left k zaz zaX zaZ zbp zaf zab))→X0 (zfp w left zaz zaX zaZ.len zcm zbp.len zcn zaf zab):=by
    intro k
    induction k with
    | zero=>intro zaz zaX zaZ zbp zaf zab zcm zkI zcn zkJ hs;exact absurd hs Bool.false_ne_true
    | succ k ih =>
      intro zaz zaX zaZ zbp zaf zab zcm zkI zcn zkJ hs hk
      subst zkI
      subst zkJ
      refine hstep zaz zaX zaZ zbp zaf zab ?_
      have hs:zm7 w left (zhf w left k) zaz zaX zaZ zbp zaf zab=true:=hs
      have hk:K (zA6 left (zm6 w left (zhe w left k) zaz zaX zaZ zbp zaf zab)):=hk
      unfold zm7 at hs
      unfold zm6 at hk
      generalize zhe w left k=S0 at hk ih
      generalize zhf w left k=P0 at hs ih
      have hX0:=ih
      exact (zaN (K := fun r => K (zA6 left r))
 (fun hs hk => (za0 hs fun hc hs => ⟨hc, (zaN (K := fun r => K (zA6 left r))
 (fun hs hk=>(hX0 (w64 (zaz+(1:Int))) zaX zaZ zbp zaf zab (fun i=>enc_40 (zaZ.get i)) rfl (fun i=>zb1 (zbp.get i)) rfl hs hk))
 (fun hs hk=>(za0 hs fun hc hs=>⟨⟨isE,rfl,hc⟩,(za0 hs fun hc hs=>⟨hc,(hX0 (w64 (zaz+(1:Int))) (((Slf69.r.S (⟨(⟨zaX,zaZ⟩:Net),(⟨(addN (zab [((s89 w).get zaz.toNat).Use.Tie]) zaf),(zdp [((s89 w).get zaz.toNat).Use.Tie] [1] zab)⟩:Mp)⟩:web) (w64 (left - (1:Int)))).2).Net.Nodes) (((Slf69.r.S (⟨(⟨zaX,zaZ⟩:Net),(⟨(addN (zab [((s89 w).get zaz.toNat).Use.Tie]) zaf),(zdp [((s89 w).get zaz.toNat).Use.Tie] [1] zab)⟩:Mp)⟩:web) (w64 (left - (1:Int)))).2).Net.Ties) (⟨(zbp.len+((Slf69.r.S (⟨(⟨zaX,zaZ⟩:Net),(⟨(addN (zab [((s89 w).get zaz.toNat).Use.Tie]) zaf),(zdp [((s89 w).get zaz.toNat).Use.Tie] [1] zab)⟩:Mp)⟩:web) (w64 (left - (1:Int)))).1).len),(zlC zbp.len zbp.get ((Slf69.r.S (⟨(⟨zaX,zaZ⟩:Net),(⟨(addN (zab [((s89 w).get zaz.toNat).Use.Tie]) zaf),(zdp [((s89 w).get zaz.toNat).Use.Tie] [1] zab)⟩:Mp)⟩:web) (w64 (left - (1:Int)))).1).get)⟩:Sl (Sl Int)) (zAA (((((Slf69.r.S (⟨(⟨zaX,zaZ⟩:Net),(⟨(addN (zab [((s89 w).get zaz.toNat).Use.Tie]) zaf),(zdp [((s89 w).get zaz.toNat).Use.Tie] [1] zab)⟩:Mp)⟩:web) (w64 (left - (1:Int)))).2).out).F) [((s89 w).get zaz.toNat).Use.Tie]) ((((Slf69.r.S (⟨(⟨zaX,zaZ⟩:Net),(⟨(addN (zab [((s89 w).get zaz.toNat).Use.Tie]) zaf),(zdp [((s89 w).get zaz.toNat).Use.Tie] [1] zab)⟩:Mp)⟩:web) (w64 (left - (1:Int)))).2).out).n)) (zyS [((s89 w).get zaz.toNat).Use.Tie] ((((Slf69.r.S (⟨(⟨zaX,zaZ⟩:Net),(⟨(addN (zab [((s89 w).get zaz.toNat).Use.Tie]) zaf),(zdp [((s89 w).get zaz.toNat).Use.Tie] [1] zab)⟩:Mp)⟩:web) (w64 (left - (1:Int)))).2).out).F)) (fun i=>enc_40 (((Slf69.r.S (⟨(⟨zaX,zaZ⟩:Net),(⟨(addN (zab [((s89 w).get zaz.toNat).Use.Tie]) zaf),(zdp [((s89 w).get zaz.toNat).Use.Tie] [1] zab)⟩:Mp)⟩:web) (w64 (left - (1:Int)))).2).Net.Ties.get i)) rfl (appG zbp.len (fun i=>zb1 (zbp.get i)) (fun i=>zb1 (((Slf69.r.S (⟨(⟨zaX,zaZ⟩:Net),(⟨(addN (zab [((s89 w).get zaz.toNat).Use.Tie]) zaf),(zdp [((s89 w).get zaz.toNat).Use.Tie] [1] zab)⟩:Mp)⟩:web) (w64 (left - (1:Int)))).1).get i))) (zlD (enc:=zb1) (f:=zbp.get) (h:=((Slf69.r.S (⟨(⟨zaX,zaZ⟩:Net),(⟨(addN (zab [((s89 w).get zaz.toNat).Use.Tie]) zaf),(zdp [((s89 w).get zaz.toNat).Use.Tie] [1] zab)⟩:Mp)⟩:web) (w64 (left - (1:Int)))).1).get) rfl rfl) hs hk)⟩)⟩)) hs hk)⟩))
 (fun hs hk=>(zvo hk)) hs hk)
  exact key _ zaz zaX zaZ zbp zaf zab zcm zkI zcn zkJ hs hk
def zyO (w:web) (left:Int):((Sl (Sl Int))×web) :=
  (cond (!(s88 w))
 ((⟨1,fun _=>(⟨w.out.n,(fun i=>(ztJ w.out.F w.out.n).getD i 0)⟩:(Sl Int))⟩:(Sl (Sl Int))),w)
 (cond (left == (0:Int))
 ((⟨0,fun _=>default⟩:(Sl (Sl Int))),w)
 (zsy w left (0:Int) w.Net.Nodes w.Net.Ties (⟨0,(fun _=>default)⟩:Sl (Sl Int)) w.out.n w.out.F)))
def zHN (w:web) (left:Int):Bool :=
  (decide ((p88 w=true)) &&
 (cond (!(s88 w))
 (decide ((w.out.n≤1000000∧(ztI w.out.F 9223372036854775808 0 w.out.n).isSome=true)) &&
 true)
 (cond (left == (0:Int))
 true
 (decide ((p89 w=true)) &&
 (zsz w left (0:Int) w.Net.Nodes w.Net.Ties (⟨0,(fun _=>default)⟩:Sl (Sl Int)) w.out.n w.out.F)))))
theorem zJ7 (w:web) (left:Int) (K:List PA×List XA→Prop) (hs:zHN w left=true) (hk:K (zA6 left (zyO w left))):zjK Tryd.prog zAc zeO 69 [.box 105 [.p (.int .i64 w.Net.Nodes),.p (.sl w.Net.Ties.len 4 (fun i=>enc_40 (w.Net.Ties.get i))),.mo 3 4 (false,1,false,[none]) w.out.n w.out.F],.d (.one (.int .i64 left))] (fun a b=>(WkM K) (a,b)):=by
  refine zbd (zAd w left (WkM K)) ?_
  unfold zHN at hs
  unfold zyO at hk
  exact (za0 hs fun hc hs => ⟨⟨isE, rfl, hc⟩, (zaN (K := fun r => K (zA6 left r))
 (fun hs hk=>(za0 hs fun hc hs=>⟨hc,(zvo hk)⟩))
 (fun hs hk => (zaN (K := fun r => K (zA6 left r))
 (fun hs hk=>(wkM hk (zhk (.one (.nil _ _)) zn7)))
 (fun hs hk=>(za0 hs fun hc hs=>⟨⟨(fun _=>rfl),isE,rfl,hc⟩,(zAe K w left (0:Int) w.Net.Nodes w.Net.Ties (⟨0,(fun _=>default)⟩:Sl (Sl Int)) w.out.n w.out.F (fun i=>enc_40 (w.Net.Ties.get i)) rfl (fun i=>zb1 ((fun _=>default) i)) rfl hs hk)⟩)) hs hk)) hs hk)⟩)
def zGn : MK
  | [.box 105 [.p (.int .i64 b0_Net_Nodes),.p (.sl b0_Net_Ties_n b0_Net_Ties_s b0_Net_Ties_g),.mo 3 4 b0_out_q b0_out_n b0_out_F],.d (.one (.int .i64 b1))]=>some (IsE enc_40 4 b0_Net_Ties_s b0_Net_Ties_g∧b0_out_q=(false,1,false,[none])∧zHN (⟨(⟨b0_Net_Nodes,(⟨b0_Net_Ties_n,zaa b0_Net_Ties_g⟩:(Sl Tie))⟩:Net),(⟨b0_out_n,b0_out_F⟩:Mp)⟩:web) b1=true,[.one (.sl (((zyO (⟨(⟨b0_Net_Nodes,(⟨b0_Net_Ties_n,zaa b0_Net_Ties_g⟩:(Sl Tie))⟩:Net),(⟨b0_out_n,b0_out_F⟩:Mp)⟩:web) b1).1).len) 1 (fun i=>zb1 (((zyO (⟨(⟨b0_Net_Nodes,(⟨b0_Net_Ties_n,zaa b0_Net_Ties_g⟩:(Sl Tie))⟩:Net),(⟨b0_out_n,b0_out_F⟩:Mp)⟩:web) b1).1).get i)))],[.box 105 [.p (.int .i64 (((zyO (⟨(⟨b0_Net_Nodes,(⟨b0_Net_Ties_n,zaa b0_Net_Ties_g⟩:(Sl Tie))⟩:Net),(⟨b0_out_n,b0_out_F⟩:Mp)⟩:web) b1).2).Net.Nodes)),.p (.sl (((zyO (⟨(⟨b0_Net_Nodes,(⟨b0_Net_Ties_n,zaa b0_Net_Ties_g⟩:(Sl Tie))⟩:Net),(⟨b0_out_n,b0_out_F⟩:Mp)⟩:web) b1).2).Net.Ties.len) 4 (fun i=>enc_40 (((zyO (⟨(⟨b0_Net_Nodes,(⟨b0_Net_Ties_n,zaa b0_Net_Ties_g⟩:(Sl Tie))⟩:Net),(⟨b0_out_n,b0_out_F⟩:Mp)⟩:web) b1).2).Net.Ties.get i))),.mo 3 4 (false,1,false,[none]) ((((zyO (⟨(⟨b0_Net_Nodes,(⟨b0_Net_Ties_n,zaa b0_Net_Ties_g⟩:(Sl Tie))⟩:Net),(⟨b0_out_n,b0_out_F⟩:Mp)⟩:web) b1).2).out).n) ((((zyO (⟨(⟨b0_Net_Nodes,(⟨b0_Net_Ties_n,zaa b0_Net_Ties_g⟩:(Sl Tie))⟩:Net),(⟨b0_out_n,b0_out_F⟩:Mp)⟩:web) b1).2).out).F)],.d (.one (.int .i64 b1))])
  | _=>none
theorem zGo:zaq Tryd.prog 69:=⟨_,rfl,rfl,by kernel_rfl⟩
theorem zIy (hself:ziw Tryd.prog 69 zww):ziw Tryd.prog 69 zGn:=zzK (zIx hself) zGo fun xs safe rs ys h hs K hk=>by
  unfold zGn at h
  split at h
  · rename_i b0_Net_Nodes b0_Net_Ties_n b0_Net_Ties_s b0_Net_Ties_g b0_out_q b0_out_n b0_out_F b1
    simp only [Option.some.injEq,Prod.mk.injEq] at h
    obtain ⟨rfl,rfl,rfl⟩:=h
    obtain ⟨⟨rfl,b0_Net_Ties_f,rfl⟩,rfl,hs⟩:=hs
    try rw [zan b0_Net_Ties_f] at hs
    try rw [zan b0_Net_Ties_f] at hk
    refine ⟨fun _ _=>[],fun _=>false,zeO,?_⟩
    show zjK Tryd.prog zAc zeO 69 _ _
    exact zJ7 (⟨(⟨b0_Net_Nodes,(⟨b0_Net_Ties_n,b0_Net_Ties_f⟩:(Sl Tie))⟩:Net),(⟨b0_out_n,b0_out_F⟩:Mp)⟩:web) b1 (fun x=>K x.1 x.2) hs hk
  · cases h
end
def ztF : Nat → Rec69
  | 0=>⟨fun _ _=>default,fun _ _=>false⟩
  | k+1=>⟨@zyO ⟨ztF k⟩,@zHN ⟨ztF k⟩⟩
theorem zGp : ∀ k, ziw Tryd.prog 69 (@zww ⟨ztF k⟩)
  | 0=>fun xs ys safe rs h hs=>by
    unfold zww at h
    split at h
    · simp only [Option.some.injEq, Prod.mk.injEq] at h
      obtain ⟨rfl,rfl,rfl⟩:=h
      exact absurd hs.2.2 Bool.false_ne_true
    · cases h
  | k+1=>@zIy ⟨ztF k⟩ (zGp k)
def s69 (w:web) (left:Int):((Sl (Sl Int))×web):=(ztF 64).S w left
def p69 (w:web) (left:Int):Bool:=(ztF 64).P w left
def zGq : MK
  | [.box 105 [.p (.int .i64 b0_Net_Nodes),.p (.sl b0_Net_Ties_n b0_Net_Ties_s b0_Net_Ties_g),.mo 3 4 b0_out_q b0_out_n b0_out_F],.d (.one (.int .i64 b1))]=>some (IsE enc_40 4 b0_Net_Ties_s b0_Net_Ties_g∧b0_out_q=(false,1,false,[none])∧p69 (⟨(⟨b0_Net_Nodes,(⟨b0_Net_Ties_n,zaa b0_Net_Ties_g⟩:(Sl Tie))⟩:Net),(⟨b0_out_n,b0_out_F⟩:Mp)⟩:web) b1=true,[.one (.sl (((s69 (⟨(⟨b0_Net_Nodes,(⟨b0_Net_Ties_n,zaa b0_Net_Ties_g⟩:(Sl Tie))⟩:Net),(⟨b0_out_n,b0_out_F⟩:Mp)⟩:web) b1).1).len) 1 (fun i=>zb1 (((s69 (⟨(⟨b0_Net_Nodes,(⟨b0_Net_Ties_n,zaa b0_Net_Ties_g⟩:(Sl Tie))⟩:Net),(⟨b0_out_n,b0_out_F⟩:Mp)⟩:web) b1).1).get i)))],[.box 105 [.p (.int .i64 (((s69 (⟨(⟨b0_Net_Nodes,(⟨b0_Net_Ties_n,zaa b0_Net_Ties_g⟩:(Sl Tie))⟩:Net),(⟨b0_out_n,b0_out_F⟩:Mp)⟩:web) b1).2).Net.Nodes)),.p (.sl (((s69 (⟨(⟨b0_Net_Nodes,(⟨b0_Net_Ties_n,zaa b0_Net_Ties_g⟩:(Sl Tie))⟩:Net),(⟨b0_out_n,b0_out_F⟩:Mp)⟩:web) b1).2).Net.Ties.len) 4 (fun i=>enc_40 (((s69 (⟨(⟨b0_Net_Nodes,(⟨b0_Net_Ties_n,zaa b0_Net_Ties_g⟩:(Sl Tie))⟩:Net),(⟨b0_out_n,b0_out_F⟩:Mp)⟩:web) b1).2).Net.Ties.get i))),.mo 3 4 (false,1,false,[none]) ((((s69 (⟨(⟨b0_Net_Nodes,(⟨b0_Net_Ties_n,zaa b0_Net_Ties_g⟩:(Sl Tie))⟩:Net),(⟨b0_out_n,b0_out_F⟩:Mp)⟩:web) b1).2).out).n) ((((s69 (⟨(⟨b0_Net_Nodes,(⟨b0_Net_Ties_n,zaa b0_Net_Ties_g⟩:(Sl Tie))⟩:Net),(⟨b0_out_n,b0_out_F⟩:Mp)⟩:web) b1).2).out).F)],.d (.one (.int .i64 b1))])
  | _=>none
theorem zJ8:ziw Tryd.prog 69 zGq:=zGp 64
abbrev T71:Tabs:=(Tabs.nil.addF 101 zsm)
theorem zIz:TabsOk Tryd.prog T71:=(TabsOk.nil.addF zGe)
abbrev G71:Ctrs:=csm T71 (fun _ _=>[]) (fun _=>false)
def zDg:Ann:=⟨36,[(0,zK [0,1] []),(1,zK [0,1,9,10,11] []),(2,zK [0,1,9,10,11,12] []),(3,zK [0,1,5,6,9,10,11] []),(4,zK [0,1,5,6,9,10,11,19] []),(5,zK [4] []),(6,zK [0,1,6,7,9,10,11] []),(7,zK [0,1,8,9,10,11] []),(8,zK [0,1,8,9,10,11,28] []),(9,zK [4] []),(10,zK [0,1,9,10,11] []),(11,zK [35] []),(12,zK [4] []),(13,zK [4] [])],
 [(2,zK [0,1,9,10,11] [])],
 [(6,zK [0,1,5,6,9,10,11] []),(8,zK [0,1,8,9,10,11] [])],
 [],[]⟩
abbrev R71:=Int
abbrev e71 (r:R71):List PA:=[.one (.int .i64 r)]
@[irreducible] def z71:=ptF Tryd.prog G71 zDg Tryd.f71
def zA7 (zea:(Sl Int)) (zdK:(Sl Int)) (ziM:(Sl Int)) (zaB:Int) (zaQ:Int) (zc2:Nat→List PV) (zc3:Nat→List PV) (zit:Nat→List PV):St:=⟨[(0,zP (.sl zea.len 1 zc2)),(1,zP (.sl zdK.len 1 zc3)),(9,zP (.sl ziM.len 1 zit)),(10,zI zaB),(11,zI zaQ)],[],[]⟩
abbrev zAf (K:List PA→Prop) (X:St→Prop) (P:(Sl Int)→(Sl Int)→(Sl Int)→Int→Int→Bool) (S:(Sl Int)→(Sl Int)→(Sl Int)→Int→Int→Int):Prop:=∀ ⦃zea:(Sl Int)⦄ ⦃zdK:(Sl Int)⦄ ⦃ziM:(Sl Int)⦄ ⦃zaB:Int⦄ ⦃zaQ:Int⦄ ⦃zc2:Nat→List PV⦄ ⦃zc3:Nat→List PV⦄ ⦃zit:Nat→List PV⦄,P zea zdK ziM zaB zaQ=true→K (e71 (S zea zdK ziM zaB zaQ))→zc2=zg zai zea→zc3=zg zai zdK→zit=zg zai ziM→X (zA7 zea zdK ziM zaB zaQ zc2 zc3 zit)
section
variable {K:List PA→Prop} {s1_a0:(Sl Int)} {s2_a1:(Sl Int)} {zea:(Sl Int)} {zdK:(Sl Int)} {ziM:(Sl Int)} {zaB:Int} {zaQ:Int} {zc2:Nat→List PV} {zc3:Nat→List PV} {zit:Nat→List PV} {X0:St→Prop} {P0:(Sl Int)→(Sl Int)→(Sl Int)→Int→Int→Bool} {S0:(Sl Int)→(Sl Int)→(Sl Int)→Int→Int→Int} {zot:(Sl Int)} {ziL:(Sl Int)} {iv1:Int} {zDh:Int} {zqT:(Sl Int)} {zhg:Int} {zcx:Int} {zou:Nat→List PV} {zov:Nat→List PV} {zA8:Nat→List PV} {zow:(Sl Int)} {zox:(Sl Int)} {cv2:Int} {zqU:Int} {zoy:Nat→List PV} {zoz:Nat→List PV}
def zwx (S0:(Sl Int)→(Sl Int)→(Sl Int)→Int→Int→Int) (zqT:(Sl Int)) (zhg:Int) (zow:(Sl Int)) (zox:(Sl Int)) (cv2:Int) (zqU:Int):Int :=
  (cond (cv2 != (0:Int))
 cv2
 (S0 zow zox zqT zhg (w64 (zqU+(1:Int)))))
def zwy (P0:(Sl Int)→(Sl Int)→(Sl Int)→Int→Int→Bool) (zqT:(Sl Int)) (zhg:Int) (zow:(Sl Int)) (zox:(Sl Int)) (cv2:Int) (zqU:Int):Bool :=
  (cond (cv2 != (0:Int))
 true
 (P0 zow zox zqT zhg (w64 (zqU+(1:Int)))))
theorem zDi (hX0:zAf K X0 P0 S0) (hs:zwy P0 zqT zhg zow zox cv2 zqU=true) (hk:K (e71 (zwx S0 zqT zhg zow zox cv2 zqU))) (zv7:zoy=zg zai zow) (zv8:zoz=zg zai zox):z71 K [1,0,1,0,0,1,1,0,0,1,1,1,1] [X0] ⟨[(0,zP (.sl zow.len 1 zoy)),(1,zP (.sl zox.len 1 zoz)),(8,zI cv2),(9,zS zai 1 zqT),(10,zI zhg),(11,zI zqU)],[],[]⟩:=by subst zv7;subst zv8;exact zbd (by kernel_rfl) (zc hs hk (fun hs hk=>hk) (fun hs hk=>(hX0 hs hk rfl rfl rfl)))
def zwz (S0:(Sl Int)→(Sl Int)→(Sl Int)→Int→Int→Int) (zot:(Sl Int)) (ziL:(Sl Int)) (iv1:Int) (zDh:Int) (zqT:(Sl Int)) (zhg:Int) (zcx:Int):Int :=
  (zwx S0 zqT zhg zot ziL (zyN zDh (ziL.get iv1.toNat)) zcx)
def zwA (P0:(Sl Int)→(Sl Int)→(Sl Int)→Int→Int→Bool) (zot:(Sl Int)) (ziL:(Sl Int)) (iv1:Int) (zDh:Int) (zqT:(Sl Int)) (zhg:Int) (zcx:Int):Bool :=
  (decide ((0≤iv1∧iv1 < (ziL.len:Int))) &&
 (zwy P0 zqT zhg zot ziL (zyN zDh (ziL.get iv1.toNat)) zcx))
theorem zDj (hX0:zAf K X0 P0 S0) (hs:zwA P0 zot ziL iv1 zDh zqT zhg zcx=true) (hk:K (e71 (zwz S0 zot ziL iv1 zDh zqT zhg zcx))) (zv9:zou=zg zai zot) (zwa:zov=zg zai ziL) (zGr:zA8=zg zai zqT):z71 K [1,0,1,0,0,1,1,0,0,1,1] [X0] ⟨[(0,zP (.sl zot.len 1 zou)),(1,zP (.sl ziL.len 1 zov)),(5,zI iv1),(6,zI zDh),(9,zP (.sl zqT.len 1 zA8)),(10,zI zhg),(11,zI zcx)],[],[]⟩:=by subst zv9;subst zwa;subst zGr;exact zbd (by kernel_rfl) (za0 hs fun hc hs=>And.intro hc (zDi hX0 hs hk rfl rfl))
def zwB (S0:(Sl Int)→(Sl Int)→(Sl Int)→Int→Int→Int) (zea:(Sl Int)) (zdK:(Sl Int)) (ziM:(Sl Int)) (zaB:Int) (zaQ:Int):Int :=
  (cond (decide (zaQ < zaB))
 (cond (decide (zaQ ≥ (zdK.len : Int)))
 (1:Int)
 (zwz S0 zea zdK zaQ (ziM.get zaQ.toNat) ziM zaB zaQ))
 (cond (decide ((zea.len : Int) < (zdK.len : Int)))
 (-1:Int)
 (0:Int)))
def zwC (P0:(Sl Int)→(Sl Int)→(Sl Int)→Int→Int→Bool) (zea:(Sl Int)) (zdK:(Sl Int)) (ziM:(Sl Int)) (zaB:Int) (zaQ:Int):Bool :=
  (cond (decide (zaQ < zaB))
 (decide ((0≤zaQ∧zaQ < (ziM.len:Int))) &&
 (cond (decide (zaQ ≥ (zdK.len : Int)))
 true
 (zwA P0 zea zdK zaQ (ziM.get zaQ.toNat) ziM zaB zaQ)))
 true)
def zwD:Nat→(Sl Int)→(Sl Int)→(Sl Int)→Int→Int→Int:=lpO (fun _ _ _ _ _=>default) (zwB)
def zwE:Nat→(Sl Int)→(Sl Int)→(Sl Int)→Int→Int→Bool:=lpO (fun _ _ _ _ _=>false) (zwC)
def zwF (zea:(Sl Int)) (zdK:(Sl Int)) (ziM:(Sl Int)) (zaB:Int) (zaQ:Int):Int:=zwD Fuel zea zdK ziM zaB zaQ
def zwG (zea:(Sl Int)) (zdK:(Sl Int)) (ziM:(Sl Int)) (zaB:Int) (zaQ:Int):Bool:=zwE Fuel zea zdK ziM zaB zaQ
theorem zDk (hs:zwG zea zdK ziM zaB zaQ=true) (hk:K (e71 (zwF zea zdK ziM zaB zaQ))) (zkh:zc2=zg zai zea) (zki:zc3=zg zai zdK) (zwH:zit=zg zai ziM):z71 K [1,0,1,0] [] (zA7 zea zdK ziM zaB zaQ zc2 zc3 zit) :=
  zl (fun X=>z71 K [1,0,1,0,0] [X]) (by kernel_rfl) fun X0 hX =>
  (show ∀ k, zAf K X0 (zwE k) (zwD k) from zk5 _ _ (zwC) (zwB) (zAf K X0)
 (by intro _ _ _ _ _ _ _ _ hs;exact absurd hs Bool.false_ne_true)
 (by intro P0 S0 hX0 zea zdK ziM zaB zaQ zc2 zc3 zit hs hk zkh zki zwH;subst zkh;subst zki;subst zwH;exact hX _ (zbd (by kernel_rfl) (zc hs hk (fun hs hk=>(za0 hs fun hc hs=>And.intro hc (zc hs hk (fun hs hk=>hk) (fun hs hk=>(zDj hX0 hs hk rfl rfl rfl))))) (fun hs hk=>(zt hk (fun hk=>hk) (fun hk=>hk))))))) _ hs hk zkh zki zwH
def s71 (s1_a0:(Sl Int)) (s2_a1:(Sl Int)):Int :=
  (zwF s1_a0 s2_a1 s1_a0 (s1_a0.len:Int) (0:Int))
def p71 (s1_a0:(Sl Int)) (s2_a1:(Sl Int)):Bool :=
  (zwG s1_a0 s2_a1 s1_a0 (s1_a0.len:Int) (0:Int))
end
theorem q71 (s1_a0:(Sl Int)) (s2_a1:(Sl Int)) (K:List PA→Prop) (hs:p71 s1_a0 s2_a1=true) (hk:K (e71 (s71 s1_a0 s2_a1))):vcFun Tryd.prog G71 zDg 71 [.one (.sl s1_a0.len 1 (fun i=>zai (s1_a0.get i))),.one (.sl s2_a1.len 1 (fun i=>zai (s2_a1.get i)))] K :=
  zbd (by kernel_rfl) (zDk hs hk rfl rfl rfl)
def zDl : List PA → COut
  | [.one (.sl a0_n a0_s a0_g),.one (.sl a1_n a1_s a1_g)]=>.det (IsE zai 1 a0_s a0_g∧IsE zai 1 a1_s a1_g∧p71 (⟨a0_n,zar a0_g⟩:(Sl Int)) (⟨a1_n,zar a1_g⟩:(Sl Int))=true) [.one (.int .i64 (s71 (⟨a0_n,zar a0_g⟩:(Sl Int)) (⟨a1_n,zar a1_g⟩:(Sl Int))))]
  | _=>.no
theorem zGs:zaq Tryd.prog 71:=⟨_,rfl,rfl,by kernel_rfl⟩
theorem zJ9:Ok Tryd.prog 71 zDl:=zbG zIz zGs fun args K h=>by
  unfold zDl at h
  split at h
  · rename_i a0_n a0_s a0_g a1_n a1_s a1_g
    obtain ⟨⟨⟨rfl,a0_f,rfl⟩,⟨rfl,a1_f,rfl⟩,hs⟩,hk⟩:=h
    try rw [zbS a0_f] at hs
    try rw [zbS a0_f] at hk
    try rw [zbS a1_f] at hs
    try rw [zbS a1_f] at hk
    exact ⟨(fun _ _=>[]),(fun _=>false),zDg,q71 (⟨a0_n,a0_f⟩:(Sl Int)) (⟨a1_n,a1_f⟩:(Sl Int)) K hs hk⟩
  · exact h.elim
abbrev T70:Tabs:=(Tabs.nil.addF 71 zDl)
theorem zIA:TabsOk Tryd.prog T70:=(TabsOk.nil.addF zJ9)
abbrev G70:Ctrs:=csm T70 (fun _ _=>[]) (fun _=>false)
def zDm:Ann:=⟨33,[(0,zK [0,1] []),(1,zK [0,1,9] []),(3,zK [0,1,5] []),(4,zK [0,1,5,6] []),(5,zK [0,1,5,6,17] []),(6,zK [0,1,5,6] []),(7,zK [0,1,5,6,27] []),(8,zK [0,1,5,6] []),(9,zK [4] [])],
 [(5,zK [0,1,5,6] [])],
 [(3,zK [0,1] []),(8,zK [0,1,5,6,27] [])],
 [],[]⟩
abbrev R70:=(Sl Int)
abbrev e70 (r:R70):List PA:=[.one (.sl r.len 1 (fun i=>zai (r.get i)))]
@[irreducible] def z70:=ptF Tryd.prog G70 zDm Tryd.f70
def zA9 (x:(Sl (Sl Int))) (mv1:(Sl Int)) (iv1:Int) (zoK:Nat→List PV):St:=⟨[(0,zS zb1 1 x),(1,zP (.fn 71 [] [])),(5,zP (.sl mv1.len 1 zoK)),(6,zI iv1)],[],[]⟩
abbrev zDn (K:List PA→Prop) (x:(Sl (Sl Int))) (X:St→Prop) (P:(Sl Int)→Int→Bool) (S:(Sl Int)→Int→(Sl Int)):Prop:=∀ ⦃mv1:(Sl Int)⦄ ⦃iv1:Int⦄ ⦃zoK:Nat→List PV⦄,P mv1 iv1=true→K (e70 (S mv1 iv1))→zoK=zg zai mv1→X (zA9 x mv1 iv1 zoK)
section
variable {K:List PA→Prop} {x:(Sl (Sl Int))} {mv1:(Sl Int)} {iv1:Int} {zoK:Nat→List PV} {X1:St→Prop} {P1:(Sl Int)→Int→Bool} {S1:(Sl Int)→Int→(Sl Int)} {mv2:(Sl Int)} {iv2:Int} {zqV:Bool} {zGt:Nat→List PV}
def zwI (S1:(Sl Int)→Int→(Sl Int)) (x:(Sl (Sl Int))) (mv2:(Sl Int)) (iv2:Int) (zqV:Bool):(Sl Int) :=
  (cond zqV
 (S1 (x.get iv2.toNat) (w64 (iv2+(1:Int))))
 (S1 mv2 (w64 (iv2+(1:Int)))))
def zwJ (P1:(Sl Int)→Int→Bool) (x:(Sl (Sl Int))) (mv2:(Sl Int)) (iv2:Int) (zqV:Bool):Bool :=
  (cond zqV
 (decide ((0≤iv2∧iv2 < (x.len:Int))) &&
 (P1 (x.get iv2.toNat) (w64 (iv2+(1:Int)))))
 (P1 mv2 (w64 (iv2+(1:Int)))))
theorem zDo (hX1:zDn K x X1 P1 S1) (hs:zwJ P1 x mv2 iv2 zqV=true) (hk:K (e70 (zwI S1 x mv2 iv2 zqV))) (zIB:zGt=zg zai mv2):z70 K [1,1,1,0,1,0,0,1,0,0,1] [X1] ⟨[(0,zS zb1 1 x),(1,zP (.fn 71 [] [])),(5,zP (.sl mv2.len 1 zGt)),(6,zI iv2),(27,zB zqV)],[],[]⟩:=by subst zIB;exact zbd (by kernel_rfl) (zc hs hk (fun hs hk=>(za0 hs fun hc hs=>And.intro hc (hX1 hs hk rfl))) (fun hs hk=>(hX1 hs hk rfl)))
def zwK (x:(Sl (Sl Int))) (S1:(Sl Int)→Int→(Sl Int)) (mv1:(Sl Int)) (iv1:Int):(Sl Int) :=
  (cond (decide (iv1 < (x.len : Int)))
 (zwI S1 x mv1 iv1 (decide ((s71 (x.get iv1.toNat) mv1) < (0:Int))))
 mv1)
def zwL (x:(Sl (Sl Int))) (P1:(Sl Int)→Int→Bool) (mv1:(Sl Int)) (iv1:Int):Bool :=
  (cond (decide (iv1 < (x.len : Int)))
 (decide ((0≤iv1∧iv1 < (x.len:Int))) &&
 (decide ((p71 (x.get iv1.toNat) mv1=true)) &&
 (zwJ P1 x mv1 iv1 (decide ((s71 (x.get iv1.toNat) mv1) < (0:Int))))))
 true)
def zwM (x:(Sl (Sl Int))):Nat→(Sl Int)→Int→(Sl Int):=lpO (fun _ _=>default) (zwK x)
def zwN (x:(Sl (Sl Int))):Nat→(Sl Int)→Int→Bool:=lpO (fun _ _=>false) (zwL x)
def zwO (x:(Sl (Sl Int))) (mv1:(Sl Int)) (iv1:Int):(Sl Int):=zwM x Fuel mv1 iv1
def zwP (x:(Sl (Sl Int))) (mv1:(Sl Int)) (iv1:Int):Bool:=zwN x Fuel mv1 iv1
theorem zDp (hs:zwP x mv1 iv1=true) (hk:K (e70 (zwO x mv1 iv1))) (zDq:zoK=zg zai mv1):z70 K [1,1,1,0,1,0] [] (zA9 x mv1 iv1 zoK) :=
  zl (fun X=>z70 K [1,1,1,0,1,0,0] [X]) (by kernel_rfl) fun X1 hX =>
  (show ∀ k, zDn K x X1 (zwN x k) (zwM x k) from zk5 _ _ (zwL x) (zwK x) (zDn K x X1)
 (by intro _ _ _ hs;exact absurd hs Bool.false_ne_true)
 (by intro P1 S1 hX1 mv1 iv1 zoK hs hk zDq;subst zDq;exact hX _ (zbd (by kernel_rfl) (zc hs hk (fun hs hk=>(za0 hs fun hc hs=>And.intro hc (za0 hs fun hc hs=>And.intro (And.intro (zE zai 1 ((x.get iv1.toNat).get)) (And.intro (zE zai 1 mv1.get) hc)) (zDo hX1 hs hk rfl)))) (fun hs hk=>hk))))) _ hs hk zDq
def zwQ (x:(Sl (Sl Int))):(Sl Int) :=
  (zwO x (x.get 0) (1:Int))
def zwR (x:(Sl (Sl Int))):Bool :=
  (decide ((0≤(0:Int)∧(0:Int) < (x.len:Int))) &&
 (zwP x (x.get 0) (1:Int)))
theorem zDr (hs:zwR x=true) (hk:K (e70 (zwQ x))):z70 K [1,1] [] ⟨[(0,zS zb1 1 x),(1,zP (.fn 71 [] []))],[],[]⟩:=zbd (by kernel_rfl) (za0 hs fun hc hs=>And.intro hc (zDp hs hk rfl))
def s70 (x:(Sl (Sl Int))):(Sl Int) :=
  (cond (decide ((x.len : Int) < (1:Int)))
 default
 (zwQ x))
def p70 (x:(Sl (Sl Int))):Bool :=
  (cond (decide ((x.len : Int) < (1:Int)))
 false
 (zwR x))
end
theorem q70 (x:(Sl (Sl Int))) (K:List PA→Prop) (hs:p70 x=true) (hk:K (e70 (s70 x))):vcFun Tryd.prog G70 zDm 70 [.one (.sl x.len 1 (fun i=>zb1 (x.get i))),.one (.fn 71 [] [])] K :=
  zbd (by kernel_rfl) (zc hs hk (fun hs hk=>(absurd hs Bool.false_ne_true:False)) (fun hs hk=>(zDr hs hk)))
def zDs : List PA → COut
  | [.one (.sl a0_n a0_s a0_g),.one (.fn 71 [] [])]=>.det (IsE zb1 1 a0_s a0_g∧p70 (⟨a0_n,zmB a0_g⟩:(Sl (Sl Int)))=true) [.one (.sl ((s70 (⟨a0_n,zmB a0_g⟩:(Sl (Sl Int)))).len) 1 (fun i=>zai ((s70 (⟨a0_n,zmB a0_g⟩:(Sl (Sl Int)))).get i)))]
  | _=>.no
theorem zGu:zaq Tryd.prog 70:=⟨_,rfl,rfl,by kernel_rfl⟩
theorem zKa:Ok Tryd.prog 70 zDs:=zbG zIA zGu fun args K h=>by
  unfold zDs at h
  split at h
  · rename_i a0_n a0_s a0_g
    obtain ⟨⟨⟨rfl,a0_f,rfl⟩,hs⟩,hk⟩:=h
    try rw [zjO a0_f] at hs
    try rw [zjO a0_f] at hk
    exact ⟨(fun _ _=>[]),(fun _=>false),zDm,q70 (⟨a0_n,a0_f⟩:(Sl (Sl Int))) K hs hk⟩
  · exact h.elim
end Go.Proofs
namespace Go.Pm
open Go.RowKit (Below)
section
variable (P:Program) (Γ:Ctrs)
def zsA (fi : FuncId) : Code → Option (Nat × Nat)
  | .region id ops false=>match ops.toList with
    | [o1,o2]=>match o1.op,o1.dst,o1.guard,o2.op,o2.dst,o2.guard with
      | .makeFunc (.func f) first caps,some t,none,.defer { callee:=.value (.tmp t'),args,argTypes:=_ },none,none=>match Nat.beq f fi && Nat.beq t t' && first.isEmpty && args.isEmpty && Nat.beq caps.size 2 with
        | true=>some (id,t)
        | false=>none
      | _,_,_,_,_,_=>none
    | _=>none
  | _=>none
def zAg (fi : FuncId) (ann : Ann) : Code → (Exit → St → Prop) → St → Prop
  | .seq a b,K,σ=>match zsA fi a with
    | some (id,t)=>match Nat.blt t ann.nt with
      | true=>zBF P ann id (vc P Γ ann b K) ⟨(t,.junk) :: σ.env,σ.objs,[]⟩
      | false=>False
    | none=>vc P Γ ann a (zAC (zAg fi ann b K) K) σ
  | c,K,σ=>vc P Γ ann c K σ
def zsB (fi:FuncId) (ann:Ann) (f:FuncId) (args:List PA) (K:List PA→Prop):Prop :=
 match P.funcs[f]? with
 | some fn=>match fn.body with
  | some c=>match Nat.beq ann.nt fn.ntmps && Nat.ble args.length ann.nt with
   | true=>zAg P Γ fi ann c (za9 P fn K) ⟨zgL 0 args,[],[]⟩
   | false=>False
  | none=>False
 | none=>False
end
section
variable {P:Program} {Γ:Ctrs} {B:Nat} {w0:World}
theorem zlM {fi:FuncId} {c:Code} {id t:Nat} (h:zsA fi c=some (id,t)):∃ (o1 o2:Oper) (caps:Array Operand) (ats:Array TypeId),c=.region id #[o1,o2] false∧caps.size=2∧o1.op=.makeFunc (.func fi) #[] caps∧o1.dst=some t∧o1.guard=none ∧
  o2.op=.defer { callee:=.value (.tmp t),args:=#[],argTypes:=ats }∧o2.dst=none∧o2.guard=none:=by
 unfold zsA at h
 split at h
 ·rename_i id' ops
  split at h
  ·rename_i o1 o2 hops
   split at h
   ·rename_i f first caps t' t2 args ats e1 e2 e3 e4 e5 e6
    split at h
    ·rename_i hc
     simp only [Bool.and_eq_true] at hc
     simp only [Option.some.injEq,Prod.mk.injEq] at h
     obtain ⟨rfl,rfl⟩:=h
     obtain ⟨⟨⟨⟨h1,h2⟩,h3⟩,h4⟩,h5⟩:=hc
     have h5:=Nat.eq_of_beq_eq_true h5
     have h1:=Nat.eq_of_beq_eq_true h1
     have h2:=Nat.eq_of_beq_eq_true h2
     have h3:first = #[]:=by simpa using h3
     have h4:args = #[]:=by simpa using h4
     subst h1 h2 h3 h4
     refine ⟨o1,o2,caps,ats,?_,h5,e1,e2,e3,e4,e5,e6⟩
     rw [← Array.toArray_toList (xs:=ops),hops]
    ·cases h
   ·cases h
  ·cases h
 ·cases h
theorem ztG {fi : FuncId} (hidle : ∀ caps : Array Value, caps.size = 2 → zl0 P { target := .fn (.func fi) caps, args := #[] }) {c : Code} {id t nt n : Nat} {h0 : Fz} {D : List Nat} {a0 a : Act} {σ : St} {g : Gh} {w : World} {Q : Exit → Act → World → Prop}
    (h:zsA fi c=some (id,t)) (ht:t < nt) (htD:t∈D) (S:Sim P nt B w0 h0 g σ a w) (hkp:Kp D a0 a)
    (hQ:∀ a',Sim P nt B w0 h0 g ⟨(t,.junk) :: σ.env,σ.objs,[]⟩ a' w→Kp D a0 a'→Q .normal a' w):c.wpIn (FR none) n P Q a w:=by
  obtain ⟨o1,o2,caps,ats,rfl,e0,e1,e2,e3,e4,e5,e6⟩:=zlM h
  refine wpIn_region ?_
  show wpOpsIn (FR none) n P #[o1,o2] Q [0,1] a w
  have w1:∀ tm,Region.wanted o1 (yielded #[o1,o2] tm)=true:=fun tm=>by simp [Region.wanted,e3]
  have w2:∀ tm,Region.wanted o2 (yielded #[o1,o2] tm)=true:=fun tm=>by simp [Region.wanted,e6]
  have r1:(execOp a.eval o1).run P w=.ok (.value (.func (.func fi) #[] (caps.map a.eval))) w:=by
    simp only [execOp,e1,Instr.makeFunc,Sem.run_bind,Sem.run_pure,Result.andThen_ok];simp
  have ets:t < a.tmps.size:=Nat.lt_of_lt_of_le ht S.size
  have ev:(a.put (some t) (.func (.func fi) #[] (caps.map a.eval))).eval (.tmp t)=.func (.func fi) #[] (caps.map a.eval):=by
    simp [Act.put,Act.eval,Array.getD_eq_getD_getElem?,ets]
  have r2:(execOp (a.put (some t) (.func (.func fi) #[] (caps.map a.eval))).eval o2).run P w=.ok (.defer { target:=.fn (.func fi) (caps.map a.eval),args:=#[] }) w:=by
    simp only [execOp,e4,resolve,Sem.run_bind,ev,Deferred.ofValue,Sem.run_pure,Result.andThen_ok];simp
  show (if Region.wanted o1 (yielded #[o1,o2] a.tmps) then o1.wpIn (FR none) n P a w (wpOpsIn (FR none) n P #[o1,o2] Q [1]) Q else _)
  rw [if_pos (w1 _)]
  refine ⟨fun _ _=>trivial,?_⟩
  rw [show o1.semAt (FR none).round a.eval=execOp a.eval o1 from rfl,r1]
  show wpOpsIn (FR none) n P #[o1,o2] Q [1] (a.put o1.dst _) w
  rw [e2]
  show (if Region.wanted o2 (yielded #[o1,o2] (a.put (some t) _).tmps) then o2.wpIn (FR none) n P (a.put (some t) _) w (wpOpsIn (FR none) n P #[o1,o2] Q []) Q else _)
  rw [if_pos (w2 _)]
  refine ⟨fun _ _=>trivial,?_⟩
  have r3:Sem.run P (o2.semAt (FR none).round (a.put (some t) (.func (.func fi) #[] (caps.map a.eval))).eval) w=.ok (.defer { target:=.fn (.func fi) (caps.map a.eval),args:=#[] }) w:=r2
  rw [r3]
  have S1:=S.put (dst:=some t) (d:=.junk) (v:=.func (.func fi) #[] (caps.map a.eval)) (by simpa [zbt,Nat.blt_eq] using ht) trivial (fun L hL=>by simp [zaR,zbf,zaA] at hL) []
  refine hQ _ (S1.act ?_ ?_ ?_) ?_
  · obtain ⟨es, m1, m2, m3, m4⟩ := S1.dfr
    refine ⟨.inr { target:=.fn (.func fi) (caps.map a.eval),args:=#[] } :: es,m1,?_,fun E hE=>?_,fun d hd=>?_⟩
    · rw [e5,List.map_cons,← m2];rfl
    · rcases List.mem_cons.1 hE with e | hE
      · cases e
      · exact m3 E hE
    · rcases List.mem_cons.1 hd with e | hd
      · cases e;exact hidle _ (by simpa using e0)
      · exact m4 d hd
  · rw [e5];exact S1.size
  · rw [e5];exact S1.env
  · rw [e5]
    exact hkp.put (dst:=some t) (fun z hz=>by cases hz;exact htD) _ a.defers
theorem zwS (hok:OkAll P Γ) {fi:FuncId} (hidle:∀ caps:Array Value,caps.size=2→zl0 P { target:=.fn (.func fi) caps,args:=#[] }) (ann:Ann):∀ (c:Code) (n:Nat) (h0:Fz) (D:List Nat) (a0:Act) (K:Exit→St→Prop) (σ:St) (g:Gh) (a:Act) (w:World),
  (∀ t∈zgJ c,t∈D)→zAg P Γ fi ann c K σ→Sim P ann.nt B w0 h0 g σ a w→Kp D a0 a→c.wpIn (FR none) n P (PostR P ann.nt B w0 h0 D a0 K) a w
 | .seq x y,n,h0,D,a0,K,σ,g,a,w,hD,h,S,hkp=>by
  have hDx:∀ t∈zgJ x,t∈D:=fun t ht=>hD t (List.mem_append.2 (.inl ht))
  have hDy:∀ t∈zgJ y,t∈D:=fun t ht=>hD t (List.mem_append.2 (.inr ht))
  simp only [zAg] at h
  split at h
  ·rename_i id t hdf
   split at h
   ·rename_i hlt
    have ht:t < ann.nt:=by simpa [Nat.blt_eq] using hlt
    have htD:t∈D:=by
     obtain ⟨o1,o2,caps,ats,rfl,_,_,e2,_,_,e5,_⟩:=zlM hdf
     exact hDx t (by simp [zgJ,ztT,e2])
    refine wpIn_seq (ztG hidle hdf ht htD S hkp fun a' S' hk'=>?_)
    have hk:∀ s g2,vc P Γ ann y K s→Sim P ann.nt B w0 h0 g2 s a' w→y.wpIn (FR none) n P (PostR P ann.nt B w0 h0 D a0 K) a' w:=fun s g2 hv S2=>zdc hok ann y none n h0 D a0 K s g2 a' w hDy (Rnd.none h0) hv S2 hk'
    unfold zBF at h
    split at h
    ·split at h
     ·rename_i s hs
      obtain ⟨g2,S2⟩:=zbn hs S'
      exact hk s g2 h S2
     ·exact h.elim
    ·exact hk _ g h S'
   ·exact h.elim
  ·refine wpIn_seq (wpIn_mono (zdc hok ann x none n h0 D a0 _ σ g a w hDx (Rnd.none h0) h S hkp) ?_)
   rintro e a' w' ⟨g',σ',hK,S',hk'⟩
   cases e with
   | normal=>exact zwS hok hidle ann y n h0 D a0 K σ' g' a' w' hDy hK S' hk'
   | exit id=>exact ⟨g',σ',hK,S',hk'⟩
   | goto l=>exact ⟨g',σ',hK,S',hk'⟩
   | ret=>exact ⟨g',σ',hK,S',hk'⟩
   | panic ch=>exact ⟨g',σ',hK,S',hk'⟩
   | outgrown=>exact ⟨g',σ',hK,S',hk'⟩
 | .skip,n,h0,D,a0,K,σ,g,a,w,hD,h,S,hkp=>zdc hok ann .skip none n h0 D a0 K σ g a w hD (Rnd.none h0) h S hkp
 | .region i o d,n,h0,D,a0,K,σ,g,a,w,hD,h,S,hkp=>zdc hok ann (.region i o d) none n h0 D a0 K σ g a w hD (Rnd.none h0) h S hkp
 | .cond c x y,n,h0,D,a0,K,σ,g,a,w,hD,h,S,hkp=>zdc hok ann (.cond c x y) none n h0 D a0 K σ g a w hD (Rnd.none h0) h S hkp
 | .block i x,n,h0,D,a0,K,σ,g,a,w,hD,h,S,hkp=>zdc hok ann (.block i x) none n h0 D a0 K σ g a w hD (Rnd.none h0) h S hkp
 | .loop x,n,h0,D,a0,K,σ,g,a,w,hD,h,S,hkp=>zdc hok ann (.loop x) none n h0 D a0 K σ g a w hD (Rnd.none h0) h S hkp
 | .scope x,n,h0,D,a0,K,σ,g,a,w,hD,h,S,hkp=>zdc hok ann (.scope x) none n h0 D a0 K σ g a w hD (Rnd.none h0) h S hkp
 | .exit i,n,h0,D,a0,K,σ,g,a,w,hD,h,S,hkp=>zdc hok ann (.exit i) none n h0 D a0 K σ g a w hD (Rnd.none h0) h S hkp
 | .goto i,n,h0,D,a0,K,σ,g,a,w,hD,h,S,hkp=>zdc hok ann (.goto i) none n h0 D a0 K σ g a w hD (Rnd.none h0) h S hkp
 | .label i,n,h0,D,a0,K,σ,g,a,w,hD,h,S,hkp=>zdc hok ann (.label i) none n h0 D a0 K σ g a w hD (Rnd.none h0) h S hkp
 | .ret,n,h0,D,a0,K,σ,g,a,w,hD,h,S,hkp=>zdc hok ann .ret none n h0 D a0 K σ g a w hD (Rnd.none h0) h S hkp
 | .rangeFunc f p x y,n,h0,D,a0,K,σ,g,a,w,hD,h,S,hkp=>zdc hok ann (.rangeFunc f p x y) none n h0 D a0 K σ g a w hD (Rnd.none h0) h S hkp
 | .refuse x,n,h0,D,a0,K,σ,g,a,w,hD,h,S,hkp=>zdc hok ann (.refuse x) none n h0 D a0 K σ g a w hD (Rnd.none h0) h S hkp
theorem zAh {G : Ctrs} (hok : OkAll P G) {f fi : FuncId} (hidle : ∀ caps : Array Value, caps.size = 2 → zl0 P { target := .fn (.func fi) caps, args := #[] }) {args : List PA} {K : List PA → Prop} {ann : Ann} (hv : zsB P G fi ann f args K) {w : World} {h0 : Fz} {vs : List Value} (hvs : RL (paR h0) args vs) (hfz : Hw h0 w) (hgl : zdO h0) :
  Calls P f vs.toArray w fun e w'=>∃ (h':Fz) (rs:List PA) (v:Value),K rs∧e=.returned v∧znh h' rs v∧Bel h0 w.heap.size w w' ∧
   Fle h0 h'∧Hw h' w'∧∀ b o,h' b=some o→h0 b=some o∨w.heap.size≤b:=by
 unfold zsB at hv
 split at hv
 ·rename_i fn hfn
  split at hv
  ·rename_i c hbody
   split at hv
   ·rename_i hnt
    simp only [Bool.and_eq_true,Nat.ble_eq] at hnt
    have S:=zjJ (P:=P) (Nat.eq_of_beq_eq_true hnt.1) hnt.2 hvs hfz hgl
    have hwp:=zwS (B:=w.heap.size) (w0:=w) hok hidle ann c 0 h0 (zgJ c) _ _ _ _ _ _ (fun _ h=>h) hv S (Kp.refl _ _)
    refine (callsIn_wide (n:=0)).1 ?_
    refine callsIn_of_wp_marks (F:=FR none) hfn hbody trivial (wpIn_mono hwp ?_)
    have h0b:∀ b,h0 b=some (.fz (.deferred (some [])))→b < w.heap.size:=fun b h=>hfz.lt h
    rintro e a' w' ⟨g',σ',hK',S',_⟩
    have fin:zES P fn K σ'→LeavesInM (FR none) 0 P fn a'.tmps (fun e w'=>∃ (h':Fz) (rs:List PA) (v:Value),K rs∧e=.returned v∧znh h' rs v∧Bel h0 w.heap.size w w' ∧
      Fle h0 h'∧Hw h' w'∧∀ b o,h' b=some o→h0 b=some o∨w.heap.size≤b) a'.defers .returning w':=by
     intro hf
     obtain ⟨Ds,h1,h2,h3,h4⟩:=S'.dfr
     refine zjI h0b Ds g' a' w' h1 h2 h3 h4 S' fun g2 a2 w2 _ S2=>?_
     unfold zES at hf
     split at hf
     ·rename_i l hl
      obtain ⟨u,v,hu,hrun,hres⟩:=zjH S2 hl
      obtain ⟨h',S3,F⟩:=S2.freeze hu
      exact ⟨v,hrun,h',l,v,hf,rfl,hres h' F,S3.below,S3.le0,S3.hw,S3.hn⟩
     ·exact hf.elim
    cases e with
    | normal=>exact fin hK'
    | ret=>exact fin hK'
    | exit id=>exact hK'.elim
    | goto l=>exact hK'.elim
    | panic ch=>exact hK'.elim
    | outgrown=>exact hK'.elim
   ·exact hv.elim
  ·exact hv.elim
 ·exact hv.elim
theorem zAi {T : Tabs} (hT : TabsOk P T) {f fi : FuncId} {C : List PA → COut} (hc : zaq P f) (hidle : ∀ caps : Array Value, caps.size = 2 → zl0 P { target := .fn (.func fi) caps, args := #[] })
    (h:∀ args K,(C args).wp K→∃ args',RL PAle args args'∧∃ memo vv ann,zsB P (csm T memo vv) fi ann f args' (Wk K)):Ok P f C:=by
  intro args K hK w h0 vs hvs hfz hgl
  obtain ⟨args',hle,memo,vv,ann,hv⟩:=h args K hK
  refine ⟨hc,(zAh (hT.all memo vv) hidle hv (zvm (R:=paR h0) (S:=PAle) (T:=paR h0) (fun _ _ _ e r=>zzJ e r) _ _ _ hle hvs) hfz hgl).mono ?_⟩
  rintro e w' ⟨h',rs,v,⟨rs',hr,hk⟩,he,hres,rest⟩
  exact ⟨h',rs',v,hk,he,zvn hr hres,rest⟩
end
end Go.Pm
namespace Go.Pm
open Go Go.Proofs
set_option maxRecDepth 100000
theorem zGv:∀ caps:Array Value,caps.size=2→zl0 Tryd.prog { target:=.fn (.func 68) caps,args:=#[] }:=fun caps hc=>by
 match caps,hc with
 | ⟨[x,y]⟩,_ =>
 refine ⟨.func 68,#[x,y],68,#[x,y],rfl,fun w=>?_,fun n w=>?_⟩
 ·have h : zaq Tryd.prog 68 := ⟨_, rfl, rfl, by kernel_rfl⟩
  show (callFunc 68 (#[] ++ #[x,y])).run Tryd.prog w=_
  exact zb5 h
 have key:CallsDIn { fn:=fun _=>True,depth:=none,alive:=false,round:=none } n Tryd.prog 68 #[x,y] .returning w fun e u' w'=>e=.returned (.tuple #[])∧u'=.returning∧w'=w:=by
  refine callsDIn_of_wpSIn Tryd.func68 rfl trivial fun c₀ cs hu=>?_
  apply wpSIn_seq
  apply wpSIn_region
  simp [wpOpsSIn,go_sem,recoverD,hu,Tryd.ntmps68,Exit.thenS]
  apply wpSIn_seq
  apply wpSIn_region
  simp [wpOpsSIn,go_sem,recoverD,hu,Tryd.ntmps68,Exit.thenS]
  refine wpSIn_cond (t:=false) (by simp [Act.eval,Array.replicate]) ?_
  simp only [Bool.false_eq_true,if_false]
  refine wpSIn_of_wpIn rfl (wpIn_skip ?_)
  cases c₀
  simp_all [bodyPostS,results,Tryd.results68]
 exact key.mono fun e u' w' h=>⟨⟨_,h.1⟩,h.2⟩
end Go.Pm
namespace Go.Proofs
open Go Go.Pm
set_option maxRecDepth 100000
set_option linter.unusedVariables false
attribute [local irreducible] Go.Pm.vcFun Go.Pm.vc Go.Pm.vcIter
abbrev T22:Tabs:=(((Tabs.nil.addF 67 zvy).addM 69 zGq).addF 70 zDs)
theorem zIC:TabsOk Tryd.prog T22:=(((TabsOk.nil.addF zH5).addM zJ8).addF zKa)
abbrev G22:Ctrs:=csm T22 (fun _ _=>[]) (fun l=>Nat.beq l 12)
def zDt:Ann:=⟨29,[(0,zK [1,2,3] [1,2,3]),(1,zK [1,2,3,9] [1,2,3]),(2,zK [2,3] [2,3]),(3,zK [1,2,3] [1,2,3]),(4,zK [2,3,4] [2,3,12,14]),(5,zK [2,3,4,15] [2,3,12,14]),(6,zK [2,3,4,15,16] [2,3,12,14]),(7,zK [2,3,4,5,15] [2,3,12,14]),(8,zK [2,3,4,6,15] [2,3,12,14]),(9,zK [2,3,4,6,15,23] [2,3,12,14]),(10,zK [2,3] [2,3]),(11,zK [2,3,4,15] [2,3,12,14])],
 [(6,zK [2,3,4,15] [2,3,12,14])],
 [],
 [],[]⟩
abbrev R22:=((Sl Int)×Int)
abbrev e22 (r:R22):List PA:=[.one (.sl r.1.len 1 (fun i=>zai (r.1.get i))),.one (.int .i64 r.2)]
@[irreducible] def z22:=ptF Tryd.prog G22 zDt Tryd.f22
def zBa (zbg:Int) (zbk:Int) (zbb:(Sl Tie)) (zbl:Nat) (zbm:(List Int→Option (List Int))) (zc4:Nat→List PV):St:=⟨[(2,zp 2 0),(3,zp 3 0),(4,zp 14 0),(15,zI zbg)],[(2,.box 27 [.p (.nils)]),(3,.box 28 [zi (0:Int)]),(12,.mo 3 4 (false,1,false,[none]) zbl zbm),(14,.box 105 [zi zbk,.p (.sl zbb.len 4 zc4),.mo 12])],[]⟩
abbrev zGw (K:List PA→Prop) (X:St→Prop) (P:Int→Int→(Sl Tie)→Nat→(List Int→Option (List Int))→Bool) (S:Int→Int→(Sl Tie)→Nat→(List Int→Option (List Int))→((Sl Int)×Int)):Prop:=∀ ⦃zbg:Int⦄ ⦃zbk:Int⦄ ⦃zbb:(Sl Tie)⦄ ⦃zbl:Nat⦄ ⦃zbm:(List Int→Option (List Int))⦄ ⦃zc4:Nat→List PV⦄,P zbg zbk zbb zbl zbm=true→K (e22 (S zbg zbk zbb zbl zbm))→zc4=zg enc_40 zbb→X (zBa zbg zbk zbb zbl zbm zc4)
section
variable {K:List PA→Prop} {n:Net} {zbg:Int} {zbk:Int} {zbb:(Sl Tie)} {zbl:Nat} {zbm:(List Int→Option (List Int))} {zc4:Nat→List PV} {X0:St→Prop} {P0:Int→Int→(Sl Tie)→Nat→(List Int→Option (List Int))→Bool} {S0:Int→Int→(Sl Tie)→Nat→(List Int→Option (List Int))→((Sl Int)×Int)}
def zwT (S0:Int→Int→(Sl Tie)→Nat→(List Int→Option (List Int))→((Sl Int)×Int)) (zbg:Int) (zbk:Int) (zbb:(Sl Tie)) (zbl:Nat) (zbm:(List Int→Option (List Int))):((Sl Int)×Int) :=
  (cond (decide (zbg < (4:Int)))
 (cond (decide ((((s69 (⟨(⟨zbk, zbb⟩ : Net), (⟨zbl, zbm⟩ : Mp)⟩ : web) zbg).1).len : Int) > (0:Int)))
 ((s70 ((s69 (⟨(⟨zbk,zbb⟩:Net),(⟨zbl,zbm⟩:Mp)⟩:web) zbg).1)),(0:Int))
 (S0 (w64 (zbg+(1:Int))) (((s69 (⟨(⟨zbk,zbb⟩:Net),(⟨zbl,zbm⟩:Mp)⟩:web) zbg).2).Net.Nodes) (((s69 (⟨(⟨zbk,zbb⟩:Net),(⟨zbl,zbm⟩:Mp)⟩:web) zbg).2).Net.Ties) ((((s69 (⟨(⟨zbk,zbb⟩:Net),(⟨zbl,zbm⟩:Mp)⟩:web) zbg).2).out).n) ((((s69 (⟨(⟨zbk,zbb⟩:Net),(⟨zbl,zbm⟩:Mp)⟩:web) zbg).2).out).F)))
 default)
def zwU (P0:Int→Int→(Sl Tie)→Nat→(List Int→Option (List Int))→Bool) (zbg:Int) (zbk:Int) (zbb:(Sl Tie)) (zbl:Nat) (zbm:(List Int→Option (List Int))):Bool :=
  (cond (decide (zbg < (4:Int)))
 (decide ((p69 (⟨(⟨zbk,zbb⟩:Net),(⟨zbl,zbm⟩:Mp)⟩:web) zbg=true)) &&
 (cond (decide ((((s69 (⟨(⟨zbk, zbb⟩ : Net), (⟨zbl, zbm⟩ : Mp)⟩ : web) zbg).1).len : Int) > (0:Int)))
 (decide ((p70 ((s69 (⟨(⟨zbk,zbb⟩:Net),(⟨zbl,zbm⟩:Mp)⟩:web) zbg).1)=true)) &&
 true)
 (P0 (w64 (zbg+(1:Int))) (((s69 (⟨(⟨zbk,zbb⟩:Net),(⟨zbl,zbm⟩:Mp)⟩:web) zbg).2).Net.Nodes) (((s69 (⟨(⟨zbk,zbb⟩:Net),(⟨zbl,zbm⟩:Mp)⟩:web) zbg).2).Net.Ties) ((((s69 (⟨(⟨zbk,zbb⟩:Net),(⟨zbl,zbm⟩:Mp)⟩:web) zbg).2).out).n) ((((s69 (⟨(⟨zbk,zbb⟩:Net),(⟨zbl,zbm⟩:Mp)⟩:web) zbg).2).out).F))))
 false)
def zwV:Nat→Int→Int→(Sl Tie)→Nat→(List Int→Option (List Int))→((Sl Int)×Int):=lpO (fun _ _ _ _ _=>default) (zwT)
def zwW:Nat→Int→Int→(Sl Tie)→Nat→(List Int→Option (List Int))→Bool:=lpO (fun _ _ _ _ _=>false) (zwU)
def zwX (zbg:Int) (zbk:Int) (zbb:(Sl Tie)) (zbl:Nat) (zbm:(List Int→Option (List Int))):((Sl Int)×Int):=zwV Fuel zbg zbk zbb zbl zbm
def zwY (zbg:Int) (zbk:Int) (zbb:(Sl Tie)) (zbl:Nat) (zbm:(List Int→Option (List Int))):Bool:=zwW Fuel zbg zbk zbb zbl zbm
theorem zDu (hs:zwY zbg zbk zbb zbl zbm=true) (hk:K (e22 (zwX zbg zbk zbb zbl zbm))) (zkK:zc4=zg enc_40 zbb):z22 (Wk K) [1,1,1,1,0,1,0] [] (zBa zbg zbk zbb zbl zbm zc4) :=
  zl (fun X=>z22 (Wk K) [1,1,1,1,0,1,0,0] [X]) (by kernel_rfl) fun X0 hX =>
  (show ∀ k, zGw K X0 (zwW k) (zwV k) from zk5 _ _ (zwU) (zwT) (zGw K X0)
 (by intro _ _ _ _ _ _ hs;exact absurd hs Bool.false_ne_true)
 (by intro P0 S0 hX0 zbg zbk zbb zbl zbm zc4 hs hk zkK;subst zkK;exact hX _ (zbd (by kernel_rfl) (zc hs hk (fun hs hk=>(za0 hs fun hc hs=>And.intro (And.intro (zE enc_40 4 zbb.get) (And.intro (rfl:((false,1,false,[none]):MQ)=(false,1,false,[none])) hc)) (zc hs hk (fun hs hk=>(za0 hs fun hc hs=>And.intro (And.intro (zE zb1 1 (((s69 (⟨(⟨zbk,zbb⟩:Net),(⟨zbl,zbm⟩:Mp)⟩:web) zbg).1).get)) hc) ((zf2 hk):Wk K [.one (.sl ((s70 ((s69 (⟨(⟨zbk,zbb⟩:Net),(⟨zbl,zbm⟩:Mp)⟩:web) zbg).1)).len) 1 (fun i=>zai ((s70 ((s69 (⟨(⟨zbk,zbb⟩:Net),(⟨zbl,zbm⟩:Mp)⟩:web) zbg).1)).get i))),.one (.int .i64 (0:Int))]))) (fun hs hk=>(hX0 hs hk rfl))))) (fun hs hk=>(absurd hs Bool.false_ne_true:False)))))) _ hs hk zkK
def s22 (n:Net):((Sl Int)×Int) :=
  (cond (!(s67 n))
 ((⟨0,fun _=>default⟩:(Sl Int)),(2:Int))
 (zwX (0:Int) n.Nodes n.Ties 0 (fun _=>none)))
def p22 (n:Net):Bool :=
  (decide ((p67 n=true)) &&
 (cond (!(s67 n))
 true
 (zwY (0:Int) n.Nodes n.Ties 0 (fun _=>none))))
end
theorem q22 (n:Net) (K:List PA→Prop) (hs:p22 n=true) (hk:K (e22 (s22 n))):zsB Tryd.prog G22 68 zDt 22 [.agg (enc_24 n)] (Wk K) :=
  zbd (by kernel_rfl) (za0 hs fun hc hs=>And.intro (And.intro (zE enc_40 4 n.Ties.get) hc) (zc hs hk (fun hs hk=>((wk hk (zhk (.one (.nil _ _)) (zhk (.one (.rfl _)) zn7))):Wk K [.one (.nils),.one (.int .i64 (2:Int))])) (fun hs hk=>(zDu hs hk rfl))))
def zDv : List PA → COut
  | [.agg [.int .i64 a0_Nodes,.sl a0_Ties_n a0_Ties_s a0_Ties_g]]=>.det (IsE enc_40 4 a0_Ties_s a0_Ties_g∧p22 (⟨a0_Nodes,(⟨a0_Ties_n,zaa a0_Ties_g⟩:(Sl Tie))⟩:Net)=true) [.one (.sl (((s22 (⟨a0_Nodes,(⟨a0_Ties_n,zaa a0_Ties_g⟩:(Sl Tie))⟩:Net)).1).len) 1 (fun i=>zai (((s22 (⟨a0_Nodes,(⟨a0_Ties_n,zaa a0_Ties_g⟩:(Sl Tie))⟩:Net)).1).get i))),.one (.int .i64 ((s22 (⟨a0_Nodes,(⟨a0_Ties_n,zaa a0_Ties_g⟩:(Sl Tie))⟩:Net)).2))]
  | _=>.no
theorem zGx:zaq Tryd.prog 22:=⟨_,rfl,rfl,by kernel_rfl⟩
theorem zKb:Ok Tryd.prog 22 zDv:=zAi zIC zGx zGv fun args K h=>by
  unfold zDv at h
  split at h
  · rename_i a0_Nodes a0_Ties_n a0_Ties_s a0_Ties_g
    obtain ⟨⟨⟨rfl,a0_Ties_f,rfl⟩,hs⟩,hk⟩:=h
    try rw [zan a0_Ties_f] at hs
    try rw [zan a0_Ties_f] at hk
    exact ⟨_,ze8 zf1 _,(fun _ _=>[]),(fun l=>Nat.beq l 12),zDt,q22 (⟨a0_Nodes,(⟨a0_Ties_n,a0_Ties_f⟩:(Sl Tie))⟩:Net) K hs hk⟩
  · exact h.elim
abbrev T25:Tabs:=Tabs.nil
theorem zID:TabsOk Tryd.prog T25:=TabsOk.nil
abbrev G25:Ctrs:=csm T25 (fun _ _=>[]) (fun _=>false)
def zDw:Ann:=⟨26,[(0,zK [0,1] []),(1,zK [0,1,10] []),(2,zK [4] []),(3,zK [0,1,5] []),(4,zK [0,1,5,14] []),(5,zK [0,1,5] []),(6,zK [0,1,5,25] []),(7,zK [4] []),(8,zK [4] [])],
 [(4,zK [0,1,5] [])],
 [(3,zK [0,1] [])],
 [],[]⟩
abbrev R25:=Bool
abbrev e25 (r:R25):List PA:=[.one (.bool r)]
@[irreducible] def z25:=ptF Tryd.prog G25 zDw Tryd.f25
def zBb (a:(Sl Int)) (b:(Sl Int)) (iv1:Int):St:=⟨[(0,zS zai 1 a),(1,zS zai 1 b),(5,zI iv1)],[],[]⟩
abbrev zGy (K:List PA→Prop) (a:(Sl Int)) (b:(Sl Int)) (X:St→Prop) (P:Int→Bool) (S:Int→Bool):Prop:=∀ ⦃iv1:Int⦄,P iv1=true→K (e25 (S iv1))→X (zBb a b iv1)
section
variable {K:List PA→Prop} {a:(Sl Int)} {b:(Sl Int)} {iv1:Int} {X1:St→Prop} {P1:Int→Bool} {S1:Int→Bool}
def zwZ (a:(Sl Int)) (b:(Sl Int)) (S1:Int→Bool) (iv1:Int):Bool :=
  (cond (decide (iv1 < (a.len : Int)))
 (cond ((a.get iv1.toNat) != (b.get iv1.toNat))
 false
 (S1 (w64 (iv1+(1:Int)))))
 true)
def zw0 (a:(Sl Int)) (b:(Sl Int)) (P1:Int→Bool) (iv1:Int):Bool :=
  (cond (decide (iv1 < (a.len : Int)))
 (decide ((0≤iv1∧iv1 < (a.len:Int))) &&
 (decide ((0≤iv1∧iv1 < (b.len:Int))) &&
 (cond ((a.get iv1.toNat) != (b.get iv1.toNat))
 true
 (P1 (w64 (iv1+(1:Int)))))))
 true)
def zw1 (a:(Sl Int)) (b:(Sl Int)):Nat→Int→Bool:=lpO (fun _=>default) (zwZ a b)
def zw2 (a:(Sl Int)) (b:(Sl Int)):Nat→Int→Bool:=lpO (fun _=>false) (zw0 a b)
def zw3 (a:(Sl Int)) (b:(Sl Int)) (iv1:Int):Bool:=zw1 a b Fuel iv1
def zw4 (a:(Sl Int)) (b:(Sl Int)) (iv1:Int):Bool:=zw2 a b Fuel iv1
theorem zDx (hs:zw4 a b iv1=true) (hk:K (e25 (zw3 a b iv1))):z25 K [1,1,0,1,0] [] (zBb a b iv1) :=
  zl (fun X=>z25 K [1,1,0,1,0,0] [X]) (by kernel_rfl) fun X1 hX =>
  (show ∀ k, zGy K a b X1 (zw2 a b k) (zw1 a b k) from zk5 _ _ (zw0 a b) (zwZ a b) (zGy K a b X1)
 (by intro _ hs;exact absurd hs Bool.false_ne_true)
 (by intro P1 S1 hX1 iv1 hs hk;exact hX _ (zbd (by kernel_rfl) (zc hs hk (fun hs hk=>(za0 hs fun hc hs=>And.intro hc (za0 hs fun hc hs=>And.intro hc (zc hs hk (fun hs hk=>hk) (fun hs hk=>(hX1 hs hk)))))) (fun hs hk=>hk))))) _ hs hk
def zw5 (a:(Sl Int)) (b:(Sl Int)):Bool :=
  (zw3 a b (0:Int))
def zw6 (a:(Sl Int)) (b:(Sl Int)):Bool :=
  (zw4 a b (0:Int))
theorem zDy (hs:zw6 a b=true) (hk:K (e25 (zw5 a b))):z25 K [1,1] [] ⟨[(0,zS zai 1 a),(1,zS zai 1 b)],[],[]⟩:=zbd (by kernel_rfl) (zDx hs hk)
def s25 (a:(Sl Int)) (b:(Sl Int)):Bool :=
  (cond ((a.len : Int) != (b.len : Int))
 false
 (zw5 a b))
def p25 (a:(Sl Int)) (b:(Sl Int)):Bool :=
  (cond ((a.len : Int) != (b.len : Int))
 true
 (zw6 a b))
end
theorem q25 (a:(Sl Int)) (b:(Sl Int)) (K:List PA→Prop) (hs:p25 a b=true) (hk:K (e25 (s25 a b))):vcFun Tryd.prog G25 zDw 25 [.one (.sl a.len 1 (fun i=>zai (a.get i))),.one (.sl b.len 1 (fun i=>zai (b.get i)))] K :=
  zbd (by kernel_rfl) (zc hs hk (fun hs hk=>hk) (fun hs hk=>(zDy hs hk)))
def zDz : List PA → COut
  | [.one (.sl a0_n a0_s a0_g),.one (.sl a1_n a1_s a1_g)]=>.det (IsE zai 1 a0_s a0_g∧IsE zai 1 a1_s a1_g∧p25 (⟨a0_n,zar a0_g⟩:(Sl Int)) (⟨a1_n,zar a1_g⟩:(Sl Int))=true) [.one (.bool (s25 (⟨a0_n,zar a0_g⟩:(Sl Int)) (⟨a1_n,zar a1_g⟩:(Sl Int))))]
  | _=>.no
theorem zGz:zaq Tryd.prog 25:=⟨_,rfl,rfl,by kernel_rfl⟩
theorem zKc:Ok Tryd.prog 25 zDz:=zbG zID zGz fun args K h=>by
  unfold zDz at h
  split at h
  · rename_i a0_n a0_s a0_g a1_n a1_s a1_g
    obtain ⟨⟨⟨rfl,a0_f,rfl⟩,⟨rfl,a1_f,rfl⟩,hs⟩,hk⟩:=h
    try rw [zbS a0_f] at hs
    try rw [zbS a0_f] at hk
    try rw [zbS a1_f] at hs
    try rw [zbS a1_f] at hk
    exact ⟨(fun _ _=>[]),(fun _=>false),zDw,q25 (⟨a0_n,a0_f⟩:(Sl Int)) (⟨a1_n,a1_f⟩:(Sl Int)) K hs hk⟩
  · exact h.elim
abbrev T32:Tabs:=Tabs.nil
theorem zIE:TabsOk Tryd.prog T32:=TabsOk.nil
abbrev G32:Ctrs:=csm T32 (fun _ _=>[]) (fun _=>false)
def zDA:Ann:=⟨26,[(0,zK [0,1] []),(1,zK [0,1,10] []),(2,zK [4] []),(3,zK [0,1,5] []),(4,zK [0,1,5,14] []),(5,zK [0,1,5] []),(6,zK [0,1,5,25] []),(7,zK [4] []),(8,zK [4] [])],
 [(4,zK [0,1,5] [])],
 [(3,zK [0,1] [])],
 [],[]⟩
abbrev R32:=Bool
abbrev e32 (r:R32):List PA:=[.one (.bool r)]
@[irreducible] def z32:=ptF Tryd.prog G32 zDA Tryd.f32
def zBc (a:(Sl Span)) (b:(Sl Span)) (iv1:Int):St:=⟨[(0,zS zaW 2 a),(1,zS zaW 2 b),(5,zI iv1)],[],[]⟩
abbrev zGA (K:List PA→Prop) (a:(Sl Span)) (b:(Sl Span)) (X:St→Prop) (P:Int→Bool) (S:Int→Bool):Prop:=∀ ⦃iv1:Int⦄,P iv1=true→K (e32 (S iv1))→X (zBc a b iv1)
section
variable {K:List PA→Prop} {a:(Sl Span)} {b:(Sl Span)} {iv1:Int} {X1:St→Prop} {P1:Int→Bool} {S1:Int→Bool}
def zw7 (a:(Sl Span)) (b:(Sl Span)) (S1:Int→Bool) (iv1:Int):Bool :=
  (cond (decide (iv1 < (a.len : Int)))
 (cond (!(match ((a.get iv1.toNat).Low == (b.get iv1.toNat).Low) with | true => (match ((a.get iv1.toNat).High == (b.get iv1.toNat).High) with | true => true | false => false) | false => false))
 false
 (S1 (w64 (iv1+(1:Int)))))
 true)
def zw8 (a:(Sl Span)) (b:(Sl Span)) (P1:Int→Bool) (iv1:Int):Bool :=
  (cond (decide (iv1 < (a.len : Int)))
 (decide ((0≤iv1∧iv1 < (a.len:Int))) &&
 (decide ((0≤iv1∧iv1 < (b.len:Int))) &&
 (cond (!(match ((a.get iv1.toNat).Low == (b.get iv1.toNat).Low) with | true => (match ((a.get iv1.toNat).High == (b.get iv1.toNat).High) with | true => true | false => false) | false => false))
 true
 (P1 (w64 (iv1+(1:Int)))))))
 true)
def zw9 (a:(Sl Span)) (b:(Sl Span)):Nat→Int→Bool:=lpO (fun _=>default) (zw7 a b)
def zxa (a:(Sl Span)) (b:(Sl Span)):Nat→Int→Bool:=lpO (fun _=>false) (zw8 a b)
def zxb (a:(Sl Span)) (b:(Sl Span)) (iv1:Int):Bool:=zw9 a b Fuel iv1
def zxc (a:(Sl Span)) (b:(Sl Span)) (iv1:Int):Bool:=zxa a b Fuel iv1
theorem zDB (hs:zxc a b iv1=true) (hk:K (e32 (zxb a b iv1))):z32 K [1,1,0,1,0] [] (zBc a b iv1) :=
  zl (fun X=>z32 K [1,1,0,1,0,0] [X]) (by kernel_rfl) fun X1 hX =>
  (show ∀ k, zGA K a b X1 (zxa a b k) (zw9 a b k) from zk5 _ _ (zw8 a b) (zw7 a b) (zGA K a b X1)
 (by intro _ hs;exact absurd hs Bool.false_ne_true)
 (by intro P1 S1 hX1 iv1 hs hk;exact hX _ (zbd (by kernel_rfl) (zc hs hk (fun hs hk=>(za0 hs fun hc hs=>And.intro hc (za0 hs fun hc hs=>And.intro hc (zc hs hk (fun hs hk=>hk) (fun hs hk=>(hX1 hs hk)))))) (fun hs hk=>hk))))) _ hs hk
def zxd (a:(Sl Span)) (b:(Sl Span)):Bool :=
  (zxb a b (0:Int))
def zxe (a:(Sl Span)) (b:(Sl Span)):Bool :=
  (zxc a b (0:Int))
theorem zDC (hs:zxe a b=true) (hk:K (e32 (zxd a b))):z32 K [1,1] [] ⟨[(0,zS zaW 2 a),(1,zS zaW 2 b)],[],[]⟩:=zbd (by kernel_rfl) (zDB hs hk)
def s32 (a:(Sl Span)) (b:(Sl Span)):Bool :=
  (cond ((a.len : Int) != (b.len : Int))
 false
 (zxd a b))
def p32 (a:(Sl Span)) (b:(Sl Span)):Bool :=
  (cond ((a.len : Int) != (b.len : Int))
 true
 (zxe a b))
end
theorem q32 (a:(Sl Span)) (b:(Sl Span)) (K:List PA→Prop) (hs:p32 a b=true) (hk:K (e32 (s32 a b))):vcFun Tryd.prog G32 zDA 32 [.one (.sl a.len 2 (fun i=>zaW (a.get i))),.one (.sl b.len 2 (fun i=>zaW (b.get i)))] K :=
  zbd (by kernel_rfl) (zc hs hk (fun hs hk=>hk) (fun hs hk=>(zDC hs hk)))
def zDD : List PA → COut
  | [.one (.sl a0_n a0_s a0_g),.one (.sl a1_n a1_s a1_g)]=>.det (IsE zaW 2 a0_s a0_g∧IsE zaW 2 a1_s a1_g∧p32 (⟨a0_n,ze9 a0_g⟩:(Sl Span)) (⟨a1_n,ze9 a1_g⟩:(Sl Span))=true) [.one (.bool (s32 (⟨a0_n,ze9 a0_g⟩:(Sl Span)) (⟨a1_n,ze9 a1_g⟩:(Sl Span))))]
  | _=>.no
theorem zGB:zaq Tryd.prog 32:=⟨_,rfl,rfl,by kernel_rfl⟩
theorem ok32:Ok Tryd.prog 32 zDD:=zbG zIE zGB fun args K h=>by
  unfold zDD at h
  split at h
  · rename_i a0_n a0_s a0_g a1_n a1_s a1_g
    obtain ⟨⟨⟨rfl,a0_f,rfl⟩,⟨rfl,a1_f,rfl⟩,hs⟩,hk⟩:=h
    try rw [zeA a0_f] at hs
    try rw [zeA a0_f] at hk
    try rw [zeA a1_f] at hs
    try rw [zeA a1_f] at hk
    exact ⟨(fun _ _=>[]),(fun _=>false),zDA,q32 (⟨a0_n,a0_f⟩:(Sl Span)) (⟨a1_n,a1_f⟩:(Sl Span)) K hs hk⟩
  · exact h.elim
abbrev T83:Tabs:=((Tabs.nil.addF 75 zvO).addF 76 zvU)
theorem zIF:TabsOk Tryd.prog T83:=((TabsOk.nil.addF zIf).addF zIh)
abbrev G83:Ctrs:=csm T83 (fun _ _=>[]) (fun _=>false)
def zDE:Ann:=⟨31,[(0,zK [0] []),(1,zK [0,3,4] [3,4]),(2,zK [3,4,14,15] [3,4]),(3,zK [3,4,14,15,16] [3,4]),(4,zK [3,4,5,14,15] [3,4]),(5,zK [3,4,14,15,29] [3,4]),(6,zK [2] []),(7,zK [3,4,14,15] [3,4]),(8,zK [2] [])],
 [(3,zK [3,4,14,15] [3,4])],
 [(2,zK [0,3,4] [3,4])],
 [],[]⟩
abbrev R83:=Bool
abbrev e83 (r:R83):List PA:=[.one (.bool r)]
@[irreducible] def z83:=ptF Tryd.prog G83 zDE Tryd.f83
def zBd (w:web) (zcy:Int) (tot1:Tab) (fromt1:Tab):St:=⟨[(3,zp 3 0),(4,zp 4 0),(14,zI w.Net.Nodes),(15,zI zcy)],[(3,.box 116 (zm (zad tot1))),(4,.box 116 (zm (zad fromt1)))],[]⟩
abbrev zGC (K:List PA→Prop) (w:web) (X:St→Prop) (P:Int→Tab→Tab→Bool) (S:Int→Tab→Tab→Bool):Prop:=∀ ⦃zcy:Int⦄ ⦃tot1:Tab⦄ ⦃fromt1:Tab⦄,P zcy tot1 fromt1=true→K (e83 (S zcy tot1 fromt1))→X (zBd w zcy tot1 fromt1)
section
variable {K:List PA→Prop} {w:web} {tot0:Tab} {fromt0:Tab} {zcy:Int} {tot1:Tab} {fromt1:Tab} {X1:St→Prop} {P1:Int→Tab→Tab→Bool} {S1:Int→Tab→Tab→Bool}
def zxf (w:web) (S1:Int→Tab→Tab→Bool) (zcy:Int) (tot1:Tab) (fromt1:Tab):Bool :=
  (cond (decide (zcy < w.Net.Nodes))
 (cond (match ((tg 80 tot1 (0 + zcy.toNat * 2 + 0)) == (1000000000000:Int)) with | true => (match ((tg 80 tot1 (0 + zcy.toNat * 2 + 0 + 1)) == (0:Int)) with | true => true | false => false) | false => false)
 false
 (cond (match ((tg 80 fromt1 (0 + zcy.toNat * 2 + 0)) == (1000000000000:Int)) with | true => (match ((tg 80 fromt1 (0 + zcy.toNat * 2 + 0 + 1)) == (0:Int)) with | true => true | false => false) | false => false)
 false
 (S1 (w64 (zcy+(1:Int))) tot1 fromt1)))
 true)
def zxg (w:web) (P1:Int→Tab→Tab→Bool) (zcy:Int) (tot1:Tab) (fromt1:Tab):Bool :=
  (cond (decide (zcy < w.Net.Nodes))
 (decide ((0≤zcy∧zcy < (40:Int))) &&
 (cond (match ((tg 80 tot1 (0 + zcy.toNat * 2 + 0)) == (1000000000000:Int)) with | true => (match ((tg 80 tot1 (0 + zcy.toNat * 2 + 0 + 1)) == (0:Int)) with | true => true | false => false) | false => false)
 true
 (decide ((0≤zcy∧zcy < (40:Int))) &&
 (cond (match ((tg 80 fromt1 (0 + zcy.toNat * 2 + 0)) == (1000000000000:Int)) with | true => (match ((tg 80 fromt1 (0 + zcy.toNat * 2 + 0 + 1)) == (0:Int)) with | true => true | false => false) | false => false)
 true
 (P1 (w64 (zcy+(1:Int))) tot1 fromt1)))))
 true)
def zxh (w:web):Nat→Int→Tab→Tab→Bool:=lpO (fun _ _ _=>default) (zxf w)
def zxi (w:web):Nat→Int→Tab→Tab→Bool:=lpO (fun _ _ _=>false) (zxg w)
def zxj (w:web) (zcy:Int) (tot1:Tab) (fromt1:Tab):Bool:=zxh w Fuel zcy tot1 fromt1
def zxk (w:web) (zcy:Int) (tot1:Tab) (fromt1:Tab):Bool:=zxi w Fuel zcy tot1 fromt1
theorem zDF (hs:zxk w zcy tot1 fromt1=true) (hk:K (e83 (zxj w zcy tot1 fromt1))):z83 K [1,1,0,1,0] [] (zBd w zcy tot1 fromt1) :=
  zl (fun X=>z83 K [1,1,0,1,0,0] [X]) (by kernel_rfl) fun X1 hX =>
  (show ∀ k, zGC K w X1 (zxi w k) (zxh w k) from zk5 _ _ (zxg w) (zxf w) (zGC K w X1)
 (by intro _ _ _ hs;exact absurd hs Bool.false_ne_true)
 (by intro P1 S1 hX1 zcy tot1 fromt1 hs hk;exact hX _ (zbd (by kernel_rfl) (zc hs hk (fun hs hk=>(za0 hs fun hc hs=>And.intro hc (zc hs hk (fun hs hk=>hk) (fun hs hk=>(za0 hs fun hc hs=>And.intro hc (zc hs hk (fun hs hk=>hk) (fun hs hk=>(hX1 hs hk)))))))) (fun hs hk=>hk))))) _ hs hk
def zxl (w:web) (tot0:Tab) (fromt0:Tab):Bool :=
  (zxj w (0:Int) tot0 fromt0)
def zxm (w:web) (tot0:Tab) (fromt0:Tab):Bool :=
  (zxk w (0:Int) tot0 fromt0)
theorem zDG (hs:zxm w tot0 fromt0=true) (hk:K (e83 (zxl w tot0 fromt0))):z83 K [1,1] [] ⟨[(0,zP (.fp (zau w) 0)),(3,zp 3 0),(4,zp 4 0)],[(3,.box 116 (zm (zad tot0))),(4,.box 116 (zm (zad fromt0)))],[]⟩:=zbd (by kernel_rfl) (zDF hs hk)
def s83 (w:web):Bool :=
  (zxl w (s75 w (0:Int)) (s76 w (0:Int)))
def p83 (w:web):Bool :=
  (decide ((p75 w (0:Int)=true)) &&
 (decide ((p76 w (0:Int)=true)) &&
 (zxm w (s75 w (0:Int)) (s76 w (0:Int)))))
end
theorem q83 (w:web) (K:List PA→Prop) (hs:p83 w=true) (hk:K (e83 (s83 w))):vcFun Tryd.prog G83 zDE 83 [.one (.fp (zau w) 0)] K :=
  zbd (by kernel_rfl) (za0 hs fun hc hs=>And.intro (And.intro (zE enc_40 4 w.Net.Ties.get) (And.intro (rfl:((false,1,false,[none]):MQ)=(false,1,false,[none])) hc)) (za0 hs fun hc hs=>And.intro (And.intro (zE enc_40 4 w.Net.Ties.get) (And.intro (rfl:((false,1,false,[none]):MQ)=(false,1,false,[none])) hc)) (zDG hs hk)))
def zDH : List PA → COut
  | [.one (.fp [.int .i64 a0_Net_Nodes,.sl a0_Net_Ties_n a0_Net_Ties_s a0_Net_Ties_g,.fm a0_out_q a0_out_n a0_out_F] 0)]=>.det (IsE enc_40 4 a0_Net_Ties_s a0_Net_Ties_g∧a0_out_q=(false,1,false,[none])∧p83 (⟨(⟨a0_Net_Nodes,(⟨a0_Net_Ties_n,zaa a0_Net_Ties_g⟩:(Sl Tie))⟩:Net),(⟨a0_out_n,a0_out_F⟩:Mp)⟩:web)=true) [.one (.bool (s83 (⟨(⟨a0_Net_Nodes,(⟨a0_Net_Ties_n,zaa a0_Net_Ties_g⟩:(Sl Tie))⟩:Net),(⟨a0_out_n,a0_out_F⟩:Mp)⟩:web)))]
  | _=>.no
theorem zGD:zaq Tryd.prog 83:=⟨_,rfl,rfl,by kernel_rfl⟩
theorem zKd:Ok Tryd.prog 83 zDH:=zbG zIF zGD fun args K h=>by
  unfold zDH at h
  split at h
  · rename_i a0_Net_Nodes a0_Net_Ties_n a0_Net_Ties_s a0_Net_Ties_g a0_out_q a0_out_n a0_out_F
    obtain ⟨⟨⟨rfl,a0_Net_Ties_f,rfl⟩,rfl,hs⟩,hk⟩:=h
    try rw [zan a0_Net_Ties_f] at hs
    try rw [zan a0_Net_Ties_f] at hk
    exact ⟨(fun _ _=>[]),(fun _=>false),zDE,q83 (⟨(⟨a0_Net_Nodes,(⟨a0_Net_Ties_n,a0_Net_Ties_f⟩:(Sl Tie))⟩:Net),(⟨a0_out_n,a0_out_F⟩:Mp)⟩:web) K hs hk⟩
  · exact h.elim
abbrev T87:Tabs:=Tabs.nil
theorem zIG:TabsOk Tryd.prog T87:=TabsOk.nil
abbrev G87:Ctrs:=csm T87 (fun _ _=>[]) (fun _=>false)
def zGE:Ann:=⟨12,[(0,zK [0,1] []),(1,zK [3] [])],
 [],
 [],
 [],[]⟩
abbrev R87:=Int
abbrev e87 (r:R87):List PA:=[.one (.int .i64 r)]
section
variable {K:List PA→Prop} {c0:Tab} {i_a0:Int}
def s87 (c0:Tab) (i_a0:Int):Int :=
  (w64 ((tg 80 c0 (0+i_a0.toNat * 2+0)) - (tg 80 c0 (0+0 * 2+0))))
def p87 (c0:Tab) (i_a0:Int):Bool :=
  (decide ((0≤i_a0∧i_a0 < (40:Int))) &&
 (decide ((0≤(0:Int)∧(0:Int) < (40:Int))) &&
 true))
end
theorem q87 (c0:Tab) (i_a0:Int) (K:List PA→Prop) (hs:p87 c0 i_a0=true) (hk:K (e87 (s87 c0 i_a0))):vcFun Tryd.prog G87 zGE 87 [.one (.int .i64 i_a0),.one (.fp (zad c0) 0)] K :=
  zbd (by kernel_rfl) (za0 hs fun hc hs=>And.intro hc (za0 hs fun hc hs=>And.intro hc hk))
def zDI : List PA → COut
  | [.one (.int .i64 a0),.one (.fp c0_t 0)]=>.det (c0_t=zad (za6 c0_t)∧p87 (za6 c0_t) a0=true) [.one (.int .i64 (s87 (za6 c0_t) a0))]
  | _=>.no
theorem zGF:zaq Tryd.prog 87:=⟨_,rfl,rfl,by kernel_rfl⟩
theorem zKe:Ok Tryd.prog 87 zDI:=zbG zIG zGF fun args K h=>by
  unfold zDI at h
  split at h
  · rename_i a0 c0_t
    obtain ⟨⟨hT_c0,hs⟩,hk⟩:=h
    exact ⟨(fun _ _=>[]),(fun _=>false),zGE,(by have hq:=q87 (za6 c0_t) a0 K hs hk;rw [← hT_c0] at hq;exact hq)⟩
  · exact h.elim
abbrev T84:Tabs:=(Tabs.nil.addF 87 zDI)
theorem zIH:TabsOk Tryd.prog T84:=(TabsOk.nil.addF zKe)
abbrev G84:Ctrs:=csm T84 (fun _ _=>[]) (fun _=>false)
def zDJ:Ann:=⟨26,[(0,zK [0,1] []),(1,zK [1,5] [12]),(2,zK [1,5,14,15] [12]),(3,zK [1,5,14,15,16] [12]),(4,zK [1,5,6,14,15] [12]),(5,zK [1,5,14,15] [12]),(6,zK [1,5,14,15] [12]),(7,zK [4] [12])],
 [(3,zK [1,5,14,15] [12])],
 [],
 [],[]⟩
abbrev R84:=(Sl Int)
abbrev e84 (r:R84):List PA:=[.one (.sl r.len 1 (fun i=>zai (r.get i)))]
@[irreducible] def z84:=ptF Tryd.prog G84 zDJ Tryd.f84
def zBe (c0:Tab) (w:web) (zbg:Int) (zc5:(Sl Int)) (zfs:Nat→List PV):St:=⟨[(1,zP (.fn 87 [] [.fp (zad c0) 0])),(5,zv 12),(14,zI (w.Net.Nodes.toNat:Int)),(15,zI zbg)],[(12,.vec 3 1 8 zc5.len zfs)],[]⟩
abbrev zGG (K:List PA→Prop) (c0:Tab) (w:web) (X:St→Prop) (P:Int→(Sl Int)→Bool) (S:Int→(Sl Int)→(Sl Int)):Prop:=∀ ⦃zbg:Int⦄ ⦃zc5:(Sl Int)⦄ ⦃zfs:Nat→List PV⦄,P zbg zc5=true→K (e84 (S zbg zc5))→zfs=zg zai zc5→X (zBe c0 w zbg zc5 zfs)
section
variable {K:List PA→Prop} {c0:Tab} {w:web} {zbg:Int} {zc5:(Sl Int)} {zfs:Nat→List PV} {X0:St→Prop} {P0:Int→(Sl Int)→Bool} {S0:Int→(Sl Int)→(Sl Int)}
def zxn (c0:Tab) (w:web) (S0:Int→(Sl Int)→(Sl Int)) (zbg:Int) (zc5:(Sl Int)):(Sl Int) :=
  (cond (decide (zbg < (w.Net.Nodes.toNat : Int)))
 (S0 (w64 (zbg+(1:Int))) (⟨zc5.len,(setT zbg.toNat (s87 (za6 (zad c0)) zbg) zc5.get)⟩:Sl Int))
 zc5)
def zxo (c0:Tab) (w:web) (P0:Int→(Sl Int)→Bool) (zbg:Int) (zc5:(Sl Int)):Bool :=
  (cond (decide (zbg < (w.Net.Nodes.toNat : Int)))
 (decide ((p87 (za6 (zad c0)) zbg=true)) &&
 (decide ((0≤zbg∧zbg < (zc5.len:Int))) &&
 (decide ((zbg.toNat < zc5.len)) &&
 (P0 (w64 (zbg+(1:Int))) (⟨zc5.len,(setT zbg.toNat (s87 (za6 (zad c0)) zbg) zc5.get)⟩:Sl Int)))))
 true)
def zxp (c0:Tab) (w:web):Nat→Int→(Sl Int)→(Sl Int):=lpO (fun _ _=>default) (zxn c0 w)
def zxq (c0:Tab) (w:web):Nat→Int→(Sl Int)→Bool:=lpO (fun _ _=>false) (zxo c0 w)
def zxr (c0:Tab) (w:web) (zbg:Int) (zc5:(Sl Int)):(Sl Int):=zxp c0 w Fuel zbg zc5
def zxs (c0:Tab) (w:web) (zbg:Int) (zc5:(Sl Int)):Bool:=zxq c0 w Fuel zbg zc5
theorem zDK (hs:zxs c0 w zbg zc5=true) (hk:K (e84 (zxr c0 w zbg zc5))) (zqW:zfs=zg zai zc5):z84 K [1,1,0,1,0] [] (zBe c0 w zbg zc5 zfs) :=
  zl (fun X=>z84 K [1,1,0,1,0,0] [X]) (by kernel_rfl) fun X0 hX =>
  (show ∀ k, zGG K c0 w X0 (zxq c0 w k) (zxp c0 w k) from zk5 _ _ (zxo c0 w) (zxn c0 w) (zGG K c0 w X0)
 (by intro _ _ _ hs;exact absurd hs Bool.false_ne_true)
 (by intro P0 S0 hX0 zbg zc5 zfs hs hk zqW;subst zqW;exact hX _ (zbd (by kernel_rfl) (zc hs hk (fun hs hk=>(za0 hs fun hc hs=>And.intro (And.intro (zmA:zad c0=zad (za6 (zad c0))) hc) (za0 hs fun hc hs=>And.intro hc (za0 hs fun hc hs=>And.intro hc (hX0 hs hk (zlE (enc:=zai) (i:=zbg.toNat) (k:=0) (f:=zc5.get) (new:=(zai (s87 (za6 (zad c0)) zbg))) (v:=(s87 (za6 (zad c0)) zbg)) rfl rfl)))))) (fun hs hk=>hk))))) _ hs hk zqW
def s84 (c0:Tab) (w:web):(Sl Int) :=
  (zxr c0 w (0:Int) (⟨w.Net.Nodes.toNat,(fun _=>(0:Int))⟩:Sl Int))
def p84 (c0:Tab) (w:web):Bool :=
  (decide ((0≤w.Net.Nodes∧w.Net.Nodes=w.Net.Nodes∧w.Net.Nodes≤1000000)) &&
 (zxs c0 w (0:Int) (⟨w.Net.Nodes.toNat,(fun _=>(0:Int))⟩:Sl Int)))
end
theorem q84 (c0:Tab) (w:web) (K:List PA→Prop) (hs:p84 c0 w=true) (hk:K (e84 (s84 c0 w))):vcFun Tryd.prog G84 zDJ 84 [.one (.fp (zau w) 0),.one (.fn 87 [] [.fp (zad c0) 0])] K :=
  zbd (by kernel_rfl) (za0 hs fun hc hs=>And.intro hc (zDK hs hk rfl))
def zDL : List PA → COut
  | [.one (.fp [.int .i64 a0_Net_Nodes,.sl a0_Net_Ties_n a0_Net_Ties_s a0_Net_Ties_g,.fm a0_out_q a0_out_n a0_out_F] 0),.one (.fn 87 [] [.fp c0_t 0])]=>.det (IsE enc_40 4 a0_Net_Ties_s a0_Net_Ties_g∧a0_out_q=(false,1,false,[none])∧c0_t=zad (za6 c0_t)∧p84 (za6 c0_t) (⟨(⟨a0_Net_Nodes,(⟨a0_Net_Ties_n,zaa a0_Net_Ties_g⟩:(Sl Tie))⟩:Net),(⟨a0_out_n,a0_out_F⟩:Mp)⟩:web)=true) [.one (.sl ((s84 (za6 c0_t) (⟨(⟨a0_Net_Nodes,(⟨a0_Net_Ties_n,zaa a0_Net_Ties_g⟩:(Sl Tie))⟩:Net),(⟨a0_out_n,a0_out_F⟩:Mp)⟩:web)).len) 1 (fun i=>zai ((s84 (za6 c0_t) (⟨(⟨a0_Net_Nodes,(⟨a0_Net_Ties_n,zaa a0_Net_Ties_g⟩:(Sl Tie))⟩:Net),(⟨a0_out_n,a0_out_F⟩:Mp)⟩:web)).get i)))]
  | _=>.no
theorem zGH:zaq Tryd.prog 84:=⟨_,rfl,rfl,by kernel_rfl⟩
theorem zKf:Ok Tryd.prog 84 zDL:=zbG zIH zGH fun args K h=>by
  unfold zDL at h
  split at h
  · rename_i a0_Net_Nodes a0_Net_Ties_n a0_Net_Ties_s a0_Net_Ties_g a0_out_q a0_out_n a0_out_F c0_t
    obtain ⟨⟨⟨rfl,a0_Net_Ties_f,rfl⟩,rfl,hT_c0,hs⟩,hk⟩:=h
    try rw [zan a0_Net_Ties_f] at hs
    try rw [zan a0_Net_Ties_f] at hk
    exact ⟨(fun _ _=>[]),(fun _=>false),zDJ,(by have hq:=q84 (za6 c0_t) (⟨(⟨a0_Net_Nodes,(⟨a0_Net_Ties_n,a0_Net_Ties_f⟩:(Sl Tie))⟩:Net),(⟨a0_out_n,a0_out_F⟩:Mp)⟩:web) K hs hk;rw [← hT_c0] at hq;exact hq)⟩
  · exact h.elim
abbrev T45:Tabs:=((((Tabs.nil.addF 74 zvE).addF 76 zvU).addF 83 zDH).addF 84 zDL)
theorem zII:TabsOk Tryd.prog T45:=((((TabsOk.nil.addF zIc).addF zIh).addF zKd).addF zKf)
abbrev G45:Ctrs:=csm T45 (fun _ _=>[]) (fun _=>false)
def zGI:Ann:=⟨31,[(0,zK [1,2,3] [3]),(1,zK [1,8,9] []),(2,zK [1,8,9,20] []),(3,zK [6,7] []),(4,zK [1,8,24] []),(5,zK [6,7] []),(6,zK [8,10] [10]),(7,zK [6,7] [])],
 [],
 [],
 [],[]⟩
abbrev R45:=((Sl Int)×Int)
abbrev e45 (r:R45):List PA:=[.one (.sl r.1.len 1 (fun i=>zai (r.1.get i))),.one (.int .i64 r.2)]
section
variable {K:List PA→Prop} {n:Net} {from_a1:Int} {to:Int}
def s45 (n:Net) (from_a1:Int) (to:Int):((Sl Int)×Int) :=
  (cond ((s74 n (⟨2, zar (zbx [(zai from_a1), (zai to)])⟩ : (Sl Int))).2 == 0)
 (cond ((0:Int) != (0:Int))
 ((⟨0,fun _=>default⟩:(Sl Int)),(0:Int))
 (cond (!(s83 (⟨(s74 n (⟨2, zar (zbx [(zai from_a1), (zai to)])⟩ : (Sl Int))).1.Net, ((s74 n (⟨2, zar (zbx [(zai from_a1), (zai to)])⟩ : (Sl Int))).1.out)⟩ : web)))
 ((⟨0,fun _=>default⟩:(Sl Int)),(6:Int))
 ((s84 (za6 (zad (s76 (⟨(s74 n (⟨2,zar (zbx [(zai from_a1),(zai to)])⟩:(Sl Int))).1.Net,((s74 n (⟨2,zar (zbx [(zai from_a1),(zai to)])⟩:(Sl Int))).1.out)⟩:web) from_a1))) (⟨(s74 n (⟨2,zar (zbx [(zai from_a1),(zai to)])⟩:(Sl Int))).1.Net,((s74 n (⟨2,zar (zbx [(zai from_a1),(zai to)])⟩:(Sl Int))).1.out)⟩:web)),(0:Int))))
 (cond ((s74 n (⟨2, zar (zbx [(zai from_a1), (zai to)])⟩ : (Sl Int))).2 != (0:Int))
 ((⟨0,fun _=>default⟩:(Sl Int)),(s74 n (⟨2,zar (zbx [(zai from_a1),(zai to)])⟩:(Sl Int))).2)
 default))
def p45 (n:Net) (from_a1:Int) (to:Int):Bool :=
  (cond ((s74 n (⟨2, zar (zbx [(zai from_a1), (zai to)])⟩ : (Sl Int))).2 == 0)
 (decide ((p74 n (⟨2,zar (zbx [(zai from_a1),(zai to)])⟩:(Sl Int))=true)) &&
 (cond ((0:Int) != (0:Int))
 true
 (decide ((p83 (⟨(s74 n (⟨2,zar (zbx [(zai from_a1),(zai to)])⟩:(Sl Int))).1.Net,((s74 n (⟨2,zar (zbx [(zai from_a1),(zai to)])⟩:(Sl Int))).1.out)⟩:web)=true)) &&
 (cond (!(s83 (⟨(s74 n (⟨2, zar (zbx [(zai from_a1), (zai to)])⟩ : (Sl Int))).1.Net, ((s74 n (⟨2, zar (zbx [(zai from_a1), (zai to)])⟩ : (Sl Int))).1.out)⟩ : web)))
 true
 (decide ((p76 (⟨(s74 n (⟨2,zar (zbx [(zai from_a1),(zai to)])⟩:(Sl Int))).1.Net,((s74 n (⟨2,zar (zbx [(zai from_a1),(zai to)])⟩:(Sl Int))).1.out)⟩:web) from_a1=true)) &&
 (decide ((p84 (za6 (zad (s76 (⟨(s74 n (⟨2,zar (zbx [(zai from_a1),(zai to)])⟩:(Sl Int))).1.Net,((s74 n (⟨2,zar (zbx [(zai from_a1),(zai to)])⟩:(Sl Int))).1.out)⟩:web) from_a1))) (⟨(s74 n (⟨2,zar (zbx [(zai from_a1),(zai to)])⟩:(Sl Int))).1.Net,((s74 n (⟨2,zar (zbx [(zai from_a1),(zai to)])⟩:(Sl Int))).1.out)⟩:web)=true)) &&
 true))))))
 (decide ((p74 n (⟨2,zar (zbx [(zai from_a1),(zai to)])⟩:(Sl Int))=true)) &&
 (cond ((s74 n (⟨2, zar (zbx [(zai from_a1), (zai to)])⟩ : (Sl Int))).2 != (0:Int))
 true
 false)))
end
theorem q45 (n:Net) (from_a1:Int) (to:Int) (K:List PA→Prop) (hs:p45 n from_a1 to=true) (hk:K (e45 (s45 n from_a1 to))):vcFun Tryd.prog G45 zGI 45 [.agg (enc_24 n),.one (.int .i64 from_a1),.one (.int .i64 to)] (Wk K) :=
  zbd (by kernel_rfl) (zc hs hk (fun hs hk=>(za0 hs fun hc hs=>And.intro (And.intro (zE enc_40 4 n.Ties.get) (And.intro ((zdZ []):IsE zai 1 1 (zbx [(zai from_a1),(zai to)])) hc)) (zc hs hk (fun hs hk=>((wk hk (zhk (.one (.nil _ _)) (zhk (.one (.rfl _)) zn7))):Wk K [.one (.nils),.one (.int .i64 (0:Int))])) (fun hs hk=>(za0 hs fun hc hs=>And.intro (And.intro (zE enc_40 4 ((s74 n (⟨2,zar (zbx [(zai from_a1),(zai to)])⟩:(Sl Int))).1.Net.Ties.get)) (And.intro (rfl:((false,1,false,[none]):MQ)=(false,1,false,[none])) hc)) (zc hs hk (fun hs hk=>((wk hk (zhk (.one (.nil _ _)) (zhk (.one (.rfl _)) zn7))):Wk K [.one (.nils),.one (.int .i64 (6:Int))])) (fun hs hk=>(za0 hs fun hc hs=>And.intro (And.intro (zE enc_40 4 ((s74 n (⟨2,zar (zbx [(zai from_a1),(zai to)])⟩:(Sl Int))).1.Net.Ties.get)) (And.intro (rfl:((false,1,false,[none]):MQ)=(false,1,false,[none])) hc)) (za0 hs fun hc hs=>And.intro (And.intro (zE enc_40 4 ((s74 n (⟨2,zar (zbx [(zai from_a1),(zai to)])⟩:(Sl Int))).1.Net.Ties.get)) (And.intro (rfl:((false,1,false,[none]):MQ)=(false,1,false,[none])) (And.intro (zmA:zad (s76 (⟨(s74 n (⟨2,zar (zbx [(zai from_a1),(zai to)])⟩:(Sl Int))).1.Net,((s74 n (⟨2,zar (zbx [(zai from_a1),(zai to)])⟩:(Sl Int))).1.out)⟩:web) from_a1)=zad (za6 (zad (s76 (⟨(s74 n (⟨2,zar (zbx [(zai from_a1),(zai to)])⟩:(Sl Int))).1.Net,((s74 n (⟨2,zar (zbx [(zai from_a1),(zai to)])⟩:(Sl Int))).1.out)⟩:web) from_a1)))) hc))) ((zf2 hk):Wk K [.one (.sl ((s84 (za6 (zad (s76 (⟨(s74 n (⟨2,zar (zbx [(zai from_a1),(zai to)])⟩:(Sl Int))).1.Net,((s74 n (⟨2,zar (zbx [(zai from_a1),(zai to)])⟩:(Sl Int))).1.out)⟩:web) from_a1))) (⟨(s74 n (⟨2,zar (zbx [(zai from_a1),(zai to)])⟩:(Sl Int))).1.Net,((s74 n (⟨2,zar (zbx [(zai from_a1),(zai to)])⟩:(Sl Int))).1.out)⟩:web)).len) 1 (fun i=>zai ((s84 (za6 (zad (s76 (⟨(s74 n (⟨2,zar (zbx [(zai from_a1),(zai to)])⟩:(Sl Int))).1.Net,((s74 n (⟨2,zar (zbx [(zai from_a1),(zai to)])⟩:(Sl Int))).1.out)⟩:web) from_a1))) (⟨(s74 n (⟨2,zar (zbx [(zai from_a1),(zai to)])⟩:(Sl Int))).1.Net,((s74 n (⟨2,zar (zbx [(zai from_a1),(zai to)])⟩:(Sl Int))).1.out)⟩:web)).get i))),.one (.int .i64 (0:Int))])))))))))) (fun hs hk=>(za0 hs fun hc hs=>And.intro (And.intro (zE enc_40 4 n.Ties.get) (And.intro ((zdZ []):IsE zai 1 1 (zbx [(zai from_a1),(zai to)])) hc)) (zc hs hk (fun hs hk=>((wk hk (zhk (.one (.nil _ _)) (zhk (.one (.rfl _)) zn7))):Wk K [.one (.nils),.one (.int .i64 ((s74 n (⟨2,zar (zbx [(zai from_a1),(zai to)])⟩:(Sl Int))).2))])) (fun hs hk=>(absurd hs Bool.false_ne_true:False))))))
def zDM : List PA → COut
  | [.agg [.int .i64 a0_Nodes,.sl a0_Ties_n a0_Ties_s a0_Ties_g],.one (.int .i64 a1),.one (.int .i64 a2)]=>.det (IsE enc_40 4 a0_Ties_s a0_Ties_g∧p45 (⟨a0_Nodes,(⟨a0_Ties_n,zaa a0_Ties_g⟩:(Sl Tie))⟩:Net) a1 a2=true) [.one (.sl (((s45 (⟨a0_Nodes,(⟨a0_Ties_n,zaa a0_Ties_g⟩:(Sl Tie))⟩:Net) a1 a2).1).len) 1 (fun i=>zai (((s45 (⟨a0_Nodes,(⟨a0_Ties_n,zaa a0_Ties_g⟩:(Sl Tie))⟩:Net) a1 a2).1).get i))),.one (.int .i64 ((s45 (⟨a0_Nodes,(⟨a0_Ties_n,zaa a0_Ties_g⟩:(Sl Tie))⟩:Net) a1 a2).2))]
  | _=>.no
theorem zGJ:zaq Tryd.prog 45:=⟨_,rfl,rfl,by kernel_rfl⟩
theorem zKg:Ok Tryd.prog 45 zDM:=zhy zII zGJ fun args K h=>by
  unfold zDM at h
  split at h
  · rename_i a0_Nodes a0_Ties_n a0_Ties_s a0_Ties_g a1 a2
    obtain ⟨⟨⟨rfl,a0_Ties_f,rfl⟩,hs⟩,hk⟩:=h
    try rw [zan a0_Ties_f] at hs
    try rw [zan a0_Ties_f] at hk
    exact ⟨_,ze8 zf1 _,(fun _ _=>[]),(fun _=>false),zGI,q45 (⟨a0_Nodes,(⟨a0_Ties_n,a0_Ties_f⟩:(Sl Tie))⟩:Net) a1 a2 K hs hk⟩
  · exact h.elim
abbrev T49:Tabs:=(((Tabs.nil.addF 67 zvy).addF 88 zvD).addF 89 zAa)
theorem zIJ:TabsOk Tryd.prog T49:=(((TabsOk.nil.addF zH5).addF zIa).addF zJs)
abbrev G49:Ctrs:=csm T49 (fun _ _=>[]) (fun _=>false)
def zDN:Ann:=⟨31,[(0,zK [1] [1]),(1,zK [1,10] [1]),(2,zK [2,3] []),(3,zK [4] [13]),(4,zK [4,16] [13]),(5,zK [2,3] []),(6,zK [4,5] [13]),(7,zK [5,18,19,20] []),(8,zK [5,18,19,20,21] [28]),(9,zK [5,7,18,19,20] [7,28]),(10,zK [5,18,19,20] [28]),(11,zK [5,18,19,20] [28]),(12,zK [2,3] [28])],
 [(8,⟨[5,18,19,20],[28],[(5,28,75,fun _=>zaP default)],[],[],[],[]⟩)],
 [(2,zK [1,10] [1]),(3,zK [1] [1]),(5,zK [4,16] [13]),(6,zK [4] [13]),(8,zK [5,18,19,20] [])],
 [],[]⟩
abbrev R49:=((Sl Use)×Int)
abbrev e49 (r:R49):List PA:=[.one (.sl r.1.len 2 (fun i=>zaP (r.1.get i))),.one (.int .i64 r.2)]
@[irreducible] def z49:=ptF Tryd.prog G49 zDN Tryd.f49
def zBf (zcs:(Sl step)) (zcz:Int) (zda:Int) (zcI:(Sl Use)) (zft:Nat→List PV):St:=⟨[(5,zv 28),(18,zS zae 5 zcs),(19,zI zcz),(20,zI zda)],[(28,.vec 75 2 16 zcI.len zft)],[]⟩
abbrev zGK (K:List PA→Prop) (zcs:(Sl step)) (zcz:Int) (X:St→Prop) (P:Int→(Sl Use)→Bool) (S:Int→(Sl Use)→((Sl Use)×Int)):Prop:=∀ ⦃zda:Int⦄ ⦃zcI:(Sl Use)⦄ ⦃zft:Nat→List PV⦄,P zda zcI=true→K (e49 (S zda zcI))→zft=zg zaP zcI→X (zBf zcs zcz zda zcI zft)
section
variable {K:List PA→Prop} {n:Net} {zaB:Bool} {zqX:Bool} {zcs:(Sl step)} {zcz:Int} {zxt:Nat→List PV} {zda:Int} {zcI:(Sl Use)} {zft:Nat→List PV} {X5:St→Prop} {P5:Int→(Sl Use)→Bool} {S5:Int→(Sl Use)→((Sl Use)×Int)}
def zxu (zcs:(Sl step)) (zcz:Int) (S5:Int→(Sl Use)→((Sl Use)×Int)) (zda:Int) (zcI:(Sl Use)):((Sl Use)×Int) :=
  (cond (decide (zda < zcz))
 (S5 (w64 (zda+(1:Int))) (⟨(zcI.len+1),(zlC zcI.len zcI.get (fun _=>(zcs.get zda.toNat).Use))⟩:Sl Use))
 (zcI,(0:Int)))
def zxv (zcs:(Sl step)) (zcz:Int) (P5:Int→(Sl Use)→Bool) (zda:Int) (zcI:(Sl Use)):Bool :=
  (cond (decide (zda < zcz))
 (decide ((0≤zda∧zda < (zcs.len:Int))) &&
 (decide (((zcI.len+1) * 16≤140737488355328∧zcI.len+1≤9223372036854775807)) &&
 (P5 (w64 (zda+(1:Int))) (⟨(zcI.len+1),(zlC zcI.len zcI.get (fun _=>(zcs.get zda.toNat).Use))⟩:Sl Use))))
 true)
def zxw (zcs:(Sl step)) (zcz:Int):Nat→Int→(Sl Use)→((Sl Use)×Int):=lpO (fun _ _=>default) (zxu zcs zcz)
def zxx (zcs:(Sl step)) (zcz:Int):Nat→Int→(Sl Use)→Bool:=lpO (fun _ _=>false) (zxv zcs zcz)
def zxy (zcs:(Sl step)) (zcz:Int) (zda:Int) (zcI:(Sl Use)):((Sl Use)×Int):=zxw zcs zcz Fuel zda zcI
def zxz (zcs:(Sl step)) (zcz:Int) (zda:Int) (zcI:(Sl Use)):Bool:=zxx zcs zcz Fuel zda zcI
theorem zDO (hs:zxz zcs zcz zda zcI=true) (hk:K (e49 (zxy zcs zcz zda zcI))) (zqY:zft=zg zaP zcI):z49 (Wk K) [1,1,1,1,1,0,1,0] [] (zBf zcs zcz zda zcI zft) :=
  zl (fun X=>z49 (Wk K) [1,1,1,1,1,0,1,0,0] [X]) (by kernel_rfl) fun X5 hX =>
  (show ∀ k, zGK K zcs zcz X5 (zxx zcs zcz k) (zxw zcs zcz k) from zk5 _ _ (zxv zcs zcz) (zxu zcs zcz) (zGK K zcs zcz X5)
 (by intro _ _ _ hs;exact absurd hs Bool.false_ne_true)
 (by intro P5 S5 hX5 zda zcI zft hs hk zqY;subst zqY;exact hX _ (zbd (by kernel_rfl) (zc hs hk (fun hs hk=>(za0 hs fun hc hs=>And.intro hc (za0 hs fun hc hs=>And.intro hc (hX5 hs hk (zlD (enc:=zaP) (f:=zcI.get) (h:=(fun _=>(zcs.get zda.toNat).Use)) rfl rfl))))) (fun hs hk=>((zf2 hk):Wk K [.one (.sl zcI.len 2 (fun i=>zaP (zcI.get i))),.one (.int .i64 (0:Int))])))))) _ hs hk zqY
def zxA (zcs:(Sl step)) (zcz:Int):((Sl Use)×Int) :=
  (zxy zcs zcz (0:Int) (⟨0,(fun _=>default)⟩:Sl Use))
def zxB (zcs:(Sl step)) (zcz:Int):Bool :=
  (zxz zcs zcz (0:Int) (⟨0,(fun _=>default)⟩:Sl Use))
theorem zDP (hs:zxB zcs zcz=true) (hk:K (e49 (zxA zcs zcz))) (zDQ:zxt=zg zae zcs):z49 (Wk K) [1,1,1,1,1,0,1] [] ⟨[(5,zP (.nils)),(18,zP (.sl zcs.len 5 zxt)),(19,zI zcz),(20,zI (0:Int))],[],[]⟩:=by subst zDQ;exact zbd (by kernel_rfl) (zDO hs hk rfl)
def zxC (n:Net):((Sl Use)×Int) :=
  (zxA (s89 (⟨n,(⟨0,(fun _=>none)⟩:Mp)⟩:web)) ((s89 (⟨n,(⟨0,(fun _=>none)⟩:Mp)⟩:web)).len:Int))
def zxD (n:Net):Bool :=
  (decide ((p89 (⟨n,(⟨0,(fun _=>none)⟩:Mp)⟩:web)=true)) &&
 (zxB (s89 (⟨n,(⟨0,(fun _=>none)⟩:Mp)⟩:web)) ((s89 (⟨n,(⟨0,(fun _=>none)⟩:Mp)⟩:web)).len:Int)))
theorem zDR (hs:zxD n=true) (hk:K (e49 (zxC n))):z49 (Wk K) [1,1,1,1] [] ⟨[(4,zp 13 0)],[(13,.box 105 (zm (zau (⟨n,(⟨0,(fun _=>none)⟩:Mp)⟩:web))))],[]⟩:=zbd (by kernel_rfl) (za0 hs fun hc hs=>And.intro (And.intro ((fun _=>rfl):(∀ i,sc2 ((fun i=>zae ((s89 (⟨n,(⟨0,(fun _=>none)⟩:Mp)⟩:web)).get i)) i)=true)) (And.intro (zE enc_40 4 n.Ties.get) (And.intro (rfl:((false,1,false,[none]):MQ)=(false,1,false,[none])) hc))) (zDP hs hk rfl))
def zxE (n:Net) (zqX:Bool):((Sl Use)×Int) :=
  (cond zqX
 ((⟨0,fun _=>default⟩:(Sl Use)),(6:Int))
 (zxC n))
def zxF (n:Net) (zqX:Bool):Bool :=
  (cond zqX
 true
 (zxD n))
theorem zDS (hs:zxF n zqX=true) (hk:K (e49 (zxE n zqX))):z49 (Wk K) [1,1,1,0,1] [] ⟨[(4,zp 13 0),(16,zB zqX)],[(13,.box 105 (zm (zau (⟨n,(⟨0,(fun _=>none)⟩:Mp)⟩:web))))],[]⟩:=zbd (by kernel_rfl) (zc hs hk (fun hs hk=>((wk hk (zhk (.one (.nil _ _)) (zhk (.one (.rfl _)) zn7))):Wk K [.one (.nils),.one (.int .i64 (6:Int))])) (fun hs hk=>(zDR hs hk)))
def zxG (n:Net):((Sl Use)×Int) :=
  (zxE n (!(s88 (⟨n,(⟨0,(fun _=>none)⟩:Mp)⟩:web))))
def zxH (n:Net):Bool :=
  (decide ((p88 (⟨n,(⟨0,(fun _=>none)⟩:Mp)⟩:web)=true)) &&
 (zxF n (!(s88 (⟨n,(⟨0,(fun _=>none)⟩:Mp)⟩:web)))))
theorem zDT (hs:zxH n=true) (hk:K (e49 (zxG n))):z49 (Wk K) [1,1] [] ⟨[(1,zp 1 0)],[(1,.box 24 (zm (enc_24 n)))],[]⟩:=zbd (by kernel_rfl) (za0 hs fun hc hs=>And.intro (And.intro (zE enc_40 4 n.Ties.get) (And.intro (rfl:((false,1,false,[none]):MQ)=(false,1,false,[none])) hc)) (zDS hs hk))
def zxI (n:Net) (zaB:Bool):((Sl Use)×Int) :=
  (cond zaB
 ((⟨0,fun _=>default⟩:(Sl Use)),(2:Int))
 (zxG n))
def zxJ (n:Net) (zaB:Bool):Bool :=
  (cond zaB
 true
 (zxH n))
theorem zDU (hs:zxJ n zaB=true) (hk:K (e49 (zxI n zaB))):z49 (Wk K) [1,0,1] [] ⟨[(1,zp 1 0),(10,zB zaB)],[(1,.box 24 (zm (enc_24 n)))],[]⟩:=zbd (by kernel_rfl) (zc hs hk (fun hs hk=>((wk hk (zhk (.one (.nil _ _)) (zhk (.one (.rfl _)) zn7))):Wk K [.one (.nils),.one (.int .i64 (2:Int))])) (fun hs hk=>(zDT hs hk)))
def s49 (n:Net):((Sl Use)×Int) :=
  (zxI n (!(s67 n)))
def p49 (n:Net):Bool :=
  (decide ((p67 n=true)) &&
 (zxJ n (!(s67 n))))
end
theorem q49 (n:Net) (K:List PA→Prop) (hs:p49 n=true) (hk:K (e49 (s49 n))):vcFun Tryd.prog G49 zDN 49 [.agg (enc_24 n)] (Wk K) :=
  zbd (by kernel_rfl) (za0 hs fun hc hs=>And.intro (And.intro (zE enc_40 4 n.Ties.get) hc) (zDU hs hk))
def zDV : List PA → COut
  | [.agg [.int .i64 a0_Nodes,.sl a0_Ties_n a0_Ties_s a0_Ties_g]]=>.det (IsE enc_40 4 a0_Ties_s a0_Ties_g∧p49 (⟨a0_Nodes,(⟨a0_Ties_n,zaa a0_Ties_g⟩:(Sl Tie))⟩:Net)=true) [.one (.sl (((s49 (⟨a0_Nodes,(⟨a0_Ties_n,zaa a0_Ties_g⟩:(Sl Tie))⟩:Net)).1).len) 2 (fun i=>zaP (((s49 (⟨a0_Nodes,(⟨a0_Ties_n,zaa a0_Ties_g⟩:(Sl Tie))⟩:Net)).1).get i))),.one (.int .i64 ((s49 (⟨a0_Nodes,(⟨a0_Ties_n,zaa a0_Ties_g⟩:(Sl Tie))⟩:Net)).2))]
  | _=>.no
theorem zGL:zaq Tryd.prog 49:=⟨_,rfl,rfl,by kernel_rfl⟩
theorem zKh:Ok Tryd.prog 49 zDV:=zhy zIJ zGL fun args K h=>by
  unfold zDV at h
  split at h
  · rename_i a0_Nodes a0_Ties_n a0_Ties_s a0_Ties_g
    obtain ⟨⟨⟨rfl,a0_Ties_f,rfl⟩,hs⟩,hk⟩:=h
    try rw [zan a0_Ties_f] at hs
    try rw [zan a0_Ties_f] at hk
    exact ⟨_,ze8 zf1 _,(fun _ _=>[]),(fun _=>false),zDN,q49 (⟨a0_Nodes,(⟨a0_Ties_n,a0_Ties_f⟩:(Sl Tie))⟩:Net) K hs hk⟩
  · exact h.elim
abbrev T53:Tabs:=Tabs.nil
theorem zIK:TabsOk Tryd.prog T53:=TabsOk.nil
abbrev G53:Ctrs:=csm T53 (fun _ _=>[]) (fun _=>false)
def zDW:Ann:=⟨26,[(0,zK [0,1] []),(1,zK [0,1,10] []),(2,zK [4] []),(3,zK [0,1,5] []),(4,zK [0,1,5,14] []),(5,zK [0,1,5] []),(6,zK [0,1,5,25] []),(7,zK [4] []),(8,zK [4] [])],
 [(4,zK [0,1,5] [])],
 [(3,zK [0,1] [])],
 [],[]⟩
abbrev R53:=Bool
abbrev e53 (r:R53):List PA:=[.one (.bool r)]
@[irreducible] def z53:=ptF Tryd.prog G53 zDW Tryd.f53
def zBg (a:(Sl Use)) (b:(Sl Use)) (iv1:Int):St:=⟨[(0,zS zaP 2 a),(1,zS zaP 2 b),(5,zI iv1)],[],[]⟩
abbrev zGM (K:List PA→Prop) (a:(Sl Use)) (b:(Sl Use)) (X:St→Prop) (P:Int→Bool) (S:Int→Bool):Prop:=∀ ⦃iv1:Int⦄,P iv1=true→K (e53 (S iv1))→X (zBg a b iv1)
section
variable {K:List PA→Prop} {a:(Sl Use)} {b:(Sl Use)} {iv1:Int} {X1:St→Prop} {P1:Int→Bool} {S1:Int→Bool}
def zxK (a:(Sl Use)) (b:(Sl Use)) (S1:Int→Bool) (iv1:Int):Bool :=
  (cond (decide (iv1 < (a.len : Int)))
 (cond (!(match ((a.get iv1.toNat).Tie == (b.get iv1.toNat).Tie) with | true => (match ((a.get iv1.toNat).Back == (b.get iv1.toNat).Back) with | true => true | false => false) | false => false))
 false
 (S1 (w64 (iv1+(1:Int)))))
 true)
def zxL (a:(Sl Use)) (b:(Sl Use)) (P1:Int→Bool) (iv1:Int):Bool :=
  (cond (decide (iv1 < (a.len : Int)))
 (decide ((0≤iv1∧iv1 < (a.len:Int))) &&
 (decide ((0≤iv1∧iv1 < (b.len:Int))) &&
 (cond (!(match ((a.get iv1.toNat).Tie == (b.get iv1.toNat).Tie) with | true => (match ((a.get iv1.toNat).Back == (b.get iv1.toNat).Back) with | true => true | false => false) | false => false))
 true
 (P1 (w64 (iv1+(1:Int)))))))
 true)
def zxM (a:(Sl Use)) (b:(Sl Use)):Nat→Int→Bool:=lpO (fun _=>default) (zxK a b)
def zxN (a:(Sl Use)) (b:(Sl Use)):Nat→Int→Bool:=lpO (fun _=>false) (zxL a b)
def zxO (a:(Sl Use)) (b:(Sl Use)) (iv1:Int):Bool:=zxM a b Fuel iv1
def zxP (a:(Sl Use)) (b:(Sl Use)) (iv1:Int):Bool:=zxN a b Fuel iv1
theorem zDX (hs:zxP a b iv1=true) (hk:K (e53 (zxO a b iv1))):z53 K [1,1,0,1,0] [] (zBg a b iv1) :=
  zl (fun X=>z53 K [1,1,0,1,0,0] [X]) (by kernel_rfl) fun X1 hX =>
  (show ∀ k, zGM K a b X1 (zxN a b k) (zxM a b k) from zk5 _ _ (zxL a b) (zxK a b) (zGM K a b X1)
 (by intro _ hs;exact absurd hs Bool.false_ne_true)
 (by intro P1 S1 hX1 iv1 hs hk;exact hX _ (zbd (by kernel_rfl) (zc hs hk (fun hs hk=>(za0 hs fun hc hs=>And.intro hc (za0 hs fun hc hs=>And.intro hc (zc hs hk (fun hs hk=>hk) (fun hs hk=>(hX1 hs hk)))))) (fun hs hk=>hk))))) _ hs hk
def zxQ (a:(Sl Use)) (b:(Sl Use)):Bool :=
  (zxO a b (0:Int))
def zxR (a:(Sl Use)) (b:(Sl Use)):Bool :=
  (zxP a b (0:Int))
theorem zDY (hs:zxR a b=true) (hk:K (e53 (zxQ a b))):z53 K [1,1] [] ⟨[(0,zS zaP 2 a),(1,zS zaP 2 b)],[],[]⟩:=zbd (by kernel_rfl) (zDX hs hk)
def s53 (a:(Sl Use)) (b:(Sl Use)):Bool :=
  (cond ((a.len : Int) != (b.len : Int))
 false
 (zxQ a b))
def p53 (a:(Sl Use)) (b:(Sl Use)):Bool :=
  (cond ((a.len : Int) != (b.len : Int))
 true
 (zxR a b))
end
theorem q53 (a:(Sl Use)) (b:(Sl Use)) (K:List PA→Prop) (hs:p53 a b=true) (hk:K (e53 (s53 a b))):vcFun Tryd.prog G53 zDW 53 [.one (.sl a.len 2 (fun i=>zaP (a.get i))),.one (.sl b.len 2 (fun i=>zaP (b.get i)))] K :=
  zbd (by kernel_rfl) (zc hs hk (fun hs hk=>hk) (fun hs hk=>(zDY hs hk)))
def zDZ : List PA → COut
  | [.one (.sl a0_n a0_s a0_g),.one (.sl a1_n a1_s a1_g)]=>.det (IsE zaP 2 a0_s a0_g∧IsE zaP 2 a1_s a1_g∧p53 (⟨a0_n,zcR a0_g⟩:(Sl Use)) (⟨a1_n,zcR a1_g⟩:(Sl Use))=true) [.one (.bool (s53 (⟨a0_n,zcR a0_g⟩:(Sl Use)) (⟨a1_n,zcR a1_g⟩:(Sl Use))))]
  | _=>.no
theorem zGN:zaq Tryd.prog 53:=⟨_,rfl,rfl,by kernel_rfl⟩
theorem zKi:Ok Tryd.prog 53 zDZ:=zbG zIK zGN fun args K h=>by
  unfold zDZ at h
  split at h
  · rename_i a0_n a0_s a0_g a1_n a1_s a1_g
    obtain ⟨⟨⟨rfl,a0_f,rfl⟩,⟨rfl,a1_f,rfl⟩,hs⟩,hk⟩:=h
    try rw [zcS a0_f] at hs
    try rw [zcS a0_f] at hk
    try rw [zcS a1_f] at hs
    try rw [zcS a1_f] at hk
    exact ⟨(fun _ _=>[]),(fun _=>false),zDW,q53 (⟨a0_n,a0_f⟩:(Sl Use)) (⟨a1_n,a1_f⟩:(Sl Use)) K hs hk⟩
  · exact h.elim
abbrev T92:Tabs:=((Tabs.nil.addF 93 zn9).addI 110 zob)
theorem zIL:TabsOk Tryd.prog T92:=((TabsOk.nil.addF zEV).addI ztw)
abbrev G92:Ctrs:=csm T92 (fun _ _=>[]) (fun _=>false)
def ziy:Ann:=⟨49,[(0,⟨[0,1,2,3,4],[0,1,2,3,4,4099],[],[],[],[],[]⟩),(1,⟨[0,1,2,3,4,7],[0,1,2,3,4,4099],[],[],[],[],[]⟩),(2,⟨[0,1,2,3,4,5,7],[0,1,2,3,4,5,4099],[],[],[],[],[]⟩),(3,⟨[0,1,2,3,4,5,7,41],[0,1,2,3,4,5,4099],[],[],[],[],[]⟩),(4,⟨[0,1,2,3,4,5],[0,1,2,3,4,5,4099],[],[],[],[],[]⟩),(5,⟨[0,1,2,3,4],[0,1,2,3,4,4099],[],[],[],[],[]⟩),(6,⟨[0,1,2,3,4],[0,1,2,3,4,4099],[],[],[],[],[]⟩),(7,⟨[0,1,2,3,4],[0,1,2,3,4,4099],[],[],[],[],[]⟩)],
 [(2,⟨[0,1,2,3,4,7],[0,1,2,3,4,4099],[],[],[],[],[]⟩)],
 [],
 [],[]⟩
def zfu (w:web) (at_:Int) (d:Tab) (out:(Sl Use)):St:=⟨[(0,.one (.c (.ptr 0 0))),(1,.one (.c (.ptr 1 0))),(2,.one (.c (.ptr 2 0))),(3,.one (.c (.ptr 3 0))),(4,.one (.c (.ptr 4 0))),(7,.one (.c (.p (.fn 110 [] [.fp [.fp (zau w) 0] 0]))))],[(0,.box 102 [.p (.fp (zau w) 0)]),(1,.box 3 [.p (.int .i64 at_)]),(2,.box 116 (zm (zad d))),(3,.box 67 [.vec 4099]),(4,.box 4 [.p (.bool false)]),(4099,.vec 75 2 16 out.len (fun i=>zaP (out.get i)))],[]⟩
def zkL (K:List PA×List XA→Prop) (w:web) (at_:Int) (d:Tab) (out:(Sl Use)):Prop:=vc Tryd.prog G92 ziy (cdF Tryd.f92 [1,0,1,0]) (zaj 0 (sqK Tryd.prog G92 ziy (cdF Tryd.f92 [1,1]) (zk4 Tryd.prog Tryd.f92 [.box 102 [.p (.fp (zau w) 0)],.box 3 [.p (.int .i64 at_)],.box 116 (xcm (zad d)),.box 67 [.vec 75 2 16 out.len (fun i=>zaP (out.get i))]] (fun a b=>K (a,b))))) (zfu w at_ d out)
theorem zD0 (w : web) (at_ : Int) (d : Tab) (out : (Sl Use)) (K : List PA × List XA → Prop) :
  zjK Tryd.prog G92 ziy 92 [.box 102 [.p (.fp (zau w) 0)],.box 3 [.p (.int .i64 at_)],.box 116 (xcm (zad d)),.box 67 [.vec 75 2 16 out.len (fun i=>zaP (out.get i))]] (fun a b=>K (a,b)) =
  ((IsE enc_40 4 4 (fun i=>enc_40 (w.Net.Ties.get i))∧((false,1,false,[none]):MQ)=(false,1,false,[none])) ∧
 (zkL K w at_ d out)):=by kernel_rfl
def zoL (K:List PA×List XA→Prop) (w:web) (at_:Int) (d:Tab) (out:(Sl Use)):Prop :=
  (K ([.one (.bool false)],[.box 102 [.p (.fp (zau w) 0)],.box 3 [.p (.int .i64 at_)],.box 116 (xcm (zad d)),.box 67 [.vec 75 2 16 out.len (fun i=>zaP (out.get i))]]))
def zoM (K:List PA×List XA→Prop) (X0:List (List PA)→St→Prop) (y0:step) (rest0:List (List PA)) (w:web) (at_:Int) (d:Tab) (out:(Sl Use)):Prop :=
  (zby (y0.from_ == at_)
 (((0≤y0.to∧y0.to < (40:Int))) ∧
 (zby (!(match ((tg 80 d (0 + y0.to.toNat * 2 + 0)) == (1000000000000:Int)) with | true => (match ((tg 80 d (0 + y0.to.toNat * 2 + 0 + 1)) == (0:Int)) with | true => true | false => false) | false => false))
 (((0≤y0.to∧y0.to < (40:Int))) ∧
 (((0≤y0.to∧y0.to < (40:Int))) ∧
 (((0≤at_∧at_ < (40:Int))) ∧
 (zby (match ((w64 ((tg 80 d (0 + y0.to.toNat * 2 + 0)) + y0.length)) == (tg 80 d (0 + at_.toNat * 2 + 0))) with | true => (match ((w64 ((tg 80 d (0 + y0.to.toNat * 2 + 1)) + (1:Int))) == (tg 80 d (0 + at_.toNat * 2 + 0 + 1))) with | true => true | false => false) | false => false)
 ((((out.len+1) * 16≤140737488355328∧out.len+1≤9223372036854775807)) ∧
 (K ([.one (.bool true)],[.box 102 [.p (.fp (zau w) 0)],.box 3 [.p (.int .i64 y0.to)],.box 116 (xcm (zad d)),.box 67 [.vec 75 2 16 (out.len+1) (appG out.len (fun i=>zaP (out.get i)) (fun _=>(zaP y0.Use)))]])))
 (X0 rest0 (zfu w at_ d out))))))
 (X0 rest0 (zfu w at_ d out))))
 (X0 rest0 (zfu w at_ d out)))
theorem zqZ (K:List PA×List XA→Prop) (w:web) (at_:Int) (d:Tab) (out:(Sl Use)):(zaj 0 (sqK Tryd.prog G92 ziy (cdF Tryd.f92 [1,1]) (zk4 Tryd.prog Tryd.f92 [.box 102 [.p (.fp (zau w) 0)],.box 3 [.p (.int .i64 at_)],.box 116 (xcm (zad d)),.box 67 [.vec 75 2 16 out.len (fun i=>zaP (out.get i))]] (fun a b=>K (a,b))))) .normal (zfu w at_ d out)=zoL K w at_ d out:=by kernel_rfl
theorem zq0 (K : List PA × List XA → Prop) (X0 : List (List PA) → St → Prop) (y0 : step) (rest0 : List (List PA)) (w : web) (at_ : Int) (d : Tab) (out : (Sl Use)) :
  ztK Tryd.prog G92 ziy 2 [8] (cd (cdF Tryd.f92 [1,0,1,0]) [0]) (cd (cdF Tryd.f92 [1,0,1,0]) [1]) X0 (zaj 0 (sqK Tryd.prog G92 ziy (cdF Tryd.f92 [1,1]) (zk4 Tryd.prog Tryd.f92 [.box 102 [.p (.fp (zau w) 0)],.box 3 [.p (.int .i64 at_)],.box 116 (xcm (zad d)),.box 67 [.vec 75 2 16 out.len (fun i=>zaP (out.get i))]] (fun a b=>K (a,b))))) [.agg (zae y0)] rest0 (zfu w at_ d out)=zoM K X0 y0 rest0 w at_ d out:=by kernel_rfl
theorem zxS (K : List PA × List XA → Prop) (w : web) (at_ : Int) (d : Tab) (out : (Sl Use))
  (hsafe:IsE enc_40 4 4 (fun i=>enc_40 (w.Net.Ties.get i))∧((false,1,false,[none]):MQ)=(false,1,false,[none])∧(zkZ w=true)) (h:∀ X0:List (List PA)→St→Prop,(∀ (_:Unit),zoL K w at_ d out→X0 [] (zfu w at_ d out))→(∀ (y:step) (rest:List (List PA)) (_:Unit),zoM K X0 y rest w at_ d out→X0 ([.agg (zae y)] :: rest) (zfu w at_ d out))→X0 ((zhl w).map fun y=>[.agg (zae y)]) (zfu w at_ d out)) :
  zkL K w at_ d out:=by
  have e:zkL K w at_ d out=((IsE enc_40 4 4 (fun i=>enc_40 (w.Net.Ties.get i))∧((false,1,false,[none]):MQ)=(false,1,false,[none])∧(zkZ w=true))∧∀ X:List (List PA)→St→Prop,(∀ s,(zaj 0 (sqK Tryd.prog G92 ziy (cdF Tryd.f92 [1,1]) (zk4 Tryd.prog Tryd.f92 [.box 102 [.p (.fp (zau w) 0)],.box 3 [.p (.int .i64 at_)],.box 116 (xcm (zad d)),.box 67 [.vec 75 2 16 out.len (fun i=>zaP (out.get i))]] (fun a b=>K (a,b))))) .normal s→X [] s)→(∀ y rest s,ztK Tryd.prog G92 ziy 2 [8] (cd (cdF Tryd.f92 [1,0,1,0]) [0]) (cd (cdF Tryd.f92 [1,0,1,0]) [1]) X (zaj 0 (sqK Tryd.prog G92 ziy (cdF Tryd.f92 [1,1]) (zk4 Tryd.prog Tryd.f92 [.box 102 [.p (.fp (zau w) 0)],.box 3 [.p (.int .i64 at_)],.box 116 (xcm (zad d)),.box 67 [.vec 75 2 16 out.len (fun i=>zaP (out.get i))]] (fun a b=>K (a,b))))) y rest s→X (y :: rest) s)→X ((zhl w).map fun y=>[.agg (zae y)]) (zfu w at_ d out)):=by kernel_rfl
  refine zbd e ⟨hsafe,?_⟩
  intro X h0 h1
  refine h X (fun _ hs=>h0 _ ?_) (fun y rest _ hs=>h1 _ rest _ ?_)
  · rw [zqZ K w at_ d out];exact hs
  · have e2 := zq0 K X y rest w at_ d out
    rw [e2];exact hs
abbrev e92 (w:web) (d:Tab) (r:(Bool×Int×(Sl Use))):List PA×List XA:=([.one (.bool r.1)],[.box 102 [.p (.fp (zau w) 0)],.box 3 [.p (.int .i64 r.2.1)],.box 116 (xcm (zad d)),.box 67 [.vec 75 2 16 r.2.2.len (fun i=>zaP (r.2.2.get i))]])
attribute [irreducible] zkL
def zq1 (w:web) (at_:Int) (d:Tab) (out:(Sl Use)):(Bool×Int×(Sl Use)) :=
  (false,at_,(⟨out.len,out.get⟩:(Sl Use)))
def zq2 (w:web) (at_:Int) (d:Tab) (out:(Sl Use)):Bool :=
  true
def zq3 (w:web) (at_:Int) (d:Tab) (out:(Sl Use)) (y0:step) (S0:(Bool×Int×(Sl Use))):(Bool×Int×(Sl Use)) :=
  (cond (y0.from_ == at_)
 (cond (!(match ((tg 80 d (0 + y0.to.toNat * 2 + 0)) == (1000000000000:Int)) with | true => (match ((tg 80 d (0 + y0.to.toNat * 2 + 0 + 1)) == (0:Int)) with | true => true | false => false) | false => false))
 (cond (match ((w64 ((tg 80 d (0 + y0.to.toNat * 2 + 0)) + y0.length)) == (tg 80 d (0 + at_.toNat * 2 + 0))) with | true => (match ((w64 ((tg 80 d (0 + y0.to.toNat * 2 + 1)) + (1:Int))) == (tg 80 d (0 + at_.toNat * 2 + 0 + 1))) with | true => true | false => false) | false => false)
 (true,y0.to,(⟨(out.len+1),(zlC out.len out.get (fun _=>y0.Use))⟩:(Sl Use)))
 (S0))
 (S0))
 (S0))
def zq4 (w:web) (at_:Int) (d:Tab) (out:(Sl Use)) (y0:step) (P0:Bool):Bool :=
  (cond (y0.from_ == at_)
 (decide ((0≤y0.to∧y0.to < (40:Int))) &&
 (cond (!(match ((tg 80 d (0 + y0.to.toNat * 2 + 0)) == (1000000000000:Int)) with | true => (match ((tg 80 d (0 + y0.to.toNat * 2 + 0 + 1)) == (0:Int)) with | true => true | false => false) | false => false))
 (decide ((0≤y0.to∧y0.to < (40:Int))) &&
 (decide ((0≤y0.to∧y0.to < (40:Int))) &&
 (decide ((0≤at_∧at_ < (40:Int))) &&
 (cond (match ((w64 ((tg 80 d (0 + y0.to.toNat * 2 + 0)) + y0.length)) == (tg 80 d (0 + at_.toNat * 2 + 0))) with | true => (match ((w64 ((tg 80 d (0 + y0.to.toNat * 2 + 1)) + (1:Int))) == (tg 80 d (0 + at_.toNat * 2 + 0 + 1))) with | true => true | false => false) | false => false)
 (decide (((out.len+1) * 16≤140737488355328∧out.len+1≤9223372036854775807)) &&
 true)
 (P0)))))
 (P0)))
 (P0))
def zkM (w : web) (at_ : Int) (d : Tab) (out : (Sl Use)) : List step → (Bool × Int × (Sl Use))
  | []=>zq1 w at_ d out
  | y :: r=>zq3 w at_ d out y (zkM w at_ d out r)
def zkN (w : web) (at_ : Int) (d : Tab) (out : (Sl Use)) : List step → Bool
  | []=>zq2 w at_ d out
  | y :: r=>zq4 w at_ d out y (zkN w at_ d out r)
def zxT (w:web) (at_:Int) (d:Tab) (out:(Sl Use)):(Bool×Int×(Sl Use)):=zkM w at_ d out (zhl w)
def zq5 (w:web) (at_:Int) (d:Tab) (out:(Sl Use)):Bool:=decide ((zkZ w=true)) && zkN w at_ d out (zhl w)
theorem zD1 (K:List PA×List XA→Prop) (w:web) (at_:Int) (d:Tab) (out:(Sl Use)) (hs:zq5 w at_ d out=true) (hk:K (e92 w d (zxT w at_ d out))):zkL K w at_ d out:=by
  unfold zq5 at hs
  rw [Bool.and_eq_true] at hs
  obtain ⟨hsf,hs⟩:=hs
  have hc:=of_decide_eq_true hsf
  refine zxS K w at_ d out ⟨isE,rfl,hc⟩ ?_
  intro X0 hexit hstep
  have key:∀ (l:List step),zkN w at_ d out l=true→K (e92 w d (zkM w at_ d out l))→X0 (l.map fun y=>[.agg (zae y)]) (zfu w at_ d out):=by
    intro l
    induction l with
    | nil =>
      intro hs hk
      refine hexit () ?_
      have hs:zq2 w at_ d out=true:=hs
      have hk:K (e92 w d (zq1 w at_ d out)):=hk
      unfold zq2 at hs
      unfold zq1 at hk
      exact hk
    | cons y0 l ih =>
      intro hs hk
      refine hstep y0 _ () ?_
      have hs:zq4 w at_ d out y0 (zkN w at_ d out l)=true:=hs
      have hk:K (e92 w d (zq3 w at_ d out y0 (zkM w at_ d out l))):=hk
      unfold zq4 at hs
      unfold zq3 at hk
      generalize zkM w at_ d out l=S0 at hk ih
      generalize zkN w at_ d out l=P0 at hs ih
      have hX0:=ih
      exact (zaN (K := fun r => K (e92 w d r))
 (fun hs hk => (za0 hs fun hc hs => ⟨hc, (zaN (K := fun r => K (e92 w d r))
 (fun hs hk => (za0 hs fun hc hs => ⟨hc, (za0 hs fun hc hs => ⟨hc, (za0 hs fun hc hs => ⟨hc, (zaN (K := fun r => K (e92 w d r))
 (fun hs hk=>(za0 hs fun hc hs=>⟨hc,(Eq.mpr (congrArg K (congrArg (fun (g_:Nat→List PV)=>(([.one (.bool true)],[.box 102 [.p (.fp (zau w) 0)],.box 3 [.p (.int .i64 y0.to)],.box 116 (xcm (zad d)),.box 67 [.vec 75 2 16 (out.len+1) g_]]):List PA×List XA)) (zlD (enc:=zaP) (f:=out.get) (h:=(fun _=>y0.Use)) rfl rfl))) hk)⟩))
 (fun hs hk=>(hX0 hs hk)) hs hk)⟩)⟩)⟩))
 (fun hs hk=>(hX0 hs hk)) hs hk)⟩))
 (fun hs hk=>(hX0 hs hk)) hs hk)
  exact key _ hs hk
def s92 (w:web) (at_:Int) (d:Tab) (out:(Sl Use)):(Bool×Int×(Sl Use)) :=
  (zxT w at_ d out)
def p92 (w:web) (at_:Int) (d:Tab) (out:(Sl Use)):Bool :=
  (zq5 w at_ d out)
theorem q92 (w:web) (at_:Int) (d:Tab) (out:(Sl Use)) (K:List PA×List XA→Prop) (hs:p92 w at_ d out=true) (hk:K (e92 w d (s92 w at_ d out))):zjK Tryd.prog G92 ziy 92 [.box 102 [.p (.fp (zau w) 0)],.box 3 [.p (.int .i64 at_)],.box 116 (xcm (zad d)),.box 67 [.vec 75 2 16 out.len (fun i=>zaP (out.get i))]] (fun a b=>K (a,b)):=by
  refine zbd (zD0 w at_ d out K) ?_
  unfold p92 at hs
  unfold s92 at hk
  exact ⟨⟨isE,rfl⟩,(zD1 K w at_ d out hs hk)⟩
def zD2 : MK
  | [.box 102 [.p (.fp [.int .i64 b0_Net_Nodes,.sl b0_Net_Ties_n b0_Net_Ties_s b0_Net_Ties_g,.fm b0_out_q b0_out_n b0_out_F] 0)],.box 3 [.p (.int .i64 b1)],.box 116 b2_cs,.box 67 [.vec 75 2 16 b3_n b3_g]]=>some (IsE enc_40 4 b0_Net_Ties_s b0_Net_Ties_g∧b0_out_q=(false,1,false,[none])∧b2_cs=xcm (zad (za6 (unX b2_cs)))∧IsE zaP 2 2 b3_g∧p92 (⟨(⟨b0_Net_Nodes,(⟨b0_Net_Ties_n,zaa b0_Net_Ties_g⟩:(Sl Tie))⟩:Net),(⟨b0_out_n,b0_out_F⟩:Mp)⟩:web) b1 (za6 (unX b2_cs)) (⟨b3_n,zcR b3_g⟩:(Sl Use))=true,[.one (.bool ((s92 (⟨(⟨b0_Net_Nodes,(⟨b0_Net_Ties_n,zaa b0_Net_Ties_g⟩:(Sl Tie))⟩:Net),(⟨b0_out_n,b0_out_F⟩:Mp)⟩:web) b1 (za6 (unX b2_cs)) (⟨b3_n,zcR b3_g⟩:(Sl Use))).1))],[.box 102 [.p (.fp [.int .i64 b0_Net_Nodes,.sl b0_Net_Ties_n b0_Net_Ties_s b0_Net_Ties_g,.fm b0_out_q b0_out_n b0_out_F] 0)],.box 3 [.p (.int .i64 ((s92 (⟨(⟨b0_Net_Nodes,(⟨b0_Net_Ties_n,zaa b0_Net_Ties_g⟩:(Sl Tie))⟩:Net),(⟨b0_out_n,b0_out_F⟩:Mp)⟩:web) b1 (za6 (unX b2_cs)) (⟨b3_n,zcR b3_g⟩:(Sl Use))).2.1))],.box 116 b2_cs,.box 67 [.vec 75 2 16 (((s92 (⟨(⟨b0_Net_Nodes,(⟨b0_Net_Ties_n,zaa b0_Net_Ties_g⟩:(Sl Tie))⟩:Net),(⟨b0_out_n,b0_out_F⟩:Mp)⟩:web) b1 (za6 (unX b2_cs)) (⟨b3_n,zcR b3_g⟩:(Sl Use))).2.2).len) (fun i=>zaP (((s92 (⟨(⟨b0_Net_Nodes,(⟨b0_Net_Ties_n,zaa b0_Net_Ties_g⟩:(Sl Tie))⟩:Net),(⟨b0_out_n,b0_out_F⟩:Mp)⟩:web) b1 (za6 (unX b2_cs)) (⟨b3_n,zcR b3_g⟩:(Sl Use))).2.2).get i))]])
  | _=>none
theorem zGO:zaq Tryd.prog 92:=⟨_,rfl,rfl,by kernel_rfl⟩
theorem zKj:ziw Tryd.prog 92 zD2:=zCd zIL zGO fun xs safe rs ys h hs K hk=>by
  unfold zD2 at h
  split at h
  · rename_i b0_Net_Nodes b0_Net_Ties_n b0_Net_Ties_s b0_Net_Ties_g b0_out_q b0_out_n b0_out_F b1 b2_cs b3_n b3_g
    simp only [Option.some.injEq,Prod.mk.injEq] at h
    obtain ⟨rfl,rfl,rfl⟩:=h
    obtain ⟨⟨rfl,b0_Net_Ties_f,rfl⟩,rfl,hT_b2,⟨_,b3_f,rfl⟩,hs⟩:=hs
    try rw [zan b0_Net_Ties_f] at hs
    try rw [zan b0_Net_Ties_f] at hk
    try rw [zcS b3_f] at hs
    try rw [zcS b3_f] at hk
    refine ⟨fun _ _=>[],fun _=>false,ziy,?_⟩
    show zjK Tryd.prog G92 ziy 92 _ K
    have hq:=q92 (⟨(⟨b0_Net_Nodes,(⟨b0_Net_Ties_n,b0_Net_Ties_f⟩:(Sl Tie))⟩:Net),(⟨b0_out_n,b0_out_F⟩:Mp)⟩:web) b1 (za6 (unX b2_cs)) (⟨b3_n,b3_f⟩:(Sl Use)) (fun x=>K x.1 x.2) hs
    dsimp only [e92] at hq
    rw [← hT_b2] at hq
    exact hq hk
  · cases h
abbrev T54:Tabs:=(((Tabs.nil.addF 74 zvE).addF 75 zvO).addM 92 zD2)
theorem zIM:TabsOk Tryd.prog T54:=(((TabsOk.nil.addF zIc).addF zIf).addM zKj)
abbrev G54:Ctrs:=csm T54 (fun _ _=>[]) (fun _=>false)
def zD3:Ann:=⟨45,[(0,zK [1,2,3] [3]),(1,zK [1,2,8,9] [8]),(2,zK [1,2,8,9,23] [8]),(3,zK [6,7] []),(4,zK [1,8,10] [8,10]),(5,zK [1,8,10,32] [8,10]),(6,zK [6,7] []),(7,zK [1,8,10,11] [8,10,11]),(8,zK [8,10,11,12] [8,10,11,12]),(9,zK [10,11,12,13] [8,10,11,12]),(10,zK [10,11,12,13,43] [8,10,11,12,5000]),(11,zK [6,7] [5000])],
 [(10,⟨[10,11,12,13],[8,10,11,12,5000],[],[(11,0,5000,75,fun _=>zaP default)],[],[],[]⟩)],
 [],
 [],[]⟩
abbrev R54:=((Sl Use)×Int)
abbrev e54 (r:R54):List PA:=[.one (.sl r.1.len 2 (fun i=>zaP (r.1.get i))),.one (.int .i64 r.2)]
@[irreducible] def z54:=ptF Tryd.prog G54 zD3 Tryd.f54
def zBh (n:Net) (from_a1:Int) (to:Int) (zgA:Int) (zaV:(Sl Use)) (dt0:Tab) (zc6:Nat→List PV):St:=⟨[(10,zp 10 0),(11,zp 11 0),(12,zp 12 0),(13,.one (.c (.clo 92 [.b 8,.b 12,.b 10,.b 11])))],[(8,.box 102 [.p (.fp (zau (⟨(s74 n (⟨2,zar (zbx [(zai from_a1),(zai to)])⟩:(Sl Int))).1.Net,((s74 n (⟨2,zar (zbx [(zai from_a1),(zai to)])⟩:(Sl Int))).1.out)⟩:web)) 0)]),(10,.box 116 (zm (zad dt0))),(11,.box 67 [.vec 5000]),(12,.box 3 [zi zgA]),(5000,.vec 75 2 16 zaV.len zc6)],[]⟩
abbrev zGP (K:List PA→Prop) (n:Net) (from_a1:Int) (to:Int) (X:St→Prop) (P:Int→(Sl Use)→Tab→Bool) (S:Int→(Sl Use)→Tab→((Sl Use)×Int)):Prop:=∀ ⦃zgA:Int⦄ ⦃zaV:(Sl Use)⦄ ⦃dt0:Tab⦄ ⦃zc6:Nat→List PV⦄,P zgA zaV dt0=true→K (e54 (S zgA zaV dt0))→zc6=zg zaP zaV→X (zBh n from_a1 to zgA zaV dt0 zc6)
section
variable {K:List PA→Prop} {n:Net} {from_a1:Int} {to:Int} {zgA:Int} {zaV:(Sl Use)} {dt0:Tab} {zc6:Nat→List PV} {X0:St→Prop} {P0:Int→(Sl Use)→Tab→Bool} {S0:Int→(Sl Use)→Tab→((Sl Use)×Int)}
def zxU (n:Net) (from_a1:Int) (to:Int) (S0:Int→(Sl Use)→Tab→((Sl Use)×Int)) (zgA:Int) (zaV:(Sl Use)) (dt0:Tab):((Sl Use)×Int) :=
  (cond (decide ((tg 80 dt0 (0 + zgA.toNat * 2 + 1)) > (0:Int)))
 (cond ((s92 (⟨(s74 n (⟨2, zar (zbx [(zai from_a1), (zai to)])⟩ : (Sl Int))).1.Net, ((s74 n (⟨2, zar (zbx [(zai from_a1), (zai to)])⟩ : (Sl Int))).1.out)⟩ : web) zgA (za6 (unX (xcm (zad dt0)))) (⟨zaV.len, zaV.get⟩ : (Sl Use))).1)
 (S0 ((s92 (⟨(s74 n (⟨2,zar (zbx [(zai from_a1),(zai to)])⟩:(Sl Int))).1.Net,((s74 n (⟨2,zar (zbx [(zai from_a1),(zai to)])⟩:(Sl Int))).1.out)⟩:web) zgA (za6 (unX (xcm (zad dt0)))) (⟨zaV.len,zaV.get⟩:(Sl Use))).2.1) ((s92 (⟨(s74 n (⟨2,zar (zbx [(zai from_a1),(zai to)])⟩:(Sl Int))).1.Net,((s74 n (⟨2,zar (zbx [(zai from_a1),(zai to)])⟩:(Sl Int))).1.out)⟩:web) zgA (za6 (unX (xcm (zad dt0)))) (⟨zaV.len,zaV.get⟩:(Sl Use))).2.2) dt0)
 (((s92 (⟨(s74 n (⟨2,zar (zbx [(zai from_a1),(zai to)])⟩:(Sl Int))).1.Net,((s74 n (⟨2,zar (zbx [(zai from_a1),(zai to)])⟩:(Sl Int))).1.out)⟩:web) zgA (za6 (unX (xcm (zad dt0)))) (⟨zaV.len,zaV.get⟩:(Sl Use))).2.2),(0:Int)))
 (zaV,(0:Int)))
def zxV (n:Net) (from_a1:Int) (to:Int) (P0:Int→(Sl Use)→Tab→Bool) (zgA:Int) (zaV:(Sl Use)) (dt0:Tab):Bool :=
  (decide ((0≤zgA∧zgA < (40:Int))) &&
 (cond (decide ((tg 80 dt0 (0 + zgA.toNat * 2 + 1)) > (0:Int)))
 (decide ((p92 (⟨(s74 n (⟨2,zar (zbx [(zai from_a1),(zai to)])⟩:(Sl Int))).1.Net,((s74 n (⟨2,zar (zbx [(zai from_a1),(zai to)])⟩:(Sl Int))).1.out)⟩:web) zgA (za6 (unX (xcm (zad dt0)))) (⟨zaV.len,zaV.get⟩:(Sl Use))=true)) &&
 (cond ((s92 (⟨(s74 n (⟨2, zar (zbx [(zai from_a1), (zai to)])⟩ : (Sl Int))).1.Net, ((s74 n (⟨2, zar (zbx [(zai from_a1), (zai to)])⟩ : (Sl Int))).1.out)⟩ : web) zgA (za6 (unX (xcm (zad dt0)))) (⟨zaV.len, zaV.get⟩ : (Sl Use))).1)
 (P0 ((s92 (⟨(s74 n (⟨2,zar (zbx [(zai from_a1),(zai to)])⟩:(Sl Int))).1.Net,((s74 n (⟨2,zar (zbx [(zai from_a1),(zai to)])⟩:(Sl Int))).1.out)⟩:web) zgA (za6 (unX (xcm (zad dt0)))) (⟨zaV.len,zaV.get⟩:(Sl Use))).2.1) ((s92 (⟨(s74 n (⟨2,zar (zbx [(zai from_a1),(zai to)])⟩:(Sl Int))).1.Net,((s74 n (⟨2,zar (zbx [(zai from_a1),(zai to)])⟩:(Sl Int))).1.out)⟩:web) zgA (za6 (unX (xcm (zad dt0)))) (⟨zaV.len,zaV.get⟩:(Sl Use))).2.2) dt0)
 true))
 true))
def zxW (n:Net) (from_a1:Int) (to:Int):Nat→Int→(Sl Use)→Tab→((Sl Use)×Int):=lpO (fun _ _ _=>default) (zxU n from_a1 to)
def zxX (n:Net) (from_a1:Int) (to:Int):Nat→Int→(Sl Use)→Tab→Bool:=lpO (fun _ _ _=>false) (zxV n from_a1 to)
def zxY (n:Net) (from_a1:Int) (to:Int) (zgA:Int) (zaV:(Sl Use)) (dt0:Tab):((Sl Use)×Int):=zxW n from_a1 to Fuel zgA zaV dt0
def zxZ (n:Net) (from_a1:Int) (to:Int) (zgA:Int) (zaV:(Sl Use)) (dt0:Tab):Bool:=zxX n from_a1 to Fuel zgA zaV dt0
theorem zD4 (hs:zxZ n from_a1 to zgA zaV dt0=true) (hk:K (e54 (zxY n from_a1 to zgA zaV dt0))) (zkO:zc6=zg zaP zaV):z54 (Wk K) [1,1,1,1,1,1,1,1,0,0] [] (zBh n from_a1 to zgA zaV dt0 zc6) :=
  zl (fun X=>z54 (Wk K) [1,1,1,1,1,1,1,1,0,0,0] [X]) (by kernel_rfl) fun X0 hX =>
  (show ∀ k, zGP K n from_a1 to X0 (zxX n from_a1 to k) (zxW n from_a1 to k) from zk5 _ _ (zxV n from_a1 to) (zxU n from_a1 to) (zGP K n from_a1 to X0)
 (by intro _ _ _ _ hs;exact absurd hs Bool.false_ne_true)
 (by intro P0 S0 hX0 zgA zaV dt0 zc6 hs hk zkO;subst zkO;exact hX _ (zbd (by kernel_rfl) (za0 hs fun hc hs=>And.intro hc (zc hs hk (fun hs hk=>(za0 hs fun hc hs=>And.intro (And.intro (zE enc_40 4 ((s74 n (⟨2,zar (zbx [(zai from_a1),(zai to)])⟩:(Sl Int))).1.Net.Ties.get)) (And.intro (rfl:((false,1,false,[none]):MQ)=(false,1,false,[none])) (And.intro (zCe:xcm (zad dt0)=xcm (zad (za6 (unX (xcm (zad dt0)))))) (And.intro (zE zaP 2 zaV.get) hc)))) (zc hs hk (fun hs hk=>(hX0 hs hk rfl)) (fun hs hk=>((zf2 hk):Wk K [.one (.sl (((s92 (⟨(s74 n (⟨2,zar (zbx [(zai from_a1),(zai to)])⟩:(Sl Int))).1.Net,((s74 n (⟨2,zar (zbx [(zai from_a1),(zai to)])⟩:(Sl Int))).1.out)⟩:web) zgA (za6 (unX (xcm (zad dt0)))) (⟨zaV.len,zaV.get⟩:(Sl Use))).2.2).len) 2 (fun i=>zaP (((s92 (⟨(s74 n (⟨2,zar (zbx [(zai from_a1),(zai to)])⟩:(Sl Int))).1.Net,((s74 n (⟨2,zar (zbx [(zai from_a1),(zai to)])⟩:(Sl Int))).1.out)⟩:web) zgA (za6 (unX (xcm (zad dt0)))) (⟨zaV.len,zaV.get⟩:(Sl Use))).2.2).get i))),.one (.int .i64 (0:Int))]))))) (fun hs hk=>((zf2 hk):Wk K [.one (.sl zaV.len 2 (fun i=>zaP (zaV.get i))),.one (.int .i64 (0:Int))]))))))) _ hs hk zkO
def s54 (n:Net) (from_a1:Int) (to:Int):((Sl Use)×Int) :=
  (cond ((s74 n (⟨2, zar (zbx [(zai from_a1), (zai to)])⟩ : (Sl Int))).2 == 0)
 (cond ((0:Int) != (0:Int))
 ((⟨0,fun _=>default⟩:(Sl Use)),(0:Int))
 (cond (match ((tg 80 (s75 (⟨(s74 n (⟨2, zar (zbx [(zai from_a1), (zai to)])⟩ : (Sl Int))).1.Net, ((s74 n (⟨2, zar (zbx [(zai from_a1), (zai to)])⟩ : (Sl Int))).1.out)⟩ : web) to) (0 + from_a1.toNat * 2 + 0)) == (1000000000000:Int)) with | true => (match ((tg 80 (s75 (⟨(s74 n (⟨2, zar (zbx [(zai from_a1), (zai to)])⟩ : (Sl Int))).1.Net, ((s74 n (⟨2, zar (zbx [(zai from_a1), (zai to)])⟩ : (Sl Int))).1.out)⟩ : web) to) (0 + from_a1.toNat * 2 + 0 + 1)) == (0:Int)) with | true => true | false => false) | false => false)
 ((⟨0,fun _=>default⟩:(Sl Use)),(6:Int))
 (zxY n from_a1 to from_a1 (⟨0,(fun _=>default)⟩:Sl Use) (s75 (⟨(s74 n (⟨2,zar (zbx [(zai from_a1),(zai to)])⟩:(Sl Int))).1.Net,((s74 n (⟨2,zar (zbx [(zai from_a1),(zai to)])⟩:(Sl Int))).1.out)⟩:web) to))))
 (cond ((s74 n (⟨2, zar (zbx [(zai from_a1), (zai to)])⟩ : (Sl Int))).2 != (0:Int))
 ((⟨0,fun _=>default⟩:(Sl Use)),(s74 n (⟨2,zar (zbx [(zai from_a1),(zai to)])⟩:(Sl Int))).2)
 default))
def p54 (n:Net) (from_a1:Int) (to:Int):Bool :=
  (cond ((s74 n (⟨2, zar (zbx [(zai from_a1), (zai to)])⟩ : (Sl Int))).2 == 0)
 (decide ((p74 n (⟨2,zar (zbx [(zai from_a1),(zai to)])⟩:(Sl Int))=true)) &&
 (cond ((0:Int) != (0:Int))
 true
 (decide ((p75 (⟨(s74 n (⟨2,zar (zbx [(zai from_a1),(zai to)])⟩:(Sl Int))).1.Net,((s74 n (⟨2,zar (zbx [(zai from_a1),(zai to)])⟩:(Sl Int))).1.out)⟩:web) to=true)) &&
 (decide ((0≤from_a1∧from_a1 < (40:Int))) &&
 (cond (match ((tg 80 (s75 (⟨(s74 n (⟨2, zar (zbx [(zai from_a1), (zai to)])⟩ : (Sl Int))).1.Net, ((s74 n (⟨2, zar (zbx [(zai from_a1), (zai to)])⟩ : (Sl Int))).1.out)⟩ : web) to) (0 + from_a1.toNat * 2 + 0)) == (1000000000000:Int)) with | true => (match ((tg 80 (s75 (⟨(s74 n (⟨2, zar (zbx [(zai from_a1), (zai to)])⟩ : (Sl Int))).1.Net, ((s74 n (⟨2, zar (zbx [(zai from_a1), (zai to)])⟩ : (Sl Int))).1.out)⟩ : web) to) (0 + from_a1.toNat * 2 + 0 + 1)) == (0:Int)) with | true => true | false => false) | false => false)
 true
 (zxZ n from_a1 to from_a1 (⟨0,(fun _=>default)⟩:Sl Use) (s75 (⟨(s74 n (⟨2,zar (zbx [(zai from_a1),(zai to)])⟩:(Sl Int))).1.Net,((s74 n (⟨2,zar (zbx [(zai from_a1),(zai to)])⟩:(Sl Int))).1.out)⟩:web) to)))))))
 (decide ((p74 n (⟨2,zar (zbx [(zai from_a1),(zai to)])⟩:(Sl Int))=true)) &&
 (cond ((s74 n (⟨2, zar (zbx [(zai from_a1), (zai to)])⟩ : (Sl Int))).2 != (0:Int))
 true
 false)))
end
theorem q54 (n:Net) (from_a1:Int) (to:Int) (K:List PA→Prop) (hs:p54 n from_a1 to=true) (hk:K (e54 (s54 n from_a1 to))):vcFun Tryd.prog G54 zD3 54 [.agg (enc_24 n),.one (.int .i64 from_a1),.one (.int .i64 to)] (Wk K) :=
  zbd (by kernel_rfl) (zc hs hk (fun hs hk=>(za0 hs fun hc hs=>And.intro (And.intro (zE enc_40 4 n.Ties.get) (And.intro ((zdZ []):IsE zai 1 1 (zbx [(zai from_a1),(zai to)])) hc)) (zc hs hk (fun hs hk=>((wk hk (zhk (.one (.nil _ _)) (zhk (.one (.rfl _)) zn7))):Wk K [.one (.nils),.one (.int .i64 (0:Int))])) (fun hs hk=>(za0 hs fun hc hs=>And.intro (And.intro (zE enc_40 4 ((s74 n (⟨2,zar (zbx [(zai from_a1),(zai to)])⟩:(Sl Int))).1.Net.Ties.get)) (And.intro (rfl:((false,1,false,[none]):MQ)=(false,1,false,[none])) hc)) (za0 hs fun hc hs=>And.intro hc (zc hs hk (fun hs hk=>((wk hk (zhk (.one (.nil _ _)) (zhk (.one (.rfl _)) zn7))):Wk K [.one (.nils),.one (.int .i64 (6:Int))])) (fun hs hk=>(zD4 hs hk rfl))))))))) (fun hs hk=>(za0 hs fun hc hs=>And.intro (And.intro (zE enc_40 4 n.Ties.get) (And.intro ((zdZ []):IsE zai 1 1 (zbx [(zai from_a1),(zai to)])) hc)) (zc hs hk (fun hs hk=>((wk hk (zhk (.one (.nil _ _)) (zhk (.one (.rfl _)) zn7))):Wk K [.one (.nils),.one (.int .i64 ((s74 n (⟨2,zar (zbx [(zai from_a1),(zai to)])⟩:(Sl Int))).2))])) (fun hs hk=>(absurd hs Bool.false_ne_true:False))))))
def zD5 : List PA → COut
  | [.agg [.int .i64 a0_Nodes,.sl a0_Ties_n a0_Ties_s a0_Ties_g],.one (.int .i64 a1),.one (.int .i64 a2)]=>.det (IsE enc_40 4 a0_Ties_s a0_Ties_g∧p54 (⟨a0_Nodes,(⟨a0_Ties_n,zaa a0_Ties_g⟩:(Sl Tie))⟩:Net) a1 a2=true) [.one (.sl (((s54 (⟨a0_Nodes,(⟨a0_Ties_n,zaa a0_Ties_g⟩:(Sl Tie))⟩:Net) a1 a2).1).len) 2 (fun i=>zaP (((s54 (⟨a0_Nodes,(⟨a0_Ties_n,zaa a0_Ties_g⟩:(Sl Tie))⟩:Net) a1 a2).1).get i))),.one (.int .i64 ((s54 (⟨a0_Nodes,(⟨a0_Ties_n,zaa a0_Ties_g⟩:(Sl Tie))⟩:Net) a1 a2).2))]
  | _=>.no
theorem zGQ:zaq Tryd.prog 54:=⟨_,rfl,rfl,by kernel_rfl⟩
theorem zKk:Ok Tryd.prog 54 zD5:=zhy zIM zGQ fun args K h=>by
  unfold zD5 at h
  split at h
  · rename_i a0_Nodes a0_Ties_n a0_Ties_s a0_Ties_g a1 a2
    obtain ⟨⟨⟨rfl,a0_Ties_f,rfl⟩,hs⟩,hk⟩:=h
    try rw [zan a0_Ties_f] at hs
    try rw [zan a0_Ties_f] at hk
    exact ⟨_,ze8 zf1 _,(fun _ _=>[]),(fun _=>false),zD3,q54 (⟨a0_Nodes,(⟨a0_Ties_n,a0_Ties_f⟩:(Sl Tie))⟩:Net) a1 a2 K hs hk⟩
  · exact h.elim
abbrev T66:Tabs:=Tabs.nil
theorem zIN:TabsOk Tryd.prog T66:=TabsOk.nil
abbrev G66:Ctrs:=csm T66 (fun _ _=>[]) (fun _=>false)
def zGR:Ann:=⟨6,[(0,zK [0] [0]),(1,zK [0] [0,4])],
 [],
 [],
 [],[]⟩
abbrev R66:=Net
abbrev e66 (r:R66):List PA:=[.agg [.int .i64 r.Nodes,.sl r.Ties.len 4 (fun i=>enc_40 (r.Ties.get i))]]
section
variable {K:List PA→Prop}
def s66:Net :=
  (⟨(3:Int),(⟨3,(zo8 (⟨(0:Int),(1:Int),(5:Int),(8:Int)⟩:Tie) [(⟨(0:Int),(1:Int),(5:Int),(8:Int)⟩:Tie),(⟨(1:Int),(2:Int),(-2:Int),(3:Int)⟩:Tie),(⟨(2:Int),(0:Int),(-9:Int),(1000000000000:Int)⟩:Tie)])⟩:(Sl Tie))⟩:Net)
end
theorem q66 (K:List PA→Prop) (hk:K (e66 (s66))):vcFun Tryd.prog G66 zGR 66 [] K :=
  zbd (by kernel_rfl) (Eq.mpr (congrArg K (congrArg (fun (g_:Nat→List PV)=>([.agg [.int .i64 (3:Int),.sl 3 4 g_]]:List PA)) (zr5 (enc:=enc_40) (x:=(⟨(0:Int),(1:Int),(5:Int),(8:Int)⟩:Tie)) (y:=(⟨(1:Int),(2:Int),(-2:Int),(3:Int)⟩:Tie)) (r:=[(⟨(2:Int),(0:Int),(-9:Int),(1000000000000:Int)⟩:Tie)])))) hk)
def zD6 : List PA → COut
  | []=>.tot [.agg [.int .i64 ((s66).Nodes),.sl ((s66).Ties.len) 4 (fun i=>enc_40 ((s66).Ties.get i))]]
  | _=>.no
theorem zGS:zaq Tryd.prog 66:=⟨_,rfl,rfl,by kernel_rfl⟩
theorem zKl:Ok Tryd.prog 66 zD6:=zbG zIN zGS fun args K h=>by
  unfold zD6 at h
  split at h
  · have hk := h
    exact ⟨(fun _ _=>[]),(fun _=>false),zGR,q66 K hk⟩
  · exact h.elim
abbrev T21:Tabs:=((((((((((Tabs.nil.addF 22 zDv).addF 25 zDz).addF 26 zzV).addF 29 zzW).addF 32 zDD).addF 45 zDM).addF 49 zDV).addF 53 zDZ).addF 54 zD5).addF 66 zD6)
theorem zIO:TabsOk Tryd.prog T21:=((((((((((TabsOk.nil.addF zKb).addF zKc).addF zJh).addF zJi).addF ok32).addF zKg).addF zKh).addF zKi).addF zKk).addF zKl)
abbrev G21:Ctrs:=csm T21 (fun _ _=>[]) (fun _=>false)
def zD7:Ann:=⟨87,[(0,zK [] []),(1,zK [1,2] []),(2,zK [1,2,3,4] []),(3,zK [1,2,3,4,5,6] []),(4,zK [1,2,3,4,5,6,7] [7]),(5,zK [1,2,3,4,5,6,7,8,9] [7]),(6,zK [1,2,3,4,5,6,8,9,10,11] []),(7,zK [1,3,5,8,10,57] []),(8,zK [0] []),(9,zK [0] [])],
 [],
 [(2,zK [1,2] []),(3,zK [1,2,3,4] []),(4,zK [1,2,3,4,5,6] []),(5,zK [1,2,3,4,5,6,7] [7]),(6,zK [1,2,3,4,5,6,7,8,9] [7]),(7,zK [1,2,3,4,5,6,8,9,10,11] []),(9,zK [1,3,5,8,10] [])],
 [],[]⟩
abbrev R21:=Bool
abbrev e21 (r:R21):List PA:=[.one (.bool r)]
@[irreducible] def z21:=ptF Tryd.prog G21 zD7 Tryd.f21
section
variable {K:List PA→Prop} {bv0:(Sl Span)} {ev0:Int} {zGT:Nat→List PV} {cv1:(Sl Use)} {fv1:Int} {zGU:Nat→List PV} {vv2:(Sl Int)} {gv2:Int} {zGV:Nat→List PV} {zdQ:Int} {zdb:(Sl Tie)} {zx0:Nat→List PV} {xv4:(Sl Use)} {hv4:Int} {zGW:Nat→List PV} {lv5:(Sl Int)} {iv5:Int} {zGX:Nat→List PV}
def zx1 (bv0:(Sl Span)) (cv1:(Sl Use)) (vv2:(Sl Int)) (xv4:(Sl Use)) (lv5:(Sl Int)):Bool :=
  (cond (s32 bv0 (⟨3, ze9 (zbx [(zaW (⟨(0:Int), (0:Int)⟩ : Span)), (zaW (⟨(5:Int), (8:Int)⟩ : Span)), (zaW (⟨(3:Int), (9:Int)⟩ : Span))])⟩ : (Sl Span)))
 (cond (s53 cv1 (⟨1, fun _ => (⟨(2:Int), true⟩ : Use)⟩ : (Sl Use)))
 (cond (s25 vv2 (⟨3, zar (zbx [(zai (0:Int)), (zai (5:Int)), (zai (8:Int))])⟩ : (Sl Int)))
 (cond (s53 xv4 (⟨2, zcR (zbx [(zaP (⟨(2:Int), true⟩ : Use)), (zaP (⟨(3:Int), true⟩ : Use))])⟩ : (Sl Use)))
 (s25 lv5 (⟨1,fun _=>(2:Int)⟩:(Sl Int)))
 false)
 false)
 false)
 false)
def zx2 (bv0:(Sl Span)) (cv1:(Sl Use)) (vv2:(Sl Int)) (xv4:(Sl Use)) (lv5:(Sl Int)):Bool :=
  (decide ((p32 bv0 (⟨3,ze9 (zbx [(zaW (⟨(0:Int),(0:Int)⟩:Span)),(zaW (⟨(5:Int),(8:Int)⟩:Span)),(zaW (⟨(3:Int),(9:Int)⟩:Span))])⟩:(Sl Span))=true)) &&
 (cond (s32 bv0 (⟨3, ze9 (zbx [(zaW (⟨(0:Int), (0:Int)⟩ : Span)), (zaW (⟨(5:Int), (8:Int)⟩ : Span)), (zaW (⟨(3:Int), (9:Int)⟩ : Span))])⟩ : (Sl Span)))
 (decide ((p53 cv1 (⟨1,fun _=>(⟨(2:Int),true⟩:Use)⟩:(Sl Use))=true)) &&
 (cond (s53 cv1 (⟨1, fun _ => (⟨(2:Int), true⟩ : Use)⟩ : (Sl Use)))
 (decide ((p25 vv2 (⟨3,zar (zbx [(zai (0:Int)),(zai (5:Int)),(zai (8:Int))])⟩:(Sl Int))=true)) &&
 (cond (s25 vv2 (⟨3, zar (zbx [(zai (0:Int)), (zai (5:Int)), (zai (8:Int))])⟩ : (Sl Int)))
 (decide ((p53 xv4 (⟨2,zcR (zbx [(zaP (⟨(2:Int),true⟩:Use)),(zaP (⟨(3:Int),true⟩:Use))])⟩:(Sl Use))=true)) &&
 (cond (s53 xv4 (⟨2, zcR (zbx [(zaP (⟨(2:Int), true⟩ : Use)), (zaP (⟨(3:Int), true⟩ : Use))])⟩ : (Sl Use)))
 (decide ((p25 lv5 (⟨1,fun _=>(2:Int)⟩:(Sl Int))=true)) &&
 true)
 true))
 true))
 true))
 true))
theorem zD8 (hs:zx2 bv0 cv1 vv2 xv4 lv5=true) (hk:K (e21 (zx1 bv0 cv1 vv2 xv4 lv5))):z21 K [1,1,1,1,1,1,1,1] [] ⟨[(1,zS zaW 2 bv0),(3,zS zaP 2 cv1),(5,zS zai 1 vv2),(8,zS zaP 2 xv4),(10,zS zai 1 lv5)],[],[]⟩:=zbd (by kernel_rfl) (za0 hs fun hc hs=>And.intro (And.intro (zE zaW 2 bv0.get) (And.intro ((zdZ [(⟨(3:Int),(9:Int)⟩:Span)]):IsE zaW 2 2 (zbx [(zaW (⟨(0:Int),(0:Int)⟩:Span)),(zaW (⟨(5:Int),(8:Int)⟩:Span)),(zaW (⟨(3:Int),(9:Int)⟩:Span))])) hc)) (zc hs hk (fun hs hk=>(za0 hs fun hc hs=>And.intro (And.intro (zE zaP 2 cv1.get) (And.intro (zvl:IsE zaP 2 2 (fun _=>(zaP (⟨(2:Int),true⟩:Use)))) hc)) (zc hs hk (fun hs hk=>(za0 hs fun hc hs=>And.intro (And.intro (zE zai 1 vv2.get) (And.intro ((zdZ [(8:Int)]):IsE zai 1 1 (zbx [(zai (0:Int)),(zai (5:Int)),(zai (8:Int))])) hc)) (zc hs hk (fun hs hk=>(za0 hs fun hc hs=>And.intro (And.intro (zE zaP 2 xv4.get) (And.intro ((zdZ []):IsE zaP 2 2 (zbx [(zaP (⟨(2:Int),true⟩:Use)),(zaP (⟨(3:Int),true⟩:Use))])) hc)) (zc hs hk (fun hs hk=>(za0 hs fun hc hs=>And.intro (And.intro (zE zai 1 lv5.get) (And.intro (zvl:IsE zai 1 1 (fun _=>(zai (2:Int)))) hc)) hk)) (fun hs hk=>hk)))) (fun hs hk=>hk)))) (fun hs hk=>hk)))) (fun hs hk=>hk)))
def zx3 (bv0:(Sl Span)) (ev0:Int) (cv1:(Sl Use)) (fv1:Int) (vv2:(Sl Int)) (gv2:Int) (xv4:(Sl Use)) (hv4:Int) (lv5:(Sl Int)) (iv5:Int):Bool :=
  (cond (ev0 != (0:Int))
 false
 (cond (fv1 != (0:Int))
 false
 (cond (gv2 != (0:Int))
 false
 (cond (hv4 != (0:Int))
 false
 (cond (iv5 != (0:Int))
 false
 (zx1 bv0 cv1 vv2 xv4 lv5))))))
def zx4 (bv0:(Sl Span)) (ev0:Int) (cv1:(Sl Use)) (fv1:Int) (vv2:(Sl Int)) (gv2:Int) (xv4:(Sl Use)) (hv4:Int) (lv5:(Sl Int)) (iv5:Int):Bool :=
  (cond (ev0 != (0:Int))
 true
 (cond (fv1 != (0:Int))
 true
 (cond (gv2 != (0:Int))
 true
 (cond (hv4 != (0:Int))
 true
 (cond (iv5 != (0:Int))
 true
 (zx2 bv0 cv1 vv2 xv4 lv5))))))
theorem zD9 (hs:zx4 bv0 ev0 cv1 fv1 vv2 gv2 xv4 hv4 lv5 iv5=true) (hk:K (e21 (zx3 bv0 ev0 cv1 fv1 vv2 gv2 xv4 hv4 lv5 iv5))) (zIP:zGX=zg zai lv5):z21 K [1,1,1,1,1,1,1] [] ⟨[(1,zS zaW 2 bv0),(2,zI ev0),(3,zS zaP 2 cv1),(4,zI fv1),(5,zS zai 1 vv2),(6,zI gv2),(8,zS zaP 2 xv4),(9,zI hv4),(10,zP (.sl lv5.len 1 zGX)),(11,zI iv5)],[],[]⟩:=by subst zIP;exact zbd (by kernel_rfl) (zc hs hk (fun hs hk=>hk) (fun hs hk=>(zc hs hk (fun hs hk=>hk) (fun hs hk=>(zc hs hk (fun hs hk=>hk) (fun hs hk=>(zc hs hk (fun hs hk=>hk) (fun hs hk=>(zc hs hk (fun hs hk=>hk) (fun hs hk=>(zD8 hs hk)))))))))))
def zx5 (bv0:(Sl Span)) (ev0:Int) (cv1:(Sl Use)) (fv1:Int) (vv2:(Sl Int)) (gv2:Int) (zdQ:Int) (zdb:(Sl Tie)) (xv4:(Sl Use)) (hv4:Int):Bool :=
  (zx3 bv0 ev0 cv1 fv1 vv2 gv2 xv4 hv4 ((s22 (⟨zdQ,zdb⟩:Net)).1) ((s22 (⟨zdQ,zdb⟩:Net)).2))
def zx6 (bv0:(Sl Span)) (ev0:Int) (cv1:(Sl Use)) (fv1:Int) (vv2:(Sl Int)) (gv2:Int) (zdQ:Int) (zdb:(Sl Tie)) (xv4:(Sl Use)) (hv4:Int):Bool :=
  (decide ((p22 (⟨zdQ,zdb⟩:Net)=true)) &&
 (zx4 bv0 ev0 cv1 fv1 vv2 gv2 xv4 hv4 ((s22 (⟨zdQ,zdb⟩:Net)).1) ((s22 (⟨zdQ,zdb⟩:Net)).2)))
theorem zEa (hs:zx6 bv0 ev0 cv1 fv1 vv2 gv2 zdQ zdb xv4 hv4=true) (hk:K (e21 (zx5 bv0 ev0 cv1 fv1 vv2 gv2 zdQ zdb xv4 hv4))) (zIQ:zGW=zg zaP xv4):z21 K [1,1,1,1,1,1] [] ⟨[(1,zS zaW 2 bv0),(2,zI ev0),(3,zS zaP 2 cv1),(4,zI fv1),(5,zS zai 1 vv2),(6,zI gv2),(7,zp 7 0),(8,zP (.sl xv4.len 2 zGW)),(9,zI hv4)],[(7,.box 24 (zm (enc_24 (⟨zdQ,zdb⟩:Net))))],[]⟩:=by subst zIQ;exact zbd (by kernel_rfl) (za0 hs fun hc hs=>And.intro (And.intro (zE enc_40 4 zdb.get) hc) (zD9 hs hk rfl))
def zx7 (bv0:(Sl Span)) (ev0:Int) (cv1:(Sl Use)) (fv1:Int) (vv2:(Sl Int)) (gv2:Int) (zdQ:Int) (zdb:(Sl Tie)):Bool :=
  (zx5 bv0 ev0 cv1 fv1 vv2 gv2 zdQ zdb ((s49 (⟨zdQ,zdb⟩:Net)).1) ((s49 (⟨zdQ,zdb⟩:Net)).2))
def zx8 (bv0:(Sl Span)) (ev0:Int) (cv1:(Sl Use)) (fv1:Int) (vv2:(Sl Int)) (gv2:Int) (zdQ:Int) (zdb:(Sl Tie)):Bool :=
  (decide ((p49 (⟨zdQ,zdb⟩:Net)=true)) &&
 (zx6 bv0 ev0 cv1 fv1 vv2 gv2 zdQ zdb ((s49 (⟨zdQ,zdb⟩:Net)).1) ((s49 (⟨zdQ,zdb⟩:Net)).2)))
theorem zEb (hs:zx8 bv0 ev0 cv1 fv1 vv2 gv2 zdQ zdb=true) (hk:K (e21 (zx7 bv0 ev0 cv1 fv1 vv2 gv2 zdQ zdb))) (zEc:zx0=zg enc_40 zdb):z21 K [1,1,1,1,1] [] ⟨[(1,zS zaW 2 bv0),(2,zI ev0),(3,zS zaP 2 cv1),(4,zI fv1),(5,zS zai 1 vv2),(6,zI gv2),(7,zp 7 0)],[(7,.box 24 [zi zdQ,.p (.sl zdb.len 4 zx0)])],[]⟩:=by subst zEc;exact zbd (by kernel_rfl) (za0 hs fun hc hs=>And.intro (And.intro (zE enc_40 4 zdb.get) hc) (zEa hs hk rfl))
def zx9 (bv0:(Sl Span)) (ev0:Int) (cv1:(Sl Use)) (fv1:Int) (vv2:(Sl Int)) (gv2:Int):Bool :=
  (zx7 bv0 ev0 cv1 fv1 vv2 gv2 ((s29 s66 (⟨(0:Int),(2:Int),(10:Int),(12:Int)⟩:Tie)).Nodes) ((s29 s66 (⟨(0:Int),(2:Int),(10:Int),(12:Int)⟩:Tie)).Ties))
def zya (bv0:(Sl Span)) (ev0:Int) (cv1:(Sl Use)) (fv1:Int) (vv2:(Sl Int)) (gv2:Int):Bool :=
  (decide ((p29 s66 (⟨(0:Int),(2:Int),(10:Int),(12:Int)⟩:Tie)=true)) &&
 (zx8 bv0 ev0 cv1 fv1 vv2 gv2 ((s29 s66 (⟨(0:Int),(2:Int),(10:Int),(12:Int)⟩:Tie)).Nodes) ((s29 s66 (⟨(0:Int),(2:Int),(10:Int),(12:Int)⟩:Tie)).Ties)))
theorem zEd (hs:zya bv0 ev0 cv1 fv1 vv2 gv2=true) (hk:K (e21 (zx9 bv0 ev0 cv1 fv1 vv2 gv2))) (zIR:zGV=zg zai vv2):z21 K [1,1,1,1] [] ⟨[(1,zS zaW 2 bv0),(2,zI ev0),(3,zS zaP 2 cv1),(4,zI fv1),(5,zP (.sl vv2.len 1 zGV)),(6,zI gv2)],[],[]⟩:=by subst zIR;exact zbd (by kernel_rfl) (za0 hs fun hc hs=>And.intro (And.intro (zE enc_40 4 s66.Ties.get) hc) (zEb hs hk rfl))
def zyb (bv0:(Sl Span)) (ev0:Int) (cv1:(Sl Use)) (fv1:Int):Bool :=
  (zx9 bv0 ev0 cv1 fv1 ((s45 s66 (1:Int) (0:Int)).1) ((s45 s66 (1:Int) (0:Int)).2))
def zyc (bv0:(Sl Span)) (ev0:Int) (cv1:(Sl Use)) (fv1:Int):Bool :=
  (decide ((p45 s66 (1:Int) (0:Int)=true)) &&
 (zya bv0 ev0 cv1 fv1 ((s45 s66 (1:Int) (0:Int)).1) ((s45 s66 (1:Int) (0:Int)).2)))
theorem zEe (hs:zyc bv0 ev0 cv1 fv1=true) (hk:K (e21 (zyb bv0 ev0 cv1 fv1))) (zIS:zGU=zg zaP cv1):z21 K [1,1,1] [] ⟨[(1,zS zaW 2 bv0),(2,zI ev0),(3,zP (.sl cv1.len 2 zGU)),(4,zI fv1)],[],[]⟩:=by subst zIS;exact zbd (by kernel_rfl) (za0 hs fun hc hs=>And.intro (And.intro (zE enc_40 4 s66.Ties.get) hc) (zEd hs hk rfl))
def zyd (bv0:(Sl Span)) (ev0:Int):Bool :=
  (zyb bv0 ev0 ((s54 s66 (0:Int) (2:Int)).1) ((s54 s66 (0:Int) (2:Int)).2))
def zye (bv0:(Sl Span)) (ev0:Int):Bool :=
  (decide ((p54 s66 (0:Int) (2:Int)=true)) &&
 (zyc bv0 ev0 ((s54 s66 (0:Int) (2:Int)).1) ((s54 s66 (0:Int) (2:Int)).2)))
theorem zEf (hs:zye bv0 ev0=true) (hk:K (e21 (zyd bv0 ev0))) (zIT:zGT=zg zaW bv0):z21 K [1,1] [] ⟨[(1,zP (.sl bv0.len 2 zGT)),(2,zI ev0)],[],[]⟩:=by subst zIT;exact zbd (by kernel_rfl) (za0 hs fun hc hs=>And.intro (And.intro (zE enc_40 4 s66.Ties.get) hc) (zEe hs hk rfl))
def s21:Bool :=
  (zyd ((s26 s66).1) ((s26 s66).2))
def p21:Bool :=
  (decide ((p26 s66=true)) &&
 (zye ((s26 s66).1) ((s26 s66).2)))
end
theorem q21 (K:List PA→Prop) (hs:p21=true) (hk:K (e21 (s21))):vcFun Tryd.prog G21 zD7 21 [] K :=
  zbd (by kernel_rfl) (za0 hs fun hc hs=>And.intro (And.intro (zE enc_40 4 s66.Ties.get) hc) (zEf hs hk rfl))
theorem zGY:p21=true:=by kernel_rfl
theorem zGZ:s21=true:=by kernel_rfl
def zEg : List PA → COut
  | []=>.tot [.one (.bool true)]
  | _=>.no
theorem zG0:zaq Tryd.prog 21:=⟨_,rfl,rfl,by kernel_rfl⟩
theorem zKm:Ok Tryd.prog 21 zEg:=zbG zIO zG0 fun args K h=>by
  unfold zEg at h
  split at h
  · refine ⟨fun _ _ => [], fun _ => false, zD7, q21 K zGY ?_⟩
    show K [.one (.bool s21)]
    rw [zGZ];exact h
  · exact h.elim
abbrev T20:Tabs:=Tabs.nil
theorem zIU:TabsOk Tryd.prog T20:=TabsOk.nil
abbrev G20:Ctrs:=csm T20 (fun _ _=>[]) (fun _=>false)
def zG1:Ann:=⟨32,[(0,zK [1,2] [2]),(1,zK [4] [])],
 [],
 [],
 [],[]⟩
abbrev R20:=Bool
abbrev e20 (r:R20):List PA:=[.one (.bool r)]
section
variable {K:List PA→Prop} {n:Net} {ties:Int}
def s20 (n:Net) (ties:Int):Bool :=
  (cond (decide (n.Nodes ≤ (7:Int)))
 (cond (decide ((n.Ties.len : Int) ≤ ties))
 true
 (cond (decide ((n.Ties.len : Int) > (200:Int)))
 (decide ((n.Ties.len:Int)≤(210:Int)))
 false))
 (cond (decide (n.Nodes > (40:Int)))
 (cond (decide ((n.Ties.len : Int) ≤ ties))
 true
 (cond (decide ((n.Ties.len : Int) > (200:Int)))
 (decide ((n.Ties.len:Int)≤(210:Int)))
 false))
 false))
end
theorem q20 (n:Net) (ties:Int) (K:List PA→Prop) (hk:K (e20 (s20 n ties))):vcFun Tryd.prog G20 zG1 20 [.agg (enc_24 n),.one (.int .i64 ties)] K :=
  zbd (by kernel_rfl) (zt hk (fun hk=>(zt hk (fun hk=>hk) (fun hk=>(zt hk (fun hk=>hk) (fun hk=>hk))))) (fun hk=>(zt hk (fun hk=>(zt hk (fun hk=>hk) (fun hk=>(zt hk (fun hk=>hk) (fun hk=>hk))))) (fun hk=>hk))))
def zEh : List PA → COut
  | [.agg [.int .i64 a0_Nodes,.sl a0_Ties_n a0_Ties_s a0_Ties_g],.one (.int .i64 a1)]=>.det (IsE enc_40 4 a0_Ties_s a0_Ties_g) [.one (.bool (s20 (⟨a0_Nodes,(⟨a0_Ties_n,zaa a0_Ties_g⟩:(Sl Tie))⟩:Net) a1))]
  | _=>.no
theorem zG2:zaq Tryd.prog 20:=⟨_,rfl,rfl,by kernel_rfl⟩
theorem zKn:Ok Tryd.prog 20 zEh:=zbG zIU zG2 fun args K h=>by
  unfold zEh at h
  split at h
  · rename_i a0_Nodes a0_Ties_n a0_Ties_s a0_Ties_g a1
    obtain ⟨⟨rfl,a0_Ties_f,rfl⟩,hk⟩:=h
    try rw [zan a0_Ties_f] at hk
    exact ⟨(fun _ _=>[]),(fun _=>false),zG1,q20 (⟨a0_Nodes,(⟨a0_Ties_n,a0_Ties_f⟩:(Sl Tie))⟩:Net) a1 K hk⟩
  · exact h.elim
abbrev T72:Tabs:=Tabs.nil
theorem zIV:TabsOk Tryd.prog T72:=TabsOk.nil
abbrev G72:Ctrs:=csm T72 (fun _ _=>[]) (fun _=>false)
def zG3:Ann:=⟨15,[(0,zK [0,1,2] []),(1,zK [6] [])],
 [],
 [],
 [],[]⟩
abbrev R72:=Bool
abbrev e72 (r:R72):List PA:=[.one (.bool r)]
section
variable {K:List PA→Prop} {x:Int} {low:Int} {high:Int}
def s72 (x:Int) (low:Int) (high:Int):Bool :=
  (cond (decide (x ≥ low))
 (decide (x≤high))
 false)
end
theorem q72 (x:Int) (low:Int) (high:Int) (K:List PA→Prop) (hk:K (e72 (s72 x low high))):vcFun Tryd.prog G72 zG3 72 [.one (.int .i64 x),.one (.int .i64 low),.one (.int .i64 high)] K :=
  zbd (by kernel_rfl) (zt hk (fun hk=>hk) (fun hk=>hk))
def zAj : List PA → COut
  | [.one (.int .i64 a0),.one (.int .i64 a1),.one (.int .i64 a2)]=>.tot [.one (.bool (s72 a0 a1 a2))]
  | _=>.no
theorem zG4:zaq Tryd.prog 72:=⟨_,rfl,rfl,by kernel_rfl⟩
theorem zJt:Ok Tryd.prog 72 zAj:=zbG zIV zG4 fun args K h=>by
  unfold zAj at h
  split at h
  · rename_i a0 a1 a2
    have hk:=h
    exact ⟨(fun _ _=>[]),(fun _=>false),zG3,q72 a0 a1 a2 K hk⟩
  · exact h.elim
abbrev T36:Tabs:=(Tabs.nil.addF 72 zAj)
theorem zIW:TabsOk Tryd.prog T36:=(TabsOk.nil.addF zJt)
abbrev G36:Ctrs:=csm T36 (fun _ _=>[]) (fun _=>false)
def zEi:Ann:=⟨51,[(0,zK [0,3] [3]),(1,zK [3,32] [3]),(2,zK [4] []),(3,zK [4] [])],
 [],
 [(2,zK [3,32] [3]),(3,zK [3] [3])],
 [],[]⟩
abbrev R36:=Bool
abbrev e36 (r:R36):List PA:=[.one (.bool r)]
@[irreducible] def z36:=ptF Tryd.prog G36 zEi Tryd.f36
section
variable {K:List PA→Prop} {nodes:Int} {t:Tie} {zAk:Bool}
def zq6 (t:Tie):Bool :=
  (cond (t.Low == (-1000000000000:Int))
 (cond (t.High == (1000000000000:Int))
 true
 (s72 t.High (-1000000000:Int) (1000000000:Int)))
 (cond (s72 t.Low (-1000000000:Int) (1000000000:Int))
 (cond (t.High == (1000000000000:Int))
 true
 (s72 t.High (-1000000000:Int) (1000000000:Int)))
 false))
theorem zEj (hk:K (e36 (zq6 t))):z36 K [1,1] [] ⟨[(3,zp 3 0)],[(3,.box 40 (zm (enc_40 t)))],[]⟩:=zbd (by kernel_rfl) (zt hk (fun hk=>(zt hk (fun hk=>hk) (fun hk=>hk))) (fun hk=>(zt hk (fun hk=>(zt hk (fun hk=>hk) (fun hk=>hk))) (fun hk=>hk))))
def zhU (t:Tie) (zAk:Bool):Bool :=
  (cond zAk
 false
 (zq6 t))
theorem zm8 (hk:K (e36 (zhU t zAk))):z36 K [1,0,1] [] ⟨[(3,zp 3 0),(32,zB zAk)],[(3,.box 40 (zm (enc_40 t)))],[]⟩:=zbd (by kernel_rfl) (zt hk (fun hk=>hk) (fun hk=>(zEj hk)))
def s36 (nodes:Int) (t:Tie):Bool :=
  (cond (!(s72 t.From (0:Int) (w64 (nodes - (1:Int)))))
 (zhU t true)
 (cond (!(s72 t.To (0:Int) (w64 (nodes - (1:Int)))))
 (zhU t true)
 (cond (t.From == t.To)
 (zhU t true)
 (zhU t (decide (t.Low > t.High))))))
end
theorem q36 (nodes:Int) (t:Tie) (K:List PA→Prop) (hk:K (e36 (s36 nodes t))):vcFun Tryd.prog G36 zEi 36 [.one (.int .i64 nodes),.agg (enc_40 t)] K :=
  zbd (by kernel_rfl) (zt hk (fun hk=>(zm8 hk)) (fun hk=>(zt hk (fun hk=>(zm8 hk)) (fun hk=>(zt hk (fun hk=>(zm8 hk)) (fun hk=>(zm8 hk)))))))
def zEk : List PA → COut
  | [.one (.int .i64 a0),.agg [.int .i64 a1_From,.int .i64 a1_To,.int .i64 a1_Low,.int .i64 a1_High]]=>.tot [.one (.bool (s36 a0 (⟨a1_From,a1_To,a1_Low,a1_High⟩:Tie)))]
  | _=>.no
theorem zG5:zaq Tryd.prog 36:=⟨_,rfl,rfl,by kernel_rfl⟩
theorem zKo:Ok Tryd.prog 36 zEk:=zbG zIW zG5 fun args K h=>by
  unfold zEk at h
  split at h
  · rename_i a0 a1_From a1_To a1_Low a1_High
    have hk:=h
    exact ⟨(fun _ _=>[]),(fun _=>false),zEi,q36 a0 (⟨a1_From,a1_To,a1_Low,a1_High⟩:Tie) K hk⟩
  · exact h.elim
abbrev T23:Tabs:=((Tabs.nil.addF 36 zEk).addF 72 zAj)
theorem zIX:TabsOk Tryd.prog T23:=((TabsOk.nil.addF zKo).addF zJt)
abbrev G23:Ctrs:=csm T23 (fun _ _=>[]) (fun _=>false)
def zEl:Ann:=⟨30,[(0,zK [1] [1]),(1,zK [1,13] [1]),(2,zK [2] []),(3,zK [1,3] [1]),(4,zK [1,3,18] [1]),(5,zK [1,3] [1]),(6,zK [1,3,29] [1]),(7,zK [2] []),(8,zK [2] [])],
 [(4,zK [1,3] [1])],
 [(2,zK [1,13] [1]),(3,zK [1] [1]),(7,zK [1,3,29] [1])],
 [],[]⟩
abbrev R23:=Bool
abbrev e23 (r:R23):List PA:=[.one (.bool r)]
@[irreducible] def z23:=ptF Tryd.prog G23 zEl Tryd.f23
def zBi (n:Net) (iv2:Int):St:=⟨[(1,zp 1 0),(3,zI iv2)],[(1,.box 24 (zm (enc_24 n)))],[]⟩
abbrev zEm (K:List PA→Prop) (n:Net) (X:St→Prop) (P:Int→Bool) (S:Int→Bool):Prop:=∀ ⦃iv2:Int⦄,P iv2=true→K (e23 (S iv2))→X (zBi n iv2)
section
variable {K:List PA→Prop} {n:Net} {zbU:Bool} {iv2:Int} {X2:St→Prop} {P2:Int→Bool} {S2:Int→Bool} {iv3:Int} {zq7:Bool}
def zq8 (S2:Int→Bool) (n:Net) (iv3:Int) (zq7:Bool):Bool :=
  (cond zq7
 false
 (S2 (w64 (iv3+(1:Int)))))
def zq9 (P2:Int→Bool) (n:Net) (iv3:Int) (zq7:Bool):Bool :=
  (cond zq7
 true
 (P2 (w64 (iv3+(1:Int)))))
theorem zEn (hX2:zEm K n X2 P2 S2) (hs:zq9 P2 n iv3 zq7=true) (hk:K (e23 (zq8 S2 n iv3 zq7))):z23 K [1,1,0,1,0,0,1,0,0,1] [X2] ⟨[(1,zp 1 0),(3,zI iv3),(29,zB zq7)],[(1,.box 24 (zm (enc_24 n)))],[]⟩:=zbd (by kernel_rfl) (zc hs hk (fun hs hk=>hk) (fun hs hk=>(hX2 hs hk)))
def zhV (n:Net) (S2:Int→Bool) (iv2:Int):Bool :=
  (cond (decide (iv2 < (n.Ties.len : Int)))
 (zq8 S2 n iv2 (!(s36 n.Nodes (n.Ties.get iv2.toNat))))
 true)
def zhW (n:Net) (P2:Int→Bool) (iv2:Int):Bool :=
  (cond (decide (iv2 < (n.Ties.len : Int)))
 (decide ((0≤iv2∧iv2 < (n.Ties.len:Int))) &&
 (zq9 P2 n iv2 (!(s36 n.Nodes (n.Ties.get iv2.toNat)))))
 true)
def zgy (n:Net):Nat→Int→Bool:=lpO (fun _=>default) (zhV n)
def zhX (n:Net):Nat→Int→Bool:=lpO (fun _=>false) (zhW n)
def zra (n:Net) (iv2:Int):Bool:=zgy n Fuel iv2
def zrb (n:Net) (iv2:Int):Bool:=zhX n Fuel iv2
theorem zEo (hs:zrb n iv2=true) (hk:K (e23 (zra n iv2))):z23 K [1,1,0,1,0] [] (zBi n iv2) :=
  zl (fun X=>z23 K [1,1,0,1,0,0] [X]) (by kernel_rfl) fun X2 hX =>
  (show ∀ k, zEm K n X2 (zhX n k) (zgy n k) from zk5 _ _ (zhW n) (zhV n) (zEm K n X2)
 (by intro _ hs;exact absurd hs Bool.false_ne_true)
 (by intro P2 S2 hX2 iv2 hs hk;exact hX _ (zbd (by kernel_rfl) (zc hs hk (fun hs hk=>(za0 hs fun hc hs=>And.intro hc (zEn hX2 hs hk))) (fun hs hk=>hk))))) _ hs hk
def zrd (n:Net):Bool :=
  (zra n (0:Int))
def zre (n:Net):Bool :=
  (zrb n (0:Int))
theorem zEp (hs:zre n=true) (hk:K (e23 (zrd n))):z23 K [1,1] [] ⟨[(1,zp 1 0)],[(1,.box 24 (zm (enc_24 n)))],[]⟩:=zbd (by kernel_rfl) (zEo hs hk)
def zm9 (n:Net) (zbU:Bool):Bool :=
  (cond zbU
 false
 (zrd n))
def zna (n:Net) (zbU:Bool):Bool :=
  (cond zbU
 true
 (zre n))
theorem zyf (hs:zna n zbU=true) (hk:K (e23 (zm9 n zbU))):z23 K [1,0,1] [] ⟨[(1,zp 1 0),(13,zB zbU)],[(1,.box 24 (zm (enc_24 n)))],[]⟩:=zbd (by kernel_rfl) (zc hs hk (fun hs hk=>hk) (fun hs hk=>(zEp hs hk)))
def s23 (n:Net):Bool :=
  (cond (!(s72 n.Nodes (1:Int) (40:Int)))
 (zm9 n true)
 (zm9 n (decide ((n.Ties.len:Int) > (200:Int)))))
def p23 (n:Net):Bool :=
  (cond (!(s72 n.Nodes (1:Int) (40:Int)))
 (zna n true)
 (zna n (decide ((n.Ties.len:Int) > (200:Int)))))
end
theorem q23 (n:Net) (K:List PA→Prop) (hs:p23 n=true) (hk:K (e23 (s23 n))):vcFun Tryd.prog G23 zEl 23 [.agg (enc_24 n)] K :=
  zbd (by kernel_rfl) (zc hs hk (fun hs hk=>(zyf hs hk)) (fun hs hk=>(zyf hs hk)))
def zEq : List PA → COut
  | [.agg [.int .i64 a0_Nodes,.sl a0_Ties_n a0_Ties_s a0_Ties_g]]=>.det (IsE enc_40 4 a0_Ties_s a0_Ties_g∧p23 (⟨a0_Nodes,(⟨a0_Ties_n,zaa a0_Ties_g⟩:(Sl Tie))⟩:Net)=true) [.one (.bool (s23 (⟨a0_Nodes,(⟨a0_Ties_n,zaa a0_Ties_g⟩:(Sl Tie))⟩:Net)))]
  | _=>.no
theorem zG6:zaq Tryd.prog 23:=⟨_,rfl,rfl,by kernel_rfl⟩
theorem zKp:Ok Tryd.prog 23 zEq:=zbG zIX zG6 fun args K h=>by
  unfold zEq at h
  split at h
  · rename_i a0_Nodes a0_Ties_n a0_Ties_s a0_Ties_g
    obtain ⟨⟨⟨rfl,a0_Ties_f,rfl⟩,hs⟩,hk⟩:=h
    try rw [zan a0_Ties_f] at hs
    try rw [zan a0_Ties_f] at hk
    exact ⟨(fun _ _=>[]),(fun _=>false),zEl,q23 (⟨a0_Nodes,(⟨a0_Ties_n,a0_Ties_f⟩:(Sl Tie))⟩:Net) K hs hk⟩
  · exact h.elim
abbrev T28:Tabs:=Tabs.nil
theorem zIY:TabsOk Tryd.prog T28:=TabsOk.nil
abbrev G28:Ctrs:=csm T28 (fun _ _=>[]) (fun _=>false)
def zEr:Ann:=⟨36,[(0,zK [1,2] [1,2]),(1,zK [1,2,3] [1,2,3]),(2,zK [1,2,3,4] [1,2,3]),(3,zK [1,2,3,4,13] [1,2,3,33]),(4,zK [1,2,3,4] [1,2,3,33]),(5,zK [1,2,3,4,5] [1,2,3,5,33]),(6,zK [1,2,3,4,5] [1,2,3,5,33]),(7,zK [1,2,3,4] [1,2,3,33]),(8,zK [2] [2,33])],
 [(3,⟨[1,2,3,4],[1,2,3,33],[],[(3,1,33,40,fun _=>enc_40 default)],[],[],[]⟩)],
 [],
 [],[]⟩
abbrev R28:=Net
abbrev e28 (r:R28):List PA:=[.agg [.int .i64 r.Nodes,.sl r.Ties.len 4 (fun i=>enc_40 (r.Ties.get i))]]
@[irreducible] def z28:=ptF Tryd.prog G28 zEr Tryd.f28
def zBj (n:Net) (iv0:Int) (zcN:(Sl Tie)) (zfv:Nat→List PV):St:=⟨[(1,zp 1 0),(2,zp 2 0),(3,zp 3 0),(4,zI iv0)],[(1,.box 24 (zm (enc_24 n))),(2,.box 24 [zi (0:Int),.p (.nils)]),(3,.box 24 [zi n.Nodes,.vec 33]),(33,.vec 40 4 32 zcN.len zfv)],[]⟩
abbrev zG7 (K:List PA→Prop) (n:Net) (X:St→Prop) (P:Int→(Sl Tie)→Bool) (S:Int→(Sl Tie)→Net):Prop:=∀ ⦃iv0:Int⦄ ⦃zcN:(Sl Tie)⦄ ⦃zfv:Nat→List PV⦄,P iv0 zcN=true→K (e28 (S iv0 zcN))→zfv=zg enc_40 zcN→X (zBj n iv0 zcN zfv)
section
variable {K:List PA→Prop} {n:Net} {iv0:Int} {zcN:(Sl Tie)} {zfv:Nat→List PV} {X0:St→Prop} {P0:Int→(Sl Tie)→Bool} {S0:Int→(Sl Tie)→Net}
def zhY (n:Net) (S0:Int→(Sl Tie)→Net) (iv0:Int) (zcN:(Sl Tie)):Net :=
  (cond (decide (iv0 < (n.Ties.len : Int)))
 (S0 (w64 (iv0+(1:Int))) (⟨(zcN.len+1),(zlC zcN.len zcN.get (fun _=>(⟨(n.Ties.get iv0.toNat).From,(n.Ties.get iv0.toNat).To,(w64 (0 - (n.Ties.get iv0.toNat).High)),(w64 (0 - (n.Ties.get iv0.toNat).Low))⟩:Tie)))⟩:Sl Tie))
 (⟨n.Nodes,zcN⟩:Net))
def zhZ (n:Net) (P0:Int→(Sl Tie)→Bool) (iv0:Int) (zcN:(Sl Tie)):Bool :=
  (cond (decide (iv0 < (n.Ties.len : Int)))
 (decide ((0≤iv0∧iv0 < (n.Ties.len:Int))) &&
 (decide (((zcN.len+1) * 32≤140737488355328∧zcN.len+1≤9223372036854775807)) &&
 (P0 (w64 (iv0+(1:Int))) (⟨(zcN.len+1),(zlC zcN.len zcN.get (fun _=>(⟨(n.Ties.get iv0.toNat).From,(n.Ties.get iv0.toNat).To,(w64 (0 - (n.Ties.get iv0.toNat).High)),(w64 (0 - (n.Ties.get iv0.toNat).Low))⟩:Tie)))⟩:Sl Tie))))
 true)
def zh0 (n:Net):Nat→Int→(Sl Tie)→Net:=lpO (fun _ _=>default) (zhY n)
def zh1 (n:Net):Nat→Int→(Sl Tie)→Bool:=lpO (fun _ _=>false) (zhZ n)
def zyg (n:Net) (iv0:Int) (zcN:(Sl Tie)):Net:=zh0 n Fuel iv0 zcN
def zyh (n:Net) (iv0:Int) (zcN:(Sl Tie)):Bool:=zh1 n Fuel iv0 zcN
theorem zEs (hs:zyh n iv0 zcN=true) (hk:K (e28 (zyg n iv0 zcN))) (zrf:zfv=zg enc_40 zcN):z28 K [1,1,0,1,0] [] (zBj n iv0 zcN zfv) :=
  zl (fun X=>z28 K [1,1,0,1,0,0] [X]) (by kernel_rfl) fun X0 hX =>
  (show ∀ k, zG7 K n X0 (zh1 n k) (zh0 n k) from zk5 _ _ (zhZ n) (zhY n) (zG7 K n X0)
 (by intro _ _ _ hs;exact absurd hs Bool.false_ne_true)
 (by intro P0 S0 hX0 iv0 zcN zfv hs hk zrf;subst zrf;exact hX _ (zbd (by kernel_rfl) (zc hs hk (fun hs hk=>(za0 hs fun hc hs=>And.intro hc (za0 hs fun hc hs=>And.intro hc (hX0 hs hk (zlD (enc:=enc_40) (f:=zcN.get) (h:=(fun _=>(⟨(n.Ties.get iv0.toNat).From,(n.Ties.get iv0.toNat).To,(w64 (0 - (n.Ties.get iv0.toNat).High)),(w64 (0 - (n.Ties.get iv0.toNat).Low))⟩:Tie))) rfl rfl))))) (fun hs hk=>hk))))) _ hs hk zrf
def s28 (n:Net):Net :=
  (zyg n (0:Int) (⟨0,(fun _=>default)⟩:Sl Tie))
def p28 (n:Net):Bool :=
  (zyh n (0:Int) (⟨0,(fun _=>default)⟩:Sl Tie))
end
theorem q28 (n:Net) (K:List PA→Prop) (hs:p28 n=true) (hk:K (e28 (s28 n))):vcFun Tryd.prog G28 zEr 28 [.agg (enc_24 n)] K :=
  zbd (by kernel_rfl) (zEs hs hk rfl)
def zEt : List PA → COut
  | [.agg [.int .i64 a0_Nodes,.sl a0_Ties_n a0_Ties_s a0_Ties_g]]=>.det (IsE enc_40 4 a0_Ties_s a0_Ties_g∧p28 (⟨a0_Nodes,(⟨a0_Ties_n,zaa a0_Ties_g⟩:(Sl Tie))⟩:Net)=true) [.agg [.int .i64 ((s28 (⟨a0_Nodes,(⟨a0_Ties_n,zaa a0_Ties_g⟩:(Sl Tie))⟩:Net)).Nodes),.sl ((s28 (⟨a0_Nodes,(⟨a0_Ties_n,zaa a0_Ties_g⟩:(Sl Tie))⟩:Net)).Ties.len) 4 (fun i=>enc_40 ((s28 (⟨a0_Nodes,(⟨a0_Ties_n,zaa a0_Ties_g⟩:(Sl Tie))⟩:Net)).Ties.get i))]]
  | _=>.no
theorem call28:zaq Tryd.prog 28:=⟨_,rfl,rfl,by kernel_rfl⟩
theorem zKq:Ok Tryd.prog 28 zEt:=zbG zIY call28 fun args K h=>by
  unfold zEt at h
  split at h
  · rename_i a0_Nodes a0_Ties_n a0_Ties_s a0_Ties_g
    obtain ⟨⟨⟨rfl,a0_Ties_f,rfl⟩,hs⟩,hk⟩:=h
    try rw [zan a0_Ties_f] at hs
    try rw [zan a0_Ties_f] at hk
    exact ⟨(fun _ _=>[]),(fun _=>false),zEr,q28 (⟨a0_Nodes,(⟨a0_Ties_n,a0_Ties_f⟩:(Sl Tie))⟩:Net) K hs hk⟩
  · exact h.elim
abbrev T5:Tabs:=((((((Tabs.nil.addF 20 zEh).addF 21 zEg).addF 23 zEq).addF 26 zzV).addF 28 zEt).addF 29 zzW)
theorem zKr:TabsOk Tryd.prog T5:=((((((TabsOk.nil.addF zKn).addF zKm).addF zKp).addF zJh).addF zKq).addF zJi)
abbrev G5:Ctrs:=csm T5 (fun _ _=>[]) (fun _=>false)
def zIZ:Ann:=⟨151,[(0,zK [2,3] [2,3]),(1,zK [2,3,21] [2,3]),(2,zK [4] []),(3,zK [2,3,5,6] [2,3]),(4,zK [2,3,5,6,7,8] [2,3]),(5,zK [2,3,5,6,7,51] [2,3]),(6,zK [4] []),(7,zK [2,3,5,6,7,9] [2,3]),(8,zK [2,3,5,6,7,9,55] [2,3]),(9,zK [2,3,5,6,7,9] [2,3]),(10,zK [2,3,5,6,7,9,83] [2,3]),(11,zK [4] []),(12,zK [5,6,10] [10]),(13,zK [5,6,10,89] [10]),(14,zK [4] []),(15,zK [5,6,11,12] []),(16,zK [5,6,11,12,101] []),(17,zK [4] []),(18,zK [5,11,119] []),(19,zK [4] []),(20,zK [5,11,13] []),(21,zK [5,11,13,123] []),(22,zK [5,11,13] []),(23,zK [5,11,13,149] []),(24,zK [4] []),(25,zK [4] [])],
 [(8,zK [2,3,5,6,7,9] [2,3]),(21,zK [5,11,13] [])],
 [(2,zK [2,3,21] [2,3]),(3,zK [2,3] [2,3]),(4,zK [2,3,5,6] [2,3]),(5,zK [2,3,5,6,7,8] [2,3]),(7,zK [2,3,5,6,7] [2,3]),(12,zK [2,3,5,6] [2,3]),(13,zK [5,6,10] [10]),(14,zK [5,6,10,89] [10]),(15,zK [5,6,10] [10]),(16,zK [5,6,11,12] []),(18,zK [5,11] []),(20,zK [5,11] [])],
 [],[]⟩
abbrev R5:=Bool
abbrev e5 (r:R5):List PA:=[.one (.bool r)]
@[irreducible] def z5:=ptF Tryd.prog G5 zIZ Tryd.f5
def zG8 (n:Net) (more:Tie) (bv2:(Sl Span)) (ev2:Int) (cv3:(Sl Span)) (iv5:Int):St:=⟨[(2,zp 2 0),(3,zp 3 0),(5,zS zaW 2 bv2),(6,zI ev2),(7,zS zaW 2 cv3),(9,zI iv5)],[(2,.box 24 (zm (enc_24 n))),(3,.box 40 (zm (enc_40 more)))],[]⟩
abbrev zJu (K:List PA→Prop) (n:Net) (more:Tie) (bv2:(Sl Span)) (ev2:Int) (cv3:(Sl Span)) (X:St→Prop) (P:Int→Bool) (S:Int→Bool):Prop:=∀ ⦃iv5:Int⦄,P iv5=true→K (e5 (S iv5))→X (zG8 n more bv2 ev2 cv3 iv5)
def zBk (bv2:(Sl Span)) (zcT:(Sl Span)) (zeX:Int):St:=⟨[(5,zS zaW 2 bv2),(11,zS zaW 2 zcT),(13,zI zeX)],[],[]⟩
abbrev zG9 (K:List PA→Prop) (bv2:(Sl Span)) (zcT:(Sl Span)) (X:St→Prop) (P:Int→Bool) (S:Int→Bool):Prop:=∀ ⦃zeX:Int⦄,P zeX=true→K (e5 (S zeX))→X (zBk bv2 zcT zeX)
section
variable {K:List PA→Prop} {n:Net} {more:Tie} {zrg:Bool} {bv2:(Sl Span)} {ev2:Int} {zHa:Nat→List PV} {cv3:(Sl Span)} {fv3:Int} {zHb:Nat→List PV} {iv5:Int} {X5:St→Prop} {P5:Int→Bool} {S5:Int→Bool} {zcU:Int} {zcJ:(Sl Tie)} {zyi:Nat→List PV} {zrh:Bool} {zcT:(Sl Span)} {zyj:Int} {zBl:Nat→List PV} {zeX:Int} {X13:St→Prop} {P13:Int→Bool} {S13:Int→Bool}
def zh2 (bv2:(Sl Span)) (zcT:(Sl Span)) (S13:Int→Bool) (zeX:Int):Bool :=
  (cond (decide (zeX < (zcT.len : Int)))
 (cond (decide ((zcT.get zeX.toNat).Low < (bv2.get zeX.toNat).Low))
 false
 (cond (decide ((zcT.get zeX.toNat).High > (bv2.get zeX.toNat).High))
 false
 (S13 (w64 (zeX+(1:Int))))))
 true)
def zh3 (bv2:(Sl Span)) (zcT:(Sl Span)) (P13:Int→Bool) (zeX:Int):Bool :=
  (cond (decide (zeX < (zcT.len : Int)))
 (decide ((0≤zeX∧zeX < (zcT.len:Int))) &&
 (decide ((0≤zeX∧zeX < (bv2.len:Int))) &&
 (cond (decide ((zcT.get zeX.toNat).Low < (bv2.get zeX.toNat).Low))
 true
 (decide ((0≤zeX∧zeX < (zcT.len:Int))) &&
 (decide ((0≤zeX∧zeX < (bv2.len:Int))) &&
 (cond (decide ((zcT.get zeX.toNat).High > (bv2.get zeX.toNat).High))
 true
 (P13 (w64 (zeX+(1:Int))))))))))
 true)
def zh4 (bv2:(Sl Span)) (zcT:(Sl Span)):Nat→Int→Bool:=lpO (fun _=>default) (zh2 bv2 zcT)
def zh5 (bv2:(Sl Span)) (zcT:(Sl Span)):Nat→Int→Bool:=lpO (fun _=>false) (zh3 bv2 zcT)
def zyk (bv2:(Sl Span)) (zcT:(Sl Span)) (zeX:Int):Bool:=zh4 bv2 zcT Fuel zeX
def zyl (bv2:(Sl Span)) (zcT:(Sl Span)) (zeX:Int):Bool:=zh5 bv2 zcT Fuel zeX
theorem zEu (hs:zyl bv2 zcT zeX=true) (hk:K (e5 (zyk bv2 zcT zeX))):z5 K [1,1,1,1,1,1,1,1,1,1,1,0,1,0] [] (zBk bv2 zcT zeX) :=
  zl (fun X=>z5 K [1,1,1,1,1,1,1,1,1,1,1,0,1,0,0] [X]) (by kernel_rfl) fun X13 hX =>
  (show ∀ k, zG9 K bv2 zcT X13 (zh5 bv2 zcT k) (zh4 bv2 zcT k) from zk5 _ _ (zh3 bv2 zcT) (zh2 bv2 zcT) (zG9 K bv2 zcT X13)
 (by intro _ hs;exact absurd hs Bool.false_ne_true)
 (by intro P13 S13 hX13 zeX hs hk;exact hX _ (zbd (by kernel_rfl) (zc hs hk (fun hs hk=>(za0 hs fun hc hs=>And.intro hc (za0 hs fun hc hs=>And.intro hc (zc hs hk (fun hs hk=>hk) (fun hs hk=>(za0 hs fun hc hs=>And.intro hc (za0 hs fun hc hs=>And.intro hc (zc hs hk (fun hs hk=>hk) (fun hs hk=>(hX13 hs hk)))))))))) (fun hs hk=>hk))))) _ hs hk
def zri (bv2:(Sl Span)) (zcT:(Sl Span)):Bool :=
  (zyk bv2 zcT (0:Int))
def zrj (bv2:(Sl Span)) (zcT:(Sl Span)):Bool :=
  (zyl bv2 zcT (0:Int))
theorem zEv (hs:zrj bv2 zcT=true) (hk:K (e5 (zri bv2 zcT))):z5 K [1,1,1,1,1,1,1,1,1,1,1] [] ⟨[(5,zS zaW 2 bv2),(11,zS zaW 2 zcT)],[],[]⟩:=zbd (by kernel_rfl) (zEu hs hk)
def zrk (bv2:(Sl Span)) (zcT:(Sl Span)):Bool :=
  (cond ((zcT.len : Int) != (bv2.len : Int))
 false
 (zri bv2 zcT))
def zrl (bv2:(Sl Span)) (zcT:(Sl Span)):Bool :=
  (cond ((zcT.len : Int) != (bv2.len : Int))
 true
 (zrj bv2 zcT))
theorem zEw (hs:zrl bv2 zcT=true) (hk:K (e5 (zrk bv2 zcT))):z5 K [1,1,1,1,1,1,1,1,1,1] [] ⟨[(5,zS zaW 2 bv2),(11,zS zaW 2 zcT)],[],[]⟩:=zbd (by kernel_rfl) (zc hs hk (fun hs hk=>hk) (fun hs hk=>(zEv hs hk)))
def zkP (bv2:(Sl Span)) (ev2:Int) (zcT:(Sl Span)) (zyj:Int):Bool :=
  (cond (ev2 != (0:Int))
 (cond (zyj == (5:Int))
 true
 (cond (ev2 == (0:Int))
 (cond (zyj == (0:Int))
 true
 false)
 false))
 (cond (zyj != (0:Int))
 (cond (zyj == (5:Int))
 true
 (cond (ev2 == (0:Int))
 (cond (zyj == (0:Int))
 true
 false)
 false))
 (zrk bv2 zcT)))
def zkQ (bv2:(Sl Span)) (ev2:Int) (zcT:(Sl Span)) (zyj:Int):Bool :=
  (cond (ev2 != (0:Int))
 true
 (cond (zyj != (0:Int))
 true
 (zrl bv2 zcT)))
theorem zEx (hs:zkQ bv2 ev2 zcT zyj=true) (hk:K (e5 (zkP bv2 ev2 zcT zyj))) (zHc:zBl=zg zaW zcT):z5 K [1,1,1,1,1,1,1,1,1] [] ⟨[(5,zS zaW 2 bv2),(6,zI ev2),(11,zP (.sl zcT.len 2 zBl)),(12,zI zyj)],[],[]⟩:=by subst zHc;exact zbd (by kernel_rfl) (zc hs hk (fun hs hk=>(zt hk (fun hk=>hk) (fun hk=>(zt hk (fun hk=>(zt hk (fun hk=>hk) (fun hk=>hk))) (fun hk=>hk))))) (fun hs hk=>(zc hs hk (fun hs hk=>(zt hk (fun hk=>hk) (fun hk=>(zt hk (fun hk=>(zt hk (fun hk=>hk) (fun hk=>hk))) (fun hk=>hk))))) (fun hs hk=>(zEw hs hk)))))
def zsC (bv2:(Sl Span)) (ev2:Int) (zcU:Int) (zcJ:(Sl Tie)):Bool :=
  (zkP bv2 ev2 ((s26 (⟨zcU,zcJ⟩:Net)).1) ((s26 (⟨zcU,zcJ⟩:Net)).2))
def zsD (bv2:(Sl Span)) (ev2:Int) (zcU:Int) (zcJ:(Sl Tie)):Bool :=
  (decide ((p26 (⟨zcU,zcJ⟩:Net)=true)) &&
 (zkQ bv2 ev2 ((s26 (⟨zcU,zcJ⟩:Net)).1) ((s26 (⟨zcU,zcJ⟩:Net)).2)))
theorem zHd (hs:zsD bv2 ev2 zcU zcJ=true) (hk:K (e5 (zsC bv2 ev2 zcU zcJ))):z5 K [1,1,1,1,1,1,1,1] [] ⟨[(5,zS zaW 2 bv2),(6,zI ev2),(10,zp 10 0)],[(10,.box 24 (zm (enc_24 (⟨zcU,zcJ⟩:Net))))],[]⟩:=zbd (by kernel_rfl) (za0 hs fun hc hs=>And.intro (And.intro (zE enc_40 4 zcJ.get) hc) (zEx hs hk rfl))
def zsE (bv2:(Sl Span)) (ev2:Int) (zcU:Int) (zcJ:(Sl Tie)) (zrh:Bool):Bool :=
  (cond zrh
 true
 (zsC bv2 ev2 zcU zcJ))
def zsF (bv2:(Sl Span)) (ev2:Int) (zcU:Int) (zcJ:(Sl Tie)) (zrh:Bool):Bool :=
  (cond zrh
 true
 (zsD bv2 ev2 zcU zcJ))
theorem zHe (hs:zsF bv2 ev2 zcU zcJ zrh=true) (hk:K (e5 (zsE bv2 ev2 zcU zcJ zrh))):z5 K [1,1,1,1,1,1,1,0,1] [] ⟨[(5,zS zaW 2 bv2),(6,zI ev2),(10,zp 10 0),(89,zB zrh)],[(10,.box 24 (zm (enc_24 (⟨zcU,zcJ⟩:Net))))],[]⟩:=zbd (by kernel_rfl) (zc hs hk (fun hs hk=>hk) (fun hs hk=>(zHd hs hk)))
def zym (bv2:(Sl Span)) (ev2:Int) (zcU:Int) (zcJ:(Sl Tie)):Bool :=
  (zsE bv2 ev2 zcU zcJ (!(s23 (⟨zcU,zcJ⟩:Net))))
def zyn (bv2:(Sl Span)) (ev2:Int) (zcU:Int) (zcJ:(Sl Tie)):Bool :=
  (decide ((p23 (⟨zcU,zcJ⟩:Net)=true)) &&
 (zsF bv2 ev2 zcU zcJ (!(s23 (⟨zcU,zcJ⟩:Net)))))
theorem zHf (hs:zyn bv2 ev2 zcU zcJ=true) (hk:K (e5 (zym bv2 ev2 zcU zcJ))) (zEy:zyi=zg enc_40 zcJ):z5 K [1,1,1,1,1,1,1] [] ⟨[(5,zS zaW 2 bv2),(6,zI ev2),(10,zp 10 0)],[(10,.box 24 [zi zcU,.p (.sl zcJ.len 4 zyi)])],[]⟩:=by subst zEy;exact zbd (by kernel_rfl) (za0 hs fun hc hs=>And.intro (And.intro (zE enc_40 4 zcJ.get) hc) (zHe hs hk))
def zlN (n:Net) (more:Tie) (bv2:(Sl Span)) (ev2:Int):Bool :=
  (zym bv2 ev2 ((s29 n more).Nodes) ((s29 n more).Ties))
def zsG (n:Net) (more:Tie) (bv2:(Sl Span)) (ev2:Int):Bool :=
  (decide ((p29 n more=true)) &&
 (zyn bv2 ev2 ((s29 n more).Nodes) ((s29 n more).Ties)))
theorem zHg (hs:zsG n more bv2 ev2=true) (hk:K (e5 (zlN n more bv2 ev2))):z5 K [1,1,1,1,1,1] [] ⟨[(2,zp 2 0),(3,zp 3 0),(5,zS zaW 2 bv2),(6,zI ev2)],[(2,.box 24 (zm (enc_24 n))),(3,.box 40 (zm (enc_40 more)))],[]⟩:=zbd (by kernel_rfl) (za0 hs fun hc hs=>And.intro (And.intro (zE enc_40 4 n.Ties.get) hc) (zHf hs hk rfl))
def zf4 (n:Net) (more:Tie) (bv2:(Sl Span)) (ev2:Int) (cv3:(Sl Span)) (S5:Int→Bool) (iv5:Int):Bool :=
  (cond (decide (iv5 < (bv2.len : Int)))
 (cond ((cv3.get iv5.toNat).Low != (w64 (0 - (bv2.get iv5.toNat).High)))
 false
 (cond ((cv3.get iv5.toNat).High != (w64 (0 - (bv2.get iv5.toNat).Low)))
 false
 (S5 (w64 (iv5+(1:Int))))))
 (zlN n more bv2 ev2))
def zf5 (n:Net) (more:Tie) (bv2:(Sl Span)) (ev2:Int) (cv3:(Sl Span)) (P5:Int→Bool) (iv5:Int):Bool :=
  (cond (decide (iv5 < (bv2.len : Int)))
 (decide ((0≤iv5∧iv5 < (cv3.len:Int))) &&
 (decide ((0≤iv5∧iv5 < (bv2.len:Int))) &&
 (cond ((cv3.get iv5.toNat).Low != (w64 (0 - (bv2.get iv5.toNat).High)))
 true
 (decide ((0≤iv5∧iv5 < (cv3.len:Int))) &&
 (decide ((0≤iv5∧iv5 < (bv2.len:Int))) &&
 (cond ((cv3.get iv5.toNat).High != (w64 (0 - (bv2.get iv5.toNat).Low)))
 true
 (P5 (w64 (iv5+(1:Int))))))))))
 (zsG n more bv2 ev2))
def zf6 (n:Net) (more:Tie) (bv2:(Sl Span)) (ev2:Int) (cv3:(Sl Span)):Nat→Int→Bool:=lpO (fun _=>default) (zf4 n more bv2 ev2 cv3)
def zf7 (n:Net) (more:Tie) (bv2:(Sl Span)) (ev2:Int) (cv3:(Sl Span)):Nat→Int→Bool:=lpO (fun _=>false) (zf5 n more bv2 ev2 cv3)
def zsH (n:Net) (more:Tie) (bv2:(Sl Span)) (ev2:Int) (cv3:(Sl Span)) (iv5:Int):Bool:=zf6 n more bv2 ev2 cv3 Fuel iv5
def zsI (n:Net) (more:Tie) (bv2:(Sl Span)) (ev2:Int) (cv3:(Sl Span)) (iv5:Int):Bool:=zf7 n more bv2 ev2 cv3 Fuel iv5
theorem zHh (hs:zsI n more bv2 ev2 cv3 iv5=true) (hk:K (e5 (zsH n more bv2 ev2 cv3 iv5))):z5 K [1,1,1,1,1,0,1,0] [] (zG8 n more bv2 ev2 cv3 iv5) :=
  zl (fun X=>z5 K [1,1,1,1,1,0,1,0,0] [X]) (by kernel_rfl) fun X5 hX =>
  (show ∀ k, zJu K n more bv2 ev2 cv3 X5 (zf7 n more bv2 ev2 cv3 k) (zf6 n more bv2 ev2 cv3 k) from zk5 _ _ (zf5 n more bv2 ev2 cv3) (zf4 n more bv2 ev2 cv3) (zJu K n more bv2 ev2 cv3 X5)
 (by intro _ hs;exact absurd hs Bool.false_ne_true)
 (by intro P5 S5 hX5 iv5 hs hk;exact hX _ (zbd (by kernel_rfl) (zc hs hk (fun hs hk=>(za0 hs fun hc hs=>And.intro hc (za0 hs fun hc hs=>And.intro hc (zc hs hk (fun hs hk=>hk) (fun hs hk=>(za0 hs fun hc hs=>And.intro hc (za0 hs fun hc hs=>And.intro hc (zc hs hk (fun hs hk=>hk) (fun hs hk=>(hX5 hs hk)))))))))) (fun hs hk=>(zHg hs hk)))))) _ hs hk
def zoN (n:Net) (more:Tie) (bv2:(Sl Span)) (ev2:Int) (cv3:(Sl Span)):Bool :=
  (zsH n more bv2 ev2 cv3 (0:Int))
def zoO (n:Net) (more:Tie) (bv2:(Sl Span)) (ev2:Int) (cv3:(Sl Span)):Bool :=
  (zsI n more bv2 ev2 cv3 (0:Int))
theorem zBm (hs:zoO n more bv2 ev2 cv3=true) (hk:K (e5 (zoN n more bv2 ev2 cv3))):z5 K [1,1,1,1,1] [] ⟨[(2,zp 2 0),(3,zp 3 0),(5,zS zaW 2 bv2),(6,zI ev2),(7,zS zaW 2 cv3)],[(2,.box 24 (zm (enc_24 n))),(3,.box 40 (zm (enc_40 more)))],[]⟩:=zbd (by kernel_rfl) (zHh hs hk)
def zoP (n:Net) (more:Tie) (bv2:(Sl Span)) (ev2:Int) (cv3:(Sl Span)) (fv3:Int):Bool :=
  (cond (ev2 != fv3)
 false
 (cond ((bv2.len : Int) != (cv3.len : Int))
 false
 (cond (ev2 != (0:Int))
 (cond (ev2 != (5:Int))
 false
 (zoN n more bv2 ev2 cv3))
 (zoN n more bv2 ev2 cv3))))
def zoQ (n:Net) (more:Tie) (bv2:(Sl Span)) (ev2:Int) (cv3:(Sl Span)) (fv3:Int):Bool :=
  (cond (ev2 != fv3)
 true
 (cond ((bv2.len : Int) != (cv3.len : Int))
 true
 (cond (ev2 != (0:Int))
 (cond (ev2 != (5:Int))
 true
 (zoO n more bv2 ev2 cv3))
 (zoO n more bv2 ev2 cv3))))
theorem zHi (hs:zoQ n more bv2 ev2 cv3 fv3=true) (hk:K (e5 (zoP n more bv2 ev2 cv3 fv3))) (zI0:zHb=zg zaW cv3):z5 K [1,1,1,1] [] ⟨[(2,zp 2 0),(3,zp 3 0),(5,zS zaW 2 bv2),(6,zI ev2),(7,zP (.sl cv3.len 2 zHb)),(8,zI fv3)],[(2,.box 24 (zm (enc_24 n))),(3,.box 40 (zm (enc_40 more)))],[]⟩:=by subst zI0;exact zbd (by kernel_rfl) (zc hs hk (fun hs hk=>hk) (fun hs hk=>(zc hs hk (fun hs hk=>hk) (fun hs hk=>(zc hs hk (fun hs hk=>(zc hs hk (fun hs hk=>hk) (fun hs hk=>(zBm hs hk)))) (fun hs hk=>(zBm hs hk)))))))
def zyo (n:Net) (more:Tie) (bv2:(Sl Span)) (ev2:Int):Bool :=
  (zoP n more bv2 ev2 ((s26 (⟨(s28 n).Nodes,(⟨(s28 n).Ties.len,(s28 n).Ties.get⟩:(Sl Tie))⟩:Net)).1) ((s26 (⟨(s28 n).Nodes,(⟨(s28 n).Ties.len,(s28 n).Ties.get⟩:(Sl Tie))⟩:Net)).2))
def zyp (n:Net) (more:Tie) (bv2:(Sl Span)) (ev2:Int):Bool :=
  (decide ((p28 n=true)) &&
 (decide ((p26 (⟨(s28 n).Nodes,(⟨(s28 n).Ties.len,(s28 n).Ties.get⟩:(Sl Tie))⟩:Net)=true)) &&
 (zoQ n more bv2 ev2 ((s26 (⟨(s28 n).Nodes,(⟨(s28 n).Ties.len,(s28 n).Ties.get⟩:(Sl Tie))⟩:Net)).1) ((s26 (⟨(s28 n).Nodes,(⟨(s28 n).Ties.len,(s28 n).Ties.get⟩:(Sl Tie))⟩:Net)).2))))
theorem zHj (hs:zyp n more bv2 ev2=true) (hk:K (e5 (zyo n more bv2 ev2))) (zI1:zHa=zg zaW bv2):z5 K [1,1,1] [] ⟨[(2,zp 2 0),(3,zp 3 0),(5,zP (.sl bv2.len 2 zHa)),(6,zI ev2)],[(2,.box 24 (zm (enc_24 n))),(3,.box 40 (zm (enc_40 more)))],[]⟩:=by subst zI1;exact zbd (by kernel_rfl) (za0 hs fun hc hs=>And.intro (And.intro (zE enc_40 4 n.Ties.get) hc) (za0 hs fun hc hs=>And.intro (And.intro (zE enc_40 4 ((s28 n).Ties.get)) hc) (zHi hs hk rfl)))
def zoR (n:Net) (more:Tie):Bool :=
  (zyo n more ((s26 n).1) ((s26 n).2))
def zoS (n:Net) (more:Tie):Bool :=
  (decide ((p26 n=true)) &&
 (zyp n more ((s26 n).1) ((s26 n).2)))
theorem zHk (hs:zoS n more=true) (hk:K (e5 (zoR n more))):z5 K [1,1] [] ⟨[(2,zp 2 0),(3,zp 3 0)],[(2,.box 24 (zm (enc_24 n))),(3,.box 40 (zm (enc_40 more)))],[]⟩:=zbd (by kernel_rfl) (za0 hs fun hc hs=>And.intro (And.intro (zE enc_40 4 n.Ties.get) hc) (zHj hs hk rfl))
def zsJ (n:Net) (more:Tie) (zrg:Bool):Bool :=
  (cond zrg
 true
 (zoR n more))
def zsK (n:Net) (more:Tie) (zrg:Bool):Bool :=
  (cond zrg
 true
 (zoS n more))
theorem zBn (hs:zsK n more zrg=true) (hk:K (e5 (zsJ n more zrg))):z5 K [1,0,1] [] ⟨[(2,zp 2 0),(3,zp 3 0),(21,zB zrg)],[(2,.box 24 (zm (enc_24 n))),(3,.box 40 (zm (enc_40 more)))],[]⟩:=zbd (by kernel_rfl) (zc hs hk (fun hs hk=>hk) (fun hs hk=>(zHk hs hk)))
def s5 (n:Net) (more:Tie):Bool :=
  (cond (!(s20 n (20:Int)))
 (zsJ n more true)
 (zsJ n more (!(s23 n))))
def p5 (n:Net) (more:Tie):Bool :=
  (cond (!(s20 n (20:Int)))
 (zsK n more true)
 (decide ((p23 n=true)) &&
 (zsK n more (!(s23 n)))))
end
theorem q5 (n:Net) (more:Tie) (K:List PA→Prop) (hs:p5 n more=true) (hk:K (e5 (s5 n more))):vcFun Tryd.prog G5 zIZ 5 [.agg (enc_24 n),.agg (enc_40 more)] K :=
  zbd (by kernel_rfl) (And.intro (zE enc_40 4 n.Ties.get) (zc hs hk (fun hs hk=>(zBn hs hk)) (fun hs hk=>(za0 hs fun hc hs=>And.intro (And.intro (zE enc_40 4 n.Ties.get) hc) (zBn hs hk)))))
def zJv : List PA → COut
  | [.agg [.int .i64 a0_Nodes,.sl a0_Ties_n a0_Ties_s a0_Ties_g],.agg [.int .i64 a1_From,.int .i64 a1_To,.int .i64 a1_Low,.int .i64 a1_High]]=>.det (IsE enc_40 4 a0_Ties_s a0_Ties_g∧p5 (⟨a0_Nodes,(⟨a0_Ties_n,zaa a0_Ties_g⟩:(Sl Tie))⟩:Net) (⟨a1_From,a1_To,a1_Low,a1_High⟩:Tie)=true) [.one (.bool (s5 (⟨a0_Nodes,(⟨a0_Ties_n,zaa a0_Ties_g⟩:(Sl Tie))⟩:Net) (⟨a1_From,a1_To,a1_Low,a1_High⟩:Tie)))]
  | _=>.no
theorem call5:zaq Tryd.prog 5:=⟨_,rfl,rfl,by kernel_rfl⟩
theorem ok5:Ok Tryd.prog 5 zJv:=zbG zKr call5 fun args K h=>by
  unfold zJv at h
  split at h
  · rename_i a0_Nodes a0_Ties_n a0_Ties_s a0_Ties_g a1_From a1_To a1_Low a1_High
    obtain ⟨⟨⟨rfl,a0_Ties_f,rfl⟩,hs⟩,hk⟩:=h
    try rw [zan a0_Ties_f] at hs
    try rw [zan a0_Ties_f] at hk
    exact ⟨(fun _ _=>[]),(fun _=>false),zIZ,q5 (⟨a0_Nodes,(⟨a0_Ties_n,a0_Ties_f⟩:(Sl Tie))⟩:Net) (⟨a1_From,a1_To,a1_Low,a1_High⟩:Tie) K hs hk⟩
  · exact h.elim
end Go.Proofs
namespace Go.Proofs.YtedhjaaikeakoaaDoor
open Go Go.Pm Go.ChangeShapes
set_option maxRecDepth 100000
abbrev laid1 : List (String × DataW Unit) := [("overburden/align.never", Rows.laid_overburden_align_never)]
theorem zBo : Tryd.prog.globalNamed "overburden/align.never" = some 0 := by kernel_rfl
theorem zHl:(Tryd.prog.globals[0]?).map (·.type)=some 114:=by kernel_rfl
theorem zHm:Tryd.prog.cellsOf 114=2:=by kernel_rfl
theorem zJw:Tryd.prog.cellsOf 3=1:=by kernel_rfl
theorem door_met (os:Os) (args:Array Value):laidMetH Tryd.prog laid1 ((World.doorLaid Tryd.prog 400 os).forCall (fun _ _=>0) ⟨#[],args,[]⟩).memory :=
 laidMetH_of_parts3 (fuel:=8) (laidMet_of_run' 8 (by kernel_rfl) (by kernel_rfl)) (by kernel_rfl) (by kernel_rfl)
theorem gl_of {W:World} (h:laidMetH Tryd.prog laid1 W):zdO (H0 W):=by
 rw [MakeChecks.laidMetH_plain _ _ _ (by kernel_rfl)] at h
 obtain ⟨ps,⟨g0,t0,cs0,f0,p0,q0,hg0,ht0,hv0,hd0,_,_⟩,_,_⟩:=h
 obtain rfl:=Option.some.inj (zBo.symm.trans hg0)
 obtain rfl:=Option.some.inj (zHl.symm.trans ht0)
 obtain ⟨y0,y1,n,hx,hl,h0,h1⟩:=trod_struct2 Tryd.underlying114 hd0
 simp only [Prod.mk.injEq] at hx
 obtain ⟨hx,-⟩:=hx
 simp only [Rows.laid_overburden_align_never,DataW.agg.injEq,List.cons.injEq,and_true] at hx
 obtain ⟨k0,e0,d0,_⟩:=DataW.trod_int Tryd.underlying3 h0
 obtain ⟨k1,e1,d1,_⟩:=DataW.trod_int Tryd.underlying3 h1
 rw [zHm] at hl
 have e0':cs0.toList.take 1=[.int .i64 k0]:=by
  have:=e0
  rw [show Tryd.prog.cellsOf _=1 from zJw] at this
  simpa using this
 have e1':(cs0.toList.drop 1).take 1=[.int .i64 k1]:=by
  have:=e1
  rw [show Tryd.prog.cellsOf _=1 from zJw] at this
  simpa using this
 have hk0:k0=1000000000000:=by have:=hx.1;rw [d0] at this;injection this with a;injection a with _ a;exact a.symm
 have hk1:k1=0:=by have:=hx.2;rw [d1] at this;injection this with a;injection a with _ a;exact a.symm
 have hC:cs0.toList=[.int .i64 1000000000000,.int .i64 0]:=by
  have h2:cs0.toList=cs0.toList.take 1 ++ (cs0.toList.drop 1).take 1:=by
   rw [← List.take_add,List.take_of_length_le (by omega)]
  rw [h2,e0',e1',hk0,hk1];rfl
 intro k l hk
 unfold World.var? at hv0
 rw [zBo] at hv0
 simp only [Option.bind_some] at hv0
 cases k with
 | succ k=>cases hk
 | zero =>
  obtain rfl:[PV.int .i64 1000000000000,.int .i64 0]=l:=Option.some.inj hk
  cases eo:W.heap[0]? with
  | none=>rw [eo] at hv0;cases hv0
  | some o =>
   rw [eo] at hv0
   cases o with
   | cells C ty fr =>
    simp only [Option.some.injEq] at hv0
    subst hv0
    exact ⟨_,ty,fr,by unfold H0;rw [eo];rfl,by rw [hC];exact ⟨.int _ _,.int _ _,trivial⟩⟩
   | _=>cases hv0
end Go.Proofs.YtedhjaaikeakoaaDoor
