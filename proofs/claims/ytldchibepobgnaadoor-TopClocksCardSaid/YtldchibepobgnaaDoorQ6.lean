/- Part 6 of what the proof rests on: a machine that runs functions of the program on pure values, proved sound; the functions that the law reaches, and what they compute. -/
import Derived.Test.YtldchibepobgnaaDoorQ5
import Derived.Test.YtldchibepobgnaaDoorTie
import Derived.ProofKit
import Derived.LaidMore
import Derived.OpenShut
import Derived.Stop.Joined
import Derived.Test.YtldchibepobgnaaDoorCards
import Derived.WalkKit
set_option linter.all false
namespace Go.Proofs
open Go Go.Pm
set_option maxRecDepth 100000
set_option linter.unusedVariables false
attribute [local irreducible] Go.Pm.vcFun Go.Pm.vc Go.Pm.vcIter
abbrev T3:Tabs:=((((((((((Tabs.nil.addF 5 zTw).addF 6 zTD).addF 7 zTu).addF 8 zTE).addF 9 zTI).addF 10 zFV).addF 11 zLU).addF 12 zL1).addF 13 zMy).addF 14 zMO)
theorem zXh:TabsOk Tryd.prog T3:=((((((((((TabsOk.nil.addF ok5).addF ok6).addF ok7).addF ok8).addF ok9).addF zUI).addF zWV).addF zWW).addF zXd).addF zXg)
abbrev G3:Ctrs:=csm T3 (λ _ _=>[]) (λ _=>false)
def zUc:Ann:=⟨455,[(0,zK [1,2,3,4] [4]),(1,zK [1,2,3,4,65] [4]),(2,zK [8] []),(3,zK [1,2,3,4,9] [4,67]),(4,zK [1,2,3,4,9,10] [4,67]),(5,zK [1,2,3,4,9,10,72] [4,67]),(6,zK [1,2,3,4,9,10] [4,67]),(7,zK [1,2,3,4,9,10,11] [4,11,67]),(8,zK [1,2,3,4,9,10,11,111] [4,11,67]),(9,zK [8] []),(10,zK [1,2,3,4,9,10] [4,67]),(11,zK [2,3,4,9,12] [4,67]),(12,zK [2,3,4,9,12,13] [4,67]),(13,zK [2,3,4,9,12,13,14] [4,67]),(14,zK [2,3,4,9,12,13,14,15] [4,67]),(15,zK [2,3,4,9,12,13,14,15,133] [4,67,258,268,307]),(16,zK [2,3,4,9,12,13,14,15] [4,67,258,268,307]),(17,zK [2,3,4,9,12,13,14,15,16] [4,16,67,258,268,307]),(18,zK [2,3,4,9,12,13,14,15,16,210] [4,16,67,258,268,307]),(19,zK [8] []),(20,zK [2,3,4,9,12,13,14,15,16,17,18] [4,16,17,18,67,258,268,307]),(21,zK [2,3,4,9,12,13,14,15,16,17,18,252] [4,16,17,18,67,258,268,307]),(22,zK [8] []),(23,zK [2,3,4,9,12,13,14,15,16,17,18] [4,16,17,18,67,258,268,307]),(24,zK [2,3,4,9,12,13,14,15] [4,67,258,268,307]),(25,zK [4,9,13,14,19,20] [4,19,67,258,268]),(26,zK [4,9,13,14,19,318] [4,19,67,258,268]),(27,zK [8] []),(28,zK [4,9,13,14,19] [4,19,67,258,268,321]),(29,zK [4,9,13,14,19,21] [4,19,67,258,268,321]),(30,zK [4,9,13,14,19,21,22] [4,19,67,258,268,321]),(31,zK [4,9,13,14,19,21,22,327] [4,19,67,258,268,321,360]),(32,zK [4,9,13,14,19,21,22] [4,19,67,258,268,321,360]),(33,zK [4,9,13,14,19,21,22] [4,19,67,258,268,321,360]),(34,zK [4,9,13,14,19,21,22] [4,19,67,258,268,321,360]),(35,zK [4,9,13,14,19,21,23,24] [4,19,67,258,268,321,360]),(36,zK [4,9,13,14,21,23,380] [4,67,258,268,360]),(37,zK [8] []),(38,zK [4,9,13,14,21,23,25] [4,67,258,268,360]),(39,zK [4,9,13,14,21,23,25,384] [4,67,258,268,360]),(40,zK [4,9,13,14,21,23,25] [4,67,258,268,360]),(41,zK [4,9,13,14,21,23,25,408] [4,67,258,268,360]),(42,zK [8] []),(43,zK [13,14,26,27] [26,258,268]),(44,zK [13,14,26,418] [26,258,268]),(45,zK [8] []),(46,zK [13,14,26,28] [26,258,268]),(47,zK [13,14,26,28,422] [26,258,268]),(48,zK [13,14,26,28] [26,258,268]),(49,zK [13,14,26,28,29,30] [26,29,258,268]),(50,zK [13,14,26,28,453] [26,258,268]),(51,zK [8] []),(52,zK [8] [])],
 [(5,zK [1,2,3,4,9,10] [4,67]),(15,⟨[2,3,4,9,12,13,14,15],[4,67,258,268,307],[(12,307,45,λ _=>zdL default),(13,258,41,λ _=>zbH default),(14,268,3,λ _=>enc_3 default)],[],[],[],[]⟩),(31,⟨[4,9,13,14,19,21,22],[4,19,67,258,268,321,360],[(21,360,32,λ _=>za2 default)],[],[],[],[]⟩),(39,zK [4,9,13,14,21,23,25] [4,67,258,268,360]),(47,zK [13,14,26,28] [26,258,268])],
 [(2,zK [1,2,3,4,65] [4]),(3,zK [1,2,3,4] [4]),(10,zK [1,2,3,4,9,10,11] [4,11,67]),(11,zK [2,3,4,9] [4,67]),(20,zK [2,3,4,9,12,13,14,15,16] [4,16,67,258,268,307]),(25,zK [4,9,12,13,14] [4,67,258,268,307]),(21,zK [2,3,4,9,12,13,14,15,16,17,18] [4,16,17,18,67,258,268,307]),(26,zK [4,9,13,14,19,20] [4,19,67,258,268]),(22,zK [2,3,4,9,12,13,14,15,16,17,18,252] [4,16,17,18,67,258,268,307]),(28,zK [4,9,13,14,19] [4,19,67,258,268]),(23,zK [2,3,4,9,12,13,14,15,16,17,18] [4,16,17,18,67,258,268,307]),(35,zK [4,9,13,14,19,21] [4,19,67,258,268,321,360]),(36,zK [4,9,13,14,19,21,23,24] [4,19,67,258,268,321,360]),(37,zK [4,9,13,14,21,23,380] [4,67,258,268,360]),(38,zK [4,9,13,14,21,23] [4,67,258,268,360]),(43,zK [4,13,14,21,23] [4,258,268,360]),(44,zK [13,14,26,27] [26,258,268]),(46,zK [13,14,26] [26,258,268]),(50,zK [13,14,26,28,29,30] [26,29,258,268])],
 [],[]⟩
abbrev R3:=Bool
abbrev e3 (r:R3):List PA:=[.one (.bool r)]
@[irreducible] def z3:=ptF Tryd.prog G3 zUc Tryd.f3
def zQM (zad:(Sl Int)) (l_a2:(Sl Flown)) (play:Int) (iv2:Int) (sv2:(Sl Plane)) (zfD:(Sl Int)) (zhe:Nat->List PV) (zht:Nat->List PV):St:=⟨[(1,zS enc_3 1 zad),(2,zS enc_39 6 l_a2),(3,zI play),(4,zp 4 0),(9,zv 67),(10,zI iv2)],[(4,.box 24 [.p (.sl sv2.len 15 zhe)]),(67,.vec 3 1 8 zfD.len zht)],[]⟩
abbrev zUd (K:List PA->Prop) (zad:(Sl Int)) (l_a2:(Sl Flown)) (play:Int) (X:St->Prop) (P:Int->(Sl Plane)->(Sl Int)->Bool) (S:Int->(Sl Plane)->(Sl Int)->Bool):Prop:=∀ ⦃iv2:Int⦄ ⦃sv2:(Sl Plane)⦄ ⦃zfD:(Sl Int)⦄ ⦃zhe:Nat->List PV⦄ ⦃zht:Nat->List PV⦄,P iv2 sv2 zfD=true->K (e3 (S iv2 sv2 zfD))->zhe=zg enc_35 sv2->zht=zg enc_3 zfD->X (zQM zad l_a2 play iv2 sv2 zfD zhe zht)
def zQN (l_a2:(Sl Flown)) (play:Int) (iv5:Int) (sv5:(Sl Plane)) (zfE:(Sl Int)) (zdA:(Sl Hit)) (zdB:(Sl Int)) (zdC:(Sl Pulse)) (zsE:Nat->List PV) (zhu:Nat->List PV) (zfN:Nat->List PV) (zfO:Nat->List PV) (zfP:Nat->List PV):St:=⟨[(2,zS enc_39 6 l_a2),(3,zI play),(4,zp 4 0),(9,zv 67),(12,zv 307),(13,zv 258),(14,zv 268),(15,zI iv5)],[(4,.box 24 [.p (.sl sv5.len 15 zsE)]),(67,.vec 3 1 8 zfE.len zhu),(258,.vec 41 6 48 zdA.len zfN),(268,.vec 3 1 8 zdB.len zfO),(307,.vec 45 7 56 zdC.len zfP)],[]⟩
abbrev zNL (K:List PA->Prop) (l_a2:(Sl Flown)) (play:Int) (X:St->Prop) (P:Int->(Sl Plane)->(Sl Int)->(Sl Hit)->(Sl Int)->(Sl Pulse)->Bool) (S:Int->(Sl Plane)->(Sl Int)->(Sl Hit)->(Sl Int)->(Sl Pulse)->Bool):Prop:=∀ ⦃iv5:Int⦄ ⦃sv5:(Sl Plane)⦄ ⦃zfE:(Sl Int)⦄ ⦃zdA:(Sl Hit)⦄ ⦃zdB:(Sl Int)⦄ ⦃zdC:(Sl Pulse)⦄ ⦃zsE:Nat->List PV⦄ ⦃zhu:Nat->List PV⦄ ⦃zfN:Nat->List PV⦄ ⦃zfO:Nat->List PV⦄ ⦃zfP:Nat->List PV⦄,P iv5 sv5 zfE zdA zdB zdC=true->K (e3 (S iv5 sv5 zfE zdA zdB zdC))->zsE=zg enc_35 sv5->zhu=zg enc_3 zfE->zfN=zg zbH zdA->zfO=zg enc_3 zdB->zfP=zg zdL zdC->X (zQN l_a2 play iv5 sv5 zfE zdA zdB zdC zsE zhu zfN zfO zfP)
def zIr (zch:Int) (zfB:(Sl Plane)) (zcv:(Sl Int)) (zbY:(Sl Hit)) (zbZ:(Sl Int)) (zgN:Int) (zci:(Sl Tie)) (zcj:(Sl Span)) (zeK:Nat->List PV) (zeL:Nat->List PV):St:=⟨[(4,zp 4 0),(9,zv 67),(13,zv 258),(14,zv 268),(19,zp 19 0),(21,zv 360),(22,zI zgN)],[(4,.box 24 (zm (enc_24 (⟨zfB⟩:Setup)))),(19,.box 48 [zi zch,.vec 321]),(67,.vec 3 1 8 zcv.len (λ i=>enc_3 (zcv.get i))),(258,.vec 41 6 48 zbY.len (λ i=>zbH (zbY.get i))),(268,.vec 3 1 8 zbZ.len (λ i=>enc_3 (zbZ.get i))),(321,.vec 54 4 32 zci.len zeK),(360,.vec 32 2 16 zcj.len zeL)],[]⟩
abbrev zQO (K:List PA->Prop) (zch:Int) (zfB:(Sl Plane)) (zcv:(Sl Int)) (zbY:(Sl Hit)) (zbZ:(Sl Int)) (X:St->Prop) (P:Int->(Sl Tie)->(Sl Span)->Bool) (S:Int->(Sl Tie)->(Sl Span)->Bool):Prop:=∀ ⦃zgN:Int⦄ ⦃zci:(Sl Tie)⦄ ⦃zcj:(Sl Span)⦄ ⦃zeK:Nat->List PV⦄ ⦃zeL:Nat->List PV⦄,P zgN zci zcj=true->K (e3 (S zgN zci zcj))->zeK=zg zbr zci->zeL=zg za2 zcj->X (zIr zch zfB zcv zbY zbZ zgN zci zcj zeK zeL)
def zIs (zc8:(Sl Span)) (zh5:(Sl Plane)) (zcd:(Sl Int)) (zb0:(Sl Hit)) (zb1:(Sl Int)) (zb2:(Sl Span)) (zgO:Int):St:=⟨[(4,zp 4 0),(9,zv 67),(13,zv 258),(14,zv 268),(21,zv 360),(23,zS za2 2 zc8),(25,zI zgO)],[(4,.box 24 (zm (enc_24 (⟨zh5⟩:Setup)))),(67,.vec 3 1 8 zcd.len (λ i=>enc_3 (zcd.get i))),(258,.vec 41 6 48 zb0.len (λ i=>zbH (zb0.get i))),(268,.vec 3 1 8 zb1.len (λ i=>enc_3 (zb1.get i))),(360,.vec 32 2 16 zb2.len (λ i=>za2 (zb2.get i)))],[]⟩
abbrev zQP (K:List PA->Prop) (zc8:(Sl Span)) (zh5:(Sl Plane)) (zcd:(Sl Int)) (zb0:(Sl Hit)) (zb1:(Sl Int)) (zb2:(Sl Span)) (X:St->Prop) (P:Int->Bool) (S:Int->Bool):Prop:=∀ ⦃zgO:Int⦄,P zgO=true->K (e3 (S zgO))->X (zIs zc8 zh5 zcd zb0 zb1 zb2 zgO)
def zIt (zeD:(Sl Plane)) (zjf:Int) (zb9:(Sl Hit)) (zc2:(Sl Int)) (zeM:Nat->List PV) (zeN:Nat->List PV):St:=⟨[(13,zv 258),(14,zv 268),(26,zp 26 0),(28,zI zjf)],[(26,.box 24 (zm (enc_24 (⟨zeD⟩:Setup)))),(258,.vec 41 6 48 zb9.len zeM),(268,.vec 3 1 8 zc2.len zeN)],[]⟩
abbrev zMP (K:List PA->Prop) (zeD:(Sl Plane)) (X:St->Prop) (P:Int->(Sl Hit)->(Sl Int)->Bool) (S:Int->(Sl Hit)->(Sl Int)->Bool):Prop:=∀ ⦃zjf:Int⦄ ⦃zb9:(Sl Hit)⦄ ⦃zc2:(Sl Int)⦄ ⦃zeM:Nat->List PV⦄ ⦃zeN:Nat->List PV⦄,P zjf zb9 zc2=true->K (e3 (S zjf zb9 zc2))->zeM=zg zbH zb9->zeN=zg enc_3 zc2->X (zIt zeD zjf zb9 zc2 zeM zeN)
section
variable {K:List PA->Prop}{s:Setup}{zad:(Sl Int)}{l_a2:(Sl Flown)}{play:Int}{zwn:Bool}{sv0:(Sl Plane)}{zcb:Nat->List PV}{sv1:(Sl Plane)}{zd3:Nat->List PV}{iv2:Int}{sv2:(Sl Plane)}{zfD:(Sl Int)}{zhe:Nat->List PV}{zht:Nat->List PV}{X2:St->Prop}{P2:Int->(Sl Plane)->(Sl Int)->Bool}{S2:Int->(Sl Plane)->(Sl Int)->Bool}{iv3:Int}{sv3:(Sl Plane)}{znu:Int}{zsF:Int}{zi7:(Sl Int)}{zCF:Nat->List PV}{zDz:Nat->List PV}{sv4:(Sl Plane)}{zsG:(Sl Int)}{zQQ:Nat->List PV}{zDA:Nat->List PV}{iv5:Int}{sv5:(Sl Plane)}{zfE:(Sl Int)}{zdA:(Sl Hit)}{zdB:(Sl Int)}{zdC:(Sl Pulse)}{zsE:Nat->List PV}{zhu:Nat->List PV}{zfN:Nat->List PV}{zfO:Nat->List PV}{zfP:Nat->List PV}{X5:St->Prop}{P5:Int->(Sl Plane)->(Sl Int)->(Sl Hit)->(Sl Int)->(Sl Pulse)->Bool}{S5:Int->(Sl Plane)->(Sl Int)->(Sl Hit)->(Sl Int)->(Sl Pulse)->Bool}{iv6:Int}{sv6:(Sl Plane)}{zdl:Int}{zdm:Int}{zdH:Int}{zgf:Int}{zgg:Int}{zgh:Int}{zdg:(Sl Int)}{zly:(Sl Hit)}{zlz:(Sl Int)}{zlA:(Sl Pulse)}{zQR:Nat->List PV}{zDB:Nat->List PV}{zyi:Nat->List PV}{zyj:Nat->List PV}{zyk:Nat->List PV}{sv7:(Sl Plane)}{zsH:(Sl Int)}{zlB:(Sl Hit)}{zlC:(Sl Int)}{zfQ:(Sl Pulse)}{zQS:Nat->List PV}{zDC:Nat->List PV}{zyl:Nat->List PV}{zym:Nat->List PV}{zyn:Nat->List PV}{iv8:Int}{sv8:(Sl Plane)}{zqC:Int}{zqD:Int}{zqE:Int}{zqF:Int}{zqG:Int}{zqH:Int}{zdO:Int}{zdP:Int}{zdQ:Int}{zdR:Int}{zdS:Int}{zdy:Int}{zei:Int}{zej:Int}{zek:Int}{zel:Int}{zem:Int}{zdT:Int}{zn8:(Sl Int)}{zie:(Sl Hit)}{zif:(Sl Int)}{zih:(Sl Pulse)}{zQT:Nat->List PV}{zDD:Nat->List PV}{zyo:Nat->List PV}{zyp:Nat->List PV}{zyq:Nat->List PV}{ev9:Int}{sv9:(Sl Plane)}{zch:Int}{zhv:(Sl Tie)}{zsI:(Sl Int)}{zlD:(Sl Hit)}{zlE:(Sl Int)}{zQU:Nat->List PV}{zDE:Nat->List PV}{zDF:Nat->List PV}{zyr:Nat->List PV}{zys:Nat->List PV}{zuZ:Int}{zi8:Bool}{zIu:(Sl Plane)}{znv:Int}{znw:Int}{znx:Int}{zny:Int}{znz:Int}{znA:Int}{zlF:(Sl Int)}{zhw:(Sl Hit)}{zhx:(Sl Int)}{zhy:(Sl Pulse)}{zIv:Nat->List PV}{zyt:Nat->List PV}{zsJ:Nat->List PV}{zsK:Nat->List PV}{zsL:Nat->List PV}{zfB:(Sl Plane)}{zcv:(Sl Int)}{zbY:(Sl Hit)}{zbZ:(Sl Int)}{zIw:Nat->List PV}{zyu:Nat->List PV}{zsM:Nat->List PV}{zsN:Nat->List PV}{zMQ:Int}{ztz:(Sl Plane)}{zgi:Int}{zgj:Int}{zeX:Int}{zen:Int}{zsO:Int}{zsP:Int}{zlG:(Sl Int)}{zdU:(Sl Hit)}{zdV:(Sl Int)}{zdW:(Sl Pulse)}{zIx:Nat->List PV}{zyv:Nat->List PV}{zsQ:Nat->List PV}{zsR:Nat->List PV}{zsS:Nat->List PV}{zgN:Int}{zci:(Sl Tie)}{zcj:(Sl Span)}{zeK:Nat->List PV}{zeL:Nat->List PV}{X13:St->Prop}{P13:Int->(Sl Tie)->(Sl Span)->Bool}{S13:Int->(Sl Tie)->(Sl Span)->Bool}{zIy:(Sl Plane)}{zlH:(Sl Int)}{zhz:(Sl Hit)}{zhA:(Sl Int)}{zcD:(Sl Tie)}{zhB:(Sl Span)}{zIz:Nat->List PV}{zyw:Nat->List PV}{zsU:Nat->List PV}{zsV:Nat->List PV}{zsW:Nat->List PV}{zsX:Nat->List PV}{zc8:(Sl Span)}{zMR:Int}{zzp:(Sl Plane)}{zeo:(Sl Int)}{zeS:(Sl Hit)}{zeT:(Sl Int)}{zeU:(Sl Span)}{zIA:Nat->List PV}{zIB:Nat->List PV}{zyx:Nat->List PV}{zsY:Nat->List PV}{zsZ:Nat->List PV}{zs3:Nat->List PV}{zi9:Bool}{zIC:(Sl Plane)}{zlI:(Sl Int)}{zhC:(Sl Hit)}{zhD:(Sl Int)}{zhE:(Sl Span)}{zID:Nat->List PV}{zyy:Nat->List PV}{zs4:Nat->List PV}{zs5:Nat->List PV}{zs6:Nat->List PV}{zh5:(Sl Plane)}{zcd:(Sl Int)}{zb0:(Sl Hit)}{zb1:(Sl Int)}{zb2:(Sl Span)}{zIE:Nat->List PV}{zyz:Nat->List PV}{zs7:Nat->List PV}{zs8:Nat->List PV}{zs9:Nat->List PV}{zgO:Int}{X18:St->Prop}{P18:Int->Bool}{S18:Int->Bool}{zzq:(Sl Plane)}{zhF:(Sl Hit)}{zhG:(Sl Int)}{zeV:(Sl Span)}{zIF:Nat->List PV}{zta:Nat->List PV}{ztb:Nat->List PV}{ztc:Nat->List PV}{zMS:Int}{zeD:(Sl Plane)}{zhH:(Sl Hit)}{zhI:(Sl Int)}{zIG:Nat->List PV}{ztd:Nat->List PV}{zte:Nat->List PV}{zhJ:(Sl Hit)}{zhK:(Sl Int)}{ztf:Nat->List PV}{ztg:Nat->List PV}{zjf:Int}{zb9:(Sl Hit)}{zc2:(Sl Int)}{zeM:Nat->List PV}{zeN:Nat->List PV}{X22:St->Prop}{P22:Int->(Sl Hit)->(Sl Int)->Bool}{S22:Int->(Sl Hit)->(Sl Int)->Bool}{zth:Int}{zMT:Int}{znB:Int}{znC:Int}{zhL:(Sl Hit)}{zdI:(Sl Int)}{zti:Nat->List PV}{ztj:Nat->List PV}
def zwo (S22:Int->(Sl Hit)->(Sl Int)->Bool) (zeD:(Sl Plane)) (zth:Int) (zMT:Int) (znB:Int) (znC:Int) (zhL:(Sl Hit)) (zdI:(Sl Int)):Bool :=
  (cond (zMT != (0:Int))
 false
 (cond (decide ((zdI.get zth.toNat) < znB))
 false
 (cond (decide ((zdI.get zth.toNat) > znC))
 false
 (S22 (w64 (zth+(1:Int))) zhL zdI))))
def zwp (P22:Int->(Sl Hit)->(Sl Int)->Bool) (zeD:(Sl Plane)) (zth:Int) (zMT:Int) (znB:Int) (znC:Int) (zhL:(Sl Hit)) (zdI:(Sl Int)):Bool :=
  (cond (zMT != (0:Int))
 true
 (decide ((0<=zth/\zth < (zdI.len:Int))) &&
 (decide ((zth.toNat < zdI.len)) &&
 (cond (decide ((zdI.get zth.toNat) < znB))
 true
 (decide ((0<=zth/\zth < (zdI.len:Int))) &&
 (decide ((zth.toNat < zdI.len)) &&
 (cond (decide ((zdI.get zth.toNat) > znC))
 true
 (P22 (w64 (zth+(1:Int))) zhL zdI))))))))
theorem zMU (hX22:zMP K zeD X22 P22 S22) (hs:zwp P22 zeD zth zMT znB znC zhL zdI=true) (hk:K (e3 (zwo S22 zeD zth zMT znB znC zhL zdI))) (zDG:zti=zg zbH zhL) (zDH:ztj=zg enc_3 zdI):z3 K [1,1,1,1,1,1,1,1,1,1,1,1,1,1,1,1,1,1,0,1,0,0,1,0,0,1] [X22] ⟨[(13,zv 258),(14,zv 268),(26,zp 26 0),(28,zI zth),(29,zp 29 0),(30,zI zMT)],[(26,.box 24 (zm (enc_24 (⟨zeD⟩:Setup)))),(29,.box 32 (zm (za2 (⟨znB,znC⟩:Span)))),(258,.vec 41 6 48 zhL.len zti),(268,.vec 3 1 8 zdI.len ztj)],[]⟩:=by subst zDG;subst zDH;exact zaK (by kernel_rfl) (zc hs hk (λ hs hk=>hk) (λ hs hk=>(zaX hs λ hc hs=>And.intro hc (zaX hs λ hc hs=>And.intro hc (zc hs hk (λ hs hk=>hk) (λ hs hk=>(zaX hs λ hc hs=>And.intro hc (zaX hs λ hc hs=>And.intro hc (zc hs hk (λ hs hk=>hk) (λ hs hk=>(hX22 hs hk rfl rfl)))))))))))
def zk8 (zeD:(Sl Plane)) (S22:Int->(Sl Hit)->(Sl Int)->Bool) (zjf:Int) (zb9:(Sl Hit)) (zc2:(Sl Int)):Bool :=
  (cond (decide (zjf < (zb9.len : Int)))
 (zwo S22 zeD zjf ((s14 (⟨zeD⟩:Setup) (zb9.get zjf.toNat)).2) (((s14 (⟨zeD⟩:Setup) (zb9.get zjf.toNat)).1).Low) (((s14 (⟨zeD⟩:Setup) (zb9.get zjf.toNat)).1).High) zb9 zc2)
 true)
def zk9 (zeD:(Sl Plane)) (P22:Int->(Sl Hit)->(Sl Int)->Bool) (zjf:Int) (zb9:(Sl Hit)) (zc2:(Sl Int)):Bool :=
  (cond (decide (zjf < (zb9.len : Int)))
 (decide ((0<=zjf/\zjf < (zb9.len:Int))) &&
 (decide ((zjf.toNat < zb9.len)) &&
 (decide ((p14 (⟨zeD⟩:Setup) (zb9.get zjf.toNat)=true)) &&
 (zwp P22 zeD zjf ((s14 (⟨zeD⟩:Setup) (zb9.get zjf.toNat)).2) (((s14 (⟨zeD⟩:Setup) (zb9.get zjf.toNat)).1).Low) (((s14 (⟨zeD⟩:Setup) (zb9.get zjf.toNat)).1).High) zb9 zc2))))
 true)
def zja (zeD:(Sl Plane)):Nat->Int->(Sl Hit)->(Sl Int)->Bool:=lpO (λ _ _ _=>default) (zk8 zeD)
def zjb (zeD:(Sl Plane)):Nat->Int->(Sl Hit)->(Sl Int)->Bool:=lpO (λ _ _ _=>false) (zk9 zeD)
def znD (zeD:(Sl Plane)) (zjf:Int) (zb9:(Sl Hit)) (zc2:(Sl Int)):Bool:=zja zeD Fuel zjf zb9 zc2
def znE (zeD:(Sl Plane)) (zjf:Int) (zb9:(Sl Hit)) (zc2:(Sl Int)):Bool:=zjb zeD Fuel zjf zb9 zc2
theorem zMV (hs:znE zeD zjf zb9 zc2=true) (hk:K (e3 (znD zeD zjf zb9 zc2))) (znF:zeM=zg zbH zb9) (znG:zeN=zg enc_3 zc2):z3 K [1,1,1,1,1,1,1,1,1,1,1,1,1,1,1,1,1,1,0,1,0] [] (zIt zeD zjf zb9 zc2 zeM zeN) :=
  zl (λ X=>z3 K [1,1,1,1,1,1,1,1,1,1,1,1,1,1,1,1,1,1,0,1,0,0] [X]) (by kernel_rfl) λ X22 hX =>
  (show ∀ k, zMP K zeD X22 (zjb zeD k) (zja zeD k) from zgc _ _ (zk9 zeD) (zk8 zeD) (zMP K zeD X22)
 (by intro _ _ _ _ _ hs;exact absurd hs dqk)
 (by intro P22 S22 hX22 zjf zb9 zc2 zeM zeN hs hk znF znG;subst znF;subst znG;exact hX _ (zaK (by kernel_rfl) (zc hs hk (λ hs hk=>(zaX hs λ hc hs=>And.intro hc (zaX hs λ hc hs=>And.intro hc (zaX hs λ hc hs=>And.intro (And.intro (zE enc_35 15 zeD.get) hc) (zMU hX22 hs hk rfl rfl))))) (λ hs hk=>hk))))) _ hs hk znF znG
def zwq (zeD:(Sl Plane)) (zhJ:(Sl Hit)) (zhK:(Sl Int)):Bool :=
  (znD zeD (0:Int) zhJ zhK)
def zwr (zeD:(Sl Plane)) (zhJ:(Sl Hit)) (zhK:(Sl Int)):Bool :=
  (znE zeD (0:Int) zhJ zhK)
theorem zMW (hs:zwr zeD zhJ zhK=true) (hk:K (e3 (zwq zeD zhJ zhK))) (zDI:ztf=zg zbH zhJ) (zDJ:ztg=zg enc_3 zhK):z3 K [1,1,1,1,1,1,1,1,1,1,1,1,1,1,1,1,1,1] [] ⟨[(13,zv 258),(14,zv 268),(26,zp 26 0)],[(26,.box 24 (zm (enc_24 (⟨zeD⟩:Setup)))),(258,.vec 41 6 48 zhJ.len ztf),(268,.vec 3 1 8 zhK.len ztg)],[]⟩:=by subst zDI;subst zDJ;exact zaK (by kernel_rfl) (zMV hs hk rfl rfl)
def zwt (zMS:Int) (zeD:(Sl Plane)) (zhH:(Sl Hit)) (zhI:(Sl Int)):Bool :=
  (cond (zMS != (0:Int))
 false
 (zwq zeD zhH zhI))
def zwu (zMS:Int) (zeD:(Sl Plane)) (zhH:(Sl Hit)) (zhI:(Sl Int)):Bool :=
  (cond (zMS != (0:Int))
 true
 (zwr zeD zhH zhI))
theorem zMX (hs:zwu zMS zeD zhH zhI=true) (hk:K (e3 (zwt zMS zeD zhH zhI))) (zQV:zIG=zg enc_35 zeD) (zDK:ztd=zg zbH zhH) (zDL:zte=zg enc_3 zhI):z3 K [1,1,1,1,1,1,1,1,1,1,1,1,1,1,1,1,1] [] ⟨[(13,zv 258),(14,zv 268),(26,zp 26 0),(27,zI zMS)],[(26,.box 24 [.p (.sl zeD.len 15 zIG)]),(258,.vec 41 6 48 zhH.len ztd),(268,.vec 3 1 8 zhI.len zte)],[]⟩:=by subst zQV;subst zDK;subst zDL;exact zaK (by kernel_rfl) (zc hs hk (λ hs hk=>hk) (λ hs hk=>(zMW hs hk rfl rfl)))
def znH (zc8:(Sl Span)) (zzq:(Sl Plane)) (zhF:(Sl Hit)) (zhG:(Sl Int)) (zeV:(Sl Span)):Bool :=
  (zwt ((s13 (⟨zzq⟩:Setup) zeV (⟨((zc8.len:Int) - (1:Int)).toNat,(λ i=>zc8.get (i+((1:Int).toNat)))⟩:(Sl Span))).2) (((s13 (⟨zzq⟩:Setup) zeV (⟨((zc8.len:Int) - (1:Int)).toNat,(λ i=>zc8.get (i+((1:Int).toNat)))⟩:(Sl Span))).1).Planes) zhF zhG)
def znI (zc8:(Sl Span)) (zzq:(Sl Plane)) (zhF:(Sl Hit)) (zhG:(Sl Int)) (zeV:(Sl Span)):Bool :=
  (decide ((0<=(1:Int)/\(1:Int)<=(zc8.len:Int)/\(zc8.len:Int)<=(zc8.len:Int))) &&
 (decide ((p13 (⟨zzq⟩:Setup) zeV (⟨((zc8.len:Int) - (1:Int)).toNat,(λ i=>zc8.get (i+((1:Int).toNat)))⟩:(Sl Span))=true)) &&
 (zwu ((s13 (⟨zzq⟩:Setup) zeV (⟨((zc8.len:Int) - (1:Int)).toNat,(λ i=>zc8.get (i+((1:Int).toNat)))⟩:(Sl Span))).2) (((s13 (⟨zzq⟩:Setup) zeV (⟨((zc8.len:Int) - (1:Int)).toNat,(λ i=>zc8.get (i+((1:Int).toNat)))⟩:(Sl Span))).1).Planes) zhF zhG)))
theorem zMY (hs:znI zc8 zzq zhF zhG zeV=true) (hk:K (e3 (znH zc8 zzq zhF zhG zeV))) (zQW:zIF=zg enc_35 zzq) (zDM:zta=zg zbH zhF) (zDN:ztb=zg enc_3 zhG) (zDO:ztc=zg za2 zeV):z3 K [1,1,1,1,1,1,1,1,1,1,1,1,1,1,1,1] [] ⟨[(4,zp 4 0),(13,zv 258),(14,zv 268),(21,zv 360),(23,zS za2 2 zc8)],[(4,.box 24 [.p (.sl zzq.len 15 zIF)]),(258,.vec 41 6 48 zhF.len zta),(268,.vec 3 1 8 zhG.len ztb),(360,.vec 32 2 16 zeV.len ztc)],[]⟩:=by subst zQW;subst zDM;subst zDN;subst zDO;exact zaK (by kernel_rfl) (zaX hs λ hc hs=>And.intro hc (zaX hs λ hc hs=>And.intro (And.intro (zE enc_35 15 zzq.get) (And.intro (zE za2 2 zeV.get) (And.intro (isE:IsE za2 2 2 (slG (λ i=>za2 (zc8.get i)) ((1:Int).toNat))) hc))) (zMX hs hk rfl rfl rfl)))
def zla (zc8:(Sl Span)) (zh5:(Sl Plane)) (zcd:(Sl Int)) (zb0:(Sl Hit)) (zb1:(Sl Int)) (zb2:(Sl Span)) (S18:Int->Bool) (zgO:Int):Bool :=
  (cond (decide (zgO < (zc8.len : Int)))
 (cond (decide ((zcd.get zgO.toNat) < (zc8.get zgO.toNat).Low))
 false
 (cond (decide ((zcd.get zgO.toNat) > (zc8.get zgO.toNat).High))
 false
 (S18 (w64 (zgO+(1:Int))))))
 (znH zc8 zh5 zb0 zb1 zb2))
def zlb (zc8:(Sl Span)) (zh5:(Sl Plane)) (zcd:(Sl Int)) (zb0:(Sl Hit)) (zb1:(Sl Int)) (zb2:(Sl Span)) (P18:Int->Bool) (zgO:Int):Bool :=
  (cond (decide (zgO < (zc8.len : Int)))
 (decide ((0<=zgO/\zgO < (zcd.len:Int))) &&
 (decide ((zgO.toNat < zcd.len)) &&
 (decide ((0<=zgO/\zgO < (zc8.len:Int))) &&
 (cond (decide ((zcd.get zgO.toNat) < (zc8.get zgO.toNat).Low))
 true
 (decide ((0<=zgO/\zgO < (zcd.len:Int))) &&
 (decide ((zgO.toNat < zcd.len)) &&
 (decide ((0<=zgO/\zgO < (zc8.len:Int))) &&
 (cond (decide ((zcd.get zgO.toNat) > (zc8.get zgO.toNat).High))
 true
 (P18 (w64 (zgO+(1:Int))))))))))))
 (znI zc8 zh5 zb0 zb1 zb2))
def zlc (zc8:(Sl Span)) (zh5:(Sl Plane)) (zcd:(Sl Int)) (zb0:(Sl Hit)) (zb1:(Sl Int)) (zb2:(Sl Span)):Nat->Int->Bool:=lpO (λ _=>default) (zla zc8 zh5 zcd zb0 zb1 zb2)
def zld (zc8:(Sl Span)) (zh5:(Sl Plane)) (zcd:(Sl Int)) (zb0:(Sl Hit)) (zb1:(Sl Int)) (zb2:(Sl Span)):Nat->Int->Bool:=lpO (λ _=>false) (zlb zc8 zh5 zcd zb0 zb1 zb2)
def zqI (zc8:(Sl Span)) (zh5:(Sl Plane)) (zcd:(Sl Int)) (zb0:(Sl Hit)) (zb1:(Sl Int)) (zb2:(Sl Span)) (zgO:Int):Bool:=zlc zc8 zh5 zcd zb0 zb1 zb2 Fuel zgO
def zqJ (zc8:(Sl Span)) (zh5:(Sl Plane)) (zcd:(Sl Int)) (zb0:(Sl Hit)) (zb1:(Sl Int)) (zb2:(Sl Span)) (zgO:Int):Bool:=zld zc8 zh5 zcd zb0 zb1 zb2 Fuel zgO
theorem zMZ (hs:zqJ zc8 zh5 zcd zb0 zb1 zb2 zgO=true) (hk:K (e3 (zqI zc8 zh5 zcd zb0 zb1 zb2 zgO))):z3 K [1,1,1,1,1,1,1,1,1,1,1,1,1,1,1,0,1,0] [] (zIs zc8 zh5 zcd zb0 zb1 zb2 zgO) :=
  zl (λ X=>z3 K [1,1,1,1,1,1,1,1,1,1,1,1,1,1,1,0,1,0,0] [X]) (by kernel_rfl) λ X18 hX =>
  (show ∀ k, zQP K zc8 zh5 zcd zb0 zb1 zb2 X18 (zld zc8 zh5 zcd zb0 zb1 zb2 k) (zlc zc8 zh5 zcd zb0 zb1 zb2 k) from zgc _ _ (zlb zc8 zh5 zcd zb0 zb1 zb2) (zla zc8 zh5 zcd zb0 zb1 zb2) (zQP K zc8 zh5 zcd zb0 zb1 zb2 X18)
 (by intro _ hs;exact absurd hs dqk)
 (by intro P18 S18 hX18 zgO hs hk;exact hX _ (zaK (by kernel_rfl) (zc hs hk (λ hs hk=>(zaX hs λ hc hs=>And.intro hc (zaX hs λ hc hs=>And.intro hc (zaX hs λ hc hs=>And.intro hc (zc hs hk (λ hs hk=>hk) (λ hs hk=>(zaX hs λ hc hs=>And.intro hc (zaX hs λ hc hs=>And.intro hc (zaX hs λ hc hs=>And.intro hc (zc hs hk (λ hs hk=>hk) (λ hs hk=>(hX18 hs hk)))))))))))) (λ hs hk=>(zMY hs hk rfl rfl rfl rfl)))))) _ hs hk
def zDP (zc8:(Sl Span)) (zh5:(Sl Plane)) (zcd:(Sl Int)) (zb0:(Sl Hit)) (zb1:(Sl Int)) (zb2:(Sl Span)):Bool :=
  (zqI zc8 zh5 zcd zb0 zb1 zb2 (0:Int))
def zDQ (zc8:(Sl Span)) (zh5:(Sl Plane)) (zcd:(Sl Int)) (zb0:(Sl Hit)) (zb1:(Sl Int)) (zb2:(Sl Span)):Bool :=
  (zqJ zc8 zh5 zcd zb0 zb1 zb2 (0:Int))
theorem zM0 (hs:zDQ zc8 zh5 zcd zb0 zb1 zb2=true) (hk:K (e3 (zDP zc8 zh5 zcd zb0 zb1 zb2))) (zQX:zIE=zg enc_35 zh5) (zGD:zyz=zg enc_3 zcd) (zDR:zs7=zg zbH zb0) (zDS:zs8=zg enc_3 zb1) (zDT:zs9=zg za2 zb2):z3 K [1,1,1,1,1,1,1,1,1,1,1,1,1,1,1] [] ⟨[(4,zp 4 0),(9,zv 67),(13,zv 258),(14,zv 268),(21,zv 360),(23,zS za2 2 zc8)],[(4,.box 24 [.p (.sl zh5.len 15 zIE)]),(67,.vec 3 1 8 zcd.len zyz),(258,.vec 41 6 48 zb0.len zs7),(268,.vec 3 1 8 zb1.len zs8),(360,.vec 32 2 16 zb2.len zs9)],[]⟩:=by subst zQX;subst zGD;subst zDR;subst zDS;subst zDT;exact zaK (by kernel_rfl) (zMZ hs hk)
def znJ (zc8:(Sl Span)) (zi9:Bool) (zIC:(Sl Plane)) (zlI:(Sl Int)) (zhC:(Sl Hit)) (zhD:(Sl Int)) (zhE:(Sl Span)):Bool :=
  (cond zi9
 false
 (zDP zc8 zIC zlI zhC zhD zhE))
def znK (zc8:(Sl Span)) (zi9:Bool) (zIC:(Sl Plane)) (zlI:(Sl Int)) (zhC:(Sl Hit)) (zhD:(Sl Int)) (zhE:(Sl Span)):Bool :=
  (cond zi9
 true
 (zDQ zc8 zIC zlI zhC zhD zhE))
theorem zwv (hs:znK zc8 zi9 zIC zlI zhC zhD zhE=true) (hk:K (e3 (znJ zc8 zi9 zIC zlI zhC zhD zhE))) (zQY:zID=zg enc_35 zIC) (zGE:zyy=zg enc_3 zlI) (zDU:zs4=zg zbH zhC) (zDV:zs5=zg enc_3 zhD) (zDW:zs6=zg za2 zhE):z3 K [1,1,1,1,1,1,1,1,1,1,1,1,1,1,0,1] [] ⟨[(4,zp 4 0),(9,zv 67),(13,zv 258),(14,zv 268),(21,zv 360),(23,zS za2 2 zc8),(380,zB zi9)],[(4,.box 24 [.p (.sl zIC.len 15 zID)]),(67,.vec 3 1 8 zlI.len zyy),(258,.vec 41 6 48 zhC.len zs4),(268,.vec 3 1 8 zhD.len zs5),(360,.vec 32 2 16 zhE.len zs6)],[]⟩:=by subst zQY;subst zGE;subst zDU;subst zDV;subst zDW;exact zaK (by kernel_rfl) (zc hs hk (λ hs hk=>hk) (λ hs hk=>(zM0 hs hk rfl rfl rfl rfl rfl)))
def zww (zch:Int) (zcD:(Sl Tie)) (zc8:(Sl Span)) (zMR:Int) (zzp:(Sl Plane)) (zeo:(Sl Int)) (zeS:(Sl Hit)) (zeT:(Sl Int)) (zeU:(Sl Span)):Bool :=
  (cond (zMR != (0:Int))
 (znJ zc8 true zzp zeo zeS zeT zeU)
 (cond (!(s12 (⟨zch, zcD⟩ : Net) zeo))
 (znJ zc8 true zzp zeo zeS zeT zeU)
 (znJ zc8 ((zc8.len:Int) != (zeo.len:Int)) zzp zeo zeS zeT zeU)))
def zwx (zch:Int) (zcD:(Sl Tie)) (zc8:(Sl Span)) (zMR:Int) (zzp:(Sl Plane)) (zeo:(Sl Int)) (zeS:(Sl Hit)) (zeT:(Sl Int)) (zeU:(Sl Span)):Bool :=
  (cond (zMR != (0:Int))
 (znK zc8 true zzp zeo zeS zeT zeU)
 (decide ((p12 (⟨zch,zcD⟩:Net) zeo=true)) &&
 (cond (!(s12 (⟨zch, zcD⟩ : Net) zeo))
 (znK zc8 true zzp zeo zeS zeT zeU)
 (znK zc8 ((zc8.len:Int) != (zeo.len:Int)) zzp zeo zeS zeT zeU))))
theorem zM1 (hs:zwx zch zcD zc8 zMR zzp zeo zeS zeT zeU=true) (hk:K (e3 (zww zch zcD zc8 zMR zzp zeo zeS zeT zeU))) (zQZ:zIA=zg za2 zc8) (zQ0:zIB=zg enc_35 zzp) (zGF:zyx=zg enc_3 zeo) (zDX:zsY=zg zbH zeS) (zDY:zsZ=zg enc_3 zeT) (zDZ:zs3=zg za2 zeU):z3 K [1,1,1,1,1,1,1,1,1,1,1,1,1,1] [] ⟨[(4,zp 4 0),(9,zv 67),(13,zv 258),(14,zv 268),(19,zp 19 0),(21,zv 360),(23,zP (.sl zc8.len 2 zIA)),(24,zI zMR)],[(4,.box 24 [.p (.sl zzp.len 15 zIB)]),(19,.box 48 [zi zch,.vec 321]),(67,.vec 3 1 8 zeo.len zyx),(258,.vec 41 6 48 zeS.len zsY),(268,.vec 3 1 8 zeT.len zsZ),(321,.fvec 4 zcD.len (λ i=>zbr (zcD.get i))),(360,.vec 32 2 16 zeU.len zs3)],[]⟩:=by subst zQZ;subst zQ0;subst zGF;subst zDX;subst zDY;subst zDZ;exact zaK (by kernel_rfl) (zc hs hk (λ hs hk=>(zwv hs hk rfl rfl rfl rfl rfl)) (λ hs hk=>(zaX hs λ hc hs=>And.intro (And.intro (zE zbr 4 zcD.get) (And.intro (zE enc_3 1 zeo.get) hc)) (zc hs hk (λ hs hk=>(zwv hs hk rfl rfl rfl rfl rfl)) (λ hs hk=>(zwv hs hk rfl rfl rfl rfl rfl))))))
def znL (zch:Int) (zIy:(Sl Plane)) (zlH:(Sl Int)) (zhz:(Sl Hit)) (zhA:(Sl Int)) (zcD:(Sl Tie)) (zhB:(Sl Span)):Bool :=
  (zww zch zcD ((s11 (⟨zch,zcD⟩:Net)).1) ((s11 (⟨zch,zcD⟩:Net)).2) zIy zlH zhz zhA zhB)
def znM (zch:Int) (zIy:(Sl Plane)) (zlH:(Sl Int)) (zhz:(Sl Hit)) (zhA:(Sl Int)) (zcD:(Sl Tie)) (zhB:(Sl Span)):Bool :=
  (decide ((p11 (⟨zch,zcD⟩:Net)=true)) &&
 (zwx zch zcD ((s11 (⟨zch,zcD⟩:Net)).1) ((s11 (⟨zch,zcD⟩:Net)).2) zIy zlH zhz zhA zhB))
theorem zM2 (hs:znM zch zIy zlH zhz zhA zcD zhB=true) (hk:K (e3 (znL zch zIy zlH zhz zhA zcD zhB))) (zQ1:zIz=zg enc_35 zIy) (zGG:zyw=zg enc_3 zlH) (zD0:zsU=zg zbH zhz) (zD1:zsV=zg enc_3 zhA) (zD2:zsW=zg zbr zcD) (zD3:zsX=zg za2 zhB):z3 K [1,1,1,1,1,1,1,1,1,1,1,1,1] [] ⟨[(4,zp 4 0),(9,zv 67),(13,zv 258),(14,zv 268),(19,zp 19 0),(21,zv 360)],[(4,.box 24 [.p (.sl zIy.len 15 zIz)]),(19,.box 48 [zi zch,.vec 321]),(67,.vec 3 1 8 zlH.len zyw),(258,.vec 41 6 48 zhz.len zsU),(268,.vec 3 1 8 zhA.len zsV),(321,.vec 54 4 32 zcD.len zsW),(360,.vec 32 2 16 zhB.len zsX)],[]⟩:=by subst zQ1;subst zGG;subst zD0;subst zD1;subst zD2;subst zD3;exact zaK (by kernel_rfl) (zaX hs λ hc hs=>And.intro (And.intro (zE zbr 4 zcD.get) hc) (zM1 hs hk rfl rfl rfl rfl rfl rfl))
def zle (zch:Int) (zfB:(Sl Plane)) (zcv:(Sl Int)) (zbY:(Sl Hit)) (zbZ:(Sl Int)) (S13:Int->(Sl Tie)->(Sl Span)->Bool) (zgN:Int) (zci:(Sl Tie)) (zcj:(Sl Span)):Bool :=
  (cond (decide (zgN < (zfB.len : Int)))
 (S13 (w64 (zgN+(1:Int))) (⟨(zci.len+1),(zfU zci.len zci.get (λ _=>(⟨(0:Int),(w64 (zgN+(1:Int))),(zfB.get zgN.toNat).Clock.Low,(zfB.get zgN.toNat).Clock.High⟩:Tie)))⟩:Sl Tie) (⟨(zcj.len+1),(zfU zcj.len zcj.get (λ _=>(zfB.get zgN.toNat).Offset))⟩:Sl Span))
 (znL zch zfB zcv zbY zbZ zci zcj))
def zlf (zch:Int) (zfB:(Sl Plane)) (zcv:(Sl Int)) (zbY:(Sl Hit)) (zbZ:(Sl Int)) (P13:Int->(Sl Tie)->(Sl Span)->Bool) (zgN:Int) (zci:(Sl Tie)) (zcj:(Sl Span)):Bool :=
  (cond (decide (zgN < (zfB.len : Int)))
 (decide ((0<=zgN/\zgN < (zfB.len:Int))) &&
 (decide ((0<=zgN/\zgN < (zfB.len:Int))) &&
 (decide (((zci.len+1) * 32<=140737488355328/\zci.len+1<=9223372036854775807)) &&
 (decide ((0<=zgN/\zgN < (zfB.len:Int))) &&
 (decide (((zcj.len+1) * 16<=140737488355328/\zcj.len+1<=9223372036854775807)) &&
 (P13 (w64 (zgN+(1:Int))) (⟨(zci.len+1),(zfU zci.len zci.get (λ _=>(⟨(0:Int),(w64 (zgN+(1:Int))),(zfB.get zgN.toNat).Clock.Low,(zfB.get zgN.toNat).Clock.High⟩:Tie)))⟩:Sl Tie) (⟨(zcj.len+1),(zfU zcj.len zcj.get (λ _=>(zfB.get zgN.toNat).Offset))⟩:Sl Span)))))))
 (znM zch zfB zcv zbY zbZ zci zcj))
def zjc (zch:Int) (zfB:(Sl Plane)) (zcv:(Sl Int)) (zbY:(Sl Hit)) (zbZ:(Sl Int)):Nat->Int->(Sl Tie)->(Sl Span)->Bool:=lpO (λ _ _ _=>default) (zle zch zfB zcv zbY zbZ)
def zjd (zch:Int) (zfB:(Sl Plane)) (zcv:(Sl Int)) (zbY:(Sl Hit)) (zbZ:(Sl Int)):Nat->Int->(Sl Tie)->(Sl Span)->Bool:=lpO (λ _ _ _=>false) (zlf zch zfB zcv zbY zbZ)
def zwy (zch:Int) (zfB:(Sl Plane)) (zcv:(Sl Int)) (zbY:(Sl Hit)) (zbZ:(Sl Int)) (zgN:Int) (zci:(Sl Tie)) (zcj:(Sl Span)):Bool:=zjc zch zfB zcv zbY zbZ Fuel zgN zci zcj
def zwz (zch:Int) (zfB:(Sl Plane)) (zcv:(Sl Int)) (zbY:(Sl Hit)) (zbZ:(Sl Int)) (zgN:Int) (zci:(Sl Tie)) (zcj:(Sl Span)):Bool:=zjd zch zfB zcv zbY zbZ Fuel zgN zci zcj
theorem zM3 (hs:zwz zch zfB zcv zbY zbZ zgN zci zcj=true) (hk:K (e3 (zwy zch zfB zcv zbY zbZ zgN zci zcj))) (znN:zeK=zg zbr zci) (znO:zeL=zg za2 zcj):z3 K [1,1,1,1,1,1,1,1,1,1,1,1,0,1,0] [] (zIr zch zfB zcv zbY zbZ zgN zci zcj zeK zeL) :=
  zl (λ X=>z3 K [1,1,1,1,1,1,1,1,1,1,1,1,0,1,0,0] [X]) (by kernel_rfl) λ X13 hX =>
  (show ∀ k, zQO K zch zfB zcv zbY zbZ X13 (zjd zch zfB zcv zbY zbZ k) (zjc zch zfB zcv zbY zbZ k) from zgc _ _ (zlf zch zfB zcv zbY zbZ) (zle zch zfB zcv zbY zbZ) (zQO K zch zfB zcv zbY zbZ X13)
 (by intro _ _ _ _ _ hs;exact absurd hs dqk)
 (by intro P13 S13 hX13 zgN zci zcj zeK zeL hs hk znN znO;subst znN;subst znO;exact hX _ (zaK (by kernel_rfl) (zc hs hk (λ hs hk=>(zaX hs λ hc hs=>And.intro hc (zaX hs λ hc hs=>And.intro hc (zaX hs λ hc hs=>And.intro hc (zaX hs λ hc hs=>And.intro hc (zaX hs λ hc hs=>And.intro hc (hX13 hs hk (zlq (enc:=zbr) (f:=zci.get) (h:=(λ _=>(⟨(0:Int),(w64 (zgN+(1:Int))),(zfB.get zgN.toNat).Clock.Low,(zfB.get zgN.toNat).Clock.High⟩:Tie))) rfl rfl) (zlq (enc:=za2) (f:=zcj.get) (h:=(λ _=>(zfB.get zgN.toNat).Offset)) rfl rfl)))))))) (λ hs hk=>(zM2 hs hk rfl rfl rfl rfl rfl rfl)))))) _ hs hk znN znO
def zD4 (S5:Int->(Sl Plane)->(Sl Int)->(Sl Hit)->(Sl Int)->(Sl Pulse)->Bool) (l_a2:(Sl Flown)) (play:Int) (zdO:Int) (zdP:Int) (zdQ:Int) (zdR:Int) (zdS:Int) (zdy:Int) (zei:Int) (zej:Int) (zek:Int) (zel:Int) (zem:Int) (zdT:Int) (zMQ:Int) (ztz:(Sl Plane)) (zgi:Int) (zgj:Int) (zeX:Int) (zen:Int) (zsO:Int) (zsP:Int) (zlG:(Sl Int)) (zdU:(Sl Hit)) (zdV:(Sl Int)) (zdW:(Sl Pulse)):Bool :=
  (S5 (w64 (zMQ+(1:Int))) ztz zlG (⟨(zdU.len+2),(zfU zdU.len zdU.get (zlh (⟨zdO,zdP,zdQ,zdR,zdS,zdy⟩:Hit) [(⟨zdO,zdP,zdQ,zdR,zdS,zdy⟩:Hit),(⟨zei,zej,zek,zel,zem,zdT⟩:Hit)]))⟩:Sl Hit) (⟨(zdV.len+2),(zfU zdV.len zdV.get (zlh zeX [zeX,(w64 (zeX+zen))]))⟩:Sl Int) (⟨(zdW.len+1),(zfU zdW.len zdW.get (λ _=>(⟨(w64 (zgi+(1:Int))),(w64 (zgj+(1:Int))),zdy,zdT,(⟨(if (w64 (zen - play)) > (0:Int) then (w64 (zen - play)) else (0:Int)),(w64 (zen+play))⟩:Span),(w64 ((ztz.get zgi.toNat).Jitter+(ztz.get zgj.toNat).Jitter))⟩:Pulse)))⟩:Sl Pulse))
def zD5 (P5:Int->(Sl Plane)->(Sl Int)->(Sl Hit)->(Sl Int)->(Sl Pulse)->Bool) (l_a2:(Sl Flown)) (play:Int) (zdO:Int) (zdP:Int) (zdQ:Int) (zdR:Int) (zdS:Int) (zdy:Int) (zei:Int) (zej:Int) (zek:Int) (zel:Int) (zem:Int) (zdT:Int) (zMQ:Int) (ztz:(Sl Plane)) (zgi:Int) (zgj:Int) (zeX:Int) (zen:Int) (zsO:Int) (zsP:Int) (zlG:(Sl Int)) (zdU:(Sl Hit)) (zdV:(Sl Int)) (zdW:(Sl Pulse)):Bool :=
  (decide (((zdU.len+2) * 48<=140737488355328/\zdU.len+2<=9223372036854775807)) &&
 (decide (((zdV.len+2) * 8<=140737488355328/\zdV.len+2<=9223372036854775807)) &&
 (decide ((0<=zgi/\zgi < (ztz.len:Int))) &&
 (decide ((0<=zgj/\zgj < (ztz.len:Int))) &&
 (decide (((zdW.len+1) * 56<=140737488355328/\zdW.len+1<=9223372036854775807)) &&
 (P5 (w64 (zMQ+(1:Int))) ztz zlG (⟨(zdU.len+2),(zfU zdU.len zdU.get (zlh (⟨zdO,zdP,zdQ,zdR,zdS,zdy⟩:Hit) [(⟨zdO,zdP,zdQ,zdR,zdS,zdy⟩:Hit),(⟨zei,zej,zek,zel,zem,zdT⟩:Hit)]))⟩:Sl Hit) (⟨(zdV.len+2),(zfU zdV.len zdV.get (zlh zeX [zeX,(w64 (zeX+zen))]))⟩:Sl Int) (⟨(zdW.len+1),(zfU zdW.len zdW.get (λ _=>(⟨(w64 (zgi+(1:Int))),(w64 (zgj+(1:Int))),zdy,zdT,(⟨(if (w64 (zen - play)) > (0:Int) then (w64 (zen - play)) else (0:Int)),(w64 (zen+play))⟩:Span),(w64 ((ztz.get zgi.toNat).Jitter+(ztz.get zgj.toNat).Jitter))⟩:Pulse)))⟩:Sl Pulse)))))))
theorem zM4 (hX5:zNL K l_a2 play X5 P5 S5) (hs:zD5 P5 l_a2 play zdO zdP zdQ zdR zdS zdy zei zej zek zel zem zdT zMQ ztz zgi zgj zeX zen zsO zsP zlG zdU zdV zdW=true) (hk:K (e3 (zD4 S5 l_a2 play zdO zdP zdQ zdR zdS zdy zei zej zek zel zem zdT zMQ ztz zgi zgj zeX zen zsO zsP zlG zdU zdV zdW))) (zQ2:zIx=zg enc_35 ztz) (zGH:zyv=zg enc_3 zlG) (zD6:zsQ=zg zbH zdU) (zD7:zsR=zg enc_3 zdV) (zD8:zsS=zg zdL zdW):z3 K [1,1,1,1,1,1,1,0,1,0,0,1,0,0,1,1,1,1] [X5] ⟨[(2,zS enc_39 6 l_a2),(3,zI play),(4,zp 4 0),(9,zv 67),(12,zv 307),(13,zv 258),(14,zv 268),(15,zI zMQ),(16,zp 16 0),(17,zp 17 0),(18,zp 18 0)],[(4,.box 24 [.p (.sl ztz.len 15 zIx)]),(16,.box 39 (zm (enc_39 (⟨zgi,zgj,zeX,zen,zsO,zsP⟩:Flown)))),(17,.box 41 (zm (zbH (⟨zdO,zdP,zdQ,zdR,zdS,zdy⟩:Hit)))),(18,.box 41 (zm (zbH (⟨zei,zej,zek,zel,zem,zdT⟩:Hit)))),(67,.vec 3 1 8 zlG.len zyv),(258,.vec 41 6 48 zdU.len zsQ),(268,.vec 3 1 8 zdV.len zsR),(307,.vec 45 7 56 zdW.len zsS)],[]⟩:=by subst zQ2;subst zGH;subst zD6;subst zD7;subst zD8;exact zaK (by kernel_rfl) (zaX hs λ hc hs=>And.intro hc (zaX hs λ hc hs=>And.intro hc (zaX hs λ hc hs=>And.intro hc (zaX hs λ hc hs=>And.intro hc (zaX hs λ hc hs=>And.intro hc (hX5 hs hk rfl rfl (zlq (enc:=zbH) (f:=zdU.get) (h:=(zlh (⟨zdO,zdP,zdQ,zdR,zdS,zdy⟩:Hit) [(⟨zdO,zdP,zdQ,zdR,zdS,zdy⟩:Hit),(⟨zei,zej,zek,zel,zem,zdT⟩:Hit)])) rfl (zlY (enc:=zbH) (x:=(⟨zdO,zdP,zdQ,zdR,zdS,zdy⟩:Hit)) (y:=(⟨zei,zej,zek,zel,zem,zdT⟩:Hit)) (r:=[]))) (zlq (enc:=enc_3) (f:=zdV.get) (h:=(zlh zeX [zeX,(w64 (zeX+zen))])) rfl (zlY (enc:=enc_3) (x:=zeX) (y:=(w64 (zeX+zen))) (r:=[]))) (zlq (enc:=zdL) (f:=zdW.get) (h:=(λ _=>(⟨(w64 (zgi+(1:Int))),(w64 (zgj+(1:Int))),zdy,zdT,(⟨(if (w64 (zen - play)) > (0:Int) then (w64 (zen - play)) else (0:Int)),(w64 (zen+play))⟩:Span),(w64 ((ztz.get zgi.toNat).Jitter+(ztz.get zgj.toNat).Jitter))⟩:Pulse))) rfl rfl)))))))
def znP (zch:Int) (zhv:(Sl Tie)) (zfB:(Sl Plane)) (zcv:(Sl Int)) (zbY:(Sl Hit)) (zbZ:(Sl Int)):Bool :=
  (zwy zch zfB zcv zbY zbZ (0:Int) zhv (⟨0,(λ _=>default)⟩:Sl Span))
def znQ (zch:Int) (zhv:(Sl Tie)) (zfB:(Sl Plane)) (zcv:(Sl Int)) (zbY:(Sl Hit)) (zbZ:(Sl Int)):Bool :=
  (decide ((zhv.len * 32<=140737488355328/\zhv.len<=9223372036854775807)) &&
 (zwz zch zfB zcv zbY zbZ (0:Int) zhv (⟨0,(λ _=>default)⟩:Sl Span)))
theorem zM5 (hs:znQ zch zhv zfB zcv zbY zbZ=true) (hk:K (e3 (znP zch zhv zfB zcv zbY zbZ))) (zQ3:zIw=zg enc_35 zfB) (zGI:zyu=zg enc_3 zcv) (zD9:zsM=zg zbH zbY) (zEa:zsN=zg enc_3 zbZ):z3 K [1,1,1,1,1,1,1,1,1,1] [] ⟨[(4,zp 4 0),(9,zv 67),(13,zv 258),(14,zv 268),(19,zp 19 0)],[(4,.box 24 [.p (.sl zfB.len 15 zIw)]),(19,.box 48 (zm (zdk (⟨zch,zhv⟩:Net)))),(67,.vec 3 1 8 zcv.len zyu),(258,.vec 41 6 48 zbY.len zsM),(268,.vec 3 1 8 zbZ.len zsN)],[]⟩:=by subst zQ3;subst zGI;subst zD9;subst zEa;exact zaK (by kernel_rfl) (zaX hs λ hc hs=>And.intro hc (zM3 hs hk rfl rfl))
def zwA (S5:Int->(Sl Plane)->(Sl Int)->(Sl Hit)->(Sl Int)->(Sl Pulse)->Bool) (l_a2:(Sl Flown)) (play:Int) (zdO:Int) (zdP:Int) (zdQ:Int) (zdR:Int) (zdS:Int) (zdy:Int) (zei:Int) (zej:Int) (zek:Int) (zel:Int) (zem:Int) (zdT:Int) (zuZ:Int) (zi8:Bool) (zIu:(Sl Plane)) (znv:Int) (znw:Int) (znx:Int) (zny:Int) (znz:Int) (znA:Int) (zlF:(Sl Int)) (zhw:(Sl Hit)) (zhx:(Sl Int)) (zhy:(Sl Pulse)):Bool :=
  (cond zi8
 true
 (zD4 S5 l_a2 play zdO zdP zdQ zdR zdS zdy zei zej zek zel zem zdT zuZ zIu znv znw znx zny znz znA zlF zhw zhx zhy))
def zwB (P5:Int->(Sl Plane)->(Sl Int)->(Sl Hit)->(Sl Int)->(Sl Pulse)->Bool) (l_a2:(Sl Flown)) (play:Int) (zdO:Int) (zdP:Int) (zdQ:Int) (zdR:Int) (zdS:Int) (zdy:Int) (zei:Int) (zej:Int) (zek:Int) (zel:Int) (zem:Int) (zdT:Int) (zuZ:Int) (zi8:Bool) (zIu:(Sl Plane)) (znv:Int) (znw:Int) (znx:Int) (zny:Int) (znz:Int) (znA:Int) (zlF:(Sl Int)) (zhw:(Sl Hit)) (zhx:(Sl Int)) (zhy:(Sl Pulse)):Bool :=
  (cond zi8
 true
 (zD5 P5 l_a2 play zdO zdP zdQ zdR zdS zdy zei zej zek zel zem zdT zuZ zIu znv znw znx zny znz znA zlF zhw zhx zhy))
theorem zEb (hX5:zNL K l_a2 play X5 P5 S5) (hs:zwB P5 l_a2 play zdO zdP zdQ zdR zdS zdy zei zej zek zel zem zdT zuZ zi8 zIu znv znw znx zny znz znA zlF zhw zhx zhy=true) (hk:K (e3 (zwA S5 l_a2 play zdO zdP zdQ zdR zdS zdy zei zej zek zel zem zdT zuZ zi8 zIu znv znw znx zny znz znA zlF zhw zhx zhy))) (zQ4:zIv=zg enc_35 zIu) (zGJ:zyt=zg enc_3 zlF) (zEc:zsJ=zg zbH zhw) (zEd:zsK=zg enc_3 zhx) (zEe:zsL=zg zdL zhy):z3 K [1,1,1,1,1,1,1,0,1,0,0,1,0,0,1,1,1,0,1] [X5] ⟨[(2,zS enc_39 6 l_a2),(3,zI play),(4,zp 4 0),(9,zv 67),(12,zv 307),(13,zv 258),(14,zv 268),(15,zI zuZ),(16,zp 16 0),(17,zp 17 0),(18,zp 18 0),(252,zB zi8)],[(4,.box 24 [.p (.sl zIu.len 15 zIv)]),(16,.box 39 (zm (enc_39 (⟨znv,znw,znx,zny,znz,znA⟩:Flown)))),(17,.box 41 (zm (zbH (⟨zdO,zdP,zdQ,zdR,zdS,zdy⟩:Hit)))),(18,.box 41 (zm (zbH (⟨zei,zej,zek,zel,zem,zdT⟩:Hit)))),(67,.vec 3 1 8 zlF.len zyt),(258,.vec 41 6 48 zhw.len zsJ),(268,.vec 3 1 8 zhx.len zsK),(307,.vec 45 7 56 zhy.len zsL)],[]⟩:=by subst zQ4;subst zGJ;subst zEc;subst zEd;subst zEe;exact zaK (by kernel_rfl) (zc hs hk (λ hs hk=>hk) (λ hs hk=>(zM4 hX5 hs hk rfl rfl rfl rfl rfl)))
def zEf (ev9:Int) (sv9:(Sl Plane)) (zch:Int) (zhv:(Sl Tie)) (zsI:(Sl Int)) (zlD:(Sl Hit)) (zlE:(Sl Int)):Bool :=
  (cond (ev9 != (0:Int))
 false
 (znP zch zhv sv9 zsI zlD zlE))
def zEg (ev9:Int) (sv9:(Sl Plane)) (zch:Int) (zhv:(Sl Tie)) (zsI:(Sl Int)) (zlD:(Sl Hit)) (zlE:(Sl Int)):Bool :=
  (cond (ev9 != (0:Int))
 true
 (znQ zch zhv sv9 zsI zlD zlE))
theorem zQ5 (hs:zEg ev9 sv9 zch zhv zsI zlD zlE=true) (hk:K (e3 (zEf ev9 sv9 zch zhv zsI zlD zlE))) (zUe:zQU=zg enc_35 sv9) (zM6:zDE=zg zbr zhv) (zM7:zDF=zg enc_3 zsI) (zGK:zyr=zg zbH zlD) (zGL:zys=zg enc_3 zlE):z3 K [1,1,1,1,1,1,1,1,1] [] ⟨[(4,zp 4 0),(9,zv 67),(13,zv 258),(14,zv 268),(19,zp 19 0),(20,zI ev9)],[(4,.box 24 [.p (.sl sv9.len 15 zQU)]),(19,.box 48 [zi zch,.p (.sl zhv.len 4 zDE)]),(67,.vec 3 1 8 zsI.len zDF),(258,.vec 41 6 48 zlD.len zyr),(268,.vec 3 1 8 zlE.len zys)],[]⟩:=by subst zUe;subst zM6;subst zM7;subst zGK;subst zGL;exact zaK (by kernel_rfl) (zc hs hk (λ hs hk=>hk) (λ hs hk=>(zM5 hs hk rfl rfl rfl rfl)))
def zIH (S5:Int->(Sl Plane)->(Sl Int)->(Sl Hit)->(Sl Int)->(Sl Pulse)->Bool) (l_a2:(Sl Flown)) (play:Int) (iv8:Int) (sv8:(Sl Plane)) (zqC:Int) (zqD:Int) (zqE:Int) (zqF:Int) (zqG:Int) (zqH:Int) (zdO:Int) (zdP:Int) (zdQ:Int) (zdR:Int) (zdS:Int) (zdy:Int) (zei:Int) (zej:Int) (zek:Int) (zel:Int) (zem:Int) (zdT:Int) (zn8:(Sl Int)) (zie:(Sl Hit)) (zif:(Sl Int)) (zih:(Sl Pulse)):Bool :=
  (cond (!(s9 (⟨sv8⟩ : Setup) (⟨zdO, zdP, zdQ, zdR, zdS, zdy⟩ : Hit)))
 (zwA S5 l_a2 play zdO zdP zdQ zdR zdS zdy zei zej zek zel zem zdT iv8 true sv8 zqC zqD zqE zqF zqG zqH zn8 zie zif zih)
 (zwA S5 l_a2 play zdO zdP zdQ zdR zdS zdy zei zej zek zel zem zdT iv8 (!(s9 (⟨sv8⟩:Setup) (⟨zei,zej,zek,zel,zem,zdT⟩:Hit))) sv8 zqC zqD zqE zqF zqG zqH zn8 zie zif zih))
def zII (P5:Int->(Sl Plane)->(Sl Int)->(Sl Hit)->(Sl Int)->(Sl Pulse)->Bool) (l_a2:(Sl Flown)) (play:Int) (iv8:Int) (sv8:(Sl Plane)) (zqC:Int) (zqD:Int) (zqE:Int) (zqF:Int) (zqG:Int) (zqH:Int) (zdO:Int) (zdP:Int) (zdQ:Int) (zdR:Int) (zdS:Int) (zdy:Int) (zei:Int) (zej:Int) (zek:Int) (zel:Int) (zem:Int) (zdT:Int) (zn8:(Sl Int)) (zie:(Sl Hit)) (zif:(Sl Int)) (zih:(Sl Pulse)):Bool :=
  (decide ((p9 (⟨sv8⟩:Setup) (⟨zdO,zdP,zdQ,zdR,zdS,zdy⟩:Hit)=true)) &&
 (cond (!(s9 (⟨sv8⟩ : Setup) (⟨zdO, zdP, zdQ, zdR, zdS, zdy⟩ : Hit)))
 (zwB P5 l_a2 play zdO zdP zdQ zdR zdS zdy zei zej zek zel zem zdT iv8 true sv8 zqC zqD zqE zqF zqG zqH zn8 zie zif zih)
 (decide ((p9 (⟨sv8⟩:Setup) (⟨zei,zej,zek,zel,zem,zdT⟩:Hit)=true)) &&
 (zwB P5 l_a2 play zdO zdP zdQ zdR zdS zdy zei zej zek zel zem zdT iv8 (!(s9 (⟨sv8⟩:Setup) (⟨zei,zej,zek,zel,zem,zdT⟩:Hit))) sv8 zqC zqD zqE zqF zqG zqH zn8 zie zif zih))))
theorem zQ6 (hX5:zNL K l_a2 play X5 P5 S5) (hs:zII P5 l_a2 play iv8 sv8 zqC zqD zqE zqF zqG zqH zdO zdP zdQ zdR zdS zdy zei zej zek zel zem zdT zn8 zie zif zih=true) (hk:K (e3 (zIH S5 l_a2 play iv8 sv8 zqC zqD zqE zqF zqG zqH zdO zdP zdQ zdR zdS zdy zei zej zek zel zem zdT zn8 zie zif zih))) (zUf:zQT=zg enc_35 sv8) (zM8:zDD=zg enc_3 zn8) (zGM:zyo=zg zbH zie) (zGN:zyp=zg enc_3 zif) (zGO:zyq=zg zdL zih):z3 K [1,1,1,1,1,1,1,0,1,0,0,1,0,0,1,1,1] [X5] ⟨[(2,zS enc_39 6 l_a2),(3,zI play),(4,zp 4 0),(9,zv 67),(12,zv 307),(13,zv 258),(14,zv 268),(15,zI iv8),(16,zp 16 0),(17,zp 17 0),(18,zp 18 0)],[(4,.box 24 [.p (.sl sv8.len 15 zQT)]),(16,.box 39 (zm (enc_39 (⟨zqC,zqD,zqE,zqF,zqG,zqH⟩:Flown)))),(17,.box 41 (zm (zbH (⟨zdO,zdP,zdQ,zdR,zdS,zdy⟩:Hit)))),(18,.box 41 (zm (zbH (⟨zei,zej,zek,zel,zem,zdT⟩:Hit)))),(67,.vec 3 1 8 zn8.len zDD),(258,.vec 41 6 48 zie.len zyo),(268,.vec 3 1 8 zif.len zyp),(307,.vec 45 7 56 zih.len zyq)],[]⟩:=by subst zUf;subst zM8;subst zGM;subst zGN;subst zGO;exact zaK (by kernel_rfl) (zaX hs λ hc hs=>And.intro (And.intro (zE enc_35 15 sv8.get) hc) (zc hs hk (λ hs hk=>(zEb hX5 hs hk rfl rfl rfl rfl rfl)) (λ hs hk=>(zaX hs λ hc hs=>And.intro (And.intro (zE enc_35 15 sv8.get) hc) (zEb hX5 hs hk rfl rfl rfl rfl rfl)))))
def ztk (sv7:(Sl Plane)) (zsH:(Sl Int)) (zlB:(Sl Hit)) (zlC:(Sl Int)) (zfQ:(Sl Pulse)):Bool :=
  (zEf ((s10 (w64 ((sv7.len:Int)+(1:Int))) zfQ).2) sv7 (((s10 (w64 ((sv7.len:Int)+(1:Int))) zfQ).1).Nodes) (((s10 (w64 ((sv7.len:Int)+(1:Int))) zfQ).1).Ties) zsH zlB zlC)
def ztl (sv7:(Sl Plane)) (zsH:(Sl Int)) (zlB:(Sl Hit)) (zlC:(Sl Int)) (zfQ:(Sl Pulse)):Bool :=
  (decide ((p10 (w64 ((sv7.len:Int)+(1:Int))) zfQ=true)) &&
 (zEg ((s10 (w64 ((sv7.len:Int)+(1:Int))) zfQ).2) sv7 (((s10 (w64 ((sv7.len:Int)+(1:Int))) zfQ).1).Nodes) (((s10 (w64 ((sv7.len:Int)+(1:Int))) zfQ).1).Ties) zsH zlB zlC))
theorem zQ7 (hs:ztl sv7 zsH zlB zlC zfQ=true) (hk:K (e3 (ztk sv7 zsH zlB zlC zfQ))) (zUg:zQS=zg enc_35 sv7) (zM9:zDC=zg enc_3 zsH) (zGP:zyl=zg zbH zlB) (zGQ:zym=zg enc_3 zlC) (zGR:zyn=zg zdL zfQ):z3 K [1,1,1,1,1,1,1,1] [] ⟨[(4,zp 4 0),(9,zv 67),(12,zv 307),(13,zv 258),(14,zv 268)],[(4,.box 24 [.p (.sl sv7.len 15 zQS)]),(67,.vec 3 1 8 zsH.len zDC),(258,.vec 41 6 48 zlB.len zyl),(268,.vec 3 1 8 zlC.len zym),(307,.vec 45 7 56 zfQ.len zyn)],[]⟩:=by subst zUg;subst zM9;subst zGP;subst zGQ;subst zGR;exact zaK (by kernel_rfl) (zaX hs λ hc hs=>And.intro (And.intro (zE zdL 7 zfQ.get) hc) (zQ5 hs hk rfl rfl rfl rfl rfl))
def zyA (S5:Int->(Sl Plane)->(Sl Int)->(Sl Hit)->(Sl Int)->(Sl Pulse)->Bool) (l_a2:(Sl Flown)) (play:Int) (iv6:Int) (sv6:(Sl Plane)) (zdl:Int) (zdm:Int) (zdH:Int) (zgf:Int) (zgg:Int) (zgh:Int) (zdg:(Sl Int)) (zly:(Sl Hit)) (zlz:(Sl Int)) (zlA:(Sl Pulse)):Bool :=
  (zIH S5 l_a2 play iv6 sv6 zdl zdm zdH zgf zgg zgh ((s8 (⟨sv6⟩:Setup) zdl zdH (zdg.get ((w64 (zdl+(1:Int))).toNat)) zgg).Plane) ((s8 (⟨sv6⟩:Setup) zdl zdH (zdg.get ((w64 (zdl+(1:Int))).toNat)) zgg).Channel) ((s8 (⟨sv6⟩:Setup) zdl zdH (zdg.get ((w64 (zdl+(1:Int))).toNat)) zgg).Many) ((s8 (⟨sv6⟩:Setup) zdl zdH (zdg.get ((w64 (zdl+(1:Int))).toNat)) zgg).Drift) ((s8 (⟨sv6⟩:Setup) zdl zdH (zdg.get ((w64 (zdl+(1:Int))).toNat)) zgg).Charge) ((s8 (⟨sv6⟩:Setup) zdl zdH (zdg.get ((w64 (zdl+(1:Int))).toNat)) zgg).Time) ((s8 (⟨sv6⟩:Setup) zdm (w64 (zdH+zgf)) (zdg.get ((w64 (zdm+(1:Int))).toNat)) zgh).Plane) ((s8 (⟨sv6⟩:Setup) zdm (w64 (zdH+zgf)) (zdg.get ((w64 (zdm+(1:Int))).toNat)) zgh).Channel) ((s8 (⟨sv6⟩:Setup) zdm (w64 (zdH+zgf)) (zdg.get ((w64 (zdm+(1:Int))).toNat)) zgh).Many) ((s8 (⟨sv6⟩:Setup) zdm (w64 (zdH+zgf)) (zdg.get ((w64 (zdm+(1:Int))).toNat)) zgh).Drift) ((s8 (⟨sv6⟩:Setup) zdm (w64 (zdH+zgf)) (zdg.get ((w64 (zdm+(1:Int))).toNat)) zgh).Charge) ((s8 (⟨sv6⟩:Setup) zdm (w64 (zdH+zgf)) (zdg.get ((w64 (zdm+(1:Int))).toNat)) zgh).Time) zdg zly zlz zlA)
def zyB (P5:Int->(Sl Plane)->(Sl Int)->(Sl Hit)->(Sl Int)->(Sl Pulse)->Bool) (l_a2:(Sl Flown)) (play:Int) (iv6:Int) (sv6:(Sl Plane)) (zdl:Int) (zdm:Int) (zdH:Int) (zgf:Int) (zgg:Int) (zgh:Int) (zdg:(Sl Int)) (zly:(Sl Hit)) (zlz:(Sl Int)) (zlA:(Sl Pulse)):Bool :=
  (decide ((0<=(w64 (zdl+(1:Int)))/\(w64 (zdl+(1:Int))) < (zdg.len:Int))) &&
 (decide (((w64 (zdl+(1:Int))).toNat < zdg.len)) &&
 (decide ((p8 (⟨sv6⟩:Setup) zdl zdH (zdg.get ((w64 (zdl+(1:Int))).toNat)) zgg=true)) &&
 (decide ((0<=(w64 (zdm+(1:Int)))/\(w64 (zdm+(1:Int))) < (zdg.len:Int))) &&
 (decide (((w64 (zdm+(1:Int))).toNat < zdg.len)) &&
 (decide ((p8 (⟨sv6⟩:Setup) zdm (w64 (zdH+zgf)) (zdg.get ((w64 (zdm+(1:Int))).toNat)) zgh=true)) &&
 (zII P5 l_a2 play iv6 sv6 zdl zdm zdH zgf zgg zgh ((s8 (⟨sv6⟩:Setup) zdl zdH (zdg.get ((w64 (zdl+(1:Int))).toNat)) zgg).Plane) ((s8 (⟨sv6⟩:Setup) zdl zdH (zdg.get ((w64 (zdl+(1:Int))).toNat)) zgg).Channel) ((s8 (⟨sv6⟩:Setup) zdl zdH (zdg.get ((w64 (zdl+(1:Int))).toNat)) zgg).Many) ((s8 (⟨sv6⟩:Setup) zdl zdH (zdg.get ((w64 (zdl+(1:Int))).toNat)) zgg).Drift) ((s8 (⟨sv6⟩:Setup) zdl zdH (zdg.get ((w64 (zdl+(1:Int))).toNat)) zgg).Charge) ((s8 (⟨sv6⟩:Setup) zdl zdH (zdg.get ((w64 (zdl+(1:Int))).toNat)) zgg).Time) ((s8 (⟨sv6⟩:Setup) zdm (w64 (zdH+zgf)) (zdg.get ((w64 (zdm+(1:Int))).toNat)) zgh).Plane) ((s8 (⟨sv6⟩:Setup) zdm (w64 (zdH+zgf)) (zdg.get ((w64 (zdm+(1:Int))).toNat)) zgh).Channel) ((s8 (⟨sv6⟩:Setup) zdm (w64 (zdH+zgf)) (zdg.get ((w64 (zdm+(1:Int))).toNat)) zgh).Many) ((s8 (⟨sv6⟩:Setup) zdm (w64 (zdH+zgf)) (zdg.get ((w64 (zdm+(1:Int))).toNat)) zgh).Drift) ((s8 (⟨sv6⟩:Setup) zdm (w64 (zdH+zgf)) (zdg.get ((w64 (zdm+(1:Int))).toNat)) zgh).Charge) ((s8 (⟨sv6⟩:Setup) zdm (w64 (zdH+zgf)) (zdg.get ((w64 (zdm+(1:Int))).toNat)) zgh).Time) zdg zly zlz zlA)))))))
theorem zQ8 (hX5:zNL K l_a2 play X5 P5 S5) (hs:zyB P5 l_a2 play iv6 sv6 zdl zdm zdH zgf zgg zgh zdg zly zlz zlA=true) (hk:K (e3 (zyA S5 l_a2 play iv6 sv6 zdl zdm zdH zgf zgg zgh zdg zly zlz zlA))) (zUh:zQR=zg enc_35 sv6) (zNa:zDB=zg enc_3 zdg) (zGS:zyi=zg zbH zly) (zGT:zyj=zg enc_3 zlz) (zGU:zyk=zg zdL zlA):z3 K [1,1,1,1,1,1,1,0,1,0,0,1,0,0,1,1] [X5] ⟨[(2,zS enc_39 6 l_a2),(3,zI play),(4,zp 4 0),(9,zv 67),(12,zv 307),(13,zv 258),(14,zv 268),(15,zI iv6),(16,zp 16 0)],[(4,.box 24 [.p (.sl sv6.len 15 zQR)]),(16,.box 39 (zm (enc_39 (⟨zdl,zdm,zdH,zgf,zgg,zgh⟩:Flown)))),(67,.vec 3 1 8 zdg.len zDB),(258,.vec 41 6 48 zly.len zyi),(268,.vec 3 1 8 zlz.len zyj),(307,.vec 45 7 56 zlA.len zyk)],[]⟩:=by subst zUh;subst zNa;subst zGS;subst zGT;subst zGU;exact zaK (by kernel_rfl) (zaX hs λ hc hs=>And.intro hc (zaX hs λ hc hs=>And.intro hc (zaX hs λ hc hs=>And.intro (And.intro (zE enc_35 15 sv6.get) hc) (zaX hs λ hc hs=>And.intro hc (zaX hs λ hc hs=>And.intro hc (zaX hs λ hc hs=>And.intro (And.intro (zE enc_35 15 sv6.get) hc) (zQ6 hX5 hs hk rfl rfl rfl rfl rfl)))))))
def zoL (l_a2:(Sl Flown)) (play:Int) (S5:Int->(Sl Plane)->(Sl Int)->(Sl Hit)->(Sl Int)->(Sl Pulse)->Bool) (iv5:Int) (sv5:(Sl Plane)) (zfE:(Sl Int)) (zdA:(Sl Hit)) (zdB:(Sl Int)) (zdC:(Sl Pulse)):Bool :=
  (cond (decide (iv5 < (l_a2.len : Int)))
 (cond (decide ((l_a2.get iv5.toNat).A < (0:Int)))
 true
 (cond (decide ((l_a2.get iv5.toNat).A >= (sv5.len : Int)))
 true
 (cond (decide ((l_a2.get iv5.toNat).B < (0:Int)))
 true
 (cond (decide ((l_a2.get iv5.toNat).B >= (sv5.len : Int)))
 true
 (cond ((l_a2.get iv5.toNat).A == (l_a2.get iv5.toNat).B)
 true
 (cond (decide ((l_a2.get iv5.toNat).Time < (-1000000:Int)))
 true
 (cond (decide ((l_a2.get iv5.toNat).Time > (1000000:Int)))
 true
 (cond (decide ((l_a2.get iv5.toNat).Flight < (0:Int)))
 true
 (cond (decide ((l_a2.get iv5.toNat).Flight > (1000000:Int)))
 true
 (cond (decide ((l_a2.get iv5.toNat).WrongA < (-100:Int)))
 true
 (cond (decide ((l_a2.get iv5.toNat).WrongA > (100:Int)))
 true
 (cond (decide ((l_a2.get iv5.toNat).WrongB < (-100:Int)))
 true
 (cond (decide ((l_a2.get iv5.toNat).WrongB > (100:Int)))
 true
 (zyA S5 l_a2 play iv5 sv5 ((l_a2.get iv5.toNat).A) ((l_a2.get iv5.toNat).B) ((l_a2.get iv5.toNat).Time) ((l_a2.get iv5.toNat).Flight) ((l_a2.get iv5.toNat).WrongA) ((l_a2.get iv5.toNat).WrongB) zfE zdA zdB zdC))))))))))))))
 (ztk sv5 zfE zdA zdB zdC))
def zoM (l_a2:(Sl Flown)) (play:Int) (P5:Int->(Sl Plane)->(Sl Int)->(Sl Hit)->(Sl Int)->(Sl Pulse)->Bool) (iv5:Int) (sv5:(Sl Plane)) (zfE:(Sl Int)) (zdA:(Sl Hit)) (zdB:(Sl Int)) (zdC:(Sl Pulse)):Bool :=
  (cond (decide (iv5 < (l_a2.len : Int)))
 (decide ((0<=iv5/\iv5 < (l_a2.len:Int))) &&
 (cond (decide ((l_a2.get iv5.toNat).A < (0:Int)))
 true
 (cond (decide ((l_a2.get iv5.toNat).A >= (sv5.len : Int)))
 true
 (cond (decide ((l_a2.get iv5.toNat).B < (0:Int)))
 true
 (cond (decide ((l_a2.get iv5.toNat).B >= (sv5.len : Int)))
 true
 (cond ((l_a2.get iv5.toNat).A == (l_a2.get iv5.toNat).B)
 true
 (cond (decide ((l_a2.get iv5.toNat).Time < (-1000000:Int)))
 true
 (cond (decide ((l_a2.get iv5.toNat).Time > (1000000:Int)))
 true
 (cond (decide ((l_a2.get iv5.toNat).Flight < (0:Int)))
 true
 (cond (decide ((l_a2.get iv5.toNat).Flight > (1000000:Int)))
 true
 (cond (decide ((l_a2.get iv5.toNat).WrongA < (-100:Int)))
 true
 (cond (decide ((l_a2.get iv5.toNat).WrongA > (100:Int)))
 true
 (cond (decide ((l_a2.get iv5.toNat).WrongB < (-100:Int)))
 true
 (cond (decide ((l_a2.get iv5.toNat).WrongB > (100:Int)))
 true
 (zyB P5 l_a2 play iv5 sv5 ((l_a2.get iv5.toNat).A) ((l_a2.get iv5.toNat).B) ((l_a2.get iv5.toNat).Time) ((l_a2.get iv5.toNat).Flight) ((l_a2.get iv5.toNat).WrongA) ((l_a2.get iv5.toNat).WrongB) zfE zdA zdB zdC)))))))))))))))
 (ztl sv5 zfE zdA zdB zdC))
def znR (l_a2:(Sl Flown)) (play:Int):Nat->Int->(Sl Plane)->(Sl Int)->(Sl Hit)->(Sl Int)->(Sl Pulse)->Bool:=lpO (λ _ _ _ _ _ _=>default) (zoL l_a2 play)
def znS (l_a2:(Sl Flown)) (play:Int):Nat->Int->(Sl Plane)->(Sl Int)->(Sl Hit)->(Sl Int)->(Sl Pulse)->Bool:=lpO (λ _ _ _ _ _ _=>false) (zoM l_a2 play)
def zEh (l_a2:(Sl Flown)) (play:Int) (iv5:Int) (sv5:(Sl Plane)) (zfE:(Sl Int)) (zdA:(Sl Hit)) (zdB:(Sl Int)) (zdC:(Sl Pulse)):Bool:=znR l_a2 play Fuel iv5 sv5 zfE zdA zdB zdC
def zEi (l_a2:(Sl Flown)) (play:Int) (iv5:Int) (sv5:(Sl Plane)) (zfE:(Sl Int)) (zdA:(Sl Hit)) (zdB:(Sl Int)) (zdC:(Sl Pulse)):Bool:=znS l_a2 play Fuel iv5 sv5 zfE zdA zdB zdC
theorem zQ9 (hs:zEi l_a2 play iv5 sv5 zfE zdA zdB zdC=true) (hk:K (e3 (zEh l_a2 play iv5 sv5 zfE zdA zdB zdC))) (zNb:zsE=zg enc_35 sv5) (zwC:zhu=zg enc_3 zfE) (zqK:zfN=zg zbH zdA) (zqL:zfO=zg enc_3 zdB) (zqM:zfP=zg zdL zdC):z3 K [1,1,1,1,1,1,1,0,1,0] [] (zQN l_a2 play iv5 sv5 zfE zdA zdB zdC zsE zhu zfN zfO zfP) :=
  zl (λ X=>z3 K [1,1,1,1,1,1,1,0,1,0,0] [X]) (by kernel_rfl) λ X5 hX =>
  (show ∀ k, zNL K l_a2 play X5 (znS l_a2 play k) (znR l_a2 play k) from zgc _ _ (zoM l_a2 play) (zoL l_a2 play) (zNL K l_a2 play X5)
 (by intro _ _ _ _ _ _ _ _ _ _ _ hs;exact absurd hs dqk)
 (by intro P5 S5 hX5 iv5 sv5 zfE zdA zdB zdC zsE zhu zfN zfO zfP hs hk zNb zwC zqK zqL zqM;subst zNb;subst zwC;subst zqK;subst zqL;subst zqM;exact hX _ (zaK (by kernel_rfl) (zc hs hk (λ hs hk=>(zaX hs λ hc hs=>And.intro hc (zc hs hk (λ hs hk=>hk) (λ hs hk=>(zc hs hk (λ hs hk=>hk) (λ hs hk=>(zc hs hk (λ hs hk=>hk) (λ hs hk=>(zc hs hk (λ hs hk=>hk) (λ hs hk=>(zc hs hk (λ hs hk=>hk) (λ hs hk=>(zc hs hk (λ hs hk=>hk) (λ hs hk=>(zc hs hk (λ hs hk=>hk) (λ hs hk=>(zc hs hk (λ hs hk=>hk) (λ hs hk=>(zc hs hk (λ hs hk=>hk) (λ hs hk=>(zc hs hk (λ hs hk=>hk) (λ hs hk=>(zc hs hk (λ hs hk=>hk) (λ hs hk=>(zc hs hk (λ hs hk=>hk) (λ hs hk=>(zc hs hk (λ hs hk=>hk) (λ hs hk=>(zQ8 hX5 hs hk rfl rfl rfl rfl rfl))))))))))))))))))))))))))))) (λ hs hk=>(zQ7 hs hk rfl rfl rfl rfl rfl)))))) _ hs hk zNb zwC zqK zqL zqM
def ztm (l_a2:(Sl Flown)) (play:Int) (sv4:(Sl Plane)) (zsG:(Sl Int)):Bool :=
  (zEh l_a2 play (0:Int) sv4 zsG (⟨0,(λ _=>default)⟩:Sl Hit) (⟨0,(λ _=>default)⟩:Sl Int) (⟨0,(λ _=>default)⟩:Sl Pulse))
def ztn (l_a2:(Sl Flown)) (play:Int) (sv4:(Sl Plane)) (zsG:(Sl Int)):Bool :=
  (zEi l_a2 play (0:Int) sv4 zsG (⟨0,(λ _=>default)⟩:Sl Hit) (⟨0,(λ _=>default)⟩:Sl Int) (⟨0,(λ _=>default)⟩:Sl Pulse))
theorem zRa (hs:ztn l_a2 play sv4 zsG=true) (hk:K (e3 (ztm l_a2 play sv4 zsG))) (zUi:zQQ=zg enc_35 sv4) (zNc:zDA=zg enc_3 zsG):z3 K [1,1,1,1] [] ⟨[(2,zS enc_39 6 l_a2),(3,zI play),(4,zp 4 0),(9,zv 67)],[(4,.box 24 [.p (.sl sv4.len 15 zQQ)]),(67,.vec 3 1 8 zsG.len zDA)],[]⟩:=by subst zUi;subst zNc;exact zaK (by kernel_rfl) (zQ9 hs hk rfl rfl rfl rfl rfl)
def zEj (S2:Int->(Sl Plane)->(Sl Int)->Bool) (zad:(Sl Int)) (l_a2:(Sl Flown)) (play:Int) (iv3:Int) (sv3:(Sl Plane)) (znu:Int) (zsF:Int) (zi7:(Sl Int)):Bool :=
  (S2 (w64 (iv3+(1:Int))) sv3 (⟨(zi7.len+1),(zfU zi7.len zi7.get (λ _=>(w64 (znu+(w64 ((w64 ((w64 (zsF - znu)) * (zad.get iv3.toNat))).tdiv (100:Int)))))))⟩:Sl Int))
def zEk (P2:Int->(Sl Plane)->(Sl Int)->Bool) (zad:(Sl Int)) (l_a2:(Sl Flown)) (play:Int) (iv3:Int) (sv3:(Sl Plane)) (znu:Int) (zsF:Int) (zi7:(Sl Int)):Bool :=
  (decide ((0<=iv3/\iv3 < (zad.len:Int))) &&
 (decide (((100:Int) ≠ 0)) &&
 (decide (((zi7.len+1) * 8<=140737488355328/\zi7.len+1<=9223372036854775807)) &&
 (P2 (w64 (iv3+(1:Int))) sv3 (⟨(zi7.len+1),(zfU zi7.len zi7.get (λ _=>(w64 (znu+(w64 ((w64 ((w64 (zsF - znu)) * (zad.get iv3.toNat))).tdiv (100:Int)))))))⟩:Sl Int)))))
theorem zRb (hX2:zUd K zad l_a2 play X2 P2 S2) (hs:zEk P2 zad l_a2 play iv3 sv3 znu zsF zi7=true) (hk:K (e3 (zEj S2 zad l_a2 play iv3 sv3 znu zsF zi7))) (zLc:zCF=zg enc_35 sv3) (zNd:zDz=zg enc_3 zi7):z3 K [1,1,1,0,1,0,0,1,0,0,1,1] [X2] ⟨[(1,zS enc_3 1 zad),(2,zS enc_39 6 l_a2),(3,zI play),(4,zp 4 0),(9,zv 67),(10,zI iv3),(11,zp 11 0)],[(4,.box 24 [.p (.sl sv3.len 15 zCF)]),(11,.box 32 (zm (za2 (⟨znu,zsF⟩:Span)))),(67,.vec 3 1 8 zi7.len zDz)],[]⟩:=by subst zLc;subst zNd;exact zaK (by kernel_rfl) (zaX hs λ hc hs=>And.intro hc (zaX hs λ hc hs=>And.intro hc (zaX hs λ hc hs=>And.intro hc (hX2 hs hk rfl (zlq (enc:=enc_3) (f:=zi7.get) (h:=(λ _=>(w64 (znu+(w64 ((w64 ((w64 (zsF - znu)) * (zad.get iv3.toNat))).tdiv (100:Int))))))) rfl rfl)))))
def zoN (zad:(Sl Int)) (l_a2:(Sl Flown)) (play:Int) (S2:Int->(Sl Plane)->(Sl Int)->Bool) (iv2:Int) (sv2:(Sl Plane)) (zfD:(Sl Int)):Bool :=
  (cond (decide (iv2 < (sv2.len : Int)))
 (cond ((sv2.get iv2.toNat).Kind == (3:Int))
 true
 (cond (decide ((zad.get iv2.toNat) < (0:Int)))
 true
 (cond (decide ((zad.get iv2.toNat) > (100:Int)))
 true
 (cond (decide ((sv2.get iv2.toNat).Clock.Low < (-1000000:Int)))
 true
 (cond (decide ((sv2.get iv2.toNat).Clock.High > (1000000:Int)))
 true
 (zEj S2 zad l_a2 play iv2 sv2 ((sv2.get iv2.toNat).Clock.Low) ((sv2.get iv2.toNat).Clock.High) zfD))))))
 (ztm l_a2 play sv2 zfD))
def zoO (zad:(Sl Int)) (l_a2:(Sl Flown)) (play:Int) (P2:Int->(Sl Plane)->(Sl Int)->Bool) (iv2:Int) (sv2:(Sl Plane)) (zfD:(Sl Int)):Bool :=
  (cond (decide (iv2 < (sv2.len : Int)))
 (decide ((0<=iv2/\iv2 < (sv2.len:Int))) &&
 (decide ((0<=iv2/\iv2 < (sv2.len:Int))) &&
 (cond ((sv2.get iv2.toNat).Kind == (3:Int))
 true
 (decide ((0<=iv2/\iv2 < (zad.len:Int))) &&
 (cond (decide ((zad.get iv2.toNat) < (0:Int)))
 true
 (decide ((0<=iv2/\iv2 < (zad.len:Int))) &&
 (cond (decide ((zad.get iv2.toNat) > (100:Int)))
 true
 (cond (decide ((sv2.get iv2.toNat).Clock.Low < (-1000000:Int)))
 true
 (cond (decide ((sv2.get iv2.toNat).Clock.High > (1000000:Int)))
 true
 (zEk P2 zad l_a2 play iv2 sv2 ((sv2.get iv2.toNat).Clock.Low) ((sv2.get iv2.toNat).Clock.High) zfD))))))))))
 (ztn l_a2 play sv2 zfD))
def znT (zad:(Sl Int)) (l_a2:(Sl Flown)) (play:Int):Nat->Int->(Sl Plane)->(Sl Int)->Bool:=lpO (λ _ _ _=>default) (zoN zad l_a2 play)
def znU (zad:(Sl Int)) (l_a2:(Sl Flown)) (play:Int):Nat->Int->(Sl Plane)->(Sl Int)->Bool:=lpO (λ _ _ _=>false) (zoO zad l_a2 play)
def zEl (zad:(Sl Int)) (l_a2:(Sl Flown)) (play:Int) (iv2:Int) (sv2:(Sl Plane)) (zfD:(Sl Int)):Bool:=znT zad l_a2 play Fuel iv2 sv2 zfD
def zEm (zad:(Sl Int)) (l_a2:(Sl Flown)) (play:Int) (iv2:Int) (sv2:(Sl Plane)) (zfD:(Sl Int)):Bool:=znU zad l_a2 play Fuel iv2 sv2 zfD
theorem zRc (hs:zEm zad l_a2 play iv2 sv2 zfD=true) (hk:K (e3 (zEl zad l_a2 play iv2 sv2 zfD))) (zu8:zhe=zg enc_35 sv2) (zwD:zht=zg enc_3 zfD):z3 K [1,1,1,0,1,0] [] (zQM zad l_a2 play iv2 sv2 zfD zhe zht) :=
  zl (λ X=>z3 K [1,1,1,0,1,0,0] [X]) (by kernel_rfl) λ X2 hX =>
  (show ∀ k, zUd K zad l_a2 play X2 (znU zad l_a2 play k) (znT zad l_a2 play k) from zgc _ _ (zoO zad l_a2 play) (zoN zad l_a2 play) (zUd K zad l_a2 play X2)
 (by intro _ _ _ _ _ hs;exact absurd hs dqk)
 (by intro P2 S2 hX2 iv2 sv2 zfD zhe zht hs hk zu8 zwD;subst zu8;subst zwD;exact hX _ (zaK (by kernel_rfl) (zc hs hk (λ hs hk=>(zaX hs λ hc hs=>And.intro hc (zaX hs λ hc hs=>And.intro hc (zc hs hk (λ hs hk=>hk) (λ hs hk=>(zaX hs λ hc hs=>And.intro hc (zc hs hk (λ hs hk=>hk) (λ hs hk=>(zaX hs λ hc hs=>And.intro hc (zc hs hk (λ hs hk=>hk) (λ hs hk=>(zc hs hk (λ hs hk=>hk) (λ hs hk=>(zc hs hk (λ hs hk=>hk) (λ hs hk=>(zRb hX2 hs hk rfl rfl)))))))))))))))) (λ hs hk=>(zRa hs hk rfl rfl)))))) _ hs hk zu8 zwD
def zyC (zad:(Sl Int)) (l_a2:(Sl Flown)) (play:Int) (sv1:(Sl Plane)):Bool :=
  (zEl zad l_a2 play (0:Int) sv1 (⟨1,(λ _=>(0:Int))⟩:Sl Int))
def zyD (zad:(Sl Int)) (l_a2:(Sl Flown)) (play:Int) (sv1:(Sl Plane)):Bool :=
  (zEm zad l_a2 play (0:Int) sv1 (⟨1,(λ _=>(0:Int))⟩:Sl Int))
theorem zRd (hs:zyD zad l_a2 play sv1=true) (hk:K (e3 (zyC zad l_a2 play sv1))) (zgA:zd3=zg enc_35 sv1):z3 K [1,1] [] ⟨[(1,zS enc_3 1 zad),(2,zS enc_39 6 l_a2),(3,zI play),(4,zp 4 0)],[(4,.box 24 [.p (.sl sv1.len 15 zd3)])],[]⟩:=by subst zgA;exact zaK (by kernel_rfl) (zRc hs hk rfl rfl)
def zeY (zad:(Sl Int)) (l_a2:(Sl Flown)) (play:Int) (zwn:Bool) (sv0:(Sl Plane)):Bool :=
  (cond zwn
 true
 (zyC zad l_a2 play sv0))
def zeZ (zad:(Sl Int)) (l_a2:(Sl Flown)) (play:Int) (zwn:Bool) (sv0:(Sl Plane)):Bool :=
  (cond zwn
 true
 (zyD zad l_a2 play sv0))
theorem znV (hs:zeZ zad l_a2 play zwn sv0=true) (hk:K (e3 (zeY zad l_a2 play zwn sv0))) (zdN:zcb=zg enc_35 sv0):z3 K [1,0,1] [] ⟨[(1,zS enc_3 1 zad),(2,zS enc_39 6 l_a2),(3,zI play),(4,zp 4 0),(65,zB zwn)],[(4,.box 24 [.p (.sl sv0.len 15 zcb)])],[]⟩:=by subst zdN;exact zaK (by kernel_rfl) (zc hs hk (λ hs hk=>hk) (λ hs hk=>(zRd hs hk rfl)))
def s3 (s:Setup) (zad:(Sl Int)) (l_a2:(Sl Flown)) (play:Int):Bool :=
  (cond (!(s5 s))
 (zeY zad l_a2 play true s.Planes)
 (cond (!(s6 s))
 (zeY zad l_a2 play true s.Planes)
 (cond (decide ((s.Planes.len : Int) > (6:Int)))
 (zeY zad l_a2 play true s.Planes)
 (cond ((zad.len : Int) != (s.Planes.len : Int))
 (zeY zad l_a2 play true s.Planes)
 (cond (decide ((l_a2.len : Int) > (10:Int)))
 (zeY zad l_a2 play true s.Planes)
 (cond (decide (play < (0:Int)))
 (zeY zad l_a2 play true s.Planes)
 (zeY zad l_a2 play (decide (play > (1000:Int))) s.Planes)))))))
def p3 (s:Setup) (zad:(Sl Int)) (l_a2:(Sl Flown)) (play:Int):Bool :=
  (decide ((p5 s=true)) &&
 (cond (!(s5 s))
 (zeZ zad l_a2 play true s.Planes)
 (decide ((p6 s=true)) &&
 (cond (!(s6 s))
 (zeZ zad l_a2 play true s.Planes)
 (cond (decide ((s.Planes.len : Int) > (6:Int)))
 (zeZ zad l_a2 play true s.Planes)
 (cond ((zad.len : Int) != (s.Planes.len : Int))
 (zeZ zad l_a2 play true s.Planes)
 (cond (decide ((l_a2.len : Int) > (10:Int)))
 (zeZ zad l_a2 play true s.Planes)
 (cond (decide (play < (0:Int)))
 (zeZ zad l_a2 play true s.Planes)
 (zeZ zad l_a2 play (decide (play > (1000:Int))) s.Planes)))))))))
end
theorem q3 (s:Setup) (zad:(Sl Int)) (l_a2:(Sl Flown)) (play:Int) (K:List PA->Prop) (hs:p3 s zad l_a2 play=true) (hk:K (e3 (s3 s zad l_a2 play))):vcFun Tryd.prog G3 zUc 3 [.agg (enc_24 s),.one (.sl zad.len 1 (λ i=>enc_3 (zad.get i))),.one (.sl l_a2.len 6 (λ i=>enc_39 (l_a2.get i))),.one (.int .i64 play)] K :=
  zaK (by kernel_rfl) (zaX hs λ hc hs=>And.intro (And.intro (zE enc_35 15 s.Planes.get) hc) (zc hs hk (λ hs hk=>(znV hs hk rfl)) (λ hs hk=>(zaX hs λ hc hs=>And.intro (And.intro (zE enc_35 15 s.Planes.get) hc) (zc hs hk (λ hs hk=>(znV hs hk rfl)) (λ hs hk=>(zc hs hk (λ hs hk=>(znV hs hk rfl)) (λ hs hk=>(zc hs hk (λ hs hk=>(znV hs hk rfl)) (λ hs hk=>(zc hs hk (λ hs hk=>(znV hs hk rfl)) (λ hs hk=>(zc hs hk (λ hs hk=>(znV hs hk rfl)) (λ hs hk=>(znV hs hk rfl)))))))))))))))
def zVd : List PA → COut
  | [.agg [.sl zaa za8 zab],.one (.sl zeO zl0 zeP),.one (.sl zsq zId zsr),.one (.int .i64 a3)]=>.det (IsE enc_35 15 za8 zab/\IsE enc_3 1 zl0 zeP/\IsE enc_39 6 zId zsr/\p3 (⟨(⟨zaa,zbo zab⟩:(Sl Plane))⟩:Setup) (⟨zeO,zcS zeP⟩:(Sl Int)) (⟨zsq,zuo zsr⟩:(Sl Flown)) a3=true) [.one (.bool (s3 (⟨(⟨zaa,zbo zab⟩:(Sl Plane))⟩:Setup) (⟨zeO,zcS zeP⟩:(Sl Int)) (⟨zsq,zuo zsr⟩:(Sl Flown)) a3))]
  | _=>.no
theorem zUj:zaj Tryd.prog 3:=⟨_,rfl,rfl,by kernel_rfl⟩
theorem ok3:Ok Tryd.prog 3 zVd:=zbm zXh zUj λ args K h=>by
  unfold zVd at h
  split at h
  · rename_i zaa za8 zab zeO zl0 zeP zsq zId zsr a3
    obtain⟨⟨⟨rfl,zaF,rfl⟩,⟨rfl,zic,rfl⟩,⟨rfl,zC5,rfl⟩,hs⟩,hk⟩:=h
    try rw[zbG zaF] at hs
    try rw[zbG zaF] at hk
    try rw[zbV zic] at hs
    try rw[zbV zic] at hk
    try rw[zm1 zC5] at hs
    try rw[zm1 zC5] at hk
    exact⟨(λ _ _=>[]),(λ _=>false),zUc,q3 (⟨(⟨zaa,zaF⟩:(Sl Plane))⟩:Setup) (⟨zeO,zic⟩:(Sl Int)) (⟨zsq,zC5⟩:(Sl Flown)) a3 K hs hk⟩
  · exact h.elim
end Go.Proofs
namespace Go.Proofs.YtldchibepobgnaaDoor
open Go Go.Pm Go.ChangeShapes
set_option maxRecDepth 100000
abbrev laid1 : List (String × DataW Unit) := [("overburden/align.never", Rows.laid_overburden_align_never)]
theorem zIJ : Tryd.prog.globalNamed "overburden/align.never" = some 0 := by kernel_rfl
theorem zRe:(Tryd.prog.globals[0]?).map (·.type)=some 98:=by kernel_rfl
theorem zRf:Tryd.prog.cellsOf 98=2:=by kernel_rfl
theorem zVe:Tryd.prog.cellsOf 3=1:=by kernel_rfl
theorem door_met (os:Os) (args:Array Value):laidMetH Tryd.prog laid1 ((World.doorLaid Tryd.prog 400 os).forCall (λ _ _=>0) ⟨#[],args,[]⟩).memory :=
 laidMetH_of_parts3 (fuel:=8) (laidMet_of_run' 8 (by kernel_rfl) (by kernel_rfl)) (by kernel_rfl) (by kernel_rfl)
theorem gl_of {W:World}(h:laidMetH Tryd.prog laid1 W):zgS (H0 W):=by
 rw[MakeChecks.laidMetH_plain _ _ _ (by kernel_rfl)] at h
 obtain⟨ps,⟨g0,t0,cs0,f0,p0,q0,hg0,ht0,hv0,hd0,_,_⟩,_,_⟩:=h
 obtain rfl:=Option.some.inj (zIJ.symm.trans hg0)
 obtain rfl:=Option.some.inj (zRe.symm.trans ht0)
 obtain⟨y0,y1,n,hx,hl,h0,h1⟩:=trod_struct2 Tryd.underlying98 hd0
 simp only[dqh] at hx
 obtain⟨hx,-⟩:=hx
 simp only[Rows.laid_overburden_align_never,DataW.agg.injEq,dqy,and_true] at hx
 obtain⟨k0,e0,d0,_⟩:=DataW.trod_int Tryd.underlying3 h0
 obtain⟨k1,e1,d1,_⟩:=DataW.trod_int Tryd.underlying3 h1
 rw[zRf] at hl
 have e0':cs0.toList.take 1=[.int .i64 k0]:=by
  have:=e0
  rw[show Tryd.prog.cellsOf _=1 from zVe] at this
  simpa using this
 have e1':(cs0.toList.drop 1).take 1=[.int .i64 k1]:=by
  have:=e1
  rw[show Tryd.prog.cellsOf _=1 from zVe] at this
  simpa using this
 have hk0:k0=1000000000000:=by have:=hx.1;rw[d0] at this;injection this with a;injection a with _ a;exact a.symm
 have hk1:k1=0:=by have:=hx.2;rw[d1] at this;injection this with a;injection a with _ a;exact a.symm
 have hC:cs0.toList=[.int .i64 1000000000000,.int .i64 0]:=by
  have h2:cs0.toList=cs0.toList.take 1 ++ (cs0.toList.drop 1).take 1:=by
   rw[<- List.take_add,List.take_of_length_le (by omega)]
  rw[h2,e0',e1',hk0,hk1];rfl
 intro k l hk
 unfold World.var? at hv0
 rw[zIJ] at hv0
 simp only[Option.bind_some] at hv0
 cases k with
 | succ k=>cases hk
 | zero =>
  obtain rfl:[PV.int .i64 1000000000000,.int .i64 0]=l:=Option.some.inj hk
  cases eo:W.heap[0]? with
  | none=>rw[eo] at hv0;cases hv0
  | some o =>
   rw[eo] at hv0
   cases o with
   | cells C ty fr =>
    simp only[dqa] at hv0
    subst hv0
    exact⟨_,ty,fr,by unfold H0;rw[eo];rfl,by rw[hC];exact⟨.int _ _,.int _ _,trivial⟩⟩
   | _=>cases hv0
end Go.Proofs.YtldchibepobgnaaDoor
namespace Go.Proofs.YtldchibepobgnaaDoor
set_option maxRecDepth 100000
def dc : Nat → Nat → List Char
  | 0,_=>[]
  | k+1,n=>Char.ofNat (n % 128) :: dc k (n / 128)
def ioR:List (List Char):=[dc 2 14945,dc 34 399756165113810860405123747561083598328709158383043168901083853636598639,dc 36 5698943799327879142190826543221619858489383843563469017403155196654508407663]
def ioN:List Char:=dc 151 1216020464194862402549110884685396001460281756945981333032886797653041051700143131070021235301297101403928754228893408613665257464122322425613818168264680399200632846679559902755390411465917260643571611089994848002700497141340089951518382775036556753014702842741720359283471273993859166266842389306905274727842080141544
theorem ioS:Tryd.prog.initOrder=String.ofList ioN:=by kernel_rfl
theorem ioL:Tryd.prog.initOrder.toList=ioN:=(congrArg String.toList ioS).trans String.toList_ofList
theorem ioW:wordsSigns Tryd.prog.initOrder.toList=(dc 7 509754063237352) :: (dc 64 280762073358578399723192560932519151918837521674807598191946440507161504529176939736918491805508981372431107812236517754624012463993520) :: (dc 3 1915619) :: ioR:=(congrArg wordsSigns ioL).trans (by kernel_rfl)
theorem ioB:behindMainWord (wordsSigns Tryd.prog.initOrder.toList)=(dc 3 1915619) :: ioR:=(congrArg behindMainWord ioW).trans (by kernel_rfl)
theorem zto {P : Program} {l : List (List Char)} (h : behindMainWord (wordsSigns P.initOrder.toList) = l) : P.headLifts = (if (stripLifts liftWords l).2.head? == some "cut".toList then (stripLifts liftWords l).1 else []) := by subst h; rfl
theorem zNe {P:Program}{rest:List (List Char)}(h:behindMainWord (wordsSigns P.initOrder.toList)=(dc 3 1915619) :: rest):P.make=some .cut:=by unfold Program.make;rw[h];rfl
theorem zGV {P:Program}{rest:List (List Char)}(h:behindMainWord (wordsSigns P.initOrder.toList)=(dc 3 1915619) :: rest) (hl:P.headLifts=[]):P.liftsFinal=false:=by unfold Program.liftsFinal;rw[h,hl];rfl
theorem zNf {P : Program} {a b : List Char} {rest : List (List Char)} (h : wordsSigns P.initOrder.toList = a :: b :: rest) (hs : isSumSigns b = true) (ha : (a == "harness".toList) = true) : P.mainIs = some (true, b) := by unfold Program.mainIs; rw [h]; simp only [hs, ha]; rfl
theorem zGW {P : Program} {c : List Char} {rest : List (List Char)} (h : behindMainWord (wordsSigns P.initOrder.toList) = c :: rest) (hst : (stripLifts liftWords (c :: rest)).2.head? = some "cut".toList)
    (hs1:(stripLifts liftWords (c :: rest)).1=[]) (hlay:P.laysLater=false) (hb:P.bearsReflect=false) (hd:P.doorFits []=true):P.mayEnter=true:=by
  unfold Program.mayEnter
  rw[h]
  simp[hst,hs1,hlay,hb,hd]
theorem ioH:Tryd.prog.headLifts=[]:=(zto ioB).trans (by kernel_rfl)
theorem ioK:Tryd.prog.make=some .cut:=zNe ioB
theorem ioF:Tryd.prog.liftsFinal=false:=zGV ioB ioH
theorem ioM : Tryd.prog.mainIs = some (true, "0ee2cee5cbe110d46606f48aae4a85d8ffa3962fbd3c4f914a8f9a49086f8d81".toList) := (zNf ioW (by kernel_rfl) (by kernel_rfl)).trans (by kernel_rfl)
theorem ioE:Tryd.prog.mayEnter=true:=zGW ioB (by kernel_rfl) (by kernel_rfl) (by kernel_rfl) (by kernel_rfl) (by kernel_rfl)
end Go.Proofs.YtldchibepobgnaaDoor
namespace Go.Pm
open Go

theorem zbs {x:Int}(h1 : -9223372036854775808<=x) (h2:x<=9223372036854775807):w64 x=x:=by
 have hb:IntKind.i64.bits=64:=rfl
 have hs:IntKind.i64.signed=true:=rfl
 unfold w64 IntKind.wrap
 rw[hb,hs]
 simp only[Bool.true_and,decide_eq_true_eq]
 split <;> omega
theorem dqT {p:Prop} [Decidable p] (h:p):decide p=true:=decide_eq_true h
theorem dqF {p:Prop} [Decidable p] (h : ¬ p):decide p=false:=decide_eq_false h
theorem dqA {α:Type}(a b:α):cond true a b=a:=rfl
theorem dqB {α:Type}(a b:α):cond false a b=b:=rfl
theorem dqN (n:Nat):((n:Nat):Int).toNat=n:=Int.toNat_natCast n
theorem dqP {c:Prop}{h:Decidable c}(hc:c){α:Type}{t e:α} : ite c t e=t:=if_pos hc
theorem dqG {c:Prop}{h:Decidable c}(hc : ¬ c){α:Type}{t e:α} : ite c t e=e:=if_neg hc
def zVf (c : Nat → Bool) : Nat → Nat → Nat
  | 0,i=>i
  | m+1,i=>match c i with | true=>i | false=>zVf c m (i+1)
def fst (c:Nat->Bool) (n:Nat):Nat:=zVf c n 0
theorem zdz {good : Nat → Bool} {fin : Bool} {n : Nat} {lpS lpP : Nat → Int → Bool}
    (hS:∀ (k i:Nat),i < n->lpS (k+1) (i:Int)=cond (good i) (lpS k (w64 ((i:Int)+(1:Int)))) false)
    (hE:∀ k,lpS (k+1) (n:Int)=fin)
    (hP:∀ (k i:Nat),i < n->lpP (k+1) (i:Int)=cond (good i) (lpP k (w64 ((i:Int)+(1:Int)))) true)
    (hPE:∀ k,lpP (k+1) (n:Int)=true) (hn:n<=9223372036854775807) :
    lpP Fuel 0=true/\(lpS Fuel 0=true↔(∀ i,i < n->good i=true)/\fin=true):=by
  have key:∀ (m k i:Nat),i+m=n->m < k->lpP k (i:Int)=true/\(lpS k (i:Int)=true↔(∀ j,i<=j->j < n->good j=true)/\fin=true):=by
    intro m
    induction m with
    | zero =>
      intro k i hi hk
      obtain⟨k,rfl⟩:∃ k',k=k'+1:=⟨k - 1,by omega⟩
      have:i=n:=by omega
      subst this
      rw[hE,hPE]
      exact⟨rfl,⟨λ h=>⟨λ j h1 h2=>absurd h2 (by omega),h⟩,λ h=>h.2⟩⟩
    | succ m ih =>
      intro k i hi hk
      obtain⟨k,rfl⟩:∃ k',k=k'+1:=⟨k - 1,by omega⟩
      rw[hS k i (by omega),hP k i (by omega)]
      have e3:w64 ((i:Int)+1)=((i+1:Nat):Int):=by rw[zbs (by omega) (by omega)];omega
      rw[e3]
      obtain⟨h1,h2⟩:=ih k (i+1) (by omega) (by omega)
      cases hg:good i
      · refine ⟨rfl, ⟨fun h => (by cases h), fun h => ?_⟩⟩
        have:=h.1 i (dqt _) (by omega)
        rw[hg] at this;cases this
      · refine ⟨h1, h2.trans ⟨fun h => ⟨fun j hj1 hj2 => ?_, h.2⟩, fun h => ⟨fun j hj1 hj2 => h.1 j (by omega) hj2, h.2⟩⟩⟩
        by_cases hji:j=i
        · rw[hji];exact hg
        · exact h.1 j (by omega) hj2
  have:=key n Fuel 0 (by omega) (by simp only[Fuel];omega)
  simpa using this

end Go.Pm
namespace Go.Pm
open Go
theorem zjT {i n:Nat}(h:i < n) (hn:n<=9223372036854775807):w64 ((i:Int)+(1:Int))=((i+1:Nat):Int):=by
 rw[zbs (by omega) (by omega)];omega
theorem zqN {β : Type} {good : Nat → Bool} {bad fin : β} {finP : Bool} {n : Nat} {lpS : Nat → Int → β} {lpP : Nat → Int → Bool}
    (hS:∀ (k i:Nat),i < n->lpS (k+1) (i:Int)=cond (good i) (lpS k (w64 ((i:Int)+(1:Int)))) bad)
    (hE:∀ k,lpS (k+1) (n:Int)=fin)
    (hP:∀ (k i:Nat),i < n->lpP (k+1) (i:Int)=cond (good i) (lpP k (w64 ((i:Int)+(1:Int)))) true)
    (hPE:∀ k,lpP (k+1) (n:Int)=finP) (hn:n<=9223372036854775807) :
    ((∀ i,i < n->good i=true)->lpP Fuel 0=finP/\lpS Fuel 0=fin)/\((¬ ∀ i,i < n->good i=true)->lpP Fuel 0=true/\lpS Fuel 0=bad):=by
  have key:∀ (m k i:Nat),i+m=n->m < k->((∀ j,i<=j->j < n->good j=true)->lpP k (i:Int)=finP/\lpS k (i:Int)=fin)/\((¬ ∀ j,i<=j->j < n->good j=true)->lpP k (i:Int)=true/\lpS k (i:Int)=bad):=by
    intro m
    induction m with
    | zero =>
      intro k i hi hk
      obtain⟨k,rfl⟩:∃ k',k=k'+1:=⟨k - 1,by omega⟩
      have:i=n:=by omega
      subst this
      rw[hE,hPE]
      exact⟨λ _=>⟨rfl,rfl⟩,λ h=>absurd (λ j h1 h2=>absurd h2 (by omega)) h⟩
    | succ m ih =>
      intro k i hi hk
      obtain⟨k,rfl⟩:∃ k',k=k'+1:=⟨k - 1,by omega⟩
      rw[hS k i (by omega),hP k i (by omega),zjT (n:=n) (by omega) hn]
      obtain⟨h1,h2⟩:=ih k (i+1) (by omega) (by omega)
      cases hg:good i
      · refine ⟨fun h => ?_, fun _ => ⟨rfl, rfl⟩⟩
        have:=h i (dqt _) (by omega)
        rw[hg] at this;cases this
      · refine ⟨fun h => h1 fun j a b => h j (by omega) b, fun h => h2 fun h' => h fun j a b => ?_⟩
        by_cases hji:j=i
        · rw[hji];exact hg
        · exact h' j (by omega) b
  have:=key n Fuel 0 (by omega) (by simp only[Fuel];omega)
  simpa using this
def zhM {σ : Type} (step : Nat → σ → σ) : Nat → Nat → σ → σ
  | 0,_,s=>s
  | m+1,i,s=>zhM step m (i+1) (step i s)
theorem znW {σ β : Type} {step : Nat → σ → σ} {E : σ → β} {EP : σ → Bool} {Inv : Nat → σ → Prop} {a n : Nat} {lpS : Nat → σ → Int → β} {lpP : Nat → σ → Int → Bool}
    (hS:∀ (k i:Nat) (s:σ),a<=i->i < n->Inv i s->lpS (k+1) s (i:Int)=lpS k (step i s) (w64 ((i:Int)+(1:Int))))
    (hE:∀ k s,lpS (k+1) s (n:Int)=E s)
    (hP:∀ (k i:Nat) (s:σ),a<=i->i < n->Inv i s->lpP (k+1) s (i:Int)=lpP k (step i s) (w64 ((i:Int)+(1:Int))))
    (hPE:∀ k s,lpP (k+1) s (n:Int)=EP s)
    (hI:∀ i s,a<=i->i < n->Inv i s->Inv (i+1) (step i s)) (ha:a<=n) (hn:n<=9223372036854775807) (s:σ) (h0:Inv a s) :
    lpP Fuel s (a:Int)=EP (zhM step (n - a) a s)/\lpS Fuel s (a:Int)=E (zhM step (n - a) a s):=by
  have key:∀ (m k i:Nat) (s:σ),a<=i->i+m=n->m < k->Inv i s->lpP k s (i:Int)=EP (zhM step m i s)/\lpS k s (i:Int)=E (zhM step m i s):=by
    intro m
    induction m with
    | zero =>
      intro k i s h1 hi hk _
      obtain⟨k,rfl⟩:∃ k',k=k'+1:=⟨k - 1,by omega⟩
      have:i=n:=by omega
      subst this
      rw[hE,hPE]
      exact⟨rfl,rfl⟩
    | succ m ih =>
      intro k i s h1 hi hk hs
      obtain⟨k,rfl⟩:∃ k',k=k'+1:=⟨k - 1,by omega⟩
      rw[hS k i s h1 (by omega) hs,hP k i s h1 (by omega) hs,zjT (n:=n) (by omega) hn]
      exact ih k (i+1) (step i s) (by omega) (by omega) (by omega) (hI i s h1 (by omega) hs)
  exact key (n - a) Fuel a s (dqt _) (by omega) (by simp only[Fuel];omega) h0
end Go.Pm
namespace Go.Proofs
open Go Go.Pm
set_option maxRecDepth 100000
theorem zjU (n a b:Int):s31 n a b=decide (a<=n/\n<=b):=by
 unfold s31
 by_cases h:a<=n
 ·rw[dqT (show n >= a from h),dqA];exact decide_eq_decide.2 ⟨λ k=>⟨h,k⟩,λ k=>k.2⟩
 ·rw[dqF (show ¬ n >= a from h),dqB];exact (dqF (λ k=>h k.1)).symm
theorem zIK (n:Net) (hn:n.Ties.len<=9223372036854775807):p32 n=true/\(s32 n=true↔(∀ i,i < n.Ties.len->s59 (n.Ties.get i) n.Nodes=true)/\(1<=n.Nodes/\n.Nodes<=40)/\n.Ties.len<=200):=by
  have := zdz (good := fun i => s59 (n.Ties.get i) n.Nodes) (fin := cond (s31 n.Nodes (1:Int) (40:Int)) (decide ((n.Ties.len : Int) ≤ (200:Int))) false) (n := n.Ties.len) (lpS := zke n) (lpP := zkf n)
    (λ k i hi=>by
      show zkc n (zke n k) (i:Int)=_
      generalize zke n k=S
      unfold zkc zur
      rw[dqT (show (i:Int) < (n.Ties.len:Int) by omega),dqA,dqN]
      cases s59 (n.Ties.get i) n.Nodes <;> rfl)
    (λ k=>by
      show zkc n (zke n k) (n.Ties.len:Int)=_
      unfold zkc
      rw[dqF (show ¬ (n.Ties.len:Int) < (n.Ties.len:Int) by omega),dqB])
    (λ k i hi=>by
      show zkd n (zkf n k) (i:Int)=_
      generalize zkf n k=S
      unfold zkd zus
      rw[dqT (show (i:Int) < (n.Ties.len:Int) by omega),dqA,dqN,dqT (show 0<=(i:Int)/\(i:Int) < (n.Ties.len:Int) by omega),Bool.true_and]
      cases s59 (n.Ties.get i) n.Nodes <;> rfl)
    (λ k=>by
      show zkd n (zkf n k) (n.Ties.len:Int)=_
      unfold zkd
      rw[dqF (show ¬ (n.Ties.len:Int) < (n.Ties.len:Int) by omega),dqB])
    hn
  refine⟨this.1,this.2.trans ?_⟩
  rw[zjU]
  by_cases h:1<=n.Nodes/\n.Nodes<=40
  · rw[dqT h,dqA,decide_eq_true_eq];exact⟨λ k=>⟨k.1,h,by omega⟩,λ k=>⟨k.1,by omega⟩⟩
  · rw[dqF h,dqB];exact⟨λ k=>absurd k.2 (by decide),λ k=>absurd k.2.1 h⟩
end Go.Proofs
namespace Go.Pm
open Go
theorem zqO {σ β : Type} {good : Nat → Bool} {step : Nat → σ → σ} {bad : β} {E : σ → β} {EP : σ → Bool} {Inv : Nat → σ → Prop} {n : Nat} {lpS : Nat → σ → Int → β} {lpP : Nat → σ → Int → Bool}
    (hS:∀ (k i:Nat) (s:σ),i < n->Inv i s->lpS (k+1) s (i:Int)=cond (good i) (lpS k (step i s) (w64 ((i:Int)+(1:Int)))) bad)
    (hE:∀ k s,lpS (k+1) s (n:Int)=E s)
    (hP:∀ (k i:Nat) (s:σ),i < n->Inv i s->lpP (k+1) s (i:Int)=cond (good i) (lpP k (step i s) (w64 ((i:Int)+(1:Int)))) true)
    (hPE:∀ k s,lpP (k+1) s (n:Int)=EP s)
    (hI:∀ i s,i < n->Inv i s->Inv (i+1) (step i s)) (hn:n<=9223372036854775807) (s:σ) (h0:Inv 0 s) :
    ((∀ i,i < n->good i=true)->lpP Fuel s 0=EP (zhM step n 0 s)/\lpS Fuel s 0=E (zhM step n 0 s))/\((¬ ∀ i,i < n->good i=true)->lpP Fuel s 0=true/\lpS Fuel s 0=bad):=by
  have key:∀ (m k i:Nat) (s:σ),i+m=n->m < k->Inv i s->((∀ j,i<=j->j < n->good j=true)->lpP k s (i:Int)=EP (zhM step m i s)/\lpS k s (i:Int)=E (zhM step m i s))/\((¬ ∀ j,i<=j->j < n->good j=true)->lpP k s (i:Int)=true/\lpS k s (i:Int)=bad):=by
    intro m
    induction m with
    | zero =>
      intro k i s hi hk _
      obtain⟨k,rfl⟩:∃ k',k=k'+1:=⟨k - 1,by omega⟩
      have:i=n:=by omega
      subst this
      rw[hE,hPE]
      exact⟨λ _=>⟨rfl,rfl⟩,λ h=>absurd (λ j h1 h2=>absurd h2 (by omega)) h⟩
    | succ m ih =>
      intro k i s hi hk hs
      obtain⟨k,rfl⟩:∃ k',k=k'+1:=⟨k - 1,by omega⟩
      rw[hS k i s (by omega) hs,hP k i s (by omega) hs,zjT (n:=n) (by omega) hn]
      obtain⟨h1,h2⟩:=ih k (i+1) (step i s) (by omega) (by omega) (hI i s (by omega) hs)
      cases hg:good i
      · refine ⟨fun h => ?_, fun _ => ⟨rfl, rfl⟩⟩
        have:=h i (dqt _) (by omega)
        rw[hg] at this;cases this
      · refine ⟨fun h => h1 fun j a b => h j (by omega) b, fun h => h2 fun h' => h fun j a b => ?_⟩
        by_cases hji:j=i
        · rw[hji];exact hg
        · exact h' j (by omega) b
  have:=key n Fuel 0 s (by omega) (by simp only[Fuel];omega) h0
  simpa using this
end Go.Pm
namespace Go.Proofs
open Go Go.Pm
set_option maxRecDepth 100000
set_option linter.unusedVariables false
theorem cT (b y:Bool):cond (!b) false y=(b && y):=by cases b <;> rfl
theorem cF (b y:Bool):cond b false y=(!b && y):=by cases b <;> rfl
theorem zjV (n a b:Int):s23 n a b=decide (a<=n/\n<=b):=zjU n a b
theorem zjW (n a b:Int):s65 n a b=decide (a<=n/\n<=b):=zjU n a b
theorem zRg (n:Int):s51 n=decide (-1000000<=n/\n<=1000000):=zjU n _ _
theorem zEn (x y:Int):s65 x (0:Int) y=(!decide (x < (0:Int)) && !decide (x > y)):=by
 rw[zjW]
 by_cases a:x < 0
 ·rw[dqT a,dqF (show ¬ (0<=x/\x<=y) by omega)];rfl
 ·rw [dqF a]
  by_cases b:x > y
  ·rw[dqT b,dqF (show ¬ (0<=x/\x<=y) by omega)];rfl
  ·rw[dqF b,dqT (show 0<=x/\x<=y by omega)];rfl
def drG (l:Sl Drift) (pt:Int) (i:Nat):Bool:=s23 (l.get i).Time (0:Int) (1000000:Int) && (!decide ((l.get i).Radius.Low < (0:Int)) && (!decide ((l.get i).Radius.Low > (l.get i).Radius.High) && (!decide ((l.get i).Radius.High > (w64 (pt.tdiv (2:Int)))) && cond (decide ((i:Int) > (0:Int))) (!decide ((l.get i).Time<=(l.get (w64 ((i:Int) - (1:Int))).toNat).Time) && (!decide ((l.get i).Radius.Low < (l.get (w64 ((i:Int) - (1:Int))).toNat).Radius.Low) && !decide ((l.get i).Radius.High < (l.get (w64 ((i:Int) - (1:Int))).toNat).Radius.High))) true)))
def ddG (l:Sl Int) (st:Int) (i:Nat):Bool:=s23 (l.get i) (0:Int) (w64 (st - (1:Int))) && cond (decide ((i:Int) > (0:Int))) (!decide (l.get i<=l.get (w64 ((i:Int) - (1:Int))).toNat)) true
def zR5 (l:Sl Drift) (pt:Int):Prop:=(∀ i,i < l.len->drG l pt i=true)/\s23 (l.len:Int) (1:Int) (50:Int)=true
theorem zVg (l:Sl Drift) (pt:Int) (h:l.len<=9223372036854775807):p52 l pt=true/\(s52 l pt=true↔zR5 l pt) :=
  zdz (good := (fun i => drG l pt i)) (fin := s23 (l.len : Int) (1:Int) (50:Int)) (n := l.len) (lpS := fun k i => ziN l pt k i) (lpP := fun k i => ziO l pt k i)
    (λ k i hi=>by
      show zkl l pt (ziN l pt k) (i:Int)=cond (drG l pt i) (ziN l pt k (w64 ((i:Int)+(1:Int)))) false
      generalize ziN l pt k=S
      unfold zkl
      rw[dqT (show (i:Int) < (l.len:Int) by omega),dqA,dqN]
      unfold zkj zuV drG
      cases s23 (l.get i).Time (0:Int) (1000000:Int) <;> cases decide ((l.get i).Radius.Low < (0:Int)) <;> cases decide ((l.get i).Radius.Low > (l.get i).Radius.High) <;> cases decide ((l.get i).Radius.High > (w64 (pt.tdiv (2:Int)))) <;> cases decide ((i:Int) > (0:Int)) <;> try rfl
      all_goals cases decide ((l.get i).Time<=(l.get (w64 ((i:Int) - (1:Int))).toNat).Time) <;> cases decide ((l.get i).Radius.Low < (l.get (w64 ((i:Int) - (1:Int))).toNat).Radius.Low) <;> cases decide ((l.get i).Radius.High < (l.get (w64 ((i:Int) - (1:Int))).toNat).Radius.High) <;> rfl)
    (λ k=>by
      show zkl l pt (ziN l pt k) (l.len:Int)=_
      unfold zkl
      rw[dqF (show ¬ (l.len:Int) < (l.len:Int) by omega),dqB])
    (λ k i hi=>by
      show zkm l pt (ziO l pt k) (i:Int)=cond (drG l pt i) (ziO l pt k (w64 ((i:Int)+(1:Int)))) true
      generalize ziO l pt k=S
      unfold zkm
      rw[dqT (show (i:Int) < (l.len:Int) by omega),dqA,dqN,dqT (show 0<=(i:Int)/\(i:Int) < (l.len:Int) by omega),Bool.true_and]
      unfold zkk zuW drG
      rw[dqT (show (2:Int) ≠ 0 by decide),Bool.true_and]
      by_cases h0:(i:Int) > 0
      · rw [dqT (show 0 ≤ w64 ((i : Int) - (1:Int)) ∧ w64 ((i : Int) - (1:Int)) < (l.len : Int) by rw [zbs (by omega) (by omega)]; omega), dqT h0]
        cases s23 (l.get i).Time (0:Int) (1000000:Int) <;> cases decide ((l.get i).Radius.Low < (0:Int)) <;> cases decide ((l.get i).Radius.Low > (l.get i).Radius.High) <;> cases decide ((l.get i).Radius.High > (w64 (pt.tdiv (2:Int)))) <;> try rfl
        all_goals cases decide ((l.get i).Time<=(l.get (w64 ((i:Int) - (1:Int))).toNat).Time) <;> cases decide ((l.get i).Radius.Low < (l.get (w64 ((i:Int) - (1:Int))).toNat).Radius.Low) <;> cases decide ((l.get i).Radius.High < (l.get (w64 ((i:Int) - (1:Int))).toNat).Radius.High) <;> rfl
      · rw [dqF h0]
        cases s23 (l.get i).Time (0:Int) (1000000:Int) <;> cases decide ((l.get i).Radius.Low < (0:Int)) <;> cases decide ((l.get i).Radius.Low > (l.get i).Radius.High) <;> cases decide ((l.get i).Radius.High > (w64 (pt.tdiv (2:Int)))) <;> rfl)
    (λ k=>by
      show zkm l pt (ziO l pt k) (l.len:Int)=_
      unfold zkm
      rw[dqF (show ¬ (l.len:Int) < (l.len:Int) by omega),dqB])
    h
theorem zXi (p:placed) (h:p.Plane.Drift.len<=9223372036854775807):p86 p=true/\(s86 p=true↔zR5 p.Plane.Drift p.Plane.Pitch) :=
  zdz (good := (fun i => drG p.Plane.Drift p.Plane.Pitch i)) (fin := s65 (p.Plane.Drift.len : Int) (1:Int) (50:Int)) (n := p.Plane.Drift.len) (lpS := fun k i => zi1 p k i) (lpP := fun k i => zi2 p k i)
    (λ k i hi=>by
      show zkV p (zi1 p k) (i:Int)=cond (drG p.Plane.Drift p.Plane.Pitch i) (zi1 p k (w64 ((i:Int)+(1:Int)))) false
      generalize zi1 p k=S
      unfold zkV
      rw[dqT (show (i:Int) < (p.Plane.Drift.len:Int) by omega),dqA,dqN]
      unfold znk zvK drG
      rw[show s65 (p.Plane.Drift.get i).Time (0:Int) (1000000:Int)=s23 (p.Plane.Drift.get i).Time (0:Int) (1000000:Int) from rfl]
      rw[show s65 (p.Plane.Drift.get i).Radius.Low (0:Int) (p.Plane.Drift.get i).Radius.High=(!decide ((p.Plane.Drift.get i).Radius.Low < (0:Int)) && !decide ((p.Plane.Drift.get i).Radius.Low > (p.Plane.Drift.get i).Radius.High)) from zEn _ _]
      cases s23 (p.Plane.Drift.get i).Time (0:Int) (1000000:Int) <;> cases decide ((p.Plane.Drift.get i).Radius.Low < (0:Int)) <;> cases decide ((p.Plane.Drift.get i).Radius.Low > (p.Plane.Drift.get i).Radius.High) <;> cases decide ((p.Plane.Drift.get i).Radius.High > (w64 (p.Plane.Pitch.tdiv (2:Int)))) <;> cases decide ((i:Int) > (0:Int)) <;> try rfl
      all_goals cases decide ((p.Plane.Drift.get i).Time<=(p.Plane.Drift.get (w64 ((i:Int) - (1:Int))).toNat).Time) <;> cases decide ((p.Plane.Drift.get i).Radius.Low < (p.Plane.Drift.get (w64 ((i:Int) - (1:Int))).toNat).Radius.Low) <;> cases decide ((p.Plane.Drift.get i).Radius.High < (p.Plane.Drift.get (w64 ((i:Int) - (1:Int))).toNat).Radius.High) <;> rfl)
    (λ k=>by
      show zkV p (zi1 p k) (p.Plane.Drift.len:Int)=_
      unfold zkV
      rw[dqF (show ¬ (p.Plane.Drift.len:Int) < (p.Plane.Drift.len:Int) by omega),dqB])
    (λ k i hi=>by
      show zkW p (zi2 p k) (i:Int)=cond (drG p.Plane.Drift p.Plane.Pitch i) (zi2 p k (w64 ((i:Int)+(1:Int)))) true
      generalize zi2 p k=S
      unfold zkW
      rw[dqT (show (i:Int) < (p.Plane.Drift.len:Int) by omega),dqA,dqN,dqT (show 0<=(i:Int)/\(i:Int) < (p.Plane.Drift.len:Int) by omega),Bool.true_and]
      unfold znl zvL drG
      rw[dqT (show (2:Int) ≠ 0 by decide),Bool.true_and]
      by_cases h0:(i:Int) > 0
      · rw [dqT (show 0 ≤ w64 ((i : Int) - (1:Int)) ∧ w64 ((i : Int) - (1:Int)) < (p.Plane.Drift.len : Int) by rw [zbs (by omega) (by omega)]; omega), dqT h0]
        rw[show s65 (p.Plane.Drift.get i).Time (0:Int) (1000000:Int)=s23 (p.Plane.Drift.get i).Time (0:Int) (1000000:Int) from rfl]
        rw[show s65 (p.Plane.Drift.get i).Radius.Low (0:Int) (p.Plane.Drift.get i).Radius.High=(!decide ((p.Plane.Drift.get i).Radius.Low < (0:Int)) && !decide ((p.Plane.Drift.get i).Radius.Low > (p.Plane.Drift.get i).Radius.High)) from zEn _ _]
        cases s23 (p.Plane.Drift.get i).Time (0:Int) (1000000:Int) <;> cases decide ((p.Plane.Drift.get i).Radius.Low < (0:Int)) <;> cases decide ((p.Plane.Drift.get i).Radius.Low > (p.Plane.Drift.get i).Radius.High) <;> cases decide ((p.Plane.Drift.get i).Radius.High > (w64 (p.Plane.Pitch.tdiv (2:Int)))) <;> try rfl
        all_goals cases decide ((p.Plane.Drift.get i).Time<=(p.Plane.Drift.get (w64 ((i:Int) - (1:Int))).toNat).Time) <;> cases decide ((p.Plane.Drift.get i).Radius.Low < (p.Plane.Drift.get (w64 ((i:Int) - (1:Int))).toNat).Radius.Low) <;> cases decide ((p.Plane.Drift.get i).Radius.High < (p.Plane.Drift.get (w64 ((i:Int) - (1:Int))).toNat).Radius.High) <;> rfl
      · rw [dqF h0]
        rw[show s65 (p.Plane.Drift.get i).Time (0:Int) (1000000:Int)=s23 (p.Plane.Drift.get i).Time (0:Int) (1000000:Int) from rfl]
        rw[show s65 (p.Plane.Drift.get i).Radius.Low (0:Int) (p.Plane.Drift.get i).Radius.High=(!decide ((p.Plane.Drift.get i).Radius.Low < (0:Int)) && !decide ((p.Plane.Drift.get i).Radius.Low > (p.Plane.Drift.get i).Radius.High)) from zEn _ _]
        cases s23 (p.Plane.Drift.get i).Time (0:Int) (1000000:Int) <;> cases decide ((p.Plane.Drift.get i).Radius.Low < (0:Int)) <;> cases decide ((p.Plane.Drift.get i).Radius.Low > (p.Plane.Drift.get i).Radius.High) <;> cases decide ((p.Plane.Drift.get i).Radius.High > (w64 (p.Plane.Pitch.tdiv (2:Int)))) <;> rfl)
    (λ k=>by
      show zkW p (zi2 p k) (p.Plane.Drift.len:Int)=_
      unfold zkW
      rw[dqF (show ¬ (p.Plane.Drift.len:Int) < (p.Plane.Drift.len:Int) by omega),dqB])
    h
theorem zIL (p:Plane) (h:p.Dead.len<=9223372036854775807):zu0 p=true/\(zpR p=true↔(∀ i,i < p.Dead.len->ddG p.Dead p.Strips i=true)/\true=true) :=
  zdz (good := (fun i => ddG p.Dead p.Strips i)) (fin := true) (n := p.Dead.len) (lpS := fun k i => ziQ p k i) (lpP := fun k i => ziR p k i)
    (λ k i hi=>by
      show zkn p (ziQ p k) (i:Int)=cond (ddG p.Dead p.Strips i) (ziQ p k (w64 ((i:Int)+(1:Int)))) false
      generalize ziQ p k=S
      unfold zkn
      rw[dqT (show (i:Int) < (p.Dead.len:Int) by omega),dqA,dqN]
      unfold zjE ddG
      cases s23 (p.Dead.get i) (0:Int) (w64 (p.Strips - (1:Int))) <;> cases decide ((i:Int) > (0:Int)) <;> cases decide (p.Dead.get i<=(p.Dead.get (w64 ((i:Int) - (1:Int))).toNat)) <;> rfl)
    (λ k=>by
      show zkn p (ziQ p k) (p.Dead.len:Int)=_
      unfold zkn
      rw[dqF (show ¬ (p.Dead.len:Int) < (p.Dead.len:Int) by omega),dqB])
    (λ k i hi=>by
      show zko p (ziR p k) (i:Int)=cond (ddG p.Dead p.Strips i) (ziR p k (w64 ((i:Int)+(1:Int)))) true
      generalize ziR p k=S
      unfold zko
      rw[dqT (show (i:Int) < (p.Dead.len:Int) by omega),dqA,dqN,dqT (show 0<=(i:Int)/\(i:Int) < (p.Dead.len:Int) by omega),Bool.true_and]
      unfold zjF ddG
      by_cases h0:(i:Int) > 0
      · rw [dqT (show 0 ≤ w64 ((i : Int) - (1:Int)) ∧ w64 ((i : Int) - (1:Int)) < (p.Dead.len : Int) by rw [zbs (by omega) (by omega)]; omega), dqT h0]
        cases s23 (p.Dead.get i) (0:Int) (w64 (p.Strips - (1:Int))) <;> cases decide (p.Dead.get i<=(p.Dead.get (w64 ((i:Int) - (1:Int))).toNat)) <;> rfl
      · rw [dqF h0]
        cases s23 (p.Dead.get i) (0:Int) (w64 (p.Strips - (1:Int))) <;> rfl)
    (λ k=>by
      show zko p (ziR p k) (p.Dead.len:Int)=_
      unfold zko
      rw[dqF (show ¬ (p.Dead.len:Int) < (p.Dead.len:Int) by omega),dqB])
    h
theorem zwE (a:placed) (h:a.Plane.Dead.len<=9223372036854775807):zjL a=true/\(zjK a=true↔(∀ i,i < a.Plane.Dead.len->ddG a.Plane.Dead a.Plane.Strips i=true)/\decide ((a.Plane.Dead.len:Int)<=(100:Int))=true) :=
  zdz (good := (fun i => ddG a.Plane.Dead a.Plane.Strips i)) (fin := decide ((a.Plane.Dead.len : Int) ≤ (100:Int))) (n := a.Plane.Dead.len) (lpS := fun k i => zgJ a k i) (lpP := fun k i => zgK a k i)
    (λ k i hi=>by
      show zhV a (zgJ a k) (i:Int)=cond (ddG a.Plane.Dead a.Plane.Strips i) (zgJ a k (w64 ((i:Int)+(1:Int)))) false
      generalize zgJ a k=S
      unfold zhV
      rw[dqT (show (i:Int) < (a.Plane.Dead.len:Int) by omega),dqA,dqN]
      unfold zjI ddG
      rw[show s65 (a.Plane.Dead.get i) (0:Int) (w64 (a.Plane.Strips - (1:Int)))=s23 (a.Plane.Dead.get i) (0:Int) (w64 (a.Plane.Strips - (1:Int))) from rfl]
      cases s23 (a.Plane.Dead.get i) (0:Int) (w64 (a.Plane.Strips - (1:Int))) <;> cases decide ((i:Int) > (0:Int)) <;> cases decide (a.Plane.Dead.get i<=(a.Plane.Dead.get (w64 ((i:Int) - (1:Int))).toNat)) <;> rfl)
    (λ k=>by
      show zhV a (zgJ a k) (a.Plane.Dead.len:Int)=_
      unfold zhV
      rw[dqF (show ¬ (a.Plane.Dead.len:Int) < (a.Plane.Dead.len:Int) by omega),dqB])
    (λ k i hi=>by
      show zhW a (zgK a k) (i:Int)=cond (ddG a.Plane.Dead a.Plane.Strips i) (zgK a k (w64 ((i:Int)+(1:Int)))) true
      generalize zgK a k=S
      unfold zhW
      rw[dqT (show (i:Int) < (a.Plane.Dead.len:Int) by omega),dqA,dqN,dqT (show 0<=(i:Int)/\(i:Int) < (a.Plane.Dead.len:Int) by omega),Bool.true_and]
      unfold zjJ ddG
      rw[show s65 (a.Plane.Dead.get i) (0:Int) (w64 (a.Plane.Strips - (1:Int)))=s23 (a.Plane.Dead.get i) (0:Int) (w64 (a.Plane.Strips - (1:Int))) from rfl]
      by_cases h0:(i:Int) > 0
      · rw [dqT (show 0 ≤ w64 ((i : Int) - (1:Int)) ∧ w64 ((i : Int) - (1:Int)) < (a.Plane.Dead.len : Int) by rw [zbs (by omega) (by omega)]; omega), dqT h0]
        cases s23 (a.Plane.Dead.get i) (0:Int) (w64 (a.Plane.Strips - (1:Int))) <;> cases decide (a.Plane.Dead.get i<=(a.Plane.Dead.get (w64 ((i:Int) - (1:Int))).toNat)) <;> rfl
      · rw [dqF h0]
        cases s23 (a.Plane.Dead.get i) (0:Int) (w64 (a.Plane.Strips - (1:Int))) <;> rfl)
    (λ k=>by
      show zhW a (zgK a k) (a.Plane.Dead.len:Int)=_
      unfold zhW
      rw[dqF (show ¬ (a.Plane.Dead.len:Int) < (a.Plane.Dead.len:Int) by omega),dqB])
    h
theorem zNg (a:placed) (h:a.Plane.Dead.len<=9223372036854775807):zl9 a=true/\(zl8 a=true↔(∀ i,i < a.Plane.Dead.len->ddG a.Plane.Dead a.Plane.Strips i=true)/\decide ((a.Plane.Dead.len:Int)<=(100:Int))=true):=by
 rw[show zl9 a=zjL a by kernel_rfl,show zl8 a=zjK a by kernel_rfl];exact zwE a h
theorem zNh (a:placed) (h:a.Plane.Dead.len<=9223372036854775807):zmd a=true/\(zmc a=true↔(∀ i,i < a.Plane.Dead.len->ddG a.Plane.Dead a.Plane.Strips i=true)/\decide ((a.Plane.Dead.len:Int)<=(100:Int))=true):=by
 rw[show zmd a=zjL a by kernel_rfl,show zmc a=zjK a by kernel_rfl];exact zwE a h
structure PlOk (p : Plane) : Prop where
  k:1<=p.Kind/\p.Kind<=3
  v:1<=p.View/\p.View<=2
  z:0<=p.Z/\p.Z<=100000
  f : -1000000<=p.First/\p.First<=1000000
  pt:2<=p.Pitch/\p.Pitch<=100000
  st:1<=p.Strips/\p.Strips<=2000
  sp:0<=p.Spill/\p.Spill<=100000
  o : -1000000<=p.Offset.Low/\p.Offset.Low<=p.Offset.High/\p.Offset.High<=1000000
  c : -1000000000<=p.Clock.Low/\p.Clock.Low<=p.Clock.High/\p.Clock.High<=1000000000
  j:0<=p.Jitter/\p.Jitter<=1000000
  l:0<=p.Least/\p.Least<=1000000
  e1 : -1000000<=w64 ((w64 ((w64 (p.First - p.Pitch)) - p.Spill))+p.Offset.Low)
  e2:w64 ((w64 ((w64 (p.First+(w64 ((w64 (p.Strips+(1:Int))) * p.Pitch))))+p.Spill))+p.Offset.High)<=1000000
  dr:p.Kind=2->zR5 p.Drift p.Pitch
  nd:p.Kind ≠ 2->p.Drift.len=0
  dl:p.Dead.len<=100
  dd:∀ i,i < p.Dead.len->ddG p.Dead p.Strips i=true
theorem zRh (p:Plane) (h1:p.Drift.len<=9223372036854775807) (h2:p.Dead.len<=9223372036854775807):p24 p=true:=by
 have h7:=(zIL p h2).1
 have h6:∀ b,zfY p b=true:=λ b=>by unfold zfY;rw[h7];cases b <;> rfl
 have h5:zpS p=true:=by
  unfold zpS
  simp only[h6,(zVg p.Drift p.Pitch h1).1,decide_true,Bool.true_and,Bool.cond_self]
 have h4:∀ b,ziT p b=true:=λ b=>by unfold ziT;rw[h5];cases b <;> rfl
 have h3:zpU p=true:=by unfold zpU;simp only[h4,Bool.cond_self]
 have h2:∀ b,zgF p b=true:=λ b=>by unfold zgF;rw[h3];cases b <;> rfl
 have h1:zpV p=true:=by unfold zpV;simp only[h2,Bool.cond_self]
 have h0:∀ b,zdG p b=true:=λ b=>by unfold zdG;rw[h1];cases b <;> rfl
 unfold p24 zu6
 simp only[h0,Bool.cond_self]
theorem zRi (p:Plane) (h1:p.Drift.len<=9223372036854775807) (h2:p.Dead.len<=9223372036854775807) (h:s24 p=true):PlOk p:=by
 have hd:=(zIL p h2).2
 have hr:=(zVg p.Drift p.Pitch h1).2
 unfold s24 zu5 at h
 have a1 : ¬ p.Kind < 1:=λ k=>by rw[dqT k] at h;cases h
 rw[dqF a1,dqB] at h
 have a2 : ¬ p.Kind > 3:=λ k=>by rw[dqT k] at h;cases h
 rw[dqF a2,dqB] at h
 have hv:(1<=p.View/\p.View<=2)/\(cond (!(s23 p.Z (0:Int) (100000:Int))) (zc1 p true) (cond (!(s51 p.First)) (zc1 p true) (cond (!(s23 p.Pitch (2:Int) (100000:Int))) (zc1 p true) (cond (!(s23 p.Strips (1:Int) (2000:Int))) (zc1 p true) (zc1 p (!(s23 p.Spill (0:Int) (100000:Int))))))))=true:=by
  by_cases v1:p.View=1
  ·rw [show (p.View != (1:Int)) = false by rw [v1]; rfl] at h
   exact⟨by omega,h⟩
  ·rw [show (p.View != (1:Int)) = true from bne_iff_ne.2 v1, dqA] at h
   by_cases v2:p.View=2
   ·rw [show (p.View != (2:Int)) = false by rw [v2]; rfl] at h
    exact⟨by omega,h⟩
   ·rw [show (p.View != (2:Int)) = true from bne_iff_ne.2 v2] at h
    cases h
 obtain⟨hv,h⟩:=hv
 unfold zc1 zu4 zhc zu3 zkp at h
 simp only[dqA,cF,Bool.not_not,zjV,zRg,dqm,decide_eq_true_eq,Bool.not_eq_true',decide_eq_false_iff_not] at h
 obtain⟨b1,b2,b3,b4,b5,b6,b7,b8,b9,b10,b11,b12,b13,b14,b15,h⟩:=h
 have hk:(p.Kind=2->zR5 p.Drift p.Pitch)/\(p.Kind ≠ 2->p.Drift.len=0)/\p.Dead.len<=100/\zpR p=true:=by
  unfold zu1 zgE at h
  simp only[dqA,cF,Bool.not_not] at h
  by_cases k2:p.Kind=2
  ·rw [show (p.Kind == (2:Int)) = true from beq_iff_eq.2 k2, show (p.Kind != (2:Int)) = false by rw [k2]; rfl, dqA, dqB] at h
   simp only[dqm,Bool.not_eq_true',decide_eq_false_iff_not] at h
   exact⟨λ _=>hr.1 h.1,λ k=>absurd k2 k,by omega,h.2.2⟩
  ·rw [show (p.Kind == (2:Int)) = false from dqU.2 k2, show (p.Kind != (2:Int)) = true from bne_iff_ne.2 k2, dqA, dqB] at h
   simp only[dqm,Bool.not_eq_true',decide_eq_false_iff_not] at h
   exact⟨λ k=>absurd k k2,λ _=>by omega,by omega,h.2.2⟩
 obtain⟨k1,k2,k3,k4⟩:=hk
 exact⟨by omega,hv,b1,b2,b3,b4,b5,⟨b6.1,by omega,b7.2⟩,⟨b9.1,by omega,b10.2⟩,b12,b13,b14.1,b15.2,k1,k2,k3,(hd.1 k4).1⟩
theorem zEo {p:Plane}(h:PlOk p) (i:Int):s88 ⟨p,i⟩=true:=by
 obtain⟨h1,h2,h3,h4,h5,h6,h7,h8,h9,h10,h11,h12,h13,_,_,_,_⟩:=h
 unfold s88 zvS znn zvQ znm zvO zkX zvN zL8
 simp only[dqA,cF,Bool.not_not,zjW]
 rw[dqT (show 1<=p.View/\p.View<=2 from h2),dqT (show 0<=p.Z/\p.Z<=100000 from h3),dqT (show -1000000<=p.First/\p.First<=1000000 from h4),
  dqT (show 2<=p.Pitch/\p.Pitch<=100000 from h5),dqT (show 1<=p.Strips/\p.Strips<=2000 from h6),dqT (show 0<=p.Spill/\p.Spill<=100000 from h7),
  dqT (show w64 (0 - (1000000:Int))<=p.Offset.Low/\p.Offset.Low<=p.Offset.High from ⟨h8.1,h8.2.1⟩),dqT (show p.Offset.High<=(1000000:Int) from h8.2.2),
  dqT (show w64 (0 - (1000000000:Int))<=p.Clock.Low/\p.Clock.Low<=p.Clock.High from ⟨h9.1,h9.2.1⟩),dqT (show p.Clock.High<=(1000000000:Int) from h9.2.2),
  dqT (show 0<=p.Jitter/\p.Jitter<=1000000 from h10),dqT (show 0<=p.Least/\p.Least<=1000000 from h11),dqT h12,dqT h13]
 rfl
theorem zIM {p:Plane}(h:PlOk p) (i:Int):p64 ⟨p,i⟩=true/\s64 ⟨p,i⟩=true:=by
 have hs:=zEo h i
 have hk:=h.k
 have hdl:=h.dl
 have hlen:(⟨p,i⟩:placed).Plane.Dead.len<=9223372036854775807:=by show p.Dead.len<=_;omega
 have keya:p.Kind=1->zR0 ⟨p,i⟩=true/\zRZ ⟨p,i⟩=true:=λ hk=>by
  obtain⟨d1,d2⟩:=zwE ⟨p,i⟩ hlen
  have d3:=d2.2 ⟨h.dd,dqT (by show (p.Dead.len:Int)<=100;omega)⟩
  have e:(⟨(⟨(1:Int),p.View,p.Z,p.First,p.Pitch,p.Strips,p.Spill,p.Offset,p.Clock,p.Jitter,p.Least,p.Drift,p.Dead⟩:Plane),i⟩:placed)=⟨p,i⟩:=by rw[<- hk]
  have f3:s85 ⟨p,i⟩=true:=beq_iff_eq.2 (by show (p.Drift.len:Int)=0;have:=h.nd (by omega);omega)
  unfold zR0 zRZ
  show cond (!(s65 (1:Int) (1:Int) (3:Int))) _ (cond (!(s88 ⟨(⟨(1:Int),p.View,p.Z,p.First,p.Pitch,p.Strips,p.Spill,p.Offset,p.Clock,p.Jitter,p.Least,p.Drift,p.Dead⟩:Plane),i⟩)) _ (zjN ⟨p,i⟩ (!(s85 ⟨(⟨(1:Int),p.View,p.Z,p.First,p.Pitch,p.Strips,p.Spill,p.Offset,p.Clock,p.Jitter,p.Least,p.Drift,p.Dead⟩:Plane),i⟩))))=true/\cond (!(s65 (1:Int) (1:Int) (3:Int))) _ (cond (!(s88 ⟨(⟨(1:Int),p.View,p.Z,p.First,p.Pitch,p.Strips,p.Spill,p.Offset,p.Clock,p.Jitter,p.Least,p.Drift,p.Dead⟩:Plane),i⟩)) _ (zjM ⟨p,i⟩ (!(s85 ⟨(⟨(1:Int),p.View,p.Z,p.First,p.Pitch,p.Strips,p.Spill,p.Offset,p.Clock,p.Jitter,p.Least,p.Drift,p.Dead⟩:Plane),i⟩))))=true
  rw[e,hs,show s65 (1:Int) (1:Int) (3:Int)=true from rfl,f3]
  exact⟨d1,d3⟩
 have keyb:p.Kind=2->zR2 ⟨p,i⟩=true/\zR1 ⟨p,i⟩=true:=λ hk=>by
  obtain⟨d1,d2⟩:=zNg ⟨p,i⟩ hlen
  have d3:=d2.2 ⟨h.dd,dqT (by show (p.Dead.len:Int)<=100;omega)⟩
  have e:(⟨(⟨(2:Int),p.View,p.Z,p.First,p.Pitch,p.Strips,p.Spill,p.Offset,p.Clock,p.Jitter,p.Least,p.Drift,p.Dead⟩:Plane),i⟩:placed)=⟨p,i⟩:=by rw[<- hk]
  obtain⟨f1,f2⟩:=zXi ⟨p,i⟩ (by show p.Drift.len<=_;have:=(h.dr hk).2;rw[zjV,decide_eq_true_eq] at this;omega)
  have f3:=f2.2 (h.dr hk)
  unfold zR2 zR1
  show cond (!(s65 (2:Int) (1:Int) (3:Int))) _ (cond (!(s88 ⟨(⟨(2:Int),p.View,p.Z,p.First,p.Pitch,p.Strips,p.Spill,p.Offset,p.Clock,p.Jitter,p.Least,p.Drift,p.Dead⟩:Plane),i⟩)) _ (decide (p86 ⟨(⟨(2:Int),p.View,p.Z,p.First,p.Pitch,p.Strips,p.Spill,p.Offset,p.Clock,p.Jitter,p.Least,p.Drift,p.Dead⟩:Plane),i⟩=true) && zjP ⟨p,i⟩ (!(s86 ⟨(⟨(2:Int),p.View,p.Z,p.First,p.Pitch,p.Strips,p.Spill,p.Offset,p.Clock,p.Jitter,p.Least,p.Drift,p.Dead⟩:Plane),i⟩))))=true/\cond (!(s65 (2:Int) (1:Int) (3:Int))) _ (cond (!(s88 ⟨(⟨(2:Int),p.View,p.Z,p.First,p.Pitch,p.Strips,p.Spill,p.Offset,p.Clock,p.Jitter,p.Least,p.Drift,p.Dead⟩:Plane),i⟩)) _ (zjO ⟨p,i⟩ (!(s86 ⟨(⟨(2:Int),p.View,p.Z,p.First,p.Pitch,p.Strips,p.Spill,p.Offset,p.Clock,p.Jitter,p.Least,p.Drift,p.Dead⟩:Plane),i⟩))))=true
  rw[e,hs,show s65 (2:Int) (1:Int) (3:Int)=true from rfl,f3,f1]
  exact⟨d1,d3⟩
 have keyc:p.Kind=3->zR4 ⟨p,i⟩=true/\zR3 ⟨p,i⟩=true:=λ hk=>by
  obtain⟨d1,d2⟩:=zNh ⟨p,i⟩ hlen
  have d3:=d2.2 ⟨h.dd,dqT (by show (p.Dead.len:Int)<=100;omega)⟩
  have e:(⟨(⟨(3:Int),p.View,p.Z,p.First,p.Pitch,p.Strips,p.Spill,p.Offset,p.Clock,p.Jitter,p.Least,p.Drift,p.Dead⟩:Plane),i⟩:placed)=⟨p,i⟩:=by rw[<- hk]
  have f3:s87 ⟨p,i⟩=true:=beq_iff_eq.2 (by show (p.Drift.len:Int)=0;have:=h.nd (by omega);omega)
  unfold zR4 zR3
  show cond (!(s65 (3:Int) (1:Int) (3:Int))) _ (cond (!(s88 ⟨(⟨(3:Int),p.View,p.Z,p.First,p.Pitch,p.Strips,p.Spill,p.Offset,p.Clock,p.Jitter,p.Least,p.Drift,p.Dead⟩:Plane),i⟩)) _ (zjR ⟨p,i⟩ (!(s87 ⟨(⟨(3:Int),p.View,p.Z,p.First,p.Pitch,p.Strips,p.Spill,p.Offset,p.Clock,p.Jitter,p.Least,p.Drift,p.Dead⟩:Plane),i⟩))))=true/\cond (!(s65 (3:Int) (1:Int) (3:Int))) _ (cond (!(s88 ⟨(⟨(3:Int),p.View,p.Z,p.First,p.Pitch,p.Strips,p.Spill,p.Offset,p.Clock,p.Jitter,p.Least,p.Drift,p.Dead⟩:Plane),i⟩)) _ (zjQ ⟨p,i⟩ (!(s87 ⟨(⟨(3:Int),p.View,p.Z,p.First,p.Pitch,p.Strips,p.Spill,p.Offset,p.Clock,p.Jitter,p.Least,p.Drift,p.Dead⟩:Plane),i⟩))))=true
  rw[e,hs,show s65 (3:Int) (1:Int) (3:Int)=true from rfl,f3]
  exact⟨d1,d3⟩
 unfold p64 s64
 by_cases k1:p.Kind=1
 ·rw[show ((⟨p,i⟩:placed).Plane.Kind == 1)=true from beq_iff_eq.2 k1];exact keya k1
 rw[show ((⟨p,i⟩:placed).Plane.Kind == 1)=false from dqU.2 k1]
 by_cases k2:p.Kind=2
 ·rw[show ((⟨p,i⟩:placed).Plane.Kind == 2)=true from beq_iff_eq.2 k2];exact keyb k2
 rw[show ((⟨p,i⟩:placed).Plane.Kind == 2)=false from dqU.2 k2]
 have k3:p.Kind=3:=by omega
 rw[show ((⟨p,i⟩:placed).Plane.Kind == 3)=true from beq_iff_eq.2 k3];exact keyc k3
end Go.Proofs
namespace Go.Proofs
open Go Go.Pm
set_option maxRecDepth 100000
set_option linter.unusedVariables false
theorem dlt (x y:Int):decide (x < y) = !decide (x >= y):=by
 by_cases h:x < y
 ·rw[dqT h,dqF (show ¬ x >= y by omega)];rfl
 ·rw[dqF h,dqT (show x >= y by omega)];rfl
theorem dgt (x y:Int):decide (x > y) = !decide (x<=y):=by
 by_cases h:x > y
 ·rw[dqT h,dqF (show ¬ x<=y by omega)];rfl
 ·rw[dqF h,dqT (show x<=y by omega)];rfl
structure TieOk (t : Tie) (nodes : Int) : Prop where
  f0:0<=t.From
  f1:t.From < nodes
  t0:0<=t.To
  t1:t.To < nodes
  ne:t.From ≠ t.To
  lo:t.Low = -1000000000000\/(-1000000000<=t.Low/\t.Low<=1000000000)
  hi:t.High=1000000000000\/(-1000000000<=t.High/\t.High<=1000000000)
  le:t.Low<=t.High
theorem zEp (t:Tie) (nodes:Int) (h1:1<=nodes) (h2:nodes<=40):s59 t nodes=true↔TieOk t nodes:=by
 have e:s59 t nodes=(decide (0<=t.From/\t.From < nodes) && (decide (0<=t.To/\t.To < nodes) && (!(t.From == t.To) && (((t.Low == (-1000000000000:Int)) || decide (-1000000000<=t.Low/\t.Low<=1000000000)) && (((t.High == (1000000000000:Int)) || decide (-1000000000<=t.High/\t.High<=1000000000)) && decide (t.Low<=t.High)))))):=by
  unfold s59 zpF zpE
  rw[zbs (x:=nodes - 1) (by omega) (by omega)]
  simp only[zjU]
  rw[decide_eq_decide.2 (show (0<=t.From/\t.From<=nodes - 1)↔(0<=t.From/\t.From < nodes) by omega),decide_eq_decide.2 (show (0<=t.To/\t.To<=nodes - 1)↔(0<=t.To/\t.To < nodes) by omega)]
  simp only[bne]
  generalize decide (0<=t.From/\t.From < nodes)=a
  generalize decide (0<=t.To/\t.To < nodes)=b
  generalize (t.From == t.To)=c
  generalize (t.Low == (-1000000000000:Int))=d
  generalize (t.High == (1000000000000:Int))=e
  generalize decide (-1000000000<=t.Low/\t.Low<=1000000000)=f
  generalize decide (-1000000000<=t.High/\t.High<=1000000000)=g
  generalize decide (t.Low<=t.High)=h
  cases a <;> cases b <;> cases c <;> cases d <;> cases e <;> cases f <;> cases g <;> cases h <;> rfl
 rw[e]
 simp only[dqm,Bool.or_eq_true,decide_eq_true_eq,Bool.not_eq_true',dqU,beq_iff_eq]
 constructor
 ·rintro⟨⟨a,b⟩,⟨c,d⟩,e,f,g,h⟩;exact⟨a,b,c,d,e,f,g,h⟩
 ·rintro⟨a,b,c,d,e,f,g,h⟩;exact⟨⟨a,b⟩,⟨c,d⟩,e,f,g,h⟩
structure NetOk (n : Net) : Prop where
  n1:1<=n.Nodes
  n40:n.Nodes<=40
  len:n.Ties.len<=200
  tie:∀ i,i < n.Ties.len->TieOk (n.Ties.get i) n.Nodes
theorem zwF (n:Net) (hn:n.Ties.len<=9223372036854775807):p32 n=true/\(s32 n=true↔NetOk n):=by
 obtain⟨h1,h2⟩:=zIK n hn
 refine⟨h1,h2.trans ?_⟩
 constructor
 ·rintro⟨a,⟨b,c⟩,d⟩;exact⟨b,c,by omega,λ i hi=>(zEp _ _ b c).1 (a i hi)⟩
 ·rintro⟨b,c,d,a⟩;exact⟨λ i hi=>(zEp _ _ b c).2 (a i hi),⟨b,c⟩,by omega⟩
structure ValOk (n : Net) (v : Sl Int) : Prop where
  len:(v.len:Int)=n.Nodes
  zero:v.get 0=0
  b:∀ i,i < v.len->-1000000000000<=v.get i/\v.get i<=1000000000000
def Keep (t:Tie) (v:Sl Int):Prop:=(t.Low = -1000000000000\/t.Low<=v.get t.To.toNat - v.get t.From.toNat)/\(t.High=1000000000000\/v.get t.To.toNat - v.get t.From.toNat<=t.High)
structure AgOk (n : Net) (v : Sl Int) : Prop where
  val:ValOk n v
  keep:∀ i,i < n.Ties.len->Keep (n.Ties.get i) v
def kpB (t:Tie) (zas:Sl Int):Bool :=
  (cond (t.Low == (-1000000000000:Int))
   (cond (t.High == (1000000000000:Int))
    true
    (decide ((w64 ((zas.get t.To.toNat) - (zas.get t.From.toNat)))<=t.High)))
   (cond (decide ((w64 ((zas.get t.To.toNat) - (zas.get t.From.toNat))) ≥ t.Low))
    (cond (t.High == (1000000000000:Int))
     true
     (decide ((w64 ((zas.get t.To.toNat) - (zas.get t.From.toNat)))<=t.High)))
    false))
theorem zEq (t:Tie) (n:Net) (v:Sl Int) (ht:TieOk t n.Nodes) (hv:ValOk n v):kpB t v=true↔Keep t v:=by
 have h1:=hv.b t.To.toNat (by have:=ht.t0;have:=ht.t1;have:=hv.len;omega)
 have h2:=hv.b t.From.toNat (by have:=ht.f0;have:=ht.f1;have:=hv.len;omega)
 have:=ht.f0;have:=ht.f1;have:=ht.t0;have:=ht.t1;have:=hv.len
 ·unfold kpB Keep
  rw[zbs (by omega) (by omega)]
  by_cases a:t.Low = -1000000000000
  ·rw [show (t.Low == (-1000000000000:Int)) = true from beq_iff_eq.2 a, dqA]
   by_cases b:t.High=1000000000000
   ·rw[show (t.High == (1000000000000:Int))=true from beq_iff_eq.2 b,dqA];exact⟨λ _=>⟨.inl a,.inl b⟩,λ _=>rfl⟩
   ·rw[show (t.High == (1000000000000:Int))=false from dqU.2 b,dqB,decide_eq_true_eq];exact⟨λ h=>⟨.inl a,.inr h⟩,λ h=>h.2.resolve_left b⟩
  ·rw [show (t.Low == (-1000000000000:Int)) = false from dqU.2 a, dqB]
   by_cases c:t.Low<=v.get t.To.toNat - v.get t.From.toNat
   ·rw [dqT (show v.get t.To.toNat - v.get t.From.toNat ≥ t.Low from c), dqA]
    by_cases b:t.High=1000000000000
    ·rw[show (t.High == (1000000000000:Int))=true from beq_iff_eq.2 b,dqA];exact⟨λ _=>⟨.inr c,.inl b⟩,λ _=>rfl⟩
    ·rw[show (t.High == (1000000000000:Int))=false from dqU.2 b,dqB,decide_eq_true_eq];exact⟨λ h=>⟨.inr c,.inr h⟩,λ h=>h.2.resolve_left b⟩
   ·rw [dqF (show ¬ v.get t.To.toNat - v.get t.From.toNat ≥ t.Low from c), dqB]
    exact⟨λ h=>absurd h dqk,λ h=>absurd (h.1.resolve_left a) c⟩
theorem zNi (n:Net) (v:Sl Int) (hn:NetOk n) (hg:s32 n=true) (hv:v.len<=9223372036854775807):p12 n v=true/\(s12 n v=true↔AgOk n v):=by
  have hlen:=hn.len
  have h1:=hn.n1
  unfold p12 s12
  rw[hg,(zIK n (by omega)).1]
  by_cases a:(v.len:Int)=n.Nodes
  · rw [show ((v.len : Int) != n.Nodes) = false by rw [a]; exact bne_self_eq_false _]
    by_cases b:v.get 0=0
    · rw [show (v.get 0 != (0:Int)) = false by rw [b]; rfl, dqT (show 0 ≤ (0:Int) ∧ (0:Int) < (v.len : Int) by omega)]
      have key:(∀ i,i < v.len->-1000000000000<=v.get i/\v.get i<=1000000000000)->zqj n v=true/\(znj n v=true↔∀ i,i < n.Ties.len->Keep (n.Ties.get i) v):=λ hb=>by
        have hV:ValOk n v:=⟨a,b,hb⟩
        have hl := zdz (good := fun i => kpB (n.Ties.get i) v) (fin := true) (n := n.Ties.len) (lpS := zkR n v) (lpP := zkS n v)
          (λ k i hi=>by
            show zkP n v (zkR n v k) (i:Int)=_
            generalize zkR n v k=S
            unfold zkP kpB
            rw[dqT (show (i:Int) < (n.Ties.len:Int) by omega),dqA,dqN]
            simp only[bne,dlt,dgt];cases (n.Ties.get i).Low == (-1000000000000:Int) <;> cases (n.Ties.get i).High == (1000000000000:Int) <;> cases decide (w64 (v.get (n.Ties.get i).To.toNat - v.get (n.Ties.get i).From.toNat) >= (n.Ties.get i).Low) <;> cases decide (w64 (v.get (n.Ties.get i).To.toNat - v.get (n.Ties.get i).From.toNat)<=(n.Ties.get i).High) <;> rfl)
          (λ k=>by
            show zkP n v (zkR n v k) (n.Ties.len:Int)=_
            unfold zkP
            rw[dqF (show ¬ (n.Ties.len:Int) < (n.Ties.len:Int) by omega),dqB])
          (λ k i hi=>by
            show zkQ n v (zkS n v k) (i:Int)=_
            generalize zkS n v k=S
            unfold zkQ kpB
            rw[dqT (show (i:Int) < (n.Ties.len:Int) by omega),dqA,dqN,dqT (show 0<=(i:Int)/\(i:Int) < (n.Ties.len:Int) by omega),Bool.true_and,dqT (show 0<=(n.Ties.get i).To/\(n.Ties.get i).To < (v.len:Int) from ⟨(hn.tie i hi).t0,by rw[a];exact (hn.tie i hi).t1⟩),dqT (show 0<=(n.Ties.get i).From/\(n.Ties.get i).From < (v.len:Int) from ⟨(hn.tie i hi).f0,by rw[a];exact (hn.tie i hi).f1⟩),Bool.true_and,Bool.true_and]
            simp only[bne,dlt,dgt];cases (n.Ties.get i).Low == (-1000000000000:Int) <;> cases (n.Ties.get i).High == (1000000000000:Int) <;> cases decide (w64 (v.get (n.Ties.get i).To.toNat - v.get (n.Ties.get i).From.toNat) >= (n.Ties.get i).Low) <;> cases decide (w64 (v.get (n.Ties.get i).To.toNat - v.get (n.Ties.get i).From.toNat)<=(n.Ties.get i).High) <;> rfl)
          (λ k=>by
            show zkQ n v (zkS n v k) (n.Ties.len:Int)=_
            unfold zkQ
            rw[dqF (show ¬ (n.Ties.len:Int) < (n.Ties.len:Int) by omega),dqB])
          (by omega)
        exact⟨hl.1,hl.2.trans ⟨λ h i hi=>(zEq _ n v (hn.tie i hi) hV).1 (h.1 i hi),λ h=>⟨λ i hi=>(zEq _ n v (hn.tie i hi) hV).2 (h i hi),rfl⟩⟩⟩
      by_cases hb:∀ i,i < v.len->-1000000000000<=v.get i/\v.get i<=1000000000000
      · obtain ⟨k1, k2⟩ := key hb
        have hl := zdz (good := fun i => s31 (v.get i) (-1000000000000:Int) (1000000000000:Int)) (fin := znj n v) (n := v.len) (lpS := zf1 n v) (lpP := zf2 n v)
          (λ k i hi=>by
            show zfZ n v (zf1 n v k) (i:Int)=_
            generalize zf1 n v k=S
            unfold zfZ zqk
            rw[dqT (show (i:Int) < (v.len:Int) by omega),dqA,dqN]
            cases s31 (v.get i) (-1000000000000:Int) (1000000000000:Int) <;> rfl)
          (λ k=>by
            show zfZ n v (zf1 n v k) (v.len:Int)=_
            unfold zfZ
            rw[dqF (show ¬ (v.len:Int) < (v.len:Int) by omega),dqB])
          (λ k i hi=>by
            show zf0 n v (zf2 n v k) (i:Int)=_
            generalize zf2 n v k=S
            unfold zf0 zql
            rw[dqT (show (i:Int) < (v.len:Int) by omega),dqA,dqN,dqT (show 0<=(i:Int)/\(i:Int) < (v.len:Int) by omega),Bool.true_and]
            cases s31 (v.get i) (-1000000000000:Int) (1000000000000:Int) <;> rfl)
          (λ k=>by
            show zf0 n v (zf2 n v k) (v.len:Int)=_
            unfold zf0
            rw[dqF (show ¬ (v.len:Int) < (v.len:Int) by omega),dqB];exact k1)
          hv
        refine⟨by unfold zkU zqp zqn;rw[hl.1];rfl,?_⟩
        unfold zkT zqo zqm
        refine Iff.trans (Iff.trans (by rfl) hl.2) ?_
        rw[k2]
        exact⟨λ h=>⟨⟨a,b,hb⟩,h.2⟩,λ h=>⟨λ i hi=>by rw[zjU];exact dqT (hb i hi),h.keep⟩⟩
      · have hb' : ¬ ∀ i, i < v.len → s31 (v.get i) (-1000000000000:Int) (1000000000000:Int) = true := fun h => hb fun i hi => by have := h i hi; rw [zjU] at this; exact of_decide_eq_true this
        have hl := zqN (good := fun i => s31 (v.get i) (-1000000000000:Int) (1000000000000:Int)) (bad := false) (fin := znj n v) (finP := zqj n v) (n := v.len) (lpS := zf1 n v) (lpP := zf2 n v)
          (λ k i hi=>by
            show zfZ n v (zf1 n v k) (i:Int)=_
            generalize zf1 n v k=S
            unfold zfZ zqk
            rw[dqT (show (i:Int) < (v.len:Int) by omega),dqA,dqN]
            cases s31 (v.get i) (-1000000000000:Int) (1000000000000:Int) <;> rfl)
          (λ k=>by
            show zfZ n v (zf1 n v k) (v.len:Int)=_
            unfold zfZ
            rw[dqF (show ¬ (v.len:Int) < (v.len:Int) by omega),dqB])
          (λ k i hi=>by
            show zf0 n v (zf2 n v k) (i:Int)=_
            generalize zf2 n v k=S
            unfold zf0 zql
            rw[dqT (show (i:Int) < (v.len:Int) by omega),dqA,dqN,dqT (show 0<=(i:Int)/\(i:Int) < (v.len:Int) by omega),Bool.true_and]
            cases s31 (v.get i) (-1000000000000:Int) (1000000000000:Int) <;> rfl)
          (λ k=>by
            show zf0 n v (zf2 n v k) (v.len:Int)=_
            unfold zf0
            rw[dqF (show ¬ (v.len:Int) < (v.len:Int) by omega),dqB])
          hv
        obtain⟨k1,k2⟩:=hl.2 hb'
        refine⟨by unfold zkU zqp zqn;rw[k1];rfl,?_⟩
        unfold zkT zqo zqm
        rw[k2]
        exact⟨λ h=>absurd h dqk,λ h=>absurd h.val.b hb⟩
    · rw [show (v.get 0 != (0:Int)) = true from bne_iff_ne.2 b, dqT (show 0 ≤ (0:Int) ∧ (0:Int) < (v.len : Int) by omega)]
      exact⟨rfl,λ h=>absurd h dqk,λ h=>absurd h.val.zero b⟩
  · rw [show ((v.len : Int) != n.Nodes) = true from bne_iff_ne.2 a]
    exact⟨rfl,λ h=>absurd h dqk,λ h=>absurd h.val.len a⟩
end Go.Proofs
namespace Go.Pm
structure Ed where
  u:Nat
  v:Nat
  w:Int
def wt : List Ed → Int
  | []=>0
  | e :: l=>e.w+wt l
theorem zoP (c d:List Ed):wt (c ++ d)=wt c+wt d:=by
 induction c with
 | nil=>show wt d=0+wt d;omega
 | cons e l ih=>show e.w+wt (l ++ d)=e.w+wt l+wt d;omega
theorem ztp (e:Ed):wt [e]=e.w:=Int.add_zero _
def zii (E : List Ed) : Nat → List Ed → Nat → Prop
  | a,[],b=>a=b
  | a,e :: l,b=>e∈E/\e.u=a/\zii E e.v l b
theorem zhY {E:List Ed}{c d:List Ed}{a b:Nat} : zii E a (c ++ d) b↔∃ m,zii E a c m/\zii E m d b:=by
 induction c generalizing a with
 | nil=>exact⟨λ h=>⟨a,rfl,h⟩,λ ⟨m,h1,h2⟩=>by cases h1;exact h2⟩
 | cons e l ih =>
  constructor
  ·rintro ⟨h1, h2, h3⟩
   obtain⟨m,k1,k2⟩:=ih.1 h3
   exact⟨m,⟨h1,h2,k1⟩,k2⟩
  ·rintro ⟨m, ⟨h1, h2, h3⟩, h4⟩
   exact⟨h1,h2,ih.2 ⟨m,h3,h4⟩⟩
theorem zjX {E:List Ed}{e:Ed}(h:e∈E):zii E e.u [e] e.v:=⟨h,rfl,rfl⟩
def zc4 (E:List Ed):Prop:=∀ a c,zii E a c a->0<=wt c
abbrev zey:=Nat->Option Int
def zyE (d:zey) (v:Nat) (x:Int):zey:=λ j=>if j=v then some x else d j
def ltO (x : Int) : Option Int → Bool
  | none=>true
  | some y=>decide (x < y)
def rlF (s:zey×Bool) (e:Ed):zey×Bool :=
 match s.1 e.u with
 | none=>s
 | some x=>cond (ltO (x+e.w) (s.1 e.v)) (zyE s.1 e.v (x+e.w),true) s
def Sat (d:zey) (e:Ed):Prop:=∀ x,d e.u=some x->∃ y,d e.v=some y/\y<=x+e.w
theorem ztq {x:Int}{o:Option Int}(h:ltO x o=false):∃ y,o=some y/\y<=x:=by
 cases o with
 | none=>cases h
 | some y=>exact⟨y,rfl,Int.not_lt.1 (of_decide_eq_false h)⟩
theorem zRj {x y:Int}(h:y<=x):ltO x (some y)=false:=dqF (Int.not_lt.2 h)
theorem zEr {d:zey}{c:Bool}{e:Ed}(h:Sat d e):rlF (d,c) e=(d,c):=by
 unfold rlF
 cases hu:d e.u with
 | none=>simp only[hu]
 | some x =>
  obtain⟨y,h1,h2⟩:=h x hu
  simp only[hu,h1,zRj h2,dqB]
theorem zNj {d:zey}{c:Bool}{e:Ed}(h : ¬ Sat d e):(rlF (d,c) e).2=true:=by
 unfold rlF
 cases hu:d e.u with
 | none=>exact absurd (λ x hx=>by rw[hu] at hx;cases hx) h
 | some x =>
  simp only[hu]
  cases hl:ltO (x+e.w) (d e.v)
  ·obtain ⟨y, h1, h2⟩ := ztq hl
   exact absurd (λ x' hx'=>⟨y,h1,by rw[hu] at hx';cases hx';exact h2⟩) h
  ·rfl
theorem zGX {s:zey×Bool}{e:Ed}(h:s.2=true):(rlF s e).2=true:=by
 unfold rlF
 cases s.1 e.u with
 | none=>exact h
 | some x=>simp only[];cases ltO (x+e.w) (s.1 e.v) <;> first | exact h | rfl
theorem zEs {E:List Ed}{s:zey×Bool}(h:s.2=true):(E.foldl rlF s).2=true:=by
 induction E generalizing s with
 | nil=>exact h
 | cons e l ih=>exact ih (zGX h)
theorem zme {E:List Ed}{d:zey}{c:Bool}(h:∀ e∈E,Sat d e):E.foldl rlF (d,c)=(d,c):=by
 induction E with
 | nil=>rfl
 | cons e l ih =>
  show l.foldl rlF (rlF (d,c) e)=_
  rw[zEr (h e (dqj ..))]
  exact ih λ e he=>h e (dqf _ he)
theorem zlg {E:List Ed}{d:zey}{c:Bool}(h:(E.foldl rlF (d,c)).2=false):∀ e∈E,Sat d e:=by
 induction E with
 | nil=>intro e he;cases he
 | cons e l ih =>
  have h':(l.foldl rlF (rlF (d,c) e)).2=false:=h
  have hs:Sat d e:=Classical.byContradiction λ hn=>by
   rw[zEs (zNj hn)] at h';cases h'
  rw[zEr hs] at h'
  intro e' he'
  rcases dqq.1 he' with rfl | hm
  ·exact hs
  ·exact ih h' e' hm
def leO (a b:Option Int):Prop:=∀ y,b=some y->∃ x,a=some x/\x<=y
theorem zhZ (a:Option Int):leO a a:=λ y h=>⟨y,h,Int.le_refl _⟩
theorem zhN {a b c:Option Int}(h1:leO a b) (h2:leO b c):leO a c:=λ y h=>by
 obtain⟨x,hx,hxy⟩:=h2 y h
 obtain⟨z,hz,hzx⟩:=h1 x hx
 exact⟨z,hz,Int.le_trans hzx hxy⟩
theorem zEt (s:zey×Bool) (e:Ed) (v:Nat):leO ((rlF s e).1 v) (s.1 v):=by
 unfold rlF
 cases hu:s.1 e.u with
 | none=>exact zhZ _
 | some x =>
  simp only[]
  cases hl:ltO (x+e.w) (s.1 e.v)
  ·exact zhZ _
  ·show leO (zyE s.1 e.v (x + e.w) v) _
   unfold zyE
   by_cases hv:v=e.v
   ·rw [dqP hv]
    intro y hy
    refine⟨_,rfl,?_⟩
    rw[hv] at hy
    rw[hy] at hl
    exact Int.le_of_lt (of_decide_eq_true hl)
   ·rw[dqG hv];exact zhZ _
theorem zEu (E:List Ed) (s:zey×Bool) (v:Nat):leO ((E.foldl rlF s).1 v) (s.1 v):=by
 induction E generalizing s with
 | nil=>exact zhZ _
 | cons e l ih=>exact zhN (ih (rlF s e)) (zEt s e v)
theorem zRk {s:zey×Bool}{e:Ed}{x:Int}(h:s.1 e.u=some x):leO ((rlF s e).1 e.v) (some (x+e.w)):=by
 unfold rlF
 simp only[h]
 cases hl:ltO (x+e.w) (s.1 e.v)
 ·obtain ⟨y, h1, h2⟩ := ztq hl
  intro z hz;cases hz
  exact⟨y,h1,h2⟩
 ·intro z hz; cases hz
  exact⟨x+e.w,by show zyE s.1 e.v (x+e.w) e.v=_;unfold zyE;rw[dqP rfl],Int.le_refl _⟩
theorem zGY {E:List Ed}{s:zey×Bool}{e:Ed}{x:Int}(he:e∈E) (h:s.1 e.u=some x):leO ((E.foldl rlF s).1 e.v) (some (x+e.w)):=by
 induction E generalizing s x with
 | nil=>cases he
 | cons f l ih =>
  rcases dqq.1 he with rfl | hm
  ·exact zhN (zEu l (rlF s e) e.v) (zRk h)
  ·obtain ⟨x', h1, h2⟩ := zEt s f e.u x h
   intro z hz;cases hz
   obtain⟨y,k1,k2⟩:=ih hm h1 _ rfl
   exact⟨y,k1,by omega⟩
def rnd (E:List Ed) (d:zey):zey:=(E.foldl rlF (d,false)).1
def rds (E : List Ed) : Nat → zey → zey
  | 0,d=>d
  | k+1,d=>rds E k (rnd E d)
theorem zyF (E:List Ed) (k:Nat) (d:zey) (v:Nat):leO (rds E k d v) (d v):=by
 induction k generalizing d with
 | zero=>exact zhZ _
 | succ k ih=>exact zhN (ih (rnd E d)) (zEu E (d,false) v)
theorem zRl {E:List Ed}{c:List Ed} : ∀ {a b k:Nat}{d:zey}{y:Int},zii E a c b->d a=some y->c.length<=k->leO (rds E k d b) (some (y+wt c)):=by
 induction c with
 | nil =>
  intro a b k d y h hd _
  cases h
  intro z hz;cases hz
  obtain⟨x,h1,h2⟩:=zyF E k d a y hd
  exact⟨x,h1,by show x<=y+0;omega⟩
 | cons e l ih =>
  intro a b k d y h hd hk
  obtain⟨k,rfl⟩:∃ k',k=k'+1:=⟨k - 1,by simp only[dqr] at hk;omega⟩
  obtain⟨h1,h2,h3⟩:=h
  subst h2
  obtain⟨x,k1,k2⟩:=zGY (s:=(d,false)) h1 hd _ rfl
  intro z hz;cases hz
  obtain⟨z,m1,m2⟩:=ih (k:=k) (d:=rnd E d) h3 k1 (by simp only[dqr] at hk;omega) _ rfl
  exact⟨z,m1,by show z<=y+(e.w+wt l);omega⟩
def Fix (E:List Ed) (d:zey):Prop:=∀ e∈E,Sat d e
theorem znX {E:List Ed}{d:zey}(h:Fix E d):rnd E d=d:=by unfold rnd;rw[zme h]
theorem zEv {E:List Ed}{d:zey}(h:Fix E d) (k:Nat):rds E k d=d:=by
 induction k with
 | zero=>rfl
 | succ k ih=>show rds E k (rnd E d)=d;rw[znX h,ih]
theorem ztr (n:Nat):∀ {l:List Nat},l.Nodup->(∀ x∈l,x < n)->l.length<=n:=by
 induction n with
 | zero =>
  intro l _ h
  cases l with
  | nil=>exact dqt _
  | cons x l=>exact absurd (h x (dqj ..)) (dqW _)
 | succ n ih =>
  intro l hd h
  have h1:=ih (l:=l.filter (λ x=>x != n)) (hd.filter _) (λ x hx=>by
   obtain⟨hx1,hx2⟩:=List.mem_filter.1 hx
   have:=h x hx1
   have:x ≠ n:=by simpa using hx2
   omega)
  have h2:l.length<=(l.filter (λ x=>x != n)).length+1:=by
   clear h1 ih h
   induction l with
   | nil=>exact Nat.zero_le _
   | cons x l ihl =>
    rw[List.nodup_cons] at hd
    by_cases hx:x=n
    ·subst hx
     have:l.filter (λ y=>y != x)=l:=List.filter_eq_self.2 λ y hy=>by
      have:y ≠ x:=λ e=>hd.1 (e ▸ hy)
      simpa using this
     rw[List.filter_cons_of_neg (by simp),this]
     exact dqt _
    ·rw [List.filter_cons_of_pos (by simpa using hx)]
     have:=ihl hd.2
     simp only[dqr];omega
  omega
def nodes (a:Nat) (c:List Ed):List Nat:=a :: c.map Ed.v
theorem zts (a:Nat) (c:List Ed):(nodes a c).length=c.length+1:=by simp[nodes]
theorem zGZ {E:List Ed}{c:List Ed} : ∀ {a b m:Nat},zii E a c b->m∈nodes a c->∃ c1 c2,c=c1 ++ c2/\zii E a c1 m/\zii E m c2 b:=by
 induction c with
 | nil =>
  intro a b m h hm
  have:m=a:=by simpa [nodes] using hm
  subst this
  exact⟨[],[],rfl,rfl,h⟩
 | cons e l ih =>
  intro a b m h hm
  rcases dqq.1 hm with rfl | hm'
  ·exact⟨[],e :: l,rfl,rfl,h⟩
  ·obtain ⟨h1, h2, h3⟩ := h
   obtain⟨c1,c2,k1,k2,k3⟩:=ih h3 (m:=m) (by simpa [nodes] using hm')
   exact⟨e :: c1,c2,by rw[k1];rfl,⟨h1,h2,k2⟩,k3⟩
structure Att (E : List Ed) (Src : Nat → Prop) (d : zey) (v : Nat) (x : Int) (a : Nat) (c : List Ed) : Prop where
  src:Src a
  ch:zii E a c v
  wt:x=wt c
  nd:(nodes a c).Nodup
  pre:∀ c1 c2 m,c=c1 ++ c2->zii E a c1 m->leO (d m) (some (Go.Pm.wt c1))
def Inv (E:List Ed) (Src:Nat->Prop) (d:zey):Prop:=∀ v x,d v=some x->∃ a c,Att E Src d v x a c
theorem zRm {d d':zey}{E:List Ed}{Src:Nat->Prop}{v:Nat}{x:Int}{a:Nat}{c:List Ed}(h:Att E Src d v x a c) (hd:∀ m,leO (d' m) (d m)):Att E Src d' v x a c :=
 ⟨h.src,h.ch,h.wt,h.nd,λ c1 c2 m h1 h2=>zhN (hd m) (h.pre c1 c2 m h1 h2)⟩
theorem zyG {d:zey}{E:List Ed}{Src:Nat->Prop}(hn:zc4 E){e:Ed}(he:e∈E){x:Int}{a:Nat}{c:List Ed}(h:Att E Src d e.u x a c) (hm:e.v∈nodes a c):leO (d e.v) (some (x+e.w)):=by
 obtain⟨c1,c2,k1,k2,k3⟩:=zGZ h.ch hm
 have hc:=hn e.v (c2 ++ [e]) (zhY.2 ⟨e.u,k3,zjX he⟩)
 rw[zoP,ztp] at hc
 have hx:=h.wt
 rw[k1,zoP] at hx
 obtain⟨y,m1,m2⟩:=h.pre c1 c2 e.v k1 k2 _ rfl
 intro z hz;cases hz
 exact⟨y,m1,by omega⟩
theorem zG0 {E:List Ed}{c:List Ed} : ∀ {a b b':Nat},zii E a c b->zii E a c b'->b=b':=by
 induction c with
 | nil=>intro a b b' h1 h2;cases h1;cases h2;rfl
 | cons e l ih=>rintro a b b' ⟨_,_,h1⟩ ⟨_,_,h2⟩;exact ih h1 h2
theorem zqP {c c1 c2:List Ed}{e:Ed}(h:c ++ [e]=c1 ++ c2):c1=c ++ [e]\/∃ c3,c=c1 ++ c3:=by
 rcases List.append_eq_append_iff.1 h with ⟨a',h1,h2⟩ | ⟨c',h1,_⟩
 ·cases a' with
  | nil=>exact .inr ⟨[],by rw[h1];simp⟩
  | cons f a'' =>
   have:a''=[]/\c2=[]:=by
    cases a'' with
    | nil=>simp at h2;exact⟨rfl,h2.2⟩
    | cons g b=>simp at h2
   obtain⟨rfl,rfl⟩:=this
   simp at h2
   exact .inl (by rw[h1,h2])
 ·exact .inr ⟨c',h1⟩
theorem znY {E:List Ed}{Src:Nat->Prop}(hn:zc4 E){s:zey×Bool}{e:Ed}(he:e∈E) (h:Inv E Src s.1):Inv E Src (rlF s e).1:=by
 intro v x hx
 have hle:=zEt s e
 unfold rlF at hx hle ⊢
 cases hu:s.1 e.u with
 | none =>
  simp only[hu] at hx ⊢
  obtain⟨a,c,hc⟩:=h v x hx
  exact⟨a,c,hc⟩
 | some y =>
  simp only[hu] at hx hle ⊢
  cases hl:ltO (y+e.w) (s.1 e.v) with
  | false =>
   simp only[hl,dqB] at hx ⊢
   exact h v x hx
  | true =>
   simp only[hl,dqA] at hx hle ⊢
   by_cases hv:v=e.v
   ·subst hv
    have hx':y+e.w=x:=by
     unfold zyE at hx;rw[dqP rfl] at hx;exact Option.some.inj hx
    obtain⟨a,c,hc⟩:=h e.u y hu
    have hnot:e.v ∉ nodes a c:=λ hm=>by
     obtain⟨z,h1,h2⟩:=zyG hn he hc hm _ rfl
     rw[h1] at hl
     have:=of_decide_eq_true hl
     omega
    refine⟨a,c ++ [e],hc.src,zhY.2 ⟨e.u,hc.ch,zjX he⟩,by rw[zoP,ztp,<- hc.wt];omega,?_,?_⟩
    ·show (a :: (c ++ [e]).map Ed.v).Nodup
     rw[List.map_append,<- List.cons_append]
     refine List.nodup_append.2 ⟨hc.nd,by simp,λ p hp q hq=>?_⟩
     have:q=e.v:=by simpa using hq
     subst this
     exact λ e'=>hnot (e' ▸ hp)
    ·intro c1 c2 m h1 h2
     rcases zqP h1 with rfl | ⟨c3,h3⟩
     ·have : m = e.v := zG0 h2 (zhY.2 ⟨e.u, hc.ch, zjX he⟩)
      subst this
      intro z hz;cases hz
      refine⟨x,hx,?_⟩
      rw[zoP,ztp,<- hc.wt];omega
     ·exact zhN (hle m) (hc.pre c1 c3 m h3 h2)
   ·have hx':s.1 v=some x:=by
     unfold zyE at hx;rw[dqG hv] at hx;exact hx
    obtain⟨a,c,hc⟩:=h v x hx'
    exact⟨a,c,zRm hc hle⟩
theorem zqQ {E F:List Ed}{Src:Nat->Prop}(hn:zc4 E) (hF:∀ e∈F,e∈E){s:zey×Bool}(h:Inv E Src s.1):Inv E Src (F.foldl rlF s).1:=by
 induction F generalizing s with
 | nil=>exact h
 | cons e l ih=>exact ih (λ e he=>hF e (dqf _ he)) (znY hn (hF e (dqj ..)) h)
theorem zEw {E:List Ed}{Src:Nat->Prop}(hn:zc4 E) (k:Nat){d:zey}(h:Inv E Src d):Inv E Src (rds E k d):=by
 induction k generalizing d with
 | zero=>exact h
 | succ k ih=>exact ih (zqQ hn (λ _ h=>h) (s:=(d,false)) h)
structure Start (Src : Nat → Prop) (d : zey) : Prop where
  only:∀ v x,d v=Option.some x->Src v/\x=0
  src:∀ v,Src v->d v=Option.some 0
theorem zjY {E:List Ed}{Src:Nat->Prop}{d:zey}(h:Start Src d):Inv E Src d:=λ v x hx=>by
 obtain⟨h1,h2⟩:=h.only v x hx
 refine⟨v,[],h1,rfl,h2,by simp[nodes],λ c1 c2 m e hc=>?_⟩
 have:c1=[]:=by
  cases c1 with
  | nil=>rfl
  | cons _ _=>cases e
 subst this
 cases hc
 rw[hx,h2]
 exact zhZ _
theorem zyH {E:List Ed}{n:Nat}(hE:∀ e∈E,e.u < n/\e.v < n){c:List Ed} : ∀ {a b:Nat},a < n->zii E a c b->∀ x∈nodes a c,x < n:=by
  induction c with
  | nil => intro a b ha _ x hx; have : x = a := by simpa [nodes] using hx
           omega
  | cons e l ih =>
    rintro a b ha ⟨h1,h2,h3⟩ x hx
    rcases dqq.1 hx with rfl | hm
    · exact ha
    · exact ih (hE e h1).2 h3 x (by simpa [nodes] using hm)
theorem zNk {E:List Ed}{n:Nat}{Src:Nat->Prop}(hE:∀ e∈E,e.u < n/\e.v < n) (hS:∀ a,Src a->a < n){d:zey}{v:Nat}{x:Int}{a:Nat}{c:List Ed}(h:Att E Src d v x a c):c.length+1<=n:=by
 have:=ztr n h.nd (zyH hE (hS a h.src) h.ch)
 rwa[zts] at this
theorem zIN {E:List Ed}{n:Nat}{Src:Nat->Prop}(hn:zc4 E) (hE:∀ e∈E,e.u < n/\e.v < n) (hS:∀ a,Src a->a < n){d:zey}(h0:Start Src d):Fix E (rds E (n - 1) d):=by
 intro e he x hx
 obtain⟨a,c,hc⟩:=zEw hn (n - 1) (zjY (E:=E) h0) e.u x hx
 by_cases hm:e.v∈nodes a c
 ·exact zyG hn he hc hm _ rfl
 ·have hlen:(c ++ [e]).length<=n - 1:=by
   have hnd:(nodes a (c ++ [e])).Nodup:=by
    show (a :: (c ++ [e]).map Ed.v).Nodup
    rw[List.map_append,<- List.cons_append]
    refine List.nodup_append.2 ⟨hc.nd,by simp,λ p hp q hq=>?_⟩
    have:q=e.v:=by simpa using hq
    subst this
    exact λ e'=>hm (e' ▸ hp)
   have hch:zii E a (c ++ [e]) e.v:=zhY.2 ⟨e.u,hc.ch,zjX he⟩
   have:=ztr n hnd (zyH hE (hS a hc.src) hch)
   rw[zts] at this
   omega
  have:=zRl (zhY.2 ⟨e.u,hc.ch,zjX he⟩) (h0.src a hc.src) hlen _ rfl
  rw[zoP,ztp,<- hc.wt] at this
  obtain⟨z,h1,h2⟩:=this
  exact⟨z,h1,by omega⟩
theorem zIO {E:List Ed}{f:Nat->Int}(h:∀ e∈E,f e.v<=f e.u+e.w){c:List Ed} : ∀ {a b:Nat},zii E a c b->f b<=f a+wt c:=by
 induction c with
 | nil=>intro a b hc;cases hc;show f a<=f a+0;omega
 | cons e l ih =>
  rintro a b ⟨h1,h2,h3⟩
  subst h2
  have:=ih h3
  have:=h e h1
  show f b<=f e.u+(e.w+wt l);omega
theorem ztt {E:List Ed}{f:Nat->Int}(h:∀ e∈E,f e.v<=f e.u+e.w):zc4 E:=λ a c hc=>by
 have:=zIO h hc;omega
end Go.Pm
namespace Go.Pm
theorem zIP {E:List Ed}{f:Ed->Ed}(hu:∀ e,(f e).u=e.u) (hv:∀ e,(f e).v=e.v){c:List Ed} : ∀ {a b:Nat},zii (E.map f) a c b->∃ c0,c=c0.map f/\zii E a c0 b:=by
 induction c with
 | nil=>intro a b h;exact⟨[],rfl,h⟩
 | cons e l ih =>
  rintro a b ⟨h1,h2,h3⟩
  obtain⟨e0,k1,rfl⟩:=dqz.1 h1
  obtain⟨c0,k2,k3⟩:=ih h3
  exact⟨e0 :: c0,by rw[k2];rfl,k1,by rw[<- hu];exact h2,by rw[<- hv];exact k3⟩
def edM (e:Ed):Ed:=⟨e.u,e.v,e.w * 1048576+1⟩
def edR (e:Ed):Ed:=⟨e.v,e.u,e.w⟩
theorem zVh (c:List Ed):wt (c.map edM)=wt c * 1048576+c.length:=by
 induction c with
 | nil=>rfl
 | cons e l ih =>
  show e.w * 1048576+1+wt (l.map edM)=(e.w+wt l) * 1048576+((l.length+1:Nat):Int)
  omega
theorem zVi (c:List Ed):wt (c.reverse.map edR)=wt c:=by
 induction c with
 | nil=>rfl
 | cons e l ih =>
  rw[List.reverse_cons,List.map_append,zoP,ih]
  show wt l+wt [edR e]=e.w+wt l
  rw[ztp]
  show wt l+e.w=_
  omega
theorem zVj {E:List Ed}{c:List Ed} : ∀ {a b:Nat},zii E a c b->zii (E.map edR) b (c.reverse.map edR) a:=by
 induction c with
 | nil=>intro a b h;exact Eq.symm h
 | cons e l ih =>
  rintro a b ⟨h1,h2,h3⟩
  rw[List.reverse_cons,List.map_append]
  exact zhY.2 ⟨e.v,ih h3,List.mem_map_of_mem h1,rfl,h2⟩
theorem zRn (E:List Ed):(E.map edR).map edR=E:=by
 rw[List.map_map]
 exact (List.map_congr_left λ e _=>rfl).trans (List.map_id E)
theorem zRo {E:List Ed}{c:List Ed}{a b:Nat}(h:zii (E.map edR) a c b):∃ c0,zii E b c0 a/\wt c0=wt c/\c0.length=c.length:=by
 have:=zVj h
 rw[zRn] at this
 exact⟨_,this,zVi c,by simp⟩
theorem zqR {E:List Ed}(h:zc4 E):zc4 (E.map edR):=λ a c hc=>by
 obtain⟨c0,h1,h2,_⟩:=zRo hc
 rw[<- h2];exact h a c0 h1
theorem zhO {E:List Ed}(h:zc4 E):zc4 (E.map edM):=λ a c hc=>by
 obtain⟨c0,rfl,h1⟩:=zIP (f:=edM) (λ _=>rfl) (λ _=>rfl) hc
 rw[zVh]
 have:=h a c0 h1
 omega
def zR6 : Option Int → Int × Int
  | none=>((1000000000000:Int),(0:Int))
  | some x=>(x / 1048576,x % 1048576)
theorem zwG {L U:Int}(h0:0<=U) (h1:U < 1048576):zR6 (some (L * 1048576+U))=(L,U):=by
 show ((L * 1048576+U) / 1048576,(L * 1048576+U) % 1048576)=(L,U)
 rw[show (L * 1048576+U) / 1048576=L by omega,show (L * 1048576+U) % 1048576=U by omega]
def zEx (s:Nat):zey:=λ v=>if v=s then some 0 else none
theorem zh0 (s:Nat):Start (λ v=>v=s) (zEx s) :=
 ⟨λ v x h=>(by
  unfold zEx at h
  by_cases hv:v=s
  ·rw[dqP hv] at h;cases h;exact⟨hv,rfl⟩
  ·rw[dqG hv] at h;cases h),λ v h=>dqP h⟩
structure EdOk (E : List Ed) (n : Nat) : Prop where
  lt:∀ e∈E,e.u < n/\e.v < n
  w:∀ e∈E,-1000000000<=e.w/\e.w<=1000000000
  n1:1<=n
  n40:n<=40
theorem EdOk.R {E:List Ed}{n:Nat}(h:EdOk E n):EdOk (E.map edR) n :=
  ⟨λ e he=>(by obtain⟨f,h1,rfl⟩:=dqz.1 he;exact⟨(h.lt f h1).2,(h.lt f h1).1⟩),
   λ e he=>(by obtain⟨f,h1,rfl⟩:=dqz.1 he;exact h.w f h1),h.n1,h.n40⟩
theorem EdOk.ltM {E:List Ed}{n:Nat}(h:EdOk E n):∀ e∈E.map edM,e.u < n/\e.v < n :=
 λ e he=>by obtain⟨f,h1,rfl⟩:=dqz.1 he;exact h.lt f h1
theorem zyI {E:List Ed}{n:Nat}(h:EdOk E n){c:List Ed} : ∀ {a b:Nat},zii E a c b->-1000000000 * (c.length:Int)<=wt c/\wt c<=1000000000 * (c.length:Int):=by
 induction c with
 | nil=>intro a b _;exact⟨(by show _<=(0:Int);simp),(by show (0:Int)<=_;simp)⟩
 | cons e l ih =>
  rintro a b ⟨h1,_,h3⟩
  have:=ih h3
  have:=h.w e h1
  show _<=e.w+wt l/\e.w+wt l<=_
  simp only[dqr]
  omega
structure Ent (E : List Ed) (n s v : Nat) (x L U : Int) (c : List Ed) : Prop where
  ch:zii E s c v
  x:x=L * 1048576+U
  L:L=wt c
  U:U=c.length
  len:c.length < n
theorem zIQ {E:List Ed}{n:Nat}(hE:EdOk E n){s:Nat}(hs:s < n){d:zey}(hd:Inv (E.map edM) (λ v=>v=s) d){v:Nat}{x:Int}(hx:d v=some x):∃ c,Ent E n s v x (wt c) c.length c:=by
 obtain⟨a,c,hc⟩:=hd v x hx
 have hl:=zNk hE.ltM (λ a ha=>Nat.lt_of_le_of_lt (Nat.le_of_eq ha) hs) hc
 obtain⟨c0,rfl,h1⟩:=zIP (f:=edM) (λ _=>rfl) (λ _=>rfl) hc.ch
 obtain rfl:a=s:=hc.src
 exact⟨c0,h1,by rw[hc.wt,zVh],rfl,rfl,by rw[List.length_map] at hl;omega⟩
def dst (E:List Ed) (n s:Nat):zey:=rds (E.map edM) (n - 1) (zEx s)
theorem zNl {E:List Ed}{n s:Nat}(hn:zc4 E):Inv (E.map edM) (λ v=>v=s) (dst E n s):=zEw (zhO hn) _ (zjY (zh0 s))
theorem zwH {E:List Ed}{n s:Nat}(hE:EdOk E n) (hn:zc4 E) (hs:s < n):Fix (E.map edM) (dst E n s):=zIN (zhO hn) hE.ltM (λ a ha=>Nat.lt_of_le_of_lt (Nat.le_of_eq ha) hs) (zh0 s)
theorem dst_at {E:List Ed}{n s v:Nat}(hE:EdOk E n) (hn:zc4 E) (hs:s < n){x:Int}(hx:dst E n s v=some x):∃ c,Ent E n s v x (wt c) c.length c:=zIQ hE hs (zNl hn) hx
theorem zG1 {E:List Ed}{n s:Nat} : ∃ x,dst E n s s=some x:=by
 obtain⟨x,h,_⟩:=zyF (E.map edM) (n - 1) (zEx s) s 0 (dqP rfl)
 exact⟨x,h⟩
theorem zEy {E:List Ed}{n s:Nat}(hE:EdOk E n) (hn:zc4 E) (hs:s < n){c:List Ed} : ∀ {a v:Nat}{x:Int},dst E n s a=some x->zii E a c v->∃ y,dst E n s v=some y/\y / 1048576<=x / 1048576+wt c:=by
 induction c with
 | nil=>intro a v x hx h;cases h;exact⟨x,hx,by show _<=_+(0:Int);omega⟩
 | cons e l ih =>
  rintro a v x hx ⟨h1,h2,h3⟩
  subst h2
  obtain⟨y,k1,k2⟩:=zwH hE hn hs (edM e) (List.mem_map_of_mem h1) x hx
  obtain⟨z,m1,m2⟩:=ih (a:=e.v) k1 h3
  obtain⟨c1,hc1⟩:=dst_at hE hn hs hx
  obtain⟨c2,hc2⟩:=dst_at hE hn hs (show dst E n s e.v=some y from k1)
  refine⟨z,m1,?_⟩
  have k2':y<=x+(e.w * 1048576+1):=k2
  have:=hE.n40
  have:=hc1.len
  have:=hc1.x
  have:=hc2.len
  have:=hc2.x
  show _<=_+(e.w+wt l)
  omega
theorem zNm {E:List Ed}{n s v:Nat}(hE:EdOk E n) (hn:zc4 E) (hs:s < n){c:List Ed}(hc:zii E s c v):∃ x,dst E n s v=some x/\x / 1048576<=wt c:=by
 obtain⟨x0,h1⟩:=zG1 (E:=E) (n:=n) (s:=s)
 obtain⟨y,k1,k2⟩:=zEy hE hn hs h1 hc
 have h3:x0<=0:=by
  obtain⟨x',h1',h2'⟩:=zyF (E.map edM) (n - 1) (zEx s) s 0 (dqP rfl)
  have:x'=x0:=Option.some.inj (h1'.symm.trans h1)
  omega
 exact⟨y,k1,by omega⟩
def zIR (o:Option Int):Int:=(zR6 o).1
theorem zEz {E:List Ed}{n s v:Nat}(hE:EdOk E n) (hn:zc4 E) (hs:s < n){x:Int}(hx:dst E n s v=some x):∃ c,zii E s c v/\zIR (dst E n s v)=wt c/\c.length < n:=by
 obtain⟨c,hc⟩:=dst_at hE hn hs hx
 refine⟨c,hc.ch,?_,hc.len⟩
 rw[hx]
 show x / 1048576=_
 have:=hc.x;have:=hc.len;have:=hE.n40
 omega
theorem zqS {E:List Ed}{n s v:Nat}(hE:EdOk E n) (hn:zc4 E) (hs:s < n){c:List Ed}(hc:zii E s c v):zIR (dst E n s v)<=wt c:=by
 obtain⟨x,h1,h2⟩:=zNm hE hn hs hc
 rw[h1];exact h2
theorem zfk {E:List Ed}{n s v:Nat}(hE:EdOk E n) (hn:zc4 E) (hs:s < n):(dst E n s v=none/\zIR (dst E n s v)=1000000000000)\/∃ c,dst E n s v ≠ none/\zii E s c v/\zIR (dst E n s v)=wt c/\c.length < n/\-40000000000<=wt c/\wt c<=40000000000:=by
 cases h:dst E n s v with
 | none=>exact .inl ⟨rfl,rfl⟩
 | some x =>
  obtain⟨c,h1,h2,h3⟩:=zEz hE hn hs h
  have:=zyI hE h1
  have:=hE.n40
  rw[h] at h2
  exact .inr ⟨c,(by intro h;cases h),h1,h2,h3,by omega,by omega⟩
theorem zG2 {E:List Ed}{n s v:Nat}(hE:EdOk E n) (hn:zc4 E) (hs:s < n){f:Nat->Int}(hf:∀ e∈E,f e.v<=f e.u+e.w) (hd:dst E n s v ≠ none):f v<=f s+zIR (dst E n s v):=by
 rcases zfk (v:=v) hE hn hs with ⟨h,_⟩ | ⟨c,_,h1,h2,_⟩
 ·exact absurd h hd
 ·rw[h2];exact zIO hf h1
end Go.Pm
namespace Go.Pm
def zqT (E : List Ed) : Nat → zey → Bool
  | 0,_=>true
  | k+1,d=>cond (E.foldl rlF (d,false)).2 (zqT E k (rnd E d)) false
theorem zwI {E:List Ed}{k:Nat} : ∀ {m:Nat}{d:zey},Fix E (rds E k d)->k < m->zqT E m d=false:=by
 induction k with
 | zero =>
  intro m d h hm
  obtain⟨m,rfl⟩:∃ m',m=m'+1:=⟨m - 1,by omega⟩
  show cond (E.foldl rlF (d,false)).2 _ _=false
  rw[zme (show ∀ e∈E,Sat d e from h)];rfl
 | succ k ih =>
  intro m d h hm
  obtain⟨m,rfl⟩:∃ m',m=m'+1:=⟨m - 1,by omega⟩
  show cond (E.foldl rlF (d,false)).2 (zqT E m (rnd E d)) false=false
  rw[ih (m:=m) (d:=rnd E d) h (by omega)]
  cases (E.foldl rlF (d,false)).2 <;> rfl
theorem zG3 {E:List Ed}{m:Nat} : ∀ {d:zey},zqT E m d=false->∃ k,Fix E (rds E k d):=by
 induction m with
 | zero=>intro d h;cases h
 | succ m ih =>
  intro d h
  have h':cond (E.foldl rlF (d,false)).2 (zqT E m (rnd E d)) false=false:=h
  cases hc:(E.foldl rlF (d,false)).2
  ·exact⟨0,zlg hc⟩
  ·rw [hc] at h'
   obtain⟨k,hk⟩:=ih h'
   exact⟨k+1,hk⟩
def zEV (n:Nat):zey:=λ v=>if v < n then some 0 else none
theorem zzm (n:Nat):Start (λ v=>v < n) (zEV n) :=
 ⟨λ v x h=>(by
  unfold zEV at h
  by_cases hv:v < n
  ·rw[dqP hv] at h;cases h;exact⟨hv,rfl⟩
  ·rw[dqG hv] at h;cases h),λ v h=>dqP h⟩
theorem zG4 {E:List Ed}{n:Nat}(hE:EdOk E n):zqT E n (zEV n)=false↔zc4 E:=by
 constructor
 ·intro h
  obtain⟨k,hk⟩:=zG3 h
  have hsome:∀ v,v < n->∃ x,rds E k (zEV n) v=some x:=λ v hv=>by
   obtain⟨x,hx,_⟩:=zyF E k (zEV n) v 0 (dqP hv)
   exact⟨x,hx⟩
  refine ztt (f:=λ v=>(rds E k (zEV n) v).getD 0) λ e he=>?_
  obtain⟨x,hx⟩:=hsome e.u (hE.lt e he).1
  obtain⟨y,hy,hxy⟩:=hk e he x hx
  show (rds E k (zEV n) e.v).getD 0<=(rds E k (zEV n) e.u).getD 0+e.w
  rw[hx,hy];exact hxy
 ·intro h
  have:=hE.n1
  exact zwI (zIN h hE.lt (λ a ha=>ha) (zzm n)) (by omega)
end Go.Pm
namespace Go.Proofs
open Go Go.Pm
set_option maxRecDepth 100000
set_option linter.unusedVariables false
theorem zgU {n:Nat}{F:Tab}{k:Nat}(hk:k < n):tg n F k=F k:=by
 unfold tg ztx
 have h:(zm (zqZ 0 n F))[k]? = some (.p (.int .i64 (F k))):=by
  rw[zm,dqH,zpa n 0 F k hk,Nat.zero_add];rfl
 rw[h]
theorem zIS {n:Nat}{F:Tab}{k:Nat}{v:Int}{j:Nat}(hj:j < n):ts n F k [v] j=if j=k then v else F j:=by
 show (match Nat.beq j k with | true=>v | false=>tg n F j)=_
 by_cases h:j=k
 ·rw[dqP h,show Nat.beq j k=true from by rw[h];exact Nat.beq_refl _]
 ·rw[dqG h,show Nat.beq j k=false from Bool.eq_false_iff.2 λ e=>h (dqc e)];exact zgU hj
theorem ze0 {n:Nat}{F:Tab}{k:Nat}{v w:Int}{j:Nat}(hj:j < n):ts n F k [v,w] j=if j=k+1 then w else if j=k then v else F j:=by
 show (match Nat.beq j (k+1) with | true=>w | false=>(match Nat.beq j k with | true=>v | false=>tg n F j))=_
 by_cases h:j=k+1
 ·rw[dqP h,show Nat.beq j (k+1)=true from by rw[h];exact Nat.beq_refl _]
 ·rw [dqG h, show Nat.beq j (k + 1) = false from Bool.eq_false_iff.2 fun e => h (dqc e)]
  by_cases h':j=k
  ·rw[dqP h',show Nat.beq j k=true from by rw[h'];exact Nat.beq_refl _]
  ·rw[dqG h',show Nat.beq j k=false from Bool.eq_false_iff.2 λ e=>h' (dqc e)];exact zgU hj
def fwS (t:Tie) (i:Nat):step:=⟨⟨(i:Int),false⟩,t.From,t.To,t.High⟩
def bwS (t:Tie) (i:Nat):step:=⟨⟨(i:Int),true⟩,t.To,t.From,w64 (0 - t.Low)⟩
def zNM (a:web) (i:Nat):Bool:=(zEO (a.out.F [(i:Int)]) 0) != 0
def stK (a:web) (i:Nat):List step :=
 cond (zNM a i) [] ((cond ((a.Net.Ties.get i).High != (1000000000000:Int)) [fwS (a.Net.Ties.get i) i] []) ++ (cond ((a.Net.Ties.get i).Low != (-1000000000000:Int)) [bwS (a.Net.Ties.get i) i] []))
def stL (a : web) : Nat → Nat → List step
  | 0,_=>[]
  | m+1,i=>stK a i ++ stL a m (i+1)
theorem zwJ (a:web) (hn:a.Net.Ties.len<=9223372036854775807):p82 a=true/\s82 a=stL a a.Net.Ties.len 0:=by
 have key:∀ (m k i:Nat),i+m=a.Net.Ties.len->m < k->zhi a k (i:Int)=true/\zhh a k (i:Int)=stL a m i:=by
  intro m
  induction m with
  | zero =>
   intro k i hi hk
   obtain⟨k,rfl⟩:∃ k',k=k'+1:=⟨k - 1,by omega⟩
   constructor
   ·show ziX a (zhi a k) (i : Int) = true
    unfold ziX
    rw[dqF (show ¬ (i:Int) < (a.Net.Ties.len:Int) by omega),dqB]
   ·show ziW a (zhh a k) (i : Int) = []
    unfold ziW
    rw[dqF (show ¬ (i:Int) < (a.Net.Ties.len:Int) by omega),dqB]
  | succ m ih =>
   intro k i hi hk
   obtain⟨k,rfl⟩:∃ k',k=k'+1:=⟨k - 1,by omega⟩
   obtain⟨h1,h2⟩:=ih k (i+1) (by omega) (by omega)
   constructor
   ·show ziX a (zhi a k) (i : Int) = true
    unfold ziX
    rw[dqT (show (i:Int) < (a.Net.Ties.len:Int) by omega),dqA,dqT (show 0<=(i:Int)/\(i:Int) < (a.Net.Ties.len:Int) by omega),Bool.true_and,zjT (n:=a.Net.Ties.len) (by omega) hn,h1]
    generalize (zEO (a.out.F [(i:Int)]) 0 != 0)=b1
    generalize (s83 (⟨(a.Net.Ties.get ((i:Int)).toNat),(i:Int)⟩:tie)).2=b2
    generalize (s84 (⟨(a.Net.Ties.get ((i:Int)).toNat),(i:Int)⟩:tie)).2=b3
    cases b1 <;> cases b2 <;> cases b3 <;> rfl
   ·show ziW a (zhh a k) (i : Int) = stK a i ++ stL a m (i + 1)
    unfold ziW
    rw[dqT (show (i:Int) < (a.Net.Ties.len:Int) by omega),dqA,dqN,zjT (n:=a.Net.Ties.len) (by omega) hn,h2]
    unfold stK zNM s83 s84
    generalize (zEO (a.out.F [(i:Int)]) 0 != 0)=b1
    show cond b1 _ (cond ((a.Net.Ties.get i).High != (1000000000000:Int)) (_ :: cond ((a.Net.Ties.get i).Low != (-1000000000000:Int)) (_ :: _) _) (cond ((a.Net.Ties.get i).Low != (-1000000000000:Int)) (_ :: _) _))=_
    generalize ((a.Net.Ties.get i).High != (1000000000000:Int))=b2
    generalize ((a.Net.Ties.get i).Low != (-1000000000000:Int))=b3
    cases b1 <;> cases b2 <;> cases b3 <;> rfl
 exact key a.Net.Ties.len Fuel 0 (by omega) (by simp only[Fuel];omega)
theorem zqU {a:web}{y:step} : ∀ {m i:Nat},y∈stL a m i↔∃ j,i<=j/\j < i+m/\y∈stK a j:=by
 intro m
 induction m with
 | zero=>intro i;exact⟨λ h=>(by cases h),λ ⟨j,h1,h2,_⟩=>(by omega)⟩
 | succ m ih =>
  intro i
  show y∈stK a i ++ stL a m (i+1)↔_
  rw[dqg,ih]
  constructor
  ·rintro (h | ⟨j, h1, h2, h3⟩)
   ·exact⟨i,dqt _,by omega,h⟩
   ·exact⟨j,by omega,by omega,h3⟩
  ·rintro ⟨j, h1, h2, h3⟩
   by_cases h:j=i
   ·subst h;exact .inl h3
   ·exact .inr ⟨j,by omega,by omega,h3⟩
theorem zqV {a:web}{y:step}{j:Nat} : y∈stK a j↔zNM a j=false/\(((a.Net.Ties.get j).High ≠ 1000000000000/\y=fwS (a.Net.Ties.get j) j)\/((a.Net.Ties.get j).Low ≠ -1000000000000/\y=bwS (a.Net.Ties.get j) j)):=by
 unfold stK
 cases h:zNM a j
 ·rw [dqB, dqg]
  by_cases h1:(a.Net.Ties.get j).High=1000000000000
  ·rw [show ((a.Net.Ties.get j).High != (1000000000000:Int)) = false by rw [h1]; rfl, dqB]
   by_cases h2:(a.Net.Ties.get j).Low = -1000000000000
   ·rw [show ((a.Net.Ties.get j).Low != (-1000000000000:Int)) = false by rw [h2]; rfl, dqB]
    simp[h1,h2]
   ·rw [bne_iff_ne.2 h2, dqA]
    simp[h1,h2]
  ·rw [bne_iff_ne.2 h1, dqA]
   by_cases h2:(a.Net.Ties.get j).Low = -1000000000000
   ·rw [show ((a.Net.Ties.get j).Low != (-1000000000000:Int)) = false by rw [h2]; rfl, dqB]
    simp[h1,h2]
   ·rw [bne_iff_ne.2 h2, dqA]
    simp[h1,h2]
 ·rw[dqA];simp
theorem zNn (a:web):∀ m i,(stL a m i).length<=2 * m:=by
 intro m
 induction m with
 | zero=>intro i;exact dqt _
 | succ m ih =>
  intro i
  show (stK a i ++ stL a m (i+1)).length<=_
  rw[dqu]
  have:=ih (i+1)
  have:(stK a i).length<=2:=by
   unfold stK
   cases zNM a i <;> cases ((a.Net.Ties.get i).High != (1000000000000:Int)) <;> cases ((a.Net.Ties.get i).Low != (-1000000000000:Int)) <;> simp
  omega
def edS (y:step):Ed:=⟨y.from_.toNat,y.to.toNat,y.length⟩
structure StOk (y : step) (N : Nat) : Prop where
  f0:0<=y.from_
  f1:y.from_ < N
  t0:0<=y.to
  t1:y.to < N
  l0 : -1000000000<=y.length
  l1:y.length<=1000000000
abbrev Ws (a:web):List step:=stL a a.Net.Ties.len 0
def We (a:web):List Ed:=(Ws a).map edS
theorem zEA {t:Tie}{N:Int}(h:TieOk t N) (h':t.Low ≠ -1000000000000):w64 (0 - t.Low) = -t.Low:=by
 have:=h.lo.resolve_left h'
 rw[zbs (by omega) (by omega)];omega
theorem zRp {a:web}(hn:NetOk a.Net){y:step}(hy:y∈Ws a):StOk y a.Net.Nodes.toNat:=by
 obtain⟨j,_,h2,h3⟩:=zqU.1 hy
 have h:=hn.tie j (by omega)
 have:=h.f0;have:=h.f1;have:=h.t0;have:=h.t1
 rcases (zqV.1 h3).2 with ⟨h4,rfl⟩ | ⟨h4,rfl⟩
 ·have := h.hi.resolve_left h4
  exact⟨h.f0,by show (a.Net.Ties.get j).From < _;omega,h.t0,by show (a.Net.Ties.get j).To < _;omega,this.1,this.2⟩
 ·have := h.lo.resolve_left h4
  have e:=zEA h h4
  exact⟨h.t0,by show (a.Net.Ties.get j).To < _;omega,h.f0,by show (a.Net.Ties.get j).From < _;omega,by show _<=w64 (0 - (a.Net.Ties.get j).Low);omega,by show w64 (0 - (a.Net.Ties.get j).Low)<=_;omega⟩
theorem zRq {a:web}(hn:NetOk a.Net):(Ws a).length<=400:=by
 have h1:=zNn a a.Net.Ties.len 0
 have h2:=hn.len
 show (stL a a.Net.Ties.len 0).length<=400
 omega
theorem zIT {a:web}(hn:NetOk a.Net):EdOk (We a) a.Net.Nodes.toNat:=by
 have:=hn.n1;have:=hn.n40
 refine⟨λ e he=>?_,λ e he=>?_,by omega,by omega⟩
 ·obtain ⟨y, hy, rfl⟩ := dqz.1 he
  have h:=zRp hn hy
  have:=h.f0;have:=h.f1;have:=h.t0;have:=h.t1
  exact⟨by show y.from_.toNat < _;omega,by show y.to.toNat < _;omega⟩
 ·obtain ⟨y, hy, rfl⟩ := dqz.1 he
  have h:=zRp hn hy
  exact⟨h.l0,h.l1⟩
theorem zEB {a:web}(hn:NetOk a.Net){e:Ed} : e∈We a↔∃ j,j < a.Net.Ties.len/\zNM a j=false/\(((a.Net.Ties.get j).High ≠ 1000000000000/\e=⟨(a.Net.Ties.get j).From.toNat,(a.Net.Ties.get j).To.toNat,(a.Net.Ties.get j).High⟩)\/((a.Net.Ties.get j).Low ≠ -1000000000000/\e=⟨(a.Net.Ties.get j).To.toNat,(a.Net.Ties.get j).From.toNat,-(a.Net.Ties.get j).Low⟩)):=by
 constructor
 ·intro he
  obtain⟨y,hy,rfl⟩:=dqz.1 he
  obtain⟨j,_,h2,h3⟩:=zqU.1 hy
  obtain⟨h4,h5⟩:=zqV.1 h3
  refine⟨j,by omega,h4,?_⟩
  rcases h5 with ⟨h6,rfl⟩ | ⟨h6,rfl⟩
  ·exact .inl ⟨h6,rfl⟩
  ·refine .inr ⟨h6, ?_⟩
   rw[<- zEA (hn.tie j (by omega)) h6];rfl
 ·rintro ⟨j, h1, h2, h3⟩
  rcases h3 with ⟨h6,rfl⟩ | ⟨h6,rfl⟩
  ·exact dqz.2 ⟨fwS (a.Net.Ties.get j) j,zqU.2 ⟨j,by omega,by omega,zqV.2 ⟨h2,.inl ⟨h6,rfl⟩⟩⟩,rfl⟩
  ·exact dqz.2 ⟨bwS (a.Net.Ties.get j) j,zqU.2 ⟨j,by omega,by omega,zqV.2 ⟨h2,.inr ⟨h6,rfl⟩⟩⟩,by rw[<- zEA (hn.tie j h1) h6];rfl⟩
end Go.Proofs
namespace Go.Proofs
open Go Go.Pm
set_option maxRecDepth 100000
set_option linter.unusedVariables false
def Rt (N:Nat) (T:Tab) (d:zey):Prop:=∀ v,v < N->d v=some (T v)
def Bd (B:Int) (T:Tab):Prop:=∀ v,v < 40->-B<=T v/\T v<=0
theorem zEC (a:web){N:Nat}(hN:N<=40) (S0:Int->Tab->Bool) (P0:Int->Tab->Bool):∀ (l:List step),(∀ y∈l,StOk y N)->∀ (t:Int) (c:Bool) (T:Tab) (d:zey) (B:Int),Rt N T d->Bd B T->0<=B->B+l.length * 1000000000<=100000000000000000 ->
    ∃ T',zhj S0 a l t c T=zpY S0 a t ((l.map edS).foldl rlF (d,c)).2 T'/\zhk P0 a l t c T=zpZ P0 a t ((l.map edS).foldl rlF (d,c)).2 T'/\Rt N T' ((l.map edS).foldl rlF (d,c)).1/\Bd (B+l.length * 1000000000) T':=by
  intro l
  induction l with
  | nil=>intro _ t c T d B h1 h2 _ _;exact⟨T,rfl,rfl,h1,by simpa using h2⟩
  | cons y l ih =>
    intro hl t c T d B h1 h2 h3 h4
    have hy:=hl y (dqj ..)
    have hl':∀ y∈l,StOk y N:=λ z hz=>hl z (dqf _ hz)
    rw[dqr] at h4
    have f0:=hy.f0;have f1:=hy.f1;have t0:=hy.t0;have t1:=hy.t1;have l0:=hy.l0;have l1:=hy.l1
    have hf:=h1 y.from_.toNat (by omega)
    have ht:=h1 y.to.toNat (by omega)
    have bf:=h2 y.from_.toNat (by omega)
    have bt:=h2 y.to.toNat (by omega)
    have e1:0+y.from_.toNat * 1+0=y.from_.toNat:=by omega
    have e2:0+y.to.toNat * 1+0=y.to.toNat:=by omega
    have hr:rlF (d,c) (edS y)=cond (decide (T y.from_.toNat+y.length < T y.to.toNat)) (zyE d y.to.toNat (T y.from_.toNat+y.length),true) (d,c):=by
      unfold rlF edS
      simp only[hf,ht]
      rfl
    have hS:zhj S0 a (y :: l) t c T=cond (decide (T y.from_.toNat+y.length < T y.to.toNat)) (zhj S0 a l t true (ts 40 T y.to.toNat [T y.from_.toNat+y.length])) (zhj S0 a l t c T):=by
      show zp0 S0 a y (zhj S0 a l) t c T=_
      generalize zhj S0 a l=S
      unfold zp0
      rw[e1,e2,zgU (by omega),zgU (by omega),zbs (by omega) (by omega)]
    have hP:zhk P0 a (y :: l) t c T=cond (decide (T y.from_.toNat+y.length < T y.to.toNat)) (zhk P0 a l t true (ts 40 T y.to.toNat [T y.from_.toNat+y.length])) (zhk P0 a l t c T):=by
      show zp1 P0 a y (zhk P0 a l) t c T=_
      generalize zhk P0 a l=S
      unfold zp1
      rw[e1,e2,zgU (by omega),zgU (by omega),zbs (by omega) (by omega),dqT (show 0<=y.from_/\y.from_ < (40:Int) by omega),dqT (show 0<=y.to/\y.to < (40:Int) by omega)]
      cases decide (T y.from_.toNat+y.length < T y.to.toNat) <;> rfl
    show ∃ T',_=zpY S0 a t ((l.map edS).foldl rlF (rlF (d,c) (edS y))).2 T'/\_=zpZ P0 a t ((l.map edS).foldl rlF (rlF (d,c) (edS y))).2 T'/\Rt N T' ((l.map edS).foldl rlF (rlF (d,c) (edS y))).1/\_
    rw[hS,hP,hr]
    by_cases hlt:T y.from_.toNat+y.length < T y.to.toNat
    · rw [dqT hlt, dqA, dqA, dqA]
      obtain ⟨T', k1, k2, k3, k4⟩ := ih hl' t true (ts 40 T y.to.toNat [T y.from_.toNat + y.length]) (zyE d y.to.toNat (T y.from_.toNat + y.length)) (B + 1000000000)
        (λ v hv=>by
          rw[zIS (by omega)]
          unfold zyE
          by_cases h:v=y.to.toNat
          · rw[dqP h,dqP h]
          · rw[dqG h,dqG h];exact h1 v hv)
        (λ v hv=>by
          rw[zIS hv]
          by_cases h:v=y.to.toNat
          · rw[dqP h];omega
          · rw[dqG h];have:=h2 v hv;omega) (by omega) (by omega)
      refine⟨T',k1,k2,k3,?_⟩
      rw[dqr,show B+((l.length+1:Nat):Int) * 1000000000=B+1000000000+(l.length:Int) * 1000000000 by omega]
      exact k4
    · rw [dqF hlt, dqB, dqB, dqB]
      obtain⟨T',k1,k2,k3,k4⟩:=ih hl' t c T d B h1 h2 h3 (by omega)
      refine⟨T',k1,k2,k3,λ v hv=>?_⟩
      have:=k4 v hv
      rw[dqr]
      omega
theorem zwK (a:web) (hn:NetOk a.Net):∀ (m k i:Nat) (T:Tab) (d:zey) (B:Int),Rt a.Net.Nodes.toNat T d->Bd B T->0<=B->B+m * 400000000000<=100000000000000000->(i:Int)+m=a.Net.Nodes->m < k ->
  zkw a k (i:Int) T=true/\zkv a k (i:Int) T=zqT (We a) m d:=by
 have hn1:=hn.n1;have hn40:=hn.n40;have hlen:=hn.len
 obtain⟨q1,q2⟩:=zwJ a (by omega)
 intro m
 induction m with
 | zero =>
  intro k i T d B _ _ _ _ hi hk
  obtain⟨k,rfl⟩:∃ k',k=k'+1:=⟨k - 1,by omega⟩
  constructor
  ·show zku a (zkw a k) (i : Int) T = true
   unfold zku
   rw[dqF (show ¬ (i:Int) < a.Net.Nodes by omega),dqB]
  ·show zkt a (zkv a k) (i : Int) T = true
   unfold zkt
   rw[dqF (show ¬ (i:Int) < a.Net.Nodes by omega),dqB]
 | succ m ih =>
  intro k i T d B h1 h2 h3 h4 hi hk
  obtain⟨k,rfl⟩:∃ k',k=k'+1:=⟨k - 1,by omega⟩
  have hwl:=zRq hn
  obtain⟨T',k1,k2,k3,k4⟩:=zEC a (N:=a.Net.Nodes.toNat) (by omega) (zkv a k) (zkw a k) (Ws a) (λ y hy=>zRp hn hy) (i:Int) false T d B h1 h2 h3 (by omega)
  have hB:Bd (B+400000000000) T':=λ v hv=>by have:=k4 v hv;omega
  have hw:w64 ((i:Int)+(1:Int))=((i+1:Nat):Int):=by rw[zbs (by omega) (by omega)];omega
  obtain⟨r1,r2⟩:=ih k (i+1) T' (rnd (We a) d) (B+400000000000) k3 hB (by omega) (by omega) (by omega) (by omega)
  constructor
  ·show zku a (zkw a k) (i : Int) T = true
   unfold zku zvf
   rw[dqT (show (i:Int) < a.Net.Nodes by omega),dqA,q1,q2,k2]
   unfold zpZ
   rw[hw,r1]
   cases ((Ws a).map edS |>.foldl rlF (d,false)).2 <;> rfl
  ·show zkt a (zkv a k) (i : Int) T = cond ((We a).foldl rlF (d, false)).2 (zqT (We a) m (rnd (We a) d)) false
   unfold zkt zve
   rw[dqT (show (i:Int) < a.Net.Nodes by omega),dqA,q2,k1]
   unfold zpY
   rw[hw,r2]
   show cond (!((We a).foldl rlF (d,false)).2) false _=_
   cases ((We a).foldl rlF (d,false)).2 <;> rfl
theorem zED (a:web) (hn:NetOk a.Net):p60 a=true/\s60 a=zqT (We a) a.Net.Nodes.toNat (zEV a.Net.Nodes.toNat):=by
 have hn1:=hn.n1;have hn40:=hn.n40
 have:=zwK a hn a.Net.Nodes.toNat Fuel 0 (λ _=>(0:Int)) (zEV a.Net.Nodes.toNat) 0 (λ v hv=>dqP hv) (λ v hv=>⟨by show -(0:Int)<=(0:Int);omega,Int.le_refl _⟩) (by omega) (by omega) (by omega) (by simp only[Fuel];omega)
 exact this
theorem zEE (a:web) (hn:NetOk a.Net):s60 a=false↔zc4 (We a):=by
 rw[(zED a hn).2];exact zG4 (zIT hn)
end Go.Proofs
namespace Go.Proofs
open Go Go.Pm
set_option maxRecDepth 100000
set_option linter.unusedVariables false
theorem zmf (a b:far):p62 a ⟨1,λ _=>b⟩=true/\s62 a ⟨1,λ _=>b⟩=cond (s63 b a) b a:=by
 unfold p62 s62 zvu zvt
 have key:∀ k,zkE (⟨1,λ _=>b⟩:Sl far) (k+2) (0:Int) a.length a.uses=true/\zkD (⟨1,λ _=>b⟩:Sl far) (k+2) (0:Int) a.length a.uses=cond (s63 b a) b a:=by
  intro k
  have hw:w64 ((0:Int)+(1:Int))=(1:Int):=by rw[zbs (by omega) (by omega)];rfl
  have e1:∀ x y,zkD (⟨1,λ _=>b⟩:Sl far) (k+1) (1:Int) x y=(⟨x,y⟩:far):=λ x y=>by
   show zkB (⟨1,λ _=>b⟩:Sl far) (zkD (⟨1,λ _=>b⟩:Sl far) k) (1:Int) x y=_
   unfold zkB
   rw[dqF (show ¬ (1:Int) < ((1:Nat):Int) by omega),dqB]
  have e2:∀ x y,zkE (⟨1,λ _=>b⟩:Sl far) (k+1) (1:Int) x y=true:=λ x y=>by
   show zkC (⟨1,λ _=>b⟩:Sl far) (zkE (⟨1,λ _=>b⟩:Sl far) k) (1:Int) x y=_
   unfold zkC
   rw[dqF (show ¬ (1:Int) < ((1:Nat):Int) by omega),dqB]
  constructor
  ·show zkC (⟨1, fun _ => b⟩ : Sl far) (zkE (⟨1, fun _ => b⟩ : Sl far) (k + 1)) (0:Int) a.length a.uses = _
   unfold zkC zvs
   rw[dqT (show (0:Int) < ((1:Nat):Int) by omega),dqA,dqT (show 0<=(0:Int)/\(0:Int) < ((1:Nat):Int) by omega),Bool.true_and,hw,e2,e2]
   cases s63 b (⟨a.length,a.uses⟩:far) <;> rfl
  ·show zkB (⟨1, fun _ => b⟩ : Sl far) (zkD (⟨1, fun _ => b⟩ : Sl far) (k + 1)) (0:Int) a.length a.uses = _
   unfold zkB zvr
   rw[dqT (show (0:Int) < ((1:Nat):Int) by omega),dqA,hw,e1,e1]
 have:=key (Fuel - 2)
 rw[show Fuel - 2+2=Fuel by simp only[Fuel]] at this
 exact this
theorem zEF (a b:far):s63 a b=decide (a.length < b.length\/(a.length=b.length/\a.uses < b.uses)):=by
 unfold s63
 by_cases h1:a.length < b.length
 ·rw[dqT h1,dqA];exact (dqT (.inl h1)).symm
 ·rw [dqF h1, dqB]
  by_cases h2:a.length=b.length
  ·rw [show (a.length == b.length) = true from beq_iff_eq.2 h2, dqA]
   exact decide_eq_decide.2 ⟨λ h=>.inr ⟨h2,h⟩,λ h=>h.elim (λ h=>absurd h h1) (λ h=>h.2)⟩
  ·rw [show (a.length == b.length) = false from dqU.2 h2, dqB]
   exact (dqF (λ h=>h.elim h1 (λ h=>h2 h.1))).symm
def Rp (N:Nat) (T:Tab) (d:zey):Prop:=∀ v,v < N->(T (v * 2),T (v * 2+1))=zR6 (d v)
def nv (x y:Int):Bool:=match (x == (1000000000000:Int)) with | true=>(match (y == (0:Int)) with | true=>true | false=>false) | false=>false
def sm (x y u v:Int):Bool:=match (x == u) with | true=>(match (y == v) with | true=>true | false=>false) | false=>false
theorem zyJ (x y:Int):nv x y=decide ((x,y)=((1000000000000:Int),(0:Int))):=by
 unfold nv
 by_cases h1:x=1000000000000
 ·rw [show (x == (1000000000000:Int)) = true from beq_iff_eq.2 h1]
  by_cases h2:y=0
  ·rw[show (y == (0:Int))=true from beq_iff_eq.2 h2];exact (dqT (by rw[h1,h2])).symm
  ·rw[show (y == (0:Int))=false from dqU.2 h2];exact (dqF (λ h=>h2 (Prod.mk.inj h).2)).symm
 ·rw [show (x == (1000000000000:Int)) = false from dqU.2 h1]
  exact (dqF (λ h=>h1 (Prod.mk.inj h).1)).symm
theorem same_eq (x y u v:Int):sm x y u v=decide ((x,y)=(u,v)):=by
 unfold sm
 by_cases h1:x=u
 ·rw [show (x == u) = true from beq_iff_eq.2 h1]
  by_cases h2:y=v
  ·rw[show (y == v)=true from beq_iff_eq.2 h2];exact (dqT (by rw[h1,h2])).symm
  ·rw[show (y == v)=false from dqU.2 h2];exact (dqF (λ h=>h2 (Prod.mk.inj h).2)).symm
 ·rw [show (x == u) = false from dqU.2 h1]
  exact (dqF (λ h=>h1 (Prod.mk.inj h).1)).symm
theorem zmg {E : List Ed} {n s v : Nat} (hE : EdOk E n) (hs : s < n) {d : zey} (hd : Inv (E.map edM) (fun v => v = s) d) {x : Int} (hx : d v = some x) :
  ∃ L U,zR6 (d v)=(L,U)/\x=L * 1048576+U/\0<=U/\U < 40/\-40000000000<=L/\L<=40000000000:=by
 obtain⟨c,hc⟩:=zIQ hE hs hd hx
 have h1:=zyI hE hc.ch
 have h2:=hc.len
 have h3:=hE.n40
 refine⟨wt c,c.length,?_,hc.x,by omega,by omega,by omega,by omega⟩
 rw[hx,hc.x]
 exact zwG (by omega) (by omega)
end Go.Proofs
namespace Go.Proofs
open Go Go.Pm
set_option maxRecDepth 100000
set_option linter.unusedVariables false
theorem zRr (a : web) {N s : Nat} (E : List Ed) (hE : EdOk E N) (hn : zc4 E) (hs : s < N) (S2 : Bool → Tab → Tab → Tab) (P2 : Bool → Tab → Tab → Bool) (y : step) (hy : StOk y N) (hm : edS y ∈ E) (S3 : Bool → Tab → Tab → Tab) (P3 : Bool → Tab → Tab → Bool) (c : Bool) (T4 T : Tab) (d : zey) (h1 : Rp N T d) (hi : Inv (E.map edM) (fun v => v = s) d) :
  ∃ T',zqb S2 a y S3 c T4 T=S3 (rlF (d,c) (edM (edS y))).2 T4 T'/\zqc P2 a y P3 c T4 T=P3 (rlF (d,c) (edM (edS y))).2 T4 T'/\Rp N T' (rlF (d,c) (edM (edS y))).1:=by
 have hN:=hE.n40
 have f0:=hy.f0;have f1:=hy.f1;have t0:=hy.t0;have t1:=hy.t1;have l0:=hy.l0;have l1:=hy.l1
 have hu:=h1 y.from_.toNat (by omega)
 have hv:=h1 y.to.toNat (by omega)
 have e1:0+y.from_.toNat * 2+0=y.from_.toNat * 2:=by omega
 have e2:0+y.to.toNat * 2+0=y.to.toNat * 2:=by omega
 have e3:0+y.from_.toNat * 2+1=y.from_.toNat * 2+1:=by omega
 have hin:=znY (Src:=λ v=>v=s) (zhO hn) (s:=(d,c)) (e:=edM (edS y)) (List.mem_map_of_mem hm) hi
 have hS:zqb S2 a y S3 c T4 T=cond (nv (tg 80 T (0+y.from_.toNat * 2+0)) (tg 80 T (0+y.from_.toNat * 2+0+1))) (S3 c T4 T) (cond c (S3 true T4 (ts 80 T (0+y.to.toNat * 2+0) [(s62 (⟨(tg 80 T (0+y.to.toNat * 2+0)),(tg 80 T (0+y.to.toNat * 2+0+1))⟩:far) (⟨1,λ _=>(⟨(w64 ((tg 80 T (0+y.from_.toNat * 2+0))+y.length)),(w64 ((tg 80 T (0+y.from_.toNat * 2+1))+(1:Int)))⟩:far)⟩:(Sl far))).length,(s62 (⟨(tg 80 T (0+y.to.toNat * 2+0)),(tg 80 T (0+y.to.toNat * 2+0+1))⟩:far) (⟨1,λ _=>(⟨(w64 ((tg 80 T (0+y.from_.toNat * 2+0))+y.length)),(w64 ((tg 80 T (0+y.from_.toNat * 2+1))+(1:Int)))⟩:far)⟩:(Sl far))).uses])) (S3 (!(sm (s62 (⟨(tg 80 T (0+y.to.toNat * 2+0)),(tg 80 T (0+y.to.toNat * 2+0+1))⟩:far) (⟨1,λ _=>(⟨(w64 ((tg 80 T (0+y.from_.toNat * 2+0))+y.length)),(w64 ((tg 80 T (0+y.from_.toNat * 2+1))+(1:Int)))⟩:far)⟩:(Sl far))).length (s62 (⟨(tg 80 T (0+y.to.toNat * 2+0)),(tg 80 T (0+y.to.toNat * 2+0+1))⟩:far) (⟨1,λ _=>(⟨(w64 ((tg 80 T (0+y.from_.toNat * 2+0))+y.length)),(w64 ((tg 80 T (0+y.from_.toNat * 2+1))+(1:Int)))⟩:far)⟩:(Sl far))).uses (tg 80 T (0+y.to.toNat * 2+0)) (tg 80 T (0+y.to.toNat * 2+0+1)))) T4 (ts 80 T (0+y.to.toNat * 2+0) [(s62 (⟨(tg 80 T (0+y.to.toNat * 2+0)),(tg 80 T (0+y.to.toNat * 2+0+1))⟩:far) (⟨1,λ _=>(⟨(w64 ((tg 80 T (0+y.from_.toNat * 2+0))+y.length)),(w64 ((tg 80 T (0+y.from_.toNat * 2+1))+(1:Int)))⟩:far)⟩:(Sl far))).length,(s62 (⟨(tg 80 T (0+y.to.toNat * 2+0)),(tg 80 T (0+y.to.toNat * 2+0+1))⟩:far) (⟨1,λ _=>(⟨(w64 ((tg 80 T (0+y.from_.toNat * 2+0))+y.length)),(w64 ((tg 80 T (0+y.from_.toNat * 2+1))+(1:Int)))⟩:far)⟩:(Sl far))).uses]))):=rfl
 have hP:zqc P2 a y P3 c T4 T=(decide (0<=y.from_/\y.from_ < (40:Int)) && cond (nv (tg 80 T (0+y.from_.toNat * 2+0)) (tg 80 T (0+y.from_.toNat * 2+0+1))) (P3 c T4 T) (decide (0<=y.to/\y.to < (40:Int)) && (decide (0<=y.from_/\y.from_ < (40:Int)) && (decide (0<=y.from_/\y.from_ < (40:Int)) && (decide (p62 (⟨(tg 80 T (0+y.to.toNat * 2+0)),(tg 80 T (0+y.to.toNat * 2+0+1))⟩:far) (⟨1,λ _=>(⟨(w64 ((tg 80 T (0+y.from_.toNat * 2+0))+y.length)),(w64 ((tg 80 T (0+y.from_.toNat * 2+1))+(1:Int)))⟩:far)⟩:(Sl far))=true) && cond c (decide (0<=y.to/\y.to < (40:Int)) && P3 true T4 (ts 80 T (0+y.to.toNat * 2+0) [(s62 (⟨(tg 80 T (0+y.to.toNat * 2+0)),(tg 80 T (0+y.to.toNat * 2+0+1))⟩:far) (⟨1,λ _=>(⟨(w64 ((tg 80 T (0+y.from_.toNat * 2+0))+y.length)),(w64 ((tg 80 T (0+y.from_.toNat * 2+1))+(1:Int)))⟩:far)⟩:(Sl far))).length,(s62 (⟨(tg 80 T (0+y.to.toNat * 2+0)),(tg 80 T (0+y.to.toNat * 2+0+1))⟩:far) (⟨1,λ _=>(⟨(w64 ((tg 80 T (0+y.from_.toNat * 2+0))+y.length)),(w64 ((tg 80 T (0+y.from_.toNat * 2+1))+(1:Int)))⟩:far)⟩:(Sl far))).uses])) (decide (0<=y.to/\y.to < (40:Int)) && (decide (0<=y.to/\y.to < (40:Int)) && P3 (!(sm (s62 (⟨(tg 80 T (0+y.to.toNat * 2+0)),(tg 80 T (0+y.to.toNat * 2+0+1))⟩:far) (⟨1,λ _=>(⟨(w64 ((tg 80 T (0+y.from_.toNat * 2+0))+y.length)),(w64 ((tg 80 T (0+y.from_.toNat * 2+1))+(1:Int)))⟩:far)⟩:(Sl far))).length (s62 (⟨(tg 80 T (0+y.to.toNat * 2+0)),(tg 80 T (0+y.to.toNat * 2+0+1))⟩:far) (⟨1,λ _=>(⟨(w64 ((tg 80 T (0+y.from_.toNat * 2+0))+y.length)),(w64 ((tg 80 T (0+y.from_.toNat * 2+1))+(1:Int)))⟩:far)⟩:(Sl far))).uses (tg 80 T (0+y.to.toNat * 2+0)) (tg 80 T (0+y.to.toNat * 2+0+1)))) T4 (ts 80 T (0+y.to.toNat * 2+0) [(s62 (⟨(tg 80 T (0+y.to.toNat * 2+0)),(tg 80 T (0+y.to.toNat * 2+0+1))⟩:far) (⟨1,λ _=>(⟨(w64 ((tg 80 T (0+y.from_.toNat * 2+0))+y.length)),(w64 ((tg 80 T (0+y.from_.toNat * 2+1))+(1:Int)))⟩:far)⟩:(Sl far))).length,(s62 (⟨(tg 80 T (0+y.to.toNat * 2+0)),(tg 80 T (0+y.to.toNat * 2+0+1))⟩:far) (⟨1,λ _=>(⟨(w64 ((tg 80 T (0+y.from_.toNat * 2+0))+y.length)),(w64 ((tg 80 T (0+y.from_.toNat * 2+1))+(1:Int)))⟩:far)⟩:(Sl far))).uses])))))))):=rfl
 rw[hS,hP]
 clear hS hP
 rw[e1,e2,e3,zgU (k:=y.from_.toNat * 2) (by omega),zgU (k:=y.from_.toNat * 2+1) (by omega),zgU (k:=y.to.toNat * 2) (by omega),zgU (k:=y.to.toNat * 2+1) (by omega)]
 rw[dqT (show 0<=y.from_/\y.from_ < (40:Int) by omega),dqT (show 0<=y.to/\y.to < (40:Int) by omega)]
 simp only[zyJ,same_eq]
 cases hdu:d y.from_.toNat with
 | none =>
  rw[hdu] at hu
  have hr:rlF (d,c) (edM (edS y))=(d,c):=by
   unfold rlF edM edS
   simp only[hdu]
  rw[hr,dqT (show (T (y.from_.toNat * 2),T (y.from_.toNat * 2+1))=((1000000000000:Int),(0:Int)) from hu)]
  exact⟨T,rfl,rfl,h1⟩
 | some x =>
  obtain⟨L,U,k1,k2,k3,k4,k5,k6⟩:=zmg hE hs hi hdu
  rw[hdu] at hu k1
  rw[k1] at hu
  have hL:T (y.from_.toNat * 2)=L:=(Prod.mk.inj hu).1
  have hU:T (y.from_.toNat * 2+1)=U:=(Prod.mk.inj hu).2
  rw[hL,hU,dqF (show ¬ (L,U)=((1000000000000:Int),(0:Int)) from λ h=>by have:=(Prod.mk.inj h).1;omega),zbs (x:=L+y.length) (by omega) (by omega),zbs (x:=U+(1:Int)) (by omega) (by omega)]
  rw[(zmf _ _).1,(zmf _ _).2,zEF]
  have hw:x+(edM (edS y)).w=(L+y.length) * 1048576+(U+1):=by
   show x+(y.length * 1048576+1)=_
   omega
  have hr:rlF (d,c) (edM (edS y))=cond (ltO ((L+y.length) * 1048576+(U+1)) (d y.to.toNat)) (zyE d y.to.toNat ((L+y.length) * 1048576+(U+1)),true) (d,c):=by
   rw[<- hw]
   unfold rlF edM edS
   simp only[hdu] <;> rfl
  have hlt:decide ((L+y.length < T (y.to.toNat * 2))\/(L+y.length=T (y.to.toNat * 2)/\U+1 < T (y.to.toNat * 2+1)))=ltO ((L+y.length) * 1048576+(U+1)) (d y.to.toNat):=by
   cases hdv:d y.to.toNat with
   | none =>
    rw[hdv] at hv
    have hv1:T (y.to.toNat * 2)=1000000000000:=(Prod.mk.inj hv).1
    rw[hv1]
    exact dqT (.inl (by omega))
   | some z =>
    obtain⟨L',U',m1,m2,m3,m4,m5,m6⟩:=zmg hE hs hi hdv
    rw[hdv] at hv m1
    rw[m1] at hv
    rw[(Prod.mk.inj hv).1,(Prod.mk.inj hv).2,m2]
    exact decide_eq_decide.2 (by omega)
  simp only[hlt]
  rw[hr] at hin ⊢
  have hrw:∀ T'',Rp N T d->T''=ts 80 T (y.to.toNat * 2) [T (y.to.toNat * 2),T (y.to.toNat * 2+1)]->Rp N T'' d:=λ T'' h e v hv'=>by
   rw[e,ze0 (by omega),ze0 (by omega),<- h v hv']
   by_cases hq:v=y.to.toNat
   ·subst hq
    rw[dqG (by omega),dqP rfl,dqP rfl]
   ·rw[dqG (by omega),dqG (by omega),dqG (by omega),dqG (by omega)]
  cases hlo:ltO ((L+y.length) * 1048576+(U+1)) (d y.to.toNat) with
  | false =>
   refine⟨ts 80 T (y.to.toNat * 2) [T (y.to.toNat * 2),T (y.to.toNat * 2+1)],?_,?_,hrw _ h1 rfl⟩
   ·simp only [dqB, decide_true]
    cases c <;> rfl
   ·simp only [dqB, Bool.true_and, decide_true]
    cases c <;> rfl
  | true =>
   rw[hlo] at hin
   simp only[dqA,dqB,Bool.true_and,decide_true] at hin ⊢
   refine⟨ts 80 T (y.to.toNat * 2) [L+y.length,U+1],?_,?_,?_⟩
   ·cases c
    ·rw [dqF]
     ·rfl
     ·intro h
      rw[<- hlt] at hlo
      have:=of_decide_eq_true hlo
      have h1':=(Prod.mk.inj h).1
      have h2':=(Prod.mk.inj h).2
      omega
    ·rfl
   ·cases c
    ·rw [dqF]
     ·rfl
     ·intro h
      rw[<- hlt] at hlo
      have:=of_decide_eq_true hlo
      have h1':=(Prod.mk.inj h).1
      have h2':=(Prod.mk.inj h).2
      omega
    ·rfl
   ·intro v hv'
    rw[ze0 (by omega),ze0 (by omega)]
    unfold zyE
    by_cases hq:v=y.to.toNat
    ·subst hq
     rw[dqG (by omega),dqP rfl,dqP rfl,dqP rfl]
     exact (zwG (by omega) (by omega)).symm
    ·rw [dqG (by omega), dqG (by omega), dqG (by omega), dqG (by omega), dqG hq]
     exact h1 v hv'
theorem zRs (a:web){N s:Nat}(E:List Ed) (hE:EdOk E N) (hn:zc4 E) (hs:s < N) (S2:Bool->Tab->Tab->Tab) (P2:Bool->Tab->Tab->Bool):∀ (l:List step),(∀ y∈l,StOk y N/\edS y∈E)->∀ (c:Bool) (T4 T:Tab) (d:zey),Rp N T d->Inv (E.map edM) (λ v=>v=s) d ->
  ∃ T',zqd S2 a l c T4 T=S2 (((l.map edS).map edM).foldl rlF (d,c)).2 T4 T'/\zqe P2 a l c T4 T=P2 (((l.map edS).map edM).foldl rlF (d,c)).2 T4 T'/\Rp N T' (((l.map edS).map edM).foldl rlF (d,c)).1:=by
 intro l
 induction l with
 | nil=>intro _ c T4 T d h1 _;exact⟨T,rfl,rfl,h1⟩
 | cons y l ih =>
  intro hl c T4 T d h1 h2
  obtain⟨hy,hm⟩:=hl y (dqj ..)
  obtain⟨T',k1,k2,k3⟩:=zRr a E hE hn hs S2 P2 y hy hm (zqd S2 a l) (zqe P2 a l) c T4 T d h1 h2
  have h3:=znY (Src:=λ v=>v=s) (zhO hn) (s:=(d,c)) (e:=edM (edS y)) (List.mem_map_of_mem hm) h2
  obtain⟨T'',m1,m2,m3⟩:=ih (λ z hz=>hl z (dqf _ hz)) (rlF (d,c) (edM (edS y))).2 T4 T' (rlF (d,c) (edM (edS y))).1 k3 h3
  exact⟨T'',Eq.trans k1 m1,Eq.trans k2 m2,m3⟩
theorem zG5 (a:web) (hnet:NetOk a.Net) (E:List Ed) (hEe:E=(Ws a).map edS){s:Nat}(hE:EdOk E a.Net.Nodes.toNat) (hn:zc4 E) (hs:s < a.Net.Nodes.toNat):∀ (m k:Nat) (T4 T:Tab) (d:zey),Rp a.Net.Nodes.toNat T d->Inv (E.map edM) (λ v=>v=s) d->Fix (E.map edM) (rds (E.map edM) m d)->m+1 < k ->
  ∃ T',zho a k true T4 T=true/\zhn a k true T4 T=T'/\Rp a.Net.Nodes.toNat T' (rds (E.map edM) m d):=by
 have hlen:=hnet.len
 obtain⟨q1,q2⟩:=zwJ a (by omega)
 have hst:∀ y∈Ws a,StOk y a.Net.Nodes.toNat/\edS y∈E:=λ y hy=>⟨zRp hnet hy,by rw[hEe];exact List.mem_map_of_mem hy⟩
 have one:∀ (k:Nat) (T4 T:Tab) (d:zey),Rp a.Net.Nodes.toNat T d->Inv (E.map edM) (λ v=>v=s) d ->
   ∃ T',zhn a (k+1) true T4 T=zhn a k ((E.map edM).foldl rlF (d,false)).2 T4 T'/\zho a (k+1) true T4 T=zho a k ((E.map edM).foldl rlF (d,false)).2 T4 T'/\Rp a.Net.Nodes.toNat T' (rnd (E.map edM) d):=by
  intro k T4 T d h1 h2
  obtain⟨T',k1,k2,k3⟩:=zRs a E hE hn hs (zhn a k) (zho a k) (Ws a) hst false T4 T d h1 h2
  rw[<- hEe] at k1 k2 k3
  refine⟨T',?_,?_,k3⟩
  ·show zqf a (zhn a k) true T4 T = _
   unfold zqf zvz
   rw[dqA,q2];exact k1
  ·show zqg a (zho a k) true T4 T = _
   unfold zqg zvA
   rw[dqA,q1,q2,dqT rfl,Bool.true_and];exact k2
 have stop:∀ (k:Nat) (T4 T:Tab),zhn a (k+1) false T4 T=T/\zho a (k+1) false T4 T=true:=λ k T4 T=>⟨rfl,rfl⟩
 intro m
 induction m with
 | zero =>
  intro k T4 T d h1 h2 h3 hk
  obtain⟨k,rfl⟩:∃ k',k=k'+1+1:=⟨k - 2,by omega⟩
  obtain⟨T',k1,k2,k3⟩:=one (k+1) T4 T d h1 h2
  have h3':Fix (E.map edM) d:=h3
  rw[zme h3'] at k1 k2
  rw[znX h3'] at k3
  obtain⟨j1,j2⟩:=stop k T4 T'
  exact⟨T',k2.trans j2,k1.trans j1,k3⟩
 | succ m ih =>
  intro k T4 T d h1 h2 h3 hk
  obtain⟨k,rfl⟩:∃ k',k=k'+1+1:=⟨k - 2,by omega⟩
  obtain⟨T',k1,k2,k3⟩:=one (k+1) T4 T d h1 h2
  cases hf:((E.map edM).foldl rlF (d,false)).2 with
  | false =>
   rw[hf] at k1 k2
   have hx:Fix (E.map edM) d:=zlg hf
   obtain⟨j1,j2⟩:=stop k T4 T'
   refine⟨T',k2.trans j2,k1.trans j1,?_⟩
   rw[znX hx] at k3
   rw[zEv hx];exact k3
  | true =>
   rw[hf] at k1 k2
   obtain⟨T'',m1,m2,m3⟩:=ih (k+1) T4 T' (rnd (E.map edM) d) k3 (zqQ (zhO hn) (λ _ h=>h) (s:=(d,false)) h2) h3 (by omega)
   exact⟨T'',k2.trans m1,k1.trans m2,m3⟩
theorem zNo (a:web) (node:Int):∀ (m k i:Nat) (T4 T:Tab),(∀ v,v < i->T (v * 2)=1000000000000/\T (v * 2+1)=0)->i+m=40->m < k ->
  ∃ T',zkL a node k (i:Int) T4 T=zqh a node T4 T'/\zkM a node k (i:Int) T4 T=zqi a node T4 T'/\∀ v,v < 40->T' (v * 2)=1000000000000/\T' (v * 2+1)=0:=by
 intro m
 induction m with
 | zero =>
  intro k i T4 T h hi hk
  obtain⟨k,rfl⟩:∃ k',k=k'+1:=⟨k - 1,by omega⟩
  refine⟨T,?_,?_,λ v hv=>h v (by omega)⟩
  ·show zkJ a node (zkL a node k) (i : Int) T4 T = _
   unfold zkJ
   rw[dqF (show ¬ (i:Int) < (40:Int) by omega),dqB]
  ·show zkK a node (zkM a node k) (i : Int) T4 T = _
   unfold zkK
   rw[dqF (show ¬ (i:Int) < (40:Int) by omega),dqB]
 | succ m ih =>
  intro k i T4 T h hi hk
  obtain⟨k,rfl⟩:∃ k',k=k'+1:=⟨k - 1,by omega⟩
  have hw:w64 ((i:Int)+(1:Int))=((i+1:Nat):Int):=by rw[zbs (by omega) (by omega)];omega
  obtain⟨T',k1,k2,k3⟩:=ih k (i+1) T4 (ts 80 T (i * 2) [(1000000000000:Int),(0:Int)]) (λ v hv=>by
   rw[ze0 (by omega),ze0 (by omega)]
   by_cases hq:v=i
   ·subst hq
    rw[dqG (by omega),dqP rfl,dqP rfl];exact⟨rfl,rfl⟩
   ·rw[dqG (by omega),dqG (by omega),dqG (by omega),dqG (by omega)];exact h v (by omega)) (by omega) (by omega)
  refine⟨T',?_,?_,k3⟩
  ·rw [← k1]
   show zkJ a node (zkL a node k) (i:Int) T4 T=_
   unfold zkJ
   rw[dqT (show (i:Int) < (40:Int) by omega),dqA,hw,dqN,show 0+i * 2+0=i * 2 by omega]
  ·rw [← k2]
   show zkK a node (zkM a node k) (i:Int) T4 T=_
   unfold zkK
   rw[dqT (show (i:Int) < (40:Int) by omega),dqA,dqT (show 0<=(i:Int)/\(i:Int) < (40:Int) by omega),Bool.true_and,hw,dqN,show 0+i * 2+0=i * 2 by omega]
theorem zRt (a : web) (hnet : NetOk a.Net) (hn : zc4 (We a)) (node : Int) (h0 : 0 ≤ node) (h1 : node < a.Net.Nodes) :
  p35 a node=true/\Rp a.Net.Nodes.toNat (s35 a node) (dst (We a) a.Net.Nodes.toNat node.toNat):=by
 have hn40:=hnet.n40
 have hEe:We a=(Ws a).map edS:=rfl
 have hE:EdOk (We a) a.Net.Nodes.toNat:=zIT hnet
 have hN:zc4 (We a):=hn
 have hs:node.toNat < a.Net.Nodes.toNat:=by omega
 obtain⟨T1,a1,a2,a3⟩:=zNo a node 40 Fuel 0 (λ _=>(0:Int)) (λ _=>(0:Int)) (λ v hv=>absurd hv (dqW _)) rfl (by simp only[Fuel];omega)
 have hr:Rp a.Net.Nodes.toNat (ts 80 T1 (node.toNat * 2) [(0:Int),(0:Int)]) (zEx node.toNat):=λ v hv=>by
  rw[ze0 (by omega),ze0 (by omega)]
  unfold zEx
  by_cases hq:v=node.toNat
  ·subst hq
   rw[dqG (by omega),dqP rfl,dqP rfl,dqP rfl];rfl
  ·rw[dqG (by omega),dqG (by omega),dqG (by omega),dqG (by omega),dqG hq,(a3 v (by omega)).1,(a3 v (by omega)).2];rfl
 obtain⟨T2,b1,b2,b3⟩:=zG5 a hnet (We a) hEe hE hN hs (a.Net.Nodes.toNat - 1) Fuel (λ _=>(0:Int)) (ts 80 T1 (node.toNat * 2) [(0:Int),(0:Int)]) (zEx node.toNat) hr (zjY (zh0 node.toNat)) (zwH hE hN hs) (by simp only[Fuel];omega)
 have e:0+node.toNat * 2+0=node.toNat * 2:=by omega
 constructor
 ·show zkM a node Fuel 0 (fun _ => (0:Int)) (fun _ => (0:Int)) = true
  refine Eq.trans a2 ?_
  unfold zqi zvC
  rw[dqT (show 0<=node/\node < (40:Int) by omega),Bool.true_and,e];exact b1
 ·have:s35 a node=T2:=by
   show zkL a node Fuel 0 (λ _=>(0:Int)) (λ _=>(0:Int))=T2
   refine Eq.trans a1 ?_
   unfold zqh zvB
   rw[e];exact b2
  rw[this];exact b3
end Go.Proofs
namespace Go.Proofs
open Go Go.Pm
set_option maxRecDepth 100000
set_option linter.unusedVariables false
def edQ (y:step):Ed:=⟨y.to.toNat,y.from_.toNat,y.length⟩
theorem zNp (l:List step):l.map edQ=(l.map edS).map edR:=by rw[List.map_map];rfl

theorem zRu (a : web) {N s : Nat} (E : List Ed) (hE : EdOk E N) (hn : zc4 E) (hs : s < N) (S2 : Bool → Tab → Tab → Tab) (P2 : Bool → Tab → Tab → Bool) (y : step) (hy : StOk y N) (hm : edQ y ∈ E) (S3 : Bool → Tab → Tab → Tab) (P3 : Bool → Tab → Tab → Bool) (c : Bool) (T4 T : Tab) (d : zey) (h1 : Rp N T d) (hi : Inv (E.map edM) (fun v => v = s) d) :
  ∃ T',zp3 S2 a y S3 c T4 T=S3 (rlF (d,c) (edM (edQ y))).2 T4 T'/\zp4 P2 a y P3 c T4 T=P3 (rlF (d,c) (edM (edQ y))).2 T4 T'/\Rp N T' (rlF (d,c) (edM (edQ y))).1:=by
 have hN:=hE.n40
 have f0:=hy.f0;have f1:=hy.f1;have t0:=hy.t0;have t1:=hy.t1;have l0:=hy.l0;have l1:=hy.l1
 have hu:=h1 y.to.toNat (by omega)
 have hv:=h1 y.from_.toNat (by omega)
 have e1:0+y.to.toNat * 2+0=y.to.toNat * 2:=by omega
 have e2:0+y.from_.toNat * 2+0=y.from_.toNat * 2:=by omega
 have e3:0+y.to.toNat * 2+1=y.to.toNat * 2+1:=by omega
 have hin:=znY (Src:=λ v=>v=s) (zhO hn) (s:=(d,c)) (e:=edM (edQ y)) (List.mem_map_of_mem hm) hi
 have hS:zp3 S2 a y S3 c T4 T=cond (nv (tg 80 T (0+y.to.toNat * 2+0)) (tg 80 T (0+y.to.toNat * 2+0+1))) (S3 c T4 T) (cond c (S3 true T4 (ts 80 T (0+y.from_.toNat * 2+0) [(s62 (⟨(tg 80 T (0+y.from_.toNat * 2+0)),(tg 80 T (0+y.from_.toNat * 2+0+1))⟩:far) (⟨1,λ _=>(⟨(w64 ((tg 80 T (0+y.to.toNat * 2+0))+y.length)),(w64 ((tg 80 T (0+y.to.toNat * 2+1))+(1:Int)))⟩:far)⟩:(Sl far))).length,(s62 (⟨(tg 80 T (0+y.from_.toNat * 2+0)),(tg 80 T (0+y.from_.toNat * 2+0+1))⟩:far) (⟨1,λ _=>(⟨(w64 ((tg 80 T (0+y.to.toNat * 2+0))+y.length)),(w64 ((tg 80 T (0+y.to.toNat * 2+1))+(1:Int)))⟩:far)⟩:(Sl far))).uses])) (S3 (!(sm (s62 (⟨(tg 80 T (0+y.from_.toNat * 2+0)),(tg 80 T (0+y.from_.toNat * 2+0+1))⟩:far) (⟨1,λ _=>(⟨(w64 ((tg 80 T (0+y.to.toNat * 2+0))+y.length)),(w64 ((tg 80 T (0+y.to.toNat * 2+1))+(1:Int)))⟩:far)⟩:(Sl far))).length (s62 (⟨(tg 80 T (0+y.from_.toNat * 2+0)),(tg 80 T (0+y.from_.toNat * 2+0+1))⟩:far) (⟨1,λ _=>(⟨(w64 ((tg 80 T (0+y.to.toNat * 2+0))+y.length)),(w64 ((tg 80 T (0+y.to.toNat * 2+1))+(1:Int)))⟩:far)⟩:(Sl far))).uses (tg 80 T (0+y.from_.toNat * 2+0)) (tg 80 T (0+y.from_.toNat * 2+0+1)))) T4 (ts 80 T (0+y.from_.toNat * 2+0) [(s62 (⟨(tg 80 T (0+y.from_.toNat * 2+0)),(tg 80 T (0+y.from_.toNat * 2+0+1))⟩:far) (⟨1,λ _=>(⟨(w64 ((tg 80 T (0+y.to.toNat * 2+0))+y.length)),(w64 ((tg 80 T (0+y.to.toNat * 2+1))+(1:Int)))⟩:far)⟩:(Sl far))).length,(s62 (⟨(tg 80 T (0+y.from_.toNat * 2+0)),(tg 80 T (0+y.from_.toNat * 2+0+1))⟩:far) (⟨1,λ _=>(⟨(w64 ((tg 80 T (0+y.to.toNat * 2+0))+y.length)),(w64 ((tg 80 T (0+y.to.toNat * 2+1))+(1:Int)))⟩:far)⟩:(Sl far))).uses]))):=rfl
 have hP:zp4 P2 a y P3 c T4 T=(decide (0<=y.to/\y.to < (40:Int)) && cond (nv (tg 80 T (0+y.to.toNat * 2+0)) (tg 80 T (0+y.to.toNat * 2+0+1))) (P3 c T4 T) (decide (0<=y.from_/\y.from_ < (40:Int)) && (decide (0<=y.to/\y.to < (40:Int)) && (decide (0<=y.to/\y.to < (40:Int)) && (decide (p62 (⟨(tg 80 T (0+y.from_.toNat * 2+0)),(tg 80 T (0+y.from_.toNat * 2+0+1))⟩:far) (⟨1,λ _=>(⟨(w64 ((tg 80 T (0+y.to.toNat * 2+0))+y.length)),(w64 ((tg 80 T (0+y.to.toNat * 2+1))+(1:Int)))⟩:far)⟩:(Sl far))=true) && cond c (decide (0<=y.from_/\y.from_ < (40:Int)) && P3 true T4 (ts 80 T (0+y.from_.toNat * 2+0) [(s62 (⟨(tg 80 T (0+y.from_.toNat * 2+0)),(tg 80 T (0+y.from_.toNat * 2+0+1))⟩:far) (⟨1,λ _=>(⟨(w64 ((tg 80 T (0+y.to.toNat * 2+0))+y.length)),(w64 ((tg 80 T (0+y.to.toNat * 2+1))+(1:Int)))⟩:far)⟩:(Sl far))).length,(s62 (⟨(tg 80 T (0+y.from_.toNat * 2+0)),(tg 80 T (0+y.from_.toNat * 2+0+1))⟩:far) (⟨1,λ _=>(⟨(w64 ((tg 80 T (0+y.to.toNat * 2+0))+y.length)),(w64 ((tg 80 T (0+y.to.toNat * 2+1))+(1:Int)))⟩:far)⟩:(Sl far))).uses])) (decide (0<=y.from_/\y.from_ < (40:Int)) && (decide (0<=y.from_/\y.from_ < (40:Int)) && P3 (!(sm (s62 (⟨(tg 80 T (0+y.from_.toNat * 2+0)),(tg 80 T (0+y.from_.toNat * 2+0+1))⟩:far) (⟨1,λ _=>(⟨(w64 ((tg 80 T (0+y.to.toNat * 2+0))+y.length)),(w64 ((tg 80 T (0+y.to.toNat * 2+1))+(1:Int)))⟩:far)⟩:(Sl far))).length (s62 (⟨(tg 80 T (0+y.from_.toNat * 2+0)),(tg 80 T (0+y.from_.toNat * 2+0+1))⟩:far) (⟨1,λ _=>(⟨(w64 ((tg 80 T (0+y.to.toNat * 2+0))+y.length)),(w64 ((tg 80 T (0+y.to.toNat * 2+1))+(1:Int)))⟩:far)⟩:(Sl far))).uses (tg 80 T (0+y.from_.toNat * 2+0)) (tg 80 T (0+y.from_.toNat * 2+0+1)))) T4 (ts 80 T (0+y.from_.toNat * 2+0) [(s62 (⟨(tg 80 T (0+y.from_.toNat * 2+0)),(tg 80 T (0+y.from_.toNat * 2+0+1))⟩:far) (⟨1,λ _=>(⟨(w64 ((tg 80 T (0+y.to.toNat * 2+0))+y.length)),(w64 ((tg 80 T (0+y.to.toNat * 2+1))+(1:Int)))⟩:far)⟩:(Sl far))).length,(s62 (⟨(tg 80 T (0+y.from_.toNat * 2+0)),(tg 80 T (0+y.from_.toNat * 2+0+1))⟩:far) (⟨1,λ _=>(⟨(w64 ((tg 80 T (0+y.to.toNat * 2+0))+y.length)),(w64 ((tg 80 T (0+y.to.toNat * 2+1))+(1:Int)))⟩:far)⟩:(Sl far))).uses])))))))):=rfl
 rw[hS,hP]
 clear hS hP
 rw[e1,e2,e3,zgU (k:=y.to.toNat * 2) (by omega),zgU (k:=y.to.toNat * 2+1) (by omega),zgU (k:=y.from_.toNat * 2) (by omega),zgU (k:=y.from_.toNat * 2+1) (by omega)]
 rw[dqT (show 0<=y.to/\y.to < (40:Int) by omega),dqT (show 0<=y.from_/\y.from_ < (40:Int) by omega)]
 simp only[zyJ,same_eq]
 cases hdu:d y.to.toNat with
 | none =>
  rw[hdu] at hu
  have hr:rlF (d,c) (edM (edQ y))=(d,c):=by
   unfold rlF edM edQ
   simp only[hdu]
  rw[hr,dqT (show (T (y.to.toNat * 2),T (y.to.toNat * 2+1))=((1000000000000:Int),(0:Int)) from hu)]
  exact⟨T,rfl,rfl,h1⟩
 | some x =>
  obtain⟨L,U,k1,k2,k3,k4,k5,k6⟩:=zmg hE hs hi hdu
  rw[hdu] at hu k1
  rw[k1] at hu
  have hL:T (y.to.toNat * 2)=L:=(Prod.mk.inj hu).1
  have hU:T (y.to.toNat * 2+1)=U:=(Prod.mk.inj hu).2
  rw[hL,hU,dqF (show ¬ (L,U)=((1000000000000:Int),(0:Int)) from λ h=>by have:=(Prod.mk.inj h).1;omega),zbs (x:=L+y.length) (by omega) (by omega),zbs (x:=U+(1:Int)) (by omega) (by omega)]
  rw[(zmf _ _).1,(zmf _ _).2,zEF]
  have hw:x+(edM (edQ y)).w=(L+y.length) * 1048576+(U+1):=by
   show x+(y.length * 1048576+1)=_
   omega
  have hr:rlF (d,c) (edM (edQ y))=cond (ltO ((L+y.length) * 1048576+(U+1)) (d y.from_.toNat)) (zyE d y.from_.toNat ((L+y.length) * 1048576+(U+1)),true) (d,c):=by
   rw[<- hw]
   unfold rlF edM edQ
   simp only[hdu] <;> rfl
  have hlt:decide ((L+y.length < T (y.from_.toNat * 2))\/(L+y.length=T (y.from_.toNat * 2)/\U+1 < T (y.from_.toNat * 2+1)))=ltO ((L+y.length) * 1048576+(U+1)) (d y.from_.toNat):=by
   cases hdv:d y.from_.toNat with
   | none =>
    rw[hdv] at hv
    have hv1:T (y.from_.toNat * 2)=1000000000000:=(Prod.mk.inj hv).1
    rw[hv1]
    exact dqT (.inl (by omega))
   | some z =>
    obtain⟨L',U',m1,m2,m3,m4,m5,m6⟩:=zmg hE hs hi hdv
    rw[hdv] at hv m1
    rw[m1] at hv
    rw[(Prod.mk.inj hv).1,(Prod.mk.inj hv).2,m2]
    exact decide_eq_decide.2 (by omega)
  simp only[hlt]
  rw[hr] at hin ⊢
  have hrw:∀ T'',Rp N T d->T''=ts 80 T (y.from_.toNat * 2) [T (y.from_.toNat * 2),T (y.from_.toNat * 2+1)]->Rp N T'' d:=λ T'' h e v hv'=>by
   rw[e,ze0 (by omega),ze0 (by omega),<- h v hv']
   by_cases hq:v=y.from_.toNat
   ·subst hq
    rw[dqG (by omega),dqP rfl,dqP rfl]
   ·rw[dqG (by omega),dqG (by omega),dqG (by omega),dqG (by omega)]
  cases hlo:ltO ((L+y.length) * 1048576+(U+1)) (d y.from_.toNat) with
  | false =>
   refine⟨ts 80 T (y.from_.toNat * 2) [T (y.from_.toNat * 2),T (y.from_.toNat * 2+1)],?_,?_,hrw _ h1 rfl⟩
   ·simp only [dqB, decide_true]
    cases c <;> rfl
   ·simp only [dqB, Bool.true_and, decide_true]
    cases c <;> rfl
  | true =>
   rw[hlo] at hin
   simp only[dqA,dqB,Bool.true_and,decide_true] at hin ⊢
   refine⟨ts 80 T (y.from_.toNat * 2) [L+y.length,U+1],?_,?_,?_⟩
   ·cases c
    ·rw [dqF]
     ·rfl
     ·intro h
      rw[<- hlt] at hlo
      have:=of_decide_eq_true hlo
      have h1':=(Prod.mk.inj h).1
      have h2':=(Prod.mk.inj h).2
      omega
    ·rfl
   ·cases c
    ·rw [dqF]
     ·rfl
     ·intro h
      rw[<- hlt] at hlo
      have:=of_decide_eq_true hlo
      have h1':=(Prod.mk.inj h).1
      have h2':=(Prod.mk.inj h).2
      omega
    ·rfl
   ·intro v hv'
    rw[ze0 (by omega),ze0 (by omega)]
    unfold zyE
    by_cases hq:v=y.from_.toNat
    ·subst hq
     rw[dqG (by omega),dqP rfl,dqP rfl,dqP rfl]
     exact (zwG (by omega) (by omega)).symm
    ·rw [dqG (by omega), dqG (by omega), dqG (by omega), dqG (by omega), dqG hq]
     exact h1 v hv'
theorem zRv (a:web){N s:Nat}(E:List Ed) (hE:EdOk E N) (hn:zc4 E) (hs:s < N) (S2:Bool->Tab->Tab->Tab) (P2:Bool->Tab->Tab->Bool):∀ (l:List step),(∀ y∈l,StOk y N/\edQ y∈E)->∀ (c:Bool) (T4 T:Tab) (d:zey),Rp N T d->Inv (E.map edM) (λ v=>v=s) d ->
  ∃ T',zp5 S2 a l c T4 T=S2 (((l.map edQ).map edM).foldl rlF (d,c)).2 T4 T'/\zp6 P2 a l c T4 T=P2 (((l.map edQ).map edM).foldl rlF (d,c)).2 T4 T'/\Rp N T' (((l.map edQ).map edM).foldl rlF (d,c)).1:=by
 intro l
 induction l with
 | nil=>intro _ c T4 T d h1 _;exact⟨T,rfl,rfl,h1⟩
 | cons y l ih =>
  intro hl c T4 T d h1 h2
  obtain⟨hy,hm⟩:=hl y (dqj ..)
  obtain⟨T',k1,k2,k3⟩:=zRu a E hE hn hs S2 P2 y hy hm (zp5 S2 a l) (zp6 P2 a l) c T4 T d h1 h2
  have h3:=znY (Src:=λ v=>v=s) (zhO hn) (s:=(d,c)) (e:=edM (edQ y)) (List.mem_map_of_mem hm) h2
  obtain⟨T'',m1,m2,m3⟩:=ih (λ z hz=>hl z (dqf _ hz)) (rlF (d,c) (edM (edQ y))).2 T4 T' (rlF (d,c) (edM (edQ y))).1 k3 h3
  exact⟨T'',Eq.trans k1 m1,Eq.trans k2 m2,m3⟩
theorem zG6 (a:web) (hnet:NetOk a.Net) (E:List Ed) (hEe:E=(Ws a).map edQ){s:Nat}(hE:EdOk E a.Net.Nodes.toNat) (hn:zc4 E) (hs:s < a.Net.Nodes.toNat):∀ (m k:Nat) (T4 T:Tab) (d:zey),Rp a.Net.Nodes.toNat T d->Inv (E.map edM) (λ v=>v=s) d->Fix (E.map edM) (rds (E.map edM) m d)->m+1 < k ->
  ∃ T',zhm a k true T4 T=true/\zhl a k true T4 T=T'/\Rp a.Net.Nodes.toNat T' (rds (E.map edM) m d):=by
 have hlen:=hnet.len
 obtain⟨q1,q2⟩:=zwJ a (by omega)
 have hst:∀ y∈Ws a,StOk y a.Net.Nodes.toNat/\edQ y∈E:=λ y hy=>⟨zRp hnet hy,by rw[hEe];exact List.mem_map_of_mem hy⟩
 have one:∀ (k:Nat) (T4 T:Tab) (d:zey),Rp a.Net.Nodes.toNat T d->Inv (E.map edM) (λ v=>v=s) d ->
   ∃ T',zhl a (k+1) true T4 T=zhl a k ((E.map edM).foldl rlF (d,false)).2 T4 T'/\zhm a (k+1) true T4 T=zhm a k ((E.map edM).foldl rlF (d,false)).2 T4 T'/\Rp a.Net.Nodes.toNat T' (rnd (E.map edM) d):=by
  intro k T4 T d h1 h2
  obtain⟨T',k1,k2,k3⟩:=zRv a E hE hn hs (zhl a k) (zhm a k) (Ws a) hst false T4 T d h1 h2
  rw[<- hEe] at k1 k2 k3
  refine⟨T',?_,?_,k3⟩
  ·show zp7 a (zhl a k) true T4 T = _
   unfold zp7 zvv
   rw[dqA,q2];exact k1
  ·show zp8 a (zhm a k) true T4 T = _
   unfold zp8 zvw
   rw[dqA,q1,q2,dqT rfl,Bool.true_and];exact k2
 have stop:∀ (k:Nat) (T4 T:Tab),zhl a (k+1) false T4 T=T/\zhm a (k+1) false T4 T=true:=λ k T4 T=>⟨rfl,rfl⟩
 intro m
 induction m with
 | zero =>
  intro k T4 T d h1 h2 h3 hk
  obtain⟨k,rfl⟩:∃ k',k=k'+1+1:=⟨k - 2,by omega⟩
  obtain⟨T',k1,k2,k3⟩:=one (k+1) T4 T d h1 h2
  have h3':Fix (E.map edM) d:=h3
  rw[zme h3'] at k1 k2
  rw[znX h3'] at k3
  obtain⟨j1,j2⟩:=stop k T4 T'
  exact⟨T',k2.trans j2,k1.trans j1,k3⟩
 | succ m ih =>
  intro k T4 T d h1 h2 h3 hk
  obtain⟨k,rfl⟩:∃ k',k=k'+1+1:=⟨k - 2,by omega⟩
  obtain⟨T',k1,k2,k3⟩:=one (k+1) T4 T d h1 h2
  cases hf:((E.map edM).foldl rlF (d,false)).2 with
  | false =>
   rw[hf] at k1 k2
   have hx:Fix (E.map edM) d:=zlg hf
   obtain⟨j1,j2⟩:=stop k T4 T'
   refine⟨T',k2.trans j2,k1.trans j1,?_⟩
   rw[znX hx] at k3
   rw[zEv hx];exact k3
  | true =>
   rw[hf] at k1 k2
   obtain⟨T'',m1,m2,m3⟩:=ih (k+1) T4 T' (rnd (E.map edM) d) k3 (zqQ (zhO hn) (λ _ h=>h) (s:=(d,false)) h2) h3 (by omega)
   exact⟨T'',k2.trans m1,k1.trans m2,m3⟩
theorem zNq (a:web) (node:Int):∀ (m k i:Nat) (T4 T:Tab),(∀ v,v < i->T (v * 2)=1000000000000/\T (v * 2+1)=0)->i+m=40->m < k ->
  ∃ T',zkH a node k (i:Int) T4 T=zp9 a node T4 T'/\zkI a node k (i:Int) T4 T=zqa a node T4 T'/\∀ v,v < 40->T' (v * 2)=1000000000000/\T' (v * 2+1)=0:=by
 intro m
 induction m with
 | zero =>
  intro k i T4 T h hi hk
  obtain⟨k,rfl⟩:∃ k',k=k'+1:=⟨k - 1,by omega⟩
  refine⟨T,?_,?_,λ v hv=>h v (by omega)⟩
  ·show zkF a node (zkH a node k) (i : Int) T4 T = _
   unfold zkF
   rw[dqF (show ¬ (i:Int) < (40:Int) by omega),dqB]
  ·show zkG a node (zkI a node k) (i : Int) T4 T = _
   unfold zkG
   rw[dqF (show ¬ (i:Int) < (40:Int) by omega),dqB]
 | succ m ih =>
  intro k i T4 T h hi hk
  obtain⟨k,rfl⟩:∃ k',k=k'+1:=⟨k - 1,by omega⟩
  have hw:w64 ((i:Int)+(1:Int))=((i+1:Nat):Int):=by rw[zbs (by omega) (by omega)];omega
  obtain⟨T',k1,k2,k3⟩:=ih k (i+1) T4 (ts 80 T (i * 2) [(1000000000000:Int),(0:Int)]) (λ v hv=>by
   rw[ze0 (by omega),ze0 (by omega)]
   by_cases hq:v=i
   ·subst hq
    rw[dqG (by omega),dqP rfl,dqP rfl];exact⟨rfl,rfl⟩
   ·rw[dqG (by omega),dqG (by omega),dqG (by omega),dqG (by omega)];exact h v (by omega)) (by omega) (by omega)
  refine⟨T',?_,?_,k3⟩
  ·rw [← k1]
   show zkF a node (zkH a node k) (i:Int) T4 T=_
   unfold zkF
   rw[dqT (show (i:Int) < (40:Int) by omega),dqA,hw,dqN,show 0+i * 2+0=i * 2 by omega]
  ·rw [← k2]
   show zkG a node (zkI a node k) (i:Int) T4 T=_
   unfold zkG
   rw[dqT (show (i:Int) < (40:Int) by omega),dqA,dqT (show 0<=(i:Int)/\(i:Int) < (40:Int) by omega),Bool.true_and,hw,dqN,show 0+i * 2+0=i * 2 by omega]
theorem zRw (a : web) (hnet : NetOk a.Net) (hn : zc4 (We a)) (node : Int) (h0 : 0 ≤ node) (h1 : node < a.Net.Nodes) :
  p34 a node=true/\Rp a.Net.Nodes.toNat (s34 a node) (dst ((We a).map edR) a.Net.Nodes.toNat node.toNat):=by
 have hn40:=hnet.n40
 have hEe:((We a).map edR)=(Ws a).map edQ:=(zNp (Ws a)).symm
 have hE:EdOk ((We a).map edR) a.Net.Nodes.toNat:=(zIT hnet).R
 have hN:zc4 ((We a).map edR):=zqR hn
 have hs:node.toNat < a.Net.Nodes.toNat:=by omega
 obtain⟨T1,a1,a2,a3⟩:=zNq a node 40 Fuel 0 (λ _=>(0:Int)) (λ _=>(0:Int)) (λ v hv=>absurd hv (dqW _)) rfl (by simp only[Fuel];omega)
 have hr:Rp a.Net.Nodes.toNat (ts 80 T1 (node.toNat * 2) [(0:Int),(0:Int)]) (zEx node.toNat):=λ v hv=>by
  rw[ze0 (by omega),ze0 (by omega)]
  unfold zEx
  by_cases hq:v=node.toNat
  ·subst hq
   rw[dqG (by omega),dqP rfl,dqP rfl,dqP rfl];rfl
  ·rw[dqG (by omega),dqG (by omega),dqG (by omega),dqG (by omega),dqG hq,(a3 v (by omega)).1,(a3 v (by omega)).2];rfl
 obtain⟨T2,b1,b2,b3⟩:=zG6 a hnet ((We a).map edR) hEe hE hN hs (a.Net.Nodes.toNat - 1) Fuel (λ _=>(0:Int)) (ts 80 T1 (node.toNat * 2) [(0:Int),(0:Int)]) (zEx node.toNat) hr (zjY (zh0 node.toNat)) (zwH hE hN hs) (by simp only[Fuel];omega)
 have e:0+node.toNat * 2+0=node.toNat * 2:=by omega
 constructor
 ·show zkI a node Fuel 0 (fun _ => (0:Int)) (fun _ => (0:Int)) = true
  refine Eq.trans a2 ?_
  unfold zqa zvy
  rw[dqT (show 0<=node/\node < (40:Int) by omega),Bool.true_and,e];exact b1
 ·have:s34 a node=T2:=by
   show zkH a node Fuel 0 (λ _=>(0:Int)) (λ _=>(0:Int))=T2
   refine Eq.trans a1 ?_
   unfold zp9 zvx
   rw[e];exact b2
  rw[this];exact b3
end Go.Proofs
namespace Go.Proofs
open Go Go.Pm
set_option maxRecDepth 100000
set_option linter.unusedVariables false
attribute [local irreducible] Go.Pm.vcFun Go.Pm.vc Go.Pm.vcIter
end Go.Proofs
namespace Go.Proofs
open Go Go.Pm
set_option maxRecDepth 100000
set_option linter.unusedVariables false
def W (n:Net):web:=⟨n,⟨0,λ _=>none⟩⟩
abbrev En (n:Net):List Ed:=We (W n)
def fr (n:Net) (i j:Nat):Int:=zIR (dst (En n) n.Nodes.toNat i j)
theorem zRx {E:List Ed}{n s v:Nat}(hE:EdOk E n) (hn:zc4 E) (hs:s < n) (hv:v < n):zIR (dst (E.map edR) n s v)=zIR (dst E n v s):=by
 refine Int.le_antisymm ?_ ?_
 ·rcases zfk (v := s) hE hn hv with ⟨_, h⟩ | ⟨c, _, h1, h2, _⟩
  ·rw [h]
   rcases zfk (v:=v) hE.R (zqR hn) hs with ⟨_,h⟩ | ⟨c,_,_,h2,_,_,_⟩ <;> omega
  ·rw[h2,<- zVi c];exact zqS hE.R (zqR hn) hs (zVj h1)
 ·rcases zfk (v := v) hE.R (zqR hn) hs with ⟨_, h⟩ | ⟨c, _, h1, h2, _⟩
  ·rw [h]
   rcases zfk (v:=s) hE hn hv with ⟨_,h⟩ | ⟨c,_,_,h2,_,_,_⟩ <;> omega
  ·obtain ⟨c0, k1, k2, _⟩ := zRo h1
   rw[h2,<- k2];exact zqS hE hn hv k1
theorem zyK {n:Net}(hn:NetOk n) (hN:zc4 (En n)) {i j:Nat}(hi:i < n.Nodes.toNat) : -1000000000000<=fr n i j/\fr n i j<=1000000000000:=by
 have hE:EdOk (En n) n.Nodes.toNat:=zIT (a:=W n) hn
 unfold fr
 rcases zfk (v:=j) hE hN hi with ⟨_,h⟩ | ⟨c,_,_,h2,_,h3,h4⟩
 ·rw[h];omega
 ·rw[h2];omega
theorem zG7 (n:Net) (nodes:Sl Int) (hl:nodes.len<=1000) (ht:n.Ties.len<=210):p33 n nodes=true /\
    (s32 n=false->s33 n nodes=(default,2)) /\
    (NetOk n->(¬ ∀ i,i < nodes.len->0<=nodes.get i/\nodes.get i < n.Nodes)->s33 n nodes=(default,2)) /\
    (NetOk n->(∀ i,i < nodes.len->0<=nodes.get i/\nodes.get i < n.Nodes)->¬ zc4 (En n)->s33 n nodes=(default,5)) /\
    (NetOk n->(∀ i,i < nodes.len->0<=nodes.get i/\nodes.get i < n.Nodes)->zc4 (En n)->s33 n nodes=(W n,0)):=by
  obtain⟨a1,a2⟩:=zwF n (by omega)
  unfold p33 s33
  rw[a1,dqT (show true=true from rfl),Bool.true_and]
  by_cases hs:s32 n=true
  · have hn := a2.1 hs
    have hn1:=hn.n1;have hn40:=hn.n40
    obtain⟨t1,_⟩:=zED (W n) hn
    rw[hs]
    have hg:∀ i,i < nodes.len->(s31 (nodes.get i) (0:Int) (w64 (n.Nodes - (1:Int)))=true↔0<=nodes.get i/\nodes.get i < n.Nodes):=λ i _=>by
      rw[zjU,decide_eq_true_eq,zbs (by omega) (by omega)];omega
    have hloop := zqN (good := fun i => s31 (nodes.get i) (0:Int) (w64 (n.Nodes - (1:Int)))) (bad := ((default : web), (2:Int))) (fin := zvh n (s60 (W n))) (finP := true) (n := nodes.len) (lpS := zkz n nodes) (lpP := zkA n nodes)
      (λ k i hi=>by
        show zkx n nodes (zkz n nodes k) (i:Int)=_
        generalize zkz n nodes k=S
        unfold zkx zvi
        rw[dqT (show (i:Int) < (nodes.len:Int) by omega),dqA,dqN]
        cases s31 (nodes.get i) (0:Int) (w64 (n.Nodes - (1:Int))) <;> rfl)
      (λ k=>by
        show zkx n nodes (zkz n nodes k) (nodes.len:Int)=_
        unfold zkx
        rw[dqF (show ¬ (nodes.len:Int) < (nodes.len:Int) by omega),dqB];rfl)
      (λ k i hi=>by
        show zky n nodes (zkA n nodes k) (i:Int)=_
        generalize zkA n nodes k=S
        unfold zky zvj
        rw[dqT (show (i:Int) < (nodes.len:Int) by omega),dqA,dqN,dqT (show 0<=(i:Int)/\(i:Int) < (nodes.len:Int) by omega),Bool.true_and]
        cases s31 (nodes.get i) (0:Int) (w64 (n.Nodes - (1:Int))) <;> rfl)
      (λ k=>by
        show zky n nodes (zkA n nodes k) (nodes.len:Int)=_
        unfold zky
        rw[dqF (show ¬ (nodes.len:Int) < (nodes.len:Int) by omega),dqB,show p60 (⟨n,(⟨0,(λ _=>none)⟩:Mp)⟩:web)=true from t1];rfl)
      (by omega)
    unfold zvp zvo zvn zvm zvl zvk
    by_cases hr:∀ i,i < nodes.len->0<=nodes.get i/\nodes.get i < n.Nodes
    · obtain ⟨l1, l2⟩ := hloop.1 (fun i hi => (hg i hi).2 (hr i hi))
      rw[l1,l2]
      refine⟨rfl,λ h=>(by cases h),λ _ h=>absurd hr h,λ _ _ h=>?_,λ _ _ h=>?_⟩
      · have:s60 (W n)=true:=by
          cases ht:s60 (W n)
          · exact absurd ((zEE (W n) hn).1 ht) h
          · rfl
        rw[this];rfl
      · rw[(zEE (W n) hn).2 h];rfl
    · obtain ⟨l1, l2⟩ := hloop.2 (fun h => hr fun i hi => (hg i hi).1 (h i hi))
      rw[l1,l2]
      exact⟨rfl,λ h=>(by cases h),λ _ _=>rfl,λ _ h=>absurd h hr,λ _ h=>absurd h hr⟩
  · rw [Bool.eq_false_iff.2 hs]
    have hno:NetOk n->False:=λ h=>hs (a2.2 h)
    exact⟨rfl,λ _=>rfl,λ h=>(hno h).elim,λ h=>(hno h).elim,λ h=>(hno h).elim⟩
theorem zUk {n:Net}(hn:NetOk n) (hN:zc4 (En n)) {i:Int}(h0:0<=i) (h1:i < n.Nodes){j:Nat}(hj:j < n.Nodes.toNat):p34 (W n) i=true/\s34 (W n) i (j * 2)=fr n j i.toNat:=by
 have h40:=hn.n40
 obtain⟨a,b⟩:=zRw (W n) hn hN i h0 h1
 refine⟨a,?_⟩
 have:=(Prod.mk.inj (b j hj)).1
 rw[this]
 exact zRx (zIT (a:=W n) hn) hN (show i.toNat < n.Nodes.toNat by omega) hj
theorem zNr {n:Net}(hn:NetOk n) (hN:zc4 (En n)) {i:Int}(h0:0<=i) (h1:i < n.Nodes){j:Nat}(hj:j < n.Nodes.toNat):p35 (W n) i=true/\s35 (W n) i (j * 2)=fr n i.toNat j:=by
 obtain⟨a,b⟩:=zRt (W n) hn hN i h0 h1
 exact⟨a,(Prod.mk.inj (b j hj)).1⟩
theorem zNs {α:Type}(i:Nat) (v:α) (g:Nat->α) (j:Nat):setT i v g j=if j=i then v else g j:=by
 show (match Nat.beq j i with | true=>v | false=>g j)=_
 by_cases h:j=i
 ·rw[dqP h,show Nat.beq j i=true from by rw[h];exact Nat.beq_refl _]
 ·rw[dqG h,show Nat.beq j i=false from Bool.eq_false_iff.2 λ e=>h (dqc e)]
def zIU (n:Net) (i:Nat) (v:Sl Span):Sl Span:=⟨v.len,setT i (⟨-fr n i 0,fr n 0 i⟩:Span) v.get⟩
theorem zNt (n:Net):∀ (m i:Nat) (v:Sl Span),(∀ j,j < i->v.get j=⟨-fr n j 0,fr n 0 j⟩)->(zhM (zIU n) m i v).len=v.len/\∀ j,j < i+m->(zhM (zIU n) m i v).get j=⟨-fr n j 0,fr n 0 j⟩:=by
 intro m
 induction m with
 | zero=>intro i v h;exact⟨rfl,λ j hj=>h j (by omega)⟩
 | succ m ih =>
  intro i v h
  obtain⟨k1,k2⟩:=ih (i+1) (zIU n i v) (λ j hj=>by
   show setT i _ v.get j=_
   rw[zNs]
   by_cases hji:j=i
   ·rw[dqP hji,hji]
   ·rw[dqG hji];exact h j (by omega))
  exact⟨k1,λ j hj=>k2 j (by omega)⟩
theorem zEG {n:Net}(ht:n.Ties.len<=210) (hn:NetOk n) (hN:zc4 (En n)):p11 n=true/\∃ l,s11 n=(l,0)/\l.len=n.Nodes.toNat/\∀ i,i < n.Nodes.toNat->l.get i=⟨-fr n i 0,fr n 0 i⟩:=by
  have hn1:=hn.n1;have hn40:=hn.n40
  obtain⟨w0,_,_,_,w4⟩:=zG7 n (⟨0,λ _=>default⟩:Sl Int) (by decide) ht
  have w4':=w4 hn (λ i hi=>absurd hi (dqW _)) hN
  have hT:=λ (j:Nat) (hj:j < n.Nodes.toNat)=>zUk hn hN (i:=0) (Int.le_refl _) (by omega) hj
  have hF:=λ (j:Nat) (hj:j < n.Nodes.toNat)=>zNr hn hN (i:=0) (Int.le_refl _) (by omega) hj
  have p1:=(hT 0 (by omega)).1
  have p2:=(hF 0 (by omega)).1
  have hloop := znW (step := zIU n) (E := fun v => (v, (0:Int))) (EP := fun _ => true) (Inv := fun _ v => v.len = n.Nodes.toNat) (a := 0) (n := n.Nodes.toNat) (lpS := fun k v i => ziY n k i v (s34 (W n) 0) (s35 (W n) 0)) (lpP := fun k v i => ziZ n k i v (s34 (W n) 0) (s35 (W n) 0))
    (λ k i v _ hi hv=>by
      show zkN n (ziY n k) (i:Int) v (s34 (W n) 0) (s35 (W n) 0)=ziY n k (w64 ((i:Int)+(1:Int))) (zIU n i v) (s34 (W n) 0) (s35 (W n) 0)
      generalize ziY n k=S
      unfold zkN zIU
      have hb:=zyK hn hN (i:=i) (j:=0) hi
      rw[dqT (show (i:Int) < (n.Nodes.toNat:Int) by omega),dqA,dqN,show 0+i * 2+0=i * 2 by omega,zgU (by omega),zgU (by omega),(hT i hi).2,(hF i hi).2,show (0:Int).toNat=0 from rfl,zbs (x:=0 - fr n i 0) (by omega) (by omega),show (0:Int) - fr n i 0 = -fr n i 0 by omega])
    (λ k v=>by
      show zkN n (ziY n k) (n.Nodes.toNat:Int) v (s34 (W n) 0) (s35 (W n) 0)=_
      unfold zkN
      rw[dqF (show ¬ (n.Nodes.toNat:Int) < (n.Nodes.toNat:Int) by omega),dqB])
    (λ k i v _ hi hv=>by
      show zkO n (ziZ n k) (i:Int) v (s34 (W n) 0) (s35 (W n) 0)=ziZ n k (w64 ((i:Int)+(1:Int))) (zIU n i v) (s34 (W n) 0) (s35 (W n) 0)
      generalize ziZ n k=S
      unfold zkO zIU
      have hb:=zyK hn hN (i:=i) (j:=0) hi
      have hv':v.len=n.Nodes.toNat:=hv
      rw[dqT (show (i:Int) < (n.Nodes.toNat:Int) by omega),dqA,dqN,show 0+i * 2+0=i * 2 by omega,zgU (by omega),zgU (by omega),(hT i hi).2,(hF i hi).2,show (0:Int).toNat=0 from rfl,zbs (x:=0 - fr n i 0) (by omega) (by omega),show (0:Int) - fr n i 0 = -fr n i 0 by omega,
        dqT (show 0<=(i:Int)/\(i:Int) < (40:Int) by omega),dqT (show 0<=(i:Int)/\(i:Int) < (v.len:Int) by omega),dqT (show i < v.len by omega)]
      rfl)
    (λ k v=>by
      show zkO n (ziZ n k) (n.Nodes.toNat:Int) v (s34 (W n) 0) (s35 (W n) 0)=_
      unfold zkO
      rw[dqF (show ¬ (n.Nodes.toNat:Int) < (n.Nodes.toNat:Int) by omega),dqB])
    (λ i v _ _ h=>h) (Nat.zero_le _) (by omega) (⟨n.Nodes.toNat,(λ _=>(⟨(0:Int),(0:Int)⟩:Span))⟩:Sl Span) rfl
  obtain⟨l1,l2⟩:=hloop
  obtain⟨f1,f2⟩:=zNt n (n.Nodes.toNat - 0) 0 (⟨n.Nodes.toNat,(λ _=>(⟨(0:Int),(0:Int)⟩:Span))⟩:Sl Span) (λ j hj=>absurd hj (dqW _))
  constructor
  · unfold p11
    rw[w0,w4']
    show (cond ((0:Int) == 0) (decide (true=true) && cond ((0:Int) != (0:Int)) true (decide (p34 (W n) 0=true) && (decide (p35 (W n) 0=true) && (decide (0<=n.Nodes/\n.Nodes=n.Nodes/\n.Nodes<=1000000) && zvD n (0:Int) (⟨n.Nodes.toNat,(λ _=>(⟨(0:Int),(0:Int)⟩:Span))⟩:Sl Span) (s34 (W n) 0) (s35 (W n) 0))))) _)=true
    rw[p1,p2,dqT (show 0<=n.Nodes/\n.Nodes=n.Nodes/\n.Nodes<=1000000 from ⟨by omega,rfl,by omega⟩)]
    exact l1
  · refine ⟨_, ?_, f1, fun i hi => f2 i (by omega)⟩
    unfold s11
    rw[w4']
    exact l2
theorem zoQ {n:Net}(hn:NetOk n){v:Sl Int}(hv:AgOk n v):∀ e∈En n,v.get e.v<=v.get e.u+e.w:=by
 intro e he
 obtain⟨j,h1,_,h3⟩:=(zEB (a:=W n) hn).1 he
 have hk:=hv.keep j h1
 rcases h3 with ⟨h4,rfl⟩ | ⟨h4,rfl⟩
 ·have := hk.2.resolve_left h4
  show v.get (n.Ties.get j).To.toNat<=v.get (n.Ties.get j).From.toNat+(n.Ties.get j).High
  omega
 ·have := hk.1.resolve_left h4
  show v.get (n.Ties.get j).From.toNat<=v.get (n.Ties.get j).To.toNat + -(n.Ties.get j).Low
  omega
theorem zlJ {n:Net}(hn:NetOk n){v:Sl Int}(hv:AgOk n v):zc4 (En n):=ztt (f:=v.get) (zoQ hn hv)
theorem ztu {n:Net}(hn:NetOk n){v:Sl Int}(hv:AgOk n v){i j:Nat}(hi:i < n.Nodes.toNat) (hj:fr n i j ≠ 1000000000000):v.get j - v.get i<=fr n i j:=by
 have hE:EdOk (En n) n.Nodes.toNat:=zIT (a:=W n) hn
 have:=zG2 (v:=j) hE (zlJ hn hv) hi (zoQ hn hv) (λ h=>hj (by unfold fr;rw[h];rfl))
 unfold fr
 omega
end Go.Proofs
namespace Go.Proofs
open Go Go.Pm
set_option maxRecDepth 100000
set_option linter.unusedVariables false
theorem zNu {α:Type}(n:Nat) (g:Nat->α) (x:α) (j:Nat):zfU n g (λ _=>x) j=if n<=j then x else g j:=by
 unfold zfU
 by_cases h:n<=j
 ·rw[dqP h,show Nat.ble n j=true from Nat.ble_eq_true_of_le h]
 ·rw[dqG h,show Nat.ble n j=false from Bool.eq_false_iff.2 λ k=>h (Nat.le_of_ble_eq_true k)]
def apL {α:Type}(l:Nat->α) (i:Nat) (v:Sl α):Sl α:=⟨v.len+1,zfU v.len v.get (λ _=>l i)⟩
theorem zRy {α:Type}(l:Nat->α):∀ (m i:Nat) (v:Sl α),v.len=i->(∀ j,j < i->v.get j=l j)->(zhM (apL l) m i v).len=i+m/\∀ j,j < i+m->(zhM (apL l) m i v).get j=l j:=by
 intro m
 induction m with
 | zero=>intro i v h1 h2;exact⟨h1,λ j hj=>h2 j (by omega)⟩
 | succ m ih =>
  intro i v h1 h2
  obtain⟨k1,k2⟩:=ih (i+1) (apL l i v) (by show v.len+1=i+1;omega) (λ j hj=>by
   show zfU v.len v.get (λ _=>l i) j=_
   rw[zNu]
   by_cases h:v.len<=j
   ·rw[dqP h,show j=i by omega]
   ·rw[dqG h];exact h2 j (by omega))
  exact⟨k1.trans (by omega),λ j hj=>k2 j (by omega)⟩
theorem zEH {n:Net}(hn:NetOk n){v:Sl Int}(hv:AgOk n v){i:Nat}(hi:i < n.Nodes.toNat) : -fr n i 0<=v.get i/\v.get i<=fr n 0 i:=by
 have hn1:=hn.n1
 have h0:=hv.val.zero
 have hb:=hv.val.b i (by have:=hv.val.len;omega)
 constructor
 ·by_cases h : fr n i 0 = 1000000000000
  ·omega
  ·have:=ztu hn hv (i:=i) (j:=0) hi h;omega
 ·by_cases h : fr n 0 i = 1000000000000
  ·omega
  ·have:=ztu hn hv (i:=0) (j:=i) (by omega) h;omega
end Go.Proofs
namespace Go.Proofs
open Go Go.Pm
set_option maxRecDepth 100000
set_option linter.unusedVariables false
def zG (l:Sl Plane) (i:Nat):Bool:=cond (decide ((i:Int) > (0:Int))) (!decide ((l.get i).Z<=(l.get (w64 ((i:Int) - (1:Int))).toNat).Z)) true
structure SetOk (l : Sl Plane) : Prop where
  n1:1<=l.len
  n16:l.len<=16
  pl:∀ i,i < l.len->PlOk (l.get i)
  z:∀ i,i < l.len->zG l i=true
theorem zUl (s:Setup) (h:s.Planes.len<=9223372036854775807):p5 s=true:=by
  have hl := zdz (good := fun i => !decide (((s.Planes.get i).Drift.len : Int) > (60:Int)) && !decide (((s.Planes.get i).Dead.len : Int) > (110:Int))) (fin := decide ((s.Planes.len : Int) ≤ (20:Int))) (n := s.Planes.len) (lpS := zoE s) (lpP := zoF s)
    (λ k i hi=>by
      show zoC s (zoE s k) (i:Int)=_
      generalize zoE s k=S
      unfold zoC
      rw[dqT (show (i:Int) < (s.Planes.len:Int) by omega),dqA,dqN]
      cases decide (((s.Planes.get i).Drift.len:Int) > (60:Int)) <;> cases decide (((s.Planes.get i).Dead.len:Int) > (110:Int)) <;> rfl)
    (λ k=>by
      show zoC s (zoE s k) (s.Planes.len:Int)=_
      unfold zoC
      rw[dqF (show ¬ (s.Planes.len:Int) < (s.Planes.len:Int) by omega),dqB])
    (λ k i hi=>by
      show zoD s (zoF s k) (i:Int)=_
      generalize zoF s k=S
      unfold zoD
      rw[dqT (show (i:Int) < (s.Planes.len:Int) by omega),dqA,dqN,dqT (show 0<=(i:Int)/\(i:Int) < (s.Planes.len:Int) by omega)]
      cases decide (((s.Planes.get i).Drift.len:Int) > (60:Int)) <;> cases decide (((s.Planes.get i).Dead.len:Int) > (110:Int)) <;> rfl)
    (λ k=>by
      show zoD s (zoF s k) (s.Planes.len:Int)=_
      unfold zoD
      rw[dqF (show ¬ (s.Planes.len:Int) < (s.Planes.len:Int) by omega),dqB]) h
  exact hl.1
theorem zUm (l:Sl Plane) (hn:l.len<=9223372036854775807) (hw:∀ i,i < l.len->(l.get i).Drift.len<=9223372036854775807/\(l.get i).Dead.len<=9223372036854775807):p6 ⟨l⟩=true/\(s6 ⟨l⟩=true->SetOk l):=by
  have hl := zdz (good := (fun i => s24 (l.get i) && zG l i)) (fin := true) (n := l.len) (lpS := fun k i => zls  k i l) (lpP := fun k i => zlt  k i l)
    (λ k i hi=>by
      show zoG  (zls  k) (i:Int) l=cond (s24 (l.get i) && zG l i) (zls  k (w64 ((i:Int)+(1:Int))) l) false
      generalize zls  k=S
      unfold zoG
      rw[dqT (show (i:Int) < (l.len:Int) by omega),dqA,dqN]
      unfold zsm zG
      cases s24 (l.get i) <;> cases decide ((i:Int) > (0:Int)) <;> cases decide ((l.get i).Z<=(l.get (w64 ((i:Int) - (1:Int))).toNat).Z) <;> rfl)
    (λ k=>by
      show zoG  (zls  k) ((l.len:Nat):Int) l=_
      unfold zoG
      rw[dqF (show ¬ ((l.len:Nat):Int) < (l.len:Int) by omega),dqB])
    (λ k i hi=>by
      show zoH  (zlt  k) (i:Int) l=cond (s24 (l.get i) && zG l i) (zlt  k (w64 ((i:Int)+(1:Int))) l) true
      generalize zlt  k=S
      unfold zoH
      rw[dqT (show (i:Int) < (l.len:Int) by omega),dqA,dqN]
      unfold zsn zG
      rw[dqT (show 0<=(i:Int)/\(i:Int) < (l.len:Int) by omega),dqT (show p24 (l.get i)=true from zRh _ (hw i hi).1 (hw i hi).2)]
      by_cases h0:(i:Int) > 0
      · rw [dqT (show 0 ≤ w64 ((i : Int) - (1:Int)) ∧ w64 ((i : Int) - (1:Int)) < (l.len : Int) by rw [zbs (by omega) (by omega)]; omega), dqT h0]
        cases s24 (l.get i) <;> cases decide ((l.get i).Z<=(l.get (w64 ((i:Int) - (1:Int))).toNat).Z) <;> rfl
      · rw [dqF h0]
        cases s24 (l.get i) <;> rfl)
    (λ k=>by
      show zoH  (zlt  k) ((l.len:Nat):Int) l=_
      unfold zoH
      rw[dqF (show ¬ ((l.len:Nat):Int) < (l.len:Int) by omega),dqB])
    hn
  unfold p6 s6 zCM zCL zCK zCJ zCI zCH
  show cond (!(s23 (l.len:Int) (1:Int) (16:Int))) true (zlt Fuel 0 l)=true/\(cond (!(s23 (l.len:Int) (1:Int) (16:Int))) false (zls Fuel 0 l)=true->SetOk l)
  rw[hl.1,cT]
  refine⟨by cases s23 (l.len:Int) (1:Int) (16:Int) <;> rfl,λ h=>?_⟩
  rw[dqm,zjV,decide_eq_true_eq] at h
  have hg:=(hl.2.1 h.2).1
  exact⟨by omega,by omega,λ i hi=>zRi _ (hw i hi).1 (hw i hi).2 (by have:=hg i hi;rw[dqm] at this;exact this.1),λ i hi=>by have:=hg i hi;rw[dqm] at this;exact this.2⟩
theorem zEI {l:Sl Plane}(h:SetOk l):p36 ⟨l⟩=true/\s36 ⟨l⟩=true:=by
  have n1:=h.n1;have n16:=h.n16
  have hl := zdz (good := (fun i => s64 ⟨l.get i, (i : Int)⟩ && zG l i)) (fin := s65 (l.len : Int) (1:Int) (16:Int)) (n := l.len) (lpS := fun k i => zi3  k l (l.len : Int) i l) (lpP := fun k i => zi4  k l (l.len : Int) i l)
    (λ k i hi=>by
      show zkY  (zi3  k) l (l.len:Int) (i:Int) l=cond (s64 ⟨l.get i,(i:Int)⟩ && zG l i) (zi3  k l (l.len:Int) (w64 ((i:Int)+(1:Int))) l) false
      generalize zi3  k=S
      unfold zkY
      rw[dqT (show (i:Int) < (l.len:Int) by omega),dqA,dqN]
      unfold zno zG
      cases s64 ⟨l.get i,(i:Int)⟩ <;> cases decide ((i:Int) > (0:Int)) <;> cases decide ((l.get i).Z<=(l.get (w64 ((i:Int) - (1:Int))).toNat).Z) <;> rfl)
    (λ k=>by
      show zkY  (zi3  k) l (l.len:Int) ((l.len:Nat):Int) l=_
      unfold zkY
      rw[dqF (show ¬ ((l.len:Nat):Int) < (l.len:Int) by omega),dqB])
    (λ k i hi=>by
      show zkZ  (zi4  k) l (l.len:Int) (i:Int) l=cond (s64 ⟨l.get i,(i:Int)⟩ && zG l i) (zi4  k l (l.len:Int) (w64 ((i:Int)+(1:Int))) l) true
      generalize zi4  k=S
      unfold zkZ
      rw[dqT (show (i:Int) < (l.len:Int) by omega),dqA,dqN]
      unfold znp zG
      rw[dqT (show 0<=(i:Int)/\(i:Int) < (l.len:Int) by omega),dqT (show p64 ⟨l.get i,(i:Int)⟩=true from (zIM (h.pl i hi) _).1)]
      by_cases h0:(i:Int) > 0
      · rw [dqT (show 0 ≤ w64 ((i : Int) - (1:Int)) ∧ w64 ((i : Int) - (1:Int)) < (l.len : Int) by rw [zbs (by omega) (by omega)]; omega), dqT h0]
        cases s64 ⟨l.get i,(i:Int)⟩ <;> cases decide ((l.get i).Z<=(l.get (w64 ((i:Int) - (1:Int))).toNat).Z) <;> rfl
      · rw [dqF h0]
        cases s64 ⟨l.get i,(i:Int)⟩ <;> rfl)
    (λ k=>by
      show zkZ  (zi4  k) l (l.len:Int) ((l.len:Nat):Int) l=_
      unfold zkZ
      rw[dqF (show ¬ ((l.len:Nat):Int) < (l.len:Int) by omega),dqB])
    (by omega)
  exact⟨hl.1,hl.2.2 ⟨λ i hi=>by rw[(zIM (h.pl i hi) _).2,h.z i hi];rfl,by rw[zjW];exact dqT (by omega)⟩⟩
theorem zIV (p:Plane) (c:Int) (hn:p.Dead.len<=100):p30 p c=true/\(s30 p c=false->∀ i,i < p.Dead.len->p.Dead.get i ≠ c):=by
  have hl := zqN (good := (fun i => !(p.Dead.get i == c))) (bad := true) (fin := false) (finP := true) (n := p.Dead.len) (lpS := fun k i => zhf p c k i) (lpP := fun k i => ziU p c k i)
    (λ k i hi=>by
      show zkr p c (zhf p c k) (i:Int)=cond (!(p.Dead.get i == c)) (zhf p c k (w64 ((i:Int)+(1:Int)))) true
      generalize zhf p c k=S
      unfold zkr
      rw[dqT (show (i:Int) < (p.Dead.len:Int) by omega),dqA,dqN]
      cases p.Dead.get i == c <;> rfl)
    (λ k=>by
      show zkr p c (zhf p c k) ((p.Dead.len:Nat):Int)=_
      unfold zkr
      rw[dqF (show ¬ ((p.Dead.len:Nat):Int) < (p.Dead.len:Int) by omega),dqB])
    (λ k i hi=>by
      show zks p c (ziU p c k) (i:Int)=cond (!(p.Dead.get i == c)) (ziU p c k (w64 ((i:Int)+(1:Int)))) true
      generalize ziU p c k=S
      unfold zks
      rw[dqT (show (i:Int) < (p.Dead.len:Int) by omega),dqA,dqN]
      rw[dqT (show 0<=(i:Int)/\(i:Int) < (p.Dead.len:Int) by omega)]
      cases p.Dead.get i == c <;> rfl)
    (λ k=>by
      show zks p c (ziU p c k) ((p.Dead.len:Nat):Int)=_
      unfold zks
      rw[dqF (show ¬ ((p.Dead.len:Nat):Int) < (p.Dead.len:Int) by omega),dqB])
    (by omega)
  unfold p30 s30 zva zu9
  by_cases hg:∀ i,i < p.Dead.len->(!(p.Dead.get i == c))=true
  · exact⟨(hl.1 hg).1,λ _ i hi e=>by have:=hg i hi;rw[e,beq_self_eq_true] at this;cases this⟩
  · exact⟨(hl.2 hg).1,λ k=>by rw[show zhf p c Fuel 0=true from (hl.2 hg).2] at k;cases k⟩
structure HitA (l : Sl Plane) (h : Hit) : Prop where
  p0:0<=h.Plane
  p1:h.Plane < (l.len:Int)
  c:h.Channel=0
  m:h.Many=1
  d:h.Drift=0
  q:h.Charge=(l.get h.Plane.toNat).Least
structure HitB (l : Sl Plane) (h : Hit) : Prop where
  t : -1000000000<=h.Time/\h.Time<=1000000000
  dead:∀ i,i < (l.get h.Plane.toNat).Dead.len->(l.get h.Plane.toNat).Dead.get i ≠ 0
theorem zUn {l:Sl Plane}(hs:SetOk l){h:Hit}(ha:HitA l h) (h3:(l.get h.Plane.toNat).Kind ≠ 3):p9 ⟨l⟩ h=true/\(s9 ⟨l⟩ h=true->HitB l h):=by
  have n1:=hs.n1;have n16:=hs.n16
  obtain⟨a0,a1,ac,am,ad,aq⟩:=ha
  have hp:=hs.pl h.Plane.toNat (by omega)
  have hdl:=hp.dl
  have hst:=hp.st
  have hle:=hp.l
  have hl := zdz (good := (fun i => !(s30 (l.get h.Plane.toNat) (w64 (h.Channel + (i : Int))))))  (n := 1) (lpS := fun k i => zoK h (l.get h.Plane.toNat).Kind (l.get h.Plane.toNat).View (l.get h.Plane.toNat).Z (l.get h.Plane.toNat).First (l.get h.Plane.toNat).Pitch (l.get h.Plane.toNat).Strips (l.get h.Plane.toNat).Spill (l.get h.Plane.toNat).Offset.Low (l.get h.Plane.toNat).Offset.High (l.get h.Plane.toNat).Clock.Low (l.get h.Plane.toNat).Clock.High (l.get h.Plane.toNat).Jitter (l.get h.Plane.toNat).Least (l.get h.Plane.toNat).Drift (l.get h.Plane.toNat).Dead k i) (lpP := fun k i => zne h (l.get h.Plane.toNat).Kind (l.get h.Plane.toNat).View (l.get h.Plane.toNat).Z (l.get h.Plane.toNat).First (l.get h.Plane.toNat).Pitch (l.get h.Plane.toNat).Strips (l.get h.Plane.toNat).Spill (l.get h.Plane.toNat).Offset.Low (l.get h.Plane.toNat).Offset.High (l.get h.Plane.toNat).Clock.Low (l.get h.Plane.toNat).Clock.High (l.get h.Plane.toNat).Jitter (l.get h.Plane.toNat).Least (l.get h.Plane.toNat).Drift (l.get h.Plane.toNat).Dead k i)
    (λ k i hi=>by
      show zoI h _ _ _ _ _ _ _ _ _ _ _ _ _ _ _ (zoK h _ _ _ _ _ _ _ _ _ _ _ _ _ _ _ k) (i:Int)=cond (!(s30 (l.get h.Plane.toNat) (w64 (h.Channel+(i:Int))))) (zoK h _ _ _ _ _ _ _ _ _ _ _ _ _ _ _ k (w64 ((i:Int)+(1:Int)))) false
      unfold zoI
      rw[dqT (show (i:Int) < h.Many by omega),dqA]
      unfold zCN
      show cond (s30 (l.get h.Plane.toNat) (w64 (h.Channel+(i:Int)))) false _=_
      cases s30 (l.get h.Plane.toNat) (w64 (h.Channel+(i:Int))) <;> rfl)
    (λ k=>by
      show zoI h _ _ _ _ _ _ _ _ _ _ _ _ _ _ _ (zoK h _ _ _ _ _ _ _ _ _ _ _ _ _ _ _ k) ((1:Nat):Int)=_
      unfold zoI
      rw[dqF (show ¬ ((1:Nat):Int) < h.Many by omega),dqB])
    (λ k i hi=>by
      show zoJ h _ _ _ _ _ _ _ _ _ _ _ _ _ _ _ (zne h _ _ _ _ _ _ _ _ _ _ _ _ _ _ _ k) (i:Int)=cond (!(s30 (l.get h.Plane.toNat) (w64 (h.Channel+(i:Int))))) (zne h _ _ _ _ _ _ _ _ _ _ _ _ _ _ _ k (w64 ((i:Int)+(1:Int)))) true
      unfold zoJ
      rw[dqT (show (i:Int) < h.Many by omega),dqA]
      unfold zCO
      show (decide (p30 (l.get h.Plane.toNat) (w64 (h.Channel+(i:Int)))=true) && cond (s30 (l.get h.Plane.toNat) (w64 (h.Channel+(i:Int)))) true _)=_
      rw[(zIV _ _ hdl).1]
      cases s30 (l.get h.Plane.toNat) (w64 (h.Channel+(i:Int))) <;> rfl)
    (λ k=>by
      show zoJ h _ _ _ _ _ _ _ _ _ _ _ _ _ _ _ (zne h _ _ _ _ _ _ _ _ _ _ _ _ _ _ _ k) ((1:Nat):Int)=_
      unfold zoJ
      rw[dqF (show ¬ ((1:Nat):Int) < h.Many by omega),dqB])
    (by omega)
  have r1:s23 h.Plane (0:Int) (w64 ((l.len:Int) - (1:Int)))=true:=by rw[zjV,zbs (by omega) (by omega)];exact dqT (by omega)
  have r2:s23 h.Channel (0:Int) (w64 ((l.get h.Plane.toNat).Strips - (1:Int)))=true:=by rw[zjV,zbs (by omega) (by omega),ac];exact dqT (by omega)
  have r3:s23 h.Many (1:Int) (w64 ((l.get h.Plane.toNat).Strips - h.Channel))=true:=by rw[zjV,ac,am,zbs (by omega) (by omega)];exact dqT (by omega)
  have r4:s23 h.Charge (l.get h.Plane.toNat).Least (1000000:Int)=true:=by rw[zjV,aq];exact dqT (by omega)
  unfold p9 s9 zCW zCV zCU zCT
  show cond (!(s23 h.Plane (0:Int) (w64 ((l.len:Int) - (1:Int))))) true _=true/\(cond (!(s23 h.Plane (0:Int) (w64 ((l.len:Int) - (1:Int))))) false _=true->_)
  rw[r1,r2,r3,r4,dqT (show 0<=h.Plane/\h.Plane < (l.len:Int) from ⟨a0,a1⟩)]
  show zng h (!(s23 h.Time (-1000000000:Int) (1000000000:Int))) _ _ _ _ _ _ _ _ _ _ _ _ _ _ _=true/\(znf h (!(s23 h.Time (-1000000000:Int) (1000000000:Int))) _ _ _ _ _ _ _ _ _ _ _ _ _ _ _=true->_)
  unfold zng znf zCS zCR zCQ zCP
  refine⟨?_,λ k=>?_⟩
  · rw [show zne h _ _ _ _ _ _ _ _ _ _ _ _ _ _ _ Fuel 0 = true from hl.1]
    cases s23 h.Time (-1000000000:Int) (1000000000:Int) <;> rfl
  · rw [cT, dqm, zjV, decide_eq_true_eq] at k
    have:=(hl.2.1 k.2).1 0 (by omega)
    rw[Bool.not_eq_true',ac,show w64 ((0:Int)+((0:Nat):Int))=0 from rfl] at this
    exact⟨k.1,(zIV _ _ hdl).2 this⟩
theorem zRz {l:Sl Plane}(hs:SetOk l){h:Hit}(ha:HitA l h) (hb:HitB l h) (h3:(l.get h.Plane.toNat).Kind ≠ 3):p40 ⟨l⟩ h=true/\s40 ⟨l⟩ h=(⟨l.get h.Plane.toNat,h.Plane⟩,true):=by
  have n1:=hs.n1;have n16:=hs.n16
  obtain⟨a0,a1,ac,am,ad,aq⟩:=ha
  have hp:=hs.pl h.Plane.toNat (by omega)
  have hdl:=hp.dl
  have hst:=hp.st
  have hle:=hp.l
  have hg:∀ i,i < (l.get h.Plane.toNat).Dead.len->(!(s65 ((l.get h.Plane.toNat).Dead.get i) h.Channel (w64 ((w64 (h.Channel+h.Many)) - (1:Int)))))=true:=λ i hi=>by
    have:=hb.dead i hi
    rw[ac,am,show w64 (w64 ((0:Int)+1) - 1)=0 from rfl,zjW,dqF (by omega)];rfl
  have hl := zqN (good := (fun i => !(s65 ((l.get h.Plane.toNat).Dead.get i) h.Channel (w64 ((w64 (h.Channel + h.Many)) - (1:Int)))))) (bad := ((⟨l.get h.Plane.toNat, h.Plane⟩ : placed), false))  (finP := true) (n := (l.get h.Plane.toNat).Dead.len) (lpS := fun k i => zk4 h (l.get h.Plane.toNat).Kind (l.get h.Plane.toNat).View (l.get h.Plane.toNat).Z (l.get h.Plane.toNat).First (l.get h.Plane.toNat).Pitch (l.get h.Plane.toNat).Strips (l.get h.Plane.toNat).Spill (l.get h.Plane.toNat).Offset.Low (l.get h.Plane.toNat).Offset.High (l.get h.Plane.toNat).Clock.Low (l.get h.Plane.toNat).Clock.High (l.get h.Plane.toNat).Jitter (l.get h.Plane.toNat).Least (l.get h.Plane.toNat).Drift (l.get h.Plane.toNat).Dead k i) (lpP := fun k i => zk5 h (l.get h.Plane.toNat).Kind (l.get h.Plane.toNat).View (l.get h.Plane.toNat).Z (l.get h.Plane.toNat).First (l.get h.Plane.toNat).Pitch (l.get h.Plane.toNat).Strips (l.get h.Plane.toNat).Spill (l.get h.Plane.toNat).Offset.Low (l.get h.Plane.toNat).Offset.High (l.get h.Plane.toNat).Clock.Low (l.get h.Plane.toNat).Clock.High (l.get h.Plane.toNat).Jitter (l.get h.Plane.toNat).Least (l.get h.Plane.toNat).Drift (l.get h.Plane.toNat).Dead k i)
    (λ k i hi=>by
      show zk2 h _ _ _ _ _ _ _ _ _ _ _ _ _ _ _ (zk4 h _ _ _ _ _ _ _ _ _ _ _ _ _ _ _ k) (i:Int)=cond (!(s65 ((l.get h.Plane.toNat).Dead.get i) h.Channel (w64 ((w64 (h.Channel+h.Many)) - (1:Int))))) (zk4 h _ _ _ _ _ _ _ _ _ _ _ _ _ _ _ k (w64 ((i:Int)+(1:Int)))) ((⟨l.get h.Plane.toNat,h.Plane⟩:placed),false)
      unfold zk2
      rw[dqT (show (i:Int) < ((l.get h.Plane.toNat).Dead.len:Int) by omega),dqA,dqN]
      unfold zwa
      cases s65 ((l.get h.Plane.toNat).Dead.get i) h.Channel (w64 ((w64 (h.Channel+h.Many)) - (1:Int))) <;> rfl)
    (λ k=>by
      show zk2 h _ _ _ _ _ _ _ _ _ _ _ _ _ _ _ (zk4 h _ _ _ _ _ _ _ _ _ _ _ _ _ _ _ k) (((l.get h.Plane.toNat).Dead.len:Nat):Int)=_
      unfold zk2
      rw[dqF (show ¬ (((l.get h.Plane.toNat).Dead.len:Nat):Int) < ((l.get h.Plane.toNat).Dead.len:Int) by omega),dqB])
    (λ k i hi=>by
      show zk3 h _ _ _ _ _ _ _ _ _ _ _ _ _ _ _ (zk5 h _ _ _ _ _ _ _ _ _ _ _ _ _ _ _ k) (i:Int)=cond (!(s65 ((l.get h.Plane.toNat).Dead.get i) h.Channel (w64 ((w64 (h.Channel+h.Many)) - (1:Int))))) (zk5 h _ _ _ _ _ _ _ _ _ _ _ _ _ _ _ k (w64 ((i:Int)+(1:Int)))) true
      unfold zk3
      rw[dqT (show (i:Int) < ((l.get h.Plane.toNat).Dead.len:Int) by omega),dqA,dqN]
      unfold zwb
      rw[dqT (show 0<=(i:Int)/\(i:Int) < ((l.get h.Plane.toNat).Dead.len:Int) by omega)]
      cases s65 ((l.get h.Plane.toNat).Dead.get i) h.Channel (w64 ((w64 (h.Channel+h.Many)) - (1:Int))) <;> rfl)
    (λ k=>by
      show zk3 h _ _ _ _ _ _ _ _ _ _ _ _ _ _ _ (zk5 h _ _ _ _ _ _ _ _ _ _ _ _ _ _ _ k) (((l.get h.Plane.toNat).Dead.len:Nat):Int)=_
      unfold zk3
      rw[dqF (show ¬ (((l.get h.Plane.toNat).Dead.len:Nat):Int) < ((l.get h.Plane.toNat).Dead.len:Int) by omega),dqB])
    (by omega)
  obtain⟨l1,l2⟩:=hl.1 hg
  have r1:s65 h.Plane (0:Int) (w64 ((l.len:Int) - (1:Int)))=true:=by rw[zjW,zbs (by omega) (by omega)];exact dqT (by omega)
  have r2:s65 h.Channel (0:Int) (w64 ((l.get h.Plane.toNat).Strips - (1:Int)))=true:=by rw[zjW,zbs (by omega) (by omega),ac];exact dqT (by omega)
  have r3:s65 h.Many (1:Int) (w64 ((l.get h.Plane.toNat).Strips - h.Channel))=true:=by rw[zjW,ac,am,zbs (by omega) (by omega)];exact dqT (by omega)
  have r4:s65 h.Charge (l.get h.Plane.toNat).Least (1000000:Int)=true:=by rw[zjW,aq];exact dqT (by omega)
  have r5:s65 h.Time (-1000000000:Int) (1000000000:Int)=true:=by rw[zjW];exact dqT hb.t
  have r6:zqA h (l.get h.Plane.toNat).Kind (l.get h.Plane.toNat).View (l.get h.Plane.toNat).Z (l.get h.Plane.toNat).First (l.get h.Plane.toNat).Pitch (l.get h.Plane.toNat).Strips (l.get h.Plane.toNat).Spill (l.get h.Plane.toNat).Offset.Low (l.get h.Plane.toNat).Offset.High (l.get h.Plane.toNat).Clock.Low (l.get h.Plane.toNat).Clock.High (l.get h.Plane.toNat).Jitter (l.get h.Plane.toNat).Least (l.get h.Plane.toNat).Drift (l.get h.Plane.toNat).Dead=(⟨l.get h.Plane.toNat,h.Plane⟩,true):=by
    unfold zqA zv9
    by_cases k2:(l.get h.Plane.toNat).Kind=2
    · rw[show ((l.get h.Plane.toNat).Kind == (2:Int))=true from beq_iff_eq.2 k2,show (h.Many == (1:Int))=true from beq_iff_eq.2 am,show s65 h.Drift (0:Int) (1000000:Int)=true by rw[ad];rfl];rfl
    · rw[show ((l.get h.Plane.toNat).Kind == (2:Int))=false from dqU.2 k2,show (h.Drift == (0:Int))=true from beq_iff_eq.2 ad,show ((l.get h.Plane.toNat).Kind != (3:Int))=true from bne_iff_ne.2 h3];rfl
  unfold p40 s40 zwj zwi zwh zwg
  show cond (!(s65 h.Plane (0:Int) (w64 ((l.len:Int) - (1:Int))))) true _=true/\cond (!(s65 h.Plane (0:Int) (w64 ((l.len:Int) - (1:Int))))) _ _=_
  rw[r1,r2,r3,r4,r5,dqT (show 0<=h.Plane/\h.Plane < (l.len:Int) from ⟨a0,a1⟩)]
  simp only[Bool.not_true,dqB,Bool.true_and]
  unfold zk7 zk6 zwf zwe zwd zwc
  rw[dqB,dqB]
  exact⟨l1,l2.trans r6⟩
theorem zRA {l:Sl Plane}(hs:SetOk l){h:Hit}(ha:HitA l h) (hb:HitB l h) (h3:(l.get h.Plane.toNat).Kind ≠ 3):p14 ⟨l⟩ h=true/\s14 ⟨l⟩ h=(⟨h.Time - (l.get h.Plane.toNat).Clock.High - (l.get h.Plane.toNat).Jitter,h.Time - (l.get h.Plane.toNat).Clock.Low+(l.get h.Plane.toNat).Jitter⟩,0):=by
 obtain⟨a1,a2⟩:=zEI hs
 obtain⟨b1,b2⟩:=zRz hs ha hb h3
 have hp:=hs.pl h.Plane.toNat (by have:=ha.p0;have:=ha.p1;omega)
 have hc:=hp.c;have hj:=hp.j;have ht:=hb.t
 have c1:s39 ⟨l⟩ h=true:=by unfold s39;rw[a2,b2];rfl
 have c2:p39 ⟨l⟩ h=true:=by unfold p39;rw[a1,a2,b1];rfl
 unfold p14 s14 zwm zwl
 rw[c1,c2]
 show (true && cond false true (decide (p40 ⟨l⟩ h=true) && true))=true/\cond false _ (s41 (s40 ⟨l⟩ h).1 h,(0:Int))=_
 rw[b1,b2]
 refine⟨rfl,?_⟩
 rw[dqB]
 unfold s41 zwk
 show (cond ((l.get h.Plane.toNat).Kind == (3:Int)) _ (⟨w64 (w64 (h.Time - (l.get h.Plane.toNat).Clock.High) - (l.get h.Plane.toNat).Jitter),w64 (w64 (h.Time - (l.get h.Plane.toNat).Clock.Low)+(l.get h.Plane.toNat).Jitter)⟩:Span),(0:Int))=_
 rw[show ((l.get h.Plane.toNat).Kind == (3:Int))=false from dqU.2 h3,dqB,zbs (x:=h.Time - (l.get h.Plane.toNat).Clock.High) (by omega) (by omega),zbs (x:=h.Time - (l.get h.Plane.toNat).Clock.Low) (by omega) (by omega),zbs (by omega) (by omega),zbs (by omega) (by omega)]
def nwP (l:Sl Plane) (o c:Sl Span) (i:Nat):Plane:=⟨(l.get i).Kind,(l.get i).View,(l.get i).Z,(l.get i).First,(l.get i).Pitch,(l.get i).Strips,(l.get i).Spill,⟨(o.get i).Low,(o.get i).High⟩,⟨(c.get i).Low,(c.get i).High⟩,(l.get i).Jitter,(l.get i).Least,(l.get i).Drift,(l.get i).Dead⟩
structure NarOk (l : Sl Plane) (o c : Sl Span) : Prop where
  ol:o.len=l.len
  cl:c.len=l.len
  o:∀ i,i < l.len->o.get i=(l.get i).Offset
  c:∀ i,i < l.len->(l.get i).Clock.Low<=(c.get i).Low/\(c.get i).Low<=(c.get i).High/\(c.get i).High<=(l.get i).Clock.High
theorem zUo {l:Sl Plane}(hs:SetOk l){o c:Sl Span}(hn:NarOk l o c){i:Nat}(hi:i < l.len):PlOk (nwP l o c i):=by
 have hp:=hs.pl i hi
 have ho:=hn.o i hi
 have hc:=hn.c i hi
 unfold nwP
 rw[ho]
 have hk:=hp.c
 exact⟨hp.k,hp.v,hp.z,hp.f,hp.pt,hp.st,hp.sp,hp.o,⟨by show -1000000000<=(c.get i).Low;omega,hc.2.1,by show (c.get i).High<=1000000000;omega⟩,hp.j,hp.l,hp.e1,hp.e2,hp.dr,hp.nd,hp.dl,hp.dd⟩
theorem zRB {l:Sl Plane}(hs:SetOk l){o c:Sl Span}(hn:NarOk l o c):p13 ⟨l⟩ o c=true/\∃ x,s13 ⟨l⟩ o c=(⟨x⟩,0)/\SetOk x/\x.len=l.len/\∀ i,i < l.len->x.get i=nwP l o c i:=by
  have n1:=hs.n1;have n16:=hs.n16
  obtain⟨a1,a2⟩:=zEI hs
  have hcnd:∀ i,i < l.len->decide ((o.get i).Low >= (l.get i).Offset.Low)=true/\decide ((o.get i).High<=(l.get i).Offset.High)=true/\decide ((c.get i).Low >= (l.get i).Clock.Low)=true/\decide ((c.get i).High<=(l.get i).Clock.High)=true:=λ i hi=>by
    have:=hn.c i hi
    rw[hn.o i hi]
    exact⟨dqT (Int.le_refl _),dqT (Int.le_refl _),dqT this.1,dqT this.2.2⟩
  have hl := znW (step := apL fun i => nwP l o c i) (E := fun v => zvX true v) (EP := fun v => zvY true v) (Inv := fun i v => v.len = i) (a := 0) (n := l.len) (lpS := fun k v i => zhr o c k true l (l.len : Int) i v) (lpP := fun k v i => zhs o c k true l (l.len : Int) i v)
    (λ k i v _ hi hv=>by
      show zk0 o c (zhr o c k) true l (l.len:Int) (i:Int) v=zhr o c k true l (l.len:Int) (w64 ((i:Int)+(1:Int))) (apL (λ i=>nwP l o c i) i v)
      generalize zhr o c k=S
      obtain⟨c1,c2,c3,c4⟩:=hcnd i hi
      unfold zk0 zi5
      rw[dqT (show (i:Int) < (l.len:Int) by omega),dqA,dqN,c1,c2,c3,c4]
      rfl)
    (λ k v=>by
      show zk0 o c (zhr o c k) true l (l.len:Int) (l.len:Int) v=_
      unfold zk0
      rw[dqF (show ¬ (l.len:Int) < (l.len:Int) by omega),dqB])
    (λ k i v _ hi hv=>by
      show zk1 o c (zhs o c k) true l (l.len:Int) (i:Int) v=zhs o c k true l (l.len:Int) (w64 ((i:Int)+(1:Int))) (apL (λ i=>nwP l o c i) i v)
      generalize zhs o c k=S
      have hv':v.len=i:=hv
      have ho:=hn.ol;have hc:=hn.cl
      have hp:=hs.pl i hi
      have hdl:=hp.dl
      have hdr:(l.get i).Drift.len<=50:=by
        by_cases k2:(l.get i).Kind=2
        · have := (hp.dr k2).2
          rw[zjV,decide_eq_true_eq] at this;omega
        · have:=hp.nd k2;omega
      obtain⟨c1,c2,c3,c4⟩:=hcnd i hi
      unfold zk1 zi6
      rw[dqT (show (i:Int) < (l.len:Int) by omega),dqA,dqN,c1,c2,c3,c4,dqT (show 0<=(i:Int)/\(i:Int) < (l.len:Int) by omega),dqT (show 0<=(i:Int)/\(i:Int) < (o.len:Int) by omega),dqT (show 0<=(i:Int)/\(i:Int) < (c.len:Int) by omega),
        dqT (show (l.get i).Drift.len * 24<=140737488355328/\(l.get i).Drift.len<=9223372036854775807 by omega),dqT (show (l.get i).Dead.len * 8<=140737488355328/\(l.get i).Dead.len<=9223372036854775807 by omega),
        dqT (show (v.len+1) * 152<=140737488355328/\v.len+1<=9223372036854775807 by omega)]
      rfl)
    (λ k v=>by
      show zk1 o c (zhs o c k) true l (l.len:Int) (l.len:Int) v=_
      unfold zk1
      rw[dqF (show ¬ (l.len:Int) < (l.len:Int) by omega),dqB])
    (λ i v _ _ h=>by show v.len+1=i+1;have h':v.len=i:=h;omega) (Nat.zero_le _) (by omega) (⟨0,λ _=>default⟩:Sl Plane) rfl
  obtain⟨m1,m2⟩:=zRy (λ i=>nwP l o c i) (l.len - 0) 0 (⟨0,λ _=>default⟩:Sl Plane) rfl (λ j hj=>absurd hj (dqW _))
  obtain⟨l1,l2⟩:=hl
  generalize hx:zhM (apL λ i=>nwP l o c i) (l.len - 0) 0 (⟨0,λ _=>default⟩:Sl Plane)=x at *
  have xl:x.len=l.len:=by omega
  have xg:∀ i,i < l.len->x.get i=nwP l o c i:=λ i hi=>m2 i (by omega)
  have hX:SetOk x:=⟨by omega,by omega,λ i hi=>by rw[xg i (by omega)];exact zUo hs hn (by omega),λ i hi=>by
    have:=hs.z i (by omega)
    unfold zG at this ⊢
    by_cases h0:(i:Int) > 0
    · rw[xg i (by omega),xg (w64 ((i:Int) - (1:Int))).toNat (by rw[zbs (by omega) (by omega)];omega)];exact this
    · rw[dqF h0];rfl⟩
  obtain⟨x1,x2⟩:=zEI hX
  have e1:((o.len:Int) != (l.len:Int))=false:=by rw[hn.ol];exact bne_self_eq_false _
  have e2:((c.len:Int) != (l.len:Int))=false:=by rw[hn.cl];exact bne_self_eq_false _
  unfold p13 s13 znt zns zv4 zv3 zv0 zvZ
  rw[a1,a2]
  show (true && cond false _ (cond ((o.len:Int) != (l.len:Int)) _ (cond ((c.len:Int) != (l.len:Int)) true (zhs o c Fuel true l (l.len:Int) 0 ⟨0,λ _=>default⟩))))=true/\∃ x,cond false _ (cond ((o.len:Int) != (l.len:Int)) _ (cond ((c.len:Int) != (l.len:Int)) _ (zhr o c Fuel true l (l.len:Int) 0 ⟨0,λ _=>default⟩)))=_/\_
  rw[e1,e2]
  refine⟨?_,x,?_,hX,xl,xg⟩
  · refine Eq.trans l1 ?_
    show (decide (p36 ⟨x⟩=true) && true)=true
    rw[x1];rfl
  · refine Eq.trans l2 ?_
    show cond (!(s36 ⟨x⟩)) _ _=_
    rw[x2];rfl
end Go.Proofs
namespace Go.Proofs
open Go Go.Pm
set_option maxRecDepth 100000
def zlN (p:Pulse):Bool:=!(p.A == p.B) && (s31 p.TimeA (-100000000:Int) (100000000:Int) && (s31 p.TimeB (-100000000:Int) (100000000:Int) && (s31 p.Flight.Low (0:Int) p.Flight.High && (!(decide (p.Flight.High > (100000000:Int))) && s31 p.Jitter (0:Int) (100000000:Int)))))
def tieP (p:Pulse):Tie:=⟨p.A,p.B,(w64 ((w64 ((w64 (p.TimeB - p.TimeA)) - p.Flight.High)) - p.Jitter)),(w64 ((w64 ((w64 (p.TimeB - p.TimeA)) - p.Flight.Low))+p.Jitter))⟩
def zNv (l:Sl Pulse) (i:Nat) (v:Sl Tie):Sl Tie:=⟨v.len+1,zfU v.len v.get (λ _=>tieP (l.get i))⟩
def zh6 (l:Sl Pulse):Sl Tie:=zhM (zNv l) l.len 0 (⟨0,λ _=>default⟩:Sl Tie)
theorem zG8 (l:Sl Pulse) (i:Nat) (v:Sl Tie) (h:v.len<=i):(zNv l i v).len<=i+1:=Nat.succ_le_succ h
abbrev zUp:Net×Int:=((⟨(0:Int),(⟨0,λ _=>default⟩:(Sl Tie))⟩:Net),(2:Int))
theorem zRC (nodes : Int) (l : Sl Pulse) (hn : l.len ≤ 210) :
    ((∀ i,i < l.len->zlN (l.get i)=true)->zpI nodes l=(decide (p32 (⟨nodes,zh6 l⟩:Net)=true) && true)/\zpH nodes l=zpG nodes (!(s32 (⟨nodes,zh6 l⟩:Net))) (zh6 l)) /\
    ((¬ ∀ i,i < l.len->zlN (l.get i)=true)->zpI nodes l=true/\zpH nodes l=zUp):=by
  have := zqO (good := fun i => zlN (l.get i)) (step := zNv l) (bad := zUp) (E := fun v => zpG nodes (!(s32 (⟨nodes, v⟩ : Net))) v) (EP := fun v => decide (p32 (⟨nodes, v⟩ : Net) = true) && true) (Inv := fun i v => v.len ≤ i) (n := l.len)
    (lpS:=λ k v i=>zix nodes l k i v) (lpP:=λ k v i=>ziy nodes l k i v)
    (λ k i v hi hv=>by
      show zkh nodes l (zix nodes l k) (i:Int) v=cond (zlN (l.get i)) (zix nodes l k (w64 ((i:Int)+(1:Int))) (zNv l i v)) zUp
      generalize zix nodes l k=S
      unfold zkh zg9 zux zlN zNv tieP
      rw[dqT (show (i:Int) < (l.len:Int) by omega),dqA,dqN]
      cases (l.get i).A == (l.get i).B <;> cases s31 (l.get i).TimeA (-100000000) 100000000 <;> cases s31 (l.get i).TimeB (-100000000) 100000000 <;> cases s31 (l.get i).Flight.Low 0 (l.get i).Flight.High <;> cases decide ((l.get i).Flight.High > (100000000:Int)) <;> cases s31 (l.get i).Jitter 0 100000000 <;> rfl)
    (λ k v=>by
      show zkh nodes l (zix nodes l k) (l.len:Int) v=_
      unfold zkh
      rw[dqF (show ¬ (l.len:Int) < (l.len:Int) by omega),dqB])
    (λ k i v hi hv=>by
      show zki nodes l (ziy nodes l k) (i:Int) v=cond (zlN (l.get i)) (ziy nodes l k (w64 ((i:Int)+(1:Int))) (zNv l i v)) true
      generalize ziy nodes l k=S
      unfold zki zha zuy zlN zNv tieP
      rw[dqT (show (i:Int) < (l.len:Int) by omega),dqA,dqN,dqT (show 0<=(i:Int)/\(i:Int) < (l.len:Int) by omega),dqT (show (v.len+1) * 32<=140737488355328/\v.len+1<=9223372036854775807 by omega)]
      cases (l.get i).A == (l.get i).B <;> cases s31 (l.get i).TimeA (-100000000) 100000000 <;> cases s31 (l.get i).TimeB (-100000000) 100000000 <;> cases s31 (l.get i).Flight.Low 0 (l.get i).Flight.High <;> cases decide ((l.get i).Flight.High > (100000000:Int)) <;> cases s31 (l.get i).Jitter 0 100000000 <;> rfl)
    (λ k v=>by
      show zki nodes l (ziy nodes l k) (l.len:Int) v=_
      unfold zki
      rw[dqF (show ¬ (l.len:Int) < (l.len:Int) by omega),dqB])
    (λ i v _ h=>zG8 l i v h) (by omega) (⟨0,λ _=>default⟩:Sl Tie) (dqt _)
  exact this
theorem zEJ (p:Pulse):zlN p=true↔p.A ≠ p.B/\(-100000000<=p.TimeA/\p.TimeA<=100000000)/\(-100000000<=p.TimeB/\p.TimeB<=100000000)/\(0<=p.Flight.Low/\p.Flight.Low<=p.Flight.High)/\p.Flight.High<=100000000/\(0<=p.Jitter/\p.Jitter<=100000000):=by
 unfold zlN
 simp only[zjU,dqm,decide_eq_true_eq,Bool.not_eq_true',dqU,decide_eq_false_iff_not,Int.not_lt,ne_eq,gt_iff_lt]
theorem zh1 {σ : Type} {step : Nat → σ → σ} {Inv : Nat → σ → Prop} {n : Nat} (hI : ∀ i s, i < n → Inv i s → Inv (i + 1) (step i s)) :
    ∀ (m i:Nat) (s:σ),i+m=n->Inv i s->Inv n (zhM step m i s):=by
  intro m
  induction m with
  | zero => intro i s h hs; have : i = n := by omega
            subst this;exact hs
  | succ m ih=>intro i s h hs;exact ih (i+1) (step i s) (by omega) (hI i s (by omega) hs)
theorem zG9 (l:Sl Pulse):(zh6 l).len=l.len/\∀ j,j < l.len->(zh6 l).get j=tieP (l.get j) :=
  zh1 (Inv := fun i (v : Sl Tie) => v.len = i ∧ ∀ j, j < i → v.get j = tieP (l.get j)) (n := l.len)
    (λ i v hi h=>⟨by show v.len+1=i+1;rw[h.1],λ j hj=>by
      show zfU v.len v.get (λ _=>tieP (l.get i)) j=_
      unfold zfU
      by_cases hji:j < v.len
      · rw[show Nat.ble v.len j=false from Bool.eq_false_iff.2 λ k=>by have:=Nat.le_of_ble_eq_true k;omega];exact h.2 j (by have:=h.1;omega)
      · rw[show Nat.ble v.len j=true from Nat.ble_eq_true_of_le (by omega)];show tieP (l.get i)=_;have:=h.1;rw[show j=i by omega]⟩) l.len 0 _ (by omega) ⟨rfl,λ j hj=>absurd hj (dqW _)⟩
end Go.Proofs
