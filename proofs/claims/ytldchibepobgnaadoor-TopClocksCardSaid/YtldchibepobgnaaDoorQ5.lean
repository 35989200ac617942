/- Part 5 of what the proof rests on: a machine that runs functions of the program on pure values, proved sound; the functions that the law reaches, and what they compute. -/
import Derived.Test.YtldchibepobgnaaDoorQ4
set_option linter.all false
namespace Go.Proofs
open Go Go.Pm
set_option maxRecDepth 100000
set_option linter.unusedVariables false
attribute [local irreducible] Go.Pm.vcFun Go.Pm.vc Go.Pm.vcIter
abbrev T9:Tabs:=((Tabs.nil.addF 23 zuT).addF 30 zLf)
theorem zWN:TabsOk Tryd.prog T9:=((TabsOk.nil.addF zPO).addF zWM)
abbrev G9:Ctrs:=csm T9 (λ _ _=>[]) (λ _=>false)
def zTG:Ann:=⟨90,[(0,zK [2,3] [2,3]),(1,zK [2,3,14] [2,3]),(2,zK [4] []),(3,zK [3,5] [3,5]),(4,zK [3,5,52] [3,5]),(5,zK [4] []),(6,zK [3,5,6] [3,5]),(7,zK [3,5,6,56] [3,5]),(8,zK [3,5,6] [3,5]),(9,zK [3,5,6,64] [3,5]),(10,zK [4] []),(11,zK [3,66] [3]),(12,zK [3,66,67] [3]),(13,zK [4] []),(14,zK [3,77] [3]),(15,zK [4] []),(16,zK [4] [])],
 [(7,zK [3,5,6] [3,5])],
 [(2,zK [2,3,14] [2,3]),(3,zK [2,3] [2,3]),(5,zK [3,5,52] [3,5]),(6,zK [3,5] [3,5]),(10,zK [3,5,6,64] [3,5]),(11,zK [3,5] [3,5])],
 [],[]⟩
abbrev R9:=Bool
abbrev e9 (r:R9):List PA:=[.one (.bool r)]
@[irreducible] def z9:=ptF Tryd.prog G9 zTG Tryd.f9
def zPZ (h:Hit) (zaP:Int) (zaR:Int) (zaS:Int) (zaT:Int) (zaU:Int) (zaV:Int) (zaW:Int) (za3:Int) (za4:Int) (za5:Int) (zat:Int) (zau:Int) (zav:Int) (zan:(Sl Drift)) (zal:(Sl Int)) (iv4:Int):St:=⟨[(3,zp 3 0),(5,zp 5 0),(6,zI iv4)],[(3,.box 41 (zm (zbH h))),(5,.box 35 (zm (enc_35 (⟨zaP,zaR,zaS,zaT,zaU,zaV,zaW,(⟨za3,za4⟩:Span),(⟨za5,zat⟩:Span),zau,zav,zan,zal⟩:Plane))))],[]⟩
abbrev zTH (K:List PA->Prop) (h:Hit) (zaP:Int) (zaR:Int) (zaS:Int) (zaT:Int) (zaU:Int) (zaV:Int) (zaW:Int) (za3:Int) (za4:Int) (za5:Int) (zat:Int) (zau:Int) (zav:Int) (zan:(Sl Drift)) (zal:(Sl Int)) (X:St->Prop) (P:Int->Bool) (S:Int->Bool):Prop:=∀ ⦃iv4:Int⦄,P iv4=true->K (e9 (S iv4))->X (zPZ h zaP zaR zaS zaT zaU zaV zaW za3 za4 za5 zat zau zav zan zal iv4)
section
variable {K:List PA->Prop}{s:Setup}{h:Hit}{ziV:Bool}{sv0:(Sl Plane)}{zcb:Nat->List PV}{sv1:(Sl Plane)}{zd3:Nat->List PV}{zvb:Bool}{zaP:Int}{zaR:Int}{zaS:Int}{zaT:Int}{zaU:Int}{zaV:Int}{zaW:Int}{za3:Int}{za4:Int}{za5:Int}{zat:Int}{zau:Int}{zav:Int}{zan:(Sl Drift)}{zal:(Sl Int)}{zjG:Nat->List PV}{zjH:Nat->List PV}{iv4:Int}{X4:St->Prop}{P4:Int->Bool}{S4:Int->Bool}{iv5:Int}{zvc:Bool}
def zH9 (h:Hit) (zaP:Int) (zaR:Int) (zaS:Int) (zaT:Int) (zaU:Int) (zaV:Int) (zaW:Int) (za3:Int) (za4:Int) (za5:Int) (zat:Int) (zau:Int) (zav:Int) (zan:(Sl Drift)) (zal:(Sl Int)):Bool :=
  (cond (zaP == (2:Int))
 (cond (h.Many == (1:Int))
 (s23 h.Drift (0:Int) (1000000:Int))
 false)
 (cond (zaP == (3:Int))
 (cond (h.Drift == (0:Int))
 (h.Time == (0:Int))
 false)
 (h.Drift == (0:Int))))
theorem zP0 (hk:K (e9 (zH9 h zaP zaR zaS zaT zaU zaV zaW za3 za4 za5 zat zau zav zan zal))):z9 K [1,1,1,1,1] [] ⟨[(3,zp 3 0),(5,zp 5 0)],[(3,.box 41 (zm (zbH h))),(5,.box 35 (zm (enc_35 (⟨zaP,zaR,zaS,zaT,zaU,zaV,zaW,(⟨za3,za4⟩:Span),(⟨za5,zat⟩:Span),zau,zav,zan,zal⟩:Plane))))],[]⟩:=zaK (by kernel_rfl) (zt hk (λ hk=>(zt hk (λ hk=>hk) (λ hk=>hk))) (λ hk=>(zt hk (λ hk=>(zt hk (λ hk=>hk) (λ hk=>hk))) (λ hk=>hk))))
def zCN (S4:Int->Bool) (h:Hit) (zaP:Int) (zaR:Int) (zaS:Int) (zaT:Int) (zaU:Int) (zaV:Int) (zaW:Int) (za3:Int) (za4:Int) (za5:Int) (zat:Int) (zau:Int) (zav:Int) (zan:(Sl Drift)) (zal:(Sl Int)) (iv5:Int) (zvc:Bool):Bool :=
  (cond zvc
 false
 (S4 (w64 (iv5+(1:Int)))))
def zCO (P4:Int->Bool) (h:Hit) (zaP:Int) (zaR:Int) (zaS:Int) (zaT:Int) (zaU:Int) (zaV:Int) (zaW:Int) (za3:Int) (za4:Int) (za5:Int) (zat:Int) (zau:Int) (zav:Int) (zan:(Sl Drift)) (zal:(Sl Int)) (iv5:Int) (zvc:Bool):Bool :=
  (cond zvc
 true
 (P4 (w64 (iv5+(1:Int)))))
theorem zP1 (hX4:zTH K h zaP zaR zaS zaT zaU zaV zaW za3 za4 za5 zat zau zav zan zal X4 P4 S4) (hs:zCO P4 h zaP zaR zaS zaT zaU zaV zaW za3 za4 za5 zat zau zav zan zal iv5 zvc=true) (hk:K (e9 (zCN S4 h zaP zaR zaS zaT zaU zaV zaW za3 za4 za5 zat zau zav zan zal iv5 zvc))):z9 K [1,1,1,1,0,1,0,0,1,0,0,1] [X4] ⟨[(3,zp 3 0),(5,zp 5 0),(6,zI iv5),(64,zB zvc)],[(3,.box 41 (zm (zbH h))),(5,.box 35 (zm (enc_35 (⟨zaP,zaR,zaS,zaT,zaU,zaV,zaW,(⟨za3,za4⟩:Span),(⟨za5,zat⟩:Span),zau,zav,zan,zal⟩:Plane))))],[]⟩:=zaK (by kernel_rfl) (zc hs hk (λ hs hk=>hk) (λ hs hk=>(hX4 hs hk)))
def zoI (h:Hit) (zaP:Int) (zaR:Int) (zaS:Int) (zaT:Int) (zaU:Int) (zaV:Int) (zaW:Int) (za3:Int) (za4:Int) (za5:Int) (zat:Int) (zau:Int) (zav:Int) (zan:(Sl Drift)) (zal:(Sl Int)) (S4:Int->Bool) (iv4:Int):Bool :=
  (cond (decide (iv4 < h.Many))
 (zCN S4 h zaP zaR zaS zaT zaU zaV zaW za3 za4 za5 zat zau zav zan zal iv4 (s30 (⟨zaP,zaR,zaS,zaT,zaU,zaV,zaW,(⟨za3,za4⟩:Span),(⟨za5,zat⟩:Span),zau,zav,zan,zal⟩:Plane) (w64 (h.Channel+iv4))))
 (zH9 h zaP zaR zaS zaT zaU zaV zaW za3 za4 za5 zat zau zav zan zal))
def zoJ (h:Hit) (zaP:Int) (zaR:Int) (zaS:Int) (zaT:Int) (zaU:Int) (zaV:Int) (zaW:Int) (za3:Int) (za4:Int) (za5:Int) (zat:Int) (zau:Int) (zav:Int) (zan:(Sl Drift)) (zal:(Sl Int)) (P4:Int->Bool) (iv4:Int):Bool :=
  (cond (decide (iv4 < h.Many))
 (decide ((p30 (⟨zaP,zaR,zaS,zaT,zaU,zaV,zaW,(⟨za3,za4⟩:Span),(⟨za5,zat⟩:Span),zau,zav,zan,zal⟩:Plane) (w64 (h.Channel+iv4))=true)) &&
 (zCO P4 h zaP zaR zaS zaT zaU zaV zaW za3 za4 za5 zat zau zav zan zal iv4 (s30 (⟨zaP,zaR,zaS,zaT,zaU,zaV,zaW,(⟨za3,za4⟩:Span),(⟨za5,zat⟩:Span),zau,zav,zan,zal⟩:Plane) (w64 (h.Channel+iv4)))))
 true)
def zoK (h:Hit) (zaP:Int) (zaR:Int) (zaS:Int) (zaT:Int) (zaU:Int) (zaV:Int) (zaW:Int) (za3:Int) (za4:Int) (za5:Int) (zat:Int) (zau:Int) (zav:Int) (zan:(Sl Drift)) (zal:(Sl Int)):Nat->Int->Bool:=lpO (λ _=>default) (zoI h zaP zaR zaS zaT zaU zaV zaW za3 za4 za5 zat zau zav zan zal)
def zne (h:Hit) (zaP:Int) (zaR:Int) (zaS:Int) (zaT:Int) (zaU:Int) (zaV:Int) (zaW:Int) (za3:Int) (za4:Int) (za5:Int) (zat:Int) (zau:Int) (zav:Int) (zan:(Sl Drift)) (zal:(Sl Int)):Nat->Int->Bool:=lpO (λ _=>false) (zoJ h zaP zaR zaS zaT zaU zaV zaW za3 za4 za5 zat zau zav zan zal)
def zCP (h:Hit) (zaP:Int) (zaR:Int) (zaS:Int) (zaT:Int) (zaU:Int) (zaV:Int) (zaW:Int) (za3:Int) (za4:Int) (za5:Int) (zat:Int) (zau:Int) (zav:Int) (zan:(Sl Drift)) (zal:(Sl Int)) (iv4:Int):Bool:=zoK h zaP zaR zaS zaT zaU zaV zaW za3 za4 za5 zat zau zav zan zal Fuel iv4
def zCQ (h:Hit) (zaP:Int) (zaR:Int) (zaS:Int) (zaT:Int) (zaU:Int) (zaV:Int) (zaW:Int) (za3:Int) (za4:Int) (za5:Int) (zat:Int) (zau:Int) (zav:Int) (zan:(Sl Drift)) (zal:(Sl Int)) (iv4:Int):Bool:=zne h zaP zaR zaS zaT zaU zaV zaW za3 za4 za5 zat zau zav zan zal Fuel iv4
theorem zP2 (hs:zCQ h zaP zaR zaS zaT zaU zaV zaW za3 za4 za5 zat zau zav zan zal iv4=true) (hk:K (e9 (zCP h zaP zaR zaS zaT zaU zaV zaW za3 za4 za5 zat zau zav zan zal iv4))):z9 K [1,1,1,1,0,1,0] [] (zPZ h zaP zaR zaS zaT zaU zaV zaW za3 za4 za5 zat zau zav zan zal iv4) :=
  zl (λ X=>z9 K [1,1,1,1,0,1,0,0] [X]) (by kernel_rfl) λ X4 hX =>
  (show ∀ k, zTH K h zaP zaR zaS zaT zaU zaV zaW za3 za4 za5 zat zau zav zan zal X4 (zne h zaP zaR zaS zaT zaU zaV zaW za3 za4 za5 zat zau zav zan zal k) (zoK h zaP zaR zaS zaT zaU zaV zaW za3 za4 za5 zat zau zav zan zal k) from zgc _ _ (zoJ h zaP zaR zaS zaT zaU zaV zaW za3 za4 za5 zat zau zav zan zal) (zoI h zaP zaR zaS zaT zaU zaV zaW za3 za4 za5 zat zau zav zan zal) (zTH K h zaP zaR zaS zaT zaU zaV zaW za3 za4 za5 zat zau zav zan zal X4)
 (by intro _ hs;exact absurd hs dqk)
 (by intro P4 S4 hX4 iv4 hs hk;exact hX _ (zaK (by kernel_rfl) (zc hs hk (λ hs hk=>(zaX hs λ hc hs=>And.intro (And.intro (zE zbi 3 zan.get) (And.intro (zE enc_3 1 zal.get) hc)) (zP1 hX4 hs hk))) (λ hs hk=>(zP0 hk)))))) _ hs hk
def zCR (h:Hit) (zaP:Int) (zaR:Int) (zaS:Int) (zaT:Int) (zaU:Int) (zaV:Int) (zaW:Int) (za3:Int) (za4:Int) (za5:Int) (zat:Int) (zau:Int) (zav:Int) (zan:(Sl Drift)) (zal:(Sl Int)):Bool :=
  (zCP h zaP zaR zaS zaT zaU zaV zaW za3 za4 za5 zat zau zav zan zal (0:Int))
def zCS (h:Hit) (zaP:Int) (zaR:Int) (zaS:Int) (zaT:Int) (zaU:Int) (zaV:Int) (zaW:Int) (za3:Int) (za4:Int) (za5:Int) (zat:Int) (zau:Int) (zav:Int) (zan:(Sl Drift)) (zal:(Sl Int)):Bool :=
  (zCQ h zaP zaR zaS zaT zaU zaV zaW za3 za4 za5 zat zau zav zan zal (0:Int))
theorem zP3 (hs:zCS h zaP zaR zaS zaT zaU zaV zaW za3 za4 za5 zat zau zav zan zal=true) (hk:K (e9 (zCR h zaP zaR zaS zaT zaU zaV zaW za3 za4 za5 zat zau zav zan zal))):z9 K [1,1,1,1] [] ⟨[(3,zp 3 0),(5,zp 5 0)],[(3,.box 41 (zm (zbH h))),(5,.box 35 (zm (enc_35 (⟨zaP,zaR,zaS,zaT,zaU,zaV,zaW,(⟨za3,za4⟩:Span),(⟨za5,zat⟩:Span),zau,zav,zan,zal⟩:Plane))))],[]⟩:=zaK (by kernel_rfl) (zP2 hs hk)
def znf (h:Hit) (zvb:Bool) (zaP:Int) (zaR:Int) (zaS:Int) (zaT:Int) (zaU:Int) (zaV:Int) (zaW:Int) (za3:Int) (za4:Int) (za5:Int) (zat:Int) (zau:Int) (zav:Int) (zan:(Sl Drift)) (zal:(Sl Int)):Bool :=
  (cond zvb
 false
 (zCR h zaP zaR zaS zaT zaU zaV zaW za3 za4 za5 zat zau zav zan zal))
def zng (h:Hit) (zvb:Bool) (zaP:Int) (zaR:Int) (zaS:Int) (zaT:Int) (zaU:Int) (zaV:Int) (zaW:Int) (za3:Int) (za4:Int) (za5:Int) (zat:Int) (zau:Int) (zav:Int) (zan:(Sl Drift)) (zal:(Sl Int)):Bool :=
  (cond zvb
 true
 (zCS h zaP zaR zaS zaT zaU zaV zaW za3 za4 za5 zat zau zav zan zal))
theorem zxY (hs:zng h zvb zaP zaR zaS zaT zaU zaV zaW za3 za4 za5 zat zau zav zan zal=true) (hk:K (e9 (znf h zvb zaP zaR zaS zaT zaU zaV zaW za3 za4 za5 zat zau zav zan zal))) (zpW:zjG=zg zbi zan) (zpX:zjH=zg enc_3 zal):z9 K [1,1,1,0,1] [] ⟨[(3,zp 3 0),(5,zp 5 0),(52,zB zvb)],[(3,.box 41 (zm (zbH h))),(5,.box 35 (zm (enc_35 (⟨zaP,zaR,zaS,zaT,zaU,zaV,zaW,(⟨za3,za4⟩:Span),(⟨za5,zat⟩:Span),zau,zav,(⟨zan.len,zcx zjG⟩:(Sl Drift)),(⟨zal.len,zcS zjH⟩:(Sl Int))⟩:Plane))))],[]⟩:=by subst zpW;subst zpX;exact zaK (by kernel_rfl) (zc hs hk (λ hs hk=>hk) (λ hs hk=>(zP3 hs hk)))
def zCT (h:Hit) (sv1:(Sl Plane)):Bool :=
  (cond (!(s23 h.Channel (0:Int) (w64 ((sv1.get h.Plane.toNat).Strips - (1:Int)))))
 (znf h true ((sv1.get h.Plane.toNat).Kind) ((sv1.get h.Plane.toNat).View) ((sv1.get h.Plane.toNat).Z) ((sv1.get h.Plane.toNat).First) ((sv1.get h.Plane.toNat).Pitch) ((sv1.get h.Plane.toNat).Strips) ((sv1.get h.Plane.toNat).Spill) ((sv1.get h.Plane.toNat).Offset.Low) ((sv1.get h.Plane.toNat).Offset.High) ((sv1.get h.Plane.toNat).Clock.Low) ((sv1.get h.Plane.toNat).Clock.High) ((sv1.get h.Plane.toNat).Jitter) ((sv1.get h.Plane.toNat).Least) ((sv1.get h.Plane.toNat).Drift) ((sv1.get h.Plane.toNat).Dead))
 (cond (!(s23 h.Many (1:Int) (w64 ((sv1.get h.Plane.toNat).Strips - h.Channel))))
 (znf h true ((sv1.get h.Plane.toNat).Kind) ((sv1.get h.Plane.toNat).View) ((sv1.get h.Plane.toNat).Z) ((sv1.get h.Plane.toNat).First) ((sv1.get h.Plane.toNat).Pitch) ((sv1.get h.Plane.toNat).Strips) ((sv1.get h.Plane.toNat).Spill) ((sv1.get h.Plane.toNat).Offset.Low) ((sv1.get h.Plane.toNat).Offset.High) ((sv1.get h.Plane.toNat).Clock.Low) ((sv1.get h.Plane.toNat).Clock.High) ((sv1.get h.Plane.toNat).Jitter) ((sv1.get h.Plane.toNat).Least) ((sv1.get h.Plane.toNat).Drift) ((sv1.get h.Plane.toNat).Dead))
 (cond (!(s23 h.Charge ((sv1.get h.Plane.toNat).Least) (1000000:Int)))
 (znf h true ((sv1.get h.Plane.toNat).Kind) ((sv1.get h.Plane.toNat).View) ((sv1.get h.Plane.toNat).Z) ((sv1.get h.Plane.toNat).First) ((sv1.get h.Plane.toNat).Pitch) ((sv1.get h.Plane.toNat).Strips) ((sv1.get h.Plane.toNat).Spill) ((sv1.get h.Plane.toNat).Offset.Low) ((sv1.get h.Plane.toNat).Offset.High) ((sv1.get h.Plane.toNat).Clock.Low) ((sv1.get h.Plane.toNat).Clock.High) ((sv1.get h.Plane.toNat).Jitter) ((sv1.get h.Plane.toNat).Least) ((sv1.get h.Plane.toNat).Drift) ((sv1.get h.Plane.toNat).Dead))
 (znf h (!(s23 h.Time (-1000000000:Int) (1000000000:Int))) ((sv1.get h.Plane.toNat).Kind) ((sv1.get h.Plane.toNat).View) ((sv1.get h.Plane.toNat).Z) ((sv1.get h.Plane.toNat).First) ((sv1.get h.Plane.toNat).Pitch) ((sv1.get h.Plane.toNat).Strips) ((sv1.get h.Plane.toNat).Spill) ((sv1.get h.Plane.toNat).Offset.Low) ((sv1.get h.Plane.toNat).Offset.High) ((sv1.get h.Plane.toNat).Clock.Low) ((sv1.get h.Plane.toNat).Clock.High) ((sv1.get h.Plane.toNat).Jitter) ((sv1.get h.Plane.toNat).Least) ((sv1.get h.Plane.toNat).Drift) ((sv1.get h.Plane.toNat).Dead)))))
def zCU (h:Hit) (sv1:(Sl Plane)):Bool :=
  (decide ((0<=h.Plane/\h.Plane < (sv1.len:Int))) &&
 (cond (!(s23 h.Channel (0:Int) (w64 ((sv1.get h.Plane.toNat).Strips - (1:Int)))))
 (zng h true ((sv1.get h.Plane.toNat).Kind) ((sv1.get h.Plane.toNat).View) ((sv1.get h.Plane.toNat).Z) ((sv1.get h.Plane.toNat).First) ((sv1.get h.Plane.toNat).Pitch) ((sv1.get h.Plane.toNat).Strips) ((sv1.get h.Plane.toNat).Spill) ((sv1.get h.Plane.toNat).Offset.Low) ((sv1.get h.Plane.toNat).Offset.High) ((sv1.get h.Plane.toNat).Clock.Low) ((sv1.get h.Plane.toNat).Clock.High) ((sv1.get h.Plane.toNat).Jitter) ((sv1.get h.Plane.toNat).Least) ((sv1.get h.Plane.toNat).Drift) ((sv1.get h.Plane.toNat).Dead))
 (cond (!(s23 h.Many (1:Int) (w64 ((sv1.get h.Plane.toNat).Strips - h.Channel))))
 (zng h true ((sv1.get h.Plane.toNat).Kind) ((sv1.get h.Plane.toNat).View) ((sv1.get h.Plane.toNat).Z) ((sv1.get h.Plane.toNat).First) ((sv1.get h.Plane.toNat).Pitch) ((sv1.get h.Plane.toNat).Strips) ((sv1.get h.Plane.toNat).Spill) ((sv1.get h.Plane.toNat).Offset.Low) ((sv1.get h.Plane.toNat).Offset.High) ((sv1.get h.Plane.toNat).Clock.Low) ((sv1.get h.Plane.toNat).Clock.High) ((sv1.get h.Plane.toNat).Jitter) ((sv1.get h.Plane.toNat).Least) ((sv1.get h.Plane.toNat).Drift) ((sv1.get h.Plane.toNat).Dead))
 (cond (!(s23 h.Charge ((sv1.get h.Plane.toNat).Least) (1000000:Int)))
 (zng h true ((sv1.get h.Plane.toNat).Kind) ((sv1.get h.Plane.toNat).View) ((sv1.get h.Plane.toNat).Z) ((sv1.get h.Plane.toNat).First) ((sv1.get h.Plane.toNat).Pitch) ((sv1.get h.Plane.toNat).Strips) ((sv1.get h.Plane.toNat).Spill) ((sv1.get h.Plane.toNat).Offset.Low) ((sv1.get h.Plane.toNat).Offset.High) ((sv1.get h.Plane.toNat).Clock.Low) ((sv1.get h.Plane.toNat).Clock.High) ((sv1.get h.Plane.toNat).Jitter) ((sv1.get h.Plane.toNat).Least) ((sv1.get h.Plane.toNat).Drift) ((sv1.get h.Plane.toNat).Dead))
 (zng h (!(s23 h.Time (-1000000000:Int) (1000000000:Int))) ((sv1.get h.Plane.toNat).Kind) ((sv1.get h.Plane.toNat).View) ((sv1.get h.Plane.toNat).Z) ((sv1.get h.Plane.toNat).First) ((sv1.get h.Plane.toNat).Pitch) ((sv1.get h.Plane.toNat).Strips) ((sv1.get h.Plane.toNat).Spill) ((sv1.get h.Plane.toNat).Offset.Low) ((sv1.get h.Plane.toNat).Offset.High) ((sv1.get h.Plane.toNat).Clock.Low) ((sv1.get h.Plane.toNat).Clock.High) ((sv1.get h.Plane.toNat).Jitter) ((sv1.get h.Plane.toNat).Least) ((sv1.get h.Plane.toNat).Drift) ((sv1.get h.Plane.toNat).Dead))))))
theorem zP4 (hs:zCU h sv1=true) (hk:K (e9 (zCT h sv1))) (zgA:zd3=zg enc_35 sv1):z9 K [1,1] [] ⟨[(2,zp 2 0),(3,zp 3 0)],[(2,.box 24 [.p (.sl sv1.len 15 zd3)]),(3,.box 41 (zm (zbH h)))],[]⟩:=by subst zgA;exact zaK (by kernel_rfl) (zaX hs λ hc hs=>And.intro hc (zc hs hk (λ hs hk=>(zxY hs hk rfl rfl)) (λ hs hk=>(zc hs hk (λ hs hk=>(zxY hs hk rfl rfl)) (λ hs hk=>(zc hs hk (λ hs hk=>(zxY hs hk rfl rfl)) (λ hs hk=>(zxY hs hk rfl rfl))))))))
def zCV (h:Hit) (ziV:Bool) (sv0:(Sl Plane)):Bool :=
  (cond ziV
 false
 (zCT h sv0))
def zCW (h:Hit) (ziV:Bool) (sv0:(Sl Plane)):Bool :=
  (cond ziV
 true
 (zCU h sv0))
theorem zP5 (hs:zCW h ziV sv0=true) (hk:K (e9 (zCV h ziV sv0))) (zdN:zcb=zg enc_35 sv0):z9 K [1,0,1] [] ⟨[(2,zp 2 0),(3,zp 3 0),(14,zB ziV)],[(2,.box 24 [.p (.sl sv0.len 15 zcb)]),(3,.box 41 (zm (zbH h)))],[]⟩:=by subst zdN;exact zaK (by kernel_rfl) (zc hs hk (λ hs hk=>hk) (λ hs hk=>(zP4 hs hk rfl)))
def s9 (s:Setup) (h:Hit):Bool :=
  (zCV h (!(s23 h.Plane (0:Int) (w64 ((s.Planes.len:Int) - (1:Int))))) s.Planes)
def p9 (s:Setup) (h:Hit):Bool :=
  (zCW h (!(s23 h.Plane (0:Int) (w64 ((s.Planes.len:Int) - (1:Int))))) s.Planes)
end
theorem q9 (s:Setup) (h:Hit) (K:List PA->Prop) (hs:p9 s h=true) (hk:K (e9 (s9 s h))):vcFun Tryd.prog G9 zTG 9 [.agg (enc_24 s),.agg (zbH h)] K :=
  zaK (by kernel_rfl) (zP5 hs hk rfl)
def zTI : List PA → COut
  | [.agg [.sl zaa za8 zab],.agg [.int .i64 zbb,.int .i64 zaI,.int .i64 zbv,.int .i64 zbc,.int .i64 zaO,.int .i64 zbw]]=>.det (IsE enc_35 15 za8 zab/\p9 (⟨(⟨zaa,zbo zab⟩:(Sl Plane))⟩:Setup) (⟨zbb,zaI,zbv,zbc,zaO,zbw⟩:Hit)=true) [.one (.bool (s9 (⟨(⟨zaa,zbo zab⟩:(Sl Plane))⟩:Setup) (⟨zbb,zaI,zbv,zbc,zaO,zbw⟩:Hit)))]
  | _=>.no
theorem call9:zaj Tryd.prog 9:=⟨_,rfl,rfl,by kernel_rfl⟩
theorem ok9:Ok Tryd.prog 9 zTI:=zbm zWN call9 λ args K h=>by
  unfold zTI at h
  split at h
  · rename_i zaa za8 zab zbb zaI zbv zbc zaO zbw
    obtain⟨⟨⟨rfl,zaF,rfl⟩,hs⟩,hk⟩:=h
    try rw[zbG zaF] at hs
    try rw[zbG zaF] at hk
    exact⟨(λ _ _=>[]),(λ _=>false),zTG,q9 (⟨(⟨zaa,zaF⟩:(Sl Plane))⟩:Setup) (⟨zbb,zaI,zbv,zbc,zaO,zbw⟩:Hit) K hs hk⟩
  · exact h.elim
abbrev T61:Tabs:=Tabs.nil
theorem zTJ:TabsOk Tryd.prog T61:=TabsOk.nil
abbrev G61:Ctrs:=csm T61 (λ _ _=>[]) (λ _=>false)
def zLg:Ann:=⟨4,[(0,zK [1] [1]),(1,zK [2] [])],
 [],
 [],
 [],[]⟩
theorem zLh (w : web) (K : List PA → Prop) :
  vcFun Tryd.prog G61 zLg 61 [.one (.fp (zb5 w) 0)] K =
  (K [.one (.fn 82 [] [.fp [.fp (zb5 w) 0] 0])]):=by kernel_rfl
theorem q61 (w:web) (K:List PA->Prop) (hk:K [.one (.fn 82 [] [.fp [.fp (zb5 w) 0] 0])]):vcFun Tryd.prog G61 zLg 61 [.one (.fp (zb5 w) 0)] K:=zaK (zLh w K) hk
def zCX : List PA → COut
  | [.one (.fp [.int .i64 zbx,.sl zbk zcg zbl,.fm zea zcA zcB] 0)]=>.det (IsE zbr 4 zcg zbl/\zea=(false,1,false,[none])) [.one (.fn 82 [] [.fp [.fp (zb5 (⟨(⟨(⟨zbx,(⟨zbk,zbR zbl⟩:(Sl Tie))⟩:Net),(⟨zcA,zcB⟩:Mp)⟩:web).Net,((⟨(⟨zbx,(⟨zbk,zbR zbl⟩:(Sl Tie))⟩:Net),(⟨zcA,zcB⟩:Mp)⟩:web).out)⟩:web)) 0] 0])]
  | _=>.no
theorem zP6:zaj Tryd.prog 61:=⟨_,rfl,rfl,by kernel_rfl⟩
theorem zTK:Ok Tryd.prog 61 zCX:=zbm zTJ zP6 λ args K h=>by
  unfold zCX at h
  split at h
  · rename_i zbx zbk zcg zbl zea zcA zcB
    obtain⟨⟨⟨rfl,zbO,rfl⟩,rfl⟩,hk⟩:=h
    try rw[zbp zbO] at hk
    exact⟨λ _ _=>[],λ _=>false,zLg,q61 (⟨(⟨zbx,(⟨zbk,zbO⟩:(Sl Tie))⟩:Net),(⟨zcA,zcB⟩:Mp)⟩:web) K hk⟩
  · exact h.elim
abbrev T83:Tabs:=Tabs.nil
theorem zTL:TabsOk Tryd.prog T83:=TabsOk.nil
abbrev G83:Ctrs:=csm T83 (λ _ _=>[]) (λ _=>false)
def zP7:Ann:=⟨21,[(0,zK [1,2] [1,2]),(1,zK [2,3] [2])],
 [],
 [],
 [],[]⟩
abbrev R83:=(step×Bool)
abbrev e83 (r:R83):List PA:=[.agg [.int .i64 r.1.Use.Tie,.bool r.1.Use.Back,.int .i64 r.1.from_,.int .i64 r.1.to,.int .i64 r.1.length],.one (.bool r.2)]
section
variable {K:List PA->Prop}{t:tie}
def s83 (t:tie):(step×Bool) :=
  ((⟨(⟨t.index,false⟩:Use),t.Tie.From,t.Tie.To,t.Tie.High⟩:step),(t.Tie.High != (1000000000000:Int)))
end
theorem q83 (t:tie) (K:List PA->Prop) (hk:K (e83 (s83 t))):vcFun Tryd.prog G83 zP7 83 [.agg (zAT t)] K :=
  zaK (by kernel_rfl) hk
def zLi : List PA → COut
  | [.agg [.int .i64 zbT,.int .i64 zcu,.int .i64 zcc,.int .i64 zbU,.int .i64 za1]]=>.tot [.agg [.int .i64 (((s83 (⟨(⟨zbT,zcu,zcc,zbU⟩:Tie),za1⟩:tie)).1).Use.Tie),.bool (((s83 (⟨(⟨zbT,zcu,zcc,zbU⟩:Tie),za1⟩:tie)).1).Use.Back),.int .i64 (((s83 (⟨(⟨zbT,zcu,zcc,zbU⟩:Tie),za1⟩:tie)).1).from_),.int .i64 (((s83 (⟨(⟨zbT,zcu,zcc,zbU⟩:Tie),za1⟩:tie)).1).to),.int .i64 (((s83 (⟨(⟨zbT,zcu,zcc,zbU⟩:Tie),za1⟩:tie)).1).length)],.one (.bool ((s83 (⟨(⟨zbT,zcu,zcc,zbU⟩:Tie),za1⟩:tie)).2))]
  | _=>.no
theorem zP8:zaj Tryd.prog 83:=⟨_,rfl,rfl,by kernel_rfl⟩
theorem zWO:Ok Tryd.prog 83 zLi:=zbm zTL zP8 λ args K h=>by
  unfold zLi at h
  split at h
  · rename_i zbT zcu zcc zbU za1
    have hk:=h
    exact⟨(λ _ _=>[]),(λ _=>false),zP7,q83 (⟨(⟨zbT,zcu,zcc,zbU⟩:Tie),za1⟩:tie) K hk⟩
  · exact h.elim
abbrev T84:Tabs:=Tabs.nil
theorem zTM:TabsOk Tryd.prog T84:=TabsOk.nil
abbrev G84:Ctrs:=csm T84 (λ _ _=>[]) (λ _=>false)
def zP9:Ann:=⟨22,[(0,zK [1,2] [1,2]),(1,zK [2,3] [2])],
 [],
 [],
 [],[]⟩
abbrev R84:=(step×Bool)
abbrev e84 (r:R84):List PA:=[.agg [.int .i64 r.1.Use.Tie,.bool r.1.Use.Back,.int .i64 r.1.from_,.int .i64 r.1.to,.int .i64 r.1.length],.one (.bool r.2)]
section
variable {K:List PA->Prop}{t:tie}
def s84 (t:tie):(step×Bool) :=
  ((⟨(⟨t.index,true⟩:Use),t.Tie.To,t.Tie.From,(w64 (0 - t.Tie.Low))⟩:step),(t.Tie.Low != (-1000000000000:Int)))
end
theorem q84 (t:tie) (K:List PA->Prop) (hk:K (e84 (s84 t))):vcFun Tryd.prog G84 zP9 84 [.agg (zAT t)] K :=
  zaK (by kernel_rfl) hk
def zLj : List PA → COut
  | [.agg [.int .i64 zbT,.int .i64 zcu,.int .i64 zcc,.int .i64 zbU,.int .i64 za1]]=>.tot [.agg [.int .i64 (((s84 (⟨(⟨zbT,zcu,zcc,zbU⟩:Tie),za1⟩:tie)).1).Use.Tie),.bool (((s84 (⟨(⟨zbT,zcu,zcc,zbU⟩:Tie),za1⟩:tie)).1).Use.Back),.int .i64 (((s84 (⟨(⟨zbT,zcu,zcc,zbU⟩:Tie),za1⟩:tie)).1).from_),.int .i64 (((s84 (⟨(⟨zbT,zcu,zcc,zbU⟩:Tie),za1⟩:tie)).1).to),.int .i64 (((s84 (⟨(⟨zbT,zcu,zcc,zbU⟩:Tie),za1⟩:tie)).1).length)],.one (.bool ((s84 (⟨(⟨zbT,zcu,zcc,zbU⟩:Tie),za1⟩:tie)).2))]
  | _=>.no
theorem zQa:zaj Tryd.prog 84:=⟨_,rfl,rfl,by kernel_rfl⟩
theorem zWP:Ok Tryd.prog 84 zLj:=zbm zTM zQa λ args K h=>by
  unfold zLj at h
  split at h
  · rename_i zbT zcu zcc zbU za1
    have hk:=h
    exact⟨(λ _ _=>[]),(λ _=>false),zP9,q84 (⟨(⟨zbT,zcu,zcc,zbU⟩:Tie),za1⟩:tie) K hk⟩
  · exact h.elim
abbrev T82:Tabs:=((Tabs.nil.addF 83 zLi).addF 84 zLj)
theorem zTN:TabsOk Tryd.prog T82:=((TabsOk.nil.addF zWO).addF zWP)
abbrev G82:Ctrs:=csm T82 (λ _ _=>[]) (λ _=>false)
def zso:Ann:=⟨52,[(0,zK [0,1,14,15,16] []),(1,zK [0,1,14,15,16,17] []),(2,zK [0,1,3,4,14,15,16] [4]),(3,zK [0,1,3,4,14,15,16,26] [4]),(4,zK [0,1,5,14,15,16] [5]),(5,zK [0,1,14,15,16,34,35] []),(6,zK [0,1,14,15,16,34,35,36] []),(7,zK [0,1,7,14,15,16,34,35] []),(8,zK [0,1,8,9,14,15,16,34,35] [8]),(9,zK [0,1,14,15,16,34,35,49] []),(10,zK [0,1,14,15,16,34,35] []),(11,zK [0,1,14,15,16] [])],
 [(1,zK [0,1,14,15,16] [])],
 [],
 [(6,3,zK [0,1,14,15,16,34,35] [])],[9]⟩
def zhg (l:Nat) (a:web) (zaQ:Int):St:=⟨[(0,.one (.c (.p (.yl l)))),(1,.one (.c (.p (.fp [.fp (zb5 a) 0] 0)))),(14,.one (.c (.p (.sl a.Net.Ties.len 4 (λ i=>zbr (a.Net.Ties.get i)))))),(15,.one (.c (.p (.int .i64 (a.Net.Ties.len:Int))))),(16,.one (.c (.p (.int .i64 zaQ))))],[],[]⟩
def znh (l:Nat) (ys:List (List PA)) (a:web) (zaQ:Int):Prop:=vcY Tryd.prog G82 zso l (cdF Tryd.f82 [1,0]) (zlj 0 ztH) ys false (zhg l a zaQ)
theorem zLk (l : Nat) (a : web) (ys : List (List PA)) :
  vcIter Tryd.prog G82 zso 82 l [.one (.fp [.fp (zb5 a) 0] 0)] ys =
  (znh l ys a (0:Int)):=by kernel_rfl
def zsp (l:Nat) (X0:List (List PA)->Bool->St->Prop) (ys:List (List PA)) (a:web) (zaQ:Int):Prop :=
  (zcr (decide (zaQ < (a.Net.Ties.len : Int)))
 (((0<=zaQ/\zaQ < (a.Net.Ties.len:Int))) /\
 (zcr ((zEO (a.out.F [zaQ]) 0) != 0)
 (X0 ys false (zhg l a (w64 (zaQ+(1:Int)))))
 (zcr ((s83 (⟨(a.Net.Ties.get zaQ.toNat), zaQ⟩ : tie)).2)
 (l=l/\∃ r1,ys=[.agg [.int .i64 (((s83 (⟨(a.Net.Ties.get zaQ.toNat),zaQ⟩:tie)).1).Use.Tie),.bool (((s83 (⟨(a.Net.Ties.get zaQ.toNat),zaQ⟩:tie)).1).Use.Back),.int .i64 (((s83 (⟨(a.Net.Ties.get zaQ.toNat),zaQ⟩:tie)).1).from_),.int .i64 (((s83 (⟨(a.Net.Ties.get zaQ.toNat),zaQ⟩:tie)).1).to),.int .i64 (((s83 (⟨(a.Net.Ties.get zaQ.toNat),zaQ⟩:tie)).1).length)]] :: r1 /\
 (zcr ((s84 (⟨(a.Net.Ties.get zaQ.toNat), zaQ⟩ : tie)).2)
 (l=l/\∃ r2,r1=[.agg [.int .i64 (((s84 (⟨(a.Net.Ties.get zaQ.toNat),zaQ⟩:tie)).1).Use.Tie),.bool (((s84 (⟨(a.Net.Ties.get zaQ.toNat),zaQ⟩:tie)).1).Use.Back),.int .i64 (((s84 (⟨(a.Net.Ties.get zaQ.toNat),zaQ⟩:tie)).1).from_),.int .i64 (((s84 (⟨(a.Net.Ties.get zaQ.toNat),zaQ⟩:tie)).1).to),.int .i64 (((s84 (⟨(a.Net.Ties.get zaQ.toNat),zaQ⟩:tie)).1).length)]] :: r2 /\
 (X0 r2 false (zhg l a (w64 (zaQ+(1:Int)))))/\True)
 (X0 r1 false (zhg l a (w64 (zaQ+(1:Int))))))/\True)
 (zcr ((s84 (⟨(a.Net.Ties.get zaQ.toNat), zaQ⟩ : tie)).2)
 (l=l/\∃ r3,ys=[.agg [.int .i64 (((s84 (⟨(a.Net.Ties.get zaQ.toNat),zaQ⟩:tie)).1).Use.Tie),.bool (((s84 (⟨(a.Net.Ties.get zaQ.toNat),zaQ⟩:tie)).1).Use.Back),.int .i64 (((s84 (⟨(a.Net.Ties.get zaQ.toNat),zaQ⟩:tie)).1).from_),.int .i64 (((s84 (⟨(a.Net.Ties.get zaQ.toNat),zaQ⟩:tie)).1).to),.int .i64 (((s84 (⟨(a.Net.Ties.get zaQ.toNat),zaQ⟩:tie)).1).length)]] :: r3 /\
 (X0 r3 false (zhg l a (w64 (zaQ+(1:Int)))))/\True)
 (X0 ys false (zhg l a (w64 (zaQ+(1:Int)))))))))
 (ys=[]))
theorem zvd (l : Nat) (X0 : List (List PA) → Bool → St → Prop) (ys : List (List PA)) (a : web) (zaQ : Int) :
  vcY Tryd.prog G82 zso l (cd (cdF Tryd.f82 [1,0]) [0]) (zyX Tryd.prog zso 1 X0 (zlj 0 ztH)) ys false (zhg l a zaQ) =
  zsp l X0 ys a zaQ:=by kernel_rfl
theorem zCY (l : Nat) (ys : List (List PA)) (a : web) (zaQ : Int)
  (h:∀ X0:List (List PA)->Bool->St->Prop,(∀ (ys:List (List PA)) (zaQ:Int),zsp l X0 ys a zaQ->X0 ys false (zhg l a zaQ))->X0 ys false (zhg l a zaQ)) :
  znh l ys a zaQ:=by
  have e:znh l ys a zaQ=(∀ X:List (List PA)->Bool->St->Prop,(∀ ys q s,vcY Tryd.prog G82 zso l (cd (cdF Tryd.f82 [1,0]) [0]) (zyX Tryd.prog zso 1 X (zlj 0 ztH)) ys q s->X ys q s)->X ys false (zhg l a zaQ)):=by kernel_rfl
  refine zaK e ?_
  intro X hX
  refine h X ?_
  intro ys zaQ hs
  refine hX _ _ _ ?_
  have e2:=zvd l X ys a zaQ
  rw[e2]
  exact hs
attribute [irreducible] znh
def ziW (a:web) (S0:Int->List step) (zaQ:Int):List step :=
  (cond (decide (zaQ < (a.Net.Ties.len : Int)))
 (cond ((zEO (a.out.F [zaQ]) 0) != 0)
 (S0 (w64 (zaQ+(1:Int))))
 (cond ((s83 (⟨(a.Net.Ties.get zaQ.toNat), zaQ⟩ : tie)).2)
 (((s83 (⟨(a.Net.Ties.get zaQ.toNat), zaQ⟩ : tie)).1) :: (cond ((s84 (⟨(a.Net.Ties.get zaQ.toNat), zaQ⟩ : tie)).2)
 (((s84 (⟨(a.Net.Ties.get zaQ.toNat),zaQ⟩:tie)).1) :: (S0 (w64 (zaQ+(1:Int)))))
 (S0 (w64 (zaQ+(1:Int))))))
 (cond ((s84 (⟨(a.Net.Ties.get zaQ.toNat), zaQ⟩ : tie)).2)
 (((s84 (⟨(a.Net.Ties.get zaQ.toNat),zaQ⟩:tie)).1) :: (S0 (w64 (zaQ+(1:Int)))))
 (S0 (w64 (zaQ+(1:Int)))))))
 [])
def ziX (a:web) (P0:Int->Bool) (zaQ:Int):Bool :=
  (cond (decide (zaQ < (a.Net.Ties.len : Int)))
 (decide ((0<=zaQ/\zaQ < (a.Net.Ties.len:Int))) &&
 (cond ((zEO (a.out.F [zaQ]) 0) != 0)
 (P0 (w64 (zaQ+(1:Int))))
 (cond ((s83 (⟨(a.Net.Ties.get zaQ.toNat), zaQ⟩ : tie)).2)
 (cond ((s84 (⟨(a.Net.Ties.get zaQ.toNat), zaQ⟩ : tie)).2)
 (P0 (w64 (zaQ+(1:Int))))
 (P0 (w64 (zaQ+(1:Int)))))
 (cond ((s84 (⟨(a.Net.Ties.get zaQ.toNat), zaQ⟩ : tie)).2)
 (P0 (w64 (zaQ+(1:Int))))
 (P0 (w64 (zaQ+(1:Int))))))))
 true)
def zhh (a : web) : Nat → Int → List step
  | 0=>λ _=>[]
  | k+1=>ziW a (zhh a k)
def zhi (a : web) : Nat → Int → Bool
  | 0=>λ _=>false
  | k+1=>ziX a (zhi a k)
def zCZ (a:web) (zaQ:Int):List step:=zhh a Fuel zaQ
def zC0 (a:web) (zaQ:Int):Bool:=zhi a Fuel zaQ
theorem zLl (l:Nat) (a:web) (ys:List (List PA)) (zaQ:Int) (hs:zC0 a zaQ=true) (hk:ys=(zCZ a zaQ).map (λ y=>[.agg (zd1 y)])):znh l ys a zaQ:=by
  refine zCY l ys a zaQ ?_
  intro X0 hstep
  have key:∀ (k:Nat) (ys:List (List PA)) (zaQ:Int),zhi a k zaQ=true->ys=(zhh a k zaQ).map (λ y=>[.agg (zd1 y)])->X0 ys false (zhg l a zaQ):=by
    intro k
    induction k with
    | zero=>intro ys zaQ hs;exact absurd hs dqk
    | succ k ih =>
      intro ys zaQ hs hk
      refine hstep ys zaQ ?_
      have hs:ziX a (zhi a k) zaQ=true:=hs
      have hk:ys=(ziW a (zhh a k) zaQ).map (λ y=>[.agg (zd1 y)]):=hk
      unfold ziX at hs
      unfold ziW at hk
      generalize zhh a k=S0 at hk ih
      generalize zhi a k=P0 at hs ih
      have hX0:=ih
      exact (zhT hs hk
 (λ hs hk => (zaX hs λ hc hs => ⟨hc, (zhT hs hk
 (λ hs hk=>(hX0 _ (w64 (zaQ+(1:Int))) hs hk))
 (λ hs hk => (zhT hs hk
 (λ hs hk => (itY hk rfl (λ _ hk => (zhT hs hk
 (λ hs hk=>(itY hk rfl (λ _ hk=>(hX0 _ (w64 (zaQ+(1:Int))) hs hk))))
 (λ hs hk=>(hX0 _ (w64 (zaQ+(1:Int))) hs hk))))))
 (λ hs hk => (zhT hs hk
 (λ hs hk=>(itY hk rfl (λ _ hk=>(hX0 _ (w64 (zaQ+(1:Int))) hs hk))))
 (λ hs hk=>(hX0 _ (w64 (zaQ+(1:Int))) hs hk)))))))⟩))
 (fun hs hk=>hk))
  exact key _ _ zaQ hs hk
def s82 (a:web):List step :=
  (zCZ a (0:Int))
def p82 (a:web):Bool :=
  (zC0 a (0:Int))
theorem q82 (l:Nat) (a:web) (ys:List (List PA)) (hs:p82 a=true) (hk:ys=(s82 a).map (λ y=>[.agg (zd1 y)])):vcIter Tryd.prog G82 zso 82 l [.one (.fp [.fp (zb5 a) 0] 0)] ys:=by
  refine zaK (zLk l a ys) ?_
  unfold p82 at hs
  unfold s82 at hk
  exact (zLl l a _ (0:Int) hs hk)
def zQb : List PA → Option (Prop × List (List PA))
  | [.one (.fp [.fp [.int .i64 a_Net_Nodes,.sl a_Net_Ties_n a_Net_Ties_s a_Net_Ties_g,.fm a_out_q a_out_n a_out_F] 0] 0)]=>some (IsE zbr 4 a_Net_Ties_s a_Net_Ties_g/\a_out_q=(false,1,false,[none])/\p82 (⟨(⟨a_Net_Nodes,(⟨a_Net_Ties_n,zbR a_Net_Ties_g⟩:(Sl Tie))⟩:Net),(⟨a_out_n,a_out_F⟩:Mp)⟩:web)=true,(s82 (⟨(⟨a_Net_Nodes,(⟨a_Net_Ties_n,zbR a_Net_Ties_g⟩:(Sl Tie))⟩:Net),(⟨a_out_n,a_out_F⟩:Mp)⟩:web)).map λ y=>[.agg (zd1 y)])
  | _=>none
theorem zQc:zaj Tryd.prog 82:=⟨_,rfl,rfl,by kernel_rfl⟩
theorem zTO:zE5 Tryd.prog 82 zQb:=zHy zTN zQc λ l caps safe ys h hs=>by
  unfold zQb at h
  split at h
  · rename_i a_Net_Nodes a_Net_Ties_n a_Net_Ties_s a_Net_Ties_g a_out_q a_out_n a_out_F
    cases h
    obtain⟨⟨rfl,a_Net_Ties_f,rfl⟩,rfl,hs⟩:=hs
    try rw[zbp a_Net_Ties_f] at hs
    try rw[zbp a_Net_Ties_f]
    exact⟨λ _ _=>[],λ _=>false,zso,q82 l (⟨(⟨a_Net_Nodes,(⟨a_Net_Ties_n,a_Net_Ties_f⟩:(Sl Tie))⟩:Net),(⟨a_out_n,a_out_F⟩:Mp)⟩:web) _ hs rfl⟩
  · cases h
abbrev T60:Tabs:=((Tabs.nil.addF 61 zCX).addI 82 zQb)
theorem zTP:TabsOk Tryd.prog T60:=((TabsOk.nil.addF zTK).addI zTO)
abbrev G60:Ctrs:=csm T60 (λ _ _=>[]) (λ _=>false)
def zC1:Ann:=⟨37,[(0,zK [0] []),(1,zK [0,3] [3]),(2,zK [0,3,11,12] [3]),(3,zK [0,3,11,12,13] [3]),(4,zK [0,3,4,11,12] [3,4]),(5,zK [0,3,4,11,12,15] [3,4]),(6,zK [0,3,4,5,11,12,15] [3,4,5]),(7,zK [0,3,4,5,6,11,12,15] [3,4,5]),(8,zK [0,3,4,5,6,11,12,15,29] [3,4,5]),(9,zK [0,3,4,11,12,15] [3,4]),(10,zK [0,3,4,11,12,15] [3,4]),(11,zK [0,3,11,12,35] [3]),(12,zK [2] []),(13,zK [0,3,11,12] [3]),(14,zK [2] [])],
 [(3,zK [0,3,11,12] [3]),(6,zK [0,3,4,11,12,15] [3,4])],
 [],
 [],[]⟩
abbrev R60:=Bool
abbrev e60 (r:R60):List PA:=[.one (.bool r)]
@[irreducible] def z60:=ptF Tryd.prog G60 zC1 Tryd.f60
@[irreducible] def x60:=exF Tryd.prog G60 zC1 Tryd.f60
@[irreducible] def y60:=rnF Tryd.prog G60 zC1 Tryd.f60
def zIa (w:web) (zcH:Int) (dt0:Tab):St:=⟨[(0,zP (.fp (zb5 w) 0)),(3,zp 3 0),(11,zI w.Net.Nodes),(12,zI zcH)],[(3,.box 176 (zm (zAS dt0)))],[]⟩
abbrev zLm (K:List PA->Prop) (w:web) (X:St->Prop) (P:Int->Tab->Bool) (S:Int->Tab->Bool):Prop:=∀ ⦃zcH:Int⦄ ⦃dt0:Tab⦄,P zcH dt0=true->K (e60 (S zcH dt0))->X (zIa w zcH dt0)
def zC2 (w:web) (zeJ:Int) (zbP:Bool) (dt1:Tab):St:=⟨[(0,zP (.fp (zb5 w) 0)),(3,zp 3 0),(4,zp 4 0),(11,zI w.Net.Nodes),(12,zI zeJ),(15,zP (.fn 82 [] [.fp [.fp (zb5 w) 0] 0]))],[(3,.box 176 (zm (zAS dt1))),(4,.box 4 [.p (.bool zbP)])],[]⟩
abbrev zQd (K:List PA->Prop) (w:web) (X:St->Prop) (P:Int->Bool->Tab->Bool) (S:Int->Bool->Tab->Bool):Prop:=∀ ⦃zeJ:Int⦄ ⦃zbP:Bool⦄ ⦃dt1:Tab⦄,P zeJ zbP dt1=true->K (e60 (S zeJ zbP dt1))->X (zC2 w zeJ zbP dt1)
section
variable {K:List PA->Prop}{w:web}{zcH:Int}{dt0:Tab}{X0:St->Prop}{P0:Int->Tab->Bool}{S0:Int->Tab->Bool}{zeJ:Int}{zbP:Bool}{dt1:Tab}
def zpY (S0:Int->Tab->Bool) (w:web) (zeJ:Int) (zbP:Bool) (dt1:Tab):Bool :=
  (cond (!zbP)
 false
 (S0 (w64 (zeJ+(1:Int))) dt1))
def zpZ (P0:Int->Tab->Bool) (w:web) (zeJ:Int) (zbP:Bool) (dt1:Tab):Bool :=
  (cond (!zbP)
 true
 (P0 (w64 (zeJ+(1:Int))) dt1))
def zp0 (S0:Int->Tab->Bool) (w:web) (y1:step) (S1:Int->Bool->Tab->Bool) (zeJ:Int) (zbP:Bool) (dt1:Tab):Bool :=
  (cond (decide ((w64 ((tg 40 dt1 (0 + y1.from_.toNat * 1 + 0)) + y1.length)) < (tg 40 dt1 (0 + y1.to.toNat * 1 + 0))))
 (S1 zeJ true (ts 40 dt1 (0+y1.to.toNat * 1+0) [(w64 ((tg 40 dt1 (0+y1.from_.toNat * 1+0))+y1.length))]))
 (S1 zeJ zbP dt1))
def zp1 (P0:Int->Tab->Bool) (w:web) (y1:step) (P1:Int->Bool->Tab->Bool) (zeJ:Int) (zbP:Bool) (dt1:Tab):Bool :=
  (decide ((0<=y1.from_/\y1.from_ < (40:Int))) &&
 (decide ((0<=y1.to/\y1.to < (40:Int))) &&
 (cond (decide ((w64 ((tg 40 dt1 (0 + y1.from_.toNat * 1 + 0)) + y1.length)) < (tg 40 dt1 (0 + y1.to.toNat * 1 + 0))))
 (decide ((0<=y1.to/\y1.to < (40:Int))) &&
 (P1 zeJ true (ts 40 dt1 (0+y1.to.toNat * 1+0) [(w64 ((tg 40 dt1 (0+y1.from_.toNat * 1+0))+y1.length))])))
 (P1 zeJ zbP dt1))))
def zhj (S0:Int->Tab->Bool) (w:web):List step->Int->Bool->Tab->Bool:=lpR (zpY S0 w) (zp0 S0 w)
def zhk (P0:Int->Tab->Bool) (w:web):List step->Int->Bool->Tab->Bool:=lpR (zpZ P0 w) (zp1 P0 w)
def zve (S0:Int->Tab->Bool) (w:web) (zeJ:Int) (zbP:Bool) (dt1:Tab):Bool:=zhj S0 w (s82 w) zeJ zbP dt1
def zvf (P0:Int->Tab->Bool) (w:web) (zeJ:Int) (zbP:Bool) (dt1:Tab):Bool:=decide ((p82 w=true)) && zhk P0 w (s82 w) zeJ zbP dt1
theorem zLn (hX0:zLm K w X0 P0 S0) (hs:zvf P0 w zeJ zbP dt1=true) (hk:K (e60 (zve S0 w zeJ zbP dt1))):z60 K [1,1,0,1,0,0,1,1,0,0,1,0,1,0] [X0] (zC2 w zeJ zbP dt1) :=
  zaX hs λ hc hs=>zr (enc:=(λ y:step=>[.agg (zd1 y)])) (ys:=s82 w) (g:=(zC2 w zeJ zbP dt1)) (x60 K [1,1,0,1,0,0,1,1,0,0,1,0,1,0] [X0]) (y60 K [1,1,0,1,0,0,1,1,0,0,1,0,1,0] [X0]) (by kernel_rfl) (And.intro (zE zbr 4 w.Net.Ties.get) (And.intro (rfl:((false,1,false,[none]):MQ)=(false,1,false,[none])) hc)) λ X1 hE hR =>
  (show ∀ l : List step, zQd K w (X1 (l.map (λ y : step => [.agg (zd1 y)]))) (zhk P0 w l) (zhj S0 w l) from zri (X := X1) (enc := (λ y : step => [.agg (zd1 y)])) _ _ (zp1 P0 w) (zp0 S0 w) (λ Z P S => zQd K w Z P S)
 (by intro zeJ zbP dt1 hs hk;exact hE _ (zaK (by kernel_rfl) (zc hs hk (λ hs hk=>hk) (λ hs hk=>(hX0 hs hk)))))
 (by intro y1 rest P1 S1 hX1 zeJ zbP dt1 hs hk;exact hR _ rest _ (zaK (by kernel_rfl) (zaX hs λ hc hs=>And.intro hc (zaX hs λ hc hs=>And.intro hc (zc hs hk (λ hs hk=>(zaX hs λ hc hs=>And.intro hc (hX1 hs hk))) (λ hs hk=>(hX1 hs hk)))))))) _ hs hk
def zkt (w:web) (S0:Int->Tab->Bool) (zcH:Int) (dt0:Tab):Bool :=
  (cond (decide (zcH < w.Net.Nodes))
 (zve S0 w zcH false dt0)
 true)
def zku (w:web) (P0:Int->Tab->Bool) (zcH:Int) (dt0:Tab):Bool :=
  (cond (decide (zcH < w.Net.Nodes))
 (zvf P0 w zcH false dt0)
 true)
def zkv (w:web):Nat->Int->Tab->Bool:=lpO (λ _ _=>default) (zkt w)
def zkw (w:web):Nat->Int->Tab->Bool:=lpO (λ _ _=>false) (zku w)
def zC3 (w:web) (zcH:Int) (dt0:Tab):Bool:=zkv w Fuel zcH dt0
def zC4 (w:web) (zcH:Int) (dt0:Tab):Bool:=zkw w Fuel zcH dt0
theorem zLo (hs:zC4 w zcH dt0=true) (hk:K (e60 (zC3 w zcH dt0))):z60 K [1,1,0,1,0] [] (zIa w zcH dt0) :=
  zl (λ X=>z60 K [1,1,0,1,0,0] [X]) (by kernel_rfl) λ X0 hX =>
  (show ∀ k, zLm K w X0 (zkw w k) (zkv w k) from zgc _ _ (zku w) (zkt w) (zLm K w X0)
 (by intro _ _ hs;exact absurd hs dqk)
 (by intro P0 S0 hX0 zcH dt0 hs hk;exact hX _ (zaK (by kernel_rfl) (zc hs hk (λ hs hk=>(And.intro (And.intro (zE zbr 4 w.Net.Ties.get) (rfl:((false,1,false,[none]):MQ)=(false,1,false,[none]))) (zLn hX0 hs hk))) (λ hs hk=>hk))))) _ hs hk
def s60 (w:web):Bool :=
  (zC3 w (0:Int) (λ _=>(0:Int)))
def p60 (w:web):Bool :=
  (zC4 w (0:Int) (λ _=>(0:Int)))
end
theorem q60 (w:web) (K:List PA->Prop) (hs:p60 w=true) (hk:K (e60 (s60 w))):vcFun Tryd.prog G60 zC1 60 [.one (.fp (zb5 w) 0)] K :=
  zaK (by kernel_rfl) (zLo hs hk)
def zLp : List PA → COut
  | [.one (.fp [.int .i64 zbx,.sl zbk zcg zbl,.fm zea zcA zcB] 0)]=>.det (IsE zbr 4 zcg zbl/\zea=(false,1,false,[none])/\p60 (⟨(⟨zbx,(⟨zbk,zbR zbl⟩:(Sl Tie))⟩:Net),(⟨zcA,zcB⟩:Mp)⟩:web)=true) [.one (.bool (s60 (⟨(⟨zbx,(⟨zbk,zbR zbl⟩:(Sl Tie))⟩:Net),(⟨zcA,zcB⟩:Mp)⟩:web)))]
  | _=>.no
theorem zQe:zaj Tryd.prog 60:=⟨_,rfl,rfl,by kernel_rfl⟩
theorem zWQ:Ok Tryd.prog 60 zLp:=zbm zTP zQe λ args K h=>by
  unfold zLp at h
  split at h
  · rename_i zbx zbk zcg zbl zea zcA zcB
    obtain⟨⟨⟨rfl,zbO,rfl⟩,rfl,hs⟩,hk⟩:=h
    try rw[zbp zbO] at hs
    try rw[zbp zbO] at hk
    exact⟨(λ _ _=>[]),(λ _=>false),zC1,q60 (⟨(⟨zbx,(⟨zbk,zbO⟩:(Sl Tie))⟩:Net),(⟨zcA,zcB⟩:Mp)⟩:web) K hs hk⟩
  · exact h.elim
abbrev T33:Tabs:=(((Tabs.nil.addF 31 zup).addF 32 zAZ).addF 60 zLp)
theorem zTQ:TabsOk Tryd.prog T33:=(((TabsOk.nil.addF zOR).addF ok32).addF zWQ)
abbrev G33:Ctrs:=csm T33 (λ _ _=>[]) (λ _=>false)
def zGi:Ann:=⟨31,[(0,zK [1,2] [2]),(1,zK [1,2,6] [2,11]),(2,zK [1,2,6,14] [2,11]),(3,zK [4,5] []),(4,zK [2,6,15,16,17] [2,11]),(5,zK [2,6,15,16,17,18] [2,11]),(6,zK [2,6,8,15,16,17] [2,11]),(7,zK [2,6,15,16,17,26] [2,11]),(8,zK [4,5] []),(9,zK [2,6,15,16,17] [2,11]),(10,zK [6,29] [11]),(11,zK [4,5] []),(12,zK [4,5] [11])],
 [(5,zK [2,6,15,16,17] [2,11])],
 [(3,zK [1,2,6,14] [2,11]),(4,zK [1,2,6] [2,11]),(8,zK [2,6,15,16,17,26] [2,11]),(11,zK [6,29] [11])],
 [],[]⟩
abbrev R33:=(web×Int)
abbrev e33 (r:R33):List PA:=cond (r.2 == 0) [.one (.fp (zb5 r.1) 0),.one (.int .i64 (0:Int))] [.one (.nilp),.one (.int .i64 r.2)]
@[irreducible] def z33:=ptF Tryd.prog G33 zGi Tryd.f33
def zIb (n:Net) (nodes:(Sl Int)) (zfb:Int):St:=⟨[(2,zp 2 0),(6,zp 11 0),(15,zS enc_3 1 nodes),(16,zI (nodes.len:Int)),(17,zI zfb)],[(2,.box 48 (zm (zdk n))),(11,.box 147 (zm (zb5 (⟨n,(⟨0,(λ _=>none)⟩:Mp)⟩:web))))],[]⟩
abbrev zLq (K:List PA->Prop) (n:Net) (nodes:(Sl Int)) (X:St->Prop) (P:Int->Bool) (S:Int->(web×Int)):Prop:=∀ ⦃zfb:Int⦄,P zfb=true->K (e33 (S zfb))->X (zIb n nodes zfb)
section
variable {K:List PA->Prop}{n:Net}{nodes:(Sl Int)}{ziV:Bool}{zfb:Int}{X2:St->Prop}{P2:Int->Bool}{S2:Int->(web×Int)}{zee:Int}{zvg:Bool}{zGj:Bool}
def zvh (n:Net) (zGj:Bool):(web×Int) :=
  (cond zGj
 ((default:web),(5:Int))
 ((⟨n,(⟨0,(λ _=>none)⟩:Mp)⟩:web),(0:Int)))
theorem zLr (hk:K (e33 (zvh n zGj))):z33 K [1,1,1,1,0,1] [] ⟨[(6,zp 11 0),(29,zB zGj)],[(11,.box 147 (zm (zb5 (⟨n,(⟨0,(λ _=>none)⟩:Mp)⟩:web))))],[]⟩:=zaK (by kernel_rfl) (zt hk (λ hk=>hk) (λ hk=>hk))
def zvi (S2:Int->(web×Int)) (n:Net) (nodes:(Sl Int)) (zee:Int) (zvg:Bool):(web×Int) :=
  (cond zvg
 ((default:web),(2:Int))
 (S2 (w64 (zee+(1:Int)))))
def zvj (P2:Int->Bool) (n:Net) (nodes:(Sl Int)) (zee:Int) (zvg:Bool):Bool :=
  (cond zvg
 true
 (P2 (w64 (zee+(1:Int)))))
theorem zLs (hX2:zLq K n nodes X2 P2 S2) (hs:zvj P2 n nodes zee zvg=true) (hk:K (e33 (zvi S2 n nodes zee zvg))):z33 K [1,1,1,0,1,0,0,1,1,0,0,1,1] [X2] ⟨[(2,zp 2 0),(6,zp 11 0),(15,zS enc_3 1 nodes),(16,zI (nodes.len:Int)),(17,zI zee),(26,zB zvg)],[(2,.box 48 (zm (zdk n))),(11,.box 147 (zm (zb5 (⟨n,(⟨0,(λ _=>none)⟩:Mp)⟩:web))))],[]⟩:=zaK (by kernel_rfl) (zc hs hk (λ hs hk=>hk) (λ hs hk=>(hX2 hs hk)))
def zkx (n:Net) (nodes:(Sl Int)) (S2:Int->(web×Int)) (zfb:Int):(web×Int) :=
  (cond (decide (zfb < (nodes.len : Int)))
 (zvi S2 n nodes zfb (!(s31 (nodes.get zfb.toNat) (0:Int) (w64 (n.Nodes - (1:Int))))))
 (zvh n (s60 (⟨n,(⟨0,(λ _=>none)⟩:Mp)⟩:web))))
def zky (n:Net) (nodes:(Sl Int)) (P2:Int->Bool) (zfb:Int):Bool :=
  (cond (decide (zfb < (nodes.len : Int)))
 (decide ((0<=zfb/\zfb < (nodes.len:Int))) &&
 (zvj P2 n nodes zfb (!(s31 (nodes.get zfb.toNat) (0:Int) (w64 (n.Nodes - (1:Int)))))))
 (decide ((p60 (⟨n,(⟨0,(λ _=>none)⟩:Mp)⟩:web)=true)) &&
 true))
def zkz (n:Net) (nodes:(Sl Int)):Nat->Int->(web×Int):=lpO (λ _=>default) (zkx n nodes)
def zkA (n:Net) (nodes:(Sl Int)):Nat->Int->Bool:=lpO (λ _=>false) (zky n nodes)
def zvk (n:Net) (nodes:(Sl Int)) (zfb:Int):(web×Int):=zkz n nodes Fuel zfb
def zvl (n:Net) (nodes:(Sl Int)) (zfb:Int):Bool:=zkA n nodes Fuel zfb
theorem zLt (hs:zvl n nodes zfb=true) (hk:K (e33 (zvk n nodes zfb))):z33 K [1,1,1,0,1,0] [] (zIb n nodes zfb) :=
  zl (λ X=>z33 K [1,1,1,0,1,0,0] [X]) (by kernel_rfl) λ X2 hX =>
  (show ∀ k, zLq K n nodes X2 (zkA n nodes k) (zkz n nodes k) from zgc _ _ (zky n nodes) (zkx n nodes) (zLq K n nodes X2)
 (by intro _ hs;exact absurd hs dqk)
 (by intro P2 S2 hX2 zfb hs hk;exact hX _ (zaK (by kernel_rfl) (zc hs hk (λ hs hk=>(zaX hs λ hc hs=>And.intro hc (zLs hX2 hs hk))) (λ hs hk=>(zaX hs λ hc hs=>And.intro (And.intro (zE zbr 4 n.Ties.get) (And.intro (rfl:((false,1,false,[none]):MQ)=(false,1,false,[none])) hc)) (zLr hk))))))) _ hs hk
def zvm (n:Net) (nodes:(Sl Int)):(web×Int) :=
  (zvk n nodes (0:Int))
def zvn (n:Net) (nodes:(Sl Int)):Bool :=
  (zvl n nodes (0:Int))
theorem zLu (hs:zvn n nodes=true) (hk:K (e33 (zvm n nodes))):z33 K [1,1,1] [] ⟨[(1,zS enc_3 1 nodes),(2,zp 2 0),(6,zp 11 0)],[(2,.box 48 (zm (zdk n))),(11,.box 147 (zm (zb5 (⟨n,(⟨0,(λ _=>none)⟩:Mp)⟩:web))))],[]⟩:=zaK (by kernel_rfl) (zLt hs hk)
def zvo (n:Net) (nodes:(Sl Int)) (ziV:Bool):(web×Int) :=
  (cond ziV
 ((default:web),(2:Int))
 (zvm n nodes))
def zvp (n:Net) (nodes:(Sl Int)) (ziV:Bool):Bool :=
  (cond ziV
 true
 (zvn n nodes))
theorem zLv (hs:zvp n nodes ziV=true) (hk:K (e33 (zvo n nodes ziV))):z33 K [1,1,0,1] [] ⟨[(1,zS enc_3 1 nodes),(2,zp 2 0),(6,zp 11 0),(14,zB ziV)],[(2,.box 48 (zm (zdk n))),(11,.box 147 (zm (zb5 (⟨n,(⟨0,(λ _=>none)⟩:Mp)⟩:web))))],[]⟩:=zaK (by kernel_rfl) (zc hs hk (λ hs hk=>hk) (λ hs hk=>(zLu hs hk)))
def s33 (n:Net) (nodes:(Sl Int)):(web×Int) :=
  (zvo n nodes (!(s32 n)))
def p33 (n:Net) (nodes:(Sl Int)):Bool :=
  (decide ((p32 n=true)) &&
 (zvp n nodes (!(s32 n))))
end
theorem q33 (n:Net) (nodes:(Sl Int)) (K:List PA->Prop) (hs:p33 n nodes=true) (hk:K (e33 (s33 n nodes))):vcFun Tryd.prog G33 zGi 33 [.agg (zdk n),.one (.sl nodes.len 1 (λ i=>enc_3 (nodes.get i)))] K :=
  zaK (by kernel_rfl) (zaX hs λ hc hs=>And.intro (And.intro (zE zbr 4 n.Ties.get) hc) (zLv hs hk))
def zLw : List PA → COut
  | [.agg [.int .i64 za0,.sl za7 zcf zaZ],.one (.sl zeO zl0 zeP)]=>.alt ((s33 (⟨za0,(⟨za7,zbR zaZ⟩:(Sl Tie))⟩:Net) (⟨zeO,zcS zeP⟩:(Sl Int))).2 == 0) (IsE zbr 4 zcf zaZ/\IsE enc_3 1 zl0 zeP/\p33 (⟨za0,(⟨za7,zbR zaZ⟩:(Sl Tie))⟩:Net) (⟨zeO,zcS zeP⟩:(Sl Int))=true) [.one (.fp (zb5 (⟨(s33 (⟨za0,(⟨za7,zbR zaZ⟩:(Sl Tie))⟩:Net) (⟨zeO,zcS zeP⟩:(Sl Int))).1.Net,((s33 (⟨za0,(⟨za7,zbR zaZ⟩:(Sl Tie))⟩:Net) (⟨zeO,zcS zeP⟩:(Sl Int))).1.out)⟩:web)) 0),.one (.int .i64 (0:Int))] (IsE zbr 4 zcf zaZ/\IsE enc_3 1 zl0 zeP/\p33 (⟨za0,(⟨za7,zbR zaZ⟩:(Sl Tie))⟩:Net) (⟨zeO,zcS zeP⟩:(Sl Int))=true) [.one (.nilp),.one (.int .i64 ((s33 (⟨za0,(⟨za7,zbR zaZ⟩:(Sl Tie))⟩:Net) (⟨zeO,zcS zeP⟩:(Sl Int))).2))]
  | [.agg [.int .i64 za0,.sl za7 zcf zaZ],.one (.nils)]=>.alt ((s33 (⟨za0,(⟨za7,zbR zaZ⟩:(Sl Tie))⟩:Net) (⟨0,λ _=>default⟩:(Sl Int))).2 == 0) (IsE zbr 4 zcf zaZ/\p33 (⟨za0,(⟨za7,zbR zaZ⟩:(Sl Tie))⟩:Net) (⟨0,λ _=>default⟩:(Sl Int))=true) [.one (.fp (zb5 (⟨(s33 (⟨za0,(⟨za7,zbR zaZ⟩:(Sl Tie))⟩:Net) (⟨0,λ _=>default⟩:(Sl Int))).1.Net,((s33 (⟨za0,(⟨za7,zbR zaZ⟩:(Sl Tie))⟩:Net) (⟨0,λ _=>default⟩:(Sl Int))).1.out)⟩:web)) 0),.one (.int .i64 (0:Int))] (IsE zbr 4 zcf zaZ/\p33 (⟨za0,(⟨za7,zbR zaZ⟩:(Sl Tie))⟩:Net) (⟨0,λ _=>default⟩:(Sl Int))=true) [.one (.nilp),.one (.int .i64 ((s33 (⟨za0,(⟨za7,zbR zaZ⟩:(Sl Tie))⟩:Net) (⟨0,λ _=>default⟩:(Sl Int))).2))]
  | _=>.no
theorem zQf:zaj Tryd.prog 33:=⟨_,rfl,rfl,by kernel_rfl⟩
theorem zWR:Ok Tryd.prog 33 zLw:=ziv zTQ zQf λ args K h=>by
  unfold zLw at h
  split at h
  · rename_i za0 za7 zcf zaZ zeO zl0 zeP
    have h:=zOu h
    obtain⟨⟨⟨rfl,zbS,rfl⟩,⟨rfl,zic,rfl⟩,hs⟩,hk⟩:=h
    try rw[zbp zbS] at hs
    try rw[zbp zbS] at hk
    try rw[zbV zic] at hs
    try rw[zbV zic] at hk
    exact⟨_,zib zg5 _,(λ _ _=>[]),(λ _=>false),zGi,q33 (⟨za0,(⟨za7,zbS⟩:(Sl Tie))⟩:Net) (⟨zeO,zic⟩:(Sl Int)) (Wk K) hs (zeW hk)⟩
  · rename_i za0 za7 zcf zaZ
    have h:=zOu h
    obtain⟨⟨⟨rfl,zbS,rfl⟩,hs⟩,hk⟩:=h
    try rw[zbp zbS] at hs
    try rw[zbp zbS] at hk
    exact⟨_,(zeC (zg5 _) (zeC (.one (.nil _ _)) zka)),(λ _ _=>[]),(λ _=>false),zGi,q33 (⟨za0,(⟨za7,zbS⟩:(Sl Tie))⟩:Net) (⟨0,λ _=>default⟩:(Sl Int)) (Wk K) hs (zeW hk)⟩
  · exact h.elim
abbrev T63:Tabs:=Tabs.nil
theorem zTR:TabsOk Tryd.prog T63:=TabsOk.nil
abbrev G63:Ctrs:=csm T63 (λ _ _=>[]) (λ _=>false)
def zQg:Ann:=⟨24,[(0,zK [2,3] [2,3]),(1,zK [4] [])],
 [],
 [],
 [],[]⟩
abbrev R63:=Bool
abbrev e63 (r:R63):List PA:=[.one (.bool r)]
section
variable {K:List PA->Prop}{a:far}{b:far}
def s63 (a:far) (b:far):Bool :=
  (cond (decide (a.length < b.length))
 true
 (cond (a.length == b.length)
 (decide (a.uses < b.uses))
 false))
end
theorem q63 (a:far) (b:far) (K:List PA->Prop) (hk:K (e63 (s63 a b))):vcFun Tryd.prog G63 zQg 63 [.agg (zeH a),.agg (zeH b)] K :=
  zaK (by kernel_rfl) (zt hk (λ hk=>hk) (λ hk=>(zt hk (λ hk=>hk) (λ hk=>hk))))
def zLx : List PA → COut
  | [.agg [.int .i64 zni,.int .i64 zvq],.agg [.int .i64 zeb,.int .i64 zgI]]=>.tot [.one (.bool (s63 (⟨zni,zvq⟩:far) (⟨zeb,zgI⟩:far)))]
  | _=>.no
theorem zQh:zaj Tryd.prog 63:=⟨_,rfl,rfl,by kernel_rfl⟩
theorem zWS:Ok Tryd.prog 63 zLx:=zbm zTR zQh λ args K h=>by
  unfold zLx at h
  split at h
  · rename_i zni zvq zeb zgI
    have hk:=h
    exact⟨(λ _ _=>[]),(λ _=>false),zQg,q63 (⟨zni,zvq⟩:far) (⟨zeb,zgI⟩:far) K hk⟩
  · exact h.elim
abbrev T62:Tabs:=(Tabs.nil.addF 63 zLx)
theorem zTS:TabsOk Tryd.prog T62:=(TabsOk.nil.addF zWS)
abbrev G62:Ctrs:=csm T62 (λ _ _=>[]) (λ _=>false)
def zLy:Ann:=⟨22,[(0,zK [0,2,4,6] [4,6]),(1,zK [0,4,6,9,10,11] [4,6]),(2,zK [0,4,6,9,10,11,12] [4,6]),(3,zK [0,4,6,8,9,10,11] [4,6,8]),(4,zK [0,4,6,8,9,10,11,18] [4,6,8]),(5,zK [0,4,6,9,10,11] [4,6]),(6,zK [0,4,6,9,10,11] [4,6]),(7,zK [6] [6])],
 [(2,zK [0,4,6,9,10,11] [4,6])],
 [(5,zK [0,4,6,8,9,10,11,18] [4,6,8])],
 [],[]⟩
abbrev R62:=far
abbrev e62 (r:R62):List PA:=[.agg [.int .i64 r.length,.int .i64 r.uses]]
@[irreducible] def z62:=ptF Tryd.prog G62 zLy Tryd.f62
def zIc (others:(Sl far)) (zef:Int) (zb6:Int) (zb7:Int):St:=⟨[(0,zP (.fn 63 [] [])),(4,zp 4 0),(6,zp 6 0),(9,zS zeH 2 others),(10,zI (others.len:Int)),(11,zI zef)],[(4,.box 98 (zm (zeH (⟨zb6,zb7⟩:far)))),(6,.box 98 (zm (zeH (⟨(0:Int),(0:Int)⟩:far))))],[]⟩
abbrev zLz (K:List PA->Prop) (others:(Sl far)) (X:St->Prop) (P:Int->Int->Int->Bool) (S:Int->Int->Int->far):Prop:=∀ ⦃zef:Int⦄ ⦃zb6:Int⦄ ⦃zb7:Int⦄,P zef zb6 zb7=true->K (e62 (S zef zb6 zb7))->X (zIc others zef zb6 zb7)
section
variable {K:List PA->Prop}{first:far}{others:(Sl far)}{zef:Int}{zb6:Int}{zb7:Int}{X0:St->Prop}{P0:Int->Int->Int->Bool}{S0:Int->Int->Int->far}{zp2:Int}{zaM:Bool}{zfv:Int}{zfw:Int}{zfW:Int}{zfX:Int}
def zvr (S0:Int->Int->Int->far) (others:(Sl far)) (zp2:Int) (zaM:Bool) (zfv:Int) (zfw:Int) (zfW:Int) (zfX:Int):far :=
  (cond zaM
 (S0 (w64 (zp2+(1:Int))) zfW zfX)
 (S0 (w64 (zp2+(1:Int))) zfv zfw))
def zvs (P0:Int->Int->Int->Bool) (others:(Sl far)) (zp2:Int) (zaM:Bool) (zfv:Int) (zfw:Int) (zfW:Int) (zfX:Int):Bool :=
  (cond zaM
 (P0 (w64 (zp2+(1:Int))) zfW zfX)
 (P0 (w64 (zp2+(1:Int))) zfv zfw))
theorem zLA (hX0:zLz K others X0 P0 S0) (hs:zvs P0 others zp2 zaM zfv zfw zfW zfX=true) (hk:K (e62 (zvr S0 others zp2 zaM zfv zfw zfW zfX))):z62 K [1,0,1,0,0,1,1,0,0,1,1] [X0] ⟨[(0,zP (.fn 63 [] [])),(4,zp 4 0),(6,zp 6 0),(8,zp 8 0),(9,zS zeH 2 others),(10,zI (others.len:Int)),(11,zI zp2),(18,zB zaM)],[(4,.box 98 (zm (zeH (⟨zfv,zfw⟩:far)))),(6,.box 98 (zm (zeH (⟨(0:Int),(0:Int)⟩:far)))),(8,.box 98 (zm (zeH (⟨zfW,zfX⟩:far))))],[]⟩:=zaK (by kernel_rfl) (zc hs hk (λ hs hk=>(hX0 hs hk)) (λ hs hk=>(hX0 hs hk)))
def zkB (others:(Sl far)) (S0:Int->Int->Int->far) (zef:Int) (zb6:Int) (zb7:Int):far :=
  (cond (decide (zef < (others.len : Int)))
 (zvr S0 others zef (s63 (others.get zef.toNat) (⟨zb6,zb7⟩:far)) zb6 zb7 ((others.get zef.toNat).length) ((others.get zef.toNat).uses))
 (⟨zb6,zb7⟩:far))
def zkC (others:(Sl far)) (P0:Int->Int->Int->Bool) (zef:Int) (zb6:Int) (zb7:Int):Bool :=
  (cond (decide (zef < (others.len : Int)))
 (decide ((0<=zef/\zef < (others.len:Int))) &&
 (zvs P0 others zef (s63 (others.get zef.toNat) (⟨zb6,zb7⟩:far)) zb6 zb7 ((others.get zef.toNat).length) ((others.get zef.toNat).uses)))
 true)
def zkD (others:(Sl far)):Nat->Int->Int->Int->far:=lpO (λ _ _ _=>default) (zkB others)
def zkE (others:(Sl far)):Nat->Int->Int->Int->Bool:=lpO (λ _ _ _=>false) (zkC others)
def zvt (others:(Sl far)) (zef:Int) (zb6:Int) (zb7:Int):far:=zkD others Fuel zef zb6 zb7
def zvu (others:(Sl far)) (zef:Int) (zb6:Int) (zb7:Int):Bool:=zkE others Fuel zef zb6 zb7
theorem zLB (hs:zvu others zef zb6 zb7=true) (hk:K (e62 (zvt others zef zb6 zb7))):z62 K [1,0,1,0] [] (zIc others zef zb6 zb7) :=
  zl (λ X=>z62 K [1,0,1,0,0] [X]) (by kernel_rfl) λ X0 hX =>
  (show ∀ k, zLz K others X0 (zkE others k) (zkD others k) from zgc _ _ (zkC others) (zkB others) (zLz K others X0)
 (by intro _ _ _ hs;exact absurd hs dqk)
 (by intro P0 S0 hX0 zef zb6 zb7 hs hk;exact hX _ (zaK (by kernel_rfl) (zc hs hk (λ hs hk=>(zaX hs λ hc hs=>And.intro hc (zLA hX0 hs hk))) (λ hs hk=>hk))))) _ hs hk
def s62 (first:far) (others:(Sl far)):far :=
  (zvt others (0:Int) first.length first.uses)
def p62 (first:far) (others:(Sl far)):Bool :=
  (zvu others (0:Int) first.length first.uses)
end
theorem q62 (first:far) (others:(Sl far)) (K:List PA->Prop) (hs:p62 first others=true) (hk:K (e62 (s62 first others))):vcFun Tryd.prog G62 zLy 62 [.one (.fn 63 [] []),.agg (zeH first),.one (.sl others.len 2 (λ i=>zeH (others.get i)))] K :=
  zaK (by kernel_rfl) (zLB hs hk)
def zGk : List PA → COut
  | [.one (.fn 63 [] []),.agg [.int .i64 zeb,.int .i64 zgI],.one (.sl zsq zId zsr)]=>.det (IsE zeH 2 zId zsr/\p62 (⟨zeb,zgI⟩:far) (⟨zsq,zpC zsr⟩:(Sl far))=true) [.agg [.int .i64 ((s62 (⟨zeb,zgI⟩:far) (⟨zsq,zpC zsr⟩:(Sl far))).length),.int .i64 ((s62 (⟨zeb,zgI⟩:far) (⟨zsq,zpC zsr⟩:(Sl far))).uses)]]
  | _=>.no
theorem zQi:zaj Tryd.prog 62:=⟨_,rfl,rfl,by kernel_rfl⟩
theorem zU6:Ok Tryd.prog 62 zGk:=zbm zTS zQi λ args K h=>by
  unfold zGk at h
  split at h
  · rename_i zeb zgI zsq zId zsr
    obtain⟨⟨⟨rfl,zC5,rfl⟩,hs⟩,hk⟩:=h
    try rw[zm3 zC5] at hs
    try rw[zm3 zC5] at hk
    exact⟨(λ _ _=>[]),(λ _=>false),zLy,q62 (⟨zeb,zgI⟩:far) (⟨zsq,zC5⟩:(Sl far)) K hs hk⟩
  · exact h.elim
abbrev T34:Tabs:=(((Tabs.nil.addF 61 zCX).addF 62 zGk).addI 82 zQb)
theorem zTT:TabsOk Tryd.prog T34:=(((TabsOk.nil.addF zTK).addF zU6).addI zTO)
abbrev G34:Ctrs:=csm T34 (λ _ _=>[]) (λ _=>false)
def zC6:Ann:=⟨66,[(0,zK [0,1,4] [4]),(1,zK [0,1,4,5] [4,5]),(2,zK [0,1,4,5,10] [4,5]),(3,zK [0,1,4,5,10,11] [4,5]),(4,zK [0,1,4,5,6,10] [4,5]),(5,zK [0,1,4,5,10] [4,5]),(6,zK [0,1,4,5,10] [4,5]),(7,zK [0,4,5] [4,5]),(8,zK [0,4,5,7] [4,5,7]),(9,zK [0,4,5,7,20] [4,5,7]),(10,zK [0,4,5,7] [4,5,7]),(11,zK [0,4,5,7,22] [4,5,7]),(12,zK [0,4,5,7,8,22] [4,5,7,8]),(13,zK [0,4,5,7,8,22,29] [4,5,7,8]),(14,zK [0,4,5,7,8,9,22] [4,5,7,8,9]),(15,zK [0,4,5,7,8,9,22] [4,5,7,8,9]),(16,zK [0,4,5,7,22] [4,5,7]),(17,zK [0,4,5,64] [4,5]),(18,zK [0,4,5,7] [4,5,7]),(19,zK [4] [4])],
 [(3,zK [0,1,4,5,10] [4,5]),(9,zK [0,4,5,7] [4,5,7]),(12,zK [0,4,5,7,22] [4,5,7])],
 [(7,zK [0,1,4,5] [4,5])],
 [],[]⟩
abbrev R34:=Tab
abbrev e34 (r:R34):List PA:=[.agg (zcM r)]
@[irreducible] def z34:=ptF Tryd.prog G34 zC6 Tryd.f34
@[irreducible] def x34:=exF Tryd.prog G34 zC6 Tryd.f34
@[irreducible] def y34:=rnF Tryd.prog G34 zC6 Tryd.f34
def zIe (w:web) (node:Int) (zcC:Int) (t4t0:Tab) (dt0:Tab):St:=⟨[(0,zP (.fp (zb5 w) 0)),(1,zI node),(4,zp 4 0),(5,zp 5 0),(10,zI zcC)],[(4,.box 100 (zm (zcM t4t0))),(5,.box 100 (zm (zcM dt0)))],[]⟩
abbrev zQj (K:List PA->Prop) (w:web) (node:Int) (X:St->Prop) (P:Int->Tab->Tab->Bool) (S:Int->Tab->Tab->Tab):Prop:=∀ ⦃zcC:Int⦄ ⦃t4t0:Tab⦄ ⦃dt0:Tab⦄,P zcC t4t0 dt0=true->K (e34 (S zcC t4t0 dt0))->X (zIe w node zcC t4t0 dt0)
def zIf (w:web) (zba:Bool) (t4t2:Tab) (dt2:Tab):St:=⟨[(0,zP (.fp (zb5 w) 0)),(4,zp 4 0),(5,zp 5 0),(7,zp 7 0)],[(4,.box 100 (zm (zcM t4t2))),(5,.box 100 (zm (zcM dt2))),(7,.box 4 [.p (.bool zba)])],[]⟩
abbrev zLC (K:List PA->Prop) (w:web) (X:St->Prop) (P:Bool->Tab->Tab->Bool) (S:Bool->Tab->Tab->Tab):Prop:=∀ ⦃zba:Bool⦄ ⦃t4t2:Tab⦄ ⦃dt2:Tab⦄,P zba t4t2 dt2=true->K (e34 (S zba t4t2 dt2))->X (zIf w zba t4t2 dt2)
def zC7 (w:web) (zaD:Bool) (t4t3:Tab) (dt3:Tab):St:=⟨[(0,zP (.fp (zb5 w) 0)),(4,zp 4 0),(5,zp 5 0),(7,zp 7 0),(22,zP (.fn 82 [] [.fp [.fp (zb5 w) 0] 0]))],[(4,.box 100 (zm (zcM t4t3))),(5,.box 100 (zm (zcM dt3))),(7,.box 4 [.p (.bool zaD)])],[]⟩
abbrev zQk (K:List PA->Prop) (w:web) (X:St->Prop) (P:Bool->Tab->Tab->Bool) (S:Bool->Tab->Tab->Tab):Prop:=∀ ⦃zaD:Bool⦄ ⦃t4t3:Tab⦄ ⦃dt3:Tab⦄,P zaD t4t3 dt3=true->K (e34 (S zaD t4t3 dt3))->X (zC7 w zaD t4t3 dt3)
section
variable {K:List PA->Prop}{w:web}{node:Int}{zcC:Int}{t4t0:Tab}{dt0:Tab}{X0:St->Prop}{P0:Int->Tab->Tab->Bool}{S0:Int->Tab->Tab->Tab}{t4t1:Tab}{dt1:Tab}{zba:Bool}{t4t2:Tab}{dt2:Tab}{X2:St->Prop}{P2:Bool->Tab->Tab->Bool}{S2:Bool->Tab->Tab->Tab}{zaD:Bool}{t4t3:Tab}{dt3:Tab}
def zLD (S2:Bool->Tab->Tab->Tab) (w:web) (zaD:Bool) (t4t3:Tab) (dt3:Tab):Tab :=
  (S2 zaD t4t3 dt3)
def zLE (P2:Bool->Tab->Tab->Bool) (w:web) (zaD:Bool) (t4t3:Tab) (dt3:Tab):Bool :=
  (P2 zaD t4t3 dt3)
def zp3 (S2:Bool->Tab->Tab->Tab) (w:web) (y3:step) (S3:Bool->Tab->Tab->Tab) (zaD:Bool) (t4t3:Tab) (dt3:Tab):Tab :=
  (cond (nvr (tL dt3 y3.to) (tU dt3 y3.to))
 (S3 zaD t4t3 dt3)
 (cond zaD
 (S3 true t4t3 (ts 80 dt3 (0+y3.from_.toNat * 2+0) [(s62 (⟨(tL dt3 y3.from_),(tU dt3 y3.from_)⟩:far) (⟨1,λ _=>(⟨(w64 ((tL dt3 y3.to)+y3.length)),(w64 ((tV dt3 y3.to)+(1:Int)))⟩:far)⟩:(Sl far))).length,(s62 (⟨(tL dt3 y3.from_),(tU dt3 y3.from_)⟩:far) (⟨1,λ _=>(⟨(w64 ((tL dt3 y3.to)+y3.length)),(w64 ((tV dt3 y3.to)+(1:Int)))⟩:far)⟩:(Sl far))).uses]))
 (S3 (!(match ((s62 (⟨(tL dt3 y3.from_),(tU dt3 y3.from_)⟩:far) (⟨1,λ _=>(⟨(w64 ((tL dt3 y3.to)+y3.length)),(w64 ((tV dt3 y3.to)+(1:Int)))⟩:far)⟩:(Sl far))).length == (tL dt3 y3.from_)) with | true=>(match ((s62 (⟨(tL dt3 y3.from_),(tU dt3 y3.from_)⟩:far) (⟨1,λ _=>(⟨(w64 ((tL dt3 y3.to)+y3.length)),(w64 ((tV dt3 y3.to)+(1:Int)))⟩:far)⟩:(Sl far))).uses == (tU dt3 y3.from_)) with | true=>true | false=>false) | false=>false)) t4t3 (ts 80 dt3 (0+y3.from_.toNat * 2+0) [(s62 (⟨(tL dt3 y3.from_),(tU dt3 y3.from_)⟩:far) (⟨1,λ _=>(⟨(w64 ((tL dt3 y3.to)+y3.length)),(w64 ((tV dt3 y3.to)+(1:Int)))⟩:far)⟩:(Sl far))).length,(s62 (⟨(tL dt3 y3.from_),(tU dt3 y3.from_)⟩:far) (⟨1,λ _=>(⟨(w64 ((tL dt3 y3.to)+y3.length)),(w64 ((tV dt3 y3.to)+(1:Int)))⟩:far)⟩:(Sl far))).uses]))))
def zp4 (P2:Bool->Tab->Tab->Bool) (w:web) (y3:step) (P3:Bool->Tab->Tab->Bool) (zaD:Bool) (t4t3:Tab) (dt3:Tab):Bool :=
  (decide ((0<=y3.to/\y3.to < (40:Int))) &&
 (cond (nvr (tL dt3 y3.to) (tU dt3 y3.to))
 (P3 zaD t4t3 dt3)
 (decide ((0<=y3.from_/\y3.from_ < (40:Int))) &&
 (decide ((0<=y3.to/\y3.to < (40:Int))) &&
 (decide ((0<=y3.to/\y3.to < (40:Int))) &&
 (decide ((p62 (⟨(tL dt3 y3.from_),(tU dt3 y3.from_)⟩:far) (⟨1,λ _=>(⟨(w64 ((tL dt3 y3.to)+y3.length)),(w64 ((tV dt3 y3.to)+(1:Int)))⟩:far)⟩:(Sl far))=true)) &&
 (cond zaD
 (decide ((0<=y3.from_/\y3.from_ < (40:Int))) &&
 (P3 true t4t3 (ts 80 dt3 (0+y3.from_.toNat * 2+0) [(s62 (⟨(tL dt3 y3.from_),(tU dt3 y3.from_)⟩:far) (⟨1,λ _=>(⟨(w64 ((tL dt3 y3.to)+y3.length)),(w64 ((tV dt3 y3.to)+(1:Int)))⟩:far)⟩:(Sl far))).length,(s62 (⟨(tL dt3 y3.from_),(tU dt3 y3.from_)⟩:far) (⟨1,λ _=>(⟨(w64 ((tL dt3 y3.to)+y3.length)),(w64 ((tV dt3 y3.to)+(1:Int)))⟩:far)⟩:(Sl far))).uses])))
 (decide ((0<=y3.from_/\y3.from_ < (40:Int))) &&
 (decide ((0<=y3.from_/\y3.from_ < (40:Int))) &&
 (P3 (!(match ((s62 (⟨(tL dt3 y3.from_),(tU dt3 y3.from_)⟩:far) (⟨1,λ _=>(⟨(w64 ((tL dt3 y3.to)+y3.length)),(w64 ((tV dt3 y3.to)+(1:Int)))⟩:far)⟩:(Sl far))).length == (tL dt3 y3.from_)) with | true=>(match ((s62 (⟨(tL dt3 y3.from_),(tU dt3 y3.from_)⟩:far) (⟨1,λ _=>(⟨(w64 ((tL dt3 y3.to)+y3.length)),(w64 ((tV dt3 y3.to)+(1:Int)))⟩:far)⟩:(Sl far))).uses == (tU dt3 y3.from_)) with | true=>true | false=>false) | false=>false)) t4t3 (ts 80 dt3 (0+y3.from_.toNat * 2+0) [(s62 (⟨(tL dt3 y3.from_),(tU dt3 y3.from_)⟩:far) (⟨1,λ _=>(⟨(w64 ((tL dt3 y3.to)+y3.length)),(w64 ((tV dt3 y3.to)+(1:Int)))⟩:far)⟩:(Sl far))).length,(s62 (⟨(tL dt3 y3.from_),(tU dt3 y3.from_)⟩:far) (⟨1,λ _=>(⟨(w64 ((tL dt3 y3.to)+y3.length)),(w64 ((tV dt3 y3.to)+(1:Int)))⟩:far)⟩:(Sl far))).uses])))))))))))
def zp5 (S2:Bool->Tab->Tab->Tab) (w:web):List step->Bool->Tab->Tab->Tab:=lpR (zLD S2 w) (zp3 S2 w)
def zp6 (P2:Bool->Tab->Tab->Bool) (w:web):List step->Bool->Tab->Tab->Bool:=lpR (zLE P2 w) (zp4 P2 w)
def zvv (S2:Bool->Tab->Tab->Tab) (w:web) (zaD:Bool) (t4t3:Tab) (dt3:Tab):Tab:=zp5 S2 w (s82 w) zaD t4t3 dt3
def zvw (P2:Bool->Tab->Tab->Bool) (w:web) (zaD:Bool) (t4t3:Tab) (dt3:Tab):Bool:=decide ((p82 w=true)) && zp6 P2 w (s82 w) zaD t4t3 dt3
theorem zLF (hX2:zLC K w X2 P2 S2) (hs:zvw P2 w zaD t4t3 dt3=true) (hk:K (e34 (zvv S2 w zaD t4t3 dt3))):z34 K [1,1,1,1,0,1,0,0,1,0,0,1,1,0] [X2] (zC7 w zaD t4t3 dt3) :=
  zaX hs λ hc hs=>zr (enc:=(λ y:step=>[.agg (zd1 y)])) (ys:=s82 w) (g:=(zC7 w zaD t4t3 dt3)) (x34 K [1,1,1,1,0,1,0,0,1,0,0,1,1,0] [X2]) (y34 K [1,1,1,1,0,1,0,0,1,0,0,1,1,0] [X2]) (by kernel_rfl) (And.intro (zE zbr 4 w.Net.Ties.get) (And.intro (rfl:((false,1,false,[none]):MQ)=(false,1,false,[none])) hc)) λ X3 hE hR =>
  (show ∀ l : List step, zQk K w (X3 (l.map (λ y : step => [.agg (zd1 y)]))) (zp6 P2 w l) (zp5 S2 w l) from zri (X := X3) (enc := (λ y : step => [.agg (zd1 y)])) _ _ (zp4 P2 w) (zp3 S2 w) (λ Z P S => zQk K w Z P S)
 (by intro zaD t4t3 dt3 hs hk;exact hE _ (zaK (by kernel_rfl) (hX2 hs hk)))
 (by intro y3 rest P3 S3 hX3 zaD t4t3 dt3 hs hk;exact hR _ rest _ (zaK (by kernel_rfl) (zaX hs λ hc hs=>And.intro hc (zc hs hk (λ hs hk=>(hX3 hs hk)) (λ hs hk=>(zaX hs λ hc hs=>And.intro hc (zaX hs λ hc hs=>And.intro hc (zaX hs λ hc hs=>And.intro hc (zaX hs λ hc hs=>And.intro (And.intro (zFL:IsE zeH 2 2 (λ _=>(zeH (⟨(w64 ((tL dt3 y3.to)+y3.length)),(w64 ((tV dt3 y3.to)+(1:Int)))⟩:far)))) hc) (zc hs hk (λ hs hk=>(zaX hs λ hc hs=>And.intro hc (hX3 hs hk))) (λ hs hk=>(zaX hs λ hc hs=>And.intro hc (zaX hs λ hc hs=>And.intro hc (hX3 hs hk))))))))))))))) _ hs hk
def zp7 (w:web) (S2:Bool->Tab->Tab->Tab) (zba:Bool) (t4t2:Tab) (dt2:Tab):Tab :=
  (cond zba
 (zvv S2 w false t4t2 dt2)
 dt2)
def zp8 (w:web) (P2:Bool->Tab->Tab->Bool) (zba:Bool) (t4t2:Tab) (dt2:Tab):Bool :=
  (cond zba
 (zvw P2 w false t4t2 dt2)
 true)
def zhl (w:web):Nat->Bool->Tab->Tab->Tab:=lpO (λ _ _ _=>default) (zp7 w)
def zhm (w:web):Nat->Bool->Tab->Tab->Bool:=lpO (λ _ _ _=>false) (zp8 w)
def zvx (w:web) (zba:Bool) (t4t2:Tab) (dt2:Tab):Tab:=zhl w Fuel zba t4t2 dt2
def zvy (w:web) (zba:Bool) (t4t2:Tab) (dt2:Tab):Bool:=zhm w Fuel zba t4t2 dt2
theorem zLG (hs:zvy w zba t4t2 dt2=true) (hk:K (e34 (zvx w zba t4t2 dt2))):z34 K [1,1,1,1,0,1,0] [] (zIf w zba t4t2 dt2) :=
  zl (λ X=>z34 K [1,1,1,1,0,1,0,0] [X]) (by kernel_rfl) λ X2 hX =>
  (show ∀ k, zLC K w X2 (zhm w k) (zhl w k) from zgc _ _ (zp8 w) (zp7 w) (zLC K w X2)
 (by intro _ _ _ hs;exact absurd hs dqk)
 (by intro P2 S2 hX2 zba t4t2 dt2 hs hk;exact hX _ (zaK (by kernel_rfl) (zc hs hk (λ hs hk=>(And.intro (And.intro (zE zbr 4 w.Net.Ties.get) (rfl:((false,1,false,[none]):MQ)=(false,1,false,[none]))) (zLF hX2 hs hk))) (λ hs hk=>hk))))) _ hs hk
def zp9 (w:web) (node:Int) (t4t1:Tab) (dt1:Tab):Tab :=
  (zvx w true t4t1 (ts 80 dt1 (0+node.toNat * 2+0) [(0:Int),(0:Int)]))
def zqa (w:web) (node:Int) (t4t1:Tab) (dt1:Tab):Bool :=
  (decide ((0<=node/\node < (40:Int))) &&
 (zvy w true t4t1 (ts 80 dt1 (0+node.toNat * 2+0) [(0:Int),(0:Int)])))
theorem zLH (hs:zqa w node t4t1 dt1=true) (hk:K (e34 (zp9 w node t4t1 dt1))):z34 K [1,1,1] [] ⟨[(0,zP (.fp (zb5 w) 0)),(1,zI node),(4,zp 4 0),(5,zp 5 0)],[(4,.box 100 (zm (zcM t4t1))),(5,.box 100 (zm (zcM dt1)))],[]⟩:=zaK (by kernel_rfl) (zaX hs λ hc hs=>And.intro hc (zLG hs hk))
def zkF (w:web) (node:Int) (S0:Int->Tab->Tab->Tab) (zcC:Int) (t4t0:Tab) (dt0:Tab):Tab :=
  (cond (decide (zcC < (40:Int)))
 (S0 (w64 (zcC+(1:Int))) t4t0 (ts 80 dt0 (0+zcC.toNat * 2+0) [(1000000000000:Int),(0:Int)]))
 (zp9 w node t4t0 dt0))
def zkG (w:web) (node:Int) (P0:Int->Tab->Tab->Bool) (zcC:Int) (t4t0:Tab) (dt0:Tab):Bool :=
  (cond (decide (zcC < (40:Int)))
 (decide ((0<=zcC/\zcC < (40:Int))) &&
 (P0 (w64 (zcC+(1:Int))) t4t0 (ts 80 dt0 (0+zcC.toNat * 2+0) [(1000000000000:Int),(0:Int)])))
 (zqa w node t4t0 dt0))
def zkH (w:web) (node:Int):Nat->Int->Tab->Tab->Tab:=lpO (λ _ _ _=>default) (zkF w node)
def zkI (w:web) (node:Int):Nat->Int->Tab->Tab->Bool:=lpO (λ _ _ _=>false) (zkG w node)
def zC8 (w:web) (node:Int) (zcC:Int) (t4t0:Tab) (dt0:Tab):Tab:=zkH w node Fuel zcC t4t0 dt0
def zC9 (w:web) (node:Int) (zcC:Int) (t4t0:Tab) (dt0:Tab):Bool:=zkI w node Fuel zcC t4t0 dt0
theorem zLI (hs:zC9 w node zcC t4t0 dt0=true) (hk:K (e34 (zC8 w node zcC t4t0 dt0))):z34 K [1,1,0,1,0] [] (zIe w node zcC t4t0 dt0) :=
  zl (λ X=>z34 K [1,1,0,1,0,0] [X]) (by kernel_rfl) λ X0 hX =>
  (show ∀ k, zQj K w node X0 (zkI w node k) (zkH w node k) from zgc _ _ (zkG w node) (zkF w node) (zQj K w node X0)
 (by intro _ _ _ hs;exact absurd hs dqk)
 (by intro P0 S0 hX0 zcC t4t0 dt0 hs hk;exact hX _ (zaK (by kernel_rfl) (zc hs hk (λ hs hk=>(zaX hs λ hc hs=>And.intro hc (hX0 hs hk))) (λ hs hk=>(zLH hs hk)))))) _ hs hk
def s34 (w:web) (node:Int):Tab :=
  (zC8 w node (0:Int) (λ _=>(0:Int)) (λ _=>(0:Int)))
def p34 (w:web) (node:Int):Bool :=
  (zC9 w node (0:Int) (λ _=>(0:Int)) (λ _=>(0:Int)))
end
theorem q34 (w:web) (node:Int) (K:List PA->Prop) (hs:p34 w node=true) (hk:K (e34 (s34 w node))):vcFun Tryd.prog G34 zC6 34 [.one (.fp (zb5 w) 0),.one (.int .i64 node)] K :=
  zaK (by kernel_rfl) (zLI hs hk)
def zLJ : List PA → COut
  | [.one (.fp [.int .i64 zbx,.sl zbk zcg zbl,.fm zea zcA zcB] 0),.one (.int .i64 a1)]=>.det (IsE zbr 4 zcg zbl/\zea=(false,1,false,[none])/\p34 (⟨(⟨zbx,(⟨zbk,zbR zbl⟩:(Sl Tie))⟩:Net),(⟨zcA,zcB⟩:Mp)⟩:web) a1=true) [.agg (zcM ((s34 (⟨(⟨zbx,(⟨zbk,zbR zbl⟩:(Sl Tie))⟩:Net),(⟨zcA,zcB⟩:Mp)⟩:web) a1)))]
  | _=>.no
theorem zQl:zaj Tryd.prog 34:=⟨_,rfl,rfl,by kernel_rfl⟩
theorem zWT:Ok Tryd.prog 34 zLJ:=zbm zTT zQl λ args K h=>by
  unfold zLJ at h
  split at h
  · rename_i zbx zbk zcg zbl zea zcA zcB a1
    obtain⟨⟨⟨rfl,zbO,rfl⟩,rfl,hs⟩,hk⟩:=h
    try rw[zbp zbO] at hs
    try rw[zbp zbO] at hk
    exact⟨(λ _ _=>[]),(λ _=>false),zC6,q34 (⟨(⟨zbx,(⟨zbk,zbO⟩:(Sl Tie))⟩:Net),(⟨zcA,zcB⟩:Mp)⟩:web) a1 K hs hk⟩
  · exact h.elim
abbrev T35:Tabs:=(((Tabs.nil.addF 61 zCX).addF 62 zGk).addI 82 zQb)
theorem zTU:TabsOk Tryd.prog T35:=(((TabsOk.nil.addF zTK).addF zU6).addI zTO)
abbrev G35:Ctrs:=csm T35 (λ _ _=>[]) (λ _=>false)
def zDa:Ann:=⟨66,[(0,zK [0,1,4] [4]),(1,zK [0,1,4,5] [4,5]),(2,zK [0,1,4,5,10] [4,5]),(3,zK [0,1,4,5,10,11] [4,5]),(4,zK [0,1,4,5,6,10] [4,5]),(5,zK [0,1,4,5,10] [4,5]),(6,zK [0,1,4,5,10] [4,5]),(7,zK [0,4,5] [4,5]),(8,zK [0,4,5,7] [4,5,7]),(9,zK [0,4,5,7,20] [4,5,7]),(10,zK [0,4,5,7] [4,5,7]),(11,zK [0,4,5,7,22] [4,5,7]),(12,zK [0,4,5,7,8,22] [4,5,7,8]),(13,zK [0,4,5,7,8,22,29] [4,5,7,8]),(14,zK [0,4,5,7,8,9,22] [4,5,7,8,9]),(15,zK [0,4,5,7,8,9,22] [4,5,7,8,9]),(16,zK [0,4,5,7,22] [4,5,7]),(17,zK [0,4,5,64] [4,5]),(18,zK [0,4,5,7] [4,5,7]),(19,zK [4] [4])],
 [(3,zK [0,1,4,5,10] [4,5]),(9,zK [0,4,5,7] [4,5,7]),(12,zK [0,4,5,7,22] [4,5,7])],
 [(7,zK [0,1,4,5] [4,5])],
 [],[]⟩
abbrev R35:=Tab
abbrev e35 (r:R35):List PA:=[.agg (zcM r)]
@[irreducible] def z35:=ptF Tryd.prog G35 zDa Tryd.f35
@[irreducible] def x35:=exF Tryd.prog G35 zDa Tryd.f35
@[irreducible] def y35:=rnF Tryd.prog G35 zDa Tryd.f35
def zIg (w:web) (node:Int) (zcC:Int) (t4t0:Tab) (dt0:Tab):St:=⟨[(0,zP (.fp (zb5 w) 0)),(1,zI node),(4,zp 4 0),(5,zp 5 0),(10,zI zcC)],[(4,.box 100 (zm (zcM t4t0))),(5,.box 100 (zm (zcM dt0)))],[]⟩
abbrev zQm (K:List PA->Prop) (w:web) (node:Int) (X:St->Prop) (P:Int->Tab->Tab->Bool) (S:Int->Tab->Tab->Tab):Prop:=∀ ⦃zcC:Int⦄ ⦃t4t0:Tab⦄ ⦃dt0:Tab⦄,P zcC t4t0 dt0=true->K (e35 (S zcC t4t0 dt0))->X (zIg w node zcC t4t0 dt0)
def zIh (w:web) (zba:Bool) (t4t2:Tab) (dt2:Tab):St:=⟨[(0,zP (.fp (zb5 w) 0)),(4,zp 4 0),(5,zp 5 0),(7,zp 7 0)],[(4,.box 100 (zm (zcM t4t2))),(5,.box 100 (zm (zcM dt2))),(7,.box 4 [.p (.bool zba)])],[]⟩
abbrev zLK (K:List PA->Prop) (w:web) (X:St->Prop) (P:Bool->Tab->Tab->Bool) (S:Bool->Tab->Tab->Tab):Prop:=∀ ⦃zba:Bool⦄ ⦃t4t2:Tab⦄ ⦃dt2:Tab⦄,P zba t4t2 dt2=true->K (e35 (S zba t4t2 dt2))->X (zIh w zba t4t2 dt2)
def zDb (w:web) (zaD:Bool) (t4t3:Tab) (dt3:Tab):St:=⟨[(0,zP (.fp (zb5 w) 0)),(4,zp 4 0),(5,zp 5 0),(7,zp 7 0),(22,zP (.fn 82 [] [.fp [.fp (zb5 w) 0] 0]))],[(4,.box 100 (zm (zcM t4t3))),(5,.box 100 (zm (zcM dt3))),(7,.box 4 [.p (.bool zaD)])],[]⟩
abbrev zQn (K:List PA->Prop) (w:web) (X:St->Prop) (P:Bool->Tab->Tab->Bool) (S:Bool->Tab->Tab->Tab):Prop:=∀ ⦃zaD:Bool⦄ ⦃t4t3:Tab⦄ ⦃dt3:Tab⦄,P zaD t4t3 dt3=true->K (e35 (S zaD t4t3 dt3))->X (zDb w zaD t4t3 dt3)
section
variable {K:List PA->Prop}{w:web}{node:Int}{zcC:Int}{t4t0:Tab}{dt0:Tab}{X0:St->Prop}{P0:Int->Tab->Tab->Bool}{S0:Int->Tab->Tab->Tab}{t4t1:Tab}{dt1:Tab}{zba:Bool}{t4t2:Tab}{dt2:Tab}{X2:St->Prop}{P2:Bool->Tab->Tab->Bool}{S2:Bool->Tab->Tab->Tab}{zaD:Bool}{t4t3:Tab}{dt3:Tab}
def zLL (S2:Bool->Tab->Tab->Tab) (w:web) (zaD:Bool) (t4t3:Tab) (dt3:Tab):Tab :=
  (S2 zaD t4t3 dt3)
def zLM (P2:Bool->Tab->Tab->Bool) (w:web) (zaD:Bool) (t4t3:Tab) (dt3:Tab):Bool :=
  (P2 zaD t4t3 dt3)
def zqb (S2:Bool->Tab->Tab->Tab) (w:web) (y3:step) (S3:Bool->Tab->Tab->Tab) (zaD:Bool) (t4t3:Tab) (dt3:Tab):Tab :=
  (cond (nvr (tL dt3 y3.from_) (tU dt3 y3.from_))
 (S3 zaD t4t3 dt3)
 (cond zaD
 (S3 true t4t3 (ts 80 dt3 (0+y3.to.toNat * 2+0) [(s62 (⟨(tL dt3 y3.to),(tU dt3 y3.to)⟩:far) (⟨1,λ _=>(⟨(w64 ((tL dt3 y3.from_)+y3.length)),(w64 ((tV dt3 y3.from_)+(1:Int)))⟩:far)⟩:(Sl far))).length,(s62 (⟨(tL dt3 y3.to),(tU dt3 y3.to)⟩:far) (⟨1,λ _=>(⟨(w64 ((tL dt3 y3.from_)+y3.length)),(w64 ((tV dt3 y3.from_)+(1:Int)))⟩:far)⟩:(Sl far))).uses]))
 (S3 (!(match ((s62 (⟨(tL dt3 y3.to),(tU dt3 y3.to)⟩:far) (⟨1,λ _=>(⟨(w64 ((tL dt3 y3.from_)+y3.length)),(w64 ((tV dt3 y3.from_)+(1:Int)))⟩:far)⟩:(Sl far))).length == (tL dt3 y3.to)) with | true=>(match ((s62 (⟨(tL dt3 y3.to),(tU dt3 y3.to)⟩:far) (⟨1,λ _=>(⟨(w64 ((tL dt3 y3.from_)+y3.length)),(w64 ((tV dt3 y3.from_)+(1:Int)))⟩:far)⟩:(Sl far))).uses == (tU dt3 y3.to)) with | true=>true | false=>false) | false=>false)) t4t3 (ts 80 dt3 (0+y3.to.toNat * 2+0) [(s62 (⟨(tL dt3 y3.to),(tU dt3 y3.to)⟩:far) (⟨1,λ _=>(⟨(w64 ((tL dt3 y3.from_)+y3.length)),(w64 ((tV dt3 y3.from_)+(1:Int)))⟩:far)⟩:(Sl far))).length,(s62 (⟨(tL dt3 y3.to),(tU dt3 y3.to)⟩:far) (⟨1,λ _=>(⟨(w64 ((tL dt3 y3.from_)+y3.length)),(w64 ((tV dt3 y3.from_)+(1:Int)))⟩:far)⟩:(Sl far))).uses]))))
def zqc (P2:Bool->Tab->Tab->Bool) (w:web) (y3:step) (P3:Bool->Tab->Tab->Bool) (zaD:Bool) (t4t3:Tab) (dt3:Tab):Bool :=
  (decide ((0<=y3.from_/\y3.from_ < (40:Int))) &&
 (cond (nvr (tL dt3 y3.from_) (tU dt3 y3.from_))
 (P3 zaD t4t3 dt3)
 (decide ((0<=y3.to/\y3.to < (40:Int))) &&
 (decide ((0<=y3.from_/\y3.from_ < (40:Int))) &&
 (decide ((0<=y3.from_/\y3.from_ < (40:Int))) &&
 (decide ((p62 (⟨(tL dt3 y3.to),(tU dt3 y3.to)⟩:far) (⟨1,λ _=>(⟨(w64 ((tL dt3 y3.from_)+y3.length)),(w64 ((tV dt3 y3.from_)+(1:Int)))⟩:far)⟩:(Sl far))=true)) &&
 (cond zaD
 (decide ((0<=y3.to/\y3.to < (40:Int))) &&
 (P3 true t4t3 (ts 80 dt3 (0+y3.to.toNat * 2+0) [(s62 (⟨(tL dt3 y3.to),(tU dt3 y3.to)⟩:far) (⟨1,λ _=>(⟨(w64 ((tL dt3 y3.from_)+y3.length)),(w64 ((tV dt3 y3.from_)+(1:Int)))⟩:far)⟩:(Sl far))).length,(s62 (⟨(tL dt3 y3.to),(tU dt3 y3.to)⟩:far) (⟨1,λ _=>(⟨(w64 ((tL dt3 y3.from_)+y3.length)),(w64 ((tV dt3 y3.from_)+(1:Int)))⟩:far)⟩:(Sl far))).uses])))
 (decide ((0<=y3.to/\y3.to < (40:Int))) &&
 (decide ((0<=y3.to/\y3.to < (40:Int))) &&
 (P3 (!(match ((s62 (⟨(tL dt3 y3.to),(tU dt3 y3.to)⟩:far) (⟨1,λ _=>(⟨(w64 ((tL dt3 y3.from_)+y3.length)),(w64 ((tV dt3 y3.from_)+(1:Int)))⟩:far)⟩:(Sl far))).length == (tL dt3 y3.to)) with | true=>(match ((s62 (⟨(tL dt3 y3.to),(tU dt3 y3.to)⟩:far) (⟨1,λ _=>(⟨(w64 ((tL dt3 y3.from_)+y3.length)),(w64 ((tV dt3 y3.from_)+(1:Int)))⟩:far)⟩:(Sl far))).uses == (tU dt3 y3.to)) with | true=>true | false=>false) | false=>false)) t4t3 (ts 80 dt3 (0+y3.to.toNat * 2+0) [(s62 (⟨(tL dt3 y3.to),(tU dt3 y3.to)⟩:far) (⟨1,λ _=>(⟨(w64 ((tL dt3 y3.from_)+y3.length)),(w64 ((tV dt3 y3.from_)+(1:Int)))⟩:far)⟩:(Sl far))).length,(s62 (⟨(tL dt3 y3.to),(tU dt3 y3.to)⟩:far) (⟨1,λ _=>(⟨(w64 ((tL dt3 y3.from_)+y3.length)),(w64 ((tV dt3 y3.from_)+(1:Int)))⟩:far)⟩:(Sl far))).uses])))))))))))
def zqd (S2:Bool->Tab->Tab->Tab) (w:web):List step->Bool->Tab->Tab->Tab:=lpR (zLL S2 w) (zqb S2 w)
def zqe (P2:Bool->Tab->Tab->Bool) (w:web):List step->Bool->Tab->Tab->Bool:=lpR (zLM P2 w) (zqc P2 w)
def zvz (S2:Bool->Tab->Tab->Tab) (w:web) (zaD:Bool) (t4t3:Tab) (dt3:Tab):Tab:=zqd S2 w (s82 w) zaD t4t3 dt3
def zvA (P2:Bool->Tab->Tab->Bool) (w:web) (zaD:Bool) (t4t3:Tab) (dt3:Tab):Bool:=decide ((p82 w=true)) && zqe P2 w (s82 w) zaD t4t3 dt3
theorem zLN (hX2:zLK K w X2 P2 S2) (hs:zvA P2 w zaD t4t3 dt3=true) (hk:K (e35 (zvz S2 w zaD t4t3 dt3))):z35 K [1,1,1,1,0,1,0,0,1,0,0,1,1,0] [X2] (zDb w zaD t4t3 dt3) :=
  zaX hs λ hc hs=>zr (enc:=(λ y:step=>[.agg (zd1 y)])) (ys:=s82 w) (g:=(zDb w zaD t4t3 dt3)) (x35 K [1,1,1,1,0,1,0,0,1,0,0,1,1,0] [X2]) (y35 K [1,1,1,1,0,1,0,0,1,0,0,1,1,0] [X2]) (by kernel_rfl) (And.intro (zE zbr 4 w.Net.Ties.get) (And.intro (rfl:((false,1,false,[none]):MQ)=(false,1,false,[none])) hc)) λ X3 hE hR =>
  (show ∀ l : List step, zQn K w (X3 (l.map (λ y : step => [.agg (zd1 y)]))) (zqe P2 w l) (zqd S2 w l) from zri (X := X3) (enc := (λ y : step => [.agg (zd1 y)])) _ _ (zqc P2 w) (zqb S2 w) (λ Z P S => zQn K w Z P S)
 (by intro zaD t4t3 dt3 hs hk;exact hE _ (zaK (by kernel_rfl) (hX2 hs hk)))
 (by intro y3 rest P3 S3 hX3 zaD t4t3 dt3 hs hk;exact hR _ rest _ (zaK (by kernel_rfl) (zaX hs λ hc hs=>And.intro hc (zc hs hk (λ hs hk=>(hX3 hs hk)) (λ hs hk=>(zaX hs λ hc hs=>And.intro hc (zaX hs λ hc hs=>And.intro hc (zaX hs λ hc hs=>And.intro hc (zaX hs λ hc hs=>And.intro (And.intro (zFL:IsE zeH 2 2 (λ _=>(zeH (⟨(w64 ((tL dt3 y3.from_)+y3.length)),(w64 ((tV dt3 y3.from_)+(1:Int)))⟩:far)))) hc) (zc hs hk (λ hs hk=>(zaX hs λ hc hs=>And.intro hc (hX3 hs hk))) (λ hs hk=>(zaX hs λ hc hs=>And.intro hc (zaX hs λ hc hs=>And.intro hc (hX3 hs hk))))))))))))))) _ hs hk
def zqf (w:web) (S2:Bool->Tab->Tab->Tab) (zba:Bool) (t4t2:Tab) (dt2:Tab):Tab :=
  (cond zba
 (zvz S2 w false t4t2 dt2)
 dt2)
def zqg (w:web) (P2:Bool->Tab->Tab->Bool) (zba:Bool) (t4t2:Tab) (dt2:Tab):Bool :=
  (cond zba
 (zvA P2 w false t4t2 dt2)
 true)
def zhn (w:web):Nat->Bool->Tab->Tab->Tab:=lpO (λ _ _ _=>default) (zqf w)
def zho (w:web):Nat->Bool->Tab->Tab->Bool:=lpO (λ _ _ _=>false) (zqg w)
def zvB (w:web) (zba:Bool) (t4t2:Tab) (dt2:Tab):Tab:=zhn w Fuel zba t4t2 dt2
def zvC (w:web) (zba:Bool) (t4t2:Tab) (dt2:Tab):Bool:=zho w Fuel zba t4t2 dt2
theorem zLO (hs:zvC w zba t4t2 dt2=true) (hk:K (e35 (zvB w zba t4t2 dt2))):z35 K [1,1,1,1,0,1,0] [] (zIh w zba t4t2 dt2) :=
  zl (λ X=>z35 K [1,1,1,1,0,1,0,0] [X]) (by kernel_rfl) λ X2 hX =>
  (show ∀ k, zLK K w X2 (zho w k) (zhn w k) from zgc _ _ (zqg w) (zqf w) (zLK K w X2)
 (by intro _ _ _ hs;exact absurd hs dqk)
 (by intro P2 S2 hX2 zba t4t2 dt2 hs hk;exact hX _ (zaK (by kernel_rfl) (zc hs hk (λ hs hk=>(And.intro (And.intro (zE zbr 4 w.Net.Ties.get) (rfl:((false,1,false,[none]):MQ)=(false,1,false,[none]))) (zLN hX2 hs hk))) (λ hs hk=>hk))))) _ hs hk
def zqh (w:web) (node:Int) (t4t1:Tab) (dt1:Tab):Tab :=
  (zvB w true t4t1 (ts 80 dt1 (0+node.toNat * 2+0) [(0:Int),(0:Int)]))
def zqi (w:web) (node:Int) (t4t1:Tab) (dt1:Tab):Bool :=
  (decide ((0<=node/\node < (40:Int))) &&
 (zvC w true t4t1 (ts 80 dt1 (0+node.toNat * 2+0) [(0:Int),(0:Int)])))
theorem zLP (hs:zqi w node t4t1 dt1=true) (hk:K (e35 (zqh w node t4t1 dt1))):z35 K [1,1,1] [] ⟨[(0,zP (.fp (zb5 w) 0)),(1,zI node),(4,zp 4 0),(5,zp 5 0)],[(4,.box 100 (zm (zcM t4t1))),(5,.box 100 (zm (zcM dt1)))],[]⟩:=zaK (by kernel_rfl) (zaX hs λ hc hs=>And.intro hc (zLO hs hk))
def zkJ (w:web) (node:Int) (S0:Int->Tab->Tab->Tab) (zcC:Int) (t4t0:Tab) (dt0:Tab):Tab :=
  (cond (decide (zcC < (40:Int)))
 (S0 (w64 (zcC+(1:Int))) t4t0 (ts 80 dt0 (0+zcC.toNat * 2+0) [(1000000000000:Int),(0:Int)]))
 (zqh w node t4t0 dt0))
def zkK (w:web) (node:Int) (P0:Int->Tab->Tab->Bool) (zcC:Int) (t4t0:Tab) (dt0:Tab):Bool :=
  (cond (decide (zcC < (40:Int)))
 (decide ((0<=zcC/\zcC < (40:Int))) &&
 (P0 (w64 (zcC+(1:Int))) t4t0 (ts 80 dt0 (0+zcC.toNat * 2+0) [(1000000000000:Int),(0:Int)])))
 (zqi w node t4t0 dt0))
def zkL (w:web) (node:Int):Nat->Int->Tab->Tab->Tab:=lpO (λ _ _ _=>default) (zkJ w node)
def zkM (w:web) (node:Int):Nat->Int->Tab->Tab->Bool:=lpO (λ _ _ _=>false) (zkK w node)
def zDc (w:web) (node:Int) (zcC:Int) (t4t0:Tab) (dt0:Tab):Tab:=zkL w node Fuel zcC t4t0 dt0
def zDd (w:web) (node:Int) (zcC:Int) (t4t0:Tab) (dt0:Tab):Bool:=zkM w node Fuel zcC t4t0 dt0
theorem zLQ (hs:zDd w node zcC t4t0 dt0=true) (hk:K (e35 (zDc w node zcC t4t0 dt0))):z35 K [1,1,0,1,0] [] (zIg w node zcC t4t0 dt0) :=
  zl (λ X=>z35 K [1,1,0,1,0,0] [X]) (by kernel_rfl) λ X0 hX =>
  (show ∀ k, zQm K w node X0 (zkM w node k) (zkL w node k) from zgc _ _ (zkK w node) (zkJ w node) (zQm K w node X0)
 (by intro _ _ _ hs;exact absurd hs dqk)
 (by intro P0 S0 hX0 zcC t4t0 dt0 hs hk;exact hX _ (zaK (by kernel_rfl) (zc hs hk (λ hs hk=>(zaX hs λ hc hs=>And.intro hc (hX0 hs hk))) (λ hs hk=>(zLP hs hk)))))) _ hs hk
def s35 (w:web) (node:Int):Tab :=
  (zDc w node (0:Int) (λ _=>(0:Int)) (λ _=>(0:Int)))
def p35 (w:web) (node:Int):Bool :=
  (zDd w node (0:Int) (λ _=>(0:Int)) (λ _=>(0:Int)))
end
theorem q35 (w:web) (node:Int) (K:List PA->Prop) (hs:p35 w node=true) (hk:K (e35 (s35 w node))):vcFun Tryd.prog G35 zDa 35 [.one (.fp (zb5 w) 0),.one (.int .i64 node)] K :=
  zaK (by kernel_rfl) (zLQ hs hk)
def zLR : List PA → COut
  | [.one (.fp [.int .i64 zbx,.sl zbk zcg zbl,.fm zea zcA zcB] 0),.one (.int .i64 a1)]=>.det (IsE zbr 4 zcg zbl/\zea=(false,1,false,[none])/\p35 (⟨(⟨zbx,(⟨zbk,zbR zbl⟩:(Sl Tie))⟩:Net),(⟨zcA,zcB⟩:Mp)⟩:web) a1=true) [.agg (zcM ((s35 (⟨(⟨zbx,(⟨zbk,zbR zbl⟩:(Sl Tie))⟩:Net),(⟨zcA,zcB⟩:Mp)⟩:web) a1)))]
  | _=>.no
theorem zQo:zaj Tryd.prog 35:=⟨_,rfl,rfl,by kernel_rfl⟩
theorem zWU:Ok Tryd.prog 35 zLR:=zbm zTU zQo λ args K h=>by
  unfold zLR at h
  split at h
  · rename_i zbx zbk zcg zbl zea zcA zcB a1
    obtain⟨⟨⟨rfl,zbO,rfl⟩,rfl,hs⟩,hk⟩:=h
    try rw[zbp zbO] at hs
    try rw[zbp zbO] at hk
    exact⟨(λ _ _=>[]),(λ _=>false),zDa,q35 (⟨(⟨zbx,(⟨zbk,zbO⟩:(Sl Tie))⟩:Net),(⟨zcA,zcB⟩:Mp)⟩:web) a1 K hs hk⟩
  · exact h.elim
abbrev T11:Tabs:=(((Tabs.nil.addF 33 zLw).addF 34 zLJ).addF 35 zLR)
theorem zTV:TabsOk Tryd.prog T11:=(((TabsOk.nil.addF zWR).addF zWT).addF zWU)
abbrev G11:Ctrs:=csm T11 (λ _ _=>[]) (λ _=>false)
def zLS:Ann:=⟨45,[(0,zK [1] [1]),(1,zK [1,4,5] [1]),(2,zK [1,4,5,16] [1]),(3,zK [2,3] []),(4,zK [1,6,7] [1,6,7]),(5,zK [6,7,8] [6,7,24]),(6,zK [6,7,8,26,27] [6,7,24]),(7,zK [6,7,8,26,27,28] [6,7,24]),(8,zK [6,7,8,9,26,27] [6,7,24]),(9,zK [6,7,8,26,27] [6,7,24]),(10,zK [6,7,8,26,27] [6,7,24]),(11,zK [2,3] [24])],
 [(7,zK [6,7,8,26,27] [6,7,24])],
 [],
 [],[]⟩
abbrev R11:=((Sl Span)×Int)
abbrev e11 (r:R11):List PA:=[.one (.sl r.1.len 2 (λ i=>za2 (r.1.get i))),.one (.int .i64 r.2)]
@[irreducible] def z11:=ptF Tryd.prog G11 zLS Tryd.f11
def zIi (n:Net) (zdf:Int) (zeg:(Sl Span)) (tot0:Tab) (fromt0:Tab) (zhp:Nat->List PV):St:=⟨[(6,zp 6 0),(7,zp 7 0),(8,zv 24),(26,zI (n.Nodes.toNat:Int)),(27,zI zdf)],[(6,.box 100 (zm (zcM tot0))),(7,.box 100 (zm (zcM fromt0))),(24,.vec 32 2 16 zeg.len zhp)],[]⟩
abbrev zQp (K:List PA->Prop) (n:Net) (X:St->Prop) (P:Int->(Sl Span)->Tab->Tab->Bool) (S:Int->(Sl Span)->Tab->Tab->((Sl Span)×Int)):Prop:=∀ ⦃zdf:Int⦄ ⦃zeg:(Sl Span)⦄ ⦃tot0:Tab⦄ ⦃fromt0:Tab⦄ ⦃zhp:Nat->List PV⦄,P zdf zeg tot0 fromt0=true->K (e11 (S zdf zeg tot0 fromt0))->zhp=zg za2 zeg->X (zIi n zdf zeg tot0 fromt0 zhp)
section
variable {K:List PA->Prop}{n:Net}{zdf:Int}{zeg:(Sl Span)}{tot0:Tab}{fromt0:Tab}{zhp:Nat->List PV}{X0:St->Prop}{P0:Int->(Sl Span)->Tab->Tab->Bool}{S0:Int->(Sl Span)->Tab->Tab->((Sl Span)×Int)}
def zkN (n:Net) (S0:Int->(Sl Span)->Tab->Tab->((Sl Span)×Int)) (zdf:Int) (zeg:(Sl Span)) (tot0:Tab) (fromt0:Tab):((Sl Span)×Int) :=
  (cond (decide (zdf < (n.Nodes.toNat : Int)))
 (S0 (w64 (zdf+(1:Int))) (⟨zeg.len,(setT zdf.toNat (⟨(w64 (0 - (tg 80 tot0 (0+zdf.toNat * 2+0)))),(tg 80 fromt0 (0+zdf.toNat * 2+0))⟩:Span) zeg.get)⟩:Sl Span) tot0 fromt0)
 (zeg,(0:Int)))
def zkO (n:Net) (P0:Int->(Sl Span)->Tab->Tab->Bool) (zdf:Int) (zeg:(Sl Span)) (tot0:Tab) (fromt0:Tab):Bool :=
  (cond (decide (zdf < (n.Nodes.toNat : Int)))
 (decide ((0<=zdf/\zdf < (40:Int))) &&
 (decide ((0<=zdf/\zdf < (40:Int))) &&
 (decide ((0<=zdf/\zdf < (zeg.len:Int))) &&
 (decide ((zdf.toNat < zeg.len)) &&
 (P0 (w64 (zdf+(1:Int))) (⟨zeg.len,(setT zdf.toNat (⟨(w64 (0 - (tg 80 tot0 (0+zdf.toNat * 2+0)))),(tg 80 fromt0 (0+zdf.toNat * 2+0))⟩:Span) zeg.get)⟩:Sl Span) tot0 fromt0)))))
 true)
def ziY (n:Net):Nat->Int->(Sl Span)->Tab->Tab->((Sl Span)×Int):=lpO (λ _ _ _ _=>default) (zkN n)
def ziZ (n:Net):Nat->Int->(Sl Span)->Tab->Tab->Bool:=lpO (λ _ _ _ _=>false) (zkO n)
def zDe (n:Net) (zdf:Int) (zeg:(Sl Span)) (tot0:Tab) (fromt0:Tab):((Sl Span)×Int):=ziY n Fuel zdf zeg tot0 fromt0
def zvD (n:Net) (zdf:Int) (zeg:(Sl Span)) (tot0:Tab) (fromt0:Tab):Bool:=ziZ n Fuel zdf zeg tot0 fromt0
theorem zLT (hs:zvD n zdf zeg tot0 fromt0=true) (hk:K (e11 (zDe n zdf zeg tot0 fromt0))) (zvE:zhp=zg za2 zeg):z11 (Wk K) [1,1,1,1,1,0,1,0] [] (zIi n zdf zeg tot0 fromt0 zhp) :=
  zl (λ X=>z11 (Wk K) [1,1,1,1,1,0,1,0,0] [X]) (by kernel_rfl) λ X0 hX =>
  (show ∀ k, zQp K n X0 (ziZ n k) (ziY n k) from zgc _ _ (zkO n) (zkN n) (zQp K n X0)
 (by intro _ _ _ _ _ hs;exact absurd hs dqk)
 (by intro P0 S0 hX0 zdf zeg tot0 fromt0 zhp hs hk zvE;subst zvE;exact hX _ (zaK (by kernel_rfl) (zc hs hk (λ hs hk=>(zaX hs λ hc hs=>And.intro hc (zaX hs λ hc hs=>And.intro hc (zaX hs λ hc hs=>And.intro hc (zaX hs λ hc hs=>And.intro hc (hX0 hs hk (zOr (enc:=za2) (i:=zdf.toNat) (k:=0) (f:=zeg.get) (new:=(za2 (⟨(w64 (0 - (tg 80 tot0 (0+zdf.toNat * 2+0)))),(tg 80 fromt0 (0+zdf.toNat * 2+0))⟩:Span))) (v:=(⟨(w64 (0 - (tg 80 tot0 (0+zdf.toNat * 2+0)))),(tg 80 fromt0 (0+zdf.toNat * 2+0))⟩:Span)) rfl rfl))))))) (λ hs hk=>((zeW hk):Wk K [.one (.sl zeg.len 2 (λ i=>za2 (zeg.get i))),.one (.int .i64 (0:Int))])))))) _ hs hk zvE
def s11 (n:Net):((Sl Span)×Int) :=
  (cond ((s33 n (⟨0, λ _ => default⟩ : (Sl Int))).2 == 0)
 (cond ((0:Int) != (0:Int))
 ((⟨0,λ _=>default⟩:(Sl Span)),(0:Int))
 (zDe n (0:Int) (⟨n.Nodes.toNat,(λ _=>(⟨(0:Int),(0:Int)⟩:Span))⟩:Sl Span) (s34 (⟨(s33 n (⟨0,λ _=>default⟩:(Sl Int))).1.Net,((s33 n (⟨0,λ _=>default⟩:(Sl Int))).1.out)⟩:web) (0:Int)) (s35 (⟨(s33 n (⟨0,λ _=>default⟩:(Sl Int))).1.Net,((s33 n (⟨0,λ _=>default⟩:(Sl Int))).1.out)⟩:web) (0:Int))))
 (cond ((s33 n (⟨0, λ _ => default⟩ : (Sl Int))).2 != (0:Int))
 ((⟨0,λ _=>default⟩:(Sl Span)),(s33 n (⟨0,λ _=>default⟩:(Sl Int))).2)
 default))
def p11 (n:Net):Bool :=
  (cond ((s33 n (⟨0, λ _ => default⟩ : (Sl Int))).2 == 0)
 (decide ((p33 n (⟨0,λ _=>default⟩:(Sl Int))=true)) &&
 (cond ((0:Int) != (0:Int))
 true
 (decide ((p34 (⟨(s33 n (⟨0,λ _=>default⟩:(Sl Int))).1.Net,((s33 n (⟨0,λ _=>default⟩:(Sl Int))).1.out)⟩:web) (0:Int)=true)) &&
 (decide ((p35 (⟨(s33 n (⟨0,λ _=>default⟩:(Sl Int))).1.Net,((s33 n (⟨0,λ _=>default⟩:(Sl Int))).1.out)⟩:web) (0:Int)=true)) &&
 (decide ((0<=n.Nodes/\n.Nodes=n.Nodes/\n.Nodes<=1000000)) &&
 (zvD n (0:Int) (⟨n.Nodes.toNat,(λ _=>(⟨(0:Int),(0:Int)⟩:Span))⟩:Sl Span) (s34 (⟨(s33 n (⟨0,λ _=>default⟩:(Sl Int))).1.Net,((s33 n (⟨0,λ _=>default⟩:(Sl Int))).1.out)⟩:web) (0:Int)) (s35 (⟨(s33 n (⟨0,λ _=>default⟩:(Sl Int))).1.Net,((s33 n (⟨0,λ _=>default⟩:(Sl Int))).1.out)⟩:web) (0:Int))))))))
 (decide ((p33 n (⟨0,λ _=>default⟩:(Sl Int))=true)) &&
 (cond ((s33 n (⟨0, λ _ => default⟩ : (Sl Int))).2 != (0:Int))
 true
 false)))
end
theorem q11 (n:Net) (K:List PA->Prop) (hs:p11 n=true) (hk:K (e11 (s11 n))):vcFun Tryd.prog G11 zLS 11 [.agg (zdk n)] (Wk K) :=
  zaK (by kernel_rfl) (zc hs hk (λ hs hk=>(zaX hs λ hc hs=>And.intro (And.intro (zE zbr 4 n.Ties.get) hc) (zc hs hk (λ hs hk=>((wk hk (zeC (.one (.nil _ _)) (zeC (.one (.rfl _)) zka))):Wk K [.one (.nils),.one (.int .i64 (0:Int))])) (λ hs hk=>(zaX hs λ hc hs=>And.intro (And.intro (zE zbr 4 ((s33 n (⟨0,λ _=>default⟩:(Sl Int))).1.Net.Ties.get)) (And.intro (rfl:((false,1,false,[none]):MQ)=(false,1,false,[none])) hc)) (zaX hs λ hc hs=>And.intro (And.intro (zE zbr 4 ((s33 n (⟨0,λ _=>default⟩:(Sl Int))).1.Net.Ties.get)) (And.intro (rfl:((false,1,false,[none]):MQ)=(false,1,false,[none])) hc)) (zaX hs λ hc hs=>And.intro hc (zLT hs hk rfl)))))))) (λ hs hk=>(zaX hs λ hc hs=>And.intro (And.intro (zE zbr 4 n.Ties.get) hc) (zc hs hk (λ hs hk=>((wk hk (zeC (.one (.nil _ _)) (zeC (.one (.rfl _)) zka))):Wk K [.one (.nils),.one (.int .i64 ((s33 n (⟨0,λ _=>default⟩:(Sl Int))).2))])) (λ hs hk=>(absurd hs dqk:False))))))
def zLU : List PA → COut
  | [.agg [.int .i64 za0,.sl za7 zcf zaZ]]=>.det (IsE zbr 4 zcf zaZ/\p11 (⟨za0,(⟨za7,zbR zaZ⟩:(Sl Tie))⟩:Net)=true) [.one (.sl (((s11 (⟨za0,(⟨za7,zbR zaZ⟩:(Sl Tie))⟩:Net)).1).len) 2 (λ i=>za2 (((s11 (⟨za0,(⟨za7,zbR zaZ⟩:(Sl Tie))⟩:Net)).1).get i))),.one (.int .i64 ((s11 (⟨za0,(⟨za7,zbR zaZ⟩:(Sl Tie))⟩:Net)).2))]
  | _=>.no
theorem call11:zaj Tryd.prog 11:=⟨_,rfl,rfl,by kernel_rfl⟩
theorem zWV:Ok Tryd.prog 11 zLU:=ziv zTV call11 λ args K h=>by
  unfold zLU at h
  split at h
  · rename_i za0 za7 zcf zaZ
    obtain⟨⟨⟨rfl,zbS,rfl⟩,hs⟩,hk⟩:=h
    try rw[zbp zbS] at hs
    try rw[zbp zbS] at hk
    exact⟨_,zib zg5 _,(λ _ _=>[]),(λ _=>false),zLS,q11 (⟨za0,(⟨za7,zbS⟩:(Sl Tie))⟩:Net) K hs hk⟩
  · exact h.elim
abbrev T12:Tabs:=((Tabs.nil.addF 31 zup).addF 32 zAZ)
theorem zTW:TabsOk Tryd.prog T12:=((TabsOk.nil.addF zOR).addF ok32)
abbrev G12:Ctrs:=csm T12 (λ _ _=>[]) (λ _=>false)
def zGl:Ann:=⟨75,[(0,zK [1,2] [2]),(1,zK [1,2,25] [2]),(2,zK [4] []),(3,zK [1,2,26,27,28] [2]),(4,zK [1,2,26,27,28,29] [2]),(5,zK [1,2,6,26,27,28] [2]),(6,zK [1,2,26,27,28,34] [2]),(7,zK [4] []),(8,zK [1,2,26,27,28] [2]),(9,zK [1,37,38,39] []),(10,zK [1,37,38,39,40] []),(11,zK [1,8,37,38,39] [8]),(12,zK [1,8,9,37,38,39] [8]),(13,zK [1,37,38,39,73] []),(14,zK [4] []),(15,zK [1,37,38,39] []),(16,zK [4] [])],
 [(4,zK [1,2,26,27,28] [2]),(10,zK [1,37,38,39] [])],
 [(2,zK [1,2,25] [2]),(3,zK [1,2] [2]),(7,zK [1,2,26,27,28,34] [2]),(9,zK [1,2] [2])],
 [],[]⟩
abbrev R12:=Bool
abbrev e12 (r:R12):List PA:=[.one (.bool r)]
@[irreducible] def z12:=ptF Tryd.prog G12 zGl Tryd.f12
def zIj (n:Net) (zas:(Sl Int)) (zfc:Int):St:=⟨[(1,zS enc_3 1 zas),(2,zp 2 0),(26,zS enc_3 1 zas),(27,zI (zas.len:Int)),(28,zI zfc)],[(2,.box 48 (zm (zdk n)))],[]⟩
abbrev zLV (K:List PA->Prop) (n:Net) (zas:(Sl Int)) (X:St->Prop) (P:Int->Bool) (S:Int->Bool):Prop:=∀ ⦃zfc:Int⦄,P zfc=true->K (e12 (S zfc))->X (zIj n zas zfc)
def zIk (n:Net) (zas:(Sl Int)) (zco:Int):St:=⟨[(1,zS enc_3 1 zas),(37,zS zbr 4 n.Ties),(38,zI (n.Ties.len:Int)),(39,zI zco)],[],[]⟩
abbrev zQq (K:List PA->Prop) (n:Net) (zas:(Sl Int)) (X:St->Prop) (P:Int->Bool) (S:Int->Bool):Prop:=∀ ⦃zco:Int⦄,P zco=true->K (e12 (S zco))->X (zIk n zas zco)
section
variable {K:List PA->Prop}{n:Net}{zas:(Sl Int)}{zvF:Bool}{zfc:Int}{X2:St->Prop}{P2:Int->Bool}{S2:Int->Bool}{zvG:Int}{zi0:Bool}{zco:Int}{X5:St->Prop}{P5:Int->Bool}{S5:Int->Bool}
def zkP (n:Net) (zas:(Sl Int)) (S5:Int->Bool) (zco:Int):Bool :=
  (cond (decide (zco < (n.Ties.len : Int)))
 (cond ((n.Ties.get zco.toNat).Low != (-1000000000000:Int))
 (cond (decide ((w64 ((zas.get (((n.Ties.get zco.toNat).To).toNat)) - (zas.get (((n.Ties.get zco.toNat).From).toNat)))) < (n.Ties.get zco.toNat).Low))
 false
 (cond ((n.Ties.get zco.toNat).High != (1000000000000:Int))
 (cond (decide ((w64 ((zas.get (((n.Ties.get zco.toNat).To).toNat)) - (zas.get (((n.Ties.get zco.toNat).From).toNat)))) > (n.Ties.get zco.toNat).High))
 false
 (S5 (w64 (zco+(1:Int)))))
 (S5 (w64 (zco+(1:Int))))))
 (cond ((n.Ties.get zco.toNat).High != (1000000000000:Int))
 (cond (decide ((w64 ((zas.get (((n.Ties.get zco.toNat).To).toNat)) - (zas.get (((n.Ties.get zco.toNat).From).toNat)))) > (n.Ties.get zco.toNat).High))
 false
 (S5 (w64 (zco+(1:Int)))))
 (S5 (w64 (zco+(1:Int))))))
 true)
def zkQ (n:Net) (zas:(Sl Int)) (P5:Int->Bool) (zco:Int):Bool :=
  (cond (decide (zco < (n.Ties.len : Int)))
 (decide ((0<=zco/\zco < (n.Ties.len:Int))) &&
 (decide ((0<=(n.Ties.get zco.toNat).To/\(n.Ties.get zco.toNat).To < (zas.len:Int))) &&
 (decide ((0<=(n.Ties.get zco.toNat).From/\(n.Ties.get zco.toNat).From < (zas.len:Int))) &&
 (cond ((n.Ties.get zco.toNat).Low != (-1000000000000:Int))
 (cond (decide ((w64 ((zas.get (((n.Ties.get zco.toNat).To).toNat)) - (zas.get (((n.Ties.get zco.toNat).From).toNat)))) < (n.Ties.get zco.toNat).Low))
 true
 (cond ((n.Ties.get zco.toNat).High != (1000000000000:Int))
 (cond (decide ((w64 ((zas.get (((n.Ties.get zco.toNat).To).toNat)) - (zas.get (((n.Ties.get zco.toNat).From).toNat)))) > (n.Ties.get zco.toNat).High))
 true
 (P5 (w64 (zco+(1:Int)))))
 (P5 (w64 (zco+(1:Int))))))
 (cond ((n.Ties.get zco.toNat).High != (1000000000000:Int))
 (cond (decide ((w64 ((zas.get (((n.Ties.get zco.toNat).To).toNat)) - (zas.get (((n.Ties.get zco.toNat).From).toNat)))) > (n.Ties.get zco.toNat).High))
 true
 (P5 (w64 (zco+(1:Int)))))
 (P5 (w64 (zco+(1:Int)))))))))
 true)
def zkR (n:Net) (zas:(Sl Int)):Nat->Int->Bool:=lpO (λ _=>default) (zkP n zas)
def zkS (n:Net) (zas:(Sl Int)):Nat->Int->Bool:=lpO (λ _=>false) (zkQ n zas)
def zDf (n:Net) (zas:(Sl Int)) (zco:Int):Bool:=zkR n zas Fuel zco
def zDg (n:Net) (zas:(Sl Int)) (zco:Int):Bool:=zkS n zas Fuel zco
theorem zLW (hs:zDg n zas zco=true) (hk:K (e12 (zDf n zas zco))):z12 K [1,1,1,0,1,0] [] (zIk n zas zco) :=
  zl (λ X=>z12 K [1,1,1,0,1,0,0] [X]) (by kernel_rfl) λ X5 hX =>
  (show ∀ k, zQq K n zas X5 (zkS n zas k) (zkR n zas k) from zgc _ _ (zkQ n zas) (zkP n zas) (zQq K n zas X5)
 (by intro _ hs;exact absurd hs dqk)
 (by intro P5 S5 hX5 zco hs hk;exact hX _ (zaK (by kernel_rfl) (zc hs hk (λ hs hk=>(zaX hs λ hc hs=>And.intro hc (zaX hs λ hc hs=>And.intro hc (zaX hs λ hc hs=>And.intro hc (zc hs hk (λ hs hk=>(zc hs hk (λ hs hk=>hk) (λ hs hk=>(zc hs hk (λ hs hk=>(zc hs hk (λ hs hk=>hk) (λ hs hk=>(hX5 hs hk)))) (λ hs hk=>(hX5 hs hk)))))) (λ hs hk=>(zc hs hk (λ hs hk=>(zc hs hk (λ hs hk=>hk) (λ hs hk=>(hX5 hs hk)))) (λ hs hk=>(hX5 hs hk))))))))) (λ hs hk=>hk))))) _ hs hk
def znj (n:Net) (zas:(Sl Int)):Bool :=
  (zDf n zas (0:Int))
def zqj (n:Net) (zas:(Sl Int)):Bool :=
  (zDg n zas (0:Int))
theorem zLX (hs:zqj n zas=true) (hk:K (e12 (znj n zas))):z12 K [1,1,1] [] ⟨[(1,zS enc_3 1 zas),(2,zp 2 0)],[(2,.box 48 (zm (zdk n)))],[]⟩:=zaK (by kernel_rfl) (zLW hs hk)
def zqk (S2:Int->Bool) (n:Net) (zas:(Sl Int)) (zvG:Int) (zi0:Bool):Bool :=
  (cond zi0
 false
 (S2 (w64 (zvG+(1:Int)))))
def zql (P2:Int->Bool) (n:Net) (zas:(Sl Int)) (zvG:Int) (zi0:Bool):Bool :=
  (cond zi0
 true
 (P2 (w64 (zvG+(1:Int)))))
theorem zLY (hX2:zLV K n zas X2 P2 S2) (hs:zql P2 n zas zvG zi0=true) (hk:K (e12 (zqk S2 n zas zvG zi0))):z12 K [1,1,0,1,0,0,1,1,0,0,1,1] [X2] ⟨[(1,zS enc_3 1 zas),(2,zp 2 0),(26,zS enc_3 1 zas),(27,zI (zas.len:Int)),(28,zI zvG),(34,zB zi0)],[(2,.box 48 (zm (zdk n)))],[]⟩:=zaK (by kernel_rfl) (zc hs hk (λ hs hk=>hk) (λ hs hk=>(hX2 hs hk)))
def zfZ (n:Net) (zas:(Sl Int)) (S2:Int->Bool) (zfc:Int):Bool :=
  (cond (decide (zfc < (zas.len : Int)))
 (zqk S2 n zas zfc (!(s31 (zas.get zfc.toNat) (-1000000000000:Int) (1000000000000:Int))))
 (znj n zas))
def zf0 (n:Net) (zas:(Sl Int)) (P2:Int->Bool) (zfc:Int):Bool :=
  (cond (decide (zfc < (zas.len : Int)))
 (decide ((0<=zfc/\zfc < (zas.len:Int))) &&
 (zql P2 n zas zfc (!(s31 (zas.get zfc.toNat) (-1000000000000:Int) (1000000000000:Int)))))
 (zqj n zas))
def zf1 (n:Net) (zas:(Sl Int)):Nat->Int->Bool:=lpO (λ _=>default) (zfZ n zas)
def zf2 (n:Net) (zas:(Sl Int)):Nat->Int->Bool:=lpO (λ _=>false) (zf0 n zas)
def zqm (n:Net) (zas:(Sl Int)) (zfc:Int):Bool:=zf1 n zas Fuel zfc
def zqn (n:Net) (zas:(Sl Int)) (zfc:Int):Bool:=zf2 n zas Fuel zfc
theorem zLZ (hs:zqn n zas zfc=true) (hk:K (e12 (zqm n zas zfc))):z12 K [1,1,0,1,0] [] (zIj n zas zfc) :=
  zl (λ X=>z12 K [1,1,0,1,0,0] [X]) (by kernel_rfl) λ X2 hX =>
  (show ∀ k, zLV K n zas X2 (zf2 n zas k) (zf1 n zas k) from zgc _ _ (zf0 n zas) (zfZ n zas) (zLV K n zas X2)
 (by intro _ hs;exact absurd hs dqk)
 (by intro P2 S2 hX2 zfc hs hk;exact hX _ (zaK (by kernel_rfl) (zc hs hk (λ hs hk=>(zaX hs λ hc hs=>And.intro hc (zLY hX2 hs hk))) (λ hs hk=>(zLX hs hk)))))) _ hs hk
def zqo (n:Net) (zas:(Sl Int)):Bool :=
  (zqm n zas (0:Int))
def zqp (n:Net) (zas:(Sl Int)):Bool :=
  (zqn n zas (0:Int))
theorem zL0 (hs:zqp n zas=true) (hk:K (e12 (zqo n zas))):z12 K [1,1] [] ⟨[(1,zS enc_3 1 zas),(2,zp 2 0)],[(2,.box 48 (zm (zdk n)))],[]⟩:=zaK (by kernel_rfl) (zLZ hs hk)
def zkT (n:Net) (zas:(Sl Int)) (zvF:Bool):Bool :=
  (cond zvF
 false
 (zqo n zas))
def zkU (n:Net) (zas:(Sl Int)) (zvF:Bool):Bool :=
  (cond zvF
 true
 (zqp n zas))
theorem zvH (hs:zkU n zas zvF=true) (hk:K (e12 (zkT n zas zvF))):z12 K [1,0,1] [] ⟨[(1,zS enc_3 1 zas),(2,zp 2 0),(25,zB zvF)],[(2,.box 48 (zm (zdk n)))],[]⟩:=zaK (by kernel_rfl) (zc hs hk (λ hs hk=>hk) (λ hs hk=>(zL0 hs hk)))
def s12 (n:Net) (zas:(Sl Int)):Bool :=
  (cond (!(s32 n))
 (zkT n zas true)
 (cond ((zas.len : Int) != n.Nodes)
 (zkT n zas true)
 (zkT n zas ((zas.get 0) != (0:Int)))))
def p12 (n:Net) (zas:(Sl Int)):Bool :=
  (decide ((p32 n=true)) &&
 (cond (!(s32 n))
 (zkU n zas true)
 (cond ((zas.len : Int) != n.Nodes)
 (zkU n zas true)
 (decide ((0<=(0:Int)/\(0:Int) < (zas.len:Int))) &&
 (zkU n zas ((zas.get 0) != (0:Int)))))))
end
theorem q12 (n:Net) (zas:(Sl Int)) (K:List PA->Prop) (hs:p12 n zas=true) (hk:K (e12 (s12 n zas))):vcFun Tryd.prog G12 zGl 12 [.agg (zdk n),.one (.sl zas.len 1 (λ i=>enc_3 (zas.get i)))] K :=
  zaK (by kernel_rfl) (zaX hs λ hc hs=>And.intro (And.intro (zE zbr 4 n.Ties.get) hc) (zc hs hk (λ hs hk=>(zvH hs hk)) (λ hs hk=>(zc hs hk (λ hs hk=>(zvH hs hk)) (λ hs hk=>(zaX hs λ hc hs=>And.intro hc (zvH hs hk)))))))
def zL1 : List PA → COut
  | [.agg [.int .i64 za0,.sl za7 zcf zaZ],.one (.sl zeO zl0 zeP)]=>.det (IsE zbr 4 zcf zaZ/\IsE enc_3 1 zl0 zeP/\p12 (⟨za0,(⟨za7,zbR zaZ⟩:(Sl Tie))⟩:Net) (⟨zeO,zcS zeP⟩:(Sl Int))=true) [.one (.bool (s12 (⟨za0,(⟨za7,zbR zaZ⟩:(Sl Tie))⟩:Net) (⟨zeO,zcS zeP⟩:(Sl Int))))]
  | [.agg [.int .i64 za0,.nils],.one (.sl zeO zl0 zeP)]=>.det (IsE enc_3 1 zl0 zeP/\p12 (⟨za0,(⟨0,λ _=>default⟩:(Sl Tie))⟩:Net) (⟨zeO,zcS zeP⟩:(Sl Int))=true) [.one (.bool (s12 (⟨za0,(⟨0,λ _=>default⟩:(Sl Tie))⟩:Net) (⟨zeO,zcS zeP⟩:(Sl Int))))]
  | _=>.no
theorem call12:zaj Tryd.prog 12:=⟨_,rfl,rfl,by kernel_rfl⟩
theorem zWW:Ok Tryd.prog 12 zL1:=ziv zTW call12 λ args K h=>by
  unfold zL1 at h
  split at h
  · rename_i za0 za7 zcf zaZ zeO zl0 zeP
    obtain⟨⟨⟨rfl,zbS,rfl⟩,⟨rfl,zic,rfl⟩,hs⟩,hk⟩:=h
    try rw[zbp zbS] at hs
    try rw[zbp zbS] at hk
    try rw[zbV zic] at hs
    try rw[zbV zic] at hk
    exact⟨_,zib zg5 _,(λ _ _=>[]),(λ _=>false),zGl,q12 (⟨za0,(⟨za7,zbS⟩:(Sl Tie))⟩:Net) (⟨zeO,zic⟩:(Sl Int)) (Wk K) hs (zeW hk)⟩
  · rename_i za0 zeO zl0 zeP
    obtain⟨⟨⟨rfl,zic,rfl⟩,hs⟩,hk⟩:=h
    try rw[zbV zic] at hs
    try rw[zbV zic] at hk
    exact⟨_,(zeC (.agg (zeC (.rfl _) (zeC (.nil _ _) zka))) (zeC (zg5 _) zka)),(λ _ _=>[]),(λ _=>false),zGl,q12 (⟨za0,(⟨0,λ _=>default⟩:(Sl Tie))⟩:Net) (⟨zeO,zic⟩:(Sl Int)) (Wk K) hs (zeW hk)⟩
  · exact h.elim
abbrev T65:Tabs:=Tabs.nil
theorem zTX:TabsOk Tryd.prog T65:=TabsOk.nil
abbrev G65:Ctrs:=csm T65 (λ _ _=>[]) (λ _=>false)
def zQr:Ann:=⟨15,[(0,zK [0,1,2] []),(1,zK [6] [])],
 [],
 [],
 [],[]⟩
abbrev R65:=Bool
abbrev e65 (r:R65):List PA:=[.one (.bool r)]
section
variable {K:List PA->Prop}{n:Int}{low:Int}{high:Int}
def s65 (n:Int) (low:Int) (high:Int):Bool :=
  (cond (decide (n >= low))
 (decide (n<=high))
 false)
end
theorem q65 (n:Int) (low:Int) (high:Int) (K:List PA->Prop) (hk:K (e65 (s65 n low high))):vcFun Tryd.prog G65 zQr 65 [.one (.int .i64 n),.one (.int .i64 low),.one (.int .i64 high)] K :=
  zaK (by kernel_rfl) (zt hk (λ hk=>hk) (λ hk=>hk))
def zss : List PA → COut
  | [.one (.int .i64 a0),.one (.int .i64 a1),.one (.int .i64 a2)]=>.tot [.one (.bool (s65 a0 a1 a2))]
  | _=>.no
theorem zQs:zaj Tryd.prog 65:=⟨_,rfl,rfl,by kernel_rfl⟩
theorem zNH:Ok Tryd.prog 65 zss:=zbm zTX zQs λ args K h=>by
  unfold zss at h
  split at h
  · rename_i a0 a1 a2
    have hk:=h
    exact⟨(λ _ _=>[]),(λ _=>false),zQr,q65 a0 a1 a2 K hk⟩
  · exact h.elim
abbrev T85:Tabs:=Tabs.nil
theorem zTY:TabsOk Tryd.prog T85:=TabsOk.nil
abbrev G85:Ctrs:=csm T85 (λ _ _=>[]) (λ _=>false)
def zQt:Ann:=⟨8,[(0,zK [1] [1]),(1,zK [2] [])],
 [],
 [],
 [],[]⟩
abbrev R85:=Bool
abbrev e85 (r:R85):List PA:=[.one (.bool r)]
section
variable {K:List PA->Prop}{p:placed}
def s85 (p:placed):Bool :=
  ((p.Plane.Drift.len:Int) == (0:Int))
end
theorem q85 (p:placed) (K:List PA->Prop) (hk:K (e85 (s85 p))):vcFun Tryd.prog G85 zQt 85 [.agg (zbh p)] K :=
  zaK (by kernel_rfl) hk
def zL2 : List PA → COut
  | [.agg [.int .i64 zaG,.int .i64 zaH,.int .i64 zbd,.int .i64 zaw,.int .i64 zax,.int .i64 zao,.int .i64 zay,.int .i64 zae,.int .i64 zac,.int .i64 zak,.int .i64 zaf,.int .i64 zaq,.int .i64 zaz,.sl zam za9 zaA,.sl zar zbf zaE,.int .i64 za1]]=>.det (IsE zbi 3 za9 zaA/\IsE enc_3 1 zbf zaE) [.one (.bool (s85 (⟨(⟨zaG,zaH,zbd,zaw,zax,zao,zay,(⟨zae,zac⟩:Span),(⟨zak,zaf⟩:Span),zaq,zaz,(⟨zam,zcx zaA⟩:(Sl Drift)),(⟨zar,zcS zaE⟩:(Sl Int))⟩:Plane),za1⟩:placed)))]
  | _=>.no
theorem zQu:zaj Tryd.prog 85:=⟨_,rfl,rfl,by kernel_rfl⟩
theorem zWX:Ok Tryd.prog 85 zL2:=zbm zTY zQu λ args K h=>by
  unfold zL2 at h
  split at h
  · rename_i zaG zaH zbd zaw zax zao zay zae zac zak zaf zaq zaz zam za9 zaA zar zbf zaE za1
    obtain⟨⟨⟨rfl,zaJ,rfl⟩,⟨rfl,zaL,rfl⟩⟩,hk⟩:=h
    try rw[zca zaJ] at hk
    try rw[zbV zaL] at hk
    exact⟨(λ _ _=>[]),(λ _=>false),zQt,q85 (⟨(⟨zaG,zaH,zbd,zaw,zax,zao,zay,(⟨zae,zac⟩:Span),(⟨zak,zaf⟩:Span),zaq,zaz,(⟨zam,zaJ⟩:(Sl Drift)),(⟨zar,zaL⟩:(Sl Int))⟩:Plane),za1⟩:placed) K hk⟩
  · exact h.elim
abbrev T86:Tabs:=(Tabs.nil.addF 65 zss)
theorem zTZ:TabsOk Tryd.prog T86:=(TabsOk.nil.addF zNH)
abbrev G86:Ctrs:=csm T86 (λ _ _=>[]) (λ _=>false)
def zL3:Ann:=⟨89,[(0,zK [1] [1]),(1,zK [1,7,8,9] [1]),(2,zK [1,7,8,9,10] [1]),(3,zK [1,3,4,7,8,9] [1,4]),(4,zK [1,3,4,7,8,9,37] [1,4]),(5,zK [2] []),(6,zK [1,7,8,9,82] [1]),(7,zK [2] []),(8,zK [1,7,8,9] [1]),(9,zK [2] [])],
 [(2,zK [1,7,8,9] [1])],
 [(5,zK [1,3,4,7,8,9,37] [1,4]),(6,zK [1,3,4,7,8,9] [1,4])],
 [],[]⟩
abbrev R86:=Bool
abbrev e86 (r:R86):List PA:=[.one (.bool r)]
@[irreducible] def z86:=ptF Tryd.prog G86 zL3 Tryd.f86
def zIl (p:placed) (zcw:Int):St:=⟨[(1,zp 1 0),(7,zS zbi 3 p.Plane.Drift),(8,zI (p.Plane.Drift.len:Int)),(9,zI zcw)],[(1,.box 107 (zm (zbh p)))],[]⟩
abbrev zGm (K:List PA->Prop) (p:placed) (X:St->Prop) (P:Int->Bool) (S:Int->Bool):Prop:=∀ ⦃zcw:Int⦄,P zcw=true->K (e86 (S zcw))->X (zIl p zcw)
section
variable {K:List PA->Prop}{p:placed}{zcw:Int}{X0:St->Prop}{P0:Int->Bool}{S0:Int->Bool}{iv1:Int}{zvI:Int}{zvJ:Bool}{ziH:Int}{ziI:Int}{ziJ:Int}{iv2:Int}{zGn:Int}{ziK:Int}{ziL:Int}{ziM:Int}
def zvK (S0:Int->Bool) (p:placed) (iv2:Int) (zGn:Int) (ziK:Int) (ziL:Int) (ziM:Int):Bool :=
  (cond (decide (iv2 > (0:Int)))
 (cond (decide (ziK <= (p.Plane.Drift.get ((w64 (iv2 - (1:Int))).toNat)).Time))
 false
 (cond (decide (ziL < (p.Plane.Drift.get ((w64 (iv2 - (1:Int))).toNat)).Radius.Low))
 false
 (cond (decide (ziM < (p.Plane.Drift.get ((w64 (iv2 - (1:Int))).toNat)).Radius.High))
 false
 (S0 (w64 (zGn+(1:Int)))))))
 (S0 (w64 (zGn+(1:Int)))))
def zvL (P0:Int->Bool) (p:placed) (iv2:Int) (zGn:Int) (ziK:Int) (ziL:Int) (ziM:Int):Bool :=
  (cond (decide (iv2 > (0:Int)))
 (decide ((0<=(w64 (iv2 - (1:Int)))/\(w64 (iv2 - (1:Int))) < (p.Plane.Drift.len:Int))) &&
 (cond (decide (ziK <= (p.Plane.Drift.get ((w64 (iv2 - (1:Int))).toNat)).Time))
 true
 (decide ((0<=(w64 (iv2 - (1:Int)))/\(w64 (iv2 - (1:Int))) < (p.Plane.Drift.len:Int))) &&
 (cond (decide (ziL < (p.Plane.Drift.get ((w64 (iv2 - (1:Int))).toNat)).Radius.Low))
 true
 (decide ((0<=(w64 (iv2 - (1:Int)))/\(w64 (iv2 - (1:Int))) < (p.Plane.Drift.len:Int))) &&
 (cond (decide (ziM < (p.Plane.Drift.get ((w64 (iv2 - (1:Int))).toNat)).Radius.High))
 true
 (P0 (w64 (zGn+(1:Int))))))))))
 (P0 (w64 (zGn+(1:Int)))))
theorem zL4 (hX0:zGm K p X0 P0 S0) (hs:zvL P0 p iv2 zGn ziK ziL ziM=true) (hk:K (e86 (zvK S0 p iv2 zGn ziK ziL ziM))):z86 K [1,0,1,0,0,1,1,0,0,1,1] [X0] ⟨[(1,zp 1 0),(3,zI iv2),(4,zp 4 0),(7,zS zbi 3 p.Plane.Drift),(8,zI (p.Plane.Drift.len:Int)),(9,zI zGn)],[(1,.box 107 (zm (zbh p))),(4,.box 104 (zm (zbi (⟨ziK,(⟨ziL,ziM⟩:Span)⟩:Drift))))],[]⟩:=zaK (by kernel_rfl) (zc hs hk (λ hs hk=>(zaX hs λ hc hs=>And.intro hc (zc hs hk (λ hs hk=>hk) (λ hs hk=>(zaX hs λ hc hs=>And.intro hc (zc hs hk (λ hs hk=>hk) (λ hs hk=>(zaX hs λ hc hs=>And.intro hc (zc hs hk (λ hs hk=>hk) (λ hs hk=>(hX0 hs hk))))))))))) (λ hs hk=>(hX0 hs hk)))
def znk (S0:Int->Bool) (p:placed) (iv1:Int) (zvI:Int) (zvJ:Bool) (ziH:Int) (ziI:Int) (ziJ:Int):Bool :=
  (cond zvJ
 false
 (zvK S0 p iv1 zvI ziH ziI ziJ))
def znl (P0:Int->Bool) (p:placed) (iv1:Int) (zvI:Int) (zvJ:Bool) (ziH:Int) (ziI:Int) (ziJ:Int):Bool :=
  (cond zvJ
 true
 (zvL P0 p iv1 zvI ziH ziI ziJ))
theorem zvM (hX0:zGm K p X0 P0 S0) (hs:znl P0 p iv1 zvI zvJ ziH ziI ziJ=true) (hk:K (e86 (znk S0 p iv1 zvI zvJ ziH ziI ziJ))):z86 K [1,0,1,0,0,1,1,0,0,1,0,1] [X0] ⟨[(1,zp 1 0),(3,zI iv1),(4,zp 4 0),(7,zS zbi 3 p.Plane.Drift),(8,zI (p.Plane.Drift.len:Int)),(9,zI zvI),(37,zB zvJ)],[(1,.box 107 (zm (zbh p))),(4,.box 104 (zm (zbi (⟨ziH,(⟨ziI,ziJ⟩:Span)⟩:Drift))))],[]⟩:=zaK (by kernel_rfl) (zc hs hk (λ hs hk=>hk) (λ hs hk=>(zL4 hX0 hs hk)))
def zkV (p:placed) (S0:Int->Bool) (zcw:Int):Bool :=
  (cond (decide (zcw < (p.Plane.Drift.len : Int)))
 (cond (!(s65 ((p.Plane.Drift.get zcw.toNat).Time) (0:Int) (1000000:Int)))
 (znk S0 p zcw zcw true ((p.Plane.Drift.get zcw.toNat).Time) ((p.Plane.Drift.get zcw.toNat).Radius.Low) ((p.Plane.Drift.get zcw.toNat).Radius.High))
 (cond (!(s65 ((p.Plane.Drift.get zcw.toNat).Radius.Low) (0:Int) ((p.Plane.Drift.get zcw.toNat).Radius.High)))
 (znk S0 p zcw zcw true ((p.Plane.Drift.get zcw.toNat).Time) ((p.Plane.Drift.get zcw.toNat).Radius.Low) ((p.Plane.Drift.get zcw.toNat).Radius.High))
 (znk S0 p zcw zcw (decide ((p.Plane.Drift.get zcw.toNat).Radius.High > (w64 (p.Plane.Pitch.tdiv (2:Int))))) ((p.Plane.Drift.get zcw.toNat).Time) ((p.Plane.Drift.get zcw.toNat).Radius.Low) ((p.Plane.Drift.get zcw.toNat).Radius.High))))
 (s65 (p.Plane.Drift.len:Int) (1:Int) (50:Int)))
def zkW (p:placed) (P0:Int->Bool) (zcw:Int):Bool :=
  (cond (decide (zcw < (p.Plane.Drift.len : Int)))
 (decide ((0<=zcw/\zcw < (p.Plane.Drift.len:Int))) &&
 (cond (!(s65 ((p.Plane.Drift.get zcw.toNat).Time) (0:Int) (1000000:Int)))
 (znl P0 p zcw zcw true ((p.Plane.Drift.get zcw.toNat).Time) ((p.Plane.Drift.get zcw.toNat).Radius.Low) ((p.Plane.Drift.get zcw.toNat).Radius.High))
 (cond (!(s65 ((p.Plane.Drift.get zcw.toNat).Radius.Low) (0:Int) ((p.Plane.Drift.get zcw.toNat).Radius.High)))
 (znl P0 p zcw zcw true ((p.Plane.Drift.get zcw.toNat).Time) ((p.Plane.Drift.get zcw.toNat).Radius.Low) ((p.Plane.Drift.get zcw.toNat).Radius.High))
 (decide (((2:Int) ≠ 0)) &&
 (znl P0 p zcw zcw (decide ((p.Plane.Drift.get zcw.toNat).Radius.High > (w64 (p.Plane.Pitch.tdiv (2:Int))))) ((p.Plane.Drift.get zcw.toNat).Time) ((p.Plane.Drift.get zcw.toNat).Radius.Low) ((p.Plane.Drift.get zcw.toNat).Radius.High))))))
 true)
def zi1 (p:placed):Nat->Int->Bool:=lpO (λ _=>default) (zkV p)
def zi2 (p:placed):Nat->Int->Bool:=lpO (λ _=>false) (zkW p)
def zDh (p:placed) (zcw:Int):Bool:=zi1 p Fuel zcw
def zDi (p:placed) (zcw:Int):Bool:=zi2 p Fuel zcw
theorem zL5 (hs:zDi p zcw=true) (hk:K (e86 (zDh p zcw))):z86 K [1,0,1,0] [] (zIl p zcw) :=
  zl (λ X=>z86 K [1,0,1,0,0] [X]) (by kernel_rfl) λ X0 hX =>
  (show ∀ k, zGm K p X0 (zi2 p k) (zi1 p k) from zgc _ _ (zkW p) (zkV p) (zGm K p X0)
 (by intro _ hs;exact absurd hs dqk)
 (by intro P0 S0 hX0 zcw hs hk;exact hX _ (zaK (by kernel_rfl) (zc hs hk (λ hs hk=>(zaX hs λ hc hs=>And.intro hc (zc hs hk (λ hs hk=>(zvM hX0 hs hk)) (λ hs hk=>(zc hs hk (λ hs hk=>(zvM hX0 hs hk)) (λ hs hk=>(zaX hs λ hc hs=>And.intro hc (zvM hX0 hs hk)))))))) (λ hs hk=>hk))))) _ hs hk
def s86 (p:placed):Bool :=
  (zDh p (0:Int))
def p86 (p:placed):Bool :=
  (zDi p (0:Int))
end
theorem q86 (p:placed) (K:List PA->Prop) (hs:p86 p=true) (hk:K (e86 (s86 p))):vcFun Tryd.prog G86 zL3 86 [.agg (zbh p)] K :=
  zaK (by kernel_rfl) (zL5 hs hk)
def zL6 : List PA → COut
  | [.agg [.int .i64 zaG,.int .i64 zaH,.int .i64 zbd,.int .i64 zaw,.int .i64 zax,.int .i64 zao,.int .i64 zay,.int .i64 zae,.int .i64 zac,.int .i64 zak,.int .i64 zaf,.int .i64 zaq,.int .i64 zaz,.sl zam za9 zaA,.sl zar zbf zaE,.int .i64 za1]]=>.det (IsE zbi 3 za9 zaA/\IsE enc_3 1 zbf zaE/\p86 (⟨(⟨zaG,zaH,zbd,zaw,zax,zao,zay,(⟨zae,zac⟩:Span),(⟨zak,zaf⟩:Span),zaq,zaz,(⟨zam,zcx zaA⟩:(Sl Drift)),(⟨zar,zcS zaE⟩:(Sl Int))⟩:Plane),za1⟩:placed)=true) [.one (.bool (s86 (⟨(⟨zaG,zaH,zbd,zaw,zax,zao,zay,(⟨zae,zac⟩:Span),(⟨zak,zaf⟩:Span),zaq,zaz,(⟨zam,zcx zaA⟩:(Sl Drift)),(⟨zar,zcS zaE⟩:(Sl Int))⟩:Plane),za1⟩:placed)))]
  | _=>.no
theorem zQv:zaj Tryd.prog 86:=⟨_,rfl,rfl,by kernel_rfl⟩
theorem zWY:Ok Tryd.prog 86 zL6:=zbm zTZ zQv λ args K h=>by
  unfold zL6 at h
  split at h
  · rename_i zaG zaH zbd zaw zax zao zay zae zac zak zaf zaq zaz zam za9 zaA zar zbf zaE za1
    obtain⟨⟨⟨rfl,zaJ,rfl⟩,⟨rfl,zaL,rfl⟩,hs⟩,hk⟩:=h
    try rw[zca zaJ] at hs
    try rw[zca zaJ] at hk
    try rw[zbV zaL] at hs
    try rw[zbV zaL] at hk
    exact⟨(λ _ _=>[]),(λ _=>false),zL3,q86 (⟨(⟨zaG,zaH,zbd,zaw,zax,zao,zay,(⟨zae,zac⟩:Span),(⟨zak,zaf⟩:Span),zaq,zaz,(⟨zam,zaJ⟩:(Sl Drift)),(⟨zar,zaL⟩:(Sl Int))⟩:Plane),za1⟩:placed) K hs hk⟩
  · exact h.elim
abbrev T87:Tabs:=Tabs.nil
theorem zT0:TabsOk Tryd.prog T87:=TabsOk.nil
abbrev G87:Ctrs:=csm T87 (λ _ _=>[]) (λ _=>false)
def zQw:Ann:=⟨8,[(0,zK [1] [1]),(1,zK [2] [])],
 [],
 [],
 [],[]⟩
abbrev R87:=Bool
abbrev e87 (r:R87):List PA:=[.one (.bool r)]
section
variable {K:List PA->Prop}{p:placed}
def s87 (p:placed):Bool :=
  ((p.Plane.Drift.len:Int) == (0:Int))
end
theorem q87 (p:placed) (K:List PA->Prop) (hk:K (e87 (s87 p))):vcFun Tryd.prog G87 zQw 87 [.agg (zbh p)] K :=
  zaK (by kernel_rfl) hk
def zL7 : List PA → COut
  | [.agg [.int .i64 zaG,.int .i64 zaH,.int .i64 zbd,.int .i64 zaw,.int .i64 zax,.int .i64 zao,.int .i64 zay,.int .i64 zae,.int .i64 zac,.int .i64 zak,.int .i64 zaf,.int .i64 zaq,.int .i64 zaz,.sl zam za9 zaA,.sl zar zbf zaE,.int .i64 za1]]=>.det (IsE zbi 3 za9 zaA/\IsE enc_3 1 zbf zaE) [.one (.bool (s87 (⟨(⟨zaG,zaH,zbd,zaw,zax,zao,zay,(⟨zae,zac⟩:Span),(⟨zak,zaf⟩:Span),zaq,zaz,(⟨zam,zcx zaA⟩:(Sl Drift)),(⟨zar,zcS zaE⟩:(Sl Int))⟩:Plane),za1⟩:placed)))]
  | _=>.no
theorem zQx:zaj Tryd.prog 87:=⟨_,rfl,rfl,by kernel_rfl⟩
theorem zWZ:Ok Tryd.prog 87 zL7:=zbm zT0 zQx λ args K h=>by
  unfold zL7 at h
  split at h
  · rename_i zaG zaH zbd zaw zax zao zay zae zac zak zaf zaq zaz zam za9 zaA zar zbf zaE za1
    obtain⟨⟨⟨rfl,zaJ,rfl⟩,⟨rfl,zaL,rfl⟩⟩,hk⟩:=h
    try rw[zca zaJ] at hk
    try rw[zbV zaL] at hk
    exact⟨(λ _ _=>[]),(λ _=>false),zQw,q87 (⟨(⟨zaG,zaH,zbd,zaw,zax,zao,zay,(⟨zae,zac⟩:Span),(⟨zak,zaf⟩:Span),zaq,zaz,(⟨zam,zaJ⟩:(Sl Drift)),(⟨zar,zaL⟩:(Sl Int))⟩:Plane),za1⟩:placed) K hk⟩
  · exact h.elim
abbrev zU7:Tabs:=(Tabs.nil.addF 65 zss)
theorem zQy:TabsOk Tryd.prog zU7:=(TabsOk.nil.addF zNH)
abbrev zW0:Ctrs:=csm zU7 (λ _ _=>[]) (λ _=>false)
def zIm:Ann:=⟨18,[(0,zK [1,2] [2]),(1,zK [4] [])],
 [],
 [],
 [],[]⟩
abbrev zW1:=Bool
abbrev e115 (r:zW1):List PA:=[.one (.bool r)]
section
variable {K:List PA->Prop}{s:Span}{most:Int}
def zL8 (s:Span) (most:Int):Bool :=
  (cond (s65 s.Low (w64 (0 - most)) s.High)
 (decide (s.High<=most))
 false)
end
theorem zW2 (s:Span) (most:Int) (K:List PA->Prop) (hk:K (e115 (zL8 s most))):vcFun Tryd.prog zW0 zIm 115 [.agg (za2 s),.one (.int .i64 most)] K :=
  zaK (by kernel_rfl) (zt hk (λ hk=>hk) (λ hk=>hk))
def zDj : List PA → COut
  | [.agg [.int .i64 zd2,.int .i64 zdb],.one (.int .i64 a1)]=>.tot [.one (.bool (zL8 (⟨zd2,zdb⟩:Span) a1))]
  | _=>.no
theorem zL9:zaj Tryd.prog 115:=⟨_,rfl,rfl,by kernel_rfl⟩
theorem zT1:Ok Tryd.prog 115 zDj:=zbm zQy zL9 λ args K h=>by
  unfold zDj at h
  split at h
  · rename_i zd2 zdb a1
    have hk:=h
    exact⟨(λ _ _=>[]),(λ _=>false),zIm,zW2 (⟨zd2,zdb⟩:Span) a1 K hk⟩
  · exact h.elim
abbrev T88:Tabs:=((Tabs.nil.addF 65 zss).addF 115 zDj)
theorem zT2:TabsOk Tryd.prog T88:=((TabsOk.nil.addF zNH).addF zT1)
abbrev G88:Ctrs:=csm T88 (λ _ _=>[]) (λ _=>false)
def zn7:Ann:=⟨108,[(0,zK [1] [1]),(1,zK [1,21] [1]),(2,zK [2] []),(3,zK [1,40] [1]),(4,zK [2] []),(5,zK [1,66] [1]),(6,zK [2] []),(7,zK [2] [])],
 [],
 [(1,zK [1] [1]),(2,zK [1,21] [1]),(3,zK [1] [1]),(4,zK [1,40] [1]),(5,zK [1] [1]),(6,zK [1,66] [1]),(7,zK [1] [1])],
 [],[]⟩
abbrev R88:=Bool
abbrev e88 (r:R88):List PA:=[.one (.bool r)]
@[irreducible] def z88:=ptF Tryd.prog G88 zn7 Tryd.f88
abbrev k88 (K:List PA->Prop) (l:List Nat):Exit->St->Prop:=(ptR Tryd.prog G88 zn7 (cdF Tryd.f88 []) (zq4 Tryd.prog Tryd.f88 K) l []).2
section
variable {K:List PA->Prop}{p:placed}{zGo:Bool}{zGp:Bool}{zGq:Bool}
def zvN (p:placed):Bool :=
  (cond (decide ((w64 ((w64 ((w64 (p.Plane.First - p.Plane.Pitch)) - p.Plane.Spill)) + p.Plane.Offset.Low)) >= (-1000000:Int)))
 (decide ((w64 ((w64 ((w64 (p.Plane.First+(w64 ((w64 (p.Plane.Strips+(1:Int))) * p.Plane.Pitch))))+p.Plane.Spill))+p.Plane.Offset.High))<=(1000000:Int)))
 false)
theorem zMa (hk:K (e88 (zvN p))):z88 K [1,1,1,1] [] ⟨[(1,zp 1 0)],[(1,.box 107 (zm (zbh p)))],[]⟩:=zaK (by kernel_rfl) (zt hk (λ hk=>hk) (λ hk=>hk))
def zkX (p:placed) (zGq:Bool):Bool :=
  (cond zGq
 false
 (zvN p))
theorem zqq (hk:K (e88 (zkX p zGq))):z88 K [1,1,1,0,1] [] ⟨[(1,zp 1 0),(66,zB zGq)],[(1,.box 107 (zm (zbh p)))],[]⟩:=zaK (by kernel_rfl) (zt hk (λ hk=>hk) (λ hk=>(zMa hk)))
def zvO (p:placed):Bool :=
  (cond (!(zL8 p.Plane.Offset (1000000:Int)))
 (zkX p true)
 (cond (!(zL8 p.Plane.Clock (1000000000:Int)))
 (zkX p true)
 (cond (!(s65 p.Plane.Jitter (0:Int) (1000000:Int)))
 (zkX p true)
 (zkX p (!(s65 p.Plane.Least (0:Int) (1000000:Int)))))))
theorem zMb (Kc : Exit → St → Prop) (p : placed) : vc Tryd.prog G88 zn7 (cdF Tryd.f88 [1,1,1,0,0]) Kc ⟨[(1, zp 1 0)], [(1, .box 107 (zm (zbh p)))], []⟩ =
  (zcr (!(zL8 p.Plane.Offset (1000000:Int)))
 (Kc .normal ⟨[(1,zp 1 0),(66,zB true)],[(1,.box 107 (zm (zbh p)))],[]⟩)
 (zcr (!(zL8 p.Plane.Clock (1000000000:Int)))
 (Kc .normal ⟨[(1,zp 1 0),(66,zB true)],[(1,.box 107 (zm (zbh p)))],[]⟩)
 (zcr (!(s65 p.Plane.Jitter (0:Int) (1000000:Int)))
 (Kc .normal ⟨[(1,zp 1 0),(66,zB true)],[(1,.box 107 (zm (zbh p)))],[]⟩)
 (Kc .normal ⟨[(1,zp 1 0),(66,zB (!(s65 p.Plane.Least (0:Int) (1000000:Int))))],[(1,.box 107 (zm (zbh p)))],[]⟩)))):=by kernel_rfl
theorem zMc (hk:K (e88 (zvO p))):z88 K [1,1,1] [] ⟨[(1,zp 1 0)],[(1,.box 107 (zm (zbh p)))],[]⟩:=zaK (show _=vc Tryd.prog G88 zn7 (cdF Tryd.f88 [1,1,1,0,0]) (k88 K [1,1,1,0,0]) ⟨[(1,zp 1 0)],[(1,.box 107 (zm (zbh p)))],[]⟩ by kernel_rfl) (zaK (zMb _ p) (zt hk (λ hk=>(zaK (by kernel_rfl) (zqq hk))) (λ hk=>(zt hk (λ hk=>(zaK (by kernel_rfl) (zqq hk))) (λ hk=>(zt hk (λ hk=>(zaK (by kernel_rfl) (zqq hk))) (λ hk=>(zaK (by kernel_rfl) (zqq hk)))))))))
def znm (p:placed) (zGp:Bool):Bool :=
  (cond zGp
 false
 (zvO p))
theorem zvP (hk:K (e88 (znm p zGp))):z88 K [1,1,0,1] [] ⟨[(1,zp 1 0),(40,zB zGp)],[(1,.box 107 (zm (zbh p)))],[]⟩:=zaK (by kernel_rfl) (zt hk (λ hk=>hk) (λ hk=>(zMc hk)))
def zvQ (p:placed):Bool :=
  (cond (!(s65 p.Plane.Pitch (2:Int) (100000:Int)))
 (znm p true)
 (cond (!(s65 p.Plane.Strips (1:Int) (2000:Int)))
 (znm p true)
 (znm p (!(s65 p.Plane.Spill (0:Int) (100000:Int))))))
theorem zMd (Kc : Exit → St → Prop) (p : placed) : vc Tryd.prog G88 zn7 (cdF Tryd.f88 [1,1,0,0]) Kc ⟨[(1, zp 1 0)], [(1, .box 107 (zm (zbh p)))], []⟩ =
  (zcr (!(s65 p.Plane.Pitch (2:Int) (100000:Int)))
 (Kc .normal ⟨[(1,zp 1 0),(40,zB true)],[(1,.box 107 (zm (zbh p)))],[]⟩)
 (zcr (!(s65 p.Plane.Strips (1:Int) (2000:Int)))
 (Kc .normal ⟨[(1,zp 1 0),(40,zB true)],[(1,.box 107 (zm (zbh p)))],[]⟩)
 (Kc .normal ⟨[(1,zp 1 0),(40,zB (!(s65 p.Plane.Spill (0:Int) (100000:Int))))],[(1,.box 107 (zm (zbh p)))],[]⟩))):=by kernel_rfl
theorem zMe (hk:K (e88 (zvQ p))):z88 K [1,1] [] ⟨[(1,zp 1 0)],[(1,.box 107 (zm (zbh p)))],[]⟩:=zaK (show _=vc Tryd.prog G88 zn7 (cdF Tryd.f88 [1,1,0,0]) (k88 K [1,1,0,0]) ⟨[(1,zp 1 0)],[(1,.box 107 (zm (zbh p)))],[]⟩ by kernel_rfl) (zaK (zMd _ p) (zt hk (λ hk=>(zaK (by kernel_rfl) (zvP hk))) (λ hk=>(zt hk (λ hk=>(zaK (by kernel_rfl) (zvP hk))) (λ hk=>(zaK (by kernel_rfl) (zvP hk)))))))
def znn (p:placed) (zGo:Bool):Bool :=
  (cond zGo
 false
 (zvQ p))
theorem zvR (hk:K (e88 (znn p zGo))):z88 K [1,0,1] [] ⟨[(1,zp 1 0),(21,zB zGo)],[(1,.box 107 (zm (zbh p)))],[]⟩:=zaK (by kernel_rfl) (zt hk (λ hk=>hk) (λ hk=>(zMe hk)))
def zvS (p:placed):Bool :=
  (cond (!(s65 p.Plane.View (1:Int) (2:Int)))
 (znn p true)
 (cond (!(s65 p.Plane.Z (0:Int) (100000:Int)))
 (znn p true)
 (znn p (!(s65 p.Plane.First (-1000000:Int) (1000000:Int))))))
theorem zMf (Kc : Exit → St → Prop) (p : placed) : vc Tryd.prog G88 zn7 (cdF Tryd.f88 [1,0,0]) Kc ⟨[(1, zp 1 0)], [(1, .box 107 (zm (zbh p)))], []⟩ =
  (zcr (!(s65 p.Plane.View (1:Int) (2:Int)))
 (Kc .normal ⟨[(1,zp 1 0),(21,zB true)],[(1,.box 107 (zm (zbh p)))],[]⟩)
 (zcr (!(s65 p.Plane.Z (0:Int) (100000:Int)))
 (Kc .normal ⟨[(1,zp 1 0),(21,zB true)],[(1,.box 107 (zm (zbh p)))],[]⟩)
 (Kc .normal ⟨[(1,zp 1 0),(21,zB (!(s65 p.Plane.First (-1000000:Int) (1000000:Int))))],[(1,.box 107 (zm (zbh p)))],[]⟩))):=by kernel_rfl
theorem zMg (hk:K (e88 (zvS p))):z88 K [1] [] ⟨[(1,zp 1 0)],[(1,.box 107 (zm (zbh p)))],[]⟩:=zaK (show _=vc Tryd.prog G88 zn7 (cdF Tryd.f88 [1,0,0]) (k88 K [1,0,0]) ⟨[(1,zp 1 0)],[(1,.box 107 (zm (zbh p)))],[]⟩ by kernel_rfl) (zaK (zMf _ p) (zt hk (λ hk=>(zaK (by kernel_rfl) (zvR hk))) (λ hk=>(zt hk (λ hk=>(zaK (by kernel_rfl) (zvR hk))) (λ hk=>(zaK (by kernel_rfl) (zvR hk)))))))
def s88 (p:placed):Bool :=
  (zvS p)
end
theorem q88 (p:placed) (K:List PA->Prop) (hk:K (e88 (s88 p))):vcFun Tryd.prog G88 zn7 88 [.agg (zbh p)] K :=
  (zaK (by kernel_rfl) (show z88 K [] [] ⟨zg0 0 [.agg (zbh p)],[],[]⟩ from zaK (by kernel_rfl) (show z88 K [] [] ⟨[(0,zA (zbh p))],[],[]⟩ from zaK (by kernel_rfl) (zMg hk))))
def zMh : List PA → COut
  | [.agg [.int .i64 zaG,.int .i64 zaH,.int .i64 zbd,.int .i64 zaw,.int .i64 zax,.int .i64 zao,.int .i64 zay,.int .i64 zae,.int .i64 zac,.int .i64 zak,.int .i64 zaf,.int .i64 zaq,.int .i64 zaz,.sl zam za9 zaA,.sl zar zbf zaE,.int .i64 za1]]=>.det (IsE zbi 3 za9 zaA/\IsE enc_3 1 zbf zaE) [.one (.bool (s88 (⟨(⟨zaG,zaH,zbd,zaw,zax,zao,zay,(⟨zae,zac⟩:Span),(⟨zak,zaf⟩:Span),zaq,zaz,(⟨zam,zcx zaA⟩:(Sl Drift)),(⟨zar,zcS zaE⟩:(Sl Int))⟩:Plane),za1⟩:placed)))]
  | _=>.no
theorem zQz:zaj Tryd.prog 88:=⟨_,rfl,rfl,by kernel_rfl⟩
theorem zW3:Ok Tryd.prog 88 zMh:=zbm zT2 zQz λ args K h=>by
  unfold zMh at h
  split at h
  · rename_i zaG zaH zbd zaw zax zao zay zae zac zak zaf zaq zaz zam za9 zaA zar zbf zaE za1
    obtain⟨⟨⟨rfl,zaJ,rfl⟩,⟨rfl,zaL,rfl⟩⟩,hk⟩:=h
    try rw[zca zaJ] at hk
    try rw[zbV zaL] at hk
    exact⟨(λ _ _=>[]),(λ _=>false),zn7,q88 (⟨(⟨zaG,zaH,zbd,zaw,zax,zao,zay,(⟨zae,zac⟩:Span),(⟨zak,zaf⟩:Span),zaq,zaz,(⟨zam,zaJ⟩:(Sl Drift)),(⟨zar,zaL⟩:(Sl Int))⟩:Plane),za1⟩:placed) K hk⟩
  · exact h.elim
abbrev T64:Tabs:=(((((Tabs.nil.addF 65 zss).addF 85 zL2).addF 86 zL6).addF 87 zL7).addF 88 zMh)
theorem zT3:TabsOk Tryd.prog T64:=(((((TabsOk.nil.addF zNH).addF zWX).addF zWY).addF zWZ).addF zW3)
abbrev zU8:Ctrs:=csm T64 (λ _ _=>[]) (λ _=>false)
def zDk:Ann:=⟨69,[(0,zK [1] [1]),(1,zK [1,3] [1,3]),(2,zK [1,31] [1]),(3,zK [2] []),(4,zK [1,34,35,36] [1]),(5,zK [1,34,35,36,37] [1]),(6,zK [1,4,5,34,35,36] [1]),(7,zK [1,34,35,36,62] [1]),(8,zK [2] []),(9,zK [1,34,35,36] [1]),(10,zK [2] [])],
 [(5,zK [1,34,35,36] [1])],
 [(3,zK [1,31] [1]),(4,zK [1] [1]),(8,zK [1,34,35,36,62] [1])],
 [],[]⟩
abbrev zW4:=Bool
abbrev zNI (r:zW4):List PA:=[.one (.bool r)]
@[irreducible] def z64a:=ptF Tryd.prog zU8 zDk Tryd.f64
def zDl (a:placed) (zbe:Int):St:=⟨[(1,zp 1 0),(34,zS enc_3 1 a.Plane.Dead),(35,zI (a.Plane.Dead.len:Int)),(36,zI zbe)],[(1,.box 107 (zm (zbh (⟨(⟨(1:Int),a.Plane.View,a.Plane.Z,a.Plane.First,a.Plane.Pitch,a.Plane.Strips,a.Plane.Spill,a.Plane.Offset,a.Plane.Clock,a.Plane.Jitter,a.Plane.Least,a.Plane.Drift,a.Plane.Dead⟩:Plane),a.index⟩:placed))))],[]⟩
abbrev zDm (K:List PA->Prop) (a:placed) (X:St->Prop) (P:Int->Bool) (S:Int->Bool):Prop:=∀ ⦃zbe:Int⦄,P zbe=true->K (zNI (S zbe))->X (zDl a zbe)
section
variable {K:List PA->Prop}{a:placed}{zfx:Bool}{zbe:Int}{X2:St->Prop}{P2:Int->Bool}{S2:Int->Bool}{zfy:Int}{zfz:Bool}
def zjI (S2:Int->Bool) (a:placed) (zfy:Int) (zfz:Bool):Bool :=
  (cond zfz
 false
 (S2 (w64 (zfy+(1:Int)))))
def zjJ (P2:Int->Bool) (a:placed) (zfy:Int) (zfz:Bool):Bool :=
  (cond zfz
 true
 (P2 (w64 (zfy+(1:Int)))))
theorem zqr (hX2:zDm K a X2 P2 S2) (hs:zjJ P2 a zfy zfz=true) (hk:K (zNI (zjI S2 a zfy zfz))):z64a K [1,1,1,0,1,0,0,1,1,0,0,1,1] [X2] ⟨[(1,zp 1 0),(34,zS enc_3 1 a.Plane.Dead),(35,zI (a.Plane.Dead.len:Int)),(36,zI zfy),(62,zB zfz)],[(1,.box 107 (zm (zbh (⟨(⟨(1:Int),a.Plane.View,a.Plane.Z,a.Plane.First,a.Plane.Pitch,a.Plane.Strips,a.Plane.Spill,a.Plane.Offset,a.Plane.Clock,a.Plane.Jitter,a.Plane.Least,a.Plane.Drift,a.Plane.Dead⟩:Plane),a.index⟩:placed))))],[]⟩:=zaK (by kernel_rfl) (zc hs hk (λ hs hk=>hk) (λ hs hk=>(hX2 hs hk)))
def zhV (a:placed) (S2:Int->Bool) (zbe:Int):Bool :=
  (cond (decide (zbe < (a.Plane.Dead.len : Int)))
 (cond (!(s65 (a.Plane.Dead.get zbe.toNat) (0:Int) (w64 (a.Plane.Strips - (1:Int)))))
 (zjI S2 a zbe true)
 (cond (decide (zbe > (0:Int)))
 (zjI S2 a zbe (decide ((a.Plane.Dead.get zbe.toNat)<=(a.Plane.Dead.get ((w64 (zbe - (1:Int))).toNat)))))
 (zjI S2 a zbe false)))
 (decide ((a.Plane.Dead.len:Int)<=(100:Int))))
def zhW (a:placed) (P2:Int->Bool) (zbe:Int):Bool :=
  (cond (decide (zbe < (a.Plane.Dead.len : Int)))
 (decide ((0<=zbe/\zbe < (a.Plane.Dead.len:Int))) &&
 (cond (!(s65 (a.Plane.Dead.get zbe.toNat) (0:Int) (w64 (a.Plane.Strips - (1:Int)))))
 (zjJ P2 a zbe true)
 (cond (decide (zbe > (0:Int)))
 (decide ((0<=(w64 (zbe - (1:Int)))/\(w64 (zbe - (1:Int))) < (a.Plane.Dead.len:Int))) &&
 (zjJ P2 a zbe (decide ((a.Plane.Dead.get zbe.toNat)<=(a.Plane.Dead.get ((w64 (zbe - (1:Int))).toNat))))))
 (zjJ P2 a zbe false))))
 true)
def zgJ (a:placed):Nat->Int->Bool:=lpO (λ _=>default) (zhV a)
def zgK (a:placed):Nat->Int->Bool:=lpO (λ _=>false) (zhW a)
def zxZ (a:placed) (zbe:Int):Bool:=zgJ a Fuel zbe
def zx0 (a:placed) (zbe:Int):Bool:=zgK a Fuel zbe
theorem zGr (hs:zx0 a zbe=true) (hk:K (zNI (zxZ a zbe))):z64a K [1,1,1,0,1,0] [] (zDl a zbe) :=
  zl (λ X=>z64a K [1,1,1,0,1,0,0] [X]) (by kernel_rfl) λ X2 hX =>
  (show ∀ k, zDm K a X2 (zgK a k) (zgJ a k) from zgc _ _ (zhW a) (zhV a) (zDm K a X2)
 (by intro _ hs;exact absurd hs dqk)
 (by intro P2 S2 hX2 zbe hs hk;exact hX _ (zaK (by kernel_rfl) (zc hs hk (λ hs hk=>(zaX hs λ hc hs=>And.intro hc (zc hs hk (λ hs hk=>(zqr hX2 hs hk)) (λ hs hk=>(zc hs hk (λ hs hk=>(zaX hs λ hc hs=>And.intro hc (zqr hX2 hs hk))) (λ hs hk=>(zqr hX2 hs hk))))))) (λ hs hk=>hk))))) _ hs hk
def zjK (a:placed):Bool :=
  (zxZ a (0:Int))
def zjL (a:placed):Bool :=
  (zx0 a (0:Int))
theorem zGs (hs:zjL a=true) (hk:K (zNI (zjK a))):z64a K [1,1,1] [] ⟨[(1,zp 1 0)],[(1,.box 107 (zm (zbh (⟨(⟨(1:Int),a.Plane.View,a.Plane.Z,a.Plane.First,a.Plane.Pitch,a.Plane.Strips,a.Plane.Spill,a.Plane.Offset,a.Plane.Clock,a.Plane.Jitter,a.Plane.Least,a.Plane.Drift,a.Plane.Dead⟩:Plane),a.index⟩:placed))))],[]⟩:=zaK (by kernel_rfl) (zGr hs hk)
def zjM (a:placed) (zfx:Bool):Bool :=
  (cond zfx
 false
 (zjK a))
def zjN (a:placed) (zfx:Bool):Bool :=
  (cond zfx
 true
 (zjL a))
theorem zqs (hs:zjN a zfx=true) (hk:K (zNI (zjM a zfx))):z64a K [1,1,0,1] [] ⟨[(1,zp 1 0),(31,zB zfx)],[(1,.box 107 (zm (zbh (⟨(⟨(1:Int),a.Plane.View,a.Plane.Z,a.Plane.First,a.Plane.Pitch,a.Plane.Strips,a.Plane.Spill,a.Plane.Offset,a.Plane.Clock,a.Plane.Jitter,a.Plane.Least,a.Plane.Drift,a.Plane.Dead⟩:Plane),a.index⟩:placed))))],[]⟩:=zaK (by kernel_rfl) (zc hs hk (λ hs hk=>hk) (λ hs hk=>(zGs hs hk)))
def zRZ (a:placed):Bool :=
  (cond (!(s65 (1:Int) (1:Int) (3:Int)))
 (zjM a true)
 (cond (!(s88 (⟨(⟨(1:Int), a.Plane.View, a.Plane.Z, a.Plane.First, a.Plane.Pitch, a.Plane.Strips, a.Plane.Spill, a.Plane.Offset, a.Plane.Clock, a.Plane.Jitter, a.Plane.Least, a.Plane.Drift, a.Plane.Dead⟩ : Plane), a.index⟩ : placed)))
 (zjM a true)
 (zjM a (!(s85 (⟨(⟨(1:Int),a.Plane.View,a.Plane.Z,a.Plane.First,a.Plane.Pitch,a.Plane.Strips,a.Plane.Spill,a.Plane.Offset,a.Plane.Clock,a.Plane.Jitter,a.Plane.Least,a.Plane.Drift,a.Plane.Dead⟩:Plane),a.index⟩:placed))))))
def zR0 (a:placed):Bool :=
  (cond (!(s65 (1:Int) (1:Int) (3:Int)))
 (zjN a true)
 (cond (!(s88 (⟨(⟨(1:Int), a.Plane.View, a.Plane.Z, a.Plane.First, a.Plane.Pitch, a.Plane.Strips, a.Plane.Spill, a.Plane.Offset, a.Plane.Clock, a.Plane.Jitter, a.Plane.Least, a.Plane.Drift, a.Plane.Dead⟩ : Plane), a.index⟩ : placed)))
 (zjN a true)
 (zjN a (!(s85 (⟨(⟨(1:Int),a.Plane.View,a.Plane.Z,a.Plane.First,a.Plane.Pitch,a.Plane.Strips,a.Plane.Spill,a.Plane.Offset,a.Plane.Clock,a.Plane.Jitter,a.Plane.Least,a.Plane.Drift,a.Plane.Dead⟩:Plane),a.index⟩:placed))))))
end
theorem zW5 (a:placed) (K:List PA->Prop) (hs:zR0 a=true) (hk:K (zNI (zRZ a))):vcFun Tryd.prog zU8 zDk 64 [.agg [.int .i64 (1:Int),.int .i64 a.Plane.View,.int .i64 a.Plane.Z,.int .i64 a.Plane.First,.int .i64 a.Plane.Pitch,.int .i64 a.Plane.Strips,.int .i64 a.Plane.Spill,.int .i64 a.Plane.Offset.Low,.int .i64 a.Plane.Offset.High,.int .i64 a.Plane.Clock.Low,.int .i64 a.Plane.Clock.High,.int .i64 a.Plane.Jitter,.int .i64 a.Plane.Least,.sl a.Plane.Drift.len 3 (λ i=>zbi (a.Plane.Drift.get i)),.sl a.Plane.Dead.len 1 (λ i=>enc_3 (a.Plane.Dead.get i)),.int .i64 a.index]] K :=
  zaK (by kernel_rfl) (zc hs hk (λ hs hk=>(zqs hs hk)) (λ hs hk=>(And.intro (And.intro (zE zbi 3 a.Plane.Drift.get) (zE enc_3 1 a.Plane.Dead.get)) (zc hs hk (λ hs hk=>(zqs hs hk)) (λ hs hk=>(And.intro (And.intro (zE zbi 3 a.Plane.Drift.get) (zE enc_3 1 a.Plane.Dead.get)) (zqs hs hk)))))))
abbrev zU9:Ctrs:=csm T64 (λ _ _=>[]) (λ _=>false)
def zDn:Ann:=⟨69,[(0,zK [1] [1]),(1,zK [1,3] [1,3]),(2,zK [1,31] [1]),(3,zK [2] []),(4,zK [1,34,35,36] [1]),(5,zK [1,34,35,36,37] [1]),(6,zK [1,4,5,34,35,36] [1]),(7,zK [1,34,35,36,62] [1]),(8,zK [2] []),(9,zK [1,34,35,36] [1]),(10,zK [2] [])],
 [(5,zK [1,34,35,36] [1])],
 [(3,zK [1,31] [1]),(4,zK [1] [1]),(8,zK [1,34,35,36,62] [1])],
 [],[]⟩
abbrev zW6:=Bool
abbrev zNJ (r:zW6):List PA:=[.one (.bool r)]
@[irreducible] def z64b:=ptF Tryd.prog zU9 zDn Tryd.f64
def zDo (a:placed) (zbe:Int):St:=⟨[(1,zp 1 0),(34,zS enc_3 1 a.Plane.Dead),(35,zI (a.Plane.Dead.len:Int)),(36,zI zbe)],[(1,.box 107 (zm (zbh (⟨(⟨(2:Int),a.Plane.View,a.Plane.Z,a.Plane.First,a.Plane.Pitch,a.Plane.Strips,a.Plane.Spill,a.Plane.Offset,a.Plane.Clock,a.Plane.Jitter,a.Plane.Least,a.Plane.Drift,a.Plane.Dead⟩:Plane),a.index⟩:placed))))],[]⟩
abbrev zDp (K:List PA->Prop) (a:placed) (X:St->Prop) (P:Int->Bool) (S:Int->Bool):Prop:=∀ ⦃zbe:Int⦄,P zbe=true->K (zNJ (S zbe))->X (zDo a zbe)
section
variable {K:List PA->Prop}{a:placed}{zfx:Bool}{zbe:Int}{X2:St->Prop}{P2:Int->Bool}{S2:Int->Bool}{zfy:Int}{zfz:Bool}
def zl6 (S2:Int->Bool) (a:placed) (zfy:Int) (zfz:Bool):Bool :=
  (cond zfz
 false
 (S2 (w64 (zfy+(1:Int)))))
def zl7 (P2:Int->Bool) (a:placed) (zfy:Int) (zfz:Bool):Bool :=
  (cond zfz
 true
 (P2 (w64 (zfy+(1:Int)))))
theorem zqu (hX2:zDp K a X2 P2 S2) (hs:zl7 P2 a zfy zfz=true) (hk:K (zNJ (zl6 S2 a zfy zfz))):z64b K [1,1,1,0,1,0,0,1,1,0,0,1,1] [X2] ⟨[(1,zp 1 0),(34,zS enc_3 1 a.Plane.Dead),(35,zI (a.Plane.Dead.len:Int)),(36,zI zfy),(62,zB zfz)],[(1,.box 107 (zm (zbh (⟨(⟨(2:Int),a.Plane.View,a.Plane.Z,a.Plane.First,a.Plane.Pitch,a.Plane.Strips,a.Plane.Spill,a.Plane.Offset,a.Plane.Clock,a.Plane.Jitter,a.Plane.Least,a.Plane.Drift,a.Plane.Dead⟩:Plane),a.index⟩:placed))))],[]⟩:=zaK (by kernel_rfl) (zc hs hk (λ hs hk=>hk) (λ hs hk=>(hX2 hs hk)))
def zx1 (a:placed) (S2:Int->Bool) (zbe:Int):Bool :=
  (cond (decide (zbe < (a.Plane.Dead.len : Int)))
 (cond (!(s65 (a.Plane.Dead.get zbe.toNat) (0:Int) (w64 (a.Plane.Strips - (1:Int)))))
 (zl6 S2 a zbe true)
 (cond (decide (zbe > (0:Int)))
 (zl6 S2 a zbe (decide ((a.Plane.Dead.get zbe.toNat)<=(a.Plane.Dead.get ((w64 (zbe - (1:Int))).toNat)))))
 (zl6 S2 a zbe false)))
 (decide ((a.Plane.Dead.len:Int)<=(100:Int))))
def zx2 (a:placed) (P2:Int->Bool) (zbe:Int):Bool :=
  (cond (decide (zbe < (a.Plane.Dead.len : Int)))
 (decide ((0<=zbe/\zbe < (a.Plane.Dead.len:Int))) &&
 (cond (!(s65 (a.Plane.Dead.get zbe.toNat) (0:Int) (w64 (a.Plane.Strips - (1:Int)))))
 (zl7 P2 a zbe true)
 (cond (decide (zbe > (0:Int)))
 (decide ((0<=(w64 (zbe - (1:Int)))/\(w64 (zbe - (1:Int))) < (a.Plane.Dead.len:Int))) &&
 (zl7 P2 a zbe (decide ((a.Plane.Dead.get zbe.toNat)<=(a.Plane.Dead.get ((w64 (zbe - (1:Int))).toNat))))))
 (zl7 P2 a zbe false))))
 true)
def zx3 (a:placed):Nat->Int->Bool:=lpO (λ _=>default) (zx1 a)
def zx4 (a:placed):Nat->Int->Bool:=lpO (λ _=>false) (zx2 a)
def zx5 (a:placed) (zbe:Int):Bool:=zx3 a Fuel zbe
def zx6 (a:placed) (zbe:Int):Bool:=zx4 a Fuel zbe
theorem zGt (hs:zx6 a zbe=true) (hk:K (zNJ (zx5 a zbe))):z64b K [1,1,1,0,1,0] [] (zDo a zbe) :=
  zl (λ X=>z64b K [1,1,1,0,1,0,0] [X]) (by kernel_rfl) λ X2 hX =>
  (show ∀ k, zDp K a X2 (zx4 a k) (zx3 a k) from zgc _ _ (zx2 a) (zx1 a) (zDp K a X2)
 (by intro _ hs;exact absurd hs dqk)
 (by intro P2 S2 hX2 zbe hs hk;exact hX _ (zaK (by kernel_rfl) (zc hs hk (λ hs hk=>(zaX hs λ hc hs=>And.intro hc (zc hs hk (λ hs hk=>(zqu hX2 hs hk)) (λ hs hk=>(zc hs hk (λ hs hk=>(zaX hs λ hc hs=>And.intro hc (zqu hX2 hs hk))) (λ hs hk=>(zqu hX2 hs hk))))))) (λ hs hk=>hk))))) _ hs hk
def zl8 (a:placed):Bool :=
  (zx5 a (0:Int))
def zl9 (a:placed):Bool :=
  (zx6 a (0:Int))
theorem zGu (hs:zl9 a=true) (hk:K (zNJ (zl8 a))):z64b K [1,1,1] [] ⟨[(1,zp 1 0)],[(1,.box 107 (zm (zbh (⟨(⟨(2:Int),a.Plane.View,a.Plane.Z,a.Plane.First,a.Plane.Pitch,a.Plane.Strips,a.Plane.Spill,a.Plane.Offset,a.Plane.Clock,a.Plane.Jitter,a.Plane.Least,a.Plane.Drift,a.Plane.Dead⟩:Plane),a.index⟩:placed))))],[]⟩:=zaK (by kernel_rfl) (zGt hs hk)
def zjO (a:placed) (zfx:Bool):Bool :=
  (cond zfx
 false
 (zl8 a))
def zjP (a:placed) (zfx:Bool):Bool :=
  (cond zfx
 true
 (zl9 a))
theorem zqv (hs:zjP a zfx=true) (hk:K (zNJ (zjO a zfx))):z64b K [1,1,0,1] [] ⟨[(1,zp 1 0),(31,zB zfx)],[(1,.box 107 (zm (zbh (⟨(⟨(2:Int),a.Plane.View,a.Plane.Z,a.Plane.First,a.Plane.Pitch,a.Plane.Strips,a.Plane.Spill,a.Plane.Offset,a.Plane.Clock,a.Plane.Jitter,a.Plane.Least,a.Plane.Drift,a.Plane.Dead⟩:Plane),a.index⟩:placed))))],[]⟩:=zaK (by kernel_rfl) (zc hs hk (λ hs hk=>hk) (λ hs hk=>(zGu hs hk)))
def zR1 (a:placed):Bool :=
  (cond (!(s65 (2:Int) (1:Int) (3:Int)))
 (zjO a true)
 (cond (!(s88 (⟨(⟨(2:Int), a.Plane.View, a.Plane.Z, a.Plane.First, a.Plane.Pitch, a.Plane.Strips, a.Plane.Spill, a.Plane.Offset, a.Plane.Clock, a.Plane.Jitter, a.Plane.Least, a.Plane.Drift, a.Plane.Dead⟩ : Plane), a.index⟩ : placed)))
 (zjO a true)
 (zjO a (!(s86 (⟨(⟨(2:Int),a.Plane.View,a.Plane.Z,a.Plane.First,a.Plane.Pitch,a.Plane.Strips,a.Plane.Spill,a.Plane.Offset,a.Plane.Clock,a.Plane.Jitter,a.Plane.Least,a.Plane.Drift,a.Plane.Dead⟩:Plane),a.index⟩:placed))))))
def zR2 (a:placed):Bool :=
  (cond (!(s65 (2:Int) (1:Int) (3:Int)))
 (zjP a true)
 (cond (!(s88 (⟨(⟨(2:Int), a.Plane.View, a.Plane.Z, a.Plane.First, a.Plane.Pitch, a.Plane.Strips, a.Plane.Spill, a.Plane.Offset, a.Plane.Clock, a.Plane.Jitter, a.Plane.Least, a.Plane.Drift, a.Plane.Dead⟩ : Plane), a.index⟩ : placed)))
 (zjP a true)
 (decide ((p86 (⟨(⟨(2:Int),a.Plane.View,a.Plane.Z,a.Plane.First,a.Plane.Pitch,a.Plane.Strips,a.Plane.Spill,a.Plane.Offset,a.Plane.Clock,a.Plane.Jitter,a.Plane.Least,a.Plane.Drift,a.Plane.Dead⟩:Plane),a.index⟩:placed)=true)) &&
 (zjP a (!(s86 (⟨(⟨(2:Int),a.Plane.View,a.Plane.Z,a.Plane.First,a.Plane.Pitch,a.Plane.Strips,a.Plane.Spill,a.Plane.Offset,a.Plane.Clock,a.Plane.Jitter,a.Plane.Least,a.Plane.Drift,a.Plane.Dead⟩:Plane),a.index⟩:placed)))))))
end
theorem zW7 (a:placed) (K:List PA->Prop) (hs:zR2 a=true) (hk:K (zNJ (zR1 a))):vcFun Tryd.prog zU9 zDn 64 [.agg [.int .i64 (2:Int),.int .i64 a.Plane.View,.int .i64 a.Plane.Z,.int .i64 a.Plane.First,.int .i64 a.Plane.Pitch,.int .i64 a.Plane.Strips,.int .i64 a.Plane.Spill,.int .i64 a.Plane.Offset.Low,.int .i64 a.Plane.Offset.High,.int .i64 a.Plane.Clock.Low,.int .i64 a.Plane.Clock.High,.int .i64 a.Plane.Jitter,.int .i64 a.Plane.Least,.sl a.Plane.Drift.len 3 (λ i=>zbi (a.Plane.Drift.get i)),.sl a.Plane.Dead.len 1 (λ i=>enc_3 (a.Plane.Dead.get i)),.int .i64 a.index]] K :=
  zaK (by kernel_rfl) (zc hs hk (λ hs hk=>(zqv hs hk)) (λ hs hk=>(And.intro (And.intro (zE zbi 3 a.Plane.Drift.get) (zE enc_3 1 a.Plane.Dead.get)) (zc hs hk (λ hs hk=>(zqv hs hk)) (λ hs hk=>(zaX hs λ hc hs=>And.intro (And.intro (zE zbi 3 a.Plane.Drift.get) (And.intro (zE enc_3 1 a.Plane.Dead.get) hc)) (zqv hs hk)))))))
abbrev zVa:Ctrs:=csm T64 (λ _ _=>[]) (λ _=>false)
def zDq:Ann:=⟨69,[(0,zK [1] [1]),(1,zK [1,3] [1,3]),(2,zK [1,31] [1]),(3,zK [2] []),(4,zK [1,34,35,36] [1]),(5,zK [1,34,35,36,37] [1]),(6,zK [1,4,5,34,35,36] [1]),(7,zK [1,34,35,36,62] [1]),(8,zK [2] []),(9,zK [1,34,35,36] [1]),(10,zK [2] [])],
 [(5,zK [1,34,35,36] [1])],
 [(3,zK [1,31] [1]),(4,zK [1] [1]),(8,zK [1,34,35,36,62] [1])],
 [],[]⟩
abbrev zW8:=Bool
abbrev zNK (r:zW8):List PA:=[.one (.bool r)]
@[irreducible] def z64c:=ptF Tryd.prog zVa zDq Tryd.f64
def zDr (a:placed) (zbe:Int):St:=⟨[(1,zp 1 0),(34,zS enc_3 1 a.Plane.Dead),(35,zI (a.Plane.Dead.len:Int)),(36,zI zbe)],[(1,.box 107 (zm (zbh (⟨(⟨(3:Int),a.Plane.View,a.Plane.Z,a.Plane.First,a.Plane.Pitch,a.Plane.Strips,a.Plane.Spill,a.Plane.Offset,a.Plane.Clock,a.Plane.Jitter,a.Plane.Least,a.Plane.Drift,a.Plane.Dead⟩:Plane),a.index⟩:placed))))],[]⟩
abbrev zDs (K:List PA->Prop) (a:placed) (X:St->Prop) (P:Int->Bool) (S:Int->Bool):Prop:=∀ ⦃zbe:Int⦄,P zbe=true->K (zNK (S zbe))->X (zDr a zbe)
section
variable {K:List PA->Prop}{a:placed}{zfx:Bool}{zbe:Int}{X2:St->Prop}{P2:Int->Bool}{S2:Int->Bool}{zfy:Int}{zfz:Bool}
def zma (S2:Int->Bool) (a:placed) (zfy:Int) (zfz:Bool):Bool :=
  (cond zfz
 false
 (S2 (w64 (zfy+(1:Int)))))
def zmb (P2:Int->Bool) (a:placed) (zfy:Int) (zfz:Bool):Bool :=
  (cond zfz
 true
 (P2 (w64 (zfy+(1:Int)))))
theorem zqw (hX2:zDs K a X2 P2 S2) (hs:zmb P2 a zfy zfz=true) (hk:K (zNK (zma S2 a zfy zfz))):z64c K [1,1,1,0,1,0,0,1,1,0,0,1,1] [X2] ⟨[(1,zp 1 0),(34,zS enc_3 1 a.Plane.Dead),(35,zI (a.Plane.Dead.len:Int)),(36,zI zfy),(62,zB zfz)],[(1,.box 107 (zm (zbh (⟨(⟨(3:Int),a.Plane.View,a.Plane.Z,a.Plane.First,a.Plane.Pitch,a.Plane.Strips,a.Plane.Spill,a.Plane.Offset,a.Plane.Clock,a.Plane.Jitter,a.Plane.Least,a.Plane.Drift,a.Plane.Dead⟩:Plane),a.index⟩:placed))))],[]⟩:=zaK (by kernel_rfl) (zc hs hk (λ hs hk=>hk) (λ hs hk=>(hX2 hs hk)))
def zx7 (a:placed) (S2:Int->Bool) (zbe:Int):Bool :=
  (cond (decide (zbe < (a.Plane.Dead.len : Int)))
 (cond (!(s65 (a.Plane.Dead.get zbe.toNat) (0:Int) (w64 (a.Plane.Strips - (1:Int)))))
 (zma S2 a zbe true)
 (cond (decide (zbe > (0:Int)))
 (zma S2 a zbe (decide ((a.Plane.Dead.get zbe.toNat)<=(a.Plane.Dead.get ((w64 (zbe - (1:Int))).toNat)))))
 (zma S2 a zbe false)))
 (decide ((a.Plane.Dead.len:Int)<=(100:Int))))
def zx8 (a:placed) (P2:Int->Bool) (zbe:Int):Bool :=
  (cond (decide (zbe < (a.Plane.Dead.len : Int)))
 (decide ((0<=zbe/\zbe < (a.Plane.Dead.len:Int))) &&
 (cond (!(s65 (a.Plane.Dead.get zbe.toNat) (0:Int) (w64 (a.Plane.Strips - (1:Int)))))
 (zmb P2 a zbe true)
 (cond (decide (zbe > (0:Int)))
 (decide ((0<=(w64 (zbe - (1:Int)))/\(w64 (zbe - (1:Int))) < (a.Plane.Dead.len:Int))) &&
 (zmb P2 a zbe (decide ((a.Plane.Dead.get zbe.toNat)<=(a.Plane.Dead.get ((w64 (zbe - (1:Int))).toNat))))))
 (zmb P2 a zbe false))))
 true)
def zx9 (a:placed):Nat->Int->Bool:=lpO (λ _=>default) (zx7 a)
def zya (a:placed):Nat->Int->Bool:=lpO (λ _=>false) (zx8 a)
def zyb (a:placed) (zbe:Int):Bool:=zx9 a Fuel zbe
def zyc (a:placed) (zbe:Int):Bool:=zya a Fuel zbe
theorem zGv (hs:zyc a zbe=true) (hk:K (zNK (zyb a zbe))):z64c K [1,1,1,0,1,0] [] (zDr a zbe) :=
  zl (λ X=>z64c K [1,1,1,0,1,0,0] [X]) (by kernel_rfl) λ X2 hX =>
  (show ∀ k, zDs K a X2 (zya a k) (zx9 a k) from zgc _ _ (zx8 a) (zx7 a) (zDs K a X2)
 (by intro _ hs;exact absurd hs dqk)
 (by intro P2 S2 hX2 zbe hs hk;exact hX _ (zaK (by kernel_rfl) (zc hs hk (λ hs hk=>(zaX hs λ hc hs=>And.intro hc (zc hs hk (λ hs hk=>(zqw hX2 hs hk)) (λ hs hk=>(zc hs hk (λ hs hk=>(zaX hs λ hc hs=>And.intro hc (zqw hX2 hs hk))) (λ hs hk=>(zqw hX2 hs hk))))))) (λ hs hk=>hk))))) _ hs hk
def zmc (a:placed):Bool :=
  (zyb a (0:Int))
def zmd (a:placed):Bool :=
  (zyc a (0:Int))
theorem zGw (hs:zmd a=true) (hk:K (zNK (zmc a))):z64c K [1,1,1] [] ⟨[(1,zp 1 0)],[(1,.box 107 (zm (zbh (⟨(⟨(3:Int),a.Plane.View,a.Plane.Z,a.Plane.First,a.Plane.Pitch,a.Plane.Strips,a.Plane.Spill,a.Plane.Offset,a.Plane.Clock,a.Plane.Jitter,a.Plane.Least,a.Plane.Drift,a.Plane.Dead⟩:Plane),a.index⟩:placed))))],[]⟩:=zaK (by kernel_rfl) (zGv hs hk)
def zjQ (a:placed) (zfx:Bool):Bool :=
  (cond zfx
 false
 (zmc a))
def zjR (a:placed) (zfx:Bool):Bool :=
  (cond zfx
 true
 (zmd a))
theorem zqx (hs:zjR a zfx=true) (hk:K (zNK (zjQ a zfx))):z64c K [1,1,0,1] [] ⟨[(1,zp 1 0),(31,zB zfx)],[(1,.box 107 (zm (zbh (⟨(⟨(3:Int),a.Plane.View,a.Plane.Z,a.Plane.First,a.Plane.Pitch,a.Plane.Strips,a.Plane.Spill,a.Plane.Offset,a.Plane.Clock,a.Plane.Jitter,a.Plane.Least,a.Plane.Drift,a.Plane.Dead⟩:Plane),a.index⟩:placed))))],[]⟩:=zaK (by kernel_rfl) (zc hs hk (λ hs hk=>hk) (λ hs hk=>(zGw hs hk)))
def zR3 (a:placed):Bool :=
  (cond (!(s65 (3:Int) (1:Int) (3:Int)))
 (zjQ a true)
 (cond (!(s88 (⟨(⟨(3:Int), a.Plane.View, a.Plane.Z, a.Plane.First, a.Plane.Pitch, a.Plane.Strips, a.Plane.Spill, a.Plane.Offset, a.Plane.Clock, a.Plane.Jitter, a.Plane.Least, a.Plane.Drift, a.Plane.Dead⟩ : Plane), a.index⟩ : placed)))
 (zjQ a true)
 (zjQ a (!(s87 (⟨(⟨(3:Int),a.Plane.View,a.Plane.Z,a.Plane.First,a.Plane.Pitch,a.Plane.Strips,a.Plane.Spill,a.Plane.Offset,a.Plane.Clock,a.Plane.Jitter,a.Plane.Least,a.Plane.Drift,a.Plane.Dead⟩:Plane),a.index⟩:placed))))))
def zR4 (a:placed):Bool :=
  (cond (!(s65 (3:Int) (1:Int) (3:Int)))
 (zjR a true)
 (cond (!(s88 (⟨(⟨(3:Int), a.Plane.View, a.Plane.Z, a.Plane.First, a.Plane.Pitch, a.Plane.Strips, a.Plane.Spill, a.Plane.Offset, a.Plane.Clock, a.Plane.Jitter, a.Plane.Least, a.Plane.Drift, a.Plane.Dead⟩ : Plane), a.index⟩ : placed)))
 (zjR a true)
 (zjR a (!(s87 (⟨(⟨(3:Int),a.Plane.View,a.Plane.Z,a.Plane.First,a.Plane.Pitch,a.Plane.Strips,a.Plane.Spill,a.Plane.Offset,a.Plane.Clock,a.Plane.Jitter,a.Plane.Least,a.Plane.Drift,a.Plane.Dead⟩:Plane),a.index⟩:placed))))))
end
theorem zW9 (a:placed) (K:List PA->Prop) (hs:zR4 a=true) (hk:K (zNK (zR3 a))):vcFun Tryd.prog zVa zDq 64 [.agg [.int .i64 (3:Int),.int .i64 a.Plane.View,.int .i64 a.Plane.Z,.int .i64 a.Plane.First,.int .i64 a.Plane.Pitch,.int .i64 a.Plane.Strips,.int .i64 a.Plane.Spill,.int .i64 a.Plane.Offset.Low,.int .i64 a.Plane.Offset.High,.int .i64 a.Plane.Clock.Low,.int .i64 a.Plane.Clock.High,.int .i64 a.Plane.Jitter,.int .i64 a.Plane.Least,.sl a.Plane.Drift.len 3 (λ i=>zbi (a.Plane.Drift.get i)),.sl a.Plane.Dead.len 1 (λ i=>enc_3 (a.Plane.Dead.get i)),.int .i64 a.index]] K :=
  zaK (by kernel_rfl) (zc hs hk (λ hs hk=>(zqx hs hk)) (λ hs hk=>(And.intro (And.intro (zE zbi 3 a.Plane.Drift.get) (zE enc_3 1 a.Plane.Dead.get)) (zc hs hk (λ hs hk=>(zqx hs hk)) (λ hs hk=>(And.intro (And.intro (zE zbi 3 a.Plane.Drift.get) (zE enc_3 1 a.Plane.Dead.get)) (zqx hs hk)))))))
def s64 (a:placed):Bool:=match a.Plane.Kind == 1 with | true=>zRZ a | false=>match a.Plane.Kind == 2 with | true=>zR1 a | false=>match a.Plane.Kind == 3 with | true=>zR3 a | false=>false
def p64 (a:placed):Bool:=match a.Plane.Kind == 1 with | true=>zR0 a | false=>match a.Plane.Kind == 2 with | true=>zR2 a | false=>match a.Plane.Kind == 3 with | true=>zR4 a | false=>false
def zMi : List PA → COut
  | [.agg [.int .i64 zaG,.int .i64 zaH,.int .i64 zbd,.int .i64 zaw,.int .i64 zax,.int .i64 zao,.int .i64 zay,.int .i64 zae,.int .i64 zac,.int .i64 zak,.int .i64 zaf,.int .i64 zaq,.int .i64 zaz,.sl zam za9 zaA,.sl zar zbf zaE,.int .i64 za1]]=>.det (IsE zbi 3 za9 zaA/\IsE enc_3 1 zbf zaE/\p64 (⟨(⟨zaG,zaH,zbd,zaw,zax,zao,zay,(⟨zae,zac⟩:Span),(⟨zak,zaf⟩:Span),zaq,zaz,(⟨zam,zcx zaA⟩:(Sl Drift)),(⟨zar,zcS zaE⟩:(Sl Int))⟩:Plane),za1⟩:placed)=true) [.one (.bool (s64 (⟨(⟨zaG,zaH,zbd,zaw,zax,zao,zay,(⟨zae,zac⟩:Span),(⟨zak,zaf⟩:Span),zaq,zaz,(⟨zam,zcx zaA⟩:(Sl Drift)),(⟨zar,zcS zaE⟩:(Sl Int))⟩:Plane),za1⟩:placed)))]
  | _=>.no
theorem zQA:zaj Tryd.prog 64:=⟨_,rfl,rfl,by kernel_rfl⟩
theorem zXa:Ok Tryd.prog 64 zMi:=zbm zT3 zQA λ args K h=>by
  unfold zMi at h
  split at h
  · rename_i zaG zaH zbd zaw zax zao zay zae zac zak zaf zaq zaz zam za9 zaA zar zbf zaE za1
    obtain⟨⟨⟨rfl,zaJ,rfl⟩,⟨rfl,zaL,rfl⟩,hs⟩,hk⟩:=h
    try rw[zca zaJ] at hs hk
    try rw[zbV zaL] at hs hk
    by_cases h1:zaG=1
    · subst h1;exact⟨λ _ _=>[],λ _=>false,zDk,zW5 (⟨(⟨1,zaH,zbd,zaw,zax,zao,zay,(⟨zae,zac⟩:Span),(⟨zak,zaf⟩:Span),zaq,zaz,(⟨zam,zaJ⟩:(Sl Drift)),(⟨zar,zaL⟩:(Sl Int))⟩:Plane),za1⟩:placed) K hs hk⟩
    by_cases h2:zaG=2
    · subst h2;exact⟨λ _ _=>[],λ _=>false,zDn,zW7 (⟨(⟨2,zaH,zbd,zaw,zax,zao,zay,(⟨zae,zac⟩:Span),(⟨zak,zaf⟩:Span),zaq,zaz,(⟨zam,zaJ⟩:(Sl Drift)),(⟨zar,zaL⟩:(Sl Int))⟩:Plane),za1⟩:placed) K hs hk⟩
    by_cases h3:zaG=3
    · subst h3;exact⟨λ _ _=>[],λ _=>false,zDq,zW9 (⟨(⟨3,zaH,zbd,zaw,zax,zao,zay,(⟨zae,zac⟩:Span),(⟨zak,zaf⟩:Span),zaq,zaz,(⟨zam,zaJ⟩:(Sl Drift)),(⟨zar,zaL⟩:(Sl Int))⟩:Plane),za1⟩:placed) K hs hk⟩
    unfold p64 at hs
    rw[show (((⟨(⟨zaG,zaH,zbd,zaw,zax,zao,zay,(⟨zae,zac⟩:Span),(⟨zak,zaf⟩:Span),zaq,zaz,(⟨zam,zaJ⟩:(Sl Drift)),(⟨zar,zaL⟩:(Sl Int))⟩:Plane),za1⟩:placed):placed).Plane.Kind == 1)=false from dqU.2 h1,show (((⟨(⟨zaG,zaH,zbd,zaw,zax,zao,zay,(⟨zae,zac⟩:Span),(⟨zak,zaf⟩:Span),zaq,zaz,(⟨zam,zaJ⟩:(Sl Drift)),(⟨zar,zaL⟩:(Sl Int))⟩:Plane),za1⟩:placed):placed).Plane.Kind == 2)=false from dqU.2 h2,show (((⟨(⟨zaG,zaH,zbd,zaw,zax,zao,zay,(⟨zae,zac⟩:Span),(⟨zak,zaf⟩:Span),zaq,zaz,(⟨zam,zaJ⟩:(Sl Drift)),(⟨zar,zaL⟩:(Sl Int))⟩:Plane),za1⟩:placed):placed).Plane.Kind == 3)=false from dqU.2 h3] at hs
    cases hs
  · exact h.elim
abbrev T36:Tabs:=((Tabs.nil.addF 64 zMi).addF 65 zss)
theorem zT4:TabsOk Tryd.prog T36:=((TabsOk.nil.addF zXa).addF zNH)
abbrev G36:Ctrs:=csm T36 (λ _ _=>[]) (λ _=>false)
def zMj:Ann:=⟨41,[(0,zK [1] [1]),(1,zK [1,7,8,9] [1]),(2,zK [1,7,8,9,10] [1]),(3,zK [1,3,4,7,8,9] [1,4]),(4,zK [1,3,4,5,7,8,9] [1,4,5]),(5,zK [1,7,8,9,35] [1]),(6,zK [2] []),(7,zK [1,7,8,9] [1]),(8,zK [2] [])],
 [(2,zK [1,7,8,9] [1])],
 [(6,zK [1,7,8,9,35] [1])],
 [],[]⟩
abbrev R36:=Bool
abbrev e36 (r:R36):List PA:=[.one (.bool r)]
@[irreducible] def z36:=ptF Tryd.prog G36 zMj Tryd.f36
def zIn (zbX:(Sl Plane)) (zaY:Int) (zcw:Int) (sv0:(Sl Plane)) (zlu:Nat->List PV) (zcb:Nat->List PV):St:=⟨[(1,zp 1 0),(7,zP (.sl zbX.len 15 zlu)),(8,zI zaY),(9,zI zcw)],[(1,.box 24 [.p (.sl sv0.len 15 zcb)])],[]⟩
abbrev zMk (K:List PA->Prop) (X:St->Prop) (P:(Sl Plane)->Int->Int->(Sl Plane)->Bool) (S:(Sl Plane)->Int->Int->(Sl Plane)->Bool):Prop:=∀ ⦃zbX:(Sl Plane)⦄ ⦃zaY:Int⦄ ⦃zcw:Int⦄ ⦃sv0:(Sl Plane)⦄ ⦃zlu:Nat->List PV⦄ ⦃zcb:Nat->List PV⦄,P zbX zaY zcw sv0=true->K (e36 (S zbX zaY zcw sv0))->zlu=zg enc_35 zbX->zcb=zg enc_35 sv0->X (zIn zbX zaY zcw sv0 zlu zcb)
section
variable {K:List PA->Prop}{s:Setup}{zbX:(Sl Plane)}{zaY:Int}{zcw:Int}{sv0:(Sl Plane)}{zlu:Nat->List PV}{zcb:Nat->List PV}{X0:St->Prop}{P0:(Sl Plane)->Int->Int->(Sl Plane)->Bool}{S0:(Sl Plane)->Int->Int->(Sl Plane)->Bool}{zfg:(Sl Plane)}{zet:Int}{zvI:Int}{zvT:Bool}{sv1:(Sl Plane)}{zIo:Nat->List PV}{zd3:Nat->List PV}
def zno (S0:(Sl Plane)->Int->Int->(Sl Plane)->Bool) (zfg:(Sl Plane)) (zet:Int) (zvI:Int) (zvT:Bool) (sv1:(Sl Plane)):Bool :=
  (cond zvT
 false
 (S0 zfg zet (w64 (zvI+(1:Int))) sv1))
def znp (P0:(Sl Plane)->Int->Int->(Sl Plane)->Bool) (zfg:(Sl Plane)) (zet:Int) (zvI:Int) (zvT:Bool) (sv1:(Sl Plane)):Bool :=
  (cond zvT
 true
 (P0 zfg zet (w64 (zvI+(1:Int))) sv1))
theorem zvU (hX0:zMk K X0 P0 S0) (hs:znp P0 zfg zet zvI zvT sv1=true) (hk:K (e36 (zno S0 zfg zet zvI zvT sv1))) (zQB:zIo=zg enc_35 zfg) (zgA:zd3=zg enc_35 sv1):z36 K [1,0,1,0,0,1,1,0,0,1,1,1] [X0] ⟨[(1,zp 1 0),(7,zP (.sl zfg.len 15 zIo)),(8,zI zet),(9,zI zvI),(35,zB zvT)],[(1,.box 24 [.p (.sl sv1.len 15 zd3)])],[]⟩:=by subst zQB;subst zgA;exact zaK (by kernel_rfl) (zc hs hk (λ hs hk=>hk) (λ hs hk=>(hX0 hs hk rfl rfl)))
def zkY (S0:(Sl Plane)->Int->Int->(Sl Plane)->Bool) (zbX:(Sl Plane)) (zaY:Int) (zcw:Int) (sv0:(Sl Plane)):Bool :=
  (cond (decide (zcw < zaY))
 (cond (!(s64 (⟨(zbX.get zcw.toNat), zcw⟩ : placed)))
 (zno S0 zbX zaY zcw true sv0)
 (cond (decide (zcw > (0:Int)))
 (zno S0 zbX zaY zcw (decide ((zbX.get zcw.toNat).Z<=(sv0.get ((w64 (zcw - (1:Int))).toNat)).Z)) sv0)
 (zno S0 zbX zaY zcw false sv0)))
 (s65 (sv0.len:Int) (1:Int) (16:Int)))
def zkZ (P0:(Sl Plane)->Int->Int->(Sl Plane)->Bool) (zbX:(Sl Plane)) (zaY:Int) (zcw:Int) (sv0:(Sl Plane)):Bool :=
  (cond (decide (zcw < zaY))
 (decide ((0<=zcw/\zcw < (zbX.len:Int))) &&
 (decide ((p64 (⟨(zbX.get zcw.toNat),zcw⟩:placed)=true)) &&
 (cond (!(s64 (⟨(zbX.get zcw.toNat), zcw⟩ : placed)))
 (znp P0 zbX zaY zcw true sv0)
 (cond (decide (zcw > (0:Int)))
 (decide ((0<=(w64 (zcw - (1:Int)))/\(w64 (zcw - (1:Int))) < (sv0.len:Int))) &&
 (znp P0 zbX zaY zcw (decide ((zbX.get zcw.toNat).Z<=(sv0.get ((w64 (zcw - (1:Int))).toNat)).Z)) sv0))
 (znp P0 zbX zaY zcw false sv0)))))
 true)
def zi3:Nat->(Sl Plane)->Int->Int->(Sl Plane)->Bool:=lpO (λ _ _ _ _=>default) (zkY)
def zi4:Nat->(Sl Plane)->Int->Int->(Sl Plane)->Bool:=lpO (λ _ _ _ _=>false) (zkZ)
def zDt (zbX:(Sl Plane)) (zaY:Int) (zcw:Int) (sv0:(Sl Plane)):Bool:=zi3 Fuel zbX zaY zcw sv0
def zDu (zbX:(Sl Plane)) (zaY:Int) (zcw:Int) (sv0:(Sl Plane)):Bool:=zi4 Fuel zbX zaY zcw sv0
theorem zMl (hs:zDu zbX zaY zcw sv0=true) (hk:K (e36 (zDt zbX zaY zcw sv0))) (zDv:zlu=zg enc_35 zbX) (zdN:zcb=zg enc_35 sv0):z36 K [1,0,1,0] [] (zIn zbX zaY zcw sv0 zlu zcb) :=
  zl (λ X=>z36 K [1,0,1,0,0] [X]) (by kernel_rfl) λ X0 hX =>
  (show ∀ k, zMk K X0 (zi4 k) (zi3 k) from zgc _ _ (zkZ) (zkY) (zMk K X0)
 (by intro _ _ _ _ _ _ hs;exact absurd hs dqk)
 (by intro P0 S0 hX0 zbX zaY zcw sv0 zlu zcb hs hk zDv zdN;subst zDv;subst zdN;exact hX _ (zaK (by kernel_rfl) (zc hs hk (λ hs hk=>(zaX hs λ hc hs=>And.intro hc (zaX hs λ hc hs=>And.intro (And.intro (zE zbi 3 ((zbX.get zcw.toNat).Drift.get)) (And.intro (zE enc_3 1 ((zbX.get zcw.toNat).Dead.get)) hc)) (zc hs hk (λ hs hk=>(zvU hX0 hs hk rfl rfl)) (λ hs hk=>(zc hs hk (λ hs hk=>(zaX hs λ hc hs=>And.intro hc (zvU hX0 hs hk rfl rfl))) (λ hs hk=>(zvU hX0 hs hk rfl rfl)))))))) (λ hs hk=>hk))))) _ hs hk zDv zdN
def s36 (s:Setup):Bool :=
  (zDt s.Planes (s.Planes.len:Int) (0:Int) s.Planes)
def p36 (s:Setup):Bool :=
  (zDu s.Planes (s.Planes.len:Int) (0:Int) s.Planes)
end
theorem q36 (s:Setup) (K:List PA->Prop) (hs:p36 s=true) (hk:K (e36 (s36 s))):vcFun Tryd.prog G36 zMj 36 [.agg (enc_24 s)] K :=
  zaK (by kernel_rfl) (zMl hs hk rfl rfl)
def zGx : List PA → COut
  | [.agg [.sl zaa za8 zab]]=>.det (IsE enc_35 15 za8 zab/\p36 (⟨(⟨zaa,zbo zab⟩:(Sl Plane))⟩:Setup)=true) [.one (.bool (s36 (⟨(⟨zaa,zbo zab⟩:(Sl Plane))⟩:Setup)))]
  | _=>.no
theorem zQC:zaj Tryd.prog 36:=⟨_,rfl,rfl,by kernel_rfl⟩
theorem zVb:Ok Tryd.prog 36 zGx:=zbm zT4 zQC λ args K h=>by
  unfold zGx at h
  split at h
  · rename_i zaa za8 zab
    obtain⟨⟨⟨rfl,zaF,rfl⟩,hs⟩,hk⟩:=h
    try rw[zbG zaF] at hs
    try rw[zbG zaF] at hk
    exact⟨(λ _ _=>[]),(λ _=>false),zMj,q36 (⟨(⟨zaa,zaF⟩:(Sl Plane))⟩:Setup) K hs hk⟩
  · exact h.elim
abbrev T37:Tabs:=Tabs.nil
theorem zT5:TabsOk Tryd.prog T37:=TabsOk.nil
abbrev G37:Ctrs:=csm T37 (λ _ _=>[]) (λ _=>false)
def zMm:Ann:=⟨8,[(0,zK [0] []),(1,zK [0,4] []),(2,zK [2] []),(3,zK [2] [5])],
 [],
 [],
 [],[]⟩
theorem zMn (n : Nat) (get : Nat → List PV) : zum Tryd.prog G37 zMm 37 [.one (.sl n 3 get)] 104 3 24 n get =
  ((True)/\(∃ r1:Bool,(n ≠ 0->r1=false))/\∀ r1:Bool,(n ≠ 0->r1=false) ->
 (zcr r1
 (True/\n=0)
 ((((0+n) * 24<=140737488355328/\0+n<=9223372036854775807)) /\
 (True/\104=104/\3=3/\24=24/\(0+n)=n/\∀ i,i < n->(appG 0 (zER []) get) i=get i)))):=by kernel_rfl
abbrev zQD:OwnK:=.clone 104 3 24
theorem zQE:zaj Tryd.prog 37:=⟨_,rfl,rfl,by kernel_rfl⟩
theorem zXb:zq6 Tryd.prog 37 zQD:=zrS zT5 zQE λ n get h1 h2=>by
  refine⟨λ _ _=>[],λ _=>false,zMm,?_⟩
  show zum Tryd.prog G37 zMm 37 _ _ _ _ _ _
  rw[zMn]
  refine⟨trivial,⟨decide (n=0),λ h=>decide_eq_false h⟩,λ r1 hr=>?_⟩
  cases r1
  · refine⟨⟨by omega,by omega⟩,trivial,rfl,rfl,rfl,Nat.zero_add n,λ i _=>rfl⟩
  · exact⟨trivial,Classical.byContradiction λ h=>by simpa using hr h⟩
abbrev T38:Tabs:=Tabs.nil
theorem zT6:TabsOk Tryd.prog T38:=TabsOk.nil
abbrev G38:Ctrs:=csm T38 (λ _ _=>[]) (λ _=>false)
def zMo:Ann:=⟨8,[(0,zK [0] []),(1,zK [0,4] []),(2,zK [2] []),(3,zK [2] [5])],
 [],
 [],
 [],[]⟩
theorem zMp (n : Nat) (get : Nat → List PV) : zum Tryd.prog G38 zMo 38 [.one (.sl n 1 get)] 3 1 8 n get =
  ((True)/\(∃ r1:Bool,(n ≠ 0->r1=false))/\∀ r1:Bool,(n ≠ 0->r1=false) ->
 (zcr r1
 (True/\n=0)
 ((((0+n) * 8<=140737488355328/\0+n<=9223372036854775807)) /\
 (True/\3=3/\1=1/\8=8/\(0+n)=n/\∀ i,i < n->(appG 0 (zER []) get) i=get i)))):=by kernel_rfl
abbrev zQF:OwnK:=.clone 3 1 8
theorem zQG:zaj Tryd.prog 38:=⟨_,rfl,rfl,by kernel_rfl⟩
theorem zXc:zq6 Tryd.prog 38 zQF:=zrS zT6 zQG λ n get h1 h2=>by
  refine⟨λ _ _=>[],λ _=>false,zMo,?_⟩
  show zum Tryd.prog G38 zMo 38 _ _ _ _ _ _
  rw[zMp]
  refine⟨trivial,⟨decide (n=0),λ h=>decide_eq_false h⟩,λ r1 hr=>?_⟩
  cases r1
  · refine⟨⟨by omega,by omega⟩,trivial,rfl,rfl,rfl,Nat.zero_add n,λ i _=>rfl⟩
  · exact⟨trivial,Classical.byContradiction λ h=>by simpa using hr h⟩
abbrev T13:Tabs:=(((Tabs.nil.addF 36 zGx).addO 37 zQD).addO 38 zQF)
theorem zT7:TabsOk Tryd.prog T13:=(((TabsOk.nil.addF zVb).addO zXb).addO zXc)
abbrev G13:Ctrs:=csm T13 (λ _ _=>[]) (λ _=>false)
def zMq:Ann:=⟨118,[(0,zK [1,2,3,6] [3,6]),(1,zK [1,2,3,6,30] [3,6]),(2,zK [6,7] [6]),(3,zK [1,2,3,6,8] [3,6,8]),(4,zK [1,2,3,6,8,9] [3,6,8]),(5,zK [1,2,6,8,9,33,34,35] [6,8]),(6,zK [1,2,6,8,9,33,34,35,36] [6,8,107]),(7,zK [1,2,6,8,9,10,11,33,34,35] [6,8,11,107]),(8,zK [1,2,6,8,9,10,11,33,34,35] [6,8,11,107]),(9,zK [1,2,6,8,9,11,33,34,35] [6,8,11,107]),(10,zK [1,2,6,8,9,11,33,34,35] [6,8,11,97,100,107]),(11,zK [1,2,6,8,9,33,34,35] [6,8,107]),(12,zK [1,2,6,8,9,33,34,35] [6,8,107]),(13,zK [6,8,9,112] [6,8,107]),(14,zK [6,7] [6]),(15,zK [6,8,115] [6,8,107]),(16,zK [6,7] [6]),(17,zK [6,7] [6,107])],
 [(6,⟨[1,2,6,8,9,33,34,35],[6,8,107],[],[(8,0,107,35,λ _=>enc_35 default)],[],[],[]⟩)],
 [(2,zK [1,2,3,6,30] [3,6]),(3,zK [1,2,3,6] [3,6]),(11,zK [1,2,6,8,9,11,33,34,35] [6,8,11,97,100,107]),(13,zK [6,8,9] [6,8,107]),(14,zK [6,8,9,112] [6,8,107])],
 [],[]⟩
abbrev R13:=(Setup×Int)
abbrev e13 (r:R13):List PA:=[.agg [.sl r.1.Planes.len 15 (λ i=>enc_35 (r.1.Planes.get i))],.one (.int .i64 r.2)]
@[irreducible] def z13:=ptF Tryd.prog G13 zMq Tryd.f13
def zIp (offsets:(Sl Span)) (zad:(Sl Span)) (zbQ:Bool) (zaC:(Sl Plane)) (zeh:Int) (zai:Int) (zcL:(Sl Plane)) (zhq:Nat->List PV) (zfM:Nat->List PV):St:=⟨[(1,zS za2 2 offsets),(2,zS za2 2 zad),(6,zp 6 0),(8,zp 8 0),(9,zB zbQ),(33,zP (.sl zaC.len 15 zhq)),(34,zI zeh),(35,zI zai)],[(6,.box 24 [.p (.nils)]),(8,.box 24 [.vec 107]),(107,.vec 35 15 152 zcL.len zfM)],[]⟩
abbrev zMr (K:List PA->Prop) (offsets:(Sl Span)) (zad:(Sl Span)) (X:St->Prop) (P:Bool->(Sl Plane)->Int->Int->(Sl Plane)->Bool) (S:Bool->(Sl Plane)->Int->Int->(Sl Plane)->(Setup×Int)):Prop:=∀ ⦃zbQ:Bool⦄ ⦃zaC:(Sl Plane)⦄ ⦃zeh:Int⦄ ⦃zai:Int⦄ ⦃zcL:(Sl Plane)⦄ ⦃zhq:Nat->List PV⦄ ⦃zfM:Nat->List PV⦄,P zbQ zaC zeh zai zcL=true->K (e13 (S zbQ zaC zeh zai zcL))->zhq=zg enc_35 zaC->zfM=zg enc_35 zcL->X (zIp offsets zad zbQ zaC zeh zai zcL zhq zfM)
section
variable {K:List PA->Prop}{s:Setup}{offsets:(Sl Span)}{zad:(Sl Span)}{zvV:Bool}{sv0:(Sl Plane)}{zcb:Nat->List PV}{sv1:(Sl Plane)}{zd3:Nat->List PV}{zbQ:Bool}{zaC:(Sl Plane)}{zeh:Int}{zai:Int}{zcL:(Sl Plane)}{zhq:Nat->List PV}{zfM:Nat->List PV}{X2:St->Prop}{P2:Bool->(Sl Plane)->Int->Int->(Sl Plane)->Bool}{S2:Bool->(Sl Plane)->Int->Int->(Sl Plane)->(Setup×Int)}{zex:Bool}{zst:(Sl Plane)}{zi0:Int}{zvW:Int}{zsu:Int}{zsv:Int}{zsw:Int}{zsx:Int}{zsy:Int}{zsz:Int}{zsA:Int}{zsB:Int}{zsC:Int}{zsD:Int}{zlv:Int}{zlw:Int}{zlx:Int}{zqy:(Sl Drift)}{zjS:(Sl Int)}{zfA:(Sl Plane)}{zDw:Nat->List PV}{zDx:Nat->List PV}{zyd:Nat->List PV}{zye:Nat->List PV}{zfj:Bool}{zid:(Sl Plane)}{zyf:Nat->List PV}{zhX:Bool}{zyg:Bool}{znq:(Sl Plane)}{zyh:Nat->List PV}
def zDy (zhX:Bool) (zyg:Bool) (znq:(Sl Plane)):(Setup×Int) :=
  (cond zyg
 ((⟨(⟨0,λ _=>default⟩:(Sl Plane))⟩:Setup),(2:Int))
 (cond (!zhX)
 ((⟨(⟨0,λ _=>default⟩:(Sl Plane))⟩:Setup),(7:Int))
 ((⟨znq⟩:Setup),(0:Int))))
theorem zMs (hk:K (e13 (zDy zhX zyg znq))) (zGy:zyh=zg enc_35 znq):z13 (Wk K) [1,1,1,1,1,0,1] [] ⟨[(6,zp 6 0),(8,zp 8 0),(9,zB zhX),(112,zB zyg)],[(6,.box 24 [.p (.nils)]),(8,.box 24 [.vec 107]),(107,.vec 35 15 152 znq.len zyh)],[]⟩:=by subst zGy;exact zaK (by kernel_rfl) (zt hk (λ hk=>((wk hk (zeC (.agg (zeC (.nil _ _) zka)) (zeC (.one (.rfl _)) zka))):Wk K [.agg [.nils],.one (.int .i64 (2:Int))])) (λ hk=>(zt hk (λ hk=>((wk hk (zeC (.agg (zeC (.nil _ _) zka)) (zeC (.one (.rfl _)) zka))):Wk K [.agg [.nils],.one (.int .i64 (7:Int))])) (λ hk=>((zeW hk):Wk K [.agg [.sl znq.len 15 (λ i=>enc_35 (znq.get i))],.one (.int .i64 (0:Int))])))))
def zvX (zfj:Bool) (zid:(Sl Plane)):(Setup×Int) :=
  (zDy zfj (!(s36 (⟨zid⟩:Setup))) zid)
def zvY (zfj:Bool) (zid:(Sl Plane)):Bool :=
  (decide ((p36 (⟨zid⟩:Setup)=true)) &&
 true)
theorem zMt (hs:zvY zfj zid=true) (hk:K (e13 (zvX zfj zid))) (zGz:zyf=zg enc_35 zid):z13 (Wk K) [1,1,1,1,1] [] ⟨[(6,zp 6 0),(8,zp 8 0),(9,zB zfj)],[(6,.box 24 [.p (.nils)]),(8,.box 24 [.vec 107]),(107,.vec 35 15 152 zid.len zyf)],[]⟩:=by subst zGz;exact zaK (by kernel_rfl) (zaX hs λ hc hs=>And.intro (And.intro (zE enc_35 15 zid.get) hc) (zMs hk rfl))
def zi5 (S2:Bool->(Sl Plane)->Int->Int->(Sl Plane)->(Setup×Int)) (offsets:(Sl Span)) (zad:(Sl Span)) (zex:Bool) (zst:(Sl Plane)) (zi0:Int) (zvW:Int) (zsu:Int) (zsv:Int) (zsw:Int) (zsx:Int) (zsy:Int) (zsz:Int) (zsA:Int) (zsB:Int) (zsC:Int) (zsD:Int) (zlv:Int) (zlw:Int) (zlx:Int) (zqy:(Sl Drift)) (zjS:(Sl Int)) (zfA:(Sl Plane)):(Setup×Int) :=
  (S2 zex zst zi0 (w64 (zvW+(1:Int))) (⟨(zfA.len+1),(zfU zfA.len zfA.get (λ _=>(⟨zsu,zsv,zsw,zsx,zsy,zsz,zsA,(⟨zsB,zsC⟩:Span),(⟨zsD,zlv⟩:Span),zlw,zlx,zqy,zjS⟩:Plane)))⟩:Sl Plane))
def zi6 (P2:Bool->(Sl Plane)->Int->Int->(Sl Plane)->Bool) (offsets:(Sl Span)) (zad:(Sl Span)) (zex:Bool) (zst:(Sl Plane)) (zi0:Int) (zvW:Int) (zsu:Int) (zsv:Int) (zsw:Int) (zsx:Int) (zsy:Int) (zsz:Int) (zsA:Int) (zsB:Int) (zsC:Int) (zsD:Int) (zlv:Int) (zlw:Int) (zlx:Int) (zqy:(Sl Drift)) (zjS:(Sl Int)) (zfA:(Sl Plane)):Bool :=
  (decide (((zfA.len+1) * 152<=140737488355328/\zfA.len+1<=9223372036854775807)) &&
 (P2 zex zst zi0 (w64 (zvW+(1:Int))) (⟨(zfA.len+1),(zfU zfA.len zfA.get (λ _=>(⟨zsu,zsv,zsw,zsx,zsy,zsz,zsA,(⟨zsB,zsC⟩:Span),(⟨zsD,zlv⟩:Span),zlw,zlx,zqy,zjS⟩:Plane)))⟩:Sl Plane)))
theorem znr (hX2:zMr K offsets zad X2 P2 S2) (hs:zi6 P2 offsets zad zex zst zi0 zvW zsu zsv zsw zsx zsy zsz zsA zsB zsC zsD zlv zlw zlx zqy zjS zfA=true) (hk:K (e13 (zi5 S2 offsets zad zex zst zi0 zvW zsu zsv zsw zsx zsy zsz zsA zsB zsC zsD zlv zlw zlx zqy zjS zfA))) (zMu:zDw=zg enc_35 zst) (zMv:zDx=zg zbi zqy) (zGA:zyd=zg enc_3 zjS) (zGB:zye=zg enc_35 zfA):z13 (Wk K) [1,1,1,1,0,1,0,0,1,1,0,0,1,1,1,1] [X2] ⟨[(1,zS za2 2 offsets),(2,zS za2 2 zad),(6,zp 6 0),(8,zp 8 0),(9,zB zex),(11,zp 11 0),(33,zP (.sl zst.len 15 zDw)),(34,zI zi0),(35,zI zvW)],[(6,.box 24 [.p (.nils)]),(8,.box 24 [.vec 107]),(11,.box 35 [zi zsu,zi zsv,zi zsw,zi zsx,zi zsy,zi zsz,zi zsA,zi zsB,zi zsC,zi zsD,zi zlv,zi zlw,zi zlx,.vec 97,.vec 100]),(97,.vec 104 3 24 zqy.len zDx),(100,.vec 3 1 8 zjS.len zyd),(107,.vec 35 15 152 zfA.len zye)],[]⟩:=by subst zMu;subst zMv;subst zGA;subst zGB;exact zaK (by kernel_rfl) (zaX hs λ hc hs=>And.intro hc (hX2 hs hk rfl (zlq (enc:=enc_35) (f:=zfA.get) (h:=(λ _=>(⟨zsu,zsv,zsw,zsx,zsy,zsz,zsA,(⟨zsB,zsC⟩:Span),(⟨zsD,zlv⟩:Span),zlw,zlx,zqy,zjS⟩:Plane))) rfl rfl)))
def zk0 (offsets:(Sl Span)) (zad:(Sl Span)) (S2:Bool->(Sl Plane)->Int->Int->(Sl Plane)->(Setup×Int)) (zbQ:Bool) (zaC:(Sl Plane)) (zeh:Int) (zai:Int) (zcL:(Sl Plane)):(Setup×Int) :=
  (cond (decide (zai < zeh))
 (cond zbQ
 (cond (decide ((offsets.get zai.toNat).Low >= (zaC.get zai.toNat).Offset.Low))
 (cond (decide ((offsets.get zai.toNat).High <= (zaC.get zai.toNat).Offset.High))
 (cond (decide ((zad.get zai.toNat).Low >= (zaC.get zai.toNat).Clock.Low))
 (zi5 S2 offsets zad (decide ((zad.get zai.toNat).High<=(zaC.get zai.toNat).Clock.High)) zaC zeh zai ((zaC.get zai.toNat).Kind) ((zaC.get zai.toNat).View) ((zaC.get zai.toNat).Z) ((zaC.get zai.toNat).First) ((zaC.get zai.toNat).Pitch) ((zaC.get zai.toNat).Strips) ((zaC.get zai.toNat).Spill) ((offsets.get zai.toNat).Low) ((offsets.get zai.toNat).High) ((zad.get zai.toNat).Low) ((zad.get zai.toNat).High) ((zaC.get zai.toNat).Jitter) ((zaC.get zai.toNat).Least) ((zaC.get zai.toNat).Drift) ((zaC.get zai.toNat).Dead) zcL)
 (zi5 S2 offsets zad false zaC zeh zai ((zaC.get zai.toNat).Kind) ((zaC.get zai.toNat).View) ((zaC.get zai.toNat).Z) ((zaC.get zai.toNat).First) ((zaC.get zai.toNat).Pitch) ((zaC.get zai.toNat).Strips) ((zaC.get zai.toNat).Spill) ((offsets.get zai.toNat).Low) ((offsets.get zai.toNat).High) ((zad.get zai.toNat).Low) ((zad.get zai.toNat).High) ((zaC.get zai.toNat).Jitter) ((zaC.get zai.toNat).Least) ((zaC.get zai.toNat).Drift) ((zaC.get zai.toNat).Dead) zcL))
 (zi5 S2 offsets zad false zaC zeh zai ((zaC.get zai.toNat).Kind) ((zaC.get zai.toNat).View) ((zaC.get zai.toNat).Z) ((zaC.get zai.toNat).First) ((zaC.get zai.toNat).Pitch) ((zaC.get zai.toNat).Strips) ((zaC.get zai.toNat).Spill) ((offsets.get zai.toNat).Low) ((offsets.get zai.toNat).High) ((zad.get zai.toNat).Low) ((zad.get zai.toNat).High) ((zaC.get zai.toNat).Jitter) ((zaC.get zai.toNat).Least) ((zaC.get zai.toNat).Drift) ((zaC.get zai.toNat).Dead) zcL))
 (zi5 S2 offsets zad false zaC zeh zai ((zaC.get zai.toNat).Kind) ((zaC.get zai.toNat).View) ((zaC.get zai.toNat).Z) ((zaC.get zai.toNat).First) ((zaC.get zai.toNat).Pitch) ((zaC.get zai.toNat).Strips) ((zaC.get zai.toNat).Spill) ((offsets.get zai.toNat).Low) ((offsets.get zai.toNat).High) ((zad.get zai.toNat).Low) ((zad.get zai.toNat).High) ((zaC.get zai.toNat).Jitter) ((zaC.get zai.toNat).Least) ((zaC.get zai.toNat).Drift) ((zaC.get zai.toNat).Dead) zcL))
 (zi5 S2 offsets zad false zaC zeh zai ((zaC.get zai.toNat).Kind) ((zaC.get zai.toNat).View) ((zaC.get zai.toNat).Z) ((zaC.get zai.toNat).First) ((zaC.get zai.toNat).Pitch) ((zaC.get zai.toNat).Strips) ((zaC.get zai.toNat).Spill) ((offsets.get zai.toNat).Low) ((offsets.get zai.toNat).High) ((zad.get zai.toNat).Low) ((zad.get zai.toNat).High) ((zaC.get zai.toNat).Jitter) ((zaC.get zai.toNat).Least) ((zaC.get zai.toNat).Drift) ((zaC.get zai.toNat).Dead) zcL))
 (zvX zbQ zcL))
def zk1 (offsets:(Sl Span)) (zad:(Sl Span)) (P2:Bool->(Sl Plane)->Int->Int->(Sl Plane)->Bool) (zbQ:Bool) (zaC:(Sl Plane)) (zeh:Int) (zai:Int) (zcL:(Sl Plane)):Bool :=
  (cond (decide (zai < zeh))
 (decide ((0<=zai/\zai < (zaC.len:Int))) &&
 (cond zbQ
 (decide ((0<=zai/\zai < (offsets.len:Int))) &&
 (cond (decide ((offsets.get zai.toNat).Low >= (zaC.get zai.toNat).Offset.Low))
 (decide ((0<=zai/\zai < (offsets.len:Int))) &&
 (cond (decide ((offsets.get zai.toNat).High <= (zaC.get zai.toNat).Offset.High))
 (decide ((0<=zai/\zai < (zad.len:Int))) &&
 (cond (decide ((zad.get zai.toNat).Low >= (zaC.get zai.toNat).Clock.Low))
 (decide ((0<=zai/\zai < (zad.len:Int))) &&
 (decide ((0<=zai/\zai < (offsets.len:Int))) &&
 (decide ((0<=zai/\zai < (zad.len:Int))) &&
 (decide (((zaC.get zai.toNat).Drift.len * 24<=140737488355328/\(zaC.get zai.toNat).Drift.len<=9223372036854775807)) &&
 (decide (((zaC.get zai.toNat).Dead.len * 8<=140737488355328/\(zaC.get zai.toNat).Dead.len<=9223372036854775807)) &&
 (zi6 P2 offsets zad (decide ((zad.get zai.toNat).High<=(zaC.get zai.toNat).Clock.High)) zaC zeh zai ((zaC.get zai.toNat).Kind) ((zaC.get zai.toNat).View) ((zaC.get zai.toNat).Z) ((zaC.get zai.toNat).First) ((zaC.get zai.toNat).Pitch) ((zaC.get zai.toNat).Strips) ((zaC.get zai.toNat).Spill) ((offsets.get zai.toNat).Low) ((offsets.get zai.toNat).High) ((zad.get zai.toNat).Low) ((zad.get zai.toNat).High) ((zaC.get zai.toNat).Jitter) ((zaC.get zai.toNat).Least) ((zaC.get zai.toNat).Drift) ((zaC.get zai.toNat).Dead) zcL))))))
 (decide ((0<=zai/\zai < (offsets.len:Int))) &&
 (decide ((0<=zai/\zai < (zad.len:Int))) &&
 (decide (((zaC.get zai.toNat).Drift.len * 24<=140737488355328/\(zaC.get zai.toNat).Drift.len<=9223372036854775807)) &&
 (decide (((zaC.get zai.toNat).Dead.len * 8<=140737488355328/\(zaC.get zai.toNat).Dead.len<=9223372036854775807)) &&
 (zi6 P2 offsets zad false zaC zeh zai ((zaC.get zai.toNat).Kind) ((zaC.get zai.toNat).View) ((zaC.get zai.toNat).Z) ((zaC.get zai.toNat).First) ((zaC.get zai.toNat).Pitch) ((zaC.get zai.toNat).Strips) ((zaC.get zai.toNat).Spill) ((offsets.get zai.toNat).Low) ((offsets.get zai.toNat).High) ((zad.get zai.toNat).Low) ((zad.get zai.toNat).High) ((zaC.get zai.toNat).Jitter) ((zaC.get zai.toNat).Least) ((zaC.get zai.toNat).Drift) ((zaC.get zai.toNat).Dead) zcL)))))))
 (decide ((0<=zai/\zai < (offsets.len:Int))) &&
 (decide ((0<=zai/\zai < (zad.len:Int))) &&
 (decide (((zaC.get zai.toNat).Drift.len * 24<=140737488355328/\(zaC.get zai.toNat).Drift.len<=9223372036854775807)) &&
 (decide (((zaC.get zai.toNat).Dead.len * 8<=140737488355328/\(zaC.get zai.toNat).Dead.len<=9223372036854775807)) &&
 (zi6 P2 offsets zad false zaC zeh zai ((zaC.get zai.toNat).Kind) ((zaC.get zai.toNat).View) ((zaC.get zai.toNat).Z) ((zaC.get zai.toNat).First) ((zaC.get zai.toNat).Pitch) ((zaC.get zai.toNat).Strips) ((zaC.get zai.toNat).Spill) ((offsets.get zai.toNat).Low) ((offsets.get zai.toNat).High) ((zad.get zai.toNat).Low) ((zad.get zai.toNat).High) ((zaC.get zai.toNat).Jitter) ((zaC.get zai.toNat).Least) ((zaC.get zai.toNat).Drift) ((zaC.get zai.toNat).Dead) zcL)))))))
 (decide ((0<=zai/\zai < (offsets.len:Int))) &&
 (decide ((0<=zai/\zai < (zad.len:Int))) &&
 (decide (((zaC.get zai.toNat).Drift.len * 24<=140737488355328/\(zaC.get zai.toNat).Drift.len<=9223372036854775807)) &&
 (decide (((zaC.get zai.toNat).Dead.len * 8<=140737488355328/\(zaC.get zai.toNat).Dead.len<=9223372036854775807)) &&
 (zi6 P2 offsets zad false zaC zeh zai ((zaC.get zai.toNat).Kind) ((zaC.get zai.toNat).View) ((zaC.get zai.toNat).Z) ((zaC.get zai.toNat).First) ((zaC.get zai.toNat).Pitch) ((zaC.get zai.toNat).Strips) ((zaC.get zai.toNat).Spill) ((offsets.get zai.toNat).Low) ((offsets.get zai.toNat).High) ((zad.get zai.toNat).Low) ((zad.get zai.toNat).High) ((zaC.get zai.toNat).Jitter) ((zaC.get zai.toNat).Least) ((zaC.get zai.toNat).Drift) ((zaC.get zai.toNat).Dead) zcL)))))))
 (decide ((0<=zai/\zai < (offsets.len:Int))) &&
 (decide ((0<=zai/\zai < (zad.len:Int))) &&
 (decide (((zaC.get zai.toNat).Drift.len * 24<=140737488355328/\(zaC.get zai.toNat).Drift.len<=9223372036854775807)) &&
 (decide (((zaC.get zai.toNat).Dead.len * 8<=140737488355328/\(zaC.get zai.toNat).Dead.len<=9223372036854775807)) &&
 (zi6 P2 offsets zad false zaC zeh zai ((zaC.get zai.toNat).Kind) ((zaC.get zai.toNat).View) ((zaC.get zai.toNat).Z) ((zaC.get zai.toNat).First) ((zaC.get zai.toNat).Pitch) ((zaC.get zai.toNat).Strips) ((zaC.get zai.toNat).Spill) ((offsets.get zai.toNat).Low) ((offsets.get zai.toNat).High) ((zad.get zai.toNat).Low) ((zad.get zai.toNat).High) ((zaC.get zai.toNat).Jitter) ((zaC.get zai.toNat).Least) ((zaC.get zai.toNat).Drift) ((zaC.get zai.toNat).Dead) zcL)))))))
 (zvY zbQ zcL))
def zhr (offsets:(Sl Span)) (zad:(Sl Span)):Nat->Bool->(Sl Plane)->Int->Int->(Sl Plane)->(Setup×Int):=lpO (λ _ _ _ _ _=>default) (zk0 offsets zad)
def zhs (offsets:(Sl Span)) (zad:(Sl Span)):Nat->Bool->(Sl Plane)->Int->Int->(Sl Plane)->Bool:=lpO (λ _ _ _ _ _=>false) (zk1 offsets zad)
def zvZ (offsets:(Sl Span)) (zad:(Sl Span)) (zbQ:Bool) (zaC:(Sl Plane)) (zeh:Int) (zai:Int) (zcL:(Sl Plane)):(Setup×Int):=zhr offsets zad Fuel zbQ zaC zeh zai zcL
def zv0 (offsets:(Sl Span)) (zad:(Sl Span)) (zbQ:Bool) (zaC:(Sl Plane)) (zeh:Int) (zai:Int) (zcL:(Sl Plane)):Bool:=zhs offsets zad Fuel zbQ zaC zeh zai zcL
theorem zMw (hs:zv0 offsets zad zbQ zaC zeh zai zcL=true) (hk:K (e13 (zvZ offsets zad zbQ zaC zeh zai zcL))) (zv1:zhq=zg enc_35 zaC) (zqz:zfM=zg enc_35 zcL):z13 (Wk K) [1,1,1,1,0,1,0] [] (zIp offsets zad zbQ zaC zeh zai zcL zhq zfM) :=
  zl (λ X=>z13 (Wk K) [1,1,1,1,0,1,0,0] [X]) (by kernel_rfl) λ X2 hX =>
  (show ∀ k, zMr K offsets zad X2 (zhs offsets zad k) (zhr offsets zad k) from zgc _ _ (zk1 offsets zad) (zk0 offsets zad) (zMr K offsets zad X2)
 (by intro _ _ _ _ _ _ _ hs;exact absurd hs dqk)
 (by intro P2 S2 hX2 zbQ zaC zeh zai zcL zhq zfM hs hk zv1 zqz;subst zv1;subst zqz;exact hX _ (zaK (by kernel_rfl) (zc hs hk (λ hs hk=>(zaX hs λ hc hs=>And.intro hc (zc hs hk (λ hs hk=>(zaX hs λ hc hs=>And.intro hc (zc hs hk (λ hs hk=>(zaX hs λ hc hs=>And.intro hc (zc hs hk (λ hs hk=>(zaX hs λ hc hs=>And.intro hc (zc hs hk (λ hs hk=>(zaX hs λ hc hs=>And.intro hc (zaX hs λ hc hs=>And.intro hc (zaX hs λ hc hs=>And.intro hc (zaX hs λ hc hs=>And.intro hc (zaX hs λ hc hs=>And.intro hc (znr hX2 hs hk rfl rfl rfl rfl))))))) (λ hs hk=>(zaX hs λ hc hs=>And.intro hc (zaX hs λ hc hs=>And.intro hc (zaX hs λ hc hs=>And.intro hc (zaX hs λ hc hs=>And.intro hc (znr hX2 hs hk rfl rfl rfl rfl))))))))) (λ hs hk=>(zaX hs λ hc hs=>And.intro hc (zaX hs λ hc hs=>And.intro hc (zaX hs λ hc hs=>And.intro hc (zaX hs λ hc hs=>And.intro hc (znr hX2 hs hk rfl rfl rfl rfl))))))))) (λ hs hk=>(zaX hs λ hc hs=>And.intro hc (zaX hs λ hc hs=>And.intro hc (zaX hs λ hc hs=>And.intro hc (zaX hs λ hc hs=>And.intro hc (znr hX2 hs hk rfl rfl rfl rfl))))))))) (λ hs hk=>(zaX hs λ hc hs=>And.intro hc (zaX hs λ hc hs=>And.intro hc (zaX hs λ hc hs=>And.intro hc (zaX hs λ hc hs=>And.intro hc (znr hX2 hs hk rfl rfl rfl rfl))))))))) (λ hs hk=>(zMt hs hk rfl)))))) _ hs hk zv1 zqz
def zv3 (offsets:(Sl Span)) (zad:(Sl Span)) (sv1:(Sl Plane)):(Setup×Int) :=
  (zvZ offsets zad true sv1 (sv1.len:Int) (0:Int) (⟨0,(λ _=>default)⟩:Sl Plane))
def zv4 (offsets:(Sl Span)) (zad:(Sl Span)) (sv1:(Sl Plane)):Bool :=
  (zv0 offsets zad true sv1 (sv1.len:Int) (0:Int) (⟨0,(λ _=>default)⟩:Sl Plane))
theorem zMx (hs:zv4 offsets zad sv1=true) (hk:K (e13 (zv3 offsets zad sv1))) (zgA:zd3=zg enc_35 sv1):z13 (Wk K) [1,1] [] ⟨[(1,zS za2 2 offsets),(2,zS za2 2 zad),(3,zp 3 0),(6,zp 6 0)],[(3,.box 24 [.p (.sl sv1.len 15 zd3)]),(6,.box 24 [.p (.nils)])],[]⟩:=by subst zgA;exact zaK (by kernel_rfl) (zMw hs hk rfl rfl)
def zns (offsets:(Sl Span)) (zad:(Sl Span)) (zvV:Bool) (sv0:(Sl Plane)):(Setup×Int) :=
  (cond zvV
 ((⟨(⟨0,λ _=>default⟩:(Sl Plane))⟩:Setup),(2:Int))
 (zv3 offsets zad sv0))
def znt (offsets:(Sl Span)) (zad:(Sl Span)) (zvV:Bool) (sv0:(Sl Plane)):Bool :=
  (cond zvV
 true
 (zv4 offsets zad sv0))
theorem zv5 (hs:znt offsets zad zvV sv0=true) (hk:K (e13 (zns offsets zad zvV sv0))) (zdN:zcb=zg enc_35 sv0):z13 (Wk K) [1,0,1] [] ⟨[(1,zS za2 2 offsets),(2,zS za2 2 zad),(3,zp 3 0),(6,zp 6 0),(30,zB zvV)],[(3,.box 24 [.p (.sl sv0.len 15 zcb)]),(6,.box 24 [.p (.nils)])],[]⟩:=by subst zdN;exact zaK (by kernel_rfl) (zc hs hk (λ hs hk=>((wk hk (zeC (.agg (zeC (.nil _ _) zka)) (zeC (.one (.rfl _)) zka))):Wk K [.agg [.nils],.one (.int .i64 (2:Int))])) (λ hs hk=>(zMx hs hk rfl)))
def s13 (s:Setup) (offsets:(Sl Span)) (zad:(Sl Span)):(Setup×Int) :=
  (cond (!(s36 s))
 (zns offsets zad true s.Planes)
 (cond ((offsets.len : Int) != (s.Planes.len : Int))
 (zns offsets zad true s.Planes)
 (zns offsets zad ((zad.len:Int) != (s.Planes.len:Int)) s.Planes)))
def p13 (s:Setup) (offsets:(Sl Span)) (zad:(Sl Span)):Bool :=
  (decide ((p36 s=true)) &&
 (cond (!(s36 s))
 (znt offsets zad true s.Planes)
 (cond ((offsets.len : Int) != (s.Planes.len : Int))
 (znt offsets zad true s.Planes)
 (znt offsets zad ((zad.len:Int) != (s.Planes.len:Int)) s.Planes))))
end
theorem q13 (s:Setup) (offsets:(Sl Span)) (zad:(Sl Span)) (K:List PA->Prop) (hs:p13 s offsets zad=true) (hk:K (e13 (s13 s offsets zad))):vcFun Tryd.prog G13 zMq 13 [.agg (enc_24 s),.one (.sl offsets.len 2 (λ i=>za2 (offsets.get i))),.one (.sl zad.len 2 (λ i=>za2 (zad.get i)))] (Wk K) :=
  zaK (by kernel_rfl) (zaX hs λ hc hs=>And.intro (And.intro (zE enc_35 15 s.Planes.get) hc) (zc hs hk (λ hs hk=>(zv5 hs hk rfl)) (λ hs hk=>(zc hs hk (λ hs hk=>(zv5 hs hk rfl)) (λ hs hk=>(zv5 hs hk rfl))))))
def zMy : List PA → COut
  | [.agg [.sl zaa za8 zab],.one (.sl zeO zl0 zeP),.one (.sl zsq zId zsr)]=>.det (IsE enc_35 15 za8 zab/\IsE za2 2 zl0 zeP/\IsE za2 2 zId zsr/\p13 (⟨(⟨zaa,zbo zab⟩:(Sl Plane))⟩:Setup) (⟨zeO,zgy zeP⟩:(Sl Span)) (⟨zsq,zgy zsr⟩:(Sl Span))=true) [.agg [.sl (((s13 (⟨(⟨zaa,zbo zab⟩:(Sl Plane))⟩:Setup) (⟨zeO,zgy zeP⟩:(Sl Span)) (⟨zsq,zgy zsr⟩:(Sl Span))).1).Planes.len) 15 (λ i=>enc_35 (((s13 (⟨(⟨zaa,zbo zab⟩:(Sl Plane))⟩:Setup) (⟨zeO,zgy zeP⟩:(Sl Span)) (⟨zsq,zgy zsr⟩:(Sl Span))).1).Planes.get i))],.one (.int .i64 ((s13 (⟨(⟨zaa,zbo zab⟩:(Sl Plane))⟩:Setup) (⟨zeO,zgy zeP⟩:(Sl Span)) (⟨zsq,zgy zsr⟩:(Sl Span))).2))]
  | _=>.no
theorem zQH:zaj Tryd.prog 13:=⟨_,rfl,rfl,by kernel_rfl⟩
theorem zXd:Ok Tryd.prog 13 zMy:=ziv zT7 zQH λ args K h=>by
  unfold zMy at h
  split at h
  · rename_i zaa za8 zab zeO zl0 zeP zsq zId zsr
    obtain⟨⟨⟨rfl,zaF,rfl⟩,⟨rfl,zic,rfl⟩,⟨rfl,zC5,rfl⟩,hs⟩,hk⟩:=h
    try rw[zbG zaF] at hs
    try rw[zbG zaF] at hk
    try rw[zgz zic] at hs
    try rw[zgz zic] at hk
    try rw[zgz zC5] at hs
    try rw[zgz zC5] at hk
    exact⟨_,zib zg5 _,(λ _ _=>[]),(λ _=>false),zMq,q13 (⟨(⟨zaa,zaF⟩:(Sl Plane))⟩:Setup) (⟨zeO,zic⟩:(Sl Span)) (⟨zsq,zC5⟩:(Sl Span)) K hs hk⟩
  · exact h.elim
abbrev T40:Tabs:=(Tabs.nil.addF 65 zss)
theorem zT8:TabsOk Tryd.prog T40:=(TabsOk.nil.addF zNH)
abbrev G40:Ctrs:=csm T40 (λ _ _=>[]) (λ _=>false)
def zMz:Ann:=⟨111,[(0,zK [2,3,4] [2,3,4]),(1,zK [2,3,4,16] [2,3,4]),(2,zK [4,5] [4]),(3,zK [3,4,6] [3,4,6]),(4,zK [3,4,6,61] [3,4,6]),(5,zK [4,5] [4]),(6,zK [3,4,6,65,66,67] [3,4,6]),(7,zK [3,4,6,65,66,67,68] [3,4,6]),(8,zK [3,4,6,8,65,66,67] [3,4,6]),(9,zK [3,4,6,65,66,67,80] [3,4,6]),(10,zK [4,5] [4]),(11,zK [3,4,6,65,66,67] [3,4,6]),(12,zK [3,4,6,86] [3,4,6]),(13,zK [4,5] [4]),(14,zK [4,5] [4])],
 [(7,zK [3,4,6,65,66,67] [3,4,6])],
 [(2,zK [2,3,4,16] [2,3,4]),(3,zK [2,3,4] [2,3,4]),(5,zK [3,4,6,61] [3,4,6]),(6,zK [3,4,6] [3,4,6]),(10,zK [3,4,6,65,66,67,80] [3,4,6]),(12,zK [3,4,6] [3,4,6]),(14,zK [3,4,6] [3,4,6])],
 [],[]⟩
abbrev R40:=(placed×Bool)
abbrev e40 (r:R40):List PA:=[.agg [.int .i64 r.1.Plane.Kind,.int .i64 r.1.Plane.View,.int .i64 r.1.Plane.Z,.int .i64 r.1.Plane.First,.int .i64 r.1.Plane.Pitch,.int .i64 r.1.Plane.Strips,.int .i64 r.1.Plane.Spill,.int .i64 r.1.Plane.Offset.Low,.int .i64 r.1.Plane.Offset.High,.int .i64 r.1.Plane.Clock.Low,.int .i64 r.1.Plane.Clock.High,.int .i64 r.1.Plane.Jitter,.int .i64 r.1.Plane.Least,.sl r.1.Plane.Drift.len 3 (λ i=>zbi (r.1.Plane.Drift.get i)),.sl r.1.Plane.Dead.len 1 (λ i=>enc_3 (r.1.Plane.Dead.get i)),.int .i64 r.1.index],.one (.bool r.2)]
@[irreducible] def z40:=ptF Tryd.prog G40 zMz Tryd.f40
def zIq (h:Hit) (zaP:Int) (zaR:Int) (zaS:Int) (zaT:Int) (zaU:Int) (zaV:Int) (zaW:Int) (za3:Int) (za4:Int) (za5:Int) (zat:Int) (zau:Int) (zav:Int) (zan:(Sl Drift)) (zal:(Sl Int)) (zfd:Int):St:=⟨[(3,zp 3 0),(4,zp 4 0),(6,zp 6 0),(65,zS enc_3 1 zal),(66,zI (zal.len:Int)),(67,zI zfd)],[(3,.box 41 (zm (zbH h))),(4,.box 107 [zi (0:Int),zi (0:Int),zi (0:Int),zi (0:Int),zi (0:Int),zi (0:Int),zi (0:Int),zi (0:Int),zi (0:Int),zi (0:Int),zi (0:Int),zi (0:Int),zi (0:Int),.p (.nils),.p (.nils),zi (0:Int)]),(6,.box 107 (zm (zbh (⟨(⟨zaP,zaR,zaS,zaT,zaU,zaV,zaW,(⟨za3,za4⟩:Span),(⟨za5,zat⟩:Span),zau,zav,zan,zal⟩:Plane),h.Plane⟩:placed))))],[]⟩
abbrev zMA (K:List PA->Prop) (h:Hit) (zaP:Int) (zaR:Int) (zaS:Int) (zaT:Int) (zaU:Int) (zaV:Int) (zaW:Int) (za3:Int) (za4:Int) (za5:Int) (zat:Int) (zau:Int) (zav:Int) (zan:(Sl Drift)) (zal:(Sl Int)) (X:St->Prop) (P:Int->Bool) (S:Int->(placed×Bool)):Prop:=∀ ⦃zfd:Int⦄,P zfd=true->K (e40 (S zfd))->X (zIq h zaP zaR zaS zaT zaU zaV zaW za3 za4 za5 zat zau zav zan zal zfd)
section
variable {K:List PA->Prop}{s:Setup}{h:Hit}{zaQ:Bool}{sv0:(Sl Plane)}{zcb:Nat->List PV}{sv1:(Sl Plane)}{zd3:Nat->List PV}{zv6:Bool}{zaP:Int}{zaR:Int}{zaS:Int}{zaT:Int}{zaU:Int}{zaV:Int}{zaW:Int}{za3:Int}{za4:Int}{za5:Int}{zat:Int}{zau:Int}{zav:Int}{zan:(Sl Drift)}{zal:(Sl Int)}{zjG:Nat->List PV}{zjH:Nat->List PV}{zfd:Int}{X4:St->Prop}{P4:Int->Bool}{S4:Int->(placed×Bool)}{zv7:Int}{zv8:Bool}
def zv9 (h:Hit) (zaP:Int) (zaR:Int) (zaS:Int) (zaT:Int) (zaU:Int) (zaV:Int) (zaW:Int) (za3:Int) (za4:Int) (za5:Int) (zat:Int) (zau:Int) (zav:Int) (zan:(Sl Drift)) (zal:(Sl Int)):(placed×Bool) :=
  (cond (h.Drift == (0:Int))
 (cond (zaP != (3:Int))
 ((⟨(⟨zaP,zaR,zaS,zaT,zaU,zaV,zaW,(⟨za3,za4⟩:Span),(⟨za5,zat⟩:Span),zau,zav,zan,zal⟩:Plane),h.Plane⟩:placed),true)
 ((⟨(⟨zaP,zaR,zaS,zaT,zaU,zaV,zaW,(⟨za3,za4⟩:Span),(⟨za5,zat⟩:Span),zau,zav,zan,zal⟩:Plane),h.Plane⟩:placed),(h.Time == (0:Int))))
 ((⟨(⟨zaP,zaR,zaS,zaT,zaU,zaV,zaW,(⟨za3,za4⟩:Span),(⟨za5,zat⟩:Span),zau,zav,zan,zal⟩:Plane),h.Plane⟩:placed),false))
theorem zMB (hk:K (e40 (zv9 h zaP zaR zaS zaT zaU zaV zaW za3 za4 za5 zat zau zav zan zal))):z40 (Wk K) [1,1,1,1,1,1] [] ⟨[(3,zp 3 0),(4,zp 4 0),(6,zp 6 0)],[(3,.box 41 (zm (zbH h))),(4,.box 107 [zi (0:Int),zi (0:Int),zi (0:Int),zi (0:Int),zi (0:Int),zi (0:Int),zi (0:Int),zi (0:Int),zi (0:Int),zi (0:Int),zi (0:Int),zi (0:Int),zi (0:Int),.p (.nils),.p (.nils),zi (0:Int)]),(6,.box 107 (zm (zbh (⟨(⟨zaP,zaR,zaS,zaT,zaU,zaV,zaW,(⟨za3,za4⟩:Span),(⟨za5,zat⟩:Span),zau,zav,zan,zal⟩:Plane),h.Plane⟩:placed))))],[]⟩:=zaK (by kernel_rfl) (zt hk (λ hk=>(zt hk (λ hk=>((zeW hk):Wk K [.agg [.int .i64 zaP,.int .i64 zaR,.int .i64 zaS,.int .i64 zaT,.int .i64 zaU,.int .i64 zaV,.int .i64 zaW,.int .i64 za3,.int .i64 za4,.int .i64 za5,.int .i64 zat,.int .i64 zau,.int .i64 zav,.sl zan.len 3 (λ i=>zbi (zan.get i)),.sl zal.len 1 (λ i=>enc_3 (zal.get i)),.int .i64 h.Plane],.one (.bool true)])) (λ hk=>((zeW hk):Wk K [.agg [.int .i64 zaP,.int .i64 zaR,.int .i64 zaS,.int .i64 zaT,.int .i64 zaU,.int .i64 zaV,.int .i64 zaW,.int .i64 za3,.int .i64 za4,.int .i64 za5,.int .i64 zat,.int .i64 zau,.int .i64 zav,.sl zan.len 3 (λ i=>zbi (zan.get i)),.sl zal.len 1 (λ i=>enc_3 (zal.get i)),.int .i64 h.Plane],.one (.bool (h.Time == (0:Int)))])))) (λ hk=>((zeW hk):Wk K [.agg [.int .i64 zaP,.int .i64 zaR,.int .i64 zaS,.int .i64 zaT,.int .i64 zaU,.int .i64 zaV,.int .i64 zaW,.int .i64 za3,.int .i64 za4,.int .i64 za5,.int .i64 zat,.int .i64 zau,.int .i64 zav,.sl zan.len 3 (λ i=>zbi (zan.get i)),.sl zal.len 1 (λ i=>enc_3 (zal.get i)),.int .i64 h.Plane],.one (.bool false)])))
def zqA (h:Hit) (zaP:Int) (zaR:Int) (zaS:Int) (zaT:Int) (zaU:Int) (zaV:Int) (zaW:Int) (za3:Int) (za4:Int) (za5:Int) (zat:Int) (zau:Int) (zav:Int) (zan:(Sl Drift)) (zal:(Sl Int)):(placed×Bool) :=
  (cond (zaP == (2:Int))
 (cond (h.Many == (1:Int))
 ((⟨(⟨zaP,zaR,zaS,zaT,zaU,zaV,zaW,(⟨za3,za4⟩:Span),(⟨za5,zat⟩:Span),zau,zav,zan,zal⟩:Plane),h.Plane⟩:placed),(s65 h.Drift (0:Int) (1000000:Int)))
 ((⟨(⟨zaP,zaR,zaS,zaT,zaU,zaV,zaW,(⟨za3,za4⟩:Span),(⟨za5,zat⟩:Span),zau,zav,zan,zal⟩:Plane),h.Plane⟩:placed),false))
 (zv9 h zaP zaR zaS zaT zaU zaV zaW za3 za4 za5 zat zau zav zan zal))
theorem zMC (hk:K (e40 (zqA h zaP zaR zaS zaT zaU zaV zaW za3 za4 za5 zat zau zav zan zal))):z40 (Wk K) [1,1,1,1,1] [] ⟨[(3,zp 3 0),(4,zp 4 0),(6,zp 6 0)],[(3,.box 41 (zm (zbH h))),(4,.box 107 [zi (0:Int),zi (0:Int),zi (0:Int),zi (0:Int),zi (0:Int),zi (0:Int),zi (0:Int),zi (0:Int),zi (0:Int),zi (0:Int),zi (0:Int),zi (0:Int),zi (0:Int),.p (.nils),.p (.nils),zi (0:Int)]),(6,.box 107 (zm (zbh (⟨(⟨zaP,zaR,zaS,zaT,zaU,zaV,zaW,(⟨za3,za4⟩:Span),(⟨za5,zat⟩:Span),zau,zav,zan,zal⟩:Plane),h.Plane⟩:placed))))],[]⟩:=zaK (by kernel_rfl) (zt hk (λ hk=>(zt hk (λ hk=>((zeW hk):Wk K [.agg [.int .i64 zaP,.int .i64 zaR,.int .i64 zaS,.int .i64 zaT,.int .i64 zaU,.int .i64 zaV,.int .i64 zaW,.int .i64 za3,.int .i64 za4,.int .i64 za5,.int .i64 zat,.int .i64 zau,.int .i64 zav,.sl zan.len 3 (λ i=>zbi (zan.get i)),.sl zal.len 1 (λ i=>enc_3 (zal.get i)),.int .i64 h.Plane],.one (.bool (s65 h.Drift (0:Int) (1000000:Int)))])) (λ hk=>((zeW hk):Wk K [.agg [.int .i64 zaP,.int .i64 zaR,.int .i64 zaS,.int .i64 zaT,.int .i64 zaU,.int .i64 zaV,.int .i64 zaW,.int .i64 za3,.int .i64 za4,.int .i64 za5,.int .i64 zat,.int .i64 zau,.int .i64 zav,.sl zan.len 3 (λ i=>zbi (zan.get i)),.sl zal.len 1 (λ i=>enc_3 (zal.get i)),.int .i64 h.Plane],.one (.bool false)])))) (λ hk=>(zMB hk)))
def zwa (S4:Int->(placed×Bool)) (h:Hit) (zaP:Int) (zaR:Int) (zaS:Int) (zaT:Int) (zaU:Int) (zaV:Int) (zaW:Int) (za3:Int) (za4:Int) (za5:Int) (zat:Int) (zau:Int) (zav:Int) (zan:(Sl Drift)) (zal:(Sl Int)) (zv7:Int) (zv8:Bool):(placed×Bool) :=
  (cond zv8
 ((⟨(⟨zaP,zaR,zaS,zaT,zaU,zaV,zaW,(⟨za3,za4⟩:Span),(⟨za5,zat⟩:Span),zau,zav,zan,zal⟩:Plane),h.Plane⟩:placed),false)
 (S4 (w64 (zv7+(1:Int)))))
def zwb (P4:Int->Bool) (h:Hit) (zaP:Int) (zaR:Int) (zaS:Int) (zaT:Int) (zaU:Int) (zaV:Int) (zaW:Int) (za3:Int) (za4:Int) (za5:Int) (zat:Int) (zau:Int) (zav:Int) (zan:(Sl Drift)) (zal:(Sl Int)) (zv7:Int) (zv8:Bool):Bool :=
  (cond zv8
 true
 (P4 (w64 (zv7+(1:Int)))))
theorem zMD (hX4:zMA K h zaP zaR zaS zaT zaU zaV zaW za3 za4 za5 zat zau zav zan zal X4 P4 S4) (hs:zwb P4 h zaP zaR zaS zaT zaU zaV zaW za3 za4 za5 zat zau zav zan zal zv7 zv8=true) (hk:K (e40 (zwa S4 h zaP zaR zaS zaT zaU zaV zaW za3 za4 za5 zat zau zav zan zal zv7 zv8))):z40 (Wk K) [1,1,1,1,0,1,0,0,1,1,0,0,1,1] [X4] ⟨[(3,zp 3 0),(4,zp 4 0),(6,zp 6 0),(65,zS enc_3 1 zal),(66,zI (zal.len:Int)),(67,zI zv7),(80,zB zv8)],[(3,.box 41 (zm (zbH h))),(4,.box 107 [zi (0:Int),zi (0:Int),zi (0:Int),zi (0:Int),zi (0:Int),zi (0:Int),zi (0:Int),zi (0:Int),zi (0:Int),zi (0:Int),zi (0:Int),zi (0:Int),zi (0:Int),.p (.nils),.p (.nils),zi (0:Int)]),(6,.box 107 (zm (zbh (⟨(⟨zaP,zaR,zaS,zaT,zaU,zaV,zaW,(⟨za3,za4⟩:Span),(⟨za5,zat⟩:Span),zau,zav,zan,zal⟩:Plane),h.Plane⟩:placed))))],[]⟩:=zaK (by kernel_rfl) (zc hs hk (λ hs hk=>((zeW hk):Wk K [.agg [.int .i64 zaP,.int .i64 zaR,.int .i64 zaS,.int .i64 zaT,.int .i64 zaU,.int .i64 zaV,.int .i64 zaW,.int .i64 za3,.int .i64 za4,.int .i64 za5,.int .i64 zat,.int .i64 zau,.int .i64 zav,.sl zan.len 3 (λ i=>zbi (zan.get i)),.sl zal.len 1 (λ i=>enc_3 (zal.get i)),.int .i64 h.Plane],.one (.bool false)])) (λ hs hk=>(hX4 hs hk)))
def zk2 (h:Hit) (zaP:Int) (zaR:Int) (zaS:Int) (zaT:Int) (zaU:Int) (zaV:Int) (zaW:Int) (za3:Int) (za4:Int) (za5:Int) (zat:Int) (zau:Int) (zav:Int) (zan:(Sl Drift)) (zal:(Sl Int)) (S4:Int->(placed×Bool)) (zfd:Int):(placed×Bool) :=
  (cond (decide (zfd < (zal.len : Int)))
 (zwa S4 h zaP zaR zaS zaT zaU zaV zaW za3 za4 za5 zat zau zav zan zal zfd (s65 (zal.get zfd.toNat) h.Channel (w64 ((w64 (h.Channel+h.Many)) - (1:Int)))))
 (zqA h zaP zaR zaS zaT zaU zaV zaW za3 za4 za5 zat zau zav zan zal))
def zk3 (h:Hit) (zaP:Int) (zaR:Int) (zaS:Int) (zaT:Int) (zaU:Int) (zaV:Int) (zaW:Int) (za3:Int) (za4:Int) (za5:Int) (zat:Int) (zau:Int) (zav:Int) (zan:(Sl Drift)) (zal:(Sl Int)) (P4:Int->Bool) (zfd:Int):Bool :=
  (cond (decide (zfd < (zal.len : Int)))
 (decide ((0<=zfd/\zfd < (zal.len:Int))) &&
 (zwb P4 h zaP zaR zaS zaT zaU zaV zaW za3 za4 za5 zat zau zav zan zal zfd (s65 (zal.get zfd.toNat) h.Channel (w64 ((w64 (h.Channel+h.Many)) - (1:Int))))))
 true)
def zk4 (h:Hit) (zaP:Int) (zaR:Int) (zaS:Int) (zaT:Int) (zaU:Int) (zaV:Int) (zaW:Int) (za3:Int) (za4:Int) (za5:Int) (zat:Int) (zau:Int) (zav:Int) (zan:(Sl Drift)) (zal:(Sl Int)):Nat->Int->(placed×Bool):=lpO (λ _=>default) (zk2 h zaP zaR zaS zaT zaU zaV zaW za3 za4 za5 zat zau zav zan zal)
def zk5 (h:Hit) (zaP:Int) (zaR:Int) (zaS:Int) (zaT:Int) (zaU:Int) (zaV:Int) (zaW:Int) (za3:Int) (za4:Int) (za5:Int) (zat:Int) (zau:Int) (zav:Int) (zan:(Sl Drift)) (zal:(Sl Int)):Nat->Int->Bool:=lpO (λ _=>false) (zk3 h zaP zaR zaS zaT zaU zaV zaW za3 za4 za5 zat zau zav zan zal)
def zwc (h:Hit) (zaP:Int) (zaR:Int) (zaS:Int) (zaT:Int) (zaU:Int) (zaV:Int) (zaW:Int) (za3:Int) (za4:Int) (za5:Int) (zat:Int) (zau:Int) (zav:Int) (zan:(Sl Drift)) (zal:(Sl Int)) (zfd:Int):(placed×Bool):=zk4 h zaP zaR zaS zaT zaU zaV zaW za3 za4 za5 zat zau zav zan zal Fuel zfd
def zwd (h:Hit) (zaP:Int) (zaR:Int) (zaS:Int) (zaT:Int) (zaU:Int) (zaV:Int) (zaW:Int) (za3:Int) (za4:Int) (za5:Int) (zat:Int) (zau:Int) (zav:Int) (zan:(Sl Drift)) (zal:(Sl Int)) (zfd:Int):Bool:=zk5 h zaP zaR zaS zaT zaU zaV zaW za3 za4 za5 zat zau zav zan zal Fuel zfd
theorem zME (hs:zwd h zaP zaR zaS zaT zaU zaV zaW za3 za4 za5 zat zau zav zan zal zfd=true) (hk:K (e40 (zwc h zaP zaR zaS zaT zaU zaV zaW za3 za4 za5 zat zau zav zan zal zfd))):z40 (Wk K) [1,1,1,1,0,1,0] [] (zIq h zaP zaR zaS zaT zaU zaV zaW za3 za4 za5 zat zau zav zan zal zfd) :=
  zl (λ X=>z40 (Wk K) [1,1,1,1,0,1,0,0] [X]) (by kernel_rfl) λ X4 hX =>
  (show ∀ k, zMA K h zaP zaR zaS zaT zaU zaV zaW za3 za4 za5 zat zau zav zan zal X4 (zk5 h zaP zaR zaS zaT zaU zaV zaW za3 za4 za5 zat zau zav zan zal k) (zk4 h zaP zaR zaS zaT zaU zaV zaW za3 za4 za5 zat zau zav zan zal k) from zgc _ _ (zk3 h zaP zaR zaS zaT zaU zaV zaW za3 za4 za5 zat zau zav zan zal) (zk2 h zaP zaR zaS zaT zaU zaV zaW za3 za4 za5 zat zau zav zan zal) (zMA K h zaP zaR zaS zaT zaU zaV zaW za3 za4 za5 zat zau zav zan zal X4)
 (by intro _ hs;exact absurd hs dqk)
 (by intro P4 S4 hX4 zfd hs hk;exact hX _ (zaK (by kernel_rfl) (zc hs hk (λ hs hk=>(zaX hs λ hc hs=>And.intro hc (zMD hX4 hs hk))) (λ hs hk=>(zMC hk)))))) _ hs hk
def zwe (h:Hit) (zaP:Int) (zaR:Int) (zaS:Int) (zaT:Int) (zaU:Int) (zaV:Int) (zaW:Int) (za3:Int) (za4:Int) (za5:Int) (zat:Int) (zau:Int) (zav:Int) (zan:(Sl Drift)) (zal:(Sl Int)):(placed×Bool) :=
  (zwc h zaP zaR zaS zaT zaU zaV zaW za3 za4 za5 zat zau zav zan zal (0:Int))
def zwf (h:Hit) (zaP:Int) (zaR:Int) (zaS:Int) (zaT:Int) (zaU:Int) (zaV:Int) (zaW:Int) (za3:Int) (za4:Int) (za5:Int) (zat:Int) (zau:Int) (zav:Int) (zan:(Sl Drift)) (zal:(Sl Int)):Bool :=
  (zwd h zaP zaR zaS zaT zaU zaV zaW za3 za4 za5 zat zau zav zan zal (0:Int))
theorem zMF (hs:zwf h zaP zaR zaS zaT zaU zaV zaW za3 za4 za5 zat zau zav zan zal=true) (hk:K (e40 (zwe h zaP zaR zaS zaT zaU zaV zaW za3 za4 za5 zat zau zav zan zal))):z40 (Wk K) [1,1,1,1] [] ⟨[(3,zp 3 0),(4,zp 4 0),(6,zp 6 0)],[(3,.box 41 (zm (zbH h))),(4,.box 107 [zi (0:Int),zi (0:Int),zi (0:Int),zi (0:Int),zi (0:Int),zi (0:Int),zi (0:Int),zi (0:Int),zi (0:Int),zi (0:Int),zi (0:Int),zi (0:Int),zi (0:Int),.p (.nils),.p (.nils),zi (0:Int)]),(6,.box 107 (zm (zbh (⟨(⟨zaP,zaR,zaS,zaT,zaU,zaV,zaW,(⟨za3,za4⟩:Span),(⟨za5,zat⟩:Span),zau,zav,zan,zal⟩:Plane),h.Plane⟩:placed))))],[]⟩:=zaK (by kernel_rfl) (zME hs hk)
def zk6 (h:Hit) (zv6:Bool) (zaP:Int) (zaR:Int) (zaS:Int) (zaT:Int) (zaU:Int) (zaV:Int) (zaW:Int) (za3:Int) (za4:Int) (za5:Int) (zat:Int) (zau:Int) (zav:Int) (zan:(Sl Drift)) (zal:(Sl Int)):(placed×Bool) :=
  (cond zv6
 ((⟨(⟨zaP,zaR,zaS,zaT,zaU,zaV,zaW,(⟨za3,za4⟩:Span),(⟨za5,zat⟩:Span),zau,zav,zan,zal⟩:Plane),h.Plane⟩:placed),false)
 (zwe h zaP zaR zaS zaT zaU zaV zaW za3 za4 za5 zat zau zav zan zal))
def zk7 (h:Hit) (zv6:Bool) (zaP:Int) (zaR:Int) (zaS:Int) (zaT:Int) (zaU:Int) (zaV:Int) (zaW:Int) (za3:Int) (za4:Int) (za5:Int) (zat:Int) (zau:Int) (zav:Int) (zan:(Sl Drift)) (zal:(Sl Int)):Bool :=
  (cond zv6
 true
 (zwf h zaP zaR zaS zaT zaU zaV zaW za3 za4 za5 zat zau zav zan zal))
theorem zqB (hs:zk7 h zv6 zaP zaR zaS zaT zaU zaV zaW za3 za4 za5 zat zau zav zan zal=true) (hk:K (e40 (zk6 h zv6 zaP zaR zaS zaT zaU zaV zaW za3 za4 za5 zat zau zav zan zal))) (zpW:zjG=zg zbi zan) (zpX:zjH=zg enc_3 zal):z40 (Wk K) [1,1,1,0,1] [] ⟨[(3,zp 3 0),(4,zp 4 0),(6,zp 6 0),(61,zB zv6)],[(3,.box 41 (zm (zbH h))),(4,.box 107 [zi (0:Int),zi (0:Int),zi (0:Int),zi (0:Int),zi (0:Int),zi (0:Int),zi (0:Int),zi (0:Int),zi (0:Int),zi (0:Int),zi (0:Int),zi (0:Int),zi (0:Int),.p (.nils),.p (.nils),zi (0:Int)]),(6,.box 107 (zm (zbh (⟨(⟨zaP,zaR,zaS,zaT,zaU,zaV,zaW,(⟨za3,za4⟩:Span),(⟨za5,zat⟩:Span),zau,zav,(⟨zan.len,zcx zjG⟩:(Sl Drift)),(⟨zal.len,zcS zjH⟩:(Sl Int))⟩:Plane),h.Plane⟩:placed))))],[]⟩:=by subst zpW;subst zpX;exact zaK (by kernel_rfl) (zc hs hk (λ hs hk=>((zeW hk):Wk K [.agg [.int .i64 zaP,.int .i64 zaR,.int .i64 zaS,.int .i64 zaT,.int .i64 zaU,.int .i64 zaV,.int .i64 zaW,.int .i64 za3,.int .i64 za4,.int .i64 za5,.int .i64 zat,.int .i64 zau,.int .i64 zav,.sl zan.len 3 (λ i=>zbi (zan.get i)),.sl zal.len 1 (λ i=>enc_3 (zal.get i)),.int .i64 h.Plane],.one (.bool false)])) (λ hs hk=>(zMF hs hk)))
def zwg (h:Hit) (sv1:(Sl Plane)):(placed×Bool) :=
  (cond (!(s65 h.Channel (0:Int) (w64 ((sv1.get h.Plane.toNat).Strips - (1:Int)))))
 (zk6 h true ((sv1.get h.Plane.toNat).Kind) ((sv1.get h.Plane.toNat).View) ((sv1.get h.Plane.toNat).Z) ((sv1.get h.Plane.toNat).First) ((sv1.get h.Plane.toNat).Pitch) ((sv1.get h.Plane.toNat).Strips) ((sv1.get h.Plane.toNat).Spill) ((sv1.get h.Plane.toNat).Offset.Low) ((sv1.get h.Plane.toNat).Offset.High) ((sv1.get h.Plane.toNat).Clock.Low) ((sv1.get h.Plane.toNat).Clock.High) ((sv1.get h.Plane.toNat).Jitter) ((sv1.get h.Plane.toNat).Least) ((sv1.get h.Plane.toNat).Drift) ((sv1.get h.Plane.toNat).Dead))
 (cond (!(s65 h.Many (1:Int) (w64 ((sv1.get h.Plane.toNat).Strips - h.Channel))))
 (zk6 h true ((sv1.get h.Plane.toNat).Kind) ((sv1.get h.Plane.toNat).View) ((sv1.get h.Plane.toNat).Z) ((sv1.get h.Plane.toNat).First) ((sv1.get h.Plane.toNat).Pitch) ((sv1.get h.Plane.toNat).Strips) ((sv1.get h.Plane.toNat).Spill) ((sv1.get h.Plane.toNat).Offset.Low) ((sv1.get h.Plane.toNat).Offset.High) ((sv1.get h.Plane.toNat).Clock.Low) ((sv1.get h.Plane.toNat).Clock.High) ((sv1.get h.Plane.toNat).Jitter) ((sv1.get h.Plane.toNat).Least) ((sv1.get h.Plane.toNat).Drift) ((sv1.get h.Plane.toNat).Dead))
 (cond (!(s65 h.Charge ((sv1.get h.Plane.toNat).Least) (1000000:Int)))
 (zk6 h true ((sv1.get h.Plane.toNat).Kind) ((sv1.get h.Plane.toNat).View) ((sv1.get h.Plane.toNat).Z) ((sv1.get h.Plane.toNat).First) ((sv1.get h.Plane.toNat).Pitch) ((sv1.get h.Plane.toNat).Strips) ((sv1.get h.Plane.toNat).Spill) ((sv1.get h.Plane.toNat).Offset.Low) ((sv1.get h.Plane.toNat).Offset.High) ((sv1.get h.Plane.toNat).Clock.Low) ((sv1.get h.Plane.toNat).Clock.High) ((sv1.get h.Plane.toNat).Jitter) ((sv1.get h.Plane.toNat).Least) ((sv1.get h.Plane.toNat).Drift) ((sv1.get h.Plane.toNat).Dead))
 (zk6 h (!(s65 h.Time (-1000000000:Int) (1000000000:Int))) ((sv1.get h.Plane.toNat).Kind) ((sv1.get h.Plane.toNat).View) ((sv1.get h.Plane.toNat).Z) ((sv1.get h.Plane.toNat).First) ((sv1.get h.Plane.toNat).Pitch) ((sv1.get h.Plane.toNat).Strips) ((sv1.get h.Plane.toNat).Spill) ((sv1.get h.Plane.toNat).Offset.Low) ((sv1.get h.Plane.toNat).Offset.High) ((sv1.get h.Plane.toNat).Clock.Low) ((sv1.get h.Plane.toNat).Clock.High) ((sv1.get h.Plane.toNat).Jitter) ((sv1.get h.Plane.toNat).Least) ((sv1.get h.Plane.toNat).Drift) ((sv1.get h.Plane.toNat).Dead)))))
def zwh (h:Hit) (sv1:(Sl Plane)):Bool :=
  (decide ((0<=h.Plane/\h.Plane < (sv1.len:Int))) &&
 (cond (!(s65 h.Channel (0:Int) (w64 ((sv1.get h.Plane.toNat).Strips - (1:Int)))))
 (zk7 h true ((sv1.get h.Plane.toNat).Kind) ((sv1.get h.Plane.toNat).View) ((sv1.get h.Plane.toNat).Z) ((sv1.get h.Plane.toNat).First) ((sv1.get h.Plane.toNat).Pitch) ((sv1.get h.Plane.toNat).Strips) ((sv1.get h.Plane.toNat).Spill) ((sv1.get h.Plane.toNat).Offset.Low) ((sv1.get h.Plane.toNat).Offset.High) ((sv1.get h.Plane.toNat).Clock.Low) ((sv1.get h.Plane.toNat).Clock.High) ((sv1.get h.Plane.toNat).Jitter) ((sv1.get h.Plane.toNat).Least) ((sv1.get h.Plane.toNat).Drift) ((sv1.get h.Plane.toNat).Dead))
 (cond (!(s65 h.Many (1:Int) (w64 ((sv1.get h.Plane.toNat).Strips - h.Channel))))
 (zk7 h true ((sv1.get h.Plane.toNat).Kind) ((sv1.get h.Plane.toNat).View) ((sv1.get h.Plane.toNat).Z) ((sv1.get h.Plane.toNat).First) ((sv1.get h.Plane.toNat).Pitch) ((sv1.get h.Plane.toNat).Strips) ((sv1.get h.Plane.toNat).Spill) ((sv1.get h.Plane.toNat).Offset.Low) ((sv1.get h.Plane.toNat).Offset.High) ((sv1.get h.Plane.toNat).Clock.Low) ((sv1.get h.Plane.toNat).Clock.High) ((sv1.get h.Plane.toNat).Jitter) ((sv1.get h.Plane.toNat).Least) ((sv1.get h.Plane.toNat).Drift) ((sv1.get h.Plane.toNat).Dead))
 (cond (!(s65 h.Charge ((sv1.get h.Plane.toNat).Least) (1000000:Int)))
 (zk7 h true ((sv1.get h.Plane.toNat).Kind) ((sv1.get h.Plane.toNat).View) ((sv1.get h.Plane.toNat).Z) ((sv1.get h.Plane.toNat).First) ((sv1.get h.Plane.toNat).Pitch) ((sv1.get h.Plane.toNat).Strips) ((sv1.get h.Plane.toNat).Spill) ((sv1.get h.Plane.toNat).Offset.Low) ((sv1.get h.Plane.toNat).Offset.High) ((sv1.get h.Plane.toNat).Clock.Low) ((sv1.get h.Plane.toNat).Clock.High) ((sv1.get h.Plane.toNat).Jitter) ((sv1.get h.Plane.toNat).Least) ((sv1.get h.Plane.toNat).Drift) ((sv1.get h.Plane.toNat).Dead))
 (zk7 h (!(s65 h.Time (-1000000000:Int) (1000000000:Int))) ((sv1.get h.Plane.toNat).Kind) ((sv1.get h.Plane.toNat).View) ((sv1.get h.Plane.toNat).Z) ((sv1.get h.Plane.toNat).First) ((sv1.get h.Plane.toNat).Pitch) ((sv1.get h.Plane.toNat).Strips) ((sv1.get h.Plane.toNat).Spill) ((sv1.get h.Plane.toNat).Offset.Low) ((sv1.get h.Plane.toNat).Offset.High) ((sv1.get h.Plane.toNat).Clock.Low) ((sv1.get h.Plane.toNat).Clock.High) ((sv1.get h.Plane.toNat).Jitter) ((sv1.get h.Plane.toNat).Least) ((sv1.get h.Plane.toNat).Drift) ((sv1.get h.Plane.toNat).Dead))))))
theorem zMG (hs:zwh h sv1=true) (hk:K (e40 (zwg h sv1))) (zgA:zd3=zg enc_35 sv1):z40 (Wk K) [1,1] [] ⟨[(2,zp 2 0),(3,zp 3 0),(4,zp 4 0)],[(2,.box 24 [.p (.sl sv1.len 15 zd3)]),(3,.box 41 (zm (zbH h))),(4,.box 107 [zi (0:Int),zi (0:Int),zi (0:Int),zi (0:Int),zi (0:Int),zi (0:Int),zi (0:Int),zi (0:Int),zi (0:Int),zi (0:Int),zi (0:Int),zi (0:Int),zi (0:Int),.p (.nils),.p (.nils),zi (0:Int)])],[]⟩:=by subst zgA;exact zaK (by kernel_rfl) (zaX hs λ hc hs=>And.intro hc (zc hs hk (λ hs hk=>(zqB hs hk rfl rfl)) (λ hs hk=>(zc hs hk (λ hs hk=>(zqB hs hk rfl rfl)) (λ hs hk=>(zc hs hk (λ hs hk=>(zqB hs hk rfl rfl)) (λ hs hk=>(zqB hs hk rfl rfl))))))))
def zwi (h:Hit) (zaQ:Bool) (sv0:(Sl Plane)):(placed×Bool) :=
  (cond zaQ
 ((⟨(⟨(0:Int),(0:Int),(0:Int),(0:Int),(0:Int),(0:Int),(0:Int),(⟨(0:Int),(0:Int)⟩:Span),(⟨(0:Int),(0:Int)⟩:Span),(0:Int),(0:Int),(⟨0,λ _=>default⟩:(Sl Drift)),(⟨0,λ _=>default⟩:(Sl Int))⟩:Plane),(0:Int)⟩:placed),false)
 (zwg h sv0))
def zwj (h:Hit) (zaQ:Bool) (sv0:(Sl Plane)):Bool :=
  (cond zaQ
 true
 (zwh h sv0))
theorem zMH (hs:zwj h zaQ sv0=true) (hk:K (e40 (zwi h zaQ sv0))) (zdN:zcb=zg enc_35 sv0):z40 (Wk K) [1,0,1] [] ⟨[(2,zp 2 0),(3,zp 3 0),(4,zp 4 0),(16,zB zaQ)],[(2,.box 24 [.p (.sl sv0.len 15 zcb)]),(3,.box 41 (zm (zbH h))),(4,.box 107 [zi (0:Int),zi (0:Int),zi (0:Int),zi (0:Int),zi (0:Int),zi (0:Int),zi (0:Int),zi (0:Int),zi (0:Int),zi (0:Int),zi (0:Int),zi (0:Int),zi (0:Int),.p (.nils),.p (.nils),zi (0:Int)])],[]⟩:=by subst zdN;exact zaK (by kernel_rfl) (zc hs hk (λ hs hk=>((wk hk (zeC (.agg (zeC (.rfl _) (zeC (.rfl _) (zeC (.rfl _) (zeC (.rfl _) (zeC (.rfl _) (zeC (.rfl _) (zeC (.rfl _) (zeC (.rfl _) (zeC (.rfl _) (zeC (.rfl _) (zeC (.rfl _) (zeC (.rfl _) (zeC (.rfl _) (zeC (.nil _ _) (zeC (.nil _ _) (zeC (.rfl _) zka))))))))))))))))) (zeC (.one (.rfl _)) zka))):Wk K [.agg [.int .i64 (0:Int),.int .i64 (0:Int),.int .i64 (0:Int),.int .i64 (0:Int),.int .i64 (0:Int),.int .i64 (0:Int),.int .i64 (0:Int),.int .i64 (0:Int),.int .i64 (0:Int),.int .i64 (0:Int),.int .i64 (0:Int),.int .i64 (0:Int),.int .i64 (0:Int),.nils,.nils,.int .i64 (0:Int)],.one (.bool false)])) (λ hs hk=>(zMG hs hk rfl)))
def s40 (s:Setup) (h:Hit):(placed×Bool) :=
  (zwi h (!(s65 h.Plane (0:Int) (w64 ((s.Planes.len:Int) - (1:Int))))) s.Planes)
def p40 (s:Setup) (h:Hit):Bool :=
  (zwj h (!(s65 h.Plane (0:Int) (w64 ((s.Planes.len:Int) - (1:Int))))) s.Planes)
end
theorem q40 (s:Setup) (h:Hit) (K:List PA->Prop) (hs:p40 s h=true) (hk:K (e40 (s40 s h))):vcFun Tryd.prog G40 zMz 40 [.agg (enc_24 s),.agg (zbH h)] (Wk K) :=
  zaK (by kernel_rfl) (zMH hs hk rfl)
def zGC : List PA → COut
  | [.agg [.sl zaa za8 zab],.agg [.int .i64 zbb,.int .i64 zaI,.int .i64 zbv,.int .i64 zbc,.int .i64 zaO,.int .i64 zbw]]=>.det (IsE enc_35 15 za8 zab/\p40 (⟨(⟨zaa,zbo zab⟩:(Sl Plane))⟩:Setup) (⟨zbb,zaI,zbv,zbc,zaO,zbw⟩:Hit)=true) [.agg [.int .i64 (((s40 (⟨(⟨zaa,zbo zab⟩:(Sl Plane))⟩:Setup) (⟨zbb,zaI,zbv,zbc,zaO,zbw⟩:Hit)).1).Plane.Kind),.int .i64 (((s40 (⟨(⟨zaa,zbo zab⟩:(Sl Plane))⟩:Setup) (⟨zbb,zaI,zbv,zbc,zaO,zbw⟩:Hit)).1).Plane.View),.int .i64 (((s40 (⟨(⟨zaa,zbo zab⟩:(Sl Plane))⟩:Setup) (⟨zbb,zaI,zbv,zbc,zaO,zbw⟩:Hit)).1).Plane.Z),.int .i64 (((s40 (⟨(⟨zaa,zbo zab⟩:(Sl Plane))⟩:Setup) (⟨zbb,zaI,zbv,zbc,zaO,zbw⟩:Hit)).1).Plane.First),.int .i64 (((s40 (⟨(⟨zaa,zbo zab⟩:(Sl Plane))⟩:Setup) (⟨zbb,zaI,zbv,zbc,zaO,zbw⟩:Hit)).1).Plane.Pitch),.int .i64 (((s40 (⟨(⟨zaa,zbo zab⟩:(Sl Plane))⟩:Setup) (⟨zbb,zaI,zbv,zbc,zaO,zbw⟩:Hit)).1).Plane.Strips),.int .i64 (((s40 (⟨(⟨zaa,zbo zab⟩:(Sl Plane))⟩:Setup) (⟨zbb,zaI,zbv,zbc,zaO,zbw⟩:Hit)).1).Plane.Spill),.int .i64 (((s40 (⟨(⟨zaa,zbo zab⟩:(Sl Plane))⟩:Setup) (⟨zbb,zaI,zbv,zbc,zaO,zbw⟩:Hit)).1).Plane.Offset.Low),.int .i64 (((s40 (⟨(⟨zaa,zbo zab⟩:(Sl Plane))⟩:Setup) (⟨zbb,zaI,zbv,zbc,zaO,zbw⟩:Hit)).1).Plane.Offset.High),.int .i64 (((s40 (⟨(⟨zaa,zbo zab⟩:(Sl Plane))⟩:Setup) (⟨zbb,zaI,zbv,zbc,zaO,zbw⟩:Hit)).1).Plane.Clock.Low),.int .i64 (((s40 (⟨(⟨zaa,zbo zab⟩:(Sl Plane))⟩:Setup) (⟨zbb,zaI,zbv,zbc,zaO,zbw⟩:Hit)).1).Plane.Clock.High),.int .i64 (((s40 (⟨(⟨zaa,zbo zab⟩:(Sl Plane))⟩:Setup) (⟨zbb,zaI,zbv,zbc,zaO,zbw⟩:Hit)).1).Plane.Jitter),.int .i64 (((s40 (⟨(⟨zaa,zbo zab⟩:(Sl Plane))⟩:Setup) (⟨zbb,zaI,zbv,zbc,zaO,zbw⟩:Hit)).1).Plane.Least),.sl (((s40 (⟨(⟨zaa,zbo zab⟩:(Sl Plane))⟩:Setup) (⟨zbb,zaI,zbv,zbc,zaO,zbw⟩:Hit)).1).Plane.Drift.len) 3 (λ i=>zbi (((s40 (⟨(⟨zaa,zbo zab⟩:(Sl Plane))⟩:Setup) (⟨zbb,zaI,zbv,zbc,zaO,zbw⟩:Hit)).1).Plane.Drift.get i)),.sl (((s40 (⟨(⟨zaa,zbo zab⟩:(Sl Plane))⟩:Setup) (⟨zbb,zaI,zbv,zbc,zaO,zbw⟩:Hit)).1).Plane.Dead.len) 1 (λ i=>enc_3 (((s40 (⟨(⟨zaa,zbo zab⟩:(Sl Plane))⟩:Setup) (⟨zbb,zaI,zbv,zbc,zaO,zbw⟩:Hit)).1).Plane.Dead.get i)),.int .i64 (((s40 (⟨(⟨zaa,zbo zab⟩:(Sl Plane))⟩:Setup) (⟨zbb,zaI,zbv,zbc,zaO,zbw⟩:Hit)).1).index)],.one (.bool ((s40 (⟨(⟨zaa,zbo zab⟩:(Sl Plane))⟩:Setup) (⟨zbb,zaI,zbv,zbc,zaO,zbw⟩:Hit)).2))]
  | _=>.no
theorem zQI:zaj Tryd.prog 40:=⟨_,rfl,rfl,by kernel_rfl⟩
theorem zVc:Ok Tryd.prog 40 zGC:=ziv zT8 zQI λ args K h=>by
  unfold zGC at h
  split at h
  · rename_i zaa za8 zab zbb zaI zbv zbc zaO zbw
    obtain⟨⟨⟨rfl,zaF,rfl⟩,hs⟩,hk⟩:=h
    try rw[zbG zaF] at hs
    try rw[zbG zaF] at hk
    exact⟨_,zib zg5 _,(λ _ _=>[]),(λ _=>false),zMz,q40 (⟨(⟨zaa,zaF⟩:(Sl Plane))⟩:Setup) (⟨zbb,zaI,zbv,zbc,zaO,zbw⟩:Hit) K hs hk⟩
  · exact h.elim
abbrev T39:Tabs:=((Tabs.nil.addF 36 zGx).addF 40 zGC)
theorem zT9:TabsOk Tryd.prog T39:=((TabsOk.nil.addF zVb).addF zVc)
abbrev G39:Ctrs:=csm T39 (λ _ _=>[]) (λ _=>false)
def zQJ:Ann:=⟨17,[(0,zK [2,3] [2,3]),(1,zK [2,3,9] [2,3]),(2,zK [4] []),(3,zK [6] []),(4,zK [4] [])],
 [],
 [],
 [],[]⟩
abbrev R39:=Bool
abbrev e39 (r:R39):List PA:=[.one (.bool r)]
section
variable {K:List PA->Prop}{s:Setup}{h:Hit}
def s39 (s:Setup) (h:Hit):Bool :=
  (cond (!(s36 s))
 false
 ((s40 s h).2))
def p39 (s:Setup) (h:Hit):Bool :=
  (decide ((p36 s=true)) &&
 (cond (!(s36 s))
 true
 (decide ((p40 s h=true)) &&
 true)))
end
theorem q39 (s:Setup) (h:Hit) (K:List PA->Prop) (hs:p39 s h=true) (hk:K (e39 (s39 s h))):vcFun Tryd.prog G39 zQJ 39 [.agg (enc_24 s),.agg (zbH h)] K :=
  zaK (by kernel_rfl) (zaX hs λ hc hs=>And.intro (And.intro (zE enc_35 15 s.Planes.get) hc) (zc hs hk (λ hs hk=>hk) (λ hs hk=>(zaX hs λ hc hs=>And.intro (And.intro (zE enc_35 15 s.Planes.get) hc) hk))))
def zMI : List PA → COut
  | [.agg [.sl zaa za8 zab],.agg [.int .i64 zbb,.int .i64 zaI,.int .i64 zbv,.int .i64 zbc,.int .i64 zaO,.int .i64 zbw]]=>.det (IsE enc_35 15 za8 zab/\p39 (⟨(⟨zaa,zbo zab⟩:(Sl Plane))⟩:Setup) (⟨zbb,zaI,zbv,zbc,zaO,zbw⟩:Hit)=true) [.one (.bool (s39 (⟨(⟨zaa,zbo zab⟩:(Sl Plane))⟩:Setup) (⟨zbb,zaI,zbv,zbc,zaO,zbw⟩:Hit)))]
  | _=>.no
theorem zQK:zaj Tryd.prog 39:=⟨_,rfl,rfl,by kernel_rfl⟩
theorem zXe:Ok Tryd.prog 39 zMI:=zbm zT9 zQK λ args K h=>by
  unfold zMI at h
  split at h
  · rename_i zaa za8 zab zbb zaI zbv zbc zaO zbw
    obtain⟨⟨⟨rfl,zaF,rfl⟩,hs⟩,hk⟩:=h
    try rw[zbG zaF] at hs
    try rw[zbG zaF] at hk
    exact⟨(λ _ _=>[]),(λ _=>false),zQJ,q39 (⟨(⟨zaa,zaF⟩:(Sl Plane))⟩:Setup) (⟨zbb,zaI,zbv,zbc,zaO,zbw⟩:Hit) K hs hk⟩
  · exact h.elim
abbrev T41:Tabs:=Tabs.nil
theorem zUa:TabsOk Tryd.prog T41:=TabsOk.nil
abbrev G41:Ctrs:=csm T41 (λ _ _=>[]) (λ _=>false)
def zMJ:Ann:=⟨35,[(0,zK [2,3,4] [2,3,4]),(1,zK [2,3,4,8] [2,3,4]),(2,zK [4] [4]),(3,zK [4] [4])],
 [],
 [(3,zK [2,3,4] [2,3,4])],
 [],[]⟩
abbrev R41:=Span
abbrev e41 (r:R41):List PA:=[.agg [.int .i64 r.Low,.int .i64 r.High]]
@[irreducible] def z41:=ptF Tryd.prog G41 zMJ Tryd.f41
section
variable {K:List PA->Prop}{p:placed}{h:Hit}
def zwk (p:placed) (h:Hit):Span :=
  (⟨(w64 ((w64 (h.Time - p.Plane.Clock.High)) - p.Plane.Jitter)),(w64 ((w64 (h.Time - p.Plane.Clock.Low))+p.Plane.Jitter))⟩:Span)
theorem zMK (hk:K (e41 (zwk p h))):z41 K [1,1] [] ⟨[(2,zp 2 0),(3,zp 3 0),(4,zp 4 0)],[(2,.box 107 (zm (zbh p))),(3,.box 41 (zm (zbH h))),(4,.box 32 (zm (za2 (⟨(0:Int),(0:Int)⟩:Span))))],[]⟩:=zaK (by kernel_rfl) hk
def s41 (p:placed) (h:Hit):Span :=
  (cond (p.Plane.Kind == (3:Int))
 p.Plane.Clock
 (zwk p h))
end
theorem q41 (p:placed) (h:Hit) (K:List PA->Prop) (hk:K (e41 (s41 p h))):vcFun Tryd.prog G41 zMJ 41 [.agg (zbh p),.agg (zbH h)] K :=
  zaK (by kernel_rfl) (zt hk (λ hk=>hk) (λ hk=>(zMK hk)))
def zML : List PA → COut
  | [.agg [.int .i64 zaG,.int .i64 zaH,.int .i64 zbd,.int .i64 zaw,.int .i64 zax,.int .i64 zao,.int .i64 zay,.int .i64 zae,.int .i64 zac,.int .i64 zak,.int .i64 zaf,.int .i64 zaq,.int .i64 zaz,.sl zam za9 zaA,.sl zar zbf zaE,.int .i64 za1],.agg [.int .i64 zbb,.int .i64 zaI,.int .i64 zbv,.int .i64 zbc,.int .i64 zaO,.int .i64 zbw]]=>.det (IsE zbi 3 za9 zaA/\IsE enc_3 1 zbf zaE) [.agg [.int .i64 ((s41 (⟨(⟨zaG,zaH,zbd,zaw,zax,zao,zay,(⟨zae,zac⟩:Span),(⟨zak,zaf⟩:Span),zaq,zaz,(⟨zam,zcx zaA⟩:(Sl Drift)),(⟨zar,zcS zaE⟩:(Sl Int))⟩:Plane),za1⟩:placed) (⟨zbb,zaI,zbv,zbc,zaO,zbw⟩:Hit)).Low),.int .i64 ((s41 (⟨(⟨zaG,zaH,zbd,zaw,zax,zao,zay,(⟨zae,zac⟩:Span),(⟨zak,zaf⟩:Span),zaq,zaz,(⟨zam,zcx zaA⟩:(Sl Drift)),(⟨zar,zcS zaE⟩:(Sl Int))⟩:Plane),za1⟩:placed) (⟨zbb,zaI,zbv,zbc,zaO,zbw⟩:Hit)).High)]]
  | _=>.no
theorem zQL:zaj Tryd.prog 41:=⟨_,rfl,rfl,by kernel_rfl⟩
theorem zXf:Ok Tryd.prog 41 zML:=zbm zUa zQL λ args K h=>by
  unfold zML at h
  split at h
  · rename_i zaG zaH zbd zaw zax zao zay zae zac zak zaf zaq zaz zam za9 zaA zar zbf zaE za1 zbb zaI zbv zbc zaO zbw
    obtain⟨⟨⟨rfl,zaJ,rfl⟩,⟨rfl,zaL,rfl⟩⟩,hk⟩:=h
    try rw[zca zaJ] at hk
    try rw[zbV zaL] at hk
    exact⟨(λ _ _=>[]),(λ _=>false),zMJ,q41 (⟨(⟨zaG,zaH,zbd,zaw,zax,zao,zay,(⟨zae,zac⟩:Span),(⟨zak,zaf⟩:Span),zaq,zaz,(⟨zam,zaJ⟩:(Sl Drift)),(⟨zar,zaL⟩:(Sl Int))⟩:Plane),za1⟩:placed) (⟨zbb,zaI,zbv,zbc,zaO,zbw⟩:Hit) K hk⟩
  · exact h.elim
abbrev T14:Tabs:=(((Tabs.nil.addF 39 zMI).addF 40 zGC).addF 41 zML)
theorem zUb:TabsOk Tryd.prog T14:=(((TabsOk.nil.addF zXe).addF zVc).addF zXf)
abbrev G14:Ctrs:=csm T14 (λ _ _=>[]) (λ _=>false)
def zMM:Ann:=⟨22,[(0,zK [2,3,4] [2,3,4]),(1,zK [2,3,4,11] [2,3,4]),(2,zK [4,5] [4]),(3,zK [3,4,6] [3,4,6]),(4,zK [4,5] [4])],
 [],
 [(3,zK [2,3,4] [2,3,4])],
 [],[]⟩
abbrev R14:=(Span×Int)
abbrev e14 (r:R14):List PA:=[.agg [.int .i64 r.1.Low,.int .i64 r.1.High],.one (.int .i64 r.2)]
@[irreducible] def z14:=ptF Tryd.prog G14 zMM Tryd.f14
section
variable {K:List PA->Prop}{s:Setup}{h:Hit}{sv0:(Sl Plane)}{zcb:Nat->List PV}
def zwl (h:Hit) (sv0:(Sl Plane)):(Span×Int) :=
  ((s41 ((s40 (⟨sv0⟩:Setup) h).1) h),(0:Int))
def zwm (h:Hit) (sv0:(Sl Plane)):Bool :=
  (decide ((p40 (⟨sv0⟩:Setup) h=true)) &&
 true)
theorem zMN (hs:zwm h sv0=true) (hk:K (e14 (zwl h sv0))) (zdN:zcb=zg enc_35 sv0):z14 K [1,1] [] ⟨[(2,zp 2 0),(3,zp 3 0),(4,zp 4 0)],[(2,.box 24 [.p (.sl sv0.len 15 zcb)]),(3,.box 41 (zm (zbH h))),(4,.box 32 (zm (za2 (⟨(0:Int),(0:Int)⟩:Span))))],[]⟩:=by subst zdN;exact zaK (by kernel_rfl) (zaX hs λ hc hs=>And.intro (And.intro (zE enc_35 15 sv0.get) hc) (And.intro (And.intro (zE zbi 3 (((s40 (⟨sv0⟩:Setup) h).1).Plane.Drift.get)) (zE enc_3 1 (((s40 (⟨sv0⟩:Setup) h).1).Plane.Dead.get))) hk))
def s14 (s:Setup) (h:Hit):(Span×Int) :=
  (cond (!(s39 s h))
 ((⟨(0:Int),(0:Int)⟩:Span),(2:Int))
 (zwl h s.Planes))
def p14 (s:Setup) (h:Hit):Bool :=
  (decide ((p39 s h=true)) &&
 (cond (!(s39 s h))
 true
 (zwm h s.Planes)))
end
theorem q14 (s:Setup) (h:Hit) (K:List PA->Prop) (hs:p14 s h=true) (hk:K (e14 (s14 s h))):vcFun Tryd.prog G14 zMM 14 [.agg (enc_24 s),.agg (zbH h)] K :=
  zaK (by kernel_rfl) (zaX hs λ hc hs=>And.intro (And.intro (zE enc_35 15 s.Planes.get) hc) (zc hs hk (λ hs hk=>hk) (λ hs hk=>(zMN hs hk rfl))))
def zMO : List PA → COut
  | [.agg [.sl zaa za8 zab],.agg [.int .i64 zbb,.int .i64 zaI,.int .i64 zbv,.int .i64 zbc,.int .i64 zaO,.int .i64 zbw]]=>.det (IsE enc_35 15 za8 zab/\p14 (⟨(⟨zaa,zbo zab⟩:(Sl Plane))⟩:Setup) (⟨zbb,zaI,zbv,zbc,zaO,zbw⟩:Hit)=true) [.agg [.int .i64 (((s14 (⟨(⟨zaa,zbo zab⟩:(Sl Plane))⟩:Setup) (⟨zbb,zaI,zbv,zbc,zaO,zbw⟩:Hit)).1).Low),.int .i64 (((s14 (⟨(⟨zaa,zbo zab⟩:(Sl Plane))⟩:Setup) (⟨zbb,zaI,zbv,zbc,zaO,zbw⟩:Hit)).1).High)],.one (.int .i64 ((s14 (⟨(⟨zaa,zbo zab⟩:(Sl Plane))⟩:Setup) (⟨zbb,zaI,zbv,zbc,zaO,zbw⟩:Hit)).2))]
  | _=>.no
theorem call14:zaj Tryd.prog 14:=⟨_,rfl,rfl,by kernel_rfl⟩
theorem zXg:Ok Tryd.prog 14 zMO:=zbm zUb call14 λ args K h=>by
  unfold zMO at h
  split at h
  · rename_i zaa za8 zab zbb zaI zbv zbc zaO zbw
    obtain⟨⟨⟨rfl,zaF,rfl⟩,hs⟩,hk⟩:=h
    try rw[zbG zaF] at hs
    try rw[zbG zaF] at hk
    exact⟨(λ _ _=>[]),(λ _=>false),zMM,q14 (⟨(⟨zaa,zaF⟩:(Sl Plane))⟩:Setup) (⟨zbb,zaI,zbv,zbc,zaO,zbw⟩:Hit) K hs hk⟩
  · exact h.elim
end Go.Proofs
