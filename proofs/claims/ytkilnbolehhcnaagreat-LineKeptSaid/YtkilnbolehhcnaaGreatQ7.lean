/- Part 7 of what the proof rests on: a machine that runs functions of the program on pure values, proved sound; the functions that the law reaches, and what they compute. -/
import Derived.Test.YtkilnbolehhcnaaGreatQ6
set_option linter.all false
namespace Go.Proofs
open Go Go.Pm
set_option maxRecDepth 100000
set_option linter.unusedVariables false
attribute [local irreducible] Go.Pm.vcFun Go.Pm.vc Go.Pm.vcIter
abbrev T17:Tabs:=Tabs.nil
theorem zQy:TabsOk Tryz.prog T17:=TabsOk.nil
abbrev G17:Ctrs:=csm T17 (λ _ _=>[]) (λ _=>false)
def zJT:Ann:=⟨15,[(0,zK [0] []),(1,zK [0,3] []),(2,zK [0,3,4] []),(3,zK [0,3,4,7] [13]),(4,zK [0,3,4] [13]),(5,zK [0,3,4] [13]),(6,zK [2] [13])],
 [(3,⟨[0,3,4],[13],[(3,13,3,λ _=>zak default)],[],[],[],[]⟩)],
 [],
 [],[]⟩
abbrev R17:=(Sl Int)
abbrev e17 (r:R17):List PA:=[.one (.sl r.len 1 (λ i=>zak (r.get i)))]
@[irreducible] def z17:=ptF Tryz.prog G17 zJT Tryz.f17
def zFH (n:Int) (iv0:Int) (zd2:(Sl Int)) (zhg:Nat->List PV):St:=⟨[(0,zI n),(3,zv 13),(4,zI iv0)],[(13,.vec 3 1 8 zd2.len zhg)],[]⟩
abbrev zNO (K:List PA->Prop) (n:Int) (X:St->Prop) (P:Int->(Sl Int)->Bool) (S:Int->(Sl Int)->(Sl Int)):Prop:=∀ ⦃iv0:Int⦄ ⦃zd2:(Sl Int)⦄ ⦃zhg:Nat->List PV⦄,P iv0 zd2=true->K (e17 (S iv0 zd2))->zhg=zg zak zd2->X (zFH n iv0 zd2 zhg)
section
variable {K:List PA->Prop}{n:Int}{iv0:Int}{zd2:(Sl Int)}{zhg:Nat->List PV}{X0:St->Prop}{P0:Int->(Sl Int)->Bool}{S0:Int->(Sl Int)->(Sl Int)}
def zjN (n:Int) (S0:Int->(Sl Int)->(Sl Int)) (iv0:Int) (zd2:(Sl Int)):(Sl Int) :=
  (cond (decide (iv0 < n))
 (S0 (w64 (iv0+(1:Int))) (⟨(zd2.len+1),(zgv zd2.len zd2.get (λ _=>iv0))⟩:Sl Int))
 zd2)
def zjO (n:Int) (P0:Int->(Sl Int)->Bool) (iv0:Int) (zd2:(Sl Int)):Bool :=
  (cond (decide (iv0 < n))
 (decide (((zd2.len+1) * 8<=140737488355328/\zd2.len+1<=9223372036854775807)) &&
 (P0 (w64 (iv0+(1:Int))) (⟨(zd2.len+1),(zgv zd2.len zd2.get (λ _=>iv0))⟩:Sl Int)))
 true)
def zjP (n:Int):Nat->Int->(Sl Int)->(Sl Int):=lpO (λ _ _=>default) (zjN n)
def zjQ (n:Int):Nat->Int->(Sl Int)->Bool:=lpO (λ _ _=>false) (zjO n)
def zBP (n:Int) (iv0:Int) (zd2:(Sl Int)):(Sl Int):=zjP n Fuel iv0 zd2
def zBQ (n:Int) (iv0:Int) (zd2:(Sl Int)):Bool:=zjQ n Fuel iv0 zd2
theorem zJU (hs:zBQ n iv0 zd2=true) (hk:K (e17 (zBP n iv0 zd2))) (ztB:zhg=zg zak zd2):z17 K [1,1,0,1,0] [] (zFH n iv0 zd2 zhg) :=
  zl (λ X=>z17 K [1,1,0,1,0,0] [X]) (by kernel_rfl) λ X0 hX =>
  (show ∀ k, zNO K n X0 (zjQ n k) (zjP n k) from zgw _ _ (zjO n) (zjN n) (zNO K n X0)
 (by intro _ _ _ hs;exact absurd hs dqk)
 (by intro P0 S0 hX0 iv0 zd2 zhg hs hk ztB;subst ztB;exact hX _ (zaN (by kernel_rfl) (zc hs hk (λ hs hk=>(zaI hs λ hc hs=>And.intro hc (hX0 hs hk (zhA (enc:=zak) (f:=zd2.get) (h:=(λ _=>iv0)) rfl rfl)))) (λ hs hk=>hk))))) _ hs hk ztB
def s17 (n:Int):(Sl Int) :=
  (zBP n (0:Int) (⟨0,(λ _=>default)⟩:Sl Int))
def p17 (n:Int):Bool :=
  (zBQ n (0:Int) (⟨0,(λ _=>default)⟩:Sl Int))
end
theorem q17 (n:Int) (K:List PA->Prop) (hs:p17 n=true) (hk:K (e17 (s17 n))):vcFun Tryz.prog G17 zJT 17 [.one (.int .i64 n)] K :=
  zaN (by kernel_rfl) (zJU hs hk rfl)
def zJV : List PA → COut
  | [.one (.int .i64 a0)]=>.det (p17 a0=true) [.one (.sl ((s17 a0).len) 1 (λ i=>zak ((s17 a0).get i)))]
  | _=>.no
theorem zNP:zah Tryz.prog 17:=⟨_,rfl,rfl,by kernel_rfl⟩
theorem zSk:Ok Tryz.prog 17 zJV:=za3 zQy zNP λ args K h=>by
  unfold zJV at h
  split at h
  · rename_i a0
    obtain⟨hs,hk⟩:=h
    exact⟨(λ _ _=>[]),(λ _=>false),zJT,q17 a0 K hs hk⟩
  · exact h.elim
abbrev T19:Tabs:=Tabs.nil
theorem zQz:TabsOk Tryz.prog T19:=TabsOk.nil
abbrev G19:Ctrs:=csm T19 (λ _ _=>[]) (λ _=>false)
def zJW:Ann:=⟨24,[(0,zK [0,1] []),(1,zK [0,1,5] []),(2,zK [0,1,5,6] []),(3,zK [0,1,5,6,10] [22]),(4,zK [0,1,5,6] [22]),(5,zK [0,1,5,6] [22]),(6,zK [4] [22])],
 [(3,⟨[0,1,5,6],[22],[(5,22,48,λ _=>enc_48 default)],[],[],[],[]⟩)],
 [],
 [],[]⟩
abbrev R19:=(Sl Gate)
abbrev e19 (r:R19):List PA:=[.one (.sl r.len 3 (λ i=>enc_48 (r.get i)))]
@[irreducible] def z19:=zRg Tryz.prog G19 zJW Tryz.f19 48 3 24
def zFI (zaa:(Sl Gate)) (set_a1:(Sl Int)) (iv0:Int) (zcg:(Sl Gate)) (zdj:Nat->List PV):St:=⟨[(0,zS enc_48 3 zaa),(1,zS zak 1 set_a1),(5,zv 22),(6,zI iv0)],[(22,.vec 48 3 24 zcg.len zdj)],[]⟩
abbrev zNQ (K:List PA->Prop) (zaa:(Sl Gate)) (set_a1:(Sl Int)) (X:St->Prop) (P:Int->(Sl Gate)->Bool) (S:Int->(Sl Gate)->(Sl Gate)):Prop:=∀ ⦃iv0:Int⦄ ⦃zcg:(Sl Gate)⦄ ⦃zdj:Nat->List PV⦄,P iv0 zcg=true->K (e19 (S iv0 zcg))->zdj=zg enc_48 zcg->X (zFI zaa set_a1 iv0 zcg zdj)
section
variable {K:List PA->Prop}{zaa:(Sl Gate)}{set_a1:(Sl Int)}{iv0:Int}{zcg:(Sl Gate)}{zdj:Nat->List PV}{X0:St->Prop}{P0:Int->(Sl Gate)->Bool}{S0:Int->(Sl Gate)->(Sl Gate)}
def zjR (zaa:(Sl Gate)) (set_a1:(Sl Int)) (S0:Int->(Sl Gate)->(Sl Gate)) (iv0:Int) (zcg:(Sl Gate)):(Sl Gate) :=
  (cond (decide (iv0 < (set_a1.len : Int)))
 (S0 (w64 (iv0+(1:Int))) (⟨(zcg.len+1),(zgv zcg.len zcg.get (λ _=>(zaa.get ((set_a1.get iv0.toNat).toNat))))⟩:Sl Gate))
 zcg)
def zjS (zaa:(Sl Gate)) (set_a1:(Sl Int)) (P0:Int->(Sl Gate)->Bool) (iv0:Int) (zcg:(Sl Gate)):Bool :=
  (cond (decide (iv0 < (set_a1.len : Int)))
 (decide ((0<=iv0/\iv0 < (set_a1.len:Int))) &&
 (decide ((0<=(set_a1.get iv0.toNat)/\(set_a1.get iv0.toNat) < (zaa.len:Int))) &&
 (decide (((zcg.len+1) * 24<=140737488355328/\zcg.len+1<=9223372036854775807)) &&
 (P0 (w64 (iv0+(1:Int))) (⟨(zcg.len+1),(zgv zcg.len zcg.get (λ _=>(zaa.get ((set_a1.get iv0.toNat).toNat))))⟩:Sl Gate)))))
 true)
def zjT (zaa:(Sl Gate)) (set_a1:(Sl Int)):Nat->Int->(Sl Gate)->(Sl Gate):=lpO (λ _ _=>default) (zjR zaa set_a1)
def zjU (zaa:(Sl Gate)) (set_a1:(Sl Int)):Nat->Int->(Sl Gate)->Bool:=lpO (λ _ _=>false) (zjS zaa set_a1)
def zBR (zaa:(Sl Gate)) (set_a1:(Sl Int)) (iv0:Int) (zcg:(Sl Gate)):(Sl Gate):=zjT zaa set_a1 Fuel iv0 zcg
def zBS (zaa:(Sl Gate)) (set_a1:(Sl Int)) (iv0:Int) (zcg:(Sl Gate)):Bool:=zjU zaa set_a1 Fuel iv0 zcg
theorem zJX (hs:zBS zaa set_a1 iv0 zcg=true) (hk:K (e19 (zBR zaa set_a1 iv0 zcg))) (zie:zdj=zg enc_48 zcg):z19 K [1,1,0,1,0] [] (zFI zaa set_a1 iv0 zcg zdj) :=
  zl (λ X=>z19 K [1,1,0,1,0,0] [X]) (by kernel_rfl) λ X0 hX =>
  (show ∀ k, zNQ K zaa set_a1 X0 (zjU zaa set_a1 k) (zjT zaa set_a1 k) from zgw _ _ (zjS zaa set_a1) (zjR zaa set_a1) (zNQ K zaa set_a1 X0)
 (by intro _ _ _ hs;exact absurd hs dqk)
 (by intro P0 S0 hX0 iv0 zcg zdj hs hk zie;subst zie;exact hX _ (zaN (by kernel_rfl) (zc hs hk (λ hs hk=>(zaI hs λ hc hs=>And.intro hc (zaI hs λ hc hs=>And.intro hc (zaI hs λ hc hs=>And.intro hc (hX0 hs hk (zhA (enc:=enc_48) (f:=zcg.get) (h:=(λ _=>(zaa.get ((set_a1.get iv0.toNat).toNat)))) rfl rfl)))))) (λ hs hk=>hk))))) _ hs hk zie
def s19 (zaa:(Sl Gate)) (set_a1:(Sl Int)):(Sl Gate) :=
  (zBR zaa set_a1 (0:Int) (⟨0,(λ _=>default)⟩:Sl Gate))
def p19 (zaa:(Sl Gate)) (set_a1:(Sl Int)):Bool :=
  (zBS zaa set_a1 (0:Int) (⟨0,(λ _=>default)⟩:Sl Gate))
end
theorem q19 (zaa:(Sl Gate)) (set_a1:(Sl Int)) (K:List PA->Prop) (hs:p19 zaa set_a1=true) (hk:K (e19 (s19 zaa set_a1))):zvT Tryz.prog G19 zJW 19 [.one (.sl zaa.len 3 (λ i=>enc_48 (zaa.get i))),.one (.sl set_a1.len 1 (λ i=>zak (set_a1.get i)))] 48 3 24 K :=
  zaN (by kernel_rfl) (zJX hs hk rfl)
abbrev zNR : OwnK := .mkv 48 3 24 fun
  | [.one (.sl zaU zcu zaV),.one (.sl zet zj9 zeu)]=>some (IsE enc_48 3 zcu zaV/\IsE zak 1 zj9 zeu/\p19 (⟨zaU,zaf zaV⟩:(Sl Gate)) (⟨zet,zb7 zeu⟩:(Sl Int))=true,((s19 (⟨zaU,zaf zaV⟩:(Sl Gate)) (⟨zet,zb7 zeu⟩:(Sl Int))).len),(λ i=>enc_48 ((s19 (⟨zaU,zaf zaV⟩:(Sl Gate)) (⟨zet,zb7 zeu⟩:(Sl Int))).get i)),[])
  | _=>none
theorem zNS:zah Tryz.prog 19:=⟨_,rfl,rfl,by kernel_rfl⟩
theorem zSl:zgF Tryz.prog 19 zNR:=zyc zQz zNS λ az p n get rs h hs=>by
  split at h
  · rename_i zaU zcu zaV zet zj9 zeu
    cases h
    obtain⟨⟨rfl,zbF,rfl⟩,⟨rfl,zhn,rfl⟩,hs⟩:=hs
    try rw[zae zbF] at hs
    try rw[zby zhn] at hs
    try rw[zae zbF]
    try rw[zby zhn]
    exact⟨_,λ _ _ h=>h,(λ _ _=>[]),(λ _=>false),zJW,q19 (⟨zaU,zbF⟩:(Sl Gate)) (⟨zet,zhn⟩:(Sl Int)) _ hs rfl⟩
  · cases h
def zBT (x:Sl Gate):Sl Gate:=⟨x.len,zaf (λ i=>enc_48 (x.get i))⟩
theorem zD6 (x:Sl Gate):zBT x=x:=rfl
abbrev T4:Tabs:=(((((((((((Tabs.nil.addF 5 zQc).addF 6 zQi).addF 7 zQm).addF 8 zQr).addF 13 zJS).addF 14 zJL).addF 15 zJN).addF 16 zJR).addF 17 zJV).addF 18 zDM).addO 19 zNR)
theorem zSm:TabsOk Tryz.prog T4:=(((((((((((TabsOk.nil.addF ok5).addF ok6).addF ok7).addF ok8).addF zSj).addF zSh).addF zSi).addF ok16).addF zSk).addF zQT).addO zSl)
abbrev G4:Ctrs:=csm T4 (λ _ _=>[]) (λ _=>false)
def zQA:Ann:=⟨164,[(0,zK [0,1,2,3,4] []),(1,zK [0,1,2,3,4,38] []),(2,zK [10] []),(3,zK [0,11] []),(4,zK [0,11,12,13] []),(5,zK [0,11,12,13,14,15] []),(6,zK [0,11,12,14,74] []),(7,zK [10] []),(8,zK [0,11,12,14,16] []),(9,zK [0,11,12,14,16,17] []),(10,zK [0,11,12,14,16,17,78] []),(11,zK [0,11,12,14,16,17] []),(12,zK [0,11,12,14,16,17,107] []),(13,zK [10] []),(14,zK [0,11,12,14,16,17] []),(15,zK [0,11,12,14,16,17,19] []),(16,zK [0,11,12,14,16,17,128] []),(17,zK [10] []),(18,zK [0,11,12,14,16,17,20] []),(19,zK [0,11,12,14,16,17,20,132] []),(20,zK [0,11,12,14,16,17,20] []),(21,zK [0,11,12,14,16,17,20,141] []),(22,zK [0,11,12,14,16,17,20,22] []),(23,zK [0,11,12,14,16,17,20,159] []),(24,zK [10] []),(25,zK [10] [])],
 [(10,zK [0,11,12,14,16,17] []),(19,zK [0,11,12,14,16,17,20] [])],
 [(2,zK [0,1,2,3,4,38] []),(3,zK [0,1,2,3,4] []),(4,zK [0,11] []),(5,zK [0,11,12,13] []),(6,zK [0,11,12,13,14,15] []),(8,zK [0,11,12,14] []),(13,zK [0,11,12,14,16,17,107] []),(14,zK [0,11,12,14,16,17] []),(15,zK [0,11,12,14,16,17] []),(16,zK [0,11,12,14,16,17,19] []),(18,zK [0,11,12,14,16,17] []),(23,zK [0,11,12,14,16,17,20,22] [])],
 [],[]⟩
abbrev R4:=Bool
abbrev e4 (r:R4):List PA:=[.one (.bool r)]
@[irreducible] def z4:=ptF Tryz.prog G4 zQA Tryz.f4
def zNT (zaa:(Sl Gate)) (pv2:(Sl Int)) (mv3:(Sl Int)) (lv4:(Sl (Sl Int))) (zdk:Bool) (iv6:Int):St:=⟨[(0,zS enc_48 3 zaa),(11,zS zak 1 pv2),(12,zS zak 1 mv3),(14,zS zaS 1 lv4),(16,zB zdk),(17,zI iv6)],[],[]⟩
abbrev zD7 (K:List PA->Prop) (zaa:(Sl Gate)) (pv2:(Sl Int)) (mv3:(Sl Int)) (lv4:(Sl (Sl Int))) (X:St->Prop) (P:Bool->Int->Bool) (S:Bool->Int->Bool):Prop:=∀ ⦃zdk:Bool⦄ ⦃iv6:Int⦄,P zdk iv6=true->K (e4 (S zdk iv6))->X (zNT zaa pv2 mv3 lv4 zdk iv6)
def zFJ (zaa:(Sl Gate)) (pv2:(Sl Int)) (mv3:(Sl Int)) (lv4:(Sl (Sl Int))) (zbe:Bool) (zd7:Int) (zhD:Int):St:=⟨[(0,zS enc_48 3 zaa),(11,zS zak 1 pv2),(12,zS zak 1 mv3),(14,zS zaS 1 lv4),(16,zB zbe),(17,zI zd7),(20,zI zhD)],[],[]⟩
abbrev zJY (K:List PA->Prop) (zaa:(Sl Gate)) (pv2:(Sl Int)) (mv3:(Sl Int)) (lv4:(Sl (Sl Int))) (zbe:Bool) (X:St->Prop) (P:Int->Int->Bool) (S:Int->Int->Bool):Prop:=∀ ⦃zd7:Int⦄ ⦃zhD:Int⦄,P zd7 zhD=true->K (e4 (S zd7 zhD))->X (zFJ zaa pv2 mv3 lv4 zbe zd7 zhD)
section
variable {K:List PA->Prop}{zaa:(Sl Gate)}{z:Int}{x:Int}{w:Int}{y_a4:Int}{ztC:Bool}{pv2:(Sl Int)}{zNU:Nat->List PV}{mv3:(Sl Int)}{ev3:Int}{zNV:Nat->List PV}{lv4:(Sl (Sl Int))}{fv4:Int}{zA9:Nat->List PV}{zdk:Bool}{iv6:Int}{X6:St->Prop}{P6:Bool->Int->Bool}{S6:Bool->Int->Bool}{zmH:Bool}{iv7:Int}{zmI:Bool}{zmJ:Bool}{iv8:Int}{zbe:Bool}{iv9:Int}{zgx:Int}{zJZ:Int}{zqm:Int}{zd7:Int}{zhD:Int}{X12:St->Prop}{P12:Int->Int->Bool}{S12:Int->Int->Bool}{zqn:Int}{zJ0:Int}{zJ1:Int}
def ztD (S6:Bool->Int->Bool) (S12:Int->Int->Bool) (zaa:(Sl Gate)) (pv2:(Sl Int)) (mv3:(Sl Int)) (lv4:(Sl (Sl Int))) (zbe:Bool) (zqn:Int) (zJ0:Int) (zJ1:Int):Bool :=
  (cond (zJ1 != (0:Int))
 false
 (S12 zqn (w64 (zJ0+(1:Int)))))
def ztE (P6:Bool->Int->Bool) (P12:Int->Int->Bool) (zaa:(Sl Gate)) (pv2:(Sl Int)) (mv3:(Sl Int)) (lv4:(Sl (Sl Int))) (zbe:Bool) (zqn:Int) (zJ0:Int) (zJ1:Int):Bool :=
  (cond (zJ1 != (0:Int))
 true
 (P12 zqn (w64 (zJ0+(1:Int)))))
theorem zJ2 (hX6:zD7 K zaa pv2 mv3 lv4 X6 P6 S6) (hX12:zJY K zaa pv2 mv3 lv4 zbe X12 P12 S12) (hs:ztE P6 P12 zaa pv2 mv3 lv4 zbe zqn zJ0 zJ1=true) (hk:K (e4 (ztD S6 S12 zaa pv2 mv3 lv4 zbe zqn zJ0 zJ1))):z4 K [1,1,1,1,1,1,1,0,1,0,0,1,0,0,1,1,1,1,0,0,1,0,0,1,1] [X6,X12] ⟨[(0,zS enc_48 3 zaa),(11,zS zak 1 pv2),(12,zS zak 1 mv3),(14,zS zaS 1 lv4),(16,zB zbe),(17,zI zqn),(20,zI zJ0),(22,zI zJ1)],[],[]⟩:=zaN (by kernel_rfl) (zc hs hk (λ hs hk=>hk) (λ hs hk=>(hX12 hs hk)))
def zjV (S6:Bool->Int->Bool) (zaa:(Sl Gate)) (pv2:(Sl Int)) (mv3:(Sl Int)) (lv4:(Sl (Sl Int))) (zbe:Bool) (S12:Int->Int->Bool) (zd7:Int) (zhD:Int):Bool :=
  (cond (decide (zhD < (zaa.len : Int)))
 (cond (s16 (⟨1, λ _ => zhD⟩ : (Sl Int)) (lv4.get zd7.toNat))
 (S12 zd7 (w64 (zhD+(1:Int))))
 (ztD S6 S12 zaa pv2 mv3 lv4 zbe zd7 zhD ((s18 (⟨((s19 zaa (lv4.get zd7.toNat)).len+1),zaf (appG ((s19 zaa (lv4.get zd7.toNat)).len) (λ i=>enc_48 ((s19 zaa (lv4.get zd7.toNat)).get i)) (λ _=>(enc_48 (zaa.get zhD.toNat))))⟩:(Sl Gate))).2)))
 (S6 zbe (w64 (zd7+(1:Int)))))
def zjW (P6:Bool->Int->Bool) (zaa:(Sl Gate)) (pv2:(Sl Int)) (mv3:(Sl Int)) (lv4:(Sl (Sl Int))) (zbe:Bool) (P12:Int->Int->Bool) (zd7:Int) (zhD:Int):Bool :=
  (cond (decide (zhD < (zaa.len : Int)))
 (decide ((0<=zd7/\zd7 < (lv4.len:Int))) &&
 (decide ((p16 (⟨1,λ _=>zhD⟩:(Sl Int)) (lv4.get zd7.toNat)=true)) &&
 (cond (s16 (⟨1, λ _ => zhD⟩ : (Sl Int)) (lv4.get zd7.toNat))
 (P12 zd7 (w64 (zhD+(1:Int))))
 (decide ((0<=zd7/\zd7 < (lv4.len:Int))) &&
 (decide ((p19 zaa (lv4.get zd7.toNat)=true)) &&
 (decide ((0<=zhD/\zhD < (zaa.len:Int))) &&
 (decide ((((s19 zaa (lv4.get zd7.toNat)).len+1) * 24<=140737488355328/\(s19 zaa (lv4.get zd7.toNat)).len+1<=9223372036854775807)) &&
 (decide ((p18 (⟨((s19 zaa (lv4.get zd7.toNat)).len+1),zaf (appG ((s19 zaa (lv4.get zd7.toNat)).len) (λ i=>enc_48 ((s19 zaa (lv4.get zd7.toNat)).get i)) (λ _=>(enc_48 (zaa.get zhD.toNat))))⟩:(Sl Gate))=true)) &&
 (ztE P6 P12 zaa pv2 mv3 lv4 zbe zd7 zhD ((s18 (⟨((s19 zaa (lv4.get zd7.toNat)).len+1),zaf (appG ((s19 zaa (lv4.get zd7.toNat)).len) (λ i=>enc_48 ((s19 zaa (lv4.get zd7.toNat)).get i)) (λ _=>(enc_48 (zaa.get zhD.toNat))))⟩:(Sl Gate))).2))))))))))
 (P6 zbe (w64 (zd7+(1:Int)))))
def zii (S6:Bool->Int->Bool) (zaa:(Sl Gate)) (pv2:(Sl Int)) (mv3:(Sl Int)) (lv4:(Sl (Sl Int))) (zbe:Bool):Nat->Int->Int->Bool:=lpO (λ _ _=>default) (zjV S6 zaa pv2 mv3 lv4 zbe)
def zij (P6:Bool->Int->Bool) (zaa:(Sl Gate)) (pv2:(Sl Int)) (mv3:(Sl Int)) (lv4:(Sl (Sl Int))) (zbe:Bool):Nat->Int->Int->Bool:=lpO (λ _ _=>false) (zjW P6 zaa pv2 mv3 lv4 zbe)
def ztF (S6:Bool->Int->Bool) (zaa:(Sl Gate)) (pv2:(Sl Int)) (mv3:(Sl Int)) (lv4:(Sl (Sl Int))) (zbe:Bool) (zd7:Int) (zhD:Int):Bool:=zii S6 zaa pv2 mv3 lv4 zbe Fuel zd7 zhD
def ztG (P6:Bool->Int->Bool) (zaa:(Sl Gate)) (pv2:(Sl Int)) (mv3:(Sl Int)) (lv4:(Sl (Sl Int))) (zbe:Bool) (zd7:Int) (zhD:Int):Bool:=zij P6 zaa pv2 mv3 lv4 zbe Fuel zd7 zhD
theorem zJ3 (hX6:zD7 K zaa pv2 mv3 lv4 X6 P6 S6) (hs:ztG P6 zaa pv2 mv3 lv4 zbe zd7 zhD=true) (hk:K (e4 (ztF S6 zaa pv2 mv3 lv4 zbe zd7 zhD))):z4 K [1,1,1,1,1,1,1,0,1,0,0,1,0,0,1,1,1,1,0] [X6] (zFJ zaa pv2 mv3 lv4 zbe zd7 zhD) :=
  zl (λ X=>z4 K [1,1,1,1,1,1,1,0,1,0,0,1,0,0,1,1,1,1,0,0] [X6,X]) (by kernel_rfl) λ X12 hX =>
  (show ∀ k, zJY K zaa pv2 mv3 lv4 zbe X12 (zij P6 zaa pv2 mv3 lv4 zbe k) (zii S6 zaa pv2 mv3 lv4 zbe k) from zgw _ _ (zjW P6 zaa pv2 mv3 lv4 zbe) (zjV S6 zaa pv2 mv3 lv4 zbe) (zJY K zaa pv2 mv3 lv4 zbe X12)
 (by intro _ _ hs;exact absurd hs dqk)
 (by intro P12 S12 hX12 zd7 zhD hs hk;exact hX _ (zaN (by kernel_rfl) (zc hs hk (λ hs hk=>(zaI hs λ hc hs=>And.intro hc (zaI hs λ hc hs=>And.intro (And.intro (zLc:IsE zak 1 1 (λ _=>(zak zhD))) (And.intro (zE zak 1 ((lv4.get zd7.toNat).get)) hc)) (zc hs hk (λ hs hk=>(hX12 hs hk)) (λ hs hk=>(zaI hs λ hc hs=>And.intro hc (zaI hs λ hc hs=>And.intro (⟨⟨isE,isE,hc⟩,trivial,rfl⟩:(IsE enc_48 3 3 (λ i=>enc_48 (zaa.get i))/\IsE zak 1 1 (λ i=>zak ((lv4.get zd7.toNat).get i))/\(p19 zaa (lv4.get zd7.toNat)=true))/\zm5 (λ i=>enc_48 ((s19 zaa (lv4.get zd7.toNat)).get i)) []/\([]:List PV).all zfG=true) (zaI hs λ hc hs=>And.intro hc (zaI hs λ hc hs=>And.intro hc (zaI hs λ hc hs=>And.intro (And.intro ((zGB isE zLc):IsE enc_48 3 3 (appG ((s19 zaa (lv4.get zd7.toNat)).len) (λ i=>enc_48 ((s19 zaa (lv4.get zd7.toNat)).get i)) (λ _=>(enc_48 (zaa.get zhD.toNat))))) hc) (zJ2 hX6 hX12 hs hk))))))))))) (λ hs hk=>(hX6 hs hk)))))) _ hs hk
def ztH (S6:Bool->Int->Bool) (zaa:(Sl Gate)) (pv2:(Sl Int)) (mv3:(Sl Int)) (lv4:(Sl (Sl Int))) (zbe:Bool) (zqm:Int):Bool :=
  (ztF S6 zaa pv2 mv3 lv4 zbe zqm (0:Int))
def ztI (P6:Bool->Int->Bool) (zaa:(Sl Gate)) (pv2:(Sl Int)) (mv3:(Sl Int)) (lv4:(Sl (Sl Int))) (zbe:Bool) (zqm:Int):Bool :=
  (ztG P6 zaa pv2 mv3 lv4 zbe zqm (0:Int))
theorem zJ4 (hX6:zD7 K zaa pv2 mv3 lv4 X6 P6 S6) (hs:ztI P6 zaa pv2 mv3 lv4 zbe zqm=true) (hk:K (e4 (ztH S6 zaa pv2 mv3 lv4 zbe zqm))):z4 K [1,1,1,1,1,1,1,0,1,0,0,1,0,0,1,1,1] [X6] ⟨[(0,zS enc_48 3 zaa),(11,zS zak 1 pv2),(12,zS zak 1 mv3),(14,zS zaS 1 lv4),(16,zB zbe),(17,zI zqm)],[],[]⟩:=zaN (by kernel_rfl) (zJ3 hX6 hs hk)
def ztJ (S6:Bool->Int->Bool) (zaa:(Sl Gate)) (pv2:(Sl Int)) (mv3:(Sl Int)) (lv4:(Sl (Sl Int))) (zbe:Bool) (zgx:Int) (zJZ:Int):Bool :=
  (cond (zJZ != (7:Int))
 false
 (ztH S6 zaa pv2 mv3 lv4 zbe zgx))
def ztK (P6:Bool->Int->Bool) (zaa:(Sl Gate)) (pv2:(Sl Int)) (mv3:(Sl Int)) (lv4:(Sl (Sl Int))) (zbe:Bool) (zgx:Int) (zJZ:Int):Bool :=
  (cond (zJZ != (7:Int))
 true
 (ztI P6 zaa pv2 mv3 lv4 zbe zgx))
theorem zJ5 (hX6:zD7 K zaa pv2 mv3 lv4 X6 P6 S6) (hs:ztK P6 zaa pv2 mv3 lv4 zbe zgx zJZ=true) (hk:K (e4 (ztJ S6 zaa pv2 mv3 lv4 zbe zgx zJZ))):z4 K [1,1,1,1,1,1,1,0,1,0,0,1,0,0,1,1,0,1] [X6] ⟨[(0,zS enc_48 3 zaa),(11,zS zak 1 pv2),(12,zS zak 1 mv3),(14,zS zaS 1 lv4),(16,zB zbe),(17,zI zgx),(19,zI zJZ)],[],[]⟩:=zaN (by kernel_rfl) (zc hs hk (λ hs hk=>hk) (λ hs hk=>(zJ4 hX6 hs hk)))
def zva (S6:Bool->Int->Bool) (zaa:(Sl Gate)) (pv2:(Sl Int)) (mv3:(Sl Int)) (lv4:(Sl (Sl Int))) (zbe:Bool) (iv9:Int):Bool :=
  (ztJ S6 zaa pv2 mv3 lv4 zbe iv9 ((s18 (zBT (s19 zaa (lv4.get iv9.toNat)))).2))
def zvb (P6:Bool->Int->Bool) (zaa:(Sl Gate)) (pv2:(Sl Int)) (mv3:(Sl Int)) (lv4:(Sl (Sl Int))) (zbe:Bool) (iv9:Int):Bool :=
  (decide ((0<=iv9/\iv9 < (lv4.len:Int))) &&
 (decide ((p19 zaa (lv4.get iv9.toNat)=true)) &&
 (decide ((p18 (zBT (s19 zaa (lv4.get iv9.toNat)))=true)) &&
 (ztK P6 zaa pv2 mv3 lv4 zbe iv9 ((s18 (zBT (s19 zaa (lv4.get iv9.toNat)))).2)))))
theorem zFK (hX6:zD7 K zaa pv2 mv3 lv4 X6 P6 S6) (hs:zvb P6 zaa pv2 mv3 lv4 zbe iv9=true) (hk:K (e4 (zva S6 zaa pv2 mv3 lv4 zbe iv9))):z4 K [1,1,1,1,1,1,1,0,1,0,0,1,0,0,1,1] [X6] ⟨[(0,zS enc_48 3 zaa),(11,zS zak 1 pv2),(12,zS zak 1 mv3),(14,zS zaS 1 lv4),(16,zB zbe),(17,zI iv9)],[],[]⟩:=zaN (by kernel_rfl) (zaI hs λ hc hs=>And.intro hc (zaI hs λ hc hs=>And.intro (⟨⟨isE,isE,hc⟩,trivial,rfl⟩:(IsE enc_48 3 3 (λ i=>enc_48 (zaa.get i))/\IsE zak 1 1 (λ i=>zak ((lv4.get iv9.toNat).get i))/\(p19 zaa (lv4.get iv9.toNat)=true))/\zm5 (λ i=>enc_48 ((s19 zaa (lv4.get iv9.toNat)).get i)) []/\([]:List PV).all zfG=true) (zaI hs λ hc hs=>And.intro (And.intro (zE enc_48 3 ((s19 zaa (lv4.get iv9.toNat)).get)) hc) (zJ5 hX6 hs hk))))
def zBU (S6:Bool->Int->Bool) (zaa:(Sl Gate)) (pv2:(Sl Int)) (mv3:(Sl Int)) (lv4:(Sl (Sl Int))) (zmJ:Bool) (iv8:Int):Bool :=
  (cond zmJ
 (zva S6 zaa pv2 mv3 lv4 true iv8)
 (zva S6 zaa pv2 mv3 lv4 (s16 pv2 (lv4.get iv8.toNat)) iv8))
def zBV (P6:Bool->Int->Bool) (zaa:(Sl Gate)) (pv2:(Sl Int)) (mv3:(Sl Int)) (lv4:(Sl (Sl Int))) (zmJ:Bool) (iv8:Int):Bool :=
  (cond zmJ
 (zvb P6 zaa pv2 mv3 lv4 true iv8)
 (decide ((0<=iv8/\iv8 < (lv4.len:Int))) &&
 (decide ((p16 pv2 (lv4.get iv8.toNat)=true)) &&
 (zvb P6 zaa pv2 mv3 lv4 (s16 pv2 (lv4.get iv8.toNat)) iv8))))
theorem zNW (hX6:zD7 K zaa pv2 mv3 lv4 X6 P6 S6) (hs:zBV P6 zaa pv2 mv3 lv4 zmJ iv8=true) (hk:K (e4 (zBU S6 zaa pv2 mv3 lv4 zmJ iv8))):z4 K [1,1,1,1,1,1,1,0,1,0,0,1,0,0,1] [X6] ⟨[(0,zS enc_48 3 zaa),(11,zS zak 1 pv2),(12,zS zak 1 mv3),(14,zS zaS 1 lv4),(16,zB zmJ),(17,zI iv8)],[],[]⟩:=zaN (by kernel_rfl) (zc hs hk (λ hs hk=>(zFK hX6 hs hk)) (λ hs hk=>(zaI hs λ hc hs=>And.intro hc (zaI hs λ hc hs=>And.intro (And.intro (zE zak 1 pv2.get) (And.intro (zE zak 1 ((lv4.get iv8.toNat).get)) hc)) (zFK hX6 hs hk)))))
def zqH (S6:Bool->Int->Bool) (zaa:(Sl Gate)) (pv2:(Sl Int)) (mv3:(Sl Int)) (lv4:(Sl (Sl Int))) (zmH:Bool) (iv7:Int) (zmI:Bool):Bool :=
  (cond zmI
 false
 (zBU S6 zaa pv2 mv3 lv4 zmH iv7))
def zqI (P6:Bool->Int->Bool) (zaa:(Sl Gate)) (pv2:(Sl Int)) (mv3:(Sl Int)) (lv4:(Sl (Sl Int))) (zmH:Bool) (iv7:Int) (zmI:Bool):Bool :=
  (cond zmI
 true
 (zBV P6 zaa pv2 mv3 lv4 zmH iv7))
theorem zBW (hX6:zD7 K zaa pv2 mv3 lv4 X6 P6 S6) (hs:zqI P6 zaa pv2 mv3 lv4 zmH iv7 zmI=true) (hk:K (e4 (zqH S6 zaa pv2 mv3 lv4 zmH iv7 zmI))):z4 K [1,1,1,1,1,1,1,0,1,0,0,1,0,0,0,1] [X6] ⟨[(0,zS enc_48 3 zaa),(11,zS zak 1 pv2),(12,zS zak 1 mv3),(14,zS zaS 1 lv4),(16,zB zmH),(17,zI iv7),(107,zB zmI)],[],[]⟩:=zaN (by kernel_rfl) (zc hs hk (λ hs hk=>hk) (λ hs hk=>(zNW hX6 hs hk)))
def znE (zaa:(Sl Gate)) (pv2:(Sl Int)) (mv3:(Sl Int)) (lv4:(Sl (Sl Int))) (S6:Bool->Int->Bool) (zdk:Bool) (iv6:Int):Bool :=
  (cond (decide (iv6 < (lv4.len : Int)))
 (cond (((lv4.get iv6.toNat).len : Int) == (0:Int))
 (zqH S6 zaa pv2 mv3 lv4 zdk iv6 true)
 (cond (decide (((lv4.get iv6.toNat).len : Int) > (mv3.len : Int)))
 (zqH S6 zaa pv2 mv3 lv4 zdk iv6 true)
 (zqH S6 zaa pv2 mv3 lv4 zdk iv6 (!(s16 (lv4.get iv6.toNat) (s17 (zaa.len:Int)))))))
 (cond zdk
 true
 false))
def znF (zaa:(Sl Gate)) (pv2:(Sl Int)) (mv3:(Sl Int)) (lv4:(Sl (Sl Int))) (P6:Bool->Int->Bool) (zdk:Bool) (iv6:Int):Bool :=
  (cond (decide (iv6 < (lv4.len : Int)))
 (decide ((0<=iv6/\iv6 < (lv4.len:Int))) &&
 (cond (((lv4.get iv6.toNat).len : Int) == (0:Int))
 (zqI P6 zaa pv2 mv3 lv4 zdk iv6 true)
 (decide ((0<=iv6/\iv6 < (lv4.len:Int))) &&
 (cond (decide (((lv4.get iv6.toNat).len : Int) > (mv3.len : Int)))
 (zqI P6 zaa pv2 mv3 lv4 zdk iv6 true)
 (decide ((0<=iv6/\iv6 < (lv4.len:Int))) &&
 (decide ((p17 (zaa.len:Int)=true)) &&
 (decide ((p16 (lv4.get iv6.toNat) (s17 (zaa.len:Int))=true)) &&
 (zqI P6 zaa pv2 mv3 lv4 zdk iv6 (!(s16 (lv4.get iv6.toNat) (s17 (zaa.len:Int))))))))))))
 true)
def zhh (zaa:(Sl Gate)) (pv2:(Sl Int)) (mv3:(Sl Int)) (lv4:(Sl (Sl Int))):Nat->Bool->Int->Bool:=lpO (λ _ _=>default) (znE zaa pv2 mv3 lv4)
def zhE (zaa:(Sl Gate)) (pv2:(Sl Int)) (mv3:(Sl Int)) (lv4:(Sl (Sl Int))):Nat->Bool->Int->Bool:=lpO (λ _ _=>false) (znF zaa pv2 mv3 lv4)
def zBX (zaa:(Sl Gate)) (pv2:(Sl Int)) (mv3:(Sl Int)) (lv4:(Sl (Sl Int))) (zdk:Bool) (iv6:Int):Bool:=zhh zaa pv2 mv3 lv4 Fuel zdk iv6
def zBY (zaa:(Sl Gate)) (pv2:(Sl Int)) (mv3:(Sl Int)) (lv4:(Sl (Sl Int))) (zdk:Bool) (iv6:Int):Bool:=zhE zaa pv2 mv3 lv4 Fuel zdk iv6
theorem zNX (hs:zBY zaa pv2 mv3 lv4 zdk iv6=true) (hk:K (e4 (zBX zaa pv2 mv3 lv4 zdk iv6))):z4 K [1,1,1,1,1,1,1,0,1,0] [] (zNT zaa pv2 mv3 lv4 zdk iv6) :=
  zl (λ X=>z4 K [1,1,1,1,1,1,1,0,1,0,0] [X]) (by kernel_rfl) λ X6 hX =>
  (show ∀ k, zD7 K zaa pv2 mv3 lv4 X6 (zhE zaa pv2 mv3 lv4 k) (zhh zaa pv2 mv3 lv4 k) from zgw _ _ (znF zaa pv2 mv3 lv4) (znE zaa pv2 mv3 lv4) (zD7 K zaa pv2 mv3 lv4 X6)
 (by intro _ _ hs;exact absurd hs dqk)
 (by intro P6 S6 hX6 zdk iv6 hs hk;exact hX _ (zaN (by kernel_rfl) (zc hs hk (λ hs hk=>(zaI hs λ hc hs=>And.intro hc (zc hs hk (λ hs hk=>(zBW hX6 hs hk)) (λ hs hk=>(zaI hs λ hc hs=>And.intro hc (zc hs hk (λ hs hk=>(zBW hX6 hs hk)) (λ hs hk=>(zaI hs λ hc hs=>And.intro hc (zaI hs λ hc hs=>And.intro hc (zaI hs λ hc hs=>And.intro (And.intro (zE zak 1 ((lv4.get iv6.toNat).get)) (And.intro (zE zak 1 ((s17 (zaa.len:Int)).get)) hc)) (zBW hX6 hs hk))))))))))) (λ hs hk=>(zt hk (λ hk=>hk) (λ hk=>hk))))))) _ hs hk
def zBZ (zaa:(Sl Gate)) (pv2:(Sl Int)) (mv3:(Sl Int)) (lv4:(Sl (Sl Int))):Bool :=
  (zBX zaa pv2 mv3 lv4 false (0:Int))
def zB0 (zaa:(Sl Gate)) (pv2:(Sl Int)) (mv3:(Sl Int)) (lv4:(Sl (Sl Int))):Bool :=
  (zBY zaa pv2 mv3 lv4 false (0:Int))
theorem zNY (hs:zB0 zaa pv2 mv3 lv4=true) (hk:K (e4 (zBZ zaa pv2 mv3 lv4))):z4 K [1,1,1,1,1,1] [] ⟨[(0,zS enc_48 3 zaa),(11,zS zak 1 pv2),(12,zS zak 1 mv3),(14,zS zaS 1 lv4)],[],[]⟩:=zaN (by kernel_rfl) (zNX hs hk)
def zB1 (zaa:(Sl Gate)) (pv2:(Sl Int)) (mv3:(Sl Int)) (ev3:Int) (lv4:(Sl (Sl Int))) (fv4:Int):Bool :=
  (cond (ev3 != (0:Int))
 false
 (cond (fv4 != (0:Int))
 false
 (cond (decide ((pv2.len : Int) > (mv3.len : Int)))
 false
 (cond ((lv4.len : Int) == (0:Int))
 false
 (zBZ zaa pv2 mv3 lv4)))))
def zB2 (zaa:(Sl Gate)) (pv2:(Sl Int)) (mv3:(Sl Int)) (ev3:Int) (lv4:(Sl (Sl Int))) (fv4:Int):Bool :=
  (cond (ev3 != (0:Int))
 true
 (cond (fv4 != (0:Int))
 true
 (cond (decide ((pv2.len : Int) > (mv3.len : Int)))
 true
 (cond ((lv4.len : Int) == (0:Int))
 true
 (zB0 zaa pv2 mv3 lv4)))))
theorem zNZ (hs:zB2 zaa pv2 mv3 ev3 lv4 fv4=true) (hk:K (e4 (zB1 zaa pv2 mv3 ev3 lv4 fv4))) (zI6:zA9=zg zaS lv4):z4 K [1,1,1,1,1] [] ⟨[(0,zS enc_48 3 zaa),(11,zS zak 1 pv2),(12,zS zak 1 mv3),(13,zI ev3),(14,zP (.sl lv4.len 1 zA9)),(15,zI fv4)],[],[]⟩:=by subst zI6;exact zaN (by kernel_rfl) (zc hs hk (λ hs hk=>hk) (λ hs hk=>(zc hs hk (λ hs hk=>hk) (λ hs hk=>(zc hs hk (λ hs hk=>hk) (λ hs hk=>(zc hs hk (λ hs hk=>hk) (λ hs hk=>(zNY hs hk)))))))))
def zB3 (zaa:(Sl Gate)) (pv2:(Sl Int)) (mv3:(Sl Int)) (ev3:Int):Bool :=
  (zB1 zaa pv2 mv3 ev3 ((s7 zaa (0:Int)).1) ((s7 zaa (0:Int)).2))
def zB4 (zaa:(Sl Gate)) (pv2:(Sl Int)) (mv3:(Sl Int)) (ev3:Int):Bool :=
  (decide ((p7 zaa (0:Int)=true)) &&
 (zB2 zaa pv2 mv3 ev3 ((s7 zaa (0:Int)).1) ((s7 zaa (0:Int)).2)))
theorem zN0 (hs:zB4 zaa pv2 mv3 ev3=true) (hk:K (e4 (zB3 zaa pv2 mv3 ev3))) (zQB:zNV=zg zak mv3):z4 K [1,1,1,1] [] ⟨[(0,zS enc_48 3 zaa),(11,zS zak 1 pv2),(12,zP (.sl mv3.len 1 zNV)),(13,zI ev3)],[],[]⟩:=by subst zQB;exact zaN (by kernel_rfl) (zaI hs λ hc hs=>And.intro (And.intro (zE enc_48 3 zaa.get) hc) (zNZ hs hk rfl))
def zB5 (zaa:(Sl Gate)) (pv2:(Sl Int)):Bool :=
  (zB3 zaa pv2 ((s6 zaa).1) ((s6 zaa).2))
def zB6 (zaa:(Sl Gate)) (pv2:(Sl Int)):Bool :=
  (decide ((p6 zaa=true)) &&
 (zB4 zaa pv2 ((s6 zaa).1) ((s6 zaa).2)))
theorem zN1 (hs:zB6 zaa pv2=true) (hk:K (e4 (zB5 zaa pv2))) (zQC:zNU=zg zak pv2):z4 K [1,1,1] [] ⟨[(0,zS enc_48 3 zaa),(11,zP (.sl pv2.len 1 zNU))],[],[]⟩:=by subst zQC;exact zaN (by kernel_rfl) (zaI hs λ hc hs=>And.intro (And.intro (zE enc_48 3 zaa.get) hc) (zN0 hs hk rfl))
def zvc (zaa:(Sl Gate)) (z:Int) (x:Int) (w:Int) (y_a4:Int):Bool :=
  (zB5 zaa (s14 (s15 z x w y_a4) zaa))
def zvd (zaa:(Sl Gate)) (z:Int) (x:Int) (w:Int) (y_a4:Int):Bool :=
  (decide ((p15 z x w y_a4=true)) &&
 (decide ((p14 (s15 z x w y_a4) zaa=true)) &&
 (zB6 zaa (s14 (s15 z x w y_a4) zaa))))
theorem zN2 (hs:zvd zaa z x w y_a4=true) (hk:K (e4 (zvc zaa z x w y_a4))):z4 K [1,1] [] ⟨[(0,zS enc_48 3 zaa),(1,zI z),(2,zI x),(3,zI w),(4,zI y_a4)],[],[]⟩:=zaN (by kernel_rfl) (zaI hs λ hc hs=>And.intro hc (zaI hs λ hc hs=>And.intro (And.intro (zE enc_48 3 zaa.get) hc) (zN1 hs hk rfl)))
def zqJ (zaa:(Sl Gate)) (z:Int) (x:Int) (w:Int) (y_a4:Int) (ztC:Bool):Bool :=
  (cond ztC
 true
 (zvc zaa z x w y_a4))
def zqK (zaa:(Sl Gate)) (z:Int) (x:Int) (w:Int) (y_a4:Int) (ztC:Bool):Bool :=
  (cond ztC
 true
 (zvd zaa z x w y_a4))
theorem zB7 (hs:zqK zaa z x w y_a4 ztC=true) (hk:K (e4 (zqJ zaa z x w y_a4 ztC))):z4 K [1,0,1] [] ⟨[(0,zS enc_48 3 zaa),(1,zI z),(2,zI x),(3,zI w),(4,zI y_a4),(38,zB ztC)],[],[]⟩:=zaN (by kernel_rfl) (zc hs hk (λ hs hk=>hk) (λ hs hk=>(zN2 hs hk)))
def s4 (zaa:(Sl Gate)) (z:Int) (x:Int) (w:Int) (y_a4:Int):Bool :=
  (cond (decide ((zaa.len : Int) > (16:Int)))
 (zqJ zaa z x w y_a4 true)
 (cond (!(s8 zaa))
 (zqJ zaa z x w y_a4 true)
 (zqJ zaa z x w y_a4 (!(s13 z x w y_a4)))))
def p4 (zaa:(Sl Gate)) (z:Int) (x:Int) (w:Int) (y_a4:Int):Bool :=
  (cond (decide ((zaa.len : Int) > (16:Int)))
 (zqK zaa z x w y_a4 true)
 (decide ((p8 zaa=true)) &&
 (cond (!(s8 zaa))
 (zqK zaa z x w y_a4 true)
 (zqK zaa z x w y_a4 (!(s13 z x w y_a4))))))
end
theorem q4 (zaa:(Sl Gate)) (z:Int) (x:Int) (w:Int) (y_a4:Int) (K:List PA->Prop) (hs:p4 zaa z x w y_a4=true) (hk:K (e4 (s4 zaa z x w y_a4))):vcFun Tryz.prog G4 zQA 4 [.one (.sl zaa.len 3 (λ i=>enc_48 (zaa.get i))),.one (.int .i64 z),.one (.int .i64 x),.one (.int .i64 w),.one (.int .i64 y_a4)] K :=
  zaN (by kernel_rfl) (zc hs hk (λ hs hk=>(zB7 hs hk)) (λ hs hk=>(zaI hs λ hc hs=>And.intro (And.intro (zE enc_48 3 zaa.get) hc) (zc hs hk (λ hs hk=>(zB7 hs hk)) (λ hs hk=>(zB7 hs hk))))))
def zQ9 : List PA → COut
  | [.one (.sl zaU zcu zaV),.one (.int .i64 a1),.one (.int .i64 a2),.one (.int .i64 a3),.one (.int .i64 a4)]=>.det (IsE enc_48 3 zcu zaV/\p4 (⟨zaU,zaf zaV⟩:(Sl Gate)) a1 a2 a3 a4=true) [.one (.bool (s4 (⟨zaU,zaf zaV⟩:(Sl Gate)) a1 a2 a3 a4))]
  | _=>.no
theorem call4:zah Tryz.prog 4:=⟨_,rfl,rfl,by kernel_rfl⟩
theorem ok4:Ok Tryz.prog 4 zQ9:=za3 zSm call4 λ args K h=>by
  unfold zQ9 at h
  split at h
  · rename_i zaU zcu zaV a1 a2 a3 a4
    obtain⟨⟨⟨rfl,zbF,rfl⟩,hs⟩,hk⟩:=h
    try rw[zae zbF] at hs
    try rw[zae zbF] at hk
    exact⟨(λ _ _=>[]),(λ _=>false),zQA,q4 (⟨zaU,zbF⟩:(Sl Gate)) a1 a2 a3 a4 K hs hk⟩
  · exact h.elim
end Go.Proofs
namespace Go.Pm
open Go

theorem zbW {x:Int}(h1 : -9223372036854775808<=x) (h2:x<=9223372036854775807):w64 x=x:=by
 have hb:IntKind.i64.bits=64:=rfl
 have hs:IntKind.i64.signed=true:=rfl
 unfold w64 IntKind.wrap
 rw[hb,hs]
 simp only[Bool.true_and,decide_eq_true_eq]
 split <;> omega
theorem dqT {p:Prop} [Decidable p] (h:p):decide p=true:=decide_eq_true h
theorem dqF {p:Prop} [Decidable p] (h : ¬ p):decide p=false:=decide_eq_false h
theorem dqA {α:Type}(a b:α):cond true a b=a:=rfl
theorem dqB {α:Type}(a b:α):cond false a b=b:=rfl
theorem dqN (n:Nat):((n:Nat):Int).toNat=n:=Int.toNat_natCast n
theorem dqP {c:Prop}{h:Decidable c}(hc:c){α:Type}{t e:α} : ite c t e=t:=if_pos hc
theorem dqG {c:Prop}{h:Decidable c}(hc : ¬ c){α:Type}{t e:α} : ite c t e=e:=if_neg hc
def zqL (c : Nat → Bool) : Nat → Nat → Nat
  | 0,i=>i
  | m+1,i=>match c i with | true=>i | false=>zqL c m (i+1)
theorem zFL {c:Nat->Bool}{m i:Nat}(h:c i=true):zqL c (m+1) i=i:=by simp only[zqL,h]
theorem zFM {c:Nat->Bool}{m i:Nat}(h:c i=false):zqL c (m+1) i=zqL c m (i+1):=by simp only[zqL,h]
theorem zqM (c:Nat->Bool) (m i:Nat):i<=zqL c m i/\zqL c m i<=i+m/\(∀ j,i<=j->j < zqL c m i->c j=false)/\(zqL c m i < i+m->c (zqL c m i)=true):=by
 induction m generalizing i with
 | zero=>exact⟨dqt _,dqt _,λ j h1 h2=>absurd h2 (by simp only[zqL];omega),λ h=>absurd h (by simp only[zqL];omega)⟩
 | succ m ih =>
  cases e:c i
  ·rw [zFM e]
   obtain⟨h1,h2,h3,h4⟩:=ih (i+1)
   refine⟨by omega,by omega,λ j hj1 hj2=>?_,λ h=>h4 (by omega)⟩
   by_cases hji:j=i
   ·rw[hji];exact e
   ·exact h3 j (by omega) hj2
  ·rw [zFL e]
   exact⟨dqt _,by omega,λ j h1 h2=>absurd h2 (by omega),λ _=>e⟩
def fst (c:Nat->Bool) (n:Nat):Nat:=zqL c n 0
theorem zN3 {c:Nat->Bool}{n j:Nat}(h:j < fst c n):c j=false:=(zqM c n 0).2.2.1 j (Nat.zero_le _) h
theorem zN4 {c:Nat->Bool}{n:Nat}(h:fst c n < n):c (fst c n)=true:=(zqM c n 0).2.2.2 (by simpa [fst] using h)
theorem zve {α : Type} {c : α → Bool} {lpS : Nat → Sl α → Int → Int → Int} {lpP : Nat → Sl α → Int → Int → Bool}
    (hS:∀ k s t i,lpS (k+1) s t i=cond (decide (i < t)) (cond (c (s.get i.toNat)) i (lpS k s t (w64 (i+(1:Int))))) (-1:Int))
    (hP:∀ k s t i,lpP (k+1) s t i=cond (decide (i < t)) (decide (0<=i/\i < (s.len:Int)) && cond (c (s.get i.toNat)) true (lpP k s t (w64 (i+(1:Int))))) true)
    (s:Sl α) (hn:s.len<=9223372036854775807):lpP Fuel s (s.len:Int) 0=true/\lpS Fuel s (s.len:Int) 0=if fst (λ i=>c (s.get i)) s.len < s.len then ((fst (λ i=>c (s.get i)) s.len:Nat):Int) else -1:=by
  have key:∀ (m k i:Nat),i+m=s.len->m < k->lpP k s (s.len:Int) (i:Int)=true /\
      lpS k s (s.len:Int) (i:Int)=if zqL (λ i=>c (s.get i)) m i < s.len then ((zqL (λ i=>c (s.get i)) m i:Nat):Int) else -1:=by
    intro m
    induction m with
    | zero =>
      intro k i hi hk
      obtain⟨k,rfl⟩:∃ k',k=k'+1:=⟨k - 1,by omega⟩
      rw[hS,hP]
      have e:decide ((i:Int) < (s.len:Int))=false:=decide_eq_false (by omega)
      rw[e]
      have e5 : ¬ zqL (λ i=>c (s.get i)) 0 i < s.len:=by show ¬ i < s.len;omega
      rw[if_neg e5]
      exact⟨rfl,rfl⟩
    | succ m ih =>
      intro k i hi hk
      obtain⟨k,rfl⟩:∃ k',k=k'+1:=⟨k - 1,by omega⟩
      rw[hS,hP]
      have e:decide ((i:Int) < (s.len:Int))=true:=decide_eq_true (by omega)
      have e2:decide (0<=(i:Int)/\(i:Int) < (s.len:Int))=true:=decide_eq_true (by omega)
      have e3:w64 ((i:Int)+1)=((i+1:Nat):Int):=by rw[zbW (by omega) (by omega)];omega
      have e4:(i:Int).toNat=i:=by omega
      rw[e,e2,e3,e4]
      cases hc:c (s.get i)
      · rw [zFM (c := fun i => c (s.get i)) hc]
        exact ih k (i+1) (by omega) (by omega)
      · rw [zFL (c := fun i => c (s.get i)) hc, if_pos (by omega)]
        exact⟨rfl,rfl⟩
  exact key s.len Fuel 0 (by omega) (by simp only[Fuel];omega)

theorem zvf {good : Nat → Bool} {fin : Bool} {n : Nat} {lpS lpP : Nat → Int → Bool}
    (hS:∀ (k i:Nat),i < n->lpS (k+1) (i:Int)=cond (good i) (lpS k (w64 ((i:Int)+(1:Int)))) false)
    (hE:∀ k,lpS (k+1) (n:Int)=fin)
    (hP:∀ (k i:Nat),i < n->lpP (k+1) (i:Int)=cond (good i) (lpP k (w64 ((i:Int)+(1:Int)))) true)
    (hPE:∀ k,lpP (k+1) (n:Int)=true) (hn:n<=9223372036854775807) :
    lpP Fuel 0=true/\(lpS Fuel 0=true↔(∀ i,i < n->good i=true)/\fin=true):=by
  have key:∀ (m k i:Nat),i+m=n->m < k->lpP k (i:Int)=true/\(lpS k (i:Int)=true↔(∀ j,i<=j->j < n->good j=true)/\fin=true):=by
    intro m
    induction m with
    | zero =>
      intro k i hi hk
      obtain⟨k,rfl⟩:∃ k',k=k'+1:=⟨k - 1,by omega⟩
      have:i=n:=by omega
      subst this
      rw[hE,hPE]
      exact⟨rfl,⟨λ h=>⟨λ j h1 h2=>absurd h2 (by omega),h⟩,λ h=>h.2⟩⟩
    | succ m ih =>
      intro k i hi hk
      obtain⟨k,rfl⟩:∃ k',k=k'+1:=⟨k - 1,by omega⟩
      rw[hS k i (by omega),hP k i (by omega)]
      have e3:w64 ((i:Int)+1)=((i+1:Nat):Int):=by rw[zbW (by omega) (by omega)];omega
      rw[e3]
      obtain⟨h1,h2⟩:=ih k (i+1) (by omega) (by omega)
      cases hg:good i
      · refine ⟨rfl, ⟨fun h => (by cases h), fun h => ?_⟩⟩
        have:=h.1 i (dqt _) (by omega)
        rw[hg] at this;cases this
      · refine ⟨h1, h2.trans ⟨fun h => ⟨fun j hj1 hj2 => ?_, h.2⟩, fun h => ⟨fun j hj1 hj2 => h.1 j (by omega) hj2, h.2⟩⟩⟩
        by_cases hji:j=i
        · rw[hji];exact hg
        · exact h.1 j (by omega) hj2
  have:=key n Fuel 0 (by omega) (by simp only[Fuel];omega)
  simpa using this

end Go.Pm
namespace Go.Pm
open Go
theorem za6 {i n:Nat}(h:i < n) (hn:n<=9223372036854775807):w64 ((i:Int)+(1:Int))=((i+1:Nat):Int):=by
 rw[zbW (by omega) (by omega)];omega
def zku {σ : Type} (step : Nat → σ → σ) : Nat → Nat → σ → σ
  | 0,_,s=>s
  | m+1,i,s=>zku step m (i+1) (step i s)
theorem ziR {σ β : Type} {step : Nat → σ → σ} {E : σ → β} {EP : σ → Bool} {Inv : Nat → σ → Prop} {a n : Nat} {lpS : Nat → σ → Int → β} {lpP : Nat → σ → Int → Bool}
    (hS:∀ (k i:Nat) (s:σ),a<=i->i < n->Inv i s->lpS (k+1) s (i:Int)=lpS k (step i s) (w64 ((i:Int)+(1:Int))))
    (hE:∀ k s,lpS (k+1) s (n:Int)=E s)
    (hP:∀ (k i:Nat) (s:σ),a<=i->i < n->Inv i s->lpP (k+1) s (i:Int)=lpP k (step i s) (w64 ((i:Int)+(1:Int))))
    (hPE:∀ k s,lpP (k+1) s (n:Int)=EP s)
    (hI:∀ i s,a<=i->i < n->Inv i s->Inv (i+1) (step i s)) (ha:a<=n) (hn:n<=9223372036854775807) (s:σ) (h0:Inv a s) :
    lpP Fuel s (a:Int)=EP (zku step (n - a) a s)/\lpS Fuel s (a:Int)=E (zku step (n - a) a s):=by
  have key:∀ (m k i:Nat) (s:σ),a<=i->i+m=n->m < k->Inv i s->lpP k s (i:Int)=EP (zku step m i s)/\lpS k s (i:Int)=E (zku step m i s):=by
    intro m
    induction m with
    | zero =>
      intro k i s h1 hi hk _
      obtain⟨k,rfl⟩:∃ k',k=k'+1:=⟨k - 1,by omega⟩
      have:i=n:=by omega
      subst this
      rw[hE,hPE]
      exact⟨rfl,rfl⟩
    | succ m ih =>
      intro k i s h1 hi hk hs
      obtain⟨k,rfl⟩:∃ k',k=k'+1:=⟨k - 1,by omega⟩
      rw[hS k i s h1 (by omega) hs,hP k i s h1 (by omega) hs,za6 (n:=n) (by omega) hn]
      exact ih k (i+1) (step i s) (by omega) (by omega) (by omega) (hI i s h1 (by omega) hs)
  exact key (n - a) Fuel a s (dqt _) (by omega) (by simp only[Fuel];omega) h0
end Go.Pm
namespace Go.Proofs
open Go Go.Pm
set_option maxRecDepth 100000
theorem zvg (n a b:Int):s35 n a b=decide (a<=n/\n<=b):=by
 unfold s35;by_cases h:n >= a
 ·rw[dqT h,dqA];exact decide_eq_decide.2 ⟨λ k=>⟨h,k⟩,λ k=>k.2⟩
 ·rw[dqF h,dqB];exact (dqF λ k=>h k.1).symm
theorem zvh (n a b:Int):s44 n a b=decide (a<=n/\n<=b):=zvg n a b
def zgo (g:Gate):Prop:=(0<=g.Z/\g.Z<=100000)/\-1000000<=g.Low/\g.Low<=g.High/\g.High<=1000000
def zbE (l:Sl Gate):Prop:=(∀ i,i < l.len->zgo (l.get i))/\1<=l.len/\l.len<=24
theorem zgi (a b:Bool):cond a b false=(a && b):=by cases a <;> rfl
theorem zFN (g:Gate):s55 g=true↔zgo g:=by
 unfold s55 zgo
 rw[zvh,zgi,zgi,zgi,dqm,dqm,dqm,decide_eq_true_eq,decide_eq_true_eq,decide_eq_true_eq,decide_eq_true_eq]
theorem zFO (g:Gate):s34 g=true↔zgo g:=by
 unfold s34 zgo
 rw[zvg,zvg,zgi,zgi,dqm,dqm,decide_eq_true_eq,decide_eq_true_eq,decide_eq_true_eq]
 omega
theorem zFP (l:Sl Gate) (hn:l.len<=9223372036854775807):p28 l=true/\(s28 l=true↔zbE l):=by
  have := zvf (good := fun i => s55 (l.get i)) (fin := s44 (l.len : Int) 1 24) (n := l.len) (lpS := zje l) (lpP := zjf l)
    (λ k i hi=>by
      show zjc l (zje l k) (i:Int)=_
      generalize zje l k=S
      unfold zjc zrN
      rw[dqT (show (i:Int) < (l.len:Int) by omega),dqA,dqN]
      cases s55 (l.get i) <;> rfl)
    (λ k=>by
      show zjc l (zje l k) (l.len:Int)=_
      unfold zjc
      rw[dqF (show ¬ (l.len:Int) < (l.len:Int) by omega),dqB])
    (λ k i hi=>by
      show zjd l (zjf l k) (i:Int)=_
      generalize zjf l k=S
      unfold zjd zrO
      rw[dqT (show (i:Int) < (l.len:Int) by omega),dqA,dqN,dqT (show 0<=(i:Int)/\(i:Int) < (l.len:Int) by omega),Bool.true_and]
      cases s55 (l.get i) <;> rfl)
    (λ k=>by
      show zjd l (zjf l k) (l.len:Int)=_
      unfold zjd
      rw[dqF (show ¬ (l.len:Int) < (l.len:Int) by omega),dqB])
    hn
  refine⟨this.1,this.2.trans ?_⟩
  rw[zvh,decide_eq_true_eq]
  exact⟨λ k=>⟨λ i hi=>(zFN _).1 (k.1 i hi),by omega,by omega⟩,λ k=>⟨λ i hi=>(zFN _).2 (k.1 i hi),by have:=k.2;omega⟩⟩
theorem zN5 (l:Sl Gate) (hn:l.len<=9223372036854775807):p8 l=true/\(s8 l=true↔zbE l):=by
  have := zvf (good := fun i => s34 (l.get i)) (fin := s35 (l.len : Int) 1 24) (n := l.len) (lpS := znC l) (lpP := znD l)
    (λ k i hi=>by
      show znA l (znC l k) (i:Int)=_
      generalize znC l k=S
      unfold znA zBE
      rw[dqT (show (i:Int) < (l.len:Int) by omega),dqA,dqN]
      cases s34 (l.get i) <;> rfl)
    (λ k=>by
      show znA l (znC l k) (l.len:Int)=_
      unfold znA
      rw[dqF (show ¬ (l.len:Int) < (l.len:Int) by omega),dqB])
    (λ k i hi=>by
      show znB l (znD l k) (i:Int)=_
      generalize znD l k=S
      unfold znB zBF
      rw[dqT (show (i:Int) < (l.len:Int) by omega),dqA,dqN,dqT (show 0<=(i:Int)/\(i:Int) < (l.len:Int) by omega),Bool.true_and]
      cases s34 (l.get i) <;> rfl)
    (λ k=>by
      show znB l (znD l k) (l.len:Int)=_
      unfold znB
      rw[dqF (show ¬ (l.len:Int) < (l.len:Int) by omega),dqB])
    hn
  refine⟨this.1,this.2.trans ?_⟩
  rw[zvg,decide_eq_true_eq]
  exact⟨λ k=>⟨λ i hi=>(zFO _).1 (k.1 i hi),by omega,by omega⟩,λ k=>⟨λ i hi=>(zFO _).2 (k.1 i hi),by have:=k.2;omega⟩⟩
theorem zB8:∀ (k:Nat) (a b:Int),0<=a->0<=b->b < (k:Int) ->
  (zoC k a b=true/\zoB k a b=(Int.gcd a b:Int))/\(zo4 k a b=true/\zo3 k a b=(Int.gcd a b:Int)):=by
 intro k
 induction k with
 | zero=>intro a b _ h1 h2;omega
 | succ k ih =>
  intro a b ha hb hk
  show (zoA (zoC k) a b=true/\zoz (zoB k) a b=_)/\(zo2 (zo4 k) a b=true/\zo1 (zo3 k) a b=_)
  unfold zoA zoz zo2 zo1
  by_cases h0:b=0
  ·subst h0
   simp[Int.natAbs_of_nonneg ha]
  ·have hb0 : b > 0 := by omega
   have e1:(b != (0:Int))=true:=by simpa using h0
   have m0:0<=a.tmod b:=Int.tmod_nonneg b ha
   have m1:a.tmod b < b:=Int.tmod_lt_of_pos a hb0
   have g:Int.gcd b (a.tmod b)=Int.gcd a b:=by
    obtain⟨m,rfl⟩:=Int.eq_ofNat_of_zero_le ha
    obtain⟨n,rfl⟩:=Int.eq_ofNat_of_zero_le hb
    show Nat.gcd n (m % n)=Nat.gcd m n
    rw[Nat.gcd_comm m n,Nat.gcd_rec n m,Nat.gcd_comm]
   obtain⟨⟨i1,i2⟩,i3,i4⟩:=ih b (a.tmod b) hb m0 (by omega)
   rw[dqT hb0,e1,dqT (show b ≠ 0 from h0),dqA,dqA,dqA,dqA,Bool.true_and,Bool.true_and,i1,i2,i3,i4,g]
   exact⟨⟨rfl,rfl⟩,rfl,rfl⟩
theorem zJ6 (a b:Int) (ha:0<=a) (hb:0<=b) (hk:b<=9223372036854775807):p84 a b=true/\s84 a b=(Int.gcd a b:Int) :=
 (zB8 Fuel a b ha hb (by simp only[Fuel];omega)).1
theorem zN6 (a b:Int) (ha:0<=a) (hb:0<=b) (hk:b<=9223372036854775807):p54 a b=true/\s54 a b=(Int.gcd a b:Int) :=
 (zB8 Fuel a b ha hb (by simp only[Fuel];omega)).2
-- the order of equal lists
end Go.Proofs
namespace Go.Proofs
open Go Go.Pm
set_option maxRecDepth 100000
def red (num den:Int):Frac:=⟨num.tdiv (Int.gcd num den:Int),den.tdiv (Int.gcd num den:Int)⟩
theorem zFQ (num:Int):(if -num > num then -num else num)=(num.natAbs:Int):=by split <;> omega
theorem zB9 (num den:Int):Int.gcd (num.natAbs:Int) den=Int.gcd num den:=by
 unfold Int.gcd;rw[Int.natAbs_natCast]
theorem zgj {num den:Int}(hd:0 < den):0 < (Int.gcd num den:Int):=by
 have:Int.gcd num den ≠ 0:=λ h=>by have:=(Int.gcd_eq_zero_iff.1 h).2;omega
 omega
theorem zSn (num den:Int):∃ a,num=(Int.gcd num den:Int) * a:=Int.gcd_dvd_left num den
theorem zSo (num den:Int):∃ a,den=(Int.gcd num den:Int) * a:=Int.gcd_dvd_right num den
theorem ztL {num den:Int}(hd:0 < den):(Int.gcd num den:Int) * (red num den).Num=num:=by
 have hg:=zgj (num:=num) hd
 obtain⟨a,ha⟩:=zSn num den
 show (Int.gcd num den:Int) * num.tdiv (Int.gcd num den:Int)=num
 generalize (Int.gcd num den:Int)=g at ha hg ⊢
 rw[ha,Int.mul_tdiv_cancel_left _ (by omega)]
theorem zpa {num den:Int}(hd:0 < den):(Int.gcd num den:Int) * (red num den).Den=den:=by
 have hg:=zgj (num:=num) hd
 obtain⟨a,ha⟩:=zSo num den
 show (Int.gcd num den:Int) * den.tdiv (Int.gcd num den:Int)=den
 generalize (Int.gcd num den:Int)=g at ha hg ⊢
 rw[ha,Int.mul_tdiv_cancel_left _ (by omega)]
theorem zmK {num den:Int}(hd:0 < den):0 < (red num den).Den:=by
 have h1:=zpa (num:=num) hd
 have hg:=zgj (num:=num) hd
 rcases Int.lt_or_le 0 (red num den).Den with h | h
 ·exact h
 ·have := Int.mul_le_mul_of_nonneg_left h (Int.le_of_lt hg)
  rw[h1,Int.mul_zero] at this
  omega
theorem zvi {num den:Int}(hd:0 < den):(red num den).Den<=den:=by
 have h1:=zpa (num:=num) hd
 have hg:=zgj (num:=num) hd
 have:=Int.mul_le_mul_of_nonneg_right (show (1:Int)<=(Int.gcd num den:Int) by omega) (Int.le_of_lt (zmK (num:=num) hd))
 omega
theorem zpb {num den:Int}(hd:0 < den) : -(num.natAbs:Int)<=(red num den).Num/\(red num den).Num<=(num.natAbs:Int):=by
 have h1:=ztL (num:=num) hd
 have hg:=zgj (num:=num) hd
 have h2:num.natAbs=(Int.gcd num den) * (red num den).Num.natAbs:=by
  have:=congrArg Int.natAbs h1
  rw[Int.natAbs_mul] at this
  simpa using this.symm
 have h3:(red num den).Num.natAbs<=num.natAbs:=by
  rw[h2];exact Nat.le_mul_of_pos_left _ (by omega)
 omega
theorem zFR {num den:Int}(h1 : -4611686018427387904<=num) (h2:num<=4611686018427387904) (hd:0 < den) (hd2:den<=4611686018427387904):p68 num den=true/\s68 num den=red num den:=by
 have e:w64 (0 - num) = -num:=by rw[zbW (by omega) (by omega)];omega
 obtain⟨g1,g2⟩:=zJ6 (num.natAbs:Int) den (by omega) (by omega) (by omega)
 have hg:=zgj (num:=num) hd
 have r1:=zpb (num:=num) hd
 have r2:=zvi (num:=num) hd
 have r3:=zmK (num:=num) hd
 unfold p68 s68
 rw[e,zFQ,g1,g2,zB9]
 have w1:w64 (num.tdiv (Int.gcd num den:Int))=(red num den).Num:=zbW (by show _<=(red num den).Num;omega) (by show (red num den).Num<=_;omega)
 have w2:w64 (den.tdiv (Int.gcd num den:Int))=(red num den).Den:=zbW (by show _<=(red num den).Den;omega) (by show (red num den).Den<=_;omega)
 rw[w1,w2,dqT (show (Int.gcd num den:Int) ≠ 0 by omega)]
 exact⟨by simp only[decide_true,Bool.and_self],by cases red num den;simp only⟩
theorem zvj {num den:Int}(h1 : -4611686018427387904<=num) (h2:num<=4611686018427387904) (hd:0 < den) (hd2:den<=4611686018427387904):p26 num den=true/\s26 num den=red num den:=by
 have e:w64 (0 - num) = -num:=by rw[zbW (by omega) (by omega)];omega
 obtain⟨g1,g2⟩:=zN6 (num.natAbs:Int) den (by omega) (by omega) (by omega)
 have hg:=zgj (num:=num) hd
 have r1:=zpb (num:=num) hd
 have r2:=zvi (num:=num) hd
 have r3:=zmK (num:=num) hd
 unfold p26 s26
 rw[e,zFQ,g1,g2,zB9]
 have w1:w64 (num.tdiv (Int.gcd num den:Int))=(red num den).Num:=zbW (by show _<=(red num den).Num;omega) (by show (red num den).Num<=_;omega)
 have w2:w64 (den.tdiv (Int.gcd num den:Int))=(red num den).Den:=zbW (by show _<=(red num den).Den;omega) (by show (red num den).Den<=_;omega)
 rw[w1,w2,dqT (show (Int.gcd num den:Int) ≠ 0 by omega)]
 exact⟨by simp only[decide_true,Bool.and_self],by cases red num den;simp only⟩
end Go.Proofs
namespace Go.Proofs
open Go Go.Pm
set_option maxRecDepth 100000
theorem ztM {x y X Y:Int}(h1 : -X<=x) (h2:x<=X) (h3:0<=y) (h4:y<=Y) : -(X * Y)<=x * y/\x * y<=X * Y:=by
 have hX:0<=X:=by omega
 have a:=Int.mul_le_mul_of_nonneg_right h2 h3
 have b:=Int.mul_le_mul_of_nonneg_left h4 hX
 have c:=Int.mul_le_mul_of_nonneg_right h1 h3
 rw[Int.neg_mul] at c
 omega
def thr (z p y q:Int):straight:=if z > y then ⟨p - q,q * z - p * y,z - y⟩ else ⟨q - p,p * y - q * z,y - z⟩
def toL (s:straight):Line:=⟨red s.slope s.den,red s.start s.den⟩
theorem zpc {z p y q:Int}(hz:0<=z/\z<=100000) (hy:0<=y/\y<=100000) (hp : -1000000<=p/\p<=1000000) (hq : -1000000<=q/\q<=1000000):s78 z p y q=thr z p y q:=by
 have b1:=ztM hp.1 hp.2 hy.1 hy.2
 have b2:=ztM hq.1 hq.2 hz.1 hz.2
 unfold s78 zoJ thr
 rw[zbW (x:=p * y) (by omega) (by omega),zbW (x:=q * z) (by omega) (by omega)]
 by_cases h:z > y
 ·rw[dqT h,dqA,dqP h,zbW (by omega) (by omega),zbW (by omega) (by omega),zbW (by omega) (by omega)]
 ·rw[dqF h,dqB,dqG h,zbW (by omega) (by omega),zbW (by omega) (by omega),zbW (by omega) (by omega)]
theorem zN7 {z p y q:Int}(hz:0<=z/\z<=100000) (hy:0<=y/\y<=100000) (hp : -1000000<=p/\p<=1000000) (hq : -1000000<=q/\q<=1000000) (hn:z ≠ y):p15 z p y q=true/\s15 z p y q=toL (thr z p y q):=by
 have b1:=ztM hp.1 hp.2 hy.1 hy.2
 have b2:=ztM hq.1 hq.2 hz.1 hz.2
 unfold p15 s15 zo9 zo8 thr toL
 rw[zbW (x:=p * y) (by omega) (by omega),zbW (x:=q * z) (by omega) (by omega)]
 by_cases h:z > y
 ·rw [dqT (show y < z from h), dqA, dqA, dqP h, zbW (x := p - q) (by omega) (by omega), zbW (x := z - y) (by omega) (by omega), zbW (x := q * z - p * y) (by omega) (by omega)]
  obtain⟨c1,c2⟩:=zvj (num:=p - q) (den:=z - y) (by omega) (by omega) (by omega) (by omega)
  obtain⟨d1,d2⟩:=zvj (num:=q * z - p * y) (den:=z - y) (by omega) (by omega) (by omega) (by omega)
  rw[c1,c2,d1,d2]
  exact⟨by simp only[decide_true,Bool.and_self],rfl⟩
 ·rw [dqF (show ¬ y < z from h), dqB, dqB, dqG h, zbW (x := q - p) (by omega) (by omega), zbW (x := y - z) (by omega) (by omega), zbW (x := p * y - q * z) (by omega) (by omega)]
  obtain⟨c1,c2⟩:=zvj (num:=q - p) (den:=y - z) (by omega) (by omega) (by omega) (by omega)
  obtain⟨d1,d2⟩:=zvj (num:=p * y - q * z) (den:=y - z) (by omega) (by omega) (by omega) (by omega)
  rw[c1,c2,d1,d2]
  exact⟨by simp only[decide_true,Bool.and_self],rfl⟩
def zwv (a b:Gate):List straight:=if a.Z=b.Z then [] else [thr a.Z a.Low b.Z b.Low,thr a.Z a.Low b.Z b.High,thr a.Z a.High b.Z b.Low,thr a.Z a.High b.Z b.High]
def zvk (g : Sl Gate) (i : Nat) : Nat → Nat → List straight
  | 0,_=>[]
  | m+1,k=>zwv (g.get i) (g.get k) ++ zvk g i m (k+1)
def zD8 (g : Sl Gate) : Nat → Nat → List straight
  | 0,_=>[]
  | m+1,i=>zvk g i (g.len - (i+1)) (i+1) ++ zD8 g m (i+1)
def cst (g:Sl Gate):List straight:=zD8 g g.len 0
theorem zm0 {g:Gate}(h:zgo g) : -1000000<=g.Low/\g.Low<=1000000:=⟨h.2.1,by have:=h.2;omega⟩
theorem zm1 {g:Gate}(h:zgo g) : -1000000<=g.High/\g.High<=1000000:=⟨by have:=h.2;omega,h.2.2.2⟩
theorem zQD (g : Sl Gate) (G : zbE g) (i : Nat) (hi : i < g.len) (sl : Sl Gate) (hs : sl.len = g.len - (i + 1)) (hg : ∀ x, sl.get x = g.get (x + (i + 1)))
    (S0:Int->List straight) (P0:Int->Bool):∀ (m k j:Nat),j+m=sl.len->m < k ->
    zfZ P0 ⟨g⟩ k (i:Int) sl (sl.len:Int) (j:Int) (g.get i).Z (g.get i).Low (g.get i).High=P0 ((i+1:Nat):Int) /\
    zfY S0 ⟨g⟩ k (i:Int) sl (sl.len:Int) (j:Int) (g.get i).Z (g.get i).Low (g.get i).High=zvk g i m (j+(i+1)) ++ S0 ((i+1:Nat):Int):=by
  have hl:=G.2.2
  intro m
  induction m with
  | zero =>
    intro k j hj hk
    obtain⟨k,rfl⟩:∃ k',k=k'+1:=⟨k - 1,by omega⟩
    show zhT P0 ⟨g⟩ (zfZ P0 ⟨g⟩ k) _ _ _ _ _ _ _=_/\zhS S0 ⟨g⟩ (zfY S0 ⟨g⟩ k) _ _ _ _ _ _ _=_
    unfold zhT zhS
    rw[dqF (show ¬ (j:Int) < (sl.len:Int) by omega),dqB,dqB,za6 (n:=g.len) hi (by omega)]
    exact⟨rfl,rfl⟩
  | succ m ih =>
    intro k j hj hk
    obtain⟨k,rfl⟩:∃ k',k=k'+1:=⟨k - 1,by omega⟩
    obtain⟨i1,i2⟩:=ih k (j+1) (by omega) (by omega)
    show zhT P0 ⟨g⟩ (zfZ P0 ⟨g⟩ k) _ _ _ _ _ _ _=_/\zhS S0 ⟨g⟩ (zfY S0 ⟨g⟩ k) _ _ _ _ _ _ _=zvk g i (m+1) (j+(i+1)) ++ _
    generalize zfZ P0 ⟨g⟩ k=P at i1
    generalize zfY S0 ⟨g⟩ k=S at i2
    unfold zhT zhS
    have gi:=G.1 i hi
    have gk:=G.1 (j+(i+1)) (by omega)
    rw[dqT (show (j:Int) < (sl.len:Int) by omega),dqT (show 0<=(j:Int)/\(j:Int) < (sl.len:Int) by omega),dqA,dqA,Bool.true_and,dqN,hg,
      za6 (n:=sl.len) (by omega) (by omega),i1,i2,zpc gi.1 gk.1 (zm0 gi) (zm0 gk),zpc gi.1 gk.1 (zm0 gi) (zm1 gk),zpc gi.1 gk.1 (zm1 gi) (zm0 gk),zpc gi.1 gk.1 (zm1 gi) (zm1 gk)]
    show _/\_=(zwv (g.get i) (g.get (j+(i+1))) ++ zvk g i m (j+(i+1)+1)) ++ _
    rw[show j+1+(i+1)=j+(i+1)+1 by omega]
    unfold zwv
    by_cases hz:(g.get i).Z=(g.get (j+(i+1))).Z
    · rw [dqP hz, show ((g.get i).Z == (g.get (j + (i + 1))).Z) = true by simpa using hz]
      exact⟨rfl,rfl⟩
    · rw [dqG hz, show ((g.get i).Z == (g.get (j + (i + 1))).Z) = false by simpa using hz]
      exact⟨rfl,rfl⟩
theorem zCa (g:Sl Gate) (G:zbE g):p77 ⟨g⟩=true/\s77 ⟨g⟩=cst g:=by
 have hl:=G.2.2
 have key:∀ (m k i:Nat),i+m=g.len->m < k->zf1 ⟨g⟩ k (i:Int)=true/\zf0 ⟨g⟩ k (i:Int)=zD8 g m i:=by
  intro m
  induction m with
  | zero =>
   intro k i hi hk
   obtain⟨k,rfl⟩:∃ k',k=k'+1:=⟨k - 1,by omega⟩
   show zhV ⟨g⟩ (zf1 ⟨g⟩ k) _=_/\zhU ⟨g⟩ (zf0 ⟨g⟩ k) _=_
   unfold zhV zhU
   rw[dqF (show ¬ (i:Int) < (g.len:Int) by omega),dqB,dqB]
   exact⟨rfl,rfl⟩
  | succ m ih =>
   intro k i hi hk
   obtain⟨k,rfl⟩:∃ k',k=k'+1:=⟨k - 1,by omega⟩
   obtain⟨i1,i2⟩:=ih k (i+1) (by omega) (by omega)
   show zhV ⟨g⟩ (zf1 ⟨g⟩ k) _=_/\zhU ⟨g⟩ (zf0 ⟨g⟩ k) _=zvk g i (g.len - (i+1)) (i+1) ++ zD8 g m (i+1)
   generalize zf1 ⟨g⟩ k=P at i1
   generalize zf0 ⟨g⟩ k=S at i2
   unfold zhV zhU zrU zrT
   rw[za6 (n:=g.len) (by omega) (by omega)]
   rw[dqT (show (i:Int) < (g.len:Int) by omega),dqT (show 0<=(i:Int)/\(i:Int) < (g.len:Int) by omega),dqT (show 0<=((i+1:Nat):Int)/\((i+1:Nat):Int)<=(g.len:Int)/\(g.len:Int)<=(g.len:Int) by omega),
    dqA,dqA,Bool.true_and,Bool.true_and,dqN,dqN]
   have hs:((g.len:Int) - ((i+1:Nat):Int)).toNat=g.len - (i+1):=by omega
   have:=zQD g G i (by omega) (⟨((g.len:Int) - ((i+1:Nat):Int)).toNat,λ x=>g.get (x+(i+1))⟩:Sl Gate) hs (λ _=>rfl) S P (g.len - (i+1)) Fuel 0 (by show 0+(g.len - (i+1))=((g.len:Int) - ((i+1:Nat):Int)).toNat;omega) (by simp only[Fuel];omega)
   rw[i1,i2,Nat.zero_add] at this
   exact this
 exact key g.len Fuel 0 (by omega) (by simp only[Fuel];omega)
end Go.Proofs
namespace Go.Proofs
open Go Go.Pm
set_option maxRecDepth 100000
set_option linter.unusedVariables false
attribute [local irreducible] Go.Pm.vcFun Go.Pm.vc Go.Pm.vcIter
end Go.Proofs
namespace Go.Proofs
open Go Go.Pm
set_option maxRecDepth 100000
def apL {α:Type}(v:Sl α) (x:α):Sl α:=⟨v.len+1,zgv v.len v.get (λ _=>x)⟩
theorem ziS {α:Type}(l:List α):∀ v:Sl α,(l.foldl apL v).len=v.len+l.length:=by
 induction l with
 | nil=>intro v;rfl
 | cons x l ih=>intro v;rw[List.foldl_cons,ih];show v.len+1+l.length=v.len+(l.length+1);omega
theorem zD9 (a b:Gate):(zwv a b).length<=4:=by unfold zwv;split <;> simp
theorem zEa (g:Sl Gate) (i m k:Nat):(zvk g i m k).length<=4 * m:=by
 induction m generalizing k with
 | zero=>exact dqt _
 | succ m ih=>show (zwv _ _ ++ zvk g i m (k+1)).length<=_;rw[dqu];have:=ih (k+1);have:=zD9 (g.get i) (g.get k);omega
end Go.Proofs
namespace Go.Proofs
open Go Go.Pm
set_option maxRecDepth 100000
def SOK (s:straight):Prop:=(-2000000<=s.slope/\s.slope<=2000000)/\(-200000000000<=s.start/\s.start<=200000000000)/\1<=s.den/\s.den<=100000
theorem zFS {z p y q:Int}(hz:0<=z/\z<=100000) (hy:0<=y/\y<=100000) (hp : -1000000<=p/\p<=1000000) (hq : -1000000<=q/\q<=1000000) (hn:z ≠ y):SOK (thr z p y q):=by
 have b1:=ztM hp.1 hp.2 hy.1 hy.2
 have b2:=ztM hq.1 hq.2 hz.1 hz.2
 unfold thr SOK
 by_cases h:z > y
 ·rw[dqP h];exact⟨⟨by show _<=p - q;omega,by show p - q<=_;omega⟩,⟨by show _<=q * z - p * y;omega,by show q * z - p * y<=_;omega⟩,by show _<=z - y;omega,by show z - y<=_;omega⟩
 ·rw[dqG h];exact⟨⟨by show _<=q - p;omega,by show q - p<=_;omega⟩,⟨by show _<=p * y - q * z;omega,by show p * y - q * z<=_;omega⟩,by show _<=y - z;omega,by show y - z<=_;omega⟩
theorem zEb {a b:Gate}{s:straight}(h:s∈zwv a b):a.Z ≠ b.Z/\∃ p q,(p=a.Low\/p=a.High)/\(q=b.Low\/q=b.High)/\s=thr a.Z p b.Z q:=by
 unfold zwv at h
 by_cases hz:a.Z=b.Z
 ·rw[dqP hz] at h;cases h
 ·rw [dqG hz] at h
  refine⟨hz,?_⟩
  simp only[dqq,List.not_mem_nil,or_false] at h
  rcases h with h | h | h | h
  ·exact⟨_,_,.inl rfl,.inl rfl,h⟩
  ·exact⟨_,_,.inl rfl,.inr rfl,h⟩
  ·exact⟨_,_,.inr rfl,.inl rfl,h⟩
  ·exact⟨_,_,.inr rfl,.inr rfl,h⟩
theorem zvl {g : Sl Gate} {i : Nat} {s : straight} : ∀ {m k : Nat}, s ∈ zvk g i m k → ∃ j, k ≤ j ∧ j < k + m ∧ s ∈ zwv (g.get i) (g.get j)
  | 0,_,h=>by cases h
  | m+1,k,h=>by
    rcases dqg.1 h with h | h
    · exact⟨k,dqt _,by omega,h⟩
    · obtain ⟨j, a, b, c⟩ := zvl h
      exact⟨j,by omega,by omega,c⟩
theorem zvm {g : Sl Gate} {s : straight} : ∀ {m i : Nat}, s ∈ zD8 g m i → ∃ a b, i ≤ a ∧ a < i + m ∧ a < b ∧ b < g.len ∧ s ∈ zwv (g.get a) (g.get b)
  | 0,_,h=>by cases h
  | m+1,i,h=>by
    rcases dqg.1 h with h | h
    · obtain ⟨j, a, b, c⟩ := zvl h
      exact⟨i,j,dqt _,by omega,by omega,by omega,c⟩
    · obtain ⟨a, b, h1, h2, h3, h4, h5⟩ := zvm h
      exact⟨a,b,by omega,by omega,h3,h4,h5⟩
theorem zpd {g:Sl Gate}{s:straight}(h:s∈cst g):∃ a b,a < b/\b < g.len/\(g.get a).Z ≠ (g.get b).Z/\∃ p q,(p=(g.get a).Low\/p=(g.get a).High)/\(q=(g.get b).Low\/q=(g.get b).High)/\s=thr (g.get a).Z p (g.get b).Z q:=by
 obtain⟨a,b,_,_,h3,h4,h5⟩:=zvm h
 obtain⟨hz,r⟩:=zEb h5
 exact⟨a,b,h3,h4,hz,r⟩
theorem zvn {g:Sl Gate}(G:zbE g){s:straight}(h:s∈cst g):SOK s:=by
 obtain⟨a,b,h1,h2,hz,p,q,hp,hq,rfl⟩:=zpd h
 have ga:=G.1 a (by omega)
 have gb:=G.1 b h2
 refine zFS ga.1 gb.1 ?_ ?_ hz
 ·rcases hp with rfl | rfl;exact zm0 ga;exact zm1 ga
 ·rcases hq with rfl | rfl;exact zm0 gb;exact zm1 gb
def plc (s:straight) (z:Int):Int:=s.start+s.slope * z
def zcS (s:straight) (g:Gate):Bool:=decide (g.Low * s.den<=plc s g.Z/\plc s g.Z<=g.High * s.den)
theorem zpe {s:straight}(S:SOK s){g:Gate}(G:zgo g):s57 s g=zcS s g:=by
 obtain⟨S1,S2,S3⟩:=S
 have b1:=ztM S1.1 S1.2 G.1.1 G.1.2
 have b2:=ztM (zm0 G).1 (zm0 G).2 (show 0<=s.den by omega) S3.2
 have b3:=ztM (zm1 G).1 (zm1 G).2 (show 0<=s.den by omega) S3.2
 unfold s57 zcS plc
 rw[zvh,zbW (x:=s.slope * g.Z) (by omega) (by omega),zbW (x:=s.start+s.slope * g.Z) (by omega) (by omega),zbW (x:=g.Low * s.den) (by omega) (by omega),zbW (x:=g.High * s.den) (by omega) (by omega)]
theorem zkT {a x y:Int}(h:0 < a):a * x<=a * y↔x<=y:=⟨λ k=>Int.le_of_mul_le_mul_left k h,λ k=>Int.mul_le_mul_of_nonneg_left k (Int.le_of_lt h)⟩
theorem zJ7 {s:straight}(S:SOK s){z:Int}(hz:0<=z/\z<=100000):∃ n d k,s63 (toL s) z=(n,d)/\0 < k/\k * n=s.den * plc s z/\k * d=s.den * s.den/\0 < d/\d<=10000000000:=by
  obtain⟨S1,S2,S3⟩:=S
  have hd:0 < s.den:=by omega
  have g1:=zgj (num:=s.slope) hd
  have g2:=zgj (num:=s.start) hd
  have r1:=zpb (num:=s.slope) hd
  have r2:=zpb (num:=s.start) hd
  have e1:=ztL (num:=s.slope) hd
  have e2:=zpa (num:=s.slope) hd
  have e3:=ztL (num:=s.start) hd
  have e4:=zpa (num:=s.start) hd
  have p1:=zmK (num:=s.slope) hd
  have p2:=zmK (num:=s.start) hd
  have q1:=zvi (num:=s.slope) hd
  have q2:=zvi (num:=s.start) hd
  unfold s63 toL
  simp only
  generalize (red s.slope s.den).Num=a at *
  generalize (red s.slope s.den).Den=b at *
  generalize (red s.start s.den).Num=c at *
  generalize (red s.start s.den).Den=d at *
  generalize (Int.gcd s.slope s.den:Int)=G1 at *
  generalize (Int.gcd s.start s.den:Int)=G2 at *
  have m1:=ztM (x:=c) (X:=200000000000) (y:=b) (Y:=100000) (by omega) (by omega) (by omega) (by omega)
  have m2:=ztM (x:=a) (X:=2000000) (y:=z) (Y:=100000) (by omega) (by omega) hz.1 hz.2
  have m3:=ztM (x:=a * z) (X:=2000000 * 100000) (y:=d) (Y:=100000) (by omega) (by omega) (by omega) (by omega)
  have m4:=ztM (x:=d) (X:=100000) (y:=b) (Y:=100000) (by omega) (by omega) (by omega) (by omega)
  have m5:=Int.mul_pos p2 p1
  rw[zbW (x:=c * b) (by omega) (by omega),zbW (x:=a * z) (by omega) (by omega),zbW (x:=a * z * d) (by omega) (by omega),zbW (x:=c * b+a * z * d) (by omega) (by omega),zbW (x:=d * b) (by omega) (by omega)]
  refine⟨_,_,G1 * G2,rfl,Int.mul_pos g1 g2,?_,?_,m5,by omega⟩
  · unfold plc
    have t1:G1 * G2 * (c * b)=s.den * s.start:=by
      calc G1 * G2 * (c * b) = (G1 * b) * (G2 * c) := by ac_rfl
        _=_:=by rw[e2,e3]
    have t2:G1 * G2 * (a * z * d)=s.den * (s.slope * z):=by
      calc G1 * G2 * (a * z * d) = (G2 * d) * ((G1 * a) * z) := by ac_rfl
        _=_:=by rw[e4,e1]
    rw[Int.mul_add,t1,t2,Int.mul_add]
  · calc G1 * G2 * (d * b) = (G1 * b) * (G2 * d) := by ac_rfl
      _=_:=by rw[e2,e4]
theorem zN8 {s:straight}(S:SOK s){g:Gate}(G:zgo g):s38 (toL s) g=zcS s g:=by
  obtain⟨n,d,k,e,hk,kn,kd,d1,d2⟩:=zJ7 S G.1
  have hd:0 < s.den:=by have:=S.2.2;omega
  have b2:=ztM (zm0 G).1 (zm0 G).2 (show 0<=d by omega) d2
  have b3:=ztM (zm1 G).1 (zm1 G).2 (show 0<=d by omega) d2
  have key:∀ x:Int,k * (x * d)=s.den * (x * s.den):=λ x=>by
    calc k * (x * d) = x * (k * d) := by ac_rfl
      _=s.den * (x * s.den):=by rw[kd];ac_rfl
  unfold s38 zcS
  rw[e,zgi]
  simp only
  rw[zbW (x:=g.Low * d) (by omega) (by omega),zbW (x:=g.High * d) (by omega) (by omega),Bool.decide_and]
  congr 1
  · refine decide_eq_decide.2 ?_
    rw[<- zkT hk,key,kn,zkT hd]
  · refine decide_eq_decide.2 ?_
    rw[<- zkT hk,key,kn,zkT hd]
end Go.Proofs
namespace Go.Proofs
open Go Go.Pm
set_option maxRecDepth 100000
set_option linter.unusedVariables false
attribute [local irreducible] Go.Pm.vcFun Go.Pm.vc Go.Pm.vcIter
end Go.Proofs
namespace Go.Proofs
open Go Go.Pm
set_option maxRecDepth 100000
theorem zvo {c:Nat->Bool}{n:Nat} : fst c n < n↔∃ i,i < n/\c i=true:=by
 refine⟨λ h=>⟨_,h,zN4 h⟩,λ ⟨i,hi,hc⟩=>?_⟩
 rcases Nat.lt_or_ge (fst c n) n with h | h
 ·exact h
 ·have := zN3 (c := c) (n := n) (j := i) (by omega)
  rw[hc] at this;cases this
def zjX (g:Sl Gate):Prop:=∀ i,i < g.len->(g.get i).Z=(g.get 0).Z
def zqN (g:Sl Gate) (s:straight):Prop:=∀ i,i < g.len->zcS s (g.get i)=true
theorem zCb (g:Sl Gate) (G:zbE g):p49 ⟨g⟩=true/\(s49 ⟨g⟩=true↔zjX g):=by
  have hl:=G.2.2
  have hl1:=G.2.1
  have p75:∀ x,p75 ⟨g⟩ x=true:=λ x=>by
    unfold p75
    rw[dqT (show 0<=(0:Int)/\(0:Int) < ((⟨g⟩:list).Gates.len:Int) from ⟨by omega,by show (0:Int) < (g.len:Int);omega⟩)];rfl
  have := zve (c := s75 ⟨g⟩) (lpS := zoF ⟨g⟩) (lpP := zoG ⟨g⟩)
    (λ k s t i=>by
      show zoD ⟨g⟩ (zoF ⟨g⟩ k) s t i=_
      unfold zoD zrP;rfl)
    (λ k s t i=>by
      show zoE ⟨g⟩ (zoG ⟨g⟩ k) s t i=_
      unfold zoE zrQ
      rw[p75]
      simp only[decide_true,Bool.true_and])
    g (by omega)
  obtain⟨a,b⟩:=this
  have e:p89 ⟨g⟩ g=true:=a
  have f:s89 ⟨g⟩ g=_:=b
  unfold p49 s49 p74 s74
  show (decide ((decide (p89 ⟨g⟩ g=true) && true)=true) && true)=true/\((!decide (s89 ⟨g⟩ g >= 0))=true↔_)
  rw[e,f]
  refine⟨by simp,?_⟩
  rw[Bool.not_eq_true',decide_eq_false_iff_not]
  by_cases h:fst (λ i=>s75 ⟨g⟩ (g.get i)) g.len < g.len
  · rw [dqP h]
    obtain⟨i,hi,hc⟩:=zvo.1 h
    refine⟨λ k=>absurd (show ((fst (λ i=>s75 ⟨g⟩ (g.get i)) g.len:Nat):Int) >= 0 by omega) k,λ k=>?_⟩
    have hc:((g.get i).Z != (g.get 0).Z)=true:=hc
    rw[k i hi] at hc
    simp at hc
  · rw [dqG h]
    refine⟨λ _ i hi=>?_,λ _=>by omega⟩
    have:=mt zvo.2 h
    have hc : ¬ ((g.get i).Z != (g.get 0).Z)=true:=λ hc=>this ⟨i,hi,hc⟩
    simpa using hc
theorem zN9 (g:Sl Gate) (G:zbE g) (v:Sl straight){x:straight}(S:SOK x):p73 ⟨⟨g⟩,v⟩ x=true/\(s73 ⟨⟨g⟩,v⟩ x=true↔zqN g x):=by
  have hl:=G.2.2
  have := zve (c := s88 x) (lpS := zkJ x) (lpP := zkK x)
    (λ k s t i=>by
      show zkH x (zkJ x k) s t i=_
      unfold zkH zoH;rfl)
    (λ k s t i=>by
      show zkI x (zkK x k) s t i=_
      unfold zkI zoI;rfl)
    g (by omega)
  obtain⟨a,b⟩:=this
  have e:zLG x g=true:=a
  have f:zLF x g=_:=b
  unfold p73 s73 zOH zOG
  show (decide ((decide (zLG x g=true) && true)=true) && true)=true/\((!decide (zLF x g >= 0))=true↔_)
  rw[e,f]
  refine⟨by simp,?_⟩
  rw[Bool.not_eq_true',decide_eq_false_iff_not]
  by_cases h:fst (λ i=>s88 x (g.get i)) g.len < g.len
  · rw [dqP h]
    obtain⟨i,hi,hc⟩:=zvo.1 h
    refine⟨λ k=>absurd (show ((fst (λ i=>s88 x (g.get i)) g.len:Nat):Int) >= 0 by omega) k,λ k=>?_⟩
    have hc:(!(s57 x (g.get i)))=true:=hc
    rw[zpe S (G.1 i hi),k i hi] at hc
    cases hc
  · rw [dqG h]
    refine⟨λ _ i hi=>?_,λ _=>by omega⟩
    have:=mt zvo.2 h
    have hc : ¬ (!(s57 x (g.get i)))=true:=λ hc=>this ⟨i,hi,hc⟩
    rw[<- zpe S (G.1 i hi)]
    simpa using hc
theorem zOa {x:straight}(S:SOK x):p43 x=true/\s43 x=toL x:=by
 obtain⟨S1,S2,S3⟩:=S
 obtain⟨a1,a2⟩:=zFR (num:=x.slope) (den:=x.den) (by omega) (by omega) (by omega) (by omega)
 obtain⟨b1,b2⟩:=zFR (num:=x.start) (den:=x.den) (by omega) (by omega) (by omega) (by omega)
 unfold p43 s43 toL
 rw[a1,a2,b1,b2]
 exact⟨by simp,rfl⟩
-- the reference
end Go.Proofs
namespace Go.Proofs
open Go Go.Pm
set_option maxRecDepth 100000
def zm2 (l:Line):List Int:=[l.Slope.Num,l.Slope.Den,l.Start.Num,l.Start.Den]
theorem zCc {a b:Line}(h:zm2 a=zm2 b):a=b:=by
 unfold zm2 at h
 simp only[dqy,and_true] at h
 obtain⟨h1,h2,h3,h4⟩:=h
 obtain⟨⟨a1,a2⟩,a3,a4⟩:=a
 obtain⟨⟨b1,b2⟩,b3,b4⟩:=b
 simp only at h1 h2 h3 h4
 rw[h1,h2,h3,h4]
abbrev zkU {α:Type} [Inhabited α]:Sl α:=⟨0,λ _=>default⟩
theorem zkV {g:Sl Gate}(h:zjX g):cst g=[]:=by
 rcases List.eq_nil_or_concat (cst g) with e | ⟨l,x,e⟩
 ·exact e
 ·have : x ∈ cst g := by rw [e]; simp
  obtain⟨a,b,h1,h2,hz,_⟩:=zpd this
  exact absurd ((h a (by omega)).trans (h b h2).symm) hz
theorem zEc (g:Sl Gate):∀ m i,(zD8 g m i).length<=4 * g.len * m:=by
 intro m
 induction m with
 | zero=>intro i;exact dqt _
 | succ m ih =>
  intro i
  show (zvk g i (g.len - (i+1)) (i+1) ++ zD8 g m (i+1)).length<=_
  rw[dqu,Nat.mul_succ]
  have:=ih (i+1)
  have:=zEa g i (g.len - (i+1)) (i+1)
  omega
theorem ztN {g:Sl Gate}(G:zbE g):(cst g).length<=2304:=by
 have h1:=zEc g g.len 0
 have hl:=G.2.2
 have:4 * g.len * g.len<=4 * 24 * 24:=Nat.mul_le_mul (by omega) hl
 exact dqE h1 this
theorem zJ8 (g:Sl Gate) (G:zbE g):∀ (r acc:List straight) (n:Nat) (F:List Int->Option (List Int)),
    (∀ s∈r,SOK s)->acc.length+r.length<=10000->(∀ c,(zff (F c) 0 != 0)=true↔∃ x∈acc,zm2 (toL x)=c)->acc.Pairwise (λ x y=>toL x ≠ toL y) ->
    ∃ C:List straight,zlW g r (acc.foldl apL zkU) n F=true/\zlV g r (acc.foldl apL zkU) n F=⟨⟨g⟩,C.foldl apL zkU⟩ /\
      (∀ s∈C,s∈acc\/(s∈r/\zqN g s))/\(∀ s∈acc,s∈C)/\(∀ s∈r,zqN g s->∃ x∈C,toL x=toL s)/\C.Pairwise (λ x y=>toL x ≠ toL y):=by
  intro r
  induction r with
  | nil =>
    intro acc n F _ _ _ hp
    exact⟨acc,rfl,rfl,λ s h=>.inl h,λ s h=>h,(λ s h=>by cases h),hp⟩
  | cons y r ih =>
    intro acc n F hs hl hF hp
    have hs':∀ s∈r,SOK s:=λ s h=>hs s (dqf _ h)
    have Sy:=hs y dqj
    obtain⟨e1,e2⟩:=zOa Sy
    obtain⟨a1,a2⟩:=zN9 g G (acc.foldl apL zkU) Sy
    rw[dqr] at hl
    show ∃ C:List straight,zoL g y (zlW g r) (acc.foldl apL zkU) n F=true/\zoK g y (zlV g r) (acc.foldl apL zkU) n F=_/\_
    unfold zoL zoK
    rw[e1,e2,a1]
    have hcode:([(toL y).Slope.Num,(toL y).Slope.Den,(toL y).Start.Num,(toL y).Start.Den]:List Int)=zm2 (toL y):=rfl
    rw[hcode]
    have skip:(∃ C:List straight,zlW g r (acc.foldl apL zkU) n F=true/\zlV g r (acc.foldl apL zkU) n F=⟨⟨g⟩,C.foldl apL zkU⟩ /\
      (∀ s∈C,s∈acc\/(s∈r/\zqN g s))/\(∀ s∈acc,s∈C)/\(∀ s∈r,zqN g s->∃ x∈C,toL x=toL s)/\C.Pairwise (λ x y=>toL x ≠ toL y)):=ih acc n F hs' (by omega) hF hp
    by_cases h1:(zff (F (zm2 (toL y))) 0 != 0)=true
    · obtain ⟨C, c1, c2, c3, c4, c5, c6⟩ := skip
      rw[h1]
      refine⟨C,by simp only[decide_true,Bool.true_and,Bool.not_true,dqB];exact c1,by simp only[Bool.not_true,dqB];exact c2,λ s h=>(c3 s h).imp id λ k=>⟨dqf _ k.1,k.2⟩,c4,λ s h ha=>?_,c6⟩
      rcases dqq.1 h with rfl | h
      · obtain ⟨x, hx, hc⟩ := (hF _).1 h1
        exact⟨x,c4 x hx,zCc hc⟩
      · exact c5 s h ha
    · have h1' : (zff (F (zm2 (toL y))) 0 != 0) = false := by simpa using h1
      rw[h1']
      by_cases h2:s73 ⟨⟨g⟩,acc.foldl apL zkU⟩ y=true
      · rw [h2]
        have hlen:(acc.foldl apL zkU).len=acc.length:=by rw[ziS];simp
        have hfold:(⟨(acc.foldl apL zkU).len+1,zgv (acc.foldl apL zkU).len (acc.foldl apL zkU).get (λ _=>y)⟩:Sl straight)=(acc ++ [y]).foldl apL zkU:=by rw[List.foldl_append];rfl
        rw[hfold,hlen,dqT (show (acc.length+1) * 24<=140737488355328/\acc.length+1<=9223372036854775807 by omega)]
        obtain ⟨C, c1, c2, c3, c4, c5, c6⟩ := ih (acc ++ [y]) (addN (F (zm2 (toL y))) n) (zgA (zm2 (toL y)) [1] F) hs' (by rw [dqu]; simp only [dqr, dqL]; omega)
          (λ c=>by
            unfold zgA
            by_cases hc:c=zm2 (toL y)
            · rw [dqT hc]
              exact⟨λ _=>⟨y,by simp,hc.symm⟩,λ _=>rfl⟩
            · rw [dqF hc]
              refine (hF c).trans ⟨λ ⟨x,hx,e⟩=>⟨x,dqg.2 (.inl hx),e⟩,λ ⟨x,hx,e⟩=>?_⟩
              rcases dqg.1 hx with hx | hx
              · exact⟨x,hx,e⟩
              · rw[dqi.1 hx] at e;exact absurd e.symm hc)
          (by
            rw[List.pairwise_append]
            refine⟨hp,List.pairwise_singleton _ _,λ a ha b hb=>?_⟩
            rw[dqi.1 hb]
            exact λ e=>h1 ((hF _).2 ⟨a,ha,by rw[e]⟩))
        have hy:y∈C:=c4 y (by simp)
        refine⟨C,by simp only[decide_true,Bool.true_and,Bool.not_false,dqA];exact c1,by simp only[Bool.not_false,dqA];exact c2,λ s h=>?_,λ s h=>c4 s (dqg.2 (.inl h)),λ s h ha=>?_,c6⟩
        · rcases c3 s h with h | h
          · rcases dqg.1 h with h | h
            · exact .inl h
            · rw[dqi.1 h];exact .inr ⟨dqj,a2.1 h2⟩
          · exact .inr ⟨dqf _ h.1,h.2⟩
        · rcases dqq.1 h with rfl | h
          · exact⟨s,hy,rfl⟩
          · exact c5 s h ha
      · have h2' : s73 ⟨⟨g⟩, acc.foldl apL zkU⟩ y = false := by simpa using h2
        rw[h2']
        obtain⟨C,c1,c2,c3,c4,c5,c6⟩:=skip
        refine⟨C,by simp only[decide_true,Bool.true_and,Bool.not_false,dqA,dqB];exact c1,by simp only[Bool.not_false,dqA,dqB];exact c2,λ s h=>(c3 s h).imp id λ k=>⟨dqf _ k.1,k.2⟩,c4,λ s h ha=>?_,c6⟩
        rcases dqq.1 h with rfl | h
        · exact absurd (a2.2 ha) h2
        · exact c5 s h ha
theorem zEd (g:Sl Gate) (G:zbE g):∃ C:List straight,p47 g=true/\s47 g=⟨⟨g⟩,C.foldl apL zkU⟩/\(∀ s∈C,s∈cst g/\zqN g s)/\(∀ s∈cst g,zqN g s->∃ x∈C,toL x=toL s)/\C.Pairwise (λ x y=>toL x ≠ toL y):=by
 obtain⟨e1,e2⟩:=zCb g G
 obtain⟨f1,f2⟩:=zCa g G
 unfold p47 s47
 rw[e1]
 by_cases hf:zjX g
 ·rw [e2.2 hf]
  refine⟨[],rfl,rfl,(λ s h=>by cases h),λ s h=>?_,List.Pairwise.nil⟩
  rw[zkV hf] at h;cases h
 ·have : s49 ⟨g⟩ = false := by cases h : s49 ⟨g⟩; rfl; exact absurd (e2.1 h) hf
  rw[this]
  unfold zr0 zrZ zrY zrX zrW zrV
  rw[f1,f2]
  obtain⟨C,c1,c2,c3,_,c5,c6⟩:=zJ8 g G (cst g) [] 0 (λ _=>none) (λ s h=>zvn G h) (by have:=ztN G;simp only[dqL];omega) (λ c=>⟨λ h=>by simp[zff] at h,λ ⟨x,hx,_⟩=>by cases hx⟩) List.Pairwise.nil
  refine⟨C,by simp only[decide_true,Bool.true_and,dqB];exact c1,by simp only[dqB];exact c2,λ s h=>?_,c5,c6⟩
  rcases c3 s h with h | h
  ·cases h
  ·exact h
end Go.Proofs
namespace Go.Proofs
open Go Go.Pm
set_option maxRecDepth 100000
theorem ziT {σ : Type} {step : Nat → σ → σ} {Inv : Nat → σ → Prop} {n : Nat} (hI : ∀ i s, i < n → Inv i s → Inv (i + 1) (step i s)) :
    ∀ (m i:Nat) (s:σ),i+m=n->Inv i s->Inv n (zku step m i s):=by
  intro m
  induction m with
  | zero => intro i s h hs; have : i = n := by omega
            subst this;exact hs
  | succ m ih=>intro i s h hs;exact ih (i+1) (step i s) (by omega) (hI i s (by omega) hs)
def addI (l:Line) (zaa:Sl Gate) (i:Nat) (v:Sl Int):Sl Int:=cond (s38 l (zaa.get i)) (⟨v.len+1,zgv v.len v.get (λ _=>(i:Int))⟩:Sl Int) v
def zSp (l:Line) (zaa:Sl Gate):Sl Int:=zku (addI l zaa) zaa.len 0 (⟨0,λ _=>default⟩:Sl Int)
theorem zEe (l:Line) (zaa:Sl Gate) (i:Nat) (v:Sl Int) (h:v.len<=i):(addI l zaa i v).len<=i+1:=by
 unfold addI;cases s38 l (zaa.get i)
 ·exact Nat.le_succ_of_le h
 ·exact Nat.succ_le_succ h
theorem zOb (l:Line) (zaa:Sl Gate) (hn:zaa.len<=40):p14 l zaa=true/\s14 l zaa=zSp l zaa:=by
  have := ziR (σ := Sl Int) (step := addI l zaa) (E := id) (EP := fun _ => true) (Inv := fun i v => v.len ≤ i) (a := 0) (n := zaa.len) (lpS := fun k v i => zjJ l zaa k i v) (lpP := fun k v i => zjK l zaa k i v)
    (λ k i v _ hi _=>by
      show zjH l zaa (zjJ l zaa k) (i:Int) v=_
      generalize zjJ l zaa k=S
      unfold zjH ztz addI
      rw[dqT (show (i:Int) < (zaa.len:Int) by omega),dqA,dqN]
      cases s38 l (zaa.get i) <;> rfl)
    (λ k v=>by
      show zjH l zaa (zjJ l zaa k) (zaa.len:Int) v=_
      unfold zjH
      rw[dqF (show ¬ (zaa.len:Int) < (zaa.len:Int) by omega),dqB];rfl)
    (λ k i v _ hi hv=>by
      show zjI l zaa (zjK l zaa k) (i:Int) v=_
      generalize zjK l zaa k=S
      unfold zjI ztA addI
      rw[dqT (show (i:Int) < (zaa.len:Int) by omega),dqA,dqN,dqT (show 0<=(i:Int)/\(i:Int) < (zaa.len:Int) by omega),dqT (show (v.len+1) * 8<=140737488355328/\v.len+1<=9223372036854775807 by omega)]
      cases s38 l (zaa.get i) <;> rfl)
    (λ k v=>by
      show zjI l zaa (zjK l zaa k) (zaa.len:Int) v=_
      unfold zjI
      rw[dqF (show ¬ (zaa.len:Int) < (zaa.len:Int) by omega),dqB])
    (λ i v _ _ h=>zEe l zaa i v h) (Nat.zero_le _) (by omega) (⟨0,λ _=>default⟩:Sl Int) (dqt _)
  exact this
end Go.Proofs
namespace Go.Proofs
open Go Go.Pm
set_option maxRecDepth 100000
theorem zvp {z p y q:Int}(h:z ≠ y):plc (thr z p y q) z=p * (thr z p y q).den/\plc (thr z p y q) y=q * (thr z p y q).den:=by
 unfold thr plc
 split
 ·constructor
  ·show q * z - p * y + (p - q) * z = p * (z - y)
   rw[Int.sub_mul,Int.mul_sub];omega
  ·show q * z - p * y + (p - q) * y = q * (z - y)
   rw[Int.sub_mul,Int.mul_sub];omega
 ·constructor
  ·show p * y - q * z + (q - p) * z = p * (y - z)
   rw[Int.sub_mul,Int.mul_sub];omega
  ·show p * y - q * z + (q - p) * y = q * (y - z)
   rw[Int.sub_mul,Int.mul_sub];omega
theorem zjY {g:Sl Gate}{s:straight}(h:zqN g s){i:Nat}(hi:i < g.len):(g.get i).Low * s.den<=plc s (g.get i).Z/\plc s (g.get i).Z<=(g.get i).High * s.den:=of_decide_eq_true (h i hi)
def Cor (g:Sl Gate) (s:straight):Prop:=s∈cst g/\zqN g s
theorem znG {g : Sl Gate} {i b : Nat} {x : straight} (hx : x ∈ zwv (g.get i) (g.get b)) : ∀ m k, k ≤ b → b < k + m → x ∈ zvk g i m k
  | 0,k,h1,h2=>by omega
  | m+1,k,h1,h2=>by
    show x∈zwv (g.get i) (g.get k) ++ zvk g i m (k+1)
    by_cases h:k=b
    · rw[h];exact List.mem_append_left _ hx
    · exact List.mem_append_right _ (znG hx m (k+1) (by omega) (by omega))
theorem znH {g : Sl Gate} {a : Nat} {x : straight} (hx : x ∈ zvk g a (g.len - (a + 1)) (a + 1)) : ∀ m i, i ≤ a → a < i + m → x ∈ zD8 g m i
  | 0,i,h1,h2=>by omega
  | m+1,i,h1,h2=>by
    show x∈zvk g i (g.len - (i+1)) (i+1) ++ zD8 g m (i+1)
    by_cases h:i=a
    · rw[h];exact List.mem_append_left _ hx
    · exact List.mem_append_right _ (znH hx m (i+1) (by omega) (by omega))
theorem zEf {z p y q:Int}(h:z ≠ y):thr z p y q=thr y q z p:=by
 unfold thr
 by_cases h1:z > y
 ·rw[dqP h1,dqG (show ¬ y > z by omega)]
 ·rw[dqG h1,dqP (show y > z by omega)]
theorem zOc {g:Sl Gate}{a b:Nat}(ha:a < g.len) (hb:b < g.len) (hz:(g.get a).Z ≠ (g.get b).Z){p q:Int}(hp:p=(g.get a).Low\/p=(g.get a).High) (hq:q=(g.get b).Low\/q=(g.get b).High):thr (g.get a).Z p (g.get b).Z q∈cst g:=by
 have key:∀ {a b:Nat} {p q:Int},a < b->b < g.len->(g.get a).Z ≠ (g.get b).Z->(p=(g.get a).Low\/p=(g.get a).High)->(q=(g.get b).Low\/q=(g.get b).High)->thr (g.get a).Z p (g.get b).Z q∈cst g:=fun {a b p q} h1 h2 hz hp hq=>by
  refine znH (znG ?_ _ _ h1 (by omega)) _ 0 (Nat.zero_le _) (by omega)
  unfold zwv
  rw[dqG hz]
  rcases hp with rfl | rfl <;> rcases hq with rfl | rfl <;> simp
 rcases Nat.lt_or_ge a b with h | h
 ·exact key h hb hz hp hq
 ·have : a ≠ b := fun e => hz (by rw [e])
  rw[zEf hz]
  exact key (by omega) ha (Ne.symm hz) hq hp
theorem zjZ {Q : Nat → Prop} {le : Nat → Nat → Prop} (tot : ∀ i j, Q i → Q j → le i j ∨ le j i) (tr : ∀ i j k, Q i → Q j → Q k → le i j → le j k → le i k) : ∀ n, (∃ k, k < n ∧ Q k) → ∃ k, k < n ∧ Q k ∧ ∀ j, j < n → Q j → le j k
  | 0,⟨k,h,_⟩=>absurd h (dqW k)
  | n+1,hex=>by
    by_cases h:∃ k,k < n/\Q k
    · obtain ⟨k, hk, qk, hm⟩ := zjZ tot tr n h
      by_cases qn:Q n
      · rcases tot n k qn qk with h1 | h1
        · exact⟨k,by omega,qk,λ j hj qj=>by
            by_cases e:j=n
            · rw[e];exact h1
            · exact hm j (by omega) qj⟩
        · exact⟨n,by omega,qn,λ j hj qj=>by
            by_cases e:j=n
            · rw[e];rcases tot n n qn qn with h2 | h2 <;> exact h2
            · exact tr j k n qj qk qn (hm j (by omega) qj) h1⟩
      · exact⟨k,by omega,qk,λ j hj qj=>hm j (by
          have:j ≠ n:=λ e=>qn (e ▸ qj)
          omega) qj⟩
    · obtain ⟨k, hk, qk⟩ := hex
      have e:k=n:=by
        rcases Nat.lt_or_ge k n with h1 | h1
        · exact absurd ⟨k,h1,qk⟩ h
        · omega
      subst e
      exact⟨k,by omega,qk,λ j hj qj=>by
        by_cases e:j=k
        · rw[e];rcases tot k k qk qk with h2 | h2 <;> exact h2
        · exact absurd ⟨j,by omega,qj⟩ h⟩
def leS (a b:straight):Prop:=a.slope * b.den<=b.slope * a.den
theorem zvq {a b c:straight}(ha:0 < a.den) (hb:0 < b.den) (hc:0 < c.den) (h1:leS a b) (h2:leS b c):leS a c:=by
 unfold leS at *
 have y1:=Int.mul_le_mul_of_nonneg_right h1 (Int.le_of_lt hc)
 have y2:=Int.mul_le_mul_of_nonneg_right h2 (Int.le_of_lt ha)
 refine Int.le_of_mul_le_mul_right (a:=b.den) ?_ hb
 grind
def lcS (g:Sl Gate) (i:Nat) (p:Int) (k:Nat):straight:=thr (g.get i).Z p (g.get k).Z (if (g.get k).Z > (g.get i).Z then (g.get k).Low else (g.get k).High)
def ucS (g:Sl Gate) (i:Nat) (p:Int) (k:Nat):straight:=thr (g.get i).Z p (g.get k).Z (if (g.get k).Z > (g.get i).Z then (g.get k).High else (g.get k).Low)
theorem zpf {g:Sl Gate}{i k:Nat}{p:Int}{c:straight}(he:plc c (g.get i).Z=p * c.den) (hz:(g.get k).Z ≠ (g.get i).Z):zcS c (g.get k)=true↔leS (lcS g i p k) c/\leS c (ucS g i p k):=by
 unfold zcS leS lcS ucS thr
 rw[decide_eq_true_eq]
 unfold plc at *
 by_cases h:(g.get k).Z > (g.get i).Z
 ·simp only [dqP h, dqG (show ¬ (g.get i).Z > (g.get k).Z by omega)]
  constructor
  ·intro ⟨h1,h2⟩;constructor <;> grind
  ·intro ⟨h1,h2⟩;constructor <;> grind
 ·simp only [dqG h, dqP (show (g.get i).Z > (g.get k).Z by omega)]
  constructor
  ·intro ⟨h1,h2⟩;constructor <;> grind
  ·intro ⟨h1,h2⟩;constructor <;> grind
theorem zmL {z p y q:Int}(h:z ≠ y):0 < (thr z p y q).den:=by
 unfold thr
 by_cases h1:z > y
 ·rw[dqP h1];show 0 < z - y;omega
 ·rw[dqG h1];show 0 < y - z;omega
theorem zqO {g:Sl Gate}{i k:Nat}{p:Int}{s c:straight}(ps:0 < s.den) (pc:0 < c.den) (he:plc s (g.get i).Z=p * s.den) (hc:plc c (g.get i).Z=p * c.den) (hz:(g.get k).Z=(g.get i).Z) (h:zcS s (g.get k)=true):zcS c (g.get k)=true:=by
 unfold zcS at *
 rw[decide_eq_true_eq] at *
 rw[hz,he] at h
 rw[hz,hc]
 exact⟨Int.mul_le_mul_of_nonneg_right (Int.le_of_mul_le_mul_right h.1 ps) (Int.le_of_lt pc),Int.mul_le_mul_of_nonneg_right (Int.le_of_mul_le_mul_right h.2 ps) (Int.le_of_lt pc)⟩
theorem rot {g : Sl Gate} {s : straight} (hd : 0 < s.den) (ha : zqN g s) {i : Nat} (hi : i < g.len) {p : Int} (hp : p = (g.get i).Low ∨ p = (g.get i).High) (he : plc s (g.get i).Z = p * s.den) (hn : ∃ k, k < g.len ∧ (g.get k).Z ≠ (g.get i).Z) :
  (∃ c,Cor g c/\0 < c.den/\plc c (g.get i).Z=p * c.den/\leS c s)/\∃ c,Cor g c/\0 < c.den/\plc c (g.get i).Z=p * c.den/\leS s c:=by
 have ld:∀ k,(g.get k).Z ≠ (g.get i).Z->0 < (lcS g i p k).den:=λ k h=>zmL (Ne.symm h)
 have ud:∀ k,(g.get k).Z ≠ (g.get i).Z->0 < (ucS g i p k).den:=λ k h=>zmL (Ne.symm h)
 have le1:∀ k,(g.get k).Z ≠ (g.get i).Z->plc (lcS g i p k) (g.get i).Z=p * (lcS g i p k).den:=λ k h=>(zvp (Ne.symm h)).1
 have ue1:∀ k,(g.get k).Z ≠ (g.get i).Z->plc (ucS g i p k) (g.get i).Z=p * (ucS g i p k).den:=λ k h=>(zvp (Ne.symm h)).1
 have sp:∀ k,k < g.len->(g.get k).Z ≠ (g.get i).Z->leS (lcS g i p k) s/\leS s (ucS g i p k):=λ k hk hz=>(zpf he hz).1 (ha k hk)
 constructor
 ·obtain ⟨k, hk, qk, hm⟩ := zjZ (Q := fun k => (g.get k).Z ≠ (g.get i).Z) (le := fun a b => leS (lcS g i p a) (lcS g i p b)) (fun a b _ _ => Int.le_total _ _) (fun a b c ha hb hc h1 h2 => zvq (ld a ha) (ld b hb) (ld c hc) h1 h2) g.len hn
  refine⟨lcS g i p k,⟨zOc hi hk (Ne.symm qk) hp (by split <;> simp),λ j hj=>?_⟩,ld k qk,le1 k qk,(sp k hk qk).1⟩
  by_cases hz:(g.get j).Z=(g.get i).Z
  ·exact zqO hd (ld k qk) he (le1 k qk) hz (ha j hj)
  ·exact (zpf (le1 k qk) hz).2 ⟨hm j hj hz,zvq (ld k qk) hd (ud j hz) (sp k hk qk).1 (sp j hj hz).2⟩
 ·obtain ⟨k, hk, qk, hm⟩ := zjZ (Q := fun k => (g.get k).Z ≠ (g.get i).Z) (le := fun a b => leS (ucS g i p b) (ucS g i p a)) (fun a b _ _ => Int.le_total _ _) (fun a b c ha hb hc h1 h2 => zvq (ud c hc) (ud b hb) (ud a ha) h2 h1) g.len hn
  refine⟨ucS g i p k,⟨zOc hi hk (Ne.symm qk) hp (by split <;> simp),λ j hj=>?_⟩,ud k qk,ue1 k qk,(sp k hk qk).2⟩
  by_cases hz:(g.get j).Z=(g.get i).Z
  ·exact zqO hd (ud k qk) he (ue1 k qk) hz (ha j hj)
  ·exact (zpf (ue1 k qk) hz).2 ⟨zvq (ld j hz) hd (ud k qk) (sp j hj hz).1 (sp k hk qk).2,hm j hj hz⟩
theorem zOd {g:Sl Gate}(hl:1<=g.len){s:straight}(ha:zqN g s):∃ d,0<=d/\zqN g ⟨s.slope,s.start - d,s.den⟩/\∃ i,i < g.len/\plc ⟨s.slope,s.start - d,s.den⟩ (g.get i).Z=(g.get i).Low * s.den:=by
 obtain⟨k,hk,_,hm⟩:=zjZ (Q:=λ _=>True) (le:=λ a b=>plc s (g.get b).Z - (g.get b).Low * s.den<=plc s (g.get a).Z - (g.get a).Low * s.den) (λ a b _ _=>Int.le_total _ _) (λ a b c _ _ _ h1 h2=>Int.le_trans h2 h1) g.len ⟨0,hl,trivial⟩
 have hk2:=zjY ha hk
 refine⟨plc s (g.get k).Z - (g.get k).Low * s.den,by omega,λ j hj=>dqT ?_,k,hk,by unfold plc;simp only;omega⟩
 have h1:=hm j hj trivial
 have h2:=zjY ha hj
 unfold plc at *
 simp only
 omega
theorem zOe {g:Sl Gate}(hl:1<=g.len){s:straight}(ha:zqN g s):∃ d,0<=d/\zqN g ⟨s.slope,s.start+d,s.den⟩/\∃ i,i < g.len/\plc ⟨s.slope,s.start+d,s.den⟩ (g.get i).Z=(g.get i).High * s.den:=by
 obtain⟨k,hk,_,hm⟩:=zjZ (Q:=λ _=>True) (le:=λ a b=>(g.get b).High * s.den - plc s (g.get b).Z<=(g.get a).High * s.den - plc s (g.get a).Z) (λ a b _ _=>Int.le_total _ _) (λ a b c _ _ _ h1 h2=>Int.le_trans h2 h1) g.len ⟨0,hl,trivial⟩
 have hk2:=zjY ha hk
 refine⟨(g.get k).High * s.den - plc s (g.get k).Z,by omega,λ j hj=>dqT ?_,k,hk,by unfold plc;simp only;omega⟩
 have h1:=hm j hj trivial
 have h2:=zjY ha hj
 unfold plc at *
 simp only
 omega
theorem zpg {g:Sl Gate}(nf : ¬ zjX g) (i:Nat) (hi:i < g.len):∃ k,k < g.len/\(g.get k).Z ≠ (g.get i).Z:=by
 by_cases h:∃ k,k < g.len/\(g.get k).Z ≠ (g.get i).Z
 ·exact h
 ·have all : ∀ k, k < g.len → (g.get k).Z = (g.get i).Z := fun k hk => Classical.byContradiction fun e => h ⟨k, hk, e⟩
  exact absurd (λ k hk=>(all k hk).trans (all 0 (by omega)).symm) nf
theorem zCd {a b:straight}{z p h:Int}(ha:plc a z=p * a.den) (hb:plc b z=p * b.den) (hs:leS a b) (hh:z<=h):plc a h * b.den<=plc b h * a.den:=by
 have y:=Int.mul_le_mul_of_nonneg_right hs (show 0<=h - z by omega)
 unfold plc at *
 have e1:a.start=p * a.den - a.slope * z:=by omega
 have e2:b.start=p * b.den - b.slope * z:=by omega
 rw[e1,e2]
 clear ha hb hs e1 e2
 grind
theorem zCe {a b:straight}{z p h:Int}(ha:plc a z=p * a.den) (hb:plc b z=p * b.den) (hs:leS a b) (hh:h<=z):plc b h * a.den<=plc a h * b.den:=by
 have y:=Int.mul_le_mul_of_nonneg_right hs (show 0<=z - h by omega)
 unfold plc at *
 have e1:a.start=p * a.den - a.slope * z:=by omega
 have e2:b.start=p * b.den - b.slope * z:=by omega
 rw[e1,e2]
 clear ha hb hs e1 e2
 grind
theorem lp {g : Sl Gate} (hl : 1 ≤ g.len) (nf : ¬ zjX g) {s : straight} (hd : 0 < s.den) (ha : zqN g s) :
  (∀ h,(∃ c,Cor g c/\plc c h * s.den<=plc s h * c.den)/\∃ c,Cor g c/\plc s h * c.den<=plc c h * s.den)/\(∃ c,Cor g c/\leS c s)/\∃ c,Cor g c/\leS s c:=by
 obtain⟨d,d0,da,i,hi,di⟩:=zOd hl ha
 obtain⟨e,e0,ea,j,hj,ej⟩:=zOe hl ha
 obtain⟨⟨c1,c1c,c1d,c1p,c1s⟩,⟨c2,c2c,c2d,c2p,c2s⟩⟩:=rot (s:=⟨s.slope,s.start - d,s.den⟩) hd da hi (.inl rfl) di (zpg nf i hi)
 obtain⟨⟨f1,f1c,f1d,f1p,f1s⟩,⟨f2,f2c,f2d,f2p,f2s⟩⟩:=rot (s:=⟨s.slope,s.start+e,s.den⟩) hd ea hj (.inr rfl) ej (zpg nf j hj)
 have lo:∀ {c:straight} {h:Int},0 < c.den->plc c h * s.den<=plc ⟨s.slope,s.start - d,s.den⟩ h * c.den->plc c h * s.den<=plc s h * c.den:=fun {c h} pc k=>by
  have:=Int.mul_nonneg d0 (Int.le_of_lt pc)
  unfold plc at *
  simp only at k
  grind
 have hi':∀ {c:straight} {h:Int},0 < c.den->plc ⟨s.slope,s.start+e,s.den⟩ h * c.den<=plc c h * s.den->plc s h * c.den<=plc c h * s.den:=fun {c h} pc k=>by
  have:=Int.mul_nonneg e0 (Int.le_of_lt pc)
  unfold plc at *
  simp only at k
  grind
 refine⟨λ h=>⟨?_,?_⟩,⟨c1,c1c,c1s⟩,⟨c2,c2c,c2s⟩⟩
 ·rcases Int.le_total (g.get i).Z h with k | k
  ·exact⟨c1,c1c,lo c1d (zCd (b:=⟨s.slope,s.start - d,s.den⟩) c1p di c1s k)⟩
  ·exact⟨c2,c2c,lo c2d (zCe (a:=⟨s.slope,s.start - d,s.den⟩) di c2p c2s k)⟩
 ·rcases Int.le_total (g.get j).Z h with k | k
  ·exact⟨f2,f2c,hi' f2d (zCd (a:=⟨s.slope,s.start+e,s.den⟩) ej f2p f2s k)⟩
  ·exact⟨f1,f1c,hi' f1d (zCe (b:=⟨s.slope,s.start+e,s.den⟩) f1p ej f1s k)⟩
end Go.Proofs
namespace Go.Proofs
open Go Go.Pm
set_option maxRecDepth 100000
def cmS (g:Sl Gate) (i:Nat) (s:Int×Int):Int×Int:=(if (g.get i).Low > s.1 then (g.get i).Low else s.1,if (g.get i).High < s.2 then (g.get i).High else s.2)
def com (g:Sl Gate):Int×Int:=zku (cmS g) (g.len - 1) 1 ((g.get 0).Low,(g.get 0).High)
theorem zSq (g:Sl Gate) (h:1<=g.len):zku (cmS g) g.len 0 ((g.get 0).Low,(g.get 0).High)=com g:=by
 obtain⟨m,hm⟩:∃ m,g.len=m+1:=⟨g.len - 1,by omega⟩
 unfold com
 rw[hm]
 show zku (cmS g) m 1 (cmS g 0 ((g.get 0).Low,(g.get 0).High))=zku (cmS g) m 1 _
 have:cmS g 0 ((g.get 0).Low,(g.get 0).High)=((g.get 0).Low,(g.get 0).High):=by
  unfold cmS
  rw[dqG (by show ¬ (g.get 0).Low > (g.get 0).Low;omega),dqG (by show ¬ (g.get 0).High < (g.get 0).High;omega)]
 rw[this]
theorem zOf (g:Sl Gate) (G:zbE g):p69 ⟨g⟩=true/\s69 ⟨g⟩=⟨(com g).1,(com g).2⟩:=by
  have hl:=G.2
  have := ziR (σ := Int × Int) (step := cmS g) (E := fun s => (⟨s.1, s.2⟩ : Span)) (EP := fun _ => true) (Inv := fun _ _ => True) (a := 0) (n := g.len) (lpS := fun k s i => zji ⟨g⟩ k i s.1 s.2) (lpP := fun k s i => zjj ⟨g⟩ k i s.1 s.2)
    (λ k i s _ hi _=>by
      show zjg ⟨g⟩ (zji ⟨g⟩ k) (i:Int) s.1 s.2=_
      generalize zji ⟨g⟩ k=S
      unfold zjg
      rw[dqT (show (i:Int) < ((⟨g⟩:list).Gates.len:Int) by show (i:Int) < (g.len:Int);omega),dqA,dqN]
      rfl)
    (λ k s=>by
      show zjg ⟨g⟩ (zji ⟨g⟩ k) (g.len:Int) s.1 s.2=_
      unfold zjg
      rw[dqF (show ¬ (g.len:Int) < ((⟨g⟩:list).Gates.len:Int) by show ¬ (g.len:Int) < (g.len:Int);omega),dqB])
    (λ k i s _ hi _=>by
      show zjh ⟨g⟩ (zjj ⟨g⟩ k) (i:Int) s.1 s.2=_
      generalize zjj ⟨g⟩ k=S
      unfold zjh
      rw[dqT (show (i:Int) < ((⟨g⟩:list).Gates.len:Int) by show (i:Int) < (g.len:Int);omega),dqT (show 0<=(i:Int)/\(i:Int) < ((⟨g⟩:list).Gates.len:Int) by show 0<=(i:Int)/\(i:Int) < (g.len:Int);omega),dqA,Bool.true_and,dqN]
      rfl)
    (λ k s=>by
      show zjh ⟨g⟩ (zjj ⟨g⟩ k) (g.len:Int) s.1 s.2=_
      unfold zjh
      rw[dqF (show ¬ (g.len:Int) < ((⟨g⟩:list).Gates.len:Int) by show ¬ (g.len:Int) < (g.len:Int);omega),dqB])
    (λ _ _ _ _ _=>trivial) (Nat.zero_le _) (by omega) ((g.get 0).Low,(g.get 0).High) trivial
  obtain⟨a,b⟩:=this
  rw[show g.len - 0=g.len from rfl,zSq g hl.1] at b
  refine⟨?_,b⟩
  unfold p69
  rw[dqT (show 0<=(0:Int)/\(0:Int) < ((⟨g⟩:list).Gates.len:Int) from ⟨by omega,by show (0:Int) < (g.len:Int);omega⟩),Bool.true_and,Bool.true_and]
  exact a
end Go.Proofs
namespace Go.Proofs
open Go Go.Pm
set_option maxRecDepth 100000
def pkS (g:Sl Gate) (set:Sl Int) (i:Nat) (v:Sl Gate):Sl Gate:=apL v (g.get (set.get i).toNat)
def pick (g:Sl Gate) (set:Sl Int):Sl Gate:=zku (pkS g set) set.len 0 zkU
def inR (g:Sl Gate) (set:Sl Int):Prop:=∀ i,i < set.len->0<=set.get i/\set.get i < (g.len:Int)
theorem zvr {α:Type}(v:Sl α) (x:α) (i:Nat) (h:i < v.len):(apL v x).get i=v.get i:=by
 show zgv v.len v.get (λ _=>x) i=_
 unfold zgv
 rw[show Nat.ble v.len i=false by rw[<- Bool.not_eq_true,Nat.ble_eq];omega]
theorem zvs {α:Type}(v:Sl α) (x:α):(apL v x).get v.len=x:=by
 show zgv v.len v.get (λ _=>x) v.len=_
 unfold zgv
 rw[show Nat.ble v.len v.len=true by rw[Nat.ble_eq];omega]
theorem zEg (g:Sl Gate) (G:zbE g) (set:Sl Int) (h:inR g set):(pick g set).len=set.len/\∀ j,j < set.len->zgo ((pick g set).get j) :=
 ziT (Inv:=λ i (v:Sl Gate)=>v.len=i/\∀ j,j < i->zgo (v.get j)) (n:=set.len) (λ i v hi ⟨h1,h2⟩=>by
  refine⟨by show v.len+1=i+1;omega,λ j hj=>?_⟩
  show zgo ((apL v (g.get (set.get i).toNat)).get j)
  by_cases hji:j < v.len
  ·rw[zvr _ _ _ hji];exact h2 j (by omega)
  ·have : j = v.len := by omega
   rw[this,zvs]
   have:=h i hi
   exact G.1 _ (by omega)) set.len 0 zkU (by omega) ⟨rfl,λ j hj=>absurd hj (dqW _)⟩
theorem zCf (g:Sl Gate) (G:zbE g) (set:Sl Int) (h:inR g set) (h1:1<=set.len) (h2:set.len<=24):zbE (pick g set):=by
 obtain⟨a,b⟩:=zEg g G set h
 exact⟨λ i hi=>b i (by omega),by omega,by omega⟩
theorem zOg (g:Sl Gate) (set:Sl Int) (h:inR g set) (h2:set.len<=24):p19 g set=true/\s19 g set=pick g set:=by
  have := ziR (σ := Sl Gate) (step := pkS g set) (E := id) (EP := fun _ => true) (Inv := fun i (v : Sl Gate) => v.len = i) (a := 0) (n := set.len) (lpS := fun k v i => zjT g set k i v) (lpP := fun k v i => zjU g set k i v)
    (λ k i v _ hi _=>by
      show zjR g set (zjT g set k) (i:Int) v=_
      generalize zjT g set k=S
      unfold zjR
      rw[dqT (show (i:Int) < (set.len:Int) by omega),dqA,dqN]
      rfl)
    (λ k v=>by
      show zjR g set (zjT g set k) (set.len:Int) v=_
      unfold zjR
      rw[dqF (show ¬ (set.len:Int) < (set.len:Int) by omega),dqB];rfl)
    (λ k i v _ hi hv=>by
      show zjS g set (zjU g set k) (i:Int) v=_
      generalize zjU g set k=S
      unfold zjS
      rw[dqT (show (i:Int) < (set.len:Int) by omega),dqA,dqN,dqT (show 0<=(i:Int)/\(i:Int) < (set.len:Int) by omega),dqT (h i hi),dqT (show (v.len+1) * 24<=140737488355328/\v.len+1<=9223372036854775807 by omega)]
      rfl)
    (λ k v=>by
      show zjS g set (zjU g set k) (set.len:Int) v=_
      unfold zjS
      rw[dqF (show ¬ (set.len:Int) < (set.len:Int) by omega),dqB])
    (λ i v _ _ h=>by show v.len+1=i+1;omega) (Nat.zero_le _) (by omega) (zkU:Sl Gate) rfl
  exact this
def two (a b:Int):Sl Int:=⟨2,zb7 (zed [(zak a),(zak b)])⟩
def three (a b c:Int):Sl Int:=⟨3,zb7 (zed [(zak a),(zak b),(zak c)])⟩
theorem zFT {g:Sl Gate}{a b:Nat}(ha:a < g.len) (hb:b < g.len):inR g (two a b):=by
 intro i hi
 have hi:i < 2:=hi
 match i,hi with
 | 0,_=>show 0<=(a:Int)/\(a:Int) < _;omega
 | 1,_=>show 0<=(b:Int)/\(b:Int) < _;omega
theorem zvt {g:Sl Gate}{a b c:Nat}(ha:a < g.len) (hb:b < g.len) (hc:c < g.len):inR g (three a b c):=by
 intro i hi
 have hi:i < 3:=hi
 match i,hi with
 | 0,_=>show 0<=(a:Int)/\(a:Int) < _;omega
 | 1,_=>show 0<=(b:Int)/\(b:Int) < _;omega
 | 2,_=>show 0<=(c:Int)/\(c:Int) < _;omega
section loops
variable (g:Sl Gate) (G:zbE g)
include G
end loops
end Go.Proofs
namespace Go.Proofs
open Go Go.Pm
set_option maxRecDepth 100000
theorem zOh {g:Sl Gate}(G:zbE g):(∀ i,i < g.len->(g.get i).Low<=(com g).1/\(com g).2<=(g.get i).High)/\(∃ i,i < g.len/\(com g).1=(g.get i).Low)/\∃ i,i < g.len/\(com g).2=(g.get i).High:=by
 have hl:=G.2
 have:=ziT (step:=cmS g) (n:=g.len) (Inv:=λ n (s:Int×Int)=>(∀ i,i < n->(g.get i).Low<=s.1/\s.2<=(g.get i).High)/\(∃ i,i < g.len/\s.1=(g.get i).Low)/\∃ i,i < g.len/\s.2=(g.get i).High) (λ i s hi ⟨h1,h2,h3⟩=>by
  unfold cmS
  refine⟨λ j hj=>?_,?_,?_⟩
  ·show (g.get j).Low ≤ (if (g.get i).Low > s.1 then (g.get i).Low else s.1) ∧ (if (g.get i).High < s.2 then (g.get i).High else s.2) ≤ (g.get j).High
   by_cases e:j=i
   ·rw[e];constructor <;> split <;> omega
   ·have := h1 j (by omega)
    constructor <;> split <;> omega
  ·show ∃ k, k < g.len ∧ (if (g.get i).Low > s.1 then (g.get i).Low else s.1) = _
   split
   ·exact⟨i,hi,rfl⟩
   ·exact h2
  ·show ∃ k, k < g.len ∧ (if (g.get i).High < s.2 then (g.get i).High else s.2) = _
   split
   ·exact⟨i,hi,rfl⟩
   ·exact h3) (g.len - 1) 1 ((g.get 0).Low,(g.get 0).High) (by omega) ⟨λ i hi=>by rw[show i=0 by omega];exact⟨Int.le_refl _,Int.le_refl _⟩,⟨0,by omega,rfl⟩,0,by omega,rfl⟩
 exact this
theorem zvu (g:Sl Gate) (set:Sl Int):(pick g set).len=set.len/\∀ j,j < set.len->(pick g set).get j=g.get (set.get j).toNat :=
 ziT (Inv:=λ i (v:Sl Gate)=>v.len=i/\∀ j,j < i->v.get j=g.get (set.get j).toNat) (n:=set.len) (λ i v _ ⟨h1,h2⟩=>by
  refine⟨by show v.len+1=i+1;omega,λ j hj=>?_⟩
  show (apL v (g.get (set.get i).toNat)).get j=_
  by_cases h:j < v.len
  ·rw[zvr _ _ _ h];exact h2 j (by omega)
  ·have e : j = v.len := by omega
   rw[e,zvs,h1]) set.len 0 zkU (by omega) ⟨rfl,λ j hj=>absurd hj (dqW _)⟩
def adS (a b:straight):straight:=⟨a.slope+b.slope,a.start+b.start,a.den+b.den⟩
def smS (k:Int) (a:straight):straight:=⟨k * a.slope,k * a.start,k * a.den⟩
structure Cone (K : straight → Prop) : Prop where
  zero:K ⟨0,0,0⟩
  add:∀ {a b},K a->K b->K (adS a b)
  mul:∀ {k a},0<=k->K a->K (smS k a)
theorem zCg (g:Gate):Cone (λ s=>zcS s g=true):=by
 refine⟨dqT (by unfold plc;simp only;omega),fun {a b} ha hb=>dqT ?_,fun {k a} hk ha=>dqT ?_⟩
 ·have ha := of_decide_eq_true ha
  have hb:=of_decide_eq_true hb
  unfold plc adS at *
  simp only
  constructor <;> grind
 ·obtain ⟨h1, h2⟩ := of_decide_eq_true ha
  have x1:=Int.mul_le_mul_of_nonneg_left h1 hk
  have x2:=Int.mul_le_mul_of_nonneg_left h2 hk
  unfold plc smS at *
  simp only
  constructor <;> grind
theorem zEh {K L:straight->Prop}(hK:Cone K) (hL:Cone L):Cone (λ s=>K s/\L s) :=
 ⟨⟨hK.zero,hL.zero⟩,λ a b=>⟨hK.add a.1 b.1,hL.add a.2 b.2⟩,λ k a=>⟨hK.mul k a.1,hL.mul k a.2⟩⟩
def pos (x:Int):Int:=if 0 < x then x else 0
theorem zqP (x:Int):0<=pos x:=by unfold pos;split <;> omega
theorem zkW (x:Int):pos x - pos (-x)=x:=by unfold pos;split <;> split <;> omega
theorem zEi {x:Int}(h:x<=0):pos x=0:=by unfold pos;rw[dqG (by omega)]
theorem zSr (x1 y1 x2 y2 x3 y3:Int):∃ c1 c2 c3:Int,(c1 ≠ 0\/c2 ≠ 0\/c3 ≠ 0)/\c1 * x1+c2 * x2+c3 * x3=0/\c1 * y1+c2 * y2+c3 * y3=0:=by
 by_cases h:x1 * y2 - x2 * y1=0
 ·by_cases hx : x1 = 0 ∧ x2 = 0
  ·by_cases hy : y1 = 0 ∧ y2 = 0
   ·exact⟨1,0,0,.inl (by decide),by rw[hx.1];omega,by rw[hy.1];omega⟩
   ·exact⟨y2,-y1,0,by omega,by rw[hx.1,hx.2];omega,by grind⟩
  ·exact⟨x2,-x1,0,by omega,by grind,by grind⟩
 ·exact⟨x2 * y3 - x3 * y2,x3 * y1 - x1 * y3,x1 * y2 - x2 * y1,.inr (.inr h),by grind,by grind⟩
theorem zSs {a b c d:straight}(hd:0 < d.den):∃ k1 k2 k3 k4:Int,(k1 ≠ 0\/k2 ≠ 0\/k3 ≠ 0\/k4 ≠ 0)/\k1 * a.slope+k2 * b.slope+k3 * c.slope+k4 * d.slope=0/\k1 * a.start+k2 * b.start+k3 * c.start+k4 * d.start=0/\k1 * a.den+k2 * b.den+k3 * c.den+k4 * d.den=0:=by
 obtain⟨c1,c2,c3,hc,e1,e2⟩:=zSr (d.den * a.slope - a.den * d.slope) (d.den * a.start - a.den * d.start) (d.den * b.slope - b.den * d.slope) (d.den * b.start - b.den * d.start) (d.den * c.slope - c.den * d.slope) (d.den * c.start - c.den * d.start)
 refine⟨c1 * d.den,c2 * d.den,c3 * d.den,-(c1 * a.den+c2 * b.den+c3 * c.den),?_,by grind,by grind,by grind⟩
 rcases hc with h | h | h
 ·exact .inl (Int.mul_ne_zero h (by omega))
 ·exact .inr (.inl (Int.mul_ne_zero h (by omega)))
 ·exact .inr (.inr (.inl (Int.mul_ne_zero h (by omega))))
def zKs (k1 k2 k3 k4:Int) (a b c d:straight):straight:=adS (adS (smS k1 a) (smS k2 b)) (adS (smS k3 c) (smS k4 d))
theorem zJ9 (a:straight):smS 0 a=⟨0,0,0⟩:=by unfold smS;simp
theorem zQE {A B C D : straight → Prop} (hA : Cone A) (hB : Cone B) (hC : Cone C) (hD : Cone D) {a b c d : straight} (pa : 0 < a.den) (pb : 0 < b.den) (pc : 0 < c.den) (pd : 0 < d.den)
    (ha:B a/\C a/\D a) (hb:A b/\C b/\D b) (hc:A c/\B c/\D c) (hd:A d/\B d/\C d):∃ w,0 < w.den/\A w/\B w/\C w/\D w:=by
  obtain⟨k1,k2,k3,k4,hk,e1,e2,e3⟩:=zSs (a:=a) (b:=b) (c:=c) pd
  have same:zKs (pos k1) (pos k2) (pos k3) (pos k4) a b c d=zKs (pos (-k1)) (pos (-k2)) (pos (-k3)) (pos (-k4)) a b c d:=by
    have d1:=zkW k1;have d2:=zkW k2;have d3:=zkW k3;have d4:=zkW k4
    generalize pos k1=p1 at *;generalize pos k2=p2 at *;generalize pos k3=p3 at *;generalize pos k4=p4 at *
    generalize pos (-k1)=q1 at *;generalize pos (-k2)=q2 at *;generalize pos (-k3)=q3 at *;generalize pos (-k4)=q4 at *
    subst d1 d2 d3 d4
    unfold zKs adS smS
    simp only[straight.mk.injEq]
    refine⟨?_,?_,?_⟩ <;> grind
  have put:∀ {K:straight->Prop} (hK:Cone K) (x:Int) (v:straight),(0 < x->K v)->K (smS (pos x) v):=fun {K} hK x v h=>by
    by_cases hx:0 < x
    · exact hK.mul (zqP x) (h hx)
    · rw[zEi (by omega),zJ9];exact hK.zero
  have mem:∀ {K:straight->Prop} (hK:Cone K),(0 < k1->K a)->(0 < k2->K b)->(0 < k3->K c)->(0 < k4->K d)->K (zKs (pos k1) (pos k2) (pos k3) (pos k4) a b c d):=fun {K} hK h1 h2 h3 h4 =>
    hK.add (hK.add (put hK k1 a h1) (put hK k2 b h2)) (hK.add (put hK k3 c h3) (put hK k4 d h4))
  have mem':∀ {K:straight->Prop} (hK:Cone K),(0 < -k1->K a)->(0 < -k2->K b)->(0 < -k3->K c)->(0 < -k4->K d)->K (zKs (pos k1) (pos k2) (pos k3) (pos k4) a b c d):=fun {K} hK h1 h2 h3 h4=>by
    rw[same]
    exact hK.add (hK.add (put hK (-k1) a h1) (put hK (-k2) b h2)) (hK.add (put hK (-k3) c h3) (put hK (-k4) d h4))
  refine⟨zKs (pos k1) (pos k2) (pos k3) (pos k4) a b c d,?_,?_,?_,?_,?_⟩
  · have n1 := Int.mul_nonneg (zqP k1) (Int.le_of_lt pa)
    have n2:=Int.mul_nonneg (zqP k2) (Int.le_of_lt pb)
    have n3:=Int.mul_nonneg (zqP k3) (Int.le_of_lt pc)
    have n4:=Int.mul_nonneg (zqP k4) (Int.le_of_lt pd)
    have one:∀ {x y:Int},0 < y->(0 < x->0 < pos x * y)/\(x<=0->x * y<=0)/\(x < 0->x * y < 0):=fun {x y} hy=>⟨λ h=>by
      have:pos x=x:=by unfold pos;rw[dqP h]
      rw[this];exact Int.mul_pos h hy,λ h=>Int.mul_nonpos_of_nonpos_of_nonneg h (Int.le_of_lt hy),λ h=>Int.mul_neg_of_neg_of_pos h hy⟩
    show 0 < (pos k1 * a.den+pos k2 * b.den)+(pos k3 * c.den+pos k4 * d.den)
    obtain⟨a1,a2,a3⟩:=one (x:=k1) pa
    obtain⟨b1,b2,b3⟩:=one (x:=k2) pb
    obtain⟨c1,c2,c3⟩:=one (x:=k3) pc
    obtain⟨d1,d2,d3⟩:=one (x:=k4) pd
    by_cases p1:0 < k1
    · have:=a1 p1;omega
    by_cases p2:0 < k2
    · have:=b1 p2;omega
    by_cases p3:0 < k3
    · have:=c1 p3;omega
    by_cases p4:0 < k4
    · have:=d1 p4;omega
    have:=a2 (by omega);have:=b2 (by omega);have:=c2 (by omega);have:=d2 (by omega)
    by_cases q1:k1 < 0
    · have:=a3 q1;omega
    by_cases q2:k2 < 0
    · have:=b3 q2;omega
    by_cases q3:k3 < 0
    · have:=c3 q3;omega
    by_cases q4:k4 < 0
    · have:=d3 q4;omega
    omega
  · by_cases h : 0 < k1
    · exact mem' hA (λ k=>absurd k (by omega)) (λ _=>hb.1) (λ _=>hc.1) (λ _=>hd.1)
    · exact mem hA (λ k=>absurd k h) (λ _=>hb.1) (λ _=>hc.1) (λ _=>hd.1)
  · by_cases h : 0 < k2
    · exact mem' hB (λ _=>ha.1) (λ k=>absurd k (by omega)) (λ _=>hc.2.1) (λ _=>hd.2.1)
    · exact mem hB (λ _=>ha.1) (λ k=>absurd k h) (λ _=>hc.2.1) (λ _=>hd.2.1)
  · by_cases h : 0 < k3
    · exact mem' hC (λ _=>ha.2.1) (λ _=>hb.2.1) (λ k=>absurd k (by omega)) (λ _=>hd.2.2)
    · exact mem hC (λ _=>ha.2.1) (λ _=>hb.2.1) (λ k=>absurd k h) (λ _=>hd.2.2)
  · by_cases h : 0 < k4
    · exact mem' hD (λ _=>ha.2.2) (λ _=>hb.2.2) (λ _=>hc.2.2) (λ k=>absurd k (by omega))
    · exact mem hD (λ _=>ha.2.2) (λ _=>hb.2.2) (λ _=>hc.2.2) (λ k=>absurd k h)
theorem zOi : ∀ (n : Nat) (K : Nat → straight → Prop), (∀ i, Cone (K i)) → (∀ i j k, i < n → j < n → k < n → ∃ s, 0 < s.den ∧ K i s ∧ K j s ∧ K k s) → ∃ s, 0 < s.den ∧ ∀ i, i < n → K i s
  | 0,_,_,_=>⟨⟨0,0,1⟩,by show (0:Int) < 1;omega,λ i hi=>absurd hi (dqW i)⟩
  | n+1,K,hK,h=>by
    obtain⟨s,hd,hs⟩:=zOi n (λ i s=>K i s/\K n s) (λ i=>zEh (hK i) (hK n)) λ i j k hi hj hk=>by
      obtain⟨a,pa,a1,a2,a3⟩:=h j k n (by omega) (by omega) (by omega)
      obtain⟨b,pb,b1,b2,b3⟩:=h i k n (by omega) (by omega) (by omega)
      obtain⟨c,pc,c1,c2,c3⟩:=h i j n (by omega) (by omega) (by omega)
      obtain⟨d,pd,d1,d2,d3⟩:=h i j k (by omega) (by omega) (by omega)
      obtain⟨w,pw,w1,w2,w3,w4⟩:=zQE (hK i) (hK j) (hK k) (hK n) pa pb pc pd ⟨a1,a2,a3⟩ ⟨b1,b2,b3⟩ ⟨c1,c2,c3⟩ ⟨d1,d2,d3⟩
      exact⟨w,pw,⟨w1,w4⟩,⟨w2,w4⟩,w3,w4⟩
    rcases Nat.eq_zero_or_pos n with e | e
    · subst e
      obtain⟨t,pt,t1,_⟩:=h 0 0 0 (by omega) (by omega) (by omega)
      exact⟨t,pt,λ i hi=>by rw[show i=0 by omega];exact t1⟩
    · exact⟨s,hd,λ i hi=>by
        by_cases k:i=n
        · rw[k];exact (hs 0 e).2
        · exact (hs i (by omega)).1⟩
end Go.Proofs
namespace Go.Proofs
open Go Go.Pm
set_option maxRecDepth 100000
set_option linter.unusedVariables false
def Agr (g:Sl Gate):Prop:=∃ s:straight,0 < s.den/\zqN g s
theorem zww (g:Sl Gate) (G:zbE g):p47 g=true/\p48 (s47 g)=true/\(s48 (s47 g)=true↔Agr g):=by
 obtain⟨C,c1,c2,c3,c4,_⟩:=zEd g G
 obtain⟨a1,a2⟩:=zCb g G
 obtain⟨b1,b2⟩:=zOf g G
 have hcl:(C.foldl apL (zkU:Sl straight)).len=C.length:=by rw[ziS];simp
 rw[c2]
 unfold p48 s48
 refine⟨c1,?_⟩
 show (decide (p69 ⟨g⟩=true) && (decide (p49 ⟨g⟩=true) && true))=true/\(cond (s49 ⟨g⟩) (decide ((s69 ⟨g⟩).Low<=(s69 ⟨g⟩).High)) (decide (((C.foldl apL (zkU:Sl straight)).len:Int) > 0))=true↔_)
 rw[a1,b1,b2,hcl]
 refine⟨by simp,?_⟩
 cases hf:s49 (⟨g⟩:list)
 ·have nf : ¬ zjX g := fun h => by rw [a2.2 h] at hf; cases hf
  rw[dqB,decide_eq_true_eq]
  constructor
  ·intro h
   obtain⟨x,hx⟩:=List.exists_mem_of_length_pos (l:=C) (by omega)
   exact⟨x,by have:=(zvn G (c3 x hx).1).2.2;omega,(c3 x hx).2⟩
  ·rintro ⟨s, hd, ha⟩
   obtain⟨_,⟨c,hc,_⟩,_⟩:=lp G.2.1 nf hd ha
   obtain⟨x,hx,_⟩:=c4 c hc.1 hc.2
   have:=List.length_pos_of_mem hx
   omega
 ·have fl := a2.1 hf
  obtain⟨d1,⟨i,hi,d2⟩,⟨j,hj,d3⟩⟩:=zOh G
  rw[dqA,decide_eq_true_eq]
  constructor
  ·intro h
   refine⟨⟨0,(com g).1,1⟩,by show (0:Int) < 1;omega,λ k hk=>dqT ?_⟩
   have:=d1 k hk
   unfold plc;simp only at h ⊢;omega
  ·intro ⟨s, hd, ha⟩
   have a:=(zjY ha hi).1
   have b:=(zjY ha hj).2
   rw[fl i hi] at a
   rw[fl j hj] at b
   show (com g).1<=(com g).2
   rw[d2,d3]
   exact Int.le_of_mul_le_mul_right (Int.le_trans a b) hd
theorem zCh (g:Sl Gate) (G:zbE g) (set:Sl Int) (h:inR g set) (h1:1<=set.len) (h2:set.len<=24):p39 g set=true/\(s39 g set=true↔Agr (pick g set)):=by
  have K:=zCf g G set h h1 h2
  obtain⟨q0,q1,q2⟩:=zww _ K
  have := ziR (σ := Sl Gate) (step := pkS g set) (E := fun v => s48 (s47 v)) (EP := fun v => decide (p47 v = true) && (decide (p48 (s47 v) = true) && true)) (Inv := fun i (v : Sl Gate) => v.len = i) (a := 0) (n := set.len) (lpS := fun k v i => zjm g set k i v) (lpP := fun k v i => zjn g set k i v)
    (λ k i v _ hi _=>by
      show zjk g set (zjm g set k) (i:Int) v=_
      generalize zjm g set k=S
      unfold zjk
      rw[dqT (show (i:Int) < (set.len:Int) by omega),dqA,dqN]
      rfl)
    (λ k v=>by
      show zjk g set (zjm g set k) (set.len:Int) v=_
      unfold zjk
      rw[dqF (show ¬ (set.len:Int) < (set.len:Int) by omega),dqB])
    (λ k i v _ hi hv=>by
      show zjl g set (zjn g set k) (i:Int) v=_
      generalize zjn g set k=S
      unfold zjl
      rw[dqT (show (i:Int) < (set.len:Int) by omega),dqA,dqN,dqT (show 0<=(i:Int)/\(i:Int) < (set.len:Int) by omega),dqT (h i hi),dqT (show (v.len+1) * 24<=140737488355328/\v.len+1<=9223372036854775807 by omega)]
      simp only[Bool.true_and]
      rfl)
    (λ k v=>by
      show zjl g set (zjn g set k) (set.len:Int) v=_
      unfold zjl
      rw[dqF (show ¬ (set.len:Int) < (set.len:Int) by omega),dqB])
    (λ i v _ _ h=>by show v.len+1=i+1;omega) (Nat.zero_le _) (by omega) (zkU:Sl Gate) rfl
  obtain⟨a,b⟩:=this
  have a:p39 g set=(decide (p47 (pick g set)=true) && (decide (p48 (s47 (pick g set))=true) && true)):=a
  have b:s39 g set=s48 (s47 (pick g set)):=b
  rw[q0,q1] at a
  exact⟨by rw[a];simp,by rw[b];exact q2⟩
/-! Empty -/
def zOj (b:Bool) (r:Sl Int×Int) (bad:Prop) (P:Bool) (S:Sl Int×Int):Prop:=(bad/\b=true/\r.2=0)\/(¬ bad/\b=P/\r=S)
def zFU (g:Sl Gate) (i j k:Nat):Prop:=s39 g (three i j k)=false
def zKa (g:Sl Gate) (i j:Nat):Prop:=s39 g (two i j)=false
section
variable {g:Sl Gate}(G:zbE g)
include G
theorem zQF {a b:Nat}(ha:a < g.len) (hb:b < g.len):p39 g (two a b)=true:=(zCh g G _ (zFT ha hb) (by decide:1<=2) (by decide:2<=24)).1
theorem zKb {a b c:Nat}(ha:a < g.len) (hb:b < g.len) (hc:c < g.len):p39 g (three a b c)=true:=(zCh g G _ (zvt ha hb hc) (by decide:1<=3) (by decide:3<=24)).1
theorem em8 (i j:Nat) (hi:i < g.len) (hj:j < g.len) (S6:Int->Sl Int×Int) (S7:Int->Int->Int->Sl Int×Int) (P6:Int->Bool) (P7:Int->Int->Int->Bool) (t:Int):∀ (m k c:Nat),c+m=g.len->m < k ->
  zOj (zf3 P6 P7 g k (i:Int) (j:Int) (c:Int) t) (zf2 S6 S7 g k (i:Int) (j:Int) (c:Int) t) (∃ x,c<=x/\x < g.len/\zFU g i j x) (P7 (i:Int) ((j+1:Nat):Int) t) (S7 (i:Int) ((j+1:Nat):Int) t)
 | _,0,_,_,h=>absurd h (dqW _)
 | 0,k+1,c,hc,_=>by
  have hl:=G.2.2
  refine .inr ⟨λ ⟨x,h1,h2,_⟩=>by omega,?_,?_⟩
  ·show zjq P6 P7 g (zf3 P6 P7 g k) _ _ _ _ = _
   unfold zjq
   rw[dqF (show ¬ (c:Int) < (g.len:Int) by omega),dqB,za6 (n:=g.len) hj (by omega)]
  ·show zjo S6 S7 g (zf2 S6 S7 g k) _ _ _ _ = _
   unfold zjo
   rw[dqF (show ¬ (c:Int) < (g.len:Int) by omega),dqB,za6 (n:=g.len) hj (by omega)]
 | m+1,k+1,c,hc,hk=>by
  have hl:=G.2.2
  have hcl:c < g.len:=by omega
  have ih:=em8 i j hi hj S6 S7 P6 P7 t m k (c+1) (by omega) (by omega)
  have e1:zf3 P6 P7 g (k+1) (i:Int) (j:Int) (c:Int) t=cond (!(s39 g (three i j c))) true (zf3 P6 P7 g k (i:Int) (j:Int) ((c+1:Nat):Int) t):=by
   show zjq P6 P7 g (zf3 P6 P7 g k) _ _ _ _=_
   generalize zf3 P6 P7 g k=P
   unfold zjq zr7
   rw[dqT (show (c:Int) < (g.len:Int) by omega),dqA,za6 (n:=g.len) hcl (by omega)]
   show (decide (p39 g (three i j c)=true) && _)=_
   rw[zKb G hi hj hcl];rfl
  have e2:zf2 S6 S7 g (k+1) (i:Int) (j:Int) (c:Int) t=cond (!(s39 g (three i j c))) (⟨3,zkk (i:Int) [(i:Int),(j:Int),(c:Int)]⟩,0) (zf2 S6 S7 g k (i:Int) (j:Int) ((c+1:Nat):Int) t):=by
   show zjo S6 S7 g (zf2 S6 S7 g k) _ _ _ _=_
   generalize zf2 S6 S7 g k=S
   unfold zjo zr6
   rw[dqT (show (c:Int) < (g.len:Int) by omega),dqA,za6 (n:=g.len) hcl (by omega)];rfl
  rw[e1,e2]
  cases hb:s39 g (three (i:Int) (j:Int) (c:Int))
  ·exact .inl ⟨⟨c,dqt _,hcl,hb⟩,rfl,rfl⟩
  ·rcases ih with ⟨⟨x, h1, h2, h3⟩, r⟩ | ⟨hn, r⟩
   ·exact .inl ⟨⟨x,by omega,h2,h3⟩,r⟩
   ·refine .inr ⟨fun ⟨x, h1, h2, h3⟩ => ?_, r⟩
    by_cases e:x=c
    ·subst e;unfold zFU at h3;rw[hb] at h3;cases h3
    ·exact hn ⟨x,by omega,h2,h3⟩
theorem em7 (i:Nat) (hi:i < g.len) (S6:Int->Sl Int×Int) (P6:Int->Bool):∀ (m k j:Nat),j+m=g.len->m < k ->
  zOj (zfk P6 g k (i:Int) (j:Int) (i:Int)) (zfj S6 g k (i:Int) (j:Int) (i:Int)) (∃ y,j<=y/\y < g.len/\∃ x,y+1<=x/\x < g.len/\zFU g i y x) (P6 ((i+1:Nat):Int)) (S6 ((i+1:Nat):Int))
 | _,0,_,_,h=>absurd h (dqW _)
 | 0,k+1,j,hc,_=>by
  have hl:=G.2.2
  refine .inr ⟨λ ⟨x,h1,h2,_⟩=>by omega,?_,?_⟩
  ·show zjs P6 g (zfk P6 g k) _ _ _ = _
   unfold zjs
   rw[dqF (show ¬ (j:Int) < (g.len:Int) by omega),dqB,za6 (n:=g.len) hi (by omega)]
  ·show zjr S6 g (zfj S6 g k) _ _ _ = _
   unfold zjr
   rw[dqF (show ¬ (j:Int) < (g.len:Int) by omega),dqB,za6 (n:=g.len) hi (by omega)]
 | m+1,k+1,j,hc,hk=>by
  have hl:=G.2.2
  have hjl:j < g.len:=by omega
  have ih:=em7 i hi S6 P6 m k (j+1) (by omega) (by omega)
  have E:=em8 G i j hi hjl S6 (zfj S6 g k) P6 (zfk P6 g k) (i:Int) (g.len - (j+1)) Fuel (j+1) (by omega) (by simp only[Fuel];omega)
  have e1:zfk P6 g (k+1) (i:Int) (j:Int) (i:Int)=zf3 P6 (zfk P6 g k) g Fuel (i:Int) (j:Int) ((j+1:Nat):Int) (i:Int):=by
   show zjs P6 g (zfk P6 g k) _ _ _=_
   generalize zfk P6 g k=P
   unfold zjs zr9
   rw[dqT (show (j:Int) < (g.len:Int) by omega),dqA,za6 (n:=g.len) hjl (by omega)]
  have e2:zfj S6 g (k+1) (i:Int) (j:Int) (i:Int)=zf2 S6 (zfj S6 g k) g Fuel (i:Int) (j:Int) ((j+1:Nat):Int) (i:Int):=by
   show zjr S6 g (zfj S6 g k) _ _ _=_
   generalize zfj S6 g k=S
   unfold zjr zr8
   rw[dqT (show (j:Int) < (g.len:Int) by omega),dqA,za6 (n:=g.len) hjl (by omega)]
  rw[e1,e2]
  rcases E with ⟨hb,r⟩ | ⟨hn,r1,r2⟩
  ·exact .inl ⟨⟨j,dqt _,hjl,hb⟩,r⟩
  ·rw [r1, r2]
   rcases ih with ⟨⟨x,h1,h2,h3⟩,r⟩ | ⟨hn2,r⟩
   ·exact .inl ⟨⟨x,by omega,h2,h3⟩,r⟩
   ·refine .inr ⟨fun ⟨x, h1, h2, h3⟩ => ?_, r⟩
    by_cases e:x=j
    ·subst e;exact hn h3
    ·exact hn2 ⟨x,by omega,h2,h3⟩
theorem em6:∀ (m k i:Nat),i+m=g.len->m < k ->
  zOj (zfl g k (i:Int)) (zeR g k (i:Int)) (∃ z,i<=z/\z < g.len/\∃ y,z+1<=y/\y < g.len/\∃ x,y+1<=x/\x < g.len/\zFU g z y x) true (⟨0,λ _=>default⟩,7)
 | _,0,_,_,h=>absurd h (dqW _)
 | 0,k+1,i,hc,_=>by
  refine .inr ⟨λ ⟨x,h1,h2,_⟩=>by omega,?_,?_⟩
  ·show zju g (zfl g k) _ = _
   unfold zju
   rw[dqF (show ¬ (i:Int) < (g.len:Int) by omega),dqB]
  ·show zjt g (zeR g k) _ = _
   unfold zjt
   rw[dqF (show ¬ (i:Int) < (g.len:Int) by omega),dqB]
 | m+1,k+1,i,hc,hk=>by
  have hl:=G.2.2
  have hil:i < g.len:=by omega
  have ih:=em6 m k (i+1) (by omega) (by omega)
  have E:=em7 G i hil (zeR g k) (zfl g k) (g.len - (i+1)) Fuel (i+1) (by omega) (by simp only[Fuel];omega)
  have e1:zfl g (k+1) (i:Int)=zfk (zfl g k) g Fuel (i:Int) ((i+1:Nat):Int) (i:Int):=by
   show zju g (zfl g k) _=_
   generalize zfl g k=P
   unfold zju zsb
   rw[dqT (show (i:Int) < (g.len:Int) by omega),dqA,za6 (n:=g.len) hil (by omega)]
  have e2:zeR g (k+1) (i:Int)=zfj (zeR g k) g Fuel (i:Int) ((i+1:Nat):Int) (i:Int):=by
   show zjt g (zeR g k) _=_
   generalize zeR g k=S
   unfold zjt zsa
   rw[dqT (show (i:Int) < (g.len:Int) by omega),dqA,za6 (n:=g.len) hil (by omega)]
  rw[e1,e2]
  rcases E with ⟨hb,r⟩ | ⟨hn,r1,r2⟩
  ·exact .inl ⟨⟨i,dqt _,hil,hb⟩,r⟩
  ·rw [r1, r2]
   rcases ih with ⟨⟨x,h1,h2,h3⟩,r⟩ | ⟨hn2,r⟩
   ·exact .inl ⟨⟨x,by omega,h2,h3⟩,r⟩
   ·refine .inr ⟨fun ⟨x, h1, h2, h3⟩ => ?_, r⟩
    by_cases e:x=i
    ·subst e;exact hn h3
    ·exact hn2 ⟨x,by omega,h2,h3⟩
theorem em3 (i:Nat) (hi:i < g.len) (S2:Int->Sl Int×Int) (P2:Int->Bool):∀ (m k j:Nat),j+m=g.len->m < k ->
  zOj (zf5 P2 g k (i:Int) (j:Int) (i:Int)) (zf4 S2 g k (i:Int) (j:Int) (i:Int)) (∃ x,j<=x/\x < g.len/\zKa g i x) (P2 ((i+1:Nat):Int)) (S2 ((i+1:Nat):Int))
 | _,0,_,_,h=>absurd h (dqW _)
 | 0,k+1,j,hc,_=>by
  have hl:=G.2.2
  refine .inr ⟨λ ⟨x,h1,h2,_⟩=>by omega,?_,?_⟩
  ·show zjw P2 g (zf5 P2 g k) _ _ _ = _
   unfold zjw
   rw[dqF (show ¬ (j:Int) < (g.len:Int) by omega),dqB,za6 (n:=g.len) hi (by omega)]
  ·show zjv S2 g (zf4 S2 g k) _ _ _ = _
   unfold zjv
   rw[dqF (show ¬ (j:Int) < (g.len:Int) by omega),dqB,za6 (n:=g.len) hi (by omega)]
 | m+1,k+1,j,hc,hk=>by
  have hl:=G.2.2
  have hjl:j < g.len:=by omega
  have ih:=em3 i hi S2 P2 m k (j+1) (by omega) (by omega)
  have e1:zf5 P2 g (k+1) (i:Int) (j:Int) (i:Int)=cond (!(s39 g (two i j))) true (zf5 P2 g k (i:Int) ((j+1:Nat):Int) (i:Int)):=by
   show zjw P2 g (zf5 P2 g k) _ _ _=_
   generalize zf5 P2 g k=P
   unfold zjw zsf
   rw[dqT (show (j:Int) < (g.len:Int) by omega),dqA,za6 (n:=g.len) hjl (by omega)]
   show (decide (p39 g (two i j)=true) && _)=_
   rw[zQF G hi hjl];rfl
  have e2:zf4 S2 g (k+1) (i:Int) (j:Int) (i:Int)=cond (!(s39 g (two i j))) (⟨2,zkk (i:Int) [(i:Int),(j:Int)]⟩,0) (zf4 S2 g k (i:Int) ((j+1:Nat):Int) (i:Int)):=by
   show zjv S2 g (zf4 S2 g k) _ _ _=_
   generalize zf4 S2 g k=S
   unfold zjv zse
   rw[dqT (show (j:Int) < (g.len:Int) by omega),dqA,za6 (n:=g.len) hjl (by omega)];rfl
  rw[e1,e2]
  cases hb:s39 g (two (i:Int) (j:Int))
  ·exact .inl ⟨⟨j,dqt _,hjl,hb⟩,rfl,rfl⟩
  ·rcases ih with ⟨⟨x, h1, h2, h3⟩, r⟩ | ⟨hn, r⟩
   ·exact .inl ⟨⟨x,by omega,h2,h3⟩,r⟩
   ·refine .inr ⟨fun ⟨x, h1, h2, h3⟩ => ?_, r⟩
    by_cases e:x=j
    ·subst e;unfold zKa at h3;rw[hb] at h3;cases h3
    ·exact hn ⟨x,by omega,h2,h3⟩
theorem em2:∀ (m k i:Nat),i+m=g.len->m < k ->
  zOj (zfn g k (i:Int)) (zfm g k (i:Int)) (∃ y,i<=y/\y < g.len/\∃ x,y+1<=x/\x < g.len/\zKa g y x) (zfl g Fuel 0) (zeR g Fuel 0)
 | _,0,_,_,h=>absurd h (dqW _)
 | 0,k+1,i,hc,_=>by
  refine .inr ⟨λ ⟨x,h1,h2,_⟩=>by omega,?_,?_⟩
  ·show zjy g (zfn g k) _ = _
   unfold zjy zsh zsd
   rw[dqF (show ¬ (i:Int) < (g.len:Int) by omega),dqB]
  ·show zjx g (zfm g k) _ = _
   unfold zjx zsg zsc
   rw[dqF (show ¬ (i:Int) < (g.len:Int) by omega),dqB]
 | m+1,k+1,i,hc,hk=>by
  have hl:=G.2.2
  have hil:i < g.len:=by omega
  have ih:=em2 m k (i+1) (by omega) (by omega)
  have E:=em3 G i hil (zfm g k) (zfn g k) (g.len - (i+1)) Fuel (i+1) (by omega) (by simp only[Fuel];omega)
  have e1:zfn g (k+1) (i:Int)=zf5 (zfn g k) g Fuel (i:Int) ((i+1:Nat):Int) (i:Int):=by
   show zjy g (zfn g k) _=_
   generalize zfn g k=P
   unfold zjy zsj
   rw[dqT (show (i:Int) < (g.len:Int) by omega),dqA,za6 (n:=g.len) hil (by omega)]
  have e2:zfm g (k+1) (i:Int)=zf4 (zfm g k) g Fuel (i:Int) ((i+1:Nat):Int) (i:Int):=by
   show zjx g (zfm g k) _=_
   generalize zfm g k=S
   unfold zjx zsi
   rw[dqT (show (i:Int) < (g.len:Int) by omega),dqA,za6 (n:=g.len) hil (by omega)]
  rw[e1,e2]
  rcases E with ⟨hb,r⟩ | ⟨hn,r1,r2⟩
  ·exact .inl ⟨⟨i,dqt _,hil,hb⟩,r⟩
  ·rw [r1, r2]
   rcases ih with ⟨⟨x,h1,h2,h3⟩,r⟩ | ⟨hn2,r⟩
   ·exact .inl ⟨⟨x,by omega,h2,h3⟩,r⟩
   ·refine .inr ⟨fun ⟨x, h1, h2, h3⟩ => ?_, r⟩
    by_cases e:x=i
    ·subst e;exact hn h3
    ·exact hn2 ⟨x,by omega,h2,h3⟩
theorem zOk : p18 g = true ∧ (((s18 g).2 = 0 ∧ ((∃ y x, y < x ∧ x < g.len ∧ zKa g y x) ∨ ∃ z y x, z < y ∧ y < x ∧ x < g.len ∧ zFU g z y x)) ∨
  ((s18 g).2=7/\(∀ y x,y < x->x < g.len->¬ zKa g y x)/\∀ z y x,z < y->y < x->x < g.len->¬ zFU g z y x)):=by
 have hl:=G.2.2
 obtain⟨c1,c2⟩:=zFP g (by omega)
 have E2:=em2 G g.len Fuel 0 (by omega) (by simp only[Fuel];omega)
 have E6:=em6 G g.len Fuel 0 (by omega) (by simp only[Fuel];omega)
 have ep:p18 g=(decide (p28 g=true) && cond (!(s28 g)) true (zfn g Fuel ((0:Nat):Int))):=rfl
 have es:s18 g=cond (!(s28 g)) ((⟨0,λ _=>default⟩:(Sl Int)),(2:Int)) (zfm g Fuel ((0:Nat):Int)):=rfl
 rw[ep,es,c1,c2.2 G,Bool.not_true,dqB,dqB,dqT rfl,Bool.true_and]
 rcases E2 with ⟨⟨y,_,h2,x,h3,h4,h5⟩,r1,r2⟩ | ⟨hn,r1,r2⟩
 ·exact⟨r1,.inl ⟨r2,.inl ⟨y,x,by omega,h4,h5⟩⟩⟩
 ·rw [r1, r2]
  rcases E6 with ⟨⟨z,_,h2,y,h3,h4,x,h5,h6,h7⟩,t1,t2⟩ | ⟨hn2,t1,t2⟩
  ·exact⟨t1,.inl ⟨t2,.inr ⟨z,y,x,by omega,by omega,h6,h7⟩⟩⟩
  ·refine⟨t1,.inr ⟨by rw[show zeR g Fuel 0=_ from t2],λ y x h1 h2 h=>hn ⟨y,Nat.zero_le _,by omega,x,by omega,h2,h⟩,λ z y x h1 h2 h3 h=>hn2 ⟨z,Nat.zero_le _,by omega,y,by omega,by omega,x,by omega,h3,h⟩⟩⟩
end
end Go.Proofs
namespace Go.Proofs
open Go Go.Pm
set_option linter.unusedVariables false
def zem (f : Nat → Bool) : Nat → Nat
  | 0=>0
  | n+1=>if f n=true then zem f n ||| 2 ^ n else zem f n
theorem zeb (f : Nat → Bool) (i : Nat) : ∀ n, (zem f n).testBit i = (decide (i < n) && f i)
  | 0=>by simp[zem]
  | n+1=>by
    unfold zem
    have ih:=zeb f i n
    by_cases hf:f n=true
    · rw [dqP hf, Nat.testBit_or, ih, Nat.testBit_two_pow]
      by_cases e:n=i
      · subst e;simp[hf]
      · have : decide (i < n + 1) = decide (i < n) := decide_eq_decide.2 (by omega)
        simp[e,this]
    · rw [dqG hf, ih]
      by_cases e:n=i
      · subst e;simp[hf]
      · have : decide (i < n + 1) = decide (i < n) := decide_eq_decide.2 (by omega)
        rw[this]
theorem ztO (f : Nat → Bool) : ∀ n, zem f n < 2 ^ n
  | 0=>by simp[zem]
  | n+1=>by
    have ih:=ztO f n
    have h1:zem f n < 2 ^ (n+1):=by rw[Nat.pow_succ];omega
    unfold zem
    split
    · exact Nat.or_lt_two_pow h1 (by rw[Nat.pow_succ];have:=Nat.two_pow_pos n;omega)
    · exact h1
theorem ztP {f g:Nat->Bool}{n:Nat} : zem f n=zem g n↔∀ i,i < n->f i=g i:=by
 constructor
 ·intro h i hi
  have h1:=zeb f i n
  have h2:=zeb g i n
  rw[h] at h1
  rw[h1] at h2
  simpa [hi] using h2
 ·intro h
  refine Nat.eq_of_testBit_eq λ i=>?_
  rw[zeb,zeb]
  by_cases hi:i < n
  ·rw[h i hi]
  ·simp[hi]
theorem zvv {f g:Nat->Bool}{n:Nat} : (zem g n &&& zem f n)=zem f n↔∀ i,i < n->f i=true->g i=true:=by
 constructor
 ·intro h i hi hf
  have h1:=Nat.testBit_and (zem g n) (zem f n) i
  rw[h,zeb,zeb,hf] at h1
  simpa [hi] using h1.symm
 ·intro h
  refine Nat.eq_of_testBit_eq λ i=>?_
  rw[Nat.testBit_and,zeb,zeb]
  by_cases hi:i < n
  ·have := h i hi
   cases hf:f i
   ·simp
   ·rw[this hf];simp
  ·simp[hi]
-- the machine's operations
theorem ztQ {x:Nat}(h:x < 2 ^ 63):IntKind.i64.wrap (x:Int)=(x:Int):=by
 have h:x < 9223372036854775808:=h
 exact zbW (by omega) (by omega)
theorem ziU {x:Nat}(h:x < 2 ^ 63):(BitVec.ofInt 64 (x:Int)).toNat=x:=by
 have h:x < 9223372036854775808:=h
 rw[BitVec.toNat_ofInt]
 have:((x:Int) % ((2 ^ 64:Nat):Int))=(x:Int):=Int.emod_eq_of_lt (by omega) (by show (x:Int) < 18446744073709551616;omega)
 rw[this,dqN]
theorem zKc {a b:Nat}(ha:a < 2 ^ 63) (hb:b < 2 ^ 63):orW .i64 (a:Int) (b:Int)=((a ||| b:Nat):Int):=by
 unfold orW
 have e:(BitVec.ofInt IntKind.i64.bits (a:Int) ||| BitVec.ofInt IntKind.i64.bits (b:Int)).toNat=a ||| b:=by
  show (BitVec.ofInt 64 (a:Int) ||| BitVec.ofInt 64 (b:Int)).toNat=a ||| b
  rw[BitVec.toNat_or,ziU ha,ziU hb]
 rw[e,ztQ (Nat.or_lt_two_pow ha hb)]
theorem zvw {a b:Nat}(ha:a < 2 ^ 63) (hb:b < 2 ^ 63):zpl .i64 (a:Int) (b:Int)=((a &&& b:Nat):Int):=by
 unfold zpl
 have e:(BitVec.ofInt IntKind.i64.bits (a:Int) &&& BitVec.ofInt IntKind.i64.bits (b:Int)).toNat=a &&& b:=by
  show (BitVec.ofInt 64 (a:Int) &&& BitVec.ofInt 64 (b:Int)).toNat=a &&& b
  rw[BitVec.toNat_and,ziU ha,ziU hb]
 rw[e,ztQ (Nat.and_lt_two_pow a hb)]
theorem zEj {i:Nat}(h:i < 40):zvJ .i64 (1:Int) (i:Int)=((2 ^ i:Nat):Int):=by
 unfold zvJ
 have e:min (i:Int).toNat IntKind.i64.bits=i:=by show min (i:Int).toNat 64=i;omega
 have hp:(2:Nat) ^ i < 2 ^ 63:=Nat.pow_lt_pow_right (by omega) (by omega)
 rw[e,Int.one_mul,<- ztQ hp]
 congr 1
theorem zOl {b i:Nat}(hb:b < 2 ^ 40) (h:i < 40):(zpl .i64 (zwG .i64 (b:Int) (i:Int)) (1:Int) == (1:Int))=b.testBit i:=by
 have e:min (i:Int).toNat IntKind.i64.bits=i:=by show min (i:Int).toNat 64=i;omega
 have e1:zwG .i64 (b:Int) (i:Int)=((b / 2 ^ i:Nat):Int):=by
  unfold zwG
  rw[e,Int.fdiv_eq_ediv_of_nonneg _ (Int.le_of_lt (Int.pow_pos (by decide)))]
  simp
 have h2:b / 2 ^ i < 2 ^ 63:=Nat.lt_of_le_of_lt (Nat.div_le_self _ _) (Nat.lt_trans hb (Nat.pow_lt_pow_right (by omega) (by omega)))
 have e2:=zvw (a:=b / 2 ^ i) (b:=1) h2 (by decide)
 have e3:zpl .i64 (zwG .i64 (b:Int) (i:Int)) (1:Int)=((b / 2 ^ i &&& 1:Nat):Int):=by rw[e1];exact e2
 rw[e3,Nat.and_one_is_mod,Nat.testBit_eq_decide_div_mod_eq,Bool.eq_iff_iff,beq_iff_eq,decide_eq_true_eq]
 omega
theorem zCi {f:Nat->Bool}{n:Nat}(hn:n < 40) (hf:f n=true):orW .i64 (zem f n:Int) (zvJ .i64 (1:Int) (n:Int))=(zem f (n+1):Int):=by
 have h1:zem f n < 2 ^ 63:=Nat.lt_trans (ztO f n) (Nat.pow_lt_pow_right (by omega) (by omega))
 rw[zEj hn,zKc h1 (Nat.pow_lt_pow_right (by omega) (by omega))]
 show _=((if f n=true then zem f n ||| 2 ^ n else zem f n:Nat):Int)
 rw[dqP hf]
theorem zCj {f:Nat->Bool}{n:Nat}(hf:f n=false):zem f (n+1)=zem f n:=by
 show (if f n=true then zem f n ||| 2 ^ n else zem f n)=_
 rw[dqG (by rw[hf];exact dqk)]
end Go.Proofs
namespace Go.Proofs
open Go Go.Pm
set_option linter.unusedVariables false
def cmpL : List Nat → List Nat → Int
  | [],[]=>0
  | [],_ :: _=>-1
  | _ :: _,[]=>1
  | a :: A,b :: B=>if a < b then -1 else if b < a then 1 else cmpL A B
theorem zmM : ∀ A, cmpL A A = 0
  | []=>rfl
  | a :: A=>by simp[cmpL,zmM A]
theorem zmN : ∀ {A B : List Nat}, cmpL A B = 0 → A = B
  | [],[],_=>rfl
  | [],_ :: _,h=>by simp[cmpL] at h
  | _ :: _,[],h=>by simp[cmpL] at h
  | a :: A,b :: B,h=>by
    unfold cmpL at h
    by_cases h1:a < b
    · rw[dqP h1] at h;omega
    · by_cases h2 : b < a
      · rw[dqG h1,dqP h2] at h;omega
      · rw [dqG h1, dqG h2] at h
        rw[zmN h,show a=b by omega]
theorem zph : ∀ (A B : List Nat), cmpL B A = - cmpL A B
  | [],[]=>rfl
  | [],_ :: _=>rfl
  | _ :: _,[]=>rfl
  | a :: A,b :: B=>by
    unfold cmpL
    by_cases h1:a < b
    · rw[dqP h1,dqG (by omega),dqP h1];rfl
    · by_cases h2 : b < a
      · rw[dqP h2,dqG h1,dqP h2]
      · rw[dqG h2,dqG h1,dqG h1,dqG h2];exact zph A B
theorem zhq : ∀ {A B C : List Nat}, cmpL A B < 0 → cmpL B C < 0 → cmpL A C < 0
  | [],[],_,h,_=>by simp[cmpL] at h
  | _ :: _,[],_,h,_=>by simp[cmpL] at h
  | [],_ :: _,[],_,h=>by simp[cmpL] at h
  | [],_ :: _,_ :: _,_,_=>by simp[cmpL]
  | _ :: _,_ :: _,[],_,h=>by simp[cmpL] at h
  | a :: A,b :: B,c :: C,h,k=>by
    unfold cmpL at h k ⊢
    by_cases h1:a < b
    · by_cases k1 : b < c
      · rw[dqP (by omega)];omega
      · by_cases k2 : c < b
        · rw[dqG k1,dqP k2] at k;omega
        · rw[dqP (by omega)];omega
    · by_cases h2 : b < a
      · rw[dqG h1,dqP h2] at h;omega
      · rw [dqG h1, dqG h2] at h
        by_cases k1:b < c
        · rw[dqP (by omega)];omega
        · by_cases k2 : c < b
          · rw[dqG k1,dqP k2] at k;omega
          · rw [dqG k1, dqG k2] at k
            rw[dqG (by omega),dqG (by omega)]
            exact zhq h k
abbrev ltS (A B:List Nat):Prop:=cmpL A B < 0
theorem zpi {A:List Nat}(h:ltS A A):False:=by rw[ltS,zmM] at h;omega
theorem zqQ {A B:List Nat}(h:A ≠ B):ltS A B\/ltS B A:=by
 have h1:=zph A B
 have h2:cmpL A B ≠ 0:=λ e=>h (zmN e)
 unfold ltS
 omega
def IsN (v:Sl Int) (L:List Nat):Prop:=v.len=L.length/\∀ k (h:k < L.length),v.get k=(L[k]:Int)
def zwD (v:Sl (Sl Int)) (M:List (List Nat)):Prop:=v.len=M.length/\∀ k (h:k < M.length),IsN (v.get k) M[k]
def tlN (v:Sl Int):List Nat:=(List.range v.len).map λ k=>(v.get k).toNat
theorem zqR {v:Sl Int}{L:List Nat}(h:IsN v L):tlN v=L:=by
 obtain⟨h1,h2⟩:=h
 refine List.ext_getElem (by simp[tlN,h1]) λ k hk hk'=>?_
 simp only[tlN,List.getElem_map,List.getElem_range,h2 k hk']
 omega
theorem IsN.at {v:Sl Int}{L:List Nat}(h:IsN v L){k:Nat}(hk:k < v.len):∃ hk':k < L.length,v.get k=(L[k]:Int):=⟨by rw[<- h.1];exact hk,h.2 k (by rw[<- h.1];exact hk)⟩
theorem ztR {g:Nat->Int} : IsN ⟨0,g⟩ []:=⟨rfl,λ k h=>absurd h (dqW _)⟩
theorem zpj {v:Sl Int}{L:List Nat}(h:IsN v L) (x:Nat):IsN ⟨v.len+1,zgv v.len v.get (λ _=>(x:Int))⟩ (L ++ [x]):=by
 obtain⟨h1,h2⟩:=h
 refine⟨by show v.len+1=_;rw[dqu,List.length_singleton,h1],λ k hk=>?_⟩
 show (match Nat.ble v.len k with | true=>(x:Int) | false=>v.get k)=_
 rw[dqu,List.length_singleton] at hk
 by_cases hq:k < L.length
 ·have e : Nat.ble v.len k = false := Bool.eq_false_iff.2 fun e => by have := Nat.le_of_ble_eq_true e; omega
  rw[e]
  simp only[List.getElem_append_left hq]
  exact h2 k hq
 ·have e : Nat.ble v.len k = true := Nat.ble_eq_true_of_le (by omega)
  rw[e]
  simp only[List.getElem_append_right (show L.length<=k by omega),List.getElem_singleton]
def ixs (f:Nat->Bool) (n:Nat):List Nat:=(List.range n).filter f
theorem zcY {f:Nat->Bool}{n i:Nat} : i∈ixs f n↔i < n/\f i=true:=by simp[ixs]
theorem zvx {f:Nat->Bool}{n:Nat} : (ixs f n).Pairwise (· < ·):=List.Pairwise.filter _ List.pairwise_lt_range
theorem zik {f:Nat->Bool}{n:Nat} : (ixs f n).length<=n:=by
 have:=List.length_filter_le f (List.range n)
 rw[List.length_range] at this
 exact this
theorem zvy {f:Nat->Bool}{n:Nat} : ixs f (n+1)=ixs f n ++ (if f n=true then [n] else []):=by
 unfold ixs
 rw[List.range_succ,List.filter_append,List.filter_cons,List.filter_nil]
theorem zCk {f g:Nat->Bool}{n:Nat}(h:∀ i,i < n->f i=g i):ixs f n=ixs g n:=List.filter_congr λ i hi=>h i (List.mem_range.1 hi)
theorem ztS {f g:Nat->Bool}{n:Nat}(h:ixs f n=ixs g n):∀ i,i < n->f i=g i:=λ i hi=>by
 have a:=zcY (f:=f) (n:=n) (i:=i)
 have b:=zcY (f:=g) (n:=n) (i:=i)
 rw[h] at a
 rw[Bool.eq_iff_iff]
 exact⟨λ h=>(b.1 (a.2 ⟨hi,h⟩)).2,λ h=>(a.1 (b.2 ⟨hi,h⟩)).2⟩
end Go.Proofs
namespace Go.Proofs
open Go Go.Pm
set_option maxRecDepth 100000
set_option linter.unusedVariables false
theorem drop_at {A:List Nat}{i:Nat}(h:i < A.length):A.drop i=A[i] :: A.drop (i+1):=dqR h
theorem zOm (x y:Int):s76 x y=if x < y then -1 else if x > y then 1 else 0:=by
 unfold s76 s90
 rw[bne_self_eq_false,bne_self_eq_false,dqB,dqB]
 by_cases h:x < y
 ·rw[dqT h,dqP h];rfl
 ·rw [dqF h, dqG h]
  by_cases h2:x > y
  ·rw[dqT h2,dqP h2];rfl
  ·rw[dqF h2,dqG h2];rfl
theorem zCl {a b:Sl Int}{A B:List Nat}(ha:IsN a A) (hb:IsN b B) (hn:A.length<=1000000):∀ (m k i:Nat),i+m=A.length->i<=B.length->m < k ->
  zg6 k a b a (A.length:Int) (i:Int)=true/\zg5 k a b a (A.length:Int) (i:Int)=cmpL (A.drop i) (B.drop i)
 | _,0,_,_,_,h=>absurd h (dqW _)
 | 0,k+1,i,hi,hiB,_=>by
  show zh6 (zg6 k) a b a (A.length:Int) (i:Int)=_/\zh5 (zg5 k) a b a (A.length:Int) (i:Int)=_
  generalize zg6 k=P
  generalize zg5 k=S
  have e:A.drop i=[]:=dqO (by omega)
  unfold zh6 zh5
  rw[ha.1,hb.1,dqF (show ¬ (i:Int) < (A.length:Int) by omega),dqB,dqB,e]
  refine⟨rfl,?_⟩
  by_cases hq:i < B.length
  ·rw[dqT (show (A.length:Int) < (B.length:Int) by omega),dqA,drop_at hq];rfl
  ·rw[dqF (show ¬ (A.length:Int) < (B.length:Int) by omega),dqB,dqO (show B.length<=i by omega)];rfl
 | m+1,k+1,i,hi,hiB,hk=>by
  have hil:i < A.length:=by omega
  show zh6 (zg6 k) a b a (A.length:Int) (i:Int)=_/\zh5 (zg5 k) a b a (A.length:Int) (i:Int)=_
  by_cases hq:i < B.length
  ·obtain ⟨i1, i2⟩ := zCl ha hb hn m k (i + 1) (by omega) (by omega) (by omega)
   generalize zg6 k=P at i1 ⊢
   generalize zg5 k=S at i2 ⊢
   unfold zh6 zh5 zta zs9 zs8 zs7
   rw[ha.1,hb.1,dqT (show (i:Int) < (A.length:Int) by omega),dqF (show ¬ (i:Int) >= (B.length:Int) by omega),dqT (show 0<=(i:Int)/\(i:Int) < (A.length:Int) by omega),dqT (show 0<=(i:Int)/\(i:Int) < (B.length:Int) by omega),dqN,ha.2 i hil,hb.2 i hq,za6 (n:=A.length) hil (by omega),i1,i2,drop_at hil,drop_at hq,zOm]
   generalize A[i]=x
   generalize B[i]=y
   simp only[dqA,dqB,Bool.true_and]
   show _/\_=(if x < y then -1 else if y < x then 1 else cmpL (A.drop (i+1)) (B.drop (i+1)))
   by_cases h1:x < y
   ·rw[dqP (show (x:Int) < (y:Int) by omega),dqP h1];exact⟨rfl,rfl⟩
   ·rw [dqG (show ¬ (x : Int) < (y : Int) by omega), dqG h1]
    by_cases h2:y < x
    ·rw[dqP (show (x:Int) > (y:Int) by omega),dqP h2];exact⟨rfl,rfl⟩
    ·rw[dqG (show ¬ (x:Int) > (y:Int) by omega),dqG h2];exact⟨rfl,rfl⟩
  ·generalize zg6 k = P
   generalize zg5 k=S
   unfold zh6 zh5
   rw[ha.1,hb.1,dqT (show (i:Int) < (A.length:Int) by omega),dqT (show (i:Int) >= (B.length:Int) by omega),dqT (show 0<=(i:Int)/\(i:Int) < (A.length:Int) by omega),drop_at hil,dqO (show B.length<=i by omega)]
   exact⟨rfl,rfl⟩
theorem zFV {a b:Sl Int}{A B:List Nat}(ha:IsN a A) (hb:IsN b B) (hn:A.length<=1000000):p59 a b=true/\s59 a b=cmpL A B:=by
 have h:=zCl ha hb hn A.length Fuel 0 (by omega) (by omega) (by simp only[Fuel];omega)
 rw[<- ha.1] at h
 exact h
end Go.Proofs
namespace Go.Proofs
open Go Go.Pm
set_option maxRecDepth 100000
set_option linter.unusedVariables false
/-! keys below a bound -/
def zKt (M:Nat):List (List Int):=(List.range M).map λ (a:Nat)=>[(a:Int)]
def zCm (M:Nat) (F:List Int->Option (List Int)):List (List Int):=(zKt M).filter λ y=>(F y).isSome
theorem zvz {M:Nat}{y:List Int} : y∈zKt M↔∃ a:Nat,a < M/\y=[(a:Int)]:=by
 simp only[zKt,dqz,List.mem_range]
 exact⟨λ ⟨a,h,e⟩=>⟨a,h,e.symm⟩,λ ⟨a,h,e⟩=>⟨a,h,e.symm⟩⟩
theorem znI (M:Nat):(zKt M).Nodup:=by
 unfold List.Nodup zKt
 rw[List.pairwise_map]
 exact List.pairwise_lt_range.imp fun {b c} h e=>by simp only[dqy,and_true] at e;omega
theorem zmO (x v:List Int) (F:List Int->Option (List Int)) (y:List Int):zgA x v F y=if y=x then some v else F y:=by
 unfold zgA
 by_cases e:y=x
 ·rw[dqT e,dqP e]
 ·rw[dqF e,dqG e]
theorem zqS {F : List Int → Option (List Int)} {x v : List Int} (hF : F x = none) : ∀ {P : List (List Int)}, P.Nodup → x ∈ P → (P.filter fun y => (zgA x v F y).isSome).length = (P.filter fun y => (F y).isSome).length + 1
  | y :: P,hnd,hx=>by
    obtain⟨hy,hnd⟩:=List.nodup_cons.1 hnd
    rw[List.filter_cons,List.filter_cons]
    by_cases e:y=x
    · subst e
      have h1:(P.filter λ z=>(zgA y v F z).isSome)=P.filter λ z=>(F z).isSome:=List.filter_congr λ z hz=>by
        rw[zmO,dqG (λ e=>hy (by rw[<- e];exact hz))]
      rw[h1,zmO,dqP rfl,hF]
      simp
    · have ih := zqS (v := v) hF hnd ((dqq.1 hx).resolve_left (Ne.symm e))
      rw[zmO,dqG e]
      cases hy:(F y).isSome
      · rw[dqG (by simp),dqG (by simp)];exact ih
      · rw[dqP rfl,dqP rfl,dqr,dqr,ih]
structure MpOk (M K : Nat) (Q : Nat → Prop) (N : Nat) (F : List Int → Option (List Int)) : Prop where
  val:∀ b:Nat,(F [(b:Int)]).isSome=true↔Q b
  num:N=(zCm M F).length
  few:N<=K
  low:∀ b,Q b->b < M
theorem zvA (M:Nat):MpOk M 0 (λ _=>False) 0 (λ _=>none) :=
 ⟨λ b=>by simp,by unfold zCm;rw[List.filter_eq_nil_iff.2 (λ y _=>by simp)];rfl,dqt _,λ _ h=>h.elim⟩
theorem zCn {M K : Nat} {Q : Nat → Prop} {N : Nat} {F : List Int → Option (List Int)} (h : MpOk M K Q N F) {b : Nat} (hb : b < M) :
  MpOk M (K+1) (λ c=>Q c\/c=b) (addN (F [(b:Int)]) N) (zgA [(b:Int)] [1] F):=by
 refine⟨λ c=>?_,?_,?_,λ c hc=>?_⟩
 ·rw [zmO]
  by_cases e:c=b
  ·subst e;rw[dqP rfl];simp
  ·rw [dqG (fun e' => e (by simp only [dqy, and_true] at e'; omega)), h.val]
   exact⟨.inl,λ h=>h.resolve_right e⟩
 ·have hm : [(b : Int)] ∈ zKt M := zvz.2 ⟨b, hb, rfl⟩
  cases hF:F [(b:Int)] with
  | none =>
   show N+1=_
   unfold zCm
   rw[zqS hF (znI M) hm,h.num];rfl
  | some l =>
   show N=_
   rw[h.num]
   unfold zCm
   congr 1
   refine List.filter_congr λ y _=>?_
   rw[zmO]
   by_cases e:y=[(b:Int)]
   ·rw[dqP e,e,hF];rfl
   ·rw[dqG e]
 ·have := h.few
  cases F [(b:Int)] with
  | none=>show N+1<=K+1;omega
  | some l=>show N<=K+1;omega
 ·rcases hc with hc | rfl
  ·exact h.low c hc
  ·exact hb
theorem MpOk.congr {M K:Nat}{Q Q':Nat->Prop}{N:Nat}{F:List Int->Option (List Int)}(h:MpOk M K Q N F) (e:∀ b,Q b↔Q' b):MpOk M K Q' N F :=
 ⟨λ b=>(h.val b).trans (e b),h.num,h.few,λ b hb=>h.low b ((e b).2 hb)⟩
section
variable {M K:Nat}{Q:Nat->Prop}{N:Nat}{F:List Int->Option (List Int)}(hM:MpOk M K Q N F)
include hM
theorem ziV {y:List Int} : y∈zCm M F↔∃ b:Nat,Q b/\y=[(b:Int)]:=by
 unfold zCm
 rw[List.mem_filter,zvz]
 constructor
 ·rintro⟨⟨a,ha,rfl⟩,h⟩;exact⟨a,(hM.val a).1 h,rfl⟩
 ·rintro⟨a,ha,rfl⟩;exact⟨⟨a,hM.low a ha,rfl⟩,(hM.val a).2 ha⟩
theorem znJ:(zCm M F).Nodup:=(znI M).sublist List.filter_sublist
theorem zEk:keysB 1 N F (zCm M F)=true:=by
 unfold keysB
 rw[dqm,dqm,List.all_eq_true]
 refine⟨⟨by rw[<- hM.num];exact Nat.beq_refl _,λ y hy=>?_⟩,zja.2 (znJ hM)⟩
 obtain⟨b,_,e⟩:=(ziV hM).1 hy
 unfold zCm at hy
 rw[List.mem_filter] at hy
 rw[hy.2,e];rfl
end
/-! the bits of one set -/
theorem zCo {f:Nat->Bool}{n:Nat}(hn:n < 40):zem f n < 1099511627776:=dqS (ztO f n) (show 2 ^ n<=2 ^ 40 from Nat.pow_le_pow_right (by omega) (by omega))
theorem zCp (g : Sl Gate) (hg : g.len < 40) (y : straight) (f : Nat → Bool) (hf : ∀ i, i < g.len → s57 y (g.get i) = f i) (P : Nat → (List Int → Option (List Int)) → Bool) (S : Nat → (List Int → Option (List Int)) → Sl (Sl Int)) (N : Nat) (F : List Int → Option (List Int)) :
  ∀ (m k i:Nat),i+m=g.len->m < k ->
  zfq P g y k (zem f i:Int) (i:Int) N F=P (addN (F [(zem f g.len:Int)]) N) (zgA [(zem f g.len:Int)] [1] F) /\
  zfp S g y k (zem f i:Int) (i:Int) N F=S (addN (F [(zem f g.len:Int)]) N) (zgA [(zem f g.len:Int)] [1] F)
 | _,0,_,_,h=>absurd h (dqW _)
 | 0,k+1,i,hi,_=>by
  show zh9 P g y (zfq P g y k) _ _ _ _=_/\zh8 S g y (zfp S g y k) _ _ _ _=_
  generalize zfq P g y k=p
  generalize zfp S g y k=s
  have e:i=g.len:=by omega
  subst e
  unfold zh9 zh8
  rw[dqF (show ¬ (g.len:Int) < (g.len:Int) by omega),dqB,dqB]
  exact⟨rfl,rfl⟩
 | m+1,k+1,i,hi,hk=>by
  have hil:i < g.len:=by omega
  obtain⟨i1,i2⟩:=zCp g hg y f hf P S N F m k (i+1) (by omega) (by omega)
  show zh9 P g y (zfq P g y k) _ _ _ _=_/\zh8 S g y (zfp S g y k) _ _ _ _=_
  generalize zfq P g y k=p at i1 ⊢
  generalize zfp S g y k=s at i2 ⊢
  unfold zh9 zh8
  rw[dqT (show (i:Int) < (g.len:Int) by omega),dqT (show 0<=(i:Int)/\(i:Int) < (g.len:Int) by omega),dqT (show 0<=(i:Int) by omega),dqN,hf i hil,za6 (n:=g.len) hil (by omega),dqA,dqA,Bool.true_and,Bool.true_and]
  cases hb:f i
  ·rw[dqB,dqB,<- zCj hb];exact⟨i1,i2⟩
  ·rw[dqA,dqA,zCi (by omega) hb];exact⟨i1,i2⟩
theorem zCq (g : Sl Gate) (hg : g.len < 40) (a0 a1 a2 t : Int) (f : Nat → Bool) (hf : ∀ i, i < g.len → s44 a1 (g.get i).Low (g.get i).High = f i) (P : Int → Nat → (List Int → Option (List Int)) → Bool) (S : Int → Nat → (List Int → Option (List Int)) → Sl (Sl Int)) (N : Nat) (F : List Int → Option (List Int)) :
  ∀ (m k i:Nat),i+m=g.len->m < k ->
  ze2 P g k (zem f i:Int) t (i:Int) a0 a1 a2 N F=P (w64 (t+(1:Int))) (addN (F [(zem f g.len:Int)]) N) (zgA [(zem f g.len:Int)] [1] F) /\
  ze1 S g k (zem f i:Int) t (i:Int) a0 a1 a2 N F=S (w64 (t+(1:Int))) (addN (F [(zem f g.len:Int)]) N) (zgA [(zem f g.len:Int)] [1] F)
 | _,0,_,_,h=>absurd h (dqW _)
 | 0,k+1,i,hi,_=>by
  show zib P g (ze2 P g k) _ _ _ _ _ _ _ _=_/\zia S g (ze1 S g k) _ _ _ _ _ _ _ _=_
  generalize ze2 P g k=p
  generalize ze1 S g k=s
  have e:i=g.len:=by omega
  subst e
  unfold zib zia
  rw[dqF (show ¬ (g.len:Int) < (g.len:Int) by omega),dqB,dqB]
  exact⟨rfl,rfl⟩
 | m+1,k+1,i,hi,hk=>by
  have hil:i < g.len:=by omega
  obtain⟨i1,i2⟩:=zCq g hg a0 a1 a2 t f hf P S N F m k (i+1) (by omega) (by omega)
  show zib P g (ze2 P g k) _ _ _ _ _ _ _ _=_/\zia S g (ze1 S g k) _ _ _ _ _ _ _ _=_
  generalize ze2 P g k=p at i1 ⊢
  generalize ze1 S g k=s at i2 ⊢
  unfold zib zia
  rw[dqT (show (i:Int) < (g.len:Int) by omega),dqT (show 0<=(i:Int)/\(i:Int) < (g.len:Int) by omega),dqT (show 0<=(i:Int) by omega),dqN,hf i hil,za6 (n:=g.len) hil (by omega),dqA,dqA,Bool.true_and,Bool.true_and]
  cases hb:f i
  ·rw[dqB,dqB,<- zCj hb];exact⟨i1,i2⟩
  ·rw[dqA,dqA,zCi (by omega) hb];exact⟨i1,i2⟩
theorem zCr (g:Sl Gate) (hg:g.len < 40){b:Nat}(hb:b < 2 ^ 40):∀ (m k i:Nat) (o:Sl Int),i+m=g.len->m < k->IsN o (ixs b.testBit i) ->
  ∃ x,zkt g (b:Int) k (i:Int) o=some x/\IsN x (ixs b.testBit g.len)
 | _,0,_,_,_,h,_=>absurd h (dqW _)
 | 0,k+1,i,o,hi,_,ho=>by
  have e:i=g.len:=by omega
  subst e
  refine⟨o,?_,ho⟩
  unfold zkt
  rw[dqF (show ¬ (g.len:Int) < (g.len:Int) by omega),dqB]
 | m+1,k+1,i,o,hi,hk,ho=>by
  have hil:i < g.len:=by omega
  have hol:=zik (f:=b.testBit) (n:=i)
  rw[<- ho.1] at hol
  unfold zkt
  rw[dqT (show (i:Int) < (g.len:Int) by omega),dqT (show 0<=(i:Int) by omega),zOl hb (by omega),dqT (show (o.len+1) * 8<=140737488355328/\o.len+1<=9223372036854775807 by omega),za6 (n:=g.len) hil (by omega)]
  have hx:=zvy (f:=b.testBit) (n:=i)
  cases hq:b.testBit i
  ·rw [hq, dqG (by simp), List.append_nil] at hx
   rw[<- hx] at ho
   exact zCr g hg hb m k (i+1) o (by omega) (by omega) ho
  ·rw [hq, dqP rfl] at hx
   have ho2:=zpj ho i
   rw[<- hx] at ho2
   exact zCr g hg hb m k (i+1) _ (by omega) (by omega) ho2
theorem zFW (g:Sl Gate) (hg:g.len < 40){b:Nat}(hb:b < 2 ^ 40):∃ x,zg7 g (b:Int)=some x/\IsN x (ixs b.testBit g.len) :=
 zCr g hg hb g.len Fuel 0 ⟨0,λ _=>default⟩ (by omega) (by simp only[Fuel];omega) ztR
end Go.Proofs
namespace Go.Proofs
open Go Go.Pm
set_option maxRecDepth 100000
set_option linter.unusedVariables false
theorem zhr (F:List Int->Option (List Int)):zcR F=zCm 1099511627776 F:=rfl
def zCs (C:(Nat->Bool)->Prop) (n:Nat) (h:Nat->Bool):Prop:=∀ h',C h'->(∀ i,i < n->h i=true->h' i=true)->∀ i,i < n->h' i=true->h i=true
attribute [local irreducible] zcR zCm
section
variable {K:Nat}{Q:Nat->Prop}{N:Nat}{F:List Int->Option (List Int)}(hM:MpOk 1099511627776 K Q N F)
include hM
theorem zCt {b:Nat}(hb:b < 2 ^ 40):zc5 F [(b:Int)]=true↔∀ c,Q c->c ≠ b->¬ (c &&& b)=b:=by
 unfold zc5
 rw[zhr,Bool.not_eq_true',Bool.eq_false_iff,ne_eq,List.any_eq_true]
 have key:∀ c:Nat,c < 2 ^ 40->(zwt (([(b:Int)]:List Int).getD 0 0) [(c:Int)]=true↔c ≠ b/\(c &&& b)=b):=λ c hc=>by
  have h1:c < 2 ^ 63:=Nat.lt_trans hc (by decide)
  have h2:b < 2 ^ 63:=Nat.lt_trans hb (by decide)
  show ((((c:Int) != (b:Int)) && (zpl .i64 (c:Int) (b:Int) == (b:Int)))=true)↔_
  rw[zvw h1 h2,dqm,bne_iff_ne,beq_iff_eq]
  constructor
  ·rintro⟨a,b⟩;exact⟨λ e=>a (by rw[e]),by omega⟩
  ·rintro⟨a,b⟩;exact⟨λ e=>a (by omega),by rw[b]⟩
 constructor
 ·intro h c hc hne e
  exact h ⟨[(c:Int)],(ziV hM).2 ⟨c,hc,rfl⟩,(key c (hM.low c hc)).2 ⟨hne,e⟩⟩
 ·rintro h ⟨y, hy, hb⟩
  obtain⟨c,hc,rfl⟩:=(ziV hM).1 hy
  obtain⟨h1,h2⟩:=(key c (hM.low c hc)).1 hb
  exact h c hc h1 h2
end
theorem zkX (h:Nat->Bool) (n:Nat):ixs (zem h n).testBit n=ixs h n:=zCk λ i hi=>by rw[zeb,dqT hi,Bool.true_and]
theorem zCu {W:List (Sl Int)}{n:Nat}(hn:n<=1000000) (hW:∀ x∈W,IsN x (tlN x)/\(tlN x).length<=n) (hd:W.Pairwise λ x y=>tlN x ≠ tlN y):SoL s59 (λ x y=>decide (p59 x y=true)) W:=by
 have c:∀ x∈W,∀ y∈W,p59 x y=true/\s59 x y=cmpL (tlN x) (tlN y):=λ x hx y hy=>zFV (hW x hx).1 (hW y hy).1 (dqE (hW x hx).2 hn)
 refine⟨λ x hx=>?_,?_,λ x hx y hy z hz h1 h2=>?_,λ x hx y hy=>dqT (c x hx y hy).1⟩
 ·rw[(c x hx x hx).2,zmM];omega
 ·refine List.Pairwise.imp_of_mem (fun {x y} hx hy hne => ?_) hd
  have h1:=zph (tlN x) (tlN y)
  have h2:cmpL (tlN x) (tlN y) ≠ 0:=λ e=>hne (zmN e)
  unfold SyL
  rw[(c x hx y hy).2,(c y hy x hx).2]
  omega
 ·rw [(c x hx y hy).2] at h1
  rw[(c y hy z hz).2] at h2
  rw[(c x hx z hz).2]
  exact zhq h1 h2
theorem ztT {m : Nat} {g : Nat → Sl Int} {W : List (Sl Int)} {n : Nat} (hn : n ≤ 1000000) (hg : IsL m g W) (hW : ∀ x ∈ W, IsN x (tlN x) ∧ (tlN x).length ≤ n) (hd : W.Pairwise fun x y => tlN x ≠ tlN y) :
  ∃ M,zwD ⟨m,zgp m (λ i j=>s59 (g i) (g j)) g⟩ M/\M.Pairwise ltS/\∀ A,A∈M↔∃ x∈W,tlN x=A:=by
 have hso:=zCu hn hW hd
 have hp:=(zkR hg hso).1
 have hw:=(zkR hg hso).2
 have l1:(zfg m (λ i j=>s59 (g i) (g j))).length=m:=by rw[(zeG m).length_eq,List.length_range]
 refine⟨((zfg m (λ i j=>s59 (g i) (g j))).map g).map tlN,?_,?_,λ A=>?_⟩
 ·refine ⟨by show m = _; rw [List.length_map, List.length_map, l1], fun k hk => ?_⟩
  rw[List.length_map,List.length_map] at hk
  have e:zgp m (λ i j=>s59 (g i) (g j)) g k=((zfg m (λ i j=>s59 (g i) (g j))).map g)[k]'(by rw[List.length_map];exact hk):=by
   show g ((zfg m (λ i j=>s59 (g i) (g j))).getD k _)=_
   rw[List.getElem_map,List.getD_eq_getElem?_getD,dqD hk];rfl
  show IsN (zgp m (λ i j=>s59 (g i) (g j)) g k) _
  rw[e]
  have hz:=(hW (g ((zfg m (λ i j=>s59 (g i) (g j)))[k])) (hp.mem_iff.1 (dqz.2 ⟨_,List.getElem_mem _,rfl⟩))).1
  simp only[List.getElem_map]
  exact hz
 ·rw [List.pairwise_map]
  have hd':((zfg m (λ i j=>s59 (g i) (g j))).map g).Pairwise λ x y=>tlN x ≠ tlN y:=(hp.pairwise_iff (λ h=>Ne.symm h)).2 hd
  refine List.Pairwise.imp_of_mem (fun {x y} hx hy h=>?_) (hw.and hd')
  have hx:=hp.mem_iff.1 hx
  have hy:=hp.mem_iff.1 hy
  obtain⟨h1,h2⟩:=h
  rw[(zFV (hW y hy).1 (hW x hx).1 (dqE (hW y hy).2 hn)).2] at h1
  rcases zqQ h2 with h | h
  ·exact h
  ·exact absurd h h1
 ·rw [dqz]
  exact⟨λ ⟨x,hx,e⟩=>⟨x,hp.mem_iff.1 hx,e⟩,λ ⟨x,hx,e⟩=>⟨x,hp.mem_iff.2 hx,e⟩⟩
theorem zvB {g : Sl Gate} (hg : g.len < 40) {K : Nat} (hK : K ≤ 1000000) {C : (Nat → Bool) → Prop} {Q : Nat → Prop} {N : Nat} {F : List Int → Option (List Int)} (hM : MpOk 1099511627776 K Q N F)
    (hQ:∀ b,Q b↔∃ h,C h/\b=zem h g.len):zhc g N F=true/\∃ M,zwD (zhb g N F) M/\M.Pairwise ltS/\∀ A,A∈M↔∃ h,C h/\A=ixs h g.len/\zCs C g.len h:=by
  have hlow:=hM.low
  have hset:∀ y∈zcR F,∃ b:Nat,Q b/\y=[(b:Int)]/\∃ x,zg7 g (y.getD 0 0)=some x/\IsN x (ixs b.testBit g.len):=λ y hy=>by
    rw[zhr] at hy
    obtain⟨b,hb,rfl⟩:=(ziV hM).1 hy
    obtain⟨x,h1,h2⟩:=zFW g hg (hlow b hb)
    exact⟨b,hb,rfl,x,h1,h2⟩
  have hkeys:keysB 1 N F (zcR F)=true:=by rw[zhr];exact zEk hM
  have hgd:∀ y∈zcR F,zKr g N F y:=λ y hy=>by
    obtain⟨b,hb,e,x,h1,h2⟩:=hset y hy
    exact⟨hkeys,λ _=>by rw[h1];rfl⟩
  have hkl:(zcR F).length<=K:=by rw[zhr,<- hM.num];exact hM.few
  have hfl:((zcR F).filter (zc5 F)).length<=K:=dqE (List.length_filter_le _ _) hkl
  have hi:=ztn g F (zcR F) ⟨0,λ _=>default⟩ [] ⟨rfl,λ k hk=>absurd hk (dqW _)⟩
  rw[List.nil_append] at hi
  have hal:=zhp g F (zcR F) ⟨0,λ _=>default⟩
  have hal:(zkS g F (zcR F) ⟨0,λ _=>default⟩).len<=1000000:=by rw[hal];show 0+_<=_;omega
  have hWm:∀ x∈((zcR F).filter (zc5 F)).map (λ y=>(zg7 g (y.getD 0 0)).getD default),∃ b,Q b/\zc5 F [(b:Int)]=true/\IsN x (ixs b.testBit g.len):=λ x hx=>by
    obtain⟨y,hy,rfl⟩:=dqz.1 hx
    obtain⟨hy,hk⟩:=List.mem_filter.1 hy
    obtain⟨b,hb,rfl,x,h1,h2⟩:=hset y hy
    exact⟨b,hb,hk,by rw[h1];exact h2⟩
  have hW:∀ x∈((zcR F).filter (zc5 F)).map (λ y=>(zg7 g (y.getD 0 0)).getD default),IsN x (tlN x)/\(tlN x).length<=g.len:=λ x hx=>by
    obtain⟨b,_,_,h⟩:=hWm x hx
    rw[zqR h];exact⟨h,zik⟩
  have hd:(((zcR F).filter (zc5 F)).map (λ y=>(zg7 g (y.getD 0 0)).getD default)).Pairwise λ x y=>tlN x ≠ tlN y:=by
    rw[List.pairwise_map]
    have hnd:((zcR F).filter (zc5 F)).Nodup:=by rw[zhr];exact (znJ hM).sublist List.filter_sublist
    refine List.Pairwise.imp_of_mem (fun {y z} hy hz hne=>?_) hnd
    obtain⟨b,hb,rfl,x,h1,h2⟩:=hset y (List.mem_filter.1 hy).1
    obtain⟨c,hc,rfl,w,k1,k2⟩:=hset z (List.mem_filter.1 hz).1
    rw[h1,k1]
    show tlN x ≠ tlN w
    rw[zqR h2,zqR k2]
    intro e
    apply hne
    obtain⟨h,_,rfl⟩:=(hQ b).1 hb
    obtain⟨h',_,rfl⟩:=(hQ c).1 hc
    rw[zkX,zkX] at e
    rw[ztP.2 (ztS e)]
  obtain⟨M,m1,m2,m3⟩:=ztT (n:=g.len) (by omega) hi hW hd
  have hso:=zCu (n:=g.len) (by omega) hW hd
  have hmem:∀ A,A∈M↔∃ h,C h/\A=ixs h g.len/\zCs C g.len h:=λ A=>by
    rw[m3]
    constructor
    · rintro ⟨x, hx, rfl⟩
      obtain⟨b,hb,hk,h⟩:=hWm x hx
      obtain⟨f,hf,rfl⟩:=(hQ b).1 hb
      rw[zqR h,zkX]
      refine⟨f,hf,rfl,λ f' hf' hle i hi hfi=>?_⟩
      have hk:=(zCt hM (hlow _ hb)).1 hk (zem f' g.len) ((hQ _).2 ⟨f',hf',rfl⟩)
      have e:zem f' g.len=zem f g.len:=Classical.byContradiction λ hne=>hk hne (zvv.2 hle)
      rw[<- ztP.1 e i hi];exact hfi
    · rintro ⟨f, hf, rfl, hmax⟩
      have hb:Q (zem f g.len):=(hQ _).2 ⟨f,hf,rfl⟩
      have hk:zc5 F [(zem f g.len:Int)]=true:=(zCt hM (hlow _ hb)).2 λ c hc hne e=>by
        obtain⟨f',hf',rfl⟩:=(hQ c).1 hc
        have hle:=zvv.1 e
        exact hne (ztP.2 λ i hi=>by
          rw[Bool.eq_iff_iff];exact⟨hmax f' hf' hle i hi,hle i hi⟩)
      have hy:[(zem f g.len:Int)]∈zcR F:=by rw[zhr];exact (ziV hM).2 ⟨_,hb,rfl⟩
      obtain⟨x,h1,h2⟩:=zFW g hg (hlow _ hb)
      refine⟨_,dqz.2 ⟨_,List.mem_filter.2 ⟨hy,hk⟩,rfl⟩,?_⟩
      show tlN ((zg7 g (zem f g.len:Int)).getD default)=_
      rw[h1]
      show tlN x=_
      rw[zqR h2,zkX]
  have bw:=zOM g N F (zcR F) ⟨0,λ _=>default⟩ hgd (λ _=>by omega)
  have e4p:zhc g N F=(keysB 1 N F (zcR F) && zha g N F (zcR F) && zcJ g N F (zcR F) ⟨0,λ _=>default⟩):=rfl
  have e4s:zhb g N F=zdr g N F (zcR F) ⟨0,λ _=>default⟩:=rfl
  have eI:zha g N F (zcR F)=true:=rfl
  rw[e4p,e4s,hkeys,eI,Bool.true_and,Bool.true_and]
  clear e4p e4s eI hgd
  generalize zkS g F (zcR F) ⟨0,λ _=>default⟩=v at hi hal bw m1 ⊢
  have hex:zgd g N F v=true:=by
    unfold zgd
    rw[Bool.and_true]
    exact dqT ⟨by omega,zu7 hi hso⟩
  obtain⟨b1,b2⟩:=bw hex
  rw[b2]
  refine⟨b1,M,?_,m2,hmem⟩
  have es:zg9 g N F v=⟨v.len,zgp v.len (λ i j=>s59 (v.get i) (v.get j)) v.get⟩:=rfl
  rw[es];exact m1
end Go.Proofs
namespace Go.Proofs
open Go Go.Pm
set_option maxRecDepth 100000
set_option linter.unusedVariables false
def zqZ (g:Sl Gate) (s:straight) (i:Nat):Bool:=zcS s (g.get i)
def zwE (g:Sl Gate) (a i:Nat):Bool:=decide ((g.get i).Low<=(g.get a).Low/\(g.get a).Low<=(g.get i).High)
def Cnd (g:Sl Gate) (h:Nat->Bool):Prop:=(zjX g/\∃ a,a < g.len/\h=zwE g a)\/∃ s,s∈cst g/\h=zqZ g s
theorem zFX {g:Sl Gate}(G:zbE g):∀ (l:List straight) (K:Nat) (Q:Nat->Prop) (N:Nat) (F:List Int->Option (List Int)),(∀ s∈l,SOK s)->MpOk 1099511627776 K Q N F ->
  ∃ N' F',MpOk 1099511627776 (K+l.length) (λ b=>Q b\/∃ s,s∈l/\b=zem (zqZ g s) g.len) N' F'/\zgf g l N F=zhc g N' F'/\zge g l N F=zhb g N' F'
 | [],K,Q,N,F,_,hM=>⟨N,F,hM.congr λ b=>⟨.inl,λ h=>h.resolve_right (by rintro⟨s,hs,_⟩;cases hs)⟩,rfl,rfl⟩
 | y :: r,K,Q,N,F,hS,hM=>by
  have hl:=G.2.2
  obtain⟨N',F',h1,h2,h3⟩:=zFX G r (K+1) _ _ _ (λ s hs=>hS s (dqf _ hs)) (zCn hM (zCo (f:=zqZ g y) (n:=g.len) (by omega)))
  refine⟨N',F',?_,?_,?_⟩
  ·rw [show K + (y :: r).length = K + 1 + r.length by rw [dqr]; omega]
   refine h1.congr λ b=>?_
   constructor
   ·rintro ((h | h) | ⟨s, hs, e⟩)
    ·exact .inl h
    ·exact .inr ⟨y,dqj,h⟩
    ·exact .inr ⟨s,dqf _ hs,e⟩
   ·rintro (h | ⟨s, hs, e⟩)
    ·exact .inl (.inl h)
    ·rcases dqq.1 hs with rfl | hs
     ·exact .inl (.inr e)
     ·exact .inr ⟨s,hs,e⟩
  ·rw [← h2]
   exact (zCp g (by omega) y (zqZ g y) (λ i hi=>zpe (hS y dqj) (G.1 i hi)) (zgf g r) (zge g r) N F g.len Fuel 0 (by omega) (by simp only[Fuel];omega)).1
  ·rw [← h3]
   exact (zCp g (by omega) y (zqZ g y) (λ i hi=>zpe (hS y dqj) (G.1 i hi)) (zgf g r) (zge g r) N F g.len Fuel 0 (by omega) (by simp only[Fuel];omega)).2
theorem zFY {g : Sl Gate} (G : zbE g) {K : Nat} {Q : Nat → Prop} {N : Nat} {F : List Int → Option (List Int)} (hM : MpOk 1099511627776 K Q N F) :
  ∃ N' F',MpOk 1099511627776 (K+2304) (λ b=>Q b\/∃ s,s∈cst g/\b=zem (zqZ g s) g.len) N' F'/\zhe g N F=zhc g N' F'/\zhd g N F=zhb g N' F':=by
 obtain⟨N',F',h1,h2,h3⟩:=zFX G (cst g) K Q N F (λ s hs=>zvn G hs) hM
 obtain⟨e1,e2⟩:=zCa g G
 have hl:=ztN G
 refine⟨N',F',⟨h1.val,h1.num,by have:=h1.few;omega,h1.low⟩,?_,?_⟩
 ·rw [← h2]
  have e:zhe g N F=(decide (p77 (⟨g⟩:list)=true) && zgf g (s77 (⟨g⟩:list)) N F):=rfl
  rw[e,e1,e2];rfl
 ·rw [← h3]
  have e:zhd g N F=zge g (s77 (⟨g⟩:list)) N F:=rfl
  rw[e,e2]
theorem zFZ {g:Sl Gate}(G:zbE g):∀ (m k i K:Nat) (Q:Nat->Prop) (N:Nat) (F:List Int->Option (List Int)),i+m=g.len->m < k->MpOk 1099511627776 K Q N F ->
  ∃ N' F',MpOk 1099511627776 (K+m) (λ b=>Q b\/∃ a,i<=a/\a < g.len/\b=zem (zwE g a) g.len) N' F'/\zes g k (i:Int) N F=zhe g N' F'/\zer g k (i:Int) N F=zhd g N' F'
 | _,0,_,_,_,_,_,_,h,_=>absurd h (dqW _)
 | 0,k+1,i,K,Q,N,F,hi,_,hM=>by
  refine⟨N,F,hM.congr λ b=>⟨.inl,λ h=>h.resolve_right (by rintro⟨a,h1,h2,_⟩;omega)⟩,?_,?_⟩
  ·show zid g (zes g k) (i : Int) N F = _
   generalize zes g k=P
   unfold zid
   rw[dqF (show ¬ (i:Int) < (g.len:Int) by omega),dqB]
  ·show zic g (zer g k) (i : Int) N F = _
   generalize zer g k=S
   unfold zic
   rw[dqF (show ¬ (i:Int) < (g.len:Int) by omega),dqB]
 | m+1,k+1,i,K,Q,N,F,hi,hk,hM=>by
  have hl:=G.2.2
  have hil:i < g.len:=by omega
  obtain⟨N',F',h1,h2,h3⟩:=zFZ G m k (i+1) (K+1) _ _ _ (by omega) (by omega) (zCn hM (zCo (f:=zwE g i) (n:=g.len) (by omega)))
  have h44:∀ j,j < g.len->s44 (g.get i).Low (g.get j).Low (g.get j).High=zwE g i j:=λ j _=>zvh _ _ _
  refine⟨N',F',?_,?_,?_⟩
  ·rw [show K + (m + 1) = K + 1 + m by omega]
   refine h1.congr λ b=>?_
   constructor
   ·rintro ((h | h) | ⟨a, ha, hb, e⟩)
    ·exact .inl h
    ·exact .inr ⟨i,dqt _,hil,h⟩
    ·exact .inr ⟨a,by omega,hb,e⟩
   ·rintro (h | ⟨a, ha, hb, e⟩)
    ·exact .inl (.inl h)
    ·by_cases e' : a = i
     ·subst e';exact .inl (.inr e)
     ·exact .inr ⟨a,by omega,hb,e⟩
  ·rw [← h2]
   show zid g (zes g k) (i:Int) N F=_
   have:=(zCq g (by omega) (g.get i).Z (g.get i).Low (g.get i).High (i:Int) (zwE g i) h44 (zes g k) (zer g k) N F g.len Fuel 0 (by omega) (by simp only[Fuel];omega)).1
   rw[za6 (n:=g.len) hil (by omega)] at this
   generalize zes g k=P at this ⊢
   have e:zid g P (i:Int) N F=cond (decide ((i:Int) < (g.len:Int))) (decide (0<=(i:Int)/\(i:Int) < (g.len:Int)) && ze2 P g Fuel (zem (zwE g i) 0:Int) (i:Int) 0 (g.get (i:Int).toNat).Z (g.get (i:Int).toNat).Low (g.get (i:Int).toNat).High N F) (zhe g N F):=rfl
   rw[e,dqT (show (i:Int) < (g.len:Int) by omega),dqT (show 0<=(i:Int)/\(i:Int) < (g.len:Int) by omega),dqN,dqA,Bool.true_and]
   exact this
  ·rw [← h3]
   show zic g (zer g k) (i:Int) N F=_
   have:=(zCq g (by omega) (g.get i).Z (g.get i).Low (g.get i).High (i:Int) (zwE g i) h44 (zes g k) (zer g k) N F g.len Fuel 0 (by omega) (by simp only[Fuel];omega)).2
   rw[za6 (n:=g.len) hil (by omega)] at this
   generalize zer g k=S at this ⊢
   have e:zic g S (i:Int) N F=cond (decide ((i:Int) < (g.len:Int))) (ze1 S g Fuel (zem (zwE g i) 0:Int) (i:Int) 0 (g.get (i:Int).toNat).Z (g.get (i:Int).toNat).Low (g.get (i:Int).toNat).High N F) (zhd g N F):=rfl
   rw[e,dqT (show (i:Int) < (g.len:Int) by omega),dqN,dqA]
   exact this
theorem zOn (g:Sl Gate) (G:zbE g):p30 g=true/\∃ M,zwD (s30 g) M/\M.Pairwise ltS/\∀ A,A∈M↔∃ h,Cnd g h/\A=ixs h g.len/\zCs (Cnd g) g.len h:=by
 have hl:=G.2.2
 obtain⟨f1,f2⟩:=zCb g G
 unfold p30 s30
 rw[f1]
 cases hf:s49 (⟨g⟩:list)
 ·simp only [decide_true, Bool.true_and, dqB]
  have nf : ¬ zjX g:=λ h=>by rw[f2.2 h] at hf;cases hf
  obtain⟨N,F,hM,e1,e2⟩:=zFY G (zvA 1099511627776)
  rw[e1,e2]
  refine zvB (C:=Cnd g) (by omega) (by omega) hM λ b=>?_
  constructor
  ·rintro (h | ⟨s, hs, e⟩)
   ·exact h.elim
   ·exact⟨_,.inr ⟨s,hs,rfl⟩,e⟩
  ·rintro ⟨h, (⟨h1, _⟩ | ⟨s, hs, rfl⟩), e⟩
   ·exact absurd h1 nf
   ·exact .inr ⟨s,hs,e⟩
 ·simp only [decide_true, Bool.true_and, dqA]
  have fl:zjX g:=f2.1 hf
  obtain⟨N1,F1,hM1,e1,e2⟩:=zFZ G g.len Fuel 0 0 _ _ _ (by omega) (by simp only[Fuel];omega) (zvA 1099511627776)
  obtain⟨N,F,hM,e3,e4⟩:=zFY G hM1
  have a1:ztw g (0:Int) 0 (λ _=>none)=zhc g N F:=e1.trans e3
  have a2:ztv g (0:Int) 0 (λ _=>none)=zhb g N F:=e2.trans e4
  rw[a1,a2]
  refine zvB (C:=Cnd g) (by omega) (by omega) hM λ b=>?_
  rw[zkV fl]
  constructor
  ·rintro ((h | ⟨a, _, ha, e⟩) | ⟨s, hs, e⟩)
   ·exact h.elim
   ·exact⟨_,.inl ⟨fl,a,ha,rfl⟩,e⟩
   ·cases hs
  ·rintro ⟨h, (⟨_, a, ha, rfl⟩ | ⟨s, hs, rfl⟩), e⟩
   ·exact .inl (.inr ⟨a,Nat.zero_le _,ha,e⟩)
   ·rw[zkV fl] at hs;cases hs
end Go.Proofs
namespace Go.Proofs
open Go Go.Pm
set_option maxRecDepth 100000
set_option linter.unusedVariables false
attribute [local irreducible] Go.Pm.vcFun Go.Pm.vc Go.Pm.vcIter
end Go.Proofs
namespace Go.Proofs
open Go Go.Pm
set_option maxRecDepth 100000
set_option linter.unusedVariables false
section
variable {l:Sl (Sl Int)}{M:List (List Nat)}{s:Sl Int}{A:List Nat}(hl:zwD l M) (hs:IsN s A) (hM:M.Pairwise ltS) (hlM:M.length<=100000) (hel:∀ B∈M,B.length<=1000)
include hl hs hM hlM hel
end
end Go.Proofs
namespace Go.Proofs
open Go Go.Pm
set_option maxRecDepth 100000
set_option linter.unusedVariables false
def zON (A B:List Nat) (k i:Nat):Prop:=∀ x∈B.take k,∀ y∈A.drop i,x < y
theorem zCv {L:List Nat}(h:L.Pairwise (· < ·)) {i j:Nat}(hi:i < L.length) (hj:j < L.length) (hij:i < j):L[i] < L[j]:=List.pairwise_iff_getElem.1 h i j hi hj hij
section
variable {a b:Sl Int}{A B:List Nat}(ha:IsN a A) (hb:IsN b B) (hA:A.Pairwise (· < ·)) (hB:B.Pairwise (· < ·)) (hlA:A.length<=1000000) (hlB:B.length<=1000000)
include ha hb hA hB hlA hlB
theorem zRa (P0:Int->Int->Bool) (S0:Int->Int->Bool) (i:Nat) (hi:i < A.length):∀ (m f k:Nat),k+m=B.length->m < f->zON A B k i ->
  (A[i]∈B/\∃ k',k' < B.length/\zON A B k' (i+1)/\zdB P0 a b f (k:Int) (i:Int)=P0 (k':Int) ((i+1:Nat):Int)/\zdA S0 a b f (k:Int) (i:Int)=S0 (k':Int) ((i+1:Nat):Int)) \/
  (A[i] ∉ B/\zdB P0 a b f (k:Int) (i:Int)=true/\zdA S0 a b f (k:Int) (i:Int)=false)
 | _,0,_,_,h,_=>absurd h (dqW _)
 | 0,f+1,k,hk,_,hbef=>by
  have e:k=B.length:=by omega
  subst e
  refine .inr ⟨λ hm=>?_,?_,?_⟩
  ·have := hbef A[i] (by rw [List.take_length]; exact hm) A[i] (by rw [drop_at hi]; exact dqj)
   omega
  ·show zfs P0 a b (zdB P0 a b f) _ _ = _
   generalize zdB P0 a b f=P
   unfold zfs zjM
   rw[hb.1,dqF (show ¬ (B.length:Int) < (B.length:Int) by omega),dqB,beq_self_eq_true,dqA]
  ·show zfr S0 a b (zdA S0 a b f) _ _ = _
   generalize zdA S0 a b f=S
   unfold zfr zjL
   rw[hb.1,dqF (show ¬ (B.length:Int) < (B.length:Int) by omega),dqB,beq_self_eq_true,dqA]
 | m+1,f+1,k,hk,hf,hbef=>by
  have hkl:k < B.length:=by omega
  have d1:decide ((k:Int) < (B.length:Int))=true:=dqT (by omega)
  have d2:decide (0<=(k:Int)/\(k:Int) < (B.length:Int))=true:=dqT (by omega)
  have d3:decide (0<=(i:Int)/\(i:Int) < (A.length:Int))=true:=dqT (by omega)
  have d4:((k:Int) == (B.length:Int))=false:=dqU.2 (by omega)
  by_cases hlt:B[k] < A[i]
  ·have hb2:zON A B (k+1) i:=λ x hx y hy=>by
    rw[List.take_succ_eq_append_getElem hkl,dqg,dqi] at hx
    rcases hx with hx | rfl
    ·exact hbef x hx y hy
    ·rw [drop_at hi] at hy
     rcases dqq.1 hy with rfl | hy
     ·exact hlt
     ·obtain ⟨j, hj, rfl⟩ := List.getElem_of_mem hy
      rw[List.getElem_drop]
      rw[List.length_drop] at hj
      have:=zCv hA hi (j:=i+1+j) (by omega) (by omega)
      omega
   have e1:zdB P0 a b (f+1) (k:Int) (i:Int)=zdB P0 a b f ((k+1:Nat):Int) (i:Int):=by
    show zfs P0 a b (zdB P0 a b f) _ _=_
    generalize zdB P0 a b f=P
    unfold zfs
    rw[hb.1,ha.1,d1,d2,d3,dqN,dqN,hb.2 k hkl,ha.2 i hi,dqT (show (B[k]:Int) < (A[i]:Int) by omega),za6 (n:=B.length) hkl (by omega)];rfl
   have e2:zdA S0 a b (f+1) (k:Int) (i:Int)=zdA S0 a b f ((k+1:Nat):Int) (i:Int):=by
    show zfr S0 a b (zdA S0 a b f) _ _=_
    generalize zdA S0 a b f=S
    unfold zfr
    rw[hb.1,d1,dqN,dqN,hb.2 k hkl,ha.2 i hi,dqT (show (B[k]:Int) < (A[i]:Int) by omega),za6 (n:=B.length) hkl (by omega)];rfl
   rw[e1,e2]
   exact zRa P0 S0 i hi m f (k+1) (by omega) (by omega) hb2
  ·by_cases heq : B[k] = A[i]
   ·refine .inl ⟨by rw [← heq]; exact List.getElem_mem _, k, hkl, fun x hx y hy => hbef x hx y ?_, ?_, ?_⟩
    ·rw[drop_at hi];exact dqf _ hy
    ·show zfs P0 a b (zdB P0 a b f) _ _ = _
     generalize zdB P0 a b f=P
     unfold zfs zjM
     rw[hb.1,ha.1,d1,d2,d3,d4,dqN,dqN,hb.2 k hkl,ha.2 i hi,dqF (show ¬ (B[k]:Int) < (A[i]:Int) by omega),heq,bne_self_eq_false,za6 (n:=A.length) hi (by omega)];rfl
    ·show zfr S0 a b (zdA S0 a b f) _ _ = _
     generalize zdA S0 a b f=S
     unfold zfr zjL
     rw[hb.1,d1,d4,dqN,dqN,hb.2 k hkl,ha.2 i hi,dqF (show ¬ (B[k]:Int) < (A[i]:Int) by omega),heq,bne_self_eq_false,za6 (n:=A.length) hi (by omega)];rfl
   ·have hne : ((B[k] : Int) != (A[i] : Int)) = true := bne_iff_ne.2 (by omega)
    refine .inr ⟨λ hm=>?_,?_,?_⟩
    ·obtain ⟨j, hj, e⟩ := List.getElem_of_mem hm
     by_cases hjk:j < k
     ·have := hbef B[j] (List.mem_iff_getElem.2 ⟨j, by rw [List.length_take]; omega, by rw [List.getElem_take]⟩) A[i] (by rw [drop_at hi]; exact dqj)
      omega
     ·by_cases hj2 : j = k
      ·subst hj2;exact heq e
      ·have := zCv hB hkl hj (by omega)
       omega
    ·show zfs P0 a b (zdB P0 a b f) _ _ = _
     generalize zdB P0 a b f=P
     unfold zfs zjM
     rw[hb.1,ha.1,d1,d2,d3,d4,dqN,dqN,hb.2 k hkl,ha.2 i hi,dqF (show ¬ (B[k]:Int) < (A[i]:Int) by omega),hne];rfl
    ·show zfr S0 a b (zdA S0 a b f) _ _ = _
     generalize zdA S0 a b f=S
     unfold zfr zjL
     rw[hb.1,d1,d4,dqN,dqN,hb.2 k hkl,ha.2 i hi,dqF (show ¬ (B[k]:Int) < (A[i]:Int) by omega),hne];rfl
theorem zOo:∀ (m f i k:Nat),i+m=A.length->m < f->k<=B.length->zON A B k i ->
  zgh a b f (k:Int) (i:Int)=true/\(zgg a b f (k:Int) (i:Int)=true↔∀ x∈A.drop i,x∈B)
 | _,0,_,_,_,h,_,_=>absurd h (dqW _)
 | 0,f+1,i,k,hi,_,_,_=>by
  show zih a b (zgh a b f) _ _=_/\(zif a b (zgg a b f) _ _=_↔_)
  generalize zgh a b f=P
  generalize zgg a b f=S
  unfold zih zif
  rw[ha.1,dqF (show ¬ (i:Int) < (A.length:Int) by omega),dqB,dqB,dqO (show A.length<=i by omega)]
  exact⟨rfl,λ _ x hx=>(by cases hx),λ _=>rfl⟩
 | m+1,f+1,i,k,hi,hf,hk,hbef=>by
  have hil:i < A.length:=by omega
  have h:=zRa ha hb hA hB hlA hlB (zgh a b f) (zgg a b f) i hil (B.length - k) Fuel k (by omega) (by simp only[Fuel];omega) hbef
  show zih a b (zgh a b f) _ _=_/\(zif a b (zgg a b f) _ _=_↔_)
  have e1:zih a b (zgh a b f) (k:Int) (i:Int)=zdB (zgh a b f) a b Fuel (k:Int) (i:Int):=by
   unfold zih
   rw[ha.1,dqT (show (i:Int) < (A.length:Int) by omega),dqA];rfl
  have e2:zif a b (zgg a b f) (k:Int) (i:Int)=zdA (zgg a b f) a b Fuel (k:Int) (i:Int):=by
   unfold zif
   rw[ha.1,dqT (show (i:Int) < (A.length:Int) by omega),dqA];rfl
  rw[e1,e2,drop_at hil]
  rcases h with ⟨hm,k',hk',hb',h1,h2⟩ | ⟨hm,h1,h2⟩
  ·obtain ⟨i1, i2⟩ := zOo m f (i + 1) k' (by omega) (by omega) (by omega) hb'
   rw[h1,h2,i1,i2]
   refine⟨rfl,λ h x hx=>?_,λ h x hx=>h x (dqf _ hx)⟩
   rcases dqq.1 hx with rfl | hx
   ·exact hm
   ·exact h x hx
  ·rw [h1, h2]
   exact⟨rfl,λ h=>(by cases h),λ h=>absurd (h _ dqj) hm⟩
theorem zCw:p16 a b=true/\(s16 a b=true↔∀ x∈A,x∈B):=by
 have h:=zOo ha hb hA hB hlA hlB A.length Fuel 0 0 (by omega) (by simp only[Fuel];omega) (Nat.zero_le _) (λ x hx=>by rw[List.take_zero] at hx;cases hx)
 rw[List.drop_zero] at h
 exact h
end
end Go.Proofs
namespace Go.Proofs
open Go Go.Pm
set_option maxRecDepth 100000
set_option linter.unusedVariables false
attribute [local irreducible] Go.Pm.vcFun Go.Pm.vc Go.Pm.vcIter
end Go.Proofs
namespace Go.Proofs
open Go Go.Pm
set_option maxRecDepth 100000
set_option linter.unusedVariables false
def zOp (M:List (List Nat)):Prop:=∀ A∈M,A.Pairwise (· < ·)/\A.length<=1000
section
variable {lv:Sl (Sl Int)}{AG:List (List Nat)}(hlv:zwD lv AG) (hAl:AG.length<=10000) (hAG:zOp AG) (least:Int)
include hlv hAl hAG
end
section
variable {al:Sl (Sl Int)}{M:List (List Nat)}(hal:zwD al M) (hMl:M.length<=10000) (hGM:zOp M) (least:Int)
include hal hMl hGM
end
end Go.Proofs
namespace Go.Proofs
open Go Go.Pm
set_option maxRecDepth 100000
set_option linter.unusedVariables false
theorem zKd {l:Line}{g:Sl Gate}(hg:g.len<=40){f:Nat->Bool}(hf:∀ i,i < g.len->s38 l (g.get i)=f i):p14 l g=true/\IsN (s14 l g) (ixs f g.len):=by
 obtain⟨a,b⟩:=zOb l g hg
 refine⟨a,?_⟩
 rw[b]
 exact ziT (Inv:=λ i v=>IsN v (ixs f i)) (n:=g.len) (λ i v hi hv=>by
  unfold addI
  rw[hf i hi,zvy]
  cases hq:f i
  ·rw[dqG (by simp),List.append_nil];exact hv
  ·rw[dqP rfl];exact zpj hv i) g.len 0 _ (by omega) ztR
noncomputable def AG (g:Sl Gate):List (List Nat) :=
 open Classical in if zjX g then (List.range g.len).map (λ a=>ixs (zwE g a) g.len) else (cst g).map (λ s=>ixs (zqZ g s) g.len)
theorem ziW {g:Sl Gate}{A:List Nat} : A∈AG g↔∃ h,Cnd g h/\A=ixs h g.len:=by
 unfold AG
 by_cases f:zjX g
 ·rw [dqP f, dqz]
  constructor
  ·rintro⟨a,ha,rfl⟩;exact⟨_,.inl ⟨f,a,List.mem_range.1 ha,rfl⟩,rfl⟩
  ·rintro ⟨h, (⟨_, a, ha, rfl⟩ | ⟨s, hs, rfl⟩), rfl⟩
   ·exact⟨a,List.mem_range.2 ha,rfl⟩
   ·rw[zkV f] at hs;cases hs
 ·rw [dqG f, dqz]
  constructor
  ·rintro⟨s,hs,rfl⟩;exact⟨_,.inr ⟨s,hs,rfl⟩,rfl⟩
  ·rintro ⟨h, (⟨f', _⟩ | ⟨s, hs, rfl⟩), rfl⟩
   ·exact absurd f' f
   ·exact⟨s,hs,rfl⟩
theorem zOq {g:Sl Gate}(G:zbE g):(AG g).length<=2304:=by
 unfold AG
 have:=ztN G
 have:=G.2.2
 split
 ·rw[List.length_map,List.length_range];omega
 ·rw[List.length_map];omega
def stl (x:Int):straight:=⟨0,x,1⟩
theorem zEl {g:Sl Gate}{a i:Nat} : zcS (stl (g.get a).Low) (g.get i)=zwE g a i:=by
 unfold zcS zwE plc stl
 refine decide_eq_decide.2 ?_
 show (g.get i).Low * 1<=(g.get a).Low+0 * (g.get i).Z/\(g.get a).Low+0 * (g.get i).Z<=(g.get i).High * 1↔_
 rw[Int.zero_mul,Int.add_zero,Int.mul_one,Int.mul_one]
end Go.Proofs
namespace Go.Proofs
open Go Go.Pm
set_option maxRecDepth 100000
set_option linter.unusedVariables false
attribute [local irreducible] Go.Pm.vcFun Go.Pm.vc Go.Pm.vcIter
end Go.Proofs
namespace Go.Proofs
open Go Go.Pm
set_option maxRecDepth 100000
set_option linter.unusedVariables false
def ziX (M:List (List Nat)) (X:List Nat):Prop:=X∈M/\∀ B∈M,B.length < X.length\/(B.length=X.length/\¬ ltS B X)
theorem zqT {M:List (List Nat)}{X B:List Nat}(h:ziX M X):(B.length < X.length\/(B.length=X.length/\¬ ltS B X)->ziX (M ++ [B]) X)/\(X.length < B.length\/(B.length=X.length/\ltS B X)->ziX (M ++ [B]) B):=by
 obtain⟨h1,h2⟩:=h
 refine⟨λ h=>⟨List.mem_append_left _ h1,λ C hC=>?_⟩,λ h=>⟨by simp,λ C hC=>?_⟩⟩
 ·rcases dqg.1 hC with hC | hC
  ·exact h2 C hC
  ·rw[dqi] at hC;subst hC;exact h
 ·rcases dqg.1 hC with hC | hC
  ·rcases h with h | ⟨h, k⟩
   ·rcases h2 C hC with a | ⟨a,b⟩ <;> exact .inl (by omega)
   ·rcases h2 C hC with a | ⟨a, b⟩
    ·exact .inl (by omega)
    ·exact .inr ⟨by omega,λ hl=>b (zhq hl k)⟩
  ·rw[dqi] at hC;subst hC;exact .inr ⟨rfl,λ h=>zpi h⟩
theorem zCx {M N:List (List Nat)}{X Y:List Nat}(hX:ziX M X) (hY:ziX N Y) (h1:X∈N) (h2:Y∈M):X=Y:=by
 have a:=hX.2 Y h2
 have b:=hY.2 X h1
 refine Classical.byContradiction λ hne=>?_
 rcases a with a | ⟨a,a2⟩
 ·rcases b with b | ⟨b,_⟩ <;> omega
 ·rcases b with b | ⟨b, b2⟩
  ·omega
  ·exact (zqQ hne).elim b2 a2
theorem zvC (M:List (List Nat)) (h:0 < M.length):ziX (M.take 1) M[0]:=by
 obtain⟨x,l,rfl⟩:=List.exists_cons_of_length_pos h
 exact⟨by simp,λ B hB=>by
  rw[List.take_succ_cons,List.take_zero,dqi] at hB
  subst hB;exact .inr ⟨rfl,λ h=>zpi h⟩⟩
theorem zKe {l:Sl (Sl Int)}{M:List (List Nat)}(hl:zwD l M) (hM:M.Pairwise ltS) (hMl:M.length<=10000) (t:Sl (Sl Int)) (ht:t.len=M.length - 1) (htg:∀ i,t.get i=l.get (i+1)) (h0:0 < M.length):∀ (m k i:Nat) (b:Sl Int) (X:List Nat),i+1+m=M.length->m < k->IsN b X->ziX (M.take (i+1)) X ->
  zg4 l k b t (i:Int)=true/\∃ Y,IsN (zg3 l k b t (i:Int)) Y/\ziX M Y
 | _,0,_,_,_,_,h,_,_=>absurd h (dqW _)
 | 0,k+1,i,b,X,hi,_,hb,hX=>by
  show zjE l (zg4 l k) _ _ _=_/\∃ Y,IsN (zjD l (zg3 l k) _ _ _) Y/\_
  generalize zg4 l k=P
  generalize zg3 l k=S
  unfold zjE zjD
  rw[hl.1,dqF (show ¬ (i:Int) < (((M.length:Int) - (1:Int)).toNat:Int) by omega),dqB,dqB]
  rw[List.take_of_length_le (by omega)] at hX
  exact⟨rfl,X,hb,hX⟩
 | m+1,k+1,i,b,X,hi,hk,hb,hX=>by
  have hil:i+1 < M.length:=by omega
  have hst:=zqT (B:=M[i+1]) hX
  rw[<- List.take_succ_eq_append_getElem hil] at hst
  have hXm:X∈M.take (i+1):=hX.1
  have hlt:ltS X M[i+1]:=by
   obtain⟨j,hj,rfl⟩:=List.getElem_of_mem hXm
   rw[List.length_take] at hj
   rw[List.getElem_take]
   exact List.pairwise_iff_getElem.1 hM j (i+1) (by omega) hil (by omega)
  have hnl : ¬ ltS M[i+1] X:=λ h=>zpi (zhq hlt h)
  have hg:IsN (l.get (i+1)) M[i+1]:=hl.2 (i+1) hil
  have keep:=λ h=>zKe hl hM hMl t ht htg h0 m k (i+1) b X (by omega) (by omega) hb (hst.1 h)
  have take:=λ h=>zKe hl hM hMl t ht htg h0 m k (i+1) (l.get (i+1)) M[i+1] (by omega) (by omega) hg (hst.2 h)
  show zjE l (zg4 l k) _ _ _=_/\∃ Y,IsN (zjD l (zg3 l k) _ _ _) Y/\_
  generalize zg4 l k=P at keep take ⊢
  generalize zg3 l k=S at keep take ⊢
  unfold zjE zjD zsZ zsY s31
  rw[hl.1,ht,dqN,htg i,hg.1,hb.1,dqT (show (i:Int) < (((M.length:Int) - (1:Int)).toNat:Int) by omega),dqT (show 0<=(i:Int)/\(i:Int) < ((M.length - 1:Nat):Int) by omega),za6 (n:=M.length) (by omega) (by omega)]
  by_cases h1:(M[i+1].length:Int) > (X.length:Int)
  ·rw[dqT h1];exact take (.inl (by omega))
  ·rw [dqF h1]
   by_cases h2:M[i+1].length=X.length
   ·exact keep (.inr ⟨h2,hnl⟩)
   ·exact keep (.inl (by omega))
theorem zEm {l:Sl (Sl Int)}{M:List (List Nat)}(hl:zwD l M) (hM:M.Pairwise ltS) (hMl:M.length<=10000) (h0:0 < M.length):p29 l=true/\∃ Y,IsN (s29 l) Y/\ziX M Y:=by
 obtain⟨a,b⟩:=zKe hl hM hMl ⟨((l.len:Int) - (1:Int)).toNat,λ i=>l.get (i+1)⟩ (by show ((l.len:Int) - (1:Int)).toNat=_;rw[hl.1];omega) (λ _=>rfl) h0 (M.length - 1) Fuel 0 (l.get 0) M[0] (by omega) (by simp only[Fuel];omega) (hl.2 0 h0) (zvC M h0)
 have e1:p29 l=(decide (0<=(0:Int)/\(0:Int) < (l.len:Int)) && (decide (0<=(1:Int)/\(1:Int)<=(l.len:Int)/\(l.len:Int)<=(l.len:Int)) && zg4 l Fuel (l.get 0) ⟨((l.len:Int) - (1:Int)).toNat,λ i=>l.get (i+1)⟩ ((0:Nat):Int))):=rfl
 have e2:s29 l=zg3 l Fuel (l.get 0) ⟨((l.len:Int) - (1:Int)).toNat,λ i=>l.get (i+1)⟩ ((0:Nat):Int):=rfl
 rw[e1,e2,a]
 refine⟨?_,b⟩
 rw[hl.1,dqT (show 0<=(0:Int)/\(0:Int) < (M.length:Int) by omega),dqT (show 0<=(1:Int)/\(1:Int)<=(M.length:Int)/\(M.length:Int)<=(M.length:Int) by omega)];rfl
theorem zEn {v:Sl (Sl Int)}{M:List (List Nat)}(hv:zwD v M) (hM:M.Pairwise ltS) (least:Int):∃ L,zwD ⟨delN v.len (λ i=>decide (((v.get i).len:Int) < least)),zwC v.len (λ i=>decide (((v.get i).len:Int) < least)) v.get⟩ L/\L.Pairwise ltS/\∀ A,A∈L↔A∈M/\least<=(A.length:Int):=by
 have hI:∀ i∈(List.range v.len).filter (λ i=>!decide (((v.get i).len:Int) < least)),i < M.length:=λ i hi=>by
  have:=List.mem_range.1 (List.mem_filter.1 hi).1
  rw[hv.1] at this;exact this
 refine⟨((List.range v.len).filter (λ i=>!decide (((v.get i).len:Int) < least))).map λ i=>M.getD i [],?_,?_,λ A=>?_⟩
 ·refine ⟨by show delN _ _ = _; rw [List.length_map]; rfl, fun k hk => ?_⟩
  rw[List.length_map] at hk
  have hm:=hI _ (List.getElem_mem hk)
  have e:zwC v.len (λ i=>decide (((v.get i).len:Int) < least)) v.get k=v.get (((List.range v.len).filter (λ i=>!decide (((v.get i).len:Int) < least)))[k]):=by
   unfold zwC
   rw[List.getD_eq_getElem?_getD,dqD hk];rfl
  show IsN (zwC v.len (λ i=>decide (((v.get i).len:Int) < least)) v.get k) _
  rw[e,List.getElem_map,List.getD_eq_getElem?_getD,dqD hm]
  exact hv.2 _ hm
 ·rw [List.pairwise_map]
  refine List.Pairwise.imp_of_mem (fun {i j} hi hj hij=>?_) (List.Pairwise.filter _ List.pairwise_lt_range)
  have h1:=hI i hi
  have h2:=hI j hj
  rw[List.getD_eq_getElem?_getD,dqD h1,List.getD_eq_getElem?_getD,dqD h2]
  exact List.pairwise_iff_getElem.1 hM i j h1 h2 hij
 ·rw [dqz]
  constructor
  ·rintro ⟨i, hi, rfl⟩
   have h1:=hI i hi
   have h2:=(List.mem_filter.1 hi).2
   rw[(hv.2 i h1).1] at h2
   rw[List.getD_eq_getElem?_getD,dqD h1]
   refine⟨List.getElem_mem _,?_⟩
   rw[Bool.not_eq_true',decide_eq_false_iff_not] at h2
   show least<=(M[i].length:Int)
   omega
  ·rintro ⟨hA, hl⟩
   obtain⟨i,hi,rfl⟩:=List.getElem_of_mem hA
   refine⟨i,List.mem_filter.2 ⟨List.mem_range.2 (by rw[hv.1];exact hi),?_⟩,?_⟩
   ·rw[(hv.2 i hi).1,Bool.not_eq_true',decide_eq_false_iff_not];omega
   ·rw[List.getD_eq_getElem?_getD,dqD hi];rfl
theorem ztU {f g:Nat->Bool}{n:Nat}(h:∀ i,i < n->f i=true->g i=true):(ixs f n).Sublist (ixs g n):=by
 have e:ixs f n=(ixs g n).filter f:=by
  unfold ixs
  rw[List.filter_filter]
  refine List.filter_congr λ i hi=>?_
  have:=h i (List.mem_range.1 hi)
  cases hf:f i
  ·simp
  ·rw[this hf];rfl
 rw[e]
 exact List.filter_sublist
theorem zCy {f g:Nat->Bool}{n:Nat} : (∀ x∈ixs f n,x∈ixs g n)↔∀ i,i < n->f i=true->g i=true :=
 ⟨λ h i hi hf=>(zcY.1 (h i (zcY.2 ⟨hi,hf⟩))).2,λ h x hx=>zcY.2 ⟨(zcY.1 hx).1,h x (zcY.1 hx).1 (zcY.1 hx).2⟩⟩
theorem zEo {g:Sl Gate}{h:Nat->Bool}(hb:ziX (AG g) (ixs h g.len)):zCs (Cnd g) g.len h:=λ h' hc hle i hi hf=>by
 have hs:=ztU hle
 have h2:=hb.2 (ixs h' g.len) (ziW.2 ⟨h',hc,rfl⟩)
 have h3:=hs.length_le
 have e:=hs.eq_of_length (by rcases h2 with h2 | h2 <;> omega)
 rw[ztS e i hi];exact hf
theorem zF0 {g:Sl Gate}(G:zbE g):0 < (AG g).length:=by
 unfold AG
 split
 ·rw[List.length_map,List.length_range];exact G.2.1
 ·rename_i nf
  obtain⟨i,hi⟩:=Classical.not_forall.1 nf
  rw[Classical.not_imp] at hi
  rw[List.length_map]
  have:∃ s,s∈cst g:=by
   refine Classical.byContradiction λ hn=>?_
   have h0:∀ m k:Nat,True:=λ _ _=>trivial
   exact hn ⟨_,zOc (a:=i) (b:=0) hi.1 (by omega) hi.2 (.inl rfl) (.inl rfl)⟩
  obtain⟨s,hs⟩:=this
  exact List.length_pos_of_mem hs
end Go.Proofs
namespace Go.Proofs
open Go Go.Pm
set_option maxRecDepth 100000
set_option linter.unusedVariables false
theorem zvD {g:Sl Gate}(G:zbE g){set:Sl Int}(hI:inR g set) (h1:1<=set.len) (h2:set.len<=24):s39 g set=true↔∃ s:straight,0 < s.den/\∀ a,a < set.len->zcS s (g.get (set.get a).toNat)=true:=by
 obtain⟨p1,p2⟩:=zvu g set
 rw[(zCh g G set hI h1 h2).2]
 constructor
 ·intro ⟨s, hd, ha⟩
  exact⟨s,hd,λ a h=>by rw[<- p2 a h];exact ha a (by omega)⟩
 ·intro ⟨s, hd, ha⟩
  exact⟨s,hd,λ a h=>by rw[p2 a (by omega)];exact ha a (by omega)⟩
theorem zOr (a b:Int):(two a b).get 0=a:=rfl
theorem zOs (a b:Int):(two a b).get 1=b:=rfl
theorem zCz (a b c:Int):(three a b c).get 0=a:=rfl
theorem zCA (a b c:Int):(three a b c).get 1=b:=rfl
theorem zCB (a b c:Int):(three a b c).get 2=c:=rfl
section
variable {g:Sl Gate}(G:zbE g)
include G
theorem zvE {y x:Nat}(h1:y < x) (h2:x < g.len) : ¬ zKa g y x↔∃ s:straight,0 < s.den/\zcS s (g.get y)=true/\zcS s (g.get x)=true:=by
 unfold zKa
 rw[Bool.not_eq_false,zvD G (zFT (by omega) h2) (by decide:1<=2) (by decide:2<=24)]
 constructor
 ·rintro ⟨s, hd, h⟩
  have a:=h 0 (by decide:0 < 2)
  have b:=h 1 (by decide:1 < 2)
  rw[zOr,dqN] at a
  rw[zOs,dqN] at b
  exact⟨s,hd,a,b⟩
 ·rintro ⟨s, hd, a, b⟩
  refine⟨s,hd,λ i hi=>?_⟩
  have hi:i < 2:=hi
  match i,hi with
  | 0,_=>rw[zOr,dqN];exact a
  | 1,_=>rw[zOs,dqN];exact b
theorem znK {z y x:Nat}(h0:z < y) (h1:y < x) (h2:x < g.len) : ¬ zFU g z y x↔∃ s:straight,0 < s.den/\zcS s (g.get z)=true/\zcS s (g.get y)=true/\zcS s (g.get x)=true:=by
 unfold zFU
 rw[Bool.not_eq_false,zvD G (zvt (by omega) (by omega) h2) (by decide:1<=3) (by decide:3<=24)]
 constructor
 ·rintro ⟨s, hd, h⟩
  have a:=h 0 (by decide:0 < 3)
  have b:=h 1 (by decide:1 < 3)
  have c:=h 2 (by decide:2 < 3)
  rw[zCz,dqN] at a
  rw[zCA,dqN] at b
  rw[zCB,dqN] at c
  exact⟨s,hd,a,b,c⟩
 ·rintro ⟨s, hd, a, b, c⟩
  refine⟨s,hd,λ i hi=>?_⟩
  have hi:i < 3:=hi
  match i,hi with
  | 0,_=>rw[zCz,dqN];exact a
  | 1,_=>rw[zCA,dqN];exact b
  | 2,_=>rw[zCB,dqN];exact c
theorem zCC:p18 g=true/\((Agr g/\(s18 g).2=7)\/(¬ Agr g/\(s18 g).2=0)):=by
 obtain⟨h1,h2⟩:=zOk G
 refine⟨h1,?_⟩
 rcases h2 with ⟨e,h⟩ | ⟨e,b2,b3⟩
 ·refine .inr ⟨fun ⟨s, hd, ha⟩ => ?_, e⟩
  rcases h with ⟨y,x,a,b,c⟩ | ⟨z,y,x,a,b,c,d⟩
  ·exact (zvE G a b).2 ⟨s,hd,ha y (by omega),ha x b⟩ c
  ·exact (znK G a b c).2 ⟨s,hd,ha z (by omega),ha y (by omega),ha x c⟩ d
 ·refine .inl ⟨?_, e⟩
  have A2:∀ i j,i < j->j < g.len->∃ s:straight,0 < s.den/\zcS s (g.get i)=true/\zcS s (g.get j)=true:=λ i j hij hj=>(zvE G hij hj).1 (b2 i j hij hj)
  have A3:∀ i j k,i < j->j < k->k < g.len->∃ s:straight,0 < s.den/\zcS s (g.get i)=true/\zcS s (g.get j)=true/\zcS s (g.get k)=true:=λ i j k hij hjk hk=>(znK G hij hjk hk).1 (b3 i j k hij hjk hk)
  have A1:∀ i,i < g.len->∃ s:straight,0 < s.den/\zcS s (g.get i)=true:=λ i hi=>by
   have:=(G.1 i hi).2
   refine⟨⟨0,(g.get i).Low,1⟩,by show (0:Int) < 1;omega,dqT ?_⟩
   unfold plc;simp only;omega
  obtain⟨s,hd,hs⟩:=zOi g.len (λ i s=>zcS s (g.get i)=true) (λ i=>zCg (g.get i)) λ i j k hi hj hk=>by
   rcases Nat.lt_trichotomy i j with a | a | a
   ·rcases Nat.lt_trichotomy j k with b | b | b
    ·obtain⟨s,p,q,r,t⟩:=A3 i j k a b hk;exact⟨s,p,q,r,t⟩
    ·obtain⟨s,p,q,r⟩:=A2 i j a hj;exact⟨s,p,q,r,by rw[<- b];exact r⟩
    ·rcases Nat.lt_trichotomy i k with c | c | c
     ·obtain⟨s,p,q,r,t⟩:=A3 i k j c b hj;exact⟨s,p,q,t,r⟩
     ·obtain⟨s,p,q,r⟩:=A2 i j a hj;exact⟨s,p,q,r,by rw[<- c];exact q⟩
     ·obtain⟨s,p,q,r,t⟩:=A3 k i j c a hj;exact⟨s,p,r,t,q⟩
   ·subst a
    rcases Nat.lt_trichotomy i k with c | c | c
    ·obtain⟨s,p,q,r⟩:=A2 i k c hk;exact⟨s,p,q,q,r⟩
    ·subst c;obtain⟨s,p,q⟩:=A1 i hi;exact⟨s,p,q,q,q⟩
    ·obtain⟨s,p,q,r⟩:=A2 k i c hi;exact⟨s,p,r,r,q⟩
   ·rcases Nat.lt_trichotomy i k with b | b | b
    ·obtain⟨s,p,q,r,t⟩:=A3 j i k a b hk;exact⟨s,p,r,q,t⟩
    ·obtain⟨s,p,q,r⟩:=A2 j i a hi;exact⟨s,p,r,q,by rw[<- b];exact r⟩
    ·rcases Nat.lt_trichotomy j k with c | c | c
     ·obtain⟨s,p,q,r,t⟩:=A3 j k i c b hi;exact⟨s,p,t,q,r⟩
     ·obtain⟨s,p,q,r⟩:=A2 j i a hi;exact⟨s,p,r,q,by rw[<- c];exact q⟩
     ·obtain⟨s,p,q,r,t⟩:=A3 k j i c a hi;exact⟨s,p,t,r,q⟩
  exact⟨s,hd,hs⟩
/-! the sets that are tried -/
theorem zKf {h:Nat->Bool}(hc:Cnd g h):∃ s:straight,0 < s.den/\∀ i,i < g.len->h i=true->zcS s (g.get i)=true:=by
 rcases hc with ⟨_,a,ha,rfl⟩ | ⟨s,hs,rfl⟩
 ·exact⟨stl (g.get a).Low,by show (0:Int) < 1;omega,λ i hi h=>by rw[zEl];exact h⟩
 ·exact⟨s,by have:=(zvn G hs).2.2;omega,λ i hi h=>h⟩
theorem zCD {h:Nat->Bool}(hc:Cnd g h):∃ i,i < g.len/\h i=true:=by
 rcases hc with ⟨_,a,ha,rfl⟩ | ⟨s,hs,rfl⟩
 ·exact⟨a,ha,dqT ⟨Int.le_refl _,(G.1 a ha).2.2.1⟩⟩
 ·obtain ⟨a, b, h1, h2, h3, p, q, hp, hq, rfl⟩ := zpd hs
  refine⟨a,by omega,dqT ?_⟩
  have hd:=zmL (p:=p) (q:=q) h3
  have ga:=(G.1 a (by omega)).2
  rw[(zvp h3).1]
  generalize (thr (g.get a).Z p (g.get b).Z q).den=d at hd ⊢
  constructor
  ·exact Int.mul_le_mul_of_nonneg_right (by rcases hp with rfl | rfl <;> omega) (by omega)
  ·exact Int.mul_le_mul_of_nonneg_right (by rcases hp with rfl | rfl <;> omega) (by omega)
theorem zvF {s:straight}(hd:0 < s.den):∃ h,Cnd g h/\∀ i,i < g.len->zcS s (g.get i)=true->h i=true:=by
 have hl:=G.2
 have tot:∀ i j,zcS s (g.get i)=true->zcS s (g.get j)=true->(g.get i).Low<=(g.get j).Low\/(g.get j).Low<=(g.get i).Low:=λ i j _ _=>by omega
 have tr:∀ i j k,zcS s (g.get i)=true->zcS s (g.get j)=true->zcS s (g.get k)=true->(g.get i).Low<=(g.get j).Low->(g.get j).Low<=(g.get k).Low->(g.get i).Low<=(g.get k).Low:=λ i j k _ _ _ h1 h2=>by omega
 have pw:∀ i,zcS s (g.get i)=true->(g.get i).Low * s.den<=plc s (g.get i).Z/\plc s (g.get i).Z<=(g.get i).High * s.den:=λ i h=>of_decide_eq_true h
 have same:∀ a i,zcS s (g.get a)=true->zcS s (g.get i)=true->(g.get i).Z=(g.get a).Z->(g.get a).Low<=(g.get i).High:=λ a i ha hi hz=>by
  have h1:=(pw a ha).1
  have h2:=(pw i hi).2
  rw[hz] at h2
  exact Int.le_of_mul_le_mul_right (Int.le_trans h1 h2) hd
 by_cases hex:∃ k,k < g.len/\zcS s (g.get k)=true
 ·obtain ⟨a, ha, pa, hmax⟩ := zjZ tot tr g.len hex
  by_cases hz:∀ i,i < g.len->zcS s (g.get i)=true->(g.get i).Z=(g.get a).Z
  ·by_cases fl : zjX g
   ·exact⟨zwE g a,.inl ⟨fl,a,ha,rfl⟩,λ i hi pi=>dqT ⟨hmax i hi pi,same a i pa pi (hz i hi pi)⟩⟩
   ·obtain ⟨b, hb, hbz⟩ := zpg fl a ha
    have hne:(g.get a).Z ≠ (g.get b).Z:=Ne.symm hbz
    refine⟨zqZ g (thr (g.get a).Z (g.get a).Low (g.get b).Z (g.get b).Low),.inr ⟨_,zOc ha hb hne (.inl rfl) (.inl rfl),rfl⟩,λ i hi pi=>dqT ?_⟩
    have hd2:=zmL (p:=(g.get a).Low) (q:=(g.get b).Low) hne
    rw[hz i hi pi,(zvp hne).1]
    have h1:=hmax i hi pi
    have h2:=same a i pa pi (hz i hi pi)
    generalize (thr (g.get a).Z (g.get a).Low (g.get b).Z (g.get b).Low).den=d at hd2 ⊢
    exact⟨Int.mul_le_mul_of_nonneg_right h1 (by omega),Int.mul_le_mul_of_nonneg_right h2 (by omega)⟩
  ·-- zaa at two heights
   obtain⟨b,hb⟩:=Classical.not_forall.1 hz
   obtain⟨hbl,hb⟩:=Classical.not_imp.1 hb
   obtain⟨pb,hbz⟩:=Classical.not_imp.1 hb
   let L:=ixs (zqZ g s) g.len
   have hLa:a∈L:=zcY.2 ⟨ha,pa⟩
   have hLb:b∈L:=zcY.2 ⟨hbl,pb⟩
   let g':Sl Gate:=⟨L.length,λ j=>g.get (L.getD j 0)⟩
   have hg':∀ j,j < g'.len->∃ i,i < g.len/\zcS s (g.get i)=true/\g'.get j=g.get i:=λ j hj=>by
    have hj:j < L.length:=hj
    obtain⟨h1,h2⟩:=zcY.1 (List.getElem_mem hj)
    exact⟨L[j],h1,h2,by show g.get (L.getD j 0)=_;rw[List.getD_eq_getElem?_getD,dqD hj];rfl⟩
   have at':∀ i,i∈L->∃ j,j < g'.len/\g'.get j=g.get i:=λ i hi=>by
    obtain⟨j,hj,rfl⟩:=List.getElem_of_mem hi
    exact⟨j,hj,by show g.get (L.getD j 0)=_;rw[List.getD_eq_getElem?_getD,dqD hj];rfl⟩
   have ha':zqN g' s:=λ j hj=>by
    obtain⟨i,_,pi,e⟩:=hg' j hj
    rw[e];exact pi
   have nf' : ¬ zjX g':=λ f=>by
    obtain⟨j,hj,e⟩:=at' a hLa
    obtain⟨k,hk,e2⟩:=at' b hLb
    have h1:=f j hj
    have h2:=f k hk
    rw[e] at h1
    rw[e2] at h2
    exact hbz (h2.trans h1.symm)
   obtain⟨_,⟨c,hc,_⟩,_⟩:=lp (g:=g') (by have:=List.length_pos_of_mem hLa;exact this) nf' hd ha'
   have hcg:c∈cst g:=by
    obtain⟨x,y,h1,h2,h3,p,q,hp,hq,rfl⟩:=zpd hc.1
    obtain⟨i,hi,_,e1⟩:=hg' x (by omega)
    obtain⟨j,hj,_,e2⟩:=hg' y h2
    rw[e1] at h3 hp ⊢
    rw[e2] at h3 hq ⊢
    exact zOc hi hj h3 hp hq
   refine⟨zqZ g c,.inr ⟨c,hcg,rfl⟩,λ i hi pi=>?_⟩
   obtain⟨j,hj,e⟩:=at' i (zcY.2 ⟨hi,pi⟩)
   have:=hc.2 j hj
   rw[e] at this;exact this
 ·have hn : ∀ i, i < g.len → zcS s (g.get i) = true → False := fun i hi hp => hex ⟨i, hi, hp⟩
  obtain⟨A,hA⟩:=List.exists_mem_of_length_pos (zF0 G)
  obtain⟨h,hc,_⟩:=ziW.1 hA
  exact⟨h,hc,λ i hi hp=>(hn i hi hp).elim⟩
end
theorem zCE {M:List (List Nat)}(h:0 < M.length):∃ X,ziX M X:=by
 have key:∀ i,i+1<=M.length->∃ X,ziX (M.take (i+1)) X:=by
  intro i
  induction i with
  | zero=>exact λ _=>⟨_,zvC M h⟩
  | succ i ih =>
   intro hi
   obtain⟨X,hX⟩:=ih (by omega)
   obtain⟨h1,h2⟩:=zqT (B:=M[i+1]'(by omega)) hX
   rw[<- List.take_succ_eq_append_getElem (by omega)] at h1 h2
   rcases Nat.lt_trichotomy (M[i+1]'(by omega)).length X.length with a | a | a
   ·exact⟨_,h1 (.inl a)⟩
   ·by_cases hlt : ltS (M[i + 1]'(by omega)) X
    ·exact⟨_,h2 (.inr ⟨a,hlt⟩)⟩
    ·exact⟨_,h1 (.inr ⟨a,hlt⟩)⟩
   ·exact⟨_,h2 (.inl a)⟩
 obtain⟨X,hX⟩:=key (M.length - 1) (by omega)
 rw[List.take_of_length_le (by omega)] at hX
 exact⟨X,hX⟩
theorem zCF {g:Sl Gate}{h:Nat->Bool}(hc:Cnd g h):∃ h',Cnd g h'/\(∀ i,i < g.len->h i=true->h' i=true)/\zCs (Cnd g) g.len h':=by
 have hm:∀ B,B∈(AG g).filter (λ B=>(ixs h g.len).all λ x=>B.contains x)↔∃ h',Cnd g h'/\B=ixs h' g.len/\∀ i,i < g.len->h i=true->h' i=true:=λ B=>by
  rw[List.mem_filter,List.all_eq_true]
  constructor
  ·rintro ⟨hB, hs⟩
   obtain⟨h',hc',rfl⟩:=ziW.1 hB
   exact⟨h',hc',rfl,zCy.1 λ x hx=>by have:=hs x hx;rw[List.contains_iff_mem] at this;exact this⟩
  ·rintro ⟨h', hc', rfl, hle⟩
   exact⟨ziW.2 ⟨h',hc',rfl⟩,λ x hx=>by rw[List.contains_iff_mem];exact zCy.2 hle x hx⟩
 obtain⟨X,hX⟩:=zCE (List.length_pos_of_mem ((hm _).2 ⟨h,hc,rfl,λ _ _ h=>h⟩))
 obtain⟨h',hc',rfl,hle⟩:=(hm X).1 hX.1
 refine⟨h',hc',hle,λ h2 hc2 hle2 i hi hf=>?_⟩
 have hs:=ztU hle2
 have hb:=hX.2 (ixs h2 g.len) ((hm _).2 ⟨h2,hc2,rfl,λ i hi h=>hle2 i hi (hle i hi h)⟩)
 have hl:=hs.length_le
 have e:=hs.eq_of_length (by rcases hb with hb | hb <;> omega)
 rw[ztS e i hi];exact hf
end Go.Proofs
namespace Go.Proofs
open Go Go.Pm
set_option maxRecDepth 100000
set_option linter.unusedVariables false
theorem zCG {g:Sl Gate}(G:zbE g){M:List (List Nat)}(d3:M.Pairwise ltS) (d4:∀ A,A∈M↔∃ h,Cnd g h/\A=ixs h g.len/\zCs (Cnd g) g.len h):M.length<=2304 :=
 dqE (List.Nodup.length_le_of_subset (d3.imp fun {a b} h e=>by subst e;exact zpi h) (λ A hA=>by
  obtain⟨h,hc,e,_⟩:=(d4 A).1 hA
  exact ziW.2 ⟨h,hc,e⟩)) (zOq G)
theorem zOt (g:Sl Gate) (G:zbE g):p6 g=true/\(s6 g).2=0/\p7 g 0=true/\(s7 g 0).2=0/\∃ X L,IsN (s6 g).1 X/\ziX (AG g) X/\zwD (s7 g 0).1 L/\L.length<=10000/\∀ A,A∈L↔∃ h,Cnd g h/\A=ixs h g.len/\zCs (Cnd g) g.len h:=by
 have hl:=G.2.2
 obtain⟨c1,c2⟩:=zFP g (by omega)
 have c3:=c2.2 G
 obtain⟨d1,M,d2,d3,d4⟩:=zOn g G
 obtain⟨Y,b3⟩:=zCE (zF0 G)
 obtain⟨h,hc,rfl⟩:=ziW.1 b3.1
 have hM:ixs h g.len∈M:=(d4 _).2 ⟨h,hc,rfl,zEo b3⟩
 have hMl:=zCG G d3 d4
 have hMp:=List.length_pos_of_mem hM
 have hsub:∀ A∈M,A∈AG g:=λ A hA=>by
  obtain⟨h,hc,e,_⟩:=(d4 A).1 hA
  exact ziW.2 ⟨h,hc,e⟩
 obtain⟨e1,X,e2,e3⟩:=zEm d2 d3 (by omega) hMp
 have eX:X=ixs h g.len:=zCx e3 b3 (hsub X e3.1) hM
 obtain⟨L,l1,l2,l3⟩:=zEn d2 d3 0
 have l4:∀ A,A∈L↔∃ h,Cnd g h/\A=ixs h g.len/\zCs (Cnd g) g.len h:=λ A=>by
  rw[l3,d4]
  exact⟨λ h=>h.1,λ h=>⟨h,Int.natCast_nonneg _⟩⟩
 have ep:p6 g=(decide (p28 g=true) && cond (!(s28 g)) true (decide (p30 g=true) && (decide (p29 (s30 g)=true) && true))):=rfl
 have es:s6 g=cond (!(s28 g)) ((⟨0,λ _=>default⟩:(Sl Int)),(2:Int)) ((s29 (s30 g)),(0:Int)):=rfl
 have fp:p7 g 0=(decide (p28 g=true) && cond (!(s28 g)) true (decide (p30 g=true) && (decide ((s30 g).len<=4611686018427387/\0 < (s30 g).len) && true))):=rfl
 have fs:s7 g 0=cond (!(s28 g)) ((⟨0,λ _=>default⟩:(Sl (Sl Int))),(2:Int)) ((⟨delN (s30 g).len (λ i=>decide ((((s30 g).get i).len:Int) < 0)),zwC (s30 g).len (λ i=>decide ((((s30 g).get i).len:Int) < 0)) (s30 g).get⟩:(Sl (Sl Int))),(0:Int)):=rfl
 rw[c1,c3,d1,e1] at ep
 rw[c3] at es fs
 rw[c1,c3,d1,d2.1,dqT (show M.length<=4611686018427387/\0 < M.length by omega)] at fp
 refine⟨ep,by rw[es];rfl,fp,by rw[fs];rfl,X,L,by rw[es];exact e2,by rw[eX];exact b3,by rw[fs];exact l1,?_,l4⟩
 have:=zCG G l2 l4
 omega
theorem zOu (n:Nat) (hn:n<=40):p17 (n:Int)=true/\IsN (s17 (n:Int)) (List.range n):=by
 have key:∀ (m k i:Nat) (v:Sl Int),i+m=n->m < k->IsN v (List.range i)->zjQ (n:Int) k (i:Int) v=true/\IsN (zjP (n:Int) k (i:Int) v) (List.range n):=by
  intro m
  induction m with
  | zero =>
   intro k i v hi hk hv
   obtain⟨k,rfl⟩:∃ k',k=k'+1:=⟨k - 1,by omega⟩
   show zjO (n:Int) (zjQ (n:Int) k) _ _=_/\IsN (zjN (n:Int) (zjP (n:Int) k) _ _) _
   unfold zjO zjN
   rw[dqF (show ¬ (i:Int) < (n:Int) by omega),dqB,dqB,<- show i=n by omega]
   exact⟨rfl,hv⟩
  | succ m ih =>
   intro k i v hi hk hv
   obtain⟨k,rfl⟩:∃ k',k=k'+1:=⟨k - 1,by omega⟩
   have hvl:v.len=i:=by rw[hv.1,List.length_range]
   have hs:=zpj hv i
   rw[<- List.range_succ] at hs
   obtain⟨i1,i2⟩:=ih k (i+1) _ (by omega) (by omega) hs
   show zjO (n:Int) (zjQ (n:Int) k) _ _=_/\IsN (zjN (n:Int) (zjP (n:Int) k) _ _) _
   generalize zjQ (n:Int) k=P at i1 ⊢
   generalize zjP (n:Int) k=S at i2 ⊢
   unfold zjO zjN
   rw[dqT (show (i:Int) < (n:Int) by omega),dqT (show (v.len+1) * 8<=140737488355328/\v.len+1<=9223372036854775807 by omega),za6 (n:=n) (by omega) (by omega)]
   exact⟨i1,i2⟩
 exact key n Fuel 0 ⟨0,λ _=>default⟩ (by omega) (by simp only[Fuel];omega) ztR
def zF1 (z x w y:Int):Prop:=(0<=z/\z<=100000)/\(0<=w/\w<=100000)/\z ≠ w/\(-1000000<=x/\x<=1000000)/\-1000000<=y/\y<=1000000
theorem zEp {z x w y:Int}(h:s13 z x w y=true):zF1 z x w y:=by
 unfold s13 at h
 simp only[zgi,dqm,decide_eq_true_eq,bne_iff_ne] at h
 unfold zF1
 omega
theorem zOv (v:Sl Gate) (x:Gate):(⟨v.len+1,zaf (appG v.len (λ i=>enc_48 (v.get i)) (λ _=>enc_48 x))⟩:Sl Gate)=apL v x:=by
 rw[zou (enc:=enc_48) (f:=v.get) (h:=λ _=>x)];rfl
section
variable {g:Sl Gate}(G:zbE g) (h16:g.len<=16)
include G h16
theorem zpk {v:Sl Int}{h:Nat->Bool}(hv:IsN v (ixs h g.len)):inR g v/\(pick g v).len=(ixs h g.len).length/\∀ j (hj:j < (ixs h g.len).length),(pick g v).get j=g.get (ixs h g.len)[j]:=by
 obtain⟨p1,p2⟩:=zvu g v
 refine⟨λ i hi=>?_,by rw[p1,hv.1],λ j hj=>?_⟩
 ·obtain ⟨h1, h2⟩ := hv.at hi
  have:=(zcY.1 (List.getElem_mem h1)).1
  rw[h2];omega
 ·rw[p2 j (by rw[hv.1];exact hj),hv.2 j hj,dqN]
theorem zwx {v:Sl Int}{h:Nat->Bool}(hv:IsN v (ixs h g.len)) (hc:Cnd g h):p19 g v=true/\s19 g v=pick g v/\p18 (pick g v)=true/\(s18 (pick g v)).2=7:=by
 obtain⟨hI,q1,q2⟩:=zpk G h16 hv
 have hle:=zik (f:=h) (n:=g.len)
 have hvl:v.len=(ixs h g.len).length:=hv.1
 obtain⟨i0,hi0,hh0⟩:=zCD G hc
 have hpos:=List.length_pos_of_mem (zcY.2 ⟨hi0,hh0⟩)
 obtain⟨a1,a2⟩:=zOg g v hI (by omega)
 have K:=zCf g G v hI (by omega) (by omega)
 obtain⟨e1,e2⟩:=zCC K
 refine⟨a1,a2,e1,?_⟩
 rcases e2 with ⟨_,e⟩ | ⟨hn,_⟩
 ·exact e
 ·obtain ⟨s, hd, hs⟩ := zKf G hc
  exact absurd ⟨s,hd,λ j hj=>by
   rw[q1] at hj
   rw[q2 j hj]
   obtain⟨m1,m2⟩:=zcY.1 (List.getElem_mem hj)
   exact hs _ m1 m2⟩ hn
theorem zwy {v:Sl Int}{h:Nat->Bool}(hv:IsN v (ixs h g.len)) (hm:zCs (Cnd g) g.len h){k:Nat}(hk:k < g.len) (hkn:k ∉ ixs h g.len):p18 (apL (pick g v) (g.get k))=true/\(s18 (apL (pick g v) (g.get k))).2=0:=by
 obtain⟨hI,q1,q2⟩:=zpk G h16 hv
 have hle:=zik (f:=h) (n:=g.len)
 have el:(apL (pick g v) (g.get k)).len=(pick g v).len+1:=rfl
 have K:zbE (apL (pick g v) (g.get k)):=by
  refine⟨λ i hi=>?_,by rw[el];omega,by rw[el,q1];omega⟩
  rw[el] at hi
  by_cases e:i < (pick g v).len
  ·rw [zvr _ _ _ e]
   rw[q1] at e
   rw[q2 i e]
   exact G.1 _ (zcY.1 (List.getElem_mem e)).1
  ·rw[show i=(pick g v).len by omega,zvs];exact G.1 k hk
 obtain⟨e1,e2⟩:=zCC K
 refine⟨e1,?_⟩
 rcases e2 with ⟨⟨s,hd,ha⟩,_⟩ | ⟨_,e⟩
 ·obtain ⟨h', hc', hp⟩ := zvF G hd
  have hkp:zcS s (g.get k)=true:=by
   have:=ha (pick g v).len (by rw[el];omega)
   rw[zvs] at this;exact this
  have hle':∀ i,i < g.len->h i=true->h' i=true:=λ i hi hh=>by
   obtain⟨j,hj,e⟩:=List.getElem_of_mem (zcY.2 ⟨hi,hh⟩)
   have:=ha j (by rw[el,q1];omega)
   rw[zvr _ _ _ (by rw[q1];exact hj),q2 j hj,e] at this
   exact hp i hi this
  exact absurd (zcY.2 ⟨hk,hm h' hc' hle' k hk (hp k hk hkp)⟩) hkn
 ·exact e
theorem zRb {pv mv : Sl Int} {lv : Sl (Sl Int)} {kept : Bool} {i : Nat} {h : Nat → Bool} (hil : i < lv.len) (hi4 : lv.len ≤ 10000) (hv : IsN (lv.get i) (ixs h g.len)) (hm : zCs (Cnd g) g.len h) (hp19 : p19 g (lv.get i) = true) (hs19 : s19 g (lv.get i) = pick g (lv.get i))
    (P6 S6:Bool->Int->Bool):∀ (m f k:Nat),k+m=g.len->m < f ->
    zij P6 g pv mv lv kept f (i:Int) (k:Int)=P6 kept ((i+1:Nat):Int)/\zii S6 g pv mv lv kept f (i:Int) (k:Int)=S6 kept ((i+1:Nat):Int)
  | _,0,_,_,h=>absurd h (dqW _)
  | 0,f+1,k,hk,_=>by
    show zjW P6 g pv mv lv kept (zij P6 g pv mv lv kept f) _ _=_/\zjV S6 g pv mv lv kept (zii S6 g pv mv lv kept f) _ _=_
    generalize zij P6 g pv mv lv kept f=P
    generalize zii S6 g pv mv lv kept f=S
    unfold zjW zjV
    rw[dqF (show ¬ (k:Int) < (g.len:Int) by omega),dqB,dqB,za6 (n:=lv.len) hil (by omega)]
    exact⟨rfl,rfl⟩
  | m+1,f+1,k,hk,hf=>by
    have hkl:k < g.len:=by omega
    have hle:=zik (f:=h) (n:=g.len)
    obtain⟨i1,i2⟩:=zRb hil hi4 hv hm hp19 hs19 P6 S6 m f (k+1) (by omega) (by omega)
    have h1:IsN (⟨1,λ _=>(k:Int)⟩:Sl Int) [k]:=⟨rfl,λ j hj=>by
      have:j=0:=by rw[List.length_singleton] at hj;omega
      subst this;rfl⟩
    obtain⟨c1,c2⟩:=zCw h1 hv (List.pairwise_singleton _ _) zvx (by rw[List.length_singleton];omega) (by omega)
    have hpl:(pick g (lv.get i)).len<=16:=by rw[(zpk G h16 hv).2.1];omega
    show zjW P6 g pv mv lv kept (zij P6 g pv mv lv kept f) _ _=_/\zjV S6 g pv mv lv kept (zii S6 g pv mv lv kept f) _ _=_
    generalize zij P6 g pv mv lv kept f=P at i1 ⊢
    generalize zii S6 g pv mv lv kept f=S at i2 ⊢
    unfold zjW zjV ztE ztD
    rw[dqN,dqN,hs19,hp19,c1,zOv,dqT (show (k:Int) < (g.len:Int) by omega),dqT (show 0<=(k:Int)/\(k:Int) < (g.len:Int) by omega),dqT (show 0<=(i:Int)/\(i:Int) < (lv.len:Int) by omega),
      dqT (show ((pick g (lv.get i)).len+1) * 24<=140737488355328/\(pick g (lv.get i)).len+1<=9223372036854775807 by omega),za6 (n:=g.len) hkl (by omega)]
    cases hw:s16 (⟨1,λ _=>(k:Int)⟩:Sl Int) (lv.get i)
    · have hkn:k ∉ ixs h g.len:=λ hin=>by
        rw[c2.2 (λ x hx=>by rw[dqi] at hx;subst hx;exact hin)] at hw;cases hw
      obtain⟨d1,d2⟩:=zwy G h16 hv hm hkl hkn
      rw[d1,d2]
      exact⟨i1,i2⟩
    · exact⟨i1,i2⟩
theorem out6 {pv mv : Sl Int} {lv : Sl (Sl Int)} {X P : List Nat} {L : List (List Nat)} (hpv : IsN pv P) (hPi : P.Pairwise (· < ·)) (hPl : P.length ≤ 1000) (hmv : IsN mv X) (hX : ziX (AG g) X) (hlv : zwD lv L) (hLl : L.length ≤ 10000)
    (hL:∀ A,A∈L↔∃ h,Cnd g h/\A=ixs h g.len/\zCs (Cnd g) g.len h):∀ (m f i:Nat) (kept:Bool),i+m=L.length->m < f ->
    zhE g pv mv lv f kept (i:Int)=true/\(zhh g pv mv lv f kept (i:Int)=true↔kept=true\/∃ j,∃ hj:j < L.length,i<=j/\∀ x∈P,x∈L[j])
  | _,0,_,_,_,h=>absurd h (dqW _)
  | 0,f+1,i,kept,hi,_=>by
    show znF g pv mv lv (zhE g pv mv lv f) _ _=_/\(znE g pv mv lv (zhh g pv mv lv f) _ _=_↔_)
    generalize zhE g pv mv lv f=P'
    generalize zhh g pv mv lv f=S'
    unfold znF znE
    rw[hlv.1,dqF (show ¬ (i:Int) < (L.length:Int) by omega),dqB,dqB]
    refine⟨rfl,?_⟩
    cases kept
    · exact⟨λ h=>(by cases h),λ h=>by rcases h with h | ⟨j,hj,h1,_⟩;cases h;omega⟩
    · exact⟨λ _=>.inl rfl,λ _=>rfl⟩
  | m+1,f+1,i,kept,hi,hf=>by
    have hil:i < L.length:=by omega
    have hle:=λ (h:Nat->Bool)=>zik (f:=h) (n:=g.len)
    have hvi:=hlv.2 i hil
    obtain⟨h,hc,hA,hm⟩:=(hL L[i]).1 (List.getElem_mem _)
    rw[hA] at hvi
    obtain⟨e1,e2,e3,e4⟩:=zwx G h16 hvi hc
    obtain⟨i0,hi0,hh0⟩:=zCD G hc
    have hpos:=List.length_pos_of_mem (zcY.2 ⟨hi0,hh0⟩)
    have hXl:(ixs h g.len).length<=X.length:=by
      rcases hX.2 _ (ziW.2 ⟨h,hc,rfl⟩) with a | a <;> omega
    obtain⟨r1,r2⟩:=zOu g.len (by omega)
    have hlh:=hle h
    obtain⟨c1,c2⟩:=zCw hvi r2 zvx List.pairwise_lt_range (by omega) (by rw[List.length_range];omega)
    have c3:=c2.2 λ x hx=>List.mem_range.2 (zcY.1 hx).1
    obtain⟨t1,t2⟩:=zCw hpv hvi hPi zvx (by omega) (by omega)
    have hw:zBT (pick g (lv.get i))=pick g (lv.get i):=zD6 _
    have E:=λ kept'=>zRb G h16 (pv:=pv) (mv:=mv) (kept:=kept') (i:=i) (by rw[hlv.1];exact hil) (by rw[hlv.1];exact hLl) hvi hm e1 e2 (zhE g pv mv lv f) (zhh g pv mv lv f) g.len Fuel 0 (by omega) (by simp only[Fuel];omega)
    have ih:=λ kept'=>out6 hpv hPi hPl hmv hX hlv hLl hL m f (i+1) kept' (by omega) (by omega)
    have step:zhE g pv mv lv (f+1) kept (i:Int)=zhE g pv mv lv f (kept || s16 pv (lv.get i)) ((i+1:Nat):Int)/\zhh g pv mv lv (f+1) kept (i:Int)=zhh g pv mv lv f (kept || s16 pv (lv.get i)) ((i+1:Nat):Int):=by
      show znF g pv mv lv (zhE g pv mv lv f) _ _=_/\znE g pv mv lv (zhh g pv mv lv f) _ _=_
      generalize zhE g pv mv lv f=P' at E ⊢
      generalize zhh g pv mv lv f=S' at E ⊢
      have z0:(((ixs h g.len).length:Int) == (0:Int))=false:=dqU.2 (by omega)
      have d7:((7:Int) != (7:Int))=false:=rfl
      unfold znF znE zqI zqH zBV zBU zvb zva ztK ztJ ztI ztH ztG ztF
      rw[hlv.1,dqT (show (i:Int) < (L.length:Int) by omega),dqT (show 0<=(i:Int)/\(i:Int) < (L.length:Int) by omega),dqN,hvi.1,hmv.1,z0,dqF (show ¬ ((ixs h g.len).length:Int) > (X.length:Int) by omega),r1,c1,c3,e1,e2,hw,e3,e4,t1,d7]
      cases kept
      · obtain ⟨E1, E2⟩ := E (s16 pv (lv.get i))
        rw[Bool.false_or,<- E1,<- E2]
        exact⟨rfl,rfl⟩
      · obtain ⟨E1, E2⟩ := E true
        rw[Bool.true_or,<- E1,<- E2]
        exact⟨rfl,rfl⟩
    rw[step.1,step.2]
    obtain⟨j1,j2⟩:=ih (kept || s16 pv (lv.get i))
    refine⟨j1,?_⟩
    rw[j2,Bool.or_eq_true,t2]
    constructor
    · rintro ((a | a) | ⟨j, hj, a, b⟩)
      · exact .inl a
      · exact .inr ⟨i,hil,dqt _,by rw[hA];exact a⟩
      · exact .inr ⟨j,hj,by omega,b⟩
    · rintro (a | ⟨j, hj, a, b⟩)
      · exact .inl (.inl a)
      · by_cases e : j = i
        · subst e;rw[hA] at b;exact .inl (.inr b)
        · exact .inr ⟨j,hj,by omega,b⟩
end
theorem kept_true (g:Sl Gate) (z x w y:Int) (wf:wf_22 g):p4 g z x w y=true/\s4 g z x w y=true:=by
 obtain⟨f1,f2⟩:=zN5 g wf.1
 unfold p4 s4 zqK zqJ
 by_cases h16:(g.len:Int) > (16:Int)
 ·rw[dqT h16];exact⟨rfl,rfl⟩
 ·rw [dqF h16, f1, dqB, dqB]
  cases h8:s8 g
  ·exact⟨rfl,rfl⟩
  ·cases h13 : s13 z x w y
   ·exact⟨rfl,rfl⟩
   ·have G := f2.1 h8
    obtain⟨a1,a2,a3,a4,a5⟩:=zEp h13
    obtain⟨b1,b2⟩:=zN7 a1 a2 a4 a5 a3
    have S:=zFS a1 a2 a4 a5 a3
    have hg:g.len<=16:=by omega
    obtain⟨c1,c2⟩:=zKd (l:=toL (thr z x w y)) (g:=g) (by omega) (f:=zqZ g (thr z x w y)) (λ i hi=>zN8 S (G.1 i hi))
    obtain⟨d1,d2,d3,d4,X,L,d5,d6,d7,d8,d9⟩:=zOt g G
    have hle:=zik (f:=zqZ g (thr z x w y)) (n:=g.len)
    obtain⟨h,hc,hp⟩:=zvF G (zmL (p:=x) (q:=y) a3)
    obtain⟨h',hc',hp',hmx⟩:=zCF hc
    have hin:ixs h' g.len∈L:=(d9 _).2 ⟨h',hc',rfl,hmx⟩
    have hLp:=List.length_pos_of_mem hin
    have hXl:(ixs (zqZ g (thr z x w y)) g.len).length<=X.length:=by
     have hs:=(ztU (f:=zqZ g (thr z x w y)) (g:=h) (n:=g.len) hp).length_le
     rcases d6.2 _ (ziW.2 ⟨h,hc,rfl⟩) with a | a <;> omega
    obtain⟨e1,e2⟩:=out6 G hg c2 zvx (by omega) d5 d6 d7 d8 d9 L.length Fuel 0 false (by omega) (by simp only[Fuel];omega)
    have e3:zhh g (s14 (toL (thr z x w y)) g) (s6 g).1 (s7 g 0).1 Fuel false ((0:Nat):Int)=true:=by
     obtain⟨j,hj,e⟩:=List.getElem_of_mem hin
     exact e2.2 (.inr ⟨j,hj,Nat.zero_le _,by rw[e];exact zCy.2 λ i hi hh=>hp' i hi (hp i hi hh)⟩)
    have q1:zvd g z x w y=true:=by
     unfold zvd zB6 zB4 zB2 zB0 zBY
     rw[b1,b2,c1,d1,d2,d3,d4,c2.1,d5.1,d7.1,dqF (show ¬ ((ixs (zqZ g (thr z x w y)) g.len).length:Int) > (X.length:Int) by omega),show ((L.length:Int) == (0:Int))=false from dqU.2 (by omega)]
     exact e1
    have q2:zvc g z x w y=true:=by
     unfold zvc zB5 zB3 zB1 zBZ zBX
     rw[b2,d2,d4,c2.1,d5.1,d7.1,dqF (show ¬ ((ixs (zqZ g (thr z x w y)) g.len).length:Int) > (X.length:Int) by omega),show ((L.length:Int) == (0:Int))=false from dqU.2 (by omega)]
     exact e3
    rw[q1,q2]
    exact⟨rfl,rfl⟩
end Go.Proofs
