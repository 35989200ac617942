/- Part 5 of what the proof rests on: a machine that runs functions of the program on pure values, proved sound; the functions that the law reaches, and what they compute. -/
import Derived.Test.YtedhjaaikeakoaaDoorQ4
import Derived.Test.YtedhjaaikeakoaaDoorTie
import Derived.ProofKit
import Derived.LaidMore
import Derived.OpenShut
import Derived.Stop.Joined
import Derived.Test.YtedhjaaikeakoaaDoorCards
import Derived.WalkKit
set_option linter.all false
namespace Go.Proofs
open Go Go.Pm
set_option maxRecDepth 100000
set_option linter.unusedVariables false
attribute [local irreducible] Go.Pm.vcFun Go.Pm.vc Go.Pm.vcIter
abbrev T22:Tabs:=(((Tabs.nil.addF 67 zuW).addM 69 zKB).addF 70 zGE)
theorem zNh:TabsOk Tryd.prog T22:=(((TabsOk.nil.addF zMi).addM zOW).addF zOY)
abbrev G22:Ctrs:=csm T22 (λ _ _=>[]) (λ l=>Nat.beq l 12)
def zGF:Ann:=⟨29,[(0,zK [1,2,3] [1,2,3]),(1,zK [1,2,3,9] [1,2,3]),(2,zK [2,3] [2,3]),(3,zK [1,2,3] [1,2,3]),(4,zK [2,3,4] [2,3,12,14]),(5,zK [2,3,4,15] [2,3,12,14]),(6,zK [2,3,4,15,16] [2,3,12,14]),(7,zK [2,3,4,5,15] [2,3,12,14]),(8,zK [2,3,4,6,15] [2,3,12,14]),(9,zK [2,3,4,6,15,23] [2,3,12,14]),(10,zK [2,3] [2,3]),(11,zK [2,3,4,15] [2,3,12,14])],
 [(6,zK [2,3,4,15] [2,3,12,14])],
 [],
 [],[]⟩
abbrev R22:=((Sl Int)×Int)
abbrev e22 (r:R22):List PA:=[.one (.sl r.1.len 1 (λ i=>zad (r.1.get i))),.one (.int .i64 r.2)]
@[irreducible] def z22:=ptF Tryd.prog G22 zGF Tryd.f22
def zD5 (zbh:Int) (zbn:Int) (zbe:(Sl Tie)) (zbo:Nat) (zbp:(List Int->Option (List Int))) (zdI:Nat->List PV):St:=⟨[(2,zp 2 0),(3,zp 3 0),(4,zp 14 0),(15,zI zbh)],[(2,.box 27 [.p (.nils)]),(3,.box 28 [zi (0:Int)]),(12,.mo 3 4 (false,1,false,[none]) zbo zbp),(14,.box 105 [zi zbn,.p (.sl zbe.len 4 zdI),.mo 12])],[]⟩
abbrev zKH (K:List PA->Prop) (X:St->Prop) (P:Int->Int->(Sl Tie)->Nat->(List Int->Option (List Int))->Bool) (S:Int->Int->(Sl Tie)->Nat->(List Int->Option (List Int))->((Sl Int)×Int)):Prop:=∀ ⦃zbh:Int⦄ ⦃zbn:Int⦄ ⦃zbe:(Sl Tie)⦄ ⦃zbo:Nat⦄ ⦃zbp:(List Int->Option (List Int))⦄ ⦃zdI:Nat->List PV⦄,P zbh zbn zbe zbo zbp=true->K (e22 (S zbh zbn zbe zbo zbp))->zdI=zg enc_40 zbe->X (zD5 zbh zbn zbe zbo zbp zdI)
section
variable {K:List PA->Prop}{n:Net}{zbh:Int}{zbn:Int}{zbe:(Sl Tie)}{zbo:Nat}{zbp:(List Int->Option (List Int))}{zdI:Nat->List PV}{X0:St->Prop}{P0:Int->Int->(Sl Tie)->Nat->(List Int->Option (List Int))->Bool}{S0:Int->Int->(Sl Tie)->Nat->(List Int->Option (List Int))->((Sl Int)×Int)}
def zyB (S0:Int->Int->(Sl Tie)->Nat->(List Int->Option (List Int))->((Sl Int)×Int)) (zbh:Int) (zbn:Int) (zbe:(Sl Tie)) (zbo:Nat) (zbp:(List Int->Option (List Int))):((Sl Int)×Int) :=
  (cond (decide (zbh < (4:Int)))
 (cond (decide ((((s69 (⟨(⟨zbn, zbe⟩ : Net), (⟨zbo, zbp⟩ : Mp)⟩ : web) zbh).1).len : Int) > (0:Int)))
 ((s70 ((s69 (⟨(⟨zbn,zbe⟩:Net),(⟨zbo,zbp⟩:Mp)⟩:web) zbh).1)),(0:Int))
 (S0 (w64 (zbh+(1:Int))) (((s69 (⟨(⟨zbn,zbe⟩:Net),(⟨zbo,zbp⟩:Mp)⟩:web) zbh).2).Net.Nodes) (((s69 (⟨(⟨zbn,zbe⟩:Net),(⟨zbo,zbp⟩:Mp)⟩:web) zbh).2).Net.Ties) ((((s69 (⟨(⟨zbn,zbe⟩:Net),(⟨zbo,zbp⟩:Mp)⟩:web) zbh).2).out).n) ((((s69 (⟨(⟨zbn,zbe⟩:Net),(⟨zbo,zbp⟩:Mp)⟩:web) zbh).2).out).F)))
 default)
def zyC (P0:Int->Int->(Sl Tie)->Nat->(List Int->Option (List Int))->Bool) (zbh:Int) (zbn:Int) (zbe:(Sl Tie)) (zbo:Nat) (zbp:(List Int->Option (List Int))):Bool :=
  (cond (decide (zbh < (4:Int)))
 (decide ((p69 (⟨(⟨zbn,zbe⟩:Net),(⟨zbo,zbp⟩:Mp)⟩:web) zbh=true)) &&
 (cond (decide ((((s69 (⟨(⟨zbn, zbe⟩ : Net), (⟨zbo, zbp⟩ : Mp)⟩ : web) zbh).1).len : Int) > (0:Int)))
 (decide ((p70 ((s69 (⟨(⟨zbn,zbe⟩:Net),(⟨zbo,zbp⟩:Mp)⟩:web) zbh).1)=true)) &&
 true)
 (P0 (w64 (zbh+(1:Int))) (((s69 (⟨(⟨zbn,zbe⟩:Net),(⟨zbo,zbp⟩:Mp)⟩:web) zbh).2).Net.Nodes) (((s69 (⟨(⟨zbn,zbe⟩:Net),(⟨zbo,zbp⟩:Mp)⟩:web) zbh).2).Net.Ties) ((((s69 (⟨(⟨zbn,zbe⟩:Net),(⟨zbo,zbp⟩:Mp)⟩:web) zbh).2).out).n) ((((s69 (⟨(⟨zbn,zbe⟩:Net),(⟨zbo,zbp⟩:Mp)⟩:web) zbh).2).out).F))))
 false)
def zyD:Nat->Int->Int->(Sl Tie)->Nat->(List Int->Option (List Int))->((Sl Int)×Int):=lpO (λ _ _ _ _ _=>default) (zyB)
def zyE:Nat->Int->Int->(Sl Tie)->Nat->(List Int->Option (List Int))->Bool:=lpO (λ _ _ _ _ _=>false) (zyC)
def zyF (zbh:Int) (zbn:Int) (zbe:(Sl Tie)) (zbo:Nat) (zbp:(List Int->Option (List Int))):((Sl Int)×Int):=zyD Fuel zbh zbn zbe zbo zbp
def zyG (zbh:Int) (zbn:Int) (zbe:(Sl Tie)) (zbo:Nat) (zbp:(List Int->Option (List Int))):Bool:=zyE Fuel zbh zbn zbe zbo zbp
theorem zGG (hs:zyG zbh zbn zbe zbo zbp=true) (hk:K (e22 (zyF zbh zbn zbe zbo zbp))) (zlm:zdI=zg enc_40 zbe):z22 (Wk K) [1,1,1,1,0,1,0] [] (zD5 zbh zbn zbe zbo zbp zdI) :=
  zl (λ X=>z22 (Wk K) [1,1,1,1,0,1,0,0] [X]) (by kernel_rfl) λ X0 hX =>
  (show ∀ k, zKH K X0 (zyE k) (zyD k) from zeH _ _ (zyC) (zyB) (zKH K X0)
 (by intro _ _ _ _ _ _ hs;exact absurd hs dqk)
 (by intro P0 S0 hX0 zbh zbn zbe zbo zbp zdI hs hk zlm;subst zlm;exact hX _ (zaW (by kernel_rfl) (zc hs hk (λ hs hk=>(zaI hs λ hc hs=>And.intro (And.intro (zE enc_40 4 zbe.get) (And.intro (rfl:((false,1,false,[none]):MQ)=(false,1,false,[none])) hc)) (zc hs hk (λ hs hk=>(zaI hs λ hc hs=>And.intro (And.intro (zE zbH 1 (((s69 (⟨(⟨zbn,zbe⟩:Net),(⟨zbo,zbp⟩:Mp)⟩:web) zbh).1).get)) hc) ((zfW hk):Wk K [.one (.sl ((s70 ((s69 (⟨(⟨zbn,zbe⟩:Net),(⟨zbo,zbp⟩:Mp)⟩:web) zbh).1)).len) 1 (λ i=>zad ((s70 ((s69 (⟨(⟨zbn,zbe⟩:Net),(⟨zbo,zbp⟩:Mp)⟩:web) zbh).1)).get i))),.one (.int .i64 (0:Int))]))) (λ hs hk=>(hX0 hs hk rfl))))) (λ hs hk=>(absurd hs dqk:False)))))) _ hs hk zlm
def s22 (n:Net):((Sl Int)×Int) :=
  (cond (!(s67 n))
 ((⟨0,λ _=>default⟩:(Sl Int)),(2:Int))
 (zyF (0:Int) n.Nodes n.Ties 0 (λ _=>none)))
def p22 (n:Net):Bool :=
  (decide ((p67 n=true)) &&
 (cond (!(s67 n))
 true
 (zyG (0:Int) n.Nodes n.Ties 0 (λ _=>none))))
end
theorem q22 (n:Net) (K:List PA->Prop) (hs:p22 n=true) (hk:K (e22 (s22 n))):zuf Tryd.prog G22 68 zGF 22 [.agg (enc_24 n)] (Wk K) :=
  zaW (by kernel_rfl) (zaI hs λ hc hs=>And.intro (And.intro (zE enc_40 4 n.Ties.get) hc) (zc hs hk (λ hs hk=>((wk hk (zhB (.one (.nil _ _)) (zhB (.one (.rfl _)) zol))):Wk K [.one (.nils),.one (.int .i64 (2:Int))])) (λ hs hk=>(zGG hs hk rfl))))
def zGH : List PA → COut
  | [.agg [.int .i64 zaf,.sl zae zaw zac]]=>.det (IsE enc_40 4 zaw zac/\p22 (⟨zaf,(⟨zae,zai zac⟩:(Sl Tie))⟩:Net)=true) [.one (.sl (((s22 (⟨zaf,(⟨zae,zai zac⟩:(Sl Tie))⟩:Net)).1).len) 1 (λ i=>zad (((s22 (⟨zaf,(⟨zae,zai zac⟩:(Sl Tie))⟩:Net)).1).get i))),.one (.int .i64 ((s22 (⟨zaf,(⟨zae,zai zac⟩:(Sl Tie))⟩:Net)).2))]
  | _=>.no
theorem zKI:zav Tryd.prog 22:=⟨_,rfl,rfl,by kernel_rfl⟩
theorem zOZ:Ok Tryd.prog 22 zGH:=zCI zNh zKI zKG λ args K h=>by
  unfold zGH at h
  split at h
  · rename_i zaf zae zaw zac
    obtain⟨⟨⟨rfl,zak,rfl⟩,hs⟩,hk⟩:=h
    try rw[zaj zak] at hs
    try rw[zaj zak] at hk
    exact⟨_,zfB zfV _,(λ _ _=>[]),(λ l=>Nat.beq l 12),zGF,q22 (⟨zaf,(⟨zae,zak⟩:(Sl Tie))⟩:Net) K hs hk⟩
  · exact h.elim
abbrev T25:Tabs:=Tabs.nil
theorem zNi:TabsOk Tryd.prog T25:=TabsOk.nil
abbrev G25:Ctrs:=csm T25 (λ _ _=>[]) (λ _=>false)
def zGI:Ann:=⟨26,[(0,zK [0,1] []),(1,zK [0,1,10] []),(2,zK [4] []),(3,zK [0,1,5] []),(4,zK [0,1,5,14] []),(5,zK [0,1,5] []),(6,zK [0,1,5,25] []),(7,zK [4] []),(8,zK [4] [])],
 [(4,zK [0,1,5] [])],
 [(3,zK [0,1] [])],
 [],[]⟩
abbrev R25:=Bool
abbrev e25 (r:R25):List PA:=[.one (.bool r)]
@[irreducible] def z25:=ptF Tryd.prog G25 zGI Tryd.f25
def zD6 (a:(Sl Int)) (b:(Sl Int)) (iv1:Int):St:=⟨[(0,zS zad 1 a),(1,zS zad 1 b),(5,zI iv1)],[],[]⟩
abbrev zKJ (K:List PA->Prop) (a:(Sl Int)) (b:(Sl Int)) (X:St->Prop) (P:Int->Bool) (S:Int->Bool):Prop:=∀ ⦃iv1:Int⦄,P iv1=true->K (e25 (S iv1))->X (zD6 a b iv1)
section
variable {K:List PA->Prop}{a:(Sl Int)}{b:(Sl Int)}{iv1:Int}{X1:St->Prop}{P1:Int->Bool}{S1:Int->Bool}
def zyH (a:(Sl Int)) (b:(Sl Int)) (S1:Int->Bool) (iv1:Int):Bool :=
  (cond (decide (iv1 < (a.len : Int)))
 (cond ((a.get iv1.toNat) != (b.get iv1.toNat))
 false
 (S1 (w64 (iv1+(1:Int)))))
 true)
def zyI (a:(Sl Int)) (b:(Sl Int)) (P1:Int->Bool) (iv1:Int):Bool :=
  (cond (decide (iv1 < (a.len : Int)))
 (decide ((0<=iv1/\iv1 < (a.len:Int))) &&
 (decide ((0<=iv1/\iv1 < (b.len:Int))) &&
 (cond ((a.get iv1.toNat) != (b.get iv1.toNat))
 true
 (P1 (w64 (iv1+(1:Int)))))))
 true)
def zyJ (a:(Sl Int)) (b:(Sl Int)):Nat->Int->Bool:=lpO (λ _=>default) (zyH a b)
def zyK (a:(Sl Int)) (b:(Sl Int)):Nat->Int->Bool:=lpO (λ _=>false) (zyI a b)
def zyL (a:(Sl Int)) (b:(Sl Int)) (iv1:Int):Bool:=zyJ a b Fuel iv1
def zyM (a:(Sl Int)) (b:(Sl Int)) (iv1:Int):Bool:=zyK a b Fuel iv1
theorem zGJ (hs:zyM a b iv1=true) (hk:K (e25 (zyL a b iv1))):z25 K [1,1,0,1,0] [] (zD6 a b iv1) :=
  zl (λ X=>z25 K [1,1,0,1,0,0] [X]) (by kernel_rfl) λ X1 hX =>
  (show ∀ k, zKJ K a b X1 (zyK a b k) (zyJ a b k) from zeH _ _ (zyI a b) (zyH a b) (zKJ K a b X1)
 (by intro _ hs;exact absurd hs dqk)
 (by intro P1 S1 hX1 iv1 hs hk;exact hX _ (zaW (by kernel_rfl) (zc hs hk (λ hs hk=>(zaI hs λ hc hs=>And.intro hc (zaI hs λ hc hs=>And.intro hc (zc hs hk (λ hs hk=>hk) (λ hs hk=>(hX1 hs hk)))))) (λ hs hk=>hk))))) _ hs hk
def zyN (a:(Sl Int)) (b:(Sl Int)):Bool :=
  (zyL a b (0:Int))
def zyO (a:(Sl Int)) (b:(Sl Int)):Bool :=
  (zyM a b (0:Int))
theorem zGK (hs:zyO a b=true) (hk:K (e25 (zyN a b))):z25 K [1,1] [] ⟨[(0,zS zad 1 a),(1,zS zad 1 b)],[],[]⟩:=zaW (by kernel_rfl) (zGJ hs hk)
def s25 (a:(Sl Int)) (b:(Sl Int)):Bool :=
  (cond ((a.len : Int) != (b.len : Int))
 false
 (zyN a b))
def p25 (a:(Sl Int)) (b:(Sl Int)):Bool :=
  (cond ((a.len : Int) != (b.len : Int))
 true
 (zyO a b))
end
theorem q25 (a:(Sl Int)) (b:(Sl Int)) (K:List PA->Prop) (hs:p25 a b=true) (hk:K (e25 (s25 a b))):vcFun Tryd.prog G25 zGI 25 [.one (.sl a.len 1 (λ i=>zad (a.get i))),.one (.sl b.len 1 (λ i=>zad (b.get i)))] K :=
  zaW (by kernel_rfl) (zc hs hk (λ hs hk=>hk) (λ hs hk=>(zGK hs hk)))
def zGL : List PA → COut
  | [.one (.sl zf0 zmh zf1),.one (.sl zg0 zom zgR)]=>.det (IsE zad 1 zmh zf1/\IsE zad 1 zom zgR/\p25 (⟨zf0,zaq zf1⟩:(Sl Int)) (⟨zg0,zaq zgR⟩:(Sl Int))=true) [.one (.bool (s25 (⟨zf0,zaq zf1⟩:(Sl Int)) (⟨zg0,zaq zgR⟩:(Sl Int))))]
  | _=>.no
theorem zKK:zav Tryd.prog 25:=⟨_,rfl,rfl,by kernel_rfl⟩
theorem zO0:Ok Tryd.prog 25 zGL:=zbx zNi zKK λ args K h=>by
  unfold zGL at h
  split at h
  · rename_i zf0 zmh zf1 zg0 zom zgR
    obtain⟨⟨⟨rfl,zix,rfl⟩,⟨rfl,zk4,rfl⟩,hs⟩,hk⟩:=h
    try rw[zbR zix] at hs
    try rw[zbR zix] at hk
    try rw[zbR zk4] at hs
    try rw[zbR zk4] at hk
    exact⟨(λ _ _=>[]),(λ _=>false),zGI,q25 (⟨zf0,zix⟩:(Sl Int)) (⟨zg0,zk4⟩:(Sl Int)) K hs hk⟩
  · exact h.elim
abbrev T76:Tabs:=(((Tabs.nil.addF 93 zpd).addF 104 zpg).addI 110 zpf)
theorem zNj:TabsOk Tryd.prog T76:=(((TabsOk.nil.addF zI6).addF zFO).addI zuY)
abbrev G76:Ctrs:=csm T76 (λ _ _=>[]) (λ _=>false)
def zyP:Ann:=⟨66,[(0,zK [0,1,4] [4]),(1,zK [0,1,4,5] [4,5]),(2,zK [0,1,4,5,10] [4,5]),(3,zK [0,1,4,5,10,11] [4,5]),(4,zK [0,1,4,5,6,10] [4,5]),(5,zK [0,1,4,5,10] [4,5]),(6,zK [0,1,4,5,10] [4,5]),(7,zK [0,4,5] [4,5]),(8,zK [0,4,5,7] [4,5,7]),(9,zK [0,4,5,7,20] [4,5,7]),(10,zK [0,4,5,7] [4,5,7]),(11,zK [0,4,5,7,22] [4,5,7]),(12,zK [0,4,5,7,8,22] [4,5,7,8]),(13,zK [0,4,5,7,8,22,29] [4,5,7,8]),(14,zK [0,4,5,7,8,9,22] [4,5,7,8,9]),(15,zK [0,4,5,7,8,9,22] [4,5,7,8,9]),(16,zK [0,4,5,7,22] [4,5,7]),(17,zK [0,4,5,64] [4,5]),(18,zK [0,4,5,7] [4,5,7]),(19,zK [4] [4])],
 [(3,zK [0,1,4,5,10] [4,5]),(9,zK [0,4,5,7] [4,5,7]),(12,zK [0,4,5,7,22] [4,5,7])],
 [(7,zK [0,1,4,5] [4,5])],
 [],[]⟩
abbrev R76:=Tab
abbrev e76 (r:R76):List PA:=[.agg (zar r)]
@[irreducible] def z76:=ptF Tryd.prog G76 zyP Tryd.f76
@[irreducible] def x76:=exF Tryd.prog G76 zyP Tryd.f76
@[irreducible] def y76:=rnF Tryd.prog G76 zyP Tryd.f76
def zD7 (w:web) (node:Int) (za7:Int) (t4t0:Tab) (dt0:Tab):St:=⟨[(0,zP (.fp (zaE w) 0)),(1,zI node),(4,zp 4 0),(5,zp 5 0),(10,zI za7)],[(4,.box 116 (zm (zar t4t0))),(5,.box 116 (zm (zar dt0)))],[]⟩
abbrev zKL (K:List PA->Prop) (w:web) (node:Int) (X:St->Prop) (P:Int->Tab->Tab->Bool) (S:Int->Tab->Tab->Tab):Prop:=∀ ⦃za7:Int⦄ ⦃t4t0:Tab⦄ ⦃dt0:Tab⦄,P za7 t4t0 dt0=true->K (e76 (S za7 t4t0 dt0))->X (zD7 w node za7 t4t0 dt0)
def zD8 (w:web) (zax:Bool) (t4t2:Tab) (dt2:Tab):St:=⟨[(0,zP (.fp (zaE w) 0)),(4,zp 4 0),(5,zp 5 0),(7,zp 7 0)],[(4,.box 116 (zm (zar t4t2))),(5,.box 116 (zm (zar dt2))),(7,.box 4 [.p (.bool zax)])],[]⟩
abbrev zGM (K:List PA->Prop) (w:web) (X:St->Prop) (P:Bool->Tab->Tab->Bool) (S:Bool->Tab->Tab->Tab):Prop:=∀ ⦃zax:Bool⦄ ⦃t4t2:Tab⦄ ⦃dt2:Tab⦄,P zax t4t2 dt2=true->K (e76 (S zax t4t2 dt2))->X (zD8 w zax t4t2 dt2)
def zyQ (w:web) (zal:Bool) (t4t3:Tab) (dt3:Tab):St:=⟨[(0,zP (.fp (zaE w) 0)),(4,zp 4 0),(5,zp 5 0),(7,zp 7 0),(22,zP (.fn 110 [] [.fp [.fp (zaE w) 0] 0]))],[(4,.box 116 (zm (zar t4t3))),(5,.box 116 (zm (zar dt3))),(7,.box 4 [.p (.bool zal)])],[]⟩
abbrev zKM (K:List PA->Prop) (w:web) (X:St->Prop) (P:Bool->Tab->Tab->Bool) (S:Bool->Tab->Tab->Tab):Prop:=∀ ⦃zal:Bool⦄ ⦃t4t3:Tab⦄ ⦃dt3:Tab⦄,P zal t4t3 dt3=true->K (e76 (S zal t4t3 dt3))->X (zyQ w zal t4t3 dt3)
section
variable {K:List PA->Prop}{w:web}{node:Int}{za7:Int}{t4t0:Tab}{dt0:Tab}{X0:St->Prop}{P0:Int->Tab->Tab->Bool}{S0:Int->Tab->Tab->Tab}{t4t1:Tab}{dt1:Tab}{zax:Bool}{t4t2:Tab}{dt2:Tab}{X2:St->Prop}{P2:Bool->Tab->Tab->Bool}{S2:Bool->Tab->Tab->Tab}{zal:Bool}{t4t3:Tab}{dt3:Tab}
def zGN (S2:Bool->Tab->Tab->Tab) (w:web) (zal:Bool) (t4t3:Tab) (dt3:Tab):Tab :=
  (S2 zal t4t3 dt3)
def zGO (P2:Bool->Tab->Tab->Bool) (w:web) (zal:Bool) (t4t3:Tab) (dt3:Tab):Bool :=
  (P2 zal t4t3 dt3)
def znF (S2:Bool->Tab->Tab->Tab) (w:web) (y3:step) (S3:Bool->Tab->Tab->Tab) (zal:Bool) (t4t3:Tab) (dt3:Tab):Tab :=
  (cond (nvr (tL dt3 y3.from_) (tU dt3 y3.from_))
 (S3 zal t4t3 dt3)
 (cond zal
 (S3 true t4t3 (ts 80 dt3 (0+y3.to.toNat * 2+0) [(zc4 (⟨(tL dt3 y3.to),(tU dt3 y3.to)⟩:far) (⟨1,λ _=>(⟨(w64 ((tL dt3 y3.from_)+y3.length)),(w64 ((tV dt3 y3.from_)+(1:Int)))⟩:far)⟩:(Sl far))).length,(zc4 (⟨(tL dt3 y3.to),(tU dt3 y3.to)⟩:far) (⟨1,λ _=>(⟨(w64 ((tL dt3 y3.from_)+y3.length)),(w64 ((tV dt3 y3.from_)+(1:Int)))⟩:far)⟩:(Sl far))).uses]))
 (S3 (!(match ((zc4 (⟨(tL dt3 y3.to),(tU dt3 y3.to)⟩:far) (⟨1,λ _=>(⟨(w64 ((tL dt3 y3.from_)+y3.length)),(w64 ((tV dt3 y3.from_)+(1:Int)))⟩:far)⟩:(Sl far))).length == (tL dt3 y3.to)) with | true=>(match ((zc4 (⟨(tL dt3 y3.to),(tU dt3 y3.to)⟩:far) (⟨1,λ _=>(⟨(w64 ((tL dt3 y3.from_)+y3.length)),(w64 ((tV dt3 y3.from_)+(1:Int)))⟩:far)⟩:(Sl far))).uses == (tU dt3 y3.to)) with | true=>true | false=>false) | false=>false)) t4t3 (ts 80 dt3 (0+y3.to.toNat * 2+0) [(zc4 (⟨(tL dt3 y3.to),(tU dt3 y3.to)⟩:far) (⟨1,λ _=>(⟨(w64 ((tL dt3 y3.from_)+y3.length)),(w64 ((tV dt3 y3.from_)+(1:Int)))⟩:far)⟩:(Sl far))).length,(zc4 (⟨(tL dt3 y3.to),(tU dt3 y3.to)⟩:far) (⟨1,λ _=>(⟨(w64 ((tL dt3 y3.from_)+y3.length)),(w64 ((tV dt3 y3.from_)+(1:Int)))⟩:far)⟩:(Sl far))).uses]))))
def znG (P2:Bool->Tab->Tab->Bool) (w:web) (y3:step) (P3:Bool->Tab->Tab->Bool) (zal:Bool) (t4t3:Tab) (dt3:Tab):Bool :=
  (decide ((0<=y3.from_/\y3.from_ < (40:Int))) &&
 (cond (nvr (tL dt3 y3.from_) (tU dt3 y3.from_))
 (P3 zal t4t3 dt3)
 (decide ((0<=y3.to/\y3.to < (40:Int))) &&
 (decide ((0<=y3.from_/\y3.from_ < (40:Int))) &&
 (decide ((0<=y3.from_/\y3.from_ < (40:Int))) &&
 (decide ((zCk (⟨(tL dt3 y3.to),(tU dt3 y3.to)⟩:far) (⟨1,λ _=>(⟨(w64 ((tL dt3 y3.from_)+y3.length)),(w64 ((tV dt3 y3.from_)+(1:Int)))⟩:far)⟩:(Sl far))=true)) &&
 (cond zal
 (decide ((0<=y3.to/\y3.to < (40:Int))) &&
 (P3 true t4t3 (ts 80 dt3 (0+y3.to.toNat * 2+0) [(zc4 (⟨(tL dt3 y3.to),(tU dt3 y3.to)⟩:far) (⟨1,λ _=>(⟨(w64 ((tL dt3 y3.from_)+y3.length)),(w64 ((tV dt3 y3.from_)+(1:Int)))⟩:far)⟩:(Sl far))).length,(zc4 (⟨(tL dt3 y3.to),(tU dt3 y3.to)⟩:far) (⟨1,λ _=>(⟨(w64 ((tL dt3 y3.from_)+y3.length)),(w64 ((tV dt3 y3.from_)+(1:Int)))⟩:far)⟩:(Sl far))).uses])))
 (decide ((0<=y3.to/\y3.to < (40:Int))) &&
 (decide ((0<=y3.to/\y3.to < (40:Int))) &&
 (P3 (!(match ((zc4 (⟨(tL dt3 y3.to),(tU dt3 y3.to)⟩:far) (⟨1,λ _=>(⟨(w64 ((tL dt3 y3.from_)+y3.length)),(w64 ((tV dt3 y3.from_)+(1:Int)))⟩:far)⟩:(Sl far))).length == (tL dt3 y3.to)) with | true=>(match ((zc4 (⟨(tL dt3 y3.to),(tU dt3 y3.to)⟩:far) (⟨1,λ _=>(⟨(w64 ((tL dt3 y3.from_)+y3.length)),(w64 ((tV dt3 y3.from_)+(1:Int)))⟩:far)⟩:(Sl far))).uses == (tU dt3 y3.to)) with | true=>true | false=>false) | false=>false)) t4t3 (ts 80 dt3 (0+y3.to.toNat * 2+0) [(zc4 (⟨(tL dt3 y3.to),(tU dt3 y3.to)⟩:far) (⟨1,λ _=>(⟨(w64 ((tL dt3 y3.from_)+y3.length)),(w64 ((tV dt3 y3.from_)+(1:Int)))⟩:far)⟩:(Sl far))).length,(zc4 (⟨(tL dt3 y3.to),(tU dt3 y3.to)⟩:far) (⟨1,λ _=>(⟨(w64 ((tL dt3 y3.from_)+y3.length)),(w64 ((tV dt3 y3.from_)+(1:Int)))⟩:far)⟩:(Sl far))).uses])))))))))))
def znH (S2:Bool->Tab->Tab->Tab) (w:web):List step->Bool->Tab->Tab->Tab:=lpR (zGN S2 w) (znF S2 w)
def znI (P2:Bool->Tab->Tab->Bool) (w:web):List step->Bool->Tab->Tab->Bool:=lpR (zGO P2 w) (znG P2 w)
def zrg (S2:Bool->Tab->Tab->Tab) (w:web) (zal:Bool) (t4t3:Tab) (dt3:Tab):Tab:=znH S2 w (zk7 w) zal t4t3 dt3
def zrh (P2:Bool->Tab->Tab->Bool) (w:web) (zal:Bool) (t4t3:Tab) (dt3:Tab):Bool:=decide ((zvf w=true)) && znI P2 w (zk7 w) zal t4t3 dt3
theorem zGP (hX2:zGM K w X2 P2 S2) (hs:zrh P2 w zal t4t3 dt3=true) (hk:K (e76 (zrg S2 w zal t4t3 dt3))):z76 K [1,1,1,1,0,1,0,0,1,0,0,1,1,0] [X2] (zyQ w zal t4t3 dt3) :=
  zaI hs λ hc hs=>zr (enc:=(λ y:step=>[.agg (zaB y)])) (ys:=zk7 w) (g:=(zyQ w zal t4t3 dt3)) (x76 K [1,1,1,1,0,1,0,0,1,0,0,1,1,0] [X2]) (y76 K [1,1,1,1,0,1,0,0,1,0,0,1,1,0] [X2]) (by kernel_rfl) (And.intro (zE enc_40 4 w.Net.Ties.get) (And.intro (rfl:((false,1,false,[none]):MQ)=(false,1,false,[none])) hc)) λ X3 hE hR =>
  (show ∀ l : List step, zKM K w (X3 (l.map (λ y : step => [.agg (zaB y)]))) (znI P2 w l) (znH S2 w l) from zri (X := X3) (enc := (λ y : step => [.agg (zaB y)])) _ _ (znG P2 w) (znF S2 w) (λ Z P S => zKM K w Z P S)
 (by intro zal t4t3 dt3 hs hk;exact hE _ (zaW (by kernel_rfl) (hX2 hs hk)))
 (by intro y3 rest P3 S3 hX3 zal t4t3 dt3 hs hk;exact hR _ rest _ (zaW (by kernel_rfl) (zaI hs λ hc hs=>And.intro hc (zc hs hk (λ hs hk=>(hX3 hs hk)) (λ hs hk=>(zaI hs λ hc hs=>And.intro hc (zaI hs λ hc hs=>And.intro hc (zaI hs λ hc hs=>And.intro hc (zaI hs λ hc hs=>And.intro (And.intro (zwQ:IsE zcg 2 2 (λ _=>(zcg (⟨(w64 ((tL dt3 y3.from_)+y3.length)),(w64 ((tV dt3 y3.from_)+(1:Int)))⟩:far)))) hc) (zc hs hk (λ hs hk=>(zaI hs λ hc hs=>And.intro hc (hX3 hs hk))) (λ hs hk=>(zaI hs λ hc hs=>And.intro hc (zaI hs λ hc hs=>And.intro hc (hX3 hs hk))))))))))))))) _ hs hk
def znJ (w:web) (S2:Bool->Tab->Tab->Tab) (zax:Bool) (t4t2:Tab) (dt2:Tab):Tab :=
  (cond zax
 (zrg S2 w false t4t2 dt2)
 dt2)
def znK (w:web) (P2:Bool->Tab->Tab->Bool) (zax:Bool) (t4t2:Tab) (dt2:Tab):Bool :=
  (cond zax
 (zrh P2 w false t4t2 dt2)
 true)
def zgf (w:web):Nat->Bool->Tab->Tab->Tab:=lpO (λ _ _ _=>default) (znJ w)
def zgg (w:web):Nat->Bool->Tab->Tab->Bool:=lpO (λ _ _ _=>false) (znK w)
def zrj (w:web) (zax:Bool) (t4t2:Tab) (dt2:Tab):Tab:=zgf w Fuel zax t4t2 dt2
def zrk (w:web) (zax:Bool) (t4t2:Tab) (dt2:Tab):Bool:=zgg w Fuel zax t4t2 dt2
theorem zGQ (hs:zrk w zax t4t2 dt2=true) (hk:K (e76 (zrj w zax t4t2 dt2))):z76 K [1,1,1,1,0,1,0] [] (zD8 w zax t4t2 dt2) :=
  zl (λ X=>z76 K [1,1,1,1,0,1,0,0] [X]) (by kernel_rfl) λ X2 hX =>
  (show ∀ k, zGM K w X2 (zgg w k) (zgf w k) from zeH _ _ (znK w) (znJ w) (zGM K w X2)
 (by intro _ _ _ hs;exact absurd hs dqk)
 (by intro P2 S2 hX2 zax t4t2 dt2 hs hk;exact hX _ (zaW (by kernel_rfl) (zc hs hk (λ hs hk=>(And.intro (And.intro (zE enc_40 4 w.Net.Ties.get) (rfl:((false,1,false,[none]):MQ)=(false,1,false,[none]))) (zGP hX2 hs hk))) (λ hs hk=>hk))))) _ hs hk
def znL (w:web) (node:Int) (t4t1:Tab) (dt1:Tab):Tab :=
  (zrj w true t4t1 (ts 80 dt1 (0+node.toNat * 2+0) [(0:Int),(0:Int)]))
def znM (w:web) (node:Int) (t4t1:Tab) (dt1:Tab):Bool :=
  (decide ((0<=node/\node < (40:Int))) &&
 (zrk w true t4t1 (ts 80 dt1 (0+node.toNat * 2+0) [(0:Int),(0:Int)])))
theorem zGR (hs:znM w node t4t1 dt1=true) (hk:K (e76 (znL w node t4t1 dt1))):z76 K [1,1,1] [] ⟨[(0,zP (.fp (zaE w) 0)),(1,zI node),(4,zp 4 0),(5,zp 5 0)],[(4,.box 116 (zm (zar t4t1))),(5,.box 116 (zm (zar dt1)))],[]⟩:=zaW (by kernel_rfl) (zaI hs λ hc hs=>And.intro hc (zGQ hs hk))
def ziU (w:web) (node:Int) (S0:Int->Tab->Tab->Tab) (za7:Int) (t4t0:Tab) (dt0:Tab):Tab :=
  (cond (decide (za7 < (40:Int)))
 (S0 (w64 (za7+(1:Int))) t4t0 (ts 80 dt0 (0+za7.toNat * 2+0) [(1000000000000:Int),(0:Int)]))
 (znL w node t4t0 dt0))
def ziV (w:web) (node:Int) (P0:Int->Tab->Tab->Bool) (za7:Int) (t4t0:Tab) (dt0:Tab):Bool :=
  (cond (decide (za7 < (40:Int)))
 (decide ((0<=za7/\za7 < (40:Int))) &&
 (P0 (w64 (za7+(1:Int))) t4t0 (ts 80 dt0 (0+za7.toNat * 2+0) [(1000000000000:Int),(0:Int)])))
 (znM w node t4t0 dt0))
def ziW (w:web) (node:Int):Nat->Int->Tab->Tab->Tab:=lpO (λ _ _ _=>default) (ziU w node)
def ziX (w:web) (node:Int):Nat->Int->Tab->Tab->Bool:=lpO (λ _ _ _=>false) (ziV w node)
def zyR (w:web) (node:Int) (za7:Int) (t4t0:Tab) (dt0:Tab):Tab:=ziW w node Fuel za7 t4t0 dt0
def zyS (w:web) (node:Int) (za7:Int) (t4t0:Tab) (dt0:Tab):Bool:=ziX w node Fuel za7 t4t0 dt0
theorem zGS (hs:zyS w node za7 t4t0 dt0=true) (hk:K (e76 (zyR w node za7 t4t0 dt0))):z76 K [1,1,0,1,0] [] (zD7 w node za7 t4t0 dt0) :=
  zl (λ X=>z76 K [1,1,0,1,0,0] [X]) (by kernel_rfl) λ X0 hX =>
  (show ∀ k, zKL K w node X0 (ziX w node k) (ziW w node k) from zeH _ _ (ziV w node) (ziU w node) (zKL K w node X0)
 (by intro _ _ _ hs;exact absurd hs dqk)
 (by intro P0 S0 hX0 za7 t4t0 dt0 hs hk;exact hX _ (zaW (by kernel_rfl) (zc hs hk (λ hs hk=>(zaI hs λ hc hs=>And.intro hc (hX0 hs hk))) (λ hs hk=>(zGR hs hk)))))) _ hs hk
def s76 (w:web) (node:Int):Tab :=
  (zyR w node (0:Int) (λ _=>(0:Int)) (λ _=>(0:Int)))
def p76 (w:web) (node:Int):Bool :=
  (zyS w node (0:Int) (λ _=>(0:Int)) (λ _=>(0:Int)))
end
theorem q76 (w:web) (node:Int) (K:List PA->Prop) (hs:p76 w node=true) (hk:K (e76 (s76 w node))):vcFun Tryd.prog G76 zyP 76 [.one (.fp (zaE w) 0),.one (.int .i64 node)] K :=
  zaW (by kernel_rfl) (zGS hs hk)
def zu6 : List PA → COut
  | [.one (.fp [.int .i64 zat,.sl zan zaK zao,.fm zbz zaL zaM] 0),.one (.int .i64 a1)]=>.det (IsE enc_40 4 zaK zao/\zbz=(false,1,false,[none])/\p76 (⟨(⟨zat,(⟨zan,zai zao⟩:(Sl Tie))⟩:Net),(⟨zaL,zaM⟩:Mp)⟩:web) a1=true) [.agg (zar ((s76 (⟨(⟨zat,(⟨zan,zai zao⟩:(Sl Tie))⟩:Net),(⟨zaL,zaM⟩:Mp)⟩:web) a1)))]
  | _=>.no
theorem zKN:zav Tryd.prog 76:=⟨_,rfl,rfl,by kernel_rfl⟩
theorem zMq:Ok Tryd.prog 76 zu6:=zbx zNj zKN λ args K h=>by
  unfold zu6 at h
  split at h
  · rename_i zat zan zaK zao zbz zaL zaM a1
    obtain⟨⟨⟨rfl,zaA,rfl⟩,rfl,hs⟩,hk⟩:=h
    try rw[zaj zaA] at hs
    try rw[zaj zaA] at hk
    exact⟨(λ _ _=>[]),(λ _=>false),zyP,q76 (⟨(⟨zat,(⟨zan,zaA⟩:(Sl Tie))⟩:Net),(⟨zaL,zaM⟩:Mp)⟩:web) a1 K hs hk⟩
  · exact h.elim
abbrev T26:Tabs:=(((Tabs.nil.addF 74 zuZ).addF 75 zu0).addF 76 zu6)
theorem zNk:TabsOk Tryd.prog T26:=(((TabsOk.nil.addF zMj).addF zMl).addF zMq)
abbrev G26:Ctrs:=csm T26 (λ _ _=>[]) (λ _=>false)
def zGT:Ann:=⟨45,[(0,zK [1] [1]),(1,zK [1,4,5] [1]),(2,zK [1,4,5,16] [1]),(3,zK [2,3] []),(4,zK [1,6,7] [1,6,7]),(5,zK [6,7,8] [6,7,24]),(6,zK [6,7,8,26,27] [6,7,24]),(7,zK [6,7,8,26,27,28] [6,7,24]),(8,zK [6,7,8,9,26,27] [6,7,24]),(9,zK [6,7,8,26,27] [6,7,24]),(10,zK [6,7,8,26,27] [6,7,24]),(11,zK [2,3] [24])],
 [(7,zK [6,7,8,26,27] [6,7,24])],
 [],
 [],[]⟩
abbrev R26:=((Sl Span)×Int)
abbrev e26 (r:R26):List PA:=[.one (.sl r.1.len 2 (λ i=>zbD (r.1.get i))),.one (.int .i64 r.2)]
@[irreducible] def z26:=ptF Tryd.prog G26 zGT Tryd.f26
def zD9 (n:Net) (zcm:Int) (zdh:(Sl Span)) (tot0:Tab) (fromt0:Tab) (zgh:Nat->List PV):St:=⟨[(6,zp 6 0),(7,zp 7 0),(8,zv 24),(26,zI (n.Nodes.toNat:Int)),(27,zI zcm)],[(6,.box 116 (zm (zar tot0))),(7,.box 116 (zm (zar fromt0))),(24,.vec 43 2 16 zdh.len zgh)],[]⟩
abbrev zKO (K:List PA->Prop) (n:Net) (X:St->Prop) (P:Int->(Sl Span)->Tab->Tab->Bool) (S:Int->(Sl Span)->Tab->Tab->((Sl Span)×Int)):Prop:=∀ ⦃zcm:Int⦄ ⦃zdh:(Sl Span)⦄ ⦃tot0:Tab⦄ ⦃fromt0:Tab⦄ ⦃zgh:Nat->List PV⦄,P zcm zdh tot0 fromt0=true->K (e26 (S zcm zdh tot0 fromt0))->zgh=zg zbD zdh->X (zD9 n zcm zdh tot0 fromt0 zgh)
section
variable {K:List PA->Prop}{n:Net}{zcm:Int}{zdh:(Sl Span)}{tot0:Tab}{fromt0:Tab}{zgh:Nat->List PV}{X0:St->Prop}{P0:Int->(Sl Span)->Tab->Tab->Bool}{S0:Int->(Sl Span)->Tab->Tab->((Sl Span)×Int)}
def zyT (n:Net) (S0:Int->(Sl Span)->Tab->Tab->((Sl Span)×Int)) (zcm:Int) (zdh:(Sl Span)) (tot0:Tab) (fromt0:Tab):((Sl Span)×Int) :=
  (cond (decide (zcm < (n.Nodes.toNat : Int)))
 (S0 (w64 (zcm+(1:Int))) (⟨zdh.len,(setT zcm.toNat (⟨(w64 (0 - (tg 80 tot0 (0+zcm.toNat * 2+0)))),(tg 80 fromt0 (0+zcm.toNat * 2+0))⟩:Span) zdh.get)⟩:Sl Span) tot0 fromt0)
 (zdh,(0:Int)))
def zyU (n:Net) (P0:Int->(Sl Span)->Tab->Tab->Bool) (zcm:Int) (zdh:(Sl Span)) (tot0:Tab) (fromt0:Tab):Bool :=
  (cond (decide (zcm < (n.Nodes.toNat : Int)))
 (decide ((0<=zcm/\zcm < (40:Int))) &&
 (decide ((0<=zcm/\zcm < (40:Int))) &&
 (decide ((0<=zcm/\zcm < (zdh.len:Int))) &&
 (decide ((zcm.toNat < zdh.len)) &&
 (P0 (w64 (zcm+(1:Int))) (⟨zdh.len,(setT zcm.toNat (⟨(w64 (0 - (tg 80 tot0 (0+zcm.toNat * 2+0)))),(tg 80 fromt0 (0+zcm.toNat * 2+0))⟩:Span) zdh.get)⟩:Sl Span) tot0 fromt0)))))
 true)
def zyV (n:Net):Nat->Int->(Sl Span)->Tab->Tab->((Sl Span)×Int):=lpO (λ _ _ _ _=>default) (zyT n)
def zyW (n:Net):Nat->Int->(Sl Span)->Tab->Tab->Bool:=lpO (λ _ _ _ _=>false) (zyU n)
def zyX (n:Net) (zcm:Int) (zdh:(Sl Span)) (tot0:Tab) (fromt0:Tab):((Sl Span)×Int):=zyV n Fuel zcm zdh tot0 fromt0
def zyY (n:Net) (zcm:Int) (zdh:(Sl Span)) (tot0:Tab) (fromt0:Tab):Bool:=zyW n Fuel zcm zdh tot0 fromt0
theorem zGU (hs:zyY n zcm zdh tot0 fromt0=true) (hk:K (e26 (zyX n zcm zdh tot0 fromt0))) (zrl:zgh=zg zbD zdh):z26 (Wk K) [1,1,1,1,1,0,1,0] [] (zD9 n zcm zdh tot0 fromt0 zgh) :=
  zl (λ X=>z26 (Wk K) [1,1,1,1,1,0,1,0,0] [X]) (by kernel_rfl) λ X0 hX =>
  (show ∀ k, zKO K n X0 (zyW n k) (zyV n k) from zeH _ _ (zyU n) (zyT n) (zKO K n X0)
 (by intro _ _ _ _ _ hs;exact absurd hs dqk)
 (by intro P0 S0 hX0 zcm zdh tot0 fromt0 zgh hs hk zrl;subst zrl;exact hX _ (zaW (by kernel_rfl) (zc hs hk (λ hs hk=>(zaI hs λ hc hs=>And.intro hc (zaI hs λ hc hs=>And.intro hc (zaI hs λ hc hs=>And.intro hc (zaI hs λ hc hs=>And.intro hc (hX0 hs hk (zfU (enc:=zbD) (i:=zcm.toNat) (k:=0) (f:=zdh.get) (new:=(zbD (⟨(w64 (0 - (tg 80 tot0 (0+zcm.toNat * 2+0)))),(tg 80 fromt0 (0+zcm.toNat * 2+0))⟩:Span))) (v:=(⟨(w64 (0 - (tg 80 tot0 (0+zcm.toNat * 2+0)))),(tg 80 fromt0 (0+zcm.toNat * 2+0))⟩:Span)) rfl rfl))))))) (λ hs hk=>((zfW hk):Wk K [.one (.sl zdh.len 2 (λ i=>zbD (zdh.get i))),.one (.int .i64 (0:Int))])))))) _ hs hk zrl
def s26 (n:Net):((Sl Span)×Int) :=
  (cond ((s74 n (⟨0, λ _ => default⟩ : (Sl Int))).2 == 0)
 (cond ((0:Int) != (0:Int))
 ((⟨0,λ _=>default⟩:(Sl Span)),(0:Int))
 (zyX n (0:Int) (⟨n.Nodes.toNat,(λ _=>(⟨(0:Int),(0:Int)⟩:Span))⟩:Sl Span) (s75 (⟨(s74 n (⟨0,λ _=>default⟩:(Sl Int))).1.Net,((s74 n (⟨0,λ _=>default⟩:(Sl Int))).1.out)⟩:web) (0:Int)) (s76 (⟨(s74 n (⟨0,λ _=>default⟩:(Sl Int))).1.Net,((s74 n (⟨0,λ _=>default⟩:(Sl Int))).1.out)⟩:web) (0:Int))))
 (cond ((s74 n (⟨0, λ _ => default⟩ : (Sl Int))).2 != (0:Int))
 ((⟨0,λ _=>default⟩:(Sl Span)),(s74 n (⟨0,λ _=>default⟩:(Sl Int))).2)
 default))
def p26 (n:Net):Bool :=
  (cond ((s74 n (⟨0, λ _ => default⟩ : (Sl Int))).2 == 0)
 (decide ((p74 n (⟨0,λ _=>default⟩:(Sl Int))=true)) &&
 (cond ((0:Int) != (0:Int))
 true
 (decide ((p75 (⟨(s74 n (⟨0,λ _=>default⟩:(Sl Int))).1.Net,((s74 n (⟨0,λ _=>default⟩:(Sl Int))).1.out)⟩:web) (0:Int)=true)) &&
 (decide ((p76 (⟨(s74 n (⟨0,λ _=>default⟩:(Sl Int))).1.Net,((s74 n (⟨0,λ _=>default⟩:(Sl Int))).1.out)⟩:web) (0:Int)=true)) &&
 (decide ((0<=n.Nodes/\n.Nodes=n.Nodes/\n.Nodes<=1000000)) &&
 (zyY n (0:Int) (⟨n.Nodes.toNat,(λ _=>(⟨(0:Int),(0:Int)⟩:Span))⟩:Sl Span) (s75 (⟨(s74 n (⟨0,λ _=>default⟩:(Sl Int))).1.Net,((s74 n (⟨0,λ _=>default⟩:(Sl Int))).1.out)⟩:web) (0:Int)) (s76 (⟨(s74 n (⟨0,λ _=>default⟩:(Sl Int))).1.Net,((s74 n (⟨0,λ _=>default⟩:(Sl Int))).1.out)⟩:web) (0:Int))))))))
 (decide ((p74 n (⟨0,λ _=>default⟩:(Sl Int))=true)) &&
 (cond ((s74 n (⟨0, λ _ => default⟩ : (Sl Int))).2 != (0:Int))
 true
 false)))
end
theorem q26 (n:Net) (K:List PA->Prop) (hs:p26 n=true) (hk:K (e26 (s26 n))):vcFun Tryd.prog G26 zGT 26 [.agg (enc_24 n)] (Wk K) :=
  zaW (by kernel_rfl) (zc hs hk (λ hs hk=>(zaI hs λ hc hs=>And.intro (And.intro (zE enc_40 4 n.Ties.get) hc) (zc hs hk (λ hs hk=>((wk hk (zhB (.one (.nil _ _)) (zhB (.one (.rfl _)) zol))):Wk K [.one (.nils),.one (.int .i64 (0:Int))])) (λ hs hk=>(zaI hs λ hc hs=>And.intro (And.intro (zE enc_40 4 ((s74 n (⟨0,λ _=>default⟩:(Sl Int))).1.Net.Ties.get)) (And.intro (rfl:((false,1,false,[none]):MQ)=(false,1,false,[none])) hc)) (zaI hs λ hc hs=>And.intro (And.intro (zE enc_40 4 ((s74 n (⟨0,λ _=>default⟩:(Sl Int))).1.Net.Ties.get)) (And.intro (rfl:((false,1,false,[none]):MQ)=(false,1,false,[none])) hc)) (zaI hs λ hc hs=>And.intro hc (zGU hs hk rfl)))))))) (λ hs hk=>(zaI hs λ hc hs=>And.intro (And.intro (zE enc_40 4 n.Ties.get) hc) (zc hs hk (λ hs hk=>((wk hk (zhB (.one (.nil _ _)) (zhB (.one (.rfl _)) zol))):Wk K [.one (.nils),.one (.int .i64 ((s74 n (⟨0,λ _=>default⟩:(Sl Int))).2))])) (λ hs hk=>(absurd hs dqk:False))))))
def zGV : List PA → COut
  | [.agg [.int .i64 zaf,.sl zae zaw zac]]=>.det (IsE enc_40 4 zaw zac/\p26 (⟨zaf,(⟨zae,zai zac⟩:(Sl Tie))⟩:Net)=true) [.one (.sl (((s26 (⟨zaf,(⟨zae,zai zac⟩:(Sl Tie))⟩:Net)).1).len) 2 (λ i=>zbD (((s26 (⟨zaf,(⟨zae,zai zac⟩:(Sl Tie))⟩:Net)).1).get i))),.one (.int .i64 ((s26 (⟨zaf,(⟨zae,zai zac⟩:(Sl Tie))⟩:Net)).2))]
  | _=>.no
theorem zKP:zav Tryd.prog 26:=⟨_,rfl,rfl,by kernel_rfl⟩
theorem zO1:Ok Tryd.prog 26 zGV:=zhl zNk zKP λ args K h=>by
  unfold zGV at h
  split at h
  · rename_i zaf zae zaw zac
    obtain⟨⟨⟨rfl,zak,rfl⟩,hs⟩,hk⟩:=h
    try rw[zaj zak] at hs
    try rw[zaj zak] at hk
    exact⟨_,zfB zfV _,(λ _ _=>[]),(λ _=>false),zGT,q26 (⟨zaf,(⟨zae,zak⟩:(Sl Tie))⟩:Net) K hs hk⟩
  · exact h.elim
abbrev T29:Tabs:=Tabs.nil
theorem zNl:TabsOk Tryd.prog T29:=TabsOk.nil
abbrev G29:Ctrs:=csm T29 (λ _ _=>[]) (λ _=>false)
def zKQ:Ann:=⟨13,[(0,zK [2,3,4] [2,3,4]),(1,zK [2,4] [2,4,7]),(2,zK [4] [4,7])],
 [],
 [],
 [],[]⟩
abbrev R29:=Net
abbrev e29 (r:R29):List PA:=[.agg [.int .i64 r.Nodes,.sl r.Ties.len 4 (λ i=>enc_40 (r.Ties.get i))]]
section
variable {K:List PA->Prop}{n:Net}{t:Tie}
def s29 (n:Net) (t:Tie):Net :=
  (⟨n.Nodes,(⟨(n.Ties.len+1),(zdm n.Ties.len n.Ties.get (λ _=>t))⟩:(Sl Tie))⟩:Net)
def p29 (n:Net) (t:Tie):Bool :=
  (decide ((n.Ties.len * 32<=140737488355328/\n.Ties.len<=9223372036854775807)) &&
 (decide (((n.Ties.len+1) * 32<=140737488355328/\n.Ties.len+1<=9223372036854775807)) &&
 true))
end
theorem q29 (n:Net) (t:Tie) (K:List PA->Prop) (hs:p29 n t=true) (hk:K (e29 (s29 n t))):vcFun Tryd.prog G29 zKQ 29 [.agg (enc_24 n),.agg (enc_40 t)] K :=
  zaW (by kernel_rfl) (zaI hs λ hc hs=>And.intro hc (zaI hs λ hc hs=>And.intro hc (Eq.mpr (congrArg K (congrArg (λ (g_:Nat->List PV)=>([.agg [.int .i64 n.Nodes,.sl (n.Ties.len+1) 4 g_]]:List PA)) (zjx (enc:=enc_40) (f:=n.Ties.get) (h:=(λ _=>t)) rfl rfl))) hk)))
def zGW : List PA → COut
  | [.agg [.int .i64 zaf,.sl zae zaw zac],.agg [.int .i64 zeV,.int .i64 zlI,.int .i64 zg7,.int .i64 zeW]]=>.det (IsE enc_40 4 zaw zac/\p29 (⟨zaf,(⟨zae,zai zac⟩:(Sl Tie))⟩:Net) (⟨zeV,zlI,zg7,zeW⟩:Tie)=true) [.agg [.int .i64 ((s29 (⟨zaf,(⟨zae,zai zac⟩:(Sl Tie))⟩:Net) (⟨zeV,zlI,zg7,zeW⟩:Tie)).Nodes),.sl ((s29 (⟨zaf,(⟨zae,zai zac⟩:(Sl Tie))⟩:Net) (⟨zeV,zlI,zg7,zeW⟩:Tie)).Ties.len) 4 (λ i=>enc_40 ((s29 (⟨zaf,(⟨zae,zai zac⟩:(Sl Tie))⟩:Net) (⟨zeV,zlI,zg7,zeW⟩:Tie)).Ties.get i))]]
  | _=>.no
theorem zKR:zav Tryd.prog 29:=⟨_,rfl,rfl,by kernel_rfl⟩
theorem zO2:Ok Tryd.prog 29 zGW:=zbx zNl zKR λ args K h=>by
  unfold zGW at h
  split at h
  · rename_i zaf zae zaw zac zeV zlI zg7 zeW
    obtain⟨⟨⟨rfl,zak,rfl⟩,hs⟩,hk⟩:=h
    try rw[zaj zak] at hs
    try rw[zaj zak] at hk
    exact⟨(λ _ _=>[]),(λ _=>false),zKQ,q29 (⟨zaf,(⟨zae,zak⟩:(Sl Tie))⟩:Net) (⟨zeV,zlI,zg7,zeW⟩:Tie) K hs hk⟩
  · exact h.elim
abbrev T32:Tabs:=Tabs.nil
theorem zNm:TabsOk Tryd.prog T32:=TabsOk.nil
abbrev G32:Ctrs:=csm T32 (λ _ _=>[]) (λ _=>false)
def zGX:Ann:=⟨26,[(0,zK [0,1] []),(1,zK [0,1,10] []),(2,zK [4] []),(3,zK [0,1,5] []),(4,zK [0,1,5,14] []),(5,zK [0,1,5] []),(6,zK [0,1,5,25] []),(7,zK [4] []),(8,zK [4] [])],
 [(4,zK [0,1,5] [])],
 [(3,zK [0,1] [])],
 [],[]⟩
abbrev R32:=Bool
abbrev e32 (r:R32):List PA:=[.one (.bool r)]
@[irreducible] def z32:=ptF Tryd.prog G32 zGX Tryd.f32
def zEa (a:(Sl Span)) (b:(Sl Span)) (iv1:Int):St:=⟨[(0,zS zbD 2 a),(1,zS zbD 2 b),(5,zI iv1)],[],[]⟩
abbrev zKS (K:List PA->Prop) (a:(Sl Span)) (b:(Sl Span)) (X:St->Prop) (P:Int->Bool) (S:Int->Bool):Prop:=∀ ⦃iv1:Int⦄,P iv1=true->K (e32 (S iv1))->X (zEa a b iv1)
section
variable {K:List PA->Prop}{a:(Sl Span)}{b:(Sl Span)}{iv1:Int}{X1:St->Prop}{P1:Int->Bool}{S1:Int->Bool}
def zyZ (a:(Sl Span)) (b:(Sl Span)) (S1:Int->Bool) (iv1:Int):Bool :=
  (cond (decide (iv1 < (a.len : Int)))
 (cond (!(match ((a.get iv1.toNat).Low == (b.get iv1.toNat).Low) with | true => (match ((a.get iv1.toNat).High == (b.get iv1.toNat).High) with | true => true | false => false) | false => false))
 false
 (S1 (w64 (iv1+(1:Int)))))
 true)
def zy0 (a:(Sl Span)) (b:(Sl Span)) (P1:Int->Bool) (iv1:Int):Bool :=
  (cond (decide (iv1 < (a.len : Int)))
 (decide ((0<=iv1/\iv1 < (a.len:Int))) &&
 (decide ((0<=iv1/\iv1 < (b.len:Int))) &&
 (cond (!(match ((a.get iv1.toNat).Low == (b.get iv1.toNat).Low) with | true => (match ((a.get iv1.toNat).High == (b.get iv1.toNat).High) with | true => true | false => false) | false => false))
 true
 (P1 (w64 (iv1+(1:Int)))))))
 true)
def zy1 (a:(Sl Span)) (b:(Sl Span)):Nat->Int->Bool:=lpO (λ _=>default) (zyZ a b)
def zy2 (a:(Sl Span)) (b:(Sl Span)):Nat->Int->Bool:=lpO (λ _=>false) (zy0 a b)
def zy3 (a:(Sl Span)) (b:(Sl Span)) (iv1:Int):Bool:=zy1 a b Fuel iv1
def zy4 (a:(Sl Span)) (b:(Sl Span)) (iv1:Int):Bool:=zy2 a b Fuel iv1
theorem zGY (hs:zy4 a b iv1=true) (hk:K (e32 (zy3 a b iv1))):z32 K [1,1,0,1,0] [] (zEa a b iv1) :=
  zl (λ X=>z32 K [1,1,0,1,0,0] [X]) (by kernel_rfl) λ X1 hX =>
  (show ∀ k, zKS K a b X1 (zy2 a b k) (zy1 a b k) from zeH _ _ (zy0 a b) (zyZ a b) (zKS K a b X1)
 (by intro _ hs;exact absurd hs dqk)
 (by intro P1 S1 hX1 iv1 hs hk;exact hX _ (zaW (by kernel_rfl) (zc hs hk (λ hs hk=>(zaI hs λ hc hs=>And.intro hc (zaI hs λ hc hs=>And.intro hc (zc hs hk (λ hs hk=>hk) (λ hs hk=>(hX1 hs hk)))))) (λ hs hk=>hk))))) _ hs hk
def zy5 (a:(Sl Span)) (b:(Sl Span)):Bool :=
  (zy3 a b (0:Int))
def zy6 (a:(Sl Span)) (b:(Sl Span)):Bool :=
  (zy4 a b (0:Int))
theorem zGZ (hs:zy6 a b=true) (hk:K (e32 (zy5 a b))):z32 K [1,1] [] ⟨[(0,zS zbD 2 a),(1,zS zbD 2 b)],[],[]⟩:=zaW (by kernel_rfl) (zGY hs hk)
def s32 (a:(Sl Span)) (b:(Sl Span)):Bool :=
  (cond ((a.len : Int) != (b.len : Int))
 false
 (zy5 a b))
def p32 (a:(Sl Span)) (b:(Sl Span)):Bool :=
  (cond ((a.len : Int) != (b.len : Int))
 true
 (zy6 a b))
end
theorem q32 (a:(Sl Span)) (b:(Sl Span)) (K:List PA->Prop) (hs:p32 a b=true) (hk:K (e32 (s32 a b))):vcFun Tryd.prog G32 zGX 32 [.one (.sl a.len 2 (λ i=>zbD (a.get i))),.one (.sl b.len 2 (λ i=>zbD (b.get i)))] K :=
  zaW (by kernel_rfl) (zc hs hk (λ hs hk=>hk) (λ hs hk=>(zGZ hs hk)))
def zG0 : List PA → COut
  | [.one (.sl zf0 zmh zf1),.one (.sl zg0 zom zgR)]=>.det (IsE zbD 2 zmh zf1/\IsE zbD 2 zom zgR/\p32 (⟨zf0,zfX zf1⟩:(Sl Span)) (⟨zg0,zfX zgR⟩:(Sl Span))=true) [.one (.bool (s32 (⟨zf0,zfX zf1⟩:(Sl Span)) (⟨zg0,zfX zgR⟩:(Sl Span))))]
  | _=>.no
theorem zKT:zav Tryd.prog 32:=⟨_,rfl,rfl,by kernel_rfl⟩
theorem ok32:Ok Tryd.prog 32 zG0:=zbx zNm zKT λ args K h=>by
  unfold zG0 at h
  split at h
  · rename_i zf0 zmh zf1 zg0 zom zgR
    obtain⟨⟨⟨rfl,zix,rfl⟩,⟨rfl,zk4,rfl⟩,hs⟩,hk⟩:=h
    try rw[zfm zix] at hs
    try rw[zfm zix] at hk
    try rw[zfm zk4] at hs
    try rw[zfm zk4] at hk
    exact⟨(λ _ _=>[]),(λ _=>false),zGX,q32 (⟨zf0,zix⟩:(Sl Span)) (⟨zg0,zk4⟩:(Sl Span)) K hs hk⟩
  · exact h.elim
abbrev T83:Tabs:=((Tabs.nil.addF 75 zu0).addF 76 zu6)
theorem zNn:TabsOk Tryd.prog T83:=((TabsOk.nil.addF zMl).addF zMq)
abbrev G83:Ctrs:=csm T83 (λ _ _=>[]) (λ _=>false)
def zG1:Ann:=⟨31,[(0,zK [0] []),(1,zK [0,3,4] [3,4]),(2,zK [3,4,14,15] [3,4]),(3,zK [3,4,14,15,16] [3,4]),(4,zK [3,4,5,14,15] [3,4]),(5,zK [3,4,14,15,29] [3,4]),(6,zK [2] []),(7,zK [3,4,14,15] [3,4]),(8,zK [2] [])],
 [(3,zK [3,4,14,15] [3,4])],
 [(2,zK [0,3,4] [3,4])],
 [],[]⟩
abbrev R83:=Bool
abbrev e83 (r:R83):List PA:=[.one (.bool r)]
@[irreducible] def z83:=ptF Tryd.prog G83 zG1 Tryd.f83
def zEb (w:web) (zcQ:Int) (tot1:Tab) (fromt1:Tab):St:=⟨[(3,zp 3 0),(4,zp 4 0),(14,zI w.Net.Nodes),(15,zI zcQ)],[(3,.box 116 (zm (zar tot1))),(4,.box 116 (zm (zar fromt1)))],[]⟩
abbrev zKU (K:List PA->Prop) (w:web) (X:St->Prop) (P:Int->Tab->Tab->Bool) (S:Int->Tab->Tab->Bool):Prop:=∀ ⦃zcQ:Int⦄ ⦃tot1:Tab⦄ ⦃fromt1:Tab⦄,P zcQ tot1 fromt1=true->K (e83 (S zcQ tot1 fromt1))->X (zEb w zcQ tot1 fromt1)
section
variable {K:List PA->Prop}{w:web}{tot0:Tab}{fromt0:Tab}{zcQ:Int}{tot1:Tab}{fromt1:Tab}{X1:St->Prop}{P1:Int->Tab->Tab->Bool}{S1:Int->Tab->Tab->Bool}
def zy7 (w:web) (S1:Int->Tab->Tab->Bool) (zcQ:Int) (tot1:Tab) (fromt1:Tab):Bool :=
  (cond (decide (zcQ < w.Net.Nodes))
 (cond (match ((tg 80 tot1 (0 + zcQ.toNat * 2 + 0)) == (1000000000000:Int)) with | true => (match ((tg 80 tot1 (0 + zcQ.toNat * 2 + 0 + 1)) == (0:Int)) with | true => true | false => false) | false => false)
 false
 (cond (match ((tg 80 fromt1 (0 + zcQ.toNat * 2 + 0)) == (1000000000000:Int)) with | true => (match ((tg 80 fromt1 (0 + zcQ.toNat * 2 + 0 + 1)) == (0:Int)) with | true => true | false => false) | false => false)
 false
 (S1 (w64 (zcQ+(1:Int))) tot1 fromt1)))
 true)
def zy8 (w:web) (P1:Int->Tab->Tab->Bool) (zcQ:Int) (tot1:Tab) (fromt1:Tab):Bool :=
  (cond (decide (zcQ < w.Net.Nodes))
 (decide ((0<=zcQ/\zcQ < (40:Int))) &&
 (cond (match ((tg 80 tot1 (0 + zcQ.toNat * 2 + 0)) == (1000000000000:Int)) with | true => (match ((tg 80 tot1 (0 + zcQ.toNat * 2 + 0 + 1)) == (0:Int)) with | true => true | false => false) | false => false)
 true
 (decide ((0<=zcQ/\zcQ < (40:Int))) &&
 (cond (match ((tg 80 fromt1 (0 + zcQ.toNat * 2 + 0)) == (1000000000000:Int)) with | true => (match ((tg 80 fromt1 (0 + zcQ.toNat * 2 + 0 + 1)) == (0:Int)) with | true => true | false => false) | false => false)
 true
 (P1 (w64 (zcQ+(1:Int))) tot1 fromt1)))))
 true)
def zy9 (w:web):Nat->Int->Tab->Tab->Bool:=lpO (λ _ _ _=>default) (zy7 w)
def zza (w:web):Nat->Int->Tab->Tab->Bool:=lpO (λ _ _ _=>false) (zy8 w)
def zzb (w:web) (zcQ:Int) (tot1:Tab) (fromt1:Tab):Bool:=zy9 w Fuel zcQ tot1 fromt1
def zzc (w:web) (zcQ:Int) (tot1:Tab) (fromt1:Tab):Bool:=zza w Fuel zcQ tot1 fromt1
theorem zG2 (hs:zzc w zcQ tot1 fromt1=true) (hk:K (e83 (zzb w zcQ tot1 fromt1))):z83 K [1,1,0,1,0] [] (zEb w zcQ tot1 fromt1) :=
  zl (λ X=>z83 K [1,1,0,1,0,0] [X]) (by kernel_rfl) λ X1 hX =>
  (show ∀ k, zKU K w X1 (zza w k) (zy9 w k) from zeH _ _ (zy8 w) (zy7 w) (zKU K w X1)
 (by intro _ _ _ hs;exact absurd hs dqk)
 (by intro P1 S1 hX1 zcQ tot1 fromt1 hs hk;exact hX _ (zaW (by kernel_rfl) (zc hs hk (λ hs hk=>(zaI hs λ hc hs=>And.intro hc (zc hs hk (λ hs hk=>hk) (λ hs hk=>(zaI hs λ hc hs=>And.intro hc (zc hs hk (λ hs hk=>hk) (λ hs hk=>(hX1 hs hk)))))))) (λ hs hk=>hk))))) _ hs hk
def zzd (w:web) (tot0:Tab) (fromt0:Tab):Bool :=
  (zzb w (0:Int) tot0 fromt0)
def zze (w:web) (tot0:Tab) (fromt0:Tab):Bool :=
  (zzc w (0:Int) tot0 fromt0)
theorem zG3 (hs:zze w tot0 fromt0=true) (hk:K (e83 (zzd w tot0 fromt0))):z83 K [1,1] [] ⟨[(0,zP (.fp (zaE w) 0)),(3,zp 3 0),(4,zp 4 0)],[(3,.box 116 (zm (zar tot0))),(4,.box 116 (zm (zar fromt0)))],[]⟩:=zaW (by kernel_rfl) (zG2 hs hk)
def s83 (w:web):Bool :=
  (zzd w (s75 w (0:Int)) (s76 w (0:Int)))
def p83 (w:web):Bool :=
  (decide ((p75 w (0:Int)=true)) &&
 (decide ((p76 w (0:Int)=true)) &&
 (zze w (s75 w (0:Int)) (s76 w (0:Int)))))
end
theorem q83 (w:web) (K:List PA->Prop) (hs:p83 w=true) (hk:K (e83 (s83 w))):vcFun Tryd.prog G83 zG1 83 [.one (.fp (zaE w) 0)] K :=
  zaW (by kernel_rfl) (zaI hs λ hc hs=>And.intro (And.intro (zE enc_40 4 w.Net.Ties.get) (And.intro (rfl:((false,1,false,[none]):MQ)=(false,1,false,[none])) hc)) (zaI hs λ hc hs=>And.intro (And.intro (zE enc_40 4 w.Net.Ties.get) (And.intro (rfl:((false,1,false,[none]):MQ)=(false,1,false,[none])) hc)) (zG3 hs hk)))
def zG4 : List PA → COut
  | [.one (.fp [.int .i64 zat,.sl zan zaK zao,.fm zbz zaL zaM] 0)]=>.det (IsE enc_40 4 zaK zao/\zbz=(false,1,false,[none])/\p83 (⟨(⟨zat,(⟨zan,zai zao⟩:(Sl Tie))⟩:Net),(⟨zaL,zaM⟩:Mp)⟩:web)=true) [.one (.bool (s83 (⟨(⟨zat,(⟨zan,zai zao⟩:(Sl Tie))⟩:Net),(⟨zaL,zaM⟩:Mp)⟩:web)))]
  | _=>.no
theorem zKV:zav Tryd.prog 83:=⟨_,rfl,rfl,by kernel_rfl⟩
theorem zO3:Ok Tryd.prog 83 zG4:=zbx zNn zKV λ args K h=>by
  unfold zG4 at h
  split at h
  · rename_i zat zan zaK zao zbz zaL zaM
    obtain⟨⟨⟨rfl,zaA,rfl⟩,rfl,hs⟩,hk⟩:=h
    try rw[zaj zaA] at hs
    try rw[zaj zaA] at hk
    exact⟨(λ _ _=>[]),(λ _=>false),zG1,q83 (⟨(⟨zat,(⟨zan,zaA⟩:(Sl Tie))⟩:Net),(⟨zaL,zaM⟩:Mp)⟩:web) K hs hk⟩
  · exact h.elim
abbrev T87:Tabs:=Tabs.nil
theorem zNo:TabsOk Tryd.prog T87:=TabsOk.nil
abbrev G87:Ctrs:=csm T87 (λ _ _=>[]) (λ _=>false)
def zKW:Ann:=⟨12,[(0,zK [0,1] []),(1,zK [3] [])],
 [],
 [],
 [],[]⟩
abbrev R87:=Int
abbrev e87 (r:R87):List PA:=[.one (.int .i64 r)]
section
variable {K:List PA->Prop}{c0:Tab}{i_a0:Int}
def s87 (c0:Tab) (i_a0:Int):Int :=
  (w64 ((tg 80 c0 (0+i_a0.toNat * 2+0)) - (tg 80 c0 (0+0 * 2+0))))
def p87 (c0:Tab) (i_a0:Int):Bool :=
  (decide ((0<=i_a0/\i_a0 < (40:Int))) &&
 (decide ((0<=(0:Int)/\(0:Int) < (40:Int))) &&
 true))
end
theorem q87 (c0:Tab) (i_a0:Int) (K:List PA->Prop) (hs:p87 c0 i_a0=true) (hk:K (e87 (s87 c0 i_a0))):vcFun Tryd.prog G87 zKW 87 [.one (.int .i64 i_a0),.one (.fp (zar c0) 0)] K :=
  zaW (by kernel_rfl) (zaI hs λ hc hs=>And.intro hc (zaI hs λ hc hs=>And.intro hc hk))
def zG5 : List PA → COut
  | [.one (.int .i64 a0),.one (.fp c0_t 0)]=>.det (c0_t=zar (za0 c0_t)/\p87 (za0 c0_t) a0=true) [.one (.int .i64 (s87 (za0 c0_t) a0))]
  | _=>.no
theorem zKX:zav Tryd.prog 87:=⟨_,rfl,rfl,by kernel_rfl⟩
theorem zO4:Ok Tryd.prog 87 zG5:=zbx zNo zKX λ args K h=>by
  unfold zG5 at h
  split at h
  · rename_i a0 c0_t
    obtain⟨⟨hT_c0,hs⟩,hk⟩:=h
    exact⟨(λ _ _=>[]),(λ _=>false),zKW,(by have hq:=q87 (za0 c0_t) a0 K hs hk;rw[<- hT_c0] at hq;exact hq)⟩
  · exact h.elim
abbrev T84:Tabs:=(Tabs.nil.addF 87 zG5)
theorem zNp:TabsOk Tryd.prog T84:=(TabsOk.nil.addF zO4)
abbrev G84:Ctrs:=csm T84 (λ _ _=>[]) (λ _=>false)
def zG6:Ann:=⟨26,[(0,zK [0,1] []),(1,zK [1,5] [12]),(2,zK [1,5,14,15] [12]),(3,zK [1,5,14,15,16] [12]),(4,zK [1,5,6,14,15] [12]),(5,zK [1,5,14,15] [12]),(6,zK [1,5,14,15] [12]),(7,zK [4] [12])],
 [(3,zK [1,5,14,15] [12])],
 [],
 [],[]⟩
abbrev R84:=(Sl Int)
abbrev e84 (r:R84):List PA:=[.one (.sl r.len 1 (λ i=>zad (r.get i)))]
@[irreducible] def z84:=ptF Tryd.prog G84 zG6 Tryd.f84
def zEc (c0:Tab) (w:web) (zbh:Int) (zdJ:(Sl Int)) (zgi:Nat->List PV):St:=⟨[(1,zP (.fn 87 [] [.fp (zar c0) 0])),(5,zv 12),(14,zI (w.Net.Nodes.toNat:Int)),(15,zI zbh)],[(12,.vec 3 1 8 zdJ.len zgi)],[]⟩
abbrev zKY (K:List PA->Prop) (c0:Tab) (w:web) (X:St->Prop) (P:Int->(Sl Int)->Bool) (S:Int->(Sl Int)->(Sl Int)):Prop:=∀ ⦃zbh:Int⦄ ⦃zdJ:(Sl Int)⦄ ⦃zgi:Nat->List PV⦄,P zbh zdJ=true->K (e84 (S zbh zdJ))->zgi=zg zad zdJ->X (zEc c0 w zbh zdJ zgi)
section
variable {K:List PA->Prop}{c0:Tab}{w:web}{zbh:Int}{zdJ:(Sl Int)}{zgi:Nat->List PV}{X0:St->Prop}{P0:Int->(Sl Int)->Bool}{S0:Int->(Sl Int)->(Sl Int)}
def zzf (c0:Tab) (w:web) (S0:Int->(Sl Int)->(Sl Int)) (zbh:Int) (zdJ:(Sl Int)):(Sl Int) :=
  (cond (decide (zbh < (w.Net.Nodes.toNat : Int)))
 (S0 (w64 (zbh+(1:Int))) (⟨zdJ.len,(setT zbh.toNat (s87 (za0 (zar c0)) zbh) zdJ.get)⟩:Sl Int))
 zdJ)
def zzg (c0:Tab) (w:web) (P0:Int->(Sl Int)->Bool) (zbh:Int) (zdJ:(Sl Int)):Bool :=
  (cond (decide (zbh < (w.Net.Nodes.toNat : Int)))
 (decide ((p87 (za0 (zar c0)) zbh=true)) &&
 (decide ((0<=zbh/\zbh < (zdJ.len:Int))) &&
 (decide ((zbh.toNat < zdJ.len)) &&
 (P0 (w64 (zbh+(1:Int))) (⟨zdJ.len,(setT zbh.toNat (s87 (za0 (zar c0)) zbh) zdJ.get)⟩:Sl Int)))))
 true)
def zzh (c0:Tab) (w:web):Nat->Int->(Sl Int)->(Sl Int):=lpO (λ _ _=>default) (zzf c0 w)
def zzi (c0:Tab) (w:web):Nat->Int->(Sl Int)->Bool:=lpO (λ _ _=>false) (zzg c0 w)
def zzj (c0:Tab) (w:web) (zbh:Int) (zdJ:(Sl Int)):(Sl Int):=zzh c0 w Fuel zbh zdJ
def zzk (c0:Tab) (w:web) (zbh:Int) (zdJ:(Sl Int)):Bool:=zzi c0 w Fuel zbh zdJ
theorem zG7 (hs:zzk c0 w zbh zdJ=true) (hk:K (e84 (zzj c0 w zbh zdJ))) (zrm:zgi=zg zad zdJ):z84 K [1,1,0,1,0] [] (zEc c0 w zbh zdJ zgi) :=
  zl (λ X=>z84 K [1,1,0,1,0,0] [X]) (by kernel_rfl) λ X0 hX =>
  (show ∀ k, zKY K c0 w X0 (zzi c0 w k) (zzh c0 w k) from zeH _ _ (zzg c0 w) (zzf c0 w) (zKY K c0 w X0)
 (by intro _ _ _ hs;exact absurd hs dqk)
 (by intro P0 S0 hX0 zbh zdJ zgi hs hk zrm;subst zrm;exact hX _ (zaW (by kernel_rfl) (zc hs hk (λ hs hk=>(zaI hs λ hc hs=>And.intro (And.intro (znd:zar c0=zar (za0 (zar c0))) hc) (zaI hs λ hc hs=>And.intro hc (zaI hs λ hc hs=>And.intro hc (hX0 hs hk (zfU (enc:=zad) (i:=zbh.toNat) (k:=0) (f:=zdJ.get) (new:=(zad (s87 (za0 (zar c0)) zbh))) (v:=(s87 (za0 (zar c0)) zbh)) rfl rfl)))))) (λ hs hk=>hk))))) _ hs hk zrm
def s84 (c0:Tab) (w:web):(Sl Int) :=
  (zzj c0 w (0:Int) (⟨w.Net.Nodes.toNat,(λ _=>(0:Int))⟩:Sl Int))
def p84 (c0:Tab) (w:web):Bool :=
  (decide ((0<=w.Net.Nodes/\w.Net.Nodes=w.Net.Nodes/\w.Net.Nodes<=1000000)) &&
 (zzk c0 w (0:Int) (⟨w.Net.Nodes.toNat,(λ _=>(0:Int))⟩:Sl Int)))
end
theorem q84 (c0:Tab) (w:web) (K:List PA->Prop) (hs:p84 c0 w=true) (hk:K (e84 (s84 c0 w))):vcFun Tryd.prog G84 zG6 84 [.one (.fp (zaE w) 0),.one (.fn 87 [] [.fp (zar c0) 0])] K :=
  zaW (by kernel_rfl) (zaI hs λ hc hs=>And.intro hc (zG7 hs hk rfl))
def zG8 : List PA → COut
  | [.one (.fp [.int .i64 zat,.sl zan zaK zao,.fm zbz zaL zaM] 0),.one (.fn 87 [] [.fp c0_t 0])]=>.det (IsE enc_40 4 zaK zao/\zbz=(false,1,false,[none])/\c0_t=zar (za0 c0_t)/\p84 (za0 c0_t) (⟨(⟨zat,(⟨zan,zai zao⟩:(Sl Tie))⟩:Net),(⟨zaL,zaM⟩:Mp)⟩:web)=true) [.one (.sl ((s84 (za0 c0_t) (⟨(⟨zat,(⟨zan,zai zao⟩:(Sl Tie))⟩:Net),(⟨zaL,zaM⟩:Mp)⟩:web)).len) 1 (λ i=>zad ((s84 (za0 c0_t) (⟨(⟨zat,(⟨zan,zai zao⟩:(Sl Tie))⟩:Net),(⟨zaL,zaM⟩:Mp)⟩:web)).get i)))]
  | _=>.no
theorem zKZ:zav Tryd.prog 84:=⟨_,rfl,rfl,by kernel_rfl⟩
theorem zO5:Ok Tryd.prog 84 zG8:=zbx zNp zKZ λ args K h=>by
  unfold zG8 at h
  split at h
  · rename_i zat zan zaK zao zbz zaL zaM c0_t
    obtain⟨⟨⟨rfl,zaA,rfl⟩,rfl,hT_c0,hs⟩,hk⟩:=h
    try rw[zaj zaA] at hs
    try rw[zaj zaA] at hk
    exact⟨(λ _ _=>[]),(λ _=>false),zG6,(by have hq:=q84 (za0 c0_t) (⟨(⟨zat,(⟨zan,zaA⟩:(Sl Tie))⟩:Net),(⟨zaL,zaM⟩:Mp)⟩:web) K hs hk;rw[<- hT_c0] at hq;exact hq)⟩
  · exact h.elim
abbrev T45:Tabs:=((((Tabs.nil.addF 74 zuZ).addF 76 zu6).addF 83 zG4).addF 84 zG8)
theorem zNq:TabsOk Tryd.prog T45:=((((TabsOk.nil.addF zMj).addF zMq).addF zO3).addF zO5)
abbrev G45:Ctrs:=csm T45 (λ _ _=>[]) (λ _=>false)
def zK1:Ann:=⟨31,[(0,zK [1,2,3] [3]),(1,zK [1,8,9] []),(2,zK [1,8,9,20] []),(3,zK [6,7] []),(4,zK [1,8,24] []),(5,zK [6,7] []),(6,zK [8,10] [10]),(7,zK [6,7] [])],
 [],
 [],
 [],[]⟩
abbrev R45:=((Sl Int)×Int)
abbrev e45 (r:R45):List PA:=[.one (.sl r.1.len 1 (λ i=>zad (r.1.get i))),.one (.int .i64 r.2)]
section
variable {K:List PA->Prop}{n:Net}{zaa:Int}{to:Int}
def s45 (n:Net) (zaa:Int) (to:Int):((Sl Int)×Int) :=
  (cond ((s74 n (⟨2, zaq (za9 [(zad zaa), (zad to)])⟩ : (Sl Int))).2 == 0)
 (cond ((0:Int) != (0:Int))
 ((⟨0,λ _=>default⟩:(Sl Int)),(0:Int))
 (cond (!(s83 (⟨(s74 n (⟨2, zaq (za9 [(zad zaa), (zad to)])⟩ : (Sl Int))).1.Net, ((s74 n (⟨2, zaq (za9 [(zad zaa), (zad to)])⟩ : (Sl Int))).1.out)⟩ : web)))
 ((⟨0,λ _=>default⟩:(Sl Int)),(6:Int))
 ((s84 (za0 (zar (s76 (⟨(s74 n (⟨2,zaq (za9 [(zad zaa),(zad to)])⟩:(Sl Int))).1.Net,((s74 n (⟨2,zaq (za9 [(zad zaa),(zad to)])⟩:(Sl Int))).1.out)⟩:web) zaa))) (⟨(s74 n (⟨2,zaq (za9 [(zad zaa),(zad to)])⟩:(Sl Int))).1.Net,((s74 n (⟨2,zaq (za9 [(zad zaa),(zad to)])⟩:(Sl Int))).1.out)⟩:web)),(0:Int))))
 (cond ((s74 n (⟨2, zaq (za9 [(zad zaa), (zad to)])⟩ : (Sl Int))).2 != (0:Int))
 ((⟨0,λ _=>default⟩:(Sl Int)),(s74 n (⟨2,zaq (za9 [(zad zaa),(zad to)])⟩:(Sl Int))).2)
 default))
def p45 (n:Net) (zaa:Int) (to:Int):Bool :=
  (cond ((s74 n (⟨2, zaq (za9 [(zad zaa), (zad to)])⟩ : (Sl Int))).2 == 0)
 (decide ((p74 n (⟨2,zaq (za9 [(zad zaa),(zad to)])⟩:(Sl Int))=true)) &&
 (cond ((0:Int) != (0:Int))
 true
 (decide ((p83 (⟨(s74 n (⟨2,zaq (za9 [(zad zaa),(zad to)])⟩:(Sl Int))).1.Net,((s74 n (⟨2,zaq (za9 [(zad zaa),(zad to)])⟩:(Sl Int))).1.out)⟩:web)=true)) &&
 (cond (!(s83 (⟨(s74 n (⟨2, zaq (za9 [(zad zaa), (zad to)])⟩ : (Sl Int))).1.Net, ((s74 n (⟨2, zaq (za9 [(zad zaa), (zad to)])⟩ : (Sl Int))).1.out)⟩ : web)))
 true
 (decide ((p76 (⟨(s74 n (⟨2,zaq (za9 [(zad zaa),(zad to)])⟩:(Sl Int))).1.Net,((s74 n (⟨2,zaq (za9 [(zad zaa),(zad to)])⟩:(Sl Int))).1.out)⟩:web) zaa=true)) &&
 (decide ((p84 (za0 (zar (s76 (⟨(s74 n (⟨2,zaq (za9 [(zad zaa),(zad to)])⟩:(Sl Int))).1.Net,((s74 n (⟨2,zaq (za9 [(zad zaa),(zad to)])⟩:(Sl Int))).1.out)⟩:web) zaa))) (⟨(s74 n (⟨2,zaq (za9 [(zad zaa),(zad to)])⟩:(Sl Int))).1.Net,((s74 n (⟨2,zaq (za9 [(zad zaa),(zad to)])⟩:(Sl Int))).1.out)⟩:web)=true)) &&
 true))))))
 (decide ((p74 n (⟨2,zaq (za9 [(zad zaa),(zad to)])⟩:(Sl Int))=true)) &&
 (cond ((s74 n (⟨2, zaq (za9 [(zad zaa), (zad to)])⟩ : (Sl Int))).2 != (0:Int))
 true
 false)))
end
theorem q45 (n:Net) (zaa:Int) (to:Int) (K:List PA->Prop) (hs:p45 n zaa to=true) (hk:K (e45 (s45 n zaa to))):vcFun Tryd.prog G45 zK1 45 [.agg (enc_24 n),.one (.int .i64 zaa),.one (.int .i64 to)] (Wk K) :=
  zaW (by kernel_rfl) (zc hs hk (λ hs hk=>(zaI hs λ hc hs=>And.intro (And.intro (zE enc_40 4 n.Ties.get) (And.intro ((zdv []):IsE zad 1 1 (za9 [(zad zaa),(zad to)])) hc)) (zc hs hk (λ hs hk=>((wk hk (zhB (.one (.nil _ _)) (zhB (.one (.rfl _)) zol))):Wk K [.one (.nils),.one (.int .i64 (0:Int))])) (λ hs hk=>(zaI hs λ hc hs=>And.intro (And.intro (zE enc_40 4 ((s74 n (⟨2,zaq (za9 [(zad zaa),(zad to)])⟩:(Sl Int))).1.Net.Ties.get)) (And.intro (rfl:((false,1,false,[none]):MQ)=(false,1,false,[none])) hc)) (zc hs hk (λ hs hk=>((wk hk (zhB (.one (.nil _ _)) (zhB (.one (.rfl _)) zol))):Wk K [.one (.nils),.one (.int .i64 (6:Int))])) (λ hs hk=>(zaI hs λ hc hs=>And.intro (And.intro (zE enc_40 4 ((s74 n (⟨2,zaq (za9 [(zad zaa),(zad to)])⟩:(Sl Int))).1.Net.Ties.get)) (And.intro (rfl:((false,1,false,[none]):MQ)=(false,1,false,[none])) hc)) (zaI hs λ hc hs=>And.intro (And.intro (zE enc_40 4 ((s74 n (⟨2,zaq (za9 [(zad zaa),(zad to)])⟩:(Sl Int))).1.Net.Ties.get)) (And.intro (rfl:((false,1,false,[none]):MQ)=(false,1,false,[none])) (And.intro (znd:zar (s76 (⟨(s74 n (⟨2,zaq (za9 [(zad zaa),(zad to)])⟩:(Sl Int))).1.Net,((s74 n (⟨2,zaq (za9 [(zad zaa),(zad to)])⟩:(Sl Int))).1.out)⟩:web) zaa)=zar (za0 (zar (s76 (⟨(s74 n (⟨2,zaq (za9 [(zad zaa),(zad to)])⟩:(Sl Int))).1.Net,((s74 n (⟨2,zaq (za9 [(zad zaa),(zad to)])⟩:(Sl Int))).1.out)⟩:web) zaa)))) hc))) ((zfW hk):Wk K [.one (.sl ((s84 (za0 (zar (s76 (⟨(s74 n (⟨2,zaq (za9 [(zad zaa),(zad to)])⟩:(Sl Int))).1.Net,((s74 n (⟨2,zaq (za9 [(zad zaa),(zad to)])⟩:(Sl Int))).1.out)⟩:web) zaa))) (⟨(s74 n (⟨2,zaq (za9 [(zad zaa),(zad to)])⟩:(Sl Int))).1.Net,((s74 n (⟨2,zaq (za9 [(zad zaa),(zad to)])⟩:(Sl Int))).1.out)⟩:web)).len) 1 (λ i=>zad ((s84 (za0 (zar (s76 (⟨(s74 n (⟨2,zaq (za9 [(zad zaa),(zad to)])⟩:(Sl Int))).1.Net,((s74 n (⟨2,zaq (za9 [(zad zaa),(zad to)])⟩:(Sl Int))).1.out)⟩:web) zaa))) (⟨(s74 n (⟨2,zaq (za9 [(zad zaa),(zad to)])⟩:(Sl Int))).1.Net,((s74 n (⟨2,zaq (za9 [(zad zaa),(zad to)])⟩:(Sl Int))).1.out)⟩:web)).get i))),.one (.int .i64 (0:Int))])))))))))) (λ hs hk=>(zaI hs λ hc hs=>And.intro (And.intro (zE enc_40 4 n.Ties.get) (And.intro ((zdv []):IsE zad 1 1 (za9 [(zad zaa),(zad to)])) hc)) (zc hs hk (λ hs hk=>((wk hk (zhB (.one (.nil _ _)) (zhB (.one (.rfl _)) zol))):Wk K [.one (.nils),.one (.int .i64 ((s74 n (⟨2,zaq (za9 [(zad zaa),(zad to)])⟩:(Sl Int))).2))])) (λ hs hk=>(absurd hs dqk:False))))))
def zG9 : List PA → COut
  | [.agg [.int .i64 zaf,.sl zae zaw zac],.one (.int .i64 a1),.one (.int .i64 a2)]=>.det (IsE enc_40 4 zaw zac/\p45 (⟨zaf,(⟨zae,zai zac⟩:(Sl Tie))⟩:Net) a1 a2=true) [.one (.sl (((s45 (⟨zaf,(⟨zae,zai zac⟩:(Sl Tie))⟩:Net) a1 a2).1).len) 1 (λ i=>zad (((s45 (⟨zaf,(⟨zae,zai zac⟩:(Sl Tie))⟩:Net) a1 a2).1).get i))),.one (.int .i64 ((s45 (⟨zaf,(⟨zae,zai zac⟩:(Sl Tie))⟩:Net) a1 a2).2))]
  | _=>.no
theorem zK2:zav Tryd.prog 45:=⟨_,rfl,rfl,by kernel_rfl⟩
theorem zO6:Ok Tryd.prog 45 zG9:=zhl zNq zK2 λ args K h=>by
  unfold zG9 at h
  split at h
  · rename_i zaf zae zaw zac a1 a2
    obtain⟨⟨⟨rfl,zak,rfl⟩,hs⟩,hk⟩:=h
    try rw[zaj zak] at hs
    try rw[zaj zak] at hk
    exact⟨_,zfB zfV _,(λ _ _=>[]),(λ _=>false),zK1,q45 (⟨zaf,(⟨zae,zak⟩:(Sl Tie))⟩:Net) a1 a2 K hs hk⟩
  · exact h.elim
abbrev T49:Tabs:=(((Tabs.nil.addF 67 zuW).addF 88 zw9).addF 89 zCA)
theorem zNr:TabsOk Tryd.prog T49:=(((TabsOk.nil.addF zMi).addF zMR).addF zOh)
abbrev G49:Ctrs:=csm T49 (λ _ _=>[]) (λ _=>false)
def zHa:Ann:=⟨31,[(0,zK [1] [1]),(1,zK [1,10] [1]),(2,zK [2,3] []),(3,zK [4] [13]),(4,zK [4,16] [13]),(5,zK [2,3] []),(6,zK [4,5] [13]),(7,zK [5,18,19,20] []),(8,zK [5,18,19,20,21] [28]),(9,zK [5,7,18,19,20] [7,28]),(10,zK [5,18,19,20] [28]),(11,zK [5,18,19,20] [28]),(12,zK [2,3] [28])],
 [(8,⟨[5,18,19,20],[28],[(5,28,75,λ _=>zaC default)],[],[],[],[]⟩)],
 [(2,zK [1,10] [1]),(3,zK [1] [1]),(5,zK [4,16] [13]),(6,zK [4] [13]),(8,zK [5,18,19,20] [])],
 [],[]⟩
abbrev R49:=((Sl Use)×Int)
abbrev e49 (r:R49):List PA:=[.one (.sl r.1.len 2 (λ i=>zaC (r.1.get i))),.one (.int .i64 r.2)]
@[irreducible] def z49:=ptF Tryd.prog G49 zHa Tryd.f49
def zEd (zcE:(Sl step)) (zcR:Int) (zdQ:Int) (zc7:(Sl Use)) (zgj:Nat->List PV):St:=⟨[(5,zv 28),(18,zS zaB 5 zcE),(19,zI zcR),(20,zI zdQ)],[(28,.vec 75 2 16 zc7.len zgj)],[]⟩
abbrev zK3 (K:List PA->Prop) (zcE:(Sl step)) (zcR:Int) (X:St->Prop) (P:Int->(Sl Use)->Bool) (S:Int->(Sl Use)->((Sl Use)×Int)):Prop:=∀ ⦃zdQ:Int⦄ ⦃zc7:(Sl Use)⦄ ⦃zgj:Nat->List PV⦄,P zdQ zc7=true->K (e49 (S zdQ zc7))->zgj=zg zaC zc7->X (zEd zcE zcR zdQ zc7 zgj)
section
variable {K:List PA->Prop}{n:Net}{za7:Bool}{zrn:Bool}{zcE:(Sl step)}{zcR:Int}{zzl:Nat->List PV}{zdQ:Int}{zc7:(Sl Use)}{zgj:Nat->List PV}{X5:St->Prop}{P5:Int->(Sl Use)->Bool}{S5:Int->(Sl Use)->((Sl Use)×Int)}
def zzm (zcE:(Sl step)) (zcR:Int) (S5:Int->(Sl Use)->((Sl Use)×Int)) (zdQ:Int) (zc7:(Sl Use)):((Sl Use)×Int) :=
  (cond (decide (zdQ < zcR))
 (S5 (w64 (zdQ+(1:Int))) (⟨(zc7.len+1),(zdm zc7.len zc7.get (λ _=>(zcE.get zdQ.toNat).Use))⟩:Sl Use))
 (zc7,(0:Int)))
def zzn (zcE:(Sl step)) (zcR:Int) (P5:Int->(Sl Use)->Bool) (zdQ:Int) (zc7:(Sl Use)):Bool :=
  (cond (decide (zdQ < zcR))
 (decide ((0<=zdQ/\zdQ < (zcE.len:Int))) &&
 (decide (((zc7.len+1) * 16<=140737488355328/\zc7.len+1<=9223372036854775807)) &&
 (P5 (w64 (zdQ+(1:Int))) (⟨(zc7.len+1),(zdm zc7.len zc7.get (λ _=>(zcE.get zdQ.toNat).Use))⟩:Sl Use))))
 true)
def zzo (zcE:(Sl step)) (zcR:Int):Nat->Int->(Sl Use)->((Sl Use)×Int):=lpO (λ _ _=>default) (zzm zcE zcR)
def zzp (zcE:(Sl step)) (zcR:Int):Nat->Int->(Sl Use)->Bool:=lpO (λ _ _=>false) (zzn zcE zcR)
def zzq (zcE:(Sl step)) (zcR:Int) (zdQ:Int) (zc7:(Sl Use)):((Sl Use)×Int):=zzo zcE zcR Fuel zdQ zc7
def zzr (zcE:(Sl step)) (zcR:Int) (zdQ:Int) (zc7:(Sl Use)):Bool:=zzp zcE zcR Fuel zdQ zc7
theorem zHb (hs:zzr zcE zcR zdQ zc7=true) (hk:K (e49 (zzq zcE zcR zdQ zc7))) (zro:zgj=zg zaC zc7):z49 (Wk K) [1,1,1,1,1,0,1,0] [] (zEd zcE zcR zdQ zc7 zgj) :=
  zl (λ X=>z49 (Wk K) [1,1,1,1,1,0,1,0,0] [X]) (by kernel_rfl) λ X5 hX =>
  (show ∀ k, zK3 K zcE zcR X5 (zzp zcE zcR k) (zzo zcE zcR k) from zeH _ _ (zzn zcE zcR) (zzm zcE zcR) (zK3 K zcE zcR X5)
 (by intro _ _ _ hs;exact absurd hs dqk)
 (by intro P5 S5 hX5 zdQ zc7 zgj hs hk zro;subst zro;exact hX _ (zaW (by kernel_rfl) (zc hs hk (λ hs hk=>(zaI hs λ hc hs=>And.intro hc (zaI hs λ hc hs=>And.intro hc (hX5 hs hk (zjx (enc:=zaC) (f:=zc7.get) (h:=(λ _=>(zcE.get zdQ.toNat).Use)) rfl rfl))))) (λ hs hk=>((zfW hk):Wk K [.one (.sl zc7.len 2 (λ i=>zaC (zc7.get i))),.one (.int .i64 (0:Int))])))))) _ hs hk zro
def zzs (zcE:(Sl step)) (zcR:Int):((Sl Use)×Int) :=
  (zzq zcE zcR (0:Int) (⟨0,(λ _=>default)⟩:Sl Use))
def zzt (zcE:(Sl step)) (zcR:Int):Bool :=
  (zzr zcE zcR (0:Int) (⟨0,(λ _=>default)⟩:Sl Use))
theorem zHc (hs:zzt zcE zcR=true) (hk:K (e49 (zzs zcE zcR))) (zHd:zzl=zg zaB zcE):z49 (Wk K) [1,1,1,1,1,0,1] [] ⟨[(5,zP (.nils)),(18,zP (.sl zcE.len 5 zzl)),(19,zI zcR),(20,zI (0:Int))],[],[]⟩:=by subst zHd;exact zaW (by kernel_rfl) (zHb hs hk rfl)
def zzu (n:Net):((Sl Use)×Int) :=
  (zzs (s89 (⟨n,(⟨0,(λ _=>none)⟩:Mp)⟩:web)) ((s89 (⟨n,(⟨0,(λ _=>none)⟩:Mp)⟩:web)).len:Int))
def zzv (n:Net):Bool :=
  (decide ((p89 (⟨n,(⟨0,(λ _=>none)⟩:Mp)⟩:web)=true)) &&
 (zzt (s89 (⟨n,(⟨0,(λ _=>none)⟩:Mp)⟩:web)) ((s89 (⟨n,(⟨0,(λ _=>none)⟩:Mp)⟩:web)).len:Int)))
theorem zHe (hs:zzv n=true) (hk:K (e49 (zzu n))):z49 (Wk K) [1,1,1,1] [] ⟨[(4,zp 13 0)],[(13,.box 105 (zm (zaE (⟨n,(⟨0,(λ _=>none)⟩:Mp)⟩:web))))],[]⟩:=zaW (by kernel_rfl) (zaI hs λ hc hs=>And.intro (And.intro ((λ _=>rfl):(∀ i,sc2 ((λ i=>zaB ((s89 (⟨n,(⟨0,(λ _=>none)⟩:Mp)⟩:web)).get i)) i)=true)) (And.intro (zE enc_40 4 n.Ties.get) (And.intro (rfl:((false,1,false,[none]):MQ)=(false,1,false,[none])) hc))) (zHc hs hk rfl))
def zzw (n:Net) (zrn:Bool):((Sl Use)×Int) :=
  (cond zrn
 ((⟨0,λ _=>default⟩:(Sl Use)),(6:Int))
 (zzu n))
def zzx (n:Net) (zrn:Bool):Bool :=
  (cond zrn
 true
 (zzv n))
theorem zHf (hs:zzx n zrn=true) (hk:K (e49 (zzw n zrn))):z49 (Wk K) [1,1,1,0,1] [] ⟨[(4,zp 13 0),(16,zB zrn)],[(13,.box 105 (zm (zaE (⟨n,(⟨0,(λ _=>none)⟩:Mp)⟩:web))))],[]⟩:=zaW (by kernel_rfl) (zc hs hk (λ hs hk=>((wk hk (zhB (.one (.nil _ _)) (zhB (.one (.rfl _)) zol))):Wk K [.one (.nils),.one (.int .i64 (6:Int))])) (λ hs hk=>(zHe hs hk)))
def zzy (n:Net):((Sl Use)×Int) :=
  (zzw n (!(s88 (⟨n,(⟨0,(λ _=>none)⟩:Mp)⟩:web))))
def zzz (n:Net):Bool :=
  (decide ((p88 (⟨n,(⟨0,(λ _=>none)⟩:Mp)⟩:web)=true)) &&
 (zzx n (!(s88 (⟨n,(⟨0,(λ _=>none)⟩:Mp)⟩:web)))))
theorem zHg (hs:zzz n=true) (hk:K (e49 (zzy n))):z49 (Wk K) [1,1] [] ⟨[(1,zp 1 0)],[(1,.box 24 (zm (enc_24 n)))],[]⟩:=zaW (by kernel_rfl) (zaI hs λ hc hs=>And.intro (And.intro (zE enc_40 4 n.Ties.get) (And.intro (rfl:((false,1,false,[none]):MQ)=(false,1,false,[none])) hc)) (zHf hs hk))
def zzA (n:Net) (za7:Bool):((Sl Use)×Int) :=
  (cond za7
 ((⟨0,λ _=>default⟩:(Sl Use)),(2:Int))
 (zzy n))
def zzB (n:Net) (za7:Bool):Bool :=
  (cond za7
 true
 (zzz n))
theorem zHh (hs:zzB n za7=true) (hk:K (e49 (zzA n za7))):z49 (Wk K) [1,0,1] [] ⟨[(1,zp 1 0),(10,zB za7)],[(1,.box 24 (zm (enc_24 n)))],[]⟩:=zaW (by kernel_rfl) (zc hs hk (λ hs hk=>((wk hk (zhB (.one (.nil _ _)) (zhB (.one (.rfl _)) zol))):Wk K [.one (.nils),.one (.int .i64 (2:Int))])) (λ hs hk=>(zHg hs hk)))
def s49 (n:Net):((Sl Use)×Int) :=
  (zzA n (!(s67 n)))
def p49 (n:Net):Bool :=
  (decide ((p67 n=true)) &&
 (zzB n (!(s67 n))))
end
theorem q49 (n:Net) (K:List PA->Prop) (hs:p49 n=true) (hk:K (e49 (s49 n))):vcFun Tryd.prog G49 zHa 49 [.agg (enc_24 n)] (Wk K) :=
  zaW (by kernel_rfl) (zaI hs λ hc hs=>And.intro (And.intro (zE enc_40 4 n.Ties.get) hc) (zHh hs hk))
def zHi : List PA → COut
  | [.agg [.int .i64 zaf,.sl zae zaw zac]]=>.det (IsE enc_40 4 zaw zac/\p49 (⟨zaf,(⟨zae,zai zac⟩:(Sl Tie))⟩:Net)=true) [.one (.sl (((s49 (⟨zaf,(⟨zae,zai zac⟩:(Sl Tie))⟩:Net)).1).len) 2 (λ i=>zaC (((s49 (⟨zaf,(⟨zae,zai zac⟩:(Sl Tie))⟩:Net)).1).get i))),.one (.int .i64 ((s49 (⟨zaf,(⟨zae,zai zac⟩:(Sl Tie))⟩:Net)).2))]
  | _=>.no
theorem zK4:zav Tryd.prog 49:=⟨_,rfl,rfl,by kernel_rfl⟩
theorem zO7:Ok Tryd.prog 49 zHi:=zhl zNr zK4 λ args K h=>by
  unfold zHi at h
  split at h
  · rename_i zaf zae zaw zac
    obtain⟨⟨⟨rfl,zak,rfl⟩,hs⟩,hk⟩:=h
    try rw[zaj zak] at hs
    try rw[zaj zak] at hk
    exact⟨_,zfB zfV _,(λ _ _=>[]),(λ _=>false),zHa,q49 (⟨zaf,(⟨zae,zak⟩:(Sl Tie))⟩:Net) K hs hk⟩
  · exact h.elim
abbrev T66:Tabs:=Tabs.nil
theorem zNs:TabsOk Tryd.prog T66:=TabsOk.nil
abbrev G66:Ctrs:=csm T66 (λ _ _=>[]) (λ _=>false)
def zK5:Ann:=⟨6,[(0,zK [0] [0]),(1,zK [0] [0,4])],
 [],
 [],
 [],[]⟩
abbrev R66:=Net
abbrev e66 (r:R66):List PA:=[.agg [.int .i64 r.Nodes,.sl r.Ties.len 4 (λ i=>enc_40 (r.Ties.get i))]]
section
variable {K:List PA->Prop}
def s66:Net :=
  (⟨(3:Int),(⟨3,(zpM (⟨(0:Int),(1:Int),(5:Int),(8:Int)⟩:Tie) [(⟨(0:Int),(1:Int),(5:Int),(8:Int)⟩:Tie),(⟨(1:Int),(2:Int),(-2:Int),(3:Int)⟩:Tie),(⟨(2:Int),(0:Int),(-9:Int),(1000000000000:Int)⟩:Tie)])⟩:(Sl Tie))⟩:Net)
end
theorem q66 (K:List PA->Prop) (hk:K (e66 (s66))):vcFun Tryd.prog G66 zK5 66 [] K :=
  zaW (by kernel_rfl) (Eq.mpr (congrArg K (congrArg (λ (g_:Nat->List PV)=>([.agg [.int .i64 (3:Int),.sl 3 4 g_]]:List PA)) (ztl (enc:=enc_40) (x:=(⟨(0:Int),(1:Int),(5:Int),(8:Int)⟩:Tie)) (y:=(⟨(1:Int),(2:Int),(-2:Int),(3:Int)⟩:Tie)) (r:=[(⟨(2:Int),(0:Int),(-9:Int),(1000000000000:Int)⟩:Tie)])))) hk)
def zHj : List PA → COut
  | []=>.tot [.agg [.int .i64 ((s66).Nodes),.sl ((s66).Ties.len) 4 (λ i=>enc_40 ((s66).Ties.get i))]]
  | _=>.no
theorem zK6:zav Tryd.prog 66:=⟨_,rfl,rfl,by kernel_rfl⟩
theorem zO8:Ok Tryd.prog 66 zHj:=zbx zNs zK6 λ args K h=>by
  unfold zHj at h
  split at h
  · have hk := h
    exact⟨(λ _ _=>[]),(λ _=>false),zK5,q66 K hk⟩
  · exact h.elim
abbrev T21:Tabs:=((((((((((Tabs.nil.addF 22 zGH).addF 25 zGL).addF 26 zGV).addF 29 zGW).addF 32 zG0).addF 45 zG9).addF 49 zHi).addF 53 zB9).addF 54 zCl).addF 66 zHj)
theorem zNt:TabsOk Tryd.prog T21:=((((((((((TabsOk.nil.addF zOZ).addF zO0).addF zO1).addF zO2).addF ok32).addF zO6).addF zO7).addF zN0).addF zN7).addF zO8)
abbrev G21:Ctrs:=csm T21 (λ _ _=>[]) (λ _=>false)
def zHk:Ann:=⟨87,[(0,zK [] []),(1,zK [1,2] []),(2,zK [1,2,3,4] []),(3,zK [1,2,3,4,5,6] []),(4,zK [1,2,3,4,5,6,7] [7]),(5,zK [1,2,3,4,5,6,7,8,9] [7]),(6,zK [1,2,3,4,5,6,8,9,10,11] []),(7,zK [1,3,5,8,10,57] []),(8,zK [0] []),(9,zK [0] [])],
 [],
 [(2,zK [1,2] []),(3,zK [1,2,3,4] []),(4,zK [1,2,3,4,5,6] []),(5,zK [1,2,3,4,5,6,7] [7]),(6,zK [1,2,3,4,5,6,7,8,9] [7]),(7,zK [1,2,3,4,5,6,8,9,10,11] []),(9,zK [1,3,5,8,10] [])],
 [],[]⟩
abbrev R21:=Bool
abbrev e21 (r:R21):List PA:=[.one (.bool r)]
@[irreducible] def z21:=ptF Tryd.prog G21 zHk Tryd.f21
section
variable {K:List PA->Prop}{bv0:(Sl Span)}{ev0:Int}{zK7:Nat->List PV}{cv1:(Sl Use)}{fv1:Int}{zK8:Nat->List PV}{vv2:(Sl Int)}{gv2:Int}{zK9:Nat->List PV}{zey:Int}{zdR:(Sl Tie)}{zzC:Nat->List PV}{xv4:(Sl Use)}{hv4:Int}{zLa:Nat->List PV}{lv5:(Sl Int)}{iv5:Int}{zzD:Nat->List PV}
def zzE (bv0:(Sl Span)) (cv1:(Sl Use)) (vv2:(Sl Int)) (xv4:(Sl Use)) (lv5:(Sl Int)):Bool :=
  (cond (s32 bv0 (⟨3, zfX (za9 [(zbD (⟨(0:Int), (0:Int)⟩ : Span)), (zbD (⟨(5:Int), (8:Int)⟩ : Span)), (zbD (⟨(3:Int), (9:Int)⟩ : Span))])⟩ : (Sl Span)))
 (cond (s53 cv1 (⟨1, λ _ => (⟨(2:Int), true⟩ : Use)⟩ : (Sl Use)))
 (cond (s25 vv2 (⟨3, zaq (za9 [(zad (0:Int)), (zad (5:Int)), (zad (8:Int))])⟩ : (Sl Int)))
 (cond (s53 xv4 (⟨2, zcy (za9 [(zaC (⟨(2:Int), true⟩ : Use)), (zaC (⟨(3:Int), true⟩ : Use))])⟩ : (Sl Use)))
 (s25 lv5 (⟨1,λ _=>(2:Int)⟩:(Sl Int)))
 false)
 false)
 false)
 false)
def zzF (bv0:(Sl Span)) (cv1:(Sl Use)) (vv2:(Sl Int)) (xv4:(Sl Use)) (lv5:(Sl Int)):Bool :=
  (decide ((p32 bv0 (⟨3,zfX (za9 [(zbD (⟨(0:Int),(0:Int)⟩:Span)),(zbD (⟨(5:Int),(8:Int)⟩:Span)),(zbD (⟨(3:Int),(9:Int)⟩:Span))])⟩:(Sl Span))=true)) &&
 (cond (s32 bv0 (⟨3, zfX (za9 [(zbD (⟨(0:Int), (0:Int)⟩ : Span)), (zbD (⟨(5:Int), (8:Int)⟩ : Span)), (zbD (⟨(3:Int), (9:Int)⟩ : Span))])⟩ : (Sl Span)))
 (decide ((p53 cv1 (⟨1,λ _=>(⟨(2:Int),true⟩:Use)⟩:(Sl Use))=true)) &&
 (cond (s53 cv1 (⟨1, λ _ => (⟨(2:Int), true⟩ : Use)⟩ : (Sl Use)))
 (decide ((p25 vv2 (⟨3,zaq (za9 [(zad (0:Int)),(zad (5:Int)),(zad (8:Int))])⟩:(Sl Int))=true)) &&
 (cond (s25 vv2 (⟨3, zaq (za9 [(zad (0:Int)), (zad (5:Int)), (zad (8:Int))])⟩ : (Sl Int)))
 (decide ((p53 xv4 (⟨2,zcy (za9 [(zaC (⟨(2:Int),true⟩:Use)),(zaC (⟨(3:Int),true⟩:Use))])⟩:(Sl Use))=true)) &&
 (cond (s53 xv4 (⟨2, zcy (za9 [(zaC (⟨(2:Int), true⟩ : Use)), (zaC (⟨(3:Int), true⟩ : Use))])⟩ : (Sl Use)))
 (decide ((p25 lv5 (⟨1,λ _=>(2:Int)⟩:(Sl Int))=true)) &&
 true)
 true))
 true))
 true))
 true))
theorem zHl (hs:zzF bv0 cv1 vv2 xv4 lv5=true) (hk:K (e21 (zzE bv0 cv1 vv2 xv4 lv5))):z21 K [1,1,1,1,1,1,1,1] [] ⟨[(1,zS zbD 2 bv0),(3,zS zaC 2 cv1),(5,zS zad 1 vv2),(8,zS zaC 2 xv4),(10,zS zad 1 lv5)],[],[]⟩:=zaW (by kernel_rfl) (zaI hs λ hc hs=>And.intro (And.intro (zE zbD 2 bv0.get) (And.intro ((zdv [(⟨(3:Int),(9:Int)⟩:Span)]):IsE zbD 2 2 (za9 [(zbD (⟨(0:Int),(0:Int)⟩:Span)),(zbD (⟨(5:Int),(8:Int)⟩:Span)),(zbD (⟨(3:Int),(9:Int)⟩:Span))])) hc)) (zc hs hk (λ hs hk=>(zaI hs λ hc hs=>And.intro (And.intro (zE zaC 2 cv1.get) (And.intro (zwQ:IsE zaC 2 2 (λ _=>(zaC (⟨(2:Int),true⟩:Use)))) hc)) (zc hs hk (λ hs hk=>(zaI hs λ hc hs=>And.intro (And.intro (zE zad 1 vv2.get) (And.intro ((zdv [(8:Int)]):IsE zad 1 1 (za9 [(zad (0:Int)),(zad (5:Int)),(zad (8:Int))])) hc)) (zc hs hk (λ hs hk=>(zaI hs λ hc hs=>And.intro (And.intro (zE zaC 2 xv4.get) (And.intro ((zdv []):IsE zaC 2 2 (za9 [(zaC (⟨(2:Int),true⟩:Use)),(zaC (⟨(3:Int),true⟩:Use))])) hc)) (zc hs hk (λ hs hk=>(zaI hs λ hc hs=>And.intro (And.intro (zE zad 1 lv5.get) (And.intro (zwQ:IsE zad 1 1 (λ _=>(zad (2:Int)))) hc)) hk)) (λ hs hk=>hk)))) (λ hs hk=>hk)))) (λ hs hk=>hk)))) (λ hs hk=>hk)))
def zzG (bv0:(Sl Span)) (ev0:Int) (cv1:(Sl Use)) (fv1:Int) (vv2:(Sl Int)) (gv2:Int) (xv4:(Sl Use)) (hv4:Int) (lv5:(Sl Int)) (iv5:Int):Bool :=
  (cond (ev0 != (0:Int))
 false
 (cond (fv1 != (0:Int))
 false
 (cond (gv2 != (0:Int))
 false
 (cond (hv4 != (0:Int))
 false
 (cond (iv5 != (0:Int))
 false
 (zzE bv0 cv1 vv2 xv4 lv5))))))
def zzH (bv0:(Sl Span)) (ev0:Int) (cv1:(Sl Use)) (fv1:Int) (vv2:(Sl Int)) (gv2:Int) (xv4:(Sl Use)) (hv4:Int) (lv5:(Sl Int)) (iv5:Int):Bool :=
  (cond (ev0 != (0:Int))
 true
 (cond (fv1 != (0:Int))
 true
 (cond (gv2 != (0:Int))
 true
 (cond (hv4 != (0:Int))
 true
 (cond (iv5 != (0:Int))
 true
 (zzF bv0 cv1 vv2 xv4 lv5))))))
theorem zHm (hs:zzH bv0 ev0 cv1 fv1 vv2 gv2 xv4 hv4 lv5 iv5=true) (hk:K (e21 (zzG bv0 ev0 cv1 fv1 vv2 gv2 xv4 hv4 lv5 iv5))) (zHn:zzD=zg zad lv5):z21 K [1,1,1,1,1,1,1] [] ⟨[(1,zS zbD 2 bv0),(2,zI ev0),(3,zS zaC 2 cv1),(4,zI fv1),(5,zS zad 1 vv2),(6,zI gv2),(8,zS zaC 2 xv4),(9,zI hv4),(10,zP (.sl lv5.len 1 zzD)),(11,zI iv5)],[],[]⟩:=by subst zHn;exact zaW (by kernel_rfl) (zc hs hk (λ hs hk=>hk) (λ hs hk=>(zc hs hk (λ hs hk=>hk) (λ hs hk=>(zc hs hk (λ hs hk=>hk) (λ hs hk=>(zc hs hk (λ hs hk=>hk) (λ hs hk=>(zc hs hk (λ hs hk=>hk) (λ hs hk=>(zHl hs hk)))))))))))
def zzI (bv0:(Sl Span)) (ev0:Int) (cv1:(Sl Use)) (fv1:Int) (vv2:(Sl Int)) (gv2:Int) (zey:Int) (zdR:(Sl Tie)) (xv4:(Sl Use)) (hv4:Int):Bool :=
  (zzG bv0 ev0 cv1 fv1 vv2 gv2 xv4 hv4 ((s22 (⟨zey,zdR⟩:Net)).1) ((s22 (⟨zey,zdR⟩:Net)).2))
def zzJ (bv0:(Sl Span)) (ev0:Int) (cv1:(Sl Use)) (fv1:Int) (vv2:(Sl Int)) (gv2:Int) (zey:Int) (zdR:(Sl Tie)) (xv4:(Sl Use)) (hv4:Int):Bool :=
  (decide ((p22 (⟨zey,zdR⟩:Net)=true)) &&
 (zzH bv0 ev0 cv1 fv1 vv2 gv2 xv4 hv4 ((s22 (⟨zey,zdR⟩:Net)).1) ((s22 (⟨zey,zdR⟩:Net)).2)))
theorem zHo (hs:zzJ bv0 ev0 cv1 fv1 vv2 gv2 zey zdR xv4 hv4=true) (hk:K (e21 (zzI bv0 ev0 cv1 fv1 vv2 gv2 zey zdR xv4 hv4))) (zNu:zLa=zg zaC xv4):z21 K [1,1,1,1,1,1] [] ⟨[(1,zS zbD 2 bv0),(2,zI ev0),(3,zS zaC 2 cv1),(4,zI fv1),(5,zS zad 1 vv2),(6,zI gv2),(7,zp 7 0),(8,zP (.sl xv4.len 2 zLa)),(9,zI hv4)],[(7,.box 24 (zm (enc_24 (⟨zey,zdR⟩:Net))))],[]⟩:=by subst zNu;exact zaW (by kernel_rfl) (zaI hs λ hc hs=>And.intro (And.intro (zE enc_40 4 zdR.get) hc) (zHm hs hk rfl))
def zzK (bv0:(Sl Span)) (ev0:Int) (cv1:(Sl Use)) (fv1:Int) (vv2:(Sl Int)) (gv2:Int) (zey:Int) (zdR:(Sl Tie)):Bool :=
  (zzI bv0 ev0 cv1 fv1 vv2 gv2 zey zdR ((s49 (⟨zey,zdR⟩:Net)).1) ((s49 (⟨zey,zdR⟩:Net)).2))
def zzL (bv0:(Sl Span)) (ev0:Int) (cv1:(Sl Use)) (fv1:Int) (vv2:(Sl Int)) (gv2:Int) (zey:Int) (zdR:(Sl Tie)):Bool :=
  (decide ((p49 (⟨zey,zdR⟩:Net)=true)) &&
 (zzJ bv0 ev0 cv1 fv1 vv2 gv2 zey zdR ((s49 (⟨zey,zdR⟩:Net)).1) ((s49 (⟨zey,zdR⟩:Net)).2)))
theorem zHp (hs:zzL bv0 ev0 cv1 fv1 vv2 gv2 zey zdR=true) (hk:K (e21 (zzK bv0 ev0 cv1 fv1 vv2 gv2 zey zdR))) (zHq:zzC=zg enc_40 zdR):z21 K [1,1,1,1,1] [] ⟨[(1,zS zbD 2 bv0),(2,zI ev0),(3,zS zaC 2 cv1),(4,zI fv1),(5,zS zad 1 vv2),(6,zI gv2),(7,zp 7 0)],[(7,.box 24 [zi zey,.p (.sl zdR.len 4 zzC)])],[]⟩:=by subst zHq;exact zaW (by kernel_rfl) (zaI hs λ hc hs=>And.intro (And.intro (zE enc_40 4 zdR.get) hc) (zHo hs hk rfl))
def zzM (bv0:(Sl Span)) (ev0:Int) (cv1:(Sl Use)) (fv1:Int) (vv2:(Sl Int)) (gv2:Int):Bool :=
  (zzK bv0 ev0 cv1 fv1 vv2 gv2 ((s29 s66 (⟨(0:Int),(2:Int),(10:Int),(12:Int)⟩:Tie)).Nodes) ((s29 s66 (⟨(0:Int),(2:Int),(10:Int),(12:Int)⟩:Tie)).Ties))
def zzN (bv0:(Sl Span)) (ev0:Int) (cv1:(Sl Use)) (fv1:Int) (vv2:(Sl Int)) (gv2:Int):Bool :=
  (decide ((p29 s66 (⟨(0:Int),(2:Int),(10:Int),(12:Int)⟩:Tie)=true)) &&
 (zzL bv0 ev0 cv1 fv1 vv2 gv2 ((s29 s66 (⟨(0:Int),(2:Int),(10:Int),(12:Int)⟩:Tie)).Nodes) ((s29 s66 (⟨(0:Int),(2:Int),(10:Int),(12:Int)⟩:Tie)).Ties)))
theorem zHr (hs:zzN bv0 ev0 cv1 fv1 vv2 gv2=true) (hk:K (e21 (zzM bv0 ev0 cv1 fv1 vv2 gv2))) (zNv:zK9=zg zad vv2):z21 K [1,1,1,1] [] ⟨[(1,zS zbD 2 bv0),(2,zI ev0),(3,zS zaC 2 cv1),(4,zI fv1),(5,zP (.sl vv2.len 1 zK9)),(6,zI gv2)],[],[]⟩:=by subst zNv;exact zaW (by kernel_rfl) (zaI hs λ hc hs=>And.intro (And.intro (zE enc_40 4 s66.Ties.get) hc) (zHp hs hk rfl))
def zzO (bv0:(Sl Span)) (ev0:Int) (cv1:(Sl Use)) (fv1:Int):Bool :=
  (zzM bv0 ev0 cv1 fv1 ((s45 s66 (1:Int) (0:Int)).1) ((s45 s66 (1:Int) (0:Int)).2))
def zzP (bv0:(Sl Span)) (ev0:Int) (cv1:(Sl Use)) (fv1:Int):Bool :=
  (decide ((p45 s66 (1:Int) (0:Int)=true)) &&
 (zzN bv0 ev0 cv1 fv1 ((s45 s66 (1:Int) (0:Int)).1) ((s45 s66 (1:Int) (0:Int)).2)))
theorem zHs (hs:zzP bv0 ev0 cv1 fv1=true) (hk:K (e21 (zzO bv0 ev0 cv1 fv1))) (zNw:zK8=zg zaC cv1):z21 K [1,1,1] [] ⟨[(1,zS zbD 2 bv0),(2,zI ev0),(3,zP (.sl cv1.len 2 zK8)),(4,zI fv1)],[],[]⟩:=by subst zNw;exact zaW (by kernel_rfl) (zaI hs λ hc hs=>And.intro (And.intro (zE enc_40 4 s66.Ties.get) hc) (zHr hs hk rfl))
def zzQ (bv0:(Sl Span)) (ev0:Int):Bool :=
  (zzO bv0 ev0 ((s54 s66 (0:Int) (2:Int)).1) ((s54 s66 (0:Int) (2:Int)).2))
def zzR (bv0:(Sl Span)) (ev0:Int):Bool :=
  (decide ((p54 s66 (0:Int) (2:Int)=true)) &&
 (zzP bv0 ev0 ((s54 s66 (0:Int) (2:Int)).1) ((s54 s66 (0:Int) (2:Int)).2)))
theorem zHt (hs:zzR bv0 ev0=true) (hk:K (e21 (zzQ bv0 ev0))) (zNx:zK7=zg zbD bv0):z21 K [1,1] [] ⟨[(1,zP (.sl bv0.len 2 zK7)),(2,zI ev0)],[],[]⟩:=by subst zNx;exact zaW (by kernel_rfl) (zaI hs λ hc hs=>And.intro (And.intro (zE enc_40 4 s66.Ties.get) hc) (zHs hs hk rfl))
def s21:Bool :=
  (zzQ ((s26 s66).1) ((s26 s66).2))
def p21:Bool :=
  (decide ((p26 s66=true)) &&
 (zzR ((s26 s66).1) ((s26 s66).2)))
end
theorem q21 (K:List PA->Prop) (hs:p21=true) (hk:K (e21 (s21))):vcFun Tryd.prog G21 zHk 21 [] K :=
  zaW (by kernel_rfl) (zaI hs λ hc hs=>And.intro (And.intro (zE enc_40 4 s66.Ties.get) hc) (zHt hs hk rfl))
theorem zLb:p21=true:=by kernel_rfl
theorem zLc:s21=true:=by kernel_rfl
def zHu : List PA → COut
  | []=>.tot [.one (.bool true)]
  | _=>.no
theorem zLd:zav Tryd.prog 21:=⟨_,rfl,rfl,by kernel_rfl⟩
theorem zO9:Ok Tryd.prog 21 zHu:=zbx zNt zLd λ args K h=>by
  unfold zHu at h
  split at h
  · refine ⟨fun _ _ => [], fun _ => false, zHk, q21 K zLb ?_⟩
    show K [.one (.bool s21)]
    rw[zLc];exact h
  · exact h.elim
abbrev T20:Tabs:=Tabs.nil
theorem zNy:TabsOk Tryd.prog T20:=TabsOk.nil
abbrev G20:Ctrs:=csm T20 (λ _ _=>[]) (λ _=>false)
def zLe:Ann:=⟨32,[(0,zK [1,2] [2]),(1,zK [4] [])],
 [],
 [],
 [],[]⟩
abbrev R20:=Bool
abbrev e20 (r:R20):List PA:=[.one (.bool r)]
section
variable {K:List PA->Prop}{n:Net}{ties:Int}
def s20 (n:Net) (ties:Int):Bool :=
  (cond (decide (n.Nodes <= (7:Int)))
 (cond (decide ((n.Ties.len : Int) <= ties))
 true
 (cond (decide ((n.Ties.len : Int) > (200:Int)))
 (decide ((n.Ties.len:Int)<=(210:Int)))
 false))
 (cond (decide (n.Nodes > (40:Int)))
 (cond (decide ((n.Ties.len : Int) <= ties))
 true
 (cond (decide ((n.Ties.len : Int) > (200:Int)))
 (decide ((n.Ties.len:Int)<=(210:Int)))
 false))
 false))
end
theorem q20 (n:Net) (ties:Int) (K:List PA->Prop) (hk:K (e20 (s20 n ties))):vcFun Tryd.prog G20 zLe 20 [.agg (enc_24 n),.one (.int .i64 ties)] K :=
  zaW (by kernel_rfl) (zt hk (λ hk=>(zt hk (λ hk=>hk) (λ hk=>(zt hk (λ hk=>hk) (λ hk=>hk))))) (λ hk=>(zt hk (λ hk=>(zt hk (λ hk=>hk) (λ hk=>(zt hk (λ hk=>hk) (λ hk=>hk))))) (λ hk=>hk))))
def zHv : List PA → COut
  | [.agg [.int .i64 zaf,.sl zae zaw zac],.one (.int .i64 a1)]=>.det (IsE enc_40 4 zaw zac) [.one (.bool (s20 (⟨zaf,(⟨zae,zai zac⟩:(Sl Tie))⟩:Net) a1))]
  | _=>.no
theorem zLf:zav Tryd.prog 20:=⟨_,rfl,rfl,by kernel_rfl⟩
theorem zPa:Ok Tryd.prog 20 zHv:=zbx zNy zLf λ args K h=>by
  unfold zHv at h
  split at h
  · rename_i zaf zae zaw zac a1
    obtain⟨⟨rfl,zak,rfl⟩,hk⟩:=h
    try rw[zaj zak] at hk
    exact⟨(λ _ _=>[]),(λ _=>false),zLe,q20 (⟨zaf,(⟨zae,zak⟩:(Sl Tie))⟩:Net) a1 K hk⟩
  · exact h.elim
abbrev T72:Tabs:=Tabs.nil
theorem zNz:TabsOk Tryd.prog T72:=TabsOk.nil
abbrev G72:Ctrs:=csm T72 (λ _ _=>[]) (λ _=>false)
def zLg:Ann:=⟨15,[(0,zK [0,1,2] []),(1,zK [6] [])],
 [],
 [],
 [],[]⟩
abbrev R72:=Bool
abbrev e72 (r:R72):List PA:=[.one (.bool r)]
section
variable {K:List PA->Prop}{x:Int}{low:Int}{high:Int}
def s72 (x:Int) (low:Int) (high:Int):Bool :=
  (cond (decide (x >= low))
 (decide (x<=high))
 false)
end
theorem q72 (x:Int) (low:Int) (high:Int) (K:List PA->Prop) (hk:K (e72 (s72 x low high))):vcFun Tryd.prog G72 zLg 72 [.one (.int .i64 x),.one (.int .i64 low),.one (.int .i64 high)] K :=
  zaW (by kernel_rfl) (zt hk (λ hk=>hk) (λ hk=>hk))
def zCJ : List PA → COut
  | [.one (.int .i64 a0),.one (.int .i64 a1),.one (.int .i64 a2)]=>.tot [.one (.bool (s72 a0 a1 a2))]
  | _=>.no
theorem zLh:zav Tryd.prog 72:=⟨_,rfl,rfl,by kernel_rfl⟩
theorem zOi:Ok Tryd.prog 72 zCJ:=zbx zNz zLh λ args K h=>by
  unfold zCJ at h
  split at h
  · rename_i a0 a1 a2
    have hk:=h
    exact⟨(λ _ _=>[]),(λ _=>false),zLg,q72 a0 a1 a2 K hk⟩
  · exact h.elim
abbrev T36:Tabs:=(Tabs.nil.addF 72 zCJ)
theorem zNA:TabsOk Tryd.prog T36:=(TabsOk.nil.addF zOi)
abbrev G36:Ctrs:=csm T36 (λ _ _=>[]) (λ _=>false)
def zHw:Ann:=⟨51,[(0,zK [0,3] [3]),(1,zK [3,32] [3]),(2,zK [4] []),(3,zK [4] [])],
 [],
 [(2,zK [3,32] [3]),(3,zK [3] [3])],
 [],[]⟩
abbrev R36:=Bool
abbrev e36 (r:R36):List PA:=[.one (.bool r)]
@[irreducible] def z36:=ptF Tryd.prog G36 zHw Tryd.f36
section
variable {K:List PA->Prop}{nodes:Int}{t:Tie}{zCK:Bool}
def zrp (t:Tie):Bool :=
  (cond (t.Low == (-1000000000000:Int))
 (cond (t.High == (1000000000000:Int))
 true
 (s72 t.High (-1000000000:Int) (1000000000:Int)))
 (cond (s72 t.Low (-1000000000:Int) (1000000000:Int))
 (cond (t.High == (1000000000000:Int))
 true
 (s72 t.High (-1000000000:Int) (1000000000:Int)))
 false))
theorem zHx (hk:K (e36 (zrp t))):z36 K [1,1] [] ⟨[(3,zp 3 0)],[(3,.box 40 (zm (enc_40 t)))],[]⟩:=zaW (by kernel_rfl) (zt hk (λ hk=>(zt hk (λ hk=>hk) (λ hk=>hk))) (λ hk=>(zt hk (λ hk=>(zt hk (λ hk=>hk) (λ hk=>hk))) (λ hk=>hk))))
def ziY (t:Tie) (zCK:Bool):Bool :=
  (cond zCK
 false
 (zrp t))
theorem znN (hk:K (e36 (ziY t zCK))):z36 K [1,0,1] [] ⟨[(3,zp 3 0),(32,zB zCK)],[(3,.box 40 (zm (enc_40 t)))],[]⟩:=zaW (by kernel_rfl) (zt hk (λ hk=>hk) (λ hk=>(zHx hk)))
def s36 (nodes:Int) (t:Tie):Bool :=
  (cond (!(s72 t.From (0:Int) (w64 (nodes - (1:Int)))))
 (ziY t true)
 (cond (!(s72 t.To (0:Int) (w64 (nodes - (1:Int)))))
 (ziY t true)
 (cond (t.From == t.To)
 (ziY t true)
 (ziY t (decide (t.Low > t.High))))))
end
theorem q36 (nodes:Int) (t:Tie) (K:List PA->Prop) (hk:K (e36 (s36 nodes t))):vcFun Tryd.prog G36 zHw 36 [.one (.int .i64 nodes),.agg (enc_40 t)] K :=
  zaW (by kernel_rfl) (zt hk (λ hk=>(znN hk)) (λ hk=>(zt hk (λ hk=>(znN hk)) (λ hk=>(zt hk (λ hk=>(znN hk)) (λ hk=>(znN hk)))))))
def zHy : List PA → COut
  | [.one (.int .i64 a0),.agg [.int .i64 zeV,.int .i64 zlI,.int .i64 zg7,.int .i64 zeW]]=>.tot [.one (.bool (s36 a0 (⟨zeV,zlI,zg7,zeW⟩:Tie)))]
  | _=>.no
theorem zLi:zav Tryd.prog 36:=⟨_,rfl,rfl,by kernel_rfl⟩
theorem zPb:Ok Tryd.prog 36 zHy:=zbx zNA zLi λ args K h=>by
  unfold zHy at h
  split at h
  · rename_i a0 zeV zlI zg7 zeW
    have hk:=h
    exact⟨(λ _ _=>[]),(λ _=>false),zHw,q36 a0 (⟨zeV,zlI,zg7,zeW⟩:Tie) K hk⟩
  · exact h.elim
abbrev T23:Tabs:=((Tabs.nil.addF 36 zHy).addF 72 zCJ)
theorem zNB:TabsOk Tryd.prog T23:=((TabsOk.nil.addF zPb).addF zOi)
abbrev G23:Ctrs:=csm T23 (λ _ _=>[]) (λ _=>false)
def zHz:Ann:=⟨30,[(0,zK [1] [1]),(1,zK [1,13] [1]),(2,zK [2] []),(3,zK [1,3] [1]),(4,zK [1,3,18] [1]),(5,zK [1,3] [1]),(6,zK [1,3,29] [1]),(7,zK [2] []),(8,zK [2] [])],
 [(4,zK [1,3] [1])],
 [(2,zK [1,13] [1]),(3,zK [1] [1]),(7,zK [1,3,29] [1])],
 [],[]⟩
abbrev R23:=Bool
abbrev e23 (r:R23):List PA:=[.one (.bool r)]
@[irreducible] def z23:=ptF Tryd.prog G23 zHz Tryd.f23
def zEe (n:Net) (iv2:Int):St:=⟨[(1,zp 1 0),(3,zI iv2)],[(1,.box 24 (zm (enc_24 n)))],[]⟩
abbrev zHA (K:List PA->Prop) (n:Net) (X:St->Prop) (P:Int->Bool) (S:Int->Bool):Prop:=∀ ⦃iv2:Int⦄,P iv2=true->K (e23 (S iv2))->X (zEe n iv2)
section
variable {K:List PA->Prop}{n:Net}{zbV:Bool}{iv2:Int}{X2:St->Prop}{P2:Int->Bool}{S2:Int->Bool}{iv3:Int}{zrq:Bool}
def zrr (S2:Int->Bool) (n:Net) (iv3:Int) (zrq:Bool):Bool :=
  (cond zrq
 false
 (S2 (w64 (iv3+(1:Int)))))
def zrt (P2:Int->Bool) (n:Net) (iv3:Int) (zrq:Bool):Bool :=
  (cond zrq
 true
 (P2 (w64 (iv3+(1:Int)))))
theorem zHB (hX2:zHA K n X2 P2 S2) (hs:zrt P2 n iv3 zrq=true) (hk:K (e23 (zrr S2 n iv3 zrq))):z23 K [1,1,0,1,0,0,1,0,0,1] [X2] ⟨[(1,zp 1 0),(3,zI iv3),(29,zB zrq)],[(1,.box 24 (zm (enc_24 n)))],[]⟩:=zaW (by kernel_rfl) (zc hs hk (λ hs hk=>hk) (λ hs hk=>(hX2 hs hk)))
def ziZ (n:Net) (S2:Int->Bool) (iv2:Int):Bool :=
  (cond (decide (iv2 < (n.Ties.len : Int)))
 (zrr S2 n iv2 (!(s36 n.Nodes (n.Ties.get iv2.toNat))))
 true)
def zi0 (n:Net) (P2:Int->Bool) (iv2:Int):Bool :=
  (cond (decide (iv2 < (n.Ties.len : Int)))
 (decide ((0<=iv2/\iv2 < (n.Ties.len:Int))) &&
 (zrt P2 n iv2 (!(s36 n.Nodes (n.Ties.get iv2.toNat)))))
 true)
def zhq (n:Net):Nat->Int->Bool:=lpO (λ _=>default) (ziZ n)
def zi1 (n:Net):Nat->Int->Bool:=lpO (λ _=>false) (zi0 n)
def zru (n:Net) (iv2:Int):Bool:=zhq n Fuel iv2
def zrv (n:Net) (iv2:Int):Bool:=zi1 n Fuel iv2
theorem zHC (hs:zrv n iv2=true) (hk:K (e23 (zru n iv2))):z23 K [1,1,0,1,0] [] (zEe n iv2) :=
  zl (λ X=>z23 K [1,1,0,1,0,0] [X]) (by kernel_rfl) λ X2 hX =>
  (show ∀ k, zHA K n X2 (zi1 n k) (zhq n k) from zeH _ _ (zi0 n) (ziZ n) (zHA K n X2)
 (by intro _ hs;exact absurd hs dqk)
 (by intro P2 S2 hX2 iv2 hs hk;exact hX _ (zaW (by kernel_rfl) (zc hs hk (λ hs hk=>(zaI hs λ hc hs=>And.intro hc (zHB hX2 hs hk))) (λ hs hk=>hk))))) _ hs hk
def zrx (n:Net):Bool :=
  (zru n (0:Int))
def zry (n:Net):Bool :=
  (zrv n (0:Int))
theorem zHD (hs:zry n=true) (hk:K (e23 (zrx n))):z23 K [1,1] [] ⟨[(1,zp 1 0)],[(1,.box 24 (zm (enc_24 n)))],[]⟩:=zaW (by kernel_rfl) (zHC hs hk)
def znO (n:Net) (zbV:Bool):Bool :=
  (cond zbV
 false
 (zrx n))
def znP (n:Net) (zbV:Bool):Bool :=
  (cond zbV
 true
 (zry n))
theorem zzS (hs:znP n zbV=true) (hk:K (e23 (znO n zbV))):z23 K [1,0,1] [] ⟨[(1,zp 1 0),(13,zB zbV)],[(1,.box 24 (zm (enc_24 n)))],[]⟩:=zaW (by kernel_rfl) (zc hs hk (λ hs hk=>hk) (λ hs hk=>(zHD hs hk)))
def s23 (n:Net):Bool :=
  (cond (!(s72 n.Nodes (1:Int) (40:Int)))
 (znO n true)
 (znO n (decide ((n.Ties.len:Int) > (200:Int)))))
def p23 (n:Net):Bool :=
  (cond (!(s72 n.Nodes (1:Int) (40:Int)))
 (znP n true)
 (znP n (decide ((n.Ties.len:Int) > (200:Int)))))
end
theorem q23 (n:Net) (K:List PA->Prop) (hs:p23 n=true) (hk:K (e23 (s23 n))):vcFun Tryd.prog G23 zHz 23 [.agg (enc_24 n)] K :=
  zaW (by kernel_rfl) (zc hs hk (λ hs hk=>(zzS hs hk)) (λ hs hk=>(zzS hs hk)))
def zHE : List PA → COut
  | [.agg [.int .i64 zaf,.sl zae zaw zac]]=>.det (IsE enc_40 4 zaw zac/\p23 (⟨zaf,(⟨zae,zai zac⟩:(Sl Tie))⟩:Net)=true) [.one (.bool (s23 (⟨zaf,(⟨zae,zai zac⟩:(Sl Tie))⟩:Net)))]
  | _=>.no
theorem zLj:zav Tryd.prog 23:=⟨_,rfl,rfl,by kernel_rfl⟩
theorem zPc:Ok Tryd.prog 23 zHE:=zbx zNB zLj λ args K h=>by
  unfold zHE at h
  split at h
  · rename_i zaf zae zaw zac
    obtain⟨⟨⟨rfl,zak,rfl⟩,hs⟩,hk⟩:=h
    try rw[zaj zak] at hs
    try rw[zaj zak] at hk
    exact⟨(λ _ _=>[]),(λ _=>false),zHz,q23 (⟨zaf,(⟨zae,zak⟩:(Sl Tie))⟩:Net) K hs hk⟩
  · exact h.elim
abbrev T56:Tabs:=((((Tabs.nil.addF 67 zuW).addF 81 zuV).addF 94 zCb).addF 95 zCc)
theorem zNC:TabsOk Tryd.prog T56:=((((TabsOk.nil.addF zMi).addF zMh).addF zN1).addF zN2)
abbrev G56:Ctrs:=csm T56 (λ _ _=>[]) (λ _=>false)
def zHF:Ann:=⟨85,[(0,zK [1,2,3] [3]),(1,zK [1,2,3,31] [3]),(2,zK [6,7,8] []),(3,zK [2,3,9,10] [3]),(4,zK [3,9,10,33,34,35] [3]),(5,zK [3,9,10,33,34,35,36] [3]),(6,zK [3,9,10,12,33,34,35] [3,12]),(7,zK [3,9,10,12,33,34,35,46] [3,12]),(8,zK [6,7,8] []),(9,zK [3,9,10,12,13,33,34,35] [3,12,13]),(10,zK [3,9,10,12,13,14,15,33,34,35] [3,12,13,14]),(11,zK [3,9,10,13,14,15,33,34,35,62] [3,13,14]),(12,zK [3,9,10,14,15,33,34,35] [3,14]),(13,zK [3,10,14,33,34,35,75] [3,14]),(14,zK [6,7,8] []),(15,zK [3,9,10,33,34,35] [3]),(16,zK [3,9,10,33,34,35] [3]),(17,zK [6,7,8] [])],
 [(5,zK [3,9,10,33,34,35] [3])],
 [(2,zK [1,2,3,31] [3]),(3,zK [1,2,3] [3]),(8,zK [3,9,10,12,33,34,35,46] [3,12]),(9,zK [3,9,10,12,33,34,35] [3,12]),(11,zK [3,9,10,12,13,14,15,33,34,35] [3,12,13,14]),(13,zK [3,9,10,14,15,33,34,35] [3,14])],
 [],[]⟩
abbrev R56:=(Int×Int×Bool)
abbrev e56 (r:R56):List PA:=[.one (.int .i64 r.1),.one (.int .i64 r.2.1),.one (.bool r.2.2)]
@[irreducible] def z56:=ptF Tryd.prog G56 zHF Tryd.f56
def zEf (n:Net) (zaR:(Sl Use)) (znQ:Int) (zbN:Int) (zdi:Int):St:=⟨[(3,zp 3 0),(9,zI znQ),(10,zI zbN),(33,zS zaC 2 zaR),(34,zI (zaR.len:Int)),(35,zI zdi)],[(3,.box 24 (zm (enc_24 n)))],[]⟩
abbrev zu7 (K:List PA->Prop) (n:Net) (zaR:(Sl Use)) (X:St->Prop) (P:Int->Int->Int->Bool) (S:Int->Int->Int->(Int×Int×Bool)):Prop:=∀ ⦃znQ:Int⦄ ⦃zbN:Int⦄ ⦃zdi:Int⦄,P znQ zbN zdi=true->K (e56 (S znQ zbN zdi))->X (zEf n zaR znQ zbN zdi)
section
variable {K:List PA->Prop}{n:Net}{zaa:Int}{zaR:(Sl Use)}{zrz:Bool}{znQ:Int}{zbN:Int}{zdi:Int}{X2:St->Prop}{P2:Int->Int->Int->Bool}{S2:Int->Int->Int->(Int×Int×Bool)}{zHG:Int}{zft:Int}{zrA:Int}{zrB:Bool}{zrC:Int}{zrD:Bool}{zHH:Int}{zfu:Int}{zrE:Int}{zbZ:Int}{zrF:Bool}{zCL:Int}{zd6:Int}{zHI:Bool}{znR:Int}{zzT:Int}{zrG:Bool}{zgk:Int}{zgl:Int}{zgm:Int}{zgn:Int}{zgo:Int}{zrH:Int}{zrI:Bool}{zrJ:Int}{zrK:Int}{zrL:Int}{zex:Int}{zbj:Int}{zHJ:Bool}{zrM:Int}{zzU:Int}{zzV:Bool}{zrN:Int}{zrO:Int}{zrP:Int}
def znS (S2:Int->Int->Int->(Int×Int×Bool)) (n:Net) (zaR:(Sl Use)) (zex:Int) (zbj:Int) (zHJ:Bool) (zrM:Int) (zzU:Int) (zzV:Bool) (zrN:Int) (zrO:Int) (zrP:Int):(Int×Int×Bool) :=
  (cond (!zHJ)
 ((0:Int),(0:Int),false)
 (cond (zrN != zex)
 ((0:Int),(0:Int),false)
 (S2 zrO (w64 (zbj+zrP)) (w64 (zrM+(1:Int))))))
def znT (P2:Int->Int->Int->Bool) (n:Net) (zaR:(Sl Use)) (zex:Int) (zbj:Int) (zHJ:Bool) (zrM:Int) (zzU:Int) (zzV:Bool) (zrN:Int) (zrO:Int) (zrP:Int):Bool :=
  (cond (!zHJ)
 true
 (cond (zrN != zex)
 true
 (P2 zrO (w64 (zbj+zrP)) (w64 (zrM+(1:Int))))))
theorem zzW (hX2:zu7 K n zaR X2 P2 S2) (hs:znT P2 n zaR zex zbj zHJ zrM zzU zzV zrN zrO zrP=true) (hk:K (e56 (znS S2 n zaR zex zbj zHJ zrM zzU zzV zrN zrO zrP))):z56 K [1,1,1,0,1,0,0,1,1,0,0,1,1,1,1,1] [X2] ⟨[(3,zp 3 0),(9,zI zex),(10,zI zbj),(14,zp 14 0),(15,zB zHJ),(33,zS zaC 2 zaR),(34,zI (zaR.len:Int)),(35,zI zrM)],[(3,.box 24 (zm (enc_24 n))),(14,.box 130 (zm (zaB (⟨(⟨zzU,zzV⟩:Use),zrN,zrO,zrP⟩:step))))],[]⟩:=zaW (by kernel_rfl) (zc hs hk (λ hs hk=>hk) (λ hs hk=>(zc hs hk (λ hs hk=>hk) (λ hs hk=>(hX2 hs hk)))))
def zrQ (S2:Int->Int->Int->(Int×Int×Bool)) (n:Net) (zaR:(Sl Use)) (zCL:Int) (zd6:Int) (zHI:Bool) (znR:Int) (zzT:Int) (zrG:Bool) (zgk:Int) (zgl:Int) (zgm:Int) (zgn:Int) (zgo:Int) (zrH:Int) (zrI:Bool) (zrJ:Int) (zrK:Int) (zrL:Int):(Int×Int×Bool) :=
  (cond zrG
 (znS S2 n zaR zCL zd6 ((s95 (⟨(⟨zgk,zgl,zgm,zgn⟩:Tie),zgo⟩:tie)).2) znR (((s95 (⟨(⟨zgk,zgl,zgm,zgn⟩:Tie),zgo⟩:tie)).1).Use.Tie) (((s95 (⟨(⟨zgk,zgl,zgm,zgn⟩:Tie),zgo⟩:tie)).1).Use.Back) (((s95 (⟨(⟨zgk,zgl,zgm,zgn⟩:Tie),zgo⟩:tie)).1).from_) (((s95 (⟨(⟨zgk,zgl,zgm,zgn⟩:Tie),zgo⟩:tie)).1).to) (((s95 (⟨(⟨zgk,zgl,zgm,zgn⟩:Tie),zgo⟩:tie)).1).length))
 (znS S2 n zaR zCL zd6 zHI znR zrH zrI zrJ zrK zrL))
def zrR (P2:Int->Int->Int->Bool) (n:Net) (zaR:(Sl Use)) (zCL:Int) (zd6:Int) (zHI:Bool) (znR:Int) (zzT:Int) (zrG:Bool) (zgk:Int) (zgl:Int) (zgm:Int) (zgn:Int) (zgo:Int) (zrH:Int) (zrI:Bool) (zrJ:Int) (zrK:Int) (zrL:Int):Bool :=
  (cond zrG
 (znT P2 n zaR zCL zd6 ((s95 (⟨(⟨zgk,zgl,zgm,zgn⟩:Tie),zgo⟩:tie)).2) znR (((s95 (⟨(⟨zgk,zgl,zgm,zgn⟩:Tie),zgo⟩:tie)).1).Use.Tie) (((s95 (⟨(⟨zgk,zgl,zgm,zgn⟩:Tie),zgo⟩:tie)).1).Use.Back) (((s95 (⟨(⟨zgk,zgl,zgm,zgn⟩:Tie),zgo⟩:tie)).1).from_) (((s95 (⟨(⟨zgk,zgl,zgm,zgn⟩:Tie),zgo⟩:tie)).1).to) (((s95 (⟨(⟨zgk,zgl,zgm,zgn⟩:Tie),zgo⟩:tie)).1).length))
 (znT P2 n zaR zCL zd6 zHI znR zrH zrI zrJ zrK zrL))
theorem zHK (hX2:zu7 K n zaR X2 P2 S2) (hs:zrR P2 n zaR zCL zd6 zHI znR zzT zrG zgk zgl zgm zgn zgo zrH zrI zrJ zrK zrL=true) (hk:K (e56 (zrQ S2 n zaR zCL zd6 zHI znR zzT zrG zgk zgl zgm zgn zgo zrH zrI zrJ zrK zrL))):z56 K [1,1,1,0,1,0,0,1,1,0,0,1,1,1,1] [X2] ⟨[(3,zp 3 0),(9,zI zCL),(10,zI zd6),(12,zp 12 0),(13,zp 13 0),(14,zp 14 0),(15,zB zHI),(33,zS zaC 2 zaR),(34,zI (zaR.len:Int)),(35,zI znR)],[(3,.box 24 (zm (enc_24 n))),(12,.box 75 (zm (zaC (⟨zzT,zrG⟩:Use)))),(13,.box 136 (zm (zqo (⟨(⟨zgk,zgl,zgm,zgn⟩:Tie),zgo⟩:tie)))),(14,.box 130 (zm (zaB (⟨(⟨zrH,zrI⟩:Use),zrJ,zrK,zrL⟩:step))))],[]⟩:=zaW (by kernel_rfl) (zc hs hk (λ hs hk=>(zzW hX2 hs hk)) (λ hs hk=>(zzW hX2 hs hk)))
def zrS (S2:Int->Int->Int->(Int×Int×Bool)) (n:Net) (zaR:(Sl Use)) (zHH:Int) (zfu:Int) (zrE:Int) (zbZ:Int) (zrF:Bool):(Int×Int×Bool) :=
  (zrQ S2 n zaR zHH zfu ((s94 (⟨(n.Ties.get zbZ.toNat),zbZ⟩:tie)).2) zrE zbZ zrF ((n.Ties.get zbZ.toNat).From) ((n.Ties.get zbZ.toNat).To) ((n.Ties.get zbZ.toNat).Low) ((n.Ties.get zbZ.toNat).High) zbZ (((s94 (⟨(n.Ties.get zbZ.toNat),zbZ⟩:tie)).1).Use.Tie) (((s94 (⟨(n.Ties.get zbZ.toNat),zbZ⟩:tie)).1).Use.Back) (((s94 (⟨(n.Ties.get zbZ.toNat),zbZ⟩:tie)).1).from_) (((s94 (⟨(n.Ties.get zbZ.toNat),zbZ⟩:tie)).1).to) (((s94 (⟨(n.Ties.get zbZ.toNat),zbZ⟩:tie)).1).length))
def zrT (P2:Int->Int->Int->Bool) (n:Net) (zaR:(Sl Use)) (zHH:Int) (zfu:Int) (zrE:Int) (zbZ:Int) (zrF:Bool):Bool :=
  (decide ((0<=zbZ/\zbZ < (n.Ties.len:Int))) &&
 (zrR P2 n zaR zHH zfu ((s94 (⟨(n.Ties.get zbZ.toNat),zbZ⟩:tie)).2) zrE zbZ zrF ((n.Ties.get zbZ.toNat).From) ((n.Ties.get zbZ.toNat).To) ((n.Ties.get zbZ.toNat).Low) ((n.Ties.get zbZ.toNat).High) zbZ (((s94 (⟨(n.Ties.get zbZ.toNat),zbZ⟩:tie)).1).Use.Tie) (((s94 (⟨(n.Ties.get zbZ.toNat),zbZ⟩:tie)).1).Use.Back) (((s94 (⟨(n.Ties.get zbZ.toNat),zbZ⟩:tie)).1).from_) (((s94 (⟨(n.Ties.get zbZ.toNat),zbZ⟩:tie)).1).to) (((s94 (⟨(n.Ties.get zbZ.toNat),zbZ⟩:tie)).1).length)))
theorem zHL (hX2:zu7 K n zaR X2 P2 S2) (hs:zrT P2 n zaR zHH zfu zrE zbZ zrF=true) (hk:K (e56 (zrS S2 n zaR zHH zfu zrE zbZ zrF))):z56 K [1,1,1,0,1,0,0,1,1,0,0,1,1] [X2] ⟨[(3,zp 3 0),(9,zI zHH),(10,zI zfu),(12,zp 12 0),(33,zS zaC 2 zaR),(34,zI (zaR.len:Int)),(35,zI zrE)],[(3,.box 24 (zm (enc_24 n))),(12,.box 75 (zm (zaC (⟨zbZ,zrF⟩:Use))))],[]⟩:=zaW (by kernel_rfl) (zaI hs λ hc hs=>And.intro hc (zHK hX2 hs hk))
def zrU (S2:Int->Int->Int->(Int×Int×Bool)) (n:Net) (zaR:(Sl Use)) (zHG:Int) (zft:Int) (zrA:Int) (zrB:Bool) (zrC:Int) (zrD:Bool):(Int×Int×Bool) :=
  (cond zrB
 ((0:Int),(0:Int),false)
 (zrS S2 n zaR zHG zft zrA zrC zrD))
def zrV (P2:Int->Int->Int->Bool) (n:Net) (zaR:(Sl Use)) (zHG:Int) (zft:Int) (zrA:Int) (zrB:Bool) (zrC:Int) (zrD:Bool):Bool :=
  (cond zrB
 true
 (zrT P2 n zaR zHG zft zrA zrC zrD))
theorem zHM (hX2:zu7 K n zaR X2 P2 S2) (hs:zrV P2 n zaR zHG zft zrA zrB zrC zrD=true) (hk:K (e56 (zrU S2 n zaR zHG zft zrA zrB zrC zrD))):z56 K [1,1,1,0,1,0,0,1,1,0,0,1,0,1] [X2] ⟨[(3,zp 3 0),(9,zI zHG),(10,zI zft),(12,zp 12 0),(33,zS zaC 2 zaR),(34,zI (zaR.len:Int)),(35,zI zrA),(46,zB zrB)],[(3,.box 24 (zm (enc_24 n))),(12,.box 75 (zm (zaC (⟨zrC,zrD⟩:Use))))],[]⟩:=zaW (by kernel_rfl) (zc hs hk (λ hs hk=>hk) (λ hs hk=>(zHL hX2 hs hk)))
def zi2 (n:Net) (zaR:(Sl Use)) (S2:Int->Int->Int->(Int×Int×Bool)) (znQ:Int) (zbN:Int) (zdi:Int):(Int×Int×Bool) :=
  (cond (decide (zdi < (zaR.len : Int)))
 (zrU S2 n zaR znQ zbN zdi (!(s81 ((zaR.get zdi.toNat).Tie) (0:Int) (w64 ((n.Ties.len:Int) - (1:Int))))) ((zaR.get zdi.toNat).Tie) ((zaR.get zdi.toNat).Back))
 (znQ,zbN,true))
def zi3 (n:Net) (zaR:(Sl Use)) (P2:Int->Int->Int->Bool) (znQ:Int) (zbN:Int) (zdi:Int):Bool :=
  (cond (decide (zdi < (zaR.len : Int)))
 (decide ((0<=zdi/\zdi < (zaR.len:Int))) &&
 (zrV P2 n zaR znQ zbN zdi (!(s81 ((zaR.get zdi.toNat).Tie) (0:Int) (w64 ((n.Ties.len:Int) - (1:Int))))) ((zaR.get zdi.toNat).Tie) ((zaR.get zdi.toNat).Back)))
 true)
def zhr (n:Net) (zaR:(Sl Use)):Nat->Int->Int->Int->(Int×Int×Bool):=lpO (λ _ _ _=>default) (zi2 n zaR)
def zi4 (n:Net) (zaR:(Sl Use)):Nat->Int->Int->Int->Bool:=lpO (λ _ _ _=>false) (zi3 n zaR)
def zzX (n:Net) (zaR:(Sl Use)) (znQ:Int) (zbN:Int) (zdi:Int):(Int×Int×Bool):=zhr n zaR Fuel znQ zbN zdi
def zzY (n:Net) (zaR:(Sl Use)) (znQ:Int) (zbN:Int) (zdi:Int):Bool:=zi4 n zaR Fuel znQ zbN zdi
theorem zHN (hs:zzY n zaR znQ zbN zdi=true) (hk:K (e56 (zzX n zaR znQ zbN zdi))):z56 K [1,1,1,0,1,0] [] (zEf n zaR znQ zbN zdi) :=
  zl (λ X=>z56 K [1,1,1,0,1,0,0] [X]) (by kernel_rfl) λ X2 hX =>
  (show ∀ k, zu7 K n zaR X2 (zi4 n zaR k) (zhr n zaR k) from zeH _ _ (zi3 n zaR) (zi2 n zaR) (zu7 K n zaR X2)
 (by intro _ _ _ hs;exact absurd hs dqk)
 (by intro P2 S2 hX2 znQ zbN zdi hs hk;exact hX _ (zaW (by kernel_rfl) (zc hs hk (λ hs hk=>(zaI hs λ hc hs=>And.intro hc (zHM hX2 hs hk))) (λ hs hk=>hk))))) _ hs hk
def zzZ (n:Net) (zaa:Int) (zaR:(Sl Use)):(Int×Int×Bool) :=
  (zzX n zaR zaa (0:Int) (0:Int))
def zz0 (n:Net) (zaa:Int) (zaR:(Sl Use)):Bool :=
  (zzY n zaR zaa (0:Int) (0:Int))
theorem zHO (hs:zz0 n zaa zaR=true) (hk:K (e56 (zzZ n zaa zaR))):z56 K [1,1] [] ⟨[(1,zI zaa),(2,zS zaC 2 zaR),(3,zp 3 0)],[(3,.box 24 (zm (enc_24 n)))],[]⟩:=zaW (by kernel_rfl) (zHN hs hk)
def znU (n:Net) (zaa:Int) (zaR:(Sl Use)) (zrz:Bool):(Int×Int×Bool) :=
  (cond zrz
 ((0:Int),(0:Int),false)
 (zzZ n zaa zaR))
def znV (n:Net) (zaa:Int) (zaR:(Sl Use)) (zrz:Bool):Bool :=
  (cond zrz
 true
 (zz0 n zaa zaR))
theorem zrW (hs:znV n zaa zaR zrz=true) (hk:K (e56 (znU n zaa zaR zrz))):z56 K [1,0,1] [] ⟨[(1,zI zaa),(2,zS zaC 2 zaR),(3,zp 3 0),(31,zB zrz)],[(3,.box 24 (zm (enc_24 n)))],[]⟩:=zaW (by kernel_rfl) (zc hs hk (λ hs hk=>hk) (λ hs hk=>(zHO hs hk)))
def s56 (n:Net) (zaa:Int) (zaR:(Sl Use)):(Int×Int×Bool) :=
  (cond (!(s67 n))
 (znU n zaa zaR true)
 (cond (!(s81 zaa (0:Int) (w64 (n.Nodes - (1:Int)))))
 (znU n zaa zaR true)
 (znU n zaa zaR (decide ((zaR.len:Int) > (40:Int))))))
def p56 (n:Net) (zaa:Int) (zaR:(Sl Use)):Bool :=
  (decide ((p67 n=true)) &&
 (cond (!(s67 n))
 (znV n zaa zaR true)
 (cond (!(s81 zaa (0:Int) (w64 (n.Nodes - (1:Int)))))
 (znV n zaa zaR true)
 (znV n zaa zaR (decide ((zaR.len:Int) > (40:Int)))))))
end
theorem q56 (n:Net) (zaa:Int) (zaR:(Sl Use)) (K:List PA->Prop) (hs:p56 n zaa zaR=true) (hk:K (e56 (s56 n zaa zaR))):vcFun Tryd.prog G56 zHF 56 [.agg (enc_24 n),.one (.int .i64 zaa),.one (.sl zaR.len 2 (λ i=>zaC (zaR.get i)))] K :=
  zaW (by kernel_rfl) (zaI hs λ hc hs=>And.intro (And.intro (zE enc_40 4 n.Ties.get) hc) (zc hs hk (λ hs hk=>(zrW hs hk)) (λ hs hk=>(zc hs hk (λ hs hk=>(zrW hs hk)) (λ hs hk=>(zrW hs hk))))))
def zHP : List PA → COut
  | [.agg [.int .i64 zaf,.sl zae zaw zac],.one (.int .i64 a1),.one (.sl zvg zKc zvh)]=>.det (IsE enc_40 4 zaw zac/\IsE zaC 2 zKc zvh/\p56 (⟨zaf,(⟨zae,zai zac⟩:(Sl Tie))⟩:Net) a1 (⟨zvg,zcy zvh⟩:(Sl Use))=true) [.one (.int .i64 ((s56 (⟨zaf,(⟨zae,zai zac⟩:(Sl Tie))⟩:Net) a1 (⟨zvg,zcy zvh⟩:(Sl Use))).1)),.one (.int .i64 ((s56 (⟨zaf,(⟨zae,zai zac⟩:(Sl Tie))⟩:Net) a1 (⟨zvg,zcy zvh⟩:(Sl Use))).2.1)),.one (.bool ((s56 (⟨zaf,(⟨zae,zai zac⟩:(Sl Tie))⟩:Net) a1 (⟨zvg,zcy zvh⟩:(Sl Use))).2.2))]
  | _=>.no
theorem zLk:zav Tryd.prog 56:=⟨_,rfl,rfl,by kernel_rfl⟩
theorem zPd:Ok Tryd.prog 56 zHP:=zbx zNC zLk λ args K h=>by
  unfold zHP at h
  split at h
  · rename_i zaf zae zaw zac a1 zvg zKc zvh
    obtain⟨⟨⟨rfl,zak,rfl⟩,⟨rfl,zFP,rfl⟩,hs⟩,hk⟩:=h
    try rw[zaj zak] at hs
    try rw[zaj zak] at hk
    try rw[zcz zFP] at hs
    try rw[zcz zFP] at hk
    exact⟨(λ _ _=>[]),(λ _=>false),zHF,q56 (⟨zaf,(⟨zae,zak⟩:(Sl Tie))⟩:Net) a1 (⟨zvg,zFP⟩:(Sl Use)) K hs hk⟩
  · exact h.elim
abbrev T30:Tabs:=(((Tabs.nil.addF 74 zuZ).addF 75 zu0).addF 76 zu6)
theorem zND:TabsOk Tryd.prog T30:=(((TabsOk.nil.addF zMj).addF zMl).addF zMq)
abbrev G30:Ctrs:=csm T30 (λ _ _=>[]) (λ _=>false)
def zLl:Ann:=⟨36,[(0,zK [1,2,3,6] [3,6]),(1,zK [1,2,6,8,9] [6]),(2,zK [1,2,6,8,9,19] [6]),(3,zK [6,7] [6]),(4,zK [6,7] [6])],
 [],
 [],
 [],[]⟩
abbrev R30:=(Span×Int)
abbrev e30 (r:R30):List PA:=[.agg [.int .i64 r.1.Low,.int .i64 r.1.High],.one (.int .i64 r.2)]
section
variable {K:List PA->Prop}{n:Net}{zaa:Int}{to:Int}
def s30 (n:Net) (zaa:Int) (to:Int):(Span×Int) :=
  (cond ((s74 n (⟨2, zaq (za9 [(zad zaa), (zad to)])⟩ : (Sl Int))).2 == 0)
 (cond ((0:Int) != (0:Int))
 ((⟨(0:Int),(0:Int)⟩:Span),(0:Int))
 ((⟨(w64 (0 - (tg 80 (s75 (⟨(s74 n (⟨2,zaq (za9 [(zad zaa),(zad to)])⟩:(Sl Int))).1.Net,((s74 n (⟨2,zaq (za9 [(zad zaa),(zad to)])⟩:(Sl Int))).1.out)⟩:web) zaa) (0+to.toNat * 2+0)))),(tg 80 (s76 (⟨(s74 n (⟨2,zaq (za9 [(zad zaa),(zad to)])⟩:(Sl Int))).1.Net,((s74 n (⟨2,zaq (za9 [(zad zaa),(zad to)])⟩:(Sl Int))).1.out)⟩:web) zaa) (0+to.toNat * 2+0))⟩:Span),(0:Int)))
 (cond ((s74 n (⟨2, zaq (za9 [(zad zaa), (zad to)])⟩ : (Sl Int))).2 != (0:Int))
 ((⟨(0:Int),(0:Int)⟩:Span),(s74 n (⟨2,zaq (za9 [(zad zaa),(zad to)])⟩:(Sl Int))).2)
 default))
def p30 (n:Net) (zaa:Int) (to:Int):Bool :=
  (cond ((s74 n (⟨2, zaq (za9 [(zad zaa), (zad to)])⟩ : (Sl Int))).2 == 0)
 (decide ((p74 n (⟨2,zaq (za9 [(zad zaa),(zad to)])⟩:(Sl Int))=true)) &&
 (cond ((0:Int) != (0:Int))
 true
 (decide ((p75 (⟨(s74 n (⟨2,zaq (za9 [(zad zaa),(zad to)])⟩:(Sl Int))).1.Net,((s74 n (⟨2,zaq (za9 [(zad zaa),(zad to)])⟩:(Sl Int))).1.out)⟩:web) zaa=true)) &&
 (decide ((0<=to/\to < (40:Int))) &&
 (decide ((p76 (⟨(s74 n (⟨2,zaq (za9 [(zad zaa),(zad to)])⟩:(Sl Int))).1.Net,((s74 n (⟨2,zaq (za9 [(zad zaa),(zad to)])⟩:(Sl Int))).1.out)⟩:web) zaa=true)) &&
 (decide ((0<=to/\to < (40:Int))) &&
 true))))))
 (decide ((p74 n (⟨2,zaq (za9 [(zad zaa),(zad to)])⟩:(Sl Int))=true)) &&
 (cond ((s74 n (⟨2, zaq (za9 [(zad zaa), (zad to)])⟩ : (Sl Int))).2 != (0:Int))
 true
 false)))
end
theorem q30 (n:Net) (zaa:Int) (to:Int) (K:List PA->Prop) (hs:p30 n zaa to=true) (hk:K (e30 (s30 n zaa to))):vcFun Tryd.prog G30 zLl 30 [.agg (enc_24 n),.one (.int .i64 zaa),.one (.int .i64 to)] K :=
  zaW (by kernel_rfl) (zc hs hk (λ hs hk=>(zaI hs λ hc hs=>And.intro (And.intro (zE enc_40 4 n.Ties.get) (And.intro ((zdv []):IsE zad 1 1 (za9 [(zad zaa),(zad to)])) hc)) (zc hs hk (λ hs hk=>hk) (λ hs hk=>(zaI hs λ hc hs=>And.intro (And.intro (zE enc_40 4 ((s74 n (⟨2,zaq (za9 [(zad zaa),(zad to)])⟩:(Sl Int))).1.Net.Ties.get)) (And.intro (rfl:((false,1,false,[none]):MQ)=(false,1,false,[none])) hc)) (zaI hs λ hc hs=>And.intro hc (zaI hs λ hc hs=>And.intro (And.intro (zE enc_40 4 ((s74 n (⟨2,zaq (za9 [(zad zaa),(zad to)])⟩:(Sl Int))).1.Net.Ties.get)) (And.intro (rfl:((false,1,false,[none]):MQ)=(false,1,false,[none])) hc)) (zaI hs λ hc hs=>And.intro hc hk)))))))) (λ hs hk=>(zaI hs λ hc hs=>And.intro (And.intro (zE enc_40 4 n.Ties.get) (And.intro ((zdv []):IsE zad 1 1 (za9 [(zad zaa),(zad to)])) hc)) (zc hs hk (λ hs hk=>hk) (λ hs hk=>(absurd hs dqk:False))))))
def zHQ : List PA → COut
  | [.agg [.int .i64 zaf,.sl zae zaw zac],.one (.int .i64 a1),.one (.int .i64 a2)]=>.det (IsE enc_40 4 zaw zac/\p30 (⟨zaf,(⟨zae,zai zac⟩:(Sl Tie))⟩:Net) a1 a2=true) [.agg [.int .i64 (((s30 (⟨zaf,(⟨zae,zai zac⟩:(Sl Tie))⟩:Net) a1 a2).1).Low),.int .i64 (((s30 (⟨zaf,(⟨zae,zai zac⟩:(Sl Tie))⟩:Net) a1 a2).1).High)],.one (.int .i64 ((s30 (⟨zaf,(⟨zae,zai zac⟩:(Sl Tie))⟩:Net) a1 a2).2))]
  | _=>.no
theorem zLm:zav Tryd.prog 30:=⟨_,rfl,rfl,by kernel_rfl⟩
theorem zPe:Ok Tryd.prog 30 zHQ:=zbx zND zLm λ args K h=>by
  unfold zHQ at h
  split at h
  · rename_i zaf zae zaw zac a1 a2
    obtain⟨⟨⟨rfl,zak,rfl⟩,hs⟩,hk⟩:=h
    try rw[zaj zak] at hs
    try rw[zaj zak] at hk
    exact⟨(λ _ _=>[]),(λ _=>false),zLl,q30 (⟨zaf,(⟨zae,zak⟩:(Sl Tie))⟩:Net) a1 a2 K hs hk⟩
  · exact h.elim
abbrev T77:Tabs:=Tabs.nil
theorem zNE:TabsOk Tryd.prog T77:=TabsOk.nil
abbrev G77:Ctrs:=csm T77 (λ _ _=>[]) (λ _=>false)
def zHR:Ann:=⟨50,[(0,zK [1] [1]),(1,zK [1,3] [1]),(2,zK [1,3,4] [1]),(3,zK [1,3,4,10] [1,32]),(4,zK [1,3,4] [1,32]),(5,zK [1,3,4,5] [1,5,32]),(6,zK [1,3,4,5,20] [1,5,32]),(7,zK [1,3,4,5] [1,5,32]),(8,zK [1,3,4,5,35] [1,5,32]),(9,zK [1,3,4] [1,32]),(10,zK [2] [32])],
 [(3,⟨[1,3,4],[1,32],[(3,32,121,λ _=>zbM default)],[],[],[],[]⟩)],
 [(8,⟨[1,3,4,5],[1,5,32],[(3,32,121,λ _=>zbM default)],[],[],[],[]⟩)],
 [],[]⟩
abbrev R77:=(Sl Step)
abbrev e77 (r:R77):List PA:=[.one (.sl r.len 5 (λ i=>zbM (r.get i)))]
@[irreducible] def z77:=ptF Tryd.prog G77 zHR Tryd.f77
def zEg (n:Net) (iv0:Int) (zc8:(Sl Step)) (zgp:Nat->List PV):St:=⟨[(1,zp 1 0),(3,zv 32),(4,zI iv0)],[(1,.box 24 (zm (enc_24 n))),(32,.vec 121 5 40 zc8.len zgp)],[]⟩
abbrev zHS (K:List PA->Prop) (n:Net) (X:St->Prop) (P:Int->(Sl Step)->Bool) (S:Int->(Sl Step)->(Sl Step)):Prop:=∀ ⦃iv0:Int⦄ ⦃zc8:(Sl Step)⦄ ⦃zgp:Nat->List PV⦄,P iv0 zc8=true->K (e77 (S iv0 zc8))->zgp=zg zbM zc8->X (zEg n iv0 zc8 zgp)
section
variable {K:List PA->Prop}{n:Net}{iv0:Int}{zc8:(Sl Step)}{zgp:Nat->List PV}{X0:St->Prop}{P0:Int->(Sl Step)->Bool}{S0:Int->(Sl Step)->(Sl Step)}{iv1:Int}{zpv:Int}{zpw:Int}{zlJ:Int}{zz1:Int}{zgq:(Sl Step)}{zz2:Nat->List PV}
def znW (S0:Int->(Sl Step)->(Sl Step)) (n:Net) (iv1:Int) (zpv:Int) (zpw:Int) (zlJ:Int) (zz1:Int) (zgq:(Sl Step)):(Sl Step) :=
  (cond (zlJ != (-1000000000000:Int))
 (S0 (w64 (iv1+(1:Int))) (⟨(zgq.len+1),(zdm zgq.len zgq.get (λ _=>(⟨zpw,zpv,(w64 (0 - zlJ)),(⟨iv1,true⟩:Use)⟩:Step)))⟩:Sl Step))
 (S0 (w64 (iv1+(1:Int))) zgq))
def znX (P0:Int->(Sl Step)->Bool) (n:Net) (iv1:Int) (zpv:Int) (zpw:Int) (zlJ:Int) (zz1:Int) (zgq:(Sl Step)):Bool :=
  (cond (zlJ != (-1000000000000:Int))
 (decide (((zgq.len+1) * 40<=140737488355328/\zgq.len+1<=9223372036854775807)) &&
 (P0 (w64 (iv1+(1:Int))) (⟨(zgq.len+1),(zdm zgq.len zgq.get (λ _=>(⟨zpw,zpv,(w64 (0 - zlJ)),(⟨iv1,true⟩:Use)⟩:Step)))⟩:Sl Step)))
 (P0 (w64 (iv1+(1:Int))) zgq))
theorem zz3 (hX0:zHS K n X0 P0 S0) (hs:znX P0 n iv1 zpv zpw zlJ zz1 zgq=true) (hk:K (e77 (znW S0 n iv1 zpv zpw zlJ zz1 zgq))) (zHT:zz2=zg zbM zgq):z77 K [1,1,0,1,0,0,1,0,0,1,1] [X0] ⟨[(1,zp 1 0),(3,zv 32),(4,zI iv1),(5,zp 5 0)],[(1,.box 24 (zm (enc_24 n))),(5,.box 40 (zm (enc_40 (⟨zpv,zpw,zlJ,zz1⟩:Tie)))),(32,.vec 121 5 40 zgq.len zz2)],[]⟩:=by subst zHT;exact zaW (by kernel_rfl) (zc hs hk (λ hs hk=>(zaI hs λ hc hs=>And.intro hc (hX0 hs hk (zjx (enc:=zbM) (f:=zgq.get) (h:=(λ _=>(⟨zpw,zpv,(w64 (0 - zlJ)),(⟨iv1,true⟩:Use)⟩:Step))) rfl rfl)))) (λ hs hk=>(hX0 hs hk rfl)))
def zi5 (n:Net) (S0:Int->(Sl Step)->(Sl Step)) (iv0:Int) (zc8:(Sl Step)):(Sl Step) :=
  (cond (decide (iv0 < (n.Ties.len : Int)))
 (cond ((n.Ties.get iv0.toNat).High != (1000000000000:Int))
 (znW S0 n iv0 ((n.Ties.get iv0.toNat).From) ((n.Ties.get iv0.toNat).To) ((n.Ties.get iv0.toNat).Low) ((n.Ties.get iv0.toNat).High) (⟨(zc8.len+1),(zdm zc8.len zc8.get (λ _=>(⟨(n.Ties.get iv0.toNat).From,(n.Ties.get iv0.toNat).To,(n.Ties.get iv0.toNat).High,(⟨iv0,false⟩:Use)⟩:Step)))⟩:Sl Step))
 (znW S0 n iv0 ((n.Ties.get iv0.toNat).From) ((n.Ties.get iv0.toNat).To) ((n.Ties.get iv0.toNat).Low) ((n.Ties.get iv0.toNat).High) zc8))
 zc8)
def zi6 (n:Net) (P0:Int->(Sl Step)->Bool) (iv0:Int) (zc8:(Sl Step)):Bool :=
  (cond (decide (iv0 < (n.Ties.len : Int)))
 (decide ((0<=iv0/\iv0 < (n.Ties.len:Int))) &&
 (cond ((n.Ties.get iv0.toNat).High != (1000000000000:Int))
 (decide (((zc8.len+1) * 40<=140737488355328/\zc8.len+1<=9223372036854775807)) &&
 (znX P0 n iv0 ((n.Ties.get iv0.toNat).From) ((n.Ties.get iv0.toNat).To) ((n.Ties.get iv0.toNat).Low) ((n.Ties.get iv0.toNat).High) (⟨(zc8.len+1),(zdm zc8.len zc8.get (λ _=>(⟨(n.Ties.get iv0.toNat).From,(n.Ties.get iv0.toNat).To,(n.Ties.get iv0.toNat).High,(⟨iv0,false⟩:Use)⟩:Step)))⟩:Sl Step)))
 (znX P0 n iv0 ((n.Ties.get iv0.toNat).From) ((n.Ties.get iv0.toNat).To) ((n.Ties.get iv0.toNat).Low) ((n.Ties.get iv0.toNat).High) zc8)))
 true)
def zdS (n:Net):Nat->Int->(Sl Step)->(Sl Step):=lpO (λ _ _=>default) (zi5 n)
def zdT (n:Net):Nat->Int->(Sl Step)->Bool:=lpO (λ _ _=>false) (zi6 n)
def zz4 (n:Net) (iv0:Int) (zc8:(Sl Step)):(Sl Step):=zdS n Fuel iv0 zc8
def zz5 (n:Net) (iv0:Int) (zc8:(Sl Step)):Bool:=zdT n Fuel iv0 zc8
theorem zHU (hs:zz5 n iv0 zc8=true) (hk:K (e77 (zz4 n iv0 zc8))) (zrX:zgp=zg zbM zc8):z77 K [1,1,0,1,0] [] (zEg n iv0 zc8 zgp) :=
  zl (λ X=>z77 K [1,1,0,1,0,0] [X]) (by kernel_rfl) λ X0 hX =>
  (show ∀ k, zHS K n X0 (zdT n k) (zdS n k) from zeH _ _ (zi6 n) (zi5 n) (zHS K n X0)
 (by intro _ _ _ hs;exact absurd hs dqk)
 (by intro P0 S0 hX0 iv0 zc8 zgp hs hk zrX;subst zrX;exact hX _ (zaW (by kernel_rfl) (zc hs hk (λ hs hk=>(zaI hs λ hc hs=>And.intro hc (zc hs hk (λ hs hk=>(zaI hs λ hc hs=>And.intro hc (zz3 hX0 hs hk (zjx (enc:=zbM) (f:=zc8.get) (h:=(λ _=>(⟨(n.Ties.get iv0.toNat).From,(n.Ties.get iv0.toNat).To,(n.Ties.get iv0.toNat).High,(⟨iv0,false⟩:Use)⟩:Step))) rfl rfl)))) (λ hs hk=>(zz3 hX0 hs hk rfl))))) (λ hs hk=>hk))))) _ hs hk zrX
def s77 (n:Net):(Sl Step) :=
  (zz4 n (0:Int) (⟨0,(λ _=>default)⟩:Sl Step))
def p77 (n:Net):Bool :=
  (zz5 n (0:Int) (⟨0,(λ _=>default)⟩:Sl Step))
end
theorem q77 (n:Net) (K:List PA->Prop) (hs:p77 n=true) (hk:K (e77 (s77 n))):vcFun Tryd.prog G77 zHR 77 [.agg (enc_24 n)] K :=
  zaW (by kernel_rfl) (zHU hs hk rfl)
def zu8 : List PA → COut
  | [.agg [.int .i64 zaf,.sl zae zaw zac]]=>.det (IsE enc_40 4 zaw zac/\p77 (⟨zaf,(⟨zae,zai zac⟩:(Sl Tie))⟩:Net)=true) [.one (.sl ((s77 (⟨zaf,(⟨zae,zai zac⟩:(Sl Tie))⟩:Net)).len) 5 (λ i=>zbM ((s77 (⟨zaf,(⟨zae,zai zac⟩:(Sl Tie))⟩:Net)).get i)))]
  | _=>.no
theorem zLn:zav Tryd.prog 77:=⟨_,rfl,rfl,by kernel_rfl⟩
theorem zMr:Ok Tryd.prog 77 zu8:=zbx zNE zLn λ args K h=>by
  unfold zu8 at h
  split at h
  · rename_i zaf zae zaw zac
    obtain⟨⟨⟨rfl,zak,rfl⟩,hs⟩,hk⟩:=h
    try rw[zaj zak] at hs
    try rw[zaj zak] at hk
    exact⟨(λ _ _=>[]),(λ _=>false),zHR,q77 (⟨zaf,(⟨zae,zak⟩:(Sl Tie))⟩:Net) K hs hk⟩
  · exact h.elim
abbrev T31:Tabs:=(Tabs.nil.addF 77 zu8)
theorem zNF:TabsOk Tryd.prog T31:=(TabsOk.nil.addF zMr)
abbrev G31:Ctrs:=csm T31 (λ _ _=>[]) (λ _=>false)
def zHV:Ann:=⟨67,[(0,zK [1] [1]),(1,zK [1,3] [1]),(2,zK [1,3,4] [1,14]),(3,zK [1,3,4,5] [1,14]),(4,zK [1,3,4,5,6] [1,14]),(5,zK [1,3,4,5,6,21] [1]),(6,zK [1,3,4,5,6] [1,25]),(7,zK [1,3,4,5,6] [1]),(8,zK [1,3,4,5,6,7] [1,25]),(9,zK [1,3,4,5,6,7,8] [1,25]),(10,zK [1,3,4,5,6,7,8,29] [1,25]),(11,zK [1,3,4,5,6,7,8] [1,25]),(12,zK [1,3,4,5,6,7,8,9] [1,25]),(13,zK [1,3,4,5,6,7,8,9,55] [1,25]),(14,zK [1,3,4,5,6,7,8] [1,25]),(15,zK [1,3,4,5,6] [1,25]),(16,zK [2] [])],
 [(5,⟨[1,3,4,5,6],[1],[],[],[],[],[(4,1,λ _=>zad default)]⟩),(10,zK [1,3,4,5,6,7,8] [1,25])],
 [(2,zK [1,3] [1])],
 [],[]⟩
abbrev R31:=Bool
abbrev e31 (r:R31):List PA:=[.one (.bool r)]
@[irreducible] def z31:=ptF Tryd.prog G31 zHV Tryd.f31
def zEh (n:Net) (lv0:(Sl Step)) (zcr:(Sl Int)) (zaG:Bool) (rv1:Int) (zeP:Nat->List PV):St:=⟨[(1,zp 1 0),(3,zS zbM 5 lv0),(4,zP (.sl zcr.len 1 zeP)),(5,zB zaG),(6,zI rv1)],[(1,.box 24 (zm (enc_24 n)))],[]⟩
abbrev zHW (K:List PA->Prop) (n:Net) (lv0:(Sl Step)) (X:St->Prop) (P:(Sl Int)->Bool->Int->Bool) (S:(Sl Int)->Bool->Int->Bool):Prop:=∀ ⦃zcr:(Sl Int)⦄ ⦃zaG:Bool⦄ ⦃rv1:Int⦄ ⦃zeP:Nat->List PV⦄,P zcr zaG rv1=true->K (e31 (S zcr zaG rv1))->zeP=zg zad zcr->X (zEh n lv0 zcr zaG rv1 zeP)
def zEi (n:Net) (lv0:(Sl Step)) (zbX:(Sl Int)) (zax:Bool) (rv2:Int) (iv2:Int) (zcN:(Sl Int)) (zeQ:Nat->List PV) (zgr:Nat->List PV):St:=⟨[(1,zp 1 0),(3,zS zbM 5 lv0),(4,zP (.sl zbX.len 1 zeQ)),(5,zB zax),(6,zI rv2),(7,zv 25),(8,zI iv2)],[(1,.box 24 (zm (enc_24 n))),(25,.vec 3 1 8 zcN.len zgr)],[]⟩
abbrev zLo (K:List PA->Prop) (n:Net) (lv0:(Sl Step)) (X:St->Prop) (P:(Sl Int)->Bool->Int->Int->(Sl Int)->Bool) (S:(Sl Int)->Bool->Int->Int->(Sl Int)->Bool):Prop:=∀ ⦃zbX:(Sl Int)⦄ ⦃zax:Bool⦄ ⦃rv2:Int⦄ ⦃iv2:Int⦄ ⦃zcN:(Sl Int)⦄ ⦃zeQ:Nat->List PV⦄ ⦃zgr:Nat->List PV⦄,P zbX zax rv2 iv2 zcN=true->K (e31 (S zbX zax rv2 iv2 zcN))->zeQ=zg zad zbX->zgr=zg zad zcN->X (zEi n lv0 zbX zax rv2 iv2 zcN zeQ zgr)
section
variable {K:List PA->Prop}{n:Net}{lv0:(Sl Step)}{zpx:Nat->List PV}{zcr:(Sl Int)}{zaG:Bool}{rv1:Int}{zeP:Nat->List PV}{X1:St->Prop}{P1:(Sl Int)->Bool->Int->Bool}{S1:(Sl Int)->Bool->Int->Bool}{zbX:(Sl Int)}{zax:Bool}{rv2:Int}{iv2:Int}{zcN:(Sl Int)}{zeQ:Nat->List PV}{zgr:Nat->List PV}{X2:St->Prop}{P2:(Sl Int)->Bool->Int->Int->(Sl Int)->Bool}{S2:(Sl Int)->Bool->Int->Int->(Sl Int)->Bool}
def zi7 (S1:(Sl Int)->Bool->Int->Bool) (n:Net) (lv0:(Sl Step)) (S2:(Sl Int)->Bool->Int->Int->(Sl Int)->Bool) (zbX:(Sl Int)) (zax:Bool) (rv2:Int) (iv2:Int) (zcN:(Sl Int)):Bool :=
  (cond (decide (iv2 < (lv0.len : Int)))
 (cond (decide ((w64 ((zbX.get (((lv0.get iv2.toNat).From).toNat)) + (lv0.get iv2.toNat).Length)) < (zcN.get (((lv0.get iv2.toNat).To).toNat))))
 (S2 zbX true rv2 (w64 (iv2+(1:Int))) (⟨zcN.len,(setT (((lv0.get iv2.toNat).To).toNat) (w64 ((zbX.get (((lv0.get iv2.toNat).From).toNat))+(lv0.get iv2.toNat).Length)) zcN.get)⟩:Sl Int))
 (S2 zbX zax rv2 (w64 (iv2+(1:Int))) zcN))
 (S1 zcN zax (w64 (rv2+(1:Int)))))
def zi8 (P1:(Sl Int)->Bool->Int->Bool) (n:Net) (lv0:(Sl Step)) (P2:(Sl Int)->Bool->Int->Int->(Sl Int)->Bool) (zbX:(Sl Int)) (zax:Bool) (rv2:Int) (iv2:Int) (zcN:(Sl Int)):Bool :=
  (cond (decide (iv2 < (lv0.len : Int)))
 (decide ((0<=iv2/\iv2 < (lv0.len:Int))) &&
 (decide ((0<=(lv0.get iv2.toNat).From/\(lv0.get iv2.toNat).From < (zbX.len:Int))) &&
 (decide ((0<=iv2/\iv2 < (lv0.len:Int))) &&
 (decide ((0<=iv2/\iv2 < (lv0.len:Int))) &&
 (decide ((0<=(lv0.get iv2.toNat).To/\(lv0.get iv2.toNat).To < (zcN.len:Int))) &&
 (decide ((((lv0.get iv2.toNat).To).toNat < zcN.len)) &&
 (cond (decide ((w64 ((zbX.get (((lv0.get iv2.toNat).From).toNat)) + (lv0.get iv2.toNat).Length)) < (zcN.get (((lv0.get iv2.toNat).To).toNat))))
 (decide ((0<=iv2/\iv2 < (lv0.len:Int))) &&
 (decide ((0<=(lv0.get iv2.toNat).To/\(lv0.get iv2.toNat).To < (zcN.len:Int))) &&
 (decide ((((lv0.get iv2.toNat).To).toNat < zcN.len)) &&
 (P2 zbX true rv2 (w64 (iv2+(1:Int))) (⟨zcN.len,(setT (((lv0.get iv2.toNat).To).toNat) (w64 ((zbX.get (((lv0.get iv2.toNat).From).toNat))+(lv0.get iv2.toNat).Length)) zcN.get)⟩:Sl Int)))))
 (P2 zbX zax rv2 (w64 (iv2+(1:Int))) zcN))))))))
 (P1 zcN zax (w64 (rv2+(1:Int)))))
def zfv (S1:(Sl Int)->Bool->Int->Bool) (n:Net) (lv0:(Sl Step)):Nat->(Sl Int)->Bool->Int->Int->(Sl Int)->Bool:=lpO (λ _ _ _ _ _=>default) (zi7 S1 n lv0)
def zfw (P1:(Sl Int)->Bool->Int->Bool) (n:Net) (lv0:(Sl Step)):Nat->(Sl Int)->Bool->Int->Int->(Sl Int)->Bool:=lpO (λ _ _ _ _ _=>false) (zi8 P1 n lv0)
def zz6 (S1:(Sl Int)->Bool->Int->Bool) (n:Net) (lv0:(Sl Step)) (zbX:(Sl Int)) (zax:Bool) (rv2:Int) (iv2:Int) (zcN:(Sl Int)):Bool:=zfv S1 n lv0 Fuel zbX zax rv2 iv2 zcN
def zz7 (P1:(Sl Int)->Bool->Int->Bool) (n:Net) (lv0:(Sl Step)) (zbX:(Sl Int)) (zax:Bool) (rv2:Int) (iv2:Int) (zcN:(Sl Int)):Bool:=zfw P1 n lv0 Fuel zbX zax rv2 iv2 zcN
theorem zHX (hX1:zHW K n lv0 X1 P1 S1) (hs:zz7 P1 n lv0 zbX zax rv2 iv2 zcN=true) (hk:K (e31 (zz6 S1 n lv0 zbX zax rv2 iv2 zcN))) (znY:zeQ=zg zad zbX) (zrY:zgr=zg zad zcN):z31 K [1,1,1,1,0,1,0,0,1,0,0,1,1,0,1,0] [X1] (zEi n lv0 zbX zax rv2 iv2 zcN zeQ zgr) :=
  zl (λ X=>z31 K [1,1,1,1,0,1,0,0,1,0,0,1,1,0,1,0,0] [X1,X]) (by kernel_rfl) λ X2 hX =>
  (show ∀ k, zLo K n lv0 X2 (zfw P1 n lv0 k) (zfv S1 n lv0 k) from zeH _ _ (zi8 P1 n lv0) (zi7 S1 n lv0) (zLo K n lv0 X2)
 (by intro _ _ _ _ _ _ _ hs;exact absurd hs dqk)
 (by intro P2 S2 hX2 zbX zax rv2 iv2 zcN zeQ zgr hs hk znY zrY;subst znY;subst zrY;exact hX _ (zaW (by kernel_rfl) (zc hs hk (λ hs hk=>(zaI hs λ hc hs=>And.intro hc (zaI hs λ hc hs=>And.intro hc (zaI hs λ hc hs=>And.intro hc (zaI hs λ hc hs=>And.intro hc (zaI hs λ hc hs=>And.intro hc (zaI hs λ hc hs=>And.intro hc (zc hs hk (λ hs hk=>(zaI hs λ hc hs=>And.intro hc (zaI hs λ hc hs=>And.intro hc (zaI hs λ hc hs=>And.intro hc (hX2 hs hk rfl (zfU (enc:=zad) (i:=((lv0.get iv2.toNat).To).toNat) (k:=0) (f:=zcN.get) (new:=(zad (w64 ((zbX.get (((lv0.get iv2.toNat).From).toNat))+(lv0.get iv2.toNat).Length)))) (v:=(w64 ((zbX.get (((lv0.get iv2.toNat).From).toNat))+(lv0.get iv2.toNat).Length))) rfl rfl)))))) (λ hs hk=>(hX2 hs hk rfl rfl)))))))))) (λ hs hk=>(hX1 hs hk rfl)))))) _ hs hk znY zrY
def zgs (n:Net) (lv0:(Sl Step)) (S1:(Sl Int)->Bool->Int->Bool) (zcr:(Sl Int)) (zaG:Bool) (rv1:Int):Bool :=
  (cond (decide (rv1 < n.Nodes))
 (cond zaG
 (zz6 S1 n lv0 zcr false rv1 (0:Int) zcr)
 (!zaG))
 (!zaG))
def zgt (n:Net) (lv0:(Sl Step)) (P1:(Sl Int)->Bool->Int->Bool) (zcr:(Sl Int)) (zaG:Bool) (rv1:Int):Bool :=
  (cond (decide (rv1 < n.Nodes))
 (cond zaG
 (decide ((zcr.len * 8<=140737488355328/\zcr.len<=9223372036854775807)) &&
 (zz7 P1 n lv0 zcr false rv1 (0:Int) zcr))
 true)
 true)
def zhs (n:Net) (lv0:(Sl Step)):Nat->(Sl Int)->Bool->Int->Bool:=lpO (λ _ _ _=>default) (zgs n lv0)
def zht (n:Net) (lv0:(Sl Step)):Nat->(Sl Int)->Bool->Int->Bool:=lpO (λ _ _ _=>false) (zgt n lv0)
def zz8 (n:Net) (lv0:(Sl Step)) (zcr:(Sl Int)) (zaG:Bool) (rv1:Int):Bool:=zhs n lv0 Fuel zcr zaG rv1
def zz9 (n:Net) (lv0:(Sl Step)) (zcr:(Sl Int)) (zaG:Bool) (rv1:Int):Bool:=zht n lv0 Fuel zcr zaG rv1
theorem zHY (hs:zz9 n lv0 zcr zaG rv1=true) (hk:K (e31 (zz8 n lv0 zcr zaG rv1))) (znZ:zeP=zg zad zcr):z31 K [1,1,1,1,0,1,0] [] (zEh n lv0 zcr zaG rv1 zeP) :=
  zl (λ X=>z31 K [1,1,1,1,0,1,0,0] [X]) (by kernel_rfl) λ X1 hX =>
  (show ∀ k, zHW K n lv0 X1 (zht n lv0 k) (zhs n lv0 k) from zeH _ _ (zgt n lv0) (zgs n lv0) (zHW K n lv0 X1)
 (by intro _ _ _ _ hs;exact absurd hs dqk)
 (by intro P1 S1 hX1 zcr zaG rv1 zeP hs hk znZ;subst znZ;exact hX _ (zaW (by kernel_rfl) (zc hs hk (λ hs hk=>(zc hs hk (λ hs hk=>(zaI hs λ hc hs=>And.intro hc (zHX hX1 hs hk rfl rfl))) (λ hs hk=>hk))) (λ hs hk=>hk))))) _ hs hk znZ
def zAa (n:Net) (lv0:(Sl Step)):Bool :=
  (zz8 n lv0 (⟨n.Nodes.toNat,(λ _=>(0:Int))⟩:Sl Int) true (0:Int))
def zrZ (n:Net) (lv0:(Sl Step)):Bool :=
  (decide ((0<=n.Nodes/\n.Nodes=n.Nodes/\n.Nodes<=1000000)) &&
 (zz9 n lv0 (⟨n.Nodes.toNat,(λ _=>(0:Int))⟩:Sl Int) true (0:Int)))
theorem zHZ (hs:zrZ n lv0=true) (hk:K (e31 (zAa n lv0))) (zAb:zpx=zg zbM lv0):z31 K [1,1] [] ⟨[(1,zp 1 0),(3,zP (.sl lv0.len 5 zpx))],[(1,.box 24 (zm (enc_24 n)))],[]⟩:=by subst zAb;exact zaW (by kernel_rfl) (zaI hs λ hc hs=>And.intro hc (zHY hs hk rfl))
def s31 (n:Net):Bool :=
  (zAa n (s77 n))
def p31 (n:Net):Bool :=
  (decide ((p77 n=true)) &&
 (zrZ n (s77 n)))
end
theorem q31 (n:Net) (K:List PA->Prop) (hs:p31 n=true) (hk:K (e31 (s31 n))):vcFun Tryd.prog G31 zHV 31 [.agg (enc_24 n)] K :=
  zaW (by kernel_rfl) (zaI hs λ hc hs=>And.intro (And.intro (zE enc_40 4 n.Ties.get) hc) (zHZ hs hk rfl))
def zH0 : List PA → COut
  | [.agg [.int .i64 zaf,.sl zae zaw zac]]=>.det (IsE enc_40 4 zaw zac/\p31 (⟨zaf,(⟨zae,zai zac⟩:(Sl Tie))⟩:Net)=true) [.one (.bool (s31 (⟨zaf,(⟨zae,zai zac⟩:(Sl Tie))⟩:Net)))]
  | _=>.no
theorem zLp:zav Tryd.prog 31:=⟨_,rfl,rfl,by kernel_rfl⟩
theorem zPf:Ok Tryd.prog 31 zH0:=zbx zNF zLp λ args K h=>by
  unfold zH0 at h
  split at h
  · rename_i zaf zae zaw zac
    obtain⟨⟨⟨rfl,zak,rfl⟩,hs⟩,hk⟩:=h
    try rw[zaj zak] at hs
    try rw[zaj zak] at hk
    exact⟨(λ _ _=>[]),(λ _=>false),zHV,q31 (⟨zaf,(⟨zae,zak⟩:(Sl Tie))⟩:Net) K hs hk⟩
  · exact h.elim
abbrev T90:Tabs:=(Tabs.nil.addF 77 zu8)
theorem zNG:TabsOk Tryd.prog T90:=(TabsOk.nil.addF zMr)
abbrev G90:Ctrs:=csm T90 (λ _ _=>[]) (λ l=>Nat.beq l 19)
def zH1:Ann:=⟨115,[(0,zK [1,2,3,4] [4]),(1,zK [1,2,3,4,9] [4]),(2,zK [1,2,3,4,9,10] [4,19]),(3,zK [1,2,3,4,9,10,11] [4,19]),(4,zK [1,2,3,4,9,10,11,22] [4,19]),(5,zK [1,2,3,4,9,10,11] [4,19]),(6,zK [1,2,3,4,9,10,11] [4,19]),(7,zK [1,2,3,4,9,10,11,12] [4,19]),(8,zK [1,2,3,4,9,10,11,12,34] [4,19]),(9,zK [1,2,3,4,9,10,11,12] [4,19]),(10,zK [1,2,3,4,9,10,11,12] [4,19]),(11,zK [1,2,3,4,9,10,11,13] [4,19]),(12,zK [1,2,3,4,9,10,11,13,50] [4,19]),(13,zK [1,2,3,4,9,10,11,13] [4,19]),(14,zK [1,2,3,4,9,10,11,13,14] [4,14,19]),(15,zK [1,2,3,4,9,10,11,13,14,78] [4,14,19]),(16,zK [1,2,3,4,9,10,11,13] [4,19]),(17,zK [1,2,3,4,9,10,11,108] [4,19]),(18,zK [1,2,3,4,9,10,11] [4,19]),(19,zK [8] [19])],
 [(4,zK [1,2,3,4,9,10,11] [4,19]),(8,zK [1,2,3,4,9,10,11,12] [4,19]),(12,zK [1,2,3,4,9,10,11,13] [4,19])],
 [(2,zK [1,2,3,4,9] [4]),(11,zK [1,2,3,4,9,10,11] [4,19])],
 [],[]⟩
abbrev R90:=(Sl (Sl Int))
abbrev e90 (r:R90):List PA:=[.one (.sl r.len 1 (λ i=>zbH (r.get i)))]
@[irreducible] def z90:=ptF Tryd.prog G90 zH1 Tryd.f90
def zEj (n:Net) (end_a1:Int) (uses:Int) (least:Int) (lv0:(Sl Step)) (rv1:Int) (zdK:(Sl (Sl Int))) (zgu:Nat->Nat) (zgv:Nat->Nat->List PV):St:=⟨[(1,zI end_a1),(2,zI uses),(3,zI least),(4,zp 4 0),(9,zS zbM 5 lv0),(10,zv 19),(11,zI rv1)],[(4,.box 24 (zm (enc_24 n))),(19,.vv 27 24 3 1 8 zdK.len zgu zgv)],[]⟩
abbrev zAc (K:List PA->Prop) (n:Net) (end_a1:Int) (uses:Int) (least:Int) (lv0:(Sl Step)) (X:St->Prop) (P:Int->(Sl (Sl Int))->Bool) (S:Int->(Sl (Sl Int))->(Sl (Sl Int))):Prop:=∀ ⦃rv1:Int⦄ ⦃zdK:(Sl (Sl Int))⦄ ⦃zgu:Nat->Nat⦄ ⦃zgv:Nat->Nat->List PV⦄,P rv1 zdK=true->K (e90 (S rv1 zdK))->VVE zad zgu zgv zdK.get->X (zEj n end_a1 uses least lv0 rv1 zdK zgu zgv)
def zEk (n:Net) (end_a1:Int) (uses:Int) (least:Int) (lv0:(Sl Step)) (rv2:Int) (iv2:Int) (zcS:(Sl (Sl Int))) (zgw:Nat->Nat) (zgx:Nat->Nat->List PV):St:=⟨[(1,zI end_a1),(2,zI uses),(3,zI least),(4,zp 4 0),(9,zS zbM 5 lv0),(10,zv 19),(11,zI rv2),(12,zI iv2)],[(4,.box 24 (zm (enc_24 n))),(19,.vv 27 24 3 1 8 zcS.len zgw zgx)],[]⟩
abbrev zLq (K:List PA->Prop) (n:Net) (end_a1:Int) (uses:Int) (least:Int) (lv0:(Sl Step)) (X:St->Prop) (P:Int->Int->(Sl (Sl Int))->Bool) (S:Int->Int->(Sl (Sl Int))->(Sl (Sl Int))):Prop:=∀ ⦃rv2:Int⦄ ⦃iv2:Int⦄ ⦃zcS:(Sl (Sl Int))⦄ ⦃zgw:Nat->Nat⦄ ⦃zgx:Nat->Nat->List PV⦄,P rv2 iv2 zcS=true->K (e90 (S rv2 iv2 zcS))->VVE zad zgw zgx zcS.get->X (zEk n end_a1 uses least lv0 rv2 iv2 zcS zgw zgx)
def zEl (n:Net) (end_a1:Int) (uses:Int) (least:Int) (lv0:(Sl Step)) (rv4:Int) (iv4:Int) (zaQ:(Sl (Sl Int))) (zgy:Nat->Nat) (zgz:Nat->Nat->List PV):St:=⟨[(1,zI end_a1),(2,zI uses),(3,zI least),(4,zp 4 0),(9,zS zbM 5 lv0),(10,zv 19),(11,zI rv4),(13,zI iv4)],[(4,.box 24 (zm (enc_24 n))),(19,.vv 27 24 3 1 8 zaQ.len zgy zgz)],[]⟩
abbrev zLr (K:List PA->Prop) (n:Net) (end_a1:Int) (uses:Int) (least:Int) (lv0:(Sl Step)) (X:St->Prop) (P:Int->Int->(Sl (Sl Int))->Bool) (S:Int->Int->(Sl (Sl Int))->(Sl (Sl Int))):Prop:=∀ ⦃rv4:Int⦄ ⦃iv4:Int⦄ ⦃zaQ:(Sl (Sl Int))⦄ ⦃zgy:Nat->Nat⦄ ⦃zgz:Nat->Nat->List PV⦄,P rv4 iv4 zaQ=true->K (e90 (S rv4 iv4 zaQ))->VVE zad zgy zgz zaQ.get->X (zEl n end_a1 uses least lv0 rv4 iv4 zaQ zgy zgz)
section
variable {K:List PA->Prop}{n:Net}{end_a1:Int}{uses:Int}{least:Int}{lv0:(Sl Step)}{zpx:Nat->List PV}{rv1:Int}{zdK:(Sl (Sl Int))}{zgu:Nat->Nat}{zgv:Nat->Nat->List PV}{X1:St->Prop}{P1:Int->(Sl (Sl Int))->Bool}{S1:Int->(Sl (Sl Int))->(Sl (Sl Int))}{rv2:Int}{iv2:Int}{zcS:(Sl (Sl Int))}{zgw:Nat->Nat}{zgx:Nat->Nat->List PV}{X2:St->Prop}{P2:Int->Int->(Sl (Sl Int))->Bool}{S2:Int->Int->(Sl (Sl Int))->(Sl (Sl Int))}{rv3:Int}{zpy:(Sl (Sl Int))}{zAd:Nat->Nat}{zAe:Nat->Nat->List PV}{rv4:Int}{iv4:Int}{zaQ:(Sl (Sl Int))}{zgy:Nat->Nat}{zgz:Nat->Nat->List PV}{X4:St->Prop}{P4:Int->Int->(Sl (Sl Int))->Bool}{S4:Int->Int->(Sl (Sl Int))->(Sl (Sl Int))}
def zgA (S1:Int->(Sl (Sl Int))->(Sl (Sl Int))) (n:Net) (end_a1:Int) (uses:Int) (least:Int) (lv0:(Sl Step)) (S4:Int->Int->(Sl (Sl Int))->(Sl (Sl Int))) (rv4:Int) (iv4:Int) (zaQ:(Sl (Sl Int))):(Sl (Sl Int)) :=
  (cond (decide (iv4 < (lv0.len : Int)))
 (cond (decide (rv4 > (0:Int)))
 (cond (decide ((lv0.get iv4.toNat).From < least))
 (S4 rv4 (w64 (iv4+(1:Int))) zaQ)
 (cond (decide ((lv0.get iv4.toNat).To < least))
 (S4 rv4 (w64 (iv4+(1:Int))) zaQ)
 (cond (((zaQ.get ((w64 (rv4 - (1:Int))).toNat)).get (((lv0.get iv4.toNat).To).toNat)) == (1000000000000:Int))
 (S4 rv4 (w64 (iv4+(1:Int))) zaQ)
 (S4 rv4 (w64 (iv4+(1:Int))) (⟨zaQ.len,(zk2 rv4.toNat (((lv0.get iv4.toNat).From).toNat) (if (w64 ((lv0.get iv4.toNat).Length+((zaQ.get ((w64 (rv4 - (1:Int))).toNat)).get (((lv0.get iv4.toNat).To).toNat)))) < ((zaQ.get rv4.toNat).get (((lv0.get iv4.toNat).From).toNat)) then (w64 ((lv0.get iv4.toNat).Length+((zaQ.get ((w64 (rv4 - (1:Int))).toNat)).get (((lv0.get iv4.toNat).To).toNat)))) else ((zaQ.get rv4.toNat).get (((lv0.get iv4.toNat).From).toNat))) zaQ.get)⟩:Sl (Sl Int))))))
 (cond (rv4 == (0:Int))
 (S1 (w64 (rv4+(1:Int))) (⟨zaQ.len,(zk2 0 end_a1.toNat (0:Int) zaQ.get)⟩:Sl (Sl Int)))
 (S1 (w64 (rv4+(1:Int))) zaQ)))
 (cond (rv4 == (0:Int))
 (S1 (w64 (rv4+(1:Int))) (⟨zaQ.len,(zk2 0 end_a1.toNat (0:Int) zaQ.get)⟩:Sl (Sl Int)))
 (S1 (w64 (rv4+(1:Int))) zaQ)))
def zgB (P1:Int->(Sl (Sl Int))->Bool) (n:Net) (end_a1:Int) (uses:Int) (least:Int) (lv0:(Sl Step)) (P4:Int->Int->(Sl (Sl Int))->Bool) (rv4:Int) (iv4:Int) (zaQ:(Sl (Sl Int))):Bool :=
  (cond (decide (iv4 < (lv0.len : Int)))
 (cond (decide (rv4 > (0:Int)))
 (decide ((0<=iv4/\iv4 < (lv0.len:Int))) &&
 (cond (decide ((lv0.get iv4.toNat).From < least))
 (P4 rv4 (w64 (iv4+(1:Int))) zaQ)
 (cond (decide ((lv0.get iv4.toNat).To < least))
 (P4 rv4 (w64 (iv4+(1:Int))) zaQ)
 (decide ((0<=(w64 (rv4 - (1:Int)))/\(w64 (rv4 - (1:Int))) < (zaQ.len:Int))) &&
 (decide (((w64 (rv4 - (1:Int))).toNat < zaQ.len/\0 < (λ i=>(zaQ.get i).len) ((w64 (rv4 - (1:Int))).toNat))) &&
 (decide (((w64 (rv4 - (1:Int))).toNat < zaQ.len/\0<=(lv0.get iv4.toNat).To/\(lv0.get iv4.toNat).To < (((λ i=>(zaQ.get i).len) ((w64 (rv4 - (1:Int))).toNat):Nat):Int))) &&
 (decide (((w64 (rv4 - (1:Int))).toNat < zaQ.len/\((lv0.get iv4.toNat).To).toNat < (λ i=>(zaQ.get i).len) ((w64 (rv4 - (1:Int))).toNat))) &&
 (cond (((zaQ.get ((w64 (rv4 - (1:Int))).toNat)).get (((lv0.get iv4.toNat).To).toNat)) == (1000000000000:Int))
 (P4 rv4 (w64 (iv4+(1:Int))) zaQ)
 (decide ((0<=rv4/\rv4 < (zaQ.len:Int))) &&
 (decide ((rv4.toNat < zaQ.len/\0 < (λ i=>(zaQ.get i).len) rv4.toNat)) &&
 (decide ((0<=rv4/\rv4 < (zaQ.len:Int))) &&
 (decide ((rv4.toNat < zaQ.len/\0 < (λ i=>(zaQ.get i).len) rv4.toNat)) &&
 (decide ((rv4.toNat < zaQ.len/\0<=(lv0.get iv4.toNat).From/\(lv0.get iv4.toNat).From < (((λ i=>(zaQ.get i).len) rv4.toNat:Nat):Int))) &&
 (decide ((rv4.toNat < zaQ.len/\((lv0.get iv4.toNat).From).toNat < (λ i=>(zaQ.get i).len) rv4.toNat)) &&
 (decide ((0<=(w64 (rv4 - (1:Int)))/\(w64 (rv4 - (1:Int))) < (zaQ.len:Int))) &&
 (decide (((w64 (rv4 - (1:Int))).toNat < zaQ.len/\0 < (λ i=>(zaQ.get i).len) ((w64 (rv4 - (1:Int))).toNat))) &&
 (decide (((w64 (rv4 - (1:Int))).toNat < zaQ.len/\0<=(lv0.get iv4.toNat).To/\(lv0.get iv4.toNat).To < (((λ i=>(zaQ.get i).len) ((w64 (rv4 - (1:Int))).toNat):Nat):Int))) &&
 (decide (((w64 (rv4 - (1:Int))).toNat < zaQ.len/\((lv0.get iv4.toNat).To).toNat < (λ i=>(zaQ.get i).len) ((w64 (rv4 - (1:Int))).toNat))) &&
 (decide ((rv4.toNat < zaQ.len/\0<=(lv0.get iv4.toNat).From/\(lv0.get iv4.toNat).From < (((λ i=>(zaQ.get i).len) rv4.toNat:Nat):Int))) &&
 (decide ((rv4.toNat < zaQ.len/\((lv0.get iv4.toNat).From).toNat < (λ i=>(zaQ.get i).len) rv4.toNat)) &&
 (P4 rv4 (w64 (iv4+(1:Int))) (⟨zaQ.len,(zk2 rv4.toNat (((lv0.get iv4.toNat).From).toNat) (if (w64 ((lv0.get iv4.toNat).Length+((zaQ.get ((w64 (rv4 - (1:Int))).toNat)).get (((lv0.get iv4.toNat).To).toNat)))) < ((zaQ.get rv4.toNat).get (((lv0.get iv4.toNat).From).toNat)) then (w64 ((lv0.get iv4.toNat).Length+((zaQ.get ((w64 (rv4 - (1:Int))).toNat)).get (((lv0.get iv4.toNat).To).toNat)))) else ((zaQ.get rv4.toNat).get (((lv0.get iv4.toNat).From).toNat))) zaQ.get)⟩:Sl (Sl Int)))))))))))))))))))))))
 (cond (rv4 == (0:Int))
 (decide ((0<=(0:Int)/\(0:Int) < (zaQ.len:Int))) &&
 (decide ((0 < zaQ.len/\0 < (λ i=>(zaQ.get i).len) 0)) &&
 (decide ((0 < zaQ.len/\0<=end_a1/\end_a1 < (((λ i=>(zaQ.get i).len) 0:Nat):Int))) &&
 (decide ((0 < zaQ.len/\end_a1.toNat < (λ i=>(zaQ.get i).len) 0)) &&
 (P1 (w64 (rv4+(1:Int))) (⟨zaQ.len,(zk2 0 end_a1.toNat (0:Int) zaQ.get)⟩:Sl (Sl Int)))))))
 (P1 (w64 (rv4+(1:Int))) zaQ)))
 (cond (rv4 == (0:Int))
 (decide ((0<=(0:Int)/\(0:Int) < (zaQ.len:Int))) &&
 (decide ((0 < zaQ.len/\0 < (λ i=>(zaQ.get i).len) 0)) &&
 (decide ((0 < zaQ.len/\0<=end_a1/\end_a1 < (((λ i=>(zaQ.get i).len) 0:Nat):Int))) &&
 (decide ((0 < zaQ.len/\end_a1.toNat < (λ i=>(zaQ.get i).len) 0)) &&
 (P1 (w64 (rv4+(1:Int))) (⟨zaQ.len,(zk2 0 end_a1.toNat (0:Int) zaQ.get)⟩:Sl (Sl Int)))))))
 (P1 (w64 (rv4+(1:Int))) zaQ)))
def zen (S1:Int->(Sl (Sl Int))->(Sl (Sl Int))) (n:Net) (end_a1:Int) (uses:Int) (least:Int) (lv0:(Sl Step)):Nat->Int->Int->(Sl (Sl Int))->(Sl (Sl Int)):=lpO (λ _ _ _=>default) (zgA S1 n end_a1 uses least lv0)
def zeo (P1:Int->(Sl (Sl Int))->Bool) (n:Net) (end_a1:Int) (uses:Int) (least:Int) (lv0:(Sl Step)):Nat->Int->Int->(Sl (Sl Int))->Bool:=lpO (λ _ _ _=>false) (zgB P1 n end_a1 uses least lv0)
def zAf (S1:Int->(Sl (Sl Int))->(Sl (Sl Int))) (n:Net) (end_a1:Int) (uses:Int) (least:Int) (lv0:(Sl Step)) (rv4:Int) (iv4:Int) (zaQ:(Sl (Sl Int))):(Sl (Sl Int)):=zen S1 n end_a1 uses least lv0 Fuel rv4 iv4 zaQ
def zAg (P1:Int->(Sl (Sl Int))->Bool) (n:Net) (end_a1:Int) (uses:Int) (least:Int) (lv0:(Sl Step)) (rv4:Int) (iv4:Int) (zaQ:(Sl (Sl Int))):Bool:=zeo P1 n end_a1 uses least lv0 Fuel rv4 iv4 zaQ
theorem zH2 (hX1:zAc K n end_a1 uses least lv0 X1 P1 S1) (hs:zAg P1 n end_a1 uses least lv0 rv4 iv4 zaQ=true) (hk:K (e90 (zAf S1 n end_a1 uses least lv0 rv4 iv4 zaQ))) (zr0:VVE zad zgy zgz zaQ.get):z90 K [1,1,1,0,1,0,0,1,0,0,1,1,0,1,0] [X1] (zEl n end_a1 uses least lv0 rv4 iv4 zaQ zgy zgz) :=
  zl (λ X=>z90 K [1,1,1,0,1,0,0,1,0,0,1,1,0,1,0,0] [X1,X]) (by kernel_rfl) λ X4 hX =>
  (show ∀ k, zLr K n end_a1 uses least lv0 X4 (zeo P1 n end_a1 uses least lv0 k) (zen S1 n end_a1 uses least lv0 k) from zeH _ _ (zgB P1 n end_a1 uses least lv0) (zgA S1 n end_a1 uses least lv0) (zLr K n end_a1 uses least lv0 X4)
 (by intro _ _ _ _ _ hs;exact absurd hs dqk)
 (by intro P4 S4 hX4 rv4 iv4 zaQ zgy zgz hs hk zr0;obtain⟨rfl,rfl⟩:=zr0;exact hX _ (zaW (by kernel_rfl) (zc hs hk (λ hs hk=>(zc hs hk (λ hs hk=>(zaI hs λ hc hs=>And.intro hc (zc hs hk (λ hs hk=>(hX4 hs hk zjN)) (λ hs hk=>(zc hs hk (λ hs hk=>(hX4 hs hk zjN)) (λ hs hk=>(zaI hs λ hc hs=>And.intro hc (zaI hs λ hc hs=>And.intro hc (zaI hs λ hc hs=>And.intro hc (zaI hs λ hc hs=>And.intro hc (zc hs hk (λ hs hk=>(hX4 hs hk zjN)) (λ hs hk=>(zaI hs λ hc hs=>And.intro hc (zaI hs λ hc hs=>And.intro hc (zaI hs λ hc hs=>And.intro hc (zaI hs λ hc hs=>And.intro hc (zaI hs λ hc hs=>And.intro hc (zaI hs λ hc hs=>And.intro hc (zaI hs λ hc hs=>And.intro hc (zaI hs λ hc hs=>And.intro hc (zaI hs λ hc hs=>And.intro hc (zaI hs λ hc hs=>And.intro hc (zaI hs λ hc hs=>And.intro hc (zaI hs λ hc hs=>And.intro hc (hX4 hs hk (znb (enc:=zad) (i:=rv4.toNat) (j:=((lv0.get iv4.toNat).From).toNat) (k:=0) (f:=zaQ.get) (new:=[.int .i64 (if (w64 ((lv0.get iv4.toNat).Length+((zaQ.get ((w64 (rv4 - (1:Int))).toNat)).get (((lv0.get iv4.toNat).To).toNat)))) < ((zaQ.get rv4.toNat).get (((lv0.get iv4.toNat).From).toNat)) then (w64 ((lv0.get iv4.toNat).Length+((zaQ.get ((w64 (rv4 - (1:Int))).toNat)).get (((lv0.get iv4.toNat).To).toNat)))) else ((zaQ.get rv4.toNat).get (((lv0.get iv4.toNat).From).toNat)))]) (v:=(if (w64 ((lv0.get iv4.toNat).Length+((zaQ.get ((w64 (rv4 - (1:Int))).toNat)).get (((lv0.get iv4.toNat).To).toNat)))) < ((zaQ.get rv4.toNat).get (((lv0.get iv4.toNat).From).toNat)) then (w64 ((lv0.get iv4.toNat).Length+((zaQ.get ((w64 (rv4 - (1:Int))).toNat)).get (((lv0.get iv4.toNat).To).toNat)))) else ((zaQ.get rv4.toNat).get (((lv0.get iv4.toNat).From).toNat)))) zjN rfl)))))))))))))))))))))))))) (λ hs hk=>(zc hs hk (λ hs hk=>(zaI hs λ hc hs=>And.intro hc (zaI hs λ hc hs=>And.intro hc (zaI hs λ hc hs=>And.intro hc (zaI hs λ hc hs=>And.intro hc (hX1 hs hk (znb (enc:=zad) (i:=0) (j:=end_a1.toNat) (k:=0) (f:=zaQ.get) (new:=[.int .i64 (0:Int)]) (v:=(0:Int)) zjN rfl))))))) (λ hs hk=>(hX1 hs hk zjN)))))) (λ hs hk=>(zc hs hk (λ hs hk=>(zaI hs λ hc hs=>And.intro hc (zaI hs λ hc hs=>And.intro hc (zaI hs λ hc hs=>And.intro hc (zaI hs λ hc hs=>And.intro hc (hX1 hs hk (znb (enc:=zad) (i:=0) (j:=end_a1.toNat) (k:=0) (f:=zaQ.get) (new:=[.int .i64 (0:Int)]) (v:=(0:Int)) zjN rfl))))))) (λ hs hk=>(hX1 hs hk zjN)))))))) _ hs hk zr0
def zi9 (S1:Int->(Sl (Sl Int))->(Sl (Sl Int))) (n:Net) (end_a1:Int) (uses:Int) (least:Int) (lv0:(Sl Step)) (rv3:Int) (zpy:(Sl (Sl Int))):(Sl (Sl Int)) :=
  (zAf S1 n end_a1 uses least lv0 rv3 (0:Int) zpy)
def zja (P1:Int->(Sl (Sl Int))->Bool) (n:Net) (end_a1:Int) (uses:Int) (least:Int) (lv0:(Sl Step)) (rv3:Int) (zpy:(Sl (Sl Int))):Bool :=
  (zAg P1 n end_a1 uses least lv0 rv3 (0:Int) zpy)
theorem zH3 (hX1:zAc K n end_a1 uses least lv0 X1 P1 S1) (hs:zja P1 n end_a1 uses least lv0 rv3 zpy=true) (hk:K (e90 (zi9 S1 n end_a1 uses least lv0 rv3 zpy))) (zH4:VVE zad zAd zAe zpy.get):z90 K [1,1,1,0,1,0,0,1,0,0,1,1] [X1] ⟨[(1,zI end_a1),(2,zI uses),(3,zI least),(4,zp 4 0),(9,zS zbM 5 lv0),(10,zv 19),(11,zI rv3)],[(4,.box 24 (zm (enc_24 n))),(19,.vv 27 24 3 1 8 zpy.len zAd zAe)],[]⟩:=by obtain⟨rfl,rfl⟩:=zH4;exact zaW (by kernel_rfl) (zH2 hX1 hs hk zjN)
def zjb (S1:Int->(Sl (Sl Int))->(Sl (Sl Int))) (n:Net) (end_a1:Int) (uses:Int) (least:Int) (lv0:(Sl Step)) (S2:Int->Int->(Sl (Sl Int))->(Sl (Sl Int))) (rv2:Int) (iv2:Int) (zcS:(Sl (Sl Int))):(Sl (Sl Int)) :=
  (cond (decide (iv2 < n.Nodes))
 (S2 rv2 (w64 (iv2+(1:Int))) (⟨zcS.len,(zk2 rv2.toNat iv2.toNat (1000000000000:Int) zcS.get)⟩:Sl (Sl Int)))
 (zi9 S1 n end_a1 uses least lv0 rv2 zcS))
def zjc (P1:Int->(Sl (Sl Int))->Bool) (n:Net) (end_a1:Int) (uses:Int) (least:Int) (lv0:(Sl Step)) (P2:Int->Int->(Sl (Sl Int))->Bool) (rv2:Int) (iv2:Int) (zcS:(Sl (Sl Int))):Bool :=
  (cond (decide (iv2 < n.Nodes))
 (decide ((0<=rv2/\rv2 < (zcS.len:Int))) &&
 (decide ((rv2.toNat < zcS.len/\0 < (λ i=>(zcS.get i).len) rv2.toNat)) &&
 (decide ((rv2.toNat < zcS.len/\0<=iv2/\iv2 < (((λ i=>(zcS.get i).len) rv2.toNat:Nat):Int))) &&
 (decide ((rv2.toNat < zcS.len/\iv2.toNat < (λ i=>(zcS.get i).len) rv2.toNat)) &&
 (P2 rv2 (w64 (iv2+(1:Int))) (⟨zcS.len,(zk2 rv2.toNat iv2.toNat (1000000000000:Int) zcS.get)⟩:Sl (Sl Int)))))))
 (zja P1 n end_a1 uses least lv0 rv2 zcS))
def zhu (S1:Int->(Sl (Sl Int))->(Sl (Sl Int))) (n:Net) (end_a1:Int) (uses:Int) (least:Int) (lv0:(Sl Step)):Nat->Int->Int->(Sl (Sl Int))->(Sl (Sl Int)):=lpO (λ _ _ _=>default) (zjb S1 n end_a1 uses least lv0)
def zhv (P1:Int->(Sl (Sl Int))->Bool) (n:Net) (end_a1:Int) (uses:Int) (least:Int) (lv0:(Sl Step)):Nat->Int->Int->(Sl (Sl Int))->Bool:=lpO (λ _ _ _=>false) (zjc P1 n end_a1 uses least lv0)
def zAh (S1:Int->(Sl (Sl Int))->(Sl (Sl Int))) (n:Net) (end_a1:Int) (uses:Int) (least:Int) (lv0:(Sl Step)) (rv2:Int) (iv2:Int) (zcS:(Sl (Sl Int))):(Sl (Sl Int)):=zhu S1 n end_a1 uses least lv0 Fuel rv2 iv2 zcS
def zAi (P1:Int->(Sl (Sl Int))->Bool) (n:Net) (end_a1:Int) (uses:Int) (least:Int) (lv0:(Sl Step)) (rv2:Int) (iv2:Int) (zcS:(Sl (Sl Int))):Bool:=zhv P1 n end_a1 uses least lv0 Fuel rv2 iv2 zcS
theorem zH5 (hX1:zAc K n end_a1 uses least lv0 X1 P1 S1) (hs:zAi P1 n end_a1 uses least lv0 rv2 iv2 zcS=true) (hk:K (e90 (zAh S1 n end_a1 uses least lv0 rv2 iv2 zcS))) (zr1:VVE zad zgw zgx zcS.get):z90 K [1,1,1,0,1,0,0,1,0,0,1,0,1,0] [X1] (zEk n end_a1 uses least lv0 rv2 iv2 zcS zgw zgx) :=
  zl (λ X=>z90 K [1,1,1,0,1,0,0,1,0,0,1,0,1,0,0] [X1,X]) (by kernel_rfl) λ X2 hX =>
  (show ∀ k, zLq K n end_a1 uses least lv0 X2 (zhv P1 n end_a1 uses least lv0 k) (zhu S1 n end_a1 uses least lv0 k) from zeH _ _ (zjc P1 n end_a1 uses least lv0) (zjb S1 n end_a1 uses least lv0) (zLq K n end_a1 uses least lv0 X2)
 (by intro _ _ _ _ _ hs;exact absurd hs dqk)
 (by intro P2 S2 hX2 rv2 iv2 zcS zgw zgx hs hk zr1;obtain⟨rfl,rfl⟩:=zr1;exact hX _ (zaW (by kernel_rfl) (zc hs hk (λ hs hk=>(zaI hs λ hc hs=>And.intro hc (zaI hs λ hc hs=>And.intro hc (zaI hs λ hc hs=>And.intro hc (zaI hs λ hc hs=>And.intro hc (hX2 hs hk (znb (enc:=zad) (i:=rv2.toNat) (j:=iv2.toNat) (k:=0) (f:=zcS.get) (new:=[.int .i64 (1000000000000:Int)]) (v:=(1000000000000:Int)) zjN rfl))))))) (λ hs hk=>(zH3 hX1 hs hk zjN)))))) _ hs hk zr1
def zjd (n:Net) (end_a1:Int) (uses:Int) (least:Int) (lv0:(Sl Step)) (S1:Int->(Sl (Sl Int))->(Sl (Sl Int))) (rv1:Int) (zdK:(Sl (Sl Int))):(Sl (Sl Int)) :=
  (cond (decide (rv1 <= uses))
 (zAh S1 n end_a1 uses least lv0 rv1 (0:Int) (⟨zdK.len,(setT rv1.toNat (⟨n.Nodes.toNat,(λ _=>(0:Int))⟩:Sl Int) zdK.get)⟩:Sl (Sl Int)))
 zdK)
def zje (n:Net) (end_a1:Int) (uses:Int) (least:Int) (lv0:(Sl Step)) (P1:Int->(Sl (Sl Int))->Bool) (rv1:Int) (zdK:(Sl (Sl Int))):Bool :=
  (cond (decide (rv1 <= uses))
 (decide ((0<=n.Nodes/\n.Nodes=n.Nodes/\n.Nodes<=1000000)) &&
 (decide ((0<=rv1/\rv1 < (zdK.len:Int))) &&
 (decide ((rv1.toNat < zdK.len/\(λ i=>(zdK.get i).len) rv1.toNat=0/\0 < n.Nodes.toNat)) &&
 (zAi P1 n end_a1 uses least lv0 rv1 (0:Int) (⟨zdK.len,(setT rv1.toNat (⟨n.Nodes.toNat,(λ _=>(0:Int))⟩:Sl Int) zdK.get)⟩:Sl (Sl Int))))))
 true)
def zb0 (n:Net) (end_a1:Int) (uses:Int) (least:Int) (lv0:(Sl Step)):Nat->Int->(Sl (Sl Int))->(Sl (Sl Int)):=lpO (λ _ _=>default) (zjd n end_a1 uses least lv0)
def zb1 (n:Net) (end_a1:Int) (uses:Int) (least:Int) (lv0:(Sl Step)):Nat->Int->(Sl (Sl Int))->Bool:=lpO (λ _ _=>false) (zje n end_a1 uses least lv0)
def zAj (n:Net) (end_a1:Int) (uses:Int) (least:Int) (lv0:(Sl Step)) (rv1:Int) (zdK:(Sl (Sl Int))):(Sl (Sl Int)):=zb0 n end_a1 uses least lv0 Fuel rv1 zdK
def zAk (n:Net) (end_a1:Int) (uses:Int) (least:Int) (lv0:(Sl Step)) (rv1:Int) (zdK:(Sl (Sl Int))):Bool:=zb1 n end_a1 uses least lv0 Fuel rv1 zdK
theorem zH6 (hs:zAk n end_a1 uses least lv0 rv1 zdK=true) (hk:K (e90 (zAj n end_a1 uses least lv0 rv1 zdK))) (zr2:VVE zad zgu zgv zdK.get):z90 K [1,1,1,0,1,0] [] (zEj n end_a1 uses least lv0 rv1 zdK zgu zgv) :=
  zl (λ X=>z90 K [1,1,1,0,1,0,0] [X]) (by kernel_rfl) λ X1 hX =>
  (show ∀ k, zAc K n end_a1 uses least lv0 X1 (zb1 n end_a1 uses least lv0 k) (zb0 n end_a1 uses least lv0 k) from zeH _ _ (zje n end_a1 uses least lv0) (zjd n end_a1 uses least lv0) (zAc K n end_a1 uses least lv0 X1)
 (by intro _ _ _ _ hs;exact absurd hs dqk)
 (by intro P1 S1 hX1 rv1 zdK zgu zgv hs hk zr2;obtain⟨rfl,rfl⟩:=zr2;exact hX _ (zaW (by kernel_rfl) (zc hs hk (λ hs hk=>(zaI hs λ hc hs=>And.intro hc (zaI hs λ hc hs=>And.intro hc (zaI hs λ hc hs=>And.intro hc (zH5 hX1 hs hk (zFm zjN rfl)))))) (λ hs hk=>hk))))) _ hs hk zr2
def zr3 (n:Net) (end_a1:Int) (uses:Int) (least:Int) (lv0:(Sl Step)):(Sl (Sl Int)) :=
  (zAj n end_a1 uses least lv0 (0:Int) (⟨(w64 (uses+(1:Int))).toNat,(λ _=>⟨0,λ _=>default⟩)⟩:Sl (Sl Int)))
def zr4 (n:Net) (end_a1:Int) (uses:Int) (least:Int) (lv0:(Sl Step)):Bool :=
  (decide ((0<=(w64 (uses+(1:Int)))/\(w64 (uses+(1:Int)))=(w64 (uses+(1:Int)))/\(w64 (uses+(1:Int)))<=1000000)) &&
 (zAk n end_a1 uses least lv0 (0:Int) (⟨(w64 (uses+(1:Int))).toNat,(λ _=>⟨0,λ _=>default⟩)⟩:Sl (Sl Int))))
theorem zH7 (hs:zr4 n end_a1 uses least lv0=true) (hk:K (e90 (zr3 n end_a1 uses least lv0))) (zAb:zpx=zg zbM lv0):z90 K [1,1] [] ⟨[(1,zI end_a1),(2,zI uses),(3,zI least),(4,zp 4 0),(9,zP (.sl lv0.len 5 zpx))],[(4,.box 24 (zm (enc_24 n)))],[]⟩:=by subst zAb;exact zaW (by kernel_rfl) (zaI hs λ hc hs=>And.intro hc (zH6 hs hk zME))
def s90 (n:Net) (end_a1:Int) (uses:Int) (least:Int):(Sl (Sl Int)) :=
  (zr3 n end_a1 uses least (s77 n))
def p90 (n:Net) (end_a1:Int) (uses:Int) (least:Int):Bool :=
  (decide ((p77 n=true)) &&
 (zr4 n end_a1 uses least (s77 n)))
end
theorem q90 (n:Net) (end_a1:Int) (uses:Int) (least:Int) (K:List PA->Prop) (hs:p90 n end_a1 uses least=true) (hk:K (e90 (s90 n end_a1 uses least))):vcFun Tryd.prog G90 zH1 90 [.agg (enc_24 n),.one (.int .i64 end_a1),.one (.int .i64 uses),.one (.int .i64 least)] K :=
  zaW (by kernel_rfl) (zaI hs λ hc hs=>And.intro (And.intro (zE enc_40 4 n.Ties.get) hc) (zH7 hs hk rfl))
def zH8 : List PA → COut
  | [.agg [.int .i64 zaf,.sl zae zaw zac],.one (.int .i64 a1),.one (.int .i64 a2),.one (.int .i64 a3)]=>.det (IsE enc_40 4 zaw zac/\p90 (⟨zaf,(⟨zae,zai zac⟩:(Sl Tie))⟩:Net) a1 a2 a3=true) [.one (.sl ((s90 (⟨zaf,(⟨zae,zai zac⟩:(Sl Tie))⟩:Net) a1 a2 a3).len) 1 (λ i=>zbH ((s90 (⟨zaf,(⟨zae,zai zac⟩:(Sl Tie))⟩:Net) a1 a2 a3).get i)))]
  | _=>.no
theorem zLs:zav Tryd.prog 90:=⟨_,rfl,rfl,by kernel_rfl⟩
theorem zPg:Ok Tryd.prog 90 zH8:=zbx zNG zLs λ args K h=>by
  unfold zH8 at h
  split at h
  · rename_i zaf zae zaw zac a1 a2 a3
    obtain⟨⟨⟨rfl,zak,rfl⟩,hs⟩,hk⟩:=h
    try rw[zaj zak] at hs
    try rw[zaj zak] at hk
    exact⟨(λ _ _=>[]),(λ l=>Nat.beq l 19),zH1,q90 (⟨zaf,(⟨zae,zak⟩:(Sl Tie))⟩:Net) a1 a2 a3 K hs hk⟩
  · exact h.elim
abbrev T46:Tabs:=(Tabs.nil.addF 77 zu8)
theorem zNH:TabsOk Tryd.prog T46:=(TabsOk.nil.addF zMr)
abbrev G46:Ctrs:=csm T46 (λ _ _=>[]) (λ _=>false)
def zH9:Ann:=⟨79,[(0,zK [1,2] [2]),(1,zK [1,2,5] [2]),(2,zK [1,2,5,6] [2,15]),(3,zK [1,2,5,6,7] [2,15]),(4,zK [1,2,5,6,7,19] [2,15]),(5,zK [1,2,5,6,7] [2,15]),(6,zK [1,2,5,6,7] [2,15]),(7,zK [5,6] [15]),(8,zK [5,6,8] [15]),(9,zK [5,6,28] [15]),(10,zK [5,6,8] [15]),(11,zK [5,6,8,9] [15]),(12,zK [5,6,8,9,32] [15]),(13,zK [5,6,8,9] [15]),(14,zK [5,6,8,9,10] [15]),(15,zK [5,6,8,9,10,69] [15]),(16,zK [5,6,8,9] [15]),(17,zK [4] [15])],
 [(4,zK [1,2,5,6,7] [2,15]),(9,zK [5,6,8] [15]),(12,zK [5,6,8,9] [15])],
 [(2,zK [1,2,5] [2]),(7,zK [1,5,6] [15])],
 [],[]⟩
abbrev R46:=(Sl Int)
abbrev e46 (r:R46):List PA:=[.one (.sl r.len 1 (λ i=>zad (r.get i)))]
@[irreducible] def z46:=ptF Tryd.prog G46 zH9 Tryd.f46
def zEm (n:Net) (zaa:Int) (lv0:(Sl Step)) (iv1:Int) (zbA:(Sl Int)) (zcA:Nat->List PV):St:=⟨[(1,zI zaa),(2,zp 2 0),(5,zS zbM 5 lv0),(6,zv 15),(7,zI iv1)],[(2,.box 24 (zm (enc_24 n))),(15,.vec 3 1 8 zbA.len zcA)],[]⟩
abbrev zLt (K:List PA->Prop) (n:Net) (zaa:Int) (lv0:(Sl Step)) (X:St->Prop) (P:Int->(Sl Int)->Bool) (S:Int->(Sl Int)->(Sl Int)):Prop:=∀ ⦃iv1:Int⦄ ⦃zbA:(Sl Int)⦄ ⦃zcA:Nat->List PV⦄,P iv1 zbA=true->K (e46 (S iv1 zbA))->zcA=zg zad zbA->X (zEm n zaa lv0 iv1 zbA zcA)
def zEn (lv0:(Sl Step)) (zal:Bool) (zbY:(Sl Int)) (zcB:Nat->List PV):St:=⟨[(5,zS zbM 5 lv0),(6,zv 15),(8,zB zal)],[(15,.vec 3 1 8 zbY.len zcB)],[]⟩
abbrev zIa (K:List PA->Prop) (lv0:(Sl Step)) (X:St->Prop) (P:Bool->(Sl Int)->Bool) (S:Bool->(Sl Int)->(Sl Int)):Prop:=∀ ⦃zal:Bool⦄ ⦃zbY:(Sl Int)⦄ ⦃zcB:Nat->List PV⦄,P zal zbY=true->K (e46 (S zal zbY))->zcB=zg zad zbY->X (zEn lv0 zal zbY zcB)
def zEo (lv0:(Sl Step)) (zbi:Bool) (iv4:Int) (zaH:(Sl Int)) (zci:Nat->List PV):St:=⟨[(5,zS zbM 5 lv0),(6,zv 15),(8,zB zbi),(9,zI iv4)],[(15,.vec 3 1 8 zaH.len zci)],[]⟩
abbrev zLu (K:List PA->Prop) (lv0:(Sl Step)) (X:St->Prop) (P:Bool->Int->(Sl Int)->Bool) (S:Bool->Int->(Sl Int)->(Sl Int)):Prop:=∀ ⦃zbi:Bool⦄ ⦃iv4:Int⦄ ⦃zaH:(Sl Int)⦄ ⦃zci:Nat->List PV⦄,P zbi iv4 zaH=true->K (e46 (S zbi iv4 zaH))->zci=zg zad zaH->X (zEo lv0 zbi iv4 zaH zci)
section
variable {K:List PA->Prop}{n:Net}{zaa:Int}{lv0:(Sl Step)}{zpx:Nat->List PV}{iv1:Int}{zbA:(Sl Int)}{zcA:Nat->List PV}{X1:St->Prop}{P1:Int->(Sl Int)->Bool}{S1:Int->(Sl Int)->(Sl Int)}{zc0:(Sl Int)}{zla:Nat->List PV}{zal:Bool}{zbY:(Sl Int)}{zcB:Nat->List PV}{X3:St->Prop}{P3:Bool->(Sl Int)->Bool}{S3:Bool->(Sl Int)->(Sl Int)}{zbi:Bool}{iv4:Int}{zaH:(Sl Int)}{zci:Nat->List PV}{X4:St->Prop}{P4:Bool->Int->(Sl Int)->Bool}{S4:Bool->Int->(Sl Int)->(Sl Int)}
def zjf (S3:Bool->(Sl Int)->(Sl Int)) (lv0:(Sl Step)) (S4:Bool->Int->(Sl Int)->(Sl Int)) (zbi:Bool) (iv4:Int) (zaH:(Sl Int)):(Sl Int) :=
  (cond (decide (iv4 < (lv0.len : Int)))
 (cond ((zaH.get (((lv0.get iv4.toNat).From).toNat)) != (1000000000000:Int))
 (cond (decide ((w64 ((zaH.get (((lv0.get iv4.toNat).From).toNat)) + (lv0.get iv4.toNat).Length)) < (zaH.get (((lv0.get iv4.toNat).To).toNat))))
 (S4 true (w64 (iv4+(1:Int))) (⟨zaH.len,(setT (((lv0.get iv4.toNat).To).toNat) (w64 ((zaH.get (((lv0.get iv4.toNat).From).toNat))+(lv0.get iv4.toNat).Length)) zaH.get)⟩:Sl Int))
 (S4 zbi (w64 (iv4+(1:Int))) zaH))
 (S4 zbi (w64 (iv4+(1:Int))) zaH))
 (S3 zbi zaH))
def zjg (P3:Bool->(Sl Int)->Bool) (lv0:(Sl Step)) (P4:Bool->Int->(Sl Int)->Bool) (zbi:Bool) (iv4:Int) (zaH:(Sl Int)):Bool :=
  (cond (decide (iv4 < (lv0.len : Int)))
 (decide ((0<=iv4/\iv4 < (lv0.len:Int))) &&
 (decide ((0<=(lv0.get iv4.toNat).From/\(lv0.get iv4.toNat).From < (zaH.len:Int))) &&
 (decide ((((lv0.get iv4.toNat).From).toNat < zaH.len)) &&
 (decide ((0<=iv4/\iv4 < (lv0.len:Int))) &&
 (decide ((0<=iv4/\iv4 < (lv0.len:Int))) &&
 (decide ((0<=(lv0.get iv4.toNat).From/\(lv0.get iv4.toNat).From < (zaH.len:Int))) &&
 (decide ((((lv0.get iv4.toNat).From).toNat < zaH.len)) &&
 (cond ((zaH.get (((lv0.get iv4.toNat).From).toNat)) != (1000000000000:Int))
 (decide ((0<=iv4/\iv4 < (lv0.len:Int))) &&
 (decide ((0<=(lv0.get iv4.toNat).To/\(lv0.get iv4.toNat).To < (zaH.len:Int))) &&
 (decide ((((lv0.get iv4.toNat).To).toNat < zaH.len)) &&
 (cond (decide ((w64 ((zaH.get (((lv0.get iv4.toNat).From).toNat)) + (lv0.get iv4.toNat).Length)) < (zaH.get (((lv0.get iv4.toNat).To).toNat))))
 (decide ((0<=iv4/\iv4 < (lv0.len:Int))) &&
 (decide ((0<=(lv0.get iv4.toNat).To/\(lv0.get iv4.toNat).To < (zaH.len:Int))) &&
 (decide ((((lv0.get iv4.toNat).To).toNat < zaH.len)) &&
 (P4 true (w64 (iv4+(1:Int))) (⟨zaH.len,(setT (((lv0.get iv4.toNat).To).toNat) (w64 ((zaH.get (((lv0.get iv4.toNat).From).toNat))+(lv0.get iv4.toNat).Length)) zaH.get)⟩:Sl Int)))))
 (P4 zbi (w64 (iv4+(1:Int))) zaH)))))
 (P4 zbi (w64 (iv4+(1:Int))) zaH)))))))))
 (P3 zbi zaH))
def zep (S3:Bool->(Sl Int)->(Sl Int)) (lv0:(Sl Step)):Nat->Bool->Int->(Sl Int)->(Sl Int):=lpO (λ _ _ _=>default) (zjf S3 lv0)
def zeq (P3:Bool->(Sl Int)->Bool) (lv0:(Sl Step)):Nat->Bool->Int->(Sl Int)->Bool:=lpO (λ _ _ _=>false) (zjg P3 lv0)
def zr5 (S3:Bool->(Sl Int)->(Sl Int)) (lv0:(Sl Step)) (zbi:Bool) (iv4:Int) (zaH:(Sl Int)):(Sl Int):=zep S3 lv0 Fuel zbi iv4 zaH
def zr6 (P3:Bool->(Sl Int)->Bool) (lv0:(Sl Step)) (zbi:Bool) (iv4:Int) (zaH:(Sl Int)):Bool:=zeq P3 lv0 Fuel zbi iv4 zaH
theorem zIb (hX3:zIa K lv0 X3 P3 S3) (hs:zr6 P3 lv0 zbi iv4 zaH=true) (hk:K (e46 (zr5 S3 lv0 zbi iv4 zaH))) (zfq:zci=zg zad zaH):z46 K [1,1,1,1,1,0,1,0,0,1,0,1,1,0] [X3] (zEo lv0 zbi iv4 zaH zci) :=
  zl (λ X=>z46 K [1,1,1,1,1,0,1,0,0,1,0,1,1,0,0] [X3,X]) (by kernel_rfl) λ X4 hX =>
  (show ∀ k, zLu K lv0 X4 (zeq P3 lv0 k) (zep S3 lv0 k) from zeH _ _ (zjg P3 lv0) (zjf S3 lv0) (zLu K lv0 X4)
 (by intro _ _ _ _ hs;exact absurd hs dqk)
 (by intro P4 S4 hX4 zbi iv4 zaH zci hs hk zfq;subst zfq;exact hX _ (zaW (by kernel_rfl) (zc hs hk (λ hs hk=>(zaI hs λ hc hs=>And.intro hc (zaI hs λ hc hs=>And.intro hc (zaI hs λ hc hs=>And.intro hc (zaI hs λ hc hs=>And.intro hc (zaI hs λ hc hs=>And.intro hc (zaI hs λ hc hs=>And.intro hc (zaI hs λ hc hs=>And.intro hc (zc hs hk (λ hs hk=>(zaI hs λ hc hs=>And.intro hc (zaI hs λ hc hs=>And.intro hc (zaI hs λ hc hs=>And.intro hc (zc hs hk (λ hs hk=>(zaI hs λ hc hs=>And.intro hc (zaI hs λ hc hs=>And.intro hc (zaI hs λ hc hs=>And.intro hc (hX4 hs hk (zfU (enc:=zad) (i:=((lv0.get iv4.toNat).To).toNat) (k:=0) (f:=zaH.get) (new:=(zad (w64 ((zaH.get (((lv0.get iv4.toNat).From).toNat))+(lv0.get iv4.toNat).Length)))) (v:=(w64 ((zaH.get (((lv0.get iv4.toNat).From).toNat))+(lv0.get iv4.toNat).Length))) rfl rfl)))))) (λ hs hk=>(hX4 hs hk rfl))))))) (λ hs hk=>(hX4 hs hk rfl))))))))))) (λ hs hk=>(hX3 hs hk rfl)))))) _ hs hk zfq
def zln (lv0:(Sl Step)) (S3:Bool->(Sl Int)->(Sl Int)) (zal:Bool) (zbY:(Sl Int)):(Sl Int) :=
  (cond zal
 (zr5 S3 lv0 false (0:Int) zbY)
 zbY)
def zlo (lv0:(Sl Step)) (P3:Bool->(Sl Int)->Bool) (zal:Bool) (zbY:(Sl Int)):Bool :=
  (cond zal
 (zr6 P3 lv0 false (0:Int) zbY)
 true)
def zdd (lv0:(Sl Step)):Nat->Bool->(Sl Int)->(Sl Int):=lpO (λ _ _=>default) (zln lv0)
def zdq (lv0:(Sl Step)):Nat->Bool->(Sl Int)->Bool:=lpO (λ _ _=>false) (zlo lv0)
def zAl (lv0:(Sl Step)) (zal:Bool) (zbY:(Sl Int)):(Sl Int):=zdd lv0 Fuel zal zbY
def zr7 (lv0:(Sl Step)) (zal:Bool) (zbY:(Sl Int)):Bool:=zdq lv0 Fuel zal zbY
theorem zIc (hs:zr7 lv0 zal zbY=true) (hk:K (e46 (zAl lv0 zal zbY))) (zho:zcB=zg zad zbY):z46 K [1,1,1,1,1,0,1,0] [] (zEn lv0 zal zbY zcB) :=
  zl (λ X=>z46 K [1,1,1,1,1,0,1,0,0] [X]) (by kernel_rfl) λ X3 hX =>
  (show ∀ k, zIa K lv0 X3 (zdq lv0 k) (zdd lv0 k) from zeH _ _ (zlo lv0) (zln lv0) (zIa K lv0 X3)
 (by intro _ _ _ hs;exact absurd hs dqk)
 (by intro P3 S3 hX3 zal zbY zcB hs hk zho;subst zho;exact hX _ (zaW (by kernel_rfl) (zc hs hk (λ hs hk=>(zIb hX3 hs hk rfl)) (λ hs hk=>hk))))) _ hs hk zho
def zr8 (zaa:Int) (lv0:(Sl Step)) (zc0:(Sl Int)):(Sl Int) :=
  (zAl lv0 true (⟨zc0.len,(setT zaa.toNat (0:Int) zc0.get)⟩:Sl Int))
def zn0 (zaa:Int) (lv0:(Sl Step)) (zc0:(Sl Int)):Bool :=
  (decide ((0<=zaa/\zaa < (zc0.len:Int))) &&
 (decide ((zaa.toNat < zc0.len)) &&
 (zr7 lv0 true (⟨zc0.len,(setT zaa.toNat (0:Int) zc0.get)⟩:Sl Int))))
theorem zId (hs:zn0 zaa lv0 zc0=true) (hk:K (e46 (zr8 zaa lv0 zc0))) (zqY:zla=zg zad zc0):z46 K [1,1,1,1] [] ⟨[(1,zI zaa),(5,zS zbM 5 lv0),(6,zv 15)],[(15,.vec 3 1 8 zc0.len zla)],[]⟩:=by subst zqY;exact zaW (by kernel_rfl) (zaI hs λ hc hs=>And.intro hc (zaI hs λ hc hs=>And.intro hc (zIc hs hk (zfU (enc:=zad) (i:=zaa.toNat) (k:=0) (f:=zc0.get) (new:=(zad (0:Int))) (v:=(0:Int)) rfl rfl))))
def zjh (n:Net) (zaa:Int) (lv0:(Sl Step)) (S1:Int->(Sl Int)->(Sl Int)) (iv1:Int) (zbA:(Sl Int)):(Sl Int) :=
  (cond (decide (iv1 < n.Nodes))
 (S1 (w64 (iv1+(1:Int))) (⟨zbA.len,(setT iv1.toNat (1000000000000:Int) zbA.get)⟩:Sl Int))
 (zr8 zaa lv0 zbA))
def zji (n:Net) (zaa:Int) (lv0:(Sl Step)) (P1:Int->(Sl Int)->Bool) (iv1:Int) (zbA:(Sl Int)):Bool :=
  (cond (decide (iv1 < n.Nodes))
 (decide ((0<=iv1/\iv1 < (zbA.len:Int))) &&
 (decide ((iv1.toNat < zbA.len)) &&
 (P1 (w64 (iv1+(1:Int))) (⟨zbA.len,(setT iv1.toNat (1000000000000:Int) zbA.get)⟩:Sl Int))))
 (zn0 zaa lv0 zbA))
def zjj (n:Net) (zaa:Int) (lv0:(Sl Step)):Nat->Int->(Sl Int)->(Sl Int):=lpO (λ _ _=>default) (zjh n zaa lv0)
def zjk (n:Net) (zaa:Int) (lv0:(Sl Step)):Nat->Int->(Sl Int)->Bool:=lpO (λ _ _=>false) (zji n zaa lv0)
def zAm (n:Net) (zaa:Int) (lv0:(Sl Step)) (iv1:Int) (zbA:(Sl Int)):(Sl Int):=zjj n zaa lv0 Fuel iv1 zbA
def zAn (n:Net) (zaa:Int) (lv0:(Sl Step)) (iv1:Int) (zbA:(Sl Int)):Bool:=zjk n zaa lv0 Fuel iv1 zbA
theorem zIe (hs:zAn n zaa lv0 iv1 zbA=true) (hk:K (e46 (zAm n zaa lv0 iv1 zbA))) (zhp:zcA=zg zad zbA):z46 K [1,1,1,0,1,0] [] (zEm n zaa lv0 iv1 zbA zcA) :=
  zl (λ X=>z46 K [1,1,1,0,1,0,0] [X]) (by kernel_rfl) λ X1 hX =>
  (show ∀ k, zLt K n zaa lv0 X1 (zjk n zaa lv0 k) (zjj n zaa lv0 k) from zeH _ _ (zji n zaa lv0) (zjh n zaa lv0) (zLt K n zaa lv0 X1)
 (by intro _ _ _ hs;exact absurd hs dqk)
 (by intro P1 S1 hX1 iv1 zbA zcA hs hk zhp;subst zhp;exact hX _ (zaW (by kernel_rfl) (zc hs hk (λ hs hk=>(zaI hs λ hc hs=>And.intro hc (zaI hs λ hc hs=>And.intro hc (hX1 hs hk (zfU (enc:=zad) (i:=iv1.toNat) (k:=0) (f:=zbA.get) (new:=(zad (1000000000000:Int))) (v:=(1000000000000:Int)) rfl rfl))))) (λ hs hk=>(zId hs hk rfl)))))) _ hs hk zhp
def zAo (n:Net) (zaa:Int) (lv0:(Sl Step)):(Sl Int) :=
  (zAm n zaa lv0 (0:Int) (⟨n.Nodes.toNat,(λ _=>(0:Int))⟩:Sl Int))
def zr9 (n:Net) (zaa:Int) (lv0:(Sl Step)):Bool :=
  (decide ((0<=n.Nodes/\n.Nodes=n.Nodes/\n.Nodes<=1000000)) &&
 (zAn n zaa lv0 (0:Int) (⟨n.Nodes.toNat,(λ _=>(0:Int))⟩:Sl Int)))
theorem zIf (hs:zr9 n zaa lv0=true) (hk:K (e46 (zAo n zaa lv0))) (zAb:zpx=zg zbM lv0):z46 K [1,1] [] ⟨[(1,zI zaa),(2,zp 2 0),(5,zP (.sl lv0.len 5 zpx))],[(2,.box 24 (zm (enc_24 n)))],[]⟩:=by subst zAb;exact zaW (by kernel_rfl) (zaI hs λ hc hs=>And.intro hc (zIe hs hk rfl))
def s46 (n:Net) (zaa:Int):(Sl Int) :=
  (zAo n zaa (s77 n))
def p46 (n:Net) (zaa:Int):Bool :=
  (decide ((p77 n=true)) &&
 (zr9 n zaa (s77 n)))
end
theorem q46 (n:Net) (zaa:Int) (K:List PA->Prop) (hs:p46 n zaa=true) (hk:K (e46 (s46 n zaa))):vcFun Tryd.prog G46 zH9 46 [.agg (enc_24 n),.one (.int .i64 zaa)] K :=
  zaW (by kernel_rfl) (zaI hs λ hc hs=>And.intro (And.intro (zE enc_40 4 n.Ties.get) hc) (zIf hs hk rfl))
def zIg : List PA → COut
  | [.agg [.int .i64 zaf,.sl zae zaw zac],.one (.int .i64 a1)]=>.det (IsE enc_40 4 zaw zac/\p46 (⟨zaf,(⟨zae,zai zac⟩:(Sl Tie))⟩:Net) a1=true) [.one (.sl ((s46 (⟨zaf,(⟨zae,zai zac⟩:(Sl Tie))⟩:Net) a1).len) 1 (λ i=>zad ((s46 (⟨zaf,(⟨zae,zai zac⟩:(Sl Tie))⟩:Net) a1).get i)))]
  | _=>.no
theorem zLv:zav Tryd.prog 46:=⟨_,rfl,rfl,by kernel_rfl⟩
theorem zPh:Ok Tryd.prog 46 zIg:=zbx zNH zLv λ args K h=>by
  unfold zIg at h
  split at h
  · rename_i zaf zae zaw zac a1
    obtain⟨⟨⟨rfl,zak,rfl⟩,hs⟩,hk⟩:=h
    try rw[zaj zak] at hs
    try rw[zaj zak] at hk
    exact⟨(λ _ _=>[]),(λ _=>false),zH9,q46 (⟨zaf,(⟨zae,zak⟩:(Sl Tie))⟩:Net) a1 K hs hk⟩
  · exact h.elim
abbrev T55:Tabs:=(((Tabs.nil.addF 46 zIg).addF 77 zu8).addF 90 zH8)
theorem zNI:TabsOk Tryd.prog T55:=(((TabsOk.nil.addF zPh).addF zMr).addF zPg)
abbrev G55:Ctrs:=csm T55 (λ _ _=>[]) (λ _=>false)
def zIh:Ann:=⟨101,[(0,zK [1,2,3] [3]),(1,zK [1,2,3,8] [3]),(2,zK [1,2,3,8,23] [3]),(3,zK [6,7] []),(4,zK [1,3,8,9] [3]),(5,zK [1,3,8,9,10] [3]),(6,zK [1,3,8,9,10,37] [3]),(7,zK [1,3,8,9,10] [3]),(8,zK [1,8,9,10,11] []),(9,zK [1,8,9,10,11,12] []),(10,zK [8,9,10,11,12,13] []),(11,zK [8,9,10,11,12,13,44] [93]),(12,zK [8,9,10,11,12,13] [93]),(13,zK [8,9,10,11,12,13,14] [93]),(14,zK [8,9,10,11,12,13,14,50] [93]),(15,zK [8,9,10,11,12,13,14] [93]),(16,zK [8,9,10,11,12,13,14,15] [15,93]),(17,zK [8,9,10,11,12,13,14,15,88] [15,93]),(18,zK [8,9,10,11,12,15] [15,93]),(19,zK [8,9,10,11,12,13] [93]),(20,zK [6,7] [93])],
 [(6,zK [1,3,8,9,10] [3]),(11,⟨[8,9,10,11,12,13],[93],[(12,93,75,λ _=>zaC default)],[],[],[],[]⟩),(14,zK [8,9,10,11,12,13,14] [93])],
 [(2,zK [1,2,3,8] [3]),(4,zK [1,2,3,8] [3]),(5,zK [1,3,8,9] [3]),(8,zK [1,3,8,9,10] [3]),(9,zK [1,8,9,10,11] [])],
 [],[]⟩
abbrev R55:=((Sl Use)×Bool)
abbrev e55 (r:R55):List PA:=[.one (.sl r.1.len 2 (λ i=>zaC (r.1.get i))),.one (.bool r.2)]
@[irreducible] def z55:=ptF Tryd.prog G55 zIh Tryd.f55
def zEp (n:Net) (zaa:Int) (zaS:Int) (zam:(Sl (Sl Int))) (za6:Int):St:=⟨[(1,zI zaa),(3,zp 3 0),(8,zI zaS),(9,zS zbH 1 zam),(10,zI za6)],[(3,.box 24 (zm (enc_24 n)))],[]⟩
abbrev zLw (K:List PA->Prop) (n:Net) (zaa:Int) (zaS:Int) (zam:(Sl (Sl Int))) (X:St->Prop) (P:Int->Bool) (S:Int->((Sl Use)×Bool)):Prop:=∀ ⦃za6:Int⦄,P za6=true->K (e55 (S za6))->X (zEp n zaa zaS zam za6)
def zEq (zam:(Sl (Sl Int))) (lv5:(Sl Step)) (zdj:Int) (zbm:Int) (zex:Int) (zer:(Sl Use)) (zgC:Nat->List PV):St:=⟨[(8,zI zdj),(9,zS zbH 1 zam),(10,zI zbm),(11,zS zbM 5 lv5),(12,zv 93),(13,zI zex)],[(93,.vec 75 2 16 zer.len zgC)],[]⟩
abbrev zIi (K:List PA->Prop) (zam:(Sl (Sl Int))) (lv5:(Sl Step)) (X:St->Prop) (P:Int->Int->Int->(Sl Use)->Bool) (S:Int->Int->Int->(Sl Use)->((Sl Use)×Bool)):Prop:=∀ ⦃zdj:Int⦄ ⦃zbm:Int⦄ ⦃zex:Int⦄ ⦃zer:(Sl Use)⦄ ⦃zgC:Nat->List PV⦄,P zdj zbm zex zer=true->K (e55 (S zdj zbm zex zer))->zgC=zg zaC zer->X (zEq zam lv5 zdj zbm zex zer zgC)
def zEr (zam:(Sl (Sl Int))) (lv5:(Sl Step)) (zb4:Int) (zaO:Int) (zdc:Int) (iv7:Int) (zcF:(Sl Use)) (zgD:Nat->List PV):St:=⟨[(8,zI zb4),(9,zS zbH 1 zam),(10,zI zaO),(11,zS zbM 5 lv5),(12,zv 93),(13,zI zdc),(14,zI iv7)],[(93,.vec 75 2 16 zcF.len zgD)],[]⟩
abbrev zLx (K:List PA->Prop) (zam:(Sl (Sl Int))) (lv5:(Sl Step)) (X:St->Prop) (P:Int->Int->Int->Int->(Sl Use)->Bool) (S:Int->Int->Int->Int->(Sl Use)->((Sl Use)×Bool)):Prop:=∀ ⦃zb4:Int⦄ ⦃zaO:Int⦄ ⦃zdc:Int⦄ ⦃iv7:Int⦄ ⦃zcF:(Sl Use)⦄ ⦃zgD:Nat->List PV⦄,P zb4 zaO zdc iv7 zcF=true->K (e55 (S zb4 zaO zdc iv7 zcF))->zgD=zg zaC zcF->X (zEr zam lv5 zb4 zaO zdc iv7 zcF zgD)
section
variable {K:List PA->Prop}{n:Net}{zaa:Int}{to:Int}{zaS:Int}{zam:(Sl (Sl Int))}{zpz:Nat->List PV}{za6:Int}{X3:St->Prop}{P3:Int->Bool}{S3:Int->((Sl Use)×Bool)}{zem:Int}{zbJ:Int}{lv5:(Sl Step)}{zzD:Nat->List PV}{zdj:Int}{zbm:Int}{zex:Int}{zer:(Sl Use)}{zgC:Nat->List PV}{X6:St->Prop}{P6:Int->Int->Int->(Sl Use)->Bool}{S6:Int->Int->Int->(Sl Use)->((Sl Use)×Bool)}{zb4:Int}{zaO:Int}{zdc:Int}{iv7:Int}{zcF:(Sl Use)}{zgD:Nat->List PV}{X7:St->Prop}{P7:Int->Int->Int->Int->(Sl Use)->Bool}{S7:Int->Int->Int->Int->(Sl Use)->((Sl Use)×Bool)}
def zn1 (S6:Int->Int->Int->(Sl Use)->((Sl Use)×Bool)) (zam:(Sl (Sl Int))) (lv5:(Sl Step)) (S7:Int->Int->Int->Int->(Sl Use)->((Sl Use)×Bool)) (zb4:Int) (zaO:Int) (zdc:Int) (iv7:Int) (zcF:(Sl Use)):((Sl Use)×Bool) :=
  (cond (decide (iv7 < (lv5.len : Int)))
 (cond ((lv5.get iv7.toNat).From == zdc)
 (cond (((zam.get ((w64 (zaO - (1:Int))).toNat)).get (((lv5.get iv7.toNat).To).toNat)) != (1000000000000:Int))
 (cond ((w64 ((lv5.get iv7.toNat).Length + ((zam.get ((w64 (zaO - (1:Int))).toNat)).get (((lv5.get iv7.toNat).To).toNat)))) == zb4)
 (S6 (w64 (zb4 - (lv5.get iv7.toNat).Length)) (w64 (zaO - (1:Int))) ((lv5.get iv7.toNat).To) (⟨(zcF.len+1),(zdm zcF.len zcF.get (λ _=>(lv5.get iv7.toNat).Use))⟩:Sl Use))
 (S7 zb4 zaO zdc (w64 (iv7+(1:Int))) zcF))
 (S7 zb4 zaO zdc (w64 (iv7+(1:Int))) zcF))
 (S7 zb4 zaO zdc (w64 (iv7+(1:Int))) zcF))
 (S6 zb4 (w64 (zaO - (1:Int))) zdc zcF))
def zn2 (P6:Int->Int->Int->(Sl Use)->Bool) (zam:(Sl (Sl Int))) (lv5:(Sl Step)) (P7:Int->Int->Int->Int->(Sl Use)->Bool) (zb4:Int) (zaO:Int) (zdc:Int) (iv7:Int) (zcF:(Sl Use)):Bool :=
  (cond (decide (iv7 < (lv5.len : Int)))
 (decide ((0<=iv7/\iv7 < (lv5.len:Int))) &&
 (cond ((lv5.get iv7.toNat).From == zdc)
 (decide ((0<=(w64 (zaO - (1:Int)))/\(w64 (zaO - (1:Int))) < (zam.len:Int))) &&
 (decide ((0<=(lv5.get iv7.toNat).To/\(lv5.get iv7.toNat).To < ((zam.get ((w64 (zaO - (1:Int))).toNat)).len:Int))) &&
 (cond (((zam.get ((w64 (zaO - (1:Int))).toNat)).get (((lv5.get iv7.toNat).To).toNat)) != (1000000000000:Int))
 (decide ((0<=(w64 (zaO - (1:Int)))/\(w64 (zaO - (1:Int))) < (zam.len:Int))) &&
 (decide ((0<=(lv5.get iv7.toNat).To/\(lv5.get iv7.toNat).To < ((zam.get ((w64 (zaO - (1:Int))).toNat)).len:Int))) &&
 (cond ((w64 ((lv5.get iv7.toNat).Length + ((zam.get ((w64 (zaO - (1:Int))).toNat)).get (((lv5.get iv7.toNat).To).toNat)))) == zb4)
 (decide (((zcF.len+1) * 16<=140737488355328/\zcF.len+1<=9223372036854775807)) &&
 (P6 (w64 (zb4 - (lv5.get iv7.toNat).Length)) (w64 (zaO - (1:Int))) ((lv5.get iv7.toNat).To) (⟨(zcF.len+1),(zdm zcF.len zcF.get (λ _=>(lv5.get iv7.toNat).Use))⟩:Sl Use)))
 (P7 zb4 zaO zdc (w64 (iv7+(1:Int))) zcF))))
 (P7 zb4 zaO zdc (w64 (iv7+(1:Int))) zcF))))
 (P7 zb4 zaO zdc (w64 (iv7+(1:Int))) zcF)))
 (P6 zb4 (w64 (zaO - (1:Int))) zdc zcF))
def zdU (S6:Int->Int->Int->(Sl Use)->((Sl Use)×Bool)) (zam:(Sl (Sl Int))) (lv5:(Sl Step)):Nat->Int->Int->Int->Int->(Sl Use)->((Sl Use)×Bool):=lpO (λ _ _ _ _ _=>default) (zn1 S6 zam lv5)
def zdV (P6:Int->Int->Int->(Sl Use)->Bool) (zam:(Sl (Sl Int))) (lv5:(Sl Step)):Nat->Int->Int->Int->Int->(Sl Use)->Bool:=lpO (λ _ _ _ _ _=>false) (zn2 P6 zam lv5)
def zAp (S6:Int->Int->Int->(Sl Use)->((Sl Use)×Bool)) (zam:(Sl (Sl Int))) (lv5:(Sl Step)) (zb4:Int) (zaO:Int) (zdc:Int) (iv7:Int) (zcF:(Sl Use)):((Sl Use)×Bool):=zdU S6 zam lv5 Fuel zb4 zaO zdc iv7 zcF
def zAq (P6:Int->Int->Int->(Sl Use)->Bool) (zam:(Sl (Sl Int))) (lv5:(Sl Step)) (zb4:Int) (zaO:Int) (zdc:Int) (iv7:Int) (zcF:(Sl Use)):Bool:=zdV P6 zam lv5 Fuel zb4 zaO zdc iv7 zcF
theorem zIj (hX6:zIi K zam lv5 X6 P6 S6) (hs:zAq P6 zam lv5 zb4 zaO zdc iv7 zcF=true) (hk:K (e55 (zAp S6 zam lv5 zb4 zaO zdc iv7 zcF))) (zsa:zgD=zg zaC zcF):z55 (Wk K) [1,1,1,1,1,1,1,1,0,1,0,0,1,0,0,1,0] [X6] (zEr zam lv5 zb4 zaO zdc iv7 zcF zgD) :=
  zl (λ X=>z55 (Wk K) [1,1,1,1,1,1,1,1,0,1,0,0,1,0,0,1,0,0] [X6,X]) (by kernel_rfl) λ X7 hX =>
  (show ∀ k, zLx K zam lv5 X7 (zdV P6 zam lv5 k) (zdU S6 zam lv5 k) from zeH _ _ (zn2 P6 zam lv5) (zn1 S6 zam lv5) (zLx K zam lv5 X7)
 (by intro _ _ _ _ _ _ hs;exact absurd hs dqk)
 (by intro P7 S7 hX7 zb4 zaO zdc iv7 zcF zgD hs hk zsa;subst zsa;exact hX _ (zaW (by kernel_rfl) (zc hs hk (λ hs hk=>(zaI hs λ hc hs=>And.intro hc (zc hs hk (λ hs hk=>(zaI hs λ hc hs=>And.intro hc (zaI hs λ hc hs=>And.intro hc (zc hs hk (λ hs hk=>(zaI hs λ hc hs=>And.intro hc (zaI hs λ hc hs=>And.intro hc (zc hs hk (λ hs hk=>(zaI hs λ hc hs=>And.intro hc (hX6 hs hk (zjx (enc:=zaC) (f:=zcF.get) (h:=(λ _=>(lv5.get iv7.toNat).Use)) rfl rfl)))) (λ hs hk=>(hX7 hs hk rfl)))))) (λ hs hk=>(hX7 hs hk rfl)))))) (λ hs hk=>(hX7 hs hk rfl))))) (λ hs hk=>(hX6 hs hk rfl)))))) _ hs hk zsa
def zjl (zam:(Sl (Sl Int))) (lv5:(Sl Step)) (S6:Int->Int->Int->(Sl Use)->((Sl Use)×Bool)) (zdj:Int) (zbm:Int) (zex:Int) (zer:(Sl Use)):((Sl Use)×Bool) :=
  (cond (decide (zbm > (0:Int)))
 (zAp S6 zam lv5 zdj zbm zex (0:Int) zer)
 (zer,true))
def zjm (zam:(Sl (Sl Int))) (lv5:(Sl Step)) (P6:Int->Int->Int->(Sl Use)->Bool) (zdj:Int) (zbm:Int) (zex:Int) (zer:(Sl Use)):Bool :=
  (cond (decide (zbm > (0:Int)))
 (zAq P6 zam lv5 zdj zbm zex (0:Int) zer)
 true)
def zgE (zam:(Sl (Sl Int))) (lv5:(Sl Step)):Nat->Int->Int->Int->(Sl Use)->((Sl Use)×Bool):=lpO (λ _ _ _ _=>default) (zjl zam lv5)
def zgF (zam:(Sl (Sl Int))) (lv5:(Sl Step)):Nat->Int->Int->Int->(Sl Use)->Bool:=lpO (λ _ _ _ _=>false) (zjm zam lv5)
def zAr (zam:(Sl (Sl Int))) (lv5:(Sl Step)) (zdj:Int) (zbm:Int) (zex:Int) (zer:(Sl Use)):((Sl Use)×Bool):=zgE zam lv5 Fuel zdj zbm zex zer
def zAs (zam:(Sl (Sl Int))) (lv5:(Sl Step)) (zdj:Int) (zbm:Int) (zex:Int) (zer:(Sl Use)):Bool:=zgF zam lv5 Fuel zdj zbm zex zer
theorem zIk (hs:zAs zam lv5 zdj zbm zex zer=true) (hk:K (e55 (zAr zam lv5 zdj zbm zex zer))) (zsb:zgC=zg zaC zer):z55 (Wk K) [1,1,1,1,1,1,1,1,0,1,0] [] (zEq zam lv5 zdj zbm zex zer zgC) :=
  zl (λ X=>z55 (Wk K) [1,1,1,1,1,1,1,1,0,1,0,0] [X]) (by kernel_rfl) λ X6 hX =>
  (show ∀ k, zIi K zam lv5 X6 (zgF zam lv5 k) (zgE zam lv5 k) from zeH _ _ (zjm zam lv5) (zjl zam lv5) (zIi K zam lv5 X6)
 (by intro _ _ _ _ _ hs;exact absurd hs dqk)
 (by intro P6 S6 hX6 zdj zbm zex zer zgC hs hk zsb;subst zsb;exact hX _ (zaW (by kernel_rfl) (zc hs hk (λ hs hk=>(zIj hX6 hs hk rfl)) (λ hs hk=>((zfW hk):Wk K [.one (.sl zer.len 2 (λ i=>zaC (zer.get i))),.one (.bool true)])))))) _ hs hk zsb
def zsc (zaa:Int) (zaS:Int) (zam:(Sl (Sl Int))) (zbJ:Int) (lv5:(Sl Step)):((Sl Use)×Bool) :=
  (zAr zam lv5 zaS zbJ zaa (⟨0,(λ _=>default)⟩:Sl Use))
def zsd (zaa:Int) (zaS:Int) (zam:(Sl (Sl Int))) (zbJ:Int) (lv5:(Sl Step)):Bool :=
  (zAs zam lv5 zaS zbJ zaa (⟨0,(λ _=>default)⟩:Sl Use))
theorem zIl (hs:zsd zaa zaS zam zbJ lv5=true) (hk:K (e55 (zsc zaa zaS zam zbJ lv5))) (zHn:zzD=zg zbM lv5):z55 (Wk K) [1,1,1,1,1,1,1] [] ⟨[(1,zI zaa),(8,zI zaS),(9,zS zbH 1 zam),(10,zI zbJ),(11,zP (.sl lv5.len 5 zzD))],[],[]⟩:=by subst zHn;exact zaW (by kernel_rfl) (zIk hs hk rfl)
def zlp (n:Net) (zaa:Int) (zaS:Int) (zam:(Sl (Sl Int))) (zem:Int):((Sl Use)×Bool) :=
  (zsc zaa zaS zam zem (s77 n))
def zlq (n:Net) (zaa:Int) (zaS:Int) (zam:(Sl (Sl Int))) (zem:Int):Bool :=
  (decide ((p77 n=true)) &&
 (zsd zaa zaS zam zem (s77 n)))
theorem zIm (hs:zlq n zaa zaS zam zem=true) (hk:K (e55 (zlp n zaa zaS zam zem))):z55 (Wk K) [1,1,1,1,1,1] [] ⟨[(1,zI zaa),(3,zp 3 0),(8,zI zaS),(9,zS zbH 1 zam),(10,zI zem)],[(3,.box 24 (zm (enc_24 n)))],[]⟩:=zaW (by kernel_rfl) (zaI hs λ hc hs=>And.intro (And.intro (zE enc_40 4 n.Ties.get) hc) (zIl hs hk rfl))
def zjn (n:Net) (zaa:Int) (zaS:Int) (zam:(Sl (Sl Int))) (S3:Int->((Sl Use)×Bool)) (za6:Int):((Sl Use)×Bool) :=
  (cond (((zam.get za6.toNat).get zaa.toNat) != zaS)
 (S3 (w64 (za6+(1:Int))))
 (zlp n zaa zaS zam za6))
def zjo (n:Net) (zaa:Int) (zaS:Int) (zam:(Sl (Sl Int))) (P3:Int->Bool) (za6:Int):Bool :=
  (decide ((0<=za6/\za6 < (zam.len:Int))) &&
 (decide ((0<=zaa/\zaa < ((zam.get za6.toNat).len:Int))) &&
 (cond (((zam.get za6.toNat).get zaa.toNat) != zaS)
 (P3 (w64 (za6+(1:Int))))
 (zlq n zaa zaS zam za6))))
def zhw (n:Net) (zaa:Int) (zaS:Int) (zam:(Sl (Sl Int))):Nat->Int->((Sl Use)×Bool):=lpO (λ _=>default) (zjn n zaa zaS zam)
def zhx (n:Net) (zaa:Int) (zaS:Int) (zam:(Sl (Sl Int))):Nat->Int->Bool:=lpO (λ _=>false) (zjo n zaa zaS zam)
def zAt (n:Net) (zaa:Int) (zaS:Int) (zam:(Sl (Sl Int))) (za6:Int):((Sl Use)×Bool):=zhw n zaa zaS zam Fuel za6
def zAu (n:Net) (zaa:Int) (zaS:Int) (zam:(Sl (Sl Int))) (za6:Int):Bool:=zhx n zaa zaS zam Fuel za6
theorem zIn (hs:zAu n zaa zaS zam za6=true) (hk:K (e55 (zAt n zaa zaS zam za6))):z55 (Wk K) [1,1,1,1,1,0,0] [] (zEp n zaa zaS zam za6) :=
  zl (λ X=>z55 (Wk K) [1,1,1,1,1,0,0,0] [X]) (by kernel_rfl) λ X3 hX =>
  (show ∀ k, zLw K n zaa zaS zam X3 (zhx n zaa zaS zam k) (zhw n zaa zaS zam k) from zeH _ _ (zjo n zaa zaS zam) (zjn n zaa zaS zam) (zLw K n zaa zaS zam X3)
 (by intro _ hs;exact absurd hs dqk)
 (by intro P3 S3 hX3 za6 hs hk;exact hX _ (zaW (by kernel_rfl) (zaI hs λ hc hs=>And.intro hc (zaI hs λ hc hs=>And.intro hc (zc hs hk (λ hs hk=>(hX3 hs hk)) (λ hs hk=>(zIm hs hk)))))))) _ hs hk
def zse (n:Net) (zaa:Int) (zaS:Int) (zam:(Sl (Sl Int))):((Sl Use)×Bool) :=
  (zAt n zaa zaS zam (0:Int))
def zsf (n:Net) (zaa:Int) (zaS:Int) (zam:(Sl (Sl Int))):Bool :=
  (zAu n zaa zaS zam (0:Int))
theorem zIo (hs:zsf n zaa zaS zam=true) (hk:K (e55 (zse n zaa zaS zam))) (zAv:zpz=zg zbH zam):z55 (Wk K) [1,1,1,1] [] ⟨[(1,zI zaa),(3,zp 3 0),(8,zI zaS),(9,zP (.sl zam.len 1 zpz))],[(3,.box 24 (zm (enc_24 n)))],[]⟩:=by subst zAv;exact zaW (by kernel_rfl) (zIn hs hk)
def zsg (n:Net) (zaa:Int) (to:Int) (zaS:Int):((Sl Use)×Bool) :=
  (zse n zaa zaS (s90 n to n.Nodes (0:Int)))
def zsh (n:Net) (zaa:Int) (to:Int) (zaS:Int):Bool :=
  (decide ((p90 n to n.Nodes (0:Int)=true)) &&
 (zsf n zaa zaS (s90 n to n.Nodes (0:Int))))
theorem zIp (hs:zsh n zaa to zaS=true) (hk:K (e55 (zsg n zaa to zaS))):z55 (Wk K) [1,1,1] [] ⟨[(1,zI zaa),(2,zI to),(3,zp 3 0),(8,zI zaS)],[(3,.box 24 (zm (enc_24 n)))],[]⟩:=zaW (by kernel_rfl) (zaI hs λ hc hs=>And.intro (And.intro (zE enc_40 4 n.Ties.get) hc) (zIo hs hk rfl))
def zsi (n:Net) (zaa:Int) (to:Int) (zaS:Int):((Sl Use)×Bool) :=
  (cond (zaS == (1000000000000:Int))
 ((⟨0,λ _=>default⟩:(Sl Use)),false)
 (zsg n zaa to zaS))
def zsj (n:Net) (zaa:Int) (to:Int) (zaS:Int):Bool :=
  (cond (zaS == (1000000000000:Int))
 true
 (zsh n zaa to zaS))
theorem zIq (hs:zsj n zaa to zaS=true) (hk:K (e55 (zsi n zaa to zaS))):z55 (Wk K) [1,1] [] ⟨[(1,zI zaa),(2,zI to),(3,zp 3 0),(8,zI zaS)],[(3,.box 24 (zm (enc_24 n)))],[]⟩:=zaW (by kernel_rfl) (zc hs hk (λ hs hk=>((wk hk (zhB (.one (.nil _ _)) (zhB (.one (.rfl _)) zol))):Wk K [.one (.nils),.one (.bool false)])) (λ hs hk=>(zIp hs hk)))
def s55 (n:Net) (zaa:Int) (to:Int):((Sl Use)×Bool) :=
  (zsi n zaa to ((s46 n zaa).get to.toNat))
def p55 (n:Net) (zaa:Int) (to:Int):Bool :=
  (decide ((p46 n zaa=true)) &&
 (decide ((0<=to/\to < ((s46 n zaa).len:Int))) &&
 (zsj n zaa to ((s46 n zaa).get to.toNat))))
end
theorem q55 (n:Net) (zaa:Int) (to:Int) (K:List PA->Prop) (hs:p55 n zaa to=true) (hk:K (e55 (s55 n zaa to))):vcFun Tryd.prog G55 zIh 55 [.agg (enc_24 n),.one (.int .i64 zaa),.one (.int .i64 to)] (Wk K) :=
  zaW (by kernel_rfl) (zaI hs λ hc hs=>And.intro (And.intro (zE enc_40 4 n.Ties.get) hc) (zaI hs λ hc hs=>And.intro hc (zIq hs hk)))
def zIr : List PA → COut
  | [.agg [.int .i64 zaf,.sl zae zaw zac],.one (.int .i64 a1),.one (.int .i64 a2)]=>.det (IsE enc_40 4 zaw zac/\p55 (⟨zaf,(⟨zae,zai zac⟩:(Sl Tie))⟩:Net) a1 a2=true) [.one (.sl (((s55 (⟨zaf,(⟨zae,zai zac⟩:(Sl Tie))⟩:Net) a1 a2).1).len) 2 (λ i=>zaC (((s55 (⟨zaf,(⟨zae,zai zac⟩:(Sl Tie))⟩:Net) a1 a2).1).get i))),.one (.bool ((s55 (⟨zaf,(⟨zae,zai zac⟩:(Sl Tie))⟩:Net) a1 a2).2))]
  | _=>.no
theorem zLy:zav Tryd.prog 55:=⟨_,rfl,rfl,by kernel_rfl⟩
theorem zPi:Ok Tryd.prog 55 zIr:=zhl zNI zLy λ args K h=>by
  unfold zIr at h
  split at h
  · rename_i zaf zae zaw zac a1 a2
    obtain⟨⟨⟨rfl,zak,rfl⟩,hs⟩,hk⟩:=h
    try rw[zaj zak] at hs
    try rw[zaj zak] at hk
    exact⟨_,zfB zfV _,(λ _ _=>[]),(λ _=>false),zIh,q55 (⟨zaf,(⟨zae,zak⟩:(Sl Tie))⟩:Net) a1 a2 K hs hk⟩
  · exact h.elim
abbrev T13:Tabs:=(((((((((Tabs.nil.addF 20 zHv).addF 21 zHu).addF 23 zHE).addF 30 zHQ).addF 31 zH0).addF 53 zB9).addF 54 zCl).addF 55 zIr).addF 56 zHP)
theorem zNJ:TabsOk Tryd.prog T13:=(((((((((TabsOk.nil.addF zPa).addF zO9).addF zPc).addF zPe).addF zPf).addF zN0).addF zN7).addF zPi).addF zPd)
abbrev G13:Ctrs:=csm T13 (λ _ _=>[]) (λ _=>false)
def zIs:Ann:=⟨134,[(0,zK [1,2,3] [3]),(1,zK [1,2,3,18] [3]),(2,zK [6] []),(3,zK [1,2,3,7,8] [3]),(4,zK [1,2,3,7,8,49] [3]),(5,zK [6] []),(6,zK [1,2,3,7,8,62] [3]),(7,zK [6] []),(8,zK [1,2,3,7,8,9,10] [3]),(9,zK [1,2,3,7,8,9,81] [3]),(10,zK [6] []),(11,zK [1,2,3,7,99] [3]),(12,zK [6] []),(13,zK [1,2,3,11,12,13] [3]),(14,zK [2,11,12,13,14,15] [14]),(15,zK [6] [])],
 [],
 [(2,zK [1,2,3,18] [3]),(3,zK [1,2,3] [3]),(4,zK [1,2,3,7,8] [3]),(5,zK [1,2,3,7,8,49] [3]),(6,zK [1,2,3,7,8] [3]),(7,zK [1,2,3,7,8,62] [3]),(8,zK [1,2,3,7,8] [3]),(9,zK [1,2,3,7,8,9,10] [3]),(11,zK [1,2,3,7,8,9] [3]),(12,zK [1,2,3,7,99] [3]),(13,zK [1,2,3,7] [3]),(14,zK [1,2,3,11,12,13] [3]),(15,zK [2,11,12,13,14,15] [14])],
 [],[]⟩
abbrev R13:=Bool
abbrev e13 (r:R13):List PA:=[.one (.bool r)]
@[irreducible] def z13:=ptF Tryd.prog G13 zIs Tryd.f13
section
variable {K:List PA->Prop}{n:Net}{zaa:Int}{to:Int}{zc5:Bool}{cv2:(Sl Use)}{ev2:Int}{zLz:Nat->List PV}{zsk:Bool}{zsl:Bool}{zdL:(Sl Use)}{zIt:Bool}{zug:Nat->List PV}{zsm:Bool}{zlK:Int}{zcT:Int}{zlL:Bool}{zMs:Int}{zAw:Int}{zuh:Int}
def zn3 (to:Int) (zlK:Int) (zcT:Int) (zlL:Bool) (zMs:Int) (zAw:Int) (zuh:Int):Bool :=
  (cond zlL
 (cond (zlK == to)
 (cond (zMs == (0:Int))
 (cond (zcT == zuh)
 true
 false)
 false)
 false)
 false)
theorem zCM (hk:K (e13 (zn3 to zlK zcT zlL zMs zAw zuh))):z13 K [1,1,1,1,1,1,1,1,1,1] [] ⟨[(2,zI to),(11,zI zlK),(12,zI zcT),(13,zB zlL),(14,zp 14 0),(15,zI zMs)],[(14,.box 43 (zm (zbD (⟨zAw,zuh⟩:Span))))],[]⟩:=zaW (by kernel_rfl) (zt hk (λ hk=>(zt hk (λ hk=>(zt hk (λ hk=>(zt hk (λ hk=>hk) (λ hk=>hk))) (λ hk=>hk))) (λ hk=>hk))) (λ hk=>hk))
def zn4 (n:Net) (zaa:Int) (to:Int) (zlK:Int) (zcT:Int) (zlL:Bool):Bool :=
  (zn3 to zlK zcT zlL ((s30 n zaa to).2) (((s30 n zaa to).1).Low) (((s30 n zaa to).1).High))
def zn5 (n:Net) (zaa:Int) (to:Int) (zlK:Int) (zcT:Int) (zlL:Bool):Bool :=
  (decide ((p30 n zaa to=true)) &&
 true)
theorem zCN (hs:zn5 n zaa to zlK zcT zlL=true) (hk:K (e13 (zn4 n zaa to zlK zcT zlL))):z13 K [1,1,1,1,1,1,1,1,1] [] ⟨[(1,zI zaa),(2,zI to),(3,zp 3 0),(11,zI zlK),(12,zI zcT),(13,zB zlL)],[(3,.box 24 (zm (enc_24 n)))],[]⟩:=zaW (by kernel_rfl) (zaI hs λ hc hs=>And.intro (And.intro (zE enc_40 4 n.Ties.get) hc) (zCM hk))
def zn6 (n:Net) (zaa:Int) (to:Int) (cv2:(Sl Use)):Bool :=
  (zn4 n zaa to ((s56 n zaa cv2).1) ((s56 n zaa cv2).2.1) ((s56 n zaa cv2).2.2))
def zn7 (n:Net) (zaa:Int) (to:Int) (cv2:(Sl Use)):Bool :=
  (decide ((p56 n zaa cv2=true)) &&
 (zn5 n zaa to ((s56 n zaa cv2).1) ((s56 n zaa cv2).2.1) ((s56 n zaa cv2).2.2)))
theorem zCO (hs:zn7 n zaa to cv2=true) (hk:K (e13 (zn6 n zaa to cv2))):z13 K [1,1,1,1,1,1,1,1] [] ⟨[(1,zI zaa),(2,zI to),(3,zp 3 0),(7,zS zaC 2 cv2)],[(3,.box 24 (zm (enc_24 n)))],[]⟩:=zaW (by kernel_rfl) (zaI hs λ hc hs=>And.intro (And.intro (zE enc_40 4 n.Ties.get) (And.intro (zE zaC 2 cv2.get) hc)) (zCN hs hk))
def zn8 (n:Net) (zaa:Int) (to:Int) (cv2:(Sl Use)) (zsm:Bool):Bool :=
  (cond zsm
 false
 (zn6 n zaa to cv2))
def zn9 (n:Net) (zaa:Int) (to:Int) (cv2:(Sl Use)) (zsm:Bool):Bool :=
  (cond zsm
 true
 (zn7 n zaa to cv2))
theorem zAx (hs:zn9 n zaa to cv2 zsm=true) (hk:K (e13 (zn8 n zaa to cv2 zsm))):z13 K [1,1,1,1,1,1,1,0,1] [] ⟨[(1,zI zaa),(2,zI to),(3,zp 3 0),(7,zS zaC 2 cv2),(99,zB zsm)],[(3,.box 24 (zm (enc_24 n)))],[]⟩:=zaW (by kernel_rfl) (zc hs hk (λ hs hk=>hk) (λ hs hk=>(zCO hs hk)))
def zsn (n:Net) (zaa:Int) (to:Int) (cv2:(Sl Use)) (ev2:Int) (zdL:(Sl Use)):Bool :=
  (cond (ev2 != (0:Int))
 (zn8 n zaa to cv2 true)
 (zn8 n zaa to cv2 (!(s53 cv2 zdL))))
def zso (n:Net) (zaa:Int) (to:Int) (cv2:(Sl Use)) (ev2:Int) (zdL:(Sl Use)):Bool :=
  (cond (ev2 != (0:Int))
 (zn9 n zaa to cv2 true)
 (decide ((p53 cv2 zdL=true)) &&
 (zn9 n zaa to cv2 (!(s53 cv2 zdL)))))
theorem zIu (hs:zso n zaa to cv2 ev2 zdL=true) (hk:K (e13 (zsn n zaa to cv2 ev2 zdL))):z13 K [1,1,1,1,1,1,1] [] ⟨[(1,zI zaa),(2,zI to),(3,zp 3 0),(7,zS zaC 2 cv2),(8,zI ev2),(9,zS zaC 2 zdL)],[(3,.box 24 (zm (enc_24 n)))],[]⟩:=zaW (by kernel_rfl) (zc hs hk (λ hs hk=>(zAx hs hk)) (λ hs hk=>(zaI hs λ hc hs=>And.intro (And.intro (zE zaC 2 cv2.get) (And.intro (zE zaC 2 zdL.get) hc)) (zAx hs hk))))
def zsp (n:Net) (zaa:Int) (to:Int) (cv2:(Sl Use)) (ev2:Int) (zdL:(Sl Use)) (zIt:Bool):Bool :=
  (cond (!zIt)
 (cond (ev2 == (6:Int))
 (cond ((cv2.len : Int) == (0:Int))
 true
 false)
 false)
 (zsn n zaa to cv2 ev2 zdL))
def zsq (n:Net) (zaa:Int) (to:Int) (cv2:(Sl Use)) (ev2:Int) (zdL:(Sl Use)) (zIt:Bool):Bool :=
  (cond (!zIt)
 true
 (zso n zaa to cv2 ev2 zdL))
theorem zIv (hs:zsq n zaa to cv2 ev2 zdL zIt=true) (hk:K (e13 (zsp n zaa to cv2 ev2 zdL zIt))) (zCP:zug=zg zaC zdL):z13 K [1,1,1,1,1,1] [] ⟨[(1,zI zaa),(2,zI to),(3,zp 3 0),(7,zS zaC 2 cv2),(8,zI ev2),(9,zP (.sl zdL.len 2 zug)),(10,zB zIt)],[(3,.box 24 (zm (enc_24 n)))],[]⟩:=by subst zCP;exact zaW (by kernel_rfl) (zc hs hk (λ hs hk=>(zt hk (λ hk=>(zt hk (λ hk=>hk) (λ hk=>hk))) (λ hk=>hk))) (λ hs hk=>(zIu hs hk)))
def zoa (n:Net) (zaa:Int) (to:Int) (cv2:(Sl Use)) (ev2:Int):Bool :=
  (zsp n zaa to cv2 ev2 ((s55 n zaa to).1) ((s55 n zaa to).2))
def zob (n:Net) (zaa:Int) (to:Int) (cv2:(Sl Use)) (ev2:Int):Bool :=
  (decide ((p55 n zaa to=true)) &&
 (zsq n zaa to cv2 ev2 ((s55 n zaa to).1) ((s55 n zaa to).2)))
theorem zIw (hs:zob n zaa to cv2 ev2=true) (hk:K (e13 (zoa n zaa to cv2 ev2))):z13 K [1,1,1,1,1] [] ⟨[(1,zI zaa),(2,zI to),(3,zp 3 0),(7,zS zaC 2 cv2),(8,zI ev2)],[(3,.box 24 (zm (enc_24 n)))],[]⟩:=zaW (by kernel_rfl) (zaI hs λ hc hs=>And.intro (And.intro (zE enc_40 4 n.Ties.get) hc) (zIv hs hk rfl))
def zsr (n:Net) (zaa:Int) (to:Int) (cv2:(Sl Use)) (ev2:Int) (zsl:Bool):Bool :=
  (cond zsl
 (cond (ev2 == (5:Int))
 (cond ((cv2.len : Int) == (0:Int))
 true
 false)
 false)
 (zoa n zaa to cv2 ev2))
def zss (n:Net) (zaa:Int) (to:Int) (cv2:(Sl Use)) (ev2:Int) (zsl:Bool):Bool :=
  (cond zsl
 true
 (zob n zaa to cv2 ev2))
theorem zIx (hs:zss n zaa to cv2 ev2 zsl=true) (hk:K (e13 (zsr n zaa to cv2 ev2 zsl))):z13 K [1,1,1,1,0,1] [] ⟨[(1,zI zaa),(2,zI to),(3,zp 3 0),(7,zS zaC 2 cv2),(8,zI ev2),(62,zB zsl)],[(3,.box 24 (zm (enc_24 n)))],[]⟩:=zaW (by kernel_rfl) (zc hs hk (λ hs hk=>(zt hk (λ hk=>(zt hk (λ hk=>hk) (λ hk=>hk))) (λ hk=>hk))) (λ hs hk=>(zIw hs hk)))
def zst (n:Net) (zaa:Int) (to:Int) (cv2:(Sl Use)) (ev2:Int):Bool :=
  (zsr n zaa to cv2 ev2 (!(s31 n)))
def zsu (n:Net) (zaa:Int) (to:Int) (cv2:(Sl Use)) (ev2:Int):Bool :=
  (decide ((p31 n=true)) &&
 (zss n zaa to cv2 ev2 (!(s31 n))))
theorem zIy (hs:zsu n zaa to cv2 ev2=true) (hk:K (e13 (zst n zaa to cv2 ev2))):z13 K [1,1,1,1] [] ⟨[(1,zI zaa),(2,zI to),(3,zp 3 0),(7,zS zaC 2 cv2),(8,zI ev2)],[(3,.box 24 (zm (enc_24 n)))],[]⟩:=zaW (by kernel_rfl) (zaI hs λ hc hs=>And.intro (And.intro (zE enc_40 4 n.Ties.get) hc) (zIx hs hk))
def zgG (n:Net) (zaa:Int) (to:Int) (cv2:(Sl Use)) (ev2:Int) (zsk:Bool):Bool :=
  (cond zsk
 (cond (ev2 == (2:Int))
 (cond ((cv2.len : Int) == (0:Int))
 true
 false)
 false)
 (zst n zaa to cv2 ev2))
def zgH (n:Net) (zaa:Int) (to:Int) (cv2:(Sl Use)) (ev2:Int) (zsk:Bool):Bool :=
  (cond zsk
 true
 (zsu n zaa to cv2 ev2))
theorem zlr (hs:zgH n zaa to cv2 ev2 zsk=true) (hk:K (e13 (zgG n zaa to cv2 ev2 zsk))):z13 K [1,1,1,0,1] [] ⟨[(1,zI zaa),(2,zI to),(3,zp 3 0),(7,zS zaC 2 cv2),(8,zI ev2),(49,zB zsk)],[(3,.box 24 (zm (enc_24 n)))],[]⟩:=zaW (by kernel_rfl) (zc hs hk (λ hs hk=>(zt hk (λ hk=>(zt hk (λ hk=>hk) (λ hk=>hk))) (λ hk=>hk))) (λ hs hk=>(zIy hs hk)))
def zsv (n:Net) (zaa:Int) (to:Int) (cv2:(Sl Use)) (ev2:Int):Bool :=
  (cond (!(s23 n))
 (zgG n zaa to cv2 ev2 true)
 (cond (decide (zaa < (0:Int)))
 (zgG n zaa to cv2 ev2 true)
 (cond (decide (zaa >= n.Nodes))
 (zgG n zaa to cv2 ev2 true)
 (cond (decide (to < (0:Int)))
 (zgG n zaa to cv2 ev2 true)
 (zgG n zaa to cv2 ev2 (decide (to >= n.Nodes)))))))
def zsw (n:Net) (zaa:Int) (to:Int) (cv2:(Sl Use)) (ev2:Int):Bool :=
  (decide ((p23 n=true)) &&
 (cond (!(s23 n))
 (zgH n zaa to cv2 ev2 true)
 (cond (decide (zaa < (0:Int)))
 (zgH n zaa to cv2 ev2 true)
 (cond (decide (zaa >= n.Nodes))
 (zgH n zaa to cv2 ev2 true)
 (cond (decide (to < (0:Int)))
 (zgH n zaa to cv2 ev2 true)
 (zgH n zaa to cv2 ev2 (decide (to >= n.Nodes))))))))
theorem zIz (hs:zsw n zaa to cv2 ev2=true) (hk:K (e13 (zsv n zaa to cv2 ev2))) (zNK:zLz=zg zaC cv2):z13 K [1,1,1] [] ⟨[(1,zI zaa),(2,zI to),(3,zp 3 0),(7,zP (.sl cv2.len 2 zLz)),(8,zI ev2)],[(3,.box 24 (zm (enc_24 n)))],[]⟩:=by subst zNK;exact zaW (by kernel_rfl) (zaI hs λ hc hs=>And.intro (And.intro (zE enc_40 4 n.Ties.get) hc) (zc hs hk (λ hs hk=>(zlr hs hk)) (λ hs hk=>(zc hs hk (λ hs hk=>(zlr hs hk)) (λ hs hk=>(zc hs hk (λ hs hk=>(zlr hs hk)) (λ hs hk=>(zc hs hk (λ hs hk=>(zlr hs hk)) (λ hs hk=>(zlr hs hk))))))))))
def zoc (n:Net) (zaa:Int) (to:Int):Bool :=
  (zsv n zaa to ((s54 n zaa to).1) ((s54 n zaa to).2))
def zod (n:Net) (zaa:Int) (to:Int):Bool :=
  (decide ((p54 n zaa to=true)) &&
 (zsw n zaa to ((s54 n zaa to).1) ((s54 n zaa to).2)))
theorem zIA (hs:zod n zaa to=true) (hk:K (e13 (zoc n zaa to))):z13 K [1,1] [] ⟨[(1,zI zaa),(2,zI to),(3,zp 3 0)],[(3,.box 24 (zm (enc_24 n)))],[]⟩:=zaW (by kernel_rfl) (zaI hs λ hc hs=>And.intro (And.intro (zE enc_40 4 n.Ties.get) hc) (zIz hs hk rfl))
def zsx (n:Net) (zaa:Int) (to:Int) (zc5:Bool):Bool :=
  (cond zc5
 true
 (zoc n zaa to))
def zsy (n:Net) (zaa:Int) (to:Int) (zc5:Bool):Bool :=
  (cond zc5
 true
 (zod n zaa to))
theorem zIB (hs:zsy n zaa to zc5=true) (hk:K (e13 (zsx n zaa to zc5))):z13 K [1,0,1] [] ⟨[(1,zI zaa),(2,zI to),(3,zp 3 0),(18,zB zc5)],[(3,.box 24 (zm (enc_24 n)))],[]⟩:=zaW (by kernel_rfl) (zc hs hk (λ hs hk=>hk) (λ hs hk=>(zIA hs hk)))
def s13 (n:Net) (zaa:Int) (to:Int):Bool :=
  (zsx n zaa to (!(s20 n (14:Int))))
def p13 (n:Net) (zaa:Int) (to:Int):Bool :=
  (zsy n zaa to (!(s20 n (14:Int))))
end
theorem q13 (n:Net) (zaa:Int) (to:Int) (K:List PA->Prop) (hs:p13 n zaa to=true) (hk:K (e13 (s13 n zaa to))):vcFun Tryd.prog G13 zIs 13 [.agg (enc_24 n),.one (.int .i64 zaa),.one (.int .i64 to)] K :=
  zaW (by kernel_rfl) (And.intro (zE enc_40 4 n.Ties.get) (zIB hs hk))
def zLA : List PA → COut
  | [.agg [.int .i64 zaf,.sl zae zaw zac],.one (.int .i64 a1),.one (.int .i64 a2)]=>.det (IsE enc_40 4 zaw zac/\p13 (⟨zaf,(⟨zae,zai zac⟩:(Sl Tie))⟩:Net) a1 a2=true) [.one (.bool (s13 (⟨zaf,(⟨zae,zai zac⟩:(Sl Tie))⟩:Net) a1 a2))]
  | _=>.no
theorem zLB:zav Tryd.prog 13:=⟨_,rfl,rfl,by kernel_rfl⟩
theorem ok13:Ok Tryd.prog 13 zLA:=zbx zNJ zLB λ args K h=>by
  unfold zLA at h
  split at h
  · rename_i zaf zae zaw zac a1 a2
    obtain⟨⟨⟨rfl,zak,rfl⟩,hs⟩,hk⟩:=h
    try rw[zaj zak] at hs
    try rw[zaj zak] at hk
    exact⟨(λ _ _=>[]),(λ _=>false),zIs,q13 (⟨zaf,(⟨zae,zak⟩:(Sl Tie))⟩:Net) a1 a2 K hs hk⟩
  · exact h.elim
end Go.Proofs
namespace Go.Proofs.YtedhjaaikeakoaaDoor
open Go Go.Pm Go.ChangeShapes
set_option maxRecDepth 100000
abbrev laid1 : List (String × DataW Unit) := [("overburden/align.never", Rows.laid_overburden_align_never)]
theorem zEs : Tryd.prog.globalNamed "overburden/align.never" = some 0 := by kernel_rfl
theorem zLC:(Tryd.prog.globals[0]?).map (·.type)=some 114:=by kernel_rfl
theorem zLD:Tryd.prog.cellsOf 114=2:=by kernel_rfl
theorem zOj:Tryd.prog.cellsOf 3=1:=by kernel_rfl
theorem door_met (os:Os) (args:Array Value):laidMetH Tryd.prog laid1 ((World.doorLaid Tryd.prog 400 os).forCall (λ _ _=>0) ⟨#[],args,[]⟩).memory :=
 laidMetH_of_parts3 (fuel:=8) (laidMet_of_run' 8 (by kernel_rfl) (by kernel_rfl)) (by kernel_rfl) (by kernel_rfl)
theorem gl_of {W:World}(h:laidMetH Tryd.prog laid1 W):zeu (H0 W):=by
 rw[MakeChecks.laidMetH_plain _ _ _ (by kernel_rfl)] at h
 obtain⟨ps,⟨g0,t0,cs0,f0,p0,q0,hg0,ht0,hv0,hd0,_,_⟩,_,_⟩:=h
 obtain rfl:=Option.some.inj (zEs.symm.trans hg0)
 obtain rfl:=Option.some.inj (zLC.symm.trans ht0)
 obtain⟨y0,y1,n,hx,hl,h0,h1⟩:=trod_struct2 Tryd.underlying114 hd0
 simp only[dqh] at hx
 obtain⟨hx,-⟩:=hx
 simp only[Rows.laid_overburden_align_never,DataW.agg.injEq,dqy,and_true] at hx
 obtain⟨k0,e0,d0,_⟩:=DataW.trod_int Tryd.underlying3 h0
 obtain⟨k1,e1,d1,_⟩:=DataW.trod_int Tryd.underlying3 h1
 rw[zLD] at hl
 have e0':cs0.toList.take 1=[.int .i64 k0]:=by
  have:=e0
  rw[show Tryd.prog.cellsOf _=1 from zOj] at this
  simpa using this
 have e1':(cs0.toList.drop 1).take 1=[.int .i64 k1]:=by
  have:=e1
  rw[show Tryd.prog.cellsOf _=1 from zOj] at this
  simpa using this
 have hk0:k0=1000000000000:=by have:=hx.1;rw[d0] at this;injection this with a;injection a with _ a;exact a.symm
 have hk1:k1=0:=by have:=hx.2;rw[d1] at this;injection this with a;injection a with _ a;exact a.symm
 have hC:cs0.toList=[.int .i64 1000000000000,.int .i64 0]:=by
  have h2:cs0.toList=cs0.toList.take 1 ++ (cs0.toList.drop 1).take 1:=by
   rw[<- List.take_add,List.take_of_length_le (by omega)]
  rw[h2,e0',e1',hk0,hk1];rfl
 intro k l hk
 unfold World.var? at hv0
 rw[zEs] at hv0
 simp only[Option.bind_some] at hv0
 cases k with
 | succ k=>cases hk
 | zero =>
  obtain rfl:[PV.int .i64 1000000000000,.int .i64 0]=l:=Option.some.inj hk
  cases eo:W.heap[0]? with
  | none=>rw[eo] at hv0;cases hv0
  | some o =>
   rw[eo] at hv0
   cases o with
   | cells C ty fr =>
    simp only[dqa] at hv0
    subst hv0
    exact⟨_,ty,fr,by unfold H0;rw[eo];rfl,by rw[hC];exact⟨.int _ _,.int _ _,trivial⟩⟩
   | _=>cases hv0
end Go.Proofs.YtedhjaaikeakoaaDoor
namespace Go.Proofs.YtedhjaaikeakoaaDoor
set_option maxRecDepth 100000
def dc : Nat → Nat → List Char
  | 0,_=>[]
  | k+1,n=>Char.ofNat (n % 128) :: dc k (n / 128)
def ioR:List (List Char):=[dc 2 14945,dc 38 107265865644741724912243125268531249640326942553430557205577479631290979090791279,dc 38 108293077817484906734254386447616441263814988321737617043972465573863363972791151,dc 38 93370879016013017278412803021783510280543711028000410236402271261457424383048559,dc 38 107258694022858408970435192345127867927486736974969802526482043864463718682819439,dc 39 13746719959472648153406769131206406626558510298776447130317981093147086104311724911,dc 38 107266209769642888316488957616301258915172789321380384129051881327065490379078511,dc 39 13738338888634744287462113483281891133786406809494667074737303271467843731645365103,dc 38 107308724040215521434011850380931925905298338556088488294726402895071789331348335,dc 43 3689337697451499537899652006011379275272339788637320245734945509069109267079825879406836591,dc 38 106339254617564648824502995819756623291246721172574690728430612464564447869500271,dc 38 107330772524736890892060720350443696785457349727637599143704802418857719933533039,dc 38 107266380701743786104986999119182321999123657451770743386930499759721679104342895,dc 38 107308728471136676073553801914045189487148679029700448428114571309412341010496367,dc 37 837954515553292543489687687552621780150771894250034810644180755742461368302447,dc 38 107287017468262091873827311208814906259154281073825133055543027267698112966785903,dc 38 107374028509112486977837548216825331243033985081330090052312008930171490580134767,dc 38 107265533895345759970156929786145176805363222797160045994169685653949991330872175]
def ioN:List Char:=dc 748 14110378018767575964226655308004126793045208087310171201555892242252648960690434620806224759478349222793457564936136773140206884019406577404308477398112682127111429688458091804136369451876026010391452929509304596612007749348823331848074321521876163367611471766311661795807971626777430789606670518996161301806853738256348343737238826384171739901612950230839336053519876648582653265928992265003442337249315020340640568624042171724319570015876863120612063908539839480788963015814409324055605425425582212723687691771037045010066064867754736841809752569547023397197010564985861497252960727260554984899190782686002829257997185443421456271698218584945985148990383891392482548262956659989814614329905290488435125286744085629934720469444029598243369313538259143807170350259387234145666063103371643809341342441092158617040725699310351084585854817129011753246127748964030413854525633190715875548631480060648955255476518703717934493416584654287151545453027212072361023366870608725576042669368667333719675724995494706645777621137060304017521484702088503639607947747215026989263530504204523251982333933107210391579300884546305432560571086131943194743723205005815139772394062686780566686930384812217785365992657908782936586832589627342388339882126362151219006413773645814561079952905486963953952063552645778936398310246717058410743450648594152841163565946295251582585294350653230459132165827590128826417871324965536217148578987470925657879977171716100377657863588641203253643922875913460814715430695689192746980757875303892414899783421563436119681070640173712093473782554642421452415184974056
theorem ioS:Tryd.prog.initOrder=String.ofList ioN:=by kernel_rfl
theorem ioL:Tryd.prog.initOrder.toList=ioN:=(congrArg String.toList ioS).trans String.toList_ofList
theorem ioW:wordsSigns Tryd.prog.initOrder.toList=(dc 7 509754063237352) :: (dc 64 583581952082889979719035725534559484815115086455805852996510235646750355970935781905203483690318741732481452225105900421668580921071669) :: (dc 3 1915619) :: ioR:=(congrArg wordsSigns ioL).trans (by kernel_rfl)
theorem ioB:behindMainWord (wordsSigns Tryd.prog.initOrder.toList)=(dc 3 1915619) :: ioR:=(congrArg behindMainWord ioW).trans (by kernel_rfl)
theorem zpA {P : Program} {l : List (List Char)} (h : behindMainWord (wordsSigns P.initOrder.toList) = l) : P.headLifts = (if (stripLifts liftWords l).2.head? == some "cut".toList then (stripLifts liftWords l).1 else []) := by subst h; rfl
theorem zIC {P:Program}{rest:List (List Char)}(h:behindMainWord (wordsSigns P.initOrder.toList)=(dc 3 1915619) :: rest):P.make=some .cut:=by unfold Program.make;rw[h];rfl
theorem zCQ {P:Program}{rest:List (List Char)}(h:behindMainWord (wordsSigns P.initOrder.toList)=(dc 3 1915619) :: rest) (hl:P.headLifts=[]):P.liftsFinal=false:=by unfold Program.liftsFinal;rw[h,hl];rfl
theorem zID {P : Program} {a b : List Char} {rest : List (List Char)} (h : wordsSigns P.initOrder.toList = a :: b :: rest) (hs : isSumSigns b = true) (ha : (a == "harness".toList) = true) : P.mainIs = some (true, b) := by unfold Program.mainIs; rw [h]; simp only [hs, ha]; rfl
theorem zCR {P : Program} {c : List Char} {rest : List (List Char)} (h : behindMainWord (wordsSigns P.initOrder.toList) = c :: rest) (hst : (stripLifts liftWords (c :: rest)).2.head? = some "cut".toList)
    (hs1:(stripLifts liftWords (c :: rest)).1=[]) (hlay:P.laysLater=false) (hb:P.bearsReflect=false) (hd:P.doorFits []=true):P.mayEnter=true:=by
  unfold Program.mayEnter
  rw[h]
  simp[hst,hs1,hlay,hb,hd]
theorem ioH:Tryd.prog.headLifts=[]:=(zpA ioB).trans (by kernel_rfl)
theorem ioK:Tryd.prog.make=some .cut:=zIC ioB
theorem ioF:Tryd.prog.liftsFinal=false:=zCQ ioB ioH
theorem ioM : Tryd.prog.mainIs = some (true, "5097d02014b7f9bdc457588f16a61179f96daee4a085c0a2c5462d863db43dbf".toList) := (zID ioW (by kernel_rfl) (by kernel_rfl)).trans (by kernel_rfl)
theorem ioE:Tryd.prog.mayEnter=true:=zCR ioB (by kernel_rfl) (by kernel_rfl) (by kernel_rfl) (by kernel_rfl) (by kernel_rfl)
end Go.Proofs.YtedhjaaikeakoaaDoor
namespace Go.Pm
open Go

theorem zbf {x:Int}(h1 : -9223372036854775808<=x) (h2:x<=9223372036854775807):w64 x=x:=by
 have hb:IntKind.i64.bits=64:=rfl
 have hs:IntKind.i64.signed=true:=rfl
 unfold w64 IntKind.wrap
 rw[hb,hs]
 simp only[Bool.true_and,decide_eq_true_eq]
 split <;> omega
theorem dqT {p:Prop} [Decidable p] (h:p):decide p=true:=decide_eq_true h
theorem dqF {p:Prop} [Decidable p] (h : ¬ p):decide p=false:=decide_eq_false h
theorem dqA {α:Type}(a b:α):cond true a b=a:=rfl
theorem dqB {α:Type}(a b:α):cond false a b=b:=rfl
theorem dqN (n:Nat):((n:Nat):Int).toNat=n:=Int.toNat_natCast n
theorem dqP {c:Prop}{h:Decidable c}(hc:c){α:Type}{t e:α} : ite c t e=t:=if_pos hc
theorem dqG {c:Prop}{h:Decidable c}(hc : ¬ c){α:Type}{t e:α} : ite c t e=e:=if_neg hc
def zOk (c : Nat → Bool) : Nat → Nat → Nat
  | 0,i=>i
  | m+1,i=>match c i with | true=>i | false=>zOk c m (i+1)
def fst (c:Nat->Bool) (n:Nat):Nat:=zOk c n 0
theorem zui {good : Nat → Bool} {fin : Bool} {n : Nat} {lpS lpP : Nat → Int → Bool}
    (hS:∀ (k i:Nat),i < n->lpS (k+1) (i:Int)=cond (good i) (lpS k (w64 ((i:Int)+(1:Int)))) false)
    (hE:∀ k,lpS (k+1) (n:Int)=fin)
    (hP:∀ (k i:Nat),i < n->lpP (k+1) (i:Int)=cond (good i) (lpP k (w64 ((i:Int)+(1:Int)))) true)
    (hPE:∀ k,lpP (k+1) (n:Int)=true) (hn:n<=9223372036854775807) :
    lpP Fuel 0=true/\(lpS Fuel 0=true↔(∀ i,i < n->good i=true)/\fin=true):=by
  have key:∀ (m k i:Nat),i+m=n->m < k->lpP k (i:Int)=true/\(lpS k (i:Int)=true↔(∀ j,i<=j->j < n->good j=true)/\fin=true):=by
    intro m
    induction m with
    | zero =>
      intro k i hi hk
      obtain⟨k,rfl⟩:∃ k',k=k'+1:=⟨k - 1,by omega⟩
      have:i=n:=by omega
      subst this
      rw[hE,hPE]
      exact⟨rfl,⟨λ h=>⟨λ j h1 h2=>absurd h2 (by omega),h⟩,λ h=>h.2⟩⟩
    | succ m ih =>
      intro k i hi hk
      obtain⟨k,rfl⟩:∃ k',k=k'+1:=⟨k - 1,by omega⟩
      rw[hS k i (by omega),hP k i (by omega)]
      have e3:w64 ((i:Int)+1)=((i+1:Nat):Int):=by rw[zbf (by omega) (by omega)];omega
      rw[e3]
      obtain⟨h1,h2⟩:=ih k (i+1) (by omega) (by omega)
      cases hg:good i
      · refine ⟨rfl, ⟨fun h => (by cases h), fun h => ?_⟩⟩
        have:=h.1 i (dqt _) (by omega)
        rw[hg] at this;cases this
      · refine ⟨h1, h2.trans ⟨fun h => ⟨fun j hj1 hj2 => ?_, h.2⟩, fun h => ⟨fun j hj1 hj2 => h.1 j (by omega) hj2, h.2⟩⟩⟩
        by_cases hji:j=i
        · rw[hji];exact hg
        · exact h.1 j (by omega) hj2
  have:=key n Fuel 0 (by omega) (by simp only[Fuel];omega)
  simpa using this

end Go.Pm
namespace Go.Pm
open Go
theorem zoe {i n:Nat}(h:i < n) (hn:n<=9223372036854775807):w64 ((i:Int)+(1:Int))=((i+1:Nat):Int):=by
 rw[zbf (by omega) (by omega)];omega
theorem zIE {β : Type} {good : Nat → Bool} {bad fin : β} {zI8 : Bool} {n : Nat} {lpS : Nat → Int → β} {lpP : Nat → Int → Bool}
    (hS:∀ (k i:Nat),i < n->lpS (k+1) (i:Int)=cond (good i) (lpS k (w64 ((i:Int)+(1:Int)))) bad)
    (hE:∀ k,lpS (k+1) (n:Int)=fin)
    (hP:∀ (k i:Nat),i < n->lpP (k+1) (i:Int)=cond (good i) (lpP k (w64 ((i:Int)+(1:Int)))) true)
    (hPE:∀ k,lpP (k+1) (n:Int)=zI8) (hn:n<=9223372036854775807) :
    ((∀ i,i < n->good i=true)->lpP Fuel 0=zI8/\lpS Fuel 0=fin)/\((¬ ∀ i,i < n->good i=true)->lpP Fuel 0=true/\lpS Fuel 0=bad):=by
  have key:∀ (m k i:Nat),i+m=n->m < k->((∀ j,i<=j->j < n->good j=true)->lpP k (i:Int)=zI8/\lpS k (i:Int)=fin)/\((¬ ∀ j,i<=j->j < n->good j=true)->lpP k (i:Int)=true/\lpS k (i:Int)=bad):=by
    intro m
    induction m with
    | zero =>
      intro k i hi hk
      obtain⟨k,rfl⟩:∃ k',k=k'+1:=⟨k - 1,by omega⟩
      have:i=n:=by omega
      subst this
      rw[hE,hPE]
      exact⟨λ _=>⟨rfl,rfl⟩,λ h=>absurd (λ j h1 h2=>absurd h2 (by omega)) h⟩
    | succ m ih =>
      intro k i hi hk
      obtain⟨k,rfl⟩:∃ k',k=k'+1:=⟨k - 1,by omega⟩
      rw[hS k i (by omega),hP k i (by omega),zoe (n:=n) (by omega) hn]
      obtain⟨h1,h2⟩:=ih k (i+1) (by omega) (by omega)
      cases hg:good i
      · refine ⟨fun h => ?_, fun _ => ⟨rfl, rfl⟩⟩
        have:=h i (dqt _) (by omega)
        rw[hg] at this;cases this
      · refine ⟨fun h => h1 fun j a b => h j (by omega) b, fun h => h2 fun h' => h fun j a b => ?_⟩
        by_cases hji:j=i
        · rw[hji];exact hg
        · exact h' j (by omega) b
  have:=key n Fuel 0 (by omega) (by simp only[Fuel];omega)
  simpa using this
end Go.Pm
namespace Go.Proofs
open Go Go.Pm
set_option maxRecDepth 100000
set_option linter.unusedVariables false
attribute [local irreducible] Go.Pm.vcFun Go.Pm.vc Go.Pm.vcIter
end Go.Proofs
namespace Go.Proofs
open Go Go.Pm
set_option maxRecDepth 100000
theorem zls (n a b:Int):s81 n a b=decide (a<=n/\n<=b):=by
 unfold s81
 by_cases h:a<=n
 ·rw[dqT (show n >= a from h),dqA];exact decide_eq_decide.2 ⟨λ k=>⟨h,k⟩,λ k=>k.2⟩
 ·rw[dqF (show ¬ n >= a from h),dqB];exact (dqF (λ k=>h k.1)).symm
theorem zEt (n a b:Int):s72 n a b=decide (a<=n/\n<=b):=zls n a b
theorem zAy (n:Net) (hn:n.Ties.len<=9223372036854775807):p67 n=true/\(s67 n=true↔(∀ i,i < n.Ties.len->s78 (n.Ties.get i) n.Nodes=true)/\(1<=n.Nodes/\n.Nodes<=40)/\n.Ties.len<=200):=by
  have := zui (good := fun i => s78 (n.Ties.get i) n.Nodes) (fin := cond (s81 n.Nodes (1:Int) (40:Int)) (decide ((n.Ties.len : Int) ≤ (200:Int))) false) (n := n.Ties.len) (lpS := ziA n) (lpP := ziB n)
    (λ k i hi=>by
      show ziy n (ziA n k) (i:Int)=_
      generalize ziA n k=S
      unfold ziy zqs
      rw[dqT (show (i:Int) < (n.Ties.len:Int) by omega),dqA,dqN]
      cases s78 (n.Ties.get i) n.Nodes <;> rfl)
    (λ k=>by
      show ziy n (ziA n k) (n.Ties.len:Int)=_
      unfold ziy
      rw[dqF (show ¬ (n.Ties.len:Int) < (n.Ties.len:Int) by omega),dqB])
    (λ k i hi=>by
      show ziz n (ziB n k) (i:Int)=_
      generalize ziB n k=S
      unfold ziz zqu
      rw[dqT (show (i:Int) < (n.Ties.len:Int) by omega),dqA,dqN,dqT (show 0<=(i:Int)/\(i:Int) < (n.Ties.len:Int) by omega),Bool.true_and]
      cases s78 (n.Ties.get i) n.Nodes <;> rfl)
    (λ k=>by
      show ziz n (ziB n k) (n.Ties.len:Int)=_
      unfold ziz
      rw[dqF (show ¬ (n.Ties.len:Int) < (n.Ties.len:Int) by omega),dqB])
    hn
  refine⟨this.1,this.2.trans ?_⟩
  rw[zls]
  by_cases h:1<=n.Nodes/\n.Nodes<=40
  · rw[dqT h,dqA,decide_eq_true_eq];exact⟨λ k=>⟨k.1,h,by omega⟩,λ k=>⟨k.1,by omega⟩⟩
  · rw[dqF h,dqB];exact⟨λ k=>absurd k.2 (by decide),λ k=>absurd k.2.1 h⟩
end Go.Proofs
namespace Go.Proofs
open Go Go.Pm
set_option maxRecDepth 100000
set_option linter.unusedVariables false
attribute [local irreducible] Go.Pm.vcFun Go.Pm.vc Go.Pm.vcIter
end Go.Proofs
namespace Go.Proofs
open Go Go.Pm
set_option maxRecDepth 100000
set_option linter.unusedVariables false
theorem dgt (x y:Int):decide (x > y) = !decide (x<=y):=by
 by_cases h:x > y
 ·rw[dqT h,dqF (show ¬ x<=y by omega)];rfl
 ·rw[dqF h,dqT (show x<=y by omega)];rfl
theorem zEu (nodes:Int) (t:Tie):s36 nodes t=s78 t nodes:=by
 unfold s36 ziY zrp s78 zk6 zk5
 simp only[zEt,zls,bne,dgt]
 generalize decide (0<=t.From/\t.From<=w64 (nodes - (1:Int)))=a
 generalize decide (0<=t.To/\t.To<=w64 (nodes - (1:Int)))=b
 generalize (t.From == t.To)=c
 generalize (t.Low == (-1000000000000:Int))=d
 generalize (t.High == (1000000000000:Int))=e
 generalize decide (-1000000000<=t.Low/\t.Low<=1000000000)=f
 generalize decide (-1000000000<=t.High/\t.High<=1000000000)=g
 generalize decide (t.Low<=t.High)=h
 cases a <;> cases b <;> cases c <;> cases d <;> cases e <;> cases f <;> cases g <;> cases h <;> rfl
structure TieOk (t : Tie) (nodes : Int) : Prop where
  f0:0<=t.From
  f1:t.From < nodes
  t0:0<=t.To
  t1:t.To < nodes
  ne:t.From ≠ t.To
  lo:t.Low = -1000000000000\/(-1000000000<=t.Low/\t.Low<=1000000000)
  hi:t.High=1000000000000\/(-1000000000<=t.High/\t.High<=1000000000)
  le:t.Low<=t.High
theorem zAz (t:Tie) (nodes:Int) (h1:1<=nodes) (h2:nodes<=40):s78 t nodes=true↔TieOk t nodes:=by
 have e:s78 t nodes=(decide (0<=t.From/\t.From < nodes) && (decide (0<=t.To/\t.To < nodes) && (!(t.From == t.To) && (((t.Low == (-1000000000000:Int)) || decide (-1000000000<=t.Low/\t.Low<=1000000000)) && (((t.High == (1000000000000:Int)) || decide (-1000000000<=t.High/\t.High<=1000000000)) && decide (t.Low<=t.High)))))):=by
  unfold s78 zk6 zk5
  rw[zbf (x:=nodes - 1) (by omega) (by omega)]
  simp only[zls]
  rw[decide_eq_decide.2 (show (0<=t.From/\t.From<=nodes - 1)↔(0<=t.From/\t.From < nodes) by omega),decide_eq_decide.2 (show (0<=t.To/\t.To<=nodes - 1)↔(0<=t.To/\t.To < nodes) by omega)]
  simp only[bne]
  generalize decide (0<=t.From/\t.From < nodes)=a
  generalize decide (0<=t.To/\t.To < nodes)=b
  generalize (t.From == t.To)=c
  generalize (t.Low == (-1000000000000:Int))=d
  generalize (t.High == (1000000000000:Int))=e
  generalize decide (-1000000000<=t.Low/\t.Low<=1000000000)=f
  generalize decide (-1000000000<=t.High/\t.High<=1000000000)=g
  generalize decide (t.Low<=t.High)=h
  cases a <;> cases b <;> cases c <;> cases d <;> cases e <;> cases f <;> cases g <;> cases h <;> rfl
 rw[e]
 simp only[dqm,Bool.or_eq_true,decide_eq_true_eq,Bool.not_eq_true',dqU,beq_iff_eq]
 constructor
 ·rintro⟨⟨a,b⟩,⟨c,d⟩,e,f,g,h⟩;exact⟨a,b,c,d,e,f,g,h⟩
 ·rintro⟨a,b,c,d,e,f,g,h⟩;exact⟨⟨a,b⟩,⟨c,d⟩,e,f,g,h⟩
structure NetOk (n : Net) : Prop where
  n1:1<=n.Nodes
  n40:n.Nodes<=40
  len:n.Ties.len<=200
  tie:∀ i,i < n.Ties.len->TieOk (n.Ties.get i) n.Nodes
theorem zAA (n:Net) (hn:n.Ties.len<=9223372036854775807):p67 n=true/\(s67 n=true↔NetOk n):=by
 obtain⟨h1,h2⟩:=zAy n hn
 refine⟨h1,h2.trans ?_⟩
 constructor
 ·rintro⟨a,⟨b,c⟩,d⟩;exact⟨b,c,by omega,λ i hi=>(zAz _ _ b c).1 (a i hi)⟩
 ·rintro⟨b,c,d,a⟩;exact⟨λ i hi=>(zAz _ _ b c).2 (a i hi),⟨b,c⟩,by omega⟩
theorem zLE (n:Net) (hn:n.Ties.len<=9223372036854775807):p23 n=true/\s23 n=s67 n:=by
  have hl := zui (good := fun i => s36 n.Nodes (n.Ties.get i)) (fin := true) (n := n.Ties.len) (lpS := zhq n) (lpP := zi1 n)
    (λ k i hi=>by
      show ziZ n (zhq n k) (i:Int)=_
      generalize zhq n k=S
      unfold ziZ zrr
      rw[dqT (show (i:Int) < (n.Ties.len:Int) by omega),dqA,dqN]
      cases s36 n.Nodes (n.Ties.get i) <;> rfl)
    (λ k=>by
      show ziZ n (zhq n k) (n.Ties.len:Int)=_
      unfold ziZ
      rw[dqF (show ¬ (n.Ties.len:Int) < (n.Ties.len:Int) by omega),dqB])
    (λ k i hi=>by
      show zi0 n (zi1 n k) (i:Int)=_
      generalize zi1 n k=S
      unfold zi0 zrt
      rw[dqT (show (i:Int) < (n.Ties.len:Int) by omega),dqA,dqN,dqT (show 0<=(i:Int)/\(i:Int) < (n.Ties.len:Int) by omega),Bool.true_and]
      cases s36 n.Nodes (n.Ties.get i) <;> rfl)
    (λ k=>by
      show zi0 n (zi1 n k) (n.Ties.len:Int)=_
      unfold zi0
      rw[dqF (show ¬ (n.Ties.len:Int) < (n.Ties.len:Int) by omega),dqB])
    hn
  obtain⟨h1,h2⟩:=zAy n hn
  unfold p23 s23 znP znO zry zrx zrv zru
  rw[hl.1,zEt,dgt]
  refine⟨by cases decide (1<=n.Nodes/\n.Nodes<=40) <;> cases decide ((n.Ties.len:Int)<=200) <;> rfl,?_⟩
  have h3:=hl.2
  have h4:zhq n Fuel 0=true↔∀ i,i < n.Ties.len->s78 (n.Ties.get i) n.Nodes=true:=h3.trans ⟨λ h i hi=>by rw[<- zEu];exact h.1 i hi,λ h=>⟨λ i hi=>by rw[zEu];exact h i hi,rfl⟩⟩
  rw[Bool.eq_iff_iff,h2]
  by_cases a:1<=n.Nodes/\n.Nodes<=40
  · rw [dqT a]
    by_cases b:(n.Ties.len:Int)<=200
    · rw[dqT b];exact h4.trans ⟨λ h=>⟨h,a,by omega⟩,λ h=>h.1⟩
    · rw[dqF b];exact⟨λ h=>absurd h dqk,λ h=>absurd h.2.2 (by omega)⟩
  · rw[dqF a];exact⟨λ h=>absurd h dqk,λ h=>absurd h.2.1 a⟩
structure ValOk (n : Net) (v : Sl Int) : Prop where
  len:(v.len:Int)=n.Nodes
  zero:v.get 0=0
  b:∀ i,i < v.len->-1000000000000<=v.get i/\v.get i<=1000000000000
def Keep (t:Tie) (v:Sl Int):Prop:=(t.Low = -1000000000000\/t.Low<=v.get t.To.toNat - v.get t.From.toNat)/\(t.High=1000000000000\/v.get t.To.toNat - v.get t.From.toNat<=t.High)
structure AgOk (n : Net) (v : Sl Int) : Prop where
  val:ValOk n v
  keep:∀ i,i < n.Ties.len->Keep (n.Ties.get i) v
theorem zAB {n:Net}{t:Int}(h:s20 n t=true) (ht:t<=210):n.Ties.len<=210:=by
 unfold s20 at h
 by_cases h1:(n.Ties.len:Int)<=t
 ·omega
 ·by_cases h2 : (n.Ties.len : Int) ≤ 210
  ·omega
  ·rw [dqF h1, dqF h2] at h
   exact absurd h (by cases decide (n.Nodes<=7) <;> cases decide (n.Nodes > 40) <;> cases decide ((n.Ties.len:Int) > 200) <;> decide)
end Go.Proofs
namespace Go.Pm
structure Ed where
  u:Nat
  v:Nat
  w:Int
def wt : List Ed → Int
  | []=>0
  | e :: l=>e.w+wt l
theorem zfD (c d:List Ed):wt (c ++ d)=wt c+wt d:=by
 induction c with
 | nil=>show wt d=0+wt d;omega
 | cons e l ih=>show e.w+wt (l ++ d)=e.w+wt l+wt d;omega
theorem zgI (e:Ed):wt [e]=e.w:=Int.add_zero _
def zeZ (E : List Ed) : Nat → List Ed → Nat → Prop
  | a,[],b=>a=b
  | a,e :: l,b=>e∈E/\e.u=a/\zeZ E e.v l b
theorem zcI {E:List Ed}{c d:List Ed}{a b:Nat} : zeZ E a (c ++ d) b↔∃ m,zeZ E a c m/\zeZ E m d b:=by
 induction c generalizing a with
 | nil=>exact⟨λ h=>⟨a,rfl,h⟩,λ ⟨m,h1,h2⟩=>by cases h1;exact h2⟩
 | cons e l ih =>
  constructor
  ·rintro ⟨h1, h2, h3⟩
   obtain⟨m,k1,k2⟩:=ih.1 h3
   exact⟨m,⟨h1,h2,k1⟩,k2⟩
  ·rintro ⟨m, ⟨h1, h2, h3⟩, h4⟩
   exact⟨h1,h2,ih.2 ⟨m,h3,h4⟩⟩
theorem zdz {E:List Ed}{e:Ed}(h:e∈E):zeZ E e.u [e] e.v:=⟨h,rfl,rfl⟩
def zbt (E:List Ed):Prop:=∀ a c,zeZ E a c a->0<=wt c
abbrev zby:=Nat->Option Int
def zhD (d:zby) (v:Nat) (x:Int):zby:=λ j=>if j=v then some x else d j
def ltO (x : Int) : Option Int → Bool
  | none=>true
  | some y=>decide (x < y)
def rlF (s:zby×Bool) (e:Ed):zby×Bool :=
 match s.1 e.u with
 | none=>s
 | some x=>cond (ltO (x+e.w) (s.1 e.v)) (zhD s.1 e.v (x+e.w),true) s
def Sat (d:zby) (e:Ed):Prop:=∀ x,d e.u=some x->∃ y,d e.v=some y/\y<=x+e.w
theorem zlt {x:Int}{o:Option Int}(h:ltO x o=false):∃ y,o=some y/\y<=x:=by
 cases o with
 | none=>cases h
 | some y=>exact⟨y,rfl,Int.not_lt.1 (of_decide_eq_false h)⟩
theorem zLF {x y:Int}(h:y<=x):ltO x (some y)=false:=dqF (Int.not_lt.2 h)
theorem zsz {d:zby}{c:Bool}{e:Ed}(h:Sat d e):rlF (d,c) e=(d,c):=by
 unfold rlF
 cases hu:d e.u with
 | none=>simp only[hu]
 | some x =>
  obtain⟨y,h1,h2⟩:=h x hu
  simp only[hu,h1,zLF h2,dqB]
theorem zAC {d:zby}{c:Bool}{e:Ed}(h : ¬ Sat d e):(rlF (d,c) e).2=true:=by
 unfold rlF
 cases hu:d e.u with
 | none=>exact absurd (λ x hx=>by rw[hu] at hx;cases hx) h
 | some x =>
  simp only[hu]
  cases hl:ltO (x+e.w) (d e.v)
  ·obtain ⟨y, h1, h2⟩ := zlt hl
   exact absurd (λ x' hx'=>⟨y,h1,by rw[hu] at hx';cases hx';exact h2⟩) h
  ·rfl
theorem zCS {s:zby×Bool}{e:Ed}(h:s.2=true):(rlF s e).2=true:=by
 unfold rlF
 cases s.1 e.u with
 | none=>exact h
 | some x=>simp only[];cases ltO (x+e.w) (s.1 e.v) <;> first | exact h | rfl
theorem zAD {E:List Ed}{s:zby×Bool}(h:s.2=true):(E.foldl rlF s).2=true:=by
 induction E generalizing s with
 | nil=>exact h
 | cons e l ih=>exact ih (zCS h)
theorem zib {E:List Ed}{d:zby}{c:Bool}(h:∀ e∈E,Sat d e):E.foldl rlF (d,c)=(d,c):=by
 induction E with
 | nil=>rfl
 | cons e l ih =>
  show l.foldl rlF (rlF (d,c) e)=_
  rw[zsz (h e (dqj ..))]
  exact ih λ e he=>h e (dqf _ he)
theorem zgX {E:List Ed}{d:zby}{c:Bool}(h:(E.foldl rlF (d,c)).2=false):∀ e∈E,Sat d e:=by
 induction E with
 | nil=>intro e he;cases he
 | cons e l ih =>
  have h':(l.foldl rlF (rlF (d,c) e)).2=false:=h
  have hs:Sat d e:=Classical.byContradiction λ hn=>by
   rw[zAD (zAC hn)] at h';cases h'
  rw[zsz hs] at h'
  intro e' he'
  rcases dqq.1 he' with rfl | hm
  ·exact hs
  ·exact ih h' e' hm
def leO (a b:Option Int):Prop:=∀ y,b=some y->∃ x,a=some x/\x<=y
theorem zcU (a:Option Int):leO a a:=λ y h=>⟨y,h,Int.le_refl _⟩
theorem zcn {a b c:Option Int}(h1:leO a b) (h2:leO b c):leO a c:=λ y h=>by
 obtain⟨x,hx,hxy⟩:=h2 y h
 obtain⟨z,hz,hzx⟩:=h1 x hx
 exact⟨z,hz,Int.le_trans hzx hxy⟩
theorem zAE (s:zby×Bool) (e:Ed) (v:Nat):leO ((rlF s e).1 v) (s.1 v):=by
 unfold rlF
 cases hu:s.1 e.u with
 | none=>exact zcU _
 | some x =>
  simp only[]
  cases hl:ltO (x+e.w) (s.1 e.v)
  ·exact zcU _
  ·show leO (zhD s.1 e.v (x + e.w) v) _
   unfold zhD
   by_cases hv:v=e.v
   ·rw [dqP hv]
    intro y hy
    refine⟨_,rfl,?_⟩
    rw[hv] at hy
    rw[hy] at hl
    exact Int.le_of_lt (of_decide_eq_true hl)
   ·rw[dqG hv];exact zcU _
theorem zAF (E:List Ed) (s:zby×Bool) (v:Nat):leO ((E.foldl rlF s).1 v) (s.1 v):=by
 induction E generalizing s with
 | nil=>exact zcU _
 | cons e l ih=>exact zcn (ih (rlF s e)) (zAE s e v)
theorem zLG {s:zby×Bool}{e:Ed}{x:Int}(h:s.1 e.u=some x):leO ((rlF s e).1 e.v) (some (x+e.w)):=by
 unfold rlF
 simp only[h]
 cases hl:ltO (x+e.w) (s.1 e.v)
 ·obtain ⟨y, h1, h2⟩ := zlt hl
  intro z hz;cases hz
  exact⟨y,h1,h2⟩
 ·intro z hz; cases hz
  exact⟨x+e.w,by show zhD s.1 e.v (x+e.w) e.v=_;unfold zhD;rw[dqP rfl],Int.le_refl _⟩
theorem zCT {E:List Ed}{s:zby×Bool}{e:Ed}{x:Int}(he:e∈E) (h:s.1 e.u=some x):leO ((E.foldl rlF s).1 e.v) (some (x+e.w)):=by
 induction E generalizing s x with
 | nil=>cases he
 | cons f l ih =>
  rcases dqq.1 he with rfl | hm
  ·exact zcn (zAF l (rlF s e) e.v) (zLG h)
  ·obtain ⟨x', h1, h2⟩ := zAE s f e.u x h
   intro z hz;cases hz
   obtain⟨y,k1,k2⟩:=ih hm h1 _ rfl
   exact⟨y,k1,by omega⟩
def rnd (E:List Ed) (d:zby):zby:=(E.foldl rlF (d,false)).1
def rds (E : List Ed) : Nat → zby → zby
  | 0,d=>d
  | k+1,d=>rds E k (rnd E d)
theorem zml (E:List Ed) (k:Nat) (d:zby) (v:Nat):leO (rds E k d v) (d v):=by
 induction k generalizing d with
 | zero=>exact zcU _
 | succ k ih=>exact zcn (ih (rnd E d)) (zAF E (d,false) v)
theorem zLH {E:List Ed}{c:List Ed} : ∀ {a b k:Nat}{d:zby}{y:Int},zeZ E a c b->d a=some y->c.length<=k->leO (rds E k d b) (some (y+wt c)):=by
 induction c with
 | nil =>
  intro a b k d y h hd _
  cases h
  intro z hz;cases hz
  obtain⟨x,h1,h2⟩:=zml E k d a y hd
  exact⟨x,h1,by show x<=y+0;omega⟩
 | cons e l ih =>
  intro a b k d y h hd hk
  obtain⟨k,rfl⟩:∃ k',k=k'+1:=⟨k - 1,by simp only[dqr] at hk;omega⟩
  obtain⟨h1,h2,h3⟩:=h
  subst h2
  obtain⟨x,k1,k2⟩:=zCT (s:=(d,false)) h1 hd _ rfl
  intro z hz;cases hz
  obtain⟨z,m1,m2⟩:=ih (k:=k) (d:=rnd E d) h3 k1 (by simp only[dqr] at hk;omega) _ rfl
  exact⟨z,m1,by show z<=y+(e.w+wt l);omega⟩
def Fix (E:List Ed) (d:zby):Prop:=∀ e∈E,Sat d e
theorem zhy {E:List Ed}{d:zby}(h:Fix E d):rnd E d=d:=by unfold rnd;rw[zib h]
theorem zsA {E:List Ed}{d:zby}(h:Fix E d) (k:Nat):rds E k d=d:=by
 induction k with
 | zero=>rfl
 | succ k ih=>show rds E k (rnd E d)=d;rw[zhy h,ih]
theorem zEv {E:List Ed}{d:zby}(h:Fix E d){c:List Ed} : ∀ {a b:Nat}{x:Int},zeZ E a c b->d a=some x->∃ y,d b=some y/\y<=x+wt c:=by
 induction c with
 | nil=>intro a b x hc hx;cases hc;exact⟨x,hx,by show x<=x+0;omega⟩
 | cons e l ih =>
  rintro a b x ⟨h1,h2,h3⟩ hx
  subst h2
  obtain⟨y,k1,k2⟩:=h e h1 x hx
  obtain⟨z,m1,m2⟩:=ih h3 k1
  exact⟨z,m1,by show z<=x+(e.w+wt l);omega⟩
theorem zlu (n:Nat):∀ {l:List Nat},l.Nodup->(∀ x∈l,x < n)->l.length<=n:=by
 induction n with
 | zero =>
  intro l _ h
  cases l with
  | nil=>exact dqt _
  | cons x l=>exact absurd (h x (dqj ..)) (dqW _)
 | succ n ih =>
  intro l hd h
  have h1:=ih (l:=l.filter (λ x=>x != n)) (hd.filter _) (λ x hx=>by
   obtain⟨hx1,hx2⟩:=List.mem_filter.1 hx
   have:=h x hx1
   have:x ≠ n:=by simpa using hx2
   omega)
  have h2:l.length<=(l.filter (λ x=>x != n)).length+1:=by
   clear h1 ih h
   induction l with
   | nil=>exact Nat.zero_le _
   | cons x l ihl =>
    rw[List.nodup_cons] at hd
    by_cases hx:x=n
    ·subst hx
     have:l.filter (λ y=>y != x)=l:=List.filter_eq_self.2 λ y hy=>by
      have:y ≠ x:=λ e=>hd.1 (e ▸ hy)
      simpa using this
     rw[List.filter_cons_of_neg (by simp),this]
     exact dqt _
    ·rw [List.filter_cons_of_pos (by simpa using hx)]
     have:=ihl hd.2
     simp only[dqr];omega
  omega
def nodes (a:Nat) (c:List Ed):List Nat:=a :: c.map Ed.v
theorem zlv (a:Nat) (c:List Ed):(nodes a c).length=c.length+1:=by simp[nodes]
theorem zCU {E:List Ed}{c:List Ed} : ∀ {a b m:Nat},zeZ E a c b->m∈nodes a c->∃ c1 c2,c=c1 ++ c2/\zeZ E a c1 m/\zeZ E m c2 b:=by
 induction c with
 | nil =>
  intro a b m h hm
  have:m=a:=by simpa [nodes] using hm
  subst this
  exact⟨[],[],rfl,rfl,h⟩
 | cons e l ih =>
  intro a b m h hm
  rcases dqq.1 hm with rfl | hm'
  ·exact⟨[],e :: l,rfl,rfl,h⟩
  ·obtain ⟨h1, h2, h3⟩ := h
   obtain⟨c1,c2,k1,k2,k3⟩:=ih h3 (m:=m) (by simpa [nodes] using hm')
   exact⟨e :: c1,c2,by rw[k1];rfl,⟨h1,h2,k2⟩,k3⟩
structure Att (E : List Ed) (Src : Nat → Prop) (d : zby) (v : Nat) (x : Int) (a : Nat) (c : List Ed) : Prop where
  src:Src a
  ch:zeZ E a c v
  wt:x=wt c
  nd:(nodes a c).Nodup
  pre:∀ c1 c2 m,c=c1 ++ c2->zeZ E a c1 m->leO (d m) (some (Go.Pm.wt c1))
def Inv (E:List Ed) (Src:Nat->Prop) (d:zby):Prop:=∀ v x,d v=some x->∃ a c,Att E Src d v x a c
theorem zEw {d d':zby}{E:List Ed}{Src:Nat->Prop}{v:Nat}{x:Int}{a:Nat}{c:List Ed}(h:Att E Src d v x a c) (hd:∀ m,leO (d' m) (d m)):Att E Src d' v x a c :=
 ⟨h.src,h.ch,h.wt,h.nd,λ c1 c2 m h1 h2=>zcn (hd m) (h.pre c1 c2 m h1 h2)⟩
theorem zj2 {d:zby}{E:List Ed}{Src:Nat->Prop}(hn:zbt E){e:Ed}(he:e∈E){x:Int}{a:Nat}{c:List Ed}(h:Att E Src d e.u x a c) (hm:e.v∈nodes a c):leO (d e.v) (some (x+e.w)):=by
 obtain⟨c1,c2,k1,k2,k3⟩:=zCU h.ch hm
 have hc:=hn e.v (c2 ++ [e]) (zcI.2 ⟨e.u,k3,zdz he⟩)
 rw[zfD,zgI] at hc
 have hx:=h.wt
 rw[k1,zfD] at hx
 obtain⟨y,m1,m2⟩:=h.pre c1 c2 e.v k1 k2 _ rfl
 intro z hz;cases hz
 exact⟨y,m1,by omega⟩
theorem zuj {E:List Ed}{c:List Ed} : ∀ {a b b':Nat},zeZ E a c b->zeZ E a c b'->b=b':=by
 induction c with
 | nil=>intro a b b' h1 h2;cases h1;cases h2;rfl
 | cons e l ih=>rintro a b b' ⟨_,_,h1⟩ ⟨_,_,h2⟩;exact ih h1 h2
theorem zic {c c1 c2:List Ed}{e:Ed}(h:c ++ [e]=c1 ++ c2):c1=c ++ [e]\/∃ c3,c=c1 ++ c3:=by
 rcases List.append_eq_append_iff.1 h with ⟨a',h1,h2⟩ | ⟨c',h1,_⟩
 ·cases a' with
  | nil=>exact .inr ⟨[],by rw[h1];simp⟩
  | cons f a'' =>
   have:a''=[]/\c2=[]:=by
    cases a'' with
    | nil=>simp at h2;exact⟨rfl,h2.2⟩
    | cons g b=>simp at h2
   obtain⟨rfl,rfl⟩:=this
   simp at h2
   exact .inl (by rw[h1,h2])
 ·exact .inr ⟨c',h1⟩
theorem zjq {E:List Ed}{Src:Nat->Prop}(hn:zbt E){s:zby×Bool}{e:Ed}(he:e∈E) (h:Inv E Src s.1):Inv E Src (rlF s e).1:=by
 intro v x hx
 have hle:=zAE s e
 unfold rlF at hx hle ⊢
 cases hu:s.1 e.u with
 | none =>
  simp only[hu] at hx ⊢
  obtain⟨a,c,hc⟩:=h v x hx
  exact⟨a,c,hc⟩
 | some y =>
  simp only[hu] at hx hle ⊢
  cases hl:ltO (y+e.w) (s.1 e.v) with
  | false =>
   simp only[hl,dqB] at hx ⊢
   exact h v x hx
  | true =>
   simp only[hl,dqA] at hx hle ⊢
   by_cases hv:v=e.v
   ·subst hv
    have hx':y+e.w=x:=by
     unfold zhD at hx;rw[dqP rfl] at hx;exact Option.some.inj hx
    obtain⟨a,c,hc⟩:=h e.u y hu
    have hnot:e.v ∉ nodes a c:=λ hm=>by
     obtain⟨z,h1,h2⟩:=zj2 hn he hc hm _ rfl
     rw[h1] at hl
     have:=of_decide_eq_true hl
     omega
    refine⟨a,c ++ [e],hc.src,zcI.2 ⟨e.u,hc.ch,zdz he⟩,by rw[zfD,zgI,<- hc.wt];omega,?_,?_⟩
    ·show (a :: (c ++ [e]).map Ed.v).Nodup
     rw[List.map_append,<- List.cons_append]
     refine List.nodup_append.2 ⟨hc.nd,by simp,λ p hp q hq=>?_⟩
     have:q=e.v:=by simpa using hq
     subst this
     exact λ e'=>hnot (e' ▸ hp)
    ·intro c1 c2 m h1 h2
     rcases zic h1 with rfl | ⟨c3,h3⟩
     ·have : m = e.v := zuj h2 (zcI.2 ⟨e.u, hc.ch, zdz he⟩)
      subst this
      intro z hz;cases hz
      refine⟨x,hx,?_⟩
      rw[zfD,zgI,<- hc.wt];omega
     ·exact zcn (hle m) (hc.pre c1 c3 m h3 h2)
   ·have hx':s.1 v=some x:=by
     unfold zhD at hx;rw[dqG hv] at hx;exact hx
    obtain⟨a,c,hc⟩:=h v x hx'
    exact⟨a,c,zEw hc hle⟩
theorem zj3 {E F:List Ed}{Src:Nat->Prop}(hn:zbt E) (hF:∀ e∈F,e∈E){s:zby×Bool}(h:Inv E Src s.1):Inv E Src (F.foldl rlF s).1:=by
 induction F generalizing s with
 | nil=>exact h
 | cons e l ih=>exact ih (λ e he=>hF e (dqf _ he)) (zjq hn (hF e (dqj ..)) h)
theorem zsB {E:List Ed}{Src:Nat->Prop}(hn:zbt E) (k:Nat){d:zby}(h:Inv E Src d):Inv E Src (rds E k d):=by
 induction k generalizing d with
 | zero=>exact h
 | succ k ih=>exact ih (zj3 hn (λ _ h=>h) (s:=(d,false)) h)
structure Start (Src : Nat → Prop) (d : zby) : Prop where
  only:∀ v x,d v=Option.some x->Src v/\x=0
  src:∀ v,Src v->d v=Option.some 0
theorem zes {E:List Ed}{Src:Nat->Prop}{d:zby}(h:Start Src d):Inv E Src d:=λ v x hx=>by
 obtain⟨h1,h2⟩:=h.only v x hx
 refine⟨v,[],h1,rfl,h2,by simp[nodes],λ c1 c2 m e hc=>?_⟩
 have:c1=[]:=by
  cases c1 with
  | nil=>rfl
  | cons _ _=>cases e
 subst this
 cases hc
 rw[hx,h2]
 exact zcU _
theorem zof {E:List Ed}{n:Nat}(hE:∀ e∈E,e.u < n/\e.v < n){c:List Ed} : ∀ {a b:Nat},a < n->zeZ E a c b->∀ x∈nodes a c,x < n:=by
  induction c with
  | nil => intro a b ha _ x hx; have : x = a := by simpa [nodes] using hx
           omega
  | cons e l ih =>
    rintro a b ha ⟨h1,h2,h3⟩ x hx
    rcases dqq.1 hx with rfl | hm
    · exact ha
    · exact ih (hE e h1).2 h3 x (by simpa [nodes] using hm)
theorem zAG {E:List Ed}{n:Nat}{Src:Nat->Prop}(hE:∀ e∈E,e.u < n/\e.v < n) (hS:∀ a,Src a->a < n){d:zby}{v:Nat}{x:Int}{a:Nat}{c:List Ed}(h:Att E Src d v x a c):c.length+1<=n:=by
 have:=zlu n h.nd (zof hE (hS a h.src) h.ch)
 rwa[zlv] at this
theorem zAH {E:List Ed}{n:Nat}{Src:Nat->Prop}(hn:zbt E) (hE:∀ e∈E,e.u < n/\e.v < n) (hS:∀ a,Src a->a < n){d:zby}(h0:Start Src d):Fix E (rds E (n - 1) d):=by
 intro e he x hx
 obtain⟨a,c,hc⟩:=zsB hn (n - 1) (zes (E:=E) h0) e.u x hx
 by_cases hm:e.v∈nodes a c
 ·exact zj2 hn he hc hm _ rfl
 ·have hlen:(c ++ [e]).length<=n - 1:=by
   have hnd:(nodes a (c ++ [e])).Nodup:=by
    show (a :: (c ++ [e]).map Ed.v).Nodup
    rw[List.map_append,<- List.cons_append]
    refine List.nodup_append.2 ⟨hc.nd,by simp,λ p hp q hq=>?_⟩
    have:q=e.v:=by simpa using hq
    subst this
    exact λ e'=>hm (e' ▸ hp)
   have hch:zeZ E a (c ++ [e]) e.v:=zcI.2 ⟨e.u,hc.ch,zdz he⟩
   have:=zlu n hnd (zof hE (hS a hc.src) hch)
   rw[zlv] at this
   omega
  have:=zLH (zcI.2 ⟨e.u,hc.ch,zdz he⟩) (h0.src a hc.src) hlen _ rfl
  rw[zfD,zgI,<- hc.wt] at this
  obtain⟨z,h1,h2⟩:=this
  exact⟨z,h1,by omega⟩
theorem zLI {E:List Ed}{f:Nat->Int}(h:∀ e∈E,f e.v<=f e.u+e.w){c:List Ed} : ∀ {a b:Nat},zeZ E a c b->f b<=f a+wt c:=by
 induction c with
 | nil=>intro a b hc;cases hc;show f a<=f a+0;omega
 | cons e l ih =>
  rintro a b ⟨h1,h2,h3⟩
  subst h2
  have:=ih h3
  have:=h e h1
  show f b<=f e.u+(e.w+wt l);omega
theorem zpB {E:List Ed}{f:Nat->Int}(h:∀ e∈E,f e.v<=f e.u+e.w):zbt E:=λ a c hc=>by
 have:=zLI h hc;omega
end Go.Pm
namespace Go.Pm
theorem zIF {E:List Ed}{f:Ed->Ed}(hu:∀ e,(f e).u=e.u) (hv:∀ e,(f e).v=e.v){c:List Ed} : ∀ {a b:Nat},zeZ E a c b->zeZ (E.map f) a (c.map f) b:=by
 induction c with
 | nil=>intro a b h;exact h
 | cons e l ih =>
  rintro a b ⟨h1,h2,h3⟩
  exact⟨List.mem_map_of_mem h1,by rw[hu];exact h2,by rw[hv];exact ih h3⟩
theorem zEx {E:List Ed}{f:Ed->Ed}(hu:∀ e,(f e).u=e.u) (hv:∀ e,(f e).v=e.v){c:List Ed} : ∀ {a b:Nat},zeZ (E.map f) a c b->∃ c0,c=c0.map f/\zeZ E a c0 b:=by
 induction c with
 | nil=>intro a b h;exact⟨[],rfl,h⟩
 | cons e l ih =>
  rintro a b ⟨h1,h2,h3⟩
  obtain⟨e0,k1,rfl⟩:=dqz.1 h1
  obtain⟨c0,k2,k3⟩:=ih h3
  exact⟨e0 :: c0,by rw[k2];rfl,k1,by rw[<- hu];exact h2,by rw[<- hv];exact k3⟩
def edM (e:Ed):Ed:=⟨e.u,e.v,e.w * 1048576+1⟩
def edR (e:Ed):Ed:=⟨e.v,e.u,e.w⟩
theorem zNL (c:List Ed):wt (c.map edM)=wt c * 1048576+c.length:=by
 induction c with
 | nil=>rfl
 | cons e l ih =>
  show e.w * 1048576+1+wt (l.map edM)=(e.w+wt l) * 1048576+((l.length+1:Nat):Int)
  omega
theorem zOl (c:List Ed):wt (c.reverse.map edR)=wt c:=by
 induction c with
 | nil=>rfl
 | cons e l ih =>
  rw[List.reverse_cons,List.map_append,zfD,ih]
  show wt l+wt [edR e]=e.w+wt l
  rw[zgI]
  show wt l+e.w=_
  omega
theorem zOm {E:List Ed}{c:List Ed} : ∀ {a b:Nat},zeZ E a c b->zeZ (E.map edR) b (c.reverse.map edR) a:=by
 induction c with
 | nil=>intro a b h;exact Eq.symm h
 | cons e l ih =>
  rintro a b ⟨h1,h2,h3⟩
  rw[List.reverse_cons,List.map_append]
  exact zcI.2 ⟨e.v,ih h3,List.mem_map_of_mem h1,rfl,h2⟩
theorem zLJ (E:List Ed):(E.map edR).map edR=E:=by
 rw[List.map_map]
 exact (List.map_congr_left λ e _=>rfl).trans (List.map_id E)
theorem zLK {E:List Ed}{c:List Ed}{a b:Nat}(h:zeZ (E.map edR) a c b):∃ c0,zeZ E b c0 a/\wt c0=wt c/\c0.length=c.length:=by
 have:=zOm h
 rw[zLJ] at this
 exact⟨_,this,zOl c,by simp⟩
theorem zgJ {E:List Ed}(h:zbt E):zbt (E.map edR):=λ a c hc=>by
 obtain⟨c0,h1,h2,_⟩:=zLK hc
 rw[<- h2];exact h a c0 h1
theorem zgK {E:List Ed}(h:zbt E):zbt (E.map edM):=λ a c hc=>by
 obtain⟨c0,rfl,h1⟩:=zEx (f:=edM) (λ _=>rfl) (λ _=>rfl) hc
 rw[zNL]
 have:=h a c0 h1
 omega
def zIG : Option Int → Int × Int
  | none=>((1000000000000:Int),(0:Int))
  | some x=>(x / 1048576,x % 1048576)
theorem zsC {L U:Int}(h0:0<=U) (h1:U < 1048576):zIG (some (L * 1048576+U))=(L,U):=by
 show ((L * 1048576+U) / 1048576,(L * 1048576+U) % 1048576)=(L,U)
 rw[show (L * 1048576+U) / 1048576=L by omega,show (L * 1048576+U) % 1048576=U by omega]
def zjP (s:Nat):zby:=λ v=>if v=s then some 0 else none
theorem zdr (s:Nat):Start (λ v=>v=s) (zjP s) :=
 ⟨λ v x h=>(by
  unfold zjP at h
  by_cases hv:v=s
  ·rw[dqP hv] at h;cases h;exact⟨hv,rfl⟩
  ·rw[dqG hv] at h;cases h),λ v h=>dqP h⟩
structure EdOk (E : List Ed) (n : Nat) : Prop where
  lt:∀ e∈E,e.u < n/\e.v < n
  w:∀ e∈E,-1000000000<=e.w/\e.w<=1000000000
  n1:1<=n
  n40:n<=40
theorem EdOk.R {E:List Ed}{n:Nat}(h:EdOk E n):EdOk (E.map edR) n :=
  ⟨λ e he=>(by obtain⟨f,h1,rfl⟩:=dqz.1 he;exact⟨(h.lt f h1).2,(h.lt f h1).1⟩),
   λ e he=>(by obtain⟨f,h1,rfl⟩:=dqz.1 he;exact h.w f h1),h.n1,h.n40⟩
theorem EdOk.ltM {E:List Ed}{n:Nat}(h:EdOk E n):∀ e∈E.map edM,e.u < n/\e.v < n :=
 λ e he=>by obtain⟨f,h1,rfl⟩:=dqz.1 he;exact h.lt f h1
theorem zid {E:List Ed}{n:Nat}(h:EdOk E n){c:List Ed} : ∀ {a b:Nat},zeZ E a c b->-1000000000 * (c.length:Int)<=wt c/\wt c<=1000000000 * (c.length:Int):=by
 induction c with
 | nil=>intro a b _;exact⟨(by show _<=(0:Int);simp),(by show (0:Int)<=_;simp)⟩
 | cons e l ih =>
  rintro a b ⟨h1,_,h3⟩
  have:=ih h3
  have:=h.w e h1
  show _<=e.w+wt l/\e.w+wt l<=_
  simp only[dqr]
  omega
structure Ent (E : List Ed) (n s v : Nat) (x L U : Int) (c : List Ed) : Prop where
  ch:zeZ E s c v
  x:x=L * 1048576+U
  L:L=wt c
  U:U=c.length
  len:c.length < n
theorem zEy {E:List Ed}{n:Nat}(hE:EdOk E n){s:Nat}(hs:s < n){d:zby}(hd:Inv (E.map edM) (λ v=>v=s) d){v:Nat}{x:Int}(hx:d v=some x):∃ c,Ent E n s v x (wt c) c.length c:=by
 obtain⟨a,c,hc⟩:=hd v x hx
 have hl:=zAG hE.ltM (λ a ha=>Nat.lt_of_le_of_lt (Nat.le_of_eq ha) hs) hc
 obtain⟨c0,rfl,h1⟩:=zEx (f:=edM) (λ _=>rfl) (λ _=>rfl) hc.ch
 obtain rfl:a=s:=hc.src
 exact⟨c0,h1,by rw[hc.wt,zNL],rfl,rfl,by rw[List.length_map] at hl;omega⟩
def dst (E:List Ed) (n s:Nat):zby:=rds (E.map edM) (n - 1) (zjP s)
theorem zIH {E:List Ed}{n s:Nat}(hn:zbt E):Inv (E.map edM) (λ v=>v=s) (dst E n s):=zsB (zgK hn) _ (zes (zdr s))
theorem zlw {E:List Ed}{n s:Nat}(hE:EdOk E n) (hn:zbt E) (hs:s < n):Fix (E.map edM) (dst E n s):=zAH (zgK hn) hE.ltM (λ a ha=>Nat.lt_of_le_of_lt (Nat.le_of_eq ha) hs) (zdr s)
theorem dst_at {E:List Ed}{n s v:Nat}(hE:EdOk E n) (hn:zbt E) (hs:s < n){x:Int}(hx:dst E n s v=some x):∃ c,Ent E n s v x (wt c) c.length c:=zEy hE hs (zIH hn) hx
theorem zCV {E:List Ed}{n s:Nat} : ∃ x,dst E n s s=some x:=by
 obtain⟨x,h,_⟩:=zml (E.map edM) (n - 1) (zjP s) s 0 (dqP rfl)
 exact⟨x,h⟩
theorem zAI {E:List Ed}{n s v:Nat}(hE:EdOk E n) (hn:zbt E) (hs:s < n){c:List Ed}(hc:zeZ E s c v):∃ x,dst E n s v=some x/\x<=wt c * 1048576+c.length:=by
 obtain⟨x0,h1,h2⟩:=zml (E.map edM) (n - 1) (zjP s) s 0 (dqP rfl)
 obtain⟨y,k1,k2⟩:=zEv (zlw hE hn hs) (zIF (f:=edM) (λ _=>rfl) (λ _=>rfl) hc) h1
 rw[zNL] at k2
 exact⟨y,k1,by omega⟩
theorem zAJ {E:List Ed}{n s:Nat}(hE:EdOk E n) (hn:zbt E) (hs:s < n){c:List Ed} : ∀ {a v:Nat}{x:Int},dst E n s a=some x->zeZ E a c v->∃ y,dst E n s v=some y/\y / 1048576<=x / 1048576+wt c:=by
 induction c with
 | nil=>intro a v x hx h;cases h;exact⟨x,hx,by show _<=_+(0:Int);omega⟩
 | cons e l ih =>
  rintro a v x hx ⟨h1,h2,h3⟩
  subst h2
  obtain⟨y,k1,k2⟩:=zlw hE hn hs (edM e) (List.mem_map_of_mem h1) x hx
  obtain⟨z,m1,m2⟩:=ih (a:=e.v) k1 h3
  obtain⟨c1,hc1⟩:=dst_at hE hn hs hx
  obtain⟨c2,hc2⟩:=dst_at hE hn hs (show dst E n s e.v=some y from k1)
  refine⟨z,m1,?_⟩
  have k2':y<=x+(e.w * 1048576+1):=k2
  have:=hE.n40
  have:=hc1.len
  have:=hc1.x
  have:=hc2.len
  have:=hc2.x
  show _<=_+(e.w+wt l)
  omega
theorem zII {E:List Ed}{n s v:Nat}(hE:EdOk E n) (hn:zbt E) (hs:s < n){c:List Ed}(hc:zeZ E s c v):∃ x,dst E n s v=some x/\x / 1048576<=wt c:=by
 obtain⟨x0,h1⟩:=zCV (E:=E) (n:=n) (s:=s)
 obtain⟨y,k1,k2⟩:=zAJ hE hn hs h1 hc
 have h3:x0<=0:=by
  obtain⟨x',h1',h2'⟩:=zml (E.map edM) (n - 1) (zjP s) s 0 (dqP rfl)
  have:x'=x0:=Option.some.inj (h1'.symm.trans h1)
  omega
 exact⟨y,k1,by omega⟩
def zCW (o:Option Int):Int:=(zIG o).1
theorem zAK {E:List Ed}{n s v:Nat}(hE:EdOk E n) (hn:zbt E) (hs:s < n){x:Int}(hx:dst E n s v=some x):∃ c,zeZ E s c v/\zCW (dst E n s v)=wt c/\c.length < n:=by
 obtain⟨c,hc⟩:=dst_at hE hn hs hx
 refine⟨c,hc.ch,?_,hc.len⟩
 rw[hx]
 show x / 1048576=_
 have:=hc.x;have:=hc.len;have:=hE.n40
 omega
theorem zog {E:List Ed}{n s v:Nat}(hE:EdOk E n) (hn:zbt E) (hs:s < n){c:List Ed}(hc:zeZ E s c v):zCW (dst E n s v)<=wt c:=by
 obtain⟨x,h1,h2⟩:=zII hE hn hs hc
 rw[h1];exact h2
theorem zec {E:List Ed}{n s v:Nat}(hE:EdOk E n) (hn:zbt E) (hs:s < n):(dst E n s v=none/\zCW (dst E n s v)=1000000000000)\/∃ c,dst E n s v ≠ none/\zeZ E s c v/\zCW (dst E n s v)=wt c/\c.length < n/\-40000000000<=wt c/\wt c<=40000000000:=by
 cases h:dst E n s v with
 | none=>exact .inl ⟨rfl,rfl⟩
 | some x =>
  obtain⟨c,h1,h2,h3⟩:=zAK hE hn hs h
  have:=zid hE h1
  have:=hE.n40
  rw[h] at h2
  exact .inr ⟨c,(by intro h;cases h),h1,h2,h3,by omega,by omega⟩
end Go.Pm
namespace Go.Pm
def zoh (E : List Ed) : Nat → zby → Bool
  | 0,_=>true
  | k+1,d=>cond (E.foldl rlF (d,false)).2 (zoh E k (rnd E d)) false
theorem zsD {E:List Ed}{k:Nat} : ∀ {m:Nat}{d:zby},Fix E (rds E k d)->k < m->zoh E m d=false:=by
 induction k with
 | zero =>
  intro m d h hm
  obtain⟨m,rfl⟩:∃ m',m=m'+1:=⟨m - 1,by omega⟩
  show cond (E.foldl rlF (d,false)).2 _ _=false
  rw[zib (show ∀ e∈E,Sat d e from h)];rfl
 | succ k ih =>
  intro m d h hm
  obtain⟨m,rfl⟩:∃ m',m=m'+1:=⟨m - 1,by omega⟩
  show cond (E.foldl rlF (d,false)).2 (zoh E m (rnd E d)) false=false
  rw[ih (m:=m) (d:=rnd E d) h (by omega)]
  cases (E.foldl rlF (d,false)).2 <;> rfl
theorem zCX {E:List Ed}{m:Nat} : ∀ {d:zby},zoh E m d=false->∃ k,Fix E (rds E k d):=by
 induction m with
 | zero=>intro d h;cases h
 | succ m ih =>
  intro d h
  have h':cond (E.foldl rlF (d,false)).2 (zoh E m (rnd E d)) false=false:=h
  cases hc:(E.foldl rlF (d,false)).2
  ·exact⟨0,zgX hc⟩
  ·rw [hc] at h'
   obtain⟨k,hk⟩:=ih h'
   exact⟨k+1,hk⟩
def zon (n:Nat):zby:=λ v=>if v < n then some 0 else none
theorem zmm (n:Nat):Start (λ v=>v < n) (zon n) :=
 ⟨λ v x h=>(by
  unfold zon at h
  by_cases hv:v < n
  ·rw[dqP hv] at h;cases h;exact⟨hv,rfl⟩
  ·rw[dqG hv] at h;cases h),λ v h=>dqP h⟩
theorem zCY {E:List Ed}{n:Nat}(hE:EdOk E n):zoh E n (zon n)=false↔zbt E:=by
 constructor
 ·intro h
  obtain⟨k,hk⟩:=zCX h
  have hsome:∀ v,v < n->∃ x,rds E k (zon n) v=some x:=λ v hv=>by
   obtain⟨x,hx,_⟩:=zml E k (zon n) v 0 (dqP hv)
   exact⟨x,hx⟩
  refine zpB (f:=λ v=>(rds E k (zon n) v).getD 0) λ e he=>?_
  obtain⟨x,hx⟩:=hsome e.u (hE.lt e he).1
  obtain⟨y,hy,hxy⟩:=hk e he x hx
  show (rds E k (zon n) e.v).getD 0<=(rds E k (zon n) e.u).getD 0+e.w
  rw[hx,hy];exact hxy
 ·intro h
  have:=hE.n1
  exact zsD (zAH h hE.lt (λ a ha=>ha) (zmm n)) (by omega)
end Go.Pm
namespace Go.Proofs
open Go Go.Pm
set_option maxRecDepth 100000
set_option linter.unusedVariables false
theorem zdM {n:Nat}{F:Tab}{k:Nat}(hk:k < n):tg n F k=F k:=by
 unfold tg zlM
 have h:(zm (zhH 0 n F))[k]? = some (.p (.int .i64 (F k))):=by
  rw[zm,dqH,zgN n 0 F k hk,Nat.zero_add];rfl
 rw[h]
theorem zEz {n:Nat}{F:Tab}{k:Nat}{v:Int}{j:Nat}(hj:j < n):ts n F k [v] j=if j=k then v else F j:=by
 show (match Nat.beq j k with | true=>v | false=>tg n F j)=_
 by_cases h:j=k
 ·rw[dqP h,show Nat.beq j k=true from by rw[h];exact Nat.beq_refl _]
 ·rw[dqG h,show Nat.beq j k=false from Bool.eq_false_iff.2 λ e=>h (dqc e)];exact zdM hj
theorem zdY {n:Nat}{F:Tab}{k:Nat}{v w:Int}{j:Nat}(hj:j < n):ts n F k [v,w] j=if j=k+1 then w else if j=k then v else F j:=by
 show (match Nat.beq j (k+1) with | true=>w | false=>(match Nat.beq j k with | true=>v | false=>tg n F j))=_
 by_cases h:j=k+1
 ·rw[dqP h,show Nat.beq j (k+1)=true from by rw[h];exact Nat.beq_refl _]
 ·rw [dqG h, show Nat.beq j (k + 1) = false from Bool.eq_false_iff.2 fun e => h (dqc e)]
  by_cases h':j=k
  ·rw[dqP h',show Nat.beq j k=true from by rw[h'];exact Nat.beq_refl _]
  ·rw[dqG h',show Nat.beq j k=false from Bool.eq_false_iff.2 λ e=>h' (dqc e)];exact zdM hj
def fwS (t:Tie) (i:Nat):step:=⟨⟨(i:Int),false⟩,t.From,t.To,t.High⟩
def bwS (t:Tie) (i:Nat):step:=⟨⟨(i:Int),true⟩,t.To,t.From,w64 (0 - t.Low)⟩
def zLL (a:web) (i:Nat):Bool:=(zup (a.out.F [(i:Int)]) 0) != 0
def stK (a:web) (i:Nat):List step :=
 cond (zLL a i) [] ((cond ((a.Net.Ties.get i).High != (1000000000000:Int)) [fwS (a.Net.Ties.get i) i] []) ++ (cond ((a.Net.Ties.get i).Low != (-1000000000000:Int)) [bwS (a.Net.Ties.get i) i] []))
def stL (a : web) : Nat → Nat → List step
  | 0,_=>[]
  | m+1,i=>stK a i ++ stL a m (i+1)
theorem zlx (a:web) (hn:a.Net.Ties.len<=9223372036854775807):zvf a=true/\zk7 a=stL a a.Net.Ties.len 0:=by
 have key:∀ (m k i:Nat),i+m=a.Net.Ties.len->m < k->zeK a k (i:Int)=true/\zeJ a k (i:Int)=stL a m i:=by
  intro m
  induction m with
  | zero =>
   intro k i hi hk
   obtain⟨k,rfl⟩:∃ k',k=k'+1:=⟨k - 1,by omega⟩
   constructor
   ·show zfo a (zeK a k) (i : Int) = true
    unfold zfo
    rw[dqF (show ¬ (i:Int) < (a.Net.Ties.len:Int) by omega),dqB]
   ·show zfn a (zeJ a k) (i : Int) = []
    unfold zfn
    rw[dqF (show ¬ (i:Int) < (a.Net.Ties.len:Int) by omega),dqB]
  | succ m ih =>
   intro k i hi hk
   obtain⟨k,rfl⟩:∃ k',k=k'+1:=⟨k - 1,by omega⟩
   obtain⟨h1,h2⟩:=ih k (i+1) (by omega) (by omega)
   constructor
   ·show zfo a (zeK a k) (i : Int) = true
    unfold zfo
    rw[dqT (show (i:Int) < (a.Net.Ties.len:Int) by omega),dqA,dqT (show 0<=(i:Int)/\(i:Int) < (a.Net.Ties.len:Int) by omega),Bool.true_and,zoe (n:=a.Net.Ties.len) (by omega) hn,h1]
    generalize (zup (a.out.F [(i:Int)]) 0 != 0)=b1
    generalize (s94 (⟨(a.Net.Ties.get ((i:Int)).toNat),(i:Int)⟩:tie)).2=b2
    generalize (s95 (⟨(a.Net.Ties.get ((i:Int)).toNat),(i:Int)⟩:tie)).2=b3
    cases b1 <;> cases b2 <;> cases b3 <;> rfl
   ·show zfn a (zeJ a k) (i : Int) = stK a i ++ stL a m (i + 1)
    unfold zfn
    rw[dqT (show (i:Int) < (a.Net.Ties.len:Int) by omega),dqA,dqN,zoe (n:=a.Net.Ties.len) (by omega) hn,h2]
    unfold stK zLL s94 s95
    generalize (zup (a.out.F [(i:Int)]) 0 != 0)=b1
    show cond b1 _ (cond ((a.Net.Ties.get i).High != (1000000000000:Int)) (_ :: cond ((a.Net.Ties.get i).Low != (-1000000000000:Int)) (_ :: _) _) (cond ((a.Net.Ties.get i).Low != (-1000000000000:Int)) (_ :: _) _))=_
    generalize ((a.Net.Ties.get i).High != (1000000000000:Int))=b2
    generalize ((a.Net.Ties.get i).Low != (-1000000000000:Int))=b3
    cases b1 <;> cases b2 <;> cases b3 <;> rfl
 exact key a.Net.Ties.len Fuel 0 (by omega) (by simp only[Fuel];omega)
theorem zAL {a:web}{y:step} : ∀ {m i:Nat},y∈stL a m i↔∃ j,i<=j/\j < i+m/\y∈stK a j:=by
 intro m
 induction m with
 | zero=>intro i;exact⟨λ h=>(by cases h),λ ⟨j,h1,h2,_⟩=>(by omega)⟩
 | succ m ih =>
  intro i
  show y∈stK a i ++ stL a m (i+1)↔_
  rw[dqg,ih]
  constructor
  ·rintro (h | ⟨j, h1, h2, h3⟩)
   ·exact⟨i,dqt _,by omega,h⟩
   ·exact⟨j,by omega,by omega,h3⟩
  ·rintro ⟨j, h1, h2, h3⟩
   by_cases h:j=i
   ·subst h;exact .inl h3
   ·exact .inr ⟨j,by omega,by omega,h3⟩
theorem zAM {a:web}{y:step}{j:Nat} : y∈stK a j↔zLL a j=false/\(((a.Net.Ties.get j).High ≠ 1000000000000/\y=fwS (a.Net.Ties.get j) j)\/((a.Net.Ties.get j).Low ≠ -1000000000000/\y=bwS (a.Net.Ties.get j) j)):=by
 unfold stK
 cases h:zLL a j
 ·rw [dqB, dqg]
  by_cases h1:(a.Net.Ties.get j).High=1000000000000
  ·rw [show ((a.Net.Ties.get j).High != (1000000000000:Int)) = false by rw [h1]; rfl, dqB]
   by_cases h2:(a.Net.Ties.get j).Low = -1000000000000
   ·rw [show ((a.Net.Ties.get j).Low != (-1000000000000:Int)) = false by rw [h2]; rfl, dqB]
    simp[h1,h2]
   ·rw [bne_iff_ne.2 h2, dqA]
    simp[h1,h2]
  ·rw [bne_iff_ne.2 h1, dqA]
   by_cases h2:(a.Net.Ties.get j).Low = -1000000000000
   ·rw [show ((a.Net.Ties.get j).Low != (-1000000000000:Int)) = false by rw [h2]; rfl, dqB]
    simp[h1,h2]
   ·rw [bne_iff_ne.2 h2, dqA]
    simp[h1,h2]
 ·rw[dqA];simp
theorem zIJ (a:web):∀ m i,(stL a m i).length<=2 * m:=by
 intro m
 induction m with
 | zero=>intro i;exact dqt _
 | succ m ih =>
  intro i
  show (stK a i ++ stL a m (i+1)).length<=_
  rw[dqu]
  have:=ih (i+1)
  have:(stK a i).length<=2:=by
   unfold stK
   cases zLL a i <;> cases ((a.Net.Ties.get i).High != (1000000000000:Int)) <;> cases ((a.Net.Ties.get i).Low != (-1000000000000:Int)) <;> simp
  omega
def edS (y:step):Ed:=⟨y.from_.toNat,y.to.toNat,y.length⟩
structure StOk (y : step) (N : Nat) : Prop where
  f0:0<=y.from_
  f1:y.from_ < N
  t0:0<=y.to
  t1:y.to < N
  l0 : -1000000000<=y.length
  l1:y.length<=1000000000
abbrev Ws (a:web):List step:=stL a a.Net.Ties.len 0
def We (a:web):List Ed:=(Ws a).map edS
theorem zLM {t:Tie}{N:Int}(h:TieOk t N) (h':t.Low ≠ -1000000000000):w64 (0 - t.Low) = -t.Low:=by
 have:=h.lo.resolve_left h'
 rw[zbf (by omega) (by omega)];omega
theorem zoi {a:web}(hn:NetOk a.Net){y:step}(hy:y∈Ws a):StOk y a.Net.Nodes.toNat:=by
 obtain⟨j,_,h2,h3⟩:=zAL.1 hy
 have h:=hn.tie j (by omega)
 have:=h.f0;have:=h.f1;have:=h.t0;have:=h.t1
 rcases (zAM.1 h3).2 with ⟨h4,rfl⟩ | ⟨h4,rfl⟩
 ·have := h.hi.resolve_left h4
  exact⟨h.f0,by show (a.Net.Ties.get j).From < _;omega,h.t0,by show (a.Net.Ties.get j).To < _;omega,this.1,this.2⟩
 ·have := h.lo.resolve_left h4
  have e:=zLM h h4
  exact⟨h.t0,by show (a.Net.Ties.get j).To < _;omega,h.f0,by show (a.Net.Ties.get j).From < _;omega,by show _<=w64 (0 - (a.Net.Ties.get j).Low);omega,by show w64 (0 - (a.Net.Ties.get j).Low)<=_;omega⟩
theorem zmn {a:web}(hn:NetOk a.Net):(Ws a).length<=400:=by
 have h1:=zIJ a a.Net.Ties.len 0
 have h2:=hn.len
 show (stL a a.Net.Ties.len 0).length<=400
 omega
theorem zu9 {a:web}(hn:NetOk a.Net):EdOk (We a) a.Net.Nodes.toNat:=by
 have:=hn.n1;have:=hn.n40
 refine⟨λ e he=>?_,λ e he=>?_,by omega,by omega⟩
 ·obtain ⟨y, hy, rfl⟩ := dqz.1 he
  have h:=zoi hn hy
  have:=h.f0;have:=h.f1;have:=h.t0;have:=h.t1
  exact⟨by show y.from_.toNat < _;omega,by show y.to.toNat < _;omega⟩
 ·obtain ⟨y, hy, rfl⟩ := dqz.1 he
  have h:=zoi hn hy
  exact⟨h.l0,h.l1⟩
end Go.Proofs
namespace Go.Proofs
open Go Go.Pm
set_option maxRecDepth 100000
set_option linter.unusedVariables false
def Rt (N:Nat) (T:Tab) (d:zby):Prop:=∀ v,v < N->d v=some (T v)
def Bd (B:Int) (T:Tab):Prop:=∀ v,v < 40->-B<=T v/\T v<=0
theorem zAN (a:web){N:Nat}(hN:N<=40) (S0:Int->Tab->Bool) (P0:Int->Tab->Bool):∀ (l:List step),(∀ y∈l,StOk y N)->∀ (t:Int) (c:Bool) (T:Tab) (d:zby) (B:Int),Rt N T d->Bd B T->0<=B->B+l.length * 1000000000<=100000000000000000 ->
    ∃ T',zf2 S0 a l t c T=zng S0 a t ((l.map edS).foldl rlF (d,c)).2 T'/\zf3 P0 a l t c T=znh P0 a t ((l.map edS).foldl rlF (d,c)).2 T'/\Rt N T' ((l.map edS).foldl rlF (d,c)).1/\Bd (B+l.length * 1000000000) T':=by
  intro l
  induction l with
  | nil=>intro _ t c T d B h1 h2 _ _;exact⟨T,rfl,rfl,h1,by simpa using h2⟩
  | cons y l ih =>
    intro hl t c T d B h1 h2 h3 h4
    have hy:=hl y (dqj ..)
    have hl':∀ y∈l,StOk y N:=λ z hz=>hl z (dqf _ hz)
    rw[dqr] at h4
    have f0:=hy.f0;have f1:=hy.f1;have t0:=hy.t0;have t1:=hy.t1;have l0:=hy.l0;have l1:=hy.l1
    have hf:=h1 y.from_.toNat (by omega)
    have ht:=h1 y.to.toNat (by omega)
    have bf:=h2 y.from_.toNat (by omega)
    have bt:=h2 y.to.toNat (by omega)
    have e1:0+y.from_.toNat * 1+0=y.from_.toNat:=by omega
    have e2:0+y.to.toNat * 1+0=y.to.toNat:=by omega
    have hr:rlF (d,c) (edS y)=cond (decide (T y.from_.toNat+y.length < T y.to.toNat)) (zhD d y.to.toNat (T y.from_.toNat+y.length),true) (d,c):=by
      unfold rlF edS
      simp only[hf,ht]
      rfl
    have hS:zf2 S0 a (y :: l) t c T=cond (decide (T y.from_.toNat+y.length < T y.to.toNat)) (zf2 S0 a l t true (ts 40 T y.to.toNat [T y.from_.toNat+y.length])) (zf2 S0 a l t c T):=by
      show zni S0 a y (zf2 S0 a l) t c T=_
      generalize zf2 S0 a l=S
      unfold zni
      rw[e1,e2,zdM (by omega),zdM (by omega),zbf (by omega) (by omega)]
    have hP:zf3 P0 a (y :: l) t c T=cond (decide (T y.from_.toNat+y.length < T y.to.toNat)) (zf3 P0 a l t true (ts 40 T y.to.toNat [T y.from_.toNat+y.length])) (zf3 P0 a l t c T):=by
      show znj P0 a y (zf3 P0 a l) t c T=_
      generalize zf3 P0 a l=S
      unfold znj
      rw[e1,e2,zdM (by omega),zdM (by omega),zbf (by omega) (by omega),dqT (show 0<=y.from_/\y.from_ < (40:Int) by omega),dqT (show 0<=y.to/\y.to < (40:Int) by omega)]
      cases decide (T y.from_.toNat+y.length < T y.to.toNat) <;> rfl
    show ∃ T',_=zng S0 a t ((l.map edS).foldl rlF (rlF (d,c) (edS y))).2 T'/\_=znh P0 a t ((l.map edS).foldl rlF (rlF (d,c) (edS y))).2 T'/\Rt N T' ((l.map edS).foldl rlF (rlF (d,c) (edS y))).1/\_
    rw[hS,hP,hr]
    by_cases hlt:T y.from_.toNat+y.length < T y.to.toNat
    · rw [dqT hlt, dqA, dqA, dqA]
      obtain ⟨T', k1, k2, k3, k4⟩ := ih hl' t true (ts 40 T y.to.toNat [T y.from_.toNat + y.length]) (zhD d y.to.toNat (T y.from_.toNat + y.length)) (B + 1000000000)
        (λ v hv=>by
          rw[zEz (by omega)]
          unfold zhD
          by_cases h:v=y.to.toNat
          · rw[dqP h,dqP h]
          · rw[dqG h,dqG h];exact h1 v hv)
        (λ v hv=>by
          rw[zEz hv]
          by_cases h:v=y.to.toNat
          · rw[dqP h];omega
          · rw[dqG h];have:=h2 v hv;omega) (by omega) (by omega)
      refine⟨T',k1,k2,k3,?_⟩
      rw[dqr,show B+((l.length+1:Nat):Int) * 1000000000=B+1000000000+(l.length:Int) * 1000000000 by omega]
      exact k4
    · rw [dqF hlt, dqB, dqB, dqB]
      obtain⟨T',k1,k2,k3,k4⟩:=ih hl' t c T d B h1 h2 h3 (by omega)
      refine⟨T',k1,k2,k3,λ v hv=>?_⟩
      have:=k4 v hv
      rw[dqr]
      omega
theorem zsE (a:web) (hn:NetOk a.Net):∀ (m k i:Nat) (T:Tab) (d:zby) (B:Int),Rt a.Net.Nodes.toNat T d->Bd B T->0<=B->B+m * 400000000000<=100000000000000000->(i:Int)+m=a.Net.Nodes->m < k ->
  ziF a k (i:Int) T=true/\ziE a k (i:Int) T=zoh (We a) m d:=by
 have hn1:=hn.n1;have hn40:=hn.n40;have hlen:=hn.len
 obtain⟨q1,q2⟩:=zlx a (by omega)
 intro m
 induction m with
 | zero =>
  intro k i T d B _ _ _ _ hi hk
  obtain⟨k,rfl⟩:∃ k',k=k'+1:=⟨k - 1,by omega⟩
  constructor
  ·show ziD a (ziF a k) (i : Int) T = true
   unfold ziD
   rw[dqF (show ¬ (i:Int) < a.Net.Nodes by omega),dqB]
  ·show ziC a (ziE a k) (i : Int) T = true
   unfold ziC
   rw[dqF (show ¬ (i:Int) < a.Net.Nodes by omega),dqB]
 | succ m ih =>
  intro k i T d B h1 h2 h3 h4 hi hk
  obtain⟨k,rfl⟩:∃ k',k=k'+1:=⟨k - 1,by omega⟩
  have hwl:=zmn hn
  obtain⟨T',k1,k2,k3,k4⟩:=zAN a (N:=a.Net.Nodes.toNat) (by omega) (ziE a k) (ziF a k) (Ws a) (λ y hy=>zoi hn hy) (i:Int) false T d B h1 h2 h3 (by omega)
  have hB:Bd (B+400000000000) T':=λ v hv=>by have:=k4 v hv;omega
  have hw:w64 ((i:Int)+(1:Int))=((i+1:Nat):Int):=by rw[zbf (by omega) (by omega)];omega
  obtain⟨r1,r2⟩:=ih k (i+1) T' (rnd (We a) d) (B+400000000000) k3 hB (by omega) (by omega) (by omega) (by omega)
  constructor
  ·show ziD a (ziF a k) (i : Int) T = true
   unfold ziD zqw
   rw[dqT (show (i:Int) < a.Net.Nodes by omega),dqA,q1,q2,k2]
   unfold znh
   rw[hw,r1]
   cases ((Ws a).map edS |>.foldl rlF (d,false)).2 <;> rfl
  ·show ziC a (ziE a k) (i : Int) T = cond ((We a).foldl rlF (d, false)).2 (zoh (We a) m (rnd (We a) d)) false
   unfold ziC zqv
   rw[dqT (show (i:Int) < a.Net.Nodes by omega),dqA,q2,k1]
   unfold zng
   rw[hw,r2]
   show cond (!((We a).foldl rlF (d,false)).2) false _=_
   cases ((We a).foldl rlF (d,false)).2 <;> rfl
theorem zAO (a:web) (hn:NetOk a.Net):p88 a=true/\s88 a=zoh (We a) a.Net.Nodes.toNat (zon a.Net.Nodes.toNat):=by
 have hn1:=hn.n1;have hn40:=hn.n40
 have:=zsE a hn a.Net.Nodes.toNat Fuel 0 (λ _=>(0:Int)) (zon a.Net.Nodes.toNat) 0 (λ v hv=>dqP hv) (λ v hv=>⟨by show -(0:Int)<=(0:Int);omega,Int.le_refl _⟩) (by omega) (by omega) (by omega) (by simp only[Fuel];omega)
 exact this
theorem zAP (a:web) (hn:NetOk a.Net):s88 a=false↔zbt (We a):=by
 rw[(zAO a hn).2];exact zCY (zu9 hn)
end Go.Proofs
namespace Go.Proofs
open Go Go.Pm
set_option maxRecDepth 100000
set_option linter.unusedVariables false
theorem zj4 (a b:far):zCk a ⟨1,λ _=>b⟩=true/\zc4 a ⟨1,λ _=>b⟩=cond (zCh b a) b a:=by
 unfold zCk zc4 znn znm
 have key:∀ k,zgV (⟨1,λ _=>b⟩:Sl far) (k+2) (0:Int) a.length a.uses=true/\zgU (⟨1,λ _=>b⟩:Sl far) (k+2) (0:Int) a.length a.uses=cond (zCh b a) b a:=by
  intro k
  have hw:w64 ((0:Int)+(1:Int))=(1:Int):=by rw[zbf (by omega) (by omega)];rfl
  have e1:∀ x y,zgU (⟨1,λ _=>b⟩:Sl far) (k+1) (1:Int) x y=(⟨x,y⟩:far):=λ x y=>by
   show zgS (⟨1,λ _=>b⟩:Sl far) (zgU (⟨1,λ _=>b⟩:Sl far) k) (1:Int) x y=_
   unfold zgS
   rw[dqF (show ¬ (1:Int) < ((1:Nat):Int) by omega),dqB]
  have e2:∀ x y,zgV (⟨1,λ _=>b⟩:Sl far) (k+1) (1:Int) x y=true:=λ x y=>by
   show zgT (⟨1,λ _=>b⟩:Sl far) (zgV (⟨1,λ _=>b⟩:Sl far) k) (1:Int) x y=_
   unfold zgT
   rw[dqF (show ¬ (1:Int) < ((1:Nat):Int) by omega),dqB]
  constructor
  ·show zgT (⟨1, fun _ => b⟩ : Sl far) (zgV (⟨1, fun _ => b⟩ : Sl far) (k + 1)) (0:Int) a.length a.uses = _
   unfold zgT znl
   rw[dqT (show (0:Int) < ((1:Nat):Int) by omega),dqA,dqT (show 0<=(0:Int)/\(0:Int) < ((1:Nat):Int) by omega),Bool.true_and,hw,e2,e2]
   cases zCh b (⟨a.length,a.uses⟩:far) <;> rfl
  ·show zgS (⟨1, fun _ => b⟩ : Sl far) (zgU (⟨1, fun _ => b⟩ : Sl far) (k + 1)) (0:Int) a.length a.uses = _
   unfold zgS znk
   rw[dqT (show (0:Int) < ((1:Nat):Int) by omega),dqA,hw,e1,e1]
 have:=key (Fuel - 2)
 rw[show Fuel - 2+2=Fuel by simp only[Fuel]] at this
 exact this
theorem zAQ (a b:far):zCh a b=decide (a.length < b.length\/(a.length=b.length/\a.uses < b.uses)):=by
 unfold zCh
 by_cases h1:a.length < b.length
 ·rw[dqT h1,dqA];exact (dqT (.inl h1)).symm
 ·rw [dqF h1, dqB]
  by_cases h2:a.length=b.length
  ·rw [show (a.length == b.length) = true from beq_iff_eq.2 h2, dqA]
   exact decide_eq_decide.2 ⟨λ h=>.inr ⟨h2,h⟩,λ h=>h.elim (λ h=>absurd h h1) (λ h=>h.2)⟩
  ·rw [show (a.length == b.length) = false from dqU.2 h2, dqB]
   exact (dqF (λ h=>h.elim h1 (λ h=>h2 h.1))).symm
def Rp (N:Nat) (T:Tab) (d:zby):Prop:=∀ v,v < N->(T (v * 2),T (v * 2+1))=zIG (d v)
def nv (x y:Int):Bool:=match (x == (1000000000000:Int)) with | true=>(match (y == (0:Int)) with | true=>true | false=>false) | false=>false
def sm (x y u v:Int):Bool:=match (x == u) with | true=>(match (y == v) with | true=>true | false=>false) | false=>false
theorem zie (x y:Int):nv x y=decide ((x,y)=((1000000000000:Int),(0:Int))):=by
 unfold nv
 by_cases h1:x=1000000000000
 ·rw [show (x == (1000000000000:Int)) = true from beq_iff_eq.2 h1]
  by_cases h2:y=0
  ·rw[show (y == (0:Int))=true from beq_iff_eq.2 h2];exact (dqT (by rw[h1,h2])).symm
  ·rw[show (y == (0:Int))=false from dqU.2 h2];exact (dqF (λ h=>h2 (Prod.mk.inj h).2)).symm
 ·rw [show (x == (1000000000000:Int)) = false from dqU.2 h1]
  exact (dqF (λ h=>h1 (Prod.mk.inj h).1)).symm
theorem same_eq (x y u v:Int):sm x y u v=decide ((x,y)=(u,v)):=by
 unfold sm
 by_cases h1:x=u
 ·rw [show (x == u) = true from beq_iff_eq.2 h1]
  by_cases h2:y=v
  ·rw[show (y == v)=true from beq_iff_eq.2 h2];exact (dqT (by rw[h1,h2])).symm
  ·rw[show (y == v)=false from dqU.2 h2];exact (dqF (λ h=>h2 (Prod.mk.inj h).2)).symm
 ·rw [show (x == u) = false from dqU.2 h1]
  exact (dqF (λ h=>h1 (Prod.mk.inj h).1)).symm
theorem zj5 {E : List Ed} {n s v : Nat} (hE : EdOk E n) (hs : s < n) {d : zby} (hd : Inv (E.map edM) (fun v => v = s) d) {x : Int} (hx : d v = some x) :
  ∃ L U,zIG (d v)=(L,U)/\x=L * 1048576+U/\0<=U/\U < 40/\-40000000000<=L/\L<=40000000000:=by
 obtain⟨c,hc⟩:=zEy hE hs hd hx
 have h1:=zid hE hc.ch
 have h2:=hc.len
 have h3:=hE.n40
 refine⟨wt c,c.length,?_,hc.x,by omega,by omega,by omega,by omega⟩
 rw[hx,hc.x]
 exact zsC (by omega) (by omega)
end Go.Proofs
