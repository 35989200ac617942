/- Part 5 of what the proof rests on: a machine that runs functions of the program on pure values, proved sound; the functions that the law reaches, and what they compute. -/
import Derived.Test.YtedhjaaikeakoaaDoorQ4
import Derived.Test.YtedhjaaikeakoaaDoorTie
import Derived.ProofKit
import Derived.LaidMore
import Derived.OpenShut
import Derived.Stop.Joined
import Derived.Test.YtedhjaaikeakoaaDoorCards
import Derived.WalkKit
set_option linter.all false
namespace Go.Proofs
open Go Go.Pm
set_option maxRecDepth 100000
set_option linter.unusedVariables false
attribute [local irreducible] Go.Pm.vcFun Go.Pm.vc Go.Pm.vcIter
abbrev T76:Tabs:=(((Tabs.nil.addF 93 zpi).addF 104 zpl).addI 110 zpk)
theorem zMr:TabsOk Tryd.prog T76:=(((TabsOk.nil.addF zIo).addF zE7).addI zuh)
abbrev G76:Ctrs:=csm T76 (λ _ _=>[]) (λ _=>false)
def zyt:Ann:=⟨66,[(0,zK [0,1,4] [4]),(1,zK [0,1,4,5] [4,5]),(2,zK [0,1,4,5,10] [4,5]),(3,zK [0,1,4,5,10,11] [4,5]),(4,zK [0,1,4,5,6,10] [4,5]),(5,zK [0,1,4,5,10] [4,5]),(6,zK [0,1,4,5,10] [4,5]),(7,zK [0,4,5] [4,5]),(8,zK [0,4,5,7] [4,5,7]),(9,zK [0,4,5,7,20] [4,5,7]),(10,zK [0,4,5,7] [4,5,7]),(11,zK [0,4,5,7,22] [4,5,7]),(12,zK [0,4,5,7,8,22] [4,5,7,8]),(13,zK [0,4,5,7,8,22,29] [4,5,7,8]),(14,zK [0,4,5,7,8,9,22] [4,5,7,8,9]),(15,zK [0,4,5,7,8,9,22] [4,5,7,8,9]),(16,zK [0,4,5,7,22] [4,5,7]),(17,zK [0,4,5,64] [4,5]),(18,zK [0,4,5,7] [4,5,7]),(19,zK [4] [4])],
 [(3,zK [0,1,4,5,10] [4,5]),(9,zK [0,4,5,7] [4,5,7]),(12,zK [0,4,5,7,22] [4,5,7])],
 [(7,zK [0,1,4,5] [4,5])],
 [],[]⟩
abbrev R76:=Tab
abbrev e76 (r:R76):List PA:=[.agg (zar r)]
@[irreducible] def z76:=ptF Tryd.prog G76 zyt Tryd.f76
@[irreducible] def x76:=exF Tryd.prog G76 zyt Tryd.f76
@[irreducible] def y76:=rnF Tryd.prog G76 zyt Tryd.f76
def zDI (w:web) (node:Int) (za5:Int) (t4t0:Tab) (dt0:Tab):St:=⟨[(0,zP (.fp (zaC w) 0)),(1,zI node),(4,zp 4 0),(5,zp 5 0),(10,zI za5)],[(4,.box 116 (zm (zar t4t0))),(5,.box 116 (zm (zar dt0)))],[]⟩
abbrev zJ3 (K:List PA->Prop) (w:web) (node:Int) (X:St->Prop) (P:Int->Tab->Tab->Bool) (S:Int->Tab->Tab->Tab):Prop:=∀ ⦃za5:Int⦄ ⦃t4t0:Tab⦄ ⦃dt0:Tab⦄,P za5 t4t0 dt0=true->K (e76 (S za5 t4t0 dt0))->X (zDI w node za5 t4t0 dt0)
def zDJ (w:web) (zaI:Bool) (t4t2:Tab) (dt2:Tab):St:=⟨[(0,zP (.fp (zaC w) 0)),(4,zp 4 0),(5,zp 5 0),(7,zp 7 0)],[(4,.box 116 (zm (zar t4t2))),(5,.box 116 (zm (zar dt2))),(7,.box 4 [.p (.bool zaI)])],[]⟩
abbrev zGf (K:List PA->Prop) (w:web) (X:St->Prop) (P:Bool->Tab->Tab->Bool) (S:Bool->Tab->Tab->Tab):Prop:=∀ ⦃zaI:Bool⦄ ⦃t4t2:Tab⦄ ⦃dt2:Tab⦄,P zaI t4t2 dt2=true->K (e76 (S zaI t4t2 dt2))->X (zDJ w zaI t4t2 dt2)
def zyu (w:web) (zay:Bool) (t4t3:Tab) (dt3:Tab):St:=⟨[(0,zP (.fp (zaC w) 0)),(4,zp 4 0),(5,zp 5 0),(7,zp 7 0),(22,zP (.fn 110 [] [.fp [.fp (zaC w) 0] 0]))],[(4,.box 116 (zm (zar t4t3))),(5,.box 116 (zm (zar dt3))),(7,.box 4 [.p (.bool zay)])],[]⟩
abbrev zJ4 (K:List PA->Prop) (w:web) (X:St->Prop) (P:Bool->Tab->Tab->Bool) (S:Bool->Tab->Tab->Tab):Prop:=∀ ⦃zay:Bool⦄ ⦃t4t3:Tab⦄ ⦃dt3:Tab⦄,P zay t4t3 dt3=true->K (e76 (S zay t4t3 dt3))->X (zyu w zay t4t3 dt3)
section
variable {K:List PA->Prop}{w:web}{node:Int}{za5:Int}{t4t0:Tab}{dt0:Tab}{X0:St->Prop}{P0:Int->Tab->Tab->Bool}{S0:Int->Tab->Tab->Tab}{t4t1:Tab}{dt1:Tab}{zaI:Bool}{t4t2:Tab}{dt2:Tab}{X2:St->Prop}{P2:Bool->Tab->Tab->Bool}{S2:Bool->Tab->Tab->Tab}{zay:Bool}{t4t3:Tab}{dt3:Tab}
def zGg (S2:Bool->Tab->Tab->Tab) (w:web) (zay:Bool) (t4t3:Tab) (dt3:Tab):Tab :=
  (S2 zay t4t3 dt3)
def zGh (P2:Bool->Tab->Tab->Bool) (w:web) (zay:Bool) (t4t3:Tab) (dt3:Tab):Bool :=
  (P2 zay t4t3 dt3)
def zyv (S2:Bool->Tab->Tab->Tab) (w:web) (y3:step) (S3:Bool->Tab->Tab->Tab) (zay:Bool) (t4t3:Tab) (dt3:Tab):Tab :=
  (cond (nvr (tL dt3 y3.from_) (tU dt3 y3.from_))
 (S3 zay t4t3 dt3)
 (cond zay
 (S3 true t4t3 (ts 80 dt3 (0+y3.to.toNat * 2+0) [(zfi (⟨(tL dt3 y3.to),(tU dt3 y3.to)⟩:far) (⟨1,λ _=>(⟨(w64 ((tL dt3 y3.from_)+y3.length)),(w64 ((tV dt3 y3.from_)+(1:Int)))⟩:far)⟩:(Sl far))).length,(zfi (⟨(tL dt3 y3.to),(tU dt3 y3.to)⟩:far) (⟨1,λ _=>(⟨(w64 ((tL dt3 y3.from_)+y3.length)),(w64 ((tV dt3 y3.from_)+(1:Int)))⟩:far)⟩:(Sl far))).uses]))
 (S3 (!(match ((zfi (⟨(tL dt3 y3.to),(tU dt3 y3.to)⟩:far) (⟨1,λ _=>(⟨(w64 ((tL dt3 y3.from_)+y3.length)),(w64 ((tV dt3 y3.from_)+(1:Int)))⟩:far)⟩:(Sl far))).length == (tL dt3 y3.to)) with | true=>(match ((zfi (⟨(tL dt3 y3.to),(tU dt3 y3.to)⟩:far) (⟨1,λ _=>(⟨(w64 ((tL dt3 y3.from_)+y3.length)),(w64 ((tV dt3 y3.from_)+(1:Int)))⟩:far)⟩:(Sl far))).uses == (tU dt3 y3.to)) with | true=>true | false=>false) | false=>false)) t4t3 (ts 80 dt3 (0+y3.to.toNat * 2+0) [(zfi (⟨(tL dt3 y3.to),(tU dt3 y3.to)⟩:far) (⟨1,λ _=>(⟨(w64 ((tL dt3 y3.from_)+y3.length)),(w64 ((tV dt3 y3.from_)+(1:Int)))⟩:far)⟩:(Sl far))).length,(zfi (⟨(tL dt3 y3.to),(tU dt3 y3.to)⟩:far) (⟨1,λ _=>(⟨(w64 ((tL dt3 y3.from_)+y3.length)),(w64 ((tV dt3 y3.from_)+(1:Int)))⟩:far)⟩:(Sl far))).uses]))))
def zyw (P2:Bool->Tab->Tab->Bool) (w:web) (y3:step) (P3:Bool->Tab->Tab->Bool) (zay:Bool) (t4t3:Tab) (dt3:Tab):Bool :=
  (decide ((0≤y3.from_/\y3.from_ < (40:Int))) &&
 (cond (nvr (tL dt3 y3.from_) (tU dt3 y3.from_))
 (P3 zay t4t3 dt3)
 (decide ((0≤y3.to/\y3.to < (40:Int))) &&
 (decide ((0≤y3.from_/\y3.from_ < (40:Int))) &&
 (decide ((0≤y3.from_/\y3.from_ < (40:Int))) &&
 (decide ((zDi (⟨(tL dt3 y3.to),(tU dt3 y3.to)⟩:far) (⟨1,λ _=>(⟨(w64 ((tL dt3 y3.from_)+y3.length)),(w64 ((tV dt3 y3.from_)+(1:Int)))⟩:far)⟩:(Sl far))=true)) &&
 (cond zay
 (decide ((0≤y3.to/\y3.to < (40:Int))) &&
 (P3 true t4t3 (ts 80 dt3 (0+y3.to.toNat * 2+0) [(zfi (⟨(tL dt3 y3.to),(tU dt3 y3.to)⟩:far) (⟨1,λ _=>(⟨(w64 ((tL dt3 y3.from_)+y3.length)),(w64 ((tV dt3 y3.from_)+(1:Int)))⟩:far)⟩:(Sl far))).length,(zfi (⟨(tL dt3 y3.to),(tU dt3 y3.to)⟩:far) (⟨1,λ _=>(⟨(w64 ((tL dt3 y3.from_)+y3.length)),(w64 ((tV dt3 y3.from_)+(1:Int)))⟩:far)⟩:(Sl far))).uses])))
 (decide ((0≤y3.to/\y3.to < (40:Int))) &&
 (decide ((0≤y3.to/\y3.to < (40:Int))) &&
 (P3 (!(match ((zfi (⟨(tL dt3 y3.to),(tU dt3 y3.to)⟩:far) (⟨1,λ _=>(⟨(w64 ((tL dt3 y3.from_)+y3.length)),(w64 ((tV dt3 y3.from_)+(1:Int)))⟩:far)⟩:(Sl far))).length == (tL dt3 y3.to)) with | true=>(match ((zfi (⟨(tL dt3 y3.to),(tU dt3 y3.to)⟩:far) (⟨1,λ _=>(⟨(w64 ((tL dt3 y3.from_)+y3.length)),(w64 ((tV dt3 y3.from_)+(1:Int)))⟩:far)⟩:(Sl far))).uses == (tU dt3 y3.to)) with | true=>true | false=>false) | false=>false)) t4t3 (ts 80 dt3 (0+y3.to.toNat * 2+0) [(zfi (⟨(tL dt3 y3.to),(tU dt3 y3.to)⟩:far) (⟨1,λ _=>(⟨(w64 ((tL dt3 y3.from_)+y3.length)),(w64 ((tV dt3 y3.from_)+(1:Int)))⟩:far)⟩:(Sl far))).length,(zfi (⟨(tL dt3 y3.to),(tU dt3 y3.to)⟩:far) (⟨1,λ _=>(⟨(w64 ((tL dt3 y3.from_)+y3.length)),(w64 ((tV dt3 y3.from_)+(1:Int)))⟩:far)⟩:(Sl far))).uses])))))))))))
def zyx (S2:Bool->Tab->Tab->Tab) (w:web):List step->Bool->Tab->Tab->Tab:=lpR (zGg S2 w) (zyv S2 w)
def zyy (P2:Bool->Tab->Tab->Bool) (w:web):List step->Bool->Tab->Tab->Bool:=lpR (zGh P2 w) (zyw P2 w)
def zyz (S2:Bool->Tab->Tab->Tab) (w:web) (zay:Bool) (t4t3:Tab) (dt3:Tab):Tab:=zyx S2 w (zlr w) zay t4t3 dt3
def zyA (P2:Bool->Tab->Tab->Bool) (w:web) (zay:Bool) (t4t3:Tab) (dt3:Tab):Bool:=decide ((zuA w=true)) && zyy P2 w (zlr w) zay t4t3 dt3
theorem zGi (hX2:zGf K w X2 P2 S2) (hs:zyA P2 w zay t4t3 dt3=true) (hk:K (e76 (zyz S2 w zay t4t3 dt3))):z76 K [1,1,1,1,0,1,0,0,1,0,0,1,1,0] [X2] (zyu w zay t4t3 dt3) :=
  zaJ hs λ hc hs=>zr (enc:=(λ y:step=>[.agg (zaA y)])) (ys:=zlr w) (g:=(zyu w zay t4t3 dt3)) (x76 K [1,1,1,1,0,1,0,0,1,0,0,1,1,0] [X2]) (y76 K [1,1,1,1,0,1,0,0,1,0,0,1,1,0] [X2]) (by kernel_rfl) (And.intro (zE enc_40 4 w.Net.Ties.get) (And.intro (rfl:((false,1,false,[none]):MQ)=(false,1,false,[none])) hc)) λ X3 hE hR =>
  (show ∀ l : List step, zJ4 K w (X3 (l.map (λ y : step => [.agg (zaA y)]))) (zyy P2 w l) (zyx S2 w l) from zri (X := X3) (enc := (λ y : step => [.agg (zaA y)])) _ _ (zyw P2 w) (zyv S2 w) (λ Z P S => zJ4 K w Z P S)
 (by intro zay t4t3 dt3 hs hk;exact hE _ (zaX (by kernel_rfl) (hX2 hs hk)))
 (by intro y3 rest P3 S3 hX3 zay t4t3 dt3 hs hk;exact hR _ rest _ (zaX (by kernel_rfl) (zaJ hs λ hc hs=>And.intro hc (zc hs hk (λ hs hk=>(hX3 hs hk)) (λ hs hk=>(zaJ hs λ hc hs=>And.intro hc (zaJ hs λ hc hs=>And.intro hc (zaJ hs λ hc hs=>And.intro hc (zaJ hs λ hc hs=>And.intro (And.intro (zwb:IsE zcq 2 2 (λ _=>(zcq (⟨(w64 ((tL dt3 y3.from_)+y3.length)),(w64 ((tV dt3 y3.from_)+(1:Int)))⟩:far)))) hc) (zc hs hk (λ hs hk=>(zaJ hs λ hc hs=>And.intro hc (hX3 hs hk))) (λ hs hk=>(zaJ hs λ hc hs=>And.intro hc (zaJ hs λ hc hs=>And.intro hc (hX3 hs hk))))))))))))))) _ hs hk
def zyB (w:web) (S2:Bool->Tab->Tab->Tab) (zaI:Bool) (t4t2:Tab) (dt2:Tab):Tab :=
  (cond zaI
 (zyz S2 w false t4t2 dt2)
 dt2)
def zyC (w:web) (P2:Bool->Tab->Tab->Bool) (zaI:Bool) (t4t2:Tab) (dt2:Tab):Bool :=
  (cond zaI
 (zyA P2 w false t4t2 dt2)
 true)
def zyD (w:web):Nat->Bool->Tab->Tab->Tab:=lpO (λ _ _ _=>default) (zyB w)
def zyE (w:web):Nat->Bool->Tab->Tab->Bool:=lpO (λ _ _ _=>false) (zyC w)
def zyF (w:web) (zaI:Bool) (t4t2:Tab) (dt2:Tab):Tab:=zyD w Fuel zaI t4t2 dt2
def zyG (w:web) (zaI:Bool) (t4t2:Tab) (dt2:Tab):Bool:=zyE w Fuel zaI t4t2 dt2
theorem zGj (hs:zyG w zaI t4t2 dt2=true) (hk:K (e76 (zyF w zaI t4t2 dt2))):z76 K [1,1,1,1,0,1,0] [] (zDJ w zaI t4t2 dt2) :=
  zl (λ X=>z76 K [1,1,1,1,0,1,0,0] [X]) (by kernel_rfl) λ X2 hX =>
  (show ∀ k, zGf K w X2 (zyE w k) (zyD w k) from zeU _ _ (zyC w) (zyB w) (zGf K w X2)
 (by intro _ _ _ hs;exact absurd hs dqk)
 (by intro P2 S2 hX2 zaI t4t2 dt2 hs hk;exact hX _ (zaX (by kernel_rfl) (zc hs hk (λ hs hk=>(And.intro (And.intro (zE enc_40 4 w.Net.Ties.get) (rfl:((false,1,false,[none]):MQ)=(false,1,false,[none]))) (zGi hX2 hs hk))) (λ hs hk=>hk))))) _ hs hk
def zyH (w:web) (node:Int) (t4t1:Tab) (dt1:Tab):Tab :=
  (zyF w true t4t1 (ts 80 dt1 (0+node.toNat * 2+0) [(0:Int),(0:Int)]))
def zyI (w:web) (node:Int) (t4t1:Tab) (dt1:Tab):Bool :=
  (decide ((0≤node/\node < (40:Int))) &&
 (zyG w true t4t1 (ts 80 dt1 (0+node.toNat * 2+0) [(0:Int),(0:Int)])))
theorem zGk (hs:zyI w node t4t1 dt1=true) (hk:K (e76 (zyH w node t4t1 dt1))):z76 K [1,1,1] [] ⟨[(0,zP (.fp (zaC w) 0)),(1,zI node),(4,zp 4 0),(5,zp 5 0)],[(4,.box 116 (zm (zar t4t1))),(5,.box 116 (zm (zar dt1)))],[]⟩:=zaX (by kernel_rfl) (zaJ hs λ hc hs=>And.intro hc (zGj hs hk))
def zyJ (w:web) (node:Int) (S0:Int->Tab->Tab->Tab) (za5:Int) (t4t0:Tab) (dt0:Tab):Tab :=
  (cond (decide (za5 < (40:Int)))
 (S0 (w64 (za5+(1:Int))) t4t0 (ts 80 dt0 (0+za5.toNat * 2+0) [(1000000000000:Int),(0:Int)]))
 (zyH w node t4t0 dt0))
def zyK (w:web) (node:Int) (P0:Int->Tab->Tab->Bool) (za5:Int) (t4t0:Tab) (dt0:Tab):Bool :=
  (cond (decide (za5 < (40:Int)))
 (decide ((0≤za5/\za5 < (40:Int))) &&
 (P0 (w64 (za5+(1:Int))) t4t0 (ts 80 dt0 (0+za5.toNat * 2+0) [(1000000000000:Int),(0:Int)])))
 (zyI w node t4t0 dt0))
def zyL (w:web) (node:Int):Nat->Int->Tab->Tab->Tab:=lpO (λ _ _ _=>default) (zyJ w node)
def zyM (w:web) (node:Int):Nat->Int->Tab->Tab->Bool:=lpO (λ _ _ _=>false) (zyK w node)
def zyN (w:web) (node:Int) (za5:Int) (t4t0:Tab) (dt0:Tab):Tab:=zyL w node Fuel za5 t4t0 dt0
def zyO (w:web) (node:Int) (za5:Int) (t4t0:Tab) (dt0:Tab):Bool:=zyM w node Fuel za5 t4t0 dt0
theorem zGl (hs:zyO w node za5 t4t0 dt0=true) (hk:K (e76 (zyN w node za5 t4t0 dt0))):z76 K [1,1,0,1,0] [] (zDI w node za5 t4t0 dt0) :=
  zl (λ X=>z76 K [1,1,0,1,0,0] [X]) (by kernel_rfl) λ X0 hX =>
  (show ∀ k, zJ3 K w node X0 (zyM w node k) (zyL w node k) from zeU _ _ (zyK w node) (zyJ w node) (zJ3 K w node X0)
 (by intro _ _ _ hs;exact absurd hs dqk)
 (by intro P0 S0 hX0 za5 t4t0 dt0 hs hk;exact hX _ (zaX (by kernel_rfl) (zc hs hk (λ hs hk=>(zaJ hs λ hc hs=>And.intro hc (hX0 hs hk))) (λ hs hk=>(zGk hs hk)))))) _ hs hk
def s76 (w:web) (node:Int):Tab :=
  (zyN w node (0:Int) (λ _=>(0:Int)) (λ _=>(0:Int)))
def p76 (w:web) (node:Int):Bool :=
  (zyO w node (0:Int) (λ _=>(0:Int)) (λ _=>(0:Int)))
end
theorem q76 (w:web) (node:Int) (K:List PA->Prop) (hs:p76 w node=true) (hk:K (e76 (s76 w node))):vcFun Tryd.prog G76 zyt 76 [.one (.fp (zaC w) 0),.one (.int .i64 node)] K :=
  zaX (by kernel_rfl) (zGl hs hk)
def zyP : List PA → COut
  | [.one (.fp [.int .i64 zaq,.sl zam zaH zan,.fm zbA zaK zaL] 0),.one (.int .i64 a1)]=>.det (IsE enc_40 4 zaH zan/\zbA=(false,1,false,[none])/\p76 (⟨(⟨zaq,(⟨zam,zak zan⟩:(Sl Tie))⟩:Net),(⟨zaK,zaL⟩:Mp)⟩:web) a1=true) [.agg (zar ((s76 (⟨(⟨zaq,(⟨zam,zak zan⟩:(Sl Tie))⟩:Net),(⟨zaK,zaL⟩:Mp)⟩:web) a1)))]
  | _=>.no
theorem zJ5:zas Tryd.prog 76:=⟨_,rfl,rfl,by kernel_rfl⟩
theorem zMs:Ok Tryd.prog 76 zyP:=zbv zMr zJ5 λ args K h=>by
  unfold zyP at h
  split at h
  · rename_i zaq zam zaH zan zbA zaK zaL a1
    obtain⟨⟨⟨rfl,zaz,rfl⟩,rfl,hs⟩,hk⟩:=h
    try rw[zaj zaz] at hs
    try rw[zaj zaz] at hk
    exact⟨(λ _ _=>[]),(λ _=>false),zyt,q76 (⟨(⟨zaq,(⟨zam,zaz⟩:(Sl Tie))⟩:Net),(⟨zaK,zaL⟩:Mp)⟩:web) a1 K hs hk⟩
  · exact h.elim
abbrev T26:Tabs:=(((Tabs.nil.addF 74 zx5).addF 75 zys).addF 76 zyP)
theorem zMt:TabsOk Tryd.prog T26:=(((TabsOk.nil.addF zMo).addF zMq).addF zMs)
abbrev G26:Ctrs:=csm T26 (λ _ _=>[]) (λ _=>false)
def zGm:Ann:=⟨45,[(0,zK [1] [1]),(1,zK [1,4,5] [1]),(2,zK [1,4,5,16] [1]),(3,zK [2,3] []),(4,zK [1,6,7] [1,6,7]),(5,zK [6,7,8] [6,7,24]),(6,zK [6,7,8,26,27] [6,7,24]),(7,zK [6,7,8,26,27,28] [6,7,24]),(8,zK [6,7,8,9,26,27] [6,7,24]),(9,zK [6,7,8,26,27] [6,7,24]),(10,zK [6,7,8,26,27] [6,7,24]),(11,zK [2,3] [24])],
 [(7,zK [6,7,8,26,27] [6,7,24])],
 [],
 [],[]⟩
abbrev R26:=((Sl Span)×Int)
abbrev e26 (r:R26):List PA:=[.one (.sl r.1.len 2 (λ i=>zbG (r.1.get i))),.one (.int .i64 r.2)]
@[irreducible] def z26:=ptF Tryd.prog G26 zGm Tryd.f26
def zDK (n:Net) (zcv:Int) (zdj:(Sl Span)) (tot0:Tab) (fromt0:Tab) (zgu:Nat->List PV):St:=⟨[(6,zp 6 0),(7,zp 7 0),(8,zv 24),(26,zI (n.Nodes.toNat:Int)),(27,zI zcv)],[(6,.box 116 (zm (zar tot0))),(7,.box 116 (zm (zar fromt0))),(24,.vec 43 2 16 zdj.len zgu)],[]⟩
abbrev zJ6 (K:List PA->Prop) (n:Net) (X:St->Prop) (P:Int->(Sl Span)->Tab->Tab->Bool) (S:Int->(Sl Span)->Tab->Tab->((Sl Span)×Int)):Prop:=∀ ⦃zcv:Int⦄ ⦃zdj:(Sl Span)⦄ ⦃tot0:Tab⦄ ⦃fromt0:Tab⦄ ⦃zgu:Nat->List PV⦄,P zcv zdj tot0 fromt0=true->K (e26 (S zcv zdj tot0 fromt0))->zgu=zg zbG zdj->X (zDK n zcv zdj tot0 fromt0 zgu)
section
variable {K:List PA->Prop}{n:Net}{zcv:Int}{zdj:(Sl Span)}{tot0:Tab}{fromt0:Tab}{zgu:Nat->List PV}{X0:St->Prop}{P0:Int->(Sl Span)->Tab->Tab->Bool}{S0:Int->(Sl Span)->Tab->Tab->((Sl Span)×Int)}
def zyQ (n:Net) (S0:Int->(Sl Span)->Tab->Tab->((Sl Span)×Int)) (zcv:Int) (zdj:(Sl Span)) (tot0:Tab) (fromt0:Tab):((Sl Span)×Int) :=
  (cond (decide (zcv < (n.Nodes.toNat : Int)))
 (S0 (w64 (zcv+(1:Int))) (⟨zdj.len,(setT zcv.toNat (⟨(w64 (0 - (tg 80 tot0 (0+zcv.toNat * 2+0)))),(tg 80 fromt0 (0+zcv.toNat * 2+0))⟩:Span) zdj.get)⟩:Sl Span) tot0 fromt0)
 (zdj,(0:Int)))
def zyR (n:Net) (P0:Int->(Sl Span)->Tab->Tab->Bool) (zcv:Int) (zdj:(Sl Span)) (tot0:Tab) (fromt0:Tab):Bool :=
  (cond (decide (zcv < (n.Nodes.toNat : Int)))
 (decide ((0≤zcv/\zcv < (40:Int))) &&
 (decide ((0≤zcv/\zcv < (40:Int))) &&
 (decide ((0≤zcv/\zcv < (zdj.len:Int))) &&
 (decide ((zcv.toNat < zdj.len)) &&
 (P0 (w64 (zcv+(1:Int))) (⟨zdj.len,(setT zcv.toNat (⟨(w64 (0 - (tg 80 tot0 (0+zcv.toNat * 2+0)))),(tg 80 fromt0 (0+zcv.toNat * 2+0))⟩:Span) zdj.get)⟩:Sl Span) tot0 fromt0)))))
 true)
def zyS (n:Net):Nat->Int->(Sl Span)->Tab->Tab->((Sl Span)×Int):=lpO (λ _ _ _ _=>default) (zyQ n)
def zyT (n:Net):Nat->Int->(Sl Span)->Tab->Tab->Bool:=lpO (λ _ _ _ _=>false) (zyR n)
def zyU (n:Net) (zcv:Int) (zdj:(Sl Span)) (tot0:Tab) (fromt0:Tab):((Sl Span)×Int):=zyS n Fuel zcv zdj tot0 fromt0
def zyV (n:Net) (zcv:Int) (zdj:(Sl Span)) (tot0:Tab) (fromt0:Tab):Bool:=zyT n Fuel zcv zdj tot0 fromt0
theorem zGn (hs:zyV n zcv zdj tot0 fromt0=true) (hk:K (e26 (zyU n zcv zdj tot0 fromt0))) (zq9:zgu=zg zbG zdj):z26 (Wk K) [1,1,1,1,1,0,1,0] [] (zDK n zcv zdj tot0 fromt0 zgu) :=
  zl (λ X=>z26 (Wk K) [1,1,1,1,1,0,1,0,0] [X]) (by kernel_rfl) λ X0 hX =>
  (show ∀ k, zJ6 K n X0 (zyT n k) (zyS n k) from zeU _ _ (zyR n) (zyQ n) (zJ6 K n X0)
 (by intro _ _ _ _ _ hs;exact absurd hs dqk)
 (by intro P0 S0 hX0 zcv zdj tot0 fromt0 zgu hs hk zq9;subst zq9;exact hX _ (zaX (by kernel_rfl) (zc hs hk (λ hs hk=>(zaJ hs λ hc hs=>And.intro hc (zaJ hs λ hc hs=>And.intro hc (zaJ hs λ hc hs=>And.intro hc (zaJ hs λ hc hs=>And.intro hc (hX0 hs hk (zll (enc:=zbG) (i:=zcv.toNat) (k:=0) (f:=zdj.get) (new:=(zbG (⟨(w64 (0 - (tg 80 tot0 (0+zcv.toNat * 2+0)))),(tg 80 fromt0 (0+zcv.toNat * 2+0))⟩:Span))) (v:=(⟨(w64 (0 - (tg 80 tot0 (0+zcv.toNat * 2+0)))),(tg 80 fromt0 (0+zcv.toNat * 2+0))⟩:Span)) rfl rfl))))))) (λ hs hk=>((zfh hk):Wk K [.one (.sl zdj.len 2 (λ i=>zbG (zdj.get i))),.one (.int .i64 (0:Int))])))))) _ hs hk zq9
def s26 (n:Net):((Sl Span)×Int) :=
  (cond ((s74 n (⟨0, λ _ => default⟩ : (Sl Int))).2 == 0)
 (cond ((0:Int) != (0:Int))
 ((⟨0,λ _=>default⟩:(Sl Span)),(0:Int))
 (zyU n (0:Int) (⟨n.Nodes.toNat,(λ _=>(⟨(0:Int),(0:Int)⟩:Span))⟩:Sl Span) (s75 (⟨(s74 n (⟨0,λ _=>default⟩:(Sl Int))).1.Net,((s74 n (⟨0,λ _=>default⟩:(Sl Int))).1.out)⟩:web) (0:Int)) (s76 (⟨(s74 n (⟨0,λ _=>default⟩:(Sl Int))).1.Net,((s74 n (⟨0,λ _=>default⟩:(Sl Int))).1.out)⟩:web) (0:Int))))
 (cond ((s74 n (⟨0, λ _ => default⟩ : (Sl Int))).2 != (0:Int))
 ((⟨0,λ _=>default⟩:(Sl Span)),(s74 n (⟨0,λ _=>default⟩:(Sl Int))).2)
 default))
def p26 (n:Net):Bool :=
  (cond ((s74 n (⟨0, λ _ => default⟩ : (Sl Int))).2 == 0)
 (decide ((p74 n (⟨0,λ _=>default⟩:(Sl Int))=true)) &&
 (cond ((0:Int) != (0:Int))
 true
 (decide ((p75 (⟨(s74 n (⟨0,λ _=>default⟩:(Sl Int))).1.Net,((s74 n (⟨0,λ _=>default⟩:(Sl Int))).1.out)⟩:web) (0:Int)=true)) &&
 (decide ((p76 (⟨(s74 n (⟨0,λ _=>default⟩:(Sl Int))).1.Net,((s74 n (⟨0,λ _=>default⟩:(Sl Int))).1.out)⟩:web) (0:Int)=true)) &&
 (decide ((0≤n.Nodes/\n.Nodes=n.Nodes/\n.Nodes≤1000000)) &&
 (zyV n (0:Int) (⟨n.Nodes.toNat,(λ _=>(⟨(0:Int),(0:Int)⟩:Span))⟩:Sl Span) (s75 (⟨(s74 n (⟨0,λ _=>default⟩:(Sl Int))).1.Net,((s74 n (⟨0,λ _=>default⟩:(Sl Int))).1.out)⟩:web) (0:Int)) (s76 (⟨(s74 n (⟨0,λ _=>default⟩:(Sl Int))).1.Net,((s74 n (⟨0,λ _=>default⟩:(Sl Int))).1.out)⟩:web) (0:Int))))))))
 (decide ((p74 n (⟨0,λ _=>default⟩:(Sl Int))=true)) &&
 (cond ((s74 n (⟨0, λ _ => default⟩ : (Sl Int))).2 != (0:Int))
 true
 false)))
end
theorem q26 (n:Net) (K:List PA->Prop) (hs:p26 n=true) (hk:K (e26 (s26 n))):vcFun Tryd.prog G26 zGm 26 [.agg (enc_24 n)] (Wk K) :=
  zaX (by kernel_rfl) (zc hs hk (λ hs hk=>(zaJ hs λ hc hs=>And.intro (And.intro (zE enc_40 4 n.Ties.get) hc) (zc hs hk (λ hs hk=>((wk hk (zhq (.one (.nil _ _)) (zhq (.one (.rfl _)) zmC))):Wk K [.one (.nils),.one (.int .i64 (0:Int))])) (λ hs hk=>(zaJ hs λ hc hs=>And.intro (And.intro (zE enc_40 4 ((s74 n (⟨0,λ _=>default⟩:(Sl Int))).1.Net.Ties.get)) (And.intro (rfl:((false,1,false,[none]):MQ)=(false,1,false,[none])) hc)) (zaJ hs λ hc hs=>And.intro (And.intro (zE enc_40 4 ((s74 n (⟨0,λ _=>default⟩:(Sl Int))).1.Net.Ties.get)) (And.intro (rfl:((false,1,false,[none]):MQ)=(false,1,false,[none])) hc)) (zaJ hs λ hc hs=>And.intro hc (zGn hs hk rfl)))))))) (λ hs hk=>(zaJ hs λ hc hs=>And.intro (And.intro (zE enc_40 4 n.Ties.get) hc) (zc hs hk (λ hs hk=>((wk hk (zhq (.one (.nil _ _)) (zhq (.one (.rfl _)) zmC))):Wk K [.one (.nils),.one (.int .i64 ((s74 n (⟨0,λ _=>default⟩:(Sl Int))).2))])) (λ hs hk=>(absurd hs dqk:False))))))
def zGo : List PA → COut
  | [.agg [.int .i64 zae,.sl zad zau zac]]=>.det (IsE enc_40 4 zau zac/\p26 (⟨zae,(⟨zad,zak zac⟩:(Sl Tie))⟩:Net)=true) [.one (.sl (((s26 (⟨zae,(⟨zad,zak zac⟩:(Sl Tie))⟩:Net)).1).len) 2 (λ i=>zbG (((s26 (⟨zae,(⟨zad,zak zac⟩:(Sl Tie))⟩:Net)).1).get i))),.one (.int .i64 ((s26 (⟨zae,(⟨zad,zak zac⟩:(Sl Tie))⟩:Net)).2))]
  | _=>.no
theorem zJ7:zas Tryd.prog 26:=⟨_,rfl,rfl,by kernel_rfl⟩
theorem zOn:Ok Tryd.prog 26 zGo:=zgc zMt zJ7 λ args K h=>by
  unfold zGo at h
  split at h
  · rename_i zae zad zau zac
    obtain⟨⟨⟨rfl,zal,rfl⟩,hs⟩,hk⟩:=h
    try rw[zaj zal] at hs
    try rw[zaj zal] at hk
    exact⟨_,zff zfg _,(λ _ _=>[]),(λ _=>false),zGm,q26 (⟨zae,(⟨zad,zal⟩:(Sl Tie))⟩:Net) K hs hk⟩
  · exact h.elim
abbrev T29:Tabs:=Tabs.nil
theorem zMu:TabsOk Tryd.prog T29:=TabsOk.nil
abbrev G29:Ctrs:=csm T29 (λ _ _=>[]) (λ _=>false)
def zJ8:Ann:=⟨13,[(0,zK [2,3,4] [2,3,4]),(1,zK [2,4] [2,4,7]),(2,zK [4] [4,7])],
 [],
 [],
 [],[]⟩
abbrev R29:=Net
abbrev e29 (r:R29):List PA:=[.agg [.int .i64 r.Nodes,.sl r.Ties.len 4 (λ i=>enc_40 (r.Ties.get i))]]
section
variable {K:List PA->Prop}{n:Net}{t:Tie}
def s29 (n:Net) (t:Tie):Net :=
  (⟨n.Nodes,(⟨(n.Ties.len+1),(zdb n.Ties.len n.Ties.get (λ _=>t))⟩:(Sl Tie))⟩:Net)
def p29 (n:Net) (t:Tie):Bool :=
  (decide ((n.Ties.len * 32≤140737488355328/\n.Ties.len≤9223372036854775807)) &&
 (decide (((n.Ties.len+1) * 32≤140737488355328/\n.Ties.len+1≤9223372036854775807)) &&
 true))
end
theorem q29 (n:Net) (t:Tie) (K:List PA->Prop) (hs:p29 n t=true) (hk:K (e29 (s29 n t))):vcFun Tryd.prog G29 zJ8 29 [.agg (enc_24 n),.agg (enc_40 t)] K :=
  zaX (by kernel_rfl) (zaJ hs λ hc hs=>And.intro hc (zaJ hs λ hc hs=>And.intro hc (Eq.mpr (congrArg K (congrArg (λ (g_:Nat->List PV)=>([.agg [.int .i64 n.Nodes,.sl (n.Ties.len+1) 4 g_]]:List PA)) (zjJ (enc:=enc_40) (f:=n.Ties.get) (h:=(λ _=>t)) rfl rfl))) hk)))
def zGp : List PA → COut
  | [.agg [.int .i64 zae,.sl zad zau zac],.agg [.int .i64 ze4,.int .i64 zl4,.int .i64 zhs,.int .i64 ze5]]=>.det (IsE enc_40 4 zau zac/\p29 (⟨zae,(⟨zad,zak zac⟩:(Sl Tie))⟩:Net) (⟨ze4,zl4,zhs,ze5⟩:Tie)=true) [.agg [.int .i64 ((s29 (⟨zae,(⟨zad,zak zac⟩:(Sl Tie))⟩:Net) (⟨ze4,zl4,zhs,ze5⟩:Tie)).Nodes),.sl ((s29 (⟨zae,(⟨zad,zak zac⟩:(Sl Tie))⟩:Net) (⟨ze4,zl4,zhs,ze5⟩:Tie)).Ties.len) 4 (λ i=>enc_40 ((s29 (⟨zae,(⟨zad,zak zac⟩:(Sl Tie))⟩:Net) (⟨ze4,zl4,zhs,ze5⟩:Tie)).Ties.get i))]]
  | _=>.no
theorem zJ9:zas Tryd.prog 29:=⟨_,rfl,rfl,by kernel_rfl⟩
theorem zOo:Ok Tryd.prog 29 zGp:=zbv zMu zJ9 λ args K h=>by
  unfold zGp at h
  split at h
  · rename_i zae zad zau zac ze4 zl4 zhs ze5
    obtain⟨⟨⟨rfl,zal,rfl⟩,hs⟩,hk⟩:=h
    try rw[zaj zal] at hs
    try rw[zaj zal] at hk
    exact⟨(λ _ _=>[]),(λ _=>false),zJ8,q29 (⟨zae,(⟨zad,zal⟩:(Sl Tie))⟩:Net) (⟨ze4,zl4,zhs,ze5⟩:Tie) K hs hk⟩
  · exact h.elim
abbrev T32:Tabs:=Tabs.nil
theorem zMv:TabsOk Tryd.prog T32:=TabsOk.nil
abbrev G32:Ctrs:=csm T32 (λ _ _=>[]) (λ _=>false)
def zGq:Ann:=⟨26,[(0,zK [0,1] []),(1,zK [0,1,10] []),(2,zK [4] []),(3,zK [0,1,5] []),(4,zK [0,1,5,14] []),(5,zK [0,1,5] []),(6,zK [0,1,5,25] []),(7,zK [4] []),(8,zK [4] [])],
 [(4,zK [0,1,5] [])],
 [(3,zK [0,1] [])],
 [],[]⟩
abbrev R32:=Bool
abbrev e32 (r:R32):List PA:=[.one (.bool r)]
@[irreducible] def z32:=ptF Tryd.prog G32 zGq Tryd.f32
def zDL (a:(Sl Span)) (b:(Sl Span)) (iv1:Int):St:=⟨[(0,zS zbG 2 a),(1,zS zbG 2 b),(5,zI iv1)],[],[]⟩
abbrev zKa (K:List PA->Prop) (a:(Sl Span)) (b:(Sl Span)) (X:St->Prop) (P:Int->Bool) (S:Int->Bool):Prop:=∀ ⦃iv1:Int⦄,P iv1=true->K (e32 (S iv1))->X (zDL a b iv1)
section
variable {K:List PA->Prop}{a:(Sl Span)}{b:(Sl Span)}{iv1:Int}{X1:St->Prop}{P1:Int->Bool}{S1:Int->Bool}
def zyW (a:(Sl Span)) (b:(Sl Span)) (S1:Int->Bool) (iv1:Int):Bool :=
  (cond (decide (iv1 < (a.len : Int)))
 (cond (!(match ((a.get iv1.toNat).Low == (b.get iv1.toNat).Low) with | true => (match ((a.get iv1.toNat).High == (b.get iv1.toNat).High) with | true => true | false => false) | false => false))
 false
 (S1 (w64 (iv1+(1:Int)))))
 true)
def zyX (a:(Sl Span)) (b:(Sl Span)) (P1:Int->Bool) (iv1:Int):Bool :=
  (cond (decide (iv1 < (a.len : Int)))
 (decide ((0≤iv1/\iv1 < (a.len:Int))) &&
 (decide ((0≤iv1/\iv1 < (b.len:Int))) &&
 (cond (!(match ((a.get iv1.toNat).Low == (b.get iv1.toNat).Low) with | true => (match ((a.get iv1.toNat).High == (b.get iv1.toNat).High) with | true => true | false => false) | false => false))
 true
 (P1 (w64 (iv1+(1:Int)))))))
 true)
def zyY (a:(Sl Span)) (b:(Sl Span)):Nat->Int->Bool:=lpO (λ _=>default) (zyW a b)
def zyZ (a:(Sl Span)) (b:(Sl Span)):Nat->Int->Bool:=lpO (λ _=>false) (zyX a b)
def zy0 (a:(Sl Span)) (b:(Sl Span)) (iv1:Int):Bool:=zyY a b Fuel iv1
def zy1 (a:(Sl Span)) (b:(Sl Span)) (iv1:Int):Bool:=zyZ a b Fuel iv1
theorem zGr (hs:zy1 a b iv1=true) (hk:K (e32 (zy0 a b iv1))):z32 K [1,1,0,1,0] [] (zDL a b iv1) :=
  zl (λ X=>z32 K [1,1,0,1,0,0] [X]) (by kernel_rfl) λ X1 hX =>
  (show ∀ k, zKa K a b X1 (zyZ a b k) (zyY a b k) from zeU _ _ (zyX a b) (zyW a b) (zKa K a b X1)
 (by intro _ hs;exact absurd hs dqk)
 (by intro P1 S1 hX1 iv1 hs hk;exact hX _ (zaX (by kernel_rfl) (zc hs hk (λ hs hk=>(zaJ hs λ hc hs=>And.intro hc (zaJ hs λ hc hs=>And.intro hc (zc hs hk (λ hs hk=>hk) (λ hs hk=>(hX1 hs hk)))))) (λ hs hk=>hk))))) _ hs hk
def zy2 (a:(Sl Span)) (b:(Sl Span)):Bool :=
  (zy0 a b (0:Int))
def zy3 (a:(Sl Span)) (b:(Sl Span)):Bool :=
  (zy1 a b (0:Int))
theorem zGs (hs:zy3 a b=true) (hk:K (e32 (zy2 a b))):z32 K [1,1] [] ⟨[(0,zS zbG 2 a),(1,zS zbG 2 b)],[],[]⟩:=zaX (by kernel_rfl) (zGr hs hk)
def s32 (a:(Sl Span)) (b:(Sl Span)):Bool :=
  (cond ((a.len : Int) != (b.len : Int))
 false
 (zy2 a b))
def p32 (a:(Sl Span)) (b:(Sl Span)):Bool :=
  (cond ((a.len : Int) != (b.len : Int))
 true
 (zy3 a b))
end
theorem q32 (a:(Sl Span)) (b:(Sl Span)) (K:List PA->Prop) (hs:p32 a b=true) (hk:K (e32 (s32 a b))):vcFun Tryd.prog G32 zGq 32 [.one (.sl a.len 2 (λ i=>zbG (a.get i))),.one (.sl b.len 2 (λ i=>zbG (b.get i)))] K :=
  zaX (by kernel_rfl) (zc hs hk (λ hs hk=>hk) (λ hs hk=>(zGs hs hk)))
def zGt : List PA → COut
  | [.one (.sl zfk zlu zfl),.one (.sl zeY zkn zeL)]=>.det (IsE zbG 2 zlu zfl/\IsE zbG 2 zkn zeL/\p32 (⟨zfk,zgd zfl⟩:(Sl Span)) (⟨zeY,zgd zeL⟩:(Sl Span))=true) [.one (.bool (s32 (⟨zfk,zgd zfl⟩:(Sl Span)) (⟨zeY,zgd zeL⟩:(Sl Span))))]
  | _=>.no
theorem zKb:zas Tryd.prog 32:=⟨_,rfl,rfl,by kernel_rfl⟩
theorem ok32:Ok Tryd.prog 32 zGt:=zbv zMv zKb λ args K h=>by
  unfold zGt at h
  split at h
  · rename_i zfk zlu zfl zeY zkn zeL
    obtain⟨⟨⟨rfl,zhH,rfl⟩,⟨rfl,zhI,rfl⟩,hs⟩,hk⟩:=h
    try rw[zfB zhH] at hs
    try rw[zfB zhH] at hk
    try rw[zfB zhI] at hs
    try rw[zfB zhI] at hk
    exact⟨(λ _ _=>[]),(λ _=>false),zGq,q32 (⟨zfk,zhH⟩:(Sl Span)) (⟨zeY,zhI⟩:(Sl Span)) K hs hk⟩
  · exact h.elim
abbrev T83:Tabs:=((Tabs.nil.addF 75 zys).addF 76 zyP)
theorem zMw:TabsOk Tryd.prog T83:=((TabsOk.nil.addF zMq).addF zMs)
abbrev G83:Ctrs:=csm T83 (λ _ _=>[]) (λ _=>false)
def zGu:Ann:=⟨31,[(0,zK [0] []),(1,zK [0,3,4] [3,4]),(2,zK [3,4,14,15] [3,4]),(3,zK [3,4,14,15,16] [3,4]),(4,zK [3,4,5,14,15] [3,4]),(5,zK [3,4,14,15,29] [3,4]),(6,zK [2] []),(7,zK [3,4,14,15] [3,4]),(8,zK [2] [])],
 [(3,zK [3,4,14,15] [3,4])],
 [(2,zK [0,3,4] [3,4])],
 [],[]⟩
abbrev R83:=Bool
abbrev e83 (r:R83):List PA:=[.one (.bool r)]
@[irreducible] def z83:=ptF Tryd.prog G83 zGu Tryd.f83
def zDM (w:web) (zcT:Int) (tot1:Tab) (fromt1:Tab):St:=⟨[(3,zp 3 0),(4,zp 4 0),(14,zI w.Net.Nodes),(15,zI zcT)],[(3,.box 116 (zm (zar tot1))),(4,.box 116 (zm (zar fromt1)))],[]⟩
abbrev zKc (K:List PA->Prop) (w:web) (X:St->Prop) (P:Int->Tab->Tab->Bool) (S:Int->Tab->Tab->Bool):Prop:=∀ ⦃zcT:Int⦄ ⦃tot1:Tab⦄ ⦃fromt1:Tab⦄,P zcT tot1 fromt1=true->K (e83 (S zcT tot1 fromt1))->X (zDM w zcT tot1 fromt1)
section
variable {K:List PA->Prop}{w:web}{tot0:Tab}{fromt0:Tab}{zcT:Int}{tot1:Tab}{fromt1:Tab}{X1:St->Prop}{P1:Int->Tab->Tab->Bool}{S1:Int->Tab->Tab->Bool}
def zy4 (w:web) (S1:Int->Tab->Tab->Bool) (zcT:Int) (tot1:Tab) (fromt1:Tab):Bool :=
  (cond (decide (zcT < w.Net.Nodes))
 (cond (match ((tg 80 tot1 (0 + zcT.toNat * 2 + 0)) == (1000000000000:Int)) with | true => (match ((tg 80 tot1 (0 + zcT.toNat * 2 + 0 + 1)) == (0:Int)) with | true => true | false => false) | false => false)
 false
 (cond (match ((tg 80 fromt1 (0 + zcT.toNat * 2 + 0)) == (1000000000000:Int)) with | true => (match ((tg 80 fromt1 (0 + zcT.toNat * 2 + 0 + 1)) == (0:Int)) with | true => true | false => false) | false => false)
 false
 (S1 (w64 (zcT+(1:Int))) tot1 fromt1)))
 true)
def zy5 (w:web) (P1:Int->Tab->Tab->Bool) (zcT:Int) (tot1:Tab) (fromt1:Tab):Bool :=
  (cond (decide (zcT < w.Net.Nodes))
 (decide ((0≤zcT/\zcT < (40:Int))) &&
 (cond (match ((tg 80 tot1 (0 + zcT.toNat * 2 + 0)) == (1000000000000:Int)) with | true => (match ((tg 80 tot1 (0 + zcT.toNat * 2 + 0 + 1)) == (0:Int)) with | true => true | false => false) | false => false)
 true
 (decide ((0≤zcT/\zcT < (40:Int))) &&
 (cond (match ((tg 80 fromt1 (0 + zcT.toNat * 2 + 0)) == (1000000000000:Int)) with | true => (match ((tg 80 fromt1 (0 + zcT.toNat * 2 + 0 + 1)) == (0:Int)) with | true => true | false => false) | false => false)
 true
 (P1 (w64 (zcT+(1:Int))) tot1 fromt1)))))
 true)
def zy6 (w:web):Nat->Int->Tab->Tab->Bool:=lpO (λ _ _ _=>default) (zy4 w)
def zy7 (w:web):Nat->Int->Tab->Tab->Bool:=lpO (λ _ _ _=>false) (zy5 w)
def zy8 (w:web) (zcT:Int) (tot1:Tab) (fromt1:Tab):Bool:=zy6 w Fuel zcT tot1 fromt1
def zy9 (w:web) (zcT:Int) (tot1:Tab) (fromt1:Tab):Bool:=zy7 w Fuel zcT tot1 fromt1
theorem zGv (hs:zy9 w zcT tot1 fromt1=true) (hk:K (e83 (zy8 w zcT tot1 fromt1))):z83 K [1,1,0,1,0] [] (zDM w zcT tot1 fromt1) :=
  zl (λ X=>z83 K [1,1,0,1,0,0] [X]) (by kernel_rfl) λ X1 hX =>
  (show ∀ k, zKc K w X1 (zy7 w k) (zy6 w k) from zeU _ _ (zy5 w) (zy4 w) (zKc K w X1)
 (by intro _ _ _ hs;exact absurd hs dqk)
 (by intro P1 S1 hX1 zcT tot1 fromt1 hs hk;exact hX _ (zaX (by kernel_rfl) (zc hs hk (λ hs hk=>(zaJ hs λ hc hs=>And.intro hc (zc hs hk (λ hs hk=>hk) (λ hs hk=>(zaJ hs λ hc hs=>And.intro hc (zc hs hk (λ hs hk=>hk) (λ hs hk=>(hX1 hs hk)))))))) (λ hs hk=>hk))))) _ hs hk
def zza (w:web) (tot0:Tab) (fromt0:Tab):Bool :=
  (zy8 w (0:Int) tot0 fromt0)
def zzb (w:web) (tot0:Tab) (fromt0:Tab):Bool :=
  (zy9 w (0:Int) tot0 fromt0)
theorem zGw (hs:zzb w tot0 fromt0=true) (hk:K (e83 (zza w tot0 fromt0))):z83 K [1,1] [] ⟨[(0,zP (.fp (zaC w) 0)),(3,zp 3 0),(4,zp 4 0)],[(3,.box 116 (zm (zar tot0))),(4,.box 116 (zm (zar fromt0)))],[]⟩:=zaX (by kernel_rfl) (zGv hs hk)
def s83 (w:web):Bool :=
  (zza w (s75 w (0:Int)) (s76 w (0:Int)))
def p83 (w:web):Bool :=
  (decide ((p75 w (0:Int)=true)) &&
 (decide ((p76 w (0:Int)=true)) &&
 (zzb w (s75 w (0:Int)) (s76 w (0:Int)))))
end
theorem q83 (w:web) (K:List PA->Prop) (hs:p83 w=true) (hk:K (e83 (s83 w))):vcFun Tryd.prog G83 zGu 83 [.one (.fp (zaC w) 0)] K :=
  zaX (by kernel_rfl) (zaJ hs λ hc hs=>And.intro (And.intro (zE enc_40 4 w.Net.Ties.get) (And.intro (rfl:((false,1,false,[none]):MQ)=(false,1,false,[none])) hc)) (zaJ hs λ hc hs=>And.intro (And.intro (zE enc_40 4 w.Net.Ties.get) (And.intro (rfl:((false,1,false,[none]):MQ)=(false,1,false,[none])) hc)) (zGw hs hk)))
def zGx : List PA → COut
  | [.one (.fp [.int .i64 zaq,.sl zam zaH zan,.fm zbA zaK zaL] 0)]=>.det (IsE enc_40 4 zaH zan/\zbA=(false,1,false,[none])/\p83 (⟨(⟨zaq,(⟨zam,zak zan⟩:(Sl Tie))⟩:Net),(⟨zaK,zaL⟩:Mp)⟩:web)=true) [.one (.bool (s83 (⟨(⟨zaq,(⟨zam,zak zan⟩:(Sl Tie))⟩:Net),(⟨zaK,zaL⟩:Mp)⟩:web)))]
  | _=>.no
theorem zKd:zas Tryd.prog 83:=⟨_,rfl,rfl,by kernel_rfl⟩
theorem zOp:Ok Tryd.prog 83 zGx:=zbv zMw zKd λ args K h=>by
  unfold zGx at h
  split at h
  · rename_i zaq zam zaH zan zbA zaK zaL
    obtain⟨⟨⟨rfl,zaz,rfl⟩,rfl,hs⟩,hk⟩:=h
    try rw[zaj zaz] at hs
    try rw[zaj zaz] at hk
    exact⟨(λ _ _=>[]),(λ _=>false),zGu,q83 (⟨(⟨zaq,(⟨zam,zaz⟩:(Sl Tie))⟩:Net),(⟨zaK,zaL⟩:Mp)⟩:web) K hs hk⟩
  · exact h.elim
abbrev T87:Tabs:=Tabs.nil
theorem zMx:TabsOk Tryd.prog T87:=TabsOk.nil
abbrev G87:Ctrs:=csm T87 (λ _ _=>[]) (λ _=>false)
def zKe:Ann:=⟨12,[(0,zK [0,1] []),(1,zK [3] [])],
 [],
 [],
 [],[]⟩
abbrev R87:=Int
abbrev e87 (r:R87):List PA:=[.one (.int .i64 r)]
section
variable {K:List PA->Prop}{c0:Tab}{i_a0:Int}
def s87 (c0:Tab) (i_a0:Int):Int :=
  (w64 ((tg 80 c0 (0+i_a0.toNat * 2+0)) - (tg 80 c0 (0+0 * 2+0))))
def p87 (c0:Tab) (i_a0:Int):Bool :=
  (decide ((0≤i_a0/\i_a0 < (40:Int))) &&
 (decide ((0≤(0:Int)/\(0:Int) < (40:Int))) &&
 true))
end
theorem q87 (c0:Tab) (i_a0:Int) (K:List PA->Prop) (hs:p87 c0 i_a0=true) (hk:K (e87 (s87 c0 i_a0))):vcFun Tryd.prog G87 zKe 87 [.one (.int .i64 i_a0),.one (.fp (zar c0) 0)] K :=
  zaX (by kernel_rfl) (zaJ hs λ hc hs=>And.intro hc (zaJ hs λ hc hs=>And.intro hc hk))
def zGy : List PA → COut
  | [.one (.int .i64 a0),.one (.fp c0_t 0)]=>.det (c0_t=zar (za7 c0_t)/\p87 (za7 c0_t) a0=true) [.one (.int .i64 (s87 (za7 c0_t) a0))]
  | _=>.no
theorem zKf:zas Tryd.prog 87:=⟨_,rfl,rfl,by kernel_rfl⟩
theorem zOq:Ok Tryd.prog 87 zGy:=zbv zMx zKf λ args K h=>by
  unfold zGy at h
  split at h
  · rename_i a0 c0_t
    obtain⟨⟨hT_c0,hs⟩,hk⟩:=h
    exact⟨(λ _ _=>[]),(λ _=>false),zKe,(by have hq:=q87 (za7 c0_t) a0 K hs hk;rw[← hT_c0] at hq;exact hq)⟩
  · exact h.elim
abbrev T84:Tabs:=(Tabs.nil.addF 87 zGy)
theorem zMy:TabsOk Tryd.prog T84:=(TabsOk.nil.addF zOq)
abbrev G84:Ctrs:=csm T84 (λ _ _=>[]) (λ _=>false)
def zGz:Ann:=⟨26,[(0,zK [0,1] []),(1,zK [1,5] [12]),(2,zK [1,5,14,15] [12]),(3,zK [1,5,14,15,16] [12]),(4,zK [1,5,6,14,15] [12]),(5,zK [1,5,14,15] [12]),(6,zK [1,5,14,15] [12]),(7,zK [4] [12])],
 [(3,zK [1,5,14,15] [12])],
 [],
 [],[]⟩
abbrev R84:=(Sl Int)
abbrev e84 (r:R84):List PA:=[.one (.sl r.len 1 (λ i=>zah (r.get i)))]
@[irreducible] def z84:=ptF Tryd.prog G84 zGz Tryd.f84
def zDN (c0:Tab) (w:web) (zbj:Int) (zdH:(Sl Int)) (zgv:Nat->List PV):St:=⟨[(1,zP (.fn 87 [] [.fp (zar c0) 0])),(5,zv 12),(14,zI (w.Net.Nodes.toNat:Int)),(15,zI zbj)],[(12,.vec 3 1 8 zdH.len zgv)],[]⟩
abbrev zKg (K:List PA->Prop) (c0:Tab) (w:web) (X:St->Prop) (P:Int->(Sl Int)->Bool) (S:Int->(Sl Int)->(Sl Int)):Prop:=∀ ⦃zbj:Int⦄ ⦃zdH:(Sl Int)⦄ ⦃zgv:Nat->List PV⦄,P zbj zdH=true->K (e84 (S zbj zdH))->zgv=zg zah zdH->X (zDN c0 w zbj zdH zgv)
section
variable {K:List PA->Prop}{c0:Tab}{w:web}{zbj:Int}{zdH:(Sl Int)}{zgv:Nat->List PV}{X0:St->Prop}{P0:Int->(Sl Int)->Bool}{S0:Int->(Sl Int)->(Sl Int)}
def zzc (c0:Tab) (w:web) (S0:Int->(Sl Int)->(Sl Int)) (zbj:Int) (zdH:(Sl Int)):(Sl Int) :=
  (cond (decide (zbj < (w.Net.Nodes.toNat : Int)))
 (S0 (w64 (zbj+(1:Int))) (⟨zdH.len,(setT zbj.toNat (s87 (za7 (zar c0)) zbj) zdH.get)⟩:Sl Int))
 zdH)
def zzd (c0:Tab) (w:web) (P0:Int->(Sl Int)->Bool) (zbj:Int) (zdH:(Sl Int)):Bool :=
  (cond (decide (zbj < (w.Net.Nodes.toNat : Int)))
 (decide ((p87 (za7 (zar c0)) zbj=true)) &&
 (decide ((0≤zbj/\zbj < (zdH.len:Int))) &&
 (decide ((zbj.toNat < zdH.len)) &&
 (P0 (w64 (zbj+(1:Int))) (⟨zdH.len,(setT zbj.toNat (s87 (za7 (zar c0)) zbj) zdH.get)⟩:Sl Int)))))
 true)
def zze (c0:Tab) (w:web):Nat->Int->(Sl Int)->(Sl Int):=lpO (λ _ _=>default) (zzc c0 w)
def zzf (c0:Tab) (w:web):Nat->Int->(Sl Int)->Bool:=lpO (λ _ _=>false) (zzd c0 w)
def zzg (c0:Tab) (w:web) (zbj:Int) (zdH:(Sl Int)):(Sl Int):=zze c0 w Fuel zbj zdH
def zzh (c0:Tab) (w:web) (zbj:Int) (zdH:(Sl Int)):Bool:=zzf c0 w Fuel zbj zdH
theorem zGA (hs:zzh c0 w zbj zdH=true) (hk:K (e84 (zzg c0 w zbj zdH))) (zra:zgv=zg zah zdH):z84 K [1,1,0,1,0] [] (zDN c0 w zbj zdH zgv) :=
  zl (λ X=>z84 K [1,1,0,1,0,0] [X]) (by kernel_rfl) λ X0 hX =>
  (show ∀ k, zKg K c0 w X0 (zzf c0 w k) (zze c0 w k) from zeU _ _ (zzd c0 w) (zzc c0 w) (zKg K c0 w X0)
 (by intro _ _ _ hs;exact absurd hs dqk)
 (by intro P0 S0 hX0 zbj zdH zgv hs hk zra;subst zra;exact hX _ (zaX (by kernel_rfl) (zc hs hk (λ hs hk=>(zaJ hs λ hc hs=>And.intro (And.intro (znv:zar c0=zar (za7 (zar c0))) hc) (zaJ hs λ hc hs=>And.intro hc (zaJ hs λ hc hs=>And.intro hc (hX0 hs hk (zll (enc:=zah) (i:=zbj.toNat) (k:=0) (f:=zdH.get) (new:=(zah (s87 (za7 (zar c0)) zbj))) (v:=(s87 (za7 (zar c0)) zbj)) rfl rfl)))))) (λ hs hk=>hk))))) _ hs hk zra
def s84 (c0:Tab) (w:web):(Sl Int) :=
  (zzg c0 w (0:Int) (⟨w.Net.Nodes.toNat,(λ _=>(0:Int))⟩:Sl Int))
def p84 (c0:Tab) (w:web):Bool :=
  (decide ((0≤w.Net.Nodes/\w.Net.Nodes=w.Net.Nodes/\w.Net.Nodes≤1000000)) &&
 (zzh c0 w (0:Int) (⟨w.Net.Nodes.toNat,(λ _=>(0:Int))⟩:Sl Int)))
end
theorem q84 (c0:Tab) (w:web) (K:List PA->Prop) (hs:p84 c0 w=true) (hk:K (e84 (s84 c0 w))):vcFun Tryd.prog G84 zGz 84 [.one (.fp (zaC w) 0),.one (.fn 87 [] [.fp (zar c0) 0])] K :=
  zaX (by kernel_rfl) (zaJ hs λ hc hs=>And.intro hc (zGA hs hk rfl))
def zGB : List PA → COut
  | [.one (.fp [.int .i64 zaq,.sl zam zaH zan,.fm zbA zaK zaL] 0),.one (.fn 87 [] [.fp c0_t 0])]=>.det (IsE enc_40 4 zaH zan/\zbA=(false,1,false,[none])/\c0_t=zar (za7 c0_t)/\p84 (za7 c0_t) (⟨(⟨zaq,(⟨zam,zak zan⟩:(Sl Tie))⟩:Net),(⟨zaK,zaL⟩:Mp)⟩:web)=true) [.one (.sl ((s84 (za7 c0_t) (⟨(⟨zaq,(⟨zam,zak zan⟩:(Sl Tie))⟩:Net),(⟨zaK,zaL⟩:Mp)⟩:web)).len) 1 (λ i=>zah ((s84 (za7 c0_t) (⟨(⟨zaq,(⟨zam,zak zan⟩:(Sl Tie))⟩:Net),(⟨zaK,zaL⟩:Mp)⟩:web)).get i)))]
  | _=>.no
theorem zKh:zas Tryd.prog 84:=⟨_,rfl,rfl,by kernel_rfl⟩
theorem zOr:Ok Tryd.prog 84 zGB:=zbv zMy zKh λ args K h=>by
  unfold zGB at h
  split at h
  · rename_i zaq zam zaH zan zbA zaK zaL c0_t
    obtain⟨⟨⟨rfl,zaz,rfl⟩,rfl,hT_c0,hs⟩,hk⟩:=h
    try rw[zaj zaz] at hs
    try rw[zaj zaz] at hk
    exact⟨(λ _ _=>[]),(λ _=>false),zGz,(by have hq:=q84 (za7 c0_t) (⟨(⟨zaq,(⟨zam,zaz⟩:(Sl Tie))⟩:Net),(⟨zaK,zaL⟩:Mp)⟩:web) K hs hk;rw[← hT_c0] at hq;exact hq)⟩
  · exact h.elim
abbrev T45:Tabs:=((((Tabs.nil.addF 74 zx5).addF 76 zyP).addF 83 zGx).addF 84 zGB)
theorem zMz:TabsOk Tryd.prog T45:=((((TabsOk.nil.addF zMo).addF zMs).addF zOp).addF zOr)
abbrev G45:Ctrs:=csm T45 (λ _ _=>[]) (λ _=>false)
def zKi:Ann:=⟨31,[(0,zK [1,2,3] [3]),(1,zK [1,8,9] []),(2,zK [1,8,9,20] []),(3,zK [6,7] []),(4,zK [1,8,24] []),(5,zK [6,7] []),(6,zK [8,10] [10]),(7,zK [6,7] [])],
 [],
 [],
 [],[]⟩
abbrev R45:=((Sl Int)×Int)
abbrev e45 (r:R45):List PA:=[.one (.sl r.1.len 1 (λ i=>zah (r.1.get i))),.one (.int .i64 r.2)]
section
variable {K:List PA->Prop}{n:Net}{zaa:Int}{to:Int}
def s45 (n:Net) (zaa:Int) (to:Int):((Sl Int)×Int) :=
  (cond ((s74 n (⟨2, zax (zbI [(zah zaa), (zah to)])⟩ : (Sl Int))).2 == 0)
 (cond ((0:Int) != (0:Int))
 ((⟨0,λ _=>default⟩:(Sl Int)),(0:Int))
 (cond (!(s83 (⟨(s74 n (⟨2, zax (zbI [(zah zaa), (zah to)])⟩ : (Sl Int))).1.Net, ((s74 n (⟨2, zax (zbI [(zah zaa), (zah to)])⟩ : (Sl Int))).1.out)⟩ : web)))
 ((⟨0,λ _=>default⟩:(Sl Int)),(6:Int))
 ((s84 (za7 (zar (s76 (⟨(s74 n (⟨2,zax (zbI [(zah zaa),(zah to)])⟩:(Sl Int))).1.Net,((s74 n (⟨2,zax (zbI [(zah zaa),(zah to)])⟩:(Sl Int))).1.out)⟩:web) zaa))) (⟨(s74 n (⟨2,zax (zbI [(zah zaa),(zah to)])⟩:(Sl Int))).1.Net,((s74 n (⟨2,zax (zbI [(zah zaa),(zah to)])⟩:(Sl Int))).1.out)⟩:web)),(0:Int))))
 (cond ((s74 n (⟨2, zax (zbI [(zah zaa), (zah to)])⟩ : (Sl Int))).2 != (0:Int))
 ((⟨0,λ _=>default⟩:(Sl Int)),(s74 n (⟨2,zax (zbI [(zah zaa),(zah to)])⟩:(Sl Int))).2)
 default))
def p45 (n:Net) (zaa:Int) (to:Int):Bool :=
  (cond ((s74 n (⟨2, zax (zbI [(zah zaa), (zah to)])⟩ : (Sl Int))).2 == 0)
 (decide ((p74 n (⟨2,zax (zbI [(zah zaa),(zah to)])⟩:(Sl Int))=true)) &&
 (cond ((0:Int) != (0:Int))
 true
 (decide ((p83 (⟨(s74 n (⟨2,zax (zbI [(zah zaa),(zah to)])⟩:(Sl Int))).1.Net,((s74 n (⟨2,zax (zbI [(zah zaa),(zah to)])⟩:(Sl Int))).1.out)⟩:web)=true)) &&
 (cond (!(s83 (⟨(s74 n (⟨2, zax (zbI [(zah zaa), (zah to)])⟩ : (Sl Int))).1.Net, ((s74 n (⟨2, zax (zbI [(zah zaa), (zah to)])⟩ : (Sl Int))).1.out)⟩ : web)))
 true
 (decide ((p76 (⟨(s74 n (⟨2,zax (zbI [(zah zaa),(zah to)])⟩:(Sl Int))).1.Net,((s74 n (⟨2,zax (zbI [(zah zaa),(zah to)])⟩:(Sl Int))).1.out)⟩:web) zaa=true)) &&
 (decide ((p84 (za7 (zar (s76 (⟨(s74 n (⟨2,zax (zbI [(zah zaa),(zah to)])⟩:(Sl Int))).1.Net,((s74 n (⟨2,zax (zbI [(zah zaa),(zah to)])⟩:(Sl Int))).1.out)⟩:web) zaa))) (⟨(s74 n (⟨2,zax (zbI [(zah zaa),(zah to)])⟩:(Sl Int))).1.Net,((s74 n (⟨2,zax (zbI [(zah zaa),(zah to)])⟩:(Sl Int))).1.out)⟩:web)=true)) &&
 true))))))
 (decide ((p74 n (⟨2,zax (zbI [(zah zaa),(zah to)])⟩:(Sl Int))=true)) &&
 (cond ((s74 n (⟨2, zax (zbI [(zah zaa), (zah to)])⟩ : (Sl Int))).2 != (0:Int))
 true
 false)))
end
theorem q45 (n:Net) (zaa:Int) (to:Int) (K:List PA->Prop) (hs:p45 n zaa to=true) (hk:K (e45 (s45 n zaa to))):vcFun Tryd.prog G45 zKi 45 [.agg (enc_24 n),.one (.int .i64 zaa),.one (.int .i64 to)] (Wk K) :=
  zaX (by kernel_rfl) (zc hs hk (λ hs hk=>(zaJ hs λ hc hs=>And.intro (And.intro (zE enc_40 4 n.Ties.get) (And.intro ((zeF []):IsE zah 1 1 (zbI [(zah zaa),(zah to)])) hc)) (zc hs hk (λ hs hk=>((wk hk (zhq (.one (.nil _ _)) (zhq (.one (.rfl _)) zmC))):Wk K [.one (.nils),.one (.int .i64 (0:Int))])) (λ hs hk=>(zaJ hs λ hc hs=>And.intro (And.intro (zE enc_40 4 ((s74 n (⟨2,zax (zbI [(zah zaa),(zah to)])⟩:(Sl Int))).1.Net.Ties.get)) (And.intro (rfl:((false,1,false,[none]):MQ)=(false,1,false,[none])) hc)) (zc hs hk (λ hs hk=>((wk hk (zhq (.one (.nil _ _)) (zhq (.one (.rfl _)) zmC))):Wk K [.one (.nils),.one (.int .i64 (6:Int))])) (λ hs hk=>(zaJ hs λ hc hs=>And.intro (And.intro (zE enc_40 4 ((s74 n (⟨2,zax (zbI [(zah zaa),(zah to)])⟩:(Sl Int))).1.Net.Ties.get)) (And.intro (rfl:((false,1,false,[none]):MQ)=(false,1,false,[none])) hc)) (zaJ hs λ hc hs=>And.intro (And.intro (zE enc_40 4 ((s74 n (⟨2,zax (zbI [(zah zaa),(zah to)])⟩:(Sl Int))).1.Net.Ties.get)) (And.intro (rfl:((false,1,false,[none]):MQ)=(false,1,false,[none])) (And.intro (znv:zar (s76 (⟨(s74 n (⟨2,zax (zbI [(zah zaa),(zah to)])⟩:(Sl Int))).1.Net,((s74 n (⟨2,zax (zbI [(zah zaa),(zah to)])⟩:(Sl Int))).1.out)⟩:web) zaa)=zar (za7 (zar (s76 (⟨(s74 n (⟨2,zax (zbI [(zah zaa),(zah to)])⟩:(Sl Int))).1.Net,((s74 n (⟨2,zax (zbI [(zah zaa),(zah to)])⟩:(Sl Int))).1.out)⟩:web) zaa)))) hc))) ((zfh hk):Wk K [.one (.sl ((s84 (za7 (zar (s76 (⟨(s74 n (⟨2,zax (zbI [(zah zaa),(zah to)])⟩:(Sl Int))).1.Net,((s74 n (⟨2,zax (zbI [(zah zaa),(zah to)])⟩:(Sl Int))).1.out)⟩:web) zaa))) (⟨(s74 n (⟨2,zax (zbI [(zah zaa),(zah to)])⟩:(Sl Int))).1.Net,((s74 n (⟨2,zax (zbI [(zah zaa),(zah to)])⟩:(Sl Int))).1.out)⟩:web)).len) 1 (λ i=>zah ((s84 (za7 (zar (s76 (⟨(s74 n (⟨2,zax (zbI [(zah zaa),(zah to)])⟩:(Sl Int))).1.Net,((s74 n (⟨2,zax (zbI [(zah zaa),(zah to)])⟩:(Sl Int))).1.out)⟩:web) zaa))) (⟨(s74 n (⟨2,zax (zbI [(zah zaa),(zah to)])⟩:(Sl Int))).1.Net,((s74 n (⟨2,zax (zbI [(zah zaa),(zah to)])⟩:(Sl Int))).1.out)⟩:web)).get i))),.one (.int .i64 (0:Int))])))))))))) (λ hs hk=>(zaJ hs λ hc hs=>And.intro (And.intro (zE enc_40 4 n.Ties.get) (And.intro ((zeF []):IsE zah 1 1 (zbI [(zah zaa),(zah to)])) hc)) (zc hs hk (λ hs hk=>((wk hk (zhq (.one (.nil _ _)) (zhq (.one (.rfl _)) zmC))):Wk K [.one (.nils),.one (.int .i64 ((s74 n (⟨2,zax (zbI [(zah zaa),(zah to)])⟩:(Sl Int))).2))])) (λ hs hk=>(absurd hs dqk:False))))))
def zGC : List PA → COut
  | [.agg [.int .i64 zae,.sl zad zau zac],.one (.int .i64 a1),.one (.int .i64 a2)]=>.det (IsE enc_40 4 zau zac/\p45 (⟨zae,(⟨zad,zak zac⟩:(Sl Tie))⟩:Net) a1 a2=true) [.one (.sl (((s45 (⟨zae,(⟨zad,zak zac⟩:(Sl Tie))⟩:Net) a1 a2).1).len) 1 (λ i=>zah (((s45 (⟨zae,(⟨zad,zak zac⟩:(Sl Tie))⟩:Net) a1 a2).1).get i))),.one (.int .i64 ((s45 (⟨zae,(⟨zad,zak zac⟩:(Sl Tie))⟩:Net) a1 a2).2))]
  | _=>.no
theorem zKj:zas Tryd.prog 45:=⟨_,rfl,rfl,by kernel_rfl⟩
theorem zOs:Ok Tryd.prog 45 zGC:=zgc zMz zKj λ args K h=>by
  unfold zGC at h
  split at h
  · rename_i zae zad zau zac a1 a2
    obtain⟨⟨⟨rfl,zal,rfl⟩,hs⟩,hk⟩:=h
    try rw[zaj zal] at hs
    try rw[zaj zal] at hk
    exact⟨_,zff zfg _,(λ _ _=>[]),(λ _=>false),zKi,q45 (⟨zae,(⟨zad,zal⟩:(Sl Tie))⟩:Net) a1 a2 K hs hk⟩
  · exact h.elim
abbrev T92:Tabs:=((Tabs.nil.addF 93 zpi).addI 110 zpk)
theorem zMA:TabsOk Tryd.prog T92:=((TabsOk.nil.addF zIo).addI zuh)
abbrev G92:Ctrs:=csm T92 (λ _ _=>[]) (λ _=>false)
def zj3:Ann:=⟨49,[(0,zK [0,1,2,3,4] [0,1,2,3,4,4099]),(1,zK [0,1,2,3,4,7] [0,1,2,3,4,4099]),(2,zK [0,1,2,3,4,5,7] [0,1,2,3,4,5,4099]),(3,zK [0,1,2,3,4,5,7,41] [0,1,2,3,4,5,4099]),(4,zK [0,1,2,3,4,5] [0,1,2,3,4,5,4099]),(5,zK [0,1,2,3,4] [0,1,2,3,4,4099]),(6,zK [0,1,2,3,4] [0,1,2,3,4,4099]),(7,zK [0,1,2,3,4] [0,1,2,3,4,4099])],
 [(2,zK [0,1,2,3,4,7] [0,1,2,3,4,4099])],
 [],
 [],[]⟩
def zgw (w:web) (at_:Int) (d:Tab) (out:(Sl Use)):St:=⟨[(0,.one (.c (.ptr 0 0))),(1,.one (.c (.ptr 1 0))),(2,.one (.c (.ptr 2 0))),(3,.one (.c (.ptr 3 0))),(4,.one (.c (.ptr 4 0))),(7,.one (.c (.p (.fn 110 [] [.fp [.fp (zaC w) 0] 0]))))],[(0,.box 102 [.p (.fp (zaC w) 0)]),(1,.box 3 [.p (.int .i64 at_)]),(2,.box 116 (zm (zar d))),(3,.box 67 [.vec 4099]),(4,.box 4 [.p (.bool false)]),(4099,.vec 75 2 16 out.len (λ i=>enc_75 (out.get i)))],[]⟩
def zlH (K:List PA×List XA->Prop) (w:web) (at_:Int) (d:Tab) (out:(Sl Use)):Prop:=vc Tryd.prog G92 zj3 (cdF Tryd.f92 [1,0,1,0]) (zfS 0 (sqK Tryd.prog G92 zj3 (cdF Tryd.f92 [1,1]) (zl1 Tryd.prog Tryd.f92 [.box 102 [.p (.fp (zaC w) 0)],.box 3 [.p (.int .i64 at_)],.box 116 (xcm (zar d)),.box 67 [.vec 75 2 16 out.len (λ i=>enc_75 (out.get i))]] (λ a b=>K (a,b))))) (zgw w at_ d out)
theorem zGD (w : web) (at_ : Int) (d : Tab) (out : (Sl Use)) (K : List PA × List XA → Prop) :
  zlh Tryd.prog G92 zj3 92 [.box 102 [.p (.fp (zaC w) 0)],.box 3 [.p (.int .i64 at_)],.box 116 (xcm (zar d)),.box 67 [.vec 75 2 16 out.len (λ i=>enc_75 (out.get i))]] (λ a b=>K (a,b)) =
  ((IsE enc_40 4 4 (λ i=>enc_40 (w.Net.Ties.get i))/\((false,1,false,[none]):MQ)=(false,1,false,[none])) /\
 (zlH K w at_ d out)):=by kernel_rfl
def zpz (K:List PA×List XA->Prop) (w:web) (at_:Int) (d:Tab) (out:(Sl Use)):Prop :=
  (K ([.one (.bool false)],[.box 102 [.p (.fp (zaC w) 0)],.box 3 [.p (.int .i64 at_)],.box 116 (xcm (zar d)),.box 67 [.vec 75 2 16 out.len (λ i=>enc_75 (out.get i))]]))
def zpA (K:List PA×List XA->Prop) (X0:List (List PA)->St->Prop) (y0:step) (rest0:List (List PA)) (w:web) (at_:Int) (d:Tab) (out:(Sl Use)):Prop :=
  (zdM (y0.from_ == at_)
 (((0≤y0.to/\y0.to < (40:Int))) /\
 (zdM (!(match ((tg 80 d (0 + y0.to.toNat * 2 + 0)) == (1000000000000:Int)) with | true => (match ((tg 80 d (0 + y0.to.toNat * 2 + 0 + 1)) == (0:Int)) with | true => true | false => false) | false => false))
 (((0≤y0.to/\y0.to < (40:Int))) /\
 (((0≤y0.to/\y0.to < (40:Int))) /\
 (((0≤at_/\at_ < (40:Int))) /\
 (zdM (match ((w64 ((tg 80 d (0 + y0.to.toNat * 2 + 0)) + y0.length)) == (tg 80 d (0 + at_.toNat * 2 + 0))) with | true => (match ((w64 ((tg 80 d (0 + y0.to.toNat * 2 + 1)) + (1:Int))) == (tg 80 d (0 + at_.toNat * 2 + 0 + 1))) with | true => true | false => false) | false => false)
 ((((out.len+1) * 16≤140737488355328/\out.len+1≤9223372036854775807)) /\
 (K ([.one (.bool true)],[.box 102 [.p (.fp (zaC w) 0)],.box 3 [.p (.int .i64 y0.to)],.box 116 (xcm (zar d)),.box 67 [.vec 75 2 16 (out.len+1) (appG out.len (λ i=>enc_75 (out.get i)) (λ _=>(enc_75 y0.Use)))]])))
 (X0 rest0 (zgw w at_ d out))))))
 (X0 rest0 (zgw w at_ d out))))
 (X0 rest0 (zgw w at_ d out)))
theorem zrb (K:List PA×List XA->Prop) (w:web) (at_:Int) (d:Tab) (out:(Sl Use)):(zfS 0 (sqK Tryd.prog G92 zj3 (cdF Tryd.f92 [1,1]) (zl1 Tryd.prog Tryd.f92 [.box 102 [.p (.fp (zaC w) 0)],.box 3 [.p (.int .i64 at_)],.box 116 (xcm (zar d)),.box 67 [.vec 75 2 16 out.len (λ i=>enc_75 (out.get i))]] (λ a b=>K (a,b))))) .normal (zgw w at_ d out)=zpz K w at_ d out:=by kernel_rfl
theorem zrd (K : List PA × List XA → Prop) (X0 : List (List PA) → St → Prop) (y0 : step) (rest0 : List (List PA)) (w : web) (at_ : Int) (d : Tab) (out : (Sl Use)) :
  zLN Tryd.prog G92 zj3 2 [8] (cd (cdF Tryd.f92 [1,0,1,0]) [0]) (cd (cdF Tryd.f92 [1,0,1,0]) [1]) X0 (zfS 0 (sqK Tryd.prog G92 zj3 (cdF Tryd.f92 [1,1]) (zl1 Tryd.prog Tryd.f92 [.box 102 [.p (.fp (zaC w) 0)],.box 3 [.p (.int .i64 at_)],.box 116 (xcm (zar d)),.box 67 [.vec 75 2 16 out.len (λ i=>enc_75 (out.get i))]] (λ a b=>K (a,b))))) [.agg (zaA y0)] rest0 (zgw w at_ d out)=zpA K X0 y0 rest0 w at_ d out:=by kernel_rfl
theorem zzi (K : List PA × List XA → Prop) (w : web) (at_ : Int) (d : Tab) (out : (Sl Use))
  (hsafe:IsE enc_40 4 4 (λ i=>enc_40 (w.Net.Ties.get i))/\((false,1,false,[none]):MQ)=(false,1,false,[none])/\(zuA w=true)) (h:∀ X0:List (List PA)->St->Prop,(∀ (_:Unit),zpz K w at_ d out->X0 [] (zgw w at_ d out))->(∀ (y:step) (rest:List (List PA)) (_:Unit),zpA K X0 y rest w at_ d out->X0 ([.agg (zaA y)] :: rest) (zgw w at_ d out))->X0 ((zlr w).map λ y=>[.agg (zaA y)]) (zgw w at_ d out)) :
  zlH K w at_ d out:=by
  have e:zlH K w at_ d out=((IsE enc_40 4 4 (λ i=>enc_40 (w.Net.Ties.get i))/\((false,1,false,[none]):MQ)=(false,1,false,[none])/\(zuA w=true))/\∀ X:List (List PA)->St->Prop,(∀ s,(zfS 0 (sqK Tryd.prog G92 zj3 (cdF Tryd.f92 [1,1]) (zl1 Tryd.prog Tryd.f92 [.box 102 [.p (.fp (zaC w) 0)],.box 3 [.p (.int .i64 at_)],.box 116 (xcm (zar d)),.box 67 [.vec 75 2 16 out.len (λ i=>enc_75 (out.get i))]] (λ a b=>K (a,b))))) .normal s->X [] s)->(∀ y rest s,zLN Tryd.prog G92 zj3 2 [8] (cd (cdF Tryd.f92 [1,0,1,0]) [0]) (cd (cdF Tryd.f92 [1,0,1,0]) [1]) X (zfS 0 (sqK Tryd.prog G92 zj3 (cdF Tryd.f92 [1,1]) (zl1 Tryd.prog Tryd.f92 [.box 102 [.p (.fp (zaC w) 0)],.box 3 [.p (.int .i64 at_)],.box 116 (xcm (zar d)),.box 67 [.vec 75 2 16 out.len (λ i=>enc_75 (out.get i))]] (λ a b=>K (a,b))))) y rest s->X (y :: rest) s)->X ((zlr w).map λ y=>[.agg (zaA y)]) (zgw w at_ d out)):=by kernel_rfl
  refine zaX e ⟨hsafe,?_⟩
  intro X h0 h1
  refine h X (λ _ hs=>h0 _ ?_) (λ y rest _ hs=>h1 _ rest _ ?_)
  · rw[zrb K w at_ d out];exact hs
  · have e2 := zrd K X y rest w at_ d out
    rw[e2];exact hs
abbrev e92 (w:web) (d:Tab) (r:(Bool×Int×(Sl Use))):List PA×List XA:=([.one (.bool r.1)],[.box 102 [.p (.fp (zaC w) 0)],.box 3 [.p (.int .i64 r.2.1)],.box 116 (xcm (zar d)),.box 67 [.vec 75 2 16 r.2.2.len (λ i=>enc_75 (r.2.2.get i))]])
attribute [irreducible] zlH
def zre (w:web) (at_:Int) (d:Tab) (out:(Sl Use)):(Bool×Int×(Sl Use)) :=
  (false,at_,(⟨out.len,out.get⟩:(Sl Use)))
def zrf (w:web) (at_:Int) (d:Tab) (out:(Sl Use)):Bool :=
  true
def zrg (w:web) (at_:Int) (d:Tab) (out:(Sl Use)) (y0:step) (S0:(Bool×Int×(Sl Use))):(Bool×Int×(Sl Use)) :=
  (cond (y0.from_ == at_)
 (cond (!(match ((tg 80 d (0 + y0.to.toNat * 2 + 0)) == (1000000000000:Int)) with | true => (match ((tg 80 d (0 + y0.to.toNat * 2 + 0 + 1)) == (0:Int)) with | true => true | false => false) | false => false))
 (cond (match ((w64 ((tg 80 d (0 + y0.to.toNat * 2 + 0)) + y0.length)) == (tg 80 d (0 + at_.toNat * 2 + 0))) with | true => (match ((w64 ((tg 80 d (0 + y0.to.toNat * 2 + 1)) + (1:Int))) == (tg 80 d (0 + at_.toNat * 2 + 0 + 1))) with | true => true | false => false) | false => false)
 (true,y0.to,(⟨(out.len+1),(zdb out.len out.get (λ _=>y0.Use))⟩:(Sl Use)))
 (S0))
 (S0))
 (S0))
def zrh (w:web) (at_:Int) (d:Tab) (out:(Sl Use)) (y0:step) (P0:Bool):Bool :=
  (cond (y0.from_ == at_)
 (decide ((0≤y0.to/\y0.to < (40:Int))) &&
 (cond (!(match ((tg 80 d (0 + y0.to.toNat * 2 + 0)) == (1000000000000:Int)) with | true => (match ((tg 80 d (0 + y0.to.toNat * 2 + 0 + 1)) == (0:Int)) with | true => true | false => false) | false => false))
 (decide ((0≤y0.to/\y0.to < (40:Int))) &&
 (decide ((0≤y0.to/\y0.to < (40:Int))) &&
 (decide ((0≤at_/\at_ < (40:Int))) &&
 (cond (match ((w64 ((tg 80 d (0 + y0.to.toNat * 2 + 0)) + y0.length)) == (tg 80 d (0 + at_.toNat * 2 + 0))) with | true => (match ((w64 ((tg 80 d (0 + y0.to.toNat * 2 + 1)) + (1:Int))) == (tg 80 d (0 + at_.toNat * 2 + 0 + 1))) with | true => true | false => false) | false => false)
 (decide (((out.len+1) * 16≤140737488355328/\out.len+1≤9223372036854775807)) &&
 true)
 (P0)))))
 (P0)))
 (P0))
def zlI (w : web) (at_ : Int) (d : Tab) (out : (Sl Use)) : List step → (Bool × Int × (Sl Use))
  | []=>zre w at_ d out
  | y :: r=>zrg w at_ d out y (zlI w at_ d out r)
def zlJ (w : web) (at_ : Int) (d : Tab) (out : (Sl Use)) : List step → Bool
  | []=>zrf w at_ d out
  | y :: r=>zrh w at_ d out y (zlJ w at_ d out r)
def zzj (w:web) (at_:Int) (d:Tab) (out:(Sl Use)):(Bool×Int×(Sl Use)):=zlI w at_ d out (zlr w)
def zrj (w:web) (at_:Int) (d:Tab) (out:(Sl Use)):Bool:=decide ((zuA w=true)) && zlJ w at_ d out (zlr w)
theorem zGE (K:List PA×List XA->Prop) (w:web) (at_:Int) (d:Tab) (out:(Sl Use)) (hs:zrj w at_ d out=true) (hk:K (e92 w d (zzj w at_ d out))):zlH K w at_ d out:=by
  unfold zrj at hs
  rw[dqm] at hs
  obtain⟨hsf,hs⟩:=hs
  have hc:=of_decide_eq_true hsf
  refine zzi K w at_ d out ⟨isE,rfl,hc⟩ ?_
  intro X0 hexit hstep
  have key:∀ (l:List step),zlJ w at_ d out l=true->K (e92 w d (zlI w at_ d out l))->X0 (l.map λ y=>[.agg (zaA y)]) (zgw w at_ d out):=by
    intro l
    induction l with
    | nil =>
      intro hs hk
      refine hexit () ?_
      have hs:zrf w at_ d out=true:=hs
      have hk:K (e92 w d (zre w at_ d out)):=hk
      unfold zrf at hs
      unfold zre at hk
      exact hk
    | cons y0 l ih =>
      intro hs hk
      refine hstep y0 _ () ?_
      have hs:zrh w at_ d out y0 (zlJ w at_ d out l)=true:=hs
      have hk:K (e92 w d (zrg w at_ d out y0 (zlI w at_ d out l))):=hk
      unfold zrh at hs
      unfold zrg at hk
      generalize zlI w at_ d out l=S0 at hk ih
      generalize zlJ w at_ d out l=P0 at hs ih
      have hX0:=ih
      exact (zfA (K := λ r => K (e92 w d r))
 (λ hs hk => (zaJ hs λ hc hs => ⟨hc, (zfA (K := λ r => K (e92 w d r))
 (λ hs hk => (zaJ hs λ hc hs => ⟨hc, (zaJ hs λ hc hs => ⟨hc, (zaJ hs λ hc hs => ⟨hc, (zfA (K := λ r => K (e92 w d r))
 (λ hs hk=>(zaJ hs λ hc hs=>⟨hc,(Eq.mpr (congrArg K (congrArg (λ (g_:Nat->List PV)=>(([.one (.bool true)],[.box 102 [.p (.fp (zaC w) 0)],.box 3 [.p (.int .i64 y0.to)],.box 116 (xcm (zar d)),.box 67 [.vec 75 2 16 (out.len+1) g_]]):List PA×List XA)) (zjJ (enc:=enc_75) (f:=out.get) (h:=(λ _=>y0.Use)) rfl rfl))) hk)⟩))
 (λ hs hk=>(hX0 hs hk)) hs hk)⟩)⟩)⟩))
 (λ hs hk=>(hX0 hs hk)) hs hk)⟩))
 (fun hs hk=>(hX0 hs hk)) hs hk)
  exact key _ hs hk
def s92 (w:web) (at_:Int) (d:Tab) (out:(Sl Use)):(Bool×Int×(Sl Use)) :=
  (zzj w at_ d out)
def p92 (w:web) (at_:Int) (d:Tab) (out:(Sl Use)):Bool :=
  (zrj w at_ d out)
theorem q92 (w:web) (at_:Int) (d:Tab) (out:(Sl Use)) (K:List PA×List XA->Prop) (hs:p92 w at_ d out=true) (hk:K (e92 w d (s92 w at_ d out))):zlh Tryd.prog G92 zj3 92 [.box 102 [.p (.fp (zaC w) 0)],.box 3 [.p (.int .i64 at_)],.box 116 (xcm (zar d)),.box 67 [.vec 75 2 16 out.len (λ i=>enc_75 (out.get i))]] (λ a b=>K (a,b)):=by
  refine zaX (zGD w at_ d out K) ?_
  unfold p92 at hs
  unfold s92 at hk
  exact⟨⟨isE,rfl⟩,(zGE K w at_ d out hs hk)⟩
def zGF : MK
  | [.box 102 [.p (.fp [.int .i64 zav,.sl zat zbJ zao,.fm zdx zaQ zaR] 0)],.box 3 [.p (.int .i64 b1)],.box 116 zl5,.box 67 [.vec 75 2 16 zGG zGH]]=>some (IsE enc_40 4 zbJ zao/\zdx=(false,1,false,[none])/\zl5=xcm (zar (za7 (unX zl5)))/\IsE enc_75 2 2 zGH/\p92 (⟨(⟨zav,(⟨zat,zak zao⟩:(Sl Tie))⟩:Net),(⟨zaQ,zaR⟩:Mp)⟩:web) b1 (za7 (unX zl5)) (⟨zGG,zbk zGH⟩:(Sl Use))=true,[.one (.bool ((s92 (⟨(⟨zav,(⟨zat,zak zao⟩:(Sl Tie))⟩:Net),(⟨zaQ,zaR⟩:Mp)⟩:web) b1 (za7 (unX zl5)) (⟨zGG,zbk zGH⟩:(Sl Use))).1))],[.box 102 [.p (.fp [.int .i64 zav,.sl zat zbJ zao,.fm zdx zaQ zaR] 0)],.box 3 [.p (.int .i64 ((s92 (⟨(⟨zav,(⟨zat,zak zao⟩:(Sl Tie))⟩:Net),(⟨zaQ,zaR⟩:Mp)⟩:web) b1 (za7 (unX zl5)) (⟨zGG,zbk zGH⟩:(Sl Use))).2.1))],.box 116 zl5,.box 67 [.vec 75 2 16 (((s92 (⟨(⟨zav,(⟨zat,zak zao⟩:(Sl Tie))⟩:Net),(⟨zaQ,zaR⟩:Mp)⟩:web) b1 (za7 (unX zl5)) (⟨zGG,zbk zGH⟩:(Sl Use))).2.2).len) (λ i=>enc_75 (((s92 (⟨(⟨zav,(⟨zat,zak zao⟩:(Sl Tie))⟩:Net),(⟨zaQ,zaR⟩:Mp)⟩:web) b1 (za7 (unX zl5)) (⟨zGG,zbk zGH⟩:(Sl Use))).2.2).get i))]])
  | _=>none
theorem zKk:zas Tryd.prog 92:=⟨_,rfl,rfl,by kernel_rfl⟩
theorem zOt:zj0 Tryd.prog 92 zGF:=zEM zMA zKk λ xs safe rs ys h hs K hk=>by
  unfold zGF at h
  split at h
  · rename_i zav zat zbJ zao zdx zaQ zaR b1 zl5 zGG zGH
    simp only[dqa,dqh] at h
    obtain⟨rfl,rfl,rfl⟩:=h
    obtain⟨⟨rfl,zcr,rfl⟩,rfl,hT_b2,⟨_,zMB,rfl⟩,hs⟩:=hs
    try rw[zaj zcr] at hs
    try rw[zaj zcr] at hk
    try rw[zaS zMB] at hs
    try rw[zaS zMB] at hk
    refine⟨λ _ _=>[],λ _=>false,zj3,?_⟩
    show zlh Tryd.prog G92 zj3 92 _ K
    have hq:=q92 (⟨(⟨zav,(⟨zat,zcr⟩:(Sl Tie))⟩:Net),(⟨zaQ,zaR⟩:Mp)⟩:web) b1 (za7 (unX zl5)) (⟨zGG,zMB⟩:(Sl Use)) (λ x=>K x.1 x.2) hs
    dsimp only[e92] at hq
    rw[← hT_b2] at hq
    exact hq hk
  · cases h
abbrev T54:Tabs:=(((Tabs.nil.addF 74 zx5).addF 75 zys).addM 92 zGF)
theorem zMC:TabsOk Tryd.prog T54:=(((TabsOk.nil.addF zMo).addF zMq).addM zOt)
abbrev G54:Ctrs:=csm T54 (λ _ _=>[]) (λ _=>false)
def zGI:Ann:=⟨45,[(0,zK [1,2,3] [3]),(1,zK [1,2,8,9] [8]),(2,zK [1,2,8,9,23] [8]),(3,zK [6,7] []),(4,zK [1,8,10] [8,10]),(5,zK [1,8,10,32] [8,10]),(6,zK [6,7] []),(7,zK [1,8,10,11] [8,10,11]),(8,zK [8,10,11,12] [8,10,11,12]),(9,zK [10,11,12,13] [8,10,11,12]),(10,zK [10,11,12,13,43] [8,10,11,12,5000]),(11,zK [6,7] [5000])],
 [(10,⟨[10,11,12,13],[8,10,11,12,5000],[],[(11,0,5000,75,λ _=>enc_75 default)],[],[],[]⟩)],
 [],
 [],[]⟩
abbrev R54:=((Sl Use)×Int)
abbrev e54 (r:R54):List PA:=[.one (.sl r.1.len 2 (λ i=>enc_75 (r.1.get i))),.one (.int .i64 r.2)]
@[irreducible] def z54:=ptF Tryd.prog G54 zGI Tryd.f54
def zDO (n:Net) (zaa:Int) (to:Int) (zhS:Int) (zaY:(Sl Use)) (dt0:Tab) (zdI:Nat->List PV):St:=⟨[(10,zp 10 0),(11,zp 11 0),(12,zp 12 0),(13,.one (.c (.clo 92 [.b 8,.b 12,.b 10,.b 11])))],[(8,.box 102 [.p (.fp (zaC (⟨(s74 n (⟨2,zax (zbI [(zah zaa),(zah to)])⟩:(Sl Int))).1.Net,((s74 n (⟨2,zax (zbI [(zah zaa),(zah to)])⟩:(Sl Int))).1.out)⟩:web)) 0)]),(10,.box 116 (zm (zar dt0))),(11,.box 67 [.vec 5000]),(12,.box 3 [zi zhS]),(5000,.vec 75 2 16 zaY.len zdI)],[]⟩
abbrev zKl (K:List PA->Prop) (n:Net) (zaa:Int) (to:Int) (X:St->Prop) (P:Int->(Sl Use)->Tab->Bool) (S:Int->(Sl Use)->Tab->((Sl Use)×Int)):Prop:=∀ ⦃zhS:Int⦄ ⦃zaY:(Sl Use)⦄ ⦃dt0:Tab⦄ ⦃zdI:Nat->List PV⦄,P zhS zaY dt0=true->K (e54 (S zhS zaY dt0))->zdI=zg enc_75 zaY->X (zDO n zaa to zhS zaY dt0 zdI)
section
variable {K:List PA->Prop}{n:Net}{zaa:Int}{to:Int}{zhS:Int}{zaY:(Sl Use)}{dt0:Tab}{zdI:Nat->List PV}{X0:St->Prop}{P0:Int->(Sl Use)->Tab->Bool}{S0:Int->(Sl Use)->Tab->((Sl Use)×Int)}
def zzk (n:Net) (zaa:Int) (to:Int) (S0:Int->(Sl Use)->Tab->((Sl Use)×Int)) (zhS:Int) (zaY:(Sl Use)) (dt0:Tab):((Sl Use)×Int) :=
  (cond (decide ((tg 80 dt0 (0 + zhS.toNat * 2 + 1)) > (0:Int)))
 (cond ((s92 (⟨(s74 n (⟨2, zax (zbI [(zah zaa), (zah to)])⟩ : (Sl Int))).1.Net, ((s74 n (⟨2, zax (zbI [(zah zaa), (zah to)])⟩ : (Sl Int))).1.out)⟩ : web) zhS (za7 (unX (xcm (zar dt0)))) (⟨zaY.len, zaY.get⟩ : (Sl Use))).1)
 (S0 ((s92 (⟨(s74 n (⟨2,zax (zbI [(zah zaa),(zah to)])⟩:(Sl Int))).1.Net,((s74 n (⟨2,zax (zbI [(zah zaa),(zah to)])⟩:(Sl Int))).1.out)⟩:web) zhS (za7 (unX (xcm (zar dt0)))) (⟨zaY.len,zaY.get⟩:(Sl Use))).2.1) ((s92 (⟨(s74 n (⟨2,zax (zbI [(zah zaa),(zah to)])⟩:(Sl Int))).1.Net,((s74 n (⟨2,zax (zbI [(zah zaa),(zah to)])⟩:(Sl Int))).1.out)⟩:web) zhS (za7 (unX (xcm (zar dt0)))) (⟨zaY.len,zaY.get⟩:(Sl Use))).2.2) dt0)
 (((s92 (⟨(s74 n (⟨2,zax (zbI [(zah zaa),(zah to)])⟩:(Sl Int))).1.Net,((s74 n (⟨2,zax (zbI [(zah zaa),(zah to)])⟩:(Sl Int))).1.out)⟩:web) zhS (za7 (unX (xcm (zar dt0)))) (⟨zaY.len,zaY.get⟩:(Sl Use))).2.2),(0:Int)))
 (zaY,(0:Int)))
def zzl (n:Net) (zaa:Int) (to:Int) (P0:Int->(Sl Use)->Tab->Bool) (zhS:Int) (zaY:(Sl Use)) (dt0:Tab):Bool :=
  (decide ((0≤zhS/\zhS < (40:Int))) &&
 (cond (decide ((tg 80 dt0 (0 + zhS.toNat * 2 + 1)) > (0:Int)))
 (decide ((p92 (⟨(s74 n (⟨2,zax (zbI [(zah zaa),(zah to)])⟩:(Sl Int))).1.Net,((s74 n (⟨2,zax (zbI [(zah zaa),(zah to)])⟩:(Sl Int))).1.out)⟩:web) zhS (za7 (unX (xcm (zar dt0)))) (⟨zaY.len,zaY.get⟩:(Sl Use))=true)) &&
 (cond ((s92 (⟨(s74 n (⟨2, zax (zbI [(zah zaa), (zah to)])⟩ : (Sl Int))).1.Net, ((s74 n (⟨2, zax (zbI [(zah zaa), (zah to)])⟩ : (Sl Int))).1.out)⟩ : web) zhS (za7 (unX (xcm (zar dt0)))) (⟨zaY.len, zaY.get⟩ : (Sl Use))).1)
 (P0 ((s92 (⟨(s74 n (⟨2,zax (zbI [(zah zaa),(zah to)])⟩:(Sl Int))).1.Net,((s74 n (⟨2,zax (zbI [(zah zaa),(zah to)])⟩:(Sl Int))).1.out)⟩:web) zhS (za7 (unX (xcm (zar dt0)))) (⟨zaY.len,zaY.get⟩:(Sl Use))).2.1) ((s92 (⟨(s74 n (⟨2,zax (zbI [(zah zaa),(zah to)])⟩:(Sl Int))).1.Net,((s74 n (⟨2,zax (zbI [(zah zaa),(zah to)])⟩:(Sl Int))).1.out)⟩:web) zhS (za7 (unX (xcm (zar dt0)))) (⟨zaY.len,zaY.get⟩:(Sl Use))).2.2) dt0)
 true))
 true))
def zzm (n:Net) (zaa:Int) (to:Int):Nat->Int->(Sl Use)->Tab->((Sl Use)×Int):=lpO (λ _ _ _=>default) (zzk n zaa to)
def zzn (n:Net) (zaa:Int) (to:Int):Nat->Int->(Sl Use)->Tab->Bool:=lpO (λ _ _ _=>false) (zzl n zaa to)
def zzo (n:Net) (zaa:Int) (to:Int) (zhS:Int) (zaY:(Sl Use)) (dt0:Tab):((Sl Use)×Int):=zzm n zaa to Fuel zhS zaY dt0
def zzp (n:Net) (zaa:Int) (to:Int) (zhS:Int) (zaY:(Sl Use)) (dt0:Tab):Bool:=zzn n zaa to Fuel zhS zaY dt0
theorem zGJ (hs:zzp n zaa to zhS zaY dt0=true) (hk:K (e54 (zzo n zaa to zhS zaY dt0))) (zlK:zdI=zg enc_75 zaY):z54 (Wk K) [1,1,1,1,1,1,1,1,0,0] [] (zDO n zaa to zhS zaY dt0 zdI) :=
  zl (λ X=>z54 (Wk K) [1,1,1,1,1,1,1,1,0,0,0] [X]) (by kernel_rfl) λ X0 hX =>
  (show ∀ k, zKl K n zaa to X0 (zzn n zaa to k) (zzm n zaa to k) from zeU _ _ (zzl n zaa to) (zzk n zaa to) (zKl K n zaa to X0)
 (by intro _ _ _ _ hs;exact absurd hs dqk)
 (by intro P0 S0 hX0 zhS zaY dt0 zdI hs hk zlK;subst zlK;exact hX _ (zaX (by kernel_rfl) (zaJ hs λ hc hs=>And.intro hc (zc hs hk (λ hs hk=>(zaJ hs λ hc hs=>And.intro (And.intro (zE enc_40 4 ((s74 n (⟨2,zax (zbI [(zah zaa),(zah to)])⟩:(Sl Int))).1.Net.Ties.get)) (And.intro (rfl:((false,1,false,[none]):MQ)=(false,1,false,[none])) (And.intro (zEO:xcm (zar dt0)=xcm (zar (za7 (unX (xcm (zar dt0)))))) (And.intro (zE enc_75 2 zaY.get) hc)))) (zc hs hk (λ hs hk=>(hX0 hs hk rfl)) (λ hs hk=>((zfh hk):Wk K [.one (.sl (((s92 (⟨(s74 n (⟨2,zax (zbI [(zah zaa),(zah to)])⟩:(Sl Int))).1.Net,((s74 n (⟨2,zax (zbI [(zah zaa),(zah to)])⟩:(Sl Int))).1.out)⟩:web) zhS (za7 (unX (xcm (zar dt0)))) (⟨zaY.len,zaY.get⟩:(Sl Use))).2.2).len) 2 (λ i=>enc_75 (((s92 (⟨(s74 n (⟨2,zax (zbI [(zah zaa),(zah to)])⟩:(Sl Int))).1.Net,((s74 n (⟨2,zax (zbI [(zah zaa),(zah to)])⟩:(Sl Int))).1.out)⟩:web) zhS (za7 (unX (xcm (zar dt0)))) (⟨zaY.len,zaY.get⟩:(Sl Use))).2.2).get i))),.one (.int .i64 (0:Int))]))))) (λ hs hk=>((zfh hk):Wk K [.one (.sl zaY.len 2 (λ i=>enc_75 (zaY.get i))),.one (.int .i64 (0:Int))]))))))) _ hs hk zlK
def s54 (n:Net) (zaa:Int) (to:Int):((Sl Use)×Int) :=
  (cond ((s74 n (⟨2, zax (zbI [(zah zaa), (zah to)])⟩ : (Sl Int))).2 == 0)
 (cond ((0:Int) != (0:Int))
 ((⟨0,λ _=>default⟩:(Sl Use)),(0:Int))
 (cond (match ((tg 80 (s75 (⟨(s74 n (⟨2, zax (zbI [(zah zaa), (zah to)])⟩ : (Sl Int))).1.Net, ((s74 n (⟨2, zax (zbI [(zah zaa), (zah to)])⟩ : (Sl Int))).1.out)⟩ : web) to) (0 + zaa.toNat * 2 + 0)) == (1000000000000:Int)) with | true => (match ((tg 80 (s75 (⟨(s74 n (⟨2, zax (zbI [(zah zaa), (zah to)])⟩ : (Sl Int))).1.Net, ((s74 n (⟨2, zax (zbI [(zah zaa), (zah to)])⟩ : (Sl Int))).1.out)⟩ : web) to) (0 + zaa.toNat * 2 + 0 + 1)) == (0:Int)) with | true => true | false => false) | false => false)
 ((⟨0,λ _=>default⟩:(Sl Use)),(6:Int))
 (zzo n zaa to zaa (⟨0,(λ _=>default)⟩:Sl Use) (s75 (⟨(s74 n (⟨2,zax (zbI [(zah zaa),(zah to)])⟩:(Sl Int))).1.Net,((s74 n (⟨2,zax (zbI [(zah zaa),(zah to)])⟩:(Sl Int))).1.out)⟩:web) to))))
 (cond ((s74 n (⟨2, zax (zbI [(zah zaa), (zah to)])⟩ : (Sl Int))).2 != (0:Int))
 ((⟨0,λ _=>default⟩:(Sl Use)),(s74 n (⟨2,zax (zbI [(zah zaa),(zah to)])⟩:(Sl Int))).2)
 default))
def p54 (n:Net) (zaa:Int) (to:Int):Bool :=
  (cond ((s74 n (⟨2, zax (zbI [(zah zaa), (zah to)])⟩ : (Sl Int))).2 == 0)
 (decide ((p74 n (⟨2,zax (zbI [(zah zaa),(zah to)])⟩:(Sl Int))=true)) &&
 (cond ((0:Int) != (0:Int))
 true
 (decide ((p75 (⟨(s74 n (⟨2,zax (zbI [(zah zaa),(zah to)])⟩:(Sl Int))).1.Net,((s74 n (⟨2,zax (zbI [(zah zaa),(zah to)])⟩:(Sl Int))).1.out)⟩:web) to=true)) &&
 (decide ((0≤zaa/\zaa < (40:Int))) &&
 (cond (match ((tg 80 (s75 (⟨(s74 n (⟨2, zax (zbI [(zah zaa), (zah to)])⟩ : (Sl Int))).1.Net, ((s74 n (⟨2, zax (zbI [(zah zaa), (zah to)])⟩ : (Sl Int))).1.out)⟩ : web) to) (0 + zaa.toNat * 2 + 0)) == (1000000000000:Int)) with | true => (match ((tg 80 (s75 (⟨(s74 n (⟨2, zax (zbI [(zah zaa), (zah to)])⟩ : (Sl Int))).1.Net, ((s74 n (⟨2, zax (zbI [(zah zaa), (zah to)])⟩ : (Sl Int))).1.out)⟩ : web) to) (0 + zaa.toNat * 2 + 0 + 1)) == (0:Int)) with | true => true | false => false) | false => false)
 true
 (zzp n zaa to zaa (⟨0,(λ _=>default)⟩:Sl Use) (s75 (⟨(s74 n (⟨2,zax (zbI [(zah zaa),(zah to)])⟩:(Sl Int))).1.Net,((s74 n (⟨2,zax (zbI [(zah zaa),(zah to)])⟩:(Sl Int))).1.out)⟩:web) to)))))))
 (decide ((p74 n (⟨2,zax (zbI [(zah zaa),(zah to)])⟩:(Sl Int))=true)) &&
 (cond ((s74 n (⟨2, zax (zbI [(zah zaa), (zah to)])⟩ : (Sl Int))).2 != (0:Int))
 true
 false)))
end
theorem q54 (n:Net) (zaa:Int) (to:Int) (K:List PA->Prop) (hs:p54 n zaa to=true) (hk:K (e54 (s54 n zaa to))):vcFun Tryd.prog G54 zGI 54 [.agg (enc_24 n),.one (.int .i64 zaa),.one (.int .i64 to)] (Wk K) :=
  zaX (by kernel_rfl) (zc hs hk (λ hs hk=>(zaJ hs λ hc hs=>And.intro (And.intro (zE enc_40 4 n.Ties.get) (And.intro ((zeF []):IsE zah 1 1 (zbI [(zah zaa),(zah to)])) hc)) (zc hs hk (λ hs hk=>((wk hk (zhq (.one (.nil _ _)) (zhq (.one (.rfl _)) zmC))):Wk K [.one (.nils),.one (.int .i64 (0:Int))])) (λ hs hk=>(zaJ hs λ hc hs=>And.intro (And.intro (zE enc_40 4 ((s74 n (⟨2,zax (zbI [(zah zaa),(zah to)])⟩:(Sl Int))).1.Net.Ties.get)) (And.intro (rfl:((false,1,false,[none]):MQ)=(false,1,false,[none])) hc)) (zaJ hs λ hc hs=>And.intro hc (zc hs hk (λ hs hk=>((wk hk (zhq (.one (.nil _ _)) (zhq (.one (.rfl _)) zmC))):Wk K [.one (.nils),.one (.int .i64 (6:Int))])) (λ hs hk=>(zGJ hs hk rfl))))))))) (λ hs hk=>(zaJ hs λ hc hs=>And.intro (And.intro (zE enc_40 4 n.Ties.get) (And.intro ((zeF []):IsE zah 1 1 (zbI [(zah zaa),(zah to)])) hc)) (zc hs hk (λ hs hk=>((wk hk (zhq (.one (.nil _ _)) (zhq (.one (.rfl _)) zmC))):Wk K [.one (.nils),.one (.int .i64 ((s74 n (⟨2,zax (zbI [(zah zaa),(zah to)])⟩:(Sl Int))).2))])) (λ hs hk=>(absurd hs dqk:False))))))
def zGK : List PA → COut
  | [.agg [.int .i64 zae,.sl zad zau zac],.one (.int .i64 a1),.one (.int .i64 a2)]=>.det (IsE enc_40 4 zau zac/\p54 (⟨zae,(⟨zad,zak zac⟩:(Sl Tie))⟩:Net) a1 a2=true) [.one (.sl (((s54 (⟨zae,(⟨zad,zak zac⟩:(Sl Tie))⟩:Net) a1 a2).1).len) 2 (λ i=>enc_75 (((s54 (⟨zae,(⟨zad,zak zac⟩:(Sl Tie))⟩:Net) a1 a2).1).get i))),.one (.int .i64 ((s54 (⟨zae,(⟨zad,zak zac⟩:(Sl Tie))⟩:Net) a1 a2).2))]
  | _=>.no
theorem zKm:zas Tryd.prog 54:=⟨_,rfl,rfl,by kernel_rfl⟩
theorem zOu:Ok Tryd.prog 54 zGK:=zgc zMC zKm λ args K h=>by
  unfold zGK at h
  split at h
  · rename_i zae zad zau zac a1 a2
    obtain⟨⟨⟨rfl,zal,rfl⟩,hs⟩,hk⟩:=h
    try rw[zaj zal] at hs
    try rw[zaj zal] at hk
    exact⟨_,zff zfg _,(λ _ _=>[]),(λ _=>false),zGI,q54 (⟨zae,(⟨zad,zal⟩:(Sl Tie))⟩:Net) a1 a2 K hs hk⟩
  · exact h.elim
abbrev T66:Tabs:=Tabs.nil
theorem zMD:TabsOk Tryd.prog T66:=TabsOk.nil
abbrev G66:Ctrs:=csm T66 (λ _ _=>[]) (λ _=>false)
def zKn:Ann:=⟨6,[(0,zK [0] [0]),(1,zK [0] [0,4])],
 [],
 [],
 [],[]⟩
abbrev R66:=Net
abbrev e66 (r:R66):List PA:=[.agg [.int .i64 r.Nodes,.sl r.Ties.len 4 (λ i=>enc_40 (r.Ties.get i))]]
section
variable {K:List PA->Prop}
def s66:Net :=
  (⟨(3:Int),(⟨3,(zpU (⟨(0:Int),(1:Int),(5:Int),(8:Int)⟩:Tie) [(⟨(0:Int),(1:Int),(5:Int),(8:Int)⟩:Tie),(⟨(1:Int),(2:Int),(-2:Int),(3:Int)⟩:Tie),(⟨(2:Int),(0:Int),(-9:Int),(1000000000000:Int)⟩:Tie)])⟩:(Sl Tie))⟩:Net)
end
theorem q66 (K:List PA->Prop) (hk:K (e66 (s66))):vcFun Tryd.prog G66 zKn 66 [] K :=
  zaX (by kernel_rfl) (Eq.mpr (congrArg K (congrArg (λ (g_:Nat->List PV)=>([.agg [.int .i64 (3:Int),.sl 3 4 g_]]:List PA)) (zs7 (enc:=enc_40) (x:=(⟨(0:Int),(1:Int),(5:Int),(8:Int)⟩:Tie)) (y:=(⟨(1:Int),(2:Int),(-2:Int),(3:Int)⟩:Tie)) (r:=[(⟨(2:Int),(0:Int),(-9:Int),(1000000000000:Int)⟩:Tie)])))) hk)
def zGL : List PA → COut
  | []=>.tot [.agg [.int .i64 ((s66).Nodes),.sl ((s66).Ties.len) 4 (λ i=>enc_40 ((s66).Ties.get i))]]
  | _=>.no
theorem zKo:zas Tryd.prog 66:=⟨_,rfl,rfl,by kernel_rfl⟩
theorem zOv:Ok Tryd.prog 66 zGL:=zbv zMD zKo λ args K h=>by
  unfold zGL at h
  split at h
  · have hk := h
    exact⟨(λ _ _=>[]),(λ _=>false),zKn,q66 K hk⟩
  · exact h.elim
abbrev T21:Tabs:=((((((((((Tabs.nil.addF 22 zFX).addF 25 zF1).addF 26 zGo).addF 29 zGp).addF 32 zGt).addF 45 zGC).addF 49 zCf).addF 53 zCg).addF 54 zGK).addF 66 zGL)
theorem zME:TabsOk Tryd.prog T21:=((((((((((TabsOk.nil.addF zOl).addF zOm).addF zOn).addF zOo).addF ok32).addF zOs).addF zNA).addF zNB).addF zOu).addF zOv)
abbrev G21:Ctrs:=csm T21 (λ _ _=>[]) (λ _=>false)
def zGM:Ann:=⟨87,[(0,zK [] []),(1,zK [1,2] []),(2,zK [1,2,3,4] []),(3,zK [1,2,3,4,5,6] []),(4,zK [1,2,3,4,5,6,7] [7]),(5,zK [1,2,3,4,5,6,7,8,9] [7]),(6,zK [1,2,3,4,5,6,8,9,10,11] []),(7,zK [1,3,5,8,10,57] []),(8,zK [0] []),(9,zK [0] [])],
 [],
 [(2,zK [1,2] []),(3,zK [1,2,3,4] []),(4,zK [1,2,3,4,5,6] []),(5,zK [1,2,3,4,5,6,7] [7]),(6,zK [1,2,3,4,5,6,7,8,9] [7]),(7,zK [1,2,3,4,5,6,8,9,10,11] []),(9,zK [1,3,5,8,10] [])],
 [],[]⟩
abbrev R21:=Bool
abbrev e21 (r:R21):List PA:=[.one (.bool r)]
@[irreducible] def z21:=ptF Tryd.prog G21 zGM Tryd.f21
section
variable {K:List PA->Prop}{bv0:(Sl Span)}{ev0:Int}{zKp:Nat->List PV}{cv1:(Sl Use)}{fv1:Int}{zKq:Nat->List PV}{vv2:(Sl Int)}{gv2:Int}{zKr:Nat->List PV}{zew:Int}{zdQ:(Sl Tie)}{zzq:Nat->List PV}{xv4:(Sl Use)}{hv4:Int}{zKs:Nat->List PV}{lv5:(Sl Int)}{iv5:Int}{zKt:Nat->List PV}
def zzr (bv0:(Sl Span)) (cv1:(Sl Use)) (vv2:(Sl Int)) (xv4:(Sl Use)) (lv5:(Sl Int)):Bool :=
  (cond (s32 bv0 (⟨3, zgd (zbI [(zbG (⟨(0:Int), (0:Int)⟩ : Span)), (zbG (⟨(5:Int), (8:Int)⟩ : Span)), (zbG (⟨(3:Int), (9:Int)⟩ : Span))])⟩ : (Sl Span)))
 (cond (s53 cv1 (⟨1, λ _ => (⟨(2:Int), true⟩ : Use)⟩ : (Sl Use)))
 (cond (s25 vv2 (⟨3, zax (zbI [(zah (0:Int)), (zah (5:Int)), (zah (8:Int))])⟩ : (Sl Int)))
 (cond (s53 xv4 (⟨2, zbk (zbI [(enc_75 (⟨(2:Int), true⟩ : Use)), (enc_75 (⟨(3:Int), true⟩ : Use))])⟩ : (Sl Use)))
 (s25 lv5 (⟨1,λ _=>(2:Int)⟩:(Sl Int)))
 false)
 false)
 false)
 false)
def zzs (bv0:(Sl Span)) (cv1:(Sl Use)) (vv2:(Sl Int)) (xv4:(Sl Use)) (lv5:(Sl Int)):Bool :=
  (decide ((p32 bv0 (⟨3,zgd (zbI [(zbG (⟨(0:Int),(0:Int)⟩:Span)),(zbG (⟨(5:Int),(8:Int)⟩:Span)),(zbG (⟨(3:Int),(9:Int)⟩:Span))])⟩:(Sl Span))=true)) &&
 (cond (s32 bv0 (⟨3, zgd (zbI [(zbG (⟨(0:Int), (0:Int)⟩ : Span)), (zbG (⟨(5:Int), (8:Int)⟩ : Span)), (zbG (⟨(3:Int), (9:Int)⟩ : Span))])⟩ : (Sl Span)))
 (decide ((p53 cv1 (⟨1,λ _=>(⟨(2:Int),true⟩:Use)⟩:(Sl Use))=true)) &&
 (cond (s53 cv1 (⟨1, λ _ => (⟨(2:Int), true⟩ : Use)⟩ : (Sl Use)))
 (decide ((p25 vv2 (⟨3,zax (zbI [(zah (0:Int)),(zah (5:Int)),(zah (8:Int))])⟩:(Sl Int))=true)) &&
 (cond (s25 vv2 (⟨3, zax (zbI [(zah (0:Int)), (zah (5:Int)), (zah (8:Int))])⟩ : (Sl Int)))
 (decide ((p53 xv4 (⟨2,zbk (zbI [(enc_75 (⟨(2:Int),true⟩:Use)),(enc_75 (⟨(3:Int),true⟩:Use))])⟩:(Sl Use))=true)) &&
 (cond (s53 xv4 (⟨2, zbk (zbI [(enc_75 (⟨(2:Int), true⟩ : Use)), (enc_75 (⟨(3:Int), true⟩ : Use))])⟩ : (Sl Use)))
 (decide ((p25 lv5 (⟨1,λ _=>(2:Int)⟩:(Sl Int))=true)) &&
 true)
 true))
 true))
 true))
 true))
theorem zGN (hs:zzs bv0 cv1 vv2 xv4 lv5=true) (hk:K (e21 (zzr bv0 cv1 vv2 xv4 lv5))):z21 K [1,1,1,1,1,1,1,1] [] ⟨[(1,zS zbG 2 bv0),(3,zS enc_75 2 cv1),(5,zS zah 1 vv2),(8,zS enc_75 2 xv4),(10,zS zah 1 lv5)],[],[]⟩:=zaX (by kernel_rfl) (zaJ hs λ hc hs=>And.intro (And.intro (zE zbG 2 bv0.get) (And.intro ((zeF [(⟨(3:Int),(9:Int)⟩:Span)]):IsE zbG 2 2 (zbI [(zbG (⟨(0:Int),(0:Int)⟩:Span)),(zbG (⟨(5:Int),(8:Int)⟩:Span)),(zbG (⟨(3:Int),(9:Int)⟩:Span))])) hc)) (zc hs hk (λ hs hk=>(zaJ hs λ hc hs=>And.intro (And.intro (zE enc_75 2 cv1.get) (And.intro (zwb:IsE enc_75 2 2 (λ _=>(enc_75 (⟨(2:Int),true⟩:Use)))) hc)) (zc hs hk (λ hs hk=>(zaJ hs λ hc hs=>And.intro (And.intro (zE zah 1 vv2.get) (And.intro ((zeF [(8:Int)]):IsE zah 1 1 (zbI [(zah (0:Int)),(zah (5:Int)),(zah (8:Int))])) hc)) (zc hs hk (λ hs hk=>(zaJ hs λ hc hs=>And.intro (And.intro (zE enc_75 2 xv4.get) (And.intro ((zeF []):IsE enc_75 2 2 (zbI [(enc_75 (⟨(2:Int),true⟩:Use)),(enc_75 (⟨(3:Int),true⟩:Use))])) hc)) (zc hs hk (λ hs hk=>(zaJ hs λ hc hs=>And.intro (And.intro (zE zah 1 lv5.get) (And.intro (zwb:IsE zah 1 1 (λ _=>(zah (2:Int)))) hc)) hk)) (λ hs hk=>hk)))) (λ hs hk=>hk)))) (λ hs hk=>hk)))) (λ hs hk=>hk)))
def zzt (bv0:(Sl Span)) (ev0:Int) (cv1:(Sl Use)) (fv1:Int) (vv2:(Sl Int)) (gv2:Int) (xv4:(Sl Use)) (hv4:Int) (lv5:(Sl Int)) (iv5:Int):Bool :=
  (cond (ev0 != (0:Int))
 false
 (cond (fv1 != (0:Int))
 false
 (cond (gv2 != (0:Int))
 false
 (cond (hv4 != (0:Int))
 false
 (cond (iv5 != (0:Int))
 false
 (zzr bv0 cv1 vv2 xv4 lv5))))))
def zzu (bv0:(Sl Span)) (ev0:Int) (cv1:(Sl Use)) (fv1:Int) (vv2:(Sl Int)) (gv2:Int) (xv4:(Sl Use)) (hv4:Int) (lv5:(Sl Int)) (iv5:Int):Bool :=
  (cond (ev0 != (0:Int))
 true
 (cond (fv1 != (0:Int))
 true
 (cond (gv2 != (0:Int))
 true
 (cond (hv4 != (0:Int))
 true
 (cond (iv5 != (0:Int))
 true
 (zzs bv0 cv1 vv2 xv4 lv5))))))
theorem zGO (hs:zzu bv0 ev0 cv1 fv1 vv2 gv2 xv4 hv4 lv5 iv5=true) (hk:K (e21 (zzt bv0 ev0 cv1 fv1 vv2 gv2 xv4 hv4 lv5 iv5))) (zMF:zKt=zg zah lv5):z21 K [1,1,1,1,1,1,1] [] ⟨[(1,zS zbG 2 bv0),(2,zI ev0),(3,zS enc_75 2 cv1),(4,zI fv1),(5,zS zah 1 vv2),(6,zI gv2),(8,zS enc_75 2 xv4),(9,zI hv4),(10,zP (.sl lv5.len 1 zKt)),(11,zI iv5)],[],[]⟩:=by subst zMF;exact zaX (by kernel_rfl) (zc hs hk (λ hs hk=>hk) (λ hs hk=>(zc hs hk (λ hs hk=>hk) (λ hs hk=>(zc hs hk (λ hs hk=>hk) (λ hs hk=>(zc hs hk (λ hs hk=>hk) (λ hs hk=>(zc hs hk (λ hs hk=>hk) (λ hs hk=>(zGN hs hk)))))))))))
def zzv (bv0:(Sl Span)) (ev0:Int) (cv1:(Sl Use)) (fv1:Int) (vv2:(Sl Int)) (gv2:Int) (zew:Int) (zdQ:(Sl Tie)) (xv4:(Sl Use)) (hv4:Int):Bool :=
  (zzt bv0 ev0 cv1 fv1 vv2 gv2 xv4 hv4 ((s22 (⟨zew,zdQ⟩:Net)).1) ((s22 (⟨zew,zdQ⟩:Net)).2))
def zzw (bv0:(Sl Span)) (ev0:Int) (cv1:(Sl Use)) (fv1:Int) (vv2:(Sl Int)) (gv2:Int) (zew:Int) (zdQ:(Sl Tie)) (xv4:(Sl Use)) (hv4:Int):Bool :=
  (decide ((p22 (⟨zew,zdQ⟩:Net)=true)) &&
 (zzu bv0 ev0 cv1 fv1 vv2 gv2 xv4 hv4 ((s22 (⟨zew,zdQ⟩:Net)).1) ((s22 (⟨zew,zdQ⟩:Net)).2)))
theorem zGP (hs:zzw bv0 ev0 cv1 fv1 vv2 gv2 zew zdQ xv4 hv4=true) (hk:K (e21 (zzv bv0 ev0 cv1 fv1 vv2 gv2 zew zdQ xv4 hv4))) (zMG:zKs=zg enc_75 xv4):z21 K [1,1,1,1,1,1] [] ⟨[(1,zS zbG 2 bv0),(2,zI ev0),(3,zS enc_75 2 cv1),(4,zI fv1),(5,zS zah 1 vv2),(6,zI gv2),(7,zp 7 0),(8,zP (.sl xv4.len 2 zKs)),(9,zI hv4)],[(7,.box 24 (zm (enc_24 (⟨zew,zdQ⟩:Net))))],[]⟩:=by subst zMG;exact zaX (by kernel_rfl) (zaJ hs λ hc hs=>And.intro (And.intro (zE enc_40 4 zdQ.get) hc) (zGO hs hk rfl))
def zzx (bv0:(Sl Span)) (ev0:Int) (cv1:(Sl Use)) (fv1:Int) (vv2:(Sl Int)) (gv2:Int) (zew:Int) (zdQ:(Sl Tie)):Bool :=
  (zzv bv0 ev0 cv1 fv1 vv2 gv2 zew zdQ ((s49 (⟨zew,zdQ⟩:Net)).1) ((s49 (⟨zew,zdQ⟩:Net)).2))
def zzy (bv0:(Sl Span)) (ev0:Int) (cv1:(Sl Use)) (fv1:Int) (vv2:(Sl Int)) (gv2:Int) (zew:Int) (zdQ:(Sl Tie)):Bool :=
  (decide ((p49 (⟨zew,zdQ⟩:Net)=true)) &&
 (zzw bv0 ev0 cv1 fv1 vv2 gv2 zew zdQ ((s49 (⟨zew,zdQ⟩:Net)).1) ((s49 (⟨zew,zdQ⟩:Net)).2)))
theorem zGQ (hs:zzy bv0 ev0 cv1 fv1 vv2 gv2 zew zdQ=true) (hk:K (e21 (zzx bv0 ev0 cv1 fv1 vv2 gv2 zew zdQ))) (zGR:zzq=zg enc_40 zdQ):z21 K [1,1,1,1,1] [] ⟨[(1,zS zbG 2 bv0),(2,zI ev0),(3,zS enc_75 2 cv1),(4,zI fv1),(5,zS zah 1 vv2),(6,zI gv2),(7,zp 7 0)],[(7,.box 24 [zi zew,.p (.sl zdQ.len 4 zzq)])],[]⟩:=by subst zGR;exact zaX (by kernel_rfl) (zaJ hs λ hc hs=>And.intro (And.intro (zE enc_40 4 zdQ.get) hc) (zGP hs hk rfl))
def zzz (bv0:(Sl Span)) (ev0:Int) (cv1:(Sl Use)) (fv1:Int) (vv2:(Sl Int)) (gv2:Int):Bool :=
  (zzx bv0 ev0 cv1 fv1 vv2 gv2 ((s29 s66 (⟨(0:Int),(2:Int),(10:Int),(12:Int)⟩:Tie)).Nodes) ((s29 s66 (⟨(0:Int),(2:Int),(10:Int),(12:Int)⟩:Tie)).Ties))
def zzA (bv0:(Sl Span)) (ev0:Int) (cv1:(Sl Use)) (fv1:Int) (vv2:(Sl Int)) (gv2:Int):Bool :=
  (decide ((p29 s66 (⟨(0:Int),(2:Int),(10:Int),(12:Int)⟩:Tie)=true)) &&
 (zzy bv0 ev0 cv1 fv1 vv2 gv2 ((s29 s66 (⟨(0:Int),(2:Int),(10:Int),(12:Int)⟩:Tie)).Nodes) ((s29 s66 (⟨(0:Int),(2:Int),(10:Int),(12:Int)⟩:Tie)).Ties)))
theorem zGS (hs:zzA bv0 ev0 cv1 fv1 vv2 gv2=true) (hk:K (e21 (zzz bv0 ev0 cv1 fv1 vv2 gv2))) (zMH:zKr=zg zah vv2):z21 K [1,1,1,1] [] ⟨[(1,zS zbG 2 bv0),(2,zI ev0),(3,zS enc_75 2 cv1),(4,zI fv1),(5,zP (.sl vv2.len 1 zKr)),(6,zI gv2)],[],[]⟩:=by subst zMH;exact zaX (by kernel_rfl) (zaJ hs λ hc hs=>And.intro (And.intro (zE enc_40 4 s66.Ties.get) hc) (zGQ hs hk rfl))
def zzB (bv0:(Sl Span)) (ev0:Int) (cv1:(Sl Use)) (fv1:Int):Bool :=
  (zzz bv0 ev0 cv1 fv1 ((s45 s66 (1:Int) (0:Int)).1) ((s45 s66 (1:Int) (0:Int)).2))
def zzC (bv0:(Sl Span)) (ev0:Int) (cv1:(Sl Use)) (fv1:Int):Bool :=
  (decide ((p45 s66 (1:Int) (0:Int)=true)) &&
 (zzA bv0 ev0 cv1 fv1 ((s45 s66 (1:Int) (0:Int)).1) ((s45 s66 (1:Int) (0:Int)).2)))
theorem zGT (hs:zzC bv0 ev0 cv1 fv1=true) (hk:K (e21 (zzB bv0 ev0 cv1 fv1))) (zMI:zKq=zg enc_75 cv1):z21 K [1,1,1] [] ⟨[(1,zS zbG 2 bv0),(2,zI ev0),(3,zP (.sl cv1.len 2 zKq)),(4,zI fv1)],[],[]⟩:=by subst zMI;exact zaX (by kernel_rfl) (zaJ hs λ hc hs=>And.intro (And.intro (zE enc_40 4 s66.Ties.get) hc) (zGS hs hk rfl))
def zzD (bv0:(Sl Span)) (ev0:Int):Bool :=
  (zzB bv0 ev0 ((s54 s66 (0:Int) (2:Int)).1) ((s54 s66 (0:Int) (2:Int)).2))
def zzE (bv0:(Sl Span)) (ev0:Int):Bool :=
  (decide ((p54 s66 (0:Int) (2:Int)=true)) &&
 (zzC bv0 ev0 ((s54 s66 (0:Int) (2:Int)).1) ((s54 s66 (0:Int) (2:Int)).2)))
theorem zGU (hs:zzE bv0 ev0=true) (hk:K (e21 (zzD bv0 ev0))) (zMJ:zKp=zg zbG bv0):z21 K [1,1] [] ⟨[(1,zP (.sl bv0.len 2 zKp)),(2,zI ev0)],[],[]⟩:=by subst zMJ;exact zaX (by kernel_rfl) (zaJ hs λ hc hs=>And.intro (And.intro (zE enc_40 4 s66.Ties.get) hc) (zGT hs hk rfl))
def s21:Bool :=
  (zzD ((s26 s66).1) ((s26 s66).2))
def p21:Bool :=
  (decide ((p26 s66=true)) &&
 (zzE ((s26 s66).1) ((s26 s66).2)))
end
theorem q21 (K:List PA->Prop) (hs:p21=true) (hk:K (e21 (s21))):vcFun Tryd.prog G21 zGM 21 [] K :=
  zaX (by kernel_rfl) (zaJ hs λ hc hs=>And.intro (And.intro (zE enc_40 4 s66.Ties.get) hc) (zGU hs hk rfl))
theorem zKu:p21=true:=by kernel_rfl
theorem zKv:s21=true:=by kernel_rfl
def zGV : List PA → COut
  | []=>.tot [.one (.bool true)]
  | _=>.no
theorem zKw:zas Tryd.prog 21:=⟨_,rfl,rfl,by kernel_rfl⟩
theorem zOw:Ok Tryd.prog 21 zGV:=zbv zME zKw λ args K h=>by
  unfold zGV at h
  split at h
  · refine ⟨fun _ _ => [], fun _ => false, zGM, q21 K zKu ?_⟩
    show K [.one (.bool s21)]
    rw[zKv];exact h
  · exact h.elim
abbrev T20:Tabs:=Tabs.nil
theorem zMK:TabsOk Tryd.prog T20:=TabsOk.nil
abbrev G20:Ctrs:=csm T20 (λ _ _=>[]) (λ _=>false)
def zKx:Ann:=⟨32,[(0,zK [1,2] [2]),(1,zK [4] [])],
 [],
 [],
 [],[]⟩
abbrev R20:=Bool
abbrev e20 (r:R20):List PA:=[.one (.bool r)]
section
variable {K:List PA->Prop}{n:Net}{ties:Int}
def s20 (n:Net) (ties:Int):Bool :=
  (cond (decide (n.Nodes ≤ (7:Int)))
 (cond (decide ((n.Ties.len : Int) ≤ ties))
 true
 (cond (decide ((n.Ties.len : Int) > (200:Int)))
 (decide ((n.Ties.len:Int)≤(210:Int)))
 false))
 (cond (decide (n.Nodes > (40:Int)))
 (cond (decide ((n.Ties.len : Int) ≤ ties))
 true
 (cond (decide ((n.Ties.len : Int) > (200:Int)))
 (decide ((n.Ties.len:Int)≤(210:Int)))
 false))
 false))
end
theorem q20 (n:Net) (ties:Int) (K:List PA->Prop) (hk:K (e20 (s20 n ties))):vcFun Tryd.prog G20 zKx 20 [.agg (enc_24 n),.one (.int .i64 ties)] K :=
  zaX (by kernel_rfl) (zt hk (λ hk=>(zt hk (λ hk=>hk) (λ hk=>(zt hk (λ hk=>hk) (λ hk=>hk))))) (λ hk=>(zt hk (λ hk=>(zt hk (λ hk=>hk) (λ hk=>(zt hk (λ hk=>hk) (λ hk=>hk))))) (λ hk=>hk))))
def zGW : List PA → COut
  | [.agg [.int .i64 zae,.sl zad zau zac],.one (.int .i64 a1)]=>.det (IsE enc_40 4 zau zac) [.one (.bool (s20 (⟨zae,(⟨zad,zak zac⟩:(Sl Tie))⟩:Net) a1))]
  | _=>.no
theorem zKz:zas Tryd.prog 20:=⟨_,rfl,rfl,by kernel_rfl⟩
theorem zOx:Ok Tryd.prog 20 zGW:=zbv zMK zKz λ args K h=>by
  unfold zGW at h
  split at h
  · rename_i zae zad zau zac a1
    obtain⟨⟨rfl,zal,rfl⟩,hk⟩:=h
    try rw[zaj zal] at hk
    exact⟨(λ _ _=>[]),(λ _=>false),zKx,q20 (⟨zae,(⟨zad,zal⟩:(Sl Tie))⟩:Net) a1 K hk⟩
  · exact h.elim
abbrev T72:Tabs:=Tabs.nil
theorem zML:TabsOk Tryd.prog T72:=TabsOk.nil
abbrev G72:Ctrs:=csm T72 (λ _ _=>[]) (λ _=>false)
def zKA:Ann:=⟨15,[(0,zK [0,1,2] []),(1,zK [6] [])],
 [],
 [],
 [],[]⟩
abbrev R72:=Bool
abbrev e72 (r:R72):List PA:=[.one (.bool r)]
section
variable {K:List PA->Prop}{x:Int}{low:Int}{high:Int}
def s72 (x:Int) (low:Int) (high:Int):Bool :=
  (cond (decide (x ≥ low))
 (decide (x≤high))
 false)
end
theorem q72 (x:Int) (low:Int) (high:Int) (K:List PA->Prop) (hk:K (e72 (s72 x low high))):vcFun Tryd.prog G72 zKA 72 [.one (.int .i64 x),.one (.int .i64 low),.one (.int .i64 high)] K :=
  zaX (by kernel_rfl) (zt hk (λ hk=>hk) (λ hk=>hk))
def zzF : List PA → COut
  | [.one (.int .i64 a0),.one (.int .i64 a1),.one (.int .i64 a2)]=>.tot [.one (.bool (s72 a0 a1 a2))]
  | _=>.no
theorem zKB:zas Tryd.prog 72:=⟨_,rfl,rfl,by kernel_rfl⟩
theorem zMM:Ok Tryd.prog 72 zzF:=zbv zML zKB λ args K h=>by
  unfold zzF at h
  split at h
  · rename_i a0 a1 a2
    have hk:=h
    exact⟨(λ _ _=>[]),(λ _=>false),zKA,q72 a0 a1 a2 K hk⟩
  · exact h.elim
abbrev T36:Tabs:=(Tabs.nil.addF 72 zzF)
theorem zMN:TabsOk Tryd.prog T36:=(TabsOk.nil.addF zMM)
abbrev G36:Ctrs:=csm T36 (λ _ _=>[]) (λ _=>false)
def zGX:Ann:=⟨51,[(0,zK [0,3] [3]),(1,zK [3,32] [3]),(2,zK [4] []),(3,zK [4] [])],
 [],
 [(2,zK [3,32] [3]),(3,zK [3] [3])],
 [],[]⟩
abbrev R36:=Bool
abbrev e36 (r:R36):List PA:=[.one (.bool r)]
@[irreducible] def z36:=ptF Tryd.prog G36 zGX Tryd.f36
section
variable {K:List PA->Prop}{nodes:Int}{t:Tie}{zCr:Bool}
def zrk (t:Tie):Bool :=
  (cond (t.Low == (-1000000000000:Int))
 (cond (t.High == (1000000000000:Int))
 true
 (s72 t.High (-1000000000:Int) (1000000000:Int)))
 (cond (s72 t.Low (-1000000000:Int) (1000000000:Int))
 (cond (t.High == (1000000000000:Int))
 true
 (s72 t.High (-1000000000:Int) (1000000000:Int)))
 false))
theorem zGY (hk:K (e36 (zrk t))):z36 K [1,1] [] ⟨[(3,zp 3 0)],[(3,.box 40 (zm (enc_40 t)))],[]⟩:=zaX (by kernel_rfl) (zt hk (λ hk=>(zt hk (λ hk=>hk) (λ hk=>hk))) (λ hk=>(zt hk (λ hk=>(zt hk (λ hk=>hk) (λ hk=>hk))) (λ hk=>hk))))
def zi8 (t:Tie) (zCr:Bool):Bool :=
  (cond zCr
 false
 (zrk t))
theorem zn1 (hk:K (e36 (zi8 t zCr))):z36 K [1,0,1] [] ⟨[(3,zp 3 0),(32,zB zCr)],[(3,.box 40 (zm (enc_40 t)))],[]⟩:=zaX (by kernel_rfl) (zt hk (λ hk=>hk) (λ hk=>(zGY hk)))
def s36 (nodes:Int) (t:Tie):Bool :=
  (cond (!(s72 t.From (0:Int) (w64 (nodes - (1:Int)))))
 (zi8 t true)
 (cond (!(s72 t.To (0:Int) (w64 (nodes - (1:Int)))))
 (zi8 t true)
 (cond (t.From == t.To)
 (zi8 t true)
 (zi8 t (decide (t.Low > t.High))))))
end
theorem q36 (nodes:Int) (t:Tie) (K:List PA->Prop) (hk:K (e36 (s36 nodes t))):vcFun Tryd.prog G36 zGX 36 [.one (.int .i64 nodes),.agg (enc_40 t)] K :=
  zaX (by kernel_rfl) (zt hk (λ hk=>(zn1 hk)) (λ hk=>(zt hk (λ hk=>(zn1 hk)) (λ hk=>(zt hk (λ hk=>(zn1 hk)) (λ hk=>(zn1 hk)))))))
def zGZ : List PA → COut
  | [.one (.int .i64 a0),.agg [.int .i64 ze4,.int .i64 zl4,.int .i64 zhs,.int .i64 ze5]]=>.tot [.one (.bool (s36 a0 (⟨ze4,zl4,zhs,ze5⟩:Tie)))]
  | _=>.no
theorem zKC:zas Tryd.prog 36:=⟨_,rfl,rfl,by kernel_rfl⟩
theorem zOy:Ok Tryd.prog 36 zGZ:=zbv zMN zKC λ args K h=>by
  unfold zGZ at h
  split at h
  · rename_i a0 ze4 zl4 zhs ze5
    have hk:=h
    exact⟨(λ _ _=>[]),(λ _=>false),zGX,q36 a0 (⟨ze4,zl4,zhs,ze5⟩:Tie) K hk⟩
  · exact h.elim
abbrev T23:Tabs:=((Tabs.nil.addF 36 zGZ).addF 72 zzF)
theorem zMO:TabsOk Tryd.prog T23:=((TabsOk.nil.addF zOy).addF zMM)
abbrev G23:Ctrs:=csm T23 (λ _ _=>[]) (λ _=>false)
def zG0:Ann:=⟨30,[(0,zK [1] [1]),(1,zK [1,13] [1]),(2,zK [2] []),(3,zK [1,3] [1]),(4,zK [1,3,18] [1]),(5,zK [1,3] [1]),(6,zK [1,3,29] [1]),(7,zK [2] []),(8,zK [2] [])],
 [(4,zK [1,3] [1])],
 [(2,zK [1,13] [1]),(3,zK [1] [1]),(7,zK [1,3,29] [1])],
 [],[]⟩
abbrev R23:=Bool
abbrev e23 (r:R23):List PA:=[.one (.bool r)]
@[irreducible] def z23:=ptF Tryd.prog G23 zG0 Tryd.f23
def zDP (n:Net) (iv2:Int):St:=⟨[(1,zp 1 0),(3,zI iv2)],[(1,.box 24 (zm (enc_24 n)))],[]⟩
abbrev zG1 (K:List PA->Prop) (n:Net) (X:St->Prop) (P:Int->Bool) (S:Int->Bool):Prop:=∀ ⦃iv2:Int⦄,P iv2=true->K (e23 (S iv2))->X (zDP n iv2)
section
variable {K:List PA->Prop}{n:Net}{zb6:Bool}{iv2:Int}{X2:St->Prop}{P2:Int->Bool}{S2:Int->Bool}{iv3:Int}{zrl:Bool}
def zrm (S2:Int->Bool) (n:Net) (iv3:Int) (zrl:Bool):Bool :=
  (cond zrl
 false
 (S2 (w64 (iv3+(1:Int)))))
def zrn (P2:Int->Bool) (n:Net) (iv3:Int) (zrl:Bool):Bool :=
  (cond zrl
 true
 (P2 (w64 (iv3+(1:Int)))))
theorem zG2 (hX2:zG1 K n X2 P2 S2) (hs:zrn P2 n iv3 zrl=true) (hk:K (e23 (zrm S2 n iv3 zrl))):z23 K [1,1,0,1,0,0,1,0,0,1] [X2] ⟨[(1,zp 1 0),(3,zI iv3),(29,zB zrl)],[(1,.box 24 (zm (enc_24 n)))],[]⟩:=zaX (by kernel_rfl) (zc hs hk (λ hs hk=>hk) (λ hs hk=>(hX2 hs hk)))
def zi9 (n:Net) (S2:Int->Bool) (iv2:Int):Bool :=
  (cond (decide (iv2 < (n.Ties.len : Int)))
 (zrm S2 n iv2 (!(s36 n.Nodes (n.Ties.get iv2.toNat))))
 true)
def zja (n:Net) (P2:Int->Bool) (iv2:Int):Bool :=
  (cond (decide (iv2 < (n.Ties.len : Int)))
 (decide ((0≤iv2/\iv2 < (n.Ties.len:Int))) &&
 (zrn P2 n iv2 (!(s36 n.Nodes (n.Ties.get iv2.toNat)))))
 true)
def zhN (n:Net):Nat->Int->Bool:=lpO (λ _=>default) (zi9 n)
def zjb (n:Net):Nat->Int->Bool:=lpO (λ _=>false) (zja n)
def zro (n:Net) (iv2:Int):Bool:=zhN n Fuel iv2
def zrp (n:Net) (iv2:Int):Bool:=zjb n Fuel iv2
theorem zG3 (hs:zrp n iv2=true) (hk:K (e23 (zro n iv2))):z23 K [1,1,0,1,0] [] (zDP n iv2) :=
  zl (λ X=>z23 K [1,1,0,1,0,0] [X]) (by kernel_rfl) λ X2 hX =>
  (show ∀ k, zG1 K n X2 (zjb n k) (zhN n k) from zeU _ _ (zja n) (zi9 n) (zG1 K n X2)
 (by intro _ hs;exact absurd hs dqk)
 (by intro P2 S2 hX2 iv2 hs hk;exact hX _ (zaX (by kernel_rfl) (zc hs hk (λ hs hk=>(zaJ hs λ hc hs=>And.intro hc (zG2 hX2 hs hk))) (λ hs hk=>hk))))) _ hs hk
def zrq (n:Net):Bool :=
  (zro n (0:Int))
def zrr (n:Net):Bool :=
  (zrp n (0:Int))
theorem zG4 (hs:zrr n=true) (hk:K (e23 (zrq n))):z23 K [1,1] [] ⟨[(1,zp 1 0)],[(1,.box 24 (zm (enc_24 n)))],[]⟩:=zaX (by kernel_rfl) (zG3 hs hk)
def zn2 (n:Net) (zb6:Bool):Bool :=
  (cond zb6
 false
 (zrq n))
def zn3 (n:Net) (zb6:Bool):Bool :=
  (cond zb6
 true
 (zrr n))
theorem zzG (hs:zn3 n zb6=true) (hk:K (e23 (zn2 n zb6))):z23 K [1,0,1] [] ⟨[(1,zp 1 0),(13,zB zb6)],[(1,.box 24 (zm (enc_24 n)))],[]⟩:=zaX (by kernel_rfl) (zc hs hk (λ hs hk=>hk) (λ hs hk=>(zG4 hs hk)))
def s23 (n:Net):Bool :=
  (cond (!(s72 n.Nodes (1:Int) (40:Int)))
 (zn2 n true)
 (zn2 n (decide ((n.Ties.len:Int) > (200:Int)))))
def p23 (n:Net):Bool :=
  (cond (!(s72 n.Nodes (1:Int) (40:Int)))
 (zn3 n true)
 (zn3 n (decide ((n.Ties.len:Int) > (200:Int)))))
end
theorem q23 (n:Net) (K:List PA->Prop) (hs:p23 n=true) (hk:K (e23 (s23 n))):vcFun Tryd.prog G23 zG0 23 [.agg (enc_24 n)] K :=
  zaX (by kernel_rfl) (zc hs hk (λ hs hk=>(zzG hs hk)) (λ hs hk=>(zzG hs hk)))
def zCs : List PA → COut
  | [.agg [.int .i64 zae,.sl zad zau zac]]=>.det (IsE enc_40 4 zau zac/\p23 (⟨zae,(⟨zad,zak zac⟩:(Sl Tie))⟩:Net)=true) [.one (.bool (s23 (⟨zae,(⟨zad,zak zac⟩:(Sl Tie))⟩:Net)))]
  | _=>.no
theorem zKD:zas Tryd.prog 23:=⟨_,rfl,rfl,by kernel_rfl⟩
theorem zNC:Ok Tryd.prog 23 zCs:=zbv zMO zKD λ args K h=>by
  unfold zCs at h
  split at h
  · rename_i zae zad zau zac
    obtain⟨⟨⟨rfl,zal,rfl⟩,hs⟩,hk⟩:=h
    try rw[zaj zal] at hs
    try rw[zaj zal] at hk
    exact⟨(λ _ _=>[]),(λ _=>false),zG0,q23 (⟨zae,(⟨zad,zal⟩:(Sl Tie))⟩:Net) K hs hk⟩
  · exact h.elim
abbrev T56:Tabs:=((((Tabs.nil.addF 67 zuf).addF 81 zue).addF 94 zBQ).addF 95 zBR)
theorem zMP:TabsOk Tryd.prog T56:=((((TabsOk.nil.addF zLx).addF zLw).addF zNk).addF zNl)
abbrev G56:Ctrs:=csm T56 (λ _ _=>[]) (λ _=>false)
def zG5:Ann:=⟨85,[(0,zK [1,2,3] [3]),(1,zK [1,2,3,31] [3]),(2,zK [6,7,8] []),(3,zK [2,3,9,10] [3]),(4,zK [3,9,10,33,34,35] [3]),(5,zK [3,9,10,33,34,35,36] [3]),(6,zK [3,9,10,12,33,34,35] [3,12]),(7,zK [3,9,10,12,33,34,35,46] [3,12]),(8,zK [6,7,8] []),(9,zK [3,9,10,12,13,33,34,35] [3,12,13]),(10,zK [3,9,10,12,13,14,15,33,34,35] [3,12,13,14]),(11,zK [3,9,10,13,14,15,33,34,35,62] [3,13,14]),(12,zK [3,9,10,14,15,33,34,35] [3,14]),(13,zK [3,10,14,33,34,35,75] [3,14]),(14,zK [6,7,8] []),(15,zK [3,9,10,33,34,35] [3]),(16,zK [3,9,10,33,34,35] [3]),(17,zK [6,7,8] [])],
 [(5,zK [3,9,10,33,34,35] [3])],
 [(2,zK [1,2,3,31] [3]),(3,zK [1,2,3] [3]),(8,zK [3,9,10,12,33,34,35,46] [3,12]),(9,zK [3,9,10,12,33,34,35] [3,12]),(11,zK [3,9,10,12,13,14,15,33,34,35] [3,12,13,14]),(13,zK [3,9,10,14,15,33,34,35] [3,14])],
 [],[]⟩
abbrev R56:=(Int×Int×Bool)
abbrev e56 (r:R56):List PA:=[.one (.int .i64 r.1),.one (.int .i64 r.2.1),.one (.bool r.2.2)]
@[irreducible] def z56:=ptF Tryd.prog G56 zG5 Tryd.f56
def zDQ (n:Net) (zai:(Sl Use)) (zn4:Int) (zbS:Int) (zdk:Int):St:=⟨[(3,zp 3 0),(9,zI zn4),(10,zI zbS),(33,zS enc_75 2 zai),(34,zI (zai.len:Int)),(35,zI zdk)],[(3,.box 24 (zm (enc_24 n)))],[]⟩
abbrev zum (K:List PA->Prop) (n:Net) (zai:(Sl Use)) (X:St->Prop) (P:Int->Int->Int->Bool) (S:Int->Int->Int->(Int×Int×Bool)):Prop:=∀ ⦃zn4:Int⦄ ⦃zbS:Int⦄ ⦃zdk:Int⦄,P zn4 zbS zdk=true->K (e56 (S zn4 zbS zdk))->X (zDQ n zai zn4 zbS zdk)
section
variable {K:List PA->Prop}{n:Net}{zaa:Int}{zai:(Sl Use)}{zrt:Bool}{zn4:Int}{zbS:Int}{zdk:Int}{X2:St->Prop}{P2:Int->Int->Int->Bool}{S2:Int->Int->Int->(Int×Int×Bool)}{zjc:Int}{zbi:Int}{zru:Int}{zrv:Bool}{zrx:Int}{zry:Bool}{zdJ:Int}{zaF:Int}{zrz:Int}{zb8:Int}{zrA:Bool}{zfW:Int}{zaP:Int}{zG6:Bool}{zn5:Int}{zzH:Int}{zrB:Bool}{zgx:Int}{zgy:Int}{zgz:Int}{zgA:Int}{zgB:Int}{zrC:Int}{zrD:Bool}{zrE:Int}{zrF:Int}{zrG:Int}{zjR:Int}{zbl:Int}{zG7:Bool}{zrH:Int}{zzI:Int}{zzJ:Bool}{zrI:Int}{zrJ:Int}{zrK:Int}
def zn6 (S2:Int->Int->Int->(Int×Int×Bool)) (n:Net) (zai:(Sl Use)) (zjR:Int) (zbl:Int) (zG7:Bool) (zrH:Int) (zzI:Int) (zzJ:Bool) (zrI:Int) (zrJ:Int) (zrK:Int):(Int×Int×Bool) :=
  (cond (!zG7)
 ((0:Int),(0:Int),false)
 (cond (zrI != zjR)
 ((0:Int),(0:Int),false)
 (S2 zrJ (w64 (zbl+zrK)) (w64 (zrH+(1:Int))))))
def zn7 (P2:Int->Int->Int->Bool) (n:Net) (zai:(Sl Use)) (zjR:Int) (zbl:Int) (zG7:Bool) (zrH:Int) (zzI:Int) (zzJ:Bool) (zrI:Int) (zrJ:Int) (zrK:Int):Bool :=
  (cond (!zG7)
 true
 (cond (zrI != zjR)
 true
 (P2 zrJ (w64 (zbl+zrK)) (w64 (zrH+(1:Int))))))
theorem zzK (hX2:zum K n zai X2 P2 S2) (hs:zn7 P2 n zai zjR zbl zG7 zrH zzI zzJ zrI zrJ zrK=true) (hk:K (e56 (zn6 S2 n zai zjR zbl zG7 zrH zzI zzJ zrI zrJ zrK))):z56 K [1,1,1,0,1,0,0,1,1,0,0,1,1,1,1,1] [X2] ⟨[(3,zp 3 0),(9,zI zjR),(10,zI zbl),(14,zp 14 0),(15,zB zG7),(33,zS enc_75 2 zai),(34,zI (zai.len:Int)),(35,zI zrH)],[(3,.box 24 (zm (enc_24 n))),(14,.box 130 (zm (zaA (⟨(⟨zzI,zzJ⟩:Use),zrI,zrJ,zrK⟩:step))))],[]⟩:=zaX (by kernel_rfl) (zc hs hk (λ hs hk=>hk) (λ hs hk=>(zc hs hk (λ hs hk=>hk) (λ hs hk=>(hX2 hs hk)))))
def zrL (S2:Int->Int->Int->(Int×Int×Bool)) (n:Net) (zai:(Sl Use)) (zfW:Int) (zaP:Int) (zG6:Bool) (zn5:Int) (zzH:Int) (zrB:Bool) (zgx:Int) (zgy:Int) (zgz:Int) (zgA:Int) (zgB:Int) (zrC:Int) (zrD:Bool) (zrE:Int) (zrF:Int) (zrG:Int):(Int×Int×Bool) :=
  (cond zrB
 (zn6 S2 n zai zfW zaP ((s95 (⟨(⟨zgx,zgy,zgz,zgA⟩:Tie),zgB⟩:tie)).2) zn5 (((s95 (⟨(⟨zgx,zgy,zgz,zgA⟩:Tie),zgB⟩:tie)).1).Use.Tie) (((s95 (⟨(⟨zgx,zgy,zgz,zgA⟩:Tie),zgB⟩:tie)).1).Use.Back) (((s95 (⟨(⟨zgx,zgy,zgz,zgA⟩:Tie),zgB⟩:tie)).1).from_) (((s95 (⟨(⟨zgx,zgy,zgz,zgA⟩:Tie),zgB⟩:tie)).1).to) (((s95 (⟨(⟨zgx,zgy,zgz,zgA⟩:Tie),zgB⟩:tie)).1).length))
 (zn6 S2 n zai zfW zaP zG6 zn5 zrC zrD zrE zrF zrG))
def zrM (P2:Int->Int->Int->Bool) (n:Net) (zai:(Sl Use)) (zfW:Int) (zaP:Int) (zG6:Bool) (zn5:Int) (zzH:Int) (zrB:Bool) (zgx:Int) (zgy:Int) (zgz:Int) (zgA:Int) (zgB:Int) (zrC:Int) (zrD:Bool) (zrE:Int) (zrF:Int) (zrG:Int):Bool :=
  (cond zrB
 (zn7 P2 n zai zfW zaP ((s95 (⟨(⟨zgx,zgy,zgz,zgA⟩:Tie),zgB⟩:tie)).2) zn5 (((s95 (⟨(⟨zgx,zgy,zgz,zgA⟩:Tie),zgB⟩:tie)).1).Use.Tie) (((s95 (⟨(⟨zgx,zgy,zgz,zgA⟩:Tie),zgB⟩:tie)).1).Use.Back) (((s95 (⟨(⟨zgx,zgy,zgz,zgA⟩:Tie),zgB⟩:tie)).1).from_) (((s95 (⟨(⟨zgx,zgy,zgz,zgA⟩:Tie),zgB⟩:tie)).1).to) (((s95 (⟨(⟨zgx,zgy,zgz,zgA⟩:Tie),zgB⟩:tie)).1).length))
 (zn7 P2 n zai zfW zaP zG6 zn5 zrC zrD zrE zrF zrG))
theorem zG8 (hX2:zum K n zai X2 P2 S2) (hs:zrM P2 n zai zfW zaP zG6 zn5 zzH zrB zgx zgy zgz zgA zgB zrC zrD zrE zrF zrG=true) (hk:K (e56 (zrL S2 n zai zfW zaP zG6 zn5 zzH zrB zgx zgy zgz zgA zgB zrC zrD zrE zrF zrG))):z56 K [1,1,1,0,1,0,0,1,1,0,0,1,1,1,1] [X2] ⟨[(3,zp 3 0),(9,zI zfW),(10,zI zaP),(12,zp 12 0),(13,zp 13 0),(14,zp 14 0),(15,zB zG6),(33,zS enc_75 2 zai),(34,zI (zai.len:Int)),(35,zI zn5)],[(3,.box 24 (zm (enc_24 n))),(12,.box 75 (zm (enc_75 (⟨zzH,zrB⟩:Use)))),(13,.box 136 (zm (zqw (⟨(⟨zgx,zgy,zgz,zgA⟩:Tie),zgB⟩:tie)))),(14,.box 130 (zm (zaA (⟨(⟨zrC,zrD⟩:Use),zrE,zrF,zrG⟩:step))))],[]⟩:=zaX (by kernel_rfl) (zc hs hk (λ hs hk=>(zzK hX2 hs hk)) (λ hs hk=>(zzK hX2 hs hk)))
def zrN (S2:Int->Int->Int->(Int×Int×Bool)) (n:Net) (zai:(Sl Use)) (zdJ:Int) (zaF:Int) (zrz:Int) (zb8:Int) (zrA:Bool):(Int×Int×Bool) :=
  (zrL S2 n zai zdJ zaF ((s94 (⟨(n.Ties.get zb8.toNat),zb8⟩:tie)).2) zrz zb8 zrA ((n.Ties.get zb8.toNat).From) ((n.Ties.get zb8.toNat).To) ((n.Ties.get zb8.toNat).Low) ((n.Ties.get zb8.toNat).High) zb8 (((s94 (⟨(n.Ties.get zb8.toNat),zb8⟩:tie)).1).Use.Tie) (((s94 (⟨(n.Ties.get zb8.toNat),zb8⟩:tie)).1).Use.Back) (((s94 (⟨(n.Ties.get zb8.toNat),zb8⟩:tie)).1).from_) (((s94 (⟨(n.Ties.get zb8.toNat),zb8⟩:tie)).1).to) (((s94 (⟨(n.Ties.get zb8.toNat),zb8⟩:tie)).1).length))
def zrO (P2:Int->Int->Int->Bool) (n:Net) (zai:(Sl Use)) (zdJ:Int) (zaF:Int) (zrz:Int) (zb8:Int) (zrA:Bool):Bool :=
  (decide ((0≤zb8/\zb8 < (n.Ties.len:Int))) &&
 (zrM P2 n zai zdJ zaF ((s94 (⟨(n.Ties.get zb8.toNat),zb8⟩:tie)).2) zrz zb8 zrA ((n.Ties.get zb8.toNat).From) ((n.Ties.get zb8.toNat).To) ((n.Ties.get zb8.toNat).Low) ((n.Ties.get zb8.toNat).High) zb8 (((s94 (⟨(n.Ties.get zb8.toNat),zb8⟩:tie)).1).Use.Tie) (((s94 (⟨(n.Ties.get zb8.toNat),zb8⟩:tie)).1).Use.Back) (((s94 (⟨(n.Ties.get zb8.toNat),zb8⟩:tie)).1).from_) (((s94 (⟨(n.Ties.get zb8.toNat),zb8⟩:tie)).1).to) (((s94 (⟨(n.Ties.get zb8.toNat),zb8⟩:tie)).1).length)))
theorem zG9 (hX2:zum K n zai X2 P2 S2) (hs:zrO P2 n zai zdJ zaF zrz zb8 zrA=true) (hk:K (e56 (zrN S2 n zai zdJ zaF zrz zb8 zrA))):z56 K [1,1,1,0,1,0,0,1,1,0,0,1,1] [X2] ⟨[(3,zp 3 0),(9,zI zdJ),(10,zI zaF),(12,zp 12 0),(33,zS enc_75 2 zai),(34,zI (zai.len:Int)),(35,zI zrz)],[(3,.box 24 (zm (enc_24 n))),(12,.box 75 (zm (enc_75 (⟨zb8,zrA⟩:Use))))],[]⟩:=zaX (by kernel_rfl) (zaJ hs λ hc hs=>And.intro hc (zG8 hX2 hs hk))
def zrP (S2:Int->Int->Int->(Int×Int×Bool)) (n:Net) (zai:(Sl Use)) (zjc:Int) (zbi:Int) (zru:Int) (zrv:Bool) (zrx:Int) (zry:Bool):(Int×Int×Bool) :=
  (cond zrv
 ((0:Int),(0:Int),false)
 (zrN S2 n zai zjc zbi zru zrx zry))
def zrQ (P2:Int->Int->Int->Bool) (n:Net) (zai:(Sl Use)) (zjc:Int) (zbi:Int) (zru:Int) (zrv:Bool) (zrx:Int) (zry:Bool):Bool :=
  (cond zrv
 true
 (zrO P2 n zai zjc zbi zru zrx zry))
theorem zHa (hX2:zum K n zai X2 P2 S2) (hs:zrQ P2 n zai zjc zbi zru zrv zrx zry=true) (hk:K (e56 (zrP S2 n zai zjc zbi zru zrv zrx zry))):z56 K [1,1,1,0,1,0,0,1,1,0,0,1,0,1] [X2] ⟨[(3,zp 3 0),(9,zI zjc),(10,zI zbi),(12,zp 12 0),(33,zS enc_75 2 zai),(34,zI (zai.len:Int)),(35,zI zru),(46,zB zrv)],[(3,.box 24 (zm (enc_24 n))),(12,.box 75 (zm (enc_75 (⟨zrx,zry⟩:Use))))],[]⟩:=zaX (by kernel_rfl) (zc hs hk (λ hs hk=>hk) (λ hs hk=>(zG9 hX2 hs hk)))
def zjd (n:Net) (zai:(Sl Use)) (S2:Int->Int->Int->(Int×Int×Bool)) (zn4:Int) (zbS:Int) (zdk:Int):(Int×Int×Bool) :=
  (cond (decide (zdk < (zai.len : Int)))
 (zrP S2 n zai zn4 zbS zdk (!(s81 ((zai.get zdk.toNat).Tie) (0:Int) (w64 ((n.Ties.len:Int) - (1:Int))))) ((zai.get zdk.toNat).Tie) ((zai.get zdk.toNat).Back))
 (zn4,zbS,true))
def zje (n:Net) (zai:(Sl Use)) (P2:Int->Int->Int->Bool) (zn4:Int) (zbS:Int) (zdk:Int):Bool :=
  (cond (decide (zdk < (zai.len : Int)))
 (decide ((0≤zdk/\zdk < (zai.len:Int))) &&
 (zrQ P2 n zai zn4 zbS zdk (!(s81 ((zai.get zdk.toNat).Tie) (0:Int) (w64 ((n.Ties.len:Int) - (1:Int))))) ((zai.get zdk.toNat).Tie) ((zai.get zdk.toNat).Back)))
 true)
def zhO (n:Net) (zai:(Sl Use)):Nat->Int->Int->Int->(Int×Int×Bool):=lpO (λ _ _ _=>default) (zjd n zai)
def zjf (n:Net) (zai:(Sl Use)):Nat->Int->Int->Int->Bool:=lpO (λ _ _ _=>false) (zje n zai)
def zzL (n:Net) (zai:(Sl Use)) (zn4:Int) (zbS:Int) (zdk:Int):(Int×Int×Bool):=zhO n zai Fuel zn4 zbS zdk
def zzM (n:Net) (zai:(Sl Use)) (zn4:Int) (zbS:Int) (zdk:Int):Bool:=zjf n zai Fuel zn4 zbS zdk
theorem zHb (hs:zzM n zai zn4 zbS zdk=true) (hk:K (e56 (zzL n zai zn4 zbS zdk))):z56 K [1,1,1,0,1,0] [] (zDQ n zai zn4 zbS zdk) :=
  zl (λ X=>z56 K [1,1,1,0,1,0,0] [X]) (by kernel_rfl) λ X2 hX =>
  (show ∀ k, zum K n zai X2 (zjf n zai k) (zhO n zai k) from zeU _ _ (zje n zai) (zjd n zai) (zum K n zai X2)
 (by intro _ _ _ hs;exact absurd hs dqk)
 (by intro P2 S2 hX2 zn4 zbS zdk hs hk;exact hX _ (zaX (by kernel_rfl) (zc hs hk (λ hs hk=>(zaJ hs λ hc hs=>And.intro hc (zHa hX2 hs hk))) (λ hs hk=>hk))))) _ hs hk
def zzN (n:Net) (zaa:Int) (zai:(Sl Use)):(Int×Int×Bool) :=
  (zzL n zai zaa (0:Int) (0:Int))
def zzO (n:Net) (zaa:Int) (zai:(Sl Use)):Bool :=
  (zzM n zai zaa (0:Int) (0:Int))
theorem zHc (hs:zzO n zaa zai=true) (hk:K (e56 (zzN n zaa zai))):z56 K [1,1] [] ⟨[(1,zI zaa),(2,zS enc_75 2 zai),(3,zp 3 0)],[(3,.box 24 (zm (enc_24 n)))],[]⟩:=zaX (by kernel_rfl) (zHb hs hk)
def zn8 (n:Net) (zaa:Int) (zai:(Sl Use)) (zrt:Bool):(Int×Int×Bool) :=
  (cond zrt
 ((0:Int),(0:Int),false)
 (zzN n zaa zai))
def zn9 (n:Net) (zaa:Int) (zai:(Sl Use)) (zrt:Bool):Bool :=
  (cond zrt
 true
 (zzO n zaa zai))
theorem zrR (hs:zn9 n zaa zai zrt=true) (hk:K (e56 (zn8 n zaa zai zrt))):z56 K [1,0,1] [] ⟨[(1,zI zaa),(2,zS enc_75 2 zai),(3,zp 3 0),(31,zB zrt)],[(3,.box 24 (zm (enc_24 n)))],[]⟩:=zaX (by kernel_rfl) (zc hs hk (λ hs hk=>hk) (λ hs hk=>(zHc hs hk)))
def s56 (n:Net) (zaa:Int) (zai:(Sl Use)):(Int×Int×Bool) :=
  (cond (!(s67 n))
 (zn8 n zaa zai true)
 (cond (!(s81 zaa (0:Int) (w64 (n.Nodes - (1:Int)))))
 (zn8 n zaa zai true)
 (zn8 n zaa zai (decide ((zai.len:Int) > (40:Int))))))
def p56 (n:Net) (zaa:Int) (zai:(Sl Use)):Bool :=
  (decide ((p67 n=true)) &&
 (cond (!(s67 n))
 (zn9 n zaa zai true)
 (cond (!(s81 zaa (0:Int) (w64 (n.Nodes - (1:Int)))))
 (zn9 n zaa zai true)
 (zn9 n zaa zai (decide ((zai.len:Int) > (40:Int)))))))
end
theorem q56 (n:Net) (zaa:Int) (zai:(Sl Use)) (K:List PA->Prop) (hs:p56 n zaa zai=true) (hk:K (e56 (s56 n zaa zai))):vcFun Tryd.prog G56 zG5 56 [.agg (enc_24 n),.one (.int .i64 zaa),.one (.sl zai.len 2 (λ i=>enc_75 (zai.get i)))] K :=
  zaX (by kernel_rfl) (zaJ hs λ hc hs=>And.intro (And.intro (zE enc_40 4 n.Ties.get) hc) (zc hs hk (λ hs hk=>(zrR hs hk)) (λ hs hk=>(zc hs hk (λ hs hk=>(zrR hs hk)) (λ hs hk=>(zrR hs hk))))))
def zHd : List PA → COut
  | [.agg [.int .i64 zae,.sl zad zau zac],.one (.int .i64 a1),.one (.sl zg0 zpm zg1)]=>.det (IsE enc_40 4 zau zac/\IsE enc_75 2 zpm zg1/\p56 (⟨zae,(⟨zad,zak zac⟩:(Sl Tie))⟩:Net) a1 (⟨zg0,zbk zg1⟩:(Sl Use))=true) [.one (.int .i64 ((s56 (⟨zae,(⟨zad,zak zac⟩:(Sl Tie))⟩:Net) a1 (⟨zg0,zbk zg1⟩:(Sl Use))).1)),.one (.int .i64 ((s56 (⟨zae,(⟨zad,zak zac⟩:(Sl Tie))⟩:Net) a1 (⟨zg0,zbk zg1⟩:(Sl Use))).2.1)),.one (.bool ((s56 (⟨zae,(⟨zad,zak zac⟩:(Sl Tie))⟩:Net) a1 (⟨zg0,zbk zg1⟩:(Sl Use))).2.2))]
  | _=>.no
theorem zKE:zas Tryd.prog 56:=⟨_,rfl,rfl,by kernel_rfl⟩
theorem zOz:Ok Tryd.prog 56 zHd:=zbv zMP zKE λ args K h=>by
  unfold zHd at h
  split at h
  · rename_i zae zad zau zac a1 zg0 zpm zg1
    obtain⟨⟨⟨rfl,zal,rfl⟩,⟨rfl,zls,rfl⟩,hs⟩,hk⟩:=h
    try rw[zaj zal] at hs
    try rw[zaj zal] at hk
    try rw[zaS zls] at hs
    try rw[zaS zls] at hk
    exact⟨(λ _ _=>[]),(λ _=>false),zG5,q56 (⟨zae,(⟨zad,zal⟩:(Sl Tie))⟩:Net) a1 (⟨zg0,zls⟩:(Sl Use)) K hs hk⟩
  · exact h.elim
abbrev T50:Tabs:=(Tabs.nil.addF 56 zHd)
theorem zMQ:TabsOk Tryd.prog T50:=(TabsOk.nil.addF zOz)
abbrev G50:Ctrs:=csm T50 (λ _ _=>[]) (λ _=>false)
def zKF:Ann:=⟨28,[(0,zK [1,2,3] [3]),(1,zK [1,7,8,9] []),(2,zK [6] [])],
 [],
 [],
 [],[]⟩
abbrev R50:=Bool
abbrev e50 (r:R50):List PA:=[.one (.bool r)]
section
variable {K:List PA->Prop}{n:Net}{zaa:Int}{zai:(Sl Use)}
def s50 (n:Net) (zaa:Int) (zai:(Sl Use)):Bool :=
  (cond ((s56 n zaa zai).2.2)
 (cond (((s56 n zaa zai).1) == zaa)
 (decide (((s56 n zaa zai).2.1) < (0:Int)))
 false)
 false)
def p50 (n:Net) (zaa:Int) (zai:(Sl Use)):Bool :=
  (decide ((p56 n zaa zai=true)) &&
 true)
end
theorem q50 (n:Net) (zaa:Int) (zai:(Sl Use)) (K:List PA->Prop) (hs:p50 n zaa zai=true) (hk:K (e50 (s50 n zaa zai))):vcFun Tryd.prog G50 zKF 50 [.agg (enc_24 n),.one (.int .i64 zaa),.one (.sl zai.len 2 (λ i=>enc_75 (zai.get i)))] K :=
  zaX (by kernel_rfl) (zaJ hs λ hc hs=>And.intro (And.intro (zE enc_40 4 n.Ties.get) (And.intro (zE enc_75 2 zai.get) hc)) (zt hk (λ hk=>(zt hk (λ hk=>hk) (λ hk=>hk))) (λ hk=>hk)))
def zHe : List PA → COut
  | [.agg [.int .i64 zae,.sl zad zau zac],.one (.int .i64 a1),.one (.sl zg0 zpm zg1)]=>.det (IsE enc_40 4 zau zac/\IsE enc_75 2 zpm zg1/\p50 (⟨zae,(⟨zad,zak zac⟩:(Sl Tie))⟩:Net) a1 (⟨zg0,zbk zg1⟩:(Sl Use))=true) [.one (.bool (s50 (⟨zae,(⟨zad,zak zac⟩:(Sl Tie))⟩:Net) a1 (⟨zg0,zbk zg1⟩:(Sl Use))))]
  | _=>.no
theorem zKG:zas Tryd.prog 50:=⟨_,rfl,rfl,by kernel_rfl⟩
theorem zOA:Ok Tryd.prog 50 zHe:=zbv zMQ zKG λ args K h=>by
  unfold zHe at h
  split at h
  · rename_i zae zad zau zac a1 zg0 zpm zg1
    obtain⟨⟨⟨rfl,zal,rfl⟩,⟨rfl,zls,rfl⟩,hs⟩,hk⟩:=h
    try rw[zaj zal] at hs
    try rw[zaj zal] at hk
    try rw[zaS zls] at hs
    try rw[zaS zls] at hk
    exact⟨(λ _ _=>[]),(λ _=>false),zKF,q50 (⟨zae,(⟨zad,zal⟩:(Sl Tie))⟩:Net) a1 (⟨zg0,zls⟩:(Sl Use)) K hs hk⟩
  · exact h.elim
abbrev T77:Tabs:=Tabs.nil
theorem zMR:TabsOk Tryd.prog T77:=TabsOk.nil
abbrev G77:Ctrs:=csm T77 (λ _ _=>[]) (λ _=>false)
def zHf:Ann:=⟨50,[(0,zK [1] [1]),(1,zK [1,3] [1]),(2,zK [1,3,4] [1]),(3,zK [1,3,4,10] [1,32]),(4,zK [1,3,4] [1,32]),(5,zK [1,3,4,5] [1,5,32]),(6,zK [1,3,4,5,20] [1,5,32]),(7,zK [1,3,4,5] [1,5,32]),(8,zK [1,3,4,5,35] [1,5,32]),(9,zK [1,3,4] [1,32]),(10,zK [2] [32])],
 [(3,⟨[1,3,4],[1,32],[(3,32,121,λ _=>zbP default)],[],[],[],[]⟩)],
 [(8,⟨[1,3,4,5],[1,5,32],[(3,32,121,λ _=>zbP default)],[],[],[],[]⟩)],
 [],[]⟩
abbrev R77:=(Sl Step)
abbrev e77 (r:R77):List PA:=[.one (.sl r.len 5 (λ i=>zbP (r.get i)))]
@[irreducible] def z77:=ptF Tryd.prog G77 zHf Tryd.f77
def zDR (n:Net) (iv0:Int) (zc8:(Sl Step)) (zgC:Nat->List PV):St:=⟨[(1,zp 1 0),(3,zv 32),(4,zI iv0)],[(1,.box 24 (zm (enc_24 n))),(32,.vec 121 5 40 zc8.len zgC)],[]⟩
abbrev zHg (K:List PA->Prop) (n:Net) (X:St->Prop) (P:Int->(Sl Step)->Bool) (S:Int->(Sl Step)->(Sl Step)):Prop:=∀ ⦃iv0:Int⦄ ⦃zc8:(Sl Step)⦄ ⦃zgC:Nat->List PV⦄,P iv0 zc8=true->K (e77 (S iv0 zc8))->zgC=zg zbP zc8->X (zDR n iv0 zc8 zgC)
section
variable {K:List PA->Prop}{n:Net}{iv0:Int}{zc8:(Sl Step)}{zgC:Nat->List PV}{X0:St->Prop}{P0:Int->(Sl Step)->Bool}{S0:Int->(Sl Step)->(Sl Step)}{iv1:Int}{zpB:Int}{zpC:Int}{zl6:Int}{zzP:Int}{zgD:(Sl Step)}{zzQ:Nat->List PV}
def zoa (S0:Int->(Sl Step)->(Sl Step)) (n:Net) (iv1:Int) (zpB:Int) (zpC:Int) (zl6:Int) (zzP:Int) (zgD:(Sl Step)):(Sl Step) :=
  (cond (zl6 != (-1000000000000:Int))
 (S0 (w64 (iv1+(1:Int))) (⟨(zgD.len+1),(zdb zgD.len zgD.get (λ _=>(⟨zpC,zpB,(w64 (0 - zl6)),(⟨iv1,true⟩:Use)⟩:Step)))⟩:Sl Step))
 (S0 (w64 (iv1+(1:Int))) zgD))
def zob (P0:Int->(Sl Step)->Bool) (n:Net) (iv1:Int) (zpB:Int) (zpC:Int) (zl6:Int) (zzP:Int) (zgD:(Sl Step)):Bool :=
  (cond (zl6 != (-1000000000000:Int))
 (decide (((zgD.len+1) * 40≤140737488355328/\zgD.len+1≤9223372036854775807)) &&
 (P0 (w64 (iv1+(1:Int))) (⟨(zgD.len+1),(zdb zgD.len zgD.get (λ _=>(⟨zpC,zpB,(w64 (0 - zl6)),(⟨iv1,true⟩:Use)⟩:Step)))⟩:Sl Step)))
 (P0 (w64 (iv1+(1:Int))) zgD))
theorem zzR (hX0:zHg K n X0 P0 S0) (hs:zob P0 n iv1 zpB zpC zl6 zzP zgD=true) (hk:K (e77 (zoa S0 n iv1 zpB zpC zl6 zzP zgD))) (zHh:zzQ=zg zbP zgD):z77 K [1,1,0,1,0,0,1,0,0,1,1] [X0] ⟨[(1,zp 1 0),(3,zv 32),(4,zI iv1),(5,zp 5 0)],[(1,.box 24 (zm (enc_24 n))),(5,.box 40 (zm (enc_40 (⟨zpB,zpC,zl6,zzP⟩:Tie)))),(32,.vec 121 5 40 zgD.len zzQ)],[]⟩:=by subst zHh;exact zaX (by kernel_rfl) (zc hs hk (λ hs hk=>(zaJ hs λ hc hs=>And.intro hc (hX0 hs hk (zjJ (enc:=zbP) (f:=zgD.get) (h:=(λ _=>(⟨zpC,zpB,(w64 (0 - zl6)),(⟨iv1,true⟩:Use)⟩:Step))) rfl rfl)))) (λ hs hk=>(hX0 hs hk rfl)))
def zjg (n:Net) (S0:Int->(Sl Step)->(Sl Step)) (iv0:Int) (zc8:(Sl Step)):(Sl Step) :=
  (cond (decide (iv0 < (n.Ties.len : Int)))
 (cond ((n.Ties.get iv0.toNat).High != (1000000000000:Int))
 (zoa S0 n iv0 ((n.Ties.get iv0.toNat).From) ((n.Ties.get iv0.toNat).To) ((n.Ties.get iv0.toNat).Low) ((n.Ties.get iv0.toNat).High) (⟨(zc8.len+1),(zdb zc8.len zc8.get (λ _=>(⟨(n.Ties.get iv0.toNat).From,(n.Ties.get iv0.toNat).To,(n.Ties.get iv0.toNat).High,(⟨iv0,false⟩:Use)⟩:Step)))⟩:Sl Step))
 (zoa S0 n iv0 ((n.Ties.get iv0.toNat).From) ((n.Ties.get iv0.toNat).To) ((n.Ties.get iv0.toNat).Low) ((n.Ties.get iv0.toNat).High) zc8))
 zc8)
def zjh (n:Net) (P0:Int->(Sl Step)->Bool) (iv0:Int) (zc8:(Sl Step)):Bool :=
  (cond (decide (iv0 < (n.Ties.len : Int)))
 (decide ((0≤iv0/\iv0 < (n.Ties.len:Int))) &&
 (cond ((n.Ties.get iv0.toNat).High != (1000000000000:Int))
 (decide (((zc8.len+1) * 40≤140737488355328/\zc8.len+1≤9223372036854775807)) &&
 (zob P0 n iv0 ((n.Ties.get iv0.toNat).From) ((n.Ties.get iv0.toNat).To) ((n.Ties.get iv0.toNat).Low) ((n.Ties.get iv0.toNat).High) (⟨(zc8.len+1),(zdb zc8.len zc8.get (λ _=>(⟨(n.Ties.get iv0.toNat).From,(n.Ties.get iv0.toNat).To,(n.Ties.get iv0.toNat).High,(⟨iv0,false⟩:Use)⟩:Step)))⟩:Sl Step)))
 (zob P0 n iv0 ((n.Ties.get iv0.toNat).From) ((n.Ties.get iv0.toNat).To) ((n.Ties.get iv0.toNat).Low) ((n.Ties.get iv0.toNat).High) zc8)))
 true)
def zdR (n:Net):Nat->Int->(Sl Step)->(Sl Step):=lpO (λ _ _=>default) (zjg n)
def zdS (n:Net):Nat->Int->(Sl Step)->Bool:=lpO (λ _ _=>false) (zjh n)
def zzS (n:Net) (iv0:Int) (zc8:(Sl Step)):(Sl Step):=zdR n Fuel iv0 zc8
def zzT (n:Net) (iv0:Int) (zc8:(Sl Step)):Bool:=zdS n Fuel iv0 zc8
theorem zHi (hs:zzT n iv0 zc8=true) (hk:K (e77 (zzS n iv0 zc8))) (zrS:zgC=zg zbP zc8):z77 K [1,1,0,1,0] [] (zDR n iv0 zc8 zgC) :=
  zl (λ X=>z77 K [1,1,0,1,0,0] [X]) (by kernel_rfl) λ X0 hX =>
  (show ∀ k, zHg K n X0 (zdS n k) (zdR n k) from zeU _ _ (zjh n) (zjg n) (zHg K n X0)
 (by intro _ _ _ hs;exact absurd hs dqk)
 (by intro P0 S0 hX0 iv0 zc8 zgC hs hk zrS;subst zrS;exact hX _ (zaX (by kernel_rfl) (zc hs hk (λ hs hk=>(zaJ hs λ hc hs=>And.intro hc (zc hs hk (λ hs hk=>(zaJ hs λ hc hs=>And.intro hc (zzR hX0 hs hk (zjJ (enc:=zbP) (f:=zc8.get) (h:=(λ _=>(⟨(n.Ties.get iv0.toNat).From,(n.Ties.get iv0.toNat).To,(n.Ties.get iv0.toNat).High,(⟨iv0,false⟩:Use)⟩:Step))) rfl rfl)))) (λ hs hk=>(zzR hX0 hs hk rfl))))) (λ hs hk=>hk))))) _ hs hk zrS
def s77 (n:Net):(Sl Step) :=
  (zzS n (0:Int) (⟨0,(λ _=>default)⟩:Sl Step))
def p77 (n:Net):Bool :=
  (zzT n (0:Int) (⟨0,(λ _=>default)⟩:Sl Step))
end
theorem q77 (n:Net) (K:List PA->Prop) (hs:p77 n=true) (hk:K (e77 (s77 n))):vcFun Tryd.prog G77 zHf 77 [.agg (enc_24 n)] K :=
  zaX (by kernel_rfl) (zHi hs hk rfl)
def zzU : List PA → COut
  | [.agg [.int .i64 zae,.sl zad zau zac]]=>.det (IsE enc_40 4 zau zac/\p77 (⟨zae,(⟨zad,zak zac⟩:(Sl Tie))⟩:Net)=true) [.one (.sl ((s77 (⟨zae,(⟨zad,zak zac⟩:(Sl Tie))⟩:Net)).len) 5 (λ i=>zbP ((s77 (⟨zae,(⟨zad,zak zac⟩:(Sl Tie))⟩:Net)).get i)))]
  | _=>.no
theorem zKH:zas Tryd.prog 77:=⟨_,rfl,rfl,by kernel_rfl⟩
theorem zMS:Ok Tryd.prog 77 zzU:=zbv zMR zKH λ args K h=>by
  unfold zzU at h
  split at h
  · rename_i zae zad zau zac
    obtain⟨⟨⟨rfl,zal,rfl⟩,hs⟩,hk⟩:=h
    try rw[zaj zal] at hs
    try rw[zaj zal] at hk
    exact⟨(λ _ _=>[]),(λ _=>false),zHf,q77 (⟨zae,(⟨zad,zal⟩:(Sl Tie))⟩:Net) K hs hk⟩
  · exact h.elim
abbrev T57:Tabs:=(((Tabs.nil.addF 23 zCs).addF 72 zzF).addF 77 zzU)
theorem zMT:TabsOk Tryd.prog T57:=(((TabsOk.nil.addF zNC).addF zMM).addF zMS)
abbrev G57:Ctrs:=csm T57 (λ _ _=>[]) (λ _=>false)
def zHj:Ann:=⟨85,[(0,zK [1,2,3] [3]),(1,zK [1,2,3,30] [3]),(2,zK [6,7,8] []),(3,zK [1,2,9] []),(4,zK [2,9,10,11] []),(5,zK [2,9,10,11,12] []),(6,zK [2,9,10,11,12,37] []),(7,zK [2,9,10,11,12] []),(8,zK [2,9,10,11,12,13] []),(9,zK [2,9,10,11,12,13,14] []),(10,zK [2,9,10,11,12,13,14,47] []),(11,zK [2,9,10,11,12,13,14] []),(12,zK [2,9,10,11,12,13,14,68] []),(13,zK [2,9,10,11,12,13,14] []),(14,zK [2,9,10,11,12,82] []),(15,zK [6,7,8] []),(16,zK [6,7,8] [])],
 [(6,zK [2,9,10,11,12] []),(10,zK [2,9,10,11,12,13,14] [])],
 [(2,zK [1,2,3,30] [3]),(3,zK [1,2,3] [3]),(4,zK [1,2,9] [])],
 [],[]⟩
abbrev R57:=(Int×Int×Bool)
abbrev e57 (r:R57):List PA:=[.one (.int .i64 r.1),.one (.int .i64 r.2.1),.one (.bool r.2.2)]
@[irreducible] def z57:=ptF Tryd.prog G57 zHj Tryd.f57
def zDS (zai:(Sl Use)) (lv2:(Sl Step)) (zjc:Int) (zbi:Int) (iv3:Int):St:=⟨[(2,zS enc_75 2 zai),(9,zS zbP 5 lv2),(10,zI zjc),(11,zI zbi),(12,zI iv3)],[],[]⟩
abbrev zHk (K:List PA->Prop) (zai:(Sl Use)) (lv2:(Sl Step)) (X:St->Prop) (P:Int->Int->Int->Bool) (S:Int->Int->Int->(Int×Int×Bool)):Prop:=∀ ⦃zjc:Int⦄ ⦃zbi:Int⦄ ⦃iv3:Int⦄,P zjc zbi iv3=true->K (e57 (S zjc zbi iv3))->X (zDS zai lv2 zjc zbi iv3)
def zDT (zai:(Sl Use)) (lv2:(Sl Step)) (zdJ:Int) (zaF:Int) (iv4:Int) (zdK:Bool) (kv4:Int):St:=⟨[(2,zS enc_75 2 zai),(9,zS zbP 5 lv2),(10,zI zdJ),(11,zI zaF),(12,zI iv4),(13,zB zdK),(14,zI kv4)],[],[]⟩
abbrev zKI (K:List PA->Prop) (zai:(Sl Use)) (lv2:(Sl Step)) (X:St->Prop) (P:Int->Int->Int->Bool->Int->Bool) (S:Int->Int->Int->Bool->Int->(Int×Int×Bool)):Prop:=∀ ⦃zdJ:Int⦄ ⦃zaF:Int⦄ ⦃iv4:Int⦄ ⦃zdK:Bool⦄ ⦃kv4:Int⦄,P zdJ zaF iv4 zdK kv4=true->K (e57 (S zdJ zaF iv4 zdK kv4))->X (zDT zai lv2 zdJ zaF iv4 zdK kv4)
section
variable {K:List PA->Prop}{n:Net}{zaa:Int}{zai:(Sl Use)}{zrT:Bool}{lv2:(Sl Step)}{zKJ:Nat->List PV}{zjc:Int}{zbi:Int}{iv3:Int}{X3:St->Prop}{P3:Int->Int->Int->Bool}{S3:Int->Int->Int->(Int×Int×Bool)}{zdJ:Int}{zaF:Int}{iv4:Int}{zdK:Bool}{kv4:Int}{X4:St->Prop}{P4:Int->Int->Int->Bool->Int->Bool}{S4:Int->Int->Int->Bool->Int->(Int×Int×Bool)}
def zgE (S3:Int->Int->Int->(Int×Int×Bool)) (zai:(Sl Use)) (lv2:(Sl Step)) (S4:Int->Int->Int->Bool->Int->(Int×Int×Bool)) (zdJ:Int) (zaF:Int) (iv4:Int) (zdK:Bool) (kv4:Int):(Int×Int×Bool) :=
  (cond (decide (kv4 < (lv2.len : Int)))
 (cond (!zdK)
 (cond (match ((lv2.get kv4.toNat).Use.Tie == (zai.get iv4.toNat).Tie) with | true => (match ((lv2.get kv4.toNat).Use.Back == (zai.get iv4.toNat).Back) with | true => true | false => false) | false => false)
 (cond ((lv2.get kv4.toNat).From == zdJ)
 (S4 ((lv2.get kv4.toNat).To) (w64 (zaF+(lv2.get kv4.toNat).Length)) iv4 true (w64 (kv4+(1:Int))))
 (S4 zdJ zaF iv4 zdK (w64 (kv4+(1:Int)))))
 (S4 zdJ zaF iv4 zdK (w64 (kv4+(1:Int)))))
 (cond (!zdK)
 ((0:Int),(0:Int),false)
 (S3 zdJ zaF (w64 (iv4+(1:Int))))))
 (cond (!zdK)
 ((0:Int),(0:Int),false)
 (S3 zdJ zaF (w64 (iv4+(1:Int))))))
def zgF (P3:Int->Int->Int->Bool) (zai:(Sl Use)) (lv2:(Sl Step)) (P4:Int->Int->Int->Bool->Int->Bool) (zdJ:Int) (zaF:Int) (iv4:Int) (zdK:Bool) (kv4:Int):Bool :=
  (cond (decide (kv4 < (lv2.len : Int)))
 (cond (!zdK)
 (decide ((0≤kv4/\kv4 < (lv2.len:Int))) &&
 (decide ((0≤iv4/\iv4 < (zai.len:Int))) &&
 (cond (match ((lv2.get kv4.toNat).Use.Tie == (zai.get iv4.toNat).Tie) with | true => (match ((lv2.get kv4.toNat).Use.Back == (zai.get iv4.toNat).Back) with | true => true | false => false) | false => false)
 (decide ((0≤kv4/\kv4 < (lv2.len:Int))) &&
 (cond ((lv2.get kv4.toNat).From == zdJ)
 (decide ((0≤kv4/\kv4 < (lv2.len:Int))) &&
 (decide ((0≤kv4/\kv4 < (lv2.len:Int))) &&
 (P4 ((lv2.get kv4.toNat).To) (w64 (zaF+(lv2.get kv4.toNat).Length)) iv4 true (w64 (kv4+(1:Int))))))
 (P4 zdJ zaF iv4 zdK (w64 (kv4+(1:Int))))))
 (P4 zdJ zaF iv4 zdK (w64 (kv4+(1:Int)))))))
 (cond (!zdK)
 true
 (P3 zdJ zaF (w64 (iv4+(1:Int))))))
 (cond (!zdK)
 true
 (P3 zdJ zaF (w64 (iv4+(1:Int))))))
def zde (S3:Int->Int->Int->(Int×Int×Bool)) (zai:(Sl Use)) (lv2:(Sl Step)):Nat->Int->Int->Int->Bool->Int->(Int×Int×Bool):=lpO (λ _ _ _ _ _=>default) (zgE S3 zai lv2)
def zdf (P3:Int->Int->Int->Bool) (zai:(Sl Use)) (lv2:(Sl Step)):Nat->Int->Int->Int->Bool->Int->Bool:=lpO (λ _ _ _ _ _=>false) (zgF P3 zai lv2)
def zzV (S3:Int->Int->Int->(Int×Int×Bool)) (zai:(Sl Use)) (lv2:(Sl Step)) (zdJ:Int) (zaF:Int) (iv4:Int) (zdK:Bool) (kv4:Int):(Int×Int×Bool):=zde S3 zai lv2 Fuel zdJ zaF iv4 zdK kv4
def zzW (P3:Int->Int->Int->Bool) (zai:(Sl Use)) (lv2:(Sl Step)) (zdJ:Int) (zaF:Int) (iv4:Int) (zdK:Bool) (kv4:Int):Bool:=zdf P3 zai lv2 Fuel zdJ zaF iv4 zdK kv4
theorem zHl (hX3:zHk K zai lv2 X3 P3 S3) (hs:zzW P3 zai lv2 zdJ zaF iv4 zdK kv4=true) (hk:K (e57 (zzV S3 zai lv2 zdJ zaF iv4 zdK kv4))):z57 K [1,1,1,1,0,1,0,0,1,0,0,1,0,1,0] [X3] (zDT zai lv2 zdJ zaF iv4 zdK kv4) :=
  zl (λ X=>z57 K [1,1,1,1,0,1,0,0,1,0,0,1,0,1,0,0] [X3,X]) (by kernel_rfl) λ X4 hX =>
  (show ∀ k, zKI K zai lv2 X4 (zdf P3 zai lv2 k) (zde S3 zai lv2 k) from zeU _ _ (zgF P3 zai lv2) (zgE S3 zai lv2) (zKI K zai lv2 X4)
 (by intro _ _ _ _ _ hs;exact absurd hs dqk)
 (by intro P4 S4 hX4 zdJ zaF iv4 zdK kv4 hs hk;exact hX _ (zaX (by kernel_rfl) (zc hs hk (λ hs hk=>(zc hs hk (λ hs hk=>(zaJ hs λ hc hs=>And.intro hc (zaJ hs λ hc hs=>And.intro hc (zc hs hk (λ hs hk=>(zaJ hs λ hc hs=>And.intro hc (zc hs hk (λ hs hk=>(zaJ hs λ hc hs=>And.intro hc (zaJ hs λ hc hs=>And.intro hc (hX4 hs hk)))) (λ hs hk=>(hX4 hs hk))))) (λ hs hk=>(hX4 hs hk)))))) (λ hs hk=>(zc hs hk (λ hs hk=>hk) (λ hs hk=>(hX3 hs hk)))))) (λ hs hk=>(zc hs hk (λ hs hk=>hk) (λ hs hk=>(hX3 hs hk)))))))) _ hs hk
def zji (zai:(Sl Use)) (lv2:(Sl Step)) (S3:Int->Int->Int->(Int×Int×Bool)) (zjc:Int) (zbi:Int) (iv3:Int):(Int×Int×Bool) :=
  (cond (decide (iv3 < (zai.len : Int)))
 (zzV S3 zai lv2 zjc zbi iv3 false (0:Int))
 (zjc,zbi,true))
def zjj (zai:(Sl Use)) (lv2:(Sl Step)) (P3:Int->Int->Int->Bool) (zjc:Int) (zbi:Int) (iv3:Int):Bool :=
  (cond (decide (iv3 < (zai.len : Int)))
 (zzW P3 zai lv2 zjc zbi iv3 false (0:Int))
 true)
def zfK (zai:(Sl Use)) (lv2:(Sl Step)):Nat->Int->Int->Int->(Int×Int×Bool):=lpO (λ _ _ _=>default) (zji zai lv2)
def zfL (zai:(Sl Use)) (lv2:(Sl Step)):Nat->Int->Int->Int->Bool:=lpO (λ _ _ _=>false) (zjj zai lv2)
def zrU (zai:(Sl Use)) (lv2:(Sl Step)) (zjc:Int) (zbi:Int) (iv3:Int):(Int×Int×Bool):=zfK zai lv2 Fuel zjc zbi iv3
def zrV (zai:(Sl Use)) (lv2:(Sl Step)) (zjc:Int) (zbi:Int) (iv3:Int):Bool:=zfL zai lv2 Fuel zjc zbi iv3
theorem zHm (hs:zrV zai lv2 zjc zbi iv3=true) (hk:K (e57 (zrU zai lv2 zjc zbi iv3))):z57 K [1,1,1,1,0,1,0] [] (zDS zai lv2 zjc zbi iv3) :=
  zl (λ X=>z57 K [1,1,1,1,0,1,0,0] [X]) (by kernel_rfl) λ X3 hX =>
  (show ∀ k, zHk K zai lv2 X3 (zfL zai lv2 k) (zfK zai lv2 k) from zeU _ _ (zjj zai lv2) (zji zai lv2) (zHk K zai lv2 X3)
 (by intro _ _ _ hs;exact absurd hs dqk)
 (by intro P3 S3 hX3 zjc zbi iv3 hs hk;exact hX _ (zaX (by kernel_rfl) (zc hs hk (λ hs hk=>(zHl hX3 hs hk)) (λ hs hk=>hk))))) _ hs hk
def zrW (zaa:Int) (zai:(Sl Use)) (lv2:(Sl Step)):(Int×Int×Bool) :=
  (zrU zai lv2 zaa (0:Int) (0:Int))
def zrX (zaa:Int) (zai:(Sl Use)) (lv2:(Sl Step)):Bool :=
  (zrV zai lv2 zaa (0:Int) (0:Int))
theorem zHn (hs:zrX zaa zai lv2=true) (hk:K (e57 (zrW zaa zai lv2))) (zMU:zKJ=zg zbP lv2):z57 K [1,1,1] [] ⟨[(1,zI zaa),(2,zS enc_75 2 zai),(9,zP (.sl lv2.len 5 zKJ))],[],[]⟩:=by subst zMU;exact zaX (by kernel_rfl) (zHm hs hk)
def zrY (n:Net) (zaa:Int) (zai:(Sl Use)):(Int×Int×Bool) :=
  (zrW zaa zai (s77 n))
def zrZ (n:Net) (zaa:Int) (zai:(Sl Use)):Bool :=
  (decide ((p77 n=true)) &&
 (zrX zaa zai (s77 n)))
theorem zHo (hs:zrZ n zaa zai=true) (hk:K (e57 (zrY n zaa zai))):z57 K [1,1] [] ⟨[(1,zI zaa),(2,zS enc_75 2 zai),(3,zp 3 0)],[(3,.box 24 (zm (enc_24 n)))],[]⟩:=zaX (by kernel_rfl) (zaJ hs λ hc hs=>And.intro (And.intro (zE enc_40 4 n.Ties.get) hc) (zHn hs hk rfl))
def zlL (n:Net) (zaa:Int) (zai:(Sl Use)) (zrT:Bool):(Int×Int×Bool) :=
  (cond zrT
 ((0:Int),(0:Int),false)
 (zrY n zaa zai))
def zlM (n:Net) (zaa:Int) (zai:(Sl Use)) (zrT:Bool):Bool :=
  (cond zrT
 true
 (zrZ n zaa zai))
theorem zr0 (hs:zlM n zaa zai zrT=true) (hk:K (e57 (zlL n zaa zai zrT))):z57 K [1,0,1] [] ⟨[(1,zI zaa),(2,zS enc_75 2 zai),(3,zp 3 0),(30,zB zrT)],[(3,.box 24 (zm (enc_24 n)))],[]⟩:=zaX (by kernel_rfl) (zc hs hk (λ hs hk=>hk) (λ hs hk=>(zHo hs hk)))
def s57 (n:Net) (zaa:Int) (zai:(Sl Use)):(Int×Int×Bool) :=
  (cond (!(s23 n))
 (zlL n zaa zai true)
 (cond (!(s72 zaa (0:Int) (w64 (n.Nodes - (1:Int)))))
 (zlL n zaa zai true)
 (zlL n zaa zai (decide ((zai.len:Int) > (40:Int))))))
def p57 (n:Net) (zaa:Int) (zai:(Sl Use)):Bool :=
  (decide ((p23 n=true)) &&
 (cond (!(s23 n))
 (zlM n zaa zai true)
 (cond (!(s72 zaa (0:Int) (w64 (n.Nodes - (1:Int)))))
 (zlM n zaa zai true)
 (zlM n zaa zai (decide ((zai.len:Int) > (40:Int)))))))
end
theorem q57 (n:Net) (zaa:Int) (zai:(Sl Use)) (K:List PA->Prop) (hs:p57 n zaa zai=true) (hk:K (e57 (s57 n zaa zai))):vcFun Tryd.prog G57 zHj 57 [.agg (enc_24 n),.one (.int .i64 zaa),.one (.sl zai.len 2 (λ i=>enc_75 (zai.get i)))] K :=
  zaX (by kernel_rfl) (zaJ hs λ hc hs=>And.intro (And.intro (zE enc_40 4 n.Ties.get) hc) (zc hs hk (λ hs hk=>(zr0 hs hk)) (λ hs hk=>(zc hs hk (λ hs hk=>(zr0 hs hk)) (λ hs hk=>(zr0 hs hk))))))
def zHp : List PA → COut
  | [.agg [.int .i64 zae,.sl zad zau zac],.one (.int .i64 a1),.one (.sl zg0 zpm zg1)]=>.det (IsE enc_40 4 zau zac/\IsE enc_75 2 zpm zg1/\p57 (⟨zae,(⟨zad,zak zac⟩:(Sl Tie))⟩:Net) a1 (⟨zg0,zbk zg1⟩:(Sl Use))=true) [.one (.int .i64 ((s57 (⟨zae,(⟨zad,zak zac⟩:(Sl Tie))⟩:Net) a1 (⟨zg0,zbk zg1⟩:(Sl Use))).1)),.one (.int .i64 ((s57 (⟨zae,(⟨zad,zak zac⟩:(Sl Tie))⟩:Net) a1 (⟨zg0,zbk zg1⟩:(Sl Use))).2.1)),.one (.bool ((s57 (⟨zae,(⟨zad,zak zac⟩:(Sl Tie))⟩:Net) a1 (⟨zg0,zbk zg1⟩:(Sl Use))).2.2))]
  | _=>.no
theorem zKK:zas Tryd.prog 57:=⟨_,rfl,rfl,by kernel_rfl⟩
theorem zOB:Ok Tryd.prog 57 zHp:=zbv zMT zKK λ args K h=>by
  unfold zHp at h
  split at h
  · rename_i zae zad zau zac a1 zg0 zpm zg1
    obtain⟨⟨⟨rfl,zal,rfl⟩,⟨rfl,zls,rfl⟩,hs⟩,hk⟩:=h
    try rw[zaj zal] at hs
    try rw[zaj zal] at hk
    try rw[zaS zls] at hs
    try rw[zaS zls] at hk
    exact⟨(λ _ _=>[]),(λ _=>false),zHj,q57 (⟨zae,(⟨zad,zal⟩:(Sl Tie))⟩:Net) a1 (⟨zg0,zls⟩:(Sl Use)) K hs hk⟩
  · exact h.elim
abbrev T51:Tabs:=(Tabs.nil.addF 57 zHp)
theorem zMV:TabsOk Tryd.prog T51:=(TabsOk.nil.addF zOB)
abbrev G51:Ctrs:=csm T51 (λ _ _=>[]) (λ _=>false)
def zKL:Ann:=⟨28,[(0,zK [1,2,3] [3]),(1,zK [1,7,8,9] []),(2,zK [6] [])],
 [],
 [],
 [],[]⟩
abbrev R51:=Bool
abbrev e51 (r:R51):List PA:=[.one (.bool r)]
section
variable {K:List PA->Prop}{n:Net}{zaa:Int}{zai:(Sl Use)}
def s51 (n:Net) (zaa:Int) (zai:(Sl Use)):Bool :=
  (cond ((s57 n zaa zai).2.2)
 (cond (((s57 n zaa zai).1) == zaa)
 (decide (((s57 n zaa zai).2.1) < (0:Int)))
 false)
 false)
def p51 (n:Net) (zaa:Int) (zai:(Sl Use)):Bool :=
  (decide ((p57 n zaa zai=true)) &&
 true)
end
theorem q51 (n:Net) (zaa:Int) (zai:(Sl Use)) (K:List PA->Prop) (hs:p51 n zaa zai=true) (hk:K (e51 (s51 n zaa zai))):vcFun Tryd.prog G51 zKL 51 [.agg (enc_24 n),.one (.int .i64 zaa),.one (.sl zai.len 2 (λ i=>enc_75 (zai.get i)))] K :=
  zaX (by kernel_rfl) (zaJ hs λ hc hs=>And.intro (And.intro (zE enc_40 4 n.Ties.get) (And.intro (zE enc_75 2 zai.get) hc)) (zt hk (λ hk=>(zt hk (λ hk=>hk) (λ hk=>hk))) (λ hk=>hk)))
def zHq : List PA → COut
  | [.agg [.int .i64 zae,.sl zad zau zac],.one (.int .i64 a1),.one (.sl zg0 zpm zg1)]=>.det (IsE enc_40 4 zau zac/\IsE enc_75 2 zpm zg1/\p51 (⟨zae,(⟨zad,zak zac⟩:(Sl Tie))⟩:Net) a1 (⟨zg0,zbk zg1⟩:(Sl Use))=true) [.one (.bool (s51 (⟨zae,(⟨zad,zak zac⟩:(Sl Tie))⟩:Net) a1 (⟨zg0,zbk zg1⟩:(Sl Use))))]
  | _=>.no
theorem zKM:zas Tryd.prog 51:=⟨_,rfl,rfl,by kernel_rfl⟩
theorem zOC:Ok Tryd.prog 51 zHq:=zbv zMV zKM λ args K h=>by
  unfold zHq at h
  split at h
  · rename_i zae zad zau zac a1 zg0 zpm zg1
    obtain⟨⟨⟨rfl,zal,rfl⟩,⟨rfl,zls,rfl⟩,hs⟩,hk⟩:=h
    try rw[zaj zal] at hs
    try rw[zaj zal] at hk
    try rw[zaS zls] at hs
    try rw[zaS zls] at hk
    exact⟨(λ _ _=>[]),(λ _=>false),zKL,q51 (⟨zae,(⟨zad,zal⟩:(Sl Tie))⟩:Net) a1 (⟨zg0,zls⟩:(Sl Use)) K hs hk⟩
  · exact h.elim
abbrev T90:Tabs:=(Tabs.nil.addF 77 zzU)
theorem zMW:TabsOk Tryd.prog T90:=(TabsOk.nil.addF zMS)
abbrev G90:Ctrs:=csm T90 (λ _ _=>[]) (λ l=>Nat.beq l 19)
def zHr:Ann:=⟨115,[(0,zK [1,2,3,4] [4]),(1,zK [1,2,3,4,9] [4]),(2,zK [1,2,3,4,9,10] [4,19]),(3,zK [1,2,3,4,9,10,11] [4,19]),(4,zK [1,2,3,4,9,10,11,22] [4,19]),(5,zK [1,2,3,4,9,10,11] [4,19]),(6,zK [1,2,3,4,9,10,11] [4,19]),(7,zK [1,2,3,4,9,10,11,12] [4,19]),(8,zK [1,2,3,4,9,10,11,12,34] [4,19]),(9,zK [1,2,3,4,9,10,11,12] [4,19]),(10,zK [1,2,3,4,9,10,11,12] [4,19]),(11,zK [1,2,3,4,9,10,11,13] [4,19]),(12,zK [1,2,3,4,9,10,11,13,50] [4,19]),(13,zK [1,2,3,4,9,10,11,13] [4,19]),(14,zK [1,2,3,4,9,10,11,13,14] [4,14,19]),(15,zK [1,2,3,4,9,10,11,13,14,78] [4,14,19]),(16,zK [1,2,3,4,9,10,11,13] [4,19]),(17,zK [1,2,3,4,9,10,11,108] [4,19]),(18,zK [1,2,3,4,9,10,11] [4,19]),(19,zK [8] [19])],
 [(4,zK [1,2,3,4,9,10,11] [4,19]),(8,zK [1,2,3,4,9,10,11,12] [4,19]),(12,zK [1,2,3,4,9,10,11,13] [4,19])],
 [(2,zK [1,2,3,4,9] [4]),(11,zK [1,2,3,4,9,10,11] [4,19])],
 [],[]⟩
abbrev R90:=(Sl (Sl Int))
abbrev e90 (r:R90):List PA:=[.one (.sl r.len 1 (λ i=>zbT (r.get i)))]
@[irreducible] def z90:=ptF Tryd.prog G90 zHr Tryd.f90
def zDU (n:Net) (end_a1:Int) (uses:Int) (least:Int) (lv0:(Sl Step)) (rv1:Int) (zdL:(Sl (Sl Int))) (zgG:Nat->Nat) (zgH:Nat->Nat->List PV):St:=⟨[(1,zI end_a1),(2,zI uses),(3,zI least),(4,zp 4 0),(9,zS zbP 5 lv0),(10,zv 19),(11,zI rv1)],[(4,.box 24 (zm (enc_24 n))),(19,.vv 27 24 3 1 8 zdL.len zgG zgH)],[]⟩
abbrev zzX (K:List PA->Prop) (n:Net) (end_a1:Int) (uses:Int) (least:Int) (lv0:(Sl Step)) (X:St->Prop) (P:Int->(Sl (Sl Int))->Bool) (S:Int->(Sl (Sl Int))->(Sl (Sl Int))):Prop:=∀ ⦃rv1:Int⦄ ⦃zdL:(Sl (Sl Int))⦄ ⦃zgG:Nat->Nat⦄ ⦃zgH:Nat->Nat->List PV⦄,P rv1 zdL=true->K (e90 (S rv1 zdL))->VVE zah zgG zgH zdL.get->X (zDU n end_a1 uses least lv0 rv1 zdL zgG zgH)
def zDV (n:Net) (end_a1:Int) (uses:Int) (least:Int) (lv0:(Sl Step)) (rv2:Int) (iv2:Int) (zcU:(Sl (Sl Int))) (zgI:Nat->Nat) (zgJ:Nat->Nat->List PV):St:=⟨[(1,zI end_a1),(2,zI uses),(3,zI least),(4,zp 4 0),(9,zS zbP 5 lv0),(10,zv 19),(11,zI rv2),(12,zI iv2)],[(4,.box 24 (zm (enc_24 n))),(19,.vv 27 24 3 1 8 zcU.len zgI zgJ)],[]⟩
abbrev zKN (K:List PA->Prop) (n:Net) (end_a1:Int) (uses:Int) (least:Int) (lv0:(Sl Step)) (X:St->Prop) (P:Int->Int->(Sl (Sl Int))->Bool) (S:Int->Int->(Sl (Sl Int))->(Sl (Sl Int))):Prop:=∀ ⦃rv2:Int⦄ ⦃iv2:Int⦄ ⦃zcU:(Sl (Sl Int))⦄ ⦃zgI:Nat->Nat⦄ ⦃zgJ:Nat->Nat->List PV⦄,P rv2 iv2 zcU=true->K (e90 (S rv2 iv2 zcU))->VVE zah zgI zgJ zcU.get->X (zDV n end_a1 uses least lv0 rv2 iv2 zcU zgI zgJ)
def zDW (n:Net) (end_a1:Int) (uses:Int) (least:Int) (lv0:(Sl Step)) (rv4:Int) (iv4:Int) (zaO:(Sl (Sl Int))) (zgK:Nat->Nat) (zgL:Nat->Nat->List PV):St:=⟨[(1,zI end_a1),(2,zI uses),(3,zI least),(4,zp 4 0),(9,zS zbP 5 lv0),(10,zv 19),(11,zI rv4),(13,zI iv4)],[(4,.box 24 (zm (enc_24 n))),(19,.vv 27 24 3 1 8 zaO.len zgK zgL)],[]⟩
abbrev zKO (K:List PA->Prop) (n:Net) (end_a1:Int) (uses:Int) (least:Int) (lv0:(Sl Step)) (X:St->Prop) (P:Int->Int->(Sl (Sl Int))->Bool) (S:Int->Int->(Sl (Sl Int))->(Sl (Sl Int))):Prop:=∀ ⦃rv4:Int⦄ ⦃iv4:Int⦄ ⦃zaO:(Sl (Sl Int))⦄ ⦃zgK:Nat->Nat⦄ ⦃zgL:Nat->Nat->List PV⦄,P rv4 iv4 zaO=true->K (e90 (S rv4 iv4 zaO))->VVE zah zgK zgL zaO.get->X (zDW n end_a1 uses least lv0 rv4 iv4 zaO zgK zgL)
section
variable {K:List PA->Prop}{n:Net}{end_a1:Int}{uses:Int}{least:Int}{lv0:(Sl Step)}{zzY:Nat->List PV}{rv1:Int}{zdL:(Sl (Sl Int))}{zgG:Nat->Nat}{zgH:Nat->Nat->List PV}{X1:St->Prop}{P1:Int->(Sl (Sl Int))->Bool}{S1:Int->(Sl (Sl Int))->(Sl (Sl Int))}{rv2:Int}{iv2:Int}{zcU:(Sl (Sl Int))}{zgI:Nat->Nat}{zgJ:Nat->Nat->List PV}{X2:St->Prop}{P2:Int->Int->(Sl (Sl Int))->Bool}{S2:Int->Int->(Sl (Sl Int))->(Sl (Sl Int))}{rv3:Int}{zpD:(Sl (Sl Int))}{zzZ:Nat->Nat}{zz0:Nat->Nat->List PV}{rv4:Int}{iv4:Int}{zaO:(Sl (Sl Int))}{zgK:Nat->Nat}{zgL:Nat->Nat->List PV}{X4:St->Prop}{P4:Int->Int->(Sl (Sl Int))->Bool}{S4:Int->Int->(Sl (Sl Int))->(Sl (Sl Int))}
def zgM (S1:Int->(Sl (Sl Int))->(Sl (Sl Int))) (n:Net) (end_a1:Int) (uses:Int) (least:Int) (lv0:(Sl Step)) (S4:Int->Int->(Sl (Sl Int))->(Sl (Sl Int))) (rv4:Int) (iv4:Int) (zaO:(Sl (Sl Int))):(Sl (Sl Int)) :=
  (cond (decide (iv4 < (lv0.len : Int)))
 (cond (decide (rv4 > (0:Int)))
 (cond (decide ((lv0.get iv4.toNat).From < least))
 (S4 rv4 (w64 (iv4+(1:Int))) zaO)
 (cond (decide ((lv0.get iv4.toNat).To < least))
 (S4 rv4 (w64 (iv4+(1:Int))) zaO)
 (cond (((zaO.get ((w64 (rv4 - (1:Int))).toNat)).get (((lv0.get iv4.toNat).To).toNat)) == (1000000000000:Int))
 (S4 rv4 (w64 (iv4+(1:Int))) zaO)
 (S4 rv4 (w64 (iv4+(1:Int))) (⟨zaO.len,(zlm rv4.toNat (((lv0.get iv4.toNat).From).toNat) (if (w64 ((lv0.get iv4.toNat).Length+((zaO.get ((w64 (rv4 - (1:Int))).toNat)).get (((lv0.get iv4.toNat).To).toNat)))) < ((zaO.get rv4.toNat).get (((lv0.get iv4.toNat).From).toNat)) then (w64 ((lv0.get iv4.toNat).Length+((zaO.get ((w64 (rv4 - (1:Int))).toNat)).get (((lv0.get iv4.toNat).To).toNat)))) else ((zaO.get rv4.toNat).get (((lv0.get iv4.toNat).From).toNat))) zaO.get)⟩:Sl (Sl Int))))))
 (cond (rv4 == (0:Int))
 (S1 (w64 (rv4+(1:Int))) (⟨zaO.len,(zlm 0 end_a1.toNat (0:Int) zaO.get)⟩:Sl (Sl Int)))
 (S1 (w64 (rv4+(1:Int))) zaO)))
 (cond (rv4 == (0:Int))
 (S1 (w64 (rv4+(1:Int))) (⟨zaO.len,(zlm 0 end_a1.toNat (0:Int) zaO.get)⟩:Sl (Sl Int)))
 (S1 (w64 (rv4+(1:Int))) zaO)))
def zgN (P1:Int->(Sl (Sl Int))->Bool) (n:Net) (end_a1:Int) (uses:Int) (least:Int) (lv0:(Sl Step)) (P4:Int->Int->(Sl (Sl Int))->Bool) (rv4:Int) (iv4:Int) (zaO:(Sl (Sl Int))):Bool :=
  (cond (decide (iv4 < (lv0.len : Int)))
 (cond (decide (rv4 > (0:Int)))
 (decide ((0≤iv4/\iv4 < (lv0.len:Int))) &&
 (cond (decide ((lv0.get iv4.toNat).From < least))
 (P4 rv4 (w64 (iv4+(1:Int))) zaO)
 (cond (decide ((lv0.get iv4.toNat).To < least))
 (P4 rv4 (w64 (iv4+(1:Int))) zaO)
 (decide ((0≤(w64 (rv4 - (1:Int)))/\(w64 (rv4 - (1:Int))) < (zaO.len:Int))) &&
 (decide (((w64 (rv4 - (1:Int))).toNat < zaO.len/\0 < (λ i=>(zaO.get i).len) ((w64 (rv4 - (1:Int))).toNat))) &&
 (decide (((w64 (rv4 - (1:Int))).toNat < zaO.len/\0≤(lv0.get iv4.toNat).To/\(lv0.get iv4.toNat).To < (((λ i=>(zaO.get i).len) ((w64 (rv4 - (1:Int))).toNat):Nat):Int))) &&
 (decide (((w64 (rv4 - (1:Int))).toNat < zaO.len/\((lv0.get iv4.toNat).To).toNat < (λ i=>(zaO.get i).len) ((w64 (rv4 - (1:Int))).toNat))) &&
 (cond (((zaO.get ((w64 (rv4 - (1:Int))).toNat)).get (((lv0.get iv4.toNat).To).toNat)) == (1000000000000:Int))
 (P4 rv4 (w64 (iv4+(1:Int))) zaO)
 (decide ((0≤rv4/\rv4 < (zaO.len:Int))) &&
 (decide ((rv4.toNat < zaO.len/\0 < (λ i=>(zaO.get i).len) rv4.toNat)) &&
 (decide ((0≤rv4/\rv4 < (zaO.len:Int))) &&
 (decide ((rv4.toNat < zaO.len/\0 < (λ i=>(zaO.get i).len) rv4.toNat)) &&
 (decide ((rv4.toNat < zaO.len/\0≤(lv0.get iv4.toNat).From/\(lv0.get iv4.toNat).From < (((λ i=>(zaO.get i).len) rv4.toNat:Nat):Int))) &&
 (decide ((rv4.toNat < zaO.len/\((lv0.get iv4.toNat).From).toNat < (λ i=>(zaO.get i).len) rv4.toNat)) &&
 (decide ((0≤(w64 (rv4 - (1:Int)))/\(w64 (rv4 - (1:Int))) < (zaO.len:Int))) &&
 (decide (((w64 (rv4 - (1:Int))).toNat < zaO.len/\0 < (λ i=>(zaO.get i).len) ((w64 (rv4 - (1:Int))).toNat))) &&
 (decide (((w64 (rv4 - (1:Int))).toNat < zaO.len/\0≤(lv0.get iv4.toNat).To/\(lv0.get iv4.toNat).To < (((λ i=>(zaO.get i).len) ((w64 (rv4 - (1:Int))).toNat):Nat):Int))) &&
 (decide (((w64 (rv4 - (1:Int))).toNat < zaO.len/\((lv0.get iv4.toNat).To).toNat < (λ i=>(zaO.get i).len) ((w64 (rv4 - (1:Int))).toNat))) &&
 (decide ((rv4.toNat < zaO.len/\0≤(lv0.get iv4.toNat).From/\(lv0.get iv4.toNat).From < (((λ i=>(zaO.get i).len) rv4.toNat:Nat):Int))) &&
 (decide ((rv4.toNat < zaO.len/\((lv0.get iv4.toNat).From).toNat < (λ i=>(zaO.get i).len) rv4.toNat)) &&
 (P4 rv4 (w64 (iv4+(1:Int))) (⟨zaO.len,(zlm rv4.toNat (((lv0.get iv4.toNat).From).toNat) (if (w64 ((lv0.get iv4.toNat).Length+((zaO.get ((w64 (rv4 - (1:Int))).toNat)).get (((lv0.get iv4.toNat).To).toNat)))) < ((zaO.get rv4.toNat).get (((lv0.get iv4.toNat).From).toNat)) then (w64 ((lv0.get iv4.toNat).Length+((zaO.get ((w64 (rv4 - (1:Int))).toNat)).get (((lv0.get iv4.toNat).To).toNat)))) else ((zaO.get rv4.toNat).get (((lv0.get iv4.toNat).From).toNat))) zaO.get)⟩:Sl (Sl Int)))))))))))))))))))))))
 (cond (rv4 == (0:Int))
 (decide ((0≤(0:Int)/\(0:Int) < (zaO.len:Int))) &&
 (decide ((0 < zaO.len/\0 < (λ i=>(zaO.get i).len) 0)) &&
 (decide ((0 < zaO.len/\0≤end_a1/\end_a1 < (((λ i=>(zaO.get i).len) 0:Nat):Int))) &&
 (decide ((0 < zaO.len/\end_a1.toNat < (λ i=>(zaO.get i).len) 0)) &&
 (P1 (w64 (rv4+(1:Int))) (⟨zaO.len,(zlm 0 end_a1.toNat (0:Int) zaO.get)⟩:Sl (Sl Int)))))))
 (P1 (w64 (rv4+(1:Int))) zaO)))
 (cond (rv4 == (0:Int))
 (decide ((0≤(0:Int)/\(0:Int) < (zaO.len:Int))) &&
 (decide ((0 < zaO.len/\0 < (λ i=>(zaO.get i).len) 0)) &&
 (decide ((0 < zaO.len/\0≤end_a1/\end_a1 < (((λ i=>(zaO.get i).len) 0:Nat):Int))) &&
 (decide ((0 < zaO.len/\end_a1.toNat < (λ i=>(zaO.get i).len) 0)) &&
 (P1 (w64 (rv4+(1:Int))) (⟨zaO.len,(zlm 0 end_a1.toNat (0:Int) zaO.get)⟩:Sl (Sl Int)))))))
 (P1 (w64 (rv4+(1:Int))) zaO)))
def zeo (S1:Int->(Sl (Sl Int))->(Sl (Sl Int))) (n:Net) (end_a1:Int) (uses:Int) (least:Int) (lv0:(Sl Step)):Nat->Int->Int->(Sl (Sl Int))->(Sl (Sl Int)):=lpO (λ _ _ _=>default) (zgM S1 n end_a1 uses least lv0)
def zep (P1:Int->(Sl (Sl Int))->Bool) (n:Net) (end_a1:Int) (uses:Int) (least:Int) (lv0:(Sl Step)):Nat->Int->Int->(Sl (Sl Int))->Bool:=lpO (λ _ _ _=>false) (zgN P1 n end_a1 uses least lv0)
def zz1 (S1:Int->(Sl (Sl Int))->(Sl (Sl Int))) (n:Net) (end_a1:Int) (uses:Int) (least:Int) (lv0:(Sl Step)) (rv4:Int) (iv4:Int) (zaO:(Sl (Sl Int))):(Sl (Sl Int)):=zeo S1 n end_a1 uses least lv0 Fuel rv4 iv4 zaO
def zz2 (P1:Int->(Sl (Sl Int))->Bool) (n:Net) (end_a1:Int) (uses:Int) (least:Int) (lv0:(Sl Step)) (rv4:Int) (iv4:Int) (zaO:(Sl (Sl Int))):Bool:=zep P1 n end_a1 uses least lv0 Fuel rv4 iv4 zaO
theorem zHs (hX1:zzX K n end_a1 uses least lv0 X1 P1 S1) (hs:zz2 P1 n end_a1 uses least lv0 rv4 iv4 zaO=true) (hk:K (e90 (zz1 S1 n end_a1 uses least lv0 rv4 iv4 zaO))) (zr1:VVE zah zgK zgL zaO.get):z90 K [1,1,1,0,1,0,0,1,0,0,1,1,0,1,0] [X1] (zDW n end_a1 uses least lv0 rv4 iv4 zaO zgK zgL) :=
  zl (λ X=>z90 K [1,1,1,0,1,0,0,1,0,0,1,1,0,1,0,0] [X1,X]) (by kernel_rfl) λ X4 hX =>
  (show ∀ k, zKO K n end_a1 uses least lv0 X4 (zep P1 n end_a1 uses least lv0 k) (zeo S1 n end_a1 uses least lv0 k) from zeU _ _ (zgN P1 n end_a1 uses least lv0) (zgM S1 n end_a1 uses least lv0) (zKO K n end_a1 uses least lv0 X4)
 (by intro _ _ _ _ _ hs;exact absurd hs dqk)
 (by intro P4 S4 hX4 rv4 iv4 zaO zgK zgL hs hk zr1;obtain⟨rfl,rfl⟩:=zr1;exact hX _ (zaX (by kernel_rfl) (zc hs hk (λ hs hk=>(zc hs hk (λ hs hk=>(zaJ hs λ hc hs=>And.intro hc (zc hs hk (λ hs hk=>(hX4 hs hk zj2)) (λ hs hk=>(zc hs hk (λ hs hk=>(hX4 hs hk zj2)) (λ hs hk=>(zaJ hs λ hc hs=>And.intro hc (zaJ hs λ hc hs=>And.intro hc (zaJ hs λ hc hs=>And.intro hc (zaJ hs λ hc hs=>And.intro hc (zc hs hk (λ hs hk=>(hX4 hs hk zj2)) (λ hs hk=>(zaJ hs λ hc hs=>And.intro hc (zaJ hs λ hc hs=>And.intro hc (zaJ hs λ hc hs=>And.intro hc (zaJ hs λ hc hs=>And.intro hc (zaJ hs λ hc hs=>And.intro hc (zaJ hs λ hc hs=>And.intro hc (zaJ hs λ hc hs=>And.intro hc (zaJ hs λ hc hs=>And.intro hc (zaJ hs λ hc hs=>And.intro hc (zaJ hs λ hc hs=>And.intro hc (zaJ hs λ hc hs=>And.intro hc (zaJ hs λ hc hs=>And.intro hc (hX4 hs hk (znt (enc:=zah) (i:=rv4.toNat) (j:=((lv0.get iv4.toNat).From).toNat) (k:=0) (f:=zaO.get) (new:=[.int .i64 (if (w64 ((lv0.get iv4.toNat).Length+((zaO.get ((w64 (rv4 - (1:Int))).toNat)).get (((lv0.get iv4.toNat).To).toNat)))) < ((zaO.get rv4.toNat).get (((lv0.get iv4.toNat).From).toNat)) then (w64 ((lv0.get iv4.toNat).Length+((zaO.get ((w64 (rv4 - (1:Int))).toNat)).get (((lv0.get iv4.toNat).To).toNat)))) else ((zaO.get rv4.toNat).get (((lv0.get iv4.toNat).From).toNat)))]) (v:=(if (w64 ((lv0.get iv4.toNat).Length+((zaO.get ((w64 (rv4 - (1:Int))).toNat)).get (((lv0.get iv4.toNat).To).toNat)))) < ((zaO.get rv4.toNat).get (((lv0.get iv4.toNat).From).toNat)) then (w64 ((lv0.get iv4.toNat).Length+((zaO.get ((w64 (rv4 - (1:Int))).toNat)).get (((lv0.get iv4.toNat).To).toNat)))) else ((zaO.get rv4.toNat).get (((lv0.get iv4.toNat).From).toNat)))) zj2 rfl)))))))))))))))))))))))))) (λ hs hk=>(zc hs hk (λ hs hk=>(zaJ hs λ hc hs=>And.intro hc (zaJ hs λ hc hs=>And.intro hc (zaJ hs λ hc hs=>And.intro hc (zaJ hs λ hc hs=>And.intro hc (hX1 hs hk (znt (enc:=zah) (i:=0) (j:=end_a1.toNat) (k:=0) (f:=zaO.get) (new:=[.int .i64 (0:Int)]) (v:=(0:Int)) zj2 rfl))))))) (λ hs hk=>(hX1 hs hk zj2)))))) (λ hs hk=>(zc hs hk (λ hs hk=>(zaJ hs λ hc hs=>And.intro hc (zaJ hs λ hc hs=>And.intro hc (zaJ hs λ hc hs=>And.intro hc (zaJ hs λ hc hs=>And.intro hc (hX1 hs hk (znt (enc:=zah) (i:=0) (j:=end_a1.toNat) (k:=0) (f:=zaO.get) (new:=[.int .i64 (0:Int)]) (v:=(0:Int)) zj2 rfl))))))) (λ hs hk=>(hX1 hs hk zj2)))))))) _ hs hk zr1
def zjk (S1:Int->(Sl (Sl Int))->(Sl (Sl Int))) (n:Net) (end_a1:Int) (uses:Int) (least:Int) (lv0:(Sl Step)) (rv3:Int) (zpD:(Sl (Sl Int))):(Sl (Sl Int)) :=
  (zz1 S1 n end_a1 uses least lv0 rv3 (0:Int) zpD)
def zjl (P1:Int->(Sl (Sl Int))->Bool) (n:Net) (end_a1:Int) (uses:Int) (least:Int) (lv0:(Sl Step)) (rv3:Int) (zpD:(Sl (Sl Int))):Bool :=
  (zz2 P1 n end_a1 uses least lv0 rv3 (0:Int) zpD)
theorem zHt (hX1:zzX K n end_a1 uses least lv0 X1 P1 S1) (hs:zjl P1 n end_a1 uses least lv0 rv3 zpD=true) (hk:K (e90 (zjk S1 n end_a1 uses least lv0 rv3 zpD))) (zHu:VVE zah zzZ zz0 zpD.get):z90 K [1,1,1,0,1,0,0,1,0,0,1,1] [X1] ⟨[(1,zI end_a1),(2,zI uses),(3,zI least),(4,zp 4 0),(9,zS zbP 5 lv0),(10,zv 19),(11,zI rv3)],[(4,.box 24 (zm (enc_24 n))),(19,.vv 27 24 3 1 8 zpD.len zzZ zz0)],[]⟩:=by obtain⟨rfl,rfl⟩:=zHu;exact zaX (by kernel_rfl) (zHs hX1 hs hk zj2)
def zjm (S1:Int->(Sl (Sl Int))->(Sl (Sl Int))) (n:Net) (end_a1:Int) (uses:Int) (least:Int) (lv0:(Sl Step)) (S2:Int->Int->(Sl (Sl Int))->(Sl (Sl Int))) (rv2:Int) (iv2:Int) (zcU:(Sl (Sl Int))):(Sl (Sl Int)) :=
  (cond (decide (iv2 < n.Nodes))
 (S2 rv2 (w64 (iv2+(1:Int))) (⟨zcU.len,(zlm rv2.toNat iv2.toNat (1000000000000:Int) zcU.get)⟩:Sl (Sl Int)))
 (zjk S1 n end_a1 uses least lv0 rv2 zcU))
def zjn (P1:Int->(Sl (Sl Int))->Bool) (n:Net) (end_a1:Int) (uses:Int) (least:Int) (lv0:(Sl Step)) (P2:Int->Int->(Sl (Sl Int))->Bool) (rv2:Int) (iv2:Int) (zcU:(Sl (Sl Int))):Bool :=
  (cond (decide (iv2 < n.Nodes))
 (decide ((0≤rv2/\rv2 < (zcU.len:Int))) &&
 (decide ((rv2.toNat < zcU.len/\0 < (λ i=>(zcU.get i).len) rv2.toNat)) &&
 (decide ((rv2.toNat < zcU.len/\0≤iv2/\iv2 < (((λ i=>(zcU.get i).len) rv2.toNat:Nat):Int))) &&
 (decide ((rv2.toNat < zcU.len/\iv2.toNat < (λ i=>(zcU.get i).len) rv2.toNat)) &&
 (P2 rv2 (w64 (iv2+(1:Int))) (⟨zcU.len,(zlm rv2.toNat iv2.toNat (1000000000000:Int) zcU.get)⟩:Sl (Sl Int)))))))
 (zjl P1 n end_a1 uses least lv0 rv2 zcU))
def zhP (S1:Int->(Sl (Sl Int))->(Sl (Sl Int))) (n:Net) (end_a1:Int) (uses:Int) (least:Int) (lv0:(Sl Step)):Nat->Int->Int->(Sl (Sl Int))->(Sl (Sl Int)):=lpO (λ _ _ _=>default) (zjm S1 n end_a1 uses least lv0)
def zhQ (P1:Int->(Sl (Sl Int))->Bool) (n:Net) (end_a1:Int) (uses:Int) (least:Int) (lv0:(Sl Step)):Nat->Int->Int->(Sl (Sl Int))->Bool:=lpO (λ _ _ _=>false) (zjn P1 n end_a1 uses least lv0)
def zz3 (S1:Int->(Sl (Sl Int))->(Sl (Sl Int))) (n:Net) (end_a1:Int) (uses:Int) (least:Int) (lv0:(Sl Step)) (rv2:Int) (iv2:Int) (zcU:(Sl (Sl Int))):(Sl (Sl Int)):=zhP S1 n end_a1 uses least lv0 Fuel rv2 iv2 zcU
def zz4 (P1:Int->(Sl (Sl Int))->Bool) (n:Net) (end_a1:Int) (uses:Int) (least:Int) (lv0:(Sl Step)) (rv2:Int) (iv2:Int) (zcU:(Sl (Sl Int))):Bool:=zhQ P1 n end_a1 uses least lv0 Fuel rv2 iv2 zcU
theorem zHv (hX1:zzX K n end_a1 uses least lv0 X1 P1 S1) (hs:zz4 P1 n end_a1 uses least lv0 rv2 iv2 zcU=true) (hk:K (e90 (zz3 S1 n end_a1 uses least lv0 rv2 iv2 zcU))) (zr2:VVE zah zgI zgJ zcU.get):z90 K [1,1,1,0,1,0,0,1,0,0,1,0,1,0] [X1] (zDV n end_a1 uses least lv0 rv2 iv2 zcU zgI zgJ) :=
  zl (λ X=>z90 K [1,1,1,0,1,0,0,1,0,0,1,0,1,0,0] [X1,X]) (by kernel_rfl) λ X2 hX =>
  (show ∀ k, zKN K n end_a1 uses least lv0 X2 (zhQ P1 n end_a1 uses least lv0 k) (zhP S1 n end_a1 uses least lv0 k) from zeU _ _ (zjn P1 n end_a1 uses least lv0) (zjm S1 n end_a1 uses least lv0) (zKN K n end_a1 uses least lv0 X2)
 (by intro _ _ _ _ _ hs;exact absurd hs dqk)
 (by intro P2 S2 hX2 rv2 iv2 zcU zgI zgJ hs hk zr2;obtain⟨rfl,rfl⟩:=zr2;exact hX _ (zaX (by kernel_rfl) (zc hs hk (λ hs hk=>(zaJ hs λ hc hs=>And.intro hc (zaJ hs λ hc hs=>And.intro hc (zaJ hs λ hc hs=>And.intro hc (zaJ hs λ hc hs=>And.intro hc (hX2 hs hk (znt (enc:=zah) (i:=rv2.toNat) (j:=iv2.toNat) (k:=0) (f:=zcU.get) (new:=[.int .i64 (1000000000000:Int)]) (v:=(1000000000000:Int)) zj2 rfl))))))) (λ hs hk=>(zHt hX1 hs hk zj2)))))) _ hs hk zr2
def zjo (n:Net) (end_a1:Int) (uses:Int) (least:Int) (lv0:(Sl Step)) (S1:Int->(Sl (Sl Int))->(Sl (Sl Int))) (rv1:Int) (zdL:(Sl (Sl Int))):(Sl (Sl Int)) :=
  (cond (decide (rv1 ≤ uses))
 (zz3 S1 n end_a1 uses least lv0 rv1 (0:Int) (⟨zdL.len,(setT rv1.toNat (⟨n.Nodes.toNat,(λ _=>(0:Int))⟩:Sl Int) zdL.get)⟩:Sl (Sl Int)))
 zdL)
def zjq (n:Net) (end_a1:Int) (uses:Int) (least:Int) (lv0:(Sl Step)) (P1:Int->(Sl (Sl Int))->Bool) (rv1:Int) (zdL:(Sl (Sl Int))):Bool :=
  (cond (decide (rv1 ≤ uses))
 (decide ((0≤n.Nodes/\n.Nodes=n.Nodes/\n.Nodes≤1000000)) &&
 (decide ((0≤rv1/\rv1 < (zdL.len:Int))) &&
 (decide ((rv1.toNat < zdL.len/\(λ i=>(zdL.get i).len) rv1.toNat=0/\0 < n.Nodes.toNat)) &&
 (zz4 P1 n end_a1 uses least lv0 rv1 (0:Int) (⟨zdL.len,(setT rv1.toNat (⟨n.Nodes.toNat,(λ _=>(0:Int))⟩:Sl Int) zdL.get)⟩:Sl (Sl Int))))))
 true)
def zb9 (n:Net) (end_a1:Int) (uses:Int) (least:Int) (lv0:(Sl Step)):Nat->Int->(Sl (Sl Int))->(Sl (Sl Int)):=lpO (λ _ _=>default) (zjo n end_a1 uses least lv0)
def zca (n:Net) (end_a1:Int) (uses:Int) (least:Int) (lv0:(Sl Step)):Nat->Int->(Sl (Sl Int))->Bool:=lpO (λ _ _=>false) (zjq n end_a1 uses least lv0)
def zz5 (n:Net) (end_a1:Int) (uses:Int) (least:Int) (lv0:(Sl Step)) (rv1:Int) (zdL:(Sl (Sl Int))):(Sl (Sl Int)):=zb9 n end_a1 uses least lv0 Fuel rv1 zdL
def zz6 (n:Net) (end_a1:Int) (uses:Int) (least:Int) (lv0:(Sl Step)) (rv1:Int) (zdL:(Sl (Sl Int))):Bool:=zca n end_a1 uses least lv0 Fuel rv1 zdL
theorem zHw (hs:zz6 n end_a1 uses least lv0 rv1 zdL=true) (hk:K (e90 (zz5 n end_a1 uses least lv0 rv1 zdL))) (zr3:VVE zah zgG zgH zdL.get):z90 K [1,1,1,0,1,0] [] (zDU n end_a1 uses least lv0 rv1 zdL zgG zgH) :=
  zl (λ X=>z90 K [1,1,1,0,1,0,0] [X]) (by kernel_rfl) λ X1 hX =>
  (show ∀ k, zzX K n end_a1 uses least lv0 X1 (zca n end_a1 uses least lv0 k) (zb9 n end_a1 uses least lv0 k) from zeU _ _ (zjq n end_a1 uses least lv0) (zjo n end_a1 uses least lv0) (zzX K n end_a1 uses least lv0 X1)
 (by intro _ _ _ _ hs;exact absurd hs dqk)
 (by intro P1 S1 hX1 rv1 zdL zgG zgH hs hk zr3;obtain⟨rfl,rfl⟩:=zr3;exact hX _ (zaX (by kernel_rfl) (zc hs hk (λ hs hk=>(zaJ hs λ hc hs=>And.intro hc (zaJ hs λ hc hs=>And.intro hc (zaJ hs λ hc hs=>And.intro hc (zHv hX1 hs hk (zEN zj2 rfl)))))) (λ hs hk=>hk))))) _ hs hk zr3
def zr4 (n:Net) (end_a1:Int) (uses:Int) (least:Int) (lv0:(Sl Step)):(Sl (Sl Int)) :=
  (zz5 n end_a1 uses least lv0 (0:Int) (⟨(w64 (uses+(1:Int))).toNat,(λ _=>⟨0,λ _=>default⟩)⟩:Sl (Sl Int)))
def zr5 (n:Net) (end_a1:Int) (uses:Int) (least:Int) (lv0:(Sl Step)):Bool :=
  (decide ((0≤(w64 (uses+(1:Int)))/\(w64 (uses+(1:Int)))=(w64 (uses+(1:Int)))/\(w64 (uses+(1:Int)))≤1000000)) &&
 (zz6 n end_a1 uses least lv0 (0:Int) (⟨(w64 (uses+(1:Int))).toNat,(λ _=>⟨0,λ _=>default⟩)⟩:Sl (Sl Int))))
theorem zHx (hs:zr5 n end_a1 uses least lv0=true) (hk:K (e90 (zr4 n end_a1 uses least lv0))) (zHy:zzY=zg zbP lv0):z90 K [1,1] [] ⟨[(1,zI end_a1),(2,zI uses),(3,zI least),(4,zp 4 0),(9,zP (.sl lv0.len 5 zzY))],[(4,.box 24 (zm (enc_24 n)))],[]⟩:=by subst zHy;exact zaX (by kernel_rfl) (zaJ hs λ hc hs=>And.intro hc (zHw hs hk zLO))
def s90 (n:Net) (end_a1:Int) (uses:Int) (least:Int):(Sl (Sl Int)) :=
  (zr4 n end_a1 uses least (s77 n))
def p90 (n:Net) (end_a1:Int) (uses:Int) (least:Int):Bool :=
  (decide ((p77 n=true)) &&
 (zr5 n end_a1 uses least (s77 n)))
end
theorem q90 (n:Net) (end_a1:Int) (uses:Int) (least:Int) (K:List PA->Prop) (hs:p90 n end_a1 uses least=true) (hk:K (e90 (s90 n end_a1 uses least))):vcFun Tryd.prog G90 zHr 90 [.agg (enc_24 n),.one (.int .i64 end_a1),.one (.int .i64 uses),.one (.int .i64 least)] K :=
  zaX (by kernel_rfl) (zaJ hs λ hc hs=>And.intro (And.intro (zE enc_40 4 n.Ties.get) hc) (zHx hs hk rfl))
def zHz : List PA → COut
  | [.agg [.int .i64 zae,.sl zad zau zac],.one (.int .i64 a1),.one (.int .i64 a2),.one (.int .i64 a3)]=>.det (IsE enc_40 4 zau zac/\p90 (⟨zae,(⟨zad,zak zac⟩:(Sl Tie))⟩:Net) a1 a2 a3=true) [.one (.sl ((s90 (⟨zae,(⟨zad,zak zac⟩:(Sl Tie))⟩:Net) a1 a2 a3).len) 1 (λ i=>zbT ((s90 (⟨zae,(⟨zad,zak zac⟩:(Sl Tie))⟩:Net) a1 a2 a3).get i)))]
  | _=>.no
theorem zKP:zas Tryd.prog 90:=⟨_,rfl,rfl,by kernel_rfl⟩
theorem zOD:Ok Tryd.prog 90 zHz:=zbv zMW zKP λ args K h=>by
  unfold zHz at h
  split at h
  · rename_i zae zad zau zac a1 a2 a3
    obtain⟨⟨⟨rfl,zal,rfl⟩,hs⟩,hk⟩:=h
    try rw[zaj zal] at hs
    try rw[zaj zal] at hk
    exact⟨(λ _ _=>[]),(λ l=>Nat.beq l 19),zHr,q90 (⟨zae,(⟨zad,zal⟩:(Sl Tie))⟩:Net) a1 a2 a3 K hs hk⟩
  · exact h.elim
abbrev zND:Tabs:=Tabs.nil
theorem zKQ:TabsOk Tryd.prog zND:=TabsOk.nil
abbrev zOE:Ctrs:=csm zND (λ _ _=>[]) (λ _=>false)
def zDX:Ann:=⟨12,[(0,zK [1] [1]),(1,zK [1,4] [1]),(2,zK [2] []),(3,zK [2] [])],
 [],
 [],
 [],[]⟩
abbrev zOF:=Int
abbrev e109 (r:zOF):List PA:=[.one (.int .i64 r)]
section
variable {K:List PA->Prop}{u:Use}
def zIq (u:Use):Int :=
  (cond u.Back
 (w64 ((w64 ((2:Int) * u.Tie))+(1:Int)))
 (w64 ((2:Int) * u.Tie)))
end
theorem zOG (u:Use) (K:List PA->Prop) (hk:K (e109 (zIq u))):vcFun Tryd.prog zOE zDX 109 [.agg (enc_75 u)] K :=
  zaX (by kernel_rfl) (zt hk (λ hk=>hk) (λ hk=>hk))
def zz7 : List PA → COut
  | [.agg [.int .i64 zz8,.bool zr6]]=>.tot [.one (.int .i64 (zIq (⟨zz8,zr6⟩:Use)))]
  | _=>.no
theorem zHA:zas Tryd.prog 109:=⟨_,rfl,rfl,by kernel_rfl⟩
theorem zMX:Ok Tryd.prog 109 zz7:=zbv zKQ zHA λ args K h=>by
  unfold zz7 at h
  split at h
  · rename_i zz8 zr6
    have hk:=h
    exact⟨(λ _ _=>[]),(λ _=>false),zDX,zOG (⟨zz8,zr6⟩:Use) K hk⟩
  · exact h.elim
abbrev T91:Tabs:=(Tabs.nil.addF 109 zz7)
theorem zMY:TabsOk Tryd.prog T91:=(TabsOk.nil.addF zMX)
abbrev G91:Ctrs:=csm T91 (λ _ _=>[]) (λ _=>false)
def zCt:Ann:=⟨38,[(0,zK [0,1] []),(1,zK [0,1,5] []),(2,zK [0,1,5,15] []),(3,zK [0,1,5] []),(4,zK [0,1,5,26] []),(5,zK [4] []),(6,zK [4] [])],
 [(2,zK [0,1,5] [])],
 [],
 [],[]⟩
abbrev R91:=Bool
abbrev e91 (r:R91):List PA:=[.one (.bool r)]
@[irreducible] def z91:=ptF Tryd.prog G91 zCt Tryd.f91
def zDY (a:(Sl Use)) (b:(Sl Use)) (iv0:Int):St:=⟨[(0,zS enc_75 2 a),(1,zS enc_75 2 b),(5,zI iv0)],[],[]⟩
abbrev zKR (K:List PA->Prop) (a:(Sl Use)) (b:(Sl Use)) (X:St->Prop) (P:Int->Bool) (S:Int->Bool):Prop:=∀ ⦃iv0:Int⦄,P iv0=true->K (e91 (S iv0))->X (zDY a b iv0)
section
variable {K:List PA->Prop}{a:(Sl Use)}{b:(Sl Use)}{iv0:Int}{X0:St->Prop}{P0:Int->Bool}{S0:Int->Bool}
def zjr (a:(Sl Use)) (b:(Sl Use)) (S0:Int->Bool) (iv0:Int):Bool :=
  (cond (decide (iv0 < (a.len : Int)))
 (cond (decide (iv0 < (b.len : Int)))
 (cond (!(match ((a.get iv0.toNat).Tie == (b.get iv0.toNat).Tie) with | true => (match ((a.get iv0.toNat).Back == (b.get iv0.toNat).Back) with | true => true | false => false) | false => false))
 (decide ((zIq (a.get iv0.toNat)) < (zIq (b.get iv0.toNat))))
 (S0 (w64 (iv0+(1:Int)))))
 false)
 false)
def zjs (a:(Sl Use)) (b:(Sl Use)) (P0:Int->Bool) (iv0:Int):Bool :=
  (cond (decide (iv0 < (a.len : Int)))
 (cond (decide (iv0 < (b.len : Int)))
 (decide ((0≤iv0/\iv0 < (a.len:Int))) &&
 (decide ((0≤iv0/\iv0 < (b.len:Int))) &&
 (cond (!(match ((a.get iv0.toNat).Tie == (b.get iv0.toNat).Tie) with | true => (match ((a.get iv0.toNat).Back == (b.get iv0.toNat).Back) with | true => true | false => false) | false => false))
 (decide ((0≤iv0/\iv0 < (a.len:Int))) &&
 (decide ((0≤iv0/\iv0 < (b.len:Int))) &&
 true))
 (P0 (w64 (iv0+(1:Int)))))))
 true)
 true)
def zgO (a:(Sl Use)) (b:(Sl Use)):Nat->Int->Bool:=lpO (λ _=>default) (zjr a b)
def zgP (a:(Sl Use)) (b:(Sl Use)):Nat->Int->Bool:=lpO (λ _=>false) (zjs a b)
def zz9 (a:(Sl Use)) (b:(Sl Use)) (iv0:Int):Bool:=zgO a b Fuel iv0
def zAa (a:(Sl Use)) (b:(Sl Use)) (iv0:Int):Bool:=zgP a b Fuel iv0
theorem zHB (hs:zAa a b iv0=true) (hk:K (e91 (zz9 a b iv0))):z91 K [1,0,1,0] [] (zDY a b iv0) :=
  zl (λ X=>z91 K [1,0,1,0,0] [X]) (by kernel_rfl) λ X0 hX =>
  (show ∀ k, zKR K a b X0 (zgP a b k) (zgO a b k) from zeU _ _ (zjs a b) (zjr a b) (zKR K a b X0)
 (by intro _ hs;exact absurd hs dqk)
 (by intro P0 S0 hX0 iv0 hs hk;exact hX _ (zaX (by kernel_rfl) (zc hs hk (λ hs hk=>(zc hs hk (λ hs hk=>(zaJ hs λ hc hs=>And.intro hc (zaJ hs λ hc hs=>And.intro hc (zc hs hk (λ hs hk=>(zaJ hs λ hc hs=>And.intro hc (zaJ hs λ hc hs=>And.intro hc hk))) (λ hs hk=>(hX0 hs hk)))))) (λ hs hk=>hk))) (λ hs hk=>hk))))) _ hs hk
def s91 (a:(Sl Use)) (b:(Sl Use)):Bool :=
  (zz9 a b (0:Int))
def p91 (a:(Sl Use)) (b:(Sl Use)):Bool :=
  (zAa a b (0:Int))
end
theorem q91 (a:(Sl Use)) (b:(Sl Use)) (K:List PA->Prop) (hs:p91 a b=true) (hk:K (e91 (s91 a b))):vcFun Tryd.prog G91 zCt 91 [.one (.sl a.len 2 (λ i=>enc_75 (a.get i))),.one (.sl b.len 2 (λ i=>enc_75 (b.get i)))] K :=
  zaX (by kernel_rfl) (zHB hs hk)
def zHC : List PA → COut
  | [.one (.sl zfk zlu zfl),.one (.sl zeY zkn zeL)]=>.det (IsE enc_75 2 zlu zfl/\IsE enc_75 2 zkn zeL/\p91 (⟨zfk,zbk zfl⟩:(Sl Use)) (⟨zeY,zbk zeL⟩:(Sl Use))=true) [.one (.bool (s91 (⟨zfk,zbk zfl⟩:(Sl Use)) (⟨zeY,zbk zeL⟩:(Sl Use))))]
  | [.one (.nils),.one (.sl zeY zkn zeL)]=>.det (IsE enc_75 2 zkn zeL/\p91 (⟨0,λ _=>default⟩:(Sl Use)) (⟨zeY,zbk zeL⟩:(Sl Use))=true) [.one (.bool (s91 (⟨0,λ _=>default⟩:(Sl Use)) (⟨zeY,zbk zeL⟩:(Sl Use))))]
  | _=>.no
theorem zKS:zas Tryd.prog 91:=⟨_,rfl,rfl,by kernel_rfl⟩
theorem zOH:Ok Tryd.prog 91 zHC:=zgc zMY zKS λ args K h=>by
  unfold zHC at h
  split at h
  · rename_i zfk zlu zfl zeY zkn zeL
    obtain⟨⟨⟨rfl,zhH,rfl⟩,⟨rfl,zhI,rfl⟩,hs⟩,hk⟩:=h
    try rw[zaS zhH] at hs
    try rw[zaS zhH] at hk
    try rw[zaS zhI] at hs
    try rw[zaS zhI] at hk
    exact⟨_,zff zfg _,(λ _ _=>[]),(λ _=>false),zCt,q91 (⟨zfk,zhH⟩:(Sl Use)) (⟨zeY,zhI⟩:(Sl Use)) (Wk K) hs (zfh hk)⟩
  · rename_i zeY zkn zeL
    obtain⟨⟨⟨rfl,zhI,rfl⟩,hs⟩,hk⟩:=h
    try rw[zaS zhI] at hs
    try rw[zaS zhI] at hk
    exact⟨_,(zhq (.one (.nil _ _)) (zhq (zfg _) zmC)),(λ _ _=>[]),(λ _=>false),zCt,q91 (⟨0,λ _=>default⟩:(Sl Use)) (⟨zeY,zhI⟩:(Sl Use)) (Wk K) hs (zfh hk)⟩
  · exact h.elim
abbrev T52:Tabs:=(((Tabs.nil.addF 77 zzU).addF 90 zHz).addF 91 zHC)
theorem zMZ:TabsOk Tryd.prog T52:=(((TabsOk.nil.addF zMS).addF zOD).addF zOH)
abbrev G52:Ctrs:=csm T52 (λ _ _=>[]) (λ _=>false)
def zHD:Ann:=⟨121,[(0,zK [1] [1]),(1,zK [1,4] [1]),(2,zK [1,4,5] [1]),(3,zK [1,4,5,20] [1]),(4,zK [1,4,5] [1]),(5,zK [1,4,5,6] [1]),(6,zK [1,4,5,6,7] [1]),(7,zK [1,4,5,6,7,26] [1]),(8,zK [1,4,5,6,7] [1,101]),(9,zK [1,4,5,6,7,8] [1]),(10,zK [1,4,5,6,7,8,41] [1]),(11,zK [1,4,5,6,7,8,9] [1]),(12,zK [1,4,5,6,7,8,9,10,11] [1]),(13,zK [1,4,5,6,7,8,9,10,11,12] [1]),(14,zK [1,4,5,6,7,8,9,10,11,12,45] [1,101]),(15,zK [1,4,5,6,7,8,9,10,11,12] [1,101]),(16,zK [1,4,5,6,7,8,9,10,11,12,13] [1,101]),(17,zK [1,4,5,6,7,8,9,10,11,12,13,51] [1,101]),(18,zK [1,4,5,6,7,8,9,10,11,12,13] [1,101]),(19,zK [1,4,5,6,7,8,9,10,11,12,13,14] [1,14,101]),(20,zK [1,4,5,6,7,8,9,10,11,12,13,14,96] [1,14,101]),(21,zK [1,4,5,6,7,8,9,10,12,14] [1,14,101]),(22,zK [1,4,5,6,7,8,9,10,11,12] [1,101]),(23,zK [1,4,5,6,7,9,115] [1,101]),(24,zK [1,4,5,6,7] [1,101]),(25,zK [1,4,5,6,119] [1]),(26,zK [2,3] []),(27,zK [2,3] [])],
 [(3,zK [1,4,5] [1]),(7,⟨[1,4,5,6,7],[1],[],[],[],[],[(6,2,λ _=>enc_75 default)]⟩),(14,⟨[1,4,5,6,7,8,9,10,11,12],[1,101],[(9,101,75,λ _=>enc_75 default)],[],[],[],[]⟩),(17,zK [1,4,5,6,7,8,9,10,11,12,13] [1,101])],
 [(2,zK [1,4] [1]),(10,zK [1,4,5,6,7,8] [1]),(24,zK [1,4,5,6,7,9,115] [1,101])],
 [],[]⟩
abbrev R52:=((Sl Use)×Bool)
abbrev e52 (r:R52):List PA:=[.one (.sl r.1.len 2 (λ i=>enc_75 (r.1.get i))),.one (.bool r.2)]
@[irreducible] def z52:=ptF Tryd.prog G52 zHD Tryd.f52
def zDZ (n:Net) (lv0:(Sl Step)) (zc3:Int):St:=⟨[(1,zp 1 0),(4,zS zbP 5 lv0),(5,zI zc3)],[(1,.box 24 (zm (enc_24 n)))],[]⟩
abbrev zr7 (K:List PA->Prop) (n:Net) (lv0:(Sl Step)) (X:St->Prop) (P:Int->Bool) (S:Int->((Sl Use)×Bool)):Prop:=∀ ⦃zc3:Int⦄,P zc3=true->K (e52 (S zc3))->X (zDZ n lv0 zc3)
def zD0 (n:Net) (lv0:(Sl Step)) (zbg:Int) (zcw:(Sl Use)) (zbM:Int) (zeN:Nat->List PV):St:=⟨[(1,zp 1 0),(4,zS zbP 5 lv0),(5,zI zbg),(6,zP (.sl zcw.len 2 zeN)),(7,zI zbM)],[(1,.box 24 (zm (enc_24 n)))],[]⟩
abbrev zun (K:List PA->Prop) (n:Net) (lv0:(Sl Step)) (X:St->Prop) (P:Int->(Sl Use)->Int->Bool) (S:Int->(Sl Use)->Int->((Sl Use)×Bool)):Prop:=∀ ⦃zbg:Int⦄ ⦃zcw:(Sl Use)⦄ ⦃zbM:Int⦄ ⦃zeN:Nat->List PV⦄,P zbg zcw zbM=true->K (e52 (S zbg zcw zbM))->zeN=zg enc_75 zcw->X (zD0 n lv0 zbg zcw zbM zeN)
def zD1 (n:Net) (lv0:(Sl Step)) (zaD:(Sl (Sl Int))) (zbZ:Int) (zb0:(Sl Use)) (zb1:Int) (zaF:Int) (zdJ:Int) (zc4:Int) (zcd:(Sl Use)) (zeO:Nat->List PV) (zeP:Nat->List PV):St:=⟨[(1,zp 1 0),(4,zS zbP 5 lv0),(5,zI zbZ),(6,zP (.sl zb0.len 2 zeO)),(7,zI zb1),(8,zS zbT 1 zaD),(9,zv 101),(10,zI zaF),(11,zI zdJ),(12,zI zc4)],[(1,.box 24 (zm (enc_24 n))),(101,.vec 75 2 16 zcd.len zeP)],[]⟩
abbrev zHE (K:List PA->Prop) (n:Net) (lv0:(Sl Step)) (zaD:(Sl (Sl Int))) (X:St->Prop) (P:Int->(Sl Use)->Int->Int->Int->Int->(Sl Use)->Bool) (S:Int->(Sl Use)->Int->Int->Int->Int->(Sl Use)->((Sl Use)×Bool)):Prop:=∀ ⦃zbZ:Int⦄ ⦃zb0:(Sl Use)⦄ ⦃zb1:Int⦄ ⦃zaF:Int⦄ ⦃zdJ:Int⦄ ⦃zc4:Int⦄ ⦃zcd:(Sl Use)⦄ ⦃zeO:Nat->List PV⦄ ⦃zeP:Nat->List PV⦄,P zbZ zb0 zb1 zaF zdJ zc4 zcd=true->K (e52 (S zbZ zb0 zb1 zaF zdJ zc4 zcd))->zeO=zg enc_75 zb0->zeP=zg enc_75 zcd->X (zD1 n lv0 zaD zbZ zb0 zb1 zaF zdJ zc4 zcd zeO zeP)
def zD2 (n:Net) (lv0:(Sl Step)) (zaD:(Sl (Sl Int))) (zaZ:Int) (za1:(Sl Use)) (zbz:Int) (zaP:Int) (zfW:Int) (zbE:Int) (iv5:Int) (zbH:(Sl Use)) (zb7:Nat->List PV) (zeQ:Nat->List PV):St:=⟨[(1,zp 1 0),(4,zS zbP 5 lv0),(5,zI zaZ),(6,zP (.sl za1.len 2 zb7)),(7,zI zbz),(8,zS zbT 1 zaD),(9,zv 101),(10,zI zaP),(11,zI zfW),(12,zI zbE),(13,zI iv5)],[(1,.box 24 (zm (enc_24 n))),(101,.vec 75 2 16 zbH.len zeQ)],[]⟩
abbrev zKT (K:List PA->Prop) (n:Net) (lv0:(Sl Step)) (zaD:(Sl (Sl Int))) (X:St->Prop) (P:Int->(Sl Use)->Int->Int->Int->Int->Int->(Sl Use)->Bool) (S:Int->(Sl Use)->Int->Int->Int->Int->Int->(Sl Use)->((Sl Use)×Bool)):Prop:=∀ ⦃zaZ:Int⦄ ⦃za1:(Sl Use)⦄ ⦃zbz:Int⦄ ⦃zaP:Int⦄ ⦃zfW:Int⦄ ⦃zbE:Int⦄ ⦃iv5:Int⦄ ⦃zbH:(Sl Use)⦄ ⦃zb7:Nat->List PV⦄ ⦃zeQ:Nat->List PV⦄,P zaZ za1 zbz zaP zfW zbE iv5 zbH=true->K (e52 (S zaZ za1 zbz zaP zfW zbE iv5 zbH))->zb7=zg enc_75 za1->zeQ=zg enc_75 zbH->X (zD2 n lv0 zaD zaZ za1 zbz zaP zfW zbE iv5 zbH zb7 zeQ)
section
variable {K:List PA->Prop}{n:Net}{lv0:(Sl Step)}{zzY:Nat->List PV}{zc3:Int}{X1:St->Prop}{P1:Int->Bool}{S1:Int->((Sl Use)×Bool)}{zbg:Int}{zcw:(Sl Use)}{zbM:Int}{zeN:Nat->List PV}{X2:St->Prop}{P2:Int->(Sl Use)->Int->Bool}{S2:Int->(Sl Use)->Int->((Sl Use)×Bool)}{zbo:Int}{zht:(Sl Use)}{zc0:Int}{zaD:(Sl (Sl Int))}{ztr:Nat->List PV}{zpE:Nat->List PV}{zbZ:Int}{zb0:(Sl Use)}{zb1:Int}{zaF:Int}{zdJ:Int}{zc4:Int}{zcd:(Sl Use)}{zeO:Nat->List PV}{zeP:Nat->List PV}{X4:St->Prop}{P4:Int->(Sl Use)->Int->Int->Int->Int->(Sl Use)->Bool}{S4:Int->(Sl Use)->Int->Int->Int->Int->(Sl Use)->((Sl Use)×Bool)}{zaZ:Int}{za1:(Sl Use)}{zbz:Int}{zaP:Int}{zfW:Int}{zbE:Int}{iv5:Int}{zbH:(Sl Use)}{zb7:Nat->List PV}{zeQ:Nat->List PV}{X5:St->Prop}{P5:Int->(Sl Use)->Int->Int->Int->Int->Int->(Sl Use)->Bool}{S5:Int->(Sl Use)->Int->Int->Int->Int->Int->(Sl Use)->((Sl Use)×Bool)}{zbU:Int}{zbD:(Sl Use)}{zfM:Int}{zlN:Bool}{zjV:(Sl Use)}{zdd:Nat->List PV}{zts:Nat->List PV}
def zjt (S1:Int->((Sl Use)×Bool)) (S2:Int->(Sl Use)->Int->((Sl Use)×Bool)) (n:Net) (lv0:(Sl Step)) (zbU:Int) (zbD:(Sl Use)) (zfM:Int) (zlN:Bool) (zjV:(Sl Use)):((Sl Use)×Bool) :=
  (cond zlN
 (S2 zbU zjV (w64 (zfM+(1:Int))))
 (S2 zbU zbD (w64 (zfM+(1:Int)))))
def zju (P1:Int->Bool) (P2:Int->(Sl Use)->Int->Bool) (n:Net) (lv0:(Sl Step)) (zbU:Int) (zbD:(Sl Use)) (zfM:Int) (zlN:Bool) (zjV:(Sl Use)):Bool :=
  (cond zlN
 (P2 zbU zjV (w64 (zfM+(1:Int))))
 (P2 zbU zbD (w64 (zfM+(1:Int)))))
theorem zAb (hX1:zr7 K n lv0 X1 P1 S1) (hX2:zun K n lv0 X2 P2 S2) (hs:zju P1 P2 n lv0 zbU zbD zfM zlN zjV=true) (hk:K (e52 (zjt S1 S2 n lv0 zbU zbD zfM zlN zjV))) (zis:zdd=zg enc_75 zbD) (zCu:zts=zg enc_75 zjV):z52 (Wk K) [1,1,0,1,0,0,1,0,0,1,0,1,0,0,1,0,0,1,1,1,1,1,1] [X1,X2] ⟨[(1,zp 1 0),(4,zS zbP 5 lv0),(5,zI zbU),(6,zP (.sl zbD.len 2 zdd)),(7,zI zfM),(9,zv 101),(115,zB zlN)],[(1,.box 24 (zm (enc_24 n))),(101,.vec 75 2 16 zjV.len zts)],[]⟩:=by subst zis;subst zCu;exact zaX (by kernel_rfl) (zc hs hk (λ hs hk=>(hX2 hs hk rfl)) (λ hs hk=>(hX2 hs hk rfl)))
def zoc (S1:Int->((Sl Use)×Bool)) (S2:Int->(Sl Use)->Int->((Sl Use)×Bool)) (S4:Int->(Sl Use)->Int->Int->Int->Int->(Sl Use)->((Sl Use)×Bool)) (n:Net) (lv0:(Sl Step)) (zaD:(Sl (Sl Int))) (S5:Int->(Sl Use)->Int->Int->Int->Int->Int->(Sl Use)->((Sl Use)×Bool)) (zaZ:Int) (za1:(Sl Use)) (zbz:Int) (zaP:Int) (zfW:Int) (zbE:Int) (iv5:Int) (zbH:(Sl Use)):((Sl Use)×Bool) :=
  (cond (decide (iv5 < (lv0.len : Int)))
 (cond ((lv0.get iv5.toNat).From == zfW)
 (cond (decide ((lv0.get iv5.toNat).To ≥ zbz))
 (cond (((zaD.get ((w64 (zbE - (1:Int))).toNat)).get (((lv0.get iv5.toNat).To).toNat)) != (1000000000000:Int))
 (cond (decide ((w64 ((w64 (zaP + (lv0.get iv5.toNat).Length)) + ((zaD.get ((w64 (zbE - (1:Int))).toNat)).get (((lv0.get iv5.toNat).To).toNat)))) < (0:Int)))
 (S4 zaZ za1 zbz (w64 (zaP+(lv0.get iv5.toNat).Length)) ((lv0.get iv5.toNat).To) (w64 (zbE - (1:Int))) (⟨(zbH.len+1),(zdb zbH.len zbH.get (λ _=>(lv0.get iv5.toNat).Use))⟩:Sl Use))
 (S5 zaZ za1 zbz zaP zfW zbE (w64 (iv5+(1:Int))) zbH))
 (S5 zaZ za1 zbz zaP zfW zbE (w64 (iv5+(1:Int))) zbH))
 (S5 zaZ za1 zbz zaP zfW zbE (w64 (iv5+(1:Int))) zbH))
 (S5 zaZ za1 zbz zaP zfW zbE (w64 (iv5+(1:Int))) zbH))
 (S4 zaZ za1 zbz zaP zfW (w64 (zbE - (1:Int))) zbH))
def zod (P1:Int->Bool) (P2:Int->(Sl Use)->Int->Bool) (P4:Int->(Sl Use)->Int->Int->Int->Int->(Sl Use)->Bool) (n:Net) (lv0:(Sl Step)) (zaD:(Sl (Sl Int))) (P5:Int->(Sl Use)->Int->Int->Int->Int->Int->(Sl Use)->Bool) (zaZ:Int) (za1:(Sl Use)) (zbz:Int) (zaP:Int) (zfW:Int) (zbE:Int) (iv5:Int) (zbH:(Sl Use)):Bool :=
  (cond (decide (iv5 < (lv0.len : Int)))
 (decide ((0≤iv5/\iv5 < (lv0.len:Int))) &&
 (cond ((lv0.get iv5.toNat).From == zfW)
 (cond (decide ((lv0.get iv5.toNat).To ≥ zbz))
 (decide ((0≤(w64 (zbE - (1:Int)))/\(w64 (zbE - (1:Int))) < (zaD.len:Int))) &&
 (decide ((0≤(lv0.get iv5.toNat).To/\(lv0.get iv5.toNat).To < ((zaD.get ((w64 (zbE - (1:Int))).toNat)).len:Int))) &&
 (cond (((zaD.get ((w64 (zbE - (1:Int))).toNat)).get (((lv0.get iv5.toNat).To).toNat)) != (1000000000000:Int))
 (decide ((0≤(w64 (zbE - (1:Int)))/\(w64 (zbE - (1:Int))) < (zaD.len:Int))) &&
 (decide ((0≤(lv0.get iv5.toNat).To/\(lv0.get iv5.toNat).To < ((zaD.get ((w64 (zbE - (1:Int))).toNat)).len:Int))) &&
 (cond (decide ((w64 ((w64 (zaP + (lv0.get iv5.toNat).Length)) + ((zaD.get ((w64 (zbE - (1:Int))).toNat)).get (((lv0.get iv5.toNat).To).toNat)))) < (0:Int)))
 (decide (((zbH.len+1) * 16≤140737488355328/\zbH.len+1≤9223372036854775807)) &&
 (P4 zaZ za1 zbz (w64 (zaP+(lv0.get iv5.toNat).Length)) ((lv0.get iv5.toNat).To) (w64 (zbE - (1:Int))) (⟨(zbH.len+1),(zdb zbH.len zbH.get (λ _=>(lv0.get iv5.toNat).Use))⟩:Sl Use)))
 (P5 zaZ za1 zbz zaP zfW zbE (w64 (iv5+(1:Int))) zbH))))
 (P5 zaZ za1 zbz zaP zfW zbE (w64 (iv5+(1:Int))) zbH))))
 (P5 zaZ za1 zbz zaP zfW zbE (w64 (iv5+(1:Int))) zbH))
 (P5 zaZ za1 zbz zaP zfW zbE (w64 (iv5+(1:Int))) zbH)))
 (P4 zaZ za1 zbz zaP zfW (w64 (zbE - (1:Int))) zbH))
def zdp (S1:Int->((Sl Use)×Bool)) (S2:Int->(Sl Use)->Int->((Sl Use)×Bool)) (S4:Int->(Sl Use)->Int->Int->Int->Int->(Sl Use)->((Sl Use)×Bool)) (n:Net) (lv0:(Sl Step)) (zaD:(Sl (Sl Int))):Nat->Int->(Sl Use)->Int->Int->Int->Int->Int->(Sl Use)->((Sl Use)×Bool):=lpO (λ _ _ _ _ _ _ _ _=>default) (zoc S1 S2 S4 n lv0 zaD)
def zdq (P1:Int->Bool) (P2:Int->(Sl Use)->Int->Bool) (P4:Int->(Sl Use)->Int->Int->Int->Int->(Sl Use)->Bool) (n:Net) (lv0:(Sl Step)) (zaD:(Sl (Sl Int))):Nat->Int->(Sl Use)->Int->Int->Int->Int->Int->(Sl Use)->Bool:=lpO (λ _ _ _ _ _ _ _ _=>false) (zod P1 P2 P4 n lv0 zaD)
def zAc (S1:Int->((Sl Use)×Bool)) (S2:Int->(Sl Use)->Int->((Sl Use)×Bool)) (S4:Int->(Sl Use)->Int->Int->Int->Int->(Sl Use)->((Sl Use)×Bool)) (n:Net) (lv0:(Sl Step)) (zaD:(Sl (Sl Int))) (zaZ:Int) (za1:(Sl Use)) (zbz:Int) (zaP:Int) (zfW:Int) (zbE:Int) (iv5:Int) (zbH:(Sl Use)):((Sl Use)×Bool):=zdp S1 S2 S4 n lv0 zaD Fuel zaZ za1 zbz zaP zfW zbE iv5 zbH
def zAd (P1:Int->Bool) (P2:Int->(Sl Use)->Int->Bool) (P4:Int->(Sl Use)->Int->Int->Int->Int->(Sl Use)->Bool) (n:Net) (lv0:(Sl Step)) (zaD:(Sl (Sl Int))) (zaZ:Int) (za1:(Sl Use)) (zbz:Int) (zaP:Int) (zfW:Int) (zbE:Int) (iv5:Int) (zbH:(Sl Use)):Bool:=zdq P1 P2 P4 n lv0 zaD Fuel zaZ za1 zbz zaP zfW zbE iv5 zbH
theorem zHF (hX1:zr7 K n lv0 X1 P1 S1) (hX2:zun K n lv0 X2 P2 S2) (hX4:zHE K n lv0 zaD X4 P4 S4) (hs:zAd P1 P2 P4 n lv0 zaD zaZ za1 zbz zaP zfW zbE iv5 zbH=true) (hk:K (e52 (zAc S1 S2 S4 n lv0 zaD zaZ za1 zbz zaP zfW zbE iv5 zbH))) (zfH:zb7=zg enc_75 za1) (zoe:zeQ=zg enc_75 zbH):z52 (Wk K) [1,1,0,1,0,0,1,0,0,1,0,1,0,0,1,0,0,1,1,1,1,0,1,0,0,1,0,0,1,0] [X1,X2,X4] (zD2 n lv0 zaD zaZ za1 zbz zaP zfW zbE iv5 zbH zb7 zeQ) :=
  zl (λ X=>z52 (Wk K) [1,1,0,1,0,0,1,0,0,1,0,1,0,0,1,0,0,1,1,1,1,0,1,0,0,1,0,0,1,0,0] [X1,X2,X4,X]) (by kernel_rfl) λ X5 hX =>
  (show ∀ k, zKT K n lv0 zaD X5 (zdq P1 P2 P4 n lv0 zaD k) (zdp S1 S2 S4 n lv0 zaD k) from zeU _ _ (zod P1 P2 P4 n lv0 zaD) (zoc S1 S2 S4 n lv0 zaD) (zKT K n lv0 zaD X5)
 (by intro _ _ _ _ _ _ _ _ _ _ hs;exact absurd hs dqk)
 (by intro P5 S5 hX5 zaZ za1 zbz zaP zfW zbE iv5 zbH zb7 zeQ hs hk zfH zoe;subst zfH;subst zoe;exact hX _ (zaX (by kernel_rfl) (zc hs hk (λ hs hk=>(zaJ hs λ hc hs=>And.intro hc (zc hs hk (λ hs hk=>(zc hs hk (λ hs hk=>(zaJ hs λ hc hs=>And.intro hc (zaJ hs λ hc hs=>And.intro hc (zc hs hk (λ hs hk=>(zaJ hs λ hc hs=>And.intro hc (zaJ hs λ hc hs=>And.intro hc (zc hs hk (λ hs hk=>(zaJ hs λ hc hs=>And.intro hc (hX4 hs hk rfl (zjJ (enc:=enc_75) (f:=zbH.get) (h:=(λ _=>(lv0.get iv5.toNat).Use)) rfl rfl)))) (λ hs hk=>(hX5 hs hk rfl rfl)))))) (λ hs hk=>(hX5 hs hk rfl rfl)))))) (λ hs hk=>(hX5 hs hk rfl rfl)))) (λ hs hk=>(hX5 hs hk rfl rfl))))) (λ hs hk=>(hX4 hs hk rfl rfl)))))) _ hs hk zfH zoe
def zjv (S1:Int->((Sl Use)×Bool)) (S2:Int->(Sl Use)->Int->((Sl Use)×Bool)) (n:Net) (lv0:(Sl Step)) (zaD:(Sl (Sl Int))) (S4:Int->(Sl Use)->Int->Int->Int->Int->(Sl Use)->((Sl Use)×Bool)) (zbZ:Int) (zb0:(Sl Use)) (zb1:Int) (zaF:Int) (zdJ:Int) (zc4:Int) (zcd:(Sl Use)):((Sl Use)×Bool) :=
  (cond (decide (zc4 > (0:Int)))
 (zAc S1 S2 S4 n lv0 zaD zbZ zb0 zb1 zaF zdJ zc4 (0:Int) zcd)
 (cond ((zb0.len : Int) == (0:Int))
 (zjt S1 S2 n lv0 zbZ zb0 zb1 true zcd)
 (zjt S1 S2 n lv0 zbZ zb0 zb1 (s91 zcd zb0) zcd)))
def zjw (P1:Int->Bool) (P2:Int->(Sl Use)->Int->Bool) (n:Net) (lv0:(Sl Step)) (zaD:(Sl (Sl Int))) (P4:Int->(Sl Use)->Int->Int->Int->Int->(Sl Use)->Bool) (zbZ:Int) (zb0:(Sl Use)) (zb1:Int) (zaF:Int) (zdJ:Int) (zc4:Int) (zcd:(Sl Use)):Bool :=
  (cond (decide (zc4 > (0:Int)))
 (zAd P1 P2 P4 n lv0 zaD zbZ zb0 zb1 zaF zdJ zc4 (0:Int) zcd)
 (cond ((zb0.len : Int) == (0:Int))
 (zju P1 P2 n lv0 zbZ zb0 zb1 true zcd)
 (decide ((p91 zcd zb0=true)) &&
 (zju P1 P2 n lv0 zbZ zb0 zb1 (s91 zcd zb0) zcd))))
def zfN (S1:Int->((Sl Use)×Bool)) (S2:Int->(Sl Use)->Int->((Sl Use)×Bool)) (n:Net) (lv0:(Sl Step)) (zaD:(Sl (Sl Int))):Nat->Int->(Sl Use)->Int->Int->Int->Int->(Sl Use)->((Sl Use)×Bool):=lpO (λ _ _ _ _ _ _ _=>default) (zjv S1 S2 n lv0 zaD)
def zfO (P1:Int->Bool) (P2:Int->(Sl Use)->Int->Bool) (n:Net) (lv0:(Sl Step)) (zaD:(Sl (Sl Int))):Nat->Int->(Sl Use)->Int->Int->Int->Int->(Sl Use)->Bool:=lpO (λ _ _ _ _ _ _ _=>false) (zjw P1 P2 n lv0 zaD)
def zr8 (S1:Int->((Sl Use)×Bool)) (S2:Int->(Sl Use)->Int->((Sl Use)×Bool)) (n:Net) (lv0:(Sl Step)) (zaD:(Sl (Sl Int))) (zbZ:Int) (zb0:(Sl Use)) (zb1:Int) (zaF:Int) (zdJ:Int) (zc4:Int) (zcd:(Sl Use)):((Sl Use)×Bool):=zfN S1 S2 n lv0 zaD Fuel zbZ zb0 zb1 zaF zdJ zc4 zcd
def zr9 (P1:Int->Bool) (P2:Int->(Sl Use)->Int->Bool) (n:Net) (lv0:(Sl Step)) (zaD:(Sl (Sl Int))) (zbZ:Int) (zb0:(Sl Use)) (zb1:Int) (zaF:Int) (zdJ:Int) (zc4:Int) (zcd:(Sl Use)):Bool:=zfO P1 P2 n lv0 zaD Fuel zbZ zb0 zb1 zaF zdJ zc4 zcd
theorem zHG (hX1:zr7 K n lv0 X1 P1 S1) (hX2:zun K n lv0 X2 P2 S2) (hs:zr9 P1 P2 n lv0 zaD zbZ zb0 zb1 zaF zdJ zc4 zcd=true) (hk:K (e52 (zr8 S1 S2 n lv0 zaD zbZ zb0 zb1 zaF zdJ zc4 zcd))) (zof:zeO=zg enc_75 zb0) (zog:zeP=zg enc_75 zcd):z52 (Wk K) [1,1,0,1,0,0,1,0,0,1,0,1,0,0,1,0,0,1,1,1,1,0,1,0] [X1,X2] (zD1 n lv0 zaD zbZ zb0 zb1 zaF zdJ zc4 zcd zeO zeP) :=
  zl (λ X=>z52 (Wk K) [1,1,0,1,0,0,1,0,0,1,0,1,0,0,1,0,0,1,1,1,1,0,1,0,0] [X1,X2,X]) (by kernel_rfl) λ X4 hX =>
  (show ∀ k, zHE K n lv0 zaD X4 (zfO P1 P2 n lv0 zaD k) (zfN S1 S2 n lv0 zaD k) from zeU _ _ (zjw P1 P2 n lv0 zaD) (zjv S1 S2 n lv0 zaD) (zHE K n lv0 zaD X4)
 (by intro _ _ _ _ _ _ _ _ _ hs;exact absurd hs dqk)
 (by intro P4 S4 hX4 zbZ zb0 zb1 zaF zdJ zc4 zcd zeO zeP hs hk zof zog;subst zof;subst zog;exact hX _ (zaX (by kernel_rfl) (zc hs hk (λ hs hk=>(zHF hX1 hX2 hX4 hs hk rfl rfl)) (λ hs hk=>(zc hs hk (λ hs hk=>(zAb hX1 hX2 hs hk rfl rfl)) (λ hs hk=>(zaJ hs λ hc hs=>And.intro (And.intro (zE enc_75 2 zcd.get) (And.intro (zE enc_75 2 zb0.get) hc)) (zAb hX1 hX2 hs hk rfl rfl))))))))) _ hs hk zof zog
def zsa (S1:Int->((Sl Use)×Bool)) (S2:Int->(Sl Use)->Int->((Sl Use)×Bool)) (n:Net) (lv0:(Sl Step)) (zbo:Int) (zht:(Sl Use)) (zc0:Int) (zaD:(Sl (Sl Int))):((Sl Use)×Bool) :=
  (cond (decide (((zaD.get zbo.toNat).get zc0.toNat) ≥ (0:Int)))
 (S2 zbo zht (w64 (zc0+(1:Int))))
 (zr8 S1 S2 n lv0 zaD zbo zht zc0 (0:Int) zc0 zbo (⟨0,(λ _=>default)⟩:Sl Use)))
def zsb (P1:Int->Bool) (P2:Int->(Sl Use)->Int->Bool) (n:Net) (lv0:(Sl Step)) (zbo:Int) (zht:(Sl Use)) (zc0:Int) (zaD:(Sl (Sl Int))):Bool :=
  (decide ((0≤zbo/\zbo < (zaD.len:Int))) &&
 (decide ((0≤zc0/\zc0 < ((zaD.get zbo.toNat).len:Int))) &&
 (cond (decide (((zaD.get zbo.toNat).get zc0.toNat) ≥ (0:Int)))
 (P2 zbo zht (w64 (zc0+(1:Int))))
 (zr9 P1 P2 n lv0 zaD zbo zht zc0 (0:Int) zc0 zbo (⟨0,(λ _=>default)⟩:Sl Use)))))
theorem zHH (hX1:zr7 K n lv0 X1 P1 S1) (hX2:zun K n lv0 X2 P2 S2) (hs:zsb P1 P2 n lv0 zbo zht zc0 zaD=true) (hk:K (e52 (zsa S1 S2 n lv0 zbo zht zc0 zaD))) (zCv:ztr=zg enc_75 zht) (zAe:zpE=zg zbT zaD):z52 (Wk K) [1,1,0,1,0,0,1,0,0,1,0,1,0,0,1,0,0,1] [X1,X2] ⟨[(1,zp 1 0),(4,zS zbP 5 lv0),(5,zI zbo),(6,zP (.sl zht.len 2 ztr)),(7,zI zc0),(8,zP (.sl zaD.len 1 zpE))],[(1,.box 24 (zm (enc_24 n)))],[]⟩:=by subst zCv;subst zAe;exact zaX (by kernel_rfl) (zaJ hs λ hc hs=>And.intro hc (zaJ hs λ hc hs=>And.intro hc (zc hs hk (λ hs hk=>(hX2 hs hk rfl)) (λ hs hk=>(zHG hX1 hX2 hs hk rfl rfl)))))
def zjx (S1:Int->((Sl Use)×Bool)) (n:Net) (lv0:(Sl Step)) (S2:Int->(Sl Use)->Int->((Sl Use)×Bool)) (zbg:Int) (zcw:(Sl Use)) (zbM:Int):((Sl Use)×Bool) :=
  (cond (decide (zbM < n.Nodes))
 (zsa S1 S2 n lv0 zbg zcw zbM (s90 n zbM zbg zbM))
 (cond (decide ((zcw.len : Int) > (0:Int)))
 (zcw,true)
 (S1 (w64 (zbg+(1:Int))))))
def zjy (P1:Int->Bool) (n:Net) (lv0:(Sl Step)) (P2:Int->(Sl Use)->Int->Bool) (zbg:Int) (zcw:(Sl Use)) (zbM:Int):Bool :=
  (cond (decide (zbM < n.Nodes))
 (decide ((p90 n zbM zbg zbM=true)) &&
 (zsb P1 P2 n lv0 zbg zcw zbM (s90 n zbM zbg zbM)))
 (cond (decide ((zcw.len : Int) > (0:Int)))
 true
 (P1 (w64 (zbg+(1:Int))))))
def zdT (S1:Int->((Sl Use)×Bool)) (n:Net) (lv0:(Sl Step)):Nat->Int->(Sl Use)->Int->((Sl Use)×Bool):=lpO (λ _ _ _=>default) (zjx S1 n lv0)
def zdU (P1:Int->Bool) (n:Net) (lv0:(Sl Step)):Nat->Int->(Sl Use)->Int->Bool:=lpO (λ _ _ _=>false) (zjy P1 n lv0)
def zAf (S1:Int->((Sl Use)×Bool)) (n:Net) (lv0:(Sl Step)) (zbg:Int) (zcw:(Sl Use)) (zbM:Int):((Sl Use)×Bool):=zdT S1 n lv0 Fuel zbg zcw zbM
def zAg (P1:Int->Bool) (n:Net) (lv0:(Sl Step)) (zbg:Int) (zcw:(Sl Use)) (zbM:Int):Bool:=zdU P1 n lv0 Fuel zbg zcw zbM
theorem zHI (hX1:zr7 K n lv0 X1 P1 S1) (hs:zAg P1 n lv0 zbg zcw zbM=true) (hk:K (e52 (zAf S1 n lv0 zbg zcw zbM))) (zoh:zeN=zg enc_75 zcw):z52 (Wk K) [1,1,0,1,0,0,1,0,0,1,0,1,0] [X1] (zD0 n lv0 zbg zcw zbM zeN) :=
  zl (λ X=>z52 (Wk K) [1,1,0,1,0,0,1,0,0,1,0,1,0,0] [X1,X]) (by kernel_rfl) λ X2 hX =>
  (show ∀ k, zun K n lv0 X2 (zdU P1 n lv0 k) (zdT S1 n lv0 k) from zeU _ _ (zjy P1 n lv0) (zjx S1 n lv0) (zun K n lv0 X2)
 (by intro _ _ _ _ hs;exact absurd hs dqk)
 (by intro P2 S2 hX2 zbg zcw zbM zeN hs hk zoh;subst zoh;exact hX _ (zaX (by kernel_rfl) (zc hs hk (λ hs hk=>(zaJ hs λ hc hs=>And.intro (And.intro (zE enc_40 4 n.Ties.get) hc) (zHH hX1 hX2 hs hk rfl rfl))) (λ hs hk=>(zc hs hk (λ hs hk=>((zfh hk):Wk K [.one (.sl zcw.len 2 (λ i=>enc_75 (zcw.get i))),.one (.bool true)])) (λ hs hk=>(hX1 hs hk)))))))) _ hs hk zoh
def zjz (n:Net) (lv0:(Sl Step)) (S1:Int->((Sl Use)×Bool)) (zc3:Int):((Sl Use)×Bool) :=
  (cond (decide (zc3 ≤ n.Nodes))
 (zAf S1 n lv0 zc3 (⟨0,(λ _=>default)⟩:Sl Use) (0:Int))
 ((⟨0,λ _=>default⟩:(Sl Use)),false))
def zjA (n:Net) (lv0:(Sl Step)) (P1:Int->Bool) (zc3:Int):Bool :=
  (cond (decide (zc3 ≤ n.Nodes))
 (zAg P1 n lv0 zc3 (⟨0,(λ _=>default)⟩:Sl Use) (0:Int))
 true)
def ze6 (n:Net) (lv0:(Sl Step)):Nat->Int->((Sl Use)×Bool):=lpO (λ _=>default) (zjz n lv0)
def zfP (n:Net) (lv0:(Sl Step)):Nat->Int->Bool:=lpO (λ _=>false) (zjA n lv0)
def zAh (n:Net) (lv0:(Sl Step)) (zc3:Int):((Sl Use)×Bool):=ze6 n lv0 Fuel zc3
def zAi (n:Net) (lv0:(Sl Step)) (zc3:Int):Bool:=zfP n lv0 Fuel zc3
theorem zHJ (hs:zAi n lv0 zc3=true) (hk:K (e52 (zAh n lv0 zc3))):z52 (Wk K) [1,1,0,1,0] [] (zDZ n lv0 zc3) :=
  zl (λ X=>z52 (Wk K) [1,1,0,1,0,0] [X]) (by kernel_rfl) λ X1 hX =>
  (show ∀ k, zr7 K n lv0 X1 (zfP n lv0 k) (ze6 n lv0 k) from zeU _ _ (zjA n lv0) (zjz n lv0) (zr7 K n lv0 X1)
 (by intro _ hs;exact absurd hs dqk)
 (by intro P1 S1 hX1 zc3 hs hk;exact hX _ (zaX (by kernel_rfl) (zc hs hk (λ hs hk=>(zHI hX1 hs hk rfl)) (λ hs hk=>((wk hk (zhq (.one (.nil _ _)) (zhq (.one (.rfl _)) zmC))):Wk K [.one (.nils),.one (.bool false)])))))) _ hs hk
def zAj (n:Net) (lv0:(Sl Step)):((Sl Use)×Bool) :=
  (zAh n lv0 (1:Int))
def zAk (n:Net) (lv0:(Sl Step)):Bool :=
  (zAi n lv0 (1:Int))
theorem zHK (hs:zAk n lv0=true) (hk:K (e52 (zAj n lv0))) (zHy:zzY=zg zbP lv0):z52 (Wk K) [1,1] [] ⟨[(1,zp 1 0),(4,zP (.sl lv0.len 5 zzY))],[(1,.box 24 (zm (enc_24 n)))],[]⟩:=by subst zHy;exact zaX (by kernel_rfl) (zHJ hs hk)
def s52 (n:Net):((Sl Use)×Bool) :=
  (zAj n (s77 n))
def p52 (n:Net):Bool :=
  (decide ((p77 n=true)) &&
 (zAk n (s77 n)))
end
theorem q52 (n:Net) (K:List PA->Prop) (hs:p52 n=true) (hk:K (e52 (s52 n))):vcFun Tryd.prog G52 zHD 52 [.agg (enc_24 n)] (Wk K) :=
  zaX (by kernel_rfl) (zaJ hs λ hc hs=>And.intro (And.intro (zE enc_40 4 n.Ties.get) hc) (zHK hs hk rfl))
def zHL : List PA → COut
  | [.agg [.int .i64 zae,.sl zad zau zac]]=>.det (IsE enc_40 4 zau zac/\p52 (⟨zae,(⟨zad,zak zac⟩:(Sl Tie))⟩:Net)=true) [.one (.sl (((s52 (⟨zae,(⟨zad,zak zac⟩:(Sl Tie))⟩:Net)).1).len) 2 (λ i=>enc_75 (((s52 (⟨zae,(⟨zad,zak zac⟩:(Sl Tie))⟩:Net)).1).get i))),.one (.bool ((s52 (⟨zae,(⟨zad,zak zac⟩:(Sl Tie))⟩:Net)).2))]
  | _=>.no
theorem zKU:zas Tryd.prog 52:=⟨_,rfl,rfl,by kernel_rfl⟩
theorem zOI:Ok Tryd.prog 52 zHL:=zgc zMZ zKU λ args K h=>by
  unfold zHL at h
  split at h
  · rename_i zae zad zau zac
    obtain⟨⟨⟨rfl,zal,rfl⟩,hs⟩,hk⟩:=h
    try rw[zaj zal] at hs
    try rw[zaj zal] at hk
    exact⟨_,zff zfg _,(λ _ _=>[]),(λ _=>false),zHD,q52 (⟨zae,(⟨zad,zal⟩:(Sl Tie))⟩:Net) K hs hk⟩
  · exact h.elim
abbrev T11:Tabs:=((((((((Tabs.nil.addF 20 zGW).addF 21 zGV).addF 23 zCs).addF 49 zCf).addF 50 zHe).addF 51 zHq).addF 52 zHL).addF 53 zCg)
theorem zM0:TabsOk Tryd.prog T11:=((((((((TabsOk.nil.addF zOx).addF zOw).addF zNC).addF zNA).addF zOA).addF zOC).addF zOI).addF zNB)
abbrev G11:Ctrs:=csm T11 (λ _ _=>[]) (λ _=>false)
def zHM:Ann:=⟨80,[(0,zK [1,2,3] [3]),(1,zK [1,2,3,19] [3]),(2,zK [6] []),(3,zK [1,2,3,7,8] [3]),(4,zK [1,2,3,7,8,9] [3]),(5,zK [1,2,3,7,8,9,32] [3]),(6,zK [6] []),(7,zK [3,7,8,52] [3]),(8,zK [6] []),(9,zK [7,8,10,11] []),(10,zK [7,8,10,59] []),(11,zK [6] []),(12,zK [6] [])],
 [],
 [(2,zK [1,2,3,19] [3]),(3,zK [1,2,3] [3]),(4,zK [1,2,3,7,8] [3]),(5,zK [1,2,3,7,8,9] [3]),(6,zK [1,2,3,7,8,9,32] [3]),(7,zK [1,2,3,7,8,9] [3]),(8,zK [3,7,8,52] [3]),(9,zK [3,7,8] [3]),(10,zK [7,8,10,11] [])],
 [],[]⟩
abbrev R11:=Bool
abbrev e11 (r:R11):List PA:=[.one (.bool r)]
@[irreducible] def z11:=ptF Tryd.prog G11 zHM Tryd.f11
section
variable {K:List PA->Prop}{n:Net}{zaa:Int}{zai:(Sl Use)}{zsc:Bool}{cv2:(Sl Use)}{ev2:Int}{zKV:Nat->List PV}{zlV:Bool}{zsd:Bool}{zse:Bool}{zix:(Sl Use)}{zsf:Bool}{ztt:Nat->List PV}
def zsg (cv2:(Sl Use)) (ev2:Int) (zix:(Sl Use)) (zsf:Bool):Bool :=
  (cond (!zsf)
 (cond (ev2 == (6:Int))
 (cond ((cv2.len : Int) == (0:Int))
 true
 false)
 false)
 (cond (ev2 == (0:Int))
 (cond (s53 cv2 zix)
 true
 false)
 false))
def zsh (cv2:(Sl Use)) (ev2:Int) (zix:(Sl Use)) (zsf:Bool):Bool :=
  (cond (!zsf)
 true
 (cond (ev2 == (0:Int))
 (decide ((p53 cv2 zix=true)) &&
 true)
 true))
theorem zHN (hs:zsh cv2 ev2 zix zsf=true) (hk:K (e11 (zsg cv2 ev2 zix zsf))) (zCw:ztt=zg enc_75 zix):z11 K [1,1,1,1,1,1,1] [] ⟨[(7,zS enc_75 2 cv2),(8,zI ev2),(10,zP (.sl zix.len 2 ztt)),(11,zB zsf)],[],[]⟩:=by subst zCw;exact zaX (by kernel_rfl) (zc hs hk (λ hs hk=>(zt hk (λ hk=>(zt hk (λ hk=>hk) (λ hk=>hk))) (λ hk=>hk))) (λ hs hk=>(zc hs hk (λ hs hk=>(zaJ hs λ hc hs=>And.intro (And.intro (zE enc_75 2 cv2.get) (And.intro (zE enc_75 2 zix.get) hc)) (zt hk (λ hk=>hk) (λ hk=>hk)))) (λ hs hk=>hk))))
def zsi (n:Net) (cv2:(Sl Use)) (ev2:Int):Bool :=
  (zsg cv2 ev2 ((s52 n).1) ((s52 n).2))
def zsj (n:Net) (cv2:(Sl Use)) (ev2:Int):Bool :=
  (decide ((p52 n=true)) &&
 (zsh cv2 ev2 ((s52 n).1) ((s52 n).2)))
theorem zHO (hs:zsj n cv2 ev2=true) (hk:K (e11 (zsi n cv2 ev2))):z11 K [1,1,1,1,1,1] [] ⟨[(3,zp 3 0),(7,zS enc_75 2 cv2),(8,zI ev2)],[(3,.box 24 (zm (enc_24 n)))],[]⟩:=zaX (by kernel_rfl) (zaJ hs λ hc hs=>And.intro (And.intro (zE enc_40 4 n.Ties.get) hc) (zHN hs hk rfl))
def zsk (n:Net) (cv2:(Sl Use)) (ev2:Int) (zse:Bool):Bool :=
  (cond zse
 false
 (zsi n cv2 ev2))
def zsl (n:Net) (cv2:(Sl Use)) (ev2:Int) (zse:Bool):Bool :=
  (cond zse
 true
 (zsj n cv2 ev2))
theorem zHP (hs:zsl n cv2 ev2 zse=true) (hk:K (e11 (zsk n cv2 ev2 zse))):z11 K [1,1,1,1,1,0,1] [] ⟨[(3,zp 3 0),(7,zS enc_75 2 cv2),(8,zI ev2),(52,zB zse)],[(3,.box 24 (zm (enc_24 n)))],[]⟩:=zaX (by kernel_rfl) (zc hs hk (λ hs hk=>hk) (λ hs hk=>(zHO hs hk)))
def zsm (n:Net) (zaa:Int) (zai:(Sl Use)) (cv2:(Sl Use)) (ev2:Int) (zlV:Bool):Bool :=
  (zsk n cv2 ev2 (zlV != (s51 n zaa zai)))
def zsn (n:Net) (zaa:Int) (zai:(Sl Use)) (cv2:(Sl Use)) (ev2:Int) (zlV:Bool):Bool :=
  (decide ((p51 n zaa zai=true)) &&
 (zsl n cv2 ev2 (zlV != (s51 n zaa zai))))
theorem zHQ (hs:zsn n zaa zai cv2 ev2 zlV=true) (hk:K (e11 (zsm n zaa zai cv2 ev2 zlV))):z11 K [1,1,1,1,1] [] ⟨[(1,zI zaa),(2,zS enc_75 2 zai),(3,zp 3 0),(7,zS enc_75 2 cv2),(8,zI ev2),(9,zB zlV)],[(3,.box 24 (zm (enc_24 n)))],[]⟩:=zaX (by kernel_rfl) (zaJ hs λ hc hs=>And.intro (And.intro (zE enc_40 4 n.Ties.get) (And.intro (zE enc_75 2 zai.get) hc)) (zHP hs hk))
def zso (n:Net) (zaa:Int) (zai:(Sl Use)) (cv2:(Sl Use)) (ev2:Int) (zlV:Bool) (zsd:Bool):Bool :=
  (cond zsd
 (cond (ev2 == (2:Int))
 (cond ((cv2.len : Int) == (0:Int))
 (cond (!zlV)
 true
 false)
 false)
 false)
 (zsm n zaa zai cv2 ev2 zlV))
def zsp (n:Net) (zaa:Int) (zai:(Sl Use)) (cv2:(Sl Use)) (ev2:Int) (zlV:Bool) (zsd:Bool):Bool :=
  (cond zsd
 true
 (zsn n zaa zai cv2 ev2 zlV))
theorem zHR (hs:zsp n zaa zai cv2 ev2 zlV zsd=true) (hk:K (e11 (zso n zaa zai cv2 ev2 zlV zsd))):z11 K [1,1,1,1,0,1] [] ⟨[(1,zI zaa),(2,zS enc_75 2 zai),(3,zp 3 0),(7,zS enc_75 2 cv2),(8,zI ev2),(9,zB zlV),(32,zB zsd)],[(3,.box 24 (zm (enc_24 n)))],[]⟩:=zaX (by kernel_rfl) (zc hs hk (λ hs hk=>(zt hk (λ hk=>(zt hk (λ hk=>(zt hk (λ hk=>hk) (λ hk=>hk))) (λ hk=>hk))) (λ hk=>hk))) (λ hs hk=>(zHQ hs hk)))
def zoi (n:Net) (zaa:Int) (zai:(Sl Use)) (cv2:(Sl Use)) (ev2:Int) (zlV:Bool):Bool :=
  (zso n zaa zai cv2 ev2 zlV (!(s23 n)))
def zoj (n:Net) (zaa:Int) (zai:(Sl Use)) (cv2:(Sl Use)) (ev2:Int) (zlV:Bool):Bool :=
  (decide ((p23 n=true)) &&
 (zsp n zaa zai cv2 ev2 zlV (!(s23 n))))
theorem zHS (hs:zoj n zaa zai cv2 ev2 zlV=true) (hk:K (e11 (zoi n zaa zai cv2 ev2 zlV))):z11 K [1,1,1,1] [] ⟨[(1,zI zaa),(2,zS enc_75 2 zai),(3,zp 3 0),(7,zS enc_75 2 cv2),(8,zI ev2),(9,zB zlV)],[(3,.box 24 (zm (enc_24 n)))],[]⟩:=zaX (by kernel_rfl) (zaJ hs λ hc hs=>And.intro (And.intro (zE enc_40 4 n.Ties.get) hc) (zHR hs hk))
def zok (n:Net) (zaa:Int) (zai:(Sl Use)) (cv2:(Sl Use)) (ev2:Int):Bool :=
  (zoi n zaa zai cv2 ev2 (s50 n zaa zai))
def zol (n:Net) (zaa:Int) (zai:(Sl Use)) (cv2:(Sl Use)) (ev2:Int):Bool :=
  (decide ((p50 n zaa zai=true)) &&
 (zoj n zaa zai cv2 ev2 (s50 n zaa zai)))
theorem zHT (hs:zol n zaa zai cv2 ev2=true) (hk:K (e11 (zok n zaa zai cv2 ev2))) (zM1:zKV=zg enc_75 cv2):z11 K [1,1,1] [] ⟨[(1,zI zaa),(2,zS enc_75 2 zai),(3,zp 3 0),(7,zP (.sl cv2.len 2 zKV)),(8,zI ev2)],[(3,.box 24 (zm (enc_24 n)))],[]⟩:=by subst zM1;exact zaX (by kernel_rfl) (zaJ hs λ hc hs=>And.intro (And.intro (zE enc_40 4 n.Ties.get) (And.intro (zE enc_75 2 zai.get) hc)) (zHS hs hk))
def zjB (n:Net) (zaa:Int) (zai:(Sl Use)):Bool :=
  (zok n zaa zai ((s49 n).1) ((s49 n).2))
def zjC (n:Net) (zaa:Int) (zai:(Sl Use)):Bool :=
  (decide ((p49 n=true)) &&
 (zol n zaa zai ((s49 n).1) ((s49 n).2)))
theorem zHU (hs:zjC n zaa zai=true) (hk:K (e11 (zjB n zaa zai))):z11 K [1,1] [] ⟨[(1,zI zaa),(2,zS enc_75 2 zai),(3,zp 3 0)],[(3,.box 24 (zm (enc_24 n)))],[]⟩:=zaX (by kernel_rfl) (zaJ hs λ hc hs=>And.intro (And.intro (zE enc_40 4 n.Ties.get) hc) (zHT hs hk rfl))
def zom (n:Net) (zaa:Int) (zai:(Sl Use)) (zsc:Bool):Bool :=
  (cond zsc
 true
 (zjB n zaa zai))
def zon (n:Net) (zaa:Int) (zai:(Sl Use)) (zsc:Bool):Bool :=
  (cond zsc
 true
 (zjC n zaa zai))
theorem zAl (hs:zon n zaa zai zsc=true) (hk:K (e11 (zom n zaa zai zsc))):z11 K [1,0,1] [] ⟨[(1,zI zaa),(2,zS enc_75 2 zai),(3,zp 3 0),(19,zB zsc)],[(3,.box 24 (zm (enc_24 n)))],[]⟩:=zaX (by kernel_rfl) (zc hs hk (λ hs hk=>hk) (λ hs hk=>(zHU hs hk)))
def s11 (n:Net) (zaa:Int) (zai:(Sl Use)):Bool :=
  (cond (!(s20 n (14:Int)))
 (zom n zaa zai true)
 (zom n zaa zai (decide ((zai.len:Int) > (50:Int)))))
def p11 (n:Net) (zaa:Int) (zai:(Sl Use)):Bool :=
  (cond (!(s20 n (14:Int)))
 (zon n zaa zai true)
 (zon n zaa zai (decide ((zai.len:Int) > (50:Int)))))
end
theorem q11 (n:Net) (zaa:Int) (zai:(Sl Use)) (K:List PA->Prop) (hs:p11 n zaa zai=true) (hk:K (e11 (s11 n zaa zai))):vcFun Tryd.prog G11 zHM 11 [.agg (enc_24 n),.one (.int .i64 zaa),.one (.sl zai.len 2 (λ i=>enc_75 (zai.get i)))] K :=
  zaX (by kernel_rfl) (And.intro (zE enc_40 4 n.Ties.get) (zc hs hk (λ hs hk=>(zAl hs hk)) (λ hs hk=>(zAl hs hk))))
def zKW : List PA → COut
  | [.agg [.int .i64 zae,.sl zad zau zac],.one (.int .i64 a1),.one (.sl zg0 zpm zg1)]=>.det (IsE enc_40 4 zau zac/\IsE enc_75 2 zpm zg1/\p11 (⟨zae,(⟨zad,zak zac⟩:(Sl Tie))⟩:Net) a1 (⟨zg0,zbk zg1⟩:(Sl Use))=true) [.one (.bool (s11 (⟨zae,(⟨zad,zak zac⟩:(Sl Tie))⟩:Net) a1 (⟨zg0,zbk zg1⟩:(Sl Use))))]
  | _=>.no
theorem call11:zas Tryd.prog 11:=⟨_,rfl,rfl,by kernel_rfl⟩
theorem ok11:Ok Tryd.prog 11 zKW:=zbv zM0 call11 λ args K h=>by
  unfold zKW at h
  split at h
  · rename_i zae zad zau zac a1 zg0 zpm zg1
    obtain⟨⟨⟨rfl,zal,rfl⟩,⟨rfl,zls,rfl⟩,hs⟩,hk⟩:=h
    try rw[zaj zal] at hs
    try rw[zaj zal] at hk
    try rw[zaS zls] at hs
    try rw[zaS zls] at hk
    exact⟨(λ _ _=>[]),(λ _=>false),zHM,q11 (⟨zae,(⟨zad,zal⟩:(Sl Tie))⟩:Net) a1 (⟨zg0,zls⟩:(Sl Use)) K hs hk⟩
  · exact h.elim
end Go.Proofs
namespace Go.Proofs.YtedhjaaikeakoaaDoor
open Go Go.Pm Go.ChangeShapes
set_option maxRecDepth 100000
abbrev laid1 : List (String × DataW Unit) := [("overburden/align.never", Rows.laid_overburden_align_never)]
theorem zD3 : Tryd.prog.globalNamed "overburden/align.never" = some 0 := by kernel_rfl
theorem zKX:(Tryd.prog.globals[0]?).map (·.type)=some 114:=by kernel_rfl
theorem zKY:Tryd.prog.cellsOf 114=2:=by kernel_rfl
theorem zNE:Tryd.prog.cellsOf 3=1:=by kernel_rfl
theorem door_met (os:Os) (args:Array Value):laidMetH Tryd.prog laid1 ((World.doorLaid Tryd.prog 400 os).forCall (λ _ _=>0) ⟨#[],args,[]⟩).memory :=
 laidMetH_of_parts3 (fuel:=8) (laidMet_of_run' 8 (by kernel_rfl) (by kernel_rfl)) (by kernel_rfl) (by kernel_rfl)
theorem gl_of {W:World}(h:laidMetH Tryd.prog laid1 W):zes (H0 W):=by
 rw[MakeChecks.laidMetH_plain _ _ _ (by kernel_rfl)] at h
 obtain⟨ps,⟨g0,t0,cs0,f0,p0,q0,hg0,ht0,hv0,hd0,_,_⟩,_,_⟩:=h
 obtain rfl:=Option.some.inj (zD3.symm.trans hg0)
 obtain rfl:=Option.some.inj (zKX.symm.trans ht0)
 obtain⟨y0,y1,n,hx,hl,h0,h1⟩:=trod_struct2 Tryd.underlying114 hd0
 simp only[dqh] at hx
 obtain⟨hx,-⟩:=hx
 simp only[Rows.laid_overburden_align_never,DataW.agg.injEq,dqy,and_true] at hx
 obtain⟨k0,e0,d0,_⟩:=DataW.trod_int Tryd.underlying3 h0
 obtain⟨k1,e1,d1,_⟩:=DataW.trod_int Tryd.underlying3 h1
 rw[zKY] at hl
 have e0':cs0.toList.take 1=[.int .i64 k0]:=by
  have:=e0
  rw[show Tryd.prog.cellsOf _=1 from zNE] at this
  simpa using this
 have e1':(cs0.toList.drop 1).take 1=[.int .i64 k1]:=by
  have:=e1
  rw[show Tryd.prog.cellsOf _=1 from zNE] at this
  simpa using this
 have hk0:k0=1000000000000:=by have:=hx.1;rw[d0] at this;injection this with a;injection a with _ a;exact a.symm
 have hk1:k1=0:=by have:=hx.2;rw[d1] at this;injection this with a;injection a with _ a;exact a.symm
 have hC:cs0.toList=[.int .i64 1000000000000,.int .i64 0]:=by
  have h2:cs0.toList=cs0.toList.take 1 ++ (cs0.toList.drop 1).take 1:=by
   rw[← List.take_add,List.take_of_length_le (by omega)]
  rw[h2,e0',e1',hk0,hk1];rfl
 intro k l hk
 unfold World.var? at hv0
 rw[zD3] at hv0
 simp only[Option.bind_some] at hv0
 cases k with
 | succ k=>cases hk
 | zero =>
  obtain rfl:[PV.int .i64 1000000000000,.int .i64 0]=l:=Option.some.inj hk
  cases eo:W.heap[0]? with
  | none=>rw[eo] at hv0;cases hv0
  | some o =>
   rw[eo] at hv0
   cases o with
   | cells C ty fr =>
    simp only[dqa] at hv0
    subst hv0
    exact⟨_,ty,fr,by unfold H0;rw[eo];rfl,by rw[hC];exact⟨.int _ _,.int _ _,trivial⟩⟩
   | _=>cases hv0
end Go.Proofs.YtedhjaaikeakoaaDoor
namespace Go.Proofs.YtedhjaaikeakoaaDoor
set_option maxRecDepth 100000
def dc : Nat → Nat → List Char
  | 0,_=>[]
  | k+1,n=>Char.ofNat (n % 128) :: dc k (n / 128)
def ioR:List (List Char):=[dc 2 14945,dc 38 107265865644741724912243125268531249640326942553430557205577479631290979090791279,dc 38 108293077817484906734254386447616441263814988321737617043972465573863363972791151,dc 38 93370879016013017278412803021783510280543711028000410236402271261457424383048559,dc 38 107258694022858408970435192345127867927486736974969802526482043864463718682819439,dc 39 13746719959472648153406769131206406626558510298776447130317981093147086104311724911,dc 38 107266209769642888316488957616301258915172789321380384129051881327065490379078511,dc 39 13738338888634744287462113483281891133786406809494667074737303271467843731645365103,dc 38 107308724040215521434011850380931925905298338556088488294726402895071789331348335,dc 43 3689337697451499537899652006011379275272339788637320245734945509069109267079825879406836591,dc 38 106339254617564648824502995819756623291246721172574690728430612464564447869500271,dc 38 107330772524736890892060720350443696785457349727637599143704802418857719933533039,dc 38 107266380701743786104986999119182321999123657451770743386930499759721679104342895,dc 38 107308728471136676073553801914045189487148679029700448428114571309412341010496367,dc 37 837954515553292543489687687552621780150771894250034810644180755742461368302447,dc 38 107287017468262091873827311208814906259154281073825133055543027267698112966785903,dc 38 107374028509112486977837548216825331243033985081330090052312008930171490580134767,dc 38 107265533895345759970156929786145176805363222797160045994169685653949991330872175]
def ioN:List Char:=dc 748 14110378018767575964226655308004126793045208087310171201555892242252648960690434620806224759478349222793457564936136773140206884019406577404308477398112682127111429688458091804136369451876026010391452929509304596612007749348823331848074321521876163367611471766311661795807971626777430789606670518996161301806853738256348343737238826384171739901612950230839336053519876648582653265928992265003442337249315020340640568624042171724319570015876863120612063908539839480788963015814409324055605425425582212723687691771037045010066064867754736841809752569547023397197010564985861497252960727260554984899190782686002829257997185443421456271698218584945985148990383891392482548262956659989814614329905290488435125286744085629934720469444029598243369313538259143807170350259387234145666063103371643809341342441092158617040725699310351084585854817129011753246127748964030413854525633190715875548631480060648955255476518703717934493416584654287151545453027212072361023366870608725576042669368667333719675724995494706645777621137060304017521484702088503639607947747215026989263530504204523251982333933107210391579300884546305432560571086131943194743723205005815139772394062686780566686930384812217785365992657908782936586832589627342388339882126362151219006413773645814561079952905486963953952063552645778936398310246717058410743450648594152841163565946295251582585294350653230459132165827590128826417871324965536217148578987470925657879977171716100377657863588641203253643922875913460814715430695689192746980757875303892414899783421563436119681070640173712093473782554642421452415184974056
theorem ioS:Tryd.prog.initOrder=String.ofList ioN:=by kernel_rfl
theorem ioL:Tryd.prog.initOrder.toList=ioN:=(congrArg String.toList ioS).trans String.toList_ofList
theorem ioW:wordsSigns Tryd.prog.initOrder.toList=(dc 7 509754063237352) :: (dc 64 583581952082889979719035725534559484815115086455805852996510235646750355970935781905203483690318741732481452225105900421668580921071669) :: (dc 3 1915619) :: ioR:=(congrArg wordsSigns ioL).trans (by kernel_rfl)
theorem ioB:behindMainWord (wordsSigns Tryd.prog.initOrder.toList)=(dc 3 1915619) :: ioR:=(congrArg behindMainWord ioW).trans (by kernel_rfl)
theorem zpF {P : Program} {l : List (List Char)} (h : behindMainWord (wordsSigns P.initOrder.toList) = l) : P.headLifts = (if (stripLifts liftWords l).2.head? == some "cut".toList then (stripLifts liftWords l).1 else []) := by subst h; rfl
theorem zHV {P:Program}{rest:List (List Char)}(h:behindMainWord (wordsSigns P.initOrder.toList)=(dc 3 1915619) :: rest):P.make=some .cut:=by unfold Program.make;rw[h];rfl
theorem zCx {P:Program}{rest:List (List Char)}(h:behindMainWord (wordsSigns P.initOrder.toList)=(dc 3 1915619) :: rest) (hl:P.headLifts=[]):P.liftsFinal=false:=by unfold Program.liftsFinal;rw[h,hl];rfl
theorem zHW {P : Program} {a b : List Char} {rest : List (List Char)} (h : wordsSigns P.initOrder.toList = a :: b :: rest) (hs : isSumSigns b = true) (ha : (a == "harness".toList) = true) : P.mainIs = some (true, b) := by unfold Program.mainIs; rw [h]; simp only [hs, ha]; rfl
theorem zCy {P : Program} {c : List Char} {rest : List (List Char)} (h : behindMainWord (wordsSigns P.initOrder.toList) = c :: rest) (hst : (stripLifts liftWords (c :: rest)).2.head? = some "cut".toList)
    (hs1:(stripLifts liftWords (c :: rest)).1=[]) (hlay:P.laysLater=false) (hb:P.bearsReflect=false) (hd:P.doorFits []=true):P.mayEnter=true:=by
  unfold Program.mayEnter
  rw[h]
  simp[hst,hs1,hlay,hb,hd]
theorem ioH:Tryd.prog.headLifts=[]:=(zpF ioB).trans (by kernel_rfl)
theorem ioK:Tryd.prog.make=some .cut:=zHV ioB
theorem ioF:Tryd.prog.liftsFinal=false:=zCx ioB ioH
theorem ioM : Tryd.prog.mainIs = some (true, "5097d02014b7f9bdc457588f16a61179f96daee4a085c0a2c5462d863db43dbf".toList) := (zHW ioW (by kernel_rfl) (by kernel_rfl)).trans (by kernel_rfl)
theorem ioE:Tryd.prog.mayEnter=true:=zCy ioB (by kernel_rfl) (by kernel_rfl) (by kernel_rfl) (by kernel_rfl) (by kernel_rfl)
end Go.Proofs.YtedhjaaikeakoaaDoor
namespace Go.Pm
open Go

theorem za9 {x:Int}(h1 : -9223372036854775808≤x) (h2:x≤9223372036854775807):w64 x=x:=by
 have hb:IntKind.i64.bits=64:=rfl
 have hs:IntKind.i64.signed=true:=rfl
 unfold w64 IntKind.wrap
 rw[hb,hs]
 simp only[Bool.true_and,decide_eq_true_eq]
 split <;> omega
theorem dqT {p:Prop} [Decidable p] (h:p):decide p=true:=decide_eq_true h
theorem dqF {p:Prop} [Decidable p] (h : ¬ p):decide p=false:=decide_eq_false h
theorem dqA {α:Type}(a b:α):cond true a b=a:=rfl
theorem dqB {α:Type}(a b:α):cond false a b=b:=rfl
theorem dqN (n:Nat):((n:Nat):Int).toNat=n:=Int.toNat_natCast n
theorem dqP {c:Prop}{h:Decidable c}(hc:c){α:Type}{t e:α} : ite c t e=t:=if_pos hc
theorem dqG {c:Prop}{h:Decidable c}(hc : ¬ c){α:Type}{t e:α} : ite c t e=e:=if_neg hc
def zNF (c : Nat → Bool) : Nat → Nat → Nat
  | 0,i=>i
  | m+1,i=>match c i with | true=>i | false=>zNF c m (i+1)
def fst (c:Nat->Bool) (n:Nat):Nat:=zNF c n 0
theorem ztu {good : Nat → Bool} {fin : Bool} {n : Nat} {lpS lpP : Nat → Int → Bool}
    (hS:∀ (k i:Nat),i < n->lpS (k+1) (i:Int)=cond (good i) (lpS k (w64 ((i:Int)+(1:Int)))) false)
    (hE:∀ k,lpS (k+1) (n:Int)=fin)
    (hP:∀ (k i:Nat),i < n->lpP (k+1) (i:Int)=cond (good i) (lpP k (w64 ((i:Int)+(1:Int)))) true)
    (hPE:∀ k,lpP (k+1) (n:Int)=true) (hn:n≤9223372036854775807) :
    lpP Fuel 0=true/\(lpS Fuel 0=true↔(∀ i,i < n->good i=true)/\fin=true):=by
  have key:∀ (m k i:Nat),i+m=n->m < k->lpP k (i:Int)=true/\(lpS k (i:Int)=true↔(∀ j,i≤j->j < n->good j=true)/\fin=true):=by
    intro m
    induction m with
    | zero =>
      intro k i hi hk
      obtain⟨k,rfl⟩:∃ k',k=k'+1:=⟨k - 1,by omega⟩
      have:i=n:=by omega
      subst this
      rw[hE,hPE]
      exact⟨rfl,⟨λ h=>⟨λ j h1 h2=>absurd h2 (by omega),h⟩,λ h=>h.2⟩⟩
    | succ m ih =>
      intro k i hi hk
      obtain⟨k,rfl⟩:∃ k',k=k'+1:=⟨k - 1,by omega⟩
      rw[hS k i (by omega),hP k i (by omega)]
      have e3:w64 ((i:Int)+1)=((i+1:Nat):Int):=by rw[za9 (by omega) (by omega)];omega
      rw[e3]
      obtain⟨h1,h2⟩:=ih k (i+1) (by omega) (by omega)
      cases hg:good i
      · refine ⟨rfl, ⟨fun h => (by cases h), fun h => ?_⟩⟩
        have:=h.1 i (dqt _) (by omega)
        rw[hg] at this;cases this
      · refine ⟨h1, h2.trans ⟨fun h => ⟨fun j hj1 hj2 => ?_, h.2⟩, fun h => ⟨fun j hj1 hj2 => h.1 j (by omega) hj2, h.2⟩⟩⟩
        by_cases hji:j=i
        · rw[hji];exact hg
        · exact h.1 j (by omega) hj2
  have:=key n Fuel 0 (by omega) (by simp only[Fuel];omega)
  simpa using this

end Go.Pm
namespace Go.Pm
open Go
theorem zfQ {i n:Nat}(h:i < n) (hn:n≤9223372036854775807):w64 ((i:Int)+(1:Int))=((i+1:Nat):Int):=by
 rw[za9 (by omega) (by omega)];omega
def zpG {σ : Type} (step : Nat → σ → σ) : Nat → Nat → σ → σ
  | 0,_,s=>s
  | m+1,i,s=>zpG step m (i+1) (step i s)
theorem zAm {σ β : Type} {step : Nat → σ → σ} {E : σ → β} {EP : σ → Bool} {Inv : Nat → σ → Prop} {a n : Nat} {lpS : Nat → σ → Int → β} {lpP : Nat → σ → Int → Bool}
    (hS:∀ (k i:Nat) (s:σ),a≤i->i < n->Inv i s->lpS (k+1) s (i:Int)=lpS k (step i s) (w64 ((i:Int)+(1:Int))))
    (hE:∀ k s,lpS (k+1) s (n:Int)=E s)
    (hP:∀ (k i:Nat) (s:σ),a≤i->i < n->Inv i s->lpP (k+1) s (i:Int)=lpP k (step i s) (w64 ((i:Int)+(1:Int))))
    (hPE:∀ k s,lpP (k+1) s (n:Int)=EP s)
    (hI:∀ i s,a≤i->i < n->Inv i s->Inv (i+1) (step i s)) (ha:a≤n) (hn:n≤9223372036854775807) (s:σ) (h0:Inv a s) :
    lpP Fuel s (a:Int)=EP (zpG step (n - a) a s)/\lpS Fuel s (a:Int)=E (zpG step (n - a) a s):=by
  have key:∀ (m k i:Nat) (s:σ),a≤i->i+m=n->m < k->Inv i s->lpP k s (i:Int)=EP (zpG step m i s)/\lpS k s (i:Int)=E (zpG step m i s):=by
    intro m
    induction m with
    | zero =>
      intro k i s h1 hi hk _
      obtain⟨k,rfl⟩:∃ k',k=k'+1:=⟨k - 1,by omega⟩
      have:i=n:=by omega
      subst this
      rw[hE,hPE]
      exact⟨rfl,rfl⟩
    | succ m ih =>
      intro k i s h1 hi hk hs
      obtain⟨k,rfl⟩:∃ k',k=k'+1:=⟨k - 1,by omega⟩
      rw[hS k i s h1 (by omega) hs,hP k i s h1 (by omega) hs,zfQ (n:=n) (by omega) hn]
      exact ih k (i+1) (step i s) (by omega) (by omega) (by omega) (hI i s h1 (by omega) hs)
  exact key (n - a) Fuel a s (dqt _) (by omega) (by simp only[Fuel];omega) h0
end Go.Pm
namespace Go.Proofs
open Go Go.Pm
set_option maxRecDepth 100000
set_option linter.unusedVariables false
attribute [local irreducible] Go.Pm.vcFun Go.Pm.vc Go.Pm.vcIter
end Go.Proofs
namespace Go.Proofs
open Go Go.Pm
set_option maxRecDepth 100000
theorem zmG (n a b:Int):s81 n a b=decide (a≤n/\n≤b):=by
 unfold s81
 by_cases h:a≤n
 ·rw[dqT (show n ≥ a from h),dqA];exact decide_eq_decide.2 ⟨λ k=>⟨h,k⟩,λ k=>k.2⟩
 ·rw[dqF (show ¬ n ≥ a from h),dqB];exact (dqF (λ k=>h k.1)).symm
theorem zAn (n a b:Int):s72 n a b=decide (a≤n/\n≤b):=zmG n a b
theorem ztv (n:Net) (hn:n.Ties.len≤9223372036854775807):p67 n=true/\(s67 n=true↔(∀ i,i < n.Ties.len->s78 (n.Ties.get i) n.Nodes=true)/\(1≤n.Nodes/\n.Nodes≤40)/\n.Ties.len≤200):=by
  have := ztu (good := fun i => s78 (n.Ties.get i) n.Nodes) (fin := cond (s81 n.Nodes (1:Int) (40:Int)) (decide ((n.Ties.len : Int) ≤ (200:Int))) false) (n := n.Ties.len) (lpS := ziO n) (lpP := ziP n)
    (λ k i hi=>by
      show ziM n (ziO n k) (i:Int)=_
      generalize ziO n k=S
      unfold ziM zqA
      rw[dqT (show (i:Int) < (n.Ties.len:Int) by omega),dqA,dqN]
      cases s78 (n.Ties.get i) n.Nodes <;> rfl)
    (λ k=>by
      show ziM n (ziO n k) (n.Ties.len:Int)=_
      unfold ziM
      rw[dqF (show ¬ (n.Ties.len:Int) < (n.Ties.len:Int) by omega),dqB])
    (λ k i hi=>by
      show ziN n (ziP n k) (i:Int)=_
      generalize ziP n k=S
      unfold ziN zqB
      rw[dqT (show (i:Int) < (n.Ties.len:Int) by omega),dqA,dqN,dqT (show 0≤(i:Int)/\(i:Int) < (n.Ties.len:Int) by omega),Bool.true_and]
      cases s78 (n.Ties.get i) n.Nodes <;> rfl)
    (λ k=>by
      show ziN n (ziP n k) (n.Ties.len:Int)=_
      unfold ziN
      rw[dqF (show ¬ (n.Ties.len:Int) < (n.Ties.len:Int) by omega),dqB])
    hn
  refine⟨this.1,this.2.trans ?_⟩
  rw[zmG]
  by_cases h:1≤n.Nodes/\n.Nodes≤40
  · rw[dqT h,dqA,decide_eq_true_eq];exact⟨λ k=>⟨k.1,h,by omega⟩,λ k=>⟨k.1,by omega⟩⟩
  · rw[dqF h,dqB];exact⟨λ k=>absurd k.2 (by decide),λ k=>absurd k.2.1 h⟩
end Go.Proofs
namespace Go.Proofs
open Go Go.Pm
set_option maxRecDepth 100000
set_option linter.unusedVariables false
attribute [local irreducible] Go.Pm.vcFun Go.Pm.vc Go.Pm.vcIter
end Go.Proofs
namespace Go.Proofs
open Go Go.Pm
set_option maxRecDepth 100000
set_option linter.unusedVariables false
theorem dgt (x y:Int):decide (x > y) = !decide (x≤y):=by
 by_cases h:x > y
 ·rw[dqT h,dqF (show ¬ x≤y by omega)];rfl
 ·rw[dqF h,dqT (show x≤y by omega)];rfl
theorem zD4 (nodes:Int) (t:Tie):s36 nodes t=s78 t nodes:=by
 unfold s36 zi8 zrk s78 zlq zlp
 simp only[zAn,zmG,bne,dgt]
 generalize decide (0≤t.From/\t.From≤w64 (nodes - (1:Int)))=a
 generalize decide (0≤t.To/\t.To≤w64 (nodes - (1:Int)))=b
 generalize (t.From == t.To)=c
 generalize (t.Low == (-1000000000000:Int))=d
 generalize (t.High == (1000000000000:Int))=e
 generalize decide (-1000000000≤t.Low/\t.Low≤1000000000)=f
 generalize decide (-1000000000≤t.High/\t.High≤1000000000)=g
 generalize decide (t.Low≤t.High)=h
 cases a <;> cases b <;> cases c <;> cases d <;> cases e <;> cases f <;> cases g <;> cases h <;> rfl
structure TieOk (t : Tie) (nodes : Int) : Prop where
  f0:0≤t.From
  f1:t.From < nodes
  t0:0≤t.To
  t1:t.To < nodes
  ne:t.From ≠ t.To
  lo:t.Low = -1000000000000∨(-1000000000≤t.Low/\t.Low≤1000000000)
  hi:t.High=1000000000000∨(-1000000000≤t.High/\t.High≤1000000000)
  le:t.Low≤t.High
theorem zAo (t:Tie) (nodes:Int) (h1:1≤nodes) (h2:nodes≤40):s78 t nodes=true↔TieOk t nodes:=by
 have e:s78 t nodes=(decide (0≤t.From/\t.From < nodes) && (decide (0≤t.To/\t.To < nodes) && (!(t.From == t.To) && (((t.Low == (-1000000000000:Int)) || decide (-1000000000≤t.Low/\t.Low≤1000000000)) && (((t.High == (1000000000000:Int)) || decide (-1000000000≤t.High/\t.High≤1000000000)) && decide (t.Low≤t.High)))))):=by
  unfold s78 zlq zlp
  rw[za9 (x:=nodes - 1) (by omega) (by omega)]
  simp only[zmG]
  rw[decide_eq_decide.2 (show (0≤t.From/\t.From≤nodes - 1)↔(0≤t.From/\t.From < nodes) by omega),decide_eq_decide.2 (show (0≤t.To/\t.To≤nodes - 1)↔(0≤t.To/\t.To < nodes) by omega)]
  simp only[bne]
  generalize decide (0≤t.From/\t.From < nodes)=a
  generalize decide (0≤t.To/\t.To < nodes)=b
  generalize (t.From == t.To)=c
  generalize (t.Low == (-1000000000000:Int))=d
  generalize (t.High == (1000000000000:Int))=e
  generalize decide (-1000000000≤t.Low/\t.Low≤1000000000)=f
  generalize decide (-1000000000≤t.High/\t.High≤1000000000)=g
  generalize decide (t.Low≤t.High)=h
  cases a <;> cases b <;> cases c <;> cases d <;> cases e <;> cases f <;> cases g <;> cases h <;> rfl
 rw[e]
 simp only[dqm,Bool.or_eq_true,decide_eq_true_eq,Bool.not_eq_true',beq_eq_false_iff_ne,beq_iff_eq]
 constructor
 ·rintro⟨⟨a,b⟩,⟨c,d⟩,e,f,g,h⟩;exact⟨a,b,c,d,e,f,g,h⟩
 ·rintro⟨a,b,c,d,e,f,g,h⟩;exact⟨⟨a,b⟩,⟨c,d⟩,e,f,g,h⟩
structure NetOk (n : Net) : Prop where
  n1:1≤n.Nodes
  n40:n.Nodes≤40
  len:n.Ties.len≤200
  tie:∀ i,i < n.Ties.len->TieOk (n.Ties.get i) n.Nodes
theorem zAp (n:Net) (hn:n.Ties.len≤9223372036854775807):p67 n=true/\(s67 n=true↔NetOk n):=by
 obtain⟨h1,h2⟩:=ztv n hn
 refine⟨h1,h2.trans ?_⟩
 constructor
 ·rintro⟨a,⟨b,c⟩,d⟩;exact⟨b,c,by omega,λ i hi=>(zAo _ _ b c).1 (a i hi)⟩
 ·rintro⟨b,c,d,a⟩;exact⟨λ i hi=>(zAo _ _ b c).2 (a i hi),⟨b,c⟩,by omega⟩
theorem zAq (n:Net) (hn:n.Ties.len≤9223372036854775807):p23 n=true/\s23 n=s67 n:=by
  have hl := ztu (good := fun i => s36 n.Nodes (n.Ties.get i)) (fin := true) (n := n.Ties.len) (lpS := zhN n) (lpP := zjb n)
    (λ k i hi=>by
      show zi9 n (zhN n k) (i:Int)=_
      generalize zhN n k=S
      unfold zi9 zrm
      rw[dqT (show (i:Int) < (n.Ties.len:Int) by omega),dqA,dqN]
      cases s36 n.Nodes (n.Ties.get i) <;> rfl)
    (λ k=>by
      show zi9 n (zhN n k) (n.Ties.len:Int)=_
      unfold zi9
      rw[dqF (show ¬ (n.Ties.len:Int) < (n.Ties.len:Int) by omega),dqB])
    (λ k i hi=>by
      show zja n (zjb n k) (i:Int)=_
      generalize zjb n k=S
      unfold zja zrn
      rw[dqT (show (i:Int) < (n.Ties.len:Int) by omega),dqA,dqN,dqT (show 0≤(i:Int)/\(i:Int) < (n.Ties.len:Int) by omega),Bool.true_and]
      cases s36 n.Nodes (n.Ties.get i) <;> rfl)
    (λ k=>by
      show zja n (zjb n k) (n.Ties.len:Int)=_
      unfold zja
      rw[dqF (show ¬ (n.Ties.len:Int) < (n.Ties.len:Int) by omega),dqB])
    hn
  obtain⟨h1,h2⟩:=ztv n hn
  unfold p23 s23 zn3 zn2 zrr zrq zrp zro
  rw[hl.1,zAn,dgt]
  refine⟨by cases decide (1≤n.Nodes/\n.Nodes≤40) <;> cases decide ((n.Ties.len:Int)≤200) <;> rfl,?_⟩
  have h3:=hl.2
  have h4:zhN n Fuel 0=true↔∀ i,i < n.Ties.len->s78 (n.Ties.get i) n.Nodes=true:=h3.trans ⟨λ h i hi=>by rw[← zD4];exact h.1 i hi,λ h=>⟨λ i hi=>by rw[zD4];exact h i hi,rfl⟩⟩
  rw[Bool.eq_iff_iff,h2]
  by_cases a:1≤n.Nodes/\n.Nodes≤40
  · rw [dqT a]
    by_cases b:(n.Ties.len:Int)≤200
    · rw[dqT b];exact h4.trans ⟨λ h=>⟨h,a,by omega⟩,λ h=>h.1⟩
    · rw[dqF b];exact⟨λ h=>absurd h dqk,λ h=>absurd h.2.2 (by omega)⟩
  · rw[dqF a];exact⟨λ h=>absurd h dqk,λ h=>absurd h.2.1 a⟩
structure ValOk (n : Net) (v : Sl Int) : Prop where
  len:(v.len:Int)=n.Nodes
  zero:v.get 0=0
  b:∀ i,i < v.len->-1000000000000≤v.get i/\v.get i≤1000000000000
def Keep (t:Tie) (v:Sl Int):Prop:=(t.Low = -1000000000000∨t.Low≤v.get t.To.toNat - v.get t.From.toNat)/\(t.High=1000000000000∨v.get t.To.toNat - v.get t.From.toNat≤t.High)
structure AgOk (n : Net) (v : Sl Int) : Prop where
  val:ValOk n v
  keep:∀ i,i < n.Ties.len->Keep (n.Ties.get i) v
theorem zAr {n:Net}{t:Int}(h:s20 n t=true) (ht:t≤210):n.Ties.len≤210:=by
 unfold s20 at h
 by_cases h1:(n.Ties.len:Int)≤t
 ·omega
 ·by_cases h2 : (n.Ties.len : Int) ≤ 210
  ·omega
  ·rw [dqF h1, dqF h2] at h
   exact absurd h (by cases decide (n.Nodes≤7) <;> cases decide (n.Nodes > 40) <;> cases decide ((n.Ties.len:Int) > 200) <;> decide)
end Go.Proofs
namespace Go.Pm
structure Ed where
  u:Nat
  v:Nat
  w:Int
def wt : List Ed → Int
  | []=>0
  | e :: l=>e.w+wt l
theorem zeR (c d:List Ed):wt (c ++ d)=wt c+wt d:=by
 induction c with
 | nil=>show wt d=0+wt d;omega
 | cons e l ih=>show e.w+wt (l ++ d)=e.w+wt l+wt d;omega
theorem zjW (e:Ed):wt [e]=e.w:=Int.add_zero _
def zgQ (E : List Ed) : Nat → List Ed → Nat → Prop
  | a,[],b=>a=b
  | a,e :: l,b=>e∈E/\e.u=a/\zgQ E e.v l b
theorem zcM {E:List Ed}{c d:List Ed}{a b:Nat} : zgQ E a (c ++ d) b↔∃ m,zgQ E a c m/\zgQ E m d b:=by
 induction c generalizing a with
 | nil=>exact⟨λ h=>⟨a,rfl,h⟩,λ ⟨m,h1,h2⟩=>by cases h1;exact h2⟩
 | cons e l ih =>
  constructor
  ·rintro ⟨h1, h2, h3⟩
   obtain⟨m,k1,k2⟩:=ih.1 h3
   exact⟨m,⟨h1,h2,k1⟩,k2⟩
  ·rintro ⟨m, ⟨h1, h2, h3⟩, h4⟩
   exact⟨h1,h2,ih.2 ⟨m,h3,h4⟩⟩
theorem zhf {E:List Ed}{e:Ed}(h:e∈E):zgQ E e.u [e] e.v:=⟨h,rfl,rfl⟩
def zfj (E:List Ed):Prop:=∀ a c,zgQ E a c a->0≤wt c
abbrev zcA:=Nat->Option Int
def zmH (d:zcA) (v:Nat) (x:Int):zcA:=λ j=>if j=v then some x else d j
def ltO (x : Int) : Option Int → Bool
  | none=>true
  | some y=>decide (x < y)
def rlF (s:zcA×Bool) (e:Ed):zcA×Bool :=
 match s.1 e.u with
 | none=>s
 | some x=>cond (ltO (x+e.w) (s.1 e.v)) (zmH s.1 e.v (x+e.w),true) s
def Sat (d:zcA) (e:Ed):Prop:=∀ x,d e.u=some x->∃ y,d e.v=some y/\y≤x+e.w
theorem zlO {x:Int}{o:Option Int}(h:ltO x o=false):∃ y,o=some y/\y≤x:=by
 cases o with
 | none=>cases h
 | some y=>exact⟨y,rfl,Int.not_lt.1 (of_decide_eq_false h)⟩
theorem zKZ {x y:Int}(h:y≤x):ltO x (some y)=false:=dqF (Int.not_lt.2 h)
theorem zAs {d:zcA}{c:Bool}{e:Ed}(h:Sat d e):rlF (d,c) e=(d,c):=by
 unfold rlF
 cases hu:d e.u with
 | none=>simp only[hu]
 | some x =>
  obtain⟨y,h1,h2⟩:=h x hu
  simp only[hu,h1,zKZ h2,dqB]
theorem zHX {d:zcA}{c:Bool}{e:Ed}(h : ¬ Sat d e):(rlF (d,c) e).2=true:=by
 unfold rlF
 cases hu:d e.u with
 | none=>exact absurd (λ x hx=>by rw[hu] at hx;cases hx) h
 | some x =>
  simp only[hu]
  cases hl:ltO (x+e.w) (d e.v)
  ·obtain ⟨y, h1, h2⟩ := zlO hl
   exact absurd (λ x' hx'=>⟨y,h1,by rw[hu] at hx';cases hx';exact h2⟩) h
  ·rfl
theorem zCz {s:zcA×Bool}{e:Ed}(h:s.2=true):(rlF s e).2=true:=by
 unfold rlF
 cases s.1 e.u with
 | none=>exact h
 | some x=>simp only[];cases ltO (x+e.w) (s.1 e.v) <;> first | exact h | rfl
theorem zAt {E:List Ed}{s:zcA×Bool}(h:s.2=true):(E.foldl rlF s).2=true:=by
 induction E generalizing s with
 | nil=>exact h
 | cons e l ih=>exact ih (zCz h)
theorem zCA {E:List Ed}{d:zcA}{c:Bool}(h:∀ e∈E,Sat d e):E.foldl rlF (d,c)=(d,c):=by
 induction E with
 | nil=>rfl
 | cons e l ih =>
  show l.foldl rlF (rlF (d,c) e)=_
  rw[zAs (h e (dqj ..))]
  exact ih λ e he=>h e (dqf _ he)
theorem zuo {E:List Ed}{d:zcA}{c:Bool}(h:(E.foldl rlF (d,c)).2=false):∀ e∈E,Sat d e:=by
 induction E with
 | nil=>intro e he;cases he
 | cons e l ih =>
  have h':(l.foldl rlF (rlF (d,c) e)).2=false:=h
  have hs:Sat d e:=Classical.byContradiction λ hn=>by
   rw[zAt (zHX hn)] at h';cases h'
  rw[zAs hs] at h'
  intro e' he'
  rcases dqq.1 he' with rfl | hm
  ·exact hs
  ·exact ih h' e' hm
def leO (a b:Option Int):Prop:=∀ y,b=some y->∃ x,a=some x/\x≤y
theorem zdy (a:Option Int):leO a a:=λ y h=>⟨y,h,Int.le_refl _⟩
theorem zeq {a b c:Option Int}(h1:leO a b) (h2:leO b c):leO a c:=λ y h=>by
 obtain⟨x,hx,hxy⟩:=h2 y h
 obtain⟨z,hz,hzx⟩:=h1 x hx
 exact⟨z,hz,Int.le_trans hzx hxy⟩
theorem zAu (s:zcA×Bool) (e:Ed) (v:Nat):leO ((rlF s e).1 v) (s.1 v):=by
 unfold rlF
 cases hu:s.1 e.u with
 | none=>exact zdy _
 | some x =>
  simp only[]
  cases hl:ltO (x+e.w) (s.1 e.v)
  ·exact zdy _
  ·show leO (zmH s.1 e.v (x + e.w) v) _
   unfold zmH
   by_cases hv:v=e.v
   ·rw [dqP hv]
    intro y hy
    refine⟨_,rfl,?_⟩
    rw[hv] at hy
    rw[hy] at hl
    exact Int.le_of_lt (of_decide_eq_true hl)
   ·rw[dqG hv];exact zdy _
theorem zAv (E:List Ed) (s:zcA×Bool) (v:Nat):leO ((E.foldl rlF s).1 v) (s.1 v):=by
 induction E generalizing s with
 | nil=>exact zdy _
 | cons e l ih=>exact zeq (ih (rlF s e)) (zAu s e v)
theorem zK1 {s:zcA×Bool}{e:Ed}{x:Int}(h:s.1 e.u=some x):leO ((rlF s e).1 e.v) (some (x+e.w)):=by
 unfold rlF
 simp only[h]
 cases hl:ltO (x+e.w) (s.1 e.v)
 ·obtain ⟨y, h1, h2⟩ := zlO hl
  intro z hz;cases hz
  exact⟨y,h1,h2⟩
 ·intro z hz; cases hz
  exact⟨x+e.w,by show zmH s.1 e.v (x+e.w) e.v=_;unfold zmH;rw[dqP rfl],Int.le_refl _⟩
theorem zCB {E:List Ed}{s:zcA×Bool}{e:Ed}{x:Int}(he:e∈E) (h:s.1 e.u=some x):leO ((E.foldl rlF s).1 e.v) (some (x+e.w)):=by
 induction E generalizing s x with
 | nil=>cases he
 | cons f l ih =>
  rcases dqq.1 he with rfl | hm
  ·exact zeq (zAv l (rlF s e) e.v) (zK1 h)
  ·obtain ⟨x', h1, h2⟩ := zAu s f e.u x h
   intro z hz;cases hz
   obtain⟨y,k1,k2⟩:=ih hm h1 _ rfl
   exact⟨y,k1,by omega⟩
def rnd (E:List Ed) (d:zcA):zcA:=(E.foldl rlF (d,false)).1
def rds (E : List Ed) : Nat → zcA → zcA
  | 0,d=>d
  | k+1,d=>rds E k (rnd E d)
theorem zD5 (E:List Ed) (k:Nat) (d:zcA) (v:Nat):leO (rds E k d v) (d v):=by
 induction k generalizing d with
 | zero=>exact zdy _
 | succ k ih=>exact zeq (ih (rnd E d)) (zAv E (d,false) v)
theorem zK2 {E:List Ed}{c:List Ed} : ∀ {a b k:Nat}{d:zcA}{y:Int},zgQ E a c b->d a=some y->c.length≤k->leO (rds E k d b) (some (y+wt c)):=by
 induction c with
 | nil =>
  intro a b k d y h hd _
  cases h
  intro z hz;cases hz
  obtain⟨x,h1,h2⟩:=zD5 E k d a y hd
  exact⟨x,h1,by show x≤y+0;omega⟩
 | cons e l ih =>
  intro a b k d y h hd hk
  obtain⟨k,rfl⟩:∃ k',k=k'+1:=⟨k - 1,by simp only[dqr] at hk;omega⟩
  obtain⟨h1,h2,h3⟩:=h
  subst h2
  obtain⟨x,k1,k2⟩:=zCB (s:=(d,false)) h1 hd _ rfl
  intro z hz;cases hz
  obtain⟨z,m1,m2⟩:=ih (k:=k) (d:=rnd E d) h3 k1 (by simp only[dqr] at hk;omega) _ rfl
  exact⟨z,m1,by show z≤y+(e.w+wt l);omega⟩
def Fix (E:List Ed) (d:zcA):Prop:=∀ e∈E,Sat d e
theorem zpH (n:Nat):∀ {l:List Nat},l.Nodup->(∀ x∈l,x < n)->l.length≤n:=by
 induction n with
 | zero =>
  intro l _ h
  cases l with
  | nil=>exact dqt _
  | cons x l=>exact absurd (h x (dqj ..)) (Nat.not_lt_zero _)
 | succ n ih =>
  intro l hd h
  have h1:=ih (l:=l.filter (λ x=>x != n)) (hd.filter _) (λ x hx=>by
   obtain⟨hx1,hx2⟩:=List.mem_filter.1 hx
   have:=h x hx1
   have:x ≠ n:=by simpa using hx2
   omega)
  have h2:l.length≤(l.filter (λ x=>x != n)).length+1:=by
   clear h1 ih h
   induction l with
   | nil=>exact Nat.zero_le _
   | cons x l ihl =>
    rw[List.nodup_cons] at hd
    by_cases hx:x=n
    ·subst hx
     have:l.filter (λ y=>y != x)=l:=List.filter_eq_self.2 λ y hy=>by
      have:y ≠ x:=λ e=>hd.1 (e ▸ hy)
      simpa using this
     rw[List.filter_cons_of_neg (by simp),this]
     exact dqt _
    ·rw [List.filter_cons_of_pos (by simpa using hx)]
     have:=ihl hd.2
     simp only[dqr];omega
  omega
def nodes (a:Nat) (c:List Ed):List Nat:=a :: c.map Ed.v
theorem zAw (a:Nat) (c:List Ed):(nodes a c).length=c.length+1:=by simp[nodes]
theorem ztw {E:List Ed}{c:List Ed} : ∀ {a b m:Nat},zgQ E a c b->m∈nodes a c->∃ c1 c2,c=c1 ++ c2/\zgQ E a c1 m/\zgQ E m c2 b:=by
 induction c with
 | nil =>
  intro a b m h hm
  have:m=a:=by simpa [nodes] using hm
  subst this
  exact⟨[],[],rfl,rfl,h⟩
 | cons e l ih =>
  intro a b m h hm
  rcases dqq.1 hm with rfl | hm'
  ·exact⟨[],e :: l,rfl,rfl,h⟩
  ·obtain ⟨h1, h2, h3⟩ := h
   obtain⟨c1,c2,k1,k2,k3⟩:=ih h3 (m:=m) (by simpa [nodes] using hm')
   exact⟨e :: c1,c2,by rw[k1];rfl,⟨h1,h2,k2⟩,k3⟩
structure Att (E : List Ed) (Src : Nat → Prop) (d : zcA) (v : Nat) (x : Int) (a : Nat) (c : List Ed) : Prop where
  src:Src a
  ch:zgQ E a c v
  wt:x=wt c
  nd:(nodes a c).Nodup
  pre:∀ c1 c2 m,c=c1 ++ c2->zgQ E a c1 m->leO (d m) (some (Go.Pm.wt c1))
def Inv (E:List Ed) (Src:Nat->Prop) (d:zcA):Prop:=∀ v x,d v=some x->∃ a c,Att E Src d v x a c
theorem zK3 {d d':zcA}{E:List Ed}{Src:Nat->Prop}{v:Nat}{x:Int}{a:Nat}{c:List Ed}(h:Att E Src d v x a c) (hd:∀ m,leO (d' m) (d m)):Att E Src d' v x a c :=
 ⟨h.src,h.ch,h.wt,h.nd,λ c1 c2 m h1 h2=>zeq (hd m) (h.pre c1 c2 m h1 h2)⟩
theorem ztx {d:zcA}{E:List Ed}{Src:Nat->Prop}(hn:zfj E){e:Ed}(he:e∈E){x:Int}{a:Nat}{c:List Ed}(h:Att E Src d e.u x a c) (hm:e.v∈nodes a c):leO (d e.v) (some (x+e.w)):=by
 obtain⟨c1,c2,k1,k2,k3⟩:=ztw h.ch hm
 have hc:=hn e.v (c2 ++ [e]) (zcM.2 ⟨e.u,k3,zhf he⟩)
 rw[zeR,zjW] at hc
 have hx:=h.wt
 rw[k1,zeR] at hx
 obtain⟨y,m1,m2⟩:=h.pre c1 c2 e.v k1 k2 _ rfl
 intro z hz;cases hz
 exact⟨y,m1,by omega⟩
theorem zCC {E:List Ed}{c:List Ed} : ∀ {a b b':Nat},zgQ E a c b->zgQ E a c b'->b=b':=by
 induction c with
 | nil=>intro a b b' h1 h2;cases h1;cases h2;rfl
 | cons e l ih=>rintro a b b' ⟨_,_,h1⟩ ⟨_,_,h2⟩;exact ih h1 h2
theorem zoo {c c1 c2:List Ed}{e:Ed}(h:c ++ [e]=c1 ++ c2):c1=c ++ [e]∨∃ c3,c=c1 ++ c3:=by
 rcases List.append_eq_append_iff.1 h with ⟨a',h1,h2⟩ | ⟨c',h1,_⟩
 ·cases a' with
  | nil=>exact .inr ⟨[],by rw[h1];simp⟩
  | cons f a'' =>
   have:a''=[]/\c2=[]:=by
    cases a'' with
    | nil=>simp at h2;exact⟨rfl,h2.2⟩
    | cons g b=>simp at h2
   obtain⟨rfl,rfl⟩:=this
   simp at h2
   exact .inl (by rw[h1,h2])
 ·exact .inr ⟨c',h1⟩
theorem zHY {E:List Ed}{Src:Nat->Prop}(hn:zfj E){s:zcA×Bool}{e:Ed}(he:e∈E) (h:Inv E Src s.1):Inv E Src (rlF s e).1:=by
 intro v x hx
 have hle:=zAu s e
 unfold rlF at hx hle ⊢
 cases hu:s.1 e.u with
 | none =>
  simp only[hu] at hx ⊢
  obtain⟨a,c,hc⟩:=h v x hx
  exact⟨a,c,hc⟩
 | some y =>
  simp only[hu] at hx hle ⊢
  cases hl:ltO (y+e.w) (s.1 e.v) with
  | false =>
   simp only[hl,dqB] at hx ⊢
   exact h v x hx
  | true =>
   simp only[hl,dqA] at hx hle ⊢
   by_cases hv:v=e.v
   ·subst hv
    have hx':y+e.w=x:=by
     unfold zmH at hx;rw[dqP rfl] at hx;exact Option.some.inj hx
    obtain⟨a,c,hc⟩:=h e.u y hu
    have hnot:e.v ∉ nodes a c:=λ hm=>by
     obtain⟨z,h1,h2⟩:=ztx hn he hc hm _ rfl
     rw[h1] at hl
     have:=of_decide_eq_true hl
     omega
    refine⟨a,c ++ [e],hc.src,zcM.2 ⟨e.u,hc.ch,zhf he⟩,by rw[zeR,zjW,← hc.wt];omega,?_,?_⟩
    ·show (a :: (c ++ [e]).map Ed.v).Nodup
     rw[List.map_append,← List.cons_append]
     refine List.nodup_append.2 ⟨hc.nd,by simp,λ p hp q hq=>?_⟩
     have:q=e.v:=by simpa using hq
     subst this
     exact λ e'=>hnot (e' ▸ hp)
    ·intro c1 c2 m h1 h2
     rcases zoo h1 with rfl | ⟨c3,h3⟩
     ·have : m = e.v := zCC h2 (zcM.2 ⟨e.u, hc.ch, zhf he⟩)
      subst this
      intro z hz;cases hz
      refine⟨x,hx,?_⟩
      rw[zeR,zjW,← hc.wt];omega
     ·exact zeq (hle m) (hc.pre c1 c3 m h3 h2)
   ·have hx':s.1 v=some x:=by
     unfold zmH at hx;rw[dqG hv] at hx;exact hx
    obtain⟨a,c,hc⟩:=h v x hx'
    exact⟨a,c,zK3 hc hle⟩
theorem zCD {E F:List Ed}{Src:Nat->Prop}(hn:zfj E) (hF:∀ e∈F,e∈E){s:zcA×Bool}(h:Inv E Src s.1):Inv E Src (F.foldl rlF s).1:=by
 induction F generalizing s with
 | nil=>exact h
 | cons e l ih=>exact ih (λ e he=>hF e (dqf _ he)) (zHY hn (hF e (dqj ..)) h)
theorem zHZ {E:List Ed}{Src:Nat->Prop}(hn:zfj E) (k:Nat){d:zcA}(h:Inv E Src d):Inv E Src (rds E k d):=by
 induction k generalizing d with
 | zero=>exact h
 | succ k ih=>exact ih (zCD hn (λ _ h=>h) (s:=(d,false)) h)
structure Start (Src : Nat → Prop) (d : zcA) : Prop where
  only:∀ v x,d v=Option.some x->Src v/\x=0
  src:∀ v,Src v->d v=Option.some 0
theorem zAx {E:List Ed}{Src:Nat->Prop}{d:zcA}(h:Start Src d):Inv E Src d:=λ v x hx=>by
 obtain⟨h1,h2⟩:=h.only v x hx
 refine⟨v,[],h1,rfl,h2,by simp[nodes],λ c1 c2 m e hc=>?_⟩
 have:c1=[]:=by
  cases c1 with
  | nil=>rfl
  | cons _ _=>cases e
 subst this
 cases hc
 rw[hx,h2]
 exact zdy _
theorem zop {E:List Ed}{n:Nat}(hE:∀ e∈E,e.u < n/\e.v < n){c:List Ed} : ∀ {a b:Nat},a < n->zgQ E a c b->∀ x∈nodes a c,x < n:=by
  induction c with
  | nil => intro a b ha _ x hx; have : x = a := by simpa [nodes] using hx
           omega
  | cons e l ih =>
    rintro a b ha ⟨h1,h2,h3⟩ x hx
    rcases dqq.1 hx with rfl | hm
    · exact ha
    · exact ih (hE e h1).2 h3 x (by simpa [nodes] using hm)
theorem zK4 {E:List Ed}{n:Nat}{Src:Nat->Prop}(hn:zfj E) (hE:∀ e∈E,e.u < n/\e.v < n) (hS:∀ a,Src a->a < n){d:zcA}(h0:Start Src d):Fix E (rds E (n - 1) d):=by
 intro e he x hx
 obtain⟨a,c,hc⟩:=zHZ hn (n - 1) (zAx (E:=E) h0) e.u x hx
 by_cases hm:e.v∈nodes a c
 ·exact ztx hn he hc hm _ rfl
 ·have hlen:(c ++ [e]).length≤n - 1:=by
   have hnd:(nodes a (c ++ [e])).Nodup:=by
    show (a :: (c ++ [e]).map Ed.v).Nodup
    rw[List.map_append,← List.cons_append]
    refine List.nodup_append.2 ⟨hc.nd,by simp,λ p hp q hq=>?_⟩
    have:q=e.v:=by simpa using hq
    subst this
    exact λ e'=>hm (e' ▸ hp)
   have hch:zgQ E a (c ++ [e]) e.v:=zcM.2 ⟨e.u,hc.ch,zhf he⟩
   have:=zpH n hnd (zop hE (hS a hc.src) hch)
   rw[zAw] at this
   omega
  have:=zK2 (zcM.2 ⟨e.u,hc.ch,zhf he⟩) (h0.src a hc.src) hlen _ rfl
  rw[zeR,zjW,← hc.wt] at this
  obtain⟨z,h1,h2⟩:=this
  exact⟨z,h1,by omega⟩
theorem zK5 {E:List Ed}{f:Nat->Int}(h:∀ e∈E,f e.v≤f e.u+e.w){c:List Ed} : ∀ {a b:Nat},zgQ E a c b->f b≤f a+wt c:=by
 induction c with
 | nil=>intro a b hc;cases hc;show f a≤f a+0;omega
 | cons e l ih =>
  rintro a b ⟨h1,h2,h3⟩
  subst h2
  have:=ih h3
  have:=h e h1
  show f b≤f e.u+(e.w+wt l);omega
theorem zAy {E:List Ed}{f:Nat->Int}(h:∀ e∈E,f e.v≤f e.u+e.w):zfj E:=λ a c hc=>by
 have:=zK5 h hc;omega
end Go.Pm
namespace Go.Pm
def edM (e:Ed):Ed:=⟨e.u,e.v,e.w * 1048576+1⟩
def edR (e:Ed):Ed:=⟨e.v,e.u,e.w⟩
theorem zOJ (c:List Ed):wt (c.reverse.map edR)=wt c:=by
 induction c with
 | nil=>rfl
 | cons e l ih =>
  rw[List.reverse_cons,List.map_append,zeR,ih]
  show wt l+wt [edR e]=e.w+wt l
  rw[zjW]
  show wt l+e.w=_
  omega
theorem zOK {E:List Ed}{c:List Ed} : ∀ {a b:Nat},zgQ E a c b->zgQ (E.map edR) b (c.reverse.map edR) a:=by
 induction c with
 | nil=>intro a b h;exact Eq.symm h
 | cons e l ih =>
  rintro a b ⟨h1,h2,h3⟩
  rw[List.reverse_cons,List.map_append]
  exact zcM.2 ⟨e.v,ih h3,List.mem_map_of_mem h1,rfl,h2⟩
theorem zK6 (E:List Ed):(E.map edR).map edR=E:=by
 rw[List.map_map]
 exact (List.map_congr_left λ e _=>rfl).trans (List.map_id E)
theorem zK7 {E:List Ed}{c:List Ed}{a b:Nat}(h:zgQ (E.map edR) a c b):∃ c0,zgQ E b c0 a/\wt c0=wt c/\c0.length=c.length:=by
 have:=zOK h
 rw[zK6] at this
 exact⟨_,this,zOJ c,by simp⟩
theorem zH0 {E:List Ed}(h:zfj E):zfj (E.map edR):=λ a c hc=>by
 obtain⟨c0,h1,h2,_⟩:=zK7 hc
 rw[← h2];exact h a c0 h1
theorem zK8 {E F:List Ed}(h:∀ e∈E,e∈F){c:List Ed} : ∀ {a b:Nat},zgQ E a c b->zgQ F a c b:=by
 induction c with
 | nil=>intro a b h;exact h
 | cons e l ih=>rintro a b ⟨h1,h2,h3⟩;exact⟨h e h1,h2,ih h3⟩
def zOL : Option Int → Int × Int
  | none=>((1000000000000:Int),(0:Int))
  | some x=>(x / 1048576,x % 1048576)
def zuC (s:Nat):zcA:=λ v=>if v=s then some 0 else none
structure EdOk (E : List Ed) (n : Nat) : Prop where
  lt:∀ e∈E,e.u < n/\e.v < n
  w:∀ e∈E,-1000000000≤e.w/\e.w≤1000000000
  n1:1≤n
  n40:n≤40
structure Ent (E : List Ed) (n s v : Nat) (x L U : Int) (c : List Ed) : Prop where
  ch:zgQ E s c v
  x:x=L * 1048576+U
  L:L=wt c
  U:U=c.length
  len:c.length < n
def dst (E:List Ed) (n s:Nat):zcA:=rds (E.map edM) (n - 1) (zuC s)
def zOM (o:Option Int):Int:=(zOL o).1
end Go.Pm
namespace Go.Pm
def zoq (E : List Ed) : Nat → zcA → Bool
  | 0,_=>true
  | k+1,d=>cond (E.foldl rlF (d,false)).2 (zoq E k (rnd E d)) false
theorem zsq {E:List Ed}{k:Nat} : ∀ {m:Nat}{d:zcA},Fix E (rds E k d)->k < m->zoq E m d=false:=by
 induction k with
 | zero =>
  intro m d h hm
  obtain⟨m,rfl⟩:∃ m',m=m'+1:=⟨m - 1,by omega⟩
  show cond (E.foldl rlF (d,false)).2 _ _=false
  rw[zCA (show ∀ e∈E,Sat d e from h)];rfl
 | succ k ih =>
  intro m d h hm
  obtain⟨m,rfl⟩:∃ m',m=m'+1:=⟨m - 1,by omega⟩
  show cond (E.foldl rlF (d,false)).2 (zoq E m (rnd E d)) false=false
  rw[ih (m:=m) (d:=rnd E d) h (by omega)]
  cases (E.foldl rlF (d,false)).2 <;> rfl
theorem zCE {E:List Ed}{m:Nat} : ∀ {d:zcA},zoq E m d=false->∃ k,Fix E (rds E k d):=by
 induction m with
 | zero=>intro d h;cases h
 | succ m ih =>
  intro d h
  have h':cond (E.foldl rlF (d,false)).2 (zoq E m (rnd E d)) false=false:=h
  cases hc:(E.foldl rlF (d,false)).2
  ·exact⟨0,zuo hc⟩
  ·rw [hc] at h'
   obtain⟨k,hk⟩:=ih h'
   exact⟨k+1,hk⟩
def zAS (n:Nat):zcA:=λ v=>if v < n then some 0 else none
theorem zup (n:Nat):Start (λ v=>v < n) (zAS n) :=
 ⟨λ v x h=>(by
  unfold zAS at h
  by_cases hv:v < n
  ·rw[dqP hv] at h;cases h;exact⟨hv,rfl⟩
  ·rw[dqG hv] at h;cases h),λ v h=>dqP h⟩
theorem zCF {E:List Ed}{n:Nat}(hE:EdOk E n):zoq E n (zAS n)=false↔zfj E:=by
 constructor
 ·intro h
  obtain⟨k,hk⟩:=zCE h
  have hsome:∀ v,v < n->∃ x,rds E k (zAS n) v=some x:=λ v hv=>by
   obtain⟨x,hx,_⟩:=zD5 E k (zAS n) v 0 (dqP hv)
   exact⟨x,hx⟩
  refine zAy (f:=λ v=>(rds E k (zAS n) v).getD 0) λ e he=>?_
  obtain⟨x,hx⟩:=hsome e.u (hE.lt e he).1
  obtain⟨y,hy,hxy⟩:=hk e he x hx
  show (rds E k (zAS n) e.v).getD 0≤(rds E k (zAS n) e.u).getD 0+e.w
  rw[hx,hy];exact hxy
 ·intro h
  have:=hE.n1
  exact zsq (zK4 h hE.lt (λ a ha=>ha) (zup n)) (by omega)
theorem zlP {c:List Ed}(h : ¬ (c.map Ed.v).Nodup):∃ c1 e c2 f c3,c=c1 ++ e :: (c2 ++ f :: c3)/\e.v=f.v:=by
 induction c with
 | nil=>exact absurd (by simp) h
 | cons e l ih =>
  by_cases hm:e.v∈l.map Ed.v
  ·obtain ⟨f, h1, h2⟩ := dqz.1 hm
   obtain⟨c2,c3,h3⟩:=List.append_of_mem h1
   exact⟨[],e,c2,f,c3,by rw[h3];rfl,h2.symm⟩
  ·have : ¬ (l.map Ed.v).Nodup := fun hl => h (by rw [List.map_cons, List.nodup_cons]; exact ⟨hm, hl⟩)
   obtain⟨c1,e',c2,f,c3,h1,h2⟩:=ih this
   exact⟨e :: c1,e',c2,f,c3,by rw[h1];rfl,h2⟩
theorem zuq {E:List Ed}(m:Nat):∀ {a:Nat}{c:List Ed},c.length≤m->zgQ E a c a->wt c < 0->∃ b d,zgQ E b d b/\wt d < 0/\(d.map Ed.v).Nodup:=by
 induction m with
 | zero =>
  intro a c hl _ hw
  have:c=[]:=List.length_eq_zero_iff.1 (by omega)
  subst this
  exact absurd hw (by show ¬ (0:Int) < 0;omega)
 | succ m ih =>
  intro a c hl hc hw
  by_cases hn:(c.map Ed.v).Nodup
  ·exact⟨a,c,hc,hw,hn⟩
  ·obtain ⟨c1, e, c2, f, c3, rfl, hef⟩ := zlP hn
   obtain⟨p,h1,h2,h3,h4⟩:=zcM.1 hc
   obtain⟨q,h5,h6,h7,h8⟩:=zcM.1 h4
   simp only[dqu,dqr] at hl
   have hcy:zgQ E e.v (c2 ++ [f]) e.v:=zcM.2 ⟨q,h5,h6,h7,hef.symm⟩
   have hre:zgQ E a (c1 ++ e :: c3) a:=zcM.2 ⟨p,h1,h2,h3,by rw[hef];exact h8⟩
   rw[zeR] at hw
   have hw':wt c1+(e.w+wt (c2 ++ f :: c3)) < 0:=hw
   rw[zeR] at hw'
   have hw'':wt c1+(e.w+(wt c2+(f.w+wt c3))) < 0:=hw'
   by_cases h:wt (c2 ++ [f]) < 0
   ·exact ih (by simp only[dqu,dqr,List.length_nil];omega) hcy h
   ·refine ih (c := c1 ++ e :: c3) (by simp only [dqu, dqr]; omega) hre ?_
    rw[zeR,zjW] at h
    rw[zeR]
    show wt c1+(e.w+wt c3) < 0
    omega
theorem exists_least {l:List Nat}(h:l ≠ []):∃ m∈l,∀ x∈l,m≤x:=by
 induction l with
 | nil=>exact absurd rfl h
 | cons a l ih =>
  by_cases hl:l=[]
  ·subst hl;exact⟨a,by simp,by simp⟩
  ·obtain ⟨m, h1, h2⟩ := ih hl
   by_cases hm:m≤a
   ·exact⟨m,dqf _ h1,λ x hx=>by
     rcases dqq.1 hx with rfl | hx
     ·exact hm
     ·exact h2 x hx⟩
   ·exact⟨a,dqj ..,λ x hx=>by
     rcases dqq.1 hx with rfl | hx
     ·exact dqt _
     ·have:=h2 x hx;omega⟩
theorem zAz {E:List Ed}{n:Nat}(hE:∀ e∈E,e.u < n/\e.v < n) (h : ¬ zfj E):∃ a c,a < n/\zgQ E a c a/\wt c < 0/\c.length≤n/\∀ e∈c,a≤e.u/\a≤e.v:=by
 obtain⟨a,h⟩:=Classical.not_forall.1 h
 obtain⟨c,h⟩:=Classical.not_forall.1 h
 obtain⟨hc,hw⟩:=Classical.not_imp.1 h
 obtain⟨b,d,h1,h2,h3⟩:=zuq c.length (dqt _) hc (by omega)
 have hd:d ≠ []:=λ e=>by subst e;exact absurd h2 (by show ¬ (0:Int) < 0;omega)
 have hb:b < n:=by
  cases d with
  | nil=>exact absurd rfl hd
  | cons e l=>obtain⟨k1,k2,_⟩:=h1;have:=(hE e k1).1;omega
 have hlen:d.length≤n:=by
  have:=zpH n h3 (λ x hx=>zop hE hb h1 x (dqf _ hx))
  rwa[List.length_map] at this
 obtain⟨m,m1,m2⟩:=exists_least (l:=nodes b d) (by simp[nodes])
 obtain⟨c1,c2,k1,k2,k3⟩:=ztw h1 m1
 have hcl:zgQ E m (c2 ++ c1) m:=zcM.2 ⟨b,k3,k2⟩
 refine⟨m,c2 ++ c1,zop hE hb h1 m m1,hcl,?_,?_,?_⟩
 ·rw[k1,zeR] at h2;rw[zeR];omega
 ·rw[k1,dqu] at hlen;rw[dqu];omega
 ·have hu:∀ {c:List Ed} {a b:Nat},zgQ E a c b->∀ e∈c,e.u∈nodes a c/\e.v∈nodes a c:=by
   intro c
   induction c with
   | nil=>intro a b _ e he;cases he
   | cons f l ih =>
    rintro a b ⟨j1,j2,j3⟩ e he
    rcases dqq.1 he with rfl | hm
    ·exact⟨by rw[j2];exact dqj ..,by simp[nodes]⟩
    ·obtain ⟨i1, i2⟩ := ih j3 e hm
     have hsub:∀ x,x∈nodes f.v l->x∈nodes a (f :: l):=λ x hx=>dqf _ (by simpa [nodes] using hx)
     exact⟨hsub _ i1,hsub _ i2⟩
  intro e he
  have he':e∈d:=by
   rw[k1]
   rcases dqg.1 he with h | h
   ·exact dqg.2 (.inr h)
   ·exact dqg.2 (.inl h)
  obtain⟨i1,i2⟩:=hu h1 e he'
  exact⟨m2 _ i1,m2 _ i2⟩
end Go.Pm
namespace Go.Proofs
open Go Go.Pm
set_option maxRecDepth 100000
set_option linter.unusedVariables false
theorem zhj {n:Nat}{F:Tab}{k:Nat}(hk:k < n):tg n F k=F k:=by
 unfold tg zl7
 have h:(zm (zhW 0 n F))[k]? = some (.p (.int .i64 (F k))):=by
  rw[zm,dqH,zgS n 0 F k hk,Nat.zero_add];rfl
 rw[h]
theorem zD6 {n:Nat}{F:Tab}{k:Nat}{v:Int}{j:Nat}(hj:j < n):ts n F k [v] j=if j=k then v else F j:=by
 show (match Nat.beq j k with | true=>v | false=>tg n F j)=_
 by_cases h:j=k
 ·rw[dqP h,show Nat.beq j k=true from by rw[h];exact Nat.beq_refl _]
 ·rw[dqG h,show Nat.beq j k=false from Bool.eq_false_iff.2 λ e=>h (dqc e)];exact zhj hj
theorem zjX {n:Nat}{F:Tab}{k:Nat}{v w:Int}{j:Nat}(hj:j < n):ts n F k [v,w] j=if j=k+1 then w else if j=k then v else F j:=by
 show (match Nat.beq j (k+1) with | true=>w | false=>(match Nat.beq j k with | true=>v | false=>tg n F j))=_
 by_cases h:j=k+1
 ·rw[dqP h,show Nat.beq j (k+1)=true from by rw[h];exact Nat.beq_refl _]
 ·rw [dqG h, show Nat.beq j (k + 1) = false from Bool.eq_false_iff.2 fun e => h (dqc e)]
  by_cases h':j=k
  ·rw[dqP h',show Nat.beq j k=true from by rw[h'];exact Nat.beq_refl _]
  ·rw[dqG h',show Nat.beq j k=false from Bool.eq_false_iff.2 λ e=>h' (dqc e)];exact zhj hj
def fwS (t:Tie) (i:Nat):step:=⟨⟨(i:Int),false⟩,t.From,t.To,t.High⟩
def bwS (t:Tie) (i:Nat):step:=⟨⟨(i:Int),true⟩,t.To,t.From,w64 (0 - t.Low)⟩
def zK9 (a:web) (i:Nat):Bool:=(ztF (a.out.F [(i:Int)]) 0) != 0
def stK (a:web) (i:Nat):List step :=
 cond (zK9 a i) [] ((cond ((a.Net.Ties.get i).High != (1000000000000:Int)) [fwS (a.Net.Ties.get i) i] []) ++ (cond ((a.Net.Ties.get i).Low != (-1000000000000:Int)) [bwS (a.Net.Ties.get i) i] []))
def stL (a : web) : Nat → Nat → List step
  | 0,_=>[]
  | m+1,i=>stK a i ++ stL a m (i+1)
theorem zor (a:web) (hn:a.Net.Ties.len≤9223372036854775807):zuA a=true/\zlr a=stL a a.Net.Ties.len 0:=by
 have key:∀ (m k i:Nat),i+m=a.Net.Ties.len->m < k->zeI a k (i:Int)=true/\zeH a k (i:Int)=stL a m i:=by
  intro m
  induction m with
  | zero =>
   intro k i hi hk
   obtain⟨k,rfl⟩:∃ k',k=k'+1:=⟨k - 1,by omega⟩
   constructor
   ·show zfD a (zeI a k) (i : Int) = true
    unfold zfD
    rw[dqF (show ¬ (i:Int) < (a.Net.Ties.len:Int) by omega),dqB]
   ·show zfC a (zeH a k) (i : Int) = []
    unfold zfC
    rw[dqF (show ¬ (i:Int) < (a.Net.Ties.len:Int) by omega),dqB]
  | succ m ih =>
   intro k i hi hk
   obtain⟨k,rfl⟩:∃ k',k=k'+1:=⟨k - 1,by omega⟩
   obtain⟨h1,h2⟩:=ih k (i+1) (by omega) (by omega)
   constructor
   ·show zfD a (zeI a k) (i : Int) = true
    unfold zfD
    rw[dqT (show (i:Int) < (a.Net.Ties.len:Int) by omega),dqA,dqT (show 0≤(i:Int)/\(i:Int) < (a.Net.Ties.len:Int) by omega),Bool.true_and,zfQ (n:=a.Net.Ties.len) (by omega) hn,h1]
    generalize (ztF (a.out.F [(i:Int)]) 0 != 0)=b1
    generalize (s94 (⟨(a.Net.Ties.get ((i:Int)).toNat),(i:Int)⟩:tie)).2=b2
    generalize (s95 (⟨(a.Net.Ties.get ((i:Int)).toNat),(i:Int)⟩:tie)).2=b3
    cases b1 <;> cases b2 <;> cases b3 <;> rfl
   ·show zfC a (zeH a k) (i : Int) = stK a i ++ stL a m (i + 1)
    unfold zfC
    rw[dqT (show (i:Int) < (a.Net.Ties.len:Int) by omega),dqA,dqN,zfQ (n:=a.Net.Ties.len) (by omega) hn,h2]
    unfold stK zK9 s94 s95
    generalize (ztF (a.out.F [(i:Int)]) 0 != 0)=b1
    show cond b1 _ (cond ((a.Net.Ties.get i).High != (1000000000000:Int)) (_ :: cond ((a.Net.Ties.get i).Low != (-1000000000000:Int)) (_ :: _) _) (cond ((a.Net.Ties.get i).Low != (-1000000000000:Int)) (_ :: _) _))=_
    generalize ((a.Net.Ties.get i).High != (1000000000000:Int))=b2
    generalize ((a.Net.Ties.get i).Low != (-1000000000000:Int))=b3
    cases b1 <;> cases b2 <;> cases b3 <;> rfl
 exact key a.Net.Ties.len Fuel 0 (by omega) (by simp only[Fuel];omega)
theorem zlQ {a:web}{y:step} : ∀ {m i:Nat},y∈stL a m i↔∃ j,i≤j/\j < i+m/\y∈stK a j:=by
 intro m
 induction m with
 | zero=>intro i;exact⟨λ h=>(by cases h),λ ⟨j,h1,h2,_⟩=>(by omega)⟩
 | succ m ih =>
  intro i
  show y∈stK a i ++ stL a m (i+1)↔_
  rw[dqg,ih]
  constructor
  ·rintro (h | ⟨j, h1, h2, h3⟩)
   ·exact⟨i,dqt _,by omega,h⟩
   ·exact⟨j,by omega,by omega,h3⟩
  ·rintro ⟨j, h1, h2, h3⟩
   by_cases h:j=i
   ·subst h;exact .inl h3
   ·exact .inr ⟨j,by omega,by omega,h3⟩
theorem zlR {a:web}{y:step}{j:Nat} : y∈stK a j↔zK9 a j=false/\(((a.Net.Ties.get j).High ≠ 1000000000000/\y=fwS (a.Net.Ties.get j) j)∨((a.Net.Ties.get j).Low ≠ -1000000000000/\y=bwS (a.Net.Ties.get j) j)):=by
 unfold stK
 cases h:zK9 a j
 ·rw [dqB, dqg]
  by_cases h1:(a.Net.Ties.get j).High=1000000000000
  ·rw [show ((a.Net.Ties.get j).High != (1000000000000:Int)) = false by rw [h1]; rfl, dqB]
   by_cases h2:(a.Net.Ties.get j).Low = -1000000000000
   ·rw [show ((a.Net.Ties.get j).Low != (-1000000000000:Int)) = false by rw [h2]; rfl, dqB]
    simp[h1,h2]
   ·rw [bne_iff_ne.2 h2, dqA]
    simp[h1,h2]
  ·rw [bne_iff_ne.2 h1, dqA]
   by_cases h2:(a.Net.Ties.get j).Low = -1000000000000
   ·rw [show ((a.Net.Ties.get j).Low != (-1000000000000:Int)) = false by rw [h2]; rfl, dqB]
    simp[h1,h2]
   ·rw [bne_iff_ne.2 h2, dqA]
    simp[h1,h2]
 ·rw[dqA];simp
theorem zH1 (a:web):∀ m i,(stL a m i).length≤2 * m:=by
 intro m
 induction m with
 | zero=>intro i;exact dqt _
 | succ m ih =>
  intro i
  show (stK a i ++ stL a m (i+1)).length≤_
  rw[dqu]
  have:=ih (i+1)
  have:(stK a i).length≤2:=by
   unfold stK
   cases zK9 a i <;> cases ((a.Net.Ties.get i).High != (1000000000000:Int)) <;> cases ((a.Net.Ties.get i).Low != (-1000000000000:Int)) <;> simp
  omega
def edS (y:step):Ed:=⟨y.from_.toNat,y.to.toNat,y.length⟩
structure StOk (y : step) (N : Nat) : Prop where
  f0:0≤y.from_
  f1:y.from_ < N
  t0:0≤y.to
  t1:y.to < N
  l0 : -1000000000≤y.length
  l1:y.length≤1000000000
abbrev Ws (a:web):List step:=stL a a.Net.Ties.len 0
def We (a:web):List Ed:=(Ws a).map edS
theorem zLa {t:Tie}{N:Int}(h:TieOk t N) (h':t.Low ≠ -1000000000000):w64 (0 - t.Low) = -t.Low:=by
 have:=h.lo.resolve_left h'
 rw[za9 (by omega) (by omega)];omega
theorem zpI {a:web}(hn:NetOk a.Net){y:step}(hy:y∈Ws a):StOk y a.Net.Nodes.toNat:=by
 obtain⟨j,_,h2,h3⟩:=zlQ.1 hy
 have h:=hn.tie j (by omega)
 have:=h.f0;have:=h.f1;have:=h.t0;have:=h.t1
 rcases (zlR.1 h3).2 with ⟨h4,rfl⟩ | ⟨h4,rfl⟩
 ·have := h.hi.resolve_left h4
  exact⟨h.f0,by show (a.Net.Ties.get j).From < _;omega,h.t0,by show (a.Net.Ties.get j).To < _;omega,this.1,this.2⟩
 ·have := h.lo.resolve_left h4
  have e:=zLa h h4
  exact⟨h.t0,by show (a.Net.Ties.get j).To < _;omega,h.f0,by show (a.Net.Ties.get j).From < _;omega,by show _≤w64 (0 - (a.Net.Ties.get j).Low);omega,by show w64 (0 - (a.Net.Ties.get j).Low)≤_;omega⟩
theorem zty {a:web}(hn:NetOk a.Net):(Ws a).length≤400:=by
 have h1:=zH1 a a.Net.Ties.len 0
 have h2:=hn.len
 show (stL a a.Net.Ties.len 0).length≤400
 omega
theorem zNG {a:web}(hn:NetOk a.Net):EdOk (We a) a.Net.Nodes.toNat:=by
 have:=hn.n1;have:=hn.n40
 refine⟨λ e he=>?_,λ e he=>?_,by omega,by omega⟩
 ·obtain ⟨y, hy, rfl⟩ := dqz.1 he
  have h:=zpI hn hy
  have:=h.f0;have:=h.f1;have:=h.t0;have:=h.t1
  exact⟨by show y.from_.toNat < _;omega,by show y.to.toNat < _;omega⟩
 ·obtain ⟨y, hy, rfl⟩ := dqz.1 he
  have h:=zpI hn hy
  exact⟨h.l0,h.l1⟩
end Go.Proofs
namespace Go.Proofs
open Go Go.Pm
set_option maxRecDepth 100000
set_option linter.unusedVariables false
def Rt (N:Nat) (T:Tab) (d:zcA):Prop:=∀ v,v < N->d v=some (T v)
def Bd (B:Int) (T:Tab):Prop:=∀ v,v < 40->-B≤T v/\T v≤0
theorem zAA (a:web){N:Nat}(hN:N≤40) (S0:Int->Tab->Bool) (P0:Int->Tab->Bool):∀ (l:List step),(∀ y∈l,StOk y N)->∀ (t:Int) (c:Bool) (T:Tab) (d:zcA) (B:Int),Rt N T d->Bd B T->0≤B->B+l.length * 1000000000≤100000000000000000 ->
    ∃ T',zge S0 a l t c T=zny S0 a t ((l.map edS).foldl rlF (d,c)).2 T'/\zgf P0 a l t c T=znz P0 a t ((l.map edS).foldl rlF (d,c)).2 T'/\Rt N T' ((l.map edS).foldl rlF (d,c)).1/\Bd (B+l.length * 1000000000) T':=by
  intro l
  induction l with
  | nil=>intro _ t c T d B h1 h2 _ _;exact⟨T,rfl,rfl,h1,by simpa using h2⟩
  | cons y l ih =>
    intro hl t c T d B h1 h2 h3 h4
    have hy:=hl y (dqj ..)
    have hl':∀ y∈l,StOk y N:=λ z hz=>hl z (dqf _ hz)
    rw[dqr] at h4
    have f0:=hy.f0;have f1:=hy.f1;have t0:=hy.t0;have t1:=hy.t1;have l0:=hy.l0;have l1:=hy.l1
    have hf:=h1 y.from_.toNat (by omega)
    have ht:=h1 y.to.toNat (by omega)
    have bf:=h2 y.from_.toNat (by omega)
    have bt:=h2 y.to.toNat (by omega)
    have e1:0+y.from_.toNat * 1+0=y.from_.toNat:=by omega
    have e2:0+y.to.toNat * 1+0=y.to.toNat:=by omega
    have hr:rlF (d,c) (edS y)=cond (decide (T y.from_.toNat+y.length < T y.to.toNat)) (zmH d y.to.toNat (T y.from_.toNat+y.length),true) (d,c):=by
      unfold rlF edS
      simp only[hf,ht]
      rfl
    have hS:zge S0 a (y :: l) t c T=cond (decide (T y.from_.toNat+y.length < T y.to.toNat)) (zge S0 a l t true (ts 40 T y.to.toNat [T y.from_.toNat+y.length])) (zge S0 a l t c T):=by
      show znA S0 a y (zge S0 a l) t c T=_
      generalize zge S0 a l=S
      unfold znA
      rw[e1,e2,zhj (by omega),zhj (by omega),za9 (by omega) (by omega)]
    have hP:zgf P0 a (y :: l) t c T=cond (decide (T y.from_.toNat+y.length < T y.to.toNat)) (zgf P0 a l t true (ts 40 T y.to.toNat [T y.from_.toNat+y.length])) (zgf P0 a l t c T):=by
      show znB P0 a y (zgf P0 a l) t c T=_
      generalize zgf P0 a l=S
      unfold znB
      rw[e1,e2,zhj (by omega),zhj (by omega),za9 (by omega) (by omega),dqT (show 0≤y.from_/\y.from_ < (40:Int) by omega),dqT (show 0≤y.to/\y.to < (40:Int) by omega)]
      cases decide (T y.from_.toNat+y.length < T y.to.toNat) <;> rfl
    show ∃ T',_=zny S0 a t ((l.map edS).foldl rlF (rlF (d,c) (edS y))).2 T'/\_=znz P0 a t ((l.map edS).foldl rlF (rlF (d,c) (edS y))).2 T'/\Rt N T' ((l.map edS).foldl rlF (rlF (d,c) (edS y))).1/\_
    rw[hS,hP,hr]
    by_cases hlt:T y.from_.toNat+y.length < T y.to.toNat
    · rw [dqT hlt, dqA, dqA, dqA]
      obtain ⟨T', k1, k2, k3, k4⟩ := ih hl' t true (ts 40 T y.to.toNat [T y.from_.toNat + y.length]) (zmH d y.to.toNat (T y.from_.toNat + y.length)) (B + 1000000000)
        (λ v hv=>by
          rw[zD6 (by omega)]
          unfold zmH
          by_cases h:v=y.to.toNat
          · rw[dqP h,dqP h]
          · rw[dqG h,dqG h];exact h1 v hv)
        (λ v hv=>by
          rw[zD6 hv]
          by_cases h:v=y.to.toNat
          · rw[dqP h];omega
          · rw[dqG h];have:=h2 v hv;omega) (by omega) (by omega)
      refine⟨T',k1,k2,k3,?_⟩
      rw[dqr,show B+((l.length+1:Nat):Int) * 1000000000=B+1000000000+(l.length:Int) * 1000000000 by omega]
      exact k4
    · rw [dqF hlt, dqB, dqB, dqB]
      obtain⟨T',k1,k2,k3,k4⟩:=ih hl' t c T d B h1 h2 h3 (by omega)
      refine⟨T',k1,k2,k3,λ v hv=>?_⟩
      have:=k4 v hv
      rw[dqr]
      omega
theorem zsr (a:web) (hn:NetOk a.Net):∀ (m k i:Nat) (T:Tab) (d:zcA) (B:Int),Rt a.Net.Nodes.toNat T d->Bd B T->0≤B->B+m * 400000000000≤100000000000000000->(i:Int)+m=a.Net.Nodes->m < k ->
  ziT a k (i:Int) T=true/\ziS a k (i:Int) T=zoq (We a) m d:=by
 have hn1:=hn.n1;have hn40:=hn.n40;have hlen:=hn.len
 obtain⟨q1,q2⟩:=zor a (by omega)
 intro m
 induction m with
 | zero =>
  intro k i T d B _ _ _ _ hi hk
  obtain⟨k,rfl⟩:∃ k',k=k'+1:=⟨k - 1,by omega⟩
  constructor
  ·show ziR a (ziT a k) (i : Int) T = true
   unfold ziR
   rw[dqF (show ¬ (i:Int) < a.Net.Nodes by omega),dqB]
  ·show ziQ a (ziS a k) (i : Int) T = true
   unfold ziQ
   rw[dqF (show ¬ (i:Int) < a.Net.Nodes by omega),dqB]
 | succ m ih =>
  intro k i T d B h1 h2 h3 h4 hi hk
  obtain⟨k,rfl⟩:∃ k',k=k'+1:=⟨k - 1,by omega⟩
  have hwl:=zty hn
  obtain⟨T',k1,k2,k3,k4⟩:=zAA a (N:=a.Net.Nodes.toNat) (by omega) (ziS a k) (ziT a k) (Ws a) (λ y hy=>zpI hn hy) (i:Int) false T d B h1 h2 h3 (by omega)
  have hB:Bd (B+400000000000) T':=λ v hv=>by have:=k4 v hv;omega
  have hw:w64 ((i:Int)+(1:Int))=((i+1:Nat):Int):=by rw[za9 (by omega) (by omega)];omega
  obtain⟨r1,r2⟩:=ih k (i+1) T' (rnd (We a) d) (B+400000000000) k3 hB (by omega) (by omega) (by omega) (by omega)
  constructor
  ·show ziR a (ziT a k) (i : Int) T = true
   unfold ziR zqD
   rw[dqT (show (i:Int) < a.Net.Nodes by omega),dqA,q1,q2,k2]
   unfold znz
   rw[hw,r1]
   cases ((Ws a).map edS |>.foldl rlF (d,false)).2 <;> rfl
  ·show ziQ a (ziS a k) (i : Int) T = cond ((We a).foldl rlF (d, false)).2 (zoq (We a) m (rnd (We a) d)) false
   unfold ziQ zqC
   rw[dqT (show (i:Int) < a.Net.Nodes by omega),dqA,q2,k1]
   unfold zny
   rw[hw,r2]
   show cond (!((We a).foldl rlF (d,false)).2) false _=_
   cases ((We a).foldl rlF (d,false)).2 <;> rfl
theorem zAB (a:web) (hn:NetOk a.Net):p88 a=true/\s88 a=zoq (We a) a.Net.Nodes.toNat (zAS a.Net.Nodes.toNat):=by
 have hn1:=hn.n1;have hn40:=hn.n40
 have:=zsr a hn a.Net.Nodes.toNat Fuel 0 (λ _=>(0:Int)) (zAS a.Net.Nodes.toNat) 0 (λ v hv=>dqP hv) (λ v hv=>⟨by show -(0:Int)≤(0:Int);omega,Int.le_refl _⟩) (by omega) (by omega) (by omega) (by simp only[Fuel];omega)
 exact this
theorem zH2 (a:web) (hn:NetOk a.Net):s88 a=false↔zfj (We a):=by
 rw[(zAB a hn).2];exact zCF (zNG hn)
end Go.Proofs
namespace Go.Proofs
open Go Go.Pm
set_option maxRecDepth 100000
set_option linter.unusedVariables false
theorem ztz (a b:far):zDi a ⟨1,λ _=>b⟩=true/\zfi a ⟨1,λ _=>b⟩=cond (zBU b a) b a:=by
 unfold zDi zfi znF znE
 have key:∀ k,zgZ (⟨1,λ _=>b⟩:Sl far) (k+2) (0:Int) a.length a.uses=true/\zgY (⟨1,λ _=>b⟩:Sl far) (k+2) (0:Int) a.length a.uses=cond (zBU b a) b a:=by
  intro k
  have hw:w64 ((0:Int)+(1:Int))=(1:Int):=by rw[za9 (by omega) (by omega)];rfl
  have e1:∀ x y,zgY (⟨1,λ _=>b⟩:Sl far) (k+1) (1:Int) x y=(⟨x,y⟩:far):=λ x y=>by
   show zgW (⟨1,λ _=>b⟩:Sl far) (zgY (⟨1,λ _=>b⟩:Sl far) k) (1:Int) x y=_
   unfold zgW
   rw[dqF (show ¬ (1:Int) < ((1:Nat):Int) by omega),dqB]
  have e2:∀ x y,zgZ (⟨1,λ _=>b⟩:Sl far) (k+1) (1:Int) x y=true:=λ x y=>by
   show zgX (⟨1,λ _=>b⟩:Sl far) (zgZ (⟨1,λ _=>b⟩:Sl far) k) (1:Int) x y=_
   unfold zgX
   rw[dqF (show ¬ (1:Int) < ((1:Nat):Int) by omega),dqB]
  constructor
  ·show zgX (⟨1, fun _ => b⟩ : Sl far) (zgZ (⟨1, fun _ => b⟩ : Sl far) (k + 1)) (0:Int) a.length a.uses = _
   unfold zgX znD
   rw[dqT (show (0:Int) < ((1:Nat):Int) by omega),dqA,dqT (show 0≤(0:Int)/\(0:Int) < ((1:Nat):Int) by omega),Bool.true_and,hw,e2,e2]
   cases zBU b (⟨a.length,a.uses⟩:far) <;> rfl
  ·show zgW (⟨1, fun _ => b⟩ : Sl far) (zgY (⟨1, fun _ => b⟩ : Sl far) (k + 1)) (0:Int) a.length a.uses = _
   unfold zgW znC
   rw[dqT (show (0:Int) < ((1:Nat):Int) by omega),dqA,hw,e1,e1]
 have:=key (Fuel - 2)
 rw[show Fuel - 2+2=Fuel by simp only[Fuel]] at this
 exact this
theorem zH3 (a b:far):zBU a b=decide (a.length < b.length∨(a.length=b.length/\a.uses < b.uses)):=by
 unfold zBU
 by_cases h1:a.length < b.length
 ·rw[dqT h1,dqA];exact (dqT (.inl h1)).symm
 ·rw [dqF h1, dqB]
  by_cases h2:a.length=b.length
  ·rw [show (a.length == b.length) = true from beq_iff_eq.2 h2, dqA]
   exact decide_eq_decide.2 ⟨λ h=>.inr ⟨h2,h⟩,λ h=>h.elim (λ h=>absurd h h1) (λ h=>h.2)⟩
  ·rw [show (a.length == b.length) = false from beq_eq_false_iff_ne.2 h2, dqB]
   exact (dqF (λ h=>h.elim h1 (λ h=>h2 h.1))).symm
def nv (x y:Int):Bool:=match (x == (1000000000000:Int)) with | true=>(match (y == (0:Int)) with | true=>true | false=>false) | false=>false
theorem zCG (x y:Int):nv x y=decide ((x,y)=((1000000000000:Int),(0:Int))):=by
 unfold nv
 by_cases h1:x=1000000000000
 ·rw [show (x == (1000000000000:Int)) = true from beq_iff_eq.2 h1]
  by_cases h2:y=0
  ·rw[show (y == (0:Int))=true from beq_iff_eq.2 h2];exact (dqT (by rw[h1,h2])).symm
  ·rw[show (y == (0:Int))=false from beq_eq_false_iff_ne.2 h2];exact (dqF (λ h=>h2 (Prod.mk.inj h).2)).symm
 ·rw [show (x == (1000000000000:Int)) = false from beq_eq_false_iff_ne.2 h1]
  exact (dqF (λ h=>h1 (Prod.mk.inj h).1)).symm
end Go.Proofs
namespace Go.Proofs
open Go Go.Pm
set_option maxRecDepth 100000
set_option linter.unusedVariables false
end Go.Proofs
namespace Go.Proofs
open Go Go.Pm
set_option maxRecDepth 100000
set_option linter.unusedVariables false
def edQ (y:step):Ed:=⟨y.to.toNat,y.from_.toNat,y.length⟩
end Go.Proofs
namespace Go.Proofs
open Go Go.Pm
set_option maxRecDepth 100000
set_option linter.unusedVariables false
attribute [local irreducible] Go.Pm.vcFun Go.Pm.vc Go.Pm.vcIter
end Go.Proofs
namespace Go.Proofs
open Go Go.Pm
set_option maxRecDepth 100000
set_option linter.unusedVariables false
def W (n:Net):web:=⟨n,⟨0,λ _=>none⟩⟩
abbrev En (n:Net):List Ed:=We (W n)
def fr (n:Net) (i j:Nat):Int:=zOM (dst (En n) n.Nodes.toNat i j)
theorem zdV {α:Type}(i:Nat) (v:α) (g:Nat->α) (j:Nat):setT i v g j=if j=i then v else g j:=by
 show (match Nat.beq j i with | true=>v | false=>g j)=_
 by_cases h:j=i
 ·rw[dqP h,show Nat.beq j i=true from by rw[h];exact Nat.beq_refl _]
 ·rw[dqG h,show Nat.beq j i=false from Bool.eq_false_iff.2 λ e=>h (dqc e)]
end Go.Proofs
namespace Go.Pm
def jr (o:zcA) (s:zcA×Bool) (e:Ed):zcA×Bool :=
 match o e.u with
 | none=>s
 | some x=>cond (ltO (x+e.w) (s.1 e.v)) (zmH s.1 e.v (x+e.w),true) s
theorem zM2 (o:zcA) (s:zcA×Bool) (e:Ed) (v:Nat):leO ((jr o s e).1 v) (s.1 v):=by
 unfold jr
 cases hu:o e.u with
 | none=>exact zdy _
 | some x =>
  simp only[]
  cases hl:ltO (x+e.w) (s.1 e.v)
  ·exact zdy _
  ·show leO (zmH s.1 e.v (x + e.w) v) _
   unfold zmH
   by_cases hv:v=e.v
   ·rw [dqP hv]
    intro y hy
    refine⟨_,rfl,?_⟩
    rw[hv] at hy
    rw[hy] at hl
    exact Int.le_of_lt (of_decide_eq_true hl)
   ·rw[dqG hv];exact zdy _
theorem zM3 (o:zcA) (E:List Ed) (s:zcA×Bool) (v:Nat):leO ((E.foldl (jr o) s).1 v) (s.1 v):=by
 induction E generalizing s with
 | nil=>exact zdy _
 | cons e l ih=>exact zeq (ih (jr o s e)) (zM2 o s e v)
theorem zM4 {o:zcA}{s:zcA×Bool}{e:Ed}{x:Int}(h:o e.u=some x):leO ((jr o s e).1 e.v) (some (x+e.w)):=by
 unfold jr
 simp only[h]
 cases hl:ltO (x+e.w) (s.1 e.v)
 ·obtain ⟨y, h1, h2⟩ := zlO hl
  intro z hz;cases hz
  exact⟨y,h1,h2⟩
 ·intro z hz; cases hz
  exact⟨x+e.w,by show zmH s.1 e.v (x+e.w) e.v=_;unfold zmH;rw[dqP rfl],Int.le_refl _⟩
theorem zM5 {o:zcA}{E:List Ed}{s:zcA×Bool}{e:Ed}{x:Int}(he:e∈E) (h:o e.u=some x):leO ((E.foldl (jr o) s).1 e.v) (some (x+e.w)):=by
 induction E generalizing s with
 | nil=>cases he
 | cons f l ih =>
  rcases dqq.1 he with rfl | hm
  ·exact zeq (zM3 o l (jr o s e) e.v) (zM4 h)
  ·exact ih hm
def zur : Option Int → Int
  | none=>1000000000000
  | some x=>x
end Go.Pm
namespace Go.Pm
def zus:zcA:=λ _=>none
def hop (F:List Ed) (o:zcA):zcA:=(F.foldl (jr o) (zus,false)).1
def hops (F : List Ed) (s : Nat) : Nat → zcA
  | 0=>zuC s
  | k+1=>hop F (hops F s k)
theorem zD7 {F:List Ed}{o:zcA}{v:Nat}{x:Int}(h:hop F o v=some x):∃ e∈F,e.v=v/\∃ y,o e.u=some y/\x=y+e.w:=by
 have key:∀ (l:List Ed) (s:zcA×Bool),(∀ e∈l,e∈F)->(∀ v x,s.1 v=some x->∃ e∈F,e.v=v/\∃ y,o e.u=some y/\x=y+e.w)->∀ v x,(l.foldl (jr o) s).1 v=some x->∃ e∈F,e.v=v/\∃ y,o e.u=some y/\x=y+e.w:=by
  intro l
  induction l with
  | nil=>intro s _ h;exact h
  | cons e l ih =>
   intro s hl h
   refine ih (jr o s e) (λ e he=>hl e (dqf _ he)) ?_
   intro v x hx
   unfold jr at hx
   cases hu:o e.u with
   | none=>simp only[hu] at hx;exact h v x hx
   | some y =>
    simp only[hu] at hx
    cases hlt:ltO (y+e.w) (s.1 e.v) with
    | false=>simp only[hlt,dqB] at hx;exact h v x hx
    | true =>
     simp only[hlt,dqA] at hx
     unfold zmH at hx
     by_cases hv:v=e.v
     ·rw [dqP hv] at hx
      exact⟨e,hl e (dqj ..),hv.symm,y,hu,(Option.some.inj hx).symm⟩
     ·rw[dqG hv] at hx;exact h v x hx
 exact key F (zus,false) (λ _ h=>h) (λ v x h=>by cases h) v x h
theorem zH4 {F:List Ed}{s:Nat} : ∀ {k v:Nat}{x:Int},hops F s k v=some x->∃ c,zgQ F s c v/\c.length=k/\x=wt c:=by
 intro k
 induction k with
 | zero =>
  intro v x h
  have h':zuC s v=some x:=h
  unfold zuC at h'
  by_cases hv:v=s
  ·rw[dqP hv] at h';exact⟨[],hv.symm,rfl,(Option.some.inj h').symm⟩
  ·rw[dqG hv] at h';cases h'
 | succ k ih =>
  intro v x h
  obtain⟨e,he,rfl,y,hy,rfl⟩:=zD7 h
  obtain⟨c,h1,h2,h3⟩:=ih hy
  exact⟨c ++ [e],zcM.2 ⟨e.u,h1,zhf he⟩,by simp[h2],by rw[zeR,zjW,h3]⟩
theorem zH5 {F:List Ed}{s:Nat} : ∀ {k v:Nat}{c:List Ed},zgQ F s c v->c.length=k->∃ x,hops F s k v=some x/\x≤wt c:=by
 intro k
 induction k with
 | zero =>
  intro v c h hl
  have:c=[]:=List.length_eq_zero_iff.1 hl
  subst this
  cases h
  exact⟨0,dqP rfl,Int.le_refl _⟩
 | succ k ih =>
  intro v c h hl
  obtain⟨c',e,rfl⟩:∃ c' e,c=c' ++ [e]:=⟨c.dropLast,c.getLast (λ e=>by rw[e] at hl;cases hl),(List.dropLast_concat_getLast _).symm⟩
  obtain⟨m,h1,h2,h3,h4⟩:=zcM.1 h
  subst h3
  obtain⟨x,k1,k2⟩:=ih h1 (by simpa using hl)
  obtain⟨y,m1,m2⟩:=zM5 (o:=hops F s k) (s:=(zus,false)) h2 k1 _ rfl
  have h4':e.v=v:=h4
  rw[h4'] at m1
  exact⟨y,m1,by rw[zeR,zjW];omega⟩
end Go.Pm
