/- Part 6 of what the proof rests on: a machine that runs functions of the program on pure values, proved sound; the functions that the law reaches, and what they compute. -/
import Derived.Test.YtedhjaaikeakoaaDoorQ5
import Derived.Test.YtedhjaaikeakoaaDoorTie
import Derived.ProofKit
import Derived.LaidMore
import Derived.OpenShut
import Derived.Stop.Joined
import Derived.Test.YtedhjaaikeakoaaDoorCards
import Derived.WalkKit
set_option linter.all false
namespace Go.Proofs
open Go Go.Pm
set_option maxRecDepth 100000
set_option linter.unusedVariables false
attribute [local irreducible] Go.Pm.vcFun Go.Pm.vc Go.Pm.vcIter
abbrev T76:Tabs:=(((Tabs.nil.addF 93 zoC).addF 104 zoF).addI 110 zoE)
theorem zL7:TabsOk Tryd.prog T76:=(((TabsOk.nil.addF zHR).addF zEI).addI ztE)
abbrev G76:Ctrs:=csm T76 (λ _ _=>[]) (λ _=>false)
def zxj:Ann:=⟨66,[(0,zK [0,1,4] [4]),(1,zK [0,1,4,5] [4,5]),(2,zK [0,1,4,5,10] [4,5]),(3,zK [0,1,4,5,10,11] [4,5]),(4,zK [0,1,4,5,6,10] [4,5]),(5,zK [0,1,4,5,10] [4,5]),(6,zK [0,1,4,5,10] [4,5]),(7,zK [0,4,5] [4,5]),(8,zK [0,4,5,7] [4,5,7]),(9,zK [0,4,5,7,20] [4,5,7]),(10,zK [0,4,5,7] [4,5,7]),(11,zK [0,4,5,7,22] [4,5,7]),(12,zK [0,4,5,7,8,22] [4,5,7,8]),(13,zK [0,4,5,7,8,22,29] [4,5,7,8]),(14,zK [0,4,5,7,8,9,22] [4,5,7,8,9]),(15,zK [0,4,5,7,8,9,22] [4,5,7,8,9]),(16,zK [0,4,5,7,22] [4,5,7]),(17,zK [0,4,5,64] [4,5]),(18,zK [0,4,5,7] [4,5,7]),(19,zK [4] [4])],
 [(3,zK [0,1,4,5,10] [4,5]),(9,zK [0,4,5,7] [4,5,7]),(12,zK [0,4,5,7,22] [4,5,7])],
 [(7,zK [0,1,4,5] [4,5])],
 [],[]⟩
abbrev R76:=Tab
abbrev e76 (r:R76):List PA:=[.agg (zal r)]
@[irreducible] def z76:=ptF Tryd.prog G76 zxj Tryd.f76
@[irreducible] def x76:=exF Tryd.prog G76 zxj Tryd.f76
@[irreducible] def y76:=rnF Tryd.prog G76 zxj Tryd.f76
def zC4 (w:web) (node:Int) (za2:Int) (t4t0:Tab) (dt0:Tab):St:=⟨[(0,zP (.fp (zaB w) 0)),(1,zI node),(4,zp 4 0),(5,zp 5 0),(10,zI za2)],[(4,.box 116 (zm (zal t4t0))),(5,.box 116 (zm (zal dt0)))],[]⟩
abbrev zJv (K:List PA->Prop) (w:web) (node:Int) (X:St->Prop) (P:Int->Tab->Tab->Bool) (S:Int->Tab->Tab->Tab):Prop:=∀ ⦃za2:Int⦄ ⦃t4t0:Tab⦄ ⦃dt0:Tab⦄,P za2 t4t0 dt0=true->K (e76 (S za2 t4t0 dt0))->X (zC4 w node za2 t4t0 dt0)
def zC5 (w:web) (zav:Bool) (t4t2:Tab) (dt2:Tab):St:=⟨[(0,zP (.fp (zaB w) 0)),(4,zp 4 0),(5,zp 5 0),(7,zp 7 0)],[(4,.box 116 (zm (zal t4t2))),(5,.box 116 (zm (zal dt2))),(7,.box 4 [.p (.bool zav)])],[]⟩
abbrev zFG (K:List PA->Prop) (w:web) (X:St->Prop) (P:Bool->Tab->Tab->Bool) (S:Bool->Tab->Tab->Tab):Prop:=∀ ⦃zav:Bool⦄ ⦃t4t2:Tab⦄ ⦃dt2:Tab⦄,P zav t4t2 dt2=true->K (e76 (S zav t4t2 dt2))->X (zC5 w zav t4t2 dt2)
def zxk (w:web) (zay:Bool) (t4t3:Tab) (dt3:Tab):St:=⟨[(0,zP (.fp (zaB w) 0)),(4,zp 4 0),(5,zp 5 0),(7,zp 7 0),(22,zP (.fn 110 [] [.fp [.fp (zaB w) 0] 0]))],[(4,.box 116 (zm (zal t4t3))),(5,.box 116 (zm (zal dt3))),(7,.box 4 [.p (.bool zay)])],[]⟩
abbrev zJw (K:List PA->Prop) (w:web) (X:St->Prop) (P:Bool->Tab->Tab->Bool) (S:Bool->Tab->Tab->Tab):Prop:=∀ ⦃zay:Bool⦄ ⦃t4t3:Tab⦄ ⦃dt3:Tab⦄,P zay t4t3 dt3=true->K (e76 (S zay t4t3 dt3))->X (zxk w zay t4t3 dt3)
section
variable {K:List PA->Prop}{w:web}{node:Int}{za2:Int}{t4t0:Tab}{dt0:Tab}{X0:St->Prop}{P0:Int->Tab->Tab->Bool}{S0:Int->Tab->Tab->Tab}{t4t1:Tab}{dt1:Tab}{zav:Bool}{t4t2:Tab}{dt2:Tab}{X2:St->Prop}{P2:Bool->Tab->Tab->Bool}{S2:Bool->Tab->Tab->Tab}{zay:Bool}{t4t3:Tab}{dt3:Tab}
def zFH (S2:Bool->Tab->Tab->Tab) (w:web) (zay:Bool) (t4t3:Tab) (dt3:Tab):Tab :=
  (S2 zay t4t3 dt3)
def zFI (P2:Bool->Tab->Tab->Bool) (w:web) (zay:Bool) (t4t3:Tab) (dt3:Tab):Bool :=
  (P2 zay t4t3 dt3)
def zxl (S2:Bool->Tab->Tab->Tab) (w:web) (y3:step) (S3:Bool->Tab->Tab->Tab) (zay:Bool) (t4t3:Tab) (dt3:Tab):Tab :=
  (cond (nvr (tL dt3 y3.from_) (tU dt3 y3.from_))
 (S3 zay t4t3 dt3)
 (cond zay
 (S3 true t4t3 (ts 80 dt3 (0+y3.to.toNat * 2+0) [(zeP (⟨(tL dt3 y3.to),(tU dt3 y3.to)⟩:far) (⟨1,λ _=>(⟨(w64 ((tL dt3 y3.from_)+y3.length)),(w64 ((tV dt3 y3.from_)+(1:Int)))⟩:far)⟩:(Sl far))).length,(zeP (⟨(tL dt3 y3.to),(tU dt3 y3.to)⟩:far) (⟨1,λ _=>(⟨(w64 ((tL dt3 y3.from_)+y3.length)),(w64 ((tV dt3 y3.from_)+(1:Int)))⟩:far)⟩:(Sl far))).uses]))
 (S3 (!(match ((zeP (⟨(tL dt3 y3.to),(tU dt3 y3.to)⟩:far) (⟨1,λ _=>(⟨(w64 ((tL dt3 y3.from_)+y3.length)),(w64 ((tV dt3 y3.from_)+(1:Int)))⟩:far)⟩:(Sl far))).length == (tL dt3 y3.to)) with | true=>(match ((zeP (⟨(tL dt3 y3.to),(tU dt3 y3.to)⟩:far) (⟨1,λ _=>(⟨(w64 ((tL dt3 y3.from_)+y3.length)),(w64 ((tV dt3 y3.from_)+(1:Int)))⟩:far)⟩:(Sl far))).uses == (tU dt3 y3.to)) with | true=>true | false=>false) | false=>false)) t4t3 (ts 80 dt3 (0+y3.to.toNat * 2+0) [(zeP (⟨(tL dt3 y3.to),(tU dt3 y3.to)⟩:far) (⟨1,λ _=>(⟨(w64 ((tL dt3 y3.from_)+y3.length)),(w64 ((tV dt3 y3.from_)+(1:Int)))⟩:far)⟩:(Sl far))).length,(zeP (⟨(tL dt3 y3.to),(tU dt3 y3.to)⟩:far) (⟨1,λ _=>(⟨(w64 ((tL dt3 y3.from_)+y3.length)),(w64 ((tV dt3 y3.from_)+(1:Int)))⟩:far)⟩:(Sl far))).uses]))))
def zxm (P2:Bool->Tab->Tab->Bool) (w:web) (y3:step) (P3:Bool->Tab->Tab->Bool) (zay:Bool) (t4t3:Tab) (dt3:Tab):Bool :=
  (decide ((0<=y3.from_/\y3.from_ < (40:Int))) &&
 (cond (nvr (tL dt3 y3.from_) (tU dt3 y3.from_))
 (P3 zay t4t3 dt3)
 (decide ((0<=y3.to/\y3.to < (40:Int))) &&
 (decide ((0<=y3.from_/\y3.from_ < (40:Int))) &&
 (decide ((0<=y3.from_/\y3.from_ < (40:Int))) &&
 (decide ((zCF (⟨(tL dt3 y3.to),(tU dt3 y3.to)⟩:far) (⟨1,λ _=>(⟨(w64 ((tL dt3 y3.from_)+y3.length)),(w64 ((tV dt3 y3.from_)+(1:Int)))⟩:far)⟩:(Sl far))=true)) &&
 (cond zay
 (decide ((0<=y3.to/\y3.to < (40:Int))) &&
 (P3 true t4t3 (ts 80 dt3 (0+y3.to.toNat * 2+0) [(zeP (⟨(tL dt3 y3.to),(tU dt3 y3.to)⟩:far) (⟨1,λ _=>(⟨(w64 ((tL dt3 y3.from_)+y3.length)),(w64 ((tV dt3 y3.from_)+(1:Int)))⟩:far)⟩:(Sl far))).length,(zeP (⟨(tL dt3 y3.to),(tU dt3 y3.to)⟩:far) (⟨1,λ _=>(⟨(w64 ((tL dt3 y3.from_)+y3.length)),(w64 ((tV dt3 y3.from_)+(1:Int)))⟩:far)⟩:(Sl far))).uses])))
 (decide ((0<=y3.to/\y3.to < (40:Int))) &&
 (decide ((0<=y3.to/\y3.to < (40:Int))) &&
 (P3 (!(match ((zeP (⟨(tL dt3 y3.to),(tU dt3 y3.to)⟩:far) (⟨1,λ _=>(⟨(w64 ((tL dt3 y3.from_)+y3.length)),(w64 ((tV dt3 y3.from_)+(1:Int)))⟩:far)⟩:(Sl far))).length == (tL dt3 y3.to)) with | true=>(match ((zeP (⟨(tL dt3 y3.to),(tU dt3 y3.to)⟩:far) (⟨1,λ _=>(⟨(w64 ((tL dt3 y3.from_)+y3.length)),(w64 ((tV dt3 y3.from_)+(1:Int)))⟩:far)⟩:(Sl far))).uses == (tU dt3 y3.to)) with | true=>true | false=>false) | false=>false)) t4t3 (ts 80 dt3 (0+y3.to.toNat * 2+0) [(zeP (⟨(tL dt3 y3.to),(tU dt3 y3.to)⟩:far) (⟨1,λ _=>(⟨(w64 ((tL dt3 y3.from_)+y3.length)),(w64 ((tV dt3 y3.from_)+(1:Int)))⟩:far)⟩:(Sl far))).length,(zeP (⟨(tL dt3 y3.to),(tU dt3 y3.to)⟩:far) (⟨1,λ _=>(⟨(w64 ((tL dt3 y3.from_)+y3.length)),(w64 ((tV dt3 y3.from_)+(1:Int)))⟩:far)⟩:(Sl far))).uses])))))))))))
def zxn (S2:Bool->Tab->Tab->Tab) (w:web):List step->Bool->Tab->Tab->Tab:=lpR (zFH S2 w) (zxl S2 w)
def zxo (P2:Bool->Tab->Tab->Bool) (w:web):List step->Bool->Tab->Tab->Bool:=lpR (zFI P2 w) (zxm P2 w)
def zxp (S2:Bool->Tab->Tab->Tab) (w:web) (zay:Bool) (t4t3:Tab) (dt3:Tab):Tab:=zxn S2 w (zkV w) zay t4t3 dt3
def zxq (P2:Bool->Tab->Tab->Bool) (w:web) (zay:Bool) (t4t3:Tab) (dt3:Tab):Bool:=decide ((ztP w=true)) && zxo P2 w (zkV w) zay t4t3 dt3
theorem zFJ (hX2:zFG K w X2 P2 S2) (hs:zxq P2 w zay t4t3 dt3=true) (hk:K (e76 (zxp S2 w zay t4t3 dt3))):z76 K [1,1,1,1,0,1,0,0,1,0,0,1,1,0] [X2] (zxk w zay t4t3 dt3) :=
  zaN hs λ hc hs=>zr (enc:=(λ y:step=>[.agg (zaD y)])) (ys:=zkV w) (g:=(zxk w zay t4t3 dt3)) (x76 K [1,1,1,1,0,1,0,0,1,0,0,1,1,0] [X2]) (y76 K [1,1,1,1,0,1,0,0,1,0,0,1,1,0] [X2]) (by kernel_rfl) (And.intro (zE enc_40 4 w.Net.Ties.get) (And.intro (rfl:((false,1,false,[none]):MQ)=(false,1,false,[none])) hc)) λ X3 hE hR =>
  (show ∀ l : List step, zJw K w (X3 (l.map (λ y : step => [.agg (zaD y)]))) (zxo P2 w l) (zxn S2 w l) from zri (X := X3) (enc := (λ y : step => [.agg (zaD y)])) _ _ (zxm P2 w) (zxl S2 w) (λ Z P S => zJw K w Z P S)
 (by intro zay t4t3 dt3 hs hk;exact hE _ (za0 (by kernel_rfl) (hX2 hs hk)))
 (by intro y3 rest P3 S3 hX3 zay t4t3 dt3 hs hk;exact hR _ rest _ (za0 (by kernel_rfl) (zaN hs λ hc hs=>And.intro hc (zc hs hk (λ hs hk=>(hX3 hs hk)) (λ hs hk=>(zaN hs λ hc hs=>And.intro hc (zaN hs λ hc hs=>And.intro hc (zaN hs λ hc hs=>And.intro hc (zaN hs λ hc hs=>And.intro (And.intro (zvs:IsE zb6 2 2 (λ _=>(zb6 (⟨(w64 ((tL dt3 y3.from_)+y3.length)),(w64 ((tV dt3 y3.from_)+(1:Int)))⟩:far)))) hc) (zc hs hk (λ hs hk=>(zaN hs λ hc hs=>And.intro hc (hX3 hs hk))) (λ hs hk=>(zaN hs λ hc hs=>And.intro hc (zaN hs λ hc hs=>And.intro hc (hX3 hs hk))))))))))))))) _ hs hk
def zxr (w:web) (S2:Bool->Tab->Tab->Tab) (zav:Bool) (t4t2:Tab) (dt2:Tab):Tab :=
  (cond zav
 (zxp S2 w false t4t2 dt2)
 dt2)
def zxs (w:web) (P2:Bool->Tab->Tab->Bool) (zav:Bool) (t4t2:Tab) (dt2:Tab):Bool :=
  (cond zav
 (zxq P2 w false t4t2 dt2)
 true)
def zxt (w:web):Nat->Bool->Tab->Tab->Tab:=lpO (λ _ _ _=>default) (zxr w)
def zxu (w:web):Nat->Bool->Tab->Tab->Bool:=lpO (λ _ _ _=>false) (zxs w)
def zxv (w:web) (zav:Bool) (t4t2:Tab) (dt2:Tab):Tab:=zxt w Fuel zav t4t2 dt2
def zxw (w:web) (zav:Bool) (t4t2:Tab) (dt2:Tab):Bool:=zxu w Fuel zav t4t2 dt2
theorem zFK (hs:zxw w zav t4t2 dt2=true) (hk:K (e76 (zxv w zav t4t2 dt2))):z76 K [1,1,1,1,0,1,0] [] (zC5 w zav t4t2 dt2) :=
  zl (λ X=>z76 K [1,1,1,1,0,1,0,0] [X]) (by kernel_rfl) λ X2 hX =>
  (show ∀ k, zFG K w X2 (zxu w k) (zxt w k) from zeu _ _ (zxs w) (zxr w) (zFG K w X2)
 (by intro _ _ _ hs;exact absurd hs dqk)
 (by intro P2 S2 hX2 zav t4t2 dt2 hs hk;exact hX _ (za0 (by kernel_rfl) (zc hs hk (λ hs hk=>(And.intro (And.intro (zE enc_40 4 w.Net.Ties.get) (rfl:((false,1,false,[none]):MQ)=(false,1,false,[none]))) (zFJ hX2 hs hk))) (λ hs hk=>hk))))) _ hs hk
def zxx (w:web) (node:Int) (t4t1:Tab) (dt1:Tab):Tab :=
  (zxv w true t4t1 (ts 80 dt1 (0+node.toNat * 2+0) [(0:Int),(0:Int)]))
def zxy (w:web) (node:Int) (t4t1:Tab) (dt1:Tab):Bool :=
  (decide ((0<=node/\node < (40:Int))) &&
 (zxw w true t4t1 (ts 80 dt1 (0+node.toNat * 2+0) [(0:Int),(0:Int)])))
theorem zFL (hs:zxy w node t4t1 dt1=true) (hk:K (e76 (zxx w node t4t1 dt1))):z76 K [1,1,1] [] ⟨[(0,zP (.fp (zaB w) 0)),(1,zI node),(4,zp 4 0),(5,zp 5 0)],[(4,.box 116 (zm (zal t4t1))),(5,.box 116 (zm (zal dt1)))],[]⟩:=za0 (by kernel_rfl) (zaN hs λ hc hs=>And.intro hc (zFK hs hk))
def zxz (w:web) (node:Int) (S0:Int->Tab->Tab->Tab) (za2:Int) (t4t0:Tab) (dt0:Tab):Tab :=
  (cond (decide (za2 < (40:Int)))
 (S0 (w64 (za2+(1:Int))) t4t0 (ts 80 dt0 (0+za2.toNat * 2+0) [(1000000000000:Int),(0:Int)]))
 (zxx w node t4t0 dt0))
def zxA (w:web) (node:Int) (P0:Int->Tab->Tab->Bool) (za2:Int) (t4t0:Tab) (dt0:Tab):Bool :=
  (cond (decide (za2 < (40:Int)))
 (decide ((0<=za2/\za2 < (40:Int))) &&
 (P0 (w64 (za2+(1:Int))) t4t0 (ts 80 dt0 (0+za2.toNat * 2+0) [(1000000000000:Int),(0:Int)])))
 (zxy w node t4t0 dt0))
def zxB (w:web) (node:Int):Nat->Int->Tab->Tab->Tab:=lpO (λ _ _ _=>default) (zxz w node)
def zxC (w:web) (node:Int):Nat->Int->Tab->Tab->Bool:=lpO (λ _ _ _=>false) (zxA w node)
def zxD (w:web) (node:Int) (za2:Int) (t4t0:Tab) (dt0:Tab):Tab:=zxB w node Fuel za2 t4t0 dt0
def zxE (w:web) (node:Int) (za2:Int) (t4t0:Tab) (dt0:Tab):Bool:=zxC w node Fuel za2 t4t0 dt0
theorem zFM (hs:zxE w node za2 t4t0 dt0=true) (hk:K (e76 (zxD w node za2 t4t0 dt0))):z76 K [1,1,0,1,0] [] (zC4 w node za2 t4t0 dt0) :=
  zl (λ X=>z76 K [1,1,0,1,0,0] [X]) (by kernel_rfl) λ X0 hX =>
  (show ∀ k, zJv K w node X0 (zxC w node k) (zxB w node k) from zeu _ _ (zxA w node) (zxz w node) (zJv K w node X0)
 (by intro _ _ _ hs;exact absurd hs dqk)
 (by intro P0 S0 hX0 za2 t4t0 dt0 hs hk;exact hX _ (za0 (by kernel_rfl) (zc hs hk (λ hs hk=>(zaN hs λ hc hs=>And.intro hc (hX0 hs hk))) (λ hs hk=>(zFL hs hk)))))) _ hs hk
def s76 (w:web) (node:Int):Tab :=
  (zxD w node (0:Int) (λ _=>(0:Int)) (λ _=>(0:Int)))
def p76 (w:web) (node:Int):Bool :=
  (zxE w node (0:Int) (λ _=>(0:Int)) (λ _=>(0:Int)))
end
theorem q76 (w:web) (node:Int) (K:List PA->Prop) (hs:p76 w node=true) (hk:K (e76 (s76 w node))):vcFun Tryd.prog G76 zxj 76 [.one (.fp (zaB w) 0),.one (.int .i64 node)] K :=
  za0 (by kernel_rfl) (zFM hs hk)
def zxF : List PA → COut
  | [.one (.fp [.int .i64 zak,.sl zah zaA zai,.fm za7 zaH zaI] 0),.one (.int .i64 a1)]=>.det (IsE enc_40 4 zaA zai/\za7=(false,1,false,[none])/\p76 (⟨(⟨zak,(⟨zah,zam zai⟩:(Sl Tie))⟩:Net),(⟨zaH,zaI⟩:Mp)⟩:web) a1=true) [.agg (zal ((s76 (⟨(⟨zak,(⟨zah,zam zai⟩:(Sl Tie))⟩:Net),(⟨zaH,zaI⟩:Mp)⟩:web) a1)))]
  | _=>.no
theorem zJx:zar Tryd.prog 76:=⟨_,rfl,rfl,by kernel_rfl⟩
theorem zL8:Ok Tryd.prog 76 zxF:=zbl zL7 zJx λ args K h=>by
  unfold zxF at h
  split at h
  · rename_i zak zah zaA zai za7 zaH zaI a1
    obtain⟨⟨⟨rfl,zaq,rfl⟩,rfl,hs⟩,hk⟩:=h
    try rw[zan zaq] at hs
    try rw[zan zaq] at hk
    exact⟨(λ _ _=>[]),(λ _=>false),zxj,q76 (⟨(⟨zak,(⟨zah,zaq⟩:(Sl Tie))⟩:Net),(⟨zaH,zaI⟩:Mp)⟩:web) a1 K hs hk⟩
  · exact h.elim
abbrev T26:Tabs:=(((Tabs.nil.addF 74 zwV).addF 75 zxi).addF 76 zxF)
theorem zL9:TabsOk Tryd.prog T26:=(((TabsOk.nil.addF zL4).addF zL6).addF zL8)
abbrev G26:Ctrs:=csm T26 (λ _ _=>[]) (λ _=>false)
def zFN:Ann:=⟨45,[(0,zK [1] [1]),(1,zK [1,4,5] [1]),(2,zK [1,4,5,16] [1]),(3,zK [2,3] []),(4,zK [1,6,7] [1,6,7]),(5,zK [6,7,8] [6,7,24]),(6,zK [6,7,8,26,27] [6,7,24]),(7,zK [6,7,8,26,27,28] [6,7,24]),(8,zK [6,7,8,9,26,27] [6,7,24]),(9,zK [6,7,8,26,27] [6,7,24]),(10,zK [6,7,8,26,27] [6,7,24]),(11,zK [2,3] [24])],
 [(7,zK [6,7,8,26,27] [6,7,24])],
 [],
 [],[]⟩
abbrev R26:=((Sl Span)×Int)
abbrev e26 (r:R26):List PA:=[.one (.sl r.1.len 2 (λ i=>zbv (r.1.get i))),.one (.int .i64 r.2)]
@[irreducible] def z26:=ptF Tryd.prog G26 zFN Tryd.f26
def zC6 (n:Net) (zcb:Int) (zcX:(Sl Span)) (tot0:Tab) (fromt0:Tab) (zfW:Nat->List PV):St:=⟨[(6,zp 6 0),(7,zp 7 0),(8,zv 24),(26,zI (n.Nodes.toNat:Int)),(27,zI zcb)],[(6,.box 116 (zm (zal tot0))),(7,.box 116 (zm (zal fromt0))),(24,.vec 43 2 16 zcX.len zfW)],[]⟩
abbrev zJy (K:List PA->Prop) (n:Net) (X:St->Prop) (P:Int->(Sl Span)->Tab->Tab->Bool) (S:Int->(Sl Span)->Tab->Tab->((Sl Span)×Int)):Prop:=∀ ⦃zcb:Int⦄ ⦃zcX:(Sl Span)⦄ ⦃tot0:Tab⦄ ⦃fromt0:Tab⦄ ⦃zfW:Nat->List PV⦄,P zcb zcX tot0 fromt0=true->K (e26 (S zcb zcX tot0 fromt0))->zfW=zg zbv zcX->X (zC6 n zcb zcX tot0 fromt0 zfW)
section
variable {K:List PA->Prop}{n:Net}{zcb:Int}{zcX:(Sl Span)}{tot0:Tab}{fromt0:Tab}{zfW:Nat->List PV}{X0:St->Prop}{P0:Int->(Sl Span)->Tab->Tab->Bool}{S0:Int->(Sl Span)->Tab->Tab->((Sl Span)×Int)}
def zxG (n:Net) (S0:Int->(Sl Span)->Tab->Tab->((Sl Span)×Int)) (zcb:Int) (zcX:(Sl Span)) (tot0:Tab) (fromt0:Tab):((Sl Span)×Int) :=
  (cond (decide (zcb < (n.Nodes.toNat : Int)))
 (S0 (w64 (zcb+(1:Int))) (⟨zcX.len,(setT zcb.toNat (⟨(w64 (0 - (tg 80 tot0 (0+zcb.toNat * 2+0)))),(tg 80 fromt0 (0+zcb.toNat * 2+0))⟩:Span) zcX.get)⟩:Sl Span) tot0 fromt0)
 (zcX,(0:Int)))
def zxH (n:Net) (P0:Int->(Sl Span)->Tab->Tab->Bool) (zcb:Int) (zcX:(Sl Span)) (tot0:Tab) (fromt0:Tab):Bool :=
  (cond (decide (zcb < (n.Nodes.toNat : Int)))
 (decide ((0<=zcb/\zcb < (40:Int))) &&
 (decide ((0<=zcb/\zcb < (40:Int))) &&
 (decide ((0<=zcb/\zcb < (zcX.len:Int))) &&
 (decide ((zcb.toNat < zcX.len)) &&
 (P0 (w64 (zcb+(1:Int))) (⟨zcX.len,(setT zcb.toNat (⟨(w64 (0 - (tg 80 tot0 (0+zcb.toNat * 2+0)))),(tg 80 fromt0 (0+zcb.toNat * 2+0))⟩:Span) zcX.get)⟩:Sl Span) tot0 fromt0)))))
 true)
def zxI (n:Net):Nat->Int->(Sl Span)->Tab->Tab->((Sl Span)×Int):=lpO (λ _ _ _ _=>default) (zxG n)
def zxJ (n:Net):Nat->Int->(Sl Span)->Tab->Tab->Bool:=lpO (λ _ _ _ _=>false) (zxH n)
def zxK (n:Net) (zcb:Int) (zcX:(Sl Span)) (tot0:Tab) (fromt0:Tab):((Sl Span)×Int):=zxI n Fuel zcb zcX tot0 fromt0
def zxL (n:Net) (zcb:Int) (zcX:(Sl Span)) (tot0:Tab) (fromt0:Tab):Bool:=zxJ n Fuel zcb zcX tot0 fromt0
theorem zFO (hs:zxL n zcb zcX tot0 fromt0=true) (hk:K (e26 (zxK n zcb zcX tot0 fromt0))) (zqE:zfW=zg zbv zcX):z26 (Wk K) [1,1,1,1,1,0,1,0] [] (zC6 n zcb zcX tot0 fromt0 zfW) :=
  zl (λ X=>z26 (Wk K) [1,1,1,1,1,0,1,0,0] [X]) (by kernel_rfl) λ X0 hX =>
  (show ∀ k, zJy K n X0 (zxJ n k) (zxI n k) from zeu _ _ (zxH n) (zxG n) (zJy K n X0)
 (by intro _ _ _ _ _ hs;exact absurd hs dqk)
 (by intro P0 S0 hX0 zcb zcX tot0 fromt0 zfW hs hk zqE;subst zqE;exact hX _ (za0 (by kernel_rfl) (zc hs hk (λ hs hk=>(zaN hs λ hc hs=>And.intro hc (zaN hs λ hc hs=>And.intro hc (zaN hs λ hc hs=>And.intro hc (zaN hs λ hc hs=>And.intro hc (hX0 hs hk (zhD (enc:=zbv) (i:=zcb.toNat) (k:=0) (f:=zcX.get) (new:=(zbv (⟨(w64 (0 - (tg 80 tot0 (0+zcb.toNat * 2+0)))),(tg 80 fromt0 (0+zcb.toNat * 2+0))⟩:Span))) (v:=(⟨(w64 (0 - (tg 80 tot0 (0+zcb.toNat * 2+0)))),(tg 80 fromt0 (0+zcb.toNat * 2+0))⟩:Span)) rfl rfl))))))) (λ hs hk=>((zfH hk):Wk K [.one (.sl zcX.len 2 (λ i=>zbv (zcX.get i))),.one (.int .i64 (0:Int))])))))) _ hs hk zqE
def s26 (n:Net):((Sl Span)×Int) :=
  (cond ((s74 n (⟨0, λ _ => default⟩ : (Sl Int))).2 == 0)
 (cond ((0:Int) != (0:Int))
 ((⟨0,λ _=>default⟩:(Sl Span)),(0:Int))
 (zxK n (0:Int) (⟨n.Nodes.toNat,(λ _=>(⟨(0:Int),(0:Int)⟩:Span))⟩:Sl Span) (s75 (⟨(s74 n (⟨0,λ _=>default⟩:(Sl Int))).1.Net,((s74 n (⟨0,λ _=>default⟩:(Sl Int))).1.out)⟩:web) (0:Int)) (s76 (⟨(s74 n (⟨0,λ _=>default⟩:(Sl Int))).1.Net,((s74 n (⟨0,λ _=>default⟩:(Sl Int))).1.out)⟩:web) (0:Int))))
 (cond ((s74 n (⟨0, λ _ => default⟩ : (Sl Int))).2 != (0:Int))
 ((⟨0,λ _=>default⟩:(Sl Span)),(s74 n (⟨0,λ _=>default⟩:(Sl Int))).2)
 default))
def p26 (n:Net):Bool :=
  (cond ((s74 n (⟨0, λ _ => default⟩ : (Sl Int))).2 == 0)
 (decide ((p74 n (⟨0,λ _=>default⟩:(Sl Int))=true)) &&
 (cond ((0:Int) != (0:Int))
 true
 (decide ((p75 (⟨(s74 n (⟨0,λ _=>default⟩:(Sl Int))).1.Net,((s74 n (⟨0,λ _=>default⟩:(Sl Int))).1.out)⟩:web) (0:Int)=true)) &&
 (decide ((p76 (⟨(s74 n (⟨0,λ _=>default⟩:(Sl Int))).1.Net,((s74 n (⟨0,λ _=>default⟩:(Sl Int))).1.out)⟩:web) (0:Int)=true)) &&
 (decide ((0<=n.Nodes/\n.Nodes=n.Nodes/\n.Nodes<=1000000)) &&
 (zxL n (0:Int) (⟨n.Nodes.toNat,(λ _=>(⟨(0:Int),(0:Int)⟩:Span))⟩:Sl Span) (s75 (⟨(s74 n (⟨0,λ _=>default⟩:(Sl Int))).1.Net,((s74 n (⟨0,λ _=>default⟩:(Sl Int))).1.out)⟩:web) (0:Int)) (s76 (⟨(s74 n (⟨0,λ _=>default⟩:(Sl Int))).1.Net,((s74 n (⟨0,λ _=>default⟩:(Sl Int))).1.out)⟩:web) (0:Int))))))))
 (decide ((p74 n (⟨0,λ _=>default⟩:(Sl Int))=true)) &&
 (cond ((s74 n (⟨0, λ _ => default⟩ : (Sl Int))).2 != (0:Int))
 true
 false)))
end
theorem q26 (n:Net) (K:List PA->Prop) (hs:p26 n=true) (hk:K (e26 (s26 n))):vcFun Tryd.prog G26 zFN 26 [.agg (enc_24 n)] (Wk K) :=
  za0 (by kernel_rfl) (zc hs hk (λ hs hk=>(zaN hs λ hc hs=>And.intro (And.intro (zE enc_40 4 n.Ties.get) hc) (zc hs hk (λ hs hk=>((wk hk (zgK (.one (.nil _ _)) (zgK (.one (.rfl _)) zm0))):Wk K [.one (.nils),.one (.int .i64 (0:Int))])) (λ hs hk=>(zaN hs λ hc hs=>And.intro (And.intro (zE enc_40 4 ((s74 n (⟨0,λ _=>default⟩:(Sl Int))).1.Net.Ties.get)) (And.intro (rfl:((false,1,false,[none]):MQ)=(false,1,false,[none])) hc)) (zaN hs λ hc hs=>And.intro (And.intro (zE enc_40 4 ((s74 n (⟨0,λ _=>default⟩:(Sl Int))).1.Net.Ties.get)) (And.intro (rfl:((false,1,false,[none]):MQ)=(false,1,false,[none])) hc)) (zaN hs λ hc hs=>And.intro hc (zFO hs hk rfl)))))))) (λ hs hk=>(zaN hs λ hc hs=>And.intro (And.intro (zE enc_40 4 n.Ties.get) hc) (zc hs hk (λ hs hk=>((wk hk (zgK (.one (.nil _ _)) (zgK (.one (.rfl _)) zm0))):Wk K [.one (.nils),.one (.int .i64 ((s74 n (⟨0,λ _=>default⟩:(Sl Int))).2))])) (λ hs hk=>(absurd hs dqk:False))))))
def zFP : List PA → COut
  | [.agg [.int .i64 zaj,.sl zad zaz zab]]=>.det (IsE enc_40 4 zaz zab/\p26 (⟨zaj,(⟨zad,zam zab⟩:(Sl Tie))⟩:Net)=true) [.one (.sl (((s26 (⟨zaj,(⟨zad,zam zab⟩:(Sl Tie))⟩:Net)).1).len) 2 (λ i=>zbv (((s26 (⟨zaj,(⟨zad,zam zab⟩:(Sl Tie))⟩:Net)).1).get i))),.one (.int .i64 ((s26 (⟨zaj,(⟨zad,zam zab⟩:(Sl Tie))⟩:Net)).2))]
  | _=>.no
theorem zJz:zar Tryd.prog 26:=⟨_,rfl,rfl,by kernel_rfl⟩
theorem zN9:Ok Tryd.prog 26 zFP:=zg1 zL9 zJz λ args K h=>by
  unfold zFP at h
  split at h
  · rename_i zaj zad zaz zab
    obtain⟨⟨⟨rfl,zat,rfl⟩,hs⟩,hk⟩:=h
    try rw[zan zat] at hs
    try rw[zan zat] at hk
    exact⟨_,zfq zfG _,(λ _ _=>[]),(λ _=>false),zFN,q26 (⟨zaj,(⟨zad,zat⟩:(Sl Tie))⟩:Net) K hs hk⟩
  · exact h.elim
abbrev T29:Tabs:=Tabs.nil
theorem zMa:TabsOk Tryd.prog T29:=TabsOk.nil
abbrev G29:Ctrs:=csm T29 (λ _ _=>[]) (λ _=>false)
def zJA:Ann:=⟨13,[(0,zK [2,3,4] [2,3,4]),(1,zK [2,4] [2,4,7]),(2,zK [4] [4,7])],
 [],
 [],
 [],[]⟩
abbrev R29:=Net
abbrev e29 (r:R29):List PA:=[.agg [.int .i64 r.Nodes,.sl r.Ties.len 4 (λ i=>enc_40 (r.Ties.get i))]]
section
variable {K:List PA->Prop}{n:Net}{t:Tie}
def s29 (n:Net) (t:Tie):Net :=
  (⟨n.Nodes,(⟨(n.Ties.len+1),(zc2 n.Ties.len n.Ties.get (λ _=>t))⟩:(Sl Tie))⟩:Net)
def p29 (n:Net) (t:Tie):Bool :=
  (decide ((n.Ties.len * 32<=140737488355328/\n.Ties.len<=9223372036854775807)) &&
 (decide (((n.Ties.len+1) * 32<=140737488355328/\n.Ties.len+1<=9223372036854775807)) &&
 true))
end
theorem q29 (n:Net) (t:Tie) (K:List PA->Prop) (hs:p29 n t=true) (hk:K (e29 (s29 n t))):vcFun Tryd.prog G29 zJA 29 [.agg (enc_24 n),.agg (enc_40 t)] K :=
  za0 (by kernel_rfl) (zaN hs λ hc hs=>And.intro hc (zaN hs λ hc hs=>And.intro hc (Eq.mpr (congrArg K (congrArg (λ (g_:Nat->List PV)=>([.agg [.int .i64 n.Nodes,.sl (n.Ties.len+1) 4 g_]]:List PA)) (zgJ (enc:=enc_40) (f:=n.Ties.get) (h:=(λ _=>t)) rfl rfl))) hk)))
def zFQ : List PA → COut
  | [.agg [.int .i64 zaj,.sl zad zaz zab],.agg [.int .i64 zeB,.int .i64 zlx,.int .i64 zgM,.int .i64 zeC]]=>.det (IsE enc_40 4 zaz zab/\p29 (⟨zaj,(⟨zad,zam zab⟩:(Sl Tie))⟩:Net) (⟨zeB,zlx,zgM,zeC⟩:Tie)=true) [.agg [.int .i64 ((s29 (⟨zaj,(⟨zad,zam zab⟩:(Sl Tie))⟩:Net) (⟨zeB,zlx,zgM,zeC⟩:Tie)).Nodes),.sl ((s29 (⟨zaj,(⟨zad,zam zab⟩:(Sl Tie))⟩:Net) (⟨zeB,zlx,zgM,zeC⟩:Tie)).Ties.len) 4 (λ i=>enc_40 ((s29 (⟨zaj,(⟨zad,zam zab⟩:(Sl Tie))⟩:Net) (⟨zeB,zlx,zgM,zeC⟩:Tie)).Ties.get i))]]
  | _=>.no
theorem zJB:zar Tryd.prog 29:=⟨_,rfl,rfl,by kernel_rfl⟩
theorem zOa:Ok Tryd.prog 29 zFQ:=zbl zMa zJB λ args K h=>by
  unfold zFQ at h
  split at h
  · rename_i zaj zad zaz zab zeB zlx zgM zeC
    obtain⟨⟨⟨rfl,zat,rfl⟩,hs⟩,hk⟩:=h
    try rw[zan zat] at hs
    try rw[zan zat] at hk
    exact⟨(λ _ _=>[]),(λ _=>false),zJA,q29 (⟨zaj,(⟨zad,zat⟩:(Sl Tie))⟩:Net) (⟨zeB,zlx,zgM,zeC⟩:Tie) K hs hk⟩
  · exact h.elim
abbrev T32:Tabs:=Tabs.nil
theorem zMb:TabsOk Tryd.prog T32:=TabsOk.nil
abbrev G32:Ctrs:=csm T32 (λ _ _=>[]) (λ _=>false)
def zFR:Ann:=⟨26,[(0,zK [0,1] []),(1,zK [0,1,10] []),(2,zK [4] []),(3,zK [0,1,5] []),(4,zK [0,1,5,14] []),(5,zK [0,1,5] []),(6,zK [0,1,5,25] []),(7,zK [4] []),(8,zK [4] [])],
 [(4,zK [0,1,5] [])],
 [(3,zK [0,1] [])],
 [],[]⟩
abbrev R32:=Bool
abbrev e32 (r:R32):List PA:=[.one (.bool r)]
@[irreducible] def z32:=ptF Tryd.prog G32 zFR Tryd.f32
def zC7 (a:(Sl Span)) (b:(Sl Span)) (iv1:Int):St:=⟨[(0,zS zbv 2 a),(1,zS zbv 2 b),(5,zI iv1)],[],[]⟩
abbrev zJC (K:List PA->Prop) (a:(Sl Span)) (b:(Sl Span)) (X:St->Prop) (P:Int->Bool) (S:Int->Bool):Prop:=∀ ⦃iv1:Int⦄,P iv1=true->K (e32 (S iv1))->X (zC7 a b iv1)
section
variable {K:List PA->Prop}{a:(Sl Span)}{b:(Sl Span)}{iv1:Int}{X1:St->Prop}{P1:Int->Bool}{S1:Int->Bool}
def zxM (a:(Sl Span)) (b:(Sl Span)) (S1:Int->Bool) (iv1:Int):Bool :=
  (cond (decide (iv1 < (a.len : Int)))
 (cond (!(match ((a.get iv1.toNat).Low == (b.get iv1.toNat).Low) with | true => (match ((a.get iv1.toNat).High == (b.get iv1.toNat).High) with | true => true | false => false) | false => false))
 false
 (S1 (w64 (iv1+(1:Int)))))
 true)
def zxN (a:(Sl Span)) (b:(Sl Span)) (P1:Int->Bool) (iv1:Int):Bool :=
  (cond (decide (iv1 < (a.len : Int)))
 (decide ((0<=iv1/\iv1 < (a.len:Int))) &&
 (decide ((0<=iv1/\iv1 < (b.len:Int))) &&
 (cond (!(match ((a.get iv1.toNat).Low == (b.get iv1.toNat).Low) with | true => (match ((a.get iv1.toNat).High == (b.get iv1.toNat).High) with | true => true | false => false) | false => false))
 true
 (P1 (w64 (iv1+(1:Int)))))))
 true)
def zxO (a:(Sl Span)) (b:(Sl Span)):Nat->Int->Bool:=lpO (λ _=>default) (zxM a b)
def zxP (a:(Sl Span)) (b:(Sl Span)):Nat->Int->Bool:=lpO (λ _=>false) (zxN a b)
def zxQ (a:(Sl Span)) (b:(Sl Span)) (iv1:Int):Bool:=zxO a b Fuel iv1
def zxR (a:(Sl Span)) (b:(Sl Span)) (iv1:Int):Bool:=zxP a b Fuel iv1
theorem zFS (hs:zxR a b iv1=true) (hk:K (e32 (zxQ a b iv1))):z32 K [1,1,0,1,0] [] (zC7 a b iv1) :=
  zl (λ X=>z32 K [1,1,0,1,0,0] [X]) (by kernel_rfl) λ X1 hX =>
  (show ∀ k, zJC K a b X1 (zxP a b k) (zxO a b k) from zeu _ _ (zxN a b) (zxM a b) (zJC K a b X1)
 (by intro _ hs;exact absurd hs dqk)
 (by intro P1 S1 hX1 iv1 hs hk;exact hX _ (za0 (by kernel_rfl) (zc hs hk (λ hs hk=>(zaN hs λ hc hs=>And.intro hc (zaN hs λ hc hs=>And.intro hc (zc hs hk (λ hs hk=>hk) (λ hs hk=>(hX1 hs hk)))))) (λ hs hk=>hk))))) _ hs hk
def zxS (a:(Sl Span)) (b:(Sl Span)):Bool :=
  (zxQ a b (0:Int))
def zxT (a:(Sl Span)) (b:(Sl Span)):Bool :=
  (zxR a b (0:Int))
theorem zFT (hs:zxT a b=true) (hk:K (e32 (zxS a b))):z32 K [1,1] [] ⟨[(0,zS zbv 2 a),(1,zS zbv 2 b)],[],[]⟩:=za0 (by kernel_rfl) (zFS hs hk)
def s32 (a:(Sl Span)) (b:(Sl Span)):Bool :=
  (cond ((a.len : Int) != (b.len : Int))
 false
 (zxS a b))
def p32 (a:(Sl Span)) (b:(Sl Span)):Bool :=
  (cond ((a.len : Int) != (b.len : Int))
 true
 (zxT a b))
end
theorem q32 (a:(Sl Span)) (b:(Sl Span)) (K:List PA->Prop) (hs:p32 a b=true) (hk:K (e32 (s32 a b))):vcFun Tryd.prog G32 zFR 32 [.one (.sl a.len 2 (λ i=>zbv (a.get i))),.one (.sl b.len 2 (λ i=>zbv (b.get i)))] K :=
  za0 (by kernel_rfl) (zc hs hk (λ hs hk=>hk) (λ hs hk=>(zFT hs hk)))
def zFU : List PA → COut
  | [.one (.sl zeR zkX zeS),.one (.sl zeT zlt zeQ)]=>.det (IsE zbv 2 zkX zeS/\IsE zbv 2 zlt zeQ/\p32 (⟨zeR,zfI zeS⟩:(Sl Span)) (⟨zeT,zfI zeQ⟩:(Sl Span))=true) [.one (.bool (s32 (⟨zeR,zfI zeS⟩:(Sl Span)) (⟨zeT,zfI zeQ⟩:(Sl Span))))]
  | _=>.no
theorem zJD:zar Tryd.prog 32:=⟨_,rfl,rfl,by kernel_rfl⟩
theorem ok32:Ok Tryd.prog 32 zFU:=zbl zMb zJD λ args K h=>by
  unfold zFU at h
  split at h
  · rename_i zeR zkX zeS zeT zlt zeQ
    obtain⟨⟨⟨rfl,zg2,rfl⟩,⟨rfl,zif,rfl⟩,hs⟩,hk⟩:=h
    try rw[zfa zg2] at hs
    try rw[zfa zg2] at hk
    try rw[zfa zif] at hs
    try rw[zfa zif] at hk
    exact⟨(λ _ _=>[]),(λ _=>false),zFR,q32 (⟨zeR,zg2⟩:(Sl Span)) (⟨zeT,zif⟩:(Sl Span)) K hs hk⟩
  · exact h.elim
abbrev T83:Tabs:=((Tabs.nil.addF 75 zxi).addF 76 zxF)
theorem zMc:TabsOk Tryd.prog T83:=((TabsOk.nil.addF zL6).addF zL8)
abbrev G83:Ctrs:=csm T83 (λ _ _=>[]) (λ _=>false)
def zFV:Ann:=⟨31,[(0,zK [0] []),(1,zK [0,3,4] [3,4]),(2,zK [3,4,14,15] [3,4]),(3,zK [3,4,14,15,16] [3,4]),(4,zK [3,4,5,14,15] [3,4]),(5,zK [3,4,14,15,29] [3,4]),(6,zK [2] []),(7,zK [3,4,14,15] [3,4]),(8,zK [2] [])],
 [(3,zK [3,4,14,15] [3,4])],
 [(2,zK [0,3,4] [3,4])],
 [],[]⟩
abbrev R83:=Bool
abbrev e83 (r:R83):List PA:=[.one (.bool r)]
@[irreducible] def z83:=ptF Tryd.prog G83 zFV Tryd.f83
def zC8 (w:web) (zcC:Int) (tot1:Tab) (fromt1:Tab):St:=⟨[(3,zp 3 0),(4,zp 4 0),(14,zI w.Net.Nodes),(15,zI zcC)],[(3,.box 116 (zm (zal tot1))),(4,.box 116 (zm (zal fromt1)))],[]⟩
abbrev zJE (K:List PA->Prop) (w:web) (X:St->Prop) (P:Int->Tab->Tab->Bool) (S:Int->Tab->Tab->Bool):Prop:=∀ ⦃zcC:Int⦄ ⦃tot1:Tab⦄ ⦃fromt1:Tab⦄,P zcC tot1 fromt1=true->K (e83 (S zcC tot1 fromt1))->X (zC8 w zcC tot1 fromt1)
section
variable {K:List PA->Prop}{w:web}{tot0:Tab}{fromt0:Tab}{zcC:Int}{tot1:Tab}{fromt1:Tab}{X1:St->Prop}{P1:Int->Tab->Tab->Bool}{S1:Int->Tab->Tab->Bool}
def zxU (w:web) (S1:Int->Tab->Tab->Bool) (zcC:Int) (tot1:Tab) (fromt1:Tab):Bool :=
  (cond (decide (zcC < w.Net.Nodes))
 (cond (match ((tg 80 tot1 (0 + zcC.toNat * 2 + 0)) == (1000000000000:Int)) with | true => (match ((tg 80 tot1 (0 + zcC.toNat * 2 + 0 + 1)) == (0:Int)) with | true => true | false => false) | false => false)
 false
 (cond (match ((tg 80 fromt1 (0 + zcC.toNat * 2 + 0)) == (1000000000000:Int)) with | true => (match ((tg 80 fromt1 (0 + zcC.toNat * 2 + 0 + 1)) == (0:Int)) with | true => true | false => false) | false => false)
 false
 (S1 (w64 (zcC+(1:Int))) tot1 fromt1)))
 true)
def zxV (w:web) (P1:Int->Tab->Tab->Bool) (zcC:Int) (tot1:Tab) (fromt1:Tab):Bool :=
  (cond (decide (zcC < w.Net.Nodes))
 (decide ((0<=zcC/\zcC < (40:Int))) &&
 (cond (match ((tg 80 tot1 (0 + zcC.toNat * 2 + 0)) == (1000000000000:Int)) with | true => (match ((tg 80 tot1 (0 + zcC.toNat * 2 + 0 + 1)) == (0:Int)) with | true => true | false => false) | false => false)
 true
 (decide ((0<=zcC/\zcC < (40:Int))) &&
 (cond (match ((tg 80 fromt1 (0 + zcC.toNat * 2 + 0)) == (1000000000000:Int)) with | true => (match ((tg 80 fromt1 (0 + zcC.toNat * 2 + 0 + 1)) == (0:Int)) with | true => true | false => false) | false => false)
 true
 (P1 (w64 (zcC+(1:Int))) tot1 fromt1)))))
 true)
def zxW (w:web):Nat->Int->Tab->Tab->Bool:=lpO (λ _ _ _=>default) (zxU w)
def zxX (w:web):Nat->Int->Tab->Tab->Bool:=lpO (λ _ _ _=>false) (zxV w)
def zxY (w:web) (zcC:Int) (tot1:Tab) (fromt1:Tab):Bool:=zxW w Fuel zcC tot1 fromt1
def zxZ (w:web) (zcC:Int) (tot1:Tab) (fromt1:Tab):Bool:=zxX w Fuel zcC tot1 fromt1
theorem zFW (hs:zxZ w zcC tot1 fromt1=true) (hk:K (e83 (zxY w zcC tot1 fromt1))):z83 K [1,1,0,1,0] [] (zC8 w zcC tot1 fromt1) :=
  zl (λ X=>z83 K [1,1,0,1,0,0] [X]) (by kernel_rfl) λ X1 hX =>
  (show ∀ k, zJE K w X1 (zxX w k) (zxW w k) from zeu _ _ (zxV w) (zxU w) (zJE K w X1)
 (by intro _ _ _ hs;exact absurd hs dqk)
 (by intro P1 S1 hX1 zcC tot1 fromt1 hs hk;exact hX _ (za0 (by kernel_rfl) (zc hs hk (λ hs hk=>(zaN hs λ hc hs=>And.intro hc (zc hs hk (λ hs hk=>hk) (λ hs hk=>(zaN hs λ hc hs=>And.intro hc (zc hs hk (λ hs hk=>hk) (λ hs hk=>(hX1 hs hk)))))))) (λ hs hk=>hk))))) _ hs hk
def zx0 (w:web) (tot0:Tab) (fromt0:Tab):Bool :=
  (zxY w (0:Int) tot0 fromt0)
def zx1 (w:web) (tot0:Tab) (fromt0:Tab):Bool :=
  (zxZ w (0:Int) tot0 fromt0)
theorem zFX (hs:zx1 w tot0 fromt0=true) (hk:K (e83 (zx0 w tot0 fromt0))):z83 K [1,1] [] ⟨[(0,zP (.fp (zaB w) 0)),(3,zp 3 0),(4,zp 4 0)],[(3,.box 116 (zm (zal tot0))),(4,.box 116 (zm (zal fromt0)))],[]⟩:=za0 (by kernel_rfl) (zFW hs hk)
def s83 (w:web):Bool :=
  (zx0 w (s75 w (0:Int)) (s76 w (0:Int)))
def p83 (w:web):Bool :=
  (decide ((p75 w (0:Int)=true)) &&
 (decide ((p76 w (0:Int)=true)) &&
 (zx1 w (s75 w (0:Int)) (s76 w (0:Int)))))
end
theorem q83 (w:web) (K:List PA->Prop) (hs:p83 w=true) (hk:K (e83 (s83 w))):vcFun Tryd.prog G83 zFV 83 [.one (.fp (zaB w) 0)] K :=
  za0 (by kernel_rfl) (zaN hs λ hc hs=>And.intro (And.intro (zE enc_40 4 w.Net.Ties.get) (And.intro (rfl:((false,1,false,[none]):MQ)=(false,1,false,[none])) hc)) (zaN hs λ hc hs=>And.intro (And.intro (zE enc_40 4 w.Net.Ties.get) (And.intro (rfl:((false,1,false,[none]):MQ)=(false,1,false,[none])) hc)) (zFX hs hk)))
def zFY : List PA → COut
  | [.one (.fp [.int .i64 zak,.sl zah zaA zai,.fm za7 zaH zaI] 0)]=>.det (IsE enc_40 4 zaA zai/\za7=(false,1,false,[none])/\p83 (⟨(⟨zak,(⟨zah,zam zai⟩:(Sl Tie))⟩:Net),(⟨zaH,zaI⟩:Mp)⟩:web)=true) [.one (.bool (s83 (⟨(⟨zak,(⟨zah,zam zai⟩:(Sl Tie))⟩:Net),(⟨zaH,zaI⟩:Mp)⟩:web)))]
  | _=>.no
theorem zJF:zar Tryd.prog 83:=⟨_,rfl,rfl,by kernel_rfl⟩
theorem zOb:Ok Tryd.prog 83 zFY:=zbl zMc zJF λ args K h=>by
  unfold zFY at h
  split at h
  · rename_i zak zah zaA zai za7 zaH zaI
    obtain⟨⟨⟨rfl,zaq,rfl⟩,rfl,hs⟩,hk⟩:=h
    try rw[zan zaq] at hs
    try rw[zan zaq] at hk
    exact⟨(λ _ _=>[]),(λ _=>false),zFV,q83 (⟨(⟨zak,(⟨zah,zaq⟩:(Sl Tie))⟩:Net),(⟨zaH,zaI⟩:Mp)⟩:web) K hs hk⟩
  · exact h.elim
abbrev T85:Tabs:=Tabs.nil
theorem zMd:TabsOk Tryd.prog T85:=TabsOk.nil
abbrev G85:Ctrs:=csm T85 (λ _ _=>[]) (λ _=>false)
def zJG:Ann:=⟨8,[(0,zK [0,1] []),(1,zK [3] [])],
 [],
 [],
 [],[]⟩
abbrev R85:=Int
abbrev e85 (r:R85):List PA:=[.one (.int .i64 r)]
section
variable {K:List PA->Prop}{c0:Tab}{i_a0:Int}
def s85 (c0:Tab) (i_a0:Int):Int :=
  (tg 80 c0 (0+i_a0.toNat * 2+0))
def p85 (c0:Tab) (i_a0:Int):Bool :=
  (decide ((0<=i_a0/\i_a0 < (40:Int))) &&
 true)
end
theorem q85 (c0:Tab) (i_a0:Int) (K:List PA->Prop) (hs:p85 c0 i_a0=true) (hk:K (e85 (s85 c0 i_a0))):vcFun Tryd.prog G85 zJG 85 [.one (.int .i64 i_a0),.one (.fp (zal c0) 0)] K :=
  za0 (by kernel_rfl) (zaN hs λ hc hs=>And.intro hc hk)
def zFZ : List PA → COut
  | [.one (.int .i64 a0),.one (.fp c0_t 0)]=>.det (c0_t=zal (zaF c0_t)/\p85 (zaF c0_t) a0=true) [.one (.int .i64 (s85 (zaF c0_t) a0))]
  | _=>.no
theorem zJH:zar Tryd.prog 85:=⟨_,rfl,rfl,by kernel_rfl⟩
theorem zOc:Ok Tryd.prog 85 zFZ:=zbl zMd zJH λ args K h=>by
  unfold zFZ at h
  split at h
  · rename_i a0 c0_t
    obtain⟨⟨hT_c0,hs⟩,hk⟩:=h
    exact⟨(λ _ _=>[]),(λ _=>false),zJG,(by have hq:=q85 (zaF c0_t) a0 K hs hk;rw[<- hT_c0] at hq;exact hq)⟩
  · exact h.elim
abbrev T86:Tabs:=Tabs.nil
theorem zMe:TabsOk Tryd.prog T86:=TabsOk.nil
abbrev G86:Ctrs:=csm T86 (λ _ _=>[]) (λ _=>false)
def zJI:Ann:=⟨9,[(0,zK [0,1] []),(1,zK [3] [])],
 [],
 [],
 [],[]⟩
abbrev R86:=Int
abbrev e86 (r:R86):List PA:=[.one (.int .i64 r)]
section
variable {K:List PA->Prop}{c0:Tab}{i_a0:Int}
def s86 (c0:Tab) (i_a0:Int):Int :=
  (w64 (0 - (tg 80 c0 (0+i_a0.toNat * 2+0))))
def p86 (c0:Tab) (i_a0:Int):Bool :=
  (decide ((0<=i_a0/\i_a0 < (40:Int))) &&
 true)
end
theorem q86 (c0:Tab) (i_a0:Int) (K:List PA->Prop) (hs:p86 c0 i_a0=true) (hk:K (e86 (s86 c0 i_a0))):vcFun Tryd.prog G86 zJI 86 [.one (.int .i64 i_a0),.one (.fp (zal c0) 0)] K :=
  za0 (by kernel_rfl) (zaN hs λ hc hs=>And.intro hc hk)
def zF0 : List PA → COut
  | [.one (.int .i64 a0),.one (.fp c0_t 0)]=>.det (c0_t=zal (zaF c0_t)/\p86 (zaF c0_t) a0=true) [.one (.int .i64 (s86 (zaF c0_t) a0))]
  | _=>.no
theorem zJJ:zar Tryd.prog 86:=⟨_,rfl,rfl,by kernel_rfl⟩
theorem zOd:Ok Tryd.prog 86 zF0:=zbl zMe zJJ λ args K h=>by
  unfold zF0 at h
  split at h
  · rename_i a0 c0_t
    obtain⟨⟨hT_c0,hs⟩,hk⟩:=h
    exact⟨(λ _ _=>[]),(λ _=>false),zJI,(by have hq:=q86 (zaF c0_t) a0 K hs hk;rw[<- hT_c0] at hq;exact hq)⟩
  · exact h.elim
abbrev T87:Tabs:=Tabs.nil
theorem zMf:TabsOk Tryd.prog T87:=TabsOk.nil
abbrev G87:Ctrs:=csm T87 (λ _ _=>[]) (λ _=>false)
def zJK:Ann:=⟨12,[(0,zK [0,1] []),(1,zK [3] [])],
 [],
 [],
 [],[]⟩
abbrev R87:=Int
abbrev e87 (r:R87):List PA:=[.one (.int .i64 r)]
section
variable {K:List PA->Prop}{c0:Tab}{i_a0:Int}
def s87 (c0:Tab) (i_a0:Int):Int :=
  (w64 ((tg 80 c0 (0+i_a0.toNat * 2+0)) - (tg 80 c0 (0+0 * 2+0))))
def p87 (c0:Tab) (i_a0:Int):Bool :=
  (decide ((0<=i_a0/\i_a0 < (40:Int))) &&
 (decide ((0<=(0:Int)/\(0:Int) < (40:Int))) &&
 true))
end
theorem q87 (c0:Tab) (i_a0:Int) (K:List PA->Prop) (hs:p87 c0 i_a0=true) (hk:K (e87 (s87 c0 i_a0))):vcFun Tryd.prog G87 zJK 87 [.one (.int .i64 i_a0),.one (.fp (zal c0) 0)] K :=
  za0 (by kernel_rfl) (zaN hs λ hc hs=>And.intro hc (zaN hs λ hc hs=>And.intro hc hk))
def zF1 : List PA → COut
  | [.one (.int .i64 a0),.one (.fp c0_t 0)]=>.det (c0_t=zal (zaF c0_t)/\p87 (zaF c0_t) a0=true) [.one (.int .i64 (s87 (zaF c0_t) a0))]
  | _=>.no
theorem zJL:zar Tryd.prog 87:=⟨_,rfl,rfl,by kernel_rfl⟩
theorem zOe:Ok Tryd.prog 87 zF1:=zbl zMf zJL λ args K h=>by
  unfold zF1 at h
  split at h
  · rename_i a0 c0_t
    obtain⟨⟨hT_c0,hs⟩,hk⟩:=h
    exact⟨(λ _ _=>[]),(λ _=>false),zJK,(by have hq:=q87 (zaF c0_t) a0 K hs hk;rw[<- hT_c0] at hq;exact hq)⟩
  · exact h.elim
abbrev T84:Tabs:=(((Tabs.nil.addF 85 zFZ).addF 86 zF0).addF 87 zF1)
theorem zMg:TabsOk Tryd.prog T84:=(((TabsOk.nil.addF zOc).addF zOd).addF zOe)
abbrev G84:Ctrs:=csm T84 (λ _ _=>[]) (λ _=>false)
def zF2:Ann:=⟨26,[(0,zK [0,1] []),(1,zK [1,5] [12]),(2,zK [1,5,14,15] [12]),(3,zK [1,5,14,15,16] [12]),(4,zK [1,5,6,14,15] [12]),(5,zK [1,5,14,15] [12]),(6,zK [1,5,14,15] [12]),(7,zK [4] [12])],
 [(3,zK [1,5,14,15] [12])],
 [],
 [],[]⟩
abbrev R84:=(Sl Int)
abbrev e84 (r:R84):List PA:=[.one (.sl r.len 1 (λ i=>zac (r.get i)))]
@[irreducible] def z84:=ptF Tryd.prog G84 zF2 Tryd.f84
def zC9 (c0:Tab) (w:web) (zaJ:Int) (za1:(Sl Int)) (zbz:Nat->List PV):St:=⟨[(1,zP (.fn 87 [] [.fp (zal c0) 0])),(5,zv 12),(14,zI (w.Net.Nodes.toNat:Int)),(15,zI zaJ)],[(12,.vec 3 1 8 za1.len zbz)],[]⟩
abbrev zJM (K:List PA->Prop) (c0:Tab) (w:web) (X:St->Prop) (P:Int->(Sl Int)->Bool) (S:Int->(Sl Int)->(Sl Int)):Prop:=∀ ⦃zaJ:Int⦄ ⦃za1:(Sl Int)⦄ ⦃zbz:Nat->List PV⦄,P zaJ za1=true->K (e84 (S zaJ za1))->zbz=zg zac za1->X (zC9 c0 w zaJ za1 zbz)
section
variable {K:List PA->Prop}{c0:Tab}{w:web}{zaJ:Int}{za1:(Sl Int)}{zbz:Nat->List PV}{X0:St->Prop}{P0:Int->(Sl Int)->Bool}{S0:Int->(Sl Int)->(Sl Int)}
def zx2 (c0:Tab) (w:web) (S0:Int->(Sl Int)->(Sl Int)) (zaJ:Int) (za1:(Sl Int)):(Sl Int) :=
  (cond (decide (zaJ < (w.Net.Nodes.toNat : Int)))
 (S0 (w64 (zaJ+(1:Int))) (⟨za1.len,(setT zaJ.toNat (s87 (zaF (zal c0)) zaJ) za1.get)⟩:Sl Int))
 za1)
def zx3 (c0:Tab) (w:web) (P0:Int->(Sl Int)->Bool) (zaJ:Int) (za1:(Sl Int)):Bool :=
  (cond (decide (zaJ < (w.Net.Nodes.toNat : Int)))
 (decide ((p87 (zaF (zal c0)) zaJ=true)) &&
 (decide ((0<=zaJ/\zaJ < (za1.len:Int))) &&
 (decide ((zaJ.toNat < za1.len)) &&
 (P0 (w64 (zaJ+(1:Int))) (⟨za1.len,(setT zaJ.toNat (s87 (zaF (zal c0)) zaJ) za1.get)⟩:Sl Int)))))
 true)
def zx4 (c0:Tab) (w:web):Nat->Int->(Sl Int)->(Sl Int):=lpO (λ _ _=>default) (zx2 c0 w)
def zx5 (c0:Tab) (w:web):Nat->Int->(Sl Int)->Bool:=lpO (λ _ _=>false) (zx3 c0 w)
def zx6 (c0:Tab) (w:web) (zaJ:Int) (za1:(Sl Int)):(Sl Int):=zx4 c0 w Fuel zaJ za1
def zx7 (c0:Tab) (w:web) (zaJ:Int) (za1:(Sl Int)):Bool:=zx5 c0 w Fuel zaJ za1
theorem zF3 (hs:zx7 c0 w zaJ za1=true) (hk:K (e84 (zx6 c0 w zaJ za1))) (zd2:zbz=zg zac za1):z84 K [1,1,0,1,0] [] (zC9 c0 w zaJ za1 zbz) :=
  zl (λ X=>z84 K [1,1,0,1,0,0] [X]) (by kernel_rfl) λ X0 hX =>
  (show ∀ k, zJM K c0 w X0 (zx5 c0 w k) (zx4 c0 w k) from zeu _ _ (zx3 c0 w) (zx2 c0 w) (zJM K c0 w X0)
 (by intro _ _ _ hs;exact absurd hs dqk)
 (by intro P0 S0 hX0 zaJ za1 zbz hs hk zd2;subst zd2;exact hX _ (za0 (by kernel_rfl) (zc hs hk (λ hs hk=>(zaN hs λ hc hs=>And.intro (And.intro (zhE:zal c0=zal (zaF (zal c0))) hc) (zaN hs λ hc hs=>And.intro hc (zaN hs λ hc hs=>And.intro hc (hX0 hs hk (zhD (enc:=zac) (i:=zaJ.toNat) (k:=0) (f:=za1.get) (new:=(zac (s87 (zaF (zal c0)) zaJ))) (v:=(s87 (zaF (zal c0)) zaJ)) rfl rfl)))))) (λ hs hk=>hk))))) _ hs hk zd2
def s84 (c0:Tab) (w:web):(Sl Int) :=
  (zx6 c0 w (0:Int) (⟨w.Net.Nodes.toNat,(λ _=>(0:Int))⟩:Sl Int))
def p84 (c0:Tab) (w:web):Bool :=
  (decide ((0<=w.Net.Nodes/\w.Net.Nodes=w.Net.Nodes/\w.Net.Nodes<=1000000)) &&
 (zx7 c0 w (0:Int) (⟨w.Net.Nodes.toNat,(λ _=>(0:Int))⟩:Sl Int)))
end
theorem q84 (c0:Tab) (w:web) (K:List PA->Prop) (hs:p84 c0 w=true) (hk:K (e84 (s84 c0 w))):vcFun Tryd.prog G84 zF2 84 [.one (.fp (zaB w) 0),.one (.fn 87 [] [.fp (zal c0) 0])] K :=
  za0 (by kernel_rfl) (zaN hs λ hc hs=>And.intro hc (zF3 hs hk rfl))
abbrev zNk:Ctrs:=csm T84 (λ _ _=>[]) (λ _=>false)
def zx8:Ann:=⟨26,[(0,zK [0,1] []),(1,zK [1,5] [12]),(2,zK [1,5,14,15] [12]),(3,zK [1,5,14,15,16] [12]),(4,zK [1,5,6,14,15] [12]),(5,zK [1,5,14,15] [12]),(6,zK [1,5,14,15] [12]),(7,zK [4] [12])],
 [(3,zK [1,5,14,15] [12])],
 [],
 [],[]⟩
abbrev zOf:=(Sl Int)
abbrev zMh (r:zOf):List PA:=[.one (.sl r.len 1 (λ i=>zac (r.get i)))]
@[irreducible] def z84a:=ptF Tryd.prog zNk zx8 Tryd.f84
def zx9 (c0:Tab) (w:web) (zaJ:Int) (za1:(Sl Int)) (zbz:Nat->List PV):St:=⟨[(1,zP (.fn 85 [] [.fp (zal c0) 0])),(5,zv 12),(14,zI (w.Net.Nodes.toNat:Int)),(15,zI zaJ)],[(12,.vec 3 1 8 za1.len zbz)],[]⟩
abbrev zDa (K:List PA->Prop) (c0:Tab) (w:web) (X:St->Prop) (P:Int->(Sl Int)->Bool) (S:Int->(Sl Int)->(Sl Int)):Prop:=∀ ⦃zaJ:Int⦄ ⦃za1:(Sl Int)⦄ ⦃zbz:Nat->List PV⦄,P zaJ za1=true->K (zMh (S zaJ za1))->zbz=zg zac za1->X (zx9 c0 w zaJ za1 zbz)
section
variable {K:List PA->Prop}{c0:Tab}{w:web}{zaJ:Int}{za1:(Sl Int)}{zbz:Nat->List PV}{X0:St->Prop}{P0:Int->(Sl Int)->Bool}{S0:Int->(Sl Int)->(Sl Int)}
def zsu (c0:Tab) (w:web) (S0:Int->(Sl Int)->(Sl Int)) (zaJ:Int) (za1:(Sl Int)):(Sl Int) :=
  (cond (decide (zaJ < (w.Net.Nodes.toNat : Int)))
 (S0 (w64 (zaJ+(1:Int))) (⟨za1.len,(setT zaJ.toNat (s85 (zaF (zal c0)) zaJ) za1.get)⟩:Sl Int))
 za1)
def zsv (c0:Tab) (w:web) (P0:Int->(Sl Int)->Bool) (zaJ:Int) (za1:(Sl Int)):Bool :=
  (cond (decide (zaJ < (w.Net.Nodes.toNat : Int)))
 (decide ((p85 (zaF (zal c0)) zaJ=true)) &&
 (decide ((0<=zaJ/\zaJ < (za1.len:Int))) &&
 (decide ((zaJ.toNat < za1.len)) &&
 (P0 (w64 (zaJ+(1:Int))) (⟨za1.len,(setT zaJ.toNat (s85 (zaF (zal c0)) zaJ) za1.get)⟩:Sl Int)))))
 true)
def zsw (c0:Tab) (w:web):Nat->Int->(Sl Int)->(Sl Int):=lpO (λ _ _=>default) (zsu c0 w)
def zsx (c0:Tab) (w:web):Nat->Int->(Sl Int)->Bool:=lpO (λ _ _=>false) (zsv c0 w)
def zsy (c0:Tab) (w:web) (zaJ:Int) (za1:(Sl Int)):(Sl Int):=zsw c0 w Fuel zaJ za1
def zsz (c0:Tab) (w:web) (zaJ:Int) (za1:(Sl Int)):Bool:=zsx c0 w Fuel zaJ za1
theorem zBL (hs:zsz c0 w zaJ za1=true) (hk:K (zMh (zsy c0 w zaJ za1))) (zd2:zbz=zg zac za1):z84a K [1,1,0,1,0] [] (zx9 c0 w zaJ za1 zbz) :=
  zl (λ X=>z84a K [1,1,0,1,0,0] [X]) (by kernel_rfl) λ X0 hX =>
  (show ∀ k, zDa K c0 w X0 (zsx c0 w k) (zsw c0 w k) from zeu _ _ (zsv c0 w) (zsu c0 w) (zDa K c0 w X0)
 (by intro _ _ _ hs;exact absurd hs dqk)
 (by intro P0 S0 hX0 zaJ za1 zbz hs hk zd2;subst zd2;exact hX _ (za0 (by kernel_rfl) (zc hs hk (λ hs hk=>(zaN hs λ hc hs=>And.intro (And.intro (zhE:zal c0=zal (zaF (zal c0))) hc) (zaN hs λ hc hs=>And.intro hc (zaN hs λ hc hs=>And.intro hc (hX0 hs hk (zhD (enc:=zac) (i:=zaJ.toNat) (k:=0) (f:=za1.get) (new:=(zac (s85 (zaF (zal c0)) zaJ))) (v:=(s85 (zaF (zal c0)) zaJ)) rfl rfl)))))) (λ hs hk=>hk))))) _ hs hk zd2
def zMi (c0:Tab) (w:web):(Sl Int) :=
  (zsy c0 w (0:Int) (⟨w.Net.Nodes.toNat,(λ _=>(0:Int))⟩:Sl Int))
def zNl (c0:Tab) (w:web):Bool :=
  (decide ((0<=w.Net.Nodes/\w.Net.Nodes=w.Net.Nodes/\w.Net.Nodes<=1000000)) &&
 (zsz c0 w (0:Int) (⟨w.Net.Nodes.toNat,(λ _=>(0:Int))⟩:Sl Int)))
end
theorem zOg (c0:Tab) (w:web) (K:List PA->Prop) (hs:zNl c0 w=true) (hk:K (zMh (zMi c0 w))):vcFun Tryd.prog zNk zx8 84 [.one (.fp (zaB w) 0),.one (.fn 85 [] [.fp (zal c0) 0])] K :=
  za0 (by kernel_rfl) (zaN hs λ hc hs=>And.intro hc (zBL hs hk rfl))
abbrev zNm:Ctrs:=csm T84 (λ _ _=>[]) (λ _=>false)
def zya:Ann:=⟨26,[(0,zK [0,1] []),(1,zK [1,5] [12]),(2,zK [1,5,14,15] [12]),(3,zK [1,5,14,15,16] [12]),(4,zK [1,5,6,14,15] [12]),(5,zK [1,5,14,15] [12]),(6,zK [1,5,14,15] [12]),(7,zK [4] [12])],
 [(3,zK [1,5,14,15] [12])],
 [],
 [],[]⟩
abbrev zOh:=(Sl Int)
abbrev zMj (r:zOh):List PA:=[.one (.sl r.len 1 (λ i=>zac (r.get i)))]
@[irreducible] def z84b:=ptF Tryd.prog zNm zya Tryd.f84
def zyb (c0:Tab) (w:web) (zaJ:Int) (za1:(Sl Int)) (zbz:Nat->List PV):St:=⟨[(1,zP (.fn 86 [] [.fp (zal c0) 0])),(5,zv 12),(14,zI (w.Net.Nodes.toNat:Int)),(15,zI zaJ)],[(12,.vec 3 1 8 za1.len zbz)],[]⟩
abbrev zDb (K:List PA->Prop) (c0:Tab) (w:web) (X:St->Prop) (P:Int->(Sl Int)->Bool) (S:Int->(Sl Int)->(Sl Int)):Prop:=∀ ⦃zaJ:Int⦄ ⦃za1:(Sl Int)⦄ ⦃zbz:Nat->List PV⦄,P zaJ za1=true->K (zMj (S zaJ za1))->zbz=zg zac za1->X (zyb c0 w zaJ za1 zbz)
section
variable {K:List PA->Prop}{c0:Tab}{w:web}{zaJ:Int}{za1:(Sl Int)}{zbz:Nat->List PV}{X0:St->Prop}{P0:Int->(Sl Int)->Bool}{S0:Int->(Sl Int)->(Sl Int)}
def zsA (c0:Tab) (w:web) (S0:Int->(Sl Int)->(Sl Int)) (zaJ:Int) (za1:(Sl Int)):(Sl Int) :=
  (cond (decide (zaJ < (w.Net.Nodes.toNat : Int)))
 (S0 (w64 (zaJ+(1:Int))) (⟨za1.len,(setT zaJ.toNat (s86 (zaF (zal c0)) zaJ) za1.get)⟩:Sl Int))
 za1)
def zsB (c0:Tab) (w:web) (P0:Int->(Sl Int)->Bool) (zaJ:Int) (za1:(Sl Int)):Bool :=
  (cond (decide (zaJ < (w.Net.Nodes.toNat : Int)))
 (decide ((p86 (zaF (zal c0)) zaJ=true)) &&
 (decide ((0<=zaJ/\zaJ < (za1.len:Int))) &&
 (decide ((zaJ.toNat < za1.len)) &&
 (P0 (w64 (zaJ+(1:Int))) (⟨za1.len,(setT zaJ.toNat (s86 (zaF (zal c0)) zaJ) za1.get)⟩:Sl Int)))))
 true)
def zsC (c0:Tab) (w:web):Nat->Int->(Sl Int)->(Sl Int):=lpO (λ _ _=>default) (zsA c0 w)
def zsD (c0:Tab) (w:web):Nat->Int->(Sl Int)->Bool:=lpO (λ _ _=>false) (zsB c0 w)
def zsE (c0:Tab) (w:web) (zaJ:Int) (za1:(Sl Int)):(Sl Int):=zsC c0 w Fuel zaJ za1
def zsF (c0:Tab) (w:web) (zaJ:Int) (za1:(Sl Int)):Bool:=zsD c0 w Fuel zaJ za1
theorem zBM (hs:zsF c0 w zaJ za1=true) (hk:K (zMj (zsE c0 w zaJ za1))) (zd2:zbz=zg zac za1):z84b K [1,1,0,1,0] [] (zyb c0 w zaJ za1 zbz) :=
  zl (λ X=>z84b K [1,1,0,1,0,0] [X]) (by kernel_rfl) λ X0 hX =>
  (show ∀ k, zDb K c0 w X0 (zsD c0 w k) (zsC c0 w k) from zeu _ _ (zsB c0 w) (zsA c0 w) (zDb K c0 w X0)
 (by intro _ _ _ hs;exact absurd hs dqk)
 (by intro P0 S0 hX0 zaJ za1 zbz hs hk zd2;subst zd2;exact hX _ (za0 (by kernel_rfl) (zc hs hk (λ hs hk=>(zaN hs λ hc hs=>And.intro (And.intro (zhE:zal c0=zal (zaF (zal c0))) hc) (zaN hs λ hc hs=>And.intro hc (zaN hs λ hc hs=>And.intro hc (hX0 hs hk (zhD (enc:=zac) (i:=zaJ.toNat) (k:=0) (f:=za1.get) (new:=(zac (s86 (zaF (zal c0)) zaJ))) (v:=(s86 (zaF (zal c0)) zaJ)) rfl rfl)))))) (λ hs hk=>hk))))) _ hs hk zd2
def zMk (c0:Tab) (w:web):(Sl Int) :=
  (zsE c0 w (0:Int) (⟨w.Net.Nodes.toNat,(λ _=>(0:Int))⟩:Sl Int))
def zNn (c0:Tab) (w:web):Bool :=
  (decide ((0<=w.Net.Nodes/\w.Net.Nodes=w.Net.Nodes/\w.Net.Nodes<=1000000)) &&
 (zsF c0 w (0:Int) (⟨w.Net.Nodes.toNat,(λ _=>(0:Int))⟩:Sl Int)))
end
theorem zOi (c0:Tab) (w:web) (K:List PA->Prop) (hs:zNn c0 w=true) (hk:K (zMj (zMk c0 w))):vcFun Tryd.prog zNm zya 84 [.one (.fp (zaB w) 0),.one (.fn 86 [] [.fp (zal c0) 0])] K :=
  za0 (by kernel_rfl) (zaN hs λ hc hs=>And.intro hc (zBM hs hk rfl))
def zF4 : List PA → COut
  | [.one (.fp [.int .i64 zak,.sl zah zaA zai,.fm za7 zaH zaI] 0),.one (.fn 87 [] [.fp c0_t 0])]=>.det (IsE enc_40 4 zaA zai/\za7=(false,1,false,[none])/\c0_t=zal (zaF c0_t)/\p84 (zaF c0_t) (⟨(⟨zak,(⟨zah,zam zai⟩:(Sl Tie))⟩:Net),(⟨zaH,zaI⟩:Mp)⟩:web)=true) [.one (.sl ((s84 (zaF c0_t) (⟨(⟨zak,(⟨zah,zam zai⟩:(Sl Tie))⟩:Net),(⟨zaH,zaI⟩:Mp)⟩:web)).len) 1 (λ i=>zac ((s84 (zaF c0_t) (⟨(⟨zak,(⟨zah,zam zai⟩:(Sl Tie))⟩:Net),(⟨zaH,zaI⟩:Mp)⟩:web)).get i)))]
  | [.one (.fp [.int .i64 zak,.sl zah zaA zai,.fm za7 zaH zaI] 0),.one (.fn 85 [] [.fp c0_t 0])]=>.det (IsE enc_40 4 zaA zai/\za7=(false,1,false,[none])/\c0_t=zal (zaF c0_t)/\zNl (zaF c0_t) (⟨(⟨zak,(⟨zah,zam zai⟩:(Sl Tie))⟩:Net),(⟨zaH,zaI⟩:Mp)⟩:web)=true) [.one (.sl ((zMi (zaF c0_t) (⟨(⟨zak,(⟨zah,zam zai⟩:(Sl Tie))⟩:Net),(⟨zaH,zaI⟩:Mp)⟩:web)).len) 1 (λ i=>zac ((zMi (zaF c0_t) (⟨(⟨zak,(⟨zah,zam zai⟩:(Sl Tie))⟩:Net),(⟨zaH,zaI⟩:Mp)⟩:web)).get i)))]
  | [.one (.fp [.int .i64 zak,.sl zah zaA zai,.fm za7 zaH zaI] 0),.one (.fn 86 [] [.fp c0_t 0])]=>.det (IsE enc_40 4 zaA zai/\za7=(false,1,false,[none])/\c0_t=zal (zaF c0_t)/\zNn (zaF c0_t) (⟨(⟨zak,(⟨zah,zam zai⟩:(Sl Tie))⟩:Net),(⟨zaH,zaI⟩:Mp)⟩:web)=true) [.one (.sl ((zMk (zaF c0_t) (⟨(⟨zak,(⟨zah,zam zai⟩:(Sl Tie))⟩:Net),(⟨zaH,zaI⟩:Mp)⟩:web)).len) 1 (λ i=>zac ((zMk (zaF c0_t) (⟨(⟨zak,(⟨zah,zam zai⟩:(Sl Tie))⟩:Net),(⟨zaH,zaI⟩:Mp)⟩:web)).get i)))]
  | _=>.no
theorem zJN:zar Tryd.prog 84:=⟨_,rfl,rfl,by kernel_rfl⟩
theorem zOj:Ok Tryd.prog 84 zF4:=zbl zMg zJN λ args K h=>by
  unfold zF4 at h
  split at h
  · rename_i zak zah zaA zai za7 zaH zaI c0_t
    obtain⟨⟨⟨rfl,zaq,rfl⟩,rfl,hT_c0,hs⟩,hk⟩:=h
    try rw[zan zaq] at hs
    try rw[zan zaq] at hk
    exact⟨(λ _ _=>[]),(λ _=>false),zF2,(by have hq:=q84 (zaF c0_t) (⟨(⟨zak,(⟨zah,zaq⟩:(Sl Tie))⟩:Net),(⟨zaH,zaI⟩:Mp)⟩:web) K hs hk;rw[<- hT_c0] at hq;exact hq)⟩
  · rename_i zak zah zaA zai za7 zaH zaI c0_t
    obtain⟨⟨⟨rfl,zaq,rfl⟩,rfl,hT_c0,hs⟩,hk⟩:=h
    try rw[zan zaq] at hs
    try rw[zan zaq] at hk
    exact⟨(λ _ _=>[]),(λ _=>false),zx8,(by have hq:=zOg (zaF c0_t) (⟨(⟨zak,(⟨zah,zaq⟩:(Sl Tie))⟩:Net),(⟨zaH,zaI⟩:Mp)⟩:web) K hs hk;rw[<- hT_c0] at hq;exact hq)⟩
  · rename_i zak zah zaA zai za7 zaH zaI c0_t
    obtain⟨⟨⟨rfl,zaq,rfl⟩,rfl,hT_c0,hs⟩,hk⟩:=h
    try rw[zan zaq] at hs
    try rw[zan zaq] at hk
    exact⟨(λ _ _=>[]),(λ _=>false),zya,(by have hq:=zOi (zaF c0_t) (⟨(⟨zak,(⟨zah,zaq⟩:(Sl Tie))⟩:Net),(⟨zaH,zaI⟩:Mp)⟩:web) K hs hk;rw[<- hT_c0] at hq;exact hq)⟩
  · exact h.elim
abbrev T45:Tabs:=((((Tabs.nil.addF 74 zwV).addF 76 zxF).addF 83 zFY).addF 84 zF4)
theorem zMl:TabsOk Tryd.prog T45:=((((TabsOk.nil.addF zL4).addF zL8).addF zOb).addF zOj)
abbrev G45:Ctrs:=csm T45 (λ _ _=>[]) (λ _=>false)
def zJO:Ann:=⟨31,[(0,zK [1,2,3] [3]),(1,zK [1,8,9] []),(2,zK [1,8,9,20] []),(3,zK [6,7] []),(4,zK [1,8,24] []),(5,zK [6,7] []),(6,zK [8,10] [10]),(7,zK [6,7] [])],
 [],
 [],
 [],[]⟩
abbrev R45:=((Sl Int)×Int)
abbrev e45 (r:R45):List PA:=[.one (.sl r.1.len 1 (λ i=>zac (r.1.get i))),.one (.int .i64 r.2)]
section
variable {K:List PA->Prop}{n:Net}{zaf:Int}{to:Int}
def s45 (n:Net) (zaf:Int) (to:Int):((Sl Int)×Int) :=
  (cond ((s74 n (⟨2, zaw (zbu [(zac zaf), (zac to)])⟩ : (Sl Int))).2 == 0)
 (cond ((0:Int) != (0:Int))
 ((⟨0,λ _=>default⟩:(Sl Int)),(0:Int))
 (cond (!(s83 (⟨(s74 n (⟨2, zaw (zbu [(zac zaf), (zac to)])⟩ : (Sl Int))).1.Net, ((s74 n (⟨2, zaw (zbu [(zac zaf), (zac to)])⟩ : (Sl Int))).1.out)⟩ : web)))
 ((⟨0,λ _=>default⟩:(Sl Int)),(6:Int))
 ((s84 (zaF (zal (s76 (⟨(s74 n (⟨2,zaw (zbu [(zac zaf),(zac to)])⟩:(Sl Int))).1.Net,((s74 n (⟨2,zaw (zbu [(zac zaf),(zac to)])⟩:(Sl Int))).1.out)⟩:web) zaf))) (⟨(s74 n (⟨2,zaw (zbu [(zac zaf),(zac to)])⟩:(Sl Int))).1.Net,((s74 n (⟨2,zaw (zbu [(zac zaf),(zac to)])⟩:(Sl Int))).1.out)⟩:web)),(0:Int))))
 (cond ((s74 n (⟨2, zaw (zbu [(zac zaf), (zac to)])⟩ : (Sl Int))).2 != (0:Int))
 ((⟨0,λ _=>default⟩:(Sl Int)),(s74 n (⟨2,zaw (zbu [(zac zaf),(zac to)])⟩:(Sl Int))).2)
 default))
def p45 (n:Net) (zaf:Int) (to:Int):Bool :=
  (cond ((s74 n (⟨2, zaw (zbu [(zac zaf), (zac to)])⟩ : (Sl Int))).2 == 0)
 (decide ((p74 n (⟨2,zaw (zbu [(zac zaf),(zac to)])⟩:(Sl Int))=true)) &&
 (cond ((0:Int) != (0:Int))
 true
 (decide ((p83 (⟨(s74 n (⟨2,zaw (zbu [(zac zaf),(zac to)])⟩:(Sl Int))).1.Net,((s74 n (⟨2,zaw (zbu [(zac zaf),(zac to)])⟩:(Sl Int))).1.out)⟩:web)=true)) &&
 (cond (!(s83 (⟨(s74 n (⟨2, zaw (zbu [(zac zaf), (zac to)])⟩ : (Sl Int))).1.Net, ((s74 n (⟨2, zaw (zbu [(zac zaf), (zac to)])⟩ : (Sl Int))).1.out)⟩ : web)))
 true
 (decide ((p76 (⟨(s74 n (⟨2,zaw (zbu [(zac zaf),(zac to)])⟩:(Sl Int))).1.Net,((s74 n (⟨2,zaw (zbu [(zac zaf),(zac to)])⟩:(Sl Int))).1.out)⟩:web) zaf=true)) &&
 (decide ((p84 (zaF (zal (s76 (⟨(s74 n (⟨2,zaw (zbu [(zac zaf),(zac to)])⟩:(Sl Int))).1.Net,((s74 n (⟨2,zaw (zbu [(zac zaf),(zac to)])⟩:(Sl Int))).1.out)⟩:web) zaf))) (⟨(s74 n (⟨2,zaw (zbu [(zac zaf),(zac to)])⟩:(Sl Int))).1.Net,((s74 n (⟨2,zaw (zbu [(zac zaf),(zac to)])⟩:(Sl Int))).1.out)⟩:web)=true)) &&
 true))))))
 (decide ((p74 n (⟨2,zaw (zbu [(zac zaf),(zac to)])⟩:(Sl Int))=true)) &&
 (cond ((s74 n (⟨2, zaw (zbu [(zac zaf), (zac to)])⟩ : (Sl Int))).2 != (0:Int))
 true
 false)))
end
theorem q45 (n:Net) (zaf:Int) (to:Int) (K:List PA->Prop) (hs:p45 n zaf to=true) (hk:K (e45 (s45 n zaf to))):vcFun Tryd.prog G45 zJO 45 [.agg (enc_24 n),.one (.int .i64 zaf),.one (.int .i64 to)] (Wk K) :=
  za0 (by kernel_rfl) (zc hs hk (λ hs hk=>(zaN hs λ hc hs=>And.intro (And.intro (zE enc_40 4 n.Ties.get) (And.intro ((zeh []):IsE zac 1 1 (zbu [(zac zaf),(zac to)])) hc)) (zc hs hk (λ hs hk=>((wk hk (zgK (.one (.nil _ _)) (zgK (.one (.rfl _)) zm0))):Wk K [.one (.nils),.one (.int .i64 (0:Int))])) (λ hs hk=>(zaN hs λ hc hs=>And.intro (And.intro (zE enc_40 4 ((s74 n (⟨2,zaw (zbu [(zac zaf),(zac to)])⟩:(Sl Int))).1.Net.Ties.get)) (And.intro (rfl:((false,1,false,[none]):MQ)=(false,1,false,[none])) hc)) (zc hs hk (λ hs hk=>((wk hk (zgK (.one (.nil _ _)) (zgK (.one (.rfl _)) zm0))):Wk K [.one (.nils),.one (.int .i64 (6:Int))])) (λ hs hk=>(zaN hs λ hc hs=>And.intro (And.intro (zE enc_40 4 ((s74 n (⟨2,zaw (zbu [(zac zaf),(zac to)])⟩:(Sl Int))).1.Net.Ties.get)) (And.intro (rfl:((false,1,false,[none]):MQ)=(false,1,false,[none])) hc)) (zaN hs λ hc hs=>And.intro (And.intro (zE enc_40 4 ((s74 n (⟨2,zaw (zbu [(zac zaf),(zac to)])⟩:(Sl Int))).1.Net.Ties.get)) (And.intro (rfl:((false,1,false,[none]):MQ)=(false,1,false,[none])) (And.intro (zhE:zal (s76 (⟨(s74 n (⟨2,zaw (zbu [(zac zaf),(zac to)])⟩:(Sl Int))).1.Net,((s74 n (⟨2,zaw (zbu [(zac zaf),(zac to)])⟩:(Sl Int))).1.out)⟩:web) zaf)=zal (zaF (zal (s76 (⟨(s74 n (⟨2,zaw (zbu [(zac zaf),(zac to)])⟩:(Sl Int))).1.Net,((s74 n (⟨2,zaw (zbu [(zac zaf),(zac to)])⟩:(Sl Int))).1.out)⟩:web) zaf)))) hc))) ((zfH hk):Wk K [.one (.sl ((s84 (zaF (zal (s76 (⟨(s74 n (⟨2,zaw (zbu [(zac zaf),(zac to)])⟩:(Sl Int))).1.Net,((s74 n (⟨2,zaw (zbu [(zac zaf),(zac to)])⟩:(Sl Int))).1.out)⟩:web) zaf))) (⟨(s74 n (⟨2,zaw (zbu [(zac zaf),(zac to)])⟩:(Sl Int))).1.Net,((s74 n (⟨2,zaw (zbu [(zac zaf),(zac to)])⟩:(Sl Int))).1.out)⟩:web)).len) 1 (λ i=>zac ((s84 (zaF (zal (s76 (⟨(s74 n (⟨2,zaw (zbu [(zac zaf),(zac to)])⟩:(Sl Int))).1.Net,((s74 n (⟨2,zaw (zbu [(zac zaf),(zac to)])⟩:(Sl Int))).1.out)⟩:web) zaf))) (⟨(s74 n (⟨2,zaw (zbu [(zac zaf),(zac to)])⟩:(Sl Int))).1.Net,((s74 n (⟨2,zaw (zbu [(zac zaf),(zac to)])⟩:(Sl Int))).1.out)⟩:web)).get i))),.one (.int .i64 (0:Int))])))))))))) (λ hs hk=>(zaN hs λ hc hs=>And.intro (And.intro (zE enc_40 4 n.Ties.get) (And.intro ((zeh []):IsE zac 1 1 (zbu [(zac zaf),(zac to)])) hc)) (zc hs hk (λ hs hk=>((wk hk (zgK (.one (.nil _ _)) (zgK (.one (.rfl _)) zm0))):Wk K [.one (.nils),.one (.int .i64 ((s74 n (⟨2,zaw (zbu [(zac zaf),(zac to)])⟩:(Sl Int))).2))])) (λ hs hk=>(absurd hs dqk:False))))))
def zF5 : List PA → COut
  | [.agg [.int .i64 zaj,.sl zad zaz zab],.one (.int .i64 a1),.one (.int .i64 a2)]=>.det (IsE enc_40 4 zaz zab/\p45 (⟨zaj,(⟨zad,zam zab⟩:(Sl Tie))⟩:Net) a1 a2=true) [.one (.sl (((s45 (⟨zaj,(⟨zad,zam zab⟩:(Sl Tie))⟩:Net) a1 a2).1).len) 1 (λ i=>zac (((s45 (⟨zaj,(⟨zad,zam zab⟩:(Sl Tie))⟩:Net) a1 a2).1).get i))),.one (.int .i64 ((s45 (⟨zaj,(⟨zad,zam zab⟩:(Sl Tie))⟩:Net) a1 a2).2))]
  | _=>.no
theorem zJP:zar Tryd.prog 45:=⟨_,rfl,rfl,by kernel_rfl⟩
theorem zOk:Ok Tryd.prog 45 zF5:=zg1 zMl zJP λ args K h=>by
  unfold zF5 at h
  split at h
  · rename_i zaj zad zaz zab a1 a2
    obtain⟨⟨⟨rfl,zat,rfl⟩,hs⟩,hk⟩:=h
    try rw[zan zat] at hs
    try rw[zan zat] at hk
    exact⟨_,zfq zfG _,(λ _ _=>[]),(λ _=>false),zJO,q45 (⟨zaj,(⟨zad,zat⟩:(Sl Tie))⟩:Net) a1 a2 K hs hk⟩
  · exact h.elim
abbrev T49:Tabs:=(((Tabs.nil.addF 67 zvG).addF 88 zvL).addF 89 zBz)
theorem zMm:TabsOk Tryd.prog T49:=(((TabsOk.nil.addF zLA).addF zLF).addF zNg)
abbrev G49:Ctrs:=csm T49 (λ _ _=>[]) (λ _=>false)
def zF6:Ann:=⟨31,[(0,zK [1] [1]),(1,zK [1,10] [1]),(2,zK [2,3] []),(3,zK [4] [13]),(4,zK [4,16] [13]),(5,zK [2,3] []),(6,zK [4,5] [13]),(7,zK [5,18,19,20] []),(8,zK [5,18,19,20,21] [28]),(9,zK [5,7,18,19,20] [7,28]),(10,zK [5,18,19,20] [28]),(11,zK [5,18,19,20] [28]),(12,zK [2,3] [28])],
 [(8,⟨[5,18,19,20],[28],[(5,28,75,λ _=>zaR default)],[],[],[],[]⟩)],
 [(2,zK [1,10] [1]),(3,zK [1] [1]),(5,zK [4,16] [13]),(6,zK [4] [13]),(8,zK [5,18,19,20] [])],
 [],[]⟩
abbrev R49:=((Sl Use)×Int)
abbrev e49 (r:R49):List PA:=[.one (.sl r.1.len 2 (λ i=>zaR (r.1.get i))),.one (.int .i64 r.2)]
@[irreducible] def z49:=ptF Tryd.prog G49 zF6 Tryd.f49
def zDc (zcp:(Sl step)) (zcD:Int) (zdu:Int) (zcO:(Sl Use)) (zfX:Nat->List PV):St:=⟨[(5,zv 28),(18,zS zaD 5 zcp),(19,zI zcD),(20,zI zdu)],[(28,.vec 75 2 16 zcO.len zfX)],[]⟩
abbrev zJQ (K:List PA->Prop) (zcp:(Sl step)) (zcD:Int) (X:St->Prop) (P:Int->(Sl Use)->Bool) (S:Int->(Sl Use)->((Sl Use)×Int)):Prop:=∀ ⦃zdu:Int⦄ ⦃zcO:(Sl Use)⦄ ⦃zfX:Nat->List PV⦄,P zdu zcO=true->K (e49 (S zdu zcO))->zfX=zg zaR zcO->X (zDc zcp zcD zdu zcO zfX)
section
variable {K:List PA->Prop}{n:Net}{za2:Bool}{zqF:Bool}{zcp:(Sl step)}{zcD:Int}{zyc:Nat->List PV}{zdu:Int}{zcO:(Sl Use)}{zfX:Nat->List PV}{X5:St->Prop}{P5:Int->(Sl Use)->Bool}{S5:Int->(Sl Use)->((Sl Use)×Int)}
def zyd (zcp:(Sl step)) (zcD:Int) (S5:Int->(Sl Use)->((Sl Use)×Int)) (zdu:Int) (zcO:(Sl Use)):((Sl Use)×Int) :=
  (cond (decide (zdu < zcD))
 (S5 (w64 (zdu+(1:Int))) (⟨(zcO.len+1),(zc2 zcO.len zcO.get (λ _=>(zcp.get zdu.toNat).Use))⟩:Sl Use))
 (zcO,(0:Int)))
def zye (zcp:(Sl step)) (zcD:Int) (P5:Int->(Sl Use)->Bool) (zdu:Int) (zcO:(Sl Use)):Bool :=
  (cond (decide (zdu < zcD))
 (decide ((0<=zdu/\zdu < (zcp.len:Int))) &&
 (decide (((zcO.len+1) * 16<=140737488355328/\zcO.len+1<=9223372036854775807)) &&
 (P5 (w64 (zdu+(1:Int))) (⟨(zcO.len+1),(zc2 zcO.len zcO.get (λ _=>(zcp.get zdu.toNat).Use))⟩:Sl Use))))
 true)
def zyf (zcp:(Sl step)) (zcD:Int):Nat->Int->(Sl Use)->((Sl Use)×Int):=lpO (λ _ _=>default) (zyd zcp zcD)
def zyg (zcp:(Sl step)) (zcD:Int):Nat->Int->(Sl Use)->Bool:=lpO (λ _ _=>false) (zye zcp zcD)
def zyh (zcp:(Sl step)) (zcD:Int) (zdu:Int) (zcO:(Sl Use)):((Sl Use)×Int):=zyf zcp zcD Fuel zdu zcO
def zyi (zcp:(Sl step)) (zcD:Int) (zdu:Int) (zcO:(Sl Use)):Bool:=zyg zcp zcD Fuel zdu zcO
theorem zF7 (hs:zyi zcp zcD zdu zcO=true) (hk:K (e49 (zyh zcp zcD zdu zcO))) (zqG:zfX=zg zaR zcO):z49 (Wk K) [1,1,1,1,1,0,1,0] [] (zDc zcp zcD zdu zcO zfX) :=
  zl (λ X=>z49 (Wk K) [1,1,1,1,1,0,1,0,0] [X]) (by kernel_rfl) λ X5 hX =>
  (show ∀ k, zJQ K zcp zcD X5 (zyg zcp zcD k) (zyf zcp zcD k) from zeu _ _ (zye zcp zcD) (zyd zcp zcD) (zJQ K zcp zcD X5)
 (by intro _ _ _ hs;exact absurd hs dqk)
 (by intro P5 S5 hX5 zdu zcO zfX hs hk zqG;subst zqG;exact hX _ (za0 (by kernel_rfl) (zc hs hk (λ hs hk=>(zaN hs λ hc hs=>And.intro hc (zaN hs λ hc hs=>And.intro hc (hX5 hs hk (zgJ (enc:=zaR) (f:=zcO.get) (h:=(λ _=>(zcp.get zdu.toNat).Use)) rfl rfl))))) (λ hs hk=>((zfH hk):Wk K [.one (.sl zcO.len 2 (λ i=>zaR (zcO.get i))),.one (.int .i64 (0:Int))])))))) _ hs hk zqG
def zyj (zcp:(Sl step)) (zcD:Int):((Sl Use)×Int) :=
  (zyh zcp zcD (0:Int) (⟨0,(λ _=>default)⟩:Sl Use))
def zyk (zcp:(Sl step)) (zcD:Int):Bool :=
  (zyi zcp zcD (0:Int) (⟨0,(λ _=>default)⟩:Sl Use))
theorem zF8 (hs:zyk zcp zcD=true) (hk:K (e49 (zyj zcp zcD))) (zF9:zyc=zg zaD zcp):z49 (Wk K) [1,1,1,1,1,0,1] [] ⟨[(5,zP (.nils)),(18,zP (.sl zcp.len 5 zyc)),(19,zI zcD),(20,zI (0:Int))],[],[]⟩:=by subst zF9;exact za0 (by kernel_rfl) (zF7 hs hk rfl)
def zyl (n:Net):((Sl Use)×Int) :=
  (zyj (s89 (⟨n,(⟨0,(λ _=>none)⟩:Mp)⟩:web)) ((s89 (⟨n,(⟨0,(λ _=>none)⟩:Mp)⟩:web)).len:Int))
def zym (n:Net):Bool :=
  (decide ((p89 (⟨n,(⟨0,(λ _=>none)⟩:Mp)⟩:web)=true)) &&
 (zyk (s89 (⟨n,(⟨0,(λ _=>none)⟩:Mp)⟩:web)) ((s89 (⟨n,(⟨0,(λ _=>none)⟩:Mp)⟩:web)).len:Int)))
theorem zGa (hs:zym n=true) (hk:K (e49 (zyl n))):z49 (Wk K) [1,1,1,1] [] ⟨[(4,zp 13 0)],[(13,.box 105 (zm (zaB (⟨n,(⟨0,(λ _=>none)⟩:Mp)⟩:web))))],[]⟩:=za0 (by kernel_rfl) (zaN hs λ hc hs=>And.intro (And.intro ((λ _=>rfl):(∀ i,sc2 ((λ i=>zaD ((s89 (⟨n,(⟨0,(λ _=>none)⟩:Mp)⟩:web)).get i)) i)=true)) (And.intro (zE enc_40 4 n.Ties.get) (And.intro (rfl:((false,1,false,[none]):MQ)=(false,1,false,[none])) hc))) (zF8 hs hk rfl))
def zyn (n:Net) (zqF:Bool):((Sl Use)×Int) :=
  (cond zqF
 ((⟨0,λ _=>default⟩:(Sl Use)),(6:Int))
 (zyl n))
def zyo (n:Net) (zqF:Bool):Bool :=
  (cond zqF
 true
 (zym n))
theorem zGb (hs:zyo n zqF=true) (hk:K (e49 (zyn n zqF))):z49 (Wk K) [1,1,1,0,1] [] ⟨[(4,zp 13 0),(16,zB zqF)],[(13,.box 105 (zm (zaB (⟨n,(⟨0,(λ _=>none)⟩:Mp)⟩:web))))],[]⟩:=za0 (by kernel_rfl) (zc hs hk (λ hs hk=>((wk hk (zgK (.one (.nil _ _)) (zgK (.one (.rfl _)) zm0))):Wk K [.one (.nils),.one (.int .i64 (6:Int))])) (λ hs hk=>(zGa hs hk)))
def zyp (n:Net):((Sl Use)×Int) :=
  (zyn n (!(s88 (⟨n,(⟨0,(λ _=>none)⟩:Mp)⟩:web))))
def zyq (n:Net):Bool :=
  (decide ((p88 (⟨n,(⟨0,(λ _=>none)⟩:Mp)⟩:web)=true)) &&
 (zyo n (!(s88 (⟨n,(⟨0,(λ _=>none)⟩:Mp)⟩:web)))))
theorem zGc (hs:zyq n=true) (hk:K (e49 (zyp n))):z49 (Wk K) [1,1] [] ⟨[(1,zp 1 0)],[(1,.box 24 (zm (enc_24 n)))],[]⟩:=za0 (by kernel_rfl) (zaN hs λ hc hs=>And.intro (And.intro (zE enc_40 4 n.Ties.get) (And.intro (rfl:((false,1,false,[none]):MQ)=(false,1,false,[none])) hc)) (zGb hs hk))
def zyr (n:Net) (za2:Bool):((Sl Use)×Int) :=
  (cond za2
 ((⟨0,λ _=>default⟩:(Sl Use)),(2:Int))
 (zyp n))
def zys (n:Net) (za2:Bool):Bool :=
  (cond za2
 true
 (zyq n))
theorem zGd (hs:zys n za2=true) (hk:K (e49 (zyr n za2))):z49 (Wk K) [1,0,1] [] ⟨[(1,zp 1 0),(10,zB za2)],[(1,.box 24 (zm (enc_24 n)))],[]⟩:=za0 (by kernel_rfl) (zc hs hk (λ hs hk=>((wk hk (zgK (.one (.nil _ _)) (zgK (.one (.rfl _)) zm0))):Wk K [.one (.nils),.one (.int .i64 (2:Int))])) (λ hs hk=>(zGc hs hk)))
def s49 (n:Net):((Sl Use)×Int) :=
  (zyr n (!(s67 n)))
def p49 (n:Net):Bool :=
  (decide ((p67 n=true)) &&
 (zys n (!(s67 n))))
end
theorem q49 (n:Net) (K:List PA->Prop) (hs:p49 n=true) (hk:K (e49 (s49 n))):vcFun Tryd.prog G49 zF6 49 [.agg (enc_24 n)] (Wk K) :=
  za0 (by kernel_rfl) (zaN hs λ hc hs=>And.intro (And.intro (zE enc_40 4 n.Ties.get) hc) (zGd hs hk))
def zGe : List PA → COut
  | [.agg [.int .i64 zaj,.sl zad zaz zab]]=>.det (IsE enc_40 4 zaz zab/\p49 (⟨zaj,(⟨zad,zam zab⟩:(Sl Tie))⟩:Net)=true) [.one (.sl (((s49 (⟨zaj,(⟨zad,zam zab⟩:(Sl Tie))⟩:Net)).1).len) 2 (λ i=>zaR (((s49 (⟨zaj,(⟨zad,zam zab⟩:(Sl Tie))⟩:Net)).1).get i))),.one (.int .i64 ((s49 (⟨zaj,(⟨zad,zam zab⟩:(Sl Tie))⟩:Net)).2))]
  | _=>.no
theorem zJR:zar Tryd.prog 49:=⟨_,rfl,rfl,by kernel_rfl⟩
theorem zOl:Ok Tryd.prog 49 zGe:=zg1 zMm zJR λ args K h=>by
  unfold zGe at h
  split at h
  · rename_i zaj zad zaz zab
    obtain⟨⟨⟨rfl,zat,rfl⟩,hs⟩,hk⟩:=h
    try rw[zan zat] at hs
    try rw[zan zat] at hk
    exact⟨_,zfq zfG _,(λ _ _=>[]),(λ _=>false),zF6,q49 (⟨zaj,(⟨zad,zat⟩:(Sl Tie))⟩:Net) K hs hk⟩
  · exact h.elim
abbrev T53:Tabs:=Tabs.nil
theorem zMn:TabsOk Tryd.prog T53:=TabsOk.nil
abbrev G53:Ctrs:=csm T53 (λ _ _=>[]) (λ _=>false)
def zGf:Ann:=⟨26,[(0,zK [0,1] []),(1,zK [0,1,10] []),(2,zK [4] []),(3,zK [0,1,5] []),(4,zK [0,1,5,14] []),(5,zK [0,1,5] []),(6,zK [0,1,5,25] []),(7,zK [4] []),(8,zK [4] [])],
 [(4,zK [0,1,5] [])],
 [(3,zK [0,1] [])],
 [],[]⟩
abbrev R53:=Bool
abbrev e53 (r:R53):List PA:=[.one (.bool r)]
@[irreducible] def z53:=ptF Tryd.prog G53 zGf Tryd.f53
def zDd (a:(Sl Use)) (b:(Sl Use)) (iv1:Int):St:=⟨[(0,zS zaR 2 a),(1,zS zaR 2 b),(5,zI iv1)],[],[]⟩
abbrev zJS (K:List PA->Prop) (a:(Sl Use)) (b:(Sl Use)) (X:St->Prop) (P:Int->Bool) (S:Int->Bool):Prop:=∀ ⦃iv1:Int⦄,P iv1=true->K (e53 (S iv1))->X (zDd a b iv1)
section
variable {K:List PA->Prop}{a:(Sl Use)}{b:(Sl Use)}{iv1:Int}{X1:St->Prop}{P1:Int->Bool}{S1:Int->Bool}
def zyt (a:(Sl Use)) (b:(Sl Use)) (S1:Int->Bool) (iv1:Int):Bool :=
  (cond (decide (iv1 < (a.len : Int)))
 (cond (!(match ((a.get iv1.toNat).Tie == (b.get iv1.toNat).Tie) with | true => (match ((a.get iv1.toNat).Back == (b.get iv1.toNat).Back) with | true => true | false => false) | false => false))
 false
 (S1 (w64 (iv1+(1:Int)))))
 true)
def zyu (a:(Sl Use)) (b:(Sl Use)) (P1:Int->Bool) (iv1:Int):Bool :=
  (cond (decide (iv1 < (a.len : Int)))
 (decide ((0<=iv1/\iv1 < (a.len:Int))) &&
 (decide ((0<=iv1/\iv1 < (b.len:Int))) &&
 (cond (!(match ((a.get iv1.toNat).Tie == (b.get iv1.toNat).Tie) with | true => (match ((a.get iv1.toNat).Back == (b.get iv1.toNat).Back) with | true => true | false => false) | false => false))
 true
 (P1 (w64 (iv1+(1:Int)))))))
 true)
def zyv (a:(Sl Use)) (b:(Sl Use)):Nat->Int->Bool:=lpO (λ _=>default) (zyt a b)
def zyw (a:(Sl Use)) (b:(Sl Use)):Nat->Int->Bool:=lpO (λ _=>false) (zyu a b)
def zyx (a:(Sl Use)) (b:(Sl Use)) (iv1:Int):Bool:=zyv a b Fuel iv1
def zyy (a:(Sl Use)) (b:(Sl Use)) (iv1:Int):Bool:=zyw a b Fuel iv1
theorem zGg (hs:zyy a b iv1=true) (hk:K (e53 (zyx a b iv1))):z53 K [1,1,0,1,0] [] (zDd a b iv1) :=
  zl (λ X=>z53 K [1,1,0,1,0,0] [X]) (by kernel_rfl) λ X1 hX =>
  (show ∀ k, zJS K a b X1 (zyw a b k) (zyv a b k) from zeu _ _ (zyu a b) (zyt a b) (zJS K a b X1)
 (by intro _ hs;exact absurd hs dqk)
 (by intro P1 S1 hX1 iv1 hs hk;exact hX _ (za0 (by kernel_rfl) (zc hs hk (λ hs hk=>(zaN hs λ hc hs=>And.intro hc (zaN hs λ hc hs=>And.intro hc (zc hs hk (λ hs hk=>hk) (λ hs hk=>(hX1 hs hk)))))) (λ hs hk=>hk))))) _ hs hk
def zyz (a:(Sl Use)) (b:(Sl Use)):Bool :=
  (zyx a b (0:Int))
def zyA (a:(Sl Use)) (b:(Sl Use)):Bool :=
  (zyy a b (0:Int))
theorem zGh (hs:zyA a b=true) (hk:K (e53 (zyz a b))):z53 K [1,1] [] ⟨[(0,zS zaR 2 a),(1,zS zaR 2 b)],[],[]⟩:=za0 (by kernel_rfl) (zGg hs hk)
def s53 (a:(Sl Use)) (b:(Sl Use)):Bool :=
  (cond ((a.len : Int) != (b.len : Int))
 false
 (zyz a b))
def p53 (a:(Sl Use)) (b:(Sl Use)):Bool :=
  (cond ((a.len : Int) != (b.len : Int))
 true
 (zyA a b))
end
theorem q53 (a:(Sl Use)) (b:(Sl Use)) (K:List PA->Prop) (hs:p53 a b=true) (hk:K (e53 (s53 a b))):vcFun Tryd.prog G53 zGf 53 [.one (.sl a.len 2 (λ i=>zaR (a.get i))),.one (.sl b.len 2 (λ i=>zaR (b.get i)))] K :=
  za0 (by kernel_rfl) (zc hs hk (λ hs hk=>hk) (λ hs hk=>(zGh hs hk)))
def zGi : List PA → COut
  | [.one (.sl zeR zkX zeS),.one (.sl zeT zlt zeQ)]=>.det (IsE zaR 2 zkX zeS/\IsE zaR 2 zlt zeQ/\p53 (⟨zeR,zc3 zeS⟩:(Sl Use)) (⟨zeT,zc3 zeQ⟩:(Sl Use))=true) [.one (.bool (s53 (⟨zeR,zc3 zeS⟩:(Sl Use)) (⟨zeT,zc3 zeQ⟩:(Sl Use))))]
  | _=>.no
theorem zJT:zar Tryd.prog 53:=⟨_,rfl,rfl,by kernel_rfl⟩
theorem zOm:Ok Tryd.prog 53 zGi:=zbl zMn zJT λ args K h=>by
  unfold zGi at h
  split at h
  · rename_i zeR zkX zeS zeT zlt zeQ
    obtain⟨⟨⟨rfl,zg2,rfl⟩,⟨rfl,zif,rfl⟩,hs⟩,hk⟩:=h
    try rw[zc4 zg2] at hs
    try rw[zc4 zg2] at hk
    try rw[zc4 zif] at hs
    try rw[zc4 zif] at hk
    exact⟨(λ _ _=>[]),(λ _=>false),zGf,q53 (⟨zeR,zg2⟩:(Sl Use)) (⟨zeT,zif⟩:(Sl Use)) K hs hk⟩
  · exact h.elim
abbrev T92:Tabs:=((Tabs.nil.addF 93 zoC).addI 110 zoE)
theorem zMo:TabsOk Tryd.prog T92:=((TabsOk.nil.addF zHR).addI ztE)
abbrev G92:Ctrs:=csm T92 (λ _ _=>[]) (λ _=>false)
def zjz:Ann:=⟨49,[(0,zK [0,1,2,3,4] [0,1,2,3,4,4099]),(1,zK [0,1,2,3,4,7] [0,1,2,3,4,4099]),(2,zK [0,1,2,3,4,5,7] [0,1,2,3,4,5,4099]),(3,zK [0,1,2,3,4,5,7,41] [0,1,2,3,4,5,4099]),(4,zK [0,1,2,3,4,5] [0,1,2,3,4,5,4099]),(5,zK [0,1,2,3,4] [0,1,2,3,4,4099]),(6,zK [0,1,2,3,4] [0,1,2,3,4,4099]),(7,zK [0,1,2,3,4] [0,1,2,3,4,4099])],
 [(2,zK [0,1,2,3,4,7] [0,1,2,3,4,4099])],
 [],
 [],[]⟩
def zfY (w:web) (at_:Int) (d:Tab) (out:(Sl Use)):St:=⟨[(0,.one (.c (.ptr 0 0))),(1,.one (.c (.ptr 1 0))),(2,.one (.c (.ptr 2 0))),(3,.one (.c (.ptr 3 0))),(4,.one (.c (.ptr 4 0))),(7,.one (.c (.p (.fn 110 [] [.fp [.fp (zaB w) 0] 0]))))],[(0,.box 102 [.p (.fp (zaB w) 0)]),(1,.box 3 [.p (.int .i64 at_)]),(2,.box 116 (zm (zal d))),(3,.box 67 [.vec 4099]),(4,.box 4 [.p (.bool false)]),(4099,.vec 75 2 16 out.len (λ i=>zaR (out.get i)))],[]⟩
def zk9 (K:List PA×List XA->Prop) (w:web) (at_:Int) (d:Tab) (out:(Sl Use)):Prop:=vc Tryd.prog G92 zjz (cdF Tryd.f92 [1,0,1,0]) (zfn 0 (sqK Tryd.prog G92 zjz (cdF Tryd.f92 [1,1]) (zls Tryd.prog Tryd.f92 [.box 102 [.p (.fp (zaB w) 0)],.box 3 [.p (.int .i64 at_)],.box 116 (xcm (zal d)),.box 67 [.vec 75 2 16 out.len (λ i=>zaR (out.get i))]] (λ a b=>K (a,b))))) (zfY w at_ d out)
theorem zGj (w : web) (at_ : Int) (d : Tab) (out : (Sl Use)) (K : List PA × List XA → Prop) :
  zkO Tryd.prog G92 zjz 92 [.box 102 [.p (.fp (zaB w) 0)],.box 3 [.p (.int .i64 at_)],.box 116 (xcm (zal d)),.box 67 [.vec 75 2 16 out.len (λ i=>zaR (out.get i))]] (λ a b=>K (a,b)) =
  ((IsE enc_40 4 4 (λ i=>enc_40 (w.Net.Ties.get i))/\((false,1,false,[none]):MQ)=(false,1,false,[none])) /\
 (zk9 K w at_ d out)):=by kernel_rfl
def zoU (K:List PA×List XA->Prop) (w:web) (at_:Int) (d:Tab) (out:(Sl Use)):Prop :=
  (K ([.one (.bool false)],[.box 102 [.p (.fp (zaB w) 0)],.box 3 [.p (.int .i64 at_)],.box 116 (xcm (zal d)),.box 67 [.vec 75 2 16 out.len (λ i=>zaR (out.get i))]]))
def zoV (K:List PA×List XA->Prop) (X0:List (List PA)->St->Prop) (y0:step) (rest0:List (List PA)) (w:web) (at_:Int) (d:Tab) (out:(Sl Use)):Prop :=
  (zdq (y0.from_ == at_)
 (((0<=y0.to/\y0.to < (40:Int))) /\
 (zdq (!(match ((tg 80 d (0 + y0.to.toNat * 2 + 0)) == (1000000000000:Int)) with | true => (match ((tg 80 d (0 + y0.to.toNat * 2 + 0 + 1)) == (0:Int)) with | true => true | false => false) | false => false))
 (((0<=y0.to/\y0.to < (40:Int))) /\
 (((0<=y0.to/\y0.to < (40:Int))) /\
 (((0<=at_/\at_ < (40:Int))) /\
 (zdq (match ((w64 ((tg 80 d (0 + y0.to.toNat * 2 + 0)) + y0.length)) == (tg 80 d (0 + at_.toNat * 2 + 0))) with | true => (match ((w64 ((tg 80 d (0 + y0.to.toNat * 2 + 1)) + (1:Int))) == (tg 80 d (0 + at_.toNat * 2 + 0 + 1))) with | true => true | false => false) | false => false)
 ((((out.len+1) * 16<=140737488355328/\out.len+1<=9223372036854775807)) /\
 (K ([.one (.bool true)],[.box 102 [.p (.fp (zaB w) 0)],.box 3 [.p (.int .i64 y0.to)],.box 116 (xcm (zal d)),.box 67 [.vec 75 2 16 (out.len+1) (appG out.len (λ i=>zaR (out.get i)) (λ _=>(zaR y0.Use)))]])))
 (X0 rest0 (zfY w at_ d out))))))
 (X0 rest0 (zfY w at_ d out))))
 (X0 rest0 (zfY w at_ d out)))
theorem zqH (K:List PA×List XA->Prop) (w:web) (at_:Int) (d:Tab) (out:(Sl Use)):(zfn 0 (sqK Tryd.prog G92 zjz (cdF Tryd.f92 [1,1]) (zls Tryd.prog Tryd.f92 [.box 102 [.p (.fp (zaB w) 0)],.box 3 [.p (.int .i64 at_)],.box 116 (xcm (zal d)),.box 67 [.vec 75 2 16 out.len (λ i=>zaR (out.get i))]] (λ a b=>K (a,b))))) .normal (zfY w at_ d out)=zoU K w at_ d out:=by kernel_rfl
theorem zqI (K : List PA × List XA → Prop) (X0 : List (List PA) → St → Prop) (y0 : step) (rest0 : List (List PA)) (w : web) (at_ : Int) (d : Tab) (out : (Sl Use)) :
  zLs Tryd.prog G92 zjz 2 [8] (cd (cdF Tryd.f92 [1,0,1,0]) [0]) (cd (cdF Tryd.f92 [1,0,1,0]) [1]) X0 (zfn 0 (sqK Tryd.prog G92 zjz (cdF Tryd.f92 [1,1]) (zls Tryd.prog Tryd.f92 [.box 102 [.p (.fp (zaB w) 0)],.box 3 [.p (.int .i64 at_)],.box 116 (xcm (zal d)),.box 67 [.vec 75 2 16 out.len (λ i=>zaR (out.get i))]] (λ a b=>K (a,b))))) [.agg (zaD y0)] rest0 (zfY w at_ d out)=zoV K X0 y0 rest0 w at_ d out:=by kernel_rfl
theorem zyB (K : List PA × List XA → Prop) (w : web) (at_ : Int) (d : Tab) (out : (Sl Use))
  (hsafe:IsE enc_40 4 4 (λ i=>enc_40 (w.Net.Ties.get i))/\((false,1,false,[none]):MQ)=(false,1,false,[none])/\(ztP w=true)) (h:∀ X0:List (List PA)->St->Prop,(∀ (_:Unit),zoU K w at_ d out->X0 [] (zfY w at_ d out))->(∀ (y:step) (rest:List (List PA)) (_:Unit),zoV K X0 y rest w at_ d out->X0 ([.agg (zaD y)] :: rest) (zfY w at_ d out))->X0 ((zkV w).map λ y=>[.agg (zaD y)]) (zfY w at_ d out)) :
  zk9 K w at_ d out:=by
  have e:zk9 K w at_ d out=((IsE enc_40 4 4 (λ i=>enc_40 (w.Net.Ties.get i))/\((false,1,false,[none]):MQ)=(false,1,false,[none])/\(ztP w=true))/\∀ X:List (List PA)->St->Prop,(∀ s,(zfn 0 (sqK Tryd.prog G92 zjz (cdF Tryd.f92 [1,1]) (zls Tryd.prog Tryd.f92 [.box 102 [.p (.fp (zaB w) 0)],.box 3 [.p (.int .i64 at_)],.box 116 (xcm (zal d)),.box 67 [.vec 75 2 16 out.len (λ i=>zaR (out.get i))]] (λ a b=>K (a,b))))) .normal s->X [] s)->(∀ y rest s,zLs Tryd.prog G92 zjz 2 [8] (cd (cdF Tryd.f92 [1,0,1,0]) [0]) (cd (cdF Tryd.f92 [1,0,1,0]) [1]) X (zfn 0 (sqK Tryd.prog G92 zjz (cdF Tryd.f92 [1,1]) (zls Tryd.prog Tryd.f92 [.box 102 [.p (.fp (zaB w) 0)],.box 3 [.p (.int .i64 at_)],.box 116 (xcm (zal d)),.box 67 [.vec 75 2 16 out.len (λ i=>zaR (out.get i))]] (λ a b=>K (a,b))))) y rest s->X (y :: rest) s)->X ((zkV w).map λ y=>[.agg (zaD y)]) (zfY w at_ d out)):=by kernel_rfl
  refine za0 e ⟨hsafe,?_⟩
  intro X h0 h1
  refine h X (λ _ hs=>h0 _ ?_) (λ y rest _ hs=>h1 _ rest _ ?_)
  · rw[zqH K w at_ d out];exact hs
  · have e2 := zqI K X y rest w at_ d out
    rw[e2];exact hs
abbrev e92 (w:web) (d:Tab) (r:(Bool×Int×(Sl Use))):List PA×List XA:=([.one (.bool r.1)],[.box 102 [.p (.fp (zaB w) 0)],.box 3 [.p (.int .i64 r.2.1)],.box 116 (xcm (zal d)),.box 67 [.vec 75 2 16 r.2.2.len (λ i=>zaR (r.2.2.get i))]])
attribute [irreducible] zk9
def zqJ (w:web) (at_:Int) (d:Tab) (out:(Sl Use)):(Bool×Int×(Sl Use)) :=
  (false,at_,(⟨out.len,out.get⟩:(Sl Use)))
def zqK (w:web) (at_:Int) (d:Tab) (out:(Sl Use)):Bool :=
  true
def zqL (w:web) (at_:Int) (d:Tab) (out:(Sl Use)) (y0:step) (S0:(Bool×Int×(Sl Use))):(Bool×Int×(Sl Use)) :=
  (cond (y0.from_ == at_)
 (cond (!(match ((tg 80 d (0 + y0.to.toNat * 2 + 0)) == (1000000000000:Int)) with | true => (match ((tg 80 d (0 + y0.to.toNat * 2 + 0 + 1)) == (0:Int)) with | true => true | false => false) | false => false))
 (cond (match ((w64 ((tg 80 d (0 + y0.to.toNat * 2 + 0)) + y0.length)) == (tg 80 d (0 + at_.toNat * 2 + 0))) with | true => (match ((w64 ((tg 80 d (0 + y0.to.toNat * 2 + 1)) + (1:Int))) == (tg 80 d (0 + at_.toNat * 2 + 0 + 1))) with | true => true | false => false) | false => false)
 (true,y0.to,(⟨(out.len+1),(zc2 out.len out.get (λ _=>y0.Use))⟩:(Sl Use)))
 (S0))
 (S0))
 (S0))
def zqM (w:web) (at_:Int) (d:Tab) (out:(Sl Use)) (y0:step) (P0:Bool):Bool :=
  (cond (y0.from_ == at_)
 (decide ((0<=y0.to/\y0.to < (40:Int))) &&
 (cond (!(match ((tg 80 d (0 + y0.to.toNat * 2 + 0)) == (1000000000000:Int)) with | true => (match ((tg 80 d (0 + y0.to.toNat * 2 + 0 + 1)) == (0:Int)) with | true => true | false => false) | false => false))
 (decide ((0<=y0.to/\y0.to < (40:Int))) &&
 (decide ((0<=y0.to/\y0.to < (40:Int))) &&
 (decide ((0<=at_/\at_ < (40:Int))) &&
 (cond (match ((w64 ((tg 80 d (0 + y0.to.toNat * 2 + 0)) + y0.length)) == (tg 80 d (0 + at_.toNat * 2 + 0))) with | true => (match ((w64 ((tg 80 d (0 + y0.to.toNat * 2 + 1)) + (1:Int))) == (tg 80 d (0 + at_.toNat * 2 + 0 + 1))) with | true => true | false => false) | false => false)
 (decide (((out.len+1) * 16<=140737488355328/\out.len+1<=9223372036854775807)) &&
 true)
 (P0)))))
 (P0)))
 (P0))
def zla (w : web) (at_ : Int) (d : Tab) (out : (Sl Use)) : List step → (Bool × Int × (Sl Use))
  | []=>zqJ w at_ d out
  | y :: r=>zqL w at_ d out y (zla w at_ d out r)
def zlb (w : web) (at_ : Int) (d : Tab) (out : (Sl Use)) : List step → Bool
  | []=>zqK w at_ d out
  | y :: r=>zqM w at_ d out y (zlb w at_ d out r)
def zyC (w:web) (at_:Int) (d:Tab) (out:(Sl Use)):(Bool×Int×(Sl Use)):=zla w at_ d out (zkV w)
def zqN (w:web) (at_:Int) (d:Tab) (out:(Sl Use)):Bool:=decide ((ztP w=true)) && zlb w at_ d out (zkV w)
theorem zGk (K:List PA×List XA->Prop) (w:web) (at_:Int) (d:Tab) (out:(Sl Use)) (hs:zqN w at_ d out=true) (hk:K (e92 w d (zyC w at_ d out))):zk9 K w at_ d out:=by
  unfold zqN at hs
  rw[dqm] at hs
  obtain⟨hsf,hs⟩:=hs
  have hc:=of_decide_eq_true hsf
  refine zyB K w at_ d out ⟨isE,rfl,hc⟩ ?_
  intro X0 hexit hstep
  have key:∀ (l:List step),zlb w at_ d out l=true->K (e92 w d (zla w at_ d out l))->X0 (l.map λ y=>[.agg (zaD y)]) (zfY w at_ d out):=by
    intro l
    induction l with
    | nil =>
      intro hs hk
      refine hexit () ?_
      have hs:zqK w at_ d out=true:=hs
      have hk:K (e92 w d (zqJ w at_ d out)):=hk
      unfold zqK at hs
      unfold zqJ at hk
      exact hk
    | cons y0 l ih =>
      intro hs hk
      refine hstep y0 _ () ?_
      have hs:zqM w at_ d out y0 (zlb w at_ d out l)=true:=hs
      have hk:K (e92 w d (zqL w at_ d out y0 (zla w at_ d out l))):=hk
      unfold zqM at hs
      unfold zqL at hk
      generalize zla w at_ d out l=S0 at hk ih
      generalize zlb w at_ d out l=P0 at hs ih
      have hX0:=ih
      exact (ze9 (K := λ r => K (e92 w d r))
 (λ hs hk => (zaN hs λ hc hs => ⟨hc, (ze9 (K := λ r => K (e92 w d r))
 (λ hs hk => (zaN hs λ hc hs => ⟨hc, (zaN hs λ hc hs => ⟨hc, (zaN hs λ hc hs => ⟨hc, (ze9 (K := λ r => K (e92 w d r))
 (λ hs hk=>(zaN hs λ hc hs=>⟨hc,(Eq.mpr (congrArg K (congrArg (λ (g_:Nat->List PV)=>(([.one (.bool true)],[.box 102 [.p (.fp (zaB w) 0)],.box 3 [.p (.int .i64 y0.to)],.box 116 (xcm (zal d)),.box 67 [.vec 75 2 16 (out.len+1) g_]]):List PA×List XA)) (zgJ (enc:=zaR) (f:=out.get) (h:=(λ _=>y0.Use)) rfl rfl))) hk)⟩))
 (λ hs hk=>(hX0 hs hk)) hs hk)⟩)⟩)⟩))
 (λ hs hk=>(hX0 hs hk)) hs hk)⟩))
 (fun hs hk=>(hX0 hs hk)) hs hk)
  exact key _ hs hk
def s92 (w:web) (at_:Int) (d:Tab) (out:(Sl Use)):(Bool×Int×(Sl Use)) :=
  (zyC w at_ d out)
def p92 (w:web) (at_:Int) (d:Tab) (out:(Sl Use)):Bool :=
  (zqN w at_ d out)
theorem q92 (w:web) (at_:Int) (d:Tab) (out:(Sl Use)) (K:List PA×List XA->Prop) (hs:p92 w at_ d out=true) (hk:K (e92 w d (s92 w at_ d out))):zkO Tryd.prog G92 zjz 92 [.box 102 [.p (.fp (zaB w) 0)],.box 3 [.p (.int .i64 at_)],.box 116 (xcm (zal d)),.box 67 [.vec 75 2 16 out.len (λ i=>zaR (out.get i))]] (λ a b=>K (a,b)):=by
  refine za0 (zGj w at_ d out K) ?_
  unfold p92 at hs
  unfold s92 at hk
  exact⟨⟨isE,rfl⟩,(zGk K w at_ d out hs hk)⟩
def zGl : MK
  | [.box 102 [.p (.fp [.int .i64 zax,.sl zas zbw zao,.fm zdf zaO zaP] 0)],.box 3 [.p (.int .i64 b1)],.box 116 zly,.box 67 [.vec 75 2 16 zGm zGn]]=>some (IsE enc_40 4 zbw zao/\zdf=(false,1,false,[none])/\zly=xcm (zal (zaF (unX zly)))/\IsE zaR 2 2 zGn/\p92 (⟨(⟨zax,(⟨zas,zam zao⟩:(Sl Tie))⟩:Net),(⟨zaO,zaP⟩:Mp)⟩:web) b1 (zaF (unX zly)) (⟨zGm,zc3 zGn⟩:(Sl Use))=true,[.one (.bool ((s92 (⟨(⟨zax,(⟨zas,zam zao⟩:(Sl Tie))⟩:Net),(⟨zaO,zaP⟩:Mp)⟩:web) b1 (zaF (unX zly)) (⟨zGm,zc3 zGn⟩:(Sl Use))).1))],[.box 102 [.p (.fp [.int .i64 zax,.sl zas zbw zao,.fm zdf zaO zaP] 0)],.box 3 [.p (.int .i64 ((s92 (⟨(⟨zax,(⟨zas,zam zao⟩:(Sl Tie))⟩:Net),(⟨zaO,zaP⟩:Mp)⟩:web) b1 (zaF (unX zly)) (⟨zGm,zc3 zGn⟩:(Sl Use))).2.1))],.box 116 zly,.box 67 [.vec 75 2 16 (((s92 (⟨(⟨zax,(⟨zas,zam zao⟩:(Sl Tie))⟩:Net),(⟨zaO,zaP⟩:Mp)⟩:web) b1 (zaF (unX zly)) (⟨zGm,zc3 zGn⟩:(Sl Use))).2.2).len) (λ i=>zaR (((s92 (⟨(⟨zax,(⟨zas,zam zao⟩:(Sl Tie))⟩:Net),(⟨zaO,zaP⟩:Mp)⟩:web) b1 (zaF (unX zly)) (⟨zGm,zc3 zGn⟩:(Sl Use))).2.2).get i))]])
  | _=>none
theorem zJU:zar Tryd.prog 92:=⟨_,rfl,rfl,by kernel_rfl⟩
theorem zOn:zjx Tryd.prog 92 zGl:=zEn zMo zJU λ xs safe rs ys h hs K hk=>by
  unfold zGl at h
  split at h
  · rename_i zax zas zbw zao zdf zaO zaP b1 zly zGm zGn
    simp only[dqa,dqh] at h
    obtain⟨rfl,rfl,rfl⟩:=h
    obtain⟨⟨rfl,zb7,rfl⟩,rfl,hT_b2,⟨_,zMp,rfl⟩,hs⟩:=hs
    try rw[zan zb7] at hs
    try rw[zan zb7] at hk
    try rw[zc4 zMp] at hs
    try rw[zc4 zMp] at hk
    refine⟨λ _ _=>[],λ _=>false,zjz,?_⟩
    show zkO Tryd.prog G92 zjz 92 _ K
    have hq:=q92 (⟨(⟨zax,(⟨zas,zb7⟩:(Sl Tie))⟩:Net),(⟨zaO,zaP⟩:Mp)⟩:web) b1 (zaF (unX zly)) (⟨zGm,zMp⟩:(Sl Use)) (λ x=>K x.1 x.2) hs
    dsimp only[e92] at hq
    rw[<- hT_b2] at hq
    exact hq hk
  · cases h
abbrev T54:Tabs:=(((Tabs.nil.addF 74 zwV).addF 75 zxi).addM 92 zGl)
theorem zMq:TabsOk Tryd.prog T54:=(((TabsOk.nil.addF zL4).addF zL6).addM zOn)
abbrev G54:Ctrs:=csm T54 (λ _ _=>[]) (λ _=>false)
def zGo:Ann:=⟨45,[(0,zK [1,2,3] [3]),(1,zK [1,2,8,9] [8]),(2,zK [1,2,8,9,23] [8]),(3,zK [6,7] []),(4,zK [1,8,10] [8,10]),(5,zK [1,8,10,32] [8,10]),(6,zK [6,7] []),(7,zK [1,8,10,11] [8,10,11]),(8,zK [8,10,11,12] [8,10,11,12]),(9,zK [10,11,12,13] [8,10,11,12]),(10,zK [10,11,12,13,43] [8,10,11,12,5000]),(11,zK [6,7] [5000])],
 [(10,⟨[10,11,12,13],[8,10,11,12,5000],[],[(11,0,5000,75,λ _=>zaR default)],[],[],[]⟩)],
 [],
 [],[]⟩
abbrev R54:=((Sl Use)×Int)
abbrev e54 (r:R54):List PA:=[.one (.sl r.1.len 2 (λ i=>zaR (r.1.get i))),.one (.int .i64 r.2)]
@[irreducible] def z54:=ptF Tryd.prog G54 zGo Tryd.f54
def zDe (n:Net) (zaf:Int) (to:Int) (zhf:Int) (zaW:(Sl Use)) (dt0:Tab) (zdp:Nat->List PV):St:=⟨[(10,zp 10 0),(11,zp 11 0),(12,zp 12 0),(13,.one (.c (.clo 92 [.b 8,.b 12,.b 10,.b 11])))],[(8,.box 102 [.p (.fp (zaB (⟨(s74 n (⟨2,zaw (zbu [(zac zaf),(zac to)])⟩:(Sl Int))).1.Net,((s74 n (⟨2,zaw (zbu [(zac zaf),(zac to)])⟩:(Sl Int))).1.out)⟩:web)) 0)]),(10,.box 116 (zm (zal dt0))),(11,.box 67 [.vec 5000]),(12,.box 3 [zi zhf]),(5000,.vec 75 2 16 zaW.len zdp)],[]⟩
abbrev zJV (K:List PA->Prop) (n:Net) (zaf:Int) (to:Int) (X:St->Prop) (P:Int->(Sl Use)->Tab->Bool) (S:Int->(Sl Use)->Tab->((Sl Use)×Int)):Prop:=∀ ⦃zhf:Int⦄ ⦃zaW:(Sl Use)⦄ ⦃dt0:Tab⦄ ⦃zdp:Nat->List PV⦄,P zhf zaW dt0=true->K (e54 (S zhf zaW dt0))->zdp=zg zaR zaW->X (zDe n zaf to zhf zaW dt0 zdp)
section
variable {K:List PA->Prop}{n:Net}{zaf:Int}{to:Int}{zhf:Int}{zaW:(Sl Use)}{dt0:Tab}{zdp:Nat->List PV}{X0:St->Prop}{P0:Int->(Sl Use)->Tab->Bool}{S0:Int->(Sl Use)->Tab->((Sl Use)×Int)}
def zyD (n:Net) (zaf:Int) (to:Int) (S0:Int->(Sl Use)->Tab->((Sl Use)×Int)) (zhf:Int) (zaW:(Sl Use)) (dt0:Tab):((Sl Use)×Int) :=
  (cond (decide ((tg 80 dt0 (0 + zhf.toNat * 2 + 1)) > (0:Int)))
 (cond ((s92 (⟨(s74 n (⟨2, zaw (zbu [(zac zaf), (zac to)])⟩ : (Sl Int))).1.Net, ((s74 n (⟨2, zaw (zbu [(zac zaf), (zac to)])⟩ : (Sl Int))).1.out)⟩ : web) zhf (zaF (unX (xcm (zal dt0)))) (⟨zaW.len, zaW.get⟩ : (Sl Use))).1)
 (S0 ((s92 (⟨(s74 n (⟨2,zaw (zbu [(zac zaf),(zac to)])⟩:(Sl Int))).1.Net,((s74 n (⟨2,zaw (zbu [(zac zaf),(zac to)])⟩:(Sl Int))).1.out)⟩:web) zhf (zaF (unX (xcm (zal dt0)))) (⟨zaW.len,zaW.get⟩:(Sl Use))).2.1) ((s92 (⟨(s74 n (⟨2,zaw (zbu [(zac zaf),(zac to)])⟩:(Sl Int))).1.Net,((s74 n (⟨2,zaw (zbu [(zac zaf),(zac to)])⟩:(Sl Int))).1.out)⟩:web) zhf (zaF (unX (xcm (zal dt0)))) (⟨zaW.len,zaW.get⟩:(Sl Use))).2.2) dt0)
 (((s92 (⟨(s74 n (⟨2,zaw (zbu [(zac zaf),(zac to)])⟩:(Sl Int))).1.Net,((s74 n (⟨2,zaw (zbu [(zac zaf),(zac to)])⟩:(Sl Int))).1.out)⟩:web) zhf (zaF (unX (xcm (zal dt0)))) (⟨zaW.len,zaW.get⟩:(Sl Use))).2.2),(0:Int)))
 (zaW,(0:Int)))
def zyE (n:Net) (zaf:Int) (to:Int) (P0:Int->(Sl Use)->Tab->Bool) (zhf:Int) (zaW:(Sl Use)) (dt0:Tab):Bool :=
  (decide ((0<=zhf/\zhf < (40:Int))) &&
 (cond (decide ((tg 80 dt0 (0 + zhf.toNat * 2 + 1)) > (0:Int)))
 (decide ((p92 (⟨(s74 n (⟨2,zaw (zbu [(zac zaf),(zac to)])⟩:(Sl Int))).1.Net,((s74 n (⟨2,zaw (zbu [(zac zaf),(zac to)])⟩:(Sl Int))).1.out)⟩:web) zhf (zaF (unX (xcm (zal dt0)))) (⟨zaW.len,zaW.get⟩:(Sl Use))=true)) &&
 (cond ((s92 (⟨(s74 n (⟨2, zaw (zbu [(zac zaf), (zac to)])⟩ : (Sl Int))).1.Net, ((s74 n (⟨2, zaw (zbu [(zac zaf), (zac to)])⟩ : (Sl Int))).1.out)⟩ : web) zhf (zaF (unX (xcm (zal dt0)))) (⟨zaW.len, zaW.get⟩ : (Sl Use))).1)
 (P0 ((s92 (⟨(s74 n (⟨2,zaw (zbu [(zac zaf),(zac to)])⟩:(Sl Int))).1.Net,((s74 n (⟨2,zaw (zbu [(zac zaf),(zac to)])⟩:(Sl Int))).1.out)⟩:web) zhf (zaF (unX (xcm (zal dt0)))) (⟨zaW.len,zaW.get⟩:(Sl Use))).2.1) ((s92 (⟨(s74 n (⟨2,zaw (zbu [(zac zaf),(zac to)])⟩:(Sl Int))).1.Net,((s74 n (⟨2,zaw (zbu [(zac zaf),(zac to)])⟩:(Sl Int))).1.out)⟩:web) zhf (zaF (unX (xcm (zal dt0)))) (⟨zaW.len,zaW.get⟩:(Sl Use))).2.2) dt0)
 true))
 true))
def zyF (n:Net) (zaf:Int) (to:Int):Nat->Int->(Sl Use)->Tab->((Sl Use)×Int):=lpO (λ _ _ _=>default) (zyD n zaf to)
def zyG (n:Net) (zaf:Int) (to:Int):Nat->Int->(Sl Use)->Tab->Bool:=lpO (λ _ _ _=>false) (zyE n zaf to)
def zyH (n:Net) (zaf:Int) (to:Int) (zhf:Int) (zaW:(Sl Use)) (dt0:Tab):((Sl Use)×Int):=zyF n zaf to Fuel zhf zaW dt0
def zyI (n:Net) (zaf:Int) (to:Int) (zhf:Int) (zaW:(Sl Use)) (dt0:Tab):Bool:=zyG n zaf to Fuel zhf zaW dt0
theorem zGp (hs:zyI n zaf to zhf zaW dt0=true) (hk:K (e54 (zyH n zaf to zhf zaW dt0))) (zlc:zdp=zg zaR zaW):z54 (Wk K) [1,1,1,1,1,1,1,1,0,0] [] (zDe n zaf to zhf zaW dt0 zdp) :=
  zl (λ X=>z54 (Wk K) [1,1,1,1,1,1,1,1,0,0,0] [X]) (by kernel_rfl) λ X0 hX =>
  (show ∀ k, zJV K n zaf to X0 (zyG n zaf to k) (zyF n zaf to k) from zeu _ _ (zyE n zaf to) (zyD n zaf to) (zJV K n zaf to X0)
 (by intro _ _ _ _ hs;exact absurd hs dqk)
 (by intro P0 S0 hX0 zhf zaW dt0 zdp hs hk zlc;subst zlc;exact hX _ (za0 (by kernel_rfl) (zaN hs λ hc hs=>And.intro hc (zc hs hk (λ hs hk=>(zaN hs λ hc hs=>And.intro (And.intro (zE enc_40 4 ((s74 n (⟨2,zaw (zbu [(zac zaf),(zac to)])⟩:(Sl Int))).1.Net.Ties.get)) (And.intro (rfl:((false,1,false,[none]):MQ)=(false,1,false,[none])) (And.intro (zEo:xcm (zal dt0)=xcm (zal (zaF (unX (xcm (zal dt0)))))) (And.intro (zE zaR 2 zaW.get) hc)))) (zc hs hk (λ hs hk=>(hX0 hs hk rfl)) (λ hs hk=>((zfH hk):Wk K [.one (.sl (((s92 (⟨(s74 n (⟨2,zaw (zbu [(zac zaf),(zac to)])⟩:(Sl Int))).1.Net,((s74 n (⟨2,zaw (zbu [(zac zaf),(zac to)])⟩:(Sl Int))).1.out)⟩:web) zhf (zaF (unX (xcm (zal dt0)))) (⟨zaW.len,zaW.get⟩:(Sl Use))).2.2).len) 2 (λ i=>zaR (((s92 (⟨(s74 n (⟨2,zaw (zbu [(zac zaf),(zac to)])⟩:(Sl Int))).1.Net,((s74 n (⟨2,zaw (zbu [(zac zaf),(zac to)])⟩:(Sl Int))).1.out)⟩:web) zhf (zaF (unX (xcm (zal dt0)))) (⟨zaW.len,zaW.get⟩:(Sl Use))).2.2).get i))),.one (.int .i64 (0:Int))]))))) (λ hs hk=>((zfH hk):Wk K [.one (.sl zaW.len 2 (λ i=>zaR (zaW.get i))),.one (.int .i64 (0:Int))]))))))) _ hs hk zlc
def s54 (n:Net) (zaf:Int) (to:Int):((Sl Use)×Int) :=
  (cond ((s74 n (⟨2, zaw (zbu [(zac zaf), (zac to)])⟩ : (Sl Int))).2 == 0)
 (cond ((0:Int) != (0:Int))
 ((⟨0,λ _=>default⟩:(Sl Use)),(0:Int))
 (cond (match ((tg 80 (s75 (⟨(s74 n (⟨2, zaw (zbu [(zac zaf), (zac to)])⟩ : (Sl Int))).1.Net, ((s74 n (⟨2, zaw (zbu [(zac zaf), (zac to)])⟩ : (Sl Int))).1.out)⟩ : web) to) (0 + zaf.toNat * 2 + 0)) == (1000000000000:Int)) with | true => (match ((tg 80 (s75 (⟨(s74 n (⟨2, zaw (zbu [(zac zaf), (zac to)])⟩ : (Sl Int))).1.Net, ((s74 n (⟨2, zaw (zbu [(zac zaf), (zac to)])⟩ : (Sl Int))).1.out)⟩ : web) to) (0 + zaf.toNat * 2 + 0 + 1)) == (0:Int)) with | true => true | false => false) | false => false)
 ((⟨0,λ _=>default⟩:(Sl Use)),(6:Int))
 (zyH n zaf to zaf (⟨0,(λ _=>default)⟩:Sl Use) (s75 (⟨(s74 n (⟨2,zaw (zbu [(zac zaf),(zac to)])⟩:(Sl Int))).1.Net,((s74 n (⟨2,zaw (zbu [(zac zaf),(zac to)])⟩:(Sl Int))).1.out)⟩:web) to))))
 (cond ((s74 n (⟨2, zaw (zbu [(zac zaf), (zac to)])⟩ : (Sl Int))).2 != (0:Int))
 ((⟨0,λ _=>default⟩:(Sl Use)),(s74 n (⟨2,zaw (zbu [(zac zaf),(zac to)])⟩:(Sl Int))).2)
 default))
def p54 (n:Net) (zaf:Int) (to:Int):Bool :=
  (cond ((s74 n (⟨2, zaw (zbu [(zac zaf), (zac to)])⟩ : (Sl Int))).2 == 0)
 (decide ((p74 n (⟨2,zaw (zbu [(zac zaf),(zac to)])⟩:(Sl Int))=true)) &&
 (cond ((0:Int) != (0:Int))
 true
 (decide ((p75 (⟨(s74 n (⟨2,zaw (zbu [(zac zaf),(zac to)])⟩:(Sl Int))).1.Net,((s74 n (⟨2,zaw (zbu [(zac zaf),(zac to)])⟩:(Sl Int))).1.out)⟩:web) to=true)) &&
 (decide ((0<=zaf/\zaf < (40:Int))) &&
 (cond (match ((tg 80 (s75 (⟨(s74 n (⟨2, zaw (zbu [(zac zaf), (zac to)])⟩ : (Sl Int))).1.Net, ((s74 n (⟨2, zaw (zbu [(zac zaf), (zac to)])⟩ : (Sl Int))).1.out)⟩ : web) to) (0 + zaf.toNat * 2 + 0)) == (1000000000000:Int)) with | true => (match ((tg 80 (s75 (⟨(s74 n (⟨2, zaw (zbu [(zac zaf), (zac to)])⟩ : (Sl Int))).1.Net, ((s74 n (⟨2, zaw (zbu [(zac zaf), (zac to)])⟩ : (Sl Int))).1.out)⟩ : web) to) (0 + zaf.toNat * 2 + 0 + 1)) == (0:Int)) with | true => true | false => false) | false => false)
 true
 (zyI n zaf to zaf (⟨0,(λ _=>default)⟩:Sl Use) (s75 (⟨(s74 n (⟨2,zaw (zbu [(zac zaf),(zac to)])⟩:(Sl Int))).1.Net,((s74 n (⟨2,zaw (zbu [(zac zaf),(zac to)])⟩:(Sl Int))).1.out)⟩:web) to)))))))
 (decide ((p74 n (⟨2,zaw (zbu [(zac zaf),(zac to)])⟩:(Sl Int))=true)) &&
 (cond ((s74 n (⟨2, zaw (zbu [(zac zaf), (zac to)])⟩ : (Sl Int))).2 != (0:Int))
 true
 false)))
end
theorem q54 (n:Net) (zaf:Int) (to:Int) (K:List PA->Prop) (hs:p54 n zaf to=true) (hk:K (e54 (s54 n zaf to))):vcFun Tryd.prog G54 zGo 54 [.agg (enc_24 n),.one (.int .i64 zaf),.one (.int .i64 to)] (Wk K) :=
  za0 (by kernel_rfl) (zc hs hk (λ hs hk=>(zaN hs λ hc hs=>And.intro (And.intro (zE enc_40 4 n.Ties.get) (And.intro ((zeh []):IsE zac 1 1 (zbu [(zac zaf),(zac to)])) hc)) (zc hs hk (λ hs hk=>((wk hk (zgK (.one (.nil _ _)) (zgK (.one (.rfl _)) zm0))):Wk K [.one (.nils),.one (.int .i64 (0:Int))])) (λ hs hk=>(zaN hs λ hc hs=>And.intro (And.intro (zE enc_40 4 ((s74 n (⟨2,zaw (zbu [(zac zaf),(zac to)])⟩:(Sl Int))).1.Net.Ties.get)) (And.intro (rfl:((false,1,false,[none]):MQ)=(false,1,false,[none])) hc)) (zaN hs λ hc hs=>And.intro hc (zc hs hk (λ hs hk=>((wk hk (zgK (.one (.nil _ _)) (zgK (.one (.rfl _)) zm0))):Wk K [.one (.nils),.one (.int .i64 (6:Int))])) (λ hs hk=>(zGp hs hk rfl))))))))) (λ hs hk=>(zaN hs λ hc hs=>And.intro (And.intro (zE enc_40 4 n.Ties.get) (And.intro ((zeh []):IsE zac 1 1 (zbu [(zac zaf),(zac to)])) hc)) (zc hs hk (λ hs hk=>((wk hk (zgK (.one (.nil _ _)) (zgK (.one (.rfl _)) zm0))):Wk K [.one (.nils),.one (.int .i64 ((s74 n (⟨2,zaw (zbu [(zac zaf),(zac to)])⟩:(Sl Int))).2))])) (λ hs hk=>(absurd hs dqk:False))))))
def zGq : List PA → COut
  | [.agg [.int .i64 zaj,.sl zad zaz zab],.one (.int .i64 a1),.one (.int .i64 a2)]=>.det (IsE enc_40 4 zaz zab/\p54 (⟨zaj,(⟨zad,zam zab⟩:(Sl Tie))⟩:Net) a1 a2=true) [.one (.sl (((s54 (⟨zaj,(⟨zad,zam zab⟩:(Sl Tie))⟩:Net) a1 a2).1).len) 2 (λ i=>zaR (((s54 (⟨zaj,(⟨zad,zam zab⟩:(Sl Tie))⟩:Net) a1 a2).1).get i))),.one (.int .i64 ((s54 (⟨zaj,(⟨zad,zam zab⟩:(Sl Tie))⟩:Net) a1 a2).2))]
  | _=>.no
theorem zJW:zar Tryd.prog 54:=⟨_,rfl,rfl,by kernel_rfl⟩
theorem zOo:Ok Tryd.prog 54 zGq:=zg1 zMq zJW λ args K h=>by
  unfold zGq at h
  split at h
  · rename_i zaj zad zaz zab a1 a2
    obtain⟨⟨⟨rfl,zat,rfl⟩,hs⟩,hk⟩:=h
    try rw[zan zat] at hs
    try rw[zan zat] at hk
    exact⟨_,zfq zfG _,(λ _ _=>[]),(λ _=>false),zGo,q54 (⟨zaj,(⟨zad,zat⟩:(Sl Tie))⟩:Net) a1 a2 K hs hk⟩
  · exact h.elim
abbrev T66:Tabs:=Tabs.nil
theorem zMr:TabsOk Tryd.prog T66:=TabsOk.nil
abbrev G66:Ctrs:=csm T66 (λ _ _=>[]) (λ _=>false)
def zJX:Ann:=⟨6,[(0,zK [0] [0]),(1,zK [0] [0,4])],
 [],
 [],
 [],[]⟩
abbrev R66:=Net
abbrev e66 (r:R66):List PA:=[.agg [.int .i64 r.Nodes,.sl r.Ties.len 4 (λ i=>enc_40 (r.Ties.get i))]]
section
variable {K:List PA->Prop}
def s66:Net :=
  (⟨(3:Int),(⟨3,(zpn (⟨(0:Int),(1:Int),(5:Int),(8:Int)⟩:Tie) [(⟨(0:Int),(1:Int),(5:Int),(8:Int)⟩:Tie),(⟨(1:Int),(2:Int),(-2:Int),(3:Int)⟩:Tie),(⟨(2:Int),(0:Int),(-9:Int),(1000000000000:Int)⟩:Tie)])⟩:(Sl Tie))⟩:Net)
end
theorem q66 (K:List PA->Prop) (hk:K (e66 (s66))):vcFun Tryd.prog G66 zJX 66 [] K :=
  za0 (by kernel_rfl) (Eq.mpr (congrArg K (congrArg (λ (g_:Nat->List PV)=>([.agg [.int .i64 (3:Int),.sl 3 4 g_]]:List PA)) (zr6 (enc:=enc_40) (x:=(⟨(0:Int),(1:Int),(5:Int),(8:Int)⟩:Tie)) (y:=(⟨(1:Int),(2:Int),(-2:Int),(3:Int)⟩:Tie)) (r:=[(⟨(2:Int),(0:Int),(-9:Int),(1000000000000:Int)⟩:Tie)])))) hk)
def zGr : List PA → COut
  | []=>.tot [.agg [.int .i64 ((s66).Nodes),.sl ((s66).Ties.len) 4 (λ i=>enc_40 ((s66).Ties.get i))]]
  | _=>.no
theorem zJY:zar Tryd.prog 66:=⟨_,rfl,rfl,by kernel_rfl⟩
theorem zOp:Ok Tryd.prog 66 zGr:=zbl zMr zJY λ args K h=>by
  unfold zGr at h
  split at h
  · have hk := h
    exact⟨(λ _ _=>[]),(λ _=>false),zJX,q66 K hk⟩
  · exact h.elim
abbrev T21:Tabs:=((((((((((Tabs.nil.addF 22 zBH).addF 25 zBI).addF 26 zFP).addF 29 zFQ).addF 32 zFU).addF 45 zF5).addF 49 zGe).addF 53 zGi).addF 54 zGq).addF 66 zGr)
theorem zMs:TabsOk Tryd.prog T21:=((((((((((TabsOk.nil.addF zNi).addF zNj).addF zN9).addF zOa).addF ok32).addF zOk).addF zOl).addF zOm).addF zOo).addF zOp)
abbrev G21:Ctrs:=csm T21 (λ _ _=>[]) (λ _=>false)
def zGs:Ann:=⟨87,[(0,zK [] []),(1,zK [1,2] []),(2,zK [1,2,3,4] []),(3,zK [1,2,3,4,5,6] []),(4,zK [1,2,3,4,5,6,7] [7]),(5,zK [1,2,3,4,5,6,7,8,9] [7]),(6,zK [1,2,3,4,5,6,8,9,10,11] []),(7,zK [1,3,5,8,10,57] []),(8,zK [0] []),(9,zK [0] [])],
 [],
 [(2,zK [1,2] []),(3,zK [1,2,3,4] []),(4,zK [1,2,3,4,5,6] []),(5,zK [1,2,3,4,5,6,7] [7]),(6,zK [1,2,3,4,5,6,7,8,9] [7]),(7,zK [1,2,3,4,5,6,8,9,10,11] []),(9,zK [1,3,5,8,10] [])],
 [],[]⟩
abbrev R21:=Bool
abbrev e21 (r:R21):List PA:=[.one (.bool r)]
@[irreducible] def z21:=ptF Tryd.prog G21 zGs Tryd.f21
section
variable {K:List PA->Prop}{bv0:(Sl Span)}{ev0:Int}{zJZ:Nat->List PV}{cv1:(Sl Use)}{fv1:Int}{zJ0:Nat->List PV}{vv2:(Sl Int)}{gv2:Int}{zJ1:Nat->List PV}{zd8:Int}{zdv:(Sl Tie)}{zyJ:Nat->List PV}{xv4:(Sl Use)}{hv4:Int}{zJ2:Nat->List PV}{lv5:(Sl Int)}{iv5:Int}{zJ3:Nat->List PV}
def zyK (bv0:(Sl Span)) (cv1:(Sl Use)) (vv2:(Sl Int)) (xv4:(Sl Use)) (lv5:(Sl Int)):Bool :=
  (cond (s32 bv0 (⟨3, zfI (zbu [(zbv (⟨(0:Int), (0:Int)⟩ : Span)), (zbv (⟨(5:Int), (8:Int)⟩ : Span)), (zbv (⟨(3:Int), (9:Int)⟩ : Span))])⟩ : (Sl Span)))
 (cond (s53 cv1 (⟨1, λ _ => (⟨(2:Int), true⟩ : Use)⟩ : (Sl Use)))
 (cond (s25 vv2 (⟨3, zaw (zbu [(zac (0:Int)), (zac (5:Int)), (zac (8:Int))])⟩ : (Sl Int)))
 (cond (s53 xv4 (⟨2, zc3 (zbu [(zaR (⟨(2:Int), true⟩ : Use)), (zaR (⟨(3:Int), true⟩ : Use))])⟩ : (Sl Use)))
 (s25 lv5 (⟨1,λ _=>(2:Int)⟩:(Sl Int)))
 false)
 false)
 false)
 false)
def zyL (bv0:(Sl Span)) (cv1:(Sl Use)) (vv2:(Sl Int)) (xv4:(Sl Use)) (lv5:(Sl Int)):Bool :=
  (decide ((p32 bv0 (⟨3,zfI (zbu [(zbv (⟨(0:Int),(0:Int)⟩:Span)),(zbv (⟨(5:Int),(8:Int)⟩:Span)),(zbv (⟨(3:Int),(9:Int)⟩:Span))])⟩:(Sl Span))=true)) &&
 (cond (s32 bv0 (⟨3, zfI (zbu [(zbv (⟨(0:Int), (0:Int)⟩ : Span)), (zbv (⟨(5:Int), (8:Int)⟩ : Span)), (zbv (⟨(3:Int), (9:Int)⟩ : Span))])⟩ : (Sl Span)))
 (decide ((p53 cv1 (⟨1,λ _=>(⟨(2:Int),true⟩:Use)⟩:(Sl Use))=true)) &&
 (cond (s53 cv1 (⟨1, λ _ => (⟨(2:Int), true⟩ : Use)⟩ : (Sl Use)))
 (decide ((p25 vv2 (⟨3,zaw (zbu [(zac (0:Int)),(zac (5:Int)),(zac (8:Int))])⟩:(Sl Int))=true)) &&
 (cond (s25 vv2 (⟨3, zaw (zbu [(zac (0:Int)), (zac (5:Int)), (zac (8:Int))])⟩ : (Sl Int)))
 (decide ((p53 xv4 (⟨2,zc3 (zbu [(zaR (⟨(2:Int),true⟩:Use)),(zaR (⟨(3:Int),true⟩:Use))])⟩:(Sl Use))=true)) &&
 (cond (s53 xv4 (⟨2, zc3 (zbu [(zaR (⟨(2:Int), true⟩ : Use)), (zaR (⟨(3:Int), true⟩ : Use))])⟩ : (Sl Use)))
 (decide ((p25 lv5 (⟨1,λ _=>(2:Int)⟩:(Sl Int))=true)) &&
 true)
 true))
 true))
 true))
 true))
theorem zGt (hs:zyL bv0 cv1 vv2 xv4 lv5=true) (hk:K (e21 (zyK bv0 cv1 vv2 xv4 lv5))):z21 K [1,1,1,1,1,1,1,1] [] ⟨[(1,zS zbv 2 bv0),(3,zS zaR 2 cv1),(5,zS zac 1 vv2),(8,zS zaR 2 xv4),(10,zS zac 1 lv5)],[],[]⟩:=za0 (by kernel_rfl) (zaN hs λ hc hs=>And.intro (And.intro (zE zbv 2 bv0.get) (And.intro ((zeh [(⟨(3:Int),(9:Int)⟩:Span)]):IsE zbv 2 2 (zbu [(zbv (⟨(0:Int),(0:Int)⟩:Span)),(zbv (⟨(5:Int),(8:Int)⟩:Span)),(zbv (⟨(3:Int),(9:Int)⟩:Span))])) hc)) (zc hs hk (λ hs hk=>(zaN hs λ hc hs=>And.intro (And.intro (zE zaR 2 cv1.get) (And.intro (zvs:IsE zaR 2 2 (λ _=>(zaR (⟨(2:Int),true⟩:Use)))) hc)) (zc hs hk (λ hs hk=>(zaN hs λ hc hs=>And.intro (And.intro (zE zac 1 vv2.get) (And.intro ((zeh [(8:Int)]):IsE zac 1 1 (zbu [(zac (0:Int)),(zac (5:Int)),(zac (8:Int))])) hc)) (zc hs hk (λ hs hk=>(zaN hs λ hc hs=>And.intro (And.intro (zE zaR 2 xv4.get) (And.intro ((zeh []):IsE zaR 2 2 (zbu [(zaR (⟨(2:Int),true⟩:Use)),(zaR (⟨(3:Int),true⟩:Use))])) hc)) (zc hs hk (λ hs hk=>(zaN hs λ hc hs=>And.intro (And.intro (zE zac 1 lv5.get) (And.intro (zvs:IsE zac 1 1 (λ _=>(zac (2:Int)))) hc)) hk)) (λ hs hk=>hk)))) (λ hs hk=>hk)))) (λ hs hk=>hk)))) (λ hs hk=>hk)))
def zyM (bv0:(Sl Span)) (ev0:Int) (cv1:(Sl Use)) (fv1:Int) (vv2:(Sl Int)) (gv2:Int) (xv4:(Sl Use)) (hv4:Int) (lv5:(Sl Int)) (iv5:Int):Bool :=
  (cond (ev0 != (0:Int))
 false
 (cond (fv1 != (0:Int))
 false
 (cond (gv2 != (0:Int))
 false
 (cond (hv4 != (0:Int))
 false
 (cond (iv5 != (0:Int))
 false
 (zyK bv0 cv1 vv2 xv4 lv5))))))
def zyO (bv0:(Sl Span)) (ev0:Int) (cv1:(Sl Use)) (fv1:Int) (vv2:(Sl Int)) (gv2:Int) (xv4:(Sl Use)) (hv4:Int) (lv5:(Sl Int)) (iv5:Int):Bool :=
  (cond (ev0 != (0:Int))
 true
 (cond (fv1 != (0:Int))
 true
 (cond (gv2 != (0:Int))
 true
 (cond (hv4 != (0:Int))
 true
 (cond (iv5 != (0:Int))
 true
 (zyL bv0 cv1 vv2 xv4 lv5))))))
theorem zGu (hs:zyO bv0 ev0 cv1 fv1 vv2 gv2 xv4 hv4 lv5 iv5=true) (hk:K (e21 (zyM bv0 ev0 cv1 fv1 vv2 gv2 xv4 hv4 lv5 iv5))) (zMt:zJ3=zg zac lv5):z21 K [1,1,1,1,1,1,1] [] ⟨[(1,zS zbv 2 bv0),(2,zI ev0),(3,zS zaR 2 cv1),(4,zI fv1),(5,zS zac 1 vv2),(6,zI gv2),(8,zS zaR 2 xv4),(9,zI hv4),(10,zP (.sl lv5.len 1 zJ3)),(11,zI iv5)],[],[]⟩:=by subst zMt;exact za0 (by kernel_rfl) (zc hs hk (λ hs hk=>hk) (λ hs hk=>(zc hs hk (λ hs hk=>hk) (λ hs hk=>(zc hs hk (λ hs hk=>hk) (λ hs hk=>(zc hs hk (λ hs hk=>hk) (λ hs hk=>(zc hs hk (λ hs hk=>hk) (λ hs hk=>(zGt hs hk)))))))))))
def zyP (bv0:(Sl Span)) (ev0:Int) (cv1:(Sl Use)) (fv1:Int) (vv2:(Sl Int)) (gv2:Int) (zd8:Int) (zdv:(Sl Tie)) (xv4:(Sl Use)) (hv4:Int):Bool :=
  (zyM bv0 ev0 cv1 fv1 vv2 gv2 xv4 hv4 ((s22 (⟨zd8,zdv⟩:Net)).1) ((s22 (⟨zd8,zdv⟩:Net)).2))
def zyQ (bv0:(Sl Span)) (ev0:Int) (cv1:(Sl Use)) (fv1:Int) (vv2:(Sl Int)) (gv2:Int) (zd8:Int) (zdv:(Sl Tie)) (xv4:(Sl Use)) (hv4:Int):Bool :=
  (decide ((p22 (⟨zd8,zdv⟩:Net)=true)) &&
 (zyO bv0 ev0 cv1 fv1 vv2 gv2 xv4 hv4 ((s22 (⟨zd8,zdv⟩:Net)).1) ((s22 (⟨zd8,zdv⟩:Net)).2)))
theorem zGv (hs:zyQ bv0 ev0 cv1 fv1 vv2 gv2 zd8 zdv xv4 hv4=true) (hk:K (e21 (zyP bv0 ev0 cv1 fv1 vv2 gv2 zd8 zdv xv4 hv4))) (zMu:zJ2=zg zaR xv4):z21 K [1,1,1,1,1,1] [] ⟨[(1,zS zbv 2 bv0),(2,zI ev0),(3,zS zaR 2 cv1),(4,zI fv1),(5,zS zac 1 vv2),(6,zI gv2),(7,zp 7 0),(8,zP (.sl xv4.len 2 zJ2)),(9,zI hv4)],[(7,.box 24 (zm (enc_24 (⟨zd8,zdv⟩:Net))))],[]⟩:=by subst zMu;exact za0 (by kernel_rfl) (zaN hs λ hc hs=>And.intro (And.intro (zE enc_40 4 zdv.get) hc) (zGu hs hk rfl))
def zyR (bv0:(Sl Span)) (ev0:Int) (cv1:(Sl Use)) (fv1:Int) (vv2:(Sl Int)) (gv2:Int) (zd8:Int) (zdv:(Sl Tie)):Bool :=
  (zyP bv0 ev0 cv1 fv1 vv2 gv2 zd8 zdv ((s49 (⟨zd8,zdv⟩:Net)).1) ((s49 (⟨zd8,zdv⟩:Net)).2))
def zyS (bv0:(Sl Span)) (ev0:Int) (cv1:(Sl Use)) (fv1:Int) (vv2:(Sl Int)) (gv2:Int) (zd8:Int) (zdv:(Sl Tie)):Bool :=
  (decide ((p49 (⟨zd8,zdv⟩:Net)=true)) &&
 (zyQ bv0 ev0 cv1 fv1 vv2 gv2 zd8 zdv ((s49 (⟨zd8,zdv⟩:Net)).1) ((s49 (⟨zd8,zdv⟩:Net)).2)))
theorem zGw (hs:zyS bv0 ev0 cv1 fv1 vv2 gv2 zd8 zdv=true) (hk:K (e21 (zyR bv0 ev0 cv1 fv1 vv2 gv2 zd8 zdv))) (zGx:zyJ=zg enc_40 zdv):z21 K [1,1,1,1,1] [] ⟨[(1,zS zbv 2 bv0),(2,zI ev0),(3,zS zaR 2 cv1),(4,zI fv1),(5,zS zac 1 vv2),(6,zI gv2),(7,zp 7 0)],[(7,.box 24 [zi zd8,.p (.sl zdv.len 4 zyJ)])],[]⟩:=by subst zGx;exact za0 (by kernel_rfl) (zaN hs λ hc hs=>And.intro (And.intro (zE enc_40 4 zdv.get) hc) (zGv hs hk rfl))
def zyT (bv0:(Sl Span)) (ev0:Int) (cv1:(Sl Use)) (fv1:Int) (vv2:(Sl Int)) (gv2:Int):Bool :=
  (zyR bv0 ev0 cv1 fv1 vv2 gv2 ((s29 s66 (⟨(0:Int),(2:Int),(10:Int),(12:Int)⟩:Tie)).Nodes) ((s29 s66 (⟨(0:Int),(2:Int),(10:Int),(12:Int)⟩:Tie)).Ties))
def zyU (bv0:(Sl Span)) (ev0:Int) (cv1:(Sl Use)) (fv1:Int) (vv2:(Sl Int)) (gv2:Int):Bool :=
  (decide ((p29 s66 (⟨(0:Int),(2:Int),(10:Int),(12:Int)⟩:Tie)=true)) &&
 (zyS bv0 ev0 cv1 fv1 vv2 gv2 ((s29 s66 (⟨(0:Int),(2:Int),(10:Int),(12:Int)⟩:Tie)).Nodes) ((s29 s66 (⟨(0:Int),(2:Int),(10:Int),(12:Int)⟩:Tie)).Ties)))
theorem zGy (hs:zyU bv0 ev0 cv1 fv1 vv2 gv2=true) (hk:K (e21 (zyT bv0 ev0 cv1 fv1 vv2 gv2))) (zMv:zJ1=zg zac vv2):z21 K [1,1,1,1] [] ⟨[(1,zS zbv 2 bv0),(2,zI ev0),(3,zS zaR 2 cv1),(4,zI fv1),(5,zP (.sl vv2.len 1 zJ1)),(6,zI gv2)],[],[]⟩:=by subst zMv;exact za0 (by kernel_rfl) (zaN hs λ hc hs=>And.intro (And.intro (zE enc_40 4 s66.Ties.get) hc) (zGw hs hk rfl))
def zyV (bv0:(Sl Span)) (ev0:Int) (cv1:(Sl Use)) (fv1:Int):Bool :=
  (zyT bv0 ev0 cv1 fv1 ((s45 s66 (1:Int) (0:Int)).1) ((s45 s66 (1:Int) (0:Int)).2))
def zyW (bv0:(Sl Span)) (ev0:Int) (cv1:(Sl Use)) (fv1:Int):Bool :=
  (decide ((p45 s66 (1:Int) (0:Int)=true)) &&
 (zyU bv0 ev0 cv1 fv1 ((s45 s66 (1:Int) (0:Int)).1) ((s45 s66 (1:Int) (0:Int)).2)))
theorem zGz (hs:zyW bv0 ev0 cv1 fv1=true) (hk:K (e21 (zyV bv0 ev0 cv1 fv1))) (zMw:zJ0=zg zaR cv1):z21 K [1,1,1] [] ⟨[(1,zS zbv 2 bv0),(2,zI ev0),(3,zP (.sl cv1.len 2 zJ0)),(4,zI fv1)],[],[]⟩:=by subst zMw;exact za0 (by kernel_rfl) (zaN hs λ hc hs=>And.intro (And.intro (zE enc_40 4 s66.Ties.get) hc) (zGy hs hk rfl))
def zyX (bv0:(Sl Span)) (ev0:Int):Bool :=
  (zyV bv0 ev0 ((s54 s66 (0:Int) (2:Int)).1) ((s54 s66 (0:Int) (2:Int)).2))
def zyY (bv0:(Sl Span)) (ev0:Int):Bool :=
  (decide ((p54 s66 (0:Int) (2:Int)=true)) &&
 (zyW bv0 ev0 ((s54 s66 (0:Int) (2:Int)).1) ((s54 s66 (0:Int) (2:Int)).2)))
theorem zGA (hs:zyY bv0 ev0=true) (hk:K (e21 (zyX bv0 ev0))) (zMx:zJZ=zg zbv bv0):z21 K [1,1] [] ⟨[(1,zP (.sl bv0.len 2 zJZ)),(2,zI ev0)],[],[]⟩:=by subst zMx;exact za0 (by kernel_rfl) (zaN hs λ hc hs=>And.intro (And.intro (zE enc_40 4 s66.Ties.get) hc) (zGz hs hk rfl))
def s21:Bool :=
  (zyX ((s26 s66).1) ((s26 s66).2))
def p21:Bool :=
  (decide ((p26 s66=true)) &&
 (zyY ((s26 s66).1) ((s26 s66).2)))
end
theorem q21 (K:List PA->Prop) (hs:p21=true) (hk:K (e21 (s21))):vcFun Tryd.prog G21 zGs 21 [] K :=
  za0 (by kernel_rfl) (zaN hs λ hc hs=>And.intro (And.intro (zE enc_40 4 s66.Ties.get) hc) (zGA hs hk rfl))
theorem zJ4:p21=true:=by kernel_rfl
theorem zJ5:s21=true:=by kernel_rfl
def zGB : List PA → COut
  | []=>.tot [.one (.bool true)]
  | _=>.no
theorem zJ6:zar Tryd.prog 21:=⟨_,rfl,rfl,by kernel_rfl⟩
theorem zOq:Ok Tryd.prog 21 zGB:=zbl zMs zJ6 λ args K h=>by
  unfold zGB at h
  split at h
  · refine ⟨fun _ _ => [], fun _ => false, zGs, q21 K zJ4 ?_⟩
    show K [.one (.bool s21)]
    rw[zJ5];exact h
  · exact h.elim
abbrev T20:Tabs:=Tabs.nil
theorem zMy:TabsOk Tryd.prog T20:=TabsOk.nil
abbrev G20:Ctrs:=csm T20 (λ _ _=>[]) (λ _=>false)
def zJ7:Ann:=⟨32,[(0,zK [1,2] [2]),(1,zK [4] [])],
 [],
 [],
 [],[]⟩
abbrev R20:=Bool
abbrev e20 (r:R20):List PA:=[.one (.bool r)]
section
variable {K:List PA->Prop}{n:Net}{ties:Int}
def s20 (n:Net) (ties:Int):Bool :=
  (cond (decide (n.Nodes <= (7:Int)))
 (cond (decide ((n.Ties.len : Int) <= ties))
 true
 (cond (decide ((n.Ties.len : Int) > (200:Int)))
 (decide ((n.Ties.len:Int)<=(210:Int)))
 false))
 (cond (decide (n.Nodes > (40:Int)))
 (cond (decide ((n.Ties.len : Int) <= ties))
 true
 (cond (decide ((n.Ties.len : Int) > (200:Int)))
 (decide ((n.Ties.len:Int)<=(210:Int)))
 false))
 false))
end
theorem q20 (n:Net) (ties:Int) (K:List PA->Prop) (hk:K (e20 (s20 n ties))):vcFun Tryd.prog G20 zJ7 20 [.agg (enc_24 n),.one (.int .i64 ties)] K :=
  za0 (by kernel_rfl) (zt hk (λ hk=>(zt hk (λ hk=>hk) (λ hk=>(zt hk (λ hk=>hk) (λ hk=>hk))))) (λ hk=>(zt hk (λ hk=>(zt hk (λ hk=>hk) (λ hk=>(zt hk (λ hk=>hk) (λ hk=>hk))))) (λ hk=>hk))))
def zGC : List PA → COut
  | [.agg [.int .i64 zaj,.sl zad zaz zab],.one (.int .i64 a1)]=>.det (IsE enc_40 4 zaz zab) [.one (.bool (s20 (⟨zaj,(⟨zad,zam zab⟩:(Sl Tie))⟩:Net) a1))]
  | _=>.no
theorem zJ8:zar Tryd.prog 20:=⟨_,rfl,rfl,by kernel_rfl⟩
theorem zOr:Ok Tryd.prog 20 zGC:=zbl zMy zJ8 λ args K h=>by
  unfold zGC at h
  split at h
  · rename_i zaj zad zaz zab a1
    obtain⟨⟨rfl,zat,rfl⟩,hk⟩:=h
    try rw[zan zat] at hk
    exact⟨(λ _ _=>[]),(λ _=>false),zJ7,q20 (⟨zaj,(⟨zad,zat⟩:(Sl Tie))⟩:Net) a1 K hk⟩
  · exact h.elim
abbrev T72:Tabs:=Tabs.nil
theorem zMz:TabsOk Tryd.prog T72:=TabsOk.nil
abbrev G72:Ctrs:=csm T72 (λ _ _=>[]) (λ _=>false)
def zJ9:Ann:=⟨15,[(0,zK [0,1,2] []),(1,zK [6] [])],
 [],
 [],
 [],[]⟩
abbrev R72:=Bool
abbrev e72 (r:R72):List PA:=[.one (.bool r)]
section
variable {K:List PA->Prop}{x:Int}{low:Int}{high:Int}
def s72 (x:Int) (low:Int) (high:Int):Bool :=
  (cond (decide (x >= low))
 (decide (x<=high))
 false)
end
theorem q72 (x:Int) (low:Int) (high:Int) (K:List PA->Prop) (hk:K (e72 (s72 x low high))):vcFun Tryd.prog G72 zJ9 72 [.one (.int .i64 x),.one (.int .i64 low),.one (.int .i64 high)] K :=
  za0 (by kernel_rfl) (zt hk (λ hk=>hk) (λ hk=>hk))
def zBN : List PA → COut
  | [.one (.int .i64 a0),.one (.int .i64 a1),.one (.int .i64 a2)]=>.tot [.one (.bool (s72 a0 a1 a2))]
  | _=>.no
theorem zKa:zar Tryd.prog 72:=⟨_,rfl,rfl,by kernel_rfl⟩
theorem zNo:Ok Tryd.prog 72 zBN:=zbl zMz zKa λ args K h=>by
  unfold zBN at h
  split at h
  · rename_i a0 a1 a2
    have hk:=h
    exact⟨(λ _ _=>[]),(λ _=>false),zJ9,q72 a0 a1 a2 K hk⟩
  · exact h.elim
abbrev T36:Tabs:=(Tabs.nil.addF 72 zBN)
theorem zMA:TabsOk Tryd.prog T36:=(TabsOk.nil.addF zNo)
abbrev G36:Ctrs:=csm T36 (λ _ _=>[]) (λ _=>false)
def zGD:Ann:=⟨51,[(0,zK [0,3] [3]),(1,zK [3,32] [3]),(2,zK [4] []),(3,zK [4] [])],
 [],
 [(2,zK [3,32] [3]),(3,zK [3] [3])],
 [],[]⟩
abbrev R36:=Bool
abbrev e36 (r:R36):List PA:=[.one (.bool r)]
@[irreducible] def z36:=ptF Tryd.prog G36 zGD Tryd.f36
section
variable {K:List PA->Prop}{nodes:Int}{t:Tie}{zBO:Bool}
def zqO (t:Tie):Bool :=
  (cond (t.Low == (-1000000000000:Int))
 (cond (t.High == (1000000000000:Int))
 true
 (s72 t.High (-1000000000:Int) (1000000000:Int)))
 (cond (s72 t.Low (-1000000000:Int) (1000000000:Int))
 (cond (t.High == (1000000000000:Int))
 true
 (s72 t.High (-1000000000:Int) (1000000000:Int)))
 false))
theorem zGE (hk:K (e36 (zqO t))):z36 K [1,1] [] ⟨[(3,zp 3 0)],[(3,.box 40 (zm (enc_40 t)))],[]⟩:=za0 (by kernel_rfl) (zt hk (λ hk=>(zt hk (λ hk=>hk) (λ hk=>hk))) (λ hk=>(zt hk (λ hk=>(zt hk (λ hk=>hk) (λ hk=>hk))) (λ hk=>hk))))
def ziJ (t:Tie) (zBO:Bool):Bool :=
  (cond zBO
 false
 (zqO t))
theorem znt (hk:K (e36 (ziJ t zBO))):z36 K [1,0,1] [] ⟨[(3,zp 3 0),(32,zB zBO)],[(3,.box 40 (zm (enc_40 t)))],[]⟩:=za0 (by kernel_rfl) (zt hk (λ hk=>hk) (λ hk=>(zGE hk)))
def s36 (nodes:Int) (t:Tie):Bool :=
  (cond (!(s72 t.From (0:Int) (w64 (nodes - (1:Int)))))
 (ziJ t true)
 (cond (!(s72 t.To (0:Int) (w64 (nodes - (1:Int)))))
 (ziJ t true)
 (cond (t.From == t.To)
 (ziJ t true)
 (ziJ t (decide (t.Low > t.High))))))
end
theorem q36 (nodes:Int) (t:Tie) (K:List PA->Prop) (hk:K (e36 (s36 nodes t))):vcFun Tryd.prog G36 zGD 36 [.one (.int .i64 nodes),.agg (enc_40 t)] K :=
  za0 (by kernel_rfl) (zt hk (λ hk=>(znt hk)) (λ hk=>(zt hk (λ hk=>(znt hk)) (λ hk=>(zt hk (λ hk=>(znt hk)) (λ hk=>(znt hk)))))))
def zGF : List PA → COut
  | [.one (.int .i64 a0),.agg [.int .i64 zeB,.int .i64 zlx,.int .i64 zgM,.int .i64 zeC]]=>.tot [.one (.bool (s36 a0 (⟨zeB,zlx,zgM,zeC⟩:Tie)))]
  | _=>.no
theorem zKb:zar Tryd.prog 36:=⟨_,rfl,rfl,by kernel_rfl⟩
theorem zOs:Ok Tryd.prog 36 zGF:=zbl zMA zKb λ args K h=>by
  unfold zGF at h
  split at h
  · rename_i a0 zeB zlx zgM zeC
    have hk:=h
    exact⟨(λ _ _=>[]),(λ _=>false),zGD,q36 a0 (⟨zeB,zlx,zgM,zeC⟩:Tie) K hk⟩
  · exact h.elim
abbrev T23:Tabs:=((Tabs.nil.addF 36 zGF).addF 72 zBN)
theorem zMB:TabsOk Tryd.prog T23:=((TabsOk.nil.addF zOs).addF zNo)
abbrev G23:Ctrs:=csm T23 (λ _ _=>[]) (λ _=>false)
def zGG:Ann:=⟨30,[(0,zK [1] [1]),(1,zK [1,13] [1]),(2,zK [2] []),(3,zK [1,3] [1]),(4,zK [1,3,18] [1]),(5,zK [1,3] [1]),(6,zK [1,3,29] [1]),(7,zK [2] []),(8,zK [2] [])],
 [(4,zK [1,3] [1])],
 [(2,zK [1,13] [1]),(3,zK [1] [1]),(7,zK [1,3,29] [1])],
 [],[]⟩
abbrev R23:=Bool
abbrev e23 (r:R23):List PA:=[.one (.bool r)]
@[irreducible] def z23:=ptF Tryd.prog G23 zGG Tryd.f23
def zDf (n:Net) (iv2:Int):St:=⟨[(1,zp 1 0),(3,zI iv2)],[(1,.box 24 (zm (enc_24 n)))],[]⟩
abbrev zGH (K:List PA->Prop) (n:Net) (X:St->Prop) (P:Int->Bool) (S:Int->Bool):Prop:=∀ ⦃iv2:Int⦄,P iv2=true->K (e23 (S iv2))->X (zDf n iv2)
section
variable {K:List PA->Prop}{n:Net}{zbN:Bool}{iv2:Int}{X2:St->Prop}{P2:Int->Bool}{S2:Int->Bool}{iv3:Int}{zqP:Bool}
def zqQ (S2:Int->Bool) (n:Net) (iv3:Int) (zqP:Bool):Bool :=
  (cond zqP
 false
 (S2 (w64 (iv3+(1:Int)))))
def zqR (P2:Int->Bool) (n:Net) (iv3:Int) (zqP:Bool):Bool :=
  (cond zqP
 true
 (P2 (w64 (iv3+(1:Int)))))
theorem zGI (hX2:zGH K n X2 P2 S2) (hs:zqR P2 n iv3 zqP=true) (hk:K (e23 (zqQ S2 n iv3 zqP))):z23 K [1,1,0,1,0,0,1,0,0,1] [X2] ⟨[(1,zp 1 0),(3,zI iv3),(29,zB zqP)],[(1,.box 24 (zm (enc_24 n)))],[]⟩:=za0 (by kernel_rfl) (zc hs hk (λ hs hk=>hk) (λ hs hk=>(hX2 hs hk)))
def ziK (n:Net) (S2:Int->Bool) (iv2:Int):Bool :=
  (cond (decide (iv2 < (n.Ties.len : Int)))
 (zqQ S2 n iv2 (!(s36 n.Nodes (n.Ties.get iv2.toNat))))
 true)
def ziL (n:Net) (P2:Int->Bool) (iv2:Int):Bool :=
  (cond (decide (iv2 < (n.Ties.len : Int)))
 (decide ((0<=iv2/\iv2 < (n.Ties.len:Int))) &&
 (zqR P2 n iv2 (!(s36 n.Nodes (n.Ties.get iv2.toNat)))))
 true)
def zg9 (n:Net):Nat->Int->Bool:=lpO (λ _=>default) (ziK n)
def ziM (n:Net):Nat->Int->Bool:=lpO (λ _=>false) (ziL n)
def zqS (n:Net) (iv2:Int):Bool:=zg9 n Fuel iv2
def zqT (n:Net) (iv2:Int):Bool:=ziM n Fuel iv2
theorem zGJ (hs:zqT n iv2=true) (hk:K (e23 (zqS n iv2))):z23 K [1,1,0,1,0] [] (zDf n iv2) :=
  zl (λ X=>z23 K [1,1,0,1,0,0] [X]) (by kernel_rfl) λ X2 hX =>
  (show ∀ k, zGH K n X2 (ziM n k) (zg9 n k) from zeu _ _ (ziL n) (ziK n) (zGH K n X2)
 (by intro _ hs;exact absurd hs dqk)
 (by intro P2 S2 hX2 iv2 hs hk;exact hX _ (za0 (by kernel_rfl) (zc hs hk (λ hs hk=>(zaN hs λ hc hs=>And.intro hc (zGI hX2 hs hk))) (λ hs hk=>hk))))) _ hs hk
def zqU (n:Net):Bool :=
  (zqS n (0:Int))
def zqV (n:Net):Bool :=
  (zqT n (0:Int))
theorem zGK (hs:zqV n=true) (hk:K (e23 (zqU n))):z23 K [1,1] [] ⟨[(1,zp 1 0)],[(1,.box 24 (zm (enc_24 n)))],[]⟩:=za0 (by kernel_rfl) (zGJ hs hk)
def znu (n:Net) (zbN:Bool):Bool :=
  (cond zbN
 false
 (zqU n))
def znv (n:Net) (zbN:Bool):Bool :=
  (cond zbN
 true
 (zqV n))
theorem zyZ (hs:znv n zbN=true) (hk:K (e23 (znu n zbN))):z23 K [1,0,1] [] ⟨[(1,zp 1 0),(13,zB zbN)],[(1,.box 24 (zm (enc_24 n)))],[]⟩:=za0 (by kernel_rfl) (zc hs hk (λ hs hk=>hk) (λ hs hk=>(zGK hs hk)))
def s23 (n:Net):Bool :=
  (cond (!(s72 n.Nodes (1:Int) (40:Int)))
 (znu n true)
 (znu n (decide ((n.Ties.len:Int) > (200:Int)))))
def p23 (n:Net):Bool :=
  (cond (!(s72 n.Nodes (1:Int) (40:Int)))
 (znv n true)
 (znv n (decide ((n.Ties.len:Int) > (200:Int)))))
end
theorem q23 (n:Net) (K:List PA->Prop) (hs:p23 n=true) (hk:K (e23 (s23 n))):vcFun Tryd.prog G23 zGG 23 [.agg (enc_24 n)] K :=
  za0 (by kernel_rfl) (zc hs hk (λ hs hk=>(zyZ hs hk)) (λ hs hk=>(zyZ hs hk)))
def zGL : List PA → COut
  | [.agg [.int .i64 zaj,.sl zad zaz zab]]=>.det (IsE enc_40 4 zaz zab/\p23 (⟨zaj,(⟨zad,zam zab⟩:(Sl Tie))⟩:Net)=true) [.one (.bool (s23 (⟨zaj,(⟨zad,zam zab⟩:(Sl Tie))⟩:Net)))]
  | _=>.no
theorem zKc:zar Tryd.prog 23:=⟨_,rfl,rfl,by kernel_rfl⟩
theorem zOt:Ok Tryd.prog 23 zGL:=zbl zMB zKc λ args K h=>by
  unfold zGL at h
  split at h
  · rename_i zaj zad zaz zab
    obtain⟨⟨⟨rfl,zat,rfl⟩,hs⟩,hk⟩:=h
    try rw[zan zat] at hs
    try rw[zan zat] at hk
    exact⟨(λ _ _=>[]),(λ _=>false),zGG,q23 (⟨zaj,(⟨zad,zat⟩:(Sl Tie))⟩:Net) K hs hk⟩
  · exact h.elim
abbrev T60:Tabs:=Tabs.nil
theorem zMC:TabsOk Tryd.prog T60:=TabsOk.nil
abbrev G60:Ctrs:=csm T60 (λ _ _=>[]) (λ _=>false)
def zGM:Ann:=⟨18,[(0,zK [0,1] []),(1,zK [0,1,5] []),(2,zK [0,1,5,9] []),(3,zK [0,1,5] []),(4,zK [0,1,5,17] []),(5,zK [4] []),(6,zK [4] [])],
 [(2,zK [0,1,5] [])],
 [],
 [],[]⟩
abbrev R60:=Bool
abbrev e60 (r:R60):List PA:=[.one (.bool r)]
@[irreducible] def z60:=ptF Tryd.prog G60 zGM Tryd.f60
def zDg (l_a0:(Sl Int)) (x:Int) (iv0:Int):St:=⟨[(0,zS zac 1 l_a0),(1,zI x),(5,zI iv0)],[],[]⟩
abbrev zKd (K:List PA->Prop) (l_a0:(Sl Int)) (x:Int) (X:St->Prop) (P:Int->Bool) (S:Int->Bool):Prop:=∀ ⦃iv0:Int⦄,P iv0=true->K (e60 (S iv0))->X (zDg l_a0 x iv0)
section
variable {K:List PA->Prop}{l_a0:(Sl Int)}{x:Int}{iv0:Int}{X0:St->Prop}{P0:Int->Bool}{S0:Int->Bool}
def ziN (l_a0:(Sl Int)) (x:Int) (S0:Int->Bool) (iv0:Int):Bool :=
  (cond (decide (iv0 < (l_a0.len : Int)))
 (cond ((l_a0.get iv0.toNat) == x)
 true
 (S0 (w64 (iv0+(1:Int)))))
 false)
def ziO (l_a0:(Sl Int)) (x:Int) (P0:Int->Bool) (iv0:Int):Bool :=
  (cond (decide (iv0 < (l_a0.len : Int)))
 (decide ((0<=iv0/\iv0 < (l_a0.len:Int))) &&
 (cond ((l_a0.get iv0.toNat) == x)
 true
 (P0 (w64 (iv0+(1:Int))))))
 true)
def ziP (l_a0:(Sl Int)) (x:Int):Nat->Int->Bool:=lpO (λ _=>default) (ziN l_a0 x)
def ziQ (l_a0:(Sl Int)) (x:Int):Nat->Int->Bool:=lpO (λ _=>false) (ziO l_a0 x)
def zy0 (l_a0:(Sl Int)) (x:Int) (iv0:Int):Bool:=ziP l_a0 x Fuel iv0
def zy1 (l_a0:(Sl Int)) (x:Int) (iv0:Int):Bool:=ziQ l_a0 x Fuel iv0
theorem zGN (hs:zy1 l_a0 x iv0=true) (hk:K (e60 (zy0 l_a0 x iv0))):z60 K [1,0,1,0] [] (zDg l_a0 x iv0) :=
  zl (λ X=>z60 K [1,0,1,0,0] [X]) (by kernel_rfl) λ X0 hX =>
  (show ∀ k, zKd K l_a0 x X0 (ziQ l_a0 x k) (ziP l_a0 x k) from zeu _ _ (ziO l_a0 x) (ziN l_a0 x) (zKd K l_a0 x X0)
 (by intro _ hs;exact absurd hs dqk)
 (by intro P0 S0 hX0 iv0 hs hk;exact hX _ (za0 (by kernel_rfl) (zc hs hk (λ hs hk=>(zaN hs λ hc hs=>And.intro hc (zc hs hk (λ hs hk=>hk) (λ hs hk=>(hX0 hs hk))))) (λ hs hk=>hk))))) _ hs hk
def s60 (l_a0:(Sl Int)) (x:Int):Bool :=
  (zy0 l_a0 x (0:Int))
def p60 (l_a0:(Sl Int)) (x:Int):Bool :=
  (zy1 l_a0 x (0:Int))
end
theorem q60 (l_a0:(Sl Int)) (x:Int) (K:List PA->Prop) (hs:p60 l_a0 x=true) (hk:K (e60 (s60 l_a0 x))):vcFun Tryd.prog G60 zGM 60 [.one (.sl l_a0.len 1 (λ i=>zac (l_a0.get i))),.one (.int .i64 x)] K :=
  za0 (by kernel_rfl) (zGN hs hk)
def zGO : List PA → COut
  | [.one (.sl zeR zkX zeS),.one (.int .i64 a1)]=>.det (IsE zac 1 zkX zeS/\p60 (⟨zeR,zaw zeS⟩:(Sl Int)) a1=true) [.one (.bool (s60 (⟨zeR,zaw zeS⟩:(Sl Int)) a1))]
  | _=>.no
theorem zKe:zar Tryd.prog 60:=⟨_,rfl,rfl,by kernel_rfl⟩
theorem zOu:Ok Tryd.prog 60 zGO:=zbl zMC zKe λ args K h=>by
  unfold zGO at h
  split at h
  · rename_i zeR zkX zeS a1
    obtain⟨⟨⟨rfl,zg2,rfl⟩,hs⟩,hk⟩:=h
    try rw[zbr zg2] at hs
    try rw[zbr zg2] at hk
    exact⟨(λ _ _=>[]),(λ _=>false),zGM,q60 (⟨zeR,zg2⟩:(Sl Int)) a1 K hs hk⟩
  · exact h.elim
theorem zyN {y:Net}{P:Net->Prop}(h:P y):P ⟨y.Nodes,⟨y.Ties.len,y.Ties.get⟩⟩:=h
abbrev T27:Tabs:=(Tabs.nil.addF 60 zGO)
theorem zMD:TabsOk Tryd.prog T27:=(TabsOk.nil.addF zOu)
abbrev G27:Ctrs:=csm T27 (λ _ _=>[]) (λ _=>false)
def zGP:Ann:=⟨32,[(0,zK [1,2,4] [2,4]),(1,zK [1,2,4,5] [2,4,5]),(2,zK [1,2,4,5,6] [2,4,5]),(3,zK [1,2,4,5,6,14] [2,4,5,29]),(4,zK [1,2,4,5,6] [2,4,5,29]),(5,zK [1,2,4,5,6,20] [2,4,5,29]),(6,zK [1,2,4,5,6] [2,4,5,29]),(7,zK [4] [4,29])],
 [(3,⟨[1,2,4,5,6],[2,4,5,29],[],[(5,1,29,40,λ _=>enc_40 default)],[],[],[]⟩)],
 [(6,zK [1,2,4,5,6,20] [2,4,5,29])],
 [],[]⟩
abbrev R27:=Net
abbrev e27 (r:R27):List PA:=[.agg [.int .i64 r.Nodes,.sl r.Ties.len 4 (λ i=>enc_40 (r.Ties.get i))]]
@[irreducible] def z27:=ptF Tryd.prog G27 zGP Tryd.f27
def zDh (n:Net) (l_a1:(Sl Int)) (iv0:Int) (zeD:(Sl Tie)) (zfZ:Nat->List PV):St:=⟨[(1,zS zac 1 l_a1),(2,zp 2 0),(4,zp 4 0),(5,zp 5 0),(6,zI iv0)],[(2,.box 24 (zm (enc_24 n))),(4,.box 24 [zi (0:Int),.p (.nils)]),(5,.box 24 [zi n.Nodes,.vec 29]),(29,.vec 40 4 32 zeD.len zfZ)],[]⟩
abbrev zGQ (K:List PA->Prop) (n:Net) (l_a1:(Sl Int)) (X:St->Prop) (P:Int->(Sl Tie)->Bool) (S:Int->(Sl Tie)->Net):Prop:=∀ ⦃iv0:Int⦄ ⦃zeD:(Sl Tie)⦄ ⦃zfZ:Nat->List PV⦄,P iv0 zeD=true->K (e27 (S iv0 zeD))->zfZ=zg enc_40 zeD->X (zDh n l_a1 iv0 zeD zfZ)
section
variable {K:List PA->Prop}{n:Net}{l_a1:(Sl Int)}{iv0:Int}{zeD:(Sl Tie)}{zfZ:Nat->List PV}{X0:St->Prop}{P0:Int->(Sl Tie)->Bool}{S0:Int->(Sl Tie)->Net}{iv1:Int}{zqW:Bool}{zf0:(Sl Tie)}{zy2:Nat->List PV}
def zqX (S0:Int->(Sl Tie)->Net) (n:Net) (l_a1:(Sl Int)) (iv1:Int) (zqW:Bool) (zf0:(Sl Tie)):Net :=
  (cond zqW
 (S0 (w64 (iv1+(1:Int))) (⟨(zf0.len+1),(zc2 zf0.len zf0.get (λ _=>(n.Ties.get iv1.toNat)))⟩:Sl Tie))
 (S0 (w64 (iv1+(1:Int))) zf0))
def zqY (P0:Int->(Sl Tie)->Bool) (n:Net) (l_a1:(Sl Int)) (iv1:Int) (zqW:Bool) (zf0:(Sl Tie)):Bool :=
  (cond zqW
 (decide ((0<=iv1/\iv1 < (n.Ties.len:Int))) &&
 (decide (((zf0.len+1) * 32<=140737488355328/\zf0.len+1<=9223372036854775807)) &&
 (P0 (w64 (iv1+(1:Int))) (⟨(zf0.len+1),(zc2 zf0.len zf0.get (λ _=>(n.Ties.get iv1.toNat)))⟩:Sl Tie))))
 (P0 (w64 (iv1+(1:Int))) zf0))
theorem zGR (hX0:zGQ K n l_a1 X0 P0 S0) (hs:zqY P0 n l_a1 iv1 zqW zf0=true) (hk:K (e27 (zqX S0 n l_a1 iv1 zqW zf0))) (zGS:zy2=zg enc_40 zf0):z27 K [1,1,0,1,0,0,1,0,0,1] [X0] ⟨[(1,zS zac 1 l_a1),(2,zp 2 0),(4,zp 4 0),(5,zp 5 0),(6,zI iv1),(20,zB zqW)],[(2,.box 24 (zm (enc_24 n))),(4,.box 24 [zi (0:Int),.p (.nils)]),(5,.box 24 [zi n.Nodes,.vec 29]),(29,.vec 40 4 32 zf0.len zy2)],[]⟩:=by subst zGS;exact za0 (by kernel_rfl) (zc hs hk (λ hs hk=>(zaN hs λ hc hs=>And.intro hc (zaN hs λ hc hs=>And.intro hc (hX0 hs hk (zgJ (enc:=enc_40) (f:=zf0.get) (h:=(λ _=>(n.Ties.get iv1.toNat))) rfl rfl))))) (λ hs hk=>(hX0 hs hk rfl)))
def ziR (n:Net) (l_a1:(Sl Int)) (S0:Int->(Sl Tie)->Net) (iv0:Int) (zeD:(Sl Tie)):Net :=
  (cond (decide (iv0 < (n.Ties.len : Int)))
 (zqX S0 n l_a1 iv0 (!(s60 l_a1 iv0)) zeD)
 (⟨n.Nodes,zeD⟩:Net))
def ziS (n:Net) (l_a1:(Sl Int)) (P0:Int->(Sl Tie)->Bool) (iv0:Int) (zeD:(Sl Tie)):Bool :=
  (cond (decide (iv0 < (n.Ties.len : Int)))
 (decide ((p60 l_a1 iv0=true)) &&
 (zqY P0 n l_a1 iv0 (!(s60 l_a1 iv0)) zeD))
 true)
def zha (n:Net) (l_a1:(Sl Int)):Nat->Int->(Sl Tie)->Net:=lpO (λ _ _=>default) (ziR n l_a1)
def zhb (n:Net) (l_a1:(Sl Int)):Nat->Int->(Sl Tie)->Bool:=lpO (λ _ _=>false) (ziS n l_a1)
def zy3 (n:Net) (l_a1:(Sl Int)) (iv0:Int) (zeD:(Sl Tie)):Net:=zha n l_a1 Fuel iv0 zeD
def zy4 (n:Net) (l_a1:(Sl Int)) (iv0:Int) (zeD:(Sl Tie)):Bool:=zhb n l_a1 Fuel iv0 zeD
theorem zGT (hs:zy4 n l_a1 iv0 zeD=true) (hk:K (e27 (zy3 n l_a1 iv0 zeD))) (zqZ:zfZ=zg enc_40 zeD):z27 K [1,1,0,1,0] [] (zDh n l_a1 iv0 zeD zfZ) :=
  zl (λ X=>z27 K [1,1,0,1,0,0] [X]) (by kernel_rfl) λ X0 hX =>
  (show ∀ k, zGQ K n l_a1 X0 (zhb n l_a1 k) (zha n l_a1 k) from zeu _ _ (ziS n l_a1) (ziR n l_a1) (zGQ K n l_a1 X0)
 (by intro _ _ _ hs;exact absurd hs dqk)
 (by intro P0 S0 hX0 iv0 zeD zfZ hs hk zqZ;subst zqZ;exact hX _ (za0 (by kernel_rfl) (zc hs hk (λ hs hk=>(zaN hs λ hc hs=>And.intro (And.intro (zE zac 1 l_a1.get) hc) (zGR hX0 hs hk rfl))) (λ hs hk=>hk))))) _ hs hk zqZ
def s27 (n:Net) (l_a1:(Sl Int)):Net :=
  (zy3 n l_a1 (0:Int) (⟨0,(λ _=>default)⟩:Sl Tie))
def p27 (n:Net) (l_a1:(Sl Int)):Bool :=
  (zy4 n l_a1 (0:Int) (⟨0,(λ _=>default)⟩:Sl Tie))
end
theorem q27 (n:Net) (l_a1:(Sl Int)) (K:List PA->Prop) (hs:p27 n l_a1=true) (hk:K (e27 (s27 n l_a1))):vcFun Tryd.prog G27 zGP 27 [.agg (enc_24 n),.one (.sl l_a1.len 1 (λ i=>zac (l_a1.get i)))] K :=
  za0 (by kernel_rfl) (zGT hs hk rfl)
def zGU : List PA → COut
  | [.agg [.int .i64 zaj,.sl zad zaz zab],.one (.sl zeT zlt zeQ)]=>.det (IsE enc_40 4 zaz zab/\IsE zac 1 zlt zeQ/\p27 (⟨zaj,(⟨zad,zam zab⟩:(Sl Tie))⟩:Net) (⟨zeT,zaw zeQ⟩:(Sl Int))=true) [.agg [.int .i64 ((s27 (⟨zaj,(⟨zad,zam zab⟩:(Sl Tie))⟩:Net) (⟨zeT,zaw zeQ⟩:(Sl Int))).Nodes),.sl ((s27 (⟨zaj,(⟨zad,zam zab⟩:(Sl Tie))⟩:Net) (⟨zeT,zaw zeQ⟩:(Sl Int))).Ties.len) 4 (λ i=>enc_40 ((s27 (⟨zaj,(⟨zad,zam zab⟩:(Sl Tie))⟩:Net) (⟨zeT,zaw zeQ⟩:(Sl Int))).Ties.get i))]]
  | _=>.no
theorem zKf:zar Tryd.prog 27:=⟨_,rfl,rfl,by kernel_rfl⟩
theorem zOv:Ok Tryd.prog 27 zGU:=zbl zMD zKf λ args K h=>by
  unfold zGU at h
  split at h
  · rename_i zaj zad zaz zab zeT zlt zeQ
    obtain⟨⟨⟨rfl,zat,rfl⟩,⟨rfl,zif,rfl⟩,hs⟩,hk⟩:=h
    try rw[zan zat] at hs
    try rw[zan zat] at hk
    try rw[zbr zif] at hs
    try rw[zbr zif] at hk
    exact⟨(λ _ _=>[]),(λ _=>false),zGP,q27 (⟨zaj,(⟨zad,zat⟩:(Sl Tie))⟩:Net) (⟨zeT,zif⟩:(Sl Int)) K hs hk⟩
  · exact h.elim
abbrev T77:Tabs:=Tabs.nil
theorem zME:TabsOk Tryd.prog T77:=TabsOk.nil
abbrev G77:Ctrs:=csm T77 (λ _ _=>[]) (λ _=>false)
def zGV:Ann:=⟨50,[(0,zK [1] [1]),(1,zK [1,3] [1]),(2,zK [1,3,4] [1]),(3,zK [1,3,4,10] [1,32]),(4,zK [1,3,4] [1,32]),(5,zK [1,3,4,5] [1,5,32]),(6,zK [1,3,4,5,20] [1,5,32]),(7,zK [1,3,4,5] [1,5,32]),(8,zK [1,3,4,5,35] [1,5,32]),(9,zK [1,3,4] [1,32]),(10,zK [2] [32])],
 [(3,⟨[1,3,4],[1,32],[(3,32,121,λ _=>zdt default)],[],[],[],[]⟩)],
 [(8,⟨[1,3,4,5],[1,5,32],[(3,32,121,λ _=>zdt default)],[],[],[],[]⟩)],
 [],[]⟩
abbrev R77:=(Sl Step)
abbrev e77 (r:R77):List PA:=[.one (.sl r.len 5 (λ i=>zdt (r.get i)))]
@[irreducible] def z77:=ptF Tryd.prog G77 zGV Tryd.f77
def zDi (n:Net) (iv0:Int) (zcP:(Sl Step)) (zf1:Nat->List PV):St:=⟨[(1,zp 1 0),(3,zv 32),(4,zI iv0)],[(1,.box 24 (zm (enc_24 n))),(32,.vec 121 5 40 zcP.len zf1)],[]⟩
abbrev zGW (K:List PA->Prop) (n:Net) (X:St->Prop) (P:Int->(Sl Step)->Bool) (S:Int->(Sl Step)->(Sl Step)):Prop:=∀ ⦃iv0:Int⦄ ⦃zcP:(Sl Step)⦄ ⦃zf1:Nat->List PV⦄,P iv0 zcP=true->K (e77 (S iv0 zcP))->zf1=zg zdt zcP->X (zDi n iv0 zcP zf1)
section
variable {K:List PA->Prop}{n:Net}{iv0:Int}{zcP:(Sl Step)}{zf1:Nat->List PV}{X0:St->Prop}{P0:Int->(Sl Step)->Bool}{S0:Int->(Sl Step)->(Sl Step)}{iv1:Int}{zoW:Int}{zoX:Int}{zlz:Int}{zy5:Int}{zf2:(Sl Step)}{zy6:Nat->List PV}
def znw (S0:Int->(Sl Step)->(Sl Step)) (n:Net) (iv1:Int) (zoW:Int) (zoX:Int) (zlz:Int) (zy5:Int) (zf2:(Sl Step)):(Sl Step) :=
  (cond (zlz != (-1000000000000:Int))
 (S0 (w64 (iv1+(1:Int))) (⟨(zf2.len+1),(zc2 zf2.len zf2.get (λ _=>(⟨zoX,zoW,(w64 (0 - zlz)),(⟨iv1,true⟩:Use)⟩:Step)))⟩:Sl Step))
 (S0 (w64 (iv1+(1:Int))) zf2))
def znx (P0:Int->(Sl Step)->Bool) (n:Net) (iv1:Int) (zoW:Int) (zoX:Int) (zlz:Int) (zy5:Int) (zf2:(Sl Step)):Bool :=
  (cond (zlz != (-1000000000000:Int))
 (decide (((zf2.len+1) * 40<=140737488355328/\zf2.len+1<=9223372036854775807)) &&
 (P0 (w64 (iv1+(1:Int))) (⟨(zf2.len+1),(zc2 zf2.len zf2.get (λ _=>(⟨zoX,zoW,(w64 (0 - zlz)),(⟨iv1,true⟩:Use)⟩:Step)))⟩:Sl Step)))
 (P0 (w64 (iv1+(1:Int))) zf2))
theorem zy7 (hX0:zGW K n X0 P0 S0) (hs:znx P0 n iv1 zoW zoX zlz zy5 zf2=true) (hk:K (e77 (znw S0 n iv1 zoW zoX zlz zy5 zf2))) (zGX:zy6=zg zdt zf2):z77 K [1,1,0,1,0,0,1,0,0,1,1] [X0] ⟨[(1,zp 1 0),(3,zv 32),(4,zI iv1),(5,zp 5 0)],[(1,.box 24 (zm (enc_24 n))),(5,.box 40 (zm (enc_40 (⟨zoW,zoX,zlz,zy5⟩:Tie)))),(32,.vec 121 5 40 zf2.len zy6)],[]⟩:=by subst zGX;exact za0 (by kernel_rfl) (zc hs hk (λ hs hk=>(zaN hs λ hc hs=>And.intro hc (hX0 hs hk (zgJ (enc:=zdt) (f:=zf2.get) (h:=(λ _=>(⟨zoX,zoW,(w64 (0 - zlz)),(⟨iv1,true⟩:Use)⟩:Step))) rfl rfl)))) (λ hs hk=>(hX0 hs hk rfl)))
def ziT (n:Net) (S0:Int->(Sl Step)->(Sl Step)) (iv0:Int) (zcP:(Sl Step)):(Sl Step) :=
  (cond (decide (iv0 < (n.Ties.len : Int)))
 (cond ((n.Ties.get iv0.toNat).High != (1000000000000:Int))
 (znw S0 n iv0 ((n.Ties.get iv0.toNat).From) ((n.Ties.get iv0.toNat).To) ((n.Ties.get iv0.toNat).Low) ((n.Ties.get iv0.toNat).High) (⟨(zcP.len+1),(zc2 zcP.len zcP.get (λ _=>(⟨(n.Ties.get iv0.toNat).From,(n.Ties.get iv0.toNat).To,(n.Ties.get iv0.toNat).High,(⟨iv0,false⟩:Use)⟩:Step)))⟩:Sl Step))
 (znw S0 n iv0 ((n.Ties.get iv0.toNat).From) ((n.Ties.get iv0.toNat).To) ((n.Ties.get iv0.toNat).Low) ((n.Ties.get iv0.toNat).High) zcP))
 zcP)
def ziU (n:Net) (P0:Int->(Sl Step)->Bool) (iv0:Int) (zcP:(Sl Step)):Bool :=
  (cond (decide (iv0 < (n.Ties.len : Int)))
 (decide ((0<=iv0/\iv0 < (n.Ties.len:Int))) &&
 (cond ((n.Ties.get iv0.toNat).High != (1000000000000:Int))
 (decide (((zcP.len+1) * 40<=140737488355328/\zcP.len+1<=9223372036854775807)) &&
 (znx P0 n iv0 ((n.Ties.get iv0.toNat).From) ((n.Ties.get iv0.toNat).To) ((n.Ties.get iv0.toNat).Low) ((n.Ties.get iv0.toNat).High) (⟨(zcP.len+1),(zc2 zcP.len zcP.get (λ _=>(⟨(n.Ties.get iv0.toNat).From,(n.Ties.get iv0.toNat).To,(n.Ties.get iv0.toNat).High,(⟨iv0,false⟩:Use)⟩:Step)))⟩:Sl Step)))
 (znx P0 n iv0 ((n.Ties.get iv0.toNat).From) ((n.Ties.get iv0.toNat).To) ((n.Ties.get iv0.toNat).Low) ((n.Ties.get iv0.toNat).High) zcP)))
 true)
def zdw (n:Net):Nat->Int->(Sl Step)->(Sl Step):=lpO (λ _ _=>default) (ziT n)
def zdx (n:Net):Nat->Int->(Sl Step)->Bool:=lpO (λ _ _=>false) (ziU n)
def zy8 (n:Net) (iv0:Int) (zcP:(Sl Step)):(Sl Step):=zdw n Fuel iv0 zcP
def zy9 (n:Net) (iv0:Int) (zcP:(Sl Step)):Bool:=zdx n Fuel iv0 zcP
theorem zGY (hs:zy9 n iv0 zcP=true) (hk:K (e77 (zy8 n iv0 zcP))) (zq0:zf1=zg zdt zcP):z77 K [1,1,0,1,0] [] (zDi n iv0 zcP zf1) :=
  zl (λ X=>z77 K [1,1,0,1,0,0] [X]) (by kernel_rfl) λ X0 hX =>
  (show ∀ k, zGW K n X0 (zdx n k) (zdw n k) from zeu _ _ (ziU n) (ziT n) (zGW K n X0)
 (by intro _ _ _ hs;exact absurd hs dqk)
 (by intro P0 S0 hX0 iv0 zcP zf1 hs hk zq0;subst zq0;exact hX _ (za0 (by kernel_rfl) (zc hs hk (λ hs hk=>(zaN hs λ hc hs=>And.intro hc (zc hs hk (λ hs hk=>(zaN hs λ hc hs=>And.intro hc (zy7 hX0 hs hk (zgJ (enc:=zdt) (f:=zcP.get) (h:=(λ _=>(⟨(n.Ties.get iv0.toNat).From,(n.Ties.get iv0.toNat).To,(n.Ties.get iv0.toNat).High,(⟨iv0,false⟩:Use)⟩:Step))) rfl rfl)))) (λ hs hk=>(zy7 hX0 hs hk rfl))))) (λ hs hk=>hk))))) _ hs hk zq0
def s77 (n:Net):(Sl Step) :=
  (zy8 n (0:Int) (⟨0,(λ _=>default)⟩:Sl Step))
def p77 (n:Net):Bool :=
  (zy9 n (0:Int) (⟨0,(λ _=>default)⟩:Sl Step))
end
theorem q77 (n:Net) (K:List PA->Prop) (hs:p77 n=true) (hk:K (e77 (s77 n))):vcFun Tryd.prog G77 zGV 77 [.agg (enc_24 n)] K :=
  za0 (by kernel_rfl) (zGY hs hk rfl)
def zGZ : List PA → COut
  | [.agg [.int .i64 zaj,.sl zad zaz zab]]=>.det (IsE enc_40 4 zaz zab/\p77 (⟨zaj,(⟨zad,zam zab⟩:(Sl Tie))⟩:Net)=true) [.one (.sl ((s77 (⟨zaj,(⟨zad,zam zab⟩:(Sl Tie))⟩:Net)).len) 5 (λ i=>zdt ((s77 (⟨zaj,(⟨zad,zam zab⟩:(Sl Tie))⟩:Net)).get i)))]
  | _=>.no
theorem zKg:zar Tryd.prog 77:=⟨_,rfl,rfl,by kernel_rfl⟩
theorem zOw:Ok Tryd.prog 77 zGZ:=zbl zME zKg λ args K h=>by
  unfold zGZ at h
  split at h
  · rename_i zaj zad zaz zab
    obtain⟨⟨⟨rfl,zat,rfl⟩,hs⟩,hk⟩:=h
    try rw[zan zat] at hs
    try rw[zan zat] at hk
    exact⟨(λ _ _=>[]),(λ _=>false),zGV,q77 (⟨zaj,(⟨zad,zat⟩:(Sl Tie))⟩:Net) K hs hk⟩
  · exact h.elim
abbrev T31:Tabs:=(Tabs.nil.addF 77 zGZ)
theorem zMF:TabsOk Tryd.prog T31:=(TabsOk.nil.addF zOw)
abbrev G31:Ctrs:=csm T31 (λ _ _=>[]) (λ _=>false)
def zG0:Ann:=⟨67,[(0,zK [1] [1]),(1,zK [1,3] [1]),(2,zK [1,3,4] [1,14]),(3,zK [1,3,4,5] [1,14]),(4,zK [1,3,4,5,6] [1,14]),(5,zK [1,3,4,5,6,21] [1]),(6,zK [1,3,4,5,6] [1,25]),(7,zK [1,3,4,5,6] [1]),(8,zK [1,3,4,5,6,7] [1,25]),(9,zK [1,3,4,5,6,7,8] [1,25]),(10,zK [1,3,4,5,6,7,8,29] [1,25]),(11,zK [1,3,4,5,6,7,8] [1,25]),(12,zK [1,3,4,5,6,7,8,9] [1,25]),(13,zK [1,3,4,5,6,7,8,9,55] [1,25]),(14,zK [1,3,4,5,6,7,8] [1,25]),(15,zK [1,3,4,5,6] [1,25]),(16,zK [2] [])],
 [(5,⟨[1,3,4,5,6],[1],[],[],[],[],[(4,1,λ _=>zac default)]⟩),(10,zK [1,3,4,5,6,7,8] [1,25])],
 [(2,zK [1,3] [1])],
 [],[]⟩
abbrev R31:=Bool
abbrev e31 (r:R31):List PA:=[.one (.bool r)]
@[irreducible] def z31:=ptF Tryd.prog G31 zG0 Tryd.f31
def zDj (n:Net) (lv0:(Sl Step)) (zcg:(Sl Int)) (zaG:Bool) (rv1:Int) (zep:Nat->List PV):St:=⟨[(1,zp 1 0),(3,zS zdt 5 lv0),(4,zP (.sl zcg.len 1 zep)),(5,zB zaG),(6,zI rv1)],[(1,.box 24 (zm (enc_24 n)))],[]⟩
abbrev zG1 (K:List PA->Prop) (n:Net) (lv0:(Sl Step)) (X:St->Prop) (P:(Sl Int)->Bool->Int->Bool) (S:(Sl Int)->Bool->Int->Bool):Prop:=∀ ⦃zcg:(Sl Int)⦄ ⦃zaG:Bool⦄ ⦃rv1:Int⦄ ⦃zep:Nat->List PV⦄,P zcg zaG rv1=true->K (e31 (S zcg zaG rv1))->zep=zg zac zcg->X (zDj n lv0 zcg zaG rv1 zep)
def zDk (n:Net) (lv0:(Sl Step)) (zbP:(Sl Int)) (zav:Bool) (rv2:Int) (iv2:Int) (zcz:(Sl Int)) (zeq:Nat->List PV) (zf3:Nat->List PV):St:=⟨[(1,zp 1 0),(3,zS zdt 5 lv0),(4,zP (.sl zbP.len 1 zeq)),(5,zB zav),(6,zI rv2),(7,zv 25),(8,zI iv2)],[(1,.box 24 (zm (enc_24 n))),(25,.vec 3 1 8 zcz.len zf3)],[]⟩
abbrev zKh (K:List PA->Prop) (n:Net) (lv0:(Sl Step)) (X:St->Prop) (P:(Sl Int)->Bool->Int->Int->(Sl Int)->Bool) (S:(Sl Int)->Bool->Int->Int->(Sl Int)->Bool):Prop:=∀ ⦃zbP:(Sl Int)⦄ ⦃zav:Bool⦄ ⦃rv2:Int⦄ ⦃iv2:Int⦄ ⦃zcz:(Sl Int)⦄ ⦃zeq:Nat->List PV⦄ ⦃zf3:Nat->List PV⦄,P zbP zav rv2 iv2 zcz=true->K (e31 (S zbP zav rv2 iv2 zcz))->zeq=zg zac zbP->zf3=zg zac zcz->X (zDk n lv0 zbP zav rv2 iv2 zcz zeq zf3)
section
variable {K:List PA->Prop}{n:Net}{lv0:(Sl Step)}{zKi:Nat->List PV}{zcg:(Sl Int)}{zaG:Bool}{rv1:Int}{zep:Nat->List PV}{X1:St->Prop}{P1:(Sl Int)->Bool->Int->Bool}{S1:(Sl Int)->Bool->Int->Bool}{zbP:(Sl Int)}{zav:Bool}{rv2:Int}{iv2:Int}{zcz:(Sl Int)}{zeq:Nat->List PV}{zf3:Nat->List PV}{X2:St->Prop}{P2:(Sl Int)->Bool->Int->Int->(Sl Int)->Bool}{S2:(Sl Int)->Bool->Int->Int->(Sl Int)->Bool}
def ziV (S1:(Sl Int)->Bool->Int->Bool) (n:Net) (lv0:(Sl Step)) (S2:(Sl Int)->Bool->Int->Int->(Sl Int)->Bool) (zbP:(Sl Int)) (zav:Bool) (rv2:Int) (iv2:Int) (zcz:(Sl Int)):Bool :=
  (cond (decide (iv2 < (lv0.len : Int)))
 (cond (decide ((w64 ((zbP.get (((lv0.get iv2.toNat).From).toNat)) + (lv0.get iv2.toNat).Length)) < (zcz.get (((lv0.get iv2.toNat).To).toNat))))
 (S2 zbP true rv2 (w64 (iv2+(1:Int))) (⟨zcz.len,(setT (((lv0.get iv2.toNat).To).toNat) (w64 ((zbP.get (((lv0.get iv2.toNat).From).toNat))+(lv0.get iv2.toNat).Length)) zcz.get)⟩:Sl Int))
 (S2 zbP zav rv2 (w64 (iv2+(1:Int))) zcz))
 (S1 zcz zav (w64 (rv2+(1:Int)))))
def ziW (P1:(Sl Int)->Bool->Int->Bool) (n:Net) (lv0:(Sl Step)) (P2:(Sl Int)->Bool->Int->Int->(Sl Int)->Bool) (zbP:(Sl Int)) (zav:Bool) (rv2:Int) (iv2:Int) (zcz:(Sl Int)):Bool :=
  (cond (decide (iv2 < (lv0.len : Int)))
 (decide ((0<=iv2/\iv2 < (lv0.len:Int))) &&
 (decide ((0<=(lv0.get iv2.toNat).From/\(lv0.get iv2.toNat).From < (zbP.len:Int))) &&
 (decide ((0<=iv2/\iv2 < (lv0.len:Int))) &&
 (decide ((0<=iv2/\iv2 < (lv0.len:Int))) &&
 (decide ((0<=(lv0.get iv2.toNat).To/\(lv0.get iv2.toNat).To < (zcz.len:Int))) &&
 (decide ((((lv0.get iv2.toNat).To).toNat < zcz.len)) &&
 (cond (decide ((w64 ((zbP.get (((lv0.get iv2.toNat).From).toNat)) + (lv0.get iv2.toNat).Length)) < (zcz.get (((lv0.get iv2.toNat).To).toNat))))
 (decide ((0<=iv2/\iv2 < (lv0.len:Int))) &&
 (decide ((0<=(lv0.get iv2.toNat).To/\(lv0.get iv2.toNat).To < (zcz.len:Int))) &&
 (decide ((((lv0.get iv2.toNat).To).toNat < zcz.len)) &&
 (P2 zbP true rv2 (w64 (iv2+(1:Int))) (⟨zcz.len,(setT (((lv0.get iv2.toNat).To).toNat) (w64 ((zbP.get (((lv0.get iv2.toNat).From).toNat))+(lv0.get iv2.toNat).Length)) zcz.get)⟩:Sl Int)))))
 (P2 zbP zav rv2 (w64 (iv2+(1:Int))) zcz))))))))
 (P1 zcz zav (w64 (rv2+(1:Int)))))
def zfj (S1:(Sl Int)->Bool->Int->Bool) (n:Net) (lv0:(Sl Step)):Nat->(Sl Int)->Bool->Int->Int->(Sl Int)->Bool:=lpO (λ _ _ _ _ _=>default) (ziV S1 n lv0)
def zfk (P1:(Sl Int)->Bool->Int->Bool) (n:Net) (lv0:(Sl Step)):Nat->(Sl Int)->Bool->Int->Int->(Sl Int)->Bool:=lpO (λ _ _ _ _ _=>false) (ziW P1 n lv0)
def zza (S1:(Sl Int)->Bool->Int->Bool) (n:Net) (lv0:(Sl Step)) (zbP:(Sl Int)) (zav:Bool) (rv2:Int) (iv2:Int) (zcz:(Sl Int)):Bool:=zfj S1 n lv0 Fuel zbP zav rv2 iv2 zcz
def zzb (P1:(Sl Int)->Bool->Int->Bool) (n:Net) (lv0:(Sl Step)) (zbP:(Sl Int)) (zav:Bool) (rv2:Int) (iv2:Int) (zcz:(Sl Int)):Bool:=zfk P1 n lv0 Fuel zbP zav rv2 iv2 zcz
theorem zG2 (hX1:zG1 K n lv0 X1 P1 S1) (hs:zzb P1 n lv0 zbP zav rv2 iv2 zcz=true) (hk:K (e31 (zza S1 n lv0 zbP zav rv2 iv2 zcz))) (zny:zeq=zg zac zbP) (zq1:zf3=zg zac zcz):z31 K [1,1,1,1,0,1,0,0,1,0,0,1,1,0,1,0] [X1] (zDk n lv0 zbP zav rv2 iv2 zcz zeq zf3) :=
  zl (λ X=>z31 K [1,1,1,1,0,1,0,0,1,0,0,1,1,0,1,0,0] [X1,X]) (by kernel_rfl) λ X2 hX =>
  (show ∀ k, zKh K n lv0 X2 (zfk P1 n lv0 k) (zfj S1 n lv0 k) from zeu _ _ (ziW P1 n lv0) (ziV S1 n lv0) (zKh K n lv0 X2)
 (by intro _ _ _ _ _ _ _ hs;exact absurd hs dqk)
 (by intro P2 S2 hX2 zbP zav rv2 iv2 zcz zeq zf3 hs hk zny zq1;subst zny;subst zq1;exact hX _ (za0 (by kernel_rfl) (zc hs hk (λ hs hk=>(zaN hs λ hc hs=>And.intro hc (zaN hs λ hc hs=>And.intro hc (zaN hs λ hc hs=>And.intro hc (zaN hs λ hc hs=>And.intro hc (zaN hs λ hc hs=>And.intro hc (zaN hs λ hc hs=>And.intro hc (zc hs hk (λ hs hk=>(zaN hs λ hc hs=>And.intro hc (zaN hs λ hc hs=>And.intro hc (zaN hs λ hc hs=>And.intro hc (hX2 hs hk rfl (zhD (enc:=zac) (i:=((lv0.get iv2.toNat).To).toNat) (k:=0) (f:=zcz.get) (new:=(zac (w64 ((zbP.get (((lv0.get iv2.toNat).From).toNat))+(lv0.get iv2.toNat).Length)))) (v:=(w64 ((zbP.get (((lv0.get iv2.toNat).From).toNat))+(lv0.get iv2.toNat).Length))) rfl rfl)))))) (λ hs hk=>(hX2 hs hk rfl rfl)))))))))) (λ hs hk=>(hX1 hs hk rfl)))))) _ hs hk zny zq1
def zf4 (n:Net) (lv0:(Sl Step)) (S1:(Sl Int)->Bool->Int->Bool) (zcg:(Sl Int)) (zaG:Bool) (rv1:Int):Bool :=
  (cond (decide (rv1 < n.Nodes))
 (cond zaG
 (zza S1 n lv0 zcg false rv1 (0:Int) zcg)
 (!zaG))
 (!zaG))
def zf5 (n:Net) (lv0:(Sl Step)) (P1:(Sl Int)->Bool->Int->Bool) (zcg:(Sl Int)) (zaG:Bool) (rv1:Int):Bool :=
  (cond (decide (rv1 < n.Nodes))
 (cond zaG
 (decide ((zcg.len * 8<=140737488355328/\zcg.len<=9223372036854775807)) &&
 (zzb P1 n lv0 zcg false rv1 (0:Int) zcg))
 true)
 true)
def zhc (n:Net) (lv0:(Sl Step)):Nat->(Sl Int)->Bool->Int->Bool:=lpO (λ _ _ _=>default) (zf4 n lv0)
def zhd (n:Net) (lv0:(Sl Step)):Nat->(Sl Int)->Bool->Int->Bool:=lpO (λ _ _ _=>false) (zf5 n lv0)
def zzc (n:Net) (lv0:(Sl Step)) (zcg:(Sl Int)) (zaG:Bool) (rv1:Int):Bool:=zhc n lv0 Fuel zcg zaG rv1
def zzd (n:Net) (lv0:(Sl Step)) (zcg:(Sl Int)) (zaG:Bool) (rv1:Int):Bool:=zhd n lv0 Fuel zcg zaG rv1
theorem zG3 (hs:zzd n lv0 zcg zaG rv1=true) (hk:K (e31 (zzc n lv0 zcg zaG rv1))) (znz:zep=zg zac zcg):z31 K [1,1,1,1,0,1,0] [] (zDj n lv0 zcg zaG rv1 zep) :=
  zl (λ X=>z31 K [1,1,1,1,0,1,0,0] [X]) (by kernel_rfl) λ X1 hX =>
  (show ∀ k, zG1 K n lv0 X1 (zhd n lv0 k) (zhc n lv0 k) from zeu _ _ (zf5 n lv0) (zf4 n lv0) (zG1 K n lv0 X1)
 (by intro _ _ _ _ hs;exact absurd hs dqk)
 (by intro P1 S1 hX1 zcg zaG rv1 zep hs hk znz;subst znz;exact hX _ (za0 (by kernel_rfl) (zc hs hk (λ hs hk=>(zc hs hk (λ hs hk=>(zaN hs λ hc hs=>And.intro hc (zG2 hX1 hs hk rfl rfl))) (λ hs hk=>hk))) (λ hs hk=>hk))))) _ hs hk znz
def zze (n:Net) (lv0:(Sl Step)):Bool :=
  (zzc n lv0 (⟨n.Nodes.toNat,(λ _=>(0:Int))⟩:Sl Int) true (0:Int))
def zq2 (n:Net) (lv0:(Sl Step)):Bool :=
  (decide ((0<=n.Nodes/\n.Nodes=n.Nodes/\n.Nodes<=1000000)) &&
 (zzd n lv0 (⟨n.Nodes.toNat,(λ _=>(0:Int))⟩:Sl Int) true (0:Int)))
theorem zG4 (hs:zq2 n lv0=true) (hk:K (e31 (zze n lv0))) (zMG:zKi=zg zdt lv0):z31 K [1,1] [] ⟨[(1,zp 1 0),(3,zP (.sl lv0.len 5 zKi))],[(1,.box 24 (zm (enc_24 n)))],[]⟩:=by subst zMG;exact za0 (by kernel_rfl) (zaN hs λ hc hs=>And.intro hc (zG3 hs hk rfl))
def s31 (n:Net):Bool :=
  (zze n (s77 n))
def p31 (n:Net):Bool :=
  (decide ((p77 n=true)) &&
 (zq2 n (s77 n)))
end
theorem q31 (n:Net) (K:List PA->Prop) (hs:p31 n=true) (hk:K (e31 (s31 n))):vcFun Tryd.prog G31 zG0 31 [.agg (enc_24 n)] K :=
  za0 (by kernel_rfl) (zaN hs λ hc hs=>And.intro (And.intro (zE enc_40 4 n.Ties.get) hc) (zG4 hs hk rfl))
def zG5 : List PA → COut
  | [.agg [.int .i64 zaj,.sl zad zaz zab]]=>.det (IsE enc_40 4 zaz zab/\p31 (⟨zaj,(⟨zad,zam zab⟩:(Sl Tie))⟩:Net)=true) [.one (.bool (s31 (⟨zaj,(⟨zad,zam zab⟩:(Sl Tie))⟩:Net)))]
  | _=>.no
theorem zKj:zar Tryd.prog 31:=⟨_,rfl,rfl,by kernel_rfl⟩
theorem zOx:Ok Tryd.prog 31 zG5:=zbl zMF zKj λ args K h=>by
  unfold zG5 at h
  split at h
  · rename_i zaj zad zaz zab
    obtain⟨⟨⟨rfl,zat,rfl⟩,hs⟩,hk⟩:=h
    try rw[zan zat] at hs
    try rw[zan zat] at hk
    exact⟨(λ _ _=>[]),(λ _=>false),zG0,q31 (⟨zaj,(⟨zad,zat⟩:(Sl Tie))⟩:Net) K hs hk⟩
  · exact h.elim
abbrev T73:Tabs:=Tabs.nil
theorem zMH:TabsOk Tryd.prog T73:=TabsOk.nil
abbrev G73:Ctrs:=csm T73 (λ _ _=>[]) (λ _=>false)
def zG6:Ann:=⟨53,[(0,zK [0,1] []),(1,zK [0,1,5] [11]),(2,zK [0,1,5,6] [11]),(3,zK [0,1,5,6,14] []),(4,zK [0,1,5,6] [50]),(5,zK [0,1,5,6,7] []),(6,zK [0,1,5,6,7,8] []),(7,zK [0,1,5,6,7,8,20] [50]),(8,zK [0,1,5,6,7,8] [50]),(9,zK [0,1,5,6,7,8,9] [50]),(10,zK [0,1,5,6,7,8,9,24] [50]),(11,zK [0,1,5,6,7,8,9] [50]),(12,zK [0,1,5,6,7,8,10] [50]),(13,zK [0,1,5,6,7,8,10,37] [50]),(14,zK [0,1,5,6,7,8,10] [50]),(15,zK [0,1,5,6,7,8,10] [50]),(16,zK [0,1,5,6] [50]),(17,zK [4] [])],
 [(3,⟨[0,1,5,6],[],[],[],[],[],[(5,1,λ _=>za6 default)]⟩),(7,⟨[0,1,5,6,7,8],[50],[(7,50,27,λ _=>za6 default)],[],[],[],[]⟩),(13,⟨[0,1,5,6,7,8,10],[50],[(7,50,27,λ _=>za6 default)],[],[],[],[]⟩)],
 [(12,zK [0,1,5,6,7,8,9] [50])],
 [],[]⟩
abbrev R73:=(Sl (Sl Int))
abbrev e73 (r:R73):List PA:=[.one (.sl r.len 1 (λ i=>za6 (r.get i)))]
@[irreducible] def z73:=ptF Tryd.prog G73 zG6 Tryd.f73
def zDl (n:Int) (many:Int) (outv0:(Sl (Sl Int))) (iv0:Int) (zf6:Nat->List PV):St:=⟨[(0,zI n),(1,zI many),(5,zP (.sl outv0.len 1 zf6)),(6,zI iv0)],[],[]⟩
abbrev zzf (K:List PA->Prop) (n:Int) (many:Int) (X:St->Prop) (P:(Sl (Sl Int))->Int->Bool) (S:(Sl (Sl Int))->Int->(Sl (Sl Int))):Prop:=∀ ⦃outv0:(Sl (Sl Int))⦄ ⦃iv0:Int⦄ ⦃zf6:Nat->List PV⦄,P outv0 iv0=true->K (e73 (S outv0 iv0))->zf6=zg za6 outv0->X (zDl n many outv0 iv0 zf6)
def zDm (n:Int) (many:Int) (zcY:(Sl (Sl Int))) (iv1:Int) (kv1:Int) (zdK:(Sl (Sl Int))) (zf7:Nat->List PV) (zf8:Nat->List PV):St:=⟨[(0,zI n),(1,zI many),(5,zP (.sl zcY.len 1 zf7)),(6,zI iv1),(7,zv 50),(8,zI kv1)],[(50,.vec 27 1 24 zdK.len zf8)],[]⟩
abbrev zBP (K:List PA->Prop) (n:Int) (many:Int) (X:St->Prop) (P:(Sl (Sl Int))->Int->Int->(Sl (Sl Int))->Bool) (S:(Sl (Sl Int))->Int->Int->(Sl (Sl Int))->(Sl (Sl Int))):Prop:=∀ ⦃zcY:(Sl (Sl Int))⦄ ⦃iv1:Int⦄ ⦃kv1:Int⦄ ⦃zdK:(Sl (Sl Int))⦄ ⦃zf7:Nat->List PV⦄ ⦃zf8:Nat->List PV⦄,P zcY iv1 kv1 zdK=true->K (e73 (S zcY iv1 kv1 zdK))->zf7=zg za6 zcY->zf8=zg za6 zdK->X (zDm n many zcY iv1 kv1 zdK zf7 zf8)
def zDn (n:Int) (many:Int) (zbZ:(Sl (Sl Int))) (iv3:Int) (kv3:Int) (xv3:Int) (zcT:(Sl (Sl Int))) (zf9:Nat->List PV) (zga:Nat->List PV):St:=⟨[(0,zI n),(1,zI many),(5,zP (.sl zbZ.len 1 zf9)),(6,zI iv3),(7,zv 50),(8,zI kv3),(10,zI xv3)],[(50,.vec 27 1 24 zcT.len zga)],[]⟩
abbrev zKk (K:List PA->Prop) (n:Int) (many:Int) (X:St->Prop) (P:(Sl (Sl Int))->Int->Int->Int->(Sl (Sl Int))->Bool) (S:(Sl (Sl Int))->Int->Int->Int->(Sl (Sl Int))->(Sl (Sl Int))):Prop:=∀ ⦃zbZ:(Sl (Sl Int))⦄ ⦃iv3:Int⦄ ⦃kv3:Int⦄ ⦃xv3:Int⦄ ⦃zcT:(Sl (Sl Int))⦄ ⦃zf9:Nat->List PV⦄ ⦃zga:Nat->List PV⦄,P zbZ iv3 kv3 xv3 zcT=true->K (e73 (S zbZ iv3 kv3 xv3 zcT))->zf9=zg za6 zbZ->zga=zg za6 zcT->X (zDn n many zbZ iv3 kv3 xv3 zcT zf9 zga)
section
variable {K:List PA->Prop}{n:Int}{many:Int}{outv0:(Sl (Sl Int))}{iv0:Int}{zf6:Nat->List PV}{X0:St->Prop}{P0:(Sl (Sl Int))->Int->Bool}{S0:(Sl (Sl Int))->Int->(Sl (Sl Int))}{zcY:(Sl (Sl Int))}{iv1:Int}{kv1:Int}{zdK:(Sl (Sl Int))}{zf7:Nat->List PV}{zf8:Nat->List PV}{X1:St->Prop}{P1:(Sl (Sl Int))->Int->Int->(Sl (Sl Int))->Bool}{S1:(Sl (Sl Int))->Int->Int->(Sl (Sl Int))->(Sl (Sl Int))}{zoY:(Sl (Sl Int))}{iv2:Int}{kv2:Int}{zld:Int}{zoZ:(Sl (Sl Int))}{zzg:Nat->List PV}{zzh:Nat->List PV}{zbZ:(Sl (Sl Int))}{iv3:Int}{kv3:Int}{xv3:Int}{zcT:(Sl (Sl Int))}{zf9:Nat->List PV}{zga:Nat->List PV}{X3:St->Prop}{P3:(Sl (Sl Int))->Int->Int->Int->(Sl (Sl Int))->Bool}{S3:(Sl (Sl Int))->Int->Int->Int->(Sl (Sl Int))->(Sl (Sl Int))}
def ziX (S0:(Sl (Sl Int))->Int->(Sl (Sl Int))) (S1:(Sl (Sl Int))->Int->Int->(Sl (Sl Int))->(Sl (Sl Int))) (n:Int) (many:Int) (S3:(Sl (Sl Int))->Int->Int->Int->(Sl (Sl Int))->(Sl (Sl Int))) (zbZ:(Sl (Sl Int))) (iv3:Int) (kv3:Int) (xv3:Int) (zcT:(Sl (Sl Int))):(Sl (Sl Int)) :=
  (cond (decide (xv3 < n))
 (S3 zbZ iv3 kv3 (w64 (xv3+(1:Int))) (⟨(zcT.len+1),(zc2 zcT.len zcT.get (λ _=>(⟨((zbZ.get kv3.toNat).len+1),(zc2 ((zbZ.get kv3.toNat).len) (zbZ.get kv3.toNat).get (λ _=>xv3))⟩:(Sl Int))))⟩:Sl (Sl Int)))
 (S1 zbZ iv3 (w64 (kv3+(1:Int))) zcT))
def ziY (P0:(Sl (Sl Int))->Int->Bool) (P1:(Sl (Sl Int))->Int->Int->(Sl (Sl Int))->Bool) (n:Int) (many:Int) (P3:(Sl (Sl Int))->Int->Int->Int->(Sl (Sl Int))->Bool) (zbZ:(Sl (Sl Int))) (iv3:Int) (kv3:Int) (xv3:Int) (zcT:(Sl (Sl Int))):Bool :=
  (cond (decide (xv3 < n))
 (decide ((0<=kv3/\kv3 < (zbZ.len:Int))) &&
 (decide (((zbZ.get kv3.toNat).len * 8<=140737488355328/\(zbZ.get kv3.toNat).len<=9223372036854775807)) &&
 (decide ((((zbZ.get kv3.toNat).len+1) * 8<=140737488355328/\(zbZ.get kv3.toNat).len+1<=9223372036854775807)) &&
 (decide (((zcT.len+1) * 24<=140737488355328/\zcT.len+1<=9223372036854775807)) &&
 (P3 zbZ iv3 kv3 (w64 (xv3+(1:Int))) (⟨(zcT.len+1),(zc2 zcT.len zcT.get (λ _=>(⟨((zbZ.get kv3.toNat).len+1),(zc2 ((zbZ.get kv3.toNat).len) (zbZ.get kv3.toNat).get (λ _=>xv3))⟩:(Sl Int))))⟩:Sl (Sl Int)))))))
 (P1 zbZ iv3 (w64 (kv3+(1:Int))) zcT))
def znA (S0:(Sl (Sl Int))->Int->(Sl (Sl Int))) (S1:(Sl (Sl Int))->Int->Int->(Sl (Sl Int))->(Sl (Sl Int))) (n:Int) (many:Int):Nat->(Sl (Sl Int))->Int->Int->Int->(Sl (Sl Int))->(Sl (Sl Int)):=lpO (λ _ _ _ _ _=>default) (ziX S0 S1 n many)
def znB (P0:(Sl (Sl Int))->Int->Bool) (P1:(Sl (Sl Int))->Int->Int->(Sl (Sl Int))->Bool) (n:Int) (many:Int):Nat->(Sl (Sl Int))->Int->Int->Int->(Sl (Sl Int))->Bool:=lpO (λ _ _ _ _ _=>false) (ziY P0 P1 n many)
def zq3 (S0:(Sl (Sl Int))->Int->(Sl (Sl Int))) (S1:(Sl (Sl Int))->Int->Int->(Sl (Sl Int))->(Sl (Sl Int))) (n:Int) (many:Int) (zbZ:(Sl (Sl Int))) (iv3:Int) (kv3:Int) (xv3:Int) (zcT:(Sl (Sl Int))):(Sl (Sl Int)):=znA S0 S1 n many Fuel zbZ iv3 kv3 xv3 zcT
def zq4 (P0:(Sl (Sl Int))->Int->Bool) (P1:(Sl (Sl Int))->Int->Int->(Sl (Sl Int))->Bool) (n:Int) (many:Int) (zbZ:(Sl (Sl Int))) (iv3:Int) (kv3:Int) (xv3:Int) (zcT:(Sl (Sl Int))):Bool:=znB P0 P1 n many Fuel zbZ iv3 kv3 xv3 zcT
theorem zG7 (hX0:zzf K n many X0 P0 S0) (hX1:zBP K n many X1 P1 S1) (hs:zq4 P0 P1 n many zbZ iv3 kv3 xv3 zcT=true) (hk:K (e73 (zq3 S0 S1 n many zbZ iv3 kv3 xv3 zcT))) (zq5:zf9=zg za6 zbZ) (zq6:zga=zg za6 zcT):z73 K [1,1,0,1,0,0,1,0,0,1,0,1,0,0,1,0,0,1,1,1,0] [X0,X1] (zDn n many zbZ iv3 kv3 xv3 zcT zf9 zga) :=
  zl (λ X=>z73 K [1,1,0,1,0,0,1,0,0,1,0,1,0,0,1,0,0,1,1,1,0,0] [X0,X1,X]) (by kernel_rfl) λ X3 hX =>
  (show ∀ k, zKk K n many X3 (znB P0 P1 n many k) (znA S0 S1 n many k) from zeu _ _ (ziY P0 P1 n many) (ziX S0 S1 n many) (zKk K n many X3)
 (by intro _ _ _ _ _ _ _ hs;exact absurd hs dqk)
 (by intro P3 S3 hX3 zbZ iv3 kv3 xv3 zcT zf9 zga hs hk zq5 zq6;subst zq5;subst zq6;exact hX _ (za0 (by kernel_rfl) (zc hs hk (λ hs hk=>(zaN hs λ hc hs=>And.intro hc (zaN hs λ hc hs=>And.intro hc (zaN hs λ hc hs=>And.intro hc (zaN hs λ hc hs=>And.intro hc (hX3 hs hk rfl (zgJ (enc:=za6) (f:=zcT.get) (h:=(λ _=>(⟨((zbZ.get kv3.toNat).len+1),(zc2 ((zbZ.get kv3.toNat).len) (zbZ.get kv3.toNat).get (λ _=>xv3))⟩:(Sl Int)))) rfl (zNx (enc:=zac) (n:=((zbZ.get kv3.toNat).len+1)) (s:=1) (t:=(zc2 ((zbZ.get kv3.toNat).len) (zbZ.get kv3.toNat).get (λ _=>xv3))) (zgJ (enc:=zac) (f:=(zbZ.get kv3.toNat).get) (h:=(λ _=>xv3)) rfl rfl))))))))) (λ hs hk=>(hX1 hs hk rfl rfl)))))) _ hs hk zq5 zq6
def znC (S0:(Sl (Sl Int))->Int->(Sl (Sl Int))) (S1:(Sl (Sl Int))->Int->Int->(Sl (Sl Int))->(Sl (Sl Int))) (n:Int) (many:Int) (zoY:(Sl (Sl Int))) (iv2:Int) (kv2:Int) (zld:Int) (zoZ:(Sl (Sl Int))):(Sl (Sl Int)) :=
  (zq3 S0 S1 n many zoY iv2 kv2 zld zoZ)
def znD (P0:(Sl (Sl Int))->Int->Bool) (P1:(Sl (Sl Int))->Int->Int->(Sl (Sl Int))->Bool) (n:Int) (many:Int) (zoY:(Sl (Sl Int))) (iv2:Int) (kv2:Int) (zld:Int) (zoZ:(Sl (Sl Int))):Bool :=
  (zq4 P0 P1 n many zoY iv2 kv2 zld zoZ)
theorem zzi (hX0:zzf K n many X0 P0 S0) (hX1:zBP K n many X1 P1 S1) (hs:znD P0 P1 n many zoY iv2 kv2 zld zoZ=true) (hk:K (e73 (znC S0 S1 n many zoY iv2 kv2 zld zoZ))) (zG8:zzg=zg za6 zoY) (zG9:zzh=zg za6 zoZ):z73 K [1,1,0,1,0,0,1,0,0,1,0,1,0,0,1,0,0,1,1] [X0,X1] ⟨[(0,zI n),(1,zI many),(5,zP (.sl zoY.len 1 zzg)),(6,zI iv2),(7,zv 50),(8,zI kv2),(9,zI zld)],[(50,.vec 27 1 24 zoZ.len zzh)],[]⟩:=by subst zG8;subst zG9;exact za0 (by kernel_rfl) (zG7 hX0 hX1 hs hk rfl rfl)
def ziZ (S0:(Sl (Sl Int))->Int->(Sl (Sl Int))) (n:Int) (many:Int) (S1:(Sl (Sl Int))->Int->Int->(Sl (Sl Int))->(Sl (Sl Int))) (zcY:(Sl (Sl Int))) (iv1:Int) (kv1:Int) (zdK:(Sl (Sl Int))):(Sl (Sl Int)) :=
  (cond (decide (kv1 < (zcY.len : Int)))
 (cond (decide (iv1 > (0:Int)))
 (znC S0 S1 n many zcY iv1 kv1 (w64 (((zcY.get kv1.toNat).get ((w64 (iv1 - (1:Int))).toNat))+(1:Int))) zdK)
 (znC S0 S1 n many zcY iv1 kv1 (0:Int) zdK))
 (S0 zdK (w64 (iv1+(1:Int)))))
def zi0 (P0:(Sl (Sl Int))->Int->Bool) (n:Int) (many:Int) (P1:(Sl (Sl Int))->Int->Int->(Sl (Sl Int))->Bool) (zcY:(Sl (Sl Int))) (iv1:Int) (kv1:Int) (zdK:(Sl (Sl Int))):Bool :=
  (cond (decide (kv1 < (zcY.len : Int)))
 (cond (decide (iv1 > (0:Int)))
 (decide ((0<=kv1/\kv1 < (zcY.len:Int))) &&
 (decide ((0<=(w64 (iv1 - (1:Int)))/\(w64 (iv1 - (1:Int))) < ((zcY.get kv1.toNat).len:Int))) &&
 (znD P0 P1 n many zcY iv1 kv1 (w64 (((zcY.get kv1.toNat).get ((w64 (iv1 - (1:Int))).toNat))+(1:Int))) zdK)))
 (znD P0 P1 n many zcY iv1 kv1 (0:Int) zdK))
 (P0 zdK (w64 (iv1+(1:Int)))))
def zi1 (S0:(Sl (Sl Int))->Int->(Sl (Sl Int))) (n:Int) (many:Int):Nat->(Sl (Sl Int))->Int->Int->(Sl (Sl Int))->(Sl (Sl Int)):=lpO (λ _ _ _ _=>default) (ziZ S0 n many)
def zi2 (P0:(Sl (Sl Int))->Int->Bool) (n:Int) (many:Int):Nat->(Sl (Sl Int))->Int->Int->(Sl (Sl Int))->Bool:=lpO (λ _ _ _ _=>false) (zi0 P0 n many)
def zq7 (S0:(Sl (Sl Int))->Int->(Sl (Sl Int))) (n:Int) (many:Int) (zcY:(Sl (Sl Int))) (iv1:Int) (kv1:Int) (zdK:(Sl (Sl Int))):(Sl (Sl Int)):=zi1 S0 n many Fuel zcY iv1 kv1 zdK
def zq8 (P0:(Sl (Sl Int))->Int->Bool) (n:Int) (many:Int) (zcY:(Sl (Sl Int))) (iv1:Int) (kv1:Int) (zdK:(Sl (Sl Int))):Bool:=zi2 P0 n many Fuel zcY iv1 kv1 zdK
theorem zHa (hX0:zzf K n many X0 P0 S0) (hs:zq8 P0 n many zcY iv1 kv1 zdK=true) (hk:K (e73 (zq7 S0 n many zcY iv1 kv1 zdK))) (zq9:zf7=zg za6 zcY) (zra:zf8=zg za6 zdK):z73 K [1,1,0,1,0,0,1,0,0,1,0,1,0] [X0] (zDm n many zcY iv1 kv1 zdK zf7 zf8) :=
  zl (λ X=>z73 K [1,1,0,1,0,0,1,0,0,1,0,1,0,0] [X0,X]) (by kernel_rfl) λ X1 hX =>
  (show ∀ k, zBP K n many X1 (zi2 P0 n many k) (zi1 S0 n many k) from zeu _ _ (zi0 P0 n many) (ziZ S0 n many) (zBP K n many X1)
 (by intro _ _ _ _ _ _ hs;exact absurd hs dqk)
 (by intro P1 S1 hX1 zcY iv1 kv1 zdK zf7 zf8 hs hk zq9 zra;subst zq9;subst zra;exact hX _ (za0 (by kernel_rfl) (zc hs hk (λ hs hk=>(zc hs hk (λ hs hk=>(zaN hs λ hc hs=>And.intro hc (zaN hs λ hc hs=>And.intro hc (zzi hX0 hX1 hs hk rfl rfl)))) (λ hs hk=>(zzi hX0 hX1 hs hk rfl rfl)))) (λ hs hk=>(hX0 hs hk rfl)))))) _ hs hk zq9 zra
def zi3 (n:Int) (many:Int) (S0:(Sl (Sl Int))->Int->(Sl (Sl Int))) (outv0:(Sl (Sl Int))) (iv0:Int):(Sl (Sl Int)) :=
  (cond (decide (iv0 < many))
 (zq7 S0 n many outv0 iv0 (0:Int) (⟨0,(λ _=>default)⟩:Sl (Sl Int)))
 outv0)
def zi4 (n:Int) (many:Int) (P0:(Sl (Sl Int))->Int->Bool) (outv0:(Sl (Sl Int))) (iv0:Int):Bool :=
  (cond (decide (iv0 < many))
 (zq8 P0 n many outv0 iv0 (0:Int) (⟨0,(λ _=>default)⟩:Sl (Sl Int)))
 true)
def zi5 (n:Int) (many:Int):Nat->(Sl (Sl Int))->Int->(Sl (Sl Int)):=lpO (λ _ _=>default) (zi3 n many)
def zi6 (n:Int) (many:Int):Nat->(Sl (Sl Int))->Int->Bool:=lpO (λ _ _=>false) (zi4 n many)
def zzj (n:Int) (many:Int) (outv0:(Sl (Sl Int))) (iv0:Int):(Sl (Sl Int)):=zi5 n many Fuel outv0 iv0
def zzk (n:Int) (many:Int) (outv0:(Sl (Sl Int))) (iv0:Int):Bool:=zi6 n many Fuel outv0 iv0
theorem zHb (hs:zzk n many outv0 iv0=true) (hk:K (e73 (zzj n many outv0 iv0))) (zrb:zf6=zg za6 outv0):z73 K [1,1,0,1,0] [] (zDl n many outv0 iv0 zf6) :=
  zl (λ X=>z73 K [1,1,0,1,0,0] [X]) (by kernel_rfl) λ X0 hX =>
  (show ∀ k, zzf K n many X0 (zi6 n many k) (zi5 n many k) from zeu _ _ (zi4 n many) (zi3 n many) (zzf K n many X0)
 (by intro _ _ _ hs;exact absurd hs dqk)
 (by intro P0 S0 hX0 outv0 iv0 zf6 hs hk zrb;subst zrb;exact hX _ (za0 (by kernel_rfl) (zc hs hk (λ hs hk=>(zHa hX0 hs hk rfl rfl)) (λ hs hk=>hk))))) _ hs hk zrb
def s73 (n:Int) (many:Int):(Sl (Sl Int)) :=
  (zzj n many (⟨1,(λ _=>(⟨0,(λ _=>default)⟩:(Sl Int)))⟩:Sl (Sl Int)) (0:Int))
def p73 (n:Int) (many:Int):Bool :=
  (zzk n many (⟨1,(λ _=>(⟨0,(λ _=>default)⟩:(Sl Int)))⟩:Sl (Sl Int)) (0:Int))
end
theorem q73 (n:Int) (many:Int) (K:List PA->Prop) (hs:p73 n many=true) (hk:K (e73 (s73 n many))):vcFun Tryd.prog G73 zG6 73 [.one (.int .i64 n),.one (.int .i64 many)] K :=
  za0 (by kernel_rfl) (zHb hs hk rfl)
def zHc : List PA → COut
  | [.one (.int .i64 a0),.one (.int .i64 a1)]=>.det (p73 a0 a1=true) [.one (.sl ((s73 a0 a1).len) 1 (λ i=>za6 ((s73 a0 a1).get i)))]
  | _=>.no
theorem zKl:zar Tryd.prog 73:=⟨_,rfl,rfl,by kernel_rfl⟩
theorem zOy:Ok Tryd.prog 73 zHc:=zbl zMH zKl λ args K h=>by
  unfold zHc at h
  split at h
  · rename_i a0 a1
    obtain⟨hs,hk⟩:=h
    exact⟨(λ _ _=>[]),(λ _=>false),zG6,q73 a0 a1 K hs hk⟩
  · exact h.elim
abbrev T24:Tabs:=(((Tabs.nil.addF 27 zGU).addF 31 zG5).addF 73 zHc)
theorem zMI:TabsOk Tryd.prog T24:=(((TabsOk.nil.addF zOv).addF zOx).addF zOy)
abbrev G24:Ctrs:=csm T24 (λ _ _=>[]) (λ _=>false)
def zHd:Ann:=⟨33,[(0,zK [1] [1]),(1,zK [1,4] [1]),(2,zK [1,4,8] [1]),(3,zK [1,4] [1]),(4,zK [1,4,5] [1]),(5,zK [1,4,5,6] [1]),(6,zK [1,4,5,6,19] [1]),(7,zK [1,4,5,6] [1]),(8,zK [1,4,5,6,28] [1]),(9,zK [2,3] []),(10,zK [2,3] [])],
 [(2,zK [1,4] [1]),(6,zK [1,4,5,6] [1])],
 [(5,zK [1,4,5] [1]),(9,zK [1,4,5,6,28] [1])],
 [],[]⟩
abbrev R24:=((Sl Int)×Bool)
abbrev e24 (r:R24):List PA:=[.one (.sl r.1.len 1 (λ i=>zac (r.1.get i))),.one (.bool r.2)]
@[irreducible] def z24:=ptF Tryd.prog G24 zHd Tryd.f24
def zDo (n:Net) (zcq:Int):St:=⟨[(1,zp 1 0),(4,zI zcq)],[(1,.box 24 (zm (enc_24 n)))],[]⟩
abbrev zzl (K:List PA->Prop) (n:Net) (X:St->Prop) (P:Int->Bool) (S:Int->((Sl Int)×Bool)):Prop:=∀ ⦃zcq:Int⦄,P zcq=true->K (e24 (S zcq))->X (zDo n zcq)
def zDp (n:Net) (lv1:(Sl (Sl Int))) (zcE:Int) (iv2:Int):St:=⟨[(1,zp 1 0),(4,zI zcE),(5,zS za6 1 lv1),(6,zI iv2)],[(1,.box 24 (zm (enc_24 n)))],[]⟩
abbrev zHe (K:List PA->Prop) (n:Net) (lv1:(Sl (Sl Int))) (X:St->Prop) (P:Int->Int->Bool) (S:Int->Int->((Sl Int)×Bool)):Prop:=∀ ⦃zcE:Int⦄ ⦃iv2:Int⦄,P zcE iv2=true->K (e24 (S zcE iv2))->X (zDp n lv1 zcE iv2)
section
variable {K:List PA->Prop}{n:Net}{zcq:Int}{X0:St->Prop}{P0:Int->Bool}{S0:Int->((Sl Int)×Bool)}{zle:Int}{lv1:(Sl (Sl Int))}{zKm:Nat->List PV}{zcE:Int}{iv2:Int}{X2:St->Prop}{P2:Int->Int->Bool}{S2:Int->Int->((Sl Int)×Bool)}{zlf:Int}{iv3:Int}{zrd:Bool}
def zre (S0:Int->((Sl Int)×Bool)) (S2:Int->Int->((Sl Int)×Bool)) (n:Net) (lv1:(Sl (Sl Int))) (zlf:Int) (iv3:Int) (zrd:Bool):((Sl Int)×Bool) :=
  (cond zrd
 ((lv1.get iv3.toNat),true)
 (S2 zlf (w64 (iv3+(1:Int)))))
def zrf (P0:Int->Bool) (P2:Int->Int->Bool) (n:Net) (lv1:(Sl (Sl Int))) (zlf:Int) (iv3:Int) (zrd:Bool):Bool :=
  (cond zrd
 (decide ((0<=iv3/\iv3 < (lv1.len:Int))) &&
 true)
 (P2 zlf (w64 (iv3+(1:Int)))))
theorem zHf (hX0:zzl K n X0 P0 S0) (hX2:zHe K n lv1 X2 P2 S2) (hs:zrf P0 P2 n lv1 zlf iv3 zrd=true) (hk:K (e24 (zre S0 S2 n lv1 zlf iv3 zrd))):z24 (Wk K) [1,0,1,0,0,1,0,0,1,1,0,0,1,0,0,1] [X0,X2] ⟨[(1,zp 1 0),(4,zI zlf),(5,zS za6 1 lv1),(6,zI iv3),(28,zB zrd)],[(1,.box 24 (zm (enc_24 n)))],[]⟩:=za0 (by kernel_rfl) (zc hs hk (λ hs hk=>(zaN hs λ hc hs=>And.intro hc ((zfH hk):Wk K [.one (.sl ((lv1.get iv3.toNat).len) 1 (λ i=>zac ((lv1.get iv3.toNat).get i))),.one (.bool true)]))) (λ hs hk=>(hX2 hs hk)))
def zgb (S0:Int->((Sl Int)×Bool)) (n:Net) (lv1:(Sl (Sl Int))) (S2:Int->Int->((Sl Int)×Bool)) (zcE:Int) (iv2:Int):((Sl Int)×Bool) :=
  (cond (decide (iv2 < (lv1.len : Int)))
 (zre S0 S2 n lv1 zcE iv2 (s31 (s27 n (lv1.get iv2.toNat))))
 (S0 (w64 (zcE+(1:Int)))))
def zhe (P0:Int->Bool) (n:Net) (lv1:(Sl (Sl Int))) (P2:Int->Int->Bool) (zcE:Int) (iv2:Int):Bool :=
  (cond (decide (iv2 < (lv1.len : Int)))
 (decide ((0<=iv2/\iv2 < (lv1.len:Int))) &&
 (decide ((p27 n (lv1.get iv2.toNat)=true)) &&
 (decide ((p31 (s27 n (lv1.get iv2.toNat))=true)) &&
 (zrf P0 P2 n lv1 zcE iv2 (s31 (s27 n (lv1.get iv2.toNat)))))))
 (P0 (w64 (zcE+(1:Int)))))
def zeE (S0:Int->((Sl Int)×Bool)) (n:Net) (lv1:(Sl (Sl Int))):Nat->Int->Int->((Sl Int)×Bool):=lpO (λ _ _=>default) (zgb S0 n lv1)
def zgc (P0:Int->Bool) (n:Net) (lv1:(Sl (Sl Int))):Nat->Int->Int->Bool:=lpO (λ _ _=>false) (zhe P0 n lv1)
def zrg (S0:Int->((Sl Int)×Bool)) (n:Net) (lv1:(Sl (Sl Int))) (zcE:Int) (iv2:Int):((Sl Int)×Bool):=zeE S0 n lv1 Fuel zcE iv2
def zrh (P0:Int->Bool) (n:Net) (lv1:(Sl (Sl Int))) (zcE:Int) (iv2:Int):Bool:=zgc P0 n lv1 Fuel zcE iv2
theorem zHg (hX0:zzl K n X0 P0 S0) (hs:zrh P0 n lv1 zcE iv2=true) (hk:K (e24 (zrg S0 n lv1 zcE iv2))):z24 (Wk K) [1,0,1,0,0,1,0,0,1,1,0] [X0] (zDp n lv1 zcE iv2) :=
  zl (λ X=>z24 (Wk K) [1,0,1,0,0,1,0,0,1,1,0,0] [X0,X]) (by kernel_rfl) λ X2 hX =>
  (show ∀ k, zHe K n lv1 X2 (zgc P0 n lv1 k) (zeE S0 n lv1 k) from zeu _ _ (zhe P0 n lv1) (zgb S0 n lv1) (zHe K n lv1 X2)
 (by intro _ _ hs;exact absurd hs dqk)
 (by intro P2 S2 hX2 zcE iv2 hs hk;exact hX _ (za0 (by kernel_rfl) (zc hs hk (λ hs hk=>(zaN hs λ hc hs=>And.intro hc (zaN hs λ hc hs=>And.intro (And.intro (zE enc_40 4 n.Ties.get) (And.intro (zE zac 1 ((lv1.get iv2.toNat).get)) hc)) (zaN hs λ hc hs=>And.intro (And.intro (zE enc_40 4 ((s27 n (lv1.get iv2.toNat)).Ties.get)) (zyN (y:=s27 n (lv1.get iv2.toNat)) (P:=λ y=>p31 y=true) hc)) (zyN (y:=s27 n (lv1.get iv2.toNat)) (P:=λ y=>z24 (Wk K) [1,0,1,0,0,1,0,0,1,1,0,0,1,0,0,1] [X0,X2] ⟨[(1,zp 1 0),(4,zI zcE),(5,zS za6 1 lv1),(6,zI iv2),(28,zB (s31 y))],[(1,.box 24 (zm (enc_24 n)))],[]⟩) (zHf hX0 hX2 hs hk)))))) (λ hs hk=>(hX0 hs hk)))))) _ hs hk
def zrj (S0:Int->((Sl Int)×Bool)) (n:Net) (zle:Int) (lv1:(Sl (Sl Int))):((Sl Int)×Bool) :=
  (zrg S0 n lv1 zle (0:Int))
def zrk (P0:Int->Bool) (n:Net) (zle:Int) (lv1:(Sl (Sl Int))):Bool :=
  (zrh P0 n lv1 zle (0:Int))
theorem zHh (hX0:zzl K n X0 P0 S0) (hs:zrk P0 n zle lv1=true) (hk:K (e24 (zrj S0 n zle lv1))) (zMJ:zKm=zg za6 lv1):z24 (Wk K) [1,0,1,0,0,1,0,0,1] [X0] ⟨[(1,zp 1 0),(4,zI zle),(5,zP (.sl lv1.len 1 zKm))],[(1,.box 24 (zm (enc_24 n)))],[]⟩:=by subst zMJ;exact za0 (by kernel_rfl) (zHg hX0 hs hk)
def zi7 (n:Net) (S0:Int->((Sl Int)×Bool)) (zcq:Int):((Sl Int)×Bool) :=
  (cond (decide (zcq <= (3:Int)))
 (zrj S0 n zcq (s73 (n.Ties.len:Int) zcq))
 ((⟨0,λ _=>default⟩:(Sl Int)),false))
def znE (n:Net) (P0:Int->Bool) (zcq:Int):Bool :=
  (cond (decide (zcq <= (3:Int)))
 (decide ((p73 (n.Ties.len:Int) zcq=true)) &&
 (zrk P0 n zcq (s73 (n.Ties.len:Int) zcq)))
 true)
def zeF (n:Net):Nat->Int->((Sl Int)×Bool):=lpO (λ _=>default) (zi7 n)
def zi8 (n:Net):Nat->Int->Bool:=lpO (λ _=>false) (znE n)
def zzm (n:Net) (zcq:Int):((Sl Int)×Bool):=zeF n Fuel zcq
def zzn (n:Net) (zcq:Int):Bool:=zi8 n Fuel zcq
theorem zHi (hs:zzn n zcq=true) (hk:K (e24 (zzm n zcq))):z24 (Wk K) [1,0,1,0] [] (zDo n zcq) :=
  zl (λ X=>z24 (Wk K) [1,0,1,0,0] [X]) (by kernel_rfl) λ X0 hX =>
  (show ∀ k, zzl K n X0 (zi8 n k) (zeF n k) from zeu _ _ (znE n) (zi7 n) (zzl K n X0)
 (by intro _ hs;exact absurd hs dqk)
 (by intro P0 S0 hX0 zcq hs hk;exact hX _ (za0 (by kernel_rfl) (zc hs hk (λ hs hk=>(zaN hs λ hc hs=>And.intro hc (zHh hX0 hs hk rfl))) (λ hs hk=>((wk hk (zgK (.one (.nil _ _)) (zgK (.one (.rfl _)) zm0))):Wk K [.one (.nils),.one (.bool false)])))))) _ hs hk
def s24 (n:Net):((Sl Int)×Bool) :=
  (zzm n (0:Int))
def p24 (n:Net):Bool :=
  (zzn n (0:Int))
end
theorem q24 (n:Net) (K:List PA->Prop) (hs:p24 n=true) (hk:K (e24 (s24 n))):vcFun Tryd.prog G24 zHd 24 [.agg (enc_24 n)] (Wk K) :=
  za0 (by kernel_rfl) (zHi hs hk)
def zHj : List PA → COut
  | [.agg [.int .i64 zaj,.sl zad zaz zab]]=>.det (IsE enc_40 4 zaz zab/\p24 (⟨zaj,(⟨zad,zam zab⟩:(Sl Tie))⟩:Net)=true) [.one (.sl (((s24 (⟨zaj,(⟨zad,zam zab⟩:(Sl Tie))⟩:Net)).1).len) 1 (λ i=>zac (((s24 (⟨zaj,(⟨zad,zam zab⟩:(Sl Tie))⟩:Net)).1).get i))),.one (.bool ((s24 (⟨zaj,(⟨zad,zam zab⟩:(Sl Tie))⟩:Net)).2))]
  | _=>.no
theorem zKn:zar Tryd.prog 24:=⟨_,rfl,rfl,by kernel_rfl⟩
theorem zOz:Ok Tryd.prog 24 zHj:=zg1 zMI zKn λ args K h=>by
  unfold zHj at h
  split at h
  · rename_i zaj zad zaz zab
    obtain⟨⟨⟨rfl,zat,rfl⟩,hs⟩,hk⟩:=h
    try rw[zan zat] at hs
    try rw[zan zat] at hk
    exact⟨_,zfq zfG _,(λ _ _=>[]),(λ _=>false),zHd,q24 (⟨zaj,(⟨zad,zat⟩:(Sl Tie))⟩:Net) K hs hk⟩
  · exact h.elim
abbrev T3:Tabs:=((((((Tabs.nil.addF 20 zGC).addF 21 zGB).addF 22 zBH).addF 23 zGL).addF 24 zHj).addF 25 zBI)
theorem zOA:TabsOk Tryd.prog T3:=((((((TabsOk.nil.addF zOr).addF zOq).addF zNi).addF zOt).addF zOz).addF zNj)
abbrev G3:Ctrs:=csm T3 (λ _ _=>[]) (λ _=>false)
def zMK:Ann:=⟨56,[(0,zK [1] [1]),(1,zK [1,9] [1]),(2,zK [2] []),(3,zK [1,3,4] [1]),(4,zK [1,3,4,18] [1]),(5,zK [2] []),(6,zK [3,4,5,6] []),(7,zK [3,4,5,35] []),(8,zK [2] []),(9,zK [2] [])],
 [],
 [(2,zK [1,9] [1]),(3,zK [1] [1]),(4,zK [1,3,4] [1]),(5,zK [1,3,4,18] [1]),(6,zK [1,3,4] [1]),(7,zK [3,4,5,6] [])],
 [],[]⟩
abbrev R3:=Bool
abbrev e3 (r:R3):List PA:=[.one (.bool r)]
@[irreducible] def z3:=ptF Tryd.prog G3 zMK Tryd.f3
section
variable {K:List PA->Prop}{n:Net}{zg7:Bool}{lv2:(Sl Int)}{ev2:Int}{zKo:Nat->List PV}{zrl:Bool}{zhQ:(Sl Int)}{zHk:Bool}{zsG:Nat->List PV}
def zzo (lv2:(Sl Int)) (ev2:Int) (zhQ:(Sl Int)) (zHk:Bool):Bool :=
  (cond (!zHk)
 (cond (ev2 == (8:Int))
 (cond ((lv2.len : Int) == (0:Int))
 true
 false)
 false)
 (cond (ev2 == (0:Int))
 (cond (s25 lv2 zhQ)
 true
 false)
 false))
def zzp (lv2:(Sl Int)) (ev2:Int) (zhQ:(Sl Int)) (zHk:Bool):Bool :=
  (cond (!zHk)
 true
 (cond (ev2 == (0:Int))
 (decide ((p25 lv2 zhQ=true)) &&
 true)
 true))
theorem zKp (hs:zzp lv2 ev2 zhQ zHk=true) (hk:K (e3 (zzo lv2 ev2 zhQ zHk))) (zBQ:zsG=zg zac zhQ):z3 K [1,1,1,1,1] [] ⟨[(3,zS zac 1 lv2),(4,zI ev2),(5,zP (.sl zhQ.len 1 zsG)),(6,zB zHk)],[],[]⟩:=by subst zBQ;exact za0 (by kernel_rfl) (zc hs hk (λ hs hk=>(zt hk (λ hk=>(zt hk (λ hk=>hk) (λ hk=>hk))) (λ hk=>hk))) (λ hs hk=>(zc hs hk (λ hs hk=>(zaN hs λ hc hs=>And.intro (And.intro (zE zac 1 lv2.get) (And.intro (zE zac 1 zhQ.get) hc)) (zt hk (λ hk=>hk) (λ hk=>hk)))) (λ hs hk=>hk))))
def zzq (n:Net) (lv2:(Sl Int)) (ev2:Int):Bool :=
  (zzo lv2 ev2 ((s24 n).1) ((s24 n).2))
def zzr (n:Net) (lv2:(Sl Int)) (ev2:Int):Bool :=
  (decide ((p24 n=true)) &&
 (zzp lv2 ev2 ((s24 n).1) ((s24 n).2)))
theorem zKq (hs:zzr n lv2 ev2=true) (hk:K (e3 (zzq n lv2 ev2))):z3 K [1,1,1,1] [] ⟨[(1,zp 1 0),(3,zS zac 1 lv2),(4,zI ev2)],[(1,.box 24 (zm (enc_24 n)))],[]⟩:=za0 (by kernel_rfl) (zaN hs λ hc hs=>And.intro (And.intro (zE enc_40 4 n.Ties.get) hc) (zKp hs hk rfl))
def zsH (n:Net) (lv2:(Sl Int)) (ev2:Int) (zrl:Bool):Bool :=
  (cond zrl
 (cond (ev2 == (2:Int))
 (cond ((lv2.len : Int) == (0:Int))
 true
 false)
 false)
 (zzq n lv2 ev2))
def zsI (n:Net) (lv2:(Sl Int)) (ev2:Int) (zrl:Bool):Bool :=
  (cond zrl
 true
 (zzr n lv2 ev2))
theorem zKr (hs:zsI n lv2 ev2 zrl=true) (hk:K (e3 (zsH n lv2 ev2 zrl))):z3 K [1,1,1,0,1] [] ⟨[(1,zp 1 0),(3,zS zac 1 lv2),(4,zI ev2),(18,zB zrl)],[(1,.box 24 (zm (enc_24 n)))],[]⟩:=za0 (by kernel_rfl) (zc hs hk (λ hs hk=>(zt hk (λ hk=>(zt hk (λ hk=>hk) (λ hk=>hk))) (λ hk=>hk))) (λ hs hk=>(zKq hs hk)))
def zzs (n:Net) (lv2:(Sl Int)) (ev2:Int):Bool :=
  (zsH n lv2 ev2 (!(s23 n)))
def zzt (n:Net) (lv2:(Sl Int)) (ev2:Int):Bool :=
  (decide ((p23 n=true)) &&
 (zsI n lv2 ev2 (!(s23 n))))
theorem zKs (hs:zzt n lv2 ev2=true) (hk:K (e3 (zzs n lv2 ev2))) (zML:zKo=zg zac lv2):z3 K [1,1,1] [] ⟨[(1,zp 1 0),(3,zP (.sl lv2.len 1 zKo)),(4,zI ev2)],[(1,.box 24 (zm (enc_24 n)))],[]⟩:=by subst zML;exact za0 (by kernel_rfl) (zaN hs λ hc hs=>And.intro (And.intro (zE enc_40 4 n.Ties.get) hc) (zKr hs hk))
def zzu (n:Net):Bool :=
  (zzs n ((s22 n).1) ((s22 n).2))
def zzv (n:Net):Bool :=
  (decide ((p22 n=true)) &&
 (zzt n ((s22 n).1) ((s22 n).2)))
theorem zKt (hs:zzv n=true) (hk:K (e3 (zzu n))):z3 K [1,1] [] ⟨[(1,zp 1 0)],[(1,.box 24 (zm (enc_24 n)))],[]⟩:=za0 (by kernel_rfl) (zaN hs λ hc hs=>And.intro (And.intro (zE enc_40 4 n.Ties.get) hc) (zKs hs hk rfl))
def zzw (n:Net) (zg7:Bool):Bool :=
  (cond zg7
 true
 (zzu n))
def zzx (n:Net) (zg7:Bool):Bool :=
  (cond zg7
 true
 (zzv n))
theorem zKu (hs:zzx n zg7=true) (hk:K (e3 (zzw n zg7))):z3 K [1,0,1] [] ⟨[(1,zp 1 0),(9,zB zg7)],[(1,.box 24 (zm (enc_24 n)))],[]⟩:=za0 (by kernel_rfl) (zc hs hk (λ hs hk=>hk) (λ hs hk=>(zKt hs hk)))
def s3 (n:Net):Bool :=
  (zzw n (!(s20 n (9:Int))))
def p3 (n:Net):Bool :=
  (zzx n (!(s20 n (9:Int))))
end
theorem q3 (n:Net) (K:List PA->Prop) (hs:p3 n=true) (hk:K (e3 (s3 n))):vcFun Tryd.prog G3 zMK 3 [.agg (enc_24 n)] K :=
  za0 (by kernel_rfl) (And.intro (zE enc_40 4 n.Ties.get) (zKu hs hk))
def zNp : List PA → COut
  | [.agg [.int .i64 zaj,.sl zad zaz zab]]=>.det (IsE enc_40 4 zaz zab/\p3 (⟨zaj,(⟨zad,zam zab⟩:(Sl Tie))⟩:Net)=true) [.one (.bool (s3 (⟨zaj,(⟨zad,zam zab⟩:(Sl Tie))⟩:Net)))]
  | _=>.no
theorem zMM:zar Tryd.prog 3:=⟨_,rfl,rfl,by kernel_rfl⟩
theorem ok3:Ok Tryd.prog 3 zNp:=zbl zOA zMM λ args K h=>by
  unfold zNp at h
  split at h
  · rename_i zaj zad zaz zab
    obtain⟨⟨⟨rfl,zat,rfl⟩,hs⟩,hk⟩:=h
    try rw[zan zat] at hs
    try rw[zan zat] at hk
    exact⟨(λ _ _=>[]),(λ _=>false),zMK,q3 (⟨zaj,(⟨zad,zat⟩:(Sl Tie))⟩:Net) K hs hk⟩
  · exact h.elim
end Go.Proofs
namespace Go.Proofs.YtedhjaaikeakoaaDoor
open Go Go.Pm Go.ChangeShapes
set_option maxRecDepth 100000
abbrev laid1 : List (String × DataW Unit) := [("overburden/align.never", Rows.laid_overburden_align_never)]
theorem zDq : Tryd.prog.globalNamed "overburden/align.never" = some 0 := by kernel_rfl
theorem zKv:(Tryd.prog.globals[0]?).map (·.type)=some 114:=by kernel_rfl
theorem zKw:Tryd.prog.cellsOf 114=2:=by kernel_rfl
theorem zNq:Tryd.prog.cellsOf 3=1:=by kernel_rfl
theorem door_met (os:Os) (args:Array Value):laidMetH Tryd.prog laid1 ((World.doorLaid Tryd.prog 400 os).forCall (λ _ _=>0) ⟨#[],args,[]⟩).memory :=
 laidMetH_of_parts3 (fuel:=8) (laidMet_of_run' 8 (by kernel_rfl) (by kernel_rfl)) (by kernel_rfl) (by kernel_rfl)
theorem gl_of {W:World}(h:laidMetH Tryd.prog laid1 W):zdT (H0 W):=by
 rw[MakeChecks.laidMetH_plain _ _ _ (by kernel_rfl)] at h
 obtain⟨ps,⟨g0,t0,cs0,f0,p0,q0,hg0,ht0,hv0,hd0,_,_⟩,_,_⟩:=h
 obtain rfl:=Option.some.inj (zDq.symm.trans hg0)
 obtain rfl:=Option.some.inj (zKv.symm.trans ht0)
 obtain⟨y0,y1,n,hx,hl,h0,h1⟩:=trod_struct2 Tryd.underlying114 hd0
 simp only[dqh] at hx
 obtain⟨hx,-⟩:=hx
 simp only[Rows.laid_overburden_align_never,DataW.agg.injEq,dqy,and_true] at hx
 obtain⟨k0,e0,d0,_⟩:=DataW.trod_int Tryd.underlying3 h0
 obtain⟨k1,e1,d1,_⟩:=DataW.trod_int Tryd.underlying3 h1
 rw[zKw] at hl
 have e0':cs0.toList.take 1=[.int .i64 k0]:=by
  have:=e0
  rw[show Tryd.prog.cellsOf _=1 from zNq] at this
  simpa using this
 have e1':(cs0.toList.drop 1).take 1=[.int .i64 k1]:=by
  have:=e1
  rw[show Tryd.prog.cellsOf _=1 from zNq] at this
  simpa using this
 have hk0:k0=1000000000000:=by have:=hx.1;rw[d0] at this;injection this with a;injection a with _ a;exact a.symm
 have hk1:k1=0:=by have:=hx.2;rw[d1] at this;injection this with a;injection a with _ a;exact a.symm
 have hC:cs0.toList=[.int .i64 1000000000000,.int .i64 0]:=by
  have h2:cs0.toList=cs0.toList.take 1 ++ (cs0.toList.drop 1).take 1:=by
   rw[<- List.take_add,List.take_of_length_le (by omega)]
  rw[h2,e0',e1',hk0,hk1];rfl
 intro k l hk
 unfold World.var? at hv0
 rw[zDq] at hv0
 simp only[Option.bind_some] at hv0
 cases k with
 | succ k=>cases hk
 | zero =>
  obtain rfl:[PV.int .i64 1000000000000,.int .i64 0]=l:=Option.some.inj hk
  cases eo:W.heap[0]? with
  | none=>rw[eo] at hv0;cases hv0
  | some o =>
   rw[eo] at hv0
   cases o with
   | cells C ty fr =>
    simp only[dqa] at hv0
    subst hv0
    exact⟨_,ty,fr,by unfold H0;rw[eo];rfl,by rw[hC];exact⟨.int _ _,.int _ _,trivial⟩⟩
   | _=>cases hv0
end Go.Proofs.YtedhjaaikeakoaaDoor
namespace Go.Proofs.YtedhjaaikeakoaaDoor
set_option maxRecDepth 100000
def dc : Nat → Nat → List Char
  | 0,_=>[]
  | k+1,n=>Char.ofNat (n % 128) :: dc k (n / 128)
def ioR:List (List Char):=[dc 2 14945,dc 38 107265865644741724912243125268531249640326942553430557205577479631290979090791279,dc 38 108293077817484906734254386447616441263814988321737617043972465573863363972791151,dc 38 93370879016013017278412803021783510280543711028000410236402271261457424383048559,dc 38 107258694022858408970435192345127867927486736974969802526482043864463718682819439,dc 39 13746719959472648153406769131206406626558510298776447130317981093147086104311724911,dc 38 107266209769642888316488957616301258915172789321380384129051881327065490379078511,dc 39 13738338888634744287462113483281891133786406809494667074737303271467843731645365103,dc 38 107308724040215521434011850380931925905298338556088488294726402895071789331348335,dc 43 3689337697451499537899652006011379275272339788637320245734945509069109267079825879406836591,dc 38 106339254617564648824502995819756623291246721172574690728430612464564447869500271,dc 38 107330772524736890892060720350443696785457349727637599143704802418857719933533039,dc 38 107266380701743786104986999119182321999123657451770743386930499759721679104342895,dc 38 107308728471136676073553801914045189487148679029700448428114571309412341010496367,dc 37 837954515553292543489687687552621780150771894250034810644180755742461368302447,dc 38 107287017468262091873827311208814906259154281073825133055543027267698112966785903,dc 38 107374028509112486977837548216825331243033985081330090052312008930171490580134767,dc 38 107265533895345759970156929786145176805363222797160045994169685653949991330872175]
def ioN:List Char:=dc 748 14110378018767575964226655308004126793045208087310171201555892242252648960690434620806224759478349222793457564936136773140206884019406577404308477398112682127111429688458091804136369451876026010391452929509304596612007749348823331848074321521876163367611471766311661795807971626777430789606670518996161301806853738256348343737238826384171739901612950230839336053519876648582653265928992265003442337249315020340640568624042171724319570015876863120612063908539839480788963015814409324055605425425582212723687691771037045010066064867754736841809752569547023397197010564985861497252960727260554984899190782686002829257997185443421456271698218584945985148990383891392482548262956659989814614329905290488435125286744085629934720469444029598243369313538259143807170350259387234145666063103371643809341342441092158617040725699310351084585854817129011753246127748964030413854525633190715875548631480060648955255476518703717934493416584654287151545453027212072361023366870608725576042669368667333719675724995494706645777621137060304017521484702088503639607947747215026989263530504204523251982333933107210391579300884546305432560571086131943194743723205005815139772394062686780566686930384812217785365992657908782936586832589627342388339882126362151219006413773645814561079952905486963953952063552645778936398310246717058410743450648594152841163565946295251582585294350653230459132165827590128826417871324965536217148578987470925657879977171716100377657863588641203253643922875913460814715430695689192746980757875303892414899783421563436119681070640173712093473782554642421452415184974056
theorem ioS:Tryd.prog.initOrder=String.ofList ioN:=by kernel_rfl
theorem ioL:Tryd.prog.initOrder.toList=ioN:=(congrArg String.toList ioS).trans String.toList_ofList
theorem ioW:wordsSigns Tryd.prog.initOrder.toList=(dc 7 509754063237352) :: (dc 64 583581952082889979719035725534559484815115086455805852996510235646750355970935781905203483690318741732481452225105900421668580921071669) :: (dc 3 1915619) :: ioR:=(congrArg wordsSigns ioL).trans (by kernel_rfl)
theorem ioB:behindMainWord (wordsSigns Tryd.prog.initOrder.toList)=(dc 3 1915619) :: ioR:=(congrArg behindMainWord ioW).trans (by kernel_rfl)
theorem zo0 {P : Program} {l : List (List Char)} (h : behindMainWord (wordsSigns P.initOrder.toList) = l) : P.headLifts = (if (stripLifts liftWords l).2.head? == some "cut".toList then (stripLifts liftWords l).1 else []) := by subst h; rfl
theorem zHl {P:Program}{rest:List (List Char)}(h:behindMainWord (wordsSigns P.initOrder.toList)=(dc 3 1915619) :: rest):P.make=some .cut:=by unfold Program.make;rw[h];rfl
theorem zBR {P:Program}{rest:List (List Char)}(h:behindMainWord (wordsSigns P.initOrder.toList)=(dc 3 1915619) :: rest) (hl:P.headLifts=[]):P.liftsFinal=false:=by unfold Program.liftsFinal;rw[h,hl];rfl
theorem zHm {P : Program} {a b : List Char} {rest : List (List Char)} (h : wordsSigns P.initOrder.toList = a :: b :: rest) (hs : isSumSigns b = true) (ha : (a == "harness".toList) = true) : P.mainIs = some (true, b) := by unfold Program.mainIs; rw [h]; simp only [hs, ha]; rfl
theorem zBS {P : Program} {c : List Char} {rest : List (List Char)} (h : behindMainWord (wordsSigns P.initOrder.toList) = c :: rest) (hst : (stripLifts liftWords (c :: rest)).2.head? = some "cut".toList)
    (hs1:(stripLifts liftWords (c :: rest)).1=[]) (hlay:P.laysLater=false) (hb:P.bearsReflect=false) (hd:P.doorFits []=true):P.mayEnter=true:=by
  unfold Program.mayEnter
  rw[h]
  simp[hst,hs1,hlay,hb,hd]
theorem ioH:Tryd.prog.headLifts=[]:=(zo0 ioB).trans (by kernel_rfl)
theorem ioK:Tryd.prog.make=some .cut:=zHl ioB
theorem ioF:Tryd.prog.liftsFinal=false:=zBR ioB ioH
theorem ioM : Tryd.prog.mainIs = some (true, "5097d02014b7f9bdc457588f16a61179f96daee4a085c0a2c5462d863db43dbf".toList) := (zHm ioW (by kernel_rfl) (by kernel_rfl)).trans (by kernel_rfl)
theorem ioE:Tryd.prog.mayEnter=true:=zBS ioB (by kernel_rfl) (by kernel_rfl) (by kernel_rfl) (by kernel_rfl) (by kernel_rfl)
end Go.Proofs.YtedhjaaikeakoaaDoor
namespace Go.Pm
open Go

theorem zbo {x:Int}(h1 : -9223372036854775808<=x) (h2:x<=9223372036854775807):w64 x=x:=by
 have hb:IntKind.i64.bits=64:=rfl
 have hs:IntKind.i64.signed=true:=rfl
 unfold w64 IntKind.wrap
 rw[hb,hs]
 simp only[Bool.true_and,decide_eq_true_eq]
 split <;> omega
theorem dqT {p:Prop} [Decidable p] (h:p):decide p=true:=decide_eq_true h
theorem dqF {p:Prop} [Decidable p] (h : ¬ p):decide p=false:=decide_eq_false h
theorem dqA {α:Type}(a b:α):cond true a b=a:=rfl
theorem dqB {α:Type}(a b:α):cond false a b=b:=rfl
theorem dqN (n:Nat):((n:Nat):Int).toNat=n:=Int.toNat_natCast n
theorem dqP {c:Prop}{h:Decidable c}(hc:c){α:Type}{t e:α} : ite c t e=t:=if_pos hc
theorem dqG {c:Prop}{h:Decidable c}(hc : ¬ c){α:Type}{t e:α} : ite c t e=e:=if_neg hc
def zNr (c : Nat → Bool) : Nat → Nat → Nat
  | 0,i=>i
  | m+1,i=>match c i with | true=>i | false=>zNr c m (i+1)
def fst (c:Nat->Bool) (n:Nat):Nat:=zNr c n 0
theorem zsJ {good : Nat → Bool} {fin : Bool} {n : Nat} {lpS lpP : Nat → Int → Bool}
    (hS:∀ (k i:Nat),i < n->lpS (k+1) (i:Int)=cond (good i) (lpS k (w64 ((i:Int)+(1:Int)))) false)
    (hE:∀ k,lpS (k+1) (n:Int)=fin)
    (hP:∀ (k i:Nat),i < n->lpP (k+1) (i:Int)=cond (good i) (lpP k (w64 ((i:Int)+(1:Int)))) true)
    (hPE:∀ k,lpP (k+1) (n:Int)=true) (hn:n<=9223372036854775807) :
    lpP Fuel 0=true/\(lpS Fuel 0=true↔(∀ i,i < n->good i=true)/\fin=true):=by
  have key:∀ (m k i:Nat),i+m=n->m < k->lpP k (i:Int)=true/\(lpS k (i:Int)=true↔(∀ j,i<=j->j < n->good j=true)/\fin=true):=by
    intro m
    induction m with
    | zero =>
      intro k i hi hk
      obtain⟨k,rfl⟩:∃ k',k=k'+1:=⟨k - 1,by omega⟩
      have:i=n:=by omega
      subst this
      rw[hE,hPE]
      exact⟨rfl,⟨λ h=>⟨λ j h1 h2=>absurd h2 (by omega),h⟩,λ h=>h.2⟩⟩
    | succ m ih =>
      intro k i hi hk
      obtain⟨k,rfl⟩:∃ k',k=k'+1:=⟨k - 1,by omega⟩
      rw[hS k i (by omega),hP k i (by omega)]
      have e3:w64 ((i:Int)+1)=((i+1:Nat):Int):=by rw[zbo (by omega) (by omega)];omega
      rw[e3]
      obtain⟨h1,h2⟩:=ih k (i+1) (by omega) (by omega)
      cases hg:good i
      · refine ⟨rfl, ⟨fun h => (by cases h), fun h => ?_⟩⟩
        have:=h.1 i (dqt _) (by omega)
        rw[hg] at this;cases this
      · refine ⟨h1, h2.trans ⟨fun h => ⟨fun j hj1 hj2 => ?_, h.2⟩, fun h => ⟨fun j hj1 hj2 => h.1 j (by omega) hj2, h.2⟩⟩⟩
        by_cases hji:j=i
        · rw[hji];exact hg
        · exact h.1 j (by omega) hj2
  have:=key n Fuel 0 (by omega) (by simp only[Fuel];omega)
  simpa using this

end Go.Pm
namespace Go.Pm
open Go
theorem zgA {i n:Nat}(h:i < n) (hn:n<=9223372036854775807):w64 ((i:Int)+(1:Int))=((i+1:Nat):Int):=by
 rw[zbo (by omega) (by omega)];omega
theorem zzy {β : Type} {good : Nat → Bool} {bad fin : β} {zDr : Bool} {n : Nat} {lpS : Nat → Int → β} {lpP : Nat → Int → Bool}
    (hS:∀ (k i:Nat),i < n->lpS (k+1) (i:Int)=cond (good i) (lpS k (w64 ((i:Int)+(1:Int)))) bad)
    (hE:∀ k,lpS (k+1) (n:Int)=fin)
    (hP:∀ (k i:Nat),i < n->lpP (k+1) (i:Int)=cond (good i) (lpP k (w64 ((i:Int)+(1:Int)))) true)
    (hPE:∀ k,lpP (k+1) (n:Int)=zDr) (hn:n<=9223372036854775807) :
    ((∀ i,i < n->good i=true)->lpP Fuel 0=zDr/\lpS Fuel 0=fin)/\((¬ ∀ i,i < n->good i=true)->lpP Fuel 0=true/\lpS Fuel 0=bad):=by
  have key:∀ (m k i:Nat),i+m=n->m < k->((∀ j,i<=j->j < n->good j=true)->lpP k (i:Int)=zDr/\lpS k (i:Int)=fin)/\((¬ ∀ j,i<=j->j < n->good j=true)->lpP k (i:Int)=true/\lpS k (i:Int)=bad):=by
    intro m
    induction m with
    | zero =>
      intro k i hi hk
      obtain⟨k,rfl⟩:∃ k',k=k'+1:=⟨k - 1,by omega⟩
      have:i=n:=by omega
      subst this
      rw[hE,hPE]
      exact⟨λ _=>⟨rfl,rfl⟩,λ h=>absurd (λ j h1 h2=>absurd h2 (by omega)) h⟩
    | succ m ih =>
      intro k i hi hk
      obtain⟨k,rfl⟩:∃ k',k=k'+1:=⟨k - 1,by omega⟩
      rw[hS k i (by omega),hP k i (by omega),zgA (n:=n) (by omega) hn]
      obtain⟨h1,h2⟩:=ih k (i+1) (by omega) (by omega)
      cases hg:good i
      · refine ⟨fun h => ?_, fun _ => ⟨rfl, rfl⟩⟩
        have:=h i (dqt _) (by omega)
        rw[hg] at this;cases this
      · refine ⟨fun h => h1 fun j a b => h j (by omega) b, fun h => h2 fun h' => h fun j a b => ?_⟩
        by_cases hji:j=i
        · rw[hji];exact hg
        · exact h' j (by omega) b
  have:=key n Fuel 0 (by omega) (by simp only[Fuel];omega)
  simpa using this
def zlA {σ : Type} (step : Nat → σ → σ) : Nat → Nat → σ → σ
  | 0,_,s=>s
  | m+1,i,s=>zlA step m (i+1) (step i s)
theorem zo1 {σ β : Type} {step : Nat → σ → σ} {E : σ → β} {EP : σ → Bool} {Inv : Nat → σ → Prop} {a n : Nat} {lpS : Nat → σ → Int → β} {lpP : Nat → σ → Int → Bool}
    (hS:∀ (k i:Nat) (s:σ),a<=i->i < n->Inv i s->lpS (k+1) s (i:Int)=lpS k (step i s) (w64 ((i:Int)+(1:Int))))
    (hE:∀ k s,lpS (k+1) s (n:Int)=E s)
    (hP:∀ (k i:Nat) (s:σ),a<=i->i < n->Inv i s->lpP (k+1) s (i:Int)=lpP k (step i s) (w64 ((i:Int)+(1:Int))))
    (hPE:∀ k s,lpP (k+1) s (n:Int)=EP s)
    (hI:∀ i s,a<=i->i < n->Inv i s->Inv (i+1) (step i s)) (ha:a<=n) (hn:n<=9223372036854775807) (s:σ) (h0:Inv a s) :
    lpP Fuel s (a:Int)=EP (zlA step (n - a) a s)/\lpS Fuel s (a:Int)=E (zlA step (n - a) a s):=by
  have key:∀ (m k i:Nat) (s:σ),a<=i->i+m=n->m < k->Inv i s->lpP k s (i:Int)=EP (zlA step m i s)/\lpS k s (i:Int)=E (zlA step m i s):=by
    intro m
    induction m with
    | zero =>
      intro k i s h1 hi hk _
      obtain⟨k,rfl⟩:∃ k',k=k'+1:=⟨k - 1,by omega⟩
      have:i=n:=by omega
      subst this
      rw[hE,hPE]
      exact⟨rfl,rfl⟩
    | succ m ih =>
      intro k i s h1 hi hk hs
      obtain⟨k,rfl⟩:∃ k',k=k'+1:=⟨k - 1,by omega⟩
      rw[hS k i s h1 (by omega) hs,hP k i s h1 (by omega) hs,zgA (n:=n) (by omega) hn]
      exact ih k (i+1) (step i s) (by omega) (by omega) (by omega) (hI i s h1 (by omega) hs)
  exact key (n - a) Fuel a s (dqt _) (by omega) (by simp only[Fuel];omega) h0
end Go.Pm
namespace Go.Proofs
open Go Go.Pm
set_option maxRecDepth 100000
set_option linter.unusedVariables false
section sets
def loL (L:List Nat):Nat:=match L.getLast? with | none=>0 | some y=>y+1
def zjA (N : Nat) : Nat → List (List Nat)
  | 0=>[[]]
  | k+1=>(zjA N k).flatMap λ M=>(List.range' (loL M) (N - loL M)).map λ x=>M ++ [x]
def ltL : List Nat → List Nat → Prop
  | a :: A,b :: B=>a < b\/a=b/\ltL A B
  | _,_=>False
theorem zgd : ∀ {A B : List Nat}, ltL A B → ¬ ltL B A
  | a :: A,b :: B,h,h'=>by
    simp only[ltL] at h h'
    rcases h with h | ⟨rfl,h⟩
    · rcases h' with h' | ⟨h',_⟩ <;> omega
    · rcases h' with h' | ⟨_, h'⟩
      · omega
      · exact zgd h h'
  | [],_,h,_=>by simp[ltL] at h
  | _ :: _,[],h,_=>by simp[ltL] at h
theorem zo2 : ∀ {A B : List Nat}, A.length = B.length → A ≠ B → ltL A B ∨ ltL B A
  | a :: A,b :: B,hl,hne=>by
    simp only[ltL]
    rcases Nat.lt_trichotomy a b with h | rfl | h
    · exact .inl (.inl h)
    · rcases zo2 (A := A) (B := B) (by simpa using hl) (fun e => hne (by rw [e])) with h | h
      · exact .inl (.inr ⟨rfl,h⟩)
      · exact .inr (.inr ⟨rfl,h⟩)
    · exact .inr (.inl h)
  | [],[],_,hne=>(hne rfl).elim
  | [],_ :: _,hl,_=>by simp at hl
  | _ :: _,[],hl,_=>by simp at hl
set_option linter.unusedVariables false in
theorem zzz : ∀ {A B : List Nat} (x y : Nat), ltL A B → ltL (A ++ [x]) (B ++ [y])
  | a :: A,b :: B,x,y,h=>by
    simp only[List.cons_append,ltL] at h ⊢
    exact h.imp id λ ⟨e,h⟩=>⟨e,zzz x y h⟩
  | [],_,_,_,h=>by simp[ltL] at h
  | _ :: _,[],_,_,h=>by simp[ltL] at h
theorem zsK : ∀ (A : List Nat) {x y : Nat}, x < y → ltL (A ++ [x]) (A ++ [y])
  | [],x,y,h=>.inl h
  | a :: A,x,y,h=>.inr ⟨rfl,zsK A h⟩
theorem zKx {L:List Nat}{x:Nat} : loL L<=x/\L.Pairwise (· < ·)↔(L ++ [x]).Pairwise (· < ·):=by
 rw[List.pairwise_append]
 constructor
 ·rintro ⟨h, hp⟩
  refine⟨hp,List.pairwise_singleton _ _,λ a ha b hb=>?_⟩
  rw[dqi] at hb;subst hb
  rcases List.eq_nil_or_concat L with rfl | ⟨M,y,rfl⟩
  ·simp at ha
  ·have h' : y + 1 ≤ b := by simpa [loL] using h
   rw[List.concat_eq_append,List.pairwise_append] at hp
   simp only[List.concat_eq_append,dqg,dqi] at ha
   rcases ha with ha | rfl
   ·have:=hp.2.2 a ha y (by simp);omega
   ·omega
 ·rintro ⟨hp, _, h⟩
  refine⟨?_,hp⟩
  rcases List.eq_nil_or_concat L with rfl | ⟨M,y,rfl⟩
  ·simp[loL]
  ·have := h y (by simp) x (by simp)
   have e:loL (M.concat y)=y+1:=by simp[loL]
   rw[e];omega
theorem zfl {N : Nat} : ∀ {k : Nat} {L : List Nat}, L ∈ zjA N k ↔ L.length = k ∧ L.Pairwise (· < ·) ∧ ∀ x ∈ L, x < N
  | 0,L=>by
    simp only[zjA,dqi]
    constructor
    · rintro rfl;exact⟨rfl,List.Pairwise.nil,λ x hx=>by simp at hx⟩
    · rintro⟨h,_⟩;exact List.eq_nil_of_length_eq_zero h
  | k+1,L=>by
    simp only[zjA,dqo,dqz,List.mem_range'_1]
    constructor
    · rintro ⟨M, hM, x, ⟨h1, h2⟩, rfl⟩
      obtain⟨hl,hp,hx⟩:=zfl.1 hM
      refine⟨by simp[hl],zKx.1 ⟨h1,hp⟩,λ z hz=>?_⟩
      rcases dqg.1 hz with hz | hz
      · exact hx z hz
      · rw[dqi] at hz;omega
    · rintro ⟨hl, hp, hx⟩
      rcases List.eq_nil_or_concat L with rfl | ⟨M,y,rfl⟩
      · simp at hl
      · rw [List.concat_eq_append] at hl hp hx ⊢
        obtain⟨h1,h2⟩:=zKx.2 hp
        have hy:=hx y (by simp)
        exact⟨M,zfl.2 ⟨by simpa using hl,h2,λ z hz=>hx z (List.mem_append_left _ hz)⟩,y,⟨h1,by omega⟩,rfl⟩
theorem zsL {N : Nat} : ∀ (k : Nat), (zjA N k).Pairwise ltL
  | 0=>List.pairwise_singleton _ _
  | k+1=>by
    rw[zjA,List.pairwise_flatMap]
    refine⟨λ M _=>?_,(zsL k).imp fun {A B} h x hx y hy=>?_⟩
    · rw [List.pairwise_map]
      exact (List.pairwise_lt_range' (s:=loL M) (n:=N - loL M)).imp λ h=>zsK M h
    · obtain ⟨a, _, rfl⟩ := dqz.1 hx
      obtain⟨b,_,rfl⟩:=dqz.1 hy
      exact zzz a b h
theorem ztJ {l:List (List Nat)}(hl:l.Pairwise ltL){p:List Nat->Bool}{L:List Nat}(h:l.find? p=some L):L∈l/\p L=true/\∀ M∈l,p M=true->M=L\/ltL L M:=by
 obtain⟨hp,A,B,rfl,hA⟩:=List.find?_eq_some_iff_append.1 h
 refine⟨by simp,hp,λ M hM hpM=>?_⟩
 rcases dqg.1 hM with hM | hM
 ·have:=hA M hM;rw[hpM] at this;simp at this
 ·rcases dqq.1 hM with rfl | hM
  ·exact .inl rfl
  ·exact .inr ((List.pairwise_cons.1 (List.pairwise_append.1 hl).2.1).1 M hM)
end sets
section search
variable (N:Nat)
def keysB (g:Nat->Bool):List Nat:=(List.range N).filter g
def zAg (g:Nat->Bool) (k:Nat):Nat->Bool:=λ j=>j == k || g j
variable {N}
theorem zo3 {g X:Nat->Bool}(h:∀ j,j < N->g j=true->X j=true):(keysB N g).Sublist (keysB N X):=by
 unfold keysB
 have:(List.range N).filter g=((List.range N).filter X).filter g:=by
  rw[List.filter_filter]
  refine List.filter_congr λ j hj=>?_
  have:=h j (List.mem_range.1 hj)
  cases hg:g j <;> simp[hg] at this ⊢
  exact this
 rw[this]
 exact List.filter_sublist
theorem zi9 (g:Nat->Bool):(keysB N g).Pairwise (· < ·):=List.Pairwise.filter _ List.pairwise_lt_range
theorem zge {g:Nat->Bool}{j:Nat} : j∈keysB N g↔j < N/\g j=true:=by simp[keysB]
theorem zo4 {g:Nat->Bool}{k:Nat}(hk:k < N) (hg:g k=false):(keysB N (zAg g k)).length=(keysB N g).length+1:=by
 unfold keysB
 rw[<- List.countP_eq_length_filter,<- List.countP_eq_length_filter]
 have key:∀ (m:Nat),(List.range m).countP (zAg g k)=(List.range m).countP g+(if k < m then 1 else 0):=by
  intro m
  induction m with
  | zero=>simp
  | succ m ih =>
   rw[List.range_succ,List.countP_append,List.countP_append,ih,List.countP_singleton,List.countP_singleton]
   by_cases e:m=k
   ·subst e
    simp[zAg,hg]
   ·have h1 : zAg g k m = g m := by simp [zAg, e]
    rw[h1]
    by_cases h2:k < m
    ·have h3 : k < m + 1 := by omega
     simp only[h2,h3,if_true];omega
    ·have h3 : ¬ k < m + 1 := by omega
     simp only[h2,h3,if_false];omega
 rw[key,dqP hk]
theorem zBT {L:List Nat}(hp:L.Pairwise (· < ·)) (hL:∀ x∈L,x < N):keysB N (λ j=>decide (j∈L))=L:=by
 refine List.Perm.eq_of_pairwise (le:=(· < ·)) (λ a b _ _ h1 h2=>absurd h1 (Nat.lt_asymm h2)) (zi9 _) hp ?_
 refine (List.perm_ext_iff_of_nodup ((zi9 (N:=N) _).imp λ h=>Nat.ne_of_lt h) (hp.imp λ h=>Nat.ne_of_lt h)).2 λ a=>?_
 rw[zge]
 exact⟨λ h=>of_decide_eq_true h.2,λ h=>⟨hL a h,dqT h⟩⟩
end search
end Go.Proofs
namespace Go.Proofs
open Go Go.Pm
set_option maxRecDepth 100000
set_option linter.unusedVariables false
attribute [local irreducible] Go.Pm.vcFun Go.Pm.vc Go.Pm.vcIter
end Go.Proofs
namespace Go.Proofs
open Go Go.Pm
set_option maxRecDepth 100000
theorem zsM (n a b:Int):s81 n a b=decide (a<=n/\n<=b):=by
 unfold s81
 by_cases h:a<=n
 ·rw[dqT (show n >= a from h),dqA];exact decide_eq_decide.2 ⟨λ k=>⟨h,k⟩,λ k=>k.2⟩
 ·rw[dqF (show ¬ n >= a from h),dqB];exact (dqF (λ k=>h k.1)).symm
theorem zDs (n a b:Int):s72 n a b=decide (a<=n/\n<=b):=zsM n a b
theorem zDt (n:Net) (hn:n.Ties.len<=9223372036854775807):p67 n=true/\(s67 n=true↔(∀ i,i < n.Ties.len->s78 (n.Ties.get i) n.Nodes=true)/\(1<=n.Nodes/\n.Nodes<=40)/\n.Ties.len<=200):=by
  have := zsJ (good := fun i => s78 (n.Ties.get i) n.Nodes) (fin := cond (s81 n.Nodes (1:Int) (40:Int)) (decide ((n.Ties.len : Int) ≤ (200:Int))) false) (n := n.Ties.len) (lpS := zh9 n) (lpP := zia n)
    (λ k i hi=>by
      show zh7 n (zh9 n k) (i:Int)=_
      generalize zh9 n k=S
      unfold zh7 zp1
      rw[dqT (show (i:Int) < (n.Ties.len:Int) by omega),dqA,dqN]
      cases s78 (n.Ties.get i) n.Nodes <;> rfl)
    (λ k=>by
      show zh7 n (zh9 n k) (n.Ties.len:Int)=_
      unfold zh7
      rw[dqF (show ¬ (n.Ties.len:Int) < (n.Ties.len:Int) by omega),dqB])
    (λ k i hi=>by
      show zh8 n (zia n k) (i:Int)=_
      generalize zia n k=S
      unfold zh8 zp2
      rw[dqT (show (i:Int) < (n.Ties.len:Int) by omega),dqA,dqN,dqT (show 0<=(i:Int)/\(i:Int) < (n.Ties.len:Int) by omega),Bool.true_and]
      cases s78 (n.Ties.get i) n.Nodes <;> rfl)
    (λ k=>by
      show zh8 n (zia n k) (n.Ties.len:Int)=_
      unfold zh8
      rw[dqF (show ¬ (n.Ties.len:Int) < (n.Ties.len:Int) by omega),dqB])
    hn
  refine⟨this.1,this.2.trans ?_⟩
  rw[zsM]
  by_cases h:1<=n.Nodes/\n.Nodes<=40
  · rw[dqT h,dqA,decide_eq_true_eq];exact⟨λ k=>⟨k.1,h,by omega⟩,λ k=>⟨k.1,by omega⟩⟩
  · rw[dqF h,dqB];exact⟨λ k=>absurd k.2 (by decide),λ k=>absurd k.2.1 h⟩
end Go.Proofs
namespace Go.Proofs
open Go Go.Pm
set_option maxRecDepth 100000
set_option linter.unusedVariables false
attribute [local irreducible] Go.Pm.vcFun Go.Pm.vc Go.Pm.vcIter
end Go.Proofs
namespace Go.Proofs
open Go Go.Pm
set_option maxRecDepth 100000
set_option linter.unusedVariables false
theorem dgt (x y:Int):decide (x > y) = !decide (x<=y):=by
 by_cases h:x > y
 ·rw[dqT h,dqF (show ¬ x<=y by omega)];rfl
 ·rw[dqF h,dqT (show x<=y by omega)];rfl
theorem zDu (nodes:Int) (t:Tie):s36 nodes t=s78 t nodes:=by
 unfold s36 ziJ zqO s78 zkU zkT
 simp only[zDs,zsM,bne,dgt]
 generalize decide (0<=t.From/\t.From<=w64 (nodes - (1:Int)))=a
 generalize decide (0<=t.To/\t.To<=w64 (nodes - (1:Int)))=b
 generalize (t.From == t.To)=c
 generalize (t.Low == (-1000000000000:Int))=d
 generalize (t.High == (1000000000000:Int))=e
 generalize decide (-1000000000<=t.Low/\t.Low<=1000000000)=f
 generalize decide (-1000000000<=t.High/\t.High<=1000000000)=g
 generalize decide (t.Low<=t.High)=h
 cases a <;> cases b <;> cases c <;> cases d <;> cases e <;> cases f <;> cases g <;> cases h <;> rfl
structure TieOk (t : Tie) (nodes : Int) : Prop where
  f0:0<=t.From
  f1:t.From < nodes
  t0:0<=t.To
  t1:t.To < nodes
  ne:t.From ≠ t.To
  lo:t.Low = -1000000000000\/(-1000000000<=t.Low/\t.Low<=1000000000)
  hi:t.High=1000000000000\/(-1000000000<=t.High/\t.High<=1000000000)
  le:t.Low<=t.High
theorem zzA (t:Tie) (nodes:Int) (h1:1<=nodes) (h2:nodes<=40):s78 t nodes=true↔TieOk t nodes:=by
 have e:s78 t nodes=(decide (0<=t.From/\t.From < nodes) && (decide (0<=t.To/\t.To < nodes) && (!(t.From == t.To) && (((t.Low == (-1000000000000:Int)) || decide (-1000000000<=t.Low/\t.Low<=1000000000)) && (((t.High == (1000000000000:Int)) || decide (-1000000000<=t.High/\t.High<=1000000000)) && decide (t.Low<=t.High)))))):=by
  unfold s78 zkU zkT
  rw[zbo (x:=nodes - 1) (by omega) (by omega)]
  simp only[zsM]
  rw[decide_eq_decide.2 (show (0<=t.From/\t.From<=nodes - 1)↔(0<=t.From/\t.From < nodes) by omega),decide_eq_decide.2 (show (0<=t.To/\t.To<=nodes - 1)↔(0<=t.To/\t.To < nodes) by omega)]
  simp only[bne]
  generalize decide (0<=t.From/\t.From < nodes)=a
  generalize decide (0<=t.To/\t.To < nodes)=b
  generalize (t.From == t.To)=c
  generalize (t.Low == (-1000000000000:Int))=d
  generalize (t.High == (1000000000000:Int))=e
  generalize decide (-1000000000<=t.Low/\t.Low<=1000000000)=f
  generalize decide (-1000000000<=t.High/\t.High<=1000000000)=g
  generalize decide (t.Low<=t.High)=h
  cases a <;> cases b <;> cases c <;> cases d <;> cases e <;> cases f <;> cases g <;> cases h <;> rfl
 rw[e]
 simp only[dqm,Bool.or_eq_true,decide_eq_true_eq,Bool.not_eq_true',dqU,beq_iff_eq]
 constructor
 ·rintro⟨⟨a,b⟩,⟨c,d⟩,e,f,g,h⟩;exact⟨a,b,c,d,e,f,g,h⟩
 ·rintro⟨a,b,c,d,e,f,g,h⟩;exact⟨⟨a,b⟩,⟨c,d⟩,e,f,g,h⟩
structure NetOk (n : Net) : Prop where
  n1:1<=n.Nodes
  n40:n.Nodes<=40
  len:n.Ties.len<=200
  tie:∀ i,i < n.Ties.len->TieOk (n.Ties.get i) n.Nodes
theorem zrm (n:Net) (hn:n.Ties.len<=9223372036854775807):p67 n=true/\(s67 n=true↔NetOk n):=by
 obtain⟨h1,h2⟩:=zDt n hn
 refine⟨h1,h2.trans ?_⟩
 constructor
 ·rintro⟨a,⟨b,c⟩,d⟩;exact⟨b,c,by omega,λ i hi=>(zzA _ _ b c).1 (a i hi)⟩
 ·rintro⟨b,c,d,a⟩;exact⟨λ i hi=>(zzA _ _ b c).2 (a i hi),⟨b,c⟩,by omega⟩
theorem zKz (n:Net) (hn:n.Ties.len<=9223372036854775807):p23 n=true/\s23 n=s67 n:=by
  have hl := zsJ (good := fun i => s36 n.Nodes (n.Ties.get i)) (fin := true) (n := n.Ties.len) (lpS := zg9 n) (lpP := ziM n)
    (λ k i hi=>by
      show ziK n (zg9 n k) (i:Int)=_
      generalize zg9 n k=S
      unfold ziK zqQ
      rw[dqT (show (i:Int) < (n.Ties.len:Int) by omega),dqA,dqN]
      cases s36 n.Nodes (n.Ties.get i) <;> rfl)
    (λ k=>by
      show ziK n (zg9 n k) (n.Ties.len:Int)=_
      unfold ziK
      rw[dqF (show ¬ (n.Ties.len:Int) < (n.Ties.len:Int) by omega),dqB])
    (λ k i hi=>by
      show ziL n (ziM n k) (i:Int)=_
      generalize ziM n k=S
      unfold ziL zqR
      rw[dqT (show (i:Int) < (n.Ties.len:Int) by omega),dqA,dqN,dqT (show 0<=(i:Int)/\(i:Int) < (n.Ties.len:Int) by omega),Bool.true_and]
      cases s36 n.Nodes (n.Ties.get i) <;> rfl)
    (λ k=>by
      show ziL n (ziM n k) (n.Ties.len:Int)=_
      unfold ziL
      rw[dqF (show ¬ (n.Ties.len:Int) < (n.Ties.len:Int) by omega),dqB])
    hn
  obtain⟨h1,h2⟩:=zDt n hn
  unfold p23 s23 znv znu zqV zqU zqT zqS
  rw[hl.1,zDs,dgt]
  refine⟨by cases decide (1<=n.Nodes/\n.Nodes<=40) <;> cases decide ((n.Ties.len:Int)<=200) <;> rfl,?_⟩
  have h3:=hl.2
  have h4:zg9 n Fuel 0=true↔∀ i,i < n.Ties.len->s78 (n.Ties.get i) n.Nodes=true:=h3.trans ⟨λ h i hi=>by rw[<- zDu];exact h.1 i hi,λ h=>⟨λ i hi=>by rw[zDu];exact h i hi,rfl⟩⟩
  rw[Bool.eq_iff_iff,h2]
  by_cases a:1<=n.Nodes/\n.Nodes<=40
  · rw [dqT a]
    by_cases b:(n.Ties.len:Int)<=200
    · rw[dqT b];exact h4.trans ⟨λ h=>⟨h,a,by omega⟩,λ h=>h.1⟩
    · rw[dqF b];exact⟨λ h=>absurd h dqk,λ h=>absurd h.2.2 (by omega)⟩
  · rw[dqF a];exact⟨λ h=>absurd h dqk,λ h=>absurd h.2.1 a⟩
structure ValOk (n : Net) (v : Sl Int) : Prop where
  len:(v.len:Int)=n.Nodes
  zero:v.get 0=0
  b:∀ i,i < v.len->-1000000000000<=v.get i/\v.get i<=1000000000000
def Keep (t:Tie) (v:Sl Int):Prop:=(t.Low = -1000000000000\/t.Low<=v.get t.To.toNat - v.get t.From.toNat)/\(t.High=1000000000000\/v.get t.To.toNat - v.get t.From.toNat<=t.High)
structure AgOk (n : Net) (v : Sl Int) : Prop where
  val:ValOk n v
  keep:∀ i,i < n.Ties.len->Keep (n.Ties.get i) v
theorem zzB {n:Net}{t:Int}(h:s20 n t=true) (ht:t<=210):n.Ties.len<=210:=by
 unfold s20 at h
 by_cases h1:(n.Ties.len:Int)<=t
 ·omega
 ·by_cases h2 : (n.Ties.len : Int) ≤ 210
  ·omega
  ·rw [dqF h1, dqF h2] at h
   exact absurd h (by cases decide (n.Nodes<=7) <;> cases decide (n.Nodes > 40) <;> cases decide ((n.Ties.len:Int) > 200) <;> decide)
end Go.Proofs
namespace Go.Pm
structure Ed where
  u:Nat
  v:Nat
  w:Int
def wt : List Ed → Int
  | []=>0
  | e :: l=>e.w+wt l
theorem zdz (c d:List Ed):wt (c ++ d)=wt c+wt d:=by
 induction c with
 | nil=>show wt d=0+wt d;omega
 | cons e l ih=>show e.w+wt (l ++ d)=e.w+wt l+wt d;omega
theorem zgN (e:Ed):wt [e]=e.w:=Int.add_zero _
def zd9 (E : List Ed) : Nat → List Ed → Nat → Prop
  | a,[],b=>a=b
  | a,e :: l,b=>e∈E/\e.u=a/\zd9 E e.v l b
theorem zbT {E:List Ed}{c d:List Ed}{a b:Nat} : zd9 E a (c ++ d) b↔∃ m,zd9 E a c m/\zd9 E m d b:=by
 induction c generalizing a with
 | nil=>exact⟨λ h=>⟨a,rfl,h⟩,λ ⟨m,h1,h2⟩=>by cases h1;exact h2⟩
 | cons e l ih =>
  constructor
  ·rintro ⟨h1, h2, h3⟩
   obtain⟨m,k1,k2⟩:=ih.1 h3
   exact⟨m,⟨h1,h2,k1⟩,k2⟩
  ·rintro ⟨m, ⟨h1, h2, h3⟩, h4⟩
   exact⟨h1,h2,ih.2 ⟨m,h3,h4⟩⟩
theorem zdL {E:List Ed}{e:Ed}(h:e∈E):zd9 E e.u [e] e.v:=⟨h,rfl,rfl⟩
def zbS (E:List Ed):Prop:=∀ a c,zd9 E a c a->0<=wt c
abbrev zbG:=Nat->Option Int
def zlg (d:zbG) (v:Nat) (x:Int):zbG:=λ j=>if j=v then some x else d j
def ltO (x : Int) : Option Int → Bool
  | none=>true
  | some y=>decide (x < y)
def rlF (s:zbG×Bool) (e:Ed):zbG×Bool :=
 match s.1 e.u with
 | none=>s
 | some x=>cond (ltO (x+e.w) (s.1 e.v)) (zlg s.1 e.v (x+e.w),true) s
def Sat (d:zbG) (e:Ed):Prop:=∀ x,d e.u=some x->∃ y,d e.v=some y/\y<=x+e.w
theorem zlh {x:Int}{o:Option Int}(h:ltO x o=false):∃ y,o=some y/\y<=x:=by
 cases o with
 | none=>cases h
 | some y=>exact⟨y,rfl,Int.not_lt.1 (of_decide_eq_false h)⟩
theorem zKA {x y:Int}(h:y<=x):ltO x (some y)=false:=dqF (Int.not_lt.2 h)
theorem zrn {d:zbG}{c:Bool}{e:Ed}(h:Sat d e):rlF (d,c) e=(d,c):=by
 unfold rlF
 cases hu:d e.u with
 | none=>simp only[hu]
 | some x =>
  obtain⟨y,h1,h2⟩:=h x hu
  simp only[hu,h1,zKA h2,dqB]
theorem zzC {d:zbG}{c:Bool}{e:Ed}(h : ¬ Sat d e):(rlF (d,c) e).2=true:=by
 unfold rlF
 cases hu:d e.u with
 | none=>exact absurd (λ x hx=>by rw[hu] at hx;cases hx) h
 | some x =>
  simp only[hu]
  cases hl:ltO (x+e.w) (d e.v)
  ·obtain ⟨y, h1, h2⟩ := zlh hl
   exact absurd (λ x' hx'=>⟨y,h1,by rw[hu] at hx';cases hx';exact h2⟩) h
  ·rfl
theorem zBU {s:zbG×Bool}{e:Ed}(h:s.2=true):(rlF s e).2=true:=by
 unfold rlF
 cases s.1 e.u with
 | none=>exact h
 | some x=>simp only[];cases ltO (x+e.w) (s.1 e.v) <;> first | exact h | rfl
theorem zzD {E:List Ed}{s:zbG×Bool}(h:s.2=true):(E.foldl rlF s).2=true:=by
 induction E generalizing s with
 | nil=>exact h
 | cons e l ih=>exact ih (zBU h)
theorem zBV {E:List Ed}{d:zbG}{c:Bool}(h:∀ e∈E,Sat d e):E.foldl rlF (d,c)=(d,c):=by
 induction E with
 | nil=>rfl
 | cons e l ih =>
  show l.foldl rlF (rlF (d,c) e)=_
  rw[zrn (h e (dqj ..))]
  exact ih λ e he=>h e (dqf _ he)
theorem ztK {E:List Ed}{d:zbG}{c:Bool}(h:(E.foldl rlF (d,c)).2=false):∀ e∈E,Sat d e:=by
 induction E with
 | nil=>intro e he;cases he
 | cons e l ih =>
  have h':(l.foldl rlF (rlF (d,c) e)).2=false:=h
  have hs:Sat d e:=Classical.byContradiction λ hn=>by
   rw[zzD (zzC hn)] at h';cases h'
  rw[zrn hs] at h'
  intro e' he'
  rcases dqq.1 he' with rfl | hm
  ·exact hs
  ·exact ih h' e' hm
def leO (a b:Option Int):Prop:=∀ y,b=some y->∃ x,a=some x/\x<=y
theorem zcF (a:Option Int):leO a a:=λ y h=>⟨y,h,Int.le_refl _⟩
theorem zcc {a b c:Option Int}(h1:leO a b) (h2:leO b c):leO a c:=λ y h=>by
 obtain⟨x,hx,hxy⟩:=h2 y h
 obtain⟨z,hz,hzx⟩:=h1 x hx
 exact⟨z,hz,Int.le_trans hzx hxy⟩
theorem zzE (s:zbG×Bool) (e:Ed) (v:Nat):leO ((rlF s e).1 v) (s.1 v):=by
 unfold rlF
 cases hu:s.1 e.u with
 | none=>exact zcF _
 | some x =>
  simp only[]
  cases hl:ltO (x+e.w) (s.1 e.v)
  ·exact zcF _
  ·show leO (zlg s.1 e.v (x + e.w) v) _
   unfold zlg
   by_cases hv:v=e.v
   ·rw [dqP hv]
    intro y hy
    refine⟨_,rfl,?_⟩
    rw[hv] at hy
    rw[hy] at hl
    exact Int.le_of_lt (of_decide_eq_true hl)
   ·rw[dqG hv];exact zcF _
theorem zzF (E:List Ed) (s:zbG×Bool) (v:Nat):leO ((E.foldl rlF s).1 v) (s.1 v):=by
 induction E generalizing s with
 | nil=>exact zcF _
 | cons e l ih=>exact zcc (ih (rlF s e)) (zzE s e v)
theorem zKB {s:zbG×Bool}{e:Ed}{x:Int}(h:s.1 e.u=some x):leO ((rlF s e).1 e.v) (some (x+e.w)):=by
 unfold rlF
 simp only[h]
 cases hl:ltO (x+e.w) (s.1 e.v)
 ·obtain ⟨y, h1, h2⟩ := zlh hl
  intro z hz;cases hz
  exact⟨y,h1,h2⟩
 ·intro z hz; cases hz
  exact⟨x+e.w,by show zlg s.1 e.v (x+e.w) e.v=_;unfold zlg;rw[dqP rfl],Int.le_refl _⟩
theorem zBW {E:List Ed}{s:zbG×Bool}{e:Ed}{x:Int}(he:e∈E) (h:s.1 e.u=some x):leO ((E.foldl rlF s).1 e.v) (some (x+e.w)):=by
 induction E generalizing s x with
 | nil=>cases he
 | cons f l ih =>
  rcases dqq.1 he with rfl | hm
  ·exact zcc (zzF l (rlF s e) e.v) (zKB h)
  ·obtain ⟨x', h1, h2⟩ := zzE s f e.u x h
   intro z hz;cases hz
   obtain⟨y,k1,k2⟩:=ih hm h1 _ rfl
   exact⟨y,k1,by omega⟩
def rnd (E:List Ed) (d:zbG):zbG:=(E.foldl rlF (d,false)).1
def rds (E : List Ed) : Nat → zbG → zbG
  | 0,d=>d
  | k+1,d=>rds E k (rnd E d)
theorem zsN (E:List Ed) (k:Nat) (d:zbG) (v:Nat):leO (rds E k d v) (d v):=by
 induction k generalizing d with
 | zero=>exact zcF _
 | succ k ih=>exact zcc (ih (rnd E d)) (zzF E (d,false) v)
theorem zKC {E:List Ed}{c:List Ed} : ∀ {a b k:Nat}{d:zbG}{y:Int},zd9 E a c b->d a=some y->c.length<=k->leO (rds E k d b) (some (y+wt c)):=by
 induction c with
 | nil =>
  intro a b k d y h hd _
  cases h
  intro z hz;cases hz
  obtain⟨x,h1,h2⟩:=zsN E k d a y hd
  exact⟨x,h1,by show x<=y+0;omega⟩
 | cons e l ih =>
  intro a b k d y h hd hk
  obtain⟨k,rfl⟩:∃ k',k=k'+1:=⟨k - 1,by simp only[dqr] at hk;omega⟩
  obtain⟨h1,h2,h3⟩:=h
  subst h2
  obtain⟨x,k1,k2⟩:=zBW (s:=(d,false)) h1 hd _ rfl
  intro z hz;cases hz
  obtain⟨z,m1,m2⟩:=ih (k:=k) (d:=rnd E d) h3 k1 (by simp only[dqr] at hk;omega) _ rfl
  exact⟨z,m1,by show z<=y+(e.w+wt l);omega⟩
def Fix (E:List Ed) (d:zbG):Prop:=∀ e∈E,Sat d e
theorem zhR (n:Nat):∀ {l:List Nat},l.Nodup->(∀ x∈l,x < n)->l.length<=n:=by
 induction n with
 | zero =>
  intro l _ h
  cases l with
  | nil=>exact dqt _
  | cons x l=>exact absurd (h x (dqj ..)) (dqW _)
 | succ n ih =>
  intro l hd h
  have h1:=ih (l:=l.filter (λ x=>x != n)) (hd.filter _) (λ x hx=>by
   obtain⟨hx1,hx2⟩:=List.mem_filter.1 hx
   have:=h x hx1
   have:x ≠ n:=by simpa using hx2
   omega)
  have h2:l.length<=(l.filter (λ x=>x != n)).length+1:=by
   clear h1 ih h
   induction l with
   | nil=>exact Nat.zero_le _
   | cons x l ihl =>
    rw[List.nodup_cons] at hd
    by_cases hx:x=n
    ·subst hx
     have:l.filter (λ y=>y != x)=l:=List.filter_eq_self.2 λ y hy=>by
      have:y ≠ x:=λ e=>hd.1 (e ▸ hy)
      simpa using this
     rw[List.filter_cons_of_neg (by simp),this]
     exact dqt _
    ·rw [List.filter_cons_of_pos (by simpa using hx)]
     have:=ihl hd.2
     simp only[dqr];omega
  omega
def nodes (a:Nat) (c:List Ed):List Nat:=a :: c.map Ed.v
theorem zli (a:Nat) (c:List Ed):(nodes a c).length=c.length+1:=by simp[nodes]
theorem zsO {E:List Ed}{c:List Ed} : ∀ {a b m:Nat},zd9 E a c b->m∈nodes a c->∃ c1 c2,c=c1 ++ c2/\zd9 E a c1 m/\zd9 E m c2 b:=by
 induction c with
 | nil =>
  intro a b m h hm
  have:m=a:=by simpa [nodes] using hm
  subst this
  exact⟨[],[],rfl,rfl,h⟩
 | cons e l ih =>
  intro a b m h hm
  rcases dqq.1 hm with rfl | hm'
  ·exact⟨[],e :: l,rfl,rfl,h⟩
  ·obtain ⟨h1, h2, h3⟩ := h
   obtain⟨c1,c2,k1,k2,k3⟩:=ih h3 (m:=m) (by simpa [nodes] using hm')
   exact⟨e :: c1,c2,by rw[k1];rfl,⟨h1,h2,k2⟩,k3⟩
structure Att (E : List Ed) (Src : Nat → Prop) (d : zbG) (v : Nat) (x : Int) (a : Nat) (c : List Ed) : Prop where
  src:Src a
  ch:zd9 E a c v
  wt:x=wt c
  nd:(nodes a c).Nodup
  pre:∀ c1 c2 m,c=c1 ++ c2->zd9 E a c1 m->leO (d m) (some (Go.Pm.wt c1))
def Inv (E:List Ed) (Src:Nat->Prop) (d:zbG):Prop:=∀ v x,d v=some x->∃ a c,Att E Src d v x a c
theorem zDv {d d':zbG}{E:List Ed}{Src:Nat->Prop}{v:Nat}{x:Int}{a:Nat}{c:List Ed}(h:Att E Src d v x a c) (hd:∀ m,leO (d' m) (d m)):Att E Src d' v x a c :=
 ⟨h.src,h.ch,h.wt,h.nd,λ c1 c2 m h1 h2=>zcc (hd m) (h.pre c1 c2 m h1 h2)⟩
theorem zjU {d:zbG}{E:List Ed}{Src:Nat->Prop}(hn:zbS E){e:Ed}(he:e∈E){x:Int}{a:Nat}{c:List Ed}(h:Att E Src d e.u x a c) (hm:e.v∈nodes a c):leO (d e.v) (some (x+e.w)):=by
 obtain⟨c1,c2,k1,k2,k3⟩:=zsO h.ch hm
 have hc:=hn e.v (c2 ++ [e]) (zbT.2 ⟨e.u,k3,zdL he⟩)
 rw[zdz,zgN] at hc
 have hx:=h.wt
 rw[k1,zdz] at hx
 obtain⟨y,m1,m2⟩:=h.pre c1 c2 e.v k1 k2 _ rfl
 intro z hz;cases hz
 exact⟨y,m1,by omega⟩
theorem zsP {E:List Ed}{c:List Ed} : ∀ {a b b':Nat},zd9 E a c b->zd9 E a c b'->b=b':=by
 induction c with
 | nil=>intro a b b' h1 h2;cases h1;cases h2;rfl
 | cons e l ih=>rintro a b b' ⟨_,_,h1⟩ ⟨_,_,h2⟩;exact ih h1 h2
theorem zhS {c c1 c2:List Ed}{e:Ed}(h:c ++ [e]=c1 ++ c2):c1=c ++ [e]\/∃ c3,c=c1 ++ c3:=by
 rcases List.append_eq_append_iff.1 h with ⟨a',h1,h2⟩ | ⟨c',h1,_⟩
 ·cases a' with
  | nil=>exact .inr ⟨[],by rw[h1];simp⟩
  | cons f a'' =>
   have:a''=[]/\c2=[]:=by
    cases a'' with
    | nil=>simp at h2;exact⟨rfl,h2.2⟩
    | cons g b=>simp at h2
   obtain⟨rfl,rfl⟩:=this
   simp at h2
   exact .inl (by rw[h1,h2])
 ·exact .inr ⟨c',h1⟩
theorem zHn {E:List Ed}{Src:Nat->Prop}(hn:zbS E){s:zbG×Bool}{e:Ed}(he:e∈E) (h:Inv E Src s.1):Inv E Src (rlF s e).1:=by
 intro v x hx
 have hle:=zzE s e
 unfold rlF at hx hle ⊢
 cases hu:s.1 e.u with
 | none =>
  simp only[hu] at hx ⊢
  obtain⟨a,c,hc⟩:=h v x hx
  exact⟨a,c,hc⟩
 | some y =>
  simp only[hu] at hx hle ⊢
  cases hl:ltO (y+e.w) (s.1 e.v) with
  | false =>
   simp only[hl,dqB] at hx ⊢
   exact h v x hx
  | true =>
   simp only[hl,dqA] at hx hle ⊢
   by_cases hv:v=e.v
   ·subst hv
    have hx':y+e.w=x:=by
     unfold zlg at hx;rw[dqP rfl] at hx;exact Option.some.inj hx
    obtain⟨a,c,hc⟩:=h e.u y hu
    have hnot:e.v ∉ nodes a c:=λ hm=>by
     obtain⟨z,h1,h2⟩:=zjU hn he hc hm _ rfl
     rw[h1] at hl
     have:=of_decide_eq_true hl
     omega
    refine⟨a,c ++ [e],hc.src,zbT.2 ⟨e.u,hc.ch,zdL he⟩,by rw[zdz,zgN,<- hc.wt];omega,?_,?_⟩
    ·show (a :: (c ++ [e]).map Ed.v).Nodup
     rw[List.map_append,<- List.cons_append]
     refine List.nodup_append.2 ⟨hc.nd,by simp,λ p hp q hq=>?_⟩
     have:q=e.v:=by simpa using hq
     subst this
     exact λ e'=>hnot (e' ▸ hp)
    ·intro c1 c2 m h1 h2
     rcases zhS h1 with rfl | ⟨c3,h3⟩
     ·have : m = e.v := zsP h2 (zbT.2 ⟨e.u, hc.ch, zdL he⟩)
      subst this
      intro z hz;cases hz
      refine⟨x,hx,?_⟩
      rw[zdz,zgN,<- hc.wt];omega
     ·exact zcc (hle m) (hc.pre c1 c3 m h3 h2)
   ·have hx':s.1 v=some x:=by
     unfold zlg at hx;rw[dqG hv] at hx;exact hx
    obtain⟨a,c,hc⟩:=h v x hx'
    exact⟨a,c,zDv hc hle⟩
theorem zBX {E F:List Ed}{Src:Nat->Prop}(hn:zbS E) (hF:∀ e∈F,e∈E){s:zbG×Bool}(h:Inv E Src s.1):Inv E Src (F.foldl rlF s).1:=by
 induction F generalizing s with
 | nil=>exact h
 | cons e l ih=>exact ih (λ e he=>hF e (dqf _ he)) (zHn hn (hF e (dqj ..)) h)
theorem zzG {E:List Ed}{Src:Nat->Prop}(hn:zbS E) (k:Nat){d:zbG}(h:Inv E Src d):Inv E Src (rds E k d):=by
 induction k generalizing d with
 | zero=>exact h
 | succ k ih=>exact ih (zBX hn (λ _ h=>h) (s:=(d,false)) h)
structure Start (Src : Nat → Prop) (d : zbG) : Prop where
  only:∀ v x,d v=Option.some x->Src v/\x=0
  src:∀ v,Src v->d v=Option.some 0
theorem zlj {E:List Ed}{Src:Nat->Prop}{d:zbG}(h:Start Src d):Inv E Src d:=λ v x hx=>by
 obtain⟨h1,h2⟩:=h.only v x hx
 refine⟨v,[],h1,rfl,h2,by simp[nodes],λ c1 c2 m e hc=>?_⟩
 have:c1=[]:=by
  cases c1 with
  | nil=>rfl
  | cons _ _=>cases e
 subst this
 cases hc
 rw[hx,h2]
 exact zcF _
theorem zhT {E:List Ed}{n:Nat}(hE:∀ e∈E,e.u < n/\e.v < n){c:List Ed} : ∀ {a b:Nat},a < n->zd9 E a c b->∀ x∈nodes a c,x < n:=by
  induction c with
  | nil => intro a b ha _ x hx; have : x = a := by simpa [nodes] using hx
           omega
  | cons e l ih =>
    rintro a b ha ⟨h1,h2,h3⟩ x hx
    rcases dqq.1 hx with rfl | hm
    · exact ha
    · exact ih (hE e h1).2 h3 x (by simpa [nodes] using hm)
theorem zHo {E:List Ed}{n:Nat}{Src:Nat->Prop}(hE:∀ e∈E,e.u < n/\e.v < n) (hS:∀ a,Src a->a < n){d:zbG}{v:Nat}{x:Int}{a:Nat}{c:List Ed}(h:Att E Src d v x a c):c.length+1<=n:=by
 have:=zhR n h.nd (zhT hE (hS a h.src) h.ch)
 rwa[zli] at this
theorem zDw {E:List Ed}{n:Nat}{Src:Nat->Prop}(hn:zbS E) (hE:∀ e∈E,e.u < n/\e.v < n) (hS:∀ a,Src a->a < n){d:zbG}(h0:Start Src d):Fix E (rds E (n - 1) d):=by
 intro e he x hx
 obtain⟨a,c,hc⟩:=zzG hn (n - 1) (zlj (E:=E) h0) e.u x hx
 by_cases hm:e.v∈nodes a c
 ·exact zjU hn he hc hm _ rfl
 ·have hlen:(c ++ [e]).length<=n - 1:=by
   have hnd:(nodes a (c ++ [e])).Nodup:=by
    show (a :: (c ++ [e]).map Ed.v).Nodup
    rw[List.map_append,<- List.cons_append]
    refine List.nodup_append.2 ⟨hc.nd,by simp,λ p hp q hq=>?_⟩
    have:q=e.v:=by simpa using hq
    subst this
    exact λ e'=>hm (e' ▸ hp)
   have hch:zd9 E a (c ++ [e]) e.v:=zbT.2 ⟨e.u,hc.ch,zdL he⟩
   have:=zhR n hnd (zhT hE (hS a hc.src) hch)
   rw[zli] at this
   omega
  have:=zKC (zbT.2 ⟨e.u,hc.ch,zdL he⟩) (h0.src a hc.src) hlen _ rfl
  rw[zdz,zgN,<- hc.wt] at this
  obtain⟨z,h1,h2⟩:=this
  exact⟨z,h1,by omega⟩
theorem zKD {E:List Ed}{f:Nat->Int}(h:∀ e∈E,f e.v<=f e.u+e.w){c:List Ed} : ∀ {a b:Nat},zd9 E a c b->f b<=f a+wt c:=by
 induction c with
 | nil=>intro a b hc;cases hc;show f a<=f a+0;omega
 | cons e l ih =>
  rintro a b ⟨h1,h2,h3⟩
  subst h2
  have:=ih h3
  have:=h e h1
  show f b<=f e.u+(e.w+wt l);omega
theorem zo5 {E:List Ed}{f:Nat->Int}(h:∀ e∈E,f e.v<=f e.u+e.w):zbS E:=λ a c hc=>by
 have:=zKD h hc;omega
end Go.Pm
namespace Go.Pm
theorem zDx {E:List Ed}{f:Ed->Ed}(hu:∀ e,(f e).u=e.u) (hv:∀ e,(f e).v=e.v){c:List Ed} : ∀ {a b:Nat},zd9 (E.map f) a c b->∃ c0,c=c0.map f/\zd9 E a c0 b:=by
 induction c with
 | nil=>intro a b h;exact⟨[],rfl,h⟩
 | cons e l ih =>
  rintro a b ⟨h1,h2,h3⟩
  obtain⟨e0,k1,rfl⟩:=dqz.1 h1
  obtain⟨c0,k2,k3⟩:=ih h3
  exact⟨e0 :: c0,by rw[k2];rfl,k1,by rw[<- hu];exact h2,by rw[<- hv];exact k3⟩
def edM (e:Ed):Ed:=⟨e.u,e.v,e.w * 1048576+1⟩
def edR (e:Ed):Ed:=⟨e.v,e.u,e.w⟩
theorem zNs (c:List Ed):wt (c.map edM)=wt c * 1048576+c.length:=by
 induction c with
 | nil=>rfl
 | cons e l ih =>
  show e.w * 1048576+1+wt (l.map edM)=(e.w+wt l) * 1048576+((l.length+1:Nat):Int)
  omega
theorem zOB (c:List Ed):wt (c.reverse.map edR)=wt c:=by
 induction c with
 | nil=>rfl
 | cons e l ih =>
  rw[List.reverse_cons,List.map_append,zdz,ih]
  show wt l+wt [edR e]=e.w+wt l
  rw[zgN]
  show wt l+e.w=_
  omega
theorem zOC {E:List Ed}{c:List Ed} : ∀ {a b:Nat},zd9 E a c b->zd9 (E.map edR) b (c.reverse.map edR) a:=by
 induction c with
 | nil=>intro a b h;exact Eq.symm h
 | cons e l ih =>
  rintro a b ⟨h1,h2,h3⟩
  rw[List.reverse_cons,List.map_append]
  exact zbT.2 ⟨e.v,ih h3,List.mem_map_of_mem h1,rfl,h2⟩
theorem zKE (E:List Ed):(E.map edR).map edR=E:=by
 rw[List.map_map]
 exact (List.map_congr_left λ e _=>rfl).trans (List.map_id E)
theorem zMN {E:List Ed}{c:List Ed}{a b:Nat}(h:zd9 (E.map edR) a c b):∃ c0,zd9 E b c0 a/\wt c0=wt c/\c0.length=c.length:=by
 have:=zOC h
 rw[zKE] at this
 exact⟨_,this,zOB c,by simp⟩
theorem zzH {E:List Ed}(h:zbS E):zbS (E.map edM):=λ a c hc=>by
 obtain⟨c0,rfl,h1⟩:=zDx (f:=edM) (λ _=>rfl) (λ _=>rfl) hc
 rw[zNs]
 have:=h a c0 h1
 omega
theorem zDy {E F:List Ed}(h:∀ e∈E,e∈F){c:List Ed} : ∀ {a b:Nat},zd9 E a c b->zd9 F a c b:=by
 induction c with
 | nil=>intro a b h;exact h
 | cons e l ih=>rintro a b ⟨h1,h2,h3⟩;exact⟨h e h1,h2,ih h3⟩
theorem zd3 {E F:List Ed}(h:∀ e∈E,e∈F) (hF:zbS F):zbS E:=λ a c hc=>hF a c (zDy h hc)
def zOD : Option Int → Int × Int
  | none=>((1000000000000:Int),(0:Int))
  | some x=>(x / 1048576,x % 1048576)
def zAh (s:Nat):zbG:=λ v=>if v=s then some 0 else none
theorem zl9 (s:Nat):Start (λ v=>v=s) (zAh s) :=
 ⟨λ v x h=>(by
  unfold zAh at h
  by_cases hv:v=s
  ·rw[dqP hv] at h;cases h;exact⟨hv,rfl⟩
  ·rw[dqG hv] at h;cases h),λ v h=>dqP h⟩
structure EdOk (E : List Ed) (n : Nat) : Prop where
  lt:∀ e∈E,e.u < n/\e.v < n
  w:∀ e∈E,-1000000000<=e.w/\e.w<=1000000000
  n1:1<=n
  n40:n<=40
theorem EdOk.R {E:List Ed}{n:Nat}(h:EdOk E n):EdOk (E.map edR) n :=
  ⟨λ e he=>(by obtain⟨f,h1,rfl⟩:=dqz.1 he;exact⟨(h.lt f h1).2,(h.lt f h1).1⟩),
   λ e he=>(by obtain⟨f,h1,rfl⟩:=dqz.1 he;exact h.w f h1),h.n1,h.n40⟩
theorem EdOk.ltM {E:List Ed}{n:Nat}(h:EdOk E n):∀ e∈E.map edM,e.u < n/\e.v < n :=
 λ e he=>by obtain⟨f,h1,rfl⟩:=dqz.1 he;exact h.lt f h1
theorem zBY {E:List Ed}{n:Nat}(h:EdOk E n){c:List Ed} : ∀ {a b:Nat},zd9 E a c b->-1000000000 * (c.length:Int)<=wt c/\wt c<=1000000000 * (c.length:Int):=by
 induction c with
 | nil=>intro a b _;exact⟨(by show _<=(0:Int);simp),(by show (0:Int)<=_;simp)⟩
 | cons e l ih =>
  rintro a b ⟨h1,_,h3⟩
  have:=ih h3
  have:=h.w e h1
  show _<=e.w+wt l/\e.w+wt l<=_
  simp only[dqr]
  omega
structure Ent (E : List Ed) (n s v : Nat) (x L U : Int) (c : List Ed) : Prop where
  ch:zd9 E s c v
  x:x=L * 1048576+U
  L:L=wt c
  U:U=c.length
  len:c.length < n
theorem zKF {E:List Ed}{n:Nat}(hE:EdOk E n){s:Nat}(hs:s < n){d:zbG}(hd:Inv (E.map edM) (λ v=>v=s) d){v:Nat}{x:Int}(hx:d v=some x):∃ c,Ent E n s v x (wt c) c.length c:=by
 obtain⟨a,c,hc⟩:=hd v x hx
 have hl:=zHo hE.ltM (λ a ha=>Nat.lt_of_le_of_lt (Nat.le_of_eq ha) hs) hc
 obtain⟨c0,rfl,h1⟩:=zDx (f:=edM) (λ _=>rfl) (λ _=>rfl) hc.ch
 obtain rfl:a=s:=hc.src
 exact⟨c0,h1,by rw[hc.wt,zNs],rfl,rfl,by rw[List.length_map] at hl;omega⟩
def dst (E:List Ed) (n s:Nat):zbG:=rds (E.map edM) (n - 1) (zAh s)
theorem zHp {E:List Ed}{n s:Nat}(hn:zbS E):Inv (E.map edM) (λ v=>v=s) (dst E n s):=zzG (zzH hn) _ (zlj (zl9 s))
theorem zHq {E:List Ed}{n s:Nat}(hE:EdOk E n) (hn:zbS E) (hs:s < n):Fix (E.map edM) (dst E n s):=zDw (zzH hn) hE.ltM (λ a ha=>Nat.lt_of_le_of_lt (Nat.le_of_eq ha) hs) (zl9 s)
theorem dst_at {E:List Ed}{n s v:Nat}(hE:EdOk E n) (hn:zbS E) (hs:s < n){x:Int}(hx:dst E n s v=some x):∃ c,Ent E n s v x (wt c) c.length c:=zKF hE hs (zHp hn) hx
theorem zBZ {E:List Ed}{n s:Nat} : ∃ x,dst E n s s=some x:=by
 obtain⟨x,h,_⟩:=zsN (E.map edM) (n - 1) (zAh s) s 0 (dqP rfl)
 exact⟨x,h⟩
theorem zzI {E:List Ed}{n s:Nat}(hE:EdOk E n) (hn:zbS E) (hs:s < n){c:List Ed} : ∀ {a v:Nat}{x:Int},dst E n s a=some x->zd9 E a c v->∃ y,dst E n s v=some y/\y / 1048576<=x / 1048576+wt c:=by
 induction c with
 | nil=>intro a v x hx h;cases h;exact⟨x,hx,by show _<=_+(0:Int);omega⟩
 | cons e l ih =>
  rintro a v x hx ⟨h1,h2,h3⟩
  subst h2
  obtain⟨y,k1,k2⟩:=zHq hE hn hs (edM e) (List.mem_map_of_mem h1) x hx
  obtain⟨z,m1,m2⟩:=ih (a:=e.v) k1 h3
  obtain⟨c1,hc1⟩:=dst_at hE hn hs hx
  obtain⟨c2,hc2⟩:=dst_at hE hn hs (show dst E n s e.v=some y from k1)
  refine⟨z,m1,?_⟩
  have k2':y<=x+(e.w * 1048576+1):=k2
  have:=hE.n40
  have:=hc1.len
  have:=hc1.x
  have:=hc2.len
  have:=hc2.x
  show _<=_+(e.w+wt l)
  omega
theorem zHr {E:List Ed}{n s v:Nat}(hE:EdOk E n) (hn:zbS E) (hs:s < n){c:List Ed}(hc:zd9 E s c v):∃ x,dst E n s v=some x/\x / 1048576<=wt c:=by
 obtain⟨x0,h1⟩:=zBZ (E:=E) (n:=n) (s:=s)
 obtain⟨y,k1,k2⟩:=zzI hE hn hs h1 hc
 have h3:x0<=0:=by
  obtain⟨x',h1',h2'⟩:=zsN (E.map edM) (n - 1) (zAh s) s 0 (dqP rfl)
  have:x'=x0:=Option.some.inj (h1'.symm.trans h1)
  omega
 exact⟨y,k1,by omega⟩
def ztR (o:Option Int):Int:=(zOD o).1
theorem zzJ {E:List Ed}{n s v:Nat}(hE:EdOk E n) (hn:zbS E) (hs:s < n){x:Int}(hx:dst E n s v=some x):∃ c,zd9 E s c v/\ztR (dst E n s v)=wt c/\c.length < n:=by
 obtain⟨c,hc⟩:=dst_at hE hn hs hx
 refine⟨c,hc.ch,?_,hc.len⟩
 rw[hx]
 show x / 1048576=_
 have:=hc.x;have:=hc.len;have:=hE.n40
 omega
theorem zHs {E:List Ed}{n s v:Nat}(hE:EdOk E n) (hn:zbS E) (hs:s < n){c:List Ed}(hc:zd9 E s c v):ztR (dst E n s v)<=wt c:=by
 obtain⟨x,h1,h2⟩:=zHr hE hn hs hc
 rw[h1];exact h2
theorem zma {E:List Ed}{n s v:Nat}(hE:EdOk E n) (hn:zbS E) (hs:s < n):(dst E n s v=none/\ztR (dst E n s v)=1000000000000)\/∃ c,dst E n s v ≠ none/\zd9 E s c v/\ztR (dst E n s v)=wt c/\c.length < n/\-40000000000<=wt c/\wt c<=40000000000:=by
 cases h:dst E n s v with
 | none=>exact .inl ⟨rfl,rfl⟩
 | some x =>
  obtain⟨c,h1,h2,h3⟩:=zzJ hE hn hs h
  have:=zBY hE h1
  have:=hE.n40
  rw[h] at h2
  exact .inr ⟨c,(by intro h;cases h),h1,h2,h3,by omega,by omega⟩
theorem zo6 {E F:List Ed}{n s v:Nat}(hE:EdOk E n) (hF:EdOk F n) (hn:zbS F) (hs:s < n) (h:∀ e∈E,e∈F):ztR (dst F n s v)<=ztR (dst E n s v):=by
 rcases zma (v:=v) hE (zd3 h hn) hs with ⟨_,h2⟩ | ⟨c,_,h1,h2,_⟩
 ·rw [h2]
  rcases zma (v:=v) hF hn hs with ⟨_,h2⟩ | ⟨c,_,_,h2,_,_,_⟩ <;> omega
 ·rw[h2];exact zHs hF hn hs (zDy h h1)
theorem zzK {E F:List Ed}{n s v:Nat}(hE:EdOk E n) (hF:EdOk F n) (hn:zbS F) (hs:s < n) (h:∀ e∈E,e∈F) (h':∀ e∈F,e∈E):ztR (dst F n s v)=ztR (dst E n s v) :=
 Int.le_antisymm (zo6 hE hF hn hs h) (zo6 hF hE (zd3 h hn) hs h')
end Go.Pm
namespace Go.Pm
def znF (E : List Ed) : Nat → zbG → Bool
  | 0,_=>true
  | k+1,d=>cond (E.foldl rlF (d,false)).2 (znF E k (rnd E d)) false
theorem zro {E:List Ed}{k:Nat} : ∀ {m:Nat}{d:zbG},Fix E (rds E k d)->k < m->znF E m d=false:=by
 induction k with
 | zero =>
  intro m d h hm
  obtain⟨m,rfl⟩:∃ m',m=m'+1:=⟨m - 1,by omega⟩
  show cond (E.foldl rlF (d,false)).2 _ _=false
  rw[zBV (show ∀ e∈E,Sat d e from h)];rfl
 | succ k ih =>
  intro m d h hm
  obtain⟨m,rfl⟩:∃ m',m=m'+1:=⟨m - 1,by omega⟩
  show cond (E.foldl rlF (d,false)).2 (znF E m (rnd E d)) false=false
  rw[ih (m:=m) (d:=rnd E d) h (by omega)]
  cases (E.foldl rlF (d,false)).2 <;> rfl
theorem zB0 {E:List Ed}{m:Nat} : ∀ {d:zbG},znF E m d=false->∃ k,Fix E (rds E k d):=by
 induction m with
 | zero=>intro d h;cases h
 | succ m ih =>
  intro d h
  have h':cond (E.foldl rlF (d,false)).2 (znF E m (rnd E d)) false=false:=h
  cases hc:(E.foldl rlF (d,false)).2
  ·exact⟨0,ztK hc⟩
  ·rw [hc] at h'
   obtain⟨k,hk⟩:=ih h'
   exact⟨k+1,hk⟩
def znJ (n:Nat):zbG:=λ v=>if v < n then some 0 else none
theorem zmb (n:Nat):Start (λ v=>v < n) (znJ n) :=
 ⟨λ v x h=>(by
  unfold znJ at h
  by_cases hv:v < n
  ·rw[dqP hv] at h;cases h;exact⟨hv,rfl⟩
  ·rw[dqG hv] at h;cases h),λ v h=>dqP h⟩
theorem zB1 {E:List Ed}{n:Nat}(hE:EdOk E n):znF E n (znJ n)=false↔zbS E:=by
 constructor
 ·intro h
  obtain⟨k,hk⟩:=zB0 h
  have hsome:∀ v,v < n->∃ x,rds E k (znJ n) v=some x:=λ v hv=>by
   obtain⟨x,hx,_⟩:=zsN E k (znJ n) v 0 (dqP hv)
   exact⟨x,hx⟩
  refine zo5 (f:=λ v=>(rds E k (znJ n) v).getD 0) λ e he=>?_
  obtain⟨x,hx⟩:=hsome e.u (hE.lt e he).1
  obtain⟨y,hy,hxy⟩:=hk e he x hx
  show (rds E k (znJ n) e.v).getD 0<=(rds E k (znJ n) e.u).getD 0+e.w
  rw[hx,hy];exact hxy
 ·intro h
  have:=hE.n1
  exact zro (zDw h hE.lt (λ a ha=>ha) (zmb n)) (by omega)
theorem zlk {c:List Ed}(h : ¬ (c.map Ed.v).Nodup):∃ c1 e c2 f c3,c=c1 ++ e :: (c2 ++ f :: c3)/\e.v=f.v:=by
 induction c with
 | nil=>exact absurd (by simp) h
 | cons e l ih =>
  by_cases hm:e.v∈l.map Ed.v
  ·obtain ⟨f, h1, h2⟩ := dqz.1 hm
   obtain⟨c2,c3,h3⟩:=List.append_of_mem h1
   exact⟨[],e,c2,f,c3,by rw[h3];rfl,h2.symm⟩
  ·have : ¬ (l.map Ed.v).Nodup := fun hl => h (by rw [dqK, List.nodup_cons]; exact ⟨hm, hl⟩)
   obtain⟨c1,e',c2,f,c3,h1,h2⟩:=ih this
   exact⟨e :: c1,e',c2,f,c3,by rw[h1];rfl,h2⟩
theorem ztL {E:List Ed}(m:Nat):∀ {a:Nat}{c:List Ed},c.length<=m->zd9 E a c a->wt c < 0->∃ b d,zd9 E b d b/\wt d < 0/\(d.map Ed.v).Nodup:=by
 induction m with
 | zero =>
  intro a c hl _ hw
  have:c=[]:=List.length_eq_zero_iff.1 (by omega)
  subst this
  exact absurd hw (by show ¬ (0:Int) < 0;omega)
 | succ m ih =>
  intro a c hl hc hw
  by_cases hn:(c.map Ed.v).Nodup
  ·exact⟨a,c,hc,hw,hn⟩
  ·obtain ⟨c1, e, c2, f, c3, rfl, hef⟩ := zlk hn
   obtain⟨p,h1,h2,h3,h4⟩:=zbT.1 hc
   obtain⟨q,h5,h6,h7,h8⟩:=zbT.1 h4
   simp only[dqu,dqr] at hl
   have hcy:zd9 E e.v (c2 ++ [f]) e.v:=zbT.2 ⟨q,h5,h6,h7,hef.symm⟩
   have hre:zd9 E a (c1 ++ e :: c3) a:=zbT.2 ⟨p,h1,h2,h3,by rw[hef];exact h8⟩
   rw[zdz] at hw
   have hw':wt c1+(e.w+wt (c2 ++ f :: c3)) < 0:=hw
   rw[zdz] at hw'
   have hw'':wt c1+(e.w+(wt c2+(f.w+wt c3))) < 0:=hw'
   by_cases h:wt (c2 ++ [f]) < 0
   ·exact ih (by simp only[dqu,dqr,dqL];omega) hcy h
   ·refine ih (c := c1 ++ e :: c3) (by simp only [dqu, dqr]; omega) hre ?_
    rw[zdz,zgN] at h
    rw[zdz]
    show wt c1+(e.w+wt c3) < 0
    omega
theorem exists_least {l:List Nat}(h:l ≠ []):∃ m∈l,∀ x∈l,m<=x:=by
 induction l with
 | nil=>exact absurd rfl h
 | cons a l ih =>
  by_cases hl:l=[]
  ·subst hl;exact⟨a,by simp,by simp⟩
  ·obtain ⟨m, h1, h2⟩ := ih hl
   by_cases hm:m<=a
   ·exact⟨m,dqf _ h1,λ x hx=>by
     rcases dqq.1 hx with rfl | hx
     ·exact hm
     ·exact h2 x hx⟩
   ·exact⟨a,dqj ..,λ x hx=>by
     rcases dqq.1 hx with rfl | hx
     ·exact dqt _
     ·have:=h2 x hx;omega⟩
theorem zzL {E:List Ed}{n:Nat}(hE:∀ e∈E,e.u < n/\e.v < n) (h : ¬ zbS E):∃ a c,a < n/\zd9 E a c a/\wt c < 0/\c.length<=n/\∀ e∈c,a<=e.u/\a<=e.v:=by
 obtain⟨a,h⟩:=Classical.not_forall.1 h
 obtain⟨c,h⟩:=Classical.not_forall.1 h
 obtain⟨hc,hw⟩:=Classical.not_imp.1 h
 obtain⟨b,d,h1,h2,h3⟩:=ztL c.length (dqt _) hc (by omega)
 have hd:d ≠ []:=λ e=>by subst e;exact absurd h2 (by show ¬ (0:Int) < 0;omega)
 have hb:b < n:=by
  cases d with
  | nil=>exact absurd rfl hd
  | cons e l=>obtain⟨k1,k2,_⟩:=h1;have:=(hE e k1).1;omega
 have hlen:d.length<=n:=by
  have:=zhR n h3 (λ x hx=>zhT hE hb h1 x (dqf _ hx))
  rwa[List.length_map] at this
 obtain⟨m,m1,m2⟩:=exists_least (l:=nodes b d) (by simp[nodes])
 obtain⟨c1,c2,k1,k2,k3⟩:=zsO h1 m1
 have hcl:zd9 E m (c2 ++ c1) m:=zbT.2 ⟨b,k3,k2⟩
 refine⟨m,c2 ++ c1,zhT hE hb h1 m m1,hcl,?_,?_,?_⟩
 ·rw[k1,zdz] at h2;rw[zdz];omega
 ·rw[k1,dqu] at hlen;rw[dqu];omega
 ·have hu:∀ {c:List Ed} {a b:Nat},zd9 E a c b->∀ e∈c,e.u∈nodes a c/\e.v∈nodes a c:=by
   intro c
   induction c with
   | nil=>intro a b _ e he;cases he
   | cons f l ih =>
    rintro a b ⟨j1,j2,j3⟩ e he
    rcases dqq.1 he with rfl | hm
    ·exact⟨by rw[j2];exact dqj ..,by simp[nodes]⟩
    ·obtain ⟨i1, i2⟩ := ih j3 e hm
     have hsub:∀ x,x∈nodes f.v l->x∈nodes a (f :: l):=λ x hx=>dqf _ (by simpa [nodes] using hx)
     exact⟨hsub _ i1,hsub _ i2⟩
  intro e he
  have he':e∈d:=by
   rw[k1]
   rcases dqg.1 he with h | h
   ·exact dqg.2 (.inr h)
   ·exact dqg.2 (.inl h)
  obtain⟨i1,i2⟩:=hu h1 e he'
  exact⟨m2 _ i1,m2 _ i2⟩
end Go.Pm
namespace Go.Proofs
open Go Go.Pm
set_option maxRecDepth 100000
set_option linter.unusedVariables false
theorem zhU {n:Nat}{F:Tab}{k:Nat}(hk:k < n):tg n F k=F k:=by
 unfold tg zlB
 have h:(zm (zhj 0 n F))[k]? = some (.p (.int .i64 (F k))):=by
  rw[zm,dqH,zgh n 0 F k hk,Nat.zero_add];rfl
 rw[h]
theorem zDz {n:Nat}{F:Tab}{k:Nat}{v:Int}{j:Nat}(hj:j < n):ts n F k [v] j=if j=k then v else F j:=by
 show (match Nat.beq j k with | true=>v | false=>tg n F j)=_
 by_cases h:j=k
 ·rw[dqP h,show Nat.beq j k=true from by rw[h];exact Nat.beq_refl _]
 ·rw[dqG h,show Nat.beq j k=false from Bool.eq_false_iff.2 λ e=>h (dqc e)];exact zhU hj
theorem zju {n:Nat}{F:Tab}{k:Nat}{v w:Int}{j:Nat}(hj:j < n):ts n F k [v,w] j=if j=k+1 then w else if j=k then v else F j:=by
 show (match Nat.beq j (k+1) with | true=>w | false=>(match Nat.beq j k with | true=>v | false=>tg n F j))=_
 by_cases h:j=k+1
 ·rw[dqP h,show Nat.beq j (k+1)=true from by rw[h];exact Nat.beq_refl _]
 ·rw [dqG h, show Nat.beq j (k + 1) = false from Bool.eq_false_iff.2 fun e => h (dqc e)]
  by_cases h':j=k
  ·rw[dqP h',show Nat.beq j k=true from by rw[h'];exact Nat.beq_refl _]
  ·rw[dqG h',show Nat.beq j k=false from Bool.eq_false_iff.2 λ e=>h' (dqc e)];exact zhU hj
def fwS (t:Tie) (i:Nat):step:=⟨⟨(i:Int),false⟩,t.From,t.To,t.High⟩
def bwS (t:Tie) (i:Nat):step:=⟨⟨(i:Int),true⟩,t.To,t.From,w64 (0 - t.Low)⟩
def znK (a:web) (i:Nat):Bool:=(zpl (a.out.F [(i:Int)]) 0) != 0
def stK (a:web) (i:Nat):List step :=
 cond (znK a i) [] ((cond ((a.Net.Ties.get i).High != (1000000000000:Int)) [fwS (a.Net.Ties.get i) i] []) ++ (cond ((a.Net.Ties.get i).Low != (-1000000000000:Int)) [bwS (a.Net.Ties.get i) i] []))
def stL (a : web) : Nat → Nat → List step
  | 0,_=>[]
  | m+1,i=>stK a i ++ stL a m (i+1)
theorem zrp (a:web) (hn:a.Net.Ties.len<=9223372036854775807):ztP a=true/\zkV a=stL a a.Net.Ties.len 0:=by
 have key:∀ (m k i:Nat),i+m=a.Net.Ties.len->m < k->zek a k (i:Int)=true/\zej a k (i:Int)=stL a m i:=by
  intro m
  induction m with
  | zero =>
   intro k i hi hk
   obtain⟨k,rfl⟩:∃ k',k=k'+1:=⟨k - 1,by omega⟩
   constructor
   ·show zfc a (zek a k) (i : Int) = true
    unfold zfc
    rw[dqF (show ¬ (i:Int) < (a.Net.Ties.len:Int) by omega),dqB]
   ·show zfb a (zej a k) (i : Int) = []
    unfold zfb
    rw[dqF (show ¬ (i:Int) < (a.Net.Ties.len:Int) by omega),dqB]
  | succ m ih =>
   intro k i hi hk
   obtain⟨k,rfl⟩:∃ k',k=k'+1:=⟨k - 1,by omega⟩
   obtain⟨h1,h2⟩:=ih k (i+1) (by omega) (by omega)
   constructor
   ·show zfc a (zek a k) (i : Int) = true
    unfold zfc
    rw[dqT (show (i:Int) < (a.Net.Ties.len:Int) by omega),dqA,dqT (show 0<=(i:Int)/\(i:Int) < (a.Net.Ties.len:Int) by omega),Bool.true_and,zgA (n:=a.Net.Ties.len) (by omega) hn,h1]
    generalize (zpl (a.out.F [(i:Int)]) 0 != 0)=b1
    generalize (s94 (⟨(a.Net.Ties.get ((i:Int)).toNat),(i:Int)⟩:tie)).2=b2
    generalize (s95 (⟨(a.Net.Ties.get ((i:Int)).toNat),(i:Int)⟩:tie)).2=b3
    cases b1 <;> cases b2 <;> cases b3 <;> rfl
   ·show zfb a (zej a k) (i : Int) = stK a i ++ stL a m (i + 1)
    unfold zfb
    rw[dqT (show (i:Int) < (a.Net.Ties.len:Int) by omega),dqA,dqN,zgA (n:=a.Net.Ties.len) (by omega) hn,h2]
    unfold stK znK s94 s95
    generalize (zpl (a.out.F [(i:Int)]) 0 != 0)=b1
    show cond b1 _ (cond ((a.Net.Ties.get i).High != (1000000000000:Int)) (_ :: cond ((a.Net.Ties.get i).Low != (-1000000000000:Int)) (_ :: _) _) (cond ((a.Net.Ties.get i).Low != (-1000000000000:Int)) (_ :: _) _))=_
    generalize ((a.Net.Ties.get i).High != (1000000000000:Int))=b2
    generalize ((a.Net.Ties.get i).Low != (-1000000000000:Int))=b3
    cases b1 <;> cases b2 <;> cases b3 <;> rfl
 exact key a.Net.Ties.len Fuel 0 (by omega) (by simp only[Fuel];omega)
theorem zja {a:web}{y:step} : ∀ {m i:Nat},y∈stL a m i↔∃ j,i<=j/\j < i+m/\y∈stK a j:=by
 intro m
 induction m with
 | zero=>intro i;exact⟨λ h=>(by cases h),λ ⟨j,h1,h2,_⟩=>(by omega)⟩
 | succ m ih =>
  intro i
  show y∈stK a i ++ stL a m (i+1)↔_
  rw[dqg,ih]
  constructor
  ·rintro (h | ⟨j, h1, h2, h3⟩)
   ·exact⟨i,dqt _,by omega,h⟩
   ·exact⟨j,by omega,by omega,h3⟩
  ·rintro ⟨j, h1, h2, h3⟩
   by_cases h:j=i
   ·subst h;exact .inl h3
   ·exact .inr ⟨j,by omega,by omega,h3⟩
theorem zjb {a:web}{y:step}{j:Nat} : y∈stK a j↔znK a j=false/\(((a.Net.Ties.get j).High ≠ 1000000000000/\y=fwS (a.Net.Ties.get j) j)\/((a.Net.Ties.get j).Low ≠ -1000000000000/\y=bwS (a.Net.Ties.get j) j)):=by
 unfold stK
 cases h:znK a j
 ·rw [dqB, dqg]
  by_cases h1:(a.Net.Ties.get j).High=1000000000000
  ·rw [show ((a.Net.Ties.get j).High != (1000000000000:Int)) = false by rw [h1]; rfl, dqB]
   by_cases h2:(a.Net.Ties.get j).Low = -1000000000000
   ·rw [show ((a.Net.Ties.get j).Low != (-1000000000000:Int)) = false by rw [h2]; rfl, dqB]
    simp[h1,h2]
   ·rw [bne_iff_ne.2 h2, dqA]
    simp[h1,h2]
  ·rw [bne_iff_ne.2 h1, dqA]
   by_cases h2:(a.Net.Ties.get j).Low = -1000000000000
   ·rw [show ((a.Net.Ties.get j).Low != (-1000000000000:Int)) = false by rw [h2]; rfl, dqB]
    simp[h1,h2]
   ·rw [bne_iff_ne.2 h2, dqA]
    simp[h1,h2]
 ·rw[dqA];simp
theorem zHt (a:web):∀ m i,(stL a m i).length<=2 * m:=by
 intro m
 induction m with
 | zero=>intro i;exact dqt _
 | succ m ih =>
  intro i
  show (stK a i ++ stL a m (i+1)).length<=_
  rw[dqu]
  have:=ih (i+1)
  have:(stK a i).length<=2:=by
   unfold stK
   cases znK a i <;> cases ((a.Net.Ties.get i).High != (1000000000000:Int)) <;> cases ((a.Net.Ties.get i).Low != (-1000000000000:Int)) <;> simp
  omega
def edS (y:step):Ed:=⟨y.from_.toNat,y.to.toNat,y.length⟩
structure StOk (y : step) (N : Nat) : Prop where
  f0:0<=y.from_
  f1:y.from_ < N
  t0:0<=y.to
  t1:y.to < N
  l0 : -1000000000<=y.length
  l1:y.length<=1000000000
abbrev Ws (a:web):List step:=stL a a.Net.Ties.len 0
def We (a:web):List Ed:=(Ws a).map edS
theorem zzM {t:Tie}{N:Int}(h:TieOk t N) (h':t.Low ≠ -1000000000000):w64 (0 - t.Low) = -t.Low:=by
 have:=h.lo.resolve_left h'
 rw[zbo (by omega) (by omega)];omega
theorem zB2 {a:web}(hn:NetOk a.Net){y:step}(hy:y∈Ws a):StOk y a.Net.Nodes.toNat:=by
 obtain⟨j,_,h2,h3⟩:=zja.1 hy
 have h:=hn.tie j (by omega)
 have:=h.f0;have:=h.f1;have:=h.t0;have:=h.t1
 rcases (zjb.1 h3).2 with ⟨h4,rfl⟩ | ⟨h4,rfl⟩
 ·have := h.hi.resolve_left h4
  exact⟨h.f0,by show (a.Net.Ties.get j).From < _;omega,h.t0,by show (a.Net.Ties.get j).To < _;omega,this.1,this.2⟩
 ·have := h.lo.resolve_left h4
  have e:=zzM h h4
  exact⟨h.t0,by show (a.Net.Ties.get j).To < _;omega,h.f0,by show (a.Net.Ties.get j).From < _;omega,by show _<=w64 (0 - (a.Net.Ties.get j).Low);omega,by show w64 (0 - (a.Net.Ties.get j).Low)<=_;omega⟩
theorem zDA {a:web}(hn:NetOk a.Net):(Ws a).length<=400:=by
 have h1:=zHt a a.Net.Ties.len 0
 have h2:=hn.len
 show (stL a a.Net.Ties.len 0).length<=400
 omega
theorem zKG {a:web}(hn:NetOk a.Net):EdOk (We a) a.Net.Nodes.toNat:=by
 have:=hn.n1;have:=hn.n40
 refine⟨λ e he=>?_,λ e he=>?_,by omega,by omega⟩
 ·obtain ⟨y, hy, rfl⟩ := dqz.1 he
  have h:=zB2 hn hy
  have:=h.f0;have:=h.f1;have:=h.t0;have:=h.t1
  exact⟨by show y.from_.toNat < _;omega,by show y.to.toNat < _;omega⟩
 ·obtain ⟨y, hy, rfl⟩ := dqz.1 he
  have h:=zB2 hn hy
  exact⟨h.l0,h.l1⟩
theorem zsQ {a:web}(hn:NetOk a.Net){e:Ed} : e∈We a↔∃ j,j < a.Net.Ties.len/\znK a j=false/\(((a.Net.Ties.get j).High ≠ 1000000000000/\e=⟨(a.Net.Ties.get j).From.toNat,(a.Net.Ties.get j).To.toNat,(a.Net.Ties.get j).High⟩)\/((a.Net.Ties.get j).Low ≠ -1000000000000/\e=⟨(a.Net.Ties.get j).To.toNat,(a.Net.Ties.get j).From.toNat,-(a.Net.Ties.get j).Low⟩)):=by
 constructor
 ·intro he
  obtain⟨y,hy,rfl⟩:=dqz.1 he
  obtain⟨j,_,h2,h3⟩:=zja.1 hy
  obtain⟨h4,h5⟩:=zjb.1 h3
  refine⟨j,by omega,h4,?_⟩
  rcases h5 with ⟨h6,rfl⟩ | ⟨h6,rfl⟩
  ·exact .inl ⟨h6,rfl⟩
  ·refine .inr ⟨h6, ?_⟩
   rw[<- zzM (hn.tie j (by omega)) h6];rfl
 ·rintro ⟨j, h1, h2, h3⟩
  rcases h3 with ⟨h6,rfl⟩ | ⟨h6,rfl⟩
  ·exact dqz.2 ⟨fwS (a.Net.Ties.get j) j,zja.2 ⟨j,by omega,by omega,zjb.2 ⟨h2,.inl ⟨h6,rfl⟩⟩⟩,rfl⟩
  ·exact dqz.2 ⟨bwS (a.Net.Ties.get j) j,zja.2 ⟨j,by omega,by omega,zjb.2 ⟨h2,.inr ⟨h6,rfl⟩⟩⟩,by rw[<- zzM (hn.tie j h1) h6];rfl⟩
end Go.Proofs
namespace Go.Proofs
open Go Go.Pm
set_option maxRecDepth 100000
set_option linter.unusedVariables false
def Rt (N:Nat) (T:Tab) (d:zbG):Prop:=∀ v,v < N->d v=some (T v)
def Bd (B:Int) (T:Tab):Prop:=∀ v,v < 40->-B<=T v/\T v<=0
theorem zzN (a:web){N:Nat}(hN:N<=40) (S0:Int->Tab->Bool) (P0:Int->Tab->Bool):∀ (l:List step),(∀ y∈l,StOk y N)->∀ (t:Int) (c:Bool) (T:Tab) (d:zbG) (B:Int),Rt N T d->Bd B T->0<=B->B+l.length * 1000000000<=100000000000000000 ->
    ∃ T',zfJ S0 a l t c T=zm4 S0 a t ((l.map edS).foldl rlF (d,c)).2 T'/\zfK P0 a l t c T=zm5 P0 a t ((l.map edS).foldl rlF (d,c)).2 T'/\Rt N T' ((l.map edS).foldl rlF (d,c)).1/\Bd (B+l.length * 1000000000) T':=by
  intro l
  induction l with
  | nil=>intro _ t c T d B h1 h2 _ _;exact⟨T,rfl,rfl,h1,by simpa using h2⟩
  | cons y l ih =>
    intro hl t c T d B h1 h2 h3 h4
    have hy:=hl y (dqj ..)
    have hl':∀ y∈l,StOk y N:=λ z hz=>hl z (dqf _ hz)
    rw[dqr] at h4
    have f0:=hy.f0;have f1:=hy.f1;have t0:=hy.t0;have t1:=hy.t1;have l0:=hy.l0;have l1:=hy.l1
    have hf:=h1 y.from_.toNat (by omega)
    have ht:=h1 y.to.toNat (by omega)
    have bf:=h2 y.from_.toNat (by omega)
    have bt:=h2 y.to.toNat (by omega)
    have e1:0+y.from_.toNat * 1+0=y.from_.toNat:=by omega
    have e2:0+y.to.toNat * 1+0=y.to.toNat:=by omega
    have hr:rlF (d,c) (edS y)=cond (decide (T y.from_.toNat+y.length < T y.to.toNat)) (zlg d y.to.toNat (T y.from_.toNat+y.length),true) (d,c):=by
      unfold rlF edS
      simp only[hf,ht]
      rfl
    have hS:zfJ S0 a (y :: l) t c T=cond (decide (T y.from_.toNat+y.length < T y.to.toNat)) (zfJ S0 a l t true (ts 40 T y.to.toNat [T y.from_.toNat+y.length])) (zfJ S0 a l t c T):=by
      show zm6 S0 a y (zfJ S0 a l) t c T=_
      generalize zfJ S0 a l=S
      unfold zm6
      rw[e1,e2,zhU (by omega),zhU (by omega),zbo (by omega) (by omega)]
    have hP:zfK P0 a (y :: l) t c T=cond (decide (T y.from_.toNat+y.length < T y.to.toNat)) (zfK P0 a l t true (ts 40 T y.to.toNat [T y.from_.toNat+y.length])) (zfK P0 a l t c T):=by
      show zm7 P0 a y (zfK P0 a l) t c T=_
      generalize zfK P0 a l=S
      unfold zm7
      rw[e1,e2,zhU (by omega),zhU (by omega),zbo (by omega) (by omega),dqT (show 0<=y.from_/\y.from_ < (40:Int) by omega),dqT (show 0<=y.to/\y.to < (40:Int) by omega)]
      cases decide (T y.from_.toNat+y.length < T y.to.toNat) <;> rfl
    show ∃ T',_=zm4 S0 a t ((l.map edS).foldl rlF (rlF (d,c) (edS y))).2 T'/\_=zm5 P0 a t ((l.map edS).foldl rlF (rlF (d,c) (edS y))).2 T'/\Rt N T' ((l.map edS).foldl rlF (rlF (d,c) (edS y))).1/\_
    rw[hS,hP,hr]
    by_cases hlt:T y.from_.toNat+y.length < T y.to.toNat
    · rw [dqT hlt, dqA, dqA, dqA]
      obtain ⟨T', k1, k2, k3, k4⟩ := ih hl' t true (ts 40 T y.to.toNat [T y.from_.toNat + y.length]) (zlg d y.to.toNat (T y.from_.toNat + y.length)) (B + 1000000000)
        (λ v hv=>by
          rw[zDz (by omega)]
          unfold zlg
          by_cases h:v=y.to.toNat
          · rw[dqP h,dqP h]
          · rw[dqG h,dqG h];exact h1 v hv)
        (λ v hv=>by
          rw[zDz hv]
          by_cases h:v=y.to.toNat
          · rw[dqP h];omega
          · rw[dqG h];have:=h2 v hv;omega) (by omega) (by omega)
      refine⟨T',k1,k2,k3,?_⟩
      rw[dqr,show B+((l.length+1:Nat):Int) * 1000000000=B+1000000000+(l.length:Int) * 1000000000 by omega]
      exact k4
    · rw [dqF hlt, dqB, dqB, dqB]
      obtain⟨T',k1,k2,k3,k4⟩:=ih hl' t c T d B h1 h2 h3 (by omega)
      refine⟨T',k1,k2,k3,λ v hv=>?_⟩
      have:=k4 v hv
      rw[dqr]
      omega
theorem zrq (a:web) (hn:NetOk a.Net):∀ (m k i:Nat) (T:Tab) (d:zbG) (B:Int),Rt a.Net.Nodes.toNat T d->Bd B T->0<=B->B+m * 400000000000<=100000000000000000->(i:Int)+m=a.Net.Nodes->m < k ->
  zie a k (i:Int) T=true/\zid a k (i:Int) T=znF (We a) m d:=by
 have hn1:=hn.n1;have hn40:=hn.n40;have hlen:=hn.len
 obtain⟨q1,q2⟩:=zrp a (by omega)
 intro m
 induction m with
 | zero =>
  intro k i T d B _ _ _ _ hi hk
  obtain⟨k,rfl⟩:∃ k',k=k'+1:=⟨k - 1,by omega⟩
  constructor
  ·show zic a (zie a k) (i : Int) T = true
   unfold zic
   rw[dqF (show ¬ (i:Int) < a.Net.Nodes by omega),dqB]
  ·show zib a (zid a k) (i : Int) T = true
   unfold zib
   rw[dqF (show ¬ (i:Int) < a.Net.Nodes by omega),dqB]
 | succ m ih =>
  intro k i T d B h1 h2 h3 h4 hi hk
  obtain⟨k,rfl⟩:∃ k',k=k'+1:=⟨k - 1,by omega⟩
  have hwl:=zDA hn
  obtain⟨T',k1,k2,k3,k4⟩:=zzN a (N:=a.Net.Nodes.toNat) (by omega) (zid a k) (zie a k) (Ws a) (λ y hy=>zB2 hn hy) (i:Int) false T d B h1 h2 h3 (by omega)
  have hB:Bd (B+400000000000) T':=λ v hv=>by have:=k4 v hv;omega
  have hw:w64 ((i:Int)+(1:Int))=((i+1:Nat):Int):=by rw[zbo (by omega) (by omega)];omega
  obtain⟨r1,r2⟩:=ih k (i+1) T' (rnd (We a) d) (B+400000000000) k3 hB (by omega) (by omega) (by omega) (by omega)
  constructor
  ·show zic a (zie a k) (i : Int) T = true
   unfold zic zp4
   rw[dqT (show (i:Int) < a.Net.Nodes by omega),dqA,q1,q2,k2]
   unfold zm5
   rw[hw,r1]
   cases ((Ws a).map edS |>.foldl rlF (d,false)).2 <;> rfl
  ·show zib a (zid a k) (i : Int) T = cond ((We a).foldl rlF (d, false)).2 (znF (We a) m (rnd (We a) d)) false
   unfold zib zp3
   rw[dqT (show (i:Int) < a.Net.Nodes by omega),dqA,q2,k1]
   unfold zm4
   rw[hw,r2]
   show cond (!((We a).foldl rlF (d,false)).2) false _=_
   cases ((We a).foldl rlF (d,false)).2 <;> rfl
theorem zzO (a:web) (hn:NetOk a.Net):p88 a=true/\s88 a=znF (We a) a.Net.Nodes.toNat (znJ a.Net.Nodes.toNat):=by
 have hn1:=hn.n1;have hn40:=hn.n40
 have:=zrq a hn a.Net.Nodes.toNat Fuel 0 (λ _=>(0:Int)) (znJ a.Net.Nodes.toNat) 0 (λ v hv=>dqP hv) (λ v hv=>⟨by show -(0:Int)<=(0:Int);omega,Int.le_refl _⟩) (by omega) (by omega) (by omega) (by simp only[Fuel];omega)
 exact this
theorem zzP (a:web) (hn:NetOk a.Net):s88 a=false↔zbS (We a):=by
 rw[(zzO a hn).2];exact zB1 (zKG hn)
end Go.Proofs
namespace Go.Proofs
open Go Go.Pm
set_option maxRecDepth 100000
set_option linter.unusedVariables false
theorem zsR (a b:far):zCF a ⟨1,λ _=>b⟩=true/\zeP a ⟨1,λ _=>b⟩=cond (zBh b a) b a:=by
 unfold zCF zeP znb zna
 have key:∀ k,zgo (⟨1,λ _=>b⟩:Sl far) (k+2) (0:Int) a.length a.uses=true/\zgn (⟨1,λ _=>b⟩:Sl far) (k+2) (0:Int) a.length a.uses=cond (zBh b a) b a:=by
  intro k
  have hw:w64 ((0:Int)+(1:Int))=(1:Int):=by rw[zbo (by omega) (by omega)];rfl
  have e1:∀ x y,zgn (⟨1,λ _=>b⟩:Sl far) (k+1) (1:Int) x y=(⟨x,y⟩:far):=λ x y=>by
   show zgl (⟨1,λ _=>b⟩:Sl far) (zgn (⟨1,λ _=>b⟩:Sl far) k) (1:Int) x y=_
   unfold zgl
   rw[dqF (show ¬ (1:Int) < ((1:Nat):Int) by omega),dqB]
  have e2:∀ x y,zgo (⟨1,λ _=>b⟩:Sl far) (k+1) (1:Int) x y=true:=λ x y=>by
   show zgm (⟨1,λ _=>b⟩:Sl far) (zgo (⟨1,λ _=>b⟩:Sl far) k) (1:Int) x y=_
   unfold zgm
   rw[dqF (show ¬ (1:Int) < ((1:Nat):Int) by omega),dqB]
  constructor
  ·show zgm (⟨1, fun _ => b⟩ : Sl far) (zgo (⟨1, fun _ => b⟩ : Sl far) (k + 1)) (0:Int) a.length a.uses = _
   unfold zgm zm9
   rw[dqT (show (0:Int) < ((1:Nat):Int) by omega),dqA,dqT (show 0<=(0:Int)/\(0:Int) < ((1:Nat):Int) by omega),Bool.true_and,hw,e2,e2]
   cases zBh b (⟨a.length,a.uses⟩:far) <;> rfl
  ·show zgl (⟨1, fun _ => b⟩ : Sl far) (zgn (⟨1, fun _ => b⟩ : Sl far) (k + 1)) (0:Int) a.length a.uses = _
   unfold zgl zm8
   rw[dqT (show (0:Int) < ((1:Nat):Int) by omega),dqA,hw,e1,e1]
 have:=key (Fuel - 2)
 rw[show Fuel - 2+2=Fuel by simp only[Fuel]] at this
 exact this
theorem zHu (a b:far):zBh a b=decide (a.length < b.length\/(a.length=b.length/\a.uses < b.uses)):=by
 unfold zBh
 by_cases h1:a.length < b.length
 ·rw[dqT h1,dqA];exact (dqT (.inl h1)).symm
 ·rw [dqF h1, dqB]
  by_cases h2:a.length=b.length
  ·rw [show (a.length == b.length) = true from beq_iff_eq.2 h2, dqA]
   exact decide_eq_decide.2 ⟨λ h=>.inr ⟨h2,h⟩,λ h=>h.elim (λ h=>absurd h h1) (λ h=>h.2)⟩
  ·rw [show (a.length == b.length) = false from dqU.2 h2, dqB]
   exact (dqF (λ h=>h.elim h1 (λ h=>h2 h.1))).symm
def nv (x y:Int):Bool:=match (x == (1000000000000:Int)) with | true=>(match (y == (0:Int)) with | true=>true | false=>false) | false=>false
theorem zB3 (x y:Int):nv x y=decide ((x,y)=((1000000000000:Int),(0:Int))):=by
 unfold nv
 by_cases h1:x=1000000000000
 ·rw [show (x == (1000000000000:Int)) = true from beq_iff_eq.2 h1]
  by_cases h2:y=0
  ·rw[show (y == (0:Int))=true from beq_iff_eq.2 h2];exact (dqT (by rw[h1,h2])).symm
  ·rw[show (y == (0:Int))=false from dqU.2 h2];exact (dqF (λ h=>h2 (Prod.mk.inj h).2)).symm
 ·rw [show (x == (1000000000000:Int)) = false from dqU.2 h1]
  exact (dqF (λ h=>h1 (Prod.mk.inj h).1)).symm
end Go.Proofs
namespace Go.Proofs
open Go Go.Pm
set_option maxRecDepth 100000
set_option linter.unusedVariables false
end Go.Proofs
namespace Go.Proofs
open Go Go.Pm
set_option maxRecDepth 100000
set_option linter.unusedVariables false
def edQ (y:step):Ed:=⟨y.to.toNat,y.from_.toNat,y.length⟩
end Go.Proofs
namespace Go.Proofs
open Go Go.Pm
set_option maxRecDepth 100000
set_option linter.unusedVariables false
attribute [local irreducible] Go.Pm.vcFun Go.Pm.vc Go.Pm.vcIter
end Go.Proofs
namespace Go.Proofs
open Go Go.Pm
set_option maxRecDepth 100000
set_option linter.unusedVariables false
def W (n:Net):web:=⟨n,⟨0,λ _=>none⟩⟩
abbrev En (n:Net):List Ed:=We (W n)
def fr (n:Net) (i j:Nat):Int:=ztR (dst (En n) n.Nodes.toNat i j)
theorem zfm {α:Type}(i:Nat) (v:α) (g:Nat->α) (j:Nat):setT i v g j=if j=i then v else g j:=by
 show (match Nat.beq j i with | true=>v | false=>g j)=_
 by_cases h:j=i
 ·rw[dqP h,show Nat.beq j i=true from by rw[h];exact Nat.beq_refl _]
 ·rw[dqG h,show Nat.beq j i=false from Bool.eq_false_iff.2 λ e=>h (dqc e)]
end Go.Proofs
namespace Go.Pm
def jr (o:zbG) (s:zbG×Bool) (e:Ed):zbG×Bool :=
 match o e.u with
 | none=>s
 | some x=>cond (ltO (x+e.w) (s.1 e.v)) (zlg s.1 e.v (x+e.w),true) s
theorem zHv (o:zbG) (s:zbG×Bool) (e:Ed) (v:Nat):leO ((jr o s e).1 v) (s.1 v):=by
 unfold jr
 cases hu:o e.u with
 | none=>exact zcF _
 | some x =>
  simp only[]
  cases hl:ltO (x+e.w) (s.1 e.v)
  ·exact zcF _
  ·show leO (zlg s.1 e.v (x + e.w) v) _
   unfold zlg
   by_cases hv:v=e.v
   ·rw [dqP hv]
    intro y hy
    refine⟨_,rfl,?_⟩
    rw[hv] at hy
    rw[hy] at hl
    exact Int.le_of_lt (of_decide_eq_true hl)
   ·rw[dqG hv];exact zcF _
theorem zKH (o:zbG) (E:List Ed) (s:zbG×Bool) (v:Nat):leO ((E.foldl (jr o) s).1 v) (s.1 v):=by
 induction E generalizing s with
 | nil=>exact zcF _
 | cons e l ih=>exact zcc (ih (jr o s e)) (zHv o s e v)
theorem zMO {o:zbG}{s:zbG×Bool}{e:Ed}{x:Int}(h:o e.u=some x):leO ((jr o s e).1 e.v) (some (x+e.w)):=by
 unfold jr
 simp only[h]
 cases hl:ltO (x+e.w) (s.1 e.v)
 ·obtain ⟨y, h1, h2⟩ := zlh hl
  intro z hz;cases hz
  exact⟨y,h1,h2⟩
 ·intro z hz; cases hz
  exact⟨x+e.w,by show zlg s.1 e.v (x+e.w) e.v=_;unfold zlg;rw[dqP rfl],Int.le_refl _⟩
theorem zKI {o:zbG}{E:List Ed}{s:zbG×Bool}{e:Ed}{x:Int}(he:e∈E) (h:o e.u=some x):leO ((E.foldl (jr o) s).1 e.v) (some (x+e.w)):=by
 induction E generalizing s with
 | nil=>cases he
 | cons f l ih =>
  rcases dqq.1 he with rfl | hm
  ·exact zcc (zKH o l (jr o s e) e.v) (zMO h)
  ·exact ih hm
theorem zHw {o:zbG}{s:zbG×Bool}{e:Ed}(h:s.2=true):(jr o s e).2=true:=by
 unfold jr
 cases o e.u with
 | none=>exact h
 | some x=>simp only[];cases ltO (x+e.w) (s.1 e.v) <;> first | exact h | rfl
theorem zHx {o:zbG}{E:List Ed}{s:zbG×Bool}(h:s.2=true):(E.foldl (jr o) s).2=true:=by
 induction E generalizing s with
 | nil=>exact h
 | cons e l ih=>exact ih (zHw h)
theorem zDB {d:zbG}{c:Bool}{e:Ed}(h:Sat d e):jr d (d,c) e=(d,c):=zrn h
theorem zKJ {E:List Ed}{d:zbG}{c:Bool}(h:∀ e∈E,Sat d e):E.foldl (jr d) (d,c)=(d,c):=by
 induction E with
 | nil=>rfl
 | cons e l ih =>
  show l.foldl (jr d) (jr d (d,c) e)=_
  rw[zDB (h e (dqj ..))]
  exact ih λ e he=>h e (dqf _ he)
theorem zB4 {E:List Ed}{d:zbG}{c:Bool}(h:(E.foldl (jr d) (d,c)).2=false):∀ e∈E,Sat d e:=by
 induction E with
 | nil=>intro e he;cases he
 | cons e l ih =>
  have h':(l.foldl (jr d) (jr d (d,c) e)).2=false:=h
  have hs:Sat d e:=Classical.byContradiction λ hn=>by
   have:(jr d (d,c) e).2=true:=zzC hn
   rw[zHx this] at h';cases h'
  rw[zDB hs] at h'
  intro e' he'
  rcases dqq.1 he' with rfl | hm
  ·exact hs
  ·exact ih h' e' hm
def zDC (E:List Ed) (d:zbG):zbG:=(E.foldl (jr d) (d,false)).1
def zzQ (E : List Ed) : Nat → zbG → zbG
  | 0,d=>d
  | k+1,d=>zzQ E k (zDC E d)
theorem zzR (E:List Ed) (k:Nat) (d:zbG) (v:Nat):leO (zzQ E k d v) (d v):=by
 induction k generalizing d with
 | zero=>exact zcF _
 | succ k ih=>exact zcc (ih (zDC E d)) (zKH d E (d,false) v)
theorem zHy {E:List Ed}{c:List Ed} : ∀ {a b k:Nat}{d:zbG}{y:Int},zd9 E a c b->d a=some y->c.length<=k->leO (zzQ E k d b) (some (y+wt c)):=by
 induction c with
 | nil =>
  intro a b k d y h hd _
  cases h
  intro z hz;cases hz
  obtain⟨x,h1,h2⟩:=zzR E k d a y hd
  exact⟨x,h1,by show x<=y+0;omega⟩
 | cons e l ih =>
  intro a b k d y h hd hk
  obtain⟨k,rfl⟩:∃ k',k=k'+1:=⟨k - 1,by simp only[dqr] at hk;omega⟩
  obtain⟨h1,h2,h3⟩:=h
  subst h2
  obtain⟨x,k1,k2⟩:=zKI (o:=d) (s:=(d,false)) h1 hd _ rfl
  intro z hz;cases hz
  obtain⟨z,m1,m2⟩:=ih (k:=k) (d:=zDC E d) h3 k1 (by simp only[dqr] at hk;omega) _ rfl
  exact⟨z,m1,by show z<=y+(e.w+wt l);omega⟩
theorem zKK {E:List Ed}{Src:Nat->Prop}(hn:zbS E){o:zbG}(ho:Inv E Src o){s:zbG×Bool}{e:Ed}(he:e∈E) (hs:∀ m,leO (s.1 m) (o m)) (h:Inv E Src s.1):Inv E Src (jr o s e).1:=by
 intro v x hx
 have hle:=zHv o s e
 unfold jr at hx hle ⊢
 cases hu:o e.u with
 | none =>
  simp only[hu] at hx ⊢
  obtain⟨a,c,hc⟩:=h v x hx
  exact⟨a,c,hc⟩
 | some y =>
  simp only[hu] at hx hle ⊢
  cases hl:ltO (y+e.w) (s.1 e.v) with
  | false =>
   simp only[hl,dqB] at hx ⊢
   exact h v x hx
  | true =>
   simp only[hl,dqA] at hx hle ⊢
   by_cases hv:v=e.v
   ·subst hv
    have hx':y+e.w=x:=by
     unfold zlg at hx;rw[dqP rfl] at hx;exact Option.some.inj hx
    obtain⟨a,c,hc⟩:=ho e.u y hu
    have hnot:e.v ∉ nodes a c:=λ hm=>by
     obtain⟨z,h1,h2⟩:=zcc (hs e.v) (zjU hn he hc hm) _ rfl
     rw[h1] at hl
     have:=of_decide_eq_true hl
     omega
    refine⟨a,c ++ [e],hc.src,zbT.2 ⟨e.u,hc.ch,zdL he⟩,by rw[zdz,zgN,<- hc.wt];omega,?_,?_⟩
    ·show (a :: (c ++ [e]).map Ed.v).Nodup
     rw[List.map_append,<- List.cons_append]
     refine List.nodup_append.2 ⟨hc.nd,by simp,λ p hp q hq=>?_⟩
     have:q=e.v:=by simpa using hq
     subst this
     exact λ e'=>hnot (e' ▸ hp)
    ·intro c1 c2 m h1 h2
     rcases zhS h1 with rfl | ⟨c3,h3⟩
     ·have : m = e.v := zsP h2 (zbT.2 ⟨e.u, hc.ch, zdL he⟩)
      subst this
      intro z hz;cases hz
      refine⟨x,hx,?_⟩
      rw[zdz,zgN,<- hc.wt];omega
     ·exact zcc (zcc (hle m) (hs m)) (hc.pre c1 c3 m h3 h2)
   ·have hx':s.1 v=some x:=by
     unfold zlg at hx;rw[dqG hv] at hx;exact hx
    obtain⟨a,c,hc⟩:=h v x hx'
    exact⟨a,c,zDv hc hle⟩
theorem zKL {E F:List Ed}{Src:Nat->Prop}(hn:zbS E) (hF:∀ e∈F,e∈E){o:zbG}(ho:Inv E Src o){s:zbG×Bool}(hs:∀ m,leO (s.1 m) (o m)) (h:Inv E Src s.1):Inv E Src (F.foldl (jr o) s).1:=by
 induction F generalizing s with
 | nil=>exact h
 | cons e l ih=>exact ih (λ e he=>hF e (dqf _ he)) (λ m=>zcc (zHv o s e m) (hs m)) (zKK hn ho (hF e (dqj ..)) hs h)
theorem zB5 {E:List Ed}{Src:Nat->Prop}(hn:zbS E) (k:Nat){d:zbG}(h:Inv E Src d):Inv E Src (zzQ E k d):=by
 induction k generalizing d with
 | zero=>exact h
 | succ k ih=>exact ih (zKL hn (λ _ h=>h) h (s:=(d,false)) (λ _=>zcF _) h)
theorem zKM {E:List Ed}{n:Nat}{Src:Nat->Prop}(hn:zbS E) (hE:∀ e∈E,e.u < n/\e.v < n) (hS:∀ a,Src a->a < n){d:zbG}(h0:Start Src d):Fix E (zzQ E (n - 1) d):=by
 intro e he x hx
 obtain⟨a,c,hc⟩:=zB5 hn (n - 1) (zlj (E:=E) h0) e.u x hx
 by_cases hm:e.v∈nodes a c
 ·exact zjU hn he hc hm _ rfl
 ·have hlen:(c ++ [e]).length<=n - 1:=by
   have hnd:(nodes a (c ++ [e])).Nodup:=by
    show (a :: (c ++ [e]).map Ed.v).Nodup
    rw[List.map_append,<- List.cons_append]
    refine List.nodup_append.2 ⟨hc.nd,by simp,λ p hp q hq=>?_⟩
    have:q=e.v:=by simpa using hq
    subst this
    exact λ e'=>hm (e' ▸ hp)
   have hch:zd9 E a (c ++ [e]) e.v:=zbT.2 ⟨e.u,hc.ch,zdL he⟩
   have:=zhR n hnd (zhT hE (hS a hc.src) hch)
   rw[zli] at this
   omega
  have:=zHy (zbT.2 ⟨e.u,hc.ch,zdL he⟩) (h0.src a hc.src) hlen _ rfl
  rw[zdz,zgN,<- hc.wt] at this
  obtain⟨z,h1,h2⟩:=this
  exact⟨z,h1,by omega⟩
def zgO (E : List Ed) : Nat → Bool → zbG → Bool
  | 0,c,_=>!c
  | m+1,c,d=>cond c (zgO E m (E.foldl (jr d) (d,false)).2 (zDC E d)) (!c)
theorem zsS (E:List Ed) (m:Nat) (d:zbG):zgO E m false d=true:=by cases m <;> rfl
theorem zo7 {E:List Ed}{k:Nat} : ∀ {m:Nat}{d:zbG},Fix E (zzQ E k d)->k < m->zgO E m true d=true:=by
 induction k with
 | zero =>
  intro m d h hm
  obtain⟨m,rfl⟩:∃ m',m=m'+1:=⟨m - 1,by omega⟩
  show zgO E m (E.foldl (jr d) (d,false)).2 (zDC E d)=true
  rw[zKJ (show ∀ e∈E,Sat d e from h)]
  exact zsS E m _
 | succ k ih =>
  intro m d h hm
  obtain⟨m,rfl⟩:∃ m',m=m'+1:=⟨m - 1,by omega⟩
  show zgO E m (E.foldl (jr d) (d,false)).2 (zDC E d)=true
  cases (E.foldl (jr d) (d,false)).2
  ·exact zsS E m _
  ·exact ih (m:=m) (d:=zDC E d) h (by omega)
theorem zzS {E:List Ed}{m:Nat} : ∀ {d:zbG},zgO E m true d=true->∃ k,Fix E (zzQ E k d):=by
 induction m with
 | zero=>intro d h;cases h
 | succ m ih =>
  intro d h
  have h':zgO E m (E.foldl (jr d) (d,false)).2 (zDC E d)=true:=h
  cases hc:(E.foldl (jr d) (d,false)).2
  ·exact⟨0,zB4 hc⟩
  ·rw [hc] at h'
   obtain⟨k,hk⟩:=ih h'
   exact⟨k+1,hk⟩
theorem zzT {E:List Ed}{n:Nat}(hE:EdOk E n):zgO E n true (znJ n)=true↔zbS E:=by
 constructor
 ·intro h
  obtain⟨k,hk⟩:=zzS h
  have hsome:∀ v,v < n->∃ x,zzQ E k (znJ n) v=some x:=λ v hv=>by
   obtain⟨x,hx,_⟩:=zzR E k (znJ n) v 0 (dqP hv)
   exact⟨x,hx⟩
  refine zo5 (f:=λ v=>(zzQ E k (znJ n) v).getD 0) λ e he=>?_
  obtain⟨x,hx⟩:=hsome e.u (hE.lt e he).1
  obtain⟨y,hy,hxy⟩:=hk e he x hx
  show (zzQ E k (znJ n) e.v).getD 0<=(zzQ E k (znJ n) e.u).getD 0+e.w
  rw[hx,hy];exact hxy
 ·intro h
  have:=hE.n1
  exact zo7 (zKM h hE.lt (λ a ha=>ha) (zmb n)) (by omega)
def zB6 : Option Int → Int
  | none=>1000000000000
  | some x=>x
end Go.Pm
namespace Go.Pm
def zzU:zbG:=λ _=>none
def hop (F:List Ed) (o:zbG):zbG:=(F.foldl (jr o) (zzU,false)).1
def hops (F : List Ed) (s : Nat) : Nat → zbG
  | 0=>zAh s
  | k+1=>hop F (hops F s k)
theorem zKN {F:List Ed}{o:zbG}{v:Nat}{x:Int}(h:hop F o v=some x):∃ e∈F,e.v=v/\∃ y,o e.u=some y/\x=y+e.w:=by
 have key:∀ (l:List Ed) (s:zbG×Bool),(∀ e∈l,e∈F)->(∀ v x,s.1 v=some x->∃ e∈F,e.v=v/\∃ y,o e.u=some y/\x=y+e.w)->∀ v x,(l.foldl (jr o) s).1 v=some x->∃ e∈F,e.v=v/\∃ y,o e.u=some y/\x=y+e.w:=by
  intro l
  induction l with
  | nil=>intro s _ h;exact h
  | cons e l ih =>
   intro s hl h
   refine ih (jr o s e) (λ e he=>hl e (dqf _ he)) ?_
   intro v x hx
   unfold jr at hx
   cases hu:o e.u with
   | none=>simp only[hu] at hx;exact h v x hx
   | some y =>
    simp only[hu] at hx
    cases hlt:ltO (y+e.w) (s.1 e.v) with
    | false=>simp only[hlt,dqB] at hx;exact h v x hx
    | true =>
     simp only[hlt,dqA] at hx
     unfold zlg at hx
     by_cases hv:v=e.v
     ·rw [dqP hv] at hx
      exact⟨e,hl e (dqj ..),hv.symm,y,hu,(Option.some.inj hx).symm⟩
     ·rw[dqG hv] at hx;exact h v x hx
 exact key F (zzU,false) (λ _ h=>h) (λ v x h=>by cases h) v x h
theorem zHz {F:List Ed}{s:Nat} : ∀ {k v:Nat}{c:List Ed},zd9 F s c v->c.length=k->∃ x,hops F s k v=some x/\x<=wt c:=by
 intro k
 induction k with
 | zero =>
  intro v c h hl
  have:c=[]:=List.length_eq_zero_iff.1 hl
  subst this
  cases h
  exact⟨0,dqP rfl,Int.le_refl _⟩
 | succ k ih =>
  intro v c h hl
  obtain⟨c',e,rfl⟩:∃ c' e,c=c' ++ [e]:=⟨c.dropLast,c.getLast (λ e=>by rw[e] at hl;cases hl),(List.dropLast_concat_getLast _).symm⟩
  obtain⟨m,h1,h2,h3,h4⟩:=zbT.1 h
  subst h3
  obtain⟨x,k1,k2⟩:=ih h1 (by simpa using hl)
  obtain⟨y,m1,m2⟩:=zKI (o:=hops F s k) (s:=(zzU,false)) h2 k1 _ rfl
  have h4':e.v=v:=h4
  rw[h4'] at m1
  exact⟨y,m1,by rw[zdz,zgN];omega⟩
end Go.Pm
