/- Part 6 of what the proof rests on: a machine that runs functions of the program on pure values, proved sound; the functions that the law reaches, and what they compute. -/
import Derived.Test.YtedhjaaikeakoaaDoorQ5
import Derived.Test.YtedhjaaikeakoaaDoorTie
import Derived.ProofKit
import Derived.LaidMore
import Derived.OpenShut
import Derived.Stop.Joined
import Derived.Test.YtedhjaaikeakoaaDoorCards
import Derived.WalkKit
set_option linter.all false
namespace Go.Proofs
open Go Go.Pm
set_option maxRecDepth 100000
set_option linter.unusedVariables false
attribute [local irreducible] Go.Pm.vcFun Go.Pm.vc Go.Pm.vcIter
abbrev T76:Tabs:=(((Tabs.nil.addF 93 zo6).addF 104 zo9).addI 110 zo8)
theorem zOc:TabsOk Tryd.prog T76:=(((TabsOk.nil.addF zJX).addF zGt).addI zuQ)
abbrev G76:Ctrs:=csm T76 (λ _ _=>[]) (λ _=>false)
def zy2:Ann:=⟨66,[(0,zK [0,1,4] [4]),(1,zK [0,1,4,5] [4,5]),(2,zK [0,1,4,5,10] [4,5]),(3,zK [0,1,4,5,10,11] [4,5]),(4,zK [0,1,4,5,6,10] [4,5]),(5,zK [0,1,4,5,10] [4,5]),(6,zK [0,1,4,5,10] [4,5]),(7,zK [0,4,5] [4,5]),(8,zK [0,4,5,7] [4,5,7]),(9,zK [0,4,5,7,20] [4,5,7]),(10,zK [0,4,5,7] [4,5,7]),(11,zK [0,4,5,7,22] [4,5,7]),(12,zK [0,4,5,7,8,22] [4,5,7,8]),(13,zK [0,4,5,7,8,22,29] [4,5,7,8]),(14,zK [0,4,5,7,8,9,22] [4,5,7,8,9]),(15,zK [0,4,5,7,8,9,22] [4,5,7,8,9]),(16,zK [0,4,5,7,22] [4,5,7]),(17,zK [0,4,5,64] [4,5]),(18,zK [0,4,5,7] [4,5,7]),(19,zK [4] [4])],
 [(3,zK [0,1,4,5,10] [4,5]),(9,zK [0,4,5,7] [4,5,7]),(12,zK [0,4,5,7,22] [4,5,7])],
 [(7,zK [0,1,4,5] [4,5])],
 [],[]⟩
abbrev R76:=Tab
abbrev e76 (r:R76):List PA:=[.agg (zao r)]
@[irreducible] def z76:=ptF Tryd.prog G76 zy2 Tryd.f76
@[irreducible] def x76:=exF Tryd.prog G76 zy2 Tryd.f76
@[irreducible] def y76:=rnF Tryd.prog G76 zy2 Tryd.f76
def zEM (w:web) (node:Int) (za7:Int) (t4t0:Tab) (dt0:Tab):St:=⟨[(0,zP (.fp (zaC w) 0)),(1,zI node),(4,zp 4 0),(5,zp 5 0),(10,zI za7)],[(4,.box 116 (zm (zao t4t0))),(5,.box 116 (zm (zao dt0)))],[]⟩
abbrev zLz (K:List PA->Prop) (w:web) (node:Int) (X:St->Prop) (P:Int->Tab->Tab->Bool) (S:Int->Tab->Tab->Tab):Prop:=∀ ⦃za7:Int⦄ ⦃t4t0:Tab⦄ ⦃dt0:Tab⦄,P za7 t4t0 dt0=true->K (e76 (S za7 t4t0 dt0))->X (zEM w node za7 t4t0 dt0)
def zEN (w:web) (zay:Bool) (t4t2:Tab) (dt2:Tab):St:=⟨[(0,zP (.fp (zaC w) 0)),(4,zp 4 0),(5,zp 5 0),(7,zp 7 0)],[(4,.box 116 (zm (zao t4t2))),(5,.box 116 (zm (zao dt2))),(7,.box 4 [.p (.bool zay)])],[]⟩
abbrev zHo (K:List PA->Prop) (w:web) (X:St->Prop) (P:Bool->Tab->Tab->Bool) (S:Bool->Tab->Tab->Tab):Prop:=∀ ⦃zay:Bool⦄ ⦃t4t2:Tab⦄ ⦃dt2:Tab⦄,P zay t4t2 dt2=true->K (e76 (S zay t4t2 dt2))->X (zEN w zay t4t2 dt2)
def zy3 (w:web) (zaq:Bool) (t4t3:Tab) (dt3:Tab):St:=⟨[(0,zP (.fp (zaC w) 0)),(4,zp 4 0),(5,zp 5 0),(7,zp 7 0),(22,zP (.fn 110 [] [.fp [.fp (zaC w) 0] 0]))],[(4,.box 116 (zm (zao t4t3))),(5,.box 116 (zm (zao dt3))),(7,.box 4 [.p (.bool zaq)])],[]⟩
abbrev zLA (K:List PA->Prop) (w:web) (X:St->Prop) (P:Bool->Tab->Tab->Bool) (S:Bool->Tab->Tab->Tab):Prop:=∀ ⦃zaq:Bool⦄ ⦃t4t3:Tab⦄ ⦃dt3:Tab⦄,P zaq t4t3 dt3=true->K (e76 (S zaq t4t3 dt3))->X (zy3 w zaq t4t3 dt3)
section
variable {K:List PA->Prop}{w:web}{node:Int}{za7:Int}{t4t0:Tab}{dt0:Tab}{X0:St->Prop}{P0:Int->Tab->Tab->Bool}{S0:Int->Tab->Tab->Tab}{t4t1:Tab}{dt1:Tab}{zay:Bool}{t4t2:Tab}{dt2:Tab}{X2:St->Prop}{P2:Bool->Tab->Tab->Bool}{S2:Bool->Tab->Tab->Tab}{zaq:Bool}{t4t3:Tab}{dt3:Tab}
def zHp (S2:Bool->Tab->Tab->Tab) (w:web) (zaq:Bool) (t4t3:Tab) (dt3:Tab):Tab :=
  (S2 zaq t4t3 dt3)
def zHq (P2:Bool->Tab->Tab->Bool) (w:web) (zaq:Bool) (t4t3:Tab) (dt3:Tab):Bool :=
  (P2 zaq t4t3 dt3)
def znw (S2:Bool->Tab->Tab->Tab) (w:web) (y3:step) (S3:Bool->Tab->Tab->Tab) (zaq:Bool) (t4t3:Tab) (dt3:Tab):Tab :=
  (cond (nvr (tL dt3 y3.from_) (tU dt3 y3.from_))
 (S3 zaq t4t3 dt3)
 (cond zaq
 (S3 true t4t3 (ts 80 dt3 (0+y3.to.toNat * 2+0) [(zdV (⟨(tL dt3 y3.to),(tU dt3 y3.to)⟩:far) (⟨1,λ _=>(⟨(w64 ((tL dt3 y3.from_)+y3.length)),(w64 ((tV dt3 y3.from_)+(1:Int)))⟩:far)⟩:(Sl far))).length,(zdV (⟨(tL dt3 y3.to),(tU dt3 y3.to)⟩:far) (⟨1,λ _=>(⟨(w64 ((tL dt3 y3.from_)+y3.length)),(w64 ((tV dt3 y3.from_)+(1:Int)))⟩:far)⟩:(Sl far))).uses]))
 (S3 (!(match ((zdV (⟨(tL dt3 y3.to),(tU dt3 y3.to)⟩:far) (⟨1,λ _=>(⟨(w64 ((tL dt3 y3.from_)+y3.length)),(w64 ((tV dt3 y3.from_)+(1:Int)))⟩:far)⟩:(Sl far))).length == (tL dt3 y3.to)) with | true=>(match ((zdV (⟨(tL dt3 y3.to),(tU dt3 y3.to)⟩:far) (⟨1,λ _=>(⟨(w64 ((tL dt3 y3.from_)+y3.length)),(w64 ((tV dt3 y3.from_)+(1:Int)))⟩:far)⟩:(Sl far))).uses == (tU dt3 y3.to)) with | true=>true | false=>false) | false=>false)) t4t3 (ts 80 dt3 (0+y3.to.toNat * 2+0) [(zdV (⟨(tL dt3 y3.to),(tU dt3 y3.to)⟩:far) (⟨1,λ _=>(⟨(w64 ((tL dt3 y3.from_)+y3.length)),(w64 ((tV dt3 y3.from_)+(1:Int)))⟩:far)⟩:(Sl far))).length,(zdV (⟨(tL dt3 y3.to),(tU dt3 y3.to)⟩:far) (⟨1,λ _=>(⟨(w64 ((tL dt3 y3.from_)+y3.length)),(w64 ((tV dt3 y3.from_)+(1:Int)))⟩:far)⟩:(Sl far))).uses]))))
def znx (P2:Bool->Tab->Tab->Bool) (w:web) (y3:step) (P3:Bool->Tab->Tab->Bool) (zaq:Bool) (t4t3:Tab) (dt3:Tab):Bool :=
  (decide ((0<=y3.from_/\y3.from_ < (40:Int))) &&
 (cond (nvr (tL dt3 y3.from_) (tU dt3 y3.from_))
 (P3 zaq t4t3 dt3)
 (decide ((0<=y3.to/\y3.to < (40:Int))) &&
 (decide ((0<=y3.from_/\y3.from_ < (40:Int))) &&
 (decide ((0<=y3.from_/\y3.from_ < (40:Int))) &&
 (decide ((zEo (⟨(tL dt3 y3.to),(tU dt3 y3.to)⟩:far) (⟨1,λ _=>(⟨(w64 ((tL dt3 y3.from_)+y3.length)),(w64 ((tV dt3 y3.from_)+(1:Int)))⟩:far)⟩:(Sl far))=true)) &&
 (cond zaq
 (decide ((0<=y3.to/\y3.to < (40:Int))) &&
 (P3 true t4t3 (ts 80 dt3 (0+y3.to.toNat * 2+0) [(zdV (⟨(tL dt3 y3.to),(tU dt3 y3.to)⟩:far) (⟨1,λ _=>(⟨(w64 ((tL dt3 y3.from_)+y3.length)),(w64 ((tV dt3 y3.from_)+(1:Int)))⟩:far)⟩:(Sl far))).length,(zdV (⟨(tL dt3 y3.to),(tU dt3 y3.to)⟩:far) (⟨1,λ _=>(⟨(w64 ((tL dt3 y3.from_)+y3.length)),(w64 ((tV dt3 y3.from_)+(1:Int)))⟩:far)⟩:(Sl far))).uses])))
 (decide ((0<=y3.to/\y3.to < (40:Int))) &&
 (decide ((0<=y3.to/\y3.to < (40:Int))) &&
 (P3 (!(match ((zdV (⟨(tL dt3 y3.to),(tU dt3 y3.to)⟩:far) (⟨1,λ _=>(⟨(w64 ((tL dt3 y3.from_)+y3.length)),(w64 ((tV dt3 y3.from_)+(1:Int)))⟩:far)⟩:(Sl far))).length == (tL dt3 y3.to)) with | true=>(match ((zdV (⟨(tL dt3 y3.to),(tU dt3 y3.to)⟩:far) (⟨1,λ _=>(⟨(w64 ((tL dt3 y3.from_)+y3.length)),(w64 ((tV dt3 y3.from_)+(1:Int)))⟩:far)⟩:(Sl far))).uses == (tU dt3 y3.to)) with | true=>true | false=>false) | false=>false)) t4t3 (ts 80 dt3 (0+y3.to.toNat * 2+0) [(zdV (⟨(tL dt3 y3.to),(tU dt3 y3.to)⟩:far) (⟨1,λ _=>(⟨(w64 ((tL dt3 y3.from_)+y3.length)),(w64 ((tV dt3 y3.from_)+(1:Int)))⟩:far)⟩:(Sl far))).length,(zdV (⟨(tL dt3 y3.to),(tU dt3 y3.to)⟩:far) (⟨1,λ _=>(⟨(w64 ((tL dt3 y3.from_)+y3.length)),(w64 ((tV dt3 y3.from_)+(1:Int)))⟩:far)⟩:(Sl far))).uses])))))))))))
def zny (S2:Bool->Tab->Tab->Tab) (w:web):List step->Bool->Tab->Tab->Tab:=lpR (zHp S2 w) (znw S2 w)
def znz (P2:Bool->Tab->Tab->Bool) (w:web):List step->Bool->Tab->Tab->Bool:=lpR (zHq P2 w) (znx P2 w)
def zqR (S2:Bool->Tab->Tab->Tab) (w:web) (zaq:Bool) (t4t3:Tab) (dt3:Tab):Tab:=zny S2 w (zkS w) zaq t4t3 dt3
def zqS (P2:Bool->Tab->Tab->Bool) (w:web) (zaq:Bool) (t4t3:Tab) (dt3:Tab):Bool:=decide ((zu3 w=true)) && znz P2 w (zkS w) zaq t4t3 dt3
theorem zHr (hX2:zHo K w X2 P2 S2) (hs:zqS P2 w zaq t4t3 dt3=true) (hk:K (e76 (zqR S2 w zaq t4t3 dt3))):z76 K [1,1,1,1,0,1,0,0,1,0,0,1,1,0] [X2] (zy3 w zaq t4t3 dt3) :=
  zaO hs λ hc hs=>zr (enc:=(λ y:step=>[.agg (zaG y)])) (ys:=zkS w) (g:=(zy3 w zaq t4t3 dt3)) (x76 K [1,1,1,1,0,1,0,0,1,0,0,1,1,0] [X2]) (y76 K [1,1,1,1,0,1,0,0,1,0,0,1,1,0] [X2]) (by kernel_rfl) (And.intro (zE enc_40 4 w.Net.Ties.get) (And.intro (rfl:((false,1,false,[none]):MQ)=(false,1,false,[none])) hc)) λ X3 hE hR =>
  (show ∀ l : List step, zLA K w (X3 (l.map (λ y : step => [.agg (zaG y)]))) (znz P2 w l) (zny S2 w l) from zri (X := X3) (enc := (λ y : step => [.agg (zaG y)])) _ _ (znx P2 w) (znw S2 w) (λ Z P S => zLA K w Z P S)
 (by intro zaq t4t3 dt3 hs hk;exact hE _ (zaS (by kernel_rfl) (hX2 hs hk)))
 (by intro y3 rest P3 S3 hX3 zaq t4t3 dt3 hs hk;exact hR _ rest _ (zaS (by kernel_rfl) (zaO hs λ hc hs=>And.intro hc (zc hs hk (λ hs hk=>(hX3 hs hk)) (λ hs hk=>(zaO hs λ hc hs=>And.intro hc (zaO hs λ hc hs=>And.intro hc (zaO hs λ hc hs=>And.intro hc (zaO hs λ hc hs=>And.intro (And.intro (zqn:IsE zci 2 2 (λ _=>(zci (⟨(w64 ((tL dt3 y3.from_)+y3.length)),(w64 ((tV dt3 y3.from_)+(1:Int)))⟩:far)))) hc) (zc hs hk (λ hs hk=>(zaO hs λ hc hs=>And.intro hc (hX3 hs hk))) (λ hs hk=>(zaO hs λ hc hs=>And.intro hc (zaO hs λ hc hs=>And.intro hc (hX3 hs hk))))))))))))))) _ hs hk
def znA (w:web) (S2:Bool->Tab->Tab->Tab) (zay:Bool) (t4t2:Tab) (dt2:Tab):Tab :=
  (cond zay
 (zqR S2 w false t4t2 dt2)
 dt2)
def znB (w:web) (P2:Bool->Tab->Tab->Bool) (zay:Bool) (t4t2:Tab) (dt2:Tab):Bool :=
  (cond zay
 (zqS P2 w false t4t2 dt2)
 true)
def zf5 (w:web):Nat->Bool->Tab->Tab->Tab:=lpO (λ _ _ _=>default) (znA w)
def zf6 (w:web):Nat->Bool->Tab->Tab->Bool:=lpO (λ _ _ _=>false) (znB w)
def zqT (w:web) (zay:Bool) (t4t2:Tab) (dt2:Tab):Tab:=zf5 w Fuel zay t4t2 dt2
def zqU (w:web) (zay:Bool) (t4t2:Tab) (dt2:Tab):Bool:=zf6 w Fuel zay t4t2 dt2
theorem zHs (hs:zqU w zay t4t2 dt2=true) (hk:K (e76 (zqT w zay t4t2 dt2))):z76 K [1,1,1,1,0,1,0] [] (zEN w zay t4t2 dt2) :=
  zl (λ X=>z76 K [1,1,1,1,0,1,0,0] [X]) (by kernel_rfl) λ X2 hX =>
  (show ∀ k, zHo K w X2 (zf6 w k) (zf5 w k) from zd0 _ _ (znB w) (znA w) (zHo K w X2)
 (by intro _ _ _ hs;exact absurd hs dqk)
 (by intro P2 S2 hX2 zay t4t2 dt2 hs hk;exact hX _ (zaS (by kernel_rfl) (zc hs hk (λ hs hk=>(And.intro (And.intro (zE enc_40 4 w.Net.Ties.get) (rfl:((false,1,false,[none]):MQ)=(false,1,false,[none]))) (zHr hX2 hs hk))) (λ hs hk=>hk))))) _ hs hk
def znC (w:web) (node:Int) (t4t1:Tab) (dt1:Tab):Tab :=
  (zqT w true t4t1 (ts 80 dt1 (0+node.toNat * 2+0) [(0:Int),(0:Int)]))
def znD (w:web) (node:Int) (t4t1:Tab) (dt1:Tab):Bool :=
  (decide ((0<=node/\node < (40:Int))) &&
 (zqU w true t4t1 (ts 80 dt1 (0+node.toNat * 2+0) [(0:Int),(0:Int)])))
theorem zHt (hs:znD w node t4t1 dt1=true) (hk:K (e76 (znC w node t4t1 dt1))):z76 K [1,1,1] [] ⟨[(0,zP (.fp (zaC w) 0)),(1,zI node),(4,zp 4 0),(5,zp 5 0)],[(4,.box 116 (zm (zao t4t1))),(5,.box 116 (zm (zao dt1)))],[]⟩:=zaS (by kernel_rfl) (zaO hs λ hc hs=>And.intro hc (zHs hs hk))
def ziw (w:web) (node:Int) (S0:Int->Tab->Tab->Tab) (za7:Int) (t4t0:Tab) (dt0:Tab):Tab :=
  (cond (decide (za7 < (40:Int)))
 (S0 (w64 (za7+(1:Int))) t4t0 (ts 80 dt0 (0+za7.toNat * 2+0) [(1000000000000:Int),(0:Int)]))
 (znC w node t4t0 dt0))
def zix (w:web) (node:Int) (P0:Int->Tab->Tab->Bool) (za7:Int) (t4t0:Tab) (dt0:Tab):Bool :=
  (cond (decide (za7 < (40:Int)))
 (decide ((0<=za7/\za7 < (40:Int))) &&
 (P0 (w64 (za7+(1:Int))) t4t0 (ts 80 dt0 (0+za7.toNat * 2+0) [(1000000000000:Int),(0:Int)])))
 (znD w node t4t0 dt0))
def ziy (w:web) (node:Int):Nat->Int->Tab->Tab->Tab:=lpO (λ _ _ _=>default) (ziw w node)
def ziz (w:web) (node:Int):Nat->Int->Tab->Tab->Bool:=lpO (λ _ _ _=>false) (zix w node)
def zy4 (w:web) (node:Int) (za7:Int) (t4t0:Tab) (dt0:Tab):Tab:=ziy w node Fuel za7 t4t0 dt0
def zy5 (w:web) (node:Int) (za7:Int) (t4t0:Tab) (dt0:Tab):Bool:=ziz w node Fuel za7 t4t0 dt0
theorem zHu (hs:zy5 w node za7 t4t0 dt0=true) (hk:K (e76 (zy4 w node za7 t4t0 dt0))):z76 K [1,1,0,1,0] [] (zEM w node za7 t4t0 dt0) :=
  zl (λ X=>z76 K [1,1,0,1,0,0] [X]) (by kernel_rfl) λ X0 hX =>
  (show ∀ k, zLz K w node X0 (ziz w node k) (ziy w node k) from zd0 _ _ (zix w node) (ziw w node) (zLz K w node X0)
 (by intro _ _ _ hs;exact absurd hs dqk)
 (by intro P0 S0 hX0 za7 t4t0 dt0 hs hk;exact hX _ (zaS (by kernel_rfl) (zc hs hk (λ hs hk=>(zaO hs λ hc hs=>And.intro hc (hX0 hs hk))) (λ hs hk=>(zHt hs hk)))))) _ hs hk
def s76 (w:web) (node:Int):Tab :=
  (zy4 w node (0:Int) (λ _=>(0:Int)) (λ _=>(0:Int)))
def p76 (w:web) (node:Int):Bool :=
  (zy5 w node (0:Int) (λ _=>(0:Int)) (λ _=>(0:Int)))
end
theorem q76 (w:web) (node:Int) (K:List PA->Prop) (hs:p76 w node=true) (hk:K (e76 (s76 w node))):vcFun Tryd.prog G76 zy2 76 [.one (.fp (zaC w) 0),.one (.int .i64 node)] K :=
  zaS (by kernel_rfl) (zHu hs hk)
def zuW : List PA → COut
  | [.one (.fp [.int .i64 zam,.sl zah zaA zai,.fm za3 zaD zaE] 0),.one (.int .i64 a1)]=>.det (IsE enc_40 4 zaA zai/\za3=(false,1,false,[none])/\p76 (⟨(⟨zam,(⟨zah,zal zai⟩:(Sl Tie))⟩:Net),(⟨zaD,zaE⟩:Mp)⟩:web) a1=true) [.agg (zao ((s76 (⟨(⟨zam,(⟨zah,zal zai⟩:(Sl Tie))⟩:Net),(⟨zaD,zaE⟩:Mp)⟩:web) a1)))]
  | _=>.no
theorem zLB:zar Tryd.prog 76:=⟨_,rfl,rfl,by kernel_rfl⟩
theorem zNj:Ok Tryd.prog 76 zuW:=zbc zOc zLB λ args K h=>by
  unfold zuW at h
  split at h
  · rename_i zam zah zaA zai za3 zaD zaE a1
    obtain⟨⟨⟨rfl,zas,rfl⟩,rfl,hs⟩,hk⟩:=h
    try rw[zaj zas] at hs
    try rw[zaj zas] at hk
    exact⟨(λ _ _=>[]),(λ _=>false),zy2,q76 (⟨(⟨zam,(⟨zah,zas⟩:(Sl Tie))⟩:Net),(⟨zaD,zaE⟩:Mp)⟩:web) a1 K hs hk⟩
  · exact h.elim
abbrev T26:Tabs:=(((Tabs.nil.addF 74 zuV).addF 75 zy1).addF 76 zuW)
theorem zOd:TabsOk Tryd.prog T26:=(((TabsOk.nil.addF zNi).addF zOb).addF zNj)
abbrev G26:Ctrs:=csm T26 (λ _ _=>[]) (λ _=>false)
def zHv:Ann:=⟨45,[(0,zK [1] [1]),(1,zK [1,4,5] [1]),(2,zK [1,4,5,16] [1]),(3,zK [2,3] []),(4,zK [1,6,7] [1,6,7]),(5,zK [6,7,8] [6,7,24]),(6,zK [6,7,8,26,27] [6,7,24]),(7,zK [6,7,8,26,27,28] [6,7,24]),(8,zK [6,7,8,9,26,27] [6,7,24]),(9,zK [6,7,8,26,27] [6,7,24]),(10,zK [6,7,8,26,27] [6,7,24]),(11,zK [2,3] [24])],
 [(7,zK [6,7,8,26,27] [6,7,24])],
 [],
 [],[]⟩
abbrev R26:=((Sl Span)×Int)
abbrev e26 (r:R26):List PA:=[.one (.sl r.1.len 2 (λ i=>zbB (r.1.get i))),.one (.int .i64 r.2)]
@[irreducible] def z26:=ptF Tryd.prog G26 zHv Tryd.f26
def zEO (n:Net) (zco:Int) (zdf:(Sl Span)) (tot0:Tab) (fromt0:Tab) (zf7:Nat->List PV):St:=⟨[(6,zp 6 0),(7,zp 7 0),(8,zv 24),(26,zI (n.Nodes.toNat:Int)),(27,zI zco)],[(6,.box 116 (zm (zao tot0))),(7,.box 116 (zm (zao fromt0))),(24,.vec 43 2 16 zdf.len zf7)],[]⟩
abbrev zLC (K:List PA->Prop) (n:Net) (X:St->Prop) (P:Int->(Sl Span)->Tab->Tab->Bool) (S:Int->(Sl Span)->Tab->Tab->((Sl Span)×Int)):Prop:=∀ ⦃zco:Int⦄ ⦃zdf:(Sl Span)⦄ ⦃tot0:Tab⦄ ⦃fromt0:Tab⦄ ⦃zf7:Nat->List PV⦄,P zco zdf tot0 fromt0=true->K (e26 (S zco zdf tot0 fromt0))->zf7=zg zbB zdf->X (zEO n zco zdf tot0 fromt0 zf7)
section
variable {K:List PA->Prop}{n:Net}{zco:Int}{zdf:(Sl Span)}{tot0:Tab}{fromt0:Tab}{zf7:Nat->List PV}{X0:St->Prop}{P0:Int->(Sl Span)->Tab->Tab->Bool}{S0:Int->(Sl Span)->Tab->Tab->((Sl Span)×Int)}
def zy6 (n:Net) (S0:Int->(Sl Span)->Tab->Tab->((Sl Span)×Int)) (zco:Int) (zdf:(Sl Span)) (tot0:Tab) (fromt0:Tab):((Sl Span)×Int) :=
  (cond (decide (zco < (n.Nodes.toNat : Int)))
 (S0 (w64 (zco+(1:Int))) (⟨zdf.len,(setT zco.toNat (⟨(w64 (0 - (tg 80 tot0 (0+zco.toNat * 2+0)))),(tg 80 fromt0 (0+zco.toNat * 2+0))⟩:Span) zdf.get)⟩:Sl Span) tot0 fromt0)
 (zdf,(0:Int)))
def zy7 (n:Net) (P0:Int->(Sl Span)->Tab->Tab->Bool) (zco:Int) (zdf:(Sl Span)) (tot0:Tab) (fromt0:Tab):Bool :=
  (cond (decide (zco < (n.Nodes.toNat : Int)))
 (decide ((0<=zco/\zco < (40:Int))) &&
 (decide ((0<=zco/\zco < (40:Int))) &&
 (decide ((0<=zco/\zco < (zdf.len:Int))) &&
 (decide ((zco.toNat < zdf.len)) &&
 (P0 (w64 (zco+(1:Int))) (⟨zdf.len,(setT zco.toNat (⟨(w64 (0 - (tg 80 tot0 (0+zco.toNat * 2+0)))),(tg 80 fromt0 (0+zco.toNat * 2+0))⟩:Span) zdf.get)⟩:Sl Span) tot0 fromt0)))))
 true)
def zy8 (n:Net):Nat->Int->(Sl Span)->Tab->Tab->((Sl Span)×Int):=lpO (λ _ _ _ _=>default) (zy6 n)
def zy9 (n:Net):Nat->Int->(Sl Span)->Tab->Tab->Bool:=lpO (λ _ _ _ _=>false) (zy7 n)
def zza (n:Net) (zco:Int) (zdf:(Sl Span)) (tot0:Tab) (fromt0:Tab):((Sl Span)×Int):=zy8 n Fuel zco zdf tot0 fromt0
def zzb (n:Net) (zco:Int) (zdf:(Sl Span)) (tot0:Tab) (fromt0:Tab):Bool:=zy9 n Fuel zco zdf tot0 fromt0
theorem zHw (hs:zzb n zco zdf tot0 fromt0=true) (hk:K (e26 (zza n zco zdf tot0 fromt0))) (zqV:zf7=zg zbB zdf):z26 (Wk K) [1,1,1,1,1,0,1,0] [] (zEO n zco zdf tot0 fromt0 zf7) :=
  zl (λ X=>z26 (Wk K) [1,1,1,1,1,0,1,0,0] [X]) (by kernel_rfl) λ X0 hX =>
  (show ∀ k, zLC K n X0 (zy9 n k) (zy8 n k) from zd0 _ _ (zy7 n) (zy6 n) (zLC K n X0)
 (by intro _ _ _ _ _ hs;exact absurd hs dqk)
 (by intro P0 S0 hX0 zco zdf tot0 fromt0 zf7 hs hk zqV;subst zqV;exact hX _ (zaS (by kernel_rfl) (zc hs hk (λ hs hk=>(zaO hs λ hc hs=>And.intro hc (zaO hs λ hc hs=>And.intro hc (zaO hs λ hc hs=>And.intro hc (zaO hs λ hc hs=>And.intro hc (hX0 hs hk (zfz (enc:=zbB) (i:=zco.toNat) (k:=0) (f:=zdf.get) (new:=(zbB (⟨(w64 (0 - (tg 80 tot0 (0+zco.toNat * 2+0)))),(tg 80 fromt0 (0+zco.toNat * 2+0))⟩:Span))) (v:=(⟨(w64 (0 - (tg 80 tot0 (0+zco.toNat * 2+0)))),(tg 80 fromt0 (0+zco.toNat * 2+0))⟩:Span)) rfl rfl))))))) (λ hs hk=>((zfT hk):Wk K [.one (.sl zdf.len 2 (λ i=>zbB (zdf.get i))),.one (.int .i64 (0:Int))])))))) _ hs hk zqV
def s26 (n:Net):((Sl Span)×Int) :=
  (cond ((s74 n (⟨0, λ _ => default⟩ : (Sl Int))).2 == 0)
 (cond ((0:Int) != (0:Int))
 ((⟨0,λ _=>default⟩:(Sl Span)),(0:Int))
 (zza n (0:Int) (⟨n.Nodes.toNat,(λ _=>(⟨(0:Int),(0:Int)⟩:Span))⟩:Sl Span) (s75 (⟨(s74 n (⟨0,λ _=>default⟩:(Sl Int))).1.Net,((s74 n (⟨0,λ _=>default⟩:(Sl Int))).1.out)⟩:web) (0:Int)) (s76 (⟨(s74 n (⟨0,λ _=>default⟩:(Sl Int))).1.Net,((s74 n (⟨0,λ _=>default⟩:(Sl Int))).1.out)⟩:web) (0:Int))))
 (cond ((s74 n (⟨0, λ _ => default⟩ : (Sl Int))).2 != (0:Int))
 ((⟨0,λ _=>default⟩:(Sl Span)),(s74 n (⟨0,λ _=>default⟩:(Sl Int))).2)
 default))
def p26 (n:Net):Bool :=
  (cond ((s74 n (⟨0, λ _ => default⟩ : (Sl Int))).2 == 0)
 (decide ((p74 n (⟨0,λ _=>default⟩:(Sl Int))=true)) &&
 (cond ((0:Int) != (0:Int))
 true
 (decide ((p75 (⟨(s74 n (⟨0,λ _=>default⟩:(Sl Int))).1.Net,((s74 n (⟨0,λ _=>default⟩:(Sl Int))).1.out)⟩:web) (0:Int)=true)) &&
 (decide ((p76 (⟨(s74 n (⟨0,λ _=>default⟩:(Sl Int))).1.Net,((s74 n (⟨0,λ _=>default⟩:(Sl Int))).1.out)⟩:web) (0:Int)=true)) &&
 (decide ((0<=n.Nodes/\n.Nodes=n.Nodes/\n.Nodes<=1000000)) &&
 (zzb n (0:Int) (⟨n.Nodes.toNat,(λ _=>(⟨(0:Int),(0:Int)⟩:Span))⟩:Sl Span) (s75 (⟨(s74 n (⟨0,λ _=>default⟩:(Sl Int))).1.Net,((s74 n (⟨0,λ _=>default⟩:(Sl Int))).1.out)⟩:web) (0:Int)) (s76 (⟨(s74 n (⟨0,λ _=>default⟩:(Sl Int))).1.Net,((s74 n (⟨0,λ _=>default⟩:(Sl Int))).1.out)⟩:web) (0:Int))))))))
 (decide ((p74 n (⟨0,λ _=>default⟩:(Sl Int))=true)) &&
 (cond ((s74 n (⟨0, λ _ => default⟩ : (Sl Int))).2 != (0:Int))
 true
 false)))
end
theorem q26 (n:Net) (K:List PA->Prop) (hs:p26 n=true) (hk:K (e26 (s26 n))):vcFun Tryd.prog G26 zHv 26 [.agg (enc_24 n)] (Wk K) :=
  zaS (by kernel_rfl) (zc hs hk (λ hs hk=>(zaO hs λ hc hs=>And.intro (And.intro (zE enc_40 4 n.Ties.get) hc) (zc hs hk (λ hs hk=>((wk hk (zgy (.one (.nil _ _)) (zgy (.one (.rfl _)) zmd))):Wk K [.one (.nils),.one (.int .i64 (0:Int))])) (λ hs hk=>(zaO hs λ hc hs=>And.intro (And.intro (zE enc_40 4 ((s74 n (⟨0,λ _=>default⟩:(Sl Int))).1.Net.Ties.get)) (And.intro (rfl:((false,1,false,[none]):MQ)=(false,1,false,[none])) hc)) (zaO hs λ hc hs=>And.intro (And.intro (zE enc_40 4 ((s74 n (⟨0,λ _=>default⟩:(Sl Int))).1.Net.Ties.get)) (And.intro (rfl:((false,1,false,[none]):MQ)=(false,1,false,[none])) hc)) (zaO hs λ hc hs=>And.intro hc (zHw hs hk rfl)))))))) (λ hs hk=>(zaO hs λ hc hs=>And.intro (And.intro (zE enc_40 4 n.Ties.get) hc) (zc hs hk (λ hs hk=>((wk hk (zgy (.one (.nil _ _)) (zgy (.one (.rfl _)) zmd))):Wk K [.one (.nils),.one (.int .i64 ((s74 n (⟨0,λ _=>default⟩:(Sl Int))).2))])) (λ hs hk=>(absurd hs dqk:False))))))
def zHx : List PA → COut
  | [.agg [.int .i64 zaf,.sl zac zat zab]]=>.det (IsE enc_40 4 zat zab/\p26 (⟨zaf,(⟨zac,zal zab⟩:(Sl Tie))⟩:Net)=true) [.one (.sl (((s26 (⟨zaf,(⟨zac,zal zab⟩:(Sl Tie))⟩:Net)).1).len) 2 (λ i=>zbB (((s26 (⟨zaf,(⟨zac,zal zab⟩:(Sl Tie))⟩:Net)).1).get i))),.one (.int .i64 ((s26 (⟨zaf,(⟨zac,zal zab⟩:(Sl Tie))⟩:Net)).2))]
  | _=>.no
theorem zLD:zar Tryd.prog 26:=⟨_,rfl,rfl,by kernel_rfl⟩
theorem zQn:Ok Tryd.prog 26 zHx:=zhb zOd zLD λ args K h=>by
  unfold zHx at h
  split at h
  · rename_i zaf zac zat zab
    obtain⟨⟨⟨rfl,zan,rfl⟩,hs⟩,hk⟩:=h
    try rw[zaj zan] at hs
    try rw[zaj zan] at hk
    exact⟨_,zfA zfS _,(λ _ _=>[]),(λ _=>false),zHv,q26 (⟨zaf,(⟨zac,zan⟩:(Sl Tie))⟩:Net) K hs hk⟩
  · exact h.elim
abbrev T29:Tabs:=Tabs.nil
theorem zOe:TabsOk Tryd.prog T29:=TabsOk.nil
abbrev G29:Ctrs:=csm T29 (λ _ _=>[]) (λ _=>false)
def zLE:Ann:=⟨13,[(0,zK [2,3,4] [2,3,4]),(1,zK [2,4] [2,4,7]),(2,zK [4] [4,7])],
 [],
 [],
 [],[]⟩
abbrev R29:=Net
abbrev e29 (r:R29):List PA:=[.agg [.int .i64 r.Nodes,.sl r.Ties.len 4 (λ i=>enc_40 (r.Ties.get i))]]
section
variable {K:List PA->Prop}{n:Net}{t:Tie}
def s29 (n:Net) (t:Tie):Net :=
  (⟨n.Nodes,(⟨(n.Ties.len+1),(zdU n.Ties.len n.Ties.get (λ _=>t))⟩:(Sl Tie))⟩:Net)
def p29 (n:Net) (t:Tie):Bool :=
  (decide ((n.Ties.len * 32<=140737488355328/\n.Ties.len<=9223372036854775807)) &&
 (decide (((n.Ties.len+1) * 32<=140737488355328/\n.Ties.len+1<=9223372036854775807)) &&
 true))
end
theorem q29 (n:Net) (t:Tie) (K:List PA->Prop) (hs:p29 n t=true) (hk:K (e29 (s29 n t))):vcFun Tryd.prog G29 zLE 29 [.agg (enc_24 n),.agg (enc_40 t)] K :=
  zaS (by kernel_rfl) (zaO hs λ hc hs=>And.intro hc (zaO hs λ hc hs=>And.intro hc (Eq.mpr (congrArg K (congrArg (λ (g_:Nat->List PV)=>([.agg [.int .i64 n.Nodes,.sl (n.Ties.len+1) 4 g_]]:List PA)) (zfy (enc:=enc_40) (f:=n.Ties.get) (h:=(λ _=>t)) rfl rfl))) hk)))
def zHy : List PA → COut
  | [.agg [.int .i64 zaf,.sl zac zat zab],.agg [.int .i64 zbF,.int .i64 zdE,.int .i64 zcg,.int .i64 zbG]]=>.det (IsE enc_40 4 zat zab/\p29 (⟨zaf,(⟨zac,zal zab⟩:(Sl Tie))⟩:Net) (⟨zbF,zdE,zcg,zbG⟩:Tie)=true) [.agg [.int .i64 ((s29 (⟨zaf,(⟨zac,zal zab⟩:(Sl Tie))⟩:Net) (⟨zbF,zdE,zcg,zbG⟩:Tie)).Nodes),.sl ((s29 (⟨zaf,(⟨zac,zal zab⟩:(Sl Tie))⟩:Net) (⟨zbF,zdE,zcg,zbG⟩:Tie)).Ties.len) 4 (λ i=>enc_40 ((s29 (⟨zaf,(⟨zac,zal zab⟩:(Sl Tie))⟩:Net) (⟨zbF,zdE,zcg,zbG⟩:Tie)).Ties.get i))]]
  | _=>.no
theorem zLF:zar Tryd.prog 29:=⟨_,rfl,rfl,by kernel_rfl⟩
theorem zQo:Ok Tryd.prog 29 zHy:=zbc zOe zLF λ args K h=>by
  unfold zHy at h
  split at h
  · rename_i zaf zac zat zab zbF zdE zcg zbG
    obtain⟨⟨⟨rfl,zan,rfl⟩,hs⟩,hk⟩:=h
    try rw[zaj zan] at hs
    try rw[zaj zan] at hk
    exact⟨(λ _ _=>[]),(λ _=>false),zLE,q29 (⟨zaf,(⟨zac,zan⟩:(Sl Tie))⟩:Net) (⟨zbF,zdE,zcg,zbG⟩:Tie) K hs hk⟩
  · exact h.elim
abbrev T32:Tabs:=Tabs.nil
theorem zOf:TabsOk Tryd.prog T32:=TabsOk.nil
abbrev G32:Ctrs:=csm T32 (λ _ _=>[]) (λ _=>false)
def zHz:Ann:=⟨26,[(0,zK [0,1] []),(1,zK [0,1,10] []),(2,zK [4] []),(3,zK [0,1,5] []),(4,zK [0,1,5,14] []),(5,zK [0,1,5] []),(6,zK [0,1,5,25] []),(7,zK [4] []),(8,zK [4] [])],
 [(4,zK [0,1,5] [])],
 [(3,zK [0,1] [])],
 [],[]⟩
abbrev R32:=Bool
abbrev e32 (r:R32):List PA:=[.one (.bool r)]
@[irreducible] def z32:=ptF Tryd.prog G32 zHz Tryd.f32
def zEP (a:(Sl Span)) (b:(Sl Span)) (iv1:Int):St:=⟨[(0,zS zbB 2 a),(1,zS zbB 2 b),(5,zI iv1)],[],[]⟩
abbrev zLG (K:List PA->Prop) (a:(Sl Span)) (b:(Sl Span)) (X:St->Prop) (P:Int->Bool) (S:Int->Bool):Prop:=∀ ⦃iv1:Int⦄,P iv1=true->K (e32 (S iv1))->X (zEP a b iv1)
section
variable {K:List PA->Prop}{a:(Sl Span)}{b:(Sl Span)}{iv1:Int}{X1:St->Prop}{P1:Int->Bool}{S1:Int->Bool}
def zzc (a:(Sl Span)) (b:(Sl Span)) (S1:Int->Bool) (iv1:Int):Bool :=
  (cond (decide (iv1 < (a.len : Int)))
 (cond (!(match ((a.get iv1.toNat).Low == (b.get iv1.toNat).Low) with | true => (match ((a.get iv1.toNat).High == (b.get iv1.toNat).High) with | true => true | false => false) | false => false))
 false
 (S1 (w64 (iv1+(1:Int)))))
 true)
def zzd (a:(Sl Span)) (b:(Sl Span)) (P1:Int->Bool) (iv1:Int):Bool :=
  (cond (decide (iv1 < (a.len : Int)))
 (decide ((0<=iv1/\iv1 < (a.len:Int))) &&
 (decide ((0<=iv1/\iv1 < (b.len:Int))) &&
 (cond (!(match ((a.get iv1.toNat).Low == (b.get iv1.toNat).Low) with | true => (match ((a.get iv1.toNat).High == (b.get iv1.toNat).High) with | true => true | false => false) | false => false))
 true
 (P1 (w64 (iv1+(1:Int)))))))
 true)
def zze (a:(Sl Span)) (b:(Sl Span)):Nat->Int->Bool:=lpO (λ _=>default) (zzc a b)
def zzf (a:(Sl Span)) (b:(Sl Span)):Nat->Int->Bool:=lpO (λ _=>false) (zzd a b)
def zzg (a:(Sl Span)) (b:(Sl Span)) (iv1:Int):Bool:=zze a b Fuel iv1
def zzh (a:(Sl Span)) (b:(Sl Span)) (iv1:Int):Bool:=zzf a b Fuel iv1
theorem zHA (hs:zzh a b iv1=true) (hk:K (e32 (zzg a b iv1))):z32 K [1,1,0,1,0] [] (zEP a b iv1) :=
  zl (λ X=>z32 K [1,1,0,1,0,0] [X]) (by kernel_rfl) λ X1 hX =>
  (show ∀ k, zLG K a b X1 (zzf a b k) (zze a b k) from zd0 _ _ (zzd a b) (zzc a b) (zLG K a b X1)
 (by intro _ hs;exact absurd hs dqk)
 (by intro P1 S1 hX1 iv1 hs hk;exact hX _ (zaS (by kernel_rfl) (zc hs hk (λ hs hk=>(zaO hs λ hc hs=>And.intro hc (zaO hs λ hc hs=>And.intro hc (zc hs hk (λ hs hk=>hk) (λ hs hk=>(hX1 hs hk)))))) (λ hs hk=>hk))))) _ hs hk
def zzi (a:(Sl Span)) (b:(Sl Span)):Bool :=
  (zzg a b (0:Int))
def zzj (a:(Sl Span)) (b:(Sl Span)):Bool :=
  (zzh a b (0:Int))
theorem zHB (hs:zzj a b=true) (hk:K (e32 (zzi a b))):z32 K [1,1] [] ⟨[(0,zS zbB 2 a),(1,zS zbB 2 b)],[],[]⟩:=zaS (by kernel_rfl) (zHA hs hk)
def s32 (a:(Sl Span)) (b:(Sl Span)):Bool :=
  (cond ((a.len : Int) != (b.len : Int))
 false
 (zzi a b))
def p32 (a:(Sl Span)) (b:(Sl Span)):Bool :=
  (cond ((a.len : Int) != (b.len : Int))
 true
 (zzj a b))
end
theorem q32 (a:(Sl Span)) (b:(Sl Span)) (K:List PA->Prop) (hs:p32 a b=true) (hk:K (e32 (s32 a b))):vcFun Tryd.prog G32 zHz 32 [.one (.sl a.len 2 (λ i=>zbB (a.get i))),.one (.sl b.len 2 (λ i=>zbB (b.get i)))] K :=
  zaS (by kernel_rfl) (zc hs hk (λ hs hk=>hk) (λ hs hk=>(zHB hs hk)))
def zHC : List PA → COut
  | [.one (.sl zeh zje zei),.one (.sl ze3 zlB zeY)]=>.det (IsE zbB 2 zje zei/\IsE zbB 2 zlB zeY/\p32 (⟨zeh,zfU zei⟩:(Sl Span)) (⟨ze3,zfU zeY⟩:(Sl Span))=true) [.one (.bool (s32 (⟨zeh,zfU zei⟩:(Sl Span)) (⟨ze3,zfU zeY⟩:(Sl Span))))]
  | _=>.no
theorem zLH:zar Tryd.prog 32:=⟨_,rfl,rfl,by kernel_rfl⟩
theorem ok32:Ok Tryd.prog 32 zHC:=zbc zOf zLH λ args K h=>by
  unfold zHC at h
  split at h
  · rename_i zeh zje zei ze3 zlB zeY
    obtain⟨⟨⟨rfl,zgz,rfl⟩,⟨rfl,zim,rfl⟩,hs⟩,hk⟩:=h
    try rw[zfj zgz] at hs
    try rw[zfj zgz] at hk
    try rw[zfj zim] at hs
    try rw[zfj zim] at hk
    exact⟨(λ _ _=>[]),(λ _=>false),zHz,q32 (⟨zeh,zgz⟩:(Sl Span)) (⟨ze3,zim⟩:(Sl Span)) K hs hk⟩
  · exact h.elim
abbrev T83:Tabs:=((Tabs.nil.addF 75 zy1).addF 76 zuW)
theorem zOg:TabsOk Tryd.prog T83:=((TabsOk.nil.addF zOb).addF zNj)
abbrev G83:Ctrs:=csm T83 (λ _ _=>[]) (λ _=>false)
def zHD:Ann:=⟨31,[(0,zK [0] []),(1,zK [0,3,4] [3,4]),(2,zK [3,4,14,15] [3,4]),(3,zK [3,4,14,15,16] [3,4]),(4,zK [3,4,5,14,15] [3,4]),(5,zK [3,4,14,15,29] [3,4]),(6,zK [2] []),(7,zK [3,4,14,15] [3,4]),(8,zK [2] [])],
 [(3,zK [3,4,14,15] [3,4])],
 [(2,zK [0,3,4] [3,4])],
 [],[]⟩
abbrev R83:=Bool
abbrev e83 (r:R83):List PA:=[.one (.bool r)]
@[irreducible] def z83:=ptF Tryd.prog G83 zHD Tryd.f83
def zEQ (w:web) (zcS:Int) (tot1:Tab) (fromt1:Tab):St:=⟨[(3,zp 3 0),(4,zp 4 0),(14,zI w.Net.Nodes),(15,zI zcS)],[(3,.box 116 (zm (zao tot1))),(4,.box 116 (zm (zao fromt1)))],[]⟩
abbrev zLI (K:List PA->Prop) (w:web) (X:St->Prop) (P:Int->Tab->Tab->Bool) (S:Int->Tab->Tab->Bool):Prop:=∀ ⦃zcS:Int⦄ ⦃tot1:Tab⦄ ⦃fromt1:Tab⦄,P zcS tot1 fromt1=true->K (e83 (S zcS tot1 fromt1))->X (zEQ w zcS tot1 fromt1)
section
variable {K:List PA->Prop}{w:web}{tot0:Tab}{fromt0:Tab}{zcS:Int}{tot1:Tab}{fromt1:Tab}{X1:St->Prop}{P1:Int->Tab->Tab->Bool}{S1:Int->Tab->Tab->Bool}
def zzk (w:web) (S1:Int->Tab->Tab->Bool) (zcS:Int) (tot1:Tab) (fromt1:Tab):Bool :=
  (cond (decide (zcS < w.Net.Nodes))
 (cond (match ((tg 80 tot1 (0 + zcS.toNat * 2 + 0)) == (1000000000000:Int)) with | true => (match ((tg 80 tot1 (0 + zcS.toNat * 2 + 0 + 1)) == (0:Int)) with | true => true | false => false) | false => false)
 false
 (cond (match ((tg 80 fromt1 (0 + zcS.toNat * 2 + 0)) == (1000000000000:Int)) with | true => (match ((tg 80 fromt1 (0 + zcS.toNat * 2 + 0 + 1)) == (0:Int)) with | true => true | false => false) | false => false)
 false
 (S1 (w64 (zcS+(1:Int))) tot1 fromt1)))
 true)
def zzl (w:web) (P1:Int->Tab->Tab->Bool) (zcS:Int) (tot1:Tab) (fromt1:Tab):Bool :=
  (cond (decide (zcS < w.Net.Nodes))
 (decide ((0<=zcS/\zcS < (40:Int))) &&
 (cond (match ((tg 80 tot1 (0 + zcS.toNat * 2 + 0)) == (1000000000000:Int)) with | true => (match ((tg 80 tot1 (0 + zcS.toNat * 2 + 0 + 1)) == (0:Int)) with | true => true | false => false) | false => false)
 true
 (decide ((0<=zcS/\zcS < (40:Int))) &&
 (cond (match ((tg 80 fromt1 (0 + zcS.toNat * 2 + 0)) == (1000000000000:Int)) with | true => (match ((tg 80 fromt1 (0 + zcS.toNat * 2 + 0 + 1)) == (0:Int)) with | true => true | false => false) | false => false)
 true
 (P1 (w64 (zcS+(1:Int))) tot1 fromt1)))))
 true)
def zzm (w:web):Nat->Int->Tab->Tab->Bool:=lpO (λ _ _ _=>default) (zzk w)
def zzn (w:web):Nat->Int->Tab->Tab->Bool:=lpO (λ _ _ _=>false) (zzl w)
def zzo (w:web) (zcS:Int) (tot1:Tab) (fromt1:Tab):Bool:=zzm w Fuel zcS tot1 fromt1
def zzp (w:web) (zcS:Int) (tot1:Tab) (fromt1:Tab):Bool:=zzn w Fuel zcS tot1 fromt1
theorem zHE (hs:zzp w zcS tot1 fromt1=true) (hk:K (e83 (zzo w zcS tot1 fromt1))):z83 K [1,1,0,1,0] [] (zEQ w zcS tot1 fromt1) :=
  zl (λ X=>z83 K [1,1,0,1,0,0] [X]) (by kernel_rfl) λ X1 hX =>
  (show ∀ k, zLI K w X1 (zzn w k) (zzm w k) from zd0 _ _ (zzl w) (zzk w) (zLI K w X1)
 (by intro _ _ _ hs;exact absurd hs dqk)
 (by intro P1 S1 hX1 zcS tot1 fromt1 hs hk;exact hX _ (zaS (by kernel_rfl) (zc hs hk (λ hs hk=>(zaO hs λ hc hs=>And.intro hc (zc hs hk (λ hs hk=>hk) (λ hs hk=>(zaO hs λ hc hs=>And.intro hc (zc hs hk (λ hs hk=>hk) (λ hs hk=>(hX1 hs hk)))))))) (λ hs hk=>hk))))) _ hs hk
def zzq (w:web) (tot0:Tab) (fromt0:Tab):Bool :=
  (zzo w (0:Int) tot0 fromt0)
def zzr (w:web) (tot0:Tab) (fromt0:Tab):Bool :=
  (zzp w (0:Int) tot0 fromt0)
theorem zHF (hs:zzr w tot0 fromt0=true) (hk:K (e83 (zzq w tot0 fromt0))):z83 K [1,1] [] ⟨[(0,zP (.fp (zaC w) 0)),(3,zp 3 0),(4,zp 4 0)],[(3,.box 116 (zm (zao tot0))),(4,.box 116 (zm (zao fromt0)))],[]⟩:=zaS (by kernel_rfl) (zHE hs hk)
def s83 (w:web):Bool :=
  (zzq w (s75 w (0:Int)) (s76 w (0:Int)))
def p83 (w:web):Bool :=
  (decide ((p75 w (0:Int)=true)) &&
 (decide ((p76 w (0:Int)=true)) &&
 (zzr w (s75 w (0:Int)) (s76 w (0:Int)))))
end
theorem q83 (w:web) (K:List PA->Prop) (hs:p83 w=true) (hk:K (e83 (s83 w))):vcFun Tryd.prog G83 zHD 83 [.one (.fp (zaC w) 0)] K :=
  zaS (by kernel_rfl) (zaO hs λ hc hs=>And.intro (And.intro (zE enc_40 4 w.Net.Ties.get) (And.intro (rfl:((false,1,false,[none]):MQ)=(false,1,false,[none])) hc)) (zaO hs λ hc hs=>And.intro (And.intro (zE enc_40 4 w.Net.Ties.get) (And.intro (rfl:((false,1,false,[none]):MQ)=(false,1,false,[none])) hc)) (zHF hs hk)))
def zHG : List PA → COut
  | [.one (.fp [.int .i64 zam,.sl zah zaA zai,.fm za3 zaD zaE] 0)]=>.det (IsE enc_40 4 zaA zai/\za3=(false,1,false,[none])/\p83 (⟨(⟨zam,(⟨zah,zal zai⟩:(Sl Tie))⟩:Net),(⟨zaD,zaE⟩:Mp)⟩:web)=true) [.one (.bool (s83 (⟨(⟨zam,(⟨zah,zal zai⟩:(Sl Tie))⟩:Net),(⟨zaD,zaE⟩:Mp)⟩:web)))]
  | _=>.no
theorem zLJ:zar Tryd.prog 83:=⟨_,rfl,rfl,by kernel_rfl⟩
theorem zQp:Ok Tryd.prog 83 zHG:=zbc zOg zLJ λ args K h=>by
  unfold zHG at h
  split at h
  · rename_i zam zah zaA zai za3 zaD zaE
    obtain⟨⟨⟨rfl,zas,rfl⟩,rfl,hs⟩,hk⟩:=h
    try rw[zaj zas] at hs
    try rw[zaj zas] at hk
    exact⟨(λ _ _=>[]),(λ _=>false),zHD,q83 (⟨(⟨zam,(⟨zah,zas⟩:(Sl Tie))⟩:Net),(⟨zaD,zaE⟩:Mp)⟩:web) K hs hk⟩
  · exact h.elim
abbrev T85:Tabs:=Tabs.nil
theorem zOh:TabsOk Tryd.prog T85:=TabsOk.nil
abbrev G85:Ctrs:=csm T85 (λ _ _=>[]) (λ _=>false)
def zLK:Ann:=⟨8,[(0,zK [0,1] []),(1,zK [3] [])],
 [],
 [],
 [],[]⟩
abbrev R85:=Int
abbrev e85 (r:R85):List PA:=[.one (.int .i64 r)]
section
variable {K:List PA->Prop}{c0:Tab}{i_a0:Int}
def s85 (c0:Tab) (i_a0:Int):Int :=
  (tg 80 c0 (0+i_a0.toNat * 2+0))
def p85 (c0:Tab) (i_a0:Int):Bool :=
  (decide ((0<=i_a0/\i_a0 < (40:Int))) &&
 true)
end
theorem q85 (c0:Tab) (i_a0:Int) (K:List PA->Prop) (hs:p85 c0 i_a0=true) (hk:K (e85 (s85 c0 i_a0))):vcFun Tryd.prog G85 zLK 85 [.one (.int .i64 i_a0),.one (.fp (zao c0) 0)] K :=
  zaS (by kernel_rfl) (zaO hs λ hc hs=>And.intro hc hk)
def zHH : List PA → COut
  | [.one (.int .i64 a0),.one (.fp c0_t 0)]=>.det (c0_t=zao (zaJ c0_t)/\p85 (zaJ c0_t) a0=true) [.one (.int .i64 (s85 (zaJ c0_t) a0))]
  | _=>.no
theorem zLL:zar Tryd.prog 85:=⟨_,rfl,rfl,by kernel_rfl⟩
theorem zQq:Ok Tryd.prog 85 zHH:=zbc zOh zLL λ args K h=>by
  unfold zHH at h
  split at h
  · rename_i a0 c0_t
    obtain⟨⟨hT_c0,hs⟩,hk⟩:=h
    exact⟨(λ _ _=>[]),(λ _=>false),zLK,(by have hq:=q85 (zaJ c0_t) a0 K hs hk;rw[<- hT_c0] at hq;exact hq)⟩
  · exact h.elim
abbrev T86:Tabs:=Tabs.nil
theorem zOi:TabsOk Tryd.prog T86:=TabsOk.nil
abbrev G86:Ctrs:=csm T86 (λ _ _=>[]) (λ _=>false)
def zLM:Ann:=⟨9,[(0,zK [0,1] []),(1,zK [3] [])],
 [],
 [],
 [],[]⟩
abbrev R86:=Int
abbrev e86 (r:R86):List PA:=[.one (.int .i64 r)]
section
variable {K:List PA->Prop}{c0:Tab}{i_a0:Int}
def s86 (c0:Tab) (i_a0:Int):Int :=
  (w64 (0 - (tg 80 c0 (0+i_a0.toNat * 2+0))))
def p86 (c0:Tab) (i_a0:Int):Bool :=
  (decide ((0<=i_a0/\i_a0 < (40:Int))) &&
 true)
end
theorem q86 (c0:Tab) (i_a0:Int) (K:List PA->Prop) (hs:p86 c0 i_a0=true) (hk:K (e86 (s86 c0 i_a0))):vcFun Tryd.prog G86 zLM 86 [.one (.int .i64 i_a0),.one (.fp (zao c0) 0)] K :=
  zaS (by kernel_rfl) (zaO hs λ hc hs=>And.intro hc hk)
def zHI : List PA → COut
  | [.one (.int .i64 a0),.one (.fp c0_t 0)]=>.det (c0_t=zao (zaJ c0_t)/\p86 (zaJ c0_t) a0=true) [.one (.int .i64 (s86 (zaJ c0_t) a0))]
  | _=>.no
theorem zLN:zar Tryd.prog 86:=⟨_,rfl,rfl,by kernel_rfl⟩
theorem zQr:Ok Tryd.prog 86 zHI:=zbc zOi zLN λ args K h=>by
  unfold zHI at h
  split at h
  · rename_i a0 c0_t
    obtain⟨⟨hT_c0,hs⟩,hk⟩:=h
    exact⟨(λ _ _=>[]),(λ _=>false),zLM,(by have hq:=q86 (zaJ c0_t) a0 K hs hk;rw[<- hT_c0] at hq;exact hq)⟩
  · exact h.elim
abbrev T87:Tabs:=Tabs.nil
theorem zOj:TabsOk Tryd.prog T87:=TabsOk.nil
abbrev G87:Ctrs:=csm T87 (λ _ _=>[]) (λ _=>false)
def zLO:Ann:=⟨12,[(0,zK [0,1] []),(1,zK [3] [])],
 [],
 [],
 [],[]⟩
abbrev R87:=Int
abbrev e87 (r:R87):List PA:=[.one (.int .i64 r)]
section
variable {K:List PA->Prop}{c0:Tab}{i_a0:Int}
def s87 (c0:Tab) (i_a0:Int):Int :=
  (w64 ((tg 80 c0 (0+i_a0.toNat * 2+0)) - (tg 80 c0 (0+0 * 2+0))))
def p87 (c0:Tab) (i_a0:Int):Bool :=
  (decide ((0<=i_a0/\i_a0 < (40:Int))) &&
 (decide ((0<=(0:Int)/\(0:Int) < (40:Int))) &&
 true))
end
theorem q87 (c0:Tab) (i_a0:Int) (K:List PA->Prop) (hs:p87 c0 i_a0=true) (hk:K (e87 (s87 c0 i_a0))):vcFun Tryd.prog G87 zLO 87 [.one (.int .i64 i_a0),.one (.fp (zao c0) 0)] K :=
  zaS (by kernel_rfl) (zaO hs λ hc hs=>And.intro hc (zaO hs λ hc hs=>And.intro hc hk))
def zHJ : List PA → COut
  | [.one (.int .i64 a0),.one (.fp c0_t 0)]=>.det (c0_t=zao (zaJ c0_t)/\p87 (zaJ c0_t) a0=true) [.one (.int .i64 (s87 (zaJ c0_t) a0))]
  | _=>.no
theorem zLP:zar Tryd.prog 87:=⟨_,rfl,rfl,by kernel_rfl⟩
theorem zQs:Ok Tryd.prog 87 zHJ:=zbc zOj zLP λ args K h=>by
  unfold zHJ at h
  split at h
  · rename_i a0 c0_t
    obtain⟨⟨hT_c0,hs⟩,hk⟩:=h
    exact⟨(λ _ _=>[]),(λ _=>false),zLO,(by have hq:=q87 (zaJ c0_t) a0 K hs hk;rw[<- hT_c0] at hq;exact hq)⟩
  · exact h.elim
abbrev T84:Tabs:=(((Tabs.nil.addF 85 zHH).addF 86 zHI).addF 87 zHJ)
theorem zOk:TabsOk Tryd.prog T84:=(((TabsOk.nil.addF zQq).addF zQr).addF zQs)
abbrev G84:Ctrs:=csm T84 (λ _ _=>[]) (λ _=>false)
def zHK:Ann:=⟨26,[(0,zK [0,1] []),(1,zK [1,5] [12]),(2,zK [1,5,14,15] [12]),(3,zK [1,5,14,15,16] [12]),(4,zK [1,5,6,14,15] [12]),(5,zK [1,5,14,15] [12]),(6,zK [1,5,14,15] [12]),(7,zK [4] [12])],
 [(3,zK [1,5,14,15] [12])],
 [],
 [],[]⟩
abbrev R84:=(Sl Int)
abbrev e84 (r:R84):List PA:=[.one (.sl r.len 1 (λ i=>zae (r.get i)))]
@[irreducible] def z84:=ptF Tryd.prog G84 zHK Tryd.f84
def zER (c0:Tab) (w:web) (zaL:Int) (za6:(Sl Int)) (zbH:Nat->List PV):St:=⟨[(1,zP (.fn 87 [] [.fp (zao c0) 0])),(5,zv 12),(14,zI (w.Net.Nodes.toNat:Int)),(15,zI zaL)],[(12,.vec 3 1 8 za6.len zbH)],[]⟩
abbrev zLQ (K:List PA->Prop) (c0:Tab) (w:web) (X:St->Prop) (P:Int->(Sl Int)->Bool) (S:Int->(Sl Int)->(Sl Int)):Prop:=∀ ⦃zaL:Int⦄ ⦃za6:(Sl Int)⦄ ⦃zbH:Nat->List PV⦄,P zaL za6=true->K (e84 (S zaL za6))->zbH=zg zae za6->X (zER c0 w zaL za6 zbH)
section
variable {K:List PA->Prop}{c0:Tab}{w:web}{zaL:Int}{za6:(Sl Int)}{zbH:Nat->List PV}{X0:St->Prop}{P0:Int->(Sl Int)->Bool}{S0:Int->(Sl Int)->(Sl Int)}
def zzs (c0:Tab) (w:web) (S0:Int->(Sl Int)->(Sl Int)) (zaL:Int) (za6:(Sl Int)):(Sl Int) :=
  (cond (decide (zaL < (w.Net.Nodes.toNat : Int)))
 (S0 (w64 (zaL+(1:Int))) (⟨za6.len,(setT zaL.toNat (s87 (zaJ (zao c0)) zaL) za6.get)⟩:Sl Int))
 za6)
def zzt (c0:Tab) (w:web) (P0:Int->(Sl Int)->Bool) (zaL:Int) (za6:(Sl Int)):Bool :=
  (cond (decide (zaL < (w.Net.Nodes.toNat : Int)))
 (decide ((p87 (zaJ (zao c0)) zaL=true)) &&
 (decide ((0<=zaL/\zaL < (za6.len:Int))) &&
 (decide ((zaL.toNat < za6.len)) &&
 (P0 (w64 (zaL+(1:Int))) (⟨za6.len,(setT zaL.toNat (s87 (zaJ (zao c0)) zaL) za6.get)⟩:Sl Int)))))
 true)
def zzu (c0:Tab) (w:web):Nat->Int->(Sl Int)->(Sl Int):=lpO (λ _ _=>default) (zzs c0 w)
def zzv (c0:Tab) (w:web):Nat->Int->(Sl Int)->Bool:=lpO (λ _ _=>false) (zzt c0 w)
def zzw (c0:Tab) (w:web) (zaL:Int) (za6:(Sl Int)):(Sl Int):=zzu c0 w Fuel zaL za6
def zzx (c0:Tab) (w:web) (zaL:Int) (za6:(Sl Int)):Bool:=zzv c0 w Fuel zaL za6
theorem zHL (hs:zzx c0 w zaL za6=true) (hk:K (e84 (zzw c0 w zaL za6))) (zed:zbH=zg zae za6):z84 K [1,1,0,1,0] [] (zER c0 w zaL za6 zbH) :=
  zl (λ X=>z84 K [1,1,0,1,0,0] [X]) (by kernel_rfl) λ X0 hX =>
  (show ∀ k, zLQ K c0 w X0 (zzv c0 w k) (zzu c0 w k) from zd0 _ _ (zzt c0 w) (zzs c0 w) (zLQ K c0 w X0)
 (by intro _ _ _ hs;exact absurd hs dqk)
 (by intro P0 S0 hX0 zaL za6 zbH hs hk zed;subst zed;exact hX _ (zaS (by kernel_rfl) (zc hs hk (λ hs hk=>(zaO hs λ hc hs=>And.intro (And.intro (zhP:zao c0=zao (zaJ (zao c0))) hc) (zaO hs λ hc hs=>And.intro hc (zaO hs λ hc hs=>And.intro hc (hX0 hs hk (zfz (enc:=zae) (i:=zaL.toNat) (k:=0) (f:=za6.get) (new:=(zae (s87 (zaJ (zao c0)) zaL))) (v:=(s87 (zaJ (zao c0)) zaL)) rfl rfl)))))) (λ hs hk=>hk))))) _ hs hk zed
def s84 (c0:Tab) (w:web):(Sl Int) :=
  (zzw c0 w (0:Int) (⟨w.Net.Nodes.toNat,(λ _=>(0:Int))⟩:Sl Int))
def p84 (c0:Tab) (w:web):Bool :=
  (decide ((0<=w.Net.Nodes/\w.Net.Nodes=w.Net.Nodes/\w.Net.Nodes<=1000000)) &&
 (zzx c0 w (0:Int) (⟨w.Net.Nodes.toNat,(λ _=>(0:Int))⟩:Sl Int)))
end
theorem q84 (c0:Tab) (w:web) (K:List PA->Prop) (hs:p84 c0 w=true) (hk:K (e84 (s84 c0 w))):vcFun Tryd.prog G84 zHK 84 [.one (.fp (zaC w) 0),.one (.fn 87 [] [.fp (zao c0) 0])] K :=
  zaS (by kernel_rfl) (zaO hs λ hc hs=>And.intro hc (zHL hs hk rfl))
abbrev zPw:Ctrs:=csm T84 (λ _ _=>[]) (λ _=>false)
def zzy:Ann:=⟨26,[(0,zK [0,1] []),(1,zK [1,5] [12]),(2,zK [1,5,14,15] [12]),(3,zK [1,5,14,15,16] [12]),(4,zK [1,5,6,14,15] [12]),(5,zK [1,5,14,15] [12]),(6,zK [1,5,14,15] [12]),(7,zK [4] [12])],
 [(3,zK [1,5,14,15] [12])],
 [],
 [],[]⟩
abbrev zQt:=(Sl Int)
abbrev zOl (r:zQt):List PA:=[.one (.sl r.len 1 (λ i=>zae (r.get i)))]
@[irreducible] def z84a:=ptF Tryd.prog zPw zzy Tryd.f84
def zzz (c0:Tab) (w:web) (zaL:Int) (za6:(Sl Int)) (zbH:Nat->List PV):St:=⟨[(1,zP (.fn 85 [] [.fp (zao c0) 0])),(5,zv 12),(14,zI (w.Net.Nodes.toNat:Int)),(15,zI zaL)],[(12,.vec 3 1 8 za6.len zbH)],[]⟩
abbrev zES (K:List PA->Prop) (c0:Tab) (w:web) (X:St->Prop) (P:Int->(Sl Int)->Bool) (S:Int->(Sl Int)->(Sl Int)):Prop:=∀ ⦃zaL:Int⦄ ⦃za6:(Sl Int)⦄ ⦃zbH:Nat->List PV⦄,P zaL za6=true->K (zOl (S zaL za6))->zbH=zg zae za6->X (zzz c0 w zaL za6 zbH)
section
variable {K:List PA->Prop}{c0:Tab}{w:web}{zaL:Int}{za6:(Sl Int)}{zbH:Nat->List PV}{X0:St->Prop}{P0:Int->(Sl Int)->Bool}{S0:Int->(Sl Int)->(Sl Int)}
def ztH (c0:Tab) (w:web) (S0:Int->(Sl Int)->(Sl Int)) (zaL:Int) (za6:(Sl Int)):(Sl Int) :=
  (cond (decide (zaL < (w.Net.Nodes.toNat : Int)))
 (S0 (w64 (zaL+(1:Int))) (⟨za6.len,(setT zaL.toNat (s85 (zaJ (zao c0)) zaL) za6.get)⟩:Sl Int))
 za6)
def ztI (c0:Tab) (w:web) (P0:Int->(Sl Int)->Bool) (zaL:Int) (za6:(Sl Int)):Bool :=
  (cond (decide (zaL < (w.Net.Nodes.toNat : Int)))
 (decide ((p85 (zaJ (zao c0)) zaL=true)) &&
 (decide ((0<=zaL/\zaL < (za6.len:Int))) &&
 (decide ((zaL.toNat < za6.len)) &&
 (P0 (w64 (zaL+(1:Int))) (⟨za6.len,(setT zaL.toNat (s85 (zaJ (zao c0)) zaL) za6.get)⟩:Sl Int)))))
 true)
def ztJ (c0:Tab) (w:web):Nat->Int->(Sl Int)->(Sl Int):=lpO (λ _ _=>default) (ztH c0 w)
def ztK (c0:Tab) (w:web):Nat->Int->(Sl Int)->Bool:=lpO (λ _ _=>false) (ztI c0 w)
def ztL (c0:Tab) (w:web) (zaL:Int) (za6:(Sl Int)):(Sl Int):=ztJ c0 w Fuel zaL za6
def ztM (c0:Tab) (w:web) (zaL:Int) (za6:(Sl Int)):Bool:=ztK c0 w Fuel zaL za6
theorem zDg (hs:ztM c0 w zaL za6=true) (hk:K (zOl (ztL c0 w zaL za6))) (zed:zbH=zg zae za6):z84a K [1,1,0,1,0] [] (zzz c0 w zaL za6 zbH) :=
  zl (λ X=>z84a K [1,1,0,1,0,0] [X]) (by kernel_rfl) λ X0 hX =>
  (show ∀ k, zES K c0 w X0 (ztK c0 w k) (ztJ c0 w k) from zd0 _ _ (ztI c0 w) (ztH c0 w) (zES K c0 w X0)
 (by intro _ _ _ hs;exact absurd hs dqk)
 (by intro P0 S0 hX0 zaL za6 zbH hs hk zed;subst zed;exact hX _ (zaS (by kernel_rfl) (zc hs hk (λ hs hk=>(zaO hs λ hc hs=>And.intro (And.intro (zhP:zao c0=zao (zaJ (zao c0))) hc) (zaO hs λ hc hs=>And.intro hc (zaO hs λ hc hs=>And.intro hc (hX0 hs hk (zfz (enc:=zae) (i:=zaL.toNat) (k:=0) (f:=za6.get) (new:=(zae (s85 (zaJ (zao c0)) zaL))) (v:=(s85 (zaJ (zao c0)) zaL)) rfl rfl)))))) (λ hs hk=>hk))))) _ hs hk zed
def zOm (c0:Tab) (w:web):(Sl Int) :=
  (ztL c0 w (0:Int) (⟨w.Net.Nodes.toNat,(λ _=>(0:Int))⟩:Sl Int))
def zPx (c0:Tab) (w:web):Bool :=
  (decide ((0<=w.Net.Nodes/\w.Net.Nodes=w.Net.Nodes/\w.Net.Nodes<=1000000)) &&
 (ztM c0 w (0:Int) (⟨w.Net.Nodes.toNat,(λ _=>(0:Int))⟩:Sl Int)))
end
theorem zQu (c0:Tab) (w:web) (K:List PA->Prop) (hs:zPx c0 w=true) (hk:K (zOl (zOm c0 w))):vcFun Tryd.prog zPw zzy 84 [.one (.fp (zaC w) 0),.one (.fn 85 [] [.fp (zao c0) 0])] K :=
  zaS (by kernel_rfl) (zaO hs λ hc hs=>And.intro hc (zDg hs hk rfl))
abbrev zPy:Ctrs:=csm T84 (λ _ _=>[]) (λ _=>false)
def zzA:Ann:=⟨26,[(0,zK [0,1] []),(1,zK [1,5] [12]),(2,zK [1,5,14,15] [12]),(3,zK [1,5,14,15,16] [12]),(4,zK [1,5,6,14,15] [12]),(5,zK [1,5,14,15] [12]),(6,zK [1,5,14,15] [12]),(7,zK [4] [12])],
 [(3,zK [1,5,14,15] [12])],
 [],
 [],[]⟩
abbrev zQv:=(Sl Int)
abbrev zOn (r:zQv):List PA:=[.one (.sl r.len 1 (λ i=>zae (r.get i)))]
@[irreducible] def z84b:=ptF Tryd.prog zPy zzA Tryd.f84
def zzB (c0:Tab) (w:web) (zaL:Int) (za6:(Sl Int)) (zbH:Nat->List PV):St:=⟨[(1,zP (.fn 86 [] [.fp (zao c0) 0])),(5,zv 12),(14,zI (w.Net.Nodes.toNat:Int)),(15,zI zaL)],[(12,.vec 3 1 8 za6.len zbH)],[]⟩
abbrev zET (K:List PA->Prop) (c0:Tab) (w:web) (X:St->Prop) (P:Int->(Sl Int)->Bool) (S:Int->(Sl Int)->(Sl Int)):Prop:=∀ ⦃zaL:Int⦄ ⦃za6:(Sl Int)⦄ ⦃zbH:Nat->List PV⦄,P zaL za6=true->K (zOn (S zaL za6))->zbH=zg zae za6->X (zzB c0 w zaL za6 zbH)
section
variable {K:List PA->Prop}{c0:Tab}{w:web}{zaL:Int}{za6:(Sl Int)}{zbH:Nat->List PV}{X0:St->Prop}{P0:Int->(Sl Int)->Bool}{S0:Int->(Sl Int)->(Sl Int)}
def ztN (c0:Tab) (w:web) (S0:Int->(Sl Int)->(Sl Int)) (zaL:Int) (za6:(Sl Int)):(Sl Int) :=
  (cond (decide (zaL < (w.Net.Nodes.toNat : Int)))
 (S0 (w64 (zaL+(1:Int))) (⟨za6.len,(setT zaL.toNat (s86 (zaJ (zao c0)) zaL) za6.get)⟩:Sl Int))
 za6)
def ztO (c0:Tab) (w:web) (P0:Int->(Sl Int)->Bool) (zaL:Int) (za6:(Sl Int)):Bool :=
  (cond (decide (zaL < (w.Net.Nodes.toNat : Int)))
 (decide ((p86 (zaJ (zao c0)) zaL=true)) &&
 (decide ((0<=zaL/\zaL < (za6.len:Int))) &&
 (decide ((zaL.toNat < za6.len)) &&
 (P0 (w64 (zaL+(1:Int))) (⟨za6.len,(setT zaL.toNat (s86 (zaJ (zao c0)) zaL) za6.get)⟩:Sl Int)))))
 true)
def ztP (c0:Tab) (w:web):Nat->Int->(Sl Int)->(Sl Int):=lpO (λ _ _=>default) (ztN c0 w)
def ztQ (c0:Tab) (w:web):Nat->Int->(Sl Int)->Bool:=lpO (λ _ _=>false) (ztO c0 w)
def ztR (c0:Tab) (w:web) (zaL:Int) (za6:(Sl Int)):(Sl Int):=ztP c0 w Fuel zaL za6
def ztS (c0:Tab) (w:web) (zaL:Int) (za6:(Sl Int)):Bool:=ztQ c0 w Fuel zaL za6
theorem zDh (hs:ztS c0 w zaL za6=true) (hk:K (zOn (ztR c0 w zaL za6))) (zed:zbH=zg zae za6):z84b K [1,1,0,1,0] [] (zzB c0 w zaL za6 zbH) :=
  zl (λ X=>z84b K [1,1,0,1,0,0] [X]) (by kernel_rfl) λ X0 hX =>
  (show ∀ k, zET K c0 w X0 (ztQ c0 w k) (ztP c0 w k) from zd0 _ _ (ztO c0 w) (ztN c0 w) (zET K c0 w X0)
 (by intro _ _ _ hs;exact absurd hs dqk)
 (by intro P0 S0 hX0 zaL za6 zbH hs hk zed;subst zed;exact hX _ (zaS (by kernel_rfl) (zc hs hk (λ hs hk=>(zaO hs λ hc hs=>And.intro (And.intro (zhP:zao c0=zao (zaJ (zao c0))) hc) (zaO hs λ hc hs=>And.intro hc (zaO hs λ hc hs=>And.intro hc (hX0 hs hk (zfz (enc:=zae) (i:=zaL.toNat) (k:=0) (f:=za6.get) (new:=(zae (s86 (zaJ (zao c0)) zaL))) (v:=(s86 (zaJ (zao c0)) zaL)) rfl rfl)))))) (λ hs hk=>hk))))) _ hs hk zed
def zOo (c0:Tab) (w:web):(Sl Int) :=
  (ztR c0 w (0:Int) (⟨w.Net.Nodes.toNat,(λ _=>(0:Int))⟩:Sl Int))
def zPz (c0:Tab) (w:web):Bool :=
  (decide ((0<=w.Net.Nodes/\w.Net.Nodes=w.Net.Nodes/\w.Net.Nodes<=1000000)) &&
 (ztS c0 w (0:Int) (⟨w.Net.Nodes.toNat,(λ _=>(0:Int))⟩:Sl Int)))
end
theorem zQw (c0:Tab) (w:web) (K:List PA->Prop) (hs:zPz c0 w=true) (hk:K (zOn (zOo c0 w))):vcFun Tryd.prog zPy zzA 84 [.one (.fp (zaC w) 0),.one (.fn 86 [] [.fp (zao c0) 0])] K :=
  zaS (by kernel_rfl) (zaO hs λ hc hs=>And.intro hc (zDh hs hk rfl))
def zHM : List PA → COut
  | [.one (.fp [.int .i64 zam,.sl zah zaA zai,.fm za3 zaD zaE] 0),.one (.fn 87 [] [.fp c0_t 0])]=>.det (IsE enc_40 4 zaA zai/\za3=(false,1,false,[none])/\c0_t=zao (zaJ c0_t)/\p84 (zaJ c0_t) (⟨(⟨zam,(⟨zah,zal zai⟩:(Sl Tie))⟩:Net),(⟨zaD,zaE⟩:Mp)⟩:web)=true) [.one (.sl ((s84 (zaJ c0_t) (⟨(⟨zam,(⟨zah,zal zai⟩:(Sl Tie))⟩:Net),(⟨zaD,zaE⟩:Mp)⟩:web)).len) 1 (λ i=>zae ((s84 (zaJ c0_t) (⟨(⟨zam,(⟨zah,zal zai⟩:(Sl Tie))⟩:Net),(⟨zaD,zaE⟩:Mp)⟩:web)).get i)))]
  | [.one (.fp [.int .i64 zam,.sl zah zaA zai,.fm za3 zaD zaE] 0),.one (.fn 85 [] [.fp c0_t 0])]=>.det (IsE enc_40 4 zaA zai/\za3=(false,1,false,[none])/\c0_t=zao (zaJ c0_t)/\zPx (zaJ c0_t) (⟨(⟨zam,(⟨zah,zal zai⟩:(Sl Tie))⟩:Net),(⟨zaD,zaE⟩:Mp)⟩:web)=true) [.one (.sl ((zOm (zaJ c0_t) (⟨(⟨zam,(⟨zah,zal zai⟩:(Sl Tie))⟩:Net),(⟨zaD,zaE⟩:Mp)⟩:web)).len) 1 (λ i=>zae ((zOm (zaJ c0_t) (⟨(⟨zam,(⟨zah,zal zai⟩:(Sl Tie))⟩:Net),(⟨zaD,zaE⟩:Mp)⟩:web)).get i)))]
  | [.one (.fp [.int .i64 zam,.sl zah zaA zai,.fm za3 zaD zaE] 0),.one (.fn 86 [] [.fp c0_t 0])]=>.det (IsE enc_40 4 zaA zai/\za3=(false,1,false,[none])/\c0_t=zao (zaJ c0_t)/\zPz (zaJ c0_t) (⟨(⟨zam,(⟨zah,zal zai⟩:(Sl Tie))⟩:Net),(⟨zaD,zaE⟩:Mp)⟩:web)=true) [.one (.sl ((zOo (zaJ c0_t) (⟨(⟨zam,(⟨zah,zal zai⟩:(Sl Tie))⟩:Net),(⟨zaD,zaE⟩:Mp)⟩:web)).len) 1 (λ i=>zae ((zOo (zaJ c0_t) (⟨(⟨zam,(⟨zah,zal zai⟩:(Sl Tie))⟩:Net),(⟨zaD,zaE⟩:Mp)⟩:web)).get i)))]
  | _=>.no
theorem zLR:zar Tryd.prog 84:=⟨_,rfl,rfl,by kernel_rfl⟩
theorem zQx:Ok Tryd.prog 84 zHM:=zbc zOk zLR λ args K h=>by
  unfold zHM at h
  split at h
  · rename_i zam zah zaA zai za3 zaD zaE c0_t
    obtain⟨⟨⟨rfl,zas,rfl⟩,rfl,hT_c0,hs⟩,hk⟩:=h
    try rw[zaj zas] at hs
    try rw[zaj zas] at hk
    exact⟨(λ _ _=>[]),(λ _=>false),zHK,(by have hq:=q84 (zaJ c0_t) (⟨(⟨zam,(⟨zah,zas⟩:(Sl Tie))⟩:Net),(⟨zaD,zaE⟩:Mp)⟩:web) K hs hk;rw[<- hT_c0] at hq;exact hq)⟩
  · rename_i zam zah zaA zai za3 zaD zaE c0_t
    obtain⟨⟨⟨rfl,zas,rfl⟩,rfl,hT_c0,hs⟩,hk⟩:=h
    try rw[zaj zas] at hs
    try rw[zaj zas] at hk
    exact⟨(λ _ _=>[]),(λ _=>false),zzy,(by have hq:=zQu (zaJ c0_t) (⟨(⟨zam,(⟨zah,zas⟩:(Sl Tie))⟩:Net),(⟨zaD,zaE⟩:Mp)⟩:web) K hs hk;rw[<- hT_c0] at hq;exact hq)⟩
  · rename_i zam zah zaA zai za3 zaD zaE c0_t
    obtain⟨⟨⟨rfl,zas,rfl⟩,rfl,hT_c0,hs⟩,hk⟩:=h
    try rw[zaj zas] at hs
    try rw[zaj zas] at hk
    exact⟨(λ _ _=>[]),(λ _=>false),zzA,(by have hq:=zQw (zaJ c0_t) (⟨(⟨zam,(⟨zah,zas⟩:(Sl Tie))⟩:Net),(⟨zaD,zaE⟩:Mp)⟩:web) K hs hk;rw[<- hT_c0] at hq;exact hq)⟩
  · exact h.elim
abbrev T45:Tabs:=((((Tabs.nil.addF 74 zuV).addF 76 zuW).addF 83 zHG).addF 84 zHM)
theorem zOp:TabsOk Tryd.prog T45:=((((TabsOk.nil.addF zNi).addF zNj).addF zQp).addF zQx)
abbrev G45:Ctrs:=csm T45 (λ _ _=>[]) (λ _=>false)
def zLS:Ann:=⟨31,[(0,zK [1,2,3] [3]),(1,zK [1,8,9] []),(2,zK [1,8,9,20] []),(3,zK [6,7] []),(4,zK [1,8,24] []),(5,zK [6,7] []),(6,zK [8,10] [10]),(7,zK [6,7] [])],
 [],
 [],
 [],[]⟩
abbrev R45:=((Sl Int)×Int)
abbrev e45 (r:R45):List PA:=[.one (.sl r.1.len 1 (λ i=>zae (r.1.get i))),.one (.int .i64 r.2)]
section
variable {K:List PA->Prop}{n:Net}{zad:Int}{to:Int}
def s45 (n:Net) (zad:Int) (to:Int):((Sl Int)×Int) :=
  (cond ((s74 n (⟨2, zaw (zbA [(zae zad), (zae to)])⟩ : (Sl Int))).2 == 0)
 (cond ((0:Int) != (0:Int))
 ((⟨0,λ _=>default⟩:(Sl Int)),(0:Int))
 (cond (!(s83 (⟨(s74 n (⟨2, zaw (zbA [(zae zad), (zae to)])⟩ : (Sl Int))).1.Net, ((s74 n (⟨2, zaw (zbA [(zae zad), (zae to)])⟩ : (Sl Int))).1.out)⟩ : web)))
 ((⟨0,λ _=>default⟩:(Sl Int)),(6:Int))
 ((s84 (zaJ (zao (s76 (⟨(s74 n (⟨2,zaw (zbA [(zae zad),(zae to)])⟩:(Sl Int))).1.Net,((s74 n (⟨2,zaw (zbA [(zae zad),(zae to)])⟩:(Sl Int))).1.out)⟩:web) zad))) (⟨(s74 n (⟨2,zaw (zbA [(zae zad),(zae to)])⟩:(Sl Int))).1.Net,((s74 n (⟨2,zaw (zbA [(zae zad),(zae to)])⟩:(Sl Int))).1.out)⟩:web)),(0:Int))))
 (cond ((s74 n (⟨2, zaw (zbA [(zae zad), (zae to)])⟩ : (Sl Int))).2 != (0:Int))
 ((⟨0,λ _=>default⟩:(Sl Int)),(s74 n (⟨2,zaw (zbA [(zae zad),(zae to)])⟩:(Sl Int))).2)
 default))
def p45 (n:Net) (zad:Int) (to:Int):Bool :=
  (cond ((s74 n (⟨2, zaw (zbA [(zae zad), (zae to)])⟩ : (Sl Int))).2 == 0)
 (decide ((p74 n (⟨2,zaw (zbA [(zae zad),(zae to)])⟩:(Sl Int))=true)) &&
 (cond ((0:Int) != (0:Int))
 true
 (decide ((p83 (⟨(s74 n (⟨2,zaw (zbA [(zae zad),(zae to)])⟩:(Sl Int))).1.Net,((s74 n (⟨2,zaw (zbA [(zae zad),(zae to)])⟩:(Sl Int))).1.out)⟩:web)=true)) &&
 (cond (!(s83 (⟨(s74 n (⟨2, zaw (zbA [(zae zad), (zae to)])⟩ : (Sl Int))).1.Net, ((s74 n (⟨2, zaw (zbA [(zae zad), (zae to)])⟩ : (Sl Int))).1.out)⟩ : web)))
 true
 (decide ((p76 (⟨(s74 n (⟨2,zaw (zbA [(zae zad),(zae to)])⟩:(Sl Int))).1.Net,((s74 n (⟨2,zaw (zbA [(zae zad),(zae to)])⟩:(Sl Int))).1.out)⟩:web) zad=true)) &&
 (decide ((p84 (zaJ (zao (s76 (⟨(s74 n (⟨2,zaw (zbA [(zae zad),(zae to)])⟩:(Sl Int))).1.Net,((s74 n (⟨2,zaw (zbA [(zae zad),(zae to)])⟩:(Sl Int))).1.out)⟩:web) zad))) (⟨(s74 n (⟨2,zaw (zbA [(zae zad),(zae to)])⟩:(Sl Int))).1.Net,((s74 n (⟨2,zaw (zbA [(zae zad),(zae to)])⟩:(Sl Int))).1.out)⟩:web)=true)) &&
 true))))))
 (decide ((p74 n (⟨2,zaw (zbA [(zae zad),(zae to)])⟩:(Sl Int))=true)) &&
 (cond ((s74 n (⟨2, zaw (zbA [(zae zad), (zae to)])⟩ : (Sl Int))).2 != (0:Int))
 true
 false)))
end
theorem q45 (n:Net) (zad:Int) (to:Int) (K:List PA->Prop) (hs:p45 n zad to=true) (hk:K (e45 (s45 n zad to))):vcFun Tryd.prog G45 zLS 45 [.agg (enc_24 n),.one (.int .i64 zad),.one (.int .i64 to)] (Wk K) :=
  zaS (by kernel_rfl) (zc hs hk (λ hs hk=>(zaO hs λ hc hs=>And.intro (And.intro (zE enc_40 4 n.Ties.get) (And.intro ((zev []):IsE zae 1 1 (zbA [(zae zad),(zae to)])) hc)) (zc hs hk (λ hs hk=>((wk hk (zgy (.one (.nil _ _)) (zgy (.one (.rfl _)) zmd))):Wk K [.one (.nils),.one (.int .i64 (0:Int))])) (λ hs hk=>(zaO hs λ hc hs=>And.intro (And.intro (zE enc_40 4 ((s74 n (⟨2,zaw (zbA [(zae zad),(zae to)])⟩:(Sl Int))).1.Net.Ties.get)) (And.intro (rfl:((false,1,false,[none]):MQ)=(false,1,false,[none])) hc)) (zc hs hk (λ hs hk=>((wk hk (zgy (.one (.nil _ _)) (zgy (.one (.rfl _)) zmd))):Wk K [.one (.nils),.one (.int .i64 (6:Int))])) (λ hs hk=>(zaO hs λ hc hs=>And.intro (And.intro (zE enc_40 4 ((s74 n (⟨2,zaw (zbA [(zae zad),(zae to)])⟩:(Sl Int))).1.Net.Ties.get)) (And.intro (rfl:((false,1,false,[none]):MQ)=(false,1,false,[none])) hc)) (zaO hs λ hc hs=>And.intro (And.intro (zE enc_40 4 ((s74 n (⟨2,zaw (zbA [(zae zad),(zae to)])⟩:(Sl Int))).1.Net.Ties.get)) (And.intro (rfl:((false,1,false,[none]):MQ)=(false,1,false,[none])) (And.intro (zhP:zao (s76 (⟨(s74 n (⟨2,zaw (zbA [(zae zad),(zae to)])⟩:(Sl Int))).1.Net,((s74 n (⟨2,zaw (zbA [(zae zad),(zae to)])⟩:(Sl Int))).1.out)⟩:web) zad)=zao (zaJ (zao (s76 (⟨(s74 n (⟨2,zaw (zbA [(zae zad),(zae to)])⟩:(Sl Int))).1.Net,((s74 n (⟨2,zaw (zbA [(zae zad),(zae to)])⟩:(Sl Int))).1.out)⟩:web) zad)))) hc))) ((zfT hk):Wk K [.one (.sl ((s84 (zaJ (zao (s76 (⟨(s74 n (⟨2,zaw (zbA [(zae zad),(zae to)])⟩:(Sl Int))).1.Net,((s74 n (⟨2,zaw (zbA [(zae zad),(zae to)])⟩:(Sl Int))).1.out)⟩:web) zad))) (⟨(s74 n (⟨2,zaw (zbA [(zae zad),(zae to)])⟩:(Sl Int))).1.Net,((s74 n (⟨2,zaw (zbA [(zae zad),(zae to)])⟩:(Sl Int))).1.out)⟩:web)).len) 1 (λ i=>zae ((s84 (zaJ (zao (s76 (⟨(s74 n (⟨2,zaw (zbA [(zae zad),(zae to)])⟩:(Sl Int))).1.Net,((s74 n (⟨2,zaw (zbA [(zae zad),(zae to)])⟩:(Sl Int))).1.out)⟩:web) zad))) (⟨(s74 n (⟨2,zaw (zbA [(zae zad),(zae to)])⟩:(Sl Int))).1.Net,((s74 n (⟨2,zaw (zbA [(zae zad),(zae to)])⟩:(Sl Int))).1.out)⟩:web)).get i))),.one (.int .i64 (0:Int))])))))))))) (λ hs hk=>(zaO hs λ hc hs=>And.intro (And.intro (zE enc_40 4 n.Ties.get) (And.intro ((zev []):IsE zae 1 1 (zbA [(zae zad),(zae to)])) hc)) (zc hs hk (λ hs hk=>((wk hk (zgy (.one (.nil _ _)) (zgy (.one (.rfl _)) zmd))):Wk K [.one (.nils),.one (.int .i64 ((s74 n (⟨2,zaw (zbA [(zae zad),(zae to)])⟩:(Sl Int))).2))])) (λ hs hk=>(absurd hs dqk:False))))))
def zHN : List PA → COut
  | [.agg [.int .i64 zaf,.sl zac zat zab],.one (.int .i64 a1),.one (.int .i64 a2)]=>.det (IsE enc_40 4 zat zab/\p45 (⟨zaf,(⟨zac,zal zab⟩:(Sl Tie))⟩:Net) a1 a2=true) [.one (.sl (((s45 (⟨zaf,(⟨zac,zal zab⟩:(Sl Tie))⟩:Net) a1 a2).1).len) 1 (λ i=>zae (((s45 (⟨zaf,(⟨zac,zal zab⟩:(Sl Tie))⟩:Net) a1 a2).1).get i))),.one (.int .i64 ((s45 (⟨zaf,(⟨zac,zal zab⟩:(Sl Tie))⟩:Net) a1 a2).2))]
  | _=>.no
theorem zLT:zar Tryd.prog 45:=⟨_,rfl,rfl,by kernel_rfl⟩
theorem zQy:Ok Tryd.prog 45 zHN:=zhb zOp zLT λ args K h=>by
  unfold zHN at h
  split at h
  · rename_i zaf zac zat zab a1 a2
    obtain⟨⟨⟨rfl,zan,rfl⟩,hs⟩,hk⟩:=h
    try rw[zaj zan] at hs
    try rw[zaj zan] at hk
    exact⟨_,zfA zfS _,(λ _ _=>[]),(λ _=>false),zLS,q45 (⟨zaf,(⟨zac,zan⟩:(Sl Tie))⟩:Net) a1 a2 K hs hk⟩
  · exact h.elim
abbrev T49:Tabs:=(((Tabs.nil.addF 67 zuO).addF 88 zwZ).addF 89 zC7)
theorem zOq:TabsOk Tryd.prog T49:=(((TabsOk.nil.addF zNc).addF zNJ).addF zPu)
abbrev G49:Ctrs:=csm T49 (λ _ _=>[]) (λ _=>false)
def zHO:Ann:=⟨31,[(0,zK [1] [1]),(1,zK [1,10] [1]),(2,zK [2,3] []),(3,zK [4] [13]),(4,zK [4,16] [13]),(5,zK [2,3] []),(6,zK [4,5] [13]),(7,zK [5,18,19,20] []),(8,zK [5,18,19,20,21] [28]),(9,zK [5,7,18,19,20] [7,28]),(10,zK [5,18,19,20] [28]),(11,zK [5,18,19,20] [28]),(12,zK [2,3] [28])],
 [(8,⟨[5,18,19,20],[28],[(5,28,75,λ _=>zaW default)],[],[],[],[]⟩)],
 [(2,zK [1,10] [1]),(3,zK [1] [1]),(5,zK [4,16] [13]),(6,zK [4] [13]),(8,zK [5,18,19,20] [])],
 [],[]⟩
abbrev R49:=((Sl Use)×Int)
abbrev e49 (r:R49):List PA:=[.one (.sl r.1.len 2 (λ i=>zaW (r.1.get i))),.one (.int .i64 r.2)]
@[irreducible] def z49:=ptF Tryd.prog G49 zHO Tryd.f49
def zEU (zcF:(Sl step)) (zcT:Int) (zdJ:Int) (zc6:(Sl Use)) (zf8:Nat->List PV):St:=⟨[(5,zv 28),(18,zS zaG 5 zcF),(19,zI zcT),(20,zI zdJ)],[(28,.vec 75 2 16 zc6.len zf8)],[]⟩
abbrev zLU (K:List PA->Prop) (zcF:(Sl step)) (zcT:Int) (X:St->Prop) (P:Int->(Sl Use)->Bool) (S:Int->(Sl Use)->((Sl Use)×Int)):Prop:=∀ ⦃zdJ:Int⦄ ⦃zc6:(Sl Use)⦄ ⦃zf8:Nat->List PV⦄,P zdJ zc6=true->K (e49 (S zdJ zc6))->zf8=zg zaW zc6->X (zEU zcF zcT zdJ zc6 zf8)
section
variable {K:List PA->Prop}{n:Net}{za7:Bool}{zqW:Bool}{zcF:(Sl step)}{zcT:Int}{zzC:Nat->List PV}{zdJ:Int}{zc6:(Sl Use)}{zf8:Nat->List PV}{X5:St->Prop}{P5:Int->(Sl Use)->Bool}{S5:Int->(Sl Use)->((Sl Use)×Int)}
def zzD (zcF:(Sl step)) (zcT:Int) (S5:Int->(Sl Use)->((Sl Use)×Int)) (zdJ:Int) (zc6:(Sl Use)):((Sl Use)×Int) :=
  (cond (decide (zdJ < zcT))
 (S5 (w64 (zdJ+(1:Int))) (⟨(zc6.len+1),(zdU zc6.len zc6.get (λ _=>(zcF.get zdJ.toNat).Use))⟩:Sl Use))
 (zc6,(0:Int)))
def zzE (zcF:(Sl step)) (zcT:Int) (P5:Int->(Sl Use)->Bool) (zdJ:Int) (zc6:(Sl Use)):Bool :=
  (cond (decide (zdJ < zcT))
 (decide ((0<=zdJ/\zdJ < (zcF.len:Int))) &&
 (decide (((zc6.len+1) * 16<=140737488355328/\zc6.len+1<=9223372036854775807)) &&
 (P5 (w64 (zdJ+(1:Int))) (⟨(zc6.len+1),(zdU zc6.len zc6.get (λ _=>(zcF.get zdJ.toNat).Use))⟩:Sl Use))))
 true)
def zzF (zcF:(Sl step)) (zcT:Int):Nat->Int->(Sl Use)->((Sl Use)×Int):=lpO (λ _ _=>default) (zzD zcF zcT)
def zzG (zcF:(Sl step)) (zcT:Int):Nat->Int->(Sl Use)->Bool:=lpO (λ _ _=>false) (zzE zcF zcT)
def zzH (zcF:(Sl step)) (zcT:Int) (zdJ:Int) (zc6:(Sl Use)):((Sl Use)×Int):=zzF zcF zcT Fuel zdJ zc6
def zzI (zcF:(Sl step)) (zcT:Int) (zdJ:Int) (zc6:(Sl Use)):Bool:=zzG zcF zcT Fuel zdJ zc6
theorem zHP (hs:zzI zcF zcT zdJ zc6=true) (hk:K (e49 (zzH zcF zcT zdJ zc6))) (zqX:zf8=zg zaW zc6):z49 (Wk K) [1,1,1,1,1,0,1,0] [] (zEU zcF zcT zdJ zc6 zf8) :=
  zl (λ X=>z49 (Wk K) [1,1,1,1,1,0,1,0,0] [X]) (by kernel_rfl) λ X5 hX =>
  (show ∀ k, zLU K zcF zcT X5 (zzG zcF zcT k) (zzF zcF zcT k) from zd0 _ _ (zzE zcF zcT) (zzD zcF zcT) (zLU K zcF zcT X5)
 (by intro _ _ _ hs;exact absurd hs dqk)
 (by intro P5 S5 hX5 zdJ zc6 zf8 hs hk zqX;subst zqX;exact hX _ (zaS (by kernel_rfl) (zc hs hk (λ hs hk=>(zaO hs λ hc hs=>And.intro hc (zaO hs λ hc hs=>And.intro hc (hX5 hs hk (zfy (enc:=zaW) (f:=zc6.get) (h:=(λ _=>(zcF.get zdJ.toNat).Use)) rfl rfl))))) (λ hs hk=>((zfT hk):Wk K [.one (.sl zc6.len 2 (λ i=>zaW (zc6.get i))),.one (.int .i64 (0:Int))])))))) _ hs hk zqX
def zzJ (zcF:(Sl step)) (zcT:Int):((Sl Use)×Int) :=
  (zzH zcF zcT (0:Int) (⟨0,(λ _=>default)⟩:Sl Use))
def zzK (zcF:(Sl step)) (zcT:Int):Bool :=
  (zzI zcF zcT (0:Int) (⟨0,(λ _=>default)⟩:Sl Use))
theorem zHQ (hs:zzK zcF zcT=true) (hk:K (e49 (zzJ zcF zcT))) (zHR:zzC=zg zaG zcF):z49 (Wk K) [1,1,1,1,1,0,1] [] ⟨[(5,zP (.nils)),(18,zP (.sl zcF.len 5 zzC)),(19,zI zcT),(20,zI (0:Int))],[],[]⟩:=by subst zHR;exact zaS (by kernel_rfl) (zHP hs hk rfl)
def zzL (n:Net):((Sl Use)×Int) :=
  (zzJ (s89 (⟨n,(⟨0,(λ _=>none)⟩:Mp)⟩:web)) ((s89 (⟨n,(⟨0,(λ _=>none)⟩:Mp)⟩:web)).len:Int))
def zzM (n:Net):Bool :=
  (decide ((p89 (⟨n,(⟨0,(λ _=>none)⟩:Mp)⟩:web)=true)) &&
 (zzK (s89 (⟨n,(⟨0,(λ _=>none)⟩:Mp)⟩:web)) ((s89 (⟨n,(⟨0,(λ _=>none)⟩:Mp)⟩:web)).len:Int)))
theorem zHS (hs:zzM n=true) (hk:K (e49 (zzL n))):z49 (Wk K) [1,1,1,1] [] ⟨[(4,zp 13 0)],[(13,.box 105 (zm (zaC (⟨n,(⟨0,(λ _=>none)⟩:Mp)⟩:web))))],[]⟩:=zaS (by kernel_rfl) (zaO hs λ hc hs=>And.intro (And.intro ((λ _=>rfl):(∀ i,sc2 ((λ i=>zaG ((s89 (⟨n,(⟨0,(λ _=>none)⟩:Mp)⟩:web)).get i)) i)=true)) (And.intro (zE enc_40 4 n.Ties.get) (And.intro (rfl:((false,1,false,[none]):MQ)=(false,1,false,[none])) hc))) (zHQ hs hk rfl))
def zzN (n:Net) (zqW:Bool):((Sl Use)×Int) :=
  (cond zqW
 ((⟨0,λ _=>default⟩:(Sl Use)),(6:Int))
 (zzL n))
def zzO (n:Net) (zqW:Bool):Bool :=
  (cond zqW
 true
 (zzM n))
theorem zHT (hs:zzO n zqW=true) (hk:K (e49 (zzN n zqW))):z49 (Wk K) [1,1,1,0,1] [] ⟨[(4,zp 13 0),(16,zB zqW)],[(13,.box 105 (zm (zaC (⟨n,(⟨0,(λ _=>none)⟩:Mp)⟩:web))))],[]⟩:=zaS (by kernel_rfl) (zc hs hk (λ hs hk=>((wk hk (zgy (.one (.nil _ _)) (zgy (.one (.rfl _)) zmd))):Wk K [.one (.nils),.one (.int .i64 (6:Int))])) (λ hs hk=>(zHS hs hk)))
def zzP (n:Net):((Sl Use)×Int) :=
  (zzN n (!(s88 (⟨n,(⟨0,(λ _=>none)⟩:Mp)⟩:web))))
def zzQ (n:Net):Bool :=
  (decide ((p88 (⟨n,(⟨0,(λ _=>none)⟩:Mp)⟩:web)=true)) &&
 (zzO n (!(s88 (⟨n,(⟨0,(λ _=>none)⟩:Mp)⟩:web)))))
theorem zHU (hs:zzQ n=true) (hk:K (e49 (zzP n))):z49 (Wk K) [1,1] [] ⟨[(1,zp 1 0)],[(1,.box 24 (zm (enc_24 n)))],[]⟩:=zaS (by kernel_rfl) (zaO hs λ hc hs=>And.intro (And.intro (zE enc_40 4 n.Ties.get) (And.intro (rfl:((false,1,false,[none]):MQ)=(false,1,false,[none])) hc)) (zHT hs hk))
def zzR (n:Net) (za7:Bool):((Sl Use)×Int) :=
  (cond za7
 ((⟨0,λ _=>default⟩:(Sl Use)),(2:Int))
 (zzP n))
def zzS (n:Net) (za7:Bool):Bool :=
  (cond za7
 true
 (zzQ n))
theorem zHV (hs:zzS n za7=true) (hk:K (e49 (zzR n za7))):z49 (Wk K) [1,0,1] [] ⟨[(1,zp 1 0),(10,zB za7)],[(1,.box 24 (zm (enc_24 n)))],[]⟩:=zaS (by kernel_rfl) (zc hs hk (λ hs hk=>((wk hk (zgy (.one (.nil _ _)) (zgy (.one (.rfl _)) zmd))):Wk K [.one (.nils),.one (.int .i64 (2:Int))])) (λ hs hk=>(zHU hs hk)))
def s49 (n:Net):((Sl Use)×Int) :=
  (zzR n (!(s67 n)))
def p49 (n:Net):Bool :=
  (decide ((p67 n=true)) &&
 (zzS n (!(s67 n))))
end
theorem q49 (n:Net) (K:List PA->Prop) (hs:p49 n=true) (hk:K (e49 (s49 n))):vcFun Tryd.prog G49 zHO 49 [.agg (enc_24 n)] (Wk K) :=
  zaS (by kernel_rfl) (zaO hs λ hc hs=>And.intro (And.intro (zE enc_40 4 n.Ties.get) hc) (zHV hs hk))
def zHW : List PA → COut
  | [.agg [.int .i64 zaf,.sl zac zat zab]]=>.det (IsE enc_40 4 zat zab/\p49 (⟨zaf,(⟨zac,zal zab⟩:(Sl Tie))⟩:Net)=true) [.one (.sl (((s49 (⟨zaf,(⟨zac,zal zab⟩:(Sl Tie))⟩:Net)).1).len) 2 (λ i=>zaW (((s49 (⟨zaf,(⟨zac,zal zab⟩:(Sl Tie))⟩:Net)).1).get i))),.one (.int .i64 ((s49 (⟨zaf,(⟨zac,zal zab⟩:(Sl Tie))⟩:Net)).2))]
  | _=>.no
theorem zLV:zar Tryd.prog 49:=⟨_,rfl,rfl,by kernel_rfl⟩
theorem zQz:Ok Tryd.prog 49 zHW:=zhb zOq zLV λ args K h=>by
  unfold zHW at h
  split at h
  · rename_i zaf zac zat zab
    obtain⟨⟨⟨rfl,zan,rfl⟩,hs⟩,hk⟩:=h
    try rw[zaj zan] at hs
    try rw[zaj zan] at hk
    exact⟨_,zfA zfS _,(λ _ _=>[]),(λ _=>false),zHO,q49 (⟨zaf,(⟨zac,zan⟩:(Sl Tie))⟩:Net) K hs hk⟩
  · exact h.elim
abbrev T53:Tabs:=Tabs.nil
theorem zOr:TabsOk Tryd.prog T53:=TabsOk.nil
abbrev G53:Ctrs:=csm T53 (λ _ _=>[]) (λ _=>false)
def zHX:Ann:=⟨26,[(0,zK [0,1] []),(1,zK [0,1,10] []),(2,zK [4] []),(3,zK [0,1,5] []),(4,zK [0,1,5,14] []),(5,zK [0,1,5] []),(6,zK [0,1,5,25] []),(7,zK [4] []),(8,zK [4] [])],
 [(4,zK [0,1,5] [])],
 [(3,zK [0,1] [])],
 [],[]⟩
abbrev R53:=Bool
abbrev e53 (r:R53):List PA:=[.one (.bool r)]
@[irreducible] def z53:=ptF Tryd.prog G53 zHX Tryd.f53
def zEV (a:(Sl Use)) (b:(Sl Use)) (iv1:Int):St:=⟨[(0,zS zaW 2 a),(1,zS zaW 2 b),(5,zI iv1)],[],[]⟩
abbrev zLW (K:List PA->Prop) (a:(Sl Use)) (b:(Sl Use)) (X:St->Prop) (P:Int->Bool) (S:Int->Bool):Prop:=∀ ⦃iv1:Int⦄,P iv1=true->K (e53 (S iv1))->X (zEV a b iv1)
section
variable {K:List PA->Prop}{a:(Sl Use)}{b:(Sl Use)}{iv1:Int}{X1:St->Prop}{P1:Int->Bool}{S1:Int->Bool}
def zzT (a:(Sl Use)) (b:(Sl Use)) (S1:Int->Bool) (iv1:Int):Bool :=
  (cond (decide (iv1 < (a.len : Int)))
 (cond (!(match ((a.get iv1.toNat).Tie == (b.get iv1.toNat).Tie) with | true => (match ((a.get iv1.toNat).Back == (b.get iv1.toNat).Back) with | true => true | false => false) | false => false))
 false
 (S1 (w64 (iv1+(1:Int)))))
 true)
def zzU (a:(Sl Use)) (b:(Sl Use)) (P1:Int->Bool) (iv1:Int):Bool :=
  (cond (decide (iv1 < (a.len : Int)))
 (decide ((0<=iv1/\iv1 < (a.len:Int))) &&
 (decide ((0<=iv1/\iv1 < (b.len:Int))) &&
 (cond (!(match ((a.get iv1.toNat).Tie == (b.get iv1.toNat).Tie) with | true => (match ((a.get iv1.toNat).Back == (b.get iv1.toNat).Back) with | true => true | false => false) | false => false))
 true
 (P1 (w64 (iv1+(1:Int)))))))
 true)
def zzV (a:(Sl Use)) (b:(Sl Use)):Nat->Int->Bool:=lpO (λ _=>default) (zzT a b)
def zzW (a:(Sl Use)) (b:(Sl Use)):Nat->Int->Bool:=lpO (λ _=>false) (zzU a b)
def zzX (a:(Sl Use)) (b:(Sl Use)) (iv1:Int):Bool:=zzV a b Fuel iv1
def zzY (a:(Sl Use)) (b:(Sl Use)) (iv1:Int):Bool:=zzW a b Fuel iv1
theorem zHY (hs:zzY a b iv1=true) (hk:K (e53 (zzX a b iv1))):z53 K [1,1,0,1,0] [] (zEV a b iv1) :=
  zl (λ X=>z53 K [1,1,0,1,0,0] [X]) (by kernel_rfl) λ X1 hX =>
  (show ∀ k, zLW K a b X1 (zzW a b k) (zzV a b k) from zd0 _ _ (zzU a b) (zzT a b) (zLW K a b X1)
 (by intro _ hs;exact absurd hs dqk)
 (by intro P1 S1 hX1 iv1 hs hk;exact hX _ (zaS (by kernel_rfl) (zc hs hk (λ hs hk=>(zaO hs λ hc hs=>And.intro hc (zaO hs λ hc hs=>And.intro hc (zc hs hk (λ hs hk=>hk) (λ hs hk=>(hX1 hs hk)))))) (λ hs hk=>hk))))) _ hs hk
def zzZ (a:(Sl Use)) (b:(Sl Use)):Bool :=
  (zzX a b (0:Int))
def zz0 (a:(Sl Use)) (b:(Sl Use)):Bool :=
  (zzY a b (0:Int))
theorem zHZ (hs:zz0 a b=true) (hk:K (e53 (zzZ a b))):z53 K [1,1] [] ⟨[(0,zS zaW 2 a),(1,zS zaW 2 b)],[],[]⟩:=zaS (by kernel_rfl) (zHY hs hk)
def s53 (a:(Sl Use)) (b:(Sl Use)):Bool :=
  (cond ((a.len : Int) != (b.len : Int))
 false
 (zzZ a b))
def p53 (a:(Sl Use)) (b:(Sl Use)):Bool :=
  (cond ((a.len : Int) != (b.len : Int))
 true
 (zz0 a b))
end
theorem q53 (a:(Sl Use)) (b:(Sl Use)) (K:List PA->Prop) (hs:p53 a b=true) (hk:K (e53 (s53 a b))):vcFun Tryd.prog G53 zHX 53 [.one (.sl a.len 2 (λ i=>zaW (a.get i))),.one (.sl b.len 2 (λ i=>zaW (b.get i)))] K :=
  zaS (by kernel_rfl) (zc hs hk (λ hs hk=>hk) (λ hs hk=>(zHZ hs hk)))
def zH0 : List PA → COut
  | [.one (.sl zeh zje zei),.one (.sl ze3 zlB zeY)]=>.det (IsE zaW 2 zje zei/\IsE zaW 2 zlB zeY/\p53 (⟨zeh,zdi zei⟩:(Sl Use)) (⟨ze3,zdi zeY⟩:(Sl Use))=true) [.one (.bool (s53 (⟨zeh,zdi zei⟩:(Sl Use)) (⟨ze3,zdi zeY⟩:(Sl Use))))]
  | _=>.no
theorem zLX:zar Tryd.prog 53:=⟨_,rfl,rfl,by kernel_rfl⟩
theorem zQA:Ok Tryd.prog 53 zH0:=zbc zOr zLX λ args K h=>by
  unfold zH0 at h
  split at h
  · rename_i zeh zje zei ze3 zlB zeY
    obtain⟨⟨⟨rfl,zgz,rfl⟩,⟨rfl,zim,rfl⟩,hs⟩,hk⟩:=h
    try rw[zdj zgz] at hs
    try rw[zdj zgz] at hk
    try rw[zdj zim] at hs
    try rw[zdj zim] at hk
    exact⟨(λ _ _=>[]),(λ _=>false),zHX,q53 (⟨zeh,zgz⟩:(Sl Use)) (⟨ze3,zim⟩:(Sl Use)) K hs hk⟩
  · exact h.elim
abbrev T92:Tabs:=((Tabs.nil.addF 93 zo6).addI 110 zo8)
theorem zOs:TabsOk Tryd.prog T92:=((TabsOk.nil.addF zJX).addI zuQ)
abbrev G92:Ctrs:=csm T92 (λ _ _=>[]) (λ _=>false)
def zjv:Ann:=⟨49,[(0,zK [0,1,2,3,4] [0,1,2,3,4,4099]),(1,zK [0,1,2,3,4,7] [0,1,2,3,4,4099]),(2,zK [0,1,2,3,4,5,7] [0,1,2,3,4,5,4099]),(3,zK [0,1,2,3,4,5,7,41] [0,1,2,3,4,5,4099]),(4,zK [0,1,2,3,4,5] [0,1,2,3,4,5,4099]),(5,zK [0,1,2,3,4] [0,1,2,3,4,4099]),(6,zK [0,1,2,3,4] [0,1,2,3,4,4099]),(7,zK [0,1,2,3,4] [0,1,2,3,4,4099])],
 [(2,zK [0,1,2,3,4,7] [0,1,2,3,4,4099])],
 [],
 [],[]⟩
def zf9 (w:web) (at_:Int) (d:Tab) (out:(Sl Use)):St:=⟨[(0,.one (.c (.ptr 0 0))),(1,.one (.c (.ptr 1 0))),(2,.one (.c (.ptr 2 0))),(3,.one (.c (.ptr 3 0))),(4,.one (.c (.ptr 4 0))),(7,.one (.c (.p (.fn 110 [] [.fp [.fp (zaC w) 0] 0]))))],[(0,.box 102 [.p (.fp (zaC w) 0)]),(1,.box 3 [.p (.int .i64 at_)]),(2,.box 116 (zm (zao d))),(3,.box 67 [.vec 4099]),(4,.box 4 [.p (.bool false)]),(4099,.vec 75 2 16 out.len (λ i=>zaW (out.get i)))],[]⟩
def zk8 (K:List PA×List XA->Prop) (w:web) (at_:Int) (d:Tab) (out:(Sl Use)):Prop:=vc Tryd.prog G92 zjv (cdF Tryd.f92 [1,0,1,0]) (zfv 0 (sqK Tryd.prog G92 zjv (cdF Tryd.f92 [1,1]) (zlA Tryd.prog Tryd.f92 [.box 102 [.p (.fp (zaC w) 0)],.box 3 [.p (.int .i64 at_)],.box 116 (xcm (zao d)),.box 67 [.vec 75 2 16 out.len (λ i=>zaW (out.get i))]] (λ a b=>K (a,b))))) (zf9 w at_ d out)
theorem zH1 (w : web) (at_ : Int) (d : Tab) (out : (Sl Use)) (K : List PA × List XA → Prop) :
  zkL Tryd.prog G92 zjv 92 [.box 102 [.p (.fp (zaC w) 0)],.box 3 [.p (.int .i64 at_)],.box 116 (xcm (zao d)),.box 67 [.vec 75 2 16 out.len (λ i=>zaW (out.get i))]] (λ a b=>K (a,b)) =
  ((IsE enc_40 4 4 (λ i=>enc_40 (w.Net.Ties.get i))/\((false,1,false,[none]):MQ)=(false,1,false,[none])) /\
 (zk8 K w at_ d out)):=by kernel_rfl
def zpo (K:List PA×List XA->Prop) (w:web) (at_:Int) (d:Tab) (out:(Sl Use)):Prop :=
  (K ([.one (.bool false)],[.box 102 [.p (.fp (zaC w) 0)],.box 3 [.p (.int .i64 at_)],.box 116 (xcm (zao d)),.box 67 [.vec 75 2 16 out.len (λ i=>zaW (out.get i))]]))
def zpp (K:List PA×List XA->Prop) (X0:List (List PA)->St->Prop) (y0:step) (rest0:List (List PA)) (w:web) (at_:Int) (d:Tab) (out:(Sl Use)):Prop :=
  (zdw (y0.from_ == at_)
 (((0<=y0.to/\y0.to < (40:Int))) /\
 (zdw (!(match ((tg 80 d (0 + y0.to.toNat * 2 + 0)) == (1000000000000:Int)) with | true => (match ((tg 80 d (0 + y0.to.toNat * 2 + 0 + 1)) == (0:Int)) with | true => true | false => false) | false => false))
 (((0<=y0.to/\y0.to < (40:Int))) /\
 (((0<=y0.to/\y0.to < (40:Int))) /\
 (((0<=at_/\at_ < (40:Int))) /\
 (zdw (match ((w64 ((tg 80 d (0 + y0.to.toNat * 2 + 0)) + y0.length)) == (tg 80 d (0 + at_.toNat * 2 + 0))) with | true => (match ((w64 ((tg 80 d (0 + y0.to.toNat * 2 + 1)) + (1:Int))) == (tg 80 d (0 + at_.toNat * 2 + 0 + 1))) with | true => true | false => false) | false => false)
 ((((out.len+1) * 16<=140737488355328/\out.len+1<=9223372036854775807)) /\
 (K ([.one (.bool true)],[.box 102 [.p (.fp (zaC w) 0)],.box 3 [.p (.int .i64 y0.to)],.box 116 (xcm (zao d)),.box 67 [.vec 75 2 16 (out.len+1) (appG out.len (λ i=>zaW (out.get i)) (λ _=>(zaW y0.Use)))]])))
 (X0 rest0 (zf9 w at_ d out))))))
 (X0 rest0 (zf9 w at_ d out))))
 (X0 rest0 (zf9 w at_ d out)))
theorem zqY (K:List PA×List XA->Prop) (w:web) (at_:Int) (d:Tab) (out:(Sl Use)):(zfv 0 (sqK Tryd.prog G92 zjv (cdF Tryd.f92 [1,1]) (zlA Tryd.prog Tryd.f92 [.box 102 [.p (.fp (zaC w) 0)],.box 3 [.p (.int .i64 at_)],.box 116 (xcm (zao d)),.box 67 [.vec 75 2 16 out.len (λ i=>zaW (out.get i))]] (λ a b=>K (a,b))))) .normal (zf9 w at_ d out)=zpo K w at_ d out:=by kernel_rfl
theorem zqZ (K : List PA × List XA → Prop) (X0 : List (List PA) → St → Prop) (y0 : step) (rest0 : List (List PA)) (w : web) (at_ : Int) (d : Tab) (out : (Sl Use)) :
  zNw Tryd.prog G92 zjv 2 [8] (cd (cdF Tryd.f92 [1,0,1,0]) [0]) (cd (cdF Tryd.f92 [1,0,1,0]) [1]) X0 (zfv 0 (sqK Tryd.prog G92 zjv (cdF Tryd.f92 [1,1]) (zlA Tryd.prog Tryd.f92 [.box 102 [.p (.fp (zaC w) 0)],.box 3 [.p (.int .i64 at_)],.box 116 (xcm (zao d)),.box 67 [.vec 75 2 16 out.len (λ i=>zaW (out.get i))]] (λ a b=>K (a,b))))) [.agg (zaG y0)] rest0 (zf9 w at_ d out)=zpp K X0 y0 rest0 w at_ d out:=by kernel_rfl
theorem zz1 (K : List PA × List XA → Prop) (w : web) (at_ : Int) (d : Tab) (out : (Sl Use))
  (hsafe:IsE enc_40 4 4 (λ i=>enc_40 (w.Net.Ties.get i))/\((false,1,false,[none]):MQ)=(false,1,false,[none])/\(zu3 w=true)) (h:∀ X0:List (List PA)->St->Prop,(∀ (_:Unit),zpo K w at_ d out->X0 [] (zf9 w at_ d out))->(∀ (y:step) (rest:List (List PA)) (_:Unit),zpp K X0 y rest w at_ d out->X0 ([.agg (zaG y)] :: rest) (zf9 w at_ d out))->X0 ((zkS w).map λ y=>[.agg (zaG y)]) (zf9 w at_ d out)) :
  zk8 K w at_ d out:=by
  have e:zk8 K w at_ d out=((IsE enc_40 4 4 (λ i=>enc_40 (w.Net.Ties.get i))/\((false,1,false,[none]):MQ)=(false,1,false,[none])/\(zu3 w=true))/\∀ X:List (List PA)->St->Prop,(∀ s,(zfv 0 (sqK Tryd.prog G92 zjv (cdF Tryd.f92 [1,1]) (zlA Tryd.prog Tryd.f92 [.box 102 [.p (.fp (zaC w) 0)],.box 3 [.p (.int .i64 at_)],.box 116 (xcm (zao d)),.box 67 [.vec 75 2 16 out.len (λ i=>zaW (out.get i))]] (λ a b=>K (a,b))))) .normal s->X [] s)->(∀ y rest s,zNw Tryd.prog G92 zjv 2 [8] (cd (cdF Tryd.f92 [1,0,1,0]) [0]) (cd (cdF Tryd.f92 [1,0,1,0]) [1]) X (zfv 0 (sqK Tryd.prog G92 zjv (cdF Tryd.f92 [1,1]) (zlA Tryd.prog Tryd.f92 [.box 102 [.p (.fp (zaC w) 0)],.box 3 [.p (.int .i64 at_)],.box 116 (xcm (zao d)),.box 67 [.vec 75 2 16 out.len (λ i=>zaW (out.get i))]] (λ a b=>K (a,b))))) y rest s->X (y :: rest) s)->X ((zkS w).map λ y=>[.agg (zaG y)]) (zf9 w at_ d out)):=by kernel_rfl
  refine zaS e ⟨hsafe,?_⟩
  intro X h0 h1
  refine h X (λ _ hs=>h0 _ ?_) (λ y rest _ hs=>h1 _ rest _ ?_)
  · rw[zqY K w at_ d out];exact hs
  · have e2 := zqZ K X y rest w at_ d out
    rw[e2];exact hs
abbrev e92 (w:web) (d:Tab) (r:(Bool×Int×(Sl Use))):List PA×List XA:=([.one (.bool r.1)],[.box 102 [.p (.fp (zaC w) 0)],.box 3 [.p (.int .i64 r.2.1)],.box 116 (xcm (zao d)),.box 67 [.vec 75 2 16 r.2.2.len (λ i=>zaW (r.2.2.get i))]])
attribute [irreducible] zk8
def zq0 (w:web) (at_:Int) (d:Tab) (out:(Sl Use)):(Bool×Int×(Sl Use)) :=
  (false,at_,(⟨out.len,out.get⟩:(Sl Use)))
def zq1 (w:web) (at_:Int) (d:Tab) (out:(Sl Use)):Bool :=
  true
def zq2 (w:web) (at_:Int) (d:Tab) (out:(Sl Use)) (y0:step) (S0:(Bool×Int×(Sl Use))):(Bool×Int×(Sl Use)) :=
  (cond (y0.from_ == at_)
 (cond (!(match ((tg 80 d (0 + y0.to.toNat * 2 + 0)) == (1000000000000:Int)) with | true => (match ((tg 80 d (0 + y0.to.toNat * 2 + 0 + 1)) == (0:Int)) with | true => true | false => false) | false => false))
 (cond (match ((w64 ((tg 80 d (0 + y0.to.toNat * 2 + 0)) + y0.length)) == (tg 80 d (0 + at_.toNat * 2 + 0))) with | true => (match ((w64 ((tg 80 d (0 + y0.to.toNat * 2 + 1)) + (1:Int))) == (tg 80 d (0 + at_.toNat * 2 + 0 + 1))) with | true => true | false => false) | false => false)
 (true,y0.to,(⟨(out.len+1),(zdU out.len out.get (λ _=>y0.Use))⟩:(Sl Use)))
 (S0))
 (S0))
 (S0))
def zq3 (w:web) (at_:Int) (d:Tab) (out:(Sl Use)) (y0:step) (P0:Bool):Bool :=
  (cond (y0.from_ == at_)
 (decide ((0<=y0.to/\y0.to < (40:Int))) &&
 (cond (!(match ((tg 80 d (0 + y0.to.toNat * 2 + 0)) == (1000000000000:Int)) with | true => (match ((tg 80 d (0 + y0.to.toNat * 2 + 0 + 1)) == (0:Int)) with | true => true | false => false) | false => false))
 (decide ((0<=y0.to/\y0.to < (40:Int))) &&
 (decide ((0<=y0.to/\y0.to < (40:Int))) &&
 (decide ((0<=at_/\at_ < (40:Int))) &&
 (cond (match ((w64 ((tg 80 d (0 + y0.to.toNat * 2 + 0)) + y0.length)) == (tg 80 d (0 + at_.toNat * 2 + 0))) with | true => (match ((w64 ((tg 80 d (0 + y0.to.toNat * 2 + 1)) + (1:Int))) == (tg 80 d (0 + at_.toNat * 2 + 0 + 1))) with | true => true | false => false) | false => false)
 (decide (((out.len+1) * 16<=140737488355328/\out.len+1<=9223372036854775807)) &&
 true)
 (P0)))))
 (P0)))
 (P0))
def zk9 (w : web) (at_ : Int) (d : Tab) (out : (Sl Use)) : List step → (Bool × Int × (Sl Use))
  | []=>zq0 w at_ d out
  | y :: r=>zq2 w at_ d out y (zk9 w at_ d out r)
def zla (w : web) (at_ : Int) (d : Tab) (out : (Sl Use)) : List step → Bool
  | []=>zq1 w at_ d out
  | y :: r=>zq3 w at_ d out y (zla w at_ d out r)
def zz2 (w:web) (at_:Int) (d:Tab) (out:(Sl Use)):(Bool×Int×(Sl Use)):=zk9 w at_ d out (zkS w)
def zq4 (w:web) (at_:Int) (d:Tab) (out:(Sl Use)):Bool:=decide ((zu3 w=true)) && zla w at_ d out (zkS w)
theorem zH2 (K:List PA×List XA->Prop) (w:web) (at_:Int) (d:Tab) (out:(Sl Use)) (hs:zq4 w at_ d out=true) (hk:K (e92 w d (zz2 w at_ d out))):zk8 K w at_ d out:=by
  unfold zq4 at hs
  rw[dqm] at hs
  obtain⟨hsf,hs⟩:=hs
  have hc:=of_decide_eq_true hsf
  refine zz1 K w at_ d out ⟨isE,rfl,hc⟩ ?_
  intro X0 hexit hstep
  have key:∀ (l:List step),zla w at_ d out l=true->K (e92 w d (zk9 w at_ d out l))->X0 (l.map λ y=>[.agg (zaG y)]) (zf9 w at_ d out):=by
    intro l
    induction l with
    | nil =>
      intro hs hk
      refine hexit () ?_
      have hs:zq1 w at_ d out=true:=hs
      have hk:K (e92 w d (zq0 w at_ d out)):=hk
      unfold zq1 at hs
      unfold zq0 at hk
      exact hk
    | cons y0 l ih =>
      intro hs hk
      refine hstep y0 _ () ?_
      have hs:zq3 w at_ d out y0 (zla w at_ d out l)=true:=hs
      have hk:K (e92 w d (zq2 w at_ d out y0 (zk9 w at_ d out l))):=hk
      unfold zq3 at hs
      unfold zq2 at hk
      generalize zk9 w at_ d out l=S0 at hk ih
      generalize zla w at_ d out l=P0 at hs ih
      have hX0:=ih
      exact (zfi (K := λ r => K (e92 w d r))
 (λ hs hk => (zaO hs λ hc hs => ⟨hc, (zfi (K := λ r => K (e92 w d r))
 (λ hs hk => (zaO hs λ hc hs => ⟨hc, (zaO hs λ hc hs => ⟨hc, (zaO hs λ hc hs => ⟨hc, (zfi (K := λ r => K (e92 w d r))
 (λ hs hk=>(zaO hs λ hc hs=>⟨hc,(Eq.mpr (congrArg K (congrArg (λ (g_:Nat->List PV)=>(([.one (.bool true)],[.box 102 [.p (.fp (zaC w) 0)],.box 3 [.p (.int .i64 y0.to)],.box 116 (xcm (zao d)),.box 67 [.vec 75 2 16 (out.len+1) g_]]):List PA×List XA)) (zfy (enc:=zaW) (f:=out.get) (h:=(λ _=>y0.Use)) rfl rfl))) hk)⟩))
 (λ hs hk=>(hX0 hs hk)) hs hk)⟩)⟩)⟩))
 (λ hs hk=>(hX0 hs hk)) hs hk)⟩))
 (fun hs hk=>(hX0 hs hk)) hs hk)
  exact key _ hs hk
def s92 (w:web) (at_:Int) (d:Tab) (out:(Sl Use)):(Bool×Int×(Sl Use)) :=
  (zz2 w at_ d out)
def p92 (w:web) (at_:Int) (d:Tab) (out:(Sl Use)):Bool :=
  (zq4 w at_ d out)
theorem q92 (w:web) (at_:Int) (d:Tab) (out:(Sl Use)) (K:List PA×List XA->Prop) (hs:p92 w at_ d out=true) (hk:K (e92 w d (s92 w at_ d out))):zkL Tryd.prog G92 zjv 92 [.box 102 [.p (.fp (zaC w) 0)],.box 3 [.p (.int .i64 at_)],.box 116 (xcm (zao d)),.box 67 [.vec 75 2 16 out.len (λ i=>zaW (out.get i))]] (λ a b=>K (a,b)):=by
  refine zaS (zH1 w at_ d out K) ?_
  unfold p92 at hs
  unfold s92 at hk
  exact⟨⟨isE,rfl⟩,(zH2 K w at_ d out hs hk)⟩
def zH3 : MK
  | [.box 102 [.p (.fp [.int .i64 zaz,.sl zav zbC zau,.fm zdt zaT zaU] 0)],.box 3 [.p (.int .i64 b1)],.box 116 zlF,.box 67 [.vec 75 2 16 zH4 zH5]]=>some (IsE enc_40 4 zbC zau/\zdt=(false,1,false,[none])/\zlF=xcm (zao (zaJ (unX zlF)))/\IsE zaW 2 2 zH5/\p92 (⟨(⟨zaz,(⟨zav,zal zau⟩:(Sl Tie))⟩:Net),(⟨zaT,zaU⟩:Mp)⟩:web) b1 (zaJ (unX zlF)) (⟨zH4,zdi zH5⟩:(Sl Use))=true,[.one (.bool ((s92 (⟨(⟨zaz,(⟨zav,zal zau⟩:(Sl Tie))⟩:Net),(⟨zaT,zaU⟩:Mp)⟩:web) b1 (zaJ (unX zlF)) (⟨zH4,zdi zH5⟩:(Sl Use))).1))],[.box 102 [.p (.fp [.int .i64 zaz,.sl zav zbC zau,.fm zdt zaT zaU] 0)],.box 3 [.p (.int .i64 ((s92 (⟨(⟨zaz,(⟨zav,zal zau⟩:(Sl Tie))⟩:Net),(⟨zaT,zaU⟩:Mp)⟩:web) b1 (zaJ (unX zlF)) (⟨zH4,zdi zH5⟩:(Sl Use))).2.1))],.box 116 zlF,.box 67 [.vec 75 2 16 (((s92 (⟨(⟨zaz,(⟨zav,zal zau⟩:(Sl Tie))⟩:Net),(⟨zaT,zaU⟩:Mp)⟩:web) b1 (zaJ (unX zlF)) (⟨zH4,zdi zH5⟩:(Sl Use))).2.2).len) (λ i=>zaW (((s92 (⟨(⟨zaz,(⟨zav,zal zau⟩:(Sl Tie))⟩:Net),(⟨zaT,zaU⟩:Mp)⟩:web) b1 (zaJ (unX zlF)) (⟨zH4,zdi zH5⟩:(Sl Use))).2.2).get i))]])
  | _=>none
theorem zLY:zar Tryd.prog 92:=⟨_,rfl,rfl,by kernel_rfl⟩
theorem zQB:zjt Tryd.prog 92 zH3:=zF5 zOs zLY λ xs safe rs ys h hs K hk=>by
  unfold zH3 at h
  split at h
  · rename_i zaz zav zbC zau zdt zaT zaU b1 zlF zH4 zH5
    simp only[dqa,dqh] at h
    obtain⟨rfl,rfl,rfl⟩:=h
    obtain⟨⟨rfl,zck,rfl⟩,rfl,hT_b2,⟨_,zOt,rfl⟩,hs⟩:=hs
    try rw[zaj zck] at hs
    try rw[zaj zck] at hk
    try rw[zdj zOt] at hs
    try rw[zdj zOt] at hk
    refine⟨λ _ _=>[],λ _=>false,zjv,?_⟩
    show zkL Tryd.prog G92 zjv 92 _ K
    have hq:=q92 (⟨(⟨zaz,(⟨zav,zck⟩:(Sl Tie))⟩:Net),(⟨zaT,zaU⟩:Mp)⟩:web) b1 (zaJ (unX zlF)) (⟨zH4,zOt⟩:(Sl Use)) (λ x=>K x.1 x.2) hs
    dsimp only[e92] at hq
    rw[<- hT_b2] at hq
    exact hq hk
  · cases h
abbrev T54:Tabs:=(((Tabs.nil.addF 74 zuV).addF 75 zy1).addM 92 zH3)
theorem zOu:TabsOk Tryd.prog T54:=(((TabsOk.nil.addF zNi).addF zOb).addM zQB)
abbrev G54:Ctrs:=csm T54 (λ _ _=>[]) (λ _=>false)
def zH6:Ann:=⟨45,[(0,zK [1,2,3] [3]),(1,zK [1,2,8,9] [8]),(2,zK [1,2,8,9,23] [8]),(3,zK [6,7] []),(4,zK [1,8,10] [8,10]),(5,zK [1,8,10,32] [8,10]),(6,zK [6,7] []),(7,zK [1,8,10,11] [8,10,11]),(8,zK [8,10,11,12] [8,10,11,12]),(9,zK [10,11,12,13] [8,10,11,12]),(10,zK [10,11,12,13,43] [8,10,11,12,5000]),(11,zK [6,7] [5000])],
 [(10,⟨[10,11,12,13],[8,10,11,12,5000],[],[(11,0,5000,75,λ _=>zaW default)],[],[],[]⟩)],
 [],
 [],[]⟩
abbrev R54:=((Sl Use)×Int)
abbrev e54 (r:R54):List PA:=[.one (.sl r.1.len 2 (λ i=>zaW (r.1.get i))),.one (.int .i64 r.2)]
@[irreducible] def z54:=ptF Tryd.prog G54 zH6 Tryd.f54
def zEW (n:Net) (zad:Int) (to:Int) (zhu:Int) (za1:(Sl Use)) (dt0:Tab) (zdF:Nat->List PV):St:=⟨[(10,zp 10 0),(11,zp 11 0),(12,zp 12 0),(13,.one (.c (.clo 92 [.b 8,.b 12,.b 10,.b 11])))],[(8,.box 102 [.p (.fp (zaC (⟨(s74 n (⟨2,zaw (zbA [(zae zad),(zae to)])⟩:(Sl Int))).1.Net,((s74 n (⟨2,zaw (zbA [(zae zad),(zae to)])⟩:(Sl Int))).1.out)⟩:web)) 0)]),(10,.box 116 (zm (zao dt0))),(11,.box 67 [.vec 5000]),(12,.box 3 [zi zhu]),(5000,.vec 75 2 16 za1.len zdF)],[]⟩
abbrev zLZ (K:List PA->Prop) (n:Net) (zad:Int) (to:Int) (X:St->Prop) (P:Int->(Sl Use)->Tab->Bool) (S:Int->(Sl Use)->Tab->((Sl Use)×Int)):Prop:=∀ ⦃zhu:Int⦄ ⦃za1:(Sl Use)⦄ ⦃dt0:Tab⦄ ⦃zdF:Nat->List PV⦄,P zhu za1 dt0=true->K (e54 (S zhu za1 dt0))->zdF=zg zaW za1->X (zEW n zad to zhu za1 dt0 zdF)
section
variable {K:List PA->Prop}{n:Net}{zad:Int}{to:Int}{zhu:Int}{za1:(Sl Use)}{dt0:Tab}{zdF:Nat->List PV}{X0:St->Prop}{P0:Int->(Sl Use)->Tab->Bool}{S0:Int->(Sl Use)->Tab->((Sl Use)×Int)}
def zz3 (n:Net) (zad:Int) (to:Int) (S0:Int->(Sl Use)->Tab->((Sl Use)×Int)) (zhu:Int) (za1:(Sl Use)) (dt0:Tab):((Sl Use)×Int) :=
  (cond (decide ((tg 80 dt0 (0 + zhu.toNat * 2 + 1)) > (0:Int)))
 (cond ((s92 (⟨(s74 n (⟨2, zaw (zbA [(zae zad), (zae to)])⟩ : (Sl Int))).1.Net, ((s74 n (⟨2, zaw (zbA [(zae zad), (zae to)])⟩ : (Sl Int))).1.out)⟩ : web) zhu (zaJ (unX (xcm (zao dt0)))) (⟨za1.len, za1.get⟩ : (Sl Use))).1)
 (S0 ((s92 (⟨(s74 n (⟨2,zaw (zbA [(zae zad),(zae to)])⟩:(Sl Int))).1.Net,((s74 n (⟨2,zaw (zbA [(zae zad),(zae to)])⟩:(Sl Int))).1.out)⟩:web) zhu (zaJ (unX (xcm (zao dt0)))) (⟨za1.len,za1.get⟩:(Sl Use))).2.1) ((s92 (⟨(s74 n (⟨2,zaw (zbA [(zae zad),(zae to)])⟩:(Sl Int))).1.Net,((s74 n (⟨2,zaw (zbA [(zae zad),(zae to)])⟩:(Sl Int))).1.out)⟩:web) zhu (zaJ (unX (xcm (zao dt0)))) (⟨za1.len,za1.get⟩:(Sl Use))).2.2) dt0)
 (((s92 (⟨(s74 n (⟨2,zaw (zbA [(zae zad),(zae to)])⟩:(Sl Int))).1.Net,((s74 n (⟨2,zaw (zbA [(zae zad),(zae to)])⟩:(Sl Int))).1.out)⟩:web) zhu (zaJ (unX (xcm (zao dt0)))) (⟨za1.len,za1.get⟩:(Sl Use))).2.2),(0:Int)))
 (za1,(0:Int)))
def zz4 (n:Net) (zad:Int) (to:Int) (P0:Int->(Sl Use)->Tab->Bool) (zhu:Int) (za1:(Sl Use)) (dt0:Tab):Bool :=
  (decide ((0<=zhu/\zhu < (40:Int))) &&
 (cond (decide ((tg 80 dt0 (0 + zhu.toNat * 2 + 1)) > (0:Int)))
 (decide ((p92 (⟨(s74 n (⟨2,zaw (zbA [(zae zad),(zae to)])⟩:(Sl Int))).1.Net,((s74 n (⟨2,zaw (zbA [(zae zad),(zae to)])⟩:(Sl Int))).1.out)⟩:web) zhu (zaJ (unX (xcm (zao dt0)))) (⟨za1.len,za1.get⟩:(Sl Use))=true)) &&
 (cond ((s92 (⟨(s74 n (⟨2, zaw (zbA [(zae zad), (zae to)])⟩ : (Sl Int))).1.Net, ((s74 n (⟨2, zaw (zbA [(zae zad), (zae to)])⟩ : (Sl Int))).1.out)⟩ : web) zhu (zaJ (unX (xcm (zao dt0)))) (⟨za1.len, za1.get⟩ : (Sl Use))).1)
 (P0 ((s92 (⟨(s74 n (⟨2,zaw (zbA [(zae zad),(zae to)])⟩:(Sl Int))).1.Net,((s74 n (⟨2,zaw (zbA [(zae zad),(zae to)])⟩:(Sl Int))).1.out)⟩:web) zhu (zaJ (unX (xcm (zao dt0)))) (⟨za1.len,za1.get⟩:(Sl Use))).2.1) ((s92 (⟨(s74 n (⟨2,zaw (zbA [(zae zad),(zae to)])⟩:(Sl Int))).1.Net,((s74 n (⟨2,zaw (zbA [(zae zad),(zae to)])⟩:(Sl Int))).1.out)⟩:web) zhu (zaJ (unX (xcm (zao dt0)))) (⟨za1.len,za1.get⟩:(Sl Use))).2.2) dt0)
 true))
 true))
def zz5 (n:Net) (zad:Int) (to:Int):Nat->Int->(Sl Use)->Tab->((Sl Use)×Int):=lpO (λ _ _ _=>default) (zz3 n zad to)
def zz6 (n:Net) (zad:Int) (to:Int):Nat->Int->(Sl Use)->Tab->Bool:=lpO (λ _ _ _=>false) (zz4 n zad to)
def zz7 (n:Net) (zad:Int) (to:Int) (zhu:Int) (za1:(Sl Use)) (dt0:Tab):((Sl Use)×Int):=zz5 n zad to Fuel zhu za1 dt0
def zz8 (n:Net) (zad:Int) (to:Int) (zhu:Int) (za1:(Sl Use)) (dt0:Tab):Bool:=zz6 n zad to Fuel zhu za1 dt0
theorem zH7 (hs:zz8 n zad to zhu za1 dt0=true) (hk:K (e54 (zz7 n zad to zhu za1 dt0))) (zlb:zdF=zg zaW za1):z54 (Wk K) [1,1,1,1,1,1,1,1,0,0] [] (zEW n zad to zhu za1 dt0 zdF) :=
  zl (λ X=>z54 (Wk K) [1,1,1,1,1,1,1,1,0,0,0] [X]) (by kernel_rfl) λ X0 hX =>
  (show ∀ k, zLZ K n zad to X0 (zz6 n zad to k) (zz5 n zad to k) from zd0 _ _ (zz4 n zad to) (zz3 n zad to) (zLZ K n zad to X0)
 (by intro _ _ _ _ hs;exact absurd hs dqk)
 (by intro P0 S0 hX0 zhu za1 dt0 zdF hs hk zlb;subst zlb;exact hX _ (zaS (by kernel_rfl) (zaO hs λ hc hs=>And.intro hc (zc hs hk (λ hs hk=>(zaO hs λ hc hs=>And.intro (And.intro (zE enc_40 4 ((s74 n (⟨2,zaw (zbA [(zae zad),(zae to)])⟩:(Sl Int))).1.Net.Ties.get)) (And.intro (rfl:((false,1,false,[none]):MQ)=(false,1,false,[none])) (And.intro (zF7:xcm (zao dt0)=xcm (zao (zaJ (unX (xcm (zao dt0)))))) (And.intro (zE zaW 2 za1.get) hc)))) (zc hs hk (λ hs hk=>(hX0 hs hk rfl)) (λ hs hk=>((zfT hk):Wk K [.one (.sl (((s92 (⟨(s74 n (⟨2,zaw (zbA [(zae zad),(zae to)])⟩:(Sl Int))).1.Net,((s74 n (⟨2,zaw (zbA [(zae zad),(zae to)])⟩:(Sl Int))).1.out)⟩:web) zhu (zaJ (unX (xcm (zao dt0)))) (⟨za1.len,za1.get⟩:(Sl Use))).2.2).len) 2 (λ i=>zaW (((s92 (⟨(s74 n (⟨2,zaw (zbA [(zae zad),(zae to)])⟩:(Sl Int))).1.Net,((s74 n (⟨2,zaw (zbA [(zae zad),(zae to)])⟩:(Sl Int))).1.out)⟩:web) zhu (zaJ (unX (xcm (zao dt0)))) (⟨za1.len,za1.get⟩:(Sl Use))).2.2).get i))),.one (.int .i64 (0:Int))]))))) (λ hs hk=>((zfT hk):Wk K [.one (.sl za1.len 2 (λ i=>zaW (za1.get i))),.one (.int .i64 (0:Int))]))))))) _ hs hk zlb
def s54 (n:Net) (zad:Int) (to:Int):((Sl Use)×Int) :=
  (cond ((s74 n (⟨2, zaw (zbA [(zae zad), (zae to)])⟩ : (Sl Int))).2 == 0)
 (cond ((0:Int) != (0:Int))
 ((⟨0,λ _=>default⟩:(Sl Use)),(0:Int))
 (cond (match ((tg 80 (s75 (⟨(s74 n (⟨2, zaw (zbA [(zae zad), (zae to)])⟩ : (Sl Int))).1.Net, ((s74 n (⟨2, zaw (zbA [(zae zad), (zae to)])⟩ : (Sl Int))).1.out)⟩ : web) to) (0 + zad.toNat * 2 + 0)) == (1000000000000:Int)) with | true => (match ((tg 80 (s75 (⟨(s74 n (⟨2, zaw (zbA [(zae zad), (zae to)])⟩ : (Sl Int))).1.Net, ((s74 n (⟨2, zaw (zbA [(zae zad), (zae to)])⟩ : (Sl Int))).1.out)⟩ : web) to) (0 + zad.toNat * 2 + 0 + 1)) == (0:Int)) with | true => true | false => false) | false => false)
 ((⟨0,λ _=>default⟩:(Sl Use)),(6:Int))
 (zz7 n zad to zad (⟨0,(λ _=>default)⟩:Sl Use) (s75 (⟨(s74 n (⟨2,zaw (zbA [(zae zad),(zae to)])⟩:(Sl Int))).1.Net,((s74 n (⟨2,zaw (zbA [(zae zad),(zae to)])⟩:(Sl Int))).1.out)⟩:web) to))))
 (cond ((s74 n (⟨2, zaw (zbA [(zae zad), (zae to)])⟩ : (Sl Int))).2 != (0:Int))
 ((⟨0,λ _=>default⟩:(Sl Use)),(s74 n (⟨2,zaw (zbA [(zae zad),(zae to)])⟩:(Sl Int))).2)
 default))
def p54 (n:Net) (zad:Int) (to:Int):Bool :=
  (cond ((s74 n (⟨2, zaw (zbA [(zae zad), (zae to)])⟩ : (Sl Int))).2 == 0)
 (decide ((p74 n (⟨2,zaw (zbA [(zae zad),(zae to)])⟩:(Sl Int))=true)) &&
 (cond ((0:Int) != (0:Int))
 true
 (decide ((p75 (⟨(s74 n (⟨2,zaw (zbA [(zae zad),(zae to)])⟩:(Sl Int))).1.Net,((s74 n (⟨2,zaw (zbA [(zae zad),(zae to)])⟩:(Sl Int))).1.out)⟩:web) to=true)) &&
 (decide ((0<=zad/\zad < (40:Int))) &&
 (cond (match ((tg 80 (s75 (⟨(s74 n (⟨2, zaw (zbA [(zae zad), (zae to)])⟩ : (Sl Int))).1.Net, ((s74 n (⟨2, zaw (zbA [(zae zad), (zae to)])⟩ : (Sl Int))).1.out)⟩ : web) to) (0 + zad.toNat * 2 + 0)) == (1000000000000:Int)) with | true => (match ((tg 80 (s75 (⟨(s74 n (⟨2, zaw (zbA [(zae zad), (zae to)])⟩ : (Sl Int))).1.Net, ((s74 n (⟨2, zaw (zbA [(zae zad), (zae to)])⟩ : (Sl Int))).1.out)⟩ : web) to) (0 + zad.toNat * 2 + 0 + 1)) == (0:Int)) with | true => true | false => false) | false => false)
 true
 (zz8 n zad to zad (⟨0,(λ _=>default)⟩:Sl Use) (s75 (⟨(s74 n (⟨2,zaw (zbA [(zae zad),(zae to)])⟩:(Sl Int))).1.Net,((s74 n (⟨2,zaw (zbA [(zae zad),(zae to)])⟩:(Sl Int))).1.out)⟩:web) to)))))))
 (decide ((p74 n (⟨2,zaw (zbA [(zae zad),(zae to)])⟩:(Sl Int))=true)) &&
 (cond ((s74 n (⟨2, zaw (zbA [(zae zad), (zae to)])⟩ : (Sl Int))).2 != (0:Int))
 true
 false)))
end
theorem q54 (n:Net) (zad:Int) (to:Int) (K:List PA->Prop) (hs:p54 n zad to=true) (hk:K (e54 (s54 n zad to))):vcFun Tryd.prog G54 zH6 54 [.agg (enc_24 n),.one (.int .i64 zad),.one (.int .i64 to)] (Wk K) :=
  zaS (by kernel_rfl) (zc hs hk (λ hs hk=>(zaO hs λ hc hs=>And.intro (And.intro (zE enc_40 4 n.Ties.get) (And.intro ((zev []):IsE zae 1 1 (zbA [(zae zad),(zae to)])) hc)) (zc hs hk (λ hs hk=>((wk hk (zgy (.one (.nil _ _)) (zgy (.one (.rfl _)) zmd))):Wk K [.one (.nils),.one (.int .i64 (0:Int))])) (λ hs hk=>(zaO hs λ hc hs=>And.intro (And.intro (zE enc_40 4 ((s74 n (⟨2,zaw (zbA [(zae zad),(zae to)])⟩:(Sl Int))).1.Net.Ties.get)) (And.intro (rfl:((false,1,false,[none]):MQ)=(false,1,false,[none])) hc)) (zaO hs λ hc hs=>And.intro hc (zc hs hk (λ hs hk=>((wk hk (zgy (.one (.nil _ _)) (zgy (.one (.rfl _)) zmd))):Wk K [.one (.nils),.one (.int .i64 (6:Int))])) (λ hs hk=>(zH7 hs hk rfl))))))))) (λ hs hk=>(zaO hs λ hc hs=>And.intro (And.intro (zE enc_40 4 n.Ties.get) (And.intro ((zev []):IsE zae 1 1 (zbA [(zae zad),(zae to)])) hc)) (zc hs hk (λ hs hk=>((wk hk (zgy (.one (.nil _ _)) (zgy (.one (.rfl _)) zmd))):Wk K [.one (.nils),.one (.int .i64 ((s74 n (⟨2,zaw (zbA [(zae zad),(zae to)])⟩:(Sl Int))).2))])) (λ hs hk=>(absurd hs dqk:False))))))
def zH8 : List PA → COut
  | [.agg [.int .i64 zaf,.sl zac zat zab],.one (.int .i64 a1),.one (.int .i64 a2)]=>.det (IsE enc_40 4 zat zab/\p54 (⟨zaf,(⟨zac,zal zab⟩:(Sl Tie))⟩:Net) a1 a2=true) [.one (.sl (((s54 (⟨zaf,(⟨zac,zal zab⟩:(Sl Tie))⟩:Net) a1 a2).1).len) 2 (λ i=>zaW (((s54 (⟨zaf,(⟨zac,zal zab⟩:(Sl Tie))⟩:Net) a1 a2).1).get i))),.one (.int .i64 ((s54 (⟨zaf,(⟨zac,zal zab⟩:(Sl Tie))⟩:Net) a1 a2).2))]
  | _=>.no
theorem zL0:zar Tryd.prog 54:=⟨_,rfl,rfl,by kernel_rfl⟩
theorem zQC:Ok Tryd.prog 54 zH8:=zhb zOu zL0 λ args K h=>by
  unfold zH8 at h
  split at h
  · rename_i zaf zac zat zab a1 a2
    obtain⟨⟨⟨rfl,zan,rfl⟩,hs⟩,hk⟩:=h
    try rw[zaj zan] at hs
    try rw[zaj zan] at hk
    exact⟨_,zfA zfS _,(λ _ _=>[]),(λ _=>false),zH6,q54 (⟨zaf,(⟨zac,zan⟩:(Sl Tie))⟩:Net) a1 a2 K hs hk⟩
  · exact h.elim
abbrev T66:Tabs:=Tabs.nil
theorem zOv:TabsOk Tryd.prog T66:=TabsOk.nil
abbrev G66:Ctrs:=csm T66 (λ _ _=>[]) (λ _=>false)
def zL1:Ann:=⟨6,[(0,zK [0] [0]),(1,zK [0] [0,4])],
 [],
 [],
 [],[]⟩
abbrev R66:=Net
abbrev e66 (r:R66):List PA:=[.agg [.int .i64 r.Nodes,.sl r.Ties.len 4 (λ i=>enc_40 (r.Ties.get i))]]
section
variable {K:List PA->Prop}
def s66:Net :=
  (⟨(3:Int),(⟨3,(zpM (⟨(0:Int),(1:Int),(5:Int),(8:Int)⟩:Tie) [(⟨(0:Int),(1:Int),(5:Int),(8:Int)⟩:Tie),(⟨(1:Int),(2:Int),(-2:Int),(3:Int)⟩:Tie),(⟨(2:Int),(0:Int),(-9:Int),(1000000000000:Int)⟩:Tie)])⟩:(Sl Tie))⟩:Net)
end
theorem q66 (K:List PA->Prop) (hk:K (e66 (s66))):vcFun Tryd.prog G66 zL1 66 [] K :=
  zaS (by kernel_rfl) (Eq.mpr (congrArg K (congrArg (λ (g_:Nat->List PV)=>([.agg [.int .i64 (3:Int),.sl 3 4 g_]]:List PA)) (zsL (enc:=enc_40) (x:=(⟨(0:Int),(1:Int),(5:Int),(8:Int)⟩:Tie)) (y:=(⟨(1:Int),(2:Int),(-2:Int),(3:Int)⟩:Tie)) (r:=[(⟨(2:Int),(0:Int),(-9:Int),(1000000000000:Int)⟩:Tie)])))) hk)
def zH9 : List PA → COut
  | []=>.tot [.agg [.int .i64 ((s66).Nodes),.sl ((s66).Ties.len) 4 (λ i=>enc_40 ((s66).Ties.get i))]]
  | _=>.no
theorem zL2:zar Tryd.prog 66:=⟨_,rfl,rfl,by kernel_rfl⟩
theorem zQD:Ok Tryd.prog 66 zH9:=zbc zOv zL2 λ args K h=>by
  unfold zH9 at h
  split at h
  · have hk := h
    exact⟨(λ _ _=>[]),(λ _=>false),zL1,q66 K hk⟩
  · exact h.elim
abbrev T21:Tabs:=((((((((((Tabs.nil.addF 22 zHa).addF 25 zCL).addF 26 zHx).addF 29 zHy).addF 32 zHC).addF 45 zHN).addF 49 zHW).addF 53 zH0).addF 54 zH8).addF 66 zH9)
theorem zOw:TabsOk Tryd.prog T21:=((((((((((TabsOk.nil.addF zQm).addF zPe).addF zQn).addF zQo).addF ok32).addF zQy).addF zQz).addF zQA).addF zQC).addF zQD)
abbrev G21:Ctrs:=csm T21 (λ _ _=>[]) (λ _=>false)
def zIa:Ann:=⟨87,[(0,zK [] []),(1,zK [1,2] []),(2,zK [1,2,3,4] []),(3,zK [1,2,3,4,5,6] []),(4,zK [1,2,3,4,5,6,7] [7]),(5,zK [1,2,3,4,5,6,7,8,9] [7]),(6,zK [1,2,3,4,5,6,8,9,10,11] []),(7,zK [1,3,5,8,10,57] []),(8,zK [0] []),(9,zK [0] [])],
 [],
 [(2,zK [1,2] []),(3,zK [1,2,3,4] []),(4,zK [1,2,3,4,5,6] []),(5,zK [1,2,3,4,5,6,7] [7]),(6,zK [1,2,3,4,5,6,7,8,9] [7]),(7,zK [1,2,3,4,5,6,8,9,10,11] []),(9,zK [1,3,5,8,10] [])],
 [],[]⟩
abbrev R21:=Bool
abbrev e21 (r:R21):List PA:=[.one (.bool r)]
@[irreducible] def z21:=ptF Tryd.prog G21 zIa Tryd.f21
section
variable {K:List PA->Prop}{bv0:(Sl Span)}{ev0:Int}{zL3:Nat->List PV}{cv1:(Sl Use)}{fv1:Int}{zL4:Nat->List PV}{vv2:(Sl Int)}{gv2:Int}{zL5:Nat->List PV}{zem:Int}{zdK:(Sl Tie)}{zz9:Nat->List PV}{xv4:(Sl Use)}{hv4:Int}{zL6:Nat->List PV}{lv5:(Sl Int)}{iv5:Int}{zL7:Nat->List PV}
def zAa (bv0:(Sl Span)) (cv1:(Sl Use)) (vv2:(Sl Int)) (xv4:(Sl Use)) (lv5:(Sl Int)):Bool :=
  (cond (s32 bv0 (⟨3, zfU (zbA [(zbB (⟨(0:Int), (0:Int)⟩ : Span)), (zbB (⟨(5:Int), (8:Int)⟩ : Span)), (zbB (⟨(3:Int), (9:Int)⟩ : Span))])⟩ : (Sl Span)))
 (cond (s53 cv1 (⟨1, λ _ => (⟨(2:Int), true⟩ : Use)⟩ : (Sl Use)))
 (cond (s25 vv2 (⟨3, zaw (zbA [(zae (0:Int)), (zae (5:Int)), (zae (8:Int))])⟩ : (Sl Int)))
 (cond (s53 xv4 (⟨2, zdi (zbA [(zaW (⟨(2:Int), true⟩ : Use)), (zaW (⟨(3:Int), true⟩ : Use))])⟩ : (Sl Use)))
 (s25 lv5 (⟨1,λ _=>(2:Int)⟩:(Sl Int)))
 false)
 false)
 false)
 false)
def zAb (bv0:(Sl Span)) (cv1:(Sl Use)) (vv2:(Sl Int)) (xv4:(Sl Use)) (lv5:(Sl Int)):Bool :=
  (decide ((p32 bv0 (⟨3,zfU (zbA [(zbB (⟨(0:Int),(0:Int)⟩:Span)),(zbB (⟨(5:Int),(8:Int)⟩:Span)),(zbB (⟨(3:Int),(9:Int)⟩:Span))])⟩:(Sl Span))=true)) &&
 (cond (s32 bv0 (⟨3, zfU (zbA [(zbB (⟨(0:Int), (0:Int)⟩ : Span)), (zbB (⟨(5:Int), (8:Int)⟩ : Span)), (zbB (⟨(3:Int), (9:Int)⟩ : Span))])⟩ : (Sl Span)))
 (decide ((p53 cv1 (⟨1,λ _=>(⟨(2:Int),true⟩:Use)⟩:(Sl Use))=true)) &&
 (cond (s53 cv1 (⟨1, λ _ => (⟨(2:Int), true⟩ : Use)⟩ : (Sl Use)))
 (decide ((p25 vv2 (⟨3,zaw (zbA [(zae (0:Int)),(zae (5:Int)),(zae (8:Int))])⟩:(Sl Int))=true)) &&
 (cond (s25 vv2 (⟨3, zaw (zbA [(zae (0:Int)), (zae (5:Int)), (zae (8:Int))])⟩ : (Sl Int)))
 (decide ((p53 xv4 (⟨2,zdi (zbA [(zaW (⟨(2:Int),true⟩:Use)),(zaW (⟨(3:Int),true⟩:Use))])⟩:(Sl Use))=true)) &&
 (cond (s53 xv4 (⟨2, zdi (zbA [(zaW (⟨(2:Int), true⟩ : Use)), (zaW (⟨(3:Int), true⟩ : Use))])⟩ : (Sl Use)))
 (decide ((p25 lv5 (⟨1,λ _=>(2:Int)⟩:(Sl Int))=true)) &&
 true)
 true))
 true))
 true))
 true))
theorem zIb (hs:zAb bv0 cv1 vv2 xv4 lv5=true) (hk:K (e21 (zAa bv0 cv1 vv2 xv4 lv5))):z21 K [1,1,1,1,1,1,1,1] [] ⟨[(1,zS zbB 2 bv0),(3,zS zaW 2 cv1),(5,zS zae 1 vv2),(8,zS zaW 2 xv4),(10,zS zae 1 lv5)],[],[]⟩:=zaS (by kernel_rfl) (zaO hs λ hc hs=>And.intro (And.intro (zE zbB 2 bv0.get) (And.intro ((zev [(⟨(3:Int),(9:Int)⟩:Span)]):IsE zbB 2 2 (zbA [(zbB (⟨(0:Int),(0:Int)⟩:Span)),(zbB (⟨(5:Int),(8:Int)⟩:Span)),(zbB (⟨(3:Int),(9:Int)⟩:Span))])) hc)) (zc hs hk (λ hs hk=>(zaO hs λ hc hs=>And.intro (And.intro (zE zaW 2 cv1.get) (And.intro (zqn:IsE zaW 2 2 (λ _=>(zaW (⟨(2:Int),true⟩:Use)))) hc)) (zc hs hk (λ hs hk=>(zaO hs λ hc hs=>And.intro (And.intro (zE zae 1 vv2.get) (And.intro ((zev [(8:Int)]):IsE zae 1 1 (zbA [(zae (0:Int)),(zae (5:Int)),(zae (8:Int))])) hc)) (zc hs hk (λ hs hk=>(zaO hs λ hc hs=>And.intro (And.intro (zE zaW 2 xv4.get) (And.intro ((zev []):IsE zaW 2 2 (zbA [(zaW (⟨(2:Int),true⟩:Use)),(zaW (⟨(3:Int),true⟩:Use))])) hc)) (zc hs hk (λ hs hk=>(zaO hs λ hc hs=>And.intro (And.intro (zE zae 1 lv5.get) (And.intro (zqn:IsE zae 1 1 (λ _=>(zae (2:Int)))) hc)) hk)) (λ hs hk=>hk)))) (λ hs hk=>hk)))) (λ hs hk=>hk)))) (λ hs hk=>hk)))
def zAc (bv0:(Sl Span)) (ev0:Int) (cv1:(Sl Use)) (fv1:Int) (vv2:(Sl Int)) (gv2:Int) (xv4:(Sl Use)) (hv4:Int) (lv5:(Sl Int)) (iv5:Int):Bool :=
  (cond (ev0 != (0:Int))
 false
 (cond (fv1 != (0:Int))
 false
 (cond (gv2 != (0:Int))
 false
 (cond (hv4 != (0:Int))
 false
 (cond (iv5 != (0:Int))
 false
 (zAa bv0 cv1 vv2 xv4 lv5))))))
def zAd (bv0:(Sl Span)) (ev0:Int) (cv1:(Sl Use)) (fv1:Int) (vv2:(Sl Int)) (gv2:Int) (xv4:(Sl Use)) (hv4:Int) (lv5:(Sl Int)) (iv5:Int):Bool :=
  (cond (ev0 != (0:Int))
 true
 (cond (fv1 != (0:Int))
 true
 (cond (gv2 != (0:Int))
 true
 (cond (hv4 != (0:Int))
 true
 (cond (iv5 != (0:Int))
 true
 (zAb bv0 cv1 vv2 xv4 lv5))))))
theorem zIc (hs:zAd bv0 ev0 cv1 fv1 vv2 gv2 xv4 hv4 lv5 iv5=true) (hk:K (e21 (zAc bv0 ev0 cv1 fv1 vv2 gv2 xv4 hv4 lv5 iv5))) (zOx:zL7=zg zae lv5):z21 K [1,1,1,1,1,1,1] [] ⟨[(1,zS zbB 2 bv0),(2,zI ev0),(3,zS zaW 2 cv1),(4,zI fv1),(5,zS zae 1 vv2),(6,zI gv2),(8,zS zaW 2 xv4),(9,zI hv4),(10,zP (.sl lv5.len 1 zL7)),(11,zI iv5)],[],[]⟩:=by subst zOx;exact zaS (by kernel_rfl) (zc hs hk (λ hs hk=>hk) (λ hs hk=>(zc hs hk (λ hs hk=>hk) (λ hs hk=>(zc hs hk (λ hs hk=>hk) (λ hs hk=>(zc hs hk (λ hs hk=>hk) (λ hs hk=>(zc hs hk (λ hs hk=>hk) (λ hs hk=>(zIb hs hk)))))))))))
def zAe (bv0:(Sl Span)) (ev0:Int) (cv1:(Sl Use)) (fv1:Int) (vv2:(Sl Int)) (gv2:Int) (zem:Int) (zdK:(Sl Tie)) (xv4:(Sl Use)) (hv4:Int):Bool :=
  (zAc bv0 ev0 cv1 fv1 vv2 gv2 xv4 hv4 ((s22 (⟨zem,zdK⟩:Net)).1) ((s22 (⟨zem,zdK⟩:Net)).2))
def zAf (bv0:(Sl Span)) (ev0:Int) (cv1:(Sl Use)) (fv1:Int) (vv2:(Sl Int)) (gv2:Int) (zem:Int) (zdK:(Sl Tie)) (xv4:(Sl Use)) (hv4:Int):Bool :=
  (decide ((p22 (⟨zem,zdK⟩:Net)=true)) &&
 (zAd bv0 ev0 cv1 fv1 vv2 gv2 xv4 hv4 ((s22 (⟨zem,zdK⟩:Net)).1) ((s22 (⟨zem,zdK⟩:Net)).2)))
theorem zId (hs:zAf bv0 ev0 cv1 fv1 vv2 gv2 zem zdK xv4 hv4=true) (hk:K (e21 (zAe bv0 ev0 cv1 fv1 vv2 gv2 zem zdK xv4 hv4))) (zOy:zL6=zg zaW xv4):z21 K [1,1,1,1,1,1] [] ⟨[(1,zS zbB 2 bv0),(2,zI ev0),(3,zS zaW 2 cv1),(4,zI fv1),(5,zS zae 1 vv2),(6,zI gv2),(7,zp 7 0),(8,zP (.sl xv4.len 2 zL6)),(9,zI hv4)],[(7,.box 24 (zm (enc_24 (⟨zem,zdK⟩:Net))))],[]⟩:=by subst zOy;exact zaS (by kernel_rfl) (zaO hs λ hc hs=>And.intro (And.intro (zE enc_40 4 zdK.get) hc) (zIc hs hk rfl))
def zAg (bv0:(Sl Span)) (ev0:Int) (cv1:(Sl Use)) (fv1:Int) (vv2:(Sl Int)) (gv2:Int) (zem:Int) (zdK:(Sl Tie)):Bool :=
  (zAe bv0 ev0 cv1 fv1 vv2 gv2 zem zdK ((s49 (⟨zem,zdK⟩:Net)).1) ((s49 (⟨zem,zdK⟩:Net)).2))
def zAh (bv0:(Sl Span)) (ev0:Int) (cv1:(Sl Use)) (fv1:Int) (vv2:(Sl Int)) (gv2:Int) (zem:Int) (zdK:(Sl Tie)):Bool :=
  (decide ((p49 (⟨zem,zdK⟩:Net)=true)) &&
 (zAf bv0 ev0 cv1 fv1 vv2 gv2 zem zdK ((s49 (⟨zem,zdK⟩:Net)).1) ((s49 (⟨zem,zdK⟩:Net)).2)))
theorem zIe (hs:zAh bv0 ev0 cv1 fv1 vv2 gv2 zem zdK=true) (hk:K (e21 (zAg bv0 ev0 cv1 fv1 vv2 gv2 zem zdK))) (zIf:zz9=zg enc_40 zdK):z21 K [1,1,1,1,1] [] ⟨[(1,zS zbB 2 bv0),(2,zI ev0),(3,zS zaW 2 cv1),(4,zI fv1),(5,zS zae 1 vv2),(6,zI gv2),(7,zp 7 0)],[(7,.box 24 [zi zem,.p (.sl zdK.len 4 zz9)])],[]⟩:=by subst zIf;exact zaS (by kernel_rfl) (zaO hs λ hc hs=>And.intro (And.intro (zE enc_40 4 zdK.get) hc) (zId hs hk rfl))
def zAi (bv0:(Sl Span)) (ev0:Int) (cv1:(Sl Use)) (fv1:Int) (vv2:(Sl Int)) (gv2:Int):Bool :=
  (zAg bv0 ev0 cv1 fv1 vv2 gv2 ((s29 s66 (⟨(0:Int),(2:Int),(10:Int),(12:Int)⟩:Tie)).Nodes) ((s29 s66 (⟨(0:Int),(2:Int),(10:Int),(12:Int)⟩:Tie)).Ties))
def zAj (bv0:(Sl Span)) (ev0:Int) (cv1:(Sl Use)) (fv1:Int) (vv2:(Sl Int)) (gv2:Int):Bool :=
  (decide ((p29 s66 (⟨(0:Int),(2:Int),(10:Int),(12:Int)⟩:Tie)=true)) &&
 (zAh bv0 ev0 cv1 fv1 vv2 gv2 ((s29 s66 (⟨(0:Int),(2:Int),(10:Int),(12:Int)⟩:Tie)).Nodes) ((s29 s66 (⟨(0:Int),(2:Int),(10:Int),(12:Int)⟩:Tie)).Ties)))
theorem zIg (hs:zAj bv0 ev0 cv1 fv1 vv2 gv2=true) (hk:K (e21 (zAi bv0 ev0 cv1 fv1 vv2 gv2))) (zOz:zL5=zg zae vv2):z21 K [1,1,1,1] [] ⟨[(1,zS zbB 2 bv0),(2,zI ev0),(3,zS zaW 2 cv1),(4,zI fv1),(5,zP (.sl vv2.len 1 zL5)),(6,zI gv2)],[],[]⟩:=by subst zOz;exact zaS (by kernel_rfl) (zaO hs λ hc hs=>And.intro (And.intro (zE enc_40 4 s66.Ties.get) hc) (zIe hs hk rfl))
def zAk (bv0:(Sl Span)) (ev0:Int) (cv1:(Sl Use)) (fv1:Int):Bool :=
  (zAi bv0 ev0 cv1 fv1 ((s45 s66 (1:Int) (0:Int)).1) ((s45 s66 (1:Int) (0:Int)).2))
def zAl (bv0:(Sl Span)) (ev0:Int) (cv1:(Sl Use)) (fv1:Int):Bool :=
  (decide ((p45 s66 (1:Int) (0:Int)=true)) &&
 (zAj bv0 ev0 cv1 fv1 ((s45 s66 (1:Int) (0:Int)).1) ((s45 s66 (1:Int) (0:Int)).2)))
theorem zIh (hs:zAl bv0 ev0 cv1 fv1=true) (hk:K (e21 (zAk bv0 ev0 cv1 fv1))) (zOA:zL4=zg zaW cv1):z21 K [1,1,1] [] ⟨[(1,zS zbB 2 bv0),(2,zI ev0),(3,zP (.sl cv1.len 2 zL4)),(4,zI fv1)],[],[]⟩:=by subst zOA;exact zaS (by kernel_rfl) (zaO hs λ hc hs=>And.intro (And.intro (zE enc_40 4 s66.Ties.get) hc) (zIg hs hk rfl))
def zAm (bv0:(Sl Span)) (ev0:Int):Bool :=
  (zAk bv0 ev0 ((s54 s66 (0:Int) (2:Int)).1) ((s54 s66 (0:Int) (2:Int)).2))
def zAn (bv0:(Sl Span)) (ev0:Int):Bool :=
  (decide ((p54 s66 (0:Int) (2:Int)=true)) &&
 (zAl bv0 ev0 ((s54 s66 (0:Int) (2:Int)).1) ((s54 s66 (0:Int) (2:Int)).2)))
theorem zIi (hs:zAn bv0 ev0=true) (hk:K (e21 (zAm bv0 ev0))) (zOB:zL3=zg zbB bv0):z21 K [1,1] [] ⟨[(1,zP (.sl bv0.len 2 zL3)),(2,zI ev0)],[],[]⟩:=by subst zOB;exact zaS (by kernel_rfl) (zaO hs λ hc hs=>And.intro (And.intro (zE enc_40 4 s66.Ties.get) hc) (zIh hs hk rfl))
def s21:Bool :=
  (zAm ((s26 s66).1) ((s26 s66).2))
def p21:Bool :=
  (decide ((p26 s66=true)) &&
 (zAn ((s26 s66).1) ((s26 s66).2)))
end
theorem q21 (K:List PA->Prop) (hs:p21=true) (hk:K (e21 (s21))):vcFun Tryd.prog G21 zIa 21 [] K :=
  zaS (by kernel_rfl) (zaO hs λ hc hs=>And.intro (And.intro (zE enc_40 4 s66.Ties.get) hc) (zIi hs hk rfl))
theorem zL8:p21=true:=by kernel_rfl
theorem zL9:s21=true:=by kernel_rfl
def zIj : List PA → COut
  | []=>.tot [.one (.bool true)]
  | _=>.no
theorem zMa:zar Tryd.prog 21:=⟨_,rfl,rfl,by kernel_rfl⟩
theorem zQE:Ok Tryd.prog 21 zIj:=zbc zOw zMa λ args K h=>by
  unfold zIj at h
  split at h
  · refine ⟨fun _ _ => [], fun _ => false, zIa, q21 K zL8 ?_⟩
    show K [.one (.bool s21)]
    rw[zL9];exact h
  · exact h.elim
abbrev T20:Tabs:=Tabs.nil
theorem zOC:TabsOk Tryd.prog T20:=TabsOk.nil
abbrev G20:Ctrs:=csm T20 (λ _ _=>[]) (λ _=>false)
def zMb:Ann:=⟨32,[(0,zK [1,2] [2]),(1,zK [4] [])],
 [],
 [],
 [],[]⟩
abbrev R20:=Bool
abbrev e20 (r:R20):List PA:=[.one (.bool r)]
section
variable {K:List PA->Prop}{n:Net}{ties:Int}
def s20 (n:Net) (ties:Int):Bool :=
  (cond (decide (n.Nodes <= (7:Int)))
 (cond (decide ((n.Ties.len : Int) <= ties))
 true
 (cond (decide ((n.Ties.len : Int) > (200:Int)))
 (decide ((n.Ties.len:Int)<=(210:Int)))
 false))
 (cond (decide (n.Nodes > (40:Int)))
 (cond (decide ((n.Ties.len : Int) <= ties))
 true
 (cond (decide ((n.Ties.len : Int) > (200:Int)))
 (decide ((n.Ties.len:Int)<=(210:Int)))
 false))
 false))
end
theorem q20 (n:Net) (ties:Int) (K:List PA->Prop) (hk:K (e20 (s20 n ties))):vcFun Tryd.prog G20 zMb 20 [.agg (enc_24 n),.one (.int .i64 ties)] K :=
  zaS (by kernel_rfl) (zt hk (λ hk=>(zt hk (λ hk=>hk) (λ hk=>(zt hk (λ hk=>hk) (λ hk=>hk))))) (λ hk=>(zt hk (λ hk=>(zt hk (λ hk=>hk) (λ hk=>(zt hk (λ hk=>hk) (λ hk=>hk))))) (λ hk=>hk))))
def zIk : List PA → COut
  | [.agg [.int .i64 zaf,.sl zac zat zab],.one (.int .i64 a1)]=>.det (IsE enc_40 4 zat zab) [.one (.bool (s20 (⟨zaf,(⟨zac,zal zab⟩:(Sl Tie))⟩:Net) a1))]
  | _=>.no
theorem zMc:zar Tryd.prog 20:=⟨_,rfl,rfl,by kernel_rfl⟩
theorem zQF:Ok Tryd.prog 20 zIk:=zbc zOC zMc λ args K h=>by
  unfold zIk at h
  split at h
  · rename_i zaf zac zat zab a1
    obtain⟨⟨rfl,zan,rfl⟩,hk⟩:=h
    try rw[zaj zan] at hk
    exact⟨(λ _ _=>[]),(λ _=>false),zMb,q20 (⟨zaf,(⟨zac,zan⟩:(Sl Tie))⟩:Net) a1 K hk⟩
  · exact h.elim
abbrev T72:Tabs:=Tabs.nil
theorem zOD:TabsOk Tryd.prog T72:=TabsOk.nil
abbrev G72:Ctrs:=csm T72 (λ _ _=>[]) (λ _=>false)
def zMd:Ann:=⟨15,[(0,zK [0,1,2] []),(1,zK [6] [])],
 [],
 [],
 [],[]⟩
abbrev R72:=Bool
abbrev e72 (r:R72):List PA:=[.one (.bool r)]
section
variable {K:List PA->Prop}{x:Int}{low:Int}{high:Int}
def s72 (x:Int) (low:Int) (high:Int):Bool :=
  (cond (decide (x >= low))
 (decide (x<=high))
 false)
end
theorem q72 (x:Int) (low:Int) (high:Int) (K:List PA->Prop) (hk:K (e72 (s72 x low high))):vcFun Tryd.prog G72 zMd 72 [.one (.int .i64 x),.one (.int .i64 low),.one (.int .i64 high)] K :=
  zaS (by kernel_rfl) (zt hk (λ hk=>hk) (λ hk=>hk))
def zDi : List PA → COut
  | [.one (.int .i64 a0),.one (.int .i64 a1),.one (.int .i64 a2)]=>.tot [.one (.bool (s72 a0 a1 a2))]
  | _=>.no
theorem zMe:zar Tryd.prog 72:=⟨_,rfl,rfl,by kernel_rfl⟩
theorem zPA:Ok Tryd.prog 72 zDi:=zbc zOD zMe λ args K h=>by
  unfold zDi at h
  split at h
  · rename_i a0 a1 a2
    have hk:=h
    exact⟨(λ _ _=>[]),(λ _=>false),zMd,q72 a0 a1 a2 K hk⟩
  · exact h.elim
abbrev T36:Tabs:=(Tabs.nil.addF 72 zDi)
theorem zOE:TabsOk Tryd.prog T36:=(TabsOk.nil.addF zPA)
abbrev G36:Ctrs:=csm T36 (λ _ _=>[]) (λ _=>false)
def zIl:Ann:=⟨51,[(0,zK [0,3] [3]),(1,zK [3,32] [3]),(2,zK [4] []),(3,zK [4] [])],
 [],
 [(2,zK [3,32] [3]),(3,zK [3] [3])],
 [],[]⟩
abbrev R36:=Bool
abbrev e36 (r:R36):List PA:=[.one (.bool r)]
@[irreducible] def z36:=ptF Tryd.prog G36 zIl Tryd.f36
section
variable {K:List PA->Prop}{nodes:Int}{t:Tie}{zDj:Bool}
def zq5 (t:Tie):Bool :=
  (cond (t.Low == (-1000000000000:Int))
 (cond (t.High == (1000000000000:Int))
 true
 (s72 t.High (-1000000000:Int) (1000000000:Int)))
 (cond (s72 t.Low (-1000000000:Int) (1000000000:Int))
 (cond (t.High == (1000000000000:Int))
 true
 (s72 t.High (-1000000000:Int) (1000000000:Int)))
 false))
theorem zIm (hk:K (e36 (zq5 t))):z36 K [1,1] [] ⟨[(3,zp 3 0)],[(3,.box 40 (zm (enc_40 t)))],[]⟩:=zaS (by kernel_rfl) (zt hk (λ hk=>(zt hk (λ hk=>hk) (λ hk=>hk))) (λ hk=>(zt hk (λ hk=>(zt hk (λ hk=>hk) (λ hk=>hk))) (λ hk=>hk))))
def ziA (t:Tie) (zDj:Bool):Bool :=
  (cond zDj
 false
 (zq5 t))
theorem znE (hk:K (e36 (ziA t zDj))):z36 K [1,0,1] [] ⟨[(3,zp 3 0),(32,zB zDj)],[(3,.box 40 (zm (enc_40 t)))],[]⟩:=zaS (by kernel_rfl) (zt hk (λ hk=>hk) (λ hk=>(zIm hk)))
def s36 (nodes:Int) (t:Tie):Bool :=
  (cond (!(s72 t.From (0:Int) (w64 (nodes - (1:Int)))))
 (ziA t true)
 (cond (!(s72 t.To (0:Int) (w64 (nodes - (1:Int)))))
 (ziA t true)
 (cond (t.From == t.To)
 (ziA t true)
 (ziA t (decide (t.Low > t.High))))))
end
theorem q36 (nodes:Int) (t:Tie) (K:List PA->Prop) (hk:K (e36 (s36 nodes t))):vcFun Tryd.prog G36 zIl 36 [.one (.int .i64 nodes),.agg (enc_40 t)] K :=
  zaS (by kernel_rfl) (zt hk (λ hk=>(znE hk)) (λ hk=>(zt hk (λ hk=>(znE hk)) (λ hk=>(zt hk (λ hk=>(znE hk)) (λ hk=>(znE hk)))))))
def zIn : List PA → COut
  | [.one (.int .i64 a0),.agg [.int .i64 zbF,.int .i64 zdE,.int .i64 zcg,.int .i64 zbG]]=>.tot [.one (.bool (s36 a0 (⟨zbF,zdE,zcg,zbG⟩:Tie)))]
  | _=>.no
theorem zMf:zar Tryd.prog 36:=⟨_,rfl,rfl,by kernel_rfl⟩
theorem zQG:Ok Tryd.prog 36 zIn:=zbc zOE zMf λ args K h=>by
  unfold zIn at h
  split at h
  · rename_i a0 zbF zdE zcg zbG
    have hk:=h
    exact⟨(λ _ _=>[]),(λ _=>false),zIl,q36 a0 (⟨zbF,zdE,zcg,zbG⟩:Tie) K hk⟩
  · exact h.elim
abbrev T23:Tabs:=((Tabs.nil.addF 36 zIn).addF 72 zDi)
theorem zOF:TabsOk Tryd.prog T23:=((TabsOk.nil.addF zQG).addF zPA)
abbrev G23:Ctrs:=csm T23 (λ _ _=>[]) (λ _=>false)
def zIo:Ann:=⟨30,[(0,zK [1] [1]),(1,zK [1,13] [1]),(2,zK [2] []),(3,zK [1,3] [1]),(4,zK [1,3,18] [1]),(5,zK [1,3] [1]),(6,zK [1,3,29] [1]),(7,zK [2] []),(8,zK [2] [])],
 [(4,zK [1,3] [1])],
 [(2,zK [1,13] [1]),(3,zK [1] [1]),(7,zK [1,3,29] [1])],
 [],[]⟩
abbrev R23:=Bool
abbrev e23 (r:R23):List PA:=[.one (.bool r)]
@[irreducible] def z23:=ptF Tryd.prog G23 zIo Tryd.f23
def zEX (n:Net) (iv2:Int):St:=⟨[(1,zp 1 0),(3,zI iv2)],[(1,.box 24 (zm (enc_24 n)))],[]⟩
abbrev zIp (K:List PA->Prop) (n:Net) (X:St->Prop) (P:Int->Bool) (S:Int->Bool):Prop:=∀ ⦃iv2:Int⦄,P iv2=true->K (e23 (S iv2))->X (zEX n iv2)
section
variable {K:List PA->Prop}{n:Net}{zbX:Bool}{iv2:Int}{X2:St->Prop}{P2:Int->Bool}{S2:Int->Bool}{iv3:Int}{zq6:Bool}
def zq7 (S2:Int->Bool) (n:Net) (iv3:Int) (zq6:Bool):Bool :=
  (cond zq6
 false
 (S2 (w64 (iv3+(1:Int)))))
def zq8 (P2:Int->Bool) (n:Net) (iv3:Int) (zq6:Bool):Bool :=
  (cond zq6
 true
 (P2 (w64 (iv3+(1:Int)))))
theorem zIq (hX2:zIp K n X2 P2 S2) (hs:zq8 P2 n iv3 zq6=true) (hk:K (e23 (zq7 S2 n iv3 zq6))):z23 K [1,1,0,1,0,0,1,0,0,1] [X2] ⟨[(1,zp 1 0),(3,zI iv3),(29,zB zq6)],[(1,.box 24 (zm (enc_24 n)))],[]⟩:=zaS (by kernel_rfl) (zc hs hk (λ hs hk=>hk) (λ hs hk=>(hX2 hs hk)))
def ziB (n:Net) (S2:Int->Bool) (iv2:Int):Bool :=
  (cond (decide (iv2 < (n.Ties.len : Int)))
 (zq7 S2 n iv2 (!(s36 n.Nodes (n.Ties.get iv2.toNat))))
 true)
def ziC (n:Net) (P2:Int->Bool) (iv2:Int):Bool :=
  (cond (decide (iv2 < (n.Ties.len : Int)))
 (decide ((0<=iv2/\iv2 < (n.Ties.len:Int))) &&
 (zq8 P2 n iv2 (!(s36 n.Nodes (n.Ties.get iv2.toNat)))))
 true)
def zhi (n:Net):Nat->Int->Bool:=lpO (λ _=>default) (ziB n)
def ziD (n:Net):Nat->Int->Bool:=lpO (λ _=>false) (ziC n)
def zq9 (n:Net) (iv2:Int):Bool:=zhi n Fuel iv2
def zra (n:Net) (iv2:Int):Bool:=ziD n Fuel iv2
theorem zIr (hs:zra n iv2=true) (hk:K (e23 (zq9 n iv2))):z23 K [1,1,0,1,0] [] (zEX n iv2) :=
  zl (λ X=>z23 K [1,1,0,1,0,0] [X]) (by kernel_rfl) λ X2 hX =>
  (show ∀ k, zIp K n X2 (ziD n k) (zhi n k) from zd0 _ _ (ziC n) (ziB n) (zIp K n X2)
 (by intro _ hs;exact absurd hs dqk)
 (by intro P2 S2 hX2 iv2 hs hk;exact hX _ (zaS (by kernel_rfl) (zc hs hk (λ hs hk=>(zaO hs λ hc hs=>And.intro hc (zIq hX2 hs hk))) (λ hs hk=>hk))))) _ hs hk
def zrb (n:Net):Bool :=
  (zq9 n (0:Int))
def zrd (n:Net):Bool :=
  (zra n (0:Int))
theorem zIs (hs:zrd n=true) (hk:K (e23 (zrb n))):z23 K [1,1] [] ⟨[(1,zp 1 0)],[(1,.box 24 (zm (enc_24 n)))],[]⟩:=zaS (by kernel_rfl) (zIr hs hk)
def znF (n:Net) (zbX:Bool):Bool :=
  (cond zbX
 false
 (zrb n))
def znG (n:Net) (zbX:Bool):Bool :=
  (cond zbX
 true
 (zrd n))
theorem zAo (hs:znG n zbX=true) (hk:K (e23 (znF n zbX))):z23 K [1,0,1] [] ⟨[(1,zp 1 0),(13,zB zbX)],[(1,.box 24 (zm (enc_24 n)))],[]⟩:=zaS (by kernel_rfl) (zc hs hk (λ hs hk=>hk) (λ hs hk=>(zIs hs hk)))
def s23 (n:Net):Bool :=
  (cond (!(s72 n.Nodes (1:Int) (40:Int)))
 (znF n true)
 (znF n (decide ((n.Ties.len:Int) > (200:Int)))))
def p23 (n:Net):Bool :=
  (cond (!(s72 n.Nodes (1:Int) (40:Int)))
 (znG n true)
 (znG n (decide ((n.Ties.len:Int) > (200:Int)))))
end
theorem q23 (n:Net) (K:List PA->Prop) (hs:p23 n=true) (hk:K (e23 (s23 n))):vcFun Tryd.prog G23 zIo 23 [.agg (enc_24 n)] K :=
  zaS (by kernel_rfl) (zc hs hk (λ hs hk=>(zAo hs hk)) (λ hs hk=>(zAo hs hk)))
def zIt : List PA → COut
  | [.agg [.int .i64 zaf,.sl zac zat zab]]=>.det (IsE enc_40 4 zat zab/\p23 (⟨zaf,(⟨zac,zal zab⟩:(Sl Tie))⟩:Net)=true) [.one (.bool (s23 (⟨zaf,(⟨zac,zal zab⟩:(Sl Tie))⟩:Net)))]
  | _=>.no
theorem zMg:zar Tryd.prog 23:=⟨_,rfl,rfl,by kernel_rfl⟩
theorem zQH:Ok Tryd.prog 23 zIt:=zbc zOF zMg λ args K h=>by
  unfold zIt at h
  split at h
  · rename_i zaf zac zat zab
    obtain⟨⟨⟨rfl,zan,rfl⟩,hs⟩,hk⟩:=h
    try rw[zaj zan] at hs
    try rw[zaj zan] at hk
    exact⟨(λ _ _=>[]),(λ _=>false),zIo,q23 (⟨zaf,(⟨zac,zan⟩:(Sl Tie))⟩:Net) K hs hk⟩
  · exact h.elim
abbrev T60:Tabs:=Tabs.nil
theorem zOG:TabsOk Tryd.prog T60:=TabsOk.nil
abbrev G60:Ctrs:=csm T60 (λ _ _=>[]) (λ _=>false)
def zIu:Ann:=⟨18,[(0,zK [0,1] []),(1,zK [0,1,5] []),(2,zK [0,1,5,9] []),(3,zK [0,1,5] []),(4,zK [0,1,5,17] []),(5,zK [4] []),(6,zK [4] [])],
 [(2,zK [0,1,5] [])],
 [],
 [],[]⟩
abbrev R60:=Bool
abbrev e60 (r:R60):List PA:=[.one (.bool r)]
@[irreducible] def z60:=ptF Tryd.prog G60 zIu Tryd.f60
def zEY (l_a0:(Sl Int)) (x:Int) (iv0:Int):St:=⟨[(0,zS zae 1 l_a0),(1,zI x),(5,zI iv0)],[],[]⟩
abbrev zMh (K:List PA->Prop) (l_a0:(Sl Int)) (x:Int) (X:St->Prop) (P:Int->Bool) (S:Int->Bool):Prop:=∀ ⦃iv0:Int⦄,P iv0=true->K (e60 (S iv0))->X (zEY l_a0 x iv0)
section
variable {K:List PA->Prop}{l_a0:(Sl Int)}{x:Int}{iv0:Int}{X0:St->Prop}{P0:Int->Bool}{S0:Int->Bool}
def ziE (l_a0:(Sl Int)) (x:Int) (S0:Int->Bool) (iv0:Int):Bool :=
  (cond (decide (iv0 < (l_a0.len : Int)))
 (cond ((l_a0.get iv0.toNat) == x)
 true
 (S0 (w64 (iv0+(1:Int)))))
 false)
def ziF (l_a0:(Sl Int)) (x:Int) (P0:Int->Bool) (iv0:Int):Bool :=
  (cond (decide (iv0 < (l_a0.len : Int)))
 (decide ((0<=iv0/\iv0 < (l_a0.len:Int))) &&
 (cond ((l_a0.get iv0.toNat) == x)
 true
 (P0 (w64 (iv0+(1:Int))))))
 true)
def ziG (l_a0:(Sl Int)) (x:Int):Nat->Int->Bool:=lpO (λ _=>default) (ziE l_a0 x)
def ziH (l_a0:(Sl Int)) (x:Int):Nat->Int->Bool:=lpO (λ _=>false) (ziF l_a0 x)
def zAp (l_a0:(Sl Int)) (x:Int) (iv0:Int):Bool:=ziG l_a0 x Fuel iv0
def zAq (l_a0:(Sl Int)) (x:Int) (iv0:Int):Bool:=ziH l_a0 x Fuel iv0
theorem zIv (hs:zAq l_a0 x iv0=true) (hk:K (e60 (zAp l_a0 x iv0))):z60 K [1,0,1,0] [] (zEY l_a0 x iv0) :=
  zl (λ X=>z60 K [1,0,1,0,0] [X]) (by kernel_rfl) λ X0 hX =>
  (show ∀ k, zMh K l_a0 x X0 (ziH l_a0 x k) (ziG l_a0 x k) from zd0 _ _ (ziF l_a0 x) (ziE l_a0 x) (zMh K l_a0 x X0)
 (by intro _ hs;exact absurd hs dqk)
 (by intro P0 S0 hX0 iv0 hs hk;exact hX _ (zaS (by kernel_rfl) (zc hs hk (λ hs hk=>(zaO hs λ hc hs=>And.intro hc (zc hs hk (λ hs hk=>hk) (λ hs hk=>(hX0 hs hk))))) (λ hs hk=>hk))))) _ hs hk
def s60 (l_a0:(Sl Int)) (x:Int):Bool :=
  (zAp l_a0 x (0:Int))
def p60 (l_a0:(Sl Int)) (x:Int):Bool :=
  (zAq l_a0 x (0:Int))
end
theorem q60 (l_a0:(Sl Int)) (x:Int) (K:List PA->Prop) (hs:p60 l_a0 x=true) (hk:K (e60 (s60 l_a0 x))):vcFun Tryd.prog G60 zIu 60 [.one (.sl l_a0.len 1 (λ i=>zae (l_a0.get i))),.one (.int .i64 x)] K :=
  zaS (by kernel_rfl) (zIv hs hk)
def zAr : List PA → COut
  | [.one (.sl zeh zje zei),.one (.int .i64 a1)]=>.det (IsE zae 1 zje zei/\p60 (⟨zeh,zaw zei⟩:(Sl Int)) a1=true) [.one (.bool (s60 (⟨zeh,zaw zei⟩:(Sl Int)) a1))]
  | _=>.no
theorem zMi:zar Tryd.prog 60:=⟨_,rfl,rfl,by kernel_rfl⟩
theorem zOH:Ok Tryd.prog 60 zAr:=zbc zOG zMi λ args K h=>by
  unfold zAr at h
  split at h
  · rename_i zeh zje zei a1
    obtain⟨⟨⟨rfl,zgz,rfl⟩,hs⟩,hk⟩:=h
    try rw[zbx zgz] at hs
    try rw[zbx zgz] at hk
    exact⟨(λ _ _=>[]),(λ _=>false),zIu,q60 (⟨zeh,zgz⟩:(Sl Int)) a1 K hs hk⟩
  · exact h.elim
theorem zyN {y:Net}{P:Net->Prop}(h:P y):P ⟨y.Nodes,⟨y.Ties.len,y.Ties.get⟩⟩:=h
abbrev T27:Tabs:=(Tabs.nil.addF 60 zAr)
theorem zOI:TabsOk Tryd.prog T27:=(TabsOk.nil.addF zOH)
abbrev G27:Ctrs:=csm T27 (λ _ _=>[]) (λ _=>false)
def zIw:Ann:=⟨32,[(0,zK [1,2,4] [2,4]),(1,zK [1,2,4,5] [2,4,5]),(2,zK [1,2,4,5,6] [2,4,5]),(3,zK [1,2,4,5,6,14] [2,4,5,29]),(4,zK [1,2,4,5,6] [2,4,5,29]),(5,zK [1,2,4,5,6,20] [2,4,5,29]),(6,zK [1,2,4,5,6] [2,4,5,29]),(7,zK [4] [4,29])],
 [(3,⟨[1,2,4,5,6],[2,4,5,29],[],[(5,1,29,40,λ _=>enc_40 default)],[],[],[]⟩)],
 [(6,zK [1,2,4,5,6,20] [2,4,5,29])],
 [],[]⟩
abbrev R27:=Net
abbrev e27 (r:R27):List PA:=[.agg [.int .i64 r.Nodes,.sl r.Ties.len 4 (λ i=>enc_40 (r.Ties.get i))]]
@[irreducible] def z27:=ptF Tryd.prog G27 zIw Tryd.f27
def zEZ (n:Net) (l_a1:(Sl Int)) (iv0:Int) (zeN:(Sl Tie)) (zga:Nat->List PV):St:=⟨[(1,zS zae 1 l_a1),(2,zp 2 0),(4,zp 4 0),(5,zp 5 0),(6,zI iv0)],[(2,.box 24 (zm (enc_24 n))),(4,.box 24 [zi (0:Int),.p (.nils)]),(5,.box 24 [zi n.Nodes,.vec 29]),(29,.vec 40 4 32 zeN.len zga)],[]⟩
abbrev zIx (K:List PA->Prop) (n:Net) (l_a1:(Sl Int)) (X:St->Prop) (P:Int->(Sl Tie)->Bool) (S:Int->(Sl Tie)->Net):Prop:=∀ ⦃iv0:Int⦄ ⦃zeN:(Sl Tie)⦄ ⦃zga:Nat->List PV⦄,P iv0 zeN=true->K (e27 (S iv0 zeN))->zga=zg enc_40 zeN->X (zEZ n l_a1 iv0 zeN zga)
section
variable {K:List PA->Prop}{n:Net}{l_a1:(Sl Int)}{iv0:Int}{zeN:(Sl Tie)}{zga:Nat->List PV}{X0:St->Prop}{P0:Int->(Sl Tie)->Bool}{S0:Int->(Sl Tie)->Net}{iv1:Int}{zre:Bool}{zgb:(Sl Tie)}{zAs:Nat->List PV}
def zrf (S0:Int->(Sl Tie)->Net) (n:Net) (l_a1:(Sl Int)) (iv1:Int) (zre:Bool) (zgb:(Sl Tie)):Net :=
  (cond zre
 (S0 (w64 (iv1+(1:Int))) (⟨(zgb.len+1),(zdU zgb.len zgb.get (λ _=>(n.Ties.get iv1.toNat)))⟩:Sl Tie))
 (S0 (w64 (iv1+(1:Int))) zgb))
def zrg (P0:Int->(Sl Tie)->Bool) (n:Net) (l_a1:(Sl Int)) (iv1:Int) (zre:Bool) (zgb:(Sl Tie)):Bool :=
  (cond zre
 (decide ((0<=iv1/\iv1 < (n.Ties.len:Int))) &&
 (decide (((zgb.len+1) * 32<=140737488355328/\zgb.len+1<=9223372036854775807)) &&
 (P0 (w64 (iv1+(1:Int))) (⟨(zgb.len+1),(zdU zgb.len zgb.get (λ _=>(n.Ties.get iv1.toNat)))⟩:Sl Tie))))
 (P0 (w64 (iv1+(1:Int))) zgb))
theorem zIy (hX0:zIx K n l_a1 X0 P0 S0) (hs:zrg P0 n l_a1 iv1 zre zgb=true) (hk:K (e27 (zrf S0 n l_a1 iv1 zre zgb))) (zIz:zAs=zg enc_40 zgb):z27 K [1,1,0,1,0,0,1,0,0,1] [X0] ⟨[(1,zS zae 1 l_a1),(2,zp 2 0),(4,zp 4 0),(5,zp 5 0),(6,zI iv1),(20,zB zre)],[(2,.box 24 (zm (enc_24 n))),(4,.box 24 [zi (0:Int),.p (.nils)]),(5,.box 24 [zi n.Nodes,.vec 29]),(29,.vec 40 4 32 zgb.len zAs)],[]⟩:=by subst zIz;exact zaS (by kernel_rfl) (zc hs hk (λ hs hk=>(zaO hs λ hc hs=>And.intro hc (zaO hs λ hc hs=>And.intro hc (hX0 hs hk (zfy (enc:=enc_40) (f:=zgb.get) (h:=(λ _=>(n.Ties.get iv1.toNat))) rfl rfl))))) (λ hs hk=>(hX0 hs hk rfl)))
def ziI (n:Net) (l_a1:(Sl Int)) (S0:Int->(Sl Tie)->Net) (iv0:Int) (zeN:(Sl Tie)):Net :=
  (cond (decide (iv0 < (n.Ties.len : Int)))
 (zrf S0 n l_a1 iv0 (!(s60 l_a1 iv0)) zeN)
 (⟨n.Nodes,zeN⟩:Net))
def ziJ (n:Net) (l_a1:(Sl Int)) (P0:Int->(Sl Tie)->Bool) (iv0:Int) (zeN:(Sl Tie)):Bool :=
  (cond (decide (iv0 < (n.Ties.len : Int)))
 (decide ((p60 l_a1 iv0=true)) &&
 (zrg P0 n l_a1 iv0 (!(s60 l_a1 iv0)) zeN))
 true)
def zhj (n:Net) (l_a1:(Sl Int)):Nat->Int->(Sl Tie)->Net:=lpO (λ _ _=>default) (ziI n l_a1)
def zhk (n:Net) (l_a1:(Sl Int)):Nat->Int->(Sl Tie)->Bool:=lpO (λ _ _=>false) (ziJ n l_a1)
def zAt (n:Net) (l_a1:(Sl Int)) (iv0:Int) (zeN:(Sl Tie)):Net:=zhj n l_a1 Fuel iv0 zeN
def zAu (n:Net) (l_a1:(Sl Int)) (iv0:Int) (zeN:(Sl Tie)):Bool:=zhk n l_a1 Fuel iv0 zeN
theorem zIA (hs:zAu n l_a1 iv0 zeN=true) (hk:K (e27 (zAt n l_a1 iv0 zeN))) (zrh:zga=zg enc_40 zeN):z27 K [1,1,0,1,0] [] (zEZ n l_a1 iv0 zeN zga) :=
  zl (λ X=>z27 K [1,1,0,1,0,0] [X]) (by kernel_rfl) λ X0 hX =>
  (show ∀ k, zIx K n l_a1 X0 (zhk n l_a1 k) (zhj n l_a1 k) from zd0 _ _ (ziJ n l_a1) (ziI n l_a1) (zIx K n l_a1 X0)
 (by intro _ _ _ hs;exact absurd hs dqk)
 (by intro P0 S0 hX0 iv0 zeN zga hs hk zrh;subst zrh;exact hX _ (zaS (by kernel_rfl) (zc hs hk (λ hs hk=>(zaO hs λ hc hs=>And.intro (And.intro (zE zae 1 l_a1.get) hc) (zIy hX0 hs hk rfl))) (λ hs hk=>hk))))) _ hs hk zrh
def s27 (n:Net) (l_a1:(Sl Int)):Net :=
  (zAt n l_a1 (0:Int) (⟨0,(λ _=>default)⟩:Sl Tie))
def p27 (n:Net) (l_a1:(Sl Int)):Bool :=
  (zAu n l_a1 (0:Int) (⟨0,(λ _=>default)⟩:Sl Tie))
end
theorem q27 (n:Net) (l_a1:(Sl Int)) (K:List PA->Prop) (hs:p27 n l_a1=true) (hk:K (e27 (s27 n l_a1))):vcFun Tryd.prog G27 zIw 27 [.agg (enc_24 n),.one (.sl l_a1.len 1 (λ i=>zae (l_a1.get i)))] K :=
  zaS (by kernel_rfl) (zIA hs hk rfl)
def zDk : List PA → COut
  | [.agg [.int .i64 zaf,.sl zac zat zab],.one (.sl ze3 zlB zeY)]=>.det (IsE enc_40 4 zat zab/\IsE zae 1 zlB zeY/\p27 (⟨zaf,(⟨zac,zal zab⟩:(Sl Tie))⟩:Net) (⟨ze3,zaw zeY⟩:(Sl Int))=true) [.agg [.int .i64 ((s27 (⟨zaf,(⟨zac,zal zab⟩:(Sl Tie))⟩:Net) (⟨ze3,zaw zeY⟩:(Sl Int))).Nodes),.sl ((s27 (⟨zaf,(⟨zac,zal zab⟩:(Sl Tie))⟩:Net) (⟨ze3,zaw zeY⟩:(Sl Int))).Ties.len) 4 (λ i=>enc_40 ((s27 (⟨zaf,(⟨zac,zal zab⟩:(Sl Tie))⟩:Net) (⟨ze3,zaw zeY⟩:(Sl Int))).Ties.get i))]]
  | _=>.no
theorem zMj:zar Tryd.prog 27:=⟨_,rfl,rfl,by kernel_rfl⟩
theorem zPB:Ok Tryd.prog 27 zDk:=zbc zOI zMj λ args K h=>by
  unfold zDk at h
  split at h
  · rename_i zaf zac zat zab ze3 zlB zeY
    obtain⟨⟨⟨rfl,zan,rfl⟩,⟨rfl,zim,rfl⟩,hs⟩,hk⟩:=h
    try rw[zaj zan] at hs
    try rw[zaj zan] at hk
    try rw[zbx zim] at hs
    try rw[zbx zim] at hk
    exact⟨(λ _ _=>[]),(λ _=>false),zIw,q27 (⟨zaf,(⟨zac,zan⟩:(Sl Tie))⟩:Net) (⟨ze3,zim⟩:(Sl Int)) K hs hk⟩
  · exact h.elim
abbrev T77:Tabs:=Tabs.nil
theorem zOJ:TabsOk Tryd.prog T77:=TabsOk.nil
abbrev G77:Ctrs:=csm T77 (λ _ _=>[]) (λ _=>false)
def zIB:Ann:=⟨50,[(0,zK [1] [1]),(1,zK [1,3] [1]),(2,zK [1,3,4] [1]),(3,zK [1,3,4,10] [1,32]),(4,zK [1,3,4] [1,32]),(5,zK [1,3,4,5] [1,5,32]),(6,zK [1,3,4,5,20] [1,5,32]),(7,zK [1,3,4,5] [1,5,32]),(8,zK [1,3,4,5,35] [1,5,32]),(9,zK [1,3,4] [1,32]),(10,zK [2] [32])],
 [(3,⟨[1,3,4],[1,32],[(3,32,121,λ _=>zcA default)],[],[],[],[]⟩)],
 [(8,⟨[1,3,4,5],[1,5,32],[(3,32,121,λ _=>zcA default)],[],[],[],[]⟩)],
 [],[]⟩
abbrev R77:=(Sl Step)
abbrev e77 (r:R77):List PA:=[.one (.sl r.len 5 (λ i=>zcA (r.get i)))]
@[irreducible] def z77:=ptF Tryd.prog G77 zIB Tryd.f77
def zE0 (n:Net) (iv0:Int) (zc7:(Sl Step)) (zgc:Nat->List PV):St:=⟨[(1,zp 1 0),(3,zv 32),(4,zI iv0)],[(1,.box 24 (zm (enc_24 n))),(32,.vec 121 5 40 zc7.len zgc)],[]⟩
abbrev zIC (K:List PA->Prop) (n:Net) (X:St->Prop) (P:Int->(Sl Step)->Bool) (S:Int->(Sl Step)->(Sl Step)):Prop:=∀ ⦃iv0:Int⦄ ⦃zc7:(Sl Step)⦄ ⦃zgc:Nat->List PV⦄,P iv0 zc7=true->K (e77 (S iv0 zc7))->zgc=zg zcA zc7->X (zE0 n iv0 zc7 zgc)
section
variable {K:List PA->Prop}{n:Net}{iv0:Int}{zc7:(Sl Step)}{zgc:Nat->List PV}{X0:St->Prop}{P0:Int->(Sl Step)->Bool}{S0:Int->(Sl Step)->(Sl Step)}{iv1:Int}{zpq:Int}{zpr:Int}{zlG:Int}{zAv:Int}{zgd:(Sl Step)}{zAw:Nat->List PV}
def znH (S0:Int->(Sl Step)->(Sl Step)) (n:Net) (iv1:Int) (zpq:Int) (zpr:Int) (zlG:Int) (zAv:Int) (zgd:(Sl Step)):(Sl Step) :=
  (cond (zlG != (-1000000000000:Int))
 (S0 (w64 (iv1+(1:Int))) (⟨(zgd.len+1),(zdU zgd.len zgd.get (λ _=>(⟨zpr,zpq,(w64 (0 - zlG)),(⟨iv1,true⟩:Use)⟩:Step)))⟩:Sl Step))
 (S0 (w64 (iv1+(1:Int))) zgd))
def znI (P0:Int->(Sl Step)->Bool) (n:Net) (iv1:Int) (zpq:Int) (zpr:Int) (zlG:Int) (zAv:Int) (zgd:(Sl Step)):Bool :=
  (cond (zlG != (-1000000000000:Int))
 (decide (((zgd.len+1) * 40<=140737488355328/\zgd.len+1<=9223372036854775807)) &&
 (P0 (w64 (iv1+(1:Int))) (⟨(zgd.len+1),(zdU zgd.len zgd.get (λ _=>(⟨zpr,zpq,(w64 (0 - zlG)),(⟨iv1,true⟩:Use)⟩:Step)))⟩:Sl Step)))
 (P0 (w64 (iv1+(1:Int))) zgd))
theorem zAx (hX0:zIC K n X0 P0 S0) (hs:znI P0 n iv1 zpq zpr zlG zAv zgd=true) (hk:K (e77 (znH S0 n iv1 zpq zpr zlG zAv zgd))) (zID:zAw=zg zcA zgd):z77 K [1,1,0,1,0,0,1,0,0,1,1] [X0] ⟨[(1,zp 1 0),(3,zv 32),(4,zI iv1),(5,zp 5 0)],[(1,.box 24 (zm (enc_24 n))),(5,.box 40 (zm (enc_40 (⟨zpq,zpr,zlG,zAv⟩:Tie)))),(32,.vec 121 5 40 zgd.len zAw)],[]⟩:=by subst zID;exact zaS (by kernel_rfl) (zc hs hk (λ hs hk=>(zaO hs λ hc hs=>And.intro hc (hX0 hs hk (zfy (enc:=zcA) (f:=zgd.get) (h:=(λ _=>(⟨zpr,zpq,(w64 (0 - zlG)),(⟨iv1,true⟩:Use)⟩:Step))) rfl rfl)))) (λ hs hk=>(hX0 hs hk rfl)))
def ziK (n:Net) (S0:Int->(Sl Step)->(Sl Step)) (iv0:Int) (zc7:(Sl Step)):(Sl Step) :=
  (cond (decide (iv0 < (n.Ties.len : Int)))
 (cond ((n.Ties.get iv0.toNat).High != (1000000000000:Int))
 (znH S0 n iv0 ((n.Ties.get iv0.toNat).From) ((n.Ties.get iv0.toNat).To) ((n.Ties.get iv0.toNat).Low) ((n.Ties.get iv0.toNat).High) (⟨(zc7.len+1),(zdU zc7.len zc7.get (λ _=>(⟨(n.Ties.get iv0.toNat).From,(n.Ties.get iv0.toNat).To,(n.Ties.get iv0.toNat).High,(⟨iv0,false⟩:Use)⟩:Step)))⟩:Sl Step))
 (znH S0 n iv0 ((n.Ties.get iv0.toNat).From) ((n.Ties.get iv0.toNat).To) ((n.Ties.get iv0.toNat).Low) ((n.Ties.get iv0.toNat).High) zc7))
 zc7)
def ziL (n:Net) (P0:Int->(Sl Step)->Bool) (iv0:Int) (zc7:(Sl Step)):Bool :=
  (cond (decide (iv0 < (n.Ties.len : Int)))
 (decide ((0<=iv0/\iv0 < (n.Ties.len:Int))) &&
 (cond ((n.Ties.get iv0.toNat).High != (1000000000000:Int))
 (decide (((zc7.len+1) * 40<=140737488355328/\zc7.len+1<=9223372036854775807)) &&
 (znI P0 n iv0 ((n.Ties.get iv0.toNat).From) ((n.Ties.get iv0.toNat).To) ((n.Ties.get iv0.toNat).Low) ((n.Ties.get iv0.toNat).High) (⟨(zc7.len+1),(zdU zc7.len zc7.get (λ _=>(⟨(n.Ties.get iv0.toNat).From,(n.Ties.get iv0.toNat).To,(n.Ties.get iv0.toNat).High,(⟨iv0,false⟩:Use)⟩:Step)))⟩:Sl Step)))
 (znI P0 n iv0 ((n.Ties.get iv0.toNat).From) ((n.Ties.get iv0.toNat).To) ((n.Ties.get iv0.toNat).Low) ((n.Ties.get iv0.toNat).High) zc7)))
 true)
def zdL (n:Net):Nat->Int->(Sl Step)->(Sl Step):=lpO (λ _ _=>default) (ziK n)
def zdM (n:Net):Nat->Int->(Sl Step)->Bool:=lpO (λ _ _=>false) (ziL n)
def zAy (n:Net) (iv0:Int) (zc7:(Sl Step)):(Sl Step):=zdL n Fuel iv0 zc7
def zAz (n:Net) (iv0:Int) (zc7:(Sl Step)):Bool:=zdM n Fuel iv0 zc7
theorem zIE (hs:zAz n iv0 zc7=true) (hk:K (e77 (zAy n iv0 zc7))) (zrj:zgc=zg zcA zc7):z77 K [1,1,0,1,0] [] (zE0 n iv0 zc7 zgc) :=
  zl (λ X=>z77 K [1,1,0,1,0,0] [X]) (by kernel_rfl) λ X0 hX =>
  (show ∀ k, zIC K n X0 (zdM n k) (zdL n k) from zd0 _ _ (ziL n) (ziK n) (zIC K n X0)
 (by intro _ _ _ hs;exact absurd hs dqk)
 (by intro P0 S0 hX0 iv0 zc7 zgc hs hk zrj;subst zrj;exact hX _ (zaS (by kernel_rfl) (zc hs hk (λ hs hk=>(zaO hs λ hc hs=>And.intro hc (zc hs hk (λ hs hk=>(zaO hs λ hc hs=>And.intro hc (zAx hX0 hs hk (zfy (enc:=zcA) (f:=zc7.get) (h:=(λ _=>(⟨(n.Ties.get iv0.toNat).From,(n.Ties.get iv0.toNat).To,(n.Ties.get iv0.toNat).High,(⟨iv0,false⟩:Use)⟩:Step))) rfl rfl)))) (λ hs hk=>(zAx hX0 hs hk rfl))))) (λ hs hk=>hk))))) _ hs hk zrj
def s77 (n:Net):(Sl Step) :=
  (zAy n (0:Int) (⟨0,(λ _=>default)⟩:Sl Step))
def p77 (n:Net):Bool :=
  (zAz n (0:Int) (⟨0,(λ _=>default)⟩:Sl Step))
end
theorem q77 (n:Net) (K:List PA->Prop) (hs:p77 n=true) (hk:K (e77 (s77 n))):vcFun Tryd.prog G77 zIB 77 [.agg (enc_24 n)] K :=
  zaS (by kernel_rfl) (zIE hs hk rfl)
def zDl : List PA → COut
  | [.agg [.int .i64 zaf,.sl zac zat zab]]=>.det (IsE enc_40 4 zat zab/\p77 (⟨zaf,(⟨zac,zal zab⟩:(Sl Tie))⟩:Net)=true) [.one (.sl ((s77 (⟨zaf,(⟨zac,zal zab⟩:(Sl Tie))⟩:Net)).len) 5 (λ i=>zcA ((s77 (⟨zaf,(⟨zac,zal zab⟩:(Sl Tie))⟩:Net)).get i)))]
  | _=>.no
theorem zMk:zar Tryd.prog 77:=⟨_,rfl,rfl,by kernel_rfl⟩
theorem zPC:Ok Tryd.prog 77 zDl:=zbc zOJ zMk λ args K h=>by
  unfold zDl at h
  split at h
  · rename_i zaf zac zat zab
    obtain⟨⟨⟨rfl,zan,rfl⟩,hs⟩,hk⟩:=h
    try rw[zaj zan] at hs
    try rw[zaj zan] at hk
    exact⟨(λ _ _=>[]),(λ _=>false),zIB,q77 (⟨zaf,(⟨zac,zan⟩:(Sl Tie))⟩:Net) K hs hk⟩
  · exact h.elim
abbrev T31:Tabs:=(Tabs.nil.addF 77 zDl)
theorem zOK:TabsOk Tryd.prog T31:=(TabsOk.nil.addF zPC)
abbrev G31:Ctrs:=csm T31 (λ _ _=>[]) (λ _=>false)
def zIF:Ann:=⟨67,[(0,zK [1] [1]),(1,zK [1,3] [1]),(2,zK [1,3,4] [1,14]),(3,zK [1,3,4,5] [1,14]),(4,zK [1,3,4,5,6] [1,14]),(5,zK [1,3,4,5,6,21] [1]),(6,zK [1,3,4,5,6] [1,25]),(7,zK [1,3,4,5,6] [1]),(8,zK [1,3,4,5,6,7] [1,25]),(9,zK [1,3,4,5,6,7,8] [1,25]),(10,zK [1,3,4,5,6,7,8,29] [1,25]),(11,zK [1,3,4,5,6,7,8] [1,25]),(12,zK [1,3,4,5,6,7,8,9] [1,25]),(13,zK [1,3,4,5,6,7,8,9,55] [1,25]),(14,zK [1,3,4,5,6,7,8] [1,25]),(15,zK [1,3,4,5,6] [1,25]),(16,zK [2] [])],
 [(5,⟨[1,3,4,5,6],[1],[],[],[],[],[(4,1,λ _=>zae default)]⟩),(10,zK [1,3,4,5,6,7,8] [1,25])],
 [(2,zK [1,3] [1])],
 [],[]⟩
abbrev R31:=Bool
abbrev e31 (r:R31):List PA:=[.one (.bool r)]
@[irreducible] def z31:=ptF Tryd.prog G31 zIF Tryd.f31
def zE1 (n:Net) (lv0:(Sl Step)) (zct:(Sl Int)) (zaK:Bool) (rv1:Int) (zeD:Nat->List PV):St:=⟨[(1,zp 1 0),(3,zS zcA 5 lv0),(4,zP (.sl zct.len 1 zeD)),(5,zB zaK),(6,zI rv1)],[(1,.box 24 (zm (enc_24 n)))],[]⟩
abbrev zIG (K:List PA->Prop) (n:Net) (lv0:(Sl Step)) (X:St->Prop) (P:(Sl Int)->Bool->Int->Bool) (S:(Sl Int)->Bool->Int->Bool):Prop:=∀ ⦃zct:(Sl Int)⦄ ⦃zaK:Bool⦄ ⦃rv1:Int⦄ ⦃zeD:Nat->List PV⦄,P zct zaK rv1=true->K (e31 (S zct zaK rv1))->zeD=zg zae zct->X (zE1 n lv0 zct zaK rv1 zeD)
def zE2 (n:Net) (lv0:(Sl Step)) (zbZ:(Sl Int)) (zay:Bool) (rv2:Int) (iv2:Int) (zcP:(Sl Int)) (zeE:Nat->List PV) (zge:Nat->List PV):St:=⟨[(1,zp 1 0),(3,zS zcA 5 lv0),(4,zP (.sl zbZ.len 1 zeE)),(5,zB zay),(6,zI rv2),(7,zv 25),(8,zI iv2)],[(1,.box 24 (zm (enc_24 n))),(25,.vec 3 1 8 zcP.len zge)],[]⟩
abbrev zMl (K:List PA->Prop) (n:Net) (lv0:(Sl Step)) (X:St->Prop) (P:(Sl Int)->Bool->Int->Int->(Sl Int)->Bool) (S:(Sl Int)->Bool->Int->Int->(Sl Int)->Bool):Prop:=∀ ⦃zbZ:(Sl Int)⦄ ⦃zay:Bool⦄ ⦃rv2:Int⦄ ⦃iv2:Int⦄ ⦃zcP:(Sl Int)⦄ ⦃zeE:Nat->List PV⦄ ⦃zge:Nat->List PV⦄,P zbZ zay rv2 iv2 zcP=true->K (e31 (S zbZ zay rv2 iv2 zcP))->zeE=zg zae zbZ->zge=zg zae zcP->X (zE2 n lv0 zbZ zay rv2 iv2 zcP zeE zge)
section
variable {K:List PA->Prop}{n:Net}{lv0:(Sl Step)}{zAA:Nat->List PV}{zct:(Sl Int)}{zaK:Bool}{rv1:Int}{zeD:Nat->List PV}{X1:St->Prop}{P1:(Sl Int)->Bool->Int->Bool}{S1:(Sl Int)->Bool->Int->Bool}{zbZ:(Sl Int)}{zay:Bool}{rv2:Int}{iv2:Int}{zcP:(Sl Int)}{zeE:Nat->List PV}{zge:Nat->List PV}{X2:St->Prop}{P2:(Sl Int)->Bool->Int->Int->(Sl Int)->Bool}{S2:(Sl Int)->Bool->Int->Int->(Sl Int)->Bool}
def ziM (S1:(Sl Int)->Bool->Int->Bool) (n:Net) (lv0:(Sl Step)) (S2:(Sl Int)->Bool->Int->Int->(Sl Int)->Bool) (zbZ:(Sl Int)) (zay:Bool) (rv2:Int) (iv2:Int) (zcP:(Sl Int)):Bool :=
  (cond (decide (iv2 < (lv0.len : Int)))
 (cond (decide ((w64 ((zbZ.get (((lv0.get iv2.toNat).From).toNat)) + (lv0.get iv2.toNat).Length)) < (zcP.get (((lv0.get iv2.toNat).To).toNat))))
 (S2 zbZ true rv2 (w64 (iv2+(1:Int))) (⟨zcP.len,(setT (((lv0.get iv2.toNat).To).toNat) (w64 ((zbZ.get (((lv0.get iv2.toNat).From).toNat))+(lv0.get iv2.toNat).Length)) zcP.get)⟩:Sl Int))
 (S2 zbZ zay rv2 (w64 (iv2+(1:Int))) zcP))
 (S1 zcP zay (w64 (rv2+(1:Int)))))
def ziN (P1:(Sl Int)->Bool->Int->Bool) (n:Net) (lv0:(Sl Step)) (P2:(Sl Int)->Bool->Int->Int->(Sl Int)->Bool) (zbZ:(Sl Int)) (zay:Bool) (rv2:Int) (iv2:Int) (zcP:(Sl Int)):Bool :=
  (cond (decide (iv2 < (lv0.len : Int)))
 (decide ((0<=iv2/\iv2 < (lv0.len:Int))) &&
 (decide ((0<=(lv0.get iv2.toNat).From/\(lv0.get iv2.toNat).From < (zbZ.len:Int))) &&
 (decide ((0<=iv2/\iv2 < (lv0.len:Int))) &&
 (decide ((0<=iv2/\iv2 < (lv0.len:Int))) &&
 (decide ((0<=(lv0.get iv2.toNat).To/\(lv0.get iv2.toNat).To < (zcP.len:Int))) &&
 (decide ((((lv0.get iv2.toNat).To).toNat < zcP.len)) &&
 (cond (decide ((w64 ((zbZ.get (((lv0.get iv2.toNat).From).toNat)) + (lv0.get iv2.toNat).Length)) < (zcP.get (((lv0.get iv2.toNat).To).toNat))))
 (decide ((0<=iv2/\iv2 < (lv0.len:Int))) &&
 (decide ((0<=(lv0.get iv2.toNat).To/\(lv0.get iv2.toNat).To < (zcP.len:Int))) &&
 (decide ((((lv0.get iv2.toNat).To).toNat < zcP.len)) &&
 (P2 zbZ true rv2 (w64 (iv2+(1:Int))) (⟨zcP.len,(setT (((lv0.get iv2.toNat).To).toNat) (w64 ((zbZ.get (((lv0.get iv2.toNat).From).toNat))+(lv0.get iv2.toNat).Length)) zcP.get)⟩:Sl Int)))))
 (P2 zbZ zay rv2 (w64 (iv2+(1:Int))) zcP))))))))
 (P1 zcP zay (w64 (rv2+(1:Int)))))
def zfq (S1:(Sl Int)->Bool->Int->Bool) (n:Net) (lv0:(Sl Step)):Nat->(Sl Int)->Bool->Int->Int->(Sl Int)->Bool:=lpO (λ _ _ _ _ _=>default) (ziM S1 n lv0)
def zfr (P1:(Sl Int)->Bool->Int->Bool) (n:Net) (lv0:(Sl Step)):Nat->(Sl Int)->Bool->Int->Int->(Sl Int)->Bool:=lpO (λ _ _ _ _ _=>false) (ziN P1 n lv0)
def zAB (S1:(Sl Int)->Bool->Int->Bool) (n:Net) (lv0:(Sl Step)) (zbZ:(Sl Int)) (zay:Bool) (rv2:Int) (iv2:Int) (zcP:(Sl Int)):Bool:=zfq S1 n lv0 Fuel zbZ zay rv2 iv2 zcP
def zAC (P1:(Sl Int)->Bool->Int->Bool) (n:Net) (lv0:(Sl Step)) (zbZ:(Sl Int)) (zay:Bool) (rv2:Int) (iv2:Int) (zcP:(Sl Int)):Bool:=zfr P1 n lv0 Fuel zbZ zay rv2 iv2 zcP
theorem zIH (hX1:zIG K n lv0 X1 P1 S1) (hs:zAC P1 n lv0 zbZ zay rv2 iv2 zcP=true) (hk:K (e31 (zAB S1 n lv0 zbZ zay rv2 iv2 zcP))) (znJ:zeE=zg zae zbZ) (zrk:zge=zg zae zcP):z31 K [1,1,1,1,0,1,0,0,1,0,0,1,1,0,1,0] [X1] (zE2 n lv0 zbZ zay rv2 iv2 zcP zeE zge) :=
  zl (λ X=>z31 K [1,1,1,1,0,1,0,0,1,0,0,1,1,0,1,0,0] [X1,X]) (by kernel_rfl) λ X2 hX =>
  (show ∀ k, zMl K n lv0 X2 (zfr P1 n lv0 k) (zfq S1 n lv0 k) from zd0 _ _ (ziN P1 n lv0) (ziM S1 n lv0) (zMl K n lv0 X2)
 (by intro _ _ _ _ _ _ _ hs;exact absurd hs dqk)
 (by intro P2 S2 hX2 zbZ zay rv2 iv2 zcP zeE zge hs hk znJ zrk;subst znJ;subst zrk;exact hX _ (zaS (by kernel_rfl) (zc hs hk (λ hs hk=>(zaO hs λ hc hs=>And.intro hc (zaO hs λ hc hs=>And.intro hc (zaO hs λ hc hs=>And.intro hc (zaO hs λ hc hs=>And.intro hc (zaO hs λ hc hs=>And.intro hc (zaO hs λ hc hs=>And.intro hc (zc hs hk (λ hs hk=>(zaO hs λ hc hs=>And.intro hc (zaO hs λ hc hs=>And.intro hc (zaO hs λ hc hs=>And.intro hc (hX2 hs hk rfl (zfz (enc:=zae) (i:=((lv0.get iv2.toNat).To).toNat) (k:=0) (f:=zcP.get) (new:=(zae (w64 ((zbZ.get (((lv0.get iv2.toNat).From).toNat))+(lv0.get iv2.toNat).Length)))) (v:=(w64 ((zbZ.get (((lv0.get iv2.toNat).From).toNat))+(lv0.get iv2.toNat).Length))) rfl rfl)))))) (λ hs hk=>(hX2 hs hk rfl rfl)))))))))) (λ hs hk=>(hX1 hs hk rfl)))))) _ hs hk znJ zrk
def zgf (n:Net) (lv0:(Sl Step)) (S1:(Sl Int)->Bool->Int->Bool) (zct:(Sl Int)) (zaK:Bool) (rv1:Int):Bool :=
  (cond (decide (rv1 < n.Nodes))
 (cond zaK
 (zAB S1 n lv0 zct false rv1 (0:Int) zct)
 (!zaK))
 (!zaK))
def zgg (n:Net) (lv0:(Sl Step)) (P1:(Sl Int)->Bool->Int->Bool) (zct:(Sl Int)) (zaK:Bool) (rv1:Int):Bool :=
  (cond (decide (rv1 < n.Nodes))
 (cond zaK
 (decide ((zct.len * 8<=140737488355328/\zct.len<=9223372036854775807)) &&
 (zAC P1 n lv0 zct false rv1 (0:Int) zct))
 true)
 true)
def zhl (n:Net) (lv0:(Sl Step)):Nat->(Sl Int)->Bool->Int->Bool:=lpO (λ _ _ _=>default) (zgf n lv0)
def zhm (n:Net) (lv0:(Sl Step)):Nat->(Sl Int)->Bool->Int->Bool:=lpO (λ _ _ _=>false) (zgg n lv0)
def zAD (n:Net) (lv0:(Sl Step)) (zct:(Sl Int)) (zaK:Bool) (rv1:Int):Bool:=zhl n lv0 Fuel zct zaK rv1
def zAE (n:Net) (lv0:(Sl Step)) (zct:(Sl Int)) (zaK:Bool) (rv1:Int):Bool:=zhm n lv0 Fuel zct zaK rv1
theorem zII (hs:zAE n lv0 zct zaK rv1=true) (hk:K (e31 (zAD n lv0 zct zaK rv1))) (znK:zeD=zg zae zct):z31 K [1,1,1,1,0,1,0] [] (zE1 n lv0 zct zaK rv1 zeD) :=
  zl (λ X=>z31 K [1,1,1,1,0,1,0,0] [X]) (by kernel_rfl) λ X1 hX =>
  (show ∀ k, zIG K n lv0 X1 (zhm n lv0 k) (zhl n lv0 k) from zd0 _ _ (zgg n lv0) (zgf n lv0) (zIG K n lv0 X1)
 (by intro _ _ _ _ hs;exact absurd hs dqk)
 (by intro P1 S1 hX1 zct zaK rv1 zeD hs hk znK;subst znK;exact hX _ (zaS (by kernel_rfl) (zc hs hk (λ hs hk=>(zc hs hk (λ hs hk=>(zaO hs λ hc hs=>And.intro hc (zIH hX1 hs hk rfl rfl))) (λ hs hk=>hk))) (λ hs hk=>hk))))) _ hs hk znK
def zAF (n:Net) (lv0:(Sl Step)):Bool :=
  (zAD n lv0 (⟨n.Nodes.toNat,(λ _=>(0:Int))⟩:Sl Int) true (0:Int))
def zrl (n:Net) (lv0:(Sl Step)):Bool :=
  (decide ((0<=n.Nodes/\n.Nodes=n.Nodes/\n.Nodes<=1000000)) &&
 (zAE n lv0 (⟨n.Nodes.toNat,(λ _=>(0:Int))⟩:Sl Int) true (0:Int)))
theorem zIJ (hs:zrl n lv0=true) (hk:K (e31 (zAF n lv0))) (zIK:zAA=zg zcA lv0):z31 K [1,1] [] ⟨[(1,zp 1 0),(3,zP (.sl lv0.len 5 zAA))],[(1,.box 24 (zm (enc_24 n)))],[]⟩:=by subst zIK;exact zaS (by kernel_rfl) (zaO hs λ hc hs=>And.intro hc (zII hs hk rfl))
def s31 (n:Net):Bool :=
  (zAF n (s77 n))
def p31 (n:Net):Bool :=
  (decide ((p77 n=true)) &&
 (zrl n (s77 n)))
end
theorem q31 (n:Net) (K:List PA->Prop) (hs:p31 n=true) (hk:K (e31 (s31 n))):vcFun Tryd.prog G31 zIF 31 [.agg (enc_24 n)] K :=
  zaS (by kernel_rfl) (zaO hs λ hc hs=>And.intro (And.intro (zE enc_40 4 n.Ties.get) hc) (zIJ hs hk rfl))
def zIL : List PA → COut
  | [.agg [.int .i64 zaf,.sl zac zat zab]]=>.det (IsE enc_40 4 zat zab/\p31 (⟨zaf,(⟨zac,zal zab⟩:(Sl Tie))⟩:Net)=true) [.one (.bool (s31 (⟨zaf,(⟨zac,zal zab⟩:(Sl Tie))⟩:Net)))]
  | _=>.no
theorem zMm:zar Tryd.prog 31:=⟨_,rfl,rfl,by kernel_rfl⟩
theorem zQI:Ok Tryd.prog 31 zIL:=zbc zOK zMm λ args K h=>by
  unfold zIL at h
  split at h
  · rename_i zaf zac zat zab
    obtain⟨⟨⟨rfl,zan,rfl⟩,hs⟩,hk⟩:=h
    try rw[zaj zan] at hs
    try rw[zaj zan] at hk
    exact⟨(λ _ _=>[]),(λ _=>false),zIF,q31 (⟨zaf,(⟨zac,zan⟩:(Sl Tie))⟩:Net) K hs hk⟩
  · exact h.elim
abbrev T79:Tabs:=(Tabs.nil.addF 76 zuW)
theorem zOL:TabsOk Tryd.prog T79:=(TabsOk.nil.addF zNj)
abbrev G79:Ctrs:=csm T79 (λ _ _=>[]) (λ _=>false)
def zMn:Ann:=⟨40,[(0,zK [0,3] [3]),(1,zK [4] [])],
 [],
 [],
 [],[]⟩
abbrev R79:=Bool
abbrev e79 (r:R79):List PA:=[.one (.bool r)]
section
variable {K:List PA->Prop}{w:web}{t:Tie}
def s79 (w:web) (t:Tie):Bool :=
  (cond (t.High == (1000000000000:Int))
 (cond (t.Low == (-1000000000000:Int))
 true
 (decide ((tg 80 (s76 w t.To) (0+t.From.toNat * 2+0))<=(w64 (0 - t.Low)))))
 (cond (decide ((tg 80 (s76 w t.From) (0 + t.To.toNat * 2 + 0)) <= t.High))
 (cond (t.Low == (-1000000000000:Int))
 true
 (decide ((tg 80 (s76 w t.To) (0+t.From.toNat * 2+0))<=(w64 (0 - t.Low)))))
 false))
def p79 (w:web) (t:Tie):Bool :=
  (cond (t.High == (1000000000000:Int))
 (cond (t.Low == (-1000000000000:Int))
 true
 (decide ((p76 w t.To=true)) &&
 (decide ((0<=t.From/\t.From < (40:Int))) &&
 true)))
 (decide ((p76 w t.From=true)) &&
 (decide ((0<=t.To/\t.To < (40:Int))) &&
 (cond (decide ((tg 80 (s76 w t.From) (0 + t.To.toNat * 2 + 0)) <= t.High))
 (cond (t.Low == (-1000000000000:Int))
 true
 (decide ((p76 w t.To=true)) &&
 (decide ((0<=t.From/\t.From < (40:Int))) &&
 true)))
 true))))
end
theorem q79 (w:web) (t:Tie) (K:List PA->Prop) (hs:p79 w t=true) (hk:K (e79 (s79 w t))):vcFun Tryd.prog G79 zMn 79 [.one (.fp (zaC w) 0),.agg (enc_40 t)] K :=
  zaS (by kernel_rfl) (zc hs hk (λ hs hk=>(zc hs hk (λ hs hk=>hk) (λ hs hk=>(zaO hs λ hc hs=>And.intro (And.intro (zE enc_40 4 w.Net.Ties.get) (And.intro (rfl:((false,1,false,[none]):MQ)=(false,1,false,[none])) hc)) (zaO hs λ hc hs=>And.intro hc hk))))) (λ hs hk=>(zaO hs λ hc hs=>And.intro (And.intro (zE enc_40 4 w.Net.Ties.get) (And.intro (rfl:((false,1,false,[none]):MQ)=(false,1,false,[none])) hc)) (zaO hs λ hc hs=>And.intro hc (zc hs hk (λ hs hk=>(zc hs hk (λ hs hk=>hk) (λ hs hk=>(zaO hs λ hc hs=>And.intro (And.intro (zE enc_40 4 w.Net.Ties.get) (And.intro (rfl:((false,1,false,[none]):MQ)=(false,1,false,[none])) hc)) (zaO hs λ hc hs=>And.intro hc hk))))) (λ hs hk=>hk))))))
def zDm : List PA → COut
  | [.one (.fp [.int .i64 zam,.sl zah zaA zai,.fm za3 zaD zaE] 0),.agg [.int .i64 zbF,.int .i64 zdE,.int .i64 zcg,.int .i64 zbG]]=>.det (IsE enc_40 4 zaA zai/\za3=(false,1,false,[none])/\p79 (⟨(⟨zam,(⟨zah,zal zai⟩:(Sl Tie))⟩:Net),(⟨zaD,zaE⟩:Mp)⟩:web) (⟨zbF,zdE,zcg,zbG⟩:Tie)=true) [.one (.bool (s79 (⟨(⟨zam,(⟨zah,zal zai⟩:(Sl Tie))⟩:Net),(⟨zaD,zaE⟩:Mp)⟩:web) (⟨zbF,zdE,zcg,zbG⟩:Tie)))]
  | _=>.no
theorem zMo:zar Tryd.prog 79:=⟨_,rfl,rfl,by kernel_rfl⟩
theorem zPD:Ok Tryd.prog 79 zDm:=zbc zOL zMo λ args K h=>by
  unfold zDm at h
  split at h
  · rename_i zam zah zaA zai za3 zaD zaE zbF zdE zcg zbG
    obtain⟨⟨⟨rfl,zas,rfl⟩,rfl,hs⟩,hk⟩:=h
    try rw[zaj zas] at hs
    try rw[zaj zas] at hk
    exact⟨(λ _ _=>[]),(λ _=>false),zMn,q79 (⟨(⟨zam,(⟨zah,zas⟩:(Sl Tie))⟩:Net),(⟨zaD,zaE⟩:Mp)⟩:web) (⟨zbF,zdE,zcg,zbG⟩:Tie) K hs hk⟩
  · exact h.elim
abbrev T35:Tabs:=((((Tabs.nil.addF 67 zuO).addF 74 zuV).addF 78 zCM).addF 79 zDm)
theorem zOM:TabsOk Tryd.prog T35:=((((TabsOk.nil.addF zNc).addF zNi).addF zPf).addF zPD)
abbrev G35:Ctrs:=csm T35 (λ _ _=>[]) (λ _=>false)
def zIM:Ann:=⟨29,[(0,zK [2,3] [2,3]),(1,zK [2,3,17] [2,3]),(2,zK [4,5] []),(3,zK [3,6,7] [3]),(4,zK [3,6,7,24] [3]),(5,zK [4,5] []),(6,zK [4,5] [])],
 [],
 [(3,zK [2,3] [2,3])],
 [],[]⟩
abbrev R35:=(Bool×Int)
abbrev e35 (r:R35):List PA:=[.one (.bool r.1),.one (.int .i64 r.2)]
@[irreducible] def z35:=ptF Tryd.prog G35 zIM Tryd.f35
section
variable {K:List PA->Prop}{n:Net}{t:Tie}
def zrm (n:Net) (t:Tie):(Bool×Int) :=
  (cond ((s74 n (⟨0, λ _ => default⟩ : (Sl Int))).2 == 0)
 (cond ((0:Int) != (0:Int))
 (false,(0:Int))
 ((s79 (⟨(s74 n (⟨0,λ _=>default⟩:(Sl Int))).1.Net,((s74 n (⟨0,λ _=>default⟩:(Sl Int))).1.out)⟩:web) t),(0:Int)))
 (cond ((s74 n (⟨0, λ _ => default⟩ : (Sl Int))).2 != (0:Int))
 (false,(s74 n (⟨0,λ _=>default⟩:(Sl Int))).2)
 default))
def zrn (n:Net) (t:Tie):Bool :=
  (cond ((s74 n (⟨0, λ _ => default⟩ : (Sl Int))).2 == 0)
 (decide ((p74 n (⟨0,λ _=>default⟩:(Sl Int))=true)) &&
 (cond ((0:Int) != (0:Int))
 true
 (decide ((p79 (⟨(s74 n (⟨0,λ _=>default⟩:(Sl Int))).1.Net,((s74 n (⟨0,λ _=>default⟩:(Sl Int))).1.out)⟩:web) t=true)) &&
 true)))
 (decide ((p74 n (⟨0,λ _=>default⟩:(Sl Int))=true)) &&
 (cond ((s74 n (⟨0, λ _ => default⟩ : (Sl Int))).2 != (0:Int))
 true
 false)))
theorem zIN (hs:zrn n t=true) (hk:K (e35 (zrm n t))):z35 K [1,1] [] ⟨[(2,zp 2 0),(3,zp 3 0)],[(2,.box 24 (zm (enc_24 n))),(3,.box 40 (zm (enc_40 t)))],[]⟩:=zaS (by kernel_rfl) (zc hs hk (λ hs hk=>(zaO hs λ hc hs=>And.intro (And.intro (zE enc_40 4 n.Ties.get) hc) (zc hs hk (λ hs hk=>hk) (λ hs hk=>(zaO hs λ hc hs=>And.intro (And.intro (zE enc_40 4 ((s74 n (⟨0,λ _=>default⟩:(Sl Int))).1.Net.Ties.get)) (And.intro (rfl:((false,1,false,[none]):MQ)=(false,1,false,[none])) hc)) hk))))) (λ hs hk=>(zaO hs λ hc hs=>And.intro (And.intro (zE enc_40 4 n.Ties.get) hc) (zc hs hk (λ hs hk=>hk) (λ hs hk=>(absurd hs dqk:False))))))
def s35 (n:Net) (t:Tie):(Bool×Int) :=
  (cond (!(s67 n))
 (false,(2:Int))
 (cond (!(s78 t n.Nodes))
 (false,(2:Int))
 (zrm n t)))
def p35 (n:Net) (t:Tie):Bool :=
  (decide ((p67 n=true)) &&
 (cond (!(s67 n))
 true
 (cond (!(s78 t n.Nodes))
 true
 (zrn n t))))
end
theorem q35 (n:Net) (t:Tie) (K:List PA->Prop) (hs:p35 n t=true) (hk:K (e35 (s35 n t))):vcFun Tryd.prog G35 zIM 35 [.agg (enc_24 n),.agg (enc_40 t)] K :=
  zaS (by kernel_rfl) (zaO hs λ hc hs=>And.intro (And.intro (zE enc_40 4 n.Ties.get) hc) (zc hs hk (λ hs hk=>hk) (λ hs hk=>(zc hs hk (λ hs hk=>hk) (λ hs hk=>(zIN hs hk))))))
def zIO : List PA → COut
  | [.agg [.int .i64 zaf,.sl zac zat zab],.agg [.int .i64 zbF,.int .i64 zdE,.int .i64 zcg,.int .i64 zbG]]=>.det (IsE enc_40 4 zat zab/\p35 (⟨zaf,(⟨zac,zal zab⟩:(Sl Tie))⟩:Net) (⟨zbF,zdE,zcg,zbG⟩:Tie)=true) [.one (.bool ((s35 (⟨zaf,(⟨zac,zal zab⟩:(Sl Tie))⟩:Net) (⟨zbF,zdE,zcg,zbG⟩:Tie)).1)),.one (.int .i64 ((s35 (⟨zaf,(⟨zac,zal zab⟩:(Sl Tie))⟩:Net) (⟨zbF,zdE,zcg,zbG⟩:Tie)).2))]
  | _=>.no
theorem zMp:zar Tryd.prog 35:=⟨_,rfl,rfl,by kernel_rfl⟩
theorem zQJ:Ok Tryd.prog 35 zIO:=zbc zOM zMp λ args K h=>by
  unfold zIO at h
  split at h
  · rename_i zaf zac zat zab zbF zdE zcg zbG
    obtain⟨⟨⟨rfl,zan,rfl⟩,hs⟩,hk⟩:=h
    try rw[zaj zan] at hs
    try rw[zaj zan] at hk
    exact⟨(λ _ _=>[]),(λ _=>false),zIM,q35 (⟨zaf,(⟨zac,zan⟩:(Sl Tie))⟩:Net) (⟨zbF,zdE,zcg,zbG⟩:Tie) K hs hk⟩
  · exact h.elim
abbrev T96:Tabs:=Tabs.nil
theorem zON:TabsOk Tryd.prog T96:=TabsOk.nil
abbrev G96:Ctrs:=csm T96 (λ _ _=>[]) (λ _=>false)
def zIP:Ann:=⟨4,[(0,zK [1] [1]),(1,zK [2] [])],
 [],
 [],
 [],[]⟩
theorem zIQ (s : (Sl Tie)) (K : List PA → Prop) :
  vcFun Tryd.prog G96 zIP 96 [.one (.sl s.len 4 (λ i=>enc_40 (s.get i)))] K =
  (K [.one (.fn 111 [] [.fp (zEj s) 0])]):=by kernel_rfl
theorem q96 (s:(Sl Tie)) (K:List PA->Prop) (hk:K [.one (.fn 111 [] [.fp [.sl s.len 4 (λ i=>enc_40 (s.get i))] 0])]):vcFun Tryd.prog G96 zIP 96 [.one (.sl s.len 4 (λ i=>enc_40 (s.get i)))] K:=zaS (zIQ s K) hk
def zIR : List PA → COut
  | [.one (.sl zeh zje zei)]=>.det (IsE enc_40 4 zje zei) [.one (.fn 111 [] [.fp [.sl ((⟨zeh,zal zei⟩:(Sl Tie)).len) 4 (λ i=>enc_40 ((⟨zeh,zal zei⟩:(Sl Tie)).get i))] 0])]
  | _=>.no
theorem zMq:zar Tryd.prog 96:=⟨_,rfl,rfl,by kernel_rfl⟩
theorem zQK:Ok Tryd.prog 96 zIR:=zbc zON zMq λ args K h=>by
  unfold zIR at h
  split at h
  · rename_i zeh zje zei
    obtain⟨⟨rfl,zgz,rfl⟩,hk⟩:=h
    try rw[zaj zgz] at hk
    exact⟨λ _ _=>[],λ _=>false,zIP,q96 (⟨zeh,zgz⟩:(Sl Tie)) K hk⟩
  · exact h.elim
abbrev zPE:Tabs:=Tabs.nil
theorem zMr:TabsOk Tryd.prog zPE:=TabsOk.nil
abbrev zMs:Ctrs:=csm zPE (λ _ _=>[]) (λ _=>false)
def zjo:Ann:=⟨19,[(0,zK [0,1,3] []),(1,zK [0,1,3,8] []),(2,zK [0,1,3] []),(3,zK [0,1,3,18] [])],
 [(1,zK [0,1,3] [])],
 [],
 [],[3]⟩
def zhn (l:Nat) (a:(Sl Tie)) (iv0:Int):St:=⟨[(0,.one (.c (.p (.yl l)))),(1,.one (.c (.p (.fp [.sl a.len 4 (λ i=>enc_40 (a.get i))] 0)))),(3,.one (.c (.p (.int .i64 iv0))))],[],[]⟩
def zhZ (l:Nat) (ys:List (List PA)) (a:(Sl Tie)) (iv0:Int):Prop:=vcY Tryd.prog zMs zjo l (cdF Tryd.f111 [1,0]) (zi7 0 zpO) ys false (zhn l a iv0)
theorem zDn (l : Nat) (a : (Sl Tie)) (ys : List (List PA)) :
  vcIter Tryd.prog zMs zjo 111 l [.one (.fp [.sl a.len 4 (λ i=>enc_40 (a.get i))] 0)] ys =
  (zhZ l ys a (w64 ((a.len:Int) - (1:Int)))):=by kernel_rfl
def zmh (l:Nat) (X0:List (List PA)->Bool->St->Prop) (ys:List (List PA)) (a:(Sl Tie)) (iv0:Int):Prop :=
  (zdw (decide (iv0 >= (0:Int)))
 (((0<=iv0/\iv0 < (a.len:Int))) /\
 (l=l/\∃ r1,ys=[.one (.int .i64 iv0),.agg [.int .i64 ((a.get iv0.toNat).From),.int .i64 ((a.get iv0.toNat).To),.int .i64 ((a.get iv0.toNat).Low),.int .i64 ((a.get iv0.toNat).High)]] :: r1 /\
 (X0 r1 false (zhn l a (w64 (iv0 - (1:Int)))))/\True))
 (ys=[]))
theorem zps (l : Nat) (X0 : List (List PA) → Bool → St → Prop) (ys : List (List PA)) (a : (Sl Tie)) (iv0 : Int) :
  vcY Tryd.prog zMs zjo l (cd (cdF Tryd.f111 [1,0]) [0]) (zuo Tryd.prog zjo 1 X0 (zi7 0 zpO)) ys false (zhn l a iv0) =
  zmh l X0 ys a iv0:=by kernel_rfl
theorem zuX (l : Nat) (ys : List (List PA)) (a : (Sl Tie)) (iv0 : Int)
  (h:∀ X0:List (List PA)->Bool->St->Prop,(∀ (ys:List (List PA)) (iv0:Int),zmh l X0 ys a iv0->X0 ys false (zhn l a iv0))->X0 ys false (zhn l a iv0)) :
  zhZ l ys a iv0:=by
  have e:zhZ l ys a iv0=(∀ X:List (List PA)->Bool->St->Prop,(∀ ys q s,vcY Tryd.prog zMs zjo l (cd (cdF Tryd.f111 [1,0]) [0]) (zuo Tryd.prog zjo 1 X (zi7 0 zpO)) ys q s->X ys q s)->X ys false (zhn l a iv0)):=by kernel_rfl
  refine zaS e ?_
  intro X hX
  refine h X ?_
  intro ys iv0 hs
  refine hX _ _ _ ?_
  have e2:=zps l X ys a iv0
  rw[e2]
  exact hs
attribute [irreducible] zhZ
def zfs (a:(Sl Tie)) (S0:Int->List (Int×Tie)) (iv0:Int):List (Int×Tie) :=
  (cond (decide (iv0 >= (0:Int)))
 ((iv0,(a.get iv0.toNat)) :: (S0 (w64 (iv0 - (1:Int)))))
 [])
def zft (a:(Sl Tie)) (P0:Int->Bool) (iv0:Int):Bool :=
  (cond (decide (iv0 >= (0:Int)))
 (decide ((0<=iv0/\iv0 < (a.len:Int))) &&
 (P0 (w64 (iv0 - (1:Int)))))
 true)
def zeF (a : (Sl Tie)) : Nat → Int → List (Int × Tie)
  | 0=>λ _=>[]
  | k+1=>zfs a (zeF a k)
def zeG (a : (Sl Tie)) : Nat → Int → Bool
  | 0=>λ _=>false
  | k+1=>zft a (zeG a k)
def ztT (a:(Sl Tie)) (iv0:Int):List (Int×Tie):=zeF a Fuel iv0
def ztU (a:(Sl Tie)) (iv0:Int):Bool:=zeG a Fuel iv0
theorem zDo (l:Nat) (a:(Sl Tie)) (ys:List (List PA)) (iv0:Int) (hs:ztU a iv0=true) (hk:ys=(ztT a iv0).map (λ y=>[.one (.int .i64 y.1),.agg (enc_40 y.2)])):zhZ l ys a iv0:=by
  refine zuX l ys a iv0 ?_
  intro X0 hstep
  have key:∀ (k:Nat) (ys:List (List PA)) (iv0:Int),zeG a k iv0=true->ys=(zeF a k iv0).map (λ y=>[.one (.int .i64 y.1),.agg (enc_40 y.2)])->X0 ys false (zhn l a iv0):=by
    intro k
    induction k with
    | zero=>intro ys iv0 hs;exact absurd hs dqk
    | succ k ih =>
      intro ys iv0 hs hk
      refine hstep ys iv0 ?_
      have hs:zft a (zeG a k) iv0=true:=hs
      have hk:ys=(zfs a (zeF a k) iv0).map (λ y=>[.one (.int .i64 y.1),.agg (enc_40 y.2)]):=hk
      unfold zft at hs
      unfold zfs at hk
      generalize zeF a k=S0 at hk ih
      generalize zeG a k=P0 at hs ih
      have hX0:=ih
      exact (zgx hs hk
 (λ hs hk=>(zaO hs λ hc hs=>⟨hc,(itY hk rfl (λ _ hk=>(hX0 _ (w64 (iv0 - (1:Int))) hs hk)))⟩))
 (fun hs hk=>hk))
  exact key _ _ iv0 hs hk
def zIS (a:(Sl Tie)):List (Int×Tie) :=
  (ztT a (w64 ((a.len:Int) - (1:Int))))
def zMt (a:(Sl Tie)):Bool :=
  (ztU a (w64 ((a.len:Int) - (1:Int))))
theorem zQL (l:Nat) (a:(Sl Tie)) (ys:List (List PA)) (hs:zMt a=true) (hk:ys=(zIS a).map (λ y=>[.one (.int .i64 y.1),.agg (enc_40 y.2)])):vcIter Tryd.prog zMs zjo 111 l [.one (.fp [.sl a.len 4 (λ i=>enc_40 (a.get i))] 0)] ys:=by
  refine zaS (zDn l a ys) ?_
  unfold zMt at hs
  unfold zIS at hk
  exact (zDo l a _ (w64 ((a.len:Int) - (1:Int))) hs hk)
def zIT : List PA → Option (Prop × List (List PA))
  | [.one (.fp [.sl a_n a_s a_g] 0)]=>some (IsE enc_40 4 a_s a_g/\zMt (⟨a_n,zal a_g⟩:(Sl Tie))=true,(zIS (⟨a_n,zal a_g⟩:(Sl Tie))).map λ y=>[.one (.int .i64 y.1),.agg (enc_40 y.2)])
  | _=>none
theorem zIU:zar Tryd.prog 111:=⟨_,rfl,rfl,by kernel_rfl⟩
theorem zOO:zBX Tryd.prog 111 zIT:=zEi zMr zIU λ l caps safe ys h hs=>by
  unfold zIT at h
  split at h
  · rename_i a_n a_s a_g
    cases h
    obtain⟨⟨rfl,a_f,rfl⟩,hs⟩:=hs
    try rw[zaj a_f] at hs
    try rw[zaj a_f]
    exact⟨λ _ _=>[],λ _=>false,zjo,zQL l (⟨a_n,a_f⟩:(Sl Tie)) _ hs rfl⟩
  · cases h
def zAG:Ann:=⟨31,[(0,zK [1,2] [2]),(1,zK [1,2,6] [2,11]),(2,zK [1,2,6,14] [2,11]),(3,zK [4,5] [11]),(4,zK [2,6,15,16,17] [2,11]),(5,zK [2,6,15,16,17,18] [2,11]),(6,zK [2,6,8,15,16,17] [2,11]),(7,zK [2,6,15,16,17,26] [2,11]),(8,zK [4,5] [11]),(9,zK [2,6,15,16,17] [2,11]),(10,zK [6,29] [11]),(11,zK [4,5] [11]),(12,zK [4,5] [11])],
 [(5,zK [2,6,15,16,17] [2,11])],
 [(3,zK [1,2,6,14] [2,11]),(4,zK [1,2,6] [2,11]),(8,zK [2,6,15,16,17,26] [2,11]),(11,zK [6,29] [11])],
 [],[]⟩
abbrev zIV (n:Net) (nodes:(Sl Int)) (r:R74):List PA:=[cond (r.2 == 0) (.one (.fp (zaC r.1) 0)) (.one (.nilp)),.one (.int .i64 r.2),.agg (zaC (⟨n,(⟨0,(λ _=>none)⟩:Mp)⟩:web))]
@[irreducible] def z74m:=zPL Tryd.prog G74 zAG Tryd.f74 105 11
abbrev zAH (K:List PA->Prop) (n:Net) (nodes:(Sl Int)) (X:St->Prop) (P:Int->Bool) (S:Int->(web×Int)):Prop:=∀ ⦃zcO:Int⦄,P zcO=true->K (zIV n nodes (S zcO))->X (ztG n nodes zcO)
section
variable {K:List PA->Prop}{n:Net}{nodes:(Sl Int)}{zk5:Bool}{zcO:Int}{X2:St->Prop}{P2:Int->Bool}{S2:Int->(web×Int)}{zk6:Int}{zk7:Bool}{zqQ:Bool}
theorem zDp (hk:K (zIV n nodes (znn n zqQ))):z74m K [1,1,1,1,0,1] [] ⟨[(6,zp 11 0),(29,zB zqQ)],[(11,.box 105 (zm (zaC (⟨n,(⟨0,(λ _=>none)⟩:Mp)⟩:web))))],[]⟩:=zaS (by kernel_rfl) (zt hk (λ hk=>hk) (λ hk=>hk))
theorem zDq (hX2:zAH K n nodes X2 P2 S2) (hs:znp P2 n nodes zk6 zk7=true) (hk:K (zIV n nodes (zno S2 n nodes zk6 zk7))):z74m K [1,1,1,0,1,0,0,1,1,0,0,1,1] [X2] ⟨[(2,zp 2 0),(6,zp 11 0),(15,zS zae 1 nodes),(16,zI (nodes.len:Int)),(17,zI zk6),(26,zB zk7)],[(2,.box 24 (zm (enc_24 n))),(11,.box 105 (zm (zaC (⟨n,(⟨0,(λ _=>none)⟩:Mp)⟩:web))))],[]⟩:=zaS (by kernel_rfl) (zc hs hk (λ hs hk=>hk) (λ hs hk=>(hX2 hs hk)))
theorem zDr (hs:znr n nodes zcO=true) (hk:K (zIV n nodes (znq n nodes zcO))):z74m K [1,1,1,0,1,0] [] (ztG n nodes zcO) :=
  zl (λ X=>z74m K [1,1,1,0,1,0,0] [X]) (by kernel_rfl) λ X2 hX =>
  (show ∀ k, zAH K n nodes X2 (zhh n nodes k) (zhg n nodes k) from zd0 _ _ (zhf n nodes) (zhe n nodes) (zAH K n nodes X2)
 (by intro _ hs;exact absurd hs dqk)
 (by intro P2 S2 hX2 zcO hs hk;exact hX _ (zaS (by kernel_rfl) (zc hs hk (λ hs hk=>(zaO hs λ hc hs=>And.intro hc (zDq hX2 hs hk))) (λ hs hk=>(zaO hs λ hc hs=>And.intro (And.intro (zE enc_40 4 n.Ties.get) (And.intro (rfl:((false,1,false,[none]):MQ)=(false,1,false,[none])) hc)) (zDp hk))))))) _ hs hk
theorem zDs (hs:znt n nodes=true) (hk:K (zIV n nodes (zns n nodes))):z74m K [1,1,1] [] ⟨[(1,zS zae 1 nodes),(2,zp 2 0),(6,zp 11 0)],[(2,.box 24 (zm (enc_24 n))),(11,.box 105 (zm (zaC (⟨n,(⟨0,(λ _=>none)⟩:Mp)⟩:web))))],[]⟩:=zaS (by kernel_rfl) (zDr hs hk)
theorem zDt (hs:znv n nodes zk5=true) (hk:K (zIV n nodes (znu n nodes zk5))):z74m K [1,1,0,1] [] ⟨[(1,zS zae 1 nodes),(2,zp 2 0),(6,zp 11 0),(14,zB zk5)],[(2,.box 24 (zm (enc_24 n))),(11,.box 105 (zm (zaC (⟨n,(⟨0,(λ _=>none)⟩:Mp)⟩:web))))],[]⟩:=zaS (by kernel_rfl) (zc hs hk (λ hs hk=>hk) (λ hs hk=>(zDs hs hk)))
end
theorem zQM (n:Net) (nodes:(Sl Int)) (K:List PA->Prop) (hs:p74 n nodes=true) (hk:K (zIV n nodes (s74 n nodes))):zse Tryd.prog G74 zAG 74 [.agg (enc_24 n),.one (.sl nodes.len 1 (λ i=>zae (nodes.get i)))] 105 11 K :=
  zaS (by kernel_rfl) (zaO hs λ hc hs=>And.intro (And.intro (zE enc_40 4 n.Ties.get) hc) (zDt hs hk))
abbrev zMu : OwnK := .made 105 fun
  | [.agg [.int .i64 zaf,.sl zac zat zab],.one (.nils)]=>some (IsE enc_40 4 zat zab/\p74 (⟨zaf,(⟨zac,zal zab⟩:(Sl Tie))⟩:Net) (⟨0,λ _=>default⟩:(Sl Int))=true,(s74 (⟨zaf,(⟨zac,zal zab⟩:(Sl Tie))⟩:Net) (⟨0,λ _=>default⟩:(Sl Int))).2 == 0,zaC (⟨(⟨zaf,(⟨zac,zal zab⟩:(Sl Tie))⟩:Net),(⟨0,(λ _=>none)⟩:Mp)⟩:web),.int .i64 (s74 (⟨zaf,(⟨zac,zal zab⟩:(Sl Tie))⟩:Net) (⟨0,λ _=>default⟩:(Sl Int))).2)
  | _=>none
theorem zOP:zjX Tryd.prog 74 zMu:=zCG (L:=11) zLv zEJ λ az s b cells e h hs=>by
  split at h
  · rename_i zaf zac zat zab
    cases h
    obtain⟨⟨rfl,zan,rfl⟩,hs⟩:=hs
    try rw[zaj zan] at hs
    try rw[zaj zan]
    refine⟨_,λ h vs hr=>?_,λ _ _=>[],λ _=>false,zAG,zQM (⟨zaf,(⟨zac,zan⟩:(Sl Tie))⟩:Net) (⟨0,λ _=>default⟩:(Sl Int)) _ hs ?_⟩
    · match vs,hr with
      | [v1,v2],⟨r1,r2,_⟩=>exact⟨r1,by rw[zgv r2];exact .sl0 _ _,trivial⟩
      | [],h=>exact h.elim
      | [_],h=>exact h.2.elim
      | _ :: _ :: _ :: _,h=>exact h.2.2.elim
    · refine ⟨_, rfl, fun hb => ?_, fun hb => ?_⟩
      · rw[hb];exact⟨_,_,rfl⟩
      · rw[hb];rfl
  · cases h
abbrev T58:Tabs:=((((Tabs.nil.addO 74 zMu).addF 79 zDm).addF 96 zIR).addI 111 zIT)
theorem zOQ:TabsOk Tryd.prog T58:=((((TabsOk.nil.addO zOP).addF zPD).addF zQK).addI zOO)
abbrev G58:Ctrs:=csm T58 (λ _ _=>[]) (λ l=>Nat.beq l 19)
def zAI:Ann:=⟨60,[(0,zK [1] [1]),(1,zK [1,4,5] [1,4,12]),(2,zK [1,4,5,16] [1,4,12]),(3,zK [2,3] []),(4,zK [1,4] [1,4,12,19]),(5,zK [1,4,24] [1,4,12,19]),(6,zK [1,4,6,24,26] [1,4,12,19]),(7,zK [1,4,6,7,24] [1,4,7,12,19]),(8,zK [1,4,6,7,24] [1,4,7,12,19]),(9,zK [1,4,6,24,35] [1,4,12,19]),(10,zK [1,4,24] [1,4,12,19]),(11,zK [1,4,8] [1,4,12,19]),(12,zK [4,8,43,44] [4,12,19]),(13,zK [4,8,43,44,45] [4,12,19,57]),(14,zK [4,8,9,43,44] [4,12,19,57]),(15,zK [4,8,9,43,44,53] [4,12,19,57]),(16,zK [4,8,43,44] [4,12,19,57]),(17,zK [4,8,43,44] [4,12,19,57]),(18,zK [2,3] [57])],
 [(6,zK [1,4,24] [1,4,12,19]),(13,⟨[4,8,43,44],[4,12,19,57],[(8,57,3,λ _=>zae default)],[],[],[],[]⟩)],
 [],
 [],[]⟩
abbrev R58:=((Sl Int)×Int)
abbrev e58 (r:R58):List PA:=[.one (.sl r.1.len 1 (λ i=>zae (r.1.get i))),.one (.int .i64 r.2)]
@[irreducible] def z58:=ptF Tryd.prog G58 zAI Tryd.f58
@[irreducible] def x58:=exF Tryd.prog G58 zAI Tryd.f58
@[irreducible] def y58:=rnF Tryd.prog G58 zAI Tryd.f58
def zAJ (n:Net) (zbw:Nat) (za9:(List Int->Option (List Int))):St:=⟨[(1,zp 1 0),(4,zp 4 0),(24,zP (.fn 111 [] [.fp [.sl n.Ties.len 4 (λ i=>enc_40 (n.Ties.get i))] 0]))],[(1,.box 24 (zm (enc_24 n))),(4,.box 102 [.ptr 12 0]),(12,.box 105 [zi ((⟨n,(⟨0,(λ _=>none)⟩:Mp)⟩:web).Net.Nodes),.p (.sl ((⟨n,(⟨0,(λ _=>none)⟩:Mp)⟩:web).Net.Ties.len) 4 (λ i=>enc_40 ((⟨n,(⟨0,(λ _=>none)⟩:Mp)⟩:web).Net.Ties.get i))),.mo 19]),(19,.mo 3 4 (false,1,false,[none]) zbw za9)],[]⟩
abbrev zMv (K:List PA->Prop) (n:Net) (X:St->Prop) (P:Nat->(List Int->Option (List Int))->Bool) (S:Nat->(List Int->Option (List Int))->((Sl Int)×Int)):Prop:=∀ ⦃zbw:Nat⦄ ⦃za9:(List Int->Option (List Int))⦄,P zbw za9=true->K (e58 (S zbw za9))->X (zAJ n zbw za9)
def zE3 (n:Net) (zdl:Int) (zcU:(Sl Int)) (zb8:Nat) (zbS:(List Int->Option (List Int))) (zgh:Nat->List PV):St:=⟨[(4,zp 4 0),(8,zv 57),(43,zI (n.Ties.len:Int)),(44,zI zdl)],[(4,.box 102 [.ptr 12 0]),(12,.box 105 [zi ((⟨n,(⟨0,(λ _=>none)⟩:Mp)⟩:web).Net.Nodes),.p (.sl ((⟨n,(⟨0,(λ _=>none)⟩:Mp)⟩:web).Net.Ties.len) 4 (λ i=>enc_40 ((⟨n,(⟨0,(λ _=>none)⟩:Mp)⟩:web).Net.Ties.get i))),.mo 19]),(19,.mo 3 4 (false,1,false,[none]) zb8 zbS),(57,.vec 3 1 8 zcU.len zgh)],[]⟩
abbrev zMw (K:List PA->Prop) (n:Net) (X:St->Prop) (P:Int->(Sl Int)->Nat->(List Int->Option (List Int))->Bool) (S:Int->(Sl Int)->Nat->(List Int->Option (List Int))->((Sl Int)×Int)):Prop:=∀ ⦃zdl:Int⦄ ⦃zcU:(Sl Int)⦄ ⦃zb8:Nat⦄ ⦃zbS:(List Int->Option (List Int))⦄ ⦃zgh:Nat->List PV⦄,P zdl zcU zb8 zbS=true->K (e58 (S zdl zcU zb8 zbS))->zgh=zg zae zcU->X (zE3 n zdl zcU zb8 zbS zgh)
section
variable {K:List PA->Prop}{n:Net}{zbw:Nat}{za9:(List Int->Option (List Int))}{zdl:Int}{zcU:(Sl Int)}{zb8:Nat}{zbS:(List Int->Option (List Int))}{zgh:Nat->List PV}{X1:St->Prop}{P1:Int->(Sl Int)->Nat->(List Int->Option (List Int))->Bool}{S1:Int->(Sl Int)->Nat->(List Int->Option (List Int))->((Sl Int)×Int)}
def ziO (n:Net) (S1:Int->(Sl Int)->Nat->(List Int->Option (List Int))->((Sl Int)×Int)) (zdl:Int) (zcU:(Sl Int)) (zb8:Nat) (zbS:(List Int->Option (List Int))):((Sl Int)×Int) :=
  (cond (decide (zdl < (n.Ties.len : Int)))
 (cond (!((zlw (zbS [zdl]) 0) != 0))
 (S1 (w64 (zdl+(1:Int))) (⟨(zcU.len+1),(zdU zcU.len zcU.get (λ _=>zdl))⟩:Sl Int) zb8 zbS)
 (S1 (w64 (zdl+(1:Int))) zcU zb8 zbS))
 (zcU,(0:Int)))
def ziP (n:Net) (P1:Int->(Sl Int)->Nat->(List Int->Option (List Int))->Bool) (zdl:Int) (zcU:(Sl Int)) (zb8:Nat) (zbS:(List Int->Option (List Int))):Bool :=
  (cond (decide (zdl < (n.Ties.len : Int)))
 (cond (!((zlw (zbS [zdl]) 0) != 0))
 (decide (((zcU.len+1) * 8<=140737488355328/\zcU.len+1<=9223372036854775807)) &&
 (P1 (w64 (zdl+(1:Int))) (⟨(zcU.len+1),(zdU zcU.len zcU.get (λ _=>zdl))⟩:Sl Int) zb8 zbS))
 (P1 (w64 (zdl+(1:Int))) zcU zb8 zbS))
 true)
def zho (n:Net):Nat->Int->(Sl Int)->Nat->(List Int->Option (List Int))->((Sl Int)×Int):=lpO (λ _ _ _ _=>default) (ziO n)
def zhp (n:Net):Nat->Int->(Sl Int)->Nat->(List Int->Option (List Int))->Bool:=lpO (λ _ _ _ _=>false) (ziP n)
def zAK (n:Net) (zdl:Int) (zcU:(Sl Int)) (zb8:Nat) (zbS:(List Int->Option (List Int))):((Sl Int)×Int):=zho n Fuel zdl zcU zb8 zbS
def zAL (n:Net) (zdl:Int) (zcU:(Sl Int)) (zb8:Nat) (zbS:(List Int->Option (List Int))):Bool:=zhp n Fuel zdl zcU zb8 zbS
theorem zIW (hs:zAL n zdl zcU zb8 zbS=true) (hk:K (e58 (zAK n zdl zcU zb8 zbS))) (zro:zgh=zg zae zcU):z58 (Wk K) [1,1,1,1,1,1,0,1,0] [] (zE3 n zdl zcU zb8 zbS zgh) :=
  zl (λ X=>z58 (Wk K) [1,1,1,1,1,1,0,1,0,0] [X]) (by kernel_rfl) λ X1 hX =>
  (show ∀ k, zMw K n X1 (zhp n k) (zho n k) from zd0 _ _ (ziP n) (ziO n) (zMw K n X1)
 (by intro _ _ _ _ _ hs;exact absurd hs dqk)
 (by intro P1 S1 hX1 zdl zcU zb8 zbS zgh hs hk zro;subst zro;exact hX _ (zaS (by kernel_rfl) (zc hs hk (λ hs hk=>(zc hs hk (λ hs hk=>(zaO hs λ hc hs=>And.intro hc (hX1 hs hk (zfy (enc:=zae) (f:=zcU.get) (h:=(λ _=>zdl)) rfl rfl)))) (λ hs hk=>(hX1 hs hk rfl)))) (λ hs hk=>((zfT hk):Wk K [.one (.sl zcU.len 1 (λ i=>zae (zcU.get i))),.one (.int .i64 (0:Int))])))))) _ hs hk zro
def zAM (n:Net) (zbw:Nat) (za9:(List Int->Option (List Int))):((Sl Int)×Int) :=
  (zAK n (0:Int) (⟨0,(λ _=>default)⟩:Sl Int) zbw za9)
def zAN (n:Net) (zbw:Nat) (za9:(List Int->Option (List Int))):Bool :=
  (zAL n (0:Int) (⟨0,(λ _=>default)⟩:Sl Int) zbw za9)
def ziQ (n:Net) (y0:(Int×Tie)) (S0:Nat->(List Int->Option (List Int))->((Sl Int)×Int)) (zbw:Nat) (za9:(List Int->Option (List Int))):((Sl Int)×Int) :=
  (cond (!(s79 (⟨(⟨n, (⟨0, (λ _ => none)⟩ : Mp)⟩ : web).Net, (⟨(addN (za9 [y0.1]) zbw), (zcV [y0.1] [1] za9)⟩ : Mp)⟩ : web) y0.2))
 (S0 (zu7 ((zcV [y0.1] [1] za9) [y0.1]) (addN (za9 [y0.1]) zbw)) (zug [y0.1] (zcV [y0.1] [1] za9)))
 (S0 (addN (za9 [y0.1]) zbw) (zcV [y0.1] [1] za9)))
def ziR (n:Net) (y0:(Int×Tie)) (P0:Nat->(List Int->Option (List Int))->Bool) (zbw:Nat) (za9:(List Int->Option (List Int))):Bool :=
  (decide ((p79 (⟨(⟨n,(⟨0,(λ _=>none)⟩:Mp)⟩:web).Net,(⟨(addN (za9 [y0.1]) zbw),(zcV [y0.1] [1] za9)⟩:Mp)⟩:web) y0.2=true)) &&
 (cond (!(s79 (⟨(⟨n, (⟨0, (λ _ => none)⟩ : Mp)⟩ : web).Net, (⟨(addN (za9 [y0.1]) zbw), (zcV [y0.1] [1] za9)⟩ : Mp)⟩ : web) y0.2))
 (P0 (zu7 ((zcV [y0.1] [1] za9) [y0.1]) (addN (za9 [y0.1]) zbw)) (zug [y0.1] (zcV [y0.1] [1] za9)))
 (P0 (addN (za9 [y0.1]) zbw) (zcV [y0.1] [1] za9))))
def zlc (n:Net):List (Int×Tie)->Nat->(List Int->Option (List Int))->((Sl Int)×Int):=lpR (zAM n) (ziQ n)
def zld (n:Net):List (Int×Tie)->Nat->(List Int->Option (List Int))->Bool:=lpR (zAN n) (ziR n)
def znL (n:Net) (zbw:Nat) (za9:(List Int->Option (List Int))):((Sl Int)×Int):=zlc n (zIS n.Ties) zbw za9
def zle (n:Net) (zbw:Nat) (za9:(List Int->Option (List Int))):Bool:=decide ((zMt n.Ties=true)) && zld n (zIS n.Ties) zbw za9
theorem zIX (hs:zle n zbw za9=true) (hk:K (e58 (znL n zbw za9))):z58 (Wk K) [1,1,1,1,0,1,0] [] (zAJ n zbw za9) :=
  zaO hs λ hc hs=>zr (enc:=(λ y:(Int×Tie)=>[.one (.int .i64 y.1),.agg (enc_40 y.2)])) (ys:=zIS n.Ties) (g:=(zAJ n zbw za9)) (x58 (Wk K) [1,1,1,1,0,1,0] []) (y58 (Wk K) [1,1,1,1,0,1,0] []) (by kernel_rfl) (And.intro (zE enc_40 4 n.Ties.get) hc) λ X0 hE hR =>
  (show ∀ l : List (Int × Tie), zMv K n (X0 (l.map (λ y : (Int × Tie) => [.one (.int .i64 y.1), .agg (enc_40 y.2)]))) (zld n l) (zlc n l) from zri (X := X0) (enc := (λ y : (Int × Tie) => [.one (.int .i64 y.1), .agg (enc_40 y.2)])) _ _ (ziR n) (ziQ n) (λ Z P S => zMv K n Z P S)
 (by intro zbw za9 hs hk;exact hE _ (zaS (by kernel_rfl) (zIW hs hk rfl)))
 (by intro y0 rest P0 S0 hX0 zbw za9 hs hk;exact hR _ rest _ (zaS (by kernel_rfl) (zaO hs λ hc hs=>And.intro (And.intro (zE enc_40 4 ((⟨n,(⟨0,(λ _=>none)⟩:Mp)⟩:web).Net.Ties.get)) (And.intro (rfl:((false,1,false,[none]):MQ)=(false,1,false,[none])) hc)) (zc hs hk (λ hs hk=>(hX0 hs hk)) (λ hs hk=>(hX0 hs hk))))))) _ hs hk
def s58 (n:Net):((Sl Int)×Int) :=
  (cond ((s74 n (⟨0, λ _ => default⟩ : (Sl Int))).2 == 0)
 (cond ((s74 n (⟨0, λ _ => default⟩ : (Sl Int))).2 != (0:Int))
 ((⟨0,λ _=>default⟩:(Sl Int)),(s74 n (⟨0,λ _=>default⟩:(Sl Int))).2)
 (znL n 0 (λ _=>none)))
 (cond ((s74 n (⟨0, λ _ => default⟩ : (Sl Int))).2 != (0:Int))
 ((⟨0,λ _=>default⟩:(Sl Int)),(s74 n (⟨0,λ _=>default⟩:(Sl Int))).2)
 default))
def p58 (n:Net):Bool :=
  (cond ((s74 n (⟨0, λ _ => default⟩ : (Sl Int))).2 == 0)
 (decide ((p74 n (⟨0,λ _=>default⟩:(Sl Int))=true)) &&
 (cond ((s74 n (⟨0, λ _ => default⟩ : (Sl Int))).2 != (0:Int))
 true
 (zle n 0 (λ _=>none))))
 (decide ((p74 n (⟨0,λ _=>default⟩:(Sl Int))=true)) &&
 (cond ((s74 n (⟨0, λ _ => default⟩ : (Sl Int))).2 != (0:Int))
 true
 false)))
end
theorem q58 (n:Net) (K:List PA->Prop) (hs:p58 n=true) (hk:K (e58 (s58 n))):vcFun Tryd.prog G58 zAI 58 [.agg (enc_24 n)] (Wk K) :=
  zaS (by kernel_rfl) (zc hs hk (λ hs hk=>(zaO hs λ hc hs=>And.intro (And.intro (zE enc_40 4 n.Ties.get) hc) (zc hs hk (λ hs hk=>((wk hk (zgy (.one (.nil _ _)) (zgy (.one (.rfl _)) zmd))):Wk K [.one (.nils),.one (.int .i64 ((s74 n (⟨0,λ _=>default⟩:(Sl Int))).2))])) (λ hs hk=>(And.intro (zE enc_40 4 n.Ties.get) (zIX hs hk)))))) (λ hs hk=>(zaO hs λ hc hs=>And.intro (And.intro (zE enc_40 4 n.Ties.get) hc) (zc hs hk (λ hs hk=>((wk hk (zgy (.one (.nil _ _)) (zgy (.one (.rfl _)) zmd))):Wk K [.one (.nils),.one (.int .i64 ((s74 n (⟨0,λ _=>default⟩:(Sl Int))).2))])) (λ hs hk=>(absurd hs dqk:False))))))
def zIY : List PA → COut
  | [.agg [.int .i64 zaf,.sl zac zat zab]]=>.det (IsE enc_40 4 zat zab/\p58 (⟨zaf,(⟨zac,zal zab⟩:(Sl Tie))⟩:Net)=true) [.one (.sl (((s58 (⟨zaf,(⟨zac,zal zab⟩:(Sl Tie))⟩:Net)).1).len) 1 (λ i=>zae (((s58 (⟨zaf,(⟨zac,zal zab⟩:(Sl Tie))⟩:Net)).1).get i))),.one (.int .i64 ((s58 (⟨zaf,(⟨zac,zal zab⟩:(Sl Tie))⟩:Net)).2))]
  | _=>.no
theorem zMx:zar Tryd.prog 58:=⟨_,rfl,rfl,by kernel_rfl⟩
theorem zQN:Ok Tryd.prog 58 zIY:=zhb zOQ zMx λ args K h=>by
  unfold zIY at h
  split at h
  · rename_i zaf zac zat zab
    obtain⟨⟨⟨rfl,zan,rfl⟩,hs⟩,hk⟩:=h
    try rw[zaj zan] at hs
    try rw[zaj zan] at hk
    exact⟨_,zfA zfS _,(λ _ _=>[]),(λ l=>Nat.beq l 19),zAI,q58 (⟨zaf,(⟨zac,zan⟩:(Sl Tie))⟩:Net) K hs hk⟩
  · exact h.elim
abbrev T46:Tabs:=(Tabs.nil.addF 77 zDl)
theorem zOR:TabsOk Tryd.prog T46:=(TabsOk.nil.addF zPC)
abbrev G46:Ctrs:=csm T46 (λ _ _=>[]) (λ _=>false)
def zIZ:Ann:=⟨79,[(0,zK [1,2] [2]),(1,zK [1,2,5] [2]),(2,zK [1,2,5,6] [2,15]),(3,zK [1,2,5,6,7] [2,15]),(4,zK [1,2,5,6,7,19] [2,15]),(5,zK [1,2,5,6,7] [2,15]),(6,zK [1,2,5,6,7] [2,15]),(7,zK [5,6] [15]),(8,zK [5,6,8] [15]),(9,zK [5,6,28] [15]),(10,zK [5,6,8] [15]),(11,zK [5,6,8,9] [15]),(12,zK [5,6,8,9,32] [15]),(13,zK [5,6,8,9] [15]),(14,zK [5,6,8,9,10] [15]),(15,zK [5,6,8,9,10,69] [15]),(16,zK [5,6,8,9] [15]),(17,zK [4] [15])],
 [(4,zK [1,2,5,6,7] [2,15]),(9,zK [5,6,8] [15]),(12,zK [5,6,8,9] [15])],
 [(2,zK [1,2,5] [2]),(7,zK [1,5,6] [15])],
 [],[]⟩
abbrev R46:=(Sl Int)
abbrev e46 (r:R46):List PA:=[.one (.sl r.len 1 (λ i=>zae (r.get i)))]
@[irreducible] def z46:=ptF Tryd.prog G46 zIZ Tryd.f46
def zE4 (n:Net) (zad:Int) (lv0:(Sl Step)) (iv1:Int) (zbv:(Sl Int)) (zcB:Nat->List PV):St:=⟨[(1,zI zad),(2,zp 2 0),(5,zS zcA 5 lv0),(6,zv 15),(7,zI iv1)],[(2,.box 24 (zm (enc_24 n))),(15,.vec 3 1 8 zbv.len zcB)],[]⟩
abbrev zMy (K:List PA->Prop) (n:Net) (zad:Int) (lv0:(Sl Step)) (X:St->Prop) (P:Int->(Sl Int)->Bool) (S:Int->(Sl Int)->(Sl Int)):Prop:=∀ ⦃iv1:Int⦄ ⦃zbv:(Sl Int)⦄ ⦃zcB:Nat->List PV⦄,P iv1 zbv=true->K (e46 (S iv1 zbv))->zcB=zg zae zbv->X (zE4 n zad lv0 iv1 zbv zcB)
def zE5 (lv0:(Sl Step)) (zaq:Bool) (zb0:(Sl Int)) (zcC:Nat->List PV):St:=⟨[(5,zS zcA 5 lv0),(6,zv 15),(8,zB zaq)],[(15,.vec 3 1 8 zb0.len zcC)],[]⟩
abbrev zI0 (K:List PA->Prop) (lv0:(Sl Step)) (X:St->Prop) (P:Bool->(Sl Int)->Bool) (S:Bool->(Sl Int)->(Sl Int)):Prop:=∀ ⦃zaq:Bool⦄ ⦃zb0:(Sl Int)⦄ ⦃zcC:Nat->List PV⦄,P zaq zb0=true->K (e46 (S zaq zb0))->zcC=zg zae zb0->X (zE5 lv0 zaq zb0 zcC)
def zE6 (lv0:(Sl Step)) (zbh:Bool) (iv4:Int) (zaN:(Sl Int)) (zcj:Nat->List PV):St:=⟨[(5,zS zcA 5 lv0),(6,zv 15),(8,zB zbh),(9,zI iv4)],[(15,.vec 3 1 8 zaN.len zcj)],[]⟩
abbrev zMz (K:List PA->Prop) (lv0:(Sl Step)) (X:St->Prop) (P:Bool->Int->(Sl Int)->Bool) (S:Bool->Int->(Sl Int)->(Sl Int)):Prop:=∀ ⦃zbh:Bool⦄ ⦃iv4:Int⦄ ⦃zaN:(Sl Int)⦄ ⦃zcj:Nat->List PV⦄,P zbh iv4 zaN=true->K (e46 (S zbh iv4 zaN))->zcj=zg zae zaN->X (zE6 lv0 zbh iv4 zaN zcj)
section
variable {K:List PA->Prop}{n:Net}{zad:Int}{lv0:(Sl Step)}{zAA:Nat->List PV}{iv1:Int}{zbv:(Sl Int)}{zcB:Nat->List PV}{X1:St->Prop}{P1:Int->(Sl Int)->Bool}{S1:Int->(Sl Int)->(Sl Int)}{zc0:(Sl Int)}{zkT:Nat->List PV}{zaq:Bool}{zb0:(Sl Int)}{zcC:Nat->List PV}{X3:St->Prop}{P3:Bool->(Sl Int)->Bool}{S3:Bool->(Sl Int)->(Sl Int)}{zbh:Bool}{iv4:Int}{zaN:(Sl Int)}{zcj:Nat->List PV}{X4:St->Prop}{P4:Bool->Int->(Sl Int)->Bool}{S4:Bool->Int->(Sl Int)->(Sl Int)}
def ziS (S3:Bool->(Sl Int)->(Sl Int)) (lv0:(Sl Step)) (S4:Bool->Int->(Sl Int)->(Sl Int)) (zbh:Bool) (iv4:Int) (zaN:(Sl Int)):(Sl Int) :=
  (cond (decide (iv4 < (lv0.len : Int)))
 (cond ((zaN.get (((lv0.get iv4.toNat).From).toNat)) != (1000000000000:Int))
 (cond (decide ((w64 ((zaN.get (((lv0.get iv4.toNat).From).toNat)) + (lv0.get iv4.toNat).Length)) < (zaN.get (((lv0.get iv4.toNat).To).toNat))))
 (S4 true (w64 (iv4+(1:Int))) (⟨zaN.len,(setT (((lv0.get iv4.toNat).To).toNat) (w64 ((zaN.get (((lv0.get iv4.toNat).From).toNat))+(lv0.get iv4.toNat).Length)) zaN.get)⟩:Sl Int))
 (S4 zbh (w64 (iv4+(1:Int))) zaN))
 (S4 zbh (w64 (iv4+(1:Int))) zaN))
 (S3 zbh zaN))
def ziT (P3:Bool->(Sl Int)->Bool) (lv0:(Sl Step)) (P4:Bool->Int->(Sl Int)->Bool) (zbh:Bool) (iv4:Int) (zaN:(Sl Int)):Bool :=
  (cond (decide (iv4 < (lv0.len : Int)))
 (decide ((0<=iv4/\iv4 < (lv0.len:Int))) &&
 (decide ((0<=(lv0.get iv4.toNat).From/\(lv0.get iv4.toNat).From < (zaN.len:Int))) &&
 (decide ((((lv0.get iv4.toNat).From).toNat < zaN.len)) &&
 (decide ((0<=iv4/\iv4 < (lv0.len:Int))) &&
 (decide ((0<=iv4/\iv4 < (lv0.len:Int))) &&
 (decide ((0<=(lv0.get iv4.toNat).From/\(lv0.get iv4.toNat).From < (zaN.len:Int))) &&
 (decide ((((lv0.get iv4.toNat).From).toNat < zaN.len)) &&
 (cond ((zaN.get (((lv0.get iv4.toNat).From).toNat)) != (1000000000000:Int))
 (decide ((0<=iv4/\iv4 < (lv0.len:Int))) &&
 (decide ((0<=(lv0.get iv4.toNat).To/\(lv0.get iv4.toNat).To < (zaN.len:Int))) &&
 (decide ((((lv0.get iv4.toNat).To).toNat < zaN.len)) &&
 (cond (decide ((w64 ((zaN.get (((lv0.get iv4.toNat).From).toNat)) + (lv0.get iv4.toNat).Length)) < (zaN.get (((lv0.get iv4.toNat).To).toNat))))
 (decide ((0<=iv4/\iv4 < (lv0.len:Int))) &&
 (decide ((0<=(lv0.get iv4.toNat).To/\(lv0.get iv4.toNat).To < (zaN.len:Int))) &&
 (decide ((((lv0.get iv4.toNat).To).toNat < zaN.len)) &&
 (P4 true (w64 (iv4+(1:Int))) (⟨zaN.len,(setT (((lv0.get iv4.toNat).To).toNat) (w64 ((zaN.get (((lv0.get iv4.toNat).From).toNat))+(lv0.get iv4.toNat).Length)) zaN.get)⟩:Sl Int)))))
 (P4 zbh (w64 (iv4+(1:Int))) zaN)))))
 (P4 zbh (w64 (iv4+(1:Int))) zaN)))))))))
 (P3 zbh zaN))
def zee (S3:Bool->(Sl Int)->(Sl Int)) (lv0:(Sl Step)):Nat->Bool->Int->(Sl Int)->(Sl Int):=lpO (λ _ _ _=>default) (ziS S3 lv0)
def zef (P3:Bool->(Sl Int)->Bool) (lv0:(Sl Step)):Nat->Bool->Int->(Sl Int)->Bool:=lpO (λ _ _ _=>false) (ziT P3 lv0)
def zrp (S3:Bool->(Sl Int)->(Sl Int)) (lv0:(Sl Step)) (zbh:Bool) (iv4:Int) (zaN:(Sl Int)):(Sl Int):=zee S3 lv0 Fuel zbh iv4 zaN
def zrq (P3:Bool->(Sl Int)->Bool) (lv0:(Sl Step)) (zbh:Bool) (iv4:Int) (zaN:(Sl Int)):Bool:=zef P3 lv0 Fuel zbh iv4 zaN
theorem zI1 (hX3:zI0 K lv0 X3 P3 S3) (hs:zrq P3 lv0 zbh iv4 zaN=true) (hk:K (e46 (zrp S3 lv0 zbh iv4 zaN))) (zfn:zcj=zg zae zaN):z46 K [1,1,1,1,1,0,1,0,0,1,0,1,1,0] [X3] (zE6 lv0 zbh iv4 zaN zcj) :=
  zl (λ X=>z46 K [1,1,1,1,1,0,1,0,0,1,0,1,1,0,0] [X3,X]) (by kernel_rfl) λ X4 hX =>
  (show ∀ k, zMz K lv0 X4 (zef P3 lv0 k) (zee S3 lv0 k) from zd0 _ _ (ziT P3 lv0) (ziS S3 lv0) (zMz K lv0 X4)
 (by intro _ _ _ _ hs;exact absurd hs dqk)
 (by intro P4 S4 hX4 zbh iv4 zaN zcj hs hk zfn;subst zfn;exact hX _ (zaS (by kernel_rfl) (zc hs hk (λ hs hk=>(zaO hs λ hc hs=>And.intro hc (zaO hs λ hc hs=>And.intro hc (zaO hs λ hc hs=>And.intro hc (zaO hs λ hc hs=>And.intro hc (zaO hs λ hc hs=>And.intro hc (zaO hs λ hc hs=>And.intro hc (zaO hs λ hc hs=>And.intro hc (zc hs hk (λ hs hk=>(zaO hs λ hc hs=>And.intro hc (zaO hs λ hc hs=>And.intro hc (zaO hs λ hc hs=>And.intro hc (zc hs hk (λ hs hk=>(zaO hs λ hc hs=>And.intro hc (zaO hs λ hc hs=>And.intro hc (zaO hs λ hc hs=>And.intro hc (hX4 hs hk (zfz (enc:=zae) (i:=((lv0.get iv4.toNat).To).toNat) (k:=0) (f:=zaN.get) (new:=(zae (w64 ((zaN.get (((lv0.get iv4.toNat).From).toNat))+(lv0.get iv4.toNat).Length)))) (v:=(w64 ((zaN.get (((lv0.get iv4.toNat).From).toNat))+(lv0.get iv4.toNat).Length))) rfl rfl)))))) (λ hs hk=>(hX4 hs hk rfl))))))) (λ hs hk=>(hX4 hs hk rfl))))))))))) (λ hs hk=>(hX3 hs hk rfl)))))) _ hs hk zfn
def zlf (lv0:(Sl Step)) (S3:Bool->(Sl Int)->(Sl Int)) (zaq:Bool) (zb0:(Sl Int)):(Sl Int) :=
  (cond zaq
 (zrp S3 lv0 false (0:Int) zb0)
 zb0)
def zlg (lv0:(Sl Step)) (P3:Bool->(Sl Int)->Bool) (zaq:Bool) (zb0:(Sl Int)):Bool :=
  (cond zaq
 (zrq P3 lv0 false (0:Int) zb0)
 true)
def zdb (lv0:(Sl Step)):Nat->Bool->(Sl Int)->(Sl Int):=lpO (λ _ _=>default) (zlf lv0)
def zdm (lv0:(Sl Step)):Nat->Bool->(Sl Int)->Bool:=lpO (λ _ _=>false) (zlg lv0)
def zAO (lv0:(Sl Step)) (zaq:Bool) (zb0:(Sl Int)):(Sl Int):=zdb lv0 Fuel zaq zb0
def zrr (lv0:(Sl Step)) (zaq:Bool) (zb0:(Sl Int)):Bool:=zdm lv0 Fuel zaq zb0
theorem zI2 (hs:zrr lv0 zaq zb0=true) (hk:K (e46 (zAO lv0 zaq zb0))) (zhc:zcC=zg zae zb0):z46 K [1,1,1,1,1,0,1,0] [] (zE5 lv0 zaq zb0 zcC) :=
  zl (λ X=>z46 K [1,1,1,1,1,0,1,0,0] [X]) (by kernel_rfl) λ X3 hX =>
  (show ∀ k, zI0 K lv0 X3 (zdm lv0 k) (zdb lv0 k) from zd0 _ _ (zlg lv0) (zlf lv0) (zI0 K lv0 X3)
 (by intro _ _ _ hs;exact absurd hs dqk)
 (by intro P3 S3 hX3 zaq zb0 zcC hs hk zhc;subst zhc;exact hX _ (zaS (by kernel_rfl) (zc hs hk (λ hs hk=>(zI1 hX3 hs hk rfl)) (λ hs hk=>hk))))) _ hs hk zhc
def zrt (zad:Int) (lv0:(Sl Step)) (zc0:(Sl Int)):(Sl Int) :=
  (zAO lv0 true (⟨zc0.len,(setT zad.toNat (0:Int) zc0.get)⟩:Sl Int))
def znM (zad:Int) (lv0:(Sl Step)) (zc0:(Sl Int)):Bool :=
  (decide ((0<=zad/\zad < (zc0.len:Int))) &&
 (decide ((zad.toNat < zc0.len)) &&
 (zrr lv0 true (⟨zc0.len,(setT zad.toNat (0:Int) zc0.get)⟩:Sl Int))))
theorem zI3 (hs:znM zad lv0 zc0=true) (hk:K (e46 (zrt zad lv0 zc0))) (zqA:zkT=zg zae zc0):z46 K [1,1,1,1] [] ⟨[(1,zI zad),(5,zS zcA 5 lv0),(6,zv 15)],[(15,.vec 3 1 8 zc0.len zkT)],[]⟩:=by subst zqA;exact zaS (by kernel_rfl) (zaO hs λ hc hs=>And.intro hc (zaO hs λ hc hs=>And.intro hc (zI2 hs hk (zfz (enc:=zae) (i:=zad.toNat) (k:=0) (f:=zc0.get) (new:=(zae (0:Int))) (v:=(0:Int)) rfl rfl))))
def ziU (n:Net) (zad:Int) (lv0:(Sl Step)) (S1:Int->(Sl Int)->(Sl Int)) (iv1:Int) (zbv:(Sl Int)):(Sl Int) :=
  (cond (decide (iv1 < n.Nodes))
 (S1 (w64 (iv1+(1:Int))) (⟨zbv.len,(setT iv1.toNat (1000000000000:Int) zbv.get)⟩:Sl Int))
 (zrt zad lv0 zbv))
def ziV (n:Net) (zad:Int) (lv0:(Sl Step)) (P1:Int->(Sl Int)->Bool) (iv1:Int) (zbv:(Sl Int)):Bool :=
  (cond (decide (iv1 < n.Nodes))
 (decide ((0<=iv1/\iv1 < (zbv.len:Int))) &&
 (decide ((iv1.toNat < zbv.len)) &&
 (P1 (w64 (iv1+(1:Int))) (⟨zbv.len,(setT iv1.toNat (1000000000000:Int) zbv.get)⟩:Sl Int))))
 (znM zad lv0 zbv))
def ziW (n:Net) (zad:Int) (lv0:(Sl Step)):Nat->Int->(Sl Int)->(Sl Int):=lpO (λ _ _=>default) (ziU n zad lv0)
def ziX (n:Net) (zad:Int) (lv0:(Sl Step)):Nat->Int->(Sl Int)->Bool:=lpO (λ _ _=>false) (ziV n zad lv0)
def zAP (n:Net) (zad:Int) (lv0:(Sl Step)) (iv1:Int) (zbv:(Sl Int)):(Sl Int):=ziW n zad lv0 Fuel iv1 zbv
def zAQ (n:Net) (zad:Int) (lv0:(Sl Step)) (iv1:Int) (zbv:(Sl Int)):Bool:=ziX n zad lv0 Fuel iv1 zbv
theorem zI4 (hs:zAQ n zad lv0 iv1 zbv=true) (hk:K (e46 (zAP n zad lv0 iv1 zbv))) (zhd:zcB=zg zae zbv):z46 K [1,1,1,0,1,0] [] (zE4 n zad lv0 iv1 zbv zcB) :=
  zl (λ X=>z46 K [1,1,1,0,1,0,0] [X]) (by kernel_rfl) λ X1 hX =>
  (show ∀ k, zMy K n zad lv0 X1 (ziX n zad lv0 k) (ziW n zad lv0 k) from zd0 _ _ (ziV n zad lv0) (ziU n zad lv0) (zMy K n zad lv0 X1)
 (by intro _ _ _ hs;exact absurd hs dqk)
 (by intro P1 S1 hX1 iv1 zbv zcB hs hk zhd;subst zhd;exact hX _ (zaS (by kernel_rfl) (zc hs hk (λ hs hk=>(zaO hs λ hc hs=>And.intro hc (zaO hs λ hc hs=>And.intro hc (hX1 hs hk (zfz (enc:=zae) (i:=iv1.toNat) (k:=0) (f:=zbv.get) (new:=(zae (1000000000000:Int))) (v:=(1000000000000:Int)) rfl rfl))))) (λ hs hk=>(zI3 hs hk rfl)))))) _ hs hk zhd
def zAR (n:Net) (zad:Int) (lv0:(Sl Step)):(Sl Int) :=
  (zAP n zad lv0 (0:Int) (⟨n.Nodes.toNat,(λ _=>(0:Int))⟩:Sl Int))
def zru (n:Net) (zad:Int) (lv0:(Sl Step)):Bool :=
  (decide ((0<=n.Nodes/\n.Nodes=n.Nodes/\n.Nodes<=1000000)) &&
 (zAQ n zad lv0 (0:Int) (⟨n.Nodes.toNat,(λ _=>(0:Int))⟩:Sl Int)))
theorem zI5 (hs:zru n zad lv0=true) (hk:K (e46 (zAR n zad lv0))) (zIK:zAA=zg zcA lv0):z46 K [1,1] [] ⟨[(1,zI zad),(2,zp 2 0),(5,zP (.sl lv0.len 5 zAA))],[(2,.box 24 (zm (enc_24 n)))],[]⟩:=by subst zIK;exact zaS (by kernel_rfl) (zaO hs λ hc hs=>And.intro hc (zI4 hs hk rfl))
def s46 (n:Net) (zad:Int):(Sl Int) :=
  (zAR n zad (s77 n))
def p46 (n:Net) (zad:Int):Bool :=
  (decide ((p77 n=true)) &&
 (zru n zad (s77 n)))
end
theorem q46 (n:Net) (zad:Int) (K:List PA->Prop) (hs:p46 n zad=true) (hk:K (e46 (s46 n zad))):vcFun Tryd.prog G46 zIZ 46 [.agg (enc_24 n),.one (.int .i64 zad)] K :=
  zaS (by kernel_rfl) (zaO hs λ hc hs=>And.intro (And.intro (zE enc_40 4 n.Ties.get) hc) (zI5 hs hk rfl))
def zI6 : List PA → COut
  | [.agg [.int .i64 zaf,.sl zac zat zab],.one (.int .i64 a1)]=>.det (IsE enc_40 4 zat zab/\p46 (⟨zaf,(⟨zac,zal zab⟩:(Sl Tie))⟩:Net) a1=true) [.one (.sl ((s46 (⟨zaf,(⟨zac,zal zab⟩:(Sl Tie))⟩:Net) a1).len) 1 (λ i=>zae ((s46 (⟨zaf,(⟨zac,zal zab⟩:(Sl Tie))⟩:Net) a1).get i)))]
  | _=>.no
theorem zMA:zar Tryd.prog 46:=⟨_,rfl,rfl,by kernel_rfl⟩
theorem zQO:Ok Tryd.prog 46 zI6:=zbc zOR zMA λ args K h=>by
  unfold zI6 at h
  split at h
  · rename_i zaf zac zat zab a1
    obtain⟨⟨⟨rfl,zan,rfl⟩,hs⟩,hk⟩:=h
    try rw[zaj zan] at hs
    try rw[zaj zan] at hk
    exact⟨(λ _ _=>[]),(λ _=>false),zIZ,q46 (⟨zaf,(⟨zac,zan⟩:(Sl Tie))⟩:Net) a1 K hs hk⟩
  · exact h.elim
abbrev T34:Tabs:=(Tabs.nil.addF 46 zI6)
theorem zOS:TabsOk Tryd.prog T34:=(TabsOk.nil.addF zQO)
abbrev G34:Ctrs:=csm T34 (λ _ _=>[]) (λ _=>false)
def zMB:Ann:=⟨21,[(0,zK [1,2,3,6] [3,6]),(1,zK [6] [6])],
 [],
 [],
 [],[]⟩
abbrev R34:=Span
abbrev e34 (r:R34):List PA:=[.agg [.int .i64 r.Low,.int .i64 r.High]]
section
variable {K:List PA->Prop}{n:Net}{zad:Int}{to:Int}
def s34 (n:Net) (zad:Int) (to:Int):Span :=
  (⟨(w64 (0 - ((s46 n to).get zad.toNat))),((s46 n zad).get to.toNat)⟩:Span)
def p34 (n:Net) (zad:Int) (to:Int):Bool :=
  (decide ((p46 n to=true)) &&
 (decide ((0<=zad/\zad < ((s46 n to).len:Int))) &&
 (decide ((p46 n zad=true)) &&
 (decide ((0<=to/\to < ((s46 n zad).len:Int))) &&
 true))))
end
theorem q34 (n:Net) (zad:Int) (to:Int) (K:List PA->Prop) (hs:p34 n zad to=true) (hk:K (e34 (s34 n zad to))):vcFun Tryd.prog G34 zMB 34 [.agg (enc_24 n),.one (.int .i64 zad),.one (.int .i64 to)] K :=
  zaS (by kernel_rfl) (zaO hs λ hc hs=>And.intro (And.intro (zE enc_40 4 n.Ties.get) hc) (zaO hs λ hc hs=>And.intro hc (zaO hs λ hc hs=>And.intro (And.intro (zE enc_40 4 n.Ties.get) hc) (zaO hs λ hc hs=>And.intro hc hk))))
def zI7 : List PA → COut
  | [.agg [.int .i64 zaf,.sl zac zat zab],.one (.int .i64 a1),.one (.int .i64 a2)]=>.det (IsE enc_40 4 zat zab/\p34 (⟨zaf,(⟨zac,zal zab⟩:(Sl Tie))⟩:Net) a1 a2=true) [.agg [.int .i64 ((s34 (⟨zaf,(⟨zac,zal zab⟩:(Sl Tie))⟩:Net) a1 a2).Low),.int .i64 ((s34 (⟨zaf,(⟨zac,zal zab⟩:(Sl Tie))⟩:Net) a1 a2).High)]]
  | _=>.no
theorem zMC:zar Tryd.prog 34:=⟨_,rfl,rfl,by kernel_rfl⟩
theorem zQP:Ok Tryd.prog 34 zI7:=zbc zOS zMC λ args K h=>by
  unfold zI7 at h
  split at h
  · rename_i zaf zac zat zab a1 a2
    obtain⟨⟨⟨rfl,zan,rfl⟩,hs⟩,hk⟩:=h
    try rw[zaj zan] at hs
    try rw[zaj zan] at hk
    exact⟨(λ _ _=>[]),(λ _=>false),zMB,q34 (⟨zaf,(⟨zac,zan⟩:(Sl Tie))⟩:Net) a1 a2 K hs hk⟩
  · exact h.elim
abbrev T37:Tabs:=(Tabs.nil.addF 34 zI7)
theorem zOT:TabsOk Tryd.prog T37:=(TabsOk.nil.addF zQP)
abbrev G37:Ctrs:=csm T37 (λ _ _=>[]) (λ _=>false)
def zMD:Ann:=⟨34,[(0,zK [2,3] [2,3]),(1,zK [3,5] [3,5]),(2,zK [4] [])],
 [],
 [],
 [],[]⟩
abbrev R37:=Bool
abbrev e37 (r:R37):List PA:=[.one (.bool r)]
section
variable {K:List PA->Prop}{n:Net}{t:Tie}
def s37 (n:Net) (t:Tie):Bool :=
  (cond (t.Low == (-1000000000000:Int))
 (cond (t.High == (1000000000000:Int))
 true
 (decide ((s34 n t.From t.To).High<=t.High)))
 (cond (decide ((s34 n t.From t.To).Low >= t.Low))
 (cond (t.High == (1000000000000:Int))
 true
 (decide ((s34 n t.From t.To).High<=t.High)))
 false))
def p37 (n:Net) (t:Tie):Bool :=
  (decide ((p34 n t.From t.To=true)) &&
 true)
end
theorem q37 (n:Net) (t:Tie) (K:List PA->Prop) (hs:p37 n t=true) (hk:K (e37 (s37 n t))):vcFun Tryd.prog G37 zMD 37 [.agg (enc_24 n),.agg (enc_40 t)] K :=
  zaS (by kernel_rfl) (zaO hs λ hc hs=>And.intro (And.intro (zE enc_40 4 n.Ties.get) hc) (zt hk (λ hk=>(zt hk (λ hk=>hk) (λ hk=>hk))) (λ hk=>(zt hk (λ hk=>(zt hk (λ hk=>hk) (λ hk=>hk))) (λ hk=>hk)))))
def zI8 : List PA → COut
  | [.agg [.int .i64 zaf,.sl zac zat zab],.agg [.int .i64 zbF,.int .i64 zdE,.int .i64 zcg,.int .i64 zbG]]=>.det (IsE enc_40 4 zat zab/\p37 (⟨zaf,(⟨zac,zal zab⟩:(Sl Tie))⟩:Net) (⟨zbF,zdE,zcg,zbG⟩:Tie)=true) [.one (.bool (s37 (⟨zaf,(⟨zac,zal zab⟩:(Sl Tie))⟩:Net) (⟨zbF,zdE,zcg,zbG⟩:Tie)))]
  | _=>.no
theorem zME:zar Tryd.prog 37:=⟨_,rfl,rfl,by kernel_rfl⟩
theorem zQQ:Ok Tryd.prog 37 zI8:=zbc zOT zME λ args K h=>by
  unfold zI8 at h
  split at h
  · rename_i zaf zac zat zab zbF zdE zcg zbG
    obtain⟨⟨⟨rfl,zan,rfl⟩,hs⟩,hk⟩:=h
    try rw[zaj zan] at hs
    try rw[zaj zan] at hk
    exact⟨(λ _ _=>[]),(λ _=>false),zMD,q37 (⟨zaf,(⟨zac,zan⟩:(Sl Tie))⟩:Net) (⟨zbF,zdE,zcg,zbG⟩:Tie) K hs hk⟩
  · exact h.elim
abbrev T59:Tabs:=(((Tabs.nil.addF 27 zDk).addF 37 zI8).addF 60 zAr)
theorem zOU:TabsOk Tryd.prog T59:=(((TabsOk.nil.addF zPB).addF zQQ).addF zOH)
abbrev G59:Ctrs:=csm T59 (λ _ _=>[]) (λ _=>false)
def zI9:Ann:=⟨48,[(0,zK [1] [1]),(1,zK [1,3] [1]),(2,zK [1,3,4] [1]),(3,zK [1,3,4,12] [1,31]),(4,zK [1,3,4] [1,31]),(5,zK [1,3,4,27] [1,31]),(6,zK [1,3,4] [1,31]),(7,zK [1,3,5] [1,31]),(8,zK [1,3,5,6] [1,31]),(9,zK [1,3,5,6,36] [1,31,46]),(10,zK [1,3,5,6] [1,31,46]),(11,zK [1,3,5,6,42] [1,31,46]),(12,zK [1,3,5,6] [1,31,46]),(13,zK [2] [46])],
 [(3,⟨[1,3,4],[1,31],[(3,31,3,λ _=>zae default)],[],[],[],[]⟩),(9,⟨[1,3,5,6],[1,31,46],[(5,46,3,λ _=>zae default)],[],[],[],[]⟩)],
 [(6,zK [1,3,4,27] [1,31]),(7,zK [1,3] [1,31]),(12,zK [1,3,5,6,42] [1,31,46])],
 [],[]⟩
abbrev R59:=(Sl Int)
abbrev e59 (r:R59):List PA:=[.one (.sl r.len 1 (λ i=>zae (r.get i)))]
@[irreducible] def z59:=ptF Tryd.prog G59 zI9 Tryd.f59
def zE7 (n:Net) (iv0:Int) (zbK:(Sl Int)) (zgi:Nat->List PV):St:=⟨[(1,zp 1 0),(3,zv 31),(4,zI iv0)],[(1,.box 24 (zm (enc_24 n))),(31,.vec 3 1 8 zbK.len zgi)],[]⟩
abbrev zJa (K:List PA->Prop) (n:Net) (X:St->Prop) (P:Int->(Sl Int)->Bool) (S:Int->(Sl Int)->(Sl Int)):Prop:=∀ ⦃iv0:Int⦄ ⦃zbK:(Sl Int)⦄ ⦃zgi:Nat->List PV⦄,P iv0 zbK=true->K (e59 (S iv0 zbK))->zgi=zg zae zbK->X (zE7 n iv0 zbK zgi)
def zE8 (n:Net) (iv3:Int) (zdX:(Sl Int)) (zeO:(Sl Int)) (zgj:Nat->List PV) (zgk:Nat->List PV):St:=⟨[(1,zp 1 0),(3,zv 31),(5,zv 46),(6,zI iv3)],[(1,.box 24 (zm (enc_24 n))),(31,.vec 3 1 8 zdX.len zgj),(46,.vec 3 1 8 zeO.len zgk)],[]⟩
abbrev zJb (K:List PA->Prop) (n:Net) (X:St->Prop) (P:Int->(Sl Int)->(Sl Int)->Bool) (S:Int->(Sl Int)->(Sl Int)->(Sl Int)):Prop:=∀ ⦃iv3:Int⦄ ⦃zdX:(Sl Int)⦄ ⦃zeO:(Sl Int)⦄ ⦃zgj:Nat->List PV⦄ ⦃zgk:Nat->List PV⦄,P iv3 zdX zeO=true->K (e59 (S iv3 zdX zeO))->zgj=zg zae zdX->zgk=zg zae zeO->X (zE8 n iv3 zdX zeO zgj zgk)
section
variable {K:List PA->Prop}{n:Net}{iv0:Int}{zbK:(Sl Int)}{zgi:Nat->List PV}{X0:St->Prop}{P0:Int->(Sl Int)->Bool}{S0:Int->(Sl Int)->(Sl Int)}{iv1:Int}{zrv:Bool}{zgl:(Sl Int)}{zAS:Nat->List PV}{zpt:(Sl Int)}{zAT:Nat->List PV}{iv3:Int}{zdX:(Sl Int)}{zeO:(Sl Int)}{zgj:Nat->List PV}{zgk:Nat->List PV}{X3:St->Prop}{P3:Int->(Sl Int)->(Sl Int)->Bool}{S3:Int->(Sl Int)->(Sl Int)->(Sl Int)}{iv4:Int}{zrx:Bool}{zlH:(Sl Int)}{zgm:(Sl Int)}{zAU:Nat->List PV}{zAV:Nat->List PV}
def zry (S3:Int->(Sl Int)->(Sl Int)->(Sl Int)) (n:Net) (iv4:Int) (zrx:Bool) (zlH:(Sl Int)) (zgm:(Sl Int)):(Sl Int) :=
  (cond zrx
 (S3 (w64 (iv4+(1:Int))) zlH (⟨(zgm.len+1),(zdU zgm.len zgm.get (λ _=>iv4))⟩:Sl Int))
 (S3 (w64 (iv4+(1:Int))) zlH zgm))
def zrz (P3:Int->(Sl Int)->(Sl Int)->Bool) (n:Net) (iv4:Int) (zrx:Bool) (zlH:(Sl Int)) (zgm:(Sl Int)):Bool :=
  (cond zrx
 (decide (((zgm.len+1) * 8<=140737488355328/\zgm.len+1<=9223372036854775807)) &&
 (P3 (w64 (iv4+(1:Int))) zlH (⟨(zgm.len+1),(zdU zgm.len zgm.get (λ _=>iv4))⟩:Sl Int)))
 (P3 (w64 (iv4+(1:Int))) zlH zgm))
theorem zJc (hX3:zJb K n X3 P3 S3) (hs:zrz P3 n iv4 zrx zlH zgm=true) (hk:K (e59 (zry S3 n iv4 zrx zlH zgm))) (zJd:zAU=zg zae zlH) (zJe:zAV=zg zae zgm):z59 K [1,1,1,1,0,1,0,0,1,0,0,1] [X3] ⟨[(1,zp 1 0),(3,zv 31),(5,zv 46),(6,zI iv4),(42,zB zrx)],[(1,.box 24 (zm (enc_24 n))),(31,.vec 3 1 8 zlH.len zAU),(46,.vec 3 1 8 zgm.len zAV)],[]⟩:=by subst zJd;subst zJe;exact zaS (by kernel_rfl) (zc hs hk (λ hs hk=>(zaO hs λ hc hs=>And.intro hc (hX3 hs hk rfl (zfy (enc:=zae) (f:=zgm.get) (h:=(λ _=>iv4)) rfl rfl)))) (λ hs hk=>(hX3 hs hk rfl rfl)))
def ziY (n:Net) (S3:Int->(Sl Int)->(Sl Int)->(Sl Int)) (iv3:Int) (zdX:(Sl Int)) (zeO:(Sl Int)):(Sl Int) :=
  (cond (decide (iv3 < (n.Ties.len : Int)))
 (zry S3 n iv3 (!(s60 zdX iv3)) zdX zeO)
 zeO)
def ziZ (n:Net) (P3:Int->(Sl Int)->(Sl Int)->Bool) (iv3:Int) (zdX:(Sl Int)) (zeO:(Sl Int)):Bool :=
  (cond (decide (iv3 < (n.Ties.len : Int)))
 (decide ((p60 zdX iv3=true)) &&
 (zrz P3 n iv3 (!(s60 zdX iv3)) zdX zeO))
 true)
def zhq (n:Net):Nat->Int->(Sl Int)->(Sl Int)->(Sl Int):=lpO (λ _ _ _=>default) (ziY n)
def zhr (n:Net):Nat->Int->(Sl Int)->(Sl Int)->Bool:=lpO (λ _ _ _=>false) (ziZ n)
def zAW (n:Net) (iv3:Int) (zdX:(Sl Int)) (zeO:(Sl Int)):(Sl Int):=zhq n Fuel iv3 zdX zeO
def zAX (n:Net) (iv3:Int) (zdX:(Sl Int)) (zeO:(Sl Int)):Bool:=zhr n Fuel iv3 zdX zeO
theorem zJf (hs:zAX n iv3 zdX zeO=true) (hk:K (e59 (zAW n iv3 zdX zeO))) (zrA:zgj=zg zae zdX) (zrB:zgk=zg zae zeO):z59 K [1,1,1,1,0,1,0] [] (zE8 n iv3 zdX zeO zgj zgk) :=
  zl (λ X=>z59 K [1,1,1,1,0,1,0,0] [X]) (by kernel_rfl) λ X3 hX =>
  (show ∀ k, zJb K n X3 (zhr n k) (zhq n k) from zd0 _ _ (ziZ n) (ziY n) (zJb K n X3)
 (by intro _ _ _ _ _ hs;exact absurd hs dqk)
 (by intro P3 S3 hX3 iv3 zdX zeO zgj zgk hs hk zrA zrB;subst zrA;subst zrB;exact hX _ (zaS (by kernel_rfl) (zc hs hk (λ hs hk=>(zaO hs λ hc hs=>And.intro (And.intro (zE zae 1 zdX.get) hc) (zJc hX3 hs hk rfl rfl))) (λ hs hk=>hk))))) _ hs hk zrA zrB
def zrC (n:Net) (zpt:(Sl Int)):(Sl Int) :=
  (zAW n (0:Int) zpt (⟨0,(λ _=>default)⟩:Sl Int))
def zrD (n:Net) (zpt:(Sl Int)):Bool :=
  (zAX n (0:Int) zpt (⟨0,(λ _=>default)⟩:Sl Int))
theorem zJg (hs:zrD n zpt=true) (hk:K (e59 (zrC n zpt))) (zJh:zAT=zg zae zpt):z59 K [1,1,1] [] ⟨[(1,zp 1 0),(3,zv 31)],[(1,.box 24 (zm (enc_24 n))),(31,.vec 3 1 8 zpt.len zAT)],[]⟩:=by subst zJh;exact zaS (by kernel_rfl) (zJf hs hk rfl rfl)
def znN (S0:Int->(Sl Int)->(Sl Int)) (n:Net) (iv1:Int) (zrv:Bool) (zgl:(Sl Int)):(Sl Int) :=
  (cond zrv
 (S0 (w64 (iv1 - (1:Int))) (⟨(zgl.len+1),(zdU zgl.len zgl.get (λ _=>iv1))⟩:Sl Int))
 (S0 (w64 (iv1 - (1:Int))) zgl))
def znO (P0:Int->(Sl Int)->Bool) (n:Net) (iv1:Int) (zrv:Bool) (zgl:(Sl Int)):Bool :=
  (cond zrv
 (decide (((zgl.len+1) * 8<=140737488355328/\zgl.len+1<=9223372036854775807)) &&
 (P0 (w64 (iv1 - (1:Int))) (⟨(zgl.len+1),(zdU zgl.len zgl.get (λ _=>iv1))⟩:Sl Int)))
 (P0 (w64 (iv1 - (1:Int))) zgl))
theorem zJi (hX0:zJa K n X0 P0 S0) (hs:znO P0 n iv1 zrv zgl=true) (hk:K (e59 (znN S0 n iv1 zrv zgl))) (zJj:zAS=zg zae zgl):z59 K [1,1,0,1,0,0,1,0,0,1] [X0] ⟨[(1,zp 1 0),(3,zv 31),(4,zI iv1),(27,zB zrv)],[(1,.box 24 (zm (enc_24 n))),(31,.vec 3 1 8 zgl.len zAS)],[]⟩:=by subst zJj;exact zaS (by kernel_rfl) (zc hs hk (λ hs hk=>(zaO hs λ hc hs=>And.intro hc (hX0 hs hk (zfy (enc:=zae) (f:=zgl.get) (h:=(λ _=>iv1)) rfl rfl)))) (λ hs hk=>(hX0 hs hk rfl)))
def zgn (n:Net) (S0:Int->(Sl Int)->(Sl Int)) (iv0:Int) (zbK:(Sl Int)):(Sl Int) :=
  (cond (decide (iv0 >= (0:Int)))
 (znN S0 n iv0 (s37 (s27 n (⟨(zbK.len+1),zaw (appG zbK.len (λ i=>zae (zbK.get i)) (λ _=>(zae iv0)))⟩:(Sl Int))) (n.Ties.get iv0.toNat)) zbK)
 (zrC n zbK))
def zgo (n:Net) (P0:Int->(Sl Int)->Bool) (iv0:Int) (zbK:(Sl Int)):Bool :=
  (cond (decide (iv0 >= (0:Int)))
 (decide ((zbK.len * 8<=140737488355328/\zbK.len<=9223372036854775807)) &&
 (decide (((zbK.len+1) * 8<=140737488355328/\zbK.len+1<=9223372036854775807)) &&
 (decide ((p27 n (⟨(zbK.len+1),zaw (appG zbK.len (λ i=>zae (zbK.get i)) (λ _=>(zae iv0)))⟩:(Sl Int))=true)) &&
 (decide ((0<=iv0/\iv0 < (n.Ties.len:Int))) &&
 (decide ((p37 (s27 n (⟨(zbK.len+1),zaw (appG zbK.len (λ i=>zae (zbK.get i)) (λ _=>(zae iv0)))⟩:(Sl Int))) (n.Ties.get iv0.toNat)=true)) &&
 (znO P0 n iv0 (s37 (s27 n (⟨(zbK.len+1),zaw (appG zbK.len (λ i=>zae (zbK.get i)) (λ _=>(zae iv0)))⟩:(Sl Int))) (n.Ties.get iv0.toNat)) zbK))))))
 (zrD n zbK))
def zi0 (n:Net):Nat->Int->(Sl Int)->(Sl Int):=lpO (λ _ _=>default) (zgn n)
def zi1 (n:Net):Nat->Int->(Sl Int)->Bool:=lpO (λ _ _=>false) (zgo n)
def zrE (n:Net) (iv0:Int) (zbK:(Sl Int)):(Sl Int):=zi0 n Fuel iv0 zbK
def zrF (n:Net) (iv0:Int) (zbK:(Sl Int)):Bool:=zi1 n Fuel iv0 zbK
theorem zJk (hs:zrF n iv0 zbK=true) (hk:K (e59 (zrE n iv0 zbK))) (zrG:zgi=zg zae zbK):z59 K [1,1,0,1,0] [] (zE7 n iv0 zbK zgi) :=
  zl (λ X=>z59 K [1,1,0,1,0,0] [X]) (by kernel_rfl) λ X0 hX =>
  (show ∀ k, zJa K n X0 (zi1 n k) (zi0 n k) from zd0 _ _ (zgo n) (zgn n) (zJa K n X0)
 (by intro _ _ _ hs;exact absurd hs dqk)
 (by intro P0 S0 hX0 iv0 zbK zgi hs hk zrG;subst zrG;exact hX _ (zaS (by kernel_rfl) (zc hs hk (λ hs hk=>(zaO hs λ hc hs=>And.intro hc (zaO hs λ hc hs=>And.intro hc (zaO hs λ hc hs=>And.intro (And.intro (zE enc_40 4 n.Ties.get) (And.intro ((zF6 isE zqn):IsE zae 1 1 (appG zbK.len (λ i=>zae (zbK.get i)) (λ _=>(zae iv0)))) hc)) (zaO hs λ hc hs=>And.intro hc (zaO hs λ hc hs=>And.intro (And.intro (zE enc_40 4 ((s27 n (⟨(zbK.len+1),zaw (appG zbK.len (λ i=>zae (zbK.get i)) (λ _=>(zae iv0)))⟩:(Sl Int))).Ties.get)) (zyN (y:=s27 n (⟨(zbK.len+1),zaw (appG zbK.len (λ i=>zae (zbK.get i)) (λ _=>(zae iv0)))⟩:(Sl Int))) (P:=λ y=>p37 y (n.Ties.get iv0.toNat)=true) hc)) (zyN (y:=s27 n (⟨(zbK.len+1),zaw (appG zbK.len (λ i=>zae (zbK.get i)) (λ _=>(zae iv0)))⟩:(Sl Int))) (P:=λ y=>z59 K [1,1,0,1,0,0,1,0,0,1] [X0] ⟨[(1,zp 1 0),(3,zv 31),(4,zI iv0),(27,zB (s37 y (n.Ties.get iv0.toNat)))],[(1,.box 24 (zm (enc_24 n))),(31,.vec 3 1 8 zbK.len (λ i=>zae (zbK.get i)))],[]⟩) (zJi hX0 hs hk rfl)))))))) (λ hs hk=>(zJg hs hk rfl)))))) _ hs hk zrG
def s59 (n:Net):(Sl Int) :=
  (zrE n (w64 ((n.Ties.len:Int) - (1:Int))) (⟨0,(λ _=>default)⟩:Sl Int))
def p59 (n:Net):Bool :=
  (zrF n (w64 ((n.Ties.len:Int) - (1:Int))) (⟨0,(λ _=>default)⟩:Sl Int))
end
theorem q59 (n:Net) (K:List PA->Prop) (hs:p59 n=true) (hk:K (e59 (s59 n))):vcFun Tryd.prog G59 zI9 59 [.agg (enc_24 n)] K :=
  zaS (by kernel_rfl) (zJk hs hk rfl)
def zJl : List PA → COut
  | [.agg [.int .i64 zaf,.sl zac zat zab]]=>.det (IsE enc_40 4 zat zab/\p59 (⟨zaf,(⟨zac,zal zab⟩:(Sl Tie))⟩:Net)=true) [.one (.sl ((s59 (⟨zaf,(⟨zac,zal zab⟩:(Sl Tie))⟩:Net)).len) 1 (λ i=>zae ((s59 (⟨zaf,(⟨zac,zal zab⟩:(Sl Tie))⟩:Net)).get i)))]
  | _=>.no
theorem zMF:zar Tryd.prog 59:=⟨_,rfl,rfl,by kernel_rfl⟩
theorem zQR:Ok Tryd.prog 59 zJl:=zbc zOU zMF λ args K h=>by
  unfold zJl at h
  split at h
  · rename_i zaf zac zat zab
    obtain⟨⟨⟨rfl,zan,rfl⟩,hs⟩,hk⟩:=h
    try rw[zaj zan] at hs
    try rw[zaj zan] at hk
    exact⟨(λ _ _=>[]),(λ _=>false),zI9,q59 (⟨zaf,(⟨zac,zan⟩:(Sl Tie))⟩:Net) K hs hk⟩
  · exact h.elim
abbrev T16:Tabs:=((((((((((Tabs.nil.addF 20 zIk).addF 21 zIj).addF 23 zIt).addF 25 zCL).addF 27 zDk).addF 31 zIL).addF 35 zIO).addF 58 zIY).addF 59 zJl).addF 60 zAr)
theorem zOV:TabsOk Tryd.prog T16:=((((((((((TabsOk.nil.addF zQF).addF zQE).addF zQH).addF zPe).addF zPB).addF zQI).addF zQJ).addF zQN).addF zQR).addF zOH)
abbrev G16:Ctrs:=csm T16 (λ _ _=>[]) (λ _=>false)
def zJm:Ann:=⟨127,[(0,zK [1] [1]),(1,zK [1,16] [1]),(2,zK [2] []),(3,zK [1,3,4] [1]),(4,zK [1,3,4,25] [1]),(5,zK [2] []),(6,zK [1,3,4,38] [1]),(7,zK [2] []),(8,zK [1,3,57] [1]),(9,zK [2] []),(10,zK [1,3,5] [1]),(11,zK [1,3,5,6] [1]),(12,zK [1,3,5,6,62] [1,72]),(13,zK [1,3,5,6] [1,72]),(14,zK [1,3,5,6,68] [1,72]),(15,zK [1,3,5,6] [1,72]),(16,zK [1,5,7] [1,7,72]),(17,zK [1,5,7,8] [1,7,72]),(18,zK [1,5,7,8,79] [1,7,72]),(19,zK [1,5,7,8] [1,7,72]),(20,zK [1,5,7,8,9,10] [1,7,72]),(21,zK [1,5,7,8,100] [1,7,72]),(22,zK [2] []),(23,zK [7,11] [7]),(24,zK [7,11,105] [7]),(25,zK [7,11] [7]),(26,zK [7,11,12,13] [7]),(27,zK [7,11,125] [7]),(28,zK [2] []),(29,zK [2] [])],
 [(12,⟨[1,3,5,6],[1,72],[(5,72,3,λ _=>zae default)],[],[],[],[]⟩),(18,zK [1,5,7,8] [1,7,72]),(24,zK [7,11] [7])],
 [(2,zK [1,16] [1]),(3,zK [1] [1]),(4,zK [1,3,4] [1]),(5,zK [1,3,4,25] [1]),(6,zK [1,3,4] [1]),(7,zK [1,3,4,38] [1]),(8,zK [1,3,4] [1]),(9,zK [1,3,57] [1]),(10,zK [1,3] [1]),(15,zK [1,3,5,6,68] [1,72]),(16,zK [1,5] [1,72]),(17,zK [1,5,7] [1,7,72]),(21,zK [1,5,7,8,9,10] [1,7,72]),(23,zK [7] [7]),(27,zK [7,11,12,13] [7])],
 [],[]⟩
abbrev R16:=Bool
abbrev e16 (r:R16):List PA:=[.one (.bool r)]
@[irreducible] def z16:=ptF Tryd.prog G16 zJm Tryd.f16
def zE9 (n:Net) (lv2:(Sl Int)) (iv9:Int) (zen:(Sl Int)) (zgp:Nat->List PV):St:=⟨[(1,zp 1 0),(3,zS zae 1 lv2),(5,zv 72),(6,zI iv9)],[(1,.box 24 (zm (enc_24 n))),(72,.vec 3 1 8 zen.len zgp)],[]⟩
abbrev zJn (K:List PA->Prop) (n:Net) (lv2:(Sl Int)) (X:St->Prop) (P:Int->(Sl Int)->Bool) (S:Int->(Sl Int)->Bool):Prop:=∀ ⦃iv9:Int⦄ ⦃zen:(Sl Int)⦄ ⦃zgp:Nat->List PV⦄,P iv9 zen=true->K (e16 (S iv9 zen))->zgp=zg zae zen->X (zE9 n lv2 iv9 zen zgp)
def zAY (n:Net) (zaR:(Sl Int)) (zaI:Int) (zaB:(Sl Tie)) (zh0:Int):St:=⟨[(1,zp 1 0),(5,zv 72),(7,zp 7 0),(8,zI zh0)],[(1,.box 24 (zm (enc_24 n))),(7,.box 24 (zm (enc_24 (⟨zaI,zaB⟩:Net)))),(72,.fvec 1 zaR.len (λ i=>zae (zaR.get i)))],[]⟩
abbrev zAZ (K:List PA->Prop) (n:Net) (zaR:(Sl Int)) (zaI:Int) (zaB:(Sl Tie)) (X:St->Prop) (P:Int->Bool) (S:Int->Bool):Prop:=∀ ⦃zh0:Int⦄,P zh0=true->K (e16 (S zh0))->X (zAY n zaR zaI zaB zh0)
def zA0 (zaI:Int) (zaB:(Sl Tie)) (zeZ:Int):St:=⟨[(7,zp 7 0),(11,zI zeZ)],[(7,.box 24 (zm (enc_24 (⟨zaI,zaB⟩:Net))))],[]⟩
abbrev zA1 (K:List PA->Prop) (zaI:Int) (zaB:(Sl Tie)) (X:St->Prop) (P:Int->Bool) (S:Int->Bool):Prop:=∀ ⦃zeZ:Int⦄,P zeZ=true->K (e16 (S zeZ))->X (zA0 zaI zaB zeZ)
section
variable {K:List PA->Prop}{n:Net}{zaM:Bool}{lv2:(Sl Int)}{ev2:Int}{zMG:Nat->List PV}{zrH:Bool}{zrI:Bool}{zrJ:Bool}{iv9:Int}{zen:(Sl Int)}{zgp:Nat->List PV}{X9:St->Prop}{P9:Int->(Sl Int)->Bool}{S9:Int->(Sl Int)->Bool}{zu4:Int}{zlh:Bool}{zdG:(Sl Int)}{ztV:Nat->List PV}{zaR:(Sl Int)}{ztW:Nat->List PV}{zaI:Int}{zaB:(Sl Tie)}{ztX:Nat->List PV}{zh0:Int}{X13:St->Prop}{P13:Int->Bool}{S13:Int->Bool}{zJo:Int}{zrK:Bool}{zJp:Int}{zeZ:Int}{X16:St->Prop}{P16:Int->Bool}{S16:Int->Bool}{zJq:Int}{zrL:Bool}{zJr:Int}
def znP (S16:Int->Bool) (zaI:Int) (zaB:(Sl Tie)) (zJq:Int) (zrL:Bool) (zJr:Int):Bool :=
  (cond (zJr != (0:Int))
 false
 (cond zrL
 false
 (S16 (w64 (zJq+(1:Int))))))
def znQ (P16:Int->Bool) (zaI:Int) (zaB:(Sl Tie)) (zJq:Int) (zrL:Bool) (zJr:Int):Bool :=
  (cond (zJr != (0:Int))
 true
 (cond zrL
 true
 (P16 (w64 (zJq+(1:Int))))))
theorem zDu (hX16:zA1 K zaI zaB X16 P16 S16) (hs:znQ P16 zaI zaB zJq zrL zJr=true) (hk:K (e16 (znP S16 zaI zaB zJq zrL zJr))):z16 K [1,1,1,1,1,1,1,1,1,1,0,1,0,0,1,0,0,1] [X16] ⟨[(7,zp 7 0),(11,zI zJq),(12,zB zrL),(13,zI zJr)],[(7,.box 24 (zm (enc_24 (⟨zaI,zaB⟩:Net))))],[]⟩:=zaS (by kernel_rfl) (zc hs hk (λ hs hk=>hk) (λ hs hk=>(zc hs hk (λ hs hk=>hk) (λ hs hk=>(hX16 hs hk)))))
def zgF (zaI:Int) (zaB:(Sl Tie)) (S16:Int->Bool) (zeZ:Int):Bool :=
  (cond (decide (zeZ < (zaB.len : Int)))
 (znP S16 zaI zaB zeZ ((s35 (s27 (⟨zaI,zaB⟩:Net) (⟨1,λ _=>zeZ⟩:(Sl Int))) (zaB.get zeZ.toNat)).1) ((s35 (s27 (⟨zaI,zaB⟩:Net) (⟨1,λ _=>zeZ⟩:(Sl Int))) (zaB.get zeZ.toNat)).2))
 true)
def zgG (zaI:Int) (zaB:(Sl Tie)) (P16:Int->Bool) (zeZ:Int):Bool :=
  (cond (decide (zeZ < (zaB.len : Int)))
 (decide ((p27 (⟨zaI,zaB⟩:Net) (⟨1,λ _=>zeZ⟩:(Sl Int))=true)) &&
 (decide ((0<=zeZ/\zeZ < (zaB.len:Int))) &&
 (decide ((p35 (s27 (⟨zaI,zaB⟩:Net) (⟨1,λ _=>zeZ⟩:(Sl Int))) (zaB.get zeZ.toNat)=true)) &&
 (znQ P16 zaI zaB zeZ ((s35 (s27 (⟨zaI,zaB⟩:Net) (⟨1,λ _=>zeZ⟩:(Sl Int))) (zaB.get zeZ.toNat)).1) ((s35 (s27 (⟨zaI,zaB⟩:Net) (⟨1,λ _=>zeZ⟩:(Sl Int))) (zaB.get zeZ.toNat)).2)))))
 true)
def zgH (zaI:Int) (zaB:(Sl Tie)):Nat->Int->Bool:=lpO (λ _=>default) (zgF zaI zaB)
def zgI (zaI:Int) (zaB:(Sl Tie)):Nat->Int->Bool:=lpO (λ _=>false) (zgG zaI zaB)
def ztY (zaI:Int) (zaB:(Sl Tie)) (zeZ:Int):Bool:=zgH zaI zaB Fuel zeZ
def ztZ (zaI:Int) (zaB:(Sl Tie)) (zeZ:Int):Bool:=zgI zaI zaB Fuel zeZ
theorem zDv (hs:ztZ zaI zaB zeZ=true) (hk:K (e16 (ztY zaI zaB zeZ))):z16 K [1,1,1,1,1,1,1,1,1,1,0,1,0] [] (zA0 zaI zaB zeZ) :=
  zl (λ X=>z16 K [1,1,1,1,1,1,1,1,1,1,0,1,0,0] [X]) (by kernel_rfl) λ X16 hX =>
  (show ∀ k, zA1 K zaI zaB X16 (zgI zaI zaB k) (zgH zaI zaB k) from zd0 _ _ (zgG zaI zaB) (zgF zaI zaB) (zA1 K zaI zaB X16)
 (by intro _ hs;exact absurd hs dqk)
 (by intro P16 S16 hX16 zeZ hs hk;exact hX _ (zaS (by kernel_rfl) (zc hs hk (λ hs hk=>(zaO hs λ hc hs=>And.intro (And.intro (zE enc_40 4 zaB.get) (And.intro (zqn:IsE zae 1 1 (λ _=>(zae zeZ))) hc)) (zaO hs λ hc hs=>And.intro hc (zaO hs λ hc hs=>And.intro (And.intro (zE enc_40 4 ((s27 (⟨zaI,zaB⟩:Net) (⟨1,λ _=>zeZ⟩:(Sl Int))).Ties.get)) (zyN (y:=s27 (⟨zaI,zaB⟩:Net) (⟨1,λ _=>zeZ⟩:(Sl Int))) (P:=λ y=>p35 y (zaB.get zeZ.toNat)=true) hc)) (zyN (y:=s27 (⟨zaI,zaB⟩:Net) (⟨1,λ _=>zeZ⟩:(Sl Int))) (P:=λ y=>z16 K [1,1,1,1,1,1,1,1,1,1,0,1,0,0,1,0,0,1] [X16] ⟨[(7,zp 7 0),(11,zI zeZ),(12,zB ((s35 y (zaB.get zeZ.toNat)).1)),(13,zI ((s35 y (zaB.get zeZ.toNat)).2))],[(7,.box 24 (zm (enc_24 (⟨zaI,zaB⟩:Net))))],[]⟩) (zDu hX16 hs hk)))))) (λ hs hk=>hk))))) _ hs hk
def zjJ (zaI:Int) (zaB:(Sl Tie)):Bool :=
  (ztY zaI zaB (0:Int))
def zjK (zaI:Int) (zaB:(Sl Tie)):Bool :=
  (ztZ zaI zaB (0:Int))
theorem zDw (hs:zjK zaI zaB=true) (hk:K (e16 (zjJ zaI zaB))):z16 K [1,1,1,1,1,1,1,1,1,1] [] ⟨[(7,zp 7 0)],[(7,.box 24 (zm (enc_24 (⟨zaI,zaB⟩:Net))))],[]⟩:=zaS (by kernel_rfl) (zDv hs hk)
def znR (S13:Int->Bool) (n:Net) (zaR:(Sl Int)) (zaI:Int) (zaB:(Sl Tie)) (zJo:Int) (zrK:Bool) (zJp:Int):Bool :=
  (cond (zJp != (0:Int))
 false
 (cond (!zrK)
 false
 (S13 (w64 (zJo+(1:Int))))))
def znS (P13:Int->Bool) (n:Net) (zaR:(Sl Int)) (zaI:Int) (zaB:(Sl Tie)) (zJo:Int) (zrK:Bool) (zJp:Int):Bool :=
  (cond (zJp != (0:Int))
 true
 (cond (!zrK)
 true
 (P13 (w64 (zJo+(1:Int))))))
theorem zDx (hX13:zAZ K n zaR zaI zaB X13 P13 S13) (hs:znS P13 n zaR zaI zaB zJo zrK zJp=true) (hk:K (e16 (znR S13 n zaR zaI zaB zJo zrK zJp))):z16 K [1,1,1,1,1,1,1,1,1,0,1,0,0,1,0,0,1] [X13] ⟨[(1,zp 1 0),(5,zv 72),(7,zp 7 0),(8,zI zJo),(9,zB zrK),(10,zI zJp)],[(1,.box 24 (zm (enc_24 n))),(7,.box 24 (zm (enc_24 (⟨zaI,zaB⟩:Net)))),(72,.fvec 1 zaR.len (λ i=>zae (zaR.get i)))],[]⟩:=zaS (by kernel_rfl) (zc hs hk (λ hs hk=>hk) (λ hs hk=>(zc hs hk (λ hs hk=>hk) (λ hs hk=>(hX13 hs hk)))))
def zgJ (n:Net) (zaR:(Sl Int)) (zaI:Int) (zaB:(Sl Tie)) (S13:Int->Bool) (zh0:Int):Bool :=
  (cond (decide (zh0 < (zaR.len : Int)))
 (znR S13 n zaR zaI zaB zh0 ((s35 (⟨zaI,zaB⟩:Net) (n.Ties.get ((zaR.get zh0.toNat).toNat))).1) ((s35 (⟨zaI,zaB⟩:Net) (n.Ties.get ((zaR.get zh0.toNat).toNat))).2))
 (zjJ zaI zaB))
def zgK (n:Net) (zaR:(Sl Int)) (zaI:Int) (zaB:(Sl Tie)) (P13:Int->Bool) (zh0:Int):Bool :=
  (cond (decide (zh0 < (zaR.len : Int)))
 (decide ((0<=zh0/\zh0 < (zaR.len:Int))) &&
 (decide ((0<=(zaR.get zh0.toNat)/\(zaR.get zh0.toNat) < (n.Ties.len:Int))) &&
 (decide ((p35 (⟨zaI,zaB⟩:Net) (n.Ties.get ((zaR.get zh0.toNat).toNat))=true)) &&
 (znS P13 n zaR zaI zaB zh0 ((s35 (⟨zaI,zaB⟩:Net) (n.Ties.get ((zaR.get zh0.toNat).toNat))).1) ((s35 (⟨zaI,zaB⟩:Net) (n.Ties.get ((zaR.get zh0.toNat).toNat))).2)))))
 (zjK zaI zaB))
def zgL (n:Net) (zaR:(Sl Int)) (zaI:Int) (zaB:(Sl Tie)):Nat->Int->Bool:=lpO (λ _=>default) (zgJ n zaR zaI zaB)
def zgM (n:Net) (zaR:(Sl Int)) (zaI:Int) (zaB:(Sl Tie)):Nat->Int->Bool:=lpO (λ _=>false) (zgK n zaR zaI zaB)
def zt0 (n:Net) (zaR:(Sl Int)) (zaI:Int) (zaB:(Sl Tie)) (zh0:Int):Bool:=zgL n zaR zaI zaB Fuel zh0
def zt1 (n:Net) (zaR:(Sl Int)) (zaI:Int) (zaB:(Sl Tie)) (zh0:Int):Bool:=zgM n zaR zaI zaB Fuel zh0
theorem zDy (hs:zt1 n zaR zaI zaB zh0=true) (hk:K (e16 (zt0 n zaR zaI zaB zh0))):z16 K [1,1,1,1,1,1,1,1,1,0,1,0] [] (zAY n zaR zaI zaB zh0) :=
  zl (λ X=>z16 K [1,1,1,1,1,1,1,1,1,0,1,0,0] [X]) (by kernel_rfl) λ X13 hX =>
  (show ∀ k, zAZ K n zaR zaI zaB X13 (zgM n zaR zaI zaB k) (zgL n zaR zaI zaB k) from zd0 _ _ (zgK n zaR zaI zaB) (zgJ n zaR zaI zaB) (zAZ K n zaR zaI zaB X13)
 (by intro _ hs;exact absurd hs dqk)
 (by intro P13 S13 hX13 zh0 hs hk;exact hX _ (zaS (by kernel_rfl) (zc hs hk (λ hs hk=>(zaO hs λ hc hs=>And.intro hc (zaO hs λ hc hs=>And.intro hc (zaO hs λ hc hs=>And.intro (And.intro (zE enc_40 4 zaB.get) hc) (zDx hX13 hs hk))))) (λ hs hk=>(zDw hs hk)))))) _ hs hk
def znT (n:Net) (zaR:(Sl Int)) (zaI:Int) (zaB:(Sl Tie)):Bool :=
  (zt0 n zaR zaI zaB (0:Int))
def znU (n:Net) (zaR:(Sl Int)) (zaI:Int) (zaB:(Sl Tie)):Bool :=
  (zt1 n zaR zaI zaB (0:Int))
theorem zDz (hs:znU n zaR zaI zaB=true) (hk:K (e16 (znT n zaR zaI zaB))) (zDA:ztX=zg enc_40 zaB):z16 K [1,1,1,1,1,1,1,1,1] [] ⟨[(1,zp 1 0),(5,zv 72),(7,zp 7 0)],[(1,.box 24 (zm (enc_24 n))),(7,.box 24 [zi zaI,.p (.sl zaB.len 4 ztX)]),(72,.fvec 1 zaR.len (λ i=>zae (zaR.get i)))],[]⟩:=by subst zDA;exact zaS (by kernel_rfl) (zDy hs hk)
def zjL (n:Net) (zaR:(Sl Int)):Bool :=
  (znT n zaR ((s27 n zaR).Nodes) ((s27 n zaR).Ties))
def zjM (n:Net) (zaR:(Sl Int)):Bool :=
  (decide ((p27 n zaR=true)) &&
 (znU n zaR ((s27 n zaR).Nodes) ((s27 n zaR).Ties)))
theorem zDB (hs:zjM n zaR=true) (hk:K (e16 (zjL n zaR))) (zDC:ztW=zg zae zaR):z16 K [1,1,1,1,1,1,1,1] [] ⟨[(1,zp 1 0),(5,zv 72)],[(1,.box 24 (zm (enc_24 n))),(72,.vec 3 1 8 zaR.len ztW)],[]⟩:=by subst zDC;exact zaS (by kernel_rfl) (zaO hs λ hc hs=>And.intro (And.intro (zE enc_40 4 n.Ties.get) (And.intro (zE zae 1 zaR.get) hc)) (zDz hs hk rfl))
def znV (S9:Int->(Sl Int)->Bool) (n:Net) (lv2:(Sl Int)) (zu4:Int) (zlh:Bool) (zdG:(Sl Int)):Bool :=
  (cond zlh
 (S9 (w64 (zu4+(1:Int))) (⟨(zdG.len+1),(zdU zdG.len zdG.get (λ _=>zu4))⟩:Sl Int))
 (S9 (w64 (zu4+(1:Int))) zdG))
def znW (P9:Int->(Sl Int)->Bool) (n:Net) (lv2:(Sl Int)) (zu4:Int) (zlh:Bool) (zdG:(Sl Int)):Bool :=
  (cond zlh
 (decide (((zdG.len+1) * 8<=140737488355328/\zdG.len+1<=9223372036854775807)) &&
 (P9 (w64 (zu4+(1:Int))) (⟨(zdG.len+1),(zdU zdG.len zdG.get (λ _=>zu4))⟩:Sl Int)))
 (P9 (w64 (zu4+(1:Int))) zdG))
theorem zDD (hX9:zJn K n lv2 X9 P9 S9) (hs:znW P9 n lv2 zu4 zlh zdG=true) (hk:K (e16 (znV S9 n lv2 zu4 zlh zdG))) (zDE:ztV=zg zae zdG):z16 K [1,1,1,1,1,1,1,0,1,0,0,1,0,0,1] [X9] ⟨[(1,zp 1 0),(3,zS zae 1 lv2),(5,zv 72),(6,zI zu4),(68,zB zlh)],[(1,.box 24 (zm (enc_24 n))),(72,.vec 3 1 8 zdG.len ztV)],[]⟩:=by subst zDE;exact zaS (by kernel_rfl) (zc hs hk (λ hs hk=>(zaO hs λ hc hs=>And.intro hc (hX9 hs hk (zfy (enc:=zae) (f:=zdG.get) (h:=(λ _=>zu4)) rfl rfl)))) (λ hs hk=>(hX9 hs hk rfl)))
def zi2 (n:Net) (lv2:(Sl Int)) (S9:Int->(Sl Int)->Bool) (iv9:Int) (zen:(Sl Int)):Bool :=
  (cond (decide (iv9 < (n.Ties.len : Int)))
 (znV S9 n lv2 iv9 (!(s60 lv2 iv9)) zen)
 (zjL n zen))
def zi3 (n:Net) (lv2:(Sl Int)) (P9:Int->(Sl Int)->Bool) (iv9:Int) (zen:(Sl Int)):Bool :=
  (cond (decide (iv9 < (n.Ties.len : Int)))
 (decide ((p60 lv2 iv9=true)) &&
 (znW P9 n lv2 iv9 (!(s60 lv2 iv9)) zen))
 (zjM n zen))
def zhs (n:Net) (lv2:(Sl Int)):Nat->Int->(Sl Int)->Bool:=lpO (λ _ _=>default) (zi2 n lv2)
def zht (n:Net) (lv2:(Sl Int)):Nat->Int->(Sl Int)->Bool:=lpO (λ _ _=>false) (zi3 n lv2)
def zA2 (n:Net) (lv2:(Sl Int)) (iv9:Int) (zen:(Sl Int)):Bool:=zhs n lv2 Fuel iv9 zen
def zA3 (n:Net) (lv2:(Sl Int)) (iv9:Int) (zen:(Sl Int)):Bool:=zht n lv2 Fuel iv9 zen
theorem zJs (hs:zA3 n lv2 iv9 zen=true) (hk:K (e16 (zA2 n lv2 iv9 zen))) (zrM:zgp=zg zae zen):z16 K [1,1,1,1,1,1,1,0,1,0] [] (zE9 n lv2 iv9 zen zgp) :=
  zl (λ X=>z16 K [1,1,1,1,1,1,1,0,1,0,0] [X]) (by kernel_rfl) λ X9 hX =>
  (show ∀ k, zJn K n lv2 X9 (zht n lv2 k) (zhs n lv2 k) from zd0 _ _ (zi3 n lv2) (zi2 n lv2) (zJn K n lv2 X9)
 (by intro _ _ _ hs;exact absurd hs dqk)
 (by intro P9 S9 hX9 iv9 zen zgp hs hk zrM;subst zrM;exact hX _ (zaS (by kernel_rfl) (zc hs hk (λ hs hk=>(zaO hs λ hc hs=>And.intro (And.intro (zE zae 1 lv2.get) hc) (zDD hX9 hs hk rfl))) (λ hs hk=>(zDB hs hk rfl)))))) _ hs hk zrM
def znX (n:Net) (lv2:(Sl Int)):Bool :=
  (zA2 n lv2 (0:Int) (⟨0,(λ _=>default)⟩:Sl Int))
def znY (n:Net) (lv2:(Sl Int)):Bool :=
  (zA3 n lv2 (0:Int) (⟨0,(λ _=>default)⟩:Sl Int))
theorem zJt (hs:znY n lv2=true) (hk:K (e16 (znX n lv2))):z16 K [1,1,1,1,1,1] [] ⟨[(1,zp 1 0),(3,zS zae 1 lv2)],[(1,.box 24 (zm (enc_24 n)))],[]⟩:=zaS (by kernel_rfl) (zJs hs hk rfl)
def znZ (n:Net) (lv2:(Sl Int)) (zrJ:Bool):Bool :=
  (cond zrJ
 false
 (znX n lv2))
def zn0 (n:Net) (lv2:(Sl Int)) (zrJ:Bool):Bool :=
  (cond zrJ
 true
 (znY n lv2))
theorem zA4 (hs:zn0 n lv2 zrJ=true) (hk:K (e16 (znZ n lv2 zrJ))):z16 K [1,1,1,1,1,0,1] [] ⟨[(1,zp 1 0),(3,zS zae 1 lv2),(57,zB zrJ)],[(1,.box 24 (zm (enc_24 n)))],[]⟩:=zaS (by kernel_rfl) (zc hs hk (λ hs hk=>hk) (λ hs hk=>(zJt hs hk)))
def zrN (n:Net) (lv2:(Sl Int)) (ev2:Int):Bool :=
  (cond (ev2 != (0:Int))
 (znZ n lv2 true)
 (znZ n lv2 (!(s25 lv2 (s59 n)))))
def zrO (n:Net) (lv2:(Sl Int)) (ev2:Int):Bool :=
  (cond (ev2 != (0:Int))
 (zn0 n lv2 true)
 (decide ((p59 n=true)) &&
 (decide ((p25 lv2 (s59 n)=true)) &&
 (zn0 n lv2 (!(s25 lv2 (s59 n)))))))
theorem zJu (hs:zrO n lv2 ev2=true) (hk:K (e16 (zrN n lv2 ev2))):z16 K [1,1,1,1,1] [] ⟨[(1,zp 1 0),(3,zS zae 1 lv2),(4,zI ev2)],[(1,.box 24 (zm (enc_24 n)))],[]⟩:=zaS (by kernel_rfl) (zc hs hk (λ hs hk=>(zA4 hs hk)) (λ hs hk=>(zaO hs λ hc hs=>And.intro (And.intro (zE enc_40 4 n.Ties.get) hc) (zaO hs λ hc hs=>And.intro (And.intro (zE zae 1 lv2.get) (And.intro (zE zae 1 ((s59 n).get)) (zy (y:=s59 n) (P:=λ y=>p25 lv2 y=true) hc))) (zy (y:=s59 n) (P:=λ y=>z16 K [1,1,1,1,1,0,1] [] ⟨[(1,zp 1 0),(3,zS zae 1 lv2),(57,zB (!(s25 lv2 y)))],[(1,.box 24 (zm (enc_24 n)))],[]⟩) (zA4 hs hk))))))
def zn1 (n:Net) (lv2:(Sl Int)) (ev2:Int) (zrI:Bool):Bool :=
  (cond zrI
 (cond (ev2 == (5:Int))
 (cond ((lv2.len : Int) == (0:Int))
 true
 false)
 false)
 (zrN n lv2 ev2))
def zn2 (n:Net) (lv2:(Sl Int)) (ev2:Int) (zrI:Bool):Bool :=
  (cond zrI
 true
 (zrO n lv2 ev2))
theorem zJv (hs:zn2 n lv2 ev2 zrI=true) (hk:K (e16 (zn1 n lv2 ev2 zrI))):z16 K [1,1,1,1,0,1] [] ⟨[(1,zp 1 0),(3,zS zae 1 lv2),(4,zI ev2),(38,zB zrI)],[(1,.box 24 (zm (enc_24 n)))],[]⟩:=zaS (by kernel_rfl) (zc hs hk (λ hs hk=>(zt hk (λ hk=>(zt hk (λ hk=>hk) (λ hk=>hk))) (λ hk=>hk))) (λ hs hk=>(zJu hs hk)))
def zrP (n:Net) (lv2:(Sl Int)) (ev2:Int):Bool :=
  (zn1 n lv2 ev2 (!(s31 n)))
def zrQ (n:Net) (lv2:(Sl Int)) (ev2:Int):Bool :=
  (decide ((p31 n=true)) &&
 (zn2 n lv2 ev2 (!(s31 n))))
theorem zJw (hs:zrQ n lv2 ev2=true) (hk:K (e16 (zrP n lv2 ev2))):z16 K [1,1,1,1] [] ⟨[(1,zp 1 0),(3,zS zae 1 lv2),(4,zI ev2)],[(1,.box 24 (zm (enc_24 n)))],[]⟩:=zaS (by kernel_rfl) (zaO hs λ hc hs=>And.intro (And.intro (zE enc_40 4 n.Ties.get) hc) (zJv hs hk))
def zn3 (n:Net) (lv2:(Sl Int)) (ev2:Int) (zrH:Bool):Bool :=
  (cond zrH
 (cond (ev2 == (2:Int))
 (cond ((lv2.len : Int) == (0:Int))
 true
 false)
 false)
 (zrP n lv2 ev2))
def zn4 (n:Net) (lv2:(Sl Int)) (ev2:Int) (zrH:Bool):Bool :=
  (cond zrH
 true
 (zrQ n lv2 ev2))
theorem zJx (hs:zn4 n lv2 ev2 zrH=true) (hk:K (e16 (zn3 n lv2 ev2 zrH))):z16 K [1,1,1,0,1] [] ⟨[(1,zp 1 0),(3,zS zae 1 lv2),(4,zI ev2),(25,zB zrH)],[(1,.box 24 (zm (enc_24 n)))],[]⟩:=zaS (by kernel_rfl) (zc hs hk (λ hs hk=>(zt hk (λ hk=>(zt hk (λ hk=>hk) (λ hk=>hk))) (λ hk=>hk))) (λ hs hk=>(zJw hs hk)))
def zrR (n:Net) (lv2:(Sl Int)) (ev2:Int):Bool :=
  (zn3 n lv2 ev2 (!(s23 n)))
def zrS (n:Net) (lv2:(Sl Int)) (ev2:Int):Bool :=
  (decide ((p23 n=true)) &&
 (zn4 n lv2 ev2 (!(s23 n))))
theorem zJy (hs:zrS n lv2 ev2=true) (hk:K (e16 (zrR n lv2 ev2))) (zOW:zMG=zg zae lv2):z16 K [1,1,1] [] ⟨[(1,zp 1 0),(3,zP (.sl lv2.len 1 zMG)),(4,zI ev2)],[(1,.box 24 (zm (enc_24 n)))],[]⟩:=by subst zOW;exact zaS (by kernel_rfl) (zaO hs λ hc hs=>And.intro (And.intro (zE enc_40 4 n.Ties.get) hc) (zJx hs hk))
def zrT (n:Net):Bool :=
  (zrR n ((s58 n).1) ((s58 n).2))
def zrU (n:Net):Bool :=
  (decide ((p58 n=true)) &&
 (zrS n ((s58 n).1) ((s58 n).2)))
theorem zJz (hs:zrU n=true) (hk:K (e16 (zrT n))):z16 K [1,1] [] ⟨[(1,zp 1 0)],[(1,.box 24 (zm (enc_24 n)))],[]⟩:=zaS (by kernel_rfl) (zaO hs λ hc hs=>And.intro (And.intro (zE enc_40 4 n.Ties.get) hc) (zJy hs hk rfl))
def zrV (n:Net) (zaM:Bool):Bool :=
  (cond zaM
 true
 (zrT n))
def zrW (n:Net) (zaM:Bool):Bool :=
  (cond zaM
 true
 (zrU n))
theorem zJA (hs:zrW n zaM=true) (hk:K (e16 (zrV n zaM))):z16 K [1,0,1] [] ⟨[(1,zp 1 0),(16,zB zaM)],[(1,.box 24 (zm (enc_24 n)))],[]⟩:=zaS (by kernel_rfl) (zc hs hk (λ hs hk=>hk) (λ hs hk=>(zJz hs hk)))
def s16 (n:Net):Bool :=
  (zrV n (!(s20 n (10:Int))))
def p16 (n:Net):Bool :=
  (zrW n (!(s20 n (10:Int))))
end
theorem q16 (n:Net) (K:List PA->Prop) (hs:p16 n=true) (hk:K (e16 (s16 n))):vcFun Tryd.prog G16 zJm 16 [.agg (enc_24 n)] K :=
  zaS (by kernel_rfl) (And.intro (zE enc_40 4 n.Ties.get) (zJA hs hk))
def zMH : List PA → COut
  | [.agg [.int .i64 zaf,.sl zac zat zab]]=>.det (IsE enc_40 4 zat zab/\p16 (⟨zaf,(⟨zac,zal zab⟩:(Sl Tie))⟩:Net)=true) [.one (.bool (s16 (⟨zaf,(⟨zac,zal zab⟩:(Sl Tie))⟩:Net)))]
  | _=>.no
theorem call16:zar Tryd.prog 16:=⟨_,rfl,rfl,by kernel_rfl⟩
theorem ok16:Ok Tryd.prog 16 zMH:=zbc zOV call16 λ args K h=>by
  unfold zMH at h
  split at h
  · rename_i zaf zac zat zab
    obtain⟨⟨⟨rfl,zan,rfl⟩,hs⟩,hk⟩:=h
    try rw[zaj zan] at hs
    try rw[zaj zan] at hk
    exact⟨(λ _ _=>[]),(λ _=>false),zJm,q16 (⟨zaf,(⟨zac,zan⟩:(Sl Tie))⟩:Net) K hs hk⟩
  · exact h.elim
end Go.Proofs
namespace Go.Proofs.YtedhjaaikeakoaaDoor
open Go Go.Pm Go.ChangeShapes
set_option maxRecDepth 100000
abbrev laid1 : List (String × DataW Unit) := [("overburden/align.never", Rows.laid_overburden_align_never)]
theorem zFa : Tryd.prog.globalNamed "overburden/align.never" = some 0 := by kernel_rfl
theorem zMI:(Tryd.prog.globals[0]?).map (·.type)=some 114:=by kernel_rfl
theorem zMJ:Tryd.prog.cellsOf 114=2:=by kernel_rfl
theorem zPF:Tryd.prog.cellsOf 3=1:=by kernel_rfl
theorem door_met (os:Os) (args:Array Value):laidMetH Tryd.prog laid1 ((World.doorLaid Tryd.prog 400 os).forCall (λ _ _=>0) ⟨#[],args,[]⟩).memory :=
 laidMetH_of_parts3 (fuel:=8) (laidMet_of_run' 8 (by kernel_rfl) (by kernel_rfl)) (by kernel_rfl) (by kernel_rfl)
theorem gl_of {W:World}(h:laidMetH Tryd.prog laid1 W):zd7 (H0 W):=by
 rw[MakeChecks.laidMetH_plain _ _ _ (by kernel_rfl)] at h
 obtain⟨ps,⟨g0,t0,cs0,f0,p0,q0,hg0,ht0,hv0,hd0,_,_⟩,_,_⟩:=h
 obtain rfl:=Option.some.inj (zFa.symm.trans hg0)
 obtain rfl:=Option.some.inj (zMI.symm.trans ht0)
 obtain⟨y0,y1,n,hx,hl,h0,h1⟩:=trod_struct2 Tryd.underlying114 hd0
 simp only[dqh] at hx
 obtain⟨hx,-⟩:=hx
 simp only[Rows.laid_overburden_align_never,DataW.agg.injEq,dqy,and_true] at hx
 obtain⟨k0,e0,d0,_⟩:=DataW.trod_int Tryd.underlying3 h0
 obtain⟨k1,e1,d1,_⟩:=DataW.trod_int Tryd.underlying3 h1
 rw[zMJ] at hl
 have e0':cs0.toList.take 1=[.int .i64 k0]:=by
  have:=e0
  rw[show Tryd.prog.cellsOf _=1 from zPF] at this
  simpa using this
 have e1':(cs0.toList.drop 1).take 1=[.int .i64 k1]:=by
  have:=e1
  rw[show Tryd.prog.cellsOf _=1 from zPF] at this
  simpa using this
 have hk0:k0=1000000000000:=by have:=hx.1;rw[d0] at this;injection this with a;injection a with _ a;exact a.symm
 have hk1:k1=0:=by have:=hx.2;rw[d1] at this;injection this with a;injection a with _ a;exact a.symm
 have hC:cs0.toList=[.int .i64 1000000000000,.int .i64 0]:=by
  have h2:cs0.toList=cs0.toList.take 1 ++ (cs0.toList.drop 1).take 1:=by
   rw[<- List.take_add,List.take_of_length_le (by omega)]
  rw[h2,e0',e1',hk0,hk1];rfl
 intro k l hk
 unfold World.var? at hv0
 rw[zFa] at hv0
 simp only[Option.bind_some] at hv0
 cases k with
 | succ k=>cases hk
 | zero =>
  obtain rfl:[PV.int .i64 1000000000000,.int .i64 0]=l:=Option.some.inj hk
  cases eo:W.heap[0]? with
  | none=>rw[eo] at hv0;cases hv0
  | some o =>
   rw[eo] at hv0
   cases o with
   | cells C ty fr =>
    simp only[dqa] at hv0
    subst hv0
    exact⟨_,ty,fr,by unfold H0;rw[eo];rfl,by rw[hC];exact⟨.int _ _,.int _ _,trivial⟩⟩
   | _=>cases hv0
end Go.Proofs.YtedhjaaikeakoaaDoor
namespace Go.Proofs.YtedhjaaikeakoaaDoor
set_option maxRecDepth 100000
def dc : Nat → Nat → List Char
  | 0,_=>[]
  | k+1,n=>Char.ofNat (n % 128) :: dc k (n / 128)
def ioR:List (List Char):=[dc 2 14945,dc 38 107265865644741724912243125268531249640326942553430557205577479631290979090791279,dc 38 108293077817484906734254386447616441263814988321737617043972465573863363972791151,dc 38 93370879016013017278412803021783510280543711028000410236402271261457424383048559,dc 38 107258694022858408970435192345127867927486736974969802526482043864463718682819439,dc 39 13746719959472648153406769131206406626558510298776447130317981093147086104311724911,dc 38 107266209769642888316488957616301258915172789321380384129051881327065490379078511,dc 39 13738338888634744287462113483281891133786406809494667074737303271467843731645365103,dc 38 107308724040215521434011850380931925905298338556088488294726402895071789331348335,dc 43 3689337697451499537899652006011379275272339788637320245734945509069109267079825879406836591,dc 38 106339254617564648824502995819756623291246721172574690728430612464564447869500271,dc 38 107330772524736890892060720350443696785457349727637599143704802418857719933533039,dc 38 107266380701743786104986999119182321999123657451770743386930499759721679104342895,dc 38 107308728471136676073553801914045189487148679029700448428114571309412341010496367,dc 37 837954515553292543489687687552621780150771894250034810644180755742461368302447,dc 38 107287017468262091873827311208814906259154281073825133055543027267698112966785903,dc 38 107374028509112486977837548216825331243033985081330090052312008930171490580134767,dc 38 107265533895345759970156929786145176805363222797160045994169685653949991330872175]
def ioN:List Char:=dc 748 14110378018767575964226655308004126793045208087310171201555892242252648960690434620806224759478349222793457564936136773140206884019406577404308477398112682127111429688458091804136369451876026010391452929509304596612007749348823331848074321521876163367611471766311661795807971626777430789606670518996161301806853738256348343737238826384171739901612950230839336053519876648582653265928992265003442337249315020340640568624042171724319570015876863120612063908539839480788963015814409324055605425425582212723687691771037045010066064867754736841809752569547023397197010564985861497252960727260554984899190782686002829257997185443421456271698218584945985148990383891392482548262956659989814614329905290488435125286744085629934720469444029598243369313538259143807170350259387234145666063103371643809341342441092158617040725699310351084585854817129011753246127748964030413854525633190715875548631480060648955255476518703717934493416584654287151545453027212072361023366870608725576042669368667333719675724995494706645777621137060304017521484702088503639607947747215026989263530504204523251982333933107210391579300884546305432560571086131943194743723205005815139772394062686780566686930384812217785365992657908782936586832589627342388339882126362151219006413773645814561079952905486963953952063552645778936398310246717058410743450648594152841163565946295251582585294350653230459132165827590128826417871324965536217148578987470925657879977171716100377657863588641203253643922875913460814715430695689192746980757875303892414899783421563436119681070640173712093473782554642421452415184974056
theorem ioS:Tryd.prog.initOrder=String.ofList ioN:=by kernel_rfl
theorem ioL:Tryd.prog.initOrder.toList=ioN:=(congrArg String.toList ioS).trans String.toList_ofList
theorem ioW:wordsSigns Tryd.prog.initOrder.toList=(dc 7 509754063237352) :: (dc 64 583581952082889979719035725534559484815115086455805852996510235646750355970935781905203483690318741732481452225105900421668580921071669) :: (dc 3 1915619) :: ioR:=(congrArg wordsSigns ioL).trans (by kernel_rfl)
theorem ioB:behindMainWord (wordsSigns Tryd.prog.initOrder.toList)=(dc 3 1915619) :: ioR:=(congrArg behindMainWord ioW).trans (by kernel_rfl)
theorem zpu {P : Program} {l : List (List Char)} (h : behindMainWord (wordsSigns P.initOrder.toList) = l) : P.headLifts = (if (stripLifts liftWords l).2.head? == some "cut".toList then (stripLifts liftWords l).1 else []) := by subst h; rfl
theorem zJB {P:Program}{rest:List (List Char)}(h:behindMainWord (wordsSigns P.initOrder.toList)=(dc 3 1915619) :: rest):P.make=some .cut:=by unfold Program.make;rw[h];rfl
theorem zDF {P:Program}{rest:List (List Char)}(h:behindMainWord (wordsSigns P.initOrder.toList)=(dc 3 1915619) :: rest) (hl:P.headLifts=[]):P.liftsFinal=false:=by unfold Program.liftsFinal;rw[h,hl];rfl
theorem zJC {P : Program} {a b : List Char} {rest : List (List Char)} (h : wordsSigns P.initOrder.toList = a :: b :: rest) (hs : isSumSigns b = true) (ha : (a == "harness".toList) = true) : P.mainIs = some (true, b) := by unfold Program.mainIs; rw [h]; simp only [hs, ha]; rfl
theorem zDG {P : Program} {c : List Char} {rest : List (List Char)} (h : behindMainWord (wordsSigns P.initOrder.toList) = c :: rest) (hst : (stripLifts liftWords (c :: rest)).2.head? = some "cut".toList)
    (hs1:(stripLifts liftWords (c :: rest)).1=[]) (hlay:P.laysLater=false) (hb:P.bearsReflect=false) (hd:P.doorFits []=true):P.mayEnter=true:=by
  unfold Program.mayEnter
  rw[h]
  simp[hst,hs1,hlay,hb,hd]
theorem ioH:Tryd.prog.headLifts=[]:=(zpu ioB).trans (by kernel_rfl)
theorem ioK:Tryd.prog.make=some .cut:=zJB ioB
theorem ioF:Tryd.prog.liftsFinal=false:=zDF ioB ioH
theorem ioM : Tryd.prog.mainIs = some (true, "5097d02014b7f9bdc457588f16a61179f96daee4a085c0a2c5462d863db43dbf".toList) := (zJC ioW (by kernel_rfl) (by kernel_rfl)).trans (by kernel_rfl)
theorem ioE:Tryd.prog.mayEnter=true:=zDG ioB (by kernel_rfl) (by kernel_rfl) (by kernel_rfl) (by kernel_rfl) (by kernel_rfl)
end Go.Proofs.YtedhjaaikeakoaaDoor
namespace Go.Pm
open Go

theorem zb9 {x:Int}(h1 : -9223372036854775808<=x) (h2:x<=9223372036854775807):w64 x=x:=by
 have hb:IntKind.i64.bits=64:=rfl
 have hs:IntKind.i64.signed=true:=rfl
 unfold w64 IntKind.wrap
 rw[hb,hs]
 simp only[Bool.true_and,decide_eq_true_eq]
 split <;> omega
theorem dqT {p:Prop} [Decidable p] (h:p):decide p=true:=decide_eq_true h
theorem dqF {p:Prop} [Decidable p] (h : ¬ p):decide p=false:=decide_eq_false h
theorem dqA {α:Type}(a b:α):cond true a b=a:=rfl
theorem dqB {α:Type}(a b:α):cond false a b=b:=rfl
theorem dqN (n:Nat):((n:Nat):Int).toNat=n:=Int.toNat_natCast n
theorem dqP {c:Prop}{h:Decidable c}(hc:c){α:Type}{t e:α} : ite c t e=t:=if_pos hc
theorem dqG {c:Prop}{h:Decidable c}(hc : ¬ c){α:Type}{t e:α} : ite c t e=e:=if_neg hc
def zPG (c : Nat → Bool) : Nat → Nat → Nat
  | 0,i=>i
  | m+1,i=>match c i with | true=>i | false=>zPG c m (i+1)
def fst (c:Nat->Bool) (n:Nat):Nat:=zPG c n 0
theorem zt2 {good : Nat → Bool} {fin : Bool} {n : Nat} {lpS lpP : Nat → Int → Bool}
    (hS:∀ (k i:Nat),i < n->lpS (k+1) (i:Int)=cond (good i) (lpS k (w64 ((i:Int)+(1:Int)))) false)
    (hE:∀ k,lpS (k+1) (n:Int)=fin)
    (hP:∀ (k i:Nat),i < n->lpP (k+1) (i:Int)=cond (good i) (lpP k (w64 ((i:Int)+(1:Int)))) true)
    (hPE:∀ k,lpP (k+1) (n:Int)=true) (hn:n<=9223372036854775807) :
    lpP Fuel 0=true/\(lpS Fuel 0=true↔(∀ i,i < n->good i=true)/\fin=true):=by
  have key:∀ (m k i:Nat),i+m=n->m < k->lpP k (i:Int)=true/\(lpS k (i:Int)=true↔(∀ j,i<=j->j < n->good j=true)/\fin=true):=by
    intro m
    induction m with
    | zero =>
      intro k i hi hk
      obtain⟨k,rfl⟩:∃ k',k=k'+1:=⟨k - 1,by omega⟩
      have:i=n:=by omega
      subst this
      rw[hE,hPE]
      exact⟨rfl,⟨λ h=>⟨λ j h1 h2=>absurd h2 (by omega),h⟩,λ h=>h.2⟩⟩
    | succ m ih =>
      intro k i hi hk
      obtain⟨k,rfl⟩:∃ k',k=k'+1:=⟨k - 1,by omega⟩
      rw[hS k i (by omega),hP k i (by omega)]
      have e3:w64 ((i:Int)+1)=((i+1:Nat):Int):=by rw[zb9 (by omega) (by omega)];omega
      rw[e3]
      obtain⟨h1,h2⟩:=ih k (i+1) (by omega) (by omega)
      cases hg:good i
      · refine ⟨rfl, ⟨fun h => (by cases h), fun h => ?_⟩⟩
        have:=h.1 i (dqt _) (by omega)
        rw[hg] at this;cases this
      · refine ⟨h1, h2.trans ⟨fun h => ⟨fun j hj1 hj2 => ?_, h.2⟩, fun h => ⟨fun j hj1 hj2 => h.1 j (by omega) hj2, h.2⟩⟩⟩
        by_cases hji:j=i
        · rw[hji];exact hg
        · exact h.1 j (by omega) hj2
  have:=key n Fuel 0 (by omega) (by simp only[Fuel];omega)
  simpa using this

end Go.Pm
namespace Go.Pm
open Go
theorem zjN {i n:Nat}(h:i < n) (hn:n<=9223372036854775807):w64 ((i:Int)+(1:Int))=((i+1:Nat):Int):=by
 rw[zb9 (by omega) (by omega)];omega
theorem zli {β : Type} {good : Nat → Bool} {bad fin : β} {finP : Bool} {n : Nat} {lpS : Nat → Int → β} {lpP : Nat → Int → Bool}
    (hS:∀ (k i:Nat),i < n->lpS (k+1) (i:Int)=cond (good i) (lpS k (w64 ((i:Int)+(1:Int)))) bad)
    (hE:∀ k,lpS (k+1) (n:Int)=fin)
    (hP:∀ (k i:Nat),i < n->lpP (k+1) (i:Int)=cond (good i) (lpP k (w64 ((i:Int)+(1:Int)))) true)
    (hPE:∀ k,lpP (k+1) (n:Int)=finP) (hn:n<=9223372036854775807) :
    ((∀ i,i < n->good i=true)->lpP Fuel 0=finP/\lpS Fuel 0=fin)/\((¬ ∀ i,i < n->good i=true)->lpP Fuel 0=true/\lpS Fuel 0=bad):=by
  have key:∀ (m k i:Nat),i+m=n->m < k->((∀ j,i<=j->j < n->good j=true)->lpP k (i:Int)=finP/\lpS k (i:Int)=fin)/\((¬ ∀ j,i<=j->j < n->good j=true)->lpP k (i:Int)=true/\lpS k (i:Int)=bad):=by
    intro m
    induction m with
    | zero =>
      intro k i hi hk
      obtain⟨k,rfl⟩:∃ k',k=k'+1:=⟨k - 1,by omega⟩
      have:i=n:=by omega
      subst this
      rw[hE,hPE]
      exact⟨λ _=>⟨rfl,rfl⟩,λ h=>absurd (λ j h1 h2=>absurd h2 (by omega)) h⟩
    | succ m ih =>
      intro k i hi hk
      obtain⟨k,rfl⟩:∃ k',k=k'+1:=⟨k - 1,by omega⟩
      rw[hS k i (by omega),hP k i (by omega),zjN (n:=n) (by omega) hn]
      obtain⟨h1,h2⟩:=ih k (i+1) (by omega) (by omega)
      cases hg:good i
      · refine ⟨fun h => ?_, fun _ => ⟨rfl, rfl⟩⟩
        have:=h i (dqt _) (by omega)
        rw[hg] at this;cases this
      · refine ⟨fun h => h1 fun j a b => h j (by omega) b, fun h => h2 fun h' => h fun j a b => ?_⟩
        by_cases hji:j=i
        · rw[hji];exact hg
        · exact h' j (by omega) b
  have:=key n Fuel 0 (by omega) (by simp only[Fuel];omega)
  simpa using this
def zrX {σ : Type} (step : Nat → σ → σ) : Nat → Nat → σ → σ
  | 0,_,s=>s
  | m+1,i,s=>zrX step m (i+1) (step i s)
theorem zA5 {σ β : Type} {step : Nat → σ → σ} {E : σ → β} {EP : σ → Bool} {Inv : Nat → σ → Prop} {a n : Nat} {lpS : Nat → σ → Int → β} {lpP : Nat → σ → Int → Bool}
    (hS:∀ (k i:Nat) (s:σ),a<=i->i < n->Inv i s->lpS (k+1) s (i:Int)=lpS k (step i s) (w64 ((i:Int)+(1:Int))))
    (hE:∀ k s,lpS (k+1) s (n:Int)=E s)
    (hP:∀ (k i:Nat) (s:σ),a<=i->i < n->Inv i s->lpP (k+1) s (i:Int)=lpP k (step i s) (w64 ((i:Int)+(1:Int))))
    (hPE:∀ k s,lpP (k+1) s (n:Int)=EP s)
    (hI:∀ i s,a<=i->i < n->Inv i s->Inv (i+1) (step i s)) (ha:a<=n) (hn:n<=9223372036854775807) (s:σ) (h0:Inv a s) :
    lpP Fuel s (a:Int)=EP (zrX step (n - a) a s)/\lpS Fuel s (a:Int)=E (zrX step (n - a) a s):=by
  have key:∀ (m k i:Nat) (s:σ),a<=i->i+m=n->m < k->Inv i s->lpP k s (i:Int)=EP (zrX step m i s)/\lpS k s (i:Int)=E (zrX step m i s):=by
    intro m
    induction m with
    | zero =>
      intro k i s h1 hi hk _
      obtain⟨k,rfl⟩:∃ k',k=k'+1:=⟨k - 1,by omega⟩
      have:i=n:=by omega
      subst this
      rw[hE,hPE]
      exact⟨rfl,rfl⟩
    | succ m ih =>
      intro k i s h1 hi hk hs
      obtain⟨k,rfl⟩:∃ k',k=k'+1:=⟨k - 1,by omega⟩
      rw[hS k i s h1 (by omega) hs,hP k i s h1 (by omega) hs,zjN (n:=n) (by omega) hn]
      exact ih k (i+1) (step i s) (by omega) (by omega) (by omega) (hI i s h1 (by omega) hs)
  exact key (n - a) Fuel a s (dqt _) (by omega) (by simp only[Fuel];omega) h0
end Go.Pm
namespace Go.Proofs
open Go Go.Pm
set_option maxRecDepth 100000
set_option linter.unusedVariables false
attribute [local irreducible] Go.Pm.vcFun Go.Pm.vc Go.Pm.vcIter
end Go.Proofs
namespace Go.Proofs
open Go Go.Pm
set_option maxRecDepth 100000
theorem zpv (n a b:Int):s81 n a b=decide (a<=n/\n<=b):=by
 unfold s81
 by_cases h:a<=n
 ·rw[dqT (show n >= a from h),dqA];exact decide_eq_decide.2 ⟨λ k=>⟨h,k⟩,λ k=>k.2⟩
 ·rw[dqF (show ¬ n >= a from h),dqB];exact (dqF (λ k=>h k.1)).symm
theorem zFb (n a b:Int):s72 n a b=decide (a<=n/\n<=b):=zpv n a b
theorem zFc (n:Net) (hn:n.Ties.len<=9223372036854775807):p67 n=true/\(s67 n=true↔(∀ i,i < n.Ties.len->s78 (n.Ties.get i) n.Nodes=true)/\(1<=n.Nodes/\n.Nodes<=40)/\n.Ties.len<=200):=by
  have := zt2 (good := fun i => s78 (n.Ties.get i) n.Nodes) (fin := cond (s81 n.Nodes (1:Int) (40:Int)) (decide ((n.Ties.len : Int) ≤ (200:Int))) false) (n := n.Ties.len) (lpS := ziq n) (lpP := zir n)
    (λ k i hi=>by
      show zin n (ziq n k) (i:Int)=_
      generalize ziq n k=S
      unfold zin zqr
      rw[dqT (show (i:Int) < (n.Ties.len:Int) by omega),dqA,dqN]
      cases s78 (n.Ties.get i) n.Nodes <;> rfl)
    (λ k=>by
      show zin n (ziq n k) (n.Ties.len:Int)=_
      unfold zin
      rw[dqF (show ¬ (n.Ties.len:Int) < (n.Ties.len:Int) by omega),dqB])
    (λ k i hi=>by
      show zio n (zir n k) (i:Int)=_
      generalize zir n k=S
      unfold zio zqs
      rw[dqT (show (i:Int) < (n.Ties.len:Int) by omega),dqA,dqN,dqT (show 0<=(i:Int)/\(i:Int) < (n.Ties.len:Int) by omega),Bool.true_and]
      cases s78 (n.Ties.get i) n.Nodes <;> rfl)
    (λ k=>by
      show zio n (zir n k) (n.Ties.len:Int)=_
      unfold zio
      rw[dqF (show ¬ (n.Ties.len:Int) < (n.Ties.len:Int) by omega),dqB])
    hn
  refine⟨this.1,this.2.trans ?_⟩
  rw[zpv]
  by_cases h:1<=n.Nodes/\n.Nodes<=40
  · rw[dqT h,dqA,decide_eq_true_eq];exact⟨λ k=>⟨k.1,h,by omega⟩,λ k=>⟨k.1,by omega⟩⟩
  · rw[dqF h,dqB];exact⟨λ k=>absurd k.2 (by decide),λ k=>absurd k.2.1 h⟩
end Go.Proofs
namespace Go.Proofs
open Go Go.Pm
set_option maxRecDepth 100000
set_option linter.unusedVariables false
attribute [local irreducible] Go.Pm.vcFun Go.Pm.vc Go.Pm.vcIter
end Go.Proofs
namespace Go.Proofs
open Go Go.Pm
set_option maxRecDepth 100000
set_option linter.unusedVariables false
theorem dgt (x y:Int):decide (x > y) = !decide (x<=y):=by
 by_cases h:x > y
 ·rw[dqT h,dqF (show ¬ x<=y by omega)];rfl
 ·rw[dqF h,dqT (show x<=y by omega)];rfl
theorem zFd (nodes:Int) (t:Tie):s36 nodes t=s78 t nodes:=by
 unfold s36 ziA zq5 s78 zkR zkQ
 simp only[zFb,zpv,bne,dgt]
 generalize decide (0<=t.From/\t.From<=w64 (nodes - (1:Int)))=a
 generalize decide (0<=t.To/\t.To<=w64 (nodes - (1:Int)))=b
 generalize (t.From == t.To)=c
 generalize (t.Low == (-1000000000000:Int))=d
 generalize (t.High == (1000000000000:Int))=e
 generalize decide (-1000000000<=t.Low/\t.Low<=1000000000)=f
 generalize decide (-1000000000<=t.High/\t.High<=1000000000)=g
 generalize decide (t.Low<=t.High)=h
 cases a <;> cases b <;> cases c <;> cases d <;> cases e <;> cases f <;> cases g <;> cases h <;> rfl
structure TieOk (t : Tie) (nodes : Int) : Prop where
  f0:0<=t.From
  f1:t.From < nodes
  t0:0<=t.To
  t1:t.To < nodes
  ne:t.From ≠ t.To
  lo:t.Low = -1000000000000\/(-1000000000<=t.Low/\t.Low<=1000000000)
  hi:t.High=1000000000000\/(-1000000000<=t.High/\t.High<=1000000000)
  le:t.Low<=t.High
theorem zrY (t:Tie) (nodes:Int) (h1:1<=nodes) (h2:nodes<=40):s78 t nodes=true↔TieOk t nodes:=by
 have e:s78 t nodes=(decide (0<=t.From/\t.From < nodes) && (decide (0<=t.To/\t.To < nodes) && (!(t.From == t.To) && (((t.Low == (-1000000000000:Int)) || decide (-1000000000<=t.Low/\t.Low<=1000000000)) && (((t.High == (1000000000000:Int)) || decide (-1000000000<=t.High/\t.High<=1000000000)) && decide (t.Low<=t.High)))))):=by
  unfold s78 zkR zkQ
  rw[zb9 (x:=nodes - 1) (by omega) (by omega)]
  simp only[zpv]
  rw[decide_eq_decide.2 (show (0<=t.From/\t.From<=nodes - 1)↔(0<=t.From/\t.From < nodes) by omega),decide_eq_decide.2 (show (0<=t.To/\t.To<=nodes - 1)↔(0<=t.To/\t.To < nodes) by omega)]
  simp only[bne]
  generalize decide (0<=t.From/\t.From < nodes)=a
  generalize decide (0<=t.To/\t.To < nodes)=b
  generalize (t.From == t.To)=c
  generalize (t.Low == (-1000000000000:Int))=d
  generalize (t.High == (1000000000000:Int))=e
  generalize decide (-1000000000<=t.Low/\t.Low<=1000000000)=f
  generalize decide (-1000000000<=t.High/\t.High<=1000000000)=g
  generalize decide (t.Low<=t.High)=h
  cases a <;> cases b <;> cases c <;> cases d <;> cases e <;> cases f <;> cases g <;> cases h <;> rfl
 rw[e]
 simp only[dqm,Bool.or_eq_true,decide_eq_true_eq,Bool.not_eq_true',dqU,beq_iff_eq]
 constructor
 ·rintro⟨⟨a,b⟩,⟨c,d⟩,e,f,g,h⟩;exact⟨a,b,c,d,e,f,g,h⟩
 ·rintro⟨a,b,c,d,e,f,g,h⟩;exact⟨⟨a,b⟩,⟨c,d⟩,e,f,g,h⟩
structure NetOk (n : Net) : Prop where
  n1:1<=n.Nodes
  n40:n.Nodes<=40
  len:n.Ties.len<=200
  tie:∀ i,i < n.Ties.len->TieOk (n.Ties.get i) n.Nodes
theorem zrZ (n:Net) (hn:n.Ties.len<=9223372036854775807):p67 n=true/\(s67 n=true↔NetOk n):=by
 obtain⟨h1,h2⟩:=zFc n hn
 refine⟨h1,h2.trans ?_⟩
 constructor
 ·rintro⟨a,⟨b,c⟩,d⟩;exact⟨b,c,by omega,λ i hi=>(zrY _ _ b c).1 (a i hi)⟩
 ·rintro⟨b,c,d,a⟩;exact⟨λ i hi=>(zrY _ _ b c).2 (a i hi),⟨b,c⟩,by omega⟩
theorem zMK (n:Net) (hn:n.Ties.len<=9223372036854775807):p23 n=true/\s23 n=s67 n:=by
  have hl := zt2 (good := fun i => s36 n.Nodes (n.Ties.get i)) (fin := true) (n := n.Ties.len) (lpS := zhi n) (lpP := ziD n)
    (λ k i hi=>by
      show ziB n (zhi n k) (i:Int)=_
      generalize zhi n k=S
      unfold ziB zq7
      rw[dqT (show (i:Int) < (n.Ties.len:Int) by omega),dqA,dqN]
      cases s36 n.Nodes (n.Ties.get i) <;> rfl)
    (λ k=>by
      show ziB n (zhi n k) (n.Ties.len:Int)=_
      unfold ziB
      rw[dqF (show ¬ (n.Ties.len:Int) < (n.Ties.len:Int) by omega),dqB])
    (λ k i hi=>by
      show ziC n (ziD n k) (i:Int)=_
      generalize ziD n k=S
      unfold ziC zq8
      rw[dqT (show (i:Int) < (n.Ties.len:Int) by omega),dqA,dqN,dqT (show 0<=(i:Int)/\(i:Int) < (n.Ties.len:Int) by omega),Bool.true_and]
      cases s36 n.Nodes (n.Ties.get i) <;> rfl)
    (λ k=>by
      show ziC n (ziD n k) (n.Ties.len:Int)=_
      unfold ziC
      rw[dqF (show ¬ (n.Ties.len:Int) < (n.Ties.len:Int) by omega),dqB])
    hn
  obtain⟨h1,h2⟩:=zFc n hn
  unfold p23 s23 znG znF zrd zrb zra zq9
  rw[hl.1,zFb,dgt]
  refine⟨by cases decide (1<=n.Nodes/\n.Nodes<=40) <;> cases decide ((n.Ties.len:Int)<=200) <;> rfl,?_⟩
  have h3:=hl.2
  have h4:zhi n Fuel 0=true↔∀ i,i < n.Ties.len->s78 (n.Ties.get i) n.Nodes=true:=h3.trans ⟨λ h i hi=>by rw[<- zFd];exact h.1 i hi,λ h=>⟨λ i hi=>by rw[zFd];exact h i hi,rfl⟩⟩
  rw[Bool.eq_iff_iff,h2]
  by_cases a:1<=n.Nodes/\n.Nodes<=40
  · rw [dqT a]
    by_cases b:(n.Ties.len:Int)<=200
    · rw[dqT b];exact h4.trans ⟨λ h=>⟨h,a,by omega⟩,λ h=>h.1⟩
    · rw[dqF b];exact⟨λ h=>absurd h dqk,λ h=>absurd h.2.2 (by omega)⟩
  · rw[dqF a];exact⟨λ h=>absurd h dqk,λ h=>absurd h.2.1 a⟩
structure ValOk (n : Net) (v : Sl Int) : Prop where
  len:(v.len:Int)=n.Nodes
  zero:v.get 0=0
  b:∀ i,i < v.len->-1000000000000<=v.get i/\v.get i<=1000000000000
def Keep (t:Tie) (v:Sl Int):Prop:=(t.Low = -1000000000000\/t.Low<=v.get t.To.toNat - v.get t.From.toNat)/\(t.High=1000000000000\/v.get t.To.toNat - v.get t.From.toNat<=t.High)
structure AgOk (n : Net) (v : Sl Int) : Prop where
  val:ValOk n v
  keep:∀ i,i < n.Ties.len->Keep (n.Ties.get i) v
theorem zA6 {n:Net}{t:Int}(h:s20 n t=true) (ht:t<=210):n.Ties.len<=210:=by
 unfold s20 at h
 by_cases h1:(n.Ties.len:Int)<=t
 ·omega
 ·by_cases h2 : (n.Ties.len : Int) ≤ 210
  ·omega
  ·rw [dqF h1, dqF h2] at h
   exact absurd h (by cases decide (n.Nodes<=7) <;> cases decide (n.Nodes > 40) <;> cases decide ((n.Ties.len:Int) > 200) <;> decide)
end Go.Proofs
namespace Go.Pm
structure Ed where
  u:Nat
  v:Nat
  w:Int
def wt : List Ed → Int
  | []=>0
  | e :: l=>e.w+wt l
theorem zh1 (c d:List Ed):wt (c ++ d)=wt c+wt d:=by
 induction c with
 | nil=>show wt d=0+wt d;omega
 | cons e l ih=>show e.w+wt (l ++ d)=e.w+wt l+wt d;omega
theorem zgX (e:Ed):wt [e]=e.w:=Int.add_zero _
def zfC (E : List Ed) : Nat → List Ed → Nat → Prop
  | a,[],b=>a=b
  | a,e :: l,b=>e∈E/\e.u=a/\zfC E e.v l b
theorem zdu {E:List Ed}{c d:List Ed}{a b:Nat} : zfC E a (c ++ d) b↔∃ m,zfC E a c m/\zfC E m d b:=by
 induction c generalizing a with
 | nil=>exact⟨λ h=>⟨a,rfl,h⟩,λ ⟨m,h1,h2⟩=>by cases h1;exact h2⟩
 | cons e l ih =>
  constructor
  ·rintro ⟨h1, h2, h3⟩
   obtain⟨m,k1,k2⟩:=ih.1 h3
   exact⟨m,⟨h1,h2,k1⟩,k2⟩
  ·rintro ⟨m, ⟨h1, h2, h3⟩, h4⟩
   exact⟨h1,h2,ih.2 ⟨m,h3,h4⟩⟩
theorem zcW {E:List Ed}{e:Ed}(h:e∈E):zfC E e.u [e] e.v:=⟨h,rfl,rfl⟩
def zbt (E:List Ed):Prop:=∀ a c,zfC E a c a->0<=wt c
abbrev zbO:=Nat->Option Int
def zjw (d:zbO) (v:Nat) (x:Int):zbO:=λ j=>if j=v then some x else d j
def ltO (x : Int) : Option Int → Bool
  | none=>true
  | some y=>decide (x < y)
def rlF (s:zbO×Bool) (e:Ed):zbO×Bool :=
 match s.1 e.u with
 | none=>s
 | some x=>cond (ltO (x+e.w) (s.1 e.v)) (zjw s.1 e.v (x+e.w),true) s
def Sat (d:zbO) (e:Ed):Prop:=∀ x,d e.u=some x->∃ y,d e.v=some y/\y<=x+e.w
theorem zlj {x:Int}{o:Option Int}(h:ltO x o=false):∃ y,o=some y/\y<=x:=by
 cases o with
 | none=>cases h
 | some y=>exact⟨y,rfl,Int.not_lt.1 (of_decide_eq_false h)⟩
theorem zML {x y:Int}(h:y<=x):ltO x (some y)=false:=dqF (Int.not_lt.2 h)
theorem zr0 {d:zbO}{c:Bool}{e:Ed}(h:Sat d e):rlF (d,c) e=(d,c):=by
 unfold rlF
 cases hu:d e.u with
 | none=>simp only[hu]
 | some x =>
  obtain⟨y,h1,h2⟩:=h x hu
  simp only[hu,h1,zML h2,dqB]
theorem zA7 {d:zbO}{c:Bool}{e:Ed}(h : ¬ Sat d e):(rlF (d,c) e).2=true:=by
 unfold rlF
 cases hu:d e.u with
 | none=>exact absurd (λ x hx=>by rw[hu] at hx;cases hx) h
 | some x =>
  simp only[hu]
  cases hl:ltO (x+e.w) (d e.v)
  ·obtain ⟨y, h1, h2⟩ := zlj hl
   exact absurd (λ x' hx'=>⟨y,h1,by rw[hu] at hx';cases hx';exact h2⟩) h
  ·rfl
theorem zDH {s:zbO×Bool}{e:Ed}(h:s.2=true):(rlF s e).2=true:=by
 unfold rlF
 cases s.1 e.u with
 | none=>exact h
 | some x=>simp only[];cases ltO (x+e.w) (s.1 e.v) <;> first | exact h | rfl
theorem zA8 {E:List Ed}{s:zbO×Bool}(h:s.2=true):(E.foldl rlF s).2=true:=by
 induction E generalizing s with
 | nil=>exact h
 | cons e l ih=>exact ih (zDH h)
theorem zjO {E:List Ed}{d:zbO}{c:Bool}(h:∀ e∈E,Sat d e):E.foldl rlF (d,c)=(d,c):=by
 induction E with
 | nil=>rfl
 | cons e l ih =>
  show l.foldl rlF (rlF (d,c) e)=_
  rw[zr0 (h e (dqj ..))]
  exact ih λ e he=>h e (dqf _ he)
theorem zi4 {E:List Ed}{d:zbO}{c:Bool}(h:(E.foldl rlF (d,c)).2=false):∀ e∈E,Sat d e:=by
 induction E with
 | nil=>intro e he;cases he
 | cons e l ih =>
  have h':(l.foldl rlF (rlF (d,c) e)).2=false:=h
  have hs:Sat d e:=Classical.byContradiction λ hn=>by
   rw[zA8 (zA7 hn)] at h';cases h'
  rw[zr0 hs] at h'
  intro e' he'
  rcases dqq.1 he' with rfl | hm
  ·exact hs
  ·exact ih h' e' hm
def leO (a b:Option Int):Prop:=∀ y,b=some y->∃ x,a=some x/\x<=y
theorem zcX (a:Option Int):leO a a:=λ y h=>⟨y,h,Int.le_refl _⟩
theorem zcp {a b c:Option Int}(h1:leO a b) (h2:leO b c):leO a c:=λ y h=>by
 obtain⟨x,hx,hxy⟩:=h2 y h
 obtain⟨z,hz,hzx⟩:=h1 x hx
 exact⟨z,hz,Int.le_trans hzx hxy⟩
theorem zA9 (s:zbO×Bool) (e:Ed) (v:Nat):leO ((rlF s e).1 v) (s.1 v):=by
 unfold rlF
 cases hu:s.1 e.u with
 | none=>exact zcX _
 | some x =>
  simp only[]
  cases hl:ltO (x+e.w) (s.1 e.v)
  ·exact zcX _
  ·show leO (zjw s.1 e.v (x + e.w) v) _
   unfold zjw
   by_cases hv:v=e.v
   ·rw [dqP hv]
    intro y hy
    refine⟨_,rfl,?_⟩
    rw[hv] at hy
    rw[hy] at hl
    exact Int.le_of_lt (of_decide_eq_true hl)
   ·rw[dqG hv];exact zcX _
theorem zBa (E:List Ed) (s:zbO×Bool) (v:Nat):leO ((E.foldl rlF s).1 v) (s.1 v):=by
 induction E generalizing s with
 | nil=>exact zcX _
 | cons e l ih=>exact zcp (ih (rlF s e)) (zA9 s e v)
theorem zMM {s:zbO×Bool}{e:Ed}{x:Int}(h:s.1 e.u=some x):leO ((rlF s e).1 e.v) (some (x+e.w)):=by
 unfold rlF
 simp only[h]
 cases hl:ltO (x+e.w) (s.1 e.v)
 ·obtain ⟨y, h1, h2⟩ := zlj hl
  intro z hz;cases hz
  exact⟨y,h1,h2⟩
 ·intro z hz; cases hz
  exact⟨x+e.w,by show zjw s.1 e.v (x+e.w) e.v=_;unfold zjw;rw[dqP rfl],Int.le_refl _⟩
theorem zDI {E:List Ed}{s:zbO×Bool}{e:Ed}{x:Int}(he:e∈E) (h:s.1 e.u=some x):leO ((E.foldl rlF s).1 e.v) (some (x+e.w)):=by
 induction E generalizing s x with
 | nil=>cases he
 | cons f l ih =>
  rcases dqq.1 he with rfl | hm
  ·exact zcp (zBa l (rlF s e) e.v) (zMM h)
  ·obtain ⟨x', h1, h2⟩ := zA9 s f e.u x h
   intro z hz;cases hz
   obtain⟨y,k1,k2⟩:=ih hm h1 _ rfl
   exact⟨y,k1,by omega⟩
def rnd (E:List Ed) (d:zbO):zbO:=(E.foldl rlF (d,false)).1
def rds (E : List Ed) : Nat → zbO → zbO
  | 0,d=>d
  | k+1,d=>rds E k (rnd E d)
theorem zpw (E:List Ed) (k:Nat) (d:zbO) (v:Nat):leO (rds E k d v) (d v):=by
 induction k generalizing d with
 | zero=>exact zcX _
 | succ k ih=>exact zcp (ih (rnd E d)) (zBa E (d,false) v)
theorem zMN {E:List Ed}{c:List Ed} : ∀ {a b k:Nat}{d:zbO}{y:Int},zfC E a c b->d a=some y->c.length<=k->leO (rds E k d b) (some (y+wt c)):=by
 induction c with
 | nil =>
  intro a b k d y h hd _
  cases h
  intro z hz;cases hz
  obtain⟨x,h1,h2⟩:=zpw E k d a y hd
  exact⟨x,h1,by show x<=y+0;omega⟩
 | cons e l ih =>
  intro a b k d y h hd hk
  obtain⟨k,rfl⟩:∃ k',k=k'+1:=⟨k - 1,by simp only[dqr] at hk;omega⟩
  obtain⟨h1,h2,h3⟩:=h
  subst h2
  obtain⟨x,k1,k2⟩:=zDI (s:=(d,false)) h1 hd _ rfl
  intro z hz;cases hz
  obtain⟨z,m1,m2⟩:=ih (k:=k) (d:=rnd E d) h3 k1 (by simp only[dqr] at hk;omega) _ rfl
  exact⟨z,m1,by show z<=y+(e.w+wt l);omega⟩
def Fix (E:List Ed) (d:zbO):Prop:=∀ e∈E,Sat d e
theorem zlk {E:List Ed}{d:zbO}(h:Fix E d):rnd E d=d:=by unfold rnd;rw[zjO h]
theorem zBb {E:List Ed}{d:zbO}(h:Fix E d) (k:Nat):rds E k d=d:=by
 induction k with
 | zero=>rfl
 | succ k ih=>show rds E k (rnd E d)=d;rw[zlk h,ih]
theorem zMO {E:List Ed}{d:zbO}(h:Fix E d){c:List Ed} : ∀ {a b:Nat}{x:Int},zfC E a c b->d a=some x->∃ y,d b=some y/\y<=x+wt c:=by
 induction c with
 | nil=>intro a b x hc hx;cases hc;exact⟨x,hx,by show x<=x+0;omega⟩
 | cons e l ih =>
  rintro a b x ⟨h1,h2,h3⟩ hx
  subst h2
  obtain⟨y,k1,k2⟩:=h e h1 x hx
  obtain⟨z,m1,m2⟩:=ih h3 k1
  exact⟨z,m1,by show z<=x+(e.w+wt l);omega⟩
theorem zll (n:Nat):∀ {l:List Nat},l.Nodup->(∀ x∈l,x < n)->l.length<=n:=by
 induction n with
 | zero =>
  intro l _ h
  cases l with
  | nil=>exact dqt _
  | cons x l=>exact absurd (h x (dqj ..)) (dqW _)
 | succ n ih =>
  intro l hd h
  have h1:=ih (l:=l.filter (λ x=>x != n)) (hd.filter _) (λ x hx=>by
   obtain⟨hx1,hx2⟩:=List.mem_filter.1 hx
   have:=h x hx1
   have:x ≠ n:=by simpa using hx2
   omega)
  have h2:l.length<=(l.filter (λ x=>x != n)).length+1:=by
   clear h1 ih h
   induction l with
   | nil=>exact Nat.zero_le _
   | cons x l ihl =>
    rw[List.nodup_cons] at hd
    by_cases hx:x=n
    ·subst hx
     have:l.filter (λ y=>y != x)=l:=List.filter_eq_self.2 λ y hy=>by
      have:y ≠ x:=λ e=>hd.1 (e ▸ hy)
      simpa using this
     rw[List.filter_cons_of_neg (by simp),this]
     exact dqt _
    ·rw [List.filter_cons_of_pos (by simpa using hx)]
     have:=ihl hd.2
     simp only[dqr];omega
  omega
def nodes (a:Nat) (c:List Ed):List Nat:=a :: c.map Ed.v
theorem zlm (a:Nat) (c:List Ed):(nodes a c).length=c.length+1:=by simp[nodes]
theorem zDJ {E:List Ed}{c:List Ed} : ∀ {a b m:Nat},zfC E a c b->m∈nodes a c->∃ c1 c2,c=c1 ++ c2/\zfC E a c1 m/\zfC E m c2 b:=by
 induction c with
 | nil =>
  intro a b m h hm
  have:m=a:=by simpa [nodes] using hm
  subst this
  exact⟨[],[],rfl,rfl,h⟩
 | cons e l ih =>
  intro a b m h hm
  rcases dqq.1 hm with rfl | hm'
  ·exact⟨[],e :: l,rfl,rfl,h⟩
  ·obtain ⟨h1, h2, h3⟩ := h
   obtain⟨c1,c2,k1,k2,k3⟩:=ih h3 (m:=m) (by simpa [nodes] using hm')
   exact⟨e :: c1,c2,by rw[k1];rfl,⟨h1,h2,k2⟩,k3⟩
structure Att (E : List Ed) (Src : Nat → Prop) (d : zbO) (v : Nat) (x : Int) (a : Nat) (c : List Ed) : Prop where
  src:Src a
  ch:zfC E a c v
  wt:x=wt c
  nd:(nodes a c).Nodup
  pre:∀ c1 c2 m,c=c1 ++ c2->zfC E a c1 m->leO (d m) (some (Go.Pm.wt c1))
def Inv (E:List Ed) (Src:Nat->Prop) (d:zbO):Prop:=∀ v x,d v=some x->∃ a c,Att E Src d v x a c
theorem zFe {d d':zbO}{E:List Ed}{Src:Nat->Prop}{v:Nat}{x:Int}{a:Nat}{c:List Ed}(h:Att E Src d v x a c) (hd:∀ m,leO (d' m) (d m)):Att E Src d' v x a c :=
 ⟨h.src,h.ch,h.wt,h.nd,λ c1 c2 m h1 h2=>zcp (hd m) (h.pre c1 c2 m h1 h2)⟩
theorem zjP {d:zbO}{E:List Ed}{Src:Nat->Prop}(hn:zbt E){e:Ed}(he:e∈E){x:Int}{a:Nat}{c:List Ed}(h:Att E Src d e.u x a c) (hm:e.v∈nodes a c):leO (d e.v) (some (x+e.w)):=by
 obtain⟨c1,c2,k1,k2,k3⟩:=zDJ h.ch hm
 have hc:=hn e.v (c2 ++ [e]) (zdu.2 ⟨e.u,k3,zcW he⟩)
 rw[zh1,zgX] at hc
 have hx:=h.wt
 rw[k1,zh1] at hx
 obtain⟨y,m1,m2⟩:=h.pre c1 c2 e.v k1 k2 _ rfl
 intro z hz;cases hz
 exact⟨y,m1,by omega⟩
theorem zt3 {E:List Ed}{c:List Ed} : ∀ {a b b':Nat},zfC E a c b->zfC E a c b'->b=b':=by
 induction c with
 | nil=>intro a b b' h1 h2;cases h1;cases h2;rfl
 | cons e l ih=>rintro a b b' ⟨_,_,h1⟩ ⟨_,_,h2⟩;exact ih h1 h2
theorem zh2 {c c1 c2:List Ed}{e:Ed}(h:c ++ [e]=c1 ++ c2):c1=c ++ [e]\/∃ c3,c=c1 ++ c3:=by
 rcases List.append_eq_append_iff.1 h with ⟨a',h1,h2⟩ | ⟨c',h1,_⟩
 ·cases a' with
  | nil=>exact .inr ⟨[],by rw[h1];simp⟩
  | cons f a'' =>
   have:a''=[]/\c2=[]:=by
    cases a'' with
    | nil=>simp at h2;exact⟨rfl,h2.2⟩
    | cons g b=>simp at h2
   obtain⟨rfl,rfl⟩:=this
   simp at h2
   exact .inl (by rw[h1,h2])
 ·exact .inr ⟨c',h1⟩
theorem zn5 {E:List Ed}{Src:Nat->Prop}(hn:zbt E){s:zbO×Bool}{e:Ed}(he:e∈E) (h:Inv E Src s.1):Inv E Src (rlF s e).1:=by
 intro v x hx
 have hle:=zA9 s e
 unfold rlF at hx hle ⊢
 cases hu:s.1 e.u with
 | none =>
  simp only[hu] at hx ⊢
  obtain⟨a,c,hc⟩:=h v x hx
  exact⟨a,c,hc⟩
 | some y =>
  simp only[hu] at hx hle ⊢
  cases hl:ltO (y+e.w) (s.1 e.v) with
  | false =>
   simp only[hl,dqB] at hx ⊢
   exact h v x hx
  | true =>
   simp only[hl,dqA] at hx hle ⊢
   by_cases hv:v=e.v
   ·subst hv
    have hx':y+e.w=x:=by
     unfold zjw at hx;rw[dqP rfl] at hx;exact Option.some.inj hx
    obtain⟨a,c,hc⟩:=h e.u y hu
    have hnot:e.v ∉ nodes a c:=λ hm=>by
     obtain⟨z,h1,h2⟩:=zjP hn he hc hm _ rfl
     rw[h1] at hl
     have:=of_decide_eq_true hl
     omega
    refine⟨a,c ++ [e],hc.src,zdu.2 ⟨e.u,hc.ch,zcW he⟩,by rw[zh1,zgX,<- hc.wt];omega,?_,?_⟩
    ·show (a :: (c ++ [e]).map Ed.v).Nodup
     rw[List.map_append,<- List.cons_append]
     refine List.nodup_append.2 ⟨hc.nd,by simp,λ p hp q hq=>?_⟩
     have:q=e.v:=by simpa using hq
     subst this
     exact λ e'=>hnot (e' ▸ hp)
    ·intro c1 c2 m h1 h2
     rcases zh2 h1 with rfl | ⟨c3,h3⟩
     ·have : m = e.v := zt3 h2 (zdu.2 ⟨e.u, hc.ch, zcW he⟩)
      subst this
      intro z hz;cases hz
      refine⟨x,hx,?_⟩
      rw[zh1,zgX,<- hc.wt];omega
     ·exact zcp (hle m) (hc.pre c1 c3 m h3 h2)
   ·have hx':s.1 v=some x:=by
     unfold zjw at hx;rw[dqG hv] at hx;exact hx
    obtain⟨a,c,hc⟩:=h v x hx'
    exact⟨a,c,zFe hc hle⟩
theorem zn6 {E F:List Ed}{Src:Nat->Prop}(hn:zbt E) (hF:∀ e∈F,e∈E){s:zbO×Bool}(h:Inv E Src s.1):Inv E Src (F.foldl rlF s).1:=by
 induction F generalizing s with
 | nil=>exact h
 | cons e l ih=>exact ih (λ e he=>hF e (dqf _ he)) (zn5 hn (hF e (dqj ..)) h)
theorem zr1 {E:List Ed}{Src:Nat->Prop}(hn:zbt E) (k:Nat){d:zbO}(h:Inv E Src d):Inv E Src (rds E k d):=by
 induction k generalizing d with
 | zero=>exact h
 | succ k ih=>exact ih (zn6 hn (λ _ h=>h) (s:=(d,false)) h)
structure Start (Src : Nat → Prop) (d : zbO) : Prop where
  only:∀ v x,d v=Option.some x->Src v/\x=0
  src:∀ v,Src v->d v=Option.some 0
theorem ze0 {E:List Ed}{Src:Nat->Prop}{d:zbO}(h:Start Src d):Inv E Src d:=λ v x hx=>by
 obtain⟨h1,h2⟩:=h.only v x hx
 refine⟨v,[],h1,rfl,h2,by simp[nodes],λ c1 c2 m e hc=>?_⟩
 have:c1=[]:=by
  cases c1 with
  | nil=>rfl
  | cons _ _=>cases e
 subst this
 cases hc
 rw[hx,h2]
 exact zcX _
theorem zn7 {E:List Ed}{n:Nat}(hE:∀ e∈E,e.u < n/\e.v < n){c:List Ed} : ∀ {a b:Nat},a < n->zfC E a c b->∀ x∈nodes a c,x < n:=by
  induction c with
  | nil => intro a b ha _ x hx; have : x = a := by simpa [nodes] using hx
           omega
  | cons e l ih =>
    rintro a b ha ⟨h1,h2,h3⟩ x hx
    rcases dqq.1 hx with rfl | hm
    · exact ha
    · exact ih (hE e h1).2 h3 x (by simpa [nodes] using hm)
theorem zBc {E:List Ed}{n:Nat}{Src:Nat->Prop}(hE:∀ e∈E,e.u < n/\e.v < n) (hS:∀ a,Src a->a < n){d:zbO}{v:Nat}{x:Int}{a:Nat}{c:List Ed}(h:Att E Src d v x a c):c.length+1<=n:=by
 have:=zll n h.nd (zn7 hE (hS a h.src) h.ch)
 rwa[zlm] at this
theorem zBd {E:List Ed}{n:Nat}{Src:Nat->Prop}(hn:zbt E) (hE:∀ e∈E,e.u < n/\e.v < n) (hS:∀ a,Src a->a < n){d:zbO}(h0:Start Src d):Fix E (rds E (n - 1) d):=by
 intro e he x hx
 obtain⟨a,c,hc⟩:=zr1 hn (n - 1) (ze0 (E:=E) h0) e.u x hx
 by_cases hm:e.v∈nodes a c
 ·exact zjP hn he hc hm _ rfl
 ·have hlen:(c ++ [e]).length<=n - 1:=by
   have hnd:(nodes a (c ++ [e])).Nodup:=by
    show (a :: (c ++ [e]).map Ed.v).Nodup
    rw[List.map_append,<- List.cons_append]
    refine List.nodup_append.2 ⟨hc.nd,by simp,λ p hp q hq=>?_⟩
    have:q=e.v:=by simpa using hq
    subst this
    exact λ e'=>hm (e' ▸ hp)
   have hch:zfC E a (c ++ [e]) e.v:=zdu.2 ⟨e.u,hc.ch,zcW he⟩
   have:=zll n hnd (zn7 hE (hS a hc.src) hch)
   rw[zlm] at this
   omega
  have:=zMN (zdu.2 ⟨e.u,hc.ch,zcW he⟩) (h0.src a hc.src) hlen _ rfl
  rw[zh1,zgX,<- hc.wt] at this
  obtain⟨z,h1,h2⟩:=this
  exact⟨z,h1,by omega⟩
theorem zMP {E:List Ed}{f:Nat->Int}(h:∀ e∈E,f e.v<=f e.u+e.w){c:List Ed} : ∀ {a b:Nat},zfC E a c b->f b<=f a+wt c:=by
 induction c with
 | nil=>intro a b hc;cases hc;show f a<=f a+0;omega
 | cons e l ih =>
  rintro a b ⟨h1,h2,h3⟩
  subst h2
  have:=ih h3
  have:=h e h1
  show f b<=f e.u+(e.w+wt l);omega
theorem zpx {E:List Ed}{f:Nat->Int}(h:∀ e∈E,f e.v<=f e.u+e.w):zbt E:=λ a c hc=>by
 have:=zMP h hc;omega
end Go.Pm
