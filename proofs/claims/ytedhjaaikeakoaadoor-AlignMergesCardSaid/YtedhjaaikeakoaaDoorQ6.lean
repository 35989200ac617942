/- Part 6 of what the proof rests on: a machine that runs functions of the program on pure values, proved sound; the functions that the law reaches, and what they compute. -/
import Derived.Test.YtedhjaaikeakoaaDoorQ5
import Derived.Shelf.SlSortCmp.NoneTotal
import Derived.Shelf.SlLaysF0
import Derived.Test.YtedhjaaikeakoaaDoorProg
import Derived.Test.YtedhjaaikeakoaaDoorTie
import Derived.ProofKit
import Derived.LaidMore
import Derived.OpenShut
import Derived.Stop.Joined
import Derived.Test.YtedhjaaikeakoaaDoorCards
import Derived.WalkKit
set_option linter.all false
namespace Go.Proofs
open Go Go.Pm
set_option maxRecDepth 100000
set_option linter.unusedVariables false
attribute [local irreducible] Go.Pm.vcFun Go.Pm.vc Go.Pm.vcIter
abbrev T76:Tabs:=(((Tabs.nil.addF 93 zoh).addF 104 zok).addI 110 zoj)
theorem zLZ:TabsOk Tryd.prog T76:=(((TabsOk.nil.addF zHS).addF zEp).addI ztD)
abbrev G76:Ctrs:=csm T76 (λ _ _=>[]) (λ _=>false)
def zx9:Ann:=⟨66,[(0,zK [0,1,4] [4]),(1,zK [0,1,4,5] [4,5]),(2,zK [0,1,4,5,10] [4,5]),(3,zK [0,1,4,5,10,11] [4,5]),(4,zK [0,1,4,5,6,10] [4,5]),(5,zK [0,1,4,5,10] [4,5]),(6,zK [0,1,4,5,10] [4,5]),(7,zK [0,4,5] [4,5]),(8,zK [0,4,5,7] [4,5,7]),(9,zK [0,4,5,7,20] [4,5,7]),(10,zK [0,4,5,7] [4,5,7]),(11,zK [0,4,5,7,22] [4,5,7]),(12,zK [0,4,5,7,8,22] [4,5,7,8]),(13,zK [0,4,5,7,8,22,29] [4,5,7,8]),(14,zK [0,4,5,7,8,9,22] [4,5,7,8,9]),(15,zK [0,4,5,7,8,9,22] [4,5,7,8,9]),(16,zK [0,4,5,7,22] [4,5,7]),(17,zK [0,4,5,64] [4,5]),(18,zK [0,4,5,7] [4,5,7]),(19,zK [4] [4])],
 [(3,zK [0,1,4,5,10] [4,5]),(9,zK [0,4,5,7] [4,5,7]),(12,zK [0,4,5,7,22] [4,5,7])],
 [(7,zK [0,1,4,5] [4,5])],
 [],[]⟩
abbrev R76:=Tab
abbrev e76 (r:R76):List PA:=[.agg (zan r)]
@[irreducible] def z76:=ptF Tryd.prog G76 zx9 Tryd.f76
@[irreducible] def x76:=exF Tryd.prog G76 zx9 Tryd.f76
@[irreducible] def y76:=rnF Tryd.prog G76 zx9 Tryd.f76
def zCZ (w:web) (node:Int) (za9:Int) (t4t0:Tab) (dt0:Tab):St:=⟨[(0,zP (.fp (zaD w) 0)),(1,zI node),(4,zp 4 0),(5,zp 5 0),(10,zI za9)],[(4,.box 116 (zm (zan t4t0))),(5,.box 116 (zm (zan dt0)))],[]⟩
abbrev zJy (K:List PA->Prop) (w:web) (node:Int) (X:St->Prop) (P:Int->Tab->Tab->Bool) (S:Int->Tab->Tab->Tab):Prop:=∀ ⦃za9:Int⦄ ⦃t4t0:Tab⦄ ⦃dt0:Tab⦄,P za9 t4t0 dt0=true->K (e76 (S za9 t4t0 dt0))->X (zCZ w node za9 t4t0 dt0)
def zC0 (w:web) (zaO:Bool) (t4t2:Tab) (dt2:Tab):St:=⟨[(0,zP (.fp (zaD w) 0)),(4,zp 4 0),(5,zp 5 0),(7,zp 7 0)],[(4,.box 116 (zm (zan t4t2))),(5,.box 116 (zm (zan dt2))),(7,.box 4 [.p (.bool zaO)])],[]⟩
abbrev zFq (K:List PA->Prop) (w:web) (X:St->Prop) (P:Bool->Tab->Tab->Bool) (S:Bool->Tab->Tab->Tab):Prop:=∀ ⦃zaO:Bool⦄ ⦃t4t2:Tab⦄ ⦃dt2:Tab⦄,P zaO t4t2 dt2=true->K (e76 (S zaO t4t2 dt2))->X (zC0 w zaO t4t2 dt2)
def zya (w:web) (zaB:Bool) (t4t3:Tab) (dt3:Tab):St:=⟨[(0,zP (.fp (zaD w) 0)),(4,zp 4 0),(5,zp 5 0),(7,zp 7 0),(22,zP (.fn 110 [] [.fp [.fp (zaD w) 0] 0]))],[(4,.box 116 (zm (zan t4t3))),(5,.box 116 (zm (zan dt3))),(7,.box 4 [.p (.bool zaB)])],[]⟩
abbrev zJz (K:List PA->Prop) (w:web) (X:St->Prop) (P:Bool->Tab->Tab->Bool) (S:Bool->Tab->Tab->Tab):Prop:=∀ ⦃zaB:Bool⦄ ⦃t4t3:Tab⦄ ⦃dt3:Tab⦄,P zaB t4t3 dt3=true->K (e76 (S zaB t4t3 dt3))->X (zya w zaB t4t3 dt3)
section
variable {K:List PA->Prop}{w:web}{node:Int}{za9:Int}{t4t0:Tab}{dt0:Tab}{X0:St->Prop}{P0:Int->Tab->Tab->Bool}{S0:Int->Tab->Tab->Tab}{t4t1:Tab}{dt1:Tab}{zaO:Bool}{t4t2:Tab}{dt2:Tab}{X2:St->Prop}{P2:Bool->Tab->Tab->Bool}{S2:Bool->Tab->Tab->Tab}{zaB:Bool}{t4t3:Tab}{dt3:Tab}
def zFr (S2:Bool->Tab->Tab->Tab) (w:web) (zaB:Bool) (t4t3:Tab) (dt3:Tab):Tab :=
  (S2 zaB t4t3 dt3)
def zFs (P2:Bool->Tab->Tab->Bool) (w:web) (zaB:Bool) (t4t3:Tab) (dt3:Tab):Bool :=
  (P2 zaB t4t3 dt3)
def zyb (S2:Bool->Tab->Tab->Tab) (w:web) (y3:step) (S3:Bool->Tab->Tab->Tab) (zaB:Bool) (t4t3:Tab) (dt3:Tab):Tab :=
  (cond (nvr (tL dt3 y3.from_) (tU dt3 y3.from_))
 (S3 zaB t4t3 dt3)
 (cond zaB
 (S3 true t4t3 (ts 80 dt3 (0+y3.to.toNat * 2+0) [(zf3 (⟨(tL dt3 y3.to),(tU dt3 y3.to)⟩:far) (⟨1,λ _=>(⟨(w64 ((tL dt3 y3.from_)+y3.length)),(w64 ((tV dt3 y3.from_)+(1:Int)))⟩:far)⟩:(Sl far))).length,(zf3 (⟨(tL dt3 y3.to),(tU dt3 y3.to)⟩:far) (⟨1,λ _=>(⟨(w64 ((tL dt3 y3.from_)+y3.length)),(w64 ((tV dt3 y3.from_)+(1:Int)))⟩:far)⟩:(Sl far))).uses]))
 (S3 (!(match ((zf3 (⟨(tL dt3 y3.to),(tU dt3 y3.to)⟩:far) (⟨1,λ _=>(⟨(w64 ((tL dt3 y3.from_)+y3.length)),(w64 ((tV dt3 y3.from_)+(1:Int)))⟩:far)⟩:(Sl far))).length == (tL dt3 y3.to)) with | true=>(match ((zf3 (⟨(tL dt3 y3.to),(tU dt3 y3.to)⟩:far) (⟨1,λ _=>(⟨(w64 ((tL dt3 y3.from_)+y3.length)),(w64 ((tV dt3 y3.from_)+(1:Int)))⟩:far)⟩:(Sl far))).uses == (tU dt3 y3.to)) with | true=>true | false=>false) | false=>false)) t4t3 (ts 80 dt3 (0+y3.to.toNat * 2+0) [(zf3 (⟨(tL dt3 y3.to),(tU dt3 y3.to)⟩:far) (⟨1,λ _=>(⟨(w64 ((tL dt3 y3.from_)+y3.length)),(w64 ((tV dt3 y3.from_)+(1:Int)))⟩:far)⟩:(Sl far))).length,(zf3 (⟨(tL dt3 y3.to),(tU dt3 y3.to)⟩:far) (⟨1,λ _=>(⟨(w64 ((tL dt3 y3.from_)+y3.length)),(w64 ((tV dt3 y3.from_)+(1:Int)))⟩:far)⟩:(Sl far))).uses]))))
def zyc (P2:Bool->Tab->Tab->Bool) (w:web) (y3:step) (P3:Bool->Tab->Tab->Bool) (zaB:Bool) (t4t3:Tab) (dt3:Tab):Bool :=
  (decide ((0<=y3.from_/\y3.from_ < (40:Int))) &&
 (cond (nvr (tL dt3 y3.from_) (tU dt3 y3.from_))
 (P3 zaB t4t3 dt3)
 (decide ((0<=y3.to/\y3.to < (40:Int))) &&
 (decide ((0<=y3.from_/\y3.from_ < (40:Int))) &&
 (decide ((0<=y3.from_/\y3.from_ < (40:Int))) &&
 (decide ((zI0 (⟨(tL dt3 y3.to),(tU dt3 y3.to)⟩:far) (⟨1,λ _=>(⟨(w64 ((tL dt3 y3.from_)+y3.length)),(w64 ((tV dt3 y3.from_)+(1:Int)))⟩:far)⟩:(Sl far))=true)) &&
 (cond zaB
 (decide ((0<=y3.to/\y3.to < (40:Int))) &&
 (P3 true t4t3 (ts 80 dt3 (0+y3.to.toNat * 2+0) [(zf3 (⟨(tL dt3 y3.to),(tU dt3 y3.to)⟩:far) (⟨1,λ _=>(⟨(w64 ((tL dt3 y3.from_)+y3.length)),(w64 ((tV dt3 y3.from_)+(1:Int)))⟩:far)⟩:(Sl far))).length,(zf3 (⟨(tL dt3 y3.to),(tU dt3 y3.to)⟩:far) (⟨1,λ _=>(⟨(w64 ((tL dt3 y3.from_)+y3.length)),(w64 ((tV dt3 y3.from_)+(1:Int)))⟩:far)⟩:(Sl far))).uses])))
 (decide ((0<=y3.to/\y3.to < (40:Int))) &&
 (decide ((0<=y3.to/\y3.to < (40:Int))) &&
 (P3 (!(match ((zf3 (⟨(tL dt3 y3.to),(tU dt3 y3.to)⟩:far) (⟨1,λ _=>(⟨(w64 ((tL dt3 y3.from_)+y3.length)),(w64 ((tV dt3 y3.from_)+(1:Int)))⟩:far)⟩:(Sl far))).length == (tL dt3 y3.to)) with | true=>(match ((zf3 (⟨(tL dt3 y3.to),(tU dt3 y3.to)⟩:far) (⟨1,λ _=>(⟨(w64 ((tL dt3 y3.from_)+y3.length)),(w64 ((tV dt3 y3.from_)+(1:Int)))⟩:far)⟩:(Sl far))).uses == (tU dt3 y3.to)) with | true=>true | false=>false) | false=>false)) t4t3 (ts 80 dt3 (0+y3.to.toNat * 2+0) [(zf3 (⟨(tL dt3 y3.to),(tU dt3 y3.to)⟩:far) (⟨1,λ _=>(⟨(w64 ((tL dt3 y3.from_)+y3.length)),(w64 ((tV dt3 y3.from_)+(1:Int)))⟩:far)⟩:(Sl far))).length,(zf3 (⟨(tL dt3 y3.to),(tU dt3 y3.to)⟩:far) (⟨1,λ _=>(⟨(w64 ((tL dt3 y3.from_)+y3.length)),(w64 ((tV dt3 y3.from_)+(1:Int)))⟩:far)⟩:(Sl far))).uses])))))))))))
def zyd (S2:Bool->Tab->Tab->Tab) (w:web):List step->Bool->Tab->Tab->Tab:=lpR (zFr S2 w) (zyb S2 w)
def zye (P2:Bool->Tab->Tab->Bool) (w:web):List step->Bool->Tab->Tab->Bool:=lpR (zFs P2 w) (zyc P2 w)
def zyf (S2:Bool->Tab->Tab->Tab) (w:web) (zaB:Bool) (t4t3:Tab) (dt3:Tab):Tab:=zyd S2 w (zks w) zaB t4t3 dt3
def zyg (P2:Bool->Tab->Tab->Bool) (w:web) (zaB:Bool) (t4t3:Tab) (dt3:Tab):Bool:=decide ((ztP w=true)) && zye P2 w (zks w) zaB t4t3 dt3
theorem zFt (hX2:zFq K w X2 P2 S2) (hs:zyg P2 w zaB t4t3 dt3=true) (hk:K (e76 (zyf S2 w zaB t4t3 dt3))):z76 K [1,1,1,1,0,1,0,0,1,0,0,1,1,0] [X2] (zya w zaB t4t3 dt3) :=
  zaT hs λ hc hs=>zr (enc:=(λ y:step=>[.agg (zaF y)])) (ys:=zks w) (g:=(zya w zaB t4t3 dt3)) (x76 K [1,1,1,1,0,1,0,0,1,0,0,1,1,0] [X2]) (y76 K [1,1,1,1,0,1,0,0,1,0,0,1,1,0] [X2]) (by kernel_rfl) (And.intro (zE enc_40 4 w.Net.Ties.get) (And.intro (rfl:((false,1,false,[none]):MQ)=(false,1,false,[none])) hc)) λ X3 hE hR =>
  (show ∀ l : List step, zJz K w (X3 (l.map (λ y : step => [.agg (zaF y)]))) (zye P2 w l) (zyd S2 w l) from zri (X := X3) (enc := (λ y : step => [.agg (zaF y)])) _ _ (zyc P2 w) (zyb S2 w) (λ Z P S => zJz K w Z P S)
 (by intro zaB t4t3 dt3 hs hk;exact hE _ (zaZ (by kernel_rfl) (hX2 hs hk)))
 (by intro y3 rest P3 S3 hX3 zaB t4t3 dt3 hs hk;exact hR _ rest _ (zaZ (by kernel_rfl) (zaT hs λ hc hs=>And.intro hc (zc hs hk (λ hs hk=>(hX3 hs hk)) (λ hs hk=>(zaT hs λ hc hs=>And.intro hc (zaT hs λ hc hs=>And.intro hc (zaT hs λ hc hs=>And.intro hc (zaT hs λ hc hs=>And.intro (And.intro (zvs:IsE zck 2 2 (λ _=>(zck (⟨(w64 ((tL dt3 y3.from_)+y3.length)),(w64 ((tV dt3 y3.from_)+(1:Int)))⟩:far)))) hc) (zc hs hk (λ hs hk=>(zaT hs λ hc hs=>And.intro hc (hX3 hs hk))) (λ hs hk=>(zaT hs λ hc hs=>And.intro hc (zaT hs λ hc hs=>And.intro hc (hX3 hs hk))))))))))))))) _ hs hk
def zyh (w:web) (S2:Bool->Tab->Tab->Tab) (zaO:Bool) (t4t2:Tab) (dt2:Tab):Tab :=
  (cond zaO
 (zyf S2 w false t4t2 dt2)
 dt2)
def zyi (w:web) (P2:Bool->Tab->Tab->Bool) (zaO:Bool) (t4t2:Tab) (dt2:Tab):Bool :=
  (cond zaO
 (zyg P2 w false t4t2 dt2)
 true)
def zyj (w:web):Nat->Bool->Tab->Tab->Tab:=lpO (λ _ _ _=>default) (zyh w)
def zyk (w:web):Nat->Bool->Tab->Tab->Bool:=lpO (λ _ _ _=>false) (zyi w)
def zyl (w:web) (zaO:Bool) (t4t2:Tab) (dt2:Tab):Tab:=zyj w Fuel zaO t4t2 dt2
def zym (w:web) (zaO:Bool) (t4t2:Tab) (dt2:Tab):Bool:=zyk w Fuel zaO t4t2 dt2
theorem zFu (hs:zym w zaO t4t2 dt2=true) (hk:K (e76 (zyl w zaO t4t2 dt2))):z76 K [1,1,1,1,0,1,0] [] (zC0 w zaO t4t2 dt2) :=
  zl (λ X=>z76 K [1,1,1,1,0,1,0,0] [X]) (by kernel_rfl) λ X2 hX =>
  (show ∀ k, zFq K w X2 (zyk w k) (zyj w k) from zfg _ _ (zyi w) (zyh w) (zFq K w X2)
 (by intro _ _ _ hs;exact absurd hs dqk)
 (by intro P2 S2 hX2 zaO t4t2 dt2 hs hk;exact hX _ (zaZ (by kernel_rfl) (zc hs hk (λ hs hk=>(And.intro (And.intro (zE enc_40 4 w.Net.Ties.get) (rfl:((false,1,false,[none]):MQ)=(false,1,false,[none]))) (zFt hX2 hs hk))) (λ hs hk=>hk))))) _ hs hk
def zyn (w:web) (node:Int) (t4t1:Tab) (dt1:Tab):Tab :=
  (zyl w true t4t1 (ts 80 dt1 (0+node.toNat * 2+0) [(0:Int),(0:Int)]))
def zyo (w:web) (node:Int) (t4t1:Tab) (dt1:Tab):Bool :=
  (decide ((0<=node/\node < (40:Int))) &&
 (zym w true t4t1 (ts 80 dt1 (0+node.toNat * 2+0) [(0:Int),(0:Int)])))
theorem zFv (hs:zyo w node t4t1 dt1=true) (hk:K (e76 (zyn w node t4t1 dt1))):z76 K [1,1,1] [] ⟨[(0,zP (.fp (zaD w) 0)),(1,zI node),(4,zp 4 0),(5,zp 5 0)],[(4,.box 116 (zm (zan t4t1))),(5,.box 116 (zm (zan dt1)))],[]⟩:=zaZ (by kernel_rfl) (zaT hs λ hc hs=>And.intro hc (zFu hs hk))
def zyp (w:web) (node:Int) (S0:Int->Tab->Tab->Tab) (za9:Int) (t4t0:Tab) (dt0:Tab):Tab :=
  (cond (decide (za9 < (40:Int)))
 (S0 (w64 (za9+(1:Int))) t4t0 (ts 80 dt0 (0+za9.toNat * 2+0) [(1000000000000:Int),(0:Int)]))
 (zyn w node t4t0 dt0))
def zyq (w:web) (node:Int) (P0:Int->Tab->Tab->Bool) (za9:Int) (t4t0:Tab) (dt0:Tab):Bool :=
  (cond (decide (za9 < (40:Int)))
 (decide ((0<=za9/\za9 < (40:Int))) &&
 (P0 (w64 (za9+(1:Int))) t4t0 (ts 80 dt0 (0+za9.toNat * 2+0) [(1000000000000:Int),(0:Int)])))
 (zyo w node t4t0 dt0))
def zyr (w:web) (node:Int):Nat->Int->Tab->Tab->Tab:=lpO (λ _ _ _=>default) (zyp w node)
def zys (w:web) (node:Int):Nat->Int->Tab->Tab->Bool:=lpO (λ _ _ _=>false) (zyq w node)
def zyt (w:web) (node:Int) (za9:Int) (t4t0:Tab) (dt0:Tab):Tab:=zyr w node Fuel za9 t4t0 dt0
def zyu (w:web) (node:Int) (za9:Int) (t4t0:Tab) (dt0:Tab):Bool:=zys w node Fuel za9 t4t0 dt0
theorem zFw (hs:zyu w node za9 t4t0 dt0=true) (hk:K (e76 (zyt w node za9 t4t0 dt0))):z76 K [1,1,0,1,0] [] (zCZ w node za9 t4t0 dt0) :=
  zl (λ X=>z76 K [1,1,0,1,0,0] [X]) (by kernel_rfl) λ X0 hX =>
  (show ∀ k, zJy K w node X0 (zys w node k) (zyr w node k) from zfg _ _ (zyq w node) (zyp w node) (zJy K w node X0)
 (by intro _ _ _ hs;exact absurd hs dqk)
 (by intro P0 S0 hX0 za9 t4t0 dt0 hs hk;exact hX _ (zaZ (by kernel_rfl) (zc hs hk (λ hs hk=>(zaT hs λ hc hs=>And.intro hc (hX0 hs hk))) (λ hs hk=>(zFv hs hk)))))) _ hs hk
def s76 (w:web) (node:Int):Tab :=
  (zyt w node (0:Int) (λ _=>(0:Int)) (λ _=>(0:Int)))
def p76 (w:web) (node:Int):Bool :=
  (zyu w node (0:Int) (λ _=>(0:Int)) (λ _=>(0:Int)))
end
theorem q76 (w:web) (node:Int) (K:List PA->Prop) (hs:p76 w node=true) (hk:K (e76 (s76 w node))):vcFun Tryd.prog G76 zx9 76 [.one (.fp (zaD w) 0),.one (.int .i64 node)] K :=
  zaZ (by kernel_rfl) (zFw hs hk)
def zyv : List PA → COut
  | [.one (.fp [.int .i64 zal,.sl zai zaC zaj,.fm zbd zaI zaJ] 0),.one (.int .i64 a1)]=>.det (IsE enc_40 4 zaC zaj/\zbd=(false,1,false,[none])/\p76 (⟨(⟨zal,(⟨zai,zam zaj⟩:(Sl Tie))⟩:Net),(⟨zaI,zaJ⟩:Mp)⟩:web) a1=true) [.agg (zan ((s76 (⟨(⟨zal,(⟨zai,zam zaj⟩:(Sl Tie))⟩:Net),(⟨zaI,zaJ⟩:Mp)⟩:web) a1)))]
  | _=>.no
theorem zJA:zar Tryd.prog 76:=⟨_,rfl,rfl,by kernel_rfl⟩
theorem zL0:Ok Tryd.prog 76 zyv:=zbu zLZ zJA λ args K h=>by
  unfold zyv at h
  split at h
  · rename_i zal zai zaC zaj zbd zaI zaJ a1
    obtain⟨⟨⟨rfl,zat,rfl⟩,rfl,hs⟩,hk⟩:=h
    try rw[zak zat] at hs
    try rw[zak zat] at hk
    exact⟨(λ _ _=>[]),(λ _=>false),zx9,q76 (⟨(⟨zal,(⟨zai,zat⟩:(Sl Tie))⟩:Net),(⟨zaI,zaJ⟩:Mp)⟩:web) a1 K hs hk⟩
  · exact h.elim
abbrev T26:Tabs:=(((Tabs.nil.addF 74 zxL).addF 75 zx8).addF 76 zyv)
theorem zL1:TabsOk Tryd.prog T26:=(((TabsOk.nil.addF zLW).addF zLY).addF zL0)
abbrev G26:Ctrs:=csm T26 (λ _ _=>[]) (λ _=>false)
def zFx:Ann:=⟨45,[(0,zK [1] [1]),(1,zK [1,4,5] [1]),(2,zK [1,4,5,16] [1]),(3,zK [2,3] []),(4,zK [1,6,7] [1,6,7]),(5,zK [6,7,8] [6,7,24]),(6,zK [6,7,8,26,27] [6,7,24]),(7,zK [6,7,8,26,27,28] [6,7,24]),(8,zK [6,7,8,9,26,27] [6,7,24]),(9,zK [6,7,8,26,27] [6,7,24]),(10,zK [6,7,8,26,27] [6,7,24]),(11,zK [2,3] [24])],
 [(7,zK [6,7,8,26,27] [6,7,24])],
 [],
 [],[]⟩
abbrev R26:=((Sl Span)×Int)
abbrev e26 (r:R26):List PA:=[.one (.sl r.1.len 2 (λ i=>zbE (r.1.get i))),.one (.int .i64 r.2)]
@[irreducible] def z26:=ptF Tryd.prog G26 zFx Tryd.f26
def zC1 (n:Net) (zcq:Int) (zdf:(Sl Span)) (tot0:Tab) (fromt0:Tab) (zgh:Nat->List PV):St:=⟨[(6,zp 6 0),(7,zp 7 0),(8,zv 24),(26,zI (n.Nodes.toNat:Int)),(27,zI zcq)],[(6,.box 116 (zm (zan tot0))),(7,.box 116 (zm (zan fromt0))),(24,.vec 43 2 16 zdf.len zgh)],[]⟩
abbrev zJB (K:List PA->Prop) (n:Net) (X:St->Prop) (P:Int->(Sl Span)->Tab->Tab->Bool) (S:Int->(Sl Span)->Tab->Tab->((Sl Span)×Int)):Prop:=∀ ⦃zcq:Int⦄ ⦃zdf:(Sl Span)⦄ ⦃tot0:Tab⦄ ⦃fromt0:Tab⦄ ⦃zgh:Nat->List PV⦄,P zcq zdf tot0 fromt0=true->K (e26 (S zcq zdf tot0 fromt0))->zgh=zg zbE zdf->X (zC1 n zcq zdf tot0 fromt0 zgh)
section
variable {K:List PA->Prop}{n:Net}{zcq:Int}{zdf:(Sl Span)}{tot0:Tab}{fromt0:Tab}{zgh:Nat->List PV}{X0:St->Prop}{P0:Int->(Sl Span)->Tab->Tab->Bool}{S0:Int->(Sl Span)->Tab->Tab->((Sl Span)×Int)}
def zyw (n:Net) (S0:Int->(Sl Span)->Tab->Tab->((Sl Span)×Int)) (zcq:Int) (zdf:(Sl Span)) (tot0:Tab) (fromt0:Tab):((Sl Span)×Int) :=
  (cond (decide (zcq < (n.Nodes.toNat : Int)))
 (S0 (w64 (zcq+(1:Int))) (⟨zdf.len,(setT zcq.toNat (⟨(w64 (0 - (tg 80 tot0 (0+zcq.toNat * 2+0)))),(tg 80 fromt0 (0+zcq.toNat * 2+0))⟩:Span) zdf.get)⟩:Sl Span) tot0 fromt0)
 (zdf,(0:Int)))
def zyx (n:Net) (P0:Int->(Sl Span)->Tab->Tab->Bool) (zcq:Int) (zdf:(Sl Span)) (tot0:Tab) (fromt0:Tab):Bool :=
  (cond (decide (zcq < (n.Nodes.toNat : Int)))
 (decide ((0<=zcq/\zcq < (40:Int))) &&
 (decide ((0<=zcq/\zcq < (40:Int))) &&
 (decide ((0<=zcq/\zcq < (zdf.len:Int))) &&
 (decide ((zcq.toNat < zdf.len)) &&
 (P0 (w64 (zcq+(1:Int))) (⟨zdf.len,(setT zcq.toNat (⟨(w64 (0 - (tg 80 tot0 (0+zcq.toNat * 2+0)))),(tg 80 fromt0 (0+zcq.toNat * 2+0))⟩:Span) zdf.get)⟩:Sl Span) tot0 fromt0)))))
 true)
def zyy (n:Net):Nat->Int->(Sl Span)->Tab->Tab->((Sl Span)×Int):=lpO (λ _ _ _ _=>default) (zyw n)
def zyz (n:Net):Nat->Int->(Sl Span)->Tab->Tab->Bool:=lpO (λ _ _ _ _=>false) (zyx n)
def zyA (n:Net) (zcq:Int) (zdf:(Sl Span)) (tot0:Tab) (fromt0:Tab):((Sl Span)×Int):=zyy n Fuel zcq zdf tot0 fromt0
def zyB (n:Net) (zcq:Int) (zdf:(Sl Span)) (tot0:Tab) (fromt0:Tab):Bool:=zyz n Fuel zcq zdf tot0 fromt0
theorem zFy (hs:zyB n zcq zdf tot0 fromt0=true) (hk:K (e26 (zyA n zcq zdf tot0 fromt0))) (zp0:zgh=zg zbE zdf):z26 (Wk K) [1,1,1,1,1,0,1,0] [] (zC1 n zcq zdf tot0 fromt0 zgh) :=
  zl (λ X=>z26 (Wk K) [1,1,1,1,1,0,1,0,0] [X]) (by kernel_rfl) λ X0 hX =>
  (show ∀ k, zJB K n X0 (zyz n k) (zyy n k) from zfg _ _ (zyx n) (zyw n) (zJB K n X0)
 (by intro _ _ _ _ _ hs;exact absurd hs dqk)
 (by intro P0 S0 hX0 zcq zdf tot0 fromt0 zgh hs hk zp0;subst zp0;exact hX _ (zaZ (by kernel_rfl) (zc hs hk (λ hs hk=>(zaT hs λ hc hs=>And.intro hc (zaT hs λ hc hs=>And.intro hc (zaT hs λ hc hs=>And.intro hc (zaT hs λ hc hs=>And.intro hc (hX0 hs hk (ziQ (enc:=zbE) (i:=zcq.toNat) (k:=0) (f:=zdf.get) (new:=(zbE (⟨(w64 (0 - (tg 80 tot0 (0+zcq.toNat * 2+0)))),(tg 80 fromt0 (0+zcq.toNat * 2+0))⟩:Span))) (v:=(⟨(w64 (0 - (tg 80 tot0 (0+zcq.toNat * 2+0)))),(tg 80 fromt0 (0+zcq.toNat * 2+0))⟩:Span)) rfl rfl))))))) (λ hs hk=>((zeK hk):Wk K [.one (.sl zdf.len 2 (λ i=>zbE (zdf.get i))),.one (.int .i64 (0:Int))])))))) _ hs hk zp0
def s26 (n:Net):((Sl Span)×Int) :=
  (cond ((s74 n (⟨0, λ _ => default⟩ : (Sl Int))).2 == 0)
 (cond ((0:Int) != (0:Int))
 ((⟨0,λ _=>default⟩:(Sl Span)),(0:Int))
 (zyA n (0:Int) (⟨n.Nodes.toNat,(λ _=>(⟨(0:Int),(0:Int)⟩:Span))⟩:Sl Span) (s75 (⟨(s74 n (⟨0,λ _=>default⟩:(Sl Int))).1.Net,((s74 n (⟨0,λ _=>default⟩:(Sl Int))).1.out)⟩:web) (0:Int)) (s76 (⟨(s74 n (⟨0,λ _=>default⟩:(Sl Int))).1.Net,((s74 n (⟨0,λ _=>default⟩:(Sl Int))).1.out)⟩:web) (0:Int))))
 (cond ((s74 n (⟨0, λ _ => default⟩ : (Sl Int))).2 != (0:Int))
 ((⟨0,λ _=>default⟩:(Sl Span)),(s74 n (⟨0,λ _=>default⟩:(Sl Int))).2)
 default))
def p26 (n:Net):Bool :=
  (cond ((s74 n (⟨0, λ _ => default⟩ : (Sl Int))).2 == 0)
 (decide ((p74 n (⟨0,λ _=>default⟩:(Sl Int))=true)) &&
 (cond ((0:Int) != (0:Int))
 true
 (decide ((p75 (⟨(s74 n (⟨0,λ _=>default⟩:(Sl Int))).1.Net,((s74 n (⟨0,λ _=>default⟩:(Sl Int))).1.out)⟩:web) (0:Int)=true)) &&
 (decide ((p76 (⟨(s74 n (⟨0,λ _=>default⟩:(Sl Int))).1.Net,((s74 n (⟨0,λ _=>default⟩:(Sl Int))).1.out)⟩:web) (0:Int)=true)) &&
 (decide ((0<=n.Nodes/\n.Nodes=n.Nodes/\n.Nodes<=1000000)) &&
 (zyB n (0:Int) (⟨n.Nodes.toNat,(λ _=>(⟨(0:Int),(0:Int)⟩:Span))⟩:Sl Span) (s75 (⟨(s74 n (⟨0,λ _=>default⟩:(Sl Int))).1.Net,((s74 n (⟨0,λ _=>default⟩:(Sl Int))).1.out)⟩:web) (0:Int)) (s76 (⟨(s74 n (⟨0,λ _=>default⟩:(Sl Int))).1.Net,((s74 n (⟨0,λ _=>default⟩:(Sl Int))).1.out)⟩:web) (0:Int))))))))
 (decide ((p74 n (⟨0,λ _=>default⟩:(Sl Int))=true)) &&
 (cond ((s74 n (⟨0, λ _ => default⟩ : (Sl Int))).2 != (0:Int))
 true
 false)))
end
theorem q26 (n:Net) (K:List PA->Prop) (hs:p26 n=true) (hk:K (e26 (s26 n))):vcFun Tryd.prog G26 zFx 26 [.agg (enc_24 n)] (Wk K) :=
  zaZ (by kernel_rfl) (zc hs hk (λ hs hk=>(zaT hs λ hc hs=>And.intro (And.intro (zE enc_40 4 n.Ties.get) hc) (zc hs hk (λ hs hk=>((wk hk (zeu (.one (.nil _ _)) (zeu (.one (.rfl _)) ziR))):Wk K [.one (.nils),.one (.int .i64 (0:Int))])) (λ hs hk=>(zaT hs λ hc hs=>And.intro (And.intro (zE enc_40 4 ((s74 n (⟨0,λ _=>default⟩:(Sl Int))).1.Net.Ties.get)) (And.intro (rfl:((false,1,false,[none]):MQ)=(false,1,false,[none])) hc)) (zaT hs λ hc hs=>And.intro (And.intro (zE enc_40 4 ((s74 n (⟨0,λ _=>default⟩:(Sl Int))).1.Net.Ties.get)) (And.intro (rfl:((false,1,false,[none]):MQ)=(false,1,false,[none])) hc)) (zaT hs λ hc hs=>And.intro hc (zFy hs hk rfl)))))))) (λ hs hk=>(zaT hs λ hc hs=>And.intro (And.intro (zE enc_40 4 n.Ties.get) hc) (zc hs hk (λ hs hk=>((wk hk (zeu (.one (.nil _ _)) (zeu (.one (.rfl _)) ziR))):Wk K [.one (.nils),.one (.int .i64 ((s74 n (⟨0,λ _=>default⟩:(Sl Int))).2))])) (λ hs hk=>(absurd hs dqk:False))))))
def zFz : List PA → COut
  | [.agg [.int .i64 zae,.sl zad zaz zac]]=>.det (IsE enc_40 4 zaz zac/\p26 (⟨zae,(⟨zad,zam zac⟩:(Sl Tie))⟩:Net)=true) [.one (.sl (((s26 (⟨zae,(⟨zad,zam zac⟩:(Sl Tie))⟩:Net)).1).len) 2 (λ i=>zbE (((s26 (⟨zae,(⟨zad,zam zac⟩:(Sl Tie))⟩:Net)).1).get i))),.one (.int .i64 ((s26 (⟨zae,(⟨zad,zam zac⟩:(Sl Tie))⟩:Net)).2))]
  | _=>.no
theorem zJC:zar Tryd.prog 26:=⟨_,rfl,rfl,by kernel_rfl⟩
theorem zNV:Ok Tryd.prog 26 zFz:=zfC zL1 zJC λ args K h=>by
  unfold zFz at h
  split at h
  · rename_i zae zad zaz zac
    obtain⟨⟨⟨rfl,zaq,rfl⟩,hs⟩,hk⟩:=h
    try rw[zak zaq] at hs
    try rw[zak zaq] at hk
    exact⟨_,zeI zeJ _,(λ _ _=>[]),(λ _=>false),zFx,q26 (⟨zae,(⟨zad,zaq⟩:(Sl Tie))⟩:Net) K hs hk⟩
  · exact h.elim
abbrev T29:Tabs:=Tabs.nil
theorem zL2:TabsOk Tryd.prog T29:=TabsOk.nil
abbrev G29:Ctrs:=csm T29 (λ _ _=>[]) (λ _=>false)
def zJD:Ann:=⟨13,[(0,zK [2,3,4] [2,3,4]),(1,zK [2,4] [2,4,7]),(2,zK [4] [4,7])],
 [],
 [],
 [],[]⟩
abbrev R29:=Net
abbrev e29 (r:R29):List PA:=[.agg [.int .i64 r.Nodes,.sl r.Ties.len 4 (λ i=>enc_40 (r.Ties.get i))]]
section
variable {K:List PA->Prop}{n:Net}{t:Tie}
def s29 (n:Net) (t:Tie):Net :=
  (⟨n.Nodes,(⟨(n.Ties.len+1),(zgB n.Ties.len n.Ties.get (λ _=>t))⟩:(Sl Tie))⟩:Net)
def p29 (n:Net) (t:Tie):Bool :=
  (decide ((n.Ties.len * 32<=140737488355328/\n.Ties.len<=9223372036854775807)) &&
 (decide (((n.Ties.len+1) * 32<=140737488355328/\n.Ties.len+1<=9223372036854775807)) &&
 true))
end
theorem q29 (n:Net) (t:Tie) (K:List PA->Prop) (hs:p29 n t=true) (hk:K (e29 (s29 n t))):vcFun Tryd.prog G29 zJD 29 [.agg (enc_24 n),.agg (enc_40 t)] K :=
  zaZ (by kernel_rfl) (zaT hs λ hc hs=>And.intro hc (zaT hs λ hc hs=>And.intro hc (Eq.mpr (congrArg K (congrArg (λ (g_:Nat->List PV)=>([.agg [.int .i64 n.Nodes,.sl (n.Ties.len+1) 4 g_]]:List PA)) (zko (enc:=enc_40) (f:=n.Ties.get) (h:=(λ _=>t)) rfl rfl))) hk)))
def zFA : List PA → COut
  | [.agg [.int .i64 zae,.sl zad zaz zac],.agg [.int .i64 zcX,.int .i64 zgY,.int .i64 zeo,.int .i64 zcY]]=>.det (IsE enc_40 4 zaz zac/\p29 (⟨zae,(⟨zad,zam zac⟩:(Sl Tie))⟩:Net) (⟨zcX,zgY,zeo,zcY⟩:Tie)=true) [.agg [.int .i64 ((s29 (⟨zae,(⟨zad,zam zac⟩:(Sl Tie))⟩:Net) (⟨zcX,zgY,zeo,zcY⟩:Tie)).Nodes),.sl ((s29 (⟨zae,(⟨zad,zam zac⟩:(Sl Tie))⟩:Net) (⟨zcX,zgY,zeo,zcY⟩:Tie)).Ties.len) 4 (λ i=>enc_40 ((s29 (⟨zae,(⟨zad,zam zac⟩:(Sl Tie))⟩:Net) (⟨zcX,zgY,zeo,zcY⟩:Tie)).Ties.get i))]]
  | _=>.no
theorem zJE:zar Tryd.prog 29:=⟨_,rfl,rfl,by kernel_rfl⟩
theorem zNW:Ok Tryd.prog 29 zFA:=zbu zL2 zJE λ args K h=>by
  unfold zFA at h
  split at h
  · rename_i zae zad zaz zac zcX zgY zeo zcY
    obtain⟨⟨⟨rfl,zaq,rfl⟩,hs⟩,hk⟩:=h
    try rw[zak zaq] at hs
    try rw[zak zaq] at hk
    exact⟨(λ _ _=>[]),(λ _=>false),zJD,q29 (⟨zae,(⟨zad,zaq⟩:(Sl Tie))⟩:Net) (⟨zcX,zgY,zeo,zcY⟩:Tie) K hs hk⟩
  · exact h.elim
abbrev T32:Tabs:=Tabs.nil
theorem zL3:TabsOk Tryd.prog T32:=TabsOk.nil
abbrev G32:Ctrs:=csm T32 (λ _ _=>[]) (λ _=>false)
def zFB:Ann:=⟨26,[(0,zK [0,1] []),(1,zK [0,1,10] []),(2,zK [4] []),(3,zK [0,1,5] []),(4,zK [0,1,5,14] []),(5,zK [0,1,5] []),(6,zK [0,1,5,25] []),(7,zK [4] []),(8,zK [4] [])],
 [(4,zK [0,1,5] [])],
 [(3,zK [0,1] [])],
 [],[]⟩
abbrev R32:=Bool
abbrev e32 (r:R32):List PA:=[.one (.bool r)]
@[irreducible] def z32:=ptF Tryd.prog G32 zFB Tryd.f32
def zC2 (a:(Sl Span)) (b:(Sl Span)) (iv1:Int):St:=⟨[(0,zS zbE 2 a),(1,zS zbE 2 b),(5,zI iv1)],[],[]⟩
abbrev zJF (K:List PA->Prop) (a:(Sl Span)) (b:(Sl Span)) (X:St->Prop) (P:Int->Bool) (S:Int->Bool):Prop:=∀ ⦃iv1:Int⦄,P iv1=true->K (e32 (S iv1))->X (zC2 a b iv1)
section
variable {K:List PA->Prop}{a:(Sl Span)}{b:(Sl Span)}{iv1:Int}{X1:St->Prop}{P1:Int->Bool}{S1:Int->Bool}
def zyC (a:(Sl Span)) (b:(Sl Span)) (S1:Int->Bool) (iv1:Int):Bool :=
  (cond (decide (iv1 < (a.len : Int)))
 (cond (!(match ((a.get iv1.toNat).Low == (b.get iv1.toNat).Low) with | true => (match ((a.get iv1.toNat).High == (b.get iv1.toNat).High) with | true => true | false => false) | false => false))
 false
 (S1 (w64 (iv1+(1:Int)))))
 true)
def zyD (a:(Sl Span)) (b:(Sl Span)) (P1:Int->Bool) (iv1:Int):Bool :=
  (cond (decide (iv1 < (a.len : Int)))
 (decide ((0<=iv1/\iv1 < (a.len:Int))) &&
 (decide ((0<=iv1/\iv1 < (b.len:Int))) &&
 (cond (!(match ((a.get iv1.toNat).Low == (b.get iv1.toNat).Low) with | true => (match ((a.get iv1.toNat).High == (b.get iv1.toNat).High) with | true => true | false => false) | false => false))
 true
 (P1 (w64 (iv1+(1:Int)))))))
 true)
def zyE (a:(Sl Span)) (b:(Sl Span)):Nat->Int->Bool:=lpO (λ _=>default) (zyC a b)
def zyF (a:(Sl Span)) (b:(Sl Span)):Nat->Int->Bool:=lpO (λ _=>false) (zyD a b)
def zyG (a:(Sl Span)) (b:(Sl Span)) (iv1:Int):Bool:=zyE a b Fuel iv1
def zyH (a:(Sl Span)) (b:(Sl Span)) (iv1:Int):Bool:=zyF a b Fuel iv1
theorem zFC (hs:zyH a b iv1=true) (hk:K (e32 (zyG a b iv1))):z32 K [1,1,0,1,0] [] (zC2 a b iv1) :=
  zl (λ X=>z32 K [1,1,0,1,0,0] [X]) (by kernel_rfl) λ X1 hX =>
  (show ∀ k, zJF K a b X1 (zyF a b k) (zyE a b k) from zfg _ _ (zyD a b) (zyC a b) (zJF K a b X1)
 (by intro _ hs;exact absurd hs dqk)
 (by intro P1 S1 hX1 iv1 hs hk;exact hX _ (zaZ (by kernel_rfl) (zc hs hk (λ hs hk=>(zaT hs λ hc hs=>And.intro hc (zaT hs λ hc hs=>And.intro hc (zc hs hk (λ hs hk=>hk) (λ hs hk=>(hX1 hs hk)))))) (λ hs hk=>hk))))) _ hs hk
def zyI (a:(Sl Span)) (b:(Sl Span)):Bool :=
  (zyG a b (0:Int))
def zyJ (a:(Sl Span)) (b:(Sl Span)):Bool :=
  (zyH a b (0:Int))
theorem zFD (hs:zyJ a b=true) (hk:K (e32 (zyI a b))):z32 K [1,1] [] ⟨[(0,zS zbE 2 a),(1,zS zbE 2 b)],[],[]⟩:=zaZ (by kernel_rfl) (zFC hs hk)
def s32 (a:(Sl Span)) (b:(Sl Span)):Bool :=
  (cond ((a.len : Int) != (b.len : Int))
 false
 (zyI a b))
def p32 (a:(Sl Span)) (b:(Sl Span)):Bool :=
  (cond ((a.len : Int) != (b.len : Int))
 true
 (zyJ a b))
end
theorem q32 (a:(Sl Span)) (b:(Sl Span)) (K:List PA->Prop) (hs:p32 a b=true) (hk:K (e32 (s32 a b))):vcFun Tryd.prog G32 zFB 32 [.one (.sl a.len 2 (λ i=>zbE (a.get i))),.one (.sl b.len 2 (λ i=>zbE (b.get i)))] K :=
  zaZ (by kernel_rfl) (zc hs hk (λ hs hk=>hk) (λ hs hk=>(zFD hs hk)))
def zFE : List PA → COut
  | [.one (.sl zf8 zlS zf9),.one (.sl zdb zgC zc8)]=>.det (IsE zbE 2 zlS zf9/\IsE zbE 2 zgC zc8/\p32 (⟨zf8,zf2 zf9⟩:(Sl Span)) (⟨zdb,zf2 zc8⟩:(Sl Span))=true) [.one (.bool (s32 (⟨zf8,zf2 zf9⟩:(Sl Span)) (⟨zdb,zf2 zc8⟩:(Sl Span))))]
  | _=>.no
theorem zJG:zar Tryd.prog 32:=⟨_,rfl,rfl,by kernel_rfl⟩
theorem ok32:Ok Tryd.prog 32 zFE:=zbu zL3 zJG λ args K h=>by
  unfold zFE at h
  split at h
  · rename_i zf8 zlS zf9 zdb zgC zc8
    obtain⟨⟨⟨rfl,zid,rfl⟩,⟨rfl,ze1,rfl⟩,hs⟩,hk⟩:=h
    try rw[zfD zid] at hs
    try rw[zfD zid] at hk
    try rw[zfD ze1] at hs
    try rw[zfD ze1] at hk
    exact⟨(λ _ _=>[]),(λ _=>false),zFB,q32 (⟨zf8,zid⟩:(Sl Span)) (⟨zdb,ze1⟩:(Sl Span)) K hs hk⟩
  · exact h.elim
abbrev T83:Tabs:=((Tabs.nil.addF 75 zx8).addF 76 zyv)
theorem zL4:TabsOk Tryd.prog T83:=((TabsOk.nil.addF zLY).addF zL0)
abbrev G83:Ctrs:=csm T83 (λ _ _=>[]) (λ _=>false)
def zFF:Ann:=⟨31,[(0,zK [0] []),(1,zK [0,3,4] [3,4]),(2,zK [3,4,14,15] [3,4]),(3,zK [3,4,14,15,16] [3,4]),(4,zK [3,4,5,14,15] [3,4]),(5,zK [3,4,14,15,29] [3,4]),(6,zK [2] []),(7,zK [3,4,14,15] [3,4]),(8,zK [2] [])],
 [(3,zK [3,4,14,15] [3,4])],
 [(2,zK [0,3,4] [3,4])],
 [],[]⟩
abbrev R83:=Bool
abbrev e83 (r:R83):List PA:=[.one (.bool r)]
@[irreducible] def z83:=ptF Tryd.prog G83 zFF Tryd.f83
def zC3 (w:web) (zcP:Int) (tot1:Tab) (fromt1:Tab):St:=⟨[(3,zp 3 0),(4,zp 4 0),(14,zI w.Net.Nodes),(15,zI zcP)],[(3,.box 116 (zm (zan tot1))),(4,.box 116 (zm (zan fromt1)))],[]⟩
abbrev zJH (K:List PA->Prop) (w:web) (X:St->Prop) (P:Int->Tab->Tab->Bool) (S:Int->Tab->Tab->Bool):Prop:=∀ ⦃zcP:Int⦄ ⦃tot1:Tab⦄ ⦃fromt1:Tab⦄,P zcP tot1 fromt1=true->K (e83 (S zcP tot1 fromt1))->X (zC3 w zcP tot1 fromt1)
section
variable {K:List PA->Prop}{w:web}{tot0:Tab}{fromt0:Tab}{zcP:Int}{tot1:Tab}{fromt1:Tab}{X1:St->Prop}{P1:Int->Tab->Tab->Bool}{S1:Int->Tab->Tab->Bool}
def zyK (w:web) (S1:Int->Tab->Tab->Bool) (zcP:Int) (tot1:Tab) (fromt1:Tab):Bool :=
  (cond (decide (zcP < w.Net.Nodes))
 (cond (match ((tg 80 tot1 (0 + zcP.toNat * 2 + 0)) == (1000000000000:Int)) with | true => (match ((tg 80 tot1 (0 + zcP.toNat * 2 + 0 + 1)) == (0:Int)) with | true => true | false => false) | false => false)
 false
 (cond (match ((tg 80 fromt1 (0 + zcP.toNat * 2 + 0)) == (1000000000000:Int)) with | true => (match ((tg 80 fromt1 (0 + zcP.toNat * 2 + 0 + 1)) == (0:Int)) with | true => true | false => false) | false => false)
 false
 (S1 (w64 (zcP+(1:Int))) tot1 fromt1)))
 true)
def zyL (w:web) (P1:Int->Tab->Tab->Bool) (zcP:Int) (tot1:Tab) (fromt1:Tab):Bool :=
  (cond (decide (zcP < w.Net.Nodes))
 (decide ((0<=zcP/\zcP < (40:Int))) &&
 (cond (match ((tg 80 tot1 (0 + zcP.toNat * 2 + 0)) == (1000000000000:Int)) with | true => (match ((tg 80 tot1 (0 + zcP.toNat * 2 + 0 + 1)) == (0:Int)) with | true => true | false => false) | false => false)
 true
 (decide ((0<=zcP/\zcP < (40:Int))) &&
 (cond (match ((tg 80 fromt1 (0 + zcP.toNat * 2 + 0)) == (1000000000000:Int)) with | true => (match ((tg 80 fromt1 (0 + zcP.toNat * 2 + 0 + 1)) == (0:Int)) with | true => true | false => false) | false => false)
 true
 (P1 (w64 (zcP+(1:Int))) tot1 fromt1)))))
 true)
def zyM (w:web):Nat->Int->Tab->Tab->Bool:=lpO (λ _ _ _=>default) (zyK w)
def zyN (w:web):Nat->Int->Tab->Tab->Bool:=lpO (λ _ _ _=>false) (zyL w)
def zyO (w:web) (zcP:Int) (tot1:Tab) (fromt1:Tab):Bool:=zyM w Fuel zcP tot1 fromt1
def zyP (w:web) (zcP:Int) (tot1:Tab) (fromt1:Tab):Bool:=zyN w Fuel zcP tot1 fromt1
theorem zFG (hs:zyP w zcP tot1 fromt1=true) (hk:K (e83 (zyO w zcP tot1 fromt1))):z83 K [1,1,0,1,0] [] (zC3 w zcP tot1 fromt1) :=
  zl (λ X=>z83 K [1,1,0,1,0,0] [X]) (by kernel_rfl) λ X1 hX =>
  (show ∀ k, zJH K w X1 (zyN w k) (zyM w k) from zfg _ _ (zyL w) (zyK w) (zJH K w X1)
 (by intro _ _ _ hs;exact absurd hs dqk)
 (by intro P1 S1 hX1 zcP tot1 fromt1 hs hk;exact hX _ (zaZ (by kernel_rfl) (zc hs hk (λ hs hk=>(zaT hs λ hc hs=>And.intro hc (zc hs hk (λ hs hk=>hk) (λ hs hk=>(zaT hs λ hc hs=>And.intro hc (zc hs hk (λ hs hk=>hk) (λ hs hk=>(hX1 hs hk)))))))) (λ hs hk=>hk))))) _ hs hk
def zyQ (w:web) (tot0:Tab) (fromt0:Tab):Bool :=
  (zyO w (0:Int) tot0 fromt0)
def zyR (w:web) (tot0:Tab) (fromt0:Tab):Bool :=
  (zyP w (0:Int) tot0 fromt0)
theorem zFH (hs:zyR w tot0 fromt0=true) (hk:K (e83 (zyQ w tot0 fromt0))):z83 K [1,1] [] ⟨[(0,zP (.fp (zaD w) 0)),(3,zp 3 0),(4,zp 4 0)],[(3,.box 116 (zm (zan tot0))),(4,.box 116 (zm (zan fromt0)))],[]⟩:=zaZ (by kernel_rfl) (zFG hs hk)
def s83 (w:web):Bool :=
  (zyQ w (s75 w (0:Int)) (s76 w (0:Int)))
def p83 (w:web):Bool :=
  (decide ((p75 w (0:Int)=true)) &&
 (decide ((p76 w (0:Int)=true)) &&
 (zyR w (s75 w (0:Int)) (s76 w (0:Int)))))
end
theorem q83 (w:web) (K:List PA->Prop) (hs:p83 w=true) (hk:K (e83 (s83 w))):vcFun Tryd.prog G83 zFF 83 [.one (.fp (zaD w) 0)] K :=
  zaZ (by kernel_rfl) (zaT hs λ hc hs=>And.intro (And.intro (zE enc_40 4 w.Net.Ties.get) (And.intro (rfl:((false,1,false,[none]):MQ)=(false,1,false,[none])) hc)) (zaT hs λ hc hs=>And.intro (And.intro (zE enc_40 4 w.Net.Ties.get) (And.intro (rfl:((false,1,false,[none]):MQ)=(false,1,false,[none])) hc)) (zFH hs hk)))
def zFI : List PA → COut
  | [.one (.fp [.int .i64 zal,.sl zai zaC zaj,.fm zbd zaI zaJ] 0)]=>.det (IsE enc_40 4 zaC zaj/\zbd=(false,1,false,[none])/\p83 (⟨(⟨zal,(⟨zai,zam zaj⟩:(Sl Tie))⟩:Net),(⟨zaI,zaJ⟩:Mp)⟩:web)=true) [.one (.bool (s83 (⟨(⟨zal,(⟨zai,zam zaj⟩:(Sl Tie))⟩:Net),(⟨zaI,zaJ⟩:Mp)⟩:web)))]
  | _=>.no
theorem zJI:zar Tryd.prog 83:=⟨_,rfl,rfl,by kernel_rfl⟩
theorem zNX:Ok Tryd.prog 83 zFI:=zbu zL4 zJI λ args K h=>by
  unfold zFI at h
  split at h
  · rename_i zal zai zaC zaj zbd zaI zaJ
    obtain⟨⟨⟨rfl,zat,rfl⟩,rfl,hs⟩,hk⟩:=h
    try rw[zak zat] at hs
    try rw[zak zat] at hk
    exact⟨(λ _ _=>[]),(λ _=>false),zFF,q83 (⟨(⟨zal,(⟨zai,zat⟩:(Sl Tie))⟩:Net),(⟨zaI,zaJ⟩:Mp)⟩:web) K hs hk⟩
  · exact h.elim
abbrev T85:Tabs:=Tabs.nil
theorem zL5:TabsOk Tryd.prog T85:=TabsOk.nil
abbrev G85:Ctrs:=csm T85 (λ _ _=>[]) (λ _=>false)
def zJJ:Ann:=⟨8,[(0,zK [0,1] []),(1,zK [3] [])],
 [],
 [],
 [],[]⟩
abbrev R85:=Int
abbrev e85 (r:R85):List PA:=[.one (.int .i64 r)]
section
variable {K:List PA->Prop}{c0:Tab}{i_a0:Int}
def s85 (c0:Tab) (i_a0:Int):Int :=
  (tg 80 c0 (0+i_a0.toNat * 2+0))
def p85 (c0:Tab) (i_a0:Int):Bool :=
  (decide ((0<=i_a0/\i_a0 < (40:Int))) &&
 true)
end
theorem q85 (c0:Tab) (i_a0:Int) (K:List PA->Prop) (hs:p85 c0 i_a0=true) (hk:K (e85 (s85 c0 i_a0))):vcFun Tryd.prog G85 zJJ 85 [.one (.int .i64 i_a0),.one (.fp (zan c0) 0)] K :=
  zaZ (by kernel_rfl) (zaT hs λ hc hs=>And.intro hc hk)
def zFJ : List PA → COut
  | [.one (.int .i64 a0),.one (.fp c0_t 0)]=>.det (c0_t=zan (zaH c0_t)/\p85 (zaH c0_t) a0=true) [.one (.int .i64 (s85 (zaH c0_t) a0))]
  | _=>.no
theorem zJK:zar Tryd.prog 85:=⟨_,rfl,rfl,by kernel_rfl⟩
theorem zNY:Ok Tryd.prog 85 zFJ:=zbu zL5 zJK λ args K h=>by
  unfold zFJ at h
  split at h
  · rename_i a0 c0_t
    obtain⟨⟨hT_c0,hs⟩,hk⟩:=h
    exact⟨(λ _ _=>[]),(λ _=>false),zJJ,(by have hq:=q85 (zaH c0_t) a0 K hs hk;rw[<- hT_c0] at hq;exact hq)⟩
  · exact h.elim
abbrev T86:Tabs:=Tabs.nil
theorem zL6:TabsOk Tryd.prog T86:=TabsOk.nil
abbrev G86:Ctrs:=csm T86 (λ _ _=>[]) (λ _=>false)
def zJL:Ann:=⟨9,[(0,zK [0,1] []),(1,zK [3] [])],
 [],
 [],
 [],[]⟩
abbrev R86:=Int
abbrev e86 (r:R86):List PA:=[.one (.int .i64 r)]
section
variable {K:List PA->Prop}{c0:Tab}{i_a0:Int}
def s86 (c0:Tab) (i_a0:Int):Int :=
  (w64 (0 - (tg 80 c0 (0+i_a0.toNat * 2+0))))
def p86 (c0:Tab) (i_a0:Int):Bool :=
  (decide ((0<=i_a0/\i_a0 < (40:Int))) &&
 true)
end
theorem q86 (c0:Tab) (i_a0:Int) (K:List PA->Prop) (hs:p86 c0 i_a0=true) (hk:K (e86 (s86 c0 i_a0))):vcFun Tryd.prog G86 zJL 86 [.one (.int .i64 i_a0),.one (.fp (zan c0) 0)] K :=
  zaZ (by kernel_rfl) (zaT hs λ hc hs=>And.intro hc hk)
def zFK : List PA → COut
  | [.one (.int .i64 a0),.one (.fp c0_t 0)]=>.det (c0_t=zan (zaH c0_t)/\p86 (zaH c0_t) a0=true) [.one (.int .i64 (s86 (zaH c0_t) a0))]
  | _=>.no
theorem zJM:zar Tryd.prog 86:=⟨_,rfl,rfl,by kernel_rfl⟩
theorem zNZ:Ok Tryd.prog 86 zFK:=zbu zL6 zJM λ args K h=>by
  unfold zFK at h
  split at h
  · rename_i a0 c0_t
    obtain⟨⟨hT_c0,hs⟩,hk⟩:=h
    exact⟨(λ _ _=>[]),(λ _=>false),zJL,(by have hq:=q86 (zaH c0_t) a0 K hs hk;rw[<- hT_c0] at hq;exact hq)⟩
  · exact h.elim
abbrev T87:Tabs:=Tabs.nil
theorem zL7:TabsOk Tryd.prog T87:=TabsOk.nil
abbrev G87:Ctrs:=csm T87 (λ _ _=>[]) (λ _=>false)
def zJN:Ann:=⟨12,[(0,zK [0,1] []),(1,zK [3] [])],
 [],
 [],
 [],[]⟩
abbrev R87:=Int
abbrev e87 (r:R87):List PA:=[.one (.int .i64 r)]
section
variable {K:List PA->Prop}{c0:Tab}{i_a0:Int}
def s87 (c0:Tab) (i_a0:Int):Int :=
  (w64 ((tg 80 c0 (0+i_a0.toNat * 2+0)) - (tg 80 c0 (0+0 * 2+0))))
def p87 (c0:Tab) (i_a0:Int):Bool :=
  (decide ((0<=i_a0/\i_a0 < (40:Int))) &&
 (decide ((0<=(0:Int)/\(0:Int) < (40:Int))) &&
 true))
end
theorem q87 (c0:Tab) (i_a0:Int) (K:List PA->Prop) (hs:p87 c0 i_a0=true) (hk:K (e87 (s87 c0 i_a0))):vcFun Tryd.prog G87 zJN 87 [.one (.int .i64 i_a0),.one (.fp (zan c0) 0)] K :=
  zaZ (by kernel_rfl) (zaT hs λ hc hs=>And.intro hc (zaT hs λ hc hs=>And.intro hc hk))
def zFL : List PA → COut
  | [.one (.int .i64 a0),.one (.fp c0_t 0)]=>.det (c0_t=zan (zaH c0_t)/\p87 (zaH c0_t) a0=true) [.one (.int .i64 (s87 (zaH c0_t) a0))]
  | _=>.no
theorem zJO:zar Tryd.prog 87:=⟨_,rfl,rfl,by kernel_rfl⟩
theorem zN0:Ok Tryd.prog 87 zFL:=zbu zL7 zJO λ args K h=>by
  unfold zFL at h
  split at h
  · rename_i a0 c0_t
    obtain⟨⟨hT_c0,hs⟩,hk⟩:=h
    exact⟨(λ _ _=>[]),(λ _=>false),zJN,(by have hq:=q87 (zaH c0_t) a0 K hs hk;rw[<- hT_c0] at hq;exact hq)⟩
  · exact h.elim
abbrev T84:Tabs:=(((Tabs.nil.addF 85 zFJ).addF 86 zFK).addF 87 zFL)
theorem zL8:TabsOk Tryd.prog T84:=(((TabsOk.nil.addF zNY).addF zNZ).addF zN0)
abbrev G84:Ctrs:=csm T84 (λ _ _=>[]) (λ _=>false)
def zFM:Ann:=⟨26,[(0,zK [0,1] []),(1,zK [1,5] [12]),(2,zK [1,5,14,15] [12]),(3,zK [1,5,14,15,16] [12]),(4,zK [1,5,6,14,15] [12]),(5,zK [1,5,14,15] [12]),(6,zK [1,5,14,15] [12]),(7,zK [4] [12])],
 [(3,zK [1,5,14,15] [12])],
 [],
 [],[]⟩
abbrev R84:=(Sl Int)
abbrev e84 (r:R84):List PA:=[.one (.sl r.len 1 (λ i=>enc_3 (r.get i)))]
@[irreducible] def z84:=ptF Tryd.prog G84 zFM Tryd.f84
def zC4 (c0:Tab) (w:web) (zaK:Int) (za7:(Sl Int)) (zbK:Nat->List PV):St:=⟨[(1,zP (.fn 87 [] [.fp (zan c0) 0])),(5,zv 12),(14,zI (w.Net.Nodes.toNat:Int)),(15,zI zaK)],[(12,.vec 3 1 8 za7.len zbK)],[]⟩
abbrev zJP (K:List PA->Prop) (c0:Tab) (w:web) (X:St->Prop) (P:Int->(Sl Int)->Bool) (S:Int->(Sl Int)->(Sl Int)):Prop:=∀ ⦃zaK:Int⦄ ⦃za7:(Sl Int)⦄ ⦃zbK:Nat->List PV⦄,P zaK za7=true->K (e84 (S zaK za7))->zbK=zg enc_3 za7->X (zC4 c0 w zaK za7 zbK)
section
variable {K:List PA->Prop}{c0:Tab}{w:web}{zaK:Int}{za7:(Sl Int)}{zbK:Nat->List PV}{X0:St->Prop}{P0:Int->(Sl Int)->Bool}{S0:Int->(Sl Int)->(Sl Int)}
def zyS (c0:Tab) (w:web) (S0:Int->(Sl Int)->(Sl Int)) (zaK:Int) (za7:(Sl Int)):(Sl Int) :=
  (cond (decide (zaK < (w.Net.Nodes.toNat : Int)))
 (S0 (w64 (zaK+(1:Int))) (⟨za7.len,(setT zaK.toNat (s87 (zaH (zan c0)) zaK) za7.get)⟩:Sl Int))
 za7)
def zyT (c0:Tab) (w:web) (P0:Int->(Sl Int)->Bool) (zaK:Int) (za7:(Sl Int)):Bool :=
  (cond (decide (zaK < (w.Net.Nodes.toNat : Int)))
 (decide ((p87 (zaH (zan c0)) zaK=true)) &&
 (decide ((0<=zaK/\zaK < (za7.len:Int))) &&
 (decide ((zaK.toNat < za7.len)) &&
 (P0 (w64 (zaK+(1:Int))) (⟨za7.len,(setT zaK.toNat (s87 (zaH (zan c0)) zaK) za7.get)⟩:Sl Int)))))
 true)
def zyU (c0:Tab) (w:web):Nat->Int->(Sl Int)->(Sl Int):=lpO (λ _ _=>default) (zyS c0 w)
def zyV (c0:Tab) (w:web):Nat->Int->(Sl Int)->Bool:=lpO (λ _ _=>false) (zyT c0 w)
def zyW (c0:Tab) (w:web) (zaK:Int) (za7:(Sl Int)):(Sl Int):=zyU c0 w Fuel zaK za7
def zyX (c0:Tab) (w:web) (zaK:Int) (za7:(Sl Int)):Bool:=zyV c0 w Fuel zaK za7
theorem zFN (hs:zyX c0 w zaK za7=true) (hk:K (e84 (zyW c0 w zaK za7))) (zep:zbK=zg enc_3 za7):z84 K [1,1,0,1,0] [] (zC4 c0 w zaK za7 zbK) :=
  zl (λ X=>z84 K [1,1,0,1,0,0] [X]) (by kernel_rfl) λ X0 hX =>
  (show ∀ k, zJP K c0 w X0 (zyV c0 w k) (zyU c0 w k) from zfg _ _ (zyT c0 w) (zyS c0 w) (zJP K c0 w X0)
 (by intro _ _ _ hs;exact absurd hs dqk)
 (by intro P0 S0 hX0 zaK za7 zbK hs hk zep;subst zep;exact hX _ (zaZ (by kernel_rfl) (zc hs hk (λ hs hk=>(zaT hs λ hc hs=>And.intro (And.intro (zhD:zan c0=zan (zaH (zan c0))) hc) (zaT hs λ hc hs=>And.intro hc (zaT hs λ hc hs=>And.intro hc (hX0 hs hk (ziQ (enc:=enc_3) (i:=zaK.toNat) (k:=0) (f:=za7.get) (new:=(enc_3 (s87 (zaH (zan c0)) zaK))) (v:=(s87 (zaH (zan c0)) zaK)) rfl rfl)))))) (λ hs hk=>hk))))) _ hs hk zep
def s84 (c0:Tab) (w:web):(Sl Int) :=
  (zyW c0 w (0:Int) (⟨w.Net.Nodes.toNat,(λ _=>(0:Int))⟩:Sl Int))
def p84 (c0:Tab) (w:web):Bool :=
  (decide ((0<=w.Net.Nodes/\w.Net.Nodes=w.Net.Nodes/\w.Net.Nodes<=1000000)) &&
 (zyX c0 w (0:Int) (⟨w.Net.Nodes.toNat,(λ _=>(0:Int))⟩:Sl Int)))
end
theorem q84 (c0:Tab) (w:web) (K:List PA->Prop) (hs:p84 c0 w=true) (hk:K (e84 (s84 c0 w))):vcFun Tryd.prog G84 zFM 84 [.one (.fp (zaD w) 0),.one (.fn 87 [] [.fp (zan c0) 0])] K :=
  zaZ (by kernel_rfl) (zaT hs λ hc hs=>And.intro hc (zFN hs hk rfl))
abbrev zNa:Ctrs:=csm T84 (λ _ _=>[]) (λ _=>false)
def zyY:Ann:=⟨26,[(0,zK [0,1] []),(1,zK [1,5] [12]),(2,zK [1,5,14,15] [12]),(3,zK [1,5,14,15,16] [12]),(4,zK [1,5,6,14,15] [12]),(5,zK [1,5,14,15] [12]),(6,zK [1,5,14,15] [12]),(7,zK [4] [12])],
 [(3,zK [1,5,14,15] [12])],
 [],
 [],[]⟩
abbrev zN1:=(Sl Int)
abbrev zL9 (r:zN1):List PA:=[.one (.sl r.len 1 (λ i=>enc_3 (r.get i)))]
@[irreducible] def z84a:=ptF Tryd.prog zNa zyY Tryd.f84
def zyZ (c0:Tab) (w:web) (zaK:Int) (za7:(Sl Int)) (zbK:Nat->List PV):St:=⟨[(1,zP (.fn 85 [] [.fp (zan c0) 0])),(5,zv 12),(14,zI (w.Net.Nodes.toNat:Int)),(15,zI zaK)],[(12,.vec 3 1 8 za7.len zbK)],[]⟩
abbrev zC5 (K:List PA->Prop) (c0:Tab) (w:web) (X:St->Prop) (P:Int->(Sl Int)->Bool) (S:Int->(Sl Int)->(Sl Int)):Prop:=∀ ⦃zaK:Int⦄ ⦃za7:(Sl Int)⦄ ⦃zbK:Nat->List PV⦄,P zaK za7=true->K (zL9 (S zaK za7))->zbK=zg enc_3 za7->X (zyZ c0 w zaK za7 zbK)
section
variable {K:List PA->Prop}{c0:Tab}{w:web}{zaK:Int}{za7:(Sl Int)}{zbK:Nat->List PV}{X0:St->Prop}{P0:Int->(Sl Int)->Bool}{S0:Int->(Sl Int)->(Sl Int)}
def zsF (c0:Tab) (w:web) (S0:Int->(Sl Int)->(Sl Int)) (zaK:Int) (za7:(Sl Int)):(Sl Int) :=
  (cond (decide (zaK < (w.Net.Nodes.toNat : Int)))
 (S0 (w64 (zaK+(1:Int))) (⟨za7.len,(setT zaK.toNat (s85 (zaH (zan c0)) zaK) za7.get)⟩:Sl Int))
 za7)
def zsG (c0:Tab) (w:web) (P0:Int->(Sl Int)->Bool) (zaK:Int) (za7:(Sl Int)):Bool :=
  (cond (decide (zaK < (w.Net.Nodes.toNat : Int)))
 (decide ((p85 (zaH (zan c0)) zaK=true)) &&
 (decide ((0<=zaK/\zaK < (za7.len:Int))) &&
 (decide ((zaK.toNat < za7.len)) &&
 (P0 (w64 (zaK+(1:Int))) (⟨za7.len,(setT zaK.toNat (s85 (zaH (zan c0)) zaK) za7.get)⟩:Sl Int)))))
 true)
def zsH (c0:Tab) (w:web):Nat->Int->(Sl Int)->(Sl Int):=lpO (λ _ _=>default) (zsF c0 w)
def zsI (c0:Tab) (w:web):Nat->Int->(Sl Int)->Bool:=lpO (λ _ _=>false) (zsG c0 w)
def zsJ (c0:Tab) (w:web) (zaK:Int) (za7:(Sl Int)):(Sl Int):=zsH c0 w Fuel zaK za7
def zsK (c0:Tab) (w:web) (zaK:Int) (za7:(Sl Int)):Bool:=zsI c0 w Fuel zaK za7
theorem zBT (hs:zsK c0 w zaK za7=true) (hk:K (zL9 (zsJ c0 w zaK za7))) (zep:zbK=zg enc_3 za7):z84a K [1,1,0,1,0] [] (zyZ c0 w zaK za7 zbK) :=
  zl (λ X=>z84a K [1,1,0,1,0,0] [X]) (by kernel_rfl) λ X0 hX =>
  (show ∀ k, zC5 K c0 w X0 (zsI c0 w k) (zsH c0 w k) from zfg _ _ (zsG c0 w) (zsF c0 w) (zC5 K c0 w X0)
 (by intro _ _ _ hs;exact absurd hs dqk)
 (by intro P0 S0 hX0 zaK za7 zbK hs hk zep;subst zep;exact hX _ (zaZ (by kernel_rfl) (zc hs hk (λ hs hk=>(zaT hs λ hc hs=>And.intro (And.intro (zhD:zan c0=zan (zaH (zan c0))) hc) (zaT hs λ hc hs=>And.intro hc (zaT hs λ hc hs=>And.intro hc (hX0 hs hk (ziQ (enc:=enc_3) (i:=zaK.toNat) (k:=0) (f:=za7.get) (new:=(enc_3 (s85 (zaH (zan c0)) zaK))) (v:=(s85 (zaH (zan c0)) zaK)) rfl rfl)))))) (λ hs hk=>hk))))) _ hs hk zep
def zMa (c0:Tab) (w:web):(Sl Int) :=
  (zsJ c0 w (0:Int) (⟨w.Net.Nodes.toNat,(λ _=>(0:Int))⟩:Sl Int))
def zNb (c0:Tab) (w:web):Bool :=
  (decide ((0<=w.Net.Nodes/\w.Net.Nodes=w.Net.Nodes/\w.Net.Nodes<=1000000)) &&
 (zsK c0 w (0:Int) (⟨w.Net.Nodes.toNat,(λ _=>(0:Int))⟩:Sl Int)))
end
theorem zN2 (c0:Tab) (w:web) (K:List PA->Prop) (hs:zNb c0 w=true) (hk:K (zL9 (zMa c0 w))):vcFun Tryd.prog zNa zyY 84 [.one (.fp (zaD w) 0),.one (.fn 85 [] [.fp (zan c0) 0])] K :=
  zaZ (by kernel_rfl) (zaT hs λ hc hs=>And.intro hc (zBT hs hk rfl))
abbrev zNc:Ctrs:=csm T84 (λ _ _=>[]) (λ _=>false)
def zy0:Ann:=⟨26,[(0,zK [0,1] []),(1,zK [1,5] [12]),(2,zK [1,5,14,15] [12]),(3,zK [1,5,14,15,16] [12]),(4,zK [1,5,6,14,15] [12]),(5,zK [1,5,14,15] [12]),(6,zK [1,5,14,15] [12]),(7,zK [4] [12])],
 [(3,zK [1,5,14,15] [12])],
 [],
 [],[]⟩
abbrev zN3:=(Sl Int)
abbrev zMb (r:zN3):List PA:=[.one (.sl r.len 1 (λ i=>enc_3 (r.get i)))]
@[irreducible] def z84b:=ptF Tryd.prog zNc zy0 Tryd.f84
def zy1 (c0:Tab) (w:web) (zaK:Int) (za7:(Sl Int)) (zbK:Nat->List PV):St:=⟨[(1,zP (.fn 86 [] [.fp (zan c0) 0])),(5,zv 12),(14,zI (w.Net.Nodes.toNat:Int)),(15,zI zaK)],[(12,.vec 3 1 8 za7.len zbK)],[]⟩
abbrev zC6 (K:List PA->Prop) (c0:Tab) (w:web) (X:St->Prop) (P:Int->(Sl Int)->Bool) (S:Int->(Sl Int)->(Sl Int)):Prop:=∀ ⦃zaK:Int⦄ ⦃za7:(Sl Int)⦄ ⦃zbK:Nat->List PV⦄,P zaK za7=true->K (zMb (S zaK za7))->zbK=zg enc_3 za7->X (zy1 c0 w zaK za7 zbK)
section
variable {K:List PA->Prop}{c0:Tab}{w:web}{zaK:Int}{za7:(Sl Int)}{zbK:Nat->List PV}{X0:St->Prop}{P0:Int->(Sl Int)->Bool}{S0:Int->(Sl Int)->(Sl Int)}
def zsL (c0:Tab) (w:web) (S0:Int->(Sl Int)->(Sl Int)) (zaK:Int) (za7:(Sl Int)):(Sl Int) :=
  (cond (decide (zaK < (w.Net.Nodes.toNat : Int)))
 (S0 (w64 (zaK+(1:Int))) (⟨za7.len,(setT zaK.toNat (s86 (zaH (zan c0)) zaK) za7.get)⟩:Sl Int))
 za7)
def zsM (c0:Tab) (w:web) (P0:Int->(Sl Int)->Bool) (zaK:Int) (za7:(Sl Int)):Bool :=
  (cond (decide (zaK < (w.Net.Nodes.toNat : Int)))
 (decide ((p86 (zaH (zan c0)) zaK=true)) &&
 (decide ((0<=zaK/\zaK < (za7.len:Int))) &&
 (decide ((zaK.toNat < za7.len)) &&
 (P0 (w64 (zaK+(1:Int))) (⟨za7.len,(setT zaK.toNat (s86 (zaH (zan c0)) zaK) za7.get)⟩:Sl Int)))))
 true)
def zsN (c0:Tab) (w:web):Nat->Int->(Sl Int)->(Sl Int):=lpO (λ _ _=>default) (zsL c0 w)
def zsO (c0:Tab) (w:web):Nat->Int->(Sl Int)->Bool:=lpO (λ _ _=>false) (zsM c0 w)
def zsP (c0:Tab) (w:web) (zaK:Int) (za7:(Sl Int)):(Sl Int):=zsN c0 w Fuel zaK za7
def zsQ (c0:Tab) (w:web) (zaK:Int) (za7:(Sl Int)):Bool:=zsO c0 w Fuel zaK za7
theorem zBU (hs:zsQ c0 w zaK za7=true) (hk:K (zMb (zsP c0 w zaK za7))) (zep:zbK=zg enc_3 za7):z84b K [1,1,0,1,0] [] (zy1 c0 w zaK za7 zbK) :=
  zl (λ X=>z84b K [1,1,0,1,0,0] [X]) (by kernel_rfl) λ X0 hX =>
  (show ∀ k, zC6 K c0 w X0 (zsO c0 w k) (zsN c0 w k) from zfg _ _ (zsM c0 w) (zsL c0 w) (zC6 K c0 w X0)
 (by intro _ _ _ hs;exact absurd hs dqk)
 (by intro P0 S0 hX0 zaK za7 zbK hs hk zep;subst zep;exact hX _ (zaZ (by kernel_rfl) (zc hs hk (λ hs hk=>(zaT hs λ hc hs=>And.intro (And.intro (zhD:zan c0=zan (zaH (zan c0))) hc) (zaT hs λ hc hs=>And.intro hc (zaT hs λ hc hs=>And.intro hc (hX0 hs hk (ziQ (enc:=enc_3) (i:=zaK.toNat) (k:=0) (f:=za7.get) (new:=(enc_3 (s86 (zaH (zan c0)) zaK))) (v:=(s86 (zaH (zan c0)) zaK)) rfl rfl)))))) (λ hs hk=>hk))))) _ hs hk zep
def zMc (c0:Tab) (w:web):(Sl Int) :=
  (zsP c0 w (0:Int) (⟨w.Net.Nodes.toNat,(λ _=>(0:Int))⟩:Sl Int))
def zNd (c0:Tab) (w:web):Bool :=
  (decide ((0<=w.Net.Nodes/\w.Net.Nodes=w.Net.Nodes/\w.Net.Nodes<=1000000)) &&
 (zsQ c0 w (0:Int) (⟨w.Net.Nodes.toNat,(λ _=>(0:Int))⟩:Sl Int)))
end
theorem zN4 (c0:Tab) (w:web) (K:List PA->Prop) (hs:zNd c0 w=true) (hk:K (zMb (zMc c0 w))):vcFun Tryd.prog zNc zy0 84 [.one (.fp (zaD w) 0),.one (.fn 86 [] [.fp (zan c0) 0])] K :=
  zaZ (by kernel_rfl) (zaT hs λ hc hs=>And.intro hc (zBU hs hk rfl))
def zFO : List PA → COut
  | [.one (.fp [.int .i64 zal,.sl zai zaC zaj,.fm zbd zaI zaJ] 0),.one (.fn 87 [] [.fp c0_t 0])]=>.det (IsE enc_40 4 zaC zaj/\zbd=(false,1,false,[none])/\c0_t=zan (zaH c0_t)/\p84 (zaH c0_t) (⟨(⟨zal,(⟨zai,zam zaj⟩:(Sl Tie))⟩:Net),(⟨zaI,zaJ⟩:Mp)⟩:web)=true) [.one (.sl ((s84 (zaH c0_t) (⟨(⟨zal,(⟨zai,zam zaj⟩:(Sl Tie))⟩:Net),(⟨zaI,zaJ⟩:Mp)⟩:web)).len) 1 (λ i=>enc_3 ((s84 (zaH c0_t) (⟨(⟨zal,(⟨zai,zam zaj⟩:(Sl Tie))⟩:Net),(⟨zaI,zaJ⟩:Mp)⟩:web)).get i)))]
  | [.one (.fp [.int .i64 zal,.sl zai zaC zaj,.fm zbd zaI zaJ] 0),.one (.fn 85 [] [.fp c0_t 0])]=>.det (IsE enc_40 4 zaC zaj/\zbd=(false,1,false,[none])/\c0_t=zan (zaH c0_t)/\zNb (zaH c0_t) (⟨(⟨zal,(⟨zai,zam zaj⟩:(Sl Tie))⟩:Net),(⟨zaI,zaJ⟩:Mp)⟩:web)=true) [.one (.sl ((zMa (zaH c0_t) (⟨(⟨zal,(⟨zai,zam zaj⟩:(Sl Tie))⟩:Net),(⟨zaI,zaJ⟩:Mp)⟩:web)).len) 1 (λ i=>enc_3 ((zMa (zaH c0_t) (⟨(⟨zal,(⟨zai,zam zaj⟩:(Sl Tie))⟩:Net),(⟨zaI,zaJ⟩:Mp)⟩:web)).get i)))]
  | [.one (.fp [.int .i64 zal,.sl zai zaC zaj,.fm zbd zaI zaJ] 0),.one (.fn 86 [] [.fp c0_t 0])]=>.det (IsE enc_40 4 zaC zaj/\zbd=(false,1,false,[none])/\c0_t=zan (zaH c0_t)/\zNd (zaH c0_t) (⟨(⟨zal,(⟨zai,zam zaj⟩:(Sl Tie))⟩:Net),(⟨zaI,zaJ⟩:Mp)⟩:web)=true) [.one (.sl ((zMc (zaH c0_t) (⟨(⟨zal,(⟨zai,zam zaj⟩:(Sl Tie))⟩:Net),(⟨zaI,zaJ⟩:Mp)⟩:web)).len) 1 (λ i=>enc_3 ((zMc (zaH c0_t) (⟨(⟨zal,(⟨zai,zam zaj⟩:(Sl Tie))⟩:Net),(⟨zaI,zaJ⟩:Mp)⟩:web)).get i)))]
  | _=>.no
theorem zJQ:zar Tryd.prog 84:=⟨_,rfl,rfl,by kernel_rfl⟩
theorem zN5:Ok Tryd.prog 84 zFO:=zbu zL8 zJQ λ args K h=>by
  unfold zFO at h
  split at h
  · rename_i zal zai zaC zaj zbd zaI zaJ c0_t
    obtain⟨⟨⟨rfl,zat,rfl⟩,rfl,hT_c0,hs⟩,hk⟩:=h
    try rw[zak zat] at hs
    try rw[zak zat] at hk
    exact⟨(λ _ _=>[]),(λ _=>false),zFM,(by have hq:=q84 (zaH c0_t) (⟨(⟨zal,(⟨zai,zat⟩:(Sl Tie))⟩:Net),(⟨zaI,zaJ⟩:Mp)⟩:web) K hs hk;rw[<- hT_c0] at hq;exact hq)⟩
  · rename_i zal zai zaC zaj zbd zaI zaJ c0_t
    obtain⟨⟨⟨rfl,zat,rfl⟩,rfl,hT_c0,hs⟩,hk⟩:=h
    try rw[zak zat] at hs
    try rw[zak zat] at hk
    exact⟨(λ _ _=>[]),(λ _=>false),zyY,(by have hq:=zN2 (zaH c0_t) (⟨(⟨zal,(⟨zai,zat⟩:(Sl Tie))⟩:Net),(⟨zaI,zaJ⟩:Mp)⟩:web) K hs hk;rw[<- hT_c0] at hq;exact hq)⟩
  · rename_i zal zai zaC zaj zbd zaI zaJ c0_t
    obtain⟨⟨⟨rfl,zat,rfl⟩,rfl,hT_c0,hs⟩,hk⟩:=h
    try rw[zak zat] at hs
    try rw[zak zat] at hk
    exact⟨(λ _ _=>[]),(λ _=>false),zy0,(by have hq:=zN4 (zaH c0_t) (⟨(⟨zal,(⟨zai,zat⟩:(Sl Tie))⟩:Net),(⟨zaI,zaJ⟩:Mp)⟩:web) K hs hk;rw[<- hT_c0] at hq;exact hq)⟩
  · exact h.elim
abbrev T45:Tabs:=((((Tabs.nil.addF 74 zxL).addF 76 zyv).addF 83 zFI).addF 84 zFO)
theorem zMd:TabsOk Tryd.prog T45:=((((TabsOk.nil.addF zLW).addF zL0).addF zNX).addF zN5)
abbrev G45:Ctrs:=csm T45 (λ _ _=>[]) (λ _=>false)
def zJR:Ann:=⟨31,[(0,zK [1,2,3] [3]),(1,zK [1,8,9] []),(2,zK [1,8,9,20] []),(3,zK [6,7] []),(4,zK [1,8,24] []),(5,zK [6,7] []),(6,zK [8,10] [10]),(7,zK [6,7] [])],
 [],
 [],
 [],[]⟩
abbrev R45:=((Sl Int)×Int)
abbrev e45 (r:R45):List PA:=[.one (.sl r.1.len 1 (λ i=>enc_3 (r.1.get i))),.one (.int .i64 r.2)]
section
variable {K:List PA->Prop}{n:Net}{zah:Int}{to:Int}
def s45 (n:Net) (zah:Int) (to:Int):((Sl Int)×Int) :=
  (cond ((s74 n (⟨2, zav (zbB [(enc_3 zah), (enc_3 to)])⟩ : (Sl Int))).2 == 0)
 (cond ((0:Int) != (0:Int))
 ((⟨0,λ _=>default⟩:(Sl Int)),(0:Int))
 (cond (!(s83 (⟨(s74 n (⟨2, zav (zbB [(enc_3 zah), (enc_3 to)])⟩ : (Sl Int))).1.Net, ((s74 n (⟨2, zav (zbB [(enc_3 zah), (enc_3 to)])⟩ : (Sl Int))).1.out)⟩ : web)))
 ((⟨0,λ _=>default⟩:(Sl Int)),(6:Int))
 ((s84 (zaH (zan (s76 (⟨(s74 n (⟨2,zav (zbB [(enc_3 zah),(enc_3 to)])⟩:(Sl Int))).1.Net,((s74 n (⟨2,zav (zbB [(enc_3 zah),(enc_3 to)])⟩:(Sl Int))).1.out)⟩:web) zah))) (⟨(s74 n (⟨2,zav (zbB [(enc_3 zah),(enc_3 to)])⟩:(Sl Int))).1.Net,((s74 n (⟨2,zav (zbB [(enc_3 zah),(enc_3 to)])⟩:(Sl Int))).1.out)⟩:web)),(0:Int))))
 (cond ((s74 n (⟨2, zav (zbB [(enc_3 zah), (enc_3 to)])⟩ : (Sl Int))).2 != (0:Int))
 ((⟨0,λ _=>default⟩:(Sl Int)),(s74 n (⟨2,zav (zbB [(enc_3 zah),(enc_3 to)])⟩:(Sl Int))).2)
 default))
def p45 (n:Net) (zah:Int) (to:Int):Bool :=
  (cond ((s74 n (⟨2, zav (zbB [(enc_3 zah), (enc_3 to)])⟩ : (Sl Int))).2 == 0)
 (decide ((p74 n (⟨2,zav (zbB [(enc_3 zah),(enc_3 to)])⟩:(Sl Int))=true)) &&
 (cond ((0:Int) != (0:Int))
 true
 (decide ((p83 (⟨(s74 n (⟨2,zav (zbB [(enc_3 zah),(enc_3 to)])⟩:(Sl Int))).1.Net,((s74 n (⟨2,zav (zbB [(enc_3 zah),(enc_3 to)])⟩:(Sl Int))).1.out)⟩:web)=true)) &&
 (cond (!(s83 (⟨(s74 n (⟨2, zav (zbB [(enc_3 zah), (enc_3 to)])⟩ : (Sl Int))).1.Net, ((s74 n (⟨2, zav (zbB [(enc_3 zah), (enc_3 to)])⟩ : (Sl Int))).1.out)⟩ : web)))
 true
 (decide ((p76 (⟨(s74 n (⟨2,zav (zbB [(enc_3 zah),(enc_3 to)])⟩:(Sl Int))).1.Net,((s74 n (⟨2,zav (zbB [(enc_3 zah),(enc_3 to)])⟩:(Sl Int))).1.out)⟩:web) zah=true)) &&
 (decide ((p84 (zaH (zan (s76 (⟨(s74 n (⟨2,zav (zbB [(enc_3 zah),(enc_3 to)])⟩:(Sl Int))).1.Net,((s74 n (⟨2,zav (zbB [(enc_3 zah),(enc_3 to)])⟩:(Sl Int))).1.out)⟩:web) zah))) (⟨(s74 n (⟨2,zav (zbB [(enc_3 zah),(enc_3 to)])⟩:(Sl Int))).1.Net,((s74 n (⟨2,zav (zbB [(enc_3 zah),(enc_3 to)])⟩:(Sl Int))).1.out)⟩:web)=true)) &&
 true))))))
 (decide ((p74 n (⟨2,zav (zbB [(enc_3 zah),(enc_3 to)])⟩:(Sl Int))=true)) &&
 (cond ((s74 n (⟨2, zav (zbB [(enc_3 zah), (enc_3 to)])⟩ : (Sl Int))).2 != (0:Int))
 true
 false)))
end
theorem q45 (n:Net) (zah:Int) (to:Int) (K:List PA->Prop) (hs:p45 n zah to=true) (hk:K (e45 (s45 n zah to))):vcFun Tryd.prog G45 zJR 45 [.agg (enc_24 n),.one (.int .i64 zah),.one (.int .i64 to)] (Wk K) :=
  zaZ (by kernel_rfl) (zc hs hk (λ hs hk=>(zaT hs λ hc hs=>And.intro (And.intro (zE enc_40 4 n.Ties.get) (And.intro ((zd0 []):IsE enc_3 1 1 (zbB [(enc_3 zah),(enc_3 to)])) hc)) (zc hs hk (λ hs hk=>((wk hk (zeu (.one (.nil _ _)) (zeu (.one (.rfl _)) ziR))):Wk K [.one (.nils),.one (.int .i64 (0:Int))])) (λ hs hk=>(zaT hs λ hc hs=>And.intro (And.intro (zE enc_40 4 ((s74 n (⟨2,zav (zbB [(enc_3 zah),(enc_3 to)])⟩:(Sl Int))).1.Net.Ties.get)) (And.intro (rfl:((false,1,false,[none]):MQ)=(false,1,false,[none])) hc)) (zc hs hk (λ hs hk=>((wk hk (zeu (.one (.nil _ _)) (zeu (.one (.rfl _)) ziR))):Wk K [.one (.nils),.one (.int .i64 (6:Int))])) (λ hs hk=>(zaT hs λ hc hs=>And.intro (And.intro (zE enc_40 4 ((s74 n (⟨2,zav (zbB [(enc_3 zah),(enc_3 to)])⟩:(Sl Int))).1.Net.Ties.get)) (And.intro (rfl:((false,1,false,[none]):MQ)=(false,1,false,[none])) hc)) (zaT hs λ hc hs=>And.intro (And.intro (zE enc_40 4 ((s74 n (⟨2,zav (zbB [(enc_3 zah),(enc_3 to)])⟩:(Sl Int))).1.Net.Ties.get)) (And.intro (rfl:((false,1,false,[none]):MQ)=(false,1,false,[none])) (And.intro (zhD:zan (s76 (⟨(s74 n (⟨2,zav (zbB [(enc_3 zah),(enc_3 to)])⟩:(Sl Int))).1.Net,((s74 n (⟨2,zav (zbB [(enc_3 zah),(enc_3 to)])⟩:(Sl Int))).1.out)⟩:web) zah)=zan (zaH (zan (s76 (⟨(s74 n (⟨2,zav (zbB [(enc_3 zah),(enc_3 to)])⟩:(Sl Int))).1.Net,((s74 n (⟨2,zav (zbB [(enc_3 zah),(enc_3 to)])⟩:(Sl Int))).1.out)⟩:web) zah)))) hc))) ((zeK hk):Wk K [.one (.sl ((s84 (zaH (zan (s76 (⟨(s74 n (⟨2,zav (zbB [(enc_3 zah),(enc_3 to)])⟩:(Sl Int))).1.Net,((s74 n (⟨2,zav (zbB [(enc_3 zah),(enc_3 to)])⟩:(Sl Int))).1.out)⟩:web) zah))) (⟨(s74 n (⟨2,zav (zbB [(enc_3 zah),(enc_3 to)])⟩:(Sl Int))).1.Net,((s74 n (⟨2,zav (zbB [(enc_3 zah),(enc_3 to)])⟩:(Sl Int))).1.out)⟩:web)).len) 1 (λ i=>enc_3 ((s84 (zaH (zan (s76 (⟨(s74 n (⟨2,zav (zbB [(enc_3 zah),(enc_3 to)])⟩:(Sl Int))).1.Net,((s74 n (⟨2,zav (zbB [(enc_3 zah),(enc_3 to)])⟩:(Sl Int))).1.out)⟩:web) zah))) (⟨(s74 n (⟨2,zav (zbB [(enc_3 zah),(enc_3 to)])⟩:(Sl Int))).1.Net,((s74 n (⟨2,zav (zbB [(enc_3 zah),(enc_3 to)])⟩:(Sl Int))).1.out)⟩:web)).get i))),.one (.int .i64 (0:Int))])))))))))) (λ hs hk=>(zaT hs λ hc hs=>And.intro (And.intro (zE enc_40 4 n.Ties.get) (And.intro ((zd0 []):IsE enc_3 1 1 (zbB [(enc_3 zah),(enc_3 to)])) hc)) (zc hs hk (λ hs hk=>((wk hk (zeu (.one (.nil _ _)) (zeu (.one (.rfl _)) ziR))):Wk K [.one (.nils),.one (.int .i64 ((s74 n (⟨2,zav (zbB [(enc_3 zah),(enc_3 to)])⟩:(Sl Int))).2))])) (λ hs hk=>(absurd hs dqk:False))))))
def zFP : List PA → COut
  | [.agg [.int .i64 zae,.sl zad zaz zac],.one (.int .i64 a1),.one (.int .i64 a2)]=>.det (IsE enc_40 4 zaz zac/\p45 (⟨zae,(⟨zad,zam zac⟩:(Sl Tie))⟩:Net) a1 a2=true) [.one (.sl (((s45 (⟨zae,(⟨zad,zam zac⟩:(Sl Tie))⟩:Net) a1 a2).1).len) 1 (λ i=>enc_3 (((s45 (⟨zae,(⟨zad,zam zac⟩:(Sl Tie))⟩:Net) a1 a2).1).get i))),.one (.int .i64 ((s45 (⟨zae,(⟨zad,zam zac⟩:(Sl Tie))⟩:Net) a1 a2).2))]
  | _=>.no
theorem zJS:zar Tryd.prog 45:=⟨_,rfl,rfl,by kernel_rfl⟩
theorem zN6:Ok Tryd.prog 45 zFP:=zfC zMd zJS λ args K h=>by
  unfold zFP at h
  split at h
  · rename_i zae zad zaz zac a1 a2
    obtain⟨⟨⟨rfl,zaq,rfl⟩,hs⟩,hk⟩:=h
    try rw[zak zaq] at hs
    try rw[zak zaq] at hk
    exact⟨_,zeI zeJ _,(λ _ _=>[]),(λ _=>false),zJR,q45 (⟨zae,(⟨zad,zaq⟩:(Sl Tie))⟩:Net) a1 a2 K hs hk⟩
  · exact h.elim
abbrev T49:Tabs:=(((Tabs.nil.addF 67 zpz).addF 88 zvT).addF 89 zBJ)
theorem zMe:TabsOk Tryd.prog T49:=(((TabsOk.nil.addF zIO).addF zLx).addF zM8)
abbrev G49:Ctrs:=csm T49 (λ _ _=>[]) (λ _=>false)
def zFQ:Ann:=⟨31,[(0,zK [1] [1]),(1,zK [1,10] [1]),(2,zK [2,3] []),(3,zK [4] [13]),(4,zK [4,16] [13]),(5,zK [2,3] []),(6,zK [4,5] [13]),(7,zK [5,18,19,20] []),(8,zK [5,18,19,20,21] [28]),(9,zK [5,7,18,19,20] [7,28]),(10,zK [5,18,19,20] [28]),(11,zK [5,18,19,20] [28]),(12,zK [2,3] [28])],
 [(8,⟨[5,18,19,20],[28],[(5,28,75,λ _=>zaX default)],[],[],[],[]⟩)],
 [(2,zK [1,10] [1]),(3,zK [1] [1]),(5,zK [4,16] [13]),(6,zK [4] [13]),(8,zK [5,18,19,20] [])],
 [],[]⟩
abbrev R49:=((Sl Use)×Int)
abbrev e49 (r:R49):List PA:=[.one (.sl r.1.len 2 (λ i=>zaX (r.1.get i))),.one (.int .i64 r.2)]
@[irreducible] def z49:=ptF Tryd.prog G49 zFQ Tryd.f49
def zC7 (zcD:(Sl step)) (zcQ:Int) (zdO:Int) (zc4:(Sl Use)) (zgi:Nat->List PV):St:=⟨[(5,zv 28),(18,zS zaF 5 zcD),(19,zI zcQ),(20,zI zdO)],[(28,.vec 75 2 16 zc4.len zgi)],[]⟩
abbrev zJT (K:List PA->Prop) (zcD:(Sl step)) (zcQ:Int) (X:St->Prop) (P:Int->(Sl Use)->Bool) (S:Int->(Sl Use)->((Sl Use)×Int)):Prop:=∀ ⦃zdO:Int⦄ ⦃zc4:(Sl Use)⦄ ⦃zgi:Nat->List PV⦄,P zdO zc4=true->K (e49 (S zdO zc4))->zgi=zg zaX zc4->X (zC7 zcD zcQ zdO zc4 zgi)
section
variable {K:List PA->Prop}{n:Net}{za9:Bool}{zp1:Bool}{zcD:(Sl step)}{zcQ:Int}{zy2:Nat->List PV}{zdO:Int}{zc4:(Sl Use)}{zgi:Nat->List PV}{X5:St->Prop}{P5:Int->(Sl Use)->Bool}{S5:Int->(Sl Use)->((Sl Use)×Int)}
def zy3 (zcD:(Sl step)) (zcQ:Int) (S5:Int->(Sl Use)->((Sl Use)×Int)) (zdO:Int) (zc4:(Sl Use)):((Sl Use)×Int) :=
  (cond (decide (zdO < zcQ))
 (S5 (w64 (zdO+(1:Int))) (⟨(zc4.len+1),(zgB zc4.len zc4.get (λ _=>(zcD.get zdO.toNat).Use))⟩:Sl Use))
 (zc4,(0:Int)))
def zy4 (zcD:(Sl step)) (zcQ:Int) (P5:Int->(Sl Use)->Bool) (zdO:Int) (zc4:(Sl Use)):Bool :=
  (cond (decide (zdO < zcQ))
 (decide ((0<=zdO/\zdO < (zcD.len:Int))) &&
 (decide (((zc4.len+1) * 16<=140737488355328/\zc4.len+1<=9223372036854775807)) &&
 (P5 (w64 (zdO+(1:Int))) (⟨(zc4.len+1),(zgB zc4.len zc4.get (λ _=>(zcD.get zdO.toNat).Use))⟩:Sl Use))))
 true)
def zy5 (zcD:(Sl step)) (zcQ:Int):Nat->Int->(Sl Use)->((Sl Use)×Int):=lpO (λ _ _=>default) (zy3 zcD zcQ)
def zy6 (zcD:(Sl step)) (zcQ:Int):Nat->Int->(Sl Use)->Bool:=lpO (λ _ _=>false) (zy4 zcD zcQ)
def zy7 (zcD:(Sl step)) (zcQ:Int) (zdO:Int) (zc4:(Sl Use)):((Sl Use)×Int):=zy5 zcD zcQ Fuel zdO zc4
def zy8 (zcD:(Sl step)) (zcQ:Int) (zdO:Int) (zc4:(Sl Use)):Bool:=zy6 zcD zcQ Fuel zdO zc4
theorem zFR (hs:zy8 zcD zcQ zdO zc4=true) (hk:K (e49 (zy7 zcD zcQ zdO zc4))) (zp2:zgi=zg zaX zc4):z49 (Wk K) [1,1,1,1,1,0,1,0] [] (zC7 zcD zcQ zdO zc4 zgi) :=
  zl (λ X=>z49 (Wk K) [1,1,1,1,1,0,1,0,0] [X]) (by kernel_rfl) λ X5 hX =>
  (show ∀ k, zJT K zcD zcQ X5 (zy6 zcD zcQ k) (zy5 zcD zcQ k) from zfg _ _ (zy4 zcD zcQ) (zy3 zcD zcQ) (zJT K zcD zcQ X5)
 (by intro _ _ _ hs;exact absurd hs dqk)
 (by intro P5 S5 hX5 zdO zc4 zgi hs hk zp2;subst zp2;exact hX _ (zaZ (by kernel_rfl) (zc hs hk (λ hs hk=>(zaT hs λ hc hs=>And.intro hc (zaT hs λ hc hs=>And.intro hc (hX5 hs hk (zko (enc:=zaX) (f:=zc4.get) (h:=(λ _=>(zcD.get zdO.toNat).Use)) rfl rfl))))) (λ hs hk=>((zeK hk):Wk K [.one (.sl zc4.len 2 (λ i=>zaX (zc4.get i))),.one (.int .i64 (0:Int))])))))) _ hs hk zp2
def zy9 (zcD:(Sl step)) (zcQ:Int):((Sl Use)×Int) :=
  (zy7 zcD zcQ (0:Int) (⟨0,(λ _=>default)⟩:Sl Use))
def zza (zcD:(Sl step)) (zcQ:Int):Bool :=
  (zy8 zcD zcQ (0:Int) (⟨0,(λ _=>default)⟩:Sl Use))
theorem zFS (hs:zza zcD zcQ=true) (hk:K (e49 (zy9 zcD zcQ))) (zFT:zy2=zg zaF zcD):z49 (Wk K) [1,1,1,1,1,0,1] [] ⟨[(5,zP (.nils)),(18,zP (.sl zcD.len 5 zy2)),(19,zI zcQ),(20,zI (0:Int))],[],[]⟩:=by subst zFT;exact zaZ (by kernel_rfl) (zFR hs hk rfl)
def zzb (n:Net):((Sl Use)×Int) :=
  (zy9 (s89 (⟨n,(⟨0,(λ _=>none)⟩:Mp)⟩:web)) ((s89 (⟨n,(⟨0,(λ _=>none)⟩:Mp)⟩:web)).len:Int))
def zzc (n:Net):Bool :=
  (decide ((p89 (⟨n,(⟨0,(λ _=>none)⟩:Mp)⟩:web)=true)) &&
 (zza (s89 (⟨n,(⟨0,(λ _=>none)⟩:Mp)⟩:web)) ((s89 (⟨n,(⟨0,(λ _=>none)⟩:Mp)⟩:web)).len:Int)))
theorem zFU (hs:zzc n=true) (hk:K (e49 (zzb n))):z49 (Wk K) [1,1,1,1] [] ⟨[(4,zp 13 0)],[(13,.box 105 (zm (zaD (⟨n,(⟨0,(λ _=>none)⟩:Mp)⟩:web))))],[]⟩:=zaZ (by kernel_rfl) (zaT hs λ hc hs=>And.intro (And.intro ((λ _=>rfl):(∀ i,sc2 ((λ i=>zaF ((s89 (⟨n,(⟨0,(λ _=>none)⟩:Mp)⟩:web)).get i)) i)=true)) (And.intro (zE enc_40 4 n.Ties.get) (And.intro (rfl:((false,1,false,[none]):MQ)=(false,1,false,[none])) hc))) (zFS hs hk rfl))
def zzd (n:Net) (zp1:Bool):((Sl Use)×Int) :=
  (cond zp1
 ((⟨0,λ _=>default⟩:(Sl Use)),(6:Int))
 (zzb n))
def zze (n:Net) (zp1:Bool):Bool :=
  (cond zp1
 true
 (zzc n))
theorem zFV (hs:zze n zp1=true) (hk:K (e49 (zzd n zp1))):z49 (Wk K) [1,1,1,0,1] [] ⟨[(4,zp 13 0),(16,zB zp1)],[(13,.box 105 (zm (zaD (⟨n,(⟨0,(λ _=>none)⟩:Mp)⟩:web))))],[]⟩:=zaZ (by kernel_rfl) (zc hs hk (λ hs hk=>((wk hk (zeu (.one (.nil _ _)) (zeu (.one (.rfl _)) ziR))):Wk K [.one (.nils),.one (.int .i64 (6:Int))])) (λ hs hk=>(zFU hs hk)))
def zzf (n:Net):((Sl Use)×Int) :=
  (zzd n (!(s88 (⟨n,(⟨0,(λ _=>none)⟩:Mp)⟩:web))))
def zzg (n:Net):Bool :=
  (decide ((p88 (⟨n,(⟨0,(λ _=>none)⟩:Mp)⟩:web)=true)) &&
 (zze n (!(s88 (⟨n,(⟨0,(λ _=>none)⟩:Mp)⟩:web)))))
theorem zFW (hs:zzg n=true) (hk:K (e49 (zzf n))):z49 (Wk K) [1,1] [] ⟨[(1,zp 1 0)],[(1,.box 24 (zm (enc_24 n)))],[]⟩:=zaZ (by kernel_rfl) (zaT hs λ hc hs=>And.intro (And.intro (zE enc_40 4 n.Ties.get) (And.intro (rfl:((false,1,false,[none]):MQ)=(false,1,false,[none])) hc)) (zFV hs hk))
def zzh (n:Net) (za9:Bool):((Sl Use)×Int) :=
  (cond za9
 ((⟨0,λ _=>default⟩:(Sl Use)),(2:Int))
 (zzf n))
def zzi (n:Net) (za9:Bool):Bool :=
  (cond za9
 true
 (zzg n))
theorem zFX (hs:zzi n za9=true) (hk:K (e49 (zzh n za9))):z49 (Wk K) [1,0,1] [] ⟨[(1,zp 1 0),(10,zB za9)],[(1,.box 24 (zm (enc_24 n)))],[]⟩:=zaZ (by kernel_rfl) (zc hs hk (λ hs hk=>((wk hk (zeu (.one (.nil _ _)) (zeu (.one (.rfl _)) ziR))):Wk K [.one (.nils),.one (.int .i64 (2:Int))])) (λ hs hk=>(zFW hs hk)))
def s49 (n:Net):((Sl Use)×Int) :=
  (zzh n (!(s67 n)))
def p49 (n:Net):Bool :=
  (decide ((p67 n=true)) &&
 (zzi n (!(s67 n))))
end
theorem q49 (n:Net) (K:List PA->Prop) (hs:p49 n=true) (hk:K (e49 (s49 n))):vcFun Tryd.prog G49 zFQ 49 [.agg (enc_24 n)] (Wk K) :=
  zaZ (by kernel_rfl) (zaT hs λ hc hs=>And.intro (And.intro (zE enc_40 4 n.Ties.get) hc) (zFX hs hk))
def zFY : List PA → COut
  | [.agg [.int .i64 zae,.sl zad zaz zac]]=>.det (IsE enc_40 4 zaz zac/\p49 (⟨zae,(⟨zad,zam zac⟩:(Sl Tie))⟩:Net)=true) [.one (.sl (((s49 (⟨zae,(⟨zad,zam zac⟩:(Sl Tie))⟩:Net)).1).len) 2 (λ i=>zaX (((s49 (⟨zae,(⟨zad,zam zac⟩:(Sl Tie))⟩:Net)).1).get i))),.one (.int .i64 ((s49 (⟨zae,(⟨zad,zam zac⟩:(Sl Tie))⟩:Net)).2))]
  | _=>.no
theorem zJU:zar Tryd.prog 49:=⟨_,rfl,rfl,by kernel_rfl⟩
theorem zN7:Ok Tryd.prog 49 zFY:=zfC zMe zJU λ args K h=>by
  unfold zFY at h
  split at h
  · rename_i zae zad zaz zac
    obtain⟨⟨⟨rfl,zaq,rfl⟩,hs⟩,hk⟩:=h
    try rw[zak zaq] at hs
    try rw[zak zaq] at hk
    exact⟨_,zeI zeJ _,(λ _ _=>[]),(λ _=>false),zFQ,q49 (⟨zae,(⟨zad,zaq⟩:(Sl Tie))⟩:Net) K hs hk⟩
  · exact h.elim
abbrev T53:Tabs:=Tabs.nil
theorem zMf:TabsOk Tryd.prog T53:=TabsOk.nil
abbrev G53:Ctrs:=csm T53 (λ _ _=>[]) (λ _=>false)
def zFZ:Ann:=⟨26,[(0,zK [0,1] []),(1,zK [0,1,10] []),(2,zK [4] []),(3,zK [0,1,5] []),(4,zK [0,1,5,14] []),(5,zK [0,1,5] []),(6,zK [0,1,5,25] []),(7,zK [4] []),(8,zK [4] [])],
 [(4,zK [0,1,5] [])],
 [(3,zK [0,1] [])],
 [],[]⟩
abbrev R53:=Bool
abbrev e53 (r:R53):List PA:=[.one (.bool r)]
@[irreducible] def z53:=ptF Tryd.prog G53 zFZ Tryd.f53
def zC8 (a:(Sl Use)) (b:(Sl Use)) (iv1:Int):St:=⟨[(0,zS zaX 2 a),(1,zS zaX 2 b),(5,zI iv1)],[],[]⟩
abbrev zJV (K:List PA->Prop) (a:(Sl Use)) (b:(Sl Use)) (X:St->Prop) (P:Int->Bool) (S:Int->Bool):Prop:=∀ ⦃iv1:Int⦄,P iv1=true->K (e53 (S iv1))->X (zC8 a b iv1)
section
variable {K:List PA->Prop}{a:(Sl Use)}{b:(Sl Use)}{iv1:Int}{X1:St->Prop}{P1:Int->Bool}{S1:Int->Bool}
def zzj (a:(Sl Use)) (b:(Sl Use)) (S1:Int->Bool) (iv1:Int):Bool :=
  (cond (decide (iv1 < (a.len : Int)))
 (cond (!(match ((a.get iv1.toNat).Tie == (b.get iv1.toNat).Tie) with | true => (match ((a.get iv1.toNat).Back == (b.get iv1.toNat).Back) with | true => true | false => false) | false => false))
 false
 (S1 (w64 (iv1+(1:Int)))))
 true)
def zzk (a:(Sl Use)) (b:(Sl Use)) (P1:Int->Bool) (iv1:Int):Bool :=
  (cond (decide (iv1 < (a.len : Int)))
 (decide ((0<=iv1/\iv1 < (a.len:Int))) &&
 (decide ((0<=iv1/\iv1 < (b.len:Int))) &&
 (cond (!(match ((a.get iv1.toNat).Tie == (b.get iv1.toNat).Tie) with | true => (match ((a.get iv1.toNat).Back == (b.get iv1.toNat).Back) with | true => true | false => false) | false => false))
 true
 (P1 (w64 (iv1+(1:Int)))))))
 true)
def zzl (a:(Sl Use)) (b:(Sl Use)):Nat->Int->Bool:=lpO (λ _=>default) (zzj a b)
def zzm (a:(Sl Use)) (b:(Sl Use)):Nat->Int->Bool:=lpO (λ _=>false) (zzk a b)
def zzn (a:(Sl Use)) (b:(Sl Use)) (iv1:Int):Bool:=zzl a b Fuel iv1
def zzo (a:(Sl Use)) (b:(Sl Use)) (iv1:Int):Bool:=zzm a b Fuel iv1
theorem zF0 (hs:zzo a b iv1=true) (hk:K (e53 (zzn a b iv1))):z53 K [1,1,0,1,0] [] (zC8 a b iv1) :=
  zl (λ X=>z53 K [1,1,0,1,0,0] [X]) (by kernel_rfl) λ X1 hX =>
  (show ∀ k, zJV K a b X1 (zzm a b k) (zzl a b k) from zfg _ _ (zzk a b) (zzj a b) (zJV K a b X1)
 (by intro _ hs;exact absurd hs dqk)
 (by intro P1 S1 hX1 iv1 hs hk;exact hX _ (zaZ (by kernel_rfl) (zc hs hk (λ hs hk=>(zaT hs λ hc hs=>And.intro hc (zaT hs λ hc hs=>And.intro hc (zc hs hk (λ hs hk=>hk) (λ hs hk=>(hX1 hs hk)))))) (λ hs hk=>hk))))) _ hs hk
def zzp (a:(Sl Use)) (b:(Sl Use)):Bool :=
  (zzn a b (0:Int))
def zzq (a:(Sl Use)) (b:(Sl Use)):Bool :=
  (zzo a b (0:Int))
theorem zF1 (hs:zzq a b=true) (hk:K (e53 (zzp a b))):z53 K [1,1] [] ⟨[(0,zS zaX 2 a),(1,zS zaX 2 b)],[],[]⟩:=zaZ (by kernel_rfl) (zF0 hs hk)
def s53 (a:(Sl Use)) (b:(Sl Use)):Bool :=
  (cond ((a.len : Int) != (b.len : Int))
 false
 (zzp a b))
def p53 (a:(Sl Use)) (b:(Sl Use)):Bool :=
  (cond ((a.len : Int) != (b.len : Int))
 true
 (zzq a b))
end
theorem q53 (a:(Sl Use)) (b:(Sl Use)) (K:List PA->Prop) (hs:p53 a b=true) (hk:K (e53 (s53 a b))):vcFun Tryd.prog G53 zFZ 53 [.one (.sl a.len 2 (λ i=>zaX (a.get i))),.one (.sl b.len 2 (λ i=>zaX (b.get i)))] K :=
  zaZ (by kernel_rfl) (zc hs hk (λ hs hk=>hk) (λ hs hk=>(zF1 hs hk)))
def zF2 : List PA → COut
  | [.one (.sl zf8 zlS zf9),.one (.sl zdb zgC zc8)]=>.det (IsE zaX 2 zlS zf9/\IsE zaX 2 zgC zc8/\p53 (⟨zf8,zdj zf9⟩:(Sl Use)) (⟨zdb,zdj zc8⟩:(Sl Use))=true) [.one (.bool (s53 (⟨zf8,zdj zf9⟩:(Sl Use)) (⟨zdb,zdj zc8⟩:(Sl Use))))]
  | _=>.no
theorem zJW:zar Tryd.prog 53:=⟨_,rfl,rfl,by kernel_rfl⟩
theorem zN8:Ok Tryd.prog 53 zF2:=zbu zMf zJW λ args K h=>by
  unfold zF2 at h
  split at h
  · rename_i zf8 zlS zf9 zdb zgC zc8
    obtain⟨⟨⟨rfl,zid,rfl⟩,⟨rfl,ze1,rfl⟩,hs⟩,hk⟩:=h
    try rw[zdk zid] at hs
    try rw[zdk zid] at hk
    try rw[zdk ze1] at hs
    try rw[zdk ze1] at hk
    exact⟨(λ _ _=>[]),(λ _=>false),zFZ,q53 (⟨zf8,zid⟩:(Sl Use)) (⟨zdb,ze1⟩:(Sl Use)) K hs hk⟩
  · exact h.elim
abbrev T92:Tabs:=((Tabs.nil.addF 93 zoh).addI 110 zoj)
theorem zMg:TabsOk Tryd.prog T92:=((TabsOk.nil.addF zHS).addI ztD)
abbrev G92:Ctrs:=csm T92 (λ _ _=>[]) (λ _=>false)
def zi9:Ann:=⟨49,[(0,zK [0,1,2,3,4] [0,1,2,3,4,4099]),(1,zK [0,1,2,3,4,7] [0,1,2,3,4,4099]),(2,zK [0,1,2,3,4,5,7] [0,1,2,3,4,5,4099]),(3,zK [0,1,2,3,4,5,7,41] [0,1,2,3,4,5,4099]),(4,zK [0,1,2,3,4,5] [0,1,2,3,4,5,4099]),(5,zK [0,1,2,3,4] [0,1,2,3,4,4099]),(6,zK [0,1,2,3,4] [0,1,2,3,4,4099]),(7,zK [0,1,2,3,4] [0,1,2,3,4,4099])],
 [(2,zK [0,1,2,3,4,7] [0,1,2,3,4,4099])],
 [],
 [],[]⟩
def zgj (w:web) (at_:Int) (d:Tab) (out:(Sl Use)):St:=⟨[(0,.one (.c (.ptr 0 0))),(1,.one (.c (.ptr 1 0))),(2,.one (.c (.ptr 2 0))),(3,.one (.c (.ptr 3 0))),(4,.one (.c (.ptr 4 0))),(7,.one (.c (.p (.fn 110 [] [.fp [.fp (zaD w) 0] 0]))))],[(0,.box 102 [.p (.fp (zaD w) 0)]),(1,.box 3 [.p (.int .i64 at_)]),(2,.box 116 (zm (zan d))),(3,.box 67 [.vec 4099]),(4,.box 4 [.p (.bool false)]),(4099,.vec 75 2 16 out.len (λ i=>zaX (out.get i)))],[]⟩
def zkG (K:List PA×List XA->Prop) (w:web) (at_:Int) (d:Tab) (out:(Sl Use)):Prop:=vc Tryd.prog G92 zi9 (cdF Tryd.f92 [1,0,1,0]) (zcu 0 (sqK Tryd.prog G92 zi9 (cdF Tryd.f92 [1,1]) (zle Tryd.prog Tryd.f92 [.box 102 [.p (.fp (zaD w) 0)],.box 3 [.p (.int .i64 at_)],.box 116 (xcm (zan d)),.box 67 [.vec 75 2 16 out.len (λ i=>zaX (out.get i))]] (λ a b=>K (a,b))))) (zgj w at_ d out)
theorem zF3 (w : web) (at_ : Int) (d : Tab) (out : (Sl Use)) (K : List PA × List XA → Prop) :
  zkk Tryd.prog G92 zi9 92 [.box 102 [.p (.fp (zaD w) 0)],.box 3 [.p (.int .i64 at_)],.box 116 (xcm (zan d)),.box 67 [.vec 75 2 16 out.len (λ i=>zaX (out.get i))]] (λ a b=>K (a,b)) =
  ((IsE enc_40 4 4 (λ i=>enc_40 (w.Net.Ties.get i))/\((false,1,false,[none]):MQ)=(false,1,false,[none])) /\
 (zkG K w at_ d out)):=by kernel_rfl
def zoA (K:List PA×List XA->Prop) (w:web) (at_:Int) (d:Tab) (out:(Sl Use)):Prop :=
  (K ([.one (.bool false)],[.box 102 [.p (.fp (zaD w) 0)],.box 3 [.p (.int .i64 at_)],.box 116 (xcm (zan d)),.box 67 [.vec 75 2 16 out.len (λ i=>zaX (out.get i))]]))
def zoB (K:List PA×List XA->Prop) (X0:List (List PA)->St->Prop) (y0:step) (rest0:List (List PA)) (w:web) (at_:Int) (d:Tab) (out:(Sl Use)):Prop :=
  (zc1 (y0.from_ == at_)
 (((0<=y0.to/\y0.to < (40:Int))) /\
 (zc1 (!(match ((tg 80 d (0 + y0.to.toNat * 2 + 0)) == (1000000000000:Int)) with | true => (match ((tg 80 d (0 + y0.to.toNat * 2 + 0 + 1)) == (0:Int)) with | true => true | false => false) | false => false))
 (((0<=y0.to/\y0.to < (40:Int))) /\
 (((0<=y0.to/\y0.to < (40:Int))) /\
 (((0<=at_/\at_ < (40:Int))) /\
 (zc1 (match ((w64 ((tg 80 d (0 + y0.to.toNat * 2 + 0)) + y0.length)) == (tg 80 d (0 + at_.toNat * 2 + 0))) with | true => (match ((w64 ((tg 80 d (0 + y0.to.toNat * 2 + 1)) + (1:Int))) == (tg 80 d (0 + at_.toNat * 2 + 0 + 1))) with | true => true | false => false) | false => false)
 ((((out.len+1) * 16<=140737488355328/\out.len+1<=9223372036854775807)) /\
 (K ([.one (.bool true)],[.box 102 [.p (.fp (zaD w) 0)],.box 3 [.p (.int .i64 y0.to)],.box 116 (xcm (zan d)),.box 67 [.vec 75 2 16 (out.len+1) (appG out.len (λ i=>zaX (out.get i)) (λ _=>(zaX y0.Use)))]])))
 (X0 rest0 (zgj w at_ d out))))))
 (X0 rest0 (zgj w at_ d out))))
 (X0 rest0 (zgj w at_ d out)))
theorem zp3 (K:List PA×List XA->Prop) (w:web) (at_:Int) (d:Tab) (out:(Sl Use)):(zcu 0 (sqK Tryd.prog G92 zi9 (cdF Tryd.f92 [1,1]) (zle Tryd.prog Tryd.f92 [.box 102 [.p (.fp (zaD w) 0)],.box 3 [.p (.int .i64 at_)],.box 116 (xcm (zan d)),.box 67 [.vec 75 2 16 out.len (λ i=>zaX (out.get i))]] (λ a b=>K (a,b))))) .normal (zgj w at_ d out)=zoA K w at_ d out:=by kernel_rfl
theorem zp4 (K : List PA × List XA → Prop) (X0 : List (List PA) → St → Prop) (y0 : step) (rest0 : List (List PA)) (w : web) (at_ : Int) (d : Tab) (out : (Sl Use)) :
  zLl Tryd.prog G92 zi9 2 [8] (cd (cdF Tryd.f92 [1,0,1,0]) [0]) (cd (cdF Tryd.f92 [1,0,1,0]) [1]) X0 (zcu 0 (sqK Tryd.prog G92 zi9 (cdF Tryd.f92 [1,1]) (zle Tryd.prog Tryd.f92 [.box 102 [.p (.fp (zaD w) 0)],.box 3 [.p (.int .i64 at_)],.box 116 (xcm (zan d)),.box 67 [.vec 75 2 16 out.len (λ i=>zaX (out.get i))]] (λ a b=>K (a,b))))) [.agg (zaF y0)] rest0 (zgj w at_ d out)=zoB K X0 y0 rest0 w at_ d out:=by kernel_rfl
theorem zzr (K : List PA × List XA → Prop) (w : web) (at_ : Int) (d : Tab) (out : (Sl Use))
  (hsafe:IsE enc_40 4 4 (λ i=>enc_40 (w.Net.Ties.get i))/\((false,1,false,[none]):MQ)=(false,1,false,[none])/\(ztP w=true)) (h:∀ X0:List (List PA)->St->Prop,(∀ (_:Unit),zoA K w at_ d out->X0 [] (zgj w at_ d out))->(∀ (y:step) (rest:List (List PA)) (_:Unit),zoB K X0 y rest w at_ d out->X0 ([.agg (zaF y)] :: rest) (zgj w at_ d out))->X0 ((zks w).map λ y=>[.agg (zaF y)]) (zgj w at_ d out)) :
  zkG K w at_ d out:=by
  have e:zkG K w at_ d out=((IsE enc_40 4 4 (λ i=>enc_40 (w.Net.Ties.get i))/\((false,1,false,[none]):MQ)=(false,1,false,[none])/\(ztP w=true))/\∀ X:List (List PA)->St->Prop,(∀ s,(zcu 0 (sqK Tryd.prog G92 zi9 (cdF Tryd.f92 [1,1]) (zle Tryd.prog Tryd.f92 [.box 102 [.p (.fp (zaD w) 0)],.box 3 [.p (.int .i64 at_)],.box 116 (xcm (zan d)),.box 67 [.vec 75 2 16 out.len (λ i=>zaX (out.get i))]] (λ a b=>K (a,b))))) .normal s->X [] s)->(∀ y rest s,zLl Tryd.prog G92 zi9 2 [8] (cd (cdF Tryd.f92 [1,0,1,0]) [0]) (cd (cdF Tryd.f92 [1,0,1,0]) [1]) X (zcu 0 (sqK Tryd.prog G92 zi9 (cdF Tryd.f92 [1,1]) (zle Tryd.prog Tryd.f92 [.box 102 [.p (.fp (zaD w) 0)],.box 3 [.p (.int .i64 at_)],.box 116 (xcm (zan d)),.box 67 [.vec 75 2 16 out.len (λ i=>zaX (out.get i))]] (λ a b=>K (a,b))))) y rest s->X (y :: rest) s)->X ((zks w).map λ y=>[.agg (zaF y)]) (zgj w at_ d out)):=by kernel_rfl
  refine zaZ e ⟨hsafe,?_⟩
  intro X h0 h1
  refine h X (λ _ hs=>h0 _ ?_) (λ y rest _ hs=>h1 _ rest _ ?_)
  · rw[zp3 K w at_ d out];exact hs
  · have e2 := zp4 K X y rest w at_ d out
    rw[e2];exact hs
abbrev e92 (w:web) (d:Tab) (r:(Bool×Int×(Sl Use))):List PA×List XA:=([.one (.bool r.1)],[.box 102 [.p (.fp (zaD w) 0)],.box 3 [.p (.int .i64 r.2.1)],.box 116 (xcm (zan d)),.box 67 [.vec 75 2 16 r.2.2.len (λ i=>zaX (r.2.2.get i))]])
attribute [irreducible] zkG
def zp5 (w:web) (at_:Int) (d:Tab) (out:(Sl Use)):(Bool×Int×(Sl Use)) :=
  (false,at_,(⟨out.len,out.get⟩:(Sl Use)))
def zp6 (w:web) (at_:Int) (d:Tab) (out:(Sl Use)):Bool :=
  true
def zp7 (w:web) (at_:Int) (d:Tab) (out:(Sl Use)) (y0:step) (S0:(Bool×Int×(Sl Use))):(Bool×Int×(Sl Use)) :=
  (cond (y0.from_ == at_)
 (cond (!(match ((tg 80 d (0 + y0.to.toNat * 2 + 0)) == (1000000000000:Int)) with | true => (match ((tg 80 d (0 + y0.to.toNat * 2 + 0 + 1)) == (0:Int)) with | true => true | false => false) | false => false))
 (cond (match ((w64 ((tg 80 d (0 + y0.to.toNat * 2 + 0)) + y0.length)) == (tg 80 d (0 + at_.toNat * 2 + 0))) with | true => (match ((w64 ((tg 80 d (0 + y0.to.toNat * 2 + 1)) + (1:Int))) == (tg 80 d (0 + at_.toNat * 2 + 0 + 1))) with | true => true | false => false) | false => false)
 (true,y0.to,(⟨(out.len+1),(zgB out.len out.get (λ _=>y0.Use))⟩:(Sl Use)))
 (S0))
 (S0))
 (S0))
def zp8 (w:web) (at_:Int) (d:Tab) (out:(Sl Use)) (y0:step) (P0:Bool):Bool :=
  (cond (y0.from_ == at_)
 (decide ((0<=y0.to/\y0.to < (40:Int))) &&
 (cond (!(match ((tg 80 d (0 + y0.to.toNat * 2 + 0)) == (1000000000000:Int)) with | true => (match ((tg 80 d (0 + y0.to.toNat * 2 + 0 + 1)) == (0:Int)) with | true => true | false => false) | false => false))
 (decide ((0<=y0.to/\y0.to < (40:Int))) &&
 (decide ((0<=y0.to/\y0.to < (40:Int))) &&
 (decide ((0<=at_/\at_ < (40:Int))) &&
 (cond (match ((w64 ((tg 80 d (0 + y0.to.toNat * 2 + 0)) + y0.length)) == (tg 80 d (0 + at_.toNat * 2 + 0))) with | true => (match ((w64 ((tg 80 d (0 + y0.to.toNat * 2 + 1)) + (1:Int))) == (tg 80 d (0 + at_.toNat * 2 + 0 + 1))) with | true => true | false => false) | false => false)
 (decide (((out.len+1) * 16<=140737488355328/\out.len+1<=9223372036854775807)) &&
 true)
 (P0)))))
 (P0)))
 (P0))
def zkH (w : web) (at_ : Int) (d : Tab) (out : (Sl Use)) : List step → (Bool × Int × (Sl Use))
  | []=>zp5 w at_ d out
  | y :: r=>zp7 w at_ d out y (zkH w at_ d out r)
def zkI (w : web) (at_ : Int) (d : Tab) (out : (Sl Use)) : List step → Bool
  | []=>zp6 w at_ d out
  | y :: r=>zp8 w at_ d out y (zkI w at_ d out r)
def zzs (w:web) (at_:Int) (d:Tab) (out:(Sl Use)):(Bool×Int×(Sl Use)):=zkH w at_ d out (zks w)
def zp9 (w:web) (at_:Int) (d:Tab) (out:(Sl Use)):Bool:=decide ((ztP w=true)) && zkI w at_ d out (zks w)
theorem zF4 (K:List PA×List XA->Prop) (w:web) (at_:Int) (d:Tab) (out:(Sl Use)) (hs:zp9 w at_ d out=true) (hk:K (e92 w d (zzs w at_ d out))):zkG K w at_ d out:=by
  unfold zp9 at hs
  rw[dqm] at hs
  obtain⟨hsf,hs⟩:=hs
  have hc:=of_decide_eq_true hsf
  refine zzr K w at_ d out ⟨isE,rfl,hc⟩ ?_
  intro X0 hexit hstep
  have key:∀ (l:List step),zkI w at_ d out l=true->K (e92 w d (zkH w at_ d out l))->X0 (l.map λ y=>[.agg (zaF y)]) (zgj w at_ d out):=by
    intro l
    induction l with
    | nil =>
      intro hs hk
      refine hexit () ?_
      have hs:zp6 w at_ d out=true:=hs
      have hk:K (e92 w d (zp5 w at_ d out)):=hk
      unfold zp6 at hs
      unfold zp5 at hk
      exact hk
    | cons y0 l ih =>
      intro hs hk
      refine hstep y0 _ () ?_
      have hs:zp8 w at_ d out y0 (zkI w at_ d out l)=true:=hs
      have hk:K (e92 w d (zp7 w at_ d out y0 (zkH w at_ d out l))):=hk
      unfold zp8 at hs
      unfold zp7 at hk
      generalize zkH w at_ d out l=S0 at hk ih
      generalize zkI w at_ d out l=P0 at hs ih
      have hX0:=ih
      exact (zcS (K := λ r => K (e92 w d r))
 (λ hs hk => (zaT hs λ hc hs => ⟨hc, (zcS (K := λ r => K (e92 w d r))
 (λ hs hk => (zaT hs λ hc hs => ⟨hc, (zaT hs λ hc hs => ⟨hc, (zaT hs λ hc hs => ⟨hc, (zcS (K := λ r => K (e92 w d r))
 (λ hs hk=>(zaT hs λ hc hs=>⟨hc,(Eq.mpr (congrArg K (congrArg (λ (g_:Nat->List PV)=>(([.one (.bool true)],[.box 102 [.p (.fp (zaD w) 0)],.box 3 [.p (.int .i64 y0.to)],.box 116 (xcm (zan d)),.box 67 [.vec 75 2 16 (out.len+1) g_]]):List PA×List XA)) (zko (enc:=zaX) (f:=out.get) (h:=(λ _=>y0.Use)) rfl rfl))) hk)⟩))
 (λ hs hk=>(hX0 hs hk)) hs hk)⟩)⟩)⟩))
 (λ hs hk=>(hX0 hs hk)) hs hk)⟩))
 (fun hs hk=>(hX0 hs hk)) hs hk)
  exact key _ hs hk
def s92 (w:web) (at_:Int) (d:Tab) (out:(Sl Use)):(Bool×Int×(Sl Use)) :=
  (zzs w at_ d out)
def p92 (w:web) (at_:Int) (d:Tab) (out:(Sl Use)):Bool :=
  (zp9 w at_ d out)
theorem q92 (w:web) (at_:Int) (d:Tab) (out:(Sl Use)) (K:List PA×List XA->Prop) (hs:p92 w at_ d out=true) (hk:K (e92 w d (s92 w at_ d out))):zkk Tryd.prog G92 zi9 92 [.box 102 [.p (.fp (zaD w) 0)],.box 3 [.p (.int .i64 at_)],.box 116 (xcm (zan d)),.box 67 [.vec 75 2 16 out.len (λ i=>zaX (out.get i))]] (λ a b=>K (a,b)):=by
  refine zaZ (zF3 w at_ d out K) ?_
  unfold p92 at hs
  unfold s92 at hk
  exact⟨⟨isE,rfl⟩,(zF4 K w at_ d out hs hk)⟩
def zF5 : MK
  | [.box 102 [.p (.fp [.int .i64 zaA,.sl zau zbG zas,.fm zdy zaU zaV] 0)],.box 3 [.p (.int .i64 b1)],.box 116 zli,.box 67 [.vec 75 2 16 zF6 zF7]]=>some (IsE enc_40 4 zbG zas/\zdy=(false,1,false,[none])/\zli=xcm (zan (zaH (unX zli)))/\IsE zaX 2 2 zF7/\p92 (⟨(⟨zaA,(⟨zau,zam zas⟩:(Sl Tie))⟩:Net),(⟨zaU,zaV⟩:Mp)⟩:web) b1 (zaH (unX zli)) (⟨zF6,zdj zF7⟩:(Sl Use))=true,[.one (.bool ((s92 (⟨(⟨zaA,(⟨zau,zam zas⟩:(Sl Tie))⟩:Net),(⟨zaU,zaV⟩:Mp)⟩:web) b1 (zaH (unX zli)) (⟨zF6,zdj zF7⟩:(Sl Use))).1))],[.box 102 [.p (.fp [.int .i64 zaA,.sl zau zbG zas,.fm zdy zaU zaV] 0)],.box 3 [.p (.int .i64 ((s92 (⟨(⟨zaA,(⟨zau,zam zas⟩:(Sl Tie))⟩:Net),(⟨zaU,zaV⟩:Mp)⟩:web) b1 (zaH (unX zli)) (⟨zF6,zdj zF7⟩:(Sl Use))).2.1))],.box 116 zli,.box 67 [.vec 75 2 16 (((s92 (⟨(⟨zaA,(⟨zau,zam zas⟩:(Sl Tie))⟩:Net),(⟨zaU,zaV⟩:Mp)⟩:web) b1 (zaH (unX zli)) (⟨zF6,zdj zF7⟩:(Sl Use))).2.2).len) (λ i=>zaX (((s92 (⟨(⟨zaA,(⟨zau,zam zas⟩:(Sl Tie))⟩:Net),(⟨zaU,zaV⟩:Mp)⟩:web) b1 (zaH (unX zli)) (⟨zF6,zdj zF7⟩:(Sl Use))).2.2).get i))]])
  | _=>none
theorem zJX:zar Tryd.prog 92:=⟨_,rfl,rfl,by kernel_rfl⟩
theorem zN9:zi7 Tryd.prog 92 zF5:=zD1 zMg zJX λ xs safe rs ys h hs K hk=>by
  unfold zF5 at h
  split at h
  · rename_i zaA zau zbG zas zdy zaU zaV b1 zli zF6 zF7
    simp only[dqa,dqh] at h
    obtain⟨rfl,rfl,rfl⟩:=h
    obtain⟨⟨rfl,zcl,rfl⟩,rfl,hT_b2,⟨_,zMh,rfl⟩,hs⟩:=hs
    try rw[zak zcl] at hs
    try rw[zak zcl] at hk
    try rw[zdk zMh] at hs
    try rw[zdk zMh] at hk
    refine⟨λ _ _=>[],λ _=>false,zi9,?_⟩
    show zkk Tryd.prog G92 zi9 92 _ K
    have hq:=q92 (⟨(⟨zaA,(⟨zau,zcl⟩:(Sl Tie))⟩:Net),(⟨zaU,zaV⟩:Mp)⟩:web) b1 (zaH (unX zli)) (⟨zF6,zMh⟩:(Sl Use)) (λ x=>K x.1 x.2) hs
    dsimp only[e92] at hq
    rw[<- hT_b2] at hq
    exact hq hk
  · cases h
abbrev T54:Tabs:=(((Tabs.nil.addF 74 zxL).addF 75 zx8).addM 92 zF5)
theorem zMi:TabsOk Tryd.prog T54:=(((TabsOk.nil.addF zLW).addF zLY).addM zN9)
abbrev G54:Ctrs:=csm T54 (λ _ _=>[]) (λ _=>false)
def zF8:Ann:=⟨45,[(0,zK [1,2,3] [3]),(1,zK [1,2,8,9] [8]),(2,zK [1,2,8,9,23] [8]),(3,zK [6,7] []),(4,zK [1,8,10] [8,10]),(5,zK [1,8,10,32] [8,10]),(6,zK [6,7] []),(7,zK [1,8,10,11] [8,10,11]),(8,zK [8,10,11,12] [8,10,11,12]),(9,zK [10,11,12,13] [8,10,11,12]),(10,zK [10,11,12,13,43] [8,10,11,12,5000]),(11,zK [6,7] [5000])],
 [(10,⟨[10,11,12,13],[8,10,11,12,5000],[],[(11,0,5000,75,λ _=>zaX default)],[],[],[]⟩)],
 [],
 [],[]⟩
abbrev R54:=((Sl Use)×Int)
abbrev e54 (r:R54):List PA:=[.one (.sl r.1.len 2 (λ i=>zaX (r.1.get i))),.one (.int .i64 r.2)]
@[irreducible] def z54:=ptF Tryd.prog G54 zF8 Tryd.f54
def zC9 (n:Net) (zah:Int) (to:Int) (zhf:Int) (za3:(Sl Use)) (dt0:Tab) (zdI:Nat->List PV):St:=⟨[(10,zp 10 0),(11,zp 11 0),(12,zp 12 0),(13,.one (.c (.clo 92 [.b 8,.b 12,.b 10,.b 11])))],[(8,.box 102 [.p (.fp (zaD (⟨(s74 n (⟨2,zav (zbB [(enc_3 zah),(enc_3 to)])⟩:(Sl Int))).1.Net,((s74 n (⟨2,zav (zbB [(enc_3 zah),(enc_3 to)])⟩:(Sl Int))).1.out)⟩:web)) 0)]),(10,.box 116 (zm (zan dt0))),(11,.box 67 [.vec 5000]),(12,.box 3 [zi zhf]),(5000,.vec 75 2 16 za3.len zdI)],[]⟩
abbrev zJY (K:List PA->Prop) (n:Net) (zah:Int) (to:Int) (X:St->Prop) (P:Int->(Sl Use)->Tab->Bool) (S:Int->(Sl Use)->Tab->((Sl Use)×Int)):Prop:=∀ ⦃zhf:Int⦄ ⦃za3:(Sl Use)⦄ ⦃dt0:Tab⦄ ⦃zdI:Nat->List PV⦄,P zhf za3 dt0=true->K (e54 (S zhf za3 dt0))->zdI=zg zaX za3->X (zC9 n zah to zhf za3 dt0 zdI)
section
variable {K:List PA->Prop}{n:Net}{zah:Int}{to:Int}{zhf:Int}{za3:(Sl Use)}{dt0:Tab}{zdI:Nat->List PV}{X0:St->Prop}{P0:Int->(Sl Use)->Tab->Bool}{S0:Int->(Sl Use)->Tab->((Sl Use)×Int)}
def zzt (n:Net) (zah:Int) (to:Int) (S0:Int->(Sl Use)->Tab->((Sl Use)×Int)) (zhf:Int) (za3:(Sl Use)) (dt0:Tab):((Sl Use)×Int) :=
  (cond (decide ((tg 80 dt0 (0 + zhf.toNat * 2 + 1)) > (0:Int)))
 (cond ((s92 (⟨(s74 n (⟨2, zav (zbB [(enc_3 zah), (enc_3 to)])⟩ : (Sl Int))).1.Net, ((s74 n (⟨2, zav (zbB [(enc_3 zah), (enc_3 to)])⟩ : (Sl Int))).1.out)⟩ : web) zhf (zaH (unX (xcm (zan dt0)))) (⟨za3.len, za3.get⟩ : (Sl Use))).1)
 (S0 ((s92 (⟨(s74 n (⟨2,zav (zbB [(enc_3 zah),(enc_3 to)])⟩:(Sl Int))).1.Net,((s74 n (⟨2,zav (zbB [(enc_3 zah),(enc_3 to)])⟩:(Sl Int))).1.out)⟩:web) zhf (zaH (unX (xcm (zan dt0)))) (⟨za3.len,za3.get⟩:(Sl Use))).2.1) ((s92 (⟨(s74 n (⟨2,zav (zbB [(enc_3 zah),(enc_3 to)])⟩:(Sl Int))).1.Net,((s74 n (⟨2,zav (zbB [(enc_3 zah),(enc_3 to)])⟩:(Sl Int))).1.out)⟩:web) zhf (zaH (unX (xcm (zan dt0)))) (⟨za3.len,za3.get⟩:(Sl Use))).2.2) dt0)
 (((s92 (⟨(s74 n (⟨2,zav (zbB [(enc_3 zah),(enc_3 to)])⟩:(Sl Int))).1.Net,((s74 n (⟨2,zav (zbB [(enc_3 zah),(enc_3 to)])⟩:(Sl Int))).1.out)⟩:web) zhf (zaH (unX (xcm (zan dt0)))) (⟨za3.len,za3.get⟩:(Sl Use))).2.2),(0:Int)))
 (za3,(0:Int)))
def zzu (n:Net) (zah:Int) (to:Int) (P0:Int->(Sl Use)->Tab->Bool) (zhf:Int) (za3:(Sl Use)) (dt0:Tab):Bool :=
  (decide ((0<=zhf/\zhf < (40:Int))) &&
 (cond (decide ((tg 80 dt0 (0 + zhf.toNat * 2 + 1)) > (0:Int)))
 (decide ((p92 (⟨(s74 n (⟨2,zav (zbB [(enc_3 zah),(enc_3 to)])⟩:(Sl Int))).1.Net,((s74 n (⟨2,zav (zbB [(enc_3 zah),(enc_3 to)])⟩:(Sl Int))).1.out)⟩:web) zhf (zaH (unX (xcm (zan dt0)))) (⟨za3.len,za3.get⟩:(Sl Use))=true)) &&
 (cond ((s92 (⟨(s74 n (⟨2, zav (zbB [(enc_3 zah), (enc_3 to)])⟩ : (Sl Int))).1.Net, ((s74 n (⟨2, zav (zbB [(enc_3 zah), (enc_3 to)])⟩ : (Sl Int))).1.out)⟩ : web) zhf (zaH (unX (xcm (zan dt0)))) (⟨za3.len, za3.get⟩ : (Sl Use))).1)
 (P0 ((s92 (⟨(s74 n (⟨2,zav (zbB [(enc_3 zah),(enc_3 to)])⟩:(Sl Int))).1.Net,((s74 n (⟨2,zav (zbB [(enc_3 zah),(enc_3 to)])⟩:(Sl Int))).1.out)⟩:web) zhf (zaH (unX (xcm (zan dt0)))) (⟨za3.len,za3.get⟩:(Sl Use))).2.1) ((s92 (⟨(s74 n (⟨2,zav (zbB [(enc_3 zah),(enc_3 to)])⟩:(Sl Int))).1.Net,((s74 n (⟨2,zav (zbB [(enc_3 zah),(enc_3 to)])⟩:(Sl Int))).1.out)⟩:web) zhf (zaH (unX (xcm (zan dt0)))) (⟨za3.len,za3.get⟩:(Sl Use))).2.2) dt0)
 true))
 true))
def zzv (n:Net) (zah:Int) (to:Int):Nat->Int->(Sl Use)->Tab->((Sl Use)×Int):=lpO (λ _ _ _=>default) (zzt n zah to)
def zzw (n:Net) (zah:Int) (to:Int):Nat->Int->(Sl Use)->Tab->Bool:=lpO (λ _ _ _=>false) (zzu n zah to)
def zzx (n:Net) (zah:Int) (to:Int) (zhf:Int) (za3:(Sl Use)) (dt0:Tab):((Sl Use)×Int):=zzv n zah to Fuel zhf za3 dt0
def zzy (n:Net) (zah:Int) (to:Int) (zhf:Int) (za3:(Sl Use)) (dt0:Tab):Bool:=zzw n zah to Fuel zhf za3 dt0
theorem zF9 (hs:zzy n zah to zhf za3 dt0=true) (hk:K (e54 (zzx n zah to zhf za3 dt0))) (zkJ:zdI=zg zaX za3):z54 (Wk K) [1,1,1,1,1,1,1,1,0,0] [] (zC9 n zah to zhf za3 dt0 zdI) :=
  zl (λ X=>z54 (Wk K) [1,1,1,1,1,1,1,1,0,0,0] [X]) (by kernel_rfl) λ X0 hX =>
  (show ∀ k, zJY K n zah to X0 (zzw n zah to k) (zzv n zah to k) from zfg _ _ (zzu n zah to) (zzt n zah to) (zJY K n zah to X0)
 (by intro _ _ _ _ hs;exact absurd hs dqk)
 (by intro P0 S0 hX0 zhf za3 dt0 zdI hs hk zkJ;subst zkJ;exact hX _ (zaZ (by kernel_rfl) (zaT hs λ hc hs=>And.intro hc (zc hs hk (λ hs hk=>(zaT hs λ hc hs=>And.intro (And.intro (zE enc_40 4 ((s74 n (⟨2,zav (zbB [(enc_3 zah),(enc_3 to)])⟩:(Sl Int))).1.Net.Ties.get)) (And.intro (rfl:((false,1,false,[none]):MQ)=(false,1,false,[none])) (And.intro (zD3:xcm (zan dt0)=xcm (zan (zaH (unX (xcm (zan dt0)))))) (And.intro (zE zaX 2 za3.get) hc)))) (zc hs hk (λ hs hk=>(hX0 hs hk rfl)) (λ hs hk=>((zeK hk):Wk K [.one (.sl (((s92 (⟨(s74 n (⟨2,zav (zbB [(enc_3 zah),(enc_3 to)])⟩:(Sl Int))).1.Net,((s74 n (⟨2,zav (zbB [(enc_3 zah),(enc_3 to)])⟩:(Sl Int))).1.out)⟩:web) zhf (zaH (unX (xcm (zan dt0)))) (⟨za3.len,za3.get⟩:(Sl Use))).2.2).len) 2 (λ i=>zaX (((s92 (⟨(s74 n (⟨2,zav (zbB [(enc_3 zah),(enc_3 to)])⟩:(Sl Int))).1.Net,((s74 n (⟨2,zav (zbB [(enc_3 zah),(enc_3 to)])⟩:(Sl Int))).1.out)⟩:web) zhf (zaH (unX (xcm (zan dt0)))) (⟨za3.len,za3.get⟩:(Sl Use))).2.2).get i))),.one (.int .i64 (0:Int))]))))) (λ hs hk=>((zeK hk):Wk K [.one (.sl za3.len 2 (λ i=>zaX (za3.get i))),.one (.int .i64 (0:Int))]))))))) _ hs hk zkJ
def s54 (n:Net) (zah:Int) (to:Int):((Sl Use)×Int) :=
  (cond ((s74 n (⟨2, zav (zbB [(enc_3 zah), (enc_3 to)])⟩ : (Sl Int))).2 == 0)
 (cond ((0:Int) != (0:Int))
 ((⟨0,λ _=>default⟩:(Sl Use)),(0:Int))
 (cond (match ((tg 80 (s75 (⟨(s74 n (⟨2, zav (zbB [(enc_3 zah), (enc_3 to)])⟩ : (Sl Int))).1.Net, ((s74 n (⟨2, zav (zbB [(enc_3 zah), (enc_3 to)])⟩ : (Sl Int))).1.out)⟩ : web) to) (0 + zah.toNat * 2 + 0)) == (1000000000000:Int)) with | true => (match ((tg 80 (s75 (⟨(s74 n (⟨2, zav (zbB [(enc_3 zah), (enc_3 to)])⟩ : (Sl Int))).1.Net, ((s74 n (⟨2, zav (zbB [(enc_3 zah), (enc_3 to)])⟩ : (Sl Int))).1.out)⟩ : web) to) (0 + zah.toNat * 2 + 0 + 1)) == (0:Int)) with | true => true | false => false) | false => false)
 ((⟨0,λ _=>default⟩:(Sl Use)),(6:Int))
 (zzx n zah to zah (⟨0,(λ _=>default)⟩:Sl Use) (s75 (⟨(s74 n (⟨2,zav (zbB [(enc_3 zah),(enc_3 to)])⟩:(Sl Int))).1.Net,((s74 n (⟨2,zav (zbB [(enc_3 zah),(enc_3 to)])⟩:(Sl Int))).1.out)⟩:web) to))))
 (cond ((s74 n (⟨2, zav (zbB [(enc_3 zah), (enc_3 to)])⟩ : (Sl Int))).2 != (0:Int))
 ((⟨0,λ _=>default⟩:(Sl Use)),(s74 n (⟨2,zav (zbB [(enc_3 zah),(enc_3 to)])⟩:(Sl Int))).2)
 default))
def p54 (n:Net) (zah:Int) (to:Int):Bool :=
  (cond ((s74 n (⟨2, zav (zbB [(enc_3 zah), (enc_3 to)])⟩ : (Sl Int))).2 == 0)
 (decide ((p74 n (⟨2,zav (zbB [(enc_3 zah),(enc_3 to)])⟩:(Sl Int))=true)) &&
 (cond ((0:Int) != (0:Int))
 true
 (decide ((p75 (⟨(s74 n (⟨2,zav (zbB [(enc_3 zah),(enc_3 to)])⟩:(Sl Int))).1.Net,((s74 n (⟨2,zav (zbB [(enc_3 zah),(enc_3 to)])⟩:(Sl Int))).1.out)⟩:web) to=true)) &&
 (decide ((0<=zah/\zah < (40:Int))) &&
 (cond (match ((tg 80 (s75 (⟨(s74 n (⟨2, zav (zbB [(enc_3 zah), (enc_3 to)])⟩ : (Sl Int))).1.Net, ((s74 n (⟨2, zav (zbB [(enc_3 zah), (enc_3 to)])⟩ : (Sl Int))).1.out)⟩ : web) to) (0 + zah.toNat * 2 + 0)) == (1000000000000:Int)) with | true => (match ((tg 80 (s75 (⟨(s74 n (⟨2, zav (zbB [(enc_3 zah), (enc_3 to)])⟩ : (Sl Int))).1.Net, ((s74 n (⟨2, zav (zbB [(enc_3 zah), (enc_3 to)])⟩ : (Sl Int))).1.out)⟩ : web) to) (0 + zah.toNat * 2 + 0 + 1)) == (0:Int)) with | true => true | false => false) | false => false)
 true
 (zzy n zah to zah (⟨0,(λ _=>default)⟩:Sl Use) (s75 (⟨(s74 n (⟨2,zav (zbB [(enc_3 zah),(enc_3 to)])⟩:(Sl Int))).1.Net,((s74 n (⟨2,zav (zbB [(enc_3 zah),(enc_3 to)])⟩:(Sl Int))).1.out)⟩:web) to)))))))
 (decide ((p74 n (⟨2,zav (zbB [(enc_3 zah),(enc_3 to)])⟩:(Sl Int))=true)) &&
 (cond ((s74 n (⟨2, zav (zbB [(enc_3 zah), (enc_3 to)])⟩ : (Sl Int))).2 != (0:Int))
 true
 false)))
end
theorem q54 (n:Net) (zah:Int) (to:Int) (K:List PA->Prop) (hs:p54 n zah to=true) (hk:K (e54 (s54 n zah to))):vcFun Tryd.prog G54 zF8 54 [.agg (enc_24 n),.one (.int .i64 zah),.one (.int .i64 to)] (Wk K) :=
  zaZ (by kernel_rfl) (zc hs hk (λ hs hk=>(zaT hs λ hc hs=>And.intro (And.intro (zE enc_40 4 n.Ties.get) (And.intro ((zd0 []):IsE enc_3 1 1 (zbB [(enc_3 zah),(enc_3 to)])) hc)) (zc hs hk (λ hs hk=>((wk hk (zeu (.one (.nil _ _)) (zeu (.one (.rfl _)) ziR))):Wk K [.one (.nils),.one (.int .i64 (0:Int))])) (λ hs hk=>(zaT hs λ hc hs=>And.intro (And.intro (zE enc_40 4 ((s74 n (⟨2,zav (zbB [(enc_3 zah),(enc_3 to)])⟩:(Sl Int))).1.Net.Ties.get)) (And.intro (rfl:((false,1,false,[none]):MQ)=(false,1,false,[none])) hc)) (zaT hs λ hc hs=>And.intro hc (zc hs hk (λ hs hk=>((wk hk (zeu (.one (.nil _ _)) (zeu (.one (.rfl _)) ziR))):Wk K [.one (.nils),.one (.int .i64 (6:Int))])) (λ hs hk=>(zF9 hs hk rfl))))))))) (λ hs hk=>(zaT hs λ hc hs=>And.intro (And.intro (zE enc_40 4 n.Ties.get) (And.intro ((zd0 []):IsE enc_3 1 1 (zbB [(enc_3 zah),(enc_3 to)])) hc)) (zc hs hk (λ hs hk=>((wk hk (zeu (.one (.nil _ _)) (zeu (.one (.rfl _)) ziR))):Wk K [.one (.nils),.one (.int .i64 ((s74 n (⟨2,zav (zbB [(enc_3 zah),(enc_3 to)])⟩:(Sl Int))).2))])) (λ hs hk=>(absurd hs dqk:False))))))
def zGa : List PA → COut
  | [.agg [.int .i64 zae,.sl zad zaz zac],.one (.int .i64 a1),.one (.int .i64 a2)]=>.det (IsE enc_40 4 zaz zac/\p54 (⟨zae,(⟨zad,zam zac⟩:(Sl Tie))⟩:Net) a1 a2=true) [.one (.sl (((s54 (⟨zae,(⟨zad,zam zac⟩:(Sl Tie))⟩:Net) a1 a2).1).len) 2 (λ i=>zaX (((s54 (⟨zae,(⟨zad,zam zac⟩:(Sl Tie))⟩:Net) a1 a2).1).get i))),.one (.int .i64 ((s54 (⟨zae,(⟨zad,zam zac⟩:(Sl Tie))⟩:Net) a1 a2).2))]
  | _=>.no
theorem zJZ:zar Tryd.prog 54:=⟨_,rfl,rfl,by kernel_rfl⟩
theorem zOa:Ok Tryd.prog 54 zGa:=zfC zMi zJZ λ args K h=>by
  unfold zGa at h
  split at h
  · rename_i zae zad zaz zac a1 a2
    obtain⟨⟨⟨rfl,zaq,rfl⟩,hs⟩,hk⟩:=h
    try rw[zak zaq] at hs
    try rw[zak zaq] at hk
    exact⟨_,zeI zeJ _,(λ _ _=>[]),(λ _=>false),zF8,q54 (⟨zae,(⟨zad,zaq⟩:(Sl Tie))⟩:Net) a1 a2 K hs hk⟩
  · exact h.elim
abbrev T66:Tabs:=Tabs.nil
theorem zMj:TabsOk Tryd.prog T66:=TabsOk.nil
abbrev G66:Ctrs:=csm T66 (λ _ _=>[]) (λ _=>false)
def zJ0:Ann:=⟨6,[(0,zK [0] [0]),(1,zK [0] [0,4])],
 [],
 [],
 [],[]⟩
abbrev R66:=Net
abbrev e66 (r:R66):List PA:=[.agg [.int .i64 r.Nodes,.sl r.Ties.len 4 (λ i=>enc_40 (r.Ties.get i))]]
section
variable {K:List PA->Prop}
def s66:Net :=
  (⟨(3:Int),(⟨3,(zoW (⟨(0:Int),(1:Int),(5:Int),(8:Int)⟩:Tie) [(⟨(0:Int),(1:Int),(5:Int),(8:Int)⟩:Tie),(⟨(1:Int),(2:Int),(-2:Int),(3:Int)⟩:Tie),(⟨(2:Int),(0:Int),(-9:Int),(1000000000000:Int)⟩:Tie)])⟩:(Sl Tie))⟩:Net)
end
theorem q66 (K:List PA->Prop) (hk:K (e66 (s66))):vcFun Tryd.prog G66 zJ0 66 [] K :=
  zaZ (by kernel_rfl) (Eq.mpr (congrArg K (congrArg (λ (g_:Nat->List PV)=>([.agg [.int .i64 (3:Int),.sl 3 4 g_]]:List PA)) (zrI (enc:=enc_40) (x:=(⟨(0:Int),(1:Int),(5:Int),(8:Int)⟩:Tie)) (y:=(⟨(1:Int),(2:Int),(-2:Int),(3:Int)⟩:Tie)) (r:=[(⟨(2:Int),(0:Int),(-9:Int),(1000000000000:Int)⟩:Tie)])))) hk)
def zGb : List PA → COut
  | []=>.tot [.agg [.int .i64 ((s66).Nodes),.sl ((s66).Ties.len) 4 (λ i=>enc_40 ((s66).Ties.get i))]]
  | _=>.no
theorem zJ1:zar Tryd.prog 66:=⟨_,rfl,rfl,by kernel_rfl⟩
theorem zOb:Ok Tryd.prog 66 zGb:=zbu zMj zJ1 λ args K h=>by
  unfold zGb at h
  split at h
  · have hk := h
    exact⟨(λ _ _=>[]),(λ _=>false),zJ0,q66 K hk⟩
  · exact h.elim
abbrev T21:Tabs:=((((((((((Tabs.nil.addF 22 zE8).addF 25 zFc).addF 26 zFz).addF 29 zFA).addF 32 zFE).addF 45 zFP).addF 49 zFY).addF 53 zF2).addF 54 zGa).addF 66 zGb)
theorem zMk:TabsOk Tryd.prog T21:=((((((((((TabsOk.nil.addF zNT).addF zNU).addF zNV).addF zNW).addF ok32).addF zN6).addF zN7).addF zN8).addF zOa).addF zOb)
abbrev G21:Ctrs:=csm T21 (λ _ _=>[]) (λ _=>false)
def zGc:Ann:=⟨87,[(0,zK [] []),(1,zK [1,2] []),(2,zK [1,2,3,4] []),(3,zK [1,2,3,4,5,6] []),(4,zK [1,2,3,4,5,6,7] [7]),(5,zK [1,2,3,4,5,6,7,8,9] [7]),(6,zK [1,2,3,4,5,6,8,9,10,11] []),(7,zK [1,3,5,8,10,57] []),(8,zK [0] []),(9,zK [0] [])],
 [],
 [(2,zK [1,2] []),(3,zK [1,2,3,4] []),(4,zK [1,2,3,4,5,6] []),(5,zK [1,2,3,4,5,6,7] [7]),(6,zK [1,2,3,4,5,6,7,8,9] [7]),(7,zK [1,2,3,4,5,6,8,9,10,11] []),(9,zK [1,3,5,8,10] [])],
 [],[]⟩
abbrev R21:=Bool
abbrev e21 (r:R21):List PA:=[.one (.bool r)]
@[irreducible] def z21:=ptF Tryd.prog G21 zGc Tryd.f21
section
variable {K:List PA->Prop}{bv0:(Sl Span)}{ev0:Int}{zJ2:Nat->List PV}{cv1:(Sl Use)}{fv1:Int}{zJ3:Nat->List PV}{vv2:(Sl Int)}{gv2:Int}{zJ4:Nat->List PV}{zez:Int}{zdP:(Sl Tie)}{zzz:Nat->List PV}{xv4:(Sl Use)}{hv4:Int}{zJ5:Nat->List PV}{lv5:(Sl Int)}{iv5:Int}{zJ6:Nat->List PV}
def zzA (bv0:(Sl Span)) (cv1:(Sl Use)) (vv2:(Sl Int)) (xv4:(Sl Use)) (lv5:(Sl Int)):Bool :=
  (cond (s32 bv0 (⟨3, zf2 (zbB [(zbE (⟨(0:Int), (0:Int)⟩ : Span)), (zbE (⟨(5:Int), (8:Int)⟩ : Span)), (zbE (⟨(3:Int), (9:Int)⟩ : Span))])⟩ : (Sl Span)))
 (cond (s53 cv1 (⟨1, λ _ => (⟨(2:Int), true⟩ : Use)⟩ : (Sl Use)))
 (cond (s25 vv2 (⟨3, zav (zbB [(enc_3 (0:Int)), (enc_3 (5:Int)), (enc_3 (8:Int))])⟩ : (Sl Int)))
 (cond (s53 xv4 (⟨2, zdj (zbB [(zaX (⟨(2:Int), true⟩ : Use)), (zaX (⟨(3:Int), true⟩ : Use))])⟩ : (Sl Use)))
 (s25 lv5 (⟨1,λ _=>(2:Int)⟩:(Sl Int)))
 false)
 false)
 false)
 false)
def zzB (bv0:(Sl Span)) (cv1:(Sl Use)) (vv2:(Sl Int)) (xv4:(Sl Use)) (lv5:(Sl Int)):Bool :=
  (decide ((p32 bv0 (⟨3,zf2 (zbB [(zbE (⟨(0:Int),(0:Int)⟩:Span)),(zbE (⟨(5:Int),(8:Int)⟩:Span)),(zbE (⟨(3:Int),(9:Int)⟩:Span))])⟩:(Sl Span))=true)) &&
 (cond (s32 bv0 (⟨3, zf2 (zbB [(zbE (⟨(0:Int), (0:Int)⟩ : Span)), (zbE (⟨(5:Int), (8:Int)⟩ : Span)), (zbE (⟨(3:Int), (9:Int)⟩ : Span))])⟩ : (Sl Span)))
 (decide ((p53 cv1 (⟨1,λ _=>(⟨(2:Int),true⟩:Use)⟩:(Sl Use))=true)) &&
 (cond (s53 cv1 (⟨1, λ _ => (⟨(2:Int), true⟩ : Use)⟩ : (Sl Use)))
 (decide ((p25 vv2 (⟨3,zav (zbB [(enc_3 (0:Int)),(enc_3 (5:Int)),(enc_3 (8:Int))])⟩:(Sl Int))=true)) &&
 (cond (s25 vv2 (⟨3, zav (zbB [(enc_3 (0:Int)), (enc_3 (5:Int)), (enc_3 (8:Int))])⟩ : (Sl Int)))
 (decide ((p53 xv4 (⟨2,zdj (zbB [(zaX (⟨(2:Int),true⟩:Use)),(zaX (⟨(3:Int),true⟩:Use))])⟩:(Sl Use))=true)) &&
 (cond (s53 xv4 (⟨2, zdj (zbB [(zaX (⟨(2:Int), true⟩ : Use)), (zaX (⟨(3:Int), true⟩ : Use))])⟩ : (Sl Use)))
 (decide ((p25 lv5 (⟨1,λ _=>(2:Int)⟩:(Sl Int))=true)) &&
 true)
 true))
 true))
 true))
 true))
theorem zGd (hs:zzB bv0 cv1 vv2 xv4 lv5=true) (hk:K (e21 (zzA bv0 cv1 vv2 xv4 lv5))):z21 K [1,1,1,1,1,1,1,1] [] ⟨[(1,zS zbE 2 bv0),(3,zS zaX 2 cv1),(5,zS enc_3 1 vv2),(8,zS zaX 2 xv4),(10,zS enc_3 1 lv5)],[],[]⟩:=zaZ (by kernel_rfl) (zaT hs λ hc hs=>And.intro (And.intro (zE zbE 2 bv0.get) (And.intro ((zd0 [(⟨(3:Int),(9:Int)⟩:Span)]):IsE zbE 2 2 (zbB [(zbE (⟨(0:Int),(0:Int)⟩:Span)),(zbE (⟨(5:Int),(8:Int)⟩:Span)),(zbE (⟨(3:Int),(9:Int)⟩:Span))])) hc)) (zc hs hk (λ hs hk=>(zaT hs λ hc hs=>And.intro (And.intro (zE zaX 2 cv1.get) (And.intro (zvs:IsE zaX 2 2 (λ _=>(zaX (⟨(2:Int),true⟩:Use)))) hc)) (zc hs hk (λ hs hk=>(zaT hs λ hc hs=>And.intro (And.intro (zE enc_3 1 vv2.get) (And.intro ((zd0 [(8:Int)]):IsE enc_3 1 1 (zbB [(enc_3 (0:Int)),(enc_3 (5:Int)),(enc_3 (8:Int))])) hc)) (zc hs hk (λ hs hk=>(zaT hs λ hc hs=>And.intro (And.intro (zE zaX 2 xv4.get) (And.intro ((zd0 []):IsE zaX 2 2 (zbB [(zaX (⟨(2:Int),true⟩:Use)),(zaX (⟨(3:Int),true⟩:Use))])) hc)) (zc hs hk (λ hs hk=>(zaT hs λ hc hs=>And.intro (And.intro (zE enc_3 1 lv5.get) (And.intro (zvs:IsE enc_3 1 1 (λ _=>(enc_3 (2:Int)))) hc)) hk)) (λ hs hk=>hk)))) (λ hs hk=>hk)))) (λ hs hk=>hk)))) (λ hs hk=>hk)))
def zzC (bv0:(Sl Span)) (ev0:Int) (cv1:(Sl Use)) (fv1:Int) (vv2:(Sl Int)) (gv2:Int) (xv4:(Sl Use)) (hv4:Int) (lv5:(Sl Int)) (iv5:Int):Bool :=
  (cond (ev0 != (0:Int))
 false
 (cond (fv1 != (0:Int))
 false
 (cond (gv2 != (0:Int))
 false
 (cond (hv4 != (0:Int))
 false
 (cond (iv5 != (0:Int))
 false
 (zzA bv0 cv1 vv2 xv4 lv5))))))
def zzD (bv0:(Sl Span)) (ev0:Int) (cv1:(Sl Use)) (fv1:Int) (vv2:(Sl Int)) (gv2:Int) (xv4:(Sl Use)) (hv4:Int) (lv5:(Sl Int)) (iv5:Int):Bool :=
  (cond (ev0 != (0:Int))
 true
 (cond (fv1 != (0:Int))
 true
 (cond (gv2 != (0:Int))
 true
 (cond (hv4 != (0:Int))
 true
 (cond (iv5 != (0:Int))
 true
 (zzB bv0 cv1 vv2 xv4 lv5))))))
theorem zGe (hs:zzD bv0 ev0 cv1 fv1 vv2 gv2 xv4 hv4 lv5 iv5=true) (hk:K (e21 (zzC bv0 ev0 cv1 fv1 vv2 gv2 xv4 hv4 lv5 iv5))) (zMl:zJ6=zg enc_3 lv5):z21 K [1,1,1,1,1,1,1] [] ⟨[(1,zS zbE 2 bv0),(2,zI ev0),(3,zS zaX 2 cv1),(4,zI fv1),(5,zS enc_3 1 vv2),(6,zI gv2),(8,zS zaX 2 xv4),(9,zI hv4),(10,zP (.sl lv5.len 1 zJ6)),(11,zI iv5)],[],[]⟩:=by subst zMl;exact zaZ (by kernel_rfl) (zc hs hk (λ hs hk=>hk) (λ hs hk=>(zc hs hk (λ hs hk=>hk) (λ hs hk=>(zc hs hk (λ hs hk=>hk) (λ hs hk=>(zc hs hk (λ hs hk=>hk) (λ hs hk=>(zc hs hk (λ hs hk=>hk) (λ hs hk=>(zGd hs hk)))))))))))
def zzE (bv0:(Sl Span)) (ev0:Int) (cv1:(Sl Use)) (fv1:Int) (vv2:(Sl Int)) (gv2:Int) (zez:Int) (zdP:(Sl Tie)) (xv4:(Sl Use)) (hv4:Int):Bool :=
  (zzC bv0 ev0 cv1 fv1 vv2 gv2 xv4 hv4 ((s22 (⟨zez,zdP⟩:Net)).1) ((s22 (⟨zez,zdP⟩:Net)).2))
def zzF (bv0:(Sl Span)) (ev0:Int) (cv1:(Sl Use)) (fv1:Int) (vv2:(Sl Int)) (gv2:Int) (zez:Int) (zdP:(Sl Tie)) (xv4:(Sl Use)) (hv4:Int):Bool :=
  (decide ((p22 (⟨zez,zdP⟩:Net)=true)) &&
 (zzD bv0 ev0 cv1 fv1 vv2 gv2 xv4 hv4 ((s22 (⟨zez,zdP⟩:Net)).1) ((s22 (⟨zez,zdP⟩:Net)).2)))
theorem zGf (hs:zzF bv0 ev0 cv1 fv1 vv2 gv2 zez zdP xv4 hv4=true) (hk:K (e21 (zzE bv0 ev0 cv1 fv1 vv2 gv2 zez zdP xv4 hv4))) (zMm:zJ5=zg zaX xv4):z21 K [1,1,1,1,1,1] [] ⟨[(1,zS zbE 2 bv0),(2,zI ev0),(3,zS zaX 2 cv1),(4,zI fv1),(5,zS enc_3 1 vv2),(6,zI gv2),(7,zp 7 0),(8,zP (.sl xv4.len 2 zJ5)),(9,zI hv4)],[(7,.box 24 (zm (enc_24 (⟨zez,zdP⟩:Net))))],[]⟩:=by subst zMm;exact zaZ (by kernel_rfl) (zaT hs λ hc hs=>And.intro (And.intro (zE enc_40 4 zdP.get) hc) (zGe hs hk rfl))
def zzG (bv0:(Sl Span)) (ev0:Int) (cv1:(Sl Use)) (fv1:Int) (vv2:(Sl Int)) (gv2:Int) (zez:Int) (zdP:(Sl Tie)):Bool :=
  (zzE bv0 ev0 cv1 fv1 vv2 gv2 zez zdP ((s49 (⟨zez,zdP⟩:Net)).1) ((s49 (⟨zez,zdP⟩:Net)).2))
def zzH (bv0:(Sl Span)) (ev0:Int) (cv1:(Sl Use)) (fv1:Int) (vv2:(Sl Int)) (gv2:Int) (zez:Int) (zdP:(Sl Tie)):Bool :=
  (decide ((p49 (⟨zez,zdP⟩:Net)=true)) &&
 (zzF bv0 ev0 cv1 fv1 vv2 gv2 zez zdP ((s49 (⟨zez,zdP⟩:Net)).1) ((s49 (⟨zez,zdP⟩:Net)).2)))
theorem zGg (hs:zzH bv0 ev0 cv1 fv1 vv2 gv2 zez zdP=true) (hk:K (e21 (zzG bv0 ev0 cv1 fv1 vv2 gv2 zez zdP))) (zGh:zzz=zg enc_40 zdP):z21 K [1,1,1,1,1] [] ⟨[(1,zS zbE 2 bv0),(2,zI ev0),(3,zS zaX 2 cv1),(4,zI fv1),(5,zS enc_3 1 vv2),(6,zI gv2),(7,zp 7 0)],[(7,.box 24 [zi zez,.p (.sl zdP.len 4 zzz)])],[]⟩:=by subst zGh;exact zaZ (by kernel_rfl) (zaT hs λ hc hs=>And.intro (And.intro (zE enc_40 4 zdP.get) hc) (zGf hs hk rfl))
def zzI (bv0:(Sl Span)) (ev0:Int) (cv1:(Sl Use)) (fv1:Int) (vv2:(Sl Int)) (gv2:Int):Bool :=
  (zzG bv0 ev0 cv1 fv1 vv2 gv2 ((s29 s66 (⟨(0:Int),(2:Int),(10:Int),(12:Int)⟩:Tie)).Nodes) ((s29 s66 (⟨(0:Int),(2:Int),(10:Int),(12:Int)⟩:Tie)).Ties))
def zzJ (bv0:(Sl Span)) (ev0:Int) (cv1:(Sl Use)) (fv1:Int) (vv2:(Sl Int)) (gv2:Int):Bool :=
  (decide ((p29 s66 (⟨(0:Int),(2:Int),(10:Int),(12:Int)⟩:Tie)=true)) &&
 (zzH bv0 ev0 cv1 fv1 vv2 gv2 ((s29 s66 (⟨(0:Int),(2:Int),(10:Int),(12:Int)⟩:Tie)).Nodes) ((s29 s66 (⟨(0:Int),(2:Int),(10:Int),(12:Int)⟩:Tie)).Ties)))
theorem zGi (hs:zzJ bv0 ev0 cv1 fv1 vv2 gv2=true) (hk:K (e21 (zzI bv0 ev0 cv1 fv1 vv2 gv2))) (zMn:zJ4=zg enc_3 vv2):z21 K [1,1,1,1] [] ⟨[(1,zS zbE 2 bv0),(2,zI ev0),(3,zS zaX 2 cv1),(4,zI fv1),(5,zP (.sl vv2.len 1 zJ4)),(6,zI gv2)],[],[]⟩:=by subst zMn;exact zaZ (by kernel_rfl) (zaT hs λ hc hs=>And.intro (And.intro (zE enc_40 4 s66.Ties.get) hc) (zGg hs hk rfl))
def zzK (bv0:(Sl Span)) (ev0:Int) (cv1:(Sl Use)) (fv1:Int):Bool :=
  (zzI bv0 ev0 cv1 fv1 ((s45 s66 (1:Int) (0:Int)).1) ((s45 s66 (1:Int) (0:Int)).2))
def zzL (bv0:(Sl Span)) (ev0:Int) (cv1:(Sl Use)) (fv1:Int):Bool :=
  (decide ((p45 s66 (1:Int) (0:Int)=true)) &&
 (zzJ bv0 ev0 cv1 fv1 ((s45 s66 (1:Int) (0:Int)).1) ((s45 s66 (1:Int) (0:Int)).2)))
theorem zGj (hs:zzL bv0 ev0 cv1 fv1=true) (hk:K (e21 (zzK bv0 ev0 cv1 fv1))) (zMo:zJ3=zg zaX cv1):z21 K [1,1,1] [] ⟨[(1,zS zbE 2 bv0),(2,zI ev0),(3,zP (.sl cv1.len 2 zJ3)),(4,zI fv1)],[],[]⟩:=by subst zMo;exact zaZ (by kernel_rfl) (zaT hs λ hc hs=>And.intro (And.intro (zE enc_40 4 s66.Ties.get) hc) (zGi hs hk rfl))
def zzM (bv0:(Sl Span)) (ev0:Int):Bool :=
  (zzK bv0 ev0 ((s54 s66 (0:Int) (2:Int)).1) ((s54 s66 (0:Int) (2:Int)).2))
def zzN (bv0:(Sl Span)) (ev0:Int):Bool :=
  (decide ((p54 s66 (0:Int) (2:Int)=true)) &&
 (zzL bv0 ev0 ((s54 s66 (0:Int) (2:Int)).1) ((s54 s66 (0:Int) (2:Int)).2)))
theorem zGk (hs:zzN bv0 ev0=true) (hk:K (e21 (zzM bv0 ev0))) (zMp:zJ2=zg zbE bv0):z21 K [1,1] [] ⟨[(1,zP (.sl bv0.len 2 zJ2)),(2,zI ev0)],[],[]⟩:=by subst zMp;exact zaZ (by kernel_rfl) (zaT hs λ hc hs=>And.intro (And.intro (zE enc_40 4 s66.Ties.get) hc) (zGj hs hk rfl))
def s21:Bool :=
  (zzM ((s26 s66).1) ((s26 s66).2))
def p21:Bool :=
  (decide ((p26 s66=true)) &&
 (zzN ((s26 s66).1) ((s26 s66).2)))
end
theorem q21 (K:List PA->Prop) (hs:p21=true) (hk:K (e21 (s21))):vcFun Tryd.prog G21 zGc 21 [] K :=
  zaZ (by kernel_rfl) (zaT hs λ hc hs=>And.intro (And.intro (zE enc_40 4 s66.Ties.get) hc) (zGk hs hk rfl))
theorem zJ7:p21=true:=by kernel_rfl
theorem zJ8:s21=true:=by kernel_rfl
def zGl : List PA → COut
  | []=>.tot [.one (.bool true)]
  | _=>.no
theorem zJ9:zar Tryd.prog 21:=⟨_,rfl,rfl,by kernel_rfl⟩
theorem zOc:Ok Tryd.prog 21 zGl:=zbu zMk zJ9 λ args K h=>by
  unfold zGl at h
  split at h
  · refine ⟨fun _ _ => [], fun _ => false, zGc, q21 K zJ7 ?_⟩
    show K [.one (.bool s21)]
    rw[zJ8];exact h
  · exact h.elim
abbrev T20:Tabs:=Tabs.nil
theorem zMq:TabsOk Tryd.prog T20:=TabsOk.nil
abbrev G20:Ctrs:=csm T20 (λ _ _=>[]) (λ _=>false)
def zKa:Ann:=⟨32,[(0,zK [1,2] [2]),(1,zK [4] [])],
 [],
 [],
 [],[]⟩
abbrev R20:=Bool
abbrev e20 (r:R20):List PA:=[.one (.bool r)]
section
variable {K:List PA->Prop}{n:Net}{ties:Int}
def s20 (n:Net) (ties:Int):Bool :=
  (cond (decide (n.Nodes <= (7:Int)))
 (cond (decide ((n.Ties.len : Int) <= ties))
 true
 (cond (decide ((n.Ties.len : Int) > (200:Int)))
 (decide ((n.Ties.len:Int)<=(210:Int)))
 false))
 (cond (decide (n.Nodes > (40:Int)))
 (cond (decide ((n.Ties.len : Int) <= ties))
 true
 (cond (decide ((n.Ties.len : Int) > (200:Int)))
 (decide ((n.Ties.len:Int)<=(210:Int)))
 false))
 false))
end
theorem q20 (n:Net) (ties:Int) (K:List PA->Prop) (hk:K (e20 (s20 n ties))):vcFun Tryd.prog G20 zKa 20 [.agg (enc_24 n),.one (.int .i64 ties)] K :=
  zaZ (by kernel_rfl) (zt hk (λ hk=>(zt hk (λ hk=>hk) (λ hk=>(zt hk (λ hk=>hk) (λ hk=>hk))))) (λ hk=>(zt hk (λ hk=>(zt hk (λ hk=>hk) (λ hk=>(zt hk (λ hk=>hk) (λ hk=>hk))))) (λ hk=>hk))))
def zGm : List PA → COut
  | [.agg [.int .i64 zae,.sl zad zaz zac],.one (.int .i64 a1)]=>.det (IsE enc_40 4 zaz zac) [.one (.bool (s20 (⟨zae,(⟨zad,zam zac⟩:(Sl Tie))⟩:Net) a1))]
  | _=>.no
theorem zKb:zar Tryd.prog 20:=⟨_,rfl,rfl,by kernel_rfl⟩
theorem zOd:Ok Tryd.prog 20 zGm:=zbu zMq zKb λ args K h=>by
  unfold zGm at h
  split at h
  · rename_i zae zad zaz zac a1
    obtain⟨⟨rfl,zaq,rfl⟩,hk⟩:=h
    try rw[zak zaq] at hk
    exact⟨(λ _ _=>[]),(λ _=>false),zKa,q20 (⟨zae,(⟨zad,zaq⟩:(Sl Tie))⟩:Net) a1 K hk⟩
  · exact h.elim
abbrev T72:Tabs:=Tabs.nil
theorem zMr:TabsOk Tryd.prog T72:=TabsOk.nil
abbrev G72:Ctrs:=csm T72 (λ _ _=>[]) (λ _=>false)
def zKc:Ann:=⟨15,[(0,zK [0,1,2] []),(1,zK [6] [])],
 [],
 [],
 [],[]⟩
abbrev R72:=Bool
abbrev e72 (r:R72):List PA:=[.one (.bool r)]
section
variable {K:List PA->Prop}{x:Int}{low:Int}{high:Int}
def s72 (x:Int) (low:Int) (high:Int):Bool :=
  (cond (decide (x >= low))
 (decide (x<=high))
 false)
end
theorem q72 (x:Int) (low:Int) (high:Int) (K:List PA->Prop) (hk:K (e72 (s72 x low high))):vcFun Tryd.prog G72 zKc 72 [.one (.int .i64 x),.one (.int .i64 low),.one (.int .i64 high)] K :=
  zaZ (by kernel_rfl) (zt hk (λ hk=>hk) (λ hk=>hk))
def zzO : List PA → COut
  | [.one (.int .i64 a0),.one (.int .i64 a1),.one (.int .i64 a2)]=>.tot [.one (.bool (s72 a0 a1 a2))]
  | _=>.no
theorem zKd:zar Tryd.prog 72:=⟨_,rfl,rfl,by kernel_rfl⟩
theorem zMs:Ok Tryd.prog 72 zzO:=zbu zMr zKd λ args K h=>by
  unfold zzO at h
  split at h
  · rename_i a0 a1 a2
    have hk:=h
    exact⟨(λ _ _=>[]),(λ _=>false),zKc,q72 a0 a1 a2 K hk⟩
  · exact h.elim
abbrev T36:Tabs:=(Tabs.nil.addF 72 zzO)
theorem zMt:TabsOk Tryd.prog T36:=(TabsOk.nil.addF zMs)
abbrev G36:Ctrs:=csm T36 (λ _ _=>[]) (λ _=>false)
def zGn:Ann:=⟨51,[(0,zK [0,3] [3]),(1,zK [3,32] [3]),(2,zK [4] []),(3,zK [4] [])],
 [],
 [(2,zK [3,32] [3]),(3,zK [3] [3])],
 [],[]⟩
abbrev R36:=Bool
abbrev e36 (r:R36):List PA:=[.one (.bool r)]
@[irreducible] def z36:=ptF Tryd.prog G36 zGn Tryd.f36
section
variable {K:List PA->Prop}{nodes:Int}{t:Tie}{zBV:Bool}
def zqa (t:Tie):Bool :=
  (cond (t.Low == (-1000000000000:Int))
 (cond (t.High == (1000000000000:Int))
 true
 (s72 t.High (-1000000000:Int) (1000000000:Int)))
 (cond (s72 t.Low (-1000000000:Int) (1000000000:Int))
 (cond (t.High == (1000000000000:Int))
 true
 (s72 t.High (-1000000000:Int) (1000000000:Int)))
 false))
theorem zGo (hk:K (e36 (zqa t))):z36 K [1,1] [] ⟨[(3,zp 3 0)],[(3,.box 40 (zm (enc_40 t)))],[]⟩:=zaZ (by kernel_rfl) (zt hk (λ hk=>(zt hk (λ hk=>hk) (λ hk=>hk))) (λ hk=>(zt hk (λ hk=>(zt hk (λ hk=>hk) (λ hk=>hk))) (λ hk=>hk))))
def zij (t:Tie) (zBV:Bool):Bool :=
  (cond zBV
 false
 (zqa t))
theorem zmU (hk:K (e36 (zij t zBV))):z36 K [1,0,1] [] ⟨[(3,zp 3 0),(32,zB zBV)],[(3,.box 40 (zm (enc_40 t)))],[]⟩:=zaZ (by kernel_rfl) (zt hk (λ hk=>hk) (λ hk=>(zGo hk)))
def s36 (nodes:Int) (t:Tie):Bool :=
  (cond (!(s72 t.From (0:Int) (w64 (nodes - (1:Int)))))
 (zij t true)
 (cond (!(s72 t.To (0:Int) (w64 (nodes - (1:Int)))))
 (zij t true)
 (cond (t.From == t.To)
 (zij t true)
 (zij t (decide (t.Low > t.High))))))
end
theorem q36 (nodes:Int) (t:Tie) (K:List PA->Prop) (hk:K (e36 (s36 nodes t))):vcFun Tryd.prog G36 zGn 36 [.one (.int .i64 nodes),.agg (enc_40 t)] K :=
  zaZ (by kernel_rfl) (zt hk (λ hk=>(zmU hk)) (λ hk=>(zt hk (λ hk=>(zmU hk)) (λ hk=>(zt hk (λ hk=>(zmU hk)) (λ hk=>(zmU hk)))))))
def zGp : List PA → COut
  | [.one (.int .i64 a0),.agg [.int .i64 zcX,.int .i64 zgY,.int .i64 zeo,.int .i64 zcY]]=>.tot [.one (.bool (s36 a0 (⟨zcX,zgY,zeo,zcY⟩:Tie)))]
  | _=>.no
theorem zKe:zar Tryd.prog 36:=⟨_,rfl,rfl,by kernel_rfl⟩
theorem zOe:Ok Tryd.prog 36 zGp:=zbu zMt zKe λ args K h=>by
  unfold zGp at h
  split at h
  · rename_i a0 zcX zgY zeo zcY
    have hk:=h
    exact⟨(λ _ _=>[]),(λ _=>false),zGn,q36 a0 (⟨zcX,zgY,zeo,zcY⟩:Tie) K hk⟩
  · exact h.elim
abbrev T23:Tabs:=((Tabs.nil.addF 36 zGp).addF 72 zzO)
theorem zMu:TabsOk Tryd.prog T23:=((TabsOk.nil.addF zOe).addF zMs)
abbrev G23:Ctrs:=csm T23 (λ _ _=>[]) (λ _=>false)
def zGq:Ann:=⟨30,[(0,zK [1] [1]),(1,zK [1,13] [1]),(2,zK [2] []),(3,zK [1,3] [1]),(4,zK [1,3,18] [1]),(5,zK [1,3] [1]),(6,zK [1,3,29] [1]),(7,zK [2] []),(8,zK [2] [])],
 [(4,zK [1,3] [1])],
 [(2,zK [1,13] [1]),(3,zK [1] [1]),(7,zK [1,3,29] [1])],
 [],[]⟩
abbrev R23:=Bool
abbrev e23 (r:R23):List PA:=[.one (.bool r)]
@[irreducible] def z23:=ptF Tryd.prog G23 zGq Tryd.f23
def zDa (n:Net) (iv2:Int):St:=⟨[(1,zp 1 0),(3,zI iv2)],[(1,.box 24 (zm (enc_24 n)))],[]⟩
abbrev zGr (K:List PA->Prop) (n:Net) (X:St->Prop) (P:Int->Bool) (S:Int->Bool):Prop:=∀ ⦃iv2:Int⦄,P iv2=true->K (e23 (S iv2))->X (zDa n iv2)
section
variable {K:List PA->Prop}{n:Net}{zbZ:Bool}{iv2:Int}{X2:St->Prop}{P2:Int->Bool}{S2:Int->Bool}{iv3:Int}{zqb:Bool}
def zqc (S2:Int->Bool) (n:Net) (iv3:Int) (zqb:Bool):Bool :=
  (cond zqb
 false
 (S2 (w64 (iv3+(1:Int)))))
def zqd (P2:Int->Bool) (n:Net) (iv3:Int) (zqb:Bool):Bool :=
  (cond zqb
 true
 (P2 (w64 (iv3+(1:Int)))))
theorem zGs (hX2:zGr K n X2 P2 S2) (hs:zqd P2 n iv3 zqb=true) (hk:K (e23 (zqc S2 n iv3 zqb))):z23 K [1,1,0,1,0,0,1,0,0,1] [X2] ⟨[(1,zp 1 0),(3,zI iv3),(29,zB zqb)],[(1,.box 24 (zm (enc_24 n)))],[]⟩:=zaZ (by kernel_rfl) (zc hs hk (λ hs hk=>hk) (λ hs hk=>(hX2 hs hk)))
def zik (n:Net) (S2:Int->Bool) (iv2:Int):Bool :=
  (cond (decide (iv2 < (n.Ties.len : Int)))
 (zqc S2 n iv2 (!(s36 n.Nodes (n.Ties.get iv2.toNat))))
 true)
def zil (n:Net) (P2:Int->Bool) (iv2:Int):Bool :=
  (cond (decide (iv2 < (n.Ties.len : Int)))
 (decide ((0<=iv2/\iv2 < (n.Ties.len:Int))) &&
 (zqd P2 n iv2 (!(s36 n.Nodes (n.Ties.get iv2.toNat)))))
 true)
def zgZ (n:Net):Nat->Int->Bool:=lpO (λ _=>default) (zik n)
def zim (n:Net):Nat->Int->Bool:=lpO (λ _=>false) (zil n)
def zqe (n:Net) (iv2:Int):Bool:=zgZ n Fuel iv2
def zqf (n:Net) (iv2:Int):Bool:=zim n Fuel iv2
theorem zGt (hs:zqf n iv2=true) (hk:K (e23 (zqe n iv2))):z23 K [1,1,0,1,0] [] (zDa n iv2) :=
  zl (λ X=>z23 K [1,1,0,1,0,0] [X]) (by kernel_rfl) λ X2 hX =>
  (show ∀ k, zGr K n X2 (zim n k) (zgZ n k) from zfg _ _ (zil n) (zik n) (zGr K n X2)
 (by intro _ hs;exact absurd hs dqk)
 (by intro P2 S2 hX2 iv2 hs hk;exact hX _ (zaZ (by kernel_rfl) (zc hs hk (λ hs hk=>(zaT hs λ hc hs=>And.intro hc (zGs hX2 hs hk))) (λ hs hk=>hk))))) _ hs hk
def zqg (n:Net):Bool :=
  (zqe n (0:Int))
def zqh (n:Net):Bool :=
  (zqf n (0:Int))
theorem zGu (hs:zqh n=true) (hk:K (e23 (zqg n))):z23 K [1,1] [] ⟨[(1,zp 1 0)],[(1,.box 24 (zm (enc_24 n)))],[]⟩:=zaZ (by kernel_rfl) (zGt hs hk)
def zmV (n:Net) (zbZ:Bool):Bool :=
  (cond zbZ
 false
 (zqg n))
def zmW (n:Net) (zbZ:Bool):Bool :=
  (cond zbZ
 true
 (zqh n))
theorem zzP (hs:zmW n zbZ=true) (hk:K (e23 (zmV n zbZ))):z23 K [1,0,1] [] ⟨[(1,zp 1 0),(13,zB zbZ)],[(1,.box 24 (zm (enc_24 n)))],[]⟩:=zaZ (by kernel_rfl) (zc hs hk (λ hs hk=>hk) (λ hs hk=>(zGu hs hk)))
def s23 (n:Net):Bool :=
  (cond (!(s72 n.Nodes (1:Int) (40:Int)))
 (zmV n true)
 (zmV n (decide ((n.Ties.len:Int) > (200:Int)))))
def p23 (n:Net):Bool :=
  (cond (!(s72 n.Nodes (1:Int) (40:Int)))
 (zmW n true)
 (zmW n (decide ((n.Ties.len:Int) > (200:Int)))))
end
theorem q23 (n:Net) (K:List PA->Prop) (hs:p23 n=true) (hk:K (e23 (s23 n))):vcFun Tryd.prog G23 zGq 23 [.agg (enc_24 n)] K :=
  zaZ (by kernel_rfl) (zc hs hk (λ hs hk=>(zzP hs hk)) (λ hs hk=>(zzP hs hk)))
def zGv : List PA → COut
  | [.agg [.int .i64 zae,.sl zad zaz zac]]=>.det (IsE enc_40 4 zaz zac/\p23 (⟨zae,(⟨zad,zam zac⟩:(Sl Tie))⟩:Net)=true) [.one (.bool (s23 (⟨zae,(⟨zad,zam zac⟩:(Sl Tie))⟩:Net)))]
  | _=>.no
theorem zKf:zar Tryd.prog 23:=⟨_,rfl,rfl,by kernel_rfl⟩
theorem zOf:Ok Tryd.prog 23 zGv:=zbu zMu zKf λ args K h=>by
  unfold zGv at h
  split at h
  · rename_i zae zad zaz zac
    obtain⟨⟨⟨rfl,zaq,rfl⟩,hs⟩,hk⟩:=h
    try rw[zak zaq] at hs
    try rw[zak zaq] at hk
    exact⟨(λ _ _=>[]),(λ _=>false),zGq,q23 (⟨zae,(⟨zad,zaq⟩:(Sl Tie))⟩:Net) K hs hk⟩
  · exact h.elim
abbrev T39:Tabs:=Tabs.nil
theorem zMv:TabsOk Tryd.prog T39:=TabsOk.nil
abbrev G39:Ctrs:=csm T39 (λ _ _=>[]) (λ _=>false)
def zKg:Ann:=⟨37,[(0,zK [1,2] [2]),(1,zK [2,5] [2]),(2,zK [4] [])],
 [],
 [],
 [],[]⟩
abbrev R39:=Bool
abbrev e39 (r:R39):List PA:=[.one (.bool r)]
section
variable {K:List PA->Prop}{t:Tie}{zaa:(Sl Int)}
def s39 (t:Tie) (zaa:(Sl Int)):Bool :=
  (cond (t.Low == (-1000000000000:Int))
 (cond (t.High == (1000000000000:Int))
 true
 (decide ((w64 ((zaa.get t.To.toNat) - (zaa.get t.From.toNat)))<=t.High)))
 (cond (decide ((w64 ((zaa.get t.To.toNat) - (zaa.get t.From.toNat))) >= t.Low))
 (cond (t.High == (1000000000000:Int))
 true
 (decide ((w64 ((zaa.get t.To.toNat) - (zaa.get t.From.toNat)))<=t.High)))
 false))
def p39 (t:Tie) (zaa:(Sl Int)):Bool :=
  (decide ((0<=t.To/\t.To < (zaa.len:Int))) &&
 (decide ((0<=t.From/\t.From < (zaa.len:Int))) &&
 true))
end
theorem q39 (t:Tie) (zaa:(Sl Int)) (K:List PA->Prop) (hs:p39 t zaa=true) (hk:K (e39 (s39 t zaa))):vcFun Tryd.prog G39 zKg 39 [.agg (enc_40 t),.one (.sl zaa.len 1 (λ i=>enc_3 (zaa.get i)))] K :=
  zaZ (by kernel_rfl) (zaT hs λ hc hs=>And.intro hc (zaT hs λ hc hs=>And.intro hc (zt hk (λ hk=>(zt hk (λ hk=>hk) (λ hk=>hk))) (λ hk=>(zt hk (λ hk=>(zt hk (λ hk=>hk) (λ hk=>hk))) (λ hk=>hk))))))
def zGw : List PA → COut
  | [.agg [.int .i64 zdl,.int .i64 zh8,.int .i64 zfh,.int .i64 zdm],.one (.sl zdb zgC zc8)]=>.det (IsE enc_3 1 zgC zc8/\p39 (⟨zdl,zh8,zfh,zdm⟩:Tie) (⟨zdb,zav zc8⟩:(Sl Int))=true) [.one (.bool (s39 (⟨zdl,zh8,zfh,zdm⟩:Tie) (⟨zdb,zav zc8⟩:(Sl Int))))]
  | _=>.no
theorem zKh:zar Tryd.prog 39:=⟨_,rfl,rfl,by kernel_rfl⟩
theorem zOg:Ok Tryd.prog 39 zGw:=zbu zMv zKh λ args K h=>by
  unfold zGw at h
  split at h
  · rename_i zdl zh8 zfh zdm zdb zgC zc8
    obtain⟨⟨⟨rfl,ze1,rfl⟩,hs⟩,hk⟩:=h
    try rw[za8 ze1] at hs
    try rw[za8 ze1] at hk
    exact⟨(λ _ _=>[]),(λ _=>false),zKg,q39 (⟨zdl,zh8,zfh,zdm⟩:Tie) (⟨zdb,ze1⟩:(Sl Int)) K hs hk⟩
  · exact h.elim
abbrev T80:Tabs:=(Tabs.nil.addF 72 zzO)
theorem zMw:TabsOk Tryd.prog T80:=(TabsOk.nil.addF zMs)
abbrev G80:Ctrs:=csm T80 (λ _ _=>[]) (λ _=>false)
def zGx:Ann:=⟨29,[(0,zK [1,2] [2]),(1,zK [1,16] []),(2,zK [4] []),(3,zK [1,5] []),(4,zK [1,5,20] []),(5,zK [1,5] []),(6,zK [1,5,28] []),(7,zK [4] []),(8,zK [4] [])],
 [(4,zK [1,5] [])],
 [(3,zK [1] []),(7,zK [1,5,28] [])],
 [],[]⟩
abbrev R80:=Bool
abbrev e80 (r:R80):List PA:=[.one (.bool r)]
@[irreducible] def z80:=ptF Tryd.prog G80 zGx Tryd.f80
def zDb (zaa:(Sl Int)) (iv1:Int):St:=⟨[(1,zS enc_3 1 zaa),(5,zI iv1)],[],[]⟩
abbrev zGy (K:List PA->Prop) (zaa:(Sl Int)) (X:St->Prop) (P:Int->Bool) (S:Int->Bool):Prop:=∀ ⦃iv1:Int⦄,P iv1=true->K (e80 (S iv1))->X (zDb zaa iv1)
section
variable {K:List PA->Prop}{n:Net}{zaa:(Sl Int)}{iv1:Int}{X1:St->Prop}{P1:Int->Bool}{S1:Int->Bool}{iv2:Int}{zcR:Bool}
def zqi (S1:Int->Bool) (zaa:(Sl Int)) (iv2:Int) (zcR:Bool):Bool :=
  (cond zcR
 false
 (S1 (w64 (iv2+(1:Int)))))
def zqj (P1:Int->Bool) (zaa:(Sl Int)) (iv2:Int) (zcR:Bool):Bool :=
  (cond zcR
 true
 (P1 (w64 (iv2+(1:Int)))))
theorem zGz (hX1:zGy K zaa X1 P1 S1) (hs:zqj P1 zaa iv2 zcR=true) (hk:K (e80 (zqi S1 zaa iv2 zcR))):z80 K [1,1,0,1,0,0,1,0,0,1] [X1] ⟨[(1,zS enc_3 1 zaa),(5,zI iv2),(28,zB zcR)],[],[]⟩:=zaZ (by kernel_rfl) (zc hs hk (λ hs hk=>hk) (λ hs hk=>(hX1 hs hk)))
def zin (zaa:(Sl Int)) (S1:Int->Bool) (iv1:Int):Bool :=
  (cond (decide (iv1 < (zaa.len : Int)))
 (zqi S1 zaa iv1 (!(s72 (zaa.get iv1.toNat) (-1000000000000:Int) (1000000000000:Int))))
 true)
def zio (zaa:(Sl Int)) (P1:Int->Bool) (iv1:Int):Bool :=
  (cond (decide (iv1 < (zaa.len : Int)))
 (decide ((0<=iv1/\iv1 < (zaa.len:Int))) &&
 (zqj P1 zaa iv1 (!(s72 (zaa.get iv1.toNat) (-1000000000000:Int) (1000000000000:Int)))))
 true)
def zg0 (zaa:(Sl Int)):Nat->Int->Bool:=lpO (λ _=>default) (zin zaa)
def ziq (zaa:(Sl Int)):Nat->Int->Bool:=lpO (λ _=>false) (zio zaa)
def zqk (zaa:(Sl Int)) (iv1:Int):Bool:=zg0 zaa Fuel iv1
def zql (zaa:(Sl Int)) (iv1:Int):Bool:=ziq zaa Fuel iv1
theorem zGA (hs:zql zaa iv1=true) (hk:K (e80 (zqk zaa iv1))):z80 K [1,1,0,1,0] [] (zDb zaa iv1) :=
  zl (λ X=>z80 K [1,1,0,1,0,0] [X]) (by kernel_rfl) λ X1 hX =>
  (show ∀ k, zGy K zaa X1 (ziq zaa k) (zg0 zaa k) from zfg _ _ (zio zaa) (zin zaa) (zGy K zaa X1)
 (by intro _ hs;exact absurd hs dqk)
 (by intro P1 S1 hX1 iv1 hs hk;exact hX _ (zaZ (by kernel_rfl) (zc hs hk (λ hs hk=>(zaT hs λ hc hs=>And.intro hc (zGz hX1 hs hk))) (λ hs hk=>hk))))) _ hs hk
def zqm (zaa:(Sl Int)):Bool :=
  (zqk zaa (0:Int))
def zqn (zaa:(Sl Int)):Bool :=
  (zql zaa (0:Int))
theorem zGB (hs:zqn zaa=true) (hk:K (e80 (zqm zaa))):z80 K [1,1] [] ⟨[(1,zS enc_3 1 zaa)],[],[]⟩:=zaZ (by kernel_rfl) (zGA hs hk)
def s80 (n:Net) (zaa:(Sl Int)):Bool :=
  (cond ((zaa.len : Int) != n.Nodes)
 false
 (cond ((zaa.get 0) != (0:Int))
 false
 (zqm zaa)))
def p80 (n:Net) (zaa:(Sl Int)):Bool :=
  (cond ((zaa.len : Int) != n.Nodes)
 true
 (decide ((0<=(0:Int)/\(0:Int) < (zaa.len:Int))) &&
 (cond ((zaa.get 0) != (0:Int))
 true
 (zqn zaa))))
end
theorem q80 (n:Net) (zaa:(Sl Int)) (K:List PA->Prop) (hs:p80 n zaa=true) (hk:K (e80 (s80 n zaa))):vcFun Tryd.prog G80 zGx 80 [.agg (enc_24 n),.one (.sl zaa.len 1 (λ i=>enc_3 (zaa.get i)))] K :=
  zaZ (by kernel_rfl) (zc hs hk (λ hs hk=>hk) (λ hs hk=>(zaT hs λ hc hs=>And.intro hc (zc hs hk (λ hs hk=>hk) (λ hs hk=>(zGB hs hk))))))
def zGC : List PA → COut
  | [.agg [.int .i64 zae,.sl zad zaz zac],.one (.sl zdb zgC zc8)]=>.det (IsE enc_40 4 zaz zac/\IsE enc_3 1 zgC zc8/\p80 (⟨zae,(⟨zad,zam zac⟩:(Sl Tie))⟩:Net) (⟨zdb,zav zc8⟩:(Sl Int))=true) [.one (.bool (s80 (⟨zae,(⟨zad,zam zac⟩:(Sl Tie))⟩:Net) (⟨zdb,zav zc8⟩:(Sl Int))))]
  | _=>.no
theorem zKi:zar Tryd.prog 80:=⟨_,rfl,rfl,by kernel_rfl⟩
theorem zOh:Ok Tryd.prog 80 zGC:=zbu zMw zKi λ args K h=>by
  unfold zGC at h
  split at h
  · rename_i zae zad zaz zac zdb zgC zc8
    obtain⟨⟨⟨rfl,zaq,rfl⟩,⟨rfl,ze1,rfl⟩,hs⟩,hk⟩:=h
    try rw[zak zaq] at hs
    try rw[zak zaq] at hk
    try rw[za8 ze1] at hs
    try rw[za8 ze1] at hk
    exact⟨(λ _ _=>[]),(λ _=>false),zGx,q80 (⟨zae,(⟨zad,zaq⟩:(Sl Tie))⟩:Net) (⟨zdb,ze1⟩:(Sl Int)) K hs hk⟩
  · exact h.elim
abbrev T38:Tabs:=((Tabs.nil.addF 39 zGw).addF 80 zGC)
theorem zMx:TabsOk Tryd.prog T38:=((TabsOk.nil.addF zOg).addF zOh)
abbrev G38:Ctrs:=csm T38 (λ _ _=>[]) (λ _=>false)
def zGD:Ann:=⟨25,[(0,zK [1,2] [2]),(1,zK [1,2,9] [2]),(2,zK [4] []),(3,zK [1,2,5] [2]),(4,zK [1,2,5,14] [2]),(5,zK [1,2,5] [2]),(6,zK [1,2,5,24] [2]),(7,zK [4] []),(8,zK [4] [])],
 [(4,zK [1,2,5] [2])],
 [(2,zK [1,2,9] [2]),(3,zK [1,2] [2]),(7,zK [1,2,5,24] [2])],
 [],[]⟩
abbrev R38:=Bool
abbrev e38 (r:R38):List PA:=[.one (.bool r)]
@[irreducible] def z38:=ptF Tryd.prog G38 zGD Tryd.f38
def zDc (n:Net) (zaa:(Sl Int)) (iv2:Int):St:=⟨[(1,zS enc_3 1 zaa),(2,zp 2 0),(5,zI iv2)],[(2,.box 24 (zm (enc_24 n)))],[]⟩
abbrev zGE (K:List PA->Prop) (n:Net) (zaa:(Sl Int)) (X:St->Prop) (P:Int->Bool) (S:Int->Bool):Prop:=∀ ⦃iv2:Int⦄,P iv2=true->K (e38 (S iv2))->X (zDc n zaa iv2)
section
variable {K:List PA->Prop}{n:Net}{zaa:(Sl Int)}{zgX:Bool}{iv2:Int}{X2:St->Prop}{P2:Int->Bool}{S2:Int->Bool}{iv3:Int}{zqo:Bool}
def zqp (S2:Int->Bool) (n:Net) (zaa:(Sl Int)) (iv3:Int) (zqo:Bool):Bool :=
  (cond zqo
 false
 (S2 (w64 (iv3+(1:Int)))))
def zqq (P2:Int->Bool) (n:Net) (zaa:(Sl Int)) (iv3:Int) (zqo:Bool):Bool :=
  (cond zqo
 true
 (P2 (w64 (iv3+(1:Int)))))
theorem zGF (hX2:zGE K n zaa X2 P2 S2) (hs:zqq P2 n zaa iv3 zqo=true) (hk:K (e38 (zqp S2 n zaa iv3 zqo))):z38 K [1,1,0,1,0,0,1,0,0,1] [X2] ⟨[(1,zS enc_3 1 zaa),(2,zp 2 0),(5,zI iv3),(24,zB zqo)],[(2,.box 24 (zm (enc_24 n)))],[]⟩:=zaZ (by kernel_rfl) (zc hs hk (λ hs hk=>hk) (λ hs hk=>(hX2 hs hk)))
def zir (n:Net) (zaa:(Sl Int)) (S2:Int->Bool) (iv2:Int):Bool :=
  (cond (decide (iv2 < (n.Ties.len : Int)))
 (zqp S2 n zaa iv2 (!(s39 (n.Ties.get iv2.toNat) zaa)))
 true)
def zis (n:Net) (zaa:(Sl Int)) (P2:Int->Bool) (iv2:Int):Bool :=
  (cond (decide (iv2 < (n.Ties.len : Int)))
 (decide ((0<=iv2/\iv2 < (n.Ties.len:Int))) &&
 (decide ((p39 (n.Ties.get iv2.toNat) zaa=true)) &&
 (zqq P2 n zaa iv2 (!(s39 (n.Ties.get iv2.toNat) zaa)))))
 true)
def zit (n:Net) (zaa:(Sl Int)):Nat->Int->Bool:=lpO (λ _=>default) (zir n zaa)
def ziu (n:Net) (zaa:(Sl Int)):Nat->Int->Bool:=lpO (λ _=>false) (zis n zaa)
def zqr (n:Net) (zaa:(Sl Int)) (iv2:Int):Bool:=zit n zaa Fuel iv2
def zqs (n:Net) (zaa:(Sl Int)) (iv2:Int):Bool:=ziu n zaa Fuel iv2
theorem zGG (hs:zqs n zaa iv2=true) (hk:K (e38 (zqr n zaa iv2))):z38 K [1,1,0,1,0] [] (zDc n zaa iv2) :=
  zl (λ X=>z38 K [1,1,0,1,0,0] [X]) (by kernel_rfl) λ X2 hX =>
  (show ∀ k, zGE K n zaa X2 (ziu n zaa k) (zit n zaa k) from zfg _ _ (zis n zaa) (zir n zaa) (zGE K n zaa X2)
 (by intro _ hs;exact absurd hs dqk)
 (by intro P2 S2 hX2 iv2 hs hk;exact hX _ (zaZ (by kernel_rfl) (zc hs hk (λ hs hk=>(zaT hs λ hc hs=>And.intro hc (zaT hs λ hc hs=>And.intro (And.intro (zE enc_3 1 zaa.get) hc) (zGF hX2 hs hk)))) (λ hs hk=>hk))))) _ hs hk
def zqu (n:Net) (zaa:(Sl Int)):Bool :=
  (zqr n zaa (0:Int))
def zqv (n:Net) (zaa:(Sl Int)):Bool :=
  (zqs n zaa (0:Int))
theorem zGH (hs:zqv n zaa=true) (hk:K (e38 (zqu n zaa))):z38 K [1,1] [] ⟨[(1,zS enc_3 1 zaa),(2,zp 2 0)],[(2,.box 24 (zm (enc_24 n)))],[]⟩:=zaZ (by kernel_rfl) (zGG hs hk)
def zqw (n:Net) (zaa:(Sl Int)) (zgX:Bool):Bool :=
  (cond zgX
 false
 (zqu n zaa))
def zqx (n:Net) (zaa:(Sl Int)) (zgX:Bool):Bool :=
  (cond zgX
 true
 (zqv n zaa))
theorem zGI (hs:zqx n zaa zgX=true) (hk:K (e38 (zqw n zaa zgX))):z38 K [1,0,1] [] ⟨[(1,zS enc_3 1 zaa),(2,zp 2 0),(9,zB zgX)],[(2,.box 24 (zm (enc_24 n)))],[]⟩:=zaZ (by kernel_rfl) (zc hs hk (λ hs hk=>hk) (λ hs hk=>(zGH hs hk)))
def s38 (n:Net) (zaa:(Sl Int)):Bool :=
  (zqw n zaa (!(s80 n zaa)))
def p38 (n:Net) (zaa:(Sl Int)):Bool :=
  (decide ((p80 n zaa=true)) &&
 (zqx n zaa (!(s80 n zaa))))
end
theorem q38 (n:Net) (zaa:(Sl Int)) (K:List PA->Prop) (hs:p38 n zaa=true) (hk:K (e38 (s38 n zaa))):vcFun Tryd.prog G38 zGD 38 [.agg (enc_24 n),.one (.sl zaa.len 1 (λ i=>enc_3 (zaa.get i)))] K :=
  zaZ (by kernel_rfl) (zaT hs λ hc hs=>And.intro (And.intro (zE enc_40 4 n.Ties.get) (And.intro (zE enc_3 1 zaa.get) hc)) (zGI hs hk))
def zGJ : List PA → COut
  | [.agg [.int .i64 zae,.sl zad zaz zac],.one (.sl zdb zgC zc8)]=>.det (IsE enc_40 4 zaz zac/\IsE enc_3 1 zgC zc8/\p38 (⟨zae,(⟨zad,zam zac⟩:(Sl Tie))⟩:Net) (⟨zdb,zav zc8⟩:(Sl Int))=true) [.one (.bool (s38 (⟨zae,(⟨zad,zam zac⟩:(Sl Tie))⟩:Net) (⟨zdb,zav zc8⟩:(Sl Int))))]
  | _=>.no
theorem zKj:zar Tryd.prog 38:=⟨_,rfl,rfl,by kernel_rfl⟩
theorem zOi:Ok Tryd.prog 38 zGJ:=zbu zMx zKj λ args K h=>by
  unfold zGJ at h
  split at h
  · rename_i zae zad zaz zac zdb zgC zc8
    obtain⟨⟨⟨rfl,zaq,rfl⟩,⟨rfl,ze1,rfl⟩,hs⟩,hk⟩:=h
    try rw[zak zaq] at hs
    try rw[zak zaq] at hk
    try rw[za8 ze1] at hs
    try rw[za8 ze1] at hk
    exact⟨(λ _ _=>[]),(λ _=>false),zGD,q38 (⟨zae,(⟨zad,zaq⟩:(Sl Tie))⟩:Net) (⟨zdb,ze1⟩:(Sl Int)) K hs hk⟩
  · exact h.elim
abbrev T42:Tabs:=Tabs.nil
theorem zMy:TabsOk Tryd.prog T42:=TabsOk.nil
abbrev G42:Ctrs:=csm T42 (λ _ _=>[]) (λ _=>false)
def zBW:Ann:=⟨38,[(0,zK [2,3] [2,3]),(1,zK [2,3,19] [2,3]),(2,zK [4] []),(3,zK [2,3,5] [2,3]),(4,zK [2,3,5,24] [2,3]),(5,zK [2,3,5] [2,3]),(6,zK [2,3,5,37] [2,3]),(7,zK [4] []),(8,zK [4] [])],
 [(4,zK [2,3,5] [2,3])],
 [(3,zK [2,3] [2,3])],
 [],[]⟩
abbrev R42:=Bool
abbrev e42 (r:R42):List PA:=[.one (.bool r)]
@[irreducible] def z42:=ptF Tryd.prog G42 zBW Tryd.f42
def zDd (a:Net) (b:Net) (iv1:Int):St:=⟨[(2,zp 2 0),(3,zp 3 0),(5,zI iv1)],[(2,.box 24 (zm (enc_24 a))),(3,.box 24 (zm (enc_24 b)))],[]⟩
abbrev zKk (K:List PA->Prop) (a:Net) (b:Net) (X:St->Prop) (P:Int->Bool) (S:Int->Bool):Prop:=∀ ⦃iv1:Int⦄,P iv1=true->K (e42 (S iv1))->X (zDd a b iv1)
section
variable {K:List PA->Prop}{a:Net}{b:Net}{iv1:Int}{X1:St->Prop}{P1:Int->Bool}{S1:Int->Bool}
def ziv (a:Net) (b:Net) (S1:Int->Bool) (iv1:Int):Bool :=
  (cond (decide (iv1 < (a.Ties.len : Int)))
 (cond (!(match ((a.Ties.get iv1.toNat).From == (b.Ties.get iv1.toNat).From) with | true => (match ((a.Ties.get iv1.toNat).To == (b.Ties.get iv1.toNat).To) with | true => (match ((a.Ties.get iv1.toNat).Low == (b.Ties.get iv1.toNat).Low) with | true => (match ((a.Ties.get iv1.toNat).High == (b.Ties.get iv1.toNat).High) with | true => true | false => false) | false => false) | false => false) | false => false))
 false
 (S1 (w64 (iv1+(1:Int)))))
 true)
def ziw (a:Net) (b:Net) (P1:Int->Bool) (iv1:Int):Bool :=
  (cond (decide (iv1 < (a.Ties.len : Int)))
 (decide ((0<=iv1/\iv1 < (a.Ties.len:Int))) &&
 (decide ((0<=iv1/\iv1 < (b.Ties.len:Int))) &&
 (cond (!(match ((a.Ties.get iv1.toNat).From == (b.Ties.get iv1.toNat).From) with | true => (match ((a.Ties.get iv1.toNat).To == (b.Ties.get iv1.toNat).To) with | true => (match ((a.Ties.get iv1.toNat).Low == (b.Ties.get iv1.toNat).Low) with | true => (match ((a.Ties.get iv1.toNat).High == (b.Ties.get iv1.toNat).High) with | true => true | false => false) | false => false) | false => false) | false => false))
 true
 (P1 (w64 (iv1+(1:Int)))))))
 true)
def zix (a:Net) (b:Net):Nat->Int->Bool:=lpO (λ _=>default) (ziv a b)
def ziy (a:Net) (b:Net):Nat->Int->Bool:=lpO (λ _=>false) (ziw a b)
def zzQ (a:Net) (b:Net) (iv1:Int):Bool:=zix a b Fuel iv1
def zzR (a:Net) (b:Net) (iv1:Int):Bool:=ziy a b Fuel iv1
theorem zGK (hs:zzR a b iv1=true) (hk:K (e42 (zzQ a b iv1))):z42 K [1,1,0,1,0] [] (zDd a b iv1) :=
  zl (λ X=>z42 K [1,1,0,1,0,0] [X]) (by kernel_rfl) λ X1 hX =>
  (show ∀ k, zKk K a b X1 (ziy a b k) (zix a b k) from zfg _ _ (ziw a b) (ziv a b) (zKk K a b X1)
 (by intro _ hs;exact absurd hs dqk)
 (by intro P1 S1 hX1 iv1 hs hk;exact hX _ (zaZ (by kernel_rfl) (zc hs hk (λ hs hk=>(zaT hs λ hc hs=>And.intro hc (zaT hs λ hc hs=>And.intro hc (zc hs hk (λ hs hk=>hk) (λ hs hk=>(hX1 hs hk)))))) (λ hs hk=>hk))))) _ hs hk
def zqy (a:Net) (b:Net):Bool :=
  (zzQ a b (0:Int))
def zzS (a:Net) (b:Net):Bool :=
  (zzR a b (0:Int))
theorem zGL (hs:zzS a b=true) (hk:K (e42 (zqy a b))):z42 K [1,1] [] ⟨[(2,zp 2 0),(3,zp 3 0)],[(2,.box 24 (zm (enc_24 a))),(3,.box 24 (zm (enc_24 b)))],[]⟩:=zaZ (by kernel_rfl) (zGK hs hk)
def s42 (a:Net) (b:Net):Bool :=
  (cond (a.Nodes != b.Nodes)
 false
 (cond ((a.Ties.len : Int) != (b.Ties.len : Int))
 false
 (zqy a b)))
def p42 (a:Net) (b:Net):Bool :=
  (cond (a.Nodes != b.Nodes)
 true
 (cond ((a.Ties.len : Int) != (b.Ties.len : Int))
 true
 (zzS a b)))
end
theorem q42 (a:Net) (b:Net) (K:List PA->Prop) (hs:p42 a b=true) (hk:K (e42 (s42 a b))):vcFun Tryd.prog G42 zBW 42 [.agg (enc_24 a),.agg (enc_24 b)] K :=
  zaZ (by kernel_rfl) (zc hs hk (λ hs hk=>hk) (λ hs hk=>(zc hs hk (λ hs hk=>hk) (λ hs hk=>(zGL hs hk)))))
def zGM : List PA → COut
  | [.agg [.int .i64 zae,.sl zad zaz zac],.agg [.int .i64 zd3,.sl zhO zoC zhP]]=>.det (IsE enc_40 4 zaz zac/\IsE enc_40 4 zoC zhP/\p42 (⟨zae,(⟨zad,zam zac⟩:(Sl Tie))⟩:Net) (⟨zd3,(⟨zhO,zam zhP⟩:(Sl Tie))⟩:Net)=true) [.one (.bool (s42 (⟨zae,(⟨zad,zam zac⟩:(Sl Tie))⟩:Net) (⟨zd3,(⟨zhO,zam zhP⟩:(Sl Tie))⟩:Net)))]
  | [.agg [.int .i64 zae,.sl zad zaz zac],.agg [.int .i64 zd3,.nils]]=>.det (IsE enc_40 4 zaz zac/\p42 (⟨zae,(⟨zad,zam zac⟩:(Sl Tie))⟩:Net) (⟨zd3,(⟨0,λ _=>default⟩:(Sl Tie))⟩:Net)=true) [.one (.bool (s42 (⟨zae,(⟨zad,zam zac⟩:(Sl Tie))⟩:Net) (⟨zd3,(⟨0,λ _=>default⟩:(Sl Tie))⟩:Net)))]
  | _=>.no
theorem zKl:zar Tryd.prog 42:=⟨_,rfl,rfl,by kernel_rfl⟩
theorem zOj:Ok Tryd.prog 42 zGM:=zfC zMy zKl λ args K h=>by
  unfold zGM at h
  split at h
  · rename_i zae zad zaz zac zd3 zhO zoC zhP
    obtain⟨⟨⟨rfl,zaq,rfl⟩,⟨rfl,zkK,rfl⟩,hs⟩,hk⟩:=h
    try rw[zak zaq] at hs
    try rw[zak zaq] at hk
    try rw[zak zkK] at hs
    try rw[zak zkK] at hk
    exact⟨_,zeI zeJ _,(λ _ _=>[]),(λ _=>false),zBW,q42 (⟨zae,(⟨zad,zaq⟩:(Sl Tie))⟩:Net) (⟨zd3,(⟨zhO,zkK⟩:(Sl Tie))⟩:Net) (Wk K) hs (zeK hk)⟩
  · rename_i zae zad zaz zac zd3
    obtain⟨⟨⟨rfl,zaq,rfl⟩,hs⟩,hk⟩:=h
    try rw[zak zaq] at hs
    try rw[zak zaq] at hk
    exact⟨_,(zeu (zeJ _) (zeu (.agg (zeu (.rfl _) (zeu (.nil _ _) ziR))) ziR)),(λ _ _=>[]),(λ _=>false),zBW,q42 (⟨zae,(⟨zad,zaq⟩:(Sl Tie))⟩:Net) (⟨zd3,(⟨0,λ _=>default⟩:(Sl Tie))⟩:Net) (Wk K) hs (zeK hk)⟩
  · exact h.elim
abbrev T48:Tabs:=((Tabs.nil.addF 67 zpz).addF 81 ztB)
theorem zMz:TabsOk Tryd.prog T48:=((TabsOk.nil.addF zIO).addF zK3)
abbrev G48:Ctrs:=csm T48 (λ _ _=>[]) (λ _=>false)
def zGN:Ann:=⟨75,[(0,zK [1,2] [2]),(1,zK [1,2,25] [2]),(2,zK [4] []),(3,zK [1,2,26,27,28] [2]),(4,zK [1,2,26,27,28,29] [2]),(5,zK [1,2,6,26,27,28] [2]),(6,zK [1,2,26,27,28,34] [2]),(7,zK [4] []),(8,zK [1,2,26,27,28] [2]),(9,zK [1,37,38,39] []),(10,zK [1,37,38,39,40] []),(11,zK [1,8,37,38,39] [8]),(12,zK [1,8,9,37,38,39] [8]),(13,zK [1,37,38,39,73] []),(14,zK [4] []),(15,zK [1,37,38,39] []),(16,zK [4] [])],
 [(4,zK [1,2,26,27,28] [2]),(10,zK [1,37,38,39] [])],
 [(2,zK [1,2,25] [2]),(3,zK [1,2] [2]),(7,zK [1,2,26,27,28,34] [2]),(9,zK [1,2] [2])],
 [],[]⟩
abbrev R48:=Bool
abbrev e48 (r:R48):List PA:=[.one (.bool r)]
@[irreducible] def z48:=ptF Tryd.prog G48 zGN Tryd.f48
def zDe (n:Net) (zaa:(Sl Int)) (zcR:Int):St:=⟨[(1,zS enc_3 1 zaa),(2,zp 2 0),(26,zS enc_3 1 zaa),(27,zI (zaa.len:Int)),(28,zI zcR)],[(2,.box 24 (zm (enc_24 n)))],[]⟩
abbrev zGO (K:List PA->Prop) (n:Net) (zaa:(Sl Int)) (X:St->Prop) (P:Int->Bool) (S:Int->Bool):Prop:=∀ ⦃zcR:Int⦄,P zcR=true->K (e48 (S zcR))->X (zDe n zaa zcR)
def zDf (n:Net) (zaa:(Sl Int)) (zbF:Int):St:=⟨[(1,zS enc_3 1 zaa),(37,zS enc_40 4 n.Ties),(38,zI (n.Ties.len:Int)),(39,zI zbF)],[],[]⟩
abbrev zKm (K:List PA->Prop) (n:Net) (zaa:(Sl Int)) (X:St->Prop) (P:Int->Bool) (S:Int->Bool):Prop:=∀ ⦃zbF:Int⦄,P zbF=true->K (e48 (S zbF))->X (zDf n zaa zbF)
section
variable {K:List PA->Prop}{n:Net}{zaa:(Sl Int)}{zqz:Bool}{zcR:Int}{X2:St->Prop}{P2:Int->Bool}{S2:Int->Bool}{zqA:Int}{zqB:Bool}{zbF:Int}{X5:St->Prop}{P5:Int->Bool}{S5:Int->Bool}
def ziz (n:Net) (zaa:(Sl Int)) (S5:Int->Bool) (zbF:Int):Bool :=
  (cond (decide (zbF < (n.Ties.len : Int)))
 (cond ((n.Ties.get zbF.toNat).Low != (-1000000000000:Int))
 (cond (decide ((w64 ((zaa.get (((n.Ties.get zbF.toNat).To).toNat)) - (zaa.get (((n.Ties.get zbF.toNat).From).toNat)))) < (n.Ties.get zbF.toNat).Low))
 false
 (cond ((n.Ties.get zbF.toNat).High != (1000000000000:Int))
 (cond (decide ((w64 ((zaa.get (((n.Ties.get zbF.toNat).To).toNat)) - (zaa.get (((n.Ties.get zbF.toNat).From).toNat)))) > (n.Ties.get zbF.toNat).High))
 false
 (S5 (w64 (zbF+(1:Int)))))
 (S5 (w64 (zbF+(1:Int))))))
 (cond ((n.Ties.get zbF.toNat).High != (1000000000000:Int))
 (cond (decide ((w64 ((zaa.get (((n.Ties.get zbF.toNat).To).toNat)) - (zaa.get (((n.Ties.get zbF.toNat).From).toNat)))) > (n.Ties.get zbF.toNat).High))
 false
 (S5 (w64 (zbF+(1:Int)))))
 (S5 (w64 (zbF+(1:Int))))))
 true)
def ziA (n:Net) (zaa:(Sl Int)) (P5:Int->Bool) (zbF:Int):Bool :=
  (cond (decide (zbF < (n.Ties.len : Int)))
 (decide ((0<=zbF/\zbF < (n.Ties.len:Int))) &&
 (decide ((0<=(n.Ties.get zbF.toNat).To/\(n.Ties.get zbF.toNat).To < (zaa.len:Int))) &&
 (decide ((0<=(n.Ties.get zbF.toNat).From/\(n.Ties.get zbF.toNat).From < (zaa.len:Int))) &&
 (cond ((n.Ties.get zbF.toNat).Low != (-1000000000000:Int))
 (cond (decide ((w64 ((zaa.get (((n.Ties.get zbF.toNat).To).toNat)) - (zaa.get (((n.Ties.get zbF.toNat).From).toNat)))) < (n.Ties.get zbF.toNat).Low))
 true
 (cond ((n.Ties.get zbF.toNat).High != (1000000000000:Int))
 (cond (decide ((w64 ((zaa.get (((n.Ties.get zbF.toNat).To).toNat)) - (zaa.get (((n.Ties.get zbF.toNat).From).toNat)))) > (n.Ties.get zbF.toNat).High))
 true
 (P5 (w64 (zbF+(1:Int)))))
 (P5 (w64 (zbF+(1:Int))))))
 (cond ((n.Ties.get zbF.toNat).High != (1000000000000:Int))
 (cond (decide ((w64 ((zaa.get (((n.Ties.get zbF.toNat).To).toNat)) - (zaa.get (((n.Ties.get zbF.toNat).From).toNat)))) > (n.Ties.get zbF.toNat).High))
 true
 (P5 (w64 (zbF+(1:Int)))))
 (P5 (w64 (zbF+(1:Int)))))))))
 true)
def ziB (n:Net) (zaa:(Sl Int)):Nat->Int->Bool:=lpO (λ _=>default) (ziz n zaa)
def ziC (n:Net) (zaa:(Sl Int)):Nat->Int->Bool:=lpO (λ _=>false) (ziA n zaa)
def zzT (n:Net) (zaa:(Sl Int)) (zbF:Int):Bool:=ziB n zaa Fuel zbF
def zzU (n:Net) (zaa:(Sl Int)) (zbF:Int):Bool:=ziC n zaa Fuel zbF
theorem zGP (hs:zzU n zaa zbF=true) (hk:K (e48 (zzT n zaa zbF))):z48 K [1,1,1,0,1,0] [] (zDf n zaa zbF) :=
  zl (λ X=>z48 K [1,1,1,0,1,0,0] [X]) (by kernel_rfl) λ X5 hX =>
  (show ∀ k, zKm K n zaa X5 (ziC n zaa k) (ziB n zaa k) from zfg _ _ (ziA n zaa) (ziz n zaa) (zKm K n zaa X5)
 (by intro _ hs;exact absurd hs dqk)
 (by intro P5 S5 hX5 zbF hs hk;exact hX _ (zaZ (by kernel_rfl) (zc hs hk (λ hs hk=>(zaT hs λ hc hs=>And.intro hc (zaT hs λ hc hs=>And.intro hc (zaT hs λ hc hs=>And.intro hc (zc hs hk (λ hs hk=>(zc hs hk (λ hs hk=>hk) (λ hs hk=>(zc hs hk (λ hs hk=>(zc hs hk (λ hs hk=>hk) (λ hs hk=>(hX5 hs hk)))) (λ hs hk=>(hX5 hs hk)))))) (λ hs hk=>(zc hs hk (λ hs hk=>(zc hs hk (λ hs hk=>hk) (λ hs hk=>(hX5 hs hk)))) (λ hs hk=>(hX5 hs hk))))))))) (λ hs hk=>hk))))) _ hs hk
def zkL (n:Net) (zaa:(Sl Int)):Bool :=
  (zzT n zaa (0:Int))
def zmX (n:Net) (zaa:(Sl Int)):Bool :=
  (zzU n zaa (0:Int))
theorem zGQ (hs:zmX n zaa=true) (hk:K (e48 (zkL n zaa))):z48 K [1,1,1] [] ⟨[(1,zS enc_3 1 zaa),(2,zp 2 0)],[(2,.box 24 (zm (enc_24 n)))],[]⟩:=zaZ (by kernel_rfl) (zGP hs hk)
def zmY (S2:Int->Bool) (n:Net) (zaa:(Sl Int)) (zqA:Int) (zqB:Bool):Bool :=
  (cond zqB
 false
 (S2 (w64 (zqA+(1:Int)))))
def zmZ (P2:Int->Bool) (n:Net) (zaa:(Sl Int)) (zqA:Int) (zqB:Bool):Bool :=
  (cond zqB
 true
 (P2 (w64 (zqA+(1:Int)))))
theorem zGR (hX2:zGO K n zaa X2 P2 S2) (hs:zmZ P2 n zaa zqA zqB=true) (hk:K (e48 (zmY S2 n zaa zqA zqB))):z48 K [1,1,0,1,0,0,1,1,0,0,1,1] [X2] ⟨[(1,zS enc_3 1 zaa),(2,zp 2 0),(26,zS enc_3 1 zaa),(27,zI (zaa.len:Int)),(28,zI zqA),(34,zB zqB)],[(2,.box 24 (zm (enc_24 n)))],[]⟩:=zaZ (by kernel_rfl) (zc hs hk (λ hs hk=>hk) (λ hs hk=>(hX2 hs hk)))
def ze3 (n:Net) (zaa:(Sl Int)) (S2:Int->Bool) (zcR:Int):Bool :=
  (cond (decide (zcR < (zaa.len : Int)))
 (zmY S2 n zaa zcR (!(s81 (zaa.get zcR.toNat) (-1000000000000:Int) (1000000000000:Int))))
 (zkL n zaa))
def ze4 (n:Net) (zaa:(Sl Int)) (P2:Int->Bool) (zcR:Int):Bool :=
  (cond (decide (zcR < (zaa.len : Int)))
 (decide ((0<=zcR/\zcR < (zaa.len:Int))) &&
 (zmZ P2 n zaa zcR (!(s81 (zaa.get zcR.toNat) (-1000000000000:Int) (1000000000000:Int)))))
 (zmX n zaa))
def ze5 (n:Net) (zaa:(Sl Int)):Nat->Int->Bool:=lpO (λ _=>default) (ze3 n zaa)
def ze6 (n:Net) (zaa:(Sl Int)):Nat->Int->Bool:=lpO (λ _=>false) (ze4 n zaa)
def zm0 (n:Net) (zaa:(Sl Int)) (zcR:Int):Bool:=ze5 n zaa Fuel zcR
def zm1 (n:Net) (zaa:(Sl Int)) (zcR:Int):Bool:=ze6 n zaa Fuel zcR
theorem zGS (hs:zm1 n zaa zcR=true) (hk:K (e48 (zm0 n zaa zcR))):z48 K [1,1,0,1,0] [] (zDe n zaa zcR) :=
  zl (λ X=>z48 K [1,1,0,1,0,0] [X]) (by kernel_rfl) λ X2 hX =>
  (show ∀ k, zGO K n zaa X2 (ze6 n zaa k) (ze5 n zaa k) from zfg _ _ (ze4 n zaa) (ze3 n zaa) (zGO K n zaa X2)
 (by intro _ hs;exact absurd hs dqk)
 (by intro P2 S2 hX2 zcR hs hk;exact hX _ (zaZ (by kernel_rfl) (zc hs hk (λ hs hk=>(zaT hs λ hc hs=>And.intro hc (zGR hX2 hs hk))) (λ hs hk=>(zGQ hs hk)))))) _ hs hk
def zm2 (n:Net) (zaa:(Sl Int)):Bool :=
  (zm0 n zaa (0:Int))
def zm3 (n:Net) (zaa:(Sl Int)):Bool :=
  (zm1 n zaa (0:Int))
theorem zGT (hs:zm3 n zaa=true) (hk:K (e48 (zm2 n zaa))):z48 K [1,1] [] ⟨[(1,zS enc_3 1 zaa),(2,zp 2 0)],[(2,.box 24 (zm (enc_24 n)))],[]⟩:=zaZ (by kernel_rfl) (zGS hs hk)
def ziD (n:Net) (zaa:(Sl Int)) (zqz:Bool):Bool :=
  (cond zqz
 false
 (zm2 n zaa))
def ziE (n:Net) (zaa:(Sl Int)) (zqz:Bool):Bool :=
  (cond zqz
 true
 (zm3 n zaa))
theorem zqC (hs:ziE n zaa zqz=true) (hk:K (e48 (ziD n zaa zqz))):z48 K [1,0,1] [] ⟨[(1,zS enc_3 1 zaa),(2,zp 2 0),(25,zB zqz)],[(2,.box 24 (zm (enc_24 n)))],[]⟩:=zaZ (by kernel_rfl) (zc hs hk (λ hs hk=>hk) (λ hs hk=>(zGT hs hk)))
def s48 (n:Net) (zaa:(Sl Int)):Bool :=
  (cond (!(s67 n))
 (ziD n zaa true)
 (cond ((zaa.len : Int) != n.Nodes)
 (ziD n zaa true)
 (ziD n zaa ((zaa.get 0) != (0:Int)))))
def p48 (n:Net) (zaa:(Sl Int)):Bool :=
  (decide ((p67 n=true)) &&
 (cond (!(s67 n))
 (ziE n zaa true)
 (cond ((zaa.len : Int) != n.Nodes)
 (ziE n zaa true)
 (decide ((0<=(0:Int)/\(0:Int) < (zaa.len:Int))) &&
 (ziE n zaa ((zaa.get 0) != (0:Int)))))))
end
theorem q48 (n:Net) (zaa:(Sl Int)) (K:List PA->Prop) (hs:p48 n zaa=true) (hk:K (e48 (s48 n zaa))):vcFun Tryd.prog G48 zGN 48 [.agg (enc_24 n),.one (.sl zaa.len 1 (λ i=>enc_3 (zaa.get i)))] K :=
  zaZ (by kernel_rfl) (zaT hs λ hc hs=>And.intro (And.intro (zE enc_40 4 n.Ties.get) hc) (zc hs hk (λ hs hk=>(zqC hs hk)) (λ hs hk=>(zc hs hk (λ hs hk=>(zqC hs hk)) (λ hs hk=>(zaT hs λ hc hs=>And.intro hc (zqC hs hk)))))))
def zGU : List PA → COut
  | [.agg [.int .i64 zae,.sl zad zaz zac],.one (.sl zdb zgC zc8)]=>.det (IsE enc_40 4 zaz zac/\IsE enc_3 1 zgC zc8/\p48 (⟨zae,(⟨zad,zam zac⟩:(Sl Tie))⟩:Net) (⟨zdb,zav zc8⟩:(Sl Int))=true) [.one (.bool (s48 (⟨zae,(⟨zad,zam zac⟩:(Sl Tie))⟩:Net) (⟨zdb,zav zc8⟩:(Sl Int))))]
  | _=>.no
theorem zKn:zar Tryd.prog 48:=⟨_,rfl,rfl,by kernel_rfl⟩
theorem zOk:Ok Tryd.prog 48 zGU:=zbu zMz zKn λ args K h=>by
  unfold zGU at h
  split at h
  · rename_i zae zad zaz zac zdb zgC zc8
    obtain⟨⟨⟨rfl,zaq,rfl⟩,⟨rfl,ze1,rfl⟩,hs⟩,hk⟩:=h
    try rw[zak zaq] at hs
    try rw[zak zaq] at hk
    try rw[za8 ze1] at hs
    try rw[za8 ze1] at hk
    exact⟨(λ _ _=>[]),(λ _=>false),zGN,q48 (⟨zae,(⟨zad,zaq⟩:(Sl Tie))⟩:Net) (⟨zdb,ze1⟩:(Sl Int)) K hs hk⟩
  · exact h.elim
end Go.Proofs
namespace Go.Pm
section perm
variable {c:Nat->Nat->Int}
theorem zhQ (x : Nat) : ∀ l : List Nat, (zAv c x l).Perm (x :: l)
  | []=>.refl _
  | y :: r=>by
    unfold zAv
    split
    · exact .refl _
    · exact ((zhQ x r).cons y).trans (.swap _ _ _)
theorem zec (n:Nat):(zfU n c).Perm (List.range n):=by
 unfold zfU
 generalize List.range n=l
 induction l with
 | nil=>exact .refl _
 | cons x l ih=>exact (zhQ x _).trans (ih.cons x)
def leB (c:Nat->Nat->Int) (a b:Nat):Prop:=¬ c b a < 0
theorem zzV {n : Nat} (H : STO n c) {x : Nat} (hx : x < n) : ∀ {l : List Nat}, (∀ y ∈ l, y < n) → l.Pairwise (leB c) → (zAv c x l).Pairwise (leB c)
  | [],_,_=>by simp[zAv]
  | y :: r,hl,hp=>by
    have hy:=hl y dqj
    rw[List.pairwise_cons] at hp
    unfold zAv
    split
    · rename_i h
      have h:=of_decide_eq_true h
      rw[List.pairwise_cons]
      refine⟨λ z hz=>?_,List.pairwise_cons.2 hp⟩
      have hxy:leB c x y:=λ h2=>by
        have:=H.1 x hx
        have:=H.2.2 x y x hx hy hx h h2
        omega
      rcases dqq.1 hz with rfl | hz
      · exact hxy
      · intro h2
        exact hp.1 z hz (H.2.2 z x y (hl z (dqf _ hz)) hx hy h2 h)
    · rename_i h
      have h:=of_decide_eq_false h
      rw[List.pairwise_cons]
      refine⟨λ z hz=>?_,zzV H hx (λ z hz=>hl z (dqf _ hz)) hp.2⟩
      rcases dqq.1 ((zhQ x r).mem_iff.1 hz) with rfl | hz
      · exact h
      · exact hp.1 z hz
theorem zsR {n:Nat}(H:STO n c):(zfU n c).Pairwise (leB c):=by
 have key:∀ l:List Nat,(∀ y∈l,y < n)->(l.foldr (zAv c) []).Pairwise (leB c)/\∀ y∈l.foldr (zAv c) [],y < n:=by
  intro l
  induction l with
  | nil=>intro _;exact⟨List.Pairwise.nil,λ y hy=>by simp at hy⟩
  | cons x l ih =>
   intro h
   obtain⟨h1,h2⟩:=ih λ y hy=>h y (dqf _ hy)
   have hx:=h x dqj
   refine⟨zzV H hx h2 h1,λ y hy=>?_⟩
   rcases dqq.1 ((zhQ x _).mem_iff.1 hy) with rfl | hy
   ·exact hx
   ·exact h2 y hy
 exact (key _ λ y hy=>List.mem_range.1 hy).1
theorem ztI {n:Nat}(H:STO n c){l:List Nat}(hp:l.Perm (List.range n)) (hs:l.Pairwise (leB c)):l=zfU n c:=by
 refine List.Perm.eq_of_pairwise (le:=leB c) (λ a b ha hb h1 h2=>?_) hs (zsR H) (hp.trans (zec n).symm)
 have ha:=List.mem_range.1 (hp.mem_iff.1 ha)
 have hb:=List.mem_range.1 ((zec n).mem_iff.1 hb)
 by_cases e:a=b
 ·exact e
 ·rcases H.2.1 a b ha hb e with h | h
  ·exact absurd h.1 h2
  ·exact absurd h.1 h1
end perm
end Go.Pm
namespace Go.Pm
variable [DrawZ]
open Go.Shelf Go.RowKit Go.Lib Go.Sort Go.Proofs


theorem zzW {w w':World}(h1:w'.heap=w.heap) (h2:w'.tape=w.tape) (h3:w'.drawn=w.drawn) (h4:w'.os=w.os) (h5:w'.output=w.output):w'=w:=by
 cases w;cases w';simp_all
theorem zBX {w w':World}{h:Fz}(b : @Bel ⟨1⟩ h w.heap.size w w') (hi:∀ k F,h k ≠ some (.inv F)):∃ q os,w'=grow (w.drewN q) os:=by
 obtain⟨bos,btape,bout,bsize,bdrawn,bblock⟩:=b
 refine⟨w'.drawn - w.drawn,w'.heap.extract w.heap.size w'.heap.size,zzW ?_ btape ?_ bos bout⟩
 ·show w'.heap = w.heap ++ w'.heap.extract w.heap.size w'.heap.size
  apply Array.ext_getElem?
  intro i
  rw[Array.getElem?_append]
  split
  ·rename_i hl;exact bblock i hl (λ F=>hi i F)
  ·rename_i hl
   rw[Array.getElem?_extract]
   by_cases hlt:i < w'.heap.size
   ·rw[if_pos (by omega)];congr 1;omega
   ·rw[if_neg (by omega),Array.getElem?_eq_none (by omega)]
 ·show w'.drawn = w.drawn + (w'.drawn - w.drawn)
  have:w.drawn * 1<=w'.drawn * 1:=bdrawn
  omega

theorem zoD {w : World} {g q : Nat} {cur : Array Value} {e : TypeId} {fr : Nat × Nat} {off : Nat} (F : Array Value) (hb : w.heap[g]? = some (.cells cur e fr)) :
  ∃ cur',(putRow id (Sort.ahead w q) g off F).heap[g]? = some (.cells cur' e fr)/\cur'.size=cur.size:=by
 refine⟨putCells id off F cur,?_,by simp[putCells]⟩
 simp[putRow,mapBlock,Sort.ahead,Array.getElem?_modify,hb,onCells]
theorem zkM {w:World}{g q off:Nat}(F:Array Value){k:Nat}(hk:k ≠ g):(putRow id (Sort.ahead w q) g off F).heap[k]? = w.heap[k]?:=by
 simp[putRow,mapBlock,Sort.ahead,Array.getElem?_modify,Ne.symm hk]

theorem zzX {P:Program}{ρ:Ren}(L:SlLaysF0.n6 P ρ){e s b:Nat}(he:ρ.t 24=e) (hag:zeT P e=some true) (hsz:szT P e=some s) (hM : ¬ znr) (hc:zar P (ρ.f 6)):zlb P (ρ.f 6) (.sort e s b):=by
 intro w h base v n get gf caps cv ag C hC hcv hag' _ hpos ⟨xs,hown,hr⟩ hone hw hgl hob hbase hn hS hO
 rw[hag] at hag';simp only[dqa] at hag';subst hag'
 refine⟨hc,?_⟩
 have hni:∀ k F,h k ≠ some (.inv F):=λ k F hk=>by obtain⟨o,_,ho⟩:=hw k _ hk;exact hM ho.2
 have hdr:∀ (w':World) (k:Nat),w.drawn<=w.drawn+k:=λ _ k=>Nat.le_add_right _ _
 have none:∀ (p:Option Addr) (cap:Nat),n=0->v=.slice p 0 cap->Calls P (ρ.f 6) #[v,.func (.func gf) #[] cv.toArray] w λ r w'=>r=.returned (.tuple #[])/\zCf h w' base e s v n (zi5 n (ztT C caps true get) get)/\GrB w w' v.ownBlock:=by
  rintro p cap rfl rfl
  refine (AnyF.slices_SortFunc_none L p cap _ w).mono ?_
  rintro r w' ⟨rfl,rfl⟩
  exact⟨rfl,⟨xs,hown,λ i hi=>absurd hi (dqW i)⟩,⟨rfl,rfl,rfl,dqt _,λ _ _ _=>rfl⟩,dqt _⟩
 rcases hown.2 with ⟨h1,h2⟩ | ⟨blk,cap,cur,rfl,hb,hcell,hncap,hcap,hcs,htk⟩
 ·exact none _ _ h2 h1
 by_cases hn0:n=0
 ·subst hn0;exact none _ _ rfl rfl
 have:Inhabited (Fin n):=⟨⟨0,by omega⟩⟩
 let enc:Fin n->List Value:=λ i=>(xs.drop (i.val * s)).take s
 let c:=ztT C caps true get
 let cf:Fin n->Fin n->Int:=λ x y=>c x.val y.val
 let d:Array (Fin n):=Array.ofFn id
 have hds:d.size=n:=Array.size_ofFn
 have hdi:∀ i (hi:i < n),d[i]! = ⟨i,hi⟩:=λ i hi=>by
  rw[getElem!_pos d i (by rw[hds];exact hi)];simp[d]
 have hlt:blk < w.heap.size:=(dqp.1 hcell).1
 have hbn:h blk=Option.none:=hob blk rfl
 have hmul:∀ i,i < n->i * s+s<=n * s:=λ i hi=>by have:=dqw s (Nat.succ_le_of_lt hi);rw[dqV] at this;exact this
 have hk:∀ x,(enc x).length=s:=λ x=>by
  have:=hmul x.val x.isLt
  simp only[enc,List.length_take,List.length_drop,hown.1];omega
 have hcur:∀ j,j < n * s->cur[j]? = xs[j]?:=λ j hj=>by
  have:(cur.toList.take (n * s))[j]? = xs[j]?:=by rw[htk]
  rw[dqs,if_pos hj] at this;simpa using this
 have hxl:∀ j,j < n * s->∃ u,xs[j]? = some u:=λ j hj=>⟨xs[j]'(by rw[hown.1];exact hj),dqD _⟩
 have h1:∀ x,∀ u∈enc x,u.oneCell'=true:=λ x u hu=>by
  obtain⟨j,hj⟩:=List.getElem?_of_mem hu
  obtain⟨p,_,hp⟩:=(hr x.val x.isLt).get' j u hj
  exact hp.one
 have hflat:∀ j (hj:j < n * s),(flatK enc s d)[j]! = xs[j]'(by rw[hown.1];exact hj):=λ j hj=>by
  have hq:j / s < n:=Nat.div_lt_of_lt_mul (by rw[Nat.mul_comm];exact hj)
  rw[get_flatK _ _ _ _ (by rw[hds];exact hj),hdi _ hq]
  have hm:=Nat.mod_lt j hpos
  have hdm:=Nat.div_add_mod j s
  rw[getElem!_pos _ _ (by rw[hk];exact hm)]
  simp only[enc,List.getElem_take,List.getElem_drop]
  congr 1
  rw[Nat.mul_comm];exact hdm
 have hH:HoldsK enc s w blk 0 d:=λ j hj=>by
  have hj:j < n * s:=by rw[size_flatK,hds] at hj;exact hj
  refine⟨?_,frozen_of_row w blk _ cur e hcell⟩
  rw[hflat j hj,cell_of hcell,Nat.zero_add,hcur j hj]
  exact dqD _
 have eg:∀ args w,(callFunc gf args).run P w=.ok (.enter gf args) w:=by
  have hcg:zar P gf:=by
   have hs0:=hS 0 0 (by omega) (by omega)
   unfold zHP at hs0
   split at hs0
   ·rename_i s0 c0 hat
    have hwp:(C (elP true (get 0) :: elP true (get 0) :: caps.map .one)).wp (λ _=>True):=by
     unfold zAu at hat
     split at hat
     ·rename_i e1;rw[e1];trivial
     ·rename_i e1;simp only[dqa,dqh] at hat;rw[e1];exact⟨by rw[hat.1];exact hs0,trivial⟩
     ·cases hat
    exact (hC _ _ hwp w h (.agg (enc ⟨0,by omega⟩).toArray :: .agg (enc ⟨0,by omega⟩).toArray :: cv) ⟨⟨_,rfl,hr 0 (by omega)⟩,⟨_,rfl,hr 0 (by omega)⟩,RL.map_left.2 hcv⟩ hw hgl).1
   ·exact hs0.elim
  exact λ args w=>zbI hcg
 have hcmp:CmpLays P gf cv.toArray enc s cf blk 0 d.size w:=by
  intro m os dk hdk x y
  have hs0:=hS x.val y.val x.isLt y.isLt
  unfold zHP at hs0
  split at hs0
  ·rename_i s0 c0 hat
   have hwp:(C (elP true (get x.val) :: elP true (get y.val) :: caps.map .one)).wp (λ rs=>rs=[.one (.int .i64 (cf x y))]):=by
    have hcv:cf x y=c0:=by show ztT C caps true get x.val y.val=c0;unfold ztT;rw[hat]
    rw[hcv]
    unfold zAu at hat
    split at hat
    ·rename_i e1;simp only[dqa,dqh] at hat;rw[e1,hat.2];rfl
    ·rename_i e1;simp only[dqa,dqh] at hat;rw[e1,hat.2];exact⟨by rw[hat.1];exact hs0,rfl⟩
    ·cases hat
   have hwh:Hw h (sortWorldK enc s w blk 0 m dk os):=hw.same λ k o hk=>by
    have hkb:k ≠ blk:=λ e=>by rw[e,hbn] at hk;cases hk
    have hkl:=hw.lt hk
    show ((putRow id (Sort.ahead w m) blk 0 (flatK enc s dk)).heap ++ os)[k]? = _
    rw[Array.getElem?_append_left (by simpa [putRow,mapBlock,Sort.ahead] using hkl)]
    exact zkM _ hkb
   obtain⟨_,hrun⟩:=hC _ _ hwp (sortWorldK enc s w blk 0 m dk os) h (.agg (enc x).toArray :: .agg (enc y).toArray :: cv) ⟨⟨_,rfl,hr x.val x.isLt⟩,⟨_,rfl,hr y.val y.isLt⟩,RL.map_left.2 hcv⟩ hwh hgl
   rw[show (#[Value.agg (enc x).toArray,.agg (enc y).toArray] ++ cv.toArray)=(Value.agg (enc x).toArray :: .agg (enc y).toArray :: cv).toArray by simp]
   refine hrun.mono ?_
   rintro e' w' ⟨h',rs,v',hrs,rfl,hres,hbel,_,_,_⟩
   subst hrs
   have hv':v'=.int .i64 (cf x y):=by
    have:Rep h' (.int .i64 (cf x y)) v':=hres
    cases this;rfl
   subst hv'
   exact⟨rfl,zBX hbel hni⟩
  ·exact hs0.elim
 have hSWO:SWO (ltOf cf):=by
  refine⟨λ x=>?_,λ x y z hxy hyz=>?_,λ x y z hxy hyz=>?_⟩
  ·have : 0 ≤ c x.val x.val := hO.1 x.val x.isLt
   simp only[ltOf,decide_eq_false_iff_not];show ¬ c x.val x.val < 0;omega
  ·simp only [ltOf, decide_eq_true_eq] at hxy hyz ⊢
   exact hO.2.2 _ _ _ x.isLt y.isLt z.isLt hxy hyz
  ·simp only [ltOf, decide_eq_false_iff_not] at hxy hyz ⊢
   intro hxz
   have hxy : ¬ c x.val y.val < 0:=hxy
   have hyz : ¬ c y.val z.val < 0:=hyz
   have hxz:c x.val z.val < 0:=hxz
   by_cases e1:y.val=z.val
   ·rw[e1] at hxy;exact hxy hxz
   ·by_cases e2 : x.val = y.val
    ·rw[e2] at hxz;exact hyz hxz
    ·have a1 : c z.val y.val < 0 := by rcases hO.2.1 y.val z.val y.isLt z.isLt e1 with h | h; exact absurd h.1 hyz; exact h.1
     exact hxy (hO.2.2 _ _ _ x.isLt z.isLt y.isLt hxz a1)
 have aE:∀ w,(isAgg (ρ.t 24)).run P w=.ok true w:=λ w=>by rw[he];exact zei hag
 have zE:∀ w,(Go.sizeOf (ρ.t 24)).run P w=.ok s w:=λ w=>by rw[he];exact run_sizeOf hsz
 have hrun:=AnyQ.slices_SortFunc L s aE zE enc hk h1 cf hSWO gf cv.toArray blk 0 cap d w eg hcmp hH hlt (by rw[hds];omega)
 rw[hds] at hrun
 refine hrun.mono ?_
 rintro r w' ⟨rfl,d',m,os,hperm,hsort,rfl⟩
 obtain⟨hps,_,hpp⟩:=hperm
 have hd's:d'.size=n:=by rw[hps,hds]
 have hall:∀ (z:Array (Fin n)),z.size=n->z.extract 0 n=z:=λ z hz=>Array.ext (by simp[hz]) (λ i h1 h2=>by simp)
 rw[hall d' hd's,hall d hds] at hpp
 have hl:d'.toList.map Fin.val=zfU n c:=by
  refine ztI hO ?_ ?_
  ·refine (hpp.map Fin.val).trans ?_
   have:d.toList.map Fin.val=List.range n:=by
    apply List.ext_getElem?
    intro i
    simp only[d,dqH]
    by_cases hi:i < n
    ·simp[hi]
    ·rw[dqM (by simp;omega),dqM (by simp;omega)];rfl
   rw[this]
  ·rw [List.pairwise_map, List.pairwise_iff_getElem]
   intro i j hi hj hij
   have hi':i < n:=by simpa [hd's] using hi
   have hj':j < n:=by simpa [hd's] using hj
   have:=hsort i j (Nat.zero_le _) hij hj'
   rw[getElem!_pos d' j (by omega),getElem!_pos d' i (by omega)] at this
   simp only[ltOf,decide_eq_false_iff_not] at this
   exact this
 have hget:∀ i (hi:i < n),zi5 n c get i=get (d'[i]'(by omega)).val:=λ i hi=>by
  unfold zi5
  rw[<- hl]
  congr 1
  rw[List.getD_eq_getElem?_getD,dqH]
  simp[hd's,hi]
 obtain⟨cur',hcell',hsz'⟩:=zoD (q:=m) (off:=0) (flatK enc s d') hcell
 have hgrow:(sortWorldK enc s w blk 0 m d' os).heap[blk]? = some (.cells cur' e (0,0)):=by
  show ((putRow id (Sort.ahead w m) blk 0 (flatK enc s d')).heap ++ os)[blk]? = _
  rw[Array.getElem?_append_left (by simpa [putRow,mapBlock,Sort.ahead] using hlt)]
  exact hcell'
 have hH':HoldsK enc s (sortWorldK enc s w blk 0 m d' os) blk 0 d':=holdsK_sortWorldK_c enc s w blk 0 d d' m os hH hlt (by rw[hd's,hds])
 have hcur':∀ j (hj:j < n * s),cur'[j]? = some ((flatK enc s d')[j]!):=λ j hj=>by
  have:=(hH' j (by rw[size_flatK,hd's];exact hj)).1
  rw[cell_of hgrow,Nat.zero_add] at this
  exact this
 refine⟨rfl,⟨cur'.toList.take (n * s),⟨by rw[List.length_take,Array.length_toList,hsz',hcs];exact Nat.min_eq_left (dqw s hncap),.inr ⟨blk,cap,cur',rfl,hb,hgrow,hncap,hcap,by rw[hsz',hcs],rfl⟩⟩,λ i hi=>?_⟩,?_⟩
 ·have e1:((cur'.toList.take (n * s)).drop (i * s)).take s=enc (d'[i]'(by omega)):=by
   apply List.ext_getElem?
   intro j
   have hm:=hmul i hi
   rw[dqs]
   split
   ·rename_i hj
    rw[dqI,dqs,if_pos (by omega),Array.getElem?_toList,hcur' _ (by omega)]
    have hdiv:(i * s+j) / s=i:=by rw[Nat.mul_comm,Nat.mul_add_div hpos,Nat.div_eq_of_lt hj,Nat.add_zero]
    have hmod:(i * s+j) % s=j:=by rw[Nat.mul_comm,Nat.mul_add_mod,Nat.mod_eq_of_lt hj]
    rw[get_flatK _ _ _ _ (by rw[hd's];omega),hdiv,hmod,getElem!_pos d' i (by omega),getElem!_pos _ _ (by rw[hk];exact hj)]
    exact (dqD _).symm
   ·rename_i hj
    rw[dqM (by rw[hk];omega)]
  rw[e1,hget i hi]
  exact hr _ (d'[i]'(by omega)).isLt
 ·refine ⟨⟨rfl, rfl, rfl, ?_, fun k hk hne => ?_⟩, zlq (Nat.le_add_right _ _)⟩
  ·show w.heap.size ≤ ((putRow id (Sort.ahead w m) blk 0 (flatK enc s d')).heap ++ os).size
   simp[putRow,mapBlock,Sort.ahead]
  ·show ((putRow id (Sort.ahead w m) blk 0 (flatK enc s d')).heap ++ os)[k]? = _
   rw[Array.getElem?_append_left (by simpa [putRow,mapBlock,Sort.ahead] using hk)]
   exact zkM _ λ e=>hne (by rw[e];rfl)
end Go.Pm
namespace Go.Proofs
open Go.Shelf
def Tryd.laysS98_ren:Go.Shelf.Ren:=⟨fun | 6=>98 | 15=>113 | 14=>112 | 28=>127 | 29=>128 | 20=>119 | 21=>120 | 22=>121 | 23=>122 | 24=>123 | 25=>124 | 26=>125 | 27=>126 | 46=>131 | 47=>132 | 48=>133 | 49=>134 | 50=>135 | 57=>145 | n=>n,fun | 22=>22 | 24=>40 | 25=>149 | 3=>3 | 39=>168 | 0=>0 | 53=>182 | 55=>184 | 4=>4 | 46=>175 | 45=>174 | 50=>179 | 5=>5 | 9=>9 | 66=>187 | 70=>191 | 76=>199 | 77=>200 | n=>n,fun | n=>n⟩
theorem Tryd.laysS98 : Go.Proofs.SlLaysF0.n6 Tryd.prog Tryd.laysS98_ren := {
  mixed:=by kernel_rfl
  f6:=⟨Tryd.f98.name,by decide,Tryd.func98.trans (congrArg some (by kernel_rfl))⟩
  f14:=⟨Tryd.f112.name,by decide,Tryd.func112.trans (congrArg some (by kernel_rfl))⟩
  f15:=Tryd.func113.trans (congrArg some (by kernel_rfl))
  f20:=⟨Tryd.f119.name,by decide,Tryd.func119.trans (congrArg some (by kernel_rfl))⟩
  f21:=⟨Tryd.f120.name,by decide,Tryd.func120.trans (congrArg some (by kernel_rfl))⟩
  f22:=⟨Tryd.f121.name,by decide,Tryd.func121.trans (congrArg some (by kernel_rfl))⟩
  f23:=⟨Tryd.f122.name,by decide,Tryd.func122.trans (congrArg some (by kernel_rfl))⟩
  f24:=⟨Tryd.f123.name,by decide,Tryd.func123.trans (congrArg some (by kernel_rfl))⟩
  f25:=⟨Tryd.f124.name,by decide,Tryd.func124.trans (congrArg some (by kernel_rfl))⟩
  f26:=⟨Tryd.f125.name,by decide,Tryd.func125.trans (congrArg some (by kernel_rfl))⟩
  f27:=⟨Tryd.f126.name,by decide,Tryd.func126.trans (congrArg some (by kernel_rfl))⟩
  f28:=Tryd.func127.trans (congrArg some (by kernel_rfl))
  f29:=Tryd.func128.trans (congrArg some (by kernel_rfl))
  f46:=⟨Tryd.f131.name,by decide,Tryd.func131.trans (congrArg some (by kernel_rfl))⟩
  f47:=Tryd.func132.trans (congrArg some (by kernel_rfl))
  f48:=Tryd.func133.trans (congrArg some (by kernel_rfl))
  f49:=⟨Tryd.f134.name,by decide,Tryd.func134.trans (congrArg some (by kernel_rfl))⟩
  f50:=⟨Tryd.f135.name,by decide,Tryd.func135.trans (congrArg some (by kernel_rfl))⟩
  f57:=⟨Tryd.f145.name,by decide,Tryd.func145.trans (congrArg some (by kernel_rfl))⟩
  t0:=Tryd.underlying0
  a0:=Tryd.isAgg0
  z0:=Tryd.sizeOf0
  v0:=Tryd.zeroValue0
  t3:=Tryd.underlying3
  a3:=Tryd.isAgg3
  z3:=Tryd.sizeOf3
  v3:=Tryd.zeroValue3
  t4:=Tryd.underlying4
  a4:=Tryd.isAgg4
  z4:=Tryd.sizeOf4
  v4:=Tryd.zeroValue4
  t5:=Tryd.underlying5
  a5:=Tryd.isAgg5
  z5:=Tryd.sizeOf5
  v5:=Tryd.zeroValue5
  t9:=Tryd.underlying9
  a9:=Tryd.isAgg9
  z9:=Tryd.sizeOf9
  v9:=Tryd.zeroValue9
  t22:=Tryd.underlying22
  a22:=Tryd.isAgg22
  z22:=Tryd.sizeOf22
  v22:=Tryd.zeroValue22
  t25:=Tryd.underlying149
  a25:=Tryd.isAgg149
  z25:=Tryd.sizeOf149
  v25:=Tryd.zeroValue149
  t39:=Tryd.underlying168
  a39:=Tryd.isAgg168
  z39:=Tryd.sizeOf168
  v39:=Tryd.zeroValue168
  t45:=Tryd.underlying174
  a45:=Tryd.isAgg174
  z45:=Tryd.sizeOf174
  v45:=Tryd.zeroValue174
  t46:=Tryd.underlying175
  a46:=Tryd.isAgg175
  z46:=Tryd.sizeOf175
  v46:=Tryd.zeroValue175
  t50:=Tryd.underlying179
  a50:=Tryd.isAgg179
  z50:=Tryd.sizeOf179
  v50:=Tryd.zeroValue179
  t53:=Tryd.underlying182
  a53:=Tryd.isAgg182
  z53:=Tryd.sizeOf182
  v53:=Tryd.zeroValue182
  t55:=Tryd.underlying184
  a55:=Tryd.isAgg184
  z55:=Tryd.sizeOf184
  v55:=Tryd.zeroValue184
  t66:=Tryd.underlying187
  a66:=Tryd.isAgg187
  z66:=Tryd.sizeOf187
  v66:=Tryd.zeroValue187
  t70:=Tryd.underlying191
  a70:=Tryd.isAgg191
  z70:=Tryd.sizeOf191
  v70:=Tryd.zeroValue191
  t76:=Tryd.underlying199
  a76:=Tryd.isAgg199
  z76:=Tryd.sizeOf199
  v76:=Tryd.zeroValue199
  t77:=Tryd.underlying200
  a77:=Tryd.isAgg200
  z77:=Tryd.sizeOf200
  v77:=Tryd.zeroValue200 }
end Go.Proofs
namespace Go.Proofs
open Go Go.Pm
set_option maxRecDepth 100000
set_option linter.unusedVariables false
attribute [local irreducible] Go.Pm.vcFun Go.Pm.vc Go.Pm.vcIter
abbrev zKo:OwnK:=.sort 40 4 32
theorem zOl:zlb Tryd.prog 98 zKo:=zzX Tryd.laysS98 rfl rfl rfl (λ h=>h) ⟨_,rfl,rfl,by kernel_rfl⟩
section
variable [DrawZ]
abbrev T99:Tabs:=((Tabs.nil.addF 100 zso).addF 101 zom)
theorem zMA:TabsOk Tryd.prog T99:=((TabsOk.nil.addF zI6).addF zEw)
abbrev G99:Ctrs:=csm T99 (λ _ _=>[]) (λ _=>false)
def zKp:Ann:=⟨17,[(0,zK [2,3] [2,3]),(1,zK [4] [])],
 [],
 [],
 [],[]⟩
abbrev R99:=Int
abbrev e99 (r:R99):List PA:=[.one (.int .i64 r)]
section
variable {K:List PA->Prop}{a:Tie}{b:Tie}
def s99 (a:Tie) (b:Tie):Int :=
  (zHT (⟨2,zav (zbB [(enc_3 (znp a.From b.From)),(enc_3 (znp a.To b.To))])⟩:(Sl Int)))
def p99 (a:Tie) (b:Tie):Bool :=
  (decide ((zI5 (⟨2,zav (zbB [(enc_3 (znp a.From b.From)),(enc_3 (znp a.To b.To))])⟩:(Sl Int))=true)) &&
 true)
end
theorem q99 (a:Tie) (b:Tie) (K:List PA->Prop) (hs:p99 a b=true) (hk:K (e99 (s99 a b))):vcFun Tryd.prog G99 zKp 99 [.agg (enc_40 a),.agg (enc_40 b)] K :=
  zaZ (by kernel_rfl) (zaT hs λ hc hs=>And.intro (And.intro ((zd0 []):IsE enc_3 1 1 (zbB [(enc_3 (znp a.From b.From)),(enc_3 (znp a.To b.To))])) hc) hk)
def zzY : List PA → COut
  | [.agg [.int .i64 zdl,.int .i64 zh8,.int .i64 zfh,.int .i64 zdm],.agg [.int .i64 zcX,.int .i64 zgY,.int .i64 zeo,.int .i64 zcY]]=>.det (p99 (⟨zdl,zh8,zfh,zdm⟩:Tie) (⟨zcX,zgY,zeo,zcY⟩:Tie)=true) [.one (.int .i64 (s99 (⟨zdl,zh8,zfh,zdm⟩:Tie) (⟨zcX,zgY,zeo,zcY⟩:Tie)))]
  | _=>.no
theorem zKq:zar Tryd.prog 99:=⟨_,rfl,rfl,by kernel_rfl⟩
theorem zOm:Ok Tryd.prog 99 zzY:=zbu zMA zKq λ args K h=>by
  unfold zzY at h
  split at h
  · rename_i zdl zh8 zfh zdm zcX zgY zeo zcY
    obtain⟨hs,hk⟩:=h
    exact⟨(λ _ _=>[]),(λ _=>false),zKp,q99 (⟨zdl,zh8,zfh,zdm⟩:Tie) (⟨zcX,zgY,zeo,zcY⟩:Tie) K hs hk⟩
  · exact h.elim
end

def zeq (F:List Int->Option (List Int)):List (List Int):=((List.range 40).flatMap λ (a:Nat)=>(List.range 40).map λ (b:Nat)=>[(a:Int),(b:Int)]).filter λ y=>(F y).isSome
section srt
variable {α:Type}{c0:α->α->Int}{p0:α->α->Bool}
def IsL (m:Nat) (g:Nat->α) (L:List α):Prop:=m=L.length/\∀ k (h:k < L.length),g k=L[k]
def SyL (c0:α->α->Int) (x y:α):Prop:=(c0 x y < 0/\0<=c0 y x)\/(c0 y x < 0/\0<=c0 x y)
structure SoL (c0 : α → α → Int) (p0 : α → α → Bool) (L : List α) : Prop where
  rfl':∀ x∈L,0<=c0 x x
  pw:L.Pairwise (SyL c0)
  tr:∀ x∈L,∀ y∈L,∀ z∈L,c0 x y < 0->c0 y z < 0->c0 x z < 0
  sf:∀ x∈L,∀ y∈L,p0 x y=true
theorem SyL.symm {x y:α}(h:SyL c0 x y):SyL c0 y x:=Or.symm h
theorem SoL.perm {L M:List α}(h:SoL c0 p0 L) (hp:L.Perm M):SoL c0 p0 M :=
  ⟨λ x hx=>h.rfl' x (hp.mem_iff.2 hx),(hp.pairwise_iff (λ h=>SyL.symm h)).1 h.pw,λ x hx y hy z hz=>h.tr x (hp.mem_iff.2 hx) y (hp.mem_iff.2 hy) z (hp.mem_iff.2 hz),λ x hx y hy=>h.sf x (hp.mem_iff.2 hx) y (hp.mem_iff.2 hy)⟩
theorem zKr {m:Nat}{g:Nat->α}{L:List α}(hg:IsL m g L) (h:sortB m (λ i j=>p0 (g i) (g j)) (λ i j=>c0 (g i) (g j))=true):SoL c0 p0 L:=by
  obtain⟨h1,h2,h3,h4⟩:=zrJ (s:=λ i j=>p0 (g i) (g j)=true) h (λ i j h=>h) rfl
  obtain⟨e,eg⟩:=hg
  have at_:∀ x∈L,∃ i,i < m/\g i=x:=λ x hx=>by
    obtain⟨i,hi,rfl⟩:=List.getElem_of_mem hx
    exact⟨i,by omega,eg i hi⟩
  refine⟨λ x hx=>?_,List.pairwise_iff_getElem.2 λ i j hi hj hij=>?_,λ x hx y hy z hz=>?_,λ x hx y hy=>?_⟩
  · obtain⟨i,hi,rfl⟩:=at_ x hx;exact h2 i hi
  · have := h3 i j (by omega) (by omega) (by omega)
    simp only[eg i hi,eg j hj] at this
    exact this
  · obtain ⟨i, hi, rfl⟩ := at_ x hx; obtain ⟨j, hj, rfl⟩ := at_ y hy; obtain ⟨k, hk, rfl⟩ := at_ z hz
    exact h4 i j k hi hj hk
  · obtain ⟨i, hi, rfl⟩ := at_ x hx; obtain ⟨j, hj, rfl⟩ := at_ y hy
    exact h1 i j hi hj
theorem zDg {m:Nat}{g:Nat->α}{L:List α}(hg:IsL m g L) (h:SoL c0 p0 L):STO m (λ i j=>c0 (g i) (g j)):=by
  obtain⟨e,eg⟩:=hg
  have mm:∀ i,i < m->g i∈L:=λ i hi=>by rw[eg i (by omega)];exact List.getElem_mem _
  refine⟨λ i hi=>h.rfl' _ (mm i hi),λ i j hi hj hne=>?_,λ i j k hi hj hk=>h.tr _ (mm i hi) _ (mm j hj) _ (mm k hk)⟩
  have pw:=List.pairwise_iff_getElem.1 h.pw
  simp only[eg i (by omega),eg j (by omega)]
  rcases Nat.lt_or_gt_of_ne hne with hl | hl
  · exact pw i j (by omega) (by omega) hl
  · exact SyL.symm (pw j i (by omega) (by omega) hl)
theorem zsS {m:Nat}{g:Nat->α}{L:List α}(hg:IsL m g L) (h:SoL c0 p0 L):sortB m (λ i j=>p0 (g i) (g j)) (λ i j=>c0 (g i) (g j))=true:=by
  have hs:=zDg hg h
  obtain⟨e,eg⟩:=hg
  have mm:∀ i,i < m->g i∈L:=λ i hi=>by rw[eg i (by omega)];exact List.getElem_mem _
  simp only[sortB,List.all_eq_true,List.mem_range,dqm,Bool.or_eq_true,decide_eq_true_eq,Bool.not_eq_true',Bool.and_eq_false_iff,decide_eq_false_iff_not]
  refine λ i hi=>⟨hs.1 i hi,λ j hj=>⟨⟨h.sf _ (mm i hi) _ (mm j hj),?_⟩,λ k hk=>?_⟩⟩
  · by_cases e : i = j
    · subst e;exact .inl (.inl (Nat.beq_refl _))
    · rcases hs.2.1 i j hi hj e with h | h
      · exact .inl (.inr h)
      · exact .inr h
  · by_cases h1 : c0 (g i) (g j) < 0
    · by_cases h2 : c0 (g j) (g k) < 0
      · exact .inr (hs.2.2 i j k hi hj hk h1 h2)
      · exact .inl (.inr h2)
    · exact .inl (.inl h1)
theorem zhR {m:Nat}{g:Nat->α}{L:List α}(hg:IsL m g L) (h:SoL c0 p0 L):((zfU m (λ i j=>c0 (g i) (g j))).map g).Perm L/\((zfU m (λ i j=>c0 (g i) (g j))).map g).Pairwise λ a b=>¬ c0 b a < 0:=by
  have hs:=zDg hg h
  constructor
  · have hp := (zec (c := fun i j => c0 (g i) (g j)) m).map g
    refine hp.trans (List.Perm.of_eq ?_)
    obtain⟨e,eg⟩:=hg
    refine List.ext_getElem (by simp[e]) λ k h1 h2=>?_
    rw[List.getElem_map,List.getElem_range]
    exact eg k h2
  · rw [List.pairwise_map]
    exact zsR hs
theorem zKs {m:Nat}{g g':Nat->α}{L M:List α}(hg:IsL m g L) (hg':IsL m g' M) (hp:L.Perm M) (h:SoL c0 p0 L) (hm:0 < m):zi5 m (λ i j=>c0 (g i) (g j)) g=zi5 m (λ i j=>c0 (g' i) (g' j)) g':=by
  obtain⟨p1,w1⟩:=zhR hg h
  obtain⟨p2,w2⟩:=zhR hg' (h.perm hp)
  have e:(zfU m (λ i j=>c0 (g i) (g j))).map g=(zfU m (λ i j=>c0 (g' i) (g' j))).map g':=by
    refine List.Perm.eq_of_pairwise (le:=λ a b=>¬ c0 b a < 0) (λ a b ha hb h1 h2=>?_) w1 w2 ((p1.trans hp).trans p2.symm)
    have ha:=p1.mem_iff.1 ha
    have hb:=hp.mem_iff.2 (p2.mem_iff.1 hb)
    obtain⟨i,hi,rfl⟩:=List.getElem_of_mem ha
    obtain⟨j,hj,rfl⟩:=List.getElem_of_mem hb
    by_cases hij:i=j
    · subst hij;rfl
    · have pw := List.pairwise_iff_getElem.1 h.pw
      rcases Nat.lt_or_gt_of_ne hij with hl | hl
      · rcases pw i j hi hj hl with h | h
        · exact absurd h.1 h2
        · exact absurd h.1 h1
      · rcases pw j i hj hi hl with h | h
        · exact absurd h.1 h1
        · exact absurd h.1 h2
  have l1:(zfU m (λ i j=>c0 (g i) (g j))).length=m:=by rw[(zec m).length_eq,List.length_range]
  have l2:(zfU m (λ i j=>c0 (g' i) (g' j))).length=m:=by rw[(zec m).length_eq,List.length_range]
  have get:∀ (g:Nat->α) (l:List Nat),l.length=m->∀ i,g (l.getD i (l.getD 0 0))=(l.map g)[if i < m then i else 0]?.getD (g 0):=λ g l hl i=>by
    by_cases hi:i < m
    · rw[if_pos hi,dqH,List.getD_eq_getElem?_getD,dqD (by omega)];rfl
    · rw[if_neg hi,dqH,List.getD_eq_getElem?_getD,dqM (by omega),List.getD_eq_getElem?_getD,dqD (by omega)];rfl
  funext i
  show g _=g' _
  rw[get g _ l1,get g' _ l2,e]
  have:(if i < m then i else 0) < ((zfU m (λ i j=>c0 (g' i) (g' j))).map g').length:=by rw[List.length_map,l2];split <;> omega
  rw[dqD this]
  rfl
end srt
abbrev T64:Tabs:=(((Tabs.nil.addF 67 zpz).addO 98 zKo).addC 99 zzY)
theorem zMB:TabsOk Tryd.prog T64:=(((TabsOk.nil.addF zIO).addO zOl).addC (@zOm ⟨1⟩))
abbrev G64:Ctrs:=csm T64 (λ _ _=>[]) (λ l=>Nat.beq l 19)
def zcE:Ann:=⟨107,[(0,zK [1,2] [1,2]),(1,zK [1,2,17] [1,2]),(2,zK [2,3] [2]),(3,zK [1,2,4] [1,2,19]),(4,zK [1,2,4,21,22,23] [1,2,19]),(5,zK [1,2,4,21,22,23,24] [1,2,19]),(6,zK [1,2,4,6,21,22,23] [1,2,6,19]),(7,zK [1,2,4,6,7,8,9,21,22,23] [1,2,6,7,19]),(8,zK [1,2,4,6,7,8,9,21,22,23,40] [1,2,6,7,19]),(9,zK [1,2,4,7,8,9,21,22,23] [1,2,7,19]),(10,zK [1,2,4,7,8,9,10,11,21,22,23] [1,2,7,10,19]),(11,zK [1,2,4,7,8,9,10,21,22,23,59] [1,2,7,10,19]),(12,zK [1,2,4,7,8,9,10,21,22,23] [1,2,7,10,19]),(13,zK [1,2,4,21,22,23] [1,2,19]),(14,zK [1,2,4,21,22,23] [1,2,19]),(15,⟨[2,4,12],[2,12],[],[],[],[],[(4,2,λ _=>zbE default)]⟩),(16,zK [2,12,77] [2,12,77]),(17,zK [2,12,77,79] [2,12,77,5000]),(18,zK [2,12,13,14,77] [2,12,13,14,77,5000]),(19,zK [2,12,13,14,77,87] [2,12,13,14,77,5000]),(20,zK [2,3] [2]),(21,zK [2,12,77] [2,12,77,5000]),(22,zK [2,12] [2,12,5000]),(23,zK [2,3] [2,5000])],
 [(5,zK [1,2,4,21,22,23] [1,2,19]),(17,⟨[2,12,77],[2,12,77,5000],[],[(12,1,5000,40,λ _=>enc_40 default)],[],[],[]⟩)],
 [(2,zK [1,2,17] [1,2]),(3,zK [1,2] [1,2]),(10,zK [1,2,4,7,8,9,21,22,23] [1,2,7,19]),(15,zK [1,2,4] [1,2,19]),(13,zK [1,2,4,7,8,9,10,21,22,23] [1,2,7,10,19]),(23,zK [2,12] [2,12,5000]),(21,zK [2,12,13,14,77] [2,12,13,14,77,5000])],
 [],[]⟩
def zKt (n:Net) (zg1:Bool):St:=⟨[(1,.one (.c (.ptr 1 0))),(2,.one (.c (.ptr 2 0))),(17,.one (.c (.p (.bool zg1))))],[(1,.box 24 [.p (.int .i64 n.Nodes),.p (.sl n.Ties.len 4 (λ i=>enc_40 (n.Ties.get i)))]),(2,.box 24 [.p (.int .i64 (0:Int)),.p (.nils)])],[]⟩
def zm4 (K:List PA->Prop) (n:Net) (zg1:Bool):Prop:=vc Tryd.prog G64 zcE (cdF Tryd.f64 [1,0,1]) (sqK Tryd.prog G64 zcE (cdF Tryd.f64 [1,1]) (zeW Tryd.prog Tryd.f64 K)) (zKt n zg1)
def zKu (n:Net):St:=⟨[(1,.one (.c (.ptr 1 0))),(2,.one (.c (.ptr 2 0)))],[(1,.box 24 [.p (.int .i64 n.Nodes),.p (.sl n.Ties.len 4 (λ i=>enc_40 (n.Ties.get i)))]),(2,.box 24 [.p (.int .i64 (0:Int)),.p (.nils)])],[]⟩
def zm5 (K:List PA->Prop) (n:Net):Prop:=vc Tryd.prog G64 zcE (cdF Tryd.f64 [1,1]) (zeW Tryd.prog Tryd.f64 K) (zKu n)
def zhS (n:Net) (zaS:Int) (zaM:Nat) (zaN:(List Int->Option (List Int))):St:=⟨[(1,.one (.c (.ptr 1 0))),(2,.one (.c (.ptr 2 0))),(4,.one (.c (.mo 19))),(21,.one (.c (.p (.sl n.Ties.len 4 (λ i=>enc_40 (n.Ties.get i)))))),(22,.one (.c (.p (.int .i64 (n.Ties.len:Int))))),(23,.one (.c (.p (.int .i64 zaS))))],[(1,.box 24 [.p (.int .i64 n.Nodes),.p (.sl n.Ties.len 4 (λ i=>enc_40 (n.Ties.get i)))]),(2,.box 24 [.p (.int .i64 (0:Int)),.p (.nils)]),(19,.mo 145 43 (true,2,true,[some .i64,some .i64]) zaM zaN)],[]⟩
def zkN (K:List PA->Prop) (n:Net) (zaS:Int) (zaM:Nat) (zaN:(List Int->Option (List Int))):Prop:=vc Tryd.prog G64 zcE (cdF Tryd.f64 [1,1,1,0,1,0]) (zcu 0 (sqK Tryd.prog G64 zcE (cdF Tryd.f64 [1,1,1,1]) (zeW Tryd.prog Tryd.f64 K))) (zhS n zaS zaM zaN)
def zKv (n:Net) (zca:Int) (zbx:Int) (zfi:Int) (zbL:Int) (zbM:Int) (zcb:Nat) (zbt:(List Int->Option (List Int))):St:=⟨[(1,.one (.c (.ptr 1 0))),(2,.one (.c (.ptr 2 0))),(4,.one (.c (.mo 19))),(7,.one (.c (.ptr 7 0))),(8,.one (.c (.p (.int .i64 zca)))),(9,.one (.c (.p (.int .i64 zbx)))),(21,.one (.c (.p (.sl n.Ties.len 4 (λ i=>enc_40 (n.Ties.get i)))))),(22,.one (.c (.p (.int .i64 (n.Ties.len:Int))))),(23,.one (.c (.p (.int .i64 zfi))))],[(1,.box 24 [.p (.int .i64 n.Nodes),.p (.sl n.Ties.len 4 (λ i=>enc_40 (n.Ties.get i)))]),(2,.box 24 [.p (.int .i64 (0:Int)),.p (.nils)]),(7,.box 145 [.p (.int .i64 zbL),.p (.int .i64 zbM)]),(19,.mo 145 43 (true,2,true,[some .i64,some .i64]) zcb zbt)],[]⟩
def zkO (K:List PA->Prop) (X2:St->Prop) (n:Net) (zca:Int) (zbx:Int) (zfi:Int) (zbL:Int) (zbM:Int) (zcb:Nat) (zbt:(List Int->Option (List Int))):Prop:=vc Tryd.prog G64 zcE (cdF Tryd.f64 [1,1,1,0,1,0,0,1,1,0,0,1,1,1]) (zcu 1 (sqK Tryd.prog G64 zcE (cdF Tryd.f64 [1,1,1,0,1,0,0,1,1,1]) (zhV Tryd.prog zcE 5 X2 (zcu 0 (sqK Tryd.prog G64 zcE (cdF Tryd.f64 [1,1,1,1]) (zeW Tryd.prog Tryd.f64 K)))))) (zKv n zca zbx zfi zbL zbM zcb zbt)
def zKw (n:Net) (zaw:Nat) (zao:(List Int->Option (List Int))):St:=⟨[(1,.one (.c (.ptr 1 0))),(2,.one (.c (.ptr 2 0))),(4,.one (.c (.mo 19)))],[(1,.box 24 [.p (.int .i64 n.Nodes),.p (.sl n.Ties.len 4 (λ i=>enc_40 (n.Ties.get i)))]),(2,.box 24 [.p (.int .i64 (0:Int)),.p (.nils)]),(19,.mo 145 43 (true,2,true,[some .i64,some .i64]) zaw zao)],[]⟩
def zm6 (K:List PA->Prop) (n:Net) (zaw:Nat) (zao:(List Int->Option (List Int))):Prop:=vc Tryd.prog G64 zcE (cdF Tryd.f64 [1,1,1,1]) (zeW Tryd.prog Tryd.f64 K) (zKw n zaw zao)
def zKx (n:Net) (zca:Int) (zbx:Int) (zbL:Int) (zbM:Int) (zgD:Int) (zfj:Int) (zfk:Int) (zcM:Nat) (zcc:(List Int->Option (List Int))):St:=⟨[(1,.one (.c (.ptr 1 0))),(2,.one (.c (.ptr 2 0))),(4,.one (.c (.mo 19))),(7,.one (.c (.ptr 7 0))),(8,.one (.c (.p (.int .i64 zca)))),(9,.one (.c (.p (.int .i64 zbx)))),(10,.one (.c (.ptr 10 0))),(21,.one (.c (.p (.sl n.Ties.len 4 (λ i=>enc_40 (n.Ties.get i)))))),(22,.one (.c (.p (.int .i64 (n.Ties.len:Int))))),(23,.one (.c (.p (.int .i64 zgD))))],[(1,.box 24 [.p (.int .i64 n.Nodes),.p (.sl n.Ties.len 4 (λ i=>enc_40 (n.Ties.get i)))]),(2,.box 24 [.p (.int .i64 (0:Int)),.p (.nils)]),(7,.box 145 [.p (.int .i64 zbL),.p (.int .i64 zbM)]),(10,.box 43 [.p (.int .i64 zfj),.p (.int .i64 zfk)]),(19,.mo 145 43 (true,2,true,[some .i64,some .i64]) zcM zcc)],[]⟩
def zkP (K:List PA->Prop) (X2:St->Prop) (n:Net) (zca:Int) (zbx:Int) (zbL:Int) (zbM:Int) (zgD:Int) (zfj:Int) (zfk:Int) (zcM:Nat) (zcc:(List Int->Option (List Int))):Prop:=vc Tryd.prog G64 zcE (cdF Tryd.f64 [1,1,1,0,1,0,0,1,1,0,0,1,1,1,1,1]) (zcu 1 (sqK Tryd.prog G64 zcE (cdF Tryd.f64 [1,1,1,0,1,0,0,1,1,1]) (zhV Tryd.prog zcE 5 X2 (zcu 0 (sqK Tryd.prog G64 zcE (cdF Tryd.f64 [1,1,1,1]) (zeW Tryd.prog Tryd.f64 K)))))) (zKx n zca zbx zbL zbM zgD zfj zfk zcM zcc)
def zi2 (n:Net) (zaw:Nat) (zao:(List Int->Option (List Int))) (zaR:(List (List Int))) (zdJ:Nat) (zbf:Nat->List PV):St:=⟨[(2,.one (.c (.ptr 2 0))),(12,.one (.c (.ptr 12 0))),(77,.one (.c (.ptr 77 0)))],[(2,.box 24 [.p (.int .i64 (0:Int)),.p (.nils)]),(12,.box 24 [.p (.int .i64 n.Nodes),.vec 5000]),(77,.mit (true,2,true,[some .i64,some .i64]) zaw zao zaR),(5000,.vec 40 4 32 zdJ zbf)],[]⟩
def zkQ (K:List PA->Prop) (n:Net) (zaw:Nat) (zao:(List Int->Option (List Int))) (zaR:(List (List Int))) (zdJ:Nat) (zbf:Nat->List PV):Prop:=vc Tryd.prog G64 zcE (cdF Tryd.f64 [1,1,1,1,1,0,1,0]) (zcu 2 (sqK Tryd.prog G64 zcE (cdF Tryd.f64 [1,1,1,1,1,1]) (zeW Tryd.prog Tryd.f64 K))) (zi2 n zaw zao zaR zdJ zbf)
def zKz (n:Net) (zkR:Nat) (zfl:Nat->List PV):St:=⟨[(2,.one (.c (.ptr 2 0))),(12,.one (.c (.ptr 12 0)))],[(2,.box 24 [.p (.int .i64 (0:Int)),.p (.nils)]),(12,.box 24 [.p (.int .i64 n.Nodes),.vec 5000]),(5000,.vec 40 4 32 zkR zfl)],[]⟩
def zm7 (K:List PA->Prop) (n:Net) (zkR:Nat) (zfl:Nat->List PV):Prop:=vc Tryd.prog G64 zcE (cdF Tryd.f64 [1,1,1,1,1,1,1]) (zeW Tryd.prog Tryd.f64 K) (zKz n zkR zfl)
def zKA (n:Net) (zaw:Nat) (zao:(List Int->Option (List Int))) (zaR:(List (List Int))) (k77_0:Int) (k77_1:Int) (zkS:Nat) (zfm:Nat->List PV):St:=⟨[(2,.one (.c (.ptr 2 0))),(12,.one (.c (.ptr 12 0))),(13,.one (.c (.ptr 13 0))),(14,.one (.c (.ptr 14 0))),(77,.one (.c (.ptr 77 0)))],[(2,.box 24 [.p (.int .i64 (0:Int)),.p (.nils)]),(12,.box 24 [.p (.int .i64 n.Nodes),.vec 5000]),(13,.box 145 [.p (.int .i64 k77_0),.p (.int .i64 k77_1)]),(14,.box 43 [.p (.int .i64 (zdU (zao [k77_0,k77_1]) 0)),.p (.int .i64 (zdU (zao [k77_0,k77_1]) 1))]),(77,.mit (true,2,true,[some .i64,some .i64]) zaw zao ([k77_0,k77_1] :: zaR)),(5000,.vec 40 4 32 zkS zfm)],[]⟩
def zm8 (K:List PA->Prop) (X6:St->Prop) (n:Net) (zaw:Nat) (zao:(List Int->Option (List Int))) (zaR:(List (List Int))) (k77_0:Int) (k77_1:Int) (zkS:Nat) (zfm:Nat->List PV):Prop:=vc Tryd.prog G64 zcE (cdF Tryd.f64 [1,1,1,1,1,0,1,0,0,1,1,0,1,1]) (zcu 3 (zhV Tryd.prog zcE 17 X6 (zcu 2 (sqK Tryd.prog G64 zcE (cdF Tryd.f64 [1,1,1,1,1,1]) (zeW Tryd.prog Tryd.f64 K))))) (zKA n zaw zao zaR k77_0 k77_1 zkS zfm)
theorem zGV (n : Net) (K : List PA → Prop) :
  vcFun Tryd.prog G64 zcE 64 [.agg [.int .i64 n.Nodes,.sl n.Ties.len 4 (λ i=>enc_40 (n.Ties.get i))]] K =
  ((IsE enc_40 4 4 (λ i=>enc_40 (n.Ties.get i))/\(p67 n=true)) /\
 (zm4 K n (!(s67 n)))):=by kernel_rfl
theorem zGW (K : List PA → Prop) (n : Net) (zg1 : Bool) :
  zm4 K n zg1 =
  (zc1 zg1
 (K [.agg [.int .i64 (0:Int),.nils],.one (.int .i64 (2:Int))])
 (zm5 K n)):=by kernel_rfl
theorem zGX (K : List PA → Prop) (n : Net) :
  zm5 K n =
  (zkN K n (0:Int) 0 (λ _=>none)):=by kernel_rfl
def zoE (K:List PA->Prop) (X2:St->Prop) (n:Net) (zaS:Int) (zaM:Nat) (zaN:(List Int->Option (List Int))):Prop :=
  (zc1 (decide (zaS < (n.Ties.len : Int)))
 (((0<=zaS/\zaS < (n.Ties.len:Int))) /\
 (zc1 (decide ((n.Ties.get zaS.toNat).From > (n.Ties.get zaS.toNat).To))
 (zkO K X2 n (w64 (0 - (n.Ties.get zaS.toNat).High)) (w64 (0 - (n.Ties.get zaS.toNat).Low)) zaS ((n.Ties.get zaS.toNat).To) ((n.Ties.get zaS.toNat).From) zaM zaN)
 (zkO K X2 n ((n.Ties.get zaS.toNat).Low) ((n.Ties.get zaS.toNat).High) zaS ((n.Ties.get zaS.toNat).From) ((n.Ties.get zaS.toNat).To) zaM zaN)))
 (zm6 K n zaM zaN))
theorem zqD (K : List PA → Prop) (X2 : St → Prop) (n : Net) (zaS : Int) (zaM : Nat) (zaN : (List Int → Option (List Int))) :
  vc Tryd.prog G64 zcE (cd (cdF Tryd.f64 [1,1,1,0,1,0]) [0]) (zhV Tryd.prog zcE 5 X2 (zcu 0 (sqK Tryd.prog G64 zcE (cdF Tryd.f64 [1,1,1,1]) (zeW Tryd.prog Tryd.f64 K)))) (zhS n zaS zaM zaN) =
  zoE K X2 n zaS zaM zaN:=by kernel_rfl
theorem zzZ (K : List PA → Prop) (n : Net) (zaS : Int) (zaM : Nat) (zaN : (List Int → Option (List Int)))
  (h:∀ X2:St->Prop,(∀ (zaS:Int) (zaM:Nat) (zaN:(List Int->Option (List Int))),zoE K X2 n zaS zaM zaN->X2 (zhS n zaS zaM zaN))->X2 (zhS n zaS zaM zaN)) :
  zkN K n zaS zaM zaN:=by
  have e:zkN K n zaS zaM zaN=(∀ X:St->Prop,(∀ s,vc Tryd.prog G64 zcE (cd (cdF Tryd.f64 [1,1,1,0,1,0]) [0]) (zhV Tryd.prog zcE 5 X (zcu 0 (sqK Tryd.prog G64 zcE (cdF Tryd.f64 [1,1,1,1]) (zeW Tryd.prog Tryd.f64 K)))) s->X s)->X (zhS n zaS zaM zaN)):=by kernel_rfl
  refine zaZ e ?_
  intro X hX
  refine h X ?_
  intro zaS zaM zaN hs
  refine hX _ ?_
  have e2:=zqD K X n zaS zaM zaN
  rw[e2]
  exact hs
theorem zGY (K : List PA → Prop) (X2 : St → Prop) (n : Net) (zca : Int) (zbx : Int) (zfi : Int) (zbL : Int) (zbM : Int) (zcb : Nat) (zbt : (List Int → Option (List Int))) :
  zkO K X2 n zca zbx zfi zbL zbM zcb zbt =
  (zc1 (!(zbt [zbL, zbM]).isSome)
 (zkP K X2 n zca zbx zbL zbM zfi (-1000000000000:Int) (1000000000000:Int) zcb zbt)
 (zkP K X2 n zca zbx zbL zbM zfi (zdU (zbt [zbL,zbM]) 0) (zdU (zbt [zbL,zbM]) 1) zcb zbt)):=by kernel_rfl
theorem zGZ (K : List PA → Prop) (n : Net) (zaw : Nat) (zao : (List Int → Option (List Int))) :
  zm6 K n zaw zao =
  (zkQ K n zaw zao ([]) 0 (λ i=>enc_40 ((λ _=>default) i))):=by kernel_rfl
theorem zG0 (K : List PA → Prop) (X2 : St → Prop) (n : Net) (zca : Int) (zbx : Int) (zbL : Int) (zbM : Int) (zgD : Int) (zfj : Int) (zfk : Int) (zcM : Nat) (zcc : (List Int → Option (List Int))) :
  zkP K X2 n zca zbx zbL zbM zgD zfj zfk zcM zcc =
  (X2 (zhS n (w64 (zgD+(1:Int))) (addN (zcc [zbL,zbM]) zcM) (zc5 [zbL,zbM] [(if zca > zfj then zca else zfj),(if zbx < zfk then zbx else zfk)] zcc))):=by kernel_rfl
def zoF (K:List PA->Prop) (X6:St->Prop) (n:Net) (zaw:Nat) (zao:(List Int->Option (List Int))) (zaR:(List (List Int))) (zax:(Sl Tie)):Prop :=
  (zH4 2 zaw zao ->
 ((∀ c:List Int,c.length=2->zao c ≠ none->c∈zaR) ->
 (((zax.len<=4611686018427387)/\((∀ i j,i < zax.len->j < zax.len->zHP (zzY) [] true (λ i=>enc_40 (zax.get i)) i j)/\STO zax.len (ztT (zzY) [] true (λ i=>enc_40 (zax.get i))))) /\
 (zm7 K n zax.len (λ i=>enc_40 ((zi5 zax.len (λ i j=>(s99 (zax.get i) (zax.get j))) zax.get) i)))))/\∀ k77_0 k77_1:Int,zao [k77_0,k77_1] ≠ none->[k77_0,k77_1] ∉ zaR ->
 (zc1 (decide ((zdU (zao [k77_0, k77_1]) 0) > (zdU (zao [k77_0, k77_1]) 1)))
 (K [.agg [.int .i64 (0:Int),.nils],.one (.int .i64 (5:Int))])
 (zm8 K X6 n zaw zao zaR k77_0 k77_1 zax.len (λ i=>enc_40 (zax.get i)))))
theorem zqE (K : List PA → Prop) (X6 : St → Prop) (n : Net) (zaw : Nat) (zao : (List Int → Option (List Int))) (zaR : (List (List Int))) (zax : (Sl Tie)) :
  vc Tryd.prog G64 zcE (cd (cdF Tryd.f64 [1,1,1,1,1,0,1,0]) [0]) (zhV Tryd.prog zcE 17 X6 (zcu 2 (sqK Tryd.prog G64 zcE (cdF Tryd.f64 [1,1,1,1,1,1]) (zeW Tryd.prog Tryd.f64 K)))) (zi2 n zaw zao zaR zax.len (λ i=>enc_40 (zax.get i))) =
  zoF K X6 n zaw zao zaR zax:=by kernel_rfl
theorem zz0 (K : List PA → Prop) (n : Net) (zaw : Nat) (zao : (List Int → Option (List Int))) (zaR : (List (List Int))) (zdJ : Nat) (zbf : Nat → List PV)
  (h:∀ X6:St->Prop,(∀ (zaR:(List (List Int))) (zax:(Sl Tie)),zoF K X6 n zaw zao zaR zax->X6 (zi2 n zaw zao zaR zax.len (λ i=>enc_40 (zax.get i))))->X6 (zi2 n zaw zao zaR zdJ zbf)) :
  zkQ K n zaw zao zaR zdJ zbf:=by
  have e:zkQ K n zaw zao zaR zdJ zbf=(∀ X:St->Prop,(∀ s,vc Tryd.prog G64 zcE (cd (cdF Tryd.f64 [1,1,1,1,1,0,1,0]) [0]) (zhV Tryd.prog zcE 17 X (zcu 2 (sqK Tryd.prog G64 zcE (cdF Tryd.f64 [1,1,1,1,1,1]) (zeW Tryd.prog Tryd.f64 K)))) s->X s)->X (zi2 n zaw zao zaR zdJ zbf)):=by kernel_rfl
  refine zaZ e ?_
  intro X hX
  refine h X ?_
  intro zaR zax hs
  refine hX _ ?_
  have e2:=zqE K X n zaw zao zaR zax
  rw[e2]
  exact hs
theorem zG1 (K : List PA → Prop) (n : Net) (zer : (Sl Tie)) :
  zm7 K n zer.len (λ i=>enc_40 (zer.get i)) =
  (K [.agg [.int .i64 n.Nodes,.sl zer.len 4 (λ i=>enc_40 (zer.get i))],.one (.int .i64 (0:Int))]):=by kernel_rfl
theorem zG2 (K : List PA → Prop) (X6 : St → Prop) (n : Net) (zaw : Nat) (zao : (List Int → Option (List Int))) (zaR : (List (List Int))) (k77_0 : Int) (k77_1 : Int) (zbA : (Sl Tie)) :
  zm8 K X6 n zaw zao zaR k77_0 k77_1 zbA.len (λ i=>enc_40 (zbA.get i)) =
  ((((zbA.len+1) * 32<=140737488355328/\zbA.len+1<=9223372036854775807)) /\
 (X6 (zi2 n zaw zao ([k77_0,k77_1] :: zaR) (zbA.len+1) (appG zbA.len (λ i=>enc_40 (zbA.get i)) (λ _=>(enc_40 (⟨k77_0,k77_1,(zdU (zao [k77_0,k77_1]) 0),(zdU (zao [k77_0,k77_1]) 1)⟩:Tie))))))):=by kernel_rfl
abbrev e64 (r:(Net×Int)):List PA:=[.agg [.int .i64 r.1.Nodes,.sl r.1.Ties.len 4 (λ i=>enc_40 (r.1.Ties.get i))],.one (.int .i64 r.2)]
attribute [irreducible] zm4 zm5 zkN zkO zm6 zkP zkQ zm7 zm8
def zkT (S6:(Sl Tie)->(Net×Int)) (n:Net) (zaw:Nat) (zao:(List Int->Option (List Int))) (k77_0:Int) (k77_1:Int) (zbA:(Sl Tie)):(Net×Int) :=
  (S6 (⟨(zbA.len+1),(zgB zbA.len zbA.get (λ _=>(⟨k77_0,k77_1,(zdU (zao [k77_0,k77_1]) 0),(zdU (zao [k77_0,k77_1]) 1)⟩:Tie)))⟩:Sl Tie))
def zkU (P6:(Sl Tie)->Bool) (n:Net) (zaw:Nat) (zao:(List Int->Option (List Int))) (k77_0:Int) (k77_1:Int) (zbA:(Sl Tie)):Bool :=
  (decide (((zbA.len+1) * 32<=140737488355328/\zbA.len+1<=9223372036854775807)) &&
 (P6 (⟨(zbA.len+1),(zgB zbA.len zbA.get (λ _=>(⟨k77_0,k77_1,(zdU (zao [k77_0,k77_1]) 0),(zdU (zao [k77_0,k77_1]) 1)⟩:Tie)))⟩:Sl Tie)))
theorem zG3 (K : List PA → Prop) (n : Net) (zaw : Nat) (zao : (List Int → Option (List Int))) (zaR : (List (List Int))) (k77_0 : Int) (k77_1 : Int)
  (X6:St->Prop) (P6:(Sl Tie)->Bool) (S6:(Sl Tie)->(Net×Int))
  (hX6:∀ (zax:(Sl Tie)) (zbf:Nat->List PV) (zda:zbf=λ i=>enc_40 (zax.get i)),P6 zax=true->K (e64 (S6 zax))->X6 (zi2 n zaw zao ([k77_0,k77_1] :: zaR) zax.len zbf)) (zbA:(Sl Tie)) (zfm:Nat->List PV) (zz1:zfm=λ i=>enc_40 (zbA.get i)) (hs:zkU P6 n zaw zao k77_0 k77_1 zbA=true) (hk:K (e64 (zkT S6 n zaw zao k77_0 k77_1 zbA))):zm8 (Wk K) X6 n zaw zao zaR k77_0 k77_1 zbA.len zfm:=by
  subst zz1
  refine zaZ (zG2 (Wk K) X6 n zaw zao zaR k77_0 k77_1 zbA) ?_
  unfold zkU at hs
  unfold zkT at hk
  exact (zaT hs λ hc hs=>⟨hc,(hX6 (⟨(zbA.len+1),(zgB zbA.len zbA.get (λ _=>(⟨k77_0,k77_1,(zdU (zao [k77_0,k77_1]) 0),(zdU (zao [k77_0,k77_1]) 1)⟩:Tie)))⟩:Sl Tie) (appG zbA.len (λ i=>enc_40 (zbA.get i)) (λ _=>(enc_40 (⟨k77_0,k77_1,(zdU (zao [k77_0,k77_1]) 0),(zdU (zao [k77_0,k77_1]) 1)⟩:Tie)))) (zko (enc:=enc_40) (f:=zbA.get) (h:=(λ _=>(⟨k77_0,k77_1,(zdU (zao [k77_0,k77_1]) 0),(zdU (zao [k77_0,k77_1]) 1)⟩:Tie))) rfl rfl) hs hk)⟩)
def zm9 (n:Net) (zer:(Sl Tie)):(Net×Int) :=
  ((⟨n.Nodes,zer⟩:Net),(0:Int))
theorem zG4 (K:List PA->Prop) (n:Net) (zer:(Sl Tie)) (zfl:Nat->List PV) (zz2:zfl=λ i=>enc_40 (zer.get i)) (hk:K (e64 (zm9 n zer))):zm7 (Wk K) n zer.len zfl:=by
  subst zz2
  refine zaZ (zG1 (Wk K) n zer) ?_
  unfold zm9 at hk
  exact (zeK hk)
def zg2 (n:Net) (zaw:Nat) (zao:(List Int->Option (List Int))) (zax:(Sl Tie)):(Net×Int) :=
  (zm9 n (⟨zax.len,(zi5 zax.len (λ i j=>(s99 (zax.get i) (zax.get j))) zax.get)⟩:Sl Tie))
def zg3 (n:Net) (zaw:Nat) (zao:(List Int->Option (List Int))) (zax:(Sl Tie)):Bool :=
  (decide ((zax.len<=4611686018427387)/\(sortB zax.len (λ i j=>decide (p99 (zax.get i) (zax.get j)=true)) (λ i j=>(s99 (zax.get i) (zax.get j)))=true)) &&
 true)
def zg4 (n:Net) (zaw:Nat) (zao:(List Int->Option (List Int))) (k77_0:Int) (k77_1:Int) (S6:(Sl Tie)->(Net×Int)) (zax:(Sl Tie)):(Net×Int) :=
  (cond (decide ((zdU (zao [k77_0, k77_1]) 0) > (zdU (zao [k77_0, k77_1]) 1)))
 ((⟨(0:Int),(⟨0,λ _=>default⟩:(Sl Tie))⟩:Net),(5:Int))
 (zkT S6 n zaw zao k77_0 k77_1 zax))
def zgk (n:Net) (zaw:Nat) (zao:(List Int->Option (List Int))) (k77_0:Int) (k77_1:Int) (P6:(Sl Tie)->Bool) (zax:(Sl Tie)):Bool :=
  (cond (decide ((zdU (zao [k77_0, k77_1]) 0) > (zdU (zao [k77_0, k77_1]) 1)))
 true
 (zkU P6 n zaw zao k77_0 k77_1 zax))
def zes (n : Net) (zaw : Nat) (zao : (List Int → Option (List Int))) : List (List Int) → (Sl Tie) → (Net × Int)
  | []=>zg2 n zaw zao
  | y :: r=>zg4 n zaw zao (y.getD 0 0) (y.getD 1 0) (zes n zaw zao r)
def zdQ (n : Net) (zaw : Nat) (zao : (List Int → Option (List Int))) : List (List Int) → (Sl Tie) → Bool
  | []=>zg3 n zaw zao
  | y :: r=>λ zax=>decide (zax.len+r.length+1<=2000000) && zgk n zaw zao (y.getD 0 0) (y.getD 1 0) (zdQ n zaw zao r) zax
def zg5 (n:Net) (N:Nat) (F:List Int->Option (List Int)) (ys:List (List Int)):Bool:=true
theorem zG5 (n:Net) (N:Nat) (F:List Int->Option (List Int)):∀ (y:List Int) (r:List (List Int)),zg5 n N F (y :: r)=true->zg5 n N F r=true:=λ _ _ _=>rfl
def zkV (F:List Int->Option (List Int)) (y:List Int):Bool:=decide ((zdU (F [y.getD 0 0,y.getD 1 0]) 0) > (zdU (F [y.getD 0 0,y.getD 1 0]) 1))
def zg6 (F:List Int->Option (List Int)) (y:List Int):Tie:=⟨y.getD 0 0,y.getD 1 0,(zdU (F [y.getD 0 0,y.getD 1 0]) 0),(zdU (F [y.getD 0 0,y.getD 1 0]) 1)⟩
def ztQ (F : List Int → Option (List Int)) : List (List Int) → Sl Tie → Sl Tie
  | [],v=>v
  | y :: r,v=>ztQ F r ⟨v.len+1,zgB v.len v.get (λ _=>zg6 F y)⟩
def zBY:Net×Int:=((⟨(0:Int),(⟨0,λ _=>default⟩:(Sl Tie))⟩:Net),(5:Int))
section ord6
variable (n:Net) (N:Nat) (F:List Int->Option (List Int))
theorem zjn : ∀ (ys : List (List Int)) (v : Sl Tie), (∃ y ∈ ys, zkV F y = true) → v.len + ys.length ≤ 2000000 → zdQ n N F ys v = true ∧ zes n N F ys v = zBY
  | [],v,⟨y,hy,_⟩,_=>by cases hy
  | y :: r,v,hb,hl=>by
    have hl:v.len+(r.length+1)<=2000000:=hl
    show (decide (v.len+r.length+1<=2000000) && zgk n N F (y.getD 0 0) (y.getD 1 0) (zdQ n N F r) v)=true/\zg4 n N F (y.getD 0 0) (y.getD 1 0) (zes n N F r) v=zBY
    have ih:=zjn r ⟨v.len+1,zgB v.len v.get (λ _=>zg6 F y)⟩
    rw[decide_eq_true (show v.len+r.length+1<=2000000 by omega),Bool.true_and]
    unfold zgk zg4 zkU zkT
    rw[show decide ((zdU (F [y.getD 0 0,y.getD 1 0]) 0) > (zdU (F [y.getD 0 0,y.getD 1 0]) 1))=zkV F y from rfl]
    cases hy:zkV F y
    · obtain ⟨z, hz, hzb⟩ := hb
      have hz:z∈r:=by
        rcases dqq.1 hz with rfl | hz
        · rw[hy] at hzb;cases hzb
        · exact hz
      obtain⟨i1,i2⟩:=ih ⟨z,hz,hzb⟩ (by show v.len+1+r.length<=2000000;omega)
      rw[decide_eq_true (show (v.len+1) * 32<=140737488355328/\v.len+1<=9223372036854775807 by omega)]
      exact⟨i1,i2⟩
    · exact⟨rfl,rfl⟩
theorem zhT : ∀ (ys : List (List Int)) (v : Sl Tie), (∀ y ∈ ys, zkV F y = false) → v.len + ys.length ≤ 2000000 → zdQ n N F ys v = zg3 n N F (ztQ F ys v) ∧ zes n N F ys v = zg2 n N F (ztQ F ys v)
  | [],v,_,_=>⟨rfl,rfl⟩
  | y :: r,v,hb,hl=>by
    have hl:v.len+(r.length+1)<=2000000:=hl
    show (decide (v.len+r.length+1<=2000000) && zgk n N F (y.getD 0 0) (y.getD 1 0) (zdQ n N F r) v)=zg3 n N F (ztQ F (y :: r) v)/\zg4 n N F (y.getD 0 0) (y.getD 1 0) (zes n N F r) v=zg2 n N F (ztQ F (y :: r) v)
    obtain⟨i1,i2⟩:=zhT r ⟨v.len+1,zgB v.len v.get (λ _=>zg6 F y)⟩ (λ z hz=>hb z (dqf _ hz)) (by show v.len+1+r.length<=2000000;omega)
    rw[decide_eq_true (show v.len+r.length+1<=2000000 by omega),Bool.true_and]
    unfold zgk zg4 zkU zkT
    rw[show decide ((zdU (F [y.getD 0 0,y.getD 1 0]) 0) > (zdU (F [y.getD 0 0,y.getD 1 0]) 1))=zkV F y from rfl,hb y dqj,decide_eq_true (show (v.len+1) * 32<=140737488355328/\v.len+1<=9223372036854775807 by omega)]
    exact⟨i1,i2⟩
theorem zna : ∀ (ys : List (List Int)) (v : Sl Tie) (L : List Tie), IsL v.len v.get L → IsL (ztQ F ys v).len (ztQ F ys v).get (L ++ ys.map (zg6 F))
  | [],v,L,h=>by rw[List.map_nil,List.append_nil];exact h
  | y :: r,v,L,⟨h1,h2⟩=>by
    rw[dqK,List.append_cons]
    refine zna r ⟨v.len+1,zgB v.len v.get (λ _=>zg6 F y)⟩ (L ++ [zg6 F y]) ⟨by show v.len+1=_;simp[h1],λ k hk=>?_⟩
    show (match Nat.ble v.len k with | true=>zg6 F y | false=>v.get k)=_
    rw[dqu,List.length_singleton] at hk
    by_cases hq:k < L.length
    · rw [show Nat.ble v.len k = false from Bool.eq_false_iff.2 fun e => by have := Nat.le_of_ble_eq_true e; omega, List.getElem_append_left hq]
      exact h2 k hq
    · rw [show Nat.ble v.len k = true from Nat.ble_eq_true_of_le (by omega), List.getElem_append_right (by omega)]
      simp
theorem zG6 (ys zs : List (List Int)) (_hl : ∀ y ∈ ys, y.length = 2) (_h : zg5 n N F ys = true) (hp : ys.Perm zs) :
    zg5 n N F zs=true/\∀ v:Sl Tie,zdQ n N F ys v=true->zdQ n N F zs v=true/\zes n N F ys v=zes n N F zs v:=by
  refine⟨rfl,λ v hs=>?_⟩
  match ys,hs with
  | [],hs =>
    have:zs=[]:=hp.symm.eq_nil
    subst this;exact⟨hs,rfl⟩
  | y :: r,hs =>
    have hg:v.len+(y :: r).length<=2000000:=by
      have hs:(decide (v.len+r.length+1<=2000000) && zgk n N F (y.getD 0 0) (y.getD 1 0) (zdQ n N F r) v)=true:=hs
      have:=of_decide_eq_true (Bool.and_eq_true_iff.1 hs).1
      show v.len+(r.length+1)<=2000000
      omega
    have hg':v.len+zs.length<=2000000:=by rw[<- hp.length_eq];exact hg
    have hne:0 < (y :: r).length:=Nat.succ_pos _
    generalize y :: r=ys at hp hs hg hne
    by_cases hb:∃ z∈ys,zkV F z=true
    · obtain ⟨z, hz, hzb⟩ := hb
      obtain⟨a1,a2⟩:=zjn n N F zs v ⟨z,hp.mem_iff.1 hz,hzb⟩ hg'
      exact⟨a1,by rw[a2,(zjn n N F ys v ⟨z,hz,hzb⟩ hg).2]⟩
    · have hb : ∀ z ∈ ys, zkV F z = false := fun z hz => Bool.eq_false_iff.2 fun e => hb ⟨z, hz, e⟩
      obtain⟨a1,a2⟩:=zhT n N F ys v hb hg
      obtain⟨b1,b2⟩:=zhT n N F zs v (λ z hz=>hb z (hp.mem_iff.2 hz)) hg'
      rw[a1] at hs
      rw[a2,b1,b2]
      have hL:IsL v.len v.get ((List.range v.len).map v.get):=⟨by simp,λ k hk=>by simp⟩
      have i1:=zna F ys v _ hL
      have i2:=zna F zs v _ hL
      have hpp:((List.range v.len).map v.get ++ ys.map (zg6 F)).Perm ((List.range v.len).map v.get ++ zs.map (zg6 F)):=(List.Perm.refl _).append (hp.map _)
      have el:(ztQ F zs v).len=(ztQ F ys v).len:=by rw[i1.1,i2.1,hpp.length_eq]
      generalize ztQ F ys v=a at i1 el hs ⊢
      generalize ztQ F zs v=b at i2 el ⊢
      obtain⟨am,ag⟩:=a
      obtain⟨bm,bg⟩:=b
      have el:bm=am:=el
      subst el
      unfold zg3 at hs ⊢
      unfold zg2
      rw[Bool.and_true] at hs ⊢
      have hs:=of_decide_eq_true hs
      have hso:=zKr (c0:=s99) (p0:=λ x y=>decide (p99 x y=true)) i1 hs.2
      refine⟨decide_eq_true ⟨hs.1,zsS i2 (hso.perm hpp)⟩,?_⟩
      have hm:0 < bm:=by
        have h1:bm=_:=i1.1
        rw[dqu,List.length_map,List.length_map,List.length_range] at h1
        omega
      rw[zKs i1 i2 hpp hso hm]
end ord6
def znb (n:Net) (zaw:Nat) (zao:(List Int->Option (List Int))) (zax:(Sl Tie)):(Net×Int):=zes n zaw zao (zeq zao) zax
def znc (n:Net) (zaw:Nat) (zao:(List Int->Option (List Int))) (zax:(Sl Tie)):Bool:=keysB 2 zaw zao (zeq zao) && zg5 n zaw zao (zeq zao) && zdQ n zaw zao (zeq zao) zax
theorem zG7 (K:List PA->Prop) (n:Net) (zaw:Nat) (zao:(List Int->Option (List Int))) (zax:(Sl Tie)) (zbf:Nat->List PV) (zda:zbf=λ i=>enc_40 (zax.get i)) (hs:znc n zaw zao zax=true) (hk:K (e64 (znb n zaw zao zax))):zkQ (Wk K) n zaw zao [] zax.len zbf:=by
  unfold znc at hs
  rw[dqm,dqm] at hs
  obtain⟨⟨hkeys,hI⟩,hs⟩:=hs
  unfold znb at hk
  generalize hys:zeq zao=ys0 at hkeys hI hs hk
  refine zz0 (Wk K) n zaw zao [] zax.len zbf ?_
  intro X6 hstep
  have key:∀ (N:Nat) (ys:List (List Int)) (zaR:List (List Int)) (zax:(Sl Tie)) (zbf:Nat->List PV) (zda:zbf=λ i=>enc_40 (zax.get i)),ys.length=N->(zH4 2 zaw zao->zIA 2 zao zaR ys)->zg5 n zaw zao ys=true->zdQ n zaw zao ys zax=true->K (e64 (zes n zaw zao ys zax))->X6 (zi2 n zaw zao zaR zax.len zbf):=by
    intro N
    induction N with
    | zero =>
      intro ys zaR zax zbf zda hN hrem hI hs hk
      subst zda
      obtain rfl:=List.eq_nil_of_length_eq_zero hN
      refine hstep zaR zax ?_
      intro hfin
      have hrem:=hrem hfin
      refine⟨λ _=>?_,λ k77_0 k77_1 hF hns=>absurd (hrem.2.2 [k77_0,k77_1] rfl hF hns) (by simp)⟩
      have hs:zg3 n zaw zao zax=true:=hs
      have hk:K (e64 (zg2 n zaw zao zax)):=hk
      unfold zg3 at hs
      unfold zg2 at hk
      exact (zaT hs λ hc hs=>⟨⟨(hc.1),(zrJ (hc.2) (λ i j h=>(show (p99 (zax.get i) (zax.get j)=true) from (of_decide_eq_true h))) rfl)⟩,(zG4 K n (⟨zax.len,(zi5 zax.len (λ i j=>(s99 (zax.get i) (zax.get j))) zax.get)⟩:Sl Tie) (λ i=>enc_40 ((zi5 zax.len (λ i j=>(s99 (zax.get i) (zax.get j))) zax.get) i)) rfl hk)⟩)
    | succ N ih =>
      intro ys zaR zax zbf zda hN hrem hI hs hk
      subst zda
      refine hstep zaR zax ?_
      intro hfin
      have hrem:=hrem hfin
      refine⟨λ hend=>?_,λ k77_0 k77_1 hF hns=>?_⟩
      · exact absurd (zD2 hrem hend) (λ e=>by rw[e] at hN;simp at hN)
      · obtain ⟨hperm, hrem2, hlen⟩ := zBn hrem (c := [k77_0, k77_1]) rfl hF hns
        obtain⟨hI2,hcond⟩:=zG6 n zaw zao ys _ (λ y hy=>(hrem.2.1 y hy).1) hI hperm
        have hI3:=zG5 n zaw zao _ _ hI2
        obtain⟨e2,e1⟩:=hcond zax hs
        have hs:=e2
        rw[e1] at hk
        have hs:(decide (zax.len+(ys.erase [k77_0,k77_1]).length+1<=2000000) && zgk n zaw zao k77_0 k77_1 (zdQ n zaw zao (ys.erase [k77_0,k77_1])) zax)=true:=hs
        obtain⟨_,hs⟩:=Bool.and_eq_true_iff.1 hs
        have hk:K (e64 (zg4 n zaw zao k77_0 k77_1 (zes n zaw zao (ys.erase [k77_0,k77_1])) zax)):=hk
        have ih:=λ (zax:(Sl Tie)) (zbf:Nat->List PV) (zda:zbf=λ i=>enc_40 (zax.get i))=>ih (ys.erase [k77_0,k77_1]) ([k77_0,k77_1] :: zaR) zax zbf zda (by omega) (λ _=>hrem2) hI3
        unfold zgk at hs
        unfold zg4 at hk
        generalize zes n zaw zao (ys.erase [k77_0,k77_1])=S6 at hk ih
        generalize zdQ n zaw zao (ys.erase [k77_0,k77_1])=P6 at hs ih
        have hX6:=ih
        exact (zcS (K := λ r => K (e64 r))
 (λ hs hk=>(wk hk (zeu (.agg (zeu (.rfl _) (zeu (.nil _ _) ziR))) (zeu (.one (.rfl _)) ziR))))
 (fun hs hk=>(zG3 K n zaw zao zaR k77_0 k77_1 X6 P6 S6 hX6 zax (fun i=>enc_40 (zax.get i)) rfl hs hk)) hs hk)
  exact key _ ys0 [] zax zbf zda rfl (λ hf=>zvw hkeys hf) hI hs hk
def zkW (S2:Int->Nat->(List Int->Option (List Int))->(Net×Int)) (n:Net) (zca:Int) (zbx:Int) (zbL:Int) (zbM:Int) (zgD:Int) (zfj:Int) (zfk:Int) (zcM:Nat) (zcc:(List Int->Option (List Int))):(Net×Int) :=
  (S2 (w64 (zgD+(1:Int))) (addN (zcc [zbL,zbM]) zcM) (zc5 [zbL,zbM] [(if zca > zfj then zca else zfj),(if zbx < zfk then zbx else zfk)] zcc))
def zkX (P2:Int->Nat->(List Int->Option (List Int))->Bool) (n:Net) (zca:Int) (zbx:Int) (zbL:Int) (zbM:Int) (zgD:Int) (zfj:Int) (zfk:Int) (zcM:Nat) (zcc:(List Int->Option (List Int))):Bool :=
  (P2 (w64 (zgD+(1:Int))) (addN (zcc [zbL,zbM]) zcM) (zc5 [zbL,zbM] [(if zca > zfj then zca else zfj),(if zbx < zfk then zbx else zfk)] zcc))
theorem zz3 (K : List PA → Prop) (n : Net) (zca : Int) (zbx : Int) (zbL : Int) (zbM : Int)
  (X2:St->Prop) (P2:Int->Nat->(List Int->Option (List Int))->Bool) (S2:Int->Nat->(List Int->Option (List Int))->(Net×Int))
  (hX2:∀ (zaS:Int) (zaM:Nat) (zaN:(List Int->Option (List Int))),P2 zaS zaM zaN=true->K (e64 (S2 zaS zaM zaN))->X2 (zhS n zaS zaM zaN)) (zgD:Int) (zfj:Int) (zfk:Int) (zcM:Nat) (zcc:(List Int->Option (List Int))) (hs:zkX P2 n zca zbx zbL zbM zgD zfj zfk zcM zcc=true) (hk:K (e64 (zkW S2 n zca zbx zbL zbM zgD zfj zfk zcM zcc))):zkP (Wk K) X2 n zca zbx zbL zbM zgD zfj zfk zcM zcc:=by
  refine zaZ (zG0 (Wk K) X2 n zca zbx zbL zbM zgD zfj zfk zcM zcc) ?_
  unfold zkX at hs
  unfold zkW at hk
  exact (hX2 (w64 (zgD+(1:Int))) (addN (zcc [zbL,zbM]) zcM) (zc5 [zbL,zbM] [(if zca > zfj then zca else zfj),(if zbx < zfk then zbx else zfk)] zcc) hs hk)
def zdR (n:Net) (zaw:Nat) (zao:(List Int->Option (List Int))):(Net×Int) :=
  (znb n zaw zao (⟨0,(λ _=>default)⟩:Sl Tie))
def zg7 (n:Net) (zaw:Nat) (zao:(List Int->Option (List Int))):Bool :=
  (znc n zaw zao (⟨0,(λ _=>default)⟩:Sl Tie))
theorem zG8 (K:List PA->Prop) (n:Net) (zaw:Nat) (zao:(List Int->Option (List Int))) (hs:zg7 n zaw zao=true) (hk:K (e64 (zdR n zaw zao))):zm6 (Wk K) n zaw zao:=by
  refine zaZ (zGZ (Wk K) n zaw zao) ?_
  unfold zg7 at hs
  unfold zdR at hk
  exact (zG7 K n zaw zao (⟨0,(λ _=>default)⟩:Sl Tie) (λ i=>enc_40 ((λ _=>default) i)) rfl hs hk)
def zkY (S2:Int->Nat->(List Int->Option (List Int))->(Net×Int)) (n:Net) (zca:Int) (zbx:Int) (zfi:Int) (zbL:Int) (zbM:Int) (zcb:Nat) (zbt:(List Int->Option (List Int))):(Net×Int) :=
  (cond (!(zbt [zbL, zbM]).isSome)
 (zkW S2 n zca zbx zbL zbM zfi (-1000000000000:Int) (1000000000000:Int) zcb zbt)
 (zkW S2 n zca zbx zbL zbM zfi (zdU (zbt [zbL,zbM]) 0) (zdU (zbt [zbL,zbM]) 1) zcb zbt))
def zkZ (P2:Int->Nat->(List Int->Option (List Int))->Bool) (n:Net) (zca:Int) (zbx:Int) (zfi:Int) (zbL:Int) (zbM:Int) (zcb:Nat) (zbt:(List Int->Option (List Int))):Bool :=
  (cond (!(zbt [zbL, zbM]).isSome)
 (zkX P2 n zca zbx zbL zbM zfi (-1000000000000:Int) (1000000000000:Int) zcb zbt)
 (zkX P2 n zca zbx zbL zbM zfi (zdU (zbt [zbL,zbM]) 0) (zdU (zbt [zbL,zbM]) 1) zcb zbt))
theorem zz4 (K : List PA → Prop) (n : Net)
  (X2:St->Prop) (P2:Int->Nat->(List Int->Option (List Int))->Bool) (S2:Int->Nat->(List Int->Option (List Int))->(Net×Int))
  (hX2:∀ (zaS:Int) (zaM:Nat) (zaN:(List Int->Option (List Int))),P2 zaS zaM zaN=true->K (e64 (S2 zaS zaM zaN))->X2 (zhS n zaS zaM zaN)) (zca:Int) (zbx:Int) (zfi:Int) (zbL:Int) (zbM:Int) (zcb:Nat) (zbt:(List Int->Option (List Int))) (hs:zkZ P2 n zca zbx zfi zbL zbM zcb zbt=true) (hk:K (e64 (zkY S2 n zca zbx zfi zbL zbM zcb zbt))):zkO (Wk K) X2 n zca zbx zfi zbL zbM zcb zbt:=by
  refine zaZ (zGY (Wk K) X2 n zca zbx zfi zbL zbM zcb zbt) ?_
  unfold zkZ at hs
  unfold zkY at hk
  exact (zcS (K := λ r => K (e64 r))
 (λ hs hk=>(zz3 K n zca zbx zbL zbM X2 P2 S2 hX2 zfi (-1000000000000:Int) (1000000000000:Int) zcb zbt hs hk))
 (λ hs hk=>(zz3 K n zca zbx zbL zbM X2 P2 S2 hX2 zfi (zdU (zbt [zbL,zbM]) 0) (zdU (zbt [zbL,zbM]) 1) zcb zbt hs hk)) hs hk)
def zg8 (n:Net) (S2:Int->Nat->(List Int->Option (List Int))->(Net×Int)) (zaS:Int) (zaM:Nat) (zaN:(List Int->Option (List Int))):(Net×Int) :=
  (cond (decide (zaS < (n.Ties.len : Int)))
 (cond (decide ((n.Ties.get zaS.toNat).From > (n.Ties.get zaS.toNat).To))
 (zkY S2 n (w64 (0 - (n.Ties.get zaS.toNat).High)) (w64 (0 - (n.Ties.get zaS.toNat).Low)) zaS ((n.Ties.get zaS.toNat).To) ((n.Ties.get zaS.toNat).From) zaM zaN)
 (zkY S2 n ((n.Ties.get zaS.toNat).Low) ((n.Ties.get zaS.toNat).High) zaS ((n.Ties.get zaS.toNat).From) ((n.Ties.get zaS.toNat).To) zaM zaN))
 (zdR n zaM zaN))
def zg9 (n:Net) (P2:Int->Nat->(List Int->Option (List Int))->Bool) (zaS:Int) (zaM:Nat) (zaN:(List Int->Option (List Int))):Bool :=
  (cond (decide (zaS < (n.Ties.len : Int)))
 (decide ((0<=zaS/\zaS < (n.Ties.len:Int))) &&
 (cond (decide ((n.Ties.get zaS.toNat).From > (n.Ties.get zaS.toNat).To))
 (zkZ P2 n (w64 (0 - (n.Ties.get zaS.toNat).High)) (w64 (0 - (n.Ties.get zaS.toNat).Low)) zaS ((n.Ties.get zaS.toNat).To) ((n.Ties.get zaS.toNat).From) zaM zaN)
 (zkZ P2 n ((n.Ties.get zaS.toNat).Low) ((n.Ties.get zaS.toNat).High) zaS ((n.Ties.get zaS.toNat).From) ((n.Ties.get zaS.toNat).To) zaM zaN)))
 (zg7 n zaM zaN))
def zgl (n : Net) : Nat → Int → Nat → (List Int → Option (List Int)) → (Net × Int)
  | 0=>λ _ _ _=>default
  | k+1=>zg8 n (zgl n k)
def zgm (n : Net) : Nat → Int → Nat → (List Int → Option (List Int)) → Bool
  | 0=>λ _ _ _=>false
  | k+1=>zg9 n (zgm n k)
def zz5 (n:Net) (zaS:Int) (zaM:Nat) (zaN:(List Int->Option (List Int))):(Net×Int):=zgl n Fuel zaS zaM zaN
def zz6 (n:Net) (zaS:Int) (zaM:Nat) (zaN:(List Int->Option (List Int))):Bool:=zgm n Fuel zaS zaM zaN
theorem zG9 (K:List PA->Prop) (n:Net) (zaS:Int) (zaM:Nat) (zaN:(List Int->Option (List Int))) (hs:zz6 n zaS zaM zaN=true) (hk:K (e64 (zz5 n zaS zaM zaN))):zkN (Wk K) n zaS zaM zaN:=by
  refine zzZ (Wk K) n zaS zaM zaN ?_
  intro X2 hstep
  have key:∀ (k:Nat) (zaS:Int) (zaM:Nat) (zaN:(List Int->Option (List Int))),zgm n k zaS zaM zaN=true->K (e64 (zgl n k zaS zaM zaN))->X2 (zhS n zaS zaM zaN):=by
    intro k
    induction k with
    | zero=>intro zaS zaM zaN hs;exact absurd hs dqk
    | succ k ih =>
      intro zaS zaM zaN hs hk
      refine hstep zaS zaM zaN ?_
      have hs:zg9 n (zgm n k) zaS zaM zaN=true:=hs
      have hk:K (e64 (zg8 n (zgl n k) zaS zaM zaN)):=hk
      unfold zg9 at hs
      unfold zg8 at hk
      generalize zgl n k=S2 at hk ih
      generalize zgm n k=P2 at hs ih
      have hX2:=ih
      exact (zcS (K := λ r => K (e64 r))
 (λ hs hk => (zaT hs λ hc hs => ⟨hc, (zcS (K := λ r => K (e64 r))
 (λ hs hk=>(zz4 K n X2 P2 S2 hX2 (w64 (0 - (n.Ties.get zaS.toNat).High)) (w64 (0 - (n.Ties.get zaS.toNat).Low)) zaS ((n.Ties.get zaS.toNat).To) ((n.Ties.get zaS.toNat).From) zaM zaN hs hk))
 (λ hs hk=>(zz4 K n X2 P2 S2 hX2 ((n.Ties.get zaS.toNat).Low) ((n.Ties.get zaS.toNat).High) zaS ((n.Ties.get zaS.toNat).From) ((n.Ties.get zaS.toNat).To) zaM zaN hs hk)) hs hk)⟩))
 (fun hs hk=>(zG8 K n zaM zaN hs hk)) hs hk)
  exact key _ zaS zaM zaN hs hk
def zqF (n:Net):(Net×Int) :=
  (zz5 n (0:Int) 0 (λ _=>none))
def zqG (n:Net):Bool :=
  (zz6 n (0:Int) 0 (λ _=>none))
theorem zHa (K:List PA->Prop) (n:Net) (hs:zqG n=true) (hk:K (e64 (zqF n))):zm5 (Wk K) n:=by
  refine zaZ (zGX (Wk K) n) ?_
  unfold zqG at hs
  unfold zqF at hk
  exact (zG9 K n (0:Int) 0 (λ _=>none) hs hk)
def zqH (n:Net) (zg1:Bool):(Net×Int) :=
  (cond zg1
 ((⟨(0:Int),(⟨0,λ _=>default⟩:(Sl Tie))⟩:Net),(2:Int))
 (zqF n))
def zqI (n:Net) (zg1:Bool):Bool :=
  (cond zg1
 true
 (zqG n))
theorem zHb (K:List PA->Prop) (n:Net) (zg1:Bool) (hs:zqI n zg1=true) (hk:K (e64 (zqH n zg1))):zm4 (Wk K) n zg1:=by
  refine zaZ (zGW (Wk K) n zg1) ?_
  unfold zqI at hs
  unfold zqH at hk
  exact (zcS (K := λ r => K (e64 r))
 (λ hs hk=>(wk hk (zeu (.agg (zeu (.rfl _) (zeu (.nil _ _) ziR))) (zeu (.one (.rfl _)) ziR))))
 (λ hs hk=>(zHa K n hs hk)) hs hk)
def s64 (n:Net):(Net×Int) :=
  (zqH n (!(s67 n)))
def p64 (n:Net):Bool :=
  (decide ((p67 n=true)) &&
 (zqI n (!(s67 n))))
theorem q64 (n:Net) (K:List PA->Prop) (hs:p64 n=true) (hk:K (e64 (s64 n))):vcFun Tryd.prog G64 zcE 64 [.agg [.int .i64 n.Nodes,.sl n.Ties.len 4 (λ i=>enc_40 (n.Ties.get i))]] (Wk K):=by
  refine zaZ (zGV n (Wk K)) ?_
  unfold p64 at hs
  unfold s64 at hk
  exact (zaT hs λ hc hs=>⟨⟨isE,hc⟩,(zHb K n (!(s67 n)) hs hk)⟩)
def zHc : List PA → COut
  | [.agg [.int .i64 zae,.sl zad zaz zac]]=>.det (IsE enc_40 4 zaz zac/\p64 (⟨zae,(⟨zad,zam zac⟩:(Sl Tie))⟩:Net)=true) [.agg [.int .i64 (((s64 (⟨zae,(⟨zad,zam zac⟩:(Sl Tie))⟩:Net)).1).Nodes),.sl (((s64 (⟨zae,(⟨zad,zam zac⟩:(Sl Tie))⟩:Net)).1).Ties.len) 4 (λ i=>enc_40 (((s64 (⟨zae,(⟨zad,zam zac⟩:(Sl Tie))⟩:Net)).1).Ties.get i))],.one (.int .i64 ((s64 (⟨zae,(⟨zad,zam zac⟩:(Sl Tie))⟩:Net)).2))]
  | _=>.no
theorem zKB:zar Tryd.prog 64:=⟨_,rfl,rfl,by kernel_rfl⟩
theorem zOn:Ok Tryd.prog 64 zHc:=zfC zMB zKB λ args K h=>by
  unfold zHc at h
  split at h
  · rename_i zae zad zaz zac
    obtain⟨⟨⟨rfl,zaq,rfl⟩,hs⟩,hk⟩:=h
    try rw[zak zaq] at hs
    try rw[zak zaq] at hk
    exact⟨_,zeI zeJ _,(λ _ _=>[]),(λ l=>Nat.beq l 19),zcE,q64 (⟨zae,(⟨zad,zaq⟩:(Sl Tie))⟩:Net) K hs hk⟩
  · exact h.elim
abbrev T65:Tabs:=Tabs.nil
theorem zMC:TabsOk Tryd.prog T65:=TabsOk.nil
abbrev G65:Ctrs:=csm T65 (λ _ _=>[]) (λ _=>false)
def zHd:Ann:=⟨98,[(0,zK [1,2] [1,2]),(1,zK [1,2,4] [1,2,4]),(2,zK [1,2,4,5] [1,2,4]),(3,zK [1,2,4,5,17] [1,2,4,95]),(4,zK [1,2,4,5] [1,2,4,95]),(5,zK [1,2,4,5,6] [1,2,4,95]),(6,zK [1,2,4,5,6,25] [1,2,4,95]),(7,zK [1,2,4,5,6] [1,2,4,95]),(8,zK [1,2,4,5,6,7] [1,2,4,7,95]),(9,zK [1,2,4,5,6,7,8] [1,2,4,7,95]),(10,zK [1,2,4,5,6,7,8,9] [1,2,4,7,95]),(11,zK [1,2,4,5,6,7,8,9,35] [1,2,4,7,95]),(12,zK [1,2,4,5,6,7,8,9] [1,2,4,7,95]),(13,zK [1,2,4,5,6,7,8,9,10] [1,2,4,7,10,95]),(14,zK [1,2,4,5,6,7,8,9,10,52] [1,2,4,7,10,95]),(15,zK [1,2,4,5,6,7,8,9,10] [1,2,4,7,10,95]),(16,zK [1,2,4,5,6,7,8,9,10,71] [1,2,4,7,10,95]),(17,zK [1,2,4,5,6,7,8,9,10] [1,2,4,7,10,95]),(18,zK [1,2,4,5,6,7,8,9] [1,2,4,7,95]),(19,zK [1,2,4,5,6,7,8,88] [1,2,4,7,95]),(20,zK [2,3] [2]),(21,zK [1,2,4,5,6,7,90] [1,2,4,7,95]),(22,zK [1,2,4,5,6] [1,2,4,95]),(23,zK [2,3] [2,95])],
 [(3,⟨[1,2,4,5],[1,2,4,95],[],[(4,1,95,40,λ _=>enc_40 default)],[],[],[]⟩),(6,⟨[1,2,4,5,6],[1,2,4,95],[],[(4,1,95,40,λ _=>enc_40 default)],[],[],[]⟩),(11,zK [1,2,4,5,6,7,8,9] [1,2,4,7,95])],
 [(16,zK [1,2,4,5,6,7,8,9,10] [1,2,4,7,10,95]),(19,zK [1,2,4,5,6,7,8] [1,2,4,7,95])],
 [],[]⟩
abbrev R65:=(Net×Bool)
abbrev e65 (r:R65):List PA:=[.agg [.int .i64 r.1.Nodes,.sl r.1.Ties.len 4 (λ i=>enc_40 (r.1.Ties.get i))],.one (.bool r.2)]
@[irreducible] def z65:=ptF Tryd.prog G65 zHd Tryd.f65
def zDh (n:Net) (av0:Int) (zet:(Sl Tie)) (zgn:Nat->List PV):St:=⟨[(1,zp 1 0),(2,zp 2 0),(4,zp 4 0),(5,zI av0)],[(1,.box 24 (zm (enc_24 n))),(2,.box 24 [zi (0:Int),.p (.nils)]),(4,.box 24 [zi n.Nodes,.vec 95]),(95,.vec 40 4 32 zet.len zgn)],[]⟩
abbrev ztJ (K:List PA->Prop) (n:Net) (X:St->Prop) (P:Int->(Sl Tie)->Bool) (S:Int->(Sl Tie)->(Net×Bool)):Prop:=∀ ⦃av0:Int⦄ ⦃zet:(Sl Tie)⦄ ⦃zgn:Nat->List PV⦄,P av0 zet=true->K (e65 (S av0 zet))->zgn=zg enc_40 zet->X (zDh n av0 zet zgn)
def zDi (n:Net) (av1:Int) (bv1:Int) (zeA:(Sl Tie)) (zgo:Nat->List PV):St:=⟨[(1,zp 1 0),(2,zp 2 0),(4,zp 4 0),(5,zI av1),(6,zI bv1)],[(1,.box 24 (zm (enc_24 n))),(2,.box 24 [zi (0:Int),.p (.nils)]),(4,.box 24 [zi n.Nodes,.vec 95]),(95,.vec 40 4 32 zeA.len zgo)],[]⟩
abbrev zz7 (K:List PA->Prop) (n:Net) (X:St->Prop) (P:Int->Int->(Sl Tie)->Bool) (S:Int->Int->(Sl Tie)->(Net×Bool)):Prop:=∀ ⦃av1:Int⦄ ⦃bv1:Int⦄ ⦃zeA:(Sl Tie)⦄ ⦃zgo:Nat->List PV⦄,P av1 bv1 zeA=true->K (e65 (S av1 bv1 zeA))->zgo=zg enc_40 zeA->X (zDi n av1 bv1 zeA zgo)
def zDj (n:Net) (av2:Int) (bv2:Int) (zd4:Bool) (iv2:Int) (zd5:Int) (zd6:Int) (zd7:Int) (zd8:Int) (zdK:(Sl Tie)) (zgp:Nat->List PV):St:=⟨[(1,zp 1 0),(2,zp 2 0),(4,zp 4 0),(5,zI av2),(6,zI bv2),(7,zp 7 0),(8,zB zd4),(9,zI iv2)],[(1,.box 24 (zm (enc_24 n))),(2,.box 24 [zi (0:Int),.p (.nils)]),(4,.box 24 [zi n.Nodes,.vec 95]),(7,.box 40 (zm (enc_40 (⟨zd5,zd6,zd7,zd8⟩:Tie)))),(95,.vec 40 4 32 zdK.len zgp)],[]⟩
abbrev zHe (K:List PA->Prop) (n:Net) (X:St->Prop) (P:Int->Int->Bool->Int->Int->Int->Int->Int->(Sl Tie)->Bool) (S:Int->Int->Bool->Int->Int->Int->Int->Int->(Sl Tie)->(Net×Bool)):Prop:=∀ ⦃av2:Int⦄ ⦃bv2:Int⦄ ⦃zd4:Bool⦄ ⦃iv2:Int⦄ ⦃zd5:Int⦄ ⦃zd6:Int⦄ ⦃zd7:Int⦄ ⦃zd8:Int⦄ ⦃zdK:(Sl Tie)⦄ ⦃zgp:Nat->List PV⦄,P av2 bv2 zd4 iv2 zd5 zd6 zd7 zd8 zdK=true->K (e65 (S av2 bv2 zd4 iv2 zd5 zd6 zd7 zd8 zdK))->zgp=zg enc_40 zdK->X (zDj n av2 bv2 zd4 iv2 zd5 zd6 zd7 zd8 zdK zgp)
section
variable {K:List PA->Prop}{n:Net}{av0:Int}{zet:(Sl Tie)}{zgn:Nat->List PV}{X0:St->Prop}{P0:Int->(Sl Tie)->Bool}{S0:Int->(Sl Tie)->(Net×Bool)}{av1:Int}{bv1:Int}{zeA:(Sl Tie)}{zgo:Nat->List PV}{X1:St->Prop}{P1:Int->Int->(Sl Tie)->Bool}{S1:Int->Int->(Sl Tie)->(Net×Bool)}{av2:Int}{bv2:Int}{zd4:Bool}{iv2:Int}{zd5:Int}{zd6:Int}{zd7:Int}{zd8:Int}{zdK:(Sl Tie)}{zgp:Nat->List PV}{X2:St->Prop}{P2:Int->Int->Bool->Int->Int->Int->Int->Int->(Sl Tie)->Bool}{S2:Int->Int->Bool->Int->Int->Int->Int->Int->(Sl Tie)->(Net×Bool)}{av3:Int}{bv3:Int}{znd:Bool}{iv3:Int}{zk0:Int}{zk1:Int}{ziF:Int}{ziG:Int}{zqJ:Int}{zqK:Int}{zne:Int}{znf:Int}{zja:(Sl Tie)}{zz8:Nat->List PV}{av4:Int}{bv4:Int}{zqL:Bool}{zoG:Int}{zoH:Int}{zlj:Int}{zlk:Int}{zgq:(Sl Tie)}{zz9:Nat->List PV}
def zng (S0:Int->(Sl Tie)->(Net×Bool)) (S1:Int->Int->(Sl Tie)->(Net×Bool)) (n:Net) (av4:Int) (bv4:Int) (zqL:Bool) (zoG:Int) (zoH:Int) (zlj:Int) (zlk:Int) (zgq:(Sl Tie)):(Net×Bool) :=
  (cond (decide (zlj > zlk))
 ((⟨(0:Int),(⟨0,λ _=>default⟩:(Sl Tie))⟩:Net),false)
 (cond zqL
 (S1 av4 (w64 (bv4+(1:Int))) (⟨(zgq.len+1),(zgB zgq.len zgq.get (λ _=>(⟨zoG,zoH,zlj,zlk⟩:Tie)))⟩:Sl Tie))
 (S1 av4 (w64 (bv4+(1:Int))) zgq)))
def znh (P0:Int->(Sl Tie)->Bool) (P1:Int->Int->(Sl Tie)->Bool) (n:Net) (av4:Int) (bv4:Int) (zqL:Bool) (zoG:Int) (zoH:Int) (zlj:Int) (zlk:Int) (zgq:(Sl Tie)):Bool :=
  (cond (decide (zlj > zlk))
 true
 (cond zqL
 (decide (((zgq.len+1) * 32<=140737488355328/\zgq.len+1<=9223372036854775807)) &&
 (P1 av4 (w64 (bv4+(1:Int))) (⟨(zgq.len+1),(zgB zgq.len zgq.get (λ _=>(⟨zoG,zoH,zlj,zlk⟩:Tie)))⟩:Sl Tie)))
 (P1 av4 (w64 (bv4+(1:Int))) zgq)))
theorem zHf (hX0:ztJ K n X0 P0 S0) (hX1:zz7 K n X1 P1 S1) (hs:znh P0 P1 n av4 bv4 zqL zoG zoH zlj zlk zgq=true) (hk:K (e65 (zng S0 S1 n av4 bv4 zqL zoG zoH zlj zlk zgq))) (zHg:zz9=zg enc_40 zgq):z65 (Wk K) [1,1,0,1,0,0,1,0,0,1,0,0,1,0,0,1,1,1] [X0,X1] ⟨[(1,zp 1 0),(2,zp 2 0),(4,zp 4 0),(5,zI av4),(6,zI bv4),(7,zp 7 0),(8,zB zqL)],[(1,.box 24 (zm (enc_24 n))),(2,.box 24 [zi (0:Int),.p (.nils)]),(4,.box 24 [zi n.Nodes,.vec 95]),(7,.box 40 (zm (enc_40 (⟨zoG,zoH,zlj,zlk⟩:Tie)))),(95,.vec 40 4 32 zgq.len zz9)],[]⟩:=by subst zHg;exact zaZ (by kernel_rfl) (zc hs hk (λ hs hk=>((wk hk (zeu (.agg (zeu (.rfl _) (zeu (.nil _ _) ziR))) (zeu (.one (.rfl _)) ziR))):Wk K [.agg [.int .i64 (0:Int),.nils],.one (.bool false)])) (λ hs hk=>(zc hs hk (λ hs hk=>(zaT hs λ hc hs=>And.intro hc (hX1 hs hk (zko (enc:=enc_40) (f:=zgq.get) (h:=(λ _=>(⟨zoG,zoH,zlj,zlk⟩:Tie))) rfl rfl)))) (λ hs hk=>(hX1 hs hk rfl)))))
def zk2 (S0:Int->(Sl Tie)->(Net×Bool)) (S1:Int->Int->(Sl Tie)->(Net×Bool)) (S2:Int->Int->Bool->Int->Int->Int->Int->Int->(Sl Tie)->(Net×Bool)) (n:Net) (av3:Int) (bv3:Int) (znd:Bool) (iv3:Int) (zk0:Int) (zk1:Int) (ziF:Int) (ziG:Int) (zqJ:Int) (zqK:Int) (zne:Int) (znf:Int) (zja:(Sl Tie)):(Net×Bool) :=
  (cond (zqJ == av3)
 (cond (zqK == bv3)
 (S2 av3 bv3 true (w64 (iv3+(1:Int))) zk0 zk1 (if zne > ziF then zne else ziF) (if znf < ziG then znf else ziG) zja)
 (S2 av3 bv3 znd (w64 (iv3+(1:Int))) zk0 zk1 ziF ziG zja))
 (S2 av3 bv3 znd (w64 (iv3+(1:Int))) zk0 zk1 ziF ziG zja))
def zk3 (P0:Int->(Sl Tie)->Bool) (P1:Int->Int->(Sl Tie)->Bool) (P2:Int->Int->Bool->Int->Int->Int->Int->Int->(Sl Tie)->Bool) (n:Net) (av3:Int) (bv3:Int) (znd:Bool) (iv3:Int) (zk0:Int) (zk1:Int) (ziF:Int) (ziG:Int) (zqJ:Int) (zqK:Int) (zne:Int) (znf:Int) (zja:(Sl Tie)):Bool :=
  (cond (zqJ == av3)
 (cond (zqK == bv3)
 (P2 av3 bv3 true (w64 (iv3+(1:Int))) zk0 zk1 (if zne > ziF then zne else ziF) (if znf < ziG then znf else ziG) zja)
 (P2 av3 bv3 znd (w64 (iv3+(1:Int))) zk0 zk1 ziF ziG zja))
 (P2 av3 bv3 znd (w64 (iv3+(1:Int))) zk0 zk1 ziF ziG zja))
theorem zqM (hX0:ztJ K n X0 P0 S0) (hX1:zz7 K n X1 P1 S1) (hX2:zHe K n X2 P2 S2) (hs:zk3 P0 P1 P2 n av3 bv3 znd iv3 zk0 zk1 ziF ziG zqJ zqK zne znf zja=true) (hk:K (e65 (zk2 S0 S1 S2 n av3 bv3 znd iv3 zk0 zk1 ziF ziG zqJ zqK zne znf zja))) (zHh:zz8=zg enc_40 zja):z65 (Wk K) [1,1,0,1,0,0,1,0,0,1,0,0,1,0,0,1,1,0,1,0,0,1,0,0,1,1] [X0,X1,X2] ⟨[(1,zp 1 0),(2,zp 2 0),(4,zp 4 0),(5,zI av3),(6,zI bv3),(7,zp 7 0),(8,zB znd),(9,zI iv3),(10,zp 10 0)],[(1,.box 24 (zm (enc_24 n))),(2,.box 24 [zi (0:Int),.p (.nils)]),(4,.box 24 [zi n.Nodes,.vec 95]),(7,.box 40 (zm (enc_40 (⟨zk0,zk1,ziF,ziG⟩:Tie)))),(10,.box 40 (zm (enc_40 (⟨zqJ,zqK,zne,znf⟩:Tie)))),(95,.vec 40 4 32 zja.len zz8)],[]⟩:=by subst zHh;exact zaZ (by kernel_rfl) (zc hs hk (λ hs hk=>(zc hs hk (λ hs hk=>(hX2 hs hk rfl)) (λ hs hk=>(hX2 hs hk rfl)))) (λ hs hk=>(hX2 hs hk rfl)))
def ziH (S0:Int->(Sl Tie)->(Net×Bool)) (S1:Int->Int->(Sl Tie)->(Net×Bool)) (n:Net) (S2:Int->Int->Bool->Int->Int->Int->Int->Int->(Sl Tie)->(Net×Bool)) (av2:Int) (bv2:Int) (zd4:Bool) (iv2:Int) (zd5:Int) (zd6:Int) (zd7:Int) (zd8:Int) (zdK:(Sl Tie)):(Net×Bool) :=
  (cond (decide (iv2 < (n.Ties.len : Int)))
 (cond ((n.Ties.get iv2.toNat).From == bv2)
 (cond ((n.Ties.get iv2.toNat).To == av2)
 (zk2 S0 S1 S2 n av2 bv2 zd4 iv2 zd5 zd6 zd7 zd8 av2 bv2 (w64 (0 - (n.Ties.get iv2.toNat).High)) (w64 (0 - (n.Ties.get iv2.toNat).Low)) zdK)
 (zk2 S0 S1 S2 n av2 bv2 zd4 iv2 zd5 zd6 zd7 zd8 ((n.Ties.get iv2.toNat).From) ((n.Ties.get iv2.toNat).To) ((n.Ties.get iv2.toNat).Low) ((n.Ties.get iv2.toNat).High) zdK))
 (zk2 S0 S1 S2 n av2 bv2 zd4 iv2 zd5 zd6 zd7 zd8 ((n.Ties.get iv2.toNat).From) ((n.Ties.get iv2.toNat).To) ((n.Ties.get iv2.toNat).Low) ((n.Ties.get iv2.toNat).High) zdK))
 (zng S0 S1 n av2 bv2 zd4 zd5 zd6 zd7 zd8 zdK))
def ziI (P0:Int->(Sl Tie)->Bool) (P1:Int->Int->(Sl Tie)->Bool) (n:Net) (P2:Int->Int->Bool->Int->Int->Int->Int->Int->(Sl Tie)->Bool) (av2:Int) (bv2:Int) (zd4:Bool) (iv2:Int) (zd5:Int) (zd6:Int) (zd7:Int) (zd8:Int) (zdK:(Sl Tie)):Bool :=
  (cond (decide (iv2 < (n.Ties.len : Int)))
 (decide ((0<=iv2/\iv2 < (n.Ties.len:Int))) &&
 (cond ((n.Ties.get iv2.toNat).From == bv2)
 (cond ((n.Ties.get iv2.toNat).To == av2)
 (zk3 P0 P1 P2 n av2 bv2 zd4 iv2 zd5 zd6 zd7 zd8 av2 bv2 (w64 (0 - (n.Ties.get iv2.toNat).High)) (w64 (0 - (n.Ties.get iv2.toNat).Low)) zdK)
 (zk3 P0 P1 P2 n av2 bv2 zd4 iv2 zd5 zd6 zd7 zd8 ((n.Ties.get iv2.toNat).From) ((n.Ties.get iv2.toNat).To) ((n.Ties.get iv2.toNat).Low) ((n.Ties.get iv2.toNat).High) zdK))
 (zk3 P0 P1 P2 n av2 bv2 zd4 iv2 zd5 zd6 zd7 zd8 ((n.Ties.get iv2.toNat).From) ((n.Ties.get iv2.toNat).To) ((n.Ties.get iv2.toNat).Low) ((n.Ties.get iv2.toNat).High) zdK)))
 (znh P0 P1 n av2 bv2 zd4 zd5 zd6 zd7 zd8 zdK))
def zk4 (S0:Int->(Sl Tie)->(Net×Bool)) (S1:Int->Int->(Sl Tie)->(Net×Bool)) (n:Net):Nat->Int->Int->Bool->Int->Int->Int->Int->Int->(Sl Tie)->(Net×Bool):=lpO (λ _ _ _ _ _ _ _ _ _=>default) (ziH S0 S1 n)
def zk5 (P0:Int->(Sl Tie)->Bool) (P1:Int->Int->(Sl Tie)->Bool) (n:Net):Nat->Int->Int->Bool->Int->Int->Int->Int->Int->(Sl Tie)->Bool:=lpO (λ _ _ _ _ _ _ _ _ _=>false) (ziI P0 P1 n)
def zqN (S0:Int->(Sl Tie)->(Net×Bool)) (S1:Int->Int->(Sl Tie)->(Net×Bool)) (n:Net) (av2:Int) (bv2:Int) (zd4:Bool) (iv2:Int) (zd5:Int) (zd6:Int) (zd7:Int) (zd8:Int) (zdK:(Sl Tie)):(Net×Bool):=zk4 S0 S1 n Fuel av2 bv2 zd4 iv2 zd5 zd6 zd7 zd8 zdK
def zqO (P0:Int->(Sl Tie)->Bool) (P1:Int->Int->(Sl Tie)->Bool) (n:Net) (av2:Int) (bv2:Int) (zd4:Bool) (iv2:Int) (zd5:Int) (zd6:Int) (zd7:Int) (zd8:Int) (zdK:(Sl Tie)):Bool:=zk5 P0 P1 n Fuel av2 bv2 zd4 iv2 zd5 zd6 zd7 zd8 zdK
theorem zHi (hX0:ztJ K n X0 P0 S0) (hX1:zz7 K n X1 P1 S1) (hs:zqO P0 P1 n av2 bv2 zd4 iv2 zd5 zd6 zd7 zd8 zdK=true) (hk:K (e65 (zqN S0 S1 n av2 bv2 zd4 iv2 zd5 zd6 zd7 zd8 zdK))) (zqP:zgp=zg enc_40 zdK):z65 (Wk K) [1,1,0,1,0,0,1,0,0,1,0,0,1,0,0,1,1,0,1,0] [X0,X1] (zDj n av2 bv2 zd4 iv2 zd5 zd6 zd7 zd8 zdK zgp) :=
  zl (λ X=>z65 (Wk K) [1,1,0,1,0,0,1,0,0,1,0,0,1,0,0,1,1,0,1,0,0] [X0,X1,X]) (by kernel_rfl) λ X2 hX =>
  (show ∀ k, zHe K n X2 (zk5 P0 P1 n k) (zk4 S0 S1 n k) from zfg _ _ (ziI P0 P1 n) (ziH S0 S1 n) (zHe K n X2)
 (by intro _ _ _ _ _ _ _ _ _ _ hs;exact absurd hs dqk)
 (by intro P2 S2 hX2 av2 bv2 zd4 iv2 zd5 zd6 zd7 zd8 zdK zgp hs hk zqP;subst zqP;exact hX _ (zaZ (by kernel_rfl) (zc hs hk (λ hs hk=>(zaT hs λ hc hs=>And.intro hc (zc hs hk (λ hs hk=>(zc hs hk (λ hs hk=>(zqM hX0 hX1 hX2 hs hk rfl)) (λ hs hk=>(zqM hX0 hX1 hX2 hs hk rfl)))) (λ hs hk=>(zqM hX0 hX1 hX2 hs hk rfl))))) (λ hs hk=>(zHf hX0 hX1 hs hk rfl)))))) _ hs hk zqP
def zha (S0:Int->(Sl Tie)->(Net×Bool)) (n:Net) (S1:Int->Int->(Sl Tie)->(Net×Bool)) (av1:Int) (bv1:Int) (zeA:(Sl Tie)):(Net×Bool) :=
  (cond (decide (bv1 < n.Nodes))
 (zqN S0 S1 n av1 bv1 false (0:Int) av1 bv1 (-1000000000000:Int) (1000000000000:Int) zeA)
 (S0 (w64 (av1+(1:Int))) zeA))
def zhb (P0:Int->(Sl Tie)->Bool) (n:Net) (P1:Int->Int->(Sl Tie)->Bool) (av1:Int) (bv1:Int) (zeA:(Sl Tie)):Bool :=
  (cond (decide (bv1 < n.Nodes))
 (zqO P0 P1 n av1 bv1 false (0:Int) av1 bv1 (-1000000000000:Int) (1000000000000:Int) zeA)
 (P0 (w64 (av1+(1:Int))) zeA))
def ze7 (S0:Int->(Sl Tie)->(Net×Bool)) (n:Net):Nat->Int->Int->(Sl Tie)->(Net×Bool):=lpO (λ _ _ _=>default) (zha S0 n)
def ze8 (P0:Int->(Sl Tie)->Bool) (n:Net):Nat->Int->Int->(Sl Tie)->Bool:=lpO (λ _ _ _=>false) (zhb P0 n)
def zqQ (S0:Int->(Sl Tie)->(Net×Bool)) (n:Net) (av1:Int) (bv1:Int) (zeA:(Sl Tie)):(Net×Bool):=ze7 S0 n Fuel av1 bv1 zeA
def zqR (P0:Int->(Sl Tie)->Bool) (n:Net) (av1:Int) (bv1:Int) (zeA:(Sl Tie)):Bool:=ze8 P0 n Fuel av1 bv1 zeA
theorem zHj (hX0:ztJ K n X0 P0 S0) (hs:zqR P0 n av1 bv1 zeA=true) (hk:K (e65 (zqQ S0 n av1 bv1 zeA))) (zqS:zgo=zg enc_40 zeA):z65 (Wk K) [1,1,0,1,0,0,1,0,0,1,0] [X0] (zDi n av1 bv1 zeA zgo) :=
  zl (λ X=>z65 (Wk K) [1,1,0,1,0,0,1,0,0,1,0,0] [X0,X]) (by kernel_rfl) λ X1 hX =>
  (show ∀ k, zz7 K n X1 (ze8 P0 n k) (ze7 S0 n k) from zfg _ _ (zhb P0 n) (zha S0 n) (zz7 K n X1)
 (by intro _ _ _ _ hs;exact absurd hs dqk)
 (by intro P1 S1 hX1 av1 bv1 zeA zgo hs hk zqS;subst zqS;exact hX _ (zaZ (by kernel_rfl) (zc hs hk (λ hs hk=>(zHi hX0 hX1 hs hk rfl)) (λ hs hk=>(hX0 hs hk rfl)))))) _ hs hk zqS
def zdq (n:Net) (S0:Int->(Sl Tie)->(Net×Bool)) (av0:Int) (zet:(Sl Tie)):(Net×Bool) :=
  (cond (decide (av0 < n.Nodes))
 (zqQ S0 n av0 (w64 (av0+(1:Int))) zet)
 ((⟨n.Nodes,zet⟩:Net),true))
def zhc (n:Net) (P0:Int->(Sl Tie)->Bool) (av0:Int) (zet:(Sl Tie)):Bool :=
  (cond (decide (av0 < n.Nodes))
 (zqR P0 n av0 (w64 (av0+(1:Int))) zet)
 true)
def zdr (n:Net):Nat->Int->(Sl Tie)->(Net×Bool):=lpO (λ _ _=>default) (zdq n)
def zhd (n:Net):Nat->Int->(Sl Tie)->Bool:=lpO (λ _ _=>false) (zhc n)
def zAa (n:Net) (av0:Int) (zet:(Sl Tie)):(Net×Bool):=zdr n Fuel av0 zet
def zAb (n:Net) (av0:Int) (zet:(Sl Tie)):Bool:=zhd n Fuel av0 zet
theorem zHk (hs:zAb n av0 zet=true) (hk:K (e65 (zAa n av0 zet))) (zqT:zgn=zg enc_40 zet):z65 (Wk K) [1,1,0,1,0] [] (zDh n av0 zet zgn) :=
  zl (λ X=>z65 (Wk K) [1,1,0,1,0,0] [X]) (by kernel_rfl) λ X0 hX =>
  (show ∀ k, ztJ K n X0 (zhd n k) (zdr n k) from zfg _ _ (zhc n) (zdq n) (ztJ K n X0)
 (by intro _ _ _ hs;exact absurd hs dqk)
 (by intro P0 S0 hX0 av0 zet zgn hs hk zqT;subst zqT;exact hX _ (zaZ (by kernel_rfl) (zc hs hk (λ hs hk=>(zHj hX0 hs hk rfl)) (λ hs hk=>((zeK hk):Wk K [.agg [.int .i64 n.Nodes,.sl zet.len 4 (λ i=>enc_40 (zet.get i))],.one (.bool true)])))))) _ hs hk zqT
def s65 (n:Net):(Net×Bool) :=
  (zAa n (0:Int) (⟨0,(λ _=>default)⟩:Sl Tie))
def p65 (n:Net):Bool :=
  (zAb n (0:Int) (⟨0,(λ _=>default)⟩:Sl Tie))
end
theorem q65 (n:Net) (K:List PA->Prop) (hs:p65 n=true) (hk:K (e65 (s65 n))):vcFun Tryd.prog G65 zHd 65 [.agg (enc_24 n)] (Wk K) :=
  zaZ (by kernel_rfl) (zHk hs hk rfl)
def zHl : List PA → COut
  | [.agg [.int .i64 zae,.sl zad zaz zac]]=>.det (IsE enc_40 4 zaz zac/\p65 (⟨zae,(⟨zad,zam zac⟩:(Sl Tie))⟩:Net)=true) [.agg [.int .i64 (((s65 (⟨zae,(⟨zad,zam zac⟩:(Sl Tie))⟩:Net)).1).Nodes),.sl (((s65 (⟨zae,(⟨zad,zam zac⟩:(Sl Tie))⟩:Net)).1).Ties.len) 4 (λ i=>enc_40 (((s65 (⟨zae,(⟨zad,zam zac⟩:(Sl Tie))⟩:Net)).1).Ties.get i))],.one (.bool ((s65 (⟨zae,(⟨zad,zam zac⟩:(Sl Tie))⟩:Net)).2))]
  | _=>.no
theorem zKC:zar Tryd.prog 65:=⟨_,rfl,rfl,by kernel_rfl⟩
theorem zOo:Ok Tryd.prog 65 zHl:=zfC zMC zKC λ args K h=>by
  unfold zHl at h
  split at h
  · rename_i zae zad zaz zac
    obtain⟨⟨⟨rfl,zaq,rfl⟩,hs⟩,hk⟩:=h
    try rw[zak zaq] at hs
    try rw[zak zaq] at hk
    exact⟨_,zeI zeJ _,(λ _ _=>[]),(λ _=>false),zHd,q65 (⟨zae,(⟨zad,zaq⟩:(Sl Tie))⟩:Net) K hs hk⟩
  · exact h.elim
abbrev T19:Tabs:=((((((((Tabs.nil.addF 20 zGm).addF 21 zGl).addF 23 zGv).addF 38 zGJ).addF 42 zGM).addF 48 zGU).addF 64 zHc).addF 65 zHl)
theorem zMD:TabsOk Tryd.prog T19:=((((((((TabsOk.nil.addF zOd).addF zOc).addF zOf).addF zOi).addF zOj).addF zOk).addF zOn).addF zOo)
abbrev G19:Ctrs:=csm T19 (λ _ _=>[]) (λ _=>false)
def zHm:Ann:=⟨78,[(0,zK [1,2] [2]),(1,zK [1,2,16] [2]),(2,zK [4] []),(3,zK [1,2,5,6] [2,5]),(4,zK [1,2,5,6,25] [2,5]),(5,zK [4] []),(6,zK [1,2,5,6,7,8] [2,5,7]),(7,zK [1,2,5,6,7,42] [2,5,7]),(8,zK [4] []),(9,zK [4] [])],
 [],
 [(2,zK [1,2,16] [2]),(3,zK [1,2] [2]),(4,zK [1,2,5,6] [2,5]),(5,zK [1,2,5,6,25] [2,5]),(6,zK [1,2,5,6] [2,5]),(7,zK [1,2,5,6,7,8] [2,5,7]),(9,zK [1,2,5,6,7] [2,5,7])],
 [],[]⟩
abbrev R19:=Bool
abbrev e19 (r:R19):List PA:=[.one (.bool r)]
@[irreducible] def z19:=ptF Tryd.prog G19 zHm Tryd.f19
section
variable {K:List PA->Prop}{n:Net}{zaa:(Sl Int)}{zaL:Bool}{ev2:Int}{zb2:Int}{zbR:(Sl Tie)}{zAc:Nat->List PV}{zqU:Bool}{zHn:Bool}{zcm:Int}{zb1:(Sl Tie)}{zlV:Nat->List PV}
def zqV (n:Net) (zaa:(Sl Int)) (ev2:Int) (zb2:Int) (zbR:(Sl Tie)) (zcm:Int) (zb1:(Sl Tie)):Bool :=
  (cond (ev2 == (0:Int))
 (cond (s42 (⟨zb2, zbR⟩ : Net) (⟨zcm, zb1⟩ : Net))
 (cond ((s48 (⟨zb2, zbR⟩ : Net) zaa) == (s38 n zaa))
 true
 false)
 false)
 false)
def zqW (n:Net) (zaa:(Sl Int)) (ev2:Int) (zb2:Int) (zbR:(Sl Tie)) (zcm:Int) (zb1:(Sl Tie)):Bool :=
  (cond (ev2 == (0:Int))
 (decide ((p42 (⟨zb2,zbR⟩:Net) (⟨zcm,zb1⟩:Net)=true)) &&
 (cond (s42 (⟨zb2, zbR⟩ : Net) (⟨zcm, zb1⟩ : Net))
 (decide ((p48 (⟨zb2,zbR⟩:Net) zaa=true)) &&
 (decide ((p38 n zaa=true)) &&
 true))
 true))
 true)
theorem zHo (hs:zqW n zaa ev2 zb2 zbR zcm zb1=true) (hk:K (e19 (zqV n zaa ev2 zb2 zbR zcm zb1))):z19 K [1,1,1,1,1,1] [] ⟨[(1,zS enc_3 1 zaa),(2,zp 2 0),(5,zp 5 0),(6,zI ev2),(7,zp 7 0)],[(2,.box 24 (zm (enc_24 n))),(5,.box 24 (zm (enc_24 (⟨zb2,zbR⟩:Net)))),(7,.box 24 (zm (enc_24 (⟨zcm,zb1⟩:Net))))],[]⟩:=zaZ (by kernel_rfl) (zc hs hk (λ hs hk=>(zaT hs λ hc hs=>And.intro (And.intro (zE enc_40 4 zbR.get) (And.intro (zE enc_40 4 zb1.get) hc)) (zc hs hk (λ hs hk=>(zaT hs λ hc hs=>And.intro (And.intro (zE enc_40 4 zbR.get) (And.intro (zE enc_3 1 zaa.get) hc)) (zaT hs λ hc hs=>And.intro (And.intro (zE enc_40 4 n.Ties.get) (And.intro (zE enc_3 1 zaa.get) hc)) (zt hk (λ hk=>hk) (λ hk=>hk))))) (λ hs hk=>hk)))) (λ hs hk=>hk))
def zqX (n:Net) (zaa:(Sl Int)) (ev2:Int) (zb2:Int) (zbR:(Sl Tie)) (zHn:Bool) (zcm:Int) (zb1:(Sl Tie)):Bool :=
  (cond (!zHn)
 (cond (ev2 == (5:Int))
 (cond (s42 (⟨zb2, zbR⟩ : Net) (⟨(0:Int), (⟨0, λ _ => default⟩ : (Sl Tie))⟩ : Net))
 (cond (!(s38 n zaa))
 true
 false)
 false)
 false)
 (zqV n zaa ev2 zb2 zbR zcm zb1))
def zqY (n:Net) (zaa:(Sl Int)) (ev2:Int) (zb2:Int) (zbR:(Sl Tie)) (zHn:Bool) (zcm:Int) (zb1:(Sl Tie)):Bool :=
  (cond (!zHn)
 (cond (ev2 == (5:Int))
 (decide ((p42 (⟨zb2,zbR⟩:Net) (⟨(0:Int),(⟨0,λ _=>default⟩:(Sl Tie))⟩:Net)=true)) &&
 (cond (s42 (⟨zb2, zbR⟩ : Net) (⟨(0:Int), (⟨0, λ _ => default⟩ : (Sl Tie))⟩ : Net))
 (decide ((p38 n zaa=true)) &&
 true)
 true))
 true)
 (zqW n zaa ev2 zb2 zbR zcm zb1))
theorem zHp (hs:zqY n zaa ev2 zb2 zbR zHn zcm zb1=true) (hk:K (e19 (zqX n zaa ev2 zb2 zbR zHn zcm zb1))) (ztK:zlV=zg enc_40 zb1):z19 K [1,1,1,1,1] [] ⟨[(1,zS enc_3 1 zaa),(2,zp 2 0),(5,zp 5 0),(6,zI ev2),(7,zp 7 0),(8,zB zHn)],[(2,.box 24 (zm (enc_24 n))),(5,.box 24 (zm (enc_24 (⟨zb2,zbR⟩:Net)))),(7,.box 24 [zi zcm,.p (.sl zb1.len 4 zlV)])],[]⟩:=by subst ztK;exact zaZ (by kernel_rfl) (zc hs hk (λ hs hk=>(zc hs hk (λ hs hk=>(zaT hs λ hc hs=>And.intro (And.intro (zE enc_40 4 zbR.get) hc) (zc hs hk (λ hs hk=>(zaT hs λ hc hs=>And.intro (And.intro (zE enc_40 4 n.Ties.get) (And.intro (zE enc_3 1 zaa.get) hc)) (zt hk (λ hk=>hk) (λ hk=>hk)))) (λ hs hk=>hk)))) (λ hs hk=>hk))) (λ hs hk=>(zHo hs hk)))
def zqZ (n:Net) (zaa:(Sl Int)) (ev2:Int) (zb2:Int) (zbR:(Sl Tie)):Bool :=
  (zqX n zaa ev2 zb2 zbR ((s65 n).2) (((s65 n).1).Nodes) (((s65 n).1).Ties))
def zq0 (n:Net) (zaa:(Sl Int)) (ev2:Int) (zb2:Int) (zbR:(Sl Tie)):Bool :=
  (decide ((p65 n=true)) &&
 (zqY n zaa ev2 zb2 zbR ((s65 n).2) (((s65 n).1).Nodes) (((s65 n).1).Ties)))
theorem zHq (hs:zq0 n zaa ev2 zb2 zbR=true) (hk:K (e19 (zqZ n zaa ev2 zb2 zbR))):z19 K [1,1,1,1] [] ⟨[(1,zS enc_3 1 zaa),(2,zp 2 0),(5,zp 5 0),(6,zI ev2)],[(2,.box 24 (zm (enc_24 n))),(5,.box 24 (zm (enc_24 (⟨zb2,zbR⟩:Net))))],[]⟩:=zaZ (by kernel_rfl) (zaT hs λ hc hs=>And.intro (And.intro (zE enc_40 4 n.Ties.get) hc) (zHp hs hk rfl))
def zni (n:Net) (zaa:(Sl Int)) (ev2:Int) (zb2:Int) (zbR:(Sl Tie)) (zqU:Bool):Bool :=
  (cond zqU
 (cond (ev2 == (2:Int))
 (cond (s42 (⟨zb2, zbR⟩ : Net) (⟨(0:Int), (⟨0, λ _ => default⟩ : (Sl Tie))⟩ : Net))
 true
 false)
 false)
 (zqZ n zaa ev2 zb2 zbR))
def znj (n:Net) (zaa:(Sl Int)) (ev2:Int) (zb2:Int) (zbR:(Sl Tie)) (zqU:Bool):Bool :=
  (cond zqU
 (cond (ev2 == (2:Int))
 (decide ((p42 (⟨zb2,zbR⟩:Net) (⟨(0:Int),(⟨0,λ _=>default⟩:(Sl Tie))⟩:Net)=true)) &&
 true)
 true)
 (zq0 n zaa ev2 zb2 zbR))
theorem zHr (hs:znj n zaa ev2 zb2 zbR zqU=true) (hk:K (e19 (zni n zaa ev2 zb2 zbR zqU))):z19 K [1,1,1,0,1] [] ⟨[(1,zS enc_3 1 zaa),(2,zp 2 0),(5,zp 5 0),(6,zI ev2),(25,zB zqU)],[(2,.box 24 (zm (enc_24 n))),(5,.box 24 (zm (enc_24 (⟨zb2,zbR⟩:Net))))],[]⟩:=zaZ (by kernel_rfl) (zc hs hk (λ hs hk=>(zc hs hk (λ hs hk=>(zaT hs λ hc hs=>And.intro (And.intro (zE enc_40 4 zbR.get) hc) (zt hk (λ hk=>hk) (λ hk=>hk)))) (λ hs hk=>hk))) (λ hs hk=>(zHq hs hk)))
def zq1 (n:Net) (zaa:(Sl Int)) (ev2:Int) (zb2:Int) (zbR:(Sl Tie)):Bool :=
  (zni n zaa ev2 zb2 zbR (!(s23 n)))
def zq2 (n:Net) (zaa:(Sl Int)) (ev2:Int) (zb2:Int) (zbR:(Sl Tie)):Bool :=
  (decide ((p23 n=true)) &&
 (znj n zaa ev2 zb2 zbR (!(s23 n))))
theorem zHs (hs:zq2 n zaa ev2 zb2 zbR=true) (hk:K (e19 (zq1 n zaa ev2 zb2 zbR))) (zHt:zAc=zg enc_40 zbR):z19 K [1,1,1] [] ⟨[(1,zS enc_3 1 zaa),(2,zp 2 0),(5,zp 5 0),(6,zI ev2)],[(2,.box 24 (zm (enc_24 n))),(5,.box 24 [zi zb2,.p (.sl zbR.len 4 zAc)])],[]⟩:=by subst zHt;exact zaZ (by kernel_rfl) (zaT hs λ hc hs=>And.intro (And.intro (zE enc_40 4 n.Ties.get) hc) (zHr hs hk))
def znk (n:Net) (zaa:(Sl Int)):Bool :=
  (zq1 n zaa ((s64 n).2) (((s64 n).1).Nodes) (((s64 n).1).Ties))
def znl (n:Net) (zaa:(Sl Int)):Bool :=
  (decide ((p64 n=true)) &&
 (zq2 n zaa ((s64 n).2) (((s64 n).1).Nodes) (((s64 n).1).Ties)))
theorem zHu (hs:znl n zaa=true) (hk:K (e19 (znk n zaa))):z19 K [1,1] [] ⟨[(1,zS enc_3 1 zaa),(2,zp 2 0)],[(2,.box 24 (zm (enc_24 n)))],[]⟩:=zaZ (by kernel_rfl) (zaT hs λ hc hs=>And.intro (And.intro (zE enc_40 4 n.Ties.get) hc) (zHs hs hk rfl))
def znm (n:Net) (zaa:(Sl Int)) (zaL:Bool):Bool :=
  (cond zaL
 true
 (znk n zaa))
def znn (n:Net) (zaa:(Sl Int)) (zaL:Bool):Bool :=
  (cond zaL
 true
 (znl n zaa))
theorem zAd (hs:znn n zaa zaL=true) (hk:K (e19 (znm n zaa zaL))):z19 K [1,0,1] [] ⟨[(1,zS enc_3 1 zaa),(2,zp 2 0),(16,zB zaL)],[(2,.box 24 (zm (enc_24 n)))],[]⟩:=zaZ (by kernel_rfl) (zc hs hk (λ hs hk=>hk) (λ hs hk=>(zHu hs hk)))
def s19 (n:Net) (zaa:(Sl Int)):Bool :=
  (cond (!(s20 n (20:Int)))
 (znm n zaa true)
 (znm n zaa (decide ((zaa.len:Int) > (50:Int)))))
def p19 (n:Net) (zaa:(Sl Int)):Bool :=
  (cond (!(s20 n (20:Int)))
 (znn n zaa true)
 (znn n zaa (decide ((zaa.len:Int) > (50:Int)))))
end
theorem q19 (n:Net) (zaa:(Sl Int)) (K:List PA->Prop) (hs:p19 n zaa=true) (hk:K (e19 (s19 n zaa))):vcFun Tryd.prog G19 zHm 19 [.agg (enc_24 n),.one (.sl zaa.len 1 (λ i=>enc_3 (zaa.get i)))] K :=
  zaZ (by kernel_rfl) (And.intro (zE enc_40 4 n.Ties.get) (zc hs hk (λ hs hk=>(zAd hs hk)) (λ hs hk=>(zAd hs hk))))
def zKD : List PA → COut
  | [.agg [.int .i64 zae,.sl zad zaz zac],.one (.sl zdb zgC zc8)]=>.det (IsE enc_40 4 zaz zac/\IsE enc_3 1 zgC zc8/\p19 (⟨zae,(⟨zad,zam zac⟩:(Sl Tie))⟩:Net) (⟨zdb,zav zc8⟩:(Sl Int))=true) [.one (.bool (s19 (⟨zae,(⟨zad,zam zac⟩:(Sl Tie))⟩:Net) (⟨zdb,zav zc8⟩:(Sl Int))))]
  | _=>.no
theorem zKE:zar Tryd.prog 19:=⟨_,rfl,rfl,by kernel_rfl⟩
theorem ok19:Ok Tryd.prog 19 zKD:=zbu zMD zKE λ args K h=>by
  unfold zKD at h
  split at h
  · rename_i zae zad zaz zac zdb zgC zc8
    obtain⟨⟨⟨rfl,zaq,rfl⟩,⟨rfl,ze1,rfl⟩,hs⟩,hk⟩:=h
    try rw[zak zaq] at hs
    try rw[zak zaq] at hk
    try rw[za8 ze1] at hs
    try rw[za8 ze1] at hk
    exact⟨(λ _ _=>[]),(λ _=>false),zHm,q19 (⟨zae,(⟨zad,zaq⟩:(Sl Tie))⟩:Net) (⟨zdb,ze1⟩:(Sl Int)) K hs hk⟩
  · exact h.elim
end Go.Proofs
namespace Go.Proofs.YtedhjaaikeakoaaDoor
open Go Go.Pm Go.ChangeShapes
set_option maxRecDepth 100000
abbrev laid1 : List (String × DataW Unit) := [("overburden/align.never", Rows.laid_overburden_align_never)]
theorem zDk : Tryd.prog.globalNamed "overburden/align.never" = some 0 := by kernel_rfl
theorem zKF:(Tryd.prog.globals[0]?).map (·.type)=some 114:=by kernel_rfl
theorem zKG:Tryd.prog.cellsOf 114=2:=by kernel_rfl
theorem zNe:Tryd.prog.cellsOf 3=1:=by kernel_rfl
theorem door_met (os:Os) (args:Array Value):laidMetH Tryd.prog laid1 ((World.doorLaid Tryd.prog 400 os).forCall (λ _ _=>0) ⟨#[],args,[]⟩).memory :=
 laidMetH_of_parts3 (fuel:=8) (laidMet_of_run' 8 (by kernel_rfl) (by kernel_rfl)) (by kernel_rfl) (by kernel_rfl)
theorem gl_of {W:World}(h:laidMetH Tryd.prog laid1 W):zeh (H0 W):=by
 rw[MakeChecks.laidMetH_plain _ _ _ (by kernel_rfl)] at h
 obtain⟨ps,⟨g0,t0,cs0,f0,p0,q0,hg0,ht0,hv0,hd0,_,_⟩,_,_⟩:=h
 obtain rfl:=Option.some.inj (zDk.symm.trans hg0)
 obtain rfl:=Option.some.inj (zKF.symm.trans ht0)
 obtain⟨y0,y1,n,hx,hl,h0,h1⟩:=trod_struct2 Tryd.underlying114 hd0
 simp only[dqh] at hx
 obtain⟨hx,-⟩:=hx
 simp only[Rows.laid_overburden_align_never,DataW.agg.injEq,dqy,and_true] at hx
 obtain⟨k0,e0,d0,_⟩:=DataW.trod_int Tryd.underlying3 h0
 obtain⟨k1,e1,d1,_⟩:=DataW.trod_int Tryd.underlying3 h1
 rw[zKG] at hl
 have e0':cs0.toList.take 1=[.int .i64 k0]:=by
  have:=e0
  rw[show Tryd.prog.cellsOf _=1 from zNe] at this
  simpa using this
 have e1':(cs0.toList.drop 1).take 1=[.int .i64 k1]:=by
  have:=e1
  rw[show Tryd.prog.cellsOf _=1 from zNe] at this
  simpa using this
 have hk0:k0=1000000000000:=by have:=hx.1;rw[d0] at this;injection this with a;injection a with _ a;exact a.symm
 have hk1:k1=0:=by have:=hx.2;rw[d1] at this;injection this with a;injection a with _ a;exact a.symm
 have hC:cs0.toList=[.int .i64 1000000000000,.int .i64 0]:=by
  have h2:cs0.toList=cs0.toList.take 1 ++ (cs0.toList.drop 1).take 1:=by
   rw[<- List.take_add,List.take_of_length_le (by omega)]
  rw[h2,e0',e1',hk0,hk1];rfl
 intro k l hk
 unfold World.var? at hv0
 rw[zDk] at hv0
 simp only[Option.bind_some] at hv0
 cases k with
 | succ k=>cases hk
 | zero =>
  obtain rfl:[PV.int .i64 1000000000000,.int .i64 0]=l:=Option.some.inj hk
  cases eo:W.heap[0]? with
  | none=>rw[eo] at hv0;cases hv0
  | some o =>
   rw[eo] at hv0
   cases o with
   | cells C ty fr =>
    simp only[dqa] at hv0
    subst hv0
    exact⟨_,ty,fr,by unfold H0;rw[eo];rfl,by rw[hC];exact⟨.int _ _,.int _ _,trivial⟩⟩
   | _=>cases hv0
end Go.Proofs.YtedhjaaikeakoaaDoor
namespace Go.Proofs.YtedhjaaikeakoaaDoor
set_option maxRecDepth 100000
def dc : Nat → Nat → List Char
  | 0,_=>[]
  | k+1,n=>Char.ofNat (n % 128) :: dc k (n / 128)
def ioR:List (List Char):=[dc 2 14945,dc 38 107265865644741724912243125268531249640326942553430557205577479631290979090791279,dc 38 108293077817484906734254386447616441263814988321737617043972465573863363972791151,dc 38 93370879016013017278412803021783510280543711028000410236402271261457424383048559,dc 38 107258694022858408970435192345127867927486736974969802526482043864463718682819439,dc 39 13746719959472648153406769131206406626558510298776447130317981093147086104311724911,dc 38 107266209769642888316488957616301258915172789321380384129051881327065490379078511,dc 39 13738338888634744287462113483281891133786406809494667074737303271467843731645365103,dc 38 107308724040215521434011850380931925905298338556088488294726402895071789331348335,dc 43 3689337697451499537899652006011379275272339788637320245734945509069109267079825879406836591,dc 38 106339254617564648824502995819756623291246721172574690728430612464564447869500271,dc 38 107330772524736890892060720350443696785457349727637599143704802418857719933533039,dc 38 107266380701743786104986999119182321999123657451770743386930499759721679104342895,dc 38 107308728471136676073553801914045189487148679029700448428114571309412341010496367,dc 37 837954515553292543489687687552621780150771894250034810644180755742461368302447,dc 38 107287017468262091873827311208814906259154281073825133055543027267698112966785903,dc 38 107374028509112486977837548216825331243033985081330090052312008930171490580134767,dc 38 107265533895345759970156929786145176805363222797160045994169685653949991330872175]
def ioN:List Char:=dc 748 14110378018767575964226655308004126793045208087310171201555892242252648960690434620806224759478349222793457564936136773140206884019406577404308477398112682127111429688458091804136369451876026010391452929509304596612007749348823331848074321521876163367611471766311661795807971626777430789606670518996161301806853738256348343737238826384171739901612950230839336053519876648582653265928992265003442337249315020340640568624042171724319570015876863120612063908539839480788963015814409324055605425425582212723687691771037045010066064867754736841809752569547023397197010564985861497252960727260554984899190782686002829257997185443421456271698218584945985148990383891392482548262956659989814614329905290488435125286744085629934720469444029598243369313538259143807170350259387234145666063103371643809341342441092158617040725699310351084585854817129011753246127748964030413854525633190715875548631480060648955255476518703717934493416584654287151545453027212072361023366870608725576042669368667333719675724995494706645777621137060304017521484702088503639607947747215026989263530504204523251982333933107210391579300884546305432560571086131943194743723205005815139772394062686780566686930384812217785365992657908782936586832589627342388339882126362151219006413773645814561079952905486963953952063552645778936398310246717058410743450648594152841163565946295251582585294350653230459132165827590128826417871324965536217148578987470925657879977171716100377657863588641203253643922875913460814715430695689192746980757875303892414899783421563436119681070640173712093473782554642421452415184974056
theorem ioS:Tryd.prog.initOrder=String.ofList ioN:=by kernel_rfl
theorem ioL:Tryd.prog.initOrder.toList=ioN:=(congrArg String.toList ioS).trans String.toList_ofList
theorem ioW:wordsSigns Tryd.prog.initOrder.toList=(dc 7 509754063237352) :: (dc 64 583581952082889979719035725534559484815115086455805852996510235646750355970935781905203483690318741732481452225105900421668580921071669) :: (dc 3 1915619) :: ioR:=(congrArg wordsSigns ioL).trans (by kernel_rfl)
theorem ioB:behindMainWord (wordsSigns Tryd.prog.initOrder.toList)=(dc 3 1915619) :: ioR:=(congrArg behindMainWord ioW).trans (by kernel_rfl)
theorem zoI {P : Program} {l : List (List Char)} (h : behindMainWord (wordsSigns P.initOrder.toList) = l) : P.headLifts = (if (stripLifts liftWords l).2.head? == some "cut".toList then (stripLifts liftWords l).1 else []) := by subst h; rfl
theorem zHv {P:Program}{rest:List (List Char)}(h:behindMainWord (wordsSigns P.initOrder.toList)=(dc 3 1915619) :: rest):P.make=some .cut:=by unfold Program.make;rw[h];rfl
theorem zBZ {P:Program}{rest:List (List Char)}(h:behindMainWord (wordsSigns P.initOrder.toList)=(dc 3 1915619) :: rest) (hl:P.headLifts=[]):P.liftsFinal=false:=by unfold Program.liftsFinal;rw[h,hl];rfl
theorem zHw {P : Program} {a b : List Char} {rest : List (List Char)} (h : wordsSigns P.initOrder.toList = a :: b :: rest) (hs : isSumSigns b = true) (ha : (a == "harness".toList) = true) : P.mainIs = some (true, b) := by unfold Program.mainIs; rw [h]; simp only [hs, ha]; rfl
theorem zB0 {P : Program} {c : List Char} {rest : List (List Char)} (h : behindMainWord (wordsSigns P.initOrder.toList) = c :: rest) (hst : (stripLifts liftWords (c :: rest)).2.head? = some "cut".toList)
    (hs1:(stripLifts liftWords (c :: rest)).1=[]) (hlay:P.laysLater=false) (hb:P.bearsReflect=false) (hd:P.doorFits []=true):P.mayEnter=true:=by
  unfold Program.mayEnter
  rw[h]
  simp[hst,hs1,hlay,hb,hd]
theorem ioH:Tryd.prog.headLifts=[]:=(zoI ioB).trans (by kernel_rfl)
theorem ioK:Tryd.prog.make=some .cut:=zHv ioB
theorem ioF:Tryd.prog.liftsFinal=false:=zBZ ioB ioH
theorem ioM : Tryd.prog.mainIs = some (true, "5097d02014b7f9bdc457588f16a61179f96daee4a085c0a2c5462d863db43dbf".toList) := (zHw ioW (by kernel_rfl) (by kernel_rfl)).trans (by kernel_rfl)
theorem ioE:Tryd.prog.mayEnter=true:=zB0 ioB (by kernel_rfl) (by kernel_rfl) (by kernel_rfl) (by kernel_rfl) (by kernel_rfl)
end Go.Proofs.YtedhjaaikeakoaaDoor
namespace Go.Pm
open Go

theorem zdL {x:Int}(h1 : -9223372036854775808<=x) (h2:x<=9223372036854775807):w64 x=x:=by
 have hb:IntKind.i64.bits=64:=rfl
 have hs:IntKind.i64.signed=true:=rfl
 unfold w64 IntKind.wrap
 rw[hb,hs]
 simp only[Bool.true_and,decide_eq_true_eq]
 split <;> omega
theorem dqT {p:Prop} [Decidable p] (h:p):decide p=true:=decide_eq_true h
theorem dqF {p:Prop} [Decidable p] (h : ¬ p):decide p=false:=decide_eq_false h
theorem dqA {α:Type}(a b:α):cond true a b=a:=rfl
theorem dqB {α:Type}(a b:α):cond false a b=b:=rfl
theorem dqN (n:Nat):((n:Nat):Int).toNat=n:=Int.toNat_natCast n
theorem dqP {c:Prop}{h:Decidable c}(hc:c){α:Type}{t e:α} : ite c t e=t:=if_pos hc
theorem dqG {c:Prop}{h:Decidable c}(hc : ¬ c){α:Type}{t e:α} : ite c t e=e:=if_neg hc
def zNf (c : Nat → Bool) : Nat → Nat → Nat
  | 0,i=>i
  | m+1,i=>match c i with | true=>i | false=>zNf c m (i+1)
def fst (c:Nat->Bool) (n:Nat):Nat:=zNf c n 0
theorem zfJ {good : Nat → Bool} {fin : Bool} {n : Nat} {lpS lpP : Nat → Int → Bool}
    (hS:∀ (k i:Nat),i < n->lpS (k+1) (i:Int)=cond (good i) (lpS k (w64 ((i:Int)+(1:Int)))) false)
    (hE:∀ k,lpS (k+1) (n:Int)=fin)
    (hP:∀ (k i:Nat),i < n->lpP (k+1) (i:Int)=cond (good i) (lpP k (w64 ((i:Int)+(1:Int)))) true)
    (hPE:∀ k,lpP (k+1) (n:Int)=true) (hn:n<=9223372036854775807) :
    lpP Fuel 0=true/\(lpS Fuel 0=true↔(∀ i,i < n->good i=true)/\fin=true):=by
  have key:∀ (m k i:Nat),i+m=n->m < k->lpP k (i:Int)=true/\(lpS k (i:Int)=true↔(∀ j,i<=j->j < n->good j=true)/\fin=true):=by
    intro m
    induction m with
    | zero =>
      intro k i hi hk
      obtain⟨k,rfl⟩:∃ k',k=k'+1:=⟨k - 1,by omega⟩
      have:i=n:=by omega
      subst this
      rw[hE,hPE]
      exact⟨rfl,⟨λ h=>⟨λ j h1 h2=>absurd h2 (by omega),h⟩,λ h=>h.2⟩⟩
    | succ m ih =>
      intro k i hi hk
      obtain⟨k,rfl⟩:∃ k',k=k'+1:=⟨k - 1,by omega⟩
      rw[hS k i (by omega),hP k i (by omega)]
      have e3:w64 ((i:Int)+1)=((i+1:Nat):Int):=by rw[zdL (by omega) (by omega)];omega
      rw[e3]
      obtain⟨h1,h2⟩:=ih k (i+1) (by omega) (by omega)
      cases hg:good i
      · refine ⟨rfl, ⟨fun h => (by cases h), fun h => ?_⟩⟩
        have:=h.1 i (dqt _) (by omega)
        rw[hg] at this;cases this
      · refine ⟨h1, h2.trans ⟨fun h => ⟨fun j hj1 hj2 => ?_, h.2⟩, fun h => ⟨fun j hj1 hj2 => h.1 j (by omega) hj2, h.2⟩⟩⟩
        by_cases hji:j=i
        · rw[hji];exact hg
        · exact h.1 j (by omega) hj2
  have:=key n Fuel 0 (by omega) (by simp only[Fuel];omega)
  simpa using this

end Go.Pm
namespace Go.Pm
open Go
theorem zjo {i n:Nat}(h:i < n) (hn:n<=9223372036854775807):w64 ((i:Int)+(1:Int))=((i+1:Nat):Int):=by
 rw[zdL (by omega) (by omega)];omega
theorem zHx {β : Type} {good : Nat → Bool} {bad fin : β} {zHW : Bool} {n : Nat} {lpS : Nat → Int → β} {lpP : Nat → Int → Bool}
    (hS:∀ (k i:Nat),i < n->lpS (k+1) (i:Int)=cond (good i) (lpS k (w64 ((i:Int)+(1:Int)))) bad)
    (hE:∀ k,lpS (k+1) (n:Int)=fin)
    (hP:∀ (k i:Nat),i < n->lpP (k+1) (i:Int)=cond (good i) (lpP k (w64 ((i:Int)+(1:Int)))) true)
    (hPE:∀ k,lpP (k+1) (n:Int)=zHW) (hn:n<=9223372036854775807) :
    ((∀ i,i < n->good i=true)->lpP Fuel 0=zHW/\lpS Fuel 0=fin)/\((¬ ∀ i,i < n->good i=true)->lpP Fuel 0=true/\lpS Fuel 0=bad):=by
  have key:∀ (m k i:Nat),i+m=n->m < k->((∀ j,i<=j->j < n->good j=true)->lpP k (i:Int)=zHW/\lpS k (i:Int)=fin)/\((¬ ∀ j,i<=j->j < n->good j=true)->lpP k (i:Int)=true/\lpS k (i:Int)=bad):=by
    intro m
    induction m with
    | zero =>
      intro k i hi hk
      obtain⟨k,rfl⟩:∃ k',k=k'+1:=⟨k - 1,by omega⟩
      have:i=n:=by omega
      subst this
      rw[hE,hPE]
      exact⟨λ _=>⟨rfl,rfl⟩,λ h=>absurd (λ j h1 h2=>absurd h2 (by omega)) h⟩
    | succ m ih =>
      intro k i hi hk
      obtain⟨k,rfl⟩:∃ k',k=k'+1:=⟨k - 1,by omega⟩
      rw[hS k i (by omega),hP k i (by omega),zjo (n:=n) (by omega) hn]
      obtain⟨h1,h2⟩:=ih k (i+1) (by omega) (by omega)
      cases hg:good i
      · refine ⟨fun h => ?_, fun _ => ⟨rfl, rfl⟩⟩
        have:=h i (dqt _) (by omega)
        rw[hg] at this;cases this
      · refine ⟨fun h => h1 fun j a b => h j (by omega) b, fun h => h2 fun h' => h fun j a b => ?_⟩
        by_cases hji:j=i
        · rw[hji];exact hg
        · exact h' j (by omega) b
  have:=key n Fuel 0 (by omega) (by simp only[Fuel];omega)
  simpa using this
end Go.Pm
namespace Go.Proofs
open Go Go.Pm
set_option maxRecDepth 100000
theorem zlW (n a b:Int):s81 n a b=decide (a<=n/\n<=b):=by
 unfold s81
 by_cases h:a<=n
 ·rw[dqT (show n >= a from h),dqA];exact decide_eq_decide.2 ⟨λ k=>⟨h,k⟩,λ k=>k.2⟩
 ·rw[dqF (show ¬ n >= a from h),dqB];exact (dqF (λ k=>h k.1)).symm
theorem zsU (n a b:Int):s72 n a b=decide (a<=n/\n<=b):=zlW n a b
theorem zAe (n:Net) (hn:n.Ties.len<=9223372036854775807):p67 n=true/\(s67 n=true↔(∀ i,i < n.Ties.len->s78 (n.Ties.get i) n.Nodes=true)/\(1<=n.Nodes/\n.Nodes<=40)/\n.Ties.len<=200):=by
  have := zfJ (good := fun i => s78 (n.Ties.get i) n.Nodes) (fin := cond (s81 n.Nodes (1:Int) (40:Int)) (decide ((n.Ties.len : Int) ≤ (200:Int))) false) (n := n.Ties.len) (lpS := zib n) (lpP := zic n)
    (λ k i hi=>by
      show zh9 n (zib n k) (i:Int)=_
      generalize zib n k=S
      unfold zh9 zpx
      rw[dqT (show (i:Int) < (n.Ties.len:Int) by omega),dqA,dqN]
      cases s78 (n.Ties.get i) n.Nodes <;> rfl)
    (λ k=>by
      show zh9 n (zib n k) (n.Ties.len:Int)=_
      unfold zh9
      rw[dqF (show ¬ (n.Ties.len:Int) < (n.Ties.len:Int) by omega),dqB])
    (λ k i hi=>by
      show zia n (zic n k) (i:Int)=_
      generalize zic n k=S
      unfold zia zpy
      rw[dqT (show (i:Int) < (n.Ties.len:Int) by omega),dqA,dqN,dqT (show 0<=(i:Int)/\(i:Int) < (n.Ties.len:Int) by omega),Bool.true_and]
      cases s78 (n.Ties.get i) n.Nodes <;> rfl)
    (λ k=>by
      show zia n (zic n k) (n.Ties.len:Int)=_
      unfold zia
      rw[dqF (show ¬ (n.Ties.len:Int) < (n.Ties.len:Int) by omega),dqB])
    hn
  refine⟨this.1,this.2.trans ?_⟩
  rw[zlW]
  by_cases h:1<=n.Nodes/\n.Nodes<=40
  · rw[dqT h,dqA,decide_eq_true_eq];exact⟨λ k=>⟨k.1,h,by omega⟩,λ k=>⟨k.1,by omega⟩⟩
  · rw[dqF h,dqB];exact⟨λ k=>absurd k.2 (by decide),λ k=>absurd k.2.1 h⟩
end Go.Proofs
namespace Go.Proofs
open Go Go.Pm
set_option maxRecDepth 100000
set_option linter.unusedVariables false
attribute [local irreducible] Go.Pm.vcFun Go.Pm.vc Go.Pm.vcIter
end Go.Proofs
