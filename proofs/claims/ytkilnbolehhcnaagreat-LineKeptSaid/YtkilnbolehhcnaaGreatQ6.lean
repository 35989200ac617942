/- Part 6 of what the proof rests on: a machine that runs functions of the program on pure values, proved sound; the functions that the law reaches, and what they compute. -/
import Derived.Test.YtkilnbolehhcnaaGreatQ5
import Derived.Shelf.SlicesE.DeleteFunc
import Derived.Test.YtkilnbolehhcnaaGreatProg
set_option linter.all false
namespace Go.Proofs
open Go Go.Pm
set_option maxRecDepth 100000
set_option linter.unusedVariables false
attribute [local irreducible] Go.Pm.vcFun Go.Pm.vc Go.Pm.vcIter
abbrev T53:Tabs:=Tabs.nil
theorem zPX:TabsOk Tryz.prog T53:=TabsOk.nil
abbrev G53:Ctrs:=csm T53 (λ _ _=>[]) (λ _=>false)
def zMJ:Ann:=⟨47,[(0,zK [0,1,2,3,4,5] []),(1,zK [0,1,2,13] []),(2,zK [13,14] []),(3,zK [12] [])],
 [],
 [],
 [],[]⟩
abbrev R53:=Int
abbrev e53 (r:R53):List PA:=[.one (.int .i64 r)]
section
variable {K:List PA->Prop}{u:Int}{v:Int}{w:Int}{p:Int}{q:Int}{r_a5:Int}
def s53 (u:Int) (v:Int) (w:Int) (p:Int) (q:Int) (r_a5:Int):Int :=
  (w64 ((w64 ((w64 ((w64 ((1000:Int) * (if (w64 (0 - (w64 ((w64 ((w64 (r_a5 - q)) * (w64 (v - u)))) - (w64 ((w64 (q - p)) * (w64 (w - v)))))))) > (w64 ((w64 ((w64 (r_a5 - q)) * (w64 (v - u)))) - (w64 ((w64 (q - p)) * (w64 (w - v)))))) then (w64 (0 - (w64 ((w64 ((w64 (r_a5 - q)) * (w64 (v - u)))) - (w64 ((w64 (q - p)) * (w64 (w - v)))))))) else (w64 ((w64 ((w64 (r_a5 - q)) * (w64 (v - u)))) - (w64 ((w64 (q - p)) * (w64 (w - v)))))))))+(w64 ((w64 (v - u)) * (w64 (w - v)))))) - (1:Int))).tdiv (w64 ((w64 (v - u)) * (w64 (w - v))))))
def p53 (u:Int) (v:Int) (w:Int) (p:Int) (q:Int) (r_a5:Int):Bool :=
  (decide (((w64 ((w64 (v - u)) * (w64 (w - v)))) ≠ 0)) &&
 true)
end
theorem q53 (u:Int) (v:Int) (w:Int) (p:Int) (q:Int) (r_a5:Int) (K:List PA->Prop) (hs:p53 u v w p q r_a5=true) (hk:K (e53 (s53 u v w p q r_a5))):vcFun Tryz.prog G53 zMJ 53 [.one (.int .i64 u),.one (.int .i64 v),.one (.int .i64 w),.one (.int .i64 p),.one (.int .i64 q),.one (.int .i64 r_a5)] K :=
  zaN (by kernel_rfl) (zaI hs λ hc hs=>And.intro hc hk)
def zDX : List PA → COut
  | [.one (.int .i64 a0),.one (.int .i64 a1),.one (.int .i64 a2),.one (.int .i64 a3),.one (.int .i64 a4),.one (.int .i64 a5)]=>.det (p53 a0 a1 a2 a3 a4 a5=true) [.one (.int .i64 (s53 a0 a1 a2 a3 a4 a5))]
  | _=>.no
theorem zMK:zah Tryz.prog 53:=⟨_,rfl,rfl,by kernel_rfl⟩
theorem zQ1:Ok Tryz.prog 53 zDX:=za3 zPX zMK λ args K h=>by
  unfold zDX at h
  split at h
  · rename_i a0 a1 a2 a3 a4 a5
    obtain⟨hs,hk⟩:=h
    exact⟨(λ _ _=>[]),(λ _=>false),zMJ,q53 a0 a1 a2 a3 a4 a5 K hs hk⟩
  · exact h.elim
abbrev T52:Tabs:=(Tabs.nil.addF 53 zDX)
theorem zPY:TabsOk Tryz.prog T52:=(TabsOk.nil.addF zQ1)
abbrev G52:Ctrs:=csm T52 (λ _ _=>[]) (λ l=>Nat.beq l 15 || Nat.beq l 24)
def zIv:Ann:=⟨131,[(0,zK [0] []),(1,zK [0,3] []),(2,zK [0,3,4] [15]),(3,zK [0,3,4,5] [15]),(4,zK [0,3,4,5,19] [15]),(5,zK [0,3,4,5] [15]),(6,zK [0,3,4,5] [15]),(7,zK [0,3,4,5,6] [15]),(8,zK [0,3,4,5,6,37] [15]),(9,zK [0,3,4,5,6] [15]),(10,zK [0,3,4,5,6,7] [15]),(11,zK [0,3,4,5,6,7,53] [15]),(12,zK [0,3,4,5,6,7] [15]),(13,zK [0,3,4,5,6,7,59] [15]),(14,zK [0,3,4,5,6,7] [15]),(15,zK [0,3,4,5,6,7,8] [15]),(16,zK [0,3,4,5,6,7,8,9] [15]),(17,zK [0,3,4,5,6,7,8,9,80] [15]),(18,zK [0,3,4,5,6,7,8,9] [15]),(19,zK [0,3,4,5,6,7,8,9,10] [15]),(20,zK [0,3,4,5,6,7,8,9,10,120] [15]),(21,zK [0,3,4,5,6,7,8,9] [15]),(22,zK [0,3,4,5,6,7] [15]),(23,zK [2] [15])],
 [(4,zK [0,3,4,5] [15]),(8,zK [0,3,4,5,6] [15]),(11,zK [0,3,4,5,6,7] [15]),(17,zK [0,3,4,5,6,7,8,9] [15])],
 [(15,zK [0,3,4,5,6,7] [15]),(20,zK [0,3,4,5,6,7,8,9,10] [15])],
 [],[]⟩
abbrev R52:=(Sl Mp)
abbrev e52 (r:R52):List PA:=[.one (.sl r.len 1 (λ i=>zfb (r.get i)))]
@[irreducible] def z52:=ptF Tryz.prog G52 zIv Tryz.f52
def zE7 (zaa:(Sl Gate)) (iv0:Int) (zcH:Nat) (zcm:(Nat->Bool)) (zcn:(Nat->Nat)) (zc4:(Nat->List Int->Option (List Int))):St:=⟨[(0,zS enc_48 3 zaa),(3,zI (zaa.len:Int)),(4,zv 15),(5,zI iv0)],[(15,.vm 89 8 91 3 (true,2,false,[some .i64]) zcH zcm zcn zc4)],[]⟩
abbrev zsw (K:List PA->Prop) (zaa:(Sl Gate)) (X:St->Prop) (P:Int->Nat->(Nat->Bool)->(Nat->Nat)->(Nat->List Int->Option (List Int))->Bool) (S:Int->Nat->(Nat->Bool)->(Nat->Nat)->(Nat->List Int->Option (List Int))->(Sl Mp)):Prop:=∀ ⦃iv0:Int⦄ ⦃zcH:Nat⦄ ⦃zcm:(Nat->Bool)⦄ ⦃zcn:(Nat->Nat)⦄ ⦃zc4:(Nat->List Int->Option (List Int))⦄,P iv0 zcH zcm zcn zc4=true->K (e52 (S iv0 zcH zcm zcn zc4))->X (zE7 zaa iv0 zcH zcm zcn zc4)
def zE8 (zaa:(Sl Gate)) (iv1:Int) (pv1:Int) (zcV:Nat) (zcb:(Nat->Bool)) (zcc:(Nat->Nat)) (zcW:(Nat->List Int->Option (List Int))):St:=⟨[(0,zS enc_48 3 zaa),(3,zI (zaa.len:Int)),(4,zv 15),(5,zI iv1),(6,zI pv1)],[(15,.vm 89 8 91 3 (true,2,false,[some .i64]) zcV zcb zcc zcW)],[]⟩
abbrev zwq (K:List PA->Prop) (zaa:(Sl Gate)) (X:St->Prop) (P:Int->Int->Nat->(Nat->Bool)->(Nat->Nat)->(Nat->List Int->Option (List Int))->Bool) (S:Int->Int->Nat->(Nat->Bool)->(Nat->Nat)->(Nat->List Int->Option (List Int))->(Sl Mp)):Prop:=∀ ⦃iv1:Int⦄ ⦃pv1:Int⦄ ⦃zcV:Nat⦄ ⦃zcb:(Nat->Bool)⦄ ⦃zcc:(Nat->Nat)⦄ ⦃zcW:(Nat->List Int->Option (List Int))⦄,P iv1 pv1 zcV zcb zcc zcW=true->K (e52 (S iv1 pv1 zcV zcb zcc zcW))->X (zE8 zaa iv1 pv1 zcV zcb zcc zcW)
def zE9 (zaa:(Sl Gate)) (iv2:Int) (pv2:Int) (qv2:Int) (zcd:Nat) (zbQ:(Nat->Bool)) (zbK:(Nat->Nat)) (zb3:(Nat->List Int->Option (List Int))):St:=⟨[(0,zS enc_48 3 zaa),(3,zI (zaa.len:Int)),(4,zv 15),(5,zI iv2),(6,zI pv2),(7,zI qv2)],[(15,.vm 89 8 91 3 (true,2,false,[some .i64]) zcd zbQ zbK zb3)],[]⟩
abbrev zAh (K:List PA->Prop) (zaa:(Sl Gate)) (X:St->Prop) (P:Int->Int->Int->Nat->(Nat->Bool)->(Nat->Nat)->(Nat->List Int->Option (List Int))->Bool) (S:Int->Int->Int->Nat->(Nat->Bool)->(Nat->Nat)->(Nat->List Int->Option (List Int))->(Sl Mp)):Prop:=∀ ⦃iv2:Int⦄ ⦃pv2:Int⦄ ⦃qv2:Int⦄ ⦃zcd:Nat⦄ ⦃zbQ:(Nat->Bool)⦄ ⦃zbK:(Nat->Nat)⦄ ⦃zb3:(Nat->List Int->Option (List Int))⦄,P iv2 pv2 qv2 zcd zbQ zbK zb3=true->K (e52 (S iv2 pv2 qv2 zcd zbQ zbK zb3))->X (zE9 zaa iv2 pv2 qv2 zcd zbQ zbK zb3)
def zFa (zaa:(Sl Gate)) (qv3:Int) (iv4:Int) (pv4:Int) (zdD:Int) (rv4:Int) (zb4:Nat) (zbT:(Nat->Bool)) (zbU:(Nat->Nat)) (zbS:(Nat->List Int->Option (List Int))):St:=⟨[(0,zS enc_48 3 zaa),(3,zI (zaa.len:Int)),(4,zv 15),(5,zI iv4),(6,zI pv4),(7,zI qv3),(8,zI zdD),(9,zI rv4)],[(15,.vm 89 8 91 3 (true,2,false,[some .i64]) zb4 zbT zbU zbS)],[]⟩
abbrev zIw (K:List PA->Prop) (zaa:(Sl Gate)) (qv3:Int) (X:St->Prop) (P:Int->Int->Int->Int->Nat->(Nat->Bool)->(Nat->Nat)->(Nat->List Int->Option (List Int))->Bool) (S:Int->Int->Int->Int->Nat->(Nat->Bool)->(Nat->Nat)->(Nat->List Int->Option (List Int))->(Sl Mp)):Prop:=∀ ⦃iv4:Int⦄ ⦃pv4:Int⦄ ⦃zdD:Int⦄ ⦃rv4:Int⦄ ⦃zb4:Nat⦄ ⦃zbT:(Nat->Bool)⦄ ⦃zbU:(Nat->Nat)⦄ ⦃zbS:(Nat->List Int->Option (List Int))⦄,P iv4 pv4 zdD rv4 zb4 zbT zbU zbS=true->K (e52 (S iv4 pv4 zdD rv4 zb4 zbT zbU zbS))->X (zFa zaa qv3 iv4 pv4 zdD rv4 zb4 zbT zbU zbS)
section
variable {K:List PA->Prop}{zaa:(Sl Gate)}{iv0:Int}{zcH:Nat}{zcm:(Nat->Bool)}{zcn:(Nat->Nat)}{zc4:(Nat->List Int->Option (List Int))}{X0:St->Prop}{P0:Int->Nat->(Nat->Bool)->(Nat->Nat)->(Nat->List Int->Option (List Int))->Bool}{S0:Int->Nat->(Nat->Bool)->(Nat->Nat)->(Nat->List Int->Option (List Int))->(Sl Mp)}{iv1:Int}{pv1:Int}{zcV:Nat}{zcb:(Nat->Bool)}{zcc:(Nat->Nat)}{zcW:(Nat->List Int->Option (List Int))}{X1:St->Prop}{P1:Int->Int->Nat->(Nat->Bool)->(Nat->Nat)->(Nat->List Int->Option (List Int))->Bool}{S1:Int->Int->Nat->(Nat->Bool)->(Nat->Nat)->(Nat->List Int->Option (List Int))->(Sl Mp)}{iv2:Int}{pv2:Int}{qv2:Int}{zcd:Nat}{zbQ:(Nat->Bool)}{zbK:(Nat->Nat)}{zb3:(Nat->List Int->Option (List Int))}{X2:St->Prop}{P2:Int->Int->Int->Nat->(Nat->Bool)->(Nat->Nat)->(Nat->List Int->Option (List Int))->Bool}{S2:Int->Int->Int->Nat->(Nat->Bool)->(Nat->Nat)->(Nat->List Int->Option (List Int))->(Sl Mp)}{iv3:Int}{pv3:Int}{qv3:Int}{zh1:Nat}{zga:(Nat->Bool)}{zgb:(Nat->Nat)}{zh2:(Nat->List Int->Option (List Int))}{iv4:Int}{pv4:Int}{zdD:Int}{rv4:Int}{zb4:Nat}{zbT:(Nat->Bool)}{zbU:(Nat->Nat)}{zbS:(Nat->List Int->Option (List Int))}{X4:St->Prop}{P4:Int->Int->Int->Int->Nat->(Nat->Bool)->(Nat->Nat)->(Nat->List Int->Option (List Int))->Bool}{S4:Int->Int->Int->Int->Nat->(Nat->Bool)->(Nat->Nat)->(Nat->List Int->Option (List Int))->(Sl Mp)}{iv5:Int}{pv5:Int}{zgY:Int}{rv5:Int}{kv5:Int}{zeW:Nat}{zdU:(Nat->Bool)}{zdV:(Nat->Nat)}{zeX:(Nat->List Int->Option (List Int))}
def zAi (S0:Int->Nat->(Nat->Bool)->(Nat->Nat)->(Nat->List Int->Option (List Int))->(Sl Mp)) (S1:Int->Int->Nat->(Nat->Bool)->(Nat->Nat)->(Nat->List Int->Option (List Int))->(Sl Mp)) (S2:Int->Int->Int->Nat->(Nat->Bool)->(Nat->Nat)->(Nat->List Int->Option (List Int))->(Sl Mp)) (S4:Int->Int->Int->Int->Nat->(Nat->Bool)->(Nat->Nat)->(Nat->List Int->Option (List Int))->(Sl Mp)) (zaa:(Sl Gate)) (qv3:Int) (iv5:Int) (pv5:Int) (zgY:Int) (rv5:Int) (kv5:Int) (zeW:Nat) (zdU:(Nat->Bool)) (zdV:(Nat->Nat)) (zeX:(Nat->List Int->Option (List Int))):(Sl Mp) :=
  (cond (decide (zgY < (0:Int)))
 (S4 iv5 pv5 kv5 (w64 (rv5+(1:Int))) zeW zdU zdV zeX)
 (cond (decide (kv5 < zgY))
 (S4 iv5 pv5 kv5 (w64 (rv5+(1:Int))) zeW zdU zdV zeX)
 (S4 iv5 pv5 zgY (w64 (rv5+(1:Int))) zeW zdU zdV zeX)))
def zAj (P0:Int->Nat->(Nat->Bool)->(Nat->Nat)->(Nat->List Int->Option (List Int))->Bool) (P1:Int->Int->Nat->(Nat->Bool)->(Nat->Nat)->(Nat->List Int->Option (List Int))->Bool) (P2:Int->Int->Int->Nat->(Nat->Bool)->(Nat->Nat)->(Nat->List Int->Option (List Int))->Bool) (P4:Int->Int->Int->Int->Nat->(Nat->Bool)->(Nat->Nat)->(Nat->List Int->Option (List Int))->Bool) (zaa:(Sl Gate)) (qv3:Int) (iv5:Int) (pv5:Int) (zgY:Int) (rv5:Int) (kv5:Int) (zeW:Nat) (zdU:(Nat->Bool)) (zdV:(Nat->Nat)) (zeX:(Nat->List Int->Option (List Int))):Bool :=
  (cond (decide (zgY < (0:Int)))
 (P4 iv5 pv5 kv5 (w64 (rv5+(1:Int))) zeW zdU zdV zeX)
 (cond (decide (kv5 < zgY))
 (P4 iv5 pv5 kv5 (w64 (rv5+(1:Int))) zeW zdU zdV zeX)
 (P4 iv5 pv5 zgY (w64 (rv5+(1:Int))) zeW zdU zdV zeX)))
theorem zIx (hX0:zsw K zaa X0 P0 S0) (hX1:zwq K zaa X1 P1 S1) (hX2:zAh K zaa X2 P2 S2) (hX4:zIw K zaa qv3 X4 P4 S4) (hs:zAj P0 P1 P2 P4 zaa qv3 iv5 pv5 zgY rv5 kv5 zeW zdU zdV zeX=true) (hk:K (e52 (zAi S0 S1 S2 S4 zaa qv3 iv5 pv5 zgY rv5 kv5 zeW zdU zdV zeX))):z52 K [1,1,1,0,1,0,0,1,0,0,1,1,0,0,1,0,0,1,0,0,1,0,0,1,1,0,1,0,0,1,0,0,1] [X0,X1,X2,X4] ⟨[(0,zS enc_48 3 zaa),(3,zI (zaa.len:Int)),(4,zv 15),(5,zI iv5),(6,zI pv5),(7,zI qv3),(8,zI zgY),(9,zI rv5),(10,zI kv5)],[(15,.vm 89 8 91 3 (true,2,false,[some .i64]) zeW zdU zdV zeX)],[]⟩:=zaN (by kernel_rfl) (zc hs hk (λ hs hk=>(hX4 hs hk)) (λ hs hk=>(zc hs hk (λ hs hk=>(hX4 hs hk)) (λ hs hk=>(hX4 hs hk)))))
def zAk (S0:Int->Nat->(Nat->Bool)->(Nat->Nat)->(Nat->List Int->Option (List Int))->(Sl Mp)) (S1:Int->Int->Nat->(Nat->Bool)->(Nat->Nat)->(Nat->List Int->Option (List Int))->(Sl Mp)) (S2:Int->Int->Int->Nat->(Nat->Bool)->(Nat->Nat)->(Nat->List Int->Option (List Int))->(Sl Mp)) (zaa:(Sl Gate)) (qv3:Int) (S4:Int->Int->Int->Int->Nat->(Nat->Bool)->(Nat->Nat)->(Nat->List Int->Option (List Int))->(Sl Mp)) (iv4:Int) (pv4:Int) (zdD:Int) (rv4:Int) (zb4:Nat) (zbT:(Nat->Bool)) (zbU:(Nat->Nat)) (zbS:(Nat->List Int->Option (List Int))):(Sl Mp) :=
  (cond (decide (rv4 <= (zaa.get ((w64 (iv4 + (2:Int))).toNat)).High))
 (zAi S0 S1 S2 S4 zaa qv3 iv4 pv4 zdD rv4 (if (zff ((zbS ((w64 (iv4+(1:Int))).toNat)) [qv3,rv4]) 0) > (s53 ((zaa.get iv4.toNat).Z) ((zaa.get ((w64 (iv4+(1:Int))).toNat)).Z) ((zaa.get ((w64 (iv4+(2:Int))).toNat)).Z) pv4 qv3 rv4) then (zff ((zbS ((w64 (iv4+(1:Int))).toNat)) [qv3,rv4]) 0) else (s53 ((zaa.get iv4.toNat).Z) ((zaa.get ((w64 (iv4+(1:Int))).toNat)).Z) ((zaa.get ((w64 (iv4+(2:Int))).toNat)).Z) pv4 qv3 rv4)) zb4 zbT zbU zbS)
 (S2 iv4 pv4 (w64 (qv3+(1:Int))) zb4 zbT (zc7 iv4.toNat (addN ((zbS iv4.toNat) [pv4,qv3]) (zbU iv4.toNat)) zbU) (zc7 iv4.toNat (zgA [pv4,qv3] [zdD] (zbS iv4.toNat)) zbS)))
def zAl (P0:Int->Nat->(Nat->Bool)->(Nat->Nat)->(Nat->List Int->Option (List Int))->Bool) (P1:Int->Int->Nat->(Nat->Bool)->(Nat->Nat)->(Nat->List Int->Option (List Int))->Bool) (P2:Int->Int->Int->Nat->(Nat->Bool)->(Nat->Nat)->(Nat->List Int->Option (List Int))->Bool) (zaa:(Sl Gate)) (qv3:Int) (P4:Int->Int->Int->Int->Nat->(Nat->Bool)->(Nat->Nat)->(Nat->List Int->Option (List Int))->Bool) (iv4:Int) (pv4:Int) (zdD:Int) (rv4:Int) (zb4:Nat) (zbT:(Nat->Bool)) (zbU:(Nat->Nat)) (zbS:(Nat->List Int->Option (List Int))):Bool :=
  (decide ((0<=(w64 (iv4+(2:Int)))/\(w64 (iv4+(2:Int))) < (zaa.len:Int))) &&
 (cond (decide (rv4 <= (zaa.get ((w64 (iv4 + (2:Int))).toNat)).High))
 (decide ((0<=iv4/\iv4 < (zaa.len:Int))) &&
 (decide ((0<=(w64 (iv4+(1:Int)))/\(w64 (iv4+(1:Int))) < (zaa.len:Int))) &&
 (decide ((0<=(w64 (iv4+(2:Int)))/\(w64 (iv4+(2:Int))) < (zaa.len:Int))) &&
 (decide ((p53 ((zaa.get iv4.toNat).Z) ((zaa.get ((w64 (iv4+(1:Int))).toNat)).Z) ((zaa.get ((w64 (iv4+(2:Int))).toNat)).Z) pv4 qv3 rv4=true)) &&
 (decide ((0<=(w64 (iv4+(1:Int)))/\(w64 (iv4+(1:Int))) < (zb4:Int))) &&
 (decide (((w64 (iv4+(1:Int))).toNat < zb4/\zbT ((w64 (iv4+(1:Int))).toNat)=true)) &&
 (decide (((w64 (iv4+(1:Int))).toNat < zb4)) &&
 (zAj P0 P1 P2 P4 zaa qv3 iv4 pv4 zdD rv4 (if (zff ((zbS ((w64 (iv4+(1:Int))).toNat)) [qv3,rv4]) 0) > (s53 ((zaa.get iv4.toNat).Z) ((zaa.get ((w64 (iv4+(1:Int))).toNat)).Z) ((zaa.get ((w64 (iv4+(2:Int))).toNat)).Z) pv4 qv3 rv4) then (zff ((zbS ((w64 (iv4+(1:Int))).toNat)) [qv3,rv4]) 0) else (s53 ((zaa.get iv4.toNat).Z) ((zaa.get ((w64 (iv4+(1:Int))).toNat)).Z) ((zaa.get ((w64 (iv4+(2:Int))).toNat)).Z) pv4 qv3 rv4)) zb4 zbT zbU zbS))))))))
 (decide ((0<=iv4/\iv4 < (zb4:Int))) &&
 (decide ((iv4.toNat < zb4/\zbT iv4.toNat=true)) &&
 (decide ((iv4.toNat < zb4)) &&
 (P2 iv4 pv4 (w64 (qv3+(1:Int))) zb4 zbT (zc7 iv4.toNat (addN ((zbS iv4.toNat) [pv4,qv3]) (zbU iv4.toNat)) zbU) (zc7 iv4.toNat (zgA [pv4,qv3] [zdD] (zbS iv4.toNat)) zbS)))))))
def zAm (S0:Int->Nat->(Nat->Bool)->(Nat->Nat)->(Nat->List Int->Option (List Int))->(Sl Mp)) (S1:Int->Int->Nat->(Nat->Bool)->(Nat->Nat)->(Nat->List Int->Option (List Int))->(Sl Mp)) (S2:Int->Int->Int->Nat->(Nat->Bool)->(Nat->Nat)->(Nat->List Int->Option (List Int))->(Sl Mp)) (zaa:(Sl Gate)) (qv3:Int):Nat->Int->Int->Int->Int->Nat->(Nat->Bool)->(Nat->Nat)->(Nat->List Int->Option (List Int))->(Sl Mp):=lpO (λ _ _ _ _ _ _ _ _=>default) (zAk S0 S1 S2 zaa qv3)
def zAn (P0:Int->Nat->(Nat->Bool)->(Nat->Nat)->(Nat->List Int->Option (List Int))->Bool) (P1:Int->Int->Nat->(Nat->Bool)->(Nat->Nat)->(Nat->List Int->Option (List Int))->Bool) (P2:Int->Int->Int->Nat->(Nat->Bool)->(Nat->Nat)->(Nat->List Int->Option (List Int))->Bool) (zaa:(Sl Gate)) (qv3:Int):Nat->Int->Int->Int->Int->Nat->(Nat->Bool)->(Nat->Nat)->(Nat->List Int->Option (List Int))->Bool:=lpO (λ _ _ _ _ _ _ _ _=>false) (zAl P0 P1 P2 zaa qv3)
def zAo (S0:Int->Nat->(Nat->Bool)->(Nat->Nat)->(Nat->List Int->Option (List Int))->(Sl Mp)) (S1:Int->Int->Nat->(Nat->Bool)->(Nat->Nat)->(Nat->List Int->Option (List Int))->(Sl Mp)) (S2:Int->Int->Int->Nat->(Nat->Bool)->(Nat->Nat)->(Nat->List Int->Option (List Int))->(Sl Mp)) (zaa:(Sl Gate)) (qv3:Int) (iv4:Int) (pv4:Int) (zdD:Int) (rv4:Int) (zb4:Nat) (zbT:(Nat->Bool)) (zbU:(Nat->Nat)) (zbS:(Nat->List Int->Option (List Int))):(Sl Mp):=zAm S0 S1 S2 zaa qv3 Fuel iv4 pv4 zdD rv4 zb4 zbT zbU zbS
def zAp (P0:Int->Nat->(Nat->Bool)->(Nat->Nat)->(Nat->List Int->Option (List Int))->Bool) (P1:Int->Int->Nat->(Nat->Bool)->(Nat->Nat)->(Nat->List Int->Option (List Int))->Bool) (P2:Int->Int->Int->Nat->(Nat->Bool)->(Nat->Nat)->(Nat->List Int->Option (List Int))->Bool) (zaa:(Sl Gate)) (qv3:Int) (iv4:Int) (pv4:Int) (zdD:Int) (rv4:Int) (zb4:Nat) (zbT:(Nat->Bool)) (zbU:(Nat->Nat)) (zbS:(Nat->List Int->Option (List Int))):Bool:=zAn P0 P1 P2 zaa qv3 Fuel iv4 pv4 zdD rv4 zb4 zbT zbU zbS
theorem zIy (hX0:zsw K zaa X0 P0 S0) (hX1:zwq K zaa X1 P1 S1) (hX2:zAh K zaa X2 P2 S2) (hs:zAp P0 P1 P2 zaa qv3 iv4 pv4 zdD rv4 zb4 zbT zbU zbS=true) (hk:K (e52 (zAo S0 S1 S2 zaa qv3 iv4 pv4 zdD rv4 zb4 zbT zbU zbS))):z52 K [1,1,1,0,1,0,0,1,0,0,1,1,0,0,1,0,0,1,0,0,1,0,0,1,1,0,1,0] [X0,X1,X2] (zFa zaa qv3 iv4 pv4 zdD rv4 zb4 zbT zbU zbS) :=
  zl (λ X=>z52 K [1,1,1,0,1,0,0,1,0,0,1,1,0,0,1,0,0,1,0,0,1,0,0,1,1,0,1,0,0] [X0,X1,X2,X]) (by kernel_rfl) λ X4 hX =>
  (show ∀ k, zIw K zaa qv3 X4 (zAn P0 P1 P2 zaa qv3 k) (zAm S0 S1 S2 zaa qv3 k) from zgw _ _ (zAl P0 P1 P2 zaa qv3) (zAk S0 S1 S2 zaa qv3) (zIw K zaa qv3 X4)
 (by intro _ _ _ _ _ _ _ _ hs;exact absurd hs dqk)
 (by intro P4 S4 hX4 iv4 pv4 zdD rv4 zb4 zbT zbU zbS hs hk;exact hX _ (zaN (by kernel_rfl) (zaI hs λ hc hs=>And.intro hc (zc hs hk (λ hs hk=>(zaI hs λ hc hs=>And.intro hc (zaI hs λ hc hs=>And.intro hc (zaI hs λ hc hs=>And.intro hc (zaI hs λ hc hs=>And.intro hc (zaI hs λ hc hs=>And.intro hc (zaI hs λ hc hs=>And.intro hc (zaI hs λ hc hs=>And.intro hc (zIx hX0 hX1 hX2 hX4 hs hk))))))))) (λ hs hk=>(zaI hs λ hc hs=>And.intro hc (zaI hs λ hc hs=>And.intro hc (zaI hs λ hc hs=>And.intro hc (hX2 hs hk)))))))))) _ hs hk
def zAq (S0:Int->Nat->(Nat->Bool)->(Nat->Nat)->(Nat->List Int->Option (List Int))->(Sl Mp)) (S1:Int->Int->Nat->(Nat->Bool)->(Nat->Nat)->(Nat->List Int->Option (List Int))->(Sl Mp)) (S2:Int->Int->Int->Nat->(Nat->Bool)->(Nat->Nat)->(Nat->List Int->Option (List Int))->(Sl Mp)) (zaa:(Sl Gate)) (iv3:Int) (pv3:Int) (qv3:Int) (zh1:Nat) (zga:(Nat->Bool)) (zgb:(Nat->Nat)) (zh2:(Nat->List Int->Option (List Int))):(Sl Mp) :=
  (zAo S0 S1 S2 zaa qv3 iv3 pv3 (-1:Int) ((zaa.get ((w64 (iv3+(2:Int))).toNat)).Low) zh1 zga zgb zh2)
def zAr (P0:Int->Nat->(Nat->Bool)->(Nat->Nat)->(Nat->List Int->Option (List Int))->Bool) (P1:Int->Int->Nat->(Nat->Bool)->(Nat->Nat)->(Nat->List Int->Option (List Int))->Bool) (P2:Int->Int->Int->Nat->(Nat->Bool)->(Nat->Nat)->(Nat->List Int->Option (List Int))->Bool) (zaa:(Sl Gate)) (iv3:Int) (pv3:Int) (qv3:Int) (zh1:Nat) (zga:(Nat->Bool)) (zgb:(Nat->Nat)) (zh2:(Nat->List Int->Option (List Int))):Bool :=
  (decide ((0<=(w64 (iv3+(2:Int)))/\(w64 (iv3+(2:Int))) < (zaa.len:Int))) &&
 (zAp P0 P1 P2 zaa qv3 iv3 pv3 (-1:Int) ((zaa.get ((w64 (iv3+(2:Int))).toNat)).Low) zh1 zga zgb zh2))
theorem zIz (hX0:zsw K zaa X0 P0 S0) (hX1:zwq K zaa X1 P1 S1) (hX2:zAh K zaa X2 P2 S2) (hs:zAr P0 P1 P2 zaa iv3 pv3 qv3 zh1 zga zgb zh2=true) (hk:K (e52 (zAq S0 S1 S2 zaa iv3 pv3 qv3 zh1 zga zgb zh2))):z52 K [1,1,1,0,1,0,0,1,0,0,1,1,0,0,1,0,0,1,0,0,1,0,0,1] [X0,X1,X2] ⟨[(0,zS enc_48 3 zaa),(3,zI (zaa.len:Int)),(4,zv 15),(5,zI iv3),(6,zI pv3),(7,zI qv3)],[(15,.vm 89 8 91 3 (true,2,false,[some .i64]) zh1 zga zgb zh2)],[]⟩:=zaN (by kernel_rfl) (zaI hs λ hc hs=>And.intro hc (zIy hX0 hX1 hX2 hs hk))
def zAs (S0:Int->Nat->(Nat->Bool)->(Nat->Nat)->(Nat->List Int->Option (List Int))->(Sl Mp)) (S1:Int->Int->Nat->(Nat->Bool)->(Nat->Nat)->(Nat->List Int->Option (List Int))->(Sl Mp)) (zaa:(Sl Gate)) (S2:Int->Int->Int->Nat->(Nat->Bool)->(Nat->Nat)->(Nat->List Int->Option (List Int))->(Sl Mp)) (iv2:Int) (pv2:Int) (qv2:Int) (zcd:Nat) (zbQ:(Nat->Bool)) (zbK:(Nat->Nat)) (zb3:(Nat->List Int->Option (List Int))):(Sl Mp) :=
  (cond (decide (qv2 <= (zaa.get ((w64 (iv2 + (1:Int))).toNat)).High))
 (cond (iv2 == (w64 ((zaa.len : Int) - (2:Int))))
 (S2 iv2 pv2 (w64 (qv2+(1:Int))) zcd zbQ (zc7 iv2.toNat (addN ((zb3 iv2.toNat) [pv2,qv2]) (zbK iv2.toNat)) zbK) (zc7 iv2.toNat (zgA [pv2,qv2] [(0:Int)] (zb3 iv2.toNat)) zb3))
 (zAq S0 S1 S2 zaa iv2 pv2 qv2 zcd zbQ zbK zb3))
 (S1 iv2 (w64 (pv2+(1:Int))) zcd zbQ zbK zb3))
def zAt (P0:Int->Nat->(Nat->Bool)->(Nat->Nat)->(Nat->List Int->Option (List Int))->Bool) (P1:Int->Int->Nat->(Nat->Bool)->(Nat->Nat)->(Nat->List Int->Option (List Int))->Bool) (zaa:(Sl Gate)) (P2:Int->Int->Int->Nat->(Nat->Bool)->(Nat->Nat)->(Nat->List Int->Option (List Int))->Bool) (iv2:Int) (pv2:Int) (qv2:Int) (zcd:Nat) (zbQ:(Nat->Bool)) (zbK:(Nat->Nat)) (zb3:(Nat->List Int->Option (List Int))):Bool :=
  (decide ((0<=(w64 (iv2+(1:Int)))/\(w64 (iv2+(1:Int))) < (zaa.len:Int))) &&
 (cond (decide (qv2 <= (zaa.get ((w64 (iv2 + (1:Int))).toNat)).High))
 (cond (iv2 == (w64 ((zaa.len : Int) - (2:Int))))
 (decide ((0<=iv2/\iv2 < (zcd:Int))) &&
 (decide ((iv2.toNat < zcd/\zbQ iv2.toNat=true)) &&
 (decide ((iv2.toNat < zcd)) &&
 (P2 iv2 pv2 (w64 (qv2+(1:Int))) zcd zbQ (zc7 iv2.toNat (addN ((zb3 iv2.toNat) [pv2,qv2]) (zbK iv2.toNat)) zbK) (zc7 iv2.toNat (zgA [pv2,qv2] [(0:Int)] (zb3 iv2.toNat)) zb3)))))
 (zAr P0 P1 P2 zaa iv2 pv2 qv2 zcd zbQ zbK zb3))
 (P1 iv2 (w64 (pv2+(1:Int))) zcd zbQ zbK zb3)))
def zAu (S0:Int->Nat->(Nat->Bool)->(Nat->Nat)->(Nat->List Int->Option (List Int))->(Sl Mp)) (S1:Int->Int->Nat->(Nat->Bool)->(Nat->Nat)->(Nat->List Int->Option (List Int))->(Sl Mp)) (zaa:(Sl Gate)):Nat->Int->Int->Int->Nat->(Nat->Bool)->(Nat->Nat)->(Nat->List Int->Option (List Int))->(Sl Mp):=lpO (λ _ _ _ _ _ _ _=>default) (zAs S0 S1 zaa)
def zAv (P0:Int->Nat->(Nat->Bool)->(Nat->Nat)->(Nat->List Int->Option (List Int))->Bool) (P1:Int->Int->Nat->(Nat->Bool)->(Nat->Nat)->(Nat->List Int->Option (List Int))->Bool) (zaa:(Sl Gate)):Nat->Int->Int->Int->Nat->(Nat->Bool)->(Nat->Nat)->(Nat->List Int->Option (List Int))->Bool:=lpO (λ _ _ _ _ _ _ _=>false) (zAt P0 P1 zaa)
def zAw (S0:Int->Nat->(Nat->Bool)->(Nat->Nat)->(Nat->List Int->Option (List Int))->(Sl Mp)) (S1:Int->Int->Nat->(Nat->Bool)->(Nat->Nat)->(Nat->List Int->Option (List Int))->(Sl Mp)) (zaa:(Sl Gate)) (iv2:Int) (pv2:Int) (qv2:Int) (zcd:Nat) (zbQ:(Nat->Bool)) (zbK:(Nat->Nat)) (zb3:(Nat->List Int->Option (List Int))):(Sl Mp):=zAu S0 S1 zaa Fuel iv2 pv2 qv2 zcd zbQ zbK zb3
def zAx (P0:Int->Nat->(Nat->Bool)->(Nat->Nat)->(Nat->List Int->Option (List Int))->Bool) (P1:Int->Int->Nat->(Nat->Bool)->(Nat->Nat)->(Nat->List Int->Option (List Int))->Bool) (zaa:(Sl Gate)) (iv2:Int) (pv2:Int) (qv2:Int) (zcd:Nat) (zbQ:(Nat->Bool)) (zbK:(Nat->Nat)) (zb3:(Nat->List Int->Option (List Int))):Bool:=zAv P0 P1 zaa Fuel iv2 pv2 qv2 zcd zbQ zbK zb3
theorem zIA (hX0:zsw K zaa X0 P0 S0) (hX1:zwq K zaa X1 P1 S1) (hs:zAx P0 P1 zaa iv2 pv2 qv2 zcd zbQ zbK zb3=true) (hk:K (e52 (zAw S0 S1 zaa iv2 pv2 qv2 zcd zbQ zbK zb3))):z52 K [1,1,1,0,1,0,0,1,0,0,1,1,0,0,1,0,0,1,0] [X0,X1] (zE9 zaa iv2 pv2 qv2 zcd zbQ zbK zb3) :=
  zl (λ X=>z52 K [1,1,1,0,1,0,0,1,0,0,1,1,0,0,1,0,0,1,0,0] [X0,X1,X]) (by kernel_rfl) λ X2 hX =>
  (show ∀ k, zAh K zaa X2 (zAv P0 P1 zaa k) (zAu S0 S1 zaa k) from zgw _ _ (zAt P0 P1 zaa) (zAs S0 S1 zaa) (zAh K zaa X2)
 (by intro _ _ _ _ _ _ _ hs;exact absurd hs dqk)
 (by intro P2 S2 hX2 iv2 pv2 qv2 zcd zbQ zbK zb3 hs hk;exact hX _ (zaN (by kernel_rfl) (zaI hs λ hc hs=>And.intro hc (zc hs hk (λ hs hk=>(zc hs hk (λ hs hk=>(zaI hs λ hc hs=>And.intro hc (zaI hs λ hc hs=>And.intro hc (zaI hs λ hc hs=>And.intro hc (hX2 hs hk))))) (λ hs hk=>(zIz hX0 hX1 hX2 hs hk)))) (λ hs hk=>(hX1 hs hk))))))) _ hs hk
def zAy (S0:Int->Nat->(Nat->Bool)->(Nat->Nat)->(Nat->List Int->Option (List Int))->(Sl Mp)) (zaa:(Sl Gate)) (S1:Int->Int->Nat->(Nat->Bool)->(Nat->Nat)->(Nat->List Int->Option (List Int))->(Sl Mp)) (iv1:Int) (pv1:Int) (zcV:Nat) (zcb:(Nat->Bool)) (zcc:(Nat->Nat)) (zcW:(Nat->List Int->Option (List Int))):(Sl Mp) :=
  (cond (decide (pv1 <= (zaa.get iv1.toNat).High))
 (zAw S0 S1 zaa iv1 pv1 ((zaa.get ((w64 (iv1+(1:Int))).toNat)).Low) zcV zcb zcc zcW)
 (S0 (w64 (iv1 - (1:Int))) zcV zcb zcc zcW))
def zAz (P0:Int->Nat->(Nat->Bool)->(Nat->Nat)->(Nat->List Int->Option (List Int))->Bool) (zaa:(Sl Gate)) (P1:Int->Int->Nat->(Nat->Bool)->(Nat->Nat)->(Nat->List Int->Option (List Int))->Bool) (iv1:Int) (pv1:Int) (zcV:Nat) (zcb:(Nat->Bool)) (zcc:(Nat->Nat)) (zcW:(Nat->List Int->Option (List Int))):Bool :=
  (decide ((0<=iv1/\iv1 < (zaa.len:Int))) &&
 (cond (decide (pv1 <= (zaa.get iv1.toNat).High))
 (decide ((0<=(w64 (iv1+(1:Int)))/\(w64 (iv1+(1:Int))) < (zaa.len:Int))) &&
 (zAx P0 P1 zaa iv1 pv1 ((zaa.get ((w64 (iv1+(1:Int))).toNat)).Low) zcV zcb zcc zcW))
 (P0 (w64 (iv1 - (1:Int))) zcV zcb zcc zcW)))
def zAA (S0:Int->Nat->(Nat->Bool)->(Nat->Nat)->(Nat->List Int->Option (List Int))->(Sl Mp)) (zaa:(Sl Gate)):Nat->Int->Int->Nat->(Nat->Bool)->(Nat->Nat)->(Nat->List Int->Option (List Int))->(Sl Mp):=lpO (λ _ _ _ _ _ _=>default) (zAy S0 zaa)
def zAB (P0:Int->Nat->(Nat->Bool)->(Nat->Nat)->(Nat->List Int->Option (List Int))->Bool) (zaa:(Sl Gate)):Nat->Int->Int->Nat->(Nat->Bool)->(Nat->Nat)->(Nat->List Int->Option (List Int))->Bool:=lpO (λ _ _ _ _ _ _=>false) (zAz P0 zaa)
def zAC (S0:Int->Nat->(Nat->Bool)->(Nat->Nat)->(Nat->List Int->Option (List Int))->(Sl Mp)) (zaa:(Sl Gate)) (iv1:Int) (pv1:Int) (zcV:Nat) (zcb:(Nat->Bool)) (zcc:(Nat->Nat)) (zcW:(Nat->List Int->Option (List Int))):(Sl Mp):=zAA S0 zaa Fuel iv1 pv1 zcV zcb zcc zcW
def zAD (P0:Int->Nat->(Nat->Bool)->(Nat->Nat)->(Nat->List Int->Option (List Int))->Bool) (zaa:(Sl Gate)) (iv1:Int) (pv1:Int) (zcV:Nat) (zcb:(Nat->Bool)) (zcc:(Nat->Nat)) (zcW:(Nat->List Int->Option (List Int))):Bool:=zAB P0 zaa Fuel iv1 pv1 zcV zcb zcc zcW
theorem zIB (hX0:zsw K zaa X0 P0 S0) (hs:zAD P0 zaa iv1 pv1 zcV zcb zcc zcW=true) (hk:K (e52 (zAC S0 zaa iv1 pv1 zcV zcb zcc zcW))):z52 K [1,1,1,0,1,0,0,1,0,0,1,1,0] [X0] (zE8 zaa iv1 pv1 zcV zcb zcc zcW) :=
  zl (λ X=>z52 K [1,1,1,0,1,0,0,1,0,0,1,1,0,0] [X0,X]) (by kernel_rfl) λ X1 hX =>
  (show ∀ k, zwq K zaa X1 (zAB P0 zaa k) (zAA S0 zaa k) from zgw _ _ (zAz P0 zaa) (zAy S0 zaa) (zwq K zaa X1)
 (by intro _ _ _ _ _ _ hs;exact absurd hs dqk)
 (by intro P1 S1 hX1 iv1 pv1 zcV zcb zcc zcW hs hk;exact hX _ (zaN (by kernel_rfl) (zaI hs λ hc hs=>And.intro hc (zc hs hk (λ hs hk=>(zaI hs λ hc hs=>And.intro hc (zIA hX0 hX1 hs hk))) (λ hs hk=>(hX0 hs hk))))))) _ hs hk
def zAE (zaa:(Sl Gate)) (S0:Int->Nat->(Nat->Bool)->(Nat->Nat)->(Nat->List Int->Option (List Int))->(Sl Mp)) (iv0:Int) (zcH:Nat) (zcm:(Nat->Bool)) (zcn:(Nat->Nat)) (zc4:(Nat->List Int->Option (List Int))):(Sl Mp) :=
  (cond (decide (iv0 >= (0:Int)))
 (zAC S0 zaa iv0 ((zaa.get iv0.toNat).Low) zcH (zc7 iv0.toNat true zcm) (zc7 iv0.toNat 0 zcn) (zc7 iv0.toNat (λ _=>none) zc4))
 (⟨zcH,(λ i=>(⟨zcn i,zc4 i⟩:Mp))⟩:(Sl Mp)))
def zAF (zaa:(Sl Gate)) (P0:Int->Nat->(Nat->Bool)->(Nat->Nat)->(Nat->List Int->Option (List Int))->Bool) (iv0:Int) (zcH:Nat) (zcm:(Nat->Bool)) (zcn:(Nat->Nat)) (zc4:(Nat->List Int->Option (List Int))):Bool :=
  (cond (decide (iv0 >= (0:Int)))
 (decide ((0<=iv0/\iv0 < (zcH:Int))) &&
 (decide ((iv0.toNat < zcH/\zcm iv0.toNat=false)) &&
 (decide ((0<=iv0/\iv0 < (zaa.len:Int))) &&
 (zAD P0 zaa iv0 ((zaa.get iv0.toNat).Low) zcH (zc7 iv0.toNat true zcm) (zc7 iv0.toNat 0 zcn) (zc7 iv0.toNat (λ _=>none) zc4)))))
 true)
def zAG (zaa:(Sl Gate)):Nat->Int->Nat->(Nat->Bool)->(Nat->Nat)->(Nat->List Int->Option (List Int))->(Sl Mp):=lpO (λ _ _ _ _ _=>default) (zAE zaa)
def zAH (zaa:(Sl Gate)):Nat->Int->Nat->(Nat->Bool)->(Nat->Nat)->(Nat->List Int->Option (List Int))->Bool:=lpO (λ _ _ _ _ _=>false) (zAF zaa)
def zAI (zaa:(Sl Gate)) (iv0:Int) (zcH:Nat) (zcm:(Nat->Bool)) (zcn:(Nat->Nat)) (zc4:(Nat->List Int->Option (List Int))):(Sl Mp):=zAG zaa Fuel iv0 zcH zcm zcn zc4
def zAJ (zaa:(Sl Gate)) (iv0:Int) (zcH:Nat) (zcm:(Nat->Bool)) (zcn:(Nat->Nat)) (zc4:(Nat->List Int->Option (List Int))):Bool:=zAH zaa Fuel iv0 zcH zcm zcn zc4
theorem zIC (hs:zAJ zaa iv0 zcH zcm zcn zc4=true) (hk:K (e52 (zAI zaa iv0 zcH zcm zcn zc4))):z52 K [1,1,1,0,1,0] [] (zE7 zaa iv0 zcH zcm zcn zc4) :=
  zl (λ X=>z52 K [1,1,1,0,1,0,0] [X]) (by kernel_rfl) λ X0 hX =>
  (show ∀ k, zsw K zaa X0 (zAH zaa k) (zAG zaa k) from zgw _ _ (zAF zaa) (zAE zaa) (zsw K zaa X0)
 (by intro _ _ _ _ _ hs;exact absurd hs dqk)
 (by intro P0 S0 hX0 iv0 zcH zcm zcn zc4 hs hk;exact hX _ (zaN (by kernel_rfl) (zc hs hk (λ hs hk=>(zaI hs λ hc hs=>And.intro hc (zaI hs λ hc hs=>And.intro hc (zaI hs λ hc hs=>And.intro hc (zIB hX0 hs hk))))) (λ hs hk=>hk))))) _ hs hk
def s52 (zaa:(Sl Gate)):(Sl Mp) :=
  (zAI zaa (w64 ((zaa.len:Int) - (2:Int))) ((w64 ((zaa.len:Int) - (1:Int))).toNat) (λ _=>false) (λ _=>0) (λ _ _=>none))
def p52 (zaa:(Sl Gate)):Bool :=
  (decide ((0<=(w64 ((zaa.len:Int) - (1:Int)))/\(w64 ((zaa.len:Int) - (1:Int)))=(w64 ((zaa.len:Int) - (1:Int)))/\(w64 ((zaa.len:Int) - (1:Int)))<=1000000)) &&
 (zAJ zaa (w64 ((zaa.len:Int) - (2:Int))) ((w64 ((zaa.len:Int) - (1:Int))).toNat) (λ _=>false) (λ _=>0) (λ _ _=>none)))
end
theorem q52 (zaa:(Sl Gate)) (K:List PA->Prop) (hs:p52 zaa=true) (hk:K (e52 (s52 zaa))):vcFun Tryz.prog G52 zIv 52 [.one (.sl zaa.len 3 (λ i=>enc_48 (zaa.get i)))] K :=
  zaN (by kernel_rfl) (zaI hs λ hc hs=>And.intro hc (zIC hs hk))
def zID : List PA → COut
  | [.one (.sl zaU zcu zaV)]=>.det (IsE enc_48 3 zcu zaV/\p52 (⟨zaU,zaf zaV⟩:(Sl Gate))=true) [.one (.sl ((s52 (⟨zaU,zaf zaV⟩:(Sl Gate))).len) 1 (λ i=>zfb ((s52 (⟨zaU,zaf zaV⟩:(Sl Gate))).get i)))]
  | _=>.no
theorem zML:zah Tryz.prog 52:=⟨_,rfl,rfl,by kernel_rfl⟩
theorem zR1:Ok Tryz.prog 52 zID:=za3 zPY zML λ args K h=>by
  unfold zID at h
  split at h
  · rename_i zaU zcu zaV
    obtain⟨⟨⟨rfl,zbF,rfl⟩,hs⟩,hk⟩:=h
    try rw[zae zbF] at hs
    try rw[zae zbF] at hk
    exact⟨(λ _ _=>[]),(λ l=>Nat.beq l 15 || Nat.beq l 24),zIv,q52 (⟨zaU,zbF⟩:(Sl Gate)) K hs hk⟩
  · exact h.elim
def zQ2 (a b:Int):List Int:=(List.range (b - a+1).toNat).map λ (i:Nat)=>a+i
def znz (zaa:Sl Gate):List (List Int):=(zQ2 (zaa.get 0).Low (zaa.get 0).High).flatMap λ p=>(zQ2 (zaa.get 1).Low (zaa.get 1).High).map λ q=>[p,q]
abbrev T25:Tabs:=(((Tabs.nil.addF 51 zIu).addF 52 zID).addF 53 zDX)
theorem zPZ:TabsOk Tryz.prog T25:=(((TabsOk.nil.addF zR0).addF zR1).addF zQ1)
abbrev G25:Ctrs:=csm T25 (λ _ _=>[]) (λ _=>false)
def zbr:Ann:=⟨145,[(0,zK [0] []),(1,zK [0,18] []),(2,zK [2,3,4] []),(3,zK [0,5] []),(4,zK [0,5,6] []),(5,zK [0,5,6,24] [24]),(6,zK [0,5,6,24,26] [24]),(7,zK [0,5,6,8,24] [24]),(8,zK [0,5,6,8,24,35] [24]),(9,zK [0,5,6,24] [24]),(10,zK [0,5,6,9] []),(11,zK [0,5,6,9,10] []),(12,zK [0,5,6,9,10,46] []),(13,zK [0,5,6,9,10] []),(14,zK [0,5,6,9,10,11] []),(15,zK [0,5,6,9,10,11,58] []),(16,zK [0,5,6,9,10,11] []),(17,zK [0,5,6,9,10,11,69] []),(18,zK [0,5,6,9] [72]),(19,zK [0,5,6,9,12] [72]),(20,zK [0,5,6,9,12,76] [72]),(21,zK [0,5,6,9,12] [72]),(22,zK [0,5,6,9,12,13,14] [72]),(23,zK [0,5,6,9,12,13,14,15] [72]),(24,zK [0,5,6,9,12,13,14,15,100] [72]),(25,zK [0,5,6,9,12,13,14,15] [72]),(26,zK [0,5,6,9,12,13,14,15,138] [72]),(27,zK [0,5,6,9,12] [72]),(28,zK [2,3,4] [72])],
 [(6,zK [0,5,6,24] [24]),(12,zK [0,5,6,9,10] []),(15,zK [0,5,6,9,10,11] []),(20,zK [0,5,6,9,12] [72]),(24,zK [0,5,6,9,12,13,14,15] [72])],
 [(2,zK [0,18] []),(3,zK [0] []),(4,zK [0,5] []),(10,zK [0,5,6] []),(19,⟨[0,5,6,9],[72],[(9,72,3,λ _=>zak default)],[],[],[],[]⟩),(27,zK [0,5,6,9,12,13,14,15,138] [72])],
 [],[]⟩
def zMM (zaa:(Sl Gate)) (zh3:Bool):St:=⟨[(0,.one (.c (.p (.sl zaa.len 3 (λ i=>enc_48 (zaa.get i)))))),(18,.one (.c (.p (.bool zh3))))],[],[]⟩
def zoS (K:List PA->Prop) (zaa:(Sl Gate)) (zh3:Bool):Prop:=vc Tryz.prog G25 zbr (cdF Tryz.f25 [1,0,0,1]) (sqK Tryz.prog G25 zbr (cdF Tryz.f25 [1,0,1]) (zbl (zd3 Tryz.prog Tryz.f25 K))) (zMM zaa zh3)
def zMN (zaa:(Sl Gate)):St:=⟨[(0,.one (.c (.p (.sl zaa.len 3 (λ i=>enc_48 (zaa.get i))))))],[],[]⟩
def zoT (K:List PA->Prop) (zaa:(Sl Gate)):Prop:=vc Tryz.prog G25 zbr (cdF Tryz.f25 [1,0,1]) (zbl (zd3 Tryz.prog Tryz.f25 K)) (zMN zaa)
def zMO (zaa:(Sl Gate)) (zl8:Nat) (zfD:Nat->List PV):St:=⟨[(0,.one (.c (.p (.sl zaa.len 3 (λ i=>enc_48 (zaa.get i)))))),(5,.one (.c (.p (.sl zl8 1 zfD))))],[],[]⟩
def zoU (K:List PA->Prop) (zaa:(Sl Gate)) (zl8:Nat) (zfD:Nat->List PV):Prop:=vc Tryz.prog G25 zbr (cdF Tryz.f25 [1,0,1,1]) (zbl (zd3 Tryz.prog Tryz.f25 K)) (zMO zaa zl8 zfD)
def ziM (zaa:(Sl Gate)) (zab:(Sl Mp)) (zbk:(List (List Int))) (zaY:Int):St:=⟨[(0,.one (.c (.p (.sl zaa.len 3 (λ i=>enc_48 (zaa.get i)))))),(5,.one (.c (.p (.sl zab.len 1 (λ i=>zfb (zab.get i)))))),(6,.one (.c (.p (.int .i64 zaY)))),(24,.one (.c (.ptr 24 0)))],[(24,.mit (true,2,false,[some .i64]) ((zab.get 0).n) ((zab.get 0).F) zbk)],[]⟩
def zl9 (K:List PA->Prop) (zaa:(Sl Gate)) (zab:(Sl Mp)) (zbk:(List (List Int))) (zaY:Int):Prop:=vc Tryz.prog G25 zbr (cdF Tryz.f25 [1,0,1,1,1,0,1,0]) (zaG 0 (sqK Tryz.prog G25 zbr (cdF Tryz.f25 [1,0,1,1,1,1]) (zbl (zd3 Tryz.prog Tryz.f25 K)))) (ziM zaa zab zbk zaY)
def zMP (zaa:(Sl Gate)) (zab:(Sl Mp)) (zex:Int):St:=⟨[(0,.one (.c (.p (.sl zaa.len 3 (λ i=>enc_48 (zaa.get i)))))),(5,.one (.c (.p (.sl zab.len 1 (λ i=>zfb (zab.get i)))))),(6,.one (.c (.p (.int .i64 zex))))],[],[]⟩
def zoV (K:List PA->Prop) (zaa:(Sl Gate)) (zab:(Sl Mp)) (zex:Int):Prop:=vc Tryz.prog G25 zbr (cdF Tryz.f25 [1,0,1,1,1,1]) (zbl (zd3 Tryz.prog Tryz.f25 K)) (zMP zaa zab zex)
def zka (zaa:(Sl Gate)) (zab:(Sl Mp)) (zbm:Int) (pv5:Int):St:=⟨[(0,.one (.c (.p (.sl zaa.len 3 (λ i=>enc_48 (zaa.get i)))))),(5,.one (.c (.p (.sl zab.len 1 (λ i=>zfb (zab.get i)))))),(6,.one (.c (.p (.int .i64 zbm)))),(9,.one (.c (.p (.nils)))),(10,.one (.c (.p (.int .i64 pv5))))],[],[]⟩
def zma (K:List PA->Prop) (zaa:(Sl Gate)) (zab:(Sl Mp)) (zbm:Int) (pv5:Int):Prop:=vc Tryz.prog G25 zbr (cdF Tryz.f25 [1,0,1,1,1,1,1,1,0,1,0]) (zaG 2 (sqK Tryz.prog G25 zbr (cdF Tryz.f25 [1,0,1,1,1,1,1,1,1]) (zbl (zd3 Tryz.prog Tryz.f25 K)))) (zka zaa zab zbm pv5)
def zmb (zaa:(Sl Gate)) (zab:(Sl Mp)) (zbh:Int) (pv6:Int) (qv6:Int):St:=⟨[(0,.one (.c (.p (.sl zaa.len 3 (λ i=>enc_48 (zaa.get i)))))),(5,.one (.c (.p (.sl zab.len 1 (λ i=>zfb (zab.get i)))))),(6,.one (.c (.p (.int .i64 zbh)))),(9,.one (.c (.p (.nils)))),(10,.one (.c (.p (.int .i64 pv6)))),(11,.one (.c (.p (.int .i64 qv6))))],[],[]⟩
def zmc (K:List PA->Prop) (X5:St->Prop) (zaa:(Sl Gate)) (zab:(Sl Mp)) (zbh:Int) (pv6:Int) (qv6:Int):Prop:=vc Tryz.prog G25 zbr (cdF Tryz.f25 [1,0,1,1,1,1,1,1,0,1,0,0,1,0,0,1,0]) (zaG 4 (zaG 3 (sqK Tryz.prog G25 zbr (cdF Tryz.f25 [1,0,1,1,1,1,1,1,0,1,0,0,1,1]) (zcA Tryz.prog zbr 12 X5 (zaG 2 (sqK Tryz.prog G25 zbr (cdF Tryz.f25 [1,0,1,1,1,1,1,1,1]) (zbl (zd3 Tryz.prog Tryz.f25 K)))))))) (zmb zaa zab zbh pv6 qv6)
def zMQ (zaa:(Sl Gate)) (zab:(Sl Mp)) (zey:Int) (zsx:Nat) (zjB:Nat->List PV):St:=⟨[(0,.one (.c (.p (.sl zaa.len 3 (λ i=>enc_48 (zaa.get i)))))),(5,.one (.c (.p (.sl zab.len 1 (λ i=>zfb (zab.get i)))))),(6,.one (.c (.p (.int .i64 zey)))),(9,.one (.c (.vec 72)))],[(72,.vec 3 1 8 zsx zjB)],[]⟩
def zmd (K:List PA->Prop) (zaa:(Sl Gate)) (zab:(Sl Mp)) (zey:Int) (zsx:Nat) (zjB:Nat->List PV):Prop:=vc Tryz.prog G25 zbr (cdF Tryz.f25 [1,0,1,1,1,1,1,1,1]) (zbl (zd3 Tryz.prog Tryz.f25 K)) (zMQ zaa zab zey zsx zjB)
def zhB (zaa:(Sl Gate)) (zab:(Sl Mp)) (zbj:Int) (iv8:Int) (zgZ:Nat) (zco:Nat->List PV):St:=⟨[(0,.one (.c (.p (.sl zaa.len 3 (λ i=>enc_48 (zaa.get i)))))),(5,.one (.c (.p (.sl zab.len 1 (λ i=>zfb (zab.get i)))))),(6,.one (.c (.p (.int .i64 zbj)))),(9,.one (.c (.vec 72))),(12,.one (.c (.p (.int .i64 iv8))))],[(72,.vec 3 1 8 zgZ zco)],[]⟩
def zme (K:List PA->Prop) (zaa:(Sl Gate)) (zab:(Sl Mp)) (zbj:Int) (iv8:Int) (zgZ:Nat) (zco:Nat->List PV):Prop:=vc Tryz.prog G25 zbr (cdF Tryz.f25 [1,0,1,1,1,1,1,1,1,0,1,0]) (zaG 6 (sqK Tryz.prog G25 zbr (cdF Tryz.f25 [1,0,1,1,1,1,1,1,1,1]) (zbl (zd3 Tryz.prog Tryz.f25 K)))) (zhB zaa zab zbj iv8 zgZ zco)
def zkb (zaa:(Sl Gate)) (zab:(Sl Mp)) (zaZ:Int) (iv9:Int) (pv9:Int) (qv9:Int) (rv9:Int) (zg0:Nat) (zcI:Nat->List PV):St:=⟨[(0,.one (.c (.p (.sl zaa.len 3 (λ i=>enc_48 (zaa.get i)))))),(5,.one (.c (.p (.sl zab.len 1 (λ i=>zfb (zab.get i)))))),(6,.one (.c (.p (.int .i64 zaZ)))),(9,.one (.c (.vec 72))),(12,.one (.c (.p (.int .i64 iv9)))),(13,.one (.c (.p (.int .i64 pv9)))),(14,.one (.c (.p (.int .i64 qv9)))),(15,.one (.c (.p (.int .i64 rv9))))],[(72,.vec 3 1 8 zg0 zcI)],[]⟩
def zmf (K:List PA->Prop) (X8:St->Prop) (zaa:(Sl Gate)) (zab:(Sl Mp)) (zaZ:Int) (iv9:Int) (pv9:Int) (qv9:Int) (rv9:Int) (zg0:Nat) (zcI:Nat->List PV):Prop:=vc Tryz.prog G25 zbr (cdF Tryz.f25 [1,0,1,1,1,1,1,1,1,0,1,0,0,1,0,0,1,1,0]) (zaG 8 (zaG 7 (sqK Tryz.prog G25 zbr (cdF Tryz.f25 [1,0,1,1,1,1,1,1,1,0,1,0,0,1,1]) (zcA Tryz.prog zbr 20 X8 (zaG 6 (sqK Tryz.prog G25 zbr (cdF Tryz.f25 [1,0,1,1,1,1,1,1,1,1]) (zbl (zd3 Tryz.prog Tryz.f25 K)))))))) (zkb zaa zab zaZ iv9 pv9 qv9 rv9 zg0 zcI)
def zIE (zaa:(Sl Gate)) (zab:(Sl Mp)) (zcX:Int) (zgx:Int) (zqW:Int) (zqX:Int) (zmR:Int) (zdz:Bool) (zoW:Nat) (zho:Nat->List PV):St:=⟨[(0,.one (.c (.p (.sl zaa.len 3 (λ i=>enc_48 (zaa.get i)))))),(5,.one (.c (.p (.sl zab.len 1 (λ i=>zfb (zab.get i)))))),(6,.one (.c (.p (.int .i64 zcX)))),(9,.one (.c (.vec 72))),(12,.one (.c (.p (.int .i64 zgx)))),(13,.one (.c (.p (.int .i64 zqW)))),(14,.one (.c (.p (.int .i64 zqX)))),(15,.one (.c (.p (.int .i64 zmR)))),(138,.one (.c (.p (.bool zdz))))],[(72,.vec 3 1 8 zoW zho)],[]⟩
def ziN (K:List PA->Prop) (X8:St->Prop) (X9:St->Prop) (zaa:(Sl Gate)) (zab:(Sl Mp)) (zcX:Int) (zgx:Int) (zqW:Int) (zqX:Int) (zmR:Int) (zdz:Bool) (zoW:Nat) (zho:Nat->List PV):Prop:=vc Tryz.prog G25 zbr (cdF Tryz.f25 [1,0,1,1,1,1,1,1,1,0,1,0,0,1,0,0,1,1,0,0,1,0,0,1]) (zaG 9 (sqK Tryz.prog G25 zbr (cdF Tryz.f25 [1,0,1,1,1,1,1,1,1,0,1,0,0,1,0,0,1,1,0,0,1,1]) (zcA Tryz.prog zbr 24 X9 (zaG 8 (zaG 7 (sqK Tryz.prog G25 zbr (cdF Tryz.f25 [1,0,1,1,1,1,1,1,1,0,1,0,0,1,1]) (zcA Tryz.prog zbr 20 X8 (zaG 6 (sqK Tryz.prog G25 zbr (cdF Tryz.f25 [1,0,1,1,1,1,1,1,1,1]) (zbl (zd3 Tryz.prog Tryz.f25 K))))))))))) (zIE zaa zab zcX zgx zqW zqX zmR zdz zoW zho)
theorem zIF (zaa : (Sl Gate)) (K : List PA → Prop) :
  vcFun Tryz.prog G25 zbr 25 [.one (.sl zaa.len 3 (λ i=>enc_48 (zaa.get i)))] K =
  ((IsE enc_48 3 3 (λ i=>enc_48 (zaa.get i))/\(p51 zaa=true)) /\
 (zoS K zaa (!(s51 zaa)))):=by kernel_rfl
theorem zIG (K : List PA → Prop) (zaa : (Sl Gate)) (zh3 : Bool) :
  zoS K zaa zh3 =
  (zc9 zh3
 (K [.one (.nils),.one (.int .i64 (0:Int)),.one (.int .i64 (2:Int))])
 (zoT K zaa)):=by kernel_rfl
theorem zIH (K : List PA → Prop) (zaa : (Sl Gate)) :
  zoT K zaa =
  ((IsE enc_48 3 3 (λ i=>enc_48 (zaa.get i))/\(p52 zaa=true)) /\
 (zoU K zaa ((s52 zaa).len) (λ i=>zfb ((s52 zaa).get i)))):=by kernel_rfl
theorem zII (K : List PA → Prop) (zaa : (Sl Gate)) (zab : (Sl Mp)) :
  zoU K zaa zab.len (λ i=>zfb (zab.get i)) =
  (((0<=(0:Int)/\(0:Int) < (zab.len:Int))) /\
 (zl9 K zaa zab ([]) (-1:Int))):=by kernel_rfl
def zqo (K:List PA->Prop) (X3:St->Prop) (zaa:(Sl Gate)) (zab:(Sl Mp)) (zbk:(List (List Int))) (zaY:Int):Prop :=
  (zCQ 2 ((zab.get 0).n) ((zab.get 0).F) ->
 ((∀ c:List Int,c.length=2->((zab.get 0).F) c ≠ none->c∈zbk) ->
 (zoV K zaa zab zaY))/\∀ k24_0 k24_1:Int,((zab.get 0).F) [k24_0,k24_1] ≠ none->[k24_0,k24_1] ∉ zbk ->
 (zc9 (decide (zaY < (0:Int)))
 (X3 (ziM zaa zab ([k24_0,k24_1] :: zbk) (zff (((zab.get 0).F) [k24_0,k24_1]) 0)))
 (zc9 (decide ((zff (((zab.get 0).F) [k24_0, k24_1]) 0) < zaY))
 (X3 (ziM zaa zab ([k24_0,k24_1] :: zbk) (zff (((zab.get 0).F) [k24_0,k24_1]) 0)))
 (X3 (ziM zaa zab ([k24_0,k24_1] :: zbk) zaY)))))
theorem zsy (K : List PA → Prop) (X3 : St → Prop) (zaa : (Sl Gate)) (zab : (Sl Mp)) (zbk : (List (List Int))) (zaY : Int) :
  vc Tryz.prog G25 zbr (cd (cdF Tryz.f25 [1,0,1,1,1,0,1,0]) [0]) (zcA Tryz.prog zbr 6 X3 (zaG 0 (sqK Tryz.prog G25 zbr (cdF Tryz.f25 [1,0,1,1,1,1]) (zbl (zd3 Tryz.prog Tryz.f25 K))))) (ziM zaa zab zbk zaY) =
  zqo K X3 zaa zab zbk zaY:=by kernel_rfl
theorem zAK (K : List PA → Prop) (zaa : (Sl Gate)) (zab : (Sl Mp)) (zbk : (List (List Int))) (zaY : Int)
  (h:∀ X3:St->Prop,(∀ (zbk:(List (List Int))) (zaY:Int),zqo K X3 zaa zab zbk zaY->X3 (ziM zaa zab zbk zaY))->X3 (ziM zaa zab zbk zaY)) :
  zl9 K zaa zab zbk zaY:=by
  have e:zl9 K zaa zab zbk zaY=(∀ X:St->Prop,(∀ s,vc Tryz.prog G25 zbr (cd (cdF Tryz.f25 [1,0,1,1,1,0,1,0]) [0]) (zcA Tryz.prog zbr 6 X (zaG 0 (sqK Tryz.prog G25 zbr (cdF Tryz.f25 [1,0,1,1,1,1]) (zbl (zd3 Tryz.prog Tryz.f25 K))))) s->X s)->X (ziM zaa zab zbk zaY)):=by kernel_rfl
  refine zaN e ?_
  intro X hX
  refine h X ?_
  intro zbk zaY hs
  refine hX _ ?_
  have e2:=zsy K X zaa zab zbk zaY
  rw[e2]
  exact hs
theorem zIJ (K : List PA → Prop) (zaa : (Sl Gate)) (zab : (Sl Mp)) (zex : Int) :
  zoV K zaa zab zex =
  (((0<=(0:Int)/\(0:Int) < (zaa.len:Int))) /\
 (zma K zaa zab zex ((zaa.get 0).Low))):=by kernel_rfl
def zqp (K:List PA->Prop) (X5:St->Prop) (zaa:(Sl Gate)) (zab:(Sl Mp)) (zbm:Int) (pv5:Int):Prop :=
  (((0<=(0:Int)/\(0:Int) < (zaa.len:Int))) /\
 (zc9 (decide (pv5 <= (zaa.get 0).High))
 (((0<=(1:Int)/\(1:Int) < (zaa.len:Int))) /\
 (zmc K X5 zaa zab zbm pv5 ((zaa.get 1).Low)))
 (zmd K zaa zab zbm 0 (λ i=>zak ((λ _=>default) i)))))
theorem zsz (K : List PA → Prop) (X5 : St → Prop) (zaa : (Sl Gate)) (zab : (Sl Mp)) (zbm : Int) (pv5 : Int) :
  vc Tryz.prog G25 zbr (cd (cdF Tryz.f25 [1,0,1,1,1,1,1,1,0,1,0]) [0]) (zcA Tryz.prog zbr 12 X5 (zaG 2 (sqK Tryz.prog G25 zbr (cdF Tryz.f25 [1,0,1,1,1,1,1,1,1]) (zbl (zd3 Tryz.prog Tryz.f25 K))))) (zka zaa zab zbm pv5) =
  zqp K X5 zaa zab zbm pv5:=by kernel_rfl
theorem zAL (K : List PA → Prop) (zaa : (Sl Gate)) (zab : (Sl Mp)) (zbm : Int) (pv5 : Int)
  (h:∀ X5:St->Prop,(∀ (zbm:Int) (pv5:Int),zqp K X5 zaa zab zbm pv5->X5 (zka zaa zab zbm pv5))->X5 (zka zaa zab zbm pv5)) :
  zma K zaa zab zbm pv5:=by
  have e:zma K zaa zab zbm pv5=(∀ X:St->Prop,(∀ s,vc Tryz.prog G25 zbr (cd (cdF Tryz.f25 [1,0,1,1,1,1,1,1,0,1,0]) [0]) (zcA Tryz.prog zbr 12 X (zaG 2 (sqK Tryz.prog G25 zbr (cdF Tryz.f25 [1,0,1,1,1,1,1,1,1]) (zbl (zd3 Tryz.prog Tryz.f25 K))))) s->X s)->X (zka zaa zab zbm pv5)):=by kernel_rfl
  refine zaN e ?_
  intro X hX
  refine h X ?_
  intro zbm pv5 hs
  refine hX _ ?_
  have e2:=zsz K X zaa zab zbm pv5
  rw[e2]
  exact hs
def zqq (K:List PA->Prop) (X5:St->Prop) (X6:St->Prop) (zaa:(Sl Gate)) (zab:(Sl Mp)) (zbh:Int) (pv6:Int) (qv6:Int):Prop :=
  (((0<=(1:Int)/\(1:Int) < (zaa.len:Int))) /\
 (zc9 (decide (qv6 <= (zaa.get 1).High))
 (((0<=(0:Int)/\(0:Int) < (zab.len:Int))) /\
 (zc9 ((zff (((zab.get 0).F) [pv6, qv6]) 0) == zbh)
 (zmd K zaa zab zbh 2 (zed [(zak pv6),(zak qv6)]))
 (X6 (zmb zaa zab zbh pv6 (w64 (qv6+(1:Int)))))))
 (X5 (zka zaa zab zbh (w64 (pv6+(1:Int)))))))
theorem zsA (K : List PA → Prop) (X5 : St → Prop) (X6 : St → Prop) (zaa : (Sl Gate)) (zab : (Sl Mp)) (zbh : Int) (pv6 : Int) (qv6 : Int) :
  vc Tryz.prog G25 zbr (cd (cdF Tryz.f25 [1,0,1,1,1,1,1,1,0,1,0,0,1,0,0,1,0]) [0]) (zcA Tryz.prog zbr 15 X6 (zaG 4 (zaG 3 (sqK Tryz.prog G25 zbr (cdF Tryz.f25 [1,0,1,1,1,1,1,1,0,1,0,0,1,1]) (zcA Tryz.prog zbr 12 X5 (zaG 2 (sqK Tryz.prog G25 zbr (cdF Tryz.f25 [1,0,1,1,1,1,1,1,1]) (zbl (zd3 Tryz.prog Tryz.f25 K))))))))) (zmb zaa zab zbh pv6 qv6) =
  zqq K X5 X6 zaa zab zbh pv6 qv6:=by kernel_rfl
theorem zAM (K : List PA → Prop) (X5 : St → Prop) (zaa : (Sl Gate)) (zab : (Sl Mp)) (zbh : Int) (pv6 : Int) (qv6 : Int)
  (h:∀ X6:St->Prop,(∀ (zbh:Int) (pv6:Int) (qv6:Int),zqq K X5 X6 zaa zab zbh pv6 qv6->X6 (zmb zaa zab zbh pv6 qv6))->X6 (zmb zaa zab zbh pv6 qv6)) :
  zmc K X5 zaa zab zbh pv6 qv6:=by
  have e:zmc K X5 zaa zab zbh pv6 qv6=(∀ X:St->Prop,(∀ s,vc Tryz.prog G25 zbr (cd (cdF Tryz.f25 [1,0,1,1,1,1,1,1,0,1,0,0,1,0,0,1,0]) [0]) (zcA Tryz.prog zbr 15 X (zaG 4 (zaG 3 (sqK Tryz.prog G25 zbr (cdF Tryz.f25 [1,0,1,1,1,1,1,1,0,1,0,0,1,1]) (zcA Tryz.prog zbr 12 X5 (zaG 2 (sqK Tryz.prog G25 zbr (cdF Tryz.f25 [1,0,1,1,1,1,1,1,1]) (zbl (zd3 Tryz.prog Tryz.f25 K))))))))) s->X s)->X (zmb zaa zab zbh pv6 qv6)):=by kernel_rfl
  refine zaN e ?_
  intro X hX
  refine h X ?_
  intro zbh pv6 qv6 hs
  refine hX _ ?_
  have e2:=zsA K X5 X zaa zab zbh pv6 qv6
  rw[e2]
  exact hs
theorem zIK (K : List PA → Prop) (zaa : (Sl Gate)) (zab : (Sl Mp)) (zey : Int) (zhu : (Sl Int)) :
  zmd K zaa zab zey zhu.len (λ i=>zak (zhu.get i)) =
  (zme K zaa zab zey (2:Int) zhu.len (λ i=>zak (zhu.get i))):=by kernel_rfl
def zqr (K:List PA->Prop) (X8:St->Prop) (zaa:(Sl Gate)) (zab:(Sl Mp)) (zbj:Int) (iv8:Int) (zbq:(Sl Int)):Prop :=
  (zc9 (decide (iv8 < (zaa.len : Int)))
 (((0<=(w64 (iv8 - (2:Int)))/\(w64 (iv8 - (2:Int))) < (zbq.len:Int))) /\
 ((((w64 (iv8 - (2:Int))).toNat < zbq.len)) /\
 (((0<=(w64 (iv8 - (1:Int)))/\(w64 (iv8 - (1:Int))) < (zbq.len:Int))) /\
 ((((w64 (iv8 - (1:Int))).toNat < zbq.len)) /\
 (((0<=iv8/\iv8 < (zaa.len:Int))) /\
 (zmf K X8 zaa zab zbj iv8 (zbq.get ((w64 (iv8 - (2:Int))).toNat)) (zbq.get ((w64 (iv8 - (1:Int))).toNat)) ((zaa.get iv8.toNat).Low) zbq.len (λ i=>zak (zbq.get i))))))))
 (K [.one (.sl zbq.len 1 (λ i=>zak (zbq.get i))),.one (.int .i64 zbj),.one (.int .i64 (0:Int))]))
theorem zsB (K : List PA → Prop) (X8 : St → Prop) (zaa : (Sl Gate)) (zab : (Sl Mp)) (zbj : Int) (iv8 : Int) (zbq : (Sl Int)) :
  vc Tryz.prog G25 zbr (cd (cdF Tryz.f25 [1,0,1,1,1,1,1,1,1,0,1,0]) [0]) (zcA Tryz.prog zbr 20 X8 (zaG 6 (sqK Tryz.prog G25 zbr (cdF Tryz.f25 [1,0,1,1,1,1,1,1,1,1]) (zbl (zd3 Tryz.prog Tryz.f25 K))))) (zhB zaa zab zbj iv8 zbq.len (λ i=>zak (zbq.get i))) =
  zqr K X8 zaa zab zbj iv8 zbq:=by kernel_rfl
theorem zAN (K : List PA → Prop) (zaa : (Sl Gate)) (zab : (Sl Mp)) (zbj : Int) (iv8 : Int) (zgZ : Nat) (zco : Nat → List PV)
  (h:∀ X8:St->Prop,(∀ (zbj:Int) (iv8:Int) (zbq:(Sl Int)),zqr K X8 zaa zab zbj iv8 zbq->X8 (zhB zaa zab zbj iv8 zbq.len (λ i=>zak (zbq.get i))))->X8 (zhB zaa zab zbj iv8 zgZ zco)) :
  zme K zaa zab zbj iv8 zgZ zco:=by
  have e:zme K zaa zab zbj iv8 zgZ zco=(∀ X:St->Prop,(∀ s,vc Tryz.prog G25 zbr (cd (cdF Tryz.f25 [1,0,1,1,1,1,1,1,1,0,1,0]) [0]) (zcA Tryz.prog zbr 20 X (zaG 6 (sqK Tryz.prog G25 zbr (cdF Tryz.f25 [1,0,1,1,1,1,1,1,1,1]) (zbl (zd3 Tryz.prog Tryz.f25 K))))) s->X s)->X (zhB zaa zab zbj iv8 zgZ zco)):=by kernel_rfl
  refine zaN e ?_
  intro X hX
  refine h X ?_
  intro zbj iv8 zbq hs
  refine hX _ ?_
  have e2:=zsB K X zaa zab zbj iv8 zbq
  rw[e2]
  exact hs
def zqs (K:List PA->Prop) (X8:St->Prop) (X9:St->Prop) (zaa:(Sl Gate)) (zab:(Sl Mp)) (zaZ:Int) (iv9:Int) (pv9:Int) (qv9:Int) (rv9:Int) (zbV:(Sl Int)):Prop :=
  (((0<=iv9/\iv9 < (zaa.len:Int))) /\
 (zc9 (decide (rv9 <= (zaa.get iv9.toNat).High))
 (((0<=(w64 (iv9 - (2:Int)))/\(w64 (iv9 - (2:Int))) < (zaa.len:Int))) /\
 (((0<=(w64 (iv9 - (1:Int)))/\(w64 (iv9 - (1:Int))) < (zaa.len:Int))) /\
 (((0<=iv9/\iv9 < (zaa.len:Int))) /\
 (((p53 ((zaa.get ((w64 (iv9 - (2:Int))).toNat)).Z) ((zaa.get ((w64 (iv9 - (1:Int))).toNat)).Z) ((zaa.get iv9.toNat).Z) pv9 qv9 rv9=true)) /\
 (zc9 (decide ((s53 ((zaa.get ((w64 (iv9 - (2:Int))).toNat)).Z) ((zaa.get ((w64 (iv9 - (1:Int))).toNat)).Z) ((zaa.get iv9.toNat).Z) pv9 qv9 rv9) <= zaZ))
 (((0<=(w64 (iv9 - (1:Int)))/\(w64 (iv9 - (1:Int))) < (zab.len:Int))) /\
 (ziN K X8 X9 zaa zab zaZ iv9 pv9 qv9 rv9 (decide ((zff (((zab.get ((w64 (iv9 - (1:Int))).toNat)).F) [qv9,rv9]) 0)<=zaZ)) zbV.len (λ i=>zak (zbV.get i))))
 (ziN K X8 X9 zaa zab zaZ iv9 pv9 qv9 rv9 false zbV.len (λ i=>zak (zbV.get i))))))))
 (X8 (zhB zaa zab zaZ (w64 (iv9+(1:Int))) zbV.len (λ i=>zak (zbV.get i))))))
theorem zsC (K : List PA → Prop) (X8 : St → Prop) (X9 : St → Prop) (zaa : (Sl Gate)) (zab : (Sl Mp)) (zaZ : Int) (iv9 : Int) (pv9 : Int) (qv9 : Int) (rv9 : Int) (zbV : (Sl Int)) :
  vc Tryz.prog G25 zbr (cd (cdF Tryz.f25 [1,0,1,1,1,1,1,1,1,0,1,0,0,1,0,0,1,1,0]) [0]) (zcA Tryz.prog zbr 24 X9 (zaG 8 (zaG 7 (sqK Tryz.prog G25 zbr (cdF Tryz.f25 [1,0,1,1,1,1,1,1,1,0,1,0,0,1,1]) (zcA Tryz.prog zbr 20 X8 (zaG 6 (sqK Tryz.prog G25 zbr (cdF Tryz.f25 [1,0,1,1,1,1,1,1,1,1]) (zbl (zd3 Tryz.prog Tryz.f25 K))))))))) (zkb zaa zab zaZ iv9 pv9 qv9 rv9 zbV.len (λ i=>zak (zbV.get i))) =
  zqs K X8 X9 zaa zab zaZ iv9 pv9 qv9 rv9 zbV:=by kernel_rfl
theorem zAO (K : List PA → Prop) (X8 : St → Prop) (zaa : (Sl Gate)) (zab : (Sl Mp)) (zaZ : Int) (iv9 : Int) (pv9 : Int) (qv9 : Int) (rv9 : Int) (zg0 : Nat) (zcI : Nat → List PV)
  (h:∀ X9:St->Prop,(∀ (zaZ:Int) (iv9:Int) (pv9:Int) (qv9:Int) (rv9:Int) (zbV:(Sl Int)),zqs K X8 X9 zaa zab zaZ iv9 pv9 qv9 rv9 zbV->X9 (zkb zaa zab zaZ iv9 pv9 qv9 rv9 zbV.len (λ i=>zak (zbV.get i))))->X9 (zkb zaa zab zaZ iv9 pv9 qv9 rv9 zg0 zcI)) :
  zmf K X8 zaa zab zaZ iv9 pv9 qv9 rv9 zg0 zcI:=by
  have e:zmf K X8 zaa zab zaZ iv9 pv9 qv9 rv9 zg0 zcI=(∀ X:St->Prop,(∀ s,vc Tryz.prog G25 zbr (cd (cdF Tryz.f25 [1,0,1,1,1,1,1,1,1,0,1,0,0,1,0,0,1,1,0]) [0]) (zcA Tryz.prog zbr 24 X (zaG 8 (zaG 7 (sqK Tryz.prog G25 zbr (cdF Tryz.f25 [1,0,1,1,1,1,1,1,1,0,1,0,0,1,1]) (zcA Tryz.prog zbr 20 X8 (zaG 6 (sqK Tryz.prog G25 zbr (cdF Tryz.f25 [1,0,1,1,1,1,1,1,1,1]) (zbl (zd3 Tryz.prog Tryz.f25 K))))))))) s->X s)->X (zkb zaa zab zaZ iv9 pv9 qv9 rv9 zg0 zcI)):=by kernel_rfl
  refine zaN e ?_
  intro X hX
  refine h X ?_
  intro zaZ iv9 pv9 qv9 rv9 zbV hs
  refine hX _ ?_
  have e2:=zsC K X8 X zaa zab zaZ iv9 pv9 qv9 rv9 zbV
  rw[e2]
  exact hs
theorem zDY (K : List PA → Prop) (X8 : St → Prop) (X9 : St → Prop) (zaa : (Sl Gate)) (zab : (Sl Mp)) (zcX : Int) (zgx : Int) (zqW : Int) (zqX : Int) (zmR : Int) (zdz : Bool) (zb5 : (Sl Int)) :
  ziN K X8 X9 zaa zab zcX zgx zqW zqX zmR zdz zb5.len (λ i=>zak (zb5.get i)) =
  (zc9 zdz
 ((((zb5.len+1) * 8<=140737488355328/\zb5.len+1<=9223372036854775807)) /\
 (X8 (zhB zaa zab zcX (w64 (zgx+(1:Int))) (zb5.len+1) (appG zb5.len (λ i=>zak (zb5.get i)) (λ _=>(zak zmR))))))
 (X9 (zkb zaa zab zcX zgx zqW zqX (w64 (zmR+(1:Int))) zb5.len (λ i=>zak (zb5.get i))))):=by kernel_rfl
abbrev e25 (r:((Sl Int)×Int×Int)):List PA:=[.one (.sl r.1.len 1 (λ i=>zak (r.1.get i))),.one (.int .i64 r.2.1),.one (.int .i64 r.2.2)]
attribute [irreducible] zoS zoT zoU zl9 zoV zma zmc zmd zme zmf ziN
def zkP (S8:Int->Int->(Sl Int)->((Sl Int)×Int×Int)) (S9:Int->Int->Int->Int->Int->(Sl Int)->((Sl Int)×Int×Int)) (zaa:(Sl Gate)) (zab:(Sl Mp)) (zcX:Int) (zgx:Int) (zqW:Int) (zqX:Int) (zmR:Int) (zdz:Bool) (zb5:(Sl Int)):((Sl Int)×Int×Int) :=
  (cond zdz
 (S8 zcX (w64 (zgx+(1:Int))) (⟨(zb5.len+1),(zgv zb5.len zb5.get (λ _=>zmR))⟩:Sl Int))
 (S9 zcX zgx zqW zqX (w64 (zmR+(1:Int))) zb5))
def zkQ (P8:Int->Int->(Sl Int)->Bool) (P9:Int->Int->Int->Int->Int->(Sl Int)->Bool) (zaa:(Sl Gate)) (zab:(Sl Mp)) (zcX:Int) (zgx:Int) (zqW:Int) (zqX:Int) (zmR:Int) (zdz:Bool) (zb5:(Sl Int)):Bool :=
  (cond zdz
 (decide (((zb5.len+1) * 8<=140737488355328/\zb5.len+1<=9223372036854775807)) &&
 (P8 zcX (w64 (zgx+(1:Int))) (⟨(zb5.len+1),(zgv zb5.len zb5.get (λ _=>zmR))⟩:Sl Int)))
 (P9 zcX zgx zqW zqX (w64 (zmR+(1:Int))) zb5))
theorem zu5 (K : List PA → Prop) (zaa : (Sl Gate)) (zab : (Sl Mp))
  (X8:St->Prop) (P8:Int->Int->(Sl Int)->Bool) (S8:Int->Int->(Sl Int)->((Sl Int)×Int×Int))
  (hX8:∀ (zbj:Int) (iv8:Int) (zbq:(Sl Int)) (zco:Nat->List PV) (zh4:zco=λ i=>zak (zbq.get i)),P8 zbj iv8 zbq=true->K (e25 (S8 zbj iv8 zbq))->X8 (zhB zaa zab zbj iv8 zbq.len zco))
  (X9:St->Prop) (P9:Int->Int->Int->Int->Int->(Sl Int)->Bool) (S9:Int->Int->Int->Int->Int->(Sl Int)->((Sl Int)×Int×Int))
  (hX9:∀ (zaZ:Int) (iv9:Int) (pv9:Int) (qv9:Int) (rv9:Int) (zbV:(Sl Int)) (zcI:Nat->List PV) (zjC:zcI=λ i=>zak (zbV.get i)),P9 zaZ iv9 pv9 qv9 rv9 zbV=true->K (e25 (S9 zaZ iv9 pv9 qv9 rv9 zbV))->X9 (zkb zaa zab zaZ iv9 pv9 qv9 rv9 zbV.len zcI)) (zcX:Int) (zgx:Int) (zqW:Int) (zqX:Int) (zmR:Int) (zdz:Bool) (zb5:(Sl Int)) (zho:Nat->List PV) (zDZ:zho=λ i=>zak (zb5.get i)) (hs:zkQ P8 P9 zaa zab zcX zgx zqW zqX zmR zdz zb5=true) (hk:K (e25 (zkP S8 S9 zaa zab zcX zgx zqW zqX zmR zdz zb5))):ziN (Wk K) X8 X9 zaa zab zcX zgx zqW zqX zmR zdz zb5.len zho:=by
  subst zDZ
  refine zaN (zDY (Wk K) X8 X9 zaa zab zcX zgx zqW zqX zmR zdz zb5) ?_
  unfold zkQ at hs
  unfold zkP at hk
  exact (zb6 (K := λ r => K (e25 r))
 (λ hs hk=>(zaI hs λ hc hs=>⟨hc,(hX8 zcX (w64 (zgx+(1:Int))) (⟨(zb5.len+1),(zgv zb5.len zb5.get (λ _=>zmR))⟩:Sl Int) (appG zb5.len (λ i=>zak (zb5.get i)) (λ _=>(zak zmR))) (zhA (enc:=zak) (f:=zb5.get) (h:=(λ _=>zmR)) rfl rfl) hs hk)⟩))
 (λ hs hk=>(hX9 zcX zgx zqW zqX (w64 (zmR+(1:Int))) zb5 (λ i=>zak (zb5.get i)) rfl hs hk)) hs hk)
def zsD (S8:Int->Int->(Sl Int)->((Sl Int)×Int×Int)) (zaa:(Sl Gate)) (zab:(Sl Mp)) (S9:Int->Int->Int->Int->Int->(Sl Int)->((Sl Int)×Int×Int)) (zaZ:Int) (iv9:Int) (pv9:Int) (qv9:Int) (rv9:Int) (zbV:(Sl Int)):((Sl Int)×Int×Int) :=
  (cond (decide (rv9 <= (zaa.get iv9.toNat).High))
 (cond (decide ((s53 ((zaa.get ((w64 (iv9 - (2:Int))).toNat)).Z) ((zaa.get ((w64 (iv9 - (1:Int))).toNat)).Z) ((zaa.get iv9.toNat).Z) pv9 qv9 rv9) <= zaZ))
 (zkP S8 S9 zaa zab zaZ iv9 pv9 qv9 rv9 (decide ((zff (((zab.get ((w64 (iv9 - (1:Int))).toNat)).F) [qv9,rv9]) 0)<=zaZ)) zbV)
 (zkP S8 S9 zaa zab zaZ iv9 pv9 qv9 rv9 false zbV))
 (S8 zaZ (w64 (iv9+(1:Int))) zbV))
def zsE (P8:Int->Int->(Sl Int)->Bool) (zaa:(Sl Gate)) (zab:(Sl Mp)) (P9:Int->Int->Int->Int->Int->(Sl Int)->Bool) (zaZ:Int) (iv9:Int) (pv9:Int) (qv9:Int) (rv9:Int) (zbV:(Sl Int)):Bool :=
  (decide ((0<=iv9/\iv9 < (zaa.len:Int))) &&
 (cond (decide (rv9 <= (zaa.get iv9.toNat).High))
 (decide ((0<=(w64 (iv9 - (2:Int)))/\(w64 (iv9 - (2:Int))) < (zaa.len:Int))) &&
 (decide ((0<=(w64 (iv9 - (1:Int)))/\(w64 (iv9 - (1:Int))) < (zaa.len:Int))) &&
 (decide ((0<=iv9/\iv9 < (zaa.len:Int))) &&
 (decide ((p53 ((zaa.get ((w64 (iv9 - (2:Int))).toNat)).Z) ((zaa.get ((w64 (iv9 - (1:Int))).toNat)).Z) ((zaa.get iv9.toNat).Z) pv9 qv9 rv9=true)) &&
 (cond (decide ((s53 ((zaa.get ((w64 (iv9 - (2:Int))).toNat)).Z) ((zaa.get ((w64 (iv9 - (1:Int))).toNat)).Z) ((zaa.get iv9.toNat).Z) pv9 qv9 rv9) <= zaZ))
 (decide ((0<=(w64 (iv9 - (1:Int)))/\(w64 (iv9 - (1:Int))) < (zab.len:Int))) &&
 (zkQ P8 P9 zaa zab zaZ iv9 pv9 qv9 rv9 (decide ((zff (((zab.get ((w64 (iv9 - (1:Int))).toNat)).F) [qv9,rv9]) 0)<=zaZ)) zbV))
 (zkQ P8 P9 zaa zab zaZ iv9 pv9 qv9 rv9 false zbV))))))
 (P8 zaZ (w64 (iv9+(1:Int))) zbV)))
def zmg (S8 : Int → Int → (Sl Int) → ((Sl Int) × Int × Int)) (zaa : (Sl Gate)) (zab : (Sl Mp)) : Nat → Int → Int → Int → Int → Int → (Sl Int) → ((Sl Int) × Int × Int)
  | 0=>λ _ _ _ _ _ _=>default
  | k+1=>zsD S8 zaa zab (zmg S8 zaa zab k)
def zmh (P8 : Int → Int → (Sl Int) → Bool) (zaa : (Sl Gate)) (zab : (Sl Mp)) : Nat → Int → Int → Int → Int → Int → (Sl Int) → Bool
  | 0=>λ _ _ _ _ _ _=>false
  | k+1=>zsE P8 zaa zab (zmh P8 zaa zab k)
def zAP (S8:Int->Int->(Sl Int)->((Sl Int)×Int×Int)) (zaa:(Sl Gate)) (zab:(Sl Mp)) (zaZ:Int) (iv9:Int) (pv9:Int) (qv9:Int) (rv9:Int) (zbV:(Sl Int)):((Sl Int)×Int×Int):=zmg S8 zaa zab Fuel zaZ iv9 pv9 qv9 rv9 zbV
def zAQ (P8:Int->Int->(Sl Int)->Bool) (zaa:(Sl Gate)) (zab:(Sl Mp)) (zaZ:Int) (iv9:Int) (pv9:Int) (qv9:Int) (rv9:Int) (zbV:(Sl Int)):Bool:=zmh P8 zaa zab Fuel zaZ iv9 pv9 qv9 rv9 zbV
theorem zIL (K : List PA → Prop) (zaa : (Sl Gate)) (zab : (Sl Mp))
  (X8:St->Prop) (P8:Int->Int->(Sl Int)->Bool) (S8:Int->Int->(Sl Int)->((Sl Int)×Int×Int))
  (hX8:∀ (zbj:Int) (iv8:Int) (zbq:(Sl Int)) (zco:Nat->List PV) (zh4:zco=λ i=>zak (zbq.get i)),P8 zbj iv8 zbq=true->K (e25 (S8 zbj iv8 zbq))->X8 (zhB zaa zab zbj iv8 zbq.len zco)) (zaZ:Int) (iv9:Int) (pv9:Int) (qv9:Int) (rv9:Int) (zbV:(Sl Int)) (zcI:Nat->List PV) (zjC:zcI=λ i=>zak (zbV.get i)) (hs:zAQ P8 zaa zab zaZ iv9 pv9 qv9 rv9 zbV=true) (hk:K (e25 (zAP S8 zaa zab zaZ iv9 pv9 qv9 rv9 zbV))):zmf (Wk K) X8 zaa zab zaZ iv9 pv9 qv9 rv9 zbV.len zcI:=by
  refine zAO (Wk K) X8 zaa zab zaZ iv9 pv9 qv9 rv9 zbV.len zcI ?_
  intro X9 hstep
  have key:∀ (k:Nat) (zaZ:Int) (iv9:Int) (pv9:Int) (qv9:Int) (rv9:Int) (zbV:(Sl Int)) (zcI:Nat->List PV) (zjC:zcI=λ i=>zak (zbV.get i)),zmh P8 zaa zab k zaZ iv9 pv9 qv9 rv9 zbV=true->K (e25 (zmg S8 zaa zab k zaZ iv9 pv9 qv9 rv9 zbV))->X9 (zkb zaa zab zaZ iv9 pv9 qv9 rv9 zbV.len zcI):=by
    intro k
    induction k with
    | zero=>intro zaZ iv9 pv9 qv9 rv9 zbV zcI zjC hs;exact absurd hs dqk
    | succ k ih =>
      intro zaZ iv9 pv9 qv9 rv9 zbV zcI zjC hs hk
      subst zjC
      refine hstep zaZ iv9 pv9 qv9 rv9 zbV ?_
      have hs:zsE P8 zaa zab (zmh P8 zaa zab k) zaZ iv9 pv9 qv9 rv9 zbV=true:=hs
      have hk:K (e25 (zsD S8 zaa zab (zmg S8 zaa zab k) zaZ iv9 pv9 qv9 rv9 zbV)):=hk
      unfold zsE at hs
      unfold zsD at hk
      generalize zmg S8 zaa zab k=S9 at hk ih
      generalize zmh P8 zaa zab k=P9 at hs ih
      have hX9:=ih
      exact (zaI hs λ hc hs => ⟨hc, (zb6 (K := λ r => K (e25 r))
 (λ hs hk => (zaI hs λ hc hs => ⟨hc, (zaI hs λ hc hs => ⟨hc, (zaI hs λ hc hs => ⟨hc, (zaI hs λ hc hs => ⟨hc, (zb6 (K := λ r => K (e25 r))
 (λ hs hk=>(zaI hs λ hc hs=>⟨hc,(zu5 K zaa zab X8 P8 S8 hX8 X9 P9 S9 hX9 zaZ iv9 pv9 qv9 rv9 (decide ((zff (((zab.get ((w64 (iv9 - (1:Int))).toNat)).F) [qv9,rv9]) 0)<=zaZ)) zbV (λ i=>zak (zbV.get i)) rfl hs hk)⟩))
 (λ hs hk=>(zu5 K zaa zab X8 P8 S8 hX8 X9 P9 S9 hX9 zaZ iv9 pv9 qv9 rv9 false zbV (λ i=>zak (zbV.get i)) rfl hs hk)) hs hk)⟩)⟩)⟩)⟩))
 (fun hs hk=>(hX8 zaZ (w64 (iv9+(1:Int))) zbV (fun i=>zak (zbV.get i)) rfl hs hk)) hs hk)⟩)
  exact key _ zaZ iv9 pv9 qv9 rv9 zbV zcI zjC hs hk
def zsF (zaa:(Sl Gate)) (zab:(Sl Mp)) (S8:Int->Int->(Sl Int)->((Sl Int)×Int×Int)) (zbj:Int) (iv8:Int) (zbq:(Sl Int)):((Sl Int)×Int×Int) :=
  (cond (decide (iv8 < (zaa.len : Int)))
 (zAP S8 zaa zab zbj iv8 (zbq.get ((w64 (iv8 - (2:Int))).toNat)) (zbq.get ((w64 (iv8 - (1:Int))).toNat)) ((zaa.get iv8.toNat).Low) zbq)
 (zbq,zbj,(0:Int)))
def zsG (zaa:(Sl Gate)) (zab:(Sl Mp)) (P8:Int->Int->(Sl Int)->Bool) (zbj:Int) (iv8:Int) (zbq:(Sl Int)):Bool :=
  (cond (decide (iv8 < (zaa.len : Int)))
 (decide ((0<=(w64 (iv8 - (2:Int)))/\(w64 (iv8 - (2:Int))) < (zbq.len:Int))) &&
 (decide (((w64 (iv8 - (2:Int))).toNat < zbq.len)) &&
 (decide ((0<=(w64 (iv8 - (1:Int)))/\(w64 (iv8 - (1:Int))) < (zbq.len:Int))) &&
 (decide (((w64 (iv8 - (1:Int))).toNat < zbq.len)) &&
 (decide ((0<=iv8/\iv8 < (zaa.len:Int))) &&
 (zAQ P8 zaa zab zbj iv8 (zbq.get ((w64 (iv8 - (2:Int))).toNat)) (zbq.get ((w64 (iv8 - (1:Int))).toNat)) ((zaa.get iv8.toNat).Low) zbq))))))
 true)
def zmi (zaa : (Sl Gate)) (zab : (Sl Mp)) : Nat → Int → Int → (Sl Int) → ((Sl Int) × Int × Int)
  | 0=>λ _ _ _=>default
  | k+1=>zsF zaa zab (zmi zaa zab k)
def zmj (zaa : (Sl Gate)) (zab : (Sl Mp)) : Nat → Int → Int → (Sl Int) → Bool
  | 0=>λ _ _ _=>false
  | k+1=>zsG zaa zab (zmj zaa zab k)
def zAR (zaa:(Sl Gate)) (zab:(Sl Mp)) (zbj:Int) (iv8:Int) (zbq:(Sl Int)):((Sl Int)×Int×Int):=zmi zaa zab Fuel zbj iv8 zbq
def zAS (zaa:(Sl Gate)) (zab:(Sl Mp)) (zbj:Int) (iv8:Int) (zbq:(Sl Int)):Bool:=zmj zaa zab Fuel zbj iv8 zbq
theorem zIM (K:List PA->Prop) (zaa:(Sl Gate)) (zab:(Sl Mp)) (zbj:Int) (iv8:Int) (zbq:(Sl Int)) (zco:Nat->List PV) (zh4:zco=λ i=>zak (zbq.get i)) (hs:zAS zaa zab zbj iv8 zbq=true) (hk:K (e25 (zAR zaa zab zbj iv8 zbq))):zme (Wk K) zaa zab zbj iv8 zbq.len zco:=by
  refine zAN (Wk K) zaa zab zbj iv8 zbq.len zco ?_
  intro X8 hstep
  have key:∀ (k:Nat) (zbj:Int) (iv8:Int) (zbq:(Sl Int)) (zco:Nat->List PV) (zh4:zco=λ i=>zak (zbq.get i)),zmj zaa zab k zbj iv8 zbq=true->K (e25 (zmi zaa zab k zbj iv8 zbq))->X8 (zhB zaa zab zbj iv8 zbq.len zco):=by
    intro k
    induction k with
    | zero=>intro zbj iv8 zbq zco zh4 hs;exact absurd hs dqk
    | succ k ih =>
      intro zbj iv8 zbq zco zh4 hs hk
      subst zh4
      refine hstep zbj iv8 zbq ?_
      have hs:zsG zaa zab (zmj zaa zab k) zbj iv8 zbq=true:=hs
      have hk:K (e25 (zsF zaa zab (zmi zaa zab k) zbj iv8 zbq)):=hk
      unfold zsG at hs
      unfold zsF at hk
      generalize zmi zaa zab k=S8 at hk ih
      generalize zmj zaa zab k=P8 at hs ih
      have hX8:=ih
      exact (zb6 (K := λ r => K (e25 r))
 (λ hs hk=>(zaI hs λ hc hs=>⟨hc,(zaI hs λ hc hs=>⟨hc,(zaI hs λ hc hs=>⟨hc,(zaI hs λ hc hs=>⟨hc,(zaI hs λ hc hs=>⟨hc,(zIL K zaa zab X8 P8 S8 hX8 zbj iv8 (zbq.get ((w64 (iv8 - (2:Int))).toNat)) (zbq.get ((w64 (iv8 - (1:Int))).toNat)) ((zaa.get iv8.toNat).Low) zbq (λ i=>zak (zbq.get i)) rfl hs hk)⟩)⟩)⟩)⟩)⟩))
 (fun hs hk=>(zfz hk)) hs hk)
  exact key _ zbj iv8 zbq zco zh4 hs hk
def zoX (zaa:(Sl Gate)) (zab:(Sl Mp)) (zey:Int) (zhu:(Sl Int)):((Sl Int)×Int×Int) :=
  (zAR zaa zab zey (2:Int) zhu)
def zoY (zaa:(Sl Gate)) (zab:(Sl Mp)) (zey:Int) (zhu:(Sl Int)):Bool :=
  (zAS zaa zab zey (2:Int) zhu)
theorem zAT (K:List PA->Prop) (zaa:(Sl Gate)) (zab:(Sl Mp)) (zey:Int) (zhu:(Sl Int)) (zjB:Nat->List PV) (zIN:zjB=λ i=>zak (zhu.get i)) (hs:zoY zaa zab zey zhu=true) (hk:K (e25 (zoX zaa zab zey zhu))):zmd (Wk K) zaa zab zey zhu.len zjB:=by
  subst zIN
  refine zaN (zIK (Wk K) zaa zab zey zhu) ?_
  unfold zoY at hs
  unfold zoX at hk
  exact (zIM K zaa zab zey (2:Int) zhu (λ i=>zak (zhu.get i)) rfl hs hk)
def zsH (S5:Int->Int->((Sl Int)×Int×Int)) (zaa:(Sl Gate)) (zab:(Sl Mp)) (S6:Int->Int->Int->((Sl Int)×Int×Int)) (zbh:Int) (pv6:Int) (qv6:Int):((Sl Int)×Int×Int) :=
  (cond (decide (qv6 <= (zaa.get 1).High))
 (cond ((zff (((zab.get 0).F) [pv6, qv6]) 0) == zbh)
 (zoX zaa zab zbh (⟨2,(zkk pv6 [pv6,qv6])⟩:Sl Int))
 (S6 zbh pv6 (w64 (qv6+(1:Int)))))
 (S5 zbh (w64 (pv6+(1:Int)))))
def zsI (P5:Int->Int->Bool) (zaa:(Sl Gate)) (zab:(Sl Mp)) (P6:Int->Int->Int->Bool) (zbh:Int) (pv6:Int) (qv6:Int):Bool :=
  (decide ((0<=(1:Int)/\(1:Int) < (zaa.len:Int))) &&
 (cond (decide (qv6 <= (zaa.get 1).High))
 (decide ((0<=(0:Int)/\(0:Int) < (zab.len:Int))) &&
 (cond ((zff (((zab.get 0).F) [pv6, qv6]) 0) == zbh)
 (zoY zaa zab zbh (⟨2,(zkk pv6 [pv6,qv6])⟩:Sl Int))
 (P6 zbh pv6 (w64 (qv6+(1:Int))))))
 (P5 zbh (w64 (pv6+(1:Int))))))
def zmk (S5 : Int → Int → ((Sl Int) × Int × Int)) (zaa : (Sl Gate)) (zab : (Sl Mp)) : Nat → Int → Int → Int → ((Sl Int) × Int × Int)
  | 0=>λ _ _ _=>default
  | k+1=>zsH S5 zaa zab (zmk S5 zaa zab k)
def zml (P5 : Int → Int → Bool) (zaa : (Sl Gate)) (zab : (Sl Mp)) : Nat → Int → Int → Int → Bool
  | 0=>λ _ _ _=>false
  | k+1=>zsI P5 zaa zab (zml P5 zaa zab k)
def zAU (S5:Int->Int->((Sl Int)×Int×Int)) (zaa:(Sl Gate)) (zab:(Sl Mp)) (zbh:Int) (pv6:Int) (qv6:Int):((Sl Int)×Int×Int):=zmk S5 zaa zab Fuel zbh pv6 qv6
def zAV (P5:Int->Int->Bool) (zaa:(Sl Gate)) (zab:(Sl Mp)) (zbh:Int) (pv6:Int) (qv6:Int):Bool:=zml P5 zaa zab Fuel zbh pv6 qv6
theorem zIO (K : List PA → Prop) (zaa : (Sl Gate)) (zab : (Sl Mp))
  (X5:St->Prop) (P5:Int->Int->Bool) (S5:Int->Int->((Sl Int)×Int×Int))
  (hX5:∀ (zbm:Int) (pv5:Int),P5 zbm pv5=true->K (e25 (S5 zbm pv5))->X5 (zka zaa zab zbm pv5)) (zbh:Int) (pv6:Int) (qv6:Int) (hs:zAV P5 zaa zab zbh pv6 qv6=true) (hk:K (e25 (zAU S5 zaa zab zbh pv6 qv6))):zmc (Wk K) X5 zaa zab zbh pv6 qv6:=by
  refine zAM (Wk K) X5 zaa zab zbh pv6 qv6 ?_
  intro X6 hstep
  have key:∀ (k:Nat) (zbh:Int) (pv6:Int) (qv6:Int),zml P5 zaa zab k zbh pv6 qv6=true->K (e25 (zmk S5 zaa zab k zbh pv6 qv6))->X6 (zmb zaa zab zbh pv6 qv6):=by
    intro k
    induction k with
    | zero=>intro zbh pv6 qv6 hs;exact absurd hs dqk
    | succ k ih =>
      intro zbh pv6 qv6 hs hk
      refine hstep zbh pv6 qv6 ?_
      have hs:zsI P5 zaa zab (zml P5 zaa zab k) zbh pv6 qv6=true:=hs
      have hk:K (e25 (zsH S5 zaa zab (zmk S5 zaa zab k) zbh pv6 qv6)):=hk
      unfold zsI at hs
      unfold zsH at hk
      generalize zmk S5 zaa zab k=S6 at hk ih
      generalize zml P5 zaa zab k=P6 at hs ih
      have hX6:=ih
      exact (zaI hs λ hc hs => ⟨hc, (zb6 (K := λ r => K (e25 r))
 (λ hs hk => (zaI hs λ hc hs => ⟨hc, (zb6 (K := λ r => K (e25 r))
 (λ hs hk=>(zAT K zaa zab zbh (⟨2,(zkk pv6 [pv6,qv6])⟩:Sl Int) (zed [(zak pv6),(zak qv6)]) (zfV (enc:=zak) (x:=pv6) (y:=qv6) (r:=[])) hs hk))
 (λ hs hk=>(hX6 zbh pv6 (w64 (qv6+(1:Int))) hs hk)) hs hk)⟩))
 (fun hs hk=>(hX5 zbh (w64 (pv6+(1:Int))) hs hk)) hs hk)⟩)
  exact key _ zbh pv6 qv6 hs hk
def zsJ (zaa:(Sl Gate)) (zab:(Sl Mp)) (S5:Int->Int->((Sl Int)×Int×Int)) (zbm:Int) (pv5:Int):((Sl Int)×Int×Int) :=
  (cond (decide (pv5 <= (zaa.get 0).High))
 (zAU S5 zaa zab zbm pv5 ((zaa.get 1).Low))
 (zoX zaa zab zbm (⟨0,(λ _=>default)⟩:Sl Int)))
def zsK (zaa:(Sl Gate)) (zab:(Sl Mp)) (P5:Int->Int->Bool) (zbm:Int) (pv5:Int):Bool :=
  (decide ((0<=(0:Int)/\(0:Int) < (zaa.len:Int))) &&
 (cond (decide (pv5 <= (zaa.get 0).High))
 (decide ((0<=(1:Int)/\(1:Int) < (zaa.len:Int))) &&
 (zAV P5 zaa zab zbm pv5 ((zaa.get 1).Low)))
 (zoY zaa zab zbm (⟨0,(λ _=>default)⟩:Sl Int))))
def zmm (zaa : (Sl Gate)) (zab : (Sl Mp)) : Nat → Int → Int → ((Sl Int) × Int × Int)
  | 0=>λ _ _=>default
  | k+1=>zsJ zaa zab (zmm zaa zab k)
def zmn (zaa : (Sl Gate)) (zab : (Sl Mp)) : Nat → Int → Int → Bool
  | 0=>λ _ _=>false
  | k+1=>zsK zaa zab (zmn zaa zab k)
def zAW (zaa:(Sl Gate)) (zab:(Sl Mp)) (zbm:Int) (pv5:Int):((Sl Int)×Int×Int):=zmm zaa zab Fuel zbm pv5
def zAX (zaa:(Sl Gate)) (zab:(Sl Mp)) (zbm:Int) (pv5:Int):Bool:=zmn zaa zab Fuel zbm pv5
theorem zIP (K:List PA->Prop) (zaa:(Sl Gate)) (zab:(Sl Mp)) (zbm:Int) (pv5:Int) (hs:zAX zaa zab zbm pv5=true) (hk:K (e25 (zAW zaa zab zbm pv5))):zma (Wk K) zaa zab zbm pv5:=by
  refine zAL (Wk K) zaa zab zbm pv5 ?_
  intro X5 hstep
  have key:∀ (k:Nat) (zbm:Int) (pv5:Int),zmn zaa zab k zbm pv5=true->K (e25 (zmm zaa zab k zbm pv5))->X5 (zka zaa zab zbm pv5):=by
    intro k
    induction k with
    | zero=>intro zbm pv5 hs;exact absurd hs dqk
    | succ k ih =>
      intro zbm pv5 hs hk
      refine hstep zbm pv5 ?_
      have hs:zsK zaa zab (zmn zaa zab k) zbm pv5=true:=hs
      have hk:K (e25 (zsJ zaa zab (zmm zaa zab k) zbm pv5)):=hk
      unfold zsK at hs
      unfold zsJ at hk
      generalize zmm zaa zab k=S5 at hk ih
      generalize zmn zaa zab k=P5 at hs ih
      have hX5:=ih
      exact (zaI hs λ hc hs => ⟨hc, (zb6 (K := λ r => K (e25 r))
 (λ hs hk=>(zaI hs λ hc hs=>⟨hc,(zIO K zaa zab X5 P5 S5 hX5 zbm pv5 ((zaa.get 1).Low) hs hk)⟩))
 (fun hs hk=>(zAT K zaa zab zbm (⟨0,(fun _=>default)⟩:Sl Int) (fun i=>zak ((fun _=>default) i)) rfl hs hk)) hs hk)⟩)
  exact key _ zbm pv5 hs hk
def zsL (zaa:(Sl Gate)) (zab:(Sl Mp)) (zex:Int):((Sl Int)×Int×Int) :=
  (zAW zaa zab zex ((zaa.get 0).Low))
def zsM (zaa:(Sl Gate)) (zab:(Sl Mp)) (zex:Int):Bool :=
  (decide ((0<=(0:Int)/\(0:Int) < (zaa.len:Int))) &&
 (zAX zaa zab zex ((zaa.get 0).Low)))
theorem zIQ (K:List PA->Prop) (zaa:(Sl Gate)) (zab:(Sl Mp)) (zex:Int) (hs:zsM zaa zab zex=true) (hk:K (e25 (zsL zaa zab zex))):zoV (Wk K) zaa zab zex:=by
  refine zaN (zIJ (Wk K) zaa zab zex) ?_
  unfold zsM at hs
  unfold zsL at hk
  exact (zaI hs λ hc hs=>⟨hc,(zIP K zaa zab zex ((zaa.get 0).Low) hs hk)⟩)
def zoZ (zaa:(Sl Gate)) (zab:(Sl Mp)) (zaY:Int):((Sl Int)×Int×Int) :=
  (zsL zaa zab zaY)
def zo0 (zaa:(Sl Gate)) (zab:(Sl Mp)) (zaY:Int):Bool :=
  (zsM zaa zab zaY)
def zmo (zaa:(Sl Gate)) (zab:(Sl Mp)) (k24_0:Int) (k24_1:Int) (S3:Int->((Sl Int)×Int×Int)) (zaY:Int):((Sl Int)×Int×Int) :=
  (cond (decide (zaY < (0:Int)))
 (S3 (zff (((zab.get 0).F) [k24_0,k24_1]) 0))
 (cond (decide ((zff (((zab.get 0).F) [k24_0, k24_1]) 0) < zaY))
 (S3 (zff (((zab.get 0).F) [k24_0,k24_1]) 0))
 (S3 zaY)))
def zmp (zaa:(Sl Gate)) (zab:(Sl Mp)) (k24_0:Int) (k24_1:Int) (P3:Int->Bool) (zaY:Int):Bool :=
  (cond (decide (zaY < (0:Int)))
 (P3 (zff (((zab.get 0).F) [k24_0,k24_1]) 0))
 (cond (decide ((zff (((zab.get 0).F) [k24_0, k24_1]) 0) < zaY))
 (P3 (zff (((zab.get 0).F) [k24_0,k24_1]) 0))
 (P3 zaY)))
def zfo (zaa : (Sl Gate)) (zab : (Sl Mp)) : List (List Int) → Int → ((Sl Int) × Int × Int)
  | []=>zoZ zaa zab
  | y :: r=>zmo zaa zab (y.getD 0 0) (y.getD 1 0) (zfo zaa zab r)
def zgc (zaa : (Sl Gate)) (zab : (Sl Mp)) : List (List Int) → Int → Bool
  | []=>zo0 zaa zab
  | y :: r=>zmp zaa zab (y.getD 0 0) (y.getD 1 0) (zgc zaa zab r)
def zg1 (_gates:Sl Gate) (t:Sl Mp) (ys:List (List Int)):Bool:=ys.all λ y=>decide (0<=zff ((t.get 0).F y) 0)
theorem zIR (zaa:Sl Gate) (t:Sl Mp):∀ (y:List Int) (r:List (List Int)),zg1 zaa t (y :: r)=true->zg1 zaa t r=true:=λ y r h=>by
  simp only[zg1,List.all_cons,dqm] at h ⊢;exact h.2
def kst (F:List Int->Option (List Int)) (k:Int) (y:List Int):Int:=if k < 0 then zff (F y) 0 else if zff (F y) 0 < k then zff (F y) 0 else k
theorem zu6 (F:List Int->Option (List Int)) {ys zs:List (List Int)}(h:∀ y∈ys,0<=zff (F y) 0) (hp:ys.Perm zs) (k:Int):ys.foldl (kst F) k=zs.foldl (kst F) k:=by
  refine hp.foldl_eq' (λ x hx y hy z=>?_) k
  have h1:=h x hx
  have h2:=h y hy
  unfold kst
  repeat' split
  all_goals omega
theorem zsN (zaa : Sl Gate) (t : Sl Mp) : ∀ (ys : List (List Int)) (k : Int), (∀ y ∈ ys, y.length = 2) → zfo zaa t ys k = zoZ zaa t (ys.foldl (kst (t.get 0).F) k)
  | [],k,_=>rfl
  | y :: r,k,h=>by
    have hy:=h y dqj
    match y,hy with
    | [a,b],_ =>
    have ih:=λ k=>zsN zaa t r k (λ z hz=>h z (dqf _ hz))
    show zmo zaa t a b (zfo zaa t r) k=_
    rw[List.foldl_cons]
    unfold zmo
    by_cases h1:k < 0
    · rw[decide_eq_true h1,cond_true,ih,show kst (t.get 0).F k [a,b]=zff ((t.get 0).F [a,b]) 0 from if_pos h1]
    · rw [decide_eq_false h1, cond_false]
      by_cases h2:zff ((t.get 0).F [a,b]) 0 < k
      · rw[decide_eq_true h2,cond_true,ih,show kst (t.get 0).F k [a,b]=zff ((t.get 0).F [a,b]) 0 from (if_neg h1).trans (if_pos h2)]
      · rw[decide_eq_false h2,cond_false,ih,show kst (t.get 0).F k [a,b]=k from (if_neg h1).trans (if_neg h2)]
theorem zsO (zaa : Sl Gate) (t : Sl Mp) : ∀ (ys : List (List Int)) (k : Int), (∀ y ∈ ys, y.length = 2) → zgc zaa t ys k = zo0 zaa t (ys.foldl (kst (t.get 0).F) k)
  | [],k,_=>rfl
  | y :: r,k,h=>by
    have hy:=h y dqj
    match y,hy with
    | [a,b],_ =>
    have ih:=λ k=>zsO zaa t r k (λ z hz=>h z (dqf _ hz))
    show zmp zaa t a b (zgc zaa t r) k=_
    rw[List.foldl_cons]
    unfold zmp
    by_cases h1:k < 0
    · rw[decide_eq_true h1,cond_true,ih,show kst (t.get 0).F k [a,b]=zff ((t.get 0).F [a,b]) 0 from if_pos h1]
    · rw [decide_eq_false h1, cond_false]
      by_cases h2:zff ((t.get 0).F [a,b]) 0 < k
      · rw[decide_eq_true h2,cond_true,ih,show kst (t.get 0).F k [a,b]=zff ((t.get 0).F [a,b]) 0 from (if_neg h1).trans (if_pos h2)]
      · rw[decide_eq_false h2,cond_false,ih,show kst (t.get 0).F k [a,b]=k from (if_neg h1).trans (if_neg h2)]
theorem zIS (zaa : Sl Gate) (t : Sl Mp) (ys zs : List (List Int)) (hl : ∀ y ∈ ys, y.length = 2) (h : zg1 zaa t ys = true) (hp : ys.Perm zs) :
    zg1 zaa t zs=true/\zfo zaa t ys=zfo zaa t zs/\zgc zaa t ys=zgc zaa t zs:=by
  simp only[zg1,List.all_eq_true,decide_eq_true_eq] at h ⊢
  have hl2:∀ y∈zs,y.length=2:=λ y hy=>hl y (hp.mem_iff.2 hy)
  refine⟨λ y hy=>h y (hp.mem_iff.2 hy),funext λ k=>?_,funext λ k=>?_⟩
  · rw[zsN zaa t ys k hl,zsN zaa t zs k hl2,zu6 _ h hp]
  · rw[zsO zaa t ys k hl,zsO zaa t zs k hl2,zu6 _ h hp]
def zsP (zaa:(Sl Gate)) (zab:(Sl Mp)) (zaY:Int):((Sl Int)×Int×Int):=zfo zaa zab (znz zaa) zaY
def zsQ (zaa:(Sl Gate)) (zab:(Sl Mp)) (zaY:Int):Bool:=keysB 2 ((zab.get 0).n) ((zab.get 0).F) (znz zaa) && zg1 zaa zab (znz zaa) && zgc zaa zab (znz zaa) zaY
theorem zIT (K:List PA->Prop) (zaa:(Sl Gate)) (zab:(Sl Mp)) (zaY:Int) (hs:zsQ zaa zab zaY=true) (hk:K (e25 (zsP zaa zab zaY))):zl9 (Wk K) zaa zab [] zaY:=by
  unfold zsQ at hs
  rw[dqm,dqm] at hs
  obtain⟨⟨hkeys,hI⟩,hs⟩:=hs
  have ek:zsP zaa zab zaY=zfo zaa zab (znz zaa) zaY:=rfl
  rw[ek] at hk
  generalize hys:znz zaa=ys0 at hkeys hI hs hk
  refine zAK (Wk K) zaa zab [] zaY ?_
  intro X3 hstep
  have key:∀ (N:Nat) (ys:List (List Int)) (zbk:List (List Int)) (zaY:Int),ys.length=N->(zCQ 2 ((zab.get 0).n) ((zab.get 0).F)->zGD 2 ((zab.get 0).F) zbk ys)->zg1 zaa zab ys=true->zgc zaa zab ys zaY=true->K (e25 (zfo zaa zab ys zaY))->X3 (ziM zaa zab zbk zaY):=by
    intro N
    induction N with
    | zero =>
      intro ys zbk zaY hN hrem hI hs hk
      obtain rfl:=List.eq_nil_of_length_eq_zero hN
      refine hstep zbk zaY ?_
      intro hfin
      have hrem:=hrem hfin
      refine⟨λ _=>?_,λ k24_0 k24_1 hF hns=>absurd (hrem.2.2 [k24_0,k24_1] rfl hF hns) (by simp)⟩
      have hs:zo0 zaa zab zaY=true:=hs
      have hk:K (e25 (zoZ zaa zab zaY)):=hk
      unfold zo0 at hs
      unfold zoZ at hk
      exact (zIQ K zaa zab zaY hs hk)
    | succ N ih =>
      intro ys zbk zaY hN hrem hI hs hk
      refine hstep zbk zaY ?_
      intro hfin
      have hrem:=hrem hfin
      refine⟨λ hend=>?_,λ k24_0 k24_1 hF hns=>?_⟩
      · exact absurd (zrL hrem hend) (λ e=>by rw[e] at hN;simp at hN)
      · obtain ⟨hperm, hrem2, hlen⟩ := zox hrem (c := [k24_0, k24_1]) rfl hF hns
        obtain⟨hI2,e1,e2⟩:=zIS zaa zab ys _ (λ y hy=>(hrem.2.1 y hy).1) hI hperm
        have hI3:=zIR zaa zab _ _ hI2
        rw[e2] at hs
        rw[e1] at hk
        have hs:zmp zaa zab k24_0 k24_1 (zgc zaa zab (ys.erase [k24_0,k24_1])) zaY=true:=hs
        have hk:K (e25 (zmo zaa zab k24_0 k24_1 (zfo zaa zab (ys.erase [k24_0,k24_1])) zaY)):=hk
        have ih:=λ (zaY:Int)=>ih (ys.erase [k24_0,k24_1]) ([k24_0,k24_1] :: zbk) zaY (by omega) (λ _=>hrem2) hI3
        unfold zmp at hs
        unfold zmo at hk
        generalize zfo zaa zab (ys.erase [k24_0,k24_1])=S3 at hk ih
        generalize zgc zaa zab (ys.erase [k24_0,k24_1])=P3 at hs ih
        have hX3:=ih
        exact (zb6 (K := λ r => K (e25 r))
 (λ hs hk=>(hX3 (zff (((zab.get 0).F) [k24_0,k24_1]) 0) hs hk))
 (λ hs hk => (zb6 (K := λ r => K (e25 r))
 (λ hs hk=>(hX3 (zff (((zab.get 0).F) [k24_0,k24_1]) 0) hs hk))
 (fun hs hk=>(hX3 zaY hs hk)) hs hk)) hs hk)
  exact key _ ys0 [] zaY rfl (λ hf=>zlM hkeys hf) hI hs hk
def zsR (zaa:(Sl Gate)) (zab:(Sl Mp)):((Sl Int)×Int×Int) :=
  (zsP zaa zab (-1:Int))
def zsS (zaa:(Sl Gate)) (zab:(Sl Mp)):Bool :=
  (decide ((0<=(0:Int)/\(0:Int) < (zab.len:Int))) &&
 (zsQ zaa zab (-1:Int)))
theorem zIU (K:List PA->Prop) (zaa:(Sl Gate)) (zab:(Sl Mp)) (zfD:Nat->List PV) (zAY:zfD=λ i=>zfb (zab.get i)) (hs:zsS zaa zab=true) (hk:K (e25 (zsR zaa zab))):zoU (Wk K) zaa zab.len zfD:=by
  subst zAY
  refine zaN (zII (Wk K) zaa zab) ?_
  unfold zsS at hs
  unfold zsR at hk
  exact (zaI hs λ hc hs=>⟨hc,(zIT K zaa zab (-1:Int) hs hk)⟩)
def zsU (zaa:(Sl Gate)):((Sl Int)×Int×Int) :=
  (zsR zaa (s52 zaa))
def zsV (zaa:(Sl Gate)):Bool :=
  (decide ((p52 zaa=true)) &&
 (zsS zaa (s52 zaa)))
theorem zIV (K:List PA->Prop) (zaa:(Sl Gate)) (hs:zsV zaa=true) (hk:K (e25 (zsU zaa))):zoT (Wk K) zaa:=by
  refine zaN (zIH (Wk K) zaa) ?_
  unfold zsV at hs
  unfold zsU at hk
  exact (zaI hs λ hc hs=>⟨⟨isE,hc⟩,(zIU K zaa (s52 zaa) (λ i=>zfb ((s52 zaa).get i)) rfl hs hk)⟩)
def zsW (zaa:(Sl Gate)) (zh3:Bool):((Sl Int)×Int×Int) :=
  (cond zh3
 ((⟨0,λ _=>default⟩:(Sl Int)),(0:Int),(2:Int))
 (zsU zaa))
def zsX (zaa:(Sl Gate)) (zh3:Bool):Bool :=
  (cond zh3
 true
 (zsV zaa))
theorem zIW (K:List PA->Prop) (zaa:(Sl Gate)) (zh3:Bool) (hs:zsX zaa zh3=true) (hk:K (e25 (zsW zaa zh3))):zoS (Wk K) zaa zh3:=by
  refine zaN (zIG (Wk K) zaa zh3) ?_
  unfold zsX at hs
  unfold zsW at hk
  exact (zb6 (K := λ r => K (e25 r))
 (λ hs hk=>(wk hk (zfa (.one (.nil _ _)) (zfa (.one (.rfl _)) (zfa (.one (.rfl _)) zlL)))))
 (λ hs hk=>(zIV K zaa hs hk)) hs hk)
def s25 (zaa:(Sl Gate)):((Sl Int)×Int×Int) :=
  (zsW zaa (!(s51 zaa)))
def p25 (zaa:(Sl Gate)):Bool :=
  (decide ((p51 zaa=true)) &&
 (zsX zaa (!(s51 zaa))))
theorem q25 (zaa:(Sl Gate)) (K:List PA->Prop) (hs:p25 zaa=true) (hk:K (e25 (s25 zaa))):vcFun Tryz.prog G25 zbr 25 [.one (.sl zaa.len 3 (λ i=>enc_48 (zaa.get i)))] (Wk K):=by
  refine zaN (zIF zaa (Wk K)) ?_
  unfold p25 at hs
  unfold s25 at hk
  exact (zaI hs λ hc hs=>⟨⟨isE,hc⟩,(zIW K zaa (!(s51 zaa)) hs hk)⟩)
def zIX : List PA → COut
  | [.one (.sl zaU zcu zaV)]=>.det (IsE enc_48 3 zcu zaV/\p25 (⟨zaU,zaf zaV⟩:(Sl Gate))=true) [.one (.sl (((s25 (⟨zaU,zaf zaV⟩:(Sl Gate))).1).len) 1 (λ i=>zak (((s25 (⟨zaU,zaf zaV⟩:(Sl Gate))).1).get i))),.one (.int .i64 ((s25 (⟨zaU,zaf zaV⟩:(Sl Gate))).2.1)),.one (.int .i64 ((s25 (⟨zaU,zaf zaV⟩:(Sl Gate))).2.2))]
  | _=>.no
theorem zMR:zah Tryz.prog 25:=⟨_,rfl,rfl,by kernel_rfl⟩
theorem zR2:Ok Tryz.prog 25 zIX:=zgK zPZ zMR λ args K h=>by
  unfold zIX at h
  split at h
  · rename_i zaU zcu zaV
    obtain⟨⟨⟨rfl,zbF,rfl⟩,hs⟩,hk⟩:=h
    try rw[zae zbF] at hs
    try rw[zae zbF] at hk
    exact⟨_,zgn zgJ _,(λ _ _=>[]),(λ _=>false),zbr,q25 (⟨zaU,zbF⟩:(Sl Gate)) K hs hk⟩
  · exact h.elim
abbrev T54:Tabs:=Tabs.nil
theorem zP0:TabsOk Tryz.prog T54:=TabsOk.nil
abbrev G54:Ctrs:=csm T54 (λ _ _=>[]) (λ _=>false)
def zIY:Ann:=⟨12,[(0,zK [0,1] []),(1,zK [0,1,6] []),(2,zK [0,1] []),(3,zK [4] [])],
 [(1,zK [0,1] [])],
 [],
 [],[]⟩
abbrev R54:=Int
abbrev e54 (r:R54):List PA:=[.one (.int .i64 r)]
@[irreducible] def z54:=ptF Tryz.prog G54 zIY Tryz.f54
def zFb (av0:Int) (bv0:Int):St:=⟨[(0,zI av0),(1,zI bv0)],[],[]⟩
abbrev zMS (K:List PA->Prop) (X:St->Prop) (P:Int->Int->Bool) (S:Int->Int->Int):Prop:=∀ ⦃av0:Int⦄ ⦃bv0:Int⦄,P av0 bv0=true->K (e54 (S av0 bv0))->X (zFb av0 bv0)
section
variable {K:List PA->Prop}{a:Int}{b:Int}{av0:Int}{bv0:Int}{X0:St->Prop}{P0:Int->Int->Bool}{S0:Int->Int->Int}
def zo1 (S0:Int->Int->Int) (av0:Int) (bv0:Int):Int :=
  (cond (bv0 != (0:Int))
 (S0 bv0 (av0.tmod bv0))
 av0)
def zo2 (P0:Int->Int->Bool) (av0:Int) (bv0:Int):Bool :=
  (cond (bv0 != (0:Int))
 (decide ((bv0 ≠ 0)) &&
 (P0 bv0 (av0.tmod bv0)))
 true)
def zo3:Nat->Int->Int->Int:=lpO (λ _ _=>default) (zo1)
def zo4:Nat->Int->Int->Bool:=lpO (λ _ _=>false) (zo2)
def zAZ (av0:Int) (bv0:Int):Int:=zo3 Fuel av0 bv0
def zA0 (av0:Int) (bv0:Int):Bool:=zo4 Fuel av0 bv0
theorem zIZ (hs:zA0 av0 bv0=true) (hk:K (e54 (zAZ av0 bv0))):z54 K [1,0,0] [] (zFb av0 bv0) :=
  zl (λ X=>z54 K [1,0,0,0] [X]) (by kernel_rfl) λ X0 hX =>
  (show ∀ k, zMS K X0 (zo4 k) (zo3 k) from zgw _ _ (zo2) (zo1) (zMS K X0)
 (by intro _ _ hs;exact absurd hs dqk)
 (by intro P0 S0 hX0 av0 bv0 hs hk;exact hX _ (zaN (by kernel_rfl) (zc hs hk (λ hs hk=>(zaI hs λ hc hs=>And.intro hc (hX0 hs hk))) (λ hs hk=>hk))))) _ hs hk
def s54 (a:Int) (b:Int):Int :=
  (zAZ a b)
def p54 (a:Int) (b:Int):Bool :=
  (zA0 a b)
end
theorem q54 (a:Int) (b:Int) (K:List PA->Prop) (hs:p54 a b=true) (hk:K (e54 (s54 a b))):vcFun Tryz.prog G54 zIY 54 [.one (.int .i64 a),.one (.int .i64 b)] K :=
  zaN (by kernel_rfl) (zIZ hs hk)
def zI0 : List PA → COut
  | [.one (.int .i64 a0),.one (.int .i64 a1)]=>.det (p54 a0 a1=true) [.one (.int .i64 (s54 a0 a1))]
  | _=>.no
theorem zMT:zah Tryz.prog 54:=⟨_,rfl,rfl,by kernel_rfl⟩
theorem zR3:Ok Tryz.prog 54 zI0:=za3 zP0 zMT λ args K h=>by
  unfold zI0 at h
  split at h
  · rename_i a0 a1
    obtain⟨hs,hk⟩:=h
    exact⟨(λ _ _=>[]),(λ _=>false),zIY,q54 a0 a1 K hs hk⟩
  · exact h.elim
abbrev T26:Tabs:=(Tabs.nil.addF 54 zI0)
theorem zP1:TabsOk Tryz.prog T26:=(TabsOk.nil.addF zR3)
abbrev G26:Ctrs:=csm T26 (λ _ _=>[]) (λ _=>false)
def zMU:Ann:=⟨19,[(0,zK [0,1,4] [4]),(1,zK [0,1,4,5] [4]),(2,zK [4] [4])],
 [],
 [],
 [],[]⟩
abbrev R26:=Frac
abbrev e26 (r:R26):List PA:=[.agg [.int .i64 r.Num,.int .i64 r.Den]]
section
variable {K:List PA->Prop}{num:Int}{den:Int}
def s26 (num:Int) (den:Int):Frac :=
  (⟨(w64 (num.tdiv (s54 (if (w64 (0 - num)) > num then (w64 (0 - num)) else num) den))),(w64 (den.tdiv (s54 (if (w64 (0 - num)) > num then (w64 (0 - num)) else num) den)))⟩:Frac)
def p26 (num:Int) (den:Int):Bool :=
  (decide ((p54 (if (w64 (0 - num)) > num then (w64 (0 - num)) else num) den=true)) &&
 (decide (((s54 (if (w64 (0 - num)) > num then (w64 (0 - num)) else num) den) ≠ 0)) &&
 (decide (((s54 (if (w64 (0 - num)) > num then (w64 (0 - num)) else num) den) ≠ 0)) &&
 true)))
end
theorem q26 (num:Int) (den:Int) (K:List PA->Prop) (hs:p26 num den=true) (hk:K (e26 (s26 num den))):vcFun Tryz.prog G26 zMU 26 [.one (.int .i64 num),.one (.int .i64 den)] K :=
  zaN (by kernel_rfl) (zaI hs λ hc hs=>And.intro hc (zaI hs λ hc hs=>And.intro hc (zaI hs λ hc hs=>And.intro hc hk)))
def zD0 : List PA → COut
  | [.one (.int .i64 a0),.one (.int .i64 a1)]=>.det (p26 a0 a1=true) [.agg [.int .i64 ((s26 a0 a1).Num),.int .i64 ((s26 a0 a1).Den)]]
  | _=>.no
theorem zMV:zah Tryz.prog 26:=⟨_,rfl,rfl,by kernel_rfl⟩
theorem zQ3:Ok Tryz.prog 26 zD0:=za3 zP1 zMV λ args K h=>by
  unfold zD0 at h
  split at h
  · rename_i a0 a1
    obtain⟨hs,hk⟩:=h
    exact⟨(λ _ _=>[]),(λ _=>false),zMU,q26 a0 a1 K hs hk⟩
  · exact h.elim
abbrev T27:Tabs:=Tabs.nil
theorem zP2:TabsOk Tryz.prog T27:=TabsOk.nil
abbrev G27:Ctrs:=csm T27 (λ _ _=>[]) (λ _=>false)
def zI1:Ann:=⟨26,[(0,zK [0,1] []),(1,zK [0,1,10] []),(2,zK [4] []),(3,zK [0,1,5] []),(4,zK [0,1,5,14] []),(5,zK [0,1,5] []),(6,zK [0,1,5,25] []),(7,zK [4] []),(8,zK [4] [])],
 [(4,zK [0,1,5] [])],
 [(3,zK [0,1] [])],
 [],[]⟩
abbrev R27:=Bool
abbrev e27 (r:R27):List PA:=[.one (.bool r)]
@[irreducible] def z27:=ptF Tryz.prog G27 zI1 Tryz.f27
def zFc (a:(Sl Line)) (b:(Sl Line)) (iv1:Int):St:=⟨[(0,zS zce 4 a),(1,zS zce 4 b),(5,zI iv1)],[],[]⟩
abbrev zMW (K:List PA->Prop) (a:(Sl Line)) (b:(Sl Line)) (X:St->Prop) (P:Int->Bool) (S:Int->Bool):Prop:=∀ ⦃iv1:Int⦄,P iv1=true->K (e27 (S iv1))->X (zFc a b iv1)
section
variable {K:List PA->Prop}{a:(Sl Line)}{b:(Sl Line)}{iv1:Int}{X1:St->Prop}{P1:Int->Bool}{S1:Int->Bool}
def zA1 (a:(Sl Line)) (b:(Sl Line)) (S1:Int->Bool) (iv1:Int):Bool :=
  (cond (decide (iv1 < (a.len : Int)))
 (cond (!(match (match ((a.get iv1.toNat).Slope.Num == (b.get iv1.toNat).Slope.Num) with | true => (match ((a.get iv1.toNat).Slope.Den == (b.get iv1.toNat).Slope.Den) with | true => true | false => false) | false => false) with | true => (match (match ((a.get iv1.toNat).Start.Num == (b.get iv1.toNat).Start.Num) with | true => (match ((a.get iv1.toNat).Start.Den == (b.get iv1.toNat).Start.Den) with | true => true | false => false) | false => false) with | true => true | false => false) | false => false))
 false
 (S1 (w64 (iv1+(1:Int)))))
 true)
def zA2 (a:(Sl Line)) (b:(Sl Line)) (P1:Int->Bool) (iv1:Int):Bool :=
  (cond (decide (iv1 < (a.len : Int)))
 (decide ((0<=iv1/\iv1 < (a.len:Int))) &&
 (decide ((0<=iv1/\iv1 < (b.len:Int))) &&
 (cond (!(match (match ((a.get iv1.toNat).Slope.Num == (b.get iv1.toNat).Slope.Num) with | true => (match ((a.get iv1.toNat).Slope.Den == (b.get iv1.toNat).Slope.Den) with | true => true | false => false) | false => false) with | true => (match (match ((a.get iv1.toNat).Start.Num == (b.get iv1.toNat).Start.Num) with | true => (match ((a.get iv1.toNat).Start.Den == (b.get iv1.toNat).Start.Den) with | true => true | false => false) | false => false) with | true => true | false => false) | false => false))
 true
 (P1 (w64 (iv1+(1:Int)))))))
 true)
def zA3 (a:(Sl Line)) (b:(Sl Line)):Nat->Int->Bool:=lpO (λ _=>default) (zA1 a b)
def zA4 (a:(Sl Line)) (b:(Sl Line)):Nat->Int->Bool:=lpO (λ _=>false) (zA2 a b)
def zA5 (a:(Sl Line)) (b:(Sl Line)) (iv1:Int):Bool:=zA3 a b Fuel iv1
def zA6 (a:(Sl Line)) (b:(Sl Line)) (iv1:Int):Bool:=zA4 a b Fuel iv1
theorem zI2 (hs:zA6 a b iv1=true) (hk:K (e27 (zA5 a b iv1))):z27 K [1,1,0,1,0] [] (zFc a b iv1) :=
  zl (λ X=>z27 K [1,1,0,1,0,0] [X]) (by kernel_rfl) λ X1 hX =>
  (show ∀ k, zMW K a b X1 (zA4 a b k) (zA3 a b k) from zgw _ _ (zA2 a b) (zA1 a b) (zMW K a b X1)
 (by intro _ hs;exact absurd hs dqk)
 (by intro P1 S1 hX1 iv1 hs hk;exact hX _ (zaN (by kernel_rfl) (zc hs hk (λ hs hk=>(zaI hs λ hc hs=>And.intro hc (zaI hs λ hc hs=>And.intro hc (zc hs hk (λ hs hk=>hk) (λ hs hk=>(hX1 hs hk)))))) (λ hs hk=>hk))))) _ hs hk
def zA7 (a:(Sl Line)) (b:(Sl Line)):Bool :=
  (zA5 a b (0:Int))
def zA8 (a:(Sl Line)) (b:(Sl Line)):Bool :=
  (zA6 a b (0:Int))
theorem zI3 (hs:zA8 a b=true) (hk:K (e27 (zA7 a b))):z27 K [1,1] [] ⟨[(0,zS zce 4 a),(1,zS zce 4 b)],[],[]⟩:=zaN (by kernel_rfl) (zI2 hs hk)
def s27 (a:(Sl Line)) (b:(Sl Line)):Bool :=
  (cond ((a.len : Int) != (b.len : Int))
 false
 (zA7 a b))
def p27 (a:(Sl Line)) (b:(Sl Line)):Bool :=
  (cond ((a.len : Int) != (b.len : Int))
 true
 (zA8 a b))
end
theorem q27 (a:(Sl Line)) (b:(Sl Line)) (K:List PA->Prop) (hs:p27 a b=true) (hk:K (e27 (s27 a b))):vcFun Tryz.prog G27 zI1 27 [.one (.sl a.len 4 (λ i=>zce (a.get i))),.one (.sl b.len 4 (λ i=>zce (b.get i)))] K :=
  zaN (by kernel_rfl) (zc hs hk (λ hs hk=>hk) (λ hs hk=>(zI3 hs hk)))
def zI4 : List PA → COut
  | [.one (.sl zaU zcu zaV),.one (.sl zet zj9 zeu)]=>.det (IsE zce 4 zcu zaV/\IsE zce 4 zj9 zeu/\p27 (⟨zaU,zlO zaV⟩:(Sl Line)) (⟨zet,zlO zeu⟩:(Sl Line))=true) [.one (.bool (s27 (⟨zaU,zlO zaV⟩:(Sl Line)) (⟨zet,zlO zeu⟩:(Sl Line))))]
  | _=>.no
theorem zMX:zah Tryz.prog 27:=⟨_,rfl,rfl,by kernel_rfl⟩
theorem zR4:Ok Tryz.prog 27 zI4:=za3 zP2 zMX λ args K h=>by
  unfold zI4 at h
  split at h
  · rename_i zaU zcu zaV zet zj9 zeu
    obtain⟨⟨⟨rfl,zbF,rfl⟩,⟨rfl,zhn,rfl⟩,hs⟩,hk⟩:=h
    try rw[zfX zbF] at hs
    try rw[zfX zbF] at hk
    try rw[zfX zhn] at hs
    try rw[zfX zhn] at hk
    exact⟨(λ _ _=>[]),(λ _=>false),zI1,q27 (⟨zaU,zbF⟩:(Sl Line)) (⟨zet,zhn⟩:(Sl Line)) K hs hk⟩
  · exact h.elim
abbrev T5:Tabs:=((((((((((Tabs.nil.addF 9 zPx).addF 18 zDM).addF 20 zHK).addF 21 zHL).addF 22 zIe).addF 23 zIf).addF 24 zIr).addF 25 zIX).addF 26 zD0).addF 27 zI4)
theorem zR5:TabsOk Tryz.prog T5:=((((((((((TabsOk.nil.addF ok9).addF zQT).addF zRN).addF zRO).addF zRX).addF zRY).addF zRZ).addF zR2).addF zQ3).addF zR4)
abbrev G5:Ctrs:=csm T5 (λ _ _=>[]) (λ _=>false)
def zP3:Ann:=⟨125,[(0,zK [] []),(1,zK [1,2] []),(2,zK [1,2,3,4,5] [3,4]),(3,zK [1,2,3,4,5,6,7] [3,4]),(4,zK [1,2,3,4,5,6,7,8,9,10,11] [3,4,9,10]),(5,zK [1,2,3,4,5,6,7,8,9,10,11,12,13,14] [3,4,9,10]),(6,zK [1,3,4,6,9,10,12,76] [3,4,9,10]),(7,zK [0] []),(8,zK [1,3,4,6,9,10,12,15] [3,4,9,10,89]),(9,zK [0] [])],
 [],
 [(2,zK [1,2] []),(3,zK [1,2,3,4,5] [3,4]),(4,zK [1,2,3,4,5,6,7] [3,4]),(5,zK [1,2,3,4,5,6,7,8,9,10,11] [3,4,9,10]),(6,zK [1,2,3,4,5,6,7,8,9,10,11,12,13,14] [3,4,9,10]),(8,zK [1,3,4,6,9,10,12] [3,4,9,10]),(9,zK [1,3,4,6,9,10,12,15] [3,4,9,10,89])],
 [],[]⟩
abbrev R5:=Bool
abbrev e5 (r:R5):List PA:=[.one (.bool r)]
@[irreducible] def z5:=ptF Tryz.prog G5 zP3 Tryz.f5
section
variable {K:List PA->Prop}{cv0:(Sl Line)}{ev0:Int}{zMY:Nat->List PV}{fv1:Int}{zcN:Int}{zcO:Int}{zcP:Int}{zcQ:Int}{sv2:(Sl Int)}{gv2:Int}{zMZ:Nat->List PV}{sv3:(Sl Int)}{zv3:Int}{hv3:Int}{zdX:Int}{zdY:Int}{zdZ:Int}{zd0:Int}{zM0:Nat->List PV}{sv4:(Sl Int)}{lv4:(Sl Int)}{kv4:Int}{iv4:Int}{zM1:Nat->List PV}{zA9:Nat->List PV}{sv5:(Sl Int)}{zM2:Nat->List PV}{sv6:(Sl Int)}{zmY:(Sl Line)}{zM3:Nat->List PV}{zBa:Nat->List PV}
def zFd (cv0:(Sl Line)) (zcN:Int) (zcO:Int) (zcP:Int) (zcQ:Int) (zdX:Int) (zdY:Int) (zdZ:Int) (zd0:Int) (lv4:(Sl Int)) (sv6:(Sl Int)) (zmY:(Sl Line)):Bool :=
  (cond (s27 cv0 zmY)
 (cond (match (zcN == (s26 (40:Int) (1:Int)).Num) with | true => (match (zcO == (s26 (40:Int) (1:Int)).Den) with | true => true | false => false) | false => false)
 (cond (match (zcP == (s26 (90:Int) (1:Int)).Num) with | true => (match (zcQ == (s26 (90:Int) (1:Int)).Den) with | true => true | false => false) | false => false)
 (cond ((s9 sv6 (⟨3, zb7 (zed [(zak (0:Int)), (zak (1:Int)), (zak (2:Int))])⟩ : (Sl Int))) == (0:Int))
 (cond (match (zdX == (s26 (499:Int) (10:Int)).Num) with | true => (match (zdY == (s26 (499:Int) (10:Int)).Den) with | true => true | false => false) | false => false)
 (cond (match (zdZ == (s26 (501:Int) (10:Int)).Num) with | true => (match (zd0 == (s26 (501:Int) (10:Int)).Den) with | true => true | false => false) | false => false)
 ((s9 lv4 (⟨3,zb7 (zed [(zak (2:Int)),(zak (5:Int)),(zak (2:Int))])⟩:(Sl Int))) == (0:Int))
 false)
 false)
 false)
 false)
 false)
 false)
def zFe (cv0:(Sl Line)) (zcN:Int) (zcO:Int) (zcP:Int) (zcQ:Int) (zdX:Int) (zdY:Int) (zdZ:Int) (zd0:Int) (lv4:(Sl Int)) (sv6:(Sl Int)) (zmY:(Sl Line)):Bool :=
  (decide ((p27 cv0 zmY=true)) &&
 (cond (s27 cv0 zmY)
 (decide ((p26 (40:Int) (1:Int)=true)) &&
 (cond (match (zcN == (s26 (40:Int) (1:Int)).Num) with | true => (match (zcO == (s26 (40:Int) (1:Int)).Den) with | true => true | false => false) | false => false)
 (decide ((p26 (90:Int) (1:Int)=true)) &&
 (cond (match (zcP == (s26 (90:Int) (1:Int)).Num) with | true => (match (zcQ == (s26 (90:Int) (1:Int)).Den) with | true => true | false => false) | false => false)
 (decide ((p9 sv6 (⟨3,zb7 (zed [(zak (0:Int)),(zak (1:Int)),(zak (2:Int))])⟩:(Sl Int))=true)) &&
 (cond ((s9 sv6 (⟨3, zb7 (zed [(zak (0:Int)), (zak (1:Int)), (zak (2:Int))])⟩ : (Sl Int))) == (0:Int))
 (decide ((p26 (499:Int) (10:Int)=true)) &&
 (cond (match (zdX == (s26 (499:Int) (10:Int)).Num) with | true => (match (zdY == (s26 (499:Int) (10:Int)).Den) with | true => true | false => false) | false => false)
 (decide ((p26 (501:Int) (10:Int)=true)) &&
 (cond (match (zdZ == (s26 (501:Int) (10:Int)).Num) with | true => (match (zd0 == (s26 (501:Int) (10:Int)).Den) with | true => true | false => false) | false => false)
 (decide ((p9 lv4 (⟨3,zb7 (zed [(zak (2:Int)),(zak (5:Int)),(zak (2:Int))])⟩:(Sl Int))=true)) &&
 true)
 true))
 true))
 true))
 true))
 true))
 true))
theorem zM4 (hs:zFe cv0 zcN zcO zcP zcQ zdX zdY zdZ zd0 lv4 sv6 zmY=true) (hk:K (e5 (zFd cv0 zcN zcO zcP zcQ zdX zdY zdZ zd0 lv4 sv6 zmY))) (zP4:zM3=zg zak sv6) (zI5:zBa=zg zce zmY):z5 K [1,1,1,1,1,1,1,1] [] ⟨[(1,zS zce 4 cv0),(3,zp 3 0),(4,zp 4 0),(6,zP (.sl sv6.len 1 zM3)),(9,zp 9 0),(10,zp 10 0),(12,zS zak 1 lv4),(15,zv 89)],[(3,.box 40 (zm (zam (⟨zcN,zcO⟩:Frac)))),(4,.box 40 (zm (zam (⟨zcP,zcQ⟩:Frac)))),(9,.box 40 (zm (zam (⟨zdX,zdY⟩:Frac)))),(10,.box 40 (zm (zam (⟨zdZ,zd0⟩:Frac)))),(89,.vec 42 4 32 zmY.len zBa)],[]⟩:=by subst zP4;subst zI5;exact zaN (by kernel_rfl) (zaI hs λ hc hs=>And.intro (And.intro (zE zce 4 cv0.get) (And.intro (zE zce 4 zmY.get) hc)) (zc hs hk (λ hs hk=>(zaI hs λ hc hs=>And.intro hc (zc hs hk (λ hs hk=>(zaI hs λ hc hs=>And.intro hc (zc hs hk (λ hs hk=>(zaI hs λ hc hs=>And.intro (And.intro (zE zak 1 sv6.get) (And.intro ((zhm [(2:Int)]):IsE zak 1 1 (zed [(zak (0:Int)),(zak (1:Int)),(zak (2:Int))])) hc)) (zc hs hk (λ hs hk=>(zaI hs λ hc hs=>And.intro hc (zc hs hk (λ hs hk=>(zaI hs λ hc hs=>And.intro hc (zc hs hk (λ hs hk=>(zaI hs λ hc hs=>And.intro (And.intro (zE zak 1 lv4.get) (And.intro ((zhm [(2:Int)]):IsE zak 1 1 (zed [(zak (2:Int)),(zak (5:Int)),(zak (2:Int))])) hc)) hk)) (λ hs hk=>hk)))) (λ hs hk=>hk)))) (λ hs hk=>hk)))) (λ hs hk=>hk)))) (λ hs hk=>hk)))) (λ hs hk=>hk)))
def zFf (cv0:(Sl Line)) (zcN:Int) (zcO:Int) (zcP:Int) (zcQ:Int) (zdX:Int) (zdY:Int) (zdZ:Int) (zd0:Int) (lv4:(Sl Int)) (sv5:(Sl Int)):Bool :=
  (zFd cv0 zcN zcO zcP zcQ zdX zdY zdZ zd0 lv4 sv5 (⟨4,(zkk (⟨(s26 (1:Int) (10:Int)),(s26 (10:Int) (1:Int))⟩:Line) [(⟨(s26 (1:Int) (10:Int)),(s26 (10:Int) (1:Int))⟩:Line),(⟨(s26 (1:Int) (5:Int)),(s26 (0:Int) (1:Int))⟩:Line),(⟨(s26 (3:Int) (10:Int)),(s26 (0:Int) (1:Int))⟩:Line),(⟨(s26 (1:Int) (5:Int)),(s26 (10:Int) (1:Int))⟩:Line)])⟩:Sl Line))
def zFg (cv0:(Sl Line)) (zcN:Int) (zcO:Int) (zcP:Int) (zcQ:Int) (zdX:Int) (zdY:Int) (zdZ:Int) (zd0:Int) (lv4:(Sl Int)) (sv5:(Sl Int)):Bool :=
  (decide ((p26 (1:Int) (10:Int)=true)) &&
 (decide ((p26 (10:Int) (1:Int)=true)) &&
 (decide ((p26 (1:Int) (5:Int)=true)) &&
 (decide ((p26 (0:Int) (1:Int)=true)) &&
 (decide ((p26 (3:Int) (10:Int)=true)) &&
 (decide ((p26 (0:Int) (1:Int)=true)) &&
 (decide ((p26 (1:Int) (5:Int)=true)) &&
 (decide ((p26 (10:Int) (1:Int)=true)) &&
 (zFe cv0 zcN zcO zcP zcQ zdX zdY zdZ zd0 lv4 sv5 (⟨4,(zkk (⟨(s26 (1:Int) (10:Int)),(s26 (10:Int) (1:Int))⟩:Line) [(⟨(s26 (1:Int) (10:Int)),(s26 (10:Int) (1:Int))⟩:Line),(⟨(s26 (1:Int) (5:Int)),(s26 (0:Int) (1:Int))⟩:Line),(⟨(s26 (3:Int) (10:Int)),(s26 (0:Int) (1:Int))⟩:Line),(⟨(s26 (1:Int) (5:Int)),(s26 (10:Int) (1:Int))⟩:Line)])⟩:Sl Line))))))))))
theorem zM5 (hs:zFg cv0 zcN zcO zcP zcQ zdX zdY zdZ zd0 lv4 sv5=true) (hk:K (e5 (zFf cv0 zcN zcO zcP zcQ zdX zdY zdZ zd0 lv4 sv5))) (zP5:zM2=zg zak sv5):z5 K [1,1,1,1,1,1,1] [] ⟨[(1,zS zce 4 cv0),(3,zp 3 0),(4,zp 4 0),(6,zP (.sl sv5.len 1 zM2)),(9,zp 9 0),(10,zp 10 0),(12,zS zak 1 lv4)],[(3,.box 40 (zm (zam (⟨zcN,zcO⟩:Frac)))),(4,.box 40 (zm (zam (⟨zcP,zcQ⟩:Frac)))),(9,.box 40 (zm (zam (⟨zdX,zdY⟩:Frac)))),(10,.box 40 (zm (zam (⟨zdZ,zd0⟩:Frac))))],[]⟩:=by subst zP5;exact zaN (by kernel_rfl) (zaI hs λ hc hs=>And.intro hc (zaI hs λ hc hs=>And.intro hc (zaI hs λ hc hs=>And.intro hc (zaI hs λ hc hs=>And.intro hc (zaI hs λ hc hs=>And.intro hc (zaI hs λ hc hs=>And.intro hc (zaI hs λ hc hs=>And.intro hc (zaI hs λ hc hs=>And.intro hc (zM4 hs hk rfl (zfV (enc:=zce) (x:=(⟨(s26 (1:Int) (10:Int)),(s26 (10:Int) (1:Int))⟩:Line)) (y:=(⟨(s26 (1:Int) (5:Int)),(s26 (0:Int) (1:Int))⟩:Line)) (r:=[(⟨(s26 (3:Int) (10:Int)),(s26 (0:Int) (1:Int))⟩:Line),(⟨(s26 (1:Int) (5:Int)),(s26 (10:Int) (1:Int))⟩:Line)])))))))))))
def zFh (cv0:(Sl Line)) (ev0:Int) (fv1:Int) (zcN:Int) (zcO:Int) (zcP:Int) (zcQ:Int) (gv2:Int) (zv3:Int) (hv3:Int) (zdX:Int) (zdY:Int) (zdZ:Int) (zd0:Int) (sv4:(Sl Int)) (lv4:(Sl Int)) (kv4:Int) (iv4:Int):Bool :=
  (cond (ev0 != (0:Int))
 false
 (cond (fv1 != (0:Int))
 false
 (cond (gv2 != (0:Int))
 false
 (cond (hv3 != (0:Int))
 false
 (cond (iv4 != (0:Int))
 false
 (cond (kv4 != (600:Int))
 false
 (cond (zv3 != (167:Int))
 false
 (zFf cv0 zcN zcO zcP zcQ zdX zdY zdZ zd0 lv4 sv4))))))))
def zFi (cv0:(Sl Line)) (ev0:Int) (fv1:Int) (zcN:Int) (zcO:Int) (zcP:Int) (zcQ:Int) (gv2:Int) (zv3:Int) (hv3:Int) (zdX:Int) (zdY:Int) (zdZ:Int) (zd0:Int) (sv4:(Sl Int)) (lv4:(Sl Int)) (kv4:Int) (iv4:Int):Bool :=
  (cond (ev0 != (0:Int))
 true
 (cond (fv1 != (0:Int))
 true
 (cond (gv2 != (0:Int))
 true
 (cond (hv3 != (0:Int))
 true
 (cond (iv4 != (0:Int))
 true
 (cond (kv4 != (600:Int))
 true
 (cond (zv3 != (167:Int))
 true
 (zFg cv0 zcN zcO zcP zcQ zdX zdY zdZ zd0 lv4 sv4))))))))
theorem zM6 (hs:zFi cv0 ev0 fv1 zcN zcO zcP zcQ gv2 zv3 hv3 zdX zdY zdZ zd0 sv4 lv4 kv4 iv4=true) (hk:K (e5 (zFh cv0 ev0 fv1 zcN zcO zcP zcQ gv2 zv3 hv3 zdX zdY zdZ zd0 sv4 lv4 kv4 iv4))) (zP6:zM1=zg zak sv4) (zI6:zA9=zg zak lv4):z5 K [1,1,1,1,1,1] [] ⟨[(1,zS zce 4 cv0),(2,zI ev0),(3,zp 3 0),(4,zp 4 0),(5,zI fv1),(6,zP (.sl sv4.len 1 zM1)),(7,zI gv2),(8,zI zv3),(9,zp 9 0),(10,zp 10 0),(11,zI hv3),(12,zP (.sl lv4.len 1 zA9)),(13,zI kv4),(14,zI iv4)],[(3,.box 40 (zm (zam (⟨zcN,zcO⟩:Frac)))),(4,.box 40 (zm (zam (⟨zcP,zcQ⟩:Frac)))),(9,.box 40 (zm (zam (⟨zdX,zdY⟩:Frac)))),(10,.box 40 (zm (zam (⟨zdZ,zd0⟩:Frac))))],[]⟩:=by subst zP6;subst zI6;exact zaN (by kernel_rfl) (zc hs hk (λ hs hk=>hk) (λ hs hk=>(zc hs hk (λ hs hk=>hk) (λ hs hk=>(zc hs hk (λ hs hk=>hk) (λ hs hk=>(zc hs hk (λ hs hk=>hk) (λ hs hk=>(zc hs hk (λ hs hk=>hk) (λ hs hk=>(zc hs hk (λ hs hk=>hk) (λ hs hk=>(zc hs hk (λ hs hk=>hk) (λ hs hk=>(zM5 hs hk rfl)))))))))))))))
def zFj (cv0:(Sl Line)) (ev0:Int) (fv1:Int) (zcN:Int) (zcO:Int) (zcP:Int) (zcQ:Int) (gv2:Int) (sv3:(Sl Int)) (zv3:Int) (hv3:Int) (zdX:Int) (zdY:Int) (zdZ:Int) (zd0:Int):Bool :=
  (zFh cv0 ev0 fv1 zcN zcO zcP zcQ gv2 zv3 hv3 zdX zdY zdZ zd0 sv3 ((s25 (⟨3,zaf (zed [(enc_48 (⟨(0:Int),(0:Int),(2:Int)⟩:Gate)),(enc_48 (⟨(10:Int),(5:Int),(6:Int)⟩:Gate)),(enc_48 (⟨(20:Int),(0:Int),(2:Int)⟩:Gate))])⟩:(Sl Gate))).1) ((s25 (⟨3,zaf (zed [(enc_48 (⟨(0:Int),(0:Int),(2:Int)⟩:Gate)),(enc_48 (⟨(10:Int),(5:Int),(6:Int)⟩:Gate)),(enc_48 (⟨(20:Int),(0:Int),(2:Int)⟩:Gate))])⟩:(Sl Gate))).2.1) ((s25 (⟨3,zaf (zed [(enc_48 (⟨(0:Int),(0:Int),(2:Int)⟩:Gate)),(enc_48 (⟨(10:Int),(5:Int),(6:Int)⟩:Gate)),(enc_48 (⟨(20:Int),(0:Int),(2:Int)⟩:Gate))])⟩:(Sl Gate))).2.2))
def zFk (cv0:(Sl Line)) (ev0:Int) (fv1:Int) (zcN:Int) (zcO:Int) (zcP:Int) (zcQ:Int) (gv2:Int) (sv3:(Sl Int)) (zv3:Int) (hv3:Int) (zdX:Int) (zdY:Int) (zdZ:Int) (zd0:Int):Bool :=
  (decide ((p25 (⟨3,zaf (zed [(enc_48 (⟨(0:Int),(0:Int),(2:Int)⟩:Gate)),(enc_48 (⟨(10:Int),(5:Int),(6:Int)⟩:Gate)),(enc_48 (⟨(20:Int),(0:Int),(2:Int)⟩:Gate))])⟩:(Sl Gate))=true)) &&
 (zFi cv0 ev0 fv1 zcN zcO zcP zcQ gv2 zv3 hv3 zdX zdY zdZ zd0 sv3 ((s25 (⟨3,zaf (zed [(enc_48 (⟨(0:Int),(0:Int),(2:Int)⟩:Gate)),(enc_48 (⟨(10:Int),(5:Int),(6:Int)⟩:Gate)),(enc_48 (⟨(20:Int),(0:Int),(2:Int)⟩:Gate))])⟩:(Sl Gate))).1) ((s25 (⟨3,zaf (zed [(enc_48 (⟨(0:Int),(0:Int),(2:Int)⟩:Gate)),(enc_48 (⟨(10:Int),(5:Int),(6:Int)⟩:Gate)),(enc_48 (⟨(20:Int),(0:Int),(2:Int)⟩:Gate))])⟩:(Sl Gate))).2.1) ((s25 (⟨3,zaf (zed [(enc_48 (⟨(0:Int),(0:Int),(2:Int)⟩:Gate)),(enc_48 (⟨(10:Int),(5:Int),(6:Int)⟩:Gate)),(enc_48 (⟨(20:Int),(0:Int),(2:Int)⟩:Gate))])⟩:(Sl Gate))).2.2)))
theorem zM7 (hs:zFk cv0 ev0 fv1 zcN zcO zcP zcQ gv2 sv3 zv3 hv3 zdX zdY zdZ zd0=true) (hk:K (e5 (zFj cv0 ev0 fv1 zcN zcO zcP zcQ gv2 sv3 zv3 hv3 zdX zdY zdZ zd0))) (zP7:zM0=zg zak sv3):z5 K [1,1,1,1,1] [] ⟨[(1,zS zce 4 cv0),(2,zI ev0),(3,zp 3 0),(4,zp 4 0),(5,zI fv1),(6,zP (.sl sv3.len 1 zM0)),(7,zI gv2),(8,zI zv3),(9,zp 9 0),(10,zp 10 0),(11,zI hv3)],[(3,.box 40 (zm (zam (⟨zcN,zcO⟩:Frac)))),(4,.box 40 (zm (zam (⟨zcP,zcQ⟩:Frac)))),(9,.box 40 (zm (zam (⟨zdX,zdY⟩:Frac)))),(10,.box 40 (zm (zam (⟨zdZ,zd0⟩:Frac))))],[]⟩:=by subst zP7;exact zaN (by kernel_rfl) (zaI hs λ hc hs=>And.intro (And.intro ((zhm [(⟨(20:Int),(0:Int),(2:Int)⟩:Gate)]):IsE enc_48 3 3 (zed [(enc_48 (⟨(0:Int),(0:Int),(2:Int)⟩:Gate)),(enc_48 (⟨(10:Int),(5:Int),(6:Int)⟩:Gate)),(enc_48 (⟨(20:Int),(0:Int),(2:Int)⟩:Gate))])) hc) (zM6 hs hk rfl rfl))
def zFl (cv0:(Sl Line)) (ev0:Int) (fv1:Int) (zcN:Int) (zcO:Int) (zcP:Int) (zcQ:Int) (sv2:(Sl Int)) (gv2:Int):Bool :=
  (zFj cv0 ev0 fv1 zcN zcO zcP zcQ gv2 sv2 ((s24 s21 (⟨2,zaf (zed [(enc_48 (⟨(0:Int),(100:Int),(110:Int)⟩:Gate)),(enc_48 (⟨(200:Int),(40:Int),(50:Int)⟩:Gate))])⟩:(Sl Gate)) (0:Int) (300:Int)).1) ((s24 s21 (⟨2,zaf (zed [(enc_48 (⟨(0:Int),(100:Int),(110:Int)⟩:Gate)),(enc_48 (⟨(200:Int),(40:Int),(50:Int)⟩:Gate))])⟩:(Sl Gate)) (0:Int) (300:Int)).2.2.2) (((s24 s21 (⟨2,zaf (zed [(enc_48 (⟨(0:Int),(100:Int),(110:Int)⟩:Gate)),(enc_48 (⟨(200:Int),(40:Int),(50:Int)⟩:Gate))])⟩:(Sl Gate)) (0:Int) (300:Int)).2.1).Num) (((s24 s21 (⟨2,zaf (zed [(enc_48 (⟨(0:Int),(100:Int),(110:Int)⟩:Gate)),(enc_48 (⟨(200:Int),(40:Int),(50:Int)⟩:Gate))])⟩:(Sl Gate)) (0:Int) (300:Int)).2.1).Den) (((s24 s21 (⟨2,zaf (zed [(enc_48 (⟨(0:Int),(100:Int),(110:Int)⟩:Gate)),(enc_48 (⟨(200:Int),(40:Int),(50:Int)⟩:Gate))])⟩:(Sl Gate)) (0:Int) (300:Int)).2.2.1).Num) (((s24 s21 (⟨2,zaf (zed [(enc_48 (⟨(0:Int),(100:Int),(110:Int)⟩:Gate)),(enc_48 (⟨(200:Int),(40:Int),(50:Int)⟩:Gate))])⟩:(Sl Gate)) (0:Int) (300:Int)).2.2.1).Den))
def zFm (cv0:(Sl Line)) (ev0:Int) (fv1:Int) (zcN:Int) (zcO:Int) (zcP:Int) (zcQ:Int) (sv2:(Sl Int)) (gv2:Int):Bool :=
  (decide ((p24 s21 (⟨2,zaf (zed [(enc_48 (⟨(0:Int),(100:Int),(110:Int)⟩:Gate)),(enc_48 (⟨(200:Int),(40:Int),(50:Int)⟩:Gate))])⟩:(Sl Gate)) (0:Int) (300:Int)=true)) &&
 (zFk cv0 ev0 fv1 zcN zcO zcP zcQ gv2 sv2 ((s24 s21 (⟨2,zaf (zed [(enc_48 (⟨(0:Int),(100:Int),(110:Int)⟩:Gate)),(enc_48 (⟨(200:Int),(40:Int),(50:Int)⟩:Gate))])⟩:(Sl Gate)) (0:Int) (300:Int)).1) ((s24 s21 (⟨2,zaf (zed [(enc_48 (⟨(0:Int),(100:Int),(110:Int)⟩:Gate)),(enc_48 (⟨(200:Int),(40:Int),(50:Int)⟩:Gate))])⟩:(Sl Gate)) (0:Int) (300:Int)).2.2.2) (((s24 s21 (⟨2,zaf (zed [(enc_48 (⟨(0:Int),(100:Int),(110:Int)⟩:Gate)),(enc_48 (⟨(200:Int),(40:Int),(50:Int)⟩:Gate))])⟩:(Sl Gate)) (0:Int) (300:Int)).2.1).Num) (((s24 s21 (⟨2,zaf (zed [(enc_48 (⟨(0:Int),(100:Int),(110:Int)⟩:Gate)),(enc_48 (⟨(200:Int),(40:Int),(50:Int)⟩:Gate))])⟩:(Sl Gate)) (0:Int) (300:Int)).2.1).Den) (((s24 s21 (⟨2,zaf (zed [(enc_48 (⟨(0:Int),(100:Int),(110:Int)⟩:Gate)),(enc_48 (⟨(200:Int),(40:Int),(50:Int)⟩:Gate))])⟩:(Sl Gate)) (0:Int) (300:Int)).2.2.1).Num) (((s24 s21 (⟨2,zaf (zed [(enc_48 (⟨(0:Int),(100:Int),(110:Int)⟩:Gate)),(enc_48 (⟨(200:Int),(40:Int),(50:Int)⟩:Gate))])⟩:(Sl Gate)) (0:Int) (300:Int)).2.2.1).Den)))
theorem zM8 (hs:zFm cv0 ev0 fv1 zcN zcO zcP zcQ sv2 gv2=true) (hk:K (e5 (zFl cv0 ev0 fv1 zcN zcO zcP zcQ sv2 gv2))) (zP8:zMZ=zg zak sv2):z5 K [1,1,1,1] [] ⟨[(1,zS zce 4 cv0),(2,zI ev0),(3,zp 3 0),(4,zp 4 0),(5,zI fv1),(6,zP (.sl sv2.len 1 zMZ)),(7,zI gv2)],[(3,.box 40 (zm (zam (⟨zcN,zcO⟩:Frac)))),(4,.box 40 (zm (zam (⟨zcP,zcQ⟩:Frac))))],[]⟩:=by subst zP8;exact zaN (by kernel_rfl) (zaI hs λ hc hs=>And.intro (And.intro (zE enc_48 3 s21.get) (And.intro ((zhm []):IsE enc_48 3 3 (zed [(enc_48 (⟨(0:Int),(100:Int),(110:Int)⟩:Gate)),(enc_48 (⟨(200:Int),(40:Int),(50:Int)⟩:Gate))])) hc)) (zM7 hs hk rfl))
def zFn (cv0:(Sl Line)) (ev0:Int) (fv1:Int) (zcN:Int) (zcO:Int) (zcP:Int) (zcQ:Int):Bool :=
  (zFl cv0 ev0 fv1 zcN zcO zcP zcQ ((s18 s23).1) ((s18 s23).2))
def zFo (cv0:(Sl Line)) (ev0:Int) (fv1:Int) (zcN:Int) (zcO:Int) (zcP:Int) (zcQ:Int):Bool :=
  (decide ((p18 s23=true)) &&
 (zFm cv0 ev0 fv1 zcN zcO zcP zcQ ((s18 s23).1) ((s18 s23).2)))
theorem zM9 (hs:zFo cv0 ev0 fv1 zcN zcO zcP zcQ=true) (hk:K (e5 (zFn cv0 ev0 fv1 zcN zcO zcP zcQ))):z5 K [1,1,1] [] ⟨[(1,zS zce 4 cv0),(2,zI ev0),(3,zp 3 0),(4,zp 4 0),(5,zI fv1)],[(3,.box 40 (zm (zam (⟨zcN,zcO⟩:Frac)))),(4,.box 40 (zm (zam (⟨zcP,zcQ⟩:Frac))))],[]⟩:=zaN (by kernel_rfl) (zaI hs λ hc hs=>And.intro (And.intro (zE enc_48 3 s23.get) hc) (zM8 hs hk rfl))
def zFp (cv0:(Sl Line)) (ev0:Int):Bool :=
  (zFn cv0 ev0 ((s22 s21 (300:Int)).2.2) (((s22 s21 (300:Int)).1).Num) (((s22 s21 (300:Int)).1).Den) (((s22 s21 (300:Int)).2.1).Num) (((s22 s21 (300:Int)).2.1).Den))
def zFq (cv0:(Sl Line)) (ev0:Int):Bool :=
  (decide ((p22 s21 (300:Int)=true)) &&
 (zFo cv0 ev0 ((s22 s21 (300:Int)).2.2) (((s22 s21 (300:Int)).1).Num) (((s22 s21 (300:Int)).1).Den) (((s22 s21 (300:Int)).2.1).Num) (((s22 s21 (300:Int)).2.1).Den)))
theorem zNa (hs:zFq cv0 ev0=true) (hk:K (e5 (zFp cv0 ev0))) (zP9:zMY=zg zce cv0):z5 K [1,1] [] ⟨[(1,zP (.sl cv0.len 4 zMY)),(2,zI ev0)],[],[]⟩:=by subst zP9;exact zaN (by kernel_rfl) (zaI hs λ hc hs=>And.intro (And.intro (zE enc_48 3 s21.get) hc) (zM9 hs hk))
def s5:Bool :=
  (zFp ((s20 s21).1) ((s20 s21).2))
def p5:Bool :=
  (decide ((p20 s21=true)) &&
 (zFq ((s20 s21).1) ((s20 s21).2)))
end
theorem q5 (K:List PA->Prop) (hs:p5=true) (hk:K (e5 (s5))):vcFun Tryz.prog G5 zP3 5 [] K :=
  zaN (by kernel_rfl) (zaI hs λ hc hs=>And.intro (And.intro (zE enc_48 3 s21.get) hc) (zNa hs hk rfl))
theorem zQa:p5=true:=by kernel_rfl
theorem zQb:s5=true:=by kernel_rfl
def zQc : List PA → COut
  | []=>.tot [.one (.bool true)]
  | _=>.no
theorem call5:zah Tryz.prog 5:=⟨_,rfl,rfl,by kernel_rfl⟩
theorem ok5:Ok Tryz.prog 5 zQc:=za3 zR5 call5 λ args K h=>by
  unfold zQc at h
  split at h
  · refine ⟨fun _ _ => [], fun _ => false, zP3, q5 K zQa ?_⟩
    show K [.one (.bool s5)]
    rw[zQb];exact h
  · exact h.elim
abbrev T31:Tabs:=Tabs.nil
theorem zQd:TabsOk Tryz.prog T31:=TabsOk.nil
abbrev G31:Ctrs:=csm T31 (λ _ _=>[]) (λ _=>false)
def zNb:Ann:=⟨10,[(0,zK [0,1] []),(1,zK [4] [])],
 [],
 [],
 [],[]⟩
abbrev R31:=Bool
abbrev e31 (r:R31):List PA:=[.one (.bool r)]
section
variable {K:List PA->Prop}{a:(Sl Int)}{b:(Sl Int)}
def s31 (a:(Sl Int)) (b:(Sl Int)):Bool :=
  (decide ((a.len:Int) > (b.len:Int)))
end
theorem q31 (a:(Sl Int)) (b:(Sl Int)) (K:List PA->Prop) (hk:K (e31 (s31 a b))):vcFun Tryz.prog G31 zNb 31 [.one (.sl a.len 1 (λ i=>zak (a.get i))),.one (.sl b.len 1 (λ i=>zak (b.get i)))] K :=
  zaN (by kernel_rfl) hk
def zI7 : List PA → COut
  | [.one (.sl zaU zcu zaV),.one (.sl zet zj9 zeu)]=>.det (IsE zak 1 zcu zaV/\IsE zak 1 zj9 zeu) [.one (.bool (s31 (⟨zaU,zb7 zaV⟩:(Sl Int)) (⟨zet,zb7 zeu⟩:(Sl Int))))]
  | _=>.no
theorem zNc:zah Tryz.prog 31:=⟨_,rfl,rfl,by kernel_rfl⟩
theorem zR6:Ok Tryz.prog 31 zI7:=za3 zQd zNc λ args K h=>by
  unfold zI7 at h
  split at h
  · rename_i zaU zcu zaV zet zj9 zeu
    obtain⟨⟨⟨rfl,zbF,rfl⟩,⟨rfl,zhn,rfl⟩⟩,hk⟩:=h
    try rw[zby zbF] at hk
    try rw[zby zhn] at hk
    exact⟨(λ _ _=>[]),(λ _=>false),zNb,q31 (⟨zaU,zbF⟩:(Sl Int)) (⟨zet,zhn⟩:(Sl Int)) K hk⟩
  · exact h.elim
abbrev T29:Tabs:=(Tabs.nil.addF 31 zI7)
theorem zQe:TabsOk Tryz.prog T29:=(TabsOk.nil.addF zR6)
abbrev G29:Ctrs:=csm T29 (λ _ _=>[]) (λ _=>false)
def zI8:Ann:=⟨25,[(0,zK [0,1] []),(1,zK [0,1,5] []),(2,zK [1,5,12,13,14] []),(3,zK [1,5,12,13,14,15] []),(4,zK [1,5,7,12,13,14] []),(5,zK [1,5,7,12,13,14,21] []),(6,zK [1,5,12,13,14] []),(7,zK [1,5,12,13,14] []),(8,zK [4] [])],
 [(3,zK [1,5,12,13,14] [])],
 [(6,zK [1,5,7,12,13,14,21] [])],
 [],[]⟩
abbrev R29:=(Sl Int)
abbrev e29 (r:R29):List PA:=[.one (.sl r.len 1 (λ i=>zak (r.get i)))]
@[irreducible] def z29:=ptF Tryz.prog G29 zI8 Tryz.f29
def zFr (l_a0:(Sl (Sl Int))) (outv0:(Sl Int)) (zaT:(Sl (Sl Int))) (zan:Int) (zg2:Nat->List PV) (zb2:Nat->List PV):St:=⟨[(1,zP (.fn 31 [] [])),(5,zP (.sl outv0.len 1 zg2)),(12,zP (.sl zaT.len 1 zb2)),(13,zI (((l_a0.len:Int) - (1:Int)).toNat:Int)),(14,zI zan)],[],[]⟩
abbrev zI9 (K:List PA->Prop) (l_a0:(Sl (Sl Int))) (X:St->Prop) (P:(Sl Int)->(Sl (Sl Int))->Int->Bool) (S:(Sl Int)->(Sl (Sl Int))->Int->(Sl Int)):Prop:=∀ ⦃outv0:(Sl Int)⦄ ⦃zaT:(Sl (Sl Int))⦄ ⦃zan:Int⦄ ⦃zg2:Nat->List PV⦄ ⦃zb2:Nat->List PV⦄,P outv0 zaT zan=true->K (e29 (S outv0 zaT zan))->zg2=zg zak outv0->zb2=zg zaS zaT->X (zFr l_a0 outv0 zaT zan zg2 zb2)
section
variable {K:List PA->Prop}{l_a0:(Sl (Sl Int))}{outv0:(Sl Int)}{zaT:(Sl (Sl Int))}{zan:Int}{zg2:Nat->List PV}{zb2:Nat->List PV}{X0:St->Prop}{P0:(Sl Int)->(Sl (Sl Int))->Int->Bool}{S0:(Sl Int)->(Sl (Sl Int))->Int->(Sl Int)}{zqu:(Sl Int)}{xv1:(Sl Int)}{zdu:(Sl (Sl Int))}{zbg:Int}{zeS:Bool}{zBb:Nat->List PV}{zNd:Nat->List PV}{zgS:Nat->List PV}
def zsY (S0:(Sl Int)->(Sl (Sl Int))->Int->(Sl Int)) (l_a0:(Sl (Sl Int))) (zqu:(Sl Int)) (xv1:(Sl Int)) (zdu:(Sl (Sl Int))) (zbg:Int) (zeS:Bool):(Sl Int) :=
  (cond zeS
 (S0 xv1 zdu (w64 (zbg+(1:Int))))
 (S0 zqu zdu (w64 (zbg+(1:Int)))))
def zsZ (P0:(Sl Int)->(Sl (Sl Int))->Int->Bool) (l_a0:(Sl (Sl Int))) (zqu:(Sl Int)) (xv1:(Sl Int)) (zdu:(Sl (Sl Int))) (zbg:Int) (zeS:Bool):Bool :=
  (cond zeS
 (P0 xv1 zdu (w64 (zbg+(1:Int))))
 (P0 zqu zdu (w64 (zbg+(1:Int)))))
theorem zJa (hX0:zI9 K l_a0 X0 P0 S0) (hs:zsZ P0 l_a0 zqu xv1 zdu zbg zeS=true) (hk:K (e29 (zsY S0 l_a0 zqu xv1 zdu zbg zeS))) (zJb:zBb=zg zak zqu) (zQf:zNd=zg zak xv1) (zlZ:zgS=zg zaS zdu):z29 K [1,1,0,1,0,0,1,1,0,0,1,1] [X0] ⟨[(1,zP (.fn 31 [] [])),(5,zP (.sl zqu.len 1 zBb)),(7,zP (.sl xv1.len 1 zNd)),(12,zP (.sl zdu.len 1 zgS)),(13,zI (((l_a0.len:Int) - (1:Int)).toNat:Int)),(14,zI zbg),(21,zB zeS)],[],[]⟩:=by subst zJb;subst zQf;subst zlZ;exact zaN (by kernel_rfl) (zc hs hk (λ hs hk=>(hX0 hs hk rfl rfl)) (λ hs hk=>(hX0 hs hk rfl rfl)))
def zjD (l_a0:(Sl (Sl Int))) (S0:(Sl Int)->(Sl (Sl Int))->Int->(Sl Int)) (outv0:(Sl Int)) (zaT:(Sl (Sl Int))) (zan:Int):(Sl Int) :=
  (cond (decide (zan < (((l_a0.len : Int) - (1:Int)).toNat : Int)))
 (zsY S0 l_a0 outv0 (zaT.get zan.toNat) zaT zan (s31 (zaT.get zan.toNat) outv0))
 outv0)
def zjE (l_a0:(Sl (Sl Int))) (P0:(Sl Int)->(Sl (Sl Int))->Int->Bool) (outv0:(Sl Int)) (zaT:(Sl (Sl Int))) (zan:Int):Bool :=
  (cond (decide (zan < (((l_a0.len : Int) - (1:Int)).toNat : Int)))
 (decide ((0<=zan/\zan < (zaT.len:Int))) &&
 (zsZ P0 l_a0 outv0 (zaT.get zan.toNat) zaT zan (s31 (zaT.get zan.toNat) outv0)))
 true)
def zg3 (l_a0:(Sl (Sl Int))):Nat->(Sl Int)->(Sl (Sl Int))->Int->(Sl Int):=lpO (λ _ _ _=>default) (zjD l_a0)
def zg4 (l_a0:(Sl (Sl Int))):Nat->(Sl Int)->(Sl (Sl Int))->Int->Bool:=lpO (λ _ _ _=>false) (zjE l_a0)
def zBc (l_a0:(Sl (Sl Int))) (outv0:(Sl Int)) (zaT:(Sl (Sl Int))) (zan:Int):(Sl Int):=zg3 l_a0 Fuel outv0 zaT zan
def zBd (l_a0:(Sl (Sl Int))) (outv0:(Sl Int)) (zaT:(Sl (Sl Int))) (zan:Int):Bool:=zg4 l_a0 Fuel outv0 zaT zan
theorem zJc (hs:zBd l_a0 outv0 zaT zan=true) (hk:K (e29 (zBc l_a0 outv0 zaT zan))) (zs3:zg2=zg zak outv0) (zeT:zb2=zg zaS zaT):z29 K [1,1,0,1,0] [] (zFr l_a0 outv0 zaT zan zg2 zb2) :=
  zl (λ X=>z29 K [1,1,0,1,0,0] [X]) (by kernel_rfl) λ X0 hX =>
  (show ∀ k, zI9 K l_a0 X0 (zg4 l_a0 k) (zg3 l_a0 k) from zgw _ _ (zjE l_a0) (zjD l_a0) (zI9 K l_a0 X0)
 (by intro _ _ _ _ _ hs;exact absurd hs dqk)
 (by intro P0 S0 hX0 outv0 zaT zan zg2 zb2 hs hk zs3 zeT;subst zs3;subst zeT;exact hX _ (zaN (by kernel_rfl) (zc hs hk (λ hs hk=>(zaI hs λ hc hs=>And.intro hc (And.intro (And.intro (zE zak 1 ((zaT.get zan.toNat).get)) (zE zak 1 outv0.get)) (zJa hX0 hs hk rfl rfl rfl)))) (λ hs hk=>hk))))) _ hs hk zs3 zeT
def s29 (l_a0:(Sl (Sl Int))):(Sl Int) :=
  (zBc l_a0 (l_a0.get 0) (⟨((l_a0.len:Int) - (1:Int)).toNat,(λ i=>l_a0.get (i+((1:Int).toNat)))⟩:Sl (Sl Int)) (0:Int))
def p29 (l_a0:(Sl (Sl Int))):Bool :=
  (decide ((0<=(0:Int)/\(0:Int) < (l_a0.len:Int))) &&
 (decide ((0<=(1:Int)/\(1:Int)<=(l_a0.len:Int)/\(l_a0.len:Int)<=(l_a0.len:Int))) &&
 (zBd l_a0 (l_a0.get 0) (⟨((l_a0.len:Int) - (1:Int)).toNat,(λ i=>l_a0.get (i+((1:Int).toNat)))⟩:Sl (Sl Int)) (0:Int))))
end
theorem q29 (l_a0:(Sl (Sl Int))) (K:List PA->Prop) (hs:p29 l_a0=true) (hk:K (e29 (s29 l_a0))):vcFun Tryz.prog G29 zI8 29 [.one (.sl l_a0.len 1 (λ i=>zaS (l_a0.get i))),.one (.fn 31 [] [])] K :=
  zaN (by kernel_rfl) (zaI hs λ hc hs=>And.intro hc (zaI hs λ hc hs=>And.intro hc (zJc hs hk rfl rfl)))
def zJd : List PA → COut
  | [.one (.sl zaU zcu zaV),.one (.fn 31 [] [])]=>.det (IsE zaS 1 zcu zaV/\p29 (⟨zaU,zoy zaV⟩:(Sl (Sl Int)))=true) [.one (.sl ((s29 (⟨zaU,zoy zaV⟩:(Sl (Sl Int)))).len) 1 (λ i=>zak ((s29 (⟨zaU,zoy zaV⟩:(Sl (Sl Int)))).get i)))]
  | _=>.no
theorem zNe:zah Tryz.prog 29:=⟨_,rfl,rfl,by kernel_rfl⟩
theorem zR7:Ok Tryz.prog 29 zJd:=za3 zQe zNe λ args K h=>by
  unfold zJd at h
  split at h
  · rename_i zaU zcu zaV
    obtain⟨⟨⟨rfl,zbF,rfl⟩,hs⟩,hk⟩:=h
    try rw[zlN zbF] at hs
    try rw[zlN zbF] at hk
    exact⟨(λ _ _=>[]),(λ _=>false),zI8,q29 (⟨zaU,zbF⟩:(Sl (Sl Int))) K hs hk⟩
  · exact h.elim
end Go.Proofs
namespace Go.Pm
open Go.Shelf Go.RowKit Go.Lib Go.Sort Go.Proofs
variable [DrawZ]

theorem ziO {α : Type} [Inhabited α] {enc : α → Value} {w : World} {g q : Nat} {cur : Array Value} {e : TypeId} {fr : Nat × Nat} {off : Nat} (F : Array α) (hb : w.heap[g]? = some (.cells cur e fr)) :
  ∃ cur',(putRow enc (Sort.ahead w q) g off F).heap[g]? = some (.cells cur' e fr)/\cur'.size=cur.size:=by
 refine⟨putCells enc off F cur,?_,by simp[putCells]⟩
 simp[putRow,mapBlock,Sort.ahead,Array.getElem?_modify,hb,onCells]
theorem zfc {α:Type} [Inhabited α] {enc:α->Value}{w:World}{g q off:Nat}(F:Array α){k:Nat}(hk:k ≠ g):(putRow enc (Sort.ahead w q) g off F).heap[k]? = w.heap[k]?:=by
 simp[putRow,mapBlock,Sort.ahead,Array.getElem?_modify,Ne.symm hk]
theorem zdE {α:Type} [Inhabited α] {enc:α->Value}{w:World}{g q off:Nat}(F:Array α):(putRow enc (Sort.ahead w q) g off F).heap.size=w.heap.size:=by
 simp[putRow,mapBlock,Sort.ahead]

theorem zwr {P:Program}{ρ:Ren}(L:SlLaysF.n6 P ρ){e b:Nat}(hag:zfe P e=some false) (hM : ¬ zm3) (hc:zah P (ρ.f 6)):zgF P (ρ.f 6) (.sort e 1 b):=by
 intro w h base v n get gf caps cv ag C hC hcv hag' _ hpos ⟨xs,hown,hr⟩ hone hw hgl hob hbase hn hS hO
 rw[hag] at hag';simp only[dqa] at hag';subst hag'
 refine⟨hc,?_⟩
 have hni:∀ k F,h k ≠ some (.inv F):=λ k F hk=>by obtain⟨o,_,ho⟩:=hw k _ hk;exact hM ho.2
 have none:∀ (p:Option Addr) (cap:Nat),n=0->v=.slice p 0 cap->Calls P (ρ.f 6) #[v,.func (.func gf) #[] cv.toArray] w λ r w'=>r=.returned (.tuple #[])/\zt0 h w' base e 1 v n (zgp n (zpo C caps false get) get)/\GrB w w' v.ownBlock:=by
  rintro p cap rfl rfl
  refine (AnyF.slices_SortFunc_none { L with } p cap _ w).mono ?_
  rintro r w' ⟨rfl,rfl⟩
  exact⟨rfl,⟨xs,hown,λ i hi=>absurd hi (dqW i)⟩,⟨rfl,rfl,rfl,dqt _,λ _ _ _=>rfl⟩,dqt _⟩
 rcases hown.2 with ⟨h1,h2⟩ | ⟨blk,cap,cur,rfl,hb,hcell,hncap,hcap,hcs,htk⟩
 ·exact none _ _ h2 h1
 by_cases hn0:n=0
 ·subst hn0;exact none _ _ rfl rfl
 have:Inhabited (Fin n):=⟨⟨0,by omega⟩⟩
 have hxs:xs.length=n:=by have:=hown.1;rwa[Nat.mul_one] at this
 let enc:Fin n->Value:=λ i=>xs[i.val]'(by rw[hxs];exact i.isLt)
 let c:=zpo C caps false get
 let cf:Fin n->Fin n->Int:=λ x y=>c x.val y.val
 let d:Array (Fin n):=Array.ofFn id
 have hds:d.size=n:=Array.size_ofFn
 have hdi:∀ i (hi:i < n),d[i]! = ⟨i,hi⟩:=λ i hi=>by
  rw[getElem!_pos d i (by rw[hds];exact hi)];simp[d]
 have hlt:blk < w.heap.size:=(dqp.1 hcell).1
 have hbn:h blk=Option.none:=hob blk rfl
 rw[Nat.mul_one] at htk hcs
 have hcur:∀ j,j < n->cur[j]? = xs[j]?:=λ j hj=>by
  have:(cur.toList.take n)[j]? = xs[j]?:=by rw[htk]
  rw[dqs,if_pos hj] at this;simpa using this
 have hrr:∀ x:Fin n,RL (Rep h) (get x.val) [enc x]:=λ x=>by
  have:=hr x.val x.isLt
  rw[Nat.mul_one,dqR (by rw[hxs];exact x.isLt)] at this
  exact this
 have h1:OneCell enc:=λ x=>by
  obtain⟨p,_,hp⟩:=(hrr x).get' 0 _ rfl
  exact hp.one
 have hH:Holds enc w blk 0 d:=λ j hj=>by
  have hj:j < n:=by rw[hds] at hj;exact hj
  refine⟨?_,frozen_of_row w blk _ cur e hcell⟩
  rw[hdi j hj,cell_of hcell,Nat.zero_add,hcur j hj]
  exact dqD _
 have elv:∀ x:Fin n,paR h (elP false (get x.val)) (enc x):=λ x=>by
  have:=hrr x
  generalize get x.val=l at this
  match l,this with
  | [y],h1=>exact h1.1
  | [],h1=>exact h1.elim
  | _ :: _ :: _,h1=>exact h1.2.elim
 have eg:∀ args w,(callFunc gf args).run P w=.ok (.enter gf args) w:=by
  have hcg:zah P gf:=by
   have hs0:=hS 0 0 (by omega) (by omega)
   unfold zwJ at hs0
   split at hs0
   ·rename_i s0 c0 hat
    have hwp:(C (elP false (get 0) :: elP false (get 0) :: caps.map .one)).wp (λ _=>True):=by
     unfold zvO at hat
     split at hat
     ·rename_i e1;rw[e1];trivial
     ·rename_i e1;simp only[dqa,dqh] at hat;rw[e1];exact⟨by rw[hat.1];exact hs0,trivial⟩
     ·cases hat
    exact (hC _ _ hwp w h (enc ⟨0,by omega⟩ :: enc ⟨0,by omega⟩ :: cv) ⟨elv ⟨0,by omega⟩,elv ⟨0,by omega⟩,RL.map_left.2 hcv⟩ hw hgl).1
   ·exact hs0.elim
  exact λ args w=>zbG hcg
 have hcmp:CmpLays1 P gf cv.toArray enc cf blk 0 d.size w:=by
  intro m os dk hdk x y
  have hs0:=hS x.val y.val x.isLt y.isLt
  unfold zwJ at hs0
  split at hs0
  ·rename_i s0 c0 hat
   have hwp:(C (elP false (get x.val) :: elP false (get y.val) :: caps.map .one)).wp (λ rs=>rs=[.one (.int .i64 (cf x y))]):=by
    have hcv:cf x y=c0:=by show zpo C caps false get x.val y.val=c0;unfold zpo;rw[hat]
    rw[hcv]
    unfold zvO at hat
    split at hat
    ·rename_i e1;simp only[dqa,dqh] at hat;rw[e1,hat.2];rfl
    ·rename_i e1;simp only[dqa,dqh] at hat;rw[e1,hat.2];exact⟨by rw[hat.1];exact hs0,rfl⟩
    ·cases hat
   have hwh:Hw h (sortWorld enc w blk 0 m dk os):=hw.same λ k o hk=>by
    have hkb:k ≠ blk:=λ e=>by rw[e,hbn] at hk;cases hk
    have hkl:=hw.lt hk
    show ((putRow enc (Sort.ahead w m) blk 0 dk).heap ++ os)[k]? = _
    rw[Array.getElem?_append_left (by rw[zdE];exact hkl)]
    exact zfc _ hkb
   obtain⟨_,hrun⟩:=hC _ _ hwp (sortWorld enc w blk 0 m dk os) h (enc x :: enc y :: cv) ⟨elv x,elv y,RL.map_left.2 hcv⟩ hwh hgl
   rw[show (#[enc x,enc y] ++ cv.toArray)=(enc x :: enc y :: cv).toArray by simp]
   refine hrun.mono ?_
   rintro e' w' ⟨h',rs,v',hrs,rfl,hres,hbel,_,_,_⟩
   subst hrs
   have hv':v'=.int .i64 (cf x y):=by
    have:Rep h' (.int .i64 (cf x y)) v':=hres
    cases this;rfl
   subst hv'
   exact⟨rfl,zuL hbel hni⟩
  ·exact hs0.elim
 have hSWO:SWO (ltOf cf):=by
  refine⟨λ x=>?_,λ x y z hxy hyz=>?_,λ x y z hxy hyz=>?_⟩
  ·have : 0 ≤ c x.val x.val := hO.1 x.val x.isLt
   simp only[ltOf,decide_eq_false_iff_not];show ¬ c x.val x.val < 0;omega
  ·simp only [ltOf, decide_eq_true_eq] at hxy hyz ⊢
   exact hO.2.2 _ _ _ x.isLt y.isLt z.isLt hxy hyz
  ·simp only [ltOf, decide_eq_false_iff_not] at hxy hyz ⊢
   intro hxz
   have hxy : ¬ c x.val y.val < 0:=hxy
   have hyz : ¬ c y.val z.val < 0:=hyz
   have hxz:c x.val z.val < 0:=hxz
   by_cases e1:y.val=z.val
   ·rw[e1] at hxy;exact hxy hxz
   ·by_cases e2 : x.val = y.val
    ·rw[e2] at hxz;exact hyz hxz
    ·have a1 : c z.val y.val < 0 := by rcases hO.2.1 y.val z.val y.isLt z.isLt e1 with h | h; exact absurd h.1 hyz; exact h.1
     exact hxy (hO.2.2 _ _ _ x.isLt z.isLt y.isLt hxz a1)
 have hrun:=Any.slices_SortFunc L enc h1 cf hSWO gf cv.toArray blk 0 cap d w eg hcmp hH hlt (by rw[hds];omega)
 rw[hds] at hrun
 refine hrun.mono ?_
 rintro r w' ⟨rfl,d',m,os,hperm,hsort,rfl⟩
 obtain⟨hps,_,hpp⟩:=hperm
 have hd's:d'.size=n:=by rw[hps,hds]
 have hall:∀ (z:Array (Fin n)),z.size=n->z.extract 0 n=z:=λ z hz=>Array.ext (by simp[hz]) (λ i h1 h2=>by simp)
 rw[hall d' hd's,hall d hds] at hpp
 have hl:d'.toList.map Fin.val=zfg n c:=by
  refine zny hO ?_ ?_
  ·refine (hpp.map Fin.val).trans ?_
   have:d.toList.map Fin.val=List.range n:=by
    apply List.ext_getElem?
    intro i
    simp only[d,dqH]
    by_cases hi:i < n
    ·simp[hi]
    ·rw[dqM (by simp;omega),dqM (by simp;omega)];rfl
   rw[this]
  ·rw [List.pairwise_map, List.pairwise_iff_getElem]
   intro i j hi hj hij
   have hi':i < n:=by simpa [hd's] using hi
   have hj':j < n:=by simpa [hd's] using hj
   have:=hsort i j (Nat.zero_le _) hij hj'
   rw[getElem!_pos d' j (by omega),getElem!_pos d' i (by omega)] at this
   simp only[ltOf,decide_eq_false_iff_not] at this
   exact this
 have hget:∀ i (hi:i < n),zgp n c get i=get (d'[i]'(by omega)).val:=λ i hi=>by
  unfold zgp
  rw[<- hl]
  congr 1
  rw[List.getD_eq_getElem?_getD,dqH]
  simp[hd's,hi]
 obtain⟨cur',hcell',hsz'⟩:=ziO (enc:=enc) (q:=m) (off:=0) d' hcell
 have hgrow:(sortWorld enc w blk 0 m d' os).heap[blk]? = some (.cells cur' e (0,0)):=by
  show ((putRow enc (Sort.ahead w m) blk 0 d').heap ++ os)[blk]? = _
  rw[Array.getElem?_append_left (by rw[zdE];exact hlt)]
  exact hcell'
 have hH':Holds enc (sortWorld enc w blk 0 m d' os) blk 0 d':=holds_sortWorld enc w blk 0 m d d' os hlt hH (by rw[hd's,hds])
 have hcur':∀ j (hj:j < n),cur'[j]? = some (enc (d'[j]'(by omega))):=λ j hj=>by
  have:=(hH' j (by rw[hd's];exact hj)).1
  rw[cell_of hgrow,Nat.zero_add,getElem!_pos d' j (by omega)] at this
  exact this
 refine⟨rfl,⟨cur'.toList.take (n * 1),⟨by rw[List.length_take,Array.length_toList,hsz',hcs,Nat.mul_one];exact Nat.min_eq_left hncap,.inr ⟨blk,cap,cur',rfl,hb,hgrow,hncap,hcap,by rw[hsz',hcs,Nat.mul_one],rfl⟩⟩,λ i hi=>?_⟩,?_⟩
 ·have e1:((cur'.toList.take (n * 1)).drop (i * 1)).take 1=[enc (d'[i]'(by omega))]:=by
   apply List.ext_getElem?
   intro j
   rw[dqs,Nat.mul_one,Nat.mul_one]
   cases j with
   | zero =>
    rw[if_pos (by omega),dqI,dqs,if_pos (by omega),Array.getElem?_toList,Nat.add_zero,hcur' i hi]
    rfl
   | succ j=>rw[if_neg (by omega)];rfl
  rw[e1,hget i hi]
  exact hrr (d'[i]'(by omega))
 ·refine ⟨⟨rfl, rfl, rfl, ?_, fun k hk hne => ?_⟩, zj1 (Nat.le_add_right _ _)⟩
  ·show w.heap.size ≤ ((putRow enc (Sort.ahead w m) blk 0 d').heap ++ os).size
   rw[Array.size_append,zdE];omega
  ·show ((putRow enc (Sort.ahead w m) blk 0 d').heap ++ os)[k]? = _
   rw[Array.getElem?_append_left (by rw[zdE];exact hk)]
   exact zfc _ λ e=>hne (by rw[e];rfl)
end Go.Pm
namespace Go.Proofs
open Go Go.Pm
set_option maxRecDepth 100000
set_option linter.unusedVariables false
attribute [local irreducible] Go.Pm.vcFun Go.Pm.vc Go.Pm.vcIter
abbrev zNf:OwnK:=.sort 24 1 24
theorem zR8:zgF Tryz.prog 58 zNf:=zwr Tryz.laysS58 rfl (λ h=>h) ⟨_,rfl,rfl,by kernel_rfl⟩
section
variable [DrawZ]
abbrev T59:Tabs:=(Tabs.nil.addF 76 zDQ)
theorem zQg:TabsOk Tryz.prog T59:=(TabsOk.nil.addF zQY)
abbrev G59:Ctrs:=csm T59 (λ _ _=>[]) (λ _=>false)
def zJe:Ann:=⟨36,[(0,zK [0,1] []),(1,zK [0,1,9,10,11] []),(2,zK [0,1,9,10,11,12] []),(3,zK [0,1,5,6,9,10,11] []),(4,zK [0,1,5,6,9,10,11,19] []),(5,zK [4] []),(6,zK [0,1,6,7,9,10,11] []),(7,zK [0,1,8,9,10,11] []),(8,zK [0,1,8,9,10,11,28] []),(9,zK [4] []),(10,zK [0,1,9,10,11] []),(11,zK [35] []),(12,zK [4] []),(13,zK [4] [])],
 [(2,zK [0,1,9,10,11] [])],
 [(6,zK [0,1,5,6,9,10,11] []),(8,zK [0,1,8,9,10,11] [])],
 [],[]⟩
abbrev R59:=Int
abbrev e59 (r:R59):List PA:=[.one (.int .i64 r)]
@[irreducible] def z59:=ptF Tryz.prog G59 zJe Tryz.f59
def zFs (zmZ:(Sl Int)) (zmq:(Sl Int)) (zmr:(Sl Int)) (zcr:Int) (zd1:Int) (zkc:Nat->List PV) (zkd:Nat->List PV) (zke:Nat->List PV):St:=⟨[(0,zP (.sl zmZ.len 1 zkc)),(1,zP (.sl zmq.len 1 zkd)),(9,zP (.sl zmr.len 1 zke)),(10,zI zcr),(11,zI zd1)],[],[]⟩
abbrev zD1 (K:List PA->Prop) (X:St->Prop) (P:(Sl Int)->(Sl Int)->(Sl Int)->Int->Int->Bool) (S:(Sl Int)->(Sl Int)->(Sl Int)->Int->Int->Int):Prop:=∀ ⦃zmZ:(Sl Int)⦄ ⦃zmq:(Sl Int)⦄ ⦃zmr:(Sl Int)⦄ ⦃zcr:Int⦄ ⦃zd1:Int⦄ ⦃zkc:Nat->List PV⦄ ⦃zkd:Nat->List PV⦄ ⦃zke:Nat->List PV⦄,P zmZ zmq zmr zcr zd1=true->K (e59 (S zmZ zmq zmr zcr zd1))->zkc=zg zak zmZ->zkd=zg zak zmq->zke=zg zak zmr->X (zFs zmZ zmq zmr zcr zd1 zkc zkd zke)
section
variable {K:List PA->Prop}{s1_a0:(Sl Int)}{s2_a1:(Sl Int)}{zmZ:(Sl Int)}{zmq:(Sl Int)}{zmr:(Sl Int)}{zcr:Int}{zd1:Int}{zkc:Nat->List PV}{zkd:Nat->List PV}{zke:Nat->List PV}{X0:St->Prop}{P0:(Sl Int)->(Sl Int)->(Sl Int)->Int->Int->Bool}{S0:(Sl Int)->(Sl Int)->(Sl Int)->Int->Int->Int}{zFt:(Sl Int)}{zBe:(Sl Int)}{iv1:Int}{zJf:Int}{zs4:(Sl Int)}{ziP:Int}{zs5:Int}{zFu:Nat->List PV}{zFv:Nat->List PV}{zFw:Nat->List PV}{zFx:(Sl Int)}{zFy:(Sl Int)}{cv2:Int}{zs6:Int}{zFz:Nat->List PV}{zFA:Nat->List PV}
def zs7 (S0:(Sl Int)->(Sl Int)->(Sl Int)->Int->Int->Int) (zs4:(Sl Int)) (ziP:Int) (zFx:(Sl Int)) (zFy:(Sl Int)) (cv2:Int) (zs6:Int):Int :=
  (cond (cv2 != (0:Int))
 cv2
 (S0 zFx zFy zs4 ziP (w64 (zs6+(1:Int)))))
def zs8 (P0:(Sl Int)->(Sl Int)->(Sl Int)->Int->Int->Bool) (zs4:(Sl Int)) (ziP:Int) (zFx:(Sl Int)) (zFy:(Sl Int)) (cv2:Int) (zs6:Int):Bool :=
  (cond (cv2 != (0:Int))
 true
 (P0 zFx zFy zs4 ziP (w64 (zs6+(1:Int)))))
theorem zJg (hX0:zD1 K X0 P0 S0) (hs:zs8 P0 zs4 ziP zFx zFy cv2 zs6=true) (hk:K (e59 (zs7 S0 zs4 ziP zFx zFy cv2 zs6))) (zNg:zFz=zg zak zFx) (zNh:zFA=zg zak zFy):z59 K [1,0,1,0,0,1,1,0,0,1,1,1,1] [X0] ⟨[(0,zP (.sl zFx.len 1 zFz)),(1,zP (.sl zFy.len 1 zFA)),(8,zI cv2),(9,zS zak 1 zs4),(10,zI ziP),(11,zI zs6)],[],[]⟩:=by subst zNg;subst zNh;exact zaN (by kernel_rfl) (zc hs hk (λ hs hk=>hk) (λ hs hk=>(hX0 hs hk rfl rfl rfl)))
def zs9 (S0:(Sl Int)->(Sl Int)->(Sl Int)->Int->Int->Int) (zFt:(Sl Int)) (zBe:(Sl Int)) (iv1:Int) (zJf:Int) (zs4:(Sl Int)) (ziP:Int) (zs5:Int):Int :=
  (zs7 S0 zs4 ziP zFt zBe (s76 zJf (zBe.get iv1.toNat)) zs5)
def zta (P0:(Sl Int)->(Sl Int)->(Sl Int)->Int->Int->Bool) (zFt:(Sl Int)) (zBe:(Sl Int)) (iv1:Int) (zJf:Int) (zs4:(Sl Int)) (ziP:Int) (zs5:Int):Bool :=
  (decide ((0<=iv1/\iv1 < (zBe.len:Int))) &&
 (zs8 P0 zs4 ziP zFt zBe (s76 zJf (zBe.get iv1.toNat)) zs5))
theorem zJh (hX0:zD1 K X0 P0 S0) (hs:zta P0 zFt zBe iv1 zJf zs4 ziP zs5=true) (hk:K (e59 (zs9 S0 zFt zBe iv1 zJf zs4 ziP zs5))) (zNi:zFu=zg zak zFt) (zNj:zFv=zg zak zBe) (zNk:zFw=zg zak zs4):z59 K [1,0,1,0,0,1,1,0,0,1,1] [X0] ⟨[(0,zP (.sl zFt.len 1 zFu)),(1,zP (.sl zBe.len 1 zFv)),(5,zI iv1),(6,zI zJf),(9,zP (.sl zs4.len 1 zFw)),(10,zI ziP),(11,zI zs5)],[],[]⟩:=by subst zNi;subst zNj;subst zNk;exact zaN (by kernel_rfl) (zaI hs λ hc hs=>And.intro hc (zJg hX0 hs hk rfl rfl))
def zh5 (S0:(Sl Int)->(Sl Int)->(Sl Int)->Int->Int->Int) (zmZ:(Sl Int)) (zmq:(Sl Int)) (zmr:(Sl Int)) (zcr:Int) (zd1:Int):Int :=
  (cond (decide (zd1 < zcr))
 (cond (decide (zd1 >= (zmq.len : Int)))
 (1:Int)
 (zs9 S0 zmZ zmq zd1 (zmr.get zd1.toNat) zmr zcr zd1))
 (cond (decide ((zmZ.len : Int) < (zmq.len : Int)))
 (-1:Int)
 (0:Int)))
def zh6 (P0:(Sl Int)->(Sl Int)->(Sl Int)->Int->Int->Bool) (zmZ:(Sl Int)) (zmq:(Sl Int)) (zmr:(Sl Int)) (zcr:Int) (zd1:Int):Bool :=
  (cond (decide (zd1 < zcr))
 (decide ((0<=zd1/\zd1 < (zmr.len:Int))) &&
 (cond (decide (zd1 >= (zmq.len : Int)))
 true
 (zta P0 zmZ zmq zd1 (zmr.get zd1.toNat) zmr zcr zd1)))
 true)
def zg5:Nat->(Sl Int)->(Sl Int)->(Sl Int)->Int->Int->Int:=lpO (λ _ _ _ _ _=>default) (zh5)
def zg6:Nat->(Sl Int)->(Sl Int)->(Sl Int)->Int->Int->Bool:=lpO (λ _ _ _ _ _=>false) (zh6)
def zBf (zmZ:(Sl Int)) (zmq:(Sl Int)) (zmr:(Sl Int)) (zcr:Int) (zd1:Int):Int:=zg5 Fuel zmZ zmq zmr zcr zd1
def zBg (zmZ:(Sl Int)) (zmq:(Sl Int)) (zmr:(Sl Int)) (zcr:Int) (zd1:Int):Bool:=zg6 Fuel zmZ zmq zmr zcr zd1
theorem zJi (hs:zBg zmZ zmq zmr zcr zd1=true) (hk:K (e59 (zBf zmZ zmq zmr zcr zd1))) (zBh:zkc=zg zak zmZ) (zBi:zkd=zg zak zmq) (zBj:zke=zg zak zmr):z59 K [1,0,1,0] [] (zFs zmZ zmq zmr zcr zd1 zkc zkd zke) :=
  zl (λ X=>z59 K [1,0,1,0,0] [X]) (by kernel_rfl) λ X0 hX =>
  (show ∀ k, zD1 K X0 (zg6 k) (zg5 k) from zgw _ _ (zh6) (zh5) (zD1 K X0)
 (by intro _ _ _ _ _ _ _ _ hs;exact absurd hs dqk)
 (by intro P0 S0 hX0 zmZ zmq zmr zcr zd1 zkc zkd zke hs hk zBh zBi zBj;subst zBh;subst zBi;subst zBj;exact hX _ (zaN (by kernel_rfl) (zc hs hk (λ hs hk=>(zaI hs λ hc hs=>And.intro hc (zc hs hk (λ hs hk=>hk) (λ hs hk=>(zJh hX0 hs hk rfl rfl rfl))))) (λ hs hk=>(zt hk (λ hk=>hk) (λ hk=>hk))))))) _ hs hk zBh zBi zBj
def s59 (s1_a0:(Sl Int)) (s2_a1:(Sl Int)):Int :=
  (zBf s1_a0 s2_a1 s1_a0 (s1_a0.len:Int) (0:Int))
def p59 (s1_a0:(Sl Int)) (s2_a1:(Sl Int)):Bool :=
  (zBg s1_a0 s2_a1 s1_a0 (s1_a0.len:Int) (0:Int))
end
theorem q59 (s1_a0:(Sl Int)) (s2_a1:(Sl Int)) (K:List PA->Prop) (hs:p59 s1_a0 s2_a1=true) (hk:K (e59 (s59 s1_a0 s2_a1))):vcFun Tryz.prog G59 zJe 59 [.one (.sl s1_a0.len 1 (λ i=>zak (s1_a0.get i))),.one (.sl s2_a1.len 1 (λ i=>zak (s2_a1.get i)))] K :=
  zaN (by kernel_rfl) (zJi hs hk rfl rfl rfl)
def zqv : List PA → COut
  | [.one (.sl zaU zcu zaV),.one (.sl zet zj9 zeu)]=>.det (IsE zak 1 zcu zaV/\IsE zak 1 zj9 zeu/\p59 (⟨zaU,zb7 zaV⟩:(Sl Int)) (⟨zet,zb7 zeu⟩:(Sl Int))=true) [.one (.int .i64 (s59 (⟨zaU,zb7 zaV⟩:(Sl Int)) (⟨zet,zb7 zeu⟩:(Sl Int))))]
  | _=>.no
theorem zNl:zah Tryz.prog 59:=⟨_,rfl,rfl,by kernel_rfl⟩
theorem zR9:Ok Tryz.prog 59 zqv:=za3 zQg zNl λ args K h=>by
  unfold zqv at h
  split at h
  · rename_i zaU zcu zaV zet zj9 zeu
    obtain⟨⟨⟨rfl,zbF,rfl⟩,⟨rfl,zhn,rfl⟩,hs⟩,hk⟩:=h
    try rw[zby zbF] at hs
    try rw[zby zbF] at hk
    try rw[zby zhn] at hs
    try rw[zby zhn] at hk
    exact⟨(λ _ _=>[]),(λ _=>false),zJe,q59 (⟨zaU,zbF⟩:(Sl Int)) (⟨zet,zhn⟩:(Sl Int)) K hs hk⟩
  · exact h.elim
end

section srt
variable {α:Type}{c0:α->α->Int}{p0:α->α->Bool}
def IsL (m:Nat) (g:Nat->α) (L:List α):Prop:=m=L.length/\∀ k (h:k < L.length),g k=L[k]
def SyL (c0:α->α->Int) (x y:α):Prop:=(c0 x y < 0/\0<=c0 y x)\/(c0 y x < 0/\0<=c0 x y)
structure SoL (c0 : α → α → Int) (p0 : α → α → Bool) (L : List α) : Prop where
  rfl':∀ x∈L,0<=c0 x x
  pw:L.Pairwise (SyL c0)
  tr:∀ x∈L,∀ y∈L,∀ z∈L,c0 x y < 0->c0 y z < 0->c0 x z < 0
  sf:∀ x∈L,∀ y∈L,p0 x y=true
theorem SyL.symm {x y:α}(h:SyL c0 x y):SyL c0 y x:=Or.symm h
theorem SoL.perm {L M:List α}(h:SoL c0 p0 L) (hp:L.Perm M):SoL c0 p0 M :=
  ⟨λ x hx=>h.rfl' x (hp.mem_iff.2 hx),(hp.pairwise_iff (λ h=>SyL.symm h)).1 h.pw,λ x hx y hy z hz=>h.tr x (hp.mem_iff.2 hx) y (hp.mem_iff.2 hy) z (hp.mem_iff.2 hz),λ x hx y hy=>h.sf x (hp.mem_iff.2 hx) y (hp.mem_iff.2 hy)⟩
theorem zNm {m:Nat}{g:Nat->α}{L:List α}(hg:IsL m g L) (h:sortB m (λ i j=>p0 (g i) (g j)) (λ i j=>c0 (g i) (g j))=true):SoL c0 p0 L:=by
  obtain⟨h1,h2,h3,h4⟩:=zow (s:=λ i j=>p0 (g i) (g j)=true) h (λ i j h=>h) rfl
  obtain⟨e,eg⟩:=hg
  have at_:∀ x∈L,∃ i,i < m/\g i=x:=λ x hx=>by
    obtain⟨i,hi,rfl⟩:=List.getElem_of_mem hx
    exact⟨i,by omega,eg i hi⟩
  refine⟨λ x hx=>?_,List.pairwise_iff_getElem.2 λ i j hi hj hij=>?_,λ x hx y hy z hz=>?_,λ x hx y hy=>?_⟩
  · obtain⟨i,hi,rfl⟩:=at_ x hx;exact h2 i hi
  · have := h3 i j (by omega) (by omega) (by omega)
    simp only[eg i hi,eg j hj] at this
    exact this
  · obtain ⟨i, hi, rfl⟩ := at_ x hx; obtain ⟨j, hj, rfl⟩ := at_ y hy; obtain ⟨k, hk, rfl⟩ := at_ z hz
    exact h4 i j k hi hj hk
  · obtain ⟨i, hi, rfl⟩ := at_ x hx; obtain ⟨j, hj, rfl⟩ := at_ y hy
    exact h1 i j hi hj
theorem zFB {m:Nat}{g:Nat->α}{L:List α}(hg:IsL m g L) (h:SoL c0 p0 L):STO m (λ i j=>c0 (g i) (g j)):=by
  obtain⟨e,eg⟩:=hg
  have mm:∀ i,i < m->g i∈L:=λ i hi=>by rw[eg i (by omega)];exact List.getElem_mem _
  refine⟨λ i hi=>h.rfl' _ (mm i hi),λ i j hi hj hne=>?_,λ i j k hi hj hk=>h.tr _ (mm i hi) _ (mm j hj) _ (mm k hk)⟩
  have pw:=List.pairwise_iff_getElem.1 h.pw
  simp only[eg i (by omega),eg j (by omega)]
  rcases Nat.lt_or_gt_of_ne hne with hl | hl
  · exact pw i j (by omega) (by omega) hl
  · exact SyL.symm (pw j i (by omega) (by omega) hl)
theorem zu7 {m:Nat}{g:Nat->α}{L:List α}(hg:IsL m g L) (h:SoL c0 p0 L):sortB m (λ i j=>p0 (g i) (g j)) (λ i j=>c0 (g i) (g j))=true:=by
  have hs:=zFB hg h
  obtain⟨e,eg⟩:=hg
  have mm:∀ i,i < m->g i∈L:=λ i hi=>by rw[eg i (by omega)];exact List.getElem_mem _
  simp only[sortB,List.all_eq_true,List.mem_range,dqm,Bool.or_eq_true,decide_eq_true_eq,Bool.not_eq_true',Bool.and_eq_false_iff,decide_eq_false_iff_not]
  refine λ i hi=>⟨hs.1 i hi,λ j hj=>⟨⟨h.sf _ (mm i hi) _ (mm j hj),?_⟩,λ k hk=>?_⟩⟩
  · by_cases e : i = j
    · subst e;exact .inl (.inl (Nat.beq_refl _))
    · rcases hs.2.1 i j hi hj e with h | h
      · exact .inl (.inr h)
      · exact .inr h
  · by_cases h1 : c0 (g i) (g j) < 0
    · by_cases h2 : c0 (g j) (g k) < 0
      · exact .inr (hs.2.2 i j k hi hj hk h1 h2)
      · exact .inl (.inr h2)
    · exact .inl (.inl h1)
theorem zkR {m:Nat}{g:Nat->α}{L:List α}(hg:IsL m g L) (h:SoL c0 p0 L):((zfg m (λ i j=>c0 (g i) (g j))).map g).Perm L/\((zfg m (λ i j=>c0 (g i) (g j))).map g).Pairwise λ a b=>¬ c0 b a < 0:=by
  have hs:=zFB hg h
  constructor
  · have hp := (zeG (c := fun i j => c0 (g i) (g j)) m).map g
    refine hp.trans (List.Perm.of_eq ?_)
    obtain⟨e,eg⟩:=hg
    refine List.ext_getElem (by simp[e]) λ k h1 h2=>?_
    rw[List.getElem_map,List.getElem_range]
    exact eg k h2
  · rw [List.pairwise_map]
    exact zuK hs
theorem zNn {m:Nat}{g g':Nat->α}{L M:List α}(hg:IsL m g L) (hg':IsL m g' M) (hp:L.Perm M) (h:SoL c0 p0 L) (hm:0 < m):zgp m (λ i j=>c0 (g i) (g j)) g=zgp m (λ i j=>c0 (g' i) (g' j)) g':=by
  obtain⟨p1,w1⟩:=zkR hg h
  obtain⟨p2,w2⟩:=zkR hg' (h.perm hp)
  have e:(zfg m (λ i j=>c0 (g i) (g j))).map g=(zfg m (λ i j=>c0 (g' i) (g' j))).map g':=by
    refine List.Perm.eq_of_pairwise (le:=λ a b=>¬ c0 b a < 0) (λ a b ha hb h1 h2=>?_) w1 w2 ((p1.trans hp).trans p2.symm)
    have ha:=p1.mem_iff.1 ha
    have hb:=hp.mem_iff.2 (p2.mem_iff.1 hb)
    obtain⟨i,hi,rfl⟩:=List.getElem_of_mem ha
    obtain⟨j,hj,rfl⟩:=List.getElem_of_mem hb
    by_cases hij:i=j
    · subst hij;rfl
    · have pw := List.pairwise_iff_getElem.1 h.pw
      rcases Nat.lt_or_gt_of_ne hij with hl | hl
      · rcases pw i j hi hj hl with h | h
        · exact absurd h.1 h2
        · exact absurd h.1 h1
      · rcases pw j i hj hi hl with h | h
        · exact absurd h.1 h1
        · exact absurd h.1 h2
  have l1:(zfg m (λ i j=>c0 (g i) (g j))).length=m:=by rw[(zeG m).length_eq,List.length_range]
  have l2:(zfg m (λ i j=>c0 (g' i) (g' j))).length=m:=by rw[(zeG m).length_eq,List.length_range]
  have get:∀ (g:Nat->α) (l:List Nat),l.length=m->∀ i,g (l.getD i (l.getD 0 0))=(l.map g)[if i < m then i else 0]?.getD (g 0):=λ g l hl i=>by
    by_cases hi:i < m
    · rw[if_pos hi,dqH,List.getD_eq_getElem?_getD,dqD (by omega)];rfl
    · rw[if_neg hi,dqH,List.getD_eq_getElem?_getD,dqM (by omega),List.getD_eq_getElem?_getD,dqD (by omega)];rfl
  funext i
  show g _=g' _
  rw[get g _ l1,get g' _ l2,e]
  have:(if i < m then i else 0) < ((zfg m (λ i j=>c0 (g' i) (g' j))).map g').length:=by rw[List.length_map,l2];split <;> omega
  rw[dqD this]
  rfl
end srt
theorem zNo (f:Nat->Sl Int) (i j:Nat) (h:p59 (f i) (f j)=true):zwJ zqv [] false (λ i=>zaS (f i)) i j:=by
  have e:zwJ zqv [] false (λ i=>zaS (f i)) i j=(IsE zak 1 1 (λ k=>zak ((f i).get k))/\IsE zak 1 1 (λ k=>zak ((f j).get k))/\p59 (f i) (f j)=true):=by kernel_rfl
  rw[e];exact⟨isE,isE,h⟩
theorem zNp (f:Nat->Sl Int):zpo zqv [] false (λ i=>zaS (f i))=λ i j=>s59 (f i) (f j):=by kernel_rfl
def zcR (F:List Int->Option (List Int)):List (List Int):=((List.range 1099511627776).map λ (a:Nat)=>[(a:Int)]).filter λ y=>(F y).isSome
def zwt (k:Int) (y:List Int):Bool:=(y.getD 0 0 != k) && (zpl .i64 (y.getD 0 0) k == k)
def zkt (zaa : Sl Gate) (k : Int) : Nat → Int → Sl Int → Option (Sl Int)
  | 0,_,_=>none
  | f + 1, t, o => cond (decide (t < (zaa.len : Int))) (cond (decide (0 <= t)) (cond ((zpl .i64 (zwG .i64 k t) (1:Int)) == (1:Int)) (cond (decide ((o.len + 1) * 8 <= 140737488355328 /\ o.len + 1 <= 9223372036854775807)) (zkt zaa k f (w64 (t + (1:Int))) ⟨o.len + 1, zgv o.len o.get (λ _ => t)⟩) none)
 (zkt zaa k f (w64 (t+(1:Int))) o)) none) (some o)
def zg7 (zaa:Sl Gate) (k:Int):Option (Sl Int):=zkt zaa k Fuel 0 ⟨0,λ _=>default⟩
def zqw (v:Sl (Sl Int)) (x:Sl Int):Sl (Sl Int):=⟨v.len+1,zgv v.len v.get (λ _=>x)⟩
theorem zwu {α:Type}{f:α->Bool}{l m:List α}(h:l.Perm m):l.any f=m.any f:=by
  rw[Bool.eq_iff_iff,List.any_eq_true,List.any_eq_true]
  exact⟨λ ⟨x,hx,h2⟩=>⟨x,h.mem_iff.1 hx,h2⟩,λ ⟨x,hx,h2⟩=>⟨x,h.mem_iff.2 hx,h2⟩⟩
abbrev T30:Tabs:=(((((((Tabs.nil.addF 44 zqa).addF 49 zqd).addF 56 zDI).addF 57 zDD).addO 58 zNf).addC 59 zqv).addI 77 zOI)
theorem zQh:TabsOk Tryz.prog T30:=(((((((TabsOk.nil.addF zKn).addF zKp).addF zQQ).addF zQN).addO zR8).addC (@zR9 ⟨1⟩)).addI zQR)
abbrev G30:Ctrs:=csm T30 (λ _ _=>[]) (λ l=>Nat.beq l 21)
def za1:Ann:=⟨116,[(0,zK [1] [1]),(1,zK [1,3] [1,3]),(2,zK [1,3,4] [1,3,4,21]),(3,zK [1,3,4,23] [1,3,4,21]),(4,zK [1,3,4,24,25,26] [1,3,4,21]),(5,zK [1,3,4,24,25,26,27] [1,3,4,21]),(6,zK [1,3,4,6,24,25,26] [1,3,4,6,21]),(7,zK [1,3,4,6,7,24,25,26] [1,3,4,6,21]),(8,zK [1,3,4,6,7,24,25,26,30,31,32] [1,3,4,6,21]),(9,zK [1,3,4,6,7,24,25,26,30,31,32,33] [1,3,4,6,21]),(10,zK [1,3,4,6,7,8,9,24,25,26,30,31,32] [1,3,4,6,9,21]),(11,zK [1,3,4,6,7,8,24,25,26,30,31,32,43] [1,3,4,6,21]),(12,zK [1,3,4,6,7,24,25,26,30,31,32] [1,3,4,6,21]),(13,zK [1,3,4,6,7,24,25,26,30,31,32] [1,3,4,6,21]),(14,zK [1,3,4,24,25,26] [1,3,4,21]),(15,zK [1,3,4,24,25,26] [1,3,4,21]),(16,zK [1,4,53] [1,4,21]),(17,zK [1,4,10,53] [1,4,10,21]),(18,zK [1,4,10,11,53] [1,4,10,21]),(19,zK [1,4,10,11,53,55,56,57] [1,4,10,21]),(20,zK [1,4,10,11,53,55,56,57,58] [1,4,10,21]),(21,zK [1,4,10,11,12,13,53,55,56,57] [1,4,10,13,21]),(22,zK [1,4,10,11,12,53,55,56,57,64] [1,4,10,21]),(23,zK [1,4,10,11,53,55,56,57] [1,4,10,21]),(24,zK [1,4,10,11,53,55,56,57] [1,4,10,21]),(25,zK [1,4,53] [1,4,21]),(26,⟨[1,4,14],[1],[],[],[],[],[(4,0,λ _=>[])]⟩),(27,zK [1,4,14,73] [1,73]),(28,zK [1,4,14,73,75] [1,73,5000]),(29,zK [1,4,14,15,73] [1,73,5000]),(30,zK [1,4,14,15,73,79] [1,73,79,5000]),(31,zK [1,4,14,15,73,79,81] [1,73,79,5000]),(32,zK [1,4,14,15,16,73,79] [1,73,79,5000]),(33,zK [1,4,14,15,73,79,93] [1,73,79,5000]),(34,zK [1,4,14,15,17,73] [1,73,5000]),(35,zK [1,4,14,15,17,73,95,96] [1,73,5000]),(36,zK [1,4,14,15,17,73,95,96,97] [1,73,107,5000]),(37,zK [1,4,14,15,17,18,73,95,96] [1,73,107,5000]),(38,zK [1,4,14,15,17,18,73,95,96,103] [1,73,107,5000]),(39,zK [1,4,14,15,17,73,95,96] [1,73,107,5000]),(40,zK [1,4,14,15,17,73,95,96] [1,73,107,5000]),(41,zK [1,4,14,73] [1,73,5000]),(42,zK [14] [5000]),(43,zK [2] [5000])],
 [(5,zK [1,3,4,24,25,26] [1,3,4,21]),(9,zK [1,3,4,6,7,24,25,26,30,31,32] [1,3,4,6,21]),(17,zK [1,4,53] [1,4,21]),(20,zK [1,4,10,11,53,55,56,57] [1,4,10,21]),(28,⟨[1,4,14,73],[1,73,5000],[(14,5000,24,λ _=>zaS default)],[],[],[],[]⟩),(31,zK [1,4,14,15,73,79] [1,73,79,5000]),(36,⟨[1,4,14,15,17,73,95,96],[1,73,107,5000],[(17,107,3,λ _=>zak default)],[],[],[],[]⟩)],
 [(16,zK [1,3,4] [1,3,4,21]),(26,zK [1,4] [1,4,21]),(34,zK [1,4,14,15,73] [1,73,5000])],
 [],[]⟩
def zkf (zaa:(Sl Gate)) (zbA:Int) (zaO:Nat) (zaP:(List Int->Option (List Int))):St:=⟨[(1,.one (.c (.ptr 1 0))),(3,.one (.c (.ptr 3 0))),(4,.one (.c (.ptr 4 0))),(24,.one (.c (.p (.sl zaa.len 3 (λ i=>enc_48 (zaa.get i)))))),(25,.one (.c (.p (.int .i64 (zaa.len:Int))))),(26,.one (.c (.p (.int .i64 zbA))))],[(1,.box 22 [.p (.sl zaa.len 3 (λ i=>enc_48 (zaa.get i)))]),(3,.box 72 [.p (.sl zaa.len 3 (λ i=>enc_48 (zaa.get i)))]),(4,.box 94 [.mo 21]),(21,.mo 3 4 (false,1,false,[none]) zaO zaP)],[]⟩
def zms (K:List PA->Prop) (zaa:(Sl Gate)) (zbA:Int) (zaO:Nat) (zaP:(List Int->Option (List Int))):Prop:=vc Tryz.prog G30 za1 (cdF Tryz.f30 [1,0,1,1,0,1,0,1,0]) (zaG 0 (sqK Tryz.prog G30 za1 (cdF Tryz.f30 [1,0,1,1,1]) (zbl (zcB Tryz.f30 24 1 24 K)))) (zkf zaa zbA zaO zaP)
def zNq (zaa:(Sl Gate)) (zdp:Nat) (zdq:(List Int->Option (List Int))):St:=⟨[(1,.one (.c (.ptr 1 0))),(3,.one (.c (.ptr 3 0))),(4,.one (.c (.ptr 4 0)))],[(1,.box 22 [.p (.sl zaa.len 3 (λ i=>enc_48 (zaa.get i)))]),(3,.box 72 [.p (.sl zaa.len 3 (λ i=>enc_48 (zaa.get i)))]),(4,.box 94 [.mo 21]),(21,.mo 3 4 (false,1,false,[none]) zdp zdq)],[]⟩
def zmt (K:List PA->Prop) (zaa:(Sl Gate)) (zdp:Nat) (zdq:(List Int->Option (List Int))):Prop:=vc Tryz.prog G30 za1 (cdF Tryz.f30 [1,0,1,1,1]) (zbl (zcB Tryz.f30 24 1 24 K)) (zNq zaa zdp zdq)
def zkg (zaa:(Sl Gate)) (zbc:Int) (zcf:Int) (zbB:Int) (zcw:Int) (zcp:Int) (zcx:Int) (zaQ:Nat) (zaJ:(List Int->Option (List Int))):St:=⟨[(1,.one (.c (.ptr 1 0))),(3,.one (.c (.ptr 3 0))),(4,.one (.c (.ptr 4 0))),(6,.one (.c (.ptr 6 0))),(7,.one (.c (.p (.int .i64 zbc)))),(24,.one (.c (.p (.sl zaa.len 3 (λ i=>enc_48 (zaa.get i)))))),(25,.one (.c (.p (.int .i64 (zaa.len:Int))))),(26,.one (.c (.p (.int .i64 zcf)))),(30,.one (.c (.p (.sl zaa.len 3 (λ i=>enc_48 (zaa.get i)))))),(31,.one (.c (.p (.int .i64 (zaa.len:Int))))),(32,.one (.c (.p (.int .i64 zbB))))],[(1,.box 22 [.p (.sl zaa.len 3 (λ i=>enc_48 (zaa.get i)))]),(3,.box 72 [.p (.sl zaa.len 3 (λ i=>enc_48 (zaa.get i)))]),(4,.box 94 [.mo 21]),(6,.box 48 [.p (.int .i64 zcw),.p (.int .i64 zcp),.p (.int .i64 zcx)]),(21,.mo 3 4 (false,1,false,[none]) zaQ zaJ)],[]⟩
def zmu (K:List PA->Prop) (X0:St->Prop) (zaa:(Sl Gate)) (zbc:Int) (zcf:Int) (zbB:Int) (zcw:Int) (zcp:Int) (zcx:Int) (zaQ:Nat) (zaJ:(List Int->Option (List Int))):Prop:=vc Tryz.prog G30 za1 (cdF Tryz.f30 [1,0,1,1,0,1,0,1,0,0,1,1,0,0,1,1,0,1,0]) (zaG 2 (sqK Tryz.prog G30 za1 (cdF Tryz.f30 [1,0,1,1,0,1,0,1,0,0,1,1,0,0,1,1,1]) (zaG 1 (sqK Tryz.prog G30 za1 (cdF Tryz.f30 [1,0,1,1,0,1,0,1,0,0,1,1,1]) (zcA Tryz.prog za1 5 X0 (zaG 0 (sqK Tryz.prog G30 za1 (cdF Tryz.f30 [1,0,1,1,1]) (zbl (zcB Tryz.f30 24 1 24 K))))))))) (zkg zaa zbc zcf zbB zcw zcp zcx zaQ zaJ)
def zhC (zaa:(Sl Gate)) (zaE:Nat) (zaF:(List Int->Option (List Int))):St:=⟨[(1,.one (.c (.ptr 1 0))),(4,.one (.c (.ptr 4 0))),(53,.one (.c (.p (.fn 77 [] [.fp (zdN (⟨zaa⟩:list)) 0]))))],[(1,.box 22 [.p (.sl zaa.len 3 (λ i=>enc_48 (zaa.get i)))]),(4,.box 94 [.mo 21]),(21,.mo 3 4 (false,1,false,[none]) zaE zaF)],[]⟩
def zmv (K:List PA->Prop) (zaa:(Sl Gate)) (zaE:Nat) (zaF:(List Int->Option (List Int))):Prop:=vc Tryz.prog G30 za1 (cdF Tryz.f30 [1,0,1,1,1,0,1,0]) (zaG 4 (sqK Tryz.prog G30 za1 (cdF Tryz.f30 [1,0,1,1,1,1]) (zbl (zcB Tryz.f30 24 1 24 K)))) (zhC zaa zaE zaF)
def zNr (zaa:(Sl Gate)) (zad:Nat) (zac:(List Int->Option (List Int))):St:=⟨[(1,.one (.c (.ptr 1 0))),(4,.one (.c (.ptr 4 0)))],[(1,.box 22 [.p (.sl zaa.len 3 (λ i=>enc_48 (zaa.get i)))]),(4,.box 94 [.mo 21]),(21,.mo 3 4 (false,1,false,[none]) zad zac)],[]⟩
def zo5 (K:List PA->Prop) (zaa:(Sl Gate)) (zad:Nat) (zac:(List Int->Option (List Int))):Prop:=vc Tryz.prog G30 za1 (cdF Tryz.f30 [1,0,1,1,1,1]) (zbl (zcB Tryz.f30 24 1 24 K)) (zNr zaa zad zac)
def zkh (zaa:(Sl Gate)) (y3:straight) (zbd:Int) (zbI:Int) (zaR:Nat) (zaK:(List Int->Option (List Int))):St:=⟨[(1,.one (.c (.ptr 1 0))),(4,.one (.c (.ptr 4 0))),(10,.one (.c (.ptr 10 0))),(11,.one (.c (.p (.int .i64 zbd)))),(53,.one (.c (.p (.fn 77 [] [.fp (zdN (⟨zaa⟩:list)) 0])))),(55,.one (.c (.p (.sl zaa.len 3 (λ i=>enc_48 (zaa.get i)))))),(56,.one (.c (.p (.int .i64 (zaa.len:Int))))),(57,.one (.c (.p (.int .i64 zbI))))],[(1,.box 22 [.p (.sl zaa.len 3 (λ i=>enc_48 (zaa.get i)))]),(4,.box 94 [.mo 21]),(10,.box 81 [.p (.int .i64 y3.slope),.p (.int .i64 y3.start),.p (.int .i64 y3.den)]),(21,.mo 3 4 (false,1,false,[none]) zaR zaK)],[]⟩
def zmw (K:List PA->Prop) (X3:List (List PA)->St->Prop) (rest3:List (List PA)) (zaa:(Sl Gate)) (y3:straight) (zbd:Int) (zbI:Int) (zaR:Nat) (zaK:(List Int->Option (List Int))):Prop:=vc Tryz.prog G30 za1 (cdF Tryz.f30 [1,0,1,1,1,0,1,0,1,0,1,0,1,0]) (zaG 6 (sqK Tryz.prog G30 za1 (cdF Tryz.f30 [1,0,1,1,1,0,1,0,1,0,1,1]) (zaG 5 (zOZ Tryz.prog za1 17 (X3 rest3) (zaG 4 (sqK Tryz.prog G30 za1 (cdF Tryz.f30 [1,0,1,1,1,1]) (zbl (zcB Tryz.f30 24 1 24 K)))))))) (zkh zaa y3 zbd zbI zaR zaK)
def zg8 (zaa:(Sl Gate)) (zad:Nat) (zac:(List Int->Option (List Int))) (zal:(List (List Int))) (zej:Nat) (za0:Nat->List PV):St:=⟨[(1,.one (.c (.ptr 1 0))),(4,.one (.c (.p (.fp [.fm (false,1,false,[none]) zad zac] 0)))),(14,.one (.c (.vec 5000))),(73,.one (.c (.ptr 73 0)))],[(1,.box 22 [.p (.sl zaa.len 3 (λ i=>enc_48 (zaa.get i)))]),(73,.mit (false,1,false,[none]) zad zac zal),(5000,.vec 24 1 24 zej za0)],[]⟩
def zmx (K:List PA->Prop) (zaa:(Sl Gate)) (zad:Nat) (zac:(List Int->Option (List Int))) (zal:(List (List Int))) (zej:Nat) (za0:Nat->List PV):Prop:=vc Tryz.prog G30 za1 (cdF Tryz.f30 [1,0,1,1,1,1,1,1,0,1,0]) (zaG 8 (sqK Tryz.prog G30 za1 (cdF Tryz.f30 [1,0,1,1,1,1,1,1,1]) (zbl (zcB Tryz.f30 24 1 24 K)))) (zg8 zaa zad zac zal zej za0)
def zki (zaa:(Sl Gate)) (zad:Nat) (zac:(List Int->Option (List Int))) (zal:(List (List Int))) (k73_0:Int) (zbo:(List (List Int))) (zek:Nat) (zbC:Nat->List PV):St:=⟨[(1,.one (.c (.ptr 1 0))),(4,.one (.c (.p (.fp [.fm (false,1,false,[none]) zad zac] 0)))),(14,.one (.c (.vec 5000))),(15,.one (.c (.p (.int .i64 k73_0)))),(73,.one (.c (.ptr 73 0))),(79,.one (.c (.ptr 79 0)))],[(1,.box 22 [.p (.sl zaa.len 3 (λ i=>enc_48 (zaa.get i)))]),(73,.mit (false,1,false,[none]) zad zac ([k73_0] :: zal)),(79,.mit (false,1,false,[none]) zad zac zbo),(5000,.vec 24 1 24 zek zbC)],[]⟩
def zmy (K:List PA->Prop) (X6:St->Prop) (zaa:(Sl Gate)) (zad:Nat) (zac:(List Int->Option (List Int))) (zal:(List (List Int))) (k73_0:Int) (zbo:(List (List Int))) (zek:Nat) (zbC:Nat->List PV):Prop:=vc Tryz.prog G30 za1 (cdF Tryz.f30 [1,0,1,1,1,1,1,1,0,1,0,0,1,1,0,1,0,1,0]) (zaG 10 (sqK Tryz.prog G30 za1 (cdF Tryz.f30 [1,0,1,1,1,1,1,1,0,1,0,0,1,1,0,1,1]) (zaG 9 (zcA Tryz.prog za1 28 X6 (zaG 8 (sqK Tryz.prog G30 za1 (cdF Tryz.f30 [1,0,1,1,1,1,1,1,1]) (zbl (zcB Tryz.f30 24 1 24 K)))))))) (zki zaa zad zac zal k73_0 zbo zek zbC)
def zNs (zaa:(Sl Gate)) (zad:Nat) (zac:(List Int->Option (List Int))) (zal:(List (List Int))) (k73_0:Int) (zmz:Nat) (zfE:Nat->List PV):St:=⟨[(1,.one (.c (.ptr 1 0))),(4,.one (.c (.p (.fp [.fm (false,1,false,[none]) zad zac] 0)))),(14,.one (.c (.vec 5000))),(15,.one (.c (.p (.int .i64 k73_0)))),(73,.one (.c (.ptr 73 0)))],[(1,.box 22 [.p (.sl zaa.len 3 (λ i=>enc_48 (zaa.get i)))]),(73,.mit (false,1,false,[none]) zad zac ([k73_0] :: zal)),(5000,.vec 24 1 24 zmz zfE)],[]⟩
def zo6 (K:List PA->Prop) (X6:St->Prop) (zaa:(Sl Gate)) (zad:Nat) (zac:(List Int->Option (List Int))) (zal:(List (List Int))) (k73_0:Int) (zmz:Nat) (zfE:Nat->List PV):Prop:=vc Tryz.prog G30 za1 (cdF Tryz.f30 [1,0,1,1,1,1,1,1,0,1,0,0,1,1,0,1,1]) (zaG 9 (zcA Tryz.prog za1 28 X6 (zaG 8 (sqK Tryz.prog G30 za1 (cdF Tryz.f30 [1,0,1,1,1,1,1,1,1]) (zbl (zcB Tryz.f30 24 1 24 K)))))) (zNs zaa zad zac zal k73_0 zmz zfE)
def zkj (zaa:(Sl Gate)) (zad:Nat) (zac:(List Int->Option (List Int))) (zal:(List (List Int))) (zau:(Sl (Sl Int))) (k73_0:Int) (zbN:Int) (zfd:Nat) (zcv:Nat->List PV):St:=⟨[(1,.one (.c (.ptr 1 0))),(4,.one (.c (.p (.fp [.fm (false,1,false,[none]) zad zac] 0)))),(14,.one (.c (.vec 5000))),(15,.one (.c (.p (.int .i64 k73_0)))),(17,.one (.c (.vec 107))),(73,.one (.c (.ptr 73 0))),(95,.one (.c (.p (.int .i64 (zaa.len:Int))))),(96,.one (.c (.p (.int .i64 zbN))))],[(1,.box 22 [.p (.sl zaa.len 3 (λ i=>enc_48 (zaa.get i)))]),(73,.mit (false,1,false,[none]) zad zac ([k73_0] :: zal)),(107,.vec 3 1 8 zfd zcv),(5000,.vec 24 1 24 zau.len (λ i=>zaS (zau.get i)))],[]⟩
def zmA (K:List PA->Prop) (X6:St->Prop) (zaa:(Sl Gate)) (zad:Nat) (zac:(List Int->Option (List Int))) (zal:(List (List Int))) (zau:(Sl (Sl Int))) (k73_0:Int) (zbN:Int) (zfd:Nat) (zcv:Nat->List PV):Prop:=vc Tryz.prog G30 za1 (cdF Tryz.f30 [1,0,1,1,1,1,1,1,0,1,0,0,1,1,0,1,1,1,0,1,0]) (zaG 12 (sqK Tryz.prog G30 za1 (cdF Tryz.f30 [1,0,1,1,1,1,1,1,0,1,0,0,1,1,0,1,1,1,1]) (zaG 9 (zcA Tryz.prog za1 28 X6 (zaG 8 (sqK Tryz.prog G30 za1 (cdF Tryz.f30 [1,0,1,1,1,1,1,1,1]) (zbl (zcB Tryz.f30 24 1 24 K)))))))) (zkj zaa zad zac zal zau k73_0 zbN zfd zcv)
theorem zJj (zaa : (Sl Gate)) (K : List PA → Prop) :
  zvT Tryz.prog G30 za1 30 [.one (.sl zaa.len 3 (λ i=>enc_48 (zaa.get i)))] 24 1 24 K =
  ((IsE enc_48 3 3 (λ i=>enc_48 (zaa.get i))/\(p49 (⟨zaa⟩:list)=true)) /\
 (zc9 (s49 (⟨zaa⟩ : list))
 (zms K zaa (0:Int) 0 (λ _=>none))
 (zmt K zaa 0 (λ _=>none)))):=by kernel_rfl
def zqx (K:List PA->Prop) (X0:St->Prop) (zaa:(Sl Gate)) (zbA:Int) (zaO:Nat) (zaP:(List Int->Option (List Int))):Prop :=
  (zc9 (decide (zbA < (zaa.len : Int)))
 (((0<=zbA/\zbA < (zaa.len:Int))) /\
 (zmu K X0 zaa (0:Int) zbA (0:Int) ((zaa.get zbA.toNat).Z) ((zaa.get zbA.toNat).Low) ((zaa.get zbA.toNat).High) zaO zaP))
 (zmt K zaa zaO zaP))
theorem ztb (K : List PA → Prop) (X0 : St → Prop) (zaa : (Sl Gate)) (zbA : Int) (zaO : Nat) (zaP : (List Int → Option (List Int))) :
  vc Tryz.prog G30 za1 (cd (cdF Tryz.f30 [1,0,1,1,0,1,0,1,0]) [0]) (zcA Tryz.prog za1 5 X0 (zaG 0 (sqK Tryz.prog G30 za1 (cdF Tryz.f30 [1,0,1,1,1]) (zbl (zcB Tryz.f30 24 1 24 K))))) (zkf zaa zbA zaO zaP) =
  zqx K X0 zaa zbA zaO zaP:=by kernel_rfl
theorem zBk (K : List PA → Prop) (zaa : (Sl Gate)) (zbA : Int) (zaO : Nat) (zaP : (List Int → Option (List Int)))
  (h:∀ X0:St->Prop,(∀ (zbA:Int) (zaO:Nat) (zaP:(List Int->Option (List Int))),zqx K X0 zaa zbA zaO zaP->X0 (zkf zaa zbA zaO zaP))->X0 (zkf zaa zbA zaO zaP)) :
  zms K zaa zbA zaO zaP:=by
  have e:zms K zaa zbA zaO zaP=(∀ X:St->Prop,(∀ s,vc Tryz.prog G30 za1 (cd (cdF Tryz.f30 [1,0,1,1,0,1,0,1,0]) [0]) (zcA Tryz.prog za1 5 X (zaG 0 (sqK Tryz.prog G30 za1 (cdF Tryz.f30 [1,0,1,1,1]) (zbl (zcB Tryz.f30 24 1 24 K))))) s->X s)->X (zkf zaa zbA zaO zaP)):=by kernel_rfl
  refine zaN e ?_
  intro X hX
  refine h X ?_
  intro zbA zaO zaP hs
  refine hX _ ?_
  have e2:=ztb K X zaa zbA zaO zaP
  rw[e2]
  exact hs
theorem zJk (K : List PA → Prop) (zaa : (Sl Gate)) (zdp : Nat) (zdq : (List Int → Option (List Int))) :
  zmt K zaa zdp zdq =
  ((IsE enc_48 3 3 (λ i=>enc_48 (zaa.get i))) /\
 (zmv K zaa zdp zdq)):=by kernel_rfl
def zqy (K:List PA->Prop) (X0:St->Prop) (X2:St->Prop) (zaa:(Sl Gate)) (zbc:Int) (zcf:Int) (zbB:Int) (zcw:Int) (zcp:Int) (zcx:Int) (zaQ:Nat) (zaJ:(List Int->Option (List Int))):Prop :=
  (zc9 (decide (zbB < (zaa.len : Int)))
 (((0<=zbB/\zbB < (zaa.len:Int))) /\
 (zc9 (s44 zcp ((zaa.get zbB.toNat).Low) ((zaa.get zbB.toNat).High))
 (((0<=zbB)) /\
 (X2 (zkg zaa (orW .i64 zbc (zvJ .i64 (1:Int) zbB)) zcf (w64 (zbB+(1:Int))) zcw zcp zcx zaQ zaJ)))
 (X2 (zkg zaa zbc zcf (w64 (zbB+(1:Int))) zcw zcp zcx zaQ zaJ))))
 (X0 (zkf zaa (w64 (zcf+(1:Int))) (addN (zaJ [zbc]) zaQ) (zgA [zbc] [1] zaJ))))
theorem ztc (K : List PA → Prop) (X0 : St → Prop) (X2 : St → Prop) (zaa : (Sl Gate)) (zbc : Int) (zcf : Int) (zbB : Int) (zcw : Int) (zcp : Int) (zcx : Int) (zaQ : Nat) (zaJ : (List Int → Option (List Int))) :
  vc Tryz.prog G30 za1 (cd (cdF Tryz.f30 [1,0,1,1,0,1,0,1,0,0,1,1,0,0,1,1,0,1,0]) [0]) (zcA Tryz.prog za1 9 X2 (zaG 2 (sqK Tryz.prog G30 za1 (cdF Tryz.f30 [1,0,1,1,0,1,0,1,0,0,1,1,0,0,1,1,1]) (zaG 1 (sqK Tryz.prog G30 za1 (cdF Tryz.f30 [1,0,1,1,0,1,0,1,0,0,1,1,1]) (zcA Tryz.prog za1 5 X0 (zaG 0 (sqK Tryz.prog G30 za1 (cdF Tryz.f30 [1,0,1,1,1]) (zbl (zcB Tryz.f30 24 1 24 K)))))))))) (zkg zaa zbc zcf zbB zcw zcp zcx zaQ zaJ) =
  zqy K X0 X2 zaa zbc zcf zbB zcw zcp zcx zaQ zaJ:=by kernel_rfl
theorem zBl (K : List PA → Prop) (X0 : St → Prop) (zaa : (Sl Gate)) (zbc : Int) (zcf : Int) (zbB : Int) (zcw : Int) (zcp : Int) (zcx : Int) (zaQ : Nat) (zaJ : (List Int → Option (List Int)))
  (h:∀ X2:St->Prop,(∀ (zbc:Int) (zcf:Int) (zbB:Int) (zcw:Int) (zcp:Int) (zcx:Int) (zaQ:Nat) (zaJ:(List Int->Option (List Int))),zqy K X0 X2 zaa zbc zcf zbB zcw zcp zcx zaQ zaJ->X2 (zkg zaa zbc zcf zbB zcw zcp zcx zaQ zaJ))->X2 (zkg zaa zbc zcf zbB zcw zcp zcx zaQ zaJ)) :
  zmu K X0 zaa zbc zcf zbB zcw zcp zcx zaQ zaJ:=by
  have e:zmu K X0 zaa zbc zcf zbB zcw zcp zcx zaQ zaJ=(∀ X:St->Prop,(∀ s,vc Tryz.prog G30 za1 (cd (cdF Tryz.f30 [1,0,1,1,0,1,0,1,0,0,1,1,0,0,1,1,0,1,0]) [0]) (zcA Tryz.prog za1 9 X (zaG 2 (sqK Tryz.prog G30 za1 (cdF Tryz.f30 [1,0,1,1,0,1,0,1,0,0,1,1,0,0,1,1,1]) (zaG 1 (sqK Tryz.prog G30 za1 (cdF Tryz.f30 [1,0,1,1,0,1,0,1,0,0,1,1,1]) (zcA Tryz.prog za1 5 X0 (zaG 0 (sqK Tryz.prog G30 za1 (cdF Tryz.f30 [1,0,1,1,1]) (zbl (zcB Tryz.f30 24 1 24 K)))))))))) s->X s)->X (zkg zaa zbc zcf zbB zcw zcp zcx zaQ zaJ)):=by kernel_rfl
  refine zaN e ?_
  intro X hX
  refine h X ?_
  intro zbc zcf zbB zcw zcp zcx zaQ zaJ hs
  refine hX _ ?_
  have e2:=ztc K X0 X zaa zbc zcf zbB zcw zcp zcx zaQ zaJ
  rw[e2]
  exact hs
def zqz (K:List PA->Prop) (zaa:(Sl Gate)) (zaE:Nat) (zaF:(List Int->Option (List Int))):Prop :=
  (zo5 K zaa zaE zaF)
def zqA (K:List PA->Prop) (X3:List (List PA)->St->Prop) (y3:straight) (rest3:List (List PA)) (zaa:(Sl Gate)) (zaE:Nat) (zaF:(List Int->Option (List Int))):Prop :=
  (zmw K X3 rest3 zaa y3 (0:Int) (0:Int) zaE zaF)
theorem ztd (K:List PA->Prop) (zaa:(Sl Gate)) (zaE:Nat) (zaF:(List Int->Option (List Int))):(zaG 4 (sqK Tryz.prog G30 za1 (cdF Tryz.f30 [1,0,1,1,1,1]) (zbl (zcB Tryz.f30 24 1 24 K)))) .normal (zhC zaa zaE zaF)=zqz K zaa zaE zaF:=by kernel_rfl
theorem zte (K : List PA → Prop) (X3 : List (List PA) → St → Prop) (y3 : straight) (rest3 : List (List PA)) (zaa : (Sl Gate)) (zaE : Nat) (zaF : (List Int → Option (List Int))) :
  zOY Tryz.prog G30 za1 17 [54] (cd (cdF Tryz.f30 [1,0,1,1,1,0,1,0]) [0]) (cd (cdF Tryz.f30 [1,0,1,1,1,0,1,0]) [1]) X3 (zaG 4 (sqK Tryz.prog G30 za1 (cdF Tryz.f30 [1,0,1,1,1,1]) (zbl (zcB Tryz.f30 24 1 24 K)))) [.agg (zaz y3)] rest3 (zhC zaa zaE zaF)=zqA K X3 y3 rest3 zaa zaE zaF:=by kernel_rfl
theorem zBm (K : List PA → Prop) (zaa : (Sl Gate)) (zaE : Nat) (zaF : (List Int → Option (List Int)))
  (hsafe:IsE enc_48 3 3 (λ i=>enc_48 ((⟨zaa⟩:list).Gates.get i))/\(p77 (⟨zaa⟩:list)=true)) (h:∀ X3:List (List PA)->St->Prop,(∀ (zaE:Nat) (zaF:(List Int->Option (List Int))),zqz K zaa zaE zaF->X3 [] (zhC zaa zaE zaF))->(∀ (y:straight) (rest:List (List PA)) (zaE:Nat) (zaF:(List Int->Option (List Int))),zqA K X3 y rest zaa zaE zaF->X3 ([.agg (zaz y)] :: rest) (zhC zaa zaE zaF))->X3 ((s77 (⟨zaa⟩:list)).map λ y=>[.agg (zaz y)]) (zhC zaa zaE zaF)) :
  zmv K zaa zaE zaF:=by
  have e:zmv K zaa zaE zaF=((IsE enc_48 3 3 (λ i=>enc_48 ((⟨zaa⟩:list).Gates.get i))/\(p77 (⟨zaa⟩:list)=true))/\∀ X:List (List PA)->St->Prop,(∀ s,(zaG 4 (sqK Tryz.prog G30 za1 (cdF Tryz.f30 [1,0,1,1,1,1]) (zbl (zcB Tryz.f30 24 1 24 K)))) .normal s->X [] s)->(∀ y rest s,zOY Tryz.prog G30 za1 17 [54] (cd (cdF Tryz.f30 [1,0,1,1,1,0,1,0]) [0]) (cd (cdF Tryz.f30 [1,0,1,1,1,0,1,0]) [1]) X (zaG 4 (sqK Tryz.prog G30 za1 (cdF Tryz.f30 [1,0,1,1,1,1]) (zbl (zcB Tryz.f30 24 1 24 K)))) y rest s->X (y :: rest) s)->X ((s77 (⟨zaa⟩:list)).map λ y=>[.agg (zaz y)]) (zhC zaa zaE zaF)):=by kernel_rfl
  refine zaN e ⟨hsafe,?_⟩
  intro X h0 h1
  refine h X (λ zaE zaF hs=>h0 _ ?_) (λ y rest zaE zaF hs=>h1 _ rest _ ?_)
  · rw[ztd K zaa zaE zaF];exact hs
  · have e2 := zte K X y rest zaa zaE zaF
    rw[e2];exact hs
theorem zJl (K : List PA → Prop) (zaa : (Sl Gate)) (zad : Nat) (zac : (List Int → Option (List Int))) :
  zo5 K zaa zad zac =
  (zmx K zaa zad zac ([]) 0 (λ i=>zaS ((λ _=>default) i))):=by kernel_rfl
def zqB (K:List PA->Prop) (X3:List (List PA)->St->Prop) (rest3:List (List PA)) (X5:St->Prop) (zaa:(Sl Gate)) (y3:straight) (zbd:Int) (zbI:Int) (zaR:Nat) (zaK:(List Int->Option (List Int))):Prop :=
  (zc9 (decide (zbI < (zaa.len : Int)))
 (((0<=zbI/\zbI < (zaa.len:Int))) /\
 (zc9 (s57 y3 (zaa.get zbI.toNat))
 (((0<=zbI)) /\
 (X5 (zkh zaa y3 (orW .i64 zbd (zvJ .i64 (1:Int) zbI)) (w64 (zbI+(1:Int))) zaR zaK)))
 (X5 (zkh zaa y3 zbd (w64 (zbI+(1:Int))) zaR zaK))))
 (X3 rest3 (zhC zaa (addN (zaK [zbd]) zaR) (zgA [zbd] [1] zaK))))
theorem ztf (K : List PA → Prop) (X3 : List (List PA) → St → Prop) (rest3 : List (List PA)) (X5 : St → Prop) (zaa : (Sl Gate)) (y3 : straight) (zbd : Int) (zbI : Int) (zaR : Nat) (zaK : (List Int → Option (List Int))) :
  vc Tryz.prog G30 za1 (cd (cdF Tryz.f30 [1,0,1,1,1,0,1,0,1,0,1,0,1,0]) [0]) (zcA Tryz.prog za1 20 X5 (zaG 6 (sqK Tryz.prog G30 za1 (cdF Tryz.f30 [1,0,1,1,1,0,1,0,1,0,1,1]) (zaG 5 (zOZ Tryz.prog za1 17 (X3 rest3) (zaG 4 (sqK Tryz.prog G30 za1 (cdF Tryz.f30 [1,0,1,1,1,1]) (zbl (zcB Tryz.f30 24 1 24 K))))))))) (zkh zaa y3 zbd zbI zaR zaK) =
  zqB K X3 rest3 X5 zaa y3 zbd zbI zaR zaK:=by kernel_rfl
theorem zBn (K : List PA → Prop) (X3 : List (List PA) → St → Prop) (rest3 : List (List PA)) (zaa : (Sl Gate)) (y3 : straight) (zbd : Int) (zbI : Int) (zaR : Nat) (zaK : (List Int → Option (List Int)))
  (h:∀ X5:St->Prop,(∀ (zbd:Int) (zbI:Int) (zaR:Nat) (zaK:(List Int->Option (List Int))),zqB K X3 rest3 X5 zaa y3 zbd zbI zaR zaK->X5 (zkh zaa y3 zbd zbI zaR zaK))->X5 (zkh zaa y3 zbd zbI zaR zaK)) :
  zmw K X3 rest3 zaa y3 zbd zbI zaR zaK:=by
  have e:zmw K X3 rest3 zaa y3 zbd zbI zaR zaK=(∀ X:St->Prop,(∀ s,vc Tryz.prog G30 za1 (cd (cdF Tryz.f30 [1,0,1,1,1,0,1,0,1,0,1,0,1,0]) [0]) (zcA Tryz.prog za1 20 X (zaG 6 (sqK Tryz.prog G30 za1 (cdF Tryz.f30 [1,0,1,1,1,0,1,0,1,0,1,1]) (zaG 5 (zOZ Tryz.prog za1 17 (X3 rest3) (zaG 4 (sqK Tryz.prog G30 za1 (cdF Tryz.f30 [1,0,1,1,1,1]) (zbl (zcB Tryz.f30 24 1 24 K))))))))) s->X s)->X (zkh zaa y3 zbd zbI zaR zaK)):=by kernel_rfl
  refine zaN e ?_
  intro X hX
  refine h X ?_
  intro zbd zbI zaR zaK hs
  refine hX _ ?_
  have e2:=ztf K X3 rest3 X zaa y3 zbd zbI zaR zaK
  rw[e2]
  exact hs
def zqC (K:List PA->Prop) (X6:St->Prop) (zaa:(Sl Gate)) (zad:Nat) (zac:(List Int->Option (List Int))) (zal:(List (List Int))) (zao:(Sl (Sl Int))):Prop :=
  (zCQ 1 zad zac ->
 ((∀ c:List Int,c.length=1->zac c ≠ none->c∈zal) ->
 (((zao.len<=4611686018427387)/\((∀ i j,i < zao.len->j < zao.len->zwJ (zqv) [] false (λ i=>zaS (zao.get i)) i j)/\STO zao.len (zpo (zqv) [] false (λ i=>zaS (zao.get i))))) /\
 (K [.one (.sl zao.len 1 (λ i=>zaS ((zgp zao.len (λ i j=>(s59 (zao.get i) (zao.get j))) zao.get) i)))])))/\∀ k73_0:Int,zac [k73_0] ≠ none->[k73_0] ∉ zal ->
 (zmy K X6 zaa zad zac zal k73_0 ([]) zao.len (λ i=>zaS (zao.get i))))
theorem ztg (K : List PA → Prop) (X6 : St → Prop) (zaa : (Sl Gate)) (zad : Nat) (zac : (List Int → Option (List Int))) (zal : (List (List Int))) (zao : (Sl (Sl Int))) :
  vc Tryz.prog G30 za1 (cd (cdF Tryz.f30 [1,0,1,1,1,1,1,1,0,1,0]) [0]) (zcA Tryz.prog za1 28 X6 (zaG 8 (sqK Tryz.prog G30 za1 (cdF Tryz.f30 [1,0,1,1,1,1,1,1,1]) (zbl (zcB Tryz.f30 24 1 24 K))))) (zg8 zaa zad zac zal zao.len (λ i=>zaS (zao.get i))) =
  zqC K X6 zaa zad zac zal zao:=by kernel_rfl
theorem zBo (K : List PA → Prop) (zaa : (Sl Gate)) (zad : Nat) (zac : (List Int → Option (List Int))) (zal : (List (List Int))) (zej : Nat) (za0 : Nat → List PV)
  (h:∀ X6:St->Prop,(∀ (zal:(List (List Int))) (zao:(Sl (Sl Int))),zqC K X6 zaa zad zac zal zao->X6 (zg8 zaa zad zac zal zao.len (λ i=>zaS (zao.get i))))->X6 (zg8 zaa zad zac zal zej za0)) :
  zmx K zaa zad zac zal zej za0:=by
  have e:zmx K zaa zad zac zal zej za0=(∀ X:St->Prop,(∀ s,vc Tryz.prog G30 za1 (cd (cdF Tryz.f30 [1,0,1,1,1,1,1,1,0,1,0]) [0]) (zcA Tryz.prog za1 28 X (zaG 8 (sqK Tryz.prog G30 za1 (cdF Tryz.f30 [1,0,1,1,1,1,1,1,1]) (zbl (zcB Tryz.f30 24 1 24 K))))) s->X s)->X (zg8 zaa zad zac zal zej za0)):=by kernel_rfl
  refine zaN e ?_
  intro X hX
  refine h X ?_
  intro zal zao hs
  refine hX _ ?_
  have e2:=ztg K X zaa zad zac zal zao
  rw[e2]
  exact hs
def zqD (K:List PA->Prop) (X6:St->Prop) (X7:St->Prop) (zaa:(Sl Gate)) (zad:Nat) (zac:(List Int->Option (List Int))) (zal:(List (List Int))) (k73_0:Int) (zbo:(List (List Int))) (zaw:(Sl (Sl Int))):Prop :=
  (zCQ 1 zad zac ->
 ((∀ c:List Int,c.length=1->zac c ≠ none->c∈zbo) ->
 (zo6 K X6 zaa zad zac zal k73_0 zaw.len (λ i=>zaS (zaw.get i))))/\∀ k79_0:Int,zac [k79_0] ≠ none->[k79_0] ∉ zbo ->
 (zc9 (k79_0 != k73_0)
 (zc9 ((zpl .i64 k79_0 k73_0) == k73_0)
 (X6 (zg8 zaa zad zac ([k73_0] :: zal) zaw.len (λ i=>zaS (zaw.get i))))
 (X7 (zki zaa zad zac zal k73_0 ([k79_0] :: zbo) zaw.len (λ i=>zaS (zaw.get i)))))
 (X7 (zki zaa zad zac zal k73_0 ([k79_0] :: zbo) zaw.len (λ i=>zaS (zaw.get i))))))
theorem zth (K : List PA → Prop) (X6 : St → Prop) (X7 : St → Prop) (zaa : (Sl Gate)) (zad : Nat) (zac : (List Int → Option (List Int))) (zal : (List (List Int))) (k73_0 : Int) (zbo : (List (List Int))) (zaw : (Sl (Sl Int))) :
  vc Tryz.prog G30 za1 (cd (cdF Tryz.f30 [1,0,1,1,1,1,1,1,0,1,0,0,1,1,0,1,0,1,0]) [0]) (zcA Tryz.prog za1 31 X7 (zaG 10 (sqK Tryz.prog G30 za1 (cdF Tryz.f30 [1,0,1,1,1,1,1,1,0,1,0,0,1,1,0,1,1]) (zaG 9 (zcA Tryz.prog za1 28 X6 (zaG 8 (sqK Tryz.prog G30 za1 (cdF Tryz.f30 [1,0,1,1,1,1,1,1,1]) (zbl (zcB Tryz.f30 24 1 24 K))))))))) (zki zaa zad zac zal k73_0 zbo zaw.len (λ i=>zaS (zaw.get i))) =
  zqD K X6 X7 zaa zad zac zal k73_0 zbo zaw:=by kernel_rfl
theorem zBp (K : List PA → Prop) (X6 : St → Prop) (zaa : (Sl Gate)) (zad : Nat) (zac : (List Int → Option (List Int))) (zal : (List (List Int))) (k73_0 : Int) (zbo : (List (List Int))) (zek : Nat) (zbC : Nat → List PV)
  (h:∀ X7:St->Prop,(∀ (zbo:(List (List Int))) (zaw:(Sl (Sl Int))),zqD K X6 X7 zaa zad zac zal k73_0 zbo zaw->X7 (zki zaa zad zac zal k73_0 zbo zaw.len (λ i=>zaS (zaw.get i))))->X7 (zki zaa zad zac zal k73_0 zbo zek zbC)) :
  zmy K X6 zaa zad zac zal k73_0 zbo zek zbC:=by
  have e:zmy K X6 zaa zad zac zal k73_0 zbo zek zbC=(∀ X:St->Prop,(∀ s,vc Tryz.prog G30 za1 (cd (cdF Tryz.f30 [1,0,1,1,1,1,1,1,0,1,0,0,1,1,0,1,0,1,0]) [0]) (zcA Tryz.prog za1 31 X (zaG 10 (sqK Tryz.prog G30 za1 (cdF Tryz.f30 [1,0,1,1,1,1,1,1,0,1,0,0,1,1,0,1,1]) (zaG 9 (zcA Tryz.prog za1 28 X6 (zaG 8 (sqK Tryz.prog G30 za1 (cdF Tryz.f30 [1,0,1,1,1,1,1,1,1]) (zbl (zcB Tryz.f30 24 1 24 K))))))))) s->X s)->X (zki zaa zad zac zal k73_0 zbo zek zbC)):=by kernel_rfl
  refine zaN e ?_
  intro X hX
  refine h X ?_
  intro zbo zaw hs
  refine hX _ ?_
  have e2:=zth K X6 X zaa zad zac zal k73_0 zbo zaw
  rw[e2]
  exact hs
theorem zJm (K : List PA → Prop) (X6 : St → Prop) (zaa : (Sl Gate)) (zad : Nat) (zac : (List Int → Option (List Int))) (zal : (List (List Int))) (k73_0 : Int) (zau : (Sl (Sl Int))) :
  zo6 K X6 zaa zad zac zal k73_0 zau.len (λ i=>zaS (zau.get i)) =
  (zmA K X6 zaa zad zac zal zau k73_0 (0:Int) 0 (λ i=>zak ((λ _=>default) i))):=by kernel_rfl
def zqE (K:List PA->Prop) (X6:St->Prop) (X9:St->Prop) (zaa:(Sl Gate)) (zad:Nat) (zac:(List Int->Option (List Int))) (zal:(List (List Int))) (zau:(Sl (Sl Int))) (k73_0:Int) (zbN:Int) (zaW:(Sl Int)):Prop :=
  (zc9 (decide (zbN < (zaa.len : Int)))
 (((0<=zbN)) /\
 (zc9 ((zpl .i64 (zwG .i64 k73_0 zbN) (1:Int)) == (1:Int))
 ((((zaW.len+1) * 8<=140737488355328/\zaW.len+1<=9223372036854775807)) /\
 (X9 (zkj zaa zad zac zal zau k73_0 (w64 (zbN+(1:Int))) (zaW.len+1) (appG zaW.len (λ i=>zak (zaW.get i)) (λ _=>(zak zbN))))))
 (X9 (zkj zaa zad zac zal zau k73_0 (w64 (zbN+(1:Int))) zaW.len (λ i=>zak (zaW.get i))))))
 ((((zau.len+1) * 24<=140737488355328/\zau.len+1<=9223372036854775807)) /\
 (X6 (zg8 zaa zad zac ([k73_0] :: zal) (zau.len+1) (appG zau.len (λ i=>zaS (zau.get i)) (λ _=>(zaS zaW)))))))
theorem zti (K : List PA → Prop) (X6 : St → Prop) (X9 : St → Prop) (zaa : (Sl Gate)) (zad : Nat) (zac : (List Int → Option (List Int))) (zal : (List (List Int))) (zau : (Sl (Sl Int))) (k73_0 : Int) (zbN : Int) (zaW : (Sl Int)) :
  vc Tryz.prog G30 za1 (cd (cdF Tryz.f30 [1,0,1,1,1,1,1,1,0,1,0,0,1,1,0,1,1,1,0,1,0]) [0]) (zcA Tryz.prog za1 36 X9 (zaG 12 (sqK Tryz.prog G30 za1 (cdF Tryz.f30 [1,0,1,1,1,1,1,1,0,1,0,0,1,1,0,1,1,1,1]) (zaG 9 (zcA Tryz.prog za1 28 X6 (zaG 8 (sqK Tryz.prog G30 za1 (cdF Tryz.f30 [1,0,1,1,1,1,1,1,1]) (zbl (zcB Tryz.f30 24 1 24 K))))))))) (zkj zaa zad zac zal zau k73_0 zbN zaW.len (λ i=>zak (zaW.get i))) =
  zqE K X6 X9 zaa zad zac zal zau k73_0 zbN zaW:=by kernel_rfl
theorem zBq (K : List PA → Prop) (X6 : St → Prop) (zaa : (Sl Gate)) (zad : Nat) (zac : (List Int → Option (List Int))) (zal : (List (List Int))) (zau : (Sl (Sl Int))) (k73_0 : Int) (zbN : Int) (zfd : Nat) (zcv : Nat → List PV)
  (h:∀ X9:St->Prop,(∀ (zbN:Int) (zaW:(Sl Int)),zqE K X6 X9 zaa zad zac zal zau k73_0 zbN zaW->X9 (zkj zaa zad zac zal zau k73_0 zbN zaW.len (λ i=>zak (zaW.get i))))->X9 (zkj zaa zad zac zal zau k73_0 zbN zfd zcv)) :
  zmA K X6 zaa zad zac zal zau k73_0 zbN zfd zcv:=by
  have e:zmA K X6 zaa zad zac zal zau k73_0 zbN zfd zcv=(∀ X:St->Prop,(∀ s,vc Tryz.prog G30 za1 (cd (cdF Tryz.f30 [1,0,1,1,1,1,1,1,0,1,0,0,1,1,0,1,1,1,0,1,0]) [0]) (zcA Tryz.prog za1 36 X (zaG 12 (sqK Tryz.prog G30 za1 (cdF Tryz.f30 [1,0,1,1,1,1,1,1,0,1,0,0,1,1,0,1,1,1,1]) (zaG 9 (zcA Tryz.prog za1 28 X6 (zaG 8 (sqK Tryz.prog G30 za1 (cdF Tryz.f30 [1,0,1,1,1,1,1,1,1]) (zbl (zcB Tryz.f30 24 1 24 K))))))))) s->X s)->X (zkj zaa zad zac zal zau k73_0 zbN zfd zcv)):=by kernel_rfl
  refine zaN e ?_
  intro X hX
  refine h X ?_
  intro zbN zaW hs
  refine hX _ ?_
  have e2:=zti K X6 X zaa zad zac zal zau k73_0 zbN zaW
  rw[e2]
  exact hs
@[reducible] def e30 (r:(Sl (Sl Int))):List PA:=[.one (.sl r.len 1 (λ i=>zaS (r.get i)))]
attribute [irreducible] zms zmt zmu zmv zo5 zmw zmx zmy zo6 zmA
def zmB (S6:(Sl (Sl Int))->(Sl (Sl Int))) (zaa:(Sl Gate)) (zad:Nat) (zac:(List Int->Option (List Int))) (zau:(Sl (Sl Int))) (k73_0:Int) (S9:Int->(Sl Int)->(Sl (Sl Int))) (zbN:Int) (zaW:(Sl Int)):(Sl (Sl Int)) :=
  (cond (decide (zbN < (zaa.len : Int)))
 (cond ((zpl .i64 (zwG .i64 k73_0 zbN) (1:Int)) == (1:Int))
 (S9 (w64 (zbN+(1:Int))) (⟨(zaW.len+1),(zgv zaW.len zaW.get (λ _=>zbN))⟩:Sl Int))
 (S9 (w64 (zbN+(1:Int))) zaW))
 (S6 (⟨(zau.len+1),(zgv zau.len zau.get (λ _=>zaW))⟩:Sl (Sl Int))))
def zmC (P6:(Sl (Sl Int))->Bool) (zaa:(Sl Gate)) (zad:Nat) (zac:(List Int->Option (List Int))) (zau:(Sl (Sl Int))) (k73_0:Int) (P9:Int->(Sl Int)->Bool) (zbN:Int) (zaW:(Sl Int)):Bool :=
  (cond (decide (zbN < (zaa.len : Int)))
 (decide ((0<=zbN)) &&
 (cond ((zpl .i64 (zwG .i64 k73_0 zbN) (1:Int)) == (1:Int))
 (decide (((zaW.len+1) * 8<=140737488355328/\zaW.len+1<=9223372036854775807)) &&
 (P9 (w64 (zbN+(1:Int))) (⟨(zaW.len+1),(zgv zaW.len zaW.get (λ _=>zbN))⟩:Sl Int)))
 (P9 (w64 (zbN+(1:Int))) zaW)))
 (decide (((zau.len+1) * 24<=140737488355328/\zau.len+1<=9223372036854775807)) &&
 (P6 (⟨(zau.len+1),(zgv zau.len zau.get (λ _=>zaW))⟩:Sl (Sl Int)))))
def zeY (S6 : (Sl (Sl Int)) → (Sl (Sl Int))) (zaa : (Sl Gate)) (zad : Nat) (zac : (List Int → Option (List Int))) (zau : (Sl (Sl Int))) (k73_0 : Int) : Nat → Int → (Sl Int) → (Sl (Sl Int))
  | 0=>λ _ _=>default
  | k+1=>zmB S6 zaa zad zac zau k73_0 (zeY S6 zaa zad zac zau k73_0 k)
def zeZ (P6 : (Sl (Sl Int)) → Bool) (zaa : (Sl Gate)) (zad : Nat) (zac : (List Int → Option (List Int))) (zau : (Sl (Sl Int))) (k73_0 : Int) : Nat → Int → (Sl Int) → Bool
  | 0=>λ _ _=>false
  | k+1=>zmC P6 zaa zad zac zau k73_0 (zeZ P6 zaa zad zac zau k73_0 k)
def zBr (S6:(Sl (Sl Int))->(Sl (Sl Int))) (zaa:(Sl Gate)) (zad:Nat) (zac:(List Int->Option (List Int))) (zau:(Sl (Sl Int))) (k73_0:Int) (zbN:Int) (zaW:(Sl Int)):(Sl (Sl Int)):=zeY S6 zaa zad zac zau k73_0 Fuel zbN zaW
def zBs (P6:(Sl (Sl Int))->Bool) (zaa:(Sl Gate)) (zad:Nat) (zac:(List Int->Option (List Int))) (zau:(Sl (Sl Int))) (k73_0:Int) (zbN:Int) (zaW:(Sl Int)):Bool:=zeZ P6 zaa zad zac zau k73_0 Fuel zbN zaW
theorem zJn (K : List PA → Prop) (zaa : (Sl Gate)) (zad : Nat) (zac : (List Int → Option (List Int))) (zal : (List (List Int))) (zau : (Sl (Sl Int))) (k73_0 : Int)
  (X6:St->Prop) (P6:(Sl (Sl Int))->Bool) (S6:(Sl (Sl Int))->(Sl (Sl Int)))
  (hX6:∀ (zao:(Sl (Sl Int))) (za0:Nat->List PV) (zdi:za0=λ i=>zaS (zao.get i)),P6 zao=true->K (e30 (S6 zao))->X6 (zg8 zaa zad zac ([k73_0] :: zal) zao.len za0)) (zbN:Int) (zaW:(Sl Int)) (zcv:Nat->List PV) (ziQ:zcv=λ i=>zak (zaW.get i)) (hs:zBs P6 zaa zad zac zau k73_0 zbN zaW=true) (hk:K (e30 (zBr S6 zaa zad zac zau k73_0 zbN zaW))):zmA K X6 zaa zad zac zal zau k73_0 zbN zaW.len zcv:=by
  refine zBq K X6 zaa zad zac zal zau k73_0 zbN zaW.len zcv ?_
  intro X9 hstep
  have key:∀ (k:Nat) (zbN:Int) (zaW:(Sl Int)) (zcv:Nat->List PV) (ziQ:zcv=λ i=>zak (zaW.get i)),zeZ P6 zaa zad zac zau k73_0 k zbN zaW=true->K (e30 (zeY S6 zaa zad zac zau k73_0 k zbN zaW))->X9 (zkj zaa zad zac zal zau k73_0 zbN zaW.len zcv):=by
    intro k
    induction k with
    | zero=>intro zbN zaW zcv ziQ hs;exact absurd hs dqk
    | succ k ih =>
      intro zbN zaW zcv ziQ hs hk
      subst ziQ
      refine hstep zbN zaW ?_
      have hs:zmC P6 zaa zad zac zau k73_0 (zeZ P6 zaa zad zac zau k73_0 k) zbN zaW=true:=hs
      have hk:K (e30 (zmB S6 zaa zad zac zau k73_0 (zeY S6 zaa zad zac zau k73_0 k) zbN zaW)):=hk
      unfold zmC at hs
      unfold zmB at hk
      generalize zeY S6 zaa zad zac zau k73_0 k=S9 at hk ih
      generalize zeZ P6 zaa zad zac zau k73_0 k=P9 at hs ih
      have hX9:=ih
      exact (zb6 (K := λ r => K (e30 r))
 (λ hs hk => (zaI hs λ hc hs => ⟨hc, (zb6 (K := λ r => K (e30 r))
 (λ hs hk=>(zaI hs λ hc hs=>⟨hc,(hX9 (w64 (zbN+(1:Int))) (⟨(zaW.len+1),(zgv zaW.len zaW.get (λ _=>zbN))⟩:Sl Int) (appG zaW.len (λ i=>zak (zaW.get i)) (λ _=>(zak zbN))) (zhA (enc:=zak) (f:=zaW.get) (h:=(λ _=>zbN)) rfl rfl) hs hk)⟩))
 (λ hs hk=>(hX9 (w64 (zbN+(1:Int))) zaW (λ i=>zak (zaW.get i)) rfl hs hk)) hs hk)⟩))
 (fun hs hk=>(zaI hs fun hc hs=>⟨hc,(hX6 (⟨(zau.len+1),(zgv zau.len zau.get (fun _=>zaW))⟩:Sl (Sl Int)) (appG zau.len (fun i=>zaS (zau.get i)) (fun _=>(zaS zaW))) (zhA (enc:=zaS) (f:=zau.get) (h:=(fun _=>zaW)) rfl rfl) hs hk)⟩)) hs hk)
  exact key _ zbN zaW zcv ziQ hs hk
def ztj (S6:(Sl (Sl Int))->(Sl (Sl Int))) (zaa:(Sl Gate)) (zad:Nat) (zac:(List Int->Option (List Int))) (k73_0:Int) (zau:(Sl (Sl Int))):(Sl (Sl Int)) :=
  (zBr S6 zaa zad zac zau k73_0 (0:Int) (⟨0,(λ _=>default)⟩:Sl Int))
def ztk (P6:(Sl (Sl Int))->Bool) (zaa:(Sl Gate)) (zad:Nat) (zac:(List Int->Option (List Int))) (k73_0:Int) (zau:(Sl (Sl Int))):Bool :=
  (zBs P6 zaa zad zac zau k73_0 (0:Int) (⟨0,(λ _=>default)⟩:Sl Int))
theorem zJo (K : List PA → Prop) (zaa : (Sl Gate)) (zad : Nat) (zac : (List Int → Option (List Int))) (zal : (List (List Int))) (k73_0 : Int)
  (X6:St->Prop) (P6:(Sl (Sl Int))->Bool) (S6:(Sl (Sl Int))->(Sl (Sl Int)))
  (hX6:∀ (zao:(Sl (Sl Int))) (za0:Nat->List PV) (zdi:za0=λ i=>zaS (zao.get i)),P6 zao=true->K (e30 (S6 zao))->X6 (zg8 zaa zad zac ([k73_0] :: zal) zao.len za0)) (zau:(Sl (Sl Int))) (zfE:Nat->List PV) (zBt:zfE=λ i=>zaS (zau.get i)) (hs:ztk P6 zaa zad zac k73_0 zau=true) (hk:K (e30 (ztj S6 zaa zad zac k73_0 zau))):zo6 K X6 zaa zad zac zal k73_0 zau.len zfE:=by
  subst zBt
  refine zaN (zJm K X6 zaa zad zac zal k73_0 zau) ?_
  unfold ztk at hs
  unfold ztj at hk
  exact (zJn K zaa zad zac zal zau k73_0 X6 P6 S6 hX6 (0:Int) (⟨0,(λ _=>default)⟩:Sl Int) (λ i=>zak ((λ _=>default) i)) rfl hs hk)
def zmD (S6:(Sl (Sl Int))->(Sl (Sl Int))) (zaa:(Sl Gate)) (zad:Nat) (zac:(List Int->Option (List Int))) (k73_0:Int) (zaw:(Sl (Sl Int))):(Sl (Sl Int)) :=
  (ztj S6 zaa zad zac k73_0 zaw)
def zmE (P6:(Sl (Sl Int))->Bool) (zaa:(Sl Gate)) (zad:Nat) (zac:(List Int->Option (List Int))) (k73_0:Int) (zaw:(Sl (Sl Int))):Bool :=
  (ztk P6 zaa zad zac k73_0 zaw)
def zmF (S6:(Sl (Sl Int))->(Sl (Sl Int))) (zaa:(Sl Gate)) (zad:Nat) (zac:(List Int->Option (List Int))) (k73_0:Int) (k79_0:Int) (S7:(Sl (Sl Int))->(Sl (Sl Int))) (zaw:(Sl (Sl Int))):(Sl (Sl Int)) :=
  (cond (k79_0 != k73_0)
 (cond ((zpl .i64 k79_0 k73_0) == k73_0)
 (S6 zaw)
 (S7 zaw))
 (S7 zaw))
def zmG (P6:(Sl (Sl Int))->Bool) (zaa:(Sl Gate)) (zad:Nat) (zac:(List Int->Option (List Int))) (k73_0:Int) (k79_0:Int) (P7:(Sl (Sl Int))->Bool) (zaw:(Sl (Sl Int))):Bool :=
  (cond (k79_0 != k73_0)
 (cond ((zpl .i64 k79_0 k73_0) == k73_0)
 (P6 zaw)
 (P7 zaw))
 (P7 zaw))
def zeq (S6 : (Sl (Sl Int)) → (Sl (Sl Int))) (zaa : (Sl Gate)) (zad : Nat) (zac : (List Int → Option (List Int))) (k73_0 : Int) : List (List Int) → (Sl (Sl Int)) → (Sl (Sl Int))
  | []=>zmD S6 zaa zad zac k73_0
  | y :: r=>zmF S6 zaa zad zac k73_0 (y.getD 0 0) (zeq S6 zaa zad zac k73_0 r)
def ze0 (P6 : (Sl (Sl Int)) → Bool) (zaa : (Sl Gate)) (zad : Nat) (zac : (List Int → Option (List Int))) (k73_0 : Int) : List (List Int) → (Sl (Sl Int)) → Bool
  | []=>zmE P6 zaa zad zac k73_0
  | y :: r=>zmG P6 zaa zad zac k73_0 (y.getD 0 0) (ze0 P6 zaa zad zac k73_0 r)
def zjF (zaa:Sl Gate) (n:Nat) (F:List Int->Option (List Int)) (k:Int) (ys:List (List Int)):Bool:=true
theorem zJp (zaa:Sl Gate) (n:Nat) (F:List Int->Option (List Int)) (k:Int):∀ (y:List Int) (r:List (List Int)),zjF zaa n F k (y :: r)=true->zjF zaa n F k r=true:=λ _ _ _=>rfl
section ord7
variable (P6:Sl (Sl Int)->Bool) (S6:Sl (Sl Int)->Sl (Sl Int)) (zaa:Sl Gate) (n:Nat) (F:List Int->Option (List Int)) (k:Int)
theorem zu8 : ∀ (ys : List (List Int)) (v : Sl (Sl Int)), ze0 P6 zaa n F k ys v = cond (ys.any (zwt k)) (P6 v) (zmE P6 zaa n F k v) ∧ zeq S6 zaa n F k ys v = cond (ys.any (zwt k)) (S6 v) (zmD S6 zaa n F k v)
  | [],v=>⟨rfl,rfl⟩
  | y :: r,v=>by
    obtain⟨i1,i2⟩:=zu8 r v
    have e1:ze0 P6 zaa n F k (y :: r) v=zmG P6 zaa n F k (y.getD 0 0) (ze0 P6 zaa n F k r) v:=rfl
    have e2:zeq S6 zaa n F k (y :: r) v=zmF S6 zaa n F k (y.getD 0 0) (zeq S6 zaa n F k r) v:=rfl
    rw[e1,e2,List.any_cons,show zwt k y=((y.getD 0 0 != k) && (zpl .i64 (y.getD 0 0) k == k)) from rfl]
    unfold zmG zmF
    rw[i1,i2]
    cases h1:(y.getD 0 0 != k) <;> cases h2:(zpl .i64 (y.getD 0 0) k == k) <;> simp only[cond_true,cond_false,Bool.true_and,Bool.false_and,Bool.true_or,Bool.false_or,and_self]
theorem zJq (ys zs : List (List Int)) (_hl : ∀ y ∈ ys, y.length = 1) (_h : zjF zaa n F k ys = true) (hp : ys.Perm zs) :
    zjF zaa n F k zs=true/\∀ v:Sl (Sl Int),ze0 P6 zaa n F k ys v=true->ze0 P6 zaa n F k zs v=true/\zeq S6 zaa n F k ys v=zeq S6 zaa n F k zs v:=by
  refine⟨rfl,λ v hs=>?_⟩
  obtain⟨a1,a2⟩:=zu8 P6 S6 zaa n F k ys v
  obtain⟨b1,b2⟩:=zu8 P6 S6 zaa n F k zs v
  rw[<- zwu hp] at b1 b2
  rw[a1] at hs
  rw[b1,b2,a2]
  exact⟨hs,rfl⟩
end ord7
def ztl (S6:(Sl (Sl Int))->(Sl (Sl Int))) (zaa:(Sl Gate)) (zad:Nat) (zac:(List Int->Option (List Int))) (k73_0:Int) (zaw:(Sl (Sl Int))):(Sl (Sl Int)):=zeq S6 zaa zad zac k73_0 (zcR zac) zaw
def ztm (P6:(Sl (Sl Int))->Bool) (zaa:(Sl Gate)) (zad:Nat) (zac:(List Int->Option (List Int))) (k73_0:Int) (zaw:(Sl (Sl Int))):Bool:=keysB 1 zad zac (zcR zac) && zjF zaa zad zac k73_0 (zcR zac) && ze0 P6 zaa zad zac k73_0 (zcR zac) zaw
theorem zJr (K : List PA → Prop) (zaa : (Sl Gate)) (zad : Nat) (zac : (List Int → Option (List Int))) (zal : (List (List Int))) (k73_0 : Int)
  (X6:St->Prop) (P6:(Sl (Sl Int))->Bool) (S6:(Sl (Sl Int))->(Sl (Sl Int)))
  (hX6:∀ (zao:(Sl (Sl Int))) (za0:Nat->List PV) (zdi:za0=λ i=>zaS (zao.get i)),P6 zao=true->K (e30 (S6 zao))->X6 (zg8 zaa zad zac ([k73_0] :: zal) zao.len za0)) (zaw:(Sl (Sl Int))) (zbC:Nat->List PV) (zel:zbC=λ i=>zaS (zaw.get i)) (hs:ztm P6 zaa zad zac k73_0 zaw=true) (hk:K (e30 (ztl S6 zaa zad zac k73_0 zaw))):zmy K X6 zaa zad zac zal k73_0 [] zaw.len zbC:=by
  unfold ztm at hs
  rw[dqm,dqm] at hs
  obtain⟨⟨hkeys,hI⟩,hs⟩:=hs
  have ek:ztl S6 zaa zad zac k73_0 zaw=zeq S6 zaa zad zac k73_0 (zcR zac) zaw:=rfl
  rw[ek] at hk
  generalize hys:zcR zac=ys0 at hkeys hI hs hk
  refine zBp K X6 zaa zad zac zal k73_0 [] zaw.len zbC ?_
  intro X7 hstep
  have key:∀ (N:Nat) (ys:List (List Int)) (zbo:List (List Int)) (zaw:(Sl (Sl Int))) (zbC:Nat->List PV) (zel:zbC=λ i=>zaS (zaw.get i)),ys.length=N->(zCQ 1 zad zac->zGD 1 zac zbo ys)->zjF zaa zad zac k73_0 ys=true->ze0 P6 zaa zad zac k73_0 ys zaw=true->K (e30 (zeq S6 zaa zad zac k73_0 ys zaw))->X7 (zki zaa zad zac zal k73_0 zbo zaw.len zbC):=by
    intro N
    induction N with
    | zero =>
      intro ys zbo zaw zbC zel hN hrem hI hs hk
      subst zel
      obtain rfl:=List.eq_nil_of_length_eq_zero hN
      refine hstep zbo zaw ?_
      intro hfin
      have hrem:=hrem hfin
      refine⟨λ _=>?_,λ k79_0 hF hns=>absurd (hrem.2.2 [k79_0] rfl hF hns) (by simp)⟩
      have hs:zmE P6 zaa zad zac k73_0 zaw=true:=hs
      have hk:K (e30 (zmD S6 zaa zad zac k73_0 zaw)):=hk
      unfold zmE at hs
      unfold zmD at hk
      exact (zJo K zaa zad zac zal k73_0 X6 P6 S6 hX6 zaw (λ i=>zaS (zaw.get i)) rfl hs hk)
    | succ N ih =>
      intro ys zbo zaw zbC zel hN hrem hI hs hk
      subst zel
      refine hstep zbo zaw ?_
      intro hfin
      have hrem:=hrem hfin
      refine⟨λ hend=>?_,λ k79_0 hF hns=>?_⟩
      · exact absurd (zrL hrem hend) (λ e=>by rw[e] at hN;simp at hN)
      · obtain ⟨hperm, hrem2, hlen⟩ := zox hrem (c := [k79_0]) rfl hF hns
        obtain⟨hI2,hcond⟩:=zJq P6 S6 zaa zad zac k73_0 ys _ (λ y hy=>(hrem.2.1 y hy).1) hI hperm
        have hI3:=zJp zaa zad zac k73_0 _ _ hI2
        obtain⟨e2,e1⟩:=hcond zaw hs
        have hs:=e2
        rw[e1] at hk
        have hs:zmG P6 zaa zad zac k73_0 k79_0 (ze0 P6 zaa zad zac k73_0 (ys.erase [k79_0])) zaw=true:=hs
        have hk:K (e30 (zmF S6 zaa zad zac k73_0 k79_0 (zeq S6 zaa zad zac k73_0 (ys.erase [k79_0])) zaw)):=hk
        have ih:=λ (zaw:(Sl (Sl Int))) (zbC:Nat->List PV) (zel:zbC=λ i=>zaS (zaw.get i))=>ih (ys.erase [k79_0]) ([k79_0] :: zbo) zaw zbC zel (by omega) (λ _=>hrem2) hI3
        unfold zmG at hs
        unfold zmF at hk
        generalize zeq S6 zaa zad zac k73_0 (ys.erase [k79_0])=S7 at hk ih
        generalize ze0 P6 zaa zad zac k73_0 (ys.erase [k79_0])=P7 at hs ih
        have hX7:=ih
        exact (zb6 (K := λ r => K (e30 r))
 (λ hs hk => (zb6 (K := λ r => K (e30 r))
 (λ hs hk=>(hX6 zaw (λ i=>zaS (zaw.get i)) rfl hs hk))
 (λ hs hk=>(hX7 zaw (λ i=>zaS (zaw.get i)) rfl hs hk)) hs hk))
 (fun hs hk=>(hX7 zaw (fun i=>zaS (zaw.get i)) rfl hs hk)) hs hk)
  exact key _ ys0 [] zaw zbC zel rfl (λ hf=>zlM hkeys hf) hI hs hk
def zg9 (zaa:(Sl Gate)) (zad:Nat) (zac:(List Int->Option (List Int))) (zao:(Sl (Sl Int))):(Sl (Sl Int)) :=
  (⟨zao.len,(zgp zao.len (λ i j=>(s59 (zao.get i) (zao.get j))) zao.get)⟩:(Sl (Sl Int)))
def zgd (zaa:(Sl Gate)) (zad:Nat) (zac:(List Int->Option (List Int))) (zao:(Sl (Sl Int))):Bool :=
  (decide ((zao.len<=4611686018427387)/\(sortB zao.len (λ i j=>decide (p59 (zao.get i) (zao.get j)=true)) (λ i j=>(s59 (zao.get i) (zao.get j)))=true)) &&
 true)
def zjG (zaa:(Sl Gate)) (zad:Nat) (zac:(List Int->Option (List Int))) (k73_0:Int) (S6:(Sl (Sl Int))->(Sl (Sl Int))) (zao:(Sl (Sl Int))):(Sl (Sl Int)) :=
  (ztl S6 zaa zad zac k73_0 zao)
def zh7 (zaa:(Sl Gate)) (zad:Nat) (zac:(List Int->Option (List Int))) (k73_0:Int) (P6:(Sl (Sl Int))->Bool) (zao:(Sl (Sl Int))):Bool :=
  (ztm P6 zaa zad zac k73_0 zao)
def zdr (zaa : (Sl Gate)) (zad : Nat) (zac : (List Int → Option (List Int))) : List (List Int) → (Sl (Sl Int)) → (Sl (Sl Int))
  | []=>zg9 zaa zad zac
  | y :: r=>zjG zaa zad zac (y.getD 0 0) (zdr zaa zad zac r)
def zcJ (zaa : (Sl Gate)) (zad : Nat) (zac : (List Int → Option (List Int))) : List (List Int) → (Sl (Sl Int)) → Bool
  | []=>zgd zaa zad zac
  | y :: r=>zh7 zaa zad zac (y.getD 0 0) (zcJ zaa zad zac r)
def zha (zaa:Sl Gate) (n:Nat) (F:List Int->Option (List Int)) (ys:List (List Int)):Bool:=true
theorem zJs (zaa:Sl Gate) (n:Nat) (F:List Int->Option (List Int)):∀ (y:List Int) (r:List (List Int)),zha zaa n F (y :: r)=true->zha zaa n F r=true:=λ _ _ _=>rfl
def zOL (m:Nat):Bool:=decide ((m+1) * 24<=140737488355328/\m+1<=9223372036854775807)
def zNt (P6 : Sl (Sl Int) → Bool) (v : Sl (Sl Int)) : Option (Sl Int) → Bool
  | none=>false
  | some x=>zOL v.len && P6 (zqw v x)
theorem zBu (P6:Sl (Sl Int)->Bool) (S6:Sl (Sl Int)->Sl (Sl Int)) (zaa:Sl Gate) (n:Nat) (F:List Int->Option (List Int)) (v:Sl (Sl Int)) (k:Int):∀ (f:Nat) (t:Int) (o:Sl Int),
    zeZ P6 zaa n F v k f t o=zNt P6 v (zkt zaa k f t o)/\∀ x,zkt zaa k f t o=some x->zeY S6 zaa n F v k f t o=S6 (zqw v x)
  | 0,t,o=>by
    have e0:zkt zaa k 0 t o=none:=rfl
    have e1:zeZ P6 zaa n F v k 0 t o=false:=rfl
    rw[e0,e1]
    exact And.intro rfl (λ x hx=>by cases hx)
  | f+1,t,o=>by
    have i1:=zBu P6 S6 zaa n F v k f (w64 (t+(1:Int))) o
    have i2:=zBu P6 S6 zaa n F v k f (w64 (t+(1:Int))) ⟨o.len+1,zgv o.len o.get (λ _=>t)⟩
    have e1:zeZ P6 zaa n F v k (f+1) t o=zmC P6 zaa n F v k (zeZ P6 zaa n F v k f) t o:=rfl
    have e2:zeY S6 zaa n F v k (f+1) t o=zmB S6 zaa n F v k (zeY S6 zaa n F v k f) t o:=rfl
    rw[e1,e2]
    unfold zkt zmC zmB
    generalize decide (t < (zaa.len:Int))=b1
    generalize decide (0<=t)=b2
    generalize ((zpl .i64 (zwG .i64 k t) (1:Int)) == (1:Int))=b3
    generalize decide ((o.len+1) * 8<=140737488355328/\o.len+1<=9223372036854775807)=b4
    generalize zeZ P6 zaa n F v k f=q at i1 i2 ⊢
    generalize zeY S6 zaa n F v k f=s at i1 i2 ⊢
    generalize zkt zaa k f=g at i1 i2 ⊢
    cases b1
    · exact And.intro rfl (λ x hx=>by cases hx;rfl)
    cases b2
    · exact And.intro rfl (λ x hx=>by cases hx)
    cases b3
    · exact i1
    cases b4
    · exact And.intro rfl (λ x hx=>by cases hx)
    · exact i2
def zc5 (F:List Int->Option (List Int)) (y:List Int):Bool:=!(zcR F).any (zwt (y.getD 0 0))
def zqY (zaa:Sl Gate) (F:List Int->Option (List Int)) (y:List Int) (v:Sl (Sl Int)):Sl (Sl Int):=cond (zc5 F y) (zqw v ((zg7 zaa (y.getD 0 0)).getD default)) v
def apG {α β : Type} (f : α → β → β) : List α → β → β
  | [],v=>v
  | y :: r,v=>apG f r (f y v)
theorem zJt {α β:Type}(f:α->β->β) (v:β):apG f [] v=v:=rfl
theorem zD2 {α β:Type}(f:α->β->β) (y:α) (r:List α) (v:β):apG f (y :: r) v=apG f r (f y v):=rfl
def zkS (zaa:Sl Gate) (F:List Int->Option (List Int)) (ys:List (List Int)) (v:Sl (Sl Int)):Sl (Sl Int):=apG (zqY zaa F) ys v
theorem zqF (zaa:Sl Gate) (F:List Int->Option (List Int)) (v:Sl (Sl Int)):zkS zaa F [] v=v:=zJt _ v
theorem zqG (zaa:Sl Gate) (F:List Int->Option (List Int)) (y:List Int) (r:List (List Int)) (v:Sl (Sl Int)):zkS zaa F (y :: r) v=zkS zaa F r (zqY zaa F y v):=zD2 _ y r v
def zKr (zaa:Sl Gate) (n:Nat) (F:List Int->Option (List Int)) (y:List Int):Prop:=keysB 1 n F (zcR F)=true/\(zc5 F y=true->(zg7 zaa (y.getD 0 0)).isSome=true)
section ord6
variable (zaa:Sl Gate) (n:Nat) (F:List Int->Option (List Int))
theorem zBv (P : Sl (Sl Int) → Bool) (S : Sl (Sl Int) → Sl (Sl Int)) (y : List Int) (v : Sl (Sl Int)) :
    zh7 zaa n F (y.getD 0 0) P v=(keysB 1 n F (zcR F) && cond (zc5 F y) (zNt P v (zg7 zaa (y.getD 0 0))) (P v)) /\
    (zKr zaa n F y->zjG zaa n F (y.getD 0 0) S v=S (zqY zaa F y v)):=by
  unfold zKr zqY zc5
  generalize y.getD 0 0=k
  have e1:zh7 zaa n F k P v=(keysB 1 n F (zcR F) && true && ze0 P zaa n F k (zcR F) v):=rfl
  have e2:zjG zaa n F k S v=zeq S zaa n F k (zcR F) v:=rfl
  have h7:=zu8 P S zaa n F k (zcR F) v
  have h9:=zBu P S zaa n F v k Fuel 0 ⟨0,λ _=>default⟩
  have e3:zkt zaa k Fuel 0 ⟨0,λ _=>default⟩=zg7 zaa k:=rfl
  have e4:zmE P zaa n F k v=zeZ P zaa n F v k Fuel 0 ⟨0,λ _=>default⟩:=rfl
  have e5:zmD S zaa n F k v=zeY S zaa n F v k Fuel 0 ⟨0,λ _=>default⟩:=rfl
  rw[e3] at h9
  rw[e1,e2,h7.1,h7.2,e4,e5,h9.1,Bool.and_true]
  have h9:=h9.2
  clear e1 e2 e3 e4 e5 h7
  generalize zeY S zaa n F v k Fuel 0 ⟨0,λ _=>default⟩=s at h9 ⊢
  generalize zg7 zaa k=o at h9 ⊢
  generalize (zcR F).any (zwt k)=b
  cases b
  · refine And.intro rfl (fun h => ?_)
    obtain⟨x,hx⟩:=Option.isSome_iff_exists.1 (h.2 rfl)
    subst hx
    exact h9 x rfl
  · exact And.intro rfl (λ _=>rfl)
theorem zo7 (y:List Int) (v:Sl (Sl Int)):(zqY zaa F y v).len=v.len+(cond (zc5 F y) 1 0):=by
  unfold zqY
  cases zc5 F y <;> rfl
theorem zBw (y:List Int) (r:List (List Int)):((y :: r).filter (zc5 F)).length=(cond (zc5 F y) 1 0)+(r.filter (zc5 F)).length:=by
  rw[List.filter_cons]
  cases zc5 F y
  · show _=0+_;rw[Nat.zero_add];rfl
  · show (_ :: _).length=1+_;rw[dqr,Nat.add_comm]
theorem zhp (ys:List (List Int)):∀ (v:Sl (Sl Int)),(zkS zaa F ys v).len=v.len+(ys.filter (zc5 F)).length:=by
  induction ys with
  | nil=>intro v;rw[zqF,List.filter_nil,dqL,Nat.add_zero]
  | cons y r ih=>intro v;rw[zqG,ih,zo7,zBw,Nat.add_assoc]
theorem zSa (ys:List (List Int)):∀ (v:Sl (Sl Int)),zcJ zaa n F ys v=true->(∀ y∈ys,zKr zaa n F y)/\(0 < (ys.filter (zc5 F)).length->(zkS zaa F ys v).len * 24<=140737488355328)/\zgd zaa n F (zkS zaa F ys v)=true:=by
  induction ys with
  | nil =>
    intro v h
    have e0:=zqF zaa F v
    exact And.intro (λ y hy=>by cases hy) (And.intro (λ h=>absurd h (by simp)) (e0.symm ▸ h))
  | cons y r ih =>
    intro v h
    have e1:zcJ zaa n F (y :: r) v=zh7 zaa n F (y.getD 0 0) (zcJ zaa n F r) v:=rfl
    have e:=zqG zaa F y r v
    rw[e1,(zBv zaa n F (zcJ zaa n F r) (zdr zaa n F r) y v).1,dqm] at h
    obtain⟨hk,h⟩:=h
    have key:zcJ zaa n F r (zqY zaa F y v)=true/\(zc5 F y=true->(zg7 zaa (y.getD 0 0)).isSome=true/\(v.len+1) * 24<=140737488355328):=by
      unfold zqY
      generalize zg7 zaa (y.getD 0 0)=o at h ⊢
      generalize zcJ zaa n F r=P at h ⊢
      cases hb:zc5 F y
      · rw [hb] at h
        exact And.intro h (λ e=>by cases e)
      · rw [hb] at h
        cases o with
        | none=>cases h
        | some x =>
          have h:(zOL v.len && P (zqw v x))=true:=h
          rw[dqm] at h
          exact And.intro h.2 (λ _=>And.intro rfl (of_decide_eq_true h.1).1)
    obtain⟨i1,i2,i3⟩:=ih _ key.1
    rw[e]
    refine⟨λ z hz=>?_,λ h0=>?_,i3⟩
    · rcases dqq.1 hz with rfl | hz
      · exact And.intro hk (λ e=>(key.2 e).1)
      · exact i1 z hz
    · by_cases h1 : 0 < (r.filter (zc5 F)).length
      · exact i2 h1
      · rw [zBw] at h0
        rw[zhp,zo7]
        cases hb:zc5 F y
        · rw [hb] at h0
          have h0:0 < 0+(r.filter (zc5 F)).length:=h0
          omega
        · have h2 := (key.2 hb).2
          show (v.len+1+_) * 24<=_
          have h3:(r.filter (zc5 F)).length=0:=by omega
          rw[h3,Nat.add_zero]
          exact h2
theorem zOM (ys:List (List Int)):∀ (v:Sl (Sl Int)),(∀ y∈ys,zKr zaa n F y)->(0 < (ys.filter (zc5 F)).length->(zkS zaa F ys v).len * 24<=140737488355328)->zgd zaa n F (zkS zaa F ys v)=true ->
    zcJ zaa n F ys v=true/\zdr zaa n F ys v=zg9 zaa n F (zkS zaa F ys v):=by
  induction ys with
  | nil =>
    intro v _ _ h
    have e0:=zqF zaa F v
    generalize zkS zaa F [] v=w at h e0 ⊢
    subst e0
    exact And.intro h rfl
  | cons y r ih =>
    intro v hg hl he
    have hy:=hg y dqj
    have e1:zcJ zaa n F (y :: r) v=zh7 zaa n F (y.getD 0 0) (zcJ zaa n F r) v:=rfl
    have e2:zdr zaa n F (y :: r) v=zjG zaa n F (y.getD 0 0) (zdr zaa n F r) v:=rfl
    have e:=zqG zaa F y r v
    rw[e1,e2,(zBv zaa n F (zcJ zaa n F r) (zdr zaa n F r) y v).1,(zBv zaa n F (zcJ zaa n F r) (zdr zaa n F r) y v).2 hy,hy.1,Bool.true_and,e]
    rw[e] at hl he
    obtain⟨i1,i2⟩:=ih (zqY zaa F y v) (λ z hz=>hg z (dqf _ hz)) (λ h0=>hl (by rw[zBw];omega)) he
    refine And.intro ?_ i2
    have hy2:=hy.2
    unfold zqY at i1
    have hlen:zc5 F y=true->(v.len+1) * 24<=140737488355328:=λ hb=>by
      have h1:=hl (by rw[zBw,hb];show 0 < 1+_;omega)
      rw[zhp,zo7,hb] at h1
      have h1:(v.len+1+(r.filter (zc5 F)).length) * 24<=140737488355328:=h1
      omega
    clear hl he i2 e1 e2 e
    generalize zg7 zaa (y.getD 0 0)=o at i1 hy2 ⊢
    generalize zcJ zaa n F r=P at i1 ⊢
    cases hb:zc5 F y
    · rw[hb] at i1;exact i1
    · obtain ⟨x, hx⟩ := Option.isSome_iff_exists.1 (hy2 hb)
      subst hx
      rw[hb] at i1
      have h2:=hlen hb
      show (zOL v.len && P (zqw v x))=true
      have h3:zOL v.len=true:=decide_eq_true (And.intro h2 (by omega))
      rw[h3,Bool.true_and]
      exact i1
theorem zD3 (x:Sl Int) (v:Sl (Sl Int)) (L:List (Sl Int)) (h:IsL v.len v.get L):IsL (zqw v x).len (zqw v x).get (L ++ [x]):=by
  obtain⟨h1,h2⟩:=h
  refine And.intro ?_ (λ k hk=>?_)
  · show v.len + 1 = _
    rw[dqu,List.length_singleton,h1]
  · show (match Nat.ble v.len k with | true => x | false => v.get k) = _
    rw[dqu,List.length_singleton] at hk
    by_cases hq:k < L.length
    · have e : Nat.ble v.len k = false := Bool.eq_false_iff.2 fun e => by have := Nat.le_of_ble_eq_true e; omega
      rw[e,List.getElem_append_left hq]
      exact h2 k hq
    · have e : Nat.ble v.len k = true := Nat.ble_eq_true_of_le (by omega)
      rw[e,List.getElem_append_right (by omega)]
      simp
theorem ztn (ys:List (List Int)):∀ (v:Sl (Sl Int)) (L:List (Sl Int)),IsL v.len v.get L->IsL (zkS zaa F ys v).len (zkS zaa F ys v).get (L ++ (ys.filter (zc5 F)).map λ y=>(zg7 zaa (y.getD 0 0)).getD default):=by
  induction ys with
  | nil =>
    intro v L h
    have e:=zqF zaa F v
    rw[e,List.filter_nil,List.map_nil,List.append_nil];exact h
  | cons y r ih =>
    intro v L h
    have e:=zqG zaa F y r v
    rw[e,List.filter_cons]
    cases hb:zc5 F y
    · have e2 : zqY zaa F y v = v := by unfold zqY; rw [hb]; rfl
      rw[e2]
      exact ih v L h
    · have e2 : zqY zaa F y v = zqw v ((zg7 zaa (y.getD 0 0)).getD default) := by unfold zqY; rw [hb]; rfl
      rw[e2,if_pos rfl,dqK,List.append_cons]
      exact ih _ _ (zD3 _ v L h)
theorem zu9 (ys:List (List Int)):∀ (v:Sl (Sl Int)),(ys.filter (zc5 F)).length=0->zkS zaa F ys v=v:=by
  induction ys with
  | nil =>
    intro v _
    exact zqF zaa F v
  | cons y r ih =>
    intro v h
    have e:=zqG zaa F y r v
    rw[zBw] at h
    cases hb:zc5 F y
    · have e2 : zqY zaa F y v = v := by unfold zqY; rw [hb]; rfl
      rw[e,e2]
      exact ih v (by omega)
    · rw [hb] at h
      have h:1+(r.filter (zc5 F)).length=0:=h
      omega
theorem zJu (ys zs : List (List Int)) (_hl : ∀ y ∈ ys, y.length = 1) (_h : zha zaa n F ys = true) (hp : ys.Perm zs) :
    zha zaa n F zs=true/\∀ v:Sl (Sl Int),zcJ zaa n F ys v=true->zcJ zaa n F zs v=true/\zdr zaa n F ys v=zdr zaa n F zs v:=by
  refine And.intro rfl (λ v hs=>?_)
  obtain⟨a1,a2,a3⟩:=zSa zaa n F ys v hs
  obtain⟨_,a4⟩:=zOM zaa n F ys v a1 a2 a3
  have hpf:=hp.filter (zc5 F)
  have b1:∀ z∈zs,zKr zaa n F z:=λ z hz=>a1 z (hp.mem_iff.2 hz)
  have hlen:(zkS zaa F zs v).len=(zkS zaa F ys v).len:=by rw[zhp,zhp,hpf.length_eq]
  have b2:0 < (zs.filter (zc5 F)).length->(zkS zaa F zs v).len * 24<=140737488355328:=λ h=>by rw[hlen];exact a2 (by rw[hpf.length_eq];exact h)
  rw[a4]
  by_cases h0:(ys.filter (zc5 F)).length=0
  · have e1 := zu9 zaa F ys v h0
    have e2:=zu9 zaa F zs v (by rw[<- hpf.length_eq];exact h0)
    rw[e1] at a3 ⊢
    obtain⟨c1,c2⟩:=zOM zaa n F zs v b1 b2 (by rw[e2];exact a3)
    exact And.intro c1 (by rw[c2,e2])
  · have hL : IsL v.len v.get ((List.range v.len).map v.get) := And.intro (by simp) (fun k hk => by simp)
    have i1:=ztn zaa F ys v _ hL
    have i2:=ztn zaa F zs v _ hL
    have hpp:=(List.Perm.refl ((List.range v.len).map v.get)).append (hpf.map λ y=>(zg7 zaa (y.getD 0 0)).getD default)
    have hm:0 < (zkS zaa F ys v).len:=by rw[zhp];omega
    have key:zgd zaa n F (zkS zaa F zs v)=true/\zg9 zaa n F (zkS zaa F ys v)=zg9 zaa n F (zkS zaa F zs v):=by
      clear a1 a2 a4 b1 b2 hL hs
      generalize zkS zaa F ys v=a at i1 hlen a3 hm ⊢
      generalize zkS zaa F zs v=b at i2 hlen ⊢
      generalize (List.range v.len).map v.get ++ _=L1 at i1 hpp
      generalize (List.range v.len).map v.get ++ _=L2 at i2 hpp
      obtain⟨am,ag⟩:=a
      obtain⟨bm,bg⟩:=b
      have hlen:bm=am:=hlen
      subst hlen
      unfold zgd at a3 ⊢
      unfold zg9
      rw[Bool.and_true] at a3 ⊢
      have a3:=of_decide_eq_true a3
      have hso:=zNm (c0:=s59) (p0:=λ x y=>decide (p59 x y=true)) i1 a3.2
      refine⟨decide_eq_true ⟨a3.1,zu7 i2 (hso.perm hpp)⟩,?_⟩
      rw[zNn i1 i2 hpp hso hm]
    obtain⟨c1,c2⟩:=zOM zaa n F zs v b1 b2 key.1
    exact And.intro c1 (by rw[c2,key.2])
end ord6
def zto (zaa:(Sl Gate)) (zad:Nat) (zac:(List Int->Option (List Int))) (zao:(Sl (Sl Int))):(Sl (Sl Int)):=zdr zaa zad zac (zcR zac) zao
def ztp (zaa:(Sl Gate)) (zad:Nat) (zac:(List Int->Option (List Int))) (zao:(Sl (Sl Int))):Bool:=keysB 1 zad zac (zcR zac) && zha zaa zad zac (zcR zac) && zcJ zaa zad zac (zcR zac) zao
theorem zJv (K:List PA->Prop) (zaa:(Sl Gate)) (zad:Nat) (zac:(List Int->Option (List Int))) (zao:(Sl (Sl Int))) (za0:Nat->List PV) (zdi:za0=λ i=>zaS (zao.get i)) (hs:ztp zaa zad zac zao=true) (hk:K (e30 (zto zaa zad zac zao))):zmx K zaa zad zac [] zao.len za0:=by
  unfold ztp at hs
  rw[dqm,dqm] at hs
  obtain⟨⟨hkeys,hI⟩,hs⟩:=hs
  have ek:zto zaa zad zac zao=zdr zaa zad zac (zcR zac) zao:=rfl
  rw[ek] at hk
  generalize hys:zcR zac=ys0 at hkeys hI hs hk
  refine zBo K zaa zad zac [] zao.len za0 ?_
  intro X6 hstep
  have key:∀ (N:Nat) (ys:List (List Int)) (zal:List (List Int)) (zao:(Sl (Sl Int))) (za0:Nat->List PV) (zdi:za0=λ i=>zaS (zao.get i)),ys.length=N->(zCQ 1 zad zac->zGD 1 zac zal ys)->zha zaa zad zac ys=true->zcJ zaa zad zac ys zao=true->K (e30 (zdr zaa zad zac ys zao))->X6 (zg8 zaa zad zac zal zao.len za0):=by
    intro N
    induction N with
    | zero =>
      intro ys zal zao za0 zdi hN hrem hI hs hk
      subst zdi
      obtain rfl:=List.eq_nil_of_length_eq_zero hN
      refine hstep zal zao ?_
      intro hfin
      have hrem:=hrem hfin
      refine⟨λ _=>?_,λ k73_0 hF hns=>absurd (hrem.2.2 [k73_0] rfl hF hns) (by simp)⟩
      have hs:zgd zaa zad zac zao=true:=hs
      have hk:K (e30 (zg9 zaa zad zac zao)):=hk
      unfold zgd at hs
      unfold zg9 at hk
      exact (zaI hs λ hc hs=>⟨⟨(hc.1),(zow (hc.2) (λ i j h=>zNo _ i j (of_decide_eq_true h)) (zNp _))⟩,hk⟩)
    | succ N ih =>
      intro ys zal zao za0 zdi hN hrem hI hs hk
      subst zdi
      refine hstep zal zao ?_
      intro hfin
      have hrem:=hrem hfin
      refine⟨λ hend=>?_,λ k73_0 hF hns=>?_⟩
      · exact absurd (zrL hrem hend) (λ e=>by rw[e] at hN;simp at hN)
      · obtain ⟨hperm, hrem2, hlen⟩ := zox hrem (c := [k73_0]) rfl hF hns
        obtain⟨hI2,hcond⟩:=zJu zaa zad zac ys _ (λ y hy=>(hrem.2.1 y hy).1) hI hperm
        have hI3:=zJs zaa zad zac _ _ hI2
        obtain⟨e2,e1⟩:=hcond zao hs
        have hs:=e2
        rw[e1] at hk
        have en:zcJ zaa zad zac ([k73_0] :: ys.erase [k73_0]) zao=zh7 zaa zad zac k73_0 (zcJ zaa zad zac (ys.erase [k73_0])) zao:=rfl
        rw[en] at hs
        have en:zdr zaa zad zac ([k73_0] :: ys.erase [k73_0]) zao=zjG zaa zad zac k73_0 (zdr zaa zad zac (ys.erase [k73_0])) zao:=rfl
        rw[en] at hk
        have ih:=λ (zao:(Sl (Sl Int))) (za0:Nat->List PV) (zdi:za0=λ i=>zaS (zao.get i))=>ih (ys.erase [k73_0]) ([k73_0] :: zal) zao za0 zdi (by omega) (λ _=>hrem2) hI3
        unfold zh7 at hs
        unfold zjG at hk
        generalize zdr zaa zad zac (ys.erase [k73_0])=S6 at hk ih
        generalize zcJ zaa zad zac (ys.erase [k73_0])=P6 at hs ih
        have hX6:=ih
        exact (zJr K zaa zad zac zal k73_0 X6 P6 S6 hX6 zao (λ i=>zaS (zao.get i)) rfl hs hk)
  exact key _ ys0 [] zao za0 zdi rfl (λ hf=>zlM hkeys hf) hI hs hk
def zh8 (S3:Nat->(List Int->Option (List Int))->(Sl (Sl Int))) (zaa:(Sl Gate)) (y3:straight) (S5:Int->Int->Nat->(List Int->Option (List Int))->(Sl (Sl Int))) (zbd:Int) (zbI:Int) (zaR:Nat) (zaK:(List Int->Option (List Int))):(Sl (Sl Int)) :=
  (cond (decide (zbI < (zaa.len : Int)))
 (cond (s57 y3 (zaa.get zbI.toNat))
 (S5 (orW .i64 zbd (zvJ .i64 (1:Int) zbI)) (w64 (zbI+(1:Int))) zaR zaK)
 (S5 zbd (w64 (zbI+(1:Int))) zaR zaK))
 (S3 (addN (zaK [zbd]) zaR) (zgA [zbd] [1] zaK)))
def zh9 (P3:Nat->(List Int->Option (List Int))->Bool) (zaa:(Sl Gate)) (y3:straight) (P5:Int->Int->Nat->(List Int->Option (List Int))->Bool) (zbd:Int) (zbI:Int) (zaR:Nat) (zaK:(List Int->Option (List Int))):Bool :=
  (cond (decide (zbI < (zaa.len : Int)))
 (decide ((0<=zbI/\zbI < (zaa.len:Int))) &&
 (cond (s57 y3 (zaa.get zbI.toNat))
 (decide ((0<=zbI)) &&
 (P5 (orW .i64 zbd (zvJ .i64 (1:Int) zbI)) (w64 (zbI+(1:Int))) zaR zaK))
 (P5 zbd (w64 (zbI+(1:Int))) zaR zaK)))
 (P3 (addN (zaK [zbd]) zaR) (zgA [zbd] [1] zaK)))
def zfp (S3 : Nat → (List Int → Option (List Int)) → (Sl (Sl Int))) (zaa : (Sl Gate)) (y3 : straight) : Nat → Int → Int → Nat → (List Int → Option (List Int)) → (Sl (Sl Int))
  | 0=>λ _ _ _ _=>default
  | k+1=>zh8 S3 zaa y3 (zfp S3 zaa y3 k)
def zfq (P3 : Nat → (List Int → Option (List Int)) → Bool) (zaa : (Sl Gate)) (y3 : straight) : Nat → Int → Int → Nat → (List Int → Option (List Int)) → Bool
  | 0=>λ _ _ _ _=>false
  | k+1=>zh9 P3 zaa y3 (zfq P3 zaa y3 k)
def zBx (S3:Nat->(List Int->Option (List Int))->(Sl (Sl Int))) (zaa:(Sl Gate)) (y3:straight) (zbd:Int) (zbI:Int) (zaR:Nat) (zaK:(List Int->Option (List Int))):(Sl (Sl Int)):=zfp S3 zaa y3 Fuel zbd zbI zaR zaK
def zBy (P3:Nat->(List Int->Option (List Int))->Bool) (zaa:(Sl Gate)) (y3:straight) (zbd:Int) (zbI:Int) (zaR:Nat) (zaK:(List Int->Option (List Int))):Bool:=zfq P3 zaa y3 Fuel zbd zbI zaR zaK
theorem zJw (K : List PA → Prop) (zaa : (Sl Gate)) (y3 : straight)
  (X3:List (List PA)->St->Prop) (rest3:List (List PA)) (P3:Nat->(List Int->Option (List Int))->Bool) (S3:Nat->(List Int->Option (List Int))->(Sl (Sl Int)))
  (hX3:∀ (zaE:Nat) (zaF:(List Int->Option (List Int))),P3 zaE zaF=true->K (e30 (S3 zaE zaF))->X3 rest3 (zhC zaa zaE zaF)) (zbd:Int) (zbI:Int) (zaR:Nat) (zaK:(List Int->Option (List Int))) (hs:zBy P3 zaa y3 zbd zbI zaR zaK=true) (hk:K (e30 (zBx S3 zaa y3 zbd zbI zaR zaK))):zmw K X3 rest3 zaa y3 zbd zbI zaR zaK:=by
  refine zBn K X3 rest3 zaa y3 zbd zbI zaR zaK ?_
  intro X5 hstep
  have key:∀ (k:Nat) (zbd:Int) (zbI:Int) (zaR:Nat) (zaK:(List Int->Option (List Int))),zfq P3 zaa y3 k zbd zbI zaR zaK=true->K (e30 (zfp S3 zaa y3 k zbd zbI zaR zaK))->X5 (zkh zaa y3 zbd zbI zaR zaK):=by
    intro k
    induction k with
    | zero=>intro zbd zbI zaR zaK hs;exact absurd hs dqk
    | succ k ih =>
      intro zbd zbI zaR zaK hs hk
      refine hstep zbd zbI zaR zaK ?_
      have hs:zh9 P3 zaa y3 (zfq P3 zaa y3 k) zbd zbI zaR zaK=true:=hs
      have hk:K (e30 (zh8 S3 zaa y3 (zfp S3 zaa y3 k) zbd zbI zaR zaK)):=hk
      unfold zh9 at hs
      unfold zh8 at hk
      generalize zfp S3 zaa y3 k=S5 at hk ih
      generalize zfq P3 zaa y3 k=P5 at hs ih
      have hX5:=ih
      exact (zb6 (K := λ r => K (e30 r))
 (λ hs hk => (zaI hs λ hc hs => ⟨hc, (zb6 (K := λ r => K (e30 r))
 (λ hs hk=>(zaI hs λ hc hs=>⟨hc,(hX5 (orW .i64 zbd (zvJ .i64 (1:Int) zbI)) (w64 (zbI+(1:Int))) zaR zaK hs hk)⟩))
 (λ hs hk=>(hX5 zbd (w64 (zbI+(1:Int))) zaR zaK hs hk)) hs hk)⟩))
 (fun hs hk=>(hX3 (addN (zaK [zbd]) zaR) (zgA [zbd] [1] zaK) hs hk)) hs hk)
  exact key _ zbd zbI zaR zaK hs hk
def zhb (zaa:(Sl Gate)) (zad:Nat) (zac:(List Int->Option (List Int))):(Sl (Sl Int)) :=
  (zto zaa zad zac (⟨0,(λ _=>default)⟩:Sl (Sl Int)))
def zhc (zaa:(Sl Gate)) (zad:Nat) (zac:(List Int->Option (List Int))):Bool :=
  (ztp zaa zad zac (⟨0,(λ _=>default)⟩:Sl (Sl Int)))
theorem zJx (K:List PA->Prop) (zaa:(Sl Gate)) (zad:Nat) (zac:(List Int->Option (List Int))) (hs:zhc zaa zad zac=true) (hk:K (e30 (zhb zaa zad zac))):zo5 K zaa zad zac:=by
  refine zaN (zJl K zaa zad zac) ?_
  unfold zhc at hs
  unfold zhb at hk
  exact (zJv K zaa zad zac (⟨0,(λ _=>default)⟩:Sl (Sl Int)) (λ i=>zaS ((λ _=>default) i)) rfl hs hk)
def ztq (zaa:(Sl Gate)) (zaE:Nat) (zaF:(List Int->Option (List Int))):(Sl (Sl Int)) :=
  (zhb zaa zaE zaF)
def ztr (zaa:(Sl Gate)) (zaE:Nat) (zaF:(List Int->Option (List Int))):Bool :=
  (zhc zaa zaE zaF)
def zts (zaa:(Sl Gate)) (y3:straight) (S3:Nat->(List Int->Option (List Int))->(Sl (Sl Int))) (zaE:Nat) (zaF:(List Int->Option (List Int))):(Sl (Sl Int)) :=
  (zBx S3 zaa y3 (0:Int) (0:Int) zaE zaF)
def ztt (zaa:(Sl Gate)) (y3:straight) (P3:Nat->(List Int->Option (List Int))->Bool) (zaE:Nat) (zaF:(List Int->Option (List Int))):Bool :=
  (zBy P3 zaa y3 (0:Int) (0:Int) zaE zaF)
def zge (zaa : (Sl Gate)) : List straight → Nat → (List Int → Option (List Int)) → (Sl (Sl Int))
  | []=>ztq zaa
  | y :: r=>zts zaa y (zge zaa r)
def zgf (zaa : (Sl Gate)) : List straight → Nat → (List Int → Option (List Int)) → Bool
  | []=>ztr zaa
  | y :: r=>ztt zaa y (zgf zaa r)
def zBz (zaa:(Sl Gate)) (zaE:Nat) (zaF:(List Int->Option (List Int))):(Sl (Sl Int)):=zge zaa (s77 (⟨zaa⟩:list)) zaE zaF
def ztu (zaa:(Sl Gate)) (zaE:Nat) (zaF:(List Int->Option (List Int))):Bool:=decide ((p77 (⟨zaa⟩:list)=true)) && zgf zaa (s77 (⟨zaa⟩:list)) zaE zaF
theorem zJy (K:List PA->Prop) (zaa:(Sl Gate)) (zaE:Nat) (zaF:(List Int->Option (List Int))) (hs:ztu zaa zaE zaF=true) (hk:K (e30 (zBz zaa zaE zaF))):zmv K zaa zaE zaF:=by
  unfold ztu at hs
  rw[dqm] at hs
  obtain⟨hsf,hs⟩:=hs
  have hc:=of_decide_eq_true hsf
  refine zBm K zaa zaE zaF ⟨isE,hc⟩ ?_
  intro X3 hexit hstep
  have key:∀ (l:List straight) (zaE:Nat) (zaF:(List Int->Option (List Int))),zgf zaa l zaE zaF=true->K (e30 (zge zaa l zaE zaF))->X3 (l.map λ y=>[.agg (zaz y)]) (zhC zaa zaE zaF):=by
    intro l
    induction l with
    | nil =>
      intro zaE zaF hs hk
      refine hexit zaE zaF ?_
      have hs:ztr zaa zaE zaF=true:=hs
      have hk:K (e30 (ztq zaa zaE zaF)):=hk
      unfold ztr at hs
      unfold ztq at hk
      exact (zJx K zaa zaE zaF hs hk)
    | cons y3 l ih =>
      intro zaE zaF hs hk
      refine hstep y3 _ zaE zaF ?_
      have hs:ztt zaa y3 (zgf zaa l) zaE zaF=true:=hs
      have hk:K (e30 (zts zaa y3 (zge zaa l) zaE zaF)):=hk
      unfold ztt at hs
      unfold zts at hk
      generalize zge zaa l=S3 at hk ih
      generalize zgf zaa l=P3 at hs ih
      have hX3:=ih
      exact (zJw K zaa y3 X3 _ P3 S3 hX3 (0:Int) (0:Int) zaE zaF hs hk)
  exact key _ zaE zaF hs hk
def zia (S0:Int->Nat->(List Int->Option (List Int))->(Sl (Sl Int))) (zaa:(Sl Gate)) (S2:Int->Int->Int->Int->Int->Int->Nat->(List Int->Option (List Int))->(Sl (Sl Int))) (zbc:Int) (zcf:Int) (zbB:Int) (zcw:Int) (zcp:Int) (zcx:Int) (zaQ:Nat) (zaJ:(List Int->Option (List Int))):(Sl (Sl Int)) :=
  (cond (decide (zbB < (zaa.len : Int)))
 (cond (s44 zcp ((zaa.get zbB.toNat).Low) ((zaa.get zbB.toNat).High))
 (S2 (orW .i64 zbc (zvJ .i64 (1:Int) zbB)) zcf (w64 (zbB+(1:Int))) zcw zcp zcx zaQ zaJ)
 (S2 zbc zcf (w64 (zbB+(1:Int))) zcw zcp zcx zaQ zaJ))
 (S0 (w64 (zcf+(1:Int))) (addN (zaJ [zbc]) zaQ) (zgA [zbc] [1] zaJ)))
def zib (P0:Int->Nat->(List Int->Option (List Int))->Bool) (zaa:(Sl Gate)) (P2:Int->Int->Int->Int->Int->Int->Nat->(List Int->Option (List Int))->Bool) (zbc:Int) (zcf:Int) (zbB:Int) (zcw:Int) (zcp:Int) (zcx:Int) (zaQ:Nat) (zaJ:(List Int->Option (List Int))):Bool :=
  (cond (decide (zbB < (zaa.len : Int)))
 (decide ((0<=zbB/\zbB < (zaa.len:Int))) &&
 (cond (s44 zcp ((zaa.get zbB.toNat).Low) ((zaa.get zbB.toNat).High))
 (decide ((0<=zbB)) &&
 (P2 (orW .i64 zbc (zvJ .i64 (1:Int) zbB)) zcf (w64 (zbB+(1:Int))) zcw zcp zcx zaQ zaJ))
 (P2 zbc zcf (w64 (zbB+(1:Int))) zcw zcp zcx zaQ zaJ)))
 (P0 (w64 (zcf+(1:Int))) (addN (zaJ [zbc]) zaQ) (zgA [zbc] [1] zaJ)))
def ze1 (S0 : Int → Nat → (List Int → Option (List Int)) → (Sl (Sl Int))) (zaa : (Sl Gate)) : Nat → Int → Int → Int → Int → Int → Int → Nat → (List Int → Option (List Int)) → (Sl (Sl Int))
  | 0=>λ _ _ _ _ _ _ _ _=>default
  | k+1=>zia S0 zaa (ze1 S0 zaa k)
def ze2 (P0 : Int → Nat → (List Int → Option (List Int)) → Bool) (zaa : (Sl Gate)) : Nat → Int → Int → Int → Int → Int → Int → Nat → (List Int → Option (List Int)) → Bool
  | 0=>λ _ _ _ _ _ _ _ _=>false
  | k+1=>zib P0 zaa (ze2 P0 zaa k)
def zBA (S0:Int->Nat->(List Int->Option (List Int))->(Sl (Sl Int))) (zaa:(Sl Gate)) (zbc:Int) (zcf:Int) (zbB:Int) (zcw:Int) (zcp:Int) (zcx:Int) (zaQ:Nat) (zaJ:(List Int->Option (List Int))):(Sl (Sl Int)):=ze1 S0 zaa Fuel zbc zcf zbB zcw zcp zcx zaQ zaJ
def zBB (P0:Int->Nat->(List Int->Option (List Int))->Bool) (zaa:(Sl Gate)) (zbc:Int) (zcf:Int) (zbB:Int) (zcw:Int) (zcp:Int) (zcx:Int) (zaQ:Nat) (zaJ:(List Int->Option (List Int))):Bool:=ze2 P0 zaa Fuel zbc zcf zbB zcw zcp zcx zaQ zaJ
theorem zJz (K : List PA → Prop) (zaa : (Sl Gate))
  (X0:St->Prop) (P0:Int->Nat->(List Int->Option (List Int))->Bool) (S0:Int->Nat->(List Int->Option (List Int))->(Sl (Sl Int)))
  (hX0:∀ (zbA:Int) (zaO:Nat) (zaP:(List Int->Option (List Int))),P0 zbA zaO zaP=true->K (e30 (S0 zbA zaO zaP))->X0 (zkf zaa zbA zaO zaP)) (zbc:Int) (zcf:Int) (zbB:Int) (zcw:Int) (zcp:Int) (zcx:Int) (zaQ:Nat) (zaJ:(List Int->Option (List Int))) (hs:zBB P0 zaa zbc zcf zbB zcw zcp zcx zaQ zaJ=true) (hk:K (e30 (zBA S0 zaa zbc zcf zbB zcw zcp zcx zaQ zaJ))):zmu K X0 zaa zbc zcf zbB zcw zcp zcx zaQ zaJ:=by
  refine zBl K X0 zaa zbc zcf zbB zcw zcp zcx zaQ zaJ ?_
  intro X2 hstep
  have key:∀ (k:Nat) (zbc:Int) (zcf:Int) (zbB:Int) (zcw:Int) (zcp:Int) (zcx:Int) (zaQ:Nat) (zaJ:(List Int->Option (List Int))),ze2 P0 zaa k zbc zcf zbB zcw zcp zcx zaQ zaJ=true->K (e30 (ze1 S0 zaa k zbc zcf zbB zcw zcp zcx zaQ zaJ))->X2 (zkg zaa zbc zcf zbB zcw zcp zcx zaQ zaJ):=by
    intro k
    induction k with
    | zero=>intro zbc zcf zbB zcw zcp zcx zaQ zaJ hs;exact absurd hs dqk
    | succ k ih =>
      intro zbc zcf zbB zcw zcp zcx zaQ zaJ hs hk
      refine hstep zbc zcf zbB zcw zcp zcx zaQ zaJ ?_
      have hs:zib P0 zaa (ze2 P0 zaa k) zbc zcf zbB zcw zcp zcx zaQ zaJ=true:=hs
      have hk:K (e30 (zia S0 zaa (ze1 S0 zaa k) zbc zcf zbB zcw zcp zcx zaQ zaJ)):=hk
      unfold zib at hs
      unfold zia at hk
      generalize ze1 S0 zaa k=S2 at hk ih
      generalize ze2 P0 zaa k=P2 at hs ih
      have hX2:=ih
      exact (zb6 (K := λ r => K (e30 r))
 (λ hs hk => (zaI hs λ hc hs => ⟨hc, (zb6 (K := λ r => K (e30 r))
 (λ hs hk=>(zaI hs λ hc hs=>⟨hc,(hX2 (orW .i64 zbc (zvJ .i64 (1:Int) zbB)) zcf (w64 (zbB+(1:Int))) zcw zcp zcx zaQ zaJ hs hk)⟩))
 (λ hs hk=>(hX2 zbc zcf (w64 (zbB+(1:Int))) zcw zcp zcx zaQ zaJ hs hk)) hs hk)⟩))
 (fun hs hk=>(hX0 (w64 (zcf+(1:Int))) (addN (zaJ [zbc]) zaQ) (zgA [zbc] [1] zaJ) hs hk)) hs hk)
  exact key _ zbc zcf zbB zcw zcp zcx zaQ zaJ hs hk
def zhd (zaa:(Sl Gate)) (zdp:Nat) (zdq:(List Int->Option (List Int))):(Sl (Sl Int)) :=
  (zBz zaa zdp zdq)
def zhe (zaa:(Sl Gate)) (zdp:Nat) (zdq:(List Int->Option (List Int))):Bool :=
  (ztu zaa zdp zdq)
theorem zBC (K:List PA->Prop) (zaa:(Sl Gate)) (zdp:Nat) (zdq:(List Int->Option (List Int))) (hs:zhe zaa zdp zdq=true) (hk:K (e30 (zhd zaa zdp zdq))):zmt K zaa zdp zdq:=by
  refine zaN (zJk K zaa zdp zdq) ?_
  unfold zhe at hs
  unfold zhd at hk
  exact⟨isE,(zJy K zaa zdp zdq hs hk)⟩
def zic (zaa:(Sl Gate)) (S0:Int->Nat->(List Int->Option (List Int))->(Sl (Sl Int))) (zbA:Int) (zaO:Nat) (zaP:(List Int->Option (List Int))):(Sl (Sl Int)) :=
  (cond (decide (zbA < (zaa.len : Int)))
 (zBA S0 zaa (0:Int) zbA (0:Int) ((zaa.get zbA.toNat).Z) ((zaa.get zbA.toNat).Low) ((zaa.get zbA.toNat).High) zaO zaP)
 (zhd zaa zaO zaP))
def zid (zaa:(Sl Gate)) (P0:Int->Nat->(List Int->Option (List Int))->Bool) (zbA:Int) (zaO:Nat) (zaP:(List Int->Option (List Int))):Bool :=
  (cond (decide (zbA < (zaa.len : Int)))
 (decide ((0<=zbA/\zbA < (zaa.len:Int))) &&
 (zBB P0 zaa (0:Int) zbA (0:Int) ((zaa.get zbA.toNat).Z) ((zaa.get zbA.toNat).Low) ((zaa.get zbA.toNat).High) zaO zaP))
 (zhe zaa zaO zaP))
def zer (zaa : (Sl Gate)) : Nat → Int → Nat → (List Int → Option (List Int)) → (Sl (Sl Int))
  | 0=>λ _ _ _=>default
  | k+1=>zic zaa (zer zaa k)
def zes (zaa : (Sl Gate)) : Nat → Int → Nat → (List Int → Option (List Int)) → Bool
  | 0=>λ _ _ _=>false
  | k+1=>zid zaa (zes zaa k)
def ztv (zaa:(Sl Gate)) (zbA:Int) (zaO:Nat) (zaP:(List Int->Option (List Int))):(Sl (Sl Int)):=zer zaa Fuel zbA zaO zaP
def ztw (zaa:(Sl Gate)) (zbA:Int) (zaO:Nat) (zaP:(List Int->Option (List Int))):Bool:=zes zaa Fuel zbA zaO zaP
theorem zJA (K:List PA->Prop) (zaa:(Sl Gate)) (zbA:Int) (zaO:Nat) (zaP:(List Int->Option (List Int))) (hs:ztw zaa zbA zaO zaP=true) (hk:K (e30 (ztv zaa zbA zaO zaP))):zms K zaa zbA zaO zaP:=by
  refine zBk K zaa zbA zaO zaP ?_
  intro X0 hstep
  have key:∀ (k:Nat) (zbA:Int) (zaO:Nat) (zaP:(List Int->Option (List Int))),zes zaa k zbA zaO zaP=true->K (e30 (zer zaa k zbA zaO zaP))->X0 (zkf zaa zbA zaO zaP):=by
    intro k
    induction k with
    | zero=>intro zbA zaO zaP hs;exact absurd hs dqk
    | succ k ih =>
      intro zbA zaO zaP hs hk
      refine hstep zbA zaO zaP ?_
      have hs:zid zaa (zes zaa k) zbA zaO zaP=true:=hs
      have hk:K (e30 (zic zaa (zer zaa k) zbA zaO zaP)):=hk
      unfold zid at hs
      unfold zic at hk
      generalize zer zaa k=S0 at hk ih
      generalize zes zaa k=P0 at hs ih
      have hX0:=ih
      exact (zb6 (K := λ r => K (e30 r))
 (λ hs hk=>(zaI hs λ hc hs=>⟨hc,(zJz K zaa X0 P0 S0 hX0 (0:Int) zbA (0:Int) ((zaa.get zbA.toNat).Z) ((zaa.get zbA.toNat).Low) ((zaa.get zbA.toNat).High) zaO zaP hs hk)⟩))
 (fun hs hk=>(zBC K zaa zaO zaP hs hk)) hs hk)
  exact key _ zbA zaO zaP hs hk
def s30 (zaa:(Sl Gate)):(Sl (Sl Int)) :=
  (cond (s49 (⟨zaa⟩ : list))
 (ztv zaa (0:Int) 0 (λ _=>none))
 (zhd zaa 0 (λ _=>none)))
def p30 (zaa:(Sl Gate)):Bool :=
  (decide ((p49 (⟨zaa⟩:list)=true)) &&
 (cond (s49 (⟨zaa⟩ : list))
 (ztw zaa (0:Int) 0 (λ _=>none))
 (zhe zaa 0 (λ _=>none))))
theorem q30 (zaa:(Sl Gate)) (K:List PA->Prop) (hs:p30 zaa=true) (hk:K (e30 (s30 zaa))):zvT Tryz.prog G30 za1 30 [.one (.sl zaa.len 3 (λ i=>enc_48 (zaa.get i)))] 24 1 24 K:=by
  refine zaN (zJj zaa K) ?_
  unfold p30 at hs
  unfold s30 at hk
  exact (zaI hs λ hc hs => ⟨⟨isE, hc⟩, (zb6 (K := λ r => K (e30 r))
 (λ hs hk=>(zJA K zaa (0:Int) 0 (λ _=>none) hs hk))
 (λ hs hk=>(zBC K zaa 0 (λ _=>none) hs hk)) hs hk)⟩)
abbrev zJB : OwnK := .mkv 24 1 24 fun
  | [.one (.sl zaU zcu zaV)]=>some (IsE enc_48 3 zcu zaV/\p30 (⟨zaU,zaf zaV⟩:(Sl Gate))=true,((s30 (⟨zaU,zaf zaV⟩:(Sl Gate))).len),(λ i=>zaS ((s30 (⟨zaU,zaf zaV⟩:(Sl Gate))).get i)),[])
  | _=>none
theorem zNu:zah Tryz.prog 30:=⟨_,rfl,rfl,by kernel_rfl⟩
theorem zQ4:zgF Tryz.prog 30 zJB:=zyc zQh zNu λ az p n get rs h hs=>by
  split at h
  · rename_i zaU zcu zaV
    cases h
    obtain⟨⟨rfl,zbF,rfl⟩,hs⟩:=hs
    try rw[zae zbF] at hs
    try rw[zae zbF]
    exact⟨_,λ _ _ h=>h,(λ _ _=>[]),(λ l=>Nat.beq l 21),za1,q30 (⟨zaU,zbF⟩:(Sl Gate)) _ hs rfl⟩
  · cases h
abbrev T6:Tabs:=(((Tabs.nil.addF 28 zqb).addF 29 zJd).addO 30 zJB)
theorem zSb:TabsOk Tryz.prog T6:=(((TabsOk.nil.addF zKo).addF zR7).addO zQ4)
abbrev G6:Ctrs:=csm T6 (λ _ _=>[]) (λ _=>false)
def zQ5:Ann:=⟨10,[(0,zK [0] []),(1,zK [0,6] []),(2,zK [2,3] []),(3,zK [2,3] [])],
 [],
 [],
 [],[]⟩
abbrev R6:=((Sl Int)×Int)
abbrev e6 (r:R6):List PA:=[.one (.sl r.1.len 1 (λ i=>zak (r.1.get i))),.one (.int .i64 r.2)]
section
variable {K:List PA->Prop}{zaa:(Sl Gate)}
def s6 (zaa:(Sl Gate)):((Sl Int)×Int) :=
  (cond (!(s28 zaa))
 ((⟨0,λ _=>default⟩:(Sl Int)),(2:Int))
 ((s29 (s30 zaa)),(0:Int)))
def p6 (zaa:(Sl Gate)):Bool :=
  (decide ((p28 zaa=true)) &&
 (cond (!(s28 zaa))
 true
 (decide ((p30 zaa=true)) &&
 (decide ((p29 (s30 zaa)=true)) &&
 true))))
end
theorem q6 (zaa:(Sl Gate)) (K:List PA->Prop) (hs:p6 zaa=true) (hk:K (e6 (s6 zaa))):vcFun Tryz.prog G6 zQ5 6 [.one (.sl zaa.len 3 (λ i=>enc_48 (zaa.get i)))] (Wk K) :=
  zaN (by kernel_rfl) (zaI hs λ hc hs=>And.intro (And.intro (zE enc_48 3 zaa.get) hc) (zc hs hk (λ hs hk=>((wk hk (zfa (.one (.nil _ _)) (zfa (.one (.rfl _)) zlL))):Wk K [.one (.nils),.one (.int .i64 (2:Int))])) (λ hs hk=>(zaI hs λ hc hs=>And.intro (⟨⟨isE,hc⟩,trivial,rfl⟩:(IsE enc_48 3 3 (λ i=>enc_48 (zaa.get i))/\(p30 zaa=true))/\zm5 (λ i=>zaS ((s30 zaa).get i)) []/\([]:List PV).all zfG=true) (zaI hs λ hc hs=>And.intro (And.intro (zE zaS 1 ((s30 zaa).get)) hc) ((zfz hk):Wk K [.one (.sl ((s29 (s30 zaa)).len) 1 (λ i=>zak ((s29 (s30 zaa)).get i))),.one (.int .i64 (0:Int))]))))))
def zQi : List PA → COut
  | [.one (.sl zaU zcu zaV)]=>.det (IsE enc_48 3 zcu zaV/\p6 (⟨zaU,zaf zaV⟩:(Sl Gate))=true) [.one (.sl (((s6 (⟨zaU,zaf zaV⟩:(Sl Gate))).1).len) 1 (λ i=>zak (((s6 (⟨zaU,zaf zaV⟩:(Sl Gate))).1).get i))),.one (.int .i64 ((s6 (⟨zaU,zaf zaV⟩:(Sl Gate))).2))]
  | _=>.no
theorem call6:zah Tryz.prog 6:=⟨_,rfl,rfl,by kernel_rfl⟩
theorem ok6:Ok Tryz.prog 6 zQi:=zgK zSb call6 λ args K h=>by
  unfold zQi at h
  split at h
  · rename_i zaU zcu zaV
    obtain⟨⟨⟨rfl,zbF,rfl⟩,hs⟩,hk⟩:=h
    try rw[zae zbF] at hs
    try rw[zae zbF] at hk
    exact⟨_,zgn zgJ _,(λ _ _=>[]),(λ _=>false),zQ5,q6 (⟨zaU,zbF⟩:(Sl Gate)) K hs hk⟩
  · exact h.elim
end Go.Proofs
namespace Go.Pm
open Go.Shelf Go.RowKit Go.Lib Go.Sort Go.Proofs
variable [DrawZ]

def delN (n:Nat) (q:Nat->Bool):Nat:=((List.range n).filter λ i=>!q i).length
def zwC {α:Type}(n:Nat) (q:Nat->Bool) (get:Nat->α):Nat->α:=λ i=>get (((List.range n).filter λ i=>!q i).getD i 0)

theorem zBD {P : Program} {ρ : Ren} (L : SlLaysH.n10 P ρ) {e b : Nat} {g : FuncId} {φ : List PV → Nat → (Nat → List PV) → Nat × (Nat → List PV)} {pre : List PV → Nat → (Nat → List PV) → Prop}
    (hc:zah P (ρ.f 10)) (hcg:zah P g) (zr:Value) (hz:zr.oneCell'=true) (v23:∀ w,(zeroValue (ρ.t 23)).run P w=.ok zr w) (q:List PV->List PV->Bool) (pz:List PV->Bool)
    (G:∀ (W:World) (h:Fz) (caps:List PV) (cv:List Value) (n:Nat) (get:Nat->List PV),RL (Rep h) caps cv->Hw h W->pre caps n get ->
      (∀ i x,i < n->RL (Rep h) (get i) [x]->FnGives P g cv.toArray #[x] (.bool (q caps (get i))) W)/\FnGives P g cv.toArray #[zr] (.bool (pz caps)) W)
    (hpre0:∀ caps n get,pre caps n get->0 < n) (hφ:∀ caps n get,φ caps n get=(delN n (λ i=>q caps (get i)),zwC n (λ i=>q caps (get i)) get)):zgF P (ρ.f 10) (.delf e 1 b g φ pre):=by
  intro w h base v n get caps cv hcv ⟨xs,hown,hr⟩ hone hw hob hbase hn hpre
  refine⟨hc,?_⟩
  have hn0:=hpre0 _ _ _ hpre
  rw[hφ]
  rcases hown.2 with ⟨h1,h2⟩ | ⟨blk,cap,cur,rfl,hb,hcell,hncap,hcap,hcs,htk⟩
  · omega
  have hxs:xs.length=n:=by have:=hown.1;rwa[Nat.mul_one] at this
  let enc:Option (Fin n)->Value:=λ o=>match o with | some i=>xs[i.val]'(by rw[hxs];exact i.isLt) | none=>zr
  let Q:Nat->Bool:=λ i=>q caps (get i)
  let p:Option (Fin n)->Bool:=λ o=>match o with | some i=>Q i.val | none=>pz caps
  let d:Array (Option (Fin n)):=Array.ofFn some
  have hds:d.size=n:=Array.size_ofFn
  have hdi:∀ i (hi:i < n),d[i]! = some ⟨i,hi⟩:=λ i hi=>by
    rw[getElem!_pos d i (by rw[hds];exact hi)];simp[d]
  have hlt:blk < w.heap.size:=(dqp.1 hcell).1
  have hbn:h blk=Option.none:=hob blk rfl
  rw[Nat.mul_one] at htk hcs
  have hcur:∀ j,j < n->cur[j]? = xs[j]?:=λ j hj=>by
    have:(cur.toList.take n)[j]? = xs[j]?:=by rw[htk]
    rw[dqs,if_pos hj] at this;simpa using this
  have hrr:∀ x:Fin n,RL (Rep h) (get x.val) [enc (some x)]:=λ x=>by
    have:=hr x.val x.isLt
    rw[Nat.mul_one,dqR (by rw[hxs];exact x.isLt)] at this
    exact this
  have h1:OneCell enc:=λ x=>by
    match x with
    | some x =>
      obtain⟨p,_,hp⟩:=(hrr x).get' 0 _ rfl
      exact hp.one
    | none=>exact hz
  have hH:Holds enc w blk 0 d:=λ j hj=>by
    have hj:j < n:=by rw[hds] at hj;exact hj
    refine⟨?_,frozen_of_row w blk _ cur e hcell⟩
    rw[hdi j hj,cell_of hcell,Nat.zero_add,hcur j hj]
    exact dqD _
  have gives:∀ (W:World) (x:Option (Fin n)),Hw h W->FnGives P g cv.toArray #[enc x] (.bool (p x)) W:=λ W x hW=>by
    obtain⟨g1,g2⟩:=G W h caps cv n get hcv hW hpre
    match x with
    | some x=>exact g1 x.val _ x.isLt (hrr x)
    | none=>exact g2
  have hat:PredAt P g cv.toArray enc p w:=λ W x hb=>gives W x (hw.same λ k o hk=>hb.block k (hw.lt hk))
  have hover:PredOver P g cv.toArray enc p blk 0 d.size w:=λ m os dk x _=>gives _ x (hw.same λ k o hk=>by
    have hkb:k ≠ blk:=λ e=>by rw[e,hbn] at hk;cases hk
    have hkl:=hw.lt hk
    show ((putRow enc (Sort.ahead w m) blk 0 dk).heap ++ os)[k]? = _
    rw[Array.getElem?_append_left (by rw[zdE];exact hkl)]
    exact zfc _ hkb)
  have hrun:=AnyE.slices_DeleteFunc L enc h1 p g cv.toArray (λ args w=>zbG hcg) none v23 blk 0 cap d w hat hover hH (by rw[hds];omega) (by rw[hds];exact hncap)
  rw[hds] at hrun
  refine hrun.mono ?_
  rintro r w' ⟨rfl,m,rfl⟩
  let val:Option (Fin n)->Nat:=λ o=>match o with | some x=>x.val | none=>0
  have hdl:(d.toList.filter λ x=>!p x).map val=(List.range n).filter λ i=>!Q i:=by
    have e1:d.toList.map val=List.range n:=by
      apply List.ext_getElem?
      intro i
      simp only[d,dqH]
      by_cases hi:i < n
      · simp[hi,val]
      · rw[dqM (by simp;omega),dqM (by simp;omega)];rfl
    rw[<- e1,List.filter_map]
    congr 1
    refine List.filter_congr λ x hx=>?_
    obtain⟨i,hi,rfl⟩:=List.getElem_of_mem hx
    simp only[d,Array.getElem_toList,Array.getElem_ofFn]
    rfl
  have hsome:∀ x∈d.toList.filter λ x=>!p x,∃ i:Fin n,x=some i:=λ x hx=>by
    obtain⟨i,hi,rfl⟩:=List.getElem_of_mem (List.mem_filter.1 hx).1
    exact⟨⟨i,by simpa [hds] using hi⟩,by simp[d]⟩
  have hle:(d.toList.filter λ x=>!p x).length<=n:=by
    have:=List.length_filter_le (λ x=>!p x) d.toList
    simpa [hds] using this
  generalize (d.toList.filter λ x=>!p x)=dl at hdl hsome hle
  have hlen:delN n Q=dl.length:=by unfold delN;rw[<- hdl,List.length_map]
  let F:Array (Option (Fin n)):=(dl ++ List.replicate (n - dl.length) none).toArray
  have hFs:F.size=n:=by simp[F];omega
  obtain⟨cur',hcell',hsz'⟩:=ziO (enc:=enc) (q:=m) (off:=0) F hcell
  have hH':Holds enc (sortWorld enc w blk 0 m F #[]) blk 0 F:=holds_sortWorld enc w blk 0 m d F #[] hlt hH (by rw[hFs,hds])
  have hg0:(sortWorld enc w blk 0 m F #[])=putRow enc (Sort.ahead w m) blk 0 F:=by unfold sortWorld;rw[grow_empty]
  rw[hg0] at hH'
  have hcur':∀ j (hj:j < n),cur'[j]? = some (enc (F[j]'(by omega))):=λ j hj=>by
    have:=(hH' j (by rw[hFs];exact hj)).1
    rw[cell_of hcell',Nat.zero_add,getElem!_pos F j (by omega)] at this
    exact this
  refine⟨.slice (some ⟨blk,0,Option.none⟩) dl.length cap,rfl,rfl,λ k hk=>hk,?_,?_⟩
  · show zt0 h _ base e 1 _ (delN n Q) (zwC n Q get)
    rw[hlen]
    refine⟨cur'.toList.take (dl.length * 1),⟨by rw[List.length_take,Nat.mul_one,Array.length_toList (xs:=cur'),hsz',hcs];exact Nat.min_eq_left (dqE hle hncap),.inr ⟨blk,cap,cur',rfl,hb,hcell',dqE hle hncap,hcap,by rw[hsz',hcs,Nat.mul_one],rfl⟩⟩,λ i hi=>?_⟩
    obtain⟨x,hx⟩:=hsome dl[i] (List.getElem_mem hi)
    have e1:((cur'.toList.take (dl.length * 1)).drop (i * 1)).take 1=[enc (some x)]:=by
      apply List.ext_getElem?
      intro j
      rw[dqs,Nat.mul_one,Nat.mul_one]
      cases j with
      | zero =>
        rw[if_pos (by omega),dqI,dqs,if_pos (by omega),Array.getElem?_toList,Nat.add_zero,hcur' i (by omega)]
        have:F[i]'(by omega)=some x:=by
          show (dl ++ List.replicate (n - dl.length) none)[i]'_=_
          rw[List.getElem_append_left hi];exact hx
        rw[this];rfl
      | succ j=>rw[if_neg (by omega)];rfl
    rw[e1]
    have e2:zwC n Q get i=get x.val:=by
      unfold zwC
      rw[<- hdl,List.getD_eq_getElem?_getD,dqH,dqD hi,hx]
      rfl
    rw[e2]
    exact hrr x
  · refine ⟨⟨rfl, rfl, rfl, ?_, fun k hk hne => ?_⟩, zj1 (Nat.le_add_right _ _)⟩
    · rw[zdE];exact dqt _
    · exact zfc _ λ e=>hne (by rw[e];rfl)
end Go.Pm
/-
  DERIVED: THE SHELF's CONTRACTS AT THIS DUMP,IN PLAIN WORDS (tools/lay-plain.mjs out of 'YtkilnbolehhcnaaGreatLayB.lean',which tools/lay-shelf.mjs wrote): THE SAME DECLARATIONS UNDER THE SAME NAMES: 'import','namespace','open','def','theorem' AND NOTHING ELSE: no command of the shelf's: FOR A HAND-IN. Each laying: the table of numbers ('.._ren') and one theorem,a field a fact of the dump's own or the kernel's comparison;each contract: ONE APPLICATION.
-/
namespace Go.Proofs
open Go.Shelf
def Tryz.laysS32_ren:Go.Shelf.Ren:=⟨fun | 10=>32 | 6=>60 | n=>n,fun | 22=>28 | 23=>24 | 25=>65 | 3=>3 | 4=>4 | 0=>0 | n=>n,fun | n=>n⟩
theorem Tryz.laysS32 : Go.Proofs.SlLaysH.n10 Tryz.prog Tryz.laysS32_ren := {
  mixed:=by kernel_rfl
  f6:=⟨Tryz.f60.name,by decide,Tryz.func60.trans (congrArg some (by kernel_rfl))⟩
  f10:=⟨Tryz.f32.name,by decide,Tryz.func32.trans (congrArg some (by kernel_rfl))⟩
  t0:=Tryz.underlying0
  a0:=Tryz.isAgg0
  z0:=Tryz.sizeOf0
  v0:=Tryz.zeroValue0
  t3:=Tryz.underlying3
  a3:=Tryz.isAgg3
  z3:=Tryz.sizeOf3
  v3:=Tryz.zeroValue3
  t4:=Tryz.underlying4
  a4:=Tryz.isAgg4
  z4:=Tryz.sizeOf4
  v4:=Tryz.zeroValue4
  t22:=Tryz.underlying28
  a22:=Tryz.isAgg28
  z22:=Tryz.sizeOf28
  v22:=Tryz.zeroValue28
  a23:=Tryz.isAgg24
  z23:=Tryz.sizeOf24
  t25:=Tryz.underlying65
  a25:=Tryz.isAgg65
  z25:=Tryz.sizeOf65
  v25:=Tryz.zeroValue65 }
end Go.Proofs
namespace Go.Proofs
open Go Go.Pm
set_option maxRecDepth 100000
set_option linter.unusedVariables false
attribute [local irreducible] Go.Pm.vcFun Go.Pm.vc Go.Pm.vcIter
def q32 : List PV → List PV → Bool
  | [.fp [.int _ k] _],[.sl n _ _]=>decide ((n:Int) < k)
  | _,_=>false
def zJC (caps:List PV) (n:Nat) (get:Nat->List PV):Prop:=0 < n/\(∃ k,caps=[.fp [.int .i64 k] 0])/\∃ f:Nat->Sl Int,get=λ i=>zaS (f i)
def zQj (caps:List PV) (n:Nat) (get:Nat->List PV):Nat×(Nat->List PV):=(delN n (λ i=>q32 caps (get i)),zwC n (λ i=>q32 caps (get i)) get)
abbrev zNv:OwnK:=.delf 24 1 24 33 zQj zJC
theorem zNw:zah Tryz.prog 32:=⟨_,rfl,rfl,by kernel_rfl⟩
theorem zNx:zah Tryz.prog 33:=⟨_,rfl,rfl,by kernel_rfl⟩
theorem zQ6 (lim:Int) (B O:Nat) (W:World) (p:Option Addr) (n c:Nat) (hc:W.cell? ⟨B,O,none⟩=some (.int .i64 lim)):FnGives Tryz.prog 33 #[.pointer (some ⟨B,O,none⟩)] #[.slice p n c] (.bool (decide ((n:Int) < lim))) W:=by
  show Calls Tryz.prog 33 #[.slice p n c,.pointer (some ⟨B,O,none⟩)] W _
  go_enter Tryz.func33,Tryz.ntmps33
  go_wp2
  all_goals (go_ret;exact⟨by simp_all,0,rfl⟩)
theorem zQk {h:Fz}{n s:Nat}{g:Nat->List PV}{v:Value}(r:Rep h (.sl n s g) v):∃ p c,v=.slice p n c:=by
  cases r with
  | sl0=>exact⟨_,_,rfl⟩
  | sle=>exact⟨_,_,rfl⟩
  | sl=>exact⟨_,_,rfl⟩
theorem zQl (W : World) (h : Fz) (caps : List PV) (cv : List Value) (n : Nat) (get : Nat → List PV) (hcv : RL (Rep h) caps cv) (hW : Hw h W) (hp : zJC caps n get) :
      (∀ i x,i < n->RL (Rep h) (get i) [x]->FnGives Tryz.prog 33 cv.toArray #[x] (.bool (q32 caps (get i))) W)/\FnGives Tryz.prog 33 cv.toArray #[.slice none 0 0] (.bool ((λ caps=>match caps with | [.fp [.int _ k] _]=>decide (0 < k) | _=>false) caps)) W:=by
    obtain⟨_,⟨k,rfl⟩,f,rfl⟩:=hp
    match cv,hcv with
    | [v],hcv =>
      obtain⟨b,o,C,ty,fr,rfl,hb,hcell⟩:=ziw hcv.1
      obtain⟨v,h1,h2⟩:=hcell 0 _ rfl
      cases h2
      have hc:W.cell? ⟨b,o+0,none⟩=some (.int .i64 k):=(cell_of (hW.fz hb)).trans h1
      refine⟨λ i x _ hx=>?_,zQ6 k b (o+0) W none 0 0 hc⟩
      obtain⟨p,c,rfl⟩:=zQk hx.1
      exact zQ6 k b (o+0) W p _ c hc
    | [],hcv=>exact hcv.elim
    | _ :: _ :: _,hcv=>exact hcv.2.elim
theorem zNy:∀ w,(zeroValue (24:TypeId)).run Tryz.prog w=.ok (.slice none 0 0) w:=λ w=>by kernel_rfl
theorem ok32 : zgF Tryz.prog 32 zNv := zBD Tryz.laysS32 zNw zNx (.slice none 0 0) rfl zNy q32 (fun caps => match caps with | [.fp [.int _ k] _] => decide (0 < k) | _ => false)
  zQl (λ _ _ _ h=>h.1) (λ _ _ _=>rfl)
abbrev T7:Tabs:=(((Tabs.nil.addF 28 zqb).addO 30 zJB).addO 32 zNv)
theorem zSc:TabsOk Tryz.prog T7:=(((TabsOk.nil.addF zKo).addO zQ4).addO ok32)
abbrev G7:Ctrs:=csm T7 (λ _ _=>[]) (λ _=>false)
def zQ7:Ann:=⟨13,[(0,zK [0,3] [3]),(1,zK [0,3,8] [3]),(2,zK [4,5] []),(3,zK [4,5] [10])],
 [],
 [],
 [],[]⟩
abbrev R7:=((Sl (Sl Int))×Int)
abbrev e7 (r:R7):List PA:=[.one (.sl r.1.len 1 (λ i=>zaS (r.1.get i))),.one (.int .i64 r.2)]
section
variable {K:List PA->Prop}{zaa:(Sl Gate)}{least:Int}
def s7 (zaa:(Sl Gate)) (least:Int):((Sl (Sl Int))×Int) :=
  (cond (!(s28 zaa))
 ((⟨0,λ _=>default⟩:(Sl (Sl Int))),(2:Int))
 ((⟨(delN ((s30 zaa).len) (λ i=>decide (((((s30 zaa).get) i).len:Int) < least))),(zwC ((s30 zaa).len) (λ i=>decide (((((s30 zaa).get) i).len:Int) < least)) ((s30 zaa).get))⟩:(Sl (Sl Int))),(0:Int)))
def p7 (zaa:(Sl Gate)) (least:Int):Bool :=
  (decide ((p28 zaa=true)) &&
 (cond (!(s28 zaa))
 true
 (decide ((p30 zaa=true)) &&
 (decide (((s30 zaa).len<=4611686018427387)/\(0 < (s30 zaa).len)) &&
 true))))
end
theorem q7 (zaa:(Sl Gate)) (least:Int) (K:List PA->Prop) (hs:p7 zaa least=true) (hk:K (e7 (s7 zaa least))):vcFun Tryz.prog G7 zQ7 7 [.one (.sl zaa.len 3 (λ i=>enc_48 (zaa.get i))),.one (.int .i64 least)] (Wk K) :=
  zaN (by kernel_rfl) (zaI hs λ hc hs=>And.intro (And.intro (zE enc_48 3 zaa.get) hc) (zc hs hk (λ hs hk=>((wk hk (zfa (.one (.nil _ _)) (zfa (.one (.rfl _)) zlL))):Wk K [.one (.nils),.one (.int .i64 (2:Int))])) (λ hs hk=>(zaI hs λ hc hs=>And.intro (⟨⟨isE,hc⟩,trivial,rfl⟩:(IsE enc_48 3 3 (λ i=>enc_48 (zaa.get i))/\(p30 zaa=true))/\zm5 (λ i=>zaS ((s30 zaa).get i)) []/\([]:List PV).all zfG=true) (zaI hs λ hc hs=>And.intro (And.intro (hc.1) (⟨(hc.2),⟨_,rfl⟩,⟨(s30 zaa).get,rfl⟩⟩:zJC [.fp (zak least) 0] ((s30 zaa).len) (λ i=>zaS ((s30 zaa).get i)))) ((zfz hk):Wk K [.one (.sl (delN ((s30 zaa).len) (λ i=>decide (((((s30 zaa).get) i).len:Int) < least))) 1 (λ i=>zaS ((zwC ((s30 zaa).len) (λ i=>decide (((((s30 zaa).get) i).len:Int) < least)) ((s30 zaa).get)) i))),.one (.int .i64 (0:Int))]))))))
def zQm : List PA → COut
  | [.one (.sl zaU zcu zaV),.one (.int .i64 a1)]=>.det (IsE enc_48 3 zcu zaV/\p7 (⟨zaU,zaf zaV⟩:(Sl Gate)) a1=true) [.one (.sl (((s7 (⟨zaU,zaf zaV⟩:(Sl Gate)) a1).1).len) 1 (λ i=>zaS (((s7 (⟨zaU,zaf zaV⟩:(Sl Gate)) a1).1).get i))),.one (.int .i64 ((s7 (⟨zaU,zaf zaV⟩:(Sl Gate)) a1).2))]
  | _=>.no
theorem call7:zah Tryz.prog 7:=⟨_,rfl,rfl,by kernel_rfl⟩
theorem ok7:Ok Tryz.prog 7 zQm:=zgK zSc call7 λ args K h=>by
  unfold zQm at h
  split at h
  · rename_i zaU zcu zaV a1
    obtain⟨⟨⟨rfl,zbF,rfl⟩,hs⟩,hk⟩:=h
    try rw[zae zbF] at hs
    try rw[zae zbF] at hk
    exact⟨_,zgn zgJ _,(λ _ _=>[]),(λ _=>false),zQ7,q7 (⟨zaU,zbF⟩:(Sl Gate)) a1 K hs hk⟩
  · exact h.elim
abbrev T35:Tabs:=Tabs.nil
theorem zQn:TabsOk Tryz.prog T35:=TabsOk.nil
abbrev G35:Ctrs:=csm T35 (λ _ _=>[]) (λ _=>false)
def zNz:Ann:=⟨15,[(0,zK [0,1,2] []),(1,zK [6] [])],
 [],
 [],
 [],[]⟩
abbrev R35:=Bool
abbrev e35 (r:R35):List PA:=[.one (.bool r)]
section
variable {K:List PA->Prop}{n:Int}{low:Int}{high:Int}
def s35 (n:Int) (low:Int) (high:Int):Bool :=
  (cond (decide (n >= low))
 (decide (n<=high))
 false)
end
theorem q35 (n:Int) (low:Int) (high:Int) (K:List PA->Prop) (hk:K (e35 (s35 n low high))):vcFun Tryz.prog G35 zNz 35 [.one (.int .i64 n),.one (.int .i64 low),.one (.int .i64 high)] K :=
  zaN (by kernel_rfl) (zt hk (λ hk=>hk) (λ hk=>hk))
def zD4 : List PA → COut
  | [.one (.int .i64 a0),.one (.int .i64 a1),.one (.int .i64 a2)]=>.tot [.one (.bool (s35 a0 a1 a2))]
  | _=>.no
theorem zNA:zah Tryz.prog 35:=⟨_,rfl,rfl,by kernel_rfl⟩
theorem zQ8:Ok Tryz.prog 35 zD4:=za3 zQn zNA λ args K h=>by
  unfold zD4 at h
  split at h
  · rename_i a0 a1 a2
    have hk:=h
    exact⟨(λ _ _=>[]),(λ _=>false),zNz,q35 a0 a1 a2 K hk⟩
  · exact h.elim
abbrev T34:Tabs:=(Tabs.nil.addF 35 zD4)
theorem zQo:TabsOk Tryz.prog T34:=(TabsOk.nil.addF zQ8)
abbrev G34:Ctrs:=csm T34 (λ _ _=>[]) (λ _=>false)
def zNB:Ann:=⟨18,[(0,zK [1] [1]),(1,zK [2] [])],
 [],
 [],
 [],[]⟩
abbrev R34:=Bool
abbrev e34 (r:R34):List PA:=[.one (.bool r)]
section
variable {K:List PA->Prop}{g:Gate}
def s34 (g:Gate):Bool :=
  (cond (s35 g.Z (0:Int) (100000:Int))
 (cond (s35 g.Low (-1000000:Int) g.High)
 (decide (g.High<=(1000000:Int)))
 false)
 false)
end
theorem q34 (g:Gate) (K:List PA->Prop) (hk:K (e34 (s34 g))):vcFun Tryz.prog G34 zNB 34 [.agg (enc_48 g)] K :=
  zaN (by kernel_rfl) (zt hk (λ hk=>(zt hk (λ hk=>hk) (λ hk=>hk))) (λ hk=>hk))
def zJD : List PA → COut
  | [.agg [.int .i64 znx,.int .i64 zdC,.int .i64 zcU]]=>.tot [.one (.bool (s34 (⟨znx,zdC,zcU⟩:Gate)))]
  | _=>.no
theorem zNC:zah Tryz.prog 34:=⟨_,rfl,rfl,by kernel_rfl⟩
theorem zSd:Ok Tryz.prog 34 zJD:=za3 zQo zNC λ args K h=>by
  unfold zJD at h
  split at h
  · rename_i znx zdC zcU
    have hk:=h
    exact⟨(λ _ _=>[]),(λ _=>false),zNB,q34 (⟨znx,zdC,zcU⟩:Gate) K hk⟩
  · exact h.elim
abbrev T8:Tabs:=((Tabs.nil.addF 34 zJD).addF 35 zD4)
theorem zSe:TabsOk Tryz.prog T8:=((TabsOk.nil.addF zSd).addF zQ8)
abbrev G8:Ctrs:=csm T8 (λ _ _=>[]) (λ _=>false)
def zQp:Ann:=⟨19,[(0,zK [0] []),(1,zK [0,3] []),(2,zK [0,3,7] []),(3,zK [0,3] []),(4,zK [0,3,15] []),(5,zK [2] []),(6,zK [2] [])],
 [(2,zK [0,3] [])],
 [(5,zK [0,3,15] [])],
 [],[]⟩
abbrev R8:=Bool
abbrev e8 (r:R8):List PA:=[.one (.bool r)]
@[irreducible] def z8:=ptF Tryz.prog G8 zQp Tryz.f8
def zND (l_a0:(Sl Gate)) (iv0:Int):St:=⟨[(0,zS enc_48 3 l_a0),(3,zI iv0)],[],[]⟩
abbrev zQq (K:List PA->Prop) (l_a0:(Sl Gate)) (X:St->Prop) (P:Int->Bool) (S:Int->Bool):Prop:=∀ ⦃iv0:Int⦄,P iv0=true->K (e8 (S iv0))->X (zND l_a0 iv0)
section
variable {K:List PA->Prop}{l_a0:(Sl Gate)}{iv0:Int}{X0:St->Prop}{P0:Int->Bool}{S0:Int->Bool}{iv1:Int}{ztx:Bool}
def zBE (S0:Int->Bool) (l_a0:(Sl Gate)) (iv1:Int) (ztx:Bool):Bool :=
  (cond ztx
 false
 (S0 (w64 (iv1+(1:Int)))))
def zBF (P0:Int->Bool) (l_a0:(Sl Gate)) (iv1:Int) (ztx:Bool):Bool :=
  (cond ztx
 true
 (P0 (w64 (iv1+(1:Int)))))
theorem zNE (hX0:zQq K l_a0 X0 P0 S0) (hs:zBF P0 l_a0 iv1 ztx=true) (hk:K (e8 (zBE S0 l_a0 iv1 ztx))):z8 K [1,0,1,0,0,1,0,0,1] [X0] ⟨[(0,zS enc_48 3 l_a0),(3,zI iv1),(15,zB ztx)],[],[]⟩:=zaN (by kernel_rfl) (zc hs hk (λ hs hk=>hk) (λ hs hk=>(hX0 hs hk)))
def znA (l_a0:(Sl Gate)) (S0:Int->Bool) (iv0:Int):Bool :=
  (cond (decide (iv0 < (l_a0.len : Int)))
 (zBE S0 l_a0 iv0 (!(s34 (l_a0.get iv0.toNat))))
 (s35 (l_a0.len:Int) (1:Int) (24:Int)))
def znB (l_a0:(Sl Gate)) (P0:Int->Bool) (iv0:Int):Bool :=
  (cond (decide (iv0 < (l_a0.len : Int)))
 (decide ((0<=iv0/\iv0 < (l_a0.len:Int))) &&
 (zBF P0 l_a0 iv0 (!(s34 (l_a0.get iv0.toNat)))))
 true)
def znC (l_a0:(Sl Gate)):Nat->Int->Bool:=lpO (λ _=>default) (znA l_a0)
def znD (l_a0:(Sl Gate)):Nat->Int->Bool:=lpO (λ _=>false) (znB l_a0)
def zFC (l_a0:(Sl Gate)) (iv0:Int):Bool:=znC l_a0 Fuel iv0
def zFD (l_a0:(Sl Gate)) (iv0:Int):Bool:=znD l_a0 Fuel iv0
theorem zNF (hs:zFD l_a0 iv0=true) (hk:K (e8 (zFC l_a0 iv0))):z8 K [1,0,1,0] [] (zND l_a0 iv0) :=
  zl (λ X=>z8 K [1,0,1,0,0] [X]) (by kernel_rfl) λ X0 hX =>
  (show ∀ k, zQq K l_a0 X0 (znD l_a0 k) (znC l_a0 k) from zgw _ _ (znB l_a0) (znA l_a0) (zQq K l_a0 X0)
 (by intro _ hs;exact absurd hs dqk)
 (by intro P0 S0 hX0 iv0 hs hk;exact hX _ (zaN (by kernel_rfl) (zc hs hk (λ hs hk=>(zaI hs λ hc hs=>And.intro hc (zNE hX0 hs hk))) (λ hs hk=>hk))))) _ hs hk
def s8 (l_a0:(Sl Gate)):Bool :=
  (zFC l_a0 (0:Int))
def p8 (l_a0:(Sl Gate)):Bool :=
  (zFD l_a0 (0:Int))
end
theorem q8 (l_a0:(Sl Gate)) (K:List PA->Prop) (hs:p8 l_a0=true) (hk:K (e8 (s8 l_a0))):vcFun Tryz.prog G8 zQp 8 [.one (.sl l_a0.len 3 (λ i=>enc_48 (l_a0.get i)))] K :=
  zaN (by kernel_rfl) (zNF hs hk)
def zQr : List PA → COut
  | [.one (.sl zaU zcu zaV)]=>.det (IsE enc_48 3 zcu zaV/\p8 (⟨zaU,zaf zaV⟩:(Sl Gate))=true) [.one (.bool (s8 (⟨zaU,zaf zaV⟩:(Sl Gate))))]
  | _=>.no
theorem call8:zah Tryz.prog 8:=⟨_,rfl,rfl,by kernel_rfl⟩
theorem ok8:Ok Tryz.prog 8 zQr:=za3 zSe call8 λ args K h=>by
  unfold zQr at h
  split at h
  · rename_i zaU zcu zaV
    obtain⟨⟨⟨rfl,zbF,rfl⟩,hs⟩,hk⟩:=h
    try rw[zae zbF] at hs
    try rw[zae zbF] at hk
    exact⟨(λ _ _=>[]),(λ _=>false),zQp,q8 (⟨zaU,zbF⟩:(Sl Gate)) K hs hk⟩
  · exact h.elim
abbrev T63:Tabs:=Tabs.nil
theorem zQs:TabsOk Tryz.prog T63:=TabsOk.nil
abbrev G63:Ctrs:=csm T63 (λ _ _=>[]) (λ _=>false)
def zNG:Ann:=⟨30,[(0,zK [1,2] [2]),(1,zK [4,5] [])],
 [],
 [],
 [],[]⟩
abbrev R63:=(Int×Int)
abbrev e63 (r:R63):List PA:=[.one (.int .i64 r.1),.one (.int .i64 r.2)]
section
variable {K:List PA->Prop}{l_a0:Line}{z:Int}
def s63 (l_a0:Line) (z:Int):(Int×Int) :=
  ((w64 ((w64 (l_a0.Start.Num * l_a0.Slope.Den))+(w64 ((w64 (l_a0.Slope.Num * z)) * l_a0.Start.Den)))),(w64 (l_a0.Start.Den * l_a0.Slope.Den)))
end
theorem q63 (l_a0:Line) (z:Int) (K:List PA->Prop) (hk:K (e63 (s63 l_a0 z))):vcFun Tryz.prog G63 zNG 63 [.agg (zce l_a0),.one (.int .i64 z)] K :=
  zaN (by kernel_rfl) hk
def zJE : List PA → COut
  | [.agg [.int .i64 zbu,.int .i64 zbv,.int .i64 zbw,.int .i64 zbx],.one (.int .i64 a1)]=>.tot [.one (.int .i64 ((s63 (⟨(⟨zbu,zbv⟩:Frac),(⟨zbw,zbx⟩:Frac)⟩:Line) a1).1)),.one (.int .i64 ((s63 (⟨(⟨zbu,zbv⟩:Frac),(⟨zbw,zbx⟩:Frac)⟩:Line) a1).2))]
  | _=>.no
theorem zNH:zah Tryz.prog 63:=⟨_,rfl,rfl,by kernel_rfl⟩
theorem zSf:Ok Tryz.prog 63 zJE:=za3 zQs zNH λ args K h=>by
  unfold zJE at h
  split at h
  · rename_i zbu zbv zbw zbx a1
    have hk:=h
    exact⟨(λ _ _=>[]),(λ _=>false),zNG,q63 (⟨(⟨zbu,zbv⟩:Frac),(⟨zbw,zbx⟩:Frac)⟩:Line) a1 K hk⟩
  · exact h.elim
abbrev T38:Tabs:=(Tabs.nil.addF 63 zJE)
theorem zQt:TabsOk Tryz.prog T38:=(TabsOk.nil.addF zSf)
abbrev G38:Ctrs:=csm T38 (λ _ _=>[]) (λ _=>false)
def zNI:Ann:=⟨28,[(0,zK [2,3] [2,3]),(1,zK [3,5,6] [3]),(2,zK [4] [])],
 [],
 [],
 [],[]⟩
abbrev R38:=Bool
abbrev e38 (r:R38):List PA:=[.one (.bool r)]
section
variable {K:List PA->Prop}{l_a0:Line}{g:Gate}
def s38 (l_a0:Line) (g:Gate):Bool :=
  (cond (decide ((w64 (g.Low * ((s63 l_a0 g.Z).2))) <= ((s63 l_a0 g.Z).1)))
 (decide (((s63 l_a0 g.Z).1)<=(w64 (g.High * ((s63 l_a0 g.Z).2)))))
 false)
end
theorem q38 (l_a0:Line) (g:Gate) (K:List PA->Prop) (hk:K (e38 (s38 l_a0 g))):vcFun Tryz.prog G38 zNI 38 [.agg (zce l_a0),.agg (enc_48 g)] K :=
  zaN (by kernel_rfl) (zt hk (λ hk=>hk) (λ hk=>hk))
def zJF : List PA → COut
  | [.agg [.int .i64 zbu,.int .i64 zbv,.int .i64 zbw,.int .i64 zbx],.agg [.int .i64 zGO,.int .i64 zlP,.int .i64 zhR]]=>.tot [.one (.bool (s38 (⟨(⟨zbu,zbv⟩:Frac),(⟨zbw,zbx⟩:Frac)⟩:Line) (⟨zGO,zlP,zhR⟩:Gate)))]
  | _=>.no
theorem zNJ:zah Tryz.prog 38:=⟨_,rfl,rfl,by kernel_rfl⟩
theorem zSg:Ok Tryz.prog 38 zJF:=za3 zQt zNJ λ args K h=>by
  unfold zJF at h
  split at h
  · rename_i zbu zbv zbw zbx zGO zlP zhR
    have hk:=h
    exact⟨(λ _ _=>[]),(λ _=>false),zNI,q38 (⟨(⟨zbu,zbv⟩:Frac),(⟨zbw,zbx⟩:Frac)⟩:Line) (⟨zGO,zlP,zhR⟩:Gate) K hk⟩
  · exact h.elim
abbrev T14:Tabs:=(Tabs.nil.addF 38 zJF)
theorem zQu:TabsOk Tryz.prog T14:=(TabsOk.nil.addF zSg)
abbrev G14:Ctrs:=csm T14 (λ _ _=>[]) (λ _=>false)
def zJG:Ann:=⟨24,[(0,zK [1,2] [2]),(1,zK [1,2,5] [2]),(2,zK [1,2,5,6] [2]),(3,zK [1,2,5,6,10] [2,22]),(4,zK [1,2,5,6] [2,22]),(5,zK [1,2,5,6,18] [2,22]),(6,zK [1,2,5,6] [2,22]),(7,zK [4] [22])],
 [(3,⟨[1,2,5,6],[2,22],[(5,22,3,λ _=>zak default)],[],[],[],[]⟩)],
 [(6,zK [1,2,5,6,18] [2,22])],
 [],[]⟩
abbrev R14:=(Sl Int)
abbrev e14 (r:R14):List PA:=[.one (.sl r.len 1 (λ i=>zak (r.get i)))]
@[irreducible] def z14:=ptF Tryz.prog G14 zJG Tryz.f14
def zFE (l_a0:Line) (zaa:(Sl Gate)) (iv0:Int) (zcg:(Sl Int)) (zdj:Nat->List PV):St:=⟨[(1,zS enc_48 3 zaa),(2,zp 2 0),(5,zv 22),(6,zI iv0)],[(2,.box 42 (zm (zce l_a0))),(22,.vec 3 1 8 zcg.len zdj)],[]⟩
abbrev zJH (K:List PA->Prop) (l_a0:Line) (zaa:(Sl Gate)) (X:St->Prop) (P:Int->(Sl Int)->Bool) (S:Int->(Sl Int)->(Sl Int)):Prop:=∀ ⦃iv0:Int⦄ ⦃zcg:(Sl Int)⦄ ⦃zdj:Nat->List PV⦄,P iv0 zcg=true->K (e14 (S iv0 zcg))->zdj=zg zak zcg->X (zFE l_a0 zaa iv0 zcg zdj)
section
variable {K:List PA->Prop}{l_a0:Line}{zaa:(Sl Gate)}{iv0:Int}{zcg:(Sl Int)}{zdj:Nat->List PV}{X0:St->Prop}{P0:Int->(Sl Int)->Bool}{S0:Int->(Sl Int)->(Sl Int)}{iv1:Int}{zty:Bool}{zhf:(Sl Int)}{zBG:Nat->List PV}
def ztz (S0:Int->(Sl Int)->(Sl Int)) (l_a0:Line) (zaa:(Sl Gate)) (iv1:Int) (zty:Bool) (zhf:(Sl Int)):(Sl Int) :=
  (cond zty
 (S0 (w64 (iv1+(1:Int))) (⟨(zhf.len+1),(zgv zhf.len zhf.get (λ _=>iv1))⟩:Sl Int))
 (S0 (w64 (iv1+(1:Int))) zhf))
def ztA (P0:Int->(Sl Int)->Bool) (l_a0:Line) (zaa:(Sl Gate)) (iv1:Int) (zty:Bool) (zhf:(Sl Int)):Bool :=
  (cond zty
 (decide (((zhf.len+1) * 8<=140737488355328/\zhf.len+1<=9223372036854775807)) &&
 (P0 (w64 (iv1+(1:Int))) (⟨(zhf.len+1),(zgv zhf.len zhf.get (λ _=>iv1))⟩:Sl Int)))
 (P0 (w64 (iv1+(1:Int))) zhf))
theorem zJI (hX0:zJH K l_a0 zaa X0 P0 S0) (hs:ztA P0 l_a0 zaa iv1 zty zhf=true) (hk:K (e14 (ztz S0 l_a0 zaa iv1 zty zhf))) (zJJ:zBG=zg zak zhf):z14 K [1,1,0,1,0,0,1,0,0,1] [X0] ⟨[(1,zS enc_48 3 zaa),(2,zp 2 0),(5,zv 22),(6,zI iv1),(18,zB zty)],[(2,.box 42 (zm (zce l_a0))),(22,.vec 3 1 8 zhf.len zBG)],[]⟩:=by subst zJJ;exact zaN (by kernel_rfl) (zc hs hk (λ hs hk=>(zaI hs λ hc hs=>And.intro hc (hX0 hs hk (zhA (enc:=zak) (f:=zhf.get) (h:=(λ _=>iv1)) rfl rfl)))) (λ hs hk=>(hX0 hs hk rfl)))
def zjH (l_a0:Line) (zaa:(Sl Gate)) (S0:Int->(Sl Int)->(Sl Int)) (iv0:Int) (zcg:(Sl Int)):(Sl Int) :=
  (cond (decide (iv0 < (zaa.len : Int)))
 (ztz S0 l_a0 zaa iv0 (s38 l_a0 (zaa.get iv0.toNat)) zcg)
 zcg)
def zjI (l_a0:Line) (zaa:(Sl Gate)) (P0:Int->(Sl Int)->Bool) (iv0:Int) (zcg:(Sl Int)):Bool :=
  (cond (decide (iv0 < (zaa.len : Int)))
 (decide ((0<=iv0/\iv0 < (zaa.len:Int))) &&
 (ztA P0 l_a0 zaa iv0 (s38 l_a0 (zaa.get iv0.toNat)) zcg))
 true)
def zjJ (l_a0:Line) (zaa:(Sl Gate)):Nat->Int->(Sl Int)->(Sl Int):=lpO (λ _ _=>default) (zjH l_a0 zaa)
def zjK (l_a0:Line) (zaa:(Sl Gate)):Nat->Int->(Sl Int)->Bool:=lpO (λ _ _=>false) (zjI l_a0 zaa)
def zBH (l_a0:Line) (zaa:(Sl Gate)) (iv0:Int) (zcg:(Sl Int)):(Sl Int):=zjJ l_a0 zaa Fuel iv0 zcg
def zBI (l_a0:Line) (zaa:(Sl Gate)) (iv0:Int) (zcg:(Sl Int)):Bool:=zjK l_a0 zaa Fuel iv0 zcg
theorem zJK (hs:zBI l_a0 zaa iv0 zcg=true) (hk:K (e14 (zBH l_a0 zaa iv0 zcg))) (zie:zdj=zg zak zcg):z14 K [1,1,0,1,0] [] (zFE l_a0 zaa iv0 zcg zdj) :=
  zl (λ X=>z14 K [1,1,0,1,0,0] [X]) (by kernel_rfl) λ X0 hX =>
  (show ∀ k, zJH K l_a0 zaa X0 (zjK l_a0 zaa k) (zjJ l_a0 zaa k) from zgw _ _ (zjI l_a0 zaa) (zjH l_a0 zaa) (zJH K l_a0 zaa X0)
 (by intro _ _ _ hs;exact absurd hs dqk)
 (by intro P0 S0 hX0 iv0 zcg zdj hs hk zie;subst zie;exact hX _ (zaN (by kernel_rfl) (zc hs hk (λ hs hk=>(zaI hs λ hc hs=>And.intro hc (zJI hX0 hs hk rfl))) (λ hs hk=>hk))))) _ hs hk zie
def s14 (l_a0:Line) (zaa:(Sl Gate)):(Sl Int) :=
  (zBH l_a0 zaa (0:Int) (⟨0,(λ _=>default)⟩:Sl Int))
def p14 (l_a0:Line) (zaa:(Sl Gate)):Bool :=
  (zBI l_a0 zaa (0:Int) (⟨0,(λ _=>default)⟩:Sl Int))
end
theorem q14 (l_a0:Line) (zaa:(Sl Gate)) (K:List PA->Prop) (hs:p14 l_a0 zaa=true) (hk:K (e14 (s14 l_a0 zaa))):vcFun Tryz.prog G14 zJG 14 [.agg (zce l_a0),.one (.sl zaa.len 3 (λ i=>enc_48 (zaa.get i)))] K :=
  zaN (by kernel_rfl) (zJK hs hk rfl)
def zJL : List PA → COut
  | [.agg [.int .i64 zbu,.int .i64 zbv,.int .i64 zbw,.int .i64 zbx],.one (.sl zet zj9 zeu)]=>.det (IsE enc_48 3 zj9 zeu/\p14 (⟨(⟨zbu,zbv⟩:Frac),(⟨zbw,zbx⟩:Frac)⟩:Line) (⟨zet,zaf zeu⟩:(Sl Gate))=true) [.one (.sl ((s14 (⟨(⟨zbu,zbv⟩:Frac),(⟨zbw,zbx⟩:Frac)⟩:Line) (⟨zet,zaf zeu⟩:(Sl Gate))).len) 1 (λ i=>zak ((s14 (⟨(⟨zbu,zbv⟩:Frac),(⟨zbw,zbx⟩:Frac)⟩:Line) (⟨zet,zaf zeu⟩:(Sl Gate))).get i)))]
  | _=>.no
theorem call14:zah Tryz.prog 14:=⟨_,rfl,rfl,by kernel_rfl⟩
theorem zSh:Ok Tryz.prog 14 zJL:=za3 zQu call14 λ args K h=>by
  unfold zJL at h
  split at h
  · rename_i zbu zbv zbw zbx zet zj9 zeu
    obtain⟨⟨⟨rfl,zhn,rfl⟩,hs⟩,hk⟩:=h
    try rw[zae zhn] at hs
    try rw[zae zhn] at hk
    exact⟨(λ _ _=>[]),(λ _=>false),zJG,q14 (⟨(⟨zbu,zbv⟩:Frac),(⟨zbw,zbx⟩:Frac)⟩:Line) (⟨zet,zhn⟩:(Sl Gate)) K hs hk⟩
  · exact h.elim
abbrev T15:Tabs:=(Tabs.nil.addF 26 zD0)
theorem zQv:TabsOk Tryz.prog T15:=(TabsOk.nil.addF zQ3)
abbrev G15:Ctrs:=csm T15 (λ _ _=>[]) (λ _=>false)
def zJM:Ann:=⟨35,[(0,zK [0,1,2,3,8] [8]),(1,zK [0,1,2,3,8,11] [8]),(2,zK [0,1,2,3,8] [8]),(3,zK [8] [8])],
 [],
 [(3,zK [0,1,2,3,8] [8])],
 [],[]⟩
abbrev R15:=Line
abbrev e15 (r:R15):List PA:=[.agg [.int .i64 r.Slope.Num,.int .i64 r.Slope.Den,.int .i64 r.Start.Num,.int .i64 r.Start.Den]]
@[irreducible] def z15:=ptF Tryz.prog G15 zJM Tryz.f15
section
variable {K:List PA->Prop}{z:Int}{x:Int}{w:Int}{y_a3:Int}{zv0:Int}{xv0:Int}{wv0:Int}{yv0:Int}
def zo8 (zv0:Int) (xv0:Int) (wv0:Int) (yv0:Int):Line :=
  (⟨(s26 (w64 (yv0 - xv0)) (w64 (wv0 - zv0))),(s26 (w64 ((w64 (xv0 * wv0)) - (w64 (yv0 * zv0)))) (w64 (wv0 - zv0)))⟩:Line)
def zo9 (zv0:Int) (xv0:Int) (wv0:Int) (yv0:Int):Bool :=
  (decide ((p26 (w64 (yv0 - xv0)) (w64 (wv0 - zv0))=true)) &&
 (decide ((p26 (w64 ((w64 (xv0 * wv0)) - (w64 (yv0 * zv0)))) (w64 (wv0 - zv0))=true)) &&
 true))
theorem zBJ (hs:zo9 zv0 xv0 wv0 yv0=true) (hk:K (e15 (zo8 zv0 xv0 wv0 yv0))):z15 K [1,1] [] ⟨[(0,zI zv0),(1,zI xv0),(2,zI wv0),(3,zI yv0),(8,zp 8 0)],[(8,.box 42 (zm (zce (⟨(⟨(0:Int),(0:Int)⟩:Frac),(⟨(0:Int),(0:Int)⟩:Frac)⟩:Line))))],[]⟩:=zaN (by kernel_rfl) (zaI hs λ hc hs=>And.intro hc (zaI hs λ hc hs=>And.intro hc hk))
def s15 (z:Int) (x:Int) (w:Int) (y_a3:Int):Line :=
  (cond (decide (w < z))
 (zo8 w y_a3 z x)
 (zo8 z x w y_a3))
def p15 (z:Int) (x:Int) (w:Int) (y_a3:Int):Bool :=
  (cond (decide (w < z))
 (zo9 w y_a3 z x)
 (zo9 z x w y_a3))
end
theorem q15 (z:Int) (x:Int) (w:Int) (y_a3:Int) (K:List PA->Prop) (hs:p15 z x w y_a3=true) (hk:K (e15 (s15 z x w y_a3))):vcFun Tryz.prog G15 zJM 15 [.one (.int .i64 z),.one (.int .i64 x),.one (.int .i64 w),.one (.int .i64 y_a3)] K :=
  zaN (by kernel_rfl) (zc hs hk (λ hs hk=>(zBJ hs hk)) (λ hs hk=>(zBJ hs hk)))
def zJN : List PA → COut
  | [.one (.int .i64 a0),.one (.int .i64 a1),.one (.int .i64 a2),.one (.int .i64 a3)]=>.det (p15 a0 a1 a2 a3=true) [.agg [.int .i64 ((s15 a0 a1 a2 a3).Slope.Num),.int .i64 ((s15 a0 a1 a2 a3).Slope.Den),.int .i64 ((s15 a0 a1 a2 a3).Start.Num),.int .i64 ((s15 a0 a1 a2 a3).Start.Den)]]
  | _=>.no
theorem zNK:zah Tryz.prog 15:=⟨_,rfl,rfl,by kernel_rfl⟩
theorem zSi:Ok Tryz.prog 15 zJN:=za3 zQv zNK λ args K h=>by
  unfold zJN at h
  split at h
  · rename_i a0 a1 a2 a3
    obtain⟨hs,hk⟩:=h
    exact⟨(λ _ _=>[]),(λ _=>false),zJM,q15 a0 a1 a2 a3 K hs hk⟩
  · exact h.elim
abbrev T16:Tabs:=Tabs.nil
theorem zQw:TabsOk Tryz.prog T16:=TabsOk.nil
abbrev G16:Ctrs:=csm T16 (λ _ _=>[]) (λ _=>false)
def zJO:Ann:=⟨45,[(0,zK [0,1] []),(1,zK [0,1,5] []),(2,zK [0,1,5,6] []),(3,zK [0,1,5,6,10] []),(4,zK [0,1,5,6] []),(5,zK [0,1,5,6,27] []),(6,zK [0,1,5,6] []),(7,zK [0,1,5,6,44] []),(8,zK [4] []),(9,zK [4] [])],
 [(3,zK [0,1,5,6] []),(5,zK [0,1,5,6] [])],
 [(7,zK [0,1,5,6] [])],
 [],[]⟩
abbrev R16:=Bool
abbrev e16 (r:R16):List PA:=[.one (.bool r)]
@[irreducible] def z16:=ptF Tryz.prog G16 zJO Tryz.f16
def zFF (a:(Sl Int)) (b:(Sl Int)) (kv0:Int) (iv0:Int):St:=⟨[(0,zS zak 1 a),(1,zS zak 1 b),(5,zI kv0),(6,zI iv0)],[],[]⟩
abbrev zD5 (K:List PA->Prop) (a:(Sl Int)) (b:(Sl Int)) (X:St->Prop) (P:Int->Int->Bool) (S:Int->Int->Bool):Prop:=∀ ⦃kv0:Int⦄ ⦃iv0:Int⦄,P kv0 iv0=true->K (e16 (S kv0 iv0))->X (zFF a b kv0 iv0)
def zFG (a:(Sl Int)) (b:(Sl Int)) (kv1:Int) (iv1:Int):St:=⟨[(0,zS zak 1 a),(1,zS zak 1 b),(5,zI kv1),(6,zI iv1)],[],[]⟩
abbrev zNL (K:List PA->Prop) (a:(Sl Int)) (b:(Sl Int)) (X:St->Prop) (P:Int->Int->Bool) (S:Int->Int->Bool):Prop:=∀ ⦃kv1:Int⦄ ⦃iv1:Int⦄,P kv1 iv1=true->K (e16 (S kv1 iv1))->X (zFG a b kv1 iv1)
section
variable {K:List PA->Prop}{a:(Sl Int)}{b:(Sl Int)}{kv0:Int}{iv0:Int}{X0:St->Prop}{P0:Int->Int->Bool}{S0:Int->Int->Bool}{kv1:Int}{iv1:Int}{X1:St->Prop}{P1:Int->Int->Bool}{S1:Int->Int->Bool}{kv2:Int}{iv2:Int}
def zjL (S0:Int->Int->Bool) (a:(Sl Int)) (b:(Sl Int)) (kv2:Int) (iv2:Int):Bool :=
  (cond (kv2 == (b.len : Int))
 false
 (cond ((b.get kv2.toNat) != (a.get iv2.toNat))
 false
 (S0 kv2 (w64 (iv2+(1:Int))))))
def zjM (P0:Int->Int->Bool) (a:(Sl Int)) (b:(Sl Int)) (kv2:Int) (iv2:Int):Bool :=
  (cond (kv2 == (b.len : Int))
 true
 (decide ((0<=kv2/\kv2 < (b.len:Int))) &&
 (decide ((0<=iv2/\iv2 < (a.len:Int))) &&
 (cond ((b.get kv2.toNat) != (a.get iv2.toNat))
 true
 (P0 kv2 (w64 (iv2+(1:Int))))))))
theorem zBK (hX0:zD5 K a b X0 P0 S0) (hs:zjM P0 a b kv2 iv2=true) (hk:K (e16 (zjL S0 a b kv2 iv2))):z16 K [1,1,0,1,0,0,1,0,0,1] [X0] ⟨[(0,zS zak 1 a),(1,zS zak 1 b),(5,zI kv2),(6,zI iv2)],[],[]⟩:=zaN (by kernel_rfl) (zc hs hk (λ hs hk=>hk) (λ hs hk=>(zaI hs λ hc hs=>And.intro hc (zaI hs λ hc hs=>And.intro hc (zc hs hk (λ hs hk=>hk) (λ hs hk=>(hX0 hs hk)))))))
def zfr (S0:Int->Int->Bool) (a:(Sl Int)) (b:(Sl Int)) (S1:Int->Int->Bool) (kv1:Int) (iv1:Int):Bool :=
  (cond (decide (kv1 < (b.len : Int)))
 (cond (decide ((b.get kv1.toNat) < (a.get iv1.toNat)))
 (S1 (w64 (kv1+(1:Int))) iv1)
 (zjL S0 a b kv1 iv1))
 (zjL S0 a b kv1 iv1))
def zfs (P0:Int->Int->Bool) (a:(Sl Int)) (b:(Sl Int)) (P1:Int->Int->Bool) (kv1:Int) (iv1:Int):Bool :=
  (cond (decide (kv1 < (b.len : Int)))
 (decide ((0<=kv1/\kv1 < (b.len:Int))) &&
 (decide ((0<=iv1/\iv1 < (a.len:Int))) &&
 (cond (decide ((b.get kv1.toNat) < (a.get iv1.toNat)))
 (P1 (w64 (kv1+(1:Int))) iv1)
 (zjM P0 a b kv1 iv1))))
 (zjM P0 a b kv1 iv1))
def zdA (S0:Int->Int->Bool) (a:(Sl Int)) (b:(Sl Int)):Nat->Int->Int->Bool:=lpO (λ _ _=>default) (zfr S0 a b)
def zdB (P0:Int->Int->Bool) (a:(Sl Int)) (b:(Sl Int)):Nat->Int->Int->Bool:=lpO (λ _ _=>false) (zfs P0 a b)
def zBL (S0:Int->Int->Bool) (a:(Sl Int)) (b:(Sl Int)) (kv1:Int) (iv1:Int):Bool:=zdA S0 a b Fuel kv1 iv1
def zBM (P0:Int->Int->Bool) (a:(Sl Int)) (b:(Sl Int)) (kv1:Int) (iv1:Int):Bool:=zdB P0 a b Fuel kv1 iv1
theorem zJP (hX0:zD5 K a b X0 P0 S0) (hs:zBM P0 a b kv1 iv1=true) (hk:K (e16 (zBL S0 a b kv1 iv1))):z16 K [1,1,0,1,0,0,1,0,0,0,0] [X0] (zFG a b kv1 iv1) :=
  zl (λ X=>z16 K [1,1,0,1,0,0,1,0,0,0,0,0] [X0,X]) (by kernel_rfl) λ X1 hX =>
  (show ∀ k, zNL K a b X1 (zdB P0 a b k) (zdA S0 a b k) from zgw _ _ (zfs P0 a b) (zfr S0 a b) (zNL K a b X1)
 (by intro _ _ hs;exact absurd hs dqk)
 (by intro P1 S1 hX1 kv1 iv1 hs hk;exact hX _ (zaN (by kernel_rfl) (zc hs hk (λ hs hk=>(zaI hs λ hc hs=>And.intro hc (zaI hs λ hc hs=>And.intro hc (zc hs hk (λ hs hk=>(hX1 hs hk)) (λ hs hk=>(zBK hX0 hs hk)))))) (λ hs hk=>(zBK hX0 hs hk)))))) _ hs hk
def zif (a:(Sl Int)) (b:(Sl Int)) (S0:Int->Int->Bool) (kv0:Int) (iv0:Int):Bool :=
  (cond (decide (iv0 < (a.len : Int)))
 (zBL S0 a b kv0 iv0)
 true)
def zih (a:(Sl Int)) (b:(Sl Int)) (P0:Int->Int->Bool) (kv0:Int) (iv0:Int):Bool :=
  (cond (decide (iv0 < (a.len : Int)))
 (zBM P0 a b kv0 iv0)
 true)
def zgg (a:(Sl Int)) (b:(Sl Int)):Nat->Int->Int->Bool:=lpO (λ _ _=>default) (zif a b)
def zgh (a:(Sl Int)) (b:(Sl Int)):Nat->Int->Int->Bool:=lpO (λ _ _=>false) (zih a b)
def zBN (a:(Sl Int)) (b:(Sl Int)) (kv0:Int) (iv0:Int):Bool:=zgg a b Fuel kv0 iv0
def zBO (a:(Sl Int)) (b:(Sl Int)) (kv0:Int) (iv0:Int):Bool:=zgh a b Fuel kv0 iv0
theorem zJQ (hs:zBO a b kv0 iv0=true) (hk:K (e16 (zBN a b kv0 iv0))):z16 K [1,1,0,1,0] [] (zFF a b kv0 iv0) :=
  zl (λ X=>z16 K [1,1,0,1,0,0] [X]) (by kernel_rfl) λ X0 hX =>
  (show ∀ k, zD5 K a b X0 (zgh a b k) (zgg a b k) from zgw _ _ (zih a b) (zif a b) (zD5 K a b X0)
 (by intro _ _ hs;exact absurd hs dqk)
 (by intro P0 S0 hX0 kv0 iv0 hs hk;exact hX _ (zaN (by kernel_rfl) (zc hs hk (λ hs hk=>(zJP hX0 hs hk)) (λ hs hk=>hk))))) _ hs hk
def s16 (a:(Sl Int)) (b:(Sl Int)):Bool :=
  (zBN a b (0:Int) (0:Int))
def p16 (a:(Sl Int)) (b:(Sl Int)):Bool :=
  (zBO a b (0:Int) (0:Int))
end
theorem q16 (a:(Sl Int)) (b:(Sl Int)) (K:List PA->Prop) (hs:p16 a b=true) (hk:K (e16 (s16 a b))):vcFun Tryz.prog G16 zJO 16 [.one (.sl a.len 1 (λ i=>zak (a.get i))),.one (.sl b.len 1 (λ i=>zak (b.get i)))] K :=
  zaN (by kernel_rfl) (zJQ hs hk)
def zJR : List PA → COut
  | [.one (.sl zaU zcu zaV),.one (.sl zet zj9 zeu)]=>.det (IsE zak 1 zcu zaV/\IsE zak 1 zj9 zeu/\p16 (⟨zaU,zb7 zaV⟩:(Sl Int)) (⟨zet,zb7 zeu⟩:(Sl Int))=true) [.one (.bool (s16 (⟨zaU,zb7 zaV⟩:(Sl Int)) (⟨zet,zb7 zeu⟩:(Sl Int))))]
  | _=>.no
theorem call16:zah Tryz.prog 16:=⟨_,rfl,rfl,by kernel_rfl⟩
theorem ok16:Ok Tryz.prog 16 zJR:=za3 zQw call16 λ args K h=>by
  unfold zJR at h
  split at h
  · rename_i zaU zcu zaV zet zj9 zeu
    obtain⟨⟨⟨rfl,zbF,rfl⟩,⟨rfl,zhn,rfl⟩,hs⟩,hk⟩:=h
    try rw[zby zbF] at hs
    try rw[zby zbF] at hk
    try rw[zby zhn] at hs
    try rw[zby zhn] at hk
    exact⟨(λ _ _=>[]),(λ _=>false),zJO,q16 (⟨zaU,zbF⟩:(Sl Int)) (⟨zet,zhn⟩:(Sl Int)) K hs hk⟩
  · exact h.elim
abbrev T13:Tabs:=Tabs.nil
theorem zQx:TabsOk Tryz.prog T13:=TabsOk.nil
abbrev G13:Ctrs:=csm T13 (λ _ _=>[]) (λ _=>false)
def zNM:Ann:=⟨44,[(0,zK [0,1,2,3] []),(1,zK [8] [])],
 [],
 [],
 [],[]⟩
abbrev R13:=Bool
abbrev e13 (r:R13):List PA:=[.one (.bool r)]
section
variable {K:List PA->Prop}{z:Int}{x:Int}{w:Int}{y_a3:Int}
def s13 (z:Int) (x:Int) (w:Int) (y_a3:Int):Bool :=
  (cond (decide (z >= (0:Int)))
 (cond (decide (z <= (100000:Int)))
 (cond (decide (w >= (0:Int)))
 (cond (decide (w <= (100000:Int)))
 (cond (z != w)
 (cond (decide (x >= (-1000000:Int)))
 (cond (decide (x <= (1000000:Int)))
 (cond (decide (y_a3 >= (-1000000:Int)))
 (decide (y_a3<=(1000000:Int)))
 false)
 false)
 false)
 false)
 false)
 false)
 false)
 false)
end
theorem q13 (z:Int) (x:Int) (w:Int) (y_a3:Int) (K:List PA->Prop) (hk:K (e13 (s13 z x w y_a3))):vcFun Tryz.prog G13 zNM 13 [.one (.int .i64 z),.one (.int .i64 x),.one (.int .i64 w),.one (.int .i64 y_a3)] K :=
  zaN (by kernel_rfl) (zt hk (λ hk=>(zt hk (λ hk=>(zt hk (λ hk=>(zt hk (λ hk=>(zt hk (λ hk=>(zt hk (λ hk=>(zt hk (λ hk=>(zt hk (λ hk=>hk) (λ hk=>hk))) (λ hk=>hk))) (λ hk=>hk))) (λ hk=>hk))) (λ hk=>hk))) (λ hk=>hk))) (λ hk=>hk))) (λ hk=>hk))
def zJS : List PA → COut
  | [.one (.int .i64 a0),.one (.int .i64 a1),.one (.int .i64 a2),.one (.int .i64 a3)]=>.tot [.one (.bool (s13 a0 a1 a2 a3))]
  | _=>.no
theorem zNN:zah Tryz.prog 13:=⟨_,rfl,rfl,by kernel_rfl⟩
theorem zSj:Ok Tryz.prog 13 zJS:=za3 zQx zNN λ args K h=>by
  unfold zJS at h
  split at h
  · rename_i a0 a1 a2 a3
    have hk:=h
    exact⟨(λ _ _=>[]),(λ _=>false),zNM,q13 a0 a1 a2 a3 K hk⟩
  · exact h.elim
end Go.Proofs
