/- Part 6 of what the proof rests on: a machine that runs functions of the program on pure values, proved sound; the functions that the law reaches, and what they compute. -/
import Derived.Test.YtkilnbolehhcnaaGreatQ5
import Derived.Shelf.SlicesE.DeleteFunc
import Derived.Test.YtkilnbolehhcnaaGreatProg
set_option linter.all false
namespace Go.Proofs
open Go Go.Pm
set_option maxRecDepth 100000
set_option linter.unusedVariables false
attribute [local irreducible] Go.Pm.vcFun Go.Pm.vc Go.Pm.vcIter
abbrev T53:Tabs:=Tabs.nil
theorem zRB:TabsOk Tryz.prog T53:=TabsOk.nil
abbrev G53:Ctrs:=csm T53 (λ _ _=>[]) (λ _=>false)
def zOp:Ann:=⟨47,[(0,zK [0,1,2,3,4,5] []),(1,zK [0,1,2,13] []),(2,zK [13,14] []),(3,zK [12] [])],
 [],
 [],
 [],[]⟩
abbrev R53:=Int
abbrev e53 (r:R53):List PA:=[.one (.int .i64 r)]
section
variable {K:List PA->Prop}{u:Int}{v:Int}{w:Int}{p:Int}{q:Int}{r_a5:Int}
def s53 (u:Int) (v:Int) (w:Int) (p:Int) (q:Int) (r_a5:Int):Int :=
  (w64 ((w64 ((w64 ((w64 ((1000:Int) * (if (w64 (0 - (w64 ((w64 ((w64 (r_a5 - q)) * (w64 (v - u)))) - (w64 ((w64 (q - p)) * (w64 (w - v)))))))) > (w64 ((w64 ((w64 (r_a5 - q)) * (w64 (v - u)))) - (w64 ((w64 (q - p)) * (w64 (w - v)))))) then (w64 (0 - (w64 ((w64 ((w64 (r_a5 - q)) * (w64 (v - u)))) - (w64 ((w64 (q - p)) * (w64 (w - v)))))))) else (w64 ((w64 ((w64 (r_a5 - q)) * (w64 (v - u)))) - (w64 ((w64 (q - p)) * (w64 (w - v)))))))))+(w64 ((w64 (v - u)) * (w64 (w - v)))))) - (1:Int))).tdiv (w64 ((w64 (v - u)) * (w64 (w - v))))))
def p53 (u:Int) (v:Int) (w:Int) (p:Int) (q:Int) (r_a5:Int):Bool :=
  (decide (((w64 ((w64 (v - u)) * (w64 (w - v)))) ≠ 0)) &&
 true)
end
theorem q53 (u:Int) (v:Int) (w:Int) (p:Int) (q:Int) (r_a5:Int) (K:List PA->Prop) (hs:p53 u v w p q r_a5=true) (hk:K (e53 (s53 u v w p q r_a5))):vcFun Tryz.prog G53 zOp 53 [.one (.int .i64 u),.one (.int .i64 v),.one (.int .i64 w),.one (.int .i64 p),.one (.int .i64 q),.one (.int .i64 r_a5)] K :=
  zaM (by kernel_rfl) (zaI hs λ hc hs=>And.intro hc hk)
def zE7 : List PA → COut
  | [.one (.int .i64 a0),.one (.int .i64 a1),.one (.int .i64 a2),.one (.int .i64 a3),.one (.int .i64 a4),.one (.int .i64 a5)]=>.det (p53 a0 a1 a2 a3 a4 a5=true) [.one (.int .i64 (s53 a0 a1 a2 a3 a4 a5))]
  | _=>.no
theorem zOq:zah Tryz.prog 53:=⟨_,rfl,rfl,by kernel_rfl⟩
theorem zSM:Ok Tryz.prog 53 zE7:=zaV zRB zOq λ args K h=>by
  unfold zE7 at h
  split at h
  · rename_i a0 a1 a2 a3 a4 a5
    obtain⟨hs,hk⟩:=h
    exact⟨(λ _ _=>[]),(λ _=>false),zOp,q53 a0 a1 a2 a3 a4 a5 K hs hk⟩
  · exact h.elim
abbrev T52:Tabs:=(Tabs.nil.addF 53 zE7)
theorem zRC:TabsOk Tryz.prog T52:=(TabsOk.nil.addF zSM)
abbrev G52:Ctrs:=csm T52 (λ _ _=>[]) (λ l=>Nat.beq l 15 || Nat.beq l 24)
def zJN:Ann:=⟨131,[(0,zK [0] []),(1,zK [0,3] []),(2,zK [0,3,4] [15]),(3,zK [0,3,4,5] [15]),(4,zK [0,3,4,5,19] [15]),(5,zK [0,3,4,5] [15]),(6,zK [0,3,4,5] [15]),(7,zK [0,3,4,5,6] [15]),(8,zK [0,3,4,5,6,37] [15]),(9,zK [0,3,4,5,6] [15]),(10,zK [0,3,4,5,6,7] [15]),(11,zK [0,3,4,5,6,7,53] [15]),(12,zK [0,3,4,5,6,7] [15]),(13,zK [0,3,4,5,6,7,59] [15]),(14,zK [0,3,4,5,6,7] [15]),(15,zK [0,3,4,5,6,7,8] [15]),(16,zK [0,3,4,5,6,7,8,9] [15]),(17,zK [0,3,4,5,6,7,8,9,80] [15]),(18,zK [0,3,4,5,6,7,8,9] [15]),(19,zK [0,3,4,5,6,7,8,9,10] [15]),(20,zK [0,3,4,5,6,7,8,9,10,120] [15]),(21,zK [0,3,4,5,6,7,8,9] [15]),(22,zK [0,3,4,5,6,7] [15]),(23,zK [2] [15])],
 [(4,zK [0,3,4,5] [15]),(8,zK [0,3,4,5,6] [15]),(11,zK [0,3,4,5,6,7] [15]),(17,zK [0,3,4,5,6,7,8,9] [15])],
 [(15,zK [0,3,4,5,6,7] [15]),(20,zK [0,3,4,5,6,7,8,9,10] [15])],
 [],[]⟩
abbrev R52:=(Sl Mp)
abbrev e52 (r:R52):List PA:=[.one (.sl r.len 1 (λ i=>zfp (r.get i)))]
@[irreducible] def z52:=ptF Tryz.prog G52 zJN Tryz.f52
def zGc (zaa:(Sl Gate)) (iv0:Int) (zcI:Nat) (zcn:(Nat->Bool)) (zco:(Nat->Nat)) (zc2:(Nat->List Int->Option (List Int))):St:=⟨[(0,zS enc_48 3 zaa),(3,zI (zaa.len:Int)),(4,zv 15),(5,zI iv0)],[(15,.vm 89 8 91 3 (true,2,false,[some .i64]) zcI zcn zco zc2)],[]⟩
abbrev zsz (K:List PA->Prop) (zaa:(Sl Gate)) (X:St->Prop) (P:Int->Nat->(Nat->Bool)->(Nat->Nat)->(Nat->List Int->Option (List Int))->Bool) (S:Int->Nat->(Nat->Bool)->(Nat->Nat)->(Nat->List Int->Option (List Int))->(Sl Mp)):Prop:=∀ ⦃iv0:Int⦄ ⦃zcI:Nat⦄ ⦃zcn:(Nat->Bool)⦄ ⦃zco:(Nat->Nat)⦄ ⦃zc2:(Nat->List Int->Option (List Int))⦄,P iv0 zcI zcn zco zc2=true->K (e52 (S iv0 zcI zcn zco zc2))->X (zGc zaa iv0 zcI zcn zco zc2)
def zGd (zaa:(Sl Gate)) (iv1:Int) (pv1:Int) (zcV:Nat) (zcc:(Nat->Bool)) (zcd:(Nat->Nat)) (zcW:(Nat->List Int->Option (List Int))):St:=⟨[(0,zS enc_48 3 zaa),(3,zI (zaa.len:Int)),(4,zv 15),(5,zI iv1),(6,zI pv1)],[(15,.vm 89 8 91 3 (true,2,false,[some .i64]) zcV zcc zcd zcW)],[]⟩
abbrev zwK (K:List PA->Prop) (zaa:(Sl Gate)) (X:St->Prop) (P:Int->Int->Nat->(Nat->Bool)->(Nat->Nat)->(Nat->List Int->Option (List Int))->Bool) (S:Int->Int->Nat->(Nat->Bool)->(Nat->Nat)->(Nat->List Int->Option (List Int))->(Sl Mp)):Prop:=∀ ⦃iv1:Int⦄ ⦃pv1:Int⦄ ⦃zcV:Nat⦄ ⦃zcc:(Nat->Bool)⦄ ⦃zcd:(Nat->Nat)⦄ ⦃zcW:(Nat->List Int->Option (List Int))⦄,P iv1 pv1 zcV zcc zcd zcW=true->K (e52 (S iv1 pv1 zcV zcc zcd zcW))->X (zGd zaa iv1 pv1 zcV zcc zcd zcW)
def zGe (zaa:(Sl Gate)) (iv2:Int) (pv2:Int) (qv2:Int) (zce:Nat) (zbQ:(Nat->Bool)) (zbK:(Nat->Nat)) (zb4:(Nat->List Int->Option (List Int))):St:=⟨[(0,zS enc_48 3 zaa),(3,zI (zaa.len:Int)),(4,zv 15),(5,zI iv2),(6,zI pv2),(7,zI qv2)],[(15,.vm 89 8 91 3 (true,2,false,[some .i64]) zce zbQ zbK zb4)],[]⟩
abbrev zBi (K:List PA->Prop) (zaa:(Sl Gate)) (X:St->Prop) (P:Int->Int->Int->Nat->(Nat->Bool)->(Nat->Nat)->(Nat->List Int->Option (List Int))->Bool) (S:Int->Int->Int->Nat->(Nat->Bool)->(Nat->Nat)->(Nat->List Int->Option (List Int))->(Sl Mp)):Prop:=∀ ⦃iv2:Int⦄ ⦃pv2:Int⦄ ⦃qv2:Int⦄ ⦃zce:Nat⦄ ⦃zbQ:(Nat->Bool)⦄ ⦃zbK:(Nat->Nat)⦄ ⦃zb4:(Nat->List Int->Option (List Int))⦄,P iv2 pv2 qv2 zce zbQ zbK zb4=true->K (e52 (S iv2 pv2 qv2 zce zbQ zbK zb4))->X (zGe zaa iv2 pv2 qv2 zce zbQ zbK zb4)
def zGf (zaa:(Sl Gate)) (qv3:Int) (iv4:Int) (pv4:Int) (zdB:Int) (rv4:Int) (zb5:Nat) (zbU:(Nat->Bool)) (zbV:(Nat->Nat)) (zbT:(Nat->List Int->Option (List Int))):St:=⟨[(0,zS enc_48 3 zaa),(3,zI (zaa.len:Int)),(4,zv 15),(5,zI iv4),(6,zI pv4),(7,zI qv3),(8,zI zdB),(9,zI rv4)],[(15,.vm 89 8 91 3 (true,2,false,[some .i64]) zb5 zbU zbV zbT)],[]⟩
abbrev zJO (K:List PA->Prop) (zaa:(Sl Gate)) (qv3:Int) (X:St->Prop) (P:Int->Int->Int->Int->Nat->(Nat->Bool)->(Nat->Nat)->(Nat->List Int->Option (List Int))->Bool) (S:Int->Int->Int->Int->Nat->(Nat->Bool)->(Nat->Nat)->(Nat->List Int->Option (List Int))->(Sl Mp)):Prop:=∀ ⦃iv4:Int⦄ ⦃pv4:Int⦄ ⦃zdB:Int⦄ ⦃rv4:Int⦄ ⦃zb5:Nat⦄ ⦃zbU:(Nat->Bool)⦄ ⦃zbV:(Nat->Nat)⦄ ⦃zbT:(Nat->List Int->Option (List Int))⦄,P iv4 pv4 zdB rv4 zb5 zbU zbV zbT=true->K (e52 (S iv4 pv4 zdB rv4 zb5 zbU zbV zbT))->X (zGf zaa qv3 iv4 pv4 zdB rv4 zb5 zbU zbV zbT)
section
variable {K:List PA->Prop}{zaa:(Sl Gate)}{iv0:Int}{zcI:Nat}{zcn:(Nat->Bool)}{zco:(Nat->Nat)}{zc2:(Nat->List Int->Option (List Int))}{X0:St->Prop}{P0:Int->Nat->(Nat->Bool)->(Nat->Nat)->(Nat->List Int->Option (List Int))->Bool}{S0:Int->Nat->(Nat->Bool)->(Nat->Nat)->(Nat->List Int->Option (List Int))->(Sl Mp)}{iv1:Int}{pv1:Int}{zcV:Nat}{zcc:(Nat->Bool)}{zcd:(Nat->Nat)}{zcW:(Nat->List Int->Option (List Int))}{X1:St->Prop}{P1:Int->Int->Nat->(Nat->Bool)->(Nat->Nat)->(Nat->List Int->Option (List Int))->Bool}{S1:Int->Int->Nat->(Nat->Bool)->(Nat->Nat)->(Nat->List Int->Option (List Int))->(Sl Mp)}{iv2:Int}{pv2:Int}{qv2:Int}{zce:Nat}{zbQ:(Nat->Bool)}{zbK:(Nat->Nat)}{zb4:(Nat->List Int->Option (List Int))}{X2:St->Prop}{P2:Int->Int->Int->Nat->(Nat->Bool)->(Nat->Nat)->(Nat->List Int->Option (List Int))->Bool}{S2:Int->Int->Int->Nat->(Nat->Bool)->(Nat->Nat)->(Nat->List Int->Option (List Int))->(Sl Mp)}{iv3:Int}{pv3:Int}{qv3:Int}{zin:Nat}{zgj:(Nat->Bool)}{zgk:(Nat->Nat)}{zio:(Nat->List Int->Option (List Int))}{iv4:Int}{pv4:Int}{zdB:Int}{rv4:Int}{zb5:Nat}{zbU:(Nat->Bool)}{zbV:(Nat->Nat)}{zbT:(Nat->List Int->Option (List Int))}{X4:St->Prop}{P4:Int->Int->Int->Int->Nat->(Nat->Bool)->(Nat->Nat)->(Nat->List Int->Option (List Int))->Bool}{S4:Int->Int->Int->Int->Nat->(Nat->Bool)->(Nat->Nat)->(Nat->List Int->Option (List Int))->(Sl Mp)}{iv5:Int}{pv5:Int}{zg4:Int}{rv5:Int}{kv5:Int}{ze5:Nat}{zdT:(Nat->Bool)}{zdU:(Nat->Nat)}{ze6:(Nat->List Int->Option (List Int))}
def zBj (S0:Int->Nat->(Nat->Bool)->(Nat->Nat)->(Nat->List Int->Option (List Int))->(Sl Mp)) (S1:Int->Int->Nat->(Nat->Bool)->(Nat->Nat)->(Nat->List Int->Option (List Int))->(Sl Mp)) (S2:Int->Int->Int->Nat->(Nat->Bool)->(Nat->Nat)->(Nat->List Int->Option (List Int))->(Sl Mp)) (S4:Int->Int->Int->Int->Nat->(Nat->Bool)->(Nat->Nat)->(Nat->List Int->Option (List Int))->(Sl Mp)) (zaa:(Sl Gate)) (qv3:Int) (iv5:Int) (pv5:Int) (zg4:Int) (rv5:Int) (kv5:Int) (ze5:Nat) (zdT:(Nat->Bool)) (zdU:(Nat->Nat)) (ze6:(Nat->List Int->Option (List Int))):(Sl Mp) :=
  (cond (decide (zg4 < (0:Int)))
 (S4 iv5 pv5 kv5 (w64 (rv5+(1:Int))) ze5 zdT zdU ze6)
 (cond (decide (kv5 < zg4))
 (S4 iv5 pv5 kv5 (w64 (rv5+(1:Int))) ze5 zdT zdU ze6)
 (S4 iv5 pv5 zg4 (w64 (rv5+(1:Int))) ze5 zdT zdU ze6)))
def zBk (P0:Int->Nat->(Nat->Bool)->(Nat->Nat)->(Nat->List Int->Option (List Int))->Bool) (P1:Int->Int->Nat->(Nat->Bool)->(Nat->Nat)->(Nat->List Int->Option (List Int))->Bool) (P2:Int->Int->Int->Nat->(Nat->Bool)->(Nat->Nat)->(Nat->List Int->Option (List Int))->Bool) (P4:Int->Int->Int->Int->Nat->(Nat->Bool)->(Nat->Nat)->(Nat->List Int->Option (List Int))->Bool) (zaa:(Sl Gate)) (qv3:Int) (iv5:Int) (pv5:Int) (zg4:Int) (rv5:Int) (kv5:Int) (ze5:Nat) (zdT:(Nat->Bool)) (zdU:(Nat->Nat)) (ze6:(Nat->List Int->Option (List Int))):Bool :=
  (cond (decide (zg4 < (0:Int)))
 (P4 iv5 pv5 kv5 (w64 (rv5+(1:Int))) ze5 zdT zdU ze6)
 (cond (decide (kv5 < zg4))
 (P4 iv5 pv5 kv5 (w64 (rv5+(1:Int))) ze5 zdT zdU ze6)
 (P4 iv5 pv5 zg4 (w64 (rv5+(1:Int))) ze5 zdT zdU ze6)))
theorem zJP (hX0:zsz K zaa X0 P0 S0) (hX1:zwK K zaa X1 P1 S1) (hX2:zBi K zaa X2 P2 S2) (hX4:zJO K zaa qv3 X4 P4 S4) (hs:zBk P0 P1 P2 P4 zaa qv3 iv5 pv5 zg4 rv5 kv5 ze5 zdT zdU ze6=true) (hk:K (e52 (zBj S0 S1 S2 S4 zaa qv3 iv5 pv5 zg4 rv5 kv5 ze5 zdT zdU ze6))):z52 K [1,1,1,0,1,0,0,1,0,0,1,1,0,0,1,0,0,1,0,0,1,0,0,1,1,0,1,0,0,1,0,0,1] [X0,X1,X2,X4] ⟨[(0,zS enc_48 3 zaa),(3,zI (zaa.len:Int)),(4,zv 15),(5,zI iv5),(6,zI pv5),(7,zI qv3),(8,zI zg4),(9,zI rv5),(10,zI kv5)],[(15,.vm 89 8 91 3 (true,2,false,[some .i64]) ze5 zdT zdU ze6)],[]⟩:=zaM (by kernel_rfl) (zc hs hk (λ hs hk=>(hX4 hs hk)) (λ hs hk=>(zc hs hk (λ hs hk=>(hX4 hs hk)) (λ hs hk=>(hX4 hs hk)))))
def zBl (S0:Int->Nat->(Nat->Bool)->(Nat->Nat)->(Nat->List Int->Option (List Int))->(Sl Mp)) (S1:Int->Int->Nat->(Nat->Bool)->(Nat->Nat)->(Nat->List Int->Option (List Int))->(Sl Mp)) (S2:Int->Int->Int->Nat->(Nat->Bool)->(Nat->Nat)->(Nat->List Int->Option (List Int))->(Sl Mp)) (zaa:(Sl Gate)) (qv3:Int) (S4:Int->Int->Int->Int->Nat->(Nat->Bool)->(Nat->Nat)->(Nat->List Int->Option (List Int))->(Sl Mp)) (iv4:Int) (pv4:Int) (zdB:Int) (rv4:Int) (zb5:Nat) (zbU:(Nat->Bool)) (zbV:(Nat->Nat)) (zbT:(Nat->List Int->Option (List Int))):(Sl Mp) :=
  (cond (decide (rv4 <= (zaa.get ((w64 (iv4 + (2:Int))).toNat)).High))
 (zBj S0 S1 S2 S4 zaa qv3 iv4 pv4 zdB rv4 (if (zfT ((zbT ((w64 (iv4+(1:Int))).toNat)) [qv3,rv4]) 0) > (s53 ((zaa.get iv4.toNat).Z) ((zaa.get ((w64 (iv4+(1:Int))).toNat)).Z) ((zaa.get ((w64 (iv4+(2:Int))).toNat)).Z) pv4 qv3 rv4) then (zfT ((zbT ((w64 (iv4+(1:Int))).toNat)) [qv3,rv4]) 0) else (s53 ((zaa.get iv4.toNat).Z) ((zaa.get ((w64 (iv4+(1:Int))).toNat)).Z) ((zaa.get ((w64 (iv4+(2:Int))).toNat)).Z) pv4 qv3 rv4)) zb5 zbU zbV zbT)
 (S2 iv4 pv4 (w64 (qv3+(1:Int))) zb5 zbU (zc5 iv4.toNat (addN ((zbT iv4.toNat) [pv4,qv3]) (zbV iv4.toNat)) zbV) (zc5 iv4.toNat (zhO [pv4,qv3] [zdB] (zbT iv4.toNat)) zbT)))
def zBm (P0:Int->Nat->(Nat->Bool)->(Nat->Nat)->(Nat->List Int->Option (List Int))->Bool) (P1:Int->Int->Nat->(Nat->Bool)->(Nat->Nat)->(Nat->List Int->Option (List Int))->Bool) (P2:Int->Int->Int->Nat->(Nat->Bool)->(Nat->Nat)->(Nat->List Int->Option (List Int))->Bool) (zaa:(Sl Gate)) (qv3:Int) (P4:Int->Int->Int->Int->Nat->(Nat->Bool)->(Nat->Nat)->(Nat->List Int->Option (List Int))->Bool) (iv4:Int) (pv4:Int) (zdB:Int) (rv4:Int) (zb5:Nat) (zbU:(Nat->Bool)) (zbV:(Nat->Nat)) (zbT:(Nat->List Int->Option (List Int))):Bool :=
  (decide ((0<=(w64 (iv4+(2:Int)))/\(w64 (iv4+(2:Int))) < (zaa.len:Int))) &&
 (cond (decide (rv4 <= (zaa.get ((w64 (iv4 + (2:Int))).toNat)).High))
 (decide ((0<=iv4/\iv4 < (zaa.len:Int))) &&
 (decide ((0<=(w64 (iv4+(1:Int)))/\(w64 (iv4+(1:Int))) < (zaa.len:Int))) &&
 (decide ((0<=(w64 (iv4+(2:Int)))/\(w64 (iv4+(2:Int))) < (zaa.len:Int))) &&
 (decide ((p53 ((zaa.get iv4.toNat).Z) ((zaa.get ((w64 (iv4+(1:Int))).toNat)).Z) ((zaa.get ((w64 (iv4+(2:Int))).toNat)).Z) pv4 qv3 rv4=true)) &&
 (decide ((0<=(w64 (iv4+(1:Int)))/\(w64 (iv4+(1:Int))) < (zb5:Int))) &&
 (decide (((w64 (iv4+(1:Int))).toNat < zb5/\zbU ((w64 (iv4+(1:Int))).toNat)=true)) &&
 (decide (((w64 (iv4+(1:Int))).toNat < zb5)) &&
 (zBk P0 P1 P2 P4 zaa qv3 iv4 pv4 zdB rv4 (if (zfT ((zbT ((w64 (iv4+(1:Int))).toNat)) [qv3,rv4]) 0) > (s53 ((zaa.get iv4.toNat).Z) ((zaa.get ((w64 (iv4+(1:Int))).toNat)).Z) ((zaa.get ((w64 (iv4+(2:Int))).toNat)).Z) pv4 qv3 rv4) then (zfT ((zbT ((w64 (iv4+(1:Int))).toNat)) [qv3,rv4]) 0) else (s53 ((zaa.get iv4.toNat).Z) ((zaa.get ((w64 (iv4+(1:Int))).toNat)).Z) ((zaa.get ((w64 (iv4+(2:Int))).toNat)).Z) pv4 qv3 rv4)) zb5 zbU zbV zbT))))))))
 (decide ((0<=iv4/\iv4 < (zb5:Int))) &&
 (decide ((iv4.toNat < zb5/\zbU iv4.toNat=true)) &&
 (decide ((iv4.toNat < zb5)) &&
 (P2 iv4 pv4 (w64 (qv3+(1:Int))) zb5 zbU (zc5 iv4.toNat (addN ((zbT iv4.toNat) [pv4,qv3]) (zbV iv4.toNat)) zbV) (zc5 iv4.toNat (zhO [pv4,qv3] [zdB] (zbT iv4.toNat)) zbT)))))))
def zBn (S0:Int->Nat->(Nat->Bool)->(Nat->Nat)->(Nat->List Int->Option (List Int))->(Sl Mp)) (S1:Int->Int->Nat->(Nat->Bool)->(Nat->Nat)->(Nat->List Int->Option (List Int))->(Sl Mp)) (S2:Int->Int->Int->Nat->(Nat->Bool)->(Nat->Nat)->(Nat->List Int->Option (List Int))->(Sl Mp)) (zaa:(Sl Gate)) (qv3:Int):Nat->Int->Int->Int->Int->Nat->(Nat->Bool)->(Nat->Nat)->(Nat->List Int->Option (List Int))->(Sl Mp):=lpO (λ _ _ _ _ _ _ _ _=>default) (zBl S0 S1 S2 zaa qv3)
def zBo (P0:Int->Nat->(Nat->Bool)->(Nat->Nat)->(Nat->List Int->Option (List Int))->Bool) (P1:Int->Int->Nat->(Nat->Bool)->(Nat->Nat)->(Nat->List Int->Option (List Int))->Bool) (P2:Int->Int->Int->Nat->(Nat->Bool)->(Nat->Nat)->(Nat->List Int->Option (List Int))->Bool) (zaa:(Sl Gate)) (qv3:Int):Nat->Int->Int->Int->Int->Nat->(Nat->Bool)->(Nat->Nat)->(Nat->List Int->Option (List Int))->Bool:=lpO (λ _ _ _ _ _ _ _ _=>false) (zBm P0 P1 P2 zaa qv3)
def zBp (S0:Int->Nat->(Nat->Bool)->(Nat->Nat)->(Nat->List Int->Option (List Int))->(Sl Mp)) (S1:Int->Int->Nat->(Nat->Bool)->(Nat->Nat)->(Nat->List Int->Option (List Int))->(Sl Mp)) (S2:Int->Int->Int->Nat->(Nat->Bool)->(Nat->Nat)->(Nat->List Int->Option (List Int))->(Sl Mp)) (zaa:(Sl Gate)) (qv3:Int) (iv4:Int) (pv4:Int) (zdB:Int) (rv4:Int) (zb5:Nat) (zbU:(Nat->Bool)) (zbV:(Nat->Nat)) (zbT:(Nat->List Int->Option (List Int))):(Sl Mp):=zBn S0 S1 S2 zaa qv3 Fuel iv4 pv4 zdB rv4 zb5 zbU zbV zbT
def zBq (P0:Int->Nat->(Nat->Bool)->(Nat->Nat)->(Nat->List Int->Option (List Int))->Bool) (P1:Int->Int->Nat->(Nat->Bool)->(Nat->Nat)->(Nat->List Int->Option (List Int))->Bool) (P2:Int->Int->Int->Nat->(Nat->Bool)->(Nat->Nat)->(Nat->List Int->Option (List Int))->Bool) (zaa:(Sl Gate)) (qv3:Int) (iv4:Int) (pv4:Int) (zdB:Int) (rv4:Int) (zb5:Nat) (zbU:(Nat->Bool)) (zbV:(Nat->Nat)) (zbT:(Nat->List Int->Option (List Int))):Bool:=zBo P0 P1 P2 zaa qv3 Fuel iv4 pv4 zdB rv4 zb5 zbU zbV zbT
theorem zJQ (hX0:zsz K zaa X0 P0 S0) (hX1:zwK K zaa X1 P1 S1) (hX2:zBi K zaa X2 P2 S2) (hs:zBq P0 P1 P2 zaa qv3 iv4 pv4 zdB rv4 zb5 zbU zbV zbT=true) (hk:K (e52 (zBp S0 S1 S2 zaa qv3 iv4 pv4 zdB rv4 zb5 zbU zbV zbT))):z52 K [1,1,1,0,1,0,0,1,0,0,1,1,0,0,1,0,0,1,0,0,1,0,0,1,1,0,1,0] [X0,X1,X2] (zGf zaa qv3 iv4 pv4 zdB rv4 zb5 zbU zbV zbT) :=
  zl (λ X=>z52 K [1,1,1,0,1,0,0,1,0,0,1,1,0,0,1,0,0,1,0,0,1,0,0,1,1,0,1,0,0] [X0,X1,X2,X]) (by kernel_rfl) λ X4 hX =>
  (show ∀ k, zJO K zaa qv3 X4 (zBo P0 P1 P2 zaa qv3 k) (zBn S0 S1 S2 zaa qv3 k) from zfo _ _ (zBm P0 P1 P2 zaa qv3) (zBl S0 S1 S2 zaa qv3) (zJO K zaa qv3 X4)
 (by intro _ _ _ _ _ _ _ _ hs;exact absurd hs dqk)
 (by intro P4 S4 hX4 iv4 pv4 zdB rv4 zb5 zbU zbV zbT hs hk;exact hX _ (zaM (by kernel_rfl) (zaI hs λ hc hs=>And.intro hc (zc hs hk (λ hs hk=>(zaI hs λ hc hs=>And.intro hc (zaI hs λ hc hs=>And.intro hc (zaI hs λ hc hs=>And.intro hc (zaI hs λ hc hs=>And.intro hc (zaI hs λ hc hs=>And.intro hc (zaI hs λ hc hs=>And.intro hc (zaI hs λ hc hs=>And.intro hc (zJP hX0 hX1 hX2 hX4 hs hk))))))))) (λ hs hk=>(zaI hs λ hc hs=>And.intro hc (zaI hs λ hc hs=>And.intro hc (zaI hs λ hc hs=>And.intro hc (hX2 hs hk)))))))))) _ hs hk
def zBr (S0:Int->Nat->(Nat->Bool)->(Nat->Nat)->(Nat->List Int->Option (List Int))->(Sl Mp)) (S1:Int->Int->Nat->(Nat->Bool)->(Nat->Nat)->(Nat->List Int->Option (List Int))->(Sl Mp)) (S2:Int->Int->Int->Nat->(Nat->Bool)->(Nat->Nat)->(Nat->List Int->Option (List Int))->(Sl Mp)) (zaa:(Sl Gate)) (iv3:Int) (pv3:Int) (qv3:Int) (zin:Nat) (zgj:(Nat->Bool)) (zgk:(Nat->Nat)) (zio:(Nat->List Int->Option (List Int))):(Sl Mp) :=
  (zBp S0 S1 S2 zaa qv3 iv3 pv3 (-1:Int) ((zaa.get ((w64 (iv3+(2:Int))).toNat)).Low) zin zgj zgk zio)
def zBs (P0:Int->Nat->(Nat->Bool)->(Nat->Nat)->(Nat->List Int->Option (List Int))->Bool) (P1:Int->Int->Nat->(Nat->Bool)->(Nat->Nat)->(Nat->List Int->Option (List Int))->Bool) (P2:Int->Int->Int->Nat->(Nat->Bool)->(Nat->Nat)->(Nat->List Int->Option (List Int))->Bool) (zaa:(Sl Gate)) (iv3:Int) (pv3:Int) (qv3:Int) (zin:Nat) (zgj:(Nat->Bool)) (zgk:(Nat->Nat)) (zio:(Nat->List Int->Option (List Int))):Bool :=
  (decide ((0<=(w64 (iv3+(2:Int)))/\(w64 (iv3+(2:Int))) < (zaa.len:Int))) &&
 (zBq P0 P1 P2 zaa qv3 iv3 pv3 (-1:Int) ((zaa.get ((w64 (iv3+(2:Int))).toNat)).Low) zin zgj zgk zio))
theorem zJR (hX0:zsz K zaa X0 P0 S0) (hX1:zwK K zaa X1 P1 S1) (hX2:zBi K zaa X2 P2 S2) (hs:zBs P0 P1 P2 zaa iv3 pv3 qv3 zin zgj zgk zio=true) (hk:K (e52 (zBr S0 S1 S2 zaa iv3 pv3 qv3 zin zgj zgk zio))):z52 K [1,1,1,0,1,0,0,1,0,0,1,1,0,0,1,0,0,1,0,0,1,0,0,1] [X0,X1,X2] ⟨[(0,zS enc_48 3 zaa),(3,zI (zaa.len:Int)),(4,zv 15),(5,zI iv3),(6,zI pv3),(7,zI qv3)],[(15,.vm 89 8 91 3 (true,2,false,[some .i64]) zin zgj zgk zio)],[]⟩:=zaM (by kernel_rfl) (zaI hs λ hc hs=>And.intro hc (zJQ hX0 hX1 hX2 hs hk))
def zBt (S0:Int->Nat->(Nat->Bool)->(Nat->Nat)->(Nat->List Int->Option (List Int))->(Sl Mp)) (S1:Int->Int->Nat->(Nat->Bool)->(Nat->Nat)->(Nat->List Int->Option (List Int))->(Sl Mp)) (zaa:(Sl Gate)) (S2:Int->Int->Int->Nat->(Nat->Bool)->(Nat->Nat)->(Nat->List Int->Option (List Int))->(Sl Mp)) (iv2:Int) (pv2:Int) (qv2:Int) (zce:Nat) (zbQ:(Nat->Bool)) (zbK:(Nat->Nat)) (zb4:(Nat->List Int->Option (List Int))):(Sl Mp) :=
  (cond (decide (qv2 <= (zaa.get ((w64 (iv2 + (1:Int))).toNat)).High))
 (cond (iv2 == (w64 ((zaa.len : Int) - (2:Int))))
 (S2 iv2 pv2 (w64 (qv2+(1:Int))) zce zbQ (zc5 iv2.toNat (addN ((zb4 iv2.toNat) [pv2,qv2]) (zbK iv2.toNat)) zbK) (zc5 iv2.toNat (zhO [pv2,qv2] [(0:Int)] (zb4 iv2.toNat)) zb4))
 (zBr S0 S1 S2 zaa iv2 pv2 qv2 zce zbQ zbK zb4))
 (S1 iv2 (w64 (pv2+(1:Int))) zce zbQ zbK zb4))
def zBu (P0:Int->Nat->(Nat->Bool)->(Nat->Nat)->(Nat->List Int->Option (List Int))->Bool) (P1:Int->Int->Nat->(Nat->Bool)->(Nat->Nat)->(Nat->List Int->Option (List Int))->Bool) (zaa:(Sl Gate)) (P2:Int->Int->Int->Nat->(Nat->Bool)->(Nat->Nat)->(Nat->List Int->Option (List Int))->Bool) (iv2:Int) (pv2:Int) (qv2:Int) (zce:Nat) (zbQ:(Nat->Bool)) (zbK:(Nat->Nat)) (zb4:(Nat->List Int->Option (List Int))):Bool :=
  (decide ((0<=(w64 (iv2+(1:Int)))/\(w64 (iv2+(1:Int))) < (zaa.len:Int))) &&
 (cond (decide (qv2 <= (zaa.get ((w64 (iv2 + (1:Int))).toNat)).High))
 (cond (iv2 == (w64 ((zaa.len : Int) - (2:Int))))
 (decide ((0<=iv2/\iv2 < (zce:Int))) &&
 (decide ((iv2.toNat < zce/\zbQ iv2.toNat=true)) &&
 (decide ((iv2.toNat < zce)) &&
 (P2 iv2 pv2 (w64 (qv2+(1:Int))) zce zbQ (zc5 iv2.toNat (addN ((zb4 iv2.toNat) [pv2,qv2]) (zbK iv2.toNat)) zbK) (zc5 iv2.toNat (zhO [pv2,qv2] [(0:Int)] (zb4 iv2.toNat)) zb4)))))
 (zBs P0 P1 P2 zaa iv2 pv2 qv2 zce zbQ zbK zb4))
 (P1 iv2 (w64 (pv2+(1:Int))) zce zbQ zbK zb4)))
def zBv (S0:Int->Nat->(Nat->Bool)->(Nat->Nat)->(Nat->List Int->Option (List Int))->(Sl Mp)) (S1:Int->Int->Nat->(Nat->Bool)->(Nat->Nat)->(Nat->List Int->Option (List Int))->(Sl Mp)) (zaa:(Sl Gate)):Nat->Int->Int->Int->Nat->(Nat->Bool)->(Nat->Nat)->(Nat->List Int->Option (List Int))->(Sl Mp):=lpO (λ _ _ _ _ _ _ _=>default) (zBt S0 S1 zaa)
def zBw (P0:Int->Nat->(Nat->Bool)->(Nat->Nat)->(Nat->List Int->Option (List Int))->Bool) (P1:Int->Int->Nat->(Nat->Bool)->(Nat->Nat)->(Nat->List Int->Option (List Int))->Bool) (zaa:(Sl Gate)):Nat->Int->Int->Int->Nat->(Nat->Bool)->(Nat->Nat)->(Nat->List Int->Option (List Int))->Bool:=lpO (λ _ _ _ _ _ _ _=>false) (zBu P0 P1 zaa)
def zBx (S0:Int->Nat->(Nat->Bool)->(Nat->Nat)->(Nat->List Int->Option (List Int))->(Sl Mp)) (S1:Int->Int->Nat->(Nat->Bool)->(Nat->Nat)->(Nat->List Int->Option (List Int))->(Sl Mp)) (zaa:(Sl Gate)) (iv2:Int) (pv2:Int) (qv2:Int) (zce:Nat) (zbQ:(Nat->Bool)) (zbK:(Nat->Nat)) (zb4:(Nat->List Int->Option (List Int))):(Sl Mp):=zBv S0 S1 zaa Fuel iv2 pv2 qv2 zce zbQ zbK zb4
def zBy (P0:Int->Nat->(Nat->Bool)->(Nat->Nat)->(Nat->List Int->Option (List Int))->Bool) (P1:Int->Int->Nat->(Nat->Bool)->(Nat->Nat)->(Nat->List Int->Option (List Int))->Bool) (zaa:(Sl Gate)) (iv2:Int) (pv2:Int) (qv2:Int) (zce:Nat) (zbQ:(Nat->Bool)) (zbK:(Nat->Nat)) (zb4:(Nat->List Int->Option (List Int))):Bool:=zBw P0 P1 zaa Fuel iv2 pv2 qv2 zce zbQ zbK zb4
theorem zJS (hX0:zsz K zaa X0 P0 S0) (hX1:zwK K zaa X1 P1 S1) (hs:zBy P0 P1 zaa iv2 pv2 qv2 zce zbQ zbK zb4=true) (hk:K (e52 (zBx S0 S1 zaa iv2 pv2 qv2 zce zbQ zbK zb4))):z52 K [1,1,1,0,1,0,0,1,0,0,1,1,0,0,1,0,0,1,0] [X0,X1] (zGe zaa iv2 pv2 qv2 zce zbQ zbK zb4) :=
  zl (λ X=>z52 K [1,1,1,0,1,0,0,1,0,0,1,1,0,0,1,0,0,1,0,0] [X0,X1,X]) (by kernel_rfl) λ X2 hX =>
  (show ∀ k, zBi K zaa X2 (zBw P0 P1 zaa k) (zBv S0 S1 zaa k) from zfo _ _ (zBu P0 P1 zaa) (zBt S0 S1 zaa) (zBi K zaa X2)
 (by intro _ _ _ _ _ _ _ hs;exact absurd hs dqk)
 (by intro P2 S2 hX2 iv2 pv2 qv2 zce zbQ zbK zb4 hs hk;exact hX _ (zaM (by kernel_rfl) (zaI hs λ hc hs=>And.intro hc (zc hs hk (λ hs hk=>(zc hs hk (λ hs hk=>(zaI hs λ hc hs=>And.intro hc (zaI hs λ hc hs=>And.intro hc (zaI hs λ hc hs=>And.intro hc (hX2 hs hk))))) (λ hs hk=>(zJR hX0 hX1 hX2 hs hk)))) (λ hs hk=>(hX1 hs hk))))))) _ hs hk
def zBz (S0:Int->Nat->(Nat->Bool)->(Nat->Nat)->(Nat->List Int->Option (List Int))->(Sl Mp)) (zaa:(Sl Gate)) (S1:Int->Int->Nat->(Nat->Bool)->(Nat->Nat)->(Nat->List Int->Option (List Int))->(Sl Mp)) (iv1:Int) (pv1:Int) (zcV:Nat) (zcc:(Nat->Bool)) (zcd:(Nat->Nat)) (zcW:(Nat->List Int->Option (List Int))):(Sl Mp) :=
  (cond (decide (pv1 <= (zaa.get iv1.toNat).High))
 (zBx S0 S1 zaa iv1 pv1 ((zaa.get ((w64 (iv1+(1:Int))).toNat)).Low) zcV zcc zcd zcW)
 (S0 (w64 (iv1 - (1:Int))) zcV zcc zcd zcW))
def zBA (P0:Int->Nat->(Nat->Bool)->(Nat->Nat)->(Nat->List Int->Option (List Int))->Bool) (zaa:(Sl Gate)) (P1:Int->Int->Nat->(Nat->Bool)->(Nat->Nat)->(Nat->List Int->Option (List Int))->Bool) (iv1:Int) (pv1:Int) (zcV:Nat) (zcc:(Nat->Bool)) (zcd:(Nat->Nat)) (zcW:(Nat->List Int->Option (List Int))):Bool :=
  (decide ((0<=iv1/\iv1 < (zaa.len:Int))) &&
 (cond (decide (pv1 <= (zaa.get iv1.toNat).High))
 (decide ((0<=(w64 (iv1+(1:Int)))/\(w64 (iv1+(1:Int))) < (zaa.len:Int))) &&
 (zBy P0 P1 zaa iv1 pv1 ((zaa.get ((w64 (iv1+(1:Int))).toNat)).Low) zcV zcc zcd zcW))
 (P0 (w64 (iv1 - (1:Int))) zcV zcc zcd zcW)))
def zBB (S0:Int->Nat->(Nat->Bool)->(Nat->Nat)->(Nat->List Int->Option (List Int))->(Sl Mp)) (zaa:(Sl Gate)):Nat->Int->Int->Nat->(Nat->Bool)->(Nat->Nat)->(Nat->List Int->Option (List Int))->(Sl Mp):=lpO (λ _ _ _ _ _ _=>default) (zBz S0 zaa)
def zBC (P0:Int->Nat->(Nat->Bool)->(Nat->Nat)->(Nat->List Int->Option (List Int))->Bool) (zaa:(Sl Gate)):Nat->Int->Int->Nat->(Nat->Bool)->(Nat->Nat)->(Nat->List Int->Option (List Int))->Bool:=lpO (λ _ _ _ _ _ _=>false) (zBA P0 zaa)
def zBD (S0:Int->Nat->(Nat->Bool)->(Nat->Nat)->(Nat->List Int->Option (List Int))->(Sl Mp)) (zaa:(Sl Gate)) (iv1:Int) (pv1:Int) (zcV:Nat) (zcc:(Nat->Bool)) (zcd:(Nat->Nat)) (zcW:(Nat->List Int->Option (List Int))):(Sl Mp):=zBB S0 zaa Fuel iv1 pv1 zcV zcc zcd zcW
def zBE (P0:Int->Nat->(Nat->Bool)->(Nat->Nat)->(Nat->List Int->Option (List Int))->Bool) (zaa:(Sl Gate)) (iv1:Int) (pv1:Int) (zcV:Nat) (zcc:(Nat->Bool)) (zcd:(Nat->Nat)) (zcW:(Nat->List Int->Option (List Int))):Bool:=zBC P0 zaa Fuel iv1 pv1 zcV zcc zcd zcW
theorem zJT (hX0:zsz K zaa X0 P0 S0) (hs:zBE P0 zaa iv1 pv1 zcV zcc zcd zcW=true) (hk:K (e52 (zBD S0 zaa iv1 pv1 zcV zcc zcd zcW))):z52 K [1,1,1,0,1,0,0,1,0,0,1,1,0] [X0] (zGd zaa iv1 pv1 zcV zcc zcd zcW) :=
  zl (λ X=>z52 K [1,1,1,0,1,0,0,1,0,0,1,1,0,0] [X0,X]) (by kernel_rfl) λ X1 hX =>
  (show ∀ k, zwK K zaa X1 (zBC P0 zaa k) (zBB S0 zaa k) from zfo _ _ (zBA P0 zaa) (zBz S0 zaa) (zwK K zaa X1)
 (by intro _ _ _ _ _ _ hs;exact absurd hs dqk)
 (by intro P1 S1 hX1 iv1 pv1 zcV zcc zcd zcW hs hk;exact hX _ (zaM (by kernel_rfl) (zaI hs λ hc hs=>And.intro hc (zc hs hk (λ hs hk=>(zaI hs λ hc hs=>And.intro hc (zJS hX0 hX1 hs hk))) (λ hs hk=>(hX0 hs hk))))))) _ hs hk
def zBF (zaa:(Sl Gate)) (S0:Int->Nat->(Nat->Bool)->(Nat->Nat)->(Nat->List Int->Option (List Int))->(Sl Mp)) (iv0:Int) (zcI:Nat) (zcn:(Nat->Bool)) (zco:(Nat->Nat)) (zc2:(Nat->List Int->Option (List Int))):(Sl Mp) :=
  (cond (decide (iv0 >= (0:Int)))
 (zBD S0 zaa iv0 ((zaa.get iv0.toNat).Low) zcI (zc5 iv0.toNat true zcn) (zc5 iv0.toNat 0 zco) (zc5 iv0.toNat (λ _=>none) zc2))
 (⟨zcI,(λ i=>(⟨zco i,zc2 i⟩:Mp))⟩:(Sl Mp)))
def zBG (zaa:(Sl Gate)) (P0:Int->Nat->(Nat->Bool)->(Nat->Nat)->(Nat->List Int->Option (List Int))->Bool) (iv0:Int) (zcI:Nat) (zcn:(Nat->Bool)) (zco:(Nat->Nat)) (zc2:(Nat->List Int->Option (List Int))):Bool :=
  (cond (decide (iv0 >= (0:Int)))
 (decide ((0<=iv0/\iv0 < (zcI:Int))) &&
 (decide ((iv0.toNat < zcI/\zcn iv0.toNat=false)) &&
 (decide ((0<=iv0/\iv0 < (zaa.len:Int))) &&
 (zBE P0 zaa iv0 ((zaa.get iv0.toNat).Low) zcI (zc5 iv0.toNat true zcn) (zc5 iv0.toNat 0 zco) (zc5 iv0.toNat (λ _=>none) zc2)))))
 true)
def zBH (zaa:(Sl Gate)):Nat->Int->Nat->(Nat->Bool)->(Nat->Nat)->(Nat->List Int->Option (List Int))->(Sl Mp):=lpO (λ _ _ _ _ _=>default) (zBF zaa)
def zBI (zaa:(Sl Gate)):Nat->Int->Nat->(Nat->Bool)->(Nat->Nat)->(Nat->List Int->Option (List Int))->Bool:=lpO (λ _ _ _ _ _=>false) (zBG zaa)
def zBJ (zaa:(Sl Gate)) (iv0:Int) (zcI:Nat) (zcn:(Nat->Bool)) (zco:(Nat->Nat)) (zc2:(Nat->List Int->Option (List Int))):(Sl Mp):=zBH zaa Fuel iv0 zcI zcn zco zc2
def zBK (zaa:(Sl Gate)) (iv0:Int) (zcI:Nat) (zcn:(Nat->Bool)) (zco:(Nat->Nat)) (zc2:(Nat->List Int->Option (List Int))):Bool:=zBI zaa Fuel iv0 zcI zcn zco zc2
theorem zJU (hs:zBK zaa iv0 zcI zcn zco zc2=true) (hk:K (e52 (zBJ zaa iv0 zcI zcn zco zc2))):z52 K [1,1,1,0,1,0] [] (zGc zaa iv0 zcI zcn zco zc2) :=
  zl (λ X=>z52 K [1,1,1,0,1,0,0] [X]) (by kernel_rfl) λ X0 hX =>
  (show ∀ k, zsz K zaa X0 (zBI zaa k) (zBH zaa k) from zfo _ _ (zBG zaa) (zBF zaa) (zsz K zaa X0)
 (by intro _ _ _ _ _ hs;exact absurd hs dqk)
 (by intro P0 S0 hX0 iv0 zcI zcn zco zc2 hs hk;exact hX _ (zaM (by kernel_rfl) (zc hs hk (λ hs hk=>(zaI hs λ hc hs=>And.intro hc (zaI hs λ hc hs=>And.intro hc (zaI hs λ hc hs=>And.intro hc (zJT hX0 hs hk))))) (λ hs hk=>hk))))) _ hs hk
def s52 (zaa:(Sl Gate)):(Sl Mp) :=
  (zBJ zaa (w64 ((zaa.len:Int) - (2:Int))) ((w64 ((zaa.len:Int) - (1:Int))).toNat) (λ _=>false) (λ _=>0) (λ _ _=>none))
def p52 (zaa:(Sl Gate)):Bool :=
  (decide ((0<=(w64 ((zaa.len:Int) - (1:Int)))/\(w64 ((zaa.len:Int) - (1:Int)))=(w64 ((zaa.len:Int) - (1:Int)))/\(w64 ((zaa.len:Int) - (1:Int)))<=1000000)) &&
 (zBK zaa (w64 ((zaa.len:Int) - (2:Int))) ((w64 ((zaa.len:Int) - (1:Int))).toNat) (λ _=>false) (λ _=>0) (λ _ _=>none)))
end
theorem q52 (zaa:(Sl Gate)) (K:List PA->Prop) (hs:p52 zaa=true) (hk:K (e52 (s52 zaa))):vcFun Tryz.prog G52 zJN 52 [.one (.sl zaa.len 3 (λ i=>enc_48 (zaa.get i)))] K :=
  zaM (by kernel_rfl) (zaI hs λ hc hs=>And.intro hc (zJU hs hk))
def zJV : List PA → COut
  | [.one (.sl zaK zbW zaL)]=>.det (IsE enc_48 3 zbW zaL/\p52 (⟨zaK,zaf zaL⟩:(Sl Gate))=true) [.one (.sl ((s52 (⟨zaK,zaf zaL⟩:(Sl Gate))).len) 1 (λ i=>zfp ((s52 (⟨zaK,zaf zaL⟩:(Sl Gate))).get i)))]
  | _=>.no
theorem zOr:zah Tryz.prog 52:=⟨_,rfl,rfl,by kernel_rfl⟩
theorem zTL:Ok Tryz.prog 52 zJV:=zaV zRC zOr λ args K h=>by
  unfold zJV at h
  split at h
  · rename_i zaK zbW zaL
    obtain⟨⟨⟨rfl,zbn,rfl⟩,hs⟩,hk⟩:=h
    try rw[zae zbn] at hs
    try rw[zae zbn] at hk
    exact⟨(λ _ _=>[]),(λ l=>Nat.beq l 15 || Nat.beq l 24),zJN,q52 (⟨zaK,zbn⟩:(Sl Gate)) K hs hk⟩
  · exact h.elim
def zSN (a b:Int):List Int:=(List.range (b - a+1).toNat).map λ (i:Nat)=>a+i
def zn2 (zaa:Sl Gate):List (List Int):=(zSN (zaa.get 0).Low (zaa.get 0).High).flatMap λ p=>(zSN (zaa.get 1).Low (zaa.get 1).High).map λ q=>[p,q]
abbrev T25:Tabs:=(((Tabs.nil.addF 51 zJM).addF 52 zJV).addF 53 zE7)
theorem zRD:TabsOk Tryz.prog T25:=(((TabsOk.nil.addF zTK).addF zTL).addF zSM)
abbrev G25:Ctrs:=csm T25 (λ _ _=>[]) (λ _=>false)
def zbt:Ann:=⟨145,[(0,zK [0] []),(1,zK [0,18] []),(2,zK [2,3,4] []),(3,zK [0,5] []),(4,zK [0,5,6] []),(5,zK [0,5,6,24] [24]),(6,zK [0,5,6,24,26] [24]),(7,zK [0,5,6,8,24] [24]),(8,zK [0,5,6,8,24,35] [24]),(9,zK [0,5,6,24] [24]),(10,zK [0,5,6,9] []),(11,zK [0,5,6,9,10] []),(12,zK [0,5,6,9,10,46] []),(13,zK [0,5,6,9,10] []),(14,zK [0,5,6,9,10,11] []),(15,zK [0,5,6,9,10,11,58] []),(16,zK [0,5,6,9,10,11] []),(17,zK [0,5,6,9,10,11,69] []),(18,zK [0,5,6,9] [72]),(19,zK [0,5,6,9,12] [72]),(20,zK [0,5,6,9,12,76] [72]),(21,zK [0,5,6,9,12] [72]),(22,zK [0,5,6,9,12,13,14] [72]),(23,zK [0,5,6,9,12,13,14,15] [72]),(24,zK [0,5,6,9,12,13,14,15,100] [72]),(25,zK [0,5,6,9,12,13,14,15] [72]),(26,zK [0,5,6,9,12,13,14,15,138] [72]),(27,zK [0,5,6,9,12] [72]),(28,zK [2,3,4] [72])],
 [(6,zK [0,5,6,24] [24]),(12,zK [0,5,6,9,10] []),(15,zK [0,5,6,9,10,11] []),(20,zK [0,5,6,9,12] [72]),(24,zK [0,5,6,9,12,13,14,15] [72])],
 [(2,zK [0,18] []),(3,zK [0] []),(4,zK [0,5] []),(10,zK [0,5,6] []),(19,⟨[0,5,6,9],[72],[(9,72,3,λ _=>zam default)],[],[],[],[]⟩),(27,zK [0,5,6,9,12,13,14,15,138] [72])],
 [],[]⟩
def zOs (zaa:(Sl Gate)) (ziq:Bool):St:=⟨[(0,.one (.c (.p (.sl zaa.len 3 (λ i=>enc_48 (zaa.get i)))))),(18,.one (.c (.p (.bool ziq))))],[],[]⟩
def zpf (K:List PA->Prop) (zaa:(Sl Gate)) (ziq:Bool):Prop:=vc Tryz.prog G25 zbt (cdF Tryz.f25 [1,0,0,1]) (sqK Tryz.prog G25 zbt (cdF Tryz.f25 [1,0,1]) (zbl (zd5 Tryz.prog Tryz.f25 K))) (zOs zaa ziq)
def zOt (zaa:(Sl Gate)):St:=⟨[(0,.one (.c (.p (.sl zaa.len 3 (λ i=>enc_48 (zaa.get i))))))],[],[]⟩
def zpg (K:List PA->Prop) (zaa:(Sl Gate)):Prop:=vc Tryz.prog G25 zbt (cdF Tryz.f25 [1,0,1]) (zbl (zd5 Tryz.prog Tryz.f25 K)) (zOt zaa)
def zOu (zaa:(Sl Gate)) (zmx:Nat) (zfP:Nat->List PV):St:=⟨[(0,.one (.c (.p (.sl zaa.len 3 (λ i=>enc_48 (zaa.get i)))))),(5,.one (.c (.p (.sl zmx 1 zfP))))],[],[]⟩
def zph (K:List PA->Prop) (zaa:(Sl Gate)) (zmx:Nat) (zfP:Nat->List PV):Prop:=vc Tryz.prog G25 zbt (cdF Tryz.f25 [1,0,1,1]) (zbl (zd5 Tryz.prog Tryz.f25 K)) (zOu zaa zmx zfP)
def zje (zaa:(Sl Gate)) (zab:(Sl Mp)) (zbj:(List (List Int))) (zaZ:Int):St:=⟨[(0,.one (.c (.p (.sl zaa.len 3 (λ i=>enc_48 (zaa.get i)))))),(5,.one (.c (.p (.sl zab.len 1 (λ i=>zfp (zab.get i)))))),(6,.one (.c (.p (.int .i64 zaZ)))),(24,.one (.c (.ptr 24 0)))],[(24,.mit (true,2,false,[some .i64]) ((zab.get 0).n) ((zab.get 0).F) zbj)],[]⟩
def zmy (K:List PA->Prop) (zaa:(Sl Gate)) (zab:(Sl Mp)) (zbj:(List (List Int))) (zaZ:Int):Prop:=vc Tryz.prog G25 zbt (cdF Tryz.f25 [1,0,1,1,1,0,1,0]) (zaH 0 (sqK Tryz.prog G25 zbt (cdF Tryz.f25 [1,0,1,1,1,1]) (zbl (zd5 Tryz.prog Tryz.f25 K)))) (zje zaa zab zbj zaZ)
def zOv (zaa:(Sl Gate)) (zab:(Sl Mp)) (zeF:Int):St:=⟨[(0,.one (.c (.p (.sl zaa.len 3 (λ i=>enc_48 (zaa.get i)))))),(5,.one (.c (.p (.sl zab.len 1 (λ i=>zfp (zab.get i)))))),(6,.one (.c (.p (.int .i64 zeF))))],[],[]⟩
def zpi (K:List PA->Prop) (zaa:(Sl Gate)) (zab:(Sl Mp)) (zeF:Int):Prop:=vc Tryz.prog G25 zbt (cdF Tryz.f25 [1,0,1,1,1,1]) (zbl (zd5 Tryz.prog Tryz.f25 K)) (zOv zaa zab zeF)
def zkD (zaa:(Sl Gate)) (zab:(Sl Mp)) (zbm:Int) (pv5:Int):St:=⟨[(0,.one (.c (.p (.sl zaa.len 3 (λ i=>enc_48 (zaa.get i)))))),(5,.one (.c (.p (.sl zab.len 1 (λ i=>zfp (zab.get i)))))),(6,.one (.c (.p (.int .i64 zbm)))),(9,.one (.c (.p (.nils)))),(10,.one (.c (.p (.int .i64 pv5))))],[],[]⟩
def zmz (K:List PA->Prop) (zaa:(Sl Gate)) (zab:(Sl Mp)) (zbm:Int) (pv5:Int):Prop:=vc Tryz.prog G25 zbt (cdF Tryz.f25 [1,0,1,1,1,1,1,1,0,1,0]) (zaH 2 (sqK Tryz.prog G25 zbt (cdF Tryz.f25 [1,0,1,1,1,1,1,1,1]) (zbl (zd5 Tryz.prog Tryz.f25 K)))) (zkD zaa zab zbm pv5)
def zmA (zaa:(Sl Gate)) (zab:(Sl Mp)) (zbf:Int) (pv6:Int) (qv6:Int):St:=⟨[(0,.one (.c (.p (.sl zaa.len 3 (λ i=>enc_48 (zaa.get i)))))),(5,.one (.c (.p (.sl zab.len 1 (λ i=>zfp (zab.get i)))))),(6,.one (.c (.p (.int .i64 zbf)))),(9,.one (.c (.p (.nils)))),(10,.one (.c (.p (.int .i64 pv6)))),(11,.one (.c (.p (.int .i64 qv6))))],[],[]⟩
def zmB (K:List PA->Prop) (X5:St->Prop) (zaa:(Sl Gate)) (zab:(Sl Mp)) (zbf:Int) (pv6:Int) (qv6:Int):Prop:=vc Tryz.prog G25 zbt (cdF Tryz.f25 [1,0,1,1,1,1,1,1,0,1,0,0,1,0,0,1,0]) (zaH 4 (zaH 3 (sqK Tryz.prog G25 zbt (cdF Tryz.f25 [1,0,1,1,1,1,1,1,0,1,0,0,1,1]) (zcB Tryz.prog zbt 12 X5 (zaH 2 (sqK Tryz.prog G25 zbt (cdF Tryz.f25 [1,0,1,1,1,1,1,1,1]) (zbl (zd5 Tryz.prog Tryz.f25 K)))))))) (zmA zaa zab zbf pv6 qv6)
def zOw (zaa:(Sl Gate)) (zab:(Sl Mp)) (zeG:Int) (zsA:Nat) (zjN:Nat->List PV):St:=⟨[(0,.one (.c (.p (.sl zaa.len 3 (λ i=>enc_48 (zaa.get i)))))),(5,.one (.c (.p (.sl zab.len 1 (λ i=>zfp (zab.get i)))))),(6,.one (.c (.p (.int .i64 zeG)))),(9,.one (.c (.vec 72)))],[(72,.vec 3 1 8 zsA zjN)],[]⟩
def zmC (K:List PA->Prop) (zaa:(Sl Gate)) (zab:(Sl Mp)) (zeG:Int) (zsA:Nat) (zjN:Nat->List PV):Prop:=vc Tryz.prog G25 zbt (cdF Tryz.f25 [1,0,1,1,1,1,1,1,1]) (zbl (zd5 Tryz.prog Tryz.f25 K)) (zOw zaa zab zeG zsA zjN)
def zhX (zaa:(Sl Gate)) (zab:(Sl Mp)) (zbh:Int) (iv8:Int) (zg5:Nat) (zcp:Nat->List PV):St:=⟨[(0,.one (.c (.p (.sl zaa.len 3 (λ i=>enc_48 (zaa.get i)))))),(5,.one (.c (.p (.sl zab.len 1 (λ i=>zfp (zab.get i)))))),(6,.one (.c (.p (.int .i64 zbh)))),(9,.one (.c (.vec 72))),(12,.one (.c (.p (.int .i64 iv8))))],[(72,.vec 3 1 8 zg5 zcp)],[]⟩
def zmD (K:List PA->Prop) (zaa:(Sl Gate)) (zab:(Sl Mp)) (zbh:Int) (iv8:Int) (zg5:Nat) (zcp:Nat->List PV):Prop:=vc Tryz.prog G25 zbt (cdF Tryz.f25 [1,0,1,1,1,1,1,1,1,0,1,0]) (zaH 6 (sqK Tryz.prog G25 zbt (cdF Tryz.f25 [1,0,1,1,1,1,1,1,1,1]) (zbl (zd5 Tryz.prog Tryz.f25 K)))) (zhX zaa zab zbh iv8 zg5 zcp)
def zkE (zaa:(Sl Gate)) (zab:(Sl Mp)) (za0:Int) (iv9:Int) (pv9:Int) (qv9:Int) (rv9:Int) (zg6:Nat) (zcJ:Nat->List PV):St:=⟨[(0,.one (.c (.p (.sl zaa.len 3 (λ i=>enc_48 (zaa.get i)))))),(5,.one (.c (.p (.sl zab.len 1 (λ i=>zfp (zab.get i)))))),(6,.one (.c (.p (.int .i64 za0)))),(9,.one (.c (.vec 72))),(12,.one (.c (.p (.int .i64 iv9)))),(13,.one (.c (.p (.int .i64 pv9)))),(14,.one (.c (.p (.int .i64 qv9)))),(15,.one (.c (.p (.int .i64 rv9))))],[(72,.vec 3 1 8 zg6 zcJ)],[]⟩
def zmE (K:List PA->Prop) (X8:St->Prop) (zaa:(Sl Gate)) (zab:(Sl Mp)) (za0:Int) (iv9:Int) (pv9:Int) (qv9:Int) (rv9:Int) (zg6:Nat) (zcJ:Nat->List PV):Prop:=vc Tryz.prog G25 zbt (cdF Tryz.f25 [1,0,1,1,1,1,1,1,1,0,1,0,0,1,0,0,1,1,0]) (zaH 8 (zaH 7 (sqK Tryz.prog G25 zbt (cdF Tryz.f25 [1,0,1,1,1,1,1,1,1,0,1,0,0,1,1]) (zcB Tryz.prog zbt 20 X8 (zaH 6 (sqK Tryz.prog G25 zbt (cdF Tryz.f25 [1,0,1,1,1,1,1,1,1,1]) (zbl (zd5 Tryz.prog Tryz.f25 K)))))))) (zkE zaa zab za0 iv9 pv9 qv9 rv9 zg6 zcJ)
def zJW (zaa:(Sl Gate)) (zab:(Sl Mp)) (zcX:Int) (zjs:Int) (zrl:Int) (zrm:Int) (zno:Int) (zdx:Bool) (zpj:Nat) (zhJ:Nat->List PV):St:=⟨[(0,.one (.c (.p (.sl zaa.len 3 (λ i=>enc_48 (zaa.get i)))))),(5,.one (.c (.p (.sl zab.len 1 (λ i=>zfp (zab.get i)))))),(6,.one (.c (.p (.int .i64 zcX)))),(9,.one (.c (.vec 72))),(12,.one (.c (.p (.int .i64 zjs)))),(13,.one (.c (.p (.int .i64 zrl)))),(14,.one (.c (.p (.int .i64 zrm)))),(15,.one (.c (.p (.int .i64 zno)))),(138,.one (.c (.p (.bool zdx))))],[(72,.vec 3 1 8 zpj zhJ)],[]⟩
def zjf (K:List PA->Prop) (X8:St->Prop) (X9:St->Prop) (zaa:(Sl Gate)) (zab:(Sl Mp)) (zcX:Int) (zjs:Int) (zrl:Int) (zrm:Int) (zno:Int) (zdx:Bool) (zpj:Nat) (zhJ:Nat->List PV):Prop:=vc Tryz.prog G25 zbt (cdF Tryz.f25 [1,0,1,1,1,1,1,1,1,0,1,0,0,1,0,0,1,1,0,0,1,0,0,1]) (zaH 9 (sqK Tryz.prog G25 zbt (cdF Tryz.f25 [1,0,1,1,1,1,1,1,1,0,1,0,0,1,0,0,1,1,0,0,1,1]) (zcB Tryz.prog zbt 24 X9 (zaH 8 (zaH 7 (sqK Tryz.prog G25 zbt (cdF Tryz.f25 [1,0,1,1,1,1,1,1,1,0,1,0,0,1,1]) (zcB Tryz.prog zbt 20 X8 (zaH 6 (sqK Tryz.prog G25 zbt (cdF Tryz.f25 [1,0,1,1,1,1,1,1,1,1]) (zbl (zd5 Tryz.prog Tryz.f25 K))))))))))) (zJW zaa zab zcX zjs zrl zrm zno zdx zpj zhJ)
theorem zJX (zaa : (Sl Gate)) (K : List PA → Prop) :
  vcFun Tryz.prog G25 zbt 25 [.one (.sl zaa.len 3 (λ i=>enc_48 (zaa.get i)))] K =
  ((IsE enc_48 3 3 (λ i=>enc_48 (zaa.get i))/\(p51 zaa=true)) /\
 (zpf K zaa (!(s51 zaa)))):=by kernel_rfl
theorem zJY (K : List PA → Prop) (zaa : (Sl Gate)) (ziq : Bool) :
  zpf K zaa ziq =
  (zc7 ziq
 (K [.one (.nils),.one (.int .i64 (0:Int)),.one (.int .i64 (2:Int))])
 (zpg K zaa)):=by kernel_rfl
theorem zJZ (K : List PA → Prop) (zaa : (Sl Gate)) :
  zpg K zaa =
  ((IsE enc_48 3 3 (λ i=>enc_48 (zaa.get i))/\(p52 zaa=true)) /\
 (zph K zaa ((s52 zaa).len) (λ i=>zfp ((s52 zaa).get i)))):=by kernel_rfl
theorem zJ0 (K : List PA → Prop) (zaa : (Sl Gate)) (zab : (Sl Mp)) :
  zph K zaa zab.len (λ i=>zfp (zab.get i)) =
  (((0<=(0:Int)/\(0:Int) < (zab.len:Int))) /\
 (zmy K zaa zab ([]) (-1:Int))):=by kernel_rfl
def zqK (K:List PA->Prop) (X3:St->Prop) (zaa:(Sl Gate)) (zab:(Sl Mp)) (zbj:(List (List Int))) (zaZ:Int):Prop :=
  (zDY 2 ((zab.get 0).n) ((zab.get 0).F) ->
 ((∀ c:List Int,c.length=2->((zab.get 0).F) c ≠ none->c∈zbj) ->
 (zpi K zaa zab zaZ))/\∀ k24_0 k24_1:Int,((zab.get 0).F) [k24_0,k24_1] ≠ none->[k24_0,k24_1] ∉ zbj ->
 (zc7 (decide (zaZ < (0:Int)))
 (X3 (zje zaa zab ([k24_0,k24_1] :: zbj) (zfT (((zab.get 0).F) [k24_0,k24_1]) 0)))
 (zc7 (decide ((zfT (((zab.get 0).F) [k24_0, k24_1]) 0) < zaZ))
 (X3 (zje zaa zab ([k24_0,k24_1] :: zbj) (zfT (((zab.get 0).F) [k24_0,k24_1]) 0)))
 (X3 (zje zaa zab ([k24_0,k24_1] :: zbj) zaZ)))))
theorem zsB (K : List PA → Prop) (X3 : St → Prop) (zaa : (Sl Gate)) (zab : (Sl Mp)) (zbj : (List (List Int))) (zaZ : Int) :
  vc Tryz.prog G25 zbt (cd (cdF Tryz.f25 [1,0,1,1,1,0,1,0]) [0]) (zcB Tryz.prog zbt 6 X3 (zaH 0 (sqK Tryz.prog G25 zbt (cdF Tryz.f25 [1,0,1,1,1,1]) (zbl (zd5 Tryz.prog Tryz.f25 K))))) (zje zaa zab zbj zaZ) =
  zqK K X3 zaa zab zbj zaZ:=by kernel_rfl
theorem zBL (K : List PA → Prop) (zaa : (Sl Gate)) (zab : (Sl Mp)) (zbj : (List (List Int))) (zaZ : Int)
  (h:∀ X3:St->Prop,(∀ (zbj:(List (List Int))) (zaZ:Int),zqK K X3 zaa zab zbj zaZ->X3 (zje zaa zab zbj zaZ))->X3 (zje zaa zab zbj zaZ)) :
  zmy K zaa zab zbj zaZ:=by
  have e:zmy K zaa zab zbj zaZ=(∀ X:St->Prop,(∀ s,vc Tryz.prog G25 zbt (cd (cdF Tryz.f25 [1,0,1,1,1,0,1,0]) [0]) (zcB Tryz.prog zbt 6 X (zaH 0 (sqK Tryz.prog G25 zbt (cdF Tryz.f25 [1,0,1,1,1,1]) (zbl (zd5 Tryz.prog Tryz.f25 K))))) s->X s)->X (zje zaa zab zbj zaZ)):=by kernel_rfl
  refine zaM e ?_
  intro X hX
  refine h X ?_
  intro zbj zaZ hs
  refine hX _ ?_
  have e2:=zsB K X zaa zab zbj zaZ
  rw[e2]
  exact hs
theorem zJ1 (K : List PA → Prop) (zaa : (Sl Gate)) (zab : (Sl Mp)) (zeF : Int) :
  zpi K zaa zab zeF =
  (((0<=(0:Int)/\(0:Int) < (zaa.len:Int))) /\
 (zmz K zaa zab zeF ((zaa.get 0).Low))):=by kernel_rfl
def zqL (K:List PA->Prop) (X5:St->Prop) (zaa:(Sl Gate)) (zab:(Sl Mp)) (zbm:Int) (pv5:Int):Prop :=
  (((0<=(0:Int)/\(0:Int) < (zaa.len:Int))) /\
 (zc7 (decide (pv5 <= (zaa.get 0).High))
 (((0<=(1:Int)/\(1:Int) < (zaa.len:Int))) /\
 (zmB K X5 zaa zab zbm pv5 ((zaa.get 1).Low)))
 (zmC K zaa zab zbm 0 (λ i=>zam ((λ _=>default) i)))))
theorem zsC (K : List PA → Prop) (X5 : St → Prop) (zaa : (Sl Gate)) (zab : (Sl Mp)) (zbm : Int) (pv5 : Int) :
  vc Tryz.prog G25 zbt (cd (cdF Tryz.f25 [1,0,1,1,1,1,1,1,0,1,0]) [0]) (zcB Tryz.prog zbt 12 X5 (zaH 2 (sqK Tryz.prog G25 zbt (cdF Tryz.f25 [1,0,1,1,1,1,1,1,1]) (zbl (zd5 Tryz.prog Tryz.f25 K))))) (zkD zaa zab zbm pv5) =
  zqL K X5 zaa zab zbm pv5:=by kernel_rfl
theorem zBM (K : List PA → Prop) (zaa : (Sl Gate)) (zab : (Sl Mp)) (zbm : Int) (pv5 : Int)
  (h:∀ X5:St->Prop,(∀ (zbm:Int) (pv5:Int),zqL K X5 zaa zab zbm pv5->X5 (zkD zaa zab zbm pv5))->X5 (zkD zaa zab zbm pv5)) :
  zmz K zaa zab zbm pv5:=by
  have e:zmz K zaa zab zbm pv5=(∀ X:St->Prop,(∀ s,vc Tryz.prog G25 zbt (cd (cdF Tryz.f25 [1,0,1,1,1,1,1,1,0,1,0]) [0]) (zcB Tryz.prog zbt 12 X (zaH 2 (sqK Tryz.prog G25 zbt (cdF Tryz.f25 [1,0,1,1,1,1,1,1,1]) (zbl (zd5 Tryz.prog Tryz.f25 K))))) s->X s)->X (zkD zaa zab zbm pv5)):=by kernel_rfl
  refine zaM e ?_
  intro X hX
  refine h X ?_
  intro zbm pv5 hs
  refine hX _ ?_
  have e2:=zsC K X zaa zab zbm pv5
  rw[e2]
  exact hs
def zqM (K:List PA->Prop) (X5:St->Prop) (X6:St->Prop) (zaa:(Sl Gate)) (zab:(Sl Mp)) (zbf:Int) (pv6:Int) (qv6:Int):Prop :=
  (((0<=(1:Int)/\(1:Int) < (zaa.len:Int))) /\
 (zc7 (decide (qv6 <= (zaa.get 1).High))
 (((0<=(0:Int)/\(0:Int) < (zab.len:Int))) /\
 (zc7 ((zfT (((zab.get 0).F) [pv6, qv6]) 0) == zbf)
 (zmC K zaa zab zbf 2 (zet [(zam pv6),(zam qv6)]))
 (X6 (zmA zaa zab zbf pv6 (w64 (qv6+(1:Int)))))))
 (X5 (zkD zaa zab zbf (w64 (pv6+(1:Int)))))))
theorem zsD (K : List PA → Prop) (X5 : St → Prop) (X6 : St → Prop) (zaa : (Sl Gate)) (zab : (Sl Mp)) (zbf : Int) (pv6 : Int) (qv6 : Int) :
  vc Tryz.prog G25 zbt (cd (cdF Tryz.f25 [1,0,1,1,1,1,1,1,0,1,0,0,1,0,0,1,0]) [0]) (zcB Tryz.prog zbt 15 X6 (zaH 4 (zaH 3 (sqK Tryz.prog G25 zbt (cdF Tryz.f25 [1,0,1,1,1,1,1,1,0,1,0,0,1,1]) (zcB Tryz.prog zbt 12 X5 (zaH 2 (sqK Tryz.prog G25 zbt (cdF Tryz.f25 [1,0,1,1,1,1,1,1,1]) (zbl (zd5 Tryz.prog Tryz.f25 K))))))))) (zmA zaa zab zbf pv6 qv6) =
  zqM K X5 X6 zaa zab zbf pv6 qv6:=by kernel_rfl
theorem zBN (K : List PA → Prop) (X5 : St → Prop) (zaa : (Sl Gate)) (zab : (Sl Mp)) (zbf : Int) (pv6 : Int) (qv6 : Int)
  (h:∀ X6:St->Prop,(∀ (zbf:Int) (pv6:Int) (qv6:Int),zqM K X5 X6 zaa zab zbf pv6 qv6->X6 (zmA zaa zab zbf pv6 qv6))->X6 (zmA zaa zab zbf pv6 qv6)) :
  zmB K X5 zaa zab zbf pv6 qv6:=by
  have e:zmB K X5 zaa zab zbf pv6 qv6=(∀ X:St->Prop,(∀ s,vc Tryz.prog G25 zbt (cd (cdF Tryz.f25 [1,0,1,1,1,1,1,1,0,1,0,0,1,0,0,1,0]) [0]) (zcB Tryz.prog zbt 15 X (zaH 4 (zaH 3 (sqK Tryz.prog G25 zbt (cdF Tryz.f25 [1,0,1,1,1,1,1,1,0,1,0,0,1,1]) (zcB Tryz.prog zbt 12 X5 (zaH 2 (sqK Tryz.prog G25 zbt (cdF Tryz.f25 [1,0,1,1,1,1,1,1,1]) (zbl (zd5 Tryz.prog Tryz.f25 K))))))))) s->X s)->X (zmA zaa zab zbf pv6 qv6)):=by kernel_rfl
  refine zaM e ?_
  intro X hX
  refine h X ?_
  intro zbf pv6 qv6 hs
  refine hX _ ?_
  have e2:=zsD K X5 X zaa zab zbf pv6 qv6
  rw[e2]
  exact hs
theorem zJ2 (K : List PA → Prop) (zaa : (Sl Gate)) (zab : (Sl Mp)) (zeG : Int) (zhR : (Sl Int)) :
  zmC K zaa zab zeG zhR.len (λ i=>zam (zhR.get i)) =
  (zmD K zaa zab zeG (2:Int) zhR.len (λ i=>zam (zhR.get i))):=by kernel_rfl
def zqN (K:List PA->Prop) (X8:St->Prop) (zaa:(Sl Gate)) (zab:(Sl Mp)) (zbh:Int) (iv8:Int) (zbs:(Sl Int)):Prop :=
  (zc7 (decide (iv8 < (zaa.len : Int)))
 (((0<=(w64 (iv8 - (2:Int)))/\(w64 (iv8 - (2:Int))) < (zbs.len:Int))) /\
 ((((w64 (iv8 - (2:Int))).toNat < zbs.len)) /\
 (((0<=(w64 (iv8 - (1:Int)))/\(w64 (iv8 - (1:Int))) < (zbs.len:Int))) /\
 ((((w64 (iv8 - (1:Int))).toNat < zbs.len)) /\
 (((0<=iv8/\iv8 < (zaa.len:Int))) /\
 (zmE K X8 zaa zab zbh iv8 (zbs.get ((w64 (iv8 - (2:Int))).toNat)) (zbs.get ((w64 (iv8 - (1:Int))).toNat)) ((zaa.get iv8.toNat).Low) zbs.len (λ i=>zam (zbs.get i))))))))
 (K [.one (.sl zbs.len 1 (λ i=>zam (zbs.get i))),.one (.int .i64 zbh),.one (.int .i64 (0:Int))]))
theorem zsE (K : List PA → Prop) (X8 : St → Prop) (zaa : (Sl Gate)) (zab : (Sl Mp)) (zbh : Int) (iv8 : Int) (zbs : (Sl Int)) :
  vc Tryz.prog G25 zbt (cd (cdF Tryz.f25 [1,0,1,1,1,1,1,1,1,0,1,0]) [0]) (zcB Tryz.prog zbt 20 X8 (zaH 6 (sqK Tryz.prog G25 zbt (cdF Tryz.f25 [1,0,1,1,1,1,1,1,1,1]) (zbl (zd5 Tryz.prog Tryz.f25 K))))) (zhX zaa zab zbh iv8 zbs.len (λ i=>zam (zbs.get i))) =
  zqN K X8 zaa zab zbh iv8 zbs:=by kernel_rfl
theorem zBO (K : List PA → Prop) (zaa : (Sl Gate)) (zab : (Sl Mp)) (zbh : Int) (iv8 : Int) (zg5 : Nat) (zcp : Nat → List PV)
  (h:∀ X8:St->Prop,(∀ (zbh:Int) (iv8:Int) (zbs:(Sl Int)),zqN K X8 zaa zab zbh iv8 zbs->X8 (zhX zaa zab zbh iv8 zbs.len (λ i=>zam (zbs.get i))))->X8 (zhX zaa zab zbh iv8 zg5 zcp)) :
  zmD K zaa zab zbh iv8 zg5 zcp:=by
  have e:zmD K zaa zab zbh iv8 zg5 zcp=(∀ X:St->Prop,(∀ s,vc Tryz.prog G25 zbt (cd (cdF Tryz.f25 [1,0,1,1,1,1,1,1,1,0,1,0]) [0]) (zcB Tryz.prog zbt 20 X (zaH 6 (sqK Tryz.prog G25 zbt (cdF Tryz.f25 [1,0,1,1,1,1,1,1,1,1]) (zbl (zd5 Tryz.prog Tryz.f25 K))))) s->X s)->X (zhX zaa zab zbh iv8 zg5 zcp)):=by kernel_rfl
  refine zaM e ?_
  intro X hX
  refine h X ?_
  intro zbh iv8 zbs hs
  refine hX _ ?_
  have e2:=zsE K X zaa zab zbh iv8 zbs
  rw[e2]
  exact hs
def zqO (K:List PA->Prop) (X8:St->Prop) (X9:St->Prop) (zaa:(Sl Gate)) (zab:(Sl Mp)) (za0:Int) (iv9:Int) (pv9:Int) (qv9:Int) (rv9:Int) (zbX:(Sl Int)):Prop :=
  (((0<=iv9/\iv9 < (zaa.len:Int))) /\
 (zc7 (decide (rv9 <= (zaa.get iv9.toNat).High))
 (((0<=(w64 (iv9 - (2:Int)))/\(w64 (iv9 - (2:Int))) < (zaa.len:Int))) /\
 (((0<=(w64 (iv9 - (1:Int)))/\(w64 (iv9 - (1:Int))) < (zaa.len:Int))) /\
 (((0<=iv9/\iv9 < (zaa.len:Int))) /\
 (((p53 ((zaa.get ((w64 (iv9 - (2:Int))).toNat)).Z) ((zaa.get ((w64 (iv9 - (1:Int))).toNat)).Z) ((zaa.get iv9.toNat).Z) pv9 qv9 rv9=true)) /\
 (zc7 (decide ((s53 ((zaa.get ((w64 (iv9 - (2:Int))).toNat)).Z) ((zaa.get ((w64 (iv9 - (1:Int))).toNat)).Z) ((zaa.get iv9.toNat).Z) pv9 qv9 rv9) <= za0))
 (((0<=(w64 (iv9 - (1:Int)))/\(w64 (iv9 - (1:Int))) < (zab.len:Int))) /\
 (zjf K X8 X9 zaa zab za0 iv9 pv9 qv9 rv9 (decide ((zfT (((zab.get ((w64 (iv9 - (1:Int))).toNat)).F) [qv9,rv9]) 0)<=za0)) zbX.len (λ i=>zam (zbX.get i))))
 (zjf K X8 X9 zaa zab za0 iv9 pv9 qv9 rv9 false zbX.len (λ i=>zam (zbX.get i))))))))
 (X8 (zhX zaa zab za0 (w64 (iv9+(1:Int))) zbX.len (λ i=>zam (zbX.get i))))))
theorem zsF (K : List PA → Prop) (X8 : St → Prop) (X9 : St → Prop) (zaa : (Sl Gate)) (zab : (Sl Mp)) (za0 : Int) (iv9 : Int) (pv9 : Int) (qv9 : Int) (rv9 : Int) (zbX : (Sl Int)) :
  vc Tryz.prog G25 zbt (cd (cdF Tryz.f25 [1,0,1,1,1,1,1,1,1,0,1,0,0,1,0,0,1,1,0]) [0]) (zcB Tryz.prog zbt 24 X9 (zaH 8 (zaH 7 (sqK Tryz.prog G25 zbt (cdF Tryz.f25 [1,0,1,1,1,1,1,1,1,0,1,0,0,1,1]) (zcB Tryz.prog zbt 20 X8 (zaH 6 (sqK Tryz.prog G25 zbt (cdF Tryz.f25 [1,0,1,1,1,1,1,1,1,1]) (zbl (zd5 Tryz.prog Tryz.f25 K))))))))) (zkE zaa zab za0 iv9 pv9 qv9 rv9 zbX.len (λ i=>zam (zbX.get i))) =
  zqO K X8 X9 zaa zab za0 iv9 pv9 qv9 rv9 zbX:=by kernel_rfl
theorem zBP (K : List PA → Prop) (X8 : St → Prop) (zaa : (Sl Gate)) (zab : (Sl Mp)) (za0 : Int) (iv9 : Int) (pv9 : Int) (qv9 : Int) (rv9 : Int) (zg6 : Nat) (zcJ : Nat → List PV)
  (h:∀ X9:St->Prop,(∀ (za0:Int) (iv9:Int) (pv9:Int) (qv9:Int) (rv9:Int) (zbX:(Sl Int)),zqO K X8 X9 zaa zab za0 iv9 pv9 qv9 rv9 zbX->X9 (zkE zaa zab za0 iv9 pv9 qv9 rv9 zbX.len (λ i=>zam (zbX.get i))))->X9 (zkE zaa zab za0 iv9 pv9 qv9 rv9 zg6 zcJ)) :
  zmE K X8 zaa zab za0 iv9 pv9 qv9 rv9 zg6 zcJ:=by
  have e:zmE K X8 zaa zab za0 iv9 pv9 qv9 rv9 zg6 zcJ=(∀ X:St->Prop,(∀ s,vc Tryz.prog G25 zbt (cd (cdF Tryz.f25 [1,0,1,1,1,1,1,1,1,0,1,0,0,1,0,0,1,1,0]) [0]) (zcB Tryz.prog zbt 24 X (zaH 8 (zaH 7 (sqK Tryz.prog G25 zbt (cdF Tryz.f25 [1,0,1,1,1,1,1,1,1,0,1,0,0,1,1]) (zcB Tryz.prog zbt 20 X8 (zaH 6 (sqK Tryz.prog G25 zbt (cdF Tryz.f25 [1,0,1,1,1,1,1,1,1,1]) (zbl (zd5 Tryz.prog Tryz.f25 K))))))))) s->X s)->X (zkE zaa zab za0 iv9 pv9 qv9 rv9 zg6 zcJ)):=by kernel_rfl
  refine zaM e ?_
  intro X hX
  refine h X ?_
  intro za0 iv9 pv9 qv9 rv9 zbX hs
  refine hX _ ?_
  have e2:=zsF K X8 X zaa zab za0 iv9 pv9 qv9 rv9 zbX
  rw[e2]
  exact hs
theorem zE8 (K : List PA → Prop) (X8 : St → Prop) (X9 : St → Prop) (zaa : (Sl Gate)) (zab : (Sl Mp)) (zcX : Int) (zjs : Int) (zrl : Int) (zrm : Int) (zno : Int) (zdx : Bool) (zb6 : (Sl Int)) :
  zjf K X8 X9 zaa zab zcX zjs zrl zrm zno zdx zb6.len (λ i=>zam (zb6.get i)) =
  (zc7 zdx
 ((((zb6.len+1) * 8<=140737488355328/\zb6.len+1<=9223372036854775807)) /\
 (X8 (zhX zaa zab zcX (w64 (zjs+(1:Int))) (zb6.len+1) (appG zb6.len (λ i=>zam (zb6.get i)) (λ _=>(zam zno))))))
 (X9 (zkE zaa zab zcX zjs zrl zrm (w64 (zno+(1:Int))) zb6.len (λ i=>zam (zb6.get i))))):=by kernel_rfl
abbrev e25 (r:((Sl Int)×Int×Int)):List PA:=[.one (.sl r.1.len 1 (λ i=>zam (r.1.get i))),.one (.int .i64 r.2.1),.one (.int .i64 r.2.2)]
attribute [irreducible] zpf zpg zph zmy zpi zmz zmB zmC zmD zmE zjf
def zlf (S8:Int->Int->(Sl Int)->((Sl Int)×Int×Int)) (S9:Int->Int->Int->Int->Int->(Sl Int)->((Sl Int)×Int×Int)) (zaa:(Sl Gate)) (zab:(Sl Mp)) (zcX:Int) (zjs:Int) (zrl:Int) (zrm:Int) (zno:Int) (zdx:Bool) (zb6:(Sl Int)):((Sl Int)×Int×Int) :=
  (cond zdx
 (S8 zcX (w64 (zjs+(1:Int))) (⟨(zb6.len+1),(zfe zb6.len zb6.get (λ _=>zno))⟩:Sl Int))
 (S9 zcX zjs zrl zrm (w64 (zno+(1:Int))) zb6))
def zlg (P8:Int->Int->(Sl Int)->Bool) (P9:Int->Int->Int->Int->Int->(Sl Int)->Bool) (zaa:(Sl Gate)) (zab:(Sl Mp)) (zcX:Int) (zjs:Int) (zrl:Int) (zrm:Int) (zno:Int) (zdx:Bool) (zb6:(Sl Int)):Bool :=
  (cond zdx
 (decide (((zb6.len+1) * 8<=140737488355328/\zb6.len+1<=9223372036854775807)) &&
 (P8 zcX (w64 (zjs+(1:Int))) (⟨(zb6.len+1),(zfe zb6.len zb6.get (λ _=>zno))⟩:Sl Int)))
 (P9 zcX zjs zrl zrm (w64 (zno+(1:Int))) zb6))
theorem zvv (K : List PA → Prop) (zaa : (Sl Gate)) (zab : (Sl Mp))
  (X8:St->Prop) (P8:Int->Int->(Sl Int)->Bool) (S8:Int->Int->(Sl Int)->((Sl Int)×Int×Int))
  (hX8:∀ (zbh:Int) (iv8:Int) (zbs:(Sl Int)) (zcp:Nat->List PV) (zir:zcp=λ i=>zam (zbs.get i)),P8 zbh iv8 zbs=true->K (e25 (S8 zbh iv8 zbs))->X8 (zhX zaa zab zbh iv8 zbs.len zcp))
  (X9:St->Prop) (P9:Int->Int->Int->Int->Int->(Sl Int)->Bool) (S9:Int->Int->Int->Int->Int->(Sl Int)->((Sl Int)×Int×Int))
  (hX9:∀ (za0:Int) (iv9:Int) (pv9:Int) (qv9:Int) (rv9:Int) (zbX:(Sl Int)) (zcJ:Nat->List PV) (zjO:zcJ=λ i=>zam (zbX.get i)),P9 za0 iv9 pv9 qv9 rv9 zbX=true->K (e25 (S9 za0 iv9 pv9 qv9 rv9 zbX))->X9 (zkE zaa zab za0 iv9 pv9 qv9 rv9 zbX.len zcJ)) (zcX:Int) (zjs:Int) (zrl:Int) (zrm:Int) (zno:Int) (zdx:Bool) (zb6:(Sl Int)) (zhJ:Nat->List PV) (zE9:zhJ=λ i=>zam (zb6.get i)) (hs:zlg P8 P9 zaa zab zcX zjs zrl zrm zno zdx zb6=true) (hk:K (e25 (zlf S8 S9 zaa zab zcX zjs zrl zrm zno zdx zb6))):zjf (Wk K) X8 X9 zaa zab zcX zjs zrl zrm zno zdx zb6.len zhJ:=by
  subst zE9
  refine zaM (zE8 (Wk K) X8 X9 zaa zab zcX zjs zrl zrm zno zdx zb6) ?_
  unfold zlg at hs
  unfold zlf at hk
  exact (zb8 (K := λ r => K (e25 r))
 (λ hs hk=>(zaI hs λ hc hs=>⟨hc,(hX8 zcX (w64 (zjs+(1:Int))) (⟨(zb6.len+1),(zfe zb6.len zb6.get (λ _=>zno))⟩:Sl Int) (appG zb6.len (λ i=>zam (zb6.get i)) (λ _=>(zam zno))) (zfm (enc:=zam) (f:=zb6.get) (h:=(λ _=>zno)) rfl rfl) hs hk)⟩))
 (λ hs hk=>(hX9 zcX zjs zrl zrm (w64 (zno+(1:Int))) zb6 (λ i=>zam (zb6.get i)) rfl hs hk)) hs hk)
def zsG (S8:Int->Int->(Sl Int)->((Sl Int)×Int×Int)) (zaa:(Sl Gate)) (zab:(Sl Mp)) (S9:Int->Int->Int->Int->Int->(Sl Int)->((Sl Int)×Int×Int)) (za0:Int) (iv9:Int) (pv9:Int) (qv9:Int) (rv9:Int) (zbX:(Sl Int)):((Sl Int)×Int×Int) :=
  (cond (decide (rv9 <= (zaa.get iv9.toNat).High))
 (cond (decide ((s53 ((zaa.get ((w64 (iv9 - (2:Int))).toNat)).Z) ((zaa.get ((w64 (iv9 - (1:Int))).toNat)).Z) ((zaa.get iv9.toNat).Z) pv9 qv9 rv9) <= za0))
 (zlf S8 S9 zaa zab za0 iv9 pv9 qv9 rv9 (decide ((zfT (((zab.get ((w64 (iv9 - (1:Int))).toNat)).F) [qv9,rv9]) 0)<=za0)) zbX)
 (zlf S8 S9 zaa zab za0 iv9 pv9 qv9 rv9 false zbX))
 (S8 za0 (w64 (iv9+(1:Int))) zbX))
def zsH (P8:Int->Int->(Sl Int)->Bool) (zaa:(Sl Gate)) (zab:(Sl Mp)) (P9:Int->Int->Int->Int->Int->(Sl Int)->Bool) (za0:Int) (iv9:Int) (pv9:Int) (qv9:Int) (rv9:Int) (zbX:(Sl Int)):Bool :=
  (decide ((0<=iv9/\iv9 < (zaa.len:Int))) &&
 (cond (decide (rv9 <= (zaa.get iv9.toNat).High))
 (decide ((0<=(w64 (iv9 - (2:Int)))/\(w64 (iv9 - (2:Int))) < (zaa.len:Int))) &&
 (decide ((0<=(w64 (iv9 - (1:Int)))/\(w64 (iv9 - (1:Int))) < (zaa.len:Int))) &&
 (decide ((0<=iv9/\iv9 < (zaa.len:Int))) &&
 (decide ((p53 ((zaa.get ((w64 (iv9 - (2:Int))).toNat)).Z) ((zaa.get ((w64 (iv9 - (1:Int))).toNat)).Z) ((zaa.get iv9.toNat).Z) pv9 qv9 rv9=true)) &&
 (cond (decide ((s53 ((zaa.get ((w64 (iv9 - (2:Int))).toNat)).Z) ((zaa.get ((w64 (iv9 - (1:Int))).toNat)).Z) ((zaa.get iv9.toNat).Z) pv9 qv9 rv9) <= za0))
 (decide ((0<=(w64 (iv9 - (1:Int)))/\(w64 (iv9 - (1:Int))) < (zab.len:Int))) &&
 (zlg P8 P9 zaa zab za0 iv9 pv9 qv9 rv9 (decide ((zfT (((zab.get ((w64 (iv9 - (1:Int))).toNat)).F) [qv9,rv9]) 0)<=za0)) zbX))
 (zlg P8 P9 zaa zab za0 iv9 pv9 qv9 rv9 false zbX))))))
 (P8 za0 (w64 (iv9+(1:Int))) zbX)))
def zmF (S8 : Int → Int → (Sl Int) → ((Sl Int) × Int × Int)) (zaa : (Sl Gate)) (zab : (Sl Mp)) : Nat → Int → Int → Int → Int → Int → (Sl Int) → ((Sl Int) × Int × Int)
  | 0=>λ _ _ _ _ _ _=>default
  | k+1=>zsG S8 zaa zab (zmF S8 zaa zab k)
def zmG (P8 : Int → Int → (Sl Int) → Bool) (zaa : (Sl Gate)) (zab : (Sl Mp)) : Nat → Int → Int → Int → Int → Int → (Sl Int) → Bool
  | 0=>λ _ _ _ _ _ _=>false
  | k+1=>zsH P8 zaa zab (zmG P8 zaa zab k)
def zBQ (S8:Int->Int->(Sl Int)->((Sl Int)×Int×Int)) (zaa:(Sl Gate)) (zab:(Sl Mp)) (za0:Int) (iv9:Int) (pv9:Int) (qv9:Int) (rv9:Int) (zbX:(Sl Int)):((Sl Int)×Int×Int):=zmF S8 zaa zab Fuel za0 iv9 pv9 qv9 rv9 zbX
def zBR (P8:Int->Int->(Sl Int)->Bool) (zaa:(Sl Gate)) (zab:(Sl Mp)) (za0:Int) (iv9:Int) (pv9:Int) (qv9:Int) (rv9:Int) (zbX:(Sl Int)):Bool:=zmG P8 zaa zab Fuel za0 iv9 pv9 qv9 rv9 zbX
theorem zJ3 (K : List PA → Prop) (zaa : (Sl Gate)) (zab : (Sl Mp))
  (X8:St->Prop) (P8:Int->Int->(Sl Int)->Bool) (S8:Int->Int->(Sl Int)->((Sl Int)×Int×Int))
  (hX8:∀ (zbh:Int) (iv8:Int) (zbs:(Sl Int)) (zcp:Nat->List PV) (zir:zcp=λ i=>zam (zbs.get i)),P8 zbh iv8 zbs=true->K (e25 (S8 zbh iv8 zbs))->X8 (zhX zaa zab zbh iv8 zbs.len zcp)) (za0:Int) (iv9:Int) (pv9:Int) (qv9:Int) (rv9:Int) (zbX:(Sl Int)) (zcJ:Nat->List PV) (zjO:zcJ=λ i=>zam (zbX.get i)) (hs:zBR P8 zaa zab za0 iv9 pv9 qv9 rv9 zbX=true) (hk:K (e25 (zBQ S8 zaa zab za0 iv9 pv9 qv9 rv9 zbX))):zmE (Wk K) X8 zaa zab za0 iv9 pv9 qv9 rv9 zbX.len zcJ:=by
  refine zBP (Wk K) X8 zaa zab za0 iv9 pv9 qv9 rv9 zbX.len zcJ ?_
  intro X9 hstep
  have key:∀ (k:Nat) (za0:Int) (iv9:Int) (pv9:Int) (qv9:Int) (rv9:Int) (zbX:(Sl Int)) (zcJ:Nat->List PV) (zjO:zcJ=λ i=>zam (zbX.get i)),zmG P8 zaa zab k za0 iv9 pv9 qv9 rv9 zbX=true->K (e25 (zmF S8 zaa zab k za0 iv9 pv9 qv9 rv9 zbX))->X9 (zkE zaa zab za0 iv9 pv9 qv9 rv9 zbX.len zcJ):=by
    intro k
    induction k with
    | zero=>intro za0 iv9 pv9 qv9 rv9 zbX zcJ zjO hs;exact absurd hs dqk
    | succ k ih =>
      intro za0 iv9 pv9 qv9 rv9 zbX zcJ zjO hs hk
      subst zjO
      refine hstep za0 iv9 pv9 qv9 rv9 zbX ?_
      have hs:zsH P8 zaa zab (zmG P8 zaa zab k) za0 iv9 pv9 qv9 rv9 zbX=true:=hs
      have hk:K (e25 (zsG S8 zaa zab (zmF S8 zaa zab k) za0 iv9 pv9 qv9 rv9 zbX)):=hk
      unfold zsH at hs
      unfold zsG at hk
      generalize zmF S8 zaa zab k=S9 at hk ih
      generalize zmG P8 zaa zab k=P9 at hs ih
      have hX9:=ih
      exact (zaI hs λ hc hs => ⟨hc, (zb8 (K := λ r => K (e25 r))
 (λ hs hk => (zaI hs λ hc hs => ⟨hc, (zaI hs λ hc hs => ⟨hc, (zaI hs λ hc hs => ⟨hc, (zaI hs λ hc hs => ⟨hc, (zb8 (K := λ r => K (e25 r))
 (λ hs hk=>(zaI hs λ hc hs=>⟨hc,(zvv K zaa zab X8 P8 S8 hX8 X9 P9 S9 hX9 za0 iv9 pv9 qv9 rv9 (decide ((zfT (((zab.get ((w64 (iv9 - (1:Int))).toNat)).F) [qv9,rv9]) 0)<=za0)) zbX (λ i=>zam (zbX.get i)) rfl hs hk)⟩))
 (λ hs hk=>(zvv K zaa zab X8 P8 S8 hX8 X9 P9 S9 hX9 za0 iv9 pv9 qv9 rv9 false zbX (λ i=>zam (zbX.get i)) rfl hs hk)) hs hk)⟩)⟩)⟩)⟩))
 (fun hs hk=>(hX8 za0 (w64 (iv9+(1:Int))) zbX (fun i=>zam (zbX.get i)) rfl hs hk)) hs hk)⟩)
  exact key _ za0 iv9 pv9 qv9 rv9 zbX zcJ zjO hs hk
def zsI (zaa:(Sl Gate)) (zab:(Sl Mp)) (S8:Int->Int->(Sl Int)->((Sl Int)×Int×Int)) (zbh:Int) (iv8:Int) (zbs:(Sl Int)):((Sl Int)×Int×Int) :=
  (cond (decide (iv8 < (zaa.len : Int)))
 (zBQ S8 zaa zab zbh iv8 (zbs.get ((w64 (iv8 - (2:Int))).toNat)) (zbs.get ((w64 (iv8 - (1:Int))).toNat)) ((zaa.get iv8.toNat).Low) zbs)
 (zbs,zbh,(0:Int)))
def zsJ (zaa:(Sl Gate)) (zab:(Sl Mp)) (P8:Int->Int->(Sl Int)->Bool) (zbh:Int) (iv8:Int) (zbs:(Sl Int)):Bool :=
  (cond (decide (iv8 < (zaa.len : Int)))
 (decide ((0<=(w64 (iv8 - (2:Int)))/\(w64 (iv8 - (2:Int))) < (zbs.len:Int))) &&
 (decide (((w64 (iv8 - (2:Int))).toNat < zbs.len)) &&
 (decide ((0<=(w64 (iv8 - (1:Int)))/\(w64 (iv8 - (1:Int))) < (zbs.len:Int))) &&
 (decide (((w64 (iv8 - (1:Int))).toNat < zbs.len)) &&
 (decide ((0<=iv8/\iv8 < (zaa.len:Int))) &&
 (zBR P8 zaa zab zbh iv8 (zbs.get ((w64 (iv8 - (2:Int))).toNat)) (zbs.get ((w64 (iv8 - (1:Int))).toNat)) ((zaa.get iv8.toNat).Low) zbs))))))
 true)
def zmH (zaa : (Sl Gate)) (zab : (Sl Mp)) : Nat → Int → Int → (Sl Int) → ((Sl Int) × Int × Int)
  | 0=>λ _ _ _=>default
  | k+1=>zsI zaa zab (zmH zaa zab k)
def zmI (zaa : (Sl Gate)) (zab : (Sl Mp)) : Nat → Int → Int → (Sl Int) → Bool
  | 0=>λ _ _ _=>false
  | k+1=>zsJ zaa zab (zmI zaa zab k)
def zBS (zaa:(Sl Gate)) (zab:(Sl Mp)) (zbh:Int) (iv8:Int) (zbs:(Sl Int)):((Sl Int)×Int×Int):=zmH zaa zab Fuel zbh iv8 zbs
def zBT (zaa:(Sl Gate)) (zab:(Sl Mp)) (zbh:Int) (iv8:Int) (zbs:(Sl Int)):Bool:=zmI zaa zab Fuel zbh iv8 zbs
theorem zJ4 (K:List PA->Prop) (zaa:(Sl Gate)) (zab:(Sl Mp)) (zbh:Int) (iv8:Int) (zbs:(Sl Int)) (zcp:Nat->List PV) (zir:zcp=λ i=>zam (zbs.get i)) (hs:zBT zaa zab zbh iv8 zbs=true) (hk:K (e25 (zBS zaa zab zbh iv8 zbs))):zmD (Wk K) zaa zab zbh iv8 zbs.len zcp:=by
  refine zBO (Wk K) zaa zab zbh iv8 zbs.len zcp ?_
  intro X8 hstep
  have key:∀ (k:Nat) (zbh:Int) (iv8:Int) (zbs:(Sl Int)) (zcp:Nat->List PV) (zir:zcp=λ i=>zam (zbs.get i)),zmI zaa zab k zbh iv8 zbs=true->K (e25 (zmH zaa zab k zbh iv8 zbs))->X8 (zhX zaa zab zbh iv8 zbs.len zcp):=by
    intro k
    induction k with
    | zero=>intro zbh iv8 zbs zcp zir hs;exact absurd hs dqk
    | succ k ih =>
      intro zbh iv8 zbs zcp zir hs hk
      subst zir
      refine hstep zbh iv8 zbs ?_
      have hs:zsJ zaa zab (zmI zaa zab k) zbh iv8 zbs=true:=hs
      have hk:K (e25 (zsI zaa zab (zmH zaa zab k) zbh iv8 zbs)):=hk
      unfold zsJ at hs
      unfold zsI at hk
      generalize zmH zaa zab k=S8 at hk ih
      generalize zmI zaa zab k=P8 at hs ih
      have hX8:=ih
      exact (zb8 (K := λ r => K (e25 r))
 (λ hs hk=>(zaI hs λ hc hs=>⟨hc,(zaI hs λ hc hs=>⟨hc,(zaI hs λ hc hs=>⟨hc,(zaI hs λ hc hs=>⟨hc,(zaI hs λ hc hs=>⟨hc,(zJ3 K zaa zab X8 P8 S8 hX8 zbh iv8 (zbs.get ((w64 (iv8 - (2:Int))).toNat)) (zbs.get ((w64 (iv8 - (1:Int))).toNat)) ((zaa.get iv8.toNat).Low) zbs (λ i=>zam (zbs.get i)) rfl hs hk)⟩)⟩)⟩)⟩)⟩))
 (fun hs hk=>(zfL hk)) hs hk)
  exact key _ zbh iv8 zbs zcp zir hs hk
def zpk (zaa:(Sl Gate)) (zab:(Sl Mp)) (zeG:Int) (zhR:(Sl Int)):((Sl Int)×Int×Int) :=
  (zBS zaa zab zeG (2:Int) zhR)
def zpl (zaa:(Sl Gate)) (zab:(Sl Mp)) (zeG:Int) (zhR:(Sl Int)):Bool :=
  (zBT zaa zab zeG (2:Int) zhR)
theorem zBU (K:List PA->Prop) (zaa:(Sl Gate)) (zab:(Sl Mp)) (zeG:Int) (zhR:(Sl Int)) (zjN:Nat->List PV) (zJ5:zjN=λ i=>zam (zhR.get i)) (hs:zpl zaa zab zeG zhR=true) (hk:K (e25 (zpk zaa zab zeG zhR))):zmC (Wk K) zaa zab zeG zhR.len zjN:=by
  subst zJ5
  refine zaM (zJ2 (Wk K) zaa zab zeG zhR) ?_
  unfold zpl at hs
  unfold zpk at hk
  exact (zJ4 K zaa zab zeG (2:Int) zhR (λ i=>zam (zhR.get i)) rfl hs hk)
def zsK (S5:Int->Int->((Sl Int)×Int×Int)) (zaa:(Sl Gate)) (zab:(Sl Mp)) (S6:Int->Int->Int->((Sl Int)×Int×Int)) (zbf:Int) (pv6:Int) (qv6:Int):((Sl Int)×Int×Int) :=
  (cond (decide (qv6 <= (zaa.get 1).High))
 (cond ((zfT (((zab.get 0).F) [pv6, qv6]) 0) == zbf)
 (zpk zaa zab zbf (⟨2,(zlo pv6 [pv6,qv6])⟩:Sl Int))
 (S6 zbf pv6 (w64 (qv6+(1:Int)))))
 (S5 zbf (w64 (pv6+(1:Int)))))
def zsL (P5:Int->Int->Bool) (zaa:(Sl Gate)) (zab:(Sl Mp)) (P6:Int->Int->Int->Bool) (zbf:Int) (pv6:Int) (qv6:Int):Bool :=
  (decide ((0<=(1:Int)/\(1:Int) < (zaa.len:Int))) &&
 (cond (decide (qv6 <= (zaa.get 1).High))
 (decide ((0<=(0:Int)/\(0:Int) < (zab.len:Int))) &&
 (cond ((zfT (((zab.get 0).F) [pv6, qv6]) 0) == zbf)
 (zpl zaa zab zbf (⟨2,(zlo pv6 [pv6,qv6])⟩:Sl Int))
 (P6 zbf pv6 (w64 (qv6+(1:Int))))))
 (P5 zbf (w64 (pv6+(1:Int))))))
def zmJ (S5 : Int → Int → ((Sl Int) × Int × Int)) (zaa : (Sl Gate)) (zab : (Sl Mp)) : Nat → Int → Int → Int → ((Sl Int) × Int × Int)
  | 0=>λ _ _ _=>default
  | k+1=>zsK S5 zaa zab (zmJ S5 zaa zab k)
def zmK (P5 : Int → Int → Bool) (zaa : (Sl Gate)) (zab : (Sl Mp)) : Nat → Int → Int → Int → Bool
  | 0=>λ _ _ _=>false
  | k+1=>zsL P5 zaa zab (zmK P5 zaa zab k)
def zBV (S5:Int->Int->((Sl Int)×Int×Int)) (zaa:(Sl Gate)) (zab:(Sl Mp)) (zbf:Int) (pv6:Int) (qv6:Int):((Sl Int)×Int×Int):=zmJ S5 zaa zab Fuel zbf pv6 qv6
def zBW (P5:Int->Int->Bool) (zaa:(Sl Gate)) (zab:(Sl Mp)) (zbf:Int) (pv6:Int) (qv6:Int):Bool:=zmK P5 zaa zab Fuel zbf pv6 qv6
theorem zJ6 (K : List PA → Prop) (zaa : (Sl Gate)) (zab : (Sl Mp))
  (X5:St->Prop) (P5:Int->Int->Bool) (S5:Int->Int->((Sl Int)×Int×Int))
  (hX5:∀ (zbm:Int) (pv5:Int),P5 zbm pv5=true->K (e25 (S5 zbm pv5))->X5 (zkD zaa zab zbm pv5)) (zbf:Int) (pv6:Int) (qv6:Int) (hs:zBW P5 zaa zab zbf pv6 qv6=true) (hk:K (e25 (zBV S5 zaa zab zbf pv6 qv6))):zmB (Wk K) X5 zaa zab zbf pv6 qv6:=by
  refine zBN (Wk K) X5 zaa zab zbf pv6 qv6 ?_
  intro X6 hstep
  have key:∀ (k:Nat) (zbf:Int) (pv6:Int) (qv6:Int),zmK P5 zaa zab k zbf pv6 qv6=true->K (e25 (zmJ S5 zaa zab k zbf pv6 qv6))->X6 (zmA zaa zab zbf pv6 qv6):=by
    intro k
    induction k with
    | zero=>intro zbf pv6 qv6 hs;exact absurd hs dqk
    | succ k ih =>
      intro zbf pv6 qv6 hs hk
      refine hstep zbf pv6 qv6 ?_
      have hs:zsL P5 zaa zab (zmK P5 zaa zab k) zbf pv6 qv6=true:=hs
      have hk:K (e25 (zsK S5 zaa zab (zmJ S5 zaa zab k) zbf pv6 qv6)):=hk
      unfold zsL at hs
      unfold zsK at hk
      generalize zmJ S5 zaa zab k=S6 at hk ih
      generalize zmK P5 zaa zab k=P6 at hs ih
      have hX6:=ih
      exact (zaI hs λ hc hs => ⟨hc, (zb8 (K := λ r => K (e25 r))
 (λ hs hk => (zaI hs λ hc hs => ⟨hc, (zb8 (K := λ r => K (e25 r))
 (λ hs hk=>(zBU K zaa zab zbf (⟨2,(zlo pv6 [pv6,qv6])⟩:Sl Int) (zet [(zam pv6),(zam qv6)]) (zf8 (enc:=zam) (x:=pv6) (y:=qv6) (r:=[])) hs hk))
 (λ hs hk=>(hX6 zbf pv6 (w64 (qv6+(1:Int))) hs hk)) hs hk)⟩))
 (fun hs hk=>(hX5 zbf (w64 (pv6+(1:Int))) hs hk)) hs hk)⟩)
  exact key _ zbf pv6 qv6 hs hk
def zsM (zaa:(Sl Gate)) (zab:(Sl Mp)) (S5:Int->Int->((Sl Int)×Int×Int)) (zbm:Int) (pv5:Int):((Sl Int)×Int×Int) :=
  (cond (decide (pv5 <= (zaa.get 0).High))
 (zBV S5 zaa zab zbm pv5 ((zaa.get 1).Low))
 (zpk zaa zab zbm (⟨0,(λ _=>default)⟩:Sl Int)))
def zsN (zaa:(Sl Gate)) (zab:(Sl Mp)) (P5:Int->Int->Bool) (zbm:Int) (pv5:Int):Bool :=
  (decide ((0<=(0:Int)/\(0:Int) < (zaa.len:Int))) &&
 (cond (decide (pv5 <= (zaa.get 0).High))
 (decide ((0<=(1:Int)/\(1:Int) < (zaa.len:Int))) &&
 (zBW P5 zaa zab zbm pv5 ((zaa.get 1).Low)))
 (zpl zaa zab zbm (⟨0,(λ _=>default)⟩:Sl Int))))
def zmL (zaa : (Sl Gate)) (zab : (Sl Mp)) : Nat → Int → Int → ((Sl Int) × Int × Int)
  | 0=>λ _ _=>default
  | k+1=>zsM zaa zab (zmL zaa zab k)
def zmM (zaa : (Sl Gate)) (zab : (Sl Mp)) : Nat → Int → Int → Bool
  | 0=>λ _ _=>false
  | k+1=>zsN zaa zab (zmM zaa zab k)
def zBX (zaa:(Sl Gate)) (zab:(Sl Mp)) (zbm:Int) (pv5:Int):((Sl Int)×Int×Int):=zmL zaa zab Fuel zbm pv5
def zBY (zaa:(Sl Gate)) (zab:(Sl Mp)) (zbm:Int) (pv5:Int):Bool:=zmM zaa zab Fuel zbm pv5
theorem zJ7 (K:List PA->Prop) (zaa:(Sl Gate)) (zab:(Sl Mp)) (zbm:Int) (pv5:Int) (hs:zBY zaa zab zbm pv5=true) (hk:K (e25 (zBX zaa zab zbm pv5))):zmz (Wk K) zaa zab zbm pv5:=by
  refine zBM (Wk K) zaa zab zbm pv5 ?_
  intro X5 hstep
  have key:∀ (k:Nat) (zbm:Int) (pv5:Int),zmM zaa zab k zbm pv5=true->K (e25 (zmL zaa zab k zbm pv5))->X5 (zkD zaa zab zbm pv5):=by
    intro k
    induction k with
    | zero=>intro zbm pv5 hs;exact absurd hs dqk
    | succ k ih =>
      intro zbm pv5 hs hk
      refine hstep zbm pv5 ?_
      have hs:zsN zaa zab (zmM zaa zab k) zbm pv5=true:=hs
      have hk:K (e25 (zsM zaa zab (zmL zaa zab k) zbm pv5)):=hk
      unfold zsN at hs
      unfold zsM at hk
      generalize zmL zaa zab k=S5 at hk ih
      generalize zmM zaa zab k=P5 at hs ih
      have hX5:=ih
      exact (zaI hs λ hc hs => ⟨hc, (zb8 (K := λ r => K (e25 r))
 (λ hs hk=>(zaI hs λ hc hs=>⟨hc,(zJ6 K zaa zab X5 P5 S5 hX5 zbm pv5 ((zaa.get 1).Low) hs hk)⟩))
 (fun hs hk=>(zBU K zaa zab zbm (⟨0,(fun _=>default)⟩:Sl Int) (fun i=>zam ((fun _=>default) i)) rfl hs hk)) hs hk)⟩)
  exact key _ zbm pv5 hs hk
def zsO (zaa:(Sl Gate)) (zab:(Sl Mp)) (zeF:Int):((Sl Int)×Int×Int) :=
  (zBX zaa zab zeF ((zaa.get 0).Low))
def zsP (zaa:(Sl Gate)) (zab:(Sl Mp)) (zeF:Int):Bool :=
  (decide ((0<=(0:Int)/\(0:Int) < (zaa.len:Int))) &&
 (zBY zaa zab zeF ((zaa.get 0).Low)))
theorem zJ8 (K:List PA->Prop) (zaa:(Sl Gate)) (zab:(Sl Mp)) (zeF:Int) (hs:zsP zaa zab zeF=true) (hk:K (e25 (zsO zaa zab zeF))):zpi (Wk K) zaa zab zeF:=by
  refine zaM (zJ1 (Wk K) zaa zab zeF) ?_
  unfold zsP at hs
  unfold zsO at hk
  exact (zaI hs λ hc hs=>⟨hc,(zJ7 K zaa zab zeF ((zaa.get 0).Low) hs hk)⟩)
def zpm (zaa:(Sl Gate)) (zab:(Sl Mp)) (zaZ:Int):((Sl Int)×Int×Int) :=
  (zsO zaa zab zaZ)
def zpn (zaa:(Sl Gate)) (zab:(Sl Mp)) (zaZ:Int):Bool :=
  (zsP zaa zab zaZ)
def zmN (zaa:(Sl Gate)) (zab:(Sl Mp)) (k24_0:Int) (k24_1:Int) (S3:Int->((Sl Int)×Int×Int)) (zaZ:Int):((Sl Int)×Int×Int) :=
  (cond (decide (zaZ < (0:Int)))
 (S3 (zfT (((zab.get 0).F) [k24_0,k24_1]) 0))
 (cond (decide ((zfT (((zab.get 0).F) [k24_0, k24_1]) 0) < zaZ))
 (S3 (zfT (((zab.get 0).F) [k24_0,k24_1]) 0))
 (S3 zaZ)))
def zmO (zaa:(Sl Gate)) (zab:(Sl Mp)) (k24_0:Int) (k24_1:Int) (P3:Int->Bool) (zaZ:Int):Bool :=
  (cond (decide (zaZ < (0:Int)))
 (P3 (zfT (((zab.get 0).F) [k24_0,k24_1]) 0))
 (cond (decide ((zfT (((zab.get 0).F) [k24_0, k24_1]) 0) < zaZ))
 (P3 (zfT (((zab.get 0).F) [k24_0,k24_1]) 0))
 (P3 zaZ)))
def zfx (zaa : (Sl Gate)) (zab : (Sl Mp)) : List (List Int) → Int → ((Sl Int) × Int × Int)
  | []=>zpm zaa zab
  | y :: r=>zmN zaa zab (y.getD 0 0) (y.getD 1 0) (zfx zaa zab r)
def zgl (zaa : (Sl Gate)) (zab : (Sl Mp)) : List (List Int) → Int → Bool
  | []=>zpn zaa zab
  | y :: r=>zmO zaa zab (y.getD 0 0) (y.getD 1 0) (zgl zaa zab r)
def zg7 (_gates:Sl Gate) (t:Sl Mp) (ys:List (List Int)):Bool:=ys.all λ y=>decide (0<=zfT ((t.get 0).F y) 0)
theorem zJ9 (zaa:Sl Gate) (t:Sl Mp):∀ (y:List Int) (r:List (List Int)),zg7 zaa t (y :: r)=true->zg7 zaa t r=true:=λ y r h=>by
  simp only[zg7,List.all_cons,dqm] at h ⊢;exact h.2
def kst (F:List Int->Option (List Int)) (k:Int) (y:List Int):Int:=if k < 0 then zfT (F y) 0 else if zfT (F y) 0 < k then zfT (F y) 0 else k
theorem zvw (F:List Int->Option (List Int)) {ys zs:List (List Int)}(h:∀ y∈ys,0<=zfT (F y) 0) (hp:ys.Perm zs) (k:Int):ys.foldl (kst F) k=zs.foldl (kst F) k:=by
  refine hp.foldl_eq' (λ x hx y hy z=>?_) k
  have h1:=h x hx
  have h2:=h y hy
  unfold kst
  repeat' split
  all_goals omega
theorem zsQ (zaa : Sl Gate) (t : Sl Mp) : ∀ (ys : List (List Int)) (k : Int), (∀ y ∈ ys, y.length = 2) → zfx zaa t ys k = zpm zaa t (ys.foldl (kst (t.get 0).F) k)
  | [],k,_=>rfl
  | y :: r,k,h=>by
    have hy:=h y dqj
    match y,hy with
    | [a,b],_ =>
    have ih:=λ k=>zsQ zaa t r k (λ z hz=>h z (dqf _ hz))
    show zmN zaa t a b (zfx zaa t r) k=_
    rw[List.foldl_cons]
    unfold zmN
    by_cases h1:k < 0
    · rw[decide_eq_true h1,cond_true,ih,show kst (t.get 0).F k [a,b]=zfT ((t.get 0).F [a,b]) 0 from if_pos h1]
    · rw [decide_eq_false h1, cond_false]
      by_cases h2:zfT ((t.get 0).F [a,b]) 0 < k
      · rw[decide_eq_true h2,cond_true,ih,show kst (t.get 0).F k [a,b]=zfT ((t.get 0).F [a,b]) 0 from (if_neg h1).trans (if_pos h2)]
      · rw[decide_eq_false h2,cond_false,ih,show kst (t.get 0).F k [a,b]=k from (if_neg h1).trans (if_neg h2)]
theorem zsR (zaa : Sl Gate) (t : Sl Mp) : ∀ (ys : List (List Int)) (k : Int), (∀ y ∈ ys, y.length = 2) → zgl zaa t ys k = zpn zaa t (ys.foldl (kst (t.get 0).F) k)
  | [],k,_=>rfl
  | y :: r,k,h=>by
    have hy:=h y dqj
    match y,hy with
    | [a,b],_ =>
    have ih:=λ k=>zsR zaa t r k (λ z hz=>h z (dqf _ hz))
    show zmO zaa t a b (zgl zaa t r) k=_
    rw[List.foldl_cons]
    unfold zmO
    by_cases h1:k < 0
    · rw[decide_eq_true h1,cond_true,ih,show kst (t.get 0).F k [a,b]=zfT ((t.get 0).F [a,b]) 0 from if_pos h1]
    · rw [decide_eq_false h1, cond_false]
      by_cases h2:zfT ((t.get 0).F [a,b]) 0 < k
      · rw[decide_eq_true h2,cond_true,ih,show kst (t.get 0).F k [a,b]=zfT ((t.get 0).F [a,b]) 0 from (if_neg h1).trans (if_pos h2)]
      · rw[decide_eq_false h2,cond_false,ih,show kst (t.get 0).F k [a,b]=k from (if_neg h1).trans (if_neg h2)]
theorem zKa (zaa : Sl Gate) (t : Sl Mp) (ys zs : List (List Int)) (hl : ∀ y ∈ ys, y.length = 2) (h : zg7 zaa t ys = true) (hp : ys.Perm zs) :
    zg7 zaa t zs=true/\zfx zaa t ys=zfx zaa t zs/\zgl zaa t ys=zgl zaa t zs:=by
  simp only[zg7,List.all_eq_true,decide_eq_true_eq] at h ⊢
  have hl2:∀ y∈zs,y.length=2:=λ y hy=>hl y (hp.mem_iff.2 hy)
  refine⟨λ y hy=>h y (hp.mem_iff.2 hy),funext λ k=>?_,funext λ k=>?_⟩
  · rw[zsQ zaa t ys k hl,zsQ zaa t zs k hl2,zvw _ h hp]
  · rw[zsR zaa t ys k hl,zsR zaa t zs k hl2,zvw _ h hp]
def zsS (zaa:(Sl Gate)) (zab:(Sl Mp)) (zaZ:Int):((Sl Int)×Int×Int):=zfx zaa zab (zn2 zaa) zaZ
def zsU (zaa:(Sl Gate)) (zab:(Sl Mp)) (zaZ:Int):Bool:=keysB 2 ((zab.get 0).n) ((zab.get 0).F) (zn2 zaa) && zg7 zaa zab (zn2 zaa) && zgl zaa zab (zn2 zaa) zaZ
theorem zKb (K:List PA->Prop) (zaa:(Sl Gate)) (zab:(Sl Mp)) (zaZ:Int) (hs:zsU zaa zab zaZ=true) (hk:K (e25 (zsS zaa zab zaZ))):zmy (Wk K) zaa zab [] zaZ:=by
  unfold zsU at hs
  rw[dqm,dqm] at hs
  obtain⟨⟨hkeys,hI⟩,hs⟩:=hs
  have ek:zsS zaa zab zaZ=zfx zaa zab (zn2 zaa) zaZ:=rfl
  rw[ek] at hk
  generalize hys:zn2 zaa=ys0 at hkeys hI hs hk
  refine zBL (Wk K) zaa zab [] zaZ ?_
  intro X3 hstep
  have key:∀ (N:Nat) (ys:List (List Int)) (zbj:List (List Int)) (zaZ:Int),ys.length=N->(zDY 2 ((zab.get 0).n) ((zab.get 0).F)->zHS 2 ((zab.get 0).F) zbj ys)->zg7 zaa zab ys=true->zgl zaa zab ys zaZ=true->K (e25 (zfx zaa zab ys zaZ))->X3 (zje zaa zab zbj zaZ):=by
    intro N
    induction N with
    | zero =>
      intro ys zbj zaZ hN hrem hI hs hk
      obtain rfl:=List.eq_nil_of_length_eq_zero hN
      refine hstep zbj zaZ ?_
      intro hfin
      have hrem:=hrem hfin
      refine⟨λ _=>?_,λ k24_0 k24_1 hF hns=>absurd (hrem.2.2 [k24_0,k24_1] rfl hF hns) (by simp)⟩
      have hs:zpn zaa zab zaZ=true:=hs
      have hk:K (e25 (zpm zaa zab zaZ)):=hk
      unfold zpn at hs
      unfold zpm at hk
      exact (zJ8 K zaa zab zaZ hs hk)
    | succ N ih =>
      intro ys zbj zaZ hN hrem hI hs hk
      refine hstep zbj zaZ ?_
      intro hfin
      have hrem:=hrem hfin
      refine⟨λ hend=>?_,λ k24_0 k24_1 hF hns=>?_⟩
      · exact absurd (zr7 hrem hend) (λ e=>by rw[e] at hN;simp at hN)
      · obtain ⟨hperm, hrem2, hlen⟩ := zoZ hrem (c := [k24_0, k24_1]) rfl hF hns
        obtain⟨hI2,e1,e2⟩:=zKa zaa zab ys _ (λ y hy=>(hrem.2.1 y hy).1) hI hperm
        have hI3:=zJ9 zaa zab _ _ hI2
        rw[e2] at hs
        rw[e1] at hk
        have hs:zmO zaa zab k24_0 k24_1 (zgl zaa zab (ys.erase [k24_0,k24_1])) zaZ=true:=hs
        have hk:K (e25 (zmN zaa zab k24_0 k24_1 (zfx zaa zab (ys.erase [k24_0,k24_1])) zaZ)):=hk
        have ih:=λ (zaZ:Int)=>ih (ys.erase [k24_0,k24_1]) ([k24_0,k24_1] :: zbj) zaZ (by omega) (λ _=>hrem2) hI3
        unfold zmO at hs
        unfold zmN at hk
        generalize zfx zaa zab (ys.erase [k24_0,k24_1])=S3 at hk ih
        generalize zgl zaa zab (ys.erase [k24_0,k24_1])=P3 at hs ih
        have hX3:=ih
        exact (zb8 (K := λ r => K (e25 r))
 (λ hs hk=>(hX3 (zfT (((zab.get 0).F) [k24_0,k24_1]) 0) hs hk))
 (λ hs hk => (zb8 (K := λ r => K (e25 r))
 (λ hs hk=>(hX3 (zfT (((zab.get 0).F) [k24_0,k24_1]) 0) hs hk))
 (fun hs hk=>(hX3 zaZ hs hk)) hs hk)) hs hk)
  exact key _ ys0 [] zaZ rfl (λ hf=>zmb hkeys hf) hI hs hk
def zsV (zaa:(Sl Gate)) (zab:(Sl Mp)):((Sl Int)×Int×Int) :=
  (zsS zaa zab (-1:Int))
def zsW (zaa:(Sl Gate)) (zab:(Sl Mp)):Bool :=
  (decide ((0<=(0:Int)/\(0:Int) < (zab.len:Int))) &&
 (zsU zaa zab (-1:Int)))
theorem zKc (K:List PA->Prop) (zaa:(Sl Gate)) (zab:(Sl Mp)) (zfP:Nat->List PV) (zBZ:zfP=λ i=>zfp (zab.get i)) (hs:zsW zaa zab=true) (hk:K (e25 (zsV zaa zab))):zph (Wk K) zaa zab.len zfP:=by
  subst zBZ
  refine zaM (zJ0 (Wk K) zaa zab) ?_
  unfold zsW at hs
  unfold zsV at hk
  exact (zaI hs λ hc hs=>⟨hc,(zKb K zaa zab (-1:Int) hs hk)⟩)
def zsX (zaa:(Sl Gate)):((Sl Int)×Int×Int) :=
  (zsV zaa (s52 zaa))
def zsY (zaa:(Sl Gate)):Bool :=
  (decide ((p52 zaa=true)) &&
 (zsW zaa (s52 zaa)))
theorem zKd (K:List PA->Prop) (zaa:(Sl Gate)) (hs:zsY zaa=true) (hk:K (e25 (zsX zaa))):zpg (Wk K) zaa:=by
  refine zaM (zJZ (Wk K) zaa) ?_
  unfold zsY at hs
  unfold zsX at hk
  exact (zaI hs λ hc hs=>⟨⟨isE,hc⟩,(zKc K zaa (s52 zaa) (λ i=>zfp ((s52 zaa).get i)) rfl hs hk)⟩)
def zsZ (zaa:(Sl Gate)) (ziq:Bool):((Sl Int)×Int×Int) :=
  (cond ziq
 ((⟨0,λ _=>default⟩:(Sl Int)),(0:Int),(2:Int))
 (zsX zaa))
def zs3 (zaa:(Sl Gate)) (ziq:Bool):Bool :=
  (cond ziq
 true
 (zsY zaa))
theorem zKe (K:List PA->Prop) (zaa:(Sl Gate)) (ziq:Bool) (hs:zs3 zaa ziq=true) (hk:K (e25 (zsZ zaa ziq))):zpf (Wk K) zaa ziq:=by
  refine zaM (zJY (Wk K) zaa ziq) ?_
  unfold zs3 at hs
  unfold zsZ at hk
  exact (zb8 (K := λ r => K (e25 r))
 (λ hs hk=>(wk hk (zfn (.one (.nil _ _)) (zfn (.one (.rfl _)) (zfn (.one (.rfl _)) zma)))))
 (λ hs hk=>(zKd K zaa hs hk)) hs hk)
def s25 (zaa:(Sl Gate)):((Sl Int)×Int×Int) :=
  (zsZ zaa (!(s51 zaa)))
def p25 (zaa:(Sl Gate)):Bool :=
  (decide ((p51 zaa=true)) &&
 (zs3 zaa (!(s51 zaa))))
theorem q25 (zaa:(Sl Gate)) (K:List PA->Prop) (hs:p25 zaa=true) (hk:K (e25 (s25 zaa))):vcFun Tryz.prog G25 zbt 25 [.one (.sl zaa.len 3 (λ i=>enc_48 (zaa.get i)))] (Wk K):=by
  refine zaM (zJX zaa (Wk K)) ?_
  unfold p25 at hs
  unfold s25 at hk
  exact (zaI hs λ hc hs=>⟨⟨isE,hc⟩,(zKe K zaa (!(s51 zaa)) hs hk)⟩)
def zKf : List PA → COut
  | [.one (.sl zaK zbW zaL)]=>.det (IsE enc_48 3 zbW zaL/\p25 (⟨zaK,zaf zaL⟩:(Sl Gate))=true) [.one (.sl (((s25 (⟨zaK,zaf zaL⟩:(Sl Gate))).1).len) 1 (λ i=>zam (((s25 (⟨zaK,zaf zaL⟩:(Sl Gate))).1).get i))),.one (.int .i64 ((s25 (⟨zaK,zaf zaL⟩:(Sl Gate))).2.1)),.one (.int .i64 ((s25 (⟨zaK,zaf zaL⟩:(Sl Gate))).2.2))]
  | _=>.no
theorem zOx:zah Tryz.prog 25:=⟨_,rfl,rfl,by kernel_rfl⟩
theorem zTM:Ok Tryz.prog 25 zKf:=zgQ zRD zOx λ args K h=>by
  unfold zKf at h
  split at h
  · rename_i zaK zbW zaL
    obtain⟨⟨⟨rfl,zbn,rfl⟩,hs⟩,hk⟩:=h
    try rw[zae zbn] at hs
    try rw[zae zbn] at hk
    exact⟨_,zgx zgP _,(λ _ _=>[]),(λ _=>false),zbt,q25 (⟨zaK,zbn⟩:(Sl Gate)) K hs hk⟩
  · exact h.elim
abbrev T54:Tabs:=Tabs.nil
theorem zRE:TabsOk Tryz.prog T54:=TabsOk.nil
abbrev G54:Ctrs:=csm T54 (λ _ _=>[]) (λ _=>false)
def zKg:Ann:=⟨12,[(0,zK [0,1] []),(1,zK [0,1,6] []),(2,zK [0,1] []),(3,zK [4] [])],
 [(1,zK [0,1] [])],
 [],
 [],[]⟩
abbrev R54:=Int
abbrev e54 (r:R54):List PA:=[.one (.int .i64 r)]
@[irreducible] def z54:=ptF Tryz.prog G54 zKg Tryz.f54
def zGg (av0:Int) (bv0:Int):St:=⟨[(0,zI av0),(1,zI bv0)],[],[]⟩
abbrev zOy (K:List PA->Prop) (X:St->Prop) (P:Int->Int->Bool) (S:Int->Int->Int):Prop:=∀ ⦃av0:Int⦄ ⦃bv0:Int⦄,P av0 bv0=true->K (e54 (S av0 bv0))->X (zGg av0 bv0)
section
variable {K:List PA->Prop}{a:Int}{b:Int}{av0:Int}{bv0:Int}{X0:St->Prop}{P0:Int->Int->Bool}{S0:Int->Int->Int}
def zpo (S0:Int->Int->Int) (av0:Int) (bv0:Int):Int :=
  (cond (bv0 != (0:Int))
 (S0 bv0 (av0.tmod bv0))
 av0)
def zpp (P0:Int->Int->Bool) (av0:Int) (bv0:Int):Bool :=
  (cond (bv0 != (0:Int))
 (decide ((bv0 ≠ 0)) &&
 (P0 bv0 (av0.tmod bv0)))
 true)
def zpq:Nat->Int->Int->Int:=lpO (λ _ _=>default) (zpo)
def zpr:Nat->Int->Int->Bool:=lpO (λ _ _=>false) (zpp)
def zB0 (av0:Int) (bv0:Int):Int:=zpq Fuel av0 bv0
def zB1 (av0:Int) (bv0:Int):Bool:=zpr Fuel av0 bv0
theorem zKh (hs:zB1 av0 bv0=true) (hk:K (e54 (zB0 av0 bv0))):z54 K [1,0,0] [] (zGg av0 bv0) :=
  zl (λ X=>z54 K [1,0,0,0] [X]) (by kernel_rfl) λ X0 hX =>
  (show ∀ k, zOy K X0 (zpr k) (zpq k) from zfo _ _ (zpp) (zpo) (zOy K X0)
 (by intro _ _ hs;exact absurd hs dqk)
 (by intro P0 S0 hX0 av0 bv0 hs hk;exact hX _ (zaM (by kernel_rfl) (zc hs hk (λ hs hk=>(zaI hs λ hc hs=>And.intro hc (hX0 hs hk))) (λ hs hk=>hk))))) _ hs hk
def s54 (a:Int) (b:Int):Int :=
  (zB0 a b)
def p54 (a:Int) (b:Int):Bool :=
  (zB1 a b)
end
theorem q54 (a:Int) (b:Int) (K:List PA->Prop) (hs:p54 a b=true) (hk:K (e54 (s54 a b))):vcFun Tryz.prog G54 zKg 54 [.one (.int .i64 a),.one (.int .i64 b)] K :=
  zaM (by kernel_rfl) (zKh hs hk)
def zKi : List PA → COut
  | [.one (.int .i64 a0),.one (.int .i64 a1)]=>.det (p54 a0 a1=true) [.one (.int .i64 (s54 a0 a1))]
  | _=>.no
theorem zOz:zah Tryz.prog 54:=⟨_,rfl,rfl,by kernel_rfl⟩
theorem zTN:Ok Tryz.prog 54 zKi:=zaV zRE zOz λ args K h=>by
  unfold zKi at h
  split at h
  · rename_i a0 a1
    obtain⟨hs,hk⟩:=h
    exact⟨(λ _ _=>[]),(λ _=>false),zKg,q54 a0 a1 K hs hk⟩
  · exact h.elim
abbrev T26:Tabs:=(Tabs.nil.addF 54 zKi)
theorem zRF:TabsOk Tryz.prog T26:=(TabsOk.nil.addF zTN)
abbrev G26:Ctrs:=csm T26 (λ _ _=>[]) (λ _=>false)
def zOA:Ann:=⟨19,[(0,zK [0,1,4] [4]),(1,zK [0,1,4,5] [4]),(2,zK [4] [4])],
 [],
 [],
 [],[]⟩
abbrev R26:=Frac
abbrev e26 (r:R26):List PA:=[.agg [.int .i64 r.Num,.int .i64 r.Den]]
section
variable {K:List PA->Prop}{num:Int}{den:Int}
def s26 (num:Int) (den:Int):Frac :=
  (⟨(w64 (num.tdiv (s54 (if (w64 (0 - num)) > num then (w64 (0 - num)) else num) den))),(w64 (den.tdiv (s54 (if (w64 (0 - num)) > num then (w64 (0 - num)) else num) den)))⟩:Frac)
def p26 (num:Int) (den:Int):Bool :=
  (decide ((p54 (if (w64 (0 - num)) > num then (w64 (0 - num)) else num) den=true)) &&
 (decide (((s54 (if (w64 (0 - num)) > num then (w64 (0 - num)) else num) den) ≠ 0)) &&
 (decide (((s54 (if (w64 (0 - num)) > num then (w64 (0 - num)) else num) den) ≠ 0)) &&
 true)))
end
theorem q26 (num:Int) (den:Int) (K:List PA->Prop) (hs:p26 num den=true) (hk:K (e26 (s26 num den))):vcFun Tryz.prog G26 zOA 26 [.one (.int .i64 num),.one (.int .i64 den)] K :=
  zaM (by kernel_rfl) (zaI hs λ hc hs=>And.intro hc (zaI hs λ hc hs=>And.intro hc (zaI hs λ hc hs=>And.intro hc hk)))
def zB2 : List PA → COut
  | [.one (.int .i64 a0),.one (.int .i64 a1)]=>.det (p26 a0 a1=true) [.agg [.int .i64 ((s26 a0 a1).Num),.int .i64 ((s26 a0 a1).Den)]]
  | _=>.no
theorem zOB:zah Tryz.prog 26:=⟨_,rfl,rfl,by kernel_rfl⟩
theorem zRG:Ok Tryz.prog 26 zB2:=zaV zRF zOB λ args K h=>by
  unfold zB2 at h
  split at h
  · rename_i a0 a1
    obtain⟨hs,hk⟩:=h
    exact⟨(λ _ _=>[]),(λ _=>false),zOA,q26 a0 a1 K hs hk⟩
  · exact h.elim
abbrev T27:Tabs:=Tabs.nil
theorem zRH:TabsOk Tryz.prog T27:=TabsOk.nil
abbrev G27:Ctrs:=csm T27 (λ _ _=>[]) (λ _=>false)
def zKj:Ann:=⟨26,[(0,zK [0,1] []),(1,zK [0,1,10] []),(2,zK [4] []),(3,zK [0,1,5] []),(4,zK [0,1,5,14] []),(5,zK [0,1,5] []),(6,zK [0,1,5,25] []),(7,zK [4] []),(8,zK [4] [])],
 [(4,zK [0,1,5] [])],
 [(3,zK [0,1] [])],
 [],[]⟩
abbrev R27:=Bool
abbrev e27 (r:R27):List PA:=[.one (.bool r)]
@[irreducible] def z27:=ptF Tryz.prog G27 zKj Tryz.f27
def zGh (a:(Sl Line)) (b:(Sl Line)) (iv1:Int):St:=⟨[(0,zS zbr 4 a),(1,zS zbr 4 b),(5,zI iv1)],[],[]⟩
abbrev zOC (K:List PA->Prop) (a:(Sl Line)) (b:(Sl Line)) (X:St->Prop) (P:Int->Bool) (S:Int->Bool):Prop:=∀ ⦃iv1:Int⦄,P iv1=true->K (e27 (S iv1))->X (zGh a b iv1)
section
variable {K:List PA->Prop}{a:(Sl Line)}{b:(Sl Line)}{iv1:Int}{X1:St->Prop}{P1:Int->Bool}{S1:Int->Bool}
def zB3 (a:(Sl Line)) (b:(Sl Line)) (S1:Int->Bool) (iv1:Int):Bool :=
  (cond (decide (iv1 < (a.len : Int)))
 (cond (!(match (match ((a.get iv1.toNat).Slope.Num == (b.get iv1.toNat).Slope.Num) with | true => (match ((a.get iv1.toNat).Slope.Den == (b.get iv1.toNat).Slope.Den) with | true => true | false => false) | false => false) with | true => (match (match ((a.get iv1.toNat).Start.Num == (b.get iv1.toNat).Start.Num) with | true => (match ((a.get iv1.toNat).Start.Den == (b.get iv1.toNat).Start.Den) with | true => true | false => false) | false => false) with | true => true | false => false) | false => false))
 false
 (S1 (w64 (iv1+(1:Int)))))
 true)
def zB4 (a:(Sl Line)) (b:(Sl Line)) (P1:Int->Bool) (iv1:Int):Bool :=
  (cond (decide (iv1 < (a.len : Int)))
 (decide ((0<=iv1/\iv1 < (a.len:Int))) &&
 (decide ((0<=iv1/\iv1 < (b.len:Int))) &&
 (cond (!(match (match ((a.get iv1.toNat).Slope.Num == (b.get iv1.toNat).Slope.Num) with | true => (match ((a.get iv1.toNat).Slope.Den == (b.get iv1.toNat).Slope.Den) with | true => true | false => false) | false => false) with | true => (match (match ((a.get iv1.toNat).Start.Num == (b.get iv1.toNat).Start.Num) with | true => (match ((a.get iv1.toNat).Start.Den == (b.get iv1.toNat).Start.Den) with | true => true | false => false) | false => false) with | true => true | false => false) | false => false))
 true
 (P1 (w64 (iv1+(1:Int)))))))
 true)
def zB5 (a:(Sl Line)) (b:(Sl Line)):Nat->Int->Bool:=lpO (λ _=>default) (zB3 a b)
def zB6 (a:(Sl Line)) (b:(Sl Line)):Nat->Int->Bool:=lpO (λ _=>false) (zB4 a b)
def zB7 (a:(Sl Line)) (b:(Sl Line)) (iv1:Int):Bool:=zB5 a b Fuel iv1
def zB8 (a:(Sl Line)) (b:(Sl Line)) (iv1:Int):Bool:=zB6 a b Fuel iv1
theorem zKk (hs:zB8 a b iv1=true) (hk:K (e27 (zB7 a b iv1))):z27 K [1,1,0,1,0] [] (zGh a b iv1) :=
  zl (λ X=>z27 K [1,1,0,1,0,0] [X]) (by kernel_rfl) λ X1 hX =>
  (show ∀ k, zOC K a b X1 (zB6 a b k) (zB5 a b k) from zfo _ _ (zB4 a b) (zB3 a b) (zOC K a b X1)
 (by intro _ hs;exact absurd hs dqk)
 (by intro P1 S1 hX1 iv1 hs hk;exact hX _ (zaM (by kernel_rfl) (zc hs hk (λ hs hk=>(zaI hs λ hc hs=>And.intro hc (zaI hs λ hc hs=>And.intro hc (zc hs hk (λ hs hk=>hk) (λ hs hk=>(hX1 hs hk)))))) (λ hs hk=>hk))))) _ hs hk
def zB9 (a:(Sl Line)) (b:(Sl Line)):Bool :=
  (zB7 a b (0:Int))
def zCa (a:(Sl Line)) (b:(Sl Line)):Bool :=
  (zB8 a b (0:Int))
theorem zKl (hs:zCa a b=true) (hk:K (e27 (zB9 a b))):z27 K [1,1] [] ⟨[(0,zS zbr 4 a),(1,zS zbr 4 b)],[],[]⟩:=zaM (by kernel_rfl) (zKk hs hk)
def s27 (a:(Sl Line)) (b:(Sl Line)):Bool :=
  (cond ((a.len : Int) != (b.len : Int))
 false
 (zB9 a b))
def p27 (a:(Sl Line)) (b:(Sl Line)):Bool :=
  (cond ((a.len : Int) != (b.len : Int))
 true
 (zCa a b))
end
theorem q27 (a:(Sl Line)) (b:(Sl Line)) (K:List PA->Prop) (hs:p27 a b=true) (hk:K (e27 (s27 a b))):vcFun Tryz.prog G27 zKj 27 [.one (.sl a.len 4 (λ i=>zbr (a.get i))),.one (.sl b.len 4 (λ i=>zbr (b.get i)))] K :=
  zaM (by kernel_rfl) (zc hs hk (λ hs hk=>hk) (λ hs hk=>(zKl hs hk)))
def zKm : List PA → COut
  | [.one (.sl zaK zbW zaL),.one (.sl zd9 zi9 zea)]=>.det (IsE zbr 4 zbW zaL/\IsE zbr 4 zi9 zea/\p27 (⟨zaK,zmc zaL⟩:(Sl Line)) (⟨zd9,zmc zea⟩:(Sl Line))=true) [.one (.bool (s27 (⟨zaK,zmc zaL⟩:(Sl Line)) (⟨zd9,zmc zea⟩:(Sl Line))))]
  | _=>.no
theorem zOD:zah Tryz.prog 27:=⟨_,rfl,rfl,by kernel_rfl⟩
theorem zTO:Ok Tryz.prog 27 zKm:=zaV zRH zOD λ args K h=>by
  unfold zKm at h
  split at h
  · rename_i zaK zbW zaL zd9 zi9 zea
    obtain⟨⟨⟨rfl,zbn,rfl⟩,⟨rfl,zgy,rfl⟩,hs⟩,hk⟩:=h
    try rw[zga zbn] at hs
    try rw[zga zbn] at hk
    try rw[zga zgy] at hs
    try rw[zga zgy] at hk
    exact⟨(λ _ _=>[]),(λ _=>false),zKj,q27 (⟨zaK,zbn⟩:(Sl Line)) (⟨zd9,zgy⟩:(Sl Line)) K hs hk⟩
  · exact h.elim
abbrev T5:Tabs:=((((((((((Tabs.nil.addF 9 zHT).addF 18 zIH).addF 20 zI1).addF 21 zI2).addF 22 zJv).addF 23 zJw).addF 24 zJJ).addF 25 zKf).addF 26 zB2).addF 27 zKm)
theorem zTP:TabsOk Tryz.prog T5:=((((((((((TabsOk.nil.addF ok9).addF zTm).addF zTx).addF zTy).addF zTH).addF zTI).addF zTJ).addF zTM).addF zRG).addF zTO)
abbrev G5:Ctrs:=csm T5 (λ _ _=>[]) (λ _=>false)
def zRI:Ann:=⟨125,[(0,zK [] []),(1,zK [1,2] []),(2,zK [1,2,3,4,5] [3,4]),(3,zK [1,2,3,4,5,6,7] [3,4]),(4,zK [1,2,3,4,5,6,7,8,9,10,11] [3,4,9,10]),(5,zK [1,2,3,4,5,6,7,8,9,10,11,12,13,14] [3,4,9,10]),(6,zK [1,3,4,6,9,10,12,76] [3,4,9,10]),(7,zK [0] []),(8,zK [1,3,4,6,9,10,12,15] [3,4,9,10,89]),(9,zK [0] [])],
 [],
 [(2,zK [1,2] []),(3,zK [1,2,3,4,5] [3,4]),(4,zK [1,2,3,4,5,6,7] [3,4]),(5,zK [1,2,3,4,5,6,7,8,9,10,11] [3,4,9,10]),(6,zK [1,2,3,4,5,6,7,8,9,10,11,12,13,14] [3,4,9,10]),(8,zK [1,3,4,6,9,10,12] [3,4,9,10]),(9,zK [1,3,4,6,9,10,12,15] [3,4,9,10,89])],
 [],[]⟩
abbrev R5:=Bool
abbrev e5 (r:R5):List PA:=[.one (.bool r)]
@[irreducible] def z5:=ptF Tryz.prog G5 zRI Tryz.f5
section
variable {K:List PA->Prop}{cv0:(Sl Line)}{ev0:Int}{zOE:Nat->List PV}{fv1:Int}{zcP:Int}{zcQ:Int}{zcR:Int}{zcS:Int}{sv2:(Sl Int)}{gv2:Int}{zCb:Nat->List PV}{sv3:(Sl Int)}{zv3:Int}{hv3:Int}{zdY:Int}{zdZ:Int}{zd0:Int}{zd1:Int}{zCc:Nat->List PV}{sv4:(Sl Int)}{lv4:(Sl Int)}{kv4:Int}{iv4:Int}{zOF:Nat->List PV}{zOG:Nat->List PV}{sv5:(Sl Int)}{zOH:Nat->List PV}{sv6:(Sl Int)}{znv:(Sl Line)}{zOI:Nat->List PV}{zCd:Nat->List PV}
def zGi (cv0:(Sl Line)) (zcP:Int) (zcQ:Int) (zcR:Int) (zcS:Int) (zdY:Int) (zdZ:Int) (zd0:Int) (zd1:Int) (lv4:(Sl Int)) (sv6:(Sl Int)) (znv:(Sl Line)):Bool :=
  (cond (s27 cv0 znv)
 (cond (match (zcP == (s26 (40:Int) (1:Int)).Num) with | true => (match (zcQ == (s26 (40:Int) (1:Int)).Den) with | true => true | false => false) | false => false)
 (cond (match (zcR == (s26 (90:Int) (1:Int)).Num) with | true => (match (zcS == (s26 (90:Int) (1:Int)).Den) with | true => true | false => false) | false => false)
 (cond ((s9 sv6 (⟨3, zcf (zet [(zam (0:Int)), (zam (1:Int)), (zam (2:Int))])⟩ : (Sl Int))) == (0:Int))
 (cond (match (zdY == (s26 (499:Int) (10:Int)).Num) with | true => (match (zdZ == (s26 (499:Int) (10:Int)).Den) with | true => true | false => false) | false => false)
 (cond (match (zd0 == (s26 (501:Int) (10:Int)).Num) with | true => (match (zd1 == (s26 (501:Int) (10:Int)).Den) with | true => true | false => false) | false => false)
 ((s9 lv4 (⟨3,zcf (zet [(zam (2:Int)),(zam (5:Int)),(zam (2:Int))])⟩:(Sl Int))) == (0:Int))
 false)
 false)
 false)
 false)
 false)
 false)
def zGj (cv0:(Sl Line)) (zcP:Int) (zcQ:Int) (zcR:Int) (zcS:Int) (zdY:Int) (zdZ:Int) (zd0:Int) (zd1:Int) (lv4:(Sl Int)) (sv6:(Sl Int)) (znv:(Sl Line)):Bool :=
  (decide ((p27 cv0 znv=true)) &&
 (cond (s27 cv0 znv)
 (decide ((p26 (40:Int) (1:Int)=true)) &&
 (cond (match (zcP == (s26 (40:Int) (1:Int)).Num) with | true => (match (zcQ == (s26 (40:Int) (1:Int)).Den) with | true => true | false => false) | false => false)
 (decide ((p26 (90:Int) (1:Int)=true)) &&
 (cond (match (zcR == (s26 (90:Int) (1:Int)).Num) with | true => (match (zcS == (s26 (90:Int) (1:Int)).Den) with | true => true | false => false) | false => false)
 (decide ((p9 sv6 (⟨3,zcf (zet [(zam (0:Int)),(zam (1:Int)),(zam (2:Int))])⟩:(Sl Int))=true)) &&
 (cond ((s9 sv6 (⟨3, zcf (zet [(zam (0:Int)), (zam (1:Int)), (zam (2:Int))])⟩ : (Sl Int))) == (0:Int))
 (decide ((p26 (499:Int) (10:Int)=true)) &&
 (cond (match (zdY == (s26 (499:Int) (10:Int)).Num) with | true => (match (zdZ == (s26 (499:Int) (10:Int)).Den) with | true => true | false => false) | false => false)
 (decide ((p26 (501:Int) (10:Int)=true)) &&
 (cond (match (zd0 == (s26 (501:Int) (10:Int)).Num) with | true => (match (zd1 == (s26 (501:Int) (10:Int)).Den) with | true => true | false => false) | false => false)
 (decide ((p9 lv4 (⟨3,zcf (zet [(zam (2:Int)),(zam (5:Int)),(zam (2:Int))])⟩:(Sl Int))=true)) &&
 true)
 true))
 true))
 true))
 true))
 true))
 true))
theorem zOJ (hs:zGj cv0 zcP zcQ zcR zcS zdY zdZ zd0 zd1 lv4 sv6 znv=true) (hk:K (e5 (zGi cv0 zcP zcQ zcR zcS zdY zdZ zd0 zd1 lv4 sv6 znv))) (zRJ:zOI=zg zam sv6) (zKn:zCd=zg zbr znv):z5 K [1,1,1,1,1,1,1,1] [] ⟨[(1,zS zbr 4 cv0),(3,zp 3 0),(4,zp 4 0),(6,zP (.sl sv6.len 1 zOI)),(9,zp 9 0),(10,zp 10 0),(12,zS zam 1 lv4),(15,zv 89)],[(3,.box 40 (zm (zal (⟨zcP,zcQ⟩:Frac)))),(4,.box 40 (zm (zal (⟨zcR,zcS⟩:Frac)))),(9,.box 40 (zm (zal (⟨zdY,zdZ⟩:Frac)))),(10,.box 40 (zm (zal (⟨zd0,zd1⟩:Frac)))),(89,.vec 42 4 32 znv.len zCd)],[]⟩:=by subst zRJ;subst zKn;exact zaM (by kernel_rfl) (zaI hs λ hc hs=>And.intro (And.intro (zE zbr 4 cv0.get) (And.intro (zE zbr 4 znv.get) hc)) (zc hs hk (λ hs hk=>(zaI hs λ hc hs=>And.intro hc (zc hs hk (λ hs hk=>(zaI hs λ hc hs=>And.intro hc (zc hs hk (λ hs hk=>(zaI hs λ hc hs=>And.intro (And.intro (zE zam 1 sv6.get) (And.intro ((zhI [(2:Int)]):IsE zam 1 1 (zet [(zam (0:Int)),(zam (1:Int)),(zam (2:Int))])) hc)) (zc hs hk (λ hs hk=>(zaI hs λ hc hs=>And.intro hc (zc hs hk (λ hs hk=>(zaI hs λ hc hs=>And.intro hc (zc hs hk (λ hs hk=>(zaI hs λ hc hs=>And.intro (And.intro (zE zam 1 lv4.get) (And.intro ((zhI [(2:Int)]):IsE zam 1 1 (zet [(zam (2:Int)),(zam (5:Int)),(zam (2:Int))])) hc)) hk)) (λ hs hk=>hk)))) (λ hs hk=>hk)))) (λ hs hk=>hk)))) (λ hs hk=>hk)))) (λ hs hk=>hk)))) (λ hs hk=>hk)))
def zGk (cv0:(Sl Line)) (zcP:Int) (zcQ:Int) (zcR:Int) (zcS:Int) (zdY:Int) (zdZ:Int) (zd0:Int) (zd1:Int) (lv4:(Sl Int)) (sv5:(Sl Int)):Bool :=
  (zGi cv0 zcP zcQ zcR zcS zdY zdZ zd0 zd1 lv4 sv5 (⟨4,(zlo (⟨(s26 (1:Int) (10:Int)),(s26 (10:Int) (1:Int))⟩:Line) [(⟨(s26 (1:Int) (10:Int)),(s26 (10:Int) (1:Int))⟩:Line),(⟨(s26 (1:Int) (5:Int)),(s26 (0:Int) (1:Int))⟩:Line),(⟨(s26 (3:Int) (10:Int)),(s26 (0:Int) (1:Int))⟩:Line),(⟨(s26 (1:Int) (5:Int)),(s26 (10:Int) (1:Int))⟩:Line)])⟩:Sl Line))
def zGl (cv0:(Sl Line)) (zcP:Int) (zcQ:Int) (zcR:Int) (zcS:Int) (zdY:Int) (zdZ:Int) (zd0:Int) (zd1:Int) (lv4:(Sl Int)) (sv5:(Sl Int)):Bool :=
  (decide ((p26 (1:Int) (10:Int)=true)) &&
 (decide ((p26 (10:Int) (1:Int)=true)) &&
 (decide ((p26 (1:Int) (5:Int)=true)) &&
 (decide ((p26 (0:Int) (1:Int)=true)) &&
 (decide ((p26 (3:Int) (10:Int)=true)) &&
 (decide ((p26 (0:Int) (1:Int)=true)) &&
 (decide ((p26 (1:Int) (5:Int)=true)) &&
 (decide ((p26 (10:Int) (1:Int)=true)) &&
 (zGj cv0 zcP zcQ zcR zcS zdY zdZ zd0 zd1 lv4 sv5 (⟨4,(zlo (⟨(s26 (1:Int) (10:Int)),(s26 (10:Int) (1:Int))⟩:Line) [(⟨(s26 (1:Int) (10:Int)),(s26 (10:Int) (1:Int))⟩:Line),(⟨(s26 (1:Int) (5:Int)),(s26 (0:Int) (1:Int))⟩:Line),(⟨(s26 (3:Int) (10:Int)),(s26 (0:Int) (1:Int))⟩:Line),(⟨(s26 (1:Int) (5:Int)),(s26 (10:Int) (1:Int))⟩:Line)])⟩:Sl Line))))))))))
theorem zOK (hs:zGl cv0 zcP zcQ zcR zcS zdY zdZ zd0 zd1 lv4 sv5=true) (hk:K (e5 (zGk cv0 zcP zcQ zcR zcS zdY zdZ zd0 zd1 lv4 sv5))) (zRK:zOH=zg zam sv5):z5 K [1,1,1,1,1,1,1] [] ⟨[(1,zS zbr 4 cv0),(3,zp 3 0),(4,zp 4 0),(6,zP (.sl sv5.len 1 zOH)),(9,zp 9 0),(10,zp 10 0),(12,zS zam 1 lv4)],[(3,.box 40 (zm (zal (⟨zcP,zcQ⟩:Frac)))),(4,.box 40 (zm (zal (⟨zcR,zcS⟩:Frac)))),(9,.box 40 (zm (zal (⟨zdY,zdZ⟩:Frac)))),(10,.box 40 (zm (zal (⟨zd0,zd1⟩:Frac))))],[]⟩:=by subst zRK;exact zaM (by kernel_rfl) (zaI hs λ hc hs=>And.intro hc (zaI hs λ hc hs=>And.intro hc (zaI hs λ hc hs=>And.intro hc (zaI hs λ hc hs=>And.intro hc (zaI hs λ hc hs=>And.intro hc (zaI hs λ hc hs=>And.intro hc (zaI hs λ hc hs=>And.intro hc (zaI hs λ hc hs=>And.intro hc (zOJ hs hk rfl (zf8 (enc:=zbr) (x:=(⟨(s26 (1:Int) (10:Int)),(s26 (10:Int) (1:Int))⟩:Line)) (y:=(⟨(s26 (1:Int) (5:Int)),(s26 (0:Int) (1:Int))⟩:Line)) (r:=[(⟨(s26 (3:Int) (10:Int)),(s26 (0:Int) (1:Int))⟩:Line),(⟨(s26 (1:Int) (5:Int)),(s26 (10:Int) (1:Int))⟩:Line)])))))))))))
def zGm (cv0:(Sl Line)) (ev0:Int) (fv1:Int) (zcP:Int) (zcQ:Int) (zcR:Int) (zcS:Int) (gv2:Int) (zv3:Int) (hv3:Int) (zdY:Int) (zdZ:Int) (zd0:Int) (zd1:Int) (sv4:(Sl Int)) (lv4:(Sl Int)) (kv4:Int) (iv4:Int):Bool :=
  (cond (ev0 != (0:Int))
 false
 (cond (fv1 != (0:Int))
 false
 (cond (gv2 != (0:Int))
 false
 (cond (hv3 != (0:Int))
 false
 (cond (iv4 != (0:Int))
 false
 (cond (kv4 != (600:Int))
 false
 (cond (zv3 != (167:Int))
 false
 (zGk cv0 zcP zcQ zcR zcS zdY zdZ zd0 zd1 lv4 sv4))))))))
def zGn (cv0:(Sl Line)) (ev0:Int) (fv1:Int) (zcP:Int) (zcQ:Int) (zcR:Int) (zcS:Int) (gv2:Int) (zv3:Int) (hv3:Int) (zdY:Int) (zdZ:Int) (zd0:Int) (zd1:Int) (sv4:(Sl Int)) (lv4:(Sl Int)) (kv4:Int) (iv4:Int):Bool :=
  (cond (ev0 != (0:Int))
 true
 (cond (fv1 != (0:Int))
 true
 (cond (gv2 != (0:Int))
 true
 (cond (hv3 != (0:Int))
 true
 (cond (iv4 != (0:Int))
 true
 (cond (kv4 != (600:Int))
 true
 (cond (zv3 != (167:Int))
 true
 (zGl cv0 zcP zcQ zcR zcS zdY zdZ zd0 zd1 lv4 sv4))))))))
theorem zOL (hs:zGn cv0 ev0 fv1 zcP zcQ zcR zcS gv2 zv3 hv3 zdY zdZ zd0 zd1 sv4 lv4 kv4 iv4=true) (hk:K (e5 (zGm cv0 ev0 fv1 zcP zcQ zcR zcS gv2 zv3 hv3 zdY zdZ zd0 zd1 sv4 lv4 kv4 iv4))) (zRL:zOF=zg zam sv4) (zRM:zOG=zg zam lv4):z5 K [1,1,1,1,1,1] [] ⟨[(1,zS zbr 4 cv0),(2,zI ev0),(3,zp 3 0),(4,zp 4 0),(5,zI fv1),(6,zP (.sl sv4.len 1 zOF)),(7,zI gv2),(8,zI zv3),(9,zp 9 0),(10,zp 10 0),(11,zI hv3),(12,zP (.sl lv4.len 1 zOG)),(13,zI kv4),(14,zI iv4)],[(3,.box 40 (zm (zal (⟨zcP,zcQ⟩:Frac)))),(4,.box 40 (zm (zal (⟨zcR,zcS⟩:Frac)))),(9,.box 40 (zm (zal (⟨zdY,zdZ⟩:Frac)))),(10,.box 40 (zm (zal (⟨zd0,zd1⟩:Frac))))],[]⟩:=by subst zRL;subst zRM;exact zaM (by kernel_rfl) (zc hs hk (λ hs hk=>hk) (λ hs hk=>(zc hs hk (λ hs hk=>hk) (λ hs hk=>(zc hs hk (λ hs hk=>hk) (λ hs hk=>(zc hs hk (λ hs hk=>hk) (λ hs hk=>(zc hs hk (λ hs hk=>hk) (λ hs hk=>(zc hs hk (λ hs hk=>hk) (λ hs hk=>(zc hs hk (λ hs hk=>hk) (λ hs hk=>(zOK hs hk rfl)))))))))))))))
def zGo (cv0:(Sl Line)) (ev0:Int) (fv1:Int) (zcP:Int) (zcQ:Int) (zcR:Int) (zcS:Int) (gv2:Int) (sv3:(Sl Int)) (zv3:Int) (hv3:Int) (zdY:Int) (zdZ:Int) (zd0:Int) (zd1:Int):Bool :=
  (zGm cv0 ev0 fv1 zcP zcQ zcR zcS gv2 zv3 hv3 zdY zdZ zd0 zd1 sv3 ((s25 (⟨3,zaf (zet [(enc_48 (⟨(0:Int),(0:Int),(2:Int)⟩:Gate)),(enc_48 (⟨(10:Int),(5:Int),(6:Int)⟩:Gate)),(enc_48 (⟨(20:Int),(0:Int),(2:Int)⟩:Gate))])⟩:(Sl Gate))).1) ((s25 (⟨3,zaf (zet [(enc_48 (⟨(0:Int),(0:Int),(2:Int)⟩:Gate)),(enc_48 (⟨(10:Int),(5:Int),(6:Int)⟩:Gate)),(enc_48 (⟨(20:Int),(0:Int),(2:Int)⟩:Gate))])⟩:(Sl Gate))).2.1) ((s25 (⟨3,zaf (zet [(enc_48 (⟨(0:Int),(0:Int),(2:Int)⟩:Gate)),(enc_48 (⟨(10:Int),(5:Int),(6:Int)⟩:Gate)),(enc_48 (⟨(20:Int),(0:Int),(2:Int)⟩:Gate))])⟩:(Sl Gate))).2.2))
def zGp (cv0:(Sl Line)) (ev0:Int) (fv1:Int) (zcP:Int) (zcQ:Int) (zcR:Int) (zcS:Int) (gv2:Int) (sv3:(Sl Int)) (zv3:Int) (hv3:Int) (zdY:Int) (zdZ:Int) (zd0:Int) (zd1:Int):Bool :=
  (decide ((p25 (⟨3,zaf (zet [(enc_48 (⟨(0:Int),(0:Int),(2:Int)⟩:Gate)),(enc_48 (⟨(10:Int),(5:Int),(6:Int)⟩:Gate)),(enc_48 (⟨(20:Int),(0:Int),(2:Int)⟩:Gate))])⟩:(Sl Gate))=true)) &&
 (zGn cv0 ev0 fv1 zcP zcQ zcR zcS gv2 zv3 hv3 zdY zdZ zd0 zd1 sv3 ((s25 (⟨3,zaf (zet [(enc_48 (⟨(0:Int),(0:Int),(2:Int)⟩:Gate)),(enc_48 (⟨(10:Int),(5:Int),(6:Int)⟩:Gate)),(enc_48 (⟨(20:Int),(0:Int),(2:Int)⟩:Gate))])⟩:(Sl Gate))).1) ((s25 (⟨3,zaf (zet [(enc_48 (⟨(0:Int),(0:Int),(2:Int)⟩:Gate)),(enc_48 (⟨(10:Int),(5:Int),(6:Int)⟩:Gate)),(enc_48 (⟨(20:Int),(0:Int),(2:Int)⟩:Gate))])⟩:(Sl Gate))).2.1) ((s25 (⟨3,zaf (zet [(enc_48 (⟨(0:Int),(0:Int),(2:Int)⟩:Gate)),(enc_48 (⟨(10:Int),(5:Int),(6:Int)⟩:Gate)),(enc_48 (⟨(20:Int),(0:Int),(2:Int)⟩:Gate))])⟩:(Sl Gate))).2.2)))
theorem zOM (hs:zGp cv0 ev0 fv1 zcP zcQ zcR zcS gv2 sv3 zv3 hv3 zdY zdZ zd0 zd1=true) (hk:K (e5 (zGo cv0 ev0 fv1 zcP zcQ zcR zcS gv2 sv3 zv3 hv3 zdY zdZ zd0 zd1))) (zKo:zCc=zg zam sv3):z5 K [1,1,1,1,1] [] ⟨[(1,zS zbr 4 cv0),(2,zI ev0),(3,zp 3 0),(4,zp 4 0),(5,zI fv1),(6,zP (.sl sv3.len 1 zCc)),(7,zI gv2),(8,zI zv3),(9,zp 9 0),(10,zp 10 0),(11,zI hv3)],[(3,.box 40 (zm (zal (⟨zcP,zcQ⟩:Frac)))),(4,.box 40 (zm (zal (⟨zcR,zcS⟩:Frac)))),(9,.box 40 (zm (zal (⟨zdY,zdZ⟩:Frac)))),(10,.box 40 (zm (zal (⟨zd0,zd1⟩:Frac))))],[]⟩:=by subst zKo;exact zaM (by kernel_rfl) (zaI hs λ hc hs=>And.intro (And.intro ((zhI [(⟨(20:Int),(0:Int),(2:Int)⟩:Gate)]):IsE enc_48 3 3 (zet [(enc_48 (⟨(0:Int),(0:Int),(2:Int)⟩:Gate)),(enc_48 (⟨(10:Int),(5:Int),(6:Int)⟩:Gate)),(enc_48 (⟨(20:Int),(0:Int),(2:Int)⟩:Gate))])) hc) (zOL hs hk rfl rfl))
def zGq (cv0:(Sl Line)) (ev0:Int) (fv1:Int) (zcP:Int) (zcQ:Int) (zcR:Int) (zcS:Int) (sv2:(Sl Int)) (gv2:Int):Bool :=
  (zGo cv0 ev0 fv1 zcP zcQ zcR zcS gv2 sv2 ((s24 s21 (⟨2,zaf (zet [(enc_48 (⟨(0:Int),(100:Int),(110:Int)⟩:Gate)),(enc_48 (⟨(200:Int),(40:Int),(50:Int)⟩:Gate))])⟩:(Sl Gate)) (0:Int) (300:Int)).1) ((s24 s21 (⟨2,zaf (zet [(enc_48 (⟨(0:Int),(100:Int),(110:Int)⟩:Gate)),(enc_48 (⟨(200:Int),(40:Int),(50:Int)⟩:Gate))])⟩:(Sl Gate)) (0:Int) (300:Int)).2.2.2) (((s24 s21 (⟨2,zaf (zet [(enc_48 (⟨(0:Int),(100:Int),(110:Int)⟩:Gate)),(enc_48 (⟨(200:Int),(40:Int),(50:Int)⟩:Gate))])⟩:(Sl Gate)) (0:Int) (300:Int)).2.1).Num) (((s24 s21 (⟨2,zaf (zet [(enc_48 (⟨(0:Int),(100:Int),(110:Int)⟩:Gate)),(enc_48 (⟨(200:Int),(40:Int),(50:Int)⟩:Gate))])⟩:(Sl Gate)) (0:Int) (300:Int)).2.1).Den) (((s24 s21 (⟨2,zaf (zet [(enc_48 (⟨(0:Int),(100:Int),(110:Int)⟩:Gate)),(enc_48 (⟨(200:Int),(40:Int),(50:Int)⟩:Gate))])⟩:(Sl Gate)) (0:Int) (300:Int)).2.2.1).Num) (((s24 s21 (⟨2,zaf (zet [(enc_48 (⟨(0:Int),(100:Int),(110:Int)⟩:Gate)),(enc_48 (⟨(200:Int),(40:Int),(50:Int)⟩:Gate))])⟩:(Sl Gate)) (0:Int) (300:Int)).2.2.1).Den))
def zGr (cv0:(Sl Line)) (ev0:Int) (fv1:Int) (zcP:Int) (zcQ:Int) (zcR:Int) (zcS:Int) (sv2:(Sl Int)) (gv2:Int):Bool :=
  (decide ((p24 s21 (⟨2,zaf (zet [(enc_48 (⟨(0:Int),(100:Int),(110:Int)⟩:Gate)),(enc_48 (⟨(200:Int),(40:Int),(50:Int)⟩:Gate))])⟩:(Sl Gate)) (0:Int) (300:Int)=true)) &&
 (zGp cv0 ev0 fv1 zcP zcQ zcR zcS gv2 sv2 ((s24 s21 (⟨2,zaf (zet [(enc_48 (⟨(0:Int),(100:Int),(110:Int)⟩:Gate)),(enc_48 (⟨(200:Int),(40:Int),(50:Int)⟩:Gate))])⟩:(Sl Gate)) (0:Int) (300:Int)).1) ((s24 s21 (⟨2,zaf (zet [(enc_48 (⟨(0:Int),(100:Int),(110:Int)⟩:Gate)),(enc_48 (⟨(200:Int),(40:Int),(50:Int)⟩:Gate))])⟩:(Sl Gate)) (0:Int) (300:Int)).2.2.2) (((s24 s21 (⟨2,zaf (zet [(enc_48 (⟨(0:Int),(100:Int),(110:Int)⟩:Gate)),(enc_48 (⟨(200:Int),(40:Int),(50:Int)⟩:Gate))])⟩:(Sl Gate)) (0:Int) (300:Int)).2.1).Num) (((s24 s21 (⟨2,zaf (zet [(enc_48 (⟨(0:Int),(100:Int),(110:Int)⟩:Gate)),(enc_48 (⟨(200:Int),(40:Int),(50:Int)⟩:Gate))])⟩:(Sl Gate)) (0:Int) (300:Int)).2.1).Den) (((s24 s21 (⟨2,zaf (zet [(enc_48 (⟨(0:Int),(100:Int),(110:Int)⟩:Gate)),(enc_48 (⟨(200:Int),(40:Int),(50:Int)⟩:Gate))])⟩:(Sl Gate)) (0:Int) (300:Int)).2.2.1).Num) (((s24 s21 (⟨2,zaf (zet [(enc_48 (⟨(0:Int),(100:Int),(110:Int)⟩:Gate)),(enc_48 (⟨(200:Int),(40:Int),(50:Int)⟩:Gate))])⟩:(Sl Gate)) (0:Int) (300:Int)).2.2.1).Den)))
theorem zON (hs:zGr cv0 ev0 fv1 zcP zcQ zcR zcS sv2 gv2=true) (hk:K (e5 (zGq cv0 ev0 fv1 zcP zcQ zcR zcS sv2 gv2))) (zKp:zCb=zg zam sv2):z5 K [1,1,1,1] [] ⟨[(1,zS zbr 4 cv0),(2,zI ev0),(3,zp 3 0),(4,zp 4 0),(5,zI fv1),(6,zP (.sl sv2.len 1 zCb)),(7,zI gv2)],[(3,.box 40 (zm (zal (⟨zcP,zcQ⟩:Frac)))),(4,.box 40 (zm (zal (⟨zcR,zcS⟩:Frac))))],[]⟩:=by subst zKp;exact zaM (by kernel_rfl) (zaI hs λ hc hs=>And.intro (And.intro (zE enc_48 3 s21.get) (And.intro ((zhI []):IsE enc_48 3 3 (zet [(enc_48 (⟨(0:Int),(100:Int),(110:Int)⟩:Gate)),(enc_48 (⟨(200:Int),(40:Int),(50:Int)⟩:Gate))])) hc)) (zOM hs hk rfl))
def zGs (cv0:(Sl Line)) (ev0:Int) (fv1:Int) (zcP:Int) (zcQ:Int) (zcR:Int) (zcS:Int):Bool :=
  (zGq cv0 ev0 fv1 zcP zcQ zcR zcS ((s18 s23).1) ((s18 s23).2))
def zGt (cv0:(Sl Line)) (ev0:Int) (fv1:Int) (zcP:Int) (zcQ:Int) (zcR:Int) (zcS:Int):Bool :=
  (decide ((p18 s23=true)) &&
 (zGr cv0 ev0 fv1 zcP zcQ zcR zcS ((s18 s23).1) ((s18 s23).2)))
theorem zOO (hs:zGt cv0 ev0 fv1 zcP zcQ zcR zcS=true) (hk:K (e5 (zGs cv0 ev0 fv1 zcP zcQ zcR zcS))):z5 K [1,1,1] [] ⟨[(1,zS zbr 4 cv0),(2,zI ev0),(3,zp 3 0),(4,zp 4 0),(5,zI fv1)],[(3,.box 40 (zm (zal (⟨zcP,zcQ⟩:Frac)))),(4,.box 40 (zm (zal (⟨zcR,zcS⟩:Frac))))],[]⟩:=zaM (by kernel_rfl) (zaI hs λ hc hs=>And.intro (And.intro (zE enc_48 3 s23.get) hc) (zON hs hk rfl))
def zGu (cv0:(Sl Line)) (ev0:Int):Bool :=
  (zGs cv0 ev0 ((s22 s21 (300:Int)).2.2) (((s22 s21 (300:Int)).1).Num) (((s22 s21 (300:Int)).1).Den) (((s22 s21 (300:Int)).2.1).Num) (((s22 s21 (300:Int)).2.1).Den))
def zGv (cv0:(Sl Line)) (ev0:Int):Bool :=
  (decide ((p22 s21 (300:Int)=true)) &&
 (zGt cv0 ev0 ((s22 s21 (300:Int)).2.2) (((s22 s21 (300:Int)).1).Num) (((s22 s21 (300:Int)).1).Den) (((s22 s21 (300:Int)).2.1).Num) (((s22 s21 (300:Int)).2.1).Den)))
theorem zOP (hs:zGv cv0 ev0=true) (hk:K (e5 (zGu cv0 ev0))) (zRN:zOE=zg zbr cv0):z5 K [1,1] [] ⟨[(1,zP (.sl cv0.len 4 zOE)),(2,zI ev0)],[],[]⟩:=by subst zRN;exact zaM (by kernel_rfl) (zaI hs λ hc hs=>And.intro (And.intro (zE enc_48 3 s21.get) hc) (zOO hs hk))
def s5:Bool :=
  (zGu ((s20 s21).1) ((s20 s21).2))
def p5:Bool :=
  (decide ((p20 s21=true)) &&
 (zGv ((s20 s21).1) ((s20 s21).2)))
end
theorem q5 (K:List PA->Prop) (hs:p5=true) (hk:K (e5 (s5))):vcFun Tryz.prog G5 zRI 5 [] K :=
  zaM (by kernel_rfl) (zaI hs λ hc hs=>And.intro (And.intro (zE enc_48 3 s21.get) hc) (zOP hs hk rfl))
theorem zRO:p5=true:=by kernel_rfl
theorem zRP:s5=true:=by kernel_rfl
def zRQ : List PA → COut
  | []=>.tot [.one (.bool true)]
  | _=>.no
theorem call5:zah Tryz.prog 5:=⟨_,rfl,rfl,by kernel_rfl⟩
theorem ok5:Ok Tryz.prog 5 zRQ:=zaV zTP call5 λ args K h=>by
  unfold zRQ at h
  split at h
  · refine ⟨fun _ _ => [], fun _ => false, zRI, q5 K zRO ?_⟩
    show K [.one (.bool s5)]
    rw[zRP];exact h
  · exact h.elim
abbrev T31:Tabs:=Tabs.nil
theorem zRR:TabsOk Tryz.prog T31:=TabsOk.nil
abbrev G31:Ctrs:=csm T31 (λ _ _=>[]) (λ _=>false)
def zOQ:Ann:=⟨10,[(0,zK [0,1] []),(1,zK [4] [])],
 [],
 [],
 [],[]⟩
abbrev R31:=Bool
abbrev e31 (r:R31):List PA:=[.one (.bool r)]
section
variable {K:List PA->Prop}{a:(Sl Int)}{b:(Sl Int)}
def s31 (a:(Sl Int)) (b:(Sl Int)):Bool :=
  (decide ((a.len:Int) > (b.len:Int)))
end
theorem q31 (a:(Sl Int)) (b:(Sl Int)) (K:List PA->Prop) (hk:K (e31 (s31 a b))):vcFun Tryz.prog G31 zOQ 31 [.one (.sl a.len 1 (λ i=>zam (a.get i))),.one (.sl b.len 1 (λ i=>zam (b.get i)))] K :=
  zaM (by kernel_rfl) hk
def zKq : List PA → COut
  | [.one (.sl zaK zbW zaL),.one (.sl zd9 zi9 zea)]=>.det (IsE zam 1 zbW zaL/\IsE zam 1 zi9 zea) [.one (.bool (s31 (⟨zaK,zcf zaL⟩:(Sl Int)) (⟨zd9,zcf zea⟩:(Sl Int))))]
  | _=>.no
theorem zOR:zah Tryz.prog 31:=⟨_,rfl,rfl,by kernel_rfl⟩
theorem zTQ:Ok Tryz.prog 31 zKq:=zaV zRR zOR λ args K h=>by
  unfold zKq at h
  split at h
  · rename_i zaK zbW zaL zd9 zi9 zea
    obtain⟨⟨⟨rfl,zbn,rfl⟩,⟨rfl,zgy,rfl⟩⟩,hk⟩:=h
    try rw[zbA zbn] at hk
    try rw[zbA zgy] at hk
    exact⟨(λ _ _=>[]),(λ _=>false),zOQ,q31 (⟨zaK,zbn⟩:(Sl Int)) (⟨zd9,zgy⟩:(Sl Int)) K hk⟩
  · exact h.elim
abbrev T29:Tabs:=(Tabs.nil.addF 31 zKq)
theorem zRS:TabsOk Tryz.prog T29:=(TabsOk.nil.addF zTQ)
abbrev G29:Ctrs:=csm T29 (λ _ _=>[]) (λ _=>false)
def zKr:Ann:=⟨25,[(0,zK [0,1] []),(1,zK [0,1,5] []),(2,zK [1,5,12,13,14] []),(3,zK [1,5,12,13,14,15] []),(4,zK [1,5,7,12,13,14] []),(5,zK [1,5,7,12,13,14,21] []),(6,zK [1,5,12,13,14] []),(7,zK [1,5,12,13,14] []),(8,zK [4] [])],
 [(3,zK [1,5,12,13,14] [])],
 [(6,zK [1,5,7,12,13,14,21] [])],
 [],[]⟩
abbrev R29:=(Sl Int)
abbrev e29 (r:R29):List PA:=[.one (.sl r.len 1 (λ i=>zam (r.get i)))]
@[irreducible] def z29:=ptF Tryz.prog G29 zKr Tryz.f29
def zGw (l_a0:(Sl (Sl Int))) (outv0:(Sl Int)) (zaW:(Sl (Sl Int))) (zan:Int) (zg8:Nat->List PV) (zb3:Nat->List PV):St:=⟨[(1,zP (.fn 31 [] [])),(5,zP (.sl outv0.len 1 zg8)),(12,zP (.sl zaW.len 1 zb3)),(13,zI (((l_a0.len:Int) - (1:Int)).toNat:Int)),(14,zI zan)],[],[]⟩
abbrev zKs (K:List PA->Prop) (l_a0:(Sl (Sl Int))) (X:St->Prop) (P:(Sl Int)->(Sl (Sl Int))->Int->Bool) (S:(Sl Int)->(Sl (Sl Int))->Int->(Sl Int)):Prop:=∀ ⦃outv0:(Sl Int)⦄ ⦃zaW:(Sl (Sl Int))⦄ ⦃zan:Int⦄ ⦃zg8:Nat->List PV⦄ ⦃zb3:Nat->List PV⦄,P outv0 zaW zan=true->K (e29 (S outv0 zaW zan))->zg8=zg zam outv0->zb3=zg zar zaW->X (zGw l_a0 outv0 zaW zan zg8 zb3)
section
variable {K:List PA->Prop}{l_a0:(Sl (Sl Int))}{outv0:(Sl Int)}{zaW:(Sl (Sl Int))}{zan:Int}{zg8:Nat->List PV}{zb3:Nat->List PV}{X0:St->Prop}{P0:(Sl Int)->(Sl (Sl Int))->Int->Bool}{S0:(Sl Int)->(Sl (Sl Int))->Int->(Sl Int)}{zqP:(Sl Int)}{xv1:(Sl Int)}{zds:(Sl (Sl Int))}{zbe:Int}{ze1:Bool}{zCe:Nat->List PV}{zOS:Nat->List PV}{zgY:Nat->List PV}
def zs4 (S0:(Sl Int)->(Sl (Sl Int))->Int->(Sl Int)) (l_a0:(Sl (Sl Int))) (zqP:(Sl Int)) (xv1:(Sl Int)) (zds:(Sl (Sl Int))) (zbe:Int) (ze1:Bool):(Sl Int) :=
  (cond ze1
 (S0 xv1 zds (w64 (zbe+(1:Int))))
 (S0 zqP zds (w64 (zbe+(1:Int)))))
def zs5 (P0:(Sl Int)->(Sl (Sl Int))->Int->Bool) (l_a0:(Sl (Sl Int))) (zqP:(Sl Int)) (xv1:(Sl Int)) (zds:(Sl (Sl Int))) (zbe:Int) (ze1:Bool):Bool :=
  (cond ze1
 (P0 xv1 zds (w64 (zbe+(1:Int))))
 (P0 zqP zds (w64 (zbe+(1:Int)))))
theorem zKt (hX0:zKs K l_a0 X0 P0 S0) (hs:zs5 P0 l_a0 zqP xv1 zds zbe ze1=true) (hk:K (e29 (zs4 S0 l_a0 zqP xv1 zds zbe ze1))) (zKu:zCe=zg zam zqP) (zRT:zOS=zg zam xv1) (zmo:zgY=zg zar zds):z29 K [1,1,0,1,0,0,1,1,0,0,1,1] [X0] ⟨[(1,zP (.fn 31 [] [])),(5,zP (.sl zqP.len 1 zCe)),(7,zP (.sl xv1.len 1 zOS)),(12,zP (.sl zds.len 1 zgY)),(13,zI (((l_a0.len:Int) - (1:Int)).toNat:Int)),(14,zI zbe),(21,zB ze1)],[],[]⟩:=by subst zKu;subst zRT;subst zmo;exact zaM (by kernel_rfl) (zc hs hk (λ hs hk=>(hX0 hs hk rfl rfl)) (λ hs hk=>(hX0 hs hk rfl rfl)))
def zjP (l_a0:(Sl (Sl Int))) (S0:(Sl Int)->(Sl (Sl Int))->Int->(Sl Int)) (outv0:(Sl Int)) (zaW:(Sl (Sl Int))) (zan:Int):(Sl Int) :=
  (cond (decide (zan < (((l_a0.len : Int) - (1:Int)).toNat : Int)))
 (zs4 S0 l_a0 outv0 (zaW.get zan.toNat) zaW zan (s31 (zaW.get zan.toNat) outv0))
 outv0)
def zjQ (l_a0:(Sl (Sl Int))) (P0:(Sl Int)->(Sl (Sl Int))->Int->Bool) (outv0:(Sl Int)) (zaW:(Sl (Sl Int))) (zan:Int):Bool :=
  (cond (decide (zan < (((l_a0.len : Int) - (1:Int)).toNat : Int)))
 (decide ((0<=zan/\zan < (zaW.len:Int))) &&
 (zs5 P0 l_a0 outv0 (zaW.get zan.toNat) zaW zan (s31 (zaW.get zan.toNat) outv0)))
 true)
def zg9 (l_a0:(Sl (Sl Int))):Nat->(Sl Int)->(Sl (Sl Int))->Int->(Sl Int):=lpO (λ _ _ _=>default) (zjP l_a0)
def zha (l_a0:(Sl (Sl Int))):Nat->(Sl Int)->(Sl (Sl Int))->Int->Bool:=lpO (λ _ _ _=>false) (zjQ l_a0)
def zCf (l_a0:(Sl (Sl Int))) (outv0:(Sl Int)) (zaW:(Sl (Sl Int))) (zan:Int):(Sl Int):=zg9 l_a0 Fuel outv0 zaW zan
def zCg (l_a0:(Sl (Sl Int))) (outv0:(Sl Int)) (zaW:(Sl (Sl Int))) (zan:Int):Bool:=zha l_a0 Fuel outv0 zaW zan
theorem zKv (hs:zCg l_a0 outv0 zaW zan=true) (hk:K (e29 (zCf l_a0 outv0 zaW zan))) (zs6:zg8=zg zam outv0) (ze2:zb3=zg zar zaW):z29 K [1,1,0,1,0] [] (zGw l_a0 outv0 zaW zan zg8 zb3) :=
  zl (λ X=>z29 K [1,1,0,1,0,0] [X]) (by kernel_rfl) λ X0 hX =>
  (show ∀ k, zKs K l_a0 X0 (zha l_a0 k) (zg9 l_a0 k) from zfo _ _ (zjQ l_a0) (zjP l_a0) (zKs K l_a0 X0)
 (by intro _ _ _ _ _ hs;exact absurd hs dqk)
 (by intro P0 S0 hX0 outv0 zaW zan zg8 zb3 hs hk zs6 ze2;subst zs6;subst ze2;exact hX _ (zaM (by kernel_rfl) (zc hs hk (λ hs hk=>(zaI hs λ hc hs=>And.intro hc (And.intro (And.intro (zE zam 1 ((zaW.get zan.toNat).get)) (zE zam 1 outv0.get)) (zKt hX0 hs hk rfl rfl rfl)))) (λ hs hk=>hk))))) _ hs hk zs6 ze2
def s29 (l_a0:(Sl (Sl Int))):(Sl Int) :=
  (zCf l_a0 (l_a0.get 0) (⟨((l_a0.len:Int) - (1:Int)).toNat,(λ i=>l_a0.get (i+((1:Int).toNat)))⟩:Sl (Sl Int)) (0:Int))
def p29 (l_a0:(Sl (Sl Int))):Bool :=
  (decide ((0<=(0:Int)/\(0:Int) < (l_a0.len:Int))) &&
 (decide ((0<=(1:Int)/\(1:Int)<=(l_a0.len:Int)/\(l_a0.len:Int)<=(l_a0.len:Int))) &&
 (zCg l_a0 (l_a0.get 0) (⟨((l_a0.len:Int) - (1:Int)).toNat,(λ i=>l_a0.get (i+((1:Int).toNat)))⟩:Sl (Sl Int)) (0:Int))))
end
theorem q29 (l_a0:(Sl (Sl Int))) (K:List PA->Prop) (hs:p29 l_a0=true) (hk:K (e29 (s29 l_a0))):vcFun Tryz.prog G29 zKr 29 [.one (.sl l_a0.len 1 (λ i=>zar (l_a0.get i))),.one (.fn 31 [] [])] K :=
  zaM (by kernel_rfl) (zaI hs λ hc hs=>And.intro hc (zaI hs λ hc hs=>And.intro hc (zKv hs hk rfl rfl)))
def zKw : List PA → COut
  | [.one (.sl zaK zbW zaL),.one (.fn 31 [] [])]=>.det (IsE zar 1 zbW zaL/\p29 (⟨zaK,zew zaL⟩:(Sl (Sl Int)))=true) [.one (.sl ((s29 (⟨zaK,zew zaL⟩:(Sl (Sl Int)))).len) 1 (λ i=>zam ((s29 (⟨zaK,zew zaL⟩:(Sl (Sl Int)))).get i)))]
  | _=>.no
theorem zOT:zah Tryz.prog 29:=⟨_,rfl,rfl,by kernel_rfl⟩
theorem zTR:Ok Tryz.prog 29 zKw:=zaV zRS zOT λ args K h=>by
  unfold zKw at h
  split at h
  · rename_i zaK zbW zaL
    obtain⟨⟨⟨rfl,zbn,rfl⟩,hs⟩,hk⟩:=h
    try rw[zdh zbn] at hs
    try rw[zdh zbn] at hk
    exact⟨(λ _ _=>[]),(λ _=>false),zKr,q29 (⟨zaK,zbn⟩:(Sl (Sl Int))) K hs hk⟩
  · exact h.elim
end Go.Proofs
namespace Go.Pm
open Go.Shelf Go.RowKit Go.Lib Go.Sort Go.Proofs
variable [DrawZ]

theorem zjg {α : Type} [Inhabited α] {enc : α → Value} {w : World} {g q : Nat} {cur : Array Value} {e : TypeId} {fr : Nat × Nat} {off : Nat} (F : Array α) (hb : w.heap[g]? = some (.cells cur e fr)) :
  ∃ cur',(putRow enc (Sort.ahead w q) g off F).heap[g]? = some (.cells cur' e fr)/\cur'.size=cur.size:=by
 refine⟨putCells enc off F cur,?_,by simp[putCells]⟩
 simp[putRow,mapBlock,Sort.ahead,Array.getElem?_modify,hb,onCells]
theorem zfq {α:Type} [Inhabited α] {enc:α->Value}{w:World}{g q off:Nat}(F:Array α){k:Nat}(hk:k ≠ g):(putRow enc (Sort.ahead w q) g off F).heap[k]? = w.heap[k]?:=by
 simp[putRow,mapBlock,Sort.ahead,Array.getElem?_modify,Ne.symm hk]
theorem zdC {α:Type} [Inhabited α] {enc:α->Value}{w:World}{g q off:Nat}(F:Array α):(putRow enc (Sort.ahead w q) g off F).heap.size=w.heap.size:=by
 simp[putRow,mapBlock,Sort.ahead]

theorem zwL {P:Program}{ρ:Ren}(L:SlLaysF.n6 P ρ){e b:Nat}(hag:zft P e=some false) (hM : ¬ zny) (hc:zah P (ρ.f 6)):zhQ P (ρ.f 6) (.sort e 1 b):=by
 intro w h base v n get gf caps cv ag C hC hcv hag' _ hpos ⟨xs,hown,hr⟩ hone hw hgl hob hbase hn hS hO
 rw[hag] at hag';simp only[dqa] at hag';subst hag'
 refine⟨hc,?_⟩
 have hni:∀ k F,h k ≠ some (.inv F):=λ k F hk=>by obtain⟨o,_,ho⟩:=hw k _ hk;exact hM ho.2
 have none:∀ (p:Option Addr) (cap:Nat),n=0->v=.slice p 0 cap->Calls P (ρ.f 6) #[v,.func (.func gf) #[] cv.toArray] w λ r w'=>r=.returned (.tuple #[])/\zun h w' base e 1 v n (zgz n (zpL C caps false get) get)/\GrB w w' v.ownBlock:=by
  rintro p cap rfl rfl
  refine (AnyF.slices_SortFunc_none { L with } p cap _ w).mono ?_
  rintro r w' ⟨rfl,rfl⟩
  exact⟨rfl,⟨xs,hown,λ i hi=>absurd hi (dqW i)⟩,⟨rfl,rfl,rfl,dqt _,λ _ _ _=>rfl⟩,dqt _⟩
 rcases hown.2 with ⟨h1,h2⟩ | ⟨blk,cap,cur,rfl,hb,hcell,hncap,hcap,hcs,htk⟩
 ·exact none _ _ h2 h1
 by_cases hn0:n=0
 ·subst hn0;exact none _ _ rfl rfl
 have:Inhabited (Fin n):=⟨⟨0,by omega⟩⟩
 have hxs:xs.length=n:=by have:=hown.1;rwa[Nat.mul_one] at this
 let enc:Fin n->Value:=λ i=>xs[i.val]'(by rw[hxs];exact i.isLt)
 let c:=zpL C caps false get
 let cf:Fin n->Fin n->Int:=λ x y=>c x.val y.val
 let d:Array (Fin n):=Array.ofFn id
 have hds:d.size=n:=Array.size_ofFn
 have hdi:∀ i (hi:i < n),d[i]! = ⟨i,hi⟩:=λ i hi=>by
  rw[getElem!_pos d i (by rw[hds];exact hi)];simp[d]
 have hlt:blk < w.heap.size:=(dqp.1 hcell).1
 have hbn:h blk=Option.none:=hob blk rfl
 rw[Nat.mul_one] at htk hcs
 have hcur:∀ j,j < n->cur[j]? = xs[j]?:=λ j hj=>by
  have:(cur.toList.take n)[j]? = xs[j]?:=by rw[htk]
  rw[dqs,if_pos hj] at this;simpa using this
 have hrr:∀ x:Fin n,RL (Rep h) (get x.val) [enc x]:=λ x=>by
  have:=hr x.val x.isLt
  rw[Nat.mul_one,dqR (by rw[hxs];exact x.isLt)] at this
  exact this
 have h1:OneCell enc:=λ x=>by
  obtain⟨p,_,hp⟩:=(hrr x).get' 0 _ rfl
  exact hp.one
 have hH:Holds enc w blk 0 d:=λ j hj=>by
  have hj:j < n:=by rw[hds] at hj;exact hj
  refine⟨?_,frozen_of_row w blk _ cur e hcell⟩
  rw[hdi j hj,cell_of hcell,Nat.zero_add,hcur j hj]
  exact dqD _
 have elv:∀ x:Fin n,paR h (elP false (get x.val)) (enc x):=λ x=>by
  have:=hrr x
  generalize get x.val=l at this
  match l,this with
  | [y],h1=>exact h1.1
  | [],h1=>exact h1.elim
  | _ :: _ :: _,h1=>exact h1.2.elim
 have eg:∀ args w,(callFunc gf args).run P w=.ok (.enter gf args) w:=by
  have hcg:zah P gf:=by
   have hs0:=hS 0 0 (by omega) (by omega)
   unfold zwW at hs0
   split at hs0
   ·rename_i s0 c0 hat
    have hwp:(C (elP false (get 0) :: elP false (get 0) :: caps.map .one)).wp (λ _=>True):=by
     unfold zwb at hat
     split at hat
     ·rename_i e1;rw[e1];trivial
     ·rename_i e1;simp only[dqa,dqh] at hat;rw[e1];exact⟨by rw[hat.1];exact hs0,trivial⟩
     ·cases hat
    exact (hC _ _ hwp w h (enc ⟨0,by omega⟩ :: enc ⟨0,by omega⟩ :: cv) ⟨elv ⟨0,by omega⟩,elv ⟨0,by omega⟩,RL.map_left.2 hcv⟩ hw hgl).1
   ·exact hs0.elim
  exact λ args w=>zbG hcg
 have hcmp:CmpLays1 P gf cv.toArray enc cf blk 0 d.size w:=by
  intro m os dk hdk x y
  have hs0:=hS x.val y.val x.isLt y.isLt
  unfold zwW at hs0
  split at hs0
  ·rename_i s0 c0 hat
   have hwp:(C (elP false (get x.val) :: elP false (get y.val) :: caps.map .one)).wp (λ rs=>rs=[.one (.int .i64 (cf x y))]):=by
    have hcv:cf x y=c0:=by show zpL C caps false get x.val y.val=c0;unfold zpL;rw[hat]
    rw[hcv]
    unfold zwb at hat
    split at hat
    ·rename_i e1;simp only[dqa,dqh] at hat;rw[e1,hat.2];rfl
    ·rename_i e1;simp only[dqa,dqh] at hat;rw[e1,hat.2];exact⟨by rw[hat.1];exact hs0,rfl⟩
    ·cases hat
   have hwh:Hw h (sortWorld enc w blk 0 m dk os):=hw.same λ k o hk=>by
    have hkb:k ≠ blk:=λ e=>by rw[e,hbn] at hk;cases hk
    have hkl:=hw.lt hk
    show ((putRow enc (Sort.ahead w m) blk 0 dk).heap ++ os)[k]? = _
    rw[Array.getElem?_append_left (by rw[zdC];exact hkl)]
    exact zfq _ hkb
   obtain⟨_,hrun⟩:=hC _ _ hwp (sortWorld enc w blk 0 m dk os) h (enc x :: enc y :: cv) ⟨elv x,elv y,RL.map_left.2 hcv⟩ hwh hgl
   rw[show (#[enc x,enc y] ++ cv.toArray)=(enc x :: enc y :: cv).toArray by simp]
   refine hrun.mono ?_
   rintro e' w' ⟨h',rs,v',hrs,rfl,hres,hbel,_,_,_⟩
   subst hrs
   have hv':v'=.int .i64 (cf x y):=by
    have:Rep h' (.int .i64 (cf x y)) v':=hres
    cases this;rfl
   subst hv'
   exact⟨rfl,zvc hbel hni⟩
  ·exact hs0.elim
 have hSWO:SWO (ltOf cf):=by
  refine⟨λ x=>?_,λ x y z hxy hyz=>?_,λ x y z hxy hyz=>?_⟩
  ·have : 0 ≤ c x.val x.val := hO.1 x.val x.isLt
   simp only[ltOf,decide_eq_false_iff_not];show ¬ c x.val x.val < 0;omega
  ·simp only [ltOf, decide_eq_true_eq] at hxy hyz ⊢
   exact hO.2.2 _ _ _ x.isLt y.isLt z.isLt hxy hyz
  ·simp only [ltOf, decide_eq_false_iff_not] at hxy hyz ⊢
   intro hxz
   have hxy : ¬ c x.val y.val < 0:=hxy
   have hyz : ¬ c y.val z.val < 0:=hyz
   have hxz:c x.val z.val < 0:=hxz
   by_cases e1:y.val=z.val
   ·rw[e1] at hxy;exact hxy hxz
   ·by_cases e2 : x.val = y.val
    ·rw[e2] at hxz;exact hyz hxz
    ·have a1 : c z.val y.val < 0 := by rcases hO.2.1 y.val z.val y.isLt z.isLt e1 with h | h; exact absurd h.1 hyz; exact h.1
     exact hxy (hO.2.2 _ _ _ x.isLt z.isLt y.isLt hxz a1)
 have hrun:=Any.slices_SortFunc L enc h1 cf hSWO gf cv.toArray blk 0 cap d w eg hcmp hH hlt (by rw[hds];omega)
 rw[hds] at hrun
 refine hrun.mono ?_
 rintro r w' ⟨rfl,d',m,os,hperm,hsort,rfl⟩
 obtain⟨hps,_,hpp⟩:=hperm
 have hd's:d'.size=n:=by rw[hps,hds]
 have hall:∀ (z:Array (Fin n)),z.size=n->z.extract 0 n=z:=λ z hz=>Array.ext (by simp[hz]) (λ i h1 h2=>by simp)
 rw[hall d' hd's,hall d hds] at hpp
 have hl:d'.toList.map Fin.val=zfu n c:=by
  refine zn1 hO ?_ ?_
  ·refine (hpp.map Fin.val).trans ?_
   have:d.toList.map Fin.val=List.range n:=by
    apply List.ext_getElem?
    intro i
    simp only[d,dqH]
    by_cases hi:i < n
    ·simp[hi]
    ·rw[dqM (by simp;omega),dqM (by simp;omega)];rfl
   rw[this]
  ·rw [List.pairwise_map, List.pairwise_iff_getElem]
   intro i j hi hj hij
   have hi':i < n:=by simpa [hd's] using hi
   have hj':j < n:=by simpa [hd's] using hj
   have:=hsort i j (Nat.zero_le _) hij hj'
   rw[getElem!_pos d' j (by omega),getElem!_pos d' i (by omega)] at this
   simp only[ltOf,decide_eq_false_iff_not] at this
   exact this
 have hget:∀ i (hi:i < n),zgz n c get i=get (d'[i]'(by omega)).val:=λ i hi=>by
  unfold zgz
  rw[<- hl]
  congr 1
  rw[List.getD_eq_getElem?_getD,dqH]
  simp[hd's,hi]
 obtain⟨cur',hcell',hsz'⟩:=zjg (enc:=enc) (q:=m) (off:=0) d' hcell
 have hgrow:(sortWorld enc w blk 0 m d' os).heap[blk]? = some (.cells cur' e (0,0)):=by
  show ((putRow enc (Sort.ahead w m) blk 0 d').heap ++ os)[blk]? = _
  rw[Array.getElem?_append_left (by rw[zdC];exact hlt)]
  exact hcell'
 have hH':Holds enc (sortWorld enc w blk 0 m d' os) blk 0 d':=holds_sortWorld enc w blk 0 m d d' os hlt hH (by rw[hd's,hds])
 have hcur':∀ j (hj:j < n),cur'[j]? = some (enc (d'[j]'(by omega))):=λ j hj=>by
  have:=(hH' j (by rw[hd's];exact hj)).1
  rw[cell_of hgrow,Nat.zero_add,getElem!_pos d' j (by omega)] at this
  exact this
 refine⟨rfl,⟨cur'.toList.take (n * 1),⟨by rw[List.length_take,Array.length_toList,hsz',hcs,Nat.mul_one];exact Nat.min_eq_left hncap,.inr ⟨blk,cap,cur',rfl,hb,hgrow,hncap,hcap,by rw[hsz',hcs,Nat.mul_one],rfl⟩⟩,λ i hi=>?_⟩,?_⟩
 ·have e1:((cur'.toList.take (n * 1)).drop (i * 1)).take 1=[enc (d'[i]'(by omega))]:=by
   apply List.ext_getElem?
   intro j
   rw[dqs,Nat.mul_one,Nat.mul_one]
   cases j with
   | zero =>
    rw[if_pos (by omega),dqI,dqs,if_pos (by omega),Array.getElem?_toList,Nat.add_zero,hcur' i hi]
    rfl
   | succ j=>rw[if_neg (by omega)];rfl
  rw[e1,hget i hi]
  exact hrr (d'[i]'(by omega))
 ·refine ⟨⟨rfl, rfl, rfl, ?_, fun k hk hne => ?_⟩, zkt (Nat.le_add_right _ _)⟩
  ·show w.heap.size ≤ ((putRow enc (Sort.ahead w m) blk 0 d').heap ++ os).size
   rw[Array.size_append,zdC];omega
  ·show ((putRow enc (Sort.ahead w m) blk 0 d').heap ++ os)[k]? = _
   rw[Array.getElem?_append_left (by rw[zdC];exact hk)]
   exact zfq _ λ e=>hne (by rw[e];rfl)
end Go.Pm
namespace Go.Proofs
open Go Go.Pm
set_option maxRecDepth 100000
set_option linter.unusedVariables false
attribute [local irreducible] Go.Pm.vcFun Go.Pm.vc Go.Pm.vcIter
abbrev zOU:OwnK:=.sort 24 1 24
theorem zTS:zhQ Tryz.prog 58 zOU:=zwL Tryz.laysS58 rfl (λ h=>h) ⟨_,rfl,rfl,by kernel_rfl⟩
section
variable [DrawZ]
abbrev T59:Tabs:=(Tabs.nil.addF 76 zEY)
theorem zRU:TabsOk Tryz.prog T59:=(TabsOk.nil.addF zSJ)
abbrev G59:Ctrs:=csm T59 (λ _ _=>[]) (λ _=>false)
def zKx:Ann:=⟨36,[(0,zK [0,1] []),(1,zK [0,1,9,10,11] []),(2,zK [0,1,9,10,11,12] []),(3,zK [0,1,5,6,9,10,11] []),(4,zK [0,1,5,6,9,10,11,19] []),(5,zK [4] []),(6,zK [0,1,6,7,9,10,11] []),(7,zK [0,1,8,9,10,11] []),(8,zK [0,1,8,9,10,11,28] []),(9,zK [4] []),(10,zK [0,1,9,10,11] []),(11,zK [35] []),(12,zK [4] []),(13,zK [4] [])],
 [(2,zK [0,1,9,10,11] [])],
 [(6,zK [0,1,5,6,9,10,11] []),(8,zK [0,1,8,9,10,11] [])],
 [],[]⟩
abbrev R59:=Int
abbrev e59 (r:R59):List PA:=[.one (.int .i64 r)]
@[irreducible] def z59:=ptF Tryz.prog G59 zKx Tryz.f59
def zGx (znw:(Sl Int)) (zmP:(Sl Int)) (zmQ:(Sl Int)) (zct:Int) (zd2:Int) (zkF:Nat->List PV) (zkG:Nat->List PV) (zkH:Nat->List PV):St:=⟨[(0,zP (.sl znw.len 1 zkF)),(1,zP (.sl zmP.len 1 zkG)),(9,zP (.sl zmQ.len 1 zkH)),(10,zI zct),(11,zI zd2)],[],[]⟩
abbrev zFa (K:List PA->Prop) (X:St->Prop) (P:(Sl Int)->(Sl Int)->(Sl Int)->Int->Int->Bool) (S:(Sl Int)->(Sl Int)->(Sl Int)->Int->Int->Int):Prop:=∀ ⦃znw:(Sl Int)⦄ ⦃zmP:(Sl Int)⦄ ⦃zmQ:(Sl Int)⦄ ⦃zct:Int⦄ ⦃zd2:Int⦄ ⦃zkF:Nat->List PV⦄ ⦃zkG:Nat->List PV⦄ ⦃zkH:Nat->List PV⦄,P znw zmP zmQ zct zd2=true->K (e59 (S znw zmP zmQ zct zd2))->zkF=zg zam znw->zkG=zg zam zmP->zkH=zg zam zmQ->X (zGx znw zmP zmQ zct zd2 zkF zkG zkH)
section
variable {K:List PA->Prop}{s1_a0:(Sl Int)}{s2_a1:(Sl Int)}{znw:(Sl Int)}{zmP:(Sl Int)}{zmQ:(Sl Int)}{zct:Int}{zd2:Int}{zkF:Nat->List PV}{zkG:Nat->List PV}{zkH:Nat->List PV}{X0:St->Prop}{P0:(Sl Int)->(Sl Int)->(Sl Int)->Int->Int->Bool}{S0:(Sl Int)->(Sl Int)->(Sl Int)->Int->Int->Int}{zGy:(Sl Int)}{zCh:(Sl Int)}{iv1:Int}{zKz:Int}{zs7:(Sl Int)}{zjh:Int}{zs8:Int}{zGz:Nat->List PV}{zGA:Nat->List PV}{zGB:Nat->List PV}{zGC:(Sl Int)}{zGD:(Sl Int)}{cv2:Int}{zs9:Int}{zGE:Nat->List PV}{zGF:Nat->List PV}
def zta (S0:(Sl Int)->(Sl Int)->(Sl Int)->Int->Int->Int) (zs7:(Sl Int)) (zjh:Int) (zGC:(Sl Int)) (zGD:(Sl Int)) (cv2:Int) (zs9:Int):Int :=
  (cond (cv2 != (0:Int))
 cv2
 (S0 zGC zGD zs7 zjh (w64 (zs9+(1:Int)))))
def ztb (P0:(Sl Int)->(Sl Int)->(Sl Int)->Int->Int->Bool) (zs7:(Sl Int)) (zjh:Int) (zGC:(Sl Int)) (zGD:(Sl Int)) (cv2:Int) (zs9:Int):Bool :=
  (cond (cv2 != (0:Int))
 true
 (P0 zGC zGD zs7 zjh (w64 (zs9+(1:Int)))))
theorem zKA (hX0:zFa K X0 P0 S0) (hs:ztb P0 zs7 zjh zGC zGD cv2 zs9=true) (hk:K (e59 (zta S0 zs7 zjh zGC zGD cv2 zs9))) (zOV:zGE=zg zam zGC) (zOW:zGF=zg zam zGD):z59 K [1,0,1,0,0,1,1,0,0,1,1,1,1] [X0] ⟨[(0,zP (.sl zGC.len 1 zGE)),(1,zP (.sl zGD.len 1 zGF)),(8,zI cv2),(9,zS zam 1 zs7),(10,zI zjh),(11,zI zs9)],[],[]⟩:=by subst zOV;subst zOW;exact zaM (by kernel_rfl) (zc hs hk (λ hs hk=>hk) (λ hs hk=>(hX0 hs hk rfl rfl rfl)))
def ztc (S0:(Sl Int)->(Sl Int)->(Sl Int)->Int->Int->Int) (zGy:(Sl Int)) (zCh:(Sl Int)) (iv1:Int) (zKz:Int) (zs7:(Sl Int)) (zjh:Int) (zs8:Int):Int :=
  (zta S0 zs7 zjh zGy zCh (s76 zKz (zCh.get iv1.toNat)) zs8)
def ztd (P0:(Sl Int)->(Sl Int)->(Sl Int)->Int->Int->Bool) (zGy:(Sl Int)) (zCh:(Sl Int)) (iv1:Int) (zKz:Int) (zs7:(Sl Int)) (zjh:Int) (zs8:Int):Bool :=
  (decide ((0<=iv1/\iv1 < (zCh.len:Int))) &&
 (ztb P0 zs7 zjh zGy zCh (s76 zKz (zCh.get iv1.toNat)) zs8))
theorem zKB (hX0:zFa K X0 P0 S0) (hs:ztd P0 zGy zCh iv1 zKz zs7 zjh zs8=true) (hk:K (e59 (ztc S0 zGy zCh iv1 zKz zs7 zjh zs8))) (zOX:zGz=zg zam zGy) (zOY:zGA=zg zam zCh) (zOZ:zGB=zg zam zs7):z59 K [1,0,1,0,0,1,1,0,0,1,1] [X0] ⟨[(0,zP (.sl zGy.len 1 zGz)),(1,zP (.sl zCh.len 1 zGA)),(5,zI iv1),(6,zI zKz),(9,zP (.sl zs7.len 1 zGB)),(10,zI zjh),(11,zI zs8)],[],[]⟩:=by subst zOX;subst zOY;subst zOZ;exact zaM (by kernel_rfl) (zaI hs λ hc hs=>And.intro hc (zKA hX0 hs hk rfl rfl))
def zis (S0:(Sl Int)->(Sl Int)->(Sl Int)->Int->Int->Int) (znw:(Sl Int)) (zmP:(Sl Int)) (zmQ:(Sl Int)) (zct:Int) (zd2:Int):Int :=
  (cond (decide (zd2 < zct))
 (cond (decide (zd2 >= (zmP.len : Int)))
 (1:Int)
 (ztc S0 znw zmP zd2 (zmQ.get zd2.toNat) zmQ zct zd2))
 (cond (decide ((znw.len : Int) < (zmP.len : Int)))
 (-1:Int)
 (0:Int)))
def zit (P0:(Sl Int)->(Sl Int)->(Sl Int)->Int->Int->Bool) (znw:(Sl Int)) (zmP:(Sl Int)) (zmQ:(Sl Int)) (zct:Int) (zd2:Int):Bool :=
  (cond (decide (zd2 < zct))
 (decide ((0<=zd2/\zd2 < (zmQ.len:Int))) &&
 (cond (decide (zd2 >= (zmP.len : Int)))
 true
 (ztd P0 znw zmP zd2 (zmQ.get zd2.toNat) zmQ zct zd2)))
 true)
def zhb:Nat->(Sl Int)->(Sl Int)->(Sl Int)->Int->Int->Int:=lpO (λ _ _ _ _ _=>default) (zis)
def zhc:Nat->(Sl Int)->(Sl Int)->(Sl Int)->Int->Int->Bool:=lpO (λ _ _ _ _ _=>false) (zit)
def zCi (znw:(Sl Int)) (zmP:(Sl Int)) (zmQ:(Sl Int)) (zct:Int) (zd2:Int):Int:=zhb Fuel znw zmP zmQ zct zd2
def zCj (znw:(Sl Int)) (zmP:(Sl Int)) (zmQ:(Sl Int)) (zct:Int) (zd2:Int):Bool:=zhc Fuel znw zmP zmQ zct zd2
theorem zKC (hs:zCj znw zmP zmQ zct zd2=true) (hk:K (e59 (zCi znw zmP zmQ zct zd2))) (zCk:zkF=zg zam znw) (zCl:zkG=zg zam zmP) (zCm:zkH=zg zam zmQ):z59 K [1,0,1,0] [] (zGx znw zmP zmQ zct zd2 zkF zkG zkH) :=
  zl (λ X=>z59 K [1,0,1,0,0] [X]) (by kernel_rfl) λ X0 hX =>
  (show ∀ k, zFa K X0 (zhc k) (zhb k) from zfo _ _ (zit) (zis) (zFa K X0)
 (by intro _ _ _ _ _ _ _ _ hs;exact absurd hs dqk)
 (by intro P0 S0 hX0 znw zmP zmQ zct zd2 zkF zkG zkH hs hk zCk zCl zCm;subst zCk;subst zCl;subst zCm;exact hX _ (zaM (by kernel_rfl) (zc hs hk (λ hs hk=>(zaI hs λ hc hs=>And.intro hc (zc hs hk (λ hs hk=>hk) (λ hs hk=>(zKB hX0 hs hk rfl rfl rfl))))) (λ hs hk=>(zt hk (λ hk=>hk) (λ hk=>hk))))))) _ hs hk zCk zCl zCm
def s59 (s1_a0:(Sl Int)) (s2_a1:(Sl Int)):Int :=
  (zCi s1_a0 s2_a1 s1_a0 (s1_a0.len:Int) (0:Int))
def p59 (s1_a0:(Sl Int)) (s2_a1:(Sl Int)):Bool :=
  (zCj s1_a0 s2_a1 s1_a0 (s1_a0.len:Int) (0:Int))
end
theorem q59 (s1_a0:(Sl Int)) (s2_a1:(Sl Int)) (K:List PA->Prop) (hs:p59 s1_a0 s2_a1=true) (hk:K (e59 (s59 s1_a0 s2_a1))):vcFun Tryz.prog G59 zKx 59 [.one (.sl s1_a0.len 1 (λ i=>zam (s1_a0.get i))),.one (.sl s2_a1.len 1 (λ i=>zam (s2_a1.get i)))] K :=
  zaM (by kernel_rfl) (zKC hs hk rfl rfl rfl)
def zqQ : List PA → COut
  | [.one (.sl zaK zbW zaL),.one (.sl zd9 zi9 zea)]=>.det (IsE zam 1 zbW zaL/\IsE zam 1 zi9 zea/\p59 (⟨zaK,zcf zaL⟩:(Sl Int)) (⟨zd9,zcf zea⟩:(Sl Int))=true) [.one (.int .i64 (s59 (⟨zaK,zcf zaL⟩:(Sl Int)) (⟨zd9,zcf zea⟩:(Sl Int))))]
  | _=>.no
theorem zO0:zah Tryz.prog 59:=⟨_,rfl,rfl,by kernel_rfl⟩
theorem zTT:Ok Tryz.prog 59 zqQ:=zaV zRU zO0 λ args K h=>by
  unfold zqQ at h
  split at h
  · rename_i zaK zbW zaL zd9 zi9 zea
    obtain⟨⟨⟨rfl,zbn,rfl⟩,⟨rfl,zgy,rfl⟩,hs⟩,hk⟩:=h
    try rw[zbA zbn] at hs
    try rw[zbA zbn] at hk
    try rw[zbA zgy] at hs
    try rw[zbA zgy] at hk
    exact⟨(λ _ _=>[]),(λ _=>false),zKx,q59 (⟨zaK,zbn⟩:(Sl Int)) (⟨zd9,zgy⟩:(Sl Int)) K hs hk⟩
  · exact h.elim
end

section srt
variable {α:Type}{c0:α->α->Int}{p0:α->α->Bool}
def IsL (m:Nat) (g:Nat->α) (L:List α):Prop:=m=L.length/\∀ k (h:k < L.length),g k=L[k]
def SyL (c0:α->α->Int) (x y:α):Prop:=(c0 x y < 0/\0<=c0 y x)\/(c0 y x < 0/\0<=c0 x y)
structure SoL (c0 : α → α → Int) (p0 : α → α → Bool) (L : List α) : Prop where
  rfl':∀ x∈L,0<=c0 x x
  pw:L.Pairwise (SyL c0)
  tr:∀ x∈L,∀ y∈L,∀ z∈L,c0 x y < 0->c0 y z < 0->c0 x z < 0
  sf:∀ x∈L,∀ y∈L,p0 x y=true
theorem SyL.symm {x y:α}(h:SyL c0 x y):SyL c0 y x:=Or.symm h
theorem SoL.perm {L M:List α}(h:SoL c0 p0 L) (hp:L.Perm M):SoL c0 p0 M :=
  ⟨λ x hx=>h.rfl' x (hp.mem_iff.2 hx),(hp.pairwise_iff (λ h=>SyL.symm h)).1 h.pw,λ x hx y hy z hz=>h.tr x (hp.mem_iff.2 hx) y (hp.mem_iff.2 hy) z (hp.mem_iff.2 hz),λ x hx y hy=>h.sf x (hp.mem_iff.2 hx) y (hp.mem_iff.2 hy)⟩
theorem zO1 {m:Nat}{g:Nat->α}{L:List α}(hg:IsL m g L) (h:sortB m (λ i j=>p0 (g i) (g j)) (λ i j=>c0 (g i) (g j))=true):SoL c0 p0 L:=by
  obtain⟨h1,h2,h3,h4⟩:=zoY (s:=λ i j=>p0 (g i) (g j)=true) h (λ i j h=>h) rfl
  obtain⟨e,eg⟩:=hg
  have at_:∀ x∈L,∃ i,i < m/\g i=x:=λ x hx=>by
    obtain⟨i,hi,rfl⟩:=List.getElem_of_mem hx
    exact⟨i,by omega,eg i hi⟩
  refine⟨λ x hx=>?_,List.pairwise_iff_getElem.2 λ i j hi hj hij=>?_,λ x hx y hy z hz=>?_,λ x hx y hy=>?_⟩
  · obtain⟨i,hi,rfl⟩:=at_ x hx;exact h2 i hi
  · have := h3 i j (by omega) (by omega) (by omega)
    simp only[eg i hi,eg j hj] at this
    exact this
  · obtain ⟨i, hi, rfl⟩ := at_ x hx; obtain ⟨j, hj, rfl⟩ := at_ y hy; obtain ⟨k, hk, rfl⟩ := at_ z hz
    exact h4 i j k hi hj hk
  · obtain ⟨i, hi, rfl⟩ := at_ x hx; obtain ⟨j, hj, rfl⟩ := at_ y hy
    exact h1 i j hi hj
theorem zGG {m:Nat}{g:Nat->α}{L:List α}(hg:IsL m g L) (h:SoL c0 p0 L):STO m (λ i j=>c0 (g i) (g j)):=by
  obtain⟨e,eg⟩:=hg
  have mm:∀ i,i < m->g i∈L:=λ i hi=>by rw[eg i (by omega)];exact List.getElem_mem _
  refine⟨λ i hi=>h.rfl' _ (mm i hi),λ i j hi hj hne=>?_,λ i j k hi hj hk=>h.tr _ (mm i hi) _ (mm j hj) _ (mm k hk)⟩
  have pw:=List.pairwise_iff_getElem.1 h.pw
  simp only[eg i (by omega),eg j (by omega)]
  rcases Nat.lt_or_gt_of_ne hne with hl | hl
  · exact pw i j (by omega) (by omega) hl
  · exact SyL.symm (pw j i (by omega) (by omega) hl)
theorem zvx {m:Nat}{g:Nat->α}{L:List α}(hg:IsL m g L) (h:SoL c0 p0 L):sortB m (λ i j=>p0 (g i) (g j)) (λ i j=>c0 (g i) (g j))=true:=by
  have hs:=zGG hg h
  obtain⟨e,eg⟩:=hg
  have mm:∀ i,i < m->g i∈L:=λ i hi=>by rw[eg i (by omega)];exact List.getElem_mem _
  simp only[sortB,List.all_eq_true,List.mem_range,dqm,Bool.or_eq_true,decide_eq_true_eq,Bool.not_eq_true',Bool.and_eq_false_iff,decide_eq_false_iff_not]
  refine λ i hi=>⟨hs.1 i hi,λ j hj=>⟨⟨h.sf _ (mm i hi) _ (mm j hj),?_⟩,λ k hk=>?_⟩⟩
  · by_cases e : i = j
    · subst e;exact .inl (.inl (Nat.beq_refl _))
    · rcases hs.2.1 i j hi hj e with h | h
      · exact .inl (.inr h)
      · exact .inr h
  · by_cases h1 : c0 (g i) (g j) < 0
    · by_cases h2 : c0 (g j) (g k) < 0
      · exact .inr (hs.2.2 i j k hi hj hk h1 h2)
      · exact .inl (.inr h2)
    · exact .inl (.inl h1)
theorem zlh {m:Nat}{g:Nat->α}{L:List α}(hg:IsL m g L) (h:SoL c0 p0 L):((zfu m (λ i j=>c0 (g i) (g j))).map g).Perm L/\((zfu m (λ i j=>c0 (g i) (g j))).map g).Pairwise λ a b=>¬ c0 b a < 0:=by
  have hs:=zGG hg h
  constructor
  · have hp := (zeQ (c := fun i j => c0 (g i) (g j)) m).map g
    refine hp.trans (List.Perm.of_eq ?_)
    obtain⟨e,eg⟩:=hg
    refine List.ext_getElem (by simp[e]) λ k h1 h2=>?_
    rw[List.getElem_map,List.getElem_range]
    exact eg k h2
  · rw [List.pairwise_map]
    exact zvb hs
theorem zO2 {m:Nat}{g g':Nat->α}{L M:List α}(hg:IsL m g L) (hg':IsL m g' M) (hp:L.Perm M) (h:SoL c0 p0 L) (hm:0 < m):zgz m (λ i j=>c0 (g i) (g j)) g=zgz m (λ i j=>c0 (g' i) (g' j)) g':=by
  obtain⟨p1,w1⟩:=zlh hg h
  obtain⟨p2,w2⟩:=zlh hg' (h.perm hp)
  have e:(zfu m (λ i j=>c0 (g i) (g j))).map g=(zfu m (λ i j=>c0 (g' i) (g' j))).map g':=by
    refine List.Perm.eq_of_pairwise (le:=λ a b=>¬ c0 b a < 0) (λ a b ha hb h1 h2=>?_) w1 w2 ((p1.trans hp).trans p2.symm)
    have ha:=p1.mem_iff.1 ha
    have hb:=hp.mem_iff.2 (p2.mem_iff.1 hb)
    obtain⟨i,hi,rfl⟩:=List.getElem_of_mem ha
    obtain⟨j,hj,rfl⟩:=List.getElem_of_mem hb
    by_cases hij:i=j
    · subst hij;rfl
    · have pw := List.pairwise_iff_getElem.1 h.pw
      rcases Nat.lt_or_gt_of_ne hij with hl | hl
      · rcases pw i j hi hj hl with h | h
        · exact absurd h.1 h2
        · exact absurd h.1 h1
      · rcases pw j i hj hi hl with h | h
        · exact absurd h.1 h1
        · exact absurd h.1 h2
  have l1:(zfu m (λ i j=>c0 (g i) (g j))).length=m:=by rw[(zeQ m).length_eq,List.length_range]
  have l2:(zfu m (λ i j=>c0 (g' i) (g' j))).length=m:=by rw[(zeQ m).length_eq,List.length_range]
  have get:∀ (g:Nat->α) (l:List Nat),l.length=m->∀ i,g (l.getD i (l.getD 0 0))=(l.map g)[if i < m then i else 0]?.getD (g 0):=λ g l hl i=>by
    by_cases hi:i < m
    · rw[if_pos hi,dqH,List.getD_eq_getElem?_getD,dqD (by omega)];rfl
    · rw[if_neg hi,dqH,List.getD_eq_getElem?_getD,dqM (by omega),List.getD_eq_getElem?_getD,dqD (by omega)];rfl
  funext i
  show g _=g' _
  rw[get g _ l1,get g' _ l2,e]
  have:(if i < m then i else 0) < ((zfu m (λ i j=>c0 (g' i) (g' j))).map g').length:=by rw[List.length_map,l2];split <;> omega
  rw[dqD this]
  rfl
end srt
theorem zO3 (f:Nat->Sl Int) (i j:Nat) (h:p59 (f i) (f j)=true):zwW zqQ [] false (λ i=>zar (f i)) i j:=by
  have e:zwW zqQ [] false (λ i=>zar (f i)) i j=(IsE zam 1 1 (λ k=>zam ((f i).get k))/\IsE zam 1 1 (λ k=>zam ((f j).get k))/\p59 (f i) (f j)=true):=by kernel_rfl
  rw[e];exact⟨isE,isE,h⟩
theorem zO4 (f:Nat->Sl Int):zpL zqQ [] false (λ i=>zar (f i))=λ i j=>s59 (f i) (f j):=by kernel_rfl
def zcT (F:List Int->Option (List Int)):List (List Int):=((List.range 1099511627776).map λ (a:Nat)=>[(a:Int)]).filter λ y=>(F y).isSome
def zwM (k:Int) (y:List Int):Bool:=(y.getD 0 0 != k) && (zpI .i64 (y.getD 0 0) k == k)
def zkX (zaa : Sl Gate) (k : Int) : Nat → Int → Sl Int → Option (Sl Int)
  | 0,_,_=>none
  | f + 1, t, o => cond (decide (t < (zaa.len : Int))) (cond (decide (0 <= t)) (cond ((zpI .i64 (zwT .i64 k t) (1:Int)) == (1:Int)) (cond (decide ((o.len + 1) * 8 <= 140737488355328 /\ o.len + 1 <= 9223372036854775807)) (zkX zaa k f (w64 (t + (1:Int))) ⟨o.len + 1, zfe o.len o.get (λ _ => t)⟩) none)
 (zkX zaa k f (w64 (t+(1:Int))) o)) none) (some o)
def zhd (zaa:Sl Gate) (k:Int):Option (Sl Int):=zkX zaa k Fuel 0 ⟨0,λ _=>default⟩
def zqR (v:Sl (Sl Int)) (x:Sl Int):Sl (Sl Int):=⟨v.len+1,zfe v.len v.get (λ _=>x)⟩
theorem zwN {α:Type}{f:α->Bool}{l m:List α}(h:l.Perm m):l.any f=m.any f:=by
  rw[Bool.eq_iff_iff,List.any_eq_true,List.any_eq_true]
  exact⟨λ ⟨x,hx,h2⟩=>⟨x,h.mem_iff.1 hx,h2⟩,λ ⟨x,hx,h2⟩=>⟨x,h.mem_iff.2 hx,h2⟩⟩
abbrev T30:Tabs:=(((((((Tabs.nil.addF 44 zqz).addF 49 zqB).addF 56 zER).addF 57 zEM).addO 58 zOU).addC 59 zqQ).addI 77 zQj)
theorem zRV:TabsOk Tryz.prog T30:=(((((((TabsOk.nil.addF zL9).addF zMb).addF zSD).addF zSA).addO zTS).addC (@zTT ⟨1⟩)).addI zSE)
abbrev G30:Ctrs:=csm T30 (λ _ _=>[]) (λ l=>Nat.beq l 21)
def za2:Ann:=⟨116,[(0,zK [1] [1]),(1,zK [1,3] [1,3]),(2,zK [1,3,4] [1,3,4,21]),(3,zK [1,3,4,23] [1,3,4,21]),(4,zK [1,3,4,24,25,26] [1,3,4,21]),(5,zK [1,3,4,24,25,26,27] [1,3,4,21]),(6,zK [1,3,4,6,24,25,26] [1,3,4,6,21]),(7,zK [1,3,4,6,7,24,25,26] [1,3,4,6,21]),(8,zK [1,3,4,6,7,24,25,26,30,31,32] [1,3,4,6,21]),(9,zK [1,3,4,6,7,24,25,26,30,31,32,33] [1,3,4,6,21]),(10,zK [1,3,4,6,7,8,9,24,25,26,30,31,32] [1,3,4,6,9,21]),(11,zK [1,3,4,6,7,8,24,25,26,30,31,32,43] [1,3,4,6,21]),(12,zK [1,3,4,6,7,24,25,26,30,31,32] [1,3,4,6,21]),(13,zK [1,3,4,6,7,24,25,26,30,31,32] [1,3,4,6,21]),(14,zK [1,3,4,24,25,26] [1,3,4,21]),(15,zK [1,3,4,24,25,26] [1,3,4,21]),(16,zK [1,4,53] [1,4,21]),(17,zK [1,4,10,53] [1,4,10,21]),(18,zK [1,4,10,11,53] [1,4,10,21]),(19,zK [1,4,10,11,53,55,56,57] [1,4,10,21]),(20,zK [1,4,10,11,53,55,56,57,58] [1,4,10,21]),(21,zK [1,4,10,11,12,13,53,55,56,57] [1,4,10,13,21]),(22,zK [1,4,10,11,12,53,55,56,57,64] [1,4,10,21]),(23,zK [1,4,10,11,53,55,56,57] [1,4,10,21]),(24,zK [1,4,10,11,53,55,56,57] [1,4,10,21]),(25,zK [1,4,53] [1,4,21]),(26,⟨[1,4,14],[1],[],[],[],[],[(4,0,λ _=>[])]⟩),(27,zK [1,4,14,73] [1,73]),(28,zK [1,4,14,73,75] [1,73,5000]),(29,zK [1,4,14,15,73] [1,73,5000]),(30,zK [1,4,14,15,73,79] [1,73,79,5000]),(31,zK [1,4,14,15,73,79,81] [1,73,79,5000]),(32,zK [1,4,14,15,16,73,79] [1,73,79,5000]),(33,zK [1,4,14,15,73,79,93] [1,73,79,5000]),(34,zK [1,4,14,15,17,73] [1,73,5000]),(35,zK [1,4,14,15,17,73,95,96] [1,73,5000]),(36,zK [1,4,14,15,17,73,95,96,97] [1,73,107,5000]),(37,zK [1,4,14,15,17,18,73,95,96] [1,73,107,5000]),(38,zK [1,4,14,15,17,18,73,95,96,103] [1,73,107,5000]),(39,zK [1,4,14,15,17,73,95,96] [1,73,107,5000]),(40,zK [1,4,14,15,17,73,95,96] [1,73,107,5000]),(41,zK [1,4,14,73] [1,73,5000]),(42,zK [14] [5000]),(43,zK [2] [5000])],
 [(5,zK [1,3,4,24,25,26] [1,3,4,21]),(9,zK [1,3,4,6,7,24,25,26,30,31,32] [1,3,4,6,21]),(17,zK [1,4,53] [1,4,21]),(20,zK [1,4,10,11,53,55,56,57] [1,4,10,21]),(28,⟨[1,4,14,73],[1,73,5000],[(14,5000,24,λ _=>zar default)],[],[],[],[]⟩),(31,zK [1,4,14,15,73,79] [1,73,79,5000]),(36,⟨[1,4,14,15,17,73,95,96],[1,73,107,5000],[(17,107,3,λ _=>zam default)],[],[],[],[]⟩)],
 [(16,zK [1,3,4] [1,3,4,21]),(26,zK [1,4] [1,4,21]),(34,zK [1,4,14,15,73] [1,73,5000])],
 [],[]⟩
def zkI (zaa:(Sl Gate)) (zbC:Int) (zaR:Nat) (zaS:(List Int->Option (List Int))):St:=⟨[(1,.one (.c (.ptr 1 0))),(3,.one (.c (.ptr 3 0))),(4,.one (.c (.ptr 4 0))),(24,.one (.c (.p (.sl zaa.len 3 (λ i=>enc_48 (zaa.get i)))))),(25,.one (.c (.p (.int .i64 (zaa.len:Int))))),(26,.one (.c (.p (.int .i64 zbC))))],[(1,.box 22 [.p (.sl zaa.len 3 (λ i=>enc_48 (zaa.get i)))]),(3,.box 72 [.p (.sl zaa.len 3 (λ i=>enc_48 (zaa.get i)))]),(4,.box 94 [.mo 21]),(21,.mo 3 4 (false,1,false,[none]) zaR zaS)],[]⟩
def zmR (K:List PA->Prop) (zaa:(Sl Gate)) (zbC:Int) (zaR:Nat) (zaS:(List Int->Option (List Int))):Prop:=vc Tryz.prog G30 za2 (cdF Tryz.f30 [1,0,1,1,0,1,0,1,0]) (zaH 0 (sqK Tryz.prog G30 za2 (cdF Tryz.f30 [1,0,1,1,1]) (zbl (zcM Tryz.f30 24 1 24 K)))) (zkI zaa zbC zaR zaS)
def zO5 (zaa:(Sl Gate)) (zdn:Nat) (zdo:(List Int->Option (List Int))):St:=⟨[(1,.one (.c (.ptr 1 0))),(3,.one (.c (.ptr 3 0))),(4,.one (.c (.ptr 4 0)))],[(1,.box 22 [.p (.sl zaa.len 3 (λ i=>enc_48 (zaa.get i)))]),(3,.box 72 [.p (.sl zaa.len 3 (λ i=>enc_48 (zaa.get i)))]),(4,.box 94 [.mo 21]),(21,.mo 3 4 (false,1,false,[none]) zdn zdo)],[]⟩
def zmS (K:List PA->Prop) (zaa:(Sl Gate)) (zdn:Nat) (zdo:(List Int->Option (List Int))):Prop:=vc Tryz.prog G30 za2 (cdF Tryz.f30 [1,0,1,1,1]) (zbl (zcM Tryz.f30 24 1 24 K)) (zO5 zaa zdn zdo)
def zkJ (zaa:(Sl Gate)) (zbb:Int) (zbR:Int) (zbD:Int) (zcx:Int) (zcq:Int) (zcy:Int) (zaT:Nat) (zaN:(List Int->Option (List Int))):St:=⟨[(1,.one (.c (.ptr 1 0))),(3,.one (.c (.ptr 3 0))),(4,.one (.c (.ptr 4 0))),(6,.one (.c (.ptr 6 0))),(7,.one (.c (.p (.int .i64 zbb)))),(24,.one (.c (.p (.sl zaa.len 3 (λ i=>enc_48 (zaa.get i)))))),(25,.one (.c (.p (.int .i64 (zaa.len:Int))))),(26,.one (.c (.p (.int .i64 zbR)))),(30,.one (.c (.p (.sl zaa.len 3 (λ i=>enc_48 (zaa.get i)))))),(31,.one (.c (.p (.int .i64 (zaa.len:Int))))),(32,.one (.c (.p (.int .i64 zbD))))],[(1,.box 22 [.p (.sl zaa.len 3 (λ i=>enc_48 (zaa.get i)))]),(3,.box 72 [.p (.sl zaa.len 3 (λ i=>enc_48 (zaa.get i)))]),(4,.box 94 [.mo 21]),(6,.box 48 [.p (.int .i64 zcx),.p (.int .i64 zcq),.p (.int .i64 zcy)]),(21,.mo 3 4 (false,1,false,[none]) zaT zaN)],[]⟩
def zmT (K:List PA->Prop) (X0:St->Prop) (zaa:(Sl Gate)) (zbb:Int) (zbR:Int) (zbD:Int) (zcx:Int) (zcq:Int) (zcy:Int) (zaT:Nat) (zaN:(List Int->Option (List Int))):Prop:=vc Tryz.prog G30 za2 (cdF Tryz.f30 [1,0,1,1,0,1,0,1,0,0,1,1,0,0,1,1,0,1,0]) (zaH 2 (sqK Tryz.prog G30 za2 (cdF Tryz.f30 [1,0,1,1,0,1,0,1,0,0,1,1,0,0,1,1,1]) (zaH 1 (sqK Tryz.prog G30 za2 (cdF Tryz.f30 [1,0,1,1,0,1,0,1,0,0,1,1,1]) (zcB Tryz.prog za2 5 X0 (zaH 0 (sqK Tryz.prog G30 za2 (cdF Tryz.f30 [1,0,1,1,1]) (zbl (zcM Tryz.f30 24 1 24 K))))))))) (zkJ zaa zbb zbR zbD zcx zcq zcy zaT zaN)
def zhY (zaa:(Sl Gate)) (zaF:Nat) (zaG:(List Int->Option (List Int))):St:=⟨[(1,.one (.c (.ptr 1 0))),(4,.one (.c (.ptr 4 0))),(53,.one (.c (.p (.fn 77 [] [.fp (zdM (⟨zaa⟩:list)) 0]))))],[(1,.box 22 [.p (.sl zaa.len 3 (λ i=>enc_48 (zaa.get i)))]),(4,.box 94 [.mo 21]),(21,.mo 3 4 (false,1,false,[none]) zaF zaG)],[]⟩
def zmU (K:List PA->Prop) (zaa:(Sl Gate)) (zaF:Nat) (zaG:(List Int->Option (List Int))):Prop:=vc Tryz.prog G30 za2 (cdF Tryz.f30 [1,0,1,1,1,0,1,0]) (zaH 4 (sqK Tryz.prog G30 za2 (cdF Tryz.f30 [1,0,1,1,1,1]) (zbl (zcM Tryz.f30 24 1 24 K)))) (zhY zaa zaF zaG)
def zO6 (zaa:(Sl Gate)) (zad:Nat) (zac:(List Int->Option (List Int))):St:=⟨[(1,.one (.c (.ptr 1 0))),(4,.one (.c (.ptr 4 0)))],[(1,.box 22 [.p (.sl zaa.len 3 (λ i=>enc_48 (zaa.get i)))]),(4,.box 94 [.mo 21]),(21,.mo 3 4 (false,1,false,[none]) zad zac)],[]⟩
def zps (K:List PA->Prop) (zaa:(Sl Gate)) (zad:Nat) (zac:(List Int->Option (List Int))):Prop:=vc Tryz.prog G30 za2 (cdF Tryz.f30 [1,0,1,1,1,1]) (zbl (zcM Tryz.f30 24 1 24 K)) (zO6 zaa zad zac)
def zkK (zaa:(Sl Gate)) (y3:straight) (zbc:Int) (zbI:Int) (zaU:Nat) (zaO:(List Int->Option (List Int))):St:=⟨[(1,.one (.c (.ptr 1 0))),(4,.one (.c (.ptr 4 0))),(10,.one (.c (.ptr 10 0))),(11,.one (.c (.p (.int .i64 zbc)))),(53,.one (.c (.p (.fn 77 [] [.fp (zdM (⟨zaa⟩:list)) 0])))),(55,.one (.c (.p (.sl zaa.len 3 (λ i=>enc_48 (zaa.get i)))))),(56,.one (.c (.p (.int .i64 (zaa.len:Int))))),(57,.one (.c (.p (.int .i64 zbI))))],[(1,.box 22 [.p (.sl zaa.len 3 (λ i=>enc_48 (zaa.get i)))]),(4,.box 94 [.mo 21]),(10,.box 81 [.p (.int .i64 y3.slope),.p (.int .i64 y3.start),.p (.int .i64 y3.den)]),(21,.mo 3 4 (false,1,false,[none]) zaU zaO)],[]⟩
def zmV (K:List PA->Prop) (X3:List (List PA)->St->Prop) (rest3:List (List PA)) (zaa:(Sl Gate)) (y3:straight) (zbc:Int) (zbI:Int) (zaU:Nat) (zaO:(List Int->Option (List Int))):Prop:=vc Tryz.prog G30 za2 (cdF Tryz.f30 [1,0,1,1,1,0,1,0,1,0,1,0,1,0]) (zaH 6 (sqK Tryz.prog G30 za2 (cdF Tryz.f30 [1,0,1,1,1,0,1,0,1,0,1,1]) (zaH 5 (zQA Tryz.prog za2 17 (X3 rest3) (zaH 4 (sqK Tryz.prog G30 za2 (cdF Tryz.f30 [1,0,1,1,1,1]) (zbl (zcM Tryz.f30 24 1 24 K)))))))) (zkK zaa y3 zbc zbI zaU zaO)
def zhe (zaa:(Sl Gate)) (zad:Nat) (zac:(List Int->Option (List Int))) (zak:(List (List Int))) (zeo:Nat) (za1:Nat->List PV):St:=⟨[(1,.one (.c (.ptr 1 0))),(4,.one (.c (.p (.fp [.fm (false,1,false,[none]) zad zac] 0)))),(14,.one (.c (.vec 5000))),(73,.one (.c (.ptr 73 0)))],[(1,.box 22 [.p (.sl zaa.len 3 (λ i=>enc_48 (zaa.get i)))]),(73,.mit (false,1,false,[none]) zad zac zak),(5000,.vec 24 1 24 zeo za1)],[]⟩
def zmW (K:List PA->Prop) (zaa:(Sl Gate)) (zad:Nat) (zac:(List Int->Option (List Int))) (zak:(List (List Int))) (zeo:Nat) (za1:Nat->List PV):Prop:=vc Tryz.prog G30 za2 (cdF Tryz.f30 [1,0,1,1,1,1,1,1,0,1,0]) (zaH 8 (sqK Tryz.prog G30 za2 (cdF Tryz.f30 [1,0,1,1,1,1,1,1,1]) (zbl (zcM Tryz.f30 24 1 24 K)))) (zhe zaa zad zac zak zeo za1)
def zkL (zaa:(Sl Gate)) (zad:Nat) (zac:(List Int->Option (List Int))) (zak:(List (List Int))) (k73_0:Int) (zbp:(List (List Int))) (zep:Nat) (zbE:Nat->List PV):St:=⟨[(1,.one (.c (.ptr 1 0))),(4,.one (.c (.p (.fp [.fm (false,1,false,[none]) zad zac] 0)))),(14,.one (.c (.vec 5000))),(15,.one (.c (.p (.int .i64 k73_0)))),(73,.one (.c (.ptr 73 0))),(79,.one (.c (.ptr 79 0)))],[(1,.box 22 [.p (.sl zaa.len 3 (λ i=>enc_48 (zaa.get i)))]),(73,.mit (false,1,false,[none]) zad zac ([k73_0] :: zak)),(79,.mit (false,1,false,[none]) zad zac zbp),(5000,.vec 24 1 24 zep zbE)],[]⟩
def zmX (K:List PA->Prop) (X6:St->Prop) (zaa:(Sl Gate)) (zad:Nat) (zac:(List Int->Option (List Int))) (zak:(List (List Int))) (k73_0:Int) (zbp:(List (List Int))) (zep:Nat) (zbE:Nat->List PV):Prop:=vc Tryz.prog G30 za2 (cdF Tryz.f30 [1,0,1,1,1,1,1,1,0,1,0,0,1,1,0,1,0,1,0]) (zaH 10 (sqK Tryz.prog G30 za2 (cdF Tryz.f30 [1,0,1,1,1,1,1,1,0,1,0,0,1,1,0,1,1]) (zaH 9 (zcB Tryz.prog za2 28 X6 (zaH 8 (sqK Tryz.prog G30 za2 (cdF Tryz.f30 [1,0,1,1,1,1,1,1,1]) (zbl (zcM Tryz.f30 24 1 24 K)))))))) (zkL zaa zad zac zak k73_0 zbp zep zbE)
def zO7 (zaa:(Sl Gate)) (zad:Nat) (zac:(List Int->Option (List Int))) (zak:(List (List Int))) (k73_0:Int) (zmY:Nat) (zfQ:Nat->List PV):St:=⟨[(1,.one (.c (.ptr 1 0))),(4,.one (.c (.p (.fp [.fm (false,1,false,[none]) zad zac] 0)))),(14,.one (.c (.vec 5000))),(15,.one (.c (.p (.int .i64 k73_0)))),(73,.one (.c (.ptr 73 0)))],[(1,.box 22 [.p (.sl zaa.len 3 (λ i=>enc_48 (zaa.get i)))]),(73,.mit (false,1,false,[none]) zad zac ([k73_0] :: zak)),(5000,.vec 24 1 24 zmY zfQ)],[]⟩
def zpt (K:List PA->Prop) (X6:St->Prop) (zaa:(Sl Gate)) (zad:Nat) (zac:(List Int->Option (List Int))) (zak:(List (List Int))) (k73_0:Int) (zmY:Nat) (zfQ:Nat->List PV):Prop:=vc Tryz.prog G30 za2 (cdF Tryz.f30 [1,0,1,1,1,1,1,1,0,1,0,0,1,1,0,1,1]) (zaH 9 (zcB Tryz.prog za2 28 X6 (zaH 8 (sqK Tryz.prog G30 za2 (cdF Tryz.f30 [1,0,1,1,1,1,1,1,1]) (zbl (zcM Tryz.f30 24 1 24 K)))))) (zO7 zaa zad zac zak k73_0 zmY zfQ)
def zkM (zaa:(Sl Gate)) (zad:Nat) (zac:(List Int->Option (List Int))) (zak:(List (List Int))) (zav:(Sl (Sl Int))) (k73_0:Int) (zbN:Int) (zfr:Nat) (zcw:Nat->List PV):St:=⟨[(1,.one (.c (.ptr 1 0))),(4,.one (.c (.p (.fp [.fm (false,1,false,[none]) zad zac] 0)))),(14,.one (.c (.vec 5000))),(15,.one (.c (.p (.int .i64 k73_0)))),(17,.one (.c (.vec 107))),(73,.one (.c (.ptr 73 0))),(95,.one (.c (.p (.int .i64 (zaa.len:Int))))),(96,.one (.c (.p (.int .i64 zbN))))],[(1,.box 22 [.p (.sl zaa.len 3 (λ i=>enc_48 (zaa.get i)))]),(73,.mit (false,1,false,[none]) zad zac ([k73_0] :: zak)),(107,.vec 3 1 8 zfr zcw),(5000,.vec 24 1 24 zav.len (λ i=>zar (zav.get i)))],[]⟩
def zmZ (K:List PA->Prop) (X6:St->Prop) (zaa:(Sl Gate)) (zad:Nat) (zac:(List Int->Option (List Int))) (zak:(List (List Int))) (zav:(Sl (Sl Int))) (k73_0:Int) (zbN:Int) (zfr:Nat) (zcw:Nat->List PV):Prop:=vc Tryz.prog G30 za2 (cdF Tryz.f30 [1,0,1,1,1,1,1,1,0,1,0,0,1,1,0,1,1,1,0,1,0]) (zaH 12 (sqK Tryz.prog G30 za2 (cdF Tryz.f30 [1,0,1,1,1,1,1,1,0,1,0,0,1,1,0,1,1,1,1]) (zaH 9 (zcB Tryz.prog za2 28 X6 (zaH 8 (sqK Tryz.prog G30 za2 (cdF Tryz.f30 [1,0,1,1,1,1,1,1,1]) (zbl (zcM Tryz.f30 24 1 24 K)))))))) (zkM zaa zad zac zak zav k73_0 zbN zfr zcw)
theorem zKD (zaa : (Sl Gate)) (K : List PA → Prop) :
  zw3 Tryz.prog G30 za2 30 [.one (.sl zaa.len 3 (λ i=>enc_48 (zaa.get i)))] 24 1 24 K =
  ((IsE enc_48 3 3 (λ i=>enc_48 (zaa.get i))/\(p49 (⟨zaa⟩:list)=true)) /\
 (zc7 (s49 (⟨zaa⟩ : list))
 (zmR K zaa (0:Int) 0 (λ _=>none))
 (zmS K zaa 0 (λ _=>none)))):=by kernel_rfl
def zqS (K:List PA->Prop) (X0:St->Prop) (zaa:(Sl Gate)) (zbC:Int) (zaR:Nat) (zaS:(List Int->Option (List Int))):Prop :=
  (zc7 (decide (zbC < (zaa.len : Int)))
 (((0<=zbC/\zbC < (zaa.len:Int))) /\
 (zmT K X0 zaa (0:Int) zbC (0:Int) ((zaa.get zbC.toNat).Z) ((zaa.get zbC.toNat).Low) ((zaa.get zbC.toNat).High) zaR zaS))
 (zmS K zaa zaR zaS))
theorem zte (K : List PA → Prop) (X0 : St → Prop) (zaa : (Sl Gate)) (zbC : Int) (zaR : Nat) (zaS : (List Int → Option (List Int))) :
  vc Tryz.prog G30 za2 (cd (cdF Tryz.f30 [1,0,1,1,0,1,0,1,0]) [0]) (zcB Tryz.prog za2 5 X0 (zaH 0 (sqK Tryz.prog G30 za2 (cdF Tryz.f30 [1,0,1,1,1]) (zbl (zcM Tryz.f30 24 1 24 K))))) (zkI zaa zbC zaR zaS) =
  zqS K X0 zaa zbC zaR zaS:=by kernel_rfl
theorem zCn (K : List PA → Prop) (zaa : (Sl Gate)) (zbC : Int) (zaR : Nat) (zaS : (List Int → Option (List Int)))
  (h:∀ X0:St->Prop,(∀ (zbC:Int) (zaR:Nat) (zaS:(List Int->Option (List Int))),zqS K X0 zaa zbC zaR zaS->X0 (zkI zaa zbC zaR zaS))->X0 (zkI zaa zbC zaR zaS)) :
  zmR K zaa zbC zaR zaS:=by
  have e:zmR K zaa zbC zaR zaS=(∀ X:St->Prop,(∀ s,vc Tryz.prog G30 za2 (cd (cdF Tryz.f30 [1,0,1,1,0,1,0,1,0]) [0]) (zcB Tryz.prog za2 5 X (zaH 0 (sqK Tryz.prog G30 za2 (cdF Tryz.f30 [1,0,1,1,1]) (zbl (zcM Tryz.f30 24 1 24 K))))) s->X s)->X (zkI zaa zbC zaR zaS)):=by kernel_rfl
  refine zaM e ?_
  intro X hX
  refine h X ?_
  intro zbC zaR zaS hs
  refine hX _ ?_
  have e2:=zte K X zaa zbC zaR zaS
  rw[e2]
  exact hs
theorem zKE (K : List PA → Prop) (zaa : (Sl Gate)) (zdn : Nat) (zdo : (List Int → Option (List Int))) :
  zmS K zaa zdn zdo =
  ((IsE enc_48 3 3 (λ i=>enc_48 (zaa.get i))) /\
 (zmU K zaa zdn zdo)):=by kernel_rfl
def zqT (K:List PA->Prop) (X0:St->Prop) (X2:St->Prop) (zaa:(Sl Gate)) (zbb:Int) (zbR:Int) (zbD:Int) (zcx:Int) (zcq:Int) (zcy:Int) (zaT:Nat) (zaN:(List Int->Option (List Int))):Prop :=
  (zc7 (decide (zbD < (zaa.len : Int)))
 (((0<=zbD/\zbD < (zaa.len:Int))) /\
 (zc7 (s44 zcq ((zaa.get zbD.toNat).Low) ((zaa.get zbD.toNat).High))
 (((0<=zbD)) /\
 (X2 (zkJ zaa (orW .i64 zbb (zv6 .i64 (1:Int) zbD)) zbR (w64 (zbD+(1:Int))) zcx zcq zcy zaT zaN)))
 (X2 (zkJ zaa zbb zbR (w64 (zbD+(1:Int))) zcx zcq zcy zaT zaN))))
 (X0 (zkI zaa (w64 (zbR+(1:Int))) (addN (zaN [zbb]) zaT) (zhO [zbb] [1] zaN))))
theorem ztf (K : List PA → Prop) (X0 : St → Prop) (X2 : St → Prop) (zaa : (Sl Gate)) (zbb : Int) (zbR : Int) (zbD : Int) (zcx : Int) (zcq : Int) (zcy : Int) (zaT : Nat) (zaN : (List Int → Option (List Int))) :
  vc Tryz.prog G30 za2 (cd (cdF Tryz.f30 [1,0,1,1,0,1,0,1,0,0,1,1,0,0,1,1,0,1,0]) [0]) (zcB Tryz.prog za2 9 X2 (zaH 2 (sqK Tryz.prog G30 za2 (cdF Tryz.f30 [1,0,1,1,0,1,0,1,0,0,1,1,0,0,1,1,1]) (zaH 1 (sqK Tryz.prog G30 za2 (cdF Tryz.f30 [1,0,1,1,0,1,0,1,0,0,1,1,1]) (zcB Tryz.prog za2 5 X0 (zaH 0 (sqK Tryz.prog G30 za2 (cdF Tryz.f30 [1,0,1,1,1]) (zbl (zcM Tryz.f30 24 1 24 K)))))))))) (zkJ zaa zbb zbR zbD zcx zcq zcy zaT zaN) =
  zqT K X0 X2 zaa zbb zbR zbD zcx zcq zcy zaT zaN:=by kernel_rfl
theorem zCo (K : List PA → Prop) (X0 : St → Prop) (zaa : (Sl Gate)) (zbb : Int) (zbR : Int) (zbD : Int) (zcx : Int) (zcq : Int) (zcy : Int) (zaT : Nat) (zaN : (List Int → Option (List Int)))
  (h:∀ X2:St->Prop,(∀ (zbb:Int) (zbR:Int) (zbD:Int) (zcx:Int) (zcq:Int) (zcy:Int) (zaT:Nat) (zaN:(List Int->Option (List Int))),zqT K X0 X2 zaa zbb zbR zbD zcx zcq zcy zaT zaN->X2 (zkJ zaa zbb zbR zbD zcx zcq zcy zaT zaN))->X2 (zkJ zaa zbb zbR zbD zcx zcq zcy zaT zaN)) :
  zmT K X0 zaa zbb zbR zbD zcx zcq zcy zaT zaN:=by
  have e:zmT K X0 zaa zbb zbR zbD zcx zcq zcy zaT zaN=(∀ X:St->Prop,(∀ s,vc Tryz.prog G30 za2 (cd (cdF Tryz.f30 [1,0,1,1,0,1,0,1,0,0,1,1,0,0,1,1,0,1,0]) [0]) (zcB Tryz.prog za2 9 X (zaH 2 (sqK Tryz.prog G30 za2 (cdF Tryz.f30 [1,0,1,1,0,1,0,1,0,0,1,1,0,0,1,1,1]) (zaH 1 (sqK Tryz.prog G30 za2 (cdF Tryz.f30 [1,0,1,1,0,1,0,1,0,0,1,1,1]) (zcB Tryz.prog za2 5 X0 (zaH 0 (sqK Tryz.prog G30 za2 (cdF Tryz.f30 [1,0,1,1,1]) (zbl (zcM Tryz.f30 24 1 24 K)))))))))) s->X s)->X (zkJ zaa zbb zbR zbD zcx zcq zcy zaT zaN)):=by kernel_rfl
  refine zaM e ?_
  intro X hX
  refine h X ?_
  intro zbb zbR zbD zcx zcq zcy zaT zaN hs
  refine hX _ ?_
  have e2:=ztf K X0 X zaa zbb zbR zbD zcx zcq zcy zaT zaN
  rw[e2]
  exact hs
def zqU (K:List PA->Prop) (zaa:(Sl Gate)) (zaF:Nat) (zaG:(List Int->Option (List Int))):Prop :=
  (zps K zaa zaF zaG)
def zqV (K:List PA->Prop) (X3:List (List PA)->St->Prop) (y3:straight) (rest3:List (List PA)) (zaa:(Sl Gate)) (zaF:Nat) (zaG:(List Int->Option (List Int))):Prop :=
  (zmV K X3 rest3 zaa y3 (0:Int) (0:Int) zaF zaG)
theorem ztg (K:List PA->Prop) (zaa:(Sl Gate)) (zaF:Nat) (zaG:(List Int->Option (List Int))):(zaH 4 (sqK Tryz.prog G30 za2 (cdF Tryz.f30 [1,0,1,1,1,1]) (zbl (zcM Tryz.f30 24 1 24 K)))) .normal (zhY zaa zaF zaG)=zqU K zaa zaF zaG:=by kernel_rfl
theorem zth (K : List PA → Prop) (X3 : List (List PA) → St → Prop) (y3 : straight) (rest3 : List (List PA)) (zaa : (Sl Gate)) (zaF : Nat) (zaG : (List Int → Option (List Int))) :
  zQz Tryz.prog G30 za2 17 [54] (cd (cdF Tryz.f30 [1,0,1,1,1,0,1,0]) [0]) (cd (cdF Tryz.f30 [1,0,1,1,1,0,1,0]) [1]) X3 (zaH 4 (sqK Tryz.prog G30 za2 (cdF Tryz.f30 [1,0,1,1,1,1]) (zbl (zcM Tryz.f30 24 1 24 K)))) [.agg (zaA y3)] rest3 (zhY zaa zaF zaG)=zqV K X3 y3 rest3 zaa zaF zaG:=by kernel_rfl
theorem zCp (K : List PA → Prop) (zaa : (Sl Gate)) (zaF : Nat) (zaG : (List Int → Option (List Int)))
  (hsafe:IsE enc_48 3 3 (λ i=>enc_48 ((⟨zaa⟩:list).Gates.get i))/\(p77 (⟨zaa⟩:list)=true)) (h:∀ X3:List (List PA)->St->Prop,(∀ (zaF:Nat) (zaG:(List Int->Option (List Int))),zqU K zaa zaF zaG->X3 [] (zhY zaa zaF zaG))->(∀ (y:straight) (rest:List (List PA)) (zaF:Nat) (zaG:(List Int->Option (List Int))),zqV K X3 y rest zaa zaF zaG->X3 ([.agg (zaA y)] :: rest) (zhY zaa zaF zaG))->X3 ((s77 (⟨zaa⟩:list)).map λ y=>[.agg (zaA y)]) (zhY zaa zaF zaG)) :
  zmU K zaa zaF zaG:=by
  have e:zmU K zaa zaF zaG=((IsE enc_48 3 3 (λ i=>enc_48 ((⟨zaa⟩:list).Gates.get i))/\(p77 (⟨zaa⟩:list)=true))/\∀ X:List (List PA)->St->Prop,(∀ s,(zaH 4 (sqK Tryz.prog G30 za2 (cdF Tryz.f30 [1,0,1,1,1,1]) (zbl (zcM Tryz.f30 24 1 24 K)))) .normal s->X [] s)->(∀ y rest s,zQz Tryz.prog G30 za2 17 [54] (cd (cdF Tryz.f30 [1,0,1,1,1,0,1,0]) [0]) (cd (cdF Tryz.f30 [1,0,1,1,1,0,1,0]) [1]) X (zaH 4 (sqK Tryz.prog G30 za2 (cdF Tryz.f30 [1,0,1,1,1,1]) (zbl (zcM Tryz.f30 24 1 24 K)))) y rest s->X (y :: rest) s)->X ((s77 (⟨zaa⟩:list)).map λ y=>[.agg (zaA y)]) (zhY zaa zaF zaG)):=by kernel_rfl
  refine zaM e ⟨hsafe,?_⟩
  intro X h0 h1
  refine h X (λ zaF zaG hs=>h0 _ ?_) (λ y rest zaF zaG hs=>h1 _ rest _ ?_)
  · rw[ztg K zaa zaF zaG];exact hs
  · have e2 := zth K X y rest zaa zaF zaG
    rw[e2];exact hs
theorem zKF (K : List PA → Prop) (zaa : (Sl Gate)) (zad : Nat) (zac : (List Int → Option (List Int))) :
  zps K zaa zad zac =
  (zmW K zaa zad zac ([]) 0 (λ i=>zar ((λ _=>default) i))):=by kernel_rfl
def zqW (K:List PA->Prop) (X3:List (List PA)->St->Prop) (rest3:List (List PA)) (X5:St->Prop) (zaa:(Sl Gate)) (y3:straight) (zbc:Int) (zbI:Int) (zaU:Nat) (zaO:(List Int->Option (List Int))):Prop :=
  (zc7 (decide (zbI < (zaa.len : Int)))
 (((0<=zbI/\zbI < (zaa.len:Int))) /\
 (zc7 (s57 y3 (zaa.get zbI.toNat))
 (((0<=zbI)) /\
 (X5 (zkK zaa y3 (orW .i64 zbc (zv6 .i64 (1:Int) zbI)) (w64 (zbI+(1:Int))) zaU zaO)))
 (X5 (zkK zaa y3 zbc (w64 (zbI+(1:Int))) zaU zaO))))
 (X3 rest3 (zhY zaa (addN (zaO [zbc]) zaU) (zhO [zbc] [1] zaO))))
theorem zti (K : List PA → Prop) (X3 : List (List PA) → St → Prop) (rest3 : List (List PA)) (X5 : St → Prop) (zaa : (Sl Gate)) (y3 : straight) (zbc : Int) (zbI : Int) (zaU : Nat) (zaO : (List Int → Option (List Int))) :
  vc Tryz.prog G30 za2 (cd (cdF Tryz.f30 [1,0,1,1,1,0,1,0,1,0,1,0,1,0]) [0]) (zcB Tryz.prog za2 20 X5 (zaH 6 (sqK Tryz.prog G30 za2 (cdF Tryz.f30 [1,0,1,1,1,0,1,0,1,0,1,1]) (zaH 5 (zQA Tryz.prog za2 17 (X3 rest3) (zaH 4 (sqK Tryz.prog G30 za2 (cdF Tryz.f30 [1,0,1,1,1,1]) (zbl (zcM Tryz.f30 24 1 24 K))))))))) (zkK zaa y3 zbc zbI zaU zaO) =
  zqW K X3 rest3 X5 zaa y3 zbc zbI zaU zaO:=by kernel_rfl
theorem zCq (K : List PA → Prop) (X3 : List (List PA) → St → Prop) (rest3 : List (List PA)) (zaa : (Sl Gate)) (y3 : straight) (zbc : Int) (zbI : Int) (zaU : Nat) (zaO : (List Int → Option (List Int)))
  (h:∀ X5:St->Prop,(∀ (zbc:Int) (zbI:Int) (zaU:Nat) (zaO:(List Int->Option (List Int))),zqW K X3 rest3 X5 zaa y3 zbc zbI zaU zaO->X5 (zkK zaa y3 zbc zbI zaU zaO))->X5 (zkK zaa y3 zbc zbI zaU zaO)) :
  zmV K X3 rest3 zaa y3 zbc zbI zaU zaO:=by
  have e:zmV K X3 rest3 zaa y3 zbc zbI zaU zaO=(∀ X:St->Prop,(∀ s,vc Tryz.prog G30 za2 (cd (cdF Tryz.f30 [1,0,1,1,1,0,1,0,1,0,1,0,1,0]) [0]) (zcB Tryz.prog za2 20 X (zaH 6 (sqK Tryz.prog G30 za2 (cdF Tryz.f30 [1,0,1,1,1,0,1,0,1,0,1,1]) (zaH 5 (zQA Tryz.prog za2 17 (X3 rest3) (zaH 4 (sqK Tryz.prog G30 za2 (cdF Tryz.f30 [1,0,1,1,1,1]) (zbl (zcM Tryz.f30 24 1 24 K))))))))) s->X s)->X (zkK zaa y3 zbc zbI zaU zaO)):=by kernel_rfl
  refine zaM e ?_
  intro X hX
  refine h X ?_
  intro zbc zbI zaU zaO hs
  refine hX _ ?_
  have e2:=zti K X3 rest3 X zaa y3 zbc zbI zaU zaO
  rw[e2]
  exact hs
def zqX (K:List PA->Prop) (X6:St->Prop) (zaa:(Sl Gate)) (zad:Nat) (zac:(List Int->Option (List Int))) (zak:(List (List Int))) (zao:(Sl (Sl Int))):Prop :=
  (zDY 1 zad zac ->
 ((∀ c:List Int,c.length=1->zac c ≠ none->c∈zak) ->
 (((zao.len<=4611686018427387)/\((∀ i j,i < zao.len->j < zao.len->zwW (zqQ) [] false (λ i=>zar (zao.get i)) i j)/\STO zao.len (zpL (zqQ) [] false (λ i=>zar (zao.get i))))) /\
 (K [.one (.sl zao.len 1 (λ i=>zar ((zgz zao.len (λ i j=>(s59 (zao.get i) (zao.get j))) zao.get) i)))])))/\∀ k73_0:Int,zac [k73_0] ≠ none->[k73_0] ∉ zak ->
 (zmX K X6 zaa zad zac zak k73_0 ([]) zao.len (λ i=>zar (zao.get i))))
theorem ztj (K : List PA → Prop) (X6 : St → Prop) (zaa : (Sl Gate)) (zad : Nat) (zac : (List Int → Option (List Int))) (zak : (List (List Int))) (zao : (Sl (Sl Int))) :
  vc Tryz.prog G30 za2 (cd (cdF Tryz.f30 [1,0,1,1,1,1,1,1,0,1,0]) [0]) (zcB Tryz.prog za2 28 X6 (zaH 8 (sqK Tryz.prog G30 za2 (cdF Tryz.f30 [1,0,1,1,1,1,1,1,1]) (zbl (zcM Tryz.f30 24 1 24 K))))) (zhe zaa zad zac zak zao.len (λ i=>zar (zao.get i))) =
  zqX K X6 zaa zad zac zak zao:=by kernel_rfl
theorem zCr (K : List PA → Prop) (zaa : (Sl Gate)) (zad : Nat) (zac : (List Int → Option (List Int))) (zak : (List (List Int))) (zeo : Nat) (za1 : Nat → List PV)
  (h:∀ X6:St->Prop,(∀ (zak:(List (List Int))) (zao:(Sl (Sl Int))),zqX K X6 zaa zad zac zak zao->X6 (zhe zaa zad zac zak zao.len (λ i=>zar (zao.get i))))->X6 (zhe zaa zad zac zak zeo za1)) :
  zmW K zaa zad zac zak zeo za1:=by
  have e:zmW K zaa zad zac zak zeo za1=(∀ X:St->Prop,(∀ s,vc Tryz.prog G30 za2 (cd (cdF Tryz.f30 [1,0,1,1,1,1,1,1,0,1,0]) [0]) (zcB Tryz.prog za2 28 X (zaH 8 (sqK Tryz.prog G30 za2 (cdF Tryz.f30 [1,0,1,1,1,1,1,1,1]) (zbl (zcM Tryz.f30 24 1 24 K))))) s->X s)->X (zhe zaa zad zac zak zeo za1)):=by kernel_rfl
  refine zaM e ?_
  intro X hX
  refine h X ?_
  intro zak zao hs
  refine hX _ ?_
  have e2:=ztj K X zaa zad zac zak zao
  rw[e2]
  exact hs
def zqY (K:List PA->Prop) (X6:St->Prop) (X7:St->Prop) (zaa:(Sl Gate)) (zad:Nat) (zac:(List Int->Option (List Int))) (zak:(List (List Int))) (k73_0:Int) (zbp:(List (List Int))) (zax:(Sl (Sl Int))):Prop :=
  (zDY 1 zad zac ->
 ((∀ c:List Int,c.length=1->zac c ≠ none->c∈zbp) ->
 (zpt K X6 zaa zad zac zak k73_0 zax.len (λ i=>zar (zax.get i))))/\∀ k79_0:Int,zac [k79_0] ≠ none->[k79_0] ∉ zbp ->
 (zc7 (k79_0 != k73_0)
 (zc7 ((zpI .i64 k79_0 k73_0) == k73_0)
 (X6 (zhe zaa zad zac ([k73_0] :: zak) zax.len (λ i=>zar (zax.get i))))
 (X7 (zkL zaa zad zac zak k73_0 ([k79_0] :: zbp) zax.len (λ i=>zar (zax.get i)))))
 (X7 (zkL zaa zad zac zak k73_0 ([k79_0] :: zbp) zax.len (λ i=>zar (zax.get i))))))
theorem ztk (K : List PA → Prop) (X6 : St → Prop) (X7 : St → Prop) (zaa : (Sl Gate)) (zad : Nat) (zac : (List Int → Option (List Int))) (zak : (List (List Int))) (k73_0 : Int) (zbp : (List (List Int))) (zax : (Sl (Sl Int))) :
  vc Tryz.prog G30 za2 (cd (cdF Tryz.f30 [1,0,1,1,1,1,1,1,0,1,0,0,1,1,0,1,0,1,0]) [0]) (zcB Tryz.prog za2 31 X7 (zaH 10 (sqK Tryz.prog G30 za2 (cdF Tryz.f30 [1,0,1,1,1,1,1,1,0,1,0,0,1,1,0,1,1]) (zaH 9 (zcB Tryz.prog za2 28 X6 (zaH 8 (sqK Tryz.prog G30 za2 (cdF Tryz.f30 [1,0,1,1,1,1,1,1,1]) (zbl (zcM Tryz.f30 24 1 24 K))))))))) (zkL zaa zad zac zak k73_0 zbp zax.len (λ i=>zar (zax.get i))) =
  zqY K X6 X7 zaa zad zac zak k73_0 zbp zax:=by kernel_rfl
theorem zCs (K : List PA → Prop) (X6 : St → Prop) (zaa : (Sl Gate)) (zad : Nat) (zac : (List Int → Option (List Int))) (zak : (List (List Int))) (k73_0 : Int) (zbp : (List (List Int))) (zep : Nat) (zbE : Nat → List PV)
  (h:∀ X7:St->Prop,(∀ (zbp:(List (List Int))) (zax:(Sl (Sl Int))),zqY K X6 X7 zaa zad zac zak k73_0 zbp zax->X7 (zkL zaa zad zac zak k73_0 zbp zax.len (λ i=>zar (zax.get i))))->X7 (zkL zaa zad zac zak k73_0 zbp zep zbE)) :
  zmX K X6 zaa zad zac zak k73_0 zbp zep zbE:=by
  have e:zmX K X6 zaa zad zac zak k73_0 zbp zep zbE=(∀ X:St->Prop,(∀ s,vc Tryz.prog G30 za2 (cd (cdF Tryz.f30 [1,0,1,1,1,1,1,1,0,1,0,0,1,1,0,1,0,1,0]) [0]) (zcB Tryz.prog za2 31 X (zaH 10 (sqK Tryz.prog G30 za2 (cdF Tryz.f30 [1,0,1,1,1,1,1,1,0,1,0,0,1,1,0,1,1]) (zaH 9 (zcB Tryz.prog za2 28 X6 (zaH 8 (sqK Tryz.prog G30 za2 (cdF Tryz.f30 [1,0,1,1,1,1,1,1,1]) (zbl (zcM Tryz.f30 24 1 24 K))))))))) s->X s)->X (zkL zaa zad zac zak k73_0 zbp zep zbE)):=by kernel_rfl
  refine zaM e ?_
  intro X hX
  refine h X ?_
  intro zbp zax hs
  refine hX _ ?_
  have e2:=ztk K X6 X zaa zad zac zak k73_0 zbp zax
  rw[e2]
  exact hs
theorem zKG (K : List PA → Prop) (X6 : St → Prop) (zaa : (Sl Gate)) (zad : Nat) (zac : (List Int → Option (List Int))) (zak : (List (List Int))) (k73_0 : Int) (zav : (Sl (Sl Int))) :
  zpt K X6 zaa zad zac zak k73_0 zav.len (λ i=>zar (zav.get i)) =
  (zmZ K X6 zaa zad zac zak zav k73_0 (0:Int) 0 (λ i=>zam ((λ _=>default) i))):=by kernel_rfl
def zqZ (K:List PA->Prop) (X6:St->Prop) (X9:St->Prop) (zaa:(Sl Gate)) (zad:Nat) (zac:(List Int->Option (List Int))) (zak:(List (List Int))) (zav:(Sl (Sl Int))) (k73_0:Int) (zbN:Int) (zaX:(Sl Int)):Prop :=
  (zc7 (decide (zbN < (zaa.len : Int)))
 (((0<=zbN)) /\
 (zc7 ((zpI .i64 (zwT .i64 k73_0 zbN) (1:Int)) == (1:Int))
 ((((zaX.len+1) * 8<=140737488355328/\zaX.len+1<=9223372036854775807)) /\
 (X9 (zkM zaa zad zac zak zav k73_0 (w64 (zbN+(1:Int))) (zaX.len+1) (appG zaX.len (λ i=>zam (zaX.get i)) (λ _=>(zam zbN))))))
 (X9 (zkM zaa zad zac zak zav k73_0 (w64 (zbN+(1:Int))) zaX.len (λ i=>zam (zaX.get i))))))
 ((((zav.len+1) * 24<=140737488355328/\zav.len+1<=9223372036854775807)) /\
 (X6 (zhe zaa zad zac ([k73_0] :: zak) (zav.len+1) (appG zav.len (λ i=>zar (zav.get i)) (λ _=>(zar zaX)))))))
theorem ztl (K : List PA → Prop) (X6 : St → Prop) (X9 : St → Prop) (zaa : (Sl Gate)) (zad : Nat) (zac : (List Int → Option (List Int))) (zak : (List (List Int))) (zav : (Sl (Sl Int))) (k73_0 : Int) (zbN : Int) (zaX : (Sl Int)) :
  vc Tryz.prog G30 za2 (cd (cdF Tryz.f30 [1,0,1,1,1,1,1,1,0,1,0,0,1,1,0,1,1,1,0,1,0]) [0]) (zcB Tryz.prog za2 36 X9 (zaH 12 (sqK Tryz.prog G30 za2 (cdF Tryz.f30 [1,0,1,1,1,1,1,1,0,1,0,0,1,1,0,1,1,1,1]) (zaH 9 (zcB Tryz.prog za2 28 X6 (zaH 8 (sqK Tryz.prog G30 za2 (cdF Tryz.f30 [1,0,1,1,1,1,1,1,1]) (zbl (zcM Tryz.f30 24 1 24 K))))))))) (zkM zaa zad zac zak zav k73_0 zbN zaX.len (λ i=>zam (zaX.get i))) =
  zqZ K X6 X9 zaa zad zac zak zav k73_0 zbN zaX:=by kernel_rfl
theorem zCt (K : List PA → Prop) (X6 : St → Prop) (zaa : (Sl Gate)) (zad : Nat) (zac : (List Int → Option (List Int))) (zak : (List (List Int))) (zav : (Sl (Sl Int))) (k73_0 : Int) (zbN : Int) (zfr : Nat) (zcw : Nat → List PV)
  (h:∀ X9:St->Prop,(∀ (zbN:Int) (zaX:(Sl Int)),zqZ K X6 X9 zaa zad zac zak zav k73_0 zbN zaX->X9 (zkM zaa zad zac zak zav k73_0 zbN zaX.len (λ i=>zam (zaX.get i))))->X9 (zkM zaa zad zac zak zav k73_0 zbN zfr zcw)) :
  zmZ K X6 zaa zad zac zak zav k73_0 zbN zfr zcw:=by
  have e:zmZ K X6 zaa zad zac zak zav k73_0 zbN zfr zcw=(∀ X:St->Prop,(∀ s,vc Tryz.prog G30 za2 (cd (cdF Tryz.f30 [1,0,1,1,1,1,1,1,0,1,0,0,1,1,0,1,1,1,0,1,0]) [0]) (zcB Tryz.prog za2 36 X (zaH 12 (sqK Tryz.prog G30 za2 (cdF Tryz.f30 [1,0,1,1,1,1,1,1,0,1,0,0,1,1,0,1,1,1,1]) (zaH 9 (zcB Tryz.prog za2 28 X6 (zaH 8 (sqK Tryz.prog G30 za2 (cdF Tryz.f30 [1,0,1,1,1,1,1,1,1]) (zbl (zcM Tryz.f30 24 1 24 K))))))))) s->X s)->X (zkM zaa zad zac zak zav k73_0 zbN zfr zcw)):=by kernel_rfl
  refine zaM e ?_
  intro X hX
  refine h X ?_
  intro zbN zaX hs
  refine hX _ ?_
  have e2:=ztl K X6 X zaa zad zac zak zav k73_0 zbN zaX
  rw[e2]
  exact hs
@[reducible] def e30 (r:(Sl (Sl Int))):List PA:=[.one (.sl r.len 1 (λ i=>zar (r.get i)))]
attribute [irreducible] zmR zmS zmT zmU zps zmV zmW zmX zpt zmZ
def zm0 (S6:(Sl (Sl Int))->(Sl (Sl Int))) (zaa:(Sl Gate)) (zad:Nat) (zac:(List Int->Option (List Int))) (zav:(Sl (Sl Int))) (k73_0:Int) (S9:Int->(Sl Int)->(Sl (Sl Int))) (zbN:Int) (zaX:(Sl Int)):(Sl (Sl Int)) :=
  (cond (decide (zbN < (zaa.len : Int)))
 (cond ((zpI .i64 (zwT .i64 k73_0 zbN) (1:Int)) == (1:Int))
 (S9 (w64 (zbN+(1:Int))) (⟨(zaX.len+1),(zfe zaX.len zaX.get (λ _=>zbN))⟩:Sl Int))
 (S9 (w64 (zbN+(1:Int))) zaX))
 (S6 (⟨(zav.len+1),(zfe zav.len zav.get (λ _=>zaX))⟩:Sl (Sl Int))))
def zm1 (P6:(Sl (Sl Int))->Bool) (zaa:(Sl Gate)) (zad:Nat) (zac:(List Int->Option (List Int))) (zav:(Sl (Sl Int))) (k73_0:Int) (P9:Int->(Sl Int)->Bool) (zbN:Int) (zaX:(Sl Int)):Bool :=
  (cond (decide (zbN < (zaa.len : Int)))
 (decide ((0<=zbN)) &&
 (cond ((zpI .i64 (zwT .i64 k73_0 zbN) (1:Int)) == (1:Int))
 (decide (((zaX.len+1) * 8<=140737488355328/\zaX.len+1<=9223372036854775807)) &&
 (P9 (w64 (zbN+(1:Int))) (⟨(zaX.len+1),(zfe zaX.len zaX.get (λ _=>zbN))⟩:Sl Int)))
 (P9 (w64 (zbN+(1:Int))) zaX)))
 (decide (((zav.len+1) * 24<=140737488355328/\zav.len+1<=9223372036854775807)) &&
 (P6 (⟨(zav.len+1),(zfe zav.len zav.get (λ _=>zaX))⟩:Sl (Sl Int)))))
def ze7 (S6 : (Sl (Sl Int)) → (Sl (Sl Int))) (zaa : (Sl Gate)) (zad : Nat) (zac : (List Int → Option (List Int))) (zav : (Sl (Sl Int))) (k73_0 : Int) : Nat → Int → (Sl Int) → (Sl (Sl Int))
  | 0=>λ _ _=>default
  | k+1=>zm0 S6 zaa zad zac zav k73_0 (ze7 S6 zaa zad zac zav k73_0 k)
def ze8 (P6 : (Sl (Sl Int)) → Bool) (zaa : (Sl Gate)) (zad : Nat) (zac : (List Int → Option (List Int))) (zav : (Sl (Sl Int))) (k73_0 : Int) : Nat → Int → (Sl Int) → Bool
  | 0=>λ _ _=>false
  | k+1=>zm1 P6 zaa zad zac zav k73_0 (ze8 P6 zaa zad zac zav k73_0 k)
def zCu (S6:(Sl (Sl Int))->(Sl (Sl Int))) (zaa:(Sl Gate)) (zad:Nat) (zac:(List Int->Option (List Int))) (zav:(Sl (Sl Int))) (k73_0:Int) (zbN:Int) (zaX:(Sl Int)):(Sl (Sl Int)):=ze7 S6 zaa zad zac zav k73_0 Fuel zbN zaX
def zCv (P6:(Sl (Sl Int))->Bool) (zaa:(Sl Gate)) (zad:Nat) (zac:(List Int->Option (List Int))) (zav:(Sl (Sl Int))) (k73_0:Int) (zbN:Int) (zaX:(Sl Int)):Bool:=ze8 P6 zaa zad zac zav k73_0 Fuel zbN zaX
theorem zKH (K : List PA → Prop) (zaa : (Sl Gate)) (zad : Nat) (zac : (List Int → Option (List Int))) (zak : (List (List Int))) (zav : (Sl (Sl Int))) (k73_0 : Int)
  (X6:St->Prop) (P6:(Sl (Sl Int))->Bool) (S6:(Sl (Sl Int))->(Sl (Sl Int)))
  (hX6:∀ (zao:(Sl (Sl Int))) (za1:Nat->List PV) (zdi:za1=λ i=>zar (zao.get i)),P6 zao=true->K (e30 (S6 zao))->X6 (zhe zaa zad zac ([k73_0] :: zak) zao.len za1)) (zbN:Int) (zaX:(Sl Int)) (zcw:Nat->List PV) (zji:zcw=λ i=>zam (zaX.get i)) (hs:zCv P6 zaa zad zac zav k73_0 zbN zaX=true) (hk:K (e30 (zCu S6 zaa zad zac zav k73_0 zbN zaX))):zmZ K X6 zaa zad zac zak zav k73_0 zbN zaX.len zcw:=by
  refine zCt K X6 zaa zad zac zak zav k73_0 zbN zaX.len zcw ?_
  intro X9 hstep
  have key:∀ (k:Nat) (zbN:Int) (zaX:(Sl Int)) (zcw:Nat->List PV) (zji:zcw=λ i=>zam (zaX.get i)),ze8 P6 zaa zad zac zav k73_0 k zbN zaX=true->K (e30 (ze7 S6 zaa zad zac zav k73_0 k zbN zaX))->X9 (zkM zaa zad zac zak zav k73_0 zbN zaX.len zcw):=by
    intro k
    induction k with
    | zero=>intro zbN zaX zcw zji hs;exact absurd hs dqk
    | succ k ih =>
      intro zbN zaX zcw zji hs hk
      subst zji
      refine hstep zbN zaX ?_
      have hs:zm1 P6 zaa zad zac zav k73_0 (ze8 P6 zaa zad zac zav k73_0 k) zbN zaX=true:=hs
      have hk:K (e30 (zm0 S6 zaa zad zac zav k73_0 (ze7 S6 zaa zad zac zav k73_0 k) zbN zaX)):=hk
      unfold zm1 at hs
      unfold zm0 at hk
      generalize ze7 S6 zaa zad zac zav k73_0 k=S9 at hk ih
      generalize ze8 P6 zaa zad zac zav k73_0 k=P9 at hs ih
      have hX9:=ih
      exact (zb8 (K := λ r => K (e30 r))
 (λ hs hk => (zaI hs λ hc hs => ⟨hc, (zb8 (K := λ r => K (e30 r))
 (λ hs hk=>(zaI hs λ hc hs=>⟨hc,(hX9 (w64 (zbN+(1:Int))) (⟨(zaX.len+1),(zfe zaX.len zaX.get (λ _=>zbN))⟩:Sl Int) (appG zaX.len (λ i=>zam (zaX.get i)) (λ _=>(zam zbN))) (zfm (enc:=zam) (f:=zaX.get) (h:=(λ _=>zbN)) rfl rfl) hs hk)⟩))
 (λ hs hk=>(hX9 (w64 (zbN+(1:Int))) zaX (λ i=>zam (zaX.get i)) rfl hs hk)) hs hk)⟩))
 (fun hs hk=>(zaI hs fun hc hs=>⟨hc,(hX6 (⟨(zav.len+1),(zfe zav.len zav.get (fun _=>zaX))⟩:Sl (Sl Int)) (appG zav.len (fun i=>zar (zav.get i)) (fun _=>(zar zaX))) (zfm (enc:=zar) (f:=zav.get) (h:=(fun _=>zaX)) rfl rfl) hs hk)⟩)) hs hk)
  exact key _ zbN zaX zcw zji hs hk
def ztm (S6:(Sl (Sl Int))->(Sl (Sl Int))) (zaa:(Sl Gate)) (zad:Nat) (zac:(List Int->Option (List Int))) (k73_0:Int) (zav:(Sl (Sl Int))):(Sl (Sl Int)) :=
  (zCu S6 zaa zad zac zav k73_0 (0:Int) (⟨0,(λ _=>default)⟩:Sl Int))
def ztn (P6:(Sl (Sl Int))->Bool) (zaa:(Sl Gate)) (zad:Nat) (zac:(List Int->Option (List Int))) (k73_0:Int) (zav:(Sl (Sl Int))):Bool :=
  (zCv P6 zaa zad zac zav k73_0 (0:Int) (⟨0,(λ _=>default)⟩:Sl Int))
theorem zKI (K : List PA → Prop) (zaa : (Sl Gate)) (zad : Nat) (zac : (List Int → Option (List Int))) (zak : (List (List Int))) (k73_0 : Int)
  (X6:St->Prop) (P6:(Sl (Sl Int))->Bool) (S6:(Sl (Sl Int))->(Sl (Sl Int)))
  (hX6:∀ (zao:(Sl (Sl Int))) (za1:Nat->List PV) (zdi:za1=λ i=>zar (zao.get i)),P6 zao=true->K (e30 (S6 zao))->X6 (zhe zaa zad zac ([k73_0] :: zak) zao.len za1)) (zav:(Sl (Sl Int))) (zfQ:Nat->List PV) (zCw:zfQ=λ i=>zar (zav.get i)) (hs:ztn P6 zaa zad zac k73_0 zav=true) (hk:K (e30 (ztm S6 zaa zad zac k73_0 zav))):zpt K X6 zaa zad zac zak k73_0 zav.len zfQ:=by
  subst zCw
  refine zaM (zKG K X6 zaa zad zac zak k73_0 zav) ?_
  unfold ztn at hs
  unfold ztm at hk
  exact (zKH K zaa zad zac zak zav k73_0 X6 P6 S6 hX6 (0:Int) (⟨0,(λ _=>default)⟩:Sl Int) (λ i=>zam ((λ _=>default) i)) rfl hs hk)
def zm2 (S6:(Sl (Sl Int))->(Sl (Sl Int))) (zaa:(Sl Gate)) (zad:Nat) (zac:(List Int->Option (List Int))) (k73_0:Int) (zax:(Sl (Sl Int))):(Sl (Sl Int)) :=
  (ztm S6 zaa zad zac k73_0 zax)
def zm3 (P6:(Sl (Sl Int))->Bool) (zaa:(Sl Gate)) (zad:Nat) (zac:(List Int->Option (List Int))) (k73_0:Int) (zax:(Sl (Sl Int))):Bool :=
  (ztn P6 zaa zad zac k73_0 zax)
def zm4 (S6:(Sl (Sl Int))->(Sl (Sl Int))) (zaa:(Sl Gate)) (zad:Nat) (zac:(List Int->Option (List Int))) (k73_0:Int) (k79_0:Int) (S7:(Sl (Sl Int))->(Sl (Sl Int))) (zax:(Sl (Sl Int))):(Sl (Sl Int)) :=
  (cond (k79_0 != k73_0)
 (cond ((zpI .i64 k79_0 k73_0) == k73_0)
 (S6 zax)
 (S7 zax))
 (S7 zax))
def zm5 (P6:(Sl (Sl Int))->Bool) (zaa:(Sl Gate)) (zad:Nat) (zac:(List Int->Option (List Int))) (k73_0:Int) (k79_0:Int) (P7:(Sl (Sl Int))->Bool) (zax:(Sl (Sl Int))):Bool :=
  (cond (k79_0 != k73_0)
 (cond ((zpI .i64 k79_0 k73_0) == k73_0)
 (P6 zax)
 (P7 zax))
 (P7 zax))
def zey (S6 : (Sl (Sl Int)) → (Sl (Sl Int))) (zaa : (Sl Gate)) (zad : Nat) (zac : (List Int → Option (List Int))) (k73_0 : Int) : List (List Int) → (Sl (Sl Int)) → (Sl (Sl Int))
  | []=>zm2 S6 zaa zad zac k73_0
  | y :: r=>zm4 S6 zaa zad zac k73_0 (y.getD 0 0) (zey S6 zaa zad zac k73_0 r)
def ze9 (P6 : (Sl (Sl Int)) → Bool) (zaa : (Sl Gate)) (zad : Nat) (zac : (List Int → Option (List Int))) (k73_0 : Int) : List (List Int) → (Sl (Sl Int)) → Bool
  | []=>zm3 P6 zaa zad zac k73_0
  | y :: r=>zm5 P6 zaa zad zac k73_0 (y.getD 0 0) (ze9 P6 zaa zad zac k73_0 r)
def zjR (zaa:Sl Gate) (n:Nat) (F:List Int->Option (List Int)) (k:Int) (ys:List (List Int)):Bool:=true
theorem zKJ (zaa:Sl Gate) (n:Nat) (F:List Int->Option (List Int)) (k:Int):∀ (y:List Int) (r:List (List Int)),zjR zaa n F k (y :: r)=true->zjR zaa n F k r=true:=λ _ _ _=>rfl
section ord7
variable (P6:Sl (Sl Int)->Bool) (S6:Sl (Sl Int)->Sl (Sl Int)) (zaa:Sl Gate) (n:Nat) (F:List Int->Option (List Int)) (k:Int)
theorem zvy : ∀ (ys : List (List Int)) (v : Sl (Sl Int)), ze9 P6 zaa n F k ys v = cond (ys.any (zwM k)) (P6 v) (zm3 P6 zaa n F k v) ∧ zey S6 zaa n F k ys v = cond (ys.any (zwM k)) (S6 v) (zm2 S6 zaa n F k v)
  | [],v=>⟨rfl,rfl⟩
  | y :: r,v=>by
    obtain⟨i1,i2⟩:=zvy r v
    have e1:ze9 P6 zaa n F k (y :: r) v=zm5 P6 zaa n F k (y.getD 0 0) (ze9 P6 zaa n F k r) v:=rfl
    have e2:zey S6 zaa n F k (y :: r) v=zm4 S6 zaa n F k (y.getD 0 0) (zey S6 zaa n F k r) v:=rfl
    rw[e1,e2,List.any_cons,show zwM k y=((y.getD 0 0 != k) && (zpI .i64 (y.getD 0 0) k == k)) from rfl]
    unfold zm5 zm4
    rw[i1,i2]
    cases h1:(y.getD 0 0 != k) <;> cases h2:(zpI .i64 (y.getD 0 0) k == k) <;> simp only[cond_true,cond_false,Bool.true_and,Bool.false_and,Bool.true_or,Bool.false_or,and_self]
theorem zKK (ys zs : List (List Int)) (_hl : ∀ y ∈ ys, y.length = 1) (_h : zjR zaa n F k ys = true) (hp : ys.Perm zs) :
    zjR zaa n F k zs=true/\∀ v:Sl (Sl Int),ze9 P6 zaa n F k ys v=true->ze9 P6 zaa n F k zs v=true/\zey S6 zaa n F k ys v=zey S6 zaa n F k zs v:=by
  refine⟨rfl,λ v hs=>?_⟩
  obtain⟨a1,a2⟩:=zvy P6 S6 zaa n F k ys v
  obtain⟨b1,b2⟩:=zvy P6 S6 zaa n F k zs v
  rw[<- zwN hp] at b1 b2
  rw[a1] at hs
  rw[b1,b2,a2]
  exact⟨hs,rfl⟩
end ord7
def zto (S6:(Sl (Sl Int))->(Sl (Sl Int))) (zaa:(Sl Gate)) (zad:Nat) (zac:(List Int->Option (List Int))) (k73_0:Int) (zax:(Sl (Sl Int))):(Sl (Sl Int)):=zey S6 zaa zad zac k73_0 (zcT zac) zax
def ztp (P6:(Sl (Sl Int))->Bool) (zaa:(Sl Gate)) (zad:Nat) (zac:(List Int->Option (List Int))) (k73_0:Int) (zax:(Sl (Sl Int))):Bool:=keysB 1 zad zac (zcT zac) && zjR zaa zad zac k73_0 (zcT zac) && ze9 P6 zaa zad zac k73_0 (zcT zac) zax
theorem zKL (K : List PA → Prop) (zaa : (Sl Gate)) (zad : Nat) (zac : (List Int → Option (List Int))) (zak : (List (List Int))) (k73_0 : Int)
  (X6:St->Prop) (P6:(Sl (Sl Int))->Bool) (S6:(Sl (Sl Int))->(Sl (Sl Int)))
  (hX6:∀ (zao:(Sl (Sl Int))) (za1:Nat->List PV) (zdi:za1=λ i=>zar (zao.get i)),P6 zao=true->K (e30 (S6 zao))->X6 (zhe zaa zad zac ([k73_0] :: zak) zao.len za1)) (zax:(Sl (Sl Int))) (zbE:Nat->List PV) (zeq:zbE=λ i=>zar (zax.get i)) (hs:ztp P6 zaa zad zac k73_0 zax=true) (hk:K (e30 (zto S6 zaa zad zac k73_0 zax))):zmX K X6 zaa zad zac zak k73_0 [] zax.len zbE:=by
  unfold ztp at hs
  rw[dqm,dqm] at hs
  obtain⟨⟨hkeys,hI⟩,hs⟩:=hs
  have ek:zto S6 zaa zad zac k73_0 zax=zey S6 zaa zad zac k73_0 (zcT zac) zax:=rfl
  rw[ek] at hk
  generalize hys:zcT zac=ys0 at hkeys hI hs hk
  refine zCs K X6 zaa zad zac zak k73_0 [] zax.len zbE ?_
  intro X7 hstep
  have key:∀ (N:Nat) (ys:List (List Int)) (zbp:List (List Int)) (zax:(Sl (Sl Int))) (zbE:Nat->List PV) (zeq:zbE=λ i=>zar (zax.get i)),ys.length=N->(zDY 1 zad zac->zHS 1 zac zbp ys)->zjR zaa zad zac k73_0 ys=true->ze9 P6 zaa zad zac k73_0 ys zax=true->K (e30 (zey S6 zaa zad zac k73_0 ys zax))->X7 (zkL zaa zad zac zak k73_0 zbp zax.len zbE):=by
    intro N
    induction N with
    | zero =>
      intro ys zbp zax zbE zeq hN hrem hI hs hk
      subst zeq
      obtain rfl:=List.eq_nil_of_length_eq_zero hN
      refine hstep zbp zax ?_
      intro hfin
      have hrem:=hrem hfin
      refine⟨λ _=>?_,λ k79_0 hF hns=>absurd (hrem.2.2 [k79_0] rfl hF hns) (by simp)⟩
      have hs:zm3 P6 zaa zad zac k73_0 zax=true:=hs
      have hk:K (e30 (zm2 S6 zaa zad zac k73_0 zax)):=hk
      unfold zm3 at hs
      unfold zm2 at hk
      exact (zKI K zaa zad zac zak k73_0 X6 P6 S6 hX6 zax (λ i=>zar (zax.get i)) rfl hs hk)
    | succ N ih =>
      intro ys zbp zax zbE zeq hN hrem hI hs hk
      subst zeq
      refine hstep zbp zax ?_
      intro hfin
      have hrem:=hrem hfin
      refine⟨λ hend=>?_,λ k79_0 hF hns=>?_⟩
      · exact absurd (zr7 hrem hend) (λ e=>by rw[e] at hN;simp at hN)
      · obtain ⟨hperm, hrem2, hlen⟩ := zoZ hrem (c := [k79_0]) rfl hF hns
        obtain⟨hI2,hcond⟩:=zKK P6 S6 zaa zad zac k73_0 ys _ (λ y hy=>(hrem.2.1 y hy).1) hI hperm
        have hI3:=zKJ zaa zad zac k73_0 _ _ hI2
        obtain⟨e2,e1⟩:=hcond zax hs
        have hs:=e2
        rw[e1] at hk
        have hs:zm5 P6 zaa zad zac k73_0 k79_0 (ze9 P6 zaa zad zac k73_0 (ys.erase [k79_0])) zax=true:=hs
        have hk:K (e30 (zm4 S6 zaa zad zac k73_0 k79_0 (zey S6 zaa zad zac k73_0 (ys.erase [k79_0])) zax)):=hk
        have ih:=λ (zax:(Sl (Sl Int))) (zbE:Nat->List PV) (zeq:zbE=λ i=>zar (zax.get i))=>ih (ys.erase [k79_0]) ([k79_0] :: zbp) zax zbE zeq (by omega) (λ _=>hrem2) hI3
        unfold zm5 at hs
        unfold zm4 at hk
        generalize zey S6 zaa zad zac k73_0 (ys.erase [k79_0])=S7 at hk ih
        generalize ze9 P6 zaa zad zac k73_0 (ys.erase [k79_0])=P7 at hs ih
        have hX7:=ih
        exact (zb8 (K := λ r => K (e30 r))
 (λ hs hk => (zb8 (K := λ r => K (e30 r))
 (λ hs hk=>(hX6 zax (λ i=>zar (zax.get i)) rfl hs hk))
 (λ hs hk=>(hX7 zax (λ i=>zar (zax.get i)) rfl hs hk)) hs hk))
 (fun hs hk=>(hX7 zax (fun i=>zar (zax.get i)) rfl hs hk)) hs hk)
  exact key _ ys0 [] zax zbE zeq rfl (λ hf=>zmb hkeys hf) hI hs hk
def zhf (zaa:(Sl Gate)) (zad:Nat) (zac:(List Int->Option (List Int))) (zao:(Sl (Sl Int))):(Sl (Sl Int)) :=
  (⟨zao.len,(zgz zao.len (λ i j=>(s59 (zao.get i) (zao.get j))) zao.get)⟩:(Sl (Sl Int)))
def zgm (zaa:(Sl Gate)) (zad:Nat) (zac:(List Int->Option (List Int))) (zao:(Sl (Sl Int))):Bool :=
  (decide ((zao.len<=4611686018427387)/\(sortB zao.len (λ i j=>decide (p59 (zao.get i) (zao.get j)=true)) (λ i j=>(s59 (zao.get i) (zao.get j)))=true)) &&
 true)
def zjS (zaa:(Sl Gate)) (zad:Nat) (zac:(List Int->Option (List Int))) (k73_0:Int) (S6:(Sl (Sl Int))->(Sl (Sl Int))) (zao:(Sl (Sl Int))):(Sl (Sl Int)) :=
  (zto S6 zaa zad zac k73_0 zao)
def ziu (zaa:(Sl Gate)) (zad:Nat) (zac:(List Int->Option (List Int))) (k73_0:Int) (P6:(Sl (Sl Int))->Bool) (zao:(Sl (Sl Int))):Bool :=
  (ztp P6 zaa zad zac k73_0 zao)
def zdp (zaa : (Sl Gate)) (zad : Nat) (zac : (List Int → Option (List Int))) : List (List Int) → (Sl (Sl Int)) → (Sl (Sl Int))
  | []=>zhf zaa zad zac
  | y :: r=>zjS zaa zad zac (y.getD 0 0) (zdp zaa zad zac r)
def zcK (zaa : (Sl Gate)) (zad : Nat) (zac : (List Int → Option (List Int))) : List (List Int) → (Sl (Sl Int)) → Bool
  | []=>zgm zaa zad zac
  | y :: r=>ziu zaa zad zac (y.getD 0 0) (zcK zaa zad zac r)
def zhg (zaa:Sl Gate) (n:Nat) (F:List Int->Option (List Int)) (ys:List (List Int)):Bool:=true
theorem zKM (zaa:Sl Gate) (n:Nat) (F:List Int->Option (List Int)):∀ (y:List Int) (r:List (List Int)),zhg zaa n F (y :: r)=true->zhg zaa n F r=true:=λ _ _ _=>rfl
def zQm (m:Nat):Bool:=decide ((m+1) * 24<=140737488355328/\m+1<=9223372036854775807)
def zO8 (P6 : Sl (Sl Int) → Bool) (v : Sl (Sl Int)) : Option (Sl Int) → Bool
  | none=>false
  | some x=>zQm v.len && P6 (zqR v x)
theorem zCx (P6:Sl (Sl Int)->Bool) (S6:Sl (Sl Int)->Sl (Sl Int)) (zaa:Sl Gate) (n:Nat) (F:List Int->Option (List Int)) (v:Sl (Sl Int)) (k:Int):∀ (f:Nat) (t:Int) (o:Sl Int),
    ze8 P6 zaa n F v k f t o=zO8 P6 v (zkX zaa k f t o)/\∀ x,zkX zaa k f t o=some x->ze7 S6 zaa n F v k f t o=S6 (zqR v x)
  | 0,t,o=>by
    have e0:zkX zaa k 0 t o=none:=rfl
    have e1:ze8 P6 zaa n F v k 0 t o=false:=rfl
    rw[e0,e1]
    exact And.intro rfl (λ x hx=>by cases hx)
  | f+1,t,o=>by
    have i1:=zCx P6 S6 zaa n F v k f (w64 (t+(1:Int))) o
    have i2:=zCx P6 S6 zaa n F v k f (w64 (t+(1:Int))) ⟨o.len+1,zfe o.len o.get (λ _=>t)⟩
    have e1:ze8 P6 zaa n F v k (f+1) t o=zm1 P6 zaa n F v k (ze8 P6 zaa n F v k f) t o:=rfl
    have e2:ze7 S6 zaa n F v k (f+1) t o=zm0 S6 zaa n F v k (ze7 S6 zaa n F v k f) t o:=rfl
    rw[e1,e2]
    unfold zkX zm1 zm0
    generalize decide (t < (zaa.len:Int))=b1
    generalize decide (0<=t)=b2
    generalize ((zpI .i64 (zwT .i64 k t) (1:Int)) == (1:Int))=b3
    generalize decide ((o.len+1) * 8<=140737488355328/\o.len+1<=9223372036854775807)=b4
    generalize ze8 P6 zaa n F v k f=q at i1 i2 ⊢
    generalize ze7 S6 zaa n F v k f=s at i1 i2 ⊢
    generalize zkX zaa k f=g at i1 i2 ⊢
    cases b1
    · exact And.intro rfl (λ x hx=>by cases hx;rfl)
    cases b2
    · exact And.intro rfl (λ x hx=>by cases hx)
    cases b3
    · exact i1
    cases b4
    · exact And.intro rfl (λ x hx=>by cases hx)
    · exact i2
def zc3 (F:List Int->Option (List Int)) (y:List Int):Bool:=!(zcT F).any (zwM (y.getD 0 0))
def zrn (zaa:Sl Gate) (F:List Int->Option (List Int)) (y:List Int) (v:Sl (Sl Int)):Sl (Sl Int):=cond (zc3 F y) (zqR v ((zhd zaa (y.getD 0 0)).getD default)) v
def apG {α β : Type} (f : α → β → β) : List α → β → β
  | [],v=>v
  | y :: r,v=>apG f r (f y v)
theorem zKN {α β:Type}(f:α->β->β) (v:β):apG f [] v=v:=rfl
theorem zFb {α β:Type}(f:α->β->β) (y:α) (r:List α) (v:β):apG f (y :: r) v=apG f r (f y v):=rfl
def zli (zaa:Sl Gate) (F:List Int->Option (List Int)) (ys:List (List Int)) (v:Sl (Sl Int)):Sl (Sl Int):=apG (zrn zaa F) ys v
theorem zq0 (zaa:Sl Gate) (F:List Int->Option (List Int)) (v:Sl (Sl Int)):zli zaa F [] v=v:=zKN _ v
theorem zq1 (zaa:Sl Gate) (F:List Int->Option (List Int)) (y:List Int) (r:List (List Int)) (v:Sl (Sl Int)):zli zaa F (y :: r) v=zli zaa F r (zrn zaa F y v):=zFb _ y r v
def zMd (zaa:Sl Gate) (n:Nat) (F:List Int->Option (List Int)) (y:List Int):Prop:=keysB 1 n F (zcT F)=true/\(zc3 F y=true->(zhd zaa (y.getD 0 0)).isSome=true)
section ord6
variable (zaa:Sl Gate) (n:Nat) (F:List Int->Option (List Int))
theorem zCy (P : Sl (Sl Int) → Bool) (S : Sl (Sl Int) → Sl (Sl Int)) (y : List Int) (v : Sl (Sl Int)) :
    ziu zaa n F (y.getD 0 0) P v=(keysB 1 n F (zcT F) && cond (zc3 F y) (zO8 P v (zhd zaa (y.getD 0 0))) (P v)) /\
    (zMd zaa n F y->zjS zaa n F (y.getD 0 0) S v=S (zrn zaa F y v)):=by
  unfold zMd zrn zc3
  generalize y.getD 0 0=k
  have e1:ziu zaa n F k P v=(keysB 1 n F (zcT F) && true && ze9 P zaa n F k (zcT F) v):=rfl
  have e2:zjS zaa n F k S v=zey S zaa n F k (zcT F) v:=rfl
  have h7:=zvy P S zaa n F k (zcT F) v
  have h9:=zCx P S zaa n F v k Fuel 0 ⟨0,λ _=>default⟩
  have e3:zkX zaa k Fuel 0 ⟨0,λ _=>default⟩=zhd zaa k:=rfl
  have e4:zm3 P zaa n F k v=ze8 P zaa n F v k Fuel 0 ⟨0,λ _=>default⟩:=rfl
  have e5:zm2 S zaa n F k v=ze7 S zaa n F v k Fuel 0 ⟨0,λ _=>default⟩:=rfl
  rw[e3] at h9
  rw[e1,e2,h7.1,h7.2,e4,e5,h9.1,Bool.and_true]
  have h9:=h9.2
  clear e1 e2 e3 e4 e5 h7
  generalize ze7 S zaa n F v k Fuel 0 ⟨0,λ _=>default⟩=s at h9 ⊢
  generalize zhd zaa k=o at h9 ⊢
  generalize (zcT F).any (zwM k)=b
  cases b
  · refine And.intro rfl (fun h => ?_)
    obtain⟨x,hx⟩:=Option.isSome_iff_exists.1 (h.2 rfl)
    subst hx
    exact h9 x rfl
  · exact And.intro rfl (λ _=>rfl)
theorem zpu (y:List Int) (v:Sl (Sl Int)):(zrn zaa F y v).len=v.len+(cond (zc3 F y) 1 0):=by
  unfold zrn
  cases zc3 F y <;> rfl
theorem zCz (y:List Int) (r:List (List Int)):((y :: r).filter (zc3 F)).length=(cond (zc3 F y) 1 0)+(r.filter (zc3 F)).length:=by
  rw[List.filter_cons]
  cases zc3 F y
  · show _=0+_;rw[Nat.zero_add];rfl
  · show (_ :: _).length=1+_;rw[dqr,Nat.add_comm]
theorem zhK (ys:List (List Int)):∀ (v:Sl (Sl Int)),(zli zaa F ys v).len=v.len+(ys.filter (zc3 F)).length:=by
  induction ys with
  | nil=>intro v;rw[zq0,List.filter_nil,dqL,Nat.add_zero]
  | cons y r ih=>intro v;rw[zq1,ih,zpu,zCz,Nat.add_assoc]
theorem zTU (ys:List (List Int)):∀ (v:Sl (Sl Int)),zcK zaa n F ys v=true->(∀ y∈ys,zMd zaa n F y)/\(0 < (ys.filter (zc3 F)).length->(zli zaa F ys v).len * 24<=140737488355328)/\zgm zaa n F (zli zaa F ys v)=true:=by
  induction ys with
  | nil =>
    intro v h
    have e0:=zq0 zaa F v
    exact And.intro (λ y hy=>by cases hy) (And.intro (λ h=>absurd h (by simp)) (e0.symm ▸ h))
  | cons y r ih =>
    intro v h
    have e1:zcK zaa n F (y :: r) v=ziu zaa n F (y.getD 0 0) (zcK zaa n F r) v:=rfl
    have e:=zq1 zaa F y r v
    rw[e1,(zCy zaa n F (zcK zaa n F r) (zdp zaa n F r) y v).1,dqm] at h
    obtain⟨hk,h⟩:=h
    have key:zcK zaa n F r (zrn zaa F y v)=true/\(zc3 F y=true->(zhd zaa (y.getD 0 0)).isSome=true/\(v.len+1) * 24<=140737488355328):=by
      unfold zrn
      generalize zhd zaa (y.getD 0 0)=o at h ⊢
      generalize zcK zaa n F r=P at h ⊢
      cases hb:zc3 F y
      · rw [hb] at h
        exact And.intro h (λ e=>by cases e)
      · rw [hb] at h
        cases o with
        | none=>cases h
        | some x =>
          have h:(zQm v.len && P (zqR v x))=true:=h
          rw[dqm] at h
          exact And.intro h.2 (λ _=>And.intro rfl (of_decide_eq_true h.1).1)
    obtain⟨i1,i2,i3⟩:=ih _ key.1
    rw[e]
    refine⟨λ z hz=>?_,λ h0=>?_,i3⟩
    · rcases dqq.1 hz with rfl | hz
      · exact And.intro hk (λ e=>(key.2 e).1)
      · exact i1 z hz
    · by_cases h1 : 0 < (r.filter (zc3 F)).length
      · exact i2 h1
      · rw [zCz] at h0
        rw[zhK,zpu]
        cases hb:zc3 F y
        · rw [hb] at h0
          have h0:0 < 0+(r.filter (zc3 F)).length:=h0
          omega
        · have h2 := (key.2 hb).2
          show (v.len+1+_) * 24<=_
          have h3:(r.filter (zc3 F)).length=0:=by omega
          rw[h3,Nat.add_zero]
          exact h2
theorem zQn (ys:List (List Int)):∀ (v:Sl (Sl Int)),(∀ y∈ys,zMd zaa n F y)->(0 < (ys.filter (zc3 F)).length->(zli zaa F ys v).len * 24<=140737488355328)->zgm zaa n F (zli zaa F ys v)=true ->
    zcK zaa n F ys v=true/\zdp zaa n F ys v=zhf zaa n F (zli zaa F ys v):=by
  induction ys with
  | nil =>
    intro v _ _ h
    have e0:=zq0 zaa F v
    generalize zli zaa F [] v=w at h e0 ⊢
    subst e0
    exact And.intro h rfl
  | cons y r ih =>
    intro v hg hl he
    have hy:=hg y dqj
    have e1:zcK zaa n F (y :: r) v=ziu zaa n F (y.getD 0 0) (zcK zaa n F r) v:=rfl
    have e2:zdp zaa n F (y :: r) v=zjS zaa n F (y.getD 0 0) (zdp zaa n F r) v:=rfl
    have e:=zq1 zaa F y r v
    rw[e1,e2,(zCy zaa n F (zcK zaa n F r) (zdp zaa n F r) y v).1,(zCy zaa n F (zcK zaa n F r) (zdp zaa n F r) y v).2 hy,hy.1,Bool.true_and,e]
    rw[e] at hl he
    obtain⟨i1,i2⟩:=ih (zrn zaa F y v) (λ z hz=>hg z (dqf _ hz)) (λ h0=>hl (by rw[zCz];omega)) he
    refine And.intro ?_ i2
    have hy2:=hy.2
    unfold zrn at i1
    have hlen:zc3 F y=true->(v.len+1) * 24<=140737488355328:=λ hb=>by
      have h1:=hl (by rw[zCz,hb];show 0 < 1+_;omega)
      rw[zhK,zpu,hb] at h1
      have h1:(v.len+1+(r.filter (zc3 F)).length) * 24<=140737488355328:=h1
      omega
    clear hl he i2 e1 e2 e
    generalize zhd zaa (y.getD 0 0)=o at i1 hy2 ⊢
    generalize zcK zaa n F r=P at i1 ⊢
    cases hb:zc3 F y
    · rw[hb] at i1;exact i1
    · obtain ⟨x, hx⟩ := Option.isSome_iff_exists.1 (hy2 hb)
      subst hx
      rw[hb] at i1
      have h2:=hlen hb
      show (zQm v.len && P (zqR v x))=true
      have h3:zQm v.len=true:=decide_eq_true (And.intro h2 (by omega))
      rw[h3,Bool.true_and]
      exact i1
theorem zFc (x:Sl Int) (v:Sl (Sl Int)) (L:List (Sl Int)) (h:IsL v.len v.get L):IsL (zqR v x).len (zqR v x).get (L ++ [x]):=by
  obtain⟨h1,h2⟩:=h
  refine And.intro ?_ (λ k hk=>?_)
  · show v.len + 1 = _
    rw[dqu,List.length_singleton,h1]
  · show (match Nat.ble v.len k with | true => x | false => v.get k) = _
    rw[dqu,List.length_singleton] at hk
    by_cases hq:k < L.length
    · have e : Nat.ble v.len k = false := Bool.eq_false_iff.2 fun e => by have := Nat.le_of_ble_eq_true e; omega
      rw[e,List.getElem_append_left hq]
      exact h2 k hq
    · have e : Nat.ble v.len k = true := Nat.ble_eq_true_of_le (by omega)
      rw[e,List.getElem_append_right (by omega)]
      simp
theorem ztq (ys:List (List Int)):∀ (v:Sl (Sl Int)) (L:List (Sl Int)),IsL v.len v.get L->IsL (zli zaa F ys v).len (zli zaa F ys v).get (L ++ (ys.filter (zc3 F)).map λ y=>(zhd zaa (y.getD 0 0)).getD default):=by
  induction ys with
  | nil =>
    intro v L h
    have e:=zq0 zaa F v
    rw[e,List.filter_nil,List.map_nil,List.append_nil];exact h
  | cons y r ih =>
    intro v L h
    have e:=zq1 zaa F y r v
    rw[e,List.filter_cons]
    cases hb:zc3 F y
    · have e2 : zrn zaa F y v = v := by unfold zrn; rw [hb]; rfl
      rw[e2]
      exact ih v L h
    · have e2 : zrn zaa F y v = zqR v ((zhd zaa (y.getD 0 0)).getD default) := by unfold zrn; rw [hb]; rfl
      rw[e2,if_pos rfl,dqK,List.append_cons]
      exact ih _ _ (zFc _ v L h)
theorem zvz (ys:List (List Int)):∀ (v:Sl (Sl Int)),(ys.filter (zc3 F)).length=0->zli zaa F ys v=v:=by
  induction ys with
  | nil =>
    intro v _
    exact zq0 zaa F v
  | cons y r ih =>
    intro v h
    have e:=zq1 zaa F y r v
    rw[zCz] at h
    cases hb:zc3 F y
    · have e2 : zrn zaa F y v = v := by unfold zrn; rw [hb]; rfl
      rw[e,e2]
      exact ih v (by omega)
    · rw [hb] at h
      have h:1+(r.filter (zc3 F)).length=0:=h
      omega
theorem zKO (ys zs : List (List Int)) (_hl : ∀ y ∈ ys, y.length = 1) (_h : zhg zaa n F ys = true) (hp : ys.Perm zs) :
    zhg zaa n F zs=true/\∀ v:Sl (Sl Int),zcK zaa n F ys v=true->zcK zaa n F zs v=true/\zdp zaa n F ys v=zdp zaa n F zs v:=by
  refine And.intro rfl (λ v hs=>?_)
  obtain⟨a1,a2,a3⟩:=zTU zaa n F ys v hs
  obtain⟨_,a4⟩:=zQn zaa n F ys v a1 a2 a3
  have hpf:=hp.filter (zc3 F)
  have b1:∀ z∈zs,zMd zaa n F z:=λ z hz=>a1 z (hp.mem_iff.2 hz)
  have hlen:(zli zaa F zs v).len=(zli zaa F ys v).len:=by rw[zhK,zhK,hpf.length_eq]
  have b2:0 < (zs.filter (zc3 F)).length->(zli zaa F zs v).len * 24<=140737488355328:=λ h=>by rw[hlen];exact a2 (by rw[hpf.length_eq];exact h)
  rw[a4]
  by_cases h0:(ys.filter (zc3 F)).length=0
  · have e1 := zvz zaa F ys v h0
    have e2:=zvz zaa F zs v (by rw[<- hpf.length_eq];exact h0)
    rw[e1] at a3 ⊢
    obtain⟨c1,c2⟩:=zQn zaa n F zs v b1 b2 (by rw[e2];exact a3)
    exact And.intro c1 (by rw[c2,e2])
  · have hL : IsL v.len v.get ((List.range v.len).map v.get) := And.intro (by simp) (fun k hk => by simp)
    have i1:=ztq zaa F ys v _ hL
    have i2:=ztq zaa F zs v _ hL
    have hpp:=(List.Perm.refl ((List.range v.len).map v.get)).append (hpf.map λ y=>(zhd zaa (y.getD 0 0)).getD default)
    have hm:0 < (zli zaa F ys v).len:=by rw[zhK];omega
    have key:zgm zaa n F (zli zaa F zs v)=true/\zhf zaa n F (zli zaa F ys v)=zhf zaa n F (zli zaa F zs v):=by
      clear a1 a2 a4 b1 b2 hL hs
      generalize zli zaa F ys v=a at i1 hlen a3 hm ⊢
      generalize zli zaa F zs v=b at i2 hlen ⊢
      generalize (List.range v.len).map v.get ++ _=L1 at i1 hpp
      generalize (List.range v.len).map v.get ++ _=L2 at i2 hpp
      obtain⟨am,ag⟩:=a
      obtain⟨bm,bg⟩:=b
      have hlen:bm=am:=hlen
      subst hlen
      unfold zgm at a3 ⊢
      unfold zhf
      rw[Bool.and_true] at a3 ⊢
      have a3:=of_decide_eq_true a3
      have hso:=zO1 (c0:=s59) (p0:=λ x y=>decide (p59 x y=true)) i1 a3.2
      refine⟨decide_eq_true ⟨a3.1,zvx i2 (hso.perm hpp)⟩,?_⟩
      rw[zO2 i1 i2 hpp hso hm]
    obtain⟨c1,c2⟩:=zQn zaa n F zs v b1 b2 key.1
    exact And.intro c1 (by rw[c2,key.2])
end ord6
def ztr (zaa:(Sl Gate)) (zad:Nat) (zac:(List Int->Option (List Int))) (zao:(Sl (Sl Int))):(Sl (Sl Int)):=zdp zaa zad zac (zcT zac) zao
def zts (zaa:(Sl Gate)) (zad:Nat) (zac:(List Int->Option (List Int))) (zao:(Sl (Sl Int))):Bool:=keysB 1 zad zac (zcT zac) && zhg zaa zad zac (zcT zac) && zcK zaa zad zac (zcT zac) zao
theorem zKP (K:List PA->Prop) (zaa:(Sl Gate)) (zad:Nat) (zac:(List Int->Option (List Int))) (zao:(Sl (Sl Int))) (za1:Nat->List PV) (zdi:za1=λ i=>zar (zao.get i)) (hs:zts zaa zad zac zao=true) (hk:K (e30 (ztr zaa zad zac zao))):zmW K zaa zad zac [] zao.len za1:=by
  unfold zts at hs
  rw[dqm,dqm] at hs
  obtain⟨⟨hkeys,hI⟩,hs⟩:=hs
  have ek:ztr zaa zad zac zao=zdp zaa zad zac (zcT zac) zao:=rfl
  rw[ek] at hk
  generalize hys:zcT zac=ys0 at hkeys hI hs hk
  refine zCr K zaa zad zac [] zao.len za1 ?_
  intro X6 hstep
  have key:∀ (N:Nat) (ys:List (List Int)) (zak:List (List Int)) (zao:(Sl (Sl Int))) (za1:Nat->List PV) (zdi:za1=λ i=>zar (zao.get i)),ys.length=N->(zDY 1 zad zac->zHS 1 zac zak ys)->zhg zaa zad zac ys=true->zcK zaa zad zac ys zao=true->K (e30 (zdp zaa zad zac ys zao))->X6 (zhe zaa zad zac zak zao.len za1):=by
    intro N
    induction N with
    | zero =>
      intro ys zak zao za1 zdi hN hrem hI hs hk
      subst zdi
      obtain rfl:=List.eq_nil_of_length_eq_zero hN
      refine hstep zak zao ?_
      intro hfin
      have hrem:=hrem hfin
      refine⟨λ _=>?_,λ k73_0 hF hns=>absurd (hrem.2.2 [k73_0] rfl hF hns) (by simp)⟩
      have hs:zgm zaa zad zac zao=true:=hs
      have hk:K (e30 (zhf zaa zad zac zao)):=hk
      unfold zgm at hs
      unfold zhf at hk
      exact (zaI hs λ hc hs=>⟨⟨(hc.1),(zoY (hc.2) (λ i j h=>zO3 _ i j (of_decide_eq_true h)) (zO4 _))⟩,hk⟩)
    | succ N ih =>
      intro ys zak zao za1 zdi hN hrem hI hs hk
      subst zdi
      refine hstep zak zao ?_
      intro hfin
      have hrem:=hrem hfin
      refine⟨λ hend=>?_,λ k73_0 hF hns=>?_⟩
      · exact absurd (zr7 hrem hend) (λ e=>by rw[e] at hN;simp at hN)
      · obtain ⟨hperm, hrem2, hlen⟩ := zoZ hrem (c := [k73_0]) rfl hF hns
        obtain⟨hI2,hcond⟩:=zKO zaa zad zac ys _ (λ y hy=>(hrem.2.1 y hy).1) hI hperm
        have hI3:=zKM zaa zad zac _ _ hI2
        obtain⟨e2,e1⟩:=hcond zao hs
        have hs:=e2
        rw[e1] at hk
        have en:zcK zaa zad zac ([k73_0] :: ys.erase [k73_0]) zao=ziu zaa zad zac k73_0 (zcK zaa zad zac (ys.erase [k73_0])) zao:=rfl
        rw[en] at hs
        have en:zdp zaa zad zac ([k73_0] :: ys.erase [k73_0]) zao=zjS zaa zad zac k73_0 (zdp zaa zad zac (ys.erase [k73_0])) zao:=rfl
        rw[en] at hk
        have ih:=λ (zao:(Sl (Sl Int))) (za1:Nat->List PV) (zdi:za1=λ i=>zar (zao.get i))=>ih (ys.erase [k73_0]) ([k73_0] :: zak) zao za1 zdi (by omega) (λ _=>hrem2) hI3
        unfold ziu at hs
        unfold zjS at hk
        generalize zdp zaa zad zac (ys.erase [k73_0])=S6 at hk ih
        generalize zcK zaa zad zac (ys.erase [k73_0])=P6 at hs ih
        have hX6:=ih
        exact (zKL K zaa zad zac zak k73_0 X6 P6 S6 hX6 zao (λ i=>zar (zao.get i)) rfl hs hk)
  exact key _ ys0 [] zao za1 zdi rfl (λ hf=>zmb hkeys hf) hI hs hk
def ziv (S3:Nat->(List Int->Option (List Int))->(Sl (Sl Int))) (zaa:(Sl Gate)) (y3:straight) (S5:Int->Int->Nat->(List Int->Option (List Int))->(Sl (Sl Int))) (zbc:Int) (zbI:Int) (zaU:Nat) (zaO:(List Int->Option (List Int))):(Sl (Sl Int)) :=
  (cond (decide (zbI < (zaa.len : Int)))
 (cond (s57 y3 (zaa.get zbI.toNat))
 (S5 (orW .i64 zbc (zv6 .i64 (1:Int) zbI)) (w64 (zbI+(1:Int))) zaU zaO)
 (S5 zbc (w64 (zbI+(1:Int))) zaU zaO))
 (S3 (addN (zaO [zbc]) zaU) (zhO [zbc] [1] zaO)))
def ziw (P3:Nat->(List Int->Option (List Int))->Bool) (zaa:(Sl Gate)) (y3:straight) (P5:Int->Int->Nat->(List Int->Option (List Int))->Bool) (zbc:Int) (zbI:Int) (zaU:Nat) (zaO:(List Int->Option (List Int))):Bool :=
  (cond (decide (zbI < (zaa.len : Int)))
 (decide ((0<=zbI/\zbI < (zaa.len:Int))) &&
 (cond (s57 y3 (zaa.get zbI.toNat))
 (decide ((0<=zbI)) &&
 (P5 (orW .i64 zbc (zv6 .i64 (1:Int) zbI)) (w64 (zbI+(1:Int))) zaU zaO))
 (P5 zbc (w64 (zbI+(1:Int))) zaU zaO)))
 (P3 (addN (zaO [zbc]) zaU) (zhO [zbc] [1] zaO)))
def zfy (S3 : Nat → (List Int → Option (List Int)) → (Sl (Sl Int))) (zaa : (Sl Gate)) (y3 : straight) : Nat → Int → Int → Nat → (List Int → Option (List Int)) → (Sl (Sl Int))
  | 0=>λ _ _ _ _=>default
  | k+1=>ziv S3 zaa y3 (zfy S3 zaa y3 k)
def zfz (P3 : Nat → (List Int → Option (List Int)) → Bool) (zaa : (Sl Gate)) (y3 : straight) : Nat → Int → Int → Nat → (List Int → Option (List Int)) → Bool
  | 0=>λ _ _ _ _=>false
  | k+1=>ziw P3 zaa y3 (zfz P3 zaa y3 k)
def zCA (S3:Nat->(List Int->Option (List Int))->(Sl (Sl Int))) (zaa:(Sl Gate)) (y3:straight) (zbc:Int) (zbI:Int) (zaU:Nat) (zaO:(List Int->Option (List Int))):(Sl (Sl Int)):=zfy S3 zaa y3 Fuel zbc zbI zaU zaO
def zCB (P3:Nat->(List Int->Option (List Int))->Bool) (zaa:(Sl Gate)) (y3:straight) (zbc:Int) (zbI:Int) (zaU:Nat) (zaO:(List Int->Option (List Int))):Bool:=zfz P3 zaa y3 Fuel zbc zbI zaU zaO
theorem zKQ (K : List PA → Prop) (zaa : (Sl Gate)) (y3 : straight)
  (X3:List (List PA)->St->Prop) (rest3:List (List PA)) (P3:Nat->(List Int->Option (List Int))->Bool) (S3:Nat->(List Int->Option (List Int))->(Sl (Sl Int)))
  (hX3:∀ (zaF:Nat) (zaG:(List Int->Option (List Int))),P3 zaF zaG=true->K (e30 (S3 zaF zaG))->X3 rest3 (zhY zaa zaF zaG)) (zbc:Int) (zbI:Int) (zaU:Nat) (zaO:(List Int->Option (List Int))) (hs:zCB P3 zaa y3 zbc zbI zaU zaO=true) (hk:K (e30 (zCA S3 zaa y3 zbc zbI zaU zaO))):zmV K X3 rest3 zaa y3 zbc zbI zaU zaO:=by
  refine zCq K X3 rest3 zaa y3 zbc zbI zaU zaO ?_
  intro X5 hstep
  have key:∀ (k:Nat) (zbc:Int) (zbI:Int) (zaU:Nat) (zaO:(List Int->Option (List Int))),zfz P3 zaa y3 k zbc zbI zaU zaO=true->K (e30 (zfy S3 zaa y3 k zbc zbI zaU zaO))->X5 (zkK zaa y3 zbc zbI zaU zaO):=by
    intro k
    induction k with
    | zero=>intro zbc zbI zaU zaO hs;exact absurd hs dqk
    | succ k ih =>
      intro zbc zbI zaU zaO hs hk
      refine hstep zbc zbI zaU zaO ?_
      have hs:ziw P3 zaa y3 (zfz P3 zaa y3 k) zbc zbI zaU zaO=true:=hs
      have hk:K (e30 (ziv S3 zaa y3 (zfy S3 zaa y3 k) zbc zbI zaU zaO)):=hk
      unfold ziw at hs
      unfold ziv at hk
      generalize zfy S3 zaa y3 k=S5 at hk ih
      generalize zfz P3 zaa y3 k=P5 at hs ih
      have hX5:=ih
      exact (zb8 (K := λ r => K (e30 r))
 (λ hs hk => (zaI hs λ hc hs => ⟨hc, (zb8 (K := λ r => K (e30 r))
 (λ hs hk=>(zaI hs λ hc hs=>⟨hc,(hX5 (orW .i64 zbc (zv6 .i64 (1:Int) zbI)) (w64 (zbI+(1:Int))) zaU zaO hs hk)⟩))
 (λ hs hk=>(hX5 zbc (w64 (zbI+(1:Int))) zaU zaO hs hk)) hs hk)⟩))
 (fun hs hk=>(hX3 (addN (zaO [zbc]) zaU) (zhO [zbc] [1] zaO) hs hk)) hs hk)
  exact key _ zbc zbI zaU zaO hs hk
def zhh (zaa:(Sl Gate)) (zad:Nat) (zac:(List Int->Option (List Int))):(Sl (Sl Int)) :=
  (ztr zaa zad zac (⟨0,(λ _=>default)⟩:Sl (Sl Int)))
def zhi (zaa:(Sl Gate)) (zad:Nat) (zac:(List Int->Option (List Int))):Bool :=
  (zts zaa zad zac (⟨0,(λ _=>default)⟩:Sl (Sl Int)))
theorem zKR (K:List PA->Prop) (zaa:(Sl Gate)) (zad:Nat) (zac:(List Int->Option (List Int))) (hs:zhi zaa zad zac=true) (hk:K (e30 (zhh zaa zad zac))):zps K zaa zad zac:=by
  refine zaM (zKF K zaa zad zac) ?_
  unfold zhi at hs
  unfold zhh at hk
  exact (zKP K zaa zad zac (⟨0,(λ _=>default)⟩:Sl (Sl Int)) (λ i=>zar ((λ _=>default) i)) rfl hs hk)
def ztt (zaa:(Sl Gate)) (zaF:Nat) (zaG:(List Int->Option (List Int))):(Sl (Sl Int)) :=
  (zhh zaa zaF zaG)
def ztu (zaa:(Sl Gate)) (zaF:Nat) (zaG:(List Int->Option (List Int))):Bool :=
  (zhi zaa zaF zaG)
def ztv (zaa:(Sl Gate)) (y3:straight) (S3:Nat->(List Int->Option (List Int))->(Sl (Sl Int))) (zaF:Nat) (zaG:(List Int->Option (List Int))):(Sl (Sl Int)) :=
  (zCA S3 zaa y3 (0:Int) (0:Int) zaF zaG)
def ztw (zaa:(Sl Gate)) (y3:straight) (P3:Nat->(List Int->Option (List Int))->Bool) (zaF:Nat) (zaG:(List Int->Option (List Int))):Bool :=
  (zCB P3 zaa y3 (0:Int) (0:Int) zaF zaG)
def zgn (zaa : (Sl Gate)) : List straight → Nat → (List Int → Option (List Int)) → (Sl (Sl Int))
  | []=>ztt zaa
  | y :: r=>ztv zaa y (zgn zaa r)
def zgo (zaa : (Sl Gate)) : List straight → Nat → (List Int → Option (List Int)) → Bool
  | []=>ztu zaa
  | y :: r=>ztw zaa y (zgo zaa r)
def zCC (zaa:(Sl Gate)) (zaF:Nat) (zaG:(List Int->Option (List Int))):(Sl (Sl Int)):=zgn zaa (s77 (⟨zaa⟩:list)) zaF zaG
def ztx (zaa:(Sl Gate)) (zaF:Nat) (zaG:(List Int->Option (List Int))):Bool:=decide ((p77 (⟨zaa⟩:list)=true)) && zgo zaa (s77 (⟨zaa⟩:list)) zaF zaG
theorem zKS (K:List PA->Prop) (zaa:(Sl Gate)) (zaF:Nat) (zaG:(List Int->Option (List Int))) (hs:ztx zaa zaF zaG=true) (hk:K (e30 (zCC zaa zaF zaG))):zmU K zaa zaF zaG:=by
  unfold ztx at hs
  rw[dqm] at hs
  obtain⟨hsf,hs⟩:=hs
  have hc:=of_decide_eq_true hsf
  refine zCp K zaa zaF zaG ⟨isE,hc⟩ ?_
  intro X3 hexit hstep
  have key:∀ (l:List straight) (zaF:Nat) (zaG:(List Int->Option (List Int))),zgo zaa l zaF zaG=true->K (e30 (zgn zaa l zaF zaG))->X3 (l.map λ y=>[.agg (zaA y)]) (zhY zaa zaF zaG):=by
    intro l
    induction l with
    | nil =>
      intro zaF zaG hs hk
      refine hexit zaF zaG ?_
      have hs:ztu zaa zaF zaG=true:=hs
      have hk:K (e30 (ztt zaa zaF zaG)):=hk
      unfold ztu at hs
      unfold ztt at hk
      exact (zKR K zaa zaF zaG hs hk)
    | cons y3 l ih =>
      intro zaF zaG hs hk
      refine hstep y3 _ zaF zaG ?_
      have hs:ztw zaa y3 (zgo zaa l) zaF zaG=true:=hs
      have hk:K (e30 (ztv zaa y3 (zgn zaa l) zaF zaG)):=hk
      unfold ztw at hs
      unfold ztv at hk
      generalize zgn zaa l=S3 at hk ih
      generalize zgo zaa l=P3 at hs ih
      have hX3:=ih
      exact (zKQ K zaa y3 X3 _ P3 S3 hX3 (0:Int) (0:Int) zaF zaG hs hk)
  exact key _ zaF zaG hs hk
def zix (S0:Int->Nat->(List Int->Option (List Int))->(Sl (Sl Int))) (zaa:(Sl Gate)) (S2:Int->Int->Int->Int->Int->Int->Nat->(List Int->Option (List Int))->(Sl (Sl Int))) (zbb:Int) (zbR:Int) (zbD:Int) (zcx:Int) (zcq:Int) (zcy:Int) (zaT:Nat) (zaN:(List Int->Option (List Int))):(Sl (Sl Int)) :=
  (cond (decide (zbD < (zaa.len : Int)))
 (cond (s44 zcq ((zaa.get zbD.toNat).Low) ((zaa.get zbD.toNat).High))
 (S2 (orW .i64 zbb (zv6 .i64 (1:Int) zbD)) zbR (w64 (zbD+(1:Int))) zcx zcq zcy zaT zaN)
 (S2 zbb zbR (w64 (zbD+(1:Int))) zcx zcq zcy zaT zaN))
 (S0 (w64 (zbR+(1:Int))) (addN (zaN [zbb]) zaT) (zhO [zbb] [1] zaN)))
def ziy (P0:Int->Nat->(List Int->Option (List Int))->Bool) (zaa:(Sl Gate)) (P2:Int->Int->Int->Int->Int->Int->Nat->(List Int->Option (List Int))->Bool) (zbb:Int) (zbR:Int) (zbD:Int) (zcx:Int) (zcq:Int) (zcy:Int) (zaT:Nat) (zaN:(List Int->Option (List Int))):Bool :=
  (cond (decide (zbD < (zaa.len : Int)))
 (decide ((0<=zbD/\zbD < (zaa.len:Int))) &&
 (cond (s44 zcq ((zaa.get zbD.toNat).Low) ((zaa.get zbD.toNat).High))
 (decide ((0<=zbD)) &&
 (P2 (orW .i64 zbb (zv6 .i64 (1:Int) zbD)) zbR (w64 (zbD+(1:Int))) zcx zcq zcy zaT zaN))
 (P2 zbb zbR (w64 (zbD+(1:Int))) zcx zcq zcy zaT zaN)))
 (P0 (w64 (zbR+(1:Int))) (addN (zaN [zbb]) zaT) (zhO [zbb] [1] zaN)))
def zfa (S0 : Int → Nat → (List Int → Option (List Int)) → (Sl (Sl Int))) (zaa : (Sl Gate)) : Nat → Int → Int → Int → Int → Int → Int → Nat → (List Int → Option (List Int)) → (Sl (Sl Int))
  | 0=>λ _ _ _ _ _ _ _ _=>default
  | k+1=>zix S0 zaa (zfa S0 zaa k)
def zfb (P0 : Int → Nat → (List Int → Option (List Int)) → Bool) (zaa : (Sl Gate)) : Nat → Int → Int → Int → Int → Int → Int → Nat → (List Int → Option (List Int)) → Bool
  | 0=>λ _ _ _ _ _ _ _ _=>false
  | k+1=>ziy P0 zaa (zfb P0 zaa k)
def zCD (S0:Int->Nat->(List Int->Option (List Int))->(Sl (Sl Int))) (zaa:(Sl Gate)) (zbb:Int) (zbR:Int) (zbD:Int) (zcx:Int) (zcq:Int) (zcy:Int) (zaT:Nat) (zaN:(List Int->Option (List Int))):(Sl (Sl Int)):=zfa S0 zaa Fuel zbb zbR zbD zcx zcq zcy zaT zaN
def zCE (P0:Int->Nat->(List Int->Option (List Int))->Bool) (zaa:(Sl Gate)) (zbb:Int) (zbR:Int) (zbD:Int) (zcx:Int) (zcq:Int) (zcy:Int) (zaT:Nat) (zaN:(List Int->Option (List Int))):Bool:=zfb P0 zaa Fuel zbb zbR zbD zcx zcq zcy zaT zaN
theorem zKT (K : List PA → Prop) (zaa : (Sl Gate))
  (X0:St->Prop) (P0:Int->Nat->(List Int->Option (List Int))->Bool) (S0:Int->Nat->(List Int->Option (List Int))->(Sl (Sl Int)))
  (hX0:∀ (zbC:Int) (zaR:Nat) (zaS:(List Int->Option (List Int))),P0 zbC zaR zaS=true->K (e30 (S0 zbC zaR zaS))->X0 (zkI zaa zbC zaR zaS)) (zbb:Int) (zbR:Int) (zbD:Int) (zcx:Int) (zcq:Int) (zcy:Int) (zaT:Nat) (zaN:(List Int->Option (List Int))) (hs:zCE P0 zaa zbb zbR zbD zcx zcq zcy zaT zaN=true) (hk:K (e30 (zCD S0 zaa zbb zbR zbD zcx zcq zcy zaT zaN))):zmT K X0 zaa zbb zbR zbD zcx zcq zcy zaT zaN:=by
  refine zCo K X0 zaa zbb zbR zbD zcx zcq zcy zaT zaN ?_
  intro X2 hstep
  have key:∀ (k:Nat) (zbb:Int) (zbR:Int) (zbD:Int) (zcx:Int) (zcq:Int) (zcy:Int) (zaT:Nat) (zaN:(List Int->Option (List Int))),zfb P0 zaa k zbb zbR zbD zcx zcq zcy zaT zaN=true->K (e30 (zfa S0 zaa k zbb zbR zbD zcx zcq zcy zaT zaN))->X2 (zkJ zaa zbb zbR zbD zcx zcq zcy zaT zaN):=by
    intro k
    induction k with
    | zero=>intro zbb zbR zbD zcx zcq zcy zaT zaN hs;exact absurd hs dqk
    | succ k ih =>
      intro zbb zbR zbD zcx zcq zcy zaT zaN hs hk
      refine hstep zbb zbR zbD zcx zcq zcy zaT zaN ?_
      have hs:ziy P0 zaa (zfb P0 zaa k) zbb zbR zbD zcx zcq zcy zaT zaN=true:=hs
      have hk:K (e30 (zix S0 zaa (zfa S0 zaa k) zbb zbR zbD zcx zcq zcy zaT zaN)):=hk
      unfold ziy at hs
      unfold zix at hk
      generalize zfa S0 zaa k=S2 at hk ih
      generalize zfb P0 zaa k=P2 at hs ih
      have hX2:=ih
      exact (zb8 (K := λ r => K (e30 r))
 (λ hs hk => (zaI hs λ hc hs => ⟨hc, (zb8 (K := λ r => K (e30 r))
 (λ hs hk=>(zaI hs λ hc hs=>⟨hc,(hX2 (orW .i64 zbb (zv6 .i64 (1:Int) zbD)) zbR (w64 (zbD+(1:Int))) zcx zcq zcy zaT zaN hs hk)⟩))
 (λ hs hk=>(hX2 zbb zbR (w64 (zbD+(1:Int))) zcx zcq zcy zaT zaN hs hk)) hs hk)⟩))
 (fun hs hk=>(hX0 (w64 (zbR+(1:Int))) (addN (zaN [zbb]) zaT) (zhO [zbb] [1] zaN) hs hk)) hs hk)
  exact key _ zbb zbR zbD zcx zcq zcy zaT zaN hs hk
def zhj (zaa:(Sl Gate)) (zdn:Nat) (zdo:(List Int->Option (List Int))):(Sl (Sl Int)) :=
  (zCC zaa zdn zdo)
def zhk (zaa:(Sl Gate)) (zdn:Nat) (zdo:(List Int->Option (List Int))):Bool :=
  (ztx zaa zdn zdo)
theorem zCF (K:List PA->Prop) (zaa:(Sl Gate)) (zdn:Nat) (zdo:(List Int->Option (List Int))) (hs:zhk zaa zdn zdo=true) (hk:K (e30 (zhj zaa zdn zdo))):zmS K zaa zdn zdo:=by
  refine zaM (zKE K zaa zdn zdo) ?_
  unfold zhk at hs
  unfold zhj at hk
  exact⟨isE,(zKS K zaa zdn zdo hs hk)⟩
def ziz (zaa:(Sl Gate)) (S0:Int->Nat->(List Int->Option (List Int))->(Sl (Sl Int))) (zbC:Int) (zaR:Nat) (zaS:(List Int->Option (List Int))):(Sl (Sl Int)) :=
  (cond (decide (zbC < (zaa.len : Int)))
 (zCD S0 zaa (0:Int) zbC (0:Int) ((zaa.get zbC.toNat).Z) ((zaa.get zbC.toNat).Low) ((zaa.get zbC.toNat).High) zaR zaS)
 (zhj zaa zaR zaS))
def ziA (zaa:(Sl Gate)) (P0:Int->Nat->(List Int->Option (List Int))->Bool) (zbC:Int) (zaR:Nat) (zaS:(List Int->Option (List Int))):Bool :=
  (cond (decide (zbC < (zaa.len : Int)))
 (decide ((0<=zbC/\zbC < (zaa.len:Int))) &&
 (zCE P0 zaa (0:Int) zbC (0:Int) ((zaa.get zbC.toNat).Z) ((zaa.get zbC.toNat).Low) ((zaa.get zbC.toNat).High) zaR zaS))
 (zhk zaa zaR zaS))
def zez (zaa : (Sl Gate)) : Nat → Int → Nat → (List Int → Option (List Int)) → (Sl (Sl Int))
  | 0=>λ _ _ _=>default
  | k+1=>ziz zaa (zez zaa k)
def zeA (zaa : (Sl Gate)) : Nat → Int → Nat → (List Int → Option (List Int)) → Bool
  | 0=>λ _ _ _=>false
  | k+1=>ziA zaa (zeA zaa k)
def zty (zaa:(Sl Gate)) (zbC:Int) (zaR:Nat) (zaS:(List Int->Option (List Int))):(Sl (Sl Int)):=zez zaa Fuel zbC zaR zaS
def ztz (zaa:(Sl Gate)) (zbC:Int) (zaR:Nat) (zaS:(List Int->Option (List Int))):Bool:=zeA zaa Fuel zbC zaR zaS
theorem zKU (K:List PA->Prop) (zaa:(Sl Gate)) (zbC:Int) (zaR:Nat) (zaS:(List Int->Option (List Int))) (hs:ztz zaa zbC zaR zaS=true) (hk:K (e30 (zty zaa zbC zaR zaS))):zmR K zaa zbC zaR zaS:=by
  refine zCn K zaa zbC zaR zaS ?_
  intro X0 hstep
  have key:∀ (k:Nat) (zbC:Int) (zaR:Nat) (zaS:(List Int->Option (List Int))),zeA zaa k zbC zaR zaS=true->K (e30 (zez zaa k zbC zaR zaS))->X0 (zkI zaa zbC zaR zaS):=by
    intro k
    induction k with
    | zero=>intro zbC zaR zaS hs;exact absurd hs dqk
    | succ k ih =>
      intro zbC zaR zaS hs hk
      refine hstep zbC zaR zaS ?_
      have hs:ziA zaa (zeA zaa k) zbC zaR zaS=true:=hs
      have hk:K (e30 (ziz zaa (zez zaa k) zbC zaR zaS)):=hk
      unfold ziA at hs
      unfold ziz at hk
      generalize zez zaa k=S0 at hk ih
      generalize zeA zaa k=P0 at hs ih
      have hX0:=ih
      exact (zb8 (K := λ r => K (e30 r))
 (λ hs hk=>(zaI hs λ hc hs=>⟨hc,(zKT K zaa X0 P0 S0 hX0 (0:Int) zbC (0:Int) ((zaa.get zbC.toNat).Z) ((zaa.get zbC.toNat).Low) ((zaa.get zbC.toNat).High) zaR zaS hs hk)⟩))
 (fun hs hk=>(zCF K zaa zaR zaS hs hk)) hs hk)
  exact key _ zbC zaR zaS hs hk
def s30 (zaa:(Sl Gate)):(Sl (Sl Int)) :=
  (cond (s49 (⟨zaa⟩ : list))
 (zty zaa (0:Int) 0 (λ _=>none))
 (zhj zaa 0 (λ _=>none)))
def p30 (zaa:(Sl Gate)):Bool :=
  (decide ((p49 (⟨zaa⟩:list)=true)) &&
 (cond (s49 (⟨zaa⟩ : list))
 (ztz zaa (0:Int) 0 (λ _=>none))
 (zhk zaa 0 (λ _=>none))))
theorem q30 (zaa:(Sl Gate)) (K:List PA->Prop) (hs:p30 zaa=true) (hk:K (e30 (s30 zaa))):zw3 Tryz.prog G30 za2 30 [.one (.sl zaa.len 3 (λ i=>enc_48 (zaa.get i)))] 24 1 24 K:=by
  refine zaM (zKD zaa K) ?_
  unfold p30 at hs
  unfold s30 at hk
  exact (zaI hs λ hc hs => ⟨⟨isE, hc⟩, (zb8 (K := λ r => K (e30 r))
 (λ hs hk=>(zKU K zaa (0:Int) 0 (λ _=>none) hs hk))
 (λ hs hk=>(zCF K zaa 0 (λ _=>none) hs hk)) hs hk)⟩)
abbrev zKV : OwnK := .mkv 24 1 24 fun
  | [.one (.sl zaK zbW zaL)]=>some (IsE enc_48 3 zbW zaL/\p30 (⟨zaK,zaf zaL⟩:(Sl Gate))=true,((s30 (⟨zaK,zaf zaL⟩:(Sl Gate))).len),(λ i=>zar ((s30 (⟨zaK,zaf zaL⟩:(Sl Gate))).get i)),[])
  | _=>none
theorem zO9:zah Tryz.prog 30:=⟨_,rfl,rfl,by kernel_rfl⟩
theorem zSO:zhQ Tryz.prog 30 zKV:=zHQ zRV zO9 λ az p n get rs h hs=>by
  split at h
  · rename_i zaK zbW zaL
    cases h
    obtain⟨⟨rfl,zbn,rfl⟩,hs⟩:=hs
    try rw[zae zbn] at hs
    try rw[zae zbn]
    exact⟨_,λ _ _ h=>h,(λ _ _=>[]),(λ l=>Nat.beq l 21),za2,q30 (⟨zaK,zbn⟩:(Sl Gate)) _ hs rfl⟩
  · cases h
abbrev T6:Tabs:=(((Tabs.nil.addF 28 zqA).addF 29 zKw).addO 30 zKV)
theorem zTV:TabsOk Tryz.prog T6:=(((TabsOk.nil.addF zMa).addF zTR).addO zSO)
abbrev G6:Ctrs:=csm T6 (λ _ _=>[]) (λ _=>false)
def zSP:Ann:=⟨10,[(0,zK [0] []),(1,zK [0,6] []),(2,zK [2,3] []),(3,zK [2,3] [])],
 [],
 [],
 [],[]⟩
abbrev R6:=((Sl Int)×Int)
abbrev e6 (r:R6):List PA:=[.one (.sl r.1.len 1 (λ i=>zam (r.1.get i))),.one (.int .i64 r.2)]
section
variable {K:List PA->Prop}{zaa:(Sl Gate)}
def s6 (zaa:(Sl Gate)):((Sl Int)×Int) :=
  (cond (!(s28 zaa))
 ((⟨0,λ _=>default⟩:(Sl Int)),(2:Int))
 ((s29 (s30 zaa)),(0:Int)))
def p6 (zaa:(Sl Gate)):Bool :=
  (decide ((p28 zaa=true)) &&
 (cond (!(s28 zaa))
 true
 (decide ((p30 zaa=true)) &&
 (decide ((p29 (s30 zaa)=true)) &&
 true))))
end
theorem q6 (zaa:(Sl Gate)) (K:List PA->Prop) (hs:p6 zaa=true) (hk:K (e6 (s6 zaa))):vcFun Tryz.prog G6 zSP 6 [.one (.sl zaa.len 3 (λ i=>enc_48 (zaa.get i)))] (Wk K) :=
  zaM (by kernel_rfl) (zaI hs λ hc hs=>And.intro (And.intro (zE enc_48 3 zaa.get) hc) (zc hs hk (λ hs hk=>((wk hk (zfn (.one (.nil _ _)) (zfn (.one (.rfl _)) zma))):Wk K [.one (.nils),.one (.int .i64 (2:Int))])) (λ hs hk=>(zaI hs λ hc hs=>And.intro (⟨⟨isE,hc⟩,trivial,rfl⟩:(IsE enc_48 3 3 (λ i=>enc_48 (zaa.get i))/\(p30 zaa=true))/\zui (λ i=>zar ((s30 zaa).get i)) []/\([]:List PV).all zgF=true) (zaI hs λ hc hs=>And.intro (And.intro (zE zar 1 ((s30 zaa).get)) hc) ((zfL hk):Wk K [.one (.sl ((s29 (s30 zaa)).len) 1 (λ i=>zam ((s29 (s30 zaa)).get i))),.one (.int .i64 (0:Int))]))))))
def zRW : List PA → COut
  | [.one (.sl zaK zbW zaL)]=>.det (IsE enc_48 3 zbW zaL/\p6 (⟨zaK,zaf zaL⟩:(Sl Gate))=true) [.one (.sl (((s6 (⟨zaK,zaf zaL⟩:(Sl Gate))).1).len) 1 (λ i=>zam (((s6 (⟨zaK,zaf zaL⟩:(Sl Gate))).1).get i))),.one (.int .i64 ((s6 (⟨zaK,zaf zaL⟩:(Sl Gate))).2))]
  | _=>.no
theorem call6:zah Tryz.prog 6:=⟨_,rfl,rfl,by kernel_rfl⟩
theorem ok6:Ok Tryz.prog 6 zRW:=zgQ zTV call6 λ args K h=>by
  unfold zRW at h
  split at h
  · rename_i zaK zbW zaL
    obtain⟨⟨⟨rfl,zbn,rfl⟩,hs⟩,hk⟩:=h
    try rw[zae zbn] at hs
    try rw[zae zbn] at hk
    exact⟨_,zgx zgP _,(λ _ _=>[]),(λ _=>false),zSP,q6 (⟨zaK,zbn⟩:(Sl Gate)) K hs hk⟩
  · exact h.elim
end Go.Proofs
namespace Go.Pm
open Go.Shelf Go.RowKit Go.Lib Go.Sort Go.Proofs
variable [DrawZ]

def delN (n:Nat) (q:Nat->Bool):Nat:=((List.range n).filter λ i=>!q i).length
def zwR {α:Type}(n:Nat) (q:Nat->Bool) (get:Nat->α):Nat->α:=λ i=>get (((List.range n).filter λ i=>!q i).getD i 0)

theorem zCG {P : Program} {ρ : Ren} (L : SlLaysH.n10 P ρ) {e b : Nat} {g : FuncId} {φ : List PV → Nat → (Nat → List PV) → Nat × (Nat → List PV)} {pre : List PV → Nat → (Nat → List PV) → Prop}
    (hc:zah P (ρ.f 10)) (hcg:zah P g) (zr:Value) (hz:zr.oneCell'=true) (v23:∀ w,(zeroValue (ρ.t 23)).run P w=.ok zr w) (q:List PV->List PV->Bool) (pz:List PV->Bool)
    (G:∀ (W:World) (h:Fz) (caps:List PV) (cv:List Value) (n:Nat) (get:Nat->List PV),RL (Rep h) caps cv->Hw h W->pre caps n get ->
      (∀ i x,i < n->RL (Rep h) (get i) [x]->FnGives P g cv.toArray #[x] (.bool (q caps (get i))) W)/\FnGives P g cv.toArray #[zr] (.bool (pz caps)) W)
    (hpre0:∀ caps n get,pre caps n get->0 < n) (hφ:∀ caps n get,φ caps n get=(delN n (λ i=>q caps (get i)),zwR n (λ i=>q caps (get i)) get)):zhQ P (ρ.f 10) (.delf e 1 b g φ pre):=by
  intro w h base v n get caps cv hcv ⟨xs,hown,hr⟩ hone hw hob hbase hn hpre
  refine⟨hc,?_⟩
  have hn0:=hpre0 _ _ _ hpre
  rw[hφ]
  rcases hown.2 with ⟨h1,h2⟩ | ⟨blk,cap,cur,rfl,hb,hcell,hncap,hcap,hcs,htk⟩
  · omega
  have hxs:xs.length=n:=by have:=hown.1;rwa[Nat.mul_one] at this
  let enc:Option (Fin n)->Value:=λ o=>match o with | some i=>xs[i.val]'(by rw[hxs];exact i.isLt) | none=>zr
  let Q:Nat->Bool:=λ i=>q caps (get i)
  let p:Option (Fin n)->Bool:=λ o=>match o with | some i=>Q i.val | none=>pz caps
  let d:Array (Option (Fin n)):=Array.ofFn some
  have hds:d.size=n:=Array.size_ofFn
  have hdi:∀ i (hi:i < n),d[i]! = some ⟨i,hi⟩:=λ i hi=>by
    rw[getElem!_pos d i (by rw[hds];exact hi)];simp[d]
  have hlt:blk < w.heap.size:=(dqp.1 hcell).1
  have hbn:h blk=Option.none:=hob blk rfl
  rw[Nat.mul_one] at htk hcs
  have hcur:∀ j,j < n->cur[j]? = xs[j]?:=λ j hj=>by
    have:(cur.toList.take n)[j]? = xs[j]?:=by rw[htk]
    rw[dqs,if_pos hj] at this;simpa using this
  have hrr:∀ x:Fin n,RL (Rep h) (get x.val) [enc (some x)]:=λ x=>by
    have:=hr x.val x.isLt
    rw[Nat.mul_one,dqR (by rw[hxs];exact x.isLt)] at this
    exact this
  have h1:OneCell enc:=λ x=>by
    match x with
    | some x =>
      obtain⟨p,_,hp⟩:=(hrr x).get' 0 _ rfl
      exact hp.one
    | none=>exact hz
  have hH:Holds enc w blk 0 d:=λ j hj=>by
    have hj:j < n:=by rw[hds] at hj;exact hj
    refine⟨?_,frozen_of_row w blk _ cur e hcell⟩
    rw[hdi j hj,cell_of hcell,Nat.zero_add,hcur j hj]
    exact dqD _
  have gives:∀ (W:World) (x:Option (Fin n)),Hw h W->FnGives P g cv.toArray #[enc x] (.bool (p x)) W:=λ W x hW=>by
    obtain⟨g1,g2⟩:=G W h caps cv n get hcv hW hpre
    match x with
    | some x=>exact g1 x.val _ x.isLt (hrr x)
    | none=>exact g2
  have hat:PredAt P g cv.toArray enc p w:=λ W x hb=>gives W x (hw.same λ k o hk=>hb.block k (hw.lt hk))
  have hover:PredOver P g cv.toArray enc p blk 0 d.size w:=λ m os dk x _=>gives _ x (hw.same λ k o hk=>by
    have hkb:k ≠ blk:=λ e=>by rw[e,hbn] at hk;cases hk
    have hkl:=hw.lt hk
    show ((putRow enc (Sort.ahead w m) blk 0 dk).heap ++ os)[k]? = _
    rw[Array.getElem?_append_left (by rw[zdC];exact hkl)]
    exact zfq _ hkb)
  have hrun:=AnyE.slices_DeleteFunc L enc h1 p g cv.toArray (λ args w=>zbG hcg) none v23 blk 0 cap d w hat hover hH (by rw[hds];omega) (by rw[hds];exact hncap)
  rw[hds] at hrun
  refine hrun.mono ?_
  rintro r w' ⟨rfl,m,rfl⟩
  let val:Option (Fin n)->Nat:=λ o=>match o with | some x=>x.val | none=>0
  have hdl:(d.toList.filter λ x=>!p x).map val=(List.range n).filter λ i=>!Q i:=by
    have e1:d.toList.map val=List.range n:=by
      apply List.ext_getElem?
      intro i
      simp only[d,dqH]
      by_cases hi:i < n
      · simp[hi,val]
      · rw[dqM (by simp;omega),dqM (by simp;omega)];rfl
    rw[<- e1,List.filter_map]
    congr 1
    refine List.filter_congr λ x hx=>?_
    obtain⟨i,hi,rfl⟩:=List.getElem_of_mem hx
    simp only[d,Array.getElem_toList,Array.getElem_ofFn]
    rfl
  have hsome:∀ x∈d.toList.filter λ x=>!p x,∃ i:Fin n,x=some i:=λ x hx=>by
    obtain⟨i,hi,rfl⟩:=List.getElem_of_mem (List.mem_filter.1 hx).1
    exact⟨⟨i,by simpa [hds] using hi⟩,by simp[d]⟩
  have hle:(d.toList.filter λ x=>!p x).length<=n:=by
    have:=List.length_filter_le (λ x=>!p x) d.toList
    simpa [hds] using this
  generalize (d.toList.filter λ x=>!p x)=dl at hdl hsome hle
  have hlen:delN n Q=dl.length:=by unfold delN;rw[<- hdl,List.length_map]
  let F:Array (Option (Fin n)):=(dl ++ List.replicate (n - dl.length) none).toArray
  have hFs:F.size=n:=by simp[F];omega
  obtain⟨cur',hcell',hsz'⟩:=zjg (enc:=enc) (q:=m) (off:=0) F hcell
  have hH':Holds enc (sortWorld enc w blk 0 m F #[]) blk 0 F:=holds_sortWorld enc w blk 0 m d F #[] hlt hH (by rw[hFs,hds])
  have hg0:(sortWorld enc w blk 0 m F #[])=putRow enc (Sort.ahead w m) blk 0 F:=by unfold sortWorld;rw[grow_empty]
  rw[hg0] at hH'
  have hcur':∀ j (hj:j < n),cur'[j]? = some (enc (F[j]'(by omega))):=λ j hj=>by
    have:=(hH' j (by rw[hFs];exact hj)).1
    rw[cell_of hcell',Nat.zero_add,getElem!_pos F j (by omega)] at this
    exact this
  refine⟨.slice (some ⟨blk,0,Option.none⟩) dl.length cap,rfl,rfl,λ k hk=>hk,?_,?_⟩
  · show zun h _ base e 1 _ (delN n Q) (zwR n Q get)
    rw[hlen]
    refine⟨cur'.toList.take (dl.length * 1),⟨by rw[List.length_take,Nat.mul_one,Array.length_toList (xs:=cur'),hsz',hcs];exact Nat.min_eq_left (dqE hle hncap),.inr ⟨blk,cap,cur',rfl,hb,hcell',dqE hle hncap,hcap,by rw[hsz',hcs,Nat.mul_one],rfl⟩⟩,λ i hi=>?_⟩
    obtain⟨x,hx⟩:=hsome dl[i] (List.getElem_mem hi)
    have e1:((cur'.toList.take (dl.length * 1)).drop (i * 1)).take 1=[enc (some x)]:=by
      apply List.ext_getElem?
      intro j
      rw[dqs,Nat.mul_one,Nat.mul_one]
      cases j with
      | zero =>
        rw[if_pos (by omega),dqI,dqs,if_pos (by omega),Array.getElem?_toList,Nat.add_zero,hcur' i (by omega)]
        have:F[i]'(by omega)=some x:=by
          show (dl ++ List.replicate (n - dl.length) none)[i]'_=_
          rw[List.getElem_append_left hi];exact hx
        rw[this];rfl
      | succ j=>rw[if_neg (by omega)];rfl
    rw[e1]
    have e2:zwR n Q get i=get x.val:=by
      unfold zwR
      rw[<- hdl,List.getD_eq_getElem?_getD,dqH,dqD hi,hx]
      rfl
    rw[e2]
    exact hrr x
  · refine ⟨⟨rfl, rfl, rfl, ?_, fun k hk hne => ?_⟩, zkt (Nat.le_add_right _ _)⟩
    · rw[zdC];exact dqt _
    · exact zfq _ λ e=>hne (by rw[e];rfl)
end Go.Pm
/-
  DERIVED: THE SHELF's CONTRACTS AT THIS DUMP,IN PLAIN WORDS (tools/lay-plain.mjs out of 'YtkilnbolehhcnaaGreatLayB.lean',which tools/lay-shelf.mjs wrote): THE SAME DECLARATIONS UNDER THE SAME NAMES: 'import','namespace','open','def','theorem' AND NOTHING ELSE: no command of the shelf's: FOR A HAND-IN. Each laying: the table of numbers ('.._ren') and one theorem,a field a fact of the dump's own or the kernel's comparison;each contract: ONE APPLICATION.
-/
namespace Go.Proofs
open Go.Shelf
def Tryz.laysS32_ren:Go.Shelf.Ren:=⟨fun | 10=>32 | 6=>60 | n=>n,fun | 22=>28 | 23=>24 | 25=>65 | 3=>3 | 4=>4 | 0=>0 | n=>n,fun | n=>n⟩
theorem Tryz.laysS32 : Go.Proofs.SlLaysH.n10 Tryz.prog Tryz.laysS32_ren := {
  mixed:=by kernel_rfl
  f6:=⟨Tryz.f60.name,by decide,Tryz.func60.trans (congrArg some (by kernel_rfl))⟩
  f10:=⟨Tryz.f32.name,by decide,Tryz.func32.trans (congrArg some (by kernel_rfl))⟩
  t0:=Tryz.underlying0
  a0:=Tryz.isAgg0
  z0:=Tryz.sizeOf0
  v0:=Tryz.zeroValue0
  t3:=Tryz.underlying3
  a3:=Tryz.isAgg3
  z3:=Tryz.sizeOf3
  v3:=Tryz.zeroValue3
  t4:=Tryz.underlying4
  a4:=Tryz.isAgg4
  z4:=Tryz.sizeOf4
  v4:=Tryz.zeroValue4
  t22:=Tryz.underlying28
  a22:=Tryz.isAgg28
  z22:=Tryz.sizeOf28
  v22:=Tryz.zeroValue28
  a23:=Tryz.isAgg24
  z23:=Tryz.sizeOf24
  t25:=Tryz.underlying65
  a25:=Tryz.isAgg65
  z25:=Tryz.sizeOf65
  v25:=Tryz.zeroValue65 }
end Go.Proofs
namespace Go.Proofs
open Go Go.Pm
set_option maxRecDepth 100000
set_option linter.unusedVariables false
attribute [local irreducible] Go.Pm.vcFun Go.Pm.vc Go.Pm.vcIter
def q32 : List PV → List PV → Bool
  | [.fp [.int _ k] _],[.sl n _ _]=>decide ((n:Int) < k)
  | _,_=>false
def zKW (caps:List PV) (n:Nat) (get:Nat->List PV):Prop:=0 < n/\(∃ k,caps=[.fp [.int .i64 k] 0])/\∃ f:Nat->Sl Int,get=λ i=>zar (f i)
def zRX (caps:List PV) (n:Nat) (get:Nat->List PV):Nat×(Nat->List PV):=(delN n (λ i=>q32 caps (get i)),zwR n (λ i=>q32 caps (get i)) get)
abbrev zPa:OwnK:=.delf 24 1 24 33 zRX zKW
theorem zPb:zah Tryz.prog 32:=⟨_,rfl,rfl,by kernel_rfl⟩
theorem zPc:zah Tryz.prog 33:=⟨_,rfl,rfl,by kernel_rfl⟩
theorem zSQ (lim:Int) (B O:Nat) (W:World) (p:Option Addr) (n c:Nat) (hc:W.cell? ⟨B,O,none⟩=some (.int .i64 lim)):FnGives Tryz.prog 33 #[.pointer (some ⟨B,O,none⟩)] #[.slice p n c] (.bool (decide ((n:Int) < lim))) W:=by
  show Calls Tryz.prog 33 #[.slice p n c,.pointer (some ⟨B,O,none⟩)] W _
  go_enter Tryz.func33,Tryz.ntmps33
  go_wp2
  all_goals (go_ret;exact⟨by simp_all,0,rfl⟩)
theorem zRY {h:Fz}{n s:Nat}{g:Nat->List PV}{v:Value}(r:Rep h (.sl n s g) v):∃ p c,v=.slice p n c:=by
  cases r with
  | sl0=>exact⟨_,_,rfl⟩
  | sle=>exact⟨_,_,rfl⟩
  | sl=>exact⟨_,_,rfl⟩
theorem zRZ (W : World) (h : Fz) (caps : List PV) (cv : List Value) (n : Nat) (get : Nat → List PV) (hcv : RL (Rep h) caps cv) (hW : Hw h W) (hp : zKW caps n get) :
      (∀ i x,i < n->RL (Rep h) (get i) [x]->FnGives Tryz.prog 33 cv.toArray #[x] (.bool (q32 caps (get i))) W)/\FnGives Tryz.prog 33 cv.toArray #[.slice none 0 0] (.bool ((λ caps=>match caps with | [.fp [.int _ k] _]=>decide (0 < k) | _=>false) caps)) W:=by
    obtain⟨_,⟨k,rfl⟩,f,rfl⟩:=hp
    match cv,hcv with
    | [v],hcv =>
      obtain⟨b,o,C,ty,fr,rfl,hb,hcell⟩:=ziX hcv.1
      obtain⟨v,h1,h2⟩:=hcell 0 _ rfl
      cases h2
      have hc:W.cell? ⟨b,o+0,none⟩=some (.int .i64 k):=(cell_of (hW.fz hb)).trans h1
      refine⟨λ i x _ hx=>?_,zSQ k b (o+0) W none 0 0 hc⟩
      obtain⟨p,c,rfl⟩:=zRY hx.1
      exact zSQ k b (o+0) W p _ c hc
    | [],hcv=>exact hcv.elim
    | _ :: _ :: _,hcv=>exact hcv.2.elim
theorem zPd:∀ w,(zeroValue (24:TypeId)).run Tryz.prog w=.ok (.slice none 0 0) w:=λ w=>by kernel_rfl
theorem ok32 : zhQ Tryz.prog 32 zPa := zCG Tryz.laysS32 zPb zPc (.slice none 0 0) rfl zPd q32 (fun caps => match caps with | [.fp [.int _ k] _] => decide (0 < k) | _ => false)
  zRZ (λ _ _ _ h=>h.1) (λ _ _ _=>rfl)
abbrev T7:Tabs:=(((Tabs.nil.addF 28 zqA).addO 30 zKV).addO 32 zPa)
theorem zTW:TabsOk Tryz.prog T7:=(((TabsOk.nil.addF zMa).addO zSO).addO ok32)
abbrev G7:Ctrs:=csm T7 (λ _ _=>[]) (λ _=>false)
def zSR:Ann:=⟨13,[(0,zK [0,3] [3]),(1,zK [0,3,8] [3]),(2,zK [4,5] []),(3,zK [4,5] [10])],
 [],
 [],
 [],[]⟩
abbrev R7:=((Sl (Sl Int))×Int)
abbrev e7 (r:R7):List PA:=[.one (.sl r.1.len 1 (λ i=>zar (r.1.get i))),.one (.int .i64 r.2)]
section
variable {K:List PA->Prop}{zaa:(Sl Gate)}{least:Int}
def s7 (zaa:(Sl Gate)) (least:Int):((Sl (Sl Int))×Int) :=
  (cond (!(s28 zaa))
 ((⟨0,λ _=>default⟩:(Sl (Sl Int))),(2:Int))
 ((⟨(delN ((s30 zaa).len) (λ i=>decide (((((s30 zaa).get) i).len:Int) < least))),(zwR ((s30 zaa).len) (λ i=>decide (((((s30 zaa).get) i).len:Int) < least)) ((s30 zaa).get))⟩:(Sl (Sl Int))),(0:Int)))
def p7 (zaa:(Sl Gate)) (least:Int):Bool :=
  (decide ((p28 zaa=true)) &&
 (cond (!(s28 zaa))
 true
 (decide ((p30 zaa=true)) &&
 (decide (((s30 zaa).len<=4611686018427387)/\(0 < (s30 zaa).len)) &&
 true))))
end
theorem q7 (zaa:(Sl Gate)) (least:Int) (K:List PA->Prop) (hs:p7 zaa least=true) (hk:K (e7 (s7 zaa least))):vcFun Tryz.prog G7 zSR 7 [.one (.sl zaa.len 3 (λ i=>enc_48 (zaa.get i))),.one (.int .i64 least)] (Wk K) :=
  zaM (by kernel_rfl) (zaI hs λ hc hs=>And.intro (And.intro (zE enc_48 3 zaa.get) hc) (zc hs hk (λ hs hk=>((wk hk (zfn (.one (.nil _ _)) (zfn (.one (.rfl _)) zma))):Wk K [.one (.nils),.one (.int .i64 (2:Int))])) (λ hs hk=>(zaI hs λ hc hs=>And.intro (⟨⟨isE,hc⟩,trivial,rfl⟩:(IsE enc_48 3 3 (λ i=>enc_48 (zaa.get i))/\(p30 zaa=true))/\zui (λ i=>zar ((s30 zaa).get i)) []/\([]:List PV).all zgF=true) (zaI hs λ hc hs=>And.intro (And.intro (hc.1) (⟨(hc.2),⟨_,rfl⟩,⟨(s30 zaa).get,rfl⟩⟩:zKW [.fp (zam least) 0] ((s30 zaa).len) (λ i=>zar ((s30 zaa).get i)))) ((zfL hk):Wk K [.one (.sl (delN ((s30 zaa).len) (λ i=>decide (((((s30 zaa).get) i).len:Int) < least))) 1 (λ i=>zar ((zwR ((s30 zaa).len) (λ i=>decide (((((s30 zaa).get) i).len:Int) < least)) ((s30 zaa).get)) i))),.one (.int .i64 (0:Int))]))))))
def zR0 : List PA → COut
  | [.one (.sl zaK zbW zaL),.one (.int .i64 a1)]=>.det (IsE enc_48 3 zbW zaL/\p7 (⟨zaK,zaf zaL⟩:(Sl Gate)) a1=true) [.one (.sl (((s7 (⟨zaK,zaf zaL⟩:(Sl Gate)) a1).1).len) 1 (λ i=>zar (((s7 (⟨zaK,zaf zaL⟩:(Sl Gate)) a1).1).get i))),.one (.int .i64 ((s7 (⟨zaK,zaf zaL⟩:(Sl Gate)) a1).2))]
  | _=>.no
theorem call7:zah Tryz.prog 7:=⟨_,rfl,rfl,by kernel_rfl⟩
theorem ok7:Ok Tryz.prog 7 zR0:=zgQ zTW call7 λ args K h=>by
  unfold zR0 at h
  split at h
  · rename_i zaK zbW zaL a1
    obtain⟨⟨⟨rfl,zbn,rfl⟩,hs⟩,hk⟩:=h
    try rw[zae zbn] at hs
    try rw[zae zbn] at hk
    exact⟨_,zgx zgP _,(λ _ _=>[]),(λ _=>false),zSR,q7 (⟨zaK,zbn⟩:(Sl Gate)) a1 K hs hk⟩
  · exact h.elim
abbrev T35:Tabs:=Tabs.nil
theorem zR1:TabsOk Tryz.prog T35:=TabsOk.nil
abbrev G35:Ctrs:=csm T35 (λ _ _=>[]) (λ _=>false)
def zPe:Ann:=⟨15,[(0,zK [0,1,2] []),(1,zK [6] [])],
 [],
 [],
 [],[]⟩
abbrev R35:=Bool
abbrev e35 (r:R35):List PA:=[.one (.bool r)]
section
variable {K:List PA->Prop}{n:Int}{low:Int}{high:Int}
def s35 (n:Int) (low:Int) (high:Int):Bool :=
  (cond (decide (n >= low))
 (decide (n<=high))
 false)
end
theorem q35 (n:Int) (low:Int) (high:Int) (K:List PA->Prop) (hk:K (e35 (s35 n low high))):vcFun Tryz.prog G35 zPe 35 [.one (.int .i64 n),.one (.int .i64 low),.one (.int .i64 high)] K :=
  zaM (by kernel_rfl) (zt hk (λ hk=>hk) (λ hk=>hk))
def zFd : List PA → COut
  | [.one (.int .i64 a0),.one (.int .i64 a1),.one (.int .i64 a2)]=>.tot [.one (.bool (s35 a0 a1 a2))]
  | _=>.no
theorem zPf:zah Tryz.prog 35:=⟨_,rfl,rfl,by kernel_rfl⟩
theorem zSS:Ok Tryz.prog 35 zFd:=zaV zR1 zPf λ args K h=>by
  unfold zFd at h
  split at h
  · rename_i a0 a1 a2
    have hk:=h
    exact⟨(λ _ _=>[]),(λ _=>false),zPe,q35 a0 a1 a2 K hk⟩
  · exact h.elim
abbrev T34:Tabs:=(Tabs.nil.addF 35 zFd)
theorem zR2:TabsOk Tryz.prog T34:=(TabsOk.nil.addF zSS)
abbrev G34:Ctrs:=csm T34 (λ _ _=>[]) (λ _=>false)
def zPg:Ann:=⟨18,[(0,zK [1] [1]),(1,zK [2] [])],
 [],
 [],
 [],[]⟩
abbrev R34:=Bool
abbrev e34 (r:R34):List PA:=[.one (.bool r)]
section
variable {K:List PA->Prop}{g:Gate}
def s34 (g:Gate):Bool :=
  (cond (s35 g.Z (0:Int) (100000:Int))
 (cond (s35 g.Low (-1000000:Int) g.High)
 (decide (g.High<=(1000000:Int)))
 false)
 false)
end
theorem q34 (g:Gate) (K:List PA->Prop) (hk:K (e34 (s34 g))):vcFun Tryz.prog G34 zPg 34 [.agg (enc_48 g)] K :=
  zaM (by kernel_rfl) (zt hk (λ hk=>(zt hk (λ hk=>hk) (λ hk=>hk))) (λ hk=>hk))
def zKX : List PA → COut
  | [.agg [.int .i64 zla,.int .i64 zc9,.int .i64 zch]]=>.tot [.one (.bool (s34 (⟨zla,zc9,zch⟩:Gate)))]
  | _=>.no
theorem zPh:zah Tryz.prog 34:=⟨_,rfl,rfl,by kernel_rfl⟩
theorem zTX:Ok Tryz.prog 34 zKX:=zaV zR2 zPh λ args K h=>by
  unfold zKX at h
  split at h
  · rename_i zla zc9 zch
    have hk:=h
    exact⟨(λ _ _=>[]),(λ _=>false),zPg,q34 (⟨zla,zc9,zch⟩:Gate) K hk⟩
  · exact h.elim
abbrev T8:Tabs:=((Tabs.nil.addF 34 zKX).addF 35 zFd)
theorem zTY:TabsOk Tryz.prog T8:=((TabsOk.nil.addF zTX).addF zSS)
abbrev G8:Ctrs:=csm T8 (λ _ _=>[]) (λ _=>false)
def zR3:Ann:=⟨19,[(0,zK [0] []),(1,zK [0,3] []),(2,zK [0,3,7] []),(3,zK [0,3] []),(4,zK [0,3,15] []),(5,zK [2] []),(6,zK [2] [])],
 [(2,zK [0,3] [])],
 [(5,zK [0,3,15] [])],
 [],[]⟩
abbrev R8:=Bool
abbrev e8 (r:R8):List PA:=[.one (.bool r)]
@[irreducible] def z8:=ptF Tryz.prog G8 zR3 Tryz.f8
def zPi (l_a0:(Sl Gate)) (iv0:Int):St:=⟨[(0,zS enc_48 3 l_a0),(3,zI iv0)],[],[]⟩
abbrev zR4 (K:List PA->Prop) (l_a0:(Sl Gate)) (X:St->Prop) (P:Int->Bool) (S:Int->Bool):Prop:=∀ ⦃iv0:Int⦄,P iv0=true->K (e8 (S iv0))->X (zPi l_a0 iv0)
section
variable {K:List PA->Prop}{l_a0:(Sl Gate)}{iv0:Int}{X0:St->Prop}{P0:Int->Bool}{S0:Int->Bool}{iv1:Int}{ztA:Bool}
def zCH (S0:Int->Bool) (l_a0:(Sl Gate)) (iv1:Int) (ztA:Bool):Bool :=
  (cond ztA
 false
 (S0 (w64 (iv1+(1:Int)))))
def zCI (P0:Int->Bool) (l_a0:(Sl Gate)) (iv1:Int) (ztA:Bool):Bool :=
  (cond ztA
 true
 (P0 (w64 (iv1+(1:Int)))))
theorem zPj (hX0:zR4 K l_a0 X0 P0 S0) (hs:zCI P0 l_a0 iv1 ztA=true) (hk:K (e8 (zCH S0 l_a0 iv1 ztA))):z8 K [1,0,1,0,0,1,0,0,1] [X0] ⟨[(0,zS enc_48 3 l_a0),(3,zI iv1),(15,zB ztA)],[],[]⟩:=zaM (by kernel_rfl) (zc hs hk (λ hs hk=>hk) (λ hs hk=>(hX0 hs hk)))
def zn3 (l_a0:(Sl Gate)) (S0:Int->Bool) (iv0:Int):Bool :=
  (cond (decide (iv0 < (l_a0.len : Int)))
 (zCH S0 l_a0 iv0 (!(s34 (l_a0.get iv0.toNat))))
 (s35 (l_a0.len:Int) (1:Int) (24:Int)))
def zn4 (l_a0:(Sl Gate)) (P0:Int->Bool) (iv0:Int):Bool :=
  (cond (decide (iv0 < (l_a0.len : Int)))
 (decide ((0<=iv0/\iv0 < (l_a0.len:Int))) &&
 (zCI P0 l_a0 iv0 (!(s34 (l_a0.get iv0.toNat)))))
 true)
def zn5 (l_a0:(Sl Gate)):Nat->Int->Bool:=lpO (λ _=>default) (zn3 l_a0)
def zn6 (l_a0:(Sl Gate)):Nat->Int->Bool:=lpO (λ _=>false) (zn4 l_a0)
def zGH (l_a0:(Sl Gate)) (iv0:Int):Bool:=zn5 l_a0 Fuel iv0
def zGI (l_a0:(Sl Gate)) (iv0:Int):Bool:=zn6 l_a0 Fuel iv0
theorem zPk (hs:zGI l_a0 iv0=true) (hk:K (e8 (zGH l_a0 iv0))):z8 K [1,0,1,0] [] (zPi l_a0 iv0) :=
  zl (λ X=>z8 K [1,0,1,0,0] [X]) (by kernel_rfl) λ X0 hX =>
  (show ∀ k, zR4 K l_a0 X0 (zn6 l_a0 k) (zn5 l_a0 k) from zfo _ _ (zn4 l_a0) (zn3 l_a0) (zR4 K l_a0 X0)
 (by intro _ hs;exact absurd hs dqk)
 (by intro P0 S0 hX0 iv0 hs hk;exact hX _ (zaM (by kernel_rfl) (zc hs hk (λ hs hk=>(zaI hs λ hc hs=>And.intro hc (zPj hX0 hs hk))) (λ hs hk=>hk))))) _ hs hk
def s8 (l_a0:(Sl Gate)):Bool :=
  (zGH l_a0 (0:Int))
def p8 (l_a0:(Sl Gate)):Bool :=
  (zGI l_a0 (0:Int))
end
theorem q8 (l_a0:(Sl Gate)) (K:List PA->Prop) (hs:p8 l_a0=true) (hk:K (e8 (s8 l_a0))):vcFun Tryz.prog G8 zR3 8 [.one (.sl l_a0.len 3 (λ i=>enc_48 (l_a0.get i)))] K :=
  zaM (by kernel_rfl) (zPk hs hk)
def zR5 : List PA → COut
  | [.one (.sl zaK zbW zaL)]=>.det (IsE enc_48 3 zbW zaL/\p8 (⟨zaK,zaf zaL⟩:(Sl Gate))=true) [.one (.bool (s8 (⟨zaK,zaf zaL⟩:(Sl Gate))))]
  | _=>.no
theorem call8:zah Tryz.prog 8:=⟨_,rfl,rfl,by kernel_rfl⟩
theorem ok8:Ok Tryz.prog 8 zR5:=zaV zTY call8 λ args K h=>by
  unfold zR5 at h
  split at h
  · rename_i zaK zbW zaL
    obtain⟨⟨⟨rfl,zbn,rfl⟩,hs⟩,hk⟩:=h
    try rw[zae zbn] at hs
    try rw[zae zbn] at hk
    exact⟨(λ _ _=>[]),(λ _=>false),zR3,q8 (⟨zaK,zbn⟩:(Sl Gate)) K hs hk⟩
  · exact h.elim
abbrev T63:Tabs:=Tabs.nil
theorem zR6:TabsOk Tryz.prog T63:=TabsOk.nil
abbrev G63:Ctrs:=csm T63 (λ _ _=>[]) (λ _=>false)
def zPl:Ann:=⟨30,[(0,zK [1,2] [2]),(1,zK [4,5] [])],
 [],
 [],
 [],[]⟩
abbrev R63:=(Int×Int)
abbrev e63 (r:R63):List PA:=[.one (.int .i64 r.1),.one (.int .i64 r.2)]
section
variable {K:List PA->Prop}{l_a0:Line}{z:Int}
def s63 (l_a0:Line) (z:Int):(Int×Int) :=
  ((w64 ((w64 (l_a0.Start.Num * l_a0.Slope.Den))+(w64 ((w64 (l_a0.Slope.Num * z)) * l_a0.Start.Den)))),(w64 (l_a0.Start.Den * l_a0.Slope.Den)))
end
theorem q63 (l_a0:Line) (z:Int) (K:List PA->Prop) (hk:K (e63 (s63 l_a0 z))):vcFun Tryz.prog G63 zPl 63 [.agg (zbr l_a0),.one (.int .i64 z)] K :=
  zaM (by kernel_rfl) hk
def zKY : List PA → COut
  | [.agg [.int .i64 zbw,.int .i64 zbx,.int .i64 zby,.int .i64 zbz],.one (.int .i64 a1)]=>.tot [.one (.int .i64 ((s63 (⟨(⟨zbw,zbx⟩:Frac),(⟨zby,zbz⟩:Frac)⟩:Line) a1).1)),.one (.int .i64 ((s63 (⟨(⟨zbw,zbx⟩:Frac),(⟨zby,zbz⟩:Frac)⟩:Line) a1).2))]
  | _=>.no
theorem zPm:zah Tryz.prog 63:=⟨_,rfl,rfl,by kernel_rfl⟩
theorem zTZ:Ok Tryz.prog 63 zKY:=zaV zR6 zPm λ args K h=>by
  unfold zKY at h
  split at h
  · rename_i zbw zbx zby zbz a1
    have hk:=h
    exact⟨(λ _ _=>[]),(λ _=>false),zPl,q63 (⟨(⟨zbw,zbx⟩:Frac),(⟨zby,zbz⟩:Frac)⟩:Line) a1 K hk⟩
  · exact h.elim
abbrev T38:Tabs:=(Tabs.nil.addF 63 zKY)
theorem zR7:TabsOk Tryz.prog T38:=(TabsOk.nil.addF zTZ)
abbrev G38:Ctrs:=csm T38 (λ _ _=>[]) (λ _=>false)
def zPn:Ann:=⟨28,[(0,zK [2,3] [2,3]),(1,zK [3,5,6] [3]),(2,zK [4] [])],
 [],
 [],
 [],[]⟩
abbrev R38:=Bool
abbrev e38 (r:R38):List PA:=[.one (.bool r)]
section
variable {K:List PA->Prop}{l_a0:Line}{g:Gate}
def s38 (l_a0:Line) (g:Gate):Bool :=
  (cond (decide ((w64 (g.Low * ((s63 l_a0 g.Z).2))) <= ((s63 l_a0 g.Z).1)))
 (decide (((s63 l_a0 g.Z).1)<=(w64 (g.High * ((s63 l_a0 g.Z).2)))))
 false)
end
theorem q38 (l_a0:Line) (g:Gate) (K:List PA->Prop) (hk:K (e38 (s38 l_a0 g))):vcFun Tryz.prog G38 zPn 38 [.agg (zbr l_a0),.agg (enc_48 g)] K :=
  zaM (by kernel_rfl) (zt hk (λ hk=>hk) (λ hk=>hk))
def zKZ : List PA → COut
  | [.agg [.int .i64 zbw,.int .i64 zbx,.int .i64 zby,.int .i64 zbz],.agg [.int .i64 zH4,.int .i64 zmf,.int .i64 zic]]=>.tot [.one (.bool (s38 (⟨(⟨zbw,zbx⟩:Frac),(⟨zby,zbz⟩:Frac)⟩:Line) (⟨zH4,zmf,zic⟩:Gate)))]
  | _=>.no
theorem zPo:zah Tryz.prog 38:=⟨_,rfl,rfl,by kernel_rfl⟩
theorem zT0:Ok Tryz.prog 38 zKZ:=zaV zR7 zPo λ args K h=>by
  unfold zKZ at h
  split at h
  · rename_i zbw zbx zby zbz zH4 zmf zic
    have hk:=h
    exact⟨(λ _ _=>[]),(λ _=>false),zPn,q38 (⟨(⟨zbw,zbx⟩:Frac),(⟨zby,zbz⟩:Frac)⟩:Line) (⟨zH4,zmf,zic⟩:Gate) K hk⟩
  · exact h.elim
abbrev T14:Tabs:=(Tabs.nil.addF 38 zKZ)
theorem zR8:TabsOk Tryz.prog T14:=(TabsOk.nil.addF zT0)
abbrev G14:Ctrs:=csm T14 (λ _ _=>[]) (λ _=>false)
def zK1:Ann:=⟨24,[(0,zK [1,2] [2]),(1,zK [1,2,5] [2]),(2,zK [1,2,5,6] [2]),(3,zK [1,2,5,6,10] [2,22]),(4,zK [1,2,5,6] [2,22]),(5,zK [1,2,5,6,18] [2,22]),(6,zK [1,2,5,6] [2,22]),(7,zK [4] [22])],
 [(3,⟨[1,2,5,6],[2,22],[(5,22,3,λ _=>zam default)],[],[],[],[]⟩)],
 [(6,zK [1,2,5,6,18] [2,22])],
 [],[]⟩
abbrev R14:=(Sl Int)
abbrev e14 (r:R14):List PA:=[.one (.sl r.len 1 (λ i=>zam (r.get i)))]
@[irreducible] def z14:=ptF Tryz.prog G14 zK1 Tryz.f14
def zGJ (l_a0:Line) (zaa:(Sl Gate)) (iv0:Int) (zfA:(Sl Int)) (zhl:Nat->List PV):St:=⟨[(1,zS enc_48 3 zaa),(2,zp 2 0),(5,zv 22),(6,zI iv0)],[(2,.box 42 (zm (zbr l_a0))),(22,.vec 3 1 8 zfA.len zhl)],[]⟩
abbrev zK2 (K:List PA->Prop) (l_a0:Line) (zaa:(Sl Gate)) (X:St->Prop) (P:Int->(Sl Int)->Bool) (S:Int->(Sl Int)->(Sl Int)):Prop:=∀ ⦃iv0:Int⦄ ⦃zfA:(Sl Int)⦄ ⦃zhl:Nat->List PV⦄,P iv0 zfA=true->K (e14 (S iv0 zfA))->zhl=zg zam zfA->X (zGJ l_a0 zaa iv0 zfA zhl)
section
variable {K:List PA->Prop}{l_a0:Line}{zaa:(Sl Gate)}{iv0:Int}{zfA:(Sl Int)}{zhl:Nat->List PV}{X0:St->Prop}{P0:Int->(Sl Int)->Bool}{S0:Int->(Sl Int)->(Sl Int)}{iv1:Int}{ztB:Bool}{zhm:(Sl Int)}{zCJ:Nat->List PV}
def ztC (S0:Int->(Sl Int)->(Sl Int)) (l_a0:Line) (zaa:(Sl Gate)) (iv1:Int) (ztB:Bool) (zhm:(Sl Int)):(Sl Int) :=
  (cond ztB
 (S0 (w64 (iv1+(1:Int))) (⟨(zhm.len+1),(zfe zhm.len zhm.get (λ _=>iv1))⟩:Sl Int))
 (S0 (w64 (iv1+(1:Int))) zhm))
def ztD (P0:Int->(Sl Int)->Bool) (l_a0:Line) (zaa:(Sl Gate)) (iv1:Int) (ztB:Bool) (zhm:(Sl Int)):Bool :=
  (cond ztB
 (decide (((zhm.len+1) * 8<=140737488355328/\zhm.len+1<=9223372036854775807)) &&
 (P0 (w64 (iv1+(1:Int))) (⟨(zhm.len+1),(zfe zhm.len zhm.get (λ _=>iv1))⟩:Sl Int)))
 (P0 (w64 (iv1+(1:Int))) zhm))
theorem zK3 (hX0:zK2 K l_a0 zaa X0 P0 S0) (hs:ztD P0 l_a0 zaa iv1 ztB zhm=true) (hk:K (e14 (ztC S0 l_a0 zaa iv1 ztB zhm))) (zK4:zCJ=zg zam zhm):z14 K [1,1,0,1,0,0,1,0,0,1] [X0] ⟨[(1,zS enc_48 3 zaa),(2,zp 2 0),(5,zv 22),(6,zI iv1),(18,zB ztB)],[(2,.box 42 (zm (zbr l_a0))),(22,.vec 3 1 8 zhm.len zCJ)],[]⟩:=by subst zK4;exact zaM (by kernel_rfl) (zc hs hk (λ hs hk=>(zaI hs λ hc hs=>And.intro hc (hX0 hs hk (zfm (enc:=zam) (f:=zhm.get) (h:=(λ _=>iv1)) rfl rfl)))) (λ hs hk=>(hX0 hs hk rfl)))
def zjT (l_a0:Line) (zaa:(Sl Gate)) (S0:Int->(Sl Int)->(Sl Int)) (iv0:Int) (zfA:(Sl Int)):(Sl Int) :=
  (cond (decide (iv0 < (zaa.len : Int)))
 (ztC S0 l_a0 zaa iv0 (s38 l_a0 (zaa.get iv0.toNat)) zfA)
 zfA)
def zjU (l_a0:Line) (zaa:(Sl Gate)) (P0:Int->(Sl Int)->Bool) (iv0:Int) (zfA:(Sl Int)):Bool :=
  (cond (decide (iv0 < (zaa.len : Int)))
 (decide ((0<=iv0/\iv0 < (zaa.len:Int))) &&
 (ztD P0 l_a0 zaa iv0 (s38 l_a0 (zaa.get iv0.toNat)) zfA))
 true)
def zjV (l_a0:Line) (zaa:(Sl Gate)):Nat->Int->(Sl Int)->(Sl Int):=lpO (λ _ _=>default) (zjT l_a0 zaa)
def zjW (l_a0:Line) (zaa:(Sl Gate)):Nat->Int->(Sl Int)->Bool:=lpO (λ _ _=>false) (zjU l_a0 zaa)
def zCK (l_a0:Line) (zaa:(Sl Gate)) (iv0:Int) (zfA:(Sl Int)):(Sl Int):=zjV l_a0 zaa Fuel iv0 zfA
def zCL (l_a0:Line) (zaa:(Sl Gate)) (iv0:Int) (zfA:(Sl Int)):Bool:=zjW l_a0 zaa Fuel iv0 zfA
theorem zK5 (hs:zCL l_a0 zaa iv0 zfA=true) (hk:K (e14 (zCK l_a0 zaa iv0 zfA))) (ztE:zhl=zg zam zfA):z14 K [1,1,0,1,0] [] (zGJ l_a0 zaa iv0 zfA zhl) :=
  zl (λ X=>z14 K [1,1,0,1,0,0] [X]) (by kernel_rfl) λ X0 hX =>
  (show ∀ k, zK2 K l_a0 zaa X0 (zjW l_a0 zaa k) (zjV l_a0 zaa k) from zfo _ _ (zjU l_a0 zaa) (zjT l_a0 zaa) (zK2 K l_a0 zaa X0)
 (by intro _ _ _ hs;exact absurd hs dqk)
 (by intro P0 S0 hX0 iv0 zfA zhl hs hk ztE;subst ztE;exact hX _ (zaM (by kernel_rfl) (zc hs hk (λ hs hk=>(zaI hs λ hc hs=>And.intro hc (zK3 hX0 hs hk rfl))) (λ hs hk=>hk))))) _ hs hk ztE
def s14 (l_a0:Line) (zaa:(Sl Gate)):(Sl Int) :=
  (zCK l_a0 zaa (0:Int) (⟨0,(λ _=>default)⟩:Sl Int))
def p14 (l_a0:Line) (zaa:(Sl Gate)):Bool :=
  (zCL l_a0 zaa (0:Int) (⟨0,(λ _=>default)⟩:Sl Int))
end
theorem q14 (l_a0:Line) (zaa:(Sl Gate)) (K:List PA->Prop) (hs:p14 l_a0 zaa=true) (hk:K (e14 (s14 l_a0 zaa))):vcFun Tryz.prog G14 zK1 14 [.agg (zbr l_a0),.one (.sl zaa.len 3 (λ i=>enc_48 (zaa.get i)))] K :=
  zaM (by kernel_rfl) (zK5 hs hk rfl)
def zK6 : List PA → COut
  | [.agg [.int .i64 zbw,.int .i64 zbx,.int .i64 zby,.int .i64 zbz],.one (.sl zd9 zi9 zea)]=>.det (IsE enc_48 3 zi9 zea/\p14 (⟨(⟨zbw,zbx⟩:Frac),(⟨zby,zbz⟩:Frac)⟩:Line) (⟨zd9,zaf zea⟩:(Sl Gate))=true) [.one (.sl ((s14 (⟨(⟨zbw,zbx⟩:Frac),(⟨zby,zbz⟩:Frac)⟩:Line) (⟨zd9,zaf zea⟩:(Sl Gate))).len) 1 (λ i=>zam ((s14 (⟨(⟨zbw,zbx⟩:Frac),(⟨zby,zbz⟩:Frac)⟩:Line) (⟨zd9,zaf zea⟩:(Sl Gate))).get i)))]
  | _=>.no
theorem call14:zah Tryz.prog 14:=⟨_,rfl,rfl,by kernel_rfl⟩
theorem zT1:Ok Tryz.prog 14 zK6:=zaV zR8 call14 λ args K h=>by
  unfold zK6 at h
  split at h
  · rename_i zbw zbx zby zbz zd9 zi9 zea
    obtain⟨⟨⟨rfl,zgy,rfl⟩,hs⟩,hk⟩:=h
    try rw[zae zgy] at hs
    try rw[zae zgy] at hk
    exact⟨(λ _ _=>[]),(λ _=>false),zK1,q14 (⟨(⟨zbw,zbx⟩:Frac),(⟨zby,zbz⟩:Frac)⟩:Line) (⟨zd9,zgy⟩:(Sl Gate)) K hs hk⟩
  · exact h.elim
abbrev T61:Tabs:=Tabs.nil
theorem zR9:TabsOk Tryz.prog T61:=TabsOk.nil
abbrev G61:Ctrs:=csm T61 (λ _ _=>[]) (λ _=>false)
def zK7:Ann:=⟨20,[(0,zK [0] []),(1,zK [0,3] []),(2,zK [0,3,7] []),(3,zK [0,3] []),(4,zK [0,3,19] []),(5,zK [2] []),(6,zK [2] [])],
 [(2,zK [0,3] [])],
 [],
 [],[]⟩
abbrev R61:=Bool
abbrev e61 (r:R61):List PA:=[.one (.bool r)]
@[irreducible] def z61:=ptF Tryz.prog G61 zK7 Tryz.f61
def zGK (zaa:(Sl Gate)) (iv0:Int):St:=⟨[(0,zS enc_48 3 zaa),(3,zI iv0)],[],[]⟩
abbrev zPp (K:List PA->Prop) (zaa:(Sl Gate)) (X:St->Prop) (P:Int->Bool) (S:Int->Bool):Prop:=∀ ⦃iv0:Int⦄,P iv0=true->K (e61 (S iv0))->X (zGK zaa iv0)
section
variable {K:List PA->Prop}{zaa:(Sl Gate)}{iv0:Int}{X0:St->Prop}{P0:Int->Bool}{S0:Int->Bool}
def zjX (zaa:(Sl Gate)) (S0:Int->Bool) (iv0:Int):Bool :=
  (cond (decide (iv0 < (zaa.len : Int)))
 (cond ((zaa.get iv0.toNat).Z != (zaa.get 0).Z)
 false
 (S0 (w64 (iv0+(1:Int)))))
 true)
def zjY (zaa:(Sl Gate)) (P0:Int->Bool) (iv0:Int):Bool :=
  (cond (decide (iv0 < (zaa.len : Int)))
 (decide ((0<=iv0/\iv0 < (zaa.len:Int))) &&
 (decide ((0<=(0:Int)/\(0:Int) < (zaa.len:Int))) &&
 (cond ((zaa.get iv0.toNat).Z != (zaa.get 0).Z)
 true
 (P0 (w64 (iv0+(1:Int)))))))
 true)
def zjZ (zaa:(Sl Gate)):Nat->Int->Bool:=lpO (λ _=>default) (zjX zaa)
def zj0 (zaa:(Sl Gate)):Nat->Int->Bool:=lpO (λ _=>false) (zjY zaa)
def zCM (zaa:(Sl Gate)) (iv0:Int):Bool:=zjZ zaa Fuel iv0
def zCN (zaa:(Sl Gate)) (iv0:Int):Bool:=zj0 zaa Fuel iv0
theorem zK8 (hs:zCN zaa iv0=true) (hk:K (e61 (zCM zaa iv0))):z61 K [1,0,1,0] [] (zGK zaa iv0) :=
  zl (λ X=>z61 K [1,0,1,0,0] [X]) (by kernel_rfl) λ X0 hX =>
  (show ∀ k, zPp K zaa X0 (zj0 zaa k) (zjZ zaa k) from zfo _ _ (zjY zaa) (zjX zaa) (zPp K zaa X0)
 (by intro _ hs;exact absurd hs dqk)
 (by intro P0 S0 hX0 iv0 hs hk;exact hX _ (zaM (by kernel_rfl) (zc hs hk (λ hs hk=>(zaI hs λ hc hs=>And.intro hc (zaI hs λ hc hs=>And.intro hc (zc hs hk (λ hs hk=>hk) (λ hs hk=>(hX0 hs hk)))))) (λ hs hk=>hk))))) _ hs hk
def s61 (zaa:(Sl Gate)):Bool :=
  (zCM zaa (1:Int))
def p61 (zaa:(Sl Gate)):Bool :=
  (zCN zaa (1:Int))
end
theorem q61 (zaa:(Sl Gate)) (K:List PA->Prop) (hs:p61 zaa=true) (hk:K (e61 (s61 zaa))):vcFun Tryz.prog G61 zK7 61 [.one (.sl zaa.len 3 (λ i=>enc_48 (zaa.get i)))] K :=
  zaM (by kernel_rfl) (zK8 hs hk)
def zK9 : List PA → COut
  | [.one (.sl zaK zbW zaL)]=>.det (IsE enc_48 3 zbW zaL/\p61 (⟨zaK,zaf zaL⟩:(Sl Gate))=true) [.one (.bool (s61 (⟨zaK,zaf zaL⟩:(Sl Gate))))]
  | _=>.no
theorem zPq:zah Tryz.prog 61:=⟨_,rfl,rfl,by kernel_rfl⟩
theorem zT2:Ok Tryz.prog 61 zK9:=zaV zR9 zPq λ args K h=>by
  unfold zK9 at h
  split at h
  · rename_i zaK zbW zaL
    obtain⟨⟨⟨rfl,zbn,rfl⟩,hs⟩,hk⟩:=h
    try rw[zae zbn] at hs
    try rw[zae zbn] at hk
    exact⟨(λ _ _=>[]),(λ _=>false),zK7,q61 (⟨zaK,zbn⟩:(Sl Gate)) K hs hk⟩
  · exact h.elim
abbrev T15:Tabs:=(Tabs.nil.addF 26 zB2)
theorem zSa:TabsOk Tryz.prog T15:=(TabsOk.nil.addF zRG)
abbrev G15:Ctrs:=csm T15 (λ _ _=>[]) (λ _=>false)
def zLa:Ann:=⟨35,[(0,zK [0,1,2,3,8] [8]),(1,zK [0,1,2,3,8,11] [8]),(2,zK [0,1,2,3,8] [8]),(3,zK [8] [8])],
 [],
 [(3,zK [0,1,2,3,8] [8])],
 [],[]⟩
abbrev R15:=Line
abbrev e15 (r:R15):List PA:=[.agg [.int .i64 r.Slope.Num,.int .i64 r.Slope.Den,.int .i64 r.Start.Num,.int .i64 r.Start.Den]]
@[irreducible] def z15:=ptF Tryz.prog G15 zLa Tryz.f15
section
variable {K:List PA->Prop}{z:Int}{x:Int}{w:Int}{y_a3:Int}{zv0:Int}{xv0:Int}{wv0:Int}{yv0:Int}
def zpv (zv0:Int) (xv0:Int) (wv0:Int) (yv0:Int):Line :=
  (⟨(s26 (w64 (yv0 - xv0)) (w64 (wv0 - zv0))),(s26 (w64 ((w64 (xv0 * wv0)) - (w64 (yv0 * zv0)))) (w64 (wv0 - zv0)))⟩:Line)
def zpw (zv0:Int) (xv0:Int) (wv0:Int) (yv0:Int):Bool :=
  (decide ((p26 (w64 (yv0 - xv0)) (w64 (wv0 - zv0))=true)) &&
 (decide ((p26 (w64 ((w64 (xv0 * wv0)) - (w64 (yv0 * zv0)))) (w64 (wv0 - zv0))=true)) &&
 true))
theorem zCO (hs:zpw zv0 xv0 wv0 yv0=true) (hk:K (e15 (zpv zv0 xv0 wv0 yv0))):z15 K [1,1] [] ⟨[(0,zI zv0),(1,zI xv0),(2,zI wv0),(3,zI yv0),(8,zp 8 0)],[(8,.box 42 (zm (zbr (⟨(⟨(0:Int),(0:Int)⟩:Frac),(⟨(0:Int),(0:Int)⟩:Frac)⟩:Line))))],[]⟩:=zaM (by kernel_rfl) (zaI hs λ hc hs=>And.intro hc (zaI hs λ hc hs=>And.intro hc hk))
def s15 (z:Int) (x:Int) (w:Int) (y_a3:Int):Line :=
  (cond (decide (w < z))
 (zpv w y_a3 z x)
 (zpv z x w y_a3))
def p15 (z:Int) (x:Int) (w:Int) (y_a3:Int):Bool :=
  (cond (decide (w < z))
 (zpw w y_a3 z x)
 (zpw z x w y_a3))
end
theorem q15 (z:Int) (x:Int) (w:Int) (y_a3:Int) (K:List PA->Prop) (hs:p15 z x w y_a3=true) (hk:K (e15 (s15 z x w y_a3))):vcFun Tryz.prog G15 zLa 15 [.one (.int .i64 z),.one (.int .i64 x),.one (.int .i64 w),.one (.int .i64 y_a3)] K :=
  zaM (by kernel_rfl) (zc hs hk (λ hs hk=>(zCO hs hk)) (λ hs hk=>(zCO hs hk)))
def zLb : List PA → COut
  | [.one (.int .i64 a0),.one (.int .i64 a1),.one (.int .i64 a2),.one (.int .i64 a3)]=>.det (p15 a0 a1 a2 a3=true) [.agg [.int .i64 ((s15 a0 a1 a2 a3).Slope.Num),.int .i64 ((s15 a0 a1 a2 a3).Slope.Den),.int .i64 ((s15 a0 a1 a2 a3).Start.Num),.int .i64 ((s15 a0 a1 a2 a3).Start.Den)]]
  | _=>.no
theorem zPr:zah Tryz.prog 15:=⟨_,rfl,rfl,by kernel_rfl⟩
theorem zT3:Ok Tryz.prog 15 zLb:=zaV zSa zPr λ args K h=>by
  unfold zLb at h
  split at h
  · rename_i a0 a1 a2 a3
    obtain⟨hs,hk⟩:=h
    exact⟨(λ _ _=>[]),(λ _=>false),zLa,q15 a0 a1 a2 a3 K hs hk⟩
  · exact h.elim
abbrev T81:Tabs:=Tabs.nil
theorem zSb:TabsOk Tryz.prog T81:=TabsOk.nil
abbrev G81:Ctrs:=csm T81 (λ _ _=>[]) (λ _=>false)
def zPs:Ann:=⟨11,[(0,zK [1,2] [2]),(1,zK [2,6] [2]),(2,zK [4] []),(3,zK [4] [])],
 [],
 [],
 [],[]⟩
abbrev R81:=Int
abbrev e81 (r:R81):List PA:=[.one (.int .i64 r)]
section
variable {K:List PA->Prop}{g:Gate}{which:Int}
def s81 (g:Gate) (which:Int):Int :=
  (cond (which == (0:Int))
 g.Low
 g.High)
end
theorem q81 (g:Gate) (which:Int) (K:List PA->Prop) (hk:K (e81 (s81 g which))):vcFun Tryz.prog G81 zPs 81 [.agg (enc_48 g),.one (.int .i64 which)] K :=
  zaM (by kernel_rfl) (zt hk (λ hk=>hk) (λ hk=>hk))
def zLc : List PA → COut
  | [.agg [.int .i64 zla,.int .i64 zc9,.int .i64 zch],.one (.int .i64 a1)]=>.tot [.one (.int .i64 (s81 (⟨zla,zc9,zch⟩:Gate) a1))]
  | _=>.no
theorem zPt:zah Tryz.prog 81:=⟨_,rfl,rfl,by kernel_rfl⟩
theorem zT4:Ok Tryz.prog 81 zLc:=zaV zSb zPt λ args K h=>by
  unfold zLc at h
  split at h
  · rename_i zla zc9 zch a1
    have hk:=h
    exact⟨(λ _ _=>[]),(λ _=>false),zPs,q81 (⟨zla,zc9,zch⟩:Gate) a1 K hk⟩
  · exact h.elim
end Go.Proofs
