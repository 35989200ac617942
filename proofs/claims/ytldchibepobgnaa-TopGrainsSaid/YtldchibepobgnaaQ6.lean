/- Part 6 of what the proof rests on: a machine that runs functions of the program on pure values, proved sound; the functions that the law reaches, and what they compute. -/
import Derived.Test.YtldchibepobgnaaQ5
set_option linter.all false
namespace Go.Proofs
open Go Go.Pm
set_option maxRecDepth 100000
set_option linter.unusedVariables false
attribute [local irreducible] Go.Pm.vcFun Go.Pm.vc Go.Pm.vcIter
abbrev T42:Tabs:=(Tabs.nil.addF 43 zIf)
theorem zPu:TabsOk Try.prog T42:=(TabsOk.nil.addF zRG)
abbrev G42:Ctrs:=csm T42 (λ _ _=>[]) (λ l=>Nat.beq l 12)
def zIg:Ann:=⟨44,[(0,zK [0,1] []),(1,zK [0,1,6] [12]),(2,zK [1,6,7] [12,14]),(3,zK [1,6,7,16,17] [12,14]),(4,zK [1,6,7,16,17,18] [12,14]),(5,zK [1,6,7,8,16,17] [12,14]),(6,zK [1,6,7,8,9,16,17] [9,12,14]),(7,zK [1,6,7,8,9,10,11,16,17] [9,12,14]),(8,zK [1,6,7,8,9,10,16,17,30] [9,12,14]),(9,zK [1,6,7,8,9,10,16,17] [9,12,14]),(10,zK [1,6,7,8,10,16,17] [12,14]),(11,zK [1,6,7,16,17] [12,14]),(12,zK [1,6,7,16,17] [12,14]),(13,zK [4,5] [14])],
 [(4,zK [1,6,7,16,17] [12,14])],
 [(7,zK [1,6,7,8,9,16,17] [9,12,14])],
 [],[]⟩
abbrev R42:=((Sl Int)×Int)
abbrev e42 (r:R42):List PA:=[.one (.sl r.1.len 1 (λ i=>zaB (r.1.get i))),.one (.int .i64 r.2)]
@[irreducible] def z42:=zQK Try.prog G42 zIg Try.f42 3 1 8
def zEX (c0:Scanner) (c1:(Sl Int)) (c2:(Sl Int)) (c3:(Sl Int)) (n:Int) (zcd:Int) (zc2:(Sl Int)) (zbq:Nat) (zbJ:(List Int->Option (List Int))) (zdD:Nat->List PV):St:=⟨[(1,zP (.fn 43 [] [.fp (ze7 c0) 0,.fp (ze6 c1) 0,.fp (ze6 c2) 0,.fp (ze6 c3) 0])),(6,.one (.c (.mo 12))),(7,zv 14),(16,zI (n.toNat:Int)),(17,zI zcd)],[(12,.mo 111 3 (KF.ints,3,false,[some .i64]) zbq zbJ),(14,.vec 3 1 8 zc2.len zdD)],[]⟩
abbrev zIh (K:List PA->Prop) (c0:Scanner) (c1:(Sl Int)) (c2:(Sl Int)) (c3:(Sl Int)) (n:Int) (X:St->Prop) (P:Int->(Sl Int)->Nat->(List Int->Option (List Int))->Bool) (S:Int->(Sl Int)->Nat->(List Int->Option (List Int))->((Sl Int)×Int)):Prop:=∀ ⦃zcd:Int⦄ ⦃zc2:(Sl Int)⦄ ⦃zbq:Nat⦄ ⦃zbJ:(List Int->Option (List Int))⦄ ⦃zdD:Nat->List PV⦄,P zcd zc2 zbq zbJ=true->K (e42 (S zcd zc2 zbq zbJ))->zdD=zg zaB zc2->X (zEX c0 c1 c2 c3 n zcd zc2 zbq zbJ zdD)
section
variable {K:List PA->Prop}{c0:Scanner}{c1:(Sl Int)}{c2:(Sl Int)}{c3:(Sl Int)}{n:Int}{zcd:Int}{zc2:(Sl Int)}{zbq:Nat}{zbJ:(List Int->Option (List Int))}{zdD:Nat->List PV}{X0:St->Prop}{P0:Int->(Sl Int)->Nat->(List Int->Option (List Int))->Bool}{S0:Int->(Sl Int)->Nat->(List Int->Option (List Int))->((Sl Int)×Int)}{iv1:Int}{zhd:Int}{zd4:Int}{zd5:Int}{zjl:Int}{zda:(Sl Int)}{zb6:Nat}{zbP:(List Int->Option (List Int))}{zmY:Nat->List PV}
def zz8 (S0:Int->(Sl Int)->Nat->(List Int->Option (List Int))->((Sl Int)×Int)) (c0:Scanner) (c1:(Sl Int)) (c2:(Sl Int)) (c3:(Sl Int)) (n:Int) (iv1:Int) (zhd:Int) (zd4:Int) (zd5:Int) (zjl:Int) (zda:(Sl Int)) (zb6:Nat) (zbP:(List Int->Option (List Int))):((Sl Int)×Int) :=
  (cond (!(zbP [zd4, zd5, zjl]).isSome)
 (S0 (w64 (zhd+(1:Int))) (⟨zda.len,(setT iv1.toNat (zb6:Int) zda.get)⟩:Sl Int) (addN (zbP [zd4,zd5,zjl]) zb6) (ztB [zd4,zd5,zjl] [(zb6:Int)] zbP))
 (S0 (w64 (zhd+(1:Int))) (⟨zda.len,(setT iv1.toNat (zvS (zbP [zd4,zd5,zjl]) 0) zda.get)⟩:Sl Int) zb6 zbP))
def zz9 (P0:Int->(Sl Int)->Nat->(List Int->Option (List Int))->Bool) (c0:Scanner) (c1:(Sl Int)) (c2:(Sl Int)) (c3:(Sl Int)) (n:Int) (iv1:Int) (zhd:Int) (zd4:Int) (zd5:Int) (zjl:Int) (zda:(Sl Int)) (zb6:Nat) (zbP:(List Int->Option (List Int))):Bool :=
  (cond (!(zbP [zd4, zd5, zjl]).isSome)
 (decide ((0<=iv1/\iv1 < (zda.len:Int))) &&
 (decide ((iv1.toNat < zda.len)) &&
 (P0 (w64 (zhd+(1:Int))) (⟨zda.len,(setT iv1.toNat (zb6:Int) zda.get)⟩:Sl Int) (addN (zbP [zd4,zd5,zjl]) zb6) (ztB [zd4,zd5,zjl] [(zb6:Int)] zbP))))
 (decide ((0<=iv1/\iv1 < (zda.len:Int))) &&
 (decide ((iv1.toNat < zda.len)) &&
 (P0 (w64 (zhd+(1:Int))) (⟨zda.len,(setT iv1.toNat (zvS (zbP [zd4,zd5,zjl]) 0) zda.get)⟩:Sl Int) zb6 zbP))))
theorem zIi (hX0:zIh K c0 c1 c2 c3 n X0 P0 S0) (hs:zz9 P0 c0 c1 c2 c3 n iv1 zhd zd4 zd5 zjl zda zb6 zbP=true) (hk:K (e42 (zz8 S0 c0 c1 c2 c3 n iv1 zhd zd4 zd5 zjl zda zb6 zbP))) (zsx:zmY=zg zaB zda):z42 K [1,1,1,0,1,0,0,1,1,0,0,1,1] [X0] ⟨[(1,zP (.fn 43 [] [.fp (ze7 c0) 0,.fp (ze6 c1) 0,.fp (ze6 c2) 0,.fp (ze6 c3) 0])),(6,.one (.c (.mo 12))),(7,zv 14),(8,zI iv1),(9,zp 9 0),(16,zI (n.toNat:Int)),(17,zI zhd)],[(9,.box 111 (zm (zGh (zd4,zd5,zjl)))),(12,.mo 111 3 (KF.ints,3,false,[some .i64]) zb6 zbP),(14,.vec 3 1 8 zda.len zmY)],[]⟩:=by subst zsx;exact zaI (by kernel_rfl) (zc hs hk (λ hs hk=>(zaS hs λ hc hs=>And.intro hc (zaS hs λ hc hs=>And.intro hc (hX0 hs hk (ziE (enc:=zaB) (i:=iv1.toNat) (k:=0) (f:=zda.get) (new:=(zaB (zb6:Int))) (v:=(zb6:Int)) rfl rfl))))) (λ hs hk=>(zaS hs λ hc hs=>And.intro hc (zaS hs λ hc hs=>And.intro hc (hX0 hs hk (ziE (enc:=zaB) (i:=iv1.toNat) (k:=0) (f:=zda.get) (new:=(zaB (zvS (zbP [zd4,zd5,zjl]) 0))) (v:=(zvS (zbP [zd4,zd5,zjl]) 0)) rfl rfl))))))
def zAa (c0:Scanner) (c1:(Sl Int)) (c2:(Sl Int)) (c3:(Sl Int)) (n:Int) (S0:Int->(Sl Int)->Nat->(List Int->Option (List Int))->((Sl Int)×Int)) (zcd:Int) (zc2:(Sl Int)) (zbq:Nat) (zbJ:(List Int->Option (List Int))):((Sl Int)×Int) :=
  (cond (decide (zcd < (n.toNat : Int)))
 (zz8 S0 c0 c1 c2 c3 n zcd zcd ((s43 c0 c1 c2 c3 zcd).1) ((s43 c0 c1 c2 c3 zcd).2.1) ((s43 c0 c1 c2 c3 zcd).2.2) zc2 zbq zbJ)
 (zc2,(zbq:Int)))
def zAb (c0:Scanner) (c1:(Sl Int)) (c2:(Sl Int)) (c3:(Sl Int)) (n:Int) (P0:Int->(Sl Int)->Nat->(List Int->Option (List Int))->Bool) (zcd:Int) (zc2:(Sl Int)) (zbq:Nat) (zbJ:(List Int->Option (List Int))):Bool :=
  (cond (decide (zcd < (n.toNat : Int)))
 (decide ((p43 c0 c1 c2 c3 zcd=true)) &&
 (zz9 P0 c0 c1 c2 c3 n zcd zcd ((s43 c0 c1 c2 c3 zcd).1) ((s43 c0 c1 c2 c3 zcd).2.1) ((s43 c0 c1 c2 c3 zcd).2.2) zc2 zbq zbJ))
 true)
def zAc (c0:Scanner) (c1:(Sl Int)) (c2:(Sl Int)) (c3:(Sl Int)) (n:Int):Nat->Int->(Sl Int)->Nat->(List Int->Option (List Int))->((Sl Int)×Int):=lpO (λ _ _ _ _=>default) (zAa c0 c1 c2 c3 n)
def zAd (c0:Scanner) (c1:(Sl Int)) (c2:(Sl Int)) (c3:(Sl Int)) (n:Int):Nat->Int->(Sl Int)->Nat->(List Int->Option (List Int))->Bool:=lpO (λ _ _ _ _=>false) (zAb c0 c1 c2 c3 n)
def zAe (c0:Scanner) (c1:(Sl Int)) (c2:(Sl Int)) (c3:(Sl Int)) (n:Int) (zcd:Int) (zc2:(Sl Int)) (zbq:Nat) (zbJ:(List Int->Option (List Int))):((Sl Int)×Int):=zAc c0 c1 c2 c3 n Fuel zcd zc2 zbq zbJ
def zAf (c0:Scanner) (c1:(Sl Int)) (c2:(Sl Int)) (c3:(Sl Int)) (n:Int) (zcd:Int) (zc2:(Sl Int)) (zbq:Nat) (zbJ:(List Int->Option (List Int))):Bool:=zAd c0 c1 c2 c3 n Fuel zcd zc2 zbq zbJ
theorem zIj (hs:zAf c0 c1 c2 c3 n zcd zc2 zbq zbJ=true) (hk:K (e42 (zAe c0 c1 c2 c3 n zcd zc2 zbq zbJ))) (zjk:zdD=zg zaB zc2):z42 K [1,1,1,0,1,0] [] (zEX c0 c1 c2 c3 n zcd zc2 zbq zbJ zdD) :=
  zl (λ X=>z42 K [1,1,1,0,1,0,0] [X]) (by kernel_rfl) λ X0 hX =>
  (show ∀ k, zIh K c0 c1 c2 c3 n X0 (zAd c0 c1 c2 c3 n k) (zAc c0 c1 c2 c3 n k) from zg4 _ _ (zAb c0 c1 c2 c3 n) (zAa c0 c1 c2 c3 n) (zIh K c0 c1 c2 c3 n X0)
 (by intro _ _ _ _ _ hs;exact absurd hs dqk)
 (by intro P0 S0 hX0 zcd zc2 zbq zbJ zdD hs hk zjk;subst zjk;exact hX _ (zaI (by kernel_rfl) (zc hs hk (λ hs hk=>(zaS hs λ hc hs=>And.intro (And.intro (zE zaY 2 c0.Next.get) (And.intro (zE za8 2 c0.Out.get) (And.intro (zE zaB 1 c1.get) (And.intro (zE zaB 1 c2.get) (And.intro (zE zaB 1 c3.get) hc))))) (zIi hX0 hs hk rfl))) (λ hs hk=>hk))))) _ hs hk zjk
def s42 (c0:Scanner) (c1:(Sl Int)) (c2:(Sl Int)) (c3:(Sl Int)) (n:Int):((Sl Int)×Int) :=
  (zAe c0 c1 c2 c3 n (0:Int) (⟨n.toNat,(λ _=>(0:Int))⟩:Sl Int) 0 (λ _=>none))
def p42 (c0:Scanner) (c1:(Sl Int)) (c2:(Sl Int)) (c3:(Sl Int)) (n:Int):Bool :=
  (decide ((0<=n/\n=n/\n<=1000000)) &&
 (zAf c0 c1 c2 c3 n (0:Int) (⟨n.toNat,(λ _=>(0:Int))⟩:Sl Int) 0 (λ _=>none)))
end
theorem q42 (c0:Scanner) (c1:(Sl Int)) (c2:(Sl Int)) (c3:(Sl Int)) (n:Int) (K:List PA->Prop) (hs:p42 c0 c1 c2 c3 n=true) (hk:K (e42 (s42 c0 c1 c2 c3 n))):zCE Try.prog G42 zIg 42 [.one (.int .i64 n),.one (.fn 43 [] [.fp (ze7 c0) 0,.fp (ze6 c1) 0,.fp (ze6 c2) 0,.fp (ze6 c3) 0])] 3 1 8 K :=
  zaI (by kernel_rfl) (zaS hs λ hc hs=>And.intro hc (zIj hs hk rfl))
abbrev zMA : OwnK := .mkv 3 1 8 fun
  | [.one (.int .i64 a0),.one (.fn 43 [] [.fp [.sl c0_Next_n c0_Next_s c0_Next_g,.sl c0_Out_n c0_Out_s c0_Out_g] 0,.fp [.sl c1_n c1_s c1_g] 0,.fp [.sl c2_n c2_s c2_g] 0,.fp [.sl c3_n c3_s c3_g] 0])]=>some (IsE zaY 2 c0_Next_s c0_Next_g/\IsE za8 2 c0_Out_s c0_Out_g/\IsE zaB 1 c1_s c1_g/\IsE zaB 1 c2_s c2_g/\IsE zaB 1 c3_s c3_g/\p42 (⟨(⟨c0_Next_n,zbL c0_Next_g⟩:(Sl (Int×Int))),(⟨c0_Out_n,zb5 c0_Out_g⟩:(Sl (Bool×Bool)))⟩:Scanner) (⟨c1_n,zbh c1_g⟩:(Sl Int)) (⟨c2_n,zbh c2_g⟩:(Sl Int)) (⟨c3_n,zbh c3_g⟩:(Sl Int)) a0=true,(((s42 (⟨(⟨c0_Next_n,zbL c0_Next_g⟩:(Sl (Int×Int))),(⟨c0_Out_n,zb5 c0_Out_g⟩:(Sl (Bool×Bool)))⟩:Scanner) (⟨c1_n,zbh c1_g⟩:(Sl Int)) (⟨c2_n,zbh c2_g⟩:(Sl Int)) (⟨c3_n,zbh c3_g⟩:(Sl Int)) a0).1).len),(λ i=>zaB (((s42 (⟨(⟨c0_Next_n,zbL c0_Next_g⟩:(Sl (Int×Int))),(⟨c0_Out_n,zb5 c0_Out_g⟩:(Sl (Bool×Bool)))⟩:Scanner) (⟨c1_n,zbh c1_g⟩:(Sl Int)) (⟨c2_n,zbh c2_g⟩:(Sl Int)) (⟨c3_n,zbh c3_g⟩:(Sl Int)) a0).1).get i)),[(.int .i64 ((s42 (⟨(⟨c0_Next_n,zbL c0_Next_g⟩:(Sl (Int×Int))),(⟨c0_Out_n,zb5 c0_Out_g⟩:(Sl (Bool×Bool)))⟩:Scanner) (⟨c1_n,zbh c1_g⟩:(Sl Int)) (⟨c2_n,zbh c2_g⟩:(Sl Int)) (⟨c3_n,zbh c3_g⟩:(Sl Int)) a0).2))])
  | _=>none
theorem zMB:zal Try.prog 42:=⟨_,rfl,rfl,by kernel_rfl⟩
theorem zRH:zrf Try.prog 42 zMA:=zGd zPu zMB λ az p n get rs h hs=>by
  split at h
  · rename_i a0 c0_Next_n c0_Next_s c0_Next_g c0_Out_n c0_Out_s c0_Out_g c1_n c1_s c1_g c2_n c2_s c2_g c3_n c3_s c3_g
    cases h
    obtain⟨⟨rfl,c0_Next_f,rfl⟩,⟨rfl,c0_Out_f,rfl⟩,⟨rfl,c1_f,rfl⟩,⟨rfl,c2_f,rfl⟩,⟨rfl,c3_f,rfl⟩,hs⟩:=hs
    try rw[zbB c0_Next_f] at hs
    try rw[zbU c0_Out_f] at hs
    try rw[zaV c1_f] at hs
    try rw[zaV c2_f] at hs
    try rw[zaV c3_f] at hs
    try rw[zbB c0_Next_f]
    try rw[zbU c0_Out_f]
    try rw[zaV c1_f]
    try rw[zaV c2_f]
    try rw[zaV c3_f]
    exact⟨_,λ _ _ h=>h,(λ _ _=>[]),(λ l=>Nat.beq l 12),zIg,q42 (⟨(⟨c0_Next_n,c0_Next_f⟩:(Sl (Int×Int))),(⟨c0_Out_n,c0_Out_f⟩:(Sl (Bool×Bool)))⟩:Scanner) (⟨c1_n,c1_f⟩:(Sl Int)) (⟨c2_n,c2_f⟩:(Sl Int)) (⟨c3_n,c3_f⟩:(Sl Int)) a0 _ hs rfl⟩
  · cases h
abbrev T23:Tabs:=((((Tabs.nil.addF 39 zH8).addF 40 zIe).addO 42 zMA).addM 43 (λ _=>none))
theorem zPv:TabsOk Try.prog T23:=((((TabsOk.nil.addF zRD).addF zRF).addO zRH).addM (f:=43) (c:=λ _=>none) (λ _ _ _ _ h=>by cases h))
abbrev G23:Ctrs:=csm T23 (λ _ _=>[]) (λ _=>false)
def zAg:Ann:=⟨121,[(0,zK [1,2] [1,2]),(1,zK [1,2,3] [1,2,3]),(2,zK [1,2,3,4] [1,2,3,4,22]),(3,zK [1,2,3,4,5,6] [1,2,3,4,5,22]),(4,zK [1,2,3,4,5,6,30,31,32] [1,2,3,4,5,22]),(5,zK [1,2,3,4,5,6,30,31,32,33] [1,2,3,4,5,22]),(6,zK [1,2,3,4,5,6,7,8,30,31,32] [1,2,3,4,5,22]),(7,zK [1,2,3,4,5,6,30,31,32] [1,2,3,4,5,22]),(8,zK [1,2,3,4,5,6,30,31,32] [1,2,3,4,5,22]),(9,zK [1,2,3,4,5,6,9,10] [1,2,3,4,5,22,49]),(10,zK [1,2,3,4,5,6,10] [1,2,3,4,5,22]),(11,zK [1,2,3,4,5,6,10,55] [1,2,3,4,5,22]),(12,zK [1,2,3,4,5,6] [1,2,3,4,5,22]),(13,zK [1,2,3,4,5,11] [1,2,3,4,5,11,22,58,60]),(14,zK [1,2,3,4,5,11,62,63,64] [1,2,3,4,5,11,22,58,60]),(15,zK [1,2,3,4,5,11,62,63,64,65] [1,2,3,4,5,11,22,58,60]),(16,zK [1,2,3,4,5,11,12,13,62,63,64] [1,2,3,4,5,11,22,58,60]),(17,zK [1,2,3,4,5,11,62,63,64] [1,2,3,4,5,11,22,58,60]),(18,zK [1,2,3,4,5,11,62,63,64] [1,2,3,4,5,11,22,58,60]),(19,zK [1,2,4,5,11,77,78,79] [1,2,4,5,11,22,58,60]),(20,zK [1,2,4,5,11,77,78,79,80] [1,2,4,5,11,22,58,60]),(21,zK [1,2,4,5,11,14,15,77,78,79] [1,2,4,5,11,22,58,60]),(22,zK [1,2,4,5,11,14,15,16,77,78,79] [1,2,4,5,11,16,22,58,60]),(23,zK [1,2,4,5,11,77,78,79] [1,2,4,5,11,22,58,60]),(24,zK [1,2,4,5,11,77,78,79] [1,2,4,5,11,22,58,60]),(25,zK [2] [2,58,60])],
 [(4,zK [1,2,3,4,5,6] [1,2,3,4,5,22]),(5,zK [1,2,3,4,5,6,30,31,32] [1,2,3,4,5,22]),(15,zK [1,2,3,4,5,11,62,63,64] [1,2,3,4,5,11,22,58,60]),(20,zK [1,2,4,5,11,77,78,79] [1,2,4,5,11,22,58,60])],
 [(2,zK [1,2,3] [1,2,3]),(4,zK [1,2,3,4,5,6] [1,2,3,4,5,22]),(9,zK [1,2,3,4,5,6] [1,2,3,4,5,22]),(10,⟨[1,2,3,4,5,6,9,10],[1,2,3,4,5,22],[],[],[],[],[(9,1,λ _=>zaB default)]⟩),(13,zK [1,2,3,4,5,6] [1,2,3,4,5,22]),(19,zK [1,2,3,4,5,11] [1,2,3,4,5,11,22,58,60])],
 [],[]⟩
abbrev R23:=Scanner
abbrev e23 (r:R23):List PA:=[.agg [.sl r.Next.len 2 (λ i=>zaY (r.Next.get i)),.sl r.Out.len 2 (λ i=>za8 (r.Out.get i))]]
@[irreducible] def z23:=ptF Try.prog G23 zAg Try.f23
def zEY (zeH:Int) (zdr:(Sl (Int×Int))) (zc8:(Sl (Bool×Bool))) (zb7:(Sl Int)) (zdb:(Sl Int)) (zgx:(Sl Int)) (zeA:Nat->List PV) (zdC:Nat->List PV) (zd9:Nat->List PV) (zfb:Nat->List PV) (zh7:Nat->List PV):St:=⟨[(1,zp 1 0),(2,zp 2 0),(3,zp 3 0),(4,zp 4 0),(5,zp 5 0),(6,zI zeH)],[(1,.fbox [.sl zdr.len 2 zeA,.sl zc8.len 2 zdC]),(2,.box 39 [.p (.nils),.p (.nils)]),(3,.fbox [.sl zb7.len 1 zd9]),(4,.box 32 [.vec 22]),(5,.box 32 [.p (.sl zdb.len 1 zfb)]),(22,.vec 3 1 8 zgx.len zh7)],[]⟩
abbrev zAh (K:List PA->Prop) (X:St->Prop) (P:Int->(Sl (Int×Int))->(Sl (Bool×Bool))->(Sl Int)->(Sl Int)->(Sl Int)->Bool) (S:Int->(Sl (Int×Int))->(Sl (Bool×Bool))->(Sl Int)->(Sl Int)->(Sl Int)->Scanner):Prop:=∀ ⦃zeH:Int⦄ ⦃zdr:(Sl (Int×Int))⦄ ⦃zc8:(Sl (Bool×Bool))⦄ ⦃zb7:(Sl Int)⦄ ⦃zdb:(Sl Int)⦄ ⦃zgx:(Sl Int)⦄ ⦃zeA:Nat->List PV⦄ ⦃zdC:Nat->List PV⦄ ⦃zd9:Nat->List PV⦄ ⦃zfb:Nat->List PV⦄ ⦃zh7:Nat->List PV⦄,P zeH zdr zc8 zb7 zdb zgx=true->K (e23 (S zeH zdr zc8 zb7 zdb zgx))->zeA=zg zaY zdr->zdC=zg za8 zc8->zd9=zg zaB zb7->zfb=zg zaB zdb->zh7=zg zaB zgx->X (zEY zeH zdr zc8 zb7 zdb zgx zeA zdC zd9 zfb zh7)
def zEZ (zea:Int) (zeU:(Sl Int)) (zc0:Int) (zdO:Int) (zcS:(Sl (Int×Int))) (zcq:(Sl (Bool×Bool))) (zch:(Sl Int)) (zcm:(Sl Int)) (zeV:(Sl Int)) (zh8:Nat->List PV) (zdE:Nat->List PV) (zdF:Nat->List PV) (zeb:Nat->List PV) (zfc:Nat->List PV) (zh9:Nat->List PV):St:=⟨[(1,zp 1 0),(2,zp 2 0),(3,zp 3 0),(4,zp 4 0),(5,zp 5 0),(6,zI zea),(30,zP (.sl zeU.len 1 zh8)),(31,zI zc0),(32,zI zdO)],[(1,.fbox [.sl zcS.len 2 zdE,.sl zcq.len 2 zdF]),(2,.box 39 [.p (.nils),.p (.nils)]),(3,.fbox [.sl zch.len 1 zeb]),(4,.box 32 [.vec 22]),(5,.box 32 [.p (.sl zcm.len 1 zfc)]),(22,.vec 3 1 8 zeV.len zh9)],[]⟩
abbrev zMC (K:List PA->Prop) (X:St->Prop) (P:Int->(Sl Int)->Int->Int->(Sl (Int×Int))->(Sl (Bool×Bool))->(Sl Int)->(Sl Int)->(Sl Int)->Bool) (S:Int->(Sl Int)->Int->Int->(Sl (Int×Int))->(Sl (Bool×Bool))->(Sl Int)->(Sl Int)->(Sl Int)->Scanner):Prop:=∀ ⦃zea:Int⦄ ⦃zeU:(Sl Int)⦄ ⦃zc0:Int⦄ ⦃zdO:Int⦄ ⦃zcS:(Sl (Int×Int))⦄ ⦃zcq:(Sl (Bool×Bool))⦄ ⦃zch:(Sl Int)⦄ ⦃zcm:(Sl Int)⦄ ⦃zeV:(Sl Int)⦄ ⦃zh8:Nat->List PV⦄ ⦃zdE:Nat->List PV⦄ ⦃zdF:Nat->List PV⦄ ⦃zeb:Nat->List PV⦄ ⦃zfc:Nat->List PV⦄ ⦃zh9:Nat->List PV⦄,P zea zeU zc0 zdO zcS zcq zch zcm zeV=true->K (e23 (S zea zeU zc0 zdO zcS zcq zch zcm zeV))->zh8=zg zaB zeU->zdE=zg zaY zcS->zdF=zg za8 zcq->zeb=zg zaB zch->zfc=zg zaB zcm->zh9=zg zaB zeV->X (zEZ zea zeU zc0 zdO zcS zcq zch zcm zeV zh8 zdE zdF zeb zfc zh9)
def zE0 (zaG:(Sl Int)) (zdY:(Sl (Int×Int))) (zdZ:(Sl (Bool×Bool))) (zaP:(Sl Int)) (zdP:Int) (zeW:(Sl Int)) (zfZ:(Sl (Int×Int))) (zf0:(Sl (Bool×Bool))) (zia:Nat->List PV) (zib:Nat->List PV) (zic:Nat->List PV):St:=⟨[(1,zp 1 0),(2,zp 2 0),(3,zp 3 0),(4,zp 4 0),(5,zp 5 0),(11,zp 11 0),(62,zS zaB 1 zaP),(63,zI (zaP.len:Int)),(64,zI zdP)],[(1,.fbox (ze7 (⟨zdY,zdZ⟩:Scanner))),(2,.box 39 [.p (.nils),.p (.nils)]),(3,.fbox [.sl zaP.len 1 (λ i=>zaB (zaP.get i))]),(4,.box 32 [.vec 22]),(5,.box 32 [.p (.sl zaG.len 1 (λ i=>zaB (zaG.get i)))]),(11,.box 39 [.vec 58,.vec 60]),(22,.vec 3 1 8 zeW.len zia),(58,.vec 78 2 16 zfZ.len zib),(60,.vec 79 2 2 zf0.len zic)],[]⟩
abbrev zMD (K:List PA->Prop) (zaG:(Sl Int)) (zdY:(Sl (Int×Int))) (zdZ:(Sl (Bool×Bool))) (zaP:(Sl Int)) (X:St->Prop) (P:Int->(Sl Int)->(Sl (Int×Int))->(Sl (Bool×Bool))->Bool) (S:Int->(Sl Int)->(Sl (Int×Int))->(Sl (Bool×Bool))->Scanner):Prop:=∀ ⦃zdP:Int⦄ ⦃zeW:(Sl Int)⦄ ⦃zfZ:(Sl (Int×Int))⦄ ⦃zf0:(Sl (Bool×Bool))⦄ ⦃zia:Nat->List PV⦄ ⦃zib:Nat->List PV⦄ ⦃zic:Nat->List PV⦄,P zdP zeW zfZ zf0=true->K (e23 (S zdP zeW zfZ zf0))->zia=zg zaB zeW->zib=zg zaY zfZ->zic=zg za8 zf0->X (zE0 zaG zdY zdZ zaP zdP zeW zfZ zf0 zia zib zic)
def zE1 (zaG:(Sl Int)) (zcO:(Sl (Int×Int))) (zds:(Sl (Bool×Bool))) (zaF:(Sl Int)) (zc1:(Sl Int)) (zb9:Int) (zfd:(Sl (Int×Int))) (zfe:(Sl (Bool×Bool))) (zid:Nat->List PV) (zie:Nat->List PV):St:=⟨[(1,zp 1 0),(2,zp 2 0),(4,zp 4 0),(5,zp 5 0),(11,zp 11 0),(77,zS zaB 1 zaF),(78,zI (zaF.len:Int)),(79,zI zb9)],[(1,.fbox (ze7 (⟨zcO,zds⟩:Scanner))),(2,.box 39 [.p (.nils),.p (.nils)]),(4,.box 32 [.vec 22]),(5,.box 32 [.p (.sl zaG.len 1 (λ i=>zaB (zaG.get i)))]),(11,.box 39 [.vec 58,.vec 60]),(22,.vec 3 1 8 zc1.len (λ i=>zaB (zc1.get i))),(58,.vec 78 2 16 zfd.len zid),(60,.vec 79 2 2 zfe.len zie)],[]⟩
abbrev zME (K:List PA->Prop) (zaG:(Sl Int)) (zcO:(Sl (Int×Int))) (zds:(Sl (Bool×Bool))) (zaF:(Sl Int)) (zc1:(Sl Int)) (X:St->Prop) (P:Int->(Sl (Int×Int))->(Sl (Bool×Bool))->Bool) (S:Int->(Sl (Int×Int))->(Sl (Bool×Bool))->Scanner):Prop:=∀ ⦃zb9:Int⦄ ⦃zfd:(Sl (Int×Int))⦄ ⦃zfe:(Sl (Bool×Bool))⦄ ⦃zid:Nat->List PV⦄ ⦃zie:Nat->List PV⦄,P zb9 zfd zfe=true->K (e23 (S zb9 zfd zfe))->zid=zg zaY zfd->zie=zg za8 zfe->X (zE1 zaG zcO zds zaF zc1 zb9 zfd zfe zid zie)
section
variable {K:List PA->Prop}{s:Scanner}{zce:(Sl (Int×Int))}{zbO:(Sl (Bool×Bool))}{zcF:(Sl Int)}{zeB:Nat->List PV}{zcL:Nat->List PV}{zob:Nat->List PV}{zmZ:Int}{zff:(Sl (Int×Int))}{zdB:(Sl (Bool×Bool))}{zga:(Sl Int)}{zif:(Sl Int)}{zqM:(Sl Int)}{zih:Nat->List PV}{zfQ:Nat->List PV}{zoc:Nat->List PV}{zqN:Nat->List PV}{zAi:Nat->List PV}{zeH:Int}{zdr:(Sl (Int×Int))}{zc8:(Sl (Bool×Bool))}{zb7:(Sl Int)}{zdb:(Sl Int)}{zgx:(Sl Int)}{zeA:Nat->List PV}{zdC:Nat->List PV}{zd9:Nat->List PV}{zfb:Nat->List PV}{zh7:Nat->List PV}{X2:St->Prop}{P2:Int->(Sl (Int×Int))->(Sl (Bool×Bool))->(Sl Int)->(Sl Int)->(Sl Int)->Bool}{S2:Int->(Sl (Int×Int))->(Sl (Bool×Bool))->(Sl Int)->(Sl Int)->(Sl Int)->Scanner}{zea:Int}{zeU:(Sl Int)}{zc0:Int}{zdO:Int}{zcS:(Sl (Int×Int))}{zcq:(Sl (Bool×Bool))}{zch:(Sl Int)}{zcm:(Sl Int)}{zeV:(Sl Int)}{zh8:Nat->List PV}{zdE:Nat->List PV}{zdF:Nat->List PV}{zeb:Nat->List PV}{zfc:Nat->List PV}{zh9:Nat->List PV}{X3:St->Prop}{P3:Int->(Sl Int)->Int->Int->(Sl (Int×Int))->(Sl (Bool×Bool))->(Sl Int)->(Sl Int)->(Sl Int)->Bool}{S3:Int->(Sl Int)->Int->Int->(Sl (Int×Int))->(Sl (Bool×Bool))->(Sl Int)->(Sl Int)->(Sl Int)->Scanner}{zm0:Int}{zdQ:(Sl (Int×Int))}{zeE:(Sl (Bool×Bool))}{zb4:(Sl Int)}{zdG:(Sl Int)}{zii:(Sl Int)}{zm1:Nat->List PV}{zm2:Nat->List PV}{zod:Nat->List PV}{zqO:Nat->List PV}{zAj:Nat->List PV}{zkc:Int}{zaG:(Sl Int)}{zkd:Int}{znt:(Sl (Int×Int))}{znu:(Sl (Bool×Bool))}{ze2:(Sl Int)}{zkT:(Sl Int)}{znv:(Sl Int)}{zux:Nat->List PV}{zAk:Nat->List PV}{zAl:Nat->List PV}{zoe:Nat->List PV}{zqP:Nat->List PV}{zAm:Nat->List PV}{zfg:Int}{zdY:(Sl (Int×Int))}{zdZ:(Sl (Bool×Bool))}{zaP:(Sl Int)}{zqQ:(Sl Int)}{zAn:Nat->List PV}{zAo:Nat->List PV}{zof:Nat->List PV}{zAp:Nat->List PV}{zdP:Int}{zeW:(Sl Int)}{zfZ:(Sl (Int×Int))}{zf0:(Sl (Bool×Bool))}{zia:Nat->List PV}{zib:Nat->List PV}{zic:Nat->List PV}{X7:St->Prop}{P7:Int->(Sl Int)->(Sl (Int×Int))->(Sl (Bool×Bool))->Bool}{S7:Int->(Sl Int)->(Sl (Int×Int))->(Sl (Bool×Bool))->Scanner}{zcO:(Sl (Int×Int))}{zds:(Sl (Bool×Bool))}{zaF:(Sl Int)}{zc1:(Sl Int)}{zqR:(Sl (Int×Int))}{zqS:(Sl (Bool×Bool))}{zAq:Nat->List PV}{zAr:Nat->List PV}{zog:Nat->List PV}{zAs:Nat->List PV}{zAt:Nat->List PV}{zAu:Nat->List PV}{zb9:Int}{zfd:(Sl (Int×Int))}{zfe:(Sl (Bool×Bool))}{zid:Nat->List PV}{zie:Nat->List PV}{X9:St->Prop}{P9:Int->(Sl (Int×Int))->(Sl (Bool×Bool))->Bool}{S9:Int->(Sl (Int×Int))->(Sl (Bool×Bool))->Scanner}
def zAv (zaG:(Sl Int)) (zcO:(Sl (Int×Int))) (zds:(Sl (Bool×Bool))) (zaF:(Sl Int)) (zc1:(Sl Int)) (S9:Int->(Sl (Int×Int))->(Sl (Bool×Bool))->Scanner) (zb9:Int) (zfd:(Sl (Int×Int))) (zfe:(Sl (Bool×Bool))):Scanner :=
  (cond (decide (zb9 < (zaF.len : Int)))
 (S9 (w64 (zb9+(1:Int))) (⟨zfd.len,(setT ((zaG.get zb9.toNat).toNat) ((zc1.get (((zcO.get ((zaF.get zb9.toNat).toNat)).1).toNat)),(zc1.get (((zcO.get ((zaF.get zb9.toNat).toNat)).2).toNat))) zfd.get)⟩:Sl (Int×Int)) (⟨zfe.len,(setT ((zaG.get zb9.toNat).toNat) (zds.get ((zaF.get zb9.toNat).toNat)) zfe.get)⟩:Sl (Bool×Bool)))
 (⟨zfd,zfe⟩:Scanner))
def zAw (zaG:(Sl Int)) (zcO:(Sl (Int×Int))) (zds:(Sl (Bool×Bool))) (zaF:(Sl Int)) (zc1:(Sl Int)) (P9:Int->(Sl (Int×Int))->(Sl (Bool×Bool))->Bool) (zb9:Int) (zfd:(Sl (Int×Int))) (zfe:(Sl (Bool×Bool))):Bool :=
  (cond (decide (zb9 < (zaF.len : Int)))
 (decide ((0<=zb9/\zb9 < (zaF.len:Int))) &&
 (decide ((0<=(zaF.get zb9.toNat)/\(zaF.get zb9.toNat) < (zcO.len:Int))) &&
 (decide ((0<=zb9/\zb9 < (zaG.len:Int))) &&
 (decide ((0<=zb9/\zb9 < (zaG.len:Int))) &&
 (decide ((0<=(zcO.get ((zaF.get zb9.toNat).toNat)).1/\(zcO.get ((zaF.get zb9.toNat).toNat)).1 < (zc1.len:Int))) &&
 (decide ((((zcO.get ((zaF.get zb9.toNat).toNat)).1).toNat < zc1.len)) &&
 (decide ((0<=(zcO.get ((zaF.get zb9.toNat).toNat)).2/\(zcO.get ((zaF.get zb9.toNat).toNat)).2 < (zc1.len:Int))) &&
 (decide ((((zcO.get ((zaF.get zb9.toNat).toNat)).2).toNat < zc1.len)) &&
 (decide ((0<=(zaF.get zb9.toNat)/\(zaF.get zb9.toNat) < (zds.len:Int))) &&
 (decide ((0<=(zaG.get zb9.toNat)/\(zaG.get zb9.toNat) < (zfd.len:Int))) &&
 (decide (((zaG.get zb9.toNat).toNat < zfd.len)) &&
 (decide ((0<=(zaG.get zb9.toNat)/\(zaG.get zb9.toNat) < (zfe.len:Int))) &&
 (decide (((zaG.get zb9.toNat).toNat < zfe.len)) &&
 (P9 (w64 (zb9+(1:Int))) (⟨zfd.len,(setT ((zaG.get zb9.toNat).toNat) ((zc1.get (((zcO.get ((zaF.get zb9.toNat).toNat)).1).toNat)),(zc1.get (((zcO.get ((zaF.get zb9.toNat).toNat)).2).toNat))) zfd.get)⟩:Sl (Int×Int)) (⟨zfe.len,(setT ((zaG.get zb9.toNat).toNat) (zds.get ((zaF.get zb9.toNat).toNat)) zfe.get)⟩:Sl (Bool×Bool))))))))))))))))
 true)
def zAx (zaG:(Sl Int)) (zcO:(Sl (Int×Int))) (zds:(Sl (Bool×Bool))) (zaF:(Sl Int)) (zc1:(Sl Int)):Nat->Int->(Sl (Int×Int))->(Sl (Bool×Bool))->Scanner:=lpO (λ _ _ _=>default) (zAv zaG zcO zds zaF zc1)
def zAy (zaG:(Sl Int)) (zcO:(Sl (Int×Int))) (zds:(Sl (Bool×Bool))) (zaF:(Sl Int)) (zc1:(Sl Int)):Nat->Int->(Sl (Int×Int))->(Sl (Bool×Bool))->Bool:=lpO (λ _ _ _=>false) (zAw zaG zcO zds zaF zc1)
def zAz (zaG:(Sl Int)) (zcO:(Sl (Int×Int))) (zds:(Sl (Bool×Bool))) (zaF:(Sl Int)) (zc1:(Sl Int)) (zb9:Int) (zfd:(Sl (Int×Int))) (zfe:(Sl (Bool×Bool))):Scanner:=zAx zaG zcO zds zaF zc1 Fuel zb9 zfd zfe
def zAA (zaG:(Sl Int)) (zcO:(Sl (Int×Int))) (zds:(Sl (Bool×Bool))) (zaF:(Sl Int)) (zc1:(Sl Int)) (zb9:Int) (zfd:(Sl (Int×Int))) (zfe:(Sl (Bool×Bool))):Bool:=zAy zaG zcO zds zaF zc1 Fuel zb9 zfd zfe
theorem zIk (hs:zAA zaG zcO zds zaF zc1 zb9 zfd zfe=true) (hk:K (e23 (zAz zaG zcO zds zaF zc1 zb9 zfd zfe))) (zsy:zid=zg zaY zfd) (zsz:zie=zg za8 zfe):z23 K [1,1,1,1,1,1,1,0,1,0] [] (zE1 zaG zcO zds zaF zc1 zb9 zfd zfe zid zie) :=
  zl (λ X=>z23 K [1,1,1,1,1,1,1,0,1,0,0] [X]) (by kernel_rfl) λ X9 hX =>
  (show ∀ k, zME K zaG zcO zds zaF zc1 X9 (zAy zaG zcO zds zaF zc1 k) (zAx zaG zcO zds zaF zc1 k) from zg4 _ _ (zAw zaG zcO zds zaF zc1) (zAv zaG zcO zds zaF zc1) (zME K zaG zcO zds zaF zc1 X9)
 (by intro _ _ _ _ _ hs;exact absurd hs dqk)
 (by intro P9 S9 hX9 zb9 zfd zfe zid zie hs hk zsy zsz;subst zsy;subst zsz;exact hX _ (zaI (by kernel_rfl) (zc hs hk (λ hs hk=>(zaS hs λ hc hs=>And.intro hc (zaS hs λ hc hs=>And.intro hc (zaS hs λ hc hs=>And.intro hc (zaS hs λ hc hs=>And.intro hc (zaS hs λ hc hs=>And.intro hc (zaS hs λ hc hs=>And.intro hc (zaS hs λ hc hs=>And.intro hc (zaS hs λ hc hs=>And.intro hc (zaS hs λ hc hs=>And.intro hc (zaS hs λ hc hs=>And.intro hc (zaS hs λ hc hs=>And.intro hc (zaS hs λ hc hs=>And.intro hc (zaS hs λ hc hs=>And.intro hc (hX9 hs hk (ziE (enc:=zaY) (i:=(zaG.get zb9.toNat).toNat) (k:=0) (f:=zfd.get) (new:=(zaY ((zc1.get (((zcO.get ((zaF.get zb9.toNat).toNat)).1).toNat)),(zc1.get (((zcO.get ((zaF.get zb9.toNat).toNat)).2).toNat))))) (v:=((zc1.get (((zcO.get ((zaF.get zb9.toNat).toNat)).1).toNat)),(zc1.get (((zcO.get ((zaF.get zb9.toNat).toNat)).2).toNat)))) rfl rfl) (ziE (enc:=za8) (i:=(zaG.get zb9.toNat).toNat) (k:=0) (f:=zfe.get) (new:=(za8 (zds.get ((zaF.get zb9.toNat).toNat)))) (v:=(zds.get ((zaF.get zb9.toNat).toNat))) rfl rfl)))))))))))))))) (λ hs hk=>hk))))) _ hs hk zsy zsz
def zAB (zaG:(Sl Int)) (zcO:(Sl (Int×Int))) (zds:(Sl (Bool×Bool))) (zaF:(Sl Int)) (zc1:(Sl Int)) (zqR:(Sl (Int×Int))) (zqS:(Sl (Bool×Bool))):Scanner :=
  (zAz zaG zcO zds zaF zc1 (0:Int) zqR zqS)
def zAC (zaG:(Sl Int)) (zcO:(Sl (Int×Int))) (zds:(Sl (Bool×Bool))) (zaF:(Sl Int)) (zc1:(Sl Int)) (zqR:(Sl (Int×Int))) (zqS:(Sl (Bool×Bool))):Bool :=
  (zAA zaG zcO zds zaF zc1 (0:Int) zqR zqS)
theorem zIl (hs:zAC zaG zcO zds zaF zc1 zqR zqS=true) (hk:K (e23 (zAB zaG zcO zds zaF zc1 zqR zqS))) (zIm:zAq=zg zaY zcO) (zIn:zAr=zg za8 zds) (zvE:zog=zg zaB zaF) (zIo:zAs=zg zaB zc1) (zIp:zAt=zg zaY zqR) (zIq:zAu=zg za8 zqS):z23 K [1,1,1,1,1,1,1] [] ⟨[(1,zp 1 0),(2,zp 2 0),(3,zp 3 0),(4,zp 4 0),(5,zp 5 0),(11,zp 11 0)],[(1,.fbox [.sl zcO.len 2 zAq,.sl zds.len 2 zAr]),(2,.box 39 [.p (.nils),.p (.nils)]),(3,.fbox [.sl zaF.len 1 zog]),(4,.box 32 [.vec 22]),(5,.box 32 [.p (.sl zaG.len 1 (λ i=>zaB (zaG.get i)))]),(11,.box 39 [.vec 58,.vec 60]),(22,.vec 3 1 8 zc1.len zAs),(58,.vec 78 2 16 zqR.len zAt),(60,.vec 79 2 2 zqS.len zAu)],[]⟩:=by subst zIm;subst zIn;subst zvE;subst zIo;subst zIp;subst zIq;exact zaI (by kernel_rfl) (zIk hs hk rfl rfl)
def zAD (zaG:(Sl Int)) (zdY:(Sl (Int×Int))) (zdZ:(Sl (Bool×Bool))) (zaP:(Sl Int)) (S7:Int->(Sl Int)->(Sl (Int×Int))->(Sl (Bool×Bool))->Scanner) (zdP:Int) (zeW:(Sl Int)) (zfZ:(Sl (Int×Int))) (zf0:(Sl (Bool×Bool))):Scanner :=
  (cond (decide (zdP < (zaP.len : Int)))
 (S7 (w64 (zdP+(1:Int))) (⟨zeW.len,(setT ((zaP.get zdP.toNat).toNat) (zaG.get zdP.toNat) zeW.get)⟩:Sl Int) zfZ zf0)
 (zAB zaG zdY zdZ zaP zeW zfZ zf0))
def zAE (zaG:(Sl Int)) (zdY:(Sl (Int×Int))) (zdZ:(Sl (Bool×Bool))) (zaP:(Sl Int)) (P7:Int->(Sl Int)->(Sl (Int×Int))->(Sl (Bool×Bool))->Bool) (zdP:Int) (zeW:(Sl Int)) (zfZ:(Sl (Int×Int))) (zf0:(Sl (Bool×Bool))):Bool :=
  (cond (decide (zdP < (zaP.len : Int)))
 (decide ((0<=zdP/\zdP < (zaP.len:Int))) &&
 (decide ((0<=zdP/\zdP < (zaG.len:Int))) &&
 (decide ((0<=(zaP.get zdP.toNat)/\(zaP.get zdP.toNat) < (zeW.len:Int))) &&
 (decide (((zaP.get zdP.toNat).toNat < zeW.len)) &&
 (P7 (w64 (zdP+(1:Int))) (⟨zeW.len,(setT ((zaP.get zdP.toNat).toNat) (zaG.get zdP.toNat) zeW.get)⟩:Sl Int) zfZ zf0)))))
 (zAC zaG zdY zdZ zaP zeW zfZ zf0))
def zAF (zaG:(Sl Int)) (zdY:(Sl (Int×Int))) (zdZ:(Sl (Bool×Bool))) (zaP:(Sl Int)):Nat->Int->(Sl Int)->(Sl (Int×Int))->(Sl (Bool×Bool))->Scanner:=lpO (λ _ _ _ _=>default) (zAD zaG zdY zdZ zaP)
def zAG (zaG:(Sl Int)) (zdY:(Sl (Int×Int))) (zdZ:(Sl (Bool×Bool))) (zaP:(Sl Int)):Nat->Int->(Sl Int)->(Sl (Int×Int))->(Sl (Bool×Bool))->Bool:=lpO (λ _ _ _ _=>false) (zAE zaG zdY zdZ zaP)
def zAH (zaG:(Sl Int)) (zdY:(Sl (Int×Int))) (zdZ:(Sl (Bool×Bool))) (zaP:(Sl Int)) (zdP:Int) (zeW:(Sl Int)) (zfZ:(Sl (Int×Int))) (zf0:(Sl (Bool×Bool))):Scanner:=zAF zaG zdY zdZ zaP Fuel zdP zeW zfZ zf0
def zAI (zaG:(Sl Int)) (zdY:(Sl (Int×Int))) (zdZ:(Sl (Bool×Bool))) (zaP:(Sl Int)) (zdP:Int) (zeW:(Sl Int)) (zfZ:(Sl (Int×Int))) (zf0:(Sl (Bool×Bool))):Bool:=zAG zaG zdY zdZ zaP Fuel zdP zeW zfZ zf0
theorem zIr (hs:zAI zaG zdY zdZ zaP zdP zeW zfZ zf0=true) (hk:K (e23 (zAH zaG zdY zdZ zaP zdP zeW zfZ zf0))) (zsA:zia=zg zaB zeW) (zsB:zib=zg zaY zfZ) (zsC:zic=zg za8 zf0):z23 K [1,1,1,1,1,1,0,1,0] [] (zE0 zaG zdY zdZ zaP zdP zeW zfZ zf0 zia zib zic) :=
  zl (λ X=>z23 K [1,1,1,1,1,1,0,1,0,0] [X]) (by kernel_rfl) λ X7 hX =>
  (show ∀ k, zMD K zaG zdY zdZ zaP X7 (zAG zaG zdY zdZ zaP k) (zAF zaG zdY zdZ zaP k) from zg4 _ _ (zAE zaG zdY zdZ zaP) (zAD zaG zdY zdZ zaP) (zMD K zaG zdY zdZ zaP X7)
 (by intro _ _ _ _ _ _ _ hs;exact absurd hs dqk)
 (by intro P7 S7 hX7 zdP zeW zfZ zf0 zia zib zic hs hk zsA zsB zsC;subst zsA;subst zsB;subst zsC;exact hX _ (zaI (by kernel_rfl) (zc hs hk (λ hs hk=>(zaS hs λ hc hs=>And.intro hc (zaS hs λ hc hs=>And.intro hc (zaS hs λ hc hs=>And.intro hc (zaS hs λ hc hs=>And.intro hc (hX7 hs hk (ziE (enc:=zaB) (i:=(zaP.get zdP.toNat).toNat) (k:=0) (f:=zeW.get) (new:=(zaB (zaG.get zdP.toNat))) (v:=(zaG.get zdP.toNat)) rfl rfl) rfl rfl)))))) (λ hs hk=>(zIl hs hk rfl rfl rfl rfl rfl rfl)))))) _ hs hk zsA zsB zsC
def zAJ (zaG:(Sl Int)) (zfg:Int) (zdY:(Sl (Int×Int))) (zdZ:(Sl (Bool×Bool))) (zaP:(Sl Int)) (zqQ:(Sl Int)):Scanner :=
  (zAH zaG zdY zdZ zaP (0:Int) zqQ (⟨zfg.toNat,(λ _=>((0:Int),(0:Int)))⟩:Sl (Int×Int)) (⟨zfg.toNat,(λ _=>(false,false))⟩:Sl (Bool×Bool)))
def zAK (zaG:(Sl Int)) (zfg:Int) (zdY:(Sl (Int×Int))) (zdZ:(Sl (Bool×Bool))) (zaP:(Sl Int)) (zqQ:(Sl Int)):Bool :=
  (decide ((0<=zfg/\zfg=zfg/\zfg<=1000000)) &&
 (decide ((0<=zfg/\zfg=zfg/\zfg<=1000000)) &&
 (zAI zaG zdY zdZ zaP (0:Int) zqQ (⟨zfg.toNat,(λ _=>((0:Int),(0:Int)))⟩:Sl (Int×Int)) (⟨zfg.toNat,(λ _=>(false,false))⟩:Sl (Bool×Bool)))))
theorem zIs (hs:zAK zaG zfg zdY zdZ zaP zqQ=true) (hk:K (e23 (zAJ zaG zfg zdY zdZ zaP zqQ))) (zIt:zAn=zg zaY zdY) (zIu:zAo=zg za8 zdZ) (zvF:zof=zg zaB zaP) (zIv:zAp=zg zaB zqQ):z23 K [1,1,1,1,1] [] ⟨[(1,zp 1 0),(2,zp 2 0),(3,zp 3 0),(4,zp 4 0),(5,zp 5 0),(6,zI zfg)],[(1,.fbox [.sl zdY.len 2 zAn,.sl zdZ.len 2 zAo]),(2,.box 39 [.p (.nils),.p (.nils)]),(3,.fbox [.sl zaP.len 1 zof]),(4,.box 32 [.vec 22]),(5,.box 32 [.p (.sl zaG.len 1 (λ i=>zaB (zaG.get i)))]),(22,.vec 3 1 8 zqQ.len zAp)],[]⟩:=by subst zIt;subst zIu;subst zvF;subst zIv;exact zaI (by kernel_rfl) (zaS hs λ hc hs=>And.intro hc (zaS hs λ hc hs=>And.intro hc (zIr hs hk rfl rfl rfl)))
def zAL (S2:Int->(Sl (Int×Int))->(Sl (Bool×Bool))->(Sl Int)->(Sl Int)->(Sl Int)->Scanner) (zkc:Int) (zaG:(Sl Int)) (zkd:Int) (znt:(Sl (Int×Int))) (znu:(Sl (Bool×Bool))) (ze2:(Sl Int)) (zkT:(Sl Int)) (znv:(Sl Int)):Scanner :=
  (cond (zkd == zkc)
 (zAJ zaG zkc znt znu ze2 znv)
 (S2 zkd znt znu ze2 zaG znv))
def zAM (P2:Int->(Sl (Int×Int))->(Sl (Bool×Bool))->(Sl Int)->(Sl Int)->(Sl Int)->Bool) (zkc:Int) (zaG:(Sl Int)) (zkd:Int) (znt:(Sl (Int×Int))) (znu:(Sl (Bool×Bool))) (ze2:(Sl Int)) (zkT:(Sl Int)) (znv:(Sl Int)):Bool :=
  (cond (zkd == zkc)
 (zAK zaG zkc znt znu ze2 znv)
 (P2 zkd znt znu ze2 zaG znv))
theorem zIw (hX2:zAh K X2 P2 S2) (hs:zAM P2 zkc zaG zkd znt znu ze2 zkT znv=true) (hk:K (e23 (zAL S2 zkc zaG zkd znt znu ze2 zkT znv))) (zDK:zux=zg zaB zaG) (zIx:zAk=zg zaY znt) (zIy:zAl=zg za8 znu) (zvG:zoe=zg zaB ze2) (zAN:zqP=zg zaB zkT) (zIz:zAm=zg zaB znv):z23 K [1,1,1,1,0,0,0,0,1,1] [X2] ⟨[(1,zp 1 0),(2,zp 2 0),(3,zp 3 0),(4,zp 4 0),(5,zp 5 0),(6,zI zkc),(9,zP (.sl zaG.len 1 zux)),(10,zI zkd)],[(1,.fbox [.sl znt.len 2 zAk,.sl znu.len 2 zAl]),(2,.box 39 [.p (.nils),.p (.nils)]),(3,.fbox [.sl ze2.len 1 zoe]),(4,.box 32 [.vec 22]),(5,.box 32 [.p (.sl zkT.len 1 zqP)]),(22,.vec 3 1 8 znv.len zAm)],[]⟩:=by subst zDK;subst zIx;subst zIy;subst zvG;subst zAN;subst zIz;exact zaI (by kernel_rfl) (zc hs hk (λ hs hk=>(zIs hs hk rfl rfl rfl rfl)) (λ hs hk=>(hX2 hs hk rfl rfl rfl rfl rfl)))
def zAO (S2:Int->(Sl (Int×Int))->(Sl (Bool×Bool))->(Sl Int)->(Sl Int)->(Sl Int)->Scanner) (zm0:Int) (zdQ:(Sl (Int×Int))) (zeE:(Sl (Bool×Bool))) (zb4:(Sl Int)) (zdG:(Sl Int)) (zii:(Sl Int)):Scanner :=
  (zAL S2 zm0 ((s42 (⟨zdQ,zeE⟩:Scanner) zb4 zdG zii (zb4.len:Int)).1) ((s42 (⟨zdQ,zeE⟩:Scanner) zb4 zdG zii (zb4.len:Int)).2) zdQ zeE zb4 zdG zii)
def zAP (P2:Int->(Sl (Int×Int))->(Sl (Bool×Bool))->(Sl Int)->(Sl Int)->(Sl Int)->Bool) (zm0:Int) (zdQ:(Sl (Int×Int))) (zeE:(Sl (Bool×Bool))) (zb4:(Sl Int)) (zdG:(Sl Int)) (zii:(Sl Int)):Bool :=
  (decide ((p42 (⟨zdQ,zeE⟩:Scanner) zb4 zdG zii (zb4.len:Int)=true)) &&
 (zAM P2 zm0 ((s42 (⟨zdQ,zeE⟩:Scanner) zb4 zdG zii (zb4.len:Int)).1) ((s42 (⟨zdQ,zeE⟩:Scanner) zb4 zdG zii (zb4.len:Int)).2) zdQ zeE zb4 zdG zii))
theorem zIA (hX2:zAh K X2 P2 S2) (hs:zAP P2 zm0 zdQ zeE zb4 zdG zii=true) (hk:K (e23 (zAO S2 zm0 zdQ zeE zb4 zdG zii))) (zsD:zm1=zg zaY zdQ) (zsE:zm2=zg za8 zeE) (zvH:zod=zg zaB zb4) (zAQ:zqO=zg zaB zdG) (zIB:zAj=zg zaB zii):z23 K [1,1,1,1,0,0,0,0,1] [X2] ⟨[(1,zp 1 0),(2,zp 2 0),(3,zp 3 0),(4,zp 4 0),(5,zp 5 0),(6,zI zm0)],[(1,.fbox [.sl zdQ.len 2 zm1,.sl zeE.len 2 zm2]),(2,.box 39 [.p (.nils),.p (.nils)]),(3,.fbox [.sl zb4.len 1 zod]),(4,.box 32 [.vec 22]),(5,.box 32 [.p (.sl zdG.len 1 zqO)]),(22,.vec 3 1 8 zii.len zAj)],[]⟩:=by subst zsD;subst zsE;subst zvH;subst zAQ;subst zIB;exact zaI (by kernel_rfl) (zaS hs λ hc hs=>And.intro (⟨⟨isE,isE,isE,isE,isE,hc⟩,(λ _=>rfl),rfl⟩:(IsE zaY 2 2 (λ i=>zaY (zdQ.get i))/\IsE za8 2 2 (λ i=>za8 (zeE.get i))/\IsE zaB 1 1 (λ i=>zaB (zb4.get i))/\IsE zaB 1 1 (λ i=>zaB (zdG.get i))/\IsE zaB 1 1 (λ i=>zaB (zii.get i))/\(p42 (⟨zdQ,zeE⟩:Scanner) zb4 zdG zii (zb4.len:Int)=true))/\(∀ i,((λ i=>zaB (((s42 (⟨zdQ,zeE⟩:Scanner) zb4 zdG zii (zb4.len:Int)).1).get i)) i).all zhG=true)/\([.int .i64 ((s42 (⟨zdQ,zeE⟩:Scanner) zb4 zdG zii (zb4.len:Int)).2)]:List PV).all zhG=true) (zIw hX2 hs hk rfl rfl rfl rfl rfl rfl))
def zAR (S2:Int->(Sl (Int×Int))->(Sl (Bool×Bool))->(Sl Int)->(Sl Int)->(Sl Int)->Scanner) (S3:Int->(Sl Int)->Int->Int->(Sl (Int×Int))->(Sl (Bool×Bool))->(Sl Int)->(Sl Int)->(Sl Int)->Scanner) (zea:Int) (zeU:(Sl Int)) (zc0:Int) (zdO:Int) (zcS:(Sl (Int×Int))) (zcq:(Sl (Bool×Bool))) (zch:(Sl Int)) (zcm:(Sl Int)) (zeV:(Sl Int)):Scanner :=
  (cond (decide (zdO < zc0))
 (S3 zea zeU zc0 (w64 (zdO+(1:Int))) zcS zcq zch zcm (⟨zeV.len,(setT ((zeU.get zdO.toNat).toNat) (zcm.get zdO.toNat) zeV.get)⟩:Sl Int))
 (zAO S2 zea zcS zcq zch zcm zeV))
def zAS (P2:Int->(Sl (Int×Int))->(Sl (Bool×Bool))->(Sl Int)->(Sl Int)->(Sl Int)->Bool) (P3:Int->(Sl Int)->Int->Int->(Sl (Int×Int))->(Sl (Bool×Bool))->(Sl Int)->(Sl Int)->(Sl Int)->Bool) (zea:Int) (zeU:(Sl Int)) (zc0:Int) (zdO:Int) (zcS:(Sl (Int×Int))) (zcq:(Sl (Bool×Bool))) (zch:(Sl Int)) (zcm:(Sl Int)) (zeV:(Sl Int)):Bool :=
  (cond (decide (zdO < zc0))
 (decide ((0<=zdO/\zdO < (zeU.len:Int))) &&
 (decide ((0<=zdO/\zdO < (zcm.len:Int))) &&
 (decide ((0<=(zeU.get zdO.toNat)/\(zeU.get zdO.toNat) < (zeV.len:Int))) &&
 (decide (((zeU.get zdO.toNat).toNat < zeV.len)) &&
 (P3 zea zeU zc0 (w64 (zdO+(1:Int))) zcS zcq zch zcm (⟨zeV.len,(setT ((zeU.get zdO.toNat).toNat) (zcm.get zdO.toNat) zeV.get)⟩:Sl Int))))))
 (zAP P2 zea zcS zcq zch zcm zeV))
def zAT (S2:Int->(Sl (Int×Int))->(Sl (Bool×Bool))->(Sl Int)->(Sl Int)->(Sl Int)->Scanner):Nat->Int->(Sl Int)->Int->Int->(Sl (Int×Int))->(Sl (Bool×Bool))->(Sl Int)->(Sl Int)->(Sl Int)->Scanner:=lpO (λ _ _ _ _ _ _ _ _ _=>default) (zAR S2)
def zAU (P2:Int->(Sl (Int×Int))->(Sl (Bool×Bool))->(Sl Int)->(Sl Int)->(Sl Int)->Bool):Nat->Int->(Sl Int)->Int->Int->(Sl (Int×Int))->(Sl (Bool×Bool))->(Sl Int)->(Sl Int)->(Sl Int)->Bool:=lpO (λ _ _ _ _ _ _ _ _ _=>false) (zAS P2)
def zAV (S2:Int->(Sl (Int×Int))->(Sl (Bool×Bool))->(Sl Int)->(Sl Int)->(Sl Int)->Scanner) (zea:Int) (zeU:(Sl Int)) (zc0:Int) (zdO:Int) (zcS:(Sl (Int×Int))) (zcq:(Sl (Bool×Bool))) (zch:(Sl Int)) (zcm:(Sl Int)) (zeV:(Sl Int)):Scanner:=zAT S2 Fuel zea zeU zc0 zdO zcS zcq zch zcm zeV
def zAW (P2:Int->(Sl (Int×Int))->(Sl (Bool×Bool))->(Sl Int)->(Sl Int)->(Sl Int)->Bool) (zea:Int) (zeU:(Sl Int)) (zc0:Int) (zdO:Int) (zcS:(Sl (Int×Int))) (zcq:(Sl (Bool×Bool))) (zch:(Sl Int)) (zcm:(Sl Int)) (zeV:(Sl Int)):Bool:=zAU P2 Fuel zea zeU zc0 zdO zcS zcq zch zcm zeV
theorem zIC (hX2:zAh K X2 P2 S2) (hs:zAW P2 zea zeU zc0 zdO zcS zcq zch zcm zeV=true) (hk:K (e23 (zAV S2 zea zeU zc0 zdO zcS zcq zch zcm zeV))) (zsF:zh8=zg zaB zeU) (zjm:zdE=zg zaY zcS) (zjn:zdF=zg za8 zcq) (zkU:zeb=zg zaB zch) (zm3:zfc=zg zaB zcm) (zsG:zh9=zg zaB zeV):z23 K [1,1,1,1,0,0,0,0,0,1,0] [X2] (zEZ zea zeU zc0 zdO zcS zcq zch zcm zeV zh8 zdE zdF zeb zfc zh9) :=
  zl (λ X=>z23 K [1,1,1,1,0,0,0,0,0,1,0,0] [X2,X]) (by kernel_rfl) λ X3 hX =>
  (show ∀ k, zMC K X3 (zAU P2 k) (zAT S2 k) from zg4 _ _ (zAS P2) (zAR S2) (zMC K X3)
 (by intro _ _ _ _ _ _ _ _ _ _ _ _ _ _ _ hs;exact absurd hs dqk)
 (by intro P3 S3 hX3 zea zeU zc0 zdO zcS zcq zch zcm zeV zh8 zdE zdF zeb zfc zh9 hs hk zsF zjm zjn zkU zm3 zsG;subst zsF;subst zjm;subst zjn;subst zkU;subst zm3;subst zsG;exact hX _ (zaI (by kernel_rfl) (zc hs hk (λ hs hk=>(zaS hs λ hc hs=>And.intro hc (zaS hs λ hc hs=>And.intro hc (zaS hs λ hc hs=>And.intro hc (zaS hs λ hc hs=>And.intro hc (hX3 hs hk rfl rfl rfl rfl rfl (ziE (enc:=zaB) (i:=(zeU.get zdO.toNat).toNat) (k:=0) (f:=zeV.get) (new:=(zaB (zcm.get zdO.toNat))) (v:=(zcm.get zdO.toNat)) rfl rfl))))))) (λ hs hk=>(zIA hX2 hs hk rfl rfl rfl rfl rfl)))))) _ hs hk zsF zjm zjn zkU zm3 zsG
def zAX (S2:Int->(Sl (Int×Int))->(Sl (Bool×Bool))->(Sl Int)->(Sl Int)->(Sl Int)->Scanner) (zeH:Int) (zdr:(Sl (Int×Int))) (zc8:(Sl (Bool×Bool))) (zb7:(Sl Int)) (zdb:(Sl Int)) (zgx:(Sl Int)):Scanner :=
  (zAV S2 zeH zb7 (zb7.len:Int) (0:Int) zdr zc8 zb7 zdb zgx)
def zAY (P2:Int->(Sl (Int×Int))->(Sl (Bool×Bool))->(Sl Int)->(Sl Int)->(Sl Int)->Bool) (zeH:Int) (zdr:(Sl (Int×Int))) (zc8:(Sl (Bool×Bool))) (zb7:(Sl Int)) (zdb:(Sl Int)) (zgx:(Sl Int)):Bool :=
  (zAW P2 zeH zb7 (zb7.len:Int) (0:Int) zdr zc8 zb7 zdb zgx)
def zAZ:Nat->Int->(Sl (Int×Int))->(Sl (Bool×Bool))->(Sl Int)->(Sl Int)->(Sl Int)->Scanner:=lpO (λ _ _ _ _ _ _=>default) (zAX)
def zA0:Nat->Int->(Sl (Int×Int))->(Sl (Bool×Bool))->(Sl Int)->(Sl Int)->(Sl Int)->Bool:=lpO (λ _ _ _ _ _ _=>false) (zAY)
def zA1 (zeH:Int) (zdr:(Sl (Int×Int))) (zc8:(Sl (Bool×Bool))) (zb7:(Sl Int)) (zdb:(Sl Int)) (zgx:(Sl Int)):Scanner:=zAZ Fuel zeH zdr zc8 zb7 zdb zgx
def zA2 (zeH:Int) (zdr:(Sl (Int×Int))) (zc8:(Sl (Bool×Bool))) (zb7:(Sl Int)) (zdb:(Sl Int)) (zgx:(Sl Int)):Bool:=zA0 Fuel zeH zdr zc8 zb7 zdb zgx
theorem zID (hs:zA2 zeH zdr zc8 zb7 zdb zgx=true) (hk:K (e23 (zA1 zeH zdr zc8 zb7 zdb zgx))) (zjo:zeA=zg zaY zdr) (zg8:zdC=zg za8 zc8) (zkV:zd9=zg zaB zb7) (zm4:zfb=zg zaB zdb) (zsH:zh7=zg zaB zgx):z23 K [1,1,1,1,0,0] [] (zEY zeH zdr zc8 zb7 zdb zgx zeA zdC zd9 zfb zh7) :=
  zl (λ X=>z23 K [1,1,1,1,0,0,0] [X]) (by kernel_rfl) λ X2 hX =>
  (show ∀ k, zAh K X2 (zA0 k) (zAZ k) from zg4 _ _ (zAY) (zAX) (zAh K X2)
 (by intro _ _ _ _ _ _ _ _ _ _ _ hs;exact absurd hs dqk)
 (by intro P2 S2 hX2 zeH zdr zc8 zb7 zdb zgx zeA zdC zd9 zfb zh7 hs hk zjo zg8 zkV zm4 zsH;subst zjo;subst zg8;subst zkV;subst zm4;subst zsH;exact hX _ (zaI (by kernel_rfl) (zIC hX2 hs hk rfl rfl rfl rfl rfl rfl)))) _ hs hk zjo zg8 zkV zm4 zsH
def zA3 (zmZ:Int) (zff:(Sl (Int×Int))) (zdB:(Sl (Bool×Bool))) (zga:(Sl Int)) (zif:(Sl Int)) (zqM:(Sl Int)):Scanner :=
  (zA1 zmZ zff zdB zga zif zqM)
def zA4 (zmZ:Int) (zff:(Sl (Int×Int))) (zdB:(Sl (Bool×Bool))) (zga:(Sl Int)) (zif:(Sl Int)) (zqM:(Sl Int)):Bool :=
  (zA2 zmZ zff zdB zga zif zqM)
theorem zIE (hs:zA4 zmZ zff zdB zga zif zqM=true) (hk:K (e23 (zA3 zmZ zff zdB zga zif zqM))) (zm5:zih=zg zaY zff) (zi4:zfQ=zg za8 zdB) (zvI:zoc=zg zaB zga) (zA5:zqN=zg zaB zif) (zIF:zAi=zg zaB zqM):z23 K [1,1,1,1] [] ⟨[(1,zp 1 0),(2,zp 2 0),(3,zp 3 0),(4,zp 4 0),(5,zp 5 0),(6,zI zmZ)],[(1,.fbox [.sl zff.len 2 zih,.sl zdB.len 2 zfQ]),(2,.box 39 [.p (.nils),.p (.nils)]),(3,.fbox [.sl zga.len 1 zoc]),(4,.box 32 [.vec 22]),(5,.box 32 [.p (.sl zif.len 1 zqN)]),(22,.vec 3 1 8 zqM.len zAi)],[]⟩:=by subst zm5;subst zi4;subst zvI;subst zA5;subst zIF;exact zaI (by kernel_rfl) (zID hs hk rfl rfl rfl rfl rfl)
def zA6 (zce:(Sl (Int×Int))) (zbO:(Sl (Bool×Bool))) (zcF:(Sl Int)):Scanner :=
  (zA3 ((s40 (⟨zce,zbO⟩:Scanner) zcF (zcF.len:Int)).2) zce zbO zcF ((s40 (⟨zce,zbO⟩:Scanner) zcF (zcF.len:Int)).1) (⟨(zce.len:Int).toNat,(λ _=>(0:Int))⟩:Sl Int))
def zA7 (zce:(Sl (Int×Int))) (zbO:(Sl (Bool×Bool))) (zcF:(Sl Int)):Bool :=
  (decide ((0<=(zce.len:Int)/\(zce.len:Int)=(zce.len:Int)/\(zce.len:Int)<=1000000)) &&
 (decide ((p40 (⟨zce,zbO⟩:Scanner) zcF (zcF.len:Int)=true)) &&
 (zA4 ((s40 (⟨zce,zbO⟩:Scanner) zcF (zcF.len:Int)).2) zce zbO zcF ((s40 (⟨zce,zbO⟩:Scanner) zcF (zcF.len:Int)).1) (⟨(zce.len:Int).toNat,(λ _=>(0:Int))⟩:Sl Int))))
theorem zIG (hs:zA7 zce zbO zcF=true) (hk:K (e23 (zA6 zce zbO zcF))) (zjq:zeB=zg zaY zce) (zfR:zcL=zg za8 zbO) (zvJ:zob=zg zaB zcF):z23 K [1,1] [] ⟨[(1,zp 1 0),(2,zp 2 0),(3,zp 3 0)],[(1,.box 39 [.p (.sl zce.len 2 zeB),.p (.sl zbO.len 2 zcL)]),(2,.box 39 [.p (.nils),.p (.nils)]),(3,.box 32 [.p (.sl zcF.len 1 zob)])],[]⟩:=by subst zjq;subst zfR;subst zvJ;exact zaI (by kernel_rfl) (zaS hs λ hc hs=>And.intro hc (zaS hs λ hc hs=>And.intro (And.intro (zE zaY 2 zce.get) (And.intro (zE za8 2 zbO.get) (And.intro (zE zaB 1 zcF.get) hc))) (zIE hs hk rfl rfl rfl rfl rfl)))
def s23 (s:Scanner):Scanner :=
  (zA6 s.Next s.Out (s39 s))
def p23 (s:Scanner):Bool :=
  (decide ((p39 s=true)) &&
 (zA7 s.Next s.Out (s39 s)))
end
theorem q23 (s:Scanner) (K:List PA->Prop) (hs:p23 s=true) (hk:K (e23 (s23 s))):vcFun Try.prog G23 zAg 23 [.agg (ze7 s)] K :=
  zaI (by kernel_rfl) (zaS hs λ hc hs=>And.intro (And.intro (zE zaY 2 s.Next.get) (And.intro (zE za8 2 s.Out.get) hc)) (zIG hs hk rfl rfl rfl))
def zIH : List PA → COut
  | [.agg [.sl za0 zcZ za1,.sl zb2 zez zb3]]=>.det (IsE zaY 2 zcZ za1/\IsE za8 2 zez zb3/\p23 (⟨(⟨za0,zbL za1⟩:(Sl (Int×Int))),(⟨zb2,zb5 zb3⟩:(Sl (Bool×Bool)))⟩:Scanner)=true) [.agg [.sl ((s23 (⟨(⟨za0,zbL za1⟩:(Sl (Int×Int))),(⟨zb2,zb5 zb3⟩:(Sl (Bool×Bool)))⟩:Scanner)).Next.len) 2 (λ i=>zaY ((s23 (⟨(⟨za0,zbL za1⟩:(Sl (Int×Int))),(⟨zb2,zb5 zb3⟩:(Sl (Bool×Bool)))⟩:Scanner)).Next.get i)),.sl ((s23 (⟨(⟨za0,zbL za1⟩:(Sl (Int×Int))),(⟨zb2,zb5 zb3⟩:(Sl (Bool×Bool)))⟩:Scanner)).Out.len) 2 (λ i=>za8 ((s23 (⟨(⟨za0,zbL za1⟩:(Sl (Int×Int))),(⟨zb2,zb5 zb3⟩:(Sl (Bool×Bool)))⟩:Scanner)).Out.get i))]]
  | [.agg [.nils,.nils]]=>.det (p23 (⟨(⟨0,λ _=>default⟩:(Sl (Int×Int))),(⟨0,λ _=>default⟩:(Sl (Bool×Bool)))⟩:Scanner)=true) [.agg [.sl ((s23 (⟨(⟨0,λ _=>default⟩:(Sl (Int×Int))),(⟨0,λ _=>default⟩:(Sl (Bool×Bool)))⟩:Scanner)).Next.len) 2 (λ i=>zaY ((s23 (⟨(⟨0,λ _=>default⟩:(Sl (Int×Int))),(⟨0,λ _=>default⟩:(Sl (Bool×Bool)))⟩:Scanner)).Next.get i)),.sl ((s23 (⟨(⟨0,λ _=>default⟩:(Sl (Int×Int))),(⟨0,λ _=>default⟩:(Sl (Bool×Bool)))⟩:Scanner)).Out.len) 2 (λ i=>za8 ((s23 (⟨(⟨0,λ _=>default⟩:(Sl (Int×Int))),(⟨0,λ _=>default⟩:(Sl (Bool×Bool)))⟩:Scanner)).Out.get i))]]
  | [.agg [.sl za0 zcZ za1,.nils]]=>.det (IsE zaY 2 zcZ za1/\p23 (⟨(⟨za0,zbL za1⟩:(Sl (Int×Int))),(⟨0,λ _=>default⟩:(Sl (Bool×Bool)))⟩:Scanner)=true) [.agg [.sl ((s23 (⟨(⟨za0,zbL za1⟩:(Sl (Int×Int))),(⟨0,λ _=>default⟩:(Sl (Bool×Bool)))⟩:Scanner)).Next.len) 2 (λ i=>zaY ((s23 (⟨(⟨za0,zbL za1⟩:(Sl (Int×Int))),(⟨0,λ _=>default⟩:(Sl (Bool×Bool)))⟩:Scanner)).Next.get i)),.sl ((s23 (⟨(⟨za0,zbL za1⟩:(Sl (Int×Int))),(⟨0,λ _=>default⟩:(Sl (Bool×Bool)))⟩:Scanner)).Out.len) 2 (λ i=>za8 ((s23 (⟨(⟨za0,zbL za1⟩:(Sl (Int×Int))),(⟨0,λ _=>default⟩:(Sl (Bool×Bool)))⟩:Scanner)).Out.get i))]]
  | _=>.no
theorem zMF:zal Try.prog 23:=⟨_,rfl,rfl,by kernel_rfl⟩
theorem zRI:Ok Try.prog 23 zIH:=zhW zPv zMF λ args K h=>by
  unfold zIH at h
  split at h
  · rename_i za0 zcZ za1 zb2 zez zb3
    obtain⟨⟨⟨rfl,zcc,rfl⟩,⟨rfl,zdj,rfl⟩,hs⟩,hk⟩:=h
    try rw[zbB zcc] at hs
    try rw[zbB zcc] at hk
    try rw[zbU zdj] at hs
    try rw[zbU zdj] at hk
    exact⟨_,zhV zj5 _,(λ _ _=>[]),(λ _=>false),zAg,q23 (⟨(⟨za0,zcc⟩:(Sl (Int×Int))),(⟨zb2,zdj⟩:(Sl (Bool×Bool)))⟩:Scanner) (Wk K) hs (zeq hk)⟩
  · obtain ⟨hs, hk⟩ := h
    exact⟨_,(zfj (.agg (zfj (.nil _ _) (zfj (.nil _ _) zlt))) zlt),(λ _ _=>[]),(λ _=>false),zAg,q23 (⟨(⟨0,λ _=>default⟩:(Sl (Int×Int))),(⟨0,λ _=>default⟩:(Sl (Bool×Bool)))⟩:Scanner) (Wk K) hs (zeq hk)⟩
  · rename_i za0 zcZ za1
    obtain⟨⟨⟨rfl,zcc,rfl⟩,hs⟩,hk⟩:=h
    try rw[zbB zcc] at hs
    try rw[zbB zcc] at hk
    exact⟨_,(zfj (.agg (zfj (.rfl _) (zfj (.nil _ _) zlt))) zlt),(λ _ _=>[]),(λ _=>false),zAg,q23 (⟨(⟨za0,zcc⟩:(Sl (Int×Int))),(⟨0,λ _=>default⟩:(Sl (Bool×Bool)))⟩:Scanner) (Wk K) hs (zeq hk)⟩
  · exact h.elim
def zvK (x:Sl (Int×Int)):Sl (Int×Int):=⟨x.len,zbL (zg zaY x)⟩
def zvL (x:Sl (Bool×Bool)):Sl (Bool×Bool):=⟨x.len,zb5 (zg za8 x)⟩
abbrev T7:Tabs:=(((Tabs.nil.addF 21 zDJ).addF 22 zH3).addF 23 zIH)
theorem zRJ:TabsOk Try.prog T7:=(((TabsOk.nil.addF zQt).addF zRC).addF zRI)
abbrev G7:Ctrs:=csm T7 (λ _ _=>[]) (λ _=>false)
def zPw:Ann:=⟨64,[(0,zK [0,1,4] [4]),(1,zK [0,1,4,19] [4]),(2,zK [4,5] [4]),(3,zK [0,4,6] [4,6]),(4,zK [0,4,6,7] [4,6,7]),(5,zK [0,4,6,7,26,27] [4,6,7]),(6,zK [0,4,6,7,26,27,28] [4,6,7,50,59]),(7,zK [0,4,6,7,8,26,27] [4,6,7,8,50,59]),(8,zK [0,4,6,7,8,9,26,27] [4,6,7,8,50,59]),(9,zK [0,4,6,7,8,9,26,27,30,31] [4,6,7,8,50,59]),(10,zK [0,4,6,7,8,9,26,27,30,31,32] [4,6,7,8,50,59]),(11,zK [0,4,6,7,8,9,10,26,27,30,31] [4,6,7,8,50,59]),(12,zK [0,4,6,7,8,9,26,27,30,31] [4,6,7,8,50,59]),(13,zK [0,4,6,7,8,9,26,27,30,31] [4,6,7,8,50,59]),(14,zK [0,4,6,7,9,11,26,27] [4,6,7,50,59]),(15,zK [0,4,6,7,9,26,27] [4,6,7,50,59]),(16,zK [0,4,6,7,26,27] [4,6,7,50,59]),(17,zK [0,4,6,7,26,27] [4,6,7,50,59]),(18,zK [4,5] [4])],
 [(6,⟨[0,4,6,7,26,27],[4,6,7,50,59],[],[(7,0,50,78,λ _=>zaY default),(7,1,59,79,λ _=>za8 default)],[],[6],[]⟩),(10,zK [0,4,6,7,8,9,26,27,30,31] [4,6,7,8,50,59])],
 [(2,zK [0,1,4,19] [4]),(3,zK [0,1,4] [4]),(14,zK [0,4,6,7,8,9,26,27] [4,6,7,8,50,59]),(16,zK [0,4,6,7,9,26,27] [4,6,7,50,59])],
 [],[]⟩
abbrev R7:=(Scanner×Int)
abbrev e7 (r:R7):List PA:=[.agg [.sl r.1.Next.len 2 (λ i=>zaY (r.1.Next.get i)),.sl r.1.Out.len 2 (λ i=>za8 (r.1.Out.get i))],.one (.int .i64 r.2)]
@[irreducible] def z7:=ptF Try.prog G7 zPw Try.f7
def zMG (need:Int) (gap:Int) (zgy:Int) (zf1:Int) (zeX:(Sl (Int×Int))) (zeY:(Sl (Bool×Bool))) (zij:Nat->List PV) (zik:Nat->List PV):St:=⟨[(0,zI need),(4,zp 4 0),(6,zp 6 0),(7,zp 7 0),(26,zI zgy),(27,zI zf1)],[(4,.box 39 [.p (.nils),.p (.nils)]),(6,.fbox [.int .i64 (w64 ((w64 (need+gap)) - (1:Int)))]),(7,.box 39 [.vec 50,.vec 59]),(50,.vec 78 2 16 zeX.len zij),(59,.vec 79 2 2 zeY.len zik)],[]⟩
abbrev zMH (K:List PA->Prop) (need:Int) (gap:Int) (X:St->Prop) (P:Int->Int->(Sl (Int×Int))->(Sl (Bool×Bool))->Bool) (S:Int->Int->(Sl (Int×Int))->(Sl (Bool×Bool))->(Scanner×Int)):Prop:=∀ ⦃zgy:Int⦄ ⦃zf1:Int⦄ ⦃zeX:(Sl (Int×Int))⦄ ⦃zeY:(Sl (Bool×Bool))⦄ ⦃zij:Nat->List PV⦄ ⦃zik:Nat->List PV⦄,P zgy zf1 zeX zeY=true->K (e7 (S zgy zf1 zeX zeY))->zij=zg zaY zeX->zik=zg za8 zeY->X (zMG need gap zgy zf1 zeX zeY zij zik)
def zMI (need:Int) (gap:Int) (zcr:Int) (zgz:Int) (zgA:Int) (zc0:Int) (zf2:Int) (zf3:(Sl (Int×Int))) (zf4:(Sl (Bool×Bool))) (zil:Nat->List PV) (zim:Nat->List PV):St:=⟨[(0,zI need),(4,zp 4 0),(6,zp 6 0),(7,zp 7 0),(8,zp 8 0),(9,zI zcr),(26,zI zgz),(27,zI zgA),(30,zI (w64 ((w64 (need+gap)) - (1:Int)))),(31,zI zc0)],[(4,.box 39 [.p (.nils),.p (.nils)]),(6,.fbox [.int .i64 (w64 ((w64 (need+gap)) - (1:Int)))]),(7,.box 39 [.vec 50,.vec 59]),(8,.box 3 [zi zf2]),(50,.vec 78 2 16 zf3.len zil),(59,.vec 79 2 2 zf4.len zim)],[]⟩
abbrev zQu (K:List PA->Prop) (need:Int) (gap:Int) (X:St->Prop) (P:Int->Int->Int->Int->Int->(Sl (Int×Int))->(Sl (Bool×Bool))->Bool) (S:Int->Int->Int->Int->Int->(Sl (Int×Int))->(Sl (Bool×Bool))->(Scanner×Int)):Prop:=∀ ⦃zcr:Int⦄ ⦃zgz:Int⦄ ⦃zgA:Int⦄ ⦃zc0:Int⦄ ⦃zf2:Int⦄ ⦃zf3:(Sl (Int×Int))⦄ ⦃zf4:(Sl (Bool×Bool))⦄ ⦃zil:Nat->List PV⦄ ⦃zim:Nat->List PV⦄,P zcr zgz zgA zc0 zf2 zf3 zf4=true->K (e7 (S zcr zgz zgA zc0 zf2 zf3 zf4))->zil=zg zaY zf3->zim=zg za8 zf4->X (zMI need gap zcr zgz zgA zc0 zf2 zf3 zf4 zil zim)
section
variable {K:List PA->Prop}{need:Int}{gap:Int}{za7:Bool}{zgy:Int}{zf1:Int}{zeX:(Sl (Int×Int))}{zeY:(Sl (Bool×Bool))}{zij:Nat->List PV}{zik:Nat->List PV}{X2:St->Prop}{P2:Int->Int->(Sl (Int×Int))->(Sl (Bool×Bool))->Bool}{S2:Int->Int->(Sl (Int×Int))->(Sl (Bool×Bool))->(Scanner×Int)}{zcr:Int}{zgz:Int}{zgA:Int}{zc0:Int}{zf2:Int}{zf3:(Sl (Int×Int))}{zf4:(Sl (Bool×Bool))}{zil:Nat->List PV}{zim:Nat->List PV}{X3:St->Prop}{P3:Int->Int->Int->Int->Int->(Sl (Int×Int))->(Sl (Bool×Bool))->Bool}{S3:Int->Int->Int->Int->Int->(Sl (Int×Int))->(Sl (Bool×Bool))->(Scanner×Int)}{zhe:Int}{zke:Int}{zsI:Int}{zkW:Int}{zjr:(Sl (Int×Int))}{zqT:(Sl (Bool×Bool))}{zA8:Nat->List PV}{zA9:Nat->List PV}{zgb:Int}{zsJ:Int}{zqU:(Sl (Int×Int))}{zjs:(Sl (Bool×Bool))}{zBa:Nat->List PV}{zBb:Nat->List PV}
def zE2 (S2:Int->Int->(Sl (Int×Int))->(Sl (Bool×Bool))->(Scanner×Int)) (need:Int) (gap:Int) (zke:Int) (zgb:Int) (zsJ:Int) (zqU:(Sl (Int×Int))) (zjs:(Sl (Bool×Bool))):(Scanner×Int) :=
  (S2 zke (w64 (zsJ+(1:Int))) zqU (⟨(zjs.len+1),(zo8 zjs.len zjs.get (λ _=>(false,(decide (zgb >= need)))))⟩:Sl (Bool×Bool)))
def zE3 (P2:Int->Int->(Sl (Int×Int))->(Sl (Bool×Bool))->Bool) (need:Int) (gap:Int) (zke:Int) (zgb:Int) (zsJ:Int) (zqU:(Sl (Int×Int))) (zjs:(Sl (Bool×Bool))):Bool :=
  (decide (((zjs.len+1) * 2<=140737488355328/\zjs.len+1<=9223372036854775807)) &&
 (P2 zke (w64 (zsJ+(1:Int))) zqU (⟨(zjs.len+1),(zo8 zjs.len zjs.get (λ _=>(false,(decide (zgb >= need)))))⟩:Sl (Bool×Bool))))
theorem zMJ (hX2:zMH K need gap X2 P2 S2) (hs:zE3 P2 need gap zke zgb zsJ zqU zjs=true) (hk:K (e7 (zE2 S2 need gap zke zgb zsJ zqU zjs))) (zII:zBa=zg zaY zqU) (zIJ:zBb=zg za8 zjs):z7 (Wk K) [1,1,1,1,0,1,0,0,1,1,0,0,1,1,1,1,1] [X2] ⟨[(0,zI need),(4,zp 4 0),(6,zp 6 0),(7,zp 7 0),(9,zI zgb),(26,zI zke),(27,zI zsJ)],[(4,.box 39 [.p (.nils),.p (.nils)]),(6,.fbox [.int .i64 (w64 ((w64 (need+gap)) - (1:Int)))]),(7,.box 39 [.vec 50,.vec 59]),(50,.vec 78 2 16 zqU.len zBa),(59,.vec 79 2 2 zjs.len zBb)],[]⟩:=by subst zII;subst zIJ;exact zaI (by kernel_rfl) (zaS hs λ hc hs=>And.intro hc (hX2 hs hk rfl (zn3 (enc:=za8) (f:=zjs.get) (h:=(λ _=>(false,(decide (zgb >= need))))) rfl rfl)))
def zE4 (S2:Int->Int->(Sl (Int×Int))->(Sl (Bool×Bool))->(Scanner×Int)) (need:Int) (gap:Int) (zhe:Int) (zke:Int) (zsI:Int) (zkW:Int) (zjr:(Sl (Int×Int))) (zqT:(Sl (Bool×Bool))):(Scanner×Int) :=
  (zE2 S2 need gap zke zhe zsI (⟨(zjr.len+1),(zo8 zjr.len zjr.get (λ _=>((s22 zkW (w64 ((w64 (need+gap)) - (1:Int))) (0:Int)),(s22 zkW (w64 ((w64 (need+gap)) - (1:Int))) (1:Int)))))⟩:Sl (Int×Int)) zqT)
def zE5 (P2:Int->Int->(Sl (Int×Int))->(Sl (Bool×Bool))->Bool) (need:Int) (gap:Int) (zhe:Int) (zke:Int) (zsI:Int) (zkW:Int) (zjr:(Sl (Int×Int))) (zqT:(Sl (Bool×Bool))):Bool :=
  (decide ((p22 zkW (w64 ((w64 (need+gap)) - (1:Int))) (0:Int)=true)) &&
 (decide ((p22 zkW (w64 ((w64 (need+gap)) - (1:Int))) (1:Int)=true)) &&
 (decide (((zjr.len+1) * 16<=140737488355328/\zjr.len+1<=9223372036854775807)) &&
 (zE3 P2 need gap zke zhe zsI (⟨(zjr.len+1),(zo8 zjr.len zjr.get (λ _=>((s22 zkW (w64 ((w64 (need+gap)) - (1:Int))) (0:Int)),(s22 zkW (w64 ((w64 (need+gap)) - (1:Int))) (1:Int)))))⟩:Sl (Int×Int)) zqT))))
theorem zMK (hX2:zMH K need gap X2 P2 S2) (hs:zE5 P2 need gap zhe zke zsI zkW zjr zqT=true) (hk:K (e7 (zE4 S2 need gap zhe zke zsI zkW zjr zqT))) (zIK:zA8=zg zaY zjr) (zIL:zA9=zg za8 zqT):z7 (Wk K) [1,1,1,1,0,1,0,0,1,1,0,0,1,1,1] [X2] ⟨[(0,zI need),(4,zp 4 0),(6,zp 6 0),(7,zp 7 0),(8,zp 8 0),(9,zI zhe),(26,zI zke),(27,zI zsI)],[(4,.box 39 [.p (.nils),.p (.nils)]),(6,.fbox [.int .i64 (w64 ((w64 (need+gap)) - (1:Int)))]),(7,.box 39 [.vec 50,.vec 59]),(8,.box 3 [zi zkW]),(50,.vec 78 2 16 zjr.len zA8),(59,.vec 79 2 2 zqT.len zA9)],[]⟩:=by subst zIK;subst zIL;exact zaI (by kernel_rfl) (zaS hs λ hc hs=>And.intro hc (zaS hs λ hc hs=>And.intro hc (zaS hs λ hc hs=>And.intro hc (zMJ hX2 hs hk (zn3 (enc:=zaY) (f:=zjr.get) (h:=(λ _=>((s22 zkW (w64 ((w64 (need+gap)) - (1:Int))) (0:Int)),(s22 zkW (w64 ((w64 (need+gap)) - (1:Int))) (1:Int))))) rfl rfl) rfl))))
def zE6 (S2:Int->Int->(Sl (Int×Int))->(Sl (Bool×Bool))->(Scanner×Int)) (need:Int) (gap:Int) (S3:Int->Int->Int->Int->Int->(Sl (Int×Int))->(Sl (Bool×Bool))->(Scanner×Int)) (zcr:Int) (zgz:Int) (zgA:Int) (zc0:Int) (zf2:Int) (zf3:(Sl (Int×Int))) (zf4:(Sl (Bool×Bool))):(Scanner×Int) :=
  (cond (decide (zc0 < (w64 ((w64 (need + gap)) - (1:Int)))))
 (S3 (w64 (zcr+(zu3 .i64 (ztA .i64 zf2 zc0) (1:Int)))) zgz zgA (w64 (zc0+(1:Int))) zf2 zf3 zf4)
 (zE4 S2 need gap zcr zgz zgA zf2 zf3 zf4))
def zE7 (P2:Int->Int->(Sl (Int×Int))->(Sl (Bool×Bool))->Bool) (need:Int) (gap:Int) (P3:Int->Int->Int->Int->Int->(Sl (Int×Int))->(Sl (Bool×Bool))->Bool) (zcr:Int) (zgz:Int) (zgA:Int) (zc0:Int) (zf2:Int) (zf3:(Sl (Int×Int))) (zf4:(Sl (Bool×Bool))):Bool :=
  (cond (decide (zc0 < (w64 ((w64 (need + gap)) - (1:Int)))))
 (decide ((0<=zc0)) &&
 (P3 (w64 (zcr+(zu3 .i64 (ztA .i64 zf2 zc0) (1:Int)))) zgz zgA (w64 (zc0+(1:Int))) zf2 zf3 zf4))
 (zE5 P2 need gap zcr zgz zgA zf2 zf3 zf4))
def zE8 (S2:Int->Int->(Sl (Int×Int))->(Sl (Bool×Bool))->(Scanner×Int)) (need:Int) (gap:Int):Nat->Int->Int->Int->Int->Int->(Sl (Int×Int))->(Sl (Bool×Bool))->(Scanner×Int):=lpO (λ _ _ _ _ _ _ _=>default) (zE6 S2 need gap)
def zE9 (P2:Int->Int->(Sl (Int×Int))->(Sl (Bool×Bool))->Bool) (need:Int) (gap:Int):Nat->Int->Int->Int->Int->Int->(Sl (Int×Int))->(Sl (Bool×Bool))->Bool:=lpO (λ _ _ _ _ _ _ _=>false) (zE7 P2 need gap)
def zFa (S2:Int->Int->(Sl (Int×Int))->(Sl (Bool×Bool))->(Scanner×Int)) (need:Int) (gap:Int) (zcr:Int) (zgz:Int) (zgA:Int) (zc0:Int) (zf2:Int) (zf3:(Sl (Int×Int))) (zf4:(Sl (Bool×Bool))):(Scanner×Int):=zE8 S2 need gap Fuel zcr zgz zgA zc0 zf2 zf3 zf4
def zFb (P2:Int->Int->(Sl (Int×Int))->(Sl (Bool×Bool))->Bool) (need:Int) (gap:Int) (zcr:Int) (zgz:Int) (zgA:Int) (zc0:Int) (zf2:Int) (zf3:(Sl (Int×Int))) (zf4:(Sl (Bool×Bool))):Bool:=zE9 P2 need gap Fuel zcr zgz zgA zc0 zf2 zf3 zf4
theorem zML (hX2:zMH K need gap X2 P2 S2) (hs:zFb P2 need gap zcr zgz zgA zc0 zf2 zf3 zf4=true) (hk:K (e7 (zFa S2 need gap zcr zgz zgA zc0 zf2 zf3 zf4))) (zsK:zil=zg zaY zf3) (zsL:zim=zg za8 zf4):z7 (Wk K) [1,1,1,1,0,1,0,0,1,1,0,0,1,1,0,1,0] [X2] (zMI need gap zcr zgz zgA zc0 zf2 zf3 zf4 zil zim) :=
  zl (λ X=>z7 (Wk K) [1,1,1,1,0,1,0,0,1,1,0,0,1,1,0,1,0,0] [X2,X]) (by kernel_rfl) λ X3 hX =>
  (show ∀ k, zQu K need gap X3 (zE9 P2 need gap k) (zE8 S2 need gap k) from zg4 _ _ (zE7 P2 need gap) (zE6 S2 need gap) (zQu K need gap X3)
 (by intro _ _ _ _ _ _ _ _ _ hs;exact absurd hs dqk)
 (by intro P3 S3 hX3 zcr zgz zgA zc0 zf2 zf3 zf4 zil zim hs hk zsK zsL;subst zsK;subst zsL;exact hX _ (zaI (by kernel_rfl) (zc hs hk (λ hs hk=>(zaS hs λ hc hs=>And.intro hc (hX3 hs hk rfl rfl))) (λ hs hk=>(zMK hX2 hs hk rfl rfl)))))) _ hs hk zsK zsL
def zFc (need:Int) (gap:Int) (S2:Int->Int->(Sl (Int×Int))->(Sl (Bool×Bool))->(Scanner×Int)) (zgy:Int) (zf1:Int) (zeX:(Sl (Int×Int))) (zeY:(Sl (Bool×Bool))):(Scanner×Int) :=
  (cond (decide (zf1 < zgy))
 (zFa S2 need gap (1:Int) zgy zf1 (0:Int) zf1 zeX zeY)
 ((s23 (⟨zvK zeX,zvL zeY⟩:Scanner)),(0:Int)))
def zFd (need:Int) (gap:Int) (P2:Int->Int->(Sl (Int×Int))->(Sl (Bool×Bool))->Bool) (zgy:Int) (zf1:Int) (zeX:(Sl (Int×Int))) (zeY:(Sl (Bool×Bool))):Bool :=
  (cond (decide (zf1 < zgy))
 (zFb P2 need gap (1:Int) zgy zf1 (0:Int) zf1 zeX zeY)
 (decide ((p23 (⟨zvK zeX,zvL zeY⟩:Scanner)=true)) &&
 true))
def zFe (need:Int) (gap:Int):Nat->Int->Int->(Sl (Int×Int))->(Sl (Bool×Bool))->(Scanner×Int):=lpO (λ _ _ _ _=>default) (zFc need gap)
def zFf (need:Int) (gap:Int):Nat->Int->Int->(Sl (Int×Int))->(Sl (Bool×Bool))->Bool:=lpO (λ _ _ _ _=>false) (zFd need gap)
def zFg (need:Int) (gap:Int) (zgy:Int) (zf1:Int) (zeX:(Sl (Int×Int))) (zeY:(Sl (Bool×Bool))):(Scanner×Int):=zFe need gap Fuel zgy zf1 zeX zeY
def zFh (need:Int) (gap:Int) (zgy:Int) (zf1:Int) (zeX:(Sl (Int×Int))) (zeY:(Sl (Bool×Bool))):Bool:=zFf need gap Fuel zgy zf1 zeX zeY
theorem zMM (hs:zFh need gap zgy zf1 zeX zeY=true) (hk:K (e7 (zFg need gap zgy zf1 zeX zeY))) (zsM:zij=zg zaY zeX) (zsN:zik=zg za8 zeY):z7 (Wk K) [1,1,1,1,0,1,0] [] (zMG need gap zgy zf1 zeX zeY zij zik) :=
  zl (λ X=>z7 (Wk K) [1,1,1,1,0,1,0,0] [X]) (by kernel_rfl) λ X2 hX =>
  (show ∀ k, zMH K need gap X2 (zFf need gap k) (zFe need gap k) from zg4 _ _ (zFd need gap) (zFc need gap) (zMH K need gap X2)
 (by intro _ _ _ _ _ _ hs;exact absurd hs dqk)
 (by intro P2 S2 hX2 zgy zf1 zeX zeY zij zik hs hk zsM zsN;subst zsM;subst zsN;exact hX _ (zaI (by kernel_rfl) (zc hs hk (λ hs hk=>(zML hX2 hs hk rfl rfl)) (λ hs hk=>(zaS hs λ hc hs=>And.intro (And.intro (zE zaY 2 zeX.get) (And.intro (zE za8 2 zeY.get) hc)) ((zeq hk):Wk K [.agg [.sl ((s23 (⟨zvK zeX,zvL zeY⟩:Scanner)).Next.len) 2 (λ i=>zaY ((s23 (⟨zvK zeX,zvL zeY⟩:Scanner)).Next.get i)),.sl ((s23 (⟨zvK zeX,zvL zeY⟩:Scanner)).Out.len) 2 (λ i=>za8 ((s23 (⟨zvK zeX,zvL zeY⟩:Scanner)).Out.get i))],.one (.int .i64 (0:Int))]))))))) _ hs hk zsM zsN
def zFi (need:Int) (gap:Int):(Scanner×Int) :=
  (zFg need gap (zvQ .i64 (1:Int) (w64 ((w64 (need+gap)) - (1:Int)))) (0:Int) (⟨0,(λ _=>default)⟩:Sl (Int×Int)) (⟨0,(λ _=>default)⟩:Sl (Bool×Bool)))
def zFj (need:Int) (gap:Int):Bool :=
  (decide ((0<=(w64 ((w64 (need+gap)) - (1:Int))))) &&
 (zFh need gap (zvQ .i64 (1:Int) (w64 ((w64 (need+gap)) - (1:Int)))) (0:Int) (⟨0,(λ _=>default)⟩:Sl (Int×Int)) (⟨0,(λ _=>default)⟩:Sl (Bool×Bool))))
theorem zMN (hs:zFj need gap=true) (hk:K (e7 (zFi need gap))):z7 (Wk K) [1,1] [] ⟨[(0,zI need),(1,zI gap),(4,zp 4 0)],[(4,.box 39 [.p (.nils),.p (.nils)])],[]⟩:=zaI (by kernel_rfl) (zaS hs λ hc hs=>And.intro hc (zMM hs hk rfl rfl))
def zBc (need:Int) (gap:Int) (za7:Bool):(Scanner×Int) :=
  (cond za7
 ((⟨(⟨0,λ _=>default⟩:(Sl (Int×Int))),(⟨0,λ _=>default⟩:(Sl (Bool×Bool)))⟩:Scanner),(2:Int))
 (zFi need gap))
def zBd (need:Int) (gap:Int) (za7:Bool):Bool :=
  (cond za7
 true
 (zFj need gap))
theorem zFk (hs:zBd need gap za7=true) (hk:K (e7 (zBc need gap za7))):z7 (Wk K) [1,0,1] [] ⟨[(0,zI need),(1,zI gap),(4,zp 4 0),(19,zB za7)],[(4,.box 39 [.p (.nils),.p (.nils)])],[]⟩:=zaI (by kernel_rfl) (zc hs hk (λ hs hk=>((wk hk (zfj (.agg (zfj (.nil _ _) (zfj (.nil _ _) zlt))) (zfj (.one (.rfl _)) zlt))):Wk K [.agg [.nils,.nils],.one (.int .i64 (2:Int))])) (λ hs hk=>(zMN hs hk)))
def s7 (need:Int) (gap:Int):(Scanner×Int) :=
  (cond (!(s21 need (1:Int) (5:Int)))
 (zBc need gap true)
 (zBc need gap (!(s21 gap (0:Int) (3:Int)))))
def p7 (need:Int) (gap:Int):Bool :=
  (cond (!(s21 need (1:Int) (5:Int)))
 (zBd need gap true)
 (zBd need gap (!(s21 gap (0:Int) (3:Int)))))
end
theorem q7 (need:Int) (gap:Int) (K:List PA->Prop) (hs:p7 need gap=true) (hk:K (e7 (s7 need gap))):vcFun Try.prog G7 zPw 7 [.one (.int .i64 need),.one (.int .i64 gap)] (Wk K) :=
  zaI (by kernel_rfl) (zc hs hk (λ hs hk=>(zFk hs hk)) (λ hs hk=>(zFk hs hk)))
def zPx : List PA → COut
  | [.one (.int .i64 a0),.one (.int .i64 a1)]=>.det (p7 a0 a1=true) [.agg [.sl (((s7 a0 a1).1).Next.len) 2 (λ i=>zaY (((s7 a0 a1).1).Next.get i)),.sl (((s7 a0 a1).1).Out.len) 2 (λ i=>za8 (((s7 a0 a1).1).Out.get i))],.one (.int .i64 ((s7 a0 a1).2))]
  | _=>.no
theorem call7:zal Try.prog 7:=⟨_,rfl,rfl,by kernel_rfl⟩
theorem ok7:Ok Try.prog 7 zPx:=zhW zRJ call7 λ args K h=>by
  unfold zPx at h
  split at h
  · rename_i a0 a1
    obtain⟨hs,hk⟩:=h
    exact⟨_,zhV zj5 _,(λ _ _=>[]),(λ _=>false),zPw,q7 a0 a1 K hs hk⟩
  · exact h.elim
abbrev T24:Tabs:=(Tabs.nil.addF 21 zDJ)
theorem zPy:TabsOk Try.prog T24:=(TabsOk.nil.addF zQt)
abbrev G24:Ctrs:=csm T24 (λ _ _=>[]) (λ _=>false)
def zIM:Ann:=⟨44,[(0,zK [1] [1]),(1,zK [1,6,7,8] [1]),(2,zK [1,6,7,8,9] [1]),(3,zK [1,4,6,7,8] [1,4]),(4,zK [1,6,7,8,29] [1]),(5,zK [2] []),(6,zK [1,6,7,8] [1]),(7,zK [2] [])],
 [(2,zK [1,6,7,8] [1])],
 [(5,zK [1,6,7,8,29] [1]),(7,zK [1] [1])],
 [],[]⟩
abbrev R24:=Bool
abbrev e24 (r:R24):List PA:=[.one (.bool r)]
@[irreducible] def z24:=ptF Try.prog G24 zIM Try.f24
def zFl (zeC:(Sl (Int×Int))) (zbp:Int) (zaJ:Int) (zce:(Sl (Int×Int))) (zbO:(Sl (Bool×Bool))) (ze9:Nat->List PV) (zeB:Nat->List PV) (zcL:Nat->List PV):St:=⟨[(1,zp 1 0),(6,zP (.sl zeC.len 2 ze9)),(7,zI zbp),(8,zI zaJ)],[(1,.box 39 [.p (.sl zce.len 2 zeB),.p (.sl zbO.len 2 zcL)])],[]⟩
abbrev zIN (K:List PA->Prop) (X:St->Prop) (P:(Sl (Int×Int))->Int->Int->(Sl (Int×Int))->(Sl (Bool×Bool))->Bool) (S:(Sl (Int×Int))->Int->Int->(Sl (Int×Int))->(Sl (Bool×Bool))->Bool):Prop:=∀ ⦃zeC:(Sl (Int×Int))⦄ ⦃zbp:Int⦄ ⦃zaJ:Int⦄ ⦃zce:(Sl (Int×Int))⦄ ⦃zbO:(Sl (Bool×Bool))⦄ ⦃ze9:Nat->List PV⦄ ⦃zeB:Nat->List PV⦄ ⦃zcL:Nat->List PV⦄,P zeC zbp zaJ zce zbO=true->K (e24 (S zeC zbp zaJ zce zbO))->ze9=zg zaY zeC->zeB=zg zaY zce->zcL=zg za8 zbO->X (zFl zeC zbp zaJ zce zbO ze9 zeB zcL)
section
variable {K:List PA->Prop}{s:Scanner}{zeC:(Sl (Int×Int))}{zbp:Int}{zaJ:Int}{zce:(Sl (Int×Int))}{zbO:(Sl (Bool×Bool))}{ze9:Nat->List PV}{zeB:Nat->List PV}{zcL:Nat->List PV}{X0:St->Prop}{P0:(Sl (Int×Int))->Int->Int->(Sl (Int×Int))->(Sl (Bool×Bool))->Bool}{S0:(Sl (Int×Int))->Int->Int->(Sl (Int×Int))->(Sl (Bool×Bool))->Bool}{zqF:(Sl (Int×Int))}{zeG:Int}{zd3:Int}{zcN:Bool}{zff:(Sl (Int×Int))}{zdB:(Sl (Bool×Bool))}{zqG:Nat->List PV}{zih:Nat->List PV}{zfQ:Nat->List PV}{zdr:(Sl (Int×Int))}{zc8:(Sl (Bool×Bool))}{zeA:Nat->List PV}{zdC:Nat->List PV}
def zpl (zdr:(Sl (Int×Int))) (zc8:(Sl (Bool×Bool))):Bool :=
  (cond (s21 (zdr.len : Int) (1:Int) (128:Int))
 ((zc8.len:Int) == (zdr.len:Int))
 false)
theorem zIO (hk:K (e24 (zpl zdr zc8))) (zjo:zeA=zg zaY zdr) (zg8:zdC=zg za8 zc8):z24 K [1,1] [] ⟨[(1,zp 1 0)],[(1,.box 39 [.p (.sl zdr.len 2 zeA),.p (.sl zc8.len 2 zdC)])],[]⟩:=by subst zjo;subst zg8;exact zaI (by kernel_rfl) (zt hk (λ hk=>hk) (λ hk=>hk))
def zpm (S0:(Sl (Int×Int))->Int->Int->(Sl (Int×Int))->(Sl (Bool×Bool))->Bool) (zqF:(Sl (Int×Int))) (zeG:Int) (zd3:Int) (zcN:Bool) (zff:(Sl (Int×Int))) (zdB:(Sl (Bool×Bool))):Bool :=
  (cond zcN
 false
 (S0 zqF zeG (w64 (zd3+(1:Int))) zff zdB))
def zpn (P0:(Sl (Int×Int))->Int->Int->(Sl (Int×Int))->(Sl (Bool×Bool))->Bool) (zqF:(Sl (Int×Int))) (zeG:Int) (zd3:Int) (zcN:Bool) (zff:(Sl (Int×Int))) (zdB:(Sl (Bool×Bool))):Bool :=
  (cond zcN
 true
 (P0 zqF zeG (w64 (zd3+(1:Int))) zff zdB))
theorem zBe (hX0:zIN K X0 P0 S0) (hs:zpn P0 zqF zeG zd3 zcN zff zdB=true) (hk:K (e24 (zpm S0 zqF zeG zd3 zcN zff zdB))) (zyH:zqG=zg zaY zqF) (zm5:zih=zg zaY zff) (zi4:zfQ=zg za8 zdB):z24 K [1,0,1,0,0,1,1,0,0,1,1] [X0] ⟨[(1,zp 1 0),(6,zP (.sl zqF.len 2 zqG)),(7,zI zeG),(8,zI zd3),(29,zB zcN)],[(1,.box 39 [.p (.sl zff.len 2 zih),.p (.sl zdB.len 2 zfQ)])],[]⟩:=by subst zyH;subst zm5;subst zi4;exact zaI (by kernel_rfl) (zc hs hk (λ hs hk=>hk) (λ hs hk=>(hX0 hs hk rfl rfl rfl)))
def zkX (S0:(Sl (Int×Int))->Int->Int->(Sl (Int×Int))->(Sl (Bool×Bool))->Bool) (zeC:(Sl (Int×Int))) (zbp:Int) (zaJ:Int) (zce:(Sl (Int×Int))) (zbO:(Sl (Bool×Bool))):Bool :=
  (cond (decide (zaJ < zbp))
 (cond (!(s21 ((zeC.get zaJ.toNat).1) (0:Int) (w64 ((zce.len : Int) - (1:Int)))))
 (zpm S0 zeC zbp zaJ true zce zbO)
 (zpm S0 zeC zbp zaJ (!(s21 ((zeC.get zaJ.toNat).2) (0:Int) (w64 ((zce.len:Int) - (1:Int))))) zce zbO))
 (zpl zce zbO))
def zkY (P0:(Sl (Int×Int))->Int->Int->(Sl (Int×Int))->(Sl (Bool×Bool))->Bool) (zeC:(Sl (Int×Int))) (zbp:Int) (zaJ:Int) (zce:(Sl (Int×Int))) (zbO:(Sl (Bool×Bool))):Bool :=
  (cond (decide (zaJ < zbp))
 (decide ((0<=zaJ/\zaJ < (zeC.len:Int))) &&
 (cond (!(s21 ((zeC.get zaJ.toNat).1) (0:Int) (w64 ((zce.len : Int) - (1:Int)))))
 (zpn P0 zeC zbp zaJ true zce zbO)
 (zpn P0 zeC zbp zaJ (!(s21 ((zeC.get zaJ.toNat).2) (0:Int) (w64 ((zce.len:Int) - (1:Int))))) zce zbO)))
 true)
def zjt:Nat->(Sl (Int×Int))->Int->Int->(Sl (Int×Int))->(Sl (Bool×Bool))->Bool:=lpO (λ _ _ _ _ _=>default) (zkX)
def zju:Nat->(Sl (Int×Int))->Int->Int->(Sl (Int×Int))->(Sl (Bool×Bool))->Bool:=lpO (λ _ _ _ _ _=>false) (zkY)
def zBf (zeC:(Sl (Int×Int))) (zbp:Int) (zaJ:Int) (zce:(Sl (Int×Int))) (zbO:(Sl (Bool×Bool))):Bool:=zjt Fuel zeC zbp zaJ zce zbO
def zBg (zeC:(Sl (Int×Int))) (zbp:Int) (zaJ:Int) (zce:(Sl (Int×Int))) (zbO:(Sl (Bool×Bool))):Bool:=zju Fuel zeC zbp zaJ zce zbO
theorem zIP (hs:zBg zeC zbp zaJ zce zbO=true) (hk:K (e24 (zBf zeC zbp zaJ zce zbO))) (zmP:ze9=zg zaY zeC) (zjq:zeB=zg zaY zce) (zfR:zcL=zg za8 zbO):z24 K [1,0,1,0] [] (zFl zeC zbp zaJ zce zbO ze9 zeB zcL) :=
  zl (λ X=>z24 K [1,0,1,0,0] [X]) (by kernel_rfl) λ X0 hX =>
  (show ∀ k, zIN K X0 (zju k) (zjt k) from zg4 _ _ (zkY) (zkX) (zIN K X0)
 (by intro _ _ _ _ _ _ _ _ hs;exact absurd hs dqk)
 (by intro P0 S0 hX0 zeC zbp zaJ zce zbO ze9 zeB zcL hs hk zmP zjq zfR;subst zmP;subst zjq;subst zfR;exact hX _ (zaI (by kernel_rfl) (zc hs hk (λ hs hk=>(zaS hs λ hc hs=>And.intro hc (zc hs hk (λ hs hk=>(zBe hX0 hs hk rfl rfl rfl)) (λ hs hk=>(zBe hX0 hs hk rfl rfl rfl))))) (λ hs hk=>(zIO hk rfl rfl)))))) _ hs hk zmP zjq zfR
def s24 (s:Scanner):Bool :=
  (zBf s.Next (s.Next.len:Int) (0:Int) s.Next s.Out)
def p24 (s:Scanner):Bool :=
  (zBg s.Next (s.Next.len:Int) (0:Int) s.Next s.Out)
end
theorem q24 (s:Scanner) (K:List PA->Prop) (hs:p24 s=true) (hk:K (e24 (s24 s))):vcFun Try.prog G24 zIM 24 [.agg (ze7 s)] K :=
  zaI (by kernel_rfl) (zIP hs hk rfl rfl rfl)
def zIQ : List PA → COut
  | [.agg [.sl za0 zcZ za1,.sl zb2 zez zb3]]=>.det (IsE zaY 2 zcZ za1/\IsE za8 2 zez zb3/\p24 (⟨(⟨za0,zbL za1⟩:(Sl (Int×Int))),(⟨zb2,zb5 zb3⟩:(Sl (Bool×Bool)))⟩:Scanner)=true) [.one (.bool (s24 (⟨(⟨za0,zbL za1⟩:(Sl (Int×Int))),(⟨zb2,zb5 zb3⟩:(Sl (Bool×Bool)))⟩:Scanner)))]
  | _=>.no
theorem zMO:zal Try.prog 24:=⟨_,rfl,rfl,by kernel_rfl⟩
theorem zRK:Ok Try.prog 24 zIQ:=za5 zPy zMO λ args K h=>by
  unfold zIQ at h
  split at h
  · rename_i za0 zcZ za1 zb2 zez zb3
    obtain⟨⟨⟨rfl,zcc,rfl⟩,⟨rfl,zdj,rfl⟩,hs⟩,hk⟩:=h
    try rw[zbB zcc] at hs
    try rw[zbB zcc] at hk
    try rw[zbU zdj] at hs
    try rw[zbU zdj] at hk
    exact⟨(λ _ _=>[]),(λ _=>false),zIM,q24 (⟨(⟨za0,zcc⟩:(Sl (Int×Int))),(⟨zb2,zdj⟩:(Sl (Bool×Bool)))⟩:Scanner) K hs hk⟩
  · exact h.elim
abbrev T25:Tabs:=Tabs.nil
theorem zPz:TabsOk Try.prog T25:=TabsOk.nil
abbrev G25:Ctrs:=csm T25 (λ _ _=>[]) (λ _=>false)
def zMP:Ann:=⟨4,[(0,zK [0] []),(1,zK [3] []),(2,zK [2] []),(3,zK [2] [])],
 [],
 [],
 [],[]⟩
abbrev R25:=Int
abbrev e25 (r:R25):List PA:=[.one (.int .i64 r)]
section
variable {K:List PA->Prop}{grain:Bool}
def s25 (grain:Bool):Int :=
  (cond grain
 (1:Int)
 (0:Int))
end
theorem q25 (grain:Bool) (K:List PA->Prop) (hk:K (e25 (s25 grain))):vcFun Try.prog G25 zMP 25 [.one (.bool grain)] K :=
  zaI (by kernel_rfl) (zt hk (λ hk=>hk) (λ hk=>hk))
def zIR : List PA → COut
  | [.one (.bool b)]=>.alt b True [.one (.int .i64 1)] True [.one (.int .i64 0)]
  | _=>.no
theorem zMQ:zal Try.prog 25:=⟨_,rfl,rfl,by kernel_rfl⟩
theorem zRL:Ok Try.prog 25 zIR:=za5 zPz zMQ λ args K h=>by
  unfold zIR at h
  split at h
  · rename_i b
    refine⟨(λ _ _=>[]),(λ _=>false),zMP,q25 b K ?_⟩
    show K [.one (.int .i64 (s25 b))]
    cases b
    · exact (h.2 rfl).2
    · exact (h.1 rfl).2
  · exact h.elim
abbrev T8:Tabs:=((Tabs.nil.addF 24 zIQ).addF 25 zIR)
theorem zRM:TabsOk Try.prog T8:=((TabsOk.nil.addF zRK).addF zRL)
abbrev G8:Ctrs:=csm T8 (λ _ _=>[]) (λ _=>false)
def zPA:Ann:=⟨43,[(0,zK [1,2] [2]),(1,zK [1,2,12] [2]),(2,zK [4,5] []),(3,zK [1,2,15] [2]),(4,zK [4,5] []),(5,zK [1,2,6] [2]),(6,zK [1,2,6,7] [2]),(7,zK [2,6,7,16,17,18] [2]),(8,zK [2,6,7,16,17,18,19] [2,32]),(9,zK [2,6,7,9,16,17,18] [2,32]),(10,zK [2,6,7,9,16,17,18] [2,32]),(11,zK [2,6,7,16,17,18] [2,32]),(12,zK [2,6,7,16,17,18] [2,32]),(13,zK [4,5] [32])],
 [(8,⟨[2,6,7,16,17,18],[2,32],[(6,32,4,λ _=>enc_4 default)],[],[],[],[]⟩)],
 [(2,zK [1,2,12] [2]),(3,zK [1,2] [2]),(5,zK [1,2] [2]),(11,zK [2,6,7,9,16,17,18] [2,32])],
 [],[]⟩
abbrev R8:=((Sl Bool)×Int)
abbrev e8 (r:R8):List PA:=[.one (.sl r.1.len 1 (λ i=>enc_4 (r.1.get i))),.one (.int .i64 r.2)]
@[irreducible] def z8:=ptF Try.prog G8 zPA Try.f8
def zMR (cells:(Sl Bool)) (zjG:Int) (zek:Int) (zcS:(Sl (Int×Int))) (zcq:(Sl (Bool×Bool))) (zdk:(Sl Bool)) (zdE:Nat->List PV) (zdF:Nat->List PV) (zin:Nat->List PV):St:=⟨[(2,zp 2 0),(6,zv 32),(7,zI zjG),(16,zS enc_4 1 cells),(17,zI (cells.len:Int)),(18,zI zek)],[(2,.box 39 [.p (.sl zcS.len 2 zdE),.p (.sl zcq.len 2 zdF)]),(32,.vec 4 1 1 zdk.len zin)],[]⟩
abbrev zPB (K:List PA->Prop) (cells:(Sl Bool)) (X:St->Prop) (P:Int->Int->(Sl (Int×Int))->(Sl (Bool×Bool))->(Sl Bool)->Bool) (S:Int->Int->(Sl (Int×Int))->(Sl (Bool×Bool))->(Sl Bool)->((Sl Bool)×Int)):Prop:=∀ ⦃zjG:Int⦄ ⦃zek:Int⦄ ⦃zcS:(Sl (Int×Int))⦄ ⦃zcq:(Sl (Bool×Bool))⦄ ⦃zdk:(Sl Bool)⦄ ⦃zdE:Nat->List PV⦄ ⦃zdF:Nat->List PV⦄ ⦃zin:Nat->List PV⦄,P zjG zek zcS zcq zdk=true->K (e8 (S zjG zek zcS zcq zdk))->zdE=zg zaY zcS->zdF=zg za8 zcq->zin=zg enc_4 zdk->X (zMR cells zjG zek zcS zcq zdk zdE zdF zin)
section
variable {K:List PA->Prop}{s:Scanner}{cells:(Sl Bool)}{zdL:Bool}{zce:(Sl (Int×Int))}{zbO:(Sl (Bool×Bool))}{zeB:Nat->List PV}{zcL:Nat->List PV}{zff:(Sl (Int×Int))}{zdB:(Sl (Bool×Bool))}{zih:Nat->List PV}{zfQ:Nat->List PV}{zdr:(Sl (Int×Int))}{zc8:(Sl (Bool×Bool))}{zeA:Nat->List PV}{zdC:Nat->List PV}{zjG:Int}{zek:Int}{zcS:(Sl (Int×Int))}{zcq:(Sl (Bool×Bool))}{zdk:(Sl Bool)}{zdE:Nat->List PV}{zdF:Nat->List PV}{zin:Nat->List PV}{X3:St->Prop}{P3:Int->Int->(Sl (Int×Int))->(Sl (Bool×Bool))->(Sl Bool)->Bool}{S3:Int->Int->(Sl (Int×Int))->(Sl (Bool×Bool))->(Sl Bool)->((Sl Bool)×Int)}{zvM:Int}{cv4:Bool}{zh2:Int}{zdQ:(Sl (Int×Int))}{zeE:(Sl (Bool×Bool))}{znw:(Sl Bool)}{zm1:Nat->List PV}{zm2:Nat->List PV}{zBh:Nat->List PV}
def zuy (S3:Int->Int->(Sl (Int×Int))->(Sl (Bool×Bool))->(Sl Bool)->((Sl Bool)×Int)) (cells:(Sl Bool)) (zvM:Int) (cv4:Bool) (zh2:Int) (zdQ:(Sl (Int×Int))) (zeE:(Sl (Bool×Bool))) (znw:(Sl Bool)):((Sl Bool)×Int) :=
  (cond cv4
 (S3 ((zdQ.get zvM.toNat).2) (w64 (zh2+(1:Int))) zdQ zeE znw)
 (S3 ((zdQ.get zvM.toNat).1) (w64 (zh2+(1:Int))) zdQ zeE znw))
def zuz (P3:Int->Int->(Sl (Int×Int))->(Sl (Bool×Bool))->(Sl Bool)->Bool) (cells:(Sl Bool)) (zvM:Int) (cv4:Bool) (zh2:Int) (zdQ:(Sl (Int×Int))) (zeE:(Sl (Bool×Bool))) (znw:(Sl Bool)):Bool :=
  (cond cv4
 (decide ((0<=zvM/\zvM < (zdQ.len:Int))) &&
 (P3 ((zdQ.get zvM.toNat).2) (w64 (zh2+(1:Int))) zdQ zeE znw))
 (decide ((0<=zvM/\zvM < (zdQ.len:Int))) &&
 (P3 ((zdQ.get zvM.toNat).1) (w64 (zh2+(1:Int))) zdQ zeE znw)))
theorem zFm (hX3:zPB K cells X3 P3 S3) (hs:zuz P3 cells zvM cv4 zh2 zdQ zeE znw=true) (hk:K (e8 (zuy S3 cells zvM cv4 zh2 zdQ zeE znw))) (zsD:zm1=zg zaY zdQ) (zsE:zm2=zg za8 zeE) (zIS:zBh=zg enc_4 znw):z8 (Wk K) [1,1,1,1,1,0,1,0,0,1,1,0,0,1,1] [X3] ⟨[(2,zp 2 0),(6,zv 32),(7,zI zvM),(9,zB cv4),(16,zS enc_4 1 cells),(17,zI (cells.len:Int)),(18,zI zh2)],[(2,.box 39 [.p (.sl zdQ.len 2 zm1),.p (.sl zeE.len 2 zm2)]),(32,.vec 4 1 1 znw.len zBh)],[]⟩:=by subst zsD;subst zsE;subst zIS;exact zaI (by kernel_rfl) (zc hs hk (λ hs hk=>(And.intro (trivial:True) (zaS hs λ hc hs=>And.intro hc (hX3 hs hk rfl rfl rfl)))) (λ hs hk=>(And.intro (trivial:True) (zaS hs λ hc hs=>And.intro hc (hX3 hs hk rfl rfl rfl)))))
def zoh (cells:(Sl Bool)) (S3:Int->Int->(Sl (Int×Int))->(Sl (Bool×Bool))->(Sl Bool)->((Sl Bool)×Int)) (zjG:Int) (zek:Int) (zcS:(Sl (Int×Int))) (zcq:(Sl (Bool×Bool))) (zdk:(Sl Bool)):((Sl Bool)×Int) :=
  (cond (decide (zek < (cells.len : Int)))
 (cond (cells.get zek.toNat)
 (zuy S3 cells zjG (cells.get zek.toNat) zek zcS zcq (⟨(zdk.len+1),(zo8 zdk.len zdk.get (λ _=>(zcq.get zjG.toNat).2))⟩:Sl Bool))
 (zuy S3 cells zjG (cells.get zek.toNat) zek zcS zcq (⟨(zdk.len+1),(zo8 zdk.len zdk.get (λ _=>(zcq.get zjG.toNat).1))⟩:Sl Bool)))
 (zdk,(0:Int)))
def zoi (cells:(Sl Bool)) (P3:Int->Int->(Sl (Int×Int))->(Sl (Bool×Bool))->(Sl Bool)->Bool) (zjG:Int) (zek:Int) (zcS:(Sl (Int×Int))) (zcq:(Sl (Bool×Bool))) (zdk:(Sl Bool)):Bool :=
  (cond (decide (zek < (cells.len : Int)))
 (decide ((0<=zek/\zek < (cells.len:Int))) &&
 (cond (cells.get zek.toNat)
 (decide ((0<=zjG/\zjG < (zcq.len:Int))) &&
 (decide (((zdk.len+1) * 1<=140737488355328/\zdk.len+1<=9223372036854775807)) &&
 (zuz P3 cells zjG (cells.get zek.toNat) zek zcS zcq (⟨(zdk.len+1),(zo8 zdk.len zdk.get (λ _=>(zcq.get zjG.toNat).2))⟩:Sl Bool))))
 (decide ((0<=zjG/\zjG < (zcq.len:Int))) &&
 (decide (((zdk.len+1) * 1<=140737488355328/\zdk.len+1<=9223372036854775807)) &&
 (zuz P3 cells zjG (cells.get zek.toNat) zek zcS zcq (⟨(zdk.len+1),(zo8 zdk.len zdk.get (λ _=>(zcq.get zjG.toNat).1))⟩:Sl Bool))))))
 true)
def zm6 (cells:(Sl Bool)):Nat->Int->Int->(Sl (Int×Int))->(Sl (Bool×Bool))->(Sl Bool)->((Sl Bool)×Int):=lpO (λ _ _ _ _ _=>default) (zoh cells)
def zm7 (cells:(Sl Bool)):Nat->Int->Int->(Sl (Int×Int))->(Sl (Bool×Bool))->(Sl Bool)->Bool:=lpO (λ _ _ _ _ _=>false) (zoi cells)
def zBi (cells:(Sl Bool)) (zjG:Int) (zek:Int) (zcS:(Sl (Int×Int))) (zcq:(Sl (Bool×Bool))) (zdk:(Sl Bool)):((Sl Bool)×Int):=zm6 cells Fuel zjG zek zcS zcq zdk
def zBj (cells:(Sl Bool)) (zjG:Int) (zek:Int) (zcS:(Sl (Int×Int))) (zcq:(Sl (Bool×Bool))) (zdk:(Sl Bool)):Bool:=zm7 cells Fuel zjG zek zcS zcq zdk
theorem zMS (hs:zBj cells zjG zek zcS zcq zdk=true) (hk:K (e8 (zBi cells zjG zek zcS zcq zdk))) (zjm:zdE=zg zaY zcS) (zjn:zdF=zg za8 zcq) (zsO:zin=zg enc_4 zdk):z8 (Wk K) [1,1,1,1,1,0,1,0] [] (zMR cells zjG zek zcS zcq zdk zdE zdF zin) :=
  zl (λ X=>z8 (Wk K) [1,1,1,1,1,0,1,0,0] [X]) (by kernel_rfl) λ X3 hX =>
  (show ∀ k, zPB K cells X3 (zm7 cells k) (zm6 cells k) from zg4 _ _ (zoi cells) (zoh cells) (zPB K cells X3)
 (by intro _ _ _ _ _ _ _ _ hs;exact absurd hs dqk)
 (by intro P3 S3 hX3 zjG zek zcS zcq zdk zdE zdF zin hs hk zjm zjn zsO;subst zjm;subst zjn;subst zsO;exact hX _ (zaI (by kernel_rfl) (zc hs hk (λ hs hk=>(zaS hs λ hc hs=>And.intro hc (zc hs hk (λ hs hk=>(And.intro (trivial:True) (zaS hs λ hc hs=>And.intro hc (zaS hs λ hc hs=>And.intro hc (zFm hX3 hs hk rfl rfl (zn3 (enc:=enc_4) (f:=zdk.get) (h:=(λ _=>(zcq.get zjG.toNat).2)) rfl rfl)))))) (λ hs hk=>(And.intro (trivial:True) (zaS hs λ hc hs=>And.intro hc (zaS hs λ hc hs=>And.intro hc (zFm hX3 hs hk rfl rfl (zn3 (enc:=enc_4) (f:=zdk.get) (h:=(λ _=>(zcq.get zjG.toNat).1)) rfl rfl))))))))) (λ hs hk=>((zeq hk):Wk K [.one (.sl zdk.len 1 (λ i=>enc_4 (zdk.get i))),.one (.int .i64 (0:Int))])))))) _ hs hk zjm zjn zsO
def zBk (cells:(Sl Bool)) (zdr:(Sl (Int×Int))) (zc8:(Sl (Bool×Bool))):((Sl Bool)×Int) :=
  (zBi cells (0:Int) (0:Int) zdr zc8 (⟨0,(λ _=>default)⟩:Sl Bool))
def zBl (cells:(Sl Bool)) (zdr:(Sl (Int×Int))) (zc8:(Sl (Bool×Bool))):Bool :=
  (zBj cells (0:Int) (0:Int) zdr zc8 (⟨0,(λ _=>default)⟩:Sl Bool))
theorem zMT (hs:zBl cells zdr zc8=true) (hk:K (e8 (zBk cells zdr zc8))) (zjo:zeA=zg zaY zdr) (zg8:zdC=zg za8 zc8):z8 (Wk K) [1,1,1] [] ⟨[(1,zS enc_4 1 cells),(2,zp 2 0)],[(2,.box 39 [.p (.sl zdr.len 2 zeA),.p (.sl zc8.len 2 zdC)])],[]⟩:=by subst zjo;subst zg8;exact zaI (by kernel_rfl) (zMS hs hk rfl rfl rfl)
def zBm (cells:(Sl Bool)) (zff:(Sl (Int×Int))) (zdB:(Sl (Bool×Bool))):((Sl Bool)×Int) :=
  (cond (decide ((cells.len : Int) > (10000:Int)))
 ((⟨0,λ _=>default⟩:(Sl Bool)),(3:Int))
 (zBk cells zff zdB))
def zBn (cells:(Sl Bool)) (zff:(Sl (Int×Int))) (zdB:(Sl (Bool×Bool))):Bool :=
  (cond (decide ((cells.len : Int) > (10000:Int)))
 true
 (zBl cells zff zdB))
theorem zMU (hs:zBn cells zff zdB=true) (hk:K (e8 (zBm cells zff zdB))) (zm5:zih=zg zaY zff) (zi4:zfQ=zg za8 zdB):z8 (Wk K) [1,1] [] ⟨[(1,zS enc_4 1 cells),(2,zp 2 0)],[(2,.box 39 [.p (.sl zff.len 2 zih),.p (.sl zdB.len 2 zfQ)])],[]⟩:=by subst zm5;subst zi4;exact zaI (by kernel_rfl) (zc hs hk (λ hs hk=>((wk hk (zfj (.one (.nil _ _)) (zfj (.one (.rfl _)) zlt))):Wk K [.one (.nils),.one (.int .i64 (3:Int))])) (λ hs hk=>(zMT hs hk rfl rfl)))
def zBo (cells:(Sl Bool)) (zdL:Bool) (zce:(Sl (Int×Int))) (zbO:(Sl (Bool×Bool))):((Sl Bool)×Int) :=
  (cond zdL
 ((⟨0,λ _=>default⟩:(Sl Bool)),(2:Int))
 (zBm cells zce zbO))
def zBp (cells:(Sl Bool)) (zdL:Bool) (zce:(Sl (Int×Int))) (zbO:(Sl (Bool×Bool))):Bool :=
  (cond zdL
 true
 (zBn cells zce zbO))
theorem zMV (hs:zBp cells zdL zce zbO=true) (hk:K (e8 (zBo cells zdL zce zbO))) (zjq:zeB=zg zaY zce) (zfR:zcL=zg za8 zbO):z8 (Wk K) [1,0,1] [] ⟨[(1,zS enc_4 1 cells),(2,zp 2 0),(12,zB zdL)],[(2,.box 39 [.p (.sl zce.len 2 zeB),.p (.sl zbO.len 2 zcL)])],[]⟩:=by subst zjq;subst zfR;exact zaI (by kernel_rfl) (zc hs hk (λ hs hk=>((wk hk (zfj (.one (.nil _ _)) (zfj (.one (.rfl _)) zlt))):Wk K [.one (.nils),.one (.int .i64 (2:Int))])) (λ hs hk=>(zMU hs hk rfl rfl)))
def s8 (s:Scanner) (cells:(Sl Bool)):((Sl Bool)×Int) :=
  (zBo cells (!(s24 s)) s.Next s.Out)
def p8 (s:Scanner) (cells:(Sl Bool)):Bool :=
  (decide ((p24 s=true)) &&
 (zBp cells (!(s24 s)) s.Next s.Out))
end
theorem q8 (s:Scanner) (cells:(Sl Bool)) (K:List PA->Prop) (hs:p8 s cells=true) (hk:K (e8 (s8 s cells))):vcFun Try.prog G8 zPA 8 [.agg (ze7 s),.one (.sl cells.len 1 (λ i=>enc_4 (cells.get i)))] (Wk K) :=
  zaI (by kernel_rfl) (zaS hs λ hc hs=>And.intro (And.intro (zE zaY 2 s.Next.get) (And.intro (zE za8 2 s.Out.get) hc)) (zMV hs hk rfl rfl))
def zPC : List PA → COut
  | [.agg [.sl za0 zcZ za1,.sl zb2 zez zb3],.one (.sl zkr zxT zkI)]=>.det (IsE zaY 2 zcZ za1/\IsE za8 2 zez zb3/\IsE enc_4 1 zxT zkI/\p8 (⟨(⟨za0,zbL za1⟩:(Sl (Int×Int))),(⟨zb2,zb5 zb3⟩:(Sl (Bool×Bool)))⟩:Scanner) (⟨zkr,zbj zkI⟩:(Sl Bool))=true) [.one (.sl (((s8 (⟨(⟨za0,zbL za1⟩:(Sl (Int×Int))),(⟨zb2,zb5 zb3⟩:(Sl (Bool×Bool)))⟩:Scanner) (⟨zkr,zbj zkI⟩:(Sl Bool))).1).len) 1 (λ i=>enc_4 (((s8 (⟨(⟨za0,zbL za1⟩:(Sl (Int×Int))),(⟨zb2,zb5 zb3⟩:(Sl (Bool×Bool)))⟩:Scanner) (⟨zkr,zbj zkI⟩:(Sl Bool))).1).get i))),.one (.int .i64 ((s8 (⟨(⟨za0,zbL za1⟩:(Sl (Int×Int))),(⟨zb2,zb5 zb3⟩:(Sl (Bool×Bool)))⟩:Scanner) (⟨zkr,zbj zkI⟩:(Sl Bool))).2))]
  | _=>.no
theorem call8:zal Try.prog 8:=⟨_,rfl,rfl,by kernel_rfl⟩
theorem ok8:Ok Try.prog 8 zPC:=zhW zRM call8 λ args K h=>by
  unfold zPC at h
  split at h
  · rename_i za0 zcZ za1 zb2 zez zb3 zkr zxT zkI
    obtain⟨⟨⟨rfl,zcc,rfl⟩,⟨rfl,zdj,rfl⟩,⟨rfl,zq4,rfl⟩,hs⟩,hk⟩:=h
    try rw[zbB zcc] at hs
    try rw[zbB zcc] at hk
    try rw[zbU zdj] at hs
    try rw[zbU zdj] at hk
    try rw[zfz zq4] at hs
    try rw[zfz zq4] at hk
    exact⟨_,zhV zj5 _,(λ _ _=>[]),(λ _=>false),zPA,q8 (⟨(⟨za0,zcc⟩:(Sl (Int×Int))),(⟨zb2,zdj⟩:(Sl (Bool×Bool)))⟩:Scanner) (⟨zkr,zq4⟩:(Sl Bool)) K hs hk⟩
  · exact h.elim
abbrev T9:Tabs:=Tabs.nil
theorem zRN:TabsOk Try.prog T9:=TabsOk.nil
abbrev G9:Ctrs:=csm T9 (λ _ _=>[]) (λ _=>false)
def zQv:Ann:=⟨4,[(0,zK [0] []),(1,zK [3] []),(2,zK [2] []),(3,zK [2] [])],
 [],
 [],
 [],[]⟩
abbrev R9:=Int
abbrev e9 (r:R9):List PA:=[.one (.int .i64 r)]
section
variable {K:List PA->Prop}{grain:Bool}
def s9 (grain:Bool):Int :=
  (cond grain
 (1:Int)
 (0:Int))
end
theorem q9 (grain:Bool) (K:List PA->Prop) (hk:K (e9 (s9 grain))):vcFun Try.prog G9 zQv 9 [.one (.bool grain)] K :=
  zaI (by kernel_rfl) (zt hk (λ hk=>hk) (λ hk=>hk))
def zPD : List PA → COut
  | [.one (.bool a0)]=>.tot [.one (.int .i64 (s9 a0))]
  | _=>.no
theorem call9:zal Try.prog 9:=⟨_,rfl,rfl,by kernel_rfl⟩
theorem ok9:Ok Try.prog 9 zPD:=za5 zRN call9 λ args K h=>by
  unfold zPD at h
  split at h
  · rename_i a0
    have hk:=h
    exact⟨(λ _ _=>[]),(λ _=>false),zQv,q9 a0 K hk⟩
  · exact h.elim
abbrev T10:Tabs:=Tabs.nil
theorem zPE:TabsOk Try.prog T10:=TabsOk.nil
abbrev G10:Ctrs:=csm T10 (λ _ _=>[]) (λ _=>false)
def zIT:Ann:=⟨20,[(0,zK [1,2] [2]),(1,zK [1,2,5] [2]),(2,zK [1,2,5,10] [2]),(3,zK [1,2,5] [2]),(4,zK [1,2,5,19] [2]),(5,zK [4] []),(6,zK [4] [])],
 [(2,zK [1,2,5] [2])],
 [],
 [],[]⟩
abbrev R10:=Bool
abbrev e10 (r:R10):List PA:=[.one (.bool r)]
@[irreducible] def z10:=ptF Try.prog G10 zIT Try.f10
def zFn (p:Plane) (channel:Int) (iv0:Int):St:=⟨[(1,zI channel),(2,zp 2 0),(5,zI iv0)],[(2,.box 34 (zm (enc_34 p)))],[]⟩
abbrev zMW (K:List PA->Prop) (p:Plane) (channel:Int) (X:St->Prop) (P:Int->Bool) (S:Int->Bool):Prop:=∀ ⦃iv0:Int⦄,P iv0=true->K (e10 (S iv0))->X (zFn p channel iv0)
section
variable {K:List PA->Prop}{p:Plane}{channel:Int}{iv0:Int}{X0:St->Prop}{P0:Int->Bool}{S0:Int->Bool}
def zkZ (p:Plane) (channel:Int) (S0:Int->Bool) (iv0:Int):Bool :=
  (cond (decide (iv0 < (p.Dead.len : Int)))
 (cond ((p.Dead.get iv0.toNat) == channel)
 true
 (S0 (w64 (iv0+(1:Int)))))
 false)
def zk0 (p:Plane) (channel:Int) (P0:Int->Bool) (iv0:Int):Bool :=
  (cond (decide (iv0 < (p.Dead.len : Int)))
 (decide ((0<=iv0/\iv0 < (p.Dead.len:Int))) &&
 (cond ((p.Dead.get iv0.toNat) == channel)
 true
 (P0 (w64 (iv0+(1:Int))))))
 true)
def zjv (p:Plane) (channel:Int):Nat->Int->Bool:=lpO (λ _=>default) (zkZ p channel)
def zjw (p:Plane) (channel:Int):Nat->Int->Bool:=lpO (λ _=>false) (zk0 p channel)
def zsP (p:Plane) (channel:Int) (iv0:Int):Bool:=zjv p channel Fuel iv0
def zsQ (p:Plane) (channel:Int) (iv0:Int):Bool:=zjw p channel Fuel iv0
theorem zIU (hs:zsQ p channel iv0=true) (hk:K (e10 (zsP p channel iv0))):z10 K [1,0,1,0] [] (zFn p channel iv0) :=
  zl (λ X=>z10 K [1,0,1,0,0] [X]) (by kernel_rfl) λ X0 hX =>
  (show ∀ k, zMW K p channel X0 (zjw p channel k) (zjv p channel k) from zg4 _ _ (zk0 p channel) (zkZ p channel) (zMW K p channel X0)
 (by intro _ hs;exact absurd hs dqk)
 (by intro P0 S0 hX0 iv0 hs hk;exact hX _ (zaI (by kernel_rfl) (zc hs hk (λ hs hk=>(zaS hs λ hc hs=>And.intro hc (zc hs hk (λ hs hk=>hk) (λ hs hk=>(hX0 hs hk))))) (λ hs hk=>hk))))) _ hs hk
def s10 (p:Plane) (channel:Int):Bool :=
  (zsP p channel (0:Int))
def p10 (p:Plane) (channel:Int):Bool :=
  (zsQ p channel (0:Int))
end
theorem q10 (p:Plane) (channel:Int) (K:List PA->Prop) (hs:p10 p channel=true) (hk:K (e10 (s10 p channel))):vcFun Try.prog G10 zIT 10 [.agg (enc_34 p),.one (.int .i64 channel)] K :=
  zaI (by kernel_rfl) (zIU hs hk)
def zIV : List PA → COut
  | [.agg [.int .i64 zhb,.int .i64 zhc,.int .i64 zDI,.int .i64 zfq,.int .i64 zfr,.int .i64 zev,.int .i64 zfs,.int .i64 zcD,.int .i64 zcn,.int .i64 zcY,.int .i64 zcE,.int .i64 zew,.int .i64 zft,.sl zdM zgv zdN,.sl zex zh4 zey],.one (.int .i64 a1)]=>.det (IsE zaz 3 zgv zdN/\IsE zaB 1 zh4 zey/\p10 (⟨zhb,zhc,zDI,zfq,zfr,zev,zfs,(⟨zcD,zcn⟩:Span),(⟨zcY,zcE⟩:Span),zew,zft,(⟨zdM,zbn zdN⟩:(Sl Drift)),(⟨zex,zbh zey⟩:(Sl Int))⟩:Plane) a1=true) [.one (.bool (s10 (⟨zhb,zhc,zDI,zfq,zfr,zev,zfs,(⟨zcD,zcn⟩:Span),(⟨zcY,zcE⟩:Span),zew,zft,(⟨zdM,zbn zdN⟩:(Sl Drift)),(⟨zex,zbh zey⟩:(Sl Int))⟩:Plane) a1))]
  | _=>.no
theorem call10:zal Try.prog 10:=⟨_,rfl,rfl,by kernel_rfl⟩
theorem zRO:Ok Try.prog 10 zIV:=za5 zPE call10 λ args K h=>by
  unfold zIV at h
  split at h
  · rename_i zhb zhc zDI zfq zfr zev zfs zcD zcn zcY zcE zew zft zdM zgv zdN zex zh4 zey a1
    obtain⟨⟨⟨rfl,zeT,rfl⟩,⟨rfl,zfT,rfl⟩,hs⟩,hk⟩:=h
    try rw[zbc zeT] at hs
    try rw[zbc zeT] at hk
    try rw[zaV zfT] at hs
    try rw[zaV zfT] at hk
    exact⟨(λ _ _=>[]),(λ _=>false),zIT,q10 (⟨zhb,zhc,zDI,zfq,zfr,zev,zfs,(⟨zcD,zcn⟩:Span),(⟨zcY,zcE⟩:Span),zew,zft,(⟨zdM,zeT⟩:(Sl Drift)),(⟨zex,zfT⟩:(Sl Int))⟩:Plane) a1 K hs hk⟩
  · exact h.elim
abbrev T45:Tabs:=Tabs.nil
theorem zPF:TabsOk Try.prog T45:=TabsOk.nil
abbrev G45:Ctrs:=csm T45 (λ _ _=>[]) (λ _=>false)
def zMX:Ann:=⟨15,[(0,zK [0,1,2] []),(1,zK [6] [])],
 [],
 [],
 [],[]⟩
abbrev R45:=Bool
abbrev e45 (r:R45):List PA:=[.one (.bool r)]
section
variable {K:List PA->Prop}{n:Int}{low:Int}{high:Int}
def s45 (n:Int) (low:Int) (high:Int):Bool :=
  (cond (decide (n >= low))
 (decide (n<=high))
 false)
end
theorem q45 (n:Int) (low:Int) (high:Int) (K:List PA->Prop) (hk:K (e45 (s45 n low high))):vcFun Try.prog G45 zMX 45 [.one (.int .i64 n),.one (.int .i64 low),.one (.int .i64 high)] K :=
  zaI (by kernel_rfl) (zt hk (λ hk=>hk) (λ hk=>hk))
def zqV : List PA → COut
  | [.one (.int .i64 a0),.one (.int .i64 a1),.one (.int .i64 a2)]=>.tot [.one (.bool (s45 a0 a1 a2))]
  | _=>.no
theorem zMY:zal Try.prog 45:=⟨_,rfl,rfl,by kernel_rfl⟩
theorem zJ2:Ok Try.prog 45 zqV:=za5 zPF zMY λ args K h=>by
  unfold zqV at h
  split at h
  · rename_i a0 a1 a2
    have hk:=h
    exact⟨(λ _ _=>[]),(λ _=>false),zMX,q45 a0 a1 a2 K hk⟩
  · exact h.elim
abbrev T27:Tabs:=(Tabs.nil.addF 45 zqV)
theorem zPG:TabsOk Try.prog T27:=(TabsOk.nil.addF zJ2)
abbrev G27:Ctrs:=csm T27 (λ _ _=>[]) (λ _=>false)
def zIW:Ann:=⟨111,[(0,zK [2,3,4] [2,3,4]),(1,zK [2,3,4,16] [2,3,4]),(2,zK [4,5] [4]),(3,zK [3,4,6] [3,4,6]),(4,zK [3,4,6,61] [3,4,6]),(5,zK [4,5] [4]),(6,zK [3,4,6,65,66,67] [3,4,6]),(7,zK [3,4,6,65,66,67,68] [3,4,6]),(8,zK [3,4,6,8,65,66,67] [3,4,6]),(9,zK [3,4,6,65,66,67,80] [3,4,6]),(10,zK [4,5] [4]),(11,zK [3,4,6,65,66,67] [3,4,6]),(12,zK [3,4,6,86] [3,4,6]),(13,zK [4,5] [4]),(14,zK [4,5] [4])],
 [(7,zK [3,4,6,65,66,67] [3,4,6])],
 [(2,zK [2,3,4,16] [2,3,4]),(3,zK [2,3,4] [2,3,4]),(5,zK [3,4,6,61] [3,4,6]),(6,zK [3,4,6] [3,4,6]),(10,zK [3,4,6,65,66,67,80] [3,4,6]),(12,zK [3,4,6] [3,4,6]),(14,zK [3,4,6] [3,4,6])],
 [],[]⟩
abbrev R27:=(placed×Bool)
abbrev e27 (r:R27):List PA:=[.agg [.int .i64 r.1.Plane.Kind,.int .i64 r.1.Plane.View,.int .i64 r.1.Plane.Z,.int .i64 r.1.Plane.First,.int .i64 r.1.Plane.Pitch,.int .i64 r.1.Plane.Strips,.int .i64 r.1.Plane.Spill,.int .i64 r.1.Plane.Offset.Low,.int .i64 r.1.Plane.Offset.High,.int .i64 r.1.Plane.Clock.Low,.int .i64 r.1.Plane.Clock.High,.int .i64 r.1.Plane.Jitter,.int .i64 r.1.Plane.Least,.sl r.1.Plane.Drift.len 3 (λ i=>zaz (r.1.Plane.Drift.get i)),.sl r.1.Plane.Dead.len 1 (λ i=>zaB (r.1.Plane.Dead.get i)),.int .i64 r.1.index],.one (.bool r.2)]
@[irreducible] def z27:=ptF Try.prog G27 zIW Try.f27
def zFo (h:Hit) (zbu:Int) (zbC:Int) (zbD:Int) (zbE:Int) (zbF:Int) (zbG:Int) (zbH:Int) (zbW:Int) (zbX:Int) (zbY:Int) (za2:Int) (za3:Int) (za4:Int) (zaT:(Sl Drift)) (zaN:(Sl Int)) (zfu:Int):St:=⟨[(3,zp 3 0),(4,zp 4 0),(6,zp 6 0),(65,zS zaB 1 zaN),(66,zI (zaN.len:Int)),(67,zI zfu)],[(3,.box 48 (zm (ze8 h))),(4,.box 84 [zi (0:Int),zi (0:Int),zi (0:Int),zi (0:Int),zi (0:Int),zi (0:Int),zi (0:Int),zi (0:Int),zi (0:Int),zi (0:Int),zi (0:Int),zi (0:Int),zi (0:Int),.p (.nils),.p (.nils),zi (0:Int)]),(6,.box 84 (zm (zbg (⟨(⟨zbu,zbC,zbD,zbE,zbF,zbG,zbH,(⟨zbW,zbX⟩:Span),(⟨zbY,za2⟩:Span),za3,za4,zaT,zaN⟩:Plane),h.Plane⟩:placed))))],[]⟩
abbrev zIX (K:List PA->Prop) (h:Hit) (zbu:Int) (zbC:Int) (zbD:Int) (zbE:Int) (zbF:Int) (zbG:Int) (zbH:Int) (zbW:Int) (zbX:Int) (zbY:Int) (za2:Int) (za3:Int) (za4:Int) (zaT:(Sl Drift)) (zaN:(Sl Int)) (X:St->Prop) (P:Int->Bool) (S:Int->(placed×Bool)):Prop:=∀ ⦃zfu:Int⦄,P zfu=true->K (e27 (S zfu))->X (zFo h zbu zbC zbD zbE zbF zbG zbH zbW zbX zbY za2 za3 za4 zaT zaN zfu)
section
variable {K:List PA->Prop}{s:Setup}{h:Hit}{zsR:Bool}{sv0:(Sl Plane)}{zci:Nat->List PV}{sv1:(Sl Plane)}{zfN:Nat->List PV}{zsS:Bool}{zbu:Int}{zbC:Int}{zbD:Int}{zbE:Int}{zbF:Int}{zbG:Int}{zbH:Int}{zbW:Int}{zbX:Int}{zbY:Int}{za2:Int}{za3:Int}{za4:Int}{zaT:(Sl Drift)}{zaN:(Sl Int)}{zuA:Nat->List PV}{zuB:Nat->List PV}{zfu:Int}{X4:St->Prop}{P4:Int->Bool}{S4:Int->(placed×Bool)}{zsU:Int}{zsV:Bool}
def zsW (h:Hit) (zbu:Int) (zbC:Int) (zbD:Int) (zbE:Int) (zbF:Int) (zbG:Int) (zbH:Int) (zbW:Int) (zbX:Int) (zbY:Int) (za2:Int) (za3:Int) (za4:Int) (zaT:(Sl Drift)) (zaN:(Sl Int)):(placed×Bool) :=
  (cond (h.Drift == (0:Int))
 (cond (zbu != (3:Int))
 ((⟨(⟨zbu,zbC,zbD,zbE,zbF,zbG,zbH,(⟨zbW,zbX⟩:Span),(⟨zbY,za2⟩:Span),za3,za4,zaT,zaN⟩:Plane),h.Plane⟩:placed),true)
 ((⟨(⟨zbu,zbC,zbD,zbE,zbF,zbG,zbH,(⟨zbW,zbX⟩:Span),(⟨zbY,za2⟩:Span),za3,za4,zaT,zaN⟩:Plane),h.Plane⟩:placed),(h.Time == (0:Int))))
 ((⟨(⟨zbu,zbC,zbD,zbE,zbF,zbG,zbH,(⟨zbW,zbX⟩:Span),(⟨zbY,za2⟩:Span),za3,za4,zaT,zaN⟩:Plane),h.Plane⟩:placed),false))
theorem zIY (hk:K (e27 (zsW h zbu zbC zbD zbE zbF zbG zbH zbW zbX zbY za2 za3 za4 zaT zaN))):z27 (Wk K) [1,1,1,1,1,1] [] ⟨[(3,zp 3 0),(4,zp 4 0),(6,zp 6 0)],[(3,.box 48 (zm (ze8 h))),(4,.box 84 [zi (0:Int),zi (0:Int),zi (0:Int),zi (0:Int),zi (0:Int),zi (0:Int),zi (0:Int),zi (0:Int),zi (0:Int),zi (0:Int),zi (0:Int),zi (0:Int),zi (0:Int),.p (.nils),.p (.nils),zi (0:Int)]),(6,.box 84 (zm (zbg (⟨(⟨zbu,zbC,zbD,zbE,zbF,zbG,zbH,(⟨zbW,zbX⟩:Span),(⟨zbY,za2⟩:Span),za3,za4,zaT,zaN⟩:Plane),h.Plane⟩:placed))))],[]⟩:=zaI (by kernel_rfl) (zt hk (λ hk=>(zt hk (λ hk=>((zeq hk):Wk K [.agg [.int .i64 zbu,.int .i64 zbC,.int .i64 zbD,.int .i64 zbE,.int .i64 zbF,.int .i64 zbG,.int .i64 zbH,.int .i64 zbW,.int .i64 zbX,.int .i64 zbY,.int .i64 za2,.int .i64 za3,.int .i64 za4,.sl zaT.len 3 (λ i=>zaz (zaT.get i)),.sl zaN.len 1 (λ i=>zaB (zaN.get i)),.int .i64 h.Plane],.one (.bool true)])) (λ hk=>((zeq hk):Wk K [.agg [.int .i64 zbu,.int .i64 zbC,.int .i64 zbD,.int .i64 zbE,.int .i64 zbF,.int .i64 zbG,.int .i64 zbH,.int .i64 zbW,.int .i64 zbX,.int .i64 zbY,.int .i64 za2,.int .i64 za3,.int .i64 za4,.sl zaT.len 3 (λ i=>zaz (zaT.get i)),.sl zaN.len 1 (λ i=>zaB (zaN.get i)),.int .i64 h.Plane],.one (.bool (h.Time == (0:Int)))])))) (λ hk=>((zeq hk):Wk K [.agg [.int .i64 zbu,.int .i64 zbC,.int .i64 zbD,.int .i64 zbE,.int .i64 zbF,.int .i64 zbG,.int .i64 zbH,.int .i64 zbW,.int .i64 zbX,.int .i64 zbY,.int .i64 za2,.int .i64 za3,.int .i64 za4,.sl zaT.len 3 (λ i=>zaz (zaT.get i)),.sl zaN.len 1 (λ i=>zaB (zaN.get i)),.int .i64 h.Plane],.one (.bool false)])))
def zpo (h:Hit) (zbu:Int) (zbC:Int) (zbD:Int) (zbE:Int) (zbF:Int) (zbG:Int) (zbH:Int) (zbW:Int) (zbX:Int) (zbY:Int) (za2:Int) (za3:Int) (za4:Int) (zaT:(Sl Drift)) (zaN:(Sl Int)):(placed×Bool) :=
  (cond (zbu == (2:Int))
 (cond (h.Many == (1:Int))
 ((⟨(⟨zbu,zbC,zbD,zbE,zbF,zbG,zbH,(⟨zbW,zbX⟩:Span),(⟨zbY,za2⟩:Span),za3,za4,zaT,zaN⟩:Plane),h.Plane⟩:placed),(s45 h.Drift (0:Int) (1000000:Int)))
 ((⟨(⟨zbu,zbC,zbD,zbE,zbF,zbG,zbH,(⟨zbW,zbX⟩:Span),(⟨zbY,za2⟩:Span),za3,za4,zaT,zaN⟩:Plane),h.Plane⟩:placed),false))
 (zsW h zbu zbC zbD zbE zbF zbG zbH zbW zbX zbY za2 za3 za4 zaT zaN))
theorem zIZ (hk:K (e27 (zpo h zbu zbC zbD zbE zbF zbG zbH zbW zbX zbY za2 za3 za4 zaT zaN))):z27 (Wk K) [1,1,1,1,1] [] ⟨[(3,zp 3 0),(4,zp 4 0),(6,zp 6 0)],[(3,.box 48 (zm (ze8 h))),(4,.box 84 [zi (0:Int),zi (0:Int),zi (0:Int),zi (0:Int),zi (0:Int),zi (0:Int),zi (0:Int),zi (0:Int),zi (0:Int),zi (0:Int),zi (0:Int),zi (0:Int),zi (0:Int),.p (.nils),.p (.nils),zi (0:Int)]),(6,.box 84 (zm (zbg (⟨(⟨zbu,zbC,zbD,zbE,zbF,zbG,zbH,(⟨zbW,zbX⟩:Span),(⟨zbY,za2⟩:Span),za3,za4,zaT,zaN⟩:Plane),h.Plane⟩:placed))))],[]⟩:=zaI (by kernel_rfl) (zt hk (λ hk=>(zt hk (λ hk=>((zeq hk):Wk K [.agg [.int .i64 zbu,.int .i64 zbC,.int .i64 zbD,.int .i64 zbE,.int .i64 zbF,.int .i64 zbG,.int .i64 zbH,.int .i64 zbW,.int .i64 zbX,.int .i64 zbY,.int .i64 za2,.int .i64 za3,.int .i64 za4,.sl zaT.len 3 (λ i=>zaz (zaT.get i)),.sl zaN.len 1 (λ i=>zaB (zaN.get i)),.int .i64 h.Plane],.one (.bool (s45 h.Drift (0:Int) (1000000:Int)))])) (λ hk=>((zeq hk):Wk K [.agg [.int .i64 zbu,.int .i64 zbC,.int .i64 zbD,.int .i64 zbE,.int .i64 zbF,.int .i64 zbG,.int .i64 zbH,.int .i64 zbW,.int .i64 zbX,.int .i64 zbY,.int .i64 za2,.int .i64 za3,.int .i64 za4,.sl zaT.len 3 (λ i=>zaz (zaT.get i)),.sl zaN.len 1 (λ i=>zaB (zaN.get i)),.int .i64 h.Plane],.one (.bool false)])))) (λ hk=>(zIY hk)))
def zsX (S4:Int->(placed×Bool)) (h:Hit) (zbu:Int) (zbC:Int) (zbD:Int) (zbE:Int) (zbF:Int) (zbG:Int) (zbH:Int) (zbW:Int) (zbX:Int) (zbY:Int) (za2:Int) (za3:Int) (za4:Int) (zaT:(Sl Drift)) (zaN:(Sl Int)) (zsU:Int) (zsV:Bool):(placed×Bool) :=
  (cond zsV
 ((⟨(⟨zbu,zbC,zbD,zbE,zbF,zbG,zbH,(⟨zbW,zbX⟩:Span),(⟨zbY,za2⟩:Span),za3,za4,zaT,zaN⟩:Plane),h.Plane⟩:placed),false)
 (S4 (w64 (zsU+(1:Int)))))
def zsY (P4:Int->Bool) (h:Hit) (zbu:Int) (zbC:Int) (zbD:Int) (zbE:Int) (zbF:Int) (zbG:Int) (zbH:Int) (zbW:Int) (zbX:Int) (zbY:Int) (za2:Int) (za3:Int) (za4:Int) (zaT:(Sl Drift)) (zaN:(Sl Int)) (zsU:Int) (zsV:Bool):Bool :=
  (cond zsV
 true
 (P4 (w64 (zsU+(1:Int)))))
theorem zI0 (hX4:zIX K h zbu zbC zbD zbE zbF zbG zbH zbW zbX zbY za2 za3 za4 zaT zaN X4 P4 S4) (hs:zsY P4 h zbu zbC zbD zbE zbF zbG zbH zbW zbX zbY za2 za3 za4 zaT zaN zsU zsV=true) (hk:K (e27 (zsX S4 h zbu zbC zbD zbE zbF zbG zbH zbW zbX zbY za2 za3 za4 zaT zaN zsU zsV))):z27 (Wk K) [1,1,1,1,0,1,0,0,1,1,0,0,1,1] [X4] ⟨[(3,zp 3 0),(4,zp 4 0),(6,zp 6 0),(65,zS zaB 1 zaN),(66,zI (zaN.len:Int)),(67,zI zsU),(80,zB zsV)],[(3,.box 48 (zm (ze8 h))),(4,.box 84 [zi (0:Int),zi (0:Int),zi (0:Int),zi (0:Int),zi (0:Int),zi (0:Int),zi (0:Int),zi (0:Int),zi (0:Int),zi (0:Int),zi (0:Int),zi (0:Int),zi (0:Int),.p (.nils),.p (.nils),zi (0:Int)]),(6,.box 84 (zm (zbg (⟨(⟨zbu,zbC,zbD,zbE,zbF,zbG,zbH,(⟨zbW,zbX⟩:Span),(⟨zbY,za2⟩:Span),za3,za4,zaT,zaN⟩:Plane),h.Plane⟩:placed))))],[]⟩:=zaI (by kernel_rfl) (zc hs hk (λ hs hk=>((zeq hk):Wk K [.agg [.int .i64 zbu,.int .i64 zbC,.int .i64 zbD,.int .i64 zbE,.int .i64 zbF,.int .i64 zbG,.int .i64 zbH,.int .i64 zbW,.int .i64 zbX,.int .i64 zbY,.int .i64 za2,.int .i64 za3,.int .i64 za4,.sl zaT.len 3 (λ i=>zaz (zaT.get i)),.sl zaN.len 1 (λ i=>zaB (zaN.get i)),.int .i64 h.Plane],.one (.bool false)])) (λ hs hk=>(hX4 hs hk)))
def zk1 (h:Hit) (zbu:Int) (zbC:Int) (zbD:Int) (zbE:Int) (zbF:Int) (zbG:Int) (zbH:Int) (zbW:Int) (zbX:Int) (zbY:Int) (za2:Int) (za3:Int) (za4:Int) (zaT:(Sl Drift)) (zaN:(Sl Int)) (S4:Int->(placed×Bool)) (zfu:Int):(placed×Bool) :=
  (cond (decide (zfu < (zaN.len : Int)))
 (zsX S4 h zbu zbC zbD zbE zbF zbG zbH zbW zbX zbY za2 za3 za4 zaT zaN zfu (s45 (zaN.get zfu.toNat) h.Channel (w64 ((w64 (h.Channel+h.Many)) - (1:Int)))))
 (zpo h zbu zbC zbD zbE zbF zbG zbH zbW zbX zbY za2 za3 za4 zaT zaN))
def zk2 (h:Hit) (zbu:Int) (zbC:Int) (zbD:Int) (zbE:Int) (zbF:Int) (zbG:Int) (zbH:Int) (zbW:Int) (zbX:Int) (zbY:Int) (za2:Int) (za3:Int) (za4:Int) (zaT:(Sl Drift)) (zaN:(Sl Int)) (P4:Int->Bool) (zfu:Int):Bool :=
  (cond (decide (zfu < (zaN.len : Int)))
 (decide ((0<=zfu/\zfu < (zaN.len:Int))) &&
 (zsY P4 h zbu zbC zbD zbE zbF zbG zbH zbW zbX zbY za2 za3 za4 zaT zaN zfu (s45 (zaN.get zfu.toNat) h.Channel (w64 ((w64 (h.Channel+h.Many)) - (1:Int))))))
 true)
def zio (h:Hit) (zbu:Int) (zbC:Int) (zbD:Int) (zbE:Int) (zbF:Int) (zbG:Int) (zbH:Int) (zbW:Int) (zbX:Int) (zbY:Int) (za2:Int) (za3:Int) (za4:Int) (zaT:(Sl Drift)) (zaN:(Sl Int)):Nat->Int->(placed×Bool):=lpO (λ _=>default) (zk1 h zbu zbC zbD zbE zbF zbG zbH zbW zbX zbY za2 za3 za4 zaT zaN)
def zjx (h:Hit) (zbu:Int) (zbC:Int) (zbD:Int) (zbE:Int) (zbF:Int) (zbG:Int) (zbH:Int) (zbW:Int) (zbX:Int) (zbY:Int) (za2:Int) (za3:Int) (za4:Int) (zaT:(Sl Drift)) (zaN:(Sl Int)):Nat->Int->Bool:=lpO (λ _=>false) (zk2 h zbu zbC zbD zbE zbF zbG zbH zbW zbX zbY za2 za3 za4 zaT zaN)
def zsZ (h:Hit) (zbu:Int) (zbC:Int) (zbD:Int) (zbE:Int) (zbF:Int) (zbG:Int) (zbH:Int) (zbW:Int) (zbX:Int) (zbY:Int) (za2:Int) (za3:Int) (za4:Int) (zaT:(Sl Drift)) (zaN:(Sl Int)) (zfu:Int):(placed×Bool):=zio h zbu zbC zbD zbE zbF zbG zbH zbW zbX zbY za2 za3 za4 zaT zaN Fuel zfu
def zs3 (h:Hit) (zbu:Int) (zbC:Int) (zbD:Int) (zbE:Int) (zbF:Int) (zbG:Int) (zbH:Int) (zbW:Int) (zbX:Int) (zbY:Int) (za2:Int) (za3:Int) (za4:Int) (zaT:(Sl Drift)) (zaN:(Sl Int)) (zfu:Int):Bool:=zjx h zbu zbC zbD zbE zbF zbG zbH zbW zbX zbY za2 za3 za4 zaT zaN Fuel zfu
theorem zI1 (hs:zs3 h zbu zbC zbD zbE zbF zbG zbH zbW zbX zbY za2 za3 za4 zaT zaN zfu=true) (hk:K (e27 (zsZ h zbu zbC zbD zbE zbF zbG zbH zbW zbX zbY za2 za3 za4 zaT zaN zfu))):z27 (Wk K) [1,1,1,1,0,1,0] [] (zFo h zbu zbC zbD zbE zbF zbG zbH zbW zbX zbY za2 za3 za4 zaT zaN zfu) :=
  zl (λ X=>z27 (Wk K) [1,1,1,1,0,1,0,0] [X]) (by kernel_rfl) λ X4 hX =>
  (show ∀ k, zIX K h zbu zbC zbD zbE zbF zbG zbH zbW zbX zbY za2 za3 za4 zaT zaN X4 (zjx h zbu zbC zbD zbE zbF zbG zbH zbW zbX zbY za2 za3 za4 zaT zaN k) (zio h zbu zbC zbD zbE zbF zbG zbH zbW zbX zbY za2 za3 za4 zaT zaN k) from zg4 _ _ (zk2 h zbu zbC zbD zbE zbF zbG zbH zbW zbX zbY za2 za3 za4 zaT zaN) (zk1 h zbu zbC zbD zbE zbF zbG zbH zbW zbX zbY za2 za3 za4 zaT zaN) (zIX K h zbu zbC zbD zbE zbF zbG zbH zbW zbX zbY za2 za3 za4 zaT zaN X4)
 (by intro _ hs;exact absurd hs dqk)
 (by intro P4 S4 hX4 zfu hs hk;exact hX _ (zaI (by kernel_rfl) (zc hs hk (λ hs hk=>(zaS hs λ hc hs=>And.intro hc (zI0 hX4 hs hk))) (λ hs hk=>(zIZ hk)))))) _ hs hk
def zs4 (h:Hit) (zbu:Int) (zbC:Int) (zbD:Int) (zbE:Int) (zbF:Int) (zbG:Int) (zbH:Int) (zbW:Int) (zbX:Int) (zbY:Int) (za2:Int) (za3:Int) (za4:Int) (zaT:(Sl Drift)) (zaN:(Sl Int)):(placed×Bool) :=
  (zsZ h zbu zbC zbD zbE zbF zbG zbH zbW zbX zbY za2 za3 za4 zaT zaN (0:Int))
def zs5 (h:Hit) (zbu:Int) (zbC:Int) (zbD:Int) (zbE:Int) (zbF:Int) (zbG:Int) (zbH:Int) (zbW:Int) (zbX:Int) (zbY:Int) (za2:Int) (za3:Int) (za4:Int) (zaT:(Sl Drift)) (zaN:(Sl Int)):Bool :=
  (zs3 h zbu zbC zbD zbE zbF zbG zbH zbW zbX zbY za2 za3 za4 zaT zaN (0:Int))
theorem zI2 (hs:zs5 h zbu zbC zbD zbE zbF zbG zbH zbW zbX zbY za2 za3 za4 zaT zaN=true) (hk:K (e27 (zs4 h zbu zbC zbD zbE zbF zbG zbH zbW zbX zbY za2 za3 za4 zaT zaN))):z27 (Wk K) [1,1,1,1] [] ⟨[(3,zp 3 0),(4,zp 4 0),(6,zp 6 0)],[(3,.box 48 (zm (ze8 h))),(4,.box 84 [zi (0:Int),zi (0:Int),zi (0:Int),zi (0:Int),zi (0:Int),zi (0:Int),zi (0:Int),zi (0:Int),zi (0:Int),zi (0:Int),zi (0:Int),zi (0:Int),zi (0:Int),.p (.nils),.p (.nils),zi (0:Int)]),(6,.box 84 (zm (zbg (⟨(⟨zbu,zbC,zbD,zbE,zbF,zbG,zbH,(⟨zbW,zbX⟩:Span),(⟨zbY,za2⟩:Span),za3,za4,zaT,zaN⟩:Plane),h.Plane⟩:placed))))],[]⟩:=zaI (by kernel_rfl) (zI1 hs hk)
def zk3 (h:Hit) (zsS:Bool) (zbu:Int) (zbC:Int) (zbD:Int) (zbE:Int) (zbF:Int) (zbG:Int) (zbH:Int) (zbW:Int) (zbX:Int) (zbY:Int) (za2:Int) (za3:Int) (za4:Int) (zaT:(Sl Drift)) (zaN:(Sl Int)):(placed×Bool) :=
  (cond zsS
 ((⟨(⟨zbu,zbC,zbD,zbE,zbF,zbG,zbH,(⟨zbW,zbX⟩:Span),(⟨zbY,za2⟩:Span),za3,za4,zaT,zaN⟩:Plane),h.Plane⟩:placed),false)
 (zs4 h zbu zbC zbD zbE zbF zbG zbH zbW zbX zbY za2 za3 za4 zaT zaN))
def zk4 (h:Hit) (zsS:Bool) (zbu:Int) (zbC:Int) (zbD:Int) (zbE:Int) (zbF:Int) (zbG:Int) (zbH:Int) (zbW:Int) (zbX:Int) (zbY:Int) (za2:Int) (za3:Int) (za4:Int) (zaT:(Sl Drift)) (zaN:(Sl Int)):Bool :=
  (cond zsS
 true
 (zs5 h zbu zbC zbD zbE zbF zbG zbH zbW zbX zbY za2 za3 za4 zaT zaN))
theorem zpp (hs:zk4 h zsS zbu zbC zbD zbE zbF zbG zbH zbW zbX zbY za2 za3 za4 zaT zaN=true) (hk:K (e27 (zk3 h zsS zbu zbC zbD zbE zbF zbG zbH zbW zbX zbY za2 za3 za4 zaT zaN))) (zDL:zuA=zg zaz zaT) (zDM:zuB=zg zaB zaN):z27 (Wk K) [1,1,1,0,1] [] ⟨[(3,zp 3 0),(4,zp 4 0),(6,zp 6 0),(61,zB zsS)],[(3,.box 48 (zm (ze8 h))),(4,.box 84 [zi (0:Int),zi (0:Int),zi (0:Int),zi (0:Int),zi (0:Int),zi (0:Int),zi (0:Int),zi (0:Int),zi (0:Int),zi (0:Int),zi (0:Int),zi (0:Int),zi (0:Int),.p (.nils),.p (.nils),zi (0:Int)]),(6,.box 84 (zm (zbg (⟨(⟨zbu,zbC,zbD,zbE,zbF,zbG,zbH,(⟨zbW,zbX⟩:Span),(⟨zbY,za2⟩:Span),za3,za4,(⟨zaT.len,zbn zuA⟩:(Sl Drift)),(⟨zaN.len,zbh zuB⟩:(Sl Int))⟩:Plane),h.Plane⟩:placed))))],[]⟩:=by subst zDL;subst zDM;exact zaI (by kernel_rfl) (zc hs hk (λ hs hk=>((zeq hk):Wk K [.agg [.int .i64 zbu,.int .i64 zbC,.int .i64 zbD,.int .i64 zbE,.int .i64 zbF,.int .i64 zbG,.int .i64 zbH,.int .i64 zbW,.int .i64 zbX,.int .i64 zbY,.int .i64 za2,.int .i64 za3,.int .i64 za4,.sl zaT.len 3 (λ i=>zaz (zaT.get i)),.sl zaN.len 1 (λ i=>zaB (zaN.get i)),.int .i64 h.Plane],.one (.bool false)])) (λ hs hk=>(zI2 hs hk)))
def zs6 (h:Hit) (sv1:(Sl Plane)):(placed×Bool) :=
  (cond (!(s45 h.Channel (0:Int) (w64 ((sv1.get h.Plane.toNat).Strips - (1:Int)))))
 (zk3 h true ((sv1.get h.Plane.toNat).Kind) ((sv1.get h.Plane.toNat).View) ((sv1.get h.Plane.toNat).Z) ((sv1.get h.Plane.toNat).First) ((sv1.get h.Plane.toNat).Pitch) ((sv1.get h.Plane.toNat).Strips) ((sv1.get h.Plane.toNat).Spill) ((sv1.get h.Plane.toNat).Offset.Low) ((sv1.get h.Plane.toNat).Offset.High) ((sv1.get h.Plane.toNat).Clock.Low) ((sv1.get h.Plane.toNat).Clock.High) ((sv1.get h.Plane.toNat).Jitter) ((sv1.get h.Plane.toNat).Least) ((sv1.get h.Plane.toNat).Drift) ((sv1.get h.Plane.toNat).Dead))
 (cond (!(s45 h.Many (1:Int) (w64 ((sv1.get h.Plane.toNat).Strips - h.Channel))))
 (zk3 h true ((sv1.get h.Plane.toNat).Kind) ((sv1.get h.Plane.toNat).View) ((sv1.get h.Plane.toNat).Z) ((sv1.get h.Plane.toNat).First) ((sv1.get h.Plane.toNat).Pitch) ((sv1.get h.Plane.toNat).Strips) ((sv1.get h.Plane.toNat).Spill) ((sv1.get h.Plane.toNat).Offset.Low) ((sv1.get h.Plane.toNat).Offset.High) ((sv1.get h.Plane.toNat).Clock.Low) ((sv1.get h.Plane.toNat).Clock.High) ((sv1.get h.Plane.toNat).Jitter) ((sv1.get h.Plane.toNat).Least) ((sv1.get h.Plane.toNat).Drift) ((sv1.get h.Plane.toNat).Dead))
 (cond (!(s45 h.Charge ((sv1.get h.Plane.toNat).Least) (1000000:Int)))
 (zk3 h true ((sv1.get h.Plane.toNat).Kind) ((sv1.get h.Plane.toNat).View) ((sv1.get h.Plane.toNat).Z) ((sv1.get h.Plane.toNat).First) ((sv1.get h.Plane.toNat).Pitch) ((sv1.get h.Plane.toNat).Strips) ((sv1.get h.Plane.toNat).Spill) ((sv1.get h.Plane.toNat).Offset.Low) ((sv1.get h.Plane.toNat).Offset.High) ((sv1.get h.Plane.toNat).Clock.Low) ((sv1.get h.Plane.toNat).Clock.High) ((sv1.get h.Plane.toNat).Jitter) ((sv1.get h.Plane.toNat).Least) ((sv1.get h.Plane.toNat).Drift) ((sv1.get h.Plane.toNat).Dead))
 (zk3 h (!(s45 h.Time (-1000000000:Int) (1000000000:Int))) ((sv1.get h.Plane.toNat).Kind) ((sv1.get h.Plane.toNat).View) ((sv1.get h.Plane.toNat).Z) ((sv1.get h.Plane.toNat).First) ((sv1.get h.Plane.toNat).Pitch) ((sv1.get h.Plane.toNat).Strips) ((sv1.get h.Plane.toNat).Spill) ((sv1.get h.Plane.toNat).Offset.Low) ((sv1.get h.Plane.toNat).Offset.High) ((sv1.get h.Plane.toNat).Clock.Low) ((sv1.get h.Plane.toNat).Clock.High) ((sv1.get h.Plane.toNat).Jitter) ((sv1.get h.Plane.toNat).Least) ((sv1.get h.Plane.toNat).Drift) ((sv1.get h.Plane.toNat).Dead)))))
def zs7 (h:Hit) (sv1:(Sl Plane)):Bool :=
  (decide ((0<=h.Plane/\h.Plane < (sv1.len:Int))) &&
 (cond (!(s45 h.Channel (0:Int) (w64 ((sv1.get h.Plane.toNat).Strips - (1:Int)))))
 (zk4 h true ((sv1.get h.Plane.toNat).Kind) ((sv1.get h.Plane.toNat).View) ((sv1.get h.Plane.toNat).Z) ((sv1.get h.Plane.toNat).First) ((sv1.get h.Plane.toNat).Pitch) ((sv1.get h.Plane.toNat).Strips) ((sv1.get h.Plane.toNat).Spill) ((sv1.get h.Plane.toNat).Offset.Low) ((sv1.get h.Plane.toNat).Offset.High) ((sv1.get h.Plane.toNat).Clock.Low) ((sv1.get h.Plane.toNat).Clock.High) ((sv1.get h.Plane.toNat).Jitter) ((sv1.get h.Plane.toNat).Least) ((sv1.get h.Plane.toNat).Drift) ((sv1.get h.Plane.toNat).Dead))
 (cond (!(s45 h.Many (1:Int) (w64 ((sv1.get h.Plane.toNat).Strips - h.Channel))))
 (zk4 h true ((sv1.get h.Plane.toNat).Kind) ((sv1.get h.Plane.toNat).View) ((sv1.get h.Plane.toNat).Z) ((sv1.get h.Plane.toNat).First) ((sv1.get h.Plane.toNat).Pitch) ((sv1.get h.Plane.toNat).Strips) ((sv1.get h.Plane.toNat).Spill) ((sv1.get h.Plane.toNat).Offset.Low) ((sv1.get h.Plane.toNat).Offset.High) ((sv1.get h.Plane.toNat).Clock.Low) ((sv1.get h.Plane.toNat).Clock.High) ((sv1.get h.Plane.toNat).Jitter) ((sv1.get h.Plane.toNat).Least) ((sv1.get h.Plane.toNat).Drift) ((sv1.get h.Plane.toNat).Dead))
 (cond (!(s45 h.Charge ((sv1.get h.Plane.toNat).Least) (1000000:Int)))
 (zk4 h true ((sv1.get h.Plane.toNat).Kind) ((sv1.get h.Plane.toNat).View) ((sv1.get h.Plane.toNat).Z) ((sv1.get h.Plane.toNat).First) ((sv1.get h.Plane.toNat).Pitch) ((sv1.get h.Plane.toNat).Strips) ((sv1.get h.Plane.toNat).Spill) ((sv1.get h.Plane.toNat).Offset.Low) ((sv1.get h.Plane.toNat).Offset.High) ((sv1.get h.Plane.toNat).Clock.Low) ((sv1.get h.Plane.toNat).Clock.High) ((sv1.get h.Plane.toNat).Jitter) ((sv1.get h.Plane.toNat).Least) ((sv1.get h.Plane.toNat).Drift) ((sv1.get h.Plane.toNat).Dead))
 (zk4 h (!(s45 h.Time (-1000000000:Int) (1000000000:Int))) ((sv1.get h.Plane.toNat).Kind) ((sv1.get h.Plane.toNat).View) ((sv1.get h.Plane.toNat).Z) ((sv1.get h.Plane.toNat).First) ((sv1.get h.Plane.toNat).Pitch) ((sv1.get h.Plane.toNat).Strips) ((sv1.get h.Plane.toNat).Spill) ((sv1.get h.Plane.toNat).Offset.Low) ((sv1.get h.Plane.toNat).Offset.High) ((sv1.get h.Plane.toNat).Clock.Low) ((sv1.get h.Plane.toNat).Clock.High) ((sv1.get h.Plane.toNat).Jitter) ((sv1.get h.Plane.toNat).Least) ((sv1.get h.Plane.toNat).Drift) ((sv1.get h.Plane.toNat).Dead))))))
theorem zI3 (hs:zs7 h sv1=true) (hk:K (e27 (zs6 h sv1))) (ziV:zfN=zg enc_34 sv1):z27 (Wk K) [1,1] [] ⟨[(2,zp 2 0),(3,zp 3 0),(4,zp 4 0)],[(2,.box 24 [.p (.sl sv1.len 15 zfN)]),(3,.box 48 (zm (ze8 h))),(4,.box 84 [zi (0:Int),zi (0:Int),zi (0:Int),zi (0:Int),zi (0:Int),zi (0:Int),zi (0:Int),zi (0:Int),zi (0:Int),zi (0:Int),zi (0:Int),zi (0:Int),zi (0:Int),.p (.nils),.p (.nils),zi (0:Int)])],[]⟩:=by subst ziV;exact zaI (by kernel_rfl) (zaS hs λ hc hs=>And.intro hc (zc hs hk (λ hs hk=>(zpp hs hk rfl rfl)) (λ hs hk=>(zc hs hk (λ hs hk=>(zpp hs hk rfl rfl)) (λ hs hk=>(zc hs hk (λ hs hk=>(zpp hs hk rfl rfl)) (λ hs hk=>(zpp hs hk rfl rfl))))))))
def zs8 (h:Hit) (zsR:Bool) (sv0:(Sl Plane)):(placed×Bool) :=
  (cond zsR
 ((⟨(⟨(0:Int),(0:Int),(0:Int),(0:Int),(0:Int),(0:Int),(0:Int),(⟨(0:Int),(0:Int)⟩:Span),(⟨(0:Int),(0:Int)⟩:Span),(0:Int),(0:Int),(⟨0,λ _=>default⟩:(Sl Drift)),(⟨0,λ _=>default⟩:(Sl Int))⟩:Plane),(0:Int)⟩:placed),false)
 (zs6 h sv0))
def zs9 (h:Hit) (zsR:Bool) (sv0:(Sl Plane)):Bool :=
  (cond zsR
 true
 (zs7 h sv0))
theorem zI4 (hs:zs9 h zsR sv0=true) (hk:K (e27 (zs8 h zsR sv0))) (zeQ:zci=zg enc_34 sv0):z27 (Wk K) [1,0,1] [] ⟨[(2,zp 2 0),(3,zp 3 0),(4,zp 4 0),(16,zB zsR)],[(2,.box 24 [.p (.sl sv0.len 15 zci)]),(3,.box 48 (zm (ze8 h))),(4,.box 84 [zi (0:Int),zi (0:Int),zi (0:Int),zi (0:Int),zi (0:Int),zi (0:Int),zi (0:Int),zi (0:Int),zi (0:Int),zi (0:Int),zi (0:Int),zi (0:Int),zi (0:Int),.p (.nils),.p (.nils),zi (0:Int)])],[]⟩:=by subst zeQ;exact zaI (by kernel_rfl) (zc hs hk (λ hs hk=>((wk hk (zfj (.agg (zfj (.rfl _) (zfj (.rfl _) (zfj (.rfl _) (zfj (.rfl _) (zfj (.rfl _) (zfj (.rfl _) (zfj (.rfl _) (zfj (.rfl _) (zfj (.rfl _) (zfj (.rfl _) (zfj (.rfl _) (zfj (.rfl _) (zfj (.rfl _) (zfj (.nil _ _) (zfj (.nil _ _) (zfj (.rfl _) zlt))))))))))))))))) (zfj (.one (.rfl _)) zlt))):Wk K [.agg [.int .i64 (0:Int),.int .i64 (0:Int),.int .i64 (0:Int),.int .i64 (0:Int),.int .i64 (0:Int),.int .i64 (0:Int),.int .i64 (0:Int),.int .i64 (0:Int),.int .i64 (0:Int),.int .i64 (0:Int),.int .i64 (0:Int),.int .i64 (0:Int),.int .i64 (0:Int),.nils,.nils,.int .i64 (0:Int)],.one (.bool false)])) (λ hs hk=>(zI3 hs hk rfl)))
def s27 (s:Setup) (h:Hit):(placed×Bool) :=
  (zs8 h (!(s45 h.Plane (0:Int) (w64 ((s.Planes.len:Int) - (1:Int))))) s.Planes)
def p27 (s:Setup) (h:Hit):Bool :=
  (zs9 h (!(s45 h.Plane (0:Int) (w64 ((s.Planes.len:Int) - (1:Int))))) s.Planes)
end
theorem q27 (s:Setup) (h:Hit) (K:List PA->Prop) (hs:p27 s h=true) (hk:K (e27 (s27 s h))):vcFun Try.prog G27 zIW 27 [.agg (enc_24 s),.agg (ze8 h)] (Wk K) :=
  zaI (by kernel_rfl) (zI4 hs hk rfl)
def zDN : List PA → COut
  | [.agg [.sl zar zba zas],.agg [.int .i64 zaQ,.int .i64 zaA,.int .i64 zbd,.int .i64 zaR,.int .i64 zaK,.int .i64 zbe]]=>.det (IsE enc_34 15 zba zas/\p27 (⟨(⟨zar,zbA zas⟩:(Sl Plane))⟩:Setup) (⟨zaQ,zaA,zbd,zaR,zaK,zbe⟩:Hit)=true) [.agg [.int .i64 (((s27 (⟨(⟨zar,zbA zas⟩:(Sl Plane))⟩:Setup) (⟨zaQ,zaA,zbd,zaR,zaK,zbe⟩:Hit)).1).Plane.Kind),.int .i64 (((s27 (⟨(⟨zar,zbA zas⟩:(Sl Plane))⟩:Setup) (⟨zaQ,zaA,zbd,zaR,zaK,zbe⟩:Hit)).1).Plane.View),.int .i64 (((s27 (⟨(⟨zar,zbA zas⟩:(Sl Plane))⟩:Setup) (⟨zaQ,zaA,zbd,zaR,zaK,zbe⟩:Hit)).1).Plane.Z),.int .i64 (((s27 (⟨(⟨zar,zbA zas⟩:(Sl Plane))⟩:Setup) (⟨zaQ,zaA,zbd,zaR,zaK,zbe⟩:Hit)).1).Plane.First),.int .i64 (((s27 (⟨(⟨zar,zbA zas⟩:(Sl Plane))⟩:Setup) (⟨zaQ,zaA,zbd,zaR,zaK,zbe⟩:Hit)).1).Plane.Pitch),.int .i64 (((s27 (⟨(⟨zar,zbA zas⟩:(Sl Plane))⟩:Setup) (⟨zaQ,zaA,zbd,zaR,zaK,zbe⟩:Hit)).1).Plane.Strips),.int .i64 (((s27 (⟨(⟨zar,zbA zas⟩:(Sl Plane))⟩:Setup) (⟨zaQ,zaA,zbd,zaR,zaK,zbe⟩:Hit)).1).Plane.Spill),.int .i64 (((s27 (⟨(⟨zar,zbA zas⟩:(Sl Plane))⟩:Setup) (⟨zaQ,zaA,zbd,zaR,zaK,zbe⟩:Hit)).1).Plane.Offset.Low),.int .i64 (((s27 (⟨(⟨zar,zbA zas⟩:(Sl Plane))⟩:Setup) (⟨zaQ,zaA,zbd,zaR,zaK,zbe⟩:Hit)).1).Plane.Offset.High),.int .i64 (((s27 (⟨(⟨zar,zbA zas⟩:(Sl Plane))⟩:Setup) (⟨zaQ,zaA,zbd,zaR,zaK,zbe⟩:Hit)).1).Plane.Clock.Low),.int .i64 (((s27 (⟨(⟨zar,zbA zas⟩:(Sl Plane))⟩:Setup) (⟨zaQ,zaA,zbd,zaR,zaK,zbe⟩:Hit)).1).Plane.Clock.High),.int .i64 (((s27 (⟨(⟨zar,zbA zas⟩:(Sl Plane))⟩:Setup) (⟨zaQ,zaA,zbd,zaR,zaK,zbe⟩:Hit)).1).Plane.Jitter),.int .i64 (((s27 (⟨(⟨zar,zbA zas⟩:(Sl Plane))⟩:Setup) (⟨zaQ,zaA,zbd,zaR,zaK,zbe⟩:Hit)).1).Plane.Least),.sl (((s27 (⟨(⟨zar,zbA zas⟩:(Sl Plane))⟩:Setup) (⟨zaQ,zaA,zbd,zaR,zaK,zbe⟩:Hit)).1).Plane.Drift.len) 3 (λ i=>zaz (((s27 (⟨(⟨zar,zbA zas⟩:(Sl Plane))⟩:Setup) (⟨zaQ,zaA,zbd,zaR,zaK,zbe⟩:Hit)).1).Plane.Drift.get i)),.sl (((s27 (⟨(⟨zar,zbA zas⟩:(Sl Plane))⟩:Setup) (⟨zaQ,zaA,zbd,zaR,zaK,zbe⟩:Hit)).1).Plane.Dead.len) 1 (λ i=>zaB (((s27 (⟨(⟨zar,zbA zas⟩:(Sl Plane))⟩:Setup) (⟨zaQ,zaA,zbd,zaR,zaK,zbe⟩:Hit)).1).Plane.Dead.get i)),.int .i64 (((s27 (⟨(⟨zar,zbA zas⟩:(Sl Plane))⟩:Setup) (⟨zaQ,zaA,zbd,zaR,zaK,zbe⟩:Hit)).1).index)],.one (.bool ((s27 (⟨(⟨zar,zbA zas⟩:(Sl Plane))⟩:Setup) (⟨zaQ,zaA,zbd,zaR,zaK,zbe⟩:Hit)).2))]
  | _=>.no
theorem zMZ:zal Try.prog 27:=⟨_,rfl,rfl,by kernel_rfl⟩
theorem zQw:Ok Try.prog 27 zDN:=zhW zPG zMZ λ args K h=>by
  unfold zDN at h
  split at h
  · rename_i zar zba zas zaQ zaA zbd zaR zaK zbe
    obtain⟨⟨⟨rfl,zaM,rfl⟩,hs⟩,hk⟩:=h
    try rw[zbT zaM] at hs
    try rw[zbT zaM] at hk
    exact⟨_,zhV zj5 _,(λ _ _=>[]),(λ _=>false),zIW,q27 (⟨(⟨zar,zaM⟩:(Sl Plane))⟩:Setup) (⟨zaQ,zaA,zbd,zaR,zaK,zbe⟩:Hit) K hs hk⟩
  · exact h.elim
abbrev T72:Tabs:=Tabs.nil
theorem zPH:TabsOk Try.prog T72:=TabsOk.nil
abbrev G72:Ctrs:=csm T72 (λ _ _=>[]) (λ _=>false)
def zM0:Ann:=⟨8,[(0,zK [1] [1]),(1,zK [2] [])],
 [],
 [],
 [],[]⟩
abbrev R72:=Bool
abbrev e72 (r:R72):List PA:=[.one (.bool r)]
section
variable {K:List PA->Prop}{p:placed}
def s72 (p:placed):Bool :=
  ((p.Plane.Drift.len:Int) == (0:Int))
end
theorem q72 (p:placed) (K:List PA->Prop) (hk:K (e72 (s72 p))):vcFun Try.prog G72 zM0 72 [.agg (zbg p)] K :=
  zaI (by kernel_rfl) hk
def zI5 : List PA → COut
  | [.agg [.int .i64 zau,.int .i64 zav,.int .i64 zaC,.int .i64 zam,.int .i64 zan,.int .i64 zaf,.int .i64 zao,.int .i64 zab,.int .i64 zaa,.int .i64 zad,.int .i64 zac,.int .i64 zah,.int .i64 zaq,.sl zae zaD zaj,.sl zai zaH zat,.int .i64 zaU]]=>.det (IsE zaz 3 zaD zaj/\IsE zaB 1 zaH zat) [.one (.bool (s72 (⟨(⟨zau,zav,zaC,zam,zan,zaf,zao,(⟨zab,zaa⟩:Span),(⟨zad,zac⟩:Span),zah,zaq,(⟨zae,zbn zaj⟩:(Sl Drift)),(⟨zai,zbh zat⟩:(Sl Int))⟩:Plane),zaU⟩:placed)))]
  | _=>.no
theorem zM1:zal Try.prog 72:=⟨_,rfl,rfl,by kernel_rfl⟩
theorem zRP:Ok Try.prog 72 zI5:=za5 zPH zM1 λ args K h=>by
  unfold zI5 at h
  split at h
  · rename_i zau zav zaC zam zan zaf zao zab zaa zad zac zah zaq zae zaD zaj zai zaH zat zaU
    obtain⟨⟨⟨rfl,zaw,rfl⟩,⟨rfl,zax,rfl⟩⟩,hk⟩:=h
    try rw[zbc zaw] at hk
    try rw[zaV zax] at hk
    exact⟨(λ _ _=>[]),(λ _=>false),zM0,q72 (⟨(⟨zau,zav,zaC,zam,zan,zaf,zao,(⟨zab,zaa⟩:Span),(⟨zad,zac⟩:Span),zah,zaq,(⟨zae,zaw⟩:(Sl Drift)),(⟨zai,zax⟩:(Sl Int))⟩:Plane),zaU⟩:placed) K hk⟩
  · exact h.elim
abbrev T73:Tabs:=(Tabs.nil.addF 45 zqV)
theorem zPI:TabsOk Try.prog T73:=(TabsOk.nil.addF zJ2)
abbrev G73:Ctrs:=csm T73 (λ _ _=>[]) (λ _=>false)
def zI6:Ann:=⟨89,[(0,zK [1] [1]),(1,zK [1,7,8,9] [1]),(2,zK [1,7,8,9,10] [1]),(3,zK [1,3,4,7,8,9] [1,4]),(4,zK [1,3,4,7,8,9,37] [1,4]),(5,zK [2] []),(6,zK [1,7,8,9,82] [1]),(7,zK [2] []),(8,zK [1,7,8,9] [1]),(9,zK [2] [])],
 [(2,zK [1,7,8,9] [1])],
 [(5,zK [1,3,4,7,8,9,37] [1,4]),(6,zK [1,3,4,7,8,9] [1,4])],
 [],[]⟩
abbrev R73:=Bool
abbrev e73 (r:R73):List PA:=[.one (.bool r)]
@[irreducible] def z73:=ptF Try.prog G73 zI6 Try.f73
def zFp (p:placed) (zcC:Int):St:=⟨[(1,zp 1 0),(7,zS zaz 3 p.Plane.Drift),(8,zI (p.Plane.Drift.len:Int)),(9,zI zcC)],[(1,.box 84 (zm (zbg p)))],[]⟩
abbrev zDO (K:List PA->Prop) (p:placed) (X:St->Prop) (P:Int->Bool) (S:Int->Bool):Prop:=∀ ⦃zcC:Int⦄,P zcC=true->K (e73 (S zcC))->X (zFp p zcC)
section
variable {K:List PA->Prop}{p:placed}{zcC:Int}{X0:St->Prop}{P0:Int->Bool}{S0:Int->Bool}{iv1:Int}{zta:Int}{ztb:Bool}{zi5:Int}{zi6:Int}{zi7:Int}{iv2:Int}{zDP:Int}{zi8:Int}{zi9:Int}{zja:Int}
def ztc (S0:Int->Bool) (p:placed) (iv2:Int) (zDP:Int) (zi8:Int) (zi9:Int) (zja:Int):Bool :=
  (cond (decide (iv2 > (0:Int)))
 (cond (decide (zi8 <= (p.Plane.Drift.get ((w64 (iv2 - (1:Int))).toNat)).Time))
 false
 (cond (decide (zi9 < (p.Plane.Drift.get ((w64 (iv2 - (1:Int))).toNat)).Radius.Low))
 false
 (cond (decide (zja < (p.Plane.Drift.get ((w64 (iv2 - (1:Int))).toNat)).Radius.High))
 false
 (S0 (w64 (zDP+(1:Int)))))))
 (S0 (w64 (zDP+(1:Int)))))
def ztd (P0:Int->Bool) (p:placed) (iv2:Int) (zDP:Int) (zi8:Int) (zi9:Int) (zja:Int):Bool :=
  (cond (decide (iv2 > (0:Int)))
 (decide ((0<=(w64 (iv2 - (1:Int)))/\(w64 (iv2 - (1:Int))) < (p.Plane.Drift.len:Int))) &&
 (cond (decide (zi8 <= (p.Plane.Drift.get ((w64 (iv2 - (1:Int))).toNat)).Time))
 true
 (decide ((0<=(w64 (iv2 - (1:Int)))/\(w64 (iv2 - (1:Int))) < (p.Plane.Drift.len:Int))) &&
 (cond (decide (zi9 < (p.Plane.Drift.get ((w64 (iv2 - (1:Int))).toNat)).Radius.Low))
 true
 (decide ((0<=(w64 (iv2 - (1:Int)))/\(w64 (iv2 - (1:Int))) < (p.Plane.Drift.len:Int))) &&
 (cond (decide (zja < (p.Plane.Drift.get ((w64 (iv2 - (1:Int))).toNat)).Radius.High))
 true
 (P0 (w64 (zDP+(1:Int))))))))))
 (P0 (w64 (zDP+(1:Int)))))
theorem zI7 (hX0:zDO K p X0 P0 S0) (hs:ztd P0 p iv2 zDP zi8 zi9 zja=true) (hk:K (e73 (ztc S0 p iv2 zDP zi8 zi9 zja))):z73 K [1,0,1,0,0,1,1,0,0,1,1] [X0] ⟨[(1,zp 1 0),(3,zI iv2),(4,zp 4 0),(7,zS zaz 3 p.Plane.Drift),(8,zI (p.Plane.Drift.len:Int)),(9,zI zDP)],[(1,.box 84 (zm (zbg p))),(4,.box 119 (zm (zaz (⟨zi8,(⟨zi9,zja⟩:Span)⟩:Drift))))],[]⟩:=zaI (by kernel_rfl) (zc hs hk (λ hs hk=>(zaS hs λ hc hs=>And.intro hc (zc hs hk (λ hs hk=>hk) (λ hs hk=>(zaS hs λ hc hs=>And.intro hc (zc hs hk (λ hs hk=>hk) (λ hs hk=>(zaS hs λ hc hs=>And.intro hc (zc hs hk (λ hs hk=>hk) (λ hs hk=>(hX0 hs hk))))))))))) (λ hs hk=>(hX0 hs hk)))
def zm8 (S0:Int->Bool) (p:placed) (iv1:Int) (zta:Int) (ztb:Bool) (zi5:Int) (zi6:Int) (zi7:Int):Bool :=
  (cond ztb
 false
 (ztc S0 p iv1 zta zi5 zi6 zi7))
def zm9 (P0:Int->Bool) (p:placed) (iv1:Int) (zta:Int) (ztb:Bool) (zi5:Int) (zi6:Int) (zi7:Int):Bool :=
  (cond ztb
 true
 (ztd P0 p iv1 zta zi5 zi6 zi7))
theorem zte (hX0:zDO K p X0 P0 S0) (hs:zm9 P0 p iv1 zta ztb zi5 zi6 zi7=true) (hk:K (e73 (zm8 S0 p iv1 zta ztb zi5 zi6 zi7))):z73 K [1,0,1,0,0,1,1,0,0,1,0,1] [X0] ⟨[(1,zp 1 0),(3,zI iv1),(4,zp 4 0),(7,zS zaz 3 p.Plane.Drift),(8,zI (p.Plane.Drift.len:Int)),(9,zI zta),(37,zB ztb)],[(1,.box 84 (zm (zbg p))),(4,.box 119 (zm (zaz (⟨zi5,(⟨zi6,zi7⟩:Span)⟩:Drift))))],[]⟩:=zaI (by kernel_rfl) (zc hs hk (λ hs hk=>hk) (λ hs hk=>(zI7 hX0 hs hk)))
def zk5 (p:placed) (S0:Int->Bool) (zcC:Int):Bool :=
  (cond (decide (zcC < (p.Plane.Drift.len : Int)))
 (cond (!(s45 ((p.Plane.Drift.get zcC.toNat).Time) (0:Int) (1000000:Int)))
 (zm8 S0 p zcC zcC true ((p.Plane.Drift.get zcC.toNat).Time) ((p.Plane.Drift.get zcC.toNat).Radius.Low) ((p.Plane.Drift.get zcC.toNat).Radius.High))
 (cond (!(s45 ((p.Plane.Drift.get zcC.toNat).Radius.Low) (0:Int) ((p.Plane.Drift.get zcC.toNat).Radius.High)))
 (zm8 S0 p zcC zcC true ((p.Plane.Drift.get zcC.toNat).Time) ((p.Plane.Drift.get zcC.toNat).Radius.Low) ((p.Plane.Drift.get zcC.toNat).Radius.High))
 (zm8 S0 p zcC zcC (decide ((p.Plane.Drift.get zcC.toNat).Radius.High > (w64 (p.Plane.Pitch.tdiv (2:Int))))) ((p.Plane.Drift.get zcC.toNat).Time) ((p.Plane.Drift.get zcC.toNat).Radius.Low) ((p.Plane.Drift.get zcC.toNat).Radius.High))))
 (s45 (p.Plane.Drift.len:Int) (1:Int) (50:Int)))
def zk6 (p:placed) (P0:Int->Bool) (zcC:Int):Bool :=
  (cond (decide (zcC < (p.Plane.Drift.len : Int)))
 (decide ((0<=zcC/\zcC < (p.Plane.Drift.len:Int))) &&
 (cond (!(s45 ((p.Plane.Drift.get zcC.toNat).Time) (0:Int) (1000000:Int)))
 (zm9 P0 p zcC zcC true ((p.Plane.Drift.get zcC.toNat).Time) ((p.Plane.Drift.get zcC.toNat).Radius.Low) ((p.Plane.Drift.get zcC.toNat).Radius.High))
 (cond (!(s45 ((p.Plane.Drift.get zcC.toNat).Radius.Low) (0:Int) ((p.Plane.Drift.get zcC.toNat).Radius.High)))
 (zm9 P0 p zcC zcC true ((p.Plane.Drift.get zcC.toNat).Time) ((p.Plane.Drift.get zcC.toNat).Radius.Low) ((p.Plane.Drift.get zcC.toNat).Radius.High))
 (decide (((2:Int) ≠ 0)) &&
 (zm9 P0 p zcC zcC (decide ((p.Plane.Drift.get zcC.toNat).Radius.High > (w64 (p.Plane.Pitch.tdiv (2:Int))))) ((p.Plane.Drift.get zcC.toNat).Time) ((p.Plane.Drift.get zcC.toNat).Radius.Low) ((p.Plane.Drift.get zcC.toNat).Radius.High))))))
 true)
def zjy (p:placed):Nat->Int->Bool:=lpO (λ _=>default) (zk5 p)
def zjz (p:placed):Nat->Int->Bool:=lpO (λ _=>false) (zk6 p)
def zBq (p:placed) (zcC:Int):Bool:=zjy p Fuel zcC
def zBr (p:placed) (zcC:Int):Bool:=zjz p Fuel zcC
theorem zI8 (hs:zBr p zcC=true) (hk:K (e73 (zBq p zcC))):z73 K [1,0,1,0] [] (zFp p zcC) :=
  zl (λ X=>z73 K [1,0,1,0,0] [X]) (by kernel_rfl) λ X0 hX =>
  (show ∀ k, zDO K p X0 (zjz p k) (zjy p k) from zg4 _ _ (zk6 p) (zk5 p) (zDO K p X0)
 (by intro _ hs;exact absurd hs dqk)
 (by intro P0 S0 hX0 zcC hs hk;exact hX _ (zaI (by kernel_rfl) (zc hs hk (λ hs hk=>(zaS hs λ hc hs=>And.intro hc (zc hs hk (λ hs hk=>(zte hX0 hs hk)) (λ hs hk=>(zc hs hk (λ hs hk=>(zte hX0 hs hk)) (λ hs hk=>(zaS hs λ hc hs=>And.intro hc (zte hX0 hs hk)))))))) (λ hs hk=>hk))))) _ hs hk
def s73 (p:placed):Bool :=
  (zBq p (0:Int))
def p73 (p:placed):Bool :=
  (zBr p (0:Int))
end
theorem q73 (p:placed) (K:List PA->Prop) (hs:p73 p=true) (hk:K (e73 (s73 p))):vcFun Try.prog G73 zI6 73 [.agg (zbg p)] K :=
  zaI (by kernel_rfl) (zI8 hs hk)
def zI9 : List PA → COut
  | [.agg [.int .i64 zau,.int .i64 zav,.int .i64 zaC,.int .i64 zam,.int .i64 zan,.int .i64 zaf,.int .i64 zao,.int .i64 zab,.int .i64 zaa,.int .i64 zad,.int .i64 zac,.int .i64 zah,.int .i64 zaq,.sl zae zaD zaj,.sl zai zaH zat,.int .i64 zaU]]=>.det (IsE zaz 3 zaD zaj/\IsE zaB 1 zaH zat/\p73 (⟨(⟨zau,zav,zaC,zam,zan,zaf,zao,(⟨zab,zaa⟩:Span),(⟨zad,zac⟩:Span),zah,zaq,(⟨zae,zbn zaj⟩:(Sl Drift)),(⟨zai,zbh zat⟩:(Sl Int))⟩:Plane),zaU⟩:placed)=true) [.one (.bool (s73 (⟨(⟨zau,zav,zaC,zam,zan,zaf,zao,(⟨zab,zaa⟩:Span),(⟨zad,zac⟩:Span),zah,zaq,(⟨zae,zbn zaj⟩:(Sl Drift)),(⟨zai,zbh zat⟩:(Sl Int))⟩:Plane),zaU⟩:placed)))]
  | _=>.no
theorem zM2:zal Try.prog 73:=⟨_,rfl,rfl,by kernel_rfl⟩
theorem zRQ:Ok Try.prog 73 zI9:=za5 zPI zM2 λ args K h=>by
  unfold zI9 at h
  split at h
  · rename_i zau zav zaC zam zan zaf zao zab zaa zad zac zah zaq zae zaD zaj zai zaH zat zaU
    obtain⟨⟨⟨rfl,zaw,rfl⟩,⟨rfl,zax,rfl⟩,hs⟩,hk⟩:=h
    try rw[zbc zaw] at hs
    try rw[zbc zaw] at hk
    try rw[zaV zax] at hs
    try rw[zaV zax] at hk
    exact⟨(λ _ _=>[]),(λ _=>false),zI6,q73 (⟨(⟨zau,zav,zaC,zam,zan,zaf,zao,(⟨zab,zaa⟩:Span),(⟨zad,zac⟩:Span),zah,zaq,(⟨zae,zaw⟩:(Sl Drift)),(⟨zai,zax⟩:(Sl Int))⟩:Plane),zaU⟩:placed) K hs hk⟩
  · exact h.elim
abbrev T74:Tabs:=Tabs.nil
theorem zPJ:TabsOk Try.prog T74:=TabsOk.nil
abbrev G74:Ctrs:=csm T74 (λ _ _=>[]) (λ _=>false)
def zM3:Ann:=⟨8,[(0,zK [1] [1]),(1,zK [2] [])],
 [],
 [],
 [],[]⟩
abbrev R74:=Bool
abbrev e74 (r:R74):List PA:=[.one (.bool r)]
section
variable {K:List PA->Prop}{p:placed}
def s74 (p:placed):Bool :=
  ((p.Plane.Drift.len:Int) == (0:Int))
end
theorem q74 (p:placed) (K:List PA->Prop) (hk:K (e74 (s74 p))):vcFun Try.prog G74 zM3 74 [.agg (zbg p)] K :=
  zaI (by kernel_rfl) hk
def zJa : List PA → COut
  | [.agg [.int .i64 zau,.int .i64 zav,.int .i64 zaC,.int .i64 zam,.int .i64 zan,.int .i64 zaf,.int .i64 zao,.int .i64 zab,.int .i64 zaa,.int .i64 zad,.int .i64 zac,.int .i64 zah,.int .i64 zaq,.sl zae zaD zaj,.sl zai zaH zat,.int .i64 zaU]]=>.det (IsE zaz 3 zaD zaj/\IsE zaB 1 zaH zat) [.one (.bool (s74 (⟨(⟨zau,zav,zaC,zam,zan,zaf,zao,(⟨zab,zaa⟩:Span),(⟨zad,zac⟩:Span),zah,zaq,(⟨zae,zbn zaj⟩:(Sl Drift)),(⟨zai,zbh zat⟩:(Sl Int))⟩:Plane),zaU⟩:placed)))]
  | _=>.no
theorem zM4:zal Try.prog 74:=⟨_,rfl,rfl,by kernel_rfl⟩
theorem zRR:Ok Try.prog 74 zJa:=za5 zPJ zM4 λ args K h=>by
  unfold zJa at h
  split at h
  · rename_i zau zav zaC zam zan zaf zao zab zaa zad zac zah zaq zae zaD zaj zai zaH zat zaU
    obtain⟨⟨⟨rfl,zaw,rfl⟩,⟨rfl,zax,rfl⟩⟩,hk⟩:=h
    try rw[zbc zaw] at hk
    try rw[zaV zax] at hk
    exact⟨(λ _ _=>[]),(λ _=>false),zM3,q74 (⟨(⟨zau,zav,zaC,zam,zan,zaf,zao,(⟨zab,zaa⟩:Span),(⟨zad,zac⟩:Span),zah,zaq,(⟨zae,zaw⟩:(Sl Drift)),(⟨zai,zax⟩:(Sl Int))⟩:Plane),zaU⟩:placed) K hk⟩
  · exact h.elim
abbrev T79:Tabs:=(Tabs.nil.addF 45 zqV)
theorem zPK:TabsOk Try.prog T79:=(TabsOk.nil.addF zJ2)
abbrev G79:Ctrs:=csm T79 (λ _ _=>[]) (λ _=>false)
def zM5:Ann:=⟨18,[(0,zK [1,2] [2]),(1,zK [4] [])],
 [],
 [],
 [],[]⟩
abbrev R79:=Bool
abbrev e79 (r:R79):List PA:=[.one (.bool r)]
section
variable {K:List PA->Prop}{s:Span}{most:Int}
def s79 (s:Span) (most:Int):Bool :=
  (cond (s45 s.Low (w64 (0 - most)) s.High)
 (decide (s.High<=most))
 false)
end
theorem q79 (s:Span) (most:Int) (K:List PA->Prop) (hk:K (e79 (s79 s most))):vcFun Try.prog G79 zM5 79 [.agg (zcb s),.one (.int .i64 most)] K :=
  zaI (by kernel_rfl) (zt hk (λ hk=>hk) (λ hk=>hk))
def zJb : List PA → COut
  | [.agg [.int .i64 zer,.int .i64 zdh],.one (.int .i64 a1)]=>.tot [.one (.bool (s79 (⟨zer,zdh⟩:Span) a1))]
  | _=>.no
theorem zM6:zal Try.prog 79:=⟨_,rfl,rfl,by kernel_rfl⟩
theorem zRS:Ok Try.prog 79 zJb:=za5 zPK zM6 λ args K h=>by
  unfold zJb at h
  split at h
  · rename_i zer zdh a1
    have hk:=h
    exact⟨(λ _ _=>[]),(λ _=>false),zM5,q79 (⟨zer,zdh⟩:Span) a1 K hk⟩
  · exact h.elim
abbrev T75:Tabs:=((Tabs.nil.addF 45 zqV).addF 79 zJb)
theorem zPL:TabsOk Try.prog T75:=((TabsOk.nil.addF zJ2).addF zRS)
abbrev G75:Ctrs:=csm T75 (λ _ _=>[]) (λ _=>false)
def znx:Ann:=⟨108,[(0,zK [1] [1]),(1,zK [1,21] [1]),(2,zK [2] []),(3,zK [1,40] [1]),(4,zK [2] []),(5,zK [1,66] [1]),(6,zK [2] []),(7,zK [2] [])],
 [],
 [(1,zK [1] [1]),(2,zK [1,21] [1]),(3,zK [1] [1]),(4,zK [1,40] [1]),(5,zK [1] [1]),(6,zK [1,66] [1]),(7,zK [1] [1])],
 [],[]⟩
abbrev R75:=Bool
abbrev e75 (r:R75):List PA:=[.one (.bool r)]
@[irreducible] def z75:=ptF Try.prog G75 znx Try.f75
abbrev k75 (K:List PA->Prop) (l:List Nat):Exit->St->Prop:=(ptR Try.prog G75 znx (cdF Try.f75 []) (zpO Try.prog Try.f75 K) l []).2
section
variable {K:List PA->Prop}{p:placed}{zDQ:Bool}{zDR:Bool}{zDS:Bool}
def ztf (p:placed):Bool :=
  (cond (decide ((w64 ((w64 ((w64 (p.Plane.First - p.Plane.Pitch)) - p.Plane.Spill)) + p.Plane.Offset.Low)) >= (-1000000:Int)))
 (decide ((w64 ((w64 ((w64 (p.Plane.First+(w64 ((w64 (p.Plane.Strips+(1:Int))) * p.Plane.Pitch))))+p.Plane.Spill))+p.Plane.Offset.High))<=(1000000:Int)))
 false)
theorem zJc (hk:K (e75 (ztf p))):z75 K [1,1,1,1] [] ⟨[(1,zp 1 0)],[(1,.box 84 (zm (zbg p)))],[]⟩:=zaI (by kernel_rfl) (zt hk (λ hk=>hk) (λ hk=>hk))
def zk7 (p:placed) (zDS:Bool):Bool :=
  (cond zDS
 false
 (ztf p))
theorem zpq (hk:K (e75 (zk7 p zDS))):z75 K [1,1,1,0,1] [] ⟨[(1,zp 1 0),(66,zB zDS)],[(1,.box 84 (zm (zbg p)))],[]⟩:=zaI (by kernel_rfl) (zt hk (λ hk=>hk) (λ hk=>(zJc hk)))
def ztg (p:placed):Bool :=
  (cond (!(s79 p.Plane.Offset (1000000:Int)))
 (zk7 p true)
 (cond (!(s79 p.Plane.Clock (1000000000:Int)))
 (zk7 p true)
 (cond (!(s45 p.Plane.Jitter (0:Int) (1000000:Int)))
 (zk7 p true)
 (zk7 p (!(s45 p.Plane.Least (0:Int) (1000000:Int)))))))
theorem zJd (Kc : Exit → St → Prop) (p : placed) : vc Try.prog G75 znx (cdF Try.f75 [1,1,1,0,0]) Kc ⟨[(1, zp 1 0)], [(1, .box 84 (zm (zbg p)))], []⟩ =
  (zcJ (!(s79 p.Plane.Offset (1000000:Int)))
 (Kc .normal ⟨[(1,zp 1 0),(66,zB true)],[(1,.box 84 (zm (zbg p)))],[]⟩)
 (zcJ (!(s79 p.Plane.Clock (1000000000:Int)))
 (Kc .normal ⟨[(1,zp 1 0),(66,zB true)],[(1,.box 84 (zm (zbg p)))],[]⟩)
 (zcJ (!(s45 p.Plane.Jitter (0:Int) (1000000:Int)))
 (Kc .normal ⟨[(1,zp 1 0),(66,zB true)],[(1,.box 84 (zm (zbg p)))],[]⟩)
 (Kc .normal ⟨[(1,zp 1 0),(66,zB (!(s45 p.Plane.Least (0:Int) (1000000:Int))))],[(1,.box 84 (zm (zbg p)))],[]⟩)))):=by kernel_rfl
theorem zJe (hk:K (e75 (ztg p))):z75 K [1,1,1] [] ⟨[(1,zp 1 0)],[(1,.box 84 (zm (zbg p)))],[]⟩:=zaI (show _=vc Try.prog G75 znx (cdF Try.f75 [1,1,1,0,0]) (k75 K [1,1,1,0,0]) ⟨[(1,zp 1 0)],[(1,.box 84 (zm (zbg p)))],[]⟩ by kernel_rfl) (zaI (zJd _ p) (zt hk (λ hk=>(zaI (by kernel_rfl) (zpq hk))) (λ hk=>(zt hk (λ hk=>(zaI (by kernel_rfl) (zpq hk))) (λ hk=>(zt hk (λ hk=>(zaI (by kernel_rfl) (zpq hk))) (λ hk=>(zaI (by kernel_rfl) (zpq hk)))))))))
def zna (p:placed) (zDR:Bool):Bool :=
  (cond zDR
 false
 (ztg p))
theorem zth (hk:K (e75 (zna p zDR))):z75 K [1,1,0,1] [] ⟨[(1,zp 1 0),(40,zB zDR)],[(1,.box 84 (zm (zbg p)))],[]⟩:=zaI (by kernel_rfl) (zt hk (λ hk=>hk) (λ hk=>(zJe hk)))
def zti (p:placed):Bool :=
  (cond (!(s45 p.Plane.Pitch (2:Int) (100000:Int)))
 (zna p true)
 (cond (!(s45 p.Plane.Strips (1:Int) (2000:Int)))
 (zna p true)
 (zna p (!(s45 p.Plane.Spill (0:Int) (100000:Int))))))
theorem zJf (Kc : Exit → St → Prop) (p : placed) : vc Try.prog G75 znx (cdF Try.f75 [1,1,0,0]) Kc ⟨[(1, zp 1 0)], [(1, .box 84 (zm (zbg p)))], []⟩ =
  (zcJ (!(s45 p.Plane.Pitch (2:Int) (100000:Int)))
 (Kc .normal ⟨[(1,zp 1 0),(40,zB true)],[(1,.box 84 (zm (zbg p)))],[]⟩)
 (zcJ (!(s45 p.Plane.Strips (1:Int) (2000:Int)))
 (Kc .normal ⟨[(1,zp 1 0),(40,zB true)],[(1,.box 84 (zm (zbg p)))],[]⟩)
 (Kc .normal ⟨[(1,zp 1 0),(40,zB (!(s45 p.Plane.Spill (0:Int) (100000:Int))))],[(1,.box 84 (zm (zbg p)))],[]⟩))):=by kernel_rfl
theorem zJg (hk:K (e75 (zti p))):z75 K [1,1] [] ⟨[(1,zp 1 0)],[(1,.box 84 (zm (zbg p)))],[]⟩:=zaI (show _=vc Try.prog G75 znx (cdF Try.f75 [1,1,0,0]) (k75 K [1,1,0,0]) ⟨[(1,zp 1 0)],[(1,.box 84 (zm (zbg p)))],[]⟩ by kernel_rfl) (zaI (zJf _ p) (zt hk (λ hk=>(zaI (by kernel_rfl) (zth hk))) (λ hk=>(zt hk (λ hk=>(zaI (by kernel_rfl) (zth hk))) (λ hk=>(zaI (by kernel_rfl) (zth hk)))))))
def znb (p:placed) (zDQ:Bool):Bool :=
  (cond zDQ
 false
 (zti p))
theorem ztj (hk:K (e75 (znb p zDQ))):z75 K [1,0,1] [] ⟨[(1,zp 1 0),(21,zB zDQ)],[(1,.box 84 (zm (zbg p)))],[]⟩:=zaI (by kernel_rfl) (zt hk (λ hk=>hk) (λ hk=>(zJg hk)))
def ztk (p:placed):Bool :=
  (cond (!(s45 p.Plane.View (1:Int) (2:Int)))
 (znb p true)
 (cond (!(s45 p.Plane.Z (0:Int) (100000:Int)))
 (znb p true)
 (znb p (!(s45 p.Plane.First (-1000000:Int) (1000000:Int))))))
theorem zJh (Kc : Exit → St → Prop) (p : placed) : vc Try.prog G75 znx (cdF Try.f75 [1,0,0]) Kc ⟨[(1, zp 1 0)], [(1, .box 84 (zm (zbg p)))], []⟩ =
  (zcJ (!(s45 p.Plane.View (1:Int) (2:Int)))
 (Kc .normal ⟨[(1,zp 1 0),(21,zB true)],[(1,.box 84 (zm (zbg p)))],[]⟩)
 (zcJ (!(s45 p.Plane.Z (0:Int) (100000:Int)))
 (Kc .normal ⟨[(1,zp 1 0),(21,zB true)],[(1,.box 84 (zm (zbg p)))],[]⟩)
 (Kc .normal ⟨[(1,zp 1 0),(21,zB (!(s45 p.Plane.First (-1000000:Int) (1000000:Int))))],[(1,.box 84 (zm (zbg p)))],[]⟩))):=by kernel_rfl
theorem zJi (hk:K (e75 (ztk p))):z75 K [1] [] ⟨[(1,zp 1 0)],[(1,.box 84 (zm (zbg p)))],[]⟩:=zaI (show _=vc Try.prog G75 znx (cdF Try.f75 [1,0,0]) (k75 K [1,0,0]) ⟨[(1,zp 1 0)],[(1,.box 84 (zm (zbg p)))],[]⟩ by kernel_rfl) (zaI (zJh _ p) (zt hk (λ hk=>(zaI (by kernel_rfl) (ztj hk))) (λ hk=>(zt hk (λ hk=>(zaI (by kernel_rfl) (ztj hk))) (λ hk=>(zaI (by kernel_rfl) (ztj hk)))))))
def s75 (p:placed):Bool :=
  (ztk p)
end
theorem q75 (p:placed) (K:List PA->Prop) (hk:K (e75 (s75 p))):vcFun Try.prog G75 znx 75 [.agg (zbg p)] K :=
  (zaI (by kernel_rfl) (show z75 K [] [] ⟨zhM 0 [.agg (zbg p)],[],[]⟩ from zaI (by kernel_rfl) (show z75 K [] [] ⟨[(0,zA (zbg p))],[],[]⟩ from zaI (by kernel_rfl) (zJi hk))))
def zJj : List PA → COut
  | [.agg [.int .i64 zau,.int .i64 zav,.int .i64 zaC,.int .i64 zam,.int .i64 zan,.int .i64 zaf,.int .i64 zao,.int .i64 zab,.int .i64 zaa,.int .i64 zad,.int .i64 zac,.int .i64 zah,.int .i64 zaq,.sl zae zaD zaj,.sl zai zaH zat,.int .i64 zaU]]=>.det (IsE zaz 3 zaD zaj/\IsE zaB 1 zaH zat) [.one (.bool (s75 (⟨(⟨zau,zav,zaC,zam,zan,zaf,zao,(⟨zab,zaa⟩:Span),(⟨zad,zac⟩:Span),zah,zaq,(⟨zae,zbn zaj⟩:(Sl Drift)),(⟨zai,zbh zat⟩:(Sl Int))⟩:Plane),zaU⟩:placed)))]
  | _=>.no
theorem zM7:zal Try.prog 75:=⟨_,rfl,rfl,by kernel_rfl⟩
theorem zRT:Ok Try.prog 75 zJj:=za5 zPL zM7 λ args K h=>by
  unfold zJj at h
  split at h
  · rename_i zau zav zaC zam zan zaf zao zab zaa zad zac zah zaq zae zaD zaj zai zaH zat zaU
    obtain⟨⟨⟨rfl,zaw,rfl⟩,⟨rfl,zax,rfl⟩⟩,hk⟩:=h
    try rw[zbc zaw] at hk
    try rw[zaV zax] at hk
    exact⟨(λ _ _=>[]),(λ _=>false),znx,q75 (⟨(⟨zau,zav,zaC,zam,zan,zaf,zao,(⟨zab,zaa⟩:Span),(⟨zad,zac⟩:Span),zah,zaq,(⟨zae,zaw⟩:(Sl Drift)),(⟨zai,zax⟩:(Sl Int))⟩:Plane),zaU⟩:placed) K hk⟩
  · exact h.elim
abbrev T55:Tabs:=(((((Tabs.nil.addF 45 zqV).addF 72 zI5).addF 73 zI9).addF 74 zJa).addF 75 zJj)
theorem zPM:TabsOk Try.prog T55:=(((((TabsOk.nil.addF zJ2).addF zRP).addF zRQ).addF zRR).addF zRT)
abbrev zQx:Ctrs:=csm T55 (λ _ _=>[]) (λ _=>false)
def zBs:Ann:=⟨69,[(0,zK [1] [1]),(1,zK [1,3] [1,3]),(2,zK [1,31] [1]),(3,zK [2] []),(4,zK [1,34,35,36] [1]),(5,zK [1,34,35,36,37] [1]),(6,zK [1,4,5,34,35,36] [1]),(7,zK [1,34,35,36,62] [1]),(8,zK [2] []),(9,zK [1,34,35,36] [1]),(10,zK [2] [])],
 [(5,zK [1,34,35,36] [1])],
 [(3,zK [1,31] [1]),(4,zK [1] [1]),(8,zK [1,34,35,36,62] [1])],
 [],[]⟩
abbrev zRU:=Bool
abbrev zJ3 (r:zRU):List PA:=[.one (.bool r)]
@[irreducible] def z55a:=ptF Try.prog zQx zBs Try.f55
def zBt (a:placed) (zaW:Int):St:=⟨[(1,zp 1 0),(34,zS zaB 1 a.Plane.Dead),(35,zI (a.Plane.Dead.len:Int)),(36,zI zaW)],[(1,.box 84 (zm (zbg (⟨(⟨(1:Int),a.Plane.View,a.Plane.Z,a.Plane.First,a.Plane.Pitch,a.Plane.Strips,a.Plane.Spill,a.Plane.Offset,a.Plane.Clock,a.Plane.Jitter,a.Plane.Least,a.Plane.Drift,a.Plane.Dead⟩:Plane),a.index⟩:placed))))],[]⟩
abbrev zBu (K:List PA->Prop) (a:placed) (X:St->Prop) (P:Int->Bool) (S:Int->Bool):Prop:=∀ ⦃zaW:Int⦄,P zaW=true->K (zJ3 (S zaW))->X (zBt a zaW)
section
variable {K:List PA->Prop}{a:placed}{zfU:Bool}{zaW:Int}{X2:St->Prop}{P2:Int->Bool}{S2:Int->Bool}{zfV:Int}{zfW:Bool}
def zkf (S2:Int->Bool) (a:placed) (zfV:Int) (zfW:Bool):Bool :=
  (cond zfW
 false
 (S2 (w64 (zfV+(1:Int)))))
def zkg (P2:Int->Bool) (a:placed) (zfV:Int) (zfW:Bool):Bool :=
  (cond zfW
 true
 (P2 (w64 (zfV+(1:Int)))))
theorem zpr (hX2:zBu K a X2 P2 S2) (hs:zkg P2 a zfV zfW=true) (hk:K (zJ3 (zkf S2 a zfV zfW))):z55a K [1,1,1,0,1,0,0,1,1,0,0,1,1] [X2] ⟨[(1,zp 1 0),(34,zS zaB 1 a.Plane.Dead),(35,zI (a.Plane.Dead.len:Int)),(36,zI zfV),(62,zB zfW)],[(1,.box 84 (zm (zbg (⟨(⟨(1:Int),a.Plane.View,a.Plane.Z,a.Plane.First,a.Plane.Pitch,a.Plane.Strips,a.Plane.Spill,a.Plane.Offset,a.Plane.Clock,a.Plane.Jitter,a.Plane.Least,a.Plane.Drift,a.Plane.Dead⟩:Plane),a.index⟩:placed))))],[]⟩:=zaI (by kernel_rfl) (zc hs hk (λ hs hk=>hk) (λ hs hk=>(hX2 hs hk)))
def ziw (a:placed) (S2:Int->Bool) (zaW:Int):Bool :=
  (cond (decide (zaW < (a.Plane.Dead.len : Int)))
 (cond (!(s45 (a.Plane.Dead.get zaW.toNat) (0:Int) (w64 (a.Plane.Strips - (1:Int)))))
 (zkf S2 a zaW true)
 (cond (decide (zaW > (0:Int)))
 (zkf S2 a zaW (decide ((a.Plane.Dead.get zaW.toNat)<=(a.Plane.Dead.get ((w64 (zaW - (1:Int))).toNat)))))
 (zkf S2 a zaW false)))
 (decide ((a.Plane.Dead.len:Int)<=(100:Int))))
def zix (a:placed) (P2:Int->Bool) (zaW:Int):Bool :=
  (cond (decide (zaW < (a.Plane.Dead.len : Int)))
 (decide ((0<=zaW/\zaW < (a.Plane.Dead.len:Int))) &&
 (cond (!(s45 (a.Plane.Dead.get zaW.toNat) (0:Int) (w64 (a.Plane.Strips - (1:Int)))))
 (zkg P2 a zaW true)
 (cond (decide (zaW > (0:Int)))
 (decide ((0<=(w64 (zaW - (1:Int)))/\(w64 (zaW - (1:Int))) < (a.Plane.Dead.len:Int))) &&
 (zkg P2 a zaW (decide ((a.Plane.Dead.get zaW.toNat)<=(a.Plane.Dead.get ((w64 (zaW - (1:Int))).toNat))))))
 (zkg P2 a zaW false))))
 true)
def zhf (a:placed):Nat->Int->Bool:=lpO (λ _=>default) (ziw a)
def zhg (a:placed):Nat->Int->Bool:=lpO (λ _=>false) (zix a)
def zuC (a:placed) (zaW:Int):Bool:=zhf a Fuel zaW
def zuD (a:placed) (zaW:Int):Bool:=zhg a Fuel zaW
theorem zDT (hs:zuD a zaW=true) (hk:K (zJ3 (zuC a zaW))):z55a K [1,1,1,0,1,0] [] (zBt a zaW) :=
  zl (λ X=>z55a K [1,1,1,0,1,0,0] [X]) (by kernel_rfl) λ X2 hX =>
  (show ∀ k, zBu K a X2 (zhg a k) (zhf a k) from zg4 _ _ (zix a) (ziw a) (zBu K a X2)
 (by intro _ hs;exact absurd hs dqk)
 (by intro P2 S2 hX2 zaW hs hk;exact hX _ (zaI (by kernel_rfl) (zc hs hk (λ hs hk=>(zaS hs λ hc hs=>And.intro hc (zc hs hk (λ hs hk=>(zpr hX2 hs hk)) (λ hs hk=>(zc hs hk (λ hs hk=>(zaS hs λ hc hs=>And.intro hc (zpr hX2 hs hk))) (λ hs hk=>(zpr hX2 hs hk))))))) (λ hs hk=>hk))))) _ hs hk
def zkh (a:placed):Bool :=
  (zuC a (0:Int))
def zki (a:placed):Bool :=
  (zuD a (0:Int))
theorem zDU (hs:zki a=true) (hk:K (zJ3 (zkh a))):z55a K [1,1,1] [] ⟨[(1,zp 1 0)],[(1,.box 84 (zm (zbg (⟨(⟨(1:Int),a.Plane.View,a.Plane.Z,a.Plane.First,a.Plane.Pitch,a.Plane.Strips,a.Plane.Spill,a.Plane.Offset,a.Plane.Clock,a.Plane.Jitter,a.Plane.Least,a.Plane.Drift,a.Plane.Dead⟩:Plane),a.index⟩:placed))))],[]⟩:=zaI (by kernel_rfl) (zDT hs hk)
def zkj (a:placed) (zfU:Bool):Bool :=
  (cond zfU
 false
 (zkh a))
def zkk (a:placed) (zfU:Bool):Bool :=
  (cond zfU
 true
 (zki a))
theorem zps (hs:zkk a zfU=true) (hk:K (zJ3 (zkj a zfU))):z55a K [1,1,0,1] [] ⟨[(1,zp 1 0),(31,zB zfU)],[(1,.box 84 (zm (zbg (⟨(⟨(1:Int),a.Plane.View,a.Plane.Z,a.Plane.First,a.Plane.Pitch,a.Plane.Strips,a.Plane.Spill,a.Plane.Offset,a.Plane.Clock,a.Plane.Jitter,a.Plane.Least,a.Plane.Drift,a.Plane.Dead⟩:Plane),a.index⟩:placed))))],[]⟩:=zaI (by kernel_rfl) (zc hs hk (λ hs hk=>hk) (λ hs hk=>(zDU hs hk)))
def zNZ (a:placed):Bool :=
  (cond (!(s45 (1:Int) (1:Int) (3:Int)))
 (zkj a true)
 (cond (!(s75 (⟨(⟨(1:Int), a.Plane.View, a.Plane.Z, a.Plane.First, a.Plane.Pitch, a.Plane.Strips, a.Plane.Spill, a.Plane.Offset, a.Plane.Clock, a.Plane.Jitter, a.Plane.Least, a.Plane.Drift, a.Plane.Dead⟩ : Plane), a.index⟩ : placed)))
 (zkj a true)
 (zkj a (!(s72 (⟨(⟨(1:Int),a.Plane.View,a.Plane.Z,a.Plane.First,a.Plane.Pitch,a.Plane.Strips,a.Plane.Spill,a.Plane.Offset,a.Plane.Clock,a.Plane.Jitter,a.Plane.Least,a.Plane.Drift,a.Plane.Dead⟩:Plane),a.index⟩:placed))))))
def zN0 (a:placed):Bool :=
  (cond (!(s45 (1:Int) (1:Int) (3:Int)))
 (zkk a true)
 (cond (!(s75 (⟨(⟨(1:Int), a.Plane.View, a.Plane.Z, a.Plane.First, a.Plane.Pitch, a.Plane.Strips, a.Plane.Spill, a.Plane.Offset, a.Plane.Clock, a.Plane.Jitter, a.Plane.Least, a.Plane.Drift, a.Plane.Dead⟩ : Plane), a.index⟩ : placed)))
 (zkk a true)
 (zkk a (!(s72 (⟨(⟨(1:Int),a.Plane.View,a.Plane.Z,a.Plane.First,a.Plane.Pitch,a.Plane.Strips,a.Plane.Spill,a.Plane.Offset,a.Plane.Clock,a.Plane.Jitter,a.Plane.Least,a.Plane.Drift,a.Plane.Dead⟩:Plane),a.index⟩:placed))))))
end
theorem zRV (a:placed) (K:List PA->Prop) (hs:zN0 a=true) (hk:K (zJ3 (zNZ a))):vcFun Try.prog zQx zBs 55 [.agg [.int .i64 (1:Int),.int .i64 a.Plane.View,.int .i64 a.Plane.Z,.int .i64 a.Plane.First,.int .i64 a.Plane.Pitch,.int .i64 a.Plane.Strips,.int .i64 a.Plane.Spill,.int .i64 a.Plane.Offset.Low,.int .i64 a.Plane.Offset.High,.int .i64 a.Plane.Clock.Low,.int .i64 a.Plane.Clock.High,.int .i64 a.Plane.Jitter,.int .i64 a.Plane.Least,.sl a.Plane.Drift.len 3 (λ i=>zaz (a.Plane.Drift.get i)),.sl a.Plane.Dead.len 1 (λ i=>zaB (a.Plane.Dead.get i)),.int .i64 a.index]] K :=
  zaI (by kernel_rfl) (zc hs hk (λ hs hk=>(zps hs hk)) (λ hs hk=>(And.intro (And.intro (zE zaz 3 a.Plane.Drift.get) (zE zaB 1 a.Plane.Dead.get)) (zc hs hk (λ hs hk=>(zps hs hk)) (λ hs hk=>(And.intro (And.intro (zE zaz 3 a.Plane.Drift.get) (zE zaB 1 a.Plane.Dead.get)) (zps hs hk)))))))
abbrev zQy:Ctrs:=csm T55 (λ _ _=>[]) (λ _=>false)
def zBv:Ann:=⟨69,[(0,zK [1] [1]),(1,zK [1,3] [1,3]),(2,zK [1,31] [1]),(3,zK [2] []),(4,zK [1,34,35,36] [1]),(5,zK [1,34,35,36,37] [1]),(6,zK [1,4,5,34,35,36] [1]),(7,zK [1,34,35,36,62] [1]),(8,zK [2] []),(9,zK [1,34,35,36] [1]),(10,zK [2] [])],
 [(5,zK [1,34,35,36] [1])],
 [(3,zK [1,31] [1]),(4,zK [1] [1]),(8,zK [1,34,35,36,62] [1])],
 [],[]⟩
abbrev zRW:=Bool
abbrev zJ4 (r:zRW):List PA:=[.one (.bool r)]
@[irreducible] def z55b:=ptF Try.prog zQy zBv Try.f55
def zBw (a:placed) (zaW:Int):St:=⟨[(1,zp 1 0),(34,zS zaB 1 a.Plane.Dead),(35,zI (a.Plane.Dead.len:Int)),(36,zI zaW)],[(1,.box 84 (zm (zbg (⟨(⟨(2:Int),a.Plane.View,a.Plane.Z,a.Plane.First,a.Plane.Pitch,a.Plane.Strips,a.Plane.Spill,a.Plane.Offset,a.Plane.Clock,a.Plane.Jitter,a.Plane.Least,a.Plane.Drift,a.Plane.Dead⟩:Plane),a.index⟩:placed))))],[]⟩
abbrev zBx (K:List PA->Prop) (a:placed) (X:St->Prop) (P:Int->Bool) (S:Int->Bool):Prop:=∀ ⦃zaW:Int⦄,P zaW=true->K (zJ4 (S zaW))->X (zBw a zaW)
section
variable {K:List PA->Prop}{a:placed}{zfU:Bool}{zaW:Int}{X2:St->Prop}{P2:Int->Bool}{S2:Int->Bool}{zfV:Int}{zfW:Bool}
def zlT (S2:Int->Bool) (a:placed) (zfV:Int) (zfW:Bool):Bool :=
  (cond zfW
 false
 (S2 (w64 (zfV+(1:Int)))))
def zlU (P2:Int->Bool) (a:placed) (zfV:Int) (zfW:Bool):Bool :=
  (cond zfW
 true
 (P2 (w64 (zfV+(1:Int)))))
theorem zpt (hX2:zBx K a X2 P2 S2) (hs:zlU P2 a zfV zfW=true) (hk:K (zJ4 (zlT S2 a zfV zfW))):z55b K [1,1,1,0,1,0,0,1,1,0,0,1,1] [X2] ⟨[(1,zp 1 0),(34,zS zaB 1 a.Plane.Dead),(35,zI (a.Plane.Dead.len:Int)),(36,zI zfV),(62,zB zfW)],[(1,.box 84 (zm (zbg (⟨(⟨(2:Int),a.Plane.View,a.Plane.Z,a.Plane.First,a.Plane.Pitch,a.Plane.Strips,a.Plane.Spill,a.Plane.Offset,a.Plane.Clock,a.Plane.Jitter,a.Plane.Least,a.Plane.Drift,a.Plane.Dead⟩:Plane),a.index⟩:placed))))],[]⟩:=zaI (by kernel_rfl) (zc hs hk (λ hs hk=>hk) (λ hs hk=>(hX2 hs hk)))
def zuE (a:placed) (S2:Int->Bool) (zaW:Int):Bool :=
  (cond (decide (zaW < (a.Plane.Dead.len : Int)))
 (cond (!(s45 (a.Plane.Dead.get zaW.toNat) (0:Int) (w64 (a.Plane.Strips - (1:Int)))))
 (zlT S2 a zaW true)
 (cond (decide (zaW > (0:Int)))
 (zlT S2 a zaW (decide ((a.Plane.Dead.get zaW.toNat)<=(a.Plane.Dead.get ((w64 (zaW - (1:Int))).toNat)))))
 (zlT S2 a zaW false)))
 (decide ((a.Plane.Dead.len:Int)<=(100:Int))))
def zuF (a:placed) (P2:Int->Bool) (zaW:Int):Bool :=
  (cond (decide (zaW < (a.Plane.Dead.len : Int)))
 (decide ((0<=zaW/\zaW < (a.Plane.Dead.len:Int))) &&
 (cond (!(s45 (a.Plane.Dead.get zaW.toNat) (0:Int) (w64 (a.Plane.Strips - (1:Int)))))
 (zlU P2 a zaW true)
 (cond (decide (zaW > (0:Int)))
 (decide ((0<=(w64 (zaW - (1:Int)))/\(w64 (zaW - (1:Int))) < (a.Plane.Dead.len:Int))) &&
 (zlU P2 a zaW (decide ((a.Plane.Dead.get zaW.toNat)<=(a.Plane.Dead.get ((w64 (zaW - (1:Int))).toNat))))))
 (zlU P2 a zaW false))))
 true)
def zuG (a:placed):Nat->Int->Bool:=lpO (λ _=>default) (zuE a)
def zuH (a:placed):Nat->Int->Bool:=lpO (λ _=>false) (zuF a)
def zuI (a:placed) (zaW:Int):Bool:=zuG a Fuel zaW
def zuJ (a:placed) (zaW:Int):Bool:=zuH a Fuel zaW
theorem zDV (hs:zuJ a zaW=true) (hk:K (zJ4 (zuI a zaW))):z55b K [1,1,1,0,1,0] [] (zBw a zaW) :=
  zl (λ X=>z55b K [1,1,1,0,1,0,0] [X]) (by kernel_rfl) λ X2 hX =>
  (show ∀ k, zBx K a X2 (zuH a k) (zuG a k) from zg4 _ _ (zuF a) (zuE a) (zBx K a X2)
 (by intro _ hs;exact absurd hs dqk)
 (by intro P2 S2 hX2 zaW hs hk;exact hX _ (zaI (by kernel_rfl) (zc hs hk (λ hs hk=>(zaS hs λ hc hs=>And.intro hc (zc hs hk (λ hs hk=>(zpt hX2 hs hk)) (λ hs hk=>(zc hs hk (λ hs hk=>(zaS hs λ hc hs=>And.intro hc (zpt hX2 hs hk))) (λ hs hk=>(zpt hX2 hs hk))))))) (λ hs hk=>hk))))) _ hs hk
def zlV (a:placed):Bool :=
  (zuI a (0:Int))
def zlW (a:placed):Bool :=
  (zuJ a (0:Int))
theorem zDW (hs:zlW a=true) (hk:K (zJ4 (zlV a))):z55b K [1,1,1] [] ⟨[(1,zp 1 0)],[(1,.box 84 (zm (zbg (⟨(⟨(2:Int),a.Plane.View,a.Plane.Z,a.Plane.First,a.Plane.Pitch,a.Plane.Strips,a.Plane.Spill,a.Plane.Offset,a.Plane.Clock,a.Plane.Jitter,a.Plane.Least,a.Plane.Drift,a.Plane.Dead⟩:Plane),a.index⟩:placed))))],[]⟩:=zaI (by kernel_rfl) (zDV hs hk)
def zkl (a:placed) (zfU:Bool):Bool :=
  (cond zfU
 false
 (zlV a))
def zkm (a:placed) (zfU:Bool):Bool :=
  (cond zfU
 true
 (zlW a))
theorem zpu (hs:zkm a zfU=true) (hk:K (zJ4 (zkl a zfU))):z55b K [1,1,0,1] [] ⟨[(1,zp 1 0),(31,zB zfU)],[(1,.box 84 (zm (zbg (⟨(⟨(2:Int),a.Plane.View,a.Plane.Z,a.Plane.First,a.Plane.Pitch,a.Plane.Strips,a.Plane.Spill,a.Plane.Offset,a.Plane.Clock,a.Plane.Jitter,a.Plane.Least,a.Plane.Drift,a.Plane.Dead⟩:Plane),a.index⟩:placed))))],[]⟩:=zaI (by kernel_rfl) (zc hs hk (λ hs hk=>hk) (λ hs hk=>(zDW hs hk)))
def zN1 (a:placed):Bool :=
  (cond (!(s45 (2:Int) (1:Int) (3:Int)))
 (zkl a true)
 (cond (!(s75 (⟨(⟨(2:Int), a.Plane.View, a.Plane.Z, a.Plane.First, a.Plane.Pitch, a.Plane.Strips, a.Plane.Spill, a.Plane.Offset, a.Plane.Clock, a.Plane.Jitter, a.Plane.Least, a.Plane.Drift, a.Plane.Dead⟩ : Plane), a.index⟩ : placed)))
 (zkl a true)
 (zkl a (!(s73 (⟨(⟨(2:Int),a.Plane.View,a.Plane.Z,a.Plane.First,a.Plane.Pitch,a.Plane.Strips,a.Plane.Spill,a.Plane.Offset,a.Plane.Clock,a.Plane.Jitter,a.Plane.Least,a.Plane.Drift,a.Plane.Dead⟩:Plane),a.index⟩:placed))))))
def zN2 (a:placed):Bool :=
  (cond (!(s45 (2:Int) (1:Int) (3:Int)))
 (zkm a true)
 (cond (!(s75 (⟨(⟨(2:Int), a.Plane.View, a.Plane.Z, a.Plane.First, a.Plane.Pitch, a.Plane.Strips, a.Plane.Spill, a.Plane.Offset, a.Plane.Clock, a.Plane.Jitter, a.Plane.Least, a.Plane.Drift, a.Plane.Dead⟩ : Plane), a.index⟩ : placed)))
 (zkm a true)
 (decide ((p73 (⟨(⟨(2:Int),a.Plane.View,a.Plane.Z,a.Plane.First,a.Plane.Pitch,a.Plane.Strips,a.Plane.Spill,a.Plane.Offset,a.Plane.Clock,a.Plane.Jitter,a.Plane.Least,a.Plane.Drift,a.Plane.Dead⟩:Plane),a.index⟩:placed)=true)) &&
 (zkm a (!(s73 (⟨(⟨(2:Int),a.Plane.View,a.Plane.Z,a.Plane.First,a.Plane.Pitch,a.Plane.Strips,a.Plane.Spill,a.Plane.Offset,a.Plane.Clock,a.Plane.Jitter,a.Plane.Least,a.Plane.Drift,a.Plane.Dead⟩:Plane),a.index⟩:placed)))))))
end
theorem zRX (a:placed) (K:List PA->Prop) (hs:zN2 a=true) (hk:K (zJ4 (zN1 a))):vcFun Try.prog zQy zBv 55 [.agg [.int .i64 (2:Int),.int .i64 a.Plane.View,.int .i64 a.Plane.Z,.int .i64 a.Plane.First,.int .i64 a.Plane.Pitch,.int .i64 a.Plane.Strips,.int .i64 a.Plane.Spill,.int .i64 a.Plane.Offset.Low,.int .i64 a.Plane.Offset.High,.int .i64 a.Plane.Clock.Low,.int .i64 a.Plane.Clock.High,.int .i64 a.Plane.Jitter,.int .i64 a.Plane.Least,.sl a.Plane.Drift.len 3 (λ i=>zaz (a.Plane.Drift.get i)),.sl a.Plane.Dead.len 1 (λ i=>zaB (a.Plane.Dead.get i)),.int .i64 a.index]] K :=
  zaI (by kernel_rfl) (zc hs hk (λ hs hk=>(zpu hs hk)) (λ hs hk=>(And.intro (And.intro (zE zaz 3 a.Plane.Drift.get) (zE zaB 1 a.Plane.Dead.get)) (zc hs hk (λ hs hk=>(zpu hs hk)) (λ hs hk=>(zaS hs λ hc hs=>And.intro (And.intro (zE zaz 3 a.Plane.Drift.get) (And.intro (zE zaB 1 a.Plane.Dead.get) hc)) (zpu hs hk)))))))
abbrev zQz:Ctrs:=csm T55 (λ _ _=>[]) (λ _=>false)
def zBy:Ann:=⟨69,[(0,zK [1] [1]),(1,zK [1,3] [1,3]),(2,zK [1,31] [1]),(3,zK [2] []),(4,zK [1,34,35,36] [1]),(5,zK [1,34,35,36,37] [1]),(6,zK [1,4,5,34,35,36] [1]),(7,zK [1,34,35,36,62] [1]),(8,zK [2] []),(9,zK [1,34,35,36] [1]),(10,zK [2] [])],
 [(5,zK [1,34,35,36] [1])],
 [(3,zK [1,31] [1]),(4,zK [1] [1]),(8,zK [1,34,35,36,62] [1])],
 [],[]⟩
abbrev zRY:=Bool
abbrev zJ5 (r:zRY):List PA:=[.one (.bool r)]
@[irreducible] def z55c:=ptF Try.prog zQz zBy Try.f55
def zBz (a:placed) (zaW:Int):St:=⟨[(1,zp 1 0),(34,zS zaB 1 a.Plane.Dead),(35,zI (a.Plane.Dead.len:Int)),(36,zI zaW)],[(1,.box 84 (zm (zbg (⟨(⟨(3:Int),a.Plane.View,a.Plane.Z,a.Plane.First,a.Plane.Pitch,a.Plane.Strips,a.Plane.Spill,a.Plane.Offset,a.Plane.Clock,a.Plane.Jitter,a.Plane.Least,a.Plane.Drift,a.Plane.Dead⟩:Plane),a.index⟩:placed))))],[]⟩
abbrev zBA (K:List PA->Prop) (a:placed) (X:St->Prop) (P:Int->Bool) (S:Int->Bool):Prop:=∀ ⦃zaW:Int⦄,P zaW=true->K (zJ5 (S zaW))->X (zBz a zaW)
section
variable {K:List PA->Prop}{a:placed}{zfU:Bool}{zaW:Int}{X2:St->Prop}{P2:Int->Bool}{S2:Int->Bool}{zfV:Int}{zfW:Bool}
def zlX (S2:Int->Bool) (a:placed) (zfV:Int) (zfW:Bool):Bool :=
  (cond zfW
 false
 (S2 (w64 (zfV+(1:Int)))))
def zlY (P2:Int->Bool) (a:placed) (zfV:Int) (zfW:Bool):Bool :=
  (cond zfW
 true
 (P2 (w64 (zfV+(1:Int)))))
theorem zpv (hX2:zBA K a X2 P2 S2) (hs:zlY P2 a zfV zfW=true) (hk:K (zJ5 (zlX S2 a zfV zfW))):z55c K [1,1,1,0,1,0,0,1,1,0,0,1,1] [X2] ⟨[(1,zp 1 0),(34,zS zaB 1 a.Plane.Dead),(35,zI (a.Plane.Dead.len:Int)),(36,zI zfV),(62,zB zfW)],[(1,.box 84 (zm (zbg (⟨(⟨(3:Int),a.Plane.View,a.Plane.Z,a.Plane.First,a.Plane.Pitch,a.Plane.Strips,a.Plane.Spill,a.Plane.Offset,a.Plane.Clock,a.Plane.Jitter,a.Plane.Least,a.Plane.Drift,a.Plane.Dead⟩:Plane),a.index⟩:placed))))],[]⟩:=zaI (by kernel_rfl) (zc hs hk (λ hs hk=>hk) (λ hs hk=>(hX2 hs hk)))
def zuK (a:placed) (S2:Int->Bool) (zaW:Int):Bool :=
  (cond (decide (zaW < (a.Plane.Dead.len : Int)))
 (cond (!(s45 (a.Plane.Dead.get zaW.toNat) (0:Int) (w64 (a.Plane.Strips - (1:Int)))))
 (zlX S2 a zaW true)
 (cond (decide (zaW > (0:Int)))
 (zlX S2 a zaW (decide ((a.Plane.Dead.get zaW.toNat)<=(a.Plane.Dead.get ((w64 (zaW - (1:Int))).toNat)))))
 (zlX S2 a zaW false)))
 (decide ((a.Plane.Dead.len:Int)<=(100:Int))))
def zuL (a:placed) (P2:Int->Bool) (zaW:Int):Bool :=
  (cond (decide (zaW < (a.Plane.Dead.len : Int)))
 (decide ((0<=zaW/\zaW < (a.Plane.Dead.len:Int))) &&
 (cond (!(s45 (a.Plane.Dead.get zaW.toNat) (0:Int) (w64 (a.Plane.Strips - (1:Int)))))
 (zlY P2 a zaW true)
 (cond (decide (zaW > (0:Int)))
 (decide ((0<=(w64 (zaW - (1:Int)))/\(w64 (zaW - (1:Int))) < (a.Plane.Dead.len:Int))) &&
 (zlY P2 a zaW (decide ((a.Plane.Dead.get zaW.toNat)<=(a.Plane.Dead.get ((w64 (zaW - (1:Int))).toNat))))))
 (zlY P2 a zaW false))))
 true)
def zuM (a:placed):Nat->Int->Bool:=lpO (λ _=>default) (zuK a)
def zuN (a:placed):Nat->Int->Bool:=lpO (λ _=>false) (zuL a)
def zuO (a:placed) (zaW:Int):Bool:=zuM a Fuel zaW
def zuP (a:placed) (zaW:Int):Bool:=zuN a Fuel zaW
theorem zDX (hs:zuP a zaW=true) (hk:K (zJ5 (zuO a zaW))):z55c K [1,1,1,0,1,0] [] (zBz a zaW) :=
  zl (λ X=>z55c K [1,1,1,0,1,0,0] [X]) (by kernel_rfl) λ X2 hX =>
  (show ∀ k, zBA K a X2 (zuN a k) (zuM a k) from zg4 _ _ (zuL a) (zuK a) (zBA K a X2)
 (by intro _ hs;exact absurd hs dqk)
 (by intro P2 S2 hX2 zaW hs hk;exact hX _ (zaI (by kernel_rfl) (zc hs hk (λ hs hk=>(zaS hs λ hc hs=>And.intro hc (zc hs hk (λ hs hk=>(zpv hX2 hs hk)) (λ hs hk=>(zc hs hk (λ hs hk=>(zaS hs λ hc hs=>And.intro hc (zpv hX2 hs hk))) (λ hs hk=>(zpv hX2 hs hk))))))) (λ hs hk=>hk))))) _ hs hk
def zlZ (a:placed):Bool :=
  (zuO a (0:Int))
def zl0 (a:placed):Bool :=
  (zuP a (0:Int))
theorem zDY (hs:zl0 a=true) (hk:K (zJ5 (zlZ a))):z55c K [1,1,1] [] ⟨[(1,zp 1 0)],[(1,.box 84 (zm (zbg (⟨(⟨(3:Int),a.Plane.View,a.Plane.Z,a.Plane.First,a.Plane.Pitch,a.Plane.Strips,a.Plane.Spill,a.Plane.Offset,a.Plane.Clock,a.Plane.Jitter,a.Plane.Least,a.Plane.Drift,a.Plane.Dead⟩:Plane),a.index⟩:placed))))],[]⟩:=zaI (by kernel_rfl) (zDX hs hk)
def zkn (a:placed) (zfU:Bool):Bool :=
  (cond zfU
 false
 (zlZ a))
def zko (a:placed) (zfU:Bool):Bool :=
  (cond zfU
 true
 (zl0 a))
theorem zpw (hs:zko a zfU=true) (hk:K (zJ5 (zkn a zfU))):z55c K [1,1,0,1] [] ⟨[(1,zp 1 0),(31,zB zfU)],[(1,.box 84 (zm (zbg (⟨(⟨(3:Int),a.Plane.View,a.Plane.Z,a.Plane.First,a.Plane.Pitch,a.Plane.Strips,a.Plane.Spill,a.Plane.Offset,a.Plane.Clock,a.Plane.Jitter,a.Plane.Least,a.Plane.Drift,a.Plane.Dead⟩:Plane),a.index⟩:placed))))],[]⟩:=zaI (by kernel_rfl) (zc hs hk (λ hs hk=>hk) (λ hs hk=>(zDY hs hk)))
def zN3 (a:placed):Bool :=
  (cond (!(s45 (3:Int) (1:Int) (3:Int)))
 (zkn a true)
 (cond (!(s75 (⟨(⟨(3:Int), a.Plane.View, a.Plane.Z, a.Plane.First, a.Plane.Pitch, a.Plane.Strips, a.Plane.Spill, a.Plane.Offset, a.Plane.Clock, a.Plane.Jitter, a.Plane.Least, a.Plane.Drift, a.Plane.Dead⟩ : Plane), a.index⟩ : placed)))
 (zkn a true)
 (zkn a (!(s74 (⟨(⟨(3:Int),a.Plane.View,a.Plane.Z,a.Plane.First,a.Plane.Pitch,a.Plane.Strips,a.Plane.Spill,a.Plane.Offset,a.Plane.Clock,a.Plane.Jitter,a.Plane.Least,a.Plane.Drift,a.Plane.Dead⟩:Plane),a.index⟩:placed))))))
def zN4 (a:placed):Bool :=
  (cond (!(s45 (3:Int) (1:Int) (3:Int)))
 (zko a true)
 (cond (!(s75 (⟨(⟨(3:Int), a.Plane.View, a.Plane.Z, a.Plane.First, a.Plane.Pitch, a.Plane.Strips, a.Plane.Spill, a.Plane.Offset, a.Plane.Clock, a.Plane.Jitter, a.Plane.Least, a.Plane.Drift, a.Plane.Dead⟩ : Plane), a.index⟩ : placed)))
 (zko a true)
 (zko a (!(s74 (⟨(⟨(3:Int),a.Plane.View,a.Plane.Z,a.Plane.First,a.Plane.Pitch,a.Plane.Strips,a.Plane.Spill,a.Plane.Offset,a.Plane.Clock,a.Plane.Jitter,a.Plane.Least,a.Plane.Drift,a.Plane.Dead⟩:Plane),a.index⟩:placed))))))
end
theorem zRZ (a:placed) (K:List PA->Prop) (hs:zN4 a=true) (hk:K (zJ5 (zN3 a))):vcFun Try.prog zQz zBy 55 [.agg [.int .i64 (3:Int),.int .i64 a.Plane.View,.int .i64 a.Plane.Z,.int .i64 a.Plane.First,.int .i64 a.Plane.Pitch,.int .i64 a.Plane.Strips,.int .i64 a.Plane.Spill,.int .i64 a.Plane.Offset.Low,.int .i64 a.Plane.Offset.High,.int .i64 a.Plane.Clock.Low,.int .i64 a.Plane.Clock.High,.int .i64 a.Plane.Jitter,.int .i64 a.Plane.Least,.sl a.Plane.Drift.len 3 (λ i=>zaz (a.Plane.Drift.get i)),.sl a.Plane.Dead.len 1 (λ i=>zaB (a.Plane.Dead.get i)),.int .i64 a.index]] K :=
  zaI (by kernel_rfl) (zc hs hk (λ hs hk=>(zpw hs hk)) (λ hs hk=>(And.intro (And.intro (zE zaz 3 a.Plane.Drift.get) (zE zaB 1 a.Plane.Dead.get)) (zc hs hk (λ hs hk=>(zpw hs hk)) (λ hs hk=>(And.intro (And.intro (zE zaz 3 a.Plane.Drift.get) (zE zaB 1 a.Plane.Dead.get)) (zpw hs hk)))))))
def s55 (a:placed):Bool:=match a.Plane.Kind == 1 with | true=>zNZ a | false=>match a.Plane.Kind == 2 with | true=>zN1 a | false=>match a.Plane.Kind == 3 with | true=>zN3 a | false=>false
def p55 (a:placed):Bool:=match a.Plane.Kind == 1 with | true=>zN0 a | false=>match a.Plane.Kind == 2 with | true=>zN2 a | false=>match a.Plane.Kind == 3 with | true=>zN4 a | false=>false
def zJk : List PA → COut
  | [.agg [.int .i64 zau,.int .i64 zav,.int .i64 zaC,.int .i64 zam,.int .i64 zan,.int .i64 zaf,.int .i64 zao,.int .i64 zab,.int .i64 zaa,.int .i64 zad,.int .i64 zac,.int .i64 zah,.int .i64 zaq,.sl zae zaD zaj,.sl zai zaH zat,.int .i64 zaU]]=>.det (IsE zaz 3 zaD zaj/\IsE zaB 1 zaH zat/\p55 (⟨(⟨zau,zav,zaC,zam,zan,zaf,zao,(⟨zab,zaa⟩:Span),(⟨zad,zac⟩:Span),zah,zaq,(⟨zae,zbn zaj⟩:(Sl Drift)),(⟨zai,zbh zat⟩:(Sl Int))⟩:Plane),zaU⟩:placed)=true) [.one (.bool (s55 (⟨(⟨zau,zav,zaC,zam,zan,zaf,zao,(⟨zab,zaa⟩:Span),(⟨zad,zac⟩:Span),zah,zaq,(⟨zae,zbn zaj⟩:(Sl Drift)),(⟨zai,zbh zat⟩:(Sl Int))⟩:Plane),zaU⟩:placed)))]
  | _=>.no
theorem zM8:zal Try.prog 55:=⟨_,rfl,rfl,by kernel_rfl⟩
theorem zR0:Ok Try.prog 55 zJk:=za5 zPM zM8 λ args K h=>by
  unfold zJk at h
  split at h
  · rename_i zau zav zaC zam zan zaf zao zab zaa zad zac zah zaq zae zaD zaj zai zaH zat zaU
    obtain⟨⟨⟨rfl,zaw,rfl⟩,⟨rfl,zax,rfl⟩,hs⟩,hk⟩:=h
    try rw[zbc zaw] at hs hk
    try rw[zaV zax] at hs hk
    by_cases h1:zau=1
    · subst h1;exact⟨λ _ _=>[],λ _=>false,zBs,zRV (⟨(⟨1,zav,zaC,zam,zan,zaf,zao,(⟨zab,zaa⟩:Span),(⟨zad,zac⟩:Span),zah,zaq,(⟨zae,zaw⟩:(Sl Drift)),(⟨zai,zax⟩:(Sl Int))⟩:Plane),zaU⟩:placed) K hs hk⟩
    by_cases h2:zau=2
    · subst h2;exact⟨λ _ _=>[],λ _=>false,zBv,zRX (⟨(⟨2,zav,zaC,zam,zan,zaf,zao,(⟨zab,zaa⟩:Span),(⟨zad,zac⟩:Span),zah,zaq,(⟨zae,zaw⟩:(Sl Drift)),(⟨zai,zax⟩:(Sl Int))⟩:Plane),zaU⟩:placed) K hs hk⟩
    by_cases h3:zau=3
    · subst h3;exact⟨λ _ _=>[],λ _=>false,zBy,zRZ (⟨(⟨3,zav,zaC,zam,zan,zaf,zao,(⟨zab,zaa⟩:Span),(⟨zad,zac⟩:Span),zah,zaq,(⟨zae,zaw⟩:(Sl Drift)),(⟨zai,zax⟩:(Sl Int))⟩:Plane),zaU⟩:placed) K hs hk⟩
    unfold p55 at hs
    rw[show (((⟨(⟨zau,zav,zaC,zam,zan,zaf,zao,(⟨zab,zaa⟩:Span),(⟨zad,zac⟩:Span),zah,zaq,(⟨zae,zaw⟩:(Sl Drift)),(⟨zai,zax⟩:(Sl Int))⟩:Plane),zaU⟩:placed):placed).Plane.Kind == 1)=false from dqU.2 h1,show (((⟨(⟨zau,zav,zaC,zam,zan,zaf,zao,(⟨zab,zaa⟩:Span),(⟨zad,zac⟩:Span),zah,zaq,(⟨zae,zaw⟩:(Sl Drift)),(⟨zai,zax⟩:(Sl Int))⟩:Plane),zaU⟩:placed):placed).Plane.Kind == 2)=false from dqU.2 h2,show (((⟨(⟨zau,zav,zaC,zam,zan,zaf,zao,(⟨zab,zaa⟩:Span),(⟨zad,zac⟩:Span),zah,zaq,(⟨zae,zaw⟩:(Sl Drift)),(⟨zai,zax⟩:(Sl Int))⟩:Plane),zaU⟩:placed):placed).Plane.Kind == 3)=false from dqU.2 h3] at hs
    cases hs
  · exact h.elim
abbrev T44:Tabs:=((Tabs.nil.addF 45 zqV).addF 55 zJk)
theorem zPN:TabsOk Try.prog T44:=((TabsOk.nil.addF zJ2).addF zR0)
abbrev G44:Ctrs:=csm T44 (λ _ _=>[]) (λ _=>false)
def zJl:Ann:=⟨41,[(0,zK [1] [1]),(1,zK [1,7,8,9] [1]),(2,zK [1,7,8,9,10] [1]),(3,zK [1,3,4,7,8,9] [1,4]),(4,zK [1,3,4,5,7,8,9] [1,4,5]),(5,zK [1,7,8,9,35] [1]),(6,zK [2] []),(7,zK [1,7,8,9] [1]),(8,zK [2] [])],
 [(2,zK [1,7,8,9] [1])],
 [(6,zK [1,7,8,9,35] [1])],
 [],[]⟩
abbrev R44:=Bool
abbrev e44 (r:R44):List PA:=[.one (.bool r)]
@[irreducible] def z44:=ptF Try.prog G44 zJl Try.f44
def zFq (zbp:(Sl Plane)) (zaJ:Int) (zcC:Int) (sv0:(Sl Plane)) (zlm:Nat->List PV) (zci:Nat->List PV):St:=⟨[(1,zp 1 0),(7,zP (.sl zbp.len 15 zlm)),(8,zI zaJ),(9,zI zcC)],[(1,.box 24 [.p (.sl sv0.len 15 zci)])],[]⟩
abbrev zJm (K:List PA->Prop) (X:St->Prop) (P:(Sl Plane)->Int->Int->(Sl Plane)->Bool) (S:(Sl Plane)->Int->Int->(Sl Plane)->Bool):Prop:=∀ ⦃zbp:(Sl Plane)⦄ ⦃zaJ:Int⦄ ⦃zcC:Int⦄ ⦃sv0:(Sl Plane)⦄ ⦃zlm:Nat->List PV⦄ ⦃zci:Nat->List PV⦄,P zbp zaJ zcC sv0=true->K (e44 (S zbp zaJ zcC sv0))->zlm=zg enc_34 zbp->zci=zg enc_34 sv0->X (zFq zbp zaJ zcC sv0 zlm zci)
section
variable {K:List PA->Prop}{s:Setup}{zbp:(Sl Plane)}{zaJ:Int}{zcC:Int}{sv0:(Sl Plane)}{zlm:Nat->List PV}{zci:Nat->List PV}{X0:St->Prop}{P0:(Sl Plane)->Int->Int->(Sl Plane)->Bool}{S0:(Sl Plane)->Int->Int->(Sl Plane)->Bool}{zeG:(Sl Plane)}{zd3:Int}{zta:Int}{ztl:Bool}{sv1:(Sl Plane)}{zFr:Nat->List PV}{zfN:Nat->List PV}
def znc (S0:(Sl Plane)->Int->Int->(Sl Plane)->Bool) (zeG:(Sl Plane)) (zd3:Int) (zta:Int) (ztl:Bool) (sv1:(Sl Plane)):Bool :=
  (cond ztl
 false
 (S0 zeG zd3 (w64 (zta+(1:Int))) sv1))
def znd (P0:(Sl Plane)->Int->Int->(Sl Plane)->Bool) (zeG:(Sl Plane)) (zd3:Int) (zta:Int) (ztl:Bool) (sv1:(Sl Plane)):Bool :=
  (cond ztl
 true
 (P0 zeG zd3 (w64 (zta+(1:Int))) sv1))
theorem ztm (hX0:zJm K X0 P0 S0) (hs:znd P0 zeG zd3 zta ztl sv1=true) (hk:K (e44 (znc S0 zeG zd3 zta ztl sv1))) (zM9:zFr=zg enc_34 zeG) (ziV:zfN=zg enc_34 sv1):z44 K [1,0,1,0,0,1,1,0,0,1,1,1] [X0] ⟨[(1,zp 1 0),(7,zP (.sl zeG.len 15 zFr)),(8,zI zd3),(9,zI zta),(35,zB ztl)],[(1,.box 24 [.p (.sl sv1.len 15 zfN)])],[]⟩:=by subst zM9;subst ziV;exact zaI (by kernel_rfl) (zc hs hk (λ hs hk=>hk) (λ hs hk=>(hX0 hs hk rfl rfl)))
def zk8 (S0:(Sl Plane)->Int->Int->(Sl Plane)->Bool) (zbp:(Sl Plane)) (zaJ:Int) (zcC:Int) (sv0:(Sl Plane)):Bool :=
  (cond (decide (zcC < zaJ))
 (cond (!(s55 (⟨(zbp.get zcC.toNat), zcC⟩ : placed)))
 (znc S0 zbp zaJ zcC true sv0)
 (cond (decide (zcC > (0:Int)))
 (znc S0 zbp zaJ zcC (decide ((zbp.get zcC.toNat).Z<=(sv0.get ((w64 (zcC - (1:Int))).toNat)).Z)) sv0)
 (znc S0 zbp zaJ zcC false sv0)))
 (s45 (sv0.len:Int) (1:Int) (16:Int)))
def zk9 (P0:(Sl Plane)->Int->Int->(Sl Plane)->Bool) (zbp:(Sl Plane)) (zaJ:Int) (zcC:Int) (sv0:(Sl Plane)):Bool :=
  (cond (decide (zcC < zaJ))
 (decide ((0<=zcC/\zcC < (zbp.len:Int))) &&
 (decide ((p55 (⟨(zbp.get zcC.toNat),zcC⟩:placed)=true)) &&
 (cond (!(s55 (⟨(zbp.get zcC.toNat), zcC⟩ : placed)))
 (znd P0 zbp zaJ zcC true sv0)
 (cond (decide (zcC > (0:Int)))
 (decide ((0<=(w64 (zcC - (1:Int)))/\(w64 (zcC - (1:Int))) < (sv0.len:Int))) &&
 (znd P0 zbp zaJ zcC (decide ((zbp.get zcC.toNat).Z<=(sv0.get ((w64 (zcC - (1:Int))).toNat)).Z)) sv0))
 (znd P0 zbp zaJ zcC false sv0)))))
 true)
def zjA:Nat->(Sl Plane)->Int->Int->(Sl Plane)->Bool:=lpO (λ _ _ _ _=>default) (zk8)
def zjB:Nat->(Sl Plane)->Int->Int->(Sl Plane)->Bool:=lpO (λ _ _ _ _=>false) (zk9)
def zBB (zbp:(Sl Plane)) (zaJ:Int) (zcC:Int) (sv0:(Sl Plane)):Bool:=zjA Fuel zbp zaJ zcC sv0
def zBC (zbp:(Sl Plane)) (zaJ:Int) (zcC:Int) (sv0:(Sl Plane)):Bool:=zjB Fuel zbp zaJ zcC sv0
theorem zJn (hs:zBC zbp zaJ zcC sv0=true) (hk:K (e44 (zBB zbp zaJ zcC sv0))) (zBD:zlm=zg enc_34 zbp) (zeQ:zci=zg enc_34 sv0):z44 K [1,0,1,0] [] (zFq zbp zaJ zcC sv0 zlm zci) :=
  zl (λ X=>z44 K [1,0,1,0,0] [X]) (by kernel_rfl) λ X0 hX =>
  (show ∀ k, zJm K X0 (zjB k) (zjA k) from zg4 _ _ (zk9) (zk8) (zJm K X0)
 (by intro _ _ _ _ _ _ hs;exact absurd hs dqk)
 (by intro P0 S0 hX0 zbp zaJ zcC sv0 zlm zci hs hk zBD zeQ;subst zBD;subst zeQ;exact hX _ (zaI (by kernel_rfl) (zc hs hk (λ hs hk=>(zaS hs λ hc hs=>And.intro hc (zaS hs λ hc hs=>And.intro (And.intro (zE zaz 3 ((zbp.get zcC.toNat).Drift.get)) (And.intro (zE zaB 1 ((zbp.get zcC.toNat).Dead.get)) hc)) (zc hs hk (λ hs hk=>(ztm hX0 hs hk rfl rfl)) (λ hs hk=>(zc hs hk (λ hs hk=>(zaS hs λ hc hs=>And.intro hc (ztm hX0 hs hk rfl rfl))) (λ hs hk=>(ztm hX0 hs hk rfl rfl)))))))) (λ hs hk=>hk))))) _ hs hk zBD zeQ
def s44 (s:Setup):Bool :=
  (zBB s.Planes (s.Planes.len:Int) (0:Int) s.Planes)
def p44 (s:Setup):Bool :=
  (zBC s.Planes (s.Planes.len:Int) (0:Int) s.Planes)
end
theorem q44 (s:Setup) (K:List PA->Prop) (hs:p44 s=true) (hk:K (e44 (s44 s))):vcFun Try.prog G44 zJl 44 [.agg (enc_24 s)] K :=
  zaI (by kernel_rfl) (zJn hs hk rfl rfl)
def zJo : List PA → COut
  | [.agg [.sl zar zba zas]]=>.det (IsE enc_34 15 zba zas/\p44 (⟨(⟨zar,zbA zas⟩:(Sl Plane))⟩:Setup)=true) [.one (.bool (s44 (⟨(⟨zar,zbA zas⟩:(Sl Plane))⟩:Setup)))]
  | _=>.no
theorem zNa:zal Try.prog 44:=⟨_,rfl,rfl,by kernel_rfl⟩
theorem zR1:Ok Try.prog 44 zJo:=za5 zPN zNa λ args K h=>by
  unfold zJo at h
  split at h
  · rename_i zar zba zas
    obtain⟨⟨⟨rfl,zaM,rfl⟩,hs⟩,hk⟩:=h
    try rw[zbT zaM] at hs
    try rw[zbT zaM] at hk
    exact⟨(λ _ _=>[]),(λ _=>false),zJl,q44 (⟨(⟨zar,zaM⟩:(Sl Plane))⟩:Setup) K hs hk⟩
  · exact h.elim
abbrev T26:Tabs:=((Tabs.nil.addF 27 zDN).addF 44 zJo)
theorem zPO:TabsOk Try.prog T26:=((TabsOk.nil.addF zQw).addF zR1)
abbrev G26:Ctrs:=csm T26 (λ _ _=>[]) (λ _=>false)
def zNb:Ann:=⟨17,[(0,zK [2,3] [2,3]),(1,zK [2,3,9] [2,3]),(2,zK [4] []),(3,zK [6] []),(4,zK [4] [])],
 [],
 [],
 [],[]⟩
abbrev R26:=Bool
abbrev e26 (r:R26):List PA:=[.one (.bool r)]
section
variable {K:List PA->Prop}{s:Setup}{h:Hit}
def s26 (s:Setup) (h:Hit):Bool :=
  (cond (!(s44 s))
 false
 ((s27 s h).2))
def p26 (s:Setup) (h:Hit):Bool :=
  (decide ((p44 s=true)) &&
 (cond (!(s44 s))
 true
 (decide ((p27 s h=true)) &&
 true)))
end
theorem q26 (s:Setup) (h:Hit) (K:List PA->Prop) (hs:p26 s h=true) (hk:K (e26 (s26 s h))):vcFun Try.prog G26 zNb 26 [.agg (enc_24 s),.agg (ze8 h)] K :=
  zaI (by kernel_rfl) (zaS hs λ hc hs=>And.intro (And.intro (zE enc_34 15 s.Planes.get) hc) (zc hs hk (λ hs hk=>hk) (λ hs hk=>(zaS hs λ hc hs=>And.intro (And.intro (zE enc_34 15 s.Planes.get) hc) hk))))
def zDZ : List PA → COut
  | [.agg [.sl zar zba zas],.agg [.int .i64 zaQ,.int .i64 zaA,.int .i64 zbd,.int .i64 zaR,.int .i64 zaK,.int .i64 zbe]]=>.det (IsE enc_34 15 zba zas/\p26 (⟨(⟨zar,zbA zas⟩:(Sl Plane))⟩:Setup) (⟨zaQ,zaA,zbd,zaR,zaK,zbe⟩:Hit)=true) [.one (.bool (s26 (⟨(⟨zar,zbA zas⟩:(Sl Plane))⟩:Setup) (⟨zaQ,zaA,zbd,zaR,zaK,zbe⟩:Hit)))]
  | _=>.no
theorem zNc:zal Try.prog 26:=⟨_,rfl,rfl,by kernel_rfl⟩
theorem zQA:Ok Try.prog 26 zDZ:=za5 zPO zNc λ args K h=>by
  unfold zDZ at h
  split at h
  · rename_i zar zba zas zaQ zaA zbd zaR zaK zbe
    obtain⟨⟨⟨rfl,zaM,rfl⟩,hs⟩,hk⟩:=h
    try rw[zbT zaM] at hs
    try rw[zbT zaM] at hk
    exact⟨(λ _ _=>[]),(λ _=>false),zNb,q26 (⟨(⟨zar,zaM⟩:(Sl Plane))⟩:Setup) (⟨zaQ,zaA,zbd,zaR,zaK,zbe⟩:Hit) K hs hk⟩
  · exact h.elim
abbrev T11:Tabs:=(Tabs.nil.addF 26 zDZ)
theorem zPP:TabsOk Try.prog T11:=(TabsOk.nil.addF zQA)
abbrev G11:Ctrs:=csm T11 (λ _ _=>[]) (λ _=>false)
def zNd:Ann:=⟨9,[(0,zK [2,3] [2,3]),(1,zK [8] []),(2,zK [4] []),(3,zK [4] [])],
 [],
 [],
 [],[]⟩
abbrev R11:=Int
abbrev e11 (r:R11):List PA:=[.one (.int .i64 r)]
section
variable {K:List PA->Prop}{s:Setup}{h:Hit}
def s11 (s:Setup) (h:Hit):Int :=
  (cond (!(s26 s h))
 (2:Int)
 (0:Int))
def p11 (s:Setup) (h:Hit):Bool :=
  (decide ((p26 s h=true)) &&
 true)
end
theorem q11 (s:Setup) (h:Hit) (K:List PA->Prop) (hs:p11 s h=true) (hk:K (e11 (s11 s h))):vcFun Try.prog G11 zNd 11 [.agg (enc_24 s),.agg (ze8 h)] K :=
  zaI (by kernel_rfl) (zaS hs λ hc hs=>And.intro (And.intro (zE enc_34 15 s.Planes.get) hc) (zt hk (λ hk=>hk) (λ hk=>hk)))
def zJp : List PA → COut
  | [.agg [.sl zar zba zas],.agg [.int .i64 zaQ,.int .i64 zaA,.int .i64 zbd,.int .i64 zaR,.int .i64 zaK,.int .i64 zbe]]=>.det (IsE enc_34 15 zba zas/\p11 (⟨(⟨zar,zbA zas⟩:(Sl Plane))⟩:Setup) (⟨zaQ,zaA,zbd,zaR,zaK,zbe⟩:Hit)=true) [.one (.int .i64 (s11 (⟨(⟨zar,zbA zas⟩:(Sl Plane))⟩:Setup) (⟨zaQ,zaA,zbd,zaR,zaK,zbe⟩:Hit)))]
  | _=>.no
theorem call11:zal Try.prog 11:=⟨_,rfl,rfl,by kernel_rfl⟩
theorem zR2:Ok Try.prog 11 zJp:=za5 zPP call11 λ args K h=>by
  unfold zJp at h
  split at h
  · rename_i zar zba zas zaQ zaA zbd zaR zaK zbe
    obtain⟨⟨⟨rfl,zaM,rfl⟩,hs⟩,hk⟩:=h
    try rw[zbT zaM] at hs
    try rw[zbT zaM] at hk
    exact⟨(λ _ _=>[]),(λ _=>false),zNd,q11 (⟨(⟨zar,zaM⟩:(Sl Plane))⟩:Setup) (⟨zaQ,zaA,zbd,zaR,zaK,zbe⟩:Hit) K hs hk⟩
  · exact h.elim
abbrev T46:Tabs:=Tabs.nil
theorem zPQ:TabsOk Try.prog T46:=TabsOk.nil
abbrev G46:Ctrs:=csm T46 (λ _ _=>[]) (λ _=>false)
def zNe:Ann:=⟨23,[(0,zK [1,2,3,6] [3,6]),(1,zK [6] [6])],
 [],
 [],
 [],[]⟩
abbrev R46:=Gate
abbrev e46 (r:R46):List PA:=[.agg [.int .i64 r.Z,.int .i64 r.Low,.int .i64 r.High]]
section
variable {K:List PA->Prop}{p:placed}{low:Int}{high:Int}
def s46 (p:placed) (low:Int) (high:Int):Gate :=
  (⟨p.Plane.Z,(w64 (low+p.Plane.Offset.Low)),(w64 (high+p.Plane.Offset.High))⟩:Gate)
end
theorem q46 (p:placed) (low:Int) (high:Int) (K:List PA->Prop) (hk:K (e46 (s46 p low high))):vcFun Try.prog G46 zNe 46 [.agg (zbg p),.one (.int .i64 low),.one (.int .i64 high)] K :=
  zaI (by kernel_rfl) hk
def zJq : List PA → COut
  | [.agg [.int .i64 zau,.int .i64 zav,.int .i64 zaC,.int .i64 zam,.int .i64 zan,.int .i64 zaf,.int .i64 zao,.int .i64 zab,.int .i64 zaa,.int .i64 zad,.int .i64 zac,.int .i64 zah,.int .i64 zaq,.sl zae zaD zaj,.sl zai zaH zat,.int .i64 zaU],.one (.int .i64 a1),.one (.int .i64 a2)]=>.det (IsE zaz 3 zaD zaj/\IsE zaB 1 zaH zat) [.agg [.int .i64 ((s46 (⟨(⟨zau,zav,zaC,zam,zan,zaf,zao,(⟨zab,zaa⟩:Span),(⟨zad,zac⟩:Span),zah,zaq,(⟨zae,zbn zaj⟩:(Sl Drift)),(⟨zai,zbh zat⟩:(Sl Int))⟩:Plane),zaU⟩:placed) a1 a2).Z),.int .i64 ((s46 (⟨(⟨zau,zav,zaC,zam,zan,zaf,zao,(⟨zab,zaa⟩:Span),(⟨zad,zac⟩:Span),zah,zaq,(⟨zae,zbn zaj⟩:(Sl Drift)),(⟨zai,zbh zat⟩:(Sl Int))⟩:Plane),zaU⟩:placed) a1 a2).Low),.int .i64 ((s46 (⟨(⟨zau,zav,zaC,zam,zan,zaf,zao,(⟨zab,zaa⟩:Span),(⟨zad,zac⟩:Span),zah,zaq,(⟨zae,zbn zaj⟩:(Sl Drift)),(⟨zai,zbh zat⟩:(Sl Int))⟩:Plane),zaU⟩:placed) a1 a2).High)]]
  | _=>.no
theorem zNf:zal Try.prog 46:=⟨_,rfl,rfl,by kernel_rfl⟩
theorem zR3:Ok Try.prog 46 zJq:=za5 zPQ zNf λ args K h=>by
  unfold zJq at h
  split at h
  · rename_i zau zav zaC zam zan zaf zao zab zaa zad zac zah zaq zae zaD zaj zai zaH zat zaU a1 a2
    obtain⟨⟨⟨rfl,zaw,rfl⟩,⟨rfl,zax,rfl⟩⟩,hk⟩:=h
    try rw[zbc zaw] at hk
    try rw[zaV zax] at hk
    exact⟨(λ _ _=>[]),(λ _=>false),zNe,q46 (⟨(⟨zau,zav,zaC,zam,zan,zaf,zao,(⟨zab,zaa⟩:Span),(⟨zad,zac⟩:Span),zah,zaq,(⟨zae,zaw⟩:(Sl Drift)),(⟨zai,zax⟩:(Sl Int))⟩:Plane),zaU⟩:placed) a1 a2 K hk⟩
  · exact h.elim
abbrev T56:Tabs:=Tabs.nil
theorem zPR:TabsOk Try.prog T56:=TabsOk.nil
abbrev G56:Ctrs:=csm T56 (λ _ _=>[]) (λ _=>false)
def zJr:Ann:=⟨4,[(0,zK [1] [1]),(1,zK [2] [])],
 [],
 [],
 [],[]⟩
theorem zJs (s : (Sl Drift)) (K : List PA → Prop) :
  vcFun Try.prog G56 zJr 56 [.one (.sl s.len 3 (λ i=>zaz (s.get i)))] K =
  (K [.one (.fn 76 [] [.fp (zEw s) 0])]):=by kernel_rfl
theorem q56 (s:(Sl Drift)) (K:List PA->Prop) (hk:K [.one (.fn 76 [] [.fp [.sl s.len 3 (λ i=>zaz (s.get i))] 0])]):vcFun Try.prog G56 zJr 56 [.one (.sl s.len 3 (λ i=>zaz (s.get i)))] K:=zaI (zJs s K) hk
def zJt : List PA → COut
  | [.one (.sl zdd zfO zde)]=>.det (IsE zaz 3 zfO zde) [.one (.fn 76 [] [.fp [.sl ((⟨zdd,zbn zde⟩:(Sl Drift)).len) 3 (λ i=>zaz ((⟨zdd,zbn zde⟩:(Sl Drift)).get i))] 0])]
  | _=>.no
theorem zNg:zal Try.prog 56:=⟨_,rfl,rfl,by kernel_rfl⟩
theorem zR4:Ok Try.prog 56 zJt:=za5 zPR zNg λ args K h=>by
  unfold zJt at h
  split at h
  · rename_i zdd zfO zde
    obtain⟨⟨rfl,zd7,rfl⟩,hk⟩:=h
    try rw[zbc zd7] at hk
    exact⟨λ _ _=>[],λ _=>false,zJr,q56 (⟨zdd,zd7⟩:(Sl Drift)) K hk⟩
  · exact h.elim
abbrev T76:Tabs:=Tabs.nil
theorem zPS:TabsOk Try.prog T76:=TabsOk.nil
abbrev G76:Ctrs:=csm T76 (λ _ _=>[]) (λ _=>false)
def zqW:Ann:=⟨19,[(0,zK [0,1,3] []),(1,zK [0,1,3,8] []),(2,zK [0,1,3] []),(3,zK [0,1,3,18] [])],
 [(1,zK [0,1,3] [])],
 [],
 [],[3]⟩
def zne (l:Nat) (a:(Sl Drift)) (iv0:Int):St:=⟨[(0,.one (.c (.p (.yl l)))),(1,.one (.c (.p (.fp [.sl a.len 3 (λ i=>zaz (a.get i))] 0)))),(3,.one (.c (.p (.int .i64 iv0))))],[],[]⟩
def znf (l:Nat) (ys:List (List PA)) (a:(Sl Drift)) (iv0:Int):Prop:=vcY Try.prog G76 zqW l (cdF Try.f76 [1,0]) (zlb 0 zre) ys false (zne l a iv0)
theorem zJu (l : Nat) (a : (Sl Drift)) (ys : List (List PA)) :
  vcIter Try.prog G76 zqW 76 l [.one (.fp [.sl a.len 3 (λ i=>zaz (a.get i))] 0)] ys =
  (znf l ys a (w64 ((a.len:Int) - (1:Int)))):=by kernel_rfl
def zqX (l:Nat) (X0:List (List PA)->Bool->St->Prop) (ys:List (List PA)) (a:(Sl Drift)) (iv0:Int):Prop :=
  (zcJ (decide (iv0 >= (0:Int)))
 (((0<=iv0/\iv0 < (a.len:Int))) /\
 (l=l/\∃ r1,ys=[.one (.int .i64 iv0),.agg [.int .i64 ((a.get iv0.toNat).Time),.int .i64 ((a.get iv0.toNat).Radius.Low),.int .i64 ((a.get iv0.toNat).Radius.High)]] :: r1 /\
 (X0 r1 false (zne l a (w64 (iv0 - (1:Int)))))/\True))
 (ys=[]))
theorem ztn (l : Nat) (X0 : List (List PA) → Bool → St → Prop) (ys : List (List PA)) (a : (Sl Drift)) (iv0 : Int) :
  vcY Try.prog G76 zqW l (cd (cdF Try.f76 [1,0]) [0]) (zvc Try.prog zqW 1 X0 (zlb 0 zre)) ys false (zne l a iv0) =
  zqX l X0 ys a iv0:=by kernel_rfl
theorem zBE (l : Nat) (ys : List (List PA)) (a : (Sl Drift)) (iv0 : Int)
  (h:∀ X0:List (List PA)->Bool->St->Prop,(∀ (ys:List (List PA)) (iv0:Int),zqX l X0 ys a iv0->X0 ys false (zne l a iv0))->X0 ys false (zne l a iv0)) :
  znf l ys a iv0:=by
  have e:znf l ys a iv0=(∀ X:List (List PA)->Bool->St->Prop,(∀ ys q s,vcY Try.prog G76 zqW l (cd (cdF Try.f76 [1,0]) [0]) (zvc Try.prog zqW 1 X (zlb 0 zre)) ys q s->X ys q s)->X ys false (zne l a iv0)):=by kernel_rfl
  refine zaI e ?_
  intro X hX
  refine h X ?_
  intro ys iv0 hs
  refine hX _ _ _ ?_
  have e2:=ztn l X ys a iv0
  rw[e2]
  exact hs
attribute [irreducible] znf
def zto (a:(Sl Drift)) (S0:Int->List (Int×Drift)) (iv0:Int):List (Int×Drift) :=
  (cond (decide (iv0 >= (0:Int)))
 ((iv0,(a.get iv0.toNat)) :: (S0 (w64 (iv0 - (1:Int)))))
 [])
def ztp (a:(Sl Drift)) (P0:Int->Bool) (iv0:Int):Bool :=
  (cond (decide (iv0 >= (0:Int)))
 (decide ((0<=iv0/\iv0 < (a.len:Int))) &&
 (P0 (w64 (iv0 - (1:Int)))))
 true)
def zng (a : (Sl Drift)) : Nat → Int → List (Int × Drift)
  | 0=>λ _=>[]
  | k+1=>zto a (zng a k)
def znh (a : (Sl Drift)) : Nat → Int → Bool
  | 0=>λ _=>false
  | k+1=>ztp a (znh a k)
def zBF (a:(Sl Drift)) (iv0:Int):List (Int×Drift):=zng a Fuel iv0
def zBG (a:(Sl Drift)) (iv0:Int):Bool:=znh a Fuel iv0
theorem zJv (l:Nat) (a:(Sl Drift)) (ys:List (List PA)) (iv0:Int) (hs:zBG a iv0=true) (hk:ys=(zBF a iv0).map (λ y=>[.one (.int .i64 y.1),.agg (zaz y.2)])):znf l ys a iv0:=by
  refine zBE l ys a iv0 ?_
  intro X0 hstep
  have key:∀ (k:Nat) (ys:List (List PA)) (iv0:Int),znh a k iv0=true->ys=(zng a k iv0).map (λ y=>[.one (.int .i64 y.1),.agg (zaz y.2)])->X0 ys false (zne l a iv0):=by
    intro k
    induction k with
    | zero=>intro ys iv0 hs;exact absurd hs dqk
    | succ k ih =>
      intro ys iv0 hs hk
      refine hstep ys iv0 ?_
      have hs:ztp a (znh a k) iv0=true:=hs
      have hk:ys=(zto a (zng a k) iv0).map (λ y=>[.one (.int .i64 y.1),.agg (zaz y.2)]):=hk
      unfold ztp at hs
      unfold zto at hk
      generalize zng a k=S0 at hk ih
      generalize znh a k=P0 at hs ih
      have hX0:=ih
      exact (zua hs hk
 (λ hs hk=>(zaS hs λ hc hs=>⟨hc,(itY hk rfl (λ _ hk=>(hX0 _ (w64 (iv0 - (1:Int))) hs hk)))⟩))
 (fun hs hk=>hk))
  exact key _ _ iv0 hs hk
def s76 (a:(Sl Drift)):List (Int×Drift) :=
  (zBF a (w64 ((a.len:Int) - (1:Int))))
def p76 (a:(Sl Drift)):Bool :=
  (zBG a (w64 ((a.len:Int) - (1:Int))))
theorem q76 (l:Nat) (a:(Sl Drift)) (ys:List (List PA)) (hs:p76 a=true) (hk:ys=(s76 a).map (λ y=>[.one (.int .i64 y.1),.agg (zaz y.2)])):vcIter Try.prog G76 zqW 76 l [.one (.fp [.sl a.len 3 (λ i=>zaz (a.get i))] 0)] ys:=by
  refine zaI (zJu l a ys) ?_
  unfold p76 at hs
  unfold s76 at hk
  exact (zJv l a _ (w64 ((a.len:Int) - (1:Int))) hs hk)
def zPT : List PA → Option (Prop × List (List PA))
  | [.one (.fp [.sl a_n a_s a_g] 0)]=>some (IsE zaz 3 a_s a_g/\p76 (⟨a_n,zbn a_g⟩:(Sl Drift))=true,(s76 (⟨a_n,zbn a_g⟩:(Sl Drift))).map λ y=>[.one (.int .i64 y.1),.agg (zaz y.2)])
  | _=>none
theorem zNh:zal Try.prog 76:=⟨_,rfl,rfl,by kernel_rfl⟩
theorem zR5:zCI Try.prog 76 zPT:=zEv zPS zNh λ l caps safe ys h hs=>by
  unfold zPT at h
  split at h
  · rename_i a_n a_s a_g
    cases h
    obtain⟨⟨rfl,a_f,rfl⟩,hs⟩:=hs
    try rw[zbc a_f] at hs
    try rw[zbc a_f]
    exact⟨λ _ _=>[],λ _=>false,zqW,q76 l (⟨a_n,a_f⟩:(Sl Drift)) _ hs rfl⟩
  · cases h
abbrev T47:Tabs:=((Tabs.nil.addF 56 zJt).addI 76 zPT)
theorem zPU:TabsOk Try.prog T47:=((TabsOk.nil.addF zR4).addI zR5)
abbrev G47:Ctrs:=csm T47 (λ _ _=>[]) (λ _=>false)
def zBH:Ann:=⟨55,[(0,zK [2,3] [2,3]),(1,zK [2,3,6,7] [2,3,7]),(2,zK [2,3,6,7,18,19,20] [2,3,7]),(3,zK [2,3,6,7,18,19,20,21] [2,3,7]),(4,zK [2,3,6,7,9,18,19,20] [2,3,7,9]),(5,zK [2,3,6,7,9,18,19,20,31] [2,3,7,9]),(6,zK [2,3,6,7,18,19,20] [2,3,7]),(7,zK [2,3,6,7,18,19,20] [2,3,7]),(8,zK [2,3,6,7,39] [2,3,7]),(9,zK [2,3,6,7,11,39] [2,3,7,11]),(10,zK [2,3,6,7,11,39,49] [2,3,7,11]),(11,zK [2,3,6,7,39] [2,3,7]),(12,zK [4,5] [])],
 [(3,zK [2,3,6,7,18,19,20] [2,3,7]),(9,zK [2,3,6,7,39] [2,3,7])],
 [(8,zK [2,3,6,7] [2,3,7])],
 [],[]⟩
abbrev R47:=(Int×Int)
abbrev e47 (r:R47):List PA:=[.one (.int .i64 r.1),.one (.int .i64 r.2)]
@[irreducible] def z47:=ptF Try.prog G47 zBH Try.f47
@[irreducible] def x47:=exF Try.prog G47 zBH Try.f47
@[irreducible] def y47:=rnF Try.prog G47 zBH Try.f47
def zFs (p:placed) (zbM:Int) (zej:Int) (zeF:Int):St:=⟨[(2,zp 2 0),(3,zp 3 0),(6,zI zej),(7,zp 7 0),(18,zS zaz 3 p.Plane.Drift),(19,zI (p.Plane.Drift.len:Int)),(20,zI zeF)],[(2,.box 84 (zm (zbg p))),(3,.box 3 [zi zbM]),(7,.box 3 [zi (w64 (p.Plane.Pitch.tdiv (2:Int)))])],[]⟩
abbrev zNi (K:List PA->Prop) (p:placed) (zbM:Int) (X:St->Prop) (P:Int->Int->Bool) (S:Int->Int->(Int×Int)):Prop:=∀ ⦃zej:Int⦄ ⦃zeF:Int⦄,P zej zeF=true->K (e47 (S zej zeF))->X (zFs p zbM zej zeF)
def zBI (p:placed) (zbM:Int) (zfl:Int) (zdH:Int):St:=⟨[(2,zp 2 0),(3,zp 3 0),(6,zI zfl),(7,zp 7 0),(39,zP (.fn 76 [] [.fp [.sl p.Plane.Drift.len 3 (λ i=>zaz (p.Plane.Drift.get i))] 0]))],[(2,.box 84 (zm (zbg p))),(3,.box 3 [zi zbM]),(7,.box 3 [zi zdH])],[]⟩
abbrev zNj (K:List PA->Prop) (p:placed) (zbM:Int) (X:St->Prop) (P:Int->Int->Bool) (S:Int->Int->(Int×Int)):Prop:=∀ ⦃zfl:Int⦄ ⦃zdH:Int⦄,P zfl zdH=true->K (e47 (S zfl zdH))->X (zBI p zbM zfl zdH)
section
variable {K:List PA->Prop}{p:placed}{zbM:Int}{zej:Int}{zeF:Int}{X0:St->Prop}{P0:Int->Int->Bool}{S0:Int->Int->(Int×Int)}{ztq:Int}{zfl:Int}{zdH:Int}
def zJw (p:placed) (zbM:Int) (zfl:Int) (zdH:Int):(Int×Int) :=
  (zfl,zdH)
def zJx (p:placed) (zbM:Int) (zfl:Int) (zdH:Int):Bool :=
  true
def zBJ (p:placed) (zbM:Int) (y2:(Int×Drift)) (S2:Int->Int->(Int×Int)) (zfl:Int) (zdH:Int):(Int×Int) :=
  (cond (decide (y2.2.Time >= (w64 (zbM + p.Plane.Jitter))))
 (S2 zfl y2.2.Radius.High)
 (S2 zfl zdH))
def zBK (p:placed) (zbM:Int) (y2:(Int×Drift)) (P2:Int->Int->Bool) (zfl:Int) (zdH:Int):Bool :=
  (cond (decide (y2.2.Time >= (w64 (zbM + p.Plane.Jitter))))
 (P2 zfl y2.2.Radius.High)
 (P2 zfl zdH))
def zBL (p:placed) (zbM:Int):List (Int×Drift)->Int->Int->(Int×Int):=lpR (zJw p zbM) (zBJ p zbM)
def zBM (p:placed) (zbM:Int):List (Int×Drift)->Int->Int->Bool:=lpR (zJx p zbM) (zBK p zbM)
def zBN (p:placed) (zbM:Int) (zfl:Int) (zdH:Int):(Int×Int):=zBL p zbM (s76 p.Plane.Drift) zfl zdH
def zBO (p:placed) (zbM:Int) (zfl:Int) (zdH:Int):Bool:=decide ((p76 p.Plane.Drift=true)) && zBM p zbM (s76 p.Plane.Drift) zfl zdH
theorem zJy (hs:zBO p zbM zfl zdH=true) (hk:K (e47 (zBN p zbM zfl zdH))):z47 K [1,1,1,0,1,0] [] (zBI p zbM zfl zdH) :=
  zaS hs λ hc hs=>zr (enc:=(λ y:(Int×Drift)=>[.one (.int .i64 y.1),.agg (zaz y.2)])) (ys:=s76 p.Plane.Drift) (g:=(zBI p zbM zfl zdH)) (x47 K [1,1,1,0,1,0] []) (y47 K [1,1,1,0,1,0] []) (by kernel_rfl) (And.intro (zE zaz 3 p.Plane.Drift.get) hc) λ X2 hE hR =>
  (show ∀ l : List (Int × Drift), zNj K p zbM (X2 (l.map (λ y : (Int × Drift) => [.one (.int .i64 y.1), .agg (zaz y.2)]))) (zBM p zbM l) (zBL p zbM l) from zri (X := X2) (enc := (λ y : (Int × Drift) => [.one (.int .i64 y.1), .agg (zaz y.2)])) _ _ (zBK p zbM) (zBJ p zbM) (λ Z P S => zNj K p zbM Z P S)
 (by intro zfl zdH hs hk;exact hE _ (zaI (by kernel_rfl) hk))
 (by intro y2 rest P2 S2 hX2 zfl zdH hs hk;exact hR _ rest _ (zaI (by kernel_rfl) (zc hs hk (λ hs hk=>(hX2 hs hk)) (λ hs hk=>(hX2 hs hk)))))) _ hs hk
def zBP (p:placed) (zbM:Int) (ztq:Int):(Int×Int) :=
  (zBN p zbM ztq (w64 (p.Plane.Pitch.tdiv (2:Int))))
def zBQ (p:placed) (zbM:Int) (ztq:Int):Bool :=
  (zBO p zbM ztq (w64 (p.Plane.Pitch.tdiv (2:Int))))
theorem zJz (hs:zBQ p zbM ztq=true) (hk:K (e47 (zBP p zbM ztq))):z47 K [1,1,1] [] ⟨[(2,zp 2 0),(3,zp 3 0),(6,zI ztq),(7,zp 7 0)],[(2,.box 84 (zm (zbg p))),(3,.box 3 [zi zbM]),(7,.box 3 [zi (w64 (p.Plane.Pitch.tdiv (2:Int)))])],[]⟩:=zaI (by kernel_rfl) (And.intro (zE zaz 3 p.Plane.Drift.get) (zJy hs hk))
def zBR (p:placed) (zbM:Int) (S0:Int->Int->(Int×Int)) (zej:Int) (zeF:Int):(Int×Int) :=
  (cond (decide (zeF < (p.Plane.Drift.len : Int)))
 (cond (decide ((p.Plane.Drift.get zeF.toNat).Time <= (w64 (zbM - p.Plane.Jitter))))
 (S0 ((p.Plane.Drift.get zeF.toNat).Radius.Low) (w64 (zeF+(1:Int))))
 (S0 zej (w64 (zeF+(1:Int)))))
 (zBP p zbM zej))
def zBS (p:placed) (zbM:Int) (P0:Int->Int->Bool) (zej:Int) (zeF:Int):Bool :=
  (cond (decide (zeF < (p.Plane.Drift.len : Int)))
 (decide ((0<=zeF/\zeF < (p.Plane.Drift.len:Int))) &&
 (cond (decide ((p.Plane.Drift.get zeF.toNat).Time <= (w64 (zbM - p.Plane.Jitter))))
 (P0 ((p.Plane.Drift.get zeF.toNat).Radius.Low) (w64 (zeF+(1:Int))))
 (P0 zej (w64 (zeF+(1:Int))))))
 (zBQ p zbM zej))
def zBT (p:placed) (zbM:Int):Nat->Int->Int->(Int×Int):=lpO (λ _ _=>default) (zBR p zbM)
def zBU (p:placed) (zbM:Int):Nat->Int->Int->Bool:=lpO (λ _ _=>false) (zBS p zbM)
def zBV (p:placed) (zbM:Int) (zej:Int) (zeF:Int):(Int×Int):=zBT p zbM Fuel zej zeF
def zBW (p:placed) (zbM:Int) (zej:Int) (zeF:Int):Bool:=zBU p zbM Fuel zej zeF
theorem zJA (hs:zBW p zbM zej zeF=true) (hk:K (e47 (zBV p zbM zej zeF))):z47 K [1,1,0,1,0] [] (zFs p zbM zej zeF) :=
  zl (λ X=>z47 K [1,1,0,1,0,0] [X]) (by kernel_rfl) λ X0 hX =>
  (show ∀ k, zNi K p zbM X0 (zBU p zbM k) (zBT p zbM k) from zg4 _ _ (zBS p zbM) (zBR p zbM) (zNi K p zbM X0)
 (by intro _ _ hs;exact absurd hs dqk)
 (by intro P0 S0 hX0 zej zeF hs hk;exact hX _ (zaI (by kernel_rfl) (zc hs hk (λ hs hk=>(zaS hs λ hc hs=>And.intro hc (zc hs hk (λ hs hk=>(hX0 hs hk)) (λ hs hk=>(hX0 hs hk))))) (λ hs hk=>(zJz hs hk)))))) _ hs hk
def s47 (p:placed) (zbM:Int):(Int×Int) :=
  (zBV p zbM (0:Int) (0:Int))
def p47 (p:placed) (zbM:Int):Bool :=
  (decide (((2:Int) ≠ 0)) &&
 (zBW p zbM (0:Int) (0:Int)))
end
theorem q47 (p:placed) (zbM:Int) (K:List PA->Prop) (hs:p47 p zbM=true) (hk:K (e47 (s47 p zbM))):vcFun Try.prog G47 zBH 47 [.agg (zbg p),.one (.int .i64 zbM)] K :=
  zaI (by kernel_rfl) (zaS hs λ hc hs=>And.intro hc (zJA hs hk))
def zJB : List PA → COut
  | [.agg [.int .i64 zau,.int .i64 zav,.int .i64 zaC,.int .i64 zam,.int .i64 zan,.int .i64 zaf,.int .i64 zao,.int .i64 zab,.int .i64 zaa,.int .i64 zad,.int .i64 zac,.int .i64 zah,.int .i64 zaq,.sl zae zaD zaj,.sl zai zaH zat,.int .i64 zaU],.one (.int .i64 a1)]=>.det (IsE zaz 3 zaD zaj/\IsE zaB 1 zaH zat/\p47 (⟨(⟨zau,zav,zaC,zam,zan,zaf,zao,(⟨zab,zaa⟩:Span),(⟨zad,zac⟩:Span),zah,zaq,(⟨zae,zbn zaj⟩:(Sl Drift)),(⟨zai,zbh zat⟩:(Sl Int))⟩:Plane),zaU⟩:placed) a1=true) [.one (.int .i64 ((s47 (⟨(⟨zau,zav,zaC,zam,zan,zaf,zao,(⟨zab,zaa⟩:Span),(⟨zad,zac⟩:Span),zah,zaq,(⟨zae,zbn zaj⟩:(Sl Drift)),(⟨zai,zbh zat⟩:(Sl Int))⟩:Plane),zaU⟩:placed) a1).1)),.one (.int .i64 ((s47 (⟨(⟨zau,zav,zaC,zam,zan,zaf,zao,(⟨zab,zaa⟩:Span),(⟨zad,zac⟩:Span),zah,zaq,(⟨zae,zbn zaj⟩:(Sl Drift)),(⟨zai,zbh zat⟩:(Sl Int))⟩:Plane),zaU⟩:placed) a1).2))]
  | _=>.no
theorem zNk:zal Try.prog 47:=⟨_,rfl,rfl,by kernel_rfl⟩
theorem zR6:Ok Try.prog 47 zJB:=za5 zPU zNk λ args K h=>by
  unfold zJB at h
  split at h
  · rename_i zau zav zaC zam zan zaf zao zab zaa zad zac zah zaq zae zaD zaj zai zaH zat zaU a1
    obtain⟨⟨⟨rfl,zaw,rfl⟩,⟨rfl,zax,rfl⟩,hs⟩,hk⟩:=h
    try rw[zbc zaw] at hs
    try rw[zbc zaw] at hk
    try rw[zaV zax] at hs
    try rw[zaV zax] at hk
    exact⟨(λ _ _=>[]),(λ _=>false),zBH,q47 (⟨(⟨zau,zav,zaC,zam,zan,zaf,zao,(⟨zab,zaa⟩:Span),(⟨zad,zac⟩:Span),zah,zaq,(⟨zae,zaw⟩:(Sl Drift)),(⟨zai,zax⟩:(Sl Int))⟩:Plane),zaU⟩:placed) a1 K hs hk⟩
  · exact h.elim
abbrev T28:Tabs:=((Tabs.nil.addF 46 zJq).addF 47 zJB)
theorem zPV:TabsOk Try.prog T28:=((TabsOk.nil.addF zR3).addF zR6)
abbrev G28:Ctrs:=csm T28 (λ _ _=>[]) (λ _=>false)
def zJC:Ann:=⟨107,[(0,zK [2,3] [2,3]),(1,zK [2,3,15] [2,3]),(2,zK [2,5,6] [2]),(3,zK [2,5,6,51] [2]),(4,zK [4] []),(5,zK [4] [56]),(6,zK [2,3,7] [2,3]),(7,zK [2,7,8,9] [2]),(8,zK [2,10,11] [2,10,11]),(9,zK [2,10,11,94] [2,10,11]),(10,zK [4] [103]),(11,zK [4] [106])],
 [],
 [(6,zK [2,3] [2,3]),(8,zK [2,7,8,9] [2]),(9,zK [2,10,11] [2,10,11])],
 [],[]⟩
abbrev R28:=(Sl Gate)
abbrev e28 (r:R28):List PA:=[.one (.sl r.len 3 (λ i=>zeO (r.get i)))]
@[irreducible] def z28:=ptF Try.prog G28 zJC Try.f28
section
variable {K:List PA->Prop}{p:placed}{h:Hit}{zkp:Int}{zpx:Int}{zhh:Int}{zfv:Int}{zgc:Int}{zgB:Int}{zfX:Int}{zfh:Int}
def zBX (p:placed) (zhh:Int) (zfv:Int) (zgc:Int) (zgB:Int) (zfX:Int) (zfh:Int):(Sl Gate) :=
  (cond (decide (zgc >= zfX))
 (⟨1,λ _=>(⟨p.Plane.Z,zfv,zfh⟩:Gate)⟩:(Sl Gate))
 (⟨2,(zpK (⟨zhh,zfv,zgc⟩:Gate) [(⟨zhh,zfv,zgc⟩:Gate),(⟨zgB,zfX,zfh⟩:Gate)])⟩:(Sl Gate)))
theorem zJD (hk:K (e28 (zBX p zhh zfv zgc zgB zfX zfh))):z28 (Wk K) [1,1,1,1,1] [] ⟨[(2,zp 2 0),(10,zp 10 0),(11,zp 11 0)],[(2,.box 84 (zm (zbg p))),(10,.box 114 (zm (zeO (⟨zhh,zfv,zgc⟩:Gate)))),(11,.box 114 (zm (zeO (⟨zgB,zfX,zfh⟩:Gate))))],[]⟩:=zaI (by kernel_rfl) (zt hk (λ hk=>((zeq hk):Wk K [.one (.sl 1 3 (λ _=>(zeO (⟨p.Plane.Z,zfv,zfh⟩:Gate))))])) (λ hk=>((zeq (Eq.mpr (congrArg K (congrArg (λ (g_:Nat->List PV)=>([.one (.sl 2 3 g_)]:List PA)) (zo9 (enc:=zeO) (x:=(⟨zhh,zfv,zgc⟩:Gate)) (y:=(⟨zgB,zfX,zfh⟩:Gate)) (r:=[])))) hk)):Wk K [.one (.sl 2 3 (zCz [(zeO (⟨zhh,zfv,zgc⟩:Gate)),(zeO (⟨zgB,zfX,zfh⟩:Gate))]))])))
def zBY (p:placed) (h:Hit) (zkp:Int) (zpx:Int):(Sl Gate) :=
  (zBX p ((s46 p (w64 ((w64 (p.Plane.First+(w64 (h.Channel * p.Plane.Pitch)))) - zpx)) (w64 ((w64 (p.Plane.First+(w64 (h.Channel * p.Plane.Pitch)))) - zkp))).Z) ((s46 p (w64 ((w64 (p.Plane.First+(w64 (h.Channel * p.Plane.Pitch)))) - zpx)) (w64 ((w64 (p.Plane.First+(w64 (h.Channel * p.Plane.Pitch)))) - zkp))).Low) ((s46 p (w64 ((w64 (p.Plane.First+(w64 (h.Channel * p.Plane.Pitch)))) - zpx)) (w64 ((w64 (p.Plane.First+(w64 (h.Channel * p.Plane.Pitch)))) - zkp))).High) ((s46 p (w64 ((w64 (p.Plane.First+(w64 (h.Channel * p.Plane.Pitch))))+zkp)) (w64 ((w64 (p.Plane.First+(w64 (h.Channel * p.Plane.Pitch))))+zpx))).Z) ((s46 p (w64 ((w64 (p.Plane.First+(w64 (h.Channel * p.Plane.Pitch))))+zkp)) (w64 ((w64 (p.Plane.First+(w64 (h.Channel * p.Plane.Pitch))))+zpx))).Low) ((s46 p (w64 ((w64 (p.Plane.First+(w64 (h.Channel * p.Plane.Pitch))))+zkp)) (w64 ((w64 (p.Plane.First+(w64 (h.Channel * p.Plane.Pitch))))+zpx))).High))
theorem zJE (hk:K (e28 (zBY p h zkp zpx))):z28 (Wk K) [1,1,1,1] [] ⟨[(2,zp 2 0),(7,zI (w64 (p.Plane.First+(w64 (h.Channel * p.Plane.Pitch))))),(8,zI zkp),(9,zI zpx)],[(2,.box 84 (zm (zbg p)))],[]⟩:=zaI (by kernel_rfl) (And.intro (And.intro (zE zaz 3 p.Plane.Drift.get) (zE zaB 1 p.Plane.Dead.get)) (And.intro (And.intro (zE zaz 3 p.Plane.Drift.get) (zE zaB 1 p.Plane.Dead.get)) (zJD hk)))
def zBZ (p:placed) (h:Hit):(Sl Gate) :=
  (zBY p h ((s47 p h.Drift).1) ((s47 p h.Drift).2))
def zB0 (p:placed) (h:Hit):Bool :=
  (decide ((p47 p h.Drift=true)) &&
 true)
theorem zJF (hs:zB0 p h=true) (hk:K (e28 (zBZ p h))):z28 (Wk K) [1,1] [] ⟨[(2,zp 2 0),(3,zp 3 0)],[(2,.box 84 (zm (zbg p))),(3,.box 48 (zm (ze8 h)))],[]⟩:=zaI (by kernel_rfl) (zaS hs λ hc hs=>And.intro (And.intro (zE zaz 3 p.Plane.Drift.get) (And.intro (zE zaB 1 p.Plane.Dead.get) hc)) (zJE hk))
def s28 (p:placed) (h:Hit):(Sl Gate) :=
  (cond (p.Plane.Kind != (2:Int))
 (cond (decide ((w64 ((w64 (p.Plane.First + (w64 ((w64 ((w64 (h.Channel + h.Many)) - (1:Int))) * p.Plane.Pitch)))) - p.Plane.Spill)) > (w64 ((w64 (p.Plane.First + (w64 ((w64 (h.Channel + (1:Int))) * p.Plane.Pitch)))) + p.Plane.Spill))))
 (⟨0,λ _=>default⟩:(Sl Gate))
 (⟨1,λ _=>(s46 p (w64 ((w64 (p.Plane.First+(w64 ((w64 ((w64 (h.Channel+h.Many)) - (1:Int))) * p.Plane.Pitch)))) - p.Plane.Spill)) (w64 ((w64 (p.Plane.First+(w64 ((w64 (h.Channel+(1:Int))) * p.Plane.Pitch))))+p.Plane.Spill)))⟩:(Sl Gate)))
 (zBZ p h))
def p28 (p:placed) (h:Hit):Bool :=
  (cond (p.Plane.Kind != (2:Int))
 true
 (zB0 p h))
end
theorem q28 (p:placed) (h:Hit) (K:List PA->Prop) (hs:p28 p h=true) (hk:K (e28 (s28 p h))):vcFun Try.prog G28 zJC 28 [.agg (zbg p),.agg (ze8 h)] (Wk K) :=
  zaI (by kernel_rfl) (zc hs hk (λ hs hk=>(zt hk (λ hk=>((wk hk (zfj (.one (.nil _ _)) zlt)):Wk K [.one (.nils)])) (λ hk=>(And.intro (And.intro (zE zaz 3 p.Plane.Drift.get) (zE zaB 1 p.Plane.Dead.get)) ((zeq hk):Wk K [.one (.sl 1 3 (λ _=>(zeO (s46 p (w64 ((w64 (p.Plane.First+(w64 ((w64 ((w64 (h.Channel+h.Many)) - (1:Int))) * p.Plane.Pitch)))) - p.Plane.Spill)) (w64 ((w64 (p.Plane.First+(w64 ((w64 (h.Channel+(1:Int))) * p.Plane.Pitch))))+p.Plane.Spill))))))]))))) (λ hs hk=>(zJF hs hk)))
def zJG : List PA → COut
  | [.agg [.int .i64 zau,.int .i64 zav,.int .i64 zaC,.int .i64 zam,.int .i64 zan,.int .i64 zaf,.int .i64 zao,.int .i64 zab,.int .i64 zaa,.int .i64 zad,.int .i64 zac,.int .i64 zah,.int .i64 zaq,.sl zae zaD zaj,.sl zai zaH zat,.int .i64 zaU],.agg [.int .i64 zaQ,.int .i64 zaA,.int .i64 zbd,.int .i64 zaR,.int .i64 zaK,.int .i64 zbe]]=>.det (IsE zaz 3 zaD zaj/\IsE zaB 1 zaH zat/\p28 (⟨(⟨zau,zav,zaC,zam,zan,zaf,zao,(⟨zab,zaa⟩:Span),(⟨zad,zac⟩:Span),zah,zaq,(⟨zae,zbn zaj⟩:(Sl Drift)),(⟨zai,zbh zat⟩:(Sl Int))⟩:Plane),zaU⟩:placed) (⟨zaQ,zaA,zbd,zaR,zaK,zbe⟩:Hit)=true) [.one (.sl ((s28 (⟨(⟨zau,zav,zaC,zam,zan,zaf,zao,(⟨zab,zaa⟩:Span),(⟨zad,zac⟩:Span),zah,zaq,(⟨zae,zbn zaj⟩:(Sl Drift)),(⟨zai,zbh zat⟩:(Sl Int))⟩:Plane),zaU⟩:placed) (⟨zaQ,zaA,zbd,zaR,zaK,zbe⟩:Hit)).len) 3 (λ i=>zeO ((s28 (⟨(⟨zau,zav,zaC,zam,zan,zaf,zao,(⟨zab,zaa⟩:Span),(⟨zad,zac⟩:Span),zah,zaq,(⟨zae,zbn zaj⟩:(Sl Drift)),(⟨zai,zbh zat⟩:(Sl Int))⟩:Plane),zaU⟩:placed) (⟨zaQ,zaA,zbd,zaR,zaK,zbe⟩:Hit)).get i)))]
  | _=>.no
theorem call28:zal Try.prog 28:=⟨_,rfl,rfl,by kernel_rfl⟩
theorem zR7:Ok Try.prog 28 zJG:=zhW zPV call28 λ args K h=>by
  unfold zJG at h
  split at h
  · rename_i zau zav zaC zam zan zaf zao zab zaa zad zac zah zaq zae zaD zaj zai zaH zat zaU zaQ zaA zbd zaR zaK zbe
    obtain⟨⟨⟨rfl,zaw,rfl⟩,⟨rfl,zax,rfl⟩,hs⟩,hk⟩:=h
    try rw[zbc zaw] at hs
    try rw[zbc zaw] at hk
    try rw[zaV zax] at hs
    try rw[zaV zax] at hk
    exact⟨_,zhV zj5 _,(λ _ _=>[]),(λ _=>false),zJC,q28 (⟨(⟨zau,zav,zaC,zam,zan,zaf,zao,(⟨zab,zaa⟩:Span),(⟨zad,zac⟩:Span),zah,zaq,(⟨zae,zaw⟩:(Sl Drift)),(⟨zai,zax⟩:(Sl Int))⟩:Plane),zaU⟩:placed) (⟨zaQ,zaA,zbd,zaR,zaK,zbe⟩:Hit) K hs hk⟩
  · exact h.elim
abbrev T12:Tabs:=(((Tabs.nil.addF 26 zDZ).addF 27 zDN).addF 28 zJG)
theorem zPW:TabsOk Try.prog T12:=(((TabsOk.nil.addF zQA).addF zQw).addF zR7)
abbrev G12:Ctrs:=csm T12 (λ _ _=>[]) (λ _=>false)
def zJH:Ann:=⟨26,[(0,zK [2,3] [2,3]),(1,zK [2,3,12] [2,3]),(2,zK [4,5] []),(3,zK [3,6] [3,6]),(4,zK [8] []),(5,zK [8,24] []),(6,zK [4,5] []),(7,zK [4,5] [])],
 [],
 [(3,zK [2,3] [2,3])],
 [],[]⟩
abbrev R12:=((Sl Gate)×Int)
abbrev e12 (r:R12):List PA:=[.one (.sl r.1.len 3 (λ i=>zeO (r.1.get i))),.one (.int .i64 r.2)]
@[irreducible] def z12:=ptF Try.prog G12 zJH Try.f12
section
variable {K:List PA->Prop}{s:Setup}{h:Hit}{sv0:(Sl Plane)}{zci:Nat->List PV}
def ztr (h:Hit) (sv0:(Sl Plane)):((Sl Gate)×Int) :=
  (cond (((s28 ((s27 (⟨sv0⟩ : Setup) h).1) h).len : Int) == (0:Int))
 ((⟨0,λ _=>default⟩:(Sl Gate)),(5:Int))
 ((⟨(s28 ((s27 (⟨sv0⟩:Setup) h).1) h).len,(s28 ((s27 (⟨sv0⟩:Setup) h).1) h).get⟩:(Sl Gate)),(0:Int)))
def zts (h:Hit) (sv0:(Sl Plane)):Bool :=
  (decide ((p27 (⟨sv0⟩:Setup) h=true)) &&
 (decide ((p28 ((s27 (⟨sv0⟩:Setup) h).1) h=true)) &&
 true))
theorem zJI (hs:zts h sv0=true) (hk:K (e12 (ztr h sv0))) (zeQ:zci=zg enc_34 sv0):z12 (Wk K) [1,1] [] ⟨[(2,zp 2 0),(3,zp 3 0)],[(2,.box 24 [.p (.sl sv0.len 15 zci)]),(3,.box 48 (zm (ze8 h)))],[]⟩:=by subst zeQ;exact zaI (by kernel_rfl) (zaS hs λ hc hs=>And.intro (And.intro (zE enc_34 15 sv0.get) hc) (zaS hs λ hc hs=>And.intro (And.intro (zE zaz 3 (((s27 (⟨sv0⟩:Setup) h).1).Plane.Drift.get)) (And.intro (zE zaB 1 (((s27 (⟨sv0⟩:Setup) h).1).Plane.Dead.get)) hc)) (zt hk (λ hk=>((wk hk (zfj (.one (.nil _ _)) (zfj (.one (.rfl _)) zlt))):Wk K [.one (.nils),.one (.int .i64 (5:Int))])) (λ hk=>((zeq hk):Wk K [.one (.sl ((s28 ((s27 (⟨sv0⟩:Setup) h).1) h).len) 3 (λ i=>zeO ((s28 ((s27 (⟨sv0⟩:Setup) h).1) h).get i))),.one (.int .i64 (0:Int))])))))
def s12 (s:Setup) (h:Hit):((Sl Gate)×Int) :=
  (cond (!(s26 s h))
 ((⟨0,λ _=>default⟩:(Sl Gate)),(2:Int))
 (ztr h s.Planes))
def p12 (s:Setup) (h:Hit):Bool :=
  (decide ((p26 s h=true)) &&
 (cond (!(s26 s h))
 true
 (zts h s.Planes)))
end
theorem q12 (s:Setup) (h:Hit) (K:List PA->Prop) (hs:p12 s h=true) (hk:K (e12 (s12 s h))):vcFun Try.prog G12 zJH 12 [.agg (enc_24 s),.agg (ze8 h)] (Wk K) :=
  zaI (by kernel_rfl) (zaS hs λ hc hs=>And.intro (And.intro (zE enc_34 15 s.Planes.get) hc) (zc hs hk (λ hs hk=>((wk hk (zfj (.one (.nil _ _)) (zfj (.one (.rfl _)) zlt))):Wk K [.one (.nils),.one (.int .i64 (2:Int))])) (λ hs hk=>(zJI hs hk rfl))))
def zJJ : List PA → COut
  | [.agg [.sl zar zba zas],.agg [.int .i64 zaQ,.int .i64 zaA,.int .i64 zbd,.int .i64 zaR,.int .i64 zaK,.int .i64 zbe]]=>.det (IsE enc_34 15 zba zas/\p12 (⟨(⟨zar,zbA zas⟩:(Sl Plane))⟩:Setup) (⟨zaQ,zaA,zbd,zaR,zaK,zbe⟩:Hit)=true) [.one (.sl (((s12 (⟨(⟨zar,zbA zas⟩:(Sl Plane))⟩:Setup) (⟨zaQ,zaA,zbd,zaR,zaK,zbe⟩:Hit)).1).len) 3 (λ i=>zeO (((s12 (⟨(⟨zar,zbA zas⟩:(Sl Plane))⟩:Setup) (⟨zaQ,zaA,zbd,zaR,zaK,zbe⟩:Hit)).1).get i))),.one (.int .i64 ((s12 (⟨(⟨zar,zbA zas⟩:(Sl Plane))⟩:Setup) (⟨zaQ,zaA,zbd,zaR,zaK,zbe⟩:Hit)).2))]
  | _=>.no
theorem call12:zal Try.prog 12:=⟨_,rfl,rfl,by kernel_rfl⟩
theorem zR8:Ok Try.prog 12 zJJ:=zhW zPW call12 λ args K h=>by
  unfold zJJ at h
  split at h
  · rename_i zar zba zas zaQ zaA zbd zaR zaK zbe
    obtain⟨⟨⟨rfl,zaM,rfl⟩,hs⟩,hk⟩:=h
    try rw[zbT zaM] at hs
    try rw[zbT zaM] at hk
    exact⟨_,zhV zj5 _,(λ _ _=>[]),(λ _=>false),zJH,q12 (⟨(⟨zar,zaM⟩:(Sl Plane))⟩:Setup) (⟨zaQ,zaA,zbd,zaR,zaK,zbe⟩:Hit) K hs hk⟩
  · exact h.elim
abbrev T3:Tabs:=(((((((((Tabs.nil.addF 4 zPg).addF 5 zPn).addF 6 zPe).addF 7 zPx).addF 8 zPC).addF 9 zPD).addF 10 zIV).addF 11 zJp).addF 12 zJJ)
theorem zR9:TabsOk Try.prog T3:=(((((((((TabsOk.nil.addF ok4).addF ok5).addF ok6).addF ok7).addF ok8).addF ok9).addF zRO).addF zR2).addF zR8)
abbrev G3:Ctrs:=csm T3 (λ _ _=>[]) (λ _=>false)
def zPX:Ann:=⟨229,[(0,zK [1,2,3,4,5] [5]),(1,zK [1,2,3,4,5,94] [5]),(2,zK [10] []),(3,zK [1,2,3,4,5,11,12] [5,11]),(4,zK [1,2,3,4,5,11,102] [5,11]),(5,zK [10] []),(6,zK [1,2,3,4,5,13,14] [5]),(7,zK [1,2,3,4,5,13,117] [5]),(8,zK [10] []),(9,zK [1,2,3,4,5,13,15] [5,15]),(10,zK [1,2,3,4,5,13,15,16] [5,15]),(11,zK [1,2,3,4,5,13,15,16,126] [5,15]),(12,zK [1,2,3,4,5,13,15,16] [5,15]),(13,zK [1,2,3,4,5,13,15,16,17,18] [5,15]),(14,zK [1,2,3,4,5,13,15,16,17,18,19] [5,15]),(15,zK [1,2,3,4,5,13,15,16,17,18,19,136] [5,15]),(16,zK [1,2,3,4,5,13,15,16,17,18,19] [5,15]),(17,zK [1,2,3,4,5,13,15,16,17,18,19] [5,15]),(18,zK [1,2,3,4,5,13,15,16,17,18,19] [5,15]),(19,zK [1,2,3,4,5,13,15,16,18,159] [5,15]),(20,zK [10] []),(21,zK [1,2,3,4,5,13,15,16,18,164] [5,15]),(22,zK [1,2,3,4,5,13,15,16,18,20] [5,15,20]),(23,zK [1,2,3,4,5,13,15,16,18,20,21] [5,15,20]),(24,zK [1,2,3,4,5,13,15,16,18,20,188] [5,15,20]),(25,zK [10] []),(26,zK [1,2,3,4,5,13,15,16,20,189] [5,15,20]),(27,zK [1,2,3,4,5,13,15,16,22,23] [5,15]),(28,zK [1,2,3,4,5,13,15,16,22,23,24] [5,15]),(29,zK [1,2,3,4,5,13,15,16,227] [5,15]),(30,zK [10] []),(31,zK [10] [])],
 [(11,zK [1,2,3,4,5,13,15,16] [5,15]),(15,zK [1,2,3,4,5,13,15,16,17,18,19] [5,15])],
 [(2,zK [1,2,3,4,5,94] [5]),(3,zK [1,2,3,4,5] [5]),(4,zK [1,2,3,4,5,11,12] [5,11]),(6,zK [1,2,3,4,5,11] [5,11]),(7,zK [1,2,3,4,5,13,14] [5]),(9,zK [1,2,3,4,5,13] [5]),(18,zK [1,2,3,4,5,13,15,16,17,18,19] [5,15]),(19,zK [1,2,3,4,5,13,15,16,17,18] [5,15]),(21,zK [1,2,3,4,5,13,15,16,18] [5,15]),(24,zK [1,2,3,4,5,13,15,16,18,20,21] [5,15,20]),(26,zK [1,2,3,4,5,13,15,16,18,20] [5,15,20]),(28,zK [1,2,3,4,5,13,15,16,22,23] [5,15])],
 [],[]⟩
abbrev R3:=Bool
abbrev e3 (r:R3):List PA:=[.one (.bool r)]
@[irreducible] def z3:=ptF Try.prog G3 zPX Try.f3
def zNl (at_a1:Int) (cells:(Sl Bool)) (need:Int) (charge:Int) (lv4:(Sl Bool)) (cv6:Int) (sv6:(Sl Plane)) (zhw:Int) (zhx:Int) (zhy:Int) (zhz:Int) (zhA:Int) (zhB:Int) (zhC:Int) (zhD:Int) (zhE:Int) (zhF:Int) (zeI:Int) (zeJ:Int) (zeK:Int) (zec:(Sl Drift)) (zed:(Sl Int)) (zqY:Nat->List PV) (zgd:Nat->List PV) (zge:Nat->List PV):St:=⟨[(1,zI at_a1),(2,zS enc_4 1 cells),(3,zI need),(4,zI charge),(5,zp 5 0),(13,zS enc_4 1 lv4),(15,zp 15 0),(16,zI cv6)],[(5,.box 24 [.p (.sl sv6.len 15 zqY)]),(15,.box 34 (zm (enc_34 (⟨zhw,zhx,zhy,zhz,zhA,zhB,zhC,(⟨zhD,zhE⟩:Span),(⟨zhF,zeI⟩:Span),zeJ,zeK,(⟨zec.len,zbn zgd⟩:(Sl Drift)),(⟨zed.len,zbh zge⟩:(Sl Int))⟩:Plane))))],[]⟩
abbrev zD0 (K:List PA->Prop) (at_a1:Int) (cells:(Sl Bool)) (need:Int) (charge:Int) (lv4:(Sl Bool)) (X:St->Prop) (P:Int->(Sl Plane)->Int->Int->Int->Int->Int->Int->Int->Int->Int->Int->Int->Int->Int->(Sl Drift)->(Sl Int)->Bool) (S:Int->(Sl Plane)->Int->Int->Int->Int->Int->Int->Int->Int->Int->Int->Int->Int->Int->(Sl Drift)->(Sl Int)->Bool):Prop:=∀ ⦃cv6:Int⦄ ⦃sv6:(Sl Plane)⦄ ⦃zhw:Int⦄ ⦃zhx:Int⦄ ⦃zhy:Int⦄ ⦃zhz:Int⦄ ⦃zhA:Int⦄ ⦃zhB:Int⦄ ⦃zhC:Int⦄ ⦃zhD:Int⦄ ⦃zhE:Int⦄ ⦃zhF:Int⦄ ⦃zeI:Int⦄ ⦃zeJ:Int⦄ ⦃zeK:Int⦄ ⦃zec:(Sl Drift)⦄ ⦃zed:(Sl Int)⦄ ⦃zqY:Nat->List PV⦄ ⦃zgd:Nat->List PV⦄ ⦃zge:Nat->List PV⦄,P cv6 sv6 zhw zhx zhy zhz zhA zhB zhC zhD zhE zhF zeI zeJ zeK zec zed=true->K (e3 (S cv6 sv6 zhw zhx zhy zhz zhA zhB zhC zhD zhE zhF zeI zeJ zeK zec zed))->zqY=zg enc_34 sv6->zgd=zg zaz zec->zge=zg zaB zed->X (zNl at_a1 cells need charge lv4 cv6 sv6 zhw zhx zhy zhz zhA zhB zhC zhD zhE zhF zeI zeJ zeK zec zed zqY zgd zge)
def zNm (at_a1:Int) (cells:(Sl Bool)) (need:Int) (charge:Int) (lv4:(Sl Bool)) (cv7:Int) (zcs:Int) (zee:Bool) (kv7:Int) (sv7:(Sl Plane)) (zgC:Int) (zgD:Int) (zgE:Int) (zgF:Int) (zgG:Int) (zgH:Int) (zgI:Int) (zgJ:Int) (zgK:Int) (zgL:Int) (zef:Int) (zeg:Int) (zeh:Int) (zdR:(Sl Drift)) (zdS:(Sl Int)) (zqZ:Nat->List PV) (zgf:Nat->List PV) (zgg:Nat->List PV):St:=⟨[(1,zI at_a1),(2,zS enc_4 1 cells),(3,zI need),(4,zI charge),(5,zp 5 0),(13,zS enc_4 1 lv4),(15,zp 15 0),(16,zI cv7),(17,zI zcs),(18,zB zee),(19,zI kv7)],[(5,.box 24 [.p (.sl sv7.len 15 zqZ)]),(15,.box 34 (zm (enc_34 (⟨zgC,zgD,zgE,zgF,zgG,zgH,zgI,(⟨zgJ,zgK⟩:Span),(⟨zgL,zef⟩:Span),zeg,zeh,(⟨zdR.len,zbn zgf⟩:(Sl Drift)),(⟨zdS.len,zbh zgg⟩:(Sl Int))⟩:Plane))))],[]⟩
abbrev zPY (K:List PA->Prop) (at_a1:Int) (cells:(Sl Bool)) (need:Int) (charge:Int) (lv4:(Sl Bool)) (X:St->Prop) (P:Int->Int->Bool->Int->(Sl Plane)->Int->Int->Int->Int->Int->Int->Int->Int->Int->Int->Int->Int->Int->(Sl Drift)->(Sl Int)->Bool) (S:Int->Int->Bool->Int->(Sl Plane)->Int->Int->Int->Int->Int->Int->Int->Int->Int->Int->Int->Int->Int->(Sl Drift)->(Sl Int)->Bool):Prop:=∀ ⦃cv7:Int⦄ ⦃zcs:Int⦄ ⦃zee:Bool⦄ ⦃kv7:Int⦄ ⦃sv7:(Sl Plane)⦄ ⦃zgC:Int⦄ ⦃zgD:Int⦄ ⦃zgE:Int⦄ ⦃zgF:Int⦄ ⦃zgG:Int⦄ ⦃zgH:Int⦄ ⦃zgI:Int⦄ ⦃zgJ:Int⦄ ⦃zgK:Int⦄ ⦃zgL:Int⦄ ⦃zef:Int⦄ ⦃zeg:Int⦄ ⦃zeh:Int⦄ ⦃zdR:(Sl Drift)⦄ ⦃zdS:(Sl Int)⦄ ⦃zqZ:Nat->List PV⦄ ⦃zgf:Nat->List PV⦄ ⦃zgg:Nat->List PV⦄,P cv7 zcs zee kv7 sv7 zgC zgD zgE zgF zgG zgH zgI zgJ zgK zgL zef zeg zeh zdR zdS=true->K (e3 (S cv7 zcs zee kv7 sv7 zgC zgD zgE zgF zgG zgH zgI zgJ zgK zgL zef zeg zeh zdR zdS))->zqZ=zg enc_34 sv7->zgf=zg zaz zdR->zgg=zg zaB zdS->X (zNm at_a1 cells need charge lv4 cv7 zcs zee kv7 sv7 zgC zgD zgE zgF zgG zgH zgI zgJ zgK zgL zef zeg zeh zdR zdS zqZ zgf zgg)
section
variable {K:List PA->Prop}{s:Setup}{at_a1:Int}{cells:(Sl Bool)}{need:Int}{charge:Int}{ztt:Bool}{sv0:(Sl Plane)}{zci:Nat->List PV}{sv1:(Sl Plane)}{zfN:Nat->List PV}{ev2:Int}{sv2:(Sl Plane)}{zhi:(Sl (Int×Int))}{zhj:(Sl (Bool×Bool))}{zmX:Nat->List PV}{zB1:Nat->List PV}{zB2:Nat->List PV}{sv3:(Sl Plane)}{zzD:Nat->List PV}{lv4:(Sl Bool)}{fv4:Int}{sv4:(Sl Plane)}{zNn:Nat->List PV}{zNo:Nat->List PV}{sv5:(Sl Plane)}{zNp:Nat->List PV}{cv6:Int}{sv6:(Sl Plane)}{zhw:Int}{zhx:Int}{zhy:Int}{zhz:Int}{zhA:Int}{zhB:Int}{zhC:Int}{zhD:Int}{zhE:Int}{zhF:Int}{zeI:Int}{zeJ:Int}{zeK:Int}{zec:(Sl Drift)}{zed:(Sl Int)}{zqY:Nat->List PV}{zgd:Nat->List PV}{zge:Nat->List PV}{X6:St->Prop}{P6:Int->(Sl Plane)->Int->Int->Int->Int->Int->Int->Int->Int->Int->Int->Int->Int->Int->(Sl Drift)->(Sl Int)->Bool}{S6:Int->(Sl Plane)->Int->Int->Int->Int->Int->Int->Int->Int->Int->Int->Int->Int->Int->(Sl Drift)->(Sl Int)->Bool}{cv7:Int}{zcs:Int}{zee:Bool}{kv7:Int}{sv7:(Sl Plane)}{zgC:Int}{zgD:Int}{zgE:Int}{zgF:Int}{zgG:Int}{zgH:Int}{zgI:Int}{zgJ:Int}{zgK:Int}{zgL:Int}{zef:Int}{zeg:Int}{zeh:Int}{zdR:(Sl Drift)}{zdS:(Sl Int)}{zqZ:Nat->List PV}{zgf:Nat->List PV}{zgg:Nat->List PV}{X7:St->Prop}{P7:Int->Int->Bool->Int->(Sl Plane)->Int->Int->Int->Int->Int->Int->Int->Int->Int->Int->Int->Int->Int->(Sl Drift)->(Sl Int)->Bool}{S7:Int->Int->Bool->Int->(Sl Plane)->Int->Int->Int->Int->Int->Int->Int->Int->Int->Int->Int->Int->Int->(Sl Drift)->(Sl Int)->Bool}{cv8:Int}{zfw:Int}{zni:Bool}{kv8:Int}{sv8:(Sl Plane)}{zlu:Int}{zlv:Int}{zlw:Int}{zlx:Int}{zly:Int}{zlz:Int}{zlA:Int}{zlB:Int}{zlC:Int}{zlD:Int}{zho:Int}{zhp:Int}{zhq:Int}{zgh:(Sl Drift)}{zgi:(Sl Int)}{zNq:Nat->List PV}{zuQ:Nat->List PV}{zuR:Nat->List PV}{cv9:Int}{zhk:Int}{znj:Bool}{sv9:(Sl Plane)}{zcu:Int}{zcv:Int}{zcw:Int}{zcx:Int}{zcf:Int}{zcy:Int}{zcg:Int}{zcz:Int}{zcA:Int}{zcB:Int}{zbv:Int}{zbw:Int}{zbx:Int}{zbs:(Sl Drift)}{zbt:(Sl Int)}{zNr:Nat->List PV}{zuS:Nat->List PV}{zuT:Nat->List PV}{zpH:Int}{zjC:Bool}{zuU:(Sl Plane)}{zFt:Nat->List PV}{zvN:Int}{zdl:Bool}{zB3:Int}{zuV:(Sl Plane)}{zgM:Int}{zFu:Nat->List PV}{zD1:Int}{zjD:Bool}{zq5:(Sl Plane)}{ziF:Int}{zFv:Nat->List PV}{zvO:Int}{zvU:(Sl Gate)}{zB4:Int}{zuW:(Sl Plane)}{zFw:Nat->List PV}{zFx:Nat->List PV}
def ztu (S6:Int->(Sl Plane)->Int->Int->Int->Int->Int->Int->Int->Int->Int->Int->Int->Int->Int->(Sl Drift)->(Sl Int)->Bool) (at_a1:Int) (cells:(Sl Bool)) (need:Int) (charge:Int) (lv4:(Sl Bool)) (zcu:Int) (zcv:Int) (zcw:Int) (zcx:Int) (zcf:Int) (zcy:Int) (zcg:Int) (zcz:Int) (zcA:Int) (zcB:Int) (zbv:Int) (zbw:Int) (zbx:Int) (zbs:(Sl Drift)) (zbt:(Sl Int)) (zvO:Int) (zvU:(Sl Gate)) (zB4:Int) (zuW:(Sl Plane)):Bool :=
  (cond (decide ((w64 ((w64 (need - (2:Int))) * zcf)) <= (w64 ((2:Int) * zcg))))
 (cond (zB4 != (0:Int))
 false
 (cond ((zvU.len : Int) != (1:Int))
 false
 (cond (!(decide ((w64 ((w64 (need - (2:Int))) * zcf)) <= (w64 ((2:Int) * zcg)))))
 (cond (zB4 != (5:Int))
 false
 (cond ((zvU.len : Int) != (0:Int))
 false
 (S6 (w64 (zvO+(1:Int))) zuW zcu zcv zcw zcx zcf zcy zcg zcz zcA zcB zbv zbw zbx zbs zbt)))
 (S6 (w64 (zvO+(1:Int))) zuW zcu zcv zcw zcx zcf zcy zcg zcz zcA zcB zbv zbw zbx zbs zbt))))
 (cond (!(decide ((w64 ((w64 (need - (2:Int))) * zcf)) <= (w64 ((2:Int) * zcg)))))
 (cond (zB4 != (5:Int))
 false
 (cond ((zvU.len : Int) != (0:Int))
 false
 (S6 (w64 (zvO+(1:Int))) zuW zcu zcv zcw zcx zcf zcy zcg zcz zcA zcB zbv zbw zbx zbs zbt)))
 (S6 (w64 (zvO+(1:Int))) zuW zcu zcv zcw zcx zcf zcy zcg zcz zcA zcB zbv zbw zbx zbs zbt)))
def ztv (P6:Int->(Sl Plane)->Int->Int->Int->Int->Int->Int->Int->Int->Int->Int->Int->Int->Int->(Sl Drift)->(Sl Int)->Bool) (at_a1:Int) (cells:(Sl Bool)) (need:Int) (charge:Int) (lv4:(Sl Bool)) (zcu:Int) (zcv:Int) (zcw:Int) (zcx:Int) (zcf:Int) (zcy:Int) (zcg:Int) (zcz:Int) (zcA:Int) (zcB:Int) (zbv:Int) (zbw:Int) (zbx:Int) (zbs:(Sl Drift)) (zbt:(Sl Int)) (zvO:Int) (zvU:(Sl Gate)) (zB4:Int) (zuW:(Sl Plane)):Bool :=
  (cond (decide ((w64 ((w64 (need - (2:Int))) * zcf)) <= (w64 ((2:Int) * zcg))))
 (cond (zB4 != (0:Int))
 true
 (cond ((zvU.len : Int) != (1:Int))
 true
 (cond (!(decide ((w64 ((w64 (need - (2:Int))) * zcf)) <= (w64 ((2:Int) * zcg)))))
 (cond (zB4 != (5:Int))
 true
 (cond ((zvU.len : Int) != (0:Int))
 true
 (P6 (w64 (zvO+(1:Int))) zuW zcu zcv zcw zcx zcf zcy zcg zcz zcA zcB zbv zbw zbx zbs zbt)))
 (P6 (w64 (zvO+(1:Int))) zuW zcu zcv zcw zcx zcf zcy zcg zcz zcA zcB zbv zbw zbx zbs zbt))))
 (cond (!(decide ((w64 ((w64 (need - (2:Int))) * zcf)) <= (w64 ((2:Int) * zcg)))))
 (cond (zB4 != (5:Int))
 true
 (cond ((zvU.len : Int) != (0:Int))
 true
 (P6 (w64 (zvO+(1:Int))) zuW zcu zcv zcw zcx zcf zcy zcg zcz zcA zcB zbv zbw zbx zbs zbt)))
 (P6 (w64 (zvO+(1:Int))) zuW zcu zcv zcw zcx zcf zcy zcg zcz zcA zcB zbv zbw zbx zbs zbt)))
theorem zJK (hX6:zD0 K at_a1 cells need charge lv4 X6 P6 S6) (hs:ztv P6 at_a1 cells need charge lv4 zcu zcv zcw zcx zcf zcy zcg zcz zcA zcB zbv zbw zbx zbs zbt zvO zvU zB4 zuW=true) (hk:K (e3 (ztu S6 at_a1 cells need charge lv4 zcu zcv zcw zcx zcf zcy zcg zcz zcA zcB zbv zbw zbx zbs zbt zvO zvU zB4 zuW))) (zNs:zFw=zg zeO zvU) (zNt:zFx=zg enc_34 zuW):z3 K [1,1,1,1,1,1,1,0,1,0,0,1,0,0,1,1,1,1,1,1,1,1] [X6] ⟨[(1,zI at_a1),(2,zS enc_4 1 cells),(3,zI need),(4,zI charge),(5,zp 5 0),(13,zS enc_4 1 lv4),(15,zp 15 0),(16,zI zvO),(22,zP (.sl zvU.len 3 zFw)),(23,zI zB4)],[(5,.box 24 [.p (.sl zuW.len 15 zFx)]),(15,.box 34 (zm (enc_34 (⟨zcu,zcv,zcw,zcx,zcf,zcy,zcg,(⟨zcz,zcA⟩:Span),(⟨zcB,zbv⟩:Span),zbw,zbx,zbs,zbt⟩:Plane))))],[]⟩:=by subst zNs;subst zNt;exact zaI (by kernel_rfl) (zc hs hk (λ hs hk=>(zc hs hk (λ hs hk=>hk) (λ hs hk=>(zc hs hk (λ hs hk=>hk) (λ hs hk=>(zc hs hk (λ hs hk=>(zc hs hk (λ hs hk=>hk) (λ hs hk=>(zc hs hk (λ hs hk=>hk) (λ hs hk=>(hX6 hs hk rfl rfl rfl)))))) (λ hs hk=>(hX6 hs hk rfl rfl rfl)))))))) (λ hs hk=>(zc hs hk (λ hs hk=>(zc hs hk (λ hs hk=>hk) (λ hs hk=>(zc hs hk (λ hs hk=>hk) (λ hs hk=>(hX6 hs hk rfl rfl rfl)))))) (λ hs hk=>(hX6 hs hk rfl rfl rfl)))))
def zjE (S6:Int->(Sl Plane)->Int->Int->Int->Int->Int->Int->Int->Int->Int->Int->Int->Int->Int->(Sl Drift)->(Sl Int)->Bool) (at_a1:Int) (cells:(Sl Bool)) (need:Int) (charge:Int) (lv4:(Sl Bool)) (zcu:Int) (zcv:Int) (zcw:Int) (zcx:Int) (zcf:Int) (zcy:Int) (zcg:Int) (zcz:Int) (zcA:Int) (zcB:Int) (zbv:Int) (zbw:Int) (zbx:Int) (zbs:(Sl Drift)) (zbt:(Sl Int)) (zD1:Int) (zjD:Bool) (zq5:(Sl Plane)) (ziF:Int):Bool :=
  (cond zjD
 (S6 (w64 (zD1+(1:Int))) zq5 zcu zcv zcw zcx zcf zcy zcg zcz zcA zcB zbv zbw zbx zbs zbt)
 (ztu S6 at_a1 cells need charge lv4 zcu zcv zcw zcx zcf zcy zcg zcz zcA zcB zbv zbw zbx zbs zbt zD1 ((s12 (⟨zq5⟩:Setup) (⟨at_a1,ziF,need,(0:Int),charge,(0:Int)⟩:Hit)).1) ((s12 (⟨zq5⟩:Setup) (⟨at_a1,ziF,need,(0:Int),charge,(0:Int)⟩:Hit)).2) zq5))
def zjF (P6:Int->(Sl Plane)->Int->Int->Int->Int->Int->Int->Int->Int->Int->Int->Int->Int->Int->(Sl Drift)->(Sl Int)->Bool) (at_a1:Int) (cells:(Sl Bool)) (need:Int) (charge:Int) (lv4:(Sl Bool)) (zcu:Int) (zcv:Int) (zcw:Int) (zcx:Int) (zcf:Int) (zcy:Int) (zcg:Int) (zcz:Int) (zcA:Int) (zcB:Int) (zbv:Int) (zbw:Int) (zbx:Int) (zbs:(Sl Drift)) (zbt:(Sl Int)) (zD1:Int) (zjD:Bool) (zq5:(Sl Plane)) (ziF:Int):Bool :=
  (cond zjD
 (P6 (w64 (zD1+(1:Int))) zq5 zcu zcv zcw zcx zcf zcy zcg zcz zcA zcB zbv zbw zbx zbs zbt)
 (decide ((p12 (⟨zq5⟩:Setup) (⟨at_a1,ziF,need,(0:Int),charge,(0:Int)⟩:Hit)=true)) &&
 (ztv P6 at_a1 cells need charge lv4 zcu zcv zcw zcx zcf zcy zcg zcz zcA zcB zbv zbw zbx zbs zbt zD1 ((s12 (⟨zq5⟩:Setup) (⟨at_a1,ziF,need,(0:Int),charge,(0:Int)⟩:Hit)).1) ((s12 (⟨zq5⟩:Setup) (⟨at_a1,ziF,need,(0:Int),charge,(0:Int)⟩:Hit)).2) zq5)))
theorem zpy (hX6:zD0 K at_a1 cells need charge lv4 X6 P6 S6) (hs:zjF P6 at_a1 cells need charge lv4 zcu zcv zcw zcx zcf zcy zcg zcz zcA zcB zbv zbw zbx zbs zbt zD1 zjD zq5 ziF=true) (hk:K (e3 (zjE S6 at_a1 cells need charge lv4 zcu zcv zcw zcx zcf zcy zcg zcz zcA zcB zbv zbw zbx zbs zbt zD1 zjD zq5 ziF))) (zNu:zFv=zg enc_34 zq5):z3 K [1,1,1,1,1,1,1,0,1,0,0,1,0,0,1,1,1,1,1,1] [X6] ⟨[(1,zI at_a1),(2,zS enc_4 1 cells),(3,zI need),(4,zI charge),(5,zp 5 0),(13,zS enc_4 1 lv4),(15,zp 15 0),(16,zI zD1),(18,zB zjD),(20,zp 20 0)],[(5,.box 24 [.p (.sl zq5.len 15 zFv)]),(15,.box 34 (zm (enc_34 (⟨zcu,zcv,zcw,zcx,zcf,zcy,zcg,(⟨zcz,zcA⟩:Span),(⟨zcB,zbv⟩:Span),zbw,zbx,zbs,zbt⟩:Plane)))),(20,.box 48 (zm (ze8 (⟨at_a1,ziF,need,(0:Int),charge,(0:Int)⟩:Hit))))],[]⟩:=by subst zNu;exact zaI (by kernel_rfl) (zc hs hk (λ hs hk=>(hX6 hs hk rfl rfl rfl)) (λ hs hk=>(zaS hs λ hc hs=>And.intro (And.intro (zE enc_34 15 zq5.get) hc) (zJK hX6 hs hk rfl rfl))))
def zpz (S6:Int->(Sl Plane)->Int->Int->Int->Int->Int->Int->Int->Int->Int->Int->Int->Int->Int->(Sl Drift)->(Sl Int)->Bool) (at_a1:Int) (cells:(Sl Bool)) (need:Int) (charge:Int) (lv4:(Sl Bool)) (zcu:Int) (zcv:Int) (zcw:Int) (zcx:Int) (zcf:Int) (zcy:Int) (zcg:Int) (zcz:Int) (zcA:Int) (zcB:Int) (zbv:Int) (zbw:Int) (zbx:Int) (zbs:(Sl Drift)) (zbt:(Sl Int)) (zvN:Int) (zdl:Bool) (zB3:Int) (zuV:(Sl Plane)) (zgM:Int):Bool :=
  (cond zdl
 (cond (zB3 != (2:Int))
 false
 (cond (!zdl)
 (cond (zB3 != (0:Int))
 false
 (zjE S6 at_a1 cells need charge lv4 zcu zcv zcw zcx zcf zcy zcg zcz zcA zcB zbv zbw zbx zbs zbt zvN zdl zuV zgM))
 (zjE S6 at_a1 cells need charge lv4 zcu zcv zcw zcx zcf zcy zcg zcz zcA zcB zbv zbw zbx zbs zbt zvN zdl zuV zgM)))
 (cond (!zdl)
 (cond (zB3 != (0:Int))
 false
 (zjE S6 at_a1 cells need charge lv4 zcu zcv zcw zcx zcf zcy zcg zcz zcA zcB zbv zbw zbx zbs zbt zvN zdl zuV zgM))
 (zjE S6 at_a1 cells need charge lv4 zcu zcv zcw zcx zcf zcy zcg zcz zcA zcB zbv zbw zbx zbs zbt zvN zdl zuV zgM)))
def zpA (P6:Int->(Sl Plane)->Int->Int->Int->Int->Int->Int->Int->Int->Int->Int->Int->Int->Int->(Sl Drift)->(Sl Int)->Bool) (at_a1:Int) (cells:(Sl Bool)) (need:Int) (charge:Int) (lv4:(Sl Bool)) (zcu:Int) (zcv:Int) (zcw:Int) (zcx:Int) (zcf:Int) (zcy:Int) (zcg:Int) (zcz:Int) (zcA:Int) (zcB:Int) (zbv:Int) (zbw:Int) (zbx:Int) (zbs:(Sl Drift)) (zbt:(Sl Int)) (zvN:Int) (zdl:Bool) (zB3:Int) (zuV:(Sl Plane)) (zgM:Int):Bool :=
  (cond zdl
 (cond (zB3 != (2:Int))
 true
 (cond (!zdl)
 (cond (zB3 != (0:Int))
 true
 (zjF P6 at_a1 cells need charge lv4 zcu zcv zcw zcx zcf zcy zcg zcz zcA zcB zbv zbw zbx zbs zbt zvN zdl zuV zgM))
 (zjF P6 at_a1 cells need charge lv4 zcu zcv zcw zcx zcf zcy zcg zcz zcA zcB zbv zbw zbx zbs zbt zvN zdl zuV zgM)))
 (cond (!zdl)
 (cond (zB3 != (0:Int))
 true
 (zjF P6 at_a1 cells need charge lv4 zcu zcv zcw zcx zcf zcy zcg zcz zcA zcB zbv zbw zbx zbs zbt zvN zdl zuV zgM))
 (zjF P6 at_a1 cells need charge lv4 zcu zcv zcw zcx zcf zcy zcg zcz zcA zcB zbv zbw zbx zbs zbt zvN zdl zuV zgM)))
theorem zJL (hX6:zD0 K at_a1 cells need charge lv4 X6 P6 S6) (hs:zpA P6 at_a1 cells need charge lv4 zcu zcv zcw zcx zcf zcy zcg zcz zcA zcB zbv zbw zbx zbs zbt zvN zdl zB3 zuV zgM=true) (hk:K (e3 (zpz S6 at_a1 cells need charge lv4 zcu zcv zcw zcx zcf zcy zcg zcz zcA zcB zbv zbw zbx zbs zbt zvN zdl zB3 zuV zgM))) (zNv:zFu=zg enc_34 zuV):z3 K [1,1,1,1,1,1,1,0,1,0,0,1,0,0,1,1,1,1,1,0,1] [X6] ⟨[(1,zI at_a1),(2,zS enc_4 1 cells),(3,zI need),(4,zI charge),(5,zp 5 0),(13,zS enc_4 1 lv4),(15,zp 15 0),(16,zI zvN),(18,zB zdl),(20,zp 20 0),(21,zI zB3)],[(5,.box 24 [.p (.sl zuV.len 15 zFu)]),(15,.box 34 (zm (enc_34 (⟨zcu,zcv,zcw,zcx,zcf,zcy,zcg,(⟨zcz,zcA⟩:Span),(⟨zcB,zbv⟩:Span),zbw,zbx,zbs,zbt⟩:Plane)))),(20,.box 48 (zm (ze8 (⟨at_a1,zgM,need,(0:Int),charge,(0:Int)⟩:Hit))))],[]⟩:=by subst zNv;exact zaI (by kernel_rfl) (zc hs hk (λ hs hk=>(zc hs hk (λ hs hk=>hk) (λ hs hk=>(zc hs hk (λ hs hk=>(zc hs hk (λ hs hk=>hk) (λ hs hk=>(zpy hX6 hs hk rfl)))) (λ hs hk=>(zpy hX6 hs hk rfl)))))) (λ hs hk=>(zc hs hk (λ hs hk=>(zc hs hk (λ hs hk=>hk) (λ hs hk=>(zpy hX6 hs hk rfl)))) (λ hs hk=>(zpy hX6 hs hk rfl)))))
def ztw (S6:Int->(Sl Plane)->Int->Int->Int->Int->Int->Int->Int->Int->Int->Int->Int->Int->Int->(Sl Drift)->(Sl Int)->Bool) (at_a1:Int) (cells:(Sl Bool)) (need:Int) (charge:Int) (lv4:(Sl Bool)) (zcu:Int) (zcv:Int) (zcw:Int) (zcx:Int) (zcf:Int) (zcy:Int) (zcg:Int) (zcz:Int) (zcA:Int) (zcB:Int) (zbv:Int) (zbw:Int) (zbx:Int) (zbs:(Sl Drift)) (zbt:(Sl Int)) (zpH:Int) (zjC:Bool) (zuU:(Sl Plane)):Bool :=
  (cond (!(lv4.get zpH.toNat))
 (S6 (w64 (zpH+(1:Int))) zuU zcu zcv zcw zcx zcf zcy zcg zcz zcA zcB zbv zbw zbx zbs zbt)
 (zpz S6 at_a1 cells need charge lv4 zcu zcv zcw zcx zcf zcy zcg zcz zcA zcB zbv zbw zbx zbs zbt zpH zjC (s11 (⟨zuU⟩:Setup) (⟨at_a1,(w64 ((w64 (zpH - need))+(1:Int))),need,(0:Int),charge,(0:Int)⟩:Hit)) zuU (w64 ((w64 (zpH - need))+(1:Int)))))
def ztx (P6:Int->(Sl Plane)->Int->Int->Int->Int->Int->Int->Int->Int->Int->Int->Int->Int->Int->(Sl Drift)->(Sl Int)->Bool) (at_a1:Int) (cells:(Sl Bool)) (need:Int) (charge:Int) (lv4:(Sl Bool)) (zcu:Int) (zcv:Int) (zcw:Int) (zcx:Int) (zcf:Int) (zcy:Int) (zcg:Int) (zcz:Int) (zcA:Int) (zcB:Int) (zbv:Int) (zbw:Int) (zbx:Int) (zbs:(Sl Drift)) (zbt:(Sl Int)) (zpH:Int) (zjC:Bool) (zuU:(Sl Plane)):Bool :=
  (decide ((0<=zpH/\zpH < (lv4.len:Int))) &&
 (cond (!(lv4.get zpH.toNat))
 (P6 (w64 (zpH+(1:Int))) zuU zcu zcv zcw zcx zcf zcy zcg zcz zcA zcB zbv zbw zbx zbs zbt)
 (decide ((p11 (⟨zuU⟩:Setup) (⟨at_a1,(w64 ((w64 (zpH - need))+(1:Int))),need,(0:Int),charge,(0:Int)⟩:Hit)=true)) &&
 (zpA P6 at_a1 cells need charge lv4 zcu zcv zcw zcx zcf zcy zcg zcz zcA zcB zbv zbw zbx zbs zbt zpH zjC (s11 (⟨zuU⟩:Setup) (⟨at_a1,(w64 ((w64 (zpH - need))+(1:Int))),need,(0:Int),charge,(0:Int)⟩:Hit)) zuU (w64 ((w64 (zpH - need))+(1:Int)))))))
theorem zJM (hX6:zD0 K at_a1 cells need charge lv4 X6 P6 S6) (hs:ztx P6 at_a1 cells need charge lv4 zcu zcv zcw zcx zcf zcy zcg zcz zcA zcB zbv zbw zbx zbs zbt zpH zjC zuU=true) (hk:K (e3 (ztw S6 at_a1 cells need charge lv4 zcu zcv zcw zcx zcf zcy zcg zcz zcA zcB zbv zbw zbx zbs zbt zpH zjC zuU))) (zNw:zFt=zg enc_34 zuU):z3 K [1,1,1,1,1,1,1,0,1,0,0,1,0,0,1,1,1] [X6] ⟨[(1,zI at_a1),(2,zS enc_4 1 cells),(3,zI need),(4,zI charge),(5,zp 5 0),(13,zS enc_4 1 lv4),(15,zp 15 0),(16,zI zpH),(18,zB zjC)],[(5,.box 24 [.p (.sl zuU.len 15 zFt)]),(15,.box 34 (zm (enc_34 (⟨zcu,zcv,zcw,zcx,zcf,zcy,zcg,(⟨zcz,zcA⟩:Span),(⟨zcB,zbv⟩:Span),zbw,zbx,zbs,zbt⟩:Plane))))],[]⟩:=by subst zNw;exact zaI (by kernel_rfl) (zaS hs λ hc hs=>And.intro hc (zc hs hk (λ hs hk=>(hX6 hs hk rfl rfl rfl)) (λ hs hk=>(zaS hs λ hc hs=>And.intro (And.intro (zE enc_34 15 zuU.get) hc) (zJL hX6 hs hk rfl)))))
def zq0 (S6:Int->(Sl Plane)->Int->Int->Int->Int->Int->Int->Int->Int->Int->Int->Int->Int->Int->(Sl Drift)->(Sl Int)->Bool) (at_a1:Int) (cells:(Sl Bool)) (need:Int) (charge:Int) (lv4:(Sl Bool)) (cv9:Int) (zhk:Int) (znj:Bool) (sv9:(Sl Plane)) (zcu:Int) (zcv:Int) (zcw:Int) (zcx:Int) (zcf:Int) (zcy:Int) (zcg:Int) (zcz:Int) (zcA:Int) (zcB:Int) (zbv:Int) (zbw:Int) (zbx:Int) (zbs:(Sl Drift)) (zbt:(Sl Int)):Bool :=
  (cond ((lv4.get cv9.toNat) != (zhk == need))
 false
 (ztw S6 at_a1 cells need charge lv4 zcu zcv zcw zcx zcf zcy zcg zcz zcA zcB zbv zbw zbx zbs zbt cv9 znj sv9))
def zq1 (P6:Int->(Sl Plane)->Int->Int->Int->Int->Int->Int->Int->Int->Int->Int->Int->Int->Int->(Sl Drift)->(Sl Int)->Bool) (at_a1:Int) (cells:(Sl Bool)) (need:Int) (charge:Int) (lv4:(Sl Bool)) (cv9:Int) (zhk:Int) (znj:Bool) (sv9:(Sl Plane)) (zcu:Int) (zcv:Int) (zcw:Int) (zcx:Int) (zcf:Int) (zcy:Int) (zcg:Int) (zcz:Int) (zcA:Int) (zcB:Int) (zbv:Int) (zbw:Int) (zbx:Int) (zbs:(Sl Drift)) (zbt:(Sl Int)):Bool :=
  (decide ((0<=cv9/\cv9 < (lv4.len:Int))) &&
 (cond ((lv4.get cv9.toNat) != (zhk == need))
 true
 (ztx P6 at_a1 cells need charge lv4 zcu zcv zcw zcx zcf zcy zcg zcz zcA zcB zbv zbw zbx zbs zbt cv9 znj sv9)))
theorem zNx (hX6:zD0 K at_a1 cells need charge lv4 X6 P6 S6) (hs:zq1 P6 at_a1 cells need charge lv4 cv9 zhk znj sv9 zcu zcv zcw zcx zcf zcy zcg zcz zcA zcB zbv zbw zbx zbs zbt=true) (hk:K (e3 (zq0 S6 at_a1 cells need charge lv4 cv9 zhk znj sv9 zcu zcv zcw zcx zcf zcy zcg zcz zcA zcB zbv zbw zbx zbs zbt))) (zPZ:zNr=zg enc_34 sv9) (zD2:zuS=zg zaz zbs) (zD3:zuT=zg zaB zbt):z3 K [1,1,1,1,1,1,1,0,1,0,0,1,0,0,1,1] [X6] ⟨[(1,zI at_a1),(2,zS enc_4 1 cells),(3,zI need),(4,zI charge),(5,zp 5 0),(13,zS enc_4 1 lv4),(15,zp 15 0),(16,zI cv9),(17,zI zhk),(18,zB znj)],[(5,.box 24 [.p (.sl sv9.len 15 zNr)]),(15,.box 34 (zm (enc_34 (⟨zcu,zcv,zcw,zcx,zcf,zcy,zcg,(⟨zcz,zcA⟩:Span),(⟨zcB,zbv⟩:Span),zbw,zbx,(⟨zbs.len,zbn zuS⟩:(Sl Drift)),(⟨zbt.len,zbh zuT⟩:(Sl Int))⟩:Plane))))],[]⟩:=by subst zPZ;subst zD2;subst zD3;exact zaI (by kernel_rfl) (zaS hs λ hc hs=>And.intro hc (zc hs hk (λ hs hk=>hk) (λ hs hk=>(zJM hX6 hs hk rfl))))
def zB5 (S6:Int->(Sl Plane)->Int->Int->Int->Int->Int->Int->Int->Int->Int->Int->Int->Int->Int->(Sl Drift)->(Sl Int)->Bool) (S7:Int->Int->Bool->Int->(Sl Plane)->Int->Int->Int->Int->Int->Int->Int->Int->Int->Int->Int->Int->Int->(Sl Drift)->(Sl Int)->Bool) (at_a1:Int) (cells:(Sl Bool)) (need:Int) (charge:Int) (lv4:(Sl Bool)) (cv8:Int) (zfw:Int) (zni:Bool) (kv8:Int) (sv8:(Sl Plane)) (zlu:Int) (zlv:Int) (zlw:Int) (zlx:Int) (zly:Int) (zlz:Int) (zlA:Int) (zlB:Int) (zlC:Int) (zlD:Int) (zho:Int) (zhp:Int) (zhq:Int) (zgh:(Sl Drift)) (zgi:(Sl Int)):Bool :=
  (cond zni
 (S7 cv8 zfw true (w64 (kv8+(1:Int))) sv8 zlu zlv zlw zlx zly zlz zlA zlB zlC zlD zho zhp zhq zgh zgi)
 (S7 cv8 zfw (s10 (⟨zlu,zlv,zlw,zlx,zly,zlz,zlA,(⟨zlB,zlC⟩:Span),(⟨zlD,zho⟩:Span),zhp,zhq,zgh,zgi⟩:Plane) kv8) (w64 (kv8+(1:Int))) sv8 zlu zlv zlw zlx zly zlz zlA zlB zlC zlD zho zhp zhq zgh zgi))
def zB6 (P6:Int->(Sl Plane)->Int->Int->Int->Int->Int->Int->Int->Int->Int->Int->Int->Int->Int->(Sl Drift)->(Sl Int)->Bool) (P7:Int->Int->Bool->Int->(Sl Plane)->Int->Int->Int->Int->Int->Int->Int->Int->Int->Int->Int->Int->Int->(Sl Drift)->(Sl Int)->Bool) (at_a1:Int) (cells:(Sl Bool)) (need:Int) (charge:Int) (lv4:(Sl Bool)) (cv8:Int) (zfw:Int) (zni:Bool) (kv8:Int) (sv8:(Sl Plane)) (zlu:Int) (zlv:Int) (zlw:Int) (zlx:Int) (zly:Int) (zlz:Int) (zlA:Int) (zlB:Int) (zlC:Int) (zlD:Int) (zho:Int) (zhp:Int) (zhq:Int) (zgh:(Sl Drift)) (zgi:(Sl Int)):Bool :=
  (cond zni
 (P7 cv8 zfw true (w64 (kv8+(1:Int))) sv8 zlu zlv zlw zlx zly zlz zlA zlB zlC zlD zho zhp zhq zgh zgi)
 (decide ((p10 (⟨zlu,zlv,zlw,zlx,zly,zlz,zlA,(⟨zlB,zlC⟩:Span),(⟨zlD,zho⟩:Span),zhp,zhq,zgh,zgi⟩:Plane) kv8=true)) &&
 (P7 cv8 zfw (s10 (⟨zlu,zlv,zlw,zlx,zly,zlz,zlA,(⟨zlB,zlC⟩:Span),(⟨zlD,zho⟩:Span),zhp,zhq,zgh,zgi⟩:Plane) kv8) (w64 (kv8+(1:Int))) sv8 zlu zlv zlw zlx zly zlz zlA zlB zlC zlD zho zhp zhq zgh zgi)))
theorem zNy (hX6:zD0 K at_a1 cells need charge lv4 X6 P6 S6) (hX7:zPY K at_a1 cells need charge lv4 X7 P7 S7) (hs:zB6 P6 P7 at_a1 cells need charge lv4 cv8 zfw zni kv8 sv8 zlu zlv zlw zlx zly zlz zlA zlB zlC zlD zho zhp zhq zgh zgi=true) (hk:K (e3 (zB5 S6 S7 at_a1 cells need charge lv4 cv8 zfw zni kv8 sv8 zlu zlv zlw zlx zly zlz zlA zlB zlC zlD zho zhp zhq zgh zgi))) (zP0:zNq=zg enc_34 sv8) (zD4:zuQ=zg zaz zgh) (zD5:zuR=zg zaB zgi):z3 K [1,1,1,1,1,1,1,0,1,0,0,1,0,0,1,0,1,0,0,1,0,0,1] [X6,X7] ⟨[(1,zI at_a1),(2,zS enc_4 1 cells),(3,zI need),(4,zI charge),(5,zp 5 0),(13,zS enc_4 1 lv4),(15,zp 15 0),(16,zI cv8),(17,zI zfw),(18,zB zni),(19,zI kv8)],[(5,.box 24 [.p (.sl sv8.len 15 zNq)]),(15,.box 34 (zm (enc_34 (⟨zlu,zlv,zlw,zlx,zly,zlz,zlA,(⟨zlB,zlC⟩:Span),(⟨zlD,zho⟩:Span),zhp,zhq,(⟨zgh.len,zbn zuQ⟩:(Sl Drift)),(⟨zgi.len,zbh zuR⟩:(Sl Int))⟩:Plane))))],[]⟩:=by subst zP0;subst zD4;subst zD5;exact zaI (by kernel_rfl) (zc hs hk (λ hs hk=>(hX7 hs hk rfl rfl rfl)) (λ hs hk=>(zaS hs λ hc hs=>And.intro (And.intro (zE zaz 3 zgh.get) (And.intro (zE zaB 1 zgi.get) hc)) (hX7 hs hk rfl rfl rfl))))
def zoj (S6:Int->(Sl Plane)->Int->Int->Int->Int->Int->Int->Int->Int->Int->Int->Int->Int->Int->(Sl Drift)->(Sl Int)->Bool) (at_a1:Int) (cells:(Sl Bool)) (need:Int) (charge:Int) (lv4:(Sl Bool)) (S7:Int->Int->Bool->Int->(Sl Plane)->Int->Int->Int->Int->Int->Int->Int->Int->Int->Int->Int->Int->Int->(Sl Drift)->(Sl Int)->Bool) (cv7:Int) (zcs:Int) (zee:Bool) (kv7:Int) (sv7:(Sl Plane)) (zgC:Int) (zgD:Int) (zgE:Int) (zgF:Int) (zgG:Int) (zgH:Int) (zgI:Int) (zgJ:Int) (zgK:Int) (zgL:Int) (zef:Int) (zeg:Int) (zeh:Int) (zdR:(Sl Drift)) (zdS:(Sl Int)):Bool :=
  (cond (decide (kv7 <= cv7))
 (zB5 S6 S7 at_a1 cells need charge lv4 cv7 (w64 (zcs+(s9 (cells.get kv7.toNat)))) zee kv7 sv7 zgC zgD zgE zgF zgG zgH zgI zgJ zgK zgL zef zeg zeh zdR zdS)
 (zq0 S6 at_a1 cells need charge lv4 cv7 zcs zee sv7 zgC zgD zgE zgF zgG zgH zgI zgJ zgK zgL zef zeg zeh zdR zdS))
def zok (P6:Int->(Sl Plane)->Int->Int->Int->Int->Int->Int->Int->Int->Int->Int->Int->Int->Int->(Sl Drift)->(Sl Int)->Bool) (at_a1:Int) (cells:(Sl Bool)) (need:Int) (charge:Int) (lv4:(Sl Bool)) (P7:Int->Int->Bool->Int->(Sl Plane)->Int->Int->Int->Int->Int->Int->Int->Int->Int->Int->Int->Int->Int->(Sl Drift)->(Sl Int)->Bool) (cv7:Int) (zcs:Int) (zee:Bool) (kv7:Int) (sv7:(Sl Plane)) (zgC:Int) (zgD:Int) (zgE:Int) (zgF:Int) (zgG:Int) (zgH:Int) (zgI:Int) (zgJ:Int) (zgK:Int) (zgL:Int) (zef:Int) (zeg:Int) (zeh:Int) (zdR:(Sl Drift)) (zdS:(Sl Int)):Bool :=
  (cond (decide (kv7 <= cv7))
 (decide ((0<=kv7/\kv7 < (cells.len:Int))) &&
 (zB6 P6 P7 at_a1 cells need charge lv4 cv7 (w64 (zcs+(s9 (cells.get kv7.toNat)))) zee kv7 sv7 zgC zgD zgE zgF zgG zgH zgI zgJ zgK zgL zef zeg zeh zdR zdS))
 (zq1 P6 at_a1 cells need charge lv4 cv7 zcs zee sv7 zgC zgD zgE zgF zgG zgH zgI zgJ zgK zgL zef zeg zeh zdR zdS))
def zln (S6:Int->(Sl Plane)->Int->Int->Int->Int->Int->Int->Int->Int->Int->Int->Int->Int->Int->(Sl Drift)->(Sl Int)->Bool) (at_a1:Int) (cells:(Sl Bool)) (need:Int) (charge:Int) (lv4:(Sl Bool)):Nat->Int->Int->Bool->Int->(Sl Plane)->Int->Int->Int->Int->Int->Int->Int->Int->Int->Int->Int->Int->Int->(Sl Drift)->(Sl Int)->Bool:=lpO (λ _ _ _ _ _ _ _ _ _ _ _ _ _ _ _ _ _ _ _ _=>default) (zoj S6 at_a1 cells need charge lv4)
def zlo (P6:Int->(Sl Plane)->Int->Int->Int->Int->Int->Int->Int->Int->Int->Int->Int->Int->Int->(Sl Drift)->(Sl Int)->Bool) (at_a1:Int) (cells:(Sl Bool)) (need:Int) (charge:Int) (lv4:(Sl Bool)):Nat->Int->Int->Bool->Int->(Sl Plane)->Int->Int->Int->Int->Int->Int->Int->Int->Int->Int->Int->Int->Int->(Sl Drift)->(Sl Int)->Bool:=lpO (λ _ _ _ _ _ _ _ _ _ _ _ _ _ _ _ _ _ _ _ _=>false) (zok P6 at_a1 cells need charge lv4)
def zB7 (S6:Int->(Sl Plane)->Int->Int->Int->Int->Int->Int->Int->Int->Int->Int->Int->Int->Int->(Sl Drift)->(Sl Int)->Bool) (at_a1:Int) (cells:(Sl Bool)) (need:Int) (charge:Int) (lv4:(Sl Bool)) (cv7:Int) (zcs:Int) (zee:Bool) (kv7:Int) (sv7:(Sl Plane)) (zgC:Int) (zgD:Int) (zgE:Int) (zgF:Int) (zgG:Int) (zgH:Int) (zgI:Int) (zgJ:Int) (zgK:Int) (zgL:Int) (zef:Int) (zeg:Int) (zeh:Int) (zdR:(Sl Drift)) (zdS:(Sl Int)):Bool:=zln S6 at_a1 cells need charge lv4 Fuel cv7 zcs zee kv7 sv7 zgC zgD zgE zgF zgG zgH zgI zgJ zgK zgL zef zeg zeh zdR zdS
def zB8 (P6:Int->(Sl Plane)->Int->Int->Int->Int->Int->Int->Int->Int->Int->Int->Int->Int->Int->(Sl Drift)->(Sl Int)->Bool) (at_a1:Int) (cells:(Sl Bool)) (need:Int) (charge:Int) (lv4:(Sl Bool)) (cv7:Int) (zcs:Int) (zee:Bool) (kv7:Int) (sv7:(Sl Plane)) (zgC:Int) (zgD:Int) (zgE:Int) (zgF:Int) (zgG:Int) (zgH:Int) (zgI:Int) (zgJ:Int) (zgK:Int) (zgL:Int) (zef:Int) (zeg:Int) (zeh:Int) (zdR:(Sl Drift)) (zdS:(Sl Int)):Bool:=zlo P6 at_a1 cells need charge lv4 Fuel cv7 zcs zee kv7 sv7 zgC zgD zgE zgF zgG zgH zgI zgJ zgK zgL zef zeg zeh zdR zdS
theorem zNz (hX6:zD0 K at_a1 cells need charge lv4 X6 P6 S6) (hs:zB8 P6 at_a1 cells need charge lv4 cv7 zcs zee kv7 sv7 zgC zgD zgE zgF zgG zgH zgI zgJ zgK zgL zef zeg zeh zdR zdS=true) (hk:K (e3 (zB7 S6 at_a1 cells need charge lv4 cv7 zcs zee kv7 sv7 zgC zgD zgE zgF zgG zgH zgI zgJ zgK zgL zef zeg zeh zdR zdS))) (zJN:zqZ=zg enc_34 sv7) (zpB:zgf=zg zaz zdR) (zpC:zgg=zg zaB zdS):z3 K [1,1,1,1,1,1,1,0,1,0,0,1,0,0,1,0,1,0] [X6] (zNm at_a1 cells need charge lv4 cv7 zcs zee kv7 sv7 zgC zgD zgE zgF zgG zgH zgI zgJ zgK zgL zef zeg zeh zdR zdS zqZ zgf zgg) :=
  zl (λ X=>z3 K [1,1,1,1,1,1,1,0,1,0,0,1,0,0,1,0,1,0,0] [X6,X]) (by kernel_rfl) λ X7 hX =>
  (show ∀ k, zPY K at_a1 cells need charge lv4 X7 (zlo P6 at_a1 cells need charge lv4 k) (zln S6 at_a1 cells need charge lv4 k) from zg4 _ _ (zok P6 at_a1 cells need charge lv4) (zoj S6 at_a1 cells need charge lv4) (zPY K at_a1 cells need charge lv4 X7)
 (by intro _ _ _ _ _ _ _ _ _ _ _ _ _ _ _ _ _ _ _ _ _ _ _ hs;exact absurd hs dqk)
 (by intro P7 S7 hX7 cv7 zcs zee kv7 sv7 zgC zgD zgE zgF zgG zgH zgI zgJ zgK zgL zef zeg zeh zdR zdS zqZ zgf zgg hs hk zJN zpB zpC;subst zJN;subst zpB;subst zpC;exact hX _ (zaI (by kernel_rfl) (zc hs hk (λ hs hk=>(zaS hs λ hc hs=>And.intro hc (zNy hX6 hX7 hs hk rfl rfl rfl))) (λ hs hk=>(zNx hX6 hs hk rfl rfl rfl)))))) _ hs hk zJN zpB zpC
def zol (at_a1:Int) (cells:(Sl Bool)) (need:Int) (charge:Int) (lv4:(Sl Bool)) (S6:Int->(Sl Plane)->Int->Int->Int->Int->Int->Int->Int->Int->Int->Int->Int->Int->Int->(Sl Drift)->(Sl Int)->Bool) (cv6:Int) (sv6:(Sl Plane)) (zhw:Int) (zhx:Int) (zhy:Int) (zhz:Int) (zhA:Int) (zhB:Int) (zhC:Int) (zhD:Int) (zhE:Int) (zhF:Int) (zeI:Int) (zeJ:Int) (zeK:Int) (zec:(Sl Drift)) (zed:(Sl Int)):Bool :=
  (cond (decide (cv6 < (cells.len : Int)))
 (zB7 S6 at_a1 cells need charge lv4 cv6 (0:Int) false (if (w64 ((w64 (cv6 - need))+(1:Int))) > (0:Int) then (w64 ((w64 (cv6 - need))+(1:Int))) else (0:Int)) sv6 zhw zhx zhy zhz zhA zhB zhC zhD zhE zhF zeI zeJ zeK zec zed)
 true)
def zom (at_a1:Int) (cells:(Sl Bool)) (need:Int) (charge:Int) (lv4:(Sl Bool)) (P6:Int->(Sl Plane)->Int->Int->Int->Int->Int->Int->Int->Int->Int->Int->Int->Int->Int->(Sl Drift)->(Sl Int)->Bool) (cv6:Int) (sv6:(Sl Plane)) (zhw:Int) (zhx:Int) (zhy:Int) (zhz:Int) (zhA:Int) (zhB:Int) (zhC:Int) (zhD:Int) (zhE:Int) (zhF:Int) (zeI:Int) (zeJ:Int) (zeK:Int) (zec:(Sl Drift)) (zed:(Sl Int)):Bool :=
  (cond (decide (cv6 < (cells.len : Int)))
 (zB8 P6 at_a1 cells need charge lv4 cv6 (0:Int) false (if (w64 ((w64 (cv6 - need))+(1:Int))) > (0:Int) then (w64 ((w64 (cv6 - need))+(1:Int))) else (0:Int)) sv6 zhw zhx zhy zhz zhA zhB zhC zhD zhE zhF zeI zeJ zeK zec zed)
 true)
def zlp (at_a1:Int) (cells:(Sl Bool)) (need:Int) (charge:Int) (lv4:(Sl Bool)):Nat->Int->(Sl Plane)->Int->Int->Int->Int->Int->Int->Int->Int->Int->Int->Int->Int->Int->(Sl Drift)->(Sl Int)->Bool:=lpO (λ _ _ _ _ _ _ _ _ _ _ _ _ _ _ _ _ _=>default) (zol at_a1 cells need charge lv4)
def zlq (at_a1:Int) (cells:(Sl Bool)) (need:Int) (charge:Int) (lv4:(Sl Bool)):Nat->Int->(Sl Plane)->Int->Int->Int->Int->Int->Int->Int->Int->Int->Int->Int->Int->Int->(Sl Drift)->(Sl Int)->Bool:=lpO (λ _ _ _ _ _ _ _ _ _ _ _ _ _ _ _ _ _=>false) (zom at_a1 cells need charge lv4)
def zB9 (at_a1:Int) (cells:(Sl Bool)) (need:Int) (charge:Int) (lv4:(Sl Bool)) (cv6:Int) (sv6:(Sl Plane)) (zhw:Int) (zhx:Int) (zhy:Int) (zhz:Int) (zhA:Int) (zhB:Int) (zhC:Int) (zhD:Int) (zhE:Int) (zhF:Int) (zeI:Int) (zeJ:Int) (zeK:Int) (zec:(Sl Drift)) (zed:(Sl Int)):Bool:=zlp at_a1 cells need charge lv4 Fuel cv6 sv6 zhw zhx zhy zhz zhA zhB zhC zhD zhE zhF zeI zeJ zeK zec zed
def zCa (at_a1:Int) (cells:(Sl Bool)) (need:Int) (charge:Int) (lv4:(Sl Bool)) (cv6:Int) (sv6:(Sl Plane)) (zhw:Int) (zhx:Int) (zhy:Int) (zhz:Int) (zhA:Int) (zhB:Int) (zhC:Int) (zhD:Int) (zhE:Int) (zhF:Int) (zeI:Int) (zeJ:Int) (zeK:Int) (zec:(Sl Drift)) (zed:(Sl Int)):Bool:=zlq at_a1 cells need charge lv4 Fuel cv6 sv6 zhw zhx zhy zhz zhA zhB zhC zhD zhE zhF zeI zeJ zeK zec zed
theorem zNA (hs:zCa at_a1 cells need charge lv4 cv6 sv6 zhw zhx zhy zhz zhA zhB zhC zhD zhE zhF zeI zeJ zeK zec zed=true) (hk:K (e3 (zB9 at_a1 cells need charge lv4 cv6 sv6 zhw zhx zhy zhz zhA zhB zhC zhD zhE zhF zeI zeJ zeK zec zed))) (zJO:zqY=zg enc_34 sv6) (zpD:zgd=zg zaz zec) (zpE:zge=zg zaB zed):z3 K [1,1,1,1,1,1,1,0,1,0] [] (zNl at_a1 cells need charge lv4 cv6 sv6 zhw zhx zhy zhz zhA zhB zhC zhD zhE zhF zeI zeJ zeK zec zed zqY zgd zge) :=
  zl (λ X=>z3 K [1,1,1,1,1,1,1,0,1,0,0] [X]) (by kernel_rfl) λ X6 hX =>
  (show ∀ k, zD0 K at_a1 cells need charge lv4 X6 (zlq at_a1 cells need charge lv4 k) (zlp at_a1 cells need charge lv4 k) from zg4 _ _ (zom at_a1 cells need charge lv4) (zol at_a1 cells need charge lv4) (zD0 K at_a1 cells need charge lv4 X6)
 (by intro _ _ _ _ _ _ _ _ _ _ _ _ _ _ _ _ _ _ _ _ hs;exact absurd hs dqk)
 (by intro P6 S6 hX6 cv6 sv6 zhw zhx zhy zhz zhA zhB zhC zhD zhE zhF zeI zeJ zeK zec zed zqY zgd zge hs hk zJO zpD zpE;subst zJO;subst zpD;subst zpE;exact hX _ (zaI (by kernel_rfl) (zc hs hk (λ hs hk=>(zNz hX6 hs hk rfl rfl rfl)) (λ hs hk=>hk))))) _ hs hk zJO zpD zpE
def zCb (at_a1:Int) (cells:(Sl Bool)) (need:Int) (charge:Int) (lv4:(Sl Bool)) (sv5:(Sl Plane)):Bool :=
  (zB9 at_a1 cells need charge lv4 (0:Int) sv5 ((sv5.get at_a1.toNat).Kind) ((sv5.get at_a1.toNat).View) ((sv5.get at_a1.toNat).Z) ((sv5.get at_a1.toNat).First) ((sv5.get at_a1.toNat).Pitch) ((sv5.get at_a1.toNat).Strips) ((sv5.get at_a1.toNat).Spill) ((sv5.get at_a1.toNat).Offset.Low) ((sv5.get at_a1.toNat).Offset.High) ((sv5.get at_a1.toNat).Clock.Low) ((sv5.get at_a1.toNat).Clock.High) ((sv5.get at_a1.toNat).Jitter) ((sv5.get at_a1.toNat).Least) ((sv5.get at_a1.toNat).Drift) ((sv5.get at_a1.toNat).Dead))
def zCc (at_a1:Int) (cells:(Sl Bool)) (need:Int) (charge:Int) (lv4:(Sl Bool)) (sv5:(Sl Plane)):Bool :=
  (decide ((0<=at_a1/\at_a1 < (sv5.len:Int))) &&
 (zCa at_a1 cells need charge lv4 (0:Int) sv5 ((sv5.get at_a1.toNat).Kind) ((sv5.get at_a1.toNat).View) ((sv5.get at_a1.toNat).Z) ((sv5.get at_a1.toNat).First) ((sv5.get at_a1.toNat).Pitch) ((sv5.get at_a1.toNat).Strips) ((sv5.get at_a1.toNat).Spill) ((sv5.get at_a1.toNat).Offset.Low) ((sv5.get at_a1.toNat).Offset.High) ((sv5.get at_a1.toNat).Clock.Low) ((sv5.get at_a1.toNat).Clock.High) ((sv5.get at_a1.toNat).Jitter) ((sv5.get at_a1.toNat).Least) ((sv5.get at_a1.toNat).Drift) ((sv5.get at_a1.toNat).Dead)))
theorem zNB (hs:zCc at_a1 cells need charge lv4 sv5=true) (hk:K (e3 (zCb at_a1 cells need charge lv4 sv5))) (zP1:zNp=zg enc_34 sv5):z3 K [1,1,1,1,1,1] [] ⟨[(1,zI at_a1),(2,zS enc_4 1 cells),(3,zI need),(4,zI charge),(5,zp 5 0),(13,zS enc_4 1 lv4)],[(5,.box 24 [.p (.sl sv5.len 15 zNp)])],[]⟩:=by subst zP1;exact zaI (by kernel_rfl) (zaS hs λ hc hs=>And.intro hc (zNA hs hk rfl rfl rfl))
def zCd (at_a1:Int) (cells:(Sl Bool)) (need:Int) (charge:Int) (lv4:(Sl Bool)) (fv4:Int) (sv4:(Sl Plane)):Bool :=
  (cond (fv4 != (0:Int))
 false
 (cond ((lv4.len : Int) != (cells.len : Int))
 false
 (zCb at_a1 cells need charge lv4 sv4)))
def zCe (at_a1:Int) (cells:(Sl Bool)) (need:Int) (charge:Int) (lv4:(Sl Bool)) (fv4:Int) (sv4:(Sl Plane)):Bool :=
  (cond (fv4 != (0:Int))
 true
 (cond ((lv4.len : Int) != (cells.len : Int))
 true
 (zCc at_a1 cells need charge lv4 sv4)))
theorem zNC (hs:zCe at_a1 cells need charge lv4 fv4 sv4=true) (hk:K (e3 (zCd at_a1 cells need charge lv4 fv4 sv4))) (zP2:zNn=zg enc_4 lv4) (zP3:zNo=zg enc_34 sv4):z3 K [1,1,1,1,1] [] ⟨[(1,zI at_a1),(2,zS enc_4 1 cells),(3,zI need),(4,zI charge),(5,zp 5 0),(13,zP (.sl lv4.len 1 zNn)),(14,zI fv4)],[(5,.box 24 [.p (.sl sv4.len 15 zNo)])],[]⟩:=by subst zP2;subst zP3;exact zaI (by kernel_rfl) (zc hs hk (λ hs hk=>hk) (λ hs hk=>(zc hs hk (λ hs hk=>hk) (λ hs hk=>(zNB hs hk rfl)))))
def zCf (at_a1:Int) (cells:(Sl Bool)) (need:Int) (charge:Int) (zhi:(Sl (Int×Int))) (zhj:(Sl (Bool×Bool))) (sv3:(Sl Plane)):Bool :=
  (zCd at_a1 cells need charge ((s8 (⟨zhi,zhj⟩:Scanner) cells).1) ((s8 (⟨zhi,zhj⟩:Scanner) cells).2) sv3)
def zCg (at_a1:Int) (cells:(Sl Bool)) (need:Int) (charge:Int) (zhi:(Sl (Int×Int))) (zhj:(Sl (Bool×Bool))) (sv3:(Sl Plane)):Bool :=
  (decide ((p8 (⟨zhi,zhj⟩:Scanner) cells=true)) &&
 (zCe at_a1 cells need charge ((s8 (⟨zhi,zhj⟩:Scanner) cells).1) ((s8 (⟨zhi,zhj⟩:Scanner) cells).2) sv3))
theorem zND (hs:zCg at_a1 cells need charge zhi zhj sv3=true) (hk:K (e3 (zCf at_a1 cells need charge zhi zhj sv3))) (zH2:zzD=zg enc_34 sv3):z3 K [1,1,1,1] [] ⟨[(1,zI at_a1),(2,zS enc_4 1 cells),(3,zI need),(4,zI charge),(5,zp 5 0),(11,zp 11 0)],[(5,.box 24 [.p (.sl sv3.len 15 zzD)]),(11,.box 39 (zm (ze7 (⟨zhi,zhj⟩:Scanner))))],[]⟩:=by subst zH2;exact zaI (by kernel_rfl) (zaS hs λ hc hs=>And.intro (And.intro (zE zaY 2 zhi.get) (And.intro (zE za8 2 zhj.get) (And.intro (zE enc_4 1 cells.get) hc))) (zNC hs hk rfl rfl))
def zCh (at_a1:Int) (cells:(Sl Bool)) (need:Int) (charge:Int) (ev2:Int) (sv2:(Sl Plane)) (zhi:(Sl (Int×Int))) (zhj:(Sl (Bool×Bool))):Bool :=
  (cond (ev2 != (0:Int))
 false
 (zCf at_a1 cells need charge zhi zhj sv2))
def zCi (at_a1:Int) (cells:(Sl Bool)) (need:Int) (charge:Int) (ev2:Int) (sv2:(Sl Plane)) (zhi:(Sl (Int×Int))) (zhj:(Sl (Bool×Bool))):Bool :=
  (cond (ev2 != (0:Int))
 true
 (zCg at_a1 cells need charge zhi zhj sv2))
theorem zNE (hs:zCi at_a1 cells need charge ev2 sv2 zhi zhj=true) (hk:K (e3 (zCh at_a1 cells need charge ev2 sv2 zhi zhj))) (zzH:zmX=zg enc_34 sv2) (zJP:zB1=zg zaY zhi) (zJQ:zB2=zg za8 zhj):z3 K [1,1,1] [] ⟨[(1,zI at_a1),(2,zS enc_4 1 cells),(3,zI need),(4,zI charge),(5,zp 5 0),(11,zp 11 0),(12,zI ev2)],[(5,.box 24 [.p (.sl sv2.len 15 zmX)]),(11,.box 39 [.p (.sl zhi.len 2 zB1),.p (.sl zhj.len 2 zB2)])],[]⟩:=by subst zzH;subst zJP;subst zJQ;exact zaI (by kernel_rfl) (zc hs hk (λ hs hk=>hk) (λ hs hk=>(zND hs hk rfl)))
def zCj (at_a1:Int) (cells:(Sl Bool)) (need:Int) (charge:Int) (sv1:(Sl Plane)):Bool :=
  (zCh at_a1 cells need charge ((s7 need (0:Int)).2) sv1 (((s7 need (0:Int)).1).Next) (((s7 need (0:Int)).1).Out))
def zCk (at_a1:Int) (cells:(Sl Bool)) (need:Int) (charge:Int) (sv1:(Sl Plane)):Bool :=
  (decide ((p7 need (0:Int)=true)) &&
 (zCi at_a1 cells need charge ((s7 need (0:Int)).2) sv1 (((s7 need (0:Int)).1).Next) (((s7 need (0:Int)).1).Out)))
theorem zNF (hs:zCk at_a1 cells need charge sv1=true) (hk:K (e3 (zCj at_a1 cells need charge sv1))) (ziV:zfN=zg enc_34 sv1):z3 K [1,1] [] ⟨[(1,zI at_a1),(2,zS enc_4 1 cells),(3,zI need),(4,zI charge),(5,zp 5 0)],[(5,.box 24 [.p (.sl sv1.len 15 zfN)])],[]⟩:=by subst ziV;exact zaI (by kernel_rfl) (zaS hs λ hc hs=>And.intro hc (zNE hs hk rfl rfl rfl))
def zgN (at_a1:Int) (cells:(Sl Bool)) (need:Int) (charge:Int) (ztt:Bool) (sv0:(Sl Plane)):Bool :=
  (cond ztt
 true
 (zCj at_a1 cells need charge sv0))
def zgO (at_a1:Int) (cells:(Sl Bool)) (need:Int) (charge:Int) (ztt:Bool) (sv0:(Sl Plane)):Bool :=
  (cond ztt
 true
 (zCk at_a1 cells need charge sv0))
theorem ziq (hs:zgO at_a1 cells need charge ztt sv0=true) (hk:K (e3 (zgN at_a1 cells need charge ztt sv0))) (zeQ:zci=zg enc_34 sv0):z3 K [1,0,1] [] ⟨[(1,zI at_a1),(2,zS enc_4 1 cells),(3,zI need),(4,zI charge),(5,zp 5 0),(94,zB ztt)],[(5,.box 24 [.p (.sl sv0.len 15 zci)])],[]⟩:=by subst zeQ;exact zaI (by kernel_rfl) (zc hs hk (λ hs hk=>hk) (λ hs hk=>(zNF hs hk rfl)))
def s3 (s:Setup) (at_a1:Int) (cells:(Sl Bool)) (need:Int) (charge:Int):Bool :=
  (cond (!(s4 s))
 (zgN at_a1 cells need charge true s.Planes)
 (cond (!(s5 s))
 (zgN at_a1 cells need charge true s.Planes)
 (cond (decide (at_a1 < (0:Int)))
 (zgN at_a1 cells need charge true s.Planes)
 (cond (decide (at_a1 >= (s.Planes.len : Int)))
 (zgN at_a1 cells need charge true s.Planes)
 (cond ((s.Planes.get at_a1.toNat).Kind != (3:Int))
 (zgN at_a1 cells need charge true s.Planes)
 (cond (decide ((s.Planes.get at_a1.toNat).Strips > (100:Int)))
 (zgN at_a1 cells need charge true s.Planes)
 (cond ((cells.len : Int) != (s.Planes.get at_a1.toNat).Strips)
 (zgN at_a1 cells need charge true s.Planes)
 (cond (decide (need < (1:Int)))
 (zgN at_a1 cells need charge true s.Planes)
 (cond (decide (need > (5:Int)))
 (zgN at_a1 cells need charge true s.Planes)
 (cond (decide (charge < (s.Planes.get at_a1.toNat).Least))
 (zgN at_a1 cells need charge true s.Planes)
 (zgN at_a1 cells need charge (decide (charge > (1000000:Int))) s.Planes)))))))))))
def p3 (s:Setup) (at_a1:Int) (cells:(Sl Bool)) (need:Int) (charge:Int):Bool :=
  (decide ((p4 s=true)) &&
 (cond (!(s4 s))
 (zgO at_a1 cells need charge true s.Planes)
 (decide ((p5 s=true)) &&
 (cond (!(s5 s))
 (zgO at_a1 cells need charge true s.Planes)
 (cond (decide (at_a1 < (0:Int)))
 (zgO at_a1 cells need charge true s.Planes)
 (cond (decide (at_a1 >= (s.Planes.len : Int)))
 (zgO at_a1 cells need charge true s.Planes)
 (decide ((0<=at_a1/\at_a1 < (s.Planes.len:Int))) &&
 (cond ((s.Planes.get at_a1.toNat).Kind != (3:Int))
 (zgO at_a1 cells need charge true s.Planes)
 (decide ((0<=at_a1/\at_a1 < (s.Planes.len:Int))) &&
 (cond (decide ((s.Planes.get at_a1.toNat).Strips > (100:Int)))
 (zgO at_a1 cells need charge true s.Planes)
 (decide ((0<=at_a1/\at_a1 < (s.Planes.len:Int))) &&
 (cond ((cells.len : Int) != (s.Planes.get at_a1.toNat).Strips)
 (zgO at_a1 cells need charge true s.Planes)
 (cond (decide (need < (1:Int)))
 (zgO at_a1 cells need charge true s.Planes)
 (cond (decide (need > (5:Int)))
 (zgO at_a1 cells need charge true s.Planes)
 (decide ((0<=at_a1/\at_a1 < (s.Planes.len:Int))) &&
 (cond (decide (charge < (s.Planes.get at_a1.toNat).Least))
 (zgO at_a1 cells need charge true s.Planes)
 (zgO at_a1 cells need charge (decide (charge > (1000000:Int))) s.Planes)))))))))))))))))
end
theorem q3 (s:Setup) (at_a1:Int) (cells:(Sl Bool)) (need:Int) (charge:Int) (K:List PA->Prop) (hs:p3 s at_a1 cells need charge=true) (hk:K (e3 (s3 s at_a1 cells need charge))):vcFun Try.prog G3 zPX 3 [.agg (enc_24 s),.one (.int .i64 at_a1),.one (.sl cells.len 1 (λ i=>enc_4 (cells.get i))),.one (.int .i64 need),.one (.int .i64 charge)] K :=
  zaI (by kernel_rfl) (zaS hs λ hc hs=>And.intro (And.intro (zE enc_34 15 s.Planes.get) hc) (zc hs hk (λ hs hk=>(ziq hs hk rfl)) (λ hs hk=>(zaS hs λ hc hs=>And.intro (And.intro (zE enc_34 15 s.Planes.get) hc) (zc hs hk (λ hs hk=>(ziq hs hk rfl)) (λ hs hk=>(zc hs hk (λ hs hk=>(ziq hs hk rfl)) (λ hs hk=>(zc hs hk (λ hs hk=>(ziq hs hk rfl)) (λ hs hk=>(zaS hs λ hc hs=>And.intro hc (zc hs hk (λ hs hk=>(ziq hs hk rfl)) (λ hs hk=>(zaS hs λ hc hs=>And.intro hc (zc hs hk (λ hs hk=>(ziq hs hk rfl)) (λ hs hk=>(zaS hs λ hc hs=>And.intro hc (zc hs hk (λ hs hk=>(ziq hs hk rfl)) (λ hs hk=>(zc hs hk (λ hs hk=>(ziq hs hk rfl)) (λ hs hk=>(zc hs hk (λ hs hk=>(ziq hs hk rfl)) (λ hs hk=>(zaS hs λ hc hs=>And.intro hc (zc hs hk (λ hs hk=>(ziq hs hk rfl)) (λ hs hk=>(ziq hs hk rfl)))))))))))))))))))))))))))
def zQB : List PA → COut
  | [.agg [.sl zar zba zas],.one (.int .i64 a1),.one (.sl zN5 zQC zN6),.one (.int .i64 a3),.one (.int .i64 a4)]=>.det (IsE enc_34 15 zba zas/\IsE enc_4 1 zQC zN6/\p3 (⟨(⟨zar,zbA zas⟩:(Sl Plane))⟩:Setup) a1 (⟨zN5,zbj zN6⟩:(Sl Bool)) a3 a4=true) [.one (.bool (s3 (⟨(⟨zar,zbA zas⟩:(Sl Plane))⟩:Setup) a1 (⟨zN5,zbj zN6⟩:(Sl Bool)) a3 a4))]
  | _=>.no
theorem zP4:zal Try.prog 3:=⟨_,rfl,rfl,by kernel_rfl⟩
theorem ok3:Ok Try.prog 3 zQB:=za5 zR9 zP4 λ args K h=>by
  unfold zQB at h
  split at h
  · rename_i zar zba zas a1 zN5 zQC zN6 a3 a4
    obtain⟨⟨⟨rfl,zaM,rfl⟩,⟨rfl,zP5,rfl⟩,hs⟩,hk⟩:=h
    try rw[zbT zaM] at hs
    try rw[zbT zaM] at hk
    try rw[zfz zP5] at hs
    try rw[zfz zP5] at hk
    exact⟨(λ _ _=>[]),(λ _=>false),zPX,q3 (⟨(⟨zar,zaM⟩:(Sl Plane))⟩:Setup) a1 (⟨zN5,zP5⟩:(Sl Bool)) a3 a4 K hs hk⟩
  · exact h.elim
end Go.Proofs
