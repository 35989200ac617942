/- Part 6 of what the proof rests on: a machine that runs functions of the program on pure values, proved sound; the functions that the law reaches, and what they compute. -/
import Derived.Test.YtedhjaaikeakoaaDoorQ5
import Derived.Test.YtedhjaaikeakoaaDoorTie
import Derived.ProofKit
import Derived.LaidMore
import Derived.OpenShut
import Derived.Stop.Joined
import Derived.Test.YtedhjaaikeakoaaDoorCards
import Derived.WalkKit
set_option linter.all false
namespace Go.Proofs
open Go Go.Pm
set_option maxRecDepth 100000
set_option linter.unusedVariables false
attribute [local irreducible] Go.Pm.vcFun Go.Pm.vc Go.Pm.vcIter
abbrev T22:Tabs:=(((Tabs.nil.addF 67 ztE).addM 69 zHf).addF 70 zDL)
theorem zJD:TabsOk Tryd.prog T22:=(((TabsOk.nil.addF zIG).addM zLp).addF zLr)
abbrev G22:Ctrs:=csm T22 (λ _ _=>[]) (λ l=>Nat.beq l 12)
def zDM:Ann:=⟨29,[(0,zK [1,2,3] [1,2,3]),(1,zK [1,2,3,9] [1,2,3]),(2,zK [2,3] [2,3]),(3,zK [1,2,3] [1,2,3]),(4,zK [2,3,4] [2,3,12,14]),(5,zK [2,3,4,15] [2,3,12,14]),(6,zK [2,3,4,15,16] [2,3,12,14]),(7,zK [2,3,4,5,15] [2,3,12,14]),(8,zK [2,3,4,6,15] [2,3,12,14]),(9,zK [2,3,4,6,15,23] [2,3,12,14]),(10,zK [2,3] [2,3]),(11,zK [2,3,4,15] [2,3,12,14])],
 [(6,zK [2,3,4,15] [2,3,12,14])],
 [],
 [],[]⟩
abbrev R22:=((Sl Int)×Int)
abbrev e22 (r:R22):List PA:=[.one (.sl r.1.len 1 (λ i=>enc_3 (r.1.get i))),.one (.int .i64 r.2)]
@[irreducible] def z22:=ptF Tryd.prog G22 zDM Tryd.f22
def zBq (za9:Int) (zbd:Int) (za7:(Sl Tie)) (zbe:Nat) (zbf:(List Int->Option (List Int))) (zc9:Nat->List PV):St:=⟨[(2,zp 2 0),(3,zp 3 0),(4,zp 14 0),(15,zI za9)],[(2,.box 27 [.p (.nils)]),(3,.box 28 [zi (0:Int)]),(12,.mo 3 4 (false,1,false,[none]) zbe zbf),(14,.box 105 [zi zbd,.p (.sl za7.len 4 zc9),.mo 12])],[]⟩
abbrev zHl (K:List PA->Prop) (X:St->Prop) (P:Int->Int->(Sl Tie)->Nat->(List Int->Option (List Int))->Bool) (S:Int->Int->(Sl Tie)->Nat->(List Int->Option (List Int))->((Sl Int)×Int)):Prop:=∀ ⦃za9:Int⦄ ⦃zbd:Int⦄ ⦃za7:(Sl Tie)⦄ ⦃zbe:Nat⦄ ⦃zbf:(List Int->Option (List Int))⦄ ⦃zc9:Nat->List PV⦄,P za9 zbd za7 zbe zbf=true->K (e22 (S za9 zbd za7 zbe zbf))->zc9=zg enc_40 za7->X (zBq za9 zbd za7 zbe zbf zc9)
section
variable {K:List PA->Prop}{n:Net}{za9:Int}{zbd:Int}{za7:(Sl Tie)}{zbe:Nat}{zbf:(List Int->Option (List Int))}{zc9:Nat->List PV}{X0:St->Prop}{P0:Int->Int->(Sl Tie)->Nat->(List Int->Option (List Int))->Bool}{S0:Int->Int->(Sl Tie)->Nat->(List Int->Option (List Int))->((Sl Int)×Int)}
def zw4 (S0:Int->Int->(Sl Tie)->Nat->(List Int->Option (List Int))->((Sl Int)×Int)) (za9:Int) (zbd:Int) (za7:(Sl Tie)) (zbe:Nat) (zbf:(List Int->Option (List Int))):((Sl Int)×Int) :=
  (cond (decide (za9 < (4:Int)))
 (cond (decide ((((s69 (⟨(⟨zbd, za7⟩ : Net), (⟨zbe, zbf⟩ : Mp)⟩ : web) za9).1).len : Int) > (0:Int)))
 ((s70 ((s69 (⟨(⟨zbd,za7⟩:Net),(⟨zbe,zbf⟩:Mp)⟩:web) za9).1)),(0:Int))
 (S0 (w64 (za9+(1:Int))) (((s69 (⟨(⟨zbd,za7⟩:Net),(⟨zbe,zbf⟩:Mp)⟩:web) za9).2).Net.Nodes) (((s69 (⟨(⟨zbd,za7⟩:Net),(⟨zbe,zbf⟩:Mp)⟩:web) za9).2).Net.Ties) ((((s69 (⟨(⟨zbd,za7⟩:Net),(⟨zbe,zbf⟩:Mp)⟩:web) za9).2).out).n) ((((s69 (⟨(⟨zbd,za7⟩:Net),(⟨zbe,zbf⟩:Mp)⟩:web) za9).2).out).F)))
 default)
def zw5 (P0:Int->Int->(Sl Tie)->Nat->(List Int->Option (List Int))->Bool) (za9:Int) (zbd:Int) (za7:(Sl Tie)) (zbe:Nat) (zbf:(List Int->Option (List Int))):Bool :=
  (cond (decide (za9 < (4:Int)))
 (decide ((p69 (⟨(⟨zbd,za7⟩:Net),(⟨zbe,zbf⟩:Mp)⟩:web) za9=true)) &&
 (cond (decide ((((s69 (⟨(⟨zbd, za7⟩ : Net), (⟨zbe, zbf⟩ : Mp)⟩ : web) za9).1).len : Int) > (0:Int)))
 (decide ((p70 ((s69 (⟨(⟨zbd,za7⟩:Net),(⟨zbe,zbf⟩:Mp)⟩:web) za9).1)=true)) &&
 true)
 (P0 (w64 (za9+(1:Int))) (((s69 (⟨(⟨zbd,za7⟩:Net),(⟨zbe,zbf⟩:Mp)⟩:web) za9).2).Net.Nodes) (((s69 (⟨(⟨zbd,za7⟩:Net),(⟨zbe,zbf⟩:Mp)⟩:web) za9).2).Net.Ties) ((((s69 (⟨(⟨zbd,za7⟩:Net),(⟨zbe,zbf⟩:Mp)⟩:web) za9).2).out).n) ((((s69 (⟨(⟨zbd,za7⟩:Net),(⟨zbe,zbf⟩:Mp)⟩:web) za9).2).out).F))))
 false)
def zw6:Nat->Int->Int->(Sl Tie)->Nat->(List Int->Option (List Int))->((Sl Int)×Int):=lpO (λ _ _ _ _ _=>default) (zw4)
def zw7:Nat->Int->Int->(Sl Tie)->Nat->(List Int->Option (List Int))->Bool:=lpO (λ _ _ _ _ _=>false) (zw5)
def zw8 (za9:Int) (zbd:Int) (za7:(Sl Tie)) (zbe:Nat) (zbf:(List Int->Option (List Int))):((Sl Int)×Int):=zw6 Fuel za9 zbd za7 zbe zbf
def zw9 (za9:Int) (zbd:Int) (za7:(Sl Tie)) (zbe:Nat) (zbf:(List Int->Option (List Int))):Bool:=zw7 Fuel za9 zbd za7 zbe zbf
theorem zDN (hs:zw9 za9 zbd za7 zbe zbf=true) (hk:K (e22 (zw8 za9 zbd za7 zbe zbf))) (zkA:zc9=zg enc_40 za7):z22 (Wk K) [1,1,1,1,0,1,0] [] (zBq za9 zbd za7 zbe zbf zc9) :=
  zl (λ X=>z22 (Wk K) [1,1,1,1,0,1,0,0] [X]) (by kernel_rfl) λ X0 hX =>
  (show ∀ k, zHl K X0 (zw7 k) (zw6 k) from zfW _ _ (zw5) (zw4) (zHl K X0)
 (by intro _ _ _ _ _ _ hs;exact absurd hs Bool.false_ne_true)
 (by intro P0 S0 hX0 za9 zbd za7 zbe zbf zc9 hs hk zkA;subst zkA;exact hX _ (zaX (by kernel_rfl) (zc hs hk (λ hs hk=>(zaQ hs λ hc hs=>And.intro (And.intro (zE enc_40 4 za7.get) (And.intro (rfl:((false,1,false,[none]):MQ)=(false,1,false,[none])) hc)) (zc hs hk (λ hs hk=>(zaQ hs λ hc hs=>And.intro (And.intro (zE zbP 1 (((s69 (⟨(⟨zbd,za7⟩:Net),(⟨zbe,zbf⟩:Mp)⟩:web) za9).1).get)) hc) ((zgn hk):Wk K [.one (.sl ((s70 ((s69 (⟨(⟨zbd,za7⟩:Net),(⟨zbe,zbf⟩:Mp)⟩:web) za9).1)).len) 1 (λ i=>enc_3 ((s70 ((s69 (⟨(⟨zbd,za7⟩:Net),(⟨zbe,zbf⟩:Mp)⟩:web) za9).1)).get i))),.one (.int .i64 (0:Int))]))) (λ hs hk=>(hX0 hs hk rfl))))) (λ hs hk=>(absurd hs Bool.false_ne_true:False)))))) _ hs hk zkA
def s22 (n:Net):((Sl Int)×Int) :=
  (cond (!(s67 n))
 ((⟨0,λ _=>default⟩:(Sl Int)),(2:Int))
 (zw8 (0:Int) n.Nodes n.Ties 0 (λ _=>none)))
def p22 (n:Net):Bool :=
  (decide ((p67 n=true)) &&
 (cond (!(s67 n))
 true
 (zw9 (0:Int) n.Nodes n.Ties 0 (λ _=>none))))
end
theorem q22 (n:Net) (K:List PA->Prop) (hs:p22 n=true) (hk:K (e22 (s22 n))):zsQ Tryd.prog G22 68 zDM 22 [.agg (enc_24 n)] (Wk K) :=
  zaX (by kernel_rfl) (zaQ hs λ hc hs=>And.intro (And.intro (zE enc_40 4 n.Ties.get) hc) (zc hs hk (λ hs hk=>((wk hk (zhp (.one (.nil _ _)) (zhp (.one (.rfl _)) znx))):Wk K [.one (.nils),.one (.int .i64 (2:Int))])) (λ hs hk=>(zDN hs hk rfl))))
def zDO : List PA → COut
  | [.agg [.int .i64 zah,.sl zae zaz zad]]=>.det (IsE enc_40 4 zaz zad/\p22 (⟨zah,(⟨zae,zal zad⟩:(Sl Tie))⟩:Net)=true) [.one (.sl (((s22 (⟨zah,(⟨zae,zal zad⟩:(Sl Tie))⟩:Net)).1).len) 1 (λ i=>enc_3 (((s22 (⟨zah,(⟨zae,zal zad⟩:(Sl Tie))⟩:Net)).1).get i))),.one (.int .i64 ((s22 (⟨zah,(⟨zae,zal zad⟩:(Sl Tie))⟩:Net)).2))]
  | _=>.no
theorem zHm:zas Tryd.prog 22:=⟨_,rfl,rfl,by kernel_rfl⟩
theorem zLs:Ok Tryd.prog 22 zDO:=zAl zJD zHm zHk λ args K h=>by
  unfold zDO at h
  split at h
  · rename_i zah zae zaz zad
    obtain⟨⟨⟨rfl,zar,rfl⟩,hs⟩,hk⟩:=h
    try rw[zak zar] at hs
    try rw[zak zar] at hk
    exact⟨_,zff zgm _,(λ _ _=>[]),(λ l=>Nat.beq l 12),zDM,q22 (⟨zah,(⟨zae,zar⟩:(Sl Tie))⟩:Net) K hs hk⟩
  · exact h.elim
abbrev T25:Tabs:=Tabs.nil
theorem zJE:TabsOk Tryd.prog T25:=TabsOk.nil
abbrev G25:Ctrs:=csm T25 (λ _ _=>[]) (λ _=>false)
def zDP:Ann:=⟨26,[(0,zK [0,1] []),(1,zK [0,1,10] []),(2,zK [4] []),(3,zK [0,1,5] []),(4,zK [0,1,5,14] []),(5,zK [0,1,5] []),(6,zK [0,1,5,25] []),(7,zK [4] []),(8,zK [4] [])],
 [(4,zK [0,1,5] [])],
 [(3,zK [0,1] [])],
 [],[]⟩
abbrev R25:=Bool
abbrev e25 (r:R25):List PA:=[.one (.bool r)]
@[irreducible] def z25:=ptF Tryd.prog G25 zDP Tryd.f25
def zBr (a:(Sl Int)) (b:(Sl Int)) (iv1:Int):St:=⟨[(0,zS enc_3 1 a),(1,zS enc_3 1 b),(5,zI iv1)],[],[]⟩
abbrev zHn (K:List PA->Prop) (a:(Sl Int)) (b:(Sl Int)) (X:St->Prop) (P:Int->Bool) (S:Int->Bool):Prop:=∀ ⦃iv1:Int⦄,P iv1=true->K (e25 (S iv1))->X (zBr a b iv1)
section
variable {K:List PA->Prop}{a:(Sl Int)}{b:(Sl Int)}{iv1:Int}{X1:St->Prop}{P1:Int->Bool}{S1:Int->Bool}
def zxa (a:(Sl Int)) (b:(Sl Int)) (S1:Int->Bool) (iv1:Int):Bool :=
  (cond (decide (iv1 < (a.len : Int)))
 (cond ((a.get iv1.toNat) != (b.get iv1.toNat))
 false
 (S1 (w64 (iv1+(1:Int)))))
 true)
def zxb (a:(Sl Int)) (b:(Sl Int)) (P1:Int->Bool) (iv1:Int):Bool :=
  (cond (decide (iv1 < (a.len : Int)))
 (decide ((0≤iv1/\iv1 < (a.len:Int))) &&
 (decide ((0≤iv1/\iv1 < (b.len:Int))) &&
 (cond ((a.get iv1.toNat) != (b.get iv1.toNat))
 true
 (P1 (w64 (iv1+(1:Int)))))))
 true)
def zxc (a:(Sl Int)) (b:(Sl Int)):Nat->Int->Bool:=lpO (λ _=>default) (zxa a b)
def zxd (a:(Sl Int)) (b:(Sl Int)):Nat->Int->Bool:=lpO (λ _=>false) (zxb a b)
def zxe (a:(Sl Int)) (b:(Sl Int)) (iv1:Int):Bool:=zxc a b Fuel iv1
def zxf (a:(Sl Int)) (b:(Sl Int)) (iv1:Int):Bool:=zxd a b Fuel iv1
theorem zDQ (hs:zxf a b iv1=true) (hk:K (e25 (zxe a b iv1))):z25 K [1,1,0,1,0] [] (zBr a b iv1) :=
  zl (λ X=>z25 K [1,1,0,1,0,0] [X]) (by kernel_rfl) λ X1 hX =>
  (show ∀ k, zHn K a b X1 (zxd a b k) (zxc a b k) from zfW _ _ (zxb a b) (zxa a b) (zHn K a b X1)
 (by intro _ hs;exact absurd hs Bool.false_ne_true)
 (by intro P1 S1 hX1 iv1 hs hk;exact hX _ (zaX (by kernel_rfl) (zc hs hk (λ hs hk=>(zaQ hs λ hc hs=>And.intro hc (zaQ hs λ hc hs=>And.intro hc (zc hs hk (λ hs hk=>hk) (λ hs hk=>(hX1 hs hk)))))) (λ hs hk=>hk))))) _ hs hk
def zxg (a:(Sl Int)) (b:(Sl Int)):Bool :=
  (zxe a b (0:Int))
def zxh (a:(Sl Int)) (b:(Sl Int)):Bool :=
  (zxf a b (0:Int))
theorem zDR (hs:zxh a b=true) (hk:K (e25 (zxg a b))):z25 K [1,1] [] ⟨[(0,zS enc_3 1 a),(1,zS enc_3 1 b)],[],[]⟩:=zaX (by kernel_rfl) (zDQ hs hk)
def s25 (a:(Sl Int)) (b:(Sl Int)):Bool :=
  (cond ((a.len : Int) != (b.len : Int))
 false
 (zxg a b))
def p25 (a:(Sl Int)) (b:(Sl Int)):Bool :=
  (cond ((a.len : Int) != (b.len : Int))
 true
 (zxh a b))
end
theorem q25 (a:(Sl Int)) (b:(Sl Int)) (K:List PA->Prop) (hs:p25 a b=true) (hk:K (e25 (s25 a b))):vcFun Tryd.prog G25 zDP 25 [.one (.sl a.len 1 (λ i=>enc_3 (a.get i))),.one (.sl b.len 1 (λ i=>enc_3 (b.get i)))] K :=
  zaX (by kernel_rfl) (zc hs hk (λ hs hk=>hk) (λ hs hk=>(zDR hs hk)))
def zDS : List PA → COut
  | [.one (.sl zfv zlB zfw),.one (.sl zdA zhP zdr)]=>.det (IsE enc_3 1 zlB zfw/\IsE enc_3 1 zhP zdr/\p25 (⟨zfv,zat zfw⟩:(Sl Int)) (⟨zdA,zat zdr⟩:(Sl Int))=true) [.one (.bool (s25 (⟨zfv,zat zfw⟩:(Sl Int)) (⟨zdA,zat zdr⟩:(Sl Int))))]
  | _=>.no
theorem zHo:zas Tryd.prog 25:=⟨_,rfl,rfl,by kernel_rfl⟩
theorem zLt:Ok Tryd.prog 25 zDS:=zbm zJE zHo λ args K h=>by
  unfold zDS at h
  split at h
  · rename_i zfv zlB zfw zdA zhP zdr
    obtain⟨⟨⟨rfl,zh0,rfl⟩,⟨rfl,zfl,rfl⟩,hs⟩,hk⟩:=h
    try rw[za3 zh0] at hs
    try rw[za3 zh0] at hk
    try rw[za3 zfl] at hs
    try rw[za3 zfl] at hk
    exact⟨(λ _ _=>[]),(λ _=>false),zDP,q25 (⟨zfv,zh0⟩:(Sl Int)) (⟨zdA,zfl⟩:(Sl Int)) K hs hk⟩
  · exact h.elim
abbrev T29:Tabs:=Tabs.nil
theorem zJF:TabsOk Tryd.prog T29:=TabsOk.nil
abbrev G29:Ctrs:=csm T29 (λ _ _=>[]) (λ _=>false)
def zHp:Ann:=⟨13,[(0,zK [2,3,4] [2,3,4]),(1,zK [2,4] [2,4,7]),(2,zK [4] [4,7])],
 [],
 [],
 [],[]⟩
abbrev R29:=Net
abbrev e29 (r:R29):List PA:=[.agg [.int .i64 r.Nodes,.sl r.Ties.len 4 (λ i=>enc_40 (r.Ties.get i))]]
section
variable {K:List PA->Prop}{n:Net}{t:Tie}
def s29 (n:Net) (t:Tie):Net :=
  (⟨n.Nodes,(⟨(n.Ties.len+1),(ziY n.Ties.len n.Ties.get (λ _=>t))⟩:(Sl Tie))⟩:Net)
def p29 (n:Net) (t:Tie):Bool :=
  (decide ((n.Ties.len * 32≤140737488355328/\n.Ties.len≤9223372036854775807)) &&
 (decide (((n.Ties.len+1) * 32≤140737488355328/\n.Ties.len+1≤9223372036854775807)) &&
 true))
end
theorem q29 (n:Net) (t:Tie) (K:List PA->Prop) (hs:p29 n t=true) (hk:K (e29 (s29 n t))):vcFun Tryd.prog G29 zHp 29 [.agg (enc_24 n),.agg (enc_40 t)] K :=
  zaX (by kernel_rfl) (zaQ hs λ hc hs=>And.intro hc (zaQ hs λ hc hs=>And.intro hc (Eq.mpr (congrArg K (congrArg (λ (g_:Nat->List PV)=>([.agg [.int .i64 n.Nodes,.sl (n.Ties.len+1) 4 g_]]:List PA)) (zon (enc:=enc_40) (f:=n.Ties.get) (h:=(λ _=>t)) rfl rfl))) hk)))
def zDT : List PA → COut
  | [.agg [.int .i64 zah,.sl zae zaz zad],.agg [.int .i64 zei,.int .i64 zk1,.int .i64 zgp,.int .i64 zej]]=>.det (IsE enc_40 4 zaz zad/\p29 (⟨zah,(⟨zae,zal zad⟩:(Sl Tie))⟩:Net) (⟨zei,zk1,zgp,zej⟩:Tie)=true) [.agg [.int .i64 ((s29 (⟨zah,(⟨zae,zal zad⟩:(Sl Tie))⟩:Net) (⟨zei,zk1,zgp,zej⟩:Tie)).Nodes),.sl ((s29 (⟨zah,(⟨zae,zal zad⟩:(Sl Tie))⟩:Net) (⟨zei,zk1,zgp,zej⟩:Tie)).Ties.len) 4 (λ i=>enc_40 ((s29 (⟨zah,(⟨zae,zal zad⟩:(Sl Tie))⟩:Net) (⟨zei,zk1,zgp,zej⟩:Tie)).Ties.get i))]]
  | _=>.no
theorem zHq:zas Tryd.prog 29:=⟨_,rfl,rfl,by kernel_rfl⟩
theorem zLu:Ok Tryd.prog 29 zDT:=zbm zJF zHq λ args K h=>by
  unfold zDT at h
  split at h
  · rename_i zah zae zaz zad zei zk1 zgp zej
    obtain⟨⟨⟨rfl,zar,rfl⟩,hs⟩,hk⟩:=h
    try rw[zak zar] at hs
    try rw[zak zar] at hk
    exact⟨(λ _ _=>[]),(λ _=>false),zHp,q29 (⟨zah,(⟨zae,zar⟩:(Sl Tie))⟩:Net) (⟨zei,zk1,zgp,zej⟩:Tie) K hs hk⟩
  · exact h.elim
abbrev T32:Tabs:=Tabs.nil
theorem zJG:TabsOk Tryd.prog T32:=TabsOk.nil
abbrev G32:Ctrs:=csm T32 (λ _ _=>[]) (λ _=>false)
def zDU:Ann:=⟨26,[(0,zK [0,1] []),(1,zK [0,1,10] []),(2,zK [4] []),(3,zK [0,1,5] []),(4,zK [0,1,5,14] []),(5,zK [0,1,5] []),(6,zK [0,1,5,25] []),(7,zK [4] []),(8,zK [4] [])],
 [(4,zK [0,1,5] [])],
 [(3,zK [0,1] [])],
 [],[]⟩
abbrev R32:=Bool
abbrev e32 (r:R32):List PA:=[.one (.bool r)]
@[irreducible] def z32:=ptF Tryd.prog G32 zDU Tryd.f32
def zBs (a:(Sl Span)) (b:(Sl Span)) (iv1:Int):St:=⟨[(0,zS zbq 2 a),(1,zS zbq 2 b),(5,zI iv1)],[],[]⟩
abbrev zHr (K:List PA->Prop) (a:(Sl Span)) (b:(Sl Span)) (X:St->Prop) (P:Int->Bool) (S:Int->Bool):Prop:=∀ ⦃iv1:Int⦄,P iv1=true->K (e32 (S iv1))->X (zBs a b iv1)
section
variable {K:List PA->Prop}{a:(Sl Span)}{b:(Sl Span)}{iv1:Int}{X1:St->Prop}{P1:Int->Bool}{S1:Int->Bool}
def zxi (a:(Sl Span)) (b:(Sl Span)) (S1:Int->Bool) (iv1:Int):Bool :=
  (cond (decide (iv1 < (a.len : Int)))
 (cond (!(match ((a.get iv1.toNat).Low == (b.get iv1.toNat).Low) with | true => (match ((a.get iv1.toNat).High == (b.get iv1.toNat).High) with | true => true | false => false) | false => false))
 false
 (S1 (w64 (iv1+(1:Int)))))
 true)
def zxj (a:(Sl Span)) (b:(Sl Span)) (P1:Int->Bool) (iv1:Int):Bool :=
  (cond (decide (iv1 < (a.len : Int)))
 (decide ((0≤iv1/\iv1 < (a.len:Int))) &&
 (decide ((0≤iv1/\iv1 < (b.len:Int))) &&
 (cond (!(match ((a.get iv1.toNat).Low == (b.get iv1.toNat).Low) with | true => (match ((a.get iv1.toNat).High == (b.get iv1.toNat).High) with | true => true | false => false) | false => false))
 true
 (P1 (w64 (iv1+(1:Int)))))))
 true)
def zxk (a:(Sl Span)) (b:(Sl Span)):Nat->Int->Bool:=lpO (λ _=>default) (zxi a b)
def zxl (a:(Sl Span)) (b:(Sl Span)):Nat->Int->Bool:=lpO (λ _=>false) (zxj a b)
def zxm (a:(Sl Span)) (b:(Sl Span)) (iv1:Int):Bool:=zxk a b Fuel iv1
def zxn (a:(Sl Span)) (b:(Sl Span)) (iv1:Int):Bool:=zxl a b Fuel iv1
theorem zDV (hs:zxn a b iv1=true) (hk:K (e32 (zxm a b iv1))):z32 K [1,1,0,1,0] [] (zBs a b iv1) :=
  zl (λ X=>z32 K [1,1,0,1,0,0] [X]) (by kernel_rfl) λ X1 hX =>
  (show ∀ k, zHr K a b X1 (zxl a b k) (zxk a b k) from zfW _ _ (zxj a b) (zxi a b) (zHr K a b X1)
 (by intro _ hs;exact absurd hs Bool.false_ne_true)
 (by intro P1 S1 hX1 iv1 hs hk;exact hX _ (zaX (by kernel_rfl) (zc hs hk (λ hs hk=>(zaQ hs λ hc hs=>And.intro hc (zaQ hs λ hc hs=>And.intro hc (zc hs hk (λ hs hk=>hk) (λ hs hk=>(hX1 hs hk)))))) (λ hs hk=>hk))))) _ hs hk
def zxo (a:(Sl Span)) (b:(Sl Span)):Bool :=
  (zxm a b (0:Int))
def zxp (a:(Sl Span)) (b:(Sl Span)):Bool :=
  (zxn a b (0:Int))
theorem zDW (hs:zxp a b=true) (hk:K (e32 (zxo a b))):z32 K [1,1] [] ⟨[(0,zS zbq 2 a),(1,zS zbq 2 b)],[],[]⟩:=zaX (by kernel_rfl) (zDV hs hk)
def s32 (a:(Sl Span)) (b:(Sl Span)):Bool :=
  (cond ((a.len : Int) != (b.len : Int))
 false
 (zxo a b))
def p32 (a:(Sl Span)) (b:(Sl Span)):Bool :=
  (cond ((a.len : Int) != (b.len : Int))
 true
 (zxp a b))
end
theorem q32 (a:(Sl Span)) (b:(Sl Span)) (K:List PA->Prop) (hs:p32 a b=true) (hk:K (e32 (s32 a b))):vcFun Tryd.prog G32 zDU 32 [.one (.sl a.len 2 (λ i=>zbq (a.get i))),.one (.sl b.len 2 (λ i=>zbq (b.get i)))] K :=
  zaX (by kernel_rfl) (zc hs hk (λ hs hk=>hk) (λ hs hk=>(zDW hs hk)))
def zDX : List PA → COut
  | [.one (.sl zfv zlB zfw),.one (.sl zdA zhP zdr)]=>.det (IsE zbq 2 zlB zfw/\IsE zbq 2 zhP zdr/\p32 (⟨zfv,zfg zfw⟩:(Sl Span)) (⟨zdA,zfg zdr⟩:(Sl Span))=true) [.one (.bool (s32 (⟨zfv,zfg zfw⟩:(Sl Span)) (⟨zdA,zfg zdr⟩:(Sl Span))))]
  | _=>.no
theorem zHs:zas Tryd.prog 32:=⟨_,rfl,rfl,by kernel_rfl⟩
theorem ok32:Ok Tryd.prog 32 zDX:=zbm zJG zHs λ args K h=>by
  unfold zDX at h
  split at h
  · rename_i zfv zlB zfw zdA zhP zdr
    obtain⟨⟨⟨rfl,zh0,rfl⟩,⟨rfl,zfl,rfl⟩,hs⟩,hk⟩:=h
    try rw[zeL zh0] at hs
    try rw[zeL zh0] at hk
    try rw[zeL zfl] at hs
    try rw[zeL zfl] at hk
    exact⟨(λ _ _=>[]),(λ _=>false),zDU,q32 (⟨zfv,zh0⟩:(Sl Span)) (⟨zdA,zfl⟩:(Sl Span)) K hs hk⟩
  · exact h.elim
abbrev T83:Tabs:=((Tabs.nil.addF 75 zvV).addF 76 zv0)
theorem zJH:TabsOk Tryd.prog T83:=((TabsOk.nil.addF zJi).addF zJk)
abbrev G83:Ctrs:=csm T83 (λ _ _=>[]) (λ _=>false)
def zDY:Ann:=⟨31,[(0,zK [0] []),(1,zK [0,3,4] [3,4]),(2,zK [3,4,14,15] [3,4]),(3,zK [3,4,14,15,16] [3,4]),(4,zK [3,4,5,14,15] [3,4]),(5,zK [3,4,14,15,29] [3,4]),(6,zK [2] []),(7,zK [3,4,14,15] [3,4]),(8,zK [2] [])],
 [(3,zK [3,4,14,15] [3,4])],
 [(2,zK [0,3,4] [3,4])],
 [],[]⟩
abbrev R83:=Bool
abbrev e83 (r:R83):List PA:=[.one (.bool r)]
@[irreducible] def z83:=ptF Tryd.prog G83 zDY Tryd.f83
def zBt (w:web) (zcw:Int) (tot1:Tab) (fromt1:Tab):St:=⟨[(3,zp 3 0),(4,zp 4 0),(14,zI w.Net.Nodes),(15,zI zcw)],[(3,.box 116 (zm (zao tot1))),(4,.box 116 (zm (zao fromt1)))],[]⟩
abbrev zHt (K:List PA->Prop) (w:web) (X:St->Prop) (P:Int->Tab->Tab->Bool) (S:Int->Tab->Tab->Bool):Prop:=∀ ⦃zcw:Int⦄ ⦃tot1:Tab⦄ ⦃fromt1:Tab⦄,P zcw tot1 fromt1=true->K (e83 (S zcw tot1 fromt1))->X (zBt w zcw tot1 fromt1)
section
variable {K:List PA->Prop}{w:web}{tot0:Tab}{fromt0:Tab}{zcw:Int}{tot1:Tab}{fromt1:Tab}{X1:St->Prop}{P1:Int->Tab->Tab->Bool}{S1:Int->Tab->Tab->Bool}
def zxq (w:web) (S1:Int->Tab->Tab->Bool) (zcw:Int) (tot1:Tab) (fromt1:Tab):Bool :=
  (cond (decide (zcw < w.Net.Nodes))
 (cond (match ((tg 80 tot1 (0 + zcw.toNat * 2 + 0)) == (1000000000000:Int)) with | true => (match ((tg 80 tot1 (0 + zcw.toNat * 2 + 0 + 1)) == (0:Int)) with | true => true | false => false) | false => false)
 false
 (cond (match ((tg 80 fromt1 (0 + zcw.toNat * 2 + 0)) == (1000000000000:Int)) with | true => (match ((tg 80 fromt1 (0 + zcw.toNat * 2 + 0 + 1)) == (0:Int)) with | true => true | false => false) | false => false)
 false
 (S1 (w64 (zcw+(1:Int))) tot1 fromt1)))
 true)
def zxr (w:web) (P1:Int->Tab->Tab->Bool) (zcw:Int) (tot1:Tab) (fromt1:Tab):Bool :=
  (cond (decide (zcw < w.Net.Nodes))
 (decide ((0≤zcw/\zcw < (40:Int))) &&
 (cond (match ((tg 80 tot1 (0 + zcw.toNat * 2 + 0)) == (1000000000000:Int)) with | true => (match ((tg 80 tot1 (0 + zcw.toNat * 2 + 0 + 1)) == (0:Int)) with | true => true | false => false) | false => false)
 true
 (decide ((0≤zcw/\zcw < (40:Int))) &&
 (cond (match ((tg 80 fromt1 (0 + zcw.toNat * 2 + 0)) == (1000000000000:Int)) with | true => (match ((tg 80 fromt1 (0 + zcw.toNat * 2 + 0 + 1)) == (0:Int)) with | true => true | false => false) | false => false)
 true
 (P1 (w64 (zcw+(1:Int))) tot1 fromt1)))))
 true)
def zxs (w:web):Nat->Int->Tab->Tab->Bool:=lpO (λ _ _ _=>default) (zxq w)
def zxt (w:web):Nat->Int->Tab->Tab->Bool:=lpO (λ _ _ _=>false) (zxr w)
def zxu (w:web) (zcw:Int) (tot1:Tab) (fromt1:Tab):Bool:=zxs w Fuel zcw tot1 fromt1
def zxv (w:web) (zcw:Int) (tot1:Tab) (fromt1:Tab):Bool:=zxt w Fuel zcw tot1 fromt1
theorem zDZ (hs:zxv w zcw tot1 fromt1=true) (hk:K (e83 (zxu w zcw tot1 fromt1))):z83 K [1,1,0,1,0] [] (zBt w zcw tot1 fromt1) :=
  zl (λ X=>z83 K [1,1,0,1,0,0] [X]) (by kernel_rfl) λ X1 hX =>
  (show ∀ k, zHt K w X1 (zxt w k) (zxs w k) from zfW _ _ (zxr w) (zxq w) (zHt K w X1)
 (by intro _ _ _ hs;exact absurd hs Bool.false_ne_true)
 (by intro P1 S1 hX1 zcw tot1 fromt1 hs hk;exact hX _ (zaX (by kernel_rfl) (zc hs hk (λ hs hk=>(zaQ hs λ hc hs=>And.intro hc (zc hs hk (λ hs hk=>hk) (λ hs hk=>(zaQ hs λ hc hs=>And.intro hc (zc hs hk (λ hs hk=>hk) (λ hs hk=>(hX1 hs hk)))))))) (λ hs hk=>hk))))) _ hs hk
def zxw (w:web) (tot0:Tab) (fromt0:Tab):Bool :=
  (zxu w (0:Int) tot0 fromt0)
def zxx (w:web) (tot0:Tab) (fromt0:Tab):Bool :=
  (zxv w (0:Int) tot0 fromt0)
theorem zD0 (hs:zxx w tot0 fromt0=true) (hk:K (e83 (zxw w tot0 fromt0))):z83 K [1,1] [] ⟨[(0,zP (.fp (zaC w) 0)),(3,zp 3 0),(4,zp 4 0)],[(3,.box 116 (zm (zao tot0))),(4,.box 116 (zm (zao fromt0)))],[]⟩:=zaX (by kernel_rfl) (zDZ hs hk)
def s83 (w:web):Bool :=
  (zxw w (s75 w (0:Int)) (s76 w (0:Int)))
def p83 (w:web):Bool :=
  (decide ((p75 w (0:Int)=true)) &&
 (decide ((p76 w (0:Int)=true)) &&
 (zxx w (s75 w (0:Int)) (s76 w (0:Int)))))
end
theorem q83 (w:web) (K:List PA->Prop) (hs:p83 w=true) (hk:K (e83 (s83 w))):vcFun Tryd.prog G83 zDY 83 [.one (.fp (zaC w) 0)] K :=
  zaX (by kernel_rfl) (zaQ hs λ hc hs=>And.intro (And.intro (zE enc_40 4 w.Net.Ties.get) (And.intro (rfl:((false,1,false,[none]):MQ)=(false,1,false,[none])) hc)) (zaQ hs λ hc hs=>And.intro (And.intro (zE enc_40 4 w.Net.Ties.get) (And.intro (rfl:((false,1,false,[none]):MQ)=(false,1,false,[none])) hc)) (zD0 hs hk)))
def zD1 : List PA → COut
  | [.one (.fp [.int .i64 zan,.sl zai zaF zaj,.fm zbn zaH zaI] 0)]=>.det (IsE enc_40 4 zaF zaj/\zbn=(false,1,false,[none])/\p83 (⟨(⟨zan,(⟨zai,zal zaj⟩:(Sl Tie))⟩:Net),(⟨zaH,zaI⟩:Mp)⟩:web)=true) [.one (.bool (s83 (⟨(⟨zan,(⟨zai,zal zaj⟩:(Sl Tie))⟩:Net),(⟨zaH,zaI⟩:Mp)⟩:web)))]
  | _=>.no
theorem zHu:zas Tryd.prog 83:=⟨_,rfl,rfl,by kernel_rfl⟩
theorem zLv:Ok Tryd.prog 83 zD1:=zbm zJH zHu λ args K h=>by
  unfold zD1 at h
  split at h
  · rename_i zan zai zaF zaj zbn zaH zaI
    obtain⟨⟨⟨rfl,zay,rfl⟩,rfl,hs⟩,hk⟩:=h
    try rw[zak zay] at hs
    try rw[zak zay] at hk
    exact⟨(λ _ _=>[]),(λ _=>false),zDY,q83 (⟨(⟨zan,(⟨zai,zay⟩:(Sl Tie))⟩:Net),(⟨zaH,zaI⟩:Mp)⟩:web) K hs hk⟩
  · exact h.elim
abbrev T87:Tabs:=Tabs.nil
theorem zJI:TabsOk Tryd.prog T87:=TabsOk.nil
abbrev G87:Ctrs:=csm T87 (λ _ _=>[]) (λ _=>false)
def zHv:Ann:=⟨12,[(0,zK [0,1] []),(1,zK [3] [])],
 [],
 [],
 [],[]⟩
abbrev R87:=Int
abbrev e87 (r:R87):List PA:=[.one (.int .i64 r)]
section
variable {K:List PA->Prop}{c0:Tab}{i_a0:Int}
def s87 (c0:Tab) (i_a0:Int):Int :=
  (w64 ((tg 80 c0 (0+i_a0.toNat * 2+0)) - (tg 80 c0 (0+0 * 2+0))))
def p87 (c0:Tab) (i_a0:Int):Bool :=
  (decide ((0≤i_a0/\i_a0 < (40:Int))) &&
 (decide ((0≤(0:Int)/\(0:Int) < (40:Int))) &&
 true))
end
theorem q87 (c0:Tab) (i_a0:Int) (K:List PA->Prop) (hs:p87 c0 i_a0=true) (hk:K (e87 (s87 c0 i_a0))):vcFun Tryd.prog G87 zHv 87 [.one (.int .i64 i_a0),.one (.fp (zao c0) 0)] K :=
  zaX (by kernel_rfl) (zaQ hs λ hc hs=>And.intro hc (zaQ hs λ hc hs=>And.intro hc hk))
def zD2 : List PA → COut
  | [.one (.int .i64 a0),.one (.fp c0_t 0)]=>.det (c0_t=zao (za0 c0_t)/\p87 (za0 c0_t) a0=true) [.one (.int .i64 (s87 (za0 c0_t) a0))]
  | _=>.no
theorem zHw:zas Tryd.prog 87:=⟨_,rfl,rfl,by kernel_rfl⟩
theorem zLw:Ok Tryd.prog 87 zD2:=zbm zJI zHw λ args K h=>by
  unfold zD2 at h
  split at h
  · rename_i a0 c0_t
    obtain⟨⟨hT_c0,hs⟩,hk⟩:=h
    exact⟨(λ _ _=>[]),(λ _=>false),zHv,(by have hq:=q87 (za0 c0_t) a0 K hs hk;rw[← hT_c0] at hq;exact hq)⟩
  · exact h.elim
abbrev T84:Tabs:=(Tabs.nil.addF 87 zD2)
theorem zJJ:TabsOk Tryd.prog T84:=(TabsOk.nil.addF zLw)
abbrev G84:Ctrs:=csm T84 (λ _ _=>[]) (λ _=>false)
def zD3:Ann:=⟨26,[(0,zK [0,1] []),(1,zK [1,5] [12]),(2,zK [1,5,14,15] [12]),(3,zK [1,5,14,15,16] [12]),(4,zK [1,5,6,14,15] [12]),(5,zK [1,5,14,15] [12]),(6,zK [1,5,14,15] [12]),(7,zK [4] [12])],
 [(3,zK [1,5,14,15] [12])],
 [],
 [],[]⟩
abbrev R84:=(Sl Int)
abbrev e84 (r:R84):List PA:=[.one (.sl r.len 1 (λ i=>enc_3 (r.get i)))]
@[irreducible] def z84:=ptF Tryd.prog G84 zD3 Tryd.f84
def zBu (c0:Tab) (w:web) (za9:Int) (zda:(Sl Int)) (zfF:Nat->List PV):St:=⟨[(1,zP (.fn 87 [] [.fp (zao c0) 0])),(5,zv 12),(14,zI (w.Net.Nodes.toNat:Int)),(15,zI za9)],[(12,.vec 3 1 8 zda.len zfF)],[]⟩
abbrev zHx (K:List PA->Prop) (c0:Tab) (w:web) (X:St->Prop) (P:Int->(Sl Int)->Bool) (S:Int->(Sl Int)->(Sl Int)):Prop:=∀ ⦃za9:Int⦄ ⦃zda:(Sl Int)⦄ ⦃zfF:Nat->List PV⦄,P za9 zda=true->K (e84 (S za9 zda))->zfF=zg enc_3 zda->X (zBu c0 w za9 zda zfF)
section
variable {K:List PA->Prop}{c0:Tab}{w:web}{za9:Int}{zda:(Sl Int)}{zfF:Nat->List PV}{X0:St->Prop}{P0:Int->(Sl Int)->Bool}{S0:Int->(Sl Int)->(Sl Int)}
def zxy (c0:Tab) (w:web) (S0:Int->(Sl Int)->(Sl Int)) (za9:Int) (zda:(Sl Int)):(Sl Int) :=
  (cond (decide (za9 < (w.Net.Nodes.toNat : Int)))
 (S0 (w64 (za9+(1:Int))) (⟨zda.len,(setT za9.toNat (s87 (za0 (zao c0)) za9) zda.get)⟩:Sl Int))
 zda)
def zxz (c0:Tab) (w:web) (P0:Int->(Sl Int)->Bool) (za9:Int) (zda:(Sl Int)):Bool :=
  (cond (decide (za9 < (w.Net.Nodes.toNat : Int)))
 (decide ((p87 (za0 (zao c0)) za9=true)) &&
 (decide ((0≤za9/\za9 < (zda.len:Int))) &&
 (decide ((za9.toNat < zda.len)) &&
 (P0 (w64 (za9+(1:Int))) (⟨zda.len,(setT za9.toNat (s87 (za0 (zao c0)) za9) zda.get)⟩:Sl Int)))))
 true)
def zxA (c0:Tab) (w:web):Nat->Int->(Sl Int)->(Sl Int):=lpO (λ _ _=>default) (zxy c0 w)
def zxB (c0:Tab) (w:web):Nat->Int->(Sl Int)->Bool:=lpO (λ _ _=>false) (zxz c0 w)
def zxC (c0:Tab) (w:web) (za9:Int) (zda:(Sl Int)):(Sl Int):=zxA c0 w Fuel za9 zda
def zxD (c0:Tab) (w:web) (za9:Int) (zda:(Sl Int)):Bool:=zxB c0 w Fuel za9 zda
theorem zD4 (hs:zxD c0 w za9 zda=true) (hk:K (e84 (zxC c0 w za9 zda))) (zqB:zfF=zg enc_3 zda):z84 K [1,1,0,1,0] [] (zBu c0 w za9 zda zfF) :=
  zl (λ X=>z84 K [1,1,0,1,0,0] [X]) (by kernel_rfl) λ X0 hX =>
  (show ∀ k, zHx K c0 w X0 (zxB c0 w k) (zxA c0 w k) from zfW _ _ (zxz c0 w) (zxy c0 w) (zHx K c0 w X0)
 (by intro _ _ _ hs;exact absurd hs Bool.false_ne_true)
 (by intro P0 S0 hX0 za9 zda zfF hs hk zqB;subst zqB;exact hX _ (zaX (by kernel_rfl) (zc hs hk (λ hs hk=>(zaQ hs λ hc hs=>And.intro (And.intro (zmo:zao c0=zao (za0 (zao c0))) hc) (zaQ hs λ hc hs=>And.intro hc (zaQ hs λ hc hs=>And.intro hc (hX0 hs hk (zlz (enc:=enc_3) (i:=za9.toNat) (k:=0) (f:=zda.get) (new:=(enc_3 (s87 (za0 (zao c0)) za9))) (v:=(s87 (za0 (zao c0)) za9)) rfl rfl)))))) (λ hs hk=>hk))))) _ hs hk zqB
def s84 (c0:Tab) (w:web):(Sl Int) :=
  (zxC c0 w (0:Int) (⟨w.Net.Nodes.toNat,(λ _=>(0:Int))⟩:Sl Int))
def p84 (c0:Tab) (w:web):Bool :=
  (decide ((0≤w.Net.Nodes/\w.Net.Nodes=w.Net.Nodes/\w.Net.Nodes≤1000000)) &&
 (zxD c0 w (0:Int) (⟨w.Net.Nodes.toNat,(λ _=>(0:Int))⟩:Sl Int)))
end
theorem q84 (c0:Tab) (w:web) (K:List PA->Prop) (hs:p84 c0 w=true) (hk:K (e84 (s84 c0 w))):vcFun Tryd.prog G84 zD3 84 [.one (.fp (zaC w) 0),.one (.fn 87 [] [.fp (zao c0) 0])] K :=
  zaX (by kernel_rfl) (zaQ hs λ hc hs=>And.intro hc (zD4 hs hk rfl))
def zD5 : List PA → COut
  | [.one (.fp [.int .i64 zan,.sl zai zaF zaj,.fm zbn zaH zaI] 0),.one (.fn 87 [] [.fp c0_t 0])]=>.det (IsE enc_40 4 zaF zaj/\zbn=(false,1,false,[none])/\c0_t=zao (za0 c0_t)/\p84 (za0 c0_t) (⟨(⟨zan,(⟨zai,zal zaj⟩:(Sl Tie))⟩:Net),(⟨zaH,zaI⟩:Mp)⟩:web)=true) [.one (.sl ((s84 (za0 c0_t) (⟨(⟨zan,(⟨zai,zal zaj⟩:(Sl Tie))⟩:Net),(⟨zaH,zaI⟩:Mp)⟩:web)).len) 1 (λ i=>enc_3 ((s84 (za0 c0_t) (⟨(⟨zan,(⟨zai,zal zaj⟩:(Sl Tie))⟩:Net),(⟨zaH,zaI⟩:Mp)⟩:web)).get i)))]
  | _=>.no
theorem zHy:zas Tryd.prog 84:=⟨_,rfl,rfl,by kernel_rfl⟩
theorem zLx:Ok Tryd.prog 84 zD5:=zbm zJJ zHy λ args K h=>by
  unfold zD5 at h
  split at h
  · rename_i zan zai zaF zaj zbn zaH zaI c0_t
    obtain⟨⟨⟨rfl,zay,rfl⟩,rfl,hT_c0,hs⟩,hk⟩:=h
    try rw[zak zay] at hs
    try rw[zak zay] at hk
    exact⟨(λ _ _=>[]),(λ _=>false),zD3,(by have hq:=q84 (za0 c0_t) (⟨(⟨zan,(⟨zai,zay⟩:(Sl Tie))⟩:Net),(⟨zaH,zaI⟩:Mp)⟩:web) K hs hk;rw[← hT_c0] at hq;exact hq)⟩
  · exact h.elim
abbrev T45:Tabs:=((((Tabs.nil.addF 74 zvL).addF 76 zv0).addF 83 zD1).addF 84 zD5)
theorem zJK:TabsOk Tryd.prog T45:=((((TabsOk.nil.addF zJf).addF zJk).addF zLv).addF zLx)
abbrev G45:Ctrs:=csm T45 (λ _ _=>[]) (λ _=>false)
def zHz:Ann:=⟨31,[(0,zK [1,2,3] [3]),(1,zK [1,8,9] []),(2,zK [1,8,9,20] []),(3,zK [6,7] []),(4,zK [1,8,24] []),(5,zK [6,7] []),(6,zK [8,10] [10]),(7,zK [6,7] [])],
 [],
 [],
 [],[]⟩
abbrev R45:=((Sl Int)×Int)
abbrev e45 (r:R45):List PA:=[.one (.sl r.1.len 1 (λ i=>enc_3 (r.1.get i))),.one (.int .i64 r.2)]
section
variable {K:List PA->Prop}{n:Net}{zaa:Int}{to:Int}
def s45 (n:Net) (zaa:Int) (to:Int):((Sl Int)×Int) :=
  (cond ((s74 n (⟨2, zat (zbt [(enc_3 zaa), (enc_3 to)])⟩ : (Sl Int))).2 == 0)
 (cond ((0:Int) != (0:Int))
 ((⟨0,λ _=>default⟩:(Sl Int)),(0:Int))
 (cond (!(s83 (⟨(s74 n (⟨2, zat (zbt [(enc_3 zaa), (enc_3 to)])⟩ : (Sl Int))).1.Net, ((s74 n (⟨2, zat (zbt [(enc_3 zaa), (enc_3 to)])⟩ : (Sl Int))).1.out)⟩ : web)))
 ((⟨0,λ _=>default⟩:(Sl Int)),(6:Int))
 ((s84 (za0 (zao (s76 (⟨(s74 n (⟨2,zat (zbt [(enc_3 zaa),(enc_3 to)])⟩:(Sl Int))).1.Net,((s74 n (⟨2,zat (zbt [(enc_3 zaa),(enc_3 to)])⟩:(Sl Int))).1.out)⟩:web) zaa))) (⟨(s74 n (⟨2,zat (zbt [(enc_3 zaa),(enc_3 to)])⟩:(Sl Int))).1.Net,((s74 n (⟨2,zat (zbt [(enc_3 zaa),(enc_3 to)])⟩:(Sl Int))).1.out)⟩:web)),(0:Int))))
 (cond ((s74 n (⟨2, zat (zbt [(enc_3 zaa), (enc_3 to)])⟩ : (Sl Int))).2 != (0:Int))
 ((⟨0,λ _=>default⟩:(Sl Int)),(s74 n (⟨2,zat (zbt [(enc_3 zaa),(enc_3 to)])⟩:(Sl Int))).2)
 default))
def p45 (n:Net) (zaa:Int) (to:Int):Bool :=
  (cond ((s74 n (⟨2, zat (zbt [(enc_3 zaa), (enc_3 to)])⟩ : (Sl Int))).2 == 0)
 (decide ((p74 n (⟨2,zat (zbt [(enc_3 zaa),(enc_3 to)])⟩:(Sl Int))=true)) &&
 (cond ((0:Int) != (0:Int))
 true
 (decide ((p83 (⟨(s74 n (⟨2,zat (zbt [(enc_3 zaa),(enc_3 to)])⟩:(Sl Int))).1.Net,((s74 n (⟨2,zat (zbt [(enc_3 zaa),(enc_3 to)])⟩:(Sl Int))).1.out)⟩:web)=true)) &&
 (cond (!(s83 (⟨(s74 n (⟨2, zat (zbt [(enc_3 zaa), (enc_3 to)])⟩ : (Sl Int))).1.Net, ((s74 n (⟨2, zat (zbt [(enc_3 zaa), (enc_3 to)])⟩ : (Sl Int))).1.out)⟩ : web)))
 true
 (decide ((p76 (⟨(s74 n (⟨2,zat (zbt [(enc_3 zaa),(enc_3 to)])⟩:(Sl Int))).1.Net,((s74 n (⟨2,zat (zbt [(enc_3 zaa),(enc_3 to)])⟩:(Sl Int))).1.out)⟩:web) zaa=true)) &&
 (decide ((p84 (za0 (zao (s76 (⟨(s74 n (⟨2,zat (zbt [(enc_3 zaa),(enc_3 to)])⟩:(Sl Int))).1.Net,((s74 n (⟨2,zat (zbt [(enc_3 zaa),(enc_3 to)])⟩:(Sl Int))).1.out)⟩:web) zaa))) (⟨(s74 n (⟨2,zat (zbt [(enc_3 zaa),(enc_3 to)])⟩:(Sl Int))).1.Net,((s74 n (⟨2,zat (zbt [(enc_3 zaa),(enc_3 to)])⟩:(Sl Int))).1.out)⟩:web)=true)) &&
 true))))))
 (decide ((p74 n (⟨2,zat (zbt [(enc_3 zaa),(enc_3 to)])⟩:(Sl Int))=true)) &&
 (cond ((s74 n (⟨2, zat (zbt [(enc_3 zaa), (enc_3 to)])⟩ : (Sl Int))).2 != (0:Int))
 true
 false)))
end
theorem q45 (n:Net) (zaa:Int) (to:Int) (K:List PA->Prop) (hs:p45 n zaa to=true) (hk:K (e45 (s45 n zaa to))):vcFun Tryd.prog G45 zHz 45 [.agg (enc_24 n),.one (.int .i64 zaa),.one (.int .i64 to)] (Wk K) :=
  zaX (by kernel_rfl) (zc hs hk (λ hs hk=>(zaQ hs λ hc hs=>And.intro (And.intro (zE enc_40 4 n.Ties.get) (And.intro ((zd2 []):IsE enc_3 1 1 (zbt [(enc_3 zaa),(enc_3 to)])) hc)) (zc hs hk (λ hs hk=>((wk hk (zhp (.one (.nil _ _)) (zhp (.one (.rfl _)) znx))):Wk K [.one (.nils),.one (.int .i64 (0:Int))])) (λ hs hk=>(zaQ hs λ hc hs=>And.intro (And.intro (zE enc_40 4 ((s74 n (⟨2,zat (zbt [(enc_3 zaa),(enc_3 to)])⟩:(Sl Int))).1.Net.Ties.get)) (And.intro (rfl:((false,1,false,[none]):MQ)=(false,1,false,[none])) hc)) (zc hs hk (λ hs hk=>((wk hk (zhp (.one (.nil _ _)) (zhp (.one (.rfl _)) znx))):Wk K [.one (.nils),.one (.int .i64 (6:Int))])) (λ hs hk=>(zaQ hs λ hc hs=>And.intro (And.intro (zE enc_40 4 ((s74 n (⟨2,zat (zbt [(enc_3 zaa),(enc_3 to)])⟩:(Sl Int))).1.Net.Ties.get)) (And.intro (rfl:((false,1,false,[none]):MQ)=(false,1,false,[none])) hc)) (zaQ hs λ hc hs=>And.intro (And.intro (zE enc_40 4 ((s74 n (⟨2,zat (zbt [(enc_3 zaa),(enc_3 to)])⟩:(Sl Int))).1.Net.Ties.get)) (And.intro (rfl:((false,1,false,[none]):MQ)=(false,1,false,[none])) (And.intro (zmo:zao (s76 (⟨(s74 n (⟨2,zat (zbt [(enc_3 zaa),(enc_3 to)])⟩:(Sl Int))).1.Net,((s74 n (⟨2,zat (zbt [(enc_3 zaa),(enc_3 to)])⟩:(Sl Int))).1.out)⟩:web) zaa)=zao (za0 (zao (s76 (⟨(s74 n (⟨2,zat (zbt [(enc_3 zaa),(enc_3 to)])⟩:(Sl Int))).1.Net,((s74 n (⟨2,zat (zbt [(enc_3 zaa),(enc_3 to)])⟩:(Sl Int))).1.out)⟩:web) zaa)))) hc))) ((zgn hk):Wk K [.one (.sl ((s84 (za0 (zao (s76 (⟨(s74 n (⟨2,zat (zbt [(enc_3 zaa),(enc_3 to)])⟩:(Sl Int))).1.Net,((s74 n (⟨2,zat (zbt [(enc_3 zaa),(enc_3 to)])⟩:(Sl Int))).1.out)⟩:web) zaa))) (⟨(s74 n (⟨2,zat (zbt [(enc_3 zaa),(enc_3 to)])⟩:(Sl Int))).1.Net,((s74 n (⟨2,zat (zbt [(enc_3 zaa),(enc_3 to)])⟩:(Sl Int))).1.out)⟩:web)).len) 1 (λ i=>enc_3 ((s84 (za0 (zao (s76 (⟨(s74 n (⟨2,zat (zbt [(enc_3 zaa),(enc_3 to)])⟩:(Sl Int))).1.Net,((s74 n (⟨2,zat (zbt [(enc_3 zaa),(enc_3 to)])⟩:(Sl Int))).1.out)⟩:web) zaa))) (⟨(s74 n (⟨2,zat (zbt [(enc_3 zaa),(enc_3 to)])⟩:(Sl Int))).1.Net,((s74 n (⟨2,zat (zbt [(enc_3 zaa),(enc_3 to)])⟩:(Sl Int))).1.out)⟩:web)).get i))),.one (.int .i64 (0:Int))])))))))))) (λ hs hk=>(zaQ hs λ hc hs=>And.intro (And.intro (zE enc_40 4 n.Ties.get) (And.intro ((zd2 []):IsE enc_3 1 1 (zbt [(enc_3 zaa),(enc_3 to)])) hc)) (zc hs hk (λ hs hk=>((wk hk (zhp (.one (.nil _ _)) (zhp (.one (.rfl _)) znx))):Wk K [.one (.nils),.one (.int .i64 ((s74 n (⟨2,zat (zbt [(enc_3 zaa),(enc_3 to)])⟩:(Sl Int))).2))])) (λ hs hk=>(absurd hs Bool.false_ne_true:False))))))
def zD6 : List PA → COut
  | [.agg [.int .i64 zah,.sl zae zaz zad],.one (.int .i64 a1),.one (.int .i64 a2)]=>.det (IsE enc_40 4 zaz zad/\p45 (⟨zah,(⟨zae,zal zad⟩:(Sl Tie))⟩:Net) a1 a2=true) [.one (.sl (((s45 (⟨zah,(⟨zae,zal zad⟩:(Sl Tie))⟩:Net) a1 a2).1).len) 1 (λ i=>enc_3 (((s45 (⟨zah,(⟨zae,zal zad⟩:(Sl Tie))⟩:Net) a1 a2).1).get i))),.one (.int .i64 ((s45 (⟨zah,(⟨zae,zal zad⟩:(Sl Tie))⟩:Net) a1 a2).2))]
  | _=>.no
theorem zHA:zas Tryd.prog 45:=⟨_,rfl,rfl,by kernel_rfl⟩
theorem zLy:Ok Tryd.prog 45 zD6:=zhC zJK zHA λ args K h=>by
  unfold zD6 at h
  split at h
  · rename_i zah zae zaz zad a1 a2
    obtain⟨⟨⟨rfl,zar,rfl⟩,hs⟩,hk⟩:=h
    try rw[zak zar] at hs
    try rw[zak zar] at hk
    exact⟨_,zff zgm _,(λ _ _=>[]),(λ _=>false),zHz,q45 (⟨zah,(⟨zae,zar⟩:(Sl Tie))⟩:Net) a1 a2 K hs hk⟩
  · exact h.elim
abbrev T53:Tabs:=Tabs.nil
theorem zJL:TabsOk Tryd.prog T53:=TabsOk.nil
abbrev G53:Ctrs:=csm T53 (λ _ _=>[]) (λ _=>false)
def zD7:Ann:=⟨26,[(0,zK [0,1] []),(1,zK [0,1,10] []),(2,zK [4] []),(3,zK [0,1,5] []),(4,zK [0,1,5,14] []),(5,zK [0,1,5] []),(6,zK [0,1,5,25] []),(7,zK [4] []),(8,zK [4] [])],
 [(4,zK [0,1,5] [])],
 [(3,zK [0,1] [])],
 [],[]⟩
abbrev R53:=Bool
abbrev e53 (r:R53):List PA:=[.one (.bool r)]
@[irreducible] def z53:=ptF Tryd.prog G53 zD7 Tryd.f53
def zBv (a:(Sl Use)) (b:(Sl Use)) (iv1:Int):St:=⟨[(0,zS enc_75 2 a),(1,zS enc_75 2 b),(5,zI iv1)],[],[]⟩
abbrev zHB (K:List PA->Prop) (a:(Sl Use)) (b:(Sl Use)) (X:St->Prop) (P:Int->Bool) (S:Int->Bool):Prop:=∀ ⦃iv1:Int⦄,P iv1=true->K (e53 (S iv1))->X (zBv a b iv1)
section
variable {K:List PA->Prop}{a:(Sl Use)}{b:(Sl Use)}{iv1:Int}{X1:St->Prop}{P1:Int->Bool}{S1:Int->Bool}
def zxE (a:(Sl Use)) (b:(Sl Use)) (S1:Int->Bool) (iv1:Int):Bool :=
  (cond (decide (iv1 < (a.len : Int)))
 (cond (!(match ((a.get iv1.toNat).Tie == (b.get iv1.toNat).Tie) with | true => (match ((a.get iv1.toNat).Back == (b.get iv1.toNat).Back) with | true => true | false => false) | false => false))
 false
 (S1 (w64 (iv1+(1:Int)))))
 true)
def zxF (a:(Sl Use)) (b:(Sl Use)) (P1:Int->Bool) (iv1:Int):Bool :=
  (cond (decide (iv1 < (a.len : Int)))
 (decide ((0≤iv1/\iv1 < (a.len:Int))) &&
 (decide ((0≤iv1/\iv1 < (b.len:Int))) &&
 (cond (!(match ((a.get iv1.toNat).Tie == (b.get iv1.toNat).Tie) with | true => (match ((a.get iv1.toNat).Back == (b.get iv1.toNat).Back) with | true => true | false => false) | false => false))
 true
 (P1 (w64 (iv1+(1:Int)))))))
 true)
def zxG (a:(Sl Use)) (b:(Sl Use)):Nat->Int->Bool:=lpO (λ _=>default) (zxE a b)
def zxH (a:(Sl Use)) (b:(Sl Use)):Nat->Int->Bool:=lpO (λ _=>false) (zxF a b)
def zxI (a:(Sl Use)) (b:(Sl Use)) (iv1:Int):Bool:=zxG a b Fuel iv1
def zxJ (a:(Sl Use)) (b:(Sl Use)) (iv1:Int):Bool:=zxH a b Fuel iv1
theorem zD8 (hs:zxJ a b iv1=true) (hk:K (e53 (zxI a b iv1))):z53 K [1,1,0,1,0] [] (zBv a b iv1) :=
  zl (λ X=>z53 K [1,1,0,1,0,0] [X]) (by kernel_rfl) λ X1 hX =>
  (show ∀ k, zHB K a b X1 (zxH a b k) (zxG a b k) from zfW _ _ (zxF a b) (zxE a b) (zHB K a b X1)
 (by intro _ hs;exact absurd hs Bool.false_ne_true)
 (by intro P1 S1 hX1 iv1 hs hk;exact hX _ (zaX (by kernel_rfl) (zc hs hk (λ hs hk=>(zaQ hs λ hc hs=>And.intro hc (zaQ hs λ hc hs=>And.intro hc (zc hs hk (λ hs hk=>hk) (λ hs hk=>(hX1 hs hk)))))) (λ hs hk=>hk))))) _ hs hk
def zxK (a:(Sl Use)) (b:(Sl Use)):Bool :=
  (zxI a b (0:Int))
def zxL (a:(Sl Use)) (b:(Sl Use)):Bool :=
  (zxJ a b (0:Int))
theorem zD9 (hs:zxL a b=true) (hk:K (e53 (zxK a b))):z53 K [1,1] [] ⟨[(0,zS enc_75 2 a),(1,zS enc_75 2 b)],[],[]⟩:=zaX (by kernel_rfl) (zD8 hs hk)
def s53 (a:(Sl Use)) (b:(Sl Use)):Bool :=
  (cond ((a.len : Int) != (b.len : Int))
 false
 (zxK a b))
def p53 (a:(Sl Use)) (b:(Sl Use)):Bool :=
  (cond ((a.len : Int) != (b.len : Int))
 true
 (zxL a b))
end
theorem q53 (a:(Sl Use)) (b:(Sl Use)) (K:List PA->Prop) (hs:p53 a b=true) (hk:K (e53 (s53 a b))):vcFun Tryd.prog G53 zD7 53 [.one (.sl a.len 2 (λ i=>enc_75 (a.get i))),.one (.sl b.len 2 (λ i=>enc_75 (b.get i)))] K :=
  zaX (by kernel_rfl) (zc hs hk (λ hs hk=>hk) (λ hs hk=>(zD9 hs hk)))
def zEa : List PA → COut
  | [.one (.sl zfv zlB zfw),.one (.sl zdA zhP zdr)]=>.det (IsE enc_75 2 zlB zfw/\IsE enc_75 2 zhP zdr/\p53 (⟨zfv,zbM zfw⟩:(Sl Use)) (⟨zdA,zbM zdr⟩:(Sl Use))=true) [.one (.bool (s53 (⟨zfv,zbM zfw⟩:(Sl Use)) (⟨zdA,zbM zdr⟩:(Sl Use))))]
  | _=>.no
theorem zHC:zas Tryd.prog 53:=⟨_,rfl,rfl,by kernel_rfl⟩
theorem zLz:Ok Tryd.prog 53 zEa:=zbm zJL zHC λ args K h=>by
  unfold zEa at h
  split at h
  · rename_i zfv zlB zfw zdA zhP zdr
    obtain⟨⟨⟨rfl,zh0,rfl⟩,⟨rfl,zfl,rfl⟩,hs⟩,hk⟩:=h
    try rw[zbA zh0] at hs
    try rw[zbA zh0] at hk
    try rw[zbA zfl] at hs
    try rw[zbA zfl] at hk
    exact⟨(λ _ _=>[]),(λ _=>false),zD7,q53 (⟨zfv,zh0⟩:(Sl Use)) (⟨zdA,zfl⟩:(Sl Use)) K hs hk⟩
  · exact h.elim
abbrev T92:Tabs:=((Tabs.nil.addF 93 zop).addI 110 zor)
theorem zJM:TabsOk Tryd.prog T92:=((TabsOk.nil.addF zFE).addI ztG)
abbrev G92:Ctrs:=csm T92 (λ _ _=>[]) (λ _=>false)
def ziZ:Ann:=⟨49,[(0,zK [0,1,2,3,4] [0,1,2,3,4,4099]),(1,zK [0,1,2,3,4,7] [0,1,2,3,4,4099]),(2,zK [0,1,2,3,4,5,7] [0,1,2,3,4,5,4099]),(3,zK [0,1,2,3,4,5,7,41] [0,1,2,3,4,5,4099]),(4,zK [0,1,2,3,4,5] [0,1,2,3,4,5,4099]),(5,zK [0,1,2,3,4] [0,1,2,3,4,4099]),(6,zK [0,1,2,3,4] [0,1,2,3,4,4099]),(7,zK [0,1,2,3,4] [0,1,2,3,4,4099])],
 [(2,zK [0,1,2,3,4,7] [0,1,2,3,4,4099])],
 [],
 [],[]⟩
def zfG (w:web) (at_:Int) (d:Tab) (out:(Sl Use)):St:=⟨[(0,.one (.c (.ptr 0 0))),(1,.one (.c (.ptr 1 0))),(2,.one (.c (.ptr 2 0))),(3,.one (.c (.ptr 3 0))),(4,.one (.c (.ptr 4 0))),(7,.one (.c (.p (.fn 110 [] [.fp [.fp (zaC w) 0] 0]))))],[(0,.box 102 [.p (.fp (zaC w) 0)]),(1,.box 3 [.p (.int .i64 at_)]),(2,.box 116 (zm (zao d))),(3,.box 67 [.vec 4099]),(4,.box 4 [.p (.bool false)]),(4099,.vec 75 2 16 out.len (λ i=>enc_75 (out.get i)))],[]⟩
def zkB (K:List PA×List XA->Prop) (w:web) (at_:Int) (d:Tab) (out:(Sl Use)):Prop:=vc Tryd.prog G92 ziZ (cdF Tryd.f92 [1,0,1,0]) (zeW 0 (sqK Tryd.prog G92 ziZ (cdF Tryd.f92 [1,1]) (zkY Tryd.prog Tryd.f92 [.box 102 [.p (.fp (zaC w) 0)],.box 3 [.p (.int .i64 at_)],.box 116 (xcm (zao d)),.box 67 [.vec 75 2 16 out.len (λ i=>enc_75 (out.get i))]] (λ a b=>K (a,b))))) (zfG w at_ d out)
theorem zEb (w : web) (at_ : Int) (d : Tab) (out : (Sl Use)) (K : List PA × List XA → Prop) :
  zkf Tryd.prog G92 ziZ 92 [.box 102 [.p (.fp (zaC w) 0)],.box 3 [.p (.int .i64 at_)],.box 116 (xcm (zao d)),.box 67 [.vec 75 2 16 out.len (λ i=>enc_75 (out.get i))]] (λ a b=>K (a,b)) =
  ((IsE enc_40 4 4 (λ i=>enc_40 (w.Net.Ties.get i))/\((false,1,false,[none]):MQ)=(false,1,false,[none])) /\
 (zkB K w at_ d out)):=by kernel_rfl
def zoF (K:List PA×List XA->Prop) (w:web) (at_:Int) (d:Tab) (out:(Sl Use)):Prop :=
  (K ([.one (.bool false)],[.box 102 [.p (.fp (zaC w) 0)],.box 3 [.p (.int .i64 at_)],.box 116 (xcm (zao d)),.box 67 [.vec 75 2 16 out.len (λ i=>enc_75 (out.get i))]]))
def zoG (K:List PA×List XA->Prop) (X0:List (List PA)->St->Prop) (y0:step) (rest0:List (List PA)) (w:web) (at_:Int) (d:Tab) (out:(Sl Use)):Prop :=
  (zdd (y0.from_ == at_)
 (((0≤y0.to/\y0.to < (40:Int))) /\
 (zdd (!(match ((tg 80 d (0 + y0.to.toNat * 2 + 0)) == (1000000000000:Int)) with | true => (match ((tg 80 d (0 + y0.to.toNat * 2 + 0 + 1)) == (0:Int)) with | true => true | false => false) | false => false))
 (((0≤y0.to/\y0.to < (40:Int))) /\
 (((0≤y0.to/\y0.to < (40:Int))) /\
 (((0≤at_/\at_ < (40:Int))) /\
 (zdd (match ((w64 ((tg 80 d (0 + y0.to.toNat * 2 + 0)) + y0.length)) == (tg 80 d (0 + at_.toNat * 2 + 0))) with | true => (match ((w64 ((tg 80 d (0 + y0.to.toNat * 2 + 1)) + (1:Int))) == (tg 80 d (0 + at_.toNat * 2 + 0 + 1))) with | true => true | false => false) | false => false)
 ((((out.len+1) * 16≤140737488355328/\out.len+1≤9223372036854775807)) /\
 (K ([.one (.bool true)],[.box 102 [.p (.fp (zaC w) 0)],.box 3 [.p (.int .i64 y0.to)],.box 116 (xcm (zao d)),.box 67 [.vec 75 2 16 (out.len+1) (appG out.len (λ i=>enc_75 (out.get i)) (λ _=>(enc_75 y0.Use)))]])))
 (X0 rest0 (zfG w at_ d out))))))
 (X0 rest0 (zfG w at_ d out))))
 (X0 rest0 (zfG w at_ d out)))
theorem zqC (K:List PA×List XA->Prop) (w:web) (at_:Int) (d:Tab) (out:(Sl Use)):(zeW 0 (sqK Tryd.prog G92 ziZ (cdF Tryd.f92 [1,1]) (zkY Tryd.prog Tryd.f92 [.box 102 [.p (.fp (zaC w) 0)],.box 3 [.p (.int .i64 at_)],.box 116 (xcm (zao d)),.box 67 [.vec 75 2 16 out.len (λ i=>enc_75 (out.get i))]] (λ a b=>K (a,b))))) .normal (zfG w at_ d out)=zoF K w at_ d out:=by kernel_rfl
theorem zqD (K : List PA × List XA → Prop) (X0 : List (List PA) → St → Prop) (y0 : step) (rest0 : List (List PA)) (w : web) (at_ : Int) (d : Tab) (out : (Sl Use)) :
  zIZ Tryd.prog G92 ziZ 2 [8] (cd (cdF Tryd.f92 [1,0,1,0]) [0]) (cd (cdF Tryd.f92 [1,0,1,0]) [1]) X0 (zeW 0 (sqK Tryd.prog G92 ziZ (cdF Tryd.f92 [1,1]) (zkY Tryd.prog Tryd.f92 [.box 102 [.p (.fp (zaC w) 0)],.box 3 [.p (.int .i64 at_)],.box 116 (xcm (zao d)),.box 67 [.vec 75 2 16 out.len (λ i=>enc_75 (out.get i))]] (λ a b=>K (a,b))))) [.agg (zaA y0)] rest0 (zfG w at_ d out)=zoG K X0 y0 rest0 w at_ d out:=by kernel_rfl
theorem zxM (K : List PA × List XA → Prop) (w : web) (at_ : Int) (d : Tab) (out : (Sl Use))
  (hsafe:IsE enc_40 4 4 (λ i=>enc_40 (w.Net.Ties.get i))/\((false,1,false,[none]):MQ)=(false,1,false,[none])/\(ztU w=true)) (h:∀ X0:List (List PA)->St->Prop,(∀ (_:Unit),zoF K w at_ d out->X0 [] (zfG w at_ d out))->(∀ (y:step) (rest:List (List PA)) (_:Unit),zoG K X0 y rest w at_ d out->X0 ([.agg (zaA y)] :: rest) (zfG w at_ d out))->X0 ((zkn w).map λ y=>[.agg (zaA y)]) (zfG w at_ d out)) :
  zkB K w at_ d out:=by
  have e:zkB K w at_ d out=((IsE enc_40 4 4 (λ i=>enc_40 (w.Net.Ties.get i))/\((false,1,false,[none]):MQ)=(false,1,false,[none])/\(ztU w=true))/\∀ X:List (List PA)->St->Prop,(∀ s,(zeW 0 (sqK Tryd.prog G92 ziZ (cdF Tryd.f92 [1,1]) (zkY Tryd.prog Tryd.f92 [.box 102 [.p (.fp (zaC w) 0)],.box 3 [.p (.int .i64 at_)],.box 116 (xcm (zao d)),.box 67 [.vec 75 2 16 out.len (λ i=>enc_75 (out.get i))]] (λ a b=>K (a,b))))) .normal s->X [] s)->(∀ y rest s,zIZ Tryd.prog G92 ziZ 2 [8] (cd (cdF Tryd.f92 [1,0,1,0]) [0]) (cd (cdF Tryd.f92 [1,0,1,0]) [1]) X (zeW 0 (sqK Tryd.prog G92 ziZ (cdF Tryd.f92 [1,1]) (zkY Tryd.prog Tryd.f92 [.box 102 [.p (.fp (zaC w) 0)],.box 3 [.p (.int .i64 at_)],.box 116 (xcm (zao d)),.box 67 [.vec 75 2 16 out.len (λ i=>enc_75 (out.get i))]] (λ a b=>K (a,b))))) y rest s->X (y :: rest) s)->X ((zkn w).map λ y=>[.agg (zaA y)]) (zfG w at_ d out)):=by kernel_rfl
  refine zaX e ⟨hsafe,?_⟩
  intro X h0 h1
  refine h X (λ _ hs=>h0 _ ?_) (λ y rest _ hs=>h1 _ rest _ ?_)
  · rw[zqC K w at_ d out];exact hs
  · have e2 := zqD K X y rest w at_ d out
    rw[e2];exact hs
abbrev e92 (w:web) (d:Tab) (r:(Bool×Int×(Sl Use))):List PA×List XA:=([.one (.bool r.1)],[.box 102 [.p (.fp (zaC w) 0)],.box 3 [.p (.int .i64 r.2.1)],.box 116 (xcm (zao d)),.box 67 [.vec 75 2 16 r.2.2.len (λ i=>enc_75 (r.2.2.get i))]])
attribute [irreducible] zkB
def zqE (w:web) (at_:Int) (d:Tab) (out:(Sl Use)):(Bool×Int×(Sl Use)) :=
  (false,at_,(⟨out.len,out.get⟩:(Sl Use)))
def zqF (w:web) (at_:Int) (d:Tab) (out:(Sl Use)):Bool :=
  true
def zqG (w:web) (at_:Int) (d:Tab) (out:(Sl Use)) (y0:step) (S0:(Bool×Int×(Sl Use))):(Bool×Int×(Sl Use)) :=
  (cond (y0.from_ == at_)
 (cond (!(match ((tg 80 d (0 + y0.to.toNat * 2 + 0)) == (1000000000000:Int)) with | true => (match ((tg 80 d (0 + y0.to.toNat * 2 + 0 + 1)) == (0:Int)) with | true => true | false => false) | false => false))
 (cond (match ((w64 ((tg 80 d (0 + y0.to.toNat * 2 + 0)) + y0.length)) == (tg 80 d (0 + at_.toNat * 2 + 0))) with | true => (match ((w64 ((tg 80 d (0 + y0.to.toNat * 2 + 1)) + (1:Int))) == (tg 80 d (0 + at_.toNat * 2 + 0 + 1))) with | true => true | false => false) | false => false)
 (true,y0.to,(⟨(out.len+1),(ziY out.len out.get (λ _=>y0.Use))⟩:(Sl Use)))
 (S0))
 (S0))
 (S0))
def zqH (w:web) (at_:Int) (d:Tab) (out:(Sl Use)) (y0:step) (P0:Bool):Bool :=
  (cond (y0.from_ == at_)
 (decide ((0≤y0.to/\y0.to < (40:Int))) &&
 (cond (!(match ((tg 80 d (0 + y0.to.toNat * 2 + 0)) == (1000000000000:Int)) with | true => (match ((tg 80 d (0 + y0.to.toNat * 2 + 0 + 1)) == (0:Int)) with | true => true | false => false) | false => false))
 (decide ((0≤y0.to/\y0.to < (40:Int))) &&
 (decide ((0≤y0.to/\y0.to < (40:Int))) &&
 (decide ((0≤at_/\at_ < (40:Int))) &&
 (cond (match ((w64 ((tg 80 d (0 + y0.to.toNat * 2 + 0)) + y0.length)) == (tg 80 d (0 + at_.toNat * 2 + 0))) with | true => (match ((w64 ((tg 80 d (0 + y0.to.toNat * 2 + 1)) + (1:Int))) == (tg 80 d (0 + at_.toNat * 2 + 0 + 1))) with | true => true | false => false) | false => false)
 (decide (((out.len+1) * 16≤140737488355328/\out.len+1≤9223372036854775807)) &&
 true)
 (P0)))))
 (P0)))
 (P0))
def zkC (w : web) (at_ : Int) (d : Tab) (out : (Sl Use)) : List step → (Bool × Int × (Sl Use))
  | []=>zqE w at_ d out
  | y :: r=>zqG w at_ d out y (zkC w at_ d out r)
def zkD (w : web) (at_ : Int) (d : Tab) (out : (Sl Use)) : List step → Bool
  | []=>zqF w at_ d out
  | y :: r=>zqH w at_ d out y (zkD w at_ d out r)
def zxN (w:web) (at_:Int) (d:Tab) (out:(Sl Use)):(Bool×Int×(Sl Use)):=zkC w at_ d out (zkn w)
def zqI (w:web) (at_:Int) (d:Tab) (out:(Sl Use)):Bool:=decide ((ztU w=true)) && zkD w at_ d out (zkn w)
theorem zEc (K:List PA×List XA->Prop) (w:web) (at_:Int) (d:Tab) (out:(Sl Use)) (hs:zqI w at_ d out=true) (hk:K (e92 w d (zxN w at_ d out))):zkB K w at_ d out:=by
  unfold zqI at hs
  rw[Bool.and_eq_true] at hs
  obtain⟨hsf,hs⟩:=hs
  have hc:=of_decide_eq_true hsf
  refine zxM K w at_ d out ⟨isE,rfl,hc⟩ ?_
  intro X0 hexit hstep
  have key:∀ (l:List step),zkD w at_ d out l=true->K (e92 w d (zkC w at_ d out l))->X0 (l.map λ y=>[.agg (zaA y)]) (zfG w at_ d out):=by
    intro l
    induction l with
    | nil =>
      intro hs hk
      refine hexit () ?_
      have hs:zqF w at_ d out=true:=hs
      have hk:K (e92 w d (zqE w at_ d out)):=hk
      unfold zqF at hs
      unfold zqE at hk
      exact hk
    | cons y0 l ih =>
      intro hs hk
      refine hstep y0 _ () ?_
      have hs:zqH w at_ d out y0 (zkD w at_ d out l)=true:=hs
      have hk:K (e92 w d (zqG w at_ d out y0 (zkC w at_ d out l))):=hk
      unfold zqH at hs
      unfold zqG at hk
      generalize zkC w at_ d out l=S0 at hk ih
      generalize zkD w at_ d out l=P0 at hs ih
      have hX0:=ih
      exact (zeK (K := λ r => K (e92 w d r))
 (λ hs hk => (zaQ hs λ hc hs => ⟨hc, (zeK (K := λ r => K (e92 w d r))
 (λ hs hk => (zaQ hs λ hc hs => ⟨hc, (zaQ hs λ hc hs => ⟨hc, (zaQ hs λ hc hs => ⟨hc, (zeK (K := λ r => K (e92 w d r))
 (λ hs hk=>(zaQ hs λ hc hs=>⟨hc,(Eq.mpr (congrArg K (congrArg (λ (g_:Nat->List PV)=>(([.one (.bool true)],[.box 102 [.p (.fp (zaC w) 0)],.box 3 [.p (.int .i64 y0.to)],.box 116 (xcm (zao d)),.box 67 [.vec 75 2 16 (out.len+1) g_]]):List PA×List XA)) (zon (enc:=enc_75) (f:=out.get) (h:=(λ _=>y0.Use)) rfl rfl))) hk)⟩))
 (λ hs hk=>(hX0 hs hk)) hs hk)⟩)⟩)⟩))
 (λ hs hk=>(hX0 hs hk)) hs hk)⟩))
 (fun hs hk=>(hX0 hs hk)) hs hk)
  exact key _ hs hk
def s92 (w:web) (at_:Int) (d:Tab) (out:(Sl Use)):(Bool×Int×(Sl Use)) :=
  (zxN w at_ d out)
def p92 (w:web) (at_:Int) (d:Tab) (out:(Sl Use)):Bool :=
  (zqI w at_ d out)
theorem q92 (w:web) (at_:Int) (d:Tab) (out:(Sl Use)) (K:List PA×List XA->Prop) (hs:p92 w at_ d out=true) (hk:K (e92 w d (s92 w at_ d out))):zkf Tryd.prog G92 ziZ 92 [.box 102 [.p (.fp (zaC w) 0)],.box 3 [.p (.int .i64 at_)],.box 116 (xcm (zao d)),.box 67 [.vec 75 2 16 out.len (λ i=>enc_75 (out.get i))]] (λ a b=>K (a,b)):=by
  refine zaX (zEb w at_ d out K) ?_
  unfold p92 at hs
  unfold s92 at hk
  exact⟨⟨isE,rfl⟩,(zEc K w at_ d out hs hk)⟩
def zEd : MK
  | [.box 102 [.p (.fp [.int .i64 zau,.sl zaq zbv zam,.fm zc1 zaL zaM] 0)],.box 3 [.p (.int .i64 b1)],.box 116 zk2,.box 67 [.vec 75 2 16 zEe zEf]]=>some (IsE enc_40 4 zbv zam/\zc1=(false,1,false,[none])/\zk2=xcm (zao (za0 (unX zk2)))/\IsE enc_75 2 2 zEf/\p92 (⟨(⟨zau,(⟨zaq,zal zam⟩:(Sl Tie))⟩:Net),(⟨zaL,zaM⟩:Mp)⟩:web) b1 (za0 (unX zk2)) (⟨zEe,zbM zEf⟩:(Sl Use))=true,[.one (.bool ((s92 (⟨(⟨zau,(⟨zaq,zal zam⟩:(Sl Tie))⟩:Net),(⟨zaL,zaM⟩:Mp)⟩:web) b1 (za0 (unX zk2)) (⟨zEe,zbM zEf⟩:(Sl Use))).1))],[.box 102 [.p (.fp [.int .i64 zau,.sl zaq zbv zam,.fm zc1 zaL zaM] 0)],.box 3 [.p (.int .i64 ((s92 (⟨(⟨zau,(⟨zaq,zal zam⟩:(Sl Tie))⟩:Net),(⟨zaL,zaM⟩:Mp)⟩:web) b1 (za0 (unX zk2)) (⟨zEe,zbM zEf⟩:(Sl Use))).2.1))],.box 116 zk2,.box 67 [.vec 75 2 16 (((s92 (⟨(⟨zau,(⟨zaq,zal zam⟩:(Sl Tie))⟩:Net),(⟨zaL,zaM⟩:Mp)⟩:web) b1 (za0 (unX zk2)) (⟨zEe,zbM zEf⟩:(Sl Use))).2.2).len) (λ i=>enc_75 (((s92 (⟨(⟨zau,(⟨zaq,zal zam⟩:(Sl Tie))⟩:Net),(⟨zaL,zaM⟩:Mp)⟩:web) b1 (za0 (unX zk2)) (⟨zEe,zbM zEf⟩:(Sl Use))).2.2).get i))]])
  | _=>none
theorem zHD:zas Tryd.prog 92:=⟨_,rfl,rfl,by kernel_rfl⟩
theorem zLA:ziW Tryd.prog 92 zEd:=zCm zJM zHD λ xs safe rs ys h hs K hk=>by
  unfold zEd at h
  split at h
  · rename_i zau zaq zbv zam zc1 zaL zaM b1 zk2 zEe zEf
    simp only[Option.some.injEq,Prod.mk.injEq] at h
    obtain⟨rfl,rfl,rfl⟩:=h
    obtain⟨⟨rfl,zb6,rfl⟩,rfl,hT_b2,⟨_,zJN,rfl⟩,hs⟩:=hs
    try rw[zak zb6] at hs
    try rw[zak zb6] at hk
    try rw[zbA zJN] at hs
    try rw[zbA zJN] at hk
    refine⟨λ _ _=>[],λ _=>false,ziZ,?_⟩
    show zkf Tryd.prog G92 ziZ 92 _ K
    have hq:=q92 (⟨(⟨zau,(⟨zaq,zb6⟩:(Sl Tie))⟩:Net),(⟨zaL,zaM⟩:Mp)⟩:web) b1 (za0 (unX zk2)) (⟨zEe,zJN⟩:(Sl Use)) (λ x=>K x.1 x.2) hs
    dsimp only[e92] at hq
    rw[← hT_b2] at hq
    exact hq hk
  · cases h
abbrev T54:Tabs:=(((Tabs.nil.addF 74 zvL).addF 75 zvV).addM 92 zEd)
theorem zJO:TabsOk Tryd.prog T54:=(((TabsOk.nil.addF zJf).addF zJi).addM zLA)
abbrev G54:Ctrs:=csm T54 (λ _ _=>[]) (λ _=>false)
def zEg:Ann:=⟨45,[(0,zK [1,2,3] [3]),(1,zK [1,2,8,9] [8]),(2,zK [1,2,8,9,23] [8]),(3,zK [6,7] []),(4,zK [1,8,10] [8,10]),(5,zK [1,8,10,32] [8,10]),(6,zK [6,7] []),(7,zK [1,8,10,11] [8,10,11]),(8,zK [8,10,11,12] [8,10,11,12]),(9,zK [10,11,12,13] [8,10,11,12]),(10,zK [10,11,12,13,43] [8,10,11,12,5000]),(11,zK [6,7] [5000])],
 [(10,⟨[10,11,12,13],[8,10,11,12,5000],[],[(11,0,5000,75,λ _=>enc_75 default)],[],[],[]⟩)],
 [],
 [],[]⟩
abbrev R54:=((Sl Use)×Int)
abbrev e54 (r:R54):List PA:=[.one (.sl r.1.len 2 (λ i=>enc_75 (r.1.get i))),.one (.int .i64 r.2)]
@[irreducible] def z54:=ptF Tryd.prog G54 zEg Tryd.f54
def zBw (n:Net) (zaa:Int) (to:Int) (zgM:Int) (zaS:(Sl Use)) (dt0:Tab) (zdb:Nat->List PV):St:=⟨[(10,zp 10 0),(11,zp 11 0),(12,zp 12 0),(13,.one (.c (.clo 92 [.b 8,.b 12,.b 10,.b 11])))],[(8,.box 102 [.p (.fp (zaC (⟨(s74 n (⟨2,zat (zbt [(enc_3 zaa),(enc_3 to)])⟩:(Sl Int))).1.Net,((s74 n (⟨2,zat (zbt [(enc_3 zaa),(enc_3 to)])⟩:(Sl Int))).1.out)⟩:web)) 0)]),(10,.box 116 (zm (zao dt0))),(11,.box 67 [.vec 5000]),(12,.box 3 [zi zgM]),(5000,.vec 75 2 16 zaS.len zdb)],[]⟩
abbrev zHE (K:List PA->Prop) (n:Net) (zaa:Int) (to:Int) (X:St->Prop) (P:Int->(Sl Use)->Tab->Bool) (S:Int->(Sl Use)->Tab->((Sl Use)×Int)):Prop:=∀ ⦃zgM:Int⦄ ⦃zaS:(Sl Use)⦄ ⦃dt0:Tab⦄ ⦃zdb:Nat->List PV⦄,P zgM zaS dt0=true->K (e54 (S zgM zaS dt0))->zdb=zg enc_75 zaS->X (zBw n zaa to zgM zaS dt0 zdb)
section
variable {K:List PA->Prop}{n:Net}{zaa:Int}{to:Int}{zgM:Int}{zaS:(Sl Use)}{dt0:Tab}{zdb:Nat->List PV}{X0:St->Prop}{P0:Int->(Sl Use)->Tab->Bool}{S0:Int->(Sl Use)->Tab->((Sl Use)×Int)}
def zxO (n:Net) (zaa:Int) (to:Int) (S0:Int->(Sl Use)->Tab->((Sl Use)×Int)) (zgM:Int) (zaS:(Sl Use)) (dt0:Tab):((Sl Use)×Int) :=
  (cond (decide ((tg 80 dt0 (0 + zgM.toNat * 2 + 1)) > (0:Int)))
 (cond ((s92 (⟨(s74 n (⟨2, zat (zbt [(enc_3 zaa), (enc_3 to)])⟩ : (Sl Int))).1.Net, ((s74 n (⟨2, zat (zbt [(enc_3 zaa), (enc_3 to)])⟩ : (Sl Int))).1.out)⟩ : web) zgM (za0 (unX (xcm (zao dt0)))) (⟨zaS.len, zaS.get⟩ : (Sl Use))).1)
 (S0 ((s92 (⟨(s74 n (⟨2,zat (zbt [(enc_3 zaa),(enc_3 to)])⟩:(Sl Int))).1.Net,((s74 n (⟨2,zat (zbt [(enc_3 zaa),(enc_3 to)])⟩:(Sl Int))).1.out)⟩:web) zgM (za0 (unX (xcm (zao dt0)))) (⟨zaS.len,zaS.get⟩:(Sl Use))).2.1) ((s92 (⟨(s74 n (⟨2,zat (zbt [(enc_3 zaa),(enc_3 to)])⟩:(Sl Int))).1.Net,((s74 n (⟨2,zat (zbt [(enc_3 zaa),(enc_3 to)])⟩:(Sl Int))).1.out)⟩:web) zgM (za0 (unX (xcm (zao dt0)))) (⟨zaS.len,zaS.get⟩:(Sl Use))).2.2) dt0)
 (((s92 (⟨(s74 n (⟨2,zat (zbt [(enc_3 zaa),(enc_3 to)])⟩:(Sl Int))).1.Net,((s74 n (⟨2,zat (zbt [(enc_3 zaa),(enc_3 to)])⟩:(Sl Int))).1.out)⟩:web) zgM (za0 (unX (xcm (zao dt0)))) (⟨zaS.len,zaS.get⟩:(Sl Use))).2.2),(0:Int)))
 (zaS,(0:Int)))
def zxP (n:Net) (zaa:Int) (to:Int) (P0:Int->(Sl Use)->Tab->Bool) (zgM:Int) (zaS:(Sl Use)) (dt0:Tab):Bool :=
  (decide ((0≤zgM/\zgM < (40:Int))) &&
 (cond (decide ((tg 80 dt0 (0 + zgM.toNat * 2 + 1)) > (0:Int)))
 (decide ((p92 (⟨(s74 n (⟨2,zat (zbt [(enc_3 zaa),(enc_3 to)])⟩:(Sl Int))).1.Net,((s74 n (⟨2,zat (zbt [(enc_3 zaa),(enc_3 to)])⟩:(Sl Int))).1.out)⟩:web) zgM (za0 (unX (xcm (zao dt0)))) (⟨zaS.len,zaS.get⟩:(Sl Use))=true)) &&
 (cond ((s92 (⟨(s74 n (⟨2, zat (zbt [(enc_3 zaa), (enc_3 to)])⟩ : (Sl Int))).1.Net, ((s74 n (⟨2, zat (zbt [(enc_3 zaa), (enc_3 to)])⟩ : (Sl Int))).1.out)⟩ : web) zgM (za0 (unX (xcm (zao dt0)))) (⟨zaS.len, zaS.get⟩ : (Sl Use))).1)
 (P0 ((s92 (⟨(s74 n (⟨2,zat (zbt [(enc_3 zaa),(enc_3 to)])⟩:(Sl Int))).1.Net,((s74 n (⟨2,zat (zbt [(enc_3 zaa),(enc_3 to)])⟩:(Sl Int))).1.out)⟩:web) zgM (za0 (unX (xcm (zao dt0)))) (⟨zaS.len,zaS.get⟩:(Sl Use))).2.1) ((s92 (⟨(s74 n (⟨2,zat (zbt [(enc_3 zaa),(enc_3 to)])⟩:(Sl Int))).1.Net,((s74 n (⟨2,zat (zbt [(enc_3 zaa),(enc_3 to)])⟩:(Sl Int))).1.out)⟩:web) zgM (za0 (unX (xcm (zao dt0)))) (⟨zaS.len,zaS.get⟩:(Sl Use))).2.2) dt0)
 true))
 true))
def zxQ (n:Net) (zaa:Int) (to:Int):Nat->Int->(Sl Use)->Tab->((Sl Use)×Int):=lpO (λ _ _ _=>default) (zxO n zaa to)
def zxR (n:Net) (zaa:Int) (to:Int):Nat->Int->(Sl Use)->Tab->Bool:=lpO (λ _ _ _=>false) (zxP n zaa to)
def zxS (n:Net) (zaa:Int) (to:Int) (zgM:Int) (zaS:(Sl Use)) (dt0:Tab):((Sl Use)×Int):=zxQ n zaa to Fuel zgM zaS dt0
def zxT (n:Net) (zaa:Int) (to:Int) (zgM:Int) (zaS:(Sl Use)) (dt0:Tab):Bool:=zxR n zaa to Fuel zgM zaS dt0
theorem zEh (hs:zxT n zaa to zgM zaS dt0=true) (hk:K (e54 (zxS n zaa to zgM zaS dt0))) (zkE:zdb=zg enc_75 zaS):z54 (Wk K) [1,1,1,1,1,1,1,1,0,0] [] (zBw n zaa to zgM zaS dt0 zdb) :=
  zl (λ X=>z54 (Wk K) [1,1,1,1,1,1,1,1,0,0,0] [X]) (by kernel_rfl) λ X0 hX =>
  (show ∀ k, zHE K n zaa to X0 (zxR n zaa to k) (zxQ n zaa to k) from zfW _ _ (zxP n zaa to) (zxO n zaa to) (zHE K n zaa to X0)
 (by intro _ _ _ _ hs;exact absurd hs Bool.false_ne_true)
 (by intro P0 S0 hX0 zgM zaS dt0 zdb hs hk zkE;subst zkE;exact hX _ (zaX (by kernel_rfl) (zaQ hs λ hc hs=>And.intro hc (zc hs hk (λ hs hk=>(zaQ hs λ hc hs=>And.intro (And.intro (zE enc_40 4 ((s74 n (⟨2,zat (zbt [(enc_3 zaa),(enc_3 to)])⟩:(Sl Int))).1.Net.Ties.get)) (And.intro (rfl:((false,1,false,[none]):MQ)=(false,1,false,[none])) (And.intro (zCn:xcm (zao dt0)=xcm (zao (za0 (unX (xcm (zao dt0)))))) (And.intro (zE enc_75 2 zaS.get) hc)))) (zc hs hk (λ hs hk=>(hX0 hs hk rfl)) (λ hs hk=>((zgn hk):Wk K [.one (.sl (((s92 (⟨(s74 n (⟨2,zat (zbt [(enc_3 zaa),(enc_3 to)])⟩:(Sl Int))).1.Net,((s74 n (⟨2,zat (zbt [(enc_3 zaa),(enc_3 to)])⟩:(Sl Int))).1.out)⟩:web) zgM (za0 (unX (xcm (zao dt0)))) (⟨zaS.len,zaS.get⟩:(Sl Use))).2.2).len) 2 (λ i=>enc_75 (((s92 (⟨(s74 n (⟨2,zat (zbt [(enc_3 zaa),(enc_3 to)])⟩:(Sl Int))).1.Net,((s74 n (⟨2,zat (zbt [(enc_3 zaa),(enc_3 to)])⟩:(Sl Int))).1.out)⟩:web) zgM (za0 (unX (xcm (zao dt0)))) (⟨zaS.len,zaS.get⟩:(Sl Use))).2.2).get i))),.one (.int .i64 (0:Int))]))))) (λ hs hk=>((zgn hk):Wk K [.one (.sl zaS.len 2 (λ i=>enc_75 (zaS.get i))),.one (.int .i64 (0:Int))]))))))) _ hs hk zkE
def s54 (n:Net) (zaa:Int) (to:Int):((Sl Use)×Int) :=
  (cond ((s74 n (⟨2, zat (zbt [(enc_3 zaa), (enc_3 to)])⟩ : (Sl Int))).2 == 0)
 (cond ((0:Int) != (0:Int))
 ((⟨0,λ _=>default⟩:(Sl Use)),(0:Int))
 (cond (match ((tg 80 (s75 (⟨(s74 n (⟨2, zat (zbt [(enc_3 zaa), (enc_3 to)])⟩ : (Sl Int))).1.Net, ((s74 n (⟨2, zat (zbt [(enc_3 zaa), (enc_3 to)])⟩ : (Sl Int))).1.out)⟩ : web) to) (0 + zaa.toNat * 2 + 0)) == (1000000000000:Int)) with | true => (match ((tg 80 (s75 (⟨(s74 n (⟨2, zat (zbt [(enc_3 zaa), (enc_3 to)])⟩ : (Sl Int))).1.Net, ((s74 n (⟨2, zat (zbt [(enc_3 zaa), (enc_3 to)])⟩ : (Sl Int))).1.out)⟩ : web) to) (0 + zaa.toNat * 2 + 0 + 1)) == (0:Int)) with | true => true | false => false) | false => false)
 ((⟨0,λ _=>default⟩:(Sl Use)),(6:Int))
 (zxS n zaa to zaa (⟨0,(λ _=>default)⟩:Sl Use) (s75 (⟨(s74 n (⟨2,zat (zbt [(enc_3 zaa),(enc_3 to)])⟩:(Sl Int))).1.Net,((s74 n (⟨2,zat (zbt [(enc_3 zaa),(enc_3 to)])⟩:(Sl Int))).1.out)⟩:web) to))))
 (cond ((s74 n (⟨2, zat (zbt [(enc_3 zaa), (enc_3 to)])⟩ : (Sl Int))).2 != (0:Int))
 ((⟨0,λ _=>default⟩:(Sl Use)),(s74 n (⟨2,zat (zbt [(enc_3 zaa),(enc_3 to)])⟩:(Sl Int))).2)
 default))
def p54 (n:Net) (zaa:Int) (to:Int):Bool :=
  (cond ((s74 n (⟨2, zat (zbt [(enc_3 zaa), (enc_3 to)])⟩ : (Sl Int))).2 == 0)
 (decide ((p74 n (⟨2,zat (zbt [(enc_3 zaa),(enc_3 to)])⟩:(Sl Int))=true)) &&
 (cond ((0:Int) != (0:Int))
 true
 (decide ((p75 (⟨(s74 n (⟨2,zat (zbt [(enc_3 zaa),(enc_3 to)])⟩:(Sl Int))).1.Net,((s74 n (⟨2,zat (zbt [(enc_3 zaa),(enc_3 to)])⟩:(Sl Int))).1.out)⟩:web) to=true)) &&
 (decide ((0≤zaa/\zaa < (40:Int))) &&
 (cond (match ((tg 80 (s75 (⟨(s74 n (⟨2, zat (zbt [(enc_3 zaa), (enc_3 to)])⟩ : (Sl Int))).1.Net, ((s74 n (⟨2, zat (zbt [(enc_3 zaa), (enc_3 to)])⟩ : (Sl Int))).1.out)⟩ : web) to) (0 + zaa.toNat * 2 + 0)) == (1000000000000:Int)) with | true => (match ((tg 80 (s75 (⟨(s74 n (⟨2, zat (zbt [(enc_3 zaa), (enc_3 to)])⟩ : (Sl Int))).1.Net, ((s74 n (⟨2, zat (zbt [(enc_3 zaa), (enc_3 to)])⟩ : (Sl Int))).1.out)⟩ : web) to) (0 + zaa.toNat * 2 + 0 + 1)) == (0:Int)) with | true => true | false => false) | false => false)
 true
 (zxT n zaa to zaa (⟨0,(λ _=>default)⟩:Sl Use) (s75 (⟨(s74 n (⟨2,zat (zbt [(enc_3 zaa),(enc_3 to)])⟩:(Sl Int))).1.Net,((s74 n (⟨2,zat (zbt [(enc_3 zaa),(enc_3 to)])⟩:(Sl Int))).1.out)⟩:web) to)))))))
 (decide ((p74 n (⟨2,zat (zbt [(enc_3 zaa),(enc_3 to)])⟩:(Sl Int))=true)) &&
 (cond ((s74 n (⟨2, zat (zbt [(enc_3 zaa), (enc_3 to)])⟩ : (Sl Int))).2 != (0:Int))
 true
 false)))
end
theorem q54 (n:Net) (zaa:Int) (to:Int) (K:List PA->Prop) (hs:p54 n zaa to=true) (hk:K (e54 (s54 n zaa to))):vcFun Tryd.prog G54 zEg 54 [.agg (enc_24 n),.one (.int .i64 zaa),.one (.int .i64 to)] (Wk K) :=
  zaX (by kernel_rfl) (zc hs hk (λ hs hk=>(zaQ hs λ hc hs=>And.intro (And.intro (zE enc_40 4 n.Ties.get) (And.intro ((zd2 []):IsE enc_3 1 1 (zbt [(enc_3 zaa),(enc_3 to)])) hc)) (zc hs hk (λ hs hk=>((wk hk (zhp (.one (.nil _ _)) (zhp (.one (.rfl _)) znx))):Wk K [.one (.nils),.one (.int .i64 (0:Int))])) (λ hs hk=>(zaQ hs λ hc hs=>And.intro (And.intro (zE enc_40 4 ((s74 n (⟨2,zat (zbt [(enc_3 zaa),(enc_3 to)])⟩:(Sl Int))).1.Net.Ties.get)) (And.intro (rfl:((false,1,false,[none]):MQ)=(false,1,false,[none])) hc)) (zaQ hs λ hc hs=>And.intro hc (zc hs hk (λ hs hk=>((wk hk (zhp (.one (.nil _ _)) (zhp (.one (.rfl _)) znx))):Wk K [.one (.nils),.one (.int .i64 (6:Int))])) (λ hs hk=>(zEh hs hk rfl))))))))) (λ hs hk=>(zaQ hs λ hc hs=>And.intro (And.intro (zE enc_40 4 n.Ties.get) (And.intro ((zd2 []):IsE enc_3 1 1 (zbt [(enc_3 zaa),(enc_3 to)])) hc)) (zc hs hk (λ hs hk=>((wk hk (zhp (.one (.nil _ _)) (zhp (.one (.rfl _)) znx))):Wk K [.one (.nils),.one (.int .i64 ((s74 n (⟨2,zat (zbt [(enc_3 zaa),(enc_3 to)])⟩:(Sl Int))).2))])) (λ hs hk=>(absurd hs Bool.false_ne_true:False))))))
def zEi : List PA → COut
  | [.agg [.int .i64 zah,.sl zae zaz zad],.one (.int .i64 a1),.one (.int .i64 a2)]=>.det (IsE enc_40 4 zaz zad/\p54 (⟨zah,(⟨zae,zal zad⟩:(Sl Tie))⟩:Net) a1 a2=true) [.one (.sl (((s54 (⟨zah,(⟨zae,zal zad⟩:(Sl Tie))⟩:Net) a1 a2).1).len) 2 (λ i=>enc_75 (((s54 (⟨zah,(⟨zae,zal zad⟩:(Sl Tie))⟩:Net) a1 a2).1).get i))),.one (.int .i64 ((s54 (⟨zah,(⟨zae,zal zad⟩:(Sl Tie))⟩:Net) a1 a2).2))]
  | _=>.no
theorem zHF:zas Tryd.prog 54:=⟨_,rfl,rfl,by kernel_rfl⟩
theorem zLB:Ok Tryd.prog 54 zEi:=zhC zJO zHF λ args K h=>by
  unfold zEi at h
  split at h
  · rename_i zah zae zaz zad a1 a2
    obtain⟨⟨⟨rfl,zar,rfl⟩,hs⟩,hk⟩:=h
    try rw[zak zar] at hs
    try rw[zak zar] at hk
    exact⟨_,zff zgm _,(λ _ _=>[]),(λ _=>false),zEg,q54 (⟨zah,(⟨zae,zar⟩:(Sl Tie))⟩:Net) a1 a2 K hs hk⟩
  · exact h.elim
abbrev T66:Tabs:=Tabs.nil
theorem zJP:TabsOk Tryd.prog T66:=TabsOk.nil
abbrev G66:Ctrs:=csm T66 (λ _ _=>[]) (λ _=>false)
def zHG:Ann:=⟨6,[(0,zK [0] [0]),(1,zK [0] [0,4])],
 [],
 [],
 [],[]⟩
abbrev R66:=Net
abbrev e66 (r:R66):List PA:=[.agg [.int .i64 r.Nodes,.sl r.Ties.len 4 (λ i=>enc_40 (r.Ties.get i))]]
section
variable {K:List PA->Prop}
def s66:Net :=
  (⟨(3:Int),(⟨3,(zoY (⟨(0:Int),(1:Int),(5:Int),(8:Int)⟩:Tie) [(⟨(0:Int),(1:Int),(5:Int),(8:Int)⟩:Tie),(⟨(1:Int),(2:Int),(-2:Int),(3:Int)⟩:Tie),(⟨(2:Int),(0:Int),(-9:Int),(1000000000000:Int)⟩:Tie)])⟩:(Sl Tie))⟩:Net)
end
theorem q66 (K:List PA->Prop) (hk:K (e66 (s66))):vcFun Tryd.prog G66 zHG 66 [] K :=
  zaX (by kernel_rfl) (Eq.mpr (congrArg K (congrArg (λ (g_:Nat->List PV)=>([.agg [.int .i64 (3:Int),.sl 3 4 g_]]:List PA)) (zss (enc:=enc_40) (x:=(⟨(0:Int),(1:Int),(5:Int),(8:Int)⟩:Tie)) (y:=(⟨(1:Int),(2:Int),(-2:Int),(3:Int)⟩:Tie)) (r:=[(⟨(2:Int),(0:Int),(-9:Int),(1000000000000:Int)⟩:Tie)])))) hk)
def zEj : List PA → COut
  | []=>.tot [.agg [.int .i64 ((s66).Nodes),.sl ((s66).Ties.len) 4 (λ i=>enc_40 ((s66).Ties.get i))]]
  | _=>.no
theorem zHH:zas Tryd.prog 66:=⟨_,rfl,rfl,by kernel_rfl⟩
theorem zLC:Ok Tryd.prog 66 zEj:=zbm zJP zHH λ args K h=>by
  unfold zEj at h
  split at h
  · have hk := h
    exact⟨(λ _ _=>[]),(λ _=>false),zHG,q66 K hk⟩
  · exact h.elim
abbrev T21:Tabs:=((((((((((Tabs.nil.addF 22 zDO).addF 25 zDS).addF 26 zzX).addF 29 zDT).addF 32 zDX).addF 45 zD6).addF 49 zAd).addF 53 zEa).addF 54 zEi).addF 66 zEj)
theorem zJQ:TabsOk Tryd.prog T21:=((((((((((TabsOk.nil.addF zLs).addF zLt).addF zKz).addF zLu).addF ok32).addF zLy).addF zKK).addF zLz).addF zLB).addF zLC)
abbrev G21:Ctrs:=csm T21 (λ _ _=>[]) (λ _=>false)
def zEk:Ann:=⟨87,[(0,zK [] []),(1,zK [1,2] []),(2,zK [1,2,3,4] []),(3,zK [1,2,3,4,5,6] []),(4,zK [1,2,3,4,5,6,7] [7]),(5,zK [1,2,3,4,5,6,7,8,9] [7]),(6,zK [1,2,3,4,5,6,8,9,10,11] []),(7,zK [1,3,5,8,10,57] []),(8,zK [0] []),(9,zK [0] [])],
 [],
 [(2,zK [1,2] []),(3,zK [1,2,3,4] []),(4,zK [1,2,3,4,5,6] []),(5,zK [1,2,3,4,5,6,7] [7]),(6,zK [1,2,3,4,5,6,7,8,9] [7]),(7,zK [1,2,3,4,5,6,8,9,10,11] []),(9,zK [1,3,5,8,10] [])],
 [],[]⟩
abbrev R21:=Bool
abbrev e21 (r:R21):List PA:=[.one (.bool r)]
@[irreducible] def z21:=ptF Tryd.prog G21 zEk Tryd.f21
section
variable {K:List PA->Prop}{bv0:(Sl Span)}{ev0:Int}{zHI:Nat->List PV}{cv1:(Sl Use)}{fv1:Int}{zHJ:Nat->List PV}{vv2:(Sl Int)}{gv2:Int}{zHK:Nat->List PV}{zdT:Int}{zdh:(Sl Tie)}{zxU:Nat->List PV}{xv4:(Sl Use)}{hv4:Int}{zHL:Nat->List PV}{lv5:(Sl Int)}{iv5:Int}{zHM:Nat->List PV}
def zxV (bv0:(Sl Span)) (cv1:(Sl Use)) (vv2:(Sl Int)) (xv4:(Sl Use)) (lv5:(Sl Int)):Bool :=
  (cond (s32 bv0 (⟨3, zfg (zbt [(zbq (⟨(0:Int), (0:Int)⟩ : Span)), (zbq (⟨(5:Int), (8:Int)⟩ : Span)), (zbq (⟨(3:Int), (9:Int)⟩ : Span))])⟩ : (Sl Span)))
 (cond (s53 cv1 (⟨1, λ _ => (⟨(2:Int), true⟩ : Use)⟩ : (Sl Use)))
 (cond (s25 vv2 (⟨3, zat (zbt [(enc_3 (0:Int)), (enc_3 (5:Int)), (enc_3 (8:Int))])⟩ : (Sl Int)))
 (cond (s53 xv4 (⟨2, zbM (zbt [(enc_75 (⟨(2:Int), true⟩ : Use)), (enc_75 (⟨(3:Int), true⟩ : Use))])⟩ : (Sl Use)))
 (s25 lv5 (⟨1,λ _=>(2:Int)⟩:(Sl Int)))
 false)
 false)
 false)
 false)
def zxW (bv0:(Sl Span)) (cv1:(Sl Use)) (vv2:(Sl Int)) (xv4:(Sl Use)) (lv5:(Sl Int)):Bool :=
  (decide ((p32 bv0 (⟨3,zfg (zbt [(zbq (⟨(0:Int),(0:Int)⟩:Span)),(zbq (⟨(5:Int),(8:Int)⟩:Span)),(zbq (⟨(3:Int),(9:Int)⟩:Span))])⟩:(Sl Span))=true)) &&
 (cond (s32 bv0 (⟨3, zfg (zbt [(zbq (⟨(0:Int), (0:Int)⟩ : Span)), (zbq (⟨(5:Int), (8:Int)⟩ : Span)), (zbq (⟨(3:Int), (9:Int)⟩ : Span))])⟩ : (Sl Span)))
 (decide ((p53 cv1 (⟨1,λ _=>(⟨(2:Int),true⟩:Use)⟩:(Sl Use))=true)) &&
 (cond (s53 cv1 (⟨1, λ _ => (⟨(2:Int), true⟩ : Use)⟩ : (Sl Use)))
 (decide ((p25 vv2 (⟨3,zat (zbt [(enc_3 (0:Int)),(enc_3 (5:Int)),(enc_3 (8:Int))])⟩:(Sl Int))=true)) &&
 (cond (s25 vv2 (⟨3, zat (zbt [(enc_3 (0:Int)), (enc_3 (5:Int)), (enc_3 (8:Int))])⟩ : (Sl Int)))
 (decide ((p53 xv4 (⟨2,zbM (zbt [(enc_75 (⟨(2:Int),true⟩:Use)),(enc_75 (⟨(3:Int),true⟩:Use))])⟩:(Sl Use))=true)) &&
 (cond (s53 xv4 (⟨2, zbM (zbt [(enc_75 (⟨(2:Int), true⟩ : Use)), (enc_75 (⟨(3:Int), true⟩ : Use))])⟩ : (Sl Use)))
 (decide ((p25 lv5 (⟨1,λ _=>(2:Int)⟩:(Sl Int))=true)) &&
 true)
 true))
 true))
 true))
 true))
theorem zEl (hs:zxW bv0 cv1 vv2 xv4 lv5=true) (hk:K (e21 (zxV bv0 cv1 vv2 xv4 lv5))):z21 K [1,1,1,1,1,1,1,1] [] ⟨[(1,zS zbq 2 bv0),(3,zS enc_75 2 cv1),(5,zS enc_3 1 vv2),(8,zS enc_75 2 xv4),(10,zS enc_3 1 lv5)],[],[]⟩:=zaX (by kernel_rfl) (zaQ hs λ hc hs=>And.intro (And.intro (zE zbq 2 bv0.get) (And.intro ((zd2 [(⟨(3:Int),(9:Int)⟩:Span)]):IsE zbq 2 2 (zbt [(zbq (⟨(0:Int),(0:Int)⟩:Span)),(zbq (⟨(5:Int),(8:Int)⟩:Span)),(zbq (⟨(3:Int),(9:Int)⟩:Span))])) hc)) (zc hs hk (λ hs hk=>(zaQ hs λ hc hs=>And.intro (And.intro (zE enc_75 2 cv1.get) (And.intro (zvv:IsE enc_75 2 2 (λ _=>(enc_75 (⟨(2:Int),true⟩:Use)))) hc)) (zc hs hk (λ hs hk=>(zaQ hs λ hc hs=>And.intro (And.intro (zE enc_3 1 vv2.get) (And.intro ((zd2 [(8:Int)]):IsE enc_3 1 1 (zbt [(enc_3 (0:Int)),(enc_3 (5:Int)),(enc_3 (8:Int))])) hc)) (zc hs hk (λ hs hk=>(zaQ hs λ hc hs=>And.intro (And.intro (zE enc_75 2 xv4.get) (And.intro ((zd2 []):IsE enc_75 2 2 (zbt [(enc_75 (⟨(2:Int),true⟩:Use)),(enc_75 (⟨(3:Int),true⟩:Use))])) hc)) (zc hs hk (λ hs hk=>(zaQ hs λ hc hs=>And.intro (And.intro (zE enc_3 1 lv5.get) (And.intro (zvv:IsE enc_3 1 1 (λ _=>(enc_3 (2:Int)))) hc)) hk)) (λ hs hk=>hk)))) (λ hs hk=>hk)))) (λ hs hk=>hk)))) (λ hs hk=>hk)))
def zxX (bv0:(Sl Span)) (ev0:Int) (cv1:(Sl Use)) (fv1:Int) (vv2:(Sl Int)) (gv2:Int) (xv4:(Sl Use)) (hv4:Int) (lv5:(Sl Int)) (iv5:Int):Bool :=
  (cond (ev0 != (0:Int))
 false
 (cond (fv1 != (0:Int))
 false
 (cond (gv2 != (0:Int))
 false
 (cond (hv4 != (0:Int))
 false
 (cond (iv5 != (0:Int))
 false
 (zxV bv0 cv1 vv2 xv4 lv5))))))
def zxY (bv0:(Sl Span)) (ev0:Int) (cv1:(Sl Use)) (fv1:Int) (vv2:(Sl Int)) (gv2:Int) (xv4:(Sl Use)) (hv4:Int) (lv5:(Sl Int)) (iv5:Int):Bool :=
  (cond (ev0 != (0:Int))
 true
 (cond (fv1 != (0:Int))
 true
 (cond (gv2 != (0:Int))
 true
 (cond (hv4 != (0:Int))
 true
 (cond (iv5 != (0:Int))
 true
 (zxW bv0 cv1 vv2 xv4 lv5))))))
theorem zEm (hs:zxY bv0 ev0 cv1 fv1 vv2 gv2 xv4 hv4 lv5 iv5=true) (hk:K (e21 (zxX bv0 ev0 cv1 fv1 vv2 gv2 xv4 hv4 lv5 iv5))) (zJR:zHM=zg enc_3 lv5):z21 K [1,1,1,1,1,1,1] [] ⟨[(1,zS zbq 2 bv0),(2,zI ev0),(3,zS enc_75 2 cv1),(4,zI fv1),(5,zS enc_3 1 vv2),(6,zI gv2),(8,zS enc_75 2 xv4),(9,zI hv4),(10,zP (.sl lv5.len 1 zHM)),(11,zI iv5)],[],[]⟩:=by subst zJR;exact zaX (by kernel_rfl) (zc hs hk (λ hs hk=>hk) (λ hs hk=>(zc hs hk (λ hs hk=>hk) (λ hs hk=>(zc hs hk (λ hs hk=>hk) (λ hs hk=>(zc hs hk (λ hs hk=>hk) (λ hs hk=>(zc hs hk (λ hs hk=>hk) (λ hs hk=>(zEl hs hk)))))))))))
def zxZ (bv0:(Sl Span)) (ev0:Int) (cv1:(Sl Use)) (fv1:Int) (vv2:(Sl Int)) (gv2:Int) (zdT:Int) (zdh:(Sl Tie)) (xv4:(Sl Use)) (hv4:Int):Bool :=
  (zxX bv0 ev0 cv1 fv1 vv2 gv2 xv4 hv4 ((s22 (⟨zdT,zdh⟩:Net)).1) ((s22 (⟨zdT,zdh⟩:Net)).2))
def zx0 (bv0:(Sl Span)) (ev0:Int) (cv1:(Sl Use)) (fv1:Int) (vv2:(Sl Int)) (gv2:Int) (zdT:Int) (zdh:(Sl Tie)) (xv4:(Sl Use)) (hv4:Int):Bool :=
  (decide ((p22 (⟨zdT,zdh⟩:Net)=true)) &&
 (zxY bv0 ev0 cv1 fv1 vv2 gv2 xv4 hv4 ((s22 (⟨zdT,zdh⟩:Net)).1) ((s22 (⟨zdT,zdh⟩:Net)).2)))
theorem zEn (hs:zx0 bv0 ev0 cv1 fv1 vv2 gv2 zdT zdh xv4 hv4=true) (hk:K (e21 (zxZ bv0 ev0 cv1 fv1 vv2 gv2 zdT zdh xv4 hv4))) (zJS:zHL=zg enc_75 xv4):z21 K [1,1,1,1,1,1] [] ⟨[(1,zS zbq 2 bv0),(2,zI ev0),(3,zS enc_75 2 cv1),(4,zI fv1),(5,zS enc_3 1 vv2),(6,zI gv2),(7,zp 7 0),(8,zP (.sl xv4.len 2 zHL)),(9,zI hv4)],[(7,.box 24 (zm (enc_24 (⟨zdT,zdh⟩:Net))))],[]⟩:=by subst zJS;exact zaX (by kernel_rfl) (zaQ hs λ hc hs=>And.intro (And.intro (zE enc_40 4 zdh.get) hc) (zEm hs hk rfl))
def zx1 (bv0:(Sl Span)) (ev0:Int) (cv1:(Sl Use)) (fv1:Int) (vv2:(Sl Int)) (gv2:Int) (zdT:Int) (zdh:(Sl Tie)):Bool :=
  (zxZ bv0 ev0 cv1 fv1 vv2 gv2 zdT zdh ((s49 (⟨zdT,zdh⟩:Net)).1) ((s49 (⟨zdT,zdh⟩:Net)).2))
def zx2 (bv0:(Sl Span)) (ev0:Int) (cv1:(Sl Use)) (fv1:Int) (vv2:(Sl Int)) (gv2:Int) (zdT:Int) (zdh:(Sl Tie)):Bool :=
  (decide ((p49 (⟨zdT,zdh⟩:Net)=true)) &&
 (zx0 bv0 ev0 cv1 fv1 vv2 gv2 zdT zdh ((s49 (⟨zdT,zdh⟩:Net)).1) ((s49 (⟨zdT,zdh⟩:Net)).2)))
theorem zEo (hs:zx2 bv0 ev0 cv1 fv1 vv2 gv2 zdT zdh=true) (hk:K (e21 (zx1 bv0 ev0 cv1 fv1 vv2 gv2 zdT zdh))) (zEp:zxU=zg enc_40 zdh):z21 K [1,1,1,1,1] [] ⟨[(1,zS zbq 2 bv0),(2,zI ev0),(3,zS enc_75 2 cv1),(4,zI fv1),(5,zS enc_3 1 vv2),(6,zI gv2),(7,zp 7 0)],[(7,.box 24 [zi zdT,.p (.sl zdh.len 4 zxU)])],[]⟩:=by subst zEp;exact zaX (by kernel_rfl) (zaQ hs λ hc hs=>And.intro (And.intro (zE enc_40 4 zdh.get) hc) (zEn hs hk rfl))
def zx3 (bv0:(Sl Span)) (ev0:Int) (cv1:(Sl Use)) (fv1:Int) (vv2:(Sl Int)) (gv2:Int):Bool :=
  (zx1 bv0 ev0 cv1 fv1 vv2 gv2 ((s29 s66 (⟨(0:Int),(2:Int),(10:Int),(12:Int)⟩:Tie)).Nodes) ((s29 s66 (⟨(0:Int),(2:Int),(10:Int),(12:Int)⟩:Tie)).Ties))
def zx4 (bv0:(Sl Span)) (ev0:Int) (cv1:(Sl Use)) (fv1:Int) (vv2:(Sl Int)) (gv2:Int):Bool :=
  (decide ((p29 s66 (⟨(0:Int),(2:Int),(10:Int),(12:Int)⟩:Tie)=true)) &&
 (zx2 bv0 ev0 cv1 fv1 vv2 gv2 ((s29 s66 (⟨(0:Int),(2:Int),(10:Int),(12:Int)⟩:Tie)).Nodes) ((s29 s66 (⟨(0:Int),(2:Int),(10:Int),(12:Int)⟩:Tie)).Ties)))
theorem zEq (hs:zx4 bv0 ev0 cv1 fv1 vv2 gv2=true) (hk:K (e21 (zx3 bv0 ev0 cv1 fv1 vv2 gv2))) (zJT:zHK=zg enc_3 vv2):z21 K [1,1,1,1] [] ⟨[(1,zS zbq 2 bv0),(2,zI ev0),(3,zS enc_75 2 cv1),(4,zI fv1),(5,zP (.sl vv2.len 1 zHK)),(6,zI gv2)],[],[]⟩:=by subst zJT;exact zaX (by kernel_rfl) (zaQ hs λ hc hs=>And.intro (And.intro (zE enc_40 4 s66.Ties.get) hc) (zEo hs hk rfl))
def zx5 (bv0:(Sl Span)) (ev0:Int) (cv1:(Sl Use)) (fv1:Int):Bool :=
  (zx3 bv0 ev0 cv1 fv1 ((s45 s66 (1:Int) (0:Int)).1) ((s45 s66 (1:Int) (0:Int)).2))
def zx6 (bv0:(Sl Span)) (ev0:Int) (cv1:(Sl Use)) (fv1:Int):Bool :=
  (decide ((p45 s66 (1:Int) (0:Int)=true)) &&
 (zx4 bv0 ev0 cv1 fv1 ((s45 s66 (1:Int) (0:Int)).1) ((s45 s66 (1:Int) (0:Int)).2)))
theorem zEr (hs:zx6 bv0 ev0 cv1 fv1=true) (hk:K (e21 (zx5 bv0 ev0 cv1 fv1))) (zJU:zHJ=zg enc_75 cv1):z21 K [1,1,1] [] ⟨[(1,zS zbq 2 bv0),(2,zI ev0),(3,zP (.sl cv1.len 2 zHJ)),(4,zI fv1)],[],[]⟩:=by subst zJU;exact zaX (by kernel_rfl) (zaQ hs λ hc hs=>And.intro (And.intro (zE enc_40 4 s66.Ties.get) hc) (zEq hs hk rfl))
def zx7 (bv0:(Sl Span)) (ev0:Int):Bool :=
  (zx5 bv0 ev0 ((s54 s66 (0:Int) (2:Int)).1) ((s54 s66 (0:Int) (2:Int)).2))
def zx8 (bv0:(Sl Span)) (ev0:Int):Bool :=
  (decide ((p54 s66 (0:Int) (2:Int)=true)) &&
 (zx6 bv0 ev0 ((s54 s66 (0:Int) (2:Int)).1) ((s54 s66 (0:Int) (2:Int)).2)))
theorem zEs (hs:zx8 bv0 ev0=true) (hk:K (e21 (zx7 bv0 ev0))) (zJV:zHI=zg zbq bv0):z21 K [1,1] [] ⟨[(1,zP (.sl bv0.len 2 zHI)),(2,zI ev0)],[],[]⟩:=by subst zJV;exact zaX (by kernel_rfl) (zaQ hs λ hc hs=>And.intro (And.intro (zE enc_40 4 s66.Ties.get) hc) (zEr hs hk rfl))
def s21:Bool :=
  (zx7 ((s26 s66).1) ((s26 s66).2))
def p21:Bool :=
  (decide ((p26 s66=true)) &&
 (zx8 ((s26 s66).1) ((s26 s66).2)))
end
theorem q21 (K:List PA->Prop) (hs:p21=true) (hk:K (e21 (s21))):vcFun Tryd.prog G21 zEk 21 [] K :=
  zaX (by kernel_rfl) (zaQ hs λ hc hs=>And.intro (And.intro (zE enc_40 4 s66.Ties.get) hc) (zEs hs hk rfl))
theorem zHN:p21=true:=by kernel_rfl
theorem zHO:s21=true:=by kernel_rfl
def zEt : List PA → COut
  | []=>.tot [.one (.bool true)]
  | _=>.no
theorem zHP:zas Tryd.prog 21:=⟨_,rfl,rfl,by kernel_rfl⟩
theorem zLD:Ok Tryd.prog 21 zEt:=zbm zJQ zHP λ args K h=>by
  unfold zEt at h
  split at h
  · refine ⟨fun _ _ => [], fun _ => false, zEk, q21 K zHN ?_⟩
    show K [.one (.bool s21)]
    rw[zHO];exact h
  · exact h.elim
abbrev T20:Tabs:=Tabs.nil
theorem zJW:TabsOk Tryd.prog T20:=TabsOk.nil
abbrev G20:Ctrs:=csm T20 (λ _ _=>[]) (λ _=>false)
def zHQ:Ann:=⟨32,[(0,zK [1,2] [2]),(1,zK [4] [])],
 [],
 [],
 [],[]⟩
abbrev R20:=Bool
abbrev e20 (r:R20):List PA:=[.one (.bool r)]
section
variable {K:List PA->Prop}{n:Net}{ties:Int}
def s20 (n:Net) (ties:Int):Bool :=
  (cond (decide (n.Nodes ≤ (7:Int)))
 (cond (decide ((n.Ties.len : Int) ≤ ties))
 true
 (cond (decide ((n.Ties.len : Int) > (200:Int)))
 (decide ((n.Ties.len:Int)≤(210:Int)))
 false))
 (cond (decide (n.Nodes > (40:Int)))
 (cond (decide ((n.Ties.len : Int) ≤ ties))
 true
 (cond (decide ((n.Ties.len : Int) > (200:Int)))
 (decide ((n.Ties.len:Int)≤(210:Int)))
 false))
 false))
end
theorem q20 (n:Net) (ties:Int) (K:List PA->Prop) (hk:K (e20 (s20 n ties))):vcFun Tryd.prog G20 zHQ 20 [.agg (enc_24 n),.one (.int .i64 ties)] K :=
  zaX (by kernel_rfl) (zt hk (λ hk=>(zt hk (λ hk=>hk) (λ hk=>(zt hk (λ hk=>hk) (λ hk=>hk))))) (λ hk=>(zt hk (λ hk=>(zt hk (λ hk=>hk) (λ hk=>(zt hk (λ hk=>hk) (λ hk=>hk))))) (λ hk=>hk))))
def zEu : List PA → COut
  | [.agg [.int .i64 zah,.sl zae zaz zad],.one (.int .i64 a1)]=>.det (IsE enc_40 4 zaz zad) [.one (.bool (s20 (⟨zah,(⟨zae,zal zad⟩:(Sl Tie))⟩:Net) a1))]
  | _=>.no
theorem zHR:zas Tryd.prog 20:=⟨_,rfl,rfl,by kernel_rfl⟩
theorem zLE:Ok Tryd.prog 20 zEu:=zbm zJW zHR λ args K h=>by
  unfold zEu at h
  split at h
  · rename_i zah zae zaz zad a1
    obtain⟨⟨rfl,zar,rfl⟩,hk⟩:=h
    try rw[zak zar] at hk
    exact⟨(λ _ _=>[]),(λ _=>false),zHQ,q20 (⟨zah,(⟨zae,zar⟩:(Sl Tie))⟩:Net) a1 K hk⟩
  · exact h.elim
abbrev T72:Tabs:=Tabs.nil
theorem zJX:TabsOk Tryd.prog T72:=TabsOk.nil
abbrev G72:Ctrs:=csm T72 (λ _ _=>[]) (λ _=>false)
def zHS:Ann:=⟨15,[(0,zK [0,1,2] []),(1,zK [6] [])],
 [],
 [],
 [],[]⟩
abbrev R72:=Bool
abbrev e72 (r:R72):List PA:=[.one (.bool r)]
section
variable {K:List PA->Prop}{x:Int}{low:Int}{high:Int}
def s72 (x:Int) (low:Int) (high:Int):Bool :=
  (cond (decide (x ≥ low))
 (decide (x≤high))
 false)
end
theorem q72 (x:Int) (low:Int) (high:Int) (K:List PA->Prop) (hk:K (e72 (s72 x low high))):vcFun Tryd.prog G72 zHS 72 [.one (.int .i64 x),.one (.int .i64 low),.one (.int .i64 high)] K :=
  zaX (by kernel_rfl) (zt hk (λ hk=>hk) (λ hk=>hk))
def zx9 : List PA → COut
  | [.one (.int .i64 a0),.one (.int .i64 a1),.one (.int .i64 a2)]=>.tot [.one (.bool (s72 a0 a1 a2))]
  | _=>.no
theorem zHT:zas Tryd.prog 72:=⟨_,rfl,rfl,by kernel_rfl⟩
theorem zJY:Ok Tryd.prog 72 zx9:=zbm zJX zHT λ args K h=>by
  unfold zx9 at h
  split at h
  · rename_i a0 a1 a2
    have hk:=h
    exact⟨(λ _ _=>[]),(λ _=>false),zHS,q72 a0 a1 a2 K hk⟩
  · exact h.elim
abbrev T36:Tabs:=(Tabs.nil.addF 72 zx9)
theorem zJZ:TabsOk Tryd.prog T36:=(TabsOk.nil.addF zJY)
abbrev G36:Ctrs:=csm T36 (λ _ _=>[]) (λ _=>false)
def zEv:Ann:=⟨51,[(0,zK [0,3] [3]),(1,zK [3,32] [3]),(2,zK [4] []),(3,zK [4] [])],
 [],
 [(2,zK [3,32] [3]),(3,zK [3] [3])],
 [],[]⟩
abbrev R36:=Bool
abbrev e36 (r:R36):List PA:=[.one (.bool r)]
@[irreducible] def z36:=ptF Tryd.prog G36 zEv Tryd.f36
section
variable {K:List PA->Prop}{nodes:Int}{t:Tie}{zi0:Bool}
def zqJ (t:Tie):Bool :=
  (cond (t.Low == (-1000000000000:Int))
 (cond (t.High == (1000000000000:Int))
 true
 (s72 t.High (-1000000000:Int) (1000000000:Int)))
 (cond (s72 t.Low (-1000000000:Int) (1000000000:Int))
 (cond (t.High == (1000000000000:Int))
 true
 (s72 t.High (-1000000000:Int) (1000000000:Int)))
 false))
theorem zEw (hk:K (e36 (zqJ t))):z36 K [1,1] [] ⟨[(3,zp 3 0)],[(3,.box 40 (zm (enc_40 t)))],[]⟩:=zaX (by kernel_rfl) (zt hk (λ hk=>(zt hk (λ hk=>hk) (λ hk=>hk))) (λ hk=>(zt hk (λ hk=>(zt hk (λ hk=>hk) (λ hk=>hk))) (λ hk=>hk))))
def zii (t:Tie) (zi0:Bool):Bool :=
  (cond zi0
 false
 (zqJ t))
theorem zm7 (hk:K (e36 (zii t zi0))):z36 K [1,0,1] [] ⟨[(3,zp 3 0),(32,zB zi0)],[(3,.box 40 (zm (enc_40 t)))],[]⟩:=zaX (by kernel_rfl) (zt hk (λ hk=>hk) (λ hk=>(zEw hk)))
def s36 (nodes:Int) (t:Tie):Bool :=
  (cond (!(s72 t.From (0:Int) (w64 (nodes - (1:Int)))))
 (zii t true)
 (cond (!(s72 t.To (0:Int) (w64 (nodes - (1:Int)))))
 (zii t true)
 (cond (t.From == t.To)
 (zii t true)
 (zii t (decide (t.Low > t.High))))))
end
theorem q36 (nodes:Int) (t:Tie) (K:List PA->Prop) (hk:K (e36 (s36 nodes t))):vcFun Tryd.prog G36 zEv 36 [.one (.int .i64 nodes),.agg (enc_40 t)] K :=
  zaX (by kernel_rfl) (zt hk (λ hk=>(zm7 hk)) (λ hk=>(zt hk (λ hk=>(zm7 hk)) (λ hk=>(zt hk (λ hk=>(zm7 hk)) (λ hk=>(zm7 hk)))))))
def zEx : List PA → COut
  | [.one (.int .i64 a0),.agg [.int .i64 zei,.int .i64 zk1,.int .i64 zgp,.int .i64 zej]]=>.tot [.one (.bool (s36 a0 (⟨zei,zk1,zgp,zej⟩:Tie)))]
  | _=>.no
theorem zHU:zas Tryd.prog 36:=⟨_,rfl,rfl,by kernel_rfl⟩
theorem zLF:Ok Tryd.prog 36 zEx:=zbm zJZ zHU λ args K h=>by
  unfold zEx at h
  split at h
  · rename_i a0 zei zk1 zgp zej
    have hk:=h
    exact⟨(λ _ _=>[]),(λ _=>false),zEv,q36 a0 (⟨zei,zk1,zgp,zej⟩:Tie) K hk⟩
  · exact h.elim
abbrev T23:Tabs:=((Tabs.nil.addF 36 zEx).addF 72 zx9)
theorem zJ0:TabsOk Tryd.prog T23:=((TabsOk.nil.addF zLF).addF zJY)
abbrev G23:Ctrs:=csm T23 (λ _ _=>[]) (λ _=>false)
def zEy:Ann:=⟨30,[(0,zK [1] [1]),(1,zK [1,13] [1]),(2,zK [2] []),(3,zK [1,3] [1]),(4,zK [1,3,18] [1]),(5,zK [1,3] [1]),(6,zK [1,3,29] [1]),(7,zK [2] []),(8,zK [2] [])],
 [(4,zK [1,3] [1])],
 [(2,zK [1,13] [1]),(3,zK [1] [1]),(7,zK [1,3,29] [1])],
 [],[]⟩
abbrev R23:=Bool
abbrev e23 (r:R23):List PA:=[.one (.bool r)]
@[irreducible] def z23:=ptF Tryd.prog G23 zEy Tryd.f23
def zBx (n:Net) (iv2:Int):St:=⟨[(1,zp 1 0),(3,zI iv2)],[(1,.box 24 (zm (enc_24 n)))],[]⟩
abbrev zEz (K:List PA->Prop) (n:Net) (X:St->Prop) (P:Int->Bool) (S:Int->Bool):Prop:=∀ ⦃iv2:Int⦄,P iv2=true->K (e23 (S iv2))->X (zBx n iv2)
section
variable {K:List PA->Prop}{n:Net}{zbK:Bool}{iv2:Int}{X2:St->Prop}{P2:Int->Bool}{S2:Int->Bool}{iv3:Int}{zqK:Bool}
def zqL (S2:Int->Bool) (n:Net) (iv3:Int) (zqK:Bool):Bool :=
  (cond zqK
 false
 (S2 (w64 (iv3+(1:Int)))))
def zqM (P2:Int->Bool) (n:Net) (iv3:Int) (zqK:Bool):Bool :=
  (cond zqK
 true
 (P2 (w64 (iv3+(1:Int)))))
theorem zEA (hX2:zEz K n X2 P2 S2) (hs:zqM P2 n iv3 zqK=true) (hk:K (e23 (zqL S2 n iv3 zqK))):z23 K [1,1,0,1,0,0,1,0,0,1] [X2] ⟨[(1,zp 1 0),(3,zI iv3),(29,zB zqK)],[(1,.box 24 (zm (enc_24 n)))],[]⟩:=zaX (by kernel_rfl) (zc hs hk (λ hs hk=>hk) (λ hs hk=>(hX2 hs hk)))
def zij (n:Net) (S2:Int->Bool) (iv2:Int):Bool :=
  (cond (decide (iv2 < (n.Ties.len : Int)))
 (zqL S2 n iv2 (!(s36 n.Nodes (n.Ties.get iv2.toNat))))
 true)
def zik (n:Net) (P2:Int->Bool) (iv2:Int):Bool :=
  (cond (decide (iv2 < (n.Ties.len : Int)))
 (decide ((0≤iv2/\iv2 < (n.Ties.len:Int))) &&
 (zqM P2 n iv2 (!(s36 n.Nodes (n.Ties.get iv2.toNat)))))
 true)
def zgJ (n:Net):Nat->Int->Bool:=lpO (λ _=>default) (zij n)
def zil (n:Net):Nat->Int->Bool:=lpO (λ _=>false) (zik n)
def zqN (n:Net) (iv2:Int):Bool:=zgJ n Fuel iv2
def zqO (n:Net) (iv2:Int):Bool:=zil n Fuel iv2
theorem zEB (hs:zqO n iv2=true) (hk:K (e23 (zqN n iv2))):z23 K [1,1,0,1,0] [] (zBx n iv2) :=
  zl (λ X=>z23 K [1,1,0,1,0,0] [X]) (by kernel_rfl) λ X2 hX =>
  (show ∀ k, zEz K n X2 (zil n k) (zgJ n k) from zfW _ _ (zik n) (zij n) (zEz K n X2)
 (by intro _ hs;exact absurd hs Bool.false_ne_true)
 (by intro P2 S2 hX2 iv2 hs hk;exact hX _ (zaX (by kernel_rfl) (zc hs hk (λ hs hk=>(zaQ hs λ hc hs=>And.intro hc (zEA hX2 hs hk))) (λ hs hk=>hk))))) _ hs hk
def zqP (n:Net):Bool :=
  (zqN n (0:Int))
def zqQ (n:Net):Bool :=
  (zqO n (0:Int))
theorem zEC (hs:zqQ n=true) (hk:K (e23 (zqP n))):z23 K [1,1] [] ⟨[(1,zp 1 0)],[(1,.box 24 (zm (enc_24 n)))],[]⟩:=zaX (by kernel_rfl) (zEB hs hk)
def zm8 (n:Net) (zbK:Bool):Bool :=
  (cond zbK
 false
 (zqP n))
def zm9 (n:Net) (zbK:Bool):Bool :=
  (cond zbK
 true
 (zqQ n))
theorem zya (hs:zm9 n zbK=true) (hk:K (e23 (zm8 n zbK))):z23 K [1,0,1] [] ⟨[(1,zp 1 0),(13,zB zbK)],[(1,.box 24 (zm (enc_24 n)))],[]⟩:=zaX (by kernel_rfl) (zc hs hk (λ hs hk=>hk) (λ hs hk=>(zEC hs hk)))
def s23 (n:Net):Bool :=
  (cond (!(s72 n.Nodes (1:Int) (40:Int)))
 (zm8 n true)
 (zm8 n (decide ((n.Ties.len:Int) > (200:Int)))))
def p23 (n:Net):Bool :=
  (cond (!(s72 n.Nodes (1:Int) (40:Int)))
 (zm9 n true)
 (zm9 n (decide ((n.Ties.len:Int) > (200:Int)))))
end
theorem q23 (n:Net) (K:List PA->Prop) (hs:p23 n=true) (hk:K (e23 (s23 n))):vcFun Tryd.prog G23 zEy 23 [.agg (enc_24 n)] K :=
  zaX (by kernel_rfl) (zc hs hk (λ hs hk=>(zya hs hk)) (λ hs hk=>(zya hs hk)))
def zED : List PA → COut
  | [.agg [.int .i64 zah,.sl zae zaz zad]]=>.det (IsE enc_40 4 zaz zad/\p23 (⟨zah,(⟨zae,zal zad⟩:(Sl Tie))⟩:Net)=true) [.one (.bool (s23 (⟨zah,(⟨zae,zal zad⟩:(Sl Tie))⟩:Net)))]
  | _=>.no
theorem zHV:zas Tryd.prog 23:=⟨_,rfl,rfl,by kernel_rfl⟩
theorem zLG:Ok Tryd.prog 23 zED:=zbm zJ0 zHV λ args K h=>by
  unfold zED at h
  split at h
  · rename_i zah zae zaz zad
    obtain⟨⟨⟨rfl,zar,rfl⟩,hs⟩,hk⟩:=h
    try rw[zak zar] at hs
    try rw[zak zar] at hk
    exact⟨(λ _ _=>[]),(λ _=>false),zEy,q23 (⟨zah,(⟨zae,zar⟩:(Sl Tie))⟩:Net) K hs hk⟩
  · exact h.elim
abbrev T39:Tabs:=Tabs.nil
theorem zJ1:TabsOk Tryd.prog T39:=TabsOk.nil
abbrev G39:Ctrs:=csm T39 (λ _ _=>[]) (λ _=>false)
def zHW:Ann:=⟨37,[(0,zK [1,2] [2]),(1,zK [2,5] [2]),(2,zK [4] [])],
 [],
 [],
 [],[]⟩
abbrev R39:=Bool
abbrev e39 (r:R39):List PA:=[.one (.bool r)]
section
variable {K:List PA->Prop}{t:Tie}{zac:(Sl Int)}
def s39 (t:Tie) (zac:(Sl Int)):Bool :=
  (cond (t.Low == (-1000000000000:Int))
 (cond (t.High == (1000000000000:Int))
 true
 (decide ((w64 ((zac.get t.To.toNat) - (zac.get t.From.toNat)))≤t.High)))
 (cond (decide ((w64 ((zac.get t.To.toNat) - (zac.get t.From.toNat))) ≥ t.Low))
 (cond (t.High == (1000000000000:Int))
 true
 (decide ((w64 ((zac.get t.To.toNat) - (zac.get t.From.toNat)))≤t.High)))
 false))
def p39 (t:Tie) (zac:(Sl Int)):Bool :=
  (decide ((0≤t.To/\t.To < (zac.len:Int))) &&
 (decide ((0≤t.From/\t.From < (zac.len:Int))) &&
 true))
end
theorem q39 (t:Tie) (zac:(Sl Int)) (K:List PA->Prop) (hs:p39 t zac=true) (hk:K (e39 (s39 t zac))):vcFun Tryd.prog G39 zHW 39 [.agg (enc_40 t),.one (.sl zac.len 1 (λ i=>enc_3 (zac.get i)))] K :=
  zaX (by kernel_rfl) (zaQ hs λ hc hs=>And.intro hc (zaQ hs λ hc hs=>And.intro hc (zt hk (λ hk=>(zt hk (λ hk=>hk) (λ hk=>hk))) (λ hk=>(zt hk (λ hk=>(zt hk (λ hk=>hk) (λ hk=>hk))) (λ hk=>hk))))))
def zEE : List PA → COut
  | [.agg [.int .i64 zfh,.int .i64 zoo,.int .i64 ziJ,.int .i64 zfi],.one (.sl zdA zhP zdr)]=>.det (IsE enc_3 1 zhP zdr/\p39 (⟨zfh,zoo,ziJ,zfi⟩:Tie) (⟨zdA,zat zdr⟩:(Sl Int))=true) [.one (.bool (s39 (⟨zfh,zoo,ziJ,zfi⟩:Tie) (⟨zdA,zat zdr⟩:(Sl Int))))]
  | _=>.no
theorem zHX:zas Tryd.prog 39:=⟨_,rfl,rfl,by kernel_rfl⟩
theorem zLH:Ok Tryd.prog 39 zEE:=zbm zJ1 zHX λ args K h=>by
  unfold zEE at h
  split at h
  · rename_i zfh zoo ziJ zfi zdA zhP zdr
    obtain⟨⟨⟨rfl,zfl,rfl⟩,hs⟩,hk⟩:=h
    try rw[za3 zfl] at hs
    try rw[za3 zfl] at hk
    exact⟨(λ _ _=>[]),(λ _=>false),zHW,q39 (⟨zfh,zoo,ziJ,zfi⟩:Tie) (⟨zdA,zfl⟩:(Sl Int)) K hs hk⟩
  · exact h.elim
abbrev T80:Tabs:=(Tabs.nil.addF 72 zx9)
theorem zJ2:TabsOk Tryd.prog T80:=(TabsOk.nil.addF zJY)
abbrev G80:Ctrs:=csm T80 (λ _ _=>[]) (λ _=>false)
def zEF:Ann:=⟨29,[(0,zK [1,2] [2]),(1,zK [1,16] []),(2,zK [4] []),(3,zK [1,5] []),(4,zK [1,5,20] []),(5,zK [1,5] []),(6,zK [1,5,28] []),(7,zK [4] []),(8,zK [4] [])],
 [(4,zK [1,5] [])],
 [(3,zK [1] []),(7,zK [1,5,28] [])],
 [],[]⟩
abbrev R80:=Bool
abbrev e80 (r:R80):List PA:=[.one (.bool r)]
@[irreducible] def z80:=ptF Tryd.prog G80 zEF Tryd.f80
def zBy (zac:(Sl Int)) (iv1:Int):St:=⟨[(1,zS enc_3 1 zac),(5,zI iv1)],[],[]⟩
abbrev zEG (K:List PA->Prop) (zac:(Sl Int)) (X:St->Prop) (P:Int->Bool) (S:Int->Bool):Prop:=∀ ⦃iv1:Int⦄,P iv1=true->K (e80 (S iv1))->X (zBy zac iv1)
section
variable {K:List PA->Prop}{n:Net}{zac:(Sl Int)}{iv1:Int}{X1:St->Prop}{P1:Int->Bool}{S1:Int->Bool}{iv2:Int}{zoH:Bool}
def zqR (S1:Int->Bool) (zac:(Sl Int)) (iv2:Int) (zoH:Bool):Bool :=
  (cond zoH
 false
 (S1 (w64 (iv2+(1:Int)))))
def zqS (P1:Int->Bool) (zac:(Sl Int)) (iv2:Int) (zoH:Bool):Bool :=
  (cond zoH
 true
 (P1 (w64 (iv2+(1:Int)))))
theorem zEH (hX1:zEG K zac X1 P1 S1) (hs:zqS P1 zac iv2 zoH=true) (hk:K (e80 (zqR S1 zac iv2 zoH))):z80 K [1,1,0,1,0,0,1,0,0,1] [X1] ⟨[(1,zS enc_3 1 zac),(5,zI iv2),(28,zB zoH)],[],[]⟩:=zaX (by kernel_rfl) (zc hs hk (λ hs hk=>hk) (λ hs hk=>(hX1 hs hk)))
def zim (zac:(Sl Int)) (S1:Int->Bool) (iv1:Int):Bool :=
  (cond (decide (iv1 < (zac.len : Int)))
 (zqR S1 zac iv1 (!(s72 (zac.get iv1.toNat) (-1000000000000:Int) (1000000000000:Int))))
 true)
def zin (zac:(Sl Int)) (P1:Int->Bool) (iv1:Int):Bool :=
  (cond (decide (iv1 < (zac.len : Int)))
 (decide ((0≤iv1/\iv1 < (zac.len:Int))) &&
 (zqS P1 zac iv1 (!(s72 (zac.get iv1.toNat) (-1000000000000:Int) (1000000000000:Int)))))
 true)
def zgK (zac:(Sl Int)):Nat->Int->Bool:=lpO (λ _=>default) (zim zac)
def zio (zac:(Sl Int)):Nat->Int->Bool:=lpO (λ _=>false) (zin zac)
def zqT (zac:(Sl Int)) (iv1:Int):Bool:=zgK zac Fuel iv1
def zqU (zac:(Sl Int)) (iv1:Int):Bool:=zio zac Fuel iv1
theorem zEI (hs:zqU zac iv1=true) (hk:K (e80 (zqT zac iv1))):z80 K [1,1,0,1,0] [] (zBy zac iv1) :=
  zl (λ X=>z80 K [1,1,0,1,0,0] [X]) (by kernel_rfl) λ X1 hX =>
  (show ∀ k, zEG K zac X1 (zio zac k) (zgK zac k) from zfW _ _ (zin zac) (zim zac) (zEG K zac X1)
 (by intro _ hs;exact absurd hs Bool.false_ne_true)
 (by intro P1 S1 hX1 iv1 hs hk;exact hX _ (zaX (by kernel_rfl) (zc hs hk (λ hs hk=>(zaQ hs λ hc hs=>And.intro hc (zEH hX1 hs hk))) (λ hs hk=>hk))))) _ hs hk
def zqV (zac:(Sl Int)):Bool :=
  (zqT zac (0:Int))
def zqW (zac:(Sl Int)):Bool :=
  (zqU zac (0:Int))
theorem zEJ (hs:zqW zac=true) (hk:K (e80 (zqV zac))):z80 K [1,1] [] ⟨[(1,zS enc_3 1 zac)],[],[]⟩:=zaX (by kernel_rfl) (zEI hs hk)
def s80 (n:Net) (zac:(Sl Int)):Bool :=
  (cond ((zac.len : Int) != n.Nodes)
 false
 (cond ((zac.get 0) != (0:Int))
 false
 (zqV zac)))
def p80 (n:Net) (zac:(Sl Int)):Bool :=
  (cond ((zac.len : Int) != n.Nodes)
 true
 (decide ((0≤(0:Int)/\(0:Int) < (zac.len:Int))) &&
 (cond ((zac.get 0) != (0:Int))
 true
 (zqW zac))))
end
theorem q80 (n:Net) (zac:(Sl Int)) (K:List PA->Prop) (hs:p80 n zac=true) (hk:K (e80 (s80 n zac))):vcFun Tryd.prog G80 zEF 80 [.agg (enc_24 n),.one (.sl zac.len 1 (λ i=>enc_3 (zac.get i)))] K :=
  zaX (by kernel_rfl) (zc hs hk (λ hs hk=>hk) (λ hs hk=>(zaQ hs λ hc hs=>And.intro hc (zc hs hk (λ hs hk=>hk) (λ hs hk=>(zEJ hs hk))))))
def zEK : List PA → COut
  | [.agg [.int .i64 zah,.sl zae zaz zad],.one (.sl zdA zhP zdr)]=>.det (IsE enc_40 4 zaz zad/\IsE enc_3 1 zhP zdr/\p80 (⟨zah,(⟨zae,zal zad⟩:(Sl Tie))⟩:Net) (⟨zdA,zat zdr⟩:(Sl Int))=true) [.one (.bool (s80 (⟨zah,(⟨zae,zal zad⟩:(Sl Tie))⟩:Net) (⟨zdA,zat zdr⟩:(Sl Int))))]
  | _=>.no
theorem zHY:zas Tryd.prog 80:=⟨_,rfl,rfl,by kernel_rfl⟩
theorem zLI:Ok Tryd.prog 80 zEK:=zbm zJ2 zHY λ args K h=>by
  unfold zEK at h
  split at h
  · rename_i zah zae zaz zad zdA zhP zdr
    obtain⟨⟨⟨rfl,zar,rfl⟩,⟨rfl,zfl,rfl⟩,hs⟩,hk⟩:=h
    try rw[zak zar] at hs
    try rw[zak zar] at hk
    try rw[za3 zfl] at hs
    try rw[za3 zfl] at hk
    exact⟨(λ _ _=>[]),(λ _=>false),zEF,q80 (⟨zah,(⟨zae,zar⟩:(Sl Tie))⟩:Net) (⟨zdA,zfl⟩:(Sl Int)) K hs hk⟩
  · exact h.elim
abbrev T38:Tabs:=((Tabs.nil.addF 39 zEE).addF 80 zEK)
theorem zJ3:TabsOk Tryd.prog T38:=((TabsOk.nil.addF zLH).addF zLI)
abbrev G38:Ctrs:=csm T38 (λ _ _=>[]) (λ _=>false)
def zEL:Ann:=⟨25,[(0,zK [1,2] [2]),(1,zK [1,2,9] [2]),(2,zK [4] []),(3,zK [1,2,5] [2]),(4,zK [1,2,5,14] [2]),(5,zK [1,2,5] [2]),(6,zK [1,2,5,24] [2]),(7,zK [4] []),(8,zK [4] [])],
 [(4,zK [1,2,5] [2])],
 [(2,zK [1,2,9] [2]),(3,zK [1,2] [2]),(7,zK [1,2,5,24] [2])],
 [],[]⟩
abbrev R38:=Bool
abbrev e38 (r:R38):List PA:=[.one (.bool r)]
@[irreducible] def z38:=ptF Tryd.prog G38 zEL Tryd.f38
def zBz (n:Net) (zac:(Sl Int)) (iv2:Int):St:=⟨[(1,zS enc_3 1 zac),(2,zp 2 0),(5,zI iv2)],[(2,.box 24 (zm (enc_24 n)))],[]⟩
abbrev zEM (K:List PA->Prop) (n:Net) (zac:(Sl Int)) (X:St->Prop) (P:Int->Bool) (S:Int->Bool):Prop:=∀ ⦃iv2:Int⦄,P iv2=true->K (e38 (S iv2))->X (zBz n zac iv2)
section
variable {K:List PA->Prop}{n:Net}{zac:(Sl Int)}{zgI:Bool}{iv2:Int}{X2:St->Prop}{P2:Int->Bool}{S2:Int->Bool}{iv3:Int}{zqX:Bool}
def zqY (S2:Int->Bool) (n:Net) (zac:(Sl Int)) (iv3:Int) (zqX:Bool):Bool :=
  (cond zqX
 false
 (S2 (w64 (iv3+(1:Int)))))
def zqZ (P2:Int->Bool) (n:Net) (zac:(Sl Int)) (iv3:Int) (zqX:Bool):Bool :=
  (cond zqX
 true
 (P2 (w64 (iv3+(1:Int)))))
theorem zEN (hX2:zEM K n zac X2 P2 S2) (hs:zqZ P2 n zac iv3 zqX=true) (hk:K (e38 (zqY S2 n zac iv3 zqX))):z38 K [1,1,0,1,0,0,1,0,0,1] [X2] ⟨[(1,zS enc_3 1 zac),(2,zp 2 0),(5,zI iv3),(24,zB zqX)],[(2,.box 24 (zm (enc_24 n)))],[]⟩:=zaX (by kernel_rfl) (zc hs hk (λ hs hk=>hk) (λ hs hk=>(hX2 hs hk)))
def ziq (n:Net) (zac:(Sl Int)) (S2:Int->Bool) (iv2:Int):Bool :=
  (cond (decide (iv2 < (n.Ties.len : Int)))
 (zqY S2 n zac iv2 (!(s39 (n.Ties.get iv2.toNat) zac)))
 true)
def zir (n:Net) (zac:(Sl Int)) (P2:Int->Bool) (iv2:Int):Bool :=
  (cond (decide (iv2 < (n.Ties.len : Int)))
 (decide ((0≤iv2/\iv2 < (n.Ties.len:Int))) &&
 (decide ((p39 (n.Ties.get iv2.toNat) zac=true)) &&
 (zqZ P2 n zac iv2 (!(s39 (n.Ties.get iv2.toNat) zac)))))
 true)
def zis (n:Net) (zac:(Sl Int)):Nat->Int->Bool:=lpO (λ _=>default) (ziq n zac)
def zit (n:Net) (zac:(Sl Int)):Nat->Int->Bool:=lpO (λ _=>false) (zir n zac)
def zq0 (n:Net) (zac:(Sl Int)) (iv2:Int):Bool:=zis n zac Fuel iv2
def zq1 (n:Net) (zac:(Sl Int)) (iv2:Int):Bool:=zit n zac Fuel iv2
theorem zEO (hs:zq1 n zac iv2=true) (hk:K (e38 (zq0 n zac iv2))):z38 K [1,1,0,1,0] [] (zBz n zac iv2) :=
  zl (λ X=>z38 K [1,1,0,1,0,0] [X]) (by kernel_rfl) λ X2 hX =>
  (show ∀ k, zEM K n zac X2 (zit n zac k) (zis n zac k) from zfW _ _ (zir n zac) (ziq n zac) (zEM K n zac X2)
 (by intro _ hs;exact absurd hs Bool.false_ne_true)
 (by intro P2 S2 hX2 iv2 hs hk;exact hX _ (zaX (by kernel_rfl) (zc hs hk (λ hs hk=>(zaQ hs λ hc hs=>And.intro hc (zaQ hs λ hc hs=>And.intro (And.intro (zE enc_3 1 zac.get) hc) (zEN hX2 hs hk)))) (λ hs hk=>hk))))) _ hs hk
def zq2 (n:Net) (zac:(Sl Int)):Bool :=
  (zq0 n zac (0:Int))
def zq3 (n:Net) (zac:(Sl Int)):Bool :=
  (zq1 n zac (0:Int))
theorem zEP (hs:zq3 n zac=true) (hk:K (e38 (zq2 n zac))):z38 K [1,1] [] ⟨[(1,zS enc_3 1 zac),(2,zp 2 0)],[(2,.box 24 (zm (enc_24 n)))],[]⟩:=zaX (by kernel_rfl) (zEO hs hk)
def zq4 (n:Net) (zac:(Sl Int)) (zgI:Bool):Bool :=
  (cond zgI
 false
 (zq2 n zac))
def zq5 (n:Net) (zac:(Sl Int)) (zgI:Bool):Bool :=
  (cond zgI
 true
 (zq3 n zac))
theorem zEQ (hs:zq5 n zac zgI=true) (hk:K (e38 (zq4 n zac zgI))):z38 K [1,0,1] [] ⟨[(1,zS enc_3 1 zac),(2,zp 2 0),(9,zB zgI)],[(2,.box 24 (zm (enc_24 n)))],[]⟩:=zaX (by kernel_rfl) (zc hs hk (λ hs hk=>hk) (λ hs hk=>(zEP hs hk)))
def s38 (n:Net) (zac:(Sl Int)):Bool :=
  (zq4 n zac (!(s80 n zac)))
def p38 (n:Net) (zac:(Sl Int)):Bool :=
  (decide ((p80 n zac=true)) &&
 (zq5 n zac (!(s80 n zac))))
end
theorem q38 (n:Net) (zac:(Sl Int)) (K:List PA->Prop) (hs:p38 n zac=true) (hk:K (e38 (s38 n zac))):vcFun Tryd.prog G38 zEL 38 [.agg (enc_24 n),.one (.sl zac.len 1 (λ i=>enc_3 (zac.get i)))] K :=
  zaX (by kernel_rfl) (zaQ hs λ hc hs=>And.intro (And.intro (zE enc_40 4 n.Ties.get) (And.intro (zE enc_3 1 zac.get) hc)) (zEQ hs hk))
def zER : List PA → COut
  | [.agg [.int .i64 zah,.sl zae zaz zad],.one (.sl zdA zhP zdr)]=>.det (IsE enc_40 4 zaz zad/\IsE enc_3 1 zhP zdr/\p38 (⟨zah,(⟨zae,zal zad⟩:(Sl Tie))⟩:Net) (⟨zdA,zat zdr⟩:(Sl Int))=true) [.one (.bool (s38 (⟨zah,(⟨zae,zal zad⟩:(Sl Tie))⟩:Net) (⟨zdA,zat zdr⟩:(Sl Int))))]
  | _=>.no
theorem zHZ:zas Tryd.prog 38:=⟨_,rfl,rfl,by kernel_rfl⟩
theorem zLJ:Ok Tryd.prog 38 zER:=zbm zJ3 zHZ λ args K h=>by
  unfold zER at h
  split at h
  · rename_i zah zae zaz zad zdA zhP zdr
    obtain⟨⟨⟨rfl,zar,rfl⟩,⟨rfl,zfl,rfl⟩,hs⟩,hk⟩:=h
    try rw[zak zar] at hs
    try rw[zak zar] at hk
    try rw[za3 zfl] at hs
    try rw[za3 zfl] at hk
    exact⟨(λ _ _=>[]),(λ _=>false),zEL,q38 (⟨zah,(⟨zae,zar⟩:(Sl Tie))⟩:Net) (⟨zdA,zfl⟩:(Sl Int)) K hs hk⟩
  · exact h.elim
abbrev T56:Tabs:=((((Tabs.nil.addF 67 ztE).addF 81 ztD).addF 94 zzO).addF 95 zzP)
theorem zJ4:TabsOk Tryd.prog T56:=((((TabsOk.nil.addF zIG).addF zIF).addF zKs).addF zKt)
abbrev G56:Ctrs:=csm T56 (λ _ _=>[]) (λ _=>false)
def zES:Ann:=⟨85,[(0,zK [1,2,3] [3]),(1,zK [1,2,3,31] [3]),(2,zK [6,7,8] []),(3,zK [2,3,9,10] [3]),(4,zK [3,9,10,33,34,35] [3]),(5,zK [3,9,10,33,34,35,36] [3]),(6,zK [3,9,10,12,33,34,35] [3,12]),(7,zK [3,9,10,12,33,34,35,46] [3,12]),(8,zK [6,7,8] []),(9,zK [3,9,10,12,13,33,34,35] [3,12,13]),(10,zK [3,9,10,12,13,14,15,33,34,35] [3,12,13,14]),(11,zK [3,9,10,13,14,15,33,34,35,62] [3,13,14]),(12,zK [3,9,10,14,15,33,34,35] [3,14]),(13,zK [3,10,14,33,34,35,75] [3,14]),(14,zK [6,7,8] []),(15,zK [3,9,10,33,34,35] [3]),(16,zK [3,9,10,33,34,35] [3]),(17,zK [6,7,8] [])],
 [(5,zK [3,9,10,33,34,35] [3])],
 [(2,zK [1,2,3,31] [3]),(3,zK [1,2,3] [3]),(8,zK [3,9,10,12,33,34,35,46] [3,12]),(9,zK [3,9,10,12,33,34,35] [3,12]),(11,zK [3,9,10,12,13,14,15,33,34,35] [3,12,13,14]),(13,zK [3,9,10,14,15,33,34,35] [3,14])],
 [],[]⟩
abbrev R56:=(Int×Int×Bool)
abbrev e56 (r:R56):List PA:=[.one (.int .i64 r.1),.one (.int .i64 r.2.1),.one (.bool r.2.2)]
@[irreducible] def z56:=ptF Tryd.prog G56 zES Tryd.f56
def zBA (n:Net) (zaw:(Sl Use)) (zna:Int) (zbB:Int) (zcP:Int):St:=⟨[(3,zp 3 0),(9,zI zna),(10,zI zbB),(33,zS enc_75 2 zaw),(34,zI (zaw.len:Int)),(35,zI zcP)],[(3,.box 24 (zm (enc_24 n)))],[]⟩
abbrev ztL (K:List PA->Prop) (n:Net) (zaw:(Sl Use)) (X:St->Prop) (P:Int->Int->Int->Bool) (S:Int->Int->Int->(Int×Int×Bool)):Prop:=∀ ⦃zna:Int⦄ ⦃zbB:Int⦄ ⦃zcP:Int⦄,P zna zbB zcP=true->K (e56 (S zna zbB zcP))->X (zBA n zaw zna zbB zcP)
section
variable {K:List PA->Prop}{n:Net}{zaa:Int}{zaw:(Sl Use)}{zq6:Bool}{zna:Int}{zbB:Int}{zcP:Int}{X2:St->Prop}{P2:Int->Int->Int->Bool}{S2:Int->Int->Int->(Int×Int×Bool)}{zET:Int}{zeT:Int}{zq7:Int}{zq8:Bool}{zq9:Int}{zra:Bool}{zEU:Int}{zeU:Int}{zrb:Int}{zbN:Int}{zrd:Bool}{zAm:Int}{zdu:Int}{zEV:Bool}{znb:Int}{zyb:Int}{zre:Bool}{zfH:Int}{zfI:Int}{zfJ:Int}{zfK:Int}{zfL:Int}{zrf:Int}{zrg:Bool}{zrh:Int}{zrj:Int}{zrk:Int}{ziQ:Int}{zba:Int}{zEW:Bool}{zrl:Int}{zyc:Int}{zyd:Bool}{zrm:Int}{zrn:Int}{zro:Int}
def znc (S2:Int->Int->Int->(Int×Int×Bool)) (n:Net) (zaw:(Sl Use)) (ziQ:Int) (zba:Int) (zEW:Bool) (zrl:Int) (zyc:Int) (zyd:Bool) (zrm:Int) (zrn:Int) (zro:Int):(Int×Int×Bool) :=
  (cond (!zEW)
 ((0:Int),(0:Int),false)
 (cond (zrm != ziQ)
 ((0:Int),(0:Int),false)
 (S2 zrn (w64 (zba+zro)) (w64 (zrl+(1:Int))))))
def znd (P2:Int->Int->Int->Bool) (n:Net) (zaw:(Sl Use)) (ziQ:Int) (zba:Int) (zEW:Bool) (zrl:Int) (zyc:Int) (zyd:Bool) (zrm:Int) (zrn:Int) (zro:Int):Bool :=
  (cond (!zEW)
 true
 (cond (zrm != ziQ)
 true
 (P2 zrn (w64 (zba+zro)) (w64 (zrl+(1:Int))))))
theorem zye (hX2:ztL K n zaw X2 P2 S2) (hs:znd P2 n zaw ziQ zba zEW zrl zyc zyd zrm zrn zro=true) (hk:K (e56 (znc S2 n zaw ziQ zba zEW zrl zyc zyd zrm zrn zro))):z56 K [1,1,1,0,1,0,0,1,1,0,0,1,1,1,1,1] [X2] ⟨[(3,zp 3 0),(9,zI ziQ),(10,zI zba),(14,zp 14 0),(15,zB zEW),(33,zS enc_75 2 zaw),(34,zI (zaw.len:Int)),(35,zI zrl)],[(3,.box 24 (zm (enc_24 n))),(14,.box 130 (zm (zaA (⟨(⟨zyc,zyd⟩:Use),zrm,zrn,zro⟩:step))))],[]⟩:=zaX (by kernel_rfl) (zc hs hk (λ hs hk=>hk) (λ hs hk=>(zc hs hk (λ hs hk=>hk) (λ hs hk=>(hX2 hs hk)))))
def zrp (S2:Int->Int->Int->(Int×Int×Bool)) (n:Net) (zaw:(Sl Use)) (zAm:Int) (zdu:Int) (zEV:Bool) (znb:Int) (zyb:Int) (zre:Bool) (zfH:Int) (zfI:Int) (zfJ:Int) (zfK:Int) (zfL:Int) (zrf:Int) (zrg:Bool) (zrh:Int) (zrj:Int) (zrk:Int):(Int×Int×Bool) :=
  (cond zre
 (znc S2 n zaw zAm zdu ((s95 (⟨(⟨zfH,zfI,zfJ,zfK⟩:Tie),zfL⟩:tie)).2) znb (((s95 (⟨(⟨zfH,zfI,zfJ,zfK⟩:Tie),zfL⟩:tie)).1).Use.Tie) (((s95 (⟨(⟨zfH,zfI,zfJ,zfK⟩:Tie),zfL⟩:tie)).1).Use.Back) (((s95 (⟨(⟨zfH,zfI,zfJ,zfK⟩:Tie),zfL⟩:tie)).1).from_) (((s95 (⟨(⟨zfH,zfI,zfJ,zfK⟩:Tie),zfL⟩:tie)).1).to) (((s95 (⟨(⟨zfH,zfI,zfJ,zfK⟩:Tie),zfL⟩:tie)).1).length))
 (znc S2 n zaw zAm zdu zEV znb zrf zrg zrh zrj zrk))
def zrq (P2:Int->Int->Int->Bool) (n:Net) (zaw:(Sl Use)) (zAm:Int) (zdu:Int) (zEV:Bool) (znb:Int) (zyb:Int) (zre:Bool) (zfH:Int) (zfI:Int) (zfJ:Int) (zfK:Int) (zfL:Int) (zrf:Int) (zrg:Bool) (zrh:Int) (zrj:Int) (zrk:Int):Bool :=
  (cond zre
 (znd P2 n zaw zAm zdu ((s95 (⟨(⟨zfH,zfI,zfJ,zfK⟩:Tie),zfL⟩:tie)).2) znb (((s95 (⟨(⟨zfH,zfI,zfJ,zfK⟩:Tie),zfL⟩:tie)).1).Use.Tie) (((s95 (⟨(⟨zfH,zfI,zfJ,zfK⟩:Tie),zfL⟩:tie)).1).Use.Back) (((s95 (⟨(⟨zfH,zfI,zfJ,zfK⟩:Tie),zfL⟩:tie)).1).from_) (((s95 (⟨(⟨zfH,zfI,zfJ,zfK⟩:Tie),zfL⟩:tie)).1).to) (((s95 (⟨(⟨zfH,zfI,zfJ,zfK⟩:Tie),zfL⟩:tie)).1).length))
 (znd P2 n zaw zAm zdu zEV znb zrf zrg zrh zrj zrk))
theorem zEX (hX2:ztL K n zaw X2 P2 S2) (hs:zrq P2 n zaw zAm zdu zEV znb zyb zre zfH zfI zfJ zfK zfL zrf zrg zrh zrj zrk=true) (hk:K (e56 (zrp S2 n zaw zAm zdu zEV znb zyb zre zfH zfI zfJ zfK zfL zrf zrg zrh zrj zrk))):z56 K [1,1,1,0,1,0,0,1,1,0,0,1,1,1,1] [X2] ⟨[(3,zp 3 0),(9,zI zAm),(10,zI zdu),(12,zp 12 0),(13,zp 13 0),(14,zp 14 0),(15,zB zEV),(33,zS enc_75 2 zaw),(34,zI (zaw.len:Int)),(35,zI znb)],[(3,.box 24 (zm (enc_24 n))),(12,.box 75 (zm (enc_75 (⟨zyb,zre⟩:Use)))),(13,.box 136 (zm (zpz (⟨(⟨zfH,zfI,zfJ,zfK⟩:Tie),zfL⟩:tie)))),(14,.box 130 (zm (zaA (⟨(⟨zrf,zrg⟩:Use),zrh,zrj,zrk⟩:step))))],[]⟩:=zaX (by kernel_rfl) (zc hs hk (λ hs hk=>(zye hX2 hs hk)) (λ hs hk=>(zye hX2 hs hk)))
def zrr (S2:Int->Int->Int->(Int×Int×Bool)) (n:Net) (zaw:(Sl Use)) (zEU:Int) (zeU:Int) (zrb:Int) (zbN:Int) (zrd:Bool):(Int×Int×Bool) :=
  (zrp S2 n zaw zEU zeU ((s94 (⟨(n.Ties.get zbN.toNat),zbN⟩:tie)).2) zrb zbN zrd ((n.Ties.get zbN.toNat).From) ((n.Ties.get zbN.toNat).To) ((n.Ties.get zbN.toNat).Low) ((n.Ties.get zbN.toNat).High) zbN (((s94 (⟨(n.Ties.get zbN.toNat),zbN⟩:tie)).1).Use.Tie) (((s94 (⟨(n.Ties.get zbN.toNat),zbN⟩:tie)).1).Use.Back) (((s94 (⟨(n.Ties.get zbN.toNat),zbN⟩:tie)).1).from_) (((s94 (⟨(n.Ties.get zbN.toNat),zbN⟩:tie)).1).to) (((s94 (⟨(n.Ties.get zbN.toNat),zbN⟩:tie)).1).length))
def zrt (P2:Int->Int->Int->Bool) (n:Net) (zaw:(Sl Use)) (zEU:Int) (zeU:Int) (zrb:Int) (zbN:Int) (zrd:Bool):Bool :=
  (decide ((0≤zbN/\zbN < (n.Ties.len:Int))) &&
 (zrq P2 n zaw zEU zeU ((s94 (⟨(n.Ties.get zbN.toNat),zbN⟩:tie)).2) zrb zbN zrd ((n.Ties.get zbN.toNat).From) ((n.Ties.get zbN.toNat).To) ((n.Ties.get zbN.toNat).Low) ((n.Ties.get zbN.toNat).High) zbN (((s94 (⟨(n.Ties.get zbN.toNat),zbN⟩:tie)).1).Use.Tie) (((s94 (⟨(n.Ties.get zbN.toNat),zbN⟩:tie)).1).Use.Back) (((s94 (⟨(n.Ties.get zbN.toNat),zbN⟩:tie)).1).from_) (((s94 (⟨(n.Ties.get zbN.toNat),zbN⟩:tie)).1).to) (((s94 (⟨(n.Ties.get zbN.toNat),zbN⟩:tie)).1).length)))
theorem zEY (hX2:ztL K n zaw X2 P2 S2) (hs:zrt P2 n zaw zEU zeU zrb zbN zrd=true) (hk:K (e56 (zrr S2 n zaw zEU zeU zrb zbN zrd))):z56 K [1,1,1,0,1,0,0,1,1,0,0,1,1] [X2] ⟨[(3,zp 3 0),(9,zI zEU),(10,zI zeU),(12,zp 12 0),(33,zS enc_75 2 zaw),(34,zI (zaw.len:Int)),(35,zI zrb)],[(3,.box 24 (zm (enc_24 n))),(12,.box 75 (zm (enc_75 (⟨zbN,zrd⟩:Use))))],[]⟩:=zaX (by kernel_rfl) (zaQ hs λ hc hs=>And.intro hc (zEX hX2 hs hk))
def zru (S2:Int->Int->Int->(Int×Int×Bool)) (n:Net) (zaw:(Sl Use)) (zET:Int) (zeT:Int) (zq7:Int) (zq8:Bool) (zq9:Int) (zra:Bool):(Int×Int×Bool) :=
  (cond zq8
 ((0:Int),(0:Int),false)
 (zrr S2 n zaw zET zeT zq7 zq9 zra))
def zrv (P2:Int->Int->Int->Bool) (n:Net) (zaw:(Sl Use)) (zET:Int) (zeT:Int) (zq7:Int) (zq8:Bool) (zq9:Int) (zra:Bool):Bool :=
  (cond zq8
 true
 (zrt P2 n zaw zET zeT zq7 zq9 zra))
theorem zEZ (hX2:ztL K n zaw X2 P2 S2) (hs:zrv P2 n zaw zET zeT zq7 zq8 zq9 zra=true) (hk:K (e56 (zru S2 n zaw zET zeT zq7 zq8 zq9 zra))):z56 K [1,1,1,0,1,0,0,1,1,0,0,1,0,1] [X2] ⟨[(3,zp 3 0),(9,zI zET),(10,zI zeT),(12,zp 12 0),(33,zS enc_75 2 zaw),(34,zI (zaw.len:Int)),(35,zI zq7),(46,zB zq8)],[(3,.box 24 (zm (enc_24 n))),(12,.box 75 (zm (enc_75 (⟨zq9,zra⟩:Use))))],[]⟩:=zaX (by kernel_rfl) (zc hs hk (λ hs hk=>hk) (λ hs hk=>(zEY hX2 hs hk)))
def ziu (n:Net) (zaw:(Sl Use)) (S2:Int->Int->Int->(Int×Int×Bool)) (zna:Int) (zbB:Int) (zcP:Int):(Int×Int×Bool) :=
  (cond (decide (zcP < (zaw.len : Int)))
 (zru S2 n zaw zna zbB zcP (!(s81 ((zaw.get zcP.toNat).Tie) (0:Int) (w64 ((n.Ties.len:Int) - (1:Int))))) ((zaw.get zcP.toNat).Tie) ((zaw.get zcP.toNat).Back))
 (zna,zbB,true))
def ziv (n:Net) (zaw:(Sl Use)) (P2:Int->Int->Int->Bool) (zna:Int) (zbB:Int) (zcP:Int):Bool :=
  (cond (decide (zcP < (zaw.len : Int)))
 (decide ((0≤zcP/\zcP < (zaw.len:Int))) &&
 (zrv P2 n zaw zna zbB zcP (!(s81 ((zaw.get zcP.toNat).Tie) (0:Int) (w64 ((n.Ties.len:Int) - (1:Int))))) ((zaw.get zcP.toNat).Tie) ((zaw.get zcP.toNat).Back)))
 true)
def zgL (n:Net) (zaw:(Sl Use)):Nat->Int->Int->Int->(Int×Int×Bool):=lpO (λ _ _ _=>default) (ziu n zaw)
def ziw (n:Net) (zaw:(Sl Use)):Nat->Int->Int->Int->Bool:=lpO (λ _ _ _=>false) (ziv n zaw)
def zyf (n:Net) (zaw:(Sl Use)) (zna:Int) (zbB:Int) (zcP:Int):(Int×Int×Bool):=zgL n zaw Fuel zna zbB zcP
def zyg (n:Net) (zaw:(Sl Use)) (zna:Int) (zbB:Int) (zcP:Int):Bool:=ziw n zaw Fuel zna zbB zcP
theorem zE0 (hs:zyg n zaw zna zbB zcP=true) (hk:K (e56 (zyf n zaw zna zbB zcP))):z56 K [1,1,1,0,1,0] [] (zBA n zaw zna zbB zcP) :=
  zl (λ X=>z56 K [1,1,1,0,1,0,0] [X]) (by kernel_rfl) λ X2 hX =>
  (show ∀ k, ztL K n zaw X2 (ziw n zaw k) (zgL n zaw k) from zfW _ _ (ziv n zaw) (ziu n zaw) (ztL K n zaw X2)
 (by intro _ _ _ hs;exact absurd hs Bool.false_ne_true)
 (by intro P2 S2 hX2 zna zbB zcP hs hk;exact hX _ (zaX (by kernel_rfl) (zc hs hk (λ hs hk=>(zaQ hs λ hc hs=>And.intro hc (zEZ hX2 hs hk))) (λ hs hk=>hk))))) _ hs hk
def zyh (n:Net) (zaa:Int) (zaw:(Sl Use)):(Int×Int×Bool) :=
  (zyf n zaw zaa (0:Int) (0:Int))
def zyi (n:Net) (zaa:Int) (zaw:(Sl Use)):Bool :=
  (zyg n zaw zaa (0:Int) (0:Int))
theorem zE1 (hs:zyi n zaa zaw=true) (hk:K (e56 (zyh n zaa zaw))):z56 K [1,1] [] ⟨[(1,zI zaa),(2,zS enc_75 2 zaw),(3,zp 3 0)],[(3,.box 24 (zm (enc_24 n)))],[]⟩:=zaX (by kernel_rfl) (zE0 hs hk)
def zne (n:Net) (zaa:Int) (zaw:(Sl Use)) (zq6:Bool):(Int×Int×Bool) :=
  (cond zq6
 ((0:Int),(0:Int),false)
 (zyh n zaa zaw))
def znf (n:Net) (zaa:Int) (zaw:(Sl Use)) (zq6:Bool):Bool :=
  (cond zq6
 true
 (zyi n zaa zaw))
theorem zrx (hs:znf n zaa zaw zq6=true) (hk:K (e56 (zne n zaa zaw zq6))):z56 K [1,0,1] [] ⟨[(1,zI zaa),(2,zS enc_75 2 zaw),(3,zp 3 0),(31,zB zq6)],[(3,.box 24 (zm (enc_24 n)))],[]⟩:=zaX (by kernel_rfl) (zc hs hk (λ hs hk=>hk) (λ hs hk=>(zE1 hs hk)))
def s56 (n:Net) (zaa:Int) (zaw:(Sl Use)):(Int×Int×Bool) :=
  (cond (!(s67 n))
 (zne n zaa zaw true)
 (cond (!(s81 zaa (0:Int) (w64 (n.Nodes - (1:Int)))))
 (zne n zaa zaw true)
 (zne n zaa zaw (decide ((zaw.len:Int) > (40:Int))))))
def p56 (n:Net) (zaa:Int) (zaw:(Sl Use)):Bool :=
  (decide ((p67 n=true)) &&
 (cond (!(s67 n))
 (znf n zaa zaw true)
 (cond (!(s81 zaa (0:Int) (w64 (n.Nodes - (1:Int)))))
 (znf n zaa zaw true)
 (znf n zaa zaw (decide ((zaw.len:Int) > (40:Int)))))))
end
theorem q56 (n:Net) (zaa:Int) (zaw:(Sl Use)) (K:List PA->Prop) (hs:p56 n zaa zaw=true) (hk:K (e56 (s56 n zaa zaw))):vcFun Tryd.prog G56 zES 56 [.agg (enc_24 n),.one (.int .i64 zaa),.one (.sl zaw.len 2 (λ i=>enc_75 (zaw.get i)))] K :=
  zaX (by kernel_rfl) (zaQ hs λ hc hs=>And.intro (And.intro (zE enc_40 4 n.Ties.get) hc) (zc hs hk (λ hs hk=>(zrx hs hk)) (λ hs hk=>(zc hs hk (λ hs hk=>(zrx hs hk)) (λ hs hk=>(zrx hs hk))))))
def zE2 : List PA → COut
  | [.agg [.int .i64 zah,.sl zae zaz zad],.one (.int .i64 a1),.one (.sl zkQ zvQ zkR)]=>.det (IsE enc_40 4 zaz zad/\IsE enc_75 2 zvQ zkR/\p56 (⟨zah,(⟨zae,zal zad⟩:(Sl Tie))⟩:Net) a1 (⟨zkQ,zbM zkR⟩:(Sl Use))=true) [.one (.int .i64 ((s56 (⟨zah,(⟨zae,zal zad⟩:(Sl Tie))⟩:Net) a1 (⟨zkQ,zbM zkR⟩:(Sl Use))).1)),.one (.int .i64 ((s56 (⟨zah,(⟨zae,zal zad⟩:(Sl Tie))⟩:Net) a1 (⟨zkQ,zbM zkR⟩:(Sl Use))).2.1)),.one (.bool ((s56 (⟨zah,(⟨zae,zal zad⟩:(Sl Tie))⟩:Net) a1 (⟨zkQ,zbM zkR⟩:(Sl Use))).2.2))]
  | _=>.no
theorem zH0:zas Tryd.prog 56:=⟨_,rfl,rfl,by kernel_rfl⟩
theorem zLK:Ok Tryd.prog 56 zE2:=zbm zJ4 zH0 λ args K h=>by
  unfold zE2 at h
  split at h
  · rename_i zah zae zaz zad a1 zkQ zvQ zkR
    obtain⟨⟨⟨rfl,zar,rfl⟩,⟨rfl,zpU,rfl⟩,hs⟩,hk⟩:=h
    try rw[zak zar] at hs
    try rw[zak zar] at hk
    try rw[zbA zpU] at hs
    try rw[zbA zpU] at hk
    exact⟨(λ _ _=>[]),(λ _=>false),zES,q56 (⟨zah,(⟨zae,zar⟩:(Sl Tie))⟩:Net) a1 (⟨zkQ,zpU⟩:(Sl Use)) K hs hk⟩
  · exact h.elim
abbrev T50:Tabs:=(Tabs.nil.addF 56 zE2)
theorem zJ5:TabsOk Tryd.prog T50:=(TabsOk.nil.addF zLK)
abbrev G50:Ctrs:=csm T50 (λ _ _=>[]) (λ _=>false)
def zH1:Ann:=⟨28,[(0,zK [1,2,3] [3]),(1,zK [1,7,8,9] []),(2,zK [6] [])],
 [],
 [],
 [],[]⟩
abbrev R50:=Bool
abbrev e50 (r:R50):List PA:=[.one (.bool r)]
section
variable {K:List PA->Prop}{n:Net}{zaa:Int}{zaw:(Sl Use)}
def s50 (n:Net) (zaa:Int) (zaw:(Sl Use)):Bool :=
  (cond ((s56 n zaa zaw).2.2)
 (cond (((s56 n zaa zaw).1) == zaa)
 (decide (((s56 n zaa zaw).2.1) < (0:Int)))
 false)
 false)
def p50 (n:Net) (zaa:Int) (zaw:(Sl Use)):Bool :=
  (decide ((p56 n zaa zaw=true)) &&
 true)
end
theorem q50 (n:Net) (zaa:Int) (zaw:(Sl Use)) (K:List PA->Prop) (hs:p50 n zaa zaw=true) (hk:K (e50 (s50 n zaa zaw))):vcFun Tryd.prog G50 zH1 50 [.agg (enc_24 n),.one (.int .i64 zaa),.one (.sl zaw.len 2 (λ i=>enc_75 (zaw.get i)))] K :=
  zaX (by kernel_rfl) (zaQ hs λ hc hs=>And.intro (And.intro (zE enc_40 4 n.Ties.get) (And.intro (zE enc_75 2 zaw.get) hc)) (zt hk (λ hk=>(zt hk (λ hk=>hk) (λ hk=>hk))) (λ hk=>hk)))
def zE3 : List PA → COut
  | [.agg [.int .i64 zah,.sl zae zaz zad],.one (.int .i64 a1),.one (.sl zkQ zvQ zkR)]=>.det (IsE enc_40 4 zaz zad/\IsE enc_75 2 zvQ zkR/\p50 (⟨zah,(⟨zae,zal zad⟩:(Sl Tie))⟩:Net) a1 (⟨zkQ,zbM zkR⟩:(Sl Use))=true) [.one (.bool (s50 (⟨zah,(⟨zae,zal zad⟩:(Sl Tie))⟩:Net) a1 (⟨zkQ,zbM zkR⟩:(Sl Use))))]
  | _=>.no
theorem zH2:zas Tryd.prog 50:=⟨_,rfl,rfl,by kernel_rfl⟩
theorem zLL:Ok Tryd.prog 50 zE3:=zbm zJ5 zH2 λ args K h=>by
  unfold zE3 at h
  split at h
  · rename_i zah zae zaz zad a1 zkQ zvQ zkR
    obtain⟨⟨⟨rfl,zar,rfl⟩,⟨rfl,zpU,rfl⟩,hs⟩,hk⟩:=h
    try rw[zak zar] at hs
    try rw[zak zar] at hk
    try rw[zbA zpU] at hs
    try rw[zbA zpU] at hk
    exact⟨(λ _ _=>[]),(λ _=>false),zH1,q50 (⟨zah,(⟨zae,zar⟩:(Sl Tie))⟩:Net) a1 (⟨zkQ,zpU⟩:(Sl Use)) K hs hk⟩
  · exact h.elim
abbrev T12:Tabs:=(((((((Tabs.nil.addF 20 zEu).addF 21 zEt).addF 23 zED).addF 26 zzX).addF 38 zER).addF 49 zAd).addF 50 zE3)
theorem zJ6:TabsOk Tryd.prog T12:=(((((((TabsOk.nil.addF zLE).addF zLD).addF zLG).addF zKz).addF zLJ).addF zKK).addF zLL)
abbrev G12:Ctrs:=csm T12 (λ _ _=>[]) (λ _=>false)
def zE4:Ann:=⟨120,[(0,zK [1,2,3,4] [4]),(1,zK [1,2,3,4,32] [4]),(2,zK [8] []),(3,zK [1,2,3,4,10] [4]),(4,zK [1,2,3,4,10,11,12] [4]),(5,zK [3,4,10,11,12,56] [4]),(6,zK [8] []),(7,zK [3,4,10,11,12,58] [4]),(8,zK [8] []),(9,zK [4,11,96] [4]),(10,zK [8] []),(11,zK [4,11,13] [4,13]),(12,zK [4,11,13,14] [4,13]),(13,zK [4,11,13,14,110] [4,13]),(14,zK [4,11,14] [4]),(15,zK [8] [])],
 [],
 [(2,zK [1,2,3,4,32] [4]),(3,zK [1,2,3,4] [4]),(4,zK [1,2,3,4,10] [4]),(5,zK [1,2,3,4,10,11,12] [4]),(6,zK [3,4,10,11,12,56] [4]),(7,zK [3,4,10,11,12] [4]),(9,zK [3,4,10,11,12] [4]),(10,zK [4,11,96] [4]),(11,zK [4,11] [4])],
 [],[]⟩
abbrev R12:=Bool
abbrev e12 (r:R12):List PA:=[.one (.bool r)]
@[irreducible] def z12:=ptF Tryd.prog G12 zE4 Tryd.f12
section
variable {K:List PA->Prop}{n:Net}{zaa:Int}{zaw:(Sl Use)}{zac:(Sl Int)}{zi0:Bool}{ev2:Int}{cv3:(Sl Use)}{fv3:Int}{zH3:Nat->List PV}{zry:Bool}{zrz:Bool}
def zrA (n:Net) (cv3:(Sl Use)):Bool :=
  (cond ((cv3.get 0).Back)
 (cond (s50 n ((n.Ties.get (((cv3.get 0).Tie).toNat)).To) cv3)
 true
 false)
 (cond (s50 n ((n.Ties.get (((cv3.get 0).Tie).toNat)).From) cv3)
 true
 false))
def zrB (n:Net) (cv3:(Sl Use)):Bool :=
  (decide ((0≤(0:Int)/\(0:Int) < (cv3.len:Int))) &&
 (decide ((0≤(cv3.get 0).Tie/\(cv3.get 0).Tie < (n.Ties.len:Int))) &&
 (decide ((0≤(0:Int)/\(0:Int) < (cv3.len:Int))) &&
 (cond ((cv3.get 0).Back)
 (decide ((p50 n ((n.Ties.get (((cv3.get 0).Tie).toNat)).To) cv3=true)) &&
 true)
 (decide ((p50 n ((n.Ties.get (((cv3.get 0).Tie).toNat)).From) cv3=true)) &&
 true)))))
theorem zE5 (hs:zrB n cv3=true) (hk:K (e12 (zrA n cv3))):z12 K [1,1,1,1,1,1,1] [] ⟨[(4,zp 4 0),(11,zS enc_75 2 cv3)],[(4,.box 24 (zm (enc_24 n)))],[]⟩:=zaX (by kernel_rfl) (zaQ hs λ hc hs=>And.intro hc (zaQ hs λ hc hs=>And.intro hc (zaQ hs λ hc hs=>And.intro hc (zc hs hk (λ hs hk=>(zaQ hs λ hc hs=>And.intro (And.intro (zE enc_40 4 n.Ties.get) (And.intro (zE enc_75 2 cv3.get) hc)) (zt hk (λ hk=>hk) (λ hk=>hk)))) (λ hs hk=>(zaQ hs λ hc hs=>And.intro (And.intro (zE enc_40 4 n.Ties.get) (And.intro (zE enc_75 2 cv3.get) hc)) (zt hk (λ hk=>hk) (λ hk=>hk))))))))
def zfM (n:Net) (cv3:(Sl Use)) (zrz:Bool):Bool :=
  (cond zrz
 false
 (zrA n cv3))
def zfN (n:Net) (cv3:(Sl Use)) (zrz:Bool):Bool :=
  (cond zrz
 true
 (zrB n cv3))
theorem zix (hs:zfN n cv3 zrz=true) (hk:K (e12 (zfM n cv3 zrz))):z12 K [1,1,1,1,1,1,0,1] [] ⟨[(4,zp 4 0),(11,zS enc_75 2 cv3),(96,zB zrz)],[(4,.box 24 (zm (enc_24 n)))],[]⟩:=zaX (by kernel_rfl) (zc hs hk (λ hs hk=>hk) (λ hs hk=>(zE5 hs hk)))
def zrC (n:Net) (zac:(Sl Int)) (ev2:Int) (cv3:(Sl Use)) (fv3:Int):Bool :=
  (cond (ev2 != (5:Int))
 (zfM n cv3 true)
 (cond (fv3 != (0:Int))
 (zfM n cv3 true)
 (cond (s38 n zac)
 (zfM n cv3 true)
 (cond ((cv3.len : Int) == (0:Int))
 (zfM n cv3 true)
 (cond (decide ((cv3.get 0).Tie < (0:Int)))
 (zfM n cv3 true)
 (zfM n cv3 (decide ((cv3.get 0).Tie ≥ (n.Ties.len:Int)))))))))
def zrD (n:Net) (zac:(Sl Int)) (ev2:Int) (cv3:(Sl Use)) (fv3:Int):Bool :=
  (cond (ev2 != (5:Int))
 (zfN n cv3 true)
 (cond (fv3 != (0:Int))
 (zfN n cv3 true)
 (decide ((p38 n zac=true)) &&
 (cond (s38 n zac)
 (zfN n cv3 true)
 (cond ((cv3.len : Int) == (0:Int))
 (zfN n cv3 true)
 (decide ((0≤(0:Int)/\(0:Int) < (cv3.len:Int))) &&
 (cond (decide ((cv3.get 0).Tie < (0:Int)))
 (zfN n cv3 true)
 (decide ((0≤(0:Int)/\(0:Int) < (cv3.len:Int))) &&
 (zfN n cv3 (decide ((cv3.get 0).Tie ≥ (n.Ties.len:Int))))))))))))
theorem zE6 (hs:zrD n zac ev2 cv3 fv3=true) (hk:K (e12 (zrC n zac ev2 cv3 fv3))):z12 K [1,1,1,1,1,1] [] ⟨[(3,zS enc_3 1 zac),(4,zp 4 0),(10,zI ev2),(11,zS enc_75 2 cv3),(12,zI fv3)],[(4,.box 24 (zm (enc_24 n)))],[]⟩:=zaX (by kernel_rfl) (zc hs hk (λ hs hk=>(zix hs hk)) (λ hs hk=>(zc hs hk (λ hs hk=>(zix hs hk)) (λ hs hk=>(zaQ hs λ hc hs=>And.intro (And.intro (zE enc_40 4 n.Ties.get) (And.intro (zE enc_3 1 zac.get) hc)) (zc hs hk (λ hs hk=>(zix hs hk)) (λ hs hk=>(zc hs hk (λ hs hk=>(zix hs hk)) (λ hs hk=>(zaQ hs λ hc hs=>And.intro hc (zc hs hk (λ hs hk=>(zix hs hk)) (λ hs hk=>(zaQ hs λ hc hs=>And.intro hc (zix hs hk))))))))))))))
def zng (n:Net) (zac:(Sl Int)) (ev2:Int) (cv3:(Sl Use)) (fv3:Int):Bool :=
  (cond (ev2 == (0:Int))
 (cond (fv3 == (6:Int))
 true
 false)
 (zrC n zac ev2 cv3 fv3))
def znh (n:Net) (zac:(Sl Int)) (ev2:Int) (cv3:(Sl Use)) (fv3:Int):Bool :=
  (cond (ev2 == (0:Int))
 true
 (zrD n zac ev2 cv3 fv3))
theorem zE7 (hs:znh n zac ev2 cv3 fv3=true) (hk:K (e12 (zng n zac ev2 cv3 fv3))):z12 K [1,1,1,1,1] [] ⟨[(3,zS enc_3 1 zac),(4,zp 4 0),(10,zI ev2),(11,zS enc_75 2 cv3),(12,zI fv3)],[(4,.box 24 (zm (enc_24 n)))],[]⟩:=zaX (by kernel_rfl) (zc hs hk (λ hs hk=>(zt hk (λ hk=>hk) (λ hk=>hk))) (λ hs hk=>(zE6 hs hk)))
def zni (n:Net) (zac:(Sl Int)) (ev2:Int) (cv3:(Sl Use)) (fv3:Int) (zry:Bool):Bool :=
  (cond zry
 false
 (zng n zac ev2 cv3 fv3))
def znj (n:Net) (zac:(Sl Int)) (ev2:Int) (cv3:(Sl Use)) (fv3:Int) (zry:Bool):Bool :=
  (cond zry
 true
 (znh n zac ev2 cv3 fv3))
theorem zrE (hs:znj n zac ev2 cv3 fv3 zry=true) (hk:K (e12 (zni n zac ev2 cv3 fv3 zry))):z12 K [1,1,1,1,0,1] [] ⟨[(3,zS enc_3 1 zac),(4,zp 4 0),(10,zI ev2),(11,zS enc_75 2 cv3),(12,zI fv3),(56,zB zry)],[(4,.box 24 (zm (enc_24 n)))],[]⟩:=zaX (by kernel_rfl) (zc hs hk (λ hs hk=>hk) (λ hs hk=>(zE7 hs hk)))
def znk (n:Net) (zaa:Int) (zaw:(Sl Use)) (zac:(Sl Int)) (ev2:Int) (cv3:(Sl Use)) (fv3:Int):Bool :=
  (cond (s50 n zaa zaw)
 (cond (fv3 != (0:Int))
 (zni n zac ev2 cv3 fv3 true)
 (zni n zac ev2 cv3 fv3 (s38 n zac)))
 (zni n zac ev2 cv3 fv3 false))
def znl (n:Net) (zaa:Int) (zaw:(Sl Use)) (zac:(Sl Int)) (ev2:Int) (cv3:(Sl Use)) (fv3:Int):Bool :=
  (decide ((p50 n zaa zaw=true)) &&
 (cond (s50 n zaa zaw)
 (cond (fv3 != (0:Int))
 (znj n zac ev2 cv3 fv3 true)
 (decide ((p38 n zac=true)) &&
 (znj n zac ev2 cv3 fv3 (s38 n zac))))
 (znj n zac ev2 cv3 fv3 false)))
theorem zE8 (hs:znl n zaa zaw zac ev2 cv3 fv3=true) (hk:K (e12 (znk n zaa zaw zac ev2 cv3 fv3))) (zJ7:zH3=zg enc_75 cv3):z12 K [1,1,1,1] [] ⟨[(1,zI zaa),(2,zS enc_75 2 zaw),(3,zS enc_3 1 zac),(4,zp 4 0),(10,zI ev2),(11,zP (.sl cv3.len 2 zH3)),(12,zI fv3)],[(4,.box 24 (zm (enc_24 n)))],[]⟩:=by subst zJ7;exact zaX (by kernel_rfl) (zaQ hs λ hc hs=>And.intro (And.intro (zE enc_40 4 n.Ties.get) (And.intro (zE enc_75 2 zaw.get) hc)) (zc hs hk (λ hs hk=>(zc hs hk (λ hs hk=>(zrE hs hk)) (λ hs hk=>(zaQ hs λ hc hs=>And.intro (And.intro (zE enc_40 4 n.Ties.get) (And.intro (zE enc_3 1 zac.get) hc)) (zrE hs hk))))) (λ hs hk=>(zrE hs hk))))
def zrF (n:Net) (zaa:Int) (zaw:(Sl Use)) (zac:(Sl Int)) (ev2:Int):Bool :=
  (znk n zaa zaw zac ev2 ((s49 n).1) ((s49 n).2))
def zrG (n:Net) (zaa:Int) (zaw:(Sl Use)) (zac:(Sl Int)) (ev2:Int):Bool :=
  (decide ((p49 n=true)) &&
 (znl n zaa zaw zac ev2 ((s49 n).1) ((s49 n).2)))
theorem zE9 (hs:zrG n zaa zaw zac ev2=true) (hk:K (e12 (zrF n zaa zaw zac ev2))):z12 K [1,1,1] [] ⟨[(1,zI zaa),(2,zS enc_75 2 zaw),(3,zS enc_3 1 zac),(4,zp 4 0),(10,zI ev2)],[(4,.box 24 (zm (enc_24 n)))],[]⟩:=zaX (by kernel_rfl) (zaQ hs λ hc hs=>And.intro (And.intro (zE enc_40 4 n.Ties.get) hc) (zE8 hs hk rfl))
def znm (n:Net) (zaa:Int) (zaw:(Sl Use)) (zac:(Sl Int)):Bool :=
  (zrF n zaa zaw zac ((s26 n).2))
def znn (n:Net) (zaa:Int) (zaw:(Sl Use)) (zac:(Sl Int)):Bool :=
  (decide ((p26 n=true)) &&
 (zrG n zaa zaw zac ((s26 n).2)))
theorem zFa (hs:znn n zaa zaw zac=true) (hk:K (e12 (znm n zaa zaw zac))):z12 K [1,1] [] ⟨[(1,zI zaa),(2,zS enc_75 2 zaw),(3,zS enc_3 1 zac),(4,zp 4 0)],[(4,.box 24 (zm (enc_24 n)))],[]⟩:=zaX (by kernel_rfl) (zaQ hs λ hc hs=>And.intro (And.intro (zE enc_40 4 n.Ties.get) hc) (zE9 hs hk))
def ziy (n:Net) (zaa:Int) (zaw:(Sl Use)) (zac:(Sl Int)) (zi0:Bool):Bool :=
  (cond zi0
 true
 (znm n zaa zaw zac))
def ziz (n:Net) (zaa:Int) (zaw:(Sl Use)) (zac:(Sl Int)) (zi0:Bool):Bool :=
  (cond zi0
 true
 (znn n zaa zaw zac))
theorem zno (hs:ziz n zaa zaw zac zi0=true) (hk:K (e12 (ziy n zaa zaw zac zi0))):z12 K [1,0,1] [] ⟨[(1,zI zaa),(2,zS enc_75 2 zaw),(3,zS enc_3 1 zac),(4,zp 4 0),(32,zB zi0)],[(4,.box 24 (zm (enc_24 n)))],[]⟩:=zaX (by kernel_rfl) (zc hs hk (λ hs hk=>hk) (λ hs hk=>(zFa hs hk)))
def s12 (n:Net) (zaa:Int) (zaw:(Sl Use)) (zac:(Sl Int)):Bool :=
  (cond (!(s20 n (20:Int)))
 (ziy n zaa zaw zac true)
 (cond (!(s23 n))
 (ziy n zaa zaw zac true)
 (cond (decide ((zaw.len : Int) > (50:Int)))
 (ziy n zaa zaw zac true)
 (ziy n zaa zaw zac (decide ((zac.len:Int) > (50:Int)))))))
def p12 (n:Net) (zaa:Int) (zaw:(Sl Use)) (zac:(Sl Int)):Bool :=
  (cond (!(s20 n (20:Int)))
 (ziz n zaa zaw zac true)
 (decide ((p23 n=true)) &&
 (cond (!(s23 n))
 (ziz n zaa zaw zac true)
 (cond (decide ((zaw.len : Int) > (50:Int)))
 (ziz n zaa zaw zac true)
 (ziz n zaa zaw zac (decide ((zac.len:Int) > (50:Int))))))))
end
theorem q12 (n:Net) (zaa:Int) (zaw:(Sl Use)) (zac:(Sl Int)) (K:List PA->Prop) (hs:p12 n zaa zaw zac=true) (hk:K (e12 (s12 n zaa zaw zac))):vcFun Tryd.prog G12 zE4 12 [.agg (enc_24 n),.one (.int .i64 zaa),.one (.sl zaw.len 2 (λ i=>enc_75 (zaw.get i))),.one (.sl zac.len 1 (λ i=>enc_3 (zac.get i)))] K :=
  zaX (by kernel_rfl) (And.intro (zE enc_40 4 n.Ties.get) (zc hs hk (λ hs hk=>(zno hs hk)) (λ hs hk=>(zaQ hs λ hc hs=>And.intro (And.intro (zE enc_40 4 n.Ties.get) hc) (zc hs hk (λ hs hk=>(zno hs hk)) (λ hs hk=>(zc hs hk (λ hs hk=>(zno hs hk)) (λ hs hk=>(zno hs hk)))))))))
def zH4 : List PA → COut
  | [.agg [.int .i64 zah,.sl zae zaz zad],.one (.int .i64 a1),.one (.sl zkQ zvQ zkR),.one (.sl zIM zKL zIN)]=>.det (IsE enc_40 4 zaz zad/\IsE enc_75 2 zvQ zkR/\IsE enc_3 1 zKL zIN/\p12 (⟨zah,(⟨zae,zal zad⟩:(Sl Tie))⟩:Net) a1 (⟨zkQ,zbM zkR⟩:(Sl Use)) (⟨zIM,zat zIN⟩:(Sl Int))=true) [.one (.bool (s12 (⟨zah,(⟨zae,zal zad⟩:(Sl Tie))⟩:Net) a1 (⟨zkQ,zbM zkR⟩:(Sl Use)) (⟨zIM,zat zIN⟩:(Sl Int))))]
  | _=>.no
theorem call12:zas Tryd.prog 12:=⟨_,rfl,rfl,by kernel_rfl⟩
theorem ok12:Ok Tryd.prog 12 zH4:=zbm zJ6 call12 λ args K h=>by
  unfold zH4 at h
  split at h
  · rename_i zah zae zaz zad a1 zkQ zvQ zkR zIM zKL zIN
    obtain⟨⟨⟨rfl,zar,rfl⟩,⟨rfl,zpU,rfl⟩,⟨rfl,zJ8,rfl⟩,hs⟩,hk⟩:=h
    try rw[zak zar] at hs
    try rw[zak zar] at hk
    try rw[zbA zpU] at hs
    try rw[zbA zpU] at hk
    try rw[za3 zJ8] at hs
    try rw[za3 zJ8] at hk
    exact⟨(λ _ _=>[]),(λ _=>false),zE4,q12 (⟨zah,(⟨zae,zar⟩:(Sl Tie))⟩:Net) a1 (⟨zkQ,zpU⟩:(Sl Use)) (⟨zIM,zJ8⟩:(Sl Int)) K hs hk⟩
  · exact h.elim
end Go.Proofs
namespace Go.Proofs.YtedhjaaikeakoaaDoor
open Go Go.Pm Go.ChangeShapes
set_option maxRecDepth 100000
abbrev laid1 : List (String × DataW Unit) := [("overburden/align.never", Rows.laid_overburden_align_never)]
theorem zBB : Tryd.prog.globalNamed "overburden/align.never" = some 0 := by kernel_rfl
theorem zH5:(Tryd.prog.globals[0]?).map (·.type)=some 114:=by kernel_rfl
theorem zH6:Tryd.prog.cellsOf 114=2:=by kernel_rfl
theorem zKM:Tryd.prog.cellsOf 3=1:=by kernel_rfl
theorem door_met (os:Os) (args:Array Value):laidMetH Tryd.prog laid1 ((World.doorLaid Tryd.prog 400 os).forCall (λ _ _=>0) ⟨#[],args,[]⟩).memory :=
 laidMetH_of_parts3 (fuel:=8) (laidMet_of_run' 8 (by kernel_rfl) (by kernel_rfl)) (by kernel_rfl) (by kernel_rfl)
theorem gl_of {W:World}(h:laidMetH Tryd.prog laid1 W):zdP (H0 W):=by
 rw[MakeChecks.laidMetH_plain _ _ _ (by kernel_rfl)] at h
 obtain⟨ps,⟨g0,t0,cs0,f0,p0,q0,hg0,ht0,hv0,hd0,_,_⟩,_,_⟩:=h
 obtain rfl:=Option.some.inj (zBB.symm.trans hg0)
 obtain rfl:=Option.some.inj (zH5.symm.trans ht0)
 obtain⟨y0,y1,n,hx,hl,h0,h1⟩:=trod_struct2 Tryd.underlying114 hd0
 simp only[Prod.mk.injEq] at hx
 obtain⟨hx,-⟩:=hx
 simp only[Rows.laid_overburden_align_never,DataW.agg.injEq,List.cons.injEq,and_true] at hx
 obtain⟨k0,e0,d0,_⟩:=DataW.trod_int Tryd.underlying3 h0
 obtain⟨k1,e1,d1,_⟩:=DataW.trod_int Tryd.underlying3 h1
 rw[zH6] at hl
 have e0':cs0.toList.take 1=[.int .i64 k0]:=by
  have:=e0
  rw[show Tryd.prog.cellsOf _=1 from zKM] at this
  simpa using this
 have e1':(cs0.toList.drop 1).take 1=[.int .i64 k1]:=by
  have:=e1
  rw[show Tryd.prog.cellsOf _=1 from zKM] at this
  simpa using this
 have hk0:k0=1000000000000:=by have:=hx.1;rw[d0] at this;injection this with a;injection a with _ a;exact a.symm
 have hk1:k1=0:=by have:=hx.2;rw[d1] at this;injection this with a;injection a with _ a;exact a.symm
 have hC:cs0.toList=[.int .i64 1000000000000,.int .i64 0]:=by
  have h2:cs0.toList=cs0.toList.take 1 ++ (cs0.toList.drop 1).take 1:=by
   rw[← List.take_add,List.take_of_length_le (by omega)]
  rw[h2,e0',e1',hk0,hk1];rfl
 intro k l hk
 unfold World.var? at hv0
 rw[zBB] at hv0
 simp only[Option.bind_some] at hv0
 cases k with
 | succ k=>cases hk
 | zero =>
  obtain rfl:[PV.int .i64 1000000000000,.int .i64 0]=l:=Option.some.inj hk
  cases eo:W.heap[0]? with
  | none=>rw[eo] at hv0;cases hv0
  | some o =>
   rw[eo] at hv0
   cases o with
   | cells C ty fr =>
    simp only[Option.some.injEq] at hv0
    subst hv0
    exact⟨_,ty,fr,by unfold H0;rw[eo];rfl,by rw[hC];exact⟨.int _ _,.int _ _,trivial⟩⟩
   | _=>cases hv0
end Go.Proofs.YtedhjaaikeakoaaDoor
namespace Go.Proofs.YtedhjaaikeakoaaDoor
set_option maxRecDepth 100000
def dc : Nat → Nat → List Char
  | 0,_=>[]
  | k+1,n=>Char.ofNat (n % 128) :: dc k (n / 128)
def ioR:List (List Char):=[dc 2 14945,dc 38 107265865644741724912243125268531249640326942553430557205577479631290979090791279,dc 38 108293077817484906734254386447616441263814988321737617043972465573863363972791151,dc 38 93370879016013017278412803021783510280543711028000410236402271261457424383048559,dc 38 107258694022858408970435192345127867927486736974969802526482043864463718682819439,dc 39 13746719959472648153406769131206406626558510298776447130317981093147086104311724911,dc 38 107266209769642888316488957616301258915172789321380384129051881327065490379078511,dc 39 13738338888634744287462113483281891133786406809494667074737303271467843731645365103,dc 38 107308724040215521434011850380931925905298338556088488294726402895071789331348335,dc 43 3689337697451499537899652006011379275272339788637320245734945509069109267079825879406836591,dc 38 106339254617564648824502995819756623291246721172574690728430612464564447869500271,dc 38 107330772524736890892060720350443696785457349727637599143704802418857719933533039,dc 38 107266380701743786104986999119182321999123657451770743386930499759721679104342895,dc 38 107308728471136676073553801914045189487148679029700448428114571309412341010496367,dc 37 837954515553292543489687687552621780150771894250034810644180755742461368302447,dc 38 107287017468262091873827311208814906259154281073825133055543027267698112966785903,dc 38 107374028509112486977837548216825331243033985081330090052312008930171490580134767,dc 38 107265533895345759970156929786145176805363222797160045994169685653949991330872175]
def ioN:List Char:=dc 748 14110378018767575964226655308004126793045208087310171201555892242252648960690434620806224759478349222793457564936136773140206884019406577404308477398112682127111429688458091804136369451876026010391452929509304596612007749348823331848074321521876163367611471766311661795807971626777430789606670518996161301806853738256348343737238826384171739901612950230839336053519876648582653265928992265003442337249315020340640568624042171724319570015876863120612063908539839480788963015814409324055605425425582212723687691771037045010066064867754736841809752569547023397197010564985861497252960727260554984899190782686002829257997185443421456271698218584945985148990383891392482548262956659989814614329905290488435125286744085629934720469444029598243369313538259143807170350259387234145666063103371643809341342441092158617040725699310351084585854817129011753246127748964030413854525633190715875548631480060648955255476518703717934493416584654287151545453027212072361023366870608725576042669368667333719675724995494706645777621137060304017521484702088503639607947747215026989263530504204523251982333933107210391579300884546305432560571086131943194743723205005815139772394062686780566686930384812217785365992657908782936586832589627342388339882126362151219006413773645814561079952905486963953952063552645778936398310246717058410743450648594152841163565946295251582585294350653230459132165827590128826417871324965536217148578987470925657879977171716100377657863588641203253643922875913460814715430695689192746980757875303892414899783421563436119681070640173712093473782554642421452415184974056
theorem ioS:Tryd.prog.initOrder=String.ofList ioN:=by kernel_rfl
theorem ioL:Tryd.prog.initOrder.toList=ioN:=(congrArg String.toList ioS).trans String.toList_ofList
theorem ioW:wordsSigns Tryd.prog.initOrder.toList=(dc 7 509754063237352) :: (dc 64 583581952082889979719035725534559484815115086455805852996510235646750355970935781905203483690318741732481452225105900421668580921071669) :: (dc 3 1915619) :: ioR:=(congrArg wordsSigns ioL).trans (by kernel_rfl)
theorem ioB:behindMainWord (wordsSigns Tryd.prog.initOrder.toList)=(dc 3 1915619) :: ioR:=(congrArg behindMainWord ioW).trans (by kernel_rfl)
theorem zoI {P : Program} {l : List (List Char)} (h : behindMainWord (wordsSigns P.initOrder.toList) = l) : P.headLifts = (if (stripLifts liftWords l).2.head? == some "cut".toList then (stripLifts liftWords l).1 else []) := by subst h; rfl
theorem zFb {P:Program}{rest:List (List Char)}(h:behindMainWord (wordsSigns P.initOrder.toList)=(dc 3 1915619) :: rest):P.make=some .cut:=by unfold Program.make;rw[h];rfl
theorem zAn {P:Program}{rest:List (List Char)}(h:behindMainWord (wordsSigns P.initOrder.toList)=(dc 3 1915619) :: rest) (hl:P.headLifts=[]):P.liftsFinal=false:=by unfold Program.liftsFinal;rw[h,hl];rfl
theorem zFc {P : Program} {a b : List Char} {rest : List (List Char)} (h : wordsSigns P.initOrder.toList = a :: b :: rest) (hs : isSumSigns b = true) (ha : (a == "harness".toList) = true) : P.mainIs = some (true, b) := by unfold Program.mainIs; rw [h]; simp only [hs, ha]; rfl
theorem zAo {P : Program} {c : List Char} {rest : List (List Char)} (h : behindMainWord (wordsSigns P.initOrder.toList) = c :: rest) (hst : (stripLifts liftWords (c :: rest)).2.head? = some "cut".toList)
    (hs1:(stripLifts liftWords (c :: rest)).1=[]) (hlay:P.laysLater=false) (hb:P.bearsReflect=false) (hd:P.doorFits []=true):P.mayEnter=true:=by
  unfold Program.mayEnter
  rw[h]
  simp[hst,hs1,hlay,hb,hd]
theorem ioH:Tryd.prog.headLifts=[]:=(zoI ioB).trans (by kernel_rfl)
theorem ioK:Tryd.prog.make=some .cut:=zFb ioB
theorem ioF:Tryd.prog.liftsFinal=false:=zAn ioB ioH
theorem ioM : Tryd.prog.mainIs = some (true, "5097d02014b7f9bdc457588f16a61179f96daee4a085c0a2c5462d863db43dbf".toList) := (zFc ioW (by kernel_rfl) (by kernel_rfl)).trans (by kernel_rfl)
theorem ioE:Tryd.prog.mayEnter=true:=zAo ioB (by kernel_rfl) (by kernel_rfl) (by kernel_rfl) (by kernel_rfl) (by kernel_rfl)
end Go.Proofs.YtedhjaaikeakoaaDoor
namespace Go.Pm
open Go

theorem zbr {x:Int}(h1 : -9223372036854775808≤x) (h2:x≤9223372036854775807):w64 x=x:=by
 have hb:IntKind.i64.bits=64:=rfl
 have hs:IntKind.i64.signed=true:=rfl
 unfold w64 IntKind.wrap
 rw[hb,hs]
 simp only[Bool.true_and,decide_eq_true_eq]
 split <;> omega
theorem dqT {p:Prop} [Decidable p] (h:p):decide p=true:=decide_eq_true h
theorem dqF {p:Prop} [Decidable p] (h : ¬ p):decide p=false:=decide_eq_false h
theorem dqA {α:Type}(a b:α):cond true a b=a:=rfl
theorem dqB {α:Type}(a b:α):cond false a b=b:=rfl
theorem dqN (n:Nat):((n:Nat):Int).toNat=n:=Int.toNat_natCast n
theorem dqP {c:Prop}{h:Decidable c}(hc:c){α:Type}{t e:α} : ite c t e=t:=if_pos hc
theorem dqG {c:Prop}{h:Decidable c}(hc : ¬ c){α:Type}{t e:α} : ite c t e=e:=if_neg hc
def zKN (c : Nat → Bool) : Nat → Nat → Nat
  | 0,i=>i
  | m+1,i=>match c i with | true=>i | false=>zKN c m (i+1)
def fst (c:Nat->Bool) (n:Nat):Nat:=zKN c n 0
theorem zjj {good : Nat → Bool} {fin : Bool} {n : Nat} {lpS lpP : Nat → Int → Bool}
    (hS:∀ (k i:Nat),i < n->lpS (k+1) (i:Int)=cond (good i) (lpS k (w64 ((i:Int)+(1:Int)))) false)
    (hE:∀ k,lpS (k+1) (n:Int)=fin)
    (hP:∀ (k i:Nat),i < n->lpP (k+1) (i:Int)=cond (good i) (lpP k (w64 ((i:Int)+(1:Int)))) true)
    (hPE:∀ k,lpP (k+1) (n:Int)=true) (hn:n≤9223372036854775807) :
    lpP Fuel 0=true/\(lpS Fuel 0=true↔(∀ i,i < n->good i=true)/\fin=true):=by
  have key:∀ (m k i:Nat),i+m=n->m < k->lpP k (i:Int)=true/\(lpS k (i:Int)=true↔(∀ j,i≤j->j < n->good j=true)/\fin=true):=by
    intro m
    induction m with
    | zero =>
      intro k i hi hk
      obtain⟨k,rfl⟩:∃ k',k=k'+1:=⟨k - 1,by omega⟩
      have:i=n:=by omega
      subst this
      rw[hE,hPE]
      exact⟨rfl,⟨λ h=>⟨λ j h1 h2=>absurd h2 (by omega),h⟩,λ h=>h.2⟩⟩
    | succ m ih =>
      intro k i hi hk
      obtain⟨k,rfl⟩:∃ k',k=k'+1:=⟨k - 1,by omega⟩
      rw[hS k i (by omega),hP k i (by omega)]
      have e3:w64 ((i:Int)+1)=((i+1:Nat):Int):=by rw[zbr (by omega) (by omega)];omega
      rw[e3]
      obtain⟨h1,h2⟩:=ih k (i+1) (by omega) (by omega)
      cases hg:good i
      · refine ⟨rfl, ⟨fun h => (by cases h), fun h => ?_⟩⟩
        have:=h.1 i (Nat.le_refl _) (by omega)
        rw[hg] at this;cases this
      · refine ⟨h1, h2.trans ⟨fun h => ⟨fun j hj1 hj2 => ?_, h.2⟩, fun h => ⟨fun j hj1 hj2 => h.1 j (by omega) hj2, h.2⟩⟩⟩
        by_cases hji:j=i
        · rw[hji];exact hg
        · exact h.1 j (by omega) hj2
  have:=key n Fuel 0 (by omega) (by simp only[Fuel];omega)
  simpa using this

end Go.Pm
namespace Go.Pm
open Go
theorem zea {i n:Nat}(h:i < n) (hn:n≤9223372036854775807):w64 ((i:Int)+(1:Int))=((i+1:Nat):Int):=by
 rw[zbr (by omega) (by omega)];omega
theorem zFd {β : Type} {good : Nat → Bool} {bad fin : β} {zFe : Bool} {n : Nat} {lpS : Nat → Int → β} {lpP : Nat → Int → Bool}
    (hS:∀ (k i:Nat),i < n->lpS (k+1) (i:Int)=cond (good i) (lpS k (w64 ((i:Int)+(1:Int)))) bad)
    (hE:∀ k,lpS (k+1) (n:Int)=fin)
    (hP:∀ (k i:Nat),i < n->lpP (k+1) (i:Int)=cond (good i) (lpP k (w64 ((i:Int)+(1:Int)))) true)
    (hPE:∀ k,lpP (k+1) (n:Int)=zFe) (hn:n≤9223372036854775807) :
    ((∀ i,i < n->good i=true)->lpP Fuel 0=zFe/\lpS Fuel 0=fin)/\((¬ ∀ i,i < n->good i=true)->lpP Fuel 0=true/\lpS Fuel 0=bad):=by
  have key:∀ (m k i:Nat),i+m=n->m < k->((∀ j,i≤j->j < n->good j=true)->lpP k (i:Int)=zFe/\lpS k (i:Int)=fin)/\((¬ ∀ j,i≤j->j < n->good j=true)->lpP k (i:Int)=true/\lpS k (i:Int)=bad):=by
    intro m
    induction m with
    | zero =>
      intro k i hi hk
      obtain⟨k,rfl⟩:∃ k',k=k'+1:=⟨k - 1,by omega⟩
      have:i=n:=by omega
      subst this
      rw[hE,hPE]
      exact⟨λ _=>⟨rfl,rfl⟩,λ h=>absurd (λ j h1 h2=>absurd h2 (by omega)) h⟩
    | succ m ih =>
      intro k i hi hk
      obtain⟨k,rfl⟩:∃ k',k=k'+1:=⟨k - 1,by omega⟩
      rw[hS k i (by omega),hP k i (by omega),zea (n:=n) (by omega) hn]
      obtain⟨h1,h2⟩:=ih k (i+1) (by omega) (by omega)
      cases hg:good i
      · refine ⟨fun h => ?_, fun _ => ⟨rfl, rfl⟩⟩
        have:=h i (Nat.le_refl _) (by omega)
        rw[hg] at this;cases this
      · refine ⟨fun h => h1 fun j a b => h j (by omega) b, fun h => h2 fun h' => h fun j a b => ?_⟩
        by_cases hji:j=i
        · rw[hji];exact hg
        · exact h' j (by omega) b
  have:=key n Fuel 0 (by omega) (by simp only[Fuel];omega)
  simpa using this
def zk3 {σ : Type} (step : Nat → σ → σ) : Nat → Nat → σ → σ
  | 0,_,s=>s
  | m+1,i,s=>zk3 step m (i+1) (step i s)
theorem zoJ {σ β : Type} {step : Nat → σ → σ} {E : σ → β} {EP : σ → Bool} {Inv : Nat → σ → Prop} {a n : Nat} {lpS : Nat → σ → Int → β} {lpP : Nat → σ → Int → Bool}
    (hS:∀ (k i:Nat) (s:σ),a≤i->i < n->Inv i s->lpS (k+1) s (i:Int)=lpS k (step i s) (w64 ((i:Int)+(1:Int))))
    (hE:∀ k s,lpS (k+1) s (n:Int)=E s)
    (hP:∀ (k i:Nat) (s:σ),a≤i->i < n->Inv i s->lpP (k+1) s (i:Int)=lpP k (step i s) (w64 ((i:Int)+(1:Int))))
    (hPE:∀ k s,lpP (k+1) s (n:Int)=EP s)
    (hI:∀ i s,a≤i->i < n->Inv i s->Inv (i+1) (step i s)) (ha:a≤n) (hn:n≤9223372036854775807) (s:σ) (h0:Inv a s) :
    lpP Fuel s (a:Int)=EP (zk3 step (n - a) a s)/\lpS Fuel s (a:Int)=E (zk3 step (n - a) a s):=by
  have key:∀ (m k i:Nat) (s:σ),a≤i->i+m=n->m < k->Inv i s->lpP k s (i:Int)=EP (zk3 step m i s)/\lpS k s (i:Int)=E (zk3 step m i s):=by
    intro m
    induction m with
    | zero =>
      intro k i s h1 hi hk _
      obtain⟨k,rfl⟩:∃ k',k=k'+1:=⟨k - 1,by omega⟩
      have:i=n:=by omega
      subst this
      rw[hE,hPE]
      exact⟨rfl,rfl⟩
    | succ m ih =>
      intro k i s h1 hi hk hs
      obtain⟨k,rfl⟩:∃ k',k=k'+1:=⟨k - 1,by omega⟩
      rw[hS k i s h1 (by omega) hs,hP k i s h1 (by omega) hs,zea (n:=n) (by omega) hn]
      exact ih k (i+1) (step i s) (by omega) (by omega) (by omega) (hI i s h1 (by omega) hs)
  exact key (n - a) Fuel a s (Nat.le_refl _) (by omega) (by simp only[Fuel];omega) h0
end Go.Pm
namespace Go.Proofs
open Go Go.Pm
set_option maxRecDepth 100000
set_option linter.unusedVariables false
attribute [local irreducible] Go.Pm.vcFun Go.Pm.vc Go.Pm.vcIter
end Go.Proofs
namespace Go.Proofs
open Go Go.Pm
set_option maxRecDepth 100000
theorem zkF (n a b:Int):s81 n a b=decide (a≤n/\n≤b):=by
 unfold s81
 by_cases h:a≤n
 ·rw[dqT (show n ≥ a from h),dqA];exact decide_eq_decide.2 ⟨λ k=>⟨h,k⟩,λ k=>k.2⟩
 ·rw[dqF (show ¬ n ≥ a from h),dqB];exact (dqF (λ k=>h k.1)).symm
theorem zsR (n a b:Int):s72 n a b=decide (a≤n/\n≤b):=zkF n a b
theorem zyj (n:Net) (hn:n.Ties.len≤9223372036854775807):p67 n=true/\(s67 n=true↔(∀ i,i < n.Ties.len->s78 (n.Ties.get i) n.Nodes=true)/\(1≤n.Nodes/\n.Nodes≤40)/\n.Ties.len≤200):=by
  have := zjj (good := fun i => s78 (n.Ties.get i) n.Nodes) (fin := cond (s81 n.Nodes (1:Int) (40:Int)) (decide ((n.Ties.len : Int) ≤ (200:Int))) false) (n := n.Ties.len) (lpS := zhF n) (lpP := zhG n)
    (λ k i hi=>by
      show zhD n (zhF n k) (i:Int)=_
      generalize zhF n k=S
      unfold zhD zpB
      rw[dqT (show (i:Int) < (n.Ties.len:Int) by omega),dqA,dqN]
      cases s78 (n.Ties.get i) n.Nodes <;> rfl)
    (λ k=>by
      show zhD n (zhF n k) (n.Ties.len:Int)=_
      unfold zhD
      rw[dqF (show ¬ (n.Ties.len:Int) < (n.Ties.len:Int) by omega),dqB])
    (λ k i hi=>by
      show zhE n (zhG n k) (i:Int)=_
      generalize zhG n k=S
      unfold zhE zpC
      rw[dqT (show (i:Int) < (n.Ties.len:Int) by omega),dqA,dqN,dqT (show 0≤(i:Int)/\(i:Int) < (n.Ties.len:Int) by omega),Bool.true_and]
      cases s78 (n.Ties.get i) n.Nodes <;> rfl)
    (λ k=>by
      show zhE n (zhG n k) (n.Ties.len:Int)=_
      unfold zhE
      rw[dqF (show ¬ (n.Ties.len:Int) < (n.Ties.len:Int) by omega),dqB])
    hn
  refine⟨this.1,this.2.trans ?_⟩
  rw[zkF]
  by_cases h:1≤n.Nodes/\n.Nodes≤40
  · rw[dqT h,dqA,decide_eq_true_eq];exact⟨λ k=>⟨k.1,h,by omega⟩,λ k=>⟨k.1,by omega⟩⟩
  · rw[dqF h,dqB];exact⟨λ k=>absurd k.2 (by decide),λ k=>absurd k.2.1 h⟩
end Go.Proofs
namespace Go.Proofs
open Go Go.Pm
set_option maxRecDepth 100000
set_option linter.unusedVariables false
attribute [local irreducible] Go.Pm.vcFun Go.Pm.vc Go.Pm.vcIter
section
variable {K:List PA->Prop}{n:Net}{zac:(Sl Int)}{zLM:Bool}{zoH:Int}{X2:St->Prop}{P2:Int->Bool}{S2:Int->Bool}{zLN:Int}{zLO:Bool}{zLP:Int}{X5:St->Prop}{P5:Int->Bool}{S5:Int->Bool}
end
section
variable {K:List PA->Prop}{n:Net}
end
end Go.Proofs
namespace Go.Proofs
open Go Go.Pm
set_option maxRecDepth 100000
set_option linter.unusedVariables false
theorem dgt (x y:Int):decide (x > y) = !decide (x≤y):=by
 by_cases h:x > y
 ·rw[dqT h,dqF (show ¬ x≤y by omega)];rfl
 ·rw[dqF h,dqT (show x≤y by omega)];rfl
theorem zBC (nodes:Int) (t:Tie):s36 nodes t=s78 t nodes:=by
 unfold s36 zii zqJ s78 zkm zkl
 simp only[zsR,zkF,bne,dgt]
 generalize decide (0≤t.From/\t.From≤w64 (nodes - (1:Int)))=a
 generalize decide (0≤t.To/\t.To≤w64 (nodes - (1:Int)))=b
 generalize (t.From == t.To)=c
 generalize (t.Low == (-1000000000000:Int))=d
 generalize (t.High == (1000000000000:Int))=e
 generalize decide (-1000000000≤t.Low/\t.Low≤1000000000)=f
 generalize decide (-1000000000≤t.High/\t.High≤1000000000)=g
 generalize decide (t.Low≤t.High)=h
 cases a <;> cases b <;> cases c <;> cases d <;> cases e <;> cases f <;> cases g <;> cases h <;> rfl
structure TieOk (t : Tie) (nodes : Int) : Prop where
  f0:0≤t.From
  f1:t.From < nodes
  t0:0≤t.To
  t1:t.To < nodes
  ne:t.From ≠ t.To
  lo:t.Low = -1000000000000∨(-1000000000≤t.Low/\t.Low≤1000000000)
  hi:t.High=1000000000000∨(-1000000000≤t.High/\t.High≤1000000000)
  le:t.Low≤t.High
theorem zyk (t:Tie) (nodes:Int) (h1:1≤nodes) (h2:nodes≤40):s78 t nodes=true↔TieOk t nodes:=by
 have e:s78 t nodes=(decide (0≤t.From/\t.From < nodes) && (decide (0≤t.To/\t.To < nodes) && (!(t.From == t.To) && (((t.Low == (-1000000000000:Int)) || decide (-1000000000≤t.Low/\t.Low≤1000000000)) && (((t.High == (1000000000000:Int)) || decide (-1000000000≤t.High/\t.High≤1000000000)) && decide (t.Low≤t.High)))))):=by
  unfold s78 zkm zkl
  rw[zbr (x:=nodes - 1) (by omega) (by omega)]
  simp only[zkF]
  rw[decide_eq_decide.2 (show (0≤t.From/\t.From≤nodes - 1)↔(0≤t.From/\t.From < nodes) by omega),decide_eq_decide.2 (show (0≤t.To/\t.To≤nodes - 1)↔(0≤t.To/\t.To < nodes) by omega)]
  simp only[bne]
  generalize decide (0≤t.From/\t.From < nodes)=a
  generalize decide (0≤t.To/\t.To < nodes)=b
  generalize (t.From == t.To)=c
  generalize (t.Low == (-1000000000000:Int))=d
  generalize (t.High == (1000000000000:Int))=e
  generalize decide (-1000000000≤t.Low/\t.Low≤1000000000)=f
  generalize decide (-1000000000≤t.High/\t.High≤1000000000)=g
  generalize decide (t.Low≤t.High)=h
  cases a <;> cases b <;> cases c <;> cases d <;> cases e <;> cases f <;> cases g <;> cases h <;> rfl
 rw[e]
 simp only[Bool.and_eq_true,Bool.or_eq_true,decide_eq_true_eq,Bool.not_eq_true',beq_eq_false_iff_ne,beq_iff_eq]
 constructor
 ·rintro⟨⟨a,b⟩,⟨c,d⟩,e,f,g,h⟩;exact⟨a,b,c,d,e,f,g,h⟩
 ·rintro⟨a,b,c,d,e,f,g,h⟩;exact⟨⟨a,b⟩,⟨c,d⟩,e,f,g,h⟩
structure NetOk (n : Net) : Prop where
  n1:1≤n.Nodes
  n40:n.Nodes≤40
  len:n.Ties.len≤200
  tie:∀ i,i < n.Ties.len->TieOk (n.Ties.get i) n.Nodes
theorem zyl (n:Net) (hn:n.Ties.len≤9223372036854775807):p67 n=true/\(s67 n=true↔NetOk n):=by
 obtain⟨h1,h2⟩:=zyj n hn
 refine⟨h1,h2.trans ?_⟩
 constructor
 ·rintro⟨a,⟨b,c⟩,d⟩;exact⟨b,c,by omega,λ i hi=>(zyk _ _ b c).1 (a i hi)⟩
 ·rintro⟨b,c,d,a⟩;exact⟨λ i hi=>(zyk _ _ b c).2 (a i hi),⟨b,c⟩,by omega⟩
theorem zH7 (n:Net) (hn:n.Ties.len≤9223372036854775807):p23 n=true/\s23 n=s67 n:=by
  have hl := zjj (good := fun i => s36 n.Nodes (n.Ties.get i)) (fin := true) (n := n.Ties.len) (lpS := zgJ n) (lpP := zil n)
    (λ k i hi=>by
      show zij n (zgJ n k) (i:Int)=_
      generalize zgJ n k=S
      unfold zij zqL
      rw[dqT (show (i:Int) < (n.Ties.len:Int) by omega),dqA,dqN]
      cases s36 n.Nodes (n.Ties.get i) <;> rfl)
    (λ k=>by
      show zij n (zgJ n k) (n.Ties.len:Int)=_
      unfold zij
      rw[dqF (show ¬ (n.Ties.len:Int) < (n.Ties.len:Int) by omega),dqB])
    (λ k i hi=>by
      show zik n (zil n k) (i:Int)=_
      generalize zil n k=S
      unfold zik zqM
      rw[dqT (show (i:Int) < (n.Ties.len:Int) by omega),dqA,dqN,dqT (show 0≤(i:Int)/\(i:Int) < (n.Ties.len:Int) by omega),Bool.true_and]
      cases s36 n.Nodes (n.Ties.get i) <;> rfl)
    (λ k=>by
      show zik n (zil n k) (n.Ties.len:Int)=_
      unfold zik
      rw[dqF (show ¬ (n.Ties.len:Int) < (n.Ties.len:Int) by omega),dqB])
    hn
  obtain⟨h1,h2⟩:=zyj n hn
  unfold p23 s23 zm9 zm8 zqQ zqP zqO zqN
  rw[hl.1,zsR,dgt]
  refine⟨by cases decide (1≤n.Nodes/\n.Nodes≤40) <;> cases decide ((n.Ties.len:Int)≤200) <;> rfl,?_⟩
  have h3:=hl.2
  have h4:zgJ n Fuel 0=true↔∀ i,i < n.Ties.len->s78 (n.Ties.get i) n.Nodes=true:=h3.trans ⟨λ h i hi=>by rw[← zBC];exact h.1 i hi,λ h=>⟨λ i hi=>by rw[zBC];exact h i hi,rfl⟩⟩
  rw[Bool.eq_iff_iff,h2]
  by_cases a:1≤n.Nodes/\n.Nodes≤40
  · rw [dqT a]
    by_cases b:(n.Ties.len:Int)≤200
    · rw[dqT b];exact h4.trans ⟨λ h=>⟨h,a,by omega⟩,λ h=>h.1⟩
    · rw[dqF b];exact⟨λ h=>absurd h Bool.false_ne_true,λ h=>absurd h.2.2 (by omega)⟩
  · rw[dqF a];exact⟨λ h=>absurd h Bool.false_ne_true,λ h=>absurd h.2.1 a⟩
structure ValOk (n : Net) (v : Sl Int) : Prop where
  len:(v.len:Int)=n.Nodes
  zero:v.get 0=0
  b:∀ i,i < v.len->-1000000000000≤v.get i/\v.get i≤1000000000000
def Keep (t:Tie) (v:Sl Int):Prop:=(t.Low = -1000000000000∨t.Low≤v.get t.To.toNat - v.get t.From.toNat)/\(t.High=1000000000000∨v.get t.To.toNat - v.get t.From.toNat≤t.High)
structure AgOk (n : Net) (v : Sl Int) : Prop where
  val:ValOk n v
  keep:∀ i,i < n.Ties.len->Keep (n.Ties.get i) v
theorem zFf (n:Net) (h1:1≤n.Nodes) (v:Sl Int) (hv:v.len≤9223372036854775807):p80 n v=true/\(s80 n v=true↔ValOk n v):=by
  have hl := zjj (good := fun i => s72 (v.get i) (-1000000000000:Int) (1000000000000:Int)) (fin := true) (n := v.len) (lpS := zgK v) (lpP := zio v)
    (λ k i hi=>by
      show zim v (zgK v k) (i:Int)=_
      generalize zgK v k=S
      unfold zim zqR
      rw[dqT (show (i:Int) < (v.len:Int) by omega),dqA,dqN]
      cases s72 (v.get i) (-1000000000000:Int) (1000000000000:Int) <;> rfl)
    (λ k=>by
      show zim v (zgK v k) (v.len:Int)=_
      unfold zim
      rw[dqF (show ¬ (v.len:Int) < (v.len:Int) by omega),dqB])
    (λ k i hi=>by
      show zin v (zio v k) (i:Int)=_
      generalize zio v k=S
      unfold zin zqS
      rw[dqT (show (i:Int) < (v.len:Int) by omega),dqA,dqN,dqT (show 0≤(i:Int)/\(i:Int) < (v.len:Int) by omega),Bool.true_and]
      cases s72 (v.get i) (-1000000000000:Int) (1000000000000:Int) <;> rfl)
    (λ k=>by
      show zin v (zio v k) (v.len:Int)=_
      unfold zin
      rw[dqF (show ¬ (v.len:Int) < (v.len:Int) by omega),dqB])
    hv
  have h3:zgK v Fuel 0=true↔∀ i,i < v.len->-1000000000000≤v.get i/\v.get i≤1000000000000:=hl.2.trans ⟨λ h i hi=>by have:=h.1 i hi;rw[zsR] at this;exact of_decide_eq_true this,λ h=>⟨λ i hi=>by rw[zsR];exact dqT (h i hi),rfl⟩⟩
  unfold p80 s80 zqW zqV zqU zqT
  rw[hl.1]
  by_cases a:(v.len:Int)=n.Nodes
  · rw [show ((v.len : Int) != n.Nodes) = false by rw [a]; exact bne_self_eq_false _, dqB, dqB]
    by_cases b:v.get 0=0
    · rw [show (v.get 0 != (0:Int)) = false by rw [b]; rfl, dqB, dqB]
      exact⟨by rw[dqT (show 0≤(0:Int)/\(0:Int) < (v.len:Int) by omega)];rfl,h3.trans ⟨λ h=>⟨a,b,h⟩,λ h=>h.b⟩⟩
    · rw [show (v.get 0 != (0:Int)) = true from bne_iff_ne.2 b, dqA, dqA]
      exact⟨by rw[dqT (show 0≤(0:Int)/\(0:Int) < (v.len:Int) by omega)];rfl,λ h=>absurd h Bool.false_ne_true,λ h=>absurd h.zero b⟩
  · rw [show ((v.len : Int) != n.Nodes) = true from bne_iff_ne.2 a, dqA, dqA]
    exact⟨rfl,λ h=>absurd h Bool.false_ne_true,λ h=>absurd h.len a⟩
theorem zrH (t:Tie) (n:Net) (v:Sl Int) (ht:TieOk t n.Nodes) (hv:ValOk n v):p39 t v=true/\(s39 t v=true↔Keep t v):=by
 have h1:=hv.b t.To.toNat (by have:=ht.t0;have:=ht.t1;have:=hv.len;omega)
 have h2:=hv.b t.From.toNat (by have:=ht.f0;have:=ht.f1;have:=hv.len;omega)
 have:=ht.f0;have:=ht.f1;have:=ht.t0;have:=ht.t1;have:=hv.len
 constructor
 ·unfold p39
  rw[dqT (show 0≤t.To/\t.To < (v.len:Int) by omega),dqT (show 0≤t.From/\t.From < (v.len:Int) by omega)];rfl
 ·unfold s39 Keep
  rw[zbr (by omega) (by omega)]
  by_cases a:t.Low = -1000000000000
  ·rw [show (t.Low == (-1000000000000:Int)) = true from beq_iff_eq.2 a, dqA]
   by_cases b:t.High=1000000000000
   ·rw[show (t.High == (1000000000000:Int))=true from beq_iff_eq.2 b,dqA];exact⟨λ _=>⟨.inl a,.inl b⟩,λ _=>rfl⟩
   ·rw[show (t.High == (1000000000000:Int))=false from beq_eq_false_iff_ne.2 b,dqB,decide_eq_true_eq];exact⟨λ h=>⟨.inl a,.inr h⟩,λ h=>h.2.resolve_left b⟩
  ·rw [show (t.Low == (-1000000000000:Int)) = false from beq_eq_false_iff_ne.2 a, dqB]
   by_cases c:t.Low≤v.get t.To.toNat - v.get t.From.toNat
   ·rw [dqT (show v.get t.To.toNat - v.get t.From.toNat ≥ t.Low from c), dqA]
    by_cases b:t.High=1000000000000
    ·rw[show (t.High == (1000000000000:Int))=true from beq_iff_eq.2 b,dqA];exact⟨λ _=>⟨.inr c,.inl b⟩,λ _=>rfl⟩
    ·rw[show (t.High == (1000000000000:Int))=false from beq_eq_false_iff_ne.2 b,dqB,decide_eq_true_eq];exact⟨λ h=>⟨.inr c,.inr h⟩,λ h=>h.2.resolve_left b⟩
   ·rw [dqF (show ¬ v.get t.To.toNat - v.get t.From.toNat ≥ t.Low from c), dqB]
    exact⟨λ h=>absurd h Bool.false_ne_true,λ h=>absurd (h.1.resolve_left a) c⟩
theorem zFg (n:Net) (v:Sl Int) (hn:NetOk n) (hv:v.len≤9223372036854775807):p38 n v=true/\(s38 n v=true↔AgOk n v):=by
  obtain⟨h1,h2⟩:=zFf n hn.n1 v hv
  unfold p38 s38
  rw[h1]
  by_cases hV:s80 n v=true
  · have hV' := h2.1 hV
    have hlen:=hn.len
    have hl := zjj (good := fun i => s39 (n.Ties.get i) v) (fin := true) (n := n.Ties.len) (lpS := zis n v) (lpP := zit n v)
      (λ k i hi=>by
        show ziq n v (zis n v k) (i:Int)=_
        generalize zis n v k=S
        unfold ziq zqY
        rw[dqT (show (i:Int) < (n.Ties.len:Int) by omega),dqA,dqN]
        cases s39 (n.Ties.get i) v <;> rfl)
      (λ k=>by
        show ziq n v (zis n v k) (n.Ties.len:Int)=_
        unfold ziq
        rw[dqF (show ¬ (n.Ties.len:Int) < (n.Ties.len:Int) by omega),dqB])
      (λ k i hi=>by
        show zir n v (zit n v k) (i:Int)=_
        generalize zit n v k=S
        unfold zir zqZ
        rw[dqT (show (i:Int) < (n.Ties.len:Int) by omega),dqA,dqN,dqT (show 0≤(i:Int)/\(i:Int) < (n.Ties.len:Int) by omega),Bool.true_and,dqT (zrH _ n v (hn.tie i hi) hV').1,Bool.true_and]
        cases s39 (n.Ties.get i) v <;> rfl)
      (λ k=>by
        show zir n v (zit n v k) (n.Ties.len:Int)=_
        unfold zir
        rw[dqF (show ¬ (n.Ties.len:Int) < (n.Ties.len:Int) by omega),dqB])
      (by omega)
    rw[hV]
    unfold zq5 zq4 zq3 zq2 zq1 zq0
    refine⟨by rw[hl.1];rfl,Iff.trans (Iff.trans (by rfl) hl.2) ?_⟩
    exact⟨λ h=>⟨hV',λ i hi=>(zrH _ n v (hn.tie i hi) hV').2.1 (h.1 i hi)⟩,λ h=>⟨λ i hi=>(zrH _ n v (hn.tie i hi) hV').2.2 (h.keep i hi),rfl⟩⟩
  · have hV0 : s80 n v = false := Bool.eq_false_iff.2 hV
    rw[hV0]
    exact⟨rfl,λ h=>absurd h Bool.false_ne_true,λ h=>absurd (h2.2 h.val) hV⟩
theorem zym {n:Net}{t:Int}(h:s20 n t=true) (ht:t≤210):n.Ties.len≤210:=by
 unfold s20 at h
 by_cases h1:(n.Ties.len:Int)≤t
 ·omega
 ·by_cases h2 : (n.Ties.len : Int) ≤ 210
  ·omega
  ·rw [dqF h1, dqF h2] at h
   exact absurd h (by cases decide (n.Nodes≤7) <;> cases decide (n.Nodes > 40) <;> cases decide ((n.Ties.len:Int) > 200) <;> decide)
end Go.Proofs
namespace Go.Pm
structure Ed where
  u:Nat
  v:Nat
  w:Int
def wt : List Ed → Int
  | []=>0
  | e :: l=>e.w+wt l
theorem zeu (c d:List Ed):wt (c ++ d)=wt c+wt d:=by
 induction c with
 | nil=>show wt d=0+wt d;omega
 | cons e l ih=>show e.w+wt (l ++ d)=e.w+wt l+wt d;omega
theorem zkG (e:Ed):wt [e]=e.w:=Int.add_zero _
def zem (E : List Ed) : Nat → List Ed → Nat → Prop
  | a,[],b=>a=b
  | a,e :: l,b=>e∈E/\e.u=a/\zem E e.v l b
theorem zcx {E:List Ed}{c d:List Ed}{a b:Nat} : zem E a (c ++ d) b↔∃ m,zem E a c m/\zem E m d b:=by
 induction c generalizing a with
 | nil=>exact⟨λ h=>⟨a,rfl,h⟩,λ ⟨m,h1,h2⟩=>by cases h1;exact h2⟩
 | cons e l ih =>
  constructor
  ·rintro ⟨h1, h2, h3⟩
   obtain⟨m,k1,k2⟩:=ih.1 h3
   exact⟨m,⟨h1,h2,k1⟩,k2⟩
  ·rintro ⟨m, ⟨h1, h2, h3⟩, h4⟩
   exact⟨h1,h2,ih.2 ⟨m,h3,h4⟩⟩
theorem zhn {E:List Ed}{e:Ed}(h:e∈E):zem E e.u [e] e.v:=⟨h,rfl,rfl⟩
def zbE (E:List Ed):Prop:=∀ a c,zem E a c a->0≤wt c
abbrev zb2:=Nat->Option Int
def zkS (d:zb2) (v:Nat) (x:Int):zb2:=λ j=>if j=v then some x else d j
def ltO (x : Int) : Option Int → Bool
  | none=>true
  | some y=>decide (x < y)
def rlF (s:zb2×Bool) (e:Ed):zb2×Bool :=
 match s.1 e.u with
 | none=>s
 | some x=>cond (ltO (x+e.w) (s.1 e.v)) (zkS s.1 e.v (x+e.w),true) s
def Sat (d:zb2) (e:Ed):Prop:=∀ x,d e.u=some x->∃ y,d e.v=some y/\y≤x+e.w
theorem zkH {x:Int}{o:Option Int}(h:ltO x o=false):∃ y,o=some y/\y≤x:=by
 cases o with
 | none=>cases h
 | some y=>exact⟨y,rfl,Int.not_lt.1 (of_decide_eq_false h)⟩
theorem zH8 {x y:Int}(h:y≤x):ltO x (some y)=false:=dqF (Int.not_lt.2 h)
theorem zyn {d:zb2}{c:Bool}{e:Ed}(h:Sat d e):rlF (d,c) e=(d,c):=by
 unfold rlF
 cases hu:d e.u with
 | none=>simp only[hu]
 | some x =>
  obtain⟨y,h1,h2⟩:=h x hu
  simp only[hu,h1,zH8 h2,dqB]
theorem zFh {d:zb2}{c:Bool}{e:Ed}(h : ¬ Sat d e):(rlF (d,c) e).2=true:=by
 unfold rlF
 cases hu:d e.u with
 | none=>exact absurd (λ x hx=>by rw[hu] at hx;cases hx) h
 | some x =>
  simp only[hu]
  cases hl:ltO (x+e.w) (d e.v)
  ·obtain ⟨y, h1, h2⟩ := zkH hl
   exact absurd (λ x' hx'=>⟨y,h1,by rw[hu] at hx';cases hx';exact h2⟩) h
  ·rfl
theorem zAp {s:zb2×Bool}{e:Ed}(h:s.2=true):(rlF s e).2=true:=by
 unfold rlF
 cases s.1 e.u with
 | none=>exact h
 | some x=>simp only[];cases ltO (x+e.w) (s.1 e.v) <;> first | exact h | rfl
theorem zyo {E:List Ed}{s:zb2×Bool}(h:s.2=true):(E.foldl rlF s).2=true:=by
 induction E generalizing s with
 | nil=>exact h
 | cons e l ih=>exact ih (zAp h)
theorem zjk {E:List Ed}{d:zb2}{c:Bool}(h:∀ e∈E,Sat d e):E.foldl rlF (d,c)=(d,c):=by
 induction E with
 | nil=>rfl
 | cons e l ih =>
  show l.foldl rlF (rlF (d,c) e)=_
  rw[zyn (h e (List.mem_cons_self ..))]
  exact ih λ e he=>h e (List.mem_cons_of_mem _ he)
theorem ziA {E:List Ed}{d:zb2}{c:Bool}(h:(E.foldl rlF (d,c)).2=false):∀ e∈E,Sat d e:=by
 induction E with
 | nil=>intro e he;cases he
 | cons e l ih =>
  have h':(l.foldl rlF (rlF (d,c) e)).2=false:=h
  have hs:Sat d e:=Classical.byContradiction λ hn=>by
   rw[zyo (zFh hn)] at h';cases h'
  rw[zyn hs] at h'
  intro e' he'
  rcases List.mem_cons.1 he' with rfl | hm
  ·exact hs
  ·exact ih h' e' hm
def leO (a b:Option Int):Prop:=∀ y,b=some y->∃ x,a=some x/\x≤y
theorem zc2 (a:Option Int):leO a a:=λ y h=>⟨y,h,Int.le_refl _⟩
theorem zdN {a b c:Option Int}(h1:leO a b) (h2:leO b c):leO a c:=λ y h=>by
 obtain⟨x,hx,hxy⟩:=h2 y h
 obtain⟨z,hz,hzx⟩:=h1 x hx
 exact⟨z,hz,Int.le_trans hzx hxy⟩
theorem zyp (s:zb2×Bool) (e:Ed) (v:Nat):leO ((rlF s e).1 v) (s.1 v):=by
 unfold rlF
 cases hu:s.1 e.u with
 | none=>exact zc2 _
 | some x =>
  simp only[]
  cases hl:ltO (x+e.w) (s.1 e.v)
  ·exact zc2 _
  ·show leO (zkS s.1 e.v (x + e.w) v) _
   unfold zkS
   by_cases hv:v=e.v
   ·rw [dqP hv]
    intro y hy
    refine⟨_,rfl,?_⟩
    rw[hv] at hy
    rw[hy] at hl
    exact Int.le_of_lt (of_decide_eq_true hl)
   ·rw[dqG hv];exact zc2 _
theorem zyq (E:List Ed) (s:zb2×Bool) (v:Nat):leO ((E.foldl rlF s).1 v) (s.1 v):=by
 induction E generalizing s with
 | nil=>exact zc2 _
 | cons e l ih=>exact zdN (ih (rlF s e)) (zyp s e v)
theorem zH9 {s:zb2×Bool}{e:Ed}{x:Int}(h:s.1 e.u=some x):leO ((rlF s e).1 e.v) (some (x+e.w)):=by
 unfold rlF
 simp only[h]
 cases hl:ltO (x+e.w) (s.1 e.v)
 ·obtain ⟨y, h1, h2⟩ := zkH hl
  intro z hz;cases hz
  exact⟨y,h1,h2⟩
 ·intro z hz; cases hz
  exact⟨x+e.w,by show zkS s.1 e.v (x+e.w) e.v=_;unfold zkS;rw[dqP rfl],Int.le_refl _⟩
theorem zAq {E:List Ed}{s:zb2×Bool}{e:Ed}{x:Int}(he:e∈E) (h:s.1 e.u=some x):leO ((E.foldl rlF s).1 e.v) (some (x+e.w)):=by
 induction E generalizing s x with
 | nil=>cases he
 | cons f l ih =>
  rcases List.mem_cons.1 he with rfl | hm
  ·exact zdN (zyq l (rlF s e) e.v) (zH9 h)
  ·obtain ⟨x', h1, h2⟩ := zyp s f e.u x h
   intro z hz;cases hz
   obtain⟨y,k1,k2⟩:=ih hm h1 _ rfl
   exact⟨y,k1,by omega⟩
def rnd (E:List Ed) (d:zb2):zb2:=(E.foldl rlF (d,false)).1
def rds (E : List Ed) : Nat → zb2 → zb2
  | 0,d=>d
  | k+1,d=>rds E k (rnd E d)
theorem zsS (E:List Ed) (k:Nat) (d:zb2) (v:Nat):leO (rds E k d v) (d v):=by
 induction k generalizing d with
 | zero=>exact zc2 _
 | succ k ih=>exact zdN (ih (rnd E d)) (zyq E (d,false) v)
theorem zIa {E:List Ed}{c:List Ed} : ∀ {a b k:Nat}{d:zb2}{y:Int},zem E a c b->d a=some y->c.length≤k->leO (rds E k d b) (some (y+wt c)):=by
 induction c with
 | nil =>
  intro a b k d y h hd _
  cases h
  intro z hz;cases hz
  obtain⟨x,h1,h2⟩:=zsS E k d a y hd
  exact⟨x,h1,by show x≤y+0;omega⟩
 | cons e l ih =>
  intro a b k d y h hd hk
  obtain⟨k,rfl⟩:∃ k',k=k'+1:=⟨k - 1,by simp only[List.length_cons] at hk;omega⟩
  obtain⟨h1,h2,h3⟩:=h
  subst h2
  obtain⟨x,k1,k2⟩:=zAq (s:=(d,false)) h1 hd _ rfl
  intro z hz;cases hz
  obtain⟨z,m1,m2⟩:=ih (k:=k) (d:=rnd E d) h3 k1 (by simp only[List.length_cons] at hk;omega) _ rfl
  exact⟨z,m1,by show z≤y+(e.w+wt l);omega⟩
def Fix (E:List Ed) (d:zb2):Prop:=∀ e∈E,Sat d e
theorem zkI {E:List Ed}{d:zb2}(h:Fix E d):rnd E d=d:=by unfold rnd;rw[zjk h]
theorem zyr {E:List Ed}{d:zb2}(h:Fix E d) (k:Nat):rds E k d=d:=by
 induction k with
 | zero=>rfl
 | succ k ih=>show rds E k (rnd E d)=d;rw[zkI h,ih]
theorem zkJ (n:Nat):∀ {l:List Nat},l.Nodup->(∀ x∈l,x < n)->l.length≤n:=by
 induction n with
 | zero =>
  intro l _ h
  cases l with
  | nil=>exact Nat.le_refl _
  | cons x l=>exact absurd (h x (List.mem_cons_self ..)) (Nat.not_lt_zero _)
 | succ n ih =>
  intro l hd h
  have h1:=ih (l:=l.filter (λ x=>x != n)) (hd.filter _) (λ x hx=>by
   obtain⟨hx1,hx2⟩:=List.mem_filter.1 hx
   have:=h x hx1
   have:x ≠ n:=by simpa using hx2
   omega)
  have h2:l.length≤(l.filter (λ x=>x != n)).length+1:=by
   clear h1 ih h
   induction l with
   | nil=>exact Nat.zero_le _
   | cons x l ihl =>
    rw[List.nodup_cons] at hd
    by_cases hx:x=n
    ·subst hx
     have:l.filter (λ y=>y != x)=l:=List.filter_eq_self.2 λ y hy=>by
      have:y ≠ x:=λ e=>hd.1 (e ▸ hy)
      simpa using this
     rw[List.filter_cons_of_neg (by simp),this]
     exact Nat.le_refl _
    ·rw [List.filter_cons_of_pos (by simpa using hx)]
     have:=ihl hd.2
     simp only[List.length_cons];omega
  omega
def nodes (a:Nat) (c:List Ed):List Nat:=a :: c.map Ed.v
theorem zoK (a:Nat) (c:List Ed):(nodes a c).length=c.length+1:=by simp[nodes]
theorem zsU {E:List Ed}{c:List Ed} : ∀ {a b m:Nat},zem E a c b->m∈nodes a c->∃ c1 c2,c=c1 ++ c2/\zem E a c1 m/\zem E m c2 b:=by
 induction c with
 | nil =>
  intro a b m h hm
  have:m=a:=by simpa [nodes] using hm
  subst this
  exact⟨[],[],rfl,rfl,h⟩
 | cons e l ih =>
  intro a b m h hm
  rcases List.mem_cons.1 hm with rfl | hm'
  ·exact⟨[],e :: l,rfl,rfl,h⟩
  ·obtain ⟨h1, h2, h3⟩ := h
   obtain⟨c1,c2,k1,k2,k3⟩:=ih h3 (m:=m) (by simpa [nodes] using hm')
   exact⟨e :: c1,c2,by rw[k1];rfl,⟨h1,h2,k2⟩,k3⟩
structure Att (E : List Ed) (Src : Nat → Prop) (d : zb2) (v : Nat) (x : Int) (a : Nat) (c : List Ed) : Prop where
  src:Src a
  ch:zem E a c v
  wt:x=wt c
  nd:(nodes a c).Nodup
  pre:∀ c1 c2 m,c=c1 ++ c2->zem E a c1 m->leO (d m) (some (Go.Pm.wt c1))
def Inv (E:List Ed) (Src:Nat->Prop) (d:zb2):Prop:=∀ v x,d v=some x->∃ a c,Att E Src d v x a c
theorem zIb {d d':zb2}{E:List Ed}{Src:Nat->Prop}{v:Nat}{x:Int}{a:Nat}{c:List Ed}(h:Att E Src d v x a c) (hd:∀ m,leO (d' m) (d m)):Att E Src d' v x a c :=
 ⟨h.src,h.ch,h.wt,h.nd,λ c1 c2 m h1 h2=>zdN (hd m) (h.pre c1 c2 m h1 h2)⟩
theorem zsV {d:zb2}{E:List Ed}{Src:Nat->Prop}(hn:zbE E){e:Ed}(he:e∈E){x:Int}{a:Nat}{c:List Ed}(h:Att E Src d e.u x a c) (hm:e.v∈nodes a c):leO (d e.v) (some (x+e.w)):=by
 obtain⟨c1,c2,k1,k2,k3⟩:=zsU h.ch hm
 have hc:=hn e.v (c2 ++ [e]) (zcx.2 ⟨e.u,k3,zhn he⟩)
 rw[zeu,zkG] at hc
 have hx:=h.wt
 rw[k1,zeu] at hx
 obtain⟨y,m1,m2⟩:=h.pre c1 c2 e.v k1 k2 _ rfl
 intro z hz;cases hz
 exact⟨y,m1,by omega⟩
theorem zAr {E:List Ed}{c:List Ed} : ∀ {a b b':Nat},zem E a c b->zem E a c b'->b=b':=by
 induction c with
 | nil=>intro a b b' h1 h2;cases h1;cases h2;rfl
 | cons e l ih=>rintro a b b' ⟨_,_,h1⟩ ⟨_,_,h2⟩;exact ih h1 h2
theorem znp {c c1 c2:List Ed}{e:Ed}(h:c ++ [e]=c1 ++ c2):c1=c ++ [e]∨∃ c3,c=c1 ++ c3:=by
 rcases List.append_eq_append_iff.1 h with ⟨a',h1,h2⟩ | ⟨c',h1,_⟩
 ·cases a' with
  | nil=>exact .inr ⟨[],by rw[h1];simp⟩
  | cons f a'' =>
   have:a''=[]/\c2=[]:=by
    cases a'' with
    | nil=>simp at h2;exact⟨rfl,h2.2⟩
    | cons g b=>simp at h2
   obtain⟨rfl,rfl⟩:=this
   simp at h2
   exact .inl (by rw[h1,h2])
 ·exact .inr ⟨c',h1⟩
theorem zkK {E:List Ed}{Src:Nat->Prop}(hn:zbE E){s:zb2×Bool}{e:Ed}(he:e∈E) (h:Inv E Src s.1):Inv E Src (rlF s e).1:=by
 intro v x hx
 have hle:=zyp s e
 unfold rlF at hx hle ⊢
 cases hu:s.1 e.u with
 | none =>
  simp only[hu] at hx ⊢
  obtain⟨a,c,hc⟩:=h v x hx
  exact⟨a,c,hc⟩
 | some y =>
  simp only[hu] at hx hle ⊢
  cases hl:ltO (y+e.w) (s.1 e.v) with
  | false =>
   simp only[hl,dqB] at hx ⊢
   exact h v x hx
  | true =>
   simp only[hl,dqA] at hx hle ⊢
   by_cases hv:v=e.v
   ·subst hv
    have hx':y+e.w=x:=by
     unfold zkS at hx;rw[dqP rfl] at hx;exact Option.some.inj hx
    obtain⟨a,c,hc⟩:=h e.u y hu
    have hnot:e.v ∉ nodes a c:=λ hm=>by
     obtain⟨z,h1,h2⟩:=zsV hn he hc hm _ rfl
     rw[h1] at hl
     have:=of_decide_eq_true hl
     omega
    refine⟨a,c ++ [e],hc.src,zcx.2 ⟨e.u,hc.ch,zhn he⟩,by rw[zeu,zkG,← hc.wt];omega,?_,?_⟩
    ·show (a :: (c ++ [e]).map Ed.v).Nodup
     rw[List.map_append,← List.cons_append]
     refine List.nodup_append.2 ⟨hc.nd,by simp,λ p hp q hq=>?_⟩
     have:q=e.v:=by simpa using hq
     subst this
     exact λ e'=>hnot (e' ▸ hp)
    ·intro c1 c2 m h1 h2
     rcases znp h1 with rfl | ⟨c3,h3⟩
     ·have : m = e.v := zAr h2 (zcx.2 ⟨e.u, hc.ch, zhn he⟩)
      subst this
      intro z hz;cases hz
      refine⟨x,hx,?_⟩
      rw[zeu,zkG,← hc.wt];omega
     ·exact zdN (hle m) (hc.pre c1 c3 m h3 h2)
   ·have hx':s.1 v=some x:=by
     unfold zkS at hx;rw[dqG hv] at hx;exact hx
    obtain⟨a,c,hc⟩:=h v x hx'
    exact⟨a,c,zIb hc hle⟩
theorem znq {E F:List Ed}{Src:Nat->Prop}(hn:zbE E) (hF:∀ e∈F,e∈E){s:zb2×Bool}(h:Inv E Src s.1):Inv E Src (F.foldl rlF s).1:=by
 induction F generalizing s with
 | nil=>exact h
 | cons e l ih=>exact ih (λ e he=>hF e (List.mem_cons_of_mem _ he)) (zkK hn (hF e (List.mem_cons_self ..)) h)
theorem zys {E:List Ed}{Src:Nat->Prop}(hn:zbE E) (k:Nat){d:zb2}(h:Inv E Src d):Inv E Src (rds E k d):=by
 induction k generalizing d with
 | zero=>exact h
 | succ k ih=>exact ih (znq hn (λ _ h=>h) (s:=(d,false)) h)
structure Start (Src : Nat → Prop) (d : zb2) : Prop where
  only:∀ v x,d v=Option.some x->Src v/\x=0
  src:∀ v,Src v->d v=Option.some 0
theorem zho {E:List Ed}{Src:Nat->Prop}{d:zb2}(h:Start Src d):Inv E Src d:=λ v x hx=>by
 obtain⟨h1,h2⟩:=h.only v x hx
 refine⟨v,[],h1,rfl,h2,by simp[nodes],λ c1 c2 m e hc=>?_⟩
 have:c1=[]:=by
  cases c1 with
  | nil=>rfl
  | cons _ _=>cases e
 subst this
 cases hc
 rw[hx,h2]
 exact zc2 _
theorem zjl {E:List Ed}{n:Nat}(hE:∀ e∈E,e.u < n/\e.v < n){c:List Ed} : ∀ {a b:Nat},a < n->zem E a c b->∀ x∈nodes a c,x < n:=by
  induction c with
  | nil => intro a b ha _ x hx; have : x = a := by simpa [nodes] using hx
           omega
  | cons e l ih =>
    rintro a b ha ⟨h1,h2,h3⟩ x hx
    rcases List.mem_cons.1 hx with rfl | hm
    · exact ha
    · exact ih (hE e h1).2 h3 x (by simpa [nodes] using hm)
theorem zFi {E:List Ed}{n:Nat}{Src:Nat->Prop}(hE:∀ e∈E,e.u < n/\e.v < n) (hS:∀ a,Src a->a < n){d:zb2}{v:Nat}{x:Int}{a:Nat}{c:List Ed}(h:Att E Src d v x a c):c.length+1≤n:=by
 have:=zkJ n h.nd (zjl hE (hS a h.src) h.ch)
 rwa[zoK] at this
theorem zBD {E:List Ed}{n:Nat}{Src:Nat->Prop}(hn:zbE E) (hE:∀ e∈E,e.u < n/\e.v < n) (hS:∀ a,Src a->a < n){d:zb2}(h0:Start Src d):Fix E (rds E (n - 1) d):=by
 intro e he x hx
 obtain⟨a,c,hc⟩:=zys hn (n - 1) (zho (E:=E) h0) e.u x hx
 by_cases hm:e.v∈nodes a c
 ·exact zsV hn he hc hm _ rfl
 ·have hlen:(c ++ [e]).length≤n - 1:=by
   have hnd:(nodes a (c ++ [e])).Nodup:=by
    show (a :: (c ++ [e]).map Ed.v).Nodup
    rw[List.map_append,← List.cons_append]
    refine List.nodup_append.2 ⟨hc.nd,by simp,λ p hp q hq=>?_⟩
    have:q=e.v:=by simpa using hq
    subst this
    exact λ e'=>hm (e' ▸ hp)
   have hch:zem E a (c ++ [e]) e.v:=zcx.2 ⟨e.u,hc.ch,zhn he⟩
   have:=zkJ n hnd (zjl hE (hS a hc.src) hch)
   rw[zoK] at this
   omega
  have:=zIa (zcx.2 ⟨e.u,hc.ch,zhn he⟩) (h0.src a hc.src) hlen _ rfl
  rw[zeu,zkG,← hc.wt] at this
  obtain⟨z,h1,h2⟩:=this
  exact⟨z,h1,by omega⟩
theorem zIc {E:List Ed}{f:Nat->Int}(h:∀ e∈E,f e.v≤f e.u+e.w){c:List Ed} : ∀ {a b:Nat},zem E a c b->f b≤f a+wt c:=by
 induction c with
 | nil=>intro a b hc;cases hc;show f a≤f a+0;omega
 | cons e l ih =>
  rintro a b ⟨h1,h2,h3⟩
  subst h2
  have:=ih h3
  have:=h e h1
  show f b≤f e.u+(e.w+wt l);omega
theorem zoL {E:List Ed}{f:Nat->Int}(h:∀ e∈E,f e.v≤f e.u+e.w):zbE E:=λ a c hc=>by
 have:=zIc h hc;omega
end Go.Pm
namespace Go.Pm
theorem zBE {E:List Ed}{f:Ed->Ed}(hu:∀ e,(f e).u=e.u) (hv:∀ e,(f e).v=e.v){c:List Ed} : ∀ {a b:Nat},zem (E.map f) a c b->∃ c0,c=c0.map f/\zem E a c0 b:=by
 induction c with
 | nil=>intro a b h;exact⟨[],rfl,h⟩
 | cons e l ih =>
  rintro a b ⟨h1,h2,h3⟩
  obtain⟨e0,k1,rfl⟩:=List.mem_map.1 h1
  obtain⟨c0,k2,k3⟩:=ih h3
  exact⟨e0 :: c0,by rw[k2];rfl,k1,by rw[← hu];exact h2,by rw[← hv];exact k3⟩
def edM (e:Ed):Ed:=⟨e.u,e.v,e.w * 1048576+1⟩
def edR (e:Ed):Ed:=⟨e.v,e.u,e.w⟩
theorem zKO (c:List Ed):wt (c.map edM)=wt c * 1048576+c.length:=by
 induction c with
 | nil=>rfl
 | cons e l ih =>
  show e.w * 1048576+1+wt (l.map edM)=(e.w+wt l) * 1048576+((l.length+1:Nat):Int)
  omega
theorem zKP (c:List Ed):wt (c.reverse.map edR)=wt c:=by
 induction c with
 | nil=>rfl
 | cons e l ih =>
  rw[List.reverse_cons,List.map_append,zeu,ih]
  show wt l+wt [edR e]=e.w+wt l
  rw[zkG]
  show wt l+e.w=_
  omega
theorem zKQ {E:List Ed}{c:List Ed} : ∀ {a b:Nat},zem E a c b->zem (E.map edR) b (c.reverse.map edR) a:=by
 induction c with
 | nil=>intro a b h;exact Eq.symm h
 | cons e l ih =>
  rintro a b ⟨h1,h2,h3⟩
  rw[List.reverse_cons,List.map_append]
  exact zcx.2 ⟨e.v,ih h3,List.mem_map_of_mem h1,rfl,h2⟩
theorem zId (E:List Ed):(E.map edR).map edR=E:=by
 rw[List.map_map]
 exact (List.map_congr_left λ e _=>rfl).trans (List.map_id E)
theorem zFj {E:List Ed}{c:List Ed}{a b:Nat}(h:zem (E.map edR) a c b):∃ c0,zem E b c0 a/\wt c0=wt c/\c0.length=c.length:=by
 have:=zKQ h
 rw[zId] at this
 exact⟨_,this,zKP c,by simp⟩
theorem znr {E:List Ed}(h:zbE E):zbE (E.map edR):=λ a c hc=>by
 obtain⟨c0,h1,h2,_⟩:=zFj hc
 rw[← h2];exact h a c0 h1
theorem zfO {E:List Ed}(h:zbE E):zbE (E.map edM):=λ a c hc=>by
 obtain⟨c0,rfl,h1⟩:=zBE (f:=edM) (λ _=>rfl) (λ _=>rfl) hc
 rw[zKO]
 have:=h a c0 h1
 omega
def zIO : Option Int → Int × Int
  | none=>((1000000000000:Int),(0:Int))
  | some x=>(x / 1048576,x % 1048576)
theorem zrI {L U:Int}(h0:0≤U) (h1:U < 1048576):zIO (some (L * 1048576+U))=(L,U):=by
 show ((L * 1048576+U) / 1048576,(L * 1048576+U) % 1048576)=(L,U)
 rw[show (L * 1048576+U) / 1048576=L by omega,show (L * 1048576+U) % 1048576=U by omega]
def zoR (s:Nat):zb2:=λ v=>if v=s then some 0 else none
theorem zgc (s:Nat):Start (λ v=>v=s) (zoR s) :=
 ⟨λ v x h=>(by
  unfold zoR at h
  by_cases hv:v=s
  ·rw[dqP hv] at h;cases h;exact⟨hv,rfl⟩
  ·rw[dqG hv] at h;cases h),λ v h=>dqP h⟩
structure EdOk (E : List Ed) (n : Nat) : Prop where
  lt:∀ e∈E,e.u < n/\e.v < n
  w:∀ e∈E,-1000000000≤e.w/\e.w≤1000000000
  n1:1≤n
  n40:n≤40
theorem EdOk.R {E:List Ed}{n:Nat}(h:EdOk E n):EdOk (E.map edR) n :=
  ⟨λ e he=>(by obtain⟨f,h1,rfl⟩:=List.mem_map.1 he;exact⟨(h.lt f h1).2,(h.lt f h1).1⟩),
   λ e he=>(by obtain⟨f,h1,rfl⟩:=List.mem_map.1 he;exact h.w f h1),h.n1,h.n40⟩
theorem EdOk.ltM {E:List Ed}{n:Nat}(h:EdOk E n):∀ e∈E.map edM,e.u < n/\e.v < n :=
 λ e he=>by obtain⟨f,h1,rfl⟩:=List.mem_map.1 he;exact h.lt f h1
theorem zsW {E:List Ed}{n:Nat}(h:EdOk E n){c:List Ed} : ∀ {a b:Nat},zem E a c b->-1000000000 * (c.length:Int)≤wt c/\wt c≤1000000000 * (c.length:Int):=by
 induction c with
 | nil=>intro a b _;exact⟨(by show _≤(0:Int);simp),(by show (0:Int)≤_;simp)⟩
 | cons e l ih =>
  rintro a b ⟨h1,_,h3⟩
  have:=ih h3
  have:=h.w e h1
  show _≤e.w+wt l/\e.w+wt l≤_
  simp only[List.length_cons]
  omega
structure Ent (E : List Ed) (n s v : Nat) (x L U : Int) (c : List Ed) : Prop where
  ch:zem E s c v
  x:x=L * 1048576+U
  L:L=wt c
  U:U=c.length
  len:c.length < n
theorem zBF {E:List Ed}{n:Nat}(hE:EdOk E n){s:Nat}(hs:s < n){d:zb2}(hd:Inv (E.map edM) (λ v=>v=s) d){v:Nat}{x:Int}(hx:d v=some x):∃ c,Ent E n s v x (wt c) c.length c:=by
 obtain⟨a,c,hc⟩:=hd v x hx
 have hl:=zFi hE.ltM (λ a ha=>Nat.lt_of_le_of_lt (Nat.le_of_eq ha) hs) hc
 obtain⟨c0,rfl,h1⟩:=zBE (f:=edM) (λ _=>rfl) (λ _=>rfl) hc.ch
 obtain rfl:a=s:=hc.src
 exact⟨c0,h1,by rw[hc.wt,zKO],rfl,rfl,by rw[List.length_map] at hl;omega⟩
def dst (E:List Ed) (n s:Nat):zb2:=rds (E.map edM) (n - 1) (zoR s)
theorem zFk {E:List Ed}{n s:Nat}(hn:zbE E):Inv (E.map edM) (λ v=>v=s) (dst E n s):=zys (zfO hn) _ (zho (zgc s))
theorem zrJ {E:List Ed}{n s:Nat}(hE:EdOk E n) (hn:zbE E) (hs:s < n):Fix (E.map edM) (dst E n s):=zBD (zfO hn) hE.ltM (λ a ha=>Nat.lt_of_le_of_lt (Nat.le_of_eq ha) hs) (zgc s)
theorem dst_at {E:List Ed}{n s v:Nat}(hE:EdOk E n) (hn:zbE E) (hs:s < n){x:Int}(hx:dst E n s v=some x):∃ c,Ent E n s v x (wt c) c.length c:=zBF hE hs (zFk hn) hx
theorem zAs {E:List Ed}{n s:Nat} : ∃ x,dst E n s s=some x:=by
 obtain⟨x,h,_⟩:=zsS (E.map edM) (n - 1) (zoR s) s 0 (dqP rfl)
 exact⟨x,h⟩
theorem zyt {E:List Ed}{n s:Nat}(hE:EdOk E n) (hn:zbE E) (hs:s < n){c:List Ed} : ∀ {a v:Nat}{x:Int},dst E n s a=some x->zem E a c v->∃ y,dst E n s v=some y/\y / 1048576≤x / 1048576+wt c:=by
 induction c with
 | nil=>intro a v x hx h;cases h;exact⟨x,hx,by show _≤_+(0:Int);omega⟩
 | cons e l ih =>
  rintro a v x hx ⟨h1,h2,h3⟩
  subst h2
  obtain⟨y,k1,k2⟩:=zrJ hE hn hs (edM e) (List.mem_map_of_mem h1) x hx
  obtain⟨z,m1,m2⟩:=ih (a:=e.v) k1 h3
  obtain⟨c1,hc1⟩:=dst_at hE hn hs hx
  obtain⟨c2,hc2⟩:=dst_at hE hn hs (show dst E n s e.v=some y from k1)
  refine⟨z,m1,?_⟩
  have k2':y≤x+(e.w * 1048576+1):=k2
  have:=hE.n40
  have:=hc1.len
  have:=hc1.x
  have:=hc2.len
  have:=hc2.x
  show _≤_+(e.w+wt l)
  omega
theorem zFl {E:List Ed}{n s v:Nat}(hE:EdOk E n) (hn:zbE E) (hs:s < n){c:List Ed}(hc:zem E s c v):∃ x,dst E n s v=some x/\x / 1048576≤wt c:=by
 obtain⟨x0,h1⟩:=zAs (E:=E) (n:=n) (s:=s)
 obtain⟨y,k1,k2⟩:=zyt hE hn hs h1 hc
 have h3:x0≤0:=by
  obtain⟨x',h1',h2'⟩:=zsS (E.map edM) (n - 1) (zoR s) s 0 (dqP rfl)
  have:x'=x0:=Option.some.inj (h1'.symm.trans h1)
  omega
 exact⟨y,k1,by omega⟩
def zFm (o:Option Int):Int:=(zIO o).1
theorem zyu {E:List Ed}{n s v:Nat}(hE:EdOk E n) (hn:zbE E) (hs:s < n){x:Int}(hx:dst E n s v=some x):∃ c,zem E s c v/\zFm (dst E n s v)=wt c/\c.length < n:=by
 obtain⟨c,hc⟩:=dst_at hE hn hs hx
 refine⟨c,hc.ch,?_,hc.len⟩
 rw[hx]
 show x / 1048576=_
 have:=hc.x;have:=hc.len;have:=hE.n40
 omega
theorem zyv {E:List Ed}{n s v:Nat}(hE:EdOk E n) (hn:zbE E) (hs:s < n){c:List Ed}(hc:zem E s c v):zFm (dst E n s v)≤wt c:=by
 obtain⟨x,h1,h2⟩:=zFl hE hn hs hc
 rw[h1];exact h2
theorem zev {E:List Ed}{n s v:Nat}(hE:EdOk E n) (hn:zbE E) (hs:s < n):(dst E n s v=none/\zFm (dst E n s v)=1000000000000)∨∃ c,dst E n s v ≠ none/\zem E s c v/\zFm (dst E n s v)=wt c/\c.length < n/\-40000000000≤wt c/\wt c≤40000000000:=by
 cases h:dst E n s v with
 | none=>exact .inl ⟨rfl,rfl⟩
 | some x =>
  obtain⟨c,h1,h2,h3⟩:=zyu hE hn hs h
  have:=zsW hE h1
  have:=hE.n40
  rw[h] at h2
  exact .inr ⟨c,(by intro h;cases h),h1,h2,h3,by omega,by omega⟩
end Go.Pm
namespace Go.Pm
def zns (E : List Ed) : Nat → zb2 → Bool
  | 0,_=>true
  | k+1,d=>cond (E.foldl rlF (d,false)).2 (zns E k (rnd E d)) false
theorem zrK {E:List Ed}{k:Nat} : ∀ {m:Nat}{d:zb2},Fix E (rds E k d)->k < m->zns E m d=false:=by
 induction k with
 | zero =>
  intro m d h hm
  obtain⟨m,rfl⟩:∃ m',m=m'+1:=⟨m - 1,by omega⟩
  show cond (E.foldl rlF (d,false)).2 _ _=false
  rw[zjk (show ∀ e∈E,Sat d e from h)];rfl
 | succ k ih =>
  intro m d h hm
  obtain⟨m,rfl⟩:∃ m',m=m'+1:=⟨m - 1,by omega⟩
  show cond (E.foldl rlF (d,false)).2 (zns E m (rnd E d)) false=false
  rw[ih (m:=m) (d:=rnd E d) h (by omega)]
  cases (E.foldl rlF (d,false)).2 <;> rfl
theorem zAt {E:List Ed}{m:Nat} : ∀ {d:zb2},zns E m d=false->∃ k,Fix E (rds E k d):=by
 induction m with
 | zero=>intro d h;cases h
 | succ m ih =>
  intro d h
  have h':cond (E.foldl rlF (d,false)).2 (zns E m (rnd E d)) false=false:=h
  cases hc:(E.foldl rlF (d,false)).2
  ·exact⟨0,ziA hc⟩
  ·rw [hc] at h'
   obtain⟨k,hk⟩:=ih h'
   exact⟨k+1,hk⟩
def zyP (n:Nat):zb2:=λ v=>if v < n then some 0 else none
theorem ztM (n:Nat):Start (λ v=>v < n) (zyP n) :=
 ⟨λ v x h=>(by
  unfold zyP at h
  by_cases hv:v < n
  ·rw[dqP hv] at h;cases h;exact⟨hv,rfl⟩
  ·rw[dqG hv] at h;cases h),λ v h=>dqP h⟩
theorem zAu {E:List Ed}{n:Nat}(hE:EdOk E n):zns E n (zyP n)=false↔zbE E:=by
 constructor
 ·intro h
  obtain⟨k,hk⟩:=zAt h
  have hsome:∀ v,v < n->∃ x,rds E k (zyP n) v=some x:=λ v hv=>by
   obtain⟨x,hx,_⟩:=zsS E k (zyP n) v 0 (dqP hv)
   exact⟨x,hx⟩
  refine zoL (f:=λ v=>(rds E k (zyP n) v).getD 0) λ e he=>?_
  obtain⟨x,hx⟩:=hsome e.u (hE.lt e he).1
  obtain⟨y,hy,hxy⟩:=hk e he x hx
  show (rds E k (zyP n) e.v).getD 0≤(rds E k (zyP n) e.u).getD 0+e.w
  rw[hx,hy];exact hxy
 ·intro h
  have:=hE.n1
  exact zrK (zBD h hE.lt (λ a ha=>ha) (ztM n)) (by omega)
theorem zkL {c:List Ed}(h : ¬ (c.map Ed.v).Nodup):∃ c1 e c2 f c3,c=c1 ++ e :: (c2 ++ f :: c3)/\e.v=f.v:=by
 induction c with
 | nil=>exact absurd (by simp) h
 | cons e l ih =>
  by_cases hm:e.v∈l.map Ed.v
  ·obtain ⟨f, h1, h2⟩ := List.mem_map.1 hm
   obtain⟨c2,c3,h3⟩:=List.append_of_mem h1
   exact⟨[],e,c2,f,c3,by rw[h3];rfl,h2.symm⟩
  ·have : ¬ (l.map Ed.v).Nodup := fun hl => h (by rw [List.map_cons, List.nodup_cons]; exact ⟨hm, hl⟩)
   obtain⟨c1,e',c2,f,c3,h1,h2⟩:=ih this
   exact⟨e :: c1,e',c2,f,c3,by rw[h1];rfl,h2⟩
theorem ztN {E:List Ed}(m:Nat):∀ {a:Nat}{c:List Ed},c.length≤m->zem E a c a->wt c < 0->∃ b d,zem E b d b/\wt d < 0/\(d.map Ed.v).Nodup:=by
 induction m with
 | zero =>
  intro a c hl _ hw
  have:c=[]:=List.length_eq_zero_iff.1 (by omega)
  subst this
  exact absurd hw (by show ¬ (0:Int) < 0;omega)
 | succ m ih =>
  intro a c hl hc hw
  by_cases hn:(c.map Ed.v).Nodup
  ·exact⟨a,c,hc,hw,hn⟩
  ·obtain ⟨c1, e, c2, f, c3, rfl, hef⟩ := zkL hn
   obtain⟨p,h1,h2,h3,h4⟩:=zcx.1 hc
   obtain⟨q,h5,h6,h7,h8⟩:=zcx.1 h4
   simp only[List.length_append,List.length_cons] at hl
   have hcy:zem E e.v (c2 ++ [f]) e.v:=zcx.2 ⟨q,h5,h6,h7,hef.symm⟩
   have hre:zem E a (c1 ++ e :: c3) a:=zcx.2 ⟨p,h1,h2,h3,by rw[hef];exact h8⟩
   rw[zeu] at hw
   have hw':wt c1+(e.w+wt (c2 ++ f :: c3)) < 0:=hw
   rw[zeu] at hw'
   have hw'':wt c1+(e.w+(wt c2+(f.w+wt c3))) < 0:=hw'
   by_cases h:wt (c2 ++ [f]) < 0
   ·exact ih (by simp only[List.length_append,List.length_cons,List.length_nil];omega) hcy h
   ·refine ih (c := c1 ++ e :: c3) (by simp only [List.length_append, List.length_cons]; omega) hre ?_
    rw[zeu,zkG] at h
    rw[zeu]
    show wt c1+(e.w+wt c3) < 0
    omega
theorem exists_least {l:List Nat}(h:l ≠ []):∃ m∈l,∀ x∈l,m≤x:=by
 induction l with
 | nil=>exact absurd rfl h
 | cons a l ih =>
  by_cases hl:l=[]
  ·subst hl;exact⟨a,by simp,by simp⟩
  ·obtain ⟨m, h1, h2⟩ := ih hl
   by_cases hm:m≤a
   ·exact⟨m,List.mem_cons_of_mem _ h1,λ x hx=>by
     rcases List.mem_cons.1 hx with rfl | hx
     ·exact hm
     ·exact h2 x hx⟩
   ·exact⟨a,List.mem_cons_self ..,λ x hx=>by
     rcases List.mem_cons.1 hx with rfl | hx
     ·exact Nat.le_refl _
     ·have:=h2 x hx;omega⟩
theorem zyw {E:List Ed}{n:Nat}(hE:∀ e∈E,e.u < n/\e.v < n) (h : ¬ zbE E):∃ a c,a < n/\zem E a c a/\wt c < 0/\c.length≤n/\∀ e∈c,a≤e.u/\a≤e.v:=by
 obtain⟨a,h⟩:=Classical.not_forall.1 h
 obtain⟨c,h⟩:=Classical.not_forall.1 h
 obtain⟨hc,hw⟩:=Classical.not_imp.1 h
 obtain⟨b,d,h1,h2,h3⟩:=ztN c.length (Nat.le_refl _) hc (by omega)
 have hd:d ≠ []:=λ e=>by subst e;exact absurd h2 (by show ¬ (0:Int) < 0;omega)
 have hb:b < n:=by
  cases d with
  | nil=>exact absurd rfl hd
  | cons e l=>obtain⟨k1,k2,_⟩:=h1;have:=(hE e k1).1;omega
 have hlen:d.length≤n:=by
  have:=zkJ n h3 (λ x hx=>zjl hE hb h1 x (List.mem_cons_of_mem _ hx))
  rwa[List.length_map] at this
 obtain⟨m,m1,m2⟩:=exists_least (l:=nodes b d) (by simp[nodes])
 obtain⟨c1,c2,k1,k2,k3⟩:=zsU h1 m1
 have hcl:zem E m (c2 ++ c1) m:=zcx.2 ⟨b,k3,k2⟩
 refine⟨m,c2 ++ c1,zjl hE hb h1 m m1,hcl,?_,?_,?_⟩
 ·rw[k1,zeu] at h2;rw[zeu];omega
 ·rw[k1,List.length_append] at hlen;rw[List.length_append];omega
 ·have hu:∀ {c:List Ed} {a b:Nat},zem E a c b->∀ e∈c,e.u∈nodes a c/\e.v∈nodes a c:=by
   intro c
   induction c with
   | nil=>intro a b _ e he;cases he
   | cons f l ih =>
    rintro a b ⟨j1,j2,j3⟩ e he
    rcases List.mem_cons.1 he with rfl | hm
    ·exact⟨by rw[j2];exact List.mem_cons_self ..,by simp[nodes]⟩
    ·obtain ⟨i1, i2⟩ := ih j3 e hm
     have hsub:∀ x,x∈nodes f.v l->x∈nodes a (f :: l):=λ x hx=>List.mem_cons_of_mem _ (by simpa [nodes] using hx)
     exact⟨hsub _ i1,hsub _ i2⟩
  intro e he
  have he':e∈d:=by
   rw[k1]
   rcases List.mem_append.1 he with h | h
   ·exact List.mem_append.2 (.inr h)
   ·exact List.mem_append.2 (.inl h)
  obtain⟨i1,i2⟩:=hu h1 e he'
  exact⟨m2 _ i1,m2 _ i2⟩
end Go.Pm
namespace Go.Proofs
open Go Go.Pm
set_option maxRecDepth 100000
set_option linter.unusedVariables false
theorem zdc {n:Nat}{F:Tab}{k:Nat}(hk:k < n):tg n F k=F k:=by
 unfold tg zk4
 have h:(zm (zgP 0 n F))[k]? = some (.p (.int .i64 (F k))):=by
  rw[zm,List.getElem?_map,zfR n 0 F k hk,Nat.zero_add];rfl
 rw[h]
theorem zBG {n:Nat}{F:Tab}{k:Nat}{v:Int}{j:Nat}(hj:j < n):ts n F k [v] j=if j=k then v else F j:=by
 show (match Nat.beq j k with | true=>v | false=>tg n F j)=_
 by_cases h:j=k
 ·rw[dqP h,show Nat.beq j k=true from by rw[h];exact Nat.beq_refl _]
 ·rw[dqG h,show Nat.beq j k=false from Bool.eq_false_iff.2 λ e=>h (Nat.eq_of_beq_eq_true e)];exact zdc hj
theorem zce {n:Nat}{F:Tab}{k:Nat}{v w:Int}{j:Nat}(hj:j < n):ts n F k [v,w] j=if j=k+1 then w else if j=k then v else F j:=by
 show (match Nat.beq j (k+1) with | true=>w | false=>(match Nat.beq j k with | true=>v | false=>tg n F j))=_
 by_cases h:j=k+1
 ·rw[dqP h,show Nat.beq j (k+1)=true from by rw[h];exact Nat.beq_refl _]
 ·rw [dqG h, show Nat.beq j (k + 1) = false from Bool.eq_false_iff.2 fun e => h (Nat.eq_of_beq_eq_true e)]
  by_cases h':j=k
  ·rw[dqP h',show Nat.beq j k=true from by rw[h'];exact Nat.beq_refl _]
  ·rw[dqG h',show Nat.beq j k=false from Bool.eq_false_iff.2 λ e=>h' (Nat.eq_of_beq_eq_true e)];exact zdc hj
def fwS (t:Tie) (i:Nat):step:=⟨⟨(i:Int),false⟩,t.From,t.To,t.High⟩
def bwS (t:Tie) (i:Nat):step:=⟨⟨(i:Int),true⟩,t.To,t.From,w64 (0 - t.Low)⟩
def zFG (a:web) (i:Nat):Bool:=(zs7 (a.out.F [(i:Int)]) 0) != 0
def stK (a:web) (i:Nat):List step :=
 cond (zFG a i) [] ((cond ((a.Net.Ties.get i).High != (1000000000000:Int)) [fwS (a.Net.Ties.get i) i] []) ++ (cond ((a.Net.Ties.get i).Low != (-1000000000000:Int)) [bwS (a.Net.Ties.get i) i] []))
def stL (a : web) : Nat → Nat → List step
  | 0,_=>[]
  | m+1,i=>stK a i ++ stL a m (i+1)
theorem zkM (a:web) (hn:a.Net.Ties.len≤9223372036854775807):ztU a=true/\zkn a=stL a a.Net.Ties.len 0:=by
 have key:∀ (m k i:Nat),i+m=a.Net.Ties.len->m < k->zd5 a k (i:Int)=true/\zd4 a k (i:Int)=stL a m i:=by
  intro m
  induction m with
  | zero =>
   intro k i hi hk
   obtain⟨k,rfl⟩:∃ k',k=k'+1:=⟨k - 1,by omega⟩
   constructor
   ·show zeN a (zd5 a k) (i : Int) = true
    unfold zeN
    rw[dqF (show ¬ (i:Int) < (a.Net.Ties.len:Int) by omega),dqB]
   ·show zeM a (zd4 a k) (i : Int) = []
    unfold zeM
    rw[dqF (show ¬ (i:Int) < (a.Net.Ties.len:Int) by omega),dqB]
  | succ m ih =>
   intro k i hi hk
   obtain⟨k,rfl⟩:∃ k',k=k'+1:=⟨k - 1,by omega⟩
   obtain⟨h1,h2⟩:=ih k (i+1) (by omega) (by omega)
   constructor
   ·show zeN a (zd5 a k) (i : Int) = true
    unfold zeN
    rw[dqT (show (i:Int) < (a.Net.Ties.len:Int) by omega),dqA,dqT (show 0≤(i:Int)/\(i:Int) < (a.Net.Ties.len:Int) by omega),Bool.true_and,zea (n:=a.Net.Ties.len) (by omega) hn,h1]
    generalize (zs7 (a.out.F [(i:Int)]) 0 != 0)=b1
    generalize (s94 (⟨(a.Net.Ties.get ((i:Int)).toNat),(i:Int)⟩:tie)).2=b2
    generalize (s95 (⟨(a.Net.Ties.get ((i:Int)).toNat),(i:Int)⟩:tie)).2=b3
    cases b1 <;> cases b2 <;> cases b3 <;> rfl
   ·show zeM a (zd4 a k) (i : Int) = stK a i ++ stL a m (i + 1)
    unfold zeM
    rw[dqT (show (i:Int) < (a.Net.Ties.len:Int) by omega),dqA,dqN,zea (n:=a.Net.Ties.len) (by omega) hn,h2]
    unfold stK zFG s94 s95
    generalize (zs7 (a.out.F [(i:Int)]) 0 != 0)=b1
    show cond b1 _ (cond ((a.Net.Ties.get i).High != (1000000000000:Int)) (_ :: cond ((a.Net.Ties.get i).Low != (-1000000000000:Int)) (_ :: _) _) (cond ((a.Net.Ties.get i).Low != (-1000000000000:Int)) (_ :: _) _))=_
    generalize ((a.Net.Ties.get i).High != (1000000000000:Int))=b2
    generalize ((a.Net.Ties.get i).Low != (-1000000000000:Int))=b3
    cases b1 <;> cases b2 <;> cases b3 <;> rfl
 exact key a.Net.Ties.len Fuel 0 (by omega) (by simp only[Fuel];omega)
theorem zkN {a:web}{y:step} : ∀ {m i:Nat},y∈stL a m i↔∃ j,i≤j/\j < i+m/\y∈stK a j:=by
 intro m
 induction m with
 | zero=>intro i;exact⟨λ h=>(by cases h),λ ⟨j,h1,h2,_⟩=>(by omega)⟩
 | succ m ih =>
  intro i
  show y∈stK a i ++ stL a m (i+1)↔_
  rw[List.mem_append,ih]
  constructor
  ·rintro (h | ⟨j, h1, h2, h3⟩)
   ·exact⟨i,Nat.le_refl _,by omega,h⟩
   ·exact⟨j,by omega,by omega,h3⟩
  ·rintro ⟨j, h1, h2, h3⟩
   by_cases h:j=i
   ·subst h;exact .inl h3
   ·exact .inr ⟨j,by omega,by omega,h3⟩
theorem zkO {a:web}{y:step}{j:Nat} : y∈stK a j↔zFG a j=false/\(((a.Net.Ties.get j).High ≠ 1000000000000/\y=fwS (a.Net.Ties.get j) j)∨((a.Net.Ties.get j).Low ≠ -1000000000000/\y=bwS (a.Net.Ties.get j) j)):=by
 unfold stK
 cases h:zFG a j
 ·rw [dqB, List.mem_append]
  by_cases h1:(a.Net.Ties.get j).High=1000000000000
  ·rw [show ((a.Net.Ties.get j).High != (1000000000000:Int)) = false by rw [h1]; rfl, dqB]
   by_cases h2:(a.Net.Ties.get j).Low = -1000000000000
   ·rw [show ((a.Net.Ties.get j).Low != (-1000000000000:Int)) = false by rw [h2]; rfl, dqB]
    simp[h1,h2]
   ·rw [bne_iff_ne.2 h2, dqA]
    simp[h1,h2]
  ·rw [bne_iff_ne.2 h1, dqA]
   by_cases h2:(a.Net.Ties.get j).Low = -1000000000000
   ·rw [show ((a.Net.Ties.get j).Low != (-1000000000000:Int)) = false by rw [h2]; rfl, dqB]
    simp[h1,h2]
   ·rw [bne_iff_ne.2 h2, dqA]
    simp[h1,h2]
 ·rw[dqA];simp
theorem zFn (a:web):∀ m i,(stL a m i).length≤2 * m:=by
 intro m
 induction m with
 | zero=>intro i;exact Nat.le_refl _
 | succ m ih =>
  intro i
  show (stK a i ++ stL a m (i+1)).length≤_
  rw[List.length_append]
  have:=ih (i+1)
  have:(stK a i).length≤2:=by
   unfold stK
   cases zFG a i <;> cases ((a.Net.Ties.get i).High != (1000000000000:Int)) <;> cases ((a.Net.Ties.get i).Low != (-1000000000000:Int)) <;> simp
  omega
def edS (y:step):Ed:=⟨y.from_.toNat,y.to.toNat,y.length⟩
structure StOk (y : step) (N : Nat) : Prop where
  f0:0≤y.from_
  f1:y.from_ < N
  t0:0≤y.to
  t1:y.to < N
  l0 : -1000000000≤y.length
  l1:y.length≤1000000000
abbrev Ws (a:web):List step:=stL a a.Net.Ties.len 0
def We (a:web):List Ed:=(Ws a).map edS
theorem zsX {t:Tie}{N:Int}(h:TieOk t N) (h':t.Low ≠ -1000000000000):w64 (0 - t.Low) = -t.Low:=by
 have:=h.lo.resolve_left h'
 rw[zbr (by omega) (by omega)];omega
theorem zyx {a:web}(hn:NetOk a.Net){y:step}(hy:y∈Ws a):StOk y a.Net.Nodes.toNat:=by
 obtain⟨j,_,h2,h3⟩:=zkN.1 hy
 have h:=hn.tie j (by omega)
 have:=h.f0;have:=h.f1;have:=h.t0;have:=h.t1
 rcases (zkO.1 h3).2 with ⟨h4,rfl⟩ | ⟨h4,rfl⟩
 ·have := h.hi.resolve_left h4
  exact⟨h.f0,by show (a.Net.Ties.get j).From < _;omega,h.t0,by show (a.Net.Ties.get j).To < _;omega,this.1,this.2⟩
 ·have := h.lo.resolve_left h4
  have e:=zsX h h4
  exact⟨h.t0,by show (a.Net.Ties.get j).To < _;omega,h.f0,by show (a.Net.Ties.get j).From < _;omega,by show _≤w64 (0 - (a.Net.Ties.get j).Low);omega,by show w64 (0 - (a.Net.Ties.get j).Low)≤_;omega⟩
theorem zIe {a:web}(hn:NetOk a.Net):(Ws a).length≤400:=by
 have h1:=zFn a a.Net.Ties.len 0
 have h2:=hn.len
 show (stL a a.Net.Ties.len 0).length≤400
 omega
theorem zFo {a:web}(hn:NetOk a.Net):EdOk (We a) a.Net.Nodes.toNat:=by
 have:=hn.n1;have:=hn.n40
 refine⟨λ e he=>?_,λ e he=>?_,by omega,by omega⟩
 ·obtain ⟨y, hy, rfl⟩ := List.mem_map.1 he
  have h:=zyx hn hy
  have:=h.f0;have:=h.f1;have:=h.t0;have:=h.t1
  exact⟨by show y.from_.toNat < _;omega,by show y.to.toNat < _;omega⟩
 ·obtain ⟨y, hy, rfl⟩ := List.mem_map.1 he
  have h:=zyx hn hy
  exact⟨h.l0,h.l1⟩
theorem zyy {a:web}(hn:NetOk a.Net){e:Ed} : e∈We a↔∃ j,j < a.Net.Ties.len/\zFG a j=false/\(((a.Net.Ties.get j).High ≠ 1000000000000/\e=⟨(a.Net.Ties.get j).From.toNat,(a.Net.Ties.get j).To.toNat,(a.Net.Ties.get j).High⟩)∨((a.Net.Ties.get j).Low ≠ -1000000000000/\e=⟨(a.Net.Ties.get j).To.toNat,(a.Net.Ties.get j).From.toNat,-(a.Net.Ties.get j).Low⟩)):=by
 constructor
 ·intro he
  obtain⟨y,hy,rfl⟩:=List.mem_map.1 he
  obtain⟨j,_,h2,h3⟩:=zkN.1 hy
  obtain⟨h4,h5⟩:=zkO.1 h3
  refine⟨j,by omega,h4,?_⟩
  rcases h5 with ⟨h6,rfl⟩ | ⟨h6,rfl⟩
  ·exact .inl ⟨h6,rfl⟩
  ·refine .inr ⟨h6, ?_⟩
   rw[← zsX (hn.tie j (by omega)) h6];rfl
 ·rintro ⟨j, h1, h2, h3⟩
  rcases h3 with ⟨h6,rfl⟩ | ⟨h6,rfl⟩
  ·exact List.mem_map.2 ⟨fwS (a.Net.Ties.get j) j,zkN.2 ⟨j,by omega,by omega,zkO.2 ⟨h2,.inl ⟨h6,rfl⟩⟩⟩,rfl⟩
  ·exact List.mem_map.2 ⟨bwS (a.Net.Ties.get j) j,zkN.2 ⟨j,by omega,by omega,zkO.2 ⟨h2,.inr ⟨h6,rfl⟩⟩⟩,by rw[← zsX (hn.tie j h1) h6];rfl⟩
end Go.Proofs
namespace Go.Proofs
open Go Go.Pm
set_option maxRecDepth 100000
set_option linter.unusedVariables false
def Rt (N:Nat) (T:Tab) (d:zb2):Prop:=∀ v,v < N->d v=some (T v)
def Bd (B:Int) (T:Tab):Prop:=∀ v,v < 40->-B≤T v/\T v≤0
theorem zyz (a:web){N:Nat}(hN:N≤40) (S0:Int->Tab->Bool) (P0:Int->Tab->Bool):∀ (l:List step),(∀ y∈l,StOk y N)->∀ (t:Int) (c:Bool) (T:Tab) (d:zb2) (B:Int),Rt N T d->Bd B T->0≤B->B+l.length * 1000000000≤100000000000000000 ->
    ∃ T',zfj S0 a l t c T=zms S0 a t ((l.map edS).foldl rlF (d,c)).2 T'/\zfk P0 a l t c T=zmt P0 a t ((l.map edS).foldl rlF (d,c)).2 T'/\Rt N T' ((l.map edS).foldl rlF (d,c)).1/\Bd (B+l.length * 1000000000) T':=by
  intro l
  induction l with
  | nil=>intro _ t c T d B h1 h2 _ _;exact⟨T,rfl,rfl,h1,by simpa using h2⟩
  | cons y l ih =>
    intro hl t c T d B h1 h2 h3 h4
    have hy:=hl y (List.mem_cons_self ..)
    have hl':∀ y∈l,StOk y N:=λ z hz=>hl z (List.mem_cons_of_mem _ hz)
    rw[List.length_cons] at h4
    have f0:=hy.f0;have f1:=hy.f1;have t0:=hy.t0;have t1:=hy.t1;have l0:=hy.l0;have l1:=hy.l1
    have hf:=h1 y.from_.toNat (by omega)
    have ht:=h1 y.to.toNat (by omega)
    have bf:=h2 y.from_.toNat (by omega)
    have bt:=h2 y.to.toNat (by omega)
    have e1:0+y.from_.toNat * 1+0=y.from_.toNat:=by omega
    have e2:0+y.to.toNat * 1+0=y.to.toNat:=by omega
    have hr:rlF (d,c) (edS y)=cond (decide (T y.from_.toNat+y.length < T y.to.toNat)) (zkS d y.to.toNat (T y.from_.toNat+y.length),true) (d,c):=by
      unfold rlF edS
      simp only[hf,ht]
      rfl
    have hS:zfj S0 a (y :: l) t c T=cond (decide (T y.from_.toNat+y.length < T y.to.toNat)) (zfj S0 a l t true (ts 40 T y.to.toNat [T y.from_.toNat+y.length])) (zfj S0 a l t c T):=by
      show zmu S0 a y (zfj S0 a l) t c T=_
      generalize zfj S0 a l=S
      unfold zmu
      rw[e1,e2,zdc (by omega),zdc (by omega),zbr (by omega) (by omega)]
    have hP:zfk P0 a (y :: l) t c T=cond (decide (T y.from_.toNat+y.length < T y.to.toNat)) (zfk P0 a l t true (ts 40 T y.to.toNat [T y.from_.toNat+y.length])) (zfk P0 a l t c T):=by
      show zmv P0 a y (zfk P0 a l) t c T=_
      generalize zfk P0 a l=S
      unfold zmv
      rw[e1,e2,zdc (by omega),zdc (by omega),zbr (by omega) (by omega),dqT (show 0≤y.from_/\y.from_ < (40:Int) by omega),dqT (show 0≤y.to/\y.to < (40:Int) by omega)]
      cases decide (T y.from_.toNat+y.length < T y.to.toNat) <;> rfl
    show ∃ T',_=zms S0 a t ((l.map edS).foldl rlF (rlF (d,c) (edS y))).2 T'/\_=zmt P0 a t ((l.map edS).foldl rlF (rlF (d,c) (edS y))).2 T'/\Rt N T' ((l.map edS).foldl rlF (rlF (d,c) (edS y))).1/\_
    rw[hS,hP,hr]
    by_cases hlt:T y.from_.toNat+y.length < T y.to.toNat
    · rw [dqT hlt, dqA, dqA, dqA]
      obtain ⟨T', k1, k2, k3, k4⟩ := ih hl' t true (ts 40 T y.to.toNat [T y.from_.toNat + y.length]) (zkS d y.to.toNat (T y.from_.toNat + y.length)) (B + 1000000000)
        (λ v hv=>by
          rw[zBG (by omega)]
          unfold zkS
          by_cases h:v=y.to.toNat
          · rw[dqP h,dqP h]
          · rw[dqG h,dqG h];exact h1 v hv)
        (λ v hv=>by
          rw[zBG hv]
          by_cases h:v=y.to.toNat
          · rw[dqP h];omega
          · rw[dqG h];have:=h2 v hv;omega) (by omega) (by omega)
      refine⟨T',k1,k2,k3,?_⟩
      rw[List.length_cons,show B+((l.length+1:Nat):Int) * 1000000000=B+1000000000+(l.length:Int) * 1000000000 by omega]
      exact k4
    · rw [dqF hlt, dqB, dqB, dqB]
      obtain⟨T',k1,k2,k3,k4⟩:=ih hl' t c T d B h1 h2 h3 (by omega)
      refine⟨T',k1,k2,k3,λ v hv=>?_⟩
      have:=k4 v hv
      rw[List.length_cons]
      omega
theorem zrL (a:web) (hn:NetOk a.Net):∀ (m k i:Nat) (T:Tab) (d:zb2) (B:Int),Rt a.Net.Nodes.toNat T d->Bd B T->0≤B->B+m * 400000000000≤100000000000000000->(i:Int)+m=a.Net.Nodes->m < k ->
  zhK a k (i:Int) T=true/\zhJ a k (i:Int) T=zns (We a) m d:=by
 have hn1:=hn.n1;have hn40:=hn.n40;have hlen:=hn.len
 obtain⟨q1,q2⟩:=zkM a (by omega)
 intro m
 induction m with
 | zero =>
  intro k i T d B _ _ _ _ hi hk
  obtain⟨k,rfl⟩:∃ k',k=k'+1:=⟨k - 1,by omega⟩
  constructor
  ·show zhI a (zhK a k) (i : Int) T = true
   unfold zhI
   rw[dqF (show ¬ (i:Int) < a.Net.Nodes by omega),dqB]
  ·show zhH a (zhJ a k) (i : Int) T = true
   unfold zhH
   rw[dqF (show ¬ (i:Int) < a.Net.Nodes by omega),dqB]
 | succ m ih =>
  intro k i T d B h1 h2 h3 h4 hi hk
  obtain⟨k,rfl⟩:∃ k',k=k'+1:=⟨k - 1,by omega⟩
  have hwl:=zIe hn
  obtain⟨T',k1,k2,k3,k4⟩:=zyz a (N:=a.Net.Nodes.toNat) (by omega) (zhJ a k) (zhK a k) (Ws a) (λ y hy=>zyx hn hy) (i:Int) false T d B h1 h2 h3 (by omega)
  have hB:Bd (B+400000000000) T':=λ v hv=>by have:=k4 v hv;omega
  have hw:w64 ((i:Int)+(1:Int))=((i+1:Nat):Int):=by rw[zbr (by omega) (by omega)];omega
  obtain⟨r1,r2⟩:=ih k (i+1) T' (rnd (We a) d) (B+400000000000) k3 hB (by omega) (by omega) (by omega) (by omega)
  constructor
  ·show zhI a (zhK a k) (i : Int) T = true
   unfold zhI zpE
   rw[dqT (show (i:Int) < a.Net.Nodes by omega),dqA,q1,q2,k2]
   unfold zmt
   rw[hw,r1]
   cases ((Ws a).map edS |>.foldl rlF (d,false)).2 <;> rfl
  ·show zhH a (zhJ a k) (i : Int) T = cond ((We a).foldl rlF (d, false)).2 (zns (We a) m (rnd (We a) d)) false
   unfold zhH zpD
   rw[dqT (show (i:Int) < a.Net.Nodes by omega),dqA,q2,k1]
   unfold zms
   rw[hw,r2]
   show cond (!((We a).foldl rlF (d,false)).2) false _=_
   cases ((We a).foldl rlF (d,false)).2 <;> rfl
theorem zrM (a:web) (hn:NetOk a.Net):p88 a=true/\s88 a=zns (We a) a.Net.Nodes.toNat (zyP a.Net.Nodes.toNat):=by
 have hn1:=hn.n1;have hn40:=hn.n40
 have:=zrL a hn a.Net.Nodes.toNat Fuel 0 (λ _=>(0:Int)) (zyP a.Net.Nodes.toNat) 0 (λ v hv=>dqP hv) (λ v hv=>⟨by show -(0:Int)≤(0:Int);omega,Int.le_refl _⟩) (by omega) (by omega) (by omega) (by simp only[Fuel];omega)
 exact this
theorem zrN (a:web) (hn:NetOk a.Net):s88 a=false↔zbE (We a):=by
 rw[(zrM a hn).2];exact zAu (zFo hn)
end Go.Proofs
namespace Go.Proofs
open Go Go.Pm
set_option maxRecDepth 100000
set_option linter.unusedVariables false
theorem zgd (a b:far):zyL a ⟨1,λ _=>b⟩=true/\zct a ⟨1,λ _=>b⟩=cond (zzU b a) b a:=by
 unfold zyL zct zmz zmy
 have key:∀ k,zf0 (⟨1,λ _=>b⟩:Sl far) (k+2) (0:Int) a.length a.uses=true/\zfZ (⟨1,λ _=>b⟩:Sl far) (k+2) (0:Int) a.length a.uses=cond (zzU b a) b a:=by
  intro k
  have hw:w64 ((0:Int)+(1:Int))=(1:Int):=by rw[zbr (by omega) (by omega)];rfl
  have e1:∀ x y,zfZ (⟨1,λ _=>b⟩:Sl far) (k+1) (1:Int) x y=(⟨x,y⟩:far):=λ x y=>by
   show zfX (⟨1,λ _=>b⟩:Sl far) (zfZ (⟨1,λ _=>b⟩:Sl far) k) (1:Int) x y=_
   unfold zfX
   rw[dqF (show ¬ (1:Int) < ((1:Nat):Int) by omega),dqB]
  have e2:∀ x y,zf0 (⟨1,λ _=>b⟩:Sl far) (k+1) (1:Int) x y=true:=λ x y=>by
   show zfY (⟨1,λ _=>b⟩:Sl far) (zf0 (⟨1,λ _=>b⟩:Sl far) k) (1:Int) x y=_
   unfold zfY
   rw[dqF (show ¬ (1:Int) < ((1:Nat):Int) by omega),dqB]
  constructor
  ·show zfY (⟨1, fun _ => b⟩ : Sl far) (zf0 (⟨1, fun _ => b⟩ : Sl far) (k + 1)) (0:Int) a.length a.uses = _
   unfold zfY zmx
   rw[dqT (show (0:Int) < ((1:Nat):Int) by omega),dqA,dqT (show 0≤(0:Int)/\(0:Int) < ((1:Nat):Int) by omega),Bool.true_and,hw,e2,e2]
   cases zzU b (⟨a.length,a.uses⟩:far) <;> rfl
  ·show zfX (⟨1, fun _ => b⟩ : Sl far) (zfZ (⟨1, fun _ => b⟩ : Sl far) (k + 1)) (0:Int) a.length a.uses = _
   unfold zfX zmw
   rw[dqT (show (0:Int) < ((1:Nat):Int) by omega),dqA,hw,e1,e1]
 have:=key (Fuel - 2)
 rw[show Fuel - 2+2=Fuel by simp only[Fuel]] at this
 exact this
theorem zrO (a b:far):zzU a b=decide (a.length < b.length∨(a.length=b.length/\a.uses < b.uses)):=by
 unfold zzU
 by_cases h1:a.length < b.length
 ·rw[dqT h1,dqA];exact (dqT (.inl h1)).symm
 ·rw [dqF h1, dqB]
  by_cases h2:a.length=b.length
  ·rw [show (a.length == b.length) = true from beq_iff_eq.2 h2, dqA]
   exact decide_eq_decide.2 ⟨λ h=>.inr ⟨h2,h⟩,λ h=>h.elim (λ h=>absurd h h1) (λ h=>h.2)⟩
  ·rw [show (a.length == b.length) = false from beq_eq_false_iff_ne.2 h2, dqB]
   exact (dqF (λ h=>h.elim h1 (λ h=>h2 h.1))).symm
def Rp (N:Nat) (T:Tab) (d:zb2):Prop:=∀ v,v < N->(T (v * 2),T (v * 2+1))=zIO (d v)
def nv (x y:Int):Bool:=match (x == (1000000000000:Int)) with | true=>(match (y == (0:Int)) with | true=>true | false=>false) | false=>false
def sm (x y u v:Int):Bool:=match (x == u) with | true=>(match (y == v) with | true=>true | false=>false) | false=>false
theorem znt (x y:Int):nv x y=decide ((x,y)=((1000000000000:Int),(0:Int))):=by
 unfold nv
 by_cases h1:x=1000000000000
 ·rw [show (x == (1000000000000:Int)) = true from beq_iff_eq.2 h1]
  by_cases h2:y=0
  ·rw[show (y == (0:Int))=true from beq_iff_eq.2 h2];exact (dqT (by rw[h1,h2])).symm
  ·rw[show (y == (0:Int))=false from beq_eq_false_iff_ne.2 h2];exact (dqF (λ h=>h2 (Prod.mk.inj h).2)).symm
 ·rw [show (x == (1000000000000:Int)) = false from beq_eq_false_iff_ne.2 h1]
  exact (dqF (λ h=>h1 (Prod.mk.inj h).1)).symm
theorem same_eq (x y u v:Int):sm x y u v=decide ((x,y)=(u,v)):=by
 unfold sm
 by_cases h1:x=u
 ·rw [show (x == u) = true from beq_iff_eq.2 h1]
  by_cases h2:y=v
  ·rw[show (y == v)=true from beq_iff_eq.2 h2];exact (dqT (by rw[h1,h2])).symm
  ·rw[show (y == v)=false from beq_eq_false_iff_ne.2 h2];exact (dqF (λ h=>h2 (Prod.mk.inj h).2)).symm
 ·rw [show (x == u) = false from beq_eq_false_iff_ne.2 h1]
  exact (dqF (λ h=>h1 (Prod.mk.inj h).1)).symm
theorem zjm {E : List Ed} {n s v : Nat} (hE : EdOk E n) (hs : s < n) {d : zb2} (hd : Inv (E.map edM) (fun v => v = s) d) {x : Int} (hx : d v = some x) :
  ∃ L U,zIO (d v)=(L,U)/\x=L * 1048576+U/\0≤U/\U < 40/\-40000000000≤L/\L≤40000000000:=by
 obtain⟨c,hc⟩:=zBF hE hs hd hx
 have h1:=zsW hE hc.ch
 have h2:=hc.len
 have h3:=hE.n40
 refine⟨wt c,c.length,?_,hc.x,by omega,by omega,by omega,by omega⟩
 rw[hx,hc.x]
 exact zrI (by omega) (by omega)
end Go.Proofs
namespace Go.Proofs
open Go Go.Pm
set_option maxRecDepth 100000
set_option linter.unusedVariables false
theorem zIf (a : web) {N s : Nat} (E : List Ed) (hE : EdOk E N) (hn : zbE E) (hs : s < N) (S2 : Bool → Tab → Tab → Tab) (P2 : Bool → Tab → Tab → Bool) (y : step) (hy : StOk y N) (hm : edS y ∈ E) (S3 : Bool → Tab → Tab → Tab) (P3 : Bool → Tab → Tab → Bool) (c : Bool) (T4 T : Tab) (d : zb2) (h1 : Rp N T d) (hi : Inv (E.map edM) (fun v => v = s) d) :
  ∃ T',zmI S2 a y S3 c T4 T=S3 (rlF (d,c) (edM (edS y))).2 T4 T'/\zmJ P2 a y P3 c T4 T=P3 (rlF (d,c) (edM (edS y))).2 T4 T'/\Rp N T' (rlF (d,c) (edM (edS y))).1:=by
 have hN:=hE.n40
 have f0:=hy.f0;have f1:=hy.f1;have t0:=hy.t0;have t1:=hy.t1;have l0:=hy.l0;have l1:=hy.l1
 have hu:=h1 y.from_.toNat (by omega)
 have hv:=h1 y.to.toNat (by omega)
 have e1:0+y.from_.toNat * 2+0=y.from_.toNat * 2:=by omega
 have e2:0+y.to.toNat * 2+0=y.to.toNat * 2:=by omega
 have e3:0+y.from_.toNat * 2+1=y.from_.toNat * 2+1:=by omega
 have hin:=zkK (Src:=λ v=>v=s) (zfO hn) (s:=(d,c)) (e:=edM (edS y)) (List.mem_map_of_mem hm) hi
 have hS:zmI S2 a y S3 c T4 T=cond (nv (tg 80 T (0+y.from_.toNat * 2+0)) (tg 80 T (0+y.from_.toNat * 2+0+1))) (S3 c T4 T) (cond c (S3 true T4 (ts 80 T (0+y.to.toNat * 2+0) [(zct (⟨(tg 80 T (0+y.to.toNat * 2+0)),(tg 80 T (0+y.to.toNat * 2+0+1))⟩:far) (⟨1,λ _=>(⟨(w64 ((tg 80 T (0+y.from_.toNat * 2+0))+y.length)),(w64 ((tg 80 T (0+y.from_.toNat * 2+1))+(1:Int)))⟩:far)⟩:(Sl far))).length,(zct (⟨(tg 80 T (0+y.to.toNat * 2+0)),(tg 80 T (0+y.to.toNat * 2+0+1))⟩:far) (⟨1,λ _=>(⟨(w64 ((tg 80 T (0+y.from_.toNat * 2+0))+y.length)),(w64 ((tg 80 T (0+y.from_.toNat * 2+1))+(1:Int)))⟩:far)⟩:(Sl far))).uses])) (S3 (!(sm (zct (⟨(tg 80 T (0+y.to.toNat * 2+0)),(tg 80 T (0+y.to.toNat * 2+0+1))⟩:far) (⟨1,λ _=>(⟨(w64 ((tg 80 T (0+y.from_.toNat * 2+0))+y.length)),(w64 ((tg 80 T (0+y.from_.toNat * 2+1))+(1:Int)))⟩:far)⟩:(Sl far))).length (zct (⟨(tg 80 T (0+y.to.toNat * 2+0)),(tg 80 T (0+y.to.toNat * 2+0+1))⟩:far) (⟨1,λ _=>(⟨(w64 ((tg 80 T (0+y.from_.toNat * 2+0))+y.length)),(w64 ((tg 80 T (0+y.from_.toNat * 2+1))+(1:Int)))⟩:far)⟩:(Sl far))).uses (tg 80 T (0+y.to.toNat * 2+0)) (tg 80 T (0+y.to.toNat * 2+0+1)))) T4 (ts 80 T (0+y.to.toNat * 2+0) [(zct (⟨(tg 80 T (0+y.to.toNat * 2+0)),(tg 80 T (0+y.to.toNat * 2+0+1))⟩:far) (⟨1,λ _=>(⟨(w64 ((tg 80 T (0+y.from_.toNat * 2+0))+y.length)),(w64 ((tg 80 T (0+y.from_.toNat * 2+1))+(1:Int)))⟩:far)⟩:(Sl far))).length,(zct (⟨(tg 80 T (0+y.to.toNat * 2+0)),(tg 80 T (0+y.to.toNat * 2+0+1))⟩:far) (⟨1,λ _=>(⟨(w64 ((tg 80 T (0+y.from_.toNat * 2+0))+y.length)),(w64 ((tg 80 T (0+y.from_.toNat * 2+1))+(1:Int)))⟩:far)⟩:(Sl far))).uses]))):=rfl
 have hP:zmJ P2 a y P3 c T4 T=(decide (0≤y.from_/\y.from_ < (40:Int)) && cond (nv (tg 80 T (0+y.from_.toNat * 2+0)) (tg 80 T (0+y.from_.toNat * 2+0+1))) (P3 c T4 T) (decide (0≤y.to/\y.to < (40:Int)) && (decide (0≤y.from_/\y.from_ < (40:Int)) && (decide (0≤y.from_/\y.from_ < (40:Int)) && (decide (zyL (⟨(tg 80 T (0+y.to.toNat * 2+0)),(tg 80 T (0+y.to.toNat * 2+0+1))⟩:far) (⟨1,λ _=>(⟨(w64 ((tg 80 T (0+y.from_.toNat * 2+0))+y.length)),(w64 ((tg 80 T (0+y.from_.toNat * 2+1))+(1:Int)))⟩:far)⟩:(Sl far))=true) && cond c (decide (0≤y.to/\y.to < (40:Int)) && P3 true T4 (ts 80 T (0+y.to.toNat * 2+0) [(zct (⟨(tg 80 T (0+y.to.toNat * 2+0)),(tg 80 T (0+y.to.toNat * 2+0+1))⟩:far) (⟨1,λ _=>(⟨(w64 ((tg 80 T (0+y.from_.toNat * 2+0))+y.length)),(w64 ((tg 80 T (0+y.from_.toNat * 2+1))+(1:Int)))⟩:far)⟩:(Sl far))).length,(zct (⟨(tg 80 T (0+y.to.toNat * 2+0)),(tg 80 T (0+y.to.toNat * 2+0+1))⟩:far) (⟨1,λ _=>(⟨(w64 ((tg 80 T (0+y.from_.toNat * 2+0))+y.length)),(w64 ((tg 80 T (0+y.from_.toNat * 2+1))+(1:Int)))⟩:far)⟩:(Sl far))).uses])) (decide (0≤y.to/\y.to < (40:Int)) && (decide (0≤y.to/\y.to < (40:Int)) && P3 (!(sm (zct (⟨(tg 80 T (0+y.to.toNat * 2+0)),(tg 80 T (0+y.to.toNat * 2+0+1))⟩:far) (⟨1,λ _=>(⟨(w64 ((tg 80 T (0+y.from_.toNat * 2+0))+y.length)),(w64 ((tg 80 T (0+y.from_.toNat * 2+1))+(1:Int)))⟩:far)⟩:(Sl far))).length (zct (⟨(tg 80 T (0+y.to.toNat * 2+0)),(tg 80 T (0+y.to.toNat * 2+0+1))⟩:far) (⟨1,λ _=>(⟨(w64 ((tg 80 T (0+y.from_.toNat * 2+0))+y.length)),(w64 ((tg 80 T (0+y.from_.toNat * 2+1))+(1:Int)))⟩:far)⟩:(Sl far))).uses (tg 80 T (0+y.to.toNat * 2+0)) (tg 80 T (0+y.to.toNat * 2+0+1)))) T4 (ts 80 T (0+y.to.toNat * 2+0) [(zct (⟨(tg 80 T (0+y.to.toNat * 2+0)),(tg 80 T (0+y.to.toNat * 2+0+1))⟩:far) (⟨1,λ _=>(⟨(w64 ((tg 80 T (0+y.from_.toNat * 2+0))+y.length)),(w64 ((tg 80 T (0+y.from_.toNat * 2+1))+(1:Int)))⟩:far)⟩:(Sl far))).length,(zct (⟨(tg 80 T (0+y.to.toNat * 2+0)),(tg 80 T (0+y.to.toNat * 2+0+1))⟩:far) (⟨1,λ _=>(⟨(w64 ((tg 80 T (0+y.from_.toNat * 2+0))+y.length)),(w64 ((tg 80 T (0+y.from_.toNat * 2+1))+(1:Int)))⟩:far)⟩:(Sl far))).uses])))))))):=rfl
 rw[hS,hP]
 clear hS hP
 rw[e1,e2,e3,zdc (k:=y.from_.toNat * 2) (by omega),zdc (k:=y.from_.toNat * 2+1) (by omega),zdc (k:=y.to.toNat * 2) (by omega),zdc (k:=y.to.toNat * 2+1) (by omega)]
 rw[dqT (show 0≤y.from_/\y.from_ < (40:Int) by omega),dqT (show 0≤y.to/\y.to < (40:Int) by omega)]
 simp only[znt,same_eq]
 cases hdu:d y.from_.toNat with
 | none =>
  rw[hdu] at hu
  have hr:rlF (d,c) (edM (edS y))=(d,c):=by
   unfold rlF edM edS
   simp only[hdu]
  rw[hr,dqT (show (T (y.from_.toNat * 2),T (y.from_.toNat * 2+1))=((1000000000000:Int),(0:Int)) from hu)]
  exact⟨T,rfl,rfl,h1⟩
 | some x =>
  obtain⟨L,U,k1,k2,k3,k4,k5,k6⟩:=zjm hE hs hi hdu
  rw[hdu] at hu k1
  rw[k1] at hu
  have hL:T (y.from_.toNat * 2)=L:=(Prod.mk.inj hu).1
  have hU:T (y.from_.toNat * 2+1)=U:=(Prod.mk.inj hu).2
  rw[hL,hU,dqF (show ¬ (L,U)=((1000000000000:Int),(0:Int)) from λ h=>by have:=(Prod.mk.inj h).1;omega),zbr (x:=L+y.length) (by omega) (by omega),zbr (x:=U+(1:Int)) (by omega) (by omega)]
  rw[(zgd _ _).1,(zgd _ _).2,zrO]
  have hw:x+(edM (edS y)).w=(L+y.length) * 1048576+(U+1):=by
   show x+(y.length * 1048576+1)=_
   omega
  have hr:rlF (d,c) (edM (edS y))=cond (ltO ((L+y.length) * 1048576+(U+1)) (d y.to.toNat)) (zkS d y.to.toNat ((L+y.length) * 1048576+(U+1)),true) (d,c):=by
   rw[← hw]
   unfold rlF edM edS
   simp only[hdu] <;> rfl
  have hlt:decide ((L+y.length < T (y.to.toNat * 2))∨(L+y.length=T (y.to.toNat * 2)/\U+1 < T (y.to.toNat * 2+1)))=ltO ((L+y.length) * 1048576+(U+1)) (d y.to.toNat):=by
   cases hdv:d y.to.toNat with
   | none =>
    rw[hdv] at hv
    have hv1:T (y.to.toNat * 2)=1000000000000:=(Prod.mk.inj hv).1
    rw[hv1]
    exact dqT (.inl (by omega))
   | some z =>
    obtain⟨L',U',m1,m2,m3,m4,m5,m6⟩:=zjm hE hs hi hdv
    rw[hdv] at hv m1
    rw[m1] at hv
    rw[(Prod.mk.inj hv).1,(Prod.mk.inj hv).2,m2]
    exact decide_eq_decide.2 (by omega)
  simp only[hlt]
  rw[hr] at hin ⊢
  have hrw:∀ T'',Rp N T d->T''=ts 80 T (y.to.toNat * 2) [T (y.to.toNat * 2),T (y.to.toNat * 2+1)]->Rp N T'' d:=λ T'' h e v hv'=>by
   rw[e,zce (by omega),zce (by omega),← h v hv']
   by_cases hq:v=y.to.toNat
   ·subst hq
    rw[dqG (by omega),dqP rfl,dqP rfl]
   ·rw[dqG (by omega),dqG (by omega),dqG (by omega),dqG (by omega)]
  cases hlo:ltO ((L+y.length) * 1048576+(U+1)) (d y.to.toNat) with
  | false =>
   refine⟨ts 80 T (y.to.toNat * 2) [T (y.to.toNat * 2),T (y.to.toNat * 2+1)],?_,?_,hrw _ h1 rfl⟩
   ·simp only [dqB, decide_true]
    cases c <;> rfl
   ·simp only [dqB, Bool.true_and, decide_true]
    cases c <;> rfl
  | true =>
   rw[hlo] at hin
   simp only[dqA,dqB,Bool.true_and,decide_true] at hin ⊢
   refine⟨ts 80 T (y.to.toNat * 2) [L+y.length,U+1],?_,?_,?_⟩
   ·cases c
    ·rw [dqF]
     ·rfl
     ·intro h
      rw[← hlt] at hlo
      have:=of_decide_eq_true hlo
      have h1':=(Prod.mk.inj h).1
      have h2':=(Prod.mk.inj h).2
      omega
    ·rfl
   ·cases c
    ·rw [dqF]
     ·rfl
     ·intro h
      rw[← hlt] at hlo
      have:=of_decide_eq_true hlo
      have h1':=(Prod.mk.inj h).1
      have h2':=(Prod.mk.inj h).2
      omega
    ·rfl
   ·intro v hv'
    rw[zce (by omega),zce (by omega)]
    unfold zkS
    by_cases hq:v=y.to.toNat
    ·subst hq
     rw[dqG (by omega),dqP rfl,dqP rfl,dqP rfl]
     exact (zrI (by omega) (by omega)).symm
    ·rw [dqG (by omega), dqG (by omega), dqG (by omega), dqG (by omega), dqG hq]
     exact h1 v hv'
theorem zIg (a:web){N s:Nat}(E:List Ed) (hE:EdOk E N) (hn:zbE E) (hs:s < N) (S2:Bool->Tab->Tab->Tab) (P2:Bool->Tab->Tab->Bool):∀ (l:List step),(∀ y∈l,StOk y N/\edS y∈E)->∀ (c:Bool) (T4 T:Tab) (d:zb2),Rp N T d->Inv (E.map edM) (λ v=>v=s) d ->
  ∃ T',zmK S2 a l c T4 T=S2 (((l.map edS).map edM).foldl rlF (d,c)).2 T4 T'/\zmL P2 a l c T4 T=P2 (((l.map edS).map edM).foldl rlF (d,c)).2 T4 T'/\Rp N T' (((l.map edS).map edM).foldl rlF (d,c)).1:=by
 intro l
 induction l with
 | nil=>intro _ c T4 T d h1 _;exact⟨T,rfl,rfl,h1⟩
 | cons y l ih =>
  intro hl c T4 T d h1 h2
  obtain⟨hy,hm⟩:=hl y (List.mem_cons_self ..)
  obtain⟨T',k1,k2,k3⟩:=zIf a E hE hn hs S2 P2 y hy hm (zmK S2 a l) (zmL P2 a l) c T4 T d h1 h2
  have h3:=zkK (Src:=λ v=>v=s) (zfO hn) (s:=(d,c)) (e:=edM (edS y)) (List.mem_map_of_mem hm) h2
  obtain⟨T'',m1,m2,m3⟩:=ih (λ z hz=>hl z (List.mem_cons_of_mem _ hz)) (rlF (d,c) (edM (edS y))).2 T4 T' (rlF (d,c) (edM (edS y))).1 k3 h3
  exact⟨T'',Eq.trans k1 m1,Eq.trans k2 m2,m3⟩
theorem zAv (a:web) (hnet:NetOk a.Net) (E:List Ed) (hEe:E=(Ws a).map edS){s:Nat}(hE:EdOk E a.Net.Nodes.toNat) (hn:zbE E) (hs:s < a.Net.Nodes.toNat):∀ (m k:Nat) (T4 T:Tab) (d:zb2),Rp a.Net.Nodes.toNat T d->Inv (E.map edM) (λ v=>v=s) d->Fix (E.map edM) (rds (E.map edM) m d)->m+1 < k ->
  ∃ T',zfp a k true T4 T=true/\zfo a k true T4 T=T'/\Rp a.Net.Nodes.toNat T' (rds (E.map edM) m d):=by
 have hlen:=hnet.len
 obtain⟨q1,q2⟩:=zkM a (by omega)
 have hst:∀ y∈Ws a,StOk y a.Net.Nodes.toNat/\edS y∈E:=λ y hy=>⟨zyx hnet hy,by rw[hEe];exact List.mem_map_of_mem hy⟩
 have one:∀ (k:Nat) (T4 T:Tab) (d:zb2),Rp a.Net.Nodes.toNat T d->Inv (E.map edM) (λ v=>v=s) d ->
   ∃ T',zfo a (k+1) true T4 T=zfo a k ((E.map edM).foldl rlF (d,false)).2 T4 T'/\zfp a (k+1) true T4 T=zfp a k ((E.map edM).foldl rlF (d,false)).2 T4 T'/\Rp a.Net.Nodes.toNat T' (rnd (E.map edM) d):=by
  intro k T4 T d h1 h2
  obtain⟨T',k1,k2,k3⟩:=zIg a E hE hn hs (zfo a k) (zfp a k) (Ws a) hst false T4 T d h1 h2
  rw[← hEe] at k1 k2 k3
  refine⟨T',?_,?_,k3⟩
  ·show zmM a (zfo a k) true T4 T = _
   unfold zmM zpZ
   rw[dqA,q2];exact k1
  ·show zmN a (zfp a k) true T4 T = _
   unfold zmN zp0
   rw[dqA,q1,q2,dqT rfl,Bool.true_and];exact k2
 have stop:∀ (k:Nat) (T4 T:Tab),zfo a (k+1) false T4 T=T/\zfp a (k+1) false T4 T=true:=λ k T4 T=>⟨rfl,rfl⟩
 intro m
 induction m with
 | zero =>
  intro k T4 T d h1 h2 h3 hk
  obtain⟨k,rfl⟩:∃ k',k=k'+1+1:=⟨k - 2,by omega⟩
  obtain⟨T',k1,k2,k3⟩:=one (k+1) T4 T d h1 h2
  have h3':Fix (E.map edM) d:=h3
  rw[zjk h3'] at k1 k2
  rw[zkI h3'] at k3
  obtain⟨j1,j2⟩:=stop k T4 T'
  exact⟨T',k2.trans j2,k1.trans j1,k3⟩
 | succ m ih =>
  intro k T4 T d h1 h2 h3 hk
  obtain⟨k,rfl⟩:∃ k',k=k'+1+1:=⟨k - 2,by omega⟩
  obtain⟨T',k1,k2,k3⟩:=one (k+1) T4 T d h1 h2
  cases hf:((E.map edM).foldl rlF (d,false)).2 with
  | false =>
   rw[hf] at k1 k2
   have hx:Fix (E.map edM) d:=ziA hf
   obtain⟨j1,j2⟩:=stop k T4 T'
   refine⟨T',k2.trans j2,k1.trans j1,?_⟩
   rw[zkI hx] at k3
   rw[zyr hx];exact k3
  | true =>
   rw[hf] at k1 k2
   obtain⟨T'',m1,m2,m3⟩:=ih (k+1) T4 T' (rnd (E.map edM) d) k3 (znq (zfO hn) (λ _ h=>h) (s:=(d,false)) h2) h3 (by omega)
   exact⟨T'',k2.trans m1,k1.trans m2,m3⟩
theorem zFp (a:web) (node:Int):∀ (m k i:Nat) (T4 T:Tab),(∀ v,v < i->T (v * 2)=1000000000000/\T (v * 2+1)=0)->i+m=40->m < k ->
  ∃ T',zhW a node k (i:Int) T4 T=zmO a node T4 T'/\zhX a node k (i:Int) T4 T=zmP a node T4 T'/\∀ v,v < 40->T' (v * 2)=1000000000000/\T' (v * 2+1)=0:=by
 intro m
 induction m with
 | zero =>
  intro k i T4 T h hi hk
  obtain⟨k,rfl⟩:∃ k',k=k'+1:=⟨k - 1,by omega⟩
  refine⟨T,?_,?_,λ v hv=>h v (by omega)⟩
  ·show zhU a node (zhW a node k) (i : Int) T4 T = _
   unfold zhU
   rw[dqF (show ¬ (i:Int) < (40:Int) by omega),dqB]
  ·show zhV a node (zhX a node k) (i : Int) T4 T = _
   unfold zhV
   rw[dqF (show ¬ (i:Int) < (40:Int) by omega),dqB]
 | succ m ih =>
  intro k i T4 T h hi hk
  obtain⟨k,rfl⟩:∃ k',k=k'+1:=⟨k - 1,by omega⟩
  have hw:w64 ((i:Int)+(1:Int))=((i+1:Nat):Int):=by rw[zbr (by omega) (by omega)];omega
  obtain⟨T',k1,k2,k3⟩:=ih k (i+1) T4 (ts 80 T (i * 2) [(1000000000000:Int),(0:Int)]) (λ v hv=>by
   rw[zce (by omega),zce (by omega)]
   by_cases hq:v=i
   ·subst hq
    rw[dqG (by omega),dqP rfl,dqP rfl];exact⟨rfl,rfl⟩
   ·rw[dqG (by omega),dqG (by omega),dqG (by omega),dqG (by omega)];exact h v (by omega)) (by omega) (by omega)
  refine⟨T',?_,?_,k3⟩
  ·rw [← k1]
   show zhU a node (zhW a node k) (i:Int) T4 T=_
   unfold zhU
   rw[dqT (show (i:Int) < (40:Int) by omega),dqA,hw,dqN,show 0+i * 2+0=i * 2 by omega]
  ·rw [← k2]
   show zhV a node (zhX a node k) (i:Int) T4 T=_
   unfold zhV
   rw[dqT (show (i:Int) < (40:Int) by omega),dqA,dqT (show 0≤(i:Int)/\(i:Int) < (40:Int) by omega),Bool.true_and,hw,dqN,show 0+i * 2+0=i * 2 by omega]
theorem zIh (a : web) (hnet : NetOk a.Net) (hn : zbE (We a)) (node : Int) (h0 : 0 ≤ node) (h1 : node < a.Net.Nodes) :
  p76 a node=true/\Rp a.Net.Nodes.toNat (s76 a node) (dst (We a) a.Net.Nodes.toNat node.toNat):=by
 have hn40:=hnet.n40
 have hEe:We a=(Ws a).map edS:=rfl
 have hE:EdOk (We a) a.Net.Nodes.toNat:=zFo hnet
 have hN:zbE (We a):=hn
 have hs:node.toNat < a.Net.Nodes.toNat:=by omega
 obtain⟨T1,a1,a2,a3⟩:=zFp a node 40 Fuel 0 (λ _=>(0:Int)) (λ _=>(0:Int)) (λ v hv=>absurd hv (Nat.not_lt_zero _)) rfl (by simp only[Fuel];omega)
 have hr:Rp a.Net.Nodes.toNat (ts 80 T1 (node.toNat * 2) [(0:Int),(0:Int)]) (zoR node.toNat):=λ v hv=>by
  rw[zce (by omega),zce (by omega)]
  unfold zoR
  by_cases hq:v=node.toNat
  ·subst hq
   rw[dqG (by omega),dqP rfl,dqP rfl,dqP rfl];rfl
  ·rw[dqG (by omega),dqG (by omega),dqG (by omega),dqG (by omega),dqG hq,(a3 v (by omega)).1,(a3 v (by omega)).2];rfl
 obtain⟨T2,b1,b2,b3⟩:=zAv a hnet (We a) hEe hE hN hs (a.Net.Nodes.toNat - 1) Fuel (λ _=>(0:Int)) (ts 80 T1 (node.toNat * 2) [(0:Int),(0:Int)]) (zoR node.toNat) hr (zho (zgc node.toNat)) (zrJ hE hN hs) (by simp only[Fuel];omega)
 have e:0+node.toNat * 2+0=node.toNat * 2:=by omega
 constructor
 ·show zhX a node Fuel 0 (fun _ => (0:Int)) (fun _ => (0:Int)) = true
  refine Eq.trans a2 ?_
  unfold zmP zp2
  rw[dqT (show 0≤node/\node < (40:Int) by omega),Bool.true_and,e];exact b1
 ·have:s76 a node=T2:=by
   show zhW a node Fuel 0 (λ _=>(0:Int)) (λ _=>(0:Int))=T2
   refine Eq.trans a1 ?_
   unfold zmO zp1
   rw[e];exact b2
  rw[this];exact b3
end Go.Proofs
namespace Go.Proofs
open Go Go.Pm
set_option maxRecDepth 100000
set_option linter.unusedVariables false
def edQ (y:step):Ed:=⟨y.to.toNat,y.from_.toNat,y.length⟩
theorem zFq (l:List step):l.map edQ=(l.map edS).map edR:=by rw[List.map_map];rfl

theorem zIi (a : web) {N s : Nat} (E : List Ed) (hE : EdOk E N) (hn : zbE E) (hs : s < N) (S2 : Bool → Tab → Tab → Tab) (P2 : Bool → Tab → Tab → Bool) (y : step) (hy : StOk y N) (hm : edQ y ∈ E) (S3 : Bool → Tab → Tab → Tab) (P3 : Bool → Tab → Tab → Bool) (c : Bool) (T4 T : Tab) (d : zb2) (h1 : Rp N T d) (hi : Inv (E.map edM) (fun v => v = s) d) :
  ∃ T',zmA S2 a y S3 c T4 T=S3 (rlF (d,c) (edM (edQ y))).2 T4 T'/\zmB P2 a y P3 c T4 T=P3 (rlF (d,c) (edM (edQ y))).2 T4 T'/\Rp N T' (rlF (d,c) (edM (edQ y))).1:=by
 have hN:=hE.n40
 have f0:=hy.f0;have f1:=hy.f1;have t0:=hy.t0;have t1:=hy.t1;have l0:=hy.l0;have l1:=hy.l1
 have hu:=h1 y.to.toNat (by omega)
 have hv:=h1 y.from_.toNat (by omega)
 have e1:0+y.to.toNat * 2+0=y.to.toNat * 2:=by omega
 have e2:0+y.from_.toNat * 2+0=y.from_.toNat * 2:=by omega
 have e3:0+y.to.toNat * 2+1=y.to.toNat * 2+1:=by omega
 have hin:=zkK (Src:=λ v=>v=s) (zfO hn) (s:=(d,c)) (e:=edM (edQ y)) (List.mem_map_of_mem hm) hi
 have hS:zmA S2 a y S3 c T4 T=cond (nv (tg 80 T (0+y.to.toNat * 2+0)) (tg 80 T (0+y.to.toNat * 2+0+1))) (S3 c T4 T) (cond c (S3 true T4 (ts 80 T (0+y.from_.toNat * 2+0) [(zct (⟨(tg 80 T (0+y.from_.toNat * 2+0)),(tg 80 T (0+y.from_.toNat * 2+0+1))⟩:far) (⟨1,λ _=>(⟨(w64 ((tg 80 T (0+y.to.toNat * 2+0))+y.length)),(w64 ((tg 80 T (0+y.to.toNat * 2+1))+(1:Int)))⟩:far)⟩:(Sl far))).length,(zct (⟨(tg 80 T (0+y.from_.toNat * 2+0)),(tg 80 T (0+y.from_.toNat * 2+0+1))⟩:far) (⟨1,λ _=>(⟨(w64 ((tg 80 T (0+y.to.toNat * 2+0))+y.length)),(w64 ((tg 80 T (0+y.to.toNat * 2+1))+(1:Int)))⟩:far)⟩:(Sl far))).uses])) (S3 (!(sm (zct (⟨(tg 80 T (0+y.from_.toNat * 2+0)),(tg 80 T (0+y.from_.toNat * 2+0+1))⟩:far) (⟨1,λ _=>(⟨(w64 ((tg 80 T (0+y.to.toNat * 2+0))+y.length)),(w64 ((tg 80 T (0+y.to.toNat * 2+1))+(1:Int)))⟩:far)⟩:(Sl far))).length (zct (⟨(tg 80 T (0+y.from_.toNat * 2+0)),(tg 80 T (0+y.from_.toNat * 2+0+1))⟩:far) (⟨1,λ _=>(⟨(w64 ((tg 80 T (0+y.to.toNat * 2+0))+y.length)),(w64 ((tg 80 T (0+y.to.toNat * 2+1))+(1:Int)))⟩:far)⟩:(Sl far))).uses (tg 80 T (0+y.from_.toNat * 2+0)) (tg 80 T (0+y.from_.toNat * 2+0+1)))) T4 (ts 80 T (0+y.from_.toNat * 2+0) [(zct (⟨(tg 80 T (0+y.from_.toNat * 2+0)),(tg 80 T (0+y.from_.toNat * 2+0+1))⟩:far) (⟨1,λ _=>(⟨(w64 ((tg 80 T (0+y.to.toNat * 2+0))+y.length)),(w64 ((tg 80 T (0+y.to.toNat * 2+1))+(1:Int)))⟩:far)⟩:(Sl far))).length,(zct (⟨(tg 80 T (0+y.from_.toNat * 2+0)),(tg 80 T (0+y.from_.toNat * 2+0+1))⟩:far) (⟨1,λ _=>(⟨(w64 ((tg 80 T (0+y.to.toNat * 2+0))+y.length)),(w64 ((tg 80 T (0+y.to.toNat * 2+1))+(1:Int)))⟩:far)⟩:(Sl far))).uses]))):=rfl
 have hP:zmB P2 a y P3 c T4 T=(decide (0≤y.to/\y.to < (40:Int)) && cond (nv (tg 80 T (0+y.to.toNat * 2+0)) (tg 80 T (0+y.to.toNat * 2+0+1))) (P3 c T4 T) (decide (0≤y.from_/\y.from_ < (40:Int)) && (decide (0≤y.to/\y.to < (40:Int)) && (decide (0≤y.to/\y.to < (40:Int)) && (decide (zyL (⟨(tg 80 T (0+y.from_.toNat * 2+0)),(tg 80 T (0+y.from_.toNat * 2+0+1))⟩:far) (⟨1,λ _=>(⟨(w64 ((tg 80 T (0+y.to.toNat * 2+0))+y.length)),(w64 ((tg 80 T (0+y.to.toNat * 2+1))+(1:Int)))⟩:far)⟩:(Sl far))=true) && cond c (decide (0≤y.from_/\y.from_ < (40:Int)) && P3 true T4 (ts 80 T (0+y.from_.toNat * 2+0) [(zct (⟨(tg 80 T (0+y.from_.toNat * 2+0)),(tg 80 T (0+y.from_.toNat * 2+0+1))⟩:far) (⟨1,λ _=>(⟨(w64 ((tg 80 T (0+y.to.toNat * 2+0))+y.length)),(w64 ((tg 80 T (0+y.to.toNat * 2+1))+(1:Int)))⟩:far)⟩:(Sl far))).length,(zct (⟨(tg 80 T (0+y.from_.toNat * 2+0)),(tg 80 T (0+y.from_.toNat * 2+0+1))⟩:far) (⟨1,λ _=>(⟨(w64 ((tg 80 T (0+y.to.toNat * 2+0))+y.length)),(w64 ((tg 80 T (0+y.to.toNat * 2+1))+(1:Int)))⟩:far)⟩:(Sl far))).uses])) (decide (0≤y.from_/\y.from_ < (40:Int)) && (decide (0≤y.from_/\y.from_ < (40:Int)) && P3 (!(sm (zct (⟨(tg 80 T (0+y.from_.toNat * 2+0)),(tg 80 T (0+y.from_.toNat * 2+0+1))⟩:far) (⟨1,λ _=>(⟨(w64 ((tg 80 T (0+y.to.toNat * 2+0))+y.length)),(w64 ((tg 80 T (0+y.to.toNat * 2+1))+(1:Int)))⟩:far)⟩:(Sl far))).length (zct (⟨(tg 80 T (0+y.from_.toNat * 2+0)),(tg 80 T (0+y.from_.toNat * 2+0+1))⟩:far) (⟨1,λ _=>(⟨(w64 ((tg 80 T (0+y.to.toNat * 2+0))+y.length)),(w64 ((tg 80 T (0+y.to.toNat * 2+1))+(1:Int)))⟩:far)⟩:(Sl far))).uses (tg 80 T (0+y.from_.toNat * 2+0)) (tg 80 T (0+y.from_.toNat * 2+0+1)))) T4 (ts 80 T (0+y.from_.toNat * 2+0) [(zct (⟨(tg 80 T (0+y.from_.toNat * 2+0)),(tg 80 T (0+y.from_.toNat * 2+0+1))⟩:far) (⟨1,λ _=>(⟨(w64 ((tg 80 T (0+y.to.toNat * 2+0))+y.length)),(w64 ((tg 80 T (0+y.to.toNat * 2+1))+(1:Int)))⟩:far)⟩:(Sl far))).length,(zct (⟨(tg 80 T (0+y.from_.toNat * 2+0)),(tg 80 T (0+y.from_.toNat * 2+0+1))⟩:far) (⟨1,λ _=>(⟨(w64 ((tg 80 T (0+y.to.toNat * 2+0))+y.length)),(w64 ((tg 80 T (0+y.to.toNat * 2+1))+(1:Int)))⟩:far)⟩:(Sl far))).uses])))))))):=rfl
 rw[hS,hP]
 clear hS hP
 rw[e1,e2,e3,zdc (k:=y.to.toNat * 2) (by omega),zdc (k:=y.to.toNat * 2+1) (by omega),zdc (k:=y.from_.toNat * 2) (by omega),zdc (k:=y.from_.toNat * 2+1) (by omega)]
 rw[dqT (show 0≤y.to/\y.to < (40:Int) by omega),dqT (show 0≤y.from_/\y.from_ < (40:Int) by omega)]
 simp only[znt,same_eq]
 cases hdu:d y.to.toNat with
 | none =>
  rw[hdu] at hu
  have hr:rlF (d,c) (edM (edQ y))=(d,c):=by
   unfold rlF edM edQ
   simp only[hdu]
  rw[hr,dqT (show (T (y.to.toNat * 2),T (y.to.toNat * 2+1))=((1000000000000:Int),(0:Int)) from hu)]
  exact⟨T,rfl,rfl,h1⟩
 | some x =>
  obtain⟨L,U,k1,k2,k3,k4,k5,k6⟩:=zjm hE hs hi hdu
  rw[hdu] at hu k1
  rw[k1] at hu
  have hL:T (y.to.toNat * 2)=L:=(Prod.mk.inj hu).1
  have hU:T (y.to.toNat * 2+1)=U:=(Prod.mk.inj hu).2
  rw[hL,hU,dqF (show ¬ (L,U)=((1000000000000:Int),(0:Int)) from λ h=>by have:=(Prod.mk.inj h).1;omega),zbr (x:=L+y.length) (by omega) (by omega),zbr (x:=U+(1:Int)) (by omega) (by omega)]
  rw[(zgd _ _).1,(zgd _ _).2,zrO]
  have hw:x+(edM (edQ y)).w=(L+y.length) * 1048576+(U+1):=by
   show x+(y.length * 1048576+1)=_
   omega
  have hr:rlF (d,c) (edM (edQ y))=cond (ltO ((L+y.length) * 1048576+(U+1)) (d y.from_.toNat)) (zkS d y.from_.toNat ((L+y.length) * 1048576+(U+1)),true) (d,c):=by
   rw[← hw]
   unfold rlF edM edQ
   simp only[hdu] <;> rfl
  have hlt:decide ((L+y.length < T (y.from_.toNat * 2))∨(L+y.length=T (y.from_.toNat * 2)/\U+1 < T (y.from_.toNat * 2+1)))=ltO ((L+y.length) * 1048576+(U+1)) (d y.from_.toNat):=by
   cases hdv:d y.from_.toNat with
   | none =>
    rw[hdv] at hv
    have hv1:T (y.from_.toNat * 2)=1000000000000:=(Prod.mk.inj hv).1
    rw[hv1]
    exact dqT (.inl (by omega))
   | some z =>
    obtain⟨L',U',m1,m2,m3,m4,m5,m6⟩:=zjm hE hs hi hdv
    rw[hdv] at hv m1
    rw[m1] at hv
    rw[(Prod.mk.inj hv).1,(Prod.mk.inj hv).2,m2]
    exact decide_eq_decide.2 (by omega)
  simp only[hlt]
  rw[hr] at hin ⊢
  have hrw:∀ T'',Rp N T d->T''=ts 80 T (y.from_.toNat * 2) [T (y.from_.toNat * 2),T (y.from_.toNat * 2+1)]->Rp N T'' d:=λ T'' h e v hv'=>by
   rw[e,zce (by omega),zce (by omega),← h v hv']
   by_cases hq:v=y.from_.toNat
   ·subst hq
    rw[dqG (by omega),dqP rfl,dqP rfl]
   ·rw[dqG (by omega),dqG (by omega),dqG (by omega),dqG (by omega)]
  cases hlo:ltO ((L+y.length) * 1048576+(U+1)) (d y.from_.toNat) with
  | false =>
   refine⟨ts 80 T (y.from_.toNat * 2) [T (y.from_.toNat * 2),T (y.from_.toNat * 2+1)],?_,?_,hrw _ h1 rfl⟩
   ·simp only [dqB, decide_true]
    cases c <;> rfl
   ·simp only [dqB, Bool.true_and, decide_true]
    cases c <;> rfl
  | true =>
   rw[hlo] at hin
   simp only[dqA,dqB,Bool.true_and,decide_true] at hin ⊢
   refine⟨ts 80 T (y.from_.toNat * 2) [L+y.length,U+1],?_,?_,?_⟩
   ·cases c
    ·rw [dqF]
     ·rfl
     ·intro h
      rw[← hlt] at hlo
      have:=of_decide_eq_true hlo
      have h1':=(Prod.mk.inj h).1
      have h2':=(Prod.mk.inj h).2
      omega
    ·rfl
   ·cases c
    ·rw [dqF]
     ·rfl
     ·intro h
      rw[← hlt] at hlo
      have:=of_decide_eq_true hlo
      have h1':=(Prod.mk.inj h).1
      have h2':=(Prod.mk.inj h).2
      omega
    ·rfl
   ·intro v hv'
    rw[zce (by omega),zce (by omega)]
    unfold zkS
    by_cases hq:v=y.from_.toNat
    ·subst hq
     rw[dqG (by omega),dqP rfl,dqP rfl,dqP rfl]
     exact (zrI (by omega) (by omega)).symm
    ·rw [dqG (by omega), dqG (by omega), dqG (by omega), dqG (by omega), dqG hq]
     exact h1 v hv'
theorem zIj (a:web){N s:Nat}(E:List Ed) (hE:EdOk E N) (hn:zbE E) (hs:s < N) (S2:Bool->Tab->Tab->Tab) (P2:Bool->Tab->Tab->Bool):∀ (l:List step),(∀ y∈l,StOk y N/\edQ y∈E)->∀ (c:Bool) (T4 T:Tab) (d:zb2),Rp N T d->Inv (E.map edM) (λ v=>v=s) d ->
  ∃ T',zmC S2 a l c T4 T=S2 (((l.map edQ).map edM).foldl rlF (d,c)).2 T4 T'/\zmD P2 a l c T4 T=P2 (((l.map edQ).map edM).foldl rlF (d,c)).2 T4 T'/\Rp N T' (((l.map edQ).map edM).foldl rlF (d,c)).1:=by
 intro l
 induction l with
 | nil=>intro _ c T4 T d h1 _;exact⟨T,rfl,rfl,h1⟩
 | cons y l ih =>
  intro hl c T4 T d h1 h2
  obtain⟨hy,hm⟩:=hl y (List.mem_cons_self ..)
  obtain⟨T',k1,k2,k3⟩:=zIi a E hE hn hs S2 P2 y hy hm (zmC S2 a l) (zmD P2 a l) c T4 T d h1 h2
  have h3:=zkK (Src:=λ v=>v=s) (zfO hn) (s:=(d,c)) (e:=edM (edQ y)) (List.mem_map_of_mem hm) h2
  obtain⟨T'',m1,m2,m3⟩:=ih (λ z hz=>hl z (List.mem_cons_of_mem _ hz)) (rlF (d,c) (edM (edQ y))).2 T4 T' (rlF (d,c) (edM (edQ y))).1 k3 h3
  exact⟨T'',Eq.trans k1 m1,Eq.trans k2 m2,m3⟩
theorem zAw (a:web) (hnet:NetOk a.Net) (E:List Ed) (hEe:E=(Ws a).map edQ){s:Nat}(hE:EdOk E a.Net.Nodes.toNat) (hn:zbE E) (hs:s < a.Net.Nodes.toNat):∀ (m k:Nat) (T4 T:Tab) (d:zb2),Rp a.Net.Nodes.toNat T d->Inv (E.map edM) (λ v=>v=s) d->Fix (E.map edM) (rds (E.map edM) m d)->m+1 < k ->
  ∃ T',zfn a k true T4 T=true/\zfm a k true T4 T=T'/\Rp a.Net.Nodes.toNat T' (rds (E.map edM) m d):=by
 have hlen:=hnet.len
 obtain⟨q1,q2⟩:=zkM a (by omega)
 have hst:∀ y∈Ws a,StOk y a.Net.Nodes.toNat/\edQ y∈E:=λ y hy=>⟨zyx hnet hy,by rw[hEe];exact List.mem_map_of_mem hy⟩
 have one:∀ (k:Nat) (T4 T:Tab) (d:zb2),Rp a.Net.Nodes.toNat T d->Inv (E.map edM) (λ v=>v=s) d ->
   ∃ T',zfm a (k+1) true T4 T=zfm a k ((E.map edM).foldl rlF (d,false)).2 T4 T'/\zfn a (k+1) true T4 T=zfn a k ((E.map edM).foldl rlF (d,false)).2 T4 T'/\Rp a.Net.Nodes.toNat T' (rnd (E.map edM) d):=by
  intro k T4 T d h1 h2
  obtain⟨T',k1,k2,k3⟩:=zIj a E hE hn hs (zfm a k) (zfn a k) (Ws a) hst false T4 T d h1 h2
  rw[← hEe] at k1 k2 k3
  refine⟨T',?_,?_,k3⟩
  ·show zmE a (zfm a k) true T4 T = _
   unfold zmE zpV
   rw[dqA,q2];exact k1
  ·show zmF a (zfn a k) true T4 T = _
   unfold zmF zpW
   rw[dqA,q1,q2,dqT rfl,Bool.true_and];exact k2
 have stop:∀ (k:Nat) (T4 T:Tab),zfm a (k+1) false T4 T=T/\zfn a (k+1) false T4 T=true:=λ k T4 T=>⟨rfl,rfl⟩
 intro m
 induction m with
 | zero =>
  intro k T4 T d h1 h2 h3 hk
  obtain⟨k,rfl⟩:∃ k',k=k'+1+1:=⟨k - 2,by omega⟩
  obtain⟨T',k1,k2,k3⟩:=one (k+1) T4 T d h1 h2
  have h3':Fix (E.map edM) d:=h3
  rw[zjk h3'] at k1 k2
  rw[zkI h3'] at k3
  obtain⟨j1,j2⟩:=stop k T4 T'
  exact⟨T',k2.trans j2,k1.trans j1,k3⟩
 | succ m ih =>
  intro k T4 T d h1 h2 h3 hk
  obtain⟨k,rfl⟩:∃ k',k=k'+1+1:=⟨k - 2,by omega⟩
  obtain⟨T',k1,k2,k3⟩:=one (k+1) T4 T d h1 h2
  cases hf:((E.map edM).foldl rlF (d,false)).2 with
  | false =>
   rw[hf] at k1 k2
   have hx:Fix (E.map edM) d:=ziA hf
   obtain⟨j1,j2⟩:=stop k T4 T'
   refine⟨T',k2.trans j2,k1.trans j1,?_⟩
   rw[zkI hx] at k3
   rw[zyr hx];exact k3
  | true =>
   rw[hf] at k1 k2
   obtain⟨T'',m1,m2,m3⟩:=ih (k+1) T4 T' (rnd (E.map edM) d) k3 (znq (zfO hn) (λ _ h=>h) (s:=(d,false)) h2) h3 (by omega)
   exact⟨T'',k2.trans m1,k1.trans m2,m3⟩
theorem zFr (a:web) (node:Int):∀ (m k i:Nat) (T4 T:Tab),(∀ v,v < i->T (v * 2)=1000000000000/\T (v * 2+1)=0)->i+m=40->m < k ->
  ∃ T',zhS a node k (i:Int) T4 T=zmG a node T4 T'/\zhT a node k (i:Int) T4 T=zmH a node T4 T'/\∀ v,v < 40->T' (v * 2)=1000000000000/\T' (v * 2+1)=0:=by
 intro m
 induction m with
 | zero =>
  intro k i T4 T h hi hk
  obtain⟨k,rfl⟩:∃ k',k=k'+1:=⟨k - 1,by omega⟩
  refine⟨T,?_,?_,λ v hv=>h v (by omega)⟩
  ·show zhQ a node (zhS a node k) (i : Int) T4 T = _
   unfold zhQ
   rw[dqF (show ¬ (i:Int) < (40:Int) by omega),dqB]
  ·show zhR a node (zhT a node k) (i : Int) T4 T = _
   unfold zhR
   rw[dqF (show ¬ (i:Int) < (40:Int) by omega),dqB]
 | succ m ih =>
  intro k i T4 T h hi hk
  obtain⟨k,rfl⟩:∃ k',k=k'+1:=⟨k - 1,by omega⟩
  have hw:w64 ((i:Int)+(1:Int))=((i+1:Nat):Int):=by rw[zbr (by omega) (by omega)];omega
  obtain⟨T',k1,k2,k3⟩:=ih k (i+1) T4 (ts 80 T (i * 2) [(1000000000000:Int),(0:Int)]) (λ v hv=>by
   rw[zce (by omega),zce (by omega)]
   by_cases hq:v=i
   ·subst hq
    rw[dqG (by omega),dqP rfl,dqP rfl];exact⟨rfl,rfl⟩
   ·rw[dqG (by omega),dqG (by omega),dqG (by omega),dqG (by omega)];exact h v (by omega)) (by omega) (by omega)
  refine⟨T',?_,?_,k3⟩
  ·rw [← k1]
   show zhQ a node (zhS a node k) (i:Int) T4 T=_
   unfold zhQ
   rw[dqT (show (i:Int) < (40:Int) by omega),dqA,hw,dqN,show 0+i * 2+0=i * 2 by omega]
  ·rw [← k2]
   show zhR a node (zhT a node k) (i:Int) T4 T=_
   unfold zhR
   rw[dqT (show (i:Int) < (40:Int) by omega),dqA,dqT (show 0≤(i:Int)/\(i:Int) < (40:Int) by omega),Bool.true_and,hw,dqN,show 0+i * 2+0=i * 2 by omega]
theorem zIk (a : web) (hnet : NetOk a.Net) (hn : zbE (We a)) (node : Int) (h0 : 0 ≤ node) (h1 : node < a.Net.Nodes) :
  p75 a node=true/\Rp a.Net.Nodes.toNat (s75 a node) (dst ((We a).map edR) a.Net.Nodes.toNat node.toNat):=by
 have hn40:=hnet.n40
 have hEe:((We a).map edR)=(Ws a).map edQ:=(zFq (Ws a)).symm
 have hE:EdOk ((We a).map edR) a.Net.Nodes.toNat:=(zFo hnet).R
 have hN:zbE ((We a).map edR):=znr hn
 have hs:node.toNat < a.Net.Nodes.toNat:=by omega
 obtain⟨T1,a1,a2,a3⟩:=zFr a node 40 Fuel 0 (λ _=>(0:Int)) (λ _=>(0:Int)) (λ v hv=>absurd hv (Nat.not_lt_zero _)) rfl (by simp only[Fuel];omega)
 have hr:Rp a.Net.Nodes.toNat (ts 80 T1 (node.toNat * 2) [(0:Int),(0:Int)]) (zoR node.toNat):=λ v hv=>by
  rw[zce (by omega),zce (by omega)]
  unfold zoR
  by_cases hq:v=node.toNat
  ·subst hq
   rw[dqG (by omega),dqP rfl,dqP rfl,dqP rfl];rfl
  ·rw[dqG (by omega),dqG (by omega),dqG (by omega),dqG (by omega),dqG hq,(a3 v (by omega)).1,(a3 v (by omega)).2];rfl
 obtain⟨T2,b1,b2,b3⟩:=zAw a hnet ((We a).map edR) hEe hE hN hs (a.Net.Nodes.toNat - 1) Fuel (λ _=>(0:Int)) (ts 80 T1 (node.toNat * 2) [(0:Int),(0:Int)]) (zoR node.toNat) hr (zho (zgc node.toNat)) (zrJ hE hN hs) (by simp only[Fuel];omega)
 have e:0+node.toNat * 2+0=node.toNat * 2:=by omega
 constructor
 ·show zhT a node Fuel 0 (fun _ => (0:Int)) (fun _ => (0:Int)) = true
  refine Eq.trans a2 ?_
  unfold zmH zpY
  rw[dqT (show 0≤node/\node < (40:Int) by omega),Bool.true_and,e];exact b1
 ·have:s75 a node=T2:=by
   show zhS a node Fuel 0 (λ _=>(0:Int)) (λ _=>(0:Int))=T2
   refine Eq.trans a1 ?_
   unfold zmG zpX
   rw[e];exact b2
  rw[this];exact b3
end Go.Proofs
namespace Go.Proofs
open Go Go.Pm
set_option maxRecDepth 100000
set_option linter.unusedVariables false
attribute [local irreducible] Go.Pm.vcFun Go.Pm.vc Go.Pm.vcIter
section
variable {K:List PA->Prop}{n:Net}{zaa:Int}{to:Int}
end
end Go.Proofs
namespace Go.Proofs
open Go Go.Pm
set_option maxRecDepth 100000
set_option linter.unusedVariables false
def W (n:Net):web:=⟨n,⟨0,λ _=>none⟩⟩
abbrev En (n:Net):List Ed:=We (W n)
def fr (n:Net) (i j:Nat):Int:=zFm (dst (En n) n.Nodes.toNat i j)
theorem zIl {E:List Ed}{n s v:Nat}(hE:EdOk E n) (hn:zbE E) (hs:s < n) (hv:v < n):zFm (dst (E.map edR) n s v)=zFm (dst E n v s):=by
 refine Int.le_antisymm ?_ ?_
 ·rcases zev (v := s) hE hn hv with ⟨_, h⟩ | ⟨c, _, h1, h2, _⟩
  ·rw [h]
   rcases zev (v:=v) hE.R (znr hn) hs with ⟨_,h⟩ | ⟨c,_,_,h2,_,_,_⟩ <;> omega
  ·rw[h2,← zKP c];exact zyv hE.R (znr hn) hs (zKQ h1)
 ·rcases zev (v := v) hE.R (znr hn) hs with ⟨_, h⟩ | ⟨c, _, h1, h2, _⟩
  ·rw [h]
   rcases zev (v:=s) hE hn hv with ⟨_,h⟩ | ⟨c,_,_,h2,_,_,_⟩ <;> omega
  ·obtain ⟨c0, k1, k2, _⟩ := zFj h1
   rw[h2,← k2];exact zyv hE hn hv k1
theorem zsY {n:Net}(hn:NetOk n) (hN:zbE (En n)) {i j:Nat}(hi:i < n.Nodes.toNat) : -1000000000000≤fr n i j/\fr n i j≤1000000000000:=by
 have hE:EdOk (En n) n.Nodes.toNat:=zFo (a:=W n) hn
 unfold fr
 rcases zev (v:=j) hE hN hi with ⟨_,h⟩ | ⟨c,_,_,h2,_,h3,h4⟩
 ·rw[h];omega
 ·rw[h2];omega
theorem zsZ (n:Net) (nodes:Sl Int) (hl:nodes.len≤1000) (ht:n.Ties.len≤210):p74 n nodes=true /\
    (s67 n=false->s74 n nodes=(default,2)) /\
    (NetOk n->(¬ ∀ i,i < nodes.len->0≤nodes.get i/\nodes.get i < n.Nodes)->s74 n nodes=(default,2)) /\
    (NetOk n->(∀ i,i < nodes.len->0≤nodes.get i/\nodes.get i < n.Nodes)->¬ zbE (En n)->s74 n nodes=(default,5)) /\
    (NetOk n->(∀ i,i < nodes.len->0≤nodes.get i/\nodes.get i < n.Nodes)->zbE (En n)->s74 n nodes=(W n,0)):=by
  obtain⟨a1,a2⟩:=zyl n (by omega)
  unfold p74 s74
  rw[a1,dqT (show true=true from rfl),Bool.true_and]
  by_cases hs:s67 n=true
  · have hn := a2.1 hs
    have hn1:=hn.n1;have hn40:=hn.n40
    obtain⟨t1,_⟩:=zrM (W n) hn
    rw[hs]
    have hg:∀ i,i < nodes.len->(s81 (nodes.get i) (0:Int) (w64 (n.Nodes - (1:Int)))=true↔0≤nodes.get i/\nodes.get i < n.Nodes):=λ i _=>by
      rw[zkF,decide_eq_true_eq,zbr (by omega) (by omega)];omega
    have hloop := zFd (good := fun i => s81 (nodes.get i) (0:Int) (w64 (n.Nodes - (1:Int)))) (bad := ((default : web), (2:Int))) (fin := zpI n (s88 (W n))) (zFe := true) (n := nodes.len) (lpS := zhN n nodes) (lpP := zhO n nodes)
      (λ k i hi=>by
        show zhL n nodes (zhN n nodes k) (i:Int)=_
        generalize zhN n nodes k=S
        unfold zhL zpJ
        rw[dqT (show (i:Int) < (nodes.len:Int) by omega),dqA,dqN]
        cases s81 (nodes.get i) (0:Int) (w64 (n.Nodes - (1:Int))) <;> rfl)
      (λ k=>by
        show zhL n nodes (zhN n nodes k) (nodes.len:Int)=_
        unfold zhL
        rw[dqF (show ¬ (nodes.len:Int) < (nodes.len:Int) by omega),dqB];rfl)
      (λ k i hi=>by
        show zhM n nodes (zhO n nodes k) (i:Int)=_
        generalize zhO n nodes k=S
        unfold zhM zpK
        rw[dqT (show (i:Int) < (nodes.len:Int) by omega),dqA,dqN,dqT (show 0≤(i:Int)/\(i:Int) < (nodes.len:Int) by omega),Bool.true_and]
        cases s81 (nodes.get i) (0:Int) (w64 (n.Nodes - (1:Int))) <;> rfl)
      (λ k=>by
        show zhM n nodes (zhO n nodes k) (nodes.len:Int)=_
        unfold zhM
        rw[dqF (show ¬ (nodes.len:Int) < (nodes.len:Int) by omega),dqB,show p88 (⟨n,(⟨0,(λ _=>none)⟩:Mp)⟩:web)=true from t1];rfl)
      (by omega)
    unfold zpQ zpP zpO zpN zpM zpL
    by_cases hr:∀ i,i < nodes.len->0≤nodes.get i/\nodes.get i < n.Nodes
    · obtain ⟨l1, l2⟩ := hloop.1 (fun i hi => (hg i hi).2 (hr i hi))
      rw[l1,l2]
      refine⟨rfl,λ h=>(by cases h),λ _ h=>absurd hr h,λ _ _ h=>?_,λ _ _ h=>?_⟩
      · have:s88 (W n)=true:=by
          cases ht:s88 (W n)
          · exact absurd ((zrN (W n) hn).1 ht) h
          · rfl
        rw[this];rfl
      · rw[(zrN (W n) hn).2 h];rfl
    · obtain ⟨l1, l2⟩ := hloop.2 (fun h => hr fun i hi => (hg i hi).1 (h i hi))
      rw[l1,l2]
      exact⟨rfl,λ h=>(by cases h),λ _ _=>rfl,λ _ h=>absurd h hr,λ _ h=>absurd h hr⟩
  · rw [Bool.eq_false_iff.2 hs]
    have hno:NetOk n->False:=λ h=>hs (a2.2 h)
    exact⟨rfl,λ _=>rfl,λ h=>(hno h).elim,λ h=>(hno h).elim,λ h=>(hno h).elim⟩
theorem zrP {n:Net}(ht:n.Ties.len≤210) (hn:NetOk n) (h : ¬ zbE (En n)):p26 n=true/\s26 n=((⟨0,λ _=>default⟩:Sl Span),(5:Int)):=by
 obtain⟨w0,_,_,w3,_⟩:=zsZ n (⟨0,λ _=>default⟩:Sl Int) (by decide) ht
 unfold p26 s26
 rw[w0,w3 hn (λ i hi=>absurd hi (Nat.not_lt_zero _)) h]
 exact⟨rfl,rfl⟩
theorem zJ9 {n:Net}(hn:NetOk n) (hN:zbE (En n)) {i:Int}(h0:0≤i) (h1:i < n.Nodes){j:Nat}(hj:j < n.Nodes.toNat):p75 (W n) i=true/\s75 (W n) i (j * 2)=fr n j i.toNat:=by
 have h40:=hn.n40
 obtain⟨a,b⟩:=zIk (W n) hn hN i h0 h1
 refine⟨a,?_⟩
 have:=(Prod.mk.inj (b j hj)).1
 rw[this]
 exact zIl (zFo (a:=W n) hn) hN (show i.toNat < n.Nodes.toNat by omega) hj
theorem zFs {n:Net}(hn:NetOk n) (hN:zbE (En n)) {i:Int}(h0:0≤i) (h1:i < n.Nodes){j:Nat}(hj:j < n.Nodes.toNat):p76 (W n) i=true/\s76 (W n) i (j * 2)=fr n i.toNat j:=by
 obtain⟨a,b⟩:=zIh (W n) hn hN i h0 h1
 exact⟨a,(Prod.mk.inj (b j hj)).1⟩
theorem zfP {α:Type}(i:Nat) (v:α) (g:Nat->α) (j:Nat):setT i v g j=if j=i then v else g j:=by
 show (match Nat.beq j i with | true=>v | false=>g j)=_
 by_cases h:j=i
 ·rw[dqP h,show Nat.beq j i=true from by rw[h];exact Nat.beq_refl _]
 ·rw[dqG h,show Nat.beq j i=false from Bool.eq_false_iff.2 λ e=>h (Nat.eq_of_beq_eq_true e)]
def zBH (n:Net) (i:Nat) (v:Sl Span):Sl Span:=⟨v.len,setT i (⟨-fr n i 0,fr n 0 i⟩:Span) v.get⟩
theorem zFt (n:Net):∀ (m i:Nat) (v:Sl Span),(∀ j,j < i->v.get j=⟨-fr n j 0,fr n 0 j⟩)->(zk3 (zBH n) m i v).len=v.len/\∀ j,j < i+m->(zk3 (zBH n) m i v).get j=⟨-fr n j 0,fr n 0 j⟩:=by
 intro m
 induction m with
 | zero=>intro i v h;exact⟨rfl,λ j hj=>h j (by omega)⟩
 | succ m ih =>
  intro i v h
  obtain⟨k1,k2⟩:=ih (i+1) (zBH n i v) (λ j hj=>by
   show setT i _ v.get j=_
   rw[zfP]
   by_cases hji:j=i
   ·rw[dqP hji,hji]
   ·rw[dqG hji];exact h j (by omega))
  exact⟨k1,λ j hj=>k2 j (by omega)⟩
theorem zyA {n:Net}(ht:n.Ties.len≤210) (hn:NetOk n) (hN:zbE (En n)):p26 n=true/\∃ l,s26 n=(l,0)/\l.len=n.Nodes.toNat/\∀ i,i < n.Nodes.toNat->l.get i=⟨-fr n i 0,fr n 0 i⟩:=by
  have hn1:=hn.n1;have hn40:=hn.n40
  obtain⟨w0,_,_,_,w4⟩:=zsZ n (⟨0,λ _=>default⟩:Sl Int) (by decide) ht
  have w4':=w4 hn (λ i hi=>absurd hi (Nat.not_lt_zero _)) hN
  have hT:=λ (j:Nat) (hj:j < n.Nodes.toNat)=>zJ9 hn hN (i:=0) (Int.le_refl _) (by omega) hj
  have hF:=λ (j:Nat) (hj:j < n.Nodes.toNat)=>zFs hn hN (i:=0) (Int.le_refl _) (by omega) hj
  have p1:=(hT 0 (by omega)).1
  have p2:=(hF 0 (by omega)).1
  have hloop := zoJ (step := zBH n) (E := fun v => (v, (0:Int))) (EP := fun _ => true) (Inv := fun _ v => v.len = n.Nodes.toNat) (a := 0) (n := n.Nodes.toNat) (lpS := fun k v i => zgC n k i v (s75 (W n) 0) (s76 (W n) 0)) (lpP := fun k v i => zgD n k i v (s75 (W n) 0) (s76 (W n) 0))
    (λ k i v _ hi hv=>by
      show zhY n (zgC n k) (i:Int) v (s75 (W n) 0) (s76 (W n) 0)=zgC n k (w64 ((i:Int)+(1:Int))) (zBH n i v) (s75 (W n) 0) (s76 (W n) 0)
      generalize zgC n k=S
      unfold zhY zBH
      have hb:=zsY hn hN (i:=i) (j:=0) hi
      rw[dqT (show (i:Int) < (n.Nodes.toNat:Int) by omega),dqA,dqN,show 0+i * 2+0=i * 2 by omega,zdc (by omega),zdc (by omega),(hT i hi).2,(hF i hi).2,show (0:Int).toNat=0 from rfl,zbr (x:=0 - fr n i 0) (by omega) (by omega),show (0:Int) - fr n i 0 = -fr n i 0 by omega])
    (λ k v=>by
      show zhY n (zgC n k) (n.Nodes.toNat:Int) v (s75 (W n) 0) (s76 (W n) 0)=_
      unfold zhY
      rw[dqF (show ¬ (n.Nodes.toNat:Int) < (n.Nodes.toNat:Int) by omega),dqB])
    (λ k i v _ hi hv=>by
      show zhZ n (zgD n k) (i:Int) v (s75 (W n) 0) (s76 (W n) 0)=zgD n k (w64 ((i:Int)+(1:Int))) (zBH n i v) (s75 (W n) 0) (s76 (W n) 0)
      generalize zgD n k=S
      unfold zhZ zBH
      have hb:=zsY hn hN (i:=i) (j:=0) hi
      have hv':v.len=n.Nodes.toNat:=hv
      rw[dqT (show (i:Int) < (n.Nodes.toNat:Int) by omega),dqA,dqN,show 0+i * 2+0=i * 2 by omega,zdc (by omega),zdc (by omega),(hT i hi).2,(hF i hi).2,show (0:Int).toNat=0 from rfl,zbr (x:=0 - fr n i 0) (by omega) (by omega),show (0:Int) - fr n i 0 = -fr n i 0 by omega,
        dqT (show 0≤(i:Int)/\(i:Int) < (40:Int) by omega),dqT (show 0≤(i:Int)/\(i:Int) < (v.len:Int) by omega),dqT (show i < v.len by omega)]
      rfl)
    (λ k v=>by
      show zhZ n (zgD n k) (n.Nodes.toNat:Int) v (s75 (W n) 0) (s76 (W n) 0)=_
      unfold zhZ
      rw[dqF (show ¬ (n.Nodes.toNat:Int) < (n.Nodes.toNat:Int) by omega),dqB])
    (λ i v _ _ h=>h) (Nat.zero_le _) (by omega) (⟨n.Nodes.toNat,(λ _=>(⟨(0:Int),(0:Int)⟩:Span))⟩:Sl Span) rfl
  obtain⟨l1,l2⟩:=hloop
  obtain⟨f1,f2⟩:=zFt n (n.Nodes.toNat - 0) 0 (⟨n.Nodes.toNat,(λ _=>(⟨(0:Int),(0:Int)⟩:Span))⟩:Sl Span) (λ j hj=>absurd hj (Nat.not_lt_zero _))
  constructor
  · unfold p26
    rw[w0,w4']
    show (cond ((0:Int) == 0) (decide (true=true) && cond ((0:Int) != (0:Int)) true (decide (p75 (W n) 0=true) && (decide (p76 (W n) 0=true) && (decide (0≤n.Nodes/\n.Nodes=n.Nodes/\n.Nodes≤1000000) && zp3 n (0:Int) (⟨n.Nodes.toNat,(λ _=>(⟨(0:Int),(0:Int)⟩:Span))⟩:Sl Span) (s75 (W n) 0) (s76 (W n) 0))))) _)=true
    rw[p1,p2,dqT (show 0≤n.Nodes/\n.Nodes=n.Nodes/\n.Nodes≤1000000 from ⟨by omega,rfl,by omega⟩)]
    exact l1
  · refine ⟨_, ?_, f1, fun i hi => f2 i (by omega)⟩
    unfold s26
    rw[w4']
    exact l2
theorem ztO {n:Net}(hn:NetOk n){v:Sl Int}(hv:AgOk n v):∀ e∈En n,v.get e.v≤v.get e.u+e.w:=by
 intro e he
 obtain⟨j,h1,_,h3⟩:=(zyy (a:=W n) hn).1 he
 have hk:=hv.keep j h1
 rcases h3 with ⟨h4,rfl⟩ | ⟨h4,rfl⟩
 ·have := hk.2.resolve_left h4
  show v.get (n.Ties.get j).To.toNat≤v.get (n.Ties.get j).From.toNat+(n.Ties.get j).High
  omega
 ·have := hk.1.resolve_left h4
  show v.get (n.Ties.get j).From.toNat≤v.get (n.Ties.get j).To.toNat + -(n.Ties.get j).Low
  omega
theorem zoM {n:Net}(hn:NetOk n){v:Sl Int}(hv:AgOk n v):zbE (En n):=zoL (f:=v.get) (ztO hn hv)
end Go.Proofs
namespace Go.Pm
def jr (o:zb2) (s:zb2×Bool) (e:Ed):zb2×Bool :=
 match o e.u with
 | none=>s
 | some x=>cond (ltO (x+e.w) (s.1 e.v)) (zkS s.1 e.v (x+e.w),true) s
theorem zKa (o:zb2) (s:zb2×Bool) (e:Ed) (v:Nat):leO ((jr o s e).1 v) (s.1 v):=by
 unfold jr
 cases hu:o e.u with
 | none=>exact zc2 _
 | some x =>
  simp only[]
  cases hl:ltO (x+e.w) (s.1 e.v)
  ·exact zc2 _
  ·show leO (zkS s.1 e.v (x + e.w) v) _
   unfold zkS
   by_cases hv:v=e.v
   ·rw [dqP hv]
    intro y hy
    refine⟨_,rfl,?_⟩
    rw[hv] at hy
    rw[hy] at hl
    exact Int.le_of_lt (of_decide_eq_true hl)
   ·rw[dqG hv];exact zc2 _
theorem zKb (o:zb2) (E:List Ed) (s:zb2×Bool) (v:Nat):leO ((E.foldl (jr o) s).1 v) (s.1 v):=by
 induction E generalizing s with
 | nil=>exact zc2 _
 | cons e l ih=>exact zdN (ih (jr o s e)) (zKa o s e v)
theorem zKc {o:zb2}{s:zb2×Bool}{e:Ed}{x:Int}(h:o e.u=some x):leO ((jr o s e).1 e.v) (some (x+e.w)):=by
 unfold jr
 simp only[h]
 cases hl:ltO (x+e.w) (s.1 e.v)
 ·obtain ⟨y, h1, h2⟩ := zkH hl
  intro z hz;cases hz
  exact⟨y,h1,h2⟩
 ·intro z hz; cases hz
  exact⟨x+e.w,by show zkS s.1 e.v (x+e.w) e.v=_;unfold zkS;rw[dqP rfl],Int.le_refl _⟩
theorem zKd {o:zb2}{E:List Ed}{s:zb2×Bool}{e:Ed}{x:Int}(he:e∈E) (h:o e.u=some x):leO ((E.foldl (jr o) s).1 e.v) (some (x+e.w)):=by
 induction E generalizing s with
 | nil=>cases he
 | cons f l ih =>
  rcases List.mem_cons.1 he with rfl | hm
  ·exact zdN (zKb o l (jr o s e) e.v) (zKc h)
  ·exact ih hm
def zAx : Option Int → Int
  | none=>1000000000000
  | some x=>x
end Go.Pm
namespace Go.Pm
def zyB:zb2:=λ _=>none
def hop (F:List Ed) (o:zb2):zb2:=(F.foldl (jr o) (zyB,false)).1
def hops (F : List Ed) (s : Nat) : Nat → zb2
  | 0=>zoR s
  | k+1=>hop F (hops F s k)
theorem zIm {F:List Ed}{o:zb2}{v:Nat}{x:Int}(h:hop F o v=some x):∃ e∈F,e.v=v/\∃ y,o e.u=some y/\x=y+e.w:=by
 have key:∀ (l:List Ed) (s:zb2×Bool),(∀ e∈l,e∈F)->(∀ v x,s.1 v=some x->∃ e∈F,e.v=v/\∃ y,o e.u=some y/\x=y+e.w)->∀ v x,(l.foldl (jr o) s).1 v=some x->∃ e∈F,e.v=v/\∃ y,o e.u=some y/\x=y+e.w:=by
  intro l
  induction l with
  | nil=>intro s _ h;exact h
  | cons e l ih =>
   intro s hl h
   refine ih (jr o s e) (λ e he=>hl e (List.mem_cons_of_mem _ he)) ?_
   intro v x hx
   unfold jr at hx
   cases hu:o e.u with
   | none=>simp only[hu] at hx;exact h v x hx
   | some y =>
    simp only[hu] at hx
    cases hlt:ltO (y+e.w) (s.1 e.v) with
    | false=>simp only[hlt,dqB] at hx;exact h v x hx
    | true =>
     simp only[hlt,dqA] at hx
     unfold zkS at hx
     by_cases hv:v=e.v
     ·rw [dqP hv] at hx
      exact⟨e,hl e (List.mem_cons_self ..),hv.symm,y,hu,(Option.some.inj hx).symm⟩
     ·rw[dqG hv] at hx;exact h v x hx
 exact key F (zyB,false) (λ _ h=>h) (λ v x h=>by cases h) v x h
theorem zFu {F:List Ed}{s:Nat} : ∀ {k v:Nat}{c:List Ed},zem F s c v->c.length=k->∃ x,hops F s k v=some x/\x≤wt c:=by
 intro k
 induction k with
 | zero =>
  intro v c h hl
  have:c=[]:=List.length_eq_zero_iff.1 hl
  subst this
  cases h
  exact⟨0,dqP rfl,Int.le_refl _⟩
 | succ k ih =>
  intro v c h hl
  obtain⟨c',e,rfl⟩:∃ c' e,c=c' ++ [e]:=⟨c.dropLast,c.getLast (λ e=>by rw[e] at hl;cases hl),(List.dropLast_concat_getLast _).symm⟩
  obtain⟨m,h1,h2,h3,h4⟩:=zcx.1 h
  subst h3
  obtain⟨x,k1,k2⟩:=ih h1 (by simpa using hl)
  obtain⟨y,m1,m2⟩:=zKd (o:=hops F s k) (s:=(zyB,false)) h2 k1 _ rfl
  have h4':e.v=v:=h4
  rw[h4'] at m1
  exact⟨y,m1,by rw[zeu,zkG];omega⟩
end Go.Pm
