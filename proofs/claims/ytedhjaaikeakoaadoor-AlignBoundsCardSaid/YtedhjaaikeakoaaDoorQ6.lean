/- Part 6 of what the proof rests on: a machine that runs functions of the program on pure values, proved sound; the functions that the law reaches, and what they compute. -/
import Derived.Test.YtedhjaaikeakoaaDoorQ5
import Derived.Test.YtedhjaaikeakoaaDoorTie
import Derived.ProofKit
import Derived.LaidMore
import Derived.OpenShut
import Derived.Stop.Joined
import Derived.Test.YtedhjaaikeakoaaDoorCards
import Derived.WalkKit
set_option linter.all false
namespace Go.Proofs
open Go Go.Pm
set_option maxRecDepth 100000
set_option linter.unusedVariables false
attribute [local irreducible] Go.Pm.vcFun Go.Pm.vc Go.Pm.vcIter
abbrev T25:Tabs:=Tabs.nil
theorem zJ6:TabsOk Tryd.prog T25:=TabsOk.nil
abbrev G25:Ctrs:=csm T25 (λ _ _=>[]) (λ _=>false)
def zD8:Ann:=⟨26,[(0,zK [0,1] []),(1,zK [0,1,10] []),(2,zK [4] []),(3,zK [0,1,5] []),(4,zK [0,1,5,14] []),(5,zK [0,1,5] []),(6,zK [0,1,5,25] []),(7,zK [4] []),(8,zK [4] [])],
 [(4,zK [0,1,5] [])],
 [(3,zK [0,1] [])],
 [],[]⟩
abbrev R25:=Bool
abbrev e25 (r:R25):List PA:=[.one (.bool r)]
@[irreducible] def z25:=ptF Tryd.prog G25 zD8 Tryd.f25
def zBy (a:(Sl Int)) (b:(Sl Int)) (iv1:Int):St:=⟨[(0,zS zac 1 a),(1,zS zac 1 b),(5,zI iv1)],[],[]⟩
abbrev zHu (K:List PA->Prop) (a:(Sl Int)) (b:(Sl Int)) (X:St->Prop) (P:Int->Bool) (S:Int->Bool):Prop:=∀ ⦃iv1:Int⦄,P iv1=true->K (e25 (S iv1))->X (zBy a b iv1)
section
variable {K:List PA->Prop}{a:(Sl Int)}{b:(Sl Int)}{iv1:Int}{X1:St->Prop}{P1:Int->Bool}{S1:Int->Bool}
def zwN (a:(Sl Int)) (b:(Sl Int)) (S1:Int->Bool) (iv1:Int):Bool :=
  (cond (decide (iv1 < (a.len : Int)))
 (cond ((a.get iv1.toNat) != (b.get iv1.toNat))
 false
 (S1 (w64 (iv1+(1:Int)))))
 true)
def zwO (a:(Sl Int)) (b:(Sl Int)) (P1:Int->Bool) (iv1:Int):Bool :=
  (cond (decide (iv1 < (a.len : Int)))
 (decide ((0≤iv1/\iv1 < (a.len:Int))) &&
 (decide ((0≤iv1/\iv1 < (b.len:Int))) &&
 (cond ((a.get iv1.toNat) != (b.get iv1.toNat))
 true
 (P1 (w64 (iv1+(1:Int)))))))
 true)
def zwP (a:(Sl Int)) (b:(Sl Int)):Nat->Int->Bool:=lpO (λ _=>default) (zwN a b)
def zwQ (a:(Sl Int)) (b:(Sl Int)):Nat->Int->Bool:=lpO (λ _=>false) (zwO a b)
def zwR (a:(Sl Int)) (b:(Sl Int)) (iv1:Int):Bool:=zwP a b Fuel iv1
def zwS (a:(Sl Int)) (b:(Sl Int)) (iv1:Int):Bool:=zwQ a b Fuel iv1
theorem zD9 (hs:zwS a b iv1=true) (hk:K (e25 (zwR a b iv1))):z25 K [1,1,0,1,0] [] (zBy a b iv1) :=
  zl (λ X=>z25 K [1,1,0,1,0,0] [X]) (by kernel_rfl) λ X1 hX =>
  (show ∀ k, zHu K a b X1 (zwQ a b k) (zwP a b k) from zeF _ _ (zwO a b) (zwN a b) (zHu K a b X1)
 (by intro _ hs;exact absurd hs Bool.false_ne_true)
 (by intro P1 S1 hX1 iv1 hs hk;exact hX _ (za2 (by kernel_rfl) (zc hs hk (λ hs hk=>(zaM hs λ hc hs=>And.intro hc (zaM hs λ hc hs=>And.intro hc (zc hs hk (λ hs hk=>hk) (λ hs hk=>(hX1 hs hk)))))) (λ hs hk=>hk))))) _ hs hk
def zwT (a:(Sl Int)) (b:(Sl Int)):Bool :=
  (zwR a b (0:Int))
def zwU (a:(Sl Int)) (b:(Sl Int)):Bool :=
  (zwS a b (0:Int))
theorem zEa (hs:zwU a b=true) (hk:K (e25 (zwT a b))):z25 K [1,1] [] ⟨[(0,zS zac 1 a),(1,zS zac 1 b)],[],[]⟩:=za2 (by kernel_rfl) (zD9 hs hk)
def s25 (a:(Sl Int)) (b:(Sl Int)):Bool :=
  (cond ((a.len : Int) != (b.len : Int))
 false
 (zwT a b))
def p25 (a:(Sl Int)) (b:(Sl Int)):Bool :=
  (cond ((a.len : Int) != (b.len : Int))
 true
 (zwU a b))
end
theorem q25 (a:(Sl Int)) (b:(Sl Int)) (K:List PA->Prop) (hs:p25 a b=true) (hk:K (e25 (s25 a b))):vcFun Tryd.prog G25 zD8 25 [.one (.sl a.len 1 (λ i=>zac (a.get i))),.one (.sl b.len 1 (λ i=>zac (b.get i)))] K :=
  za2 (by kernel_rfl) (zc hs hk (λ hs hk=>hk) (λ hs hk=>(zEa hs hk)))
def zEb : List PA → COut
  | [.one (.sl zfB zk9 zfC),.one (.sl zgc zmM zf3)]=>.det (IsE zac 1 zk9 zfC/\IsE zac 1 zmM zf3/\p25 (⟨zfB,zas zfC⟩:(Sl Int)) (⟨zgc,zas zf3⟩:(Sl Int))=true) [.one (.bool (s25 (⟨zfB,zas zfC⟩:(Sl Int)) (⟨zgc,zas zf3⟩:(Sl Int))))]
  | _=>.no
theorem zHv:zav Tryd.prog 25:=⟨_,rfl,rfl,by kernel_rfl⟩
theorem zL3:Ok Tryd.prog 25 zEb:=zbk zJ6 zHv λ args K h=>by
  unfold zEb at h
  split at h
  · rename_i zfB zk9 zfC zgc zmM zf3
    obtain⟨⟨⟨rfl,zh0,rfl⟩,⟨rfl,zj4,rfl⟩,hs⟩,hk⟩:=h
    try rw[zbL zh0] at hs
    try rw[zbL zh0] at hk
    try rw[zbL zj4] at hs
    try rw[zbL zj4] at hk
    exact⟨(λ _ _=>[]),(λ _=>false),zD8,q25 (⟨zfB,zh0⟩:(Sl Int)) (⟨zgc,zj4⟩:(Sl Int)) K hs hk⟩
  · exact h.elim
abbrev T29:Tabs:=Tabs.nil
theorem zJ7:TabsOk Tryd.prog T29:=TabsOk.nil
abbrev G29:Ctrs:=csm T29 (λ _ _=>[]) (λ _=>false)
def zHw:Ann:=⟨13,[(0,zK [2,3,4] [2,3,4]),(1,zK [2,4] [2,4,7]),(2,zK [4] [4,7])],
 [],
 [],
 [],[]⟩
abbrev R29:=Net
abbrev e29 (r:R29):List PA:=[.agg [.int .i64 r.Nodes,.sl r.Ties.len 4 (λ i=>enc_40 (r.Ties.get i))]]
section
variable {K:List PA->Prop}{n:Net}{t:Tie}
def s29 (n:Net) (t:Tie):Net :=
  (⟨n.Nodes,(⟨(n.Ties.len+1),(zf2 n.Ties.len n.Ties.get (λ _=>t))⟩:(Sl Tie))⟩:Net)
def p29 (n:Net) (t:Tie):Bool :=
  (decide ((n.Ties.len * 32≤140737488355328/\n.Ties.len≤9223372036854775807)) &&
 (decide (((n.Ties.len+1) * 32≤140737488355328/\n.Ties.len+1≤9223372036854775807)) &&
 true))
end
theorem q29 (n:Net) (t:Tie) (K:List PA->Prop) (hs:p29 n t=true) (hk:K (e29 (s29 n t))):vcFun Tryd.prog G29 zHw 29 [.agg (enc_24 n),.agg (enc_40 t)] K :=
  za2 (by kernel_rfl) (zaM hs λ hc hs=>And.intro hc (zaM hs λ hc hs=>And.intro hc (Eq.mpr (congrArg K (congrArg (λ (g_:Nat->List PV)=>([.agg [.int .i64 n.Nodes,.sl (n.Ties.len+1) 4 g_]]:List PA)) (zit (enc:=enc_40) (f:=n.Ties.get) (h:=(λ _=>t)) rfl rfl))) hk)))
def zEc : List PA → COut
  | [.agg [.int .i64 zaf,.sl zae zay zad],.agg [.int .i64 zet,.int .i64 zkz,.int .i64 zgm,.int .i64 zeu]]=>.det (IsE enc_40 4 zay zad/\p29 (⟨zaf,(⟨zae,zan zad⟩:(Sl Tie))⟩:Net) (⟨zet,zkz,zgm,zeu⟩:Tie)=true) [.agg [.int .i64 ((s29 (⟨zaf,(⟨zae,zan zad⟩:(Sl Tie))⟩:Net) (⟨zet,zkz,zgm,zeu⟩:Tie)).Nodes),.sl ((s29 (⟨zaf,(⟨zae,zan zad⟩:(Sl Tie))⟩:Net) (⟨zet,zkz,zgm,zeu⟩:Tie)).Ties.len) 4 (λ i=>enc_40 ((s29 (⟨zaf,(⟨zae,zan zad⟩:(Sl Tie))⟩:Net) (⟨zet,zkz,zgm,zeu⟩:Tie)).Ties.get i))]]
  | _=>.no
theorem zHx:zav Tryd.prog 29:=⟨_,rfl,rfl,by kernel_rfl⟩
theorem zL4:Ok Tryd.prog 29 zEc:=zbk zJ7 zHx λ args K h=>by
  unfold zEc at h
  split at h
  · rename_i zaf zae zay zad zet zkz zgm zeu
    obtain⟨⟨⟨rfl,zaq,rfl⟩,hs⟩,hk⟩:=h
    try rw[zal zaq] at hs
    try rw[zal zaq] at hk
    exact⟨(λ _ _=>[]),(λ _=>false),zHw,q29 (⟨zaf,(⟨zae,zaq⟩:(Sl Tie))⟩:Net) (⟨zet,zkz,zgm,zeu⟩:Tie) K hs hk⟩
  · exact h.elim
abbrev T83:Tabs:=((Tabs.nil.addF 75 zsO).addF 76 zsP)
theorem zJ8:TabsOk Tryd.prog T83:=((TabsOk.nil.addF zI5).addF zI6)
abbrev G83:Ctrs:=csm T83 (λ _ _=>[]) (λ _=>false)
def zEd:Ann:=⟨31,[(0,zK [0] []),(1,zK [0,3,4] [3,4]),(2,zK [3,4,14,15] [3,4]),(3,zK [3,4,14,15,16] [3,4]),(4,zK [3,4,5,14,15] [3,4]),(5,zK [3,4,14,15,29] [3,4]),(6,zK [2] []),(7,zK [3,4,14,15] [3,4]),(8,zK [2] [])],
 [(3,zK [3,4,14,15] [3,4])],
 [(2,zK [0,3,4] [3,4])],
 [],[]⟩
abbrev R83:=Bool
abbrev e83 (r:R83):List PA:=[.one (.bool r)]
@[irreducible] def z83:=ptF Tryd.prog G83 zEd Tryd.f83
def zBz (w:web) (zcF:Int) (tot1:Tab) (fromt1:Tab):St:=⟨[(3,zp 3 0),(4,zp 4 0),(14,zI w.Net.Nodes),(15,zI zcF)],[(3,.box 116 (zm (zam tot1))),(4,.box 116 (zm (zam fromt1)))],[]⟩
abbrev zHy (K:List PA->Prop) (w:web) (X:St->Prop) (P:Int->Tab->Tab->Bool) (S:Int->Tab->Tab->Bool):Prop:=∀ ⦃zcF:Int⦄ ⦃tot1:Tab⦄ ⦃fromt1:Tab⦄,P zcF tot1 fromt1=true->K (e83 (S zcF tot1 fromt1))->X (zBz w zcF tot1 fromt1)
section
variable {K:List PA->Prop}{w:web}{tot0:Tab}{fromt0:Tab}{zcF:Int}{tot1:Tab}{fromt1:Tab}{X1:St->Prop}{P1:Int->Tab->Tab->Bool}{S1:Int->Tab->Tab->Bool}
def zwV (w:web) (S1:Int->Tab->Tab->Bool) (zcF:Int) (tot1:Tab) (fromt1:Tab):Bool :=
  (cond (decide (zcF < w.Net.Nodes))
 (cond (match ((tg 80 tot1 (0 + zcF.toNat * 2 + 0)) == (1000000000000:Int)) with | true => (match ((tg 80 tot1 (0 + zcF.toNat * 2 + 0 + 1)) == (0:Int)) with | true => true | false => false) | false => false)
 false
 (cond (match ((tg 80 fromt1 (0 + zcF.toNat * 2 + 0)) == (1000000000000:Int)) with | true => (match ((tg 80 fromt1 (0 + zcF.toNat * 2 + 0 + 1)) == (0:Int)) with | true => true | false => false) | false => false)
 false
 (S1 (w64 (zcF+(1:Int))) tot1 fromt1)))
 true)
def zwW (w:web) (P1:Int->Tab->Tab->Bool) (zcF:Int) (tot1:Tab) (fromt1:Tab):Bool :=
  (cond (decide (zcF < w.Net.Nodes))
 (decide ((0≤zcF/\zcF < (40:Int))) &&
 (cond (match ((tg 80 tot1 (0 + zcF.toNat * 2 + 0)) == (1000000000000:Int)) with | true => (match ((tg 80 tot1 (0 + zcF.toNat * 2 + 0 + 1)) == (0:Int)) with | true => true | false => false) | false => false)
 true
 (decide ((0≤zcF/\zcF < (40:Int))) &&
 (cond (match ((tg 80 fromt1 (0 + zcF.toNat * 2 + 0)) == (1000000000000:Int)) with | true => (match ((tg 80 fromt1 (0 + zcF.toNat * 2 + 0 + 1)) == (0:Int)) with | true => true | false => false) | false => false)
 true
 (P1 (w64 (zcF+(1:Int))) tot1 fromt1)))))
 true)
def zwX (w:web):Nat->Int->Tab->Tab->Bool:=lpO (λ _ _ _=>default) (zwV w)
def zwY (w:web):Nat->Int->Tab->Tab->Bool:=lpO (λ _ _ _=>false) (zwW w)
def zwZ (w:web) (zcF:Int) (tot1:Tab) (fromt1:Tab):Bool:=zwX w Fuel zcF tot1 fromt1
def zw0 (w:web) (zcF:Int) (tot1:Tab) (fromt1:Tab):Bool:=zwY w Fuel zcF tot1 fromt1
theorem zEe (hs:zw0 w zcF tot1 fromt1=true) (hk:K (e83 (zwZ w zcF tot1 fromt1))):z83 K [1,1,0,1,0] [] (zBz w zcF tot1 fromt1) :=
  zl (λ X=>z83 K [1,1,0,1,0,0] [X]) (by kernel_rfl) λ X1 hX =>
  (show ∀ k, zHy K w X1 (zwY w k) (zwX w k) from zeF _ _ (zwW w) (zwV w) (zHy K w X1)
 (by intro _ _ _ hs;exact absurd hs Bool.false_ne_true)
 (by intro P1 S1 hX1 zcF tot1 fromt1 hs hk;exact hX _ (za2 (by kernel_rfl) (zc hs hk (λ hs hk=>(zaM hs λ hc hs=>And.intro hc (zc hs hk (λ hs hk=>hk) (λ hs hk=>(zaM hs λ hc hs=>And.intro hc (zc hs hk (λ hs hk=>hk) (λ hs hk=>(hX1 hs hk)))))))) (λ hs hk=>hk))))) _ hs hk
def zw1 (w:web) (tot0:Tab) (fromt0:Tab):Bool :=
  (zwZ w (0:Int) tot0 fromt0)
def zw2 (w:web) (tot0:Tab) (fromt0:Tab):Bool :=
  (zw0 w (0:Int) tot0 fromt0)
theorem zEf (hs:zw2 w tot0 fromt0=true) (hk:K (e83 (zw1 w tot0 fromt0))):z83 K [1,1] [] ⟨[(0,zP (.fp (zaB w) 0)),(3,zp 3 0),(4,zp 4 0)],[(3,.box 116 (zm (zam tot0))),(4,.box 116 (zm (zam fromt0)))],[]⟩:=za2 (by kernel_rfl) (zEe hs hk)
def s83 (w:web):Bool :=
  (zw1 w (s75 w (0:Int)) (s76 w (0:Int)))
def p83 (w:web):Bool :=
  (decide ((p75 w (0:Int)=true)) &&
 (decide ((p76 w (0:Int)=true)) &&
 (zw2 w (s75 w (0:Int)) (s76 w (0:Int)))))
end
theorem q83 (w:web) (K:List PA->Prop) (hs:p83 w=true) (hk:K (e83 (s83 w))):vcFun Tryd.prog G83 zEd 83 [.one (.fp (zaB w) 0)] K :=
  za2 (by kernel_rfl) (zaM hs λ hc hs=>And.intro (And.intro (zE enc_40 4 w.Net.Ties.get) (And.intro (rfl:((false,1,false,[none]):MQ)=(false,1,false,[none])) hc)) (zaM hs λ hc hs=>And.intro (And.intro (zE enc_40 4 w.Net.Ties.get) (And.intro (rfl:((false,1,false,[none]):MQ)=(false,1,false,[none])) hc)) (zEf hs hk)))
def zEg : List PA → COut
  | [.one (.fp [.int .i64 zak,.sl zai zaA zaj,.fm za6 zaG zaH] 0)]=>.det (IsE enc_40 4 zaA zaj/\za6=(false,1,false,[none])/\p83 (⟨(⟨zak,(⟨zai,zan zaj⟩:(Sl Tie))⟩:Net),(⟨zaG,zaH⟩:Mp)⟩:web)=true) [.one (.bool (s83 (⟨(⟨zak,(⟨zai,zan zaj⟩:(Sl Tie))⟩:Net),(⟨zaG,zaH⟩:Mp)⟩:web)))]
  | _=>.no
theorem zHz:zav Tryd.prog 83:=⟨_,rfl,rfl,by kernel_rfl⟩
theorem zL5:Ok Tryd.prog 83 zEg:=zbk zJ8 zHz λ args K h=>by
  unfold zEg at h
  split at h
  · rename_i zak zai zaA zaj za6 zaG zaH
    obtain⟨⟨⟨rfl,zat,rfl⟩,rfl,hs⟩,hk⟩:=h
    try rw[zal zat] at hs
    try rw[zal zat] at hk
    exact⟨(λ _ _=>[]),(λ _=>false),zEd,q83 (⟨(⟨zak,(⟨zai,zat⟩:(Sl Tie))⟩:Net),(⟨zaG,zaH⟩:Mp)⟩:web) K hs hk⟩
  · exact h.elim
abbrev T85:Tabs:=Tabs.nil
theorem zJ9:TabsOk Tryd.prog T85:=TabsOk.nil
abbrev G85:Ctrs:=csm T85 (λ _ _=>[]) (λ _=>false)
def zHA:Ann:=⟨8,[(0,zK [0,1] []),(1,zK [3] [])],
 [],
 [],
 [],[]⟩
abbrev R85:=Int
abbrev e85 (r:R85):List PA:=[.one (.int .i64 r)]
section
variable {K:List PA->Prop}{c0:Tab}{i_a0:Int}
def s85 (c0:Tab) (i_a0:Int):Int :=
  (tg 80 c0 (0+i_a0.toNat * 2+0))
def p85 (c0:Tab) (i_a0:Int):Bool :=
  (decide ((0≤i_a0/\i_a0 < (40:Int))) &&
 true)
end
theorem q85 (c0:Tab) (i_a0:Int) (K:List PA->Prop) (hs:p85 c0 i_a0=true) (hk:K (e85 (s85 c0 i_a0))):vcFun Tryd.prog G85 zHA 85 [.one (.int .i64 i_a0),.one (.fp (zam c0) 0)] K :=
  za2 (by kernel_rfl) (zaM hs λ hc hs=>And.intro hc hk)
def zEh : List PA → COut
  | [.one (.int .i64 a0),.one (.fp c0_t 0)]=>.det (c0_t=zam (zaE c0_t)/\p85 (zaE c0_t) a0=true) [.one (.int .i64 (s85 (zaE c0_t) a0))]
  | _=>.no
theorem zHB:zav Tryd.prog 85:=⟨_,rfl,rfl,by kernel_rfl⟩
theorem zL6:Ok Tryd.prog 85 zEh:=zbk zJ9 zHB λ args K h=>by
  unfold zEh at h
  split at h
  · rename_i a0 c0_t
    obtain⟨⟨hT_c0,hs⟩,hk⟩:=h
    exact⟨(λ _ _=>[]),(λ _=>false),zHA,(by have hq:=q85 (zaE c0_t) a0 K hs hk;rw[← hT_c0] at hq;exact hq)⟩
  · exact h.elim
abbrev T86:Tabs:=Tabs.nil
theorem zKa:TabsOk Tryd.prog T86:=TabsOk.nil
abbrev G86:Ctrs:=csm T86 (λ _ _=>[]) (λ _=>false)
def zHC:Ann:=⟨9,[(0,zK [0,1] []),(1,zK [3] [])],
 [],
 [],
 [],[]⟩
abbrev R86:=Int
abbrev e86 (r:R86):List PA:=[.one (.int .i64 r)]
section
variable {K:List PA->Prop}{c0:Tab}{i_a0:Int}
def s86 (c0:Tab) (i_a0:Int):Int :=
  (w64 (0 - (tg 80 c0 (0+i_a0.toNat * 2+0))))
def p86 (c0:Tab) (i_a0:Int):Bool :=
  (decide ((0≤i_a0/\i_a0 < (40:Int))) &&
 true)
end
theorem q86 (c0:Tab) (i_a0:Int) (K:List PA->Prop) (hs:p86 c0 i_a0=true) (hk:K (e86 (s86 c0 i_a0))):vcFun Tryd.prog G86 zHC 86 [.one (.int .i64 i_a0),.one (.fp (zam c0) 0)] K :=
  za2 (by kernel_rfl) (zaM hs λ hc hs=>And.intro hc hk)
def zEi : List PA → COut
  | [.one (.int .i64 a0),.one (.fp c0_t 0)]=>.det (c0_t=zam (zaE c0_t)/\p86 (zaE c0_t) a0=true) [.one (.int .i64 (s86 (zaE c0_t) a0))]
  | _=>.no
theorem zHD:zav Tryd.prog 86:=⟨_,rfl,rfl,by kernel_rfl⟩
theorem zL7:Ok Tryd.prog 86 zEi:=zbk zKa zHD λ args K h=>by
  unfold zEi at h
  split at h
  · rename_i a0 c0_t
    obtain⟨⟨hT_c0,hs⟩,hk⟩:=h
    exact⟨(λ _ _=>[]),(λ _=>false),zHC,(by have hq:=q86 (zaE c0_t) a0 K hs hk;rw[← hT_c0] at hq;exact hq)⟩
  · exact h.elim
abbrev T87:Tabs:=Tabs.nil
theorem zKb:TabsOk Tryd.prog T87:=TabsOk.nil
abbrev G87:Ctrs:=csm T87 (λ _ _=>[]) (λ _=>false)
def zHE:Ann:=⟨12,[(0,zK [0,1] []),(1,zK [3] [])],
 [],
 [],
 [],[]⟩
abbrev R87:=Int
abbrev e87 (r:R87):List PA:=[.one (.int .i64 r)]
section
variable {K:List PA->Prop}{c0:Tab}{i_a0:Int}
def s87 (c0:Tab) (i_a0:Int):Int :=
  (w64 ((tg 80 c0 (0+i_a0.toNat * 2+0)) - (tg 80 c0 (0+0 * 2+0))))
def p87 (c0:Tab) (i_a0:Int):Bool :=
  (decide ((0≤i_a0/\i_a0 < (40:Int))) &&
 (decide ((0≤(0:Int)/\(0:Int) < (40:Int))) &&
 true))
end
theorem q87 (c0:Tab) (i_a0:Int) (K:List PA->Prop) (hs:p87 c0 i_a0=true) (hk:K (e87 (s87 c0 i_a0))):vcFun Tryd.prog G87 zHE 87 [.one (.int .i64 i_a0),.one (.fp (zam c0) 0)] K :=
  za2 (by kernel_rfl) (zaM hs λ hc hs=>And.intro hc (zaM hs λ hc hs=>And.intro hc hk))
def zEj : List PA → COut
  | [.one (.int .i64 a0),.one (.fp c0_t 0)]=>.det (c0_t=zam (zaE c0_t)/\p87 (zaE c0_t) a0=true) [.one (.int .i64 (s87 (zaE c0_t) a0))]
  | _=>.no
theorem zHF:zav Tryd.prog 87:=⟨_,rfl,rfl,by kernel_rfl⟩
theorem zL8:Ok Tryd.prog 87 zEj:=zbk zKb zHF λ args K h=>by
  unfold zEj at h
  split at h
  · rename_i a0 c0_t
    obtain⟨⟨hT_c0,hs⟩,hk⟩:=h
    exact⟨(λ _ _=>[]),(λ _=>false),zHE,(by have hq:=q87 (zaE c0_t) a0 K hs hk;rw[← hT_c0] at hq;exact hq)⟩
  · exact h.elim
abbrev T84:Tabs:=(((Tabs.nil.addF 85 zEh).addF 86 zEi).addF 87 zEj)
theorem zKc:TabsOk Tryd.prog T84:=(((TabsOk.nil.addF zL6).addF zL7).addF zL8)
abbrev G84:Ctrs:=csm T84 (λ _ _=>[]) (λ _=>false)
def zEk:Ann:=⟨26,[(0,zK [0,1] []),(1,zK [1,5] [12]),(2,zK [1,5,14,15] [12]),(3,zK [1,5,14,15,16] [12]),(4,zK [1,5,6,14,15] [12]),(5,zK [1,5,14,15] [12]),(6,zK [1,5,14,15] [12]),(7,zK [4] [12])],
 [(3,zK [1,5,14,15] [12])],
 [],
 [],[]⟩
abbrev R84:=(Sl Int)
abbrev e84 (r:R84):List PA:=[.one (.sl r.len 1 (λ i=>zac (r.get i)))]
@[irreducible] def z84:=ptF Tryd.prog G84 zEk Tryd.f84
def zBA (c0:Tab) (w:web) (zaJ:Int) (za1:(Sl Int)) (zbB:Nat->List PV):St:=⟨[(1,zP (.fn 87 [] [.fp (zam c0) 0])),(5,zv 12),(14,zI (w.Net.Nodes.toNat:Int)),(15,zI zaJ)],[(12,.vec 3 1 8 za1.len zbB)],[]⟩
abbrev zHG (K:List PA->Prop) (c0:Tab) (w:web) (X:St->Prop) (P:Int->(Sl Int)->Bool) (S:Int->(Sl Int)->(Sl Int)):Prop:=∀ ⦃zaJ:Int⦄ ⦃za1:(Sl Int)⦄ ⦃zbB:Nat->List PV⦄,P zaJ za1=true->K (e84 (S zaJ za1))->zbB=zg zac za1->X (zBA c0 w zaJ za1 zbB)
section
variable {K:List PA->Prop}{c0:Tab}{w:web}{zaJ:Int}{za1:(Sl Int)}{zbB:Nat->List PV}{X0:St->Prop}{P0:Int->(Sl Int)->Bool}{S0:Int->(Sl Int)->(Sl Int)}
def zw3 (c0:Tab) (w:web) (S0:Int->(Sl Int)->(Sl Int)) (zaJ:Int) (za1:(Sl Int)):(Sl Int) :=
  (cond (decide (zaJ < (w.Net.Nodes.toNat : Int)))
 (S0 (w64 (zaJ+(1:Int))) (⟨za1.len,(setT zaJ.toNat (s87 (zaE (zam c0)) zaJ) za1.get)⟩:Sl Int))
 za1)
def zw4 (c0:Tab) (w:web) (P0:Int->(Sl Int)->Bool) (zaJ:Int) (za1:(Sl Int)):Bool :=
  (cond (decide (zaJ < (w.Net.Nodes.toNat : Int)))
 (decide ((p87 (zaE (zam c0)) zaJ=true)) &&
 (decide ((0≤zaJ/\zaJ < (za1.len:Int))) &&
 (decide ((zaJ.toNat < za1.len)) &&
 (P0 (w64 (zaJ+(1:Int))) (⟨za1.len,(setT zaJ.toNat (s87 (zaE (zam c0)) zaJ) za1.get)⟩:Sl Int)))))
 true)
def zw5 (c0:Tab) (w:web):Nat->Int->(Sl Int)->(Sl Int):=lpO (λ _ _=>default) (zw3 c0 w)
def zw6 (c0:Tab) (w:web):Nat->Int->(Sl Int)->Bool:=lpO (λ _ _=>false) (zw4 c0 w)
def zw7 (c0:Tab) (w:web) (zaJ:Int) (za1:(Sl Int)):(Sl Int):=zw5 c0 w Fuel zaJ za1
def zw8 (c0:Tab) (w:web) (zaJ:Int) (za1:(Sl Int)):Bool:=zw6 c0 w Fuel zaJ za1
theorem zEl (hs:zw8 c0 w zaJ za1=true) (hk:K (e84 (zw7 c0 w zaJ za1))) (zdZ:zbB=zg zac za1):z84 K [1,1,0,1,0] [] (zBA c0 w zaJ za1 zbB) :=
  zl (λ X=>z84 K [1,1,0,1,0,0] [X]) (by kernel_rfl) λ X0 hX =>
  (show ∀ k, zHG K c0 w X0 (zw6 c0 w k) (zw5 c0 w k) from zeF _ _ (zw4 c0 w) (zw3 c0 w) (zHG K c0 w X0)
 (by intro _ _ _ hs;exact absurd hs Bool.false_ne_true)
 (by intro P0 S0 hX0 zaJ za1 zbB hs hk zdZ;subst zdZ;exact hX _ (za2 (by kernel_rfl) (zc hs hk (λ hs hk=>(zaM hs λ hc hs=>And.intro (And.intro (zg9:zam c0=zam (zaE (zam c0))) hc) (zaM hs λ hc hs=>And.intro hc (zaM hs λ hc hs=>And.intro hc (hX0 hs hk (ze9 (enc:=zac) (i:=zaJ.toNat) (k:=0) (f:=za1.get) (new:=(zac (s87 (zaE (zam c0)) zaJ))) (v:=(s87 (zaE (zam c0)) zaJ)) rfl rfl)))))) (λ hs hk=>hk))))) _ hs hk zdZ
def s84 (c0:Tab) (w:web):(Sl Int) :=
  (zw7 c0 w (0:Int) (⟨w.Net.Nodes.toNat,(λ _=>(0:Int))⟩:Sl Int))
def p84 (c0:Tab) (w:web):Bool :=
  (decide ((0≤w.Net.Nodes/\w.Net.Nodes=w.Net.Nodes/\w.Net.Nodes≤1000000)) &&
 (zw8 c0 w (0:Int) (⟨w.Net.Nodes.toNat,(λ _=>(0:Int))⟩:Sl Int)))
end
theorem q84 (c0:Tab) (w:web) (K:List PA->Prop) (hs:p84 c0 w=true) (hk:K (e84 (s84 c0 w))):vcFun Tryd.prog G84 zEk 84 [.one (.fp (zaB w) 0),.one (.fn 87 [] [.fp (zam c0) 0])] K :=
  za2 (by kernel_rfl) (zaM hs λ hc hs=>And.intro hc (zEl hs hk rfl))
abbrev zLf:Ctrs:=csm T84 (λ _ _=>[]) (λ _=>false)
def zw9:Ann:=⟨26,[(0,zK [0,1] []),(1,zK [1,5] [12]),(2,zK [1,5,14,15] [12]),(3,zK [1,5,14,15,16] [12]),(4,zK [1,5,6,14,15] [12]),(5,zK [1,5,14,15] [12]),(6,zK [1,5,14,15] [12]),(7,zK [4] [12])],
 [(3,zK [1,5,14,15] [12])],
 [],
 [],[]⟩
abbrev zL9:=(Sl Int)
abbrev zKd (r:zL9):List PA:=[.one (.sl r.len 1 (λ i=>zac (r.get i)))]
@[irreducible] def z84a:=ptF Tryd.prog zLf zw9 Tryd.f84
def zxa (c0:Tab) (w:web) (zaJ:Int) (za1:(Sl Int)) (zbB:Nat->List PV):St:=⟨[(1,zP (.fn 85 [] [.fp (zam c0) 0])),(5,zv 12),(14,zI (w.Net.Nodes.toNat:Int)),(15,zI zaJ)],[(12,.vec 3 1 8 za1.len zbB)],[]⟩
abbrev zBB (K:List PA->Prop) (c0:Tab) (w:web) (X:St->Prop) (P:Int->(Sl Int)->Bool) (S:Int->(Sl Int)->(Sl Int)):Prop:=∀ ⦃zaJ:Int⦄ ⦃za1:(Sl Int)⦄ ⦃zbB:Nat->List PV⦄,P zaJ za1=true->K (zKd (S zaJ za1))->zbB=zg zac za1->X (zxa c0 w zaJ za1 zbB)
section
variable {K:List PA->Prop}{c0:Tab}{w:web}{zaJ:Int}{za1:(Sl Int)}{zbB:Nat->List PV}{X0:St->Prop}{P0:Int->(Sl Int)->Bool}{S0:Int->(Sl Int)->(Sl Int)}
def zrP (c0:Tab) (w:web) (S0:Int->(Sl Int)->(Sl Int)) (zaJ:Int) (za1:(Sl Int)):(Sl Int) :=
  (cond (decide (zaJ < (w.Net.Nodes.toNat : Int)))
 (S0 (w64 (zaJ+(1:Int))) (⟨za1.len,(setT zaJ.toNat (s85 (zaE (zam c0)) zaJ) za1.get)⟩:Sl Int))
 za1)
def zrQ (c0:Tab) (w:web) (P0:Int->(Sl Int)->Bool) (zaJ:Int) (za1:(Sl Int)):Bool :=
  (cond (decide (zaJ < (w.Net.Nodes.toNat : Int)))
 (decide ((p85 (zaE (zam c0)) zaJ=true)) &&
 (decide ((0≤zaJ/\zaJ < (za1.len:Int))) &&
 (decide ((zaJ.toNat < za1.len)) &&
 (P0 (w64 (zaJ+(1:Int))) (⟨za1.len,(setT zaJ.toNat (s85 (zaE (zam c0)) zaJ) za1.get)⟩:Sl Int)))))
 true)
def zrR (c0:Tab) (w:web):Nat->Int->(Sl Int)->(Sl Int):=lpO (λ _ _=>default) (zrP c0 w)
def zrS (c0:Tab) (w:web):Nat->Int->(Sl Int)->Bool:=lpO (λ _ _=>false) (zrQ c0 w)
def zrT (c0:Tab) (w:web) (zaJ:Int) (za1:(Sl Int)):(Sl Int):=zrR c0 w Fuel zaJ za1
def zrU (c0:Tab) (w:web) (zaJ:Int) (za1:(Sl Int)):Bool:=zrS c0 w Fuel zaJ za1
theorem zAl (hs:zrU c0 w zaJ za1=true) (hk:K (zKd (zrT c0 w zaJ za1))) (zdZ:zbB=zg zac za1):z84a K [1,1,0,1,0] [] (zxa c0 w zaJ za1 zbB) :=
  zl (λ X=>z84a K [1,1,0,1,0,0] [X]) (by kernel_rfl) λ X0 hX =>
  (show ∀ k, zBB K c0 w X0 (zrS c0 w k) (zrR c0 w k) from zeF _ _ (zrQ c0 w) (zrP c0 w) (zBB K c0 w X0)
 (by intro _ _ _ hs;exact absurd hs Bool.false_ne_true)
 (by intro P0 S0 hX0 zaJ za1 zbB hs hk zdZ;subst zdZ;exact hX _ (za2 (by kernel_rfl) (zc hs hk (λ hs hk=>(zaM hs λ hc hs=>And.intro (And.intro (zg9:zam c0=zam (zaE (zam c0))) hc) (zaM hs λ hc hs=>And.intro hc (zaM hs λ hc hs=>And.intro hc (hX0 hs hk (ze9 (enc:=zac) (i:=zaJ.toNat) (k:=0) (f:=za1.get) (new:=(zac (s85 (zaE (zam c0)) zaJ))) (v:=(s85 (zaE (zam c0)) zaJ)) rfl rfl)))))) (λ hs hk=>hk))))) _ hs hk zdZ
def zKe (c0:Tab) (w:web):(Sl Int) :=
  (zrT c0 w (0:Int) (⟨w.Net.Nodes.toNat,(λ _=>(0:Int))⟩:Sl Int))
def zLg (c0:Tab) (w:web):Bool :=
  (decide ((0≤w.Net.Nodes/\w.Net.Nodes=w.Net.Nodes/\w.Net.Nodes≤1000000)) &&
 (zrU c0 w (0:Int) (⟨w.Net.Nodes.toNat,(λ _=>(0:Int))⟩:Sl Int)))
end
theorem zMa (c0:Tab) (w:web) (K:List PA->Prop) (hs:zLg c0 w=true) (hk:K (zKd (zKe c0 w))):vcFun Tryd.prog zLf zw9 84 [.one (.fp (zaB w) 0),.one (.fn 85 [] [.fp (zam c0) 0])] K :=
  za2 (by kernel_rfl) (zaM hs λ hc hs=>And.intro hc (zAl hs hk rfl))
abbrev zLh:Ctrs:=csm T84 (λ _ _=>[]) (λ _=>false)
def zxb:Ann:=⟨26,[(0,zK [0,1] []),(1,zK [1,5] [12]),(2,zK [1,5,14,15] [12]),(3,zK [1,5,14,15,16] [12]),(4,zK [1,5,6,14,15] [12]),(5,zK [1,5,14,15] [12]),(6,zK [1,5,14,15] [12]),(7,zK [4] [12])],
 [(3,zK [1,5,14,15] [12])],
 [],
 [],[]⟩
abbrev zMb:=(Sl Int)
abbrev zKf (r:zMb):List PA:=[.one (.sl r.len 1 (λ i=>zac (r.get i)))]
@[irreducible] def z84b:=ptF Tryd.prog zLh zxb Tryd.f84
def zxc (c0:Tab) (w:web) (zaJ:Int) (za1:(Sl Int)) (zbB:Nat->List PV):St:=⟨[(1,zP (.fn 86 [] [.fp (zam c0) 0])),(5,zv 12),(14,zI (w.Net.Nodes.toNat:Int)),(15,zI zaJ)],[(12,.vec 3 1 8 za1.len zbB)],[]⟩
abbrev zBC (K:List PA->Prop) (c0:Tab) (w:web) (X:St->Prop) (P:Int->(Sl Int)->Bool) (S:Int->(Sl Int)->(Sl Int)):Prop:=∀ ⦃zaJ:Int⦄ ⦃za1:(Sl Int)⦄ ⦃zbB:Nat->List PV⦄,P zaJ za1=true->K (zKf (S zaJ za1))->zbB=zg zac za1->X (zxc c0 w zaJ za1 zbB)
section
variable {K:List PA->Prop}{c0:Tab}{w:web}{zaJ:Int}{za1:(Sl Int)}{zbB:Nat->List PV}{X0:St->Prop}{P0:Int->(Sl Int)->Bool}{S0:Int->(Sl Int)->(Sl Int)}
def zrV (c0:Tab) (w:web) (S0:Int->(Sl Int)->(Sl Int)) (zaJ:Int) (za1:(Sl Int)):(Sl Int) :=
  (cond (decide (zaJ < (w.Net.Nodes.toNat : Int)))
 (S0 (w64 (zaJ+(1:Int))) (⟨za1.len,(setT zaJ.toNat (s86 (zaE (zam c0)) zaJ) za1.get)⟩:Sl Int))
 za1)
def zrW (c0:Tab) (w:web) (P0:Int->(Sl Int)->Bool) (zaJ:Int) (za1:(Sl Int)):Bool :=
  (cond (decide (zaJ < (w.Net.Nodes.toNat : Int)))
 (decide ((p86 (zaE (zam c0)) zaJ=true)) &&
 (decide ((0≤zaJ/\zaJ < (za1.len:Int))) &&
 (decide ((zaJ.toNat < za1.len)) &&
 (P0 (w64 (zaJ+(1:Int))) (⟨za1.len,(setT zaJ.toNat (s86 (zaE (zam c0)) zaJ) za1.get)⟩:Sl Int)))))
 true)
def zrX (c0:Tab) (w:web):Nat->Int->(Sl Int)->(Sl Int):=lpO (λ _ _=>default) (zrV c0 w)
def zrY (c0:Tab) (w:web):Nat->Int->(Sl Int)->Bool:=lpO (λ _ _=>false) (zrW c0 w)
def zrZ (c0:Tab) (w:web) (zaJ:Int) (za1:(Sl Int)):(Sl Int):=zrX c0 w Fuel zaJ za1
def zr0 (c0:Tab) (w:web) (zaJ:Int) (za1:(Sl Int)):Bool:=zrY c0 w Fuel zaJ za1
theorem zAm (hs:zr0 c0 w zaJ za1=true) (hk:K (zKf (zrZ c0 w zaJ za1))) (zdZ:zbB=zg zac za1):z84b K [1,1,0,1,0] [] (zxc c0 w zaJ za1 zbB) :=
  zl (λ X=>z84b K [1,1,0,1,0,0] [X]) (by kernel_rfl) λ X0 hX =>
  (show ∀ k, zBC K c0 w X0 (zrY c0 w k) (zrX c0 w k) from zeF _ _ (zrW c0 w) (zrV c0 w) (zBC K c0 w X0)
 (by intro _ _ _ hs;exact absurd hs Bool.false_ne_true)
 (by intro P0 S0 hX0 zaJ za1 zbB hs hk zdZ;subst zdZ;exact hX _ (za2 (by kernel_rfl) (zc hs hk (λ hs hk=>(zaM hs λ hc hs=>And.intro (And.intro (zg9:zam c0=zam (zaE (zam c0))) hc) (zaM hs λ hc hs=>And.intro hc (zaM hs λ hc hs=>And.intro hc (hX0 hs hk (ze9 (enc:=zac) (i:=zaJ.toNat) (k:=0) (f:=za1.get) (new:=(zac (s86 (zaE (zam c0)) zaJ))) (v:=(s86 (zaE (zam c0)) zaJ)) rfl rfl)))))) (λ hs hk=>hk))))) _ hs hk zdZ
def zKg (c0:Tab) (w:web):(Sl Int) :=
  (zrZ c0 w (0:Int) (⟨w.Net.Nodes.toNat,(λ _=>(0:Int))⟩:Sl Int))
def zLi (c0:Tab) (w:web):Bool :=
  (decide ((0≤w.Net.Nodes/\w.Net.Nodes=w.Net.Nodes/\w.Net.Nodes≤1000000)) &&
 (zr0 c0 w (0:Int) (⟨w.Net.Nodes.toNat,(λ _=>(0:Int))⟩:Sl Int)))
end
theorem zMc (c0:Tab) (w:web) (K:List PA->Prop) (hs:zLi c0 w=true) (hk:K (zKf (zKg c0 w))):vcFun Tryd.prog zLh zxb 84 [.one (.fp (zaB w) 0),.one (.fn 86 [] [.fp (zam c0) 0])] K :=
  za2 (by kernel_rfl) (zaM hs λ hc hs=>And.intro hc (zAm hs hk rfl))
def zEm : List PA → COut
  | [.one (.fp [.int .i64 zak,.sl zai zaA zaj,.fm za6 zaG zaH] 0),.one (.fn 87 [] [.fp c0_t 0])]=>.det (IsE enc_40 4 zaA zaj/\za6=(false,1,false,[none])/\c0_t=zam (zaE c0_t)/\p84 (zaE c0_t) (⟨(⟨zak,(⟨zai,zan zaj⟩:(Sl Tie))⟩:Net),(⟨zaG,zaH⟩:Mp)⟩:web)=true) [.one (.sl ((s84 (zaE c0_t) (⟨(⟨zak,(⟨zai,zan zaj⟩:(Sl Tie))⟩:Net),(⟨zaG,zaH⟩:Mp)⟩:web)).len) 1 (λ i=>zac ((s84 (zaE c0_t) (⟨(⟨zak,(⟨zai,zan zaj⟩:(Sl Tie))⟩:Net),(⟨zaG,zaH⟩:Mp)⟩:web)).get i)))]
  | [.one (.fp [.int .i64 zak,.sl zai zaA zaj,.fm za6 zaG zaH] 0),.one (.fn 85 [] [.fp c0_t 0])]=>.det (IsE enc_40 4 zaA zaj/\za6=(false,1,false,[none])/\c0_t=zam (zaE c0_t)/\zLg (zaE c0_t) (⟨(⟨zak,(⟨zai,zan zaj⟩:(Sl Tie))⟩:Net),(⟨zaG,zaH⟩:Mp)⟩:web)=true) [.one (.sl ((zKe (zaE c0_t) (⟨(⟨zak,(⟨zai,zan zaj⟩:(Sl Tie))⟩:Net),(⟨zaG,zaH⟩:Mp)⟩:web)).len) 1 (λ i=>zac ((zKe (zaE c0_t) (⟨(⟨zak,(⟨zai,zan zaj⟩:(Sl Tie))⟩:Net),(⟨zaG,zaH⟩:Mp)⟩:web)).get i)))]
  | [.one (.fp [.int .i64 zak,.sl zai zaA zaj,.fm za6 zaG zaH] 0),.one (.fn 86 [] [.fp c0_t 0])]=>.det (IsE enc_40 4 zaA zaj/\za6=(false,1,false,[none])/\c0_t=zam (zaE c0_t)/\zLi (zaE c0_t) (⟨(⟨zak,(⟨zai,zan zaj⟩:(Sl Tie))⟩:Net),(⟨zaG,zaH⟩:Mp)⟩:web)=true) [.one (.sl ((zKg (zaE c0_t) (⟨(⟨zak,(⟨zai,zan zaj⟩:(Sl Tie))⟩:Net),(⟨zaG,zaH⟩:Mp)⟩:web)).len) 1 (λ i=>zac ((zKg (zaE c0_t) (⟨(⟨zak,(⟨zai,zan zaj⟩:(Sl Tie))⟩:Net),(⟨zaG,zaH⟩:Mp)⟩:web)).get i)))]
  | _=>.no
theorem zHH:zav Tryd.prog 84:=⟨_,rfl,rfl,by kernel_rfl⟩
theorem zMd:Ok Tryd.prog 84 zEm:=zbk zKc zHH λ args K h=>by
  unfold zEm at h
  split at h
  · rename_i zak zai zaA zaj za6 zaG zaH c0_t
    obtain⟨⟨⟨rfl,zat,rfl⟩,rfl,hT_c0,hs⟩,hk⟩:=h
    try rw[zal zat] at hs
    try rw[zal zat] at hk
    exact⟨(λ _ _=>[]),(λ _=>false),zEk,(by have hq:=q84 (zaE c0_t) (⟨(⟨zak,(⟨zai,zat⟩:(Sl Tie))⟩:Net),(⟨zaG,zaH⟩:Mp)⟩:web) K hs hk;rw[← hT_c0] at hq;exact hq)⟩
  · rename_i zak zai zaA zaj za6 zaG zaH c0_t
    obtain⟨⟨⟨rfl,zat,rfl⟩,rfl,hT_c0,hs⟩,hk⟩:=h
    try rw[zal zat] at hs
    try rw[zal zat] at hk
    exact⟨(λ _ _=>[]),(λ _=>false),zw9,(by have hq:=zMa (zaE c0_t) (⟨(⟨zak,(⟨zai,zat⟩:(Sl Tie))⟩:Net),(⟨zaG,zaH⟩:Mp)⟩:web) K hs hk;rw[← hT_c0] at hq;exact hq)⟩
  · rename_i zak zai zaA zaj za6 zaG zaH c0_t
    obtain⟨⟨⟨rfl,zat,rfl⟩,rfl,hT_c0,hs⟩,hk⟩:=h
    try rw[zal zat] at hs
    try rw[zal zat] at hk
    exact⟨(λ _ _=>[]),(λ _=>false),zxb,(by have hq:=zMc (zaE c0_t) (⟨(⟨zak,(⟨zai,zat⟩:(Sl Tie))⟩:Net),(⟨zaG,zaH⟩:Mp)⟩:web) K hs hk;rw[← hT_c0] at hq;exact hq)⟩
  · exact h.elim
abbrev T45:Tabs:=((((Tabs.nil.addF 74 zsN).addF 76 zsP).addF 83 zEg).addF 84 zEm)
theorem zKh:TabsOk Tryd.prog T45:=((((TabsOk.nil.addF zI3).addF zI6).addF zL5).addF zMd)
abbrev G45:Ctrs:=csm T45 (λ _ _=>[]) (λ _=>false)
def zHI:Ann:=⟨31,[(0,zK [1,2,3] [3]),(1,zK [1,8,9] []),(2,zK [1,8,9,20] []),(3,zK [6,7] []),(4,zK [1,8,24] []),(5,zK [6,7] []),(6,zK [8,10] [10]),(7,zK [6,7] [])],
 [],
 [],
 [],[]⟩
abbrev R45:=((Sl Int)×Int)
abbrev e45 (r:R45):List PA:=[.one (.sl r.1.len 1 (λ i=>zac (r.1.get i))),.one (.int .i64 r.2)]
section
variable {K:List PA->Prop}{n:Net}{zaa:Int}{to:Int}
def s45 (n:Net) (zaa:Int) (to:Int):((Sl Int)×Int) :=
  (cond ((s74 n (⟨2, zas (zbc [(zac zaa), (zac to)])⟩ : (Sl Int))).2 == 0)
 (cond ((0:Int) != (0:Int))
 ((⟨0,λ _=>default⟩:(Sl Int)),(0:Int))
 (cond (!(s83 (⟨(s74 n (⟨2, zas (zbc [(zac zaa), (zac to)])⟩ : (Sl Int))).1.Net, ((s74 n (⟨2, zas (zbc [(zac zaa), (zac to)])⟩ : (Sl Int))).1.out)⟩ : web)))
 ((⟨0,λ _=>default⟩:(Sl Int)),(6:Int))
 ((s84 (zaE (zam (s76 (⟨(s74 n (⟨2,zas (zbc [(zac zaa),(zac to)])⟩:(Sl Int))).1.Net,((s74 n (⟨2,zas (zbc [(zac zaa),(zac to)])⟩:(Sl Int))).1.out)⟩:web) zaa))) (⟨(s74 n (⟨2,zas (zbc [(zac zaa),(zac to)])⟩:(Sl Int))).1.Net,((s74 n (⟨2,zas (zbc [(zac zaa),(zac to)])⟩:(Sl Int))).1.out)⟩:web)),(0:Int))))
 (cond ((s74 n (⟨2, zas (zbc [(zac zaa), (zac to)])⟩ : (Sl Int))).2 != (0:Int))
 ((⟨0,λ _=>default⟩:(Sl Int)),(s74 n (⟨2,zas (zbc [(zac zaa),(zac to)])⟩:(Sl Int))).2)
 default))
def p45 (n:Net) (zaa:Int) (to:Int):Bool :=
  (cond ((s74 n (⟨2, zas (zbc [(zac zaa), (zac to)])⟩ : (Sl Int))).2 == 0)
 (decide ((p74 n (⟨2,zas (zbc [(zac zaa),(zac to)])⟩:(Sl Int))=true)) &&
 (cond ((0:Int) != (0:Int))
 true
 (decide ((p83 (⟨(s74 n (⟨2,zas (zbc [(zac zaa),(zac to)])⟩:(Sl Int))).1.Net,((s74 n (⟨2,zas (zbc [(zac zaa),(zac to)])⟩:(Sl Int))).1.out)⟩:web)=true)) &&
 (cond (!(s83 (⟨(s74 n (⟨2, zas (zbc [(zac zaa), (zac to)])⟩ : (Sl Int))).1.Net, ((s74 n (⟨2, zas (zbc [(zac zaa), (zac to)])⟩ : (Sl Int))).1.out)⟩ : web)))
 true
 (decide ((p76 (⟨(s74 n (⟨2,zas (zbc [(zac zaa),(zac to)])⟩:(Sl Int))).1.Net,((s74 n (⟨2,zas (zbc [(zac zaa),(zac to)])⟩:(Sl Int))).1.out)⟩:web) zaa=true)) &&
 (decide ((p84 (zaE (zam (s76 (⟨(s74 n (⟨2,zas (zbc [(zac zaa),(zac to)])⟩:(Sl Int))).1.Net,((s74 n (⟨2,zas (zbc [(zac zaa),(zac to)])⟩:(Sl Int))).1.out)⟩:web) zaa))) (⟨(s74 n (⟨2,zas (zbc [(zac zaa),(zac to)])⟩:(Sl Int))).1.Net,((s74 n (⟨2,zas (zbc [(zac zaa),(zac to)])⟩:(Sl Int))).1.out)⟩:web)=true)) &&
 true))))))
 (decide ((p74 n (⟨2,zas (zbc [(zac zaa),(zac to)])⟩:(Sl Int))=true)) &&
 (cond ((s74 n (⟨2, zas (zbc [(zac zaa), (zac to)])⟩ : (Sl Int))).2 != (0:Int))
 true
 false)))
end
theorem q45 (n:Net) (zaa:Int) (to:Int) (K:List PA->Prop) (hs:p45 n zaa to=true) (hk:K (e45 (s45 n zaa to))):vcFun Tryd.prog G45 zHI 45 [.agg (enc_24 n),.one (.int .i64 zaa),.one (.int .i64 to)] (Wk K) :=
  za2 (by kernel_rfl) (zc hs hk (λ hs hk=>(zaM hs λ hc hs=>And.intro (And.intro (zE enc_40 4 n.Ties.get) (And.intro ((zdd []):IsE zac 1 1 (zbc [(zac zaa),(zac to)])) hc)) (zc hs hk (λ hs hk=>((wk hk (zhm (.one (.nil _ _)) (zhm (.one (.rfl _)) znD))):Wk K [.one (.nils),.one (.int .i64 (0:Int))])) (λ hs hk=>(zaM hs λ hc hs=>And.intro (And.intro (zE enc_40 4 ((s74 n (⟨2,zas (zbc [(zac zaa),(zac to)])⟩:(Sl Int))).1.Net.Ties.get)) (And.intro (rfl:((false,1,false,[none]):MQ)=(false,1,false,[none])) hc)) (zc hs hk (λ hs hk=>((wk hk (zhm (.one (.nil _ _)) (zhm (.one (.rfl _)) znD))):Wk K [.one (.nils),.one (.int .i64 (6:Int))])) (λ hs hk=>(zaM hs λ hc hs=>And.intro (And.intro (zE enc_40 4 ((s74 n (⟨2,zas (zbc [(zac zaa),(zac to)])⟩:(Sl Int))).1.Net.Ties.get)) (And.intro (rfl:((false,1,false,[none]):MQ)=(false,1,false,[none])) hc)) (zaM hs λ hc hs=>And.intro (And.intro (zE enc_40 4 ((s74 n (⟨2,zas (zbc [(zac zaa),(zac to)])⟩:(Sl Int))).1.Net.Ties.get)) (And.intro (rfl:((false,1,false,[none]):MQ)=(false,1,false,[none])) (And.intro (zg9:zam (s76 (⟨(s74 n (⟨2,zas (zbc [(zac zaa),(zac to)])⟩:(Sl Int))).1.Net,((s74 n (⟨2,zas (zbc [(zac zaa),(zac to)])⟩:(Sl Int))).1.out)⟩:web) zaa)=zam (zaE (zam (s76 (⟨(s74 n (⟨2,zas (zbc [(zac zaa),(zac to)])⟩:(Sl Int))).1.Net,((s74 n (⟨2,zas (zbc [(zac zaa),(zac to)])⟩:(Sl Int))).1.out)⟩:web) zaa)))) hc))) ((zgk hk):Wk K [.one (.sl ((s84 (zaE (zam (s76 (⟨(s74 n (⟨2,zas (zbc [(zac zaa),(zac to)])⟩:(Sl Int))).1.Net,((s74 n (⟨2,zas (zbc [(zac zaa),(zac to)])⟩:(Sl Int))).1.out)⟩:web) zaa))) (⟨(s74 n (⟨2,zas (zbc [(zac zaa),(zac to)])⟩:(Sl Int))).1.Net,((s74 n (⟨2,zas (zbc [(zac zaa),(zac to)])⟩:(Sl Int))).1.out)⟩:web)).len) 1 (λ i=>zac ((s84 (zaE (zam (s76 (⟨(s74 n (⟨2,zas (zbc [(zac zaa),(zac to)])⟩:(Sl Int))).1.Net,((s74 n (⟨2,zas (zbc [(zac zaa),(zac to)])⟩:(Sl Int))).1.out)⟩:web) zaa))) (⟨(s74 n (⟨2,zas (zbc [(zac zaa),(zac to)])⟩:(Sl Int))).1.Net,((s74 n (⟨2,zas (zbc [(zac zaa),(zac to)])⟩:(Sl Int))).1.out)⟩:web)).get i))),.one (.int .i64 (0:Int))])))))))))) (λ hs hk=>(zaM hs λ hc hs=>And.intro (And.intro (zE enc_40 4 n.Ties.get) (And.intro ((zdd []):IsE zac 1 1 (zbc [(zac zaa),(zac to)])) hc)) (zc hs hk (λ hs hk=>((wk hk (zhm (.one (.nil _ _)) (zhm (.one (.rfl _)) znD))):Wk K [.one (.nils),.one (.int .i64 ((s74 n (⟨2,zas (zbc [(zac zaa),(zac to)])⟩:(Sl Int))).2))])) (λ hs hk=>(absurd hs Bool.false_ne_true:False))))))
def zEn : List PA → COut
  | [.agg [.int .i64 zaf,.sl zae zay zad],.one (.int .i64 a1),.one (.int .i64 a2)]=>.det (IsE enc_40 4 zay zad/\p45 (⟨zaf,(⟨zae,zan zad⟩:(Sl Tie))⟩:Net) a1 a2=true) [.one (.sl (((s45 (⟨zaf,(⟨zae,zan zad⟩:(Sl Tie))⟩:Net) a1 a2).1).len) 1 (λ i=>zac (((s45 (⟨zaf,(⟨zae,zan zad⟩:(Sl Tie))⟩:Net) a1 a2).1).get i))),.one (.int .i64 ((s45 (⟨zaf,(⟨zae,zan zad⟩:(Sl Tie))⟩:Net) a1 a2).2))]
  | _=>.no
theorem zHJ:zav Tryd.prog 45:=⟨_,rfl,rfl,by kernel_rfl⟩
theorem zMe:Ok Tryd.prog 45 zEn:=zhz zKh zHJ λ args K h=>by
  unfold zEn at h
  split at h
  · rename_i zaf zae zay zad a1 a2
    obtain⟨⟨⟨rfl,zaq,rfl⟩,hs⟩,hk⟩:=h
    try rw[zal zaq] at hs
    try rw[zal zaq] at hk
    exact⟨_,zfs zgj _,(λ _ _=>[]),(λ _=>false),zHI,q45 (⟨zaf,(⟨zae,zaq⟩:(Sl Tie))⟩:Net) a1 a2 K hs hk⟩
  · exact h.elim
abbrev T49:Tabs:=(((Tabs.nil.addF 67 zuQ).addF 88 zuV).addF 89 zAc)
theorem zKi:TabsOk Tryd.prog T49:=(((TabsOk.nil.addF zJy).addF zJD).addF zLe)
abbrev G49:Ctrs:=csm T49 (λ _ _=>[]) (λ _=>false)
def zEo:Ann:=⟨31,[(0,zK [1] [1]),(1,zK [1,10] [1]),(2,zK [2,3] []),(3,zK [4] [13]),(4,zK [4,16] [13]),(5,zK [2,3] []),(6,zK [4,5] [13]),(7,zK [5,18,19,20] []),(8,zK [5,18,19,20,21] [28]),(9,zK [5,7,18,19,20] [7,28]),(10,zK [5,18,19,20] [28]),(11,zK [5,18,19,20] [28]),(12,zK [2,3] [28])],
 [(8,⟨[5,18,19,20],[28],[(5,28,75,λ _=>zaR default)],[],[],[],[]⟩)],
 [(2,zK [1,10] [1]),(3,zK [1] [1]),(5,zK [4,16] [13]),(6,zK [4] [13]),(8,zK [5,18,19,20] [])],
 [],[]⟩
abbrev R49:=((Sl Use)×Int)
abbrev e49 (r:R49):List PA:=[.one (.sl r.1.len 2 (λ i=>zaR (r.1.get i))),.one (.int .i64 r.2)]
@[irreducible] def z49:=ptF Tryd.prog G49 zEo Tryd.f49
def zBD (zcv:(Sl step)) (zcG:Int) (zds:Int) (zcT:(Sl Use)) (zfL:Nat->List PV):St:=⟨[(5,zv 28),(18,zS zaC 5 zcv),(19,zI zcG),(20,zI zds)],[(28,.vec 75 2 16 zcT.len zfL)],[]⟩
abbrev zHK (K:List PA->Prop) (zcv:(Sl step)) (zcG:Int) (X:St->Prop) (P:Int->(Sl Use)->Bool) (S:Int->(Sl Use)->((Sl Use)×Int)):Prop:=∀ ⦃zds:Int⦄ ⦃zcT:(Sl Use)⦄ ⦃zfL:Nat->List PV⦄,P zds zcT=true->K (e49 (S zds zcT))->zfL=zg zaR zcT->X (zBD zcv zcG zds zcT zfL)
section
variable {K:List PA->Prop}{n:Net}{za3:Bool}{zpE:Bool}{zcv:(Sl step)}{zcG:Int}{zxd:Nat->List PV}{zds:Int}{zcT:(Sl Use)}{zfL:Nat->List PV}{X5:St->Prop}{P5:Int->(Sl Use)->Bool}{S5:Int->(Sl Use)->((Sl Use)×Int)}
def zxe (zcv:(Sl step)) (zcG:Int) (S5:Int->(Sl Use)->((Sl Use)×Int)) (zds:Int) (zcT:(Sl Use)):((Sl Use)×Int) :=
  (cond (decide (zds < zcG))
 (S5 (w64 (zds+(1:Int))) (⟨(zcT.len+1),(zf2 zcT.len zcT.get (λ _=>(zcv.get zds.toNat).Use))⟩:Sl Use))
 (zcT,(0:Int)))
def zxf (zcv:(Sl step)) (zcG:Int) (P5:Int->(Sl Use)->Bool) (zds:Int) (zcT:(Sl Use)):Bool :=
  (cond (decide (zds < zcG))
 (decide ((0≤zds/\zds < (zcv.len:Int))) &&
 (decide (((zcT.len+1) * 16≤140737488355328/\zcT.len+1≤9223372036854775807)) &&
 (P5 (w64 (zds+(1:Int))) (⟨(zcT.len+1),(zf2 zcT.len zcT.get (λ _=>(zcv.get zds.toNat).Use))⟩:Sl Use))))
 true)
def zxg (zcv:(Sl step)) (zcG:Int):Nat->Int->(Sl Use)->((Sl Use)×Int):=lpO (λ _ _=>default) (zxe zcv zcG)
def zxh (zcv:(Sl step)) (zcG:Int):Nat->Int->(Sl Use)->Bool:=lpO (λ _ _=>false) (zxf zcv zcG)
def zxi (zcv:(Sl step)) (zcG:Int) (zds:Int) (zcT:(Sl Use)):((Sl Use)×Int):=zxg zcv zcG Fuel zds zcT
def zxj (zcv:(Sl step)) (zcG:Int) (zds:Int) (zcT:(Sl Use)):Bool:=zxh zcv zcG Fuel zds zcT
theorem zEp (hs:zxj zcv zcG zds zcT=true) (hk:K (e49 (zxi zcv zcG zds zcT))) (zpF:zfL=zg zaR zcT):z49 (Wk K) [1,1,1,1,1,0,1,0] [] (zBD zcv zcG zds zcT zfL) :=
  zl (λ X=>z49 (Wk K) [1,1,1,1,1,0,1,0,0] [X]) (by kernel_rfl) λ X5 hX =>
  (show ∀ k, zHK K zcv zcG X5 (zxh zcv zcG k) (zxg zcv zcG k) from zeF _ _ (zxf zcv zcG) (zxe zcv zcG) (zHK K zcv zcG X5)
 (by intro _ _ _ hs;exact absurd hs Bool.false_ne_true)
 (by intro P5 S5 hX5 zds zcT zfL hs hk zpF;subst zpF;exact hX _ (za2 (by kernel_rfl) (zc hs hk (λ hs hk=>(zaM hs λ hc hs=>And.intro hc (zaM hs λ hc hs=>And.intro hc (hX5 hs hk (zit (enc:=zaR) (f:=zcT.get) (h:=(λ _=>(zcv.get zds.toNat).Use)) rfl rfl))))) (λ hs hk=>((zgk hk):Wk K [.one (.sl zcT.len 2 (λ i=>zaR (zcT.get i))),.one (.int .i64 (0:Int))])))))) _ hs hk zpF
def zxk (zcv:(Sl step)) (zcG:Int):((Sl Use)×Int) :=
  (zxi zcv zcG (0:Int) (⟨0,(λ _=>default)⟩:Sl Use))
def zxl (zcv:(Sl step)) (zcG:Int):Bool :=
  (zxj zcv zcG (0:Int) (⟨0,(λ _=>default)⟩:Sl Use))
theorem zEq (hs:zxl zcv zcG=true) (hk:K (e49 (zxk zcv zcG))) (zEr:zxd=zg zaC zcv):z49 (Wk K) [1,1,1,1,1,0,1] [] ⟨[(5,zP (.nils)),(18,zP (.sl zcv.len 5 zxd)),(19,zI zcG),(20,zI (0:Int))],[],[]⟩:=by subst zEr;exact za2 (by kernel_rfl) (zEp hs hk rfl)
def zxm (n:Net):((Sl Use)×Int) :=
  (zxk (s89 (⟨n,(⟨0,(λ _=>none)⟩:Mp)⟩:web)) ((s89 (⟨n,(⟨0,(λ _=>none)⟩:Mp)⟩:web)).len:Int))
def zxn (n:Net):Bool :=
  (decide ((p89 (⟨n,(⟨0,(λ _=>none)⟩:Mp)⟩:web)=true)) &&
 (zxl (s89 (⟨n,(⟨0,(λ _=>none)⟩:Mp)⟩:web)) ((s89 (⟨n,(⟨0,(λ _=>none)⟩:Mp)⟩:web)).len:Int)))
theorem zEs (hs:zxn n=true) (hk:K (e49 (zxm n))):z49 (Wk K) [1,1,1,1] [] ⟨[(4,zp 13 0)],[(13,.box 105 (zm (zaB (⟨n,(⟨0,(λ _=>none)⟩:Mp)⟩:web))))],[]⟩:=za2 (by kernel_rfl) (zaM hs λ hc hs=>And.intro (And.intro ((λ _=>rfl):(∀ i,sc2 ((λ i=>zaC ((s89 (⟨n,(⟨0,(λ _=>none)⟩:Mp)⟩:web)).get i)) i)=true)) (And.intro (zE enc_40 4 n.Ties.get) (And.intro (rfl:((false,1,false,[none]):MQ)=(false,1,false,[none])) hc))) (zEq hs hk rfl))
def zxo (n:Net) (zpE:Bool):((Sl Use)×Int) :=
  (cond zpE
 ((⟨0,λ _=>default⟩:(Sl Use)),(6:Int))
 (zxm n))
def zxp (n:Net) (zpE:Bool):Bool :=
  (cond zpE
 true
 (zxn n))
theorem zEt (hs:zxp n zpE=true) (hk:K (e49 (zxo n zpE))):z49 (Wk K) [1,1,1,0,1] [] ⟨[(4,zp 13 0),(16,zB zpE)],[(13,.box 105 (zm (zaB (⟨n,(⟨0,(λ _=>none)⟩:Mp)⟩:web))))],[]⟩:=za2 (by kernel_rfl) (zc hs hk (λ hs hk=>((wk hk (zhm (.one (.nil _ _)) (zhm (.one (.rfl _)) znD))):Wk K [.one (.nils),.one (.int .i64 (6:Int))])) (λ hs hk=>(zEs hs hk)))
def zxq (n:Net):((Sl Use)×Int) :=
  (zxo n (!(s88 (⟨n,(⟨0,(λ _=>none)⟩:Mp)⟩:web))))
def zxr (n:Net):Bool :=
  (decide ((p88 (⟨n,(⟨0,(λ _=>none)⟩:Mp)⟩:web)=true)) &&
 (zxp n (!(s88 (⟨n,(⟨0,(λ _=>none)⟩:Mp)⟩:web)))))
theorem zEu (hs:zxr n=true) (hk:K (e49 (zxq n))):z49 (Wk K) [1,1] [] ⟨[(1,zp 1 0)],[(1,.box 24 (zm (enc_24 n)))],[]⟩:=za2 (by kernel_rfl) (zaM hs λ hc hs=>And.intro (And.intro (zE enc_40 4 n.Ties.get) (And.intro (rfl:((false,1,false,[none]):MQ)=(false,1,false,[none])) hc)) (zEt hs hk))
def zxs (n:Net) (za3:Bool):((Sl Use)×Int) :=
  (cond za3
 ((⟨0,λ _=>default⟩:(Sl Use)),(2:Int))
 (zxq n))
def zxt (n:Net) (za3:Bool):Bool :=
  (cond za3
 true
 (zxr n))
theorem zEv (hs:zxt n za3=true) (hk:K (e49 (zxs n za3))):z49 (Wk K) [1,0,1] [] ⟨[(1,zp 1 0),(10,zB za3)],[(1,.box 24 (zm (enc_24 n)))],[]⟩:=za2 (by kernel_rfl) (zc hs hk (λ hs hk=>((wk hk (zhm (.one (.nil _ _)) (zhm (.one (.rfl _)) znD))):Wk K [.one (.nils),.one (.int .i64 (2:Int))])) (λ hs hk=>(zEu hs hk)))
def s49 (n:Net):((Sl Use)×Int) :=
  (zxs n (!(s67 n)))
def p49 (n:Net):Bool :=
  (decide ((p67 n=true)) &&
 (zxt n (!(s67 n))))
end
theorem q49 (n:Net) (K:List PA->Prop) (hs:p49 n=true) (hk:K (e49 (s49 n))):vcFun Tryd.prog G49 zEo 49 [.agg (enc_24 n)] (Wk K) :=
  za2 (by kernel_rfl) (zaM hs λ hc hs=>And.intro (And.intro (zE enc_40 4 n.Ties.get) hc) (zEv hs hk))
def zEw : List PA → COut
  | [.agg [.int .i64 zaf,.sl zae zay zad]]=>.det (IsE enc_40 4 zay zad/\p49 (⟨zaf,(⟨zae,zan zad⟩:(Sl Tie))⟩:Net)=true) [.one (.sl (((s49 (⟨zaf,(⟨zae,zan zad⟩:(Sl Tie))⟩:Net)).1).len) 2 (λ i=>zaR (((s49 (⟨zaf,(⟨zae,zan zad⟩:(Sl Tie))⟩:Net)).1).get i))),.one (.int .i64 ((s49 (⟨zaf,(⟨zae,zan zad⟩:(Sl Tie))⟩:Net)).2))]
  | _=>.no
theorem zHL:zav Tryd.prog 49:=⟨_,rfl,rfl,by kernel_rfl⟩
theorem zMf:Ok Tryd.prog 49 zEw:=zhz zKi zHL λ args K h=>by
  unfold zEw at h
  split at h
  · rename_i zaf zae zay zad
    obtain⟨⟨⟨rfl,zaq,rfl⟩,hs⟩,hk⟩:=h
    try rw[zal zaq] at hs
    try rw[zal zaq] at hk
    exact⟨_,zfs zgj _,(λ _ _=>[]),(λ _=>false),zEo,q49 (⟨zaf,(⟨zae,zaq⟩:(Sl Tie))⟩:Net) K hs hk⟩
  · exact h.elim
abbrev T53:Tabs:=Tabs.nil
theorem zKj:TabsOk Tryd.prog T53:=TabsOk.nil
abbrev G53:Ctrs:=csm T53 (λ _ _=>[]) (λ _=>false)
def zEx:Ann:=⟨26,[(0,zK [0,1] []),(1,zK [0,1,10] []),(2,zK [4] []),(3,zK [0,1,5] []),(4,zK [0,1,5,14] []),(5,zK [0,1,5] []),(6,zK [0,1,5,25] []),(7,zK [4] []),(8,zK [4] [])],
 [(4,zK [0,1,5] [])],
 [(3,zK [0,1] [])],
 [],[]⟩
abbrev R53:=Bool
abbrev e53 (r:R53):List PA:=[.one (.bool r)]
@[irreducible] def z53:=ptF Tryd.prog G53 zEx Tryd.f53
def zBE (a:(Sl Use)) (b:(Sl Use)) (iv1:Int):St:=⟨[(0,zS zaR 2 a),(1,zS zaR 2 b),(5,zI iv1)],[],[]⟩
abbrev zHM (K:List PA->Prop) (a:(Sl Use)) (b:(Sl Use)) (X:St->Prop) (P:Int->Bool) (S:Int->Bool):Prop:=∀ ⦃iv1:Int⦄,P iv1=true->K (e53 (S iv1))->X (zBE a b iv1)
section
variable {K:List PA->Prop}{a:(Sl Use)}{b:(Sl Use)}{iv1:Int}{X1:St->Prop}{P1:Int->Bool}{S1:Int->Bool}
def zxu (a:(Sl Use)) (b:(Sl Use)) (S1:Int->Bool) (iv1:Int):Bool :=
  (cond (decide (iv1 < (a.len : Int)))
 (cond (!(match ((a.get iv1.toNat).Tie == (b.get iv1.toNat).Tie) with | true => (match ((a.get iv1.toNat).Back == (b.get iv1.toNat).Back) with | true => true | false => false) | false => false))
 false
 (S1 (w64 (iv1+(1:Int)))))
 true)
def zxv (a:(Sl Use)) (b:(Sl Use)) (P1:Int->Bool) (iv1:Int):Bool :=
  (cond (decide (iv1 < (a.len : Int)))
 (decide ((0≤iv1/\iv1 < (a.len:Int))) &&
 (decide ((0≤iv1/\iv1 < (b.len:Int))) &&
 (cond (!(match ((a.get iv1.toNat).Tie == (b.get iv1.toNat).Tie) with | true => (match ((a.get iv1.toNat).Back == (b.get iv1.toNat).Back) with | true => true | false => false) | false => false))
 true
 (P1 (w64 (iv1+(1:Int)))))))
 true)
def zxw (a:(Sl Use)) (b:(Sl Use)):Nat->Int->Bool:=lpO (λ _=>default) (zxu a b)
def zxx (a:(Sl Use)) (b:(Sl Use)):Nat->Int->Bool:=lpO (λ _=>false) (zxv a b)
def zxy (a:(Sl Use)) (b:(Sl Use)) (iv1:Int):Bool:=zxw a b Fuel iv1
def zxz (a:(Sl Use)) (b:(Sl Use)) (iv1:Int):Bool:=zxx a b Fuel iv1
theorem zEy (hs:zxz a b iv1=true) (hk:K (e53 (zxy a b iv1))):z53 K [1,1,0,1,0] [] (zBE a b iv1) :=
  zl (λ X=>z53 K [1,1,0,1,0,0] [X]) (by kernel_rfl) λ X1 hX =>
  (show ∀ k, zHM K a b X1 (zxx a b k) (zxw a b k) from zeF _ _ (zxv a b) (zxu a b) (zHM K a b X1)
 (by intro _ hs;exact absurd hs Bool.false_ne_true)
 (by intro P1 S1 hX1 iv1 hs hk;exact hX _ (za2 (by kernel_rfl) (zc hs hk (λ hs hk=>(zaM hs λ hc hs=>And.intro hc (zaM hs λ hc hs=>And.intro hc (zc hs hk (λ hs hk=>hk) (λ hs hk=>(hX1 hs hk)))))) (λ hs hk=>hk))))) _ hs hk
def zxA (a:(Sl Use)) (b:(Sl Use)):Bool :=
  (zxy a b (0:Int))
def zxB (a:(Sl Use)) (b:(Sl Use)):Bool :=
  (zxz a b (0:Int))
theorem zEz (hs:zxB a b=true) (hk:K (e53 (zxA a b))):z53 K [1,1] [] ⟨[(0,zS zaR 2 a),(1,zS zaR 2 b)],[],[]⟩:=za2 (by kernel_rfl) (zEy hs hk)
def s53 (a:(Sl Use)) (b:(Sl Use)):Bool :=
  (cond ((a.len : Int) != (b.len : Int))
 false
 (zxA a b))
def p53 (a:(Sl Use)) (b:(Sl Use)):Bool :=
  (cond ((a.len : Int) != (b.len : Int))
 true
 (zxB a b))
end
theorem q53 (a:(Sl Use)) (b:(Sl Use)) (K:List PA->Prop) (hs:p53 a b=true) (hk:K (e53 (s53 a b))):vcFun Tryd.prog G53 zEx 53 [.one (.sl a.len 2 (λ i=>zaR (a.get i))),.one (.sl b.len 2 (λ i=>zaR (b.get i)))] K :=
  za2 (by kernel_rfl) (zc hs hk (λ hs hk=>hk) (λ hs hk=>(zEz hs hk)))
def zEA : List PA → COut
  | [.one (.sl zfB zk9 zfC),.one (.sl zgc zmM zf3)]=>.det (IsE zaR 2 zk9 zfC/\IsE zaR 2 zmM zf3/\p53 (⟨zfB,zc6 zfC⟩:(Sl Use)) (⟨zgc,zc6 zf3⟩:(Sl Use))=true) [.one (.bool (s53 (⟨zfB,zc6 zfC⟩:(Sl Use)) (⟨zgc,zc6 zf3⟩:(Sl Use))))]
  | _=>.no
theorem zHN:zav Tryd.prog 53:=⟨_,rfl,rfl,by kernel_rfl⟩
theorem zMg:Ok Tryd.prog 53 zEA:=zbk zKj zHN λ args K h=>by
  unfold zEA at h
  split at h
  · rename_i zfB zk9 zfC zgc zmM zf3
    obtain⟨⟨⟨rfl,zh0,rfl⟩,⟨rfl,zj4,rfl⟩,hs⟩,hk⟩:=h
    try rw[zc7 zh0] at hs
    try rw[zc7 zh0] at hk
    try rw[zc7 zj4] at hs
    try rw[zc7 zj4] at hk
    exact⟨(λ _ _=>[]),(λ _=>false),zEx,q53 (⟨zfB,zh0⟩:(Sl Use)) (⟨zgc,zj4⟩:(Sl Use)) K hs hk⟩
  · exact h.elim
abbrev T92:Tabs:=((Tabs.nil.addF 93 znF).addI 110 znH)
theorem zKk:TabsOk Tryd.prog T92:=((TabsOk.nil.addF zFP).addI zsM)
abbrev G92:Ctrs:=csm T92 (λ _ _=>[]) (λ _=>false)
def ziJ:Ann:=⟨49,[(0,zK [0,1,2,3,4] [0,1,2,3,4,4099]),(1,zK [0,1,2,3,4,7] [0,1,2,3,4,4099]),(2,zK [0,1,2,3,4,5,7] [0,1,2,3,4,5,4099]),(3,zK [0,1,2,3,4,5,7,41] [0,1,2,3,4,5,4099]),(4,zK [0,1,2,3,4,5] [0,1,2,3,4,5,4099]),(5,zK [0,1,2,3,4] [0,1,2,3,4,4099]),(6,zK [0,1,2,3,4] [0,1,2,3,4,4099]),(7,zK [0,1,2,3,4] [0,1,2,3,4,4099])],
 [(2,zK [0,1,2,3,4,7] [0,1,2,3,4,4099])],
 [],
 [],[]⟩
def zfM (w:web) (at_:Int) (d:Tab) (out:(Sl Use)):St:=⟨[(0,.one (.c (.ptr 0 0))),(1,.one (.c (.ptr 1 0))),(2,.one (.c (.ptr 2 0))),(3,.one (.c (.ptr 3 0))),(4,.one (.c (.ptr 4 0))),(7,.one (.c (.p (.fn 110 [] [.fp [.fp (zaB w) 0] 0]))))],[(0,.box 102 [.p (.fp (zaB w) 0)]),(1,.box 3 [.p (.int .i64 at_)]),(2,.box 116 (zm (zam d))),(3,.box 67 [.vec 4099]),(4,.box 4 [.p (.bool false)]),(4099,.vec 75 2 16 out.len (λ i=>zaR (out.get i)))],[]⟩
def zkg (K:List PA×List XA->Prop) (w:web) (at_:Int) (d:Tab) (out:(Sl Use)):Prop:=vc Tryd.prog G92 ziJ (cdF Tryd.f92 [1,0,1,0]) (ze6 0 (sqK Tryd.prog G92 ziJ (cdF Tryd.f92 [1,1]) (zkw Tryd.prog Tryd.f92 [.box 102 [.p (.fp (zaB w) 0)],.box 3 [.p (.int .i64 at_)],.box 116 (xcm (zam d)),.box 67 [.vec 75 2 16 out.len (λ i=>zaR (out.get i))]] (λ a b=>K (a,b))))) (zfM w at_ d out)
theorem zEB (w : web) (at_ : Int) (d : Tab) (out : (Sl Use)) (K : List PA × List XA → Prop) :
  zjW Tryd.prog G92 ziJ 92 [.box 102 [.p (.fp (zaB w) 0)],.box 3 [.p (.int .i64 at_)],.box 116 (xcm (zam d)),.box 67 [.vec 75 2 16 out.len (λ i=>zaR (out.get i))]] (λ a b=>K (a,b)) =
  ((IsE enc_40 4 4 (λ i=>enc_40 (w.Net.Ties.get i))/\((false,1,false,[none]):MQ)=(false,1,false,[none])) /\
 (zkg K w at_ d out)):=by kernel_rfl
def znV (K:List PA×List XA->Prop) (w:web) (at_:Int) (d:Tab) (out:(Sl Use)):Prop :=
  (K ([.one (.bool false)],[.box 102 [.p (.fp (zaB w) 0)],.box 3 [.p (.int .i64 at_)],.box 116 (xcm (zam d)),.box 67 [.vec 75 2 16 out.len (λ i=>zaR (out.get i))]]))
def znW (K:List PA×List XA->Prop) (X0:List (List PA)->St->Prop) (y0:step) (rest0:List (List PA)) (w:web) (at_:Int) (d:Tab) (out:(Sl Use)):Prop :=
  (zc4 (y0.from_ == at_)
 (((0≤y0.to/\y0.to < (40:Int))) /\
 (zc4 (!(match ((tg 80 d (0 + y0.to.toNat * 2 + 0)) == (1000000000000:Int)) with | true => (match ((tg 80 d (0 + y0.to.toNat * 2 + 0 + 1)) == (0:Int)) with | true => true | false => false) | false => false))
 (((0≤y0.to/\y0.to < (40:Int))) /\
 (((0≤y0.to/\y0.to < (40:Int))) /\
 (((0≤at_/\at_ < (40:Int))) /\
 (zc4 (match ((w64 ((tg 80 d (0 + y0.to.toNat * 2 + 0)) + y0.length)) == (tg 80 d (0 + at_.toNat * 2 + 0))) with | true => (match ((w64 ((tg 80 d (0 + y0.to.toNat * 2 + 1)) + (1:Int))) == (tg 80 d (0 + at_.toNat * 2 + 0 + 1))) with | true => true | false => false) | false => false)
 ((((out.len+1) * 16≤140737488355328/\out.len+1≤9223372036854775807)) /\
 (K ([.one (.bool true)],[.box 102 [.p (.fp (zaB w) 0)],.box 3 [.p (.int .i64 y0.to)],.box 116 (xcm (zam d)),.box 67 [.vec 75 2 16 (out.len+1) (appG out.len (λ i=>zaR (out.get i)) (λ _=>(zaR y0.Use)))]])))
 (X0 rest0 (zfM w at_ d out))))))
 (X0 rest0 (zfM w at_ d out))))
 (X0 rest0 (zfM w at_ d out)))
theorem zpG (K:List PA×List XA->Prop) (w:web) (at_:Int) (d:Tab) (out:(Sl Use)):(ze6 0 (sqK Tryd.prog G92 ziJ (cdF Tryd.f92 [1,1]) (zkw Tryd.prog Tryd.f92 [.box 102 [.p (.fp (zaB w) 0)],.box 3 [.p (.int .i64 at_)],.box 116 (xcm (zam d)),.box 67 [.vec 75 2 16 out.len (λ i=>zaR (out.get i))]] (λ a b=>K (a,b))))) .normal (zfM w at_ d out)=znV K w at_ d out:=by kernel_rfl
theorem zpH (K : List PA × List XA → Prop) (X0 : List (List PA) → St → Prop) (y0 : step) (rest0 : List (List PA)) (w : web) (at_ : Int) (d : Tab) (out : (Sl Use)) :
  zJp Tryd.prog G92 ziJ 2 [8] (cd (cdF Tryd.f92 [1,0,1,0]) [0]) (cd (cdF Tryd.f92 [1,0,1,0]) [1]) X0 (ze6 0 (sqK Tryd.prog G92 ziJ (cdF Tryd.f92 [1,1]) (zkw Tryd.prog Tryd.f92 [.box 102 [.p (.fp (zaB w) 0)],.box 3 [.p (.int .i64 at_)],.box 116 (xcm (zam d)),.box 67 [.vec 75 2 16 out.len (λ i=>zaR (out.get i))]] (λ a b=>K (a,b))))) [.agg (zaC y0)] rest0 (zfM w at_ d out)=znW K X0 y0 rest0 w at_ d out:=by kernel_rfl
theorem zxC (K : List PA × List XA → Prop) (w : web) (at_ : Int) (d : Tab) (out : (Sl Use))
  (hsafe:IsE enc_40 4 4 (λ i=>enc_40 (w.Net.Ties.get i))/\((false,1,false,[none]):MQ)=(false,1,false,[none])/\(zsZ w=true)) (h:∀ X0:List (List PA)->St->Prop,(∀ (_:Unit),znV K w at_ d out->X0 [] (zfM w at_ d out))->(∀ (y:step) (rest:List (List PA)) (_:Unit),znW K X0 y rest w at_ d out->X0 ([.agg (zaC y)] :: rest) (zfM w at_ d out))->X0 ((zj3 w).map λ y=>[.agg (zaC y)]) (zfM w at_ d out)) :
  zkg K w at_ d out:=by
  have e:zkg K w at_ d out=((IsE enc_40 4 4 (λ i=>enc_40 (w.Net.Ties.get i))/\((false,1,false,[none]):MQ)=(false,1,false,[none])/\(zsZ w=true))/\∀ X:List (List PA)->St->Prop,(∀ s,(ze6 0 (sqK Tryd.prog G92 ziJ (cdF Tryd.f92 [1,1]) (zkw Tryd.prog Tryd.f92 [.box 102 [.p (.fp (zaB w) 0)],.box 3 [.p (.int .i64 at_)],.box 116 (xcm (zam d)),.box 67 [.vec 75 2 16 out.len (λ i=>zaR (out.get i))]] (λ a b=>K (a,b))))) .normal s->X [] s)->(∀ y rest s,zJp Tryd.prog G92 ziJ 2 [8] (cd (cdF Tryd.f92 [1,0,1,0]) [0]) (cd (cdF Tryd.f92 [1,0,1,0]) [1]) X (ze6 0 (sqK Tryd.prog G92 ziJ (cdF Tryd.f92 [1,1]) (zkw Tryd.prog Tryd.f92 [.box 102 [.p (.fp (zaB w) 0)],.box 3 [.p (.int .i64 at_)],.box 116 (xcm (zam d)),.box 67 [.vec 75 2 16 out.len (λ i=>zaR (out.get i))]] (λ a b=>K (a,b))))) y rest s->X (y :: rest) s)->X ((zj3 w).map λ y=>[.agg (zaC y)]) (zfM w at_ d out)):=by kernel_rfl
  refine za2 e ⟨hsafe,?_⟩
  intro X h0 h1
  refine h X (λ _ hs=>h0 _ ?_) (λ y rest _ hs=>h1 _ rest _ ?_)
  · rw[zpG K w at_ d out];exact hs
  · have e2 := zpH K X y rest w at_ d out
    rw[e2];exact hs
abbrev e92 (w:web) (d:Tab) (r:(Bool×Int×(Sl Use))):List PA×List XA:=([.one (.bool r.1)],[.box 102 [.p (.fp (zaB w) 0)],.box 3 [.p (.int .i64 r.2.1)],.box 116 (xcm (zam d)),.box 67 [.vec 75 2 16 r.2.2.len (λ i=>zaR (r.2.2.get i))]])
attribute [irreducible] zkg
def zpI (w:web) (at_:Int) (d:Tab) (out:(Sl Use)):(Bool×Int×(Sl Use)) :=
  (false,at_,(⟨out.len,out.get⟩:(Sl Use)))
def zpJ (w:web) (at_:Int) (d:Tab) (out:(Sl Use)):Bool :=
  true
def zpK (w:web) (at_:Int) (d:Tab) (out:(Sl Use)) (y0:step) (S0:(Bool×Int×(Sl Use))):(Bool×Int×(Sl Use)) :=
  (cond (y0.from_ == at_)
 (cond (!(match ((tg 80 d (0 + y0.to.toNat * 2 + 0)) == (1000000000000:Int)) with | true => (match ((tg 80 d (0 + y0.to.toNat * 2 + 0 + 1)) == (0:Int)) with | true => true | false => false) | false => false))
 (cond (match ((w64 ((tg 80 d (0 + y0.to.toNat * 2 + 0)) + y0.length)) == (tg 80 d (0 + at_.toNat * 2 + 0))) with | true => (match ((w64 ((tg 80 d (0 + y0.to.toNat * 2 + 1)) + (1:Int))) == (tg 80 d (0 + at_.toNat * 2 + 0 + 1))) with | true => true | false => false) | false => false)
 (true,y0.to,(⟨(out.len+1),(zf2 out.len out.get (λ _=>y0.Use))⟩:(Sl Use)))
 (S0))
 (S0))
 (S0))
def zpL (w:web) (at_:Int) (d:Tab) (out:(Sl Use)) (y0:step) (P0:Bool):Bool :=
  (cond (y0.from_ == at_)
 (decide ((0≤y0.to/\y0.to < (40:Int))) &&
 (cond (!(match ((tg 80 d (0 + y0.to.toNat * 2 + 0)) == (1000000000000:Int)) with | true => (match ((tg 80 d (0 + y0.to.toNat * 2 + 0 + 1)) == (0:Int)) with | true => true | false => false) | false => false))
 (decide ((0≤y0.to/\y0.to < (40:Int))) &&
 (decide ((0≤y0.to/\y0.to < (40:Int))) &&
 (decide ((0≤at_/\at_ < (40:Int))) &&
 (cond (match ((w64 ((tg 80 d (0 + y0.to.toNat * 2 + 0)) + y0.length)) == (tg 80 d (0 + at_.toNat * 2 + 0))) with | true => (match ((w64 ((tg 80 d (0 + y0.to.toNat * 2 + 1)) + (1:Int))) == (tg 80 d (0 + at_.toNat * 2 + 0 + 1))) with | true => true | false => false) | false => false)
 (decide (((out.len+1) * 16≤140737488355328/\out.len+1≤9223372036854775807)) &&
 true)
 (P0)))))
 (P0)))
 (P0))
def zkh (w : web) (at_ : Int) (d : Tab) (out : (Sl Use)) : List step → (Bool × Int × (Sl Use))
  | []=>zpI w at_ d out
  | y :: r=>zpK w at_ d out y (zkh w at_ d out r)
def zki (w : web) (at_ : Int) (d : Tab) (out : (Sl Use)) : List step → Bool
  | []=>zpJ w at_ d out
  | y :: r=>zpL w at_ d out y (zki w at_ d out r)
def zxD (w:web) (at_:Int) (d:Tab) (out:(Sl Use)):(Bool×Int×(Sl Use)):=zkh w at_ d out (zj3 w)
def zpM (w:web) (at_:Int) (d:Tab) (out:(Sl Use)):Bool:=decide ((zsZ w=true)) && zki w at_ d out (zj3 w)
theorem zEC (K:List PA×List XA->Prop) (w:web) (at_:Int) (d:Tab) (out:(Sl Use)) (hs:zpM w at_ d out=true) (hk:K (e92 w d (zxD w at_ d out))):zkg K w at_ d out:=by
  unfold zpM at hs
  rw[Bool.and_eq_true] at hs
  obtain⟨hsf,hs⟩:=hs
  have hc:=of_decide_eq_true hsf
  refine zxC K w at_ d out ⟨isE,rfl,hc⟩ ?_
  intro X0 hexit hstep
  have key:∀ (l:List step),zki w at_ d out l=true->K (e92 w d (zkh w at_ d out l))->X0 (l.map λ y=>[.agg (zaC y)]) (zfM w at_ d out):=by
    intro l
    induction l with
    | nil =>
      intro hs hk
      refine hexit () ?_
      have hs:zpJ w at_ d out=true:=hs
      have hk:K (e92 w d (zpI w at_ d out)):=hk
      unfold zpJ at hs
      unfold zpI at hk
      exact hk
    | cons y0 l ih =>
      intro hs hk
      refine hstep y0 _ () ?_
      have hs:zpL w at_ d out y0 (zki w at_ d out l)=true:=hs
      have hk:K (e92 w d (zpK w at_ d out y0 (zkh w at_ d out l))):=hk
      unfold zpL at hs
      unfold zpK at hk
      generalize zkh w at_ d out l=S0 at hk ih
      generalize zki w at_ d out l=P0 at hs ih
      have hX0:=ih
      exact (zeU (K := λ r => K (e92 w d r))
 (λ hs hk => (zaM hs λ hc hs => ⟨hc, (zeU (K := λ r => K (e92 w d r))
 (λ hs hk => (zaM hs λ hc hs => ⟨hc, (zaM hs λ hc hs => ⟨hc, (zaM hs λ hc hs => ⟨hc, (zeU (K := λ r => K (e92 w d r))
 (λ hs hk=>(zaM hs λ hc hs=>⟨hc,(Eq.mpr (congrArg K (congrArg (λ (g_:Nat->List PV)=>(([.one (.bool true)],[.box 102 [.p (.fp (zaB w) 0)],.box 3 [.p (.int .i64 y0.to)],.box 116 (xcm (zam d)),.box 67 [.vec 75 2 16 (out.len+1) g_]]):List PA×List XA)) (zit (enc:=zaR) (f:=out.get) (h:=(λ _=>y0.Use)) rfl rfl))) hk)⟩))
 (λ hs hk=>(hX0 hs hk)) hs hk)⟩)⟩)⟩))
 (λ hs hk=>(hX0 hs hk)) hs hk)⟩))
 (fun hs hk=>(hX0 hs hk)) hs hk)
  exact key _ hs hk
def s92 (w:web) (at_:Int) (d:Tab) (out:(Sl Use)):(Bool×Int×(Sl Use)) :=
  (zxD w at_ d out)
def p92 (w:web) (at_:Int) (d:Tab) (out:(Sl Use)):Bool :=
  (zpM w at_ d out)
theorem q92 (w:web) (at_:Int) (d:Tab) (out:(Sl Use)) (K:List PA×List XA->Prop) (hs:p92 w at_ d out=true) (hk:K (e92 w d (s92 w at_ d out))):zjW Tryd.prog G92 ziJ 92 [.box 102 [.p (.fp (zaB w) 0)],.box 3 [.p (.int .i64 at_)],.box 116 (xcm (zam d)),.box 67 [.vec 75 2 16 out.len (λ i=>zaR (out.get i))]] (λ a b=>K (a,b)):=by
  refine za2 (zEB w at_ d out K) ?_
  unfold p92 at hs
  unfold s92 at hk
  exact⟨⟨isE,rfl⟩,(zEC K w at_ d out hs hk)⟩
def zED : MK
  | [.box 102 [.p (.fp [.int .i64 zax,.sl zau zby zar,.fm zdg zaP zaQ] 0)],.box 3 [.p (.int .i64 b1)],.box 116 zkA,.box 67 [.vec 75 2 16 zEE zEF]]=>some (IsE enc_40 4 zby zar/\zdg=(false,1,false,[none])/\zkA=xcm (zam (zaE (unX zkA)))/\IsE zaR 2 2 zEF/\p92 (⟨(⟨zax,(⟨zau,zan zar⟩:(Sl Tie))⟩:Net),(⟨zaP,zaQ⟩:Mp)⟩:web) b1 (zaE (unX zkA)) (⟨zEE,zc6 zEF⟩:(Sl Use))=true,[.one (.bool ((s92 (⟨(⟨zax,(⟨zau,zan zar⟩:(Sl Tie))⟩:Net),(⟨zaP,zaQ⟩:Mp)⟩:web) b1 (zaE (unX zkA)) (⟨zEE,zc6 zEF⟩:(Sl Use))).1))],[.box 102 [.p (.fp [.int .i64 zax,.sl zau zby zar,.fm zdg zaP zaQ] 0)],.box 3 [.p (.int .i64 ((s92 (⟨(⟨zax,(⟨zau,zan zar⟩:(Sl Tie))⟩:Net),(⟨zaP,zaQ⟩:Mp)⟩:web) b1 (zaE (unX zkA)) (⟨zEE,zc6 zEF⟩:(Sl Use))).2.1))],.box 116 zkA,.box 67 [.vec 75 2 16 (((s92 (⟨(⟨zax,(⟨zau,zan zar⟩:(Sl Tie))⟩:Net),(⟨zaP,zaQ⟩:Mp)⟩:web) b1 (zaE (unX zkA)) (⟨zEE,zc6 zEF⟩:(Sl Use))).2.2).len) (λ i=>zaR (((s92 (⟨(⟨zax,(⟨zau,zan zar⟩:(Sl Tie))⟩:Net),(⟨zaP,zaQ⟩:Mp)⟩:web) b1 (zaE (unX zkA)) (⟨zEE,zc6 zEF⟩:(Sl Use))).2.2).get i))]])
  | _=>none
theorem zHO:zav Tryd.prog 92:=⟨_,rfl,rfl,by kernel_rfl⟩
theorem zMh:ziH Tryd.prog 92 zED:=zCJ zKk zHO λ xs safe rs ys h hs K hk=>by
  unfold zED at h
  split at h
  · rename_i zax zau zby zar zdg zaP zaQ b1 zkA zEE zEF
    simp only[Option.some.injEq,Prod.mk.injEq] at h
    obtain⟨rfl,rfl,rfl⟩:=h
    obtain⟨⟨rfl,zcc,rfl⟩,rfl,hT_b2,⟨_,zKl,rfl⟩,hs⟩:=hs
    try rw[zal zcc] at hs
    try rw[zal zcc] at hk
    try rw[zc7 zKl] at hs
    try rw[zc7 zKl] at hk
    refine⟨λ _ _=>[],λ _=>false,ziJ,?_⟩
    show zjW Tryd.prog G92 ziJ 92 _ K
    have hq:=q92 (⟨(⟨zax,(⟨zau,zcc⟩:(Sl Tie))⟩:Net),(⟨zaP,zaQ⟩:Mp)⟩:web) b1 (zaE (unX zkA)) (⟨zEE,zKl⟩:(Sl Use)) (λ x=>K x.1 x.2) hs
    dsimp only[e92] at hq
    rw[← hT_b2] at hq
    exact hq hk
  · cases h
abbrev T54:Tabs:=(((Tabs.nil.addF 74 zsN).addF 75 zsO).addM 92 zED)
theorem zKm:TabsOk Tryd.prog T54:=(((TabsOk.nil.addF zI3).addF zI5).addM zMh)
abbrev G54:Ctrs:=csm T54 (λ _ _=>[]) (λ _=>false)
def zEG:Ann:=⟨45,[(0,zK [1,2,3] [3]),(1,zK [1,2,8,9] [8]),(2,zK [1,2,8,9,23] [8]),(3,zK [6,7] []),(4,zK [1,8,10] [8,10]),(5,zK [1,8,10,32] [8,10]),(6,zK [6,7] []),(7,zK [1,8,10,11] [8,10,11]),(8,zK [8,10,11,12] [8,10,11,12]),(9,zK [10,11,12,13] [8,10,11,12]),(10,zK [10,11,12,13,43] [8,10,11,12,5000]),(11,zK [6,7] [5000])],
 [(10,⟨[10,11,12,13],[8,10,11,12,5000],[],[(11,0,5000,75,λ _=>zaR default)],[],[],[]⟩)],
 [],
 [],[]⟩
abbrev R54:=((Sl Use)×Int)
abbrev e54 (r:R54):List PA:=[.one (.sl r.1.len 2 (λ i=>zaR (r.1.get i))),.one (.int .i64 r.2)]
@[irreducible] def z54:=ptF Tryd.prog G54 zEG Tryd.f54
def zBF (n:Net) (zaa:Int) (to:Int) (zgL:Int) (zaX:(Sl Use)) (dt0:Tab) (zdp:Nat->List PV):St:=⟨[(10,zp 10 0),(11,zp 11 0),(12,zp 12 0),(13,.one (.c (.clo 92 [.b 8,.b 12,.b 10,.b 11])))],[(8,.box 102 [.p (.fp (zaB (⟨(s74 n (⟨2,zas (zbc [(zac zaa),(zac to)])⟩:(Sl Int))).1.Net,((s74 n (⟨2,zas (zbc [(zac zaa),(zac to)])⟩:(Sl Int))).1.out)⟩:web)) 0)]),(10,.box 116 (zm (zam dt0))),(11,.box 67 [.vec 5000]),(12,.box 3 [zi zgL]),(5000,.vec 75 2 16 zaX.len zdp)],[]⟩
abbrev zHP (K:List PA->Prop) (n:Net) (zaa:Int) (to:Int) (X:St->Prop) (P:Int->(Sl Use)->Tab->Bool) (S:Int->(Sl Use)->Tab->((Sl Use)×Int)):Prop:=∀ ⦃zgL:Int⦄ ⦃zaX:(Sl Use)⦄ ⦃dt0:Tab⦄ ⦃zdp:Nat->List PV⦄,P zgL zaX dt0=true->K (e54 (S zgL zaX dt0))->zdp=zg zaR zaX->X (zBF n zaa to zgL zaX dt0 zdp)
section
variable {K:List PA->Prop}{n:Net}{zaa:Int}{to:Int}{zgL:Int}{zaX:(Sl Use)}{dt0:Tab}{zdp:Nat->List PV}{X0:St->Prop}{P0:Int->(Sl Use)->Tab->Bool}{S0:Int->(Sl Use)->Tab->((Sl Use)×Int)}
def zxE (n:Net) (zaa:Int) (to:Int) (S0:Int->(Sl Use)->Tab->((Sl Use)×Int)) (zgL:Int) (zaX:(Sl Use)) (dt0:Tab):((Sl Use)×Int) :=
  (cond (decide ((tg 80 dt0 (0 + zgL.toNat * 2 + 1)) > (0:Int)))
 (cond ((s92 (⟨(s74 n (⟨2, zas (zbc [(zac zaa), (zac to)])⟩ : (Sl Int))).1.Net, ((s74 n (⟨2, zas (zbc [(zac zaa), (zac to)])⟩ : (Sl Int))).1.out)⟩ : web) zgL (zaE (unX (xcm (zam dt0)))) (⟨zaX.len, zaX.get⟩ : (Sl Use))).1)
 (S0 ((s92 (⟨(s74 n (⟨2,zas (zbc [(zac zaa),(zac to)])⟩:(Sl Int))).1.Net,((s74 n (⟨2,zas (zbc [(zac zaa),(zac to)])⟩:(Sl Int))).1.out)⟩:web) zgL (zaE (unX (xcm (zam dt0)))) (⟨zaX.len,zaX.get⟩:(Sl Use))).2.1) ((s92 (⟨(s74 n (⟨2,zas (zbc [(zac zaa),(zac to)])⟩:(Sl Int))).1.Net,((s74 n (⟨2,zas (zbc [(zac zaa),(zac to)])⟩:(Sl Int))).1.out)⟩:web) zgL (zaE (unX (xcm (zam dt0)))) (⟨zaX.len,zaX.get⟩:(Sl Use))).2.2) dt0)
 (((s92 (⟨(s74 n (⟨2,zas (zbc [(zac zaa),(zac to)])⟩:(Sl Int))).1.Net,((s74 n (⟨2,zas (zbc [(zac zaa),(zac to)])⟩:(Sl Int))).1.out)⟩:web) zgL (zaE (unX (xcm (zam dt0)))) (⟨zaX.len,zaX.get⟩:(Sl Use))).2.2),(0:Int)))
 (zaX,(0:Int)))
def zxF (n:Net) (zaa:Int) (to:Int) (P0:Int->(Sl Use)->Tab->Bool) (zgL:Int) (zaX:(Sl Use)) (dt0:Tab):Bool :=
  (decide ((0≤zgL/\zgL < (40:Int))) &&
 (cond (decide ((tg 80 dt0 (0 + zgL.toNat * 2 + 1)) > (0:Int)))
 (decide ((p92 (⟨(s74 n (⟨2,zas (zbc [(zac zaa),(zac to)])⟩:(Sl Int))).1.Net,((s74 n (⟨2,zas (zbc [(zac zaa),(zac to)])⟩:(Sl Int))).1.out)⟩:web) zgL (zaE (unX (xcm (zam dt0)))) (⟨zaX.len,zaX.get⟩:(Sl Use))=true)) &&
 (cond ((s92 (⟨(s74 n (⟨2, zas (zbc [(zac zaa), (zac to)])⟩ : (Sl Int))).1.Net, ((s74 n (⟨2, zas (zbc [(zac zaa), (zac to)])⟩ : (Sl Int))).1.out)⟩ : web) zgL (zaE (unX (xcm (zam dt0)))) (⟨zaX.len, zaX.get⟩ : (Sl Use))).1)
 (P0 ((s92 (⟨(s74 n (⟨2,zas (zbc [(zac zaa),(zac to)])⟩:(Sl Int))).1.Net,((s74 n (⟨2,zas (zbc [(zac zaa),(zac to)])⟩:(Sl Int))).1.out)⟩:web) zgL (zaE (unX (xcm (zam dt0)))) (⟨zaX.len,zaX.get⟩:(Sl Use))).2.1) ((s92 (⟨(s74 n (⟨2,zas (zbc [(zac zaa),(zac to)])⟩:(Sl Int))).1.Net,((s74 n (⟨2,zas (zbc [(zac zaa),(zac to)])⟩:(Sl Int))).1.out)⟩:web) zgL (zaE (unX (xcm (zam dt0)))) (⟨zaX.len,zaX.get⟩:(Sl Use))).2.2) dt0)
 true))
 true))
def zxG (n:Net) (zaa:Int) (to:Int):Nat->Int->(Sl Use)->Tab->((Sl Use)×Int):=lpO (λ _ _ _=>default) (zxE n zaa to)
def zxH (n:Net) (zaa:Int) (to:Int):Nat->Int->(Sl Use)->Tab->Bool:=lpO (λ _ _ _=>false) (zxF n zaa to)
def zxI (n:Net) (zaa:Int) (to:Int) (zgL:Int) (zaX:(Sl Use)) (dt0:Tab):((Sl Use)×Int):=zxG n zaa to Fuel zgL zaX dt0
def zxJ (n:Net) (zaa:Int) (to:Int) (zgL:Int) (zaX:(Sl Use)) (dt0:Tab):Bool:=zxH n zaa to Fuel zgL zaX dt0
theorem zEH (hs:zxJ n zaa to zgL zaX dt0=true) (hk:K (e54 (zxI n zaa to zgL zaX dt0))) (zkj:zdp=zg zaR zaX):z54 (Wk K) [1,1,1,1,1,1,1,1,0,0] [] (zBF n zaa to zgL zaX dt0 zdp) :=
  zl (λ X=>z54 (Wk K) [1,1,1,1,1,1,1,1,0,0,0] [X]) (by kernel_rfl) λ X0 hX =>
  (show ∀ k, zHP K n zaa to X0 (zxH n zaa to k) (zxG n zaa to k) from zeF _ _ (zxF n zaa to) (zxE n zaa to) (zHP K n zaa to X0)
 (by intro _ _ _ _ hs;exact absurd hs Bool.false_ne_true)
 (by intro P0 S0 hX0 zgL zaX dt0 zdp hs hk zkj;subst zkj;exact hX _ (za2 (by kernel_rfl) (zaM hs λ hc hs=>And.intro hc (zc hs hk (λ hs hk=>(zaM hs λ hc hs=>And.intro (And.intro (zE enc_40 4 ((s74 n (⟨2,zas (zbc [(zac zaa),(zac to)])⟩:(Sl Int))).1.Net.Ties.get)) (And.intro (rfl:((false,1,false,[none]):MQ)=(false,1,false,[none])) (And.intro (zCK:xcm (zam dt0)=xcm (zam (zaE (unX (xcm (zam dt0)))))) (And.intro (zE zaR 2 zaX.get) hc)))) (zc hs hk (λ hs hk=>(hX0 hs hk rfl)) (λ hs hk=>((zgk hk):Wk K [.one (.sl (((s92 (⟨(s74 n (⟨2,zas (zbc [(zac zaa),(zac to)])⟩:(Sl Int))).1.Net,((s74 n (⟨2,zas (zbc [(zac zaa),(zac to)])⟩:(Sl Int))).1.out)⟩:web) zgL (zaE (unX (xcm (zam dt0)))) (⟨zaX.len,zaX.get⟩:(Sl Use))).2.2).len) 2 (λ i=>zaR (((s92 (⟨(s74 n (⟨2,zas (zbc [(zac zaa),(zac to)])⟩:(Sl Int))).1.Net,((s74 n (⟨2,zas (zbc [(zac zaa),(zac to)])⟩:(Sl Int))).1.out)⟩:web) zgL (zaE (unX (xcm (zam dt0)))) (⟨zaX.len,zaX.get⟩:(Sl Use))).2.2).get i))),.one (.int .i64 (0:Int))]))))) (λ hs hk=>((zgk hk):Wk K [.one (.sl zaX.len 2 (λ i=>zaR (zaX.get i))),.one (.int .i64 (0:Int))]))))))) _ hs hk zkj
def s54 (n:Net) (zaa:Int) (to:Int):((Sl Use)×Int) :=
  (cond ((s74 n (⟨2, zas (zbc [(zac zaa), (zac to)])⟩ : (Sl Int))).2 == 0)
 (cond ((0:Int) != (0:Int))
 ((⟨0,λ _=>default⟩:(Sl Use)),(0:Int))
 (cond (match ((tg 80 (s75 (⟨(s74 n (⟨2, zas (zbc [(zac zaa), (zac to)])⟩ : (Sl Int))).1.Net, ((s74 n (⟨2, zas (zbc [(zac zaa), (zac to)])⟩ : (Sl Int))).1.out)⟩ : web) to) (0 + zaa.toNat * 2 + 0)) == (1000000000000:Int)) with | true => (match ((tg 80 (s75 (⟨(s74 n (⟨2, zas (zbc [(zac zaa), (zac to)])⟩ : (Sl Int))).1.Net, ((s74 n (⟨2, zas (zbc [(zac zaa), (zac to)])⟩ : (Sl Int))).1.out)⟩ : web) to) (0 + zaa.toNat * 2 + 0 + 1)) == (0:Int)) with | true => true | false => false) | false => false)
 ((⟨0,λ _=>default⟩:(Sl Use)),(6:Int))
 (zxI n zaa to zaa (⟨0,(λ _=>default)⟩:Sl Use) (s75 (⟨(s74 n (⟨2,zas (zbc [(zac zaa),(zac to)])⟩:(Sl Int))).1.Net,((s74 n (⟨2,zas (zbc [(zac zaa),(zac to)])⟩:(Sl Int))).1.out)⟩:web) to))))
 (cond ((s74 n (⟨2, zas (zbc [(zac zaa), (zac to)])⟩ : (Sl Int))).2 != (0:Int))
 ((⟨0,λ _=>default⟩:(Sl Use)),(s74 n (⟨2,zas (zbc [(zac zaa),(zac to)])⟩:(Sl Int))).2)
 default))
def p54 (n:Net) (zaa:Int) (to:Int):Bool :=
  (cond ((s74 n (⟨2, zas (zbc [(zac zaa), (zac to)])⟩ : (Sl Int))).2 == 0)
 (decide ((p74 n (⟨2,zas (zbc [(zac zaa),(zac to)])⟩:(Sl Int))=true)) &&
 (cond ((0:Int) != (0:Int))
 true
 (decide ((p75 (⟨(s74 n (⟨2,zas (zbc [(zac zaa),(zac to)])⟩:(Sl Int))).1.Net,((s74 n (⟨2,zas (zbc [(zac zaa),(zac to)])⟩:(Sl Int))).1.out)⟩:web) to=true)) &&
 (decide ((0≤zaa/\zaa < (40:Int))) &&
 (cond (match ((tg 80 (s75 (⟨(s74 n (⟨2, zas (zbc [(zac zaa), (zac to)])⟩ : (Sl Int))).1.Net, ((s74 n (⟨2, zas (zbc [(zac zaa), (zac to)])⟩ : (Sl Int))).1.out)⟩ : web) to) (0 + zaa.toNat * 2 + 0)) == (1000000000000:Int)) with | true => (match ((tg 80 (s75 (⟨(s74 n (⟨2, zas (zbc [(zac zaa), (zac to)])⟩ : (Sl Int))).1.Net, ((s74 n (⟨2, zas (zbc [(zac zaa), (zac to)])⟩ : (Sl Int))).1.out)⟩ : web) to) (0 + zaa.toNat * 2 + 0 + 1)) == (0:Int)) with | true => true | false => false) | false => false)
 true
 (zxJ n zaa to zaa (⟨0,(λ _=>default)⟩:Sl Use) (s75 (⟨(s74 n (⟨2,zas (zbc [(zac zaa),(zac to)])⟩:(Sl Int))).1.Net,((s74 n (⟨2,zas (zbc [(zac zaa),(zac to)])⟩:(Sl Int))).1.out)⟩:web) to)))))))
 (decide ((p74 n (⟨2,zas (zbc [(zac zaa),(zac to)])⟩:(Sl Int))=true)) &&
 (cond ((s74 n (⟨2, zas (zbc [(zac zaa), (zac to)])⟩ : (Sl Int))).2 != (0:Int))
 true
 false)))
end
theorem q54 (n:Net) (zaa:Int) (to:Int) (K:List PA->Prop) (hs:p54 n zaa to=true) (hk:K (e54 (s54 n zaa to))):vcFun Tryd.prog G54 zEG 54 [.agg (enc_24 n),.one (.int .i64 zaa),.one (.int .i64 to)] (Wk K) :=
  za2 (by kernel_rfl) (zc hs hk (λ hs hk=>(zaM hs λ hc hs=>And.intro (And.intro (zE enc_40 4 n.Ties.get) (And.intro ((zdd []):IsE zac 1 1 (zbc [(zac zaa),(zac to)])) hc)) (zc hs hk (λ hs hk=>((wk hk (zhm (.one (.nil _ _)) (zhm (.one (.rfl _)) znD))):Wk K [.one (.nils),.one (.int .i64 (0:Int))])) (λ hs hk=>(zaM hs λ hc hs=>And.intro (And.intro (zE enc_40 4 ((s74 n (⟨2,zas (zbc [(zac zaa),(zac to)])⟩:(Sl Int))).1.Net.Ties.get)) (And.intro (rfl:((false,1,false,[none]):MQ)=(false,1,false,[none])) hc)) (zaM hs λ hc hs=>And.intro hc (zc hs hk (λ hs hk=>((wk hk (zhm (.one (.nil _ _)) (zhm (.one (.rfl _)) znD))):Wk K [.one (.nils),.one (.int .i64 (6:Int))])) (λ hs hk=>(zEH hs hk rfl))))))))) (λ hs hk=>(zaM hs λ hc hs=>And.intro (And.intro (zE enc_40 4 n.Ties.get) (And.intro ((zdd []):IsE zac 1 1 (zbc [(zac zaa),(zac to)])) hc)) (zc hs hk (λ hs hk=>((wk hk (zhm (.one (.nil _ _)) (zhm (.one (.rfl _)) znD))):Wk K [.one (.nils),.one (.int .i64 ((s74 n (⟨2,zas (zbc [(zac zaa),(zac to)])⟩:(Sl Int))).2))])) (λ hs hk=>(absurd hs Bool.false_ne_true:False))))))
def zEI : List PA → COut
  | [.agg [.int .i64 zaf,.sl zae zay zad],.one (.int .i64 a1),.one (.int .i64 a2)]=>.det (IsE enc_40 4 zay zad/\p54 (⟨zaf,(⟨zae,zan zad⟩:(Sl Tie))⟩:Net) a1 a2=true) [.one (.sl (((s54 (⟨zaf,(⟨zae,zan zad⟩:(Sl Tie))⟩:Net) a1 a2).1).len) 2 (λ i=>zaR (((s54 (⟨zaf,(⟨zae,zan zad⟩:(Sl Tie))⟩:Net) a1 a2).1).get i))),.one (.int .i64 ((s54 (⟨zaf,(⟨zae,zan zad⟩:(Sl Tie))⟩:Net) a1 a2).2))]
  | _=>.no
theorem zHQ:zav Tryd.prog 54:=⟨_,rfl,rfl,by kernel_rfl⟩
theorem zMi:Ok Tryd.prog 54 zEI:=zhz zKm zHQ λ args K h=>by
  unfold zEI at h
  split at h
  · rename_i zaf zae zay zad a1 a2
    obtain⟨⟨⟨rfl,zaq,rfl⟩,hs⟩,hk⟩:=h
    try rw[zal zaq] at hs
    try rw[zal zaq] at hk
    exact⟨_,zfs zgj _,(λ _ _=>[]),(λ _=>false),zEG,q54 (⟨zaf,(⟨zae,zaq⟩:(Sl Tie))⟩:Net) a1 a2 K hs hk⟩
  · exact h.elim
abbrev T66:Tabs:=Tabs.nil
theorem zKn:TabsOk Tryd.prog T66:=TabsOk.nil
abbrev G66:Ctrs:=csm T66 (λ _ _=>[]) (λ _=>false)
def zHR:Ann:=⟨6,[(0,zK [0] [0]),(1,zK [0] [0,4])],
 [],
 [],
 [],[]⟩
abbrev R66:=Net
abbrev e66 (r:R66):List PA:=[.agg [.int .i64 r.Nodes,.sl r.Ties.len 4 (λ i=>enc_40 (r.Ties.get i))]]
section
variable {K:List PA->Prop}
def s66:Net :=
  (⟨(3:Int),(⟨3,(zoi (⟨(0:Int),(1:Int),(5:Int),(8:Int)⟩:Tie) [(⟨(0:Int),(1:Int),(5:Int),(8:Int)⟩:Tie),(⟨(1:Int),(2:Int),(-2:Int),(3:Int)⟩:Tie),(⟨(2:Int),(0:Int),(-9:Int),(1000000000000:Int)⟩:Tie)])⟩:(Sl Tie))⟩:Net)
end
theorem q66 (K:List PA->Prop) (hk:K (e66 (s66))):vcFun Tryd.prog G66 zHR 66 [] K :=
  za2 (by kernel_rfl) (Eq.mpr (congrArg K (congrArg (λ (g_:Nat->List PV)=>([.agg [.int .i64 (3:Int),.sl 3 4 g_]]:List PA)) (zqT (enc:=enc_40) (x:=(⟨(0:Int),(1:Int),(5:Int),(8:Int)⟩:Tie)) (y:=(⟨(1:Int),(2:Int),(-2:Int),(3:Int)⟩:Tie)) (r:=[(⟨(2:Int),(0:Int),(-9:Int),(1000000000000:Int)⟩:Tie)])))) hk)
def zEJ : List PA → COut
  | []=>.tot [.agg [.int .i64 ((s66).Nodes),.sl ((s66).Ties.len) 4 (λ i=>enc_40 ((s66).Ties.get i))]]
  | _=>.no
theorem zHS:zav Tryd.prog 66:=⟨_,rfl,rfl,by kernel_rfl⟩
theorem zMj:Ok Tryd.prog 66 zEJ:=zbk zKn zHS λ args K h=>by
  unfold zEJ at h
  split at h
  · have hk := h
    exact⟨(λ _ _=>[]),(λ _=>false),zHR,q66 K hk⟩
  · exact h.elim
abbrev T21:Tabs:=((((((((((Tabs.nil.addF 22 zD7).addF 25 zEb).addF 26 zzW).addF 29 zEc).addF 32 zzX).addF 45 zEn).addF 49 zEw).addF 53 zEA).addF 54 zEI).addF 66 zEJ)
theorem zKo:TabsOk Tryd.prog T21:=((((((((((TabsOk.nil.addF zL2).addF zL3).addF zK4).addF zL4).addF ok32).addF zMe).addF zMf).addF zMg).addF zMi).addF zMj)
abbrev G21:Ctrs:=csm T21 (λ _ _=>[]) (λ _=>false)
def zEK:Ann:=⟨87,[(0,zK [] []),(1,zK [1,2] []),(2,zK [1,2,3,4] []),(3,zK [1,2,3,4,5,6] []),(4,zK [1,2,3,4,5,6,7] [7]),(5,zK [1,2,3,4,5,6,7,8,9] [7]),(6,zK [1,2,3,4,5,6,8,9,10,11] []),(7,zK [1,3,5,8,10,57] []),(8,zK [0] []),(9,zK [0] [])],
 [],
 [(2,zK [1,2] []),(3,zK [1,2,3,4] []),(4,zK [1,2,3,4,5,6] []),(5,zK [1,2,3,4,5,6,7] [7]),(6,zK [1,2,3,4,5,6,7,8,9] [7]),(7,zK [1,2,3,4,5,6,8,9,10,11] []),(9,zK [1,3,5,8,10] [])],
 [],[]⟩
abbrev R21:=Bool
abbrev e21 (r:R21):List PA:=[.one (.bool r)]
@[irreducible] def z21:=ptF Tryd.prog G21 zEK Tryd.f21
section
variable {K:List PA->Prop}{bv0:(Sl Span)}{ev0:Int}{zHT:Nat->List PV}{cv1:(Sl Use)}{fv1:Int}{zHU:Nat->List PV}{vv2:(Sl Int)}{gv2:Int}{zHV:Nat->List PV}{zd8:Int}{zdt:(Sl Tie)}{zxK:Nat->List PV}{xv4:(Sl Use)}{hv4:Int}{zHW:Nat->List PV}{lv5:(Sl Int)}{iv5:Int}{zHX:Nat->List PV}
def zxL (bv0:(Sl Span)) (cv1:(Sl Use)) (vv2:(Sl Int)) (xv4:(Sl Use)) (lv5:(Sl Int)):Bool :=
  (cond (s32 bv0 (⟨3, zft (zbc [(zaT (⟨(0:Int), (0:Int)⟩ : Span)), (zaT (⟨(5:Int), (8:Int)⟩ : Span)), (zaT (⟨(3:Int), (9:Int)⟩ : Span))])⟩ : (Sl Span)))
 (cond (s53 cv1 (⟨1, λ _ => (⟨(2:Int), true⟩ : Use)⟩ : (Sl Use)))
 (cond (s25 vv2 (⟨3, zas (zbc [(zac (0:Int)), (zac (5:Int)), (zac (8:Int))])⟩ : (Sl Int)))
 (cond (s53 xv4 (⟨2, zc6 (zbc [(zaR (⟨(2:Int), true⟩ : Use)), (zaR (⟨(3:Int), true⟩ : Use))])⟩ : (Sl Use)))
 (s25 lv5 (⟨1,λ _=>(2:Int)⟩:(Sl Int)))
 false)
 false)
 false)
 false)
def zxM (bv0:(Sl Span)) (cv1:(Sl Use)) (vv2:(Sl Int)) (xv4:(Sl Use)) (lv5:(Sl Int)):Bool :=
  (decide ((p32 bv0 (⟨3,zft (zbc [(zaT (⟨(0:Int),(0:Int)⟩:Span)),(zaT (⟨(5:Int),(8:Int)⟩:Span)),(zaT (⟨(3:Int),(9:Int)⟩:Span))])⟩:(Sl Span))=true)) &&
 (cond (s32 bv0 (⟨3, zft (zbc [(zaT (⟨(0:Int), (0:Int)⟩ : Span)), (zaT (⟨(5:Int), (8:Int)⟩ : Span)), (zaT (⟨(3:Int), (9:Int)⟩ : Span))])⟩ : (Sl Span)))
 (decide ((p53 cv1 (⟨1,λ _=>(⟨(2:Int),true⟩:Use)⟩:(Sl Use))=true)) &&
 (cond (s53 cv1 (⟨1, λ _ => (⟨(2:Int), true⟩ : Use)⟩ : (Sl Use)))
 (decide ((p25 vv2 (⟨3,zas (zbc [(zac (0:Int)),(zac (5:Int)),(zac (8:Int))])⟩:(Sl Int))=true)) &&
 (cond (s25 vv2 (⟨3, zas (zbc [(zac (0:Int)), (zac (5:Int)), (zac (8:Int))])⟩ : (Sl Int)))
 (decide ((p53 xv4 (⟨2,zc6 (zbc [(zaR (⟨(2:Int),true⟩:Use)),(zaR (⟨(3:Int),true⟩:Use))])⟩:(Sl Use))=true)) &&
 (cond (s53 xv4 (⟨2, zc6 (zbc [(zaR (⟨(2:Int), true⟩ : Use)), (zaR (⟨(3:Int), true⟩ : Use))])⟩ : (Sl Use)))
 (decide ((p25 lv5 (⟨1,λ _=>(2:Int)⟩:(Sl Int))=true)) &&
 true)
 true))
 true))
 true))
 true))
theorem zEL (hs:zxM bv0 cv1 vv2 xv4 lv5=true) (hk:K (e21 (zxL bv0 cv1 vv2 xv4 lv5))):z21 K [1,1,1,1,1,1,1,1] [] ⟨[(1,zS zaT 2 bv0),(3,zS zaR 2 cv1),(5,zS zac 1 vv2),(8,zS zaR 2 xv4),(10,zS zac 1 lv5)],[],[]⟩:=za2 (by kernel_rfl) (zaM hs λ hc hs=>And.intro (And.intro (zE zaT 2 bv0.get) (And.intro ((zdd [(⟨(3:Int),(9:Int)⟩:Span)]):IsE zaT 2 2 (zbc [(zaT (⟨(0:Int),(0:Int)⟩:Span)),(zaT (⟨(5:Int),(8:Int)⟩:Span)),(zaT (⟨(3:Int),(9:Int)⟩:Span))])) hc)) (zc hs hk (λ hs hk=>(zaM hs λ hc hs=>And.intro (And.intro (zE zaR 2 cv1.get) (And.intro (zuC:IsE zaR 2 2 (λ _=>(zaR (⟨(2:Int),true⟩:Use)))) hc)) (zc hs hk (λ hs hk=>(zaM hs λ hc hs=>And.intro (And.intro (zE zac 1 vv2.get) (And.intro ((zdd [(8:Int)]):IsE zac 1 1 (zbc [(zac (0:Int)),(zac (5:Int)),(zac (8:Int))])) hc)) (zc hs hk (λ hs hk=>(zaM hs λ hc hs=>And.intro (And.intro (zE zaR 2 xv4.get) (And.intro ((zdd []):IsE zaR 2 2 (zbc [(zaR (⟨(2:Int),true⟩:Use)),(zaR (⟨(3:Int),true⟩:Use))])) hc)) (zc hs hk (λ hs hk=>(zaM hs λ hc hs=>And.intro (And.intro (zE zac 1 lv5.get) (And.intro (zuC:IsE zac 1 1 (λ _=>(zac (2:Int)))) hc)) hk)) (λ hs hk=>hk)))) (λ hs hk=>hk)))) (λ hs hk=>hk)))) (λ hs hk=>hk)))
def zxN (bv0:(Sl Span)) (ev0:Int) (cv1:(Sl Use)) (fv1:Int) (vv2:(Sl Int)) (gv2:Int) (xv4:(Sl Use)) (hv4:Int) (lv5:(Sl Int)) (iv5:Int):Bool :=
  (cond (ev0 != (0:Int))
 false
 (cond (fv1 != (0:Int))
 false
 (cond (gv2 != (0:Int))
 false
 (cond (hv4 != (0:Int))
 false
 (cond (iv5 != (0:Int))
 false
 (zxL bv0 cv1 vv2 xv4 lv5))))))
def zxO (bv0:(Sl Span)) (ev0:Int) (cv1:(Sl Use)) (fv1:Int) (vv2:(Sl Int)) (gv2:Int) (xv4:(Sl Use)) (hv4:Int) (lv5:(Sl Int)) (iv5:Int):Bool :=
  (cond (ev0 != (0:Int))
 true
 (cond (fv1 != (0:Int))
 true
 (cond (gv2 != (0:Int))
 true
 (cond (hv4 != (0:Int))
 true
 (cond (iv5 != (0:Int))
 true
 (zxM bv0 cv1 vv2 xv4 lv5))))))
theorem zEM (hs:zxO bv0 ev0 cv1 fv1 vv2 gv2 xv4 hv4 lv5 iv5=true) (hk:K (e21 (zxN bv0 ev0 cv1 fv1 vv2 gv2 xv4 hv4 lv5 iv5))) (zKp:zHX=zg zac lv5):z21 K [1,1,1,1,1,1,1] [] ⟨[(1,zS zaT 2 bv0),(2,zI ev0),(3,zS zaR 2 cv1),(4,zI fv1),(5,zS zac 1 vv2),(6,zI gv2),(8,zS zaR 2 xv4),(9,zI hv4),(10,zP (.sl lv5.len 1 zHX)),(11,zI iv5)],[],[]⟩:=by subst zKp;exact za2 (by kernel_rfl) (zc hs hk (λ hs hk=>hk) (λ hs hk=>(zc hs hk (λ hs hk=>hk) (λ hs hk=>(zc hs hk (λ hs hk=>hk) (λ hs hk=>(zc hs hk (λ hs hk=>hk) (λ hs hk=>(zc hs hk (λ hs hk=>hk) (λ hs hk=>(zEL hs hk)))))))))))
def zxP (bv0:(Sl Span)) (ev0:Int) (cv1:(Sl Use)) (fv1:Int) (vv2:(Sl Int)) (gv2:Int) (zd8:Int) (zdt:(Sl Tie)) (xv4:(Sl Use)) (hv4:Int):Bool :=
  (zxN bv0 ev0 cv1 fv1 vv2 gv2 xv4 hv4 ((s22 (⟨zd8,zdt⟩:Net)).1) ((s22 (⟨zd8,zdt⟩:Net)).2))
def zxQ (bv0:(Sl Span)) (ev0:Int) (cv1:(Sl Use)) (fv1:Int) (vv2:(Sl Int)) (gv2:Int) (zd8:Int) (zdt:(Sl Tie)) (xv4:(Sl Use)) (hv4:Int):Bool :=
  (decide ((p22 (⟨zd8,zdt⟩:Net)=true)) &&
 (zxO bv0 ev0 cv1 fv1 vv2 gv2 xv4 hv4 ((s22 (⟨zd8,zdt⟩:Net)).1) ((s22 (⟨zd8,zdt⟩:Net)).2)))
theorem zEN (hs:zxQ bv0 ev0 cv1 fv1 vv2 gv2 zd8 zdt xv4 hv4=true) (hk:K (e21 (zxP bv0 ev0 cv1 fv1 vv2 gv2 zd8 zdt xv4 hv4))) (zKq:zHW=zg zaR xv4):z21 K [1,1,1,1,1,1] [] ⟨[(1,zS zaT 2 bv0),(2,zI ev0),(3,zS zaR 2 cv1),(4,zI fv1),(5,zS zac 1 vv2),(6,zI gv2),(7,zp 7 0),(8,zP (.sl xv4.len 2 zHW)),(9,zI hv4)],[(7,.box 24 (zm (enc_24 (⟨zd8,zdt⟩:Net))))],[]⟩:=by subst zKq;exact za2 (by kernel_rfl) (zaM hs λ hc hs=>And.intro (And.intro (zE enc_40 4 zdt.get) hc) (zEM hs hk rfl))
def zxR (bv0:(Sl Span)) (ev0:Int) (cv1:(Sl Use)) (fv1:Int) (vv2:(Sl Int)) (gv2:Int) (zd8:Int) (zdt:(Sl Tie)):Bool :=
  (zxP bv0 ev0 cv1 fv1 vv2 gv2 zd8 zdt ((s49 (⟨zd8,zdt⟩:Net)).1) ((s49 (⟨zd8,zdt⟩:Net)).2))
def zxS (bv0:(Sl Span)) (ev0:Int) (cv1:(Sl Use)) (fv1:Int) (vv2:(Sl Int)) (gv2:Int) (zd8:Int) (zdt:(Sl Tie)):Bool :=
  (decide ((p49 (⟨zd8,zdt⟩:Net)=true)) &&
 (zxQ bv0 ev0 cv1 fv1 vv2 gv2 zd8 zdt ((s49 (⟨zd8,zdt⟩:Net)).1) ((s49 (⟨zd8,zdt⟩:Net)).2)))
theorem zEO (hs:zxS bv0 ev0 cv1 fv1 vv2 gv2 zd8 zdt=true) (hk:K (e21 (zxR bv0 ev0 cv1 fv1 vv2 gv2 zd8 zdt))) (zEP:zxK=zg enc_40 zdt):z21 K [1,1,1,1,1] [] ⟨[(1,zS zaT 2 bv0),(2,zI ev0),(3,zS zaR 2 cv1),(4,zI fv1),(5,zS zac 1 vv2),(6,zI gv2),(7,zp 7 0)],[(7,.box 24 [zi zd8,.p (.sl zdt.len 4 zxK)])],[]⟩:=by subst zEP;exact za2 (by kernel_rfl) (zaM hs λ hc hs=>And.intro (And.intro (zE enc_40 4 zdt.get) hc) (zEN hs hk rfl))
def zxT (bv0:(Sl Span)) (ev0:Int) (cv1:(Sl Use)) (fv1:Int) (vv2:(Sl Int)) (gv2:Int):Bool :=
  (zxR bv0 ev0 cv1 fv1 vv2 gv2 ((s29 s66 (⟨(0:Int),(2:Int),(10:Int),(12:Int)⟩:Tie)).Nodes) ((s29 s66 (⟨(0:Int),(2:Int),(10:Int),(12:Int)⟩:Tie)).Ties))
def zxU (bv0:(Sl Span)) (ev0:Int) (cv1:(Sl Use)) (fv1:Int) (vv2:(Sl Int)) (gv2:Int):Bool :=
  (decide ((p29 s66 (⟨(0:Int),(2:Int),(10:Int),(12:Int)⟩:Tie)=true)) &&
 (zxS bv0 ev0 cv1 fv1 vv2 gv2 ((s29 s66 (⟨(0:Int),(2:Int),(10:Int),(12:Int)⟩:Tie)).Nodes) ((s29 s66 (⟨(0:Int),(2:Int),(10:Int),(12:Int)⟩:Tie)).Ties)))
theorem zEQ (hs:zxU bv0 ev0 cv1 fv1 vv2 gv2=true) (hk:K (e21 (zxT bv0 ev0 cv1 fv1 vv2 gv2))) (zKr:zHV=zg zac vv2):z21 K [1,1,1,1] [] ⟨[(1,zS zaT 2 bv0),(2,zI ev0),(3,zS zaR 2 cv1),(4,zI fv1),(5,zP (.sl vv2.len 1 zHV)),(6,zI gv2)],[],[]⟩:=by subst zKr;exact za2 (by kernel_rfl) (zaM hs λ hc hs=>And.intro (And.intro (zE enc_40 4 s66.Ties.get) hc) (zEO hs hk rfl))
def zxV (bv0:(Sl Span)) (ev0:Int) (cv1:(Sl Use)) (fv1:Int):Bool :=
  (zxT bv0 ev0 cv1 fv1 ((s45 s66 (1:Int) (0:Int)).1) ((s45 s66 (1:Int) (0:Int)).2))
def zxW (bv0:(Sl Span)) (ev0:Int) (cv1:(Sl Use)) (fv1:Int):Bool :=
  (decide ((p45 s66 (1:Int) (0:Int)=true)) &&
 (zxU bv0 ev0 cv1 fv1 ((s45 s66 (1:Int) (0:Int)).1) ((s45 s66 (1:Int) (0:Int)).2)))
theorem zER (hs:zxW bv0 ev0 cv1 fv1=true) (hk:K (e21 (zxV bv0 ev0 cv1 fv1))) (zKs:zHU=zg zaR cv1):z21 K [1,1,1] [] ⟨[(1,zS zaT 2 bv0),(2,zI ev0),(3,zP (.sl cv1.len 2 zHU)),(4,zI fv1)],[],[]⟩:=by subst zKs;exact za2 (by kernel_rfl) (zaM hs λ hc hs=>And.intro (And.intro (zE enc_40 4 s66.Ties.get) hc) (zEQ hs hk rfl))
def zxX (bv0:(Sl Span)) (ev0:Int):Bool :=
  (zxV bv0 ev0 ((s54 s66 (0:Int) (2:Int)).1) ((s54 s66 (0:Int) (2:Int)).2))
def zxY (bv0:(Sl Span)) (ev0:Int):Bool :=
  (decide ((p54 s66 (0:Int) (2:Int)=true)) &&
 (zxW bv0 ev0 ((s54 s66 (0:Int) (2:Int)).1) ((s54 s66 (0:Int) (2:Int)).2)))
theorem zES (hs:zxY bv0 ev0=true) (hk:K (e21 (zxX bv0 ev0))) (zKt:zHT=zg zaT bv0):z21 K [1,1] [] ⟨[(1,zP (.sl bv0.len 2 zHT)),(2,zI ev0)],[],[]⟩:=by subst zKt;exact za2 (by kernel_rfl) (zaM hs λ hc hs=>And.intro (And.intro (zE enc_40 4 s66.Ties.get) hc) (zER hs hk rfl))
def s21:Bool :=
  (zxX ((s26 s66).1) ((s26 s66).2))
def p21:Bool :=
  (decide ((p26 s66=true)) &&
 (zxY ((s26 s66).1) ((s26 s66).2)))
end
theorem q21 (K:List PA->Prop) (hs:p21=true) (hk:K (e21 (s21))):vcFun Tryd.prog G21 zEK 21 [] K :=
  za2 (by kernel_rfl) (zaM hs λ hc hs=>And.intro (And.intro (zE enc_40 4 s66.Ties.get) hc) (zES hs hk rfl))
theorem zHY:p21=true:=by kernel_rfl
theorem zHZ:s21=true:=by kernel_rfl
def zET : List PA → COut
  | []=>.tot [.one (.bool true)]
  | _=>.no
theorem zH0:zav Tryd.prog 21:=⟨_,rfl,rfl,by kernel_rfl⟩
theorem zMk:Ok Tryd.prog 21 zET:=zbk zKo zH0 λ args K h=>by
  unfold zET at h
  split at h
  · refine ⟨fun _ _ => [], fun _ => false, zEK, q21 K zHY ?_⟩
    show K [.one (.bool s21)]
    rw[zHZ];exact h
  · exact h.elim
abbrev T20:Tabs:=Tabs.nil
theorem zKu:TabsOk Tryd.prog T20:=TabsOk.nil
abbrev G20:Ctrs:=csm T20 (λ _ _=>[]) (λ _=>false)
def zH1:Ann:=⟨32,[(0,zK [1,2] [2]),(1,zK [4] [])],
 [],
 [],
 [],[]⟩
abbrev R20:=Bool
abbrev e20 (r:R20):List PA:=[.one (.bool r)]
section
variable {K:List PA->Prop}{n:Net}{ties:Int}
def s20 (n:Net) (ties:Int):Bool :=
  (cond (decide (n.Nodes ≤ (7:Int)))
 (cond (decide ((n.Ties.len : Int) ≤ ties))
 true
 (cond (decide ((n.Ties.len : Int) > (200:Int)))
 (decide ((n.Ties.len:Int)≤(210:Int)))
 false))
 (cond (decide (n.Nodes > (40:Int)))
 (cond (decide ((n.Ties.len : Int) ≤ ties))
 true
 (cond (decide ((n.Ties.len : Int) > (200:Int)))
 (decide ((n.Ties.len:Int)≤(210:Int)))
 false))
 false))
end
theorem q20 (n:Net) (ties:Int) (K:List PA->Prop) (hk:K (e20 (s20 n ties))):vcFun Tryd.prog G20 zH1 20 [.agg (enc_24 n),.one (.int .i64 ties)] K :=
  za2 (by kernel_rfl) (zt hk (λ hk=>(zt hk (λ hk=>hk) (λ hk=>(zt hk (λ hk=>hk) (λ hk=>hk))))) (λ hk=>(zt hk (λ hk=>(zt hk (λ hk=>hk) (λ hk=>(zt hk (λ hk=>hk) (λ hk=>hk))))) (λ hk=>hk))))
def zEU : List PA → COut
  | [.agg [.int .i64 zaf,.sl zae zay zad],.one (.int .i64 a1)]=>.det (IsE enc_40 4 zay zad) [.one (.bool (s20 (⟨zaf,(⟨zae,zan zad⟩:(Sl Tie))⟩:Net) a1))]
  | _=>.no
theorem zH2:zav Tryd.prog 20:=⟨_,rfl,rfl,by kernel_rfl⟩
theorem zMl:Ok Tryd.prog 20 zEU:=zbk zKu zH2 λ args K h=>by
  unfold zEU at h
  split at h
  · rename_i zaf zae zay zad a1
    obtain⟨⟨rfl,zaq,rfl⟩,hk⟩:=h
    try rw[zal zaq] at hk
    exact⟨(λ _ _=>[]),(λ _=>false),zH1,q20 (⟨zaf,(⟨zae,zaq⟩:(Sl Tie))⟩:Net) a1 K hk⟩
  · exact h.elim
abbrev T72:Tabs:=Tabs.nil
theorem zKv:TabsOk Tryd.prog T72:=TabsOk.nil
abbrev G72:Ctrs:=csm T72 (λ _ _=>[]) (λ _=>false)
def zH3:Ann:=⟨15,[(0,zK [0,1,2] []),(1,zK [6] [])],
 [],
 [],
 [],[]⟩
abbrev R72:=Bool
abbrev e72 (r:R72):List PA:=[.one (.bool r)]
section
variable {K:List PA->Prop}{x:Int}{low:Int}{high:Int}
def s72 (x:Int) (low:Int) (high:Int):Bool :=
  (cond (decide (x ≥ low))
 (decide (x≤high))
 false)
end
theorem q72 (x:Int) (low:Int) (high:Int) (K:List PA->Prop) (hk:K (e72 (s72 x low high))):vcFun Tryd.prog G72 zH3 72 [.one (.int .i64 x),.one (.int .i64 low),.one (.int .i64 high)] K :=
  za2 (by kernel_rfl) (zt hk (λ hk=>hk) (λ hk=>hk))
def zAn : List PA → COut
  | [.one (.int .i64 a0),.one (.int .i64 a1),.one (.int .i64 a2)]=>.tot [.one (.bool (s72 a0 a1 a2))]
  | _=>.no
theorem zH4:zav Tryd.prog 72:=⟨_,rfl,rfl,by kernel_rfl⟩
theorem zLj:Ok Tryd.prog 72 zAn:=zbk zKv zH4 λ args K h=>by
  unfold zAn at h
  split at h
  · rename_i a0 a1 a2
    have hk:=h
    exact⟨(λ _ _=>[]),(λ _=>false),zH3,q72 a0 a1 a2 K hk⟩
  · exact h.elim
abbrev T36:Tabs:=(Tabs.nil.addF 72 zAn)
theorem zKw:TabsOk Tryd.prog T36:=(TabsOk.nil.addF zLj)
abbrev G36:Ctrs:=csm T36 (λ _ _=>[]) (λ _=>false)
def zEV:Ann:=⟨51,[(0,zK [0,3] [3]),(1,zK [3,32] [3]),(2,zK [4] []),(3,zK [4] [])],
 [],
 [(2,zK [3,32] [3]),(3,zK [3] [3])],
 [],[]⟩
abbrev R36:=Bool
abbrev e36 (r:R36):List PA:=[.one (.bool r)]
@[irreducible] def z36:=ptF Tryd.prog G36 zEV Tryd.f36
section
variable {K:List PA->Prop}{nodes:Int}{t:Tie}{zAo:Bool}
def zpN (t:Tie):Bool :=
  (cond (t.Low == (-1000000000000:Int))
 (cond (t.High == (1000000000000:Int))
 true
 (s72 t.High (-1000000000:Int) (1000000000:Int)))
 (cond (s72 t.Low (-1000000000:Int) (1000000000:Int))
 (cond (t.High == (1000000000000:Int))
 true
 (s72 t.High (-1000000000:Int) (1000000000:Int)))
 false))
theorem zEW (hk:K (e36 (zpN t))):z36 K [1,1] [] ⟨[(3,zp 3 0)],[(3,.box 40 (zm (enc_40 t)))],[]⟩:=za2 (by kernel_rfl) (zt hk (λ hk=>(zt hk (λ hk=>hk) (λ hk=>hk))) (λ hk=>(zt hk (λ hk=>(zt hk (λ hk=>hk) (λ hk=>hk))) (λ hk=>hk))))
def zh1 (t:Tie) (zAo:Bool):Bool :=
  (cond zAo
 false
 (zpN t))
theorem zmy (hk:K (e36 (zh1 t zAo))):z36 K [1,0,1] [] ⟨[(3,zp 3 0),(32,zB zAo)],[(3,.box 40 (zm (enc_40 t)))],[]⟩:=za2 (by kernel_rfl) (zt hk (λ hk=>hk) (λ hk=>(zEW hk)))
def s36 (nodes:Int) (t:Tie):Bool :=
  (cond (!(s72 t.From (0:Int) (w64 (nodes - (1:Int)))))
 (zh1 t true)
 (cond (!(s72 t.To (0:Int) (w64 (nodes - (1:Int)))))
 (zh1 t true)
 (cond (t.From == t.To)
 (zh1 t true)
 (zh1 t (decide (t.Low > t.High))))))
end
theorem q36 (nodes:Int) (t:Tie) (K:List PA->Prop) (hk:K (e36 (s36 nodes t))):vcFun Tryd.prog G36 zEV 36 [.one (.int .i64 nodes),.agg (enc_40 t)] K :=
  za2 (by kernel_rfl) (zt hk (λ hk=>(zmy hk)) (λ hk=>(zt hk (λ hk=>(zmy hk)) (λ hk=>(zt hk (λ hk=>(zmy hk)) (λ hk=>(zmy hk)))))))
def zEX : List PA → COut
  | [.one (.int .i64 a0),.agg [.int .i64 zet,.int .i64 zkz,.int .i64 zgm,.int .i64 zeu]]=>.tot [.one (.bool (s36 a0 (⟨zet,zkz,zgm,zeu⟩:Tie)))]
  | _=>.no
theorem zH5:zav Tryd.prog 36:=⟨_,rfl,rfl,by kernel_rfl⟩
theorem zMm:Ok Tryd.prog 36 zEX:=zbk zKw zH5 λ args K h=>by
  unfold zEX at h
  split at h
  · rename_i a0 zet zkz zgm zeu
    have hk:=h
    exact⟨(λ _ _=>[]),(λ _=>false),zEV,q36 a0 (⟨zet,zkz,zgm,zeu⟩:Tie) K hk⟩
  · exact h.elim
abbrev T23:Tabs:=((Tabs.nil.addF 36 zEX).addF 72 zAn)
theorem zKx:TabsOk Tryd.prog T23:=((TabsOk.nil.addF zMm).addF zLj)
abbrev G23:Ctrs:=csm T23 (λ _ _=>[]) (λ _=>false)
def zEY:Ann:=⟨30,[(0,zK [1] [1]),(1,zK [1,13] [1]),(2,zK [2] []),(3,zK [1,3] [1]),(4,zK [1,3,18] [1]),(5,zK [1,3] [1]),(6,zK [1,3,29] [1]),(7,zK [2] []),(8,zK [2] [])],
 [(4,zK [1,3] [1])],
 [(2,zK [1,13] [1]),(3,zK [1] [1]),(7,zK [1,3,29] [1])],
 [],[]⟩
abbrev R23:=Bool
abbrev e23 (r:R23):List PA:=[.one (.bool r)]
@[irreducible] def z23:=ptF Tryd.prog G23 zEY Tryd.f23
def zBG (n:Net) (iv2:Int):St:=⟨[(1,zp 1 0),(3,zI iv2)],[(1,.box 24 (zm (enc_24 n)))],[]⟩
abbrev zEZ (K:List PA->Prop) (n:Net) (X:St->Prop) (P:Int->Bool) (S:Int->Bool):Prop:=∀ ⦃iv2:Int⦄,P iv2=true->K (e23 (S iv2))->X (zBG n iv2)
section
variable {K:List PA->Prop}{n:Net}{zbP:Bool}{iv2:Int}{X2:St->Prop}{P2:Int->Bool}{S2:Int->Bool}{iv3:Int}{zpO:Bool}
def zpP (S2:Int->Bool) (n:Net) (iv3:Int) (zpO:Bool):Bool :=
  (cond zpO
 false
 (S2 (w64 (iv3+(1:Int)))))
def zpQ (P2:Int->Bool) (n:Net) (iv3:Int) (zpO:Bool):Bool :=
  (cond zpO
 true
 (P2 (w64 (iv3+(1:Int)))))
theorem zE0 (hX2:zEZ K n X2 P2 S2) (hs:zpQ P2 n iv3 zpO=true) (hk:K (e23 (zpP S2 n iv3 zpO))):z23 K [1,1,0,1,0,0,1,0,0,1] [X2] ⟨[(1,zp 1 0),(3,zI iv3),(29,zB zpO)],[(1,.box 24 (zm (enc_24 n)))],[]⟩:=za2 (by kernel_rfl) (zc hs hk (λ hs hk=>hk) (λ hs hk=>(hX2 hs hk)))
def zh2 (n:Net) (S2:Int->Bool) (iv2:Int):Bool :=
  (cond (decide (iv2 < (n.Ties.len : Int)))
 (zpP S2 n iv2 (!(s36 n.Nodes (n.Ties.get iv2.toNat))))
 true)
def zh3 (n:Net) (P2:Int->Bool) (iv2:Int):Bool :=
  (cond (decide (iv2 < (n.Ties.len : Int)))
 (decide ((0≤iv2/\iv2 < (n.Ties.len:Int))) &&
 (zpQ P2 n iv2 (!(s36 n.Nodes (n.Ties.get iv2.toNat)))))
 true)
def zgF (n:Net):Nat->Int->Bool:=lpO (λ _=>default) (zh2 n)
def zh4 (n:Net):Nat->Int->Bool:=lpO (λ _=>false) (zh3 n)
def zpR (n:Net) (iv2:Int):Bool:=zgF n Fuel iv2
def zpS (n:Net) (iv2:Int):Bool:=zh4 n Fuel iv2
theorem zE1 (hs:zpS n iv2=true) (hk:K (e23 (zpR n iv2))):z23 K [1,1,0,1,0] [] (zBG n iv2) :=
  zl (λ X=>z23 K [1,1,0,1,0,0] [X]) (by kernel_rfl) λ X2 hX =>
  (show ∀ k, zEZ K n X2 (zh4 n k) (zgF n k) from zeF _ _ (zh3 n) (zh2 n) (zEZ K n X2)
 (by intro _ hs;exact absurd hs Bool.false_ne_true)
 (by intro P2 S2 hX2 iv2 hs hk;exact hX _ (za2 (by kernel_rfl) (zc hs hk (λ hs hk=>(zaM hs λ hc hs=>And.intro hc (zE0 hX2 hs hk))) (λ hs hk=>hk))))) _ hs hk
def zpT (n:Net):Bool :=
  (zpR n (0:Int))
def zpU (n:Net):Bool :=
  (zpS n (0:Int))
theorem zE2 (hs:zpU n=true) (hk:K (e23 (zpT n))):z23 K [1,1] [] ⟨[(1,zp 1 0)],[(1,.box 24 (zm (enc_24 n)))],[]⟩:=za2 (by kernel_rfl) (zE1 hs hk)
def zmz (n:Net) (zbP:Bool):Bool :=
  (cond zbP
 false
 (zpT n))
def zmA (n:Net) (zbP:Bool):Bool :=
  (cond zbP
 true
 (zpU n))
theorem zxZ (hs:zmA n zbP=true) (hk:K (e23 (zmz n zbP))):z23 K [1,0,1] [] ⟨[(1,zp 1 0),(13,zB zbP)],[(1,.box 24 (zm (enc_24 n)))],[]⟩:=za2 (by kernel_rfl) (zc hs hk (λ hs hk=>hk) (λ hs hk=>(zE2 hs hk)))
def s23 (n:Net):Bool :=
  (cond (!(s72 n.Nodes (1:Int) (40:Int)))
 (zmz n true)
 (zmz n (decide ((n.Ties.len:Int) > (200:Int)))))
def p23 (n:Net):Bool :=
  (cond (!(s72 n.Nodes (1:Int) (40:Int)))
 (zmA n true)
 (zmA n (decide ((n.Ties.len:Int) > (200:Int)))))
end
theorem q23 (n:Net) (K:List PA->Prop) (hs:p23 n=true) (hk:K (e23 (s23 n))):vcFun Tryd.prog G23 zEY 23 [.agg (enc_24 n)] K :=
  za2 (by kernel_rfl) (zc hs hk (λ hs hk=>(zxZ hs hk)) (λ hs hk=>(zxZ hs hk)))
def zE3 : List PA → COut
  | [.agg [.int .i64 zaf,.sl zae zay zad]]=>.det (IsE enc_40 4 zay zad/\p23 (⟨zaf,(⟨zae,zan zad⟩:(Sl Tie))⟩:Net)=true) [.one (.bool (s23 (⟨zaf,(⟨zae,zan zad⟩:(Sl Tie))⟩:Net)))]
  | _=>.no
theorem zH6:zav Tryd.prog 23:=⟨_,rfl,rfl,by kernel_rfl⟩
theorem zMn:Ok Tryd.prog 23 zE3:=zbk zKx zH6 λ args K h=>by
  unfold zE3 at h
  split at h
  · rename_i zaf zae zay zad
    obtain⟨⟨⟨rfl,zaq,rfl⟩,hs⟩,hk⟩:=h
    try rw[zal zaq] at hs
    try rw[zal zaq] at hk
    exact⟨(λ _ _=>[]),(λ _=>false),zEY,q23 (⟨zaf,(⟨zae,zaq⟩:(Sl Tie))⟩:Net) K hs hk⟩
  · exact h.elim
abbrev T30:Tabs:=(((Tabs.nil.addF 74 zsN).addF 75 zsO).addF 76 zsP)
theorem zKz:TabsOk Tryd.prog T30:=(((TabsOk.nil.addF zI3).addF zI5).addF zI6)
abbrev G30:Ctrs:=csm T30 (λ _ _=>[]) (λ _=>false)
def zH7:Ann:=⟨36,[(0,zK [1,2,3,6] [3,6]),(1,zK [1,2,6,8,9] [6]),(2,zK [1,2,6,8,9,19] [6]),(3,zK [6,7] [6]),(4,zK [6,7] [6])],
 [],
 [],
 [],[]⟩
abbrev R30:=(Span×Int)
abbrev e30 (r:R30):List PA:=[.agg [.int .i64 r.1.Low,.int .i64 r.1.High],.one (.int .i64 r.2)]
section
variable {K:List PA->Prop}{n:Net}{zaa:Int}{to:Int}
def s30 (n:Net) (zaa:Int) (to:Int):(Span×Int) :=
  (cond ((s74 n (⟨2, zas (zbc [(zac zaa), (zac to)])⟩ : (Sl Int))).2 == 0)
 (cond ((0:Int) != (0:Int))
 ((⟨(0:Int),(0:Int)⟩:Span),(0:Int))
 ((⟨(w64 (0 - (tg 80 (s75 (⟨(s74 n (⟨2,zas (zbc [(zac zaa),(zac to)])⟩:(Sl Int))).1.Net,((s74 n (⟨2,zas (zbc [(zac zaa),(zac to)])⟩:(Sl Int))).1.out)⟩:web) zaa) (0+to.toNat * 2+0)))),(tg 80 (s76 (⟨(s74 n (⟨2,zas (zbc [(zac zaa),(zac to)])⟩:(Sl Int))).1.Net,((s74 n (⟨2,zas (zbc [(zac zaa),(zac to)])⟩:(Sl Int))).1.out)⟩:web) zaa) (0+to.toNat * 2+0))⟩:Span),(0:Int)))
 (cond ((s74 n (⟨2, zas (zbc [(zac zaa), (zac to)])⟩ : (Sl Int))).2 != (0:Int))
 ((⟨(0:Int),(0:Int)⟩:Span),(s74 n (⟨2,zas (zbc [(zac zaa),(zac to)])⟩:(Sl Int))).2)
 default))
def p30 (n:Net) (zaa:Int) (to:Int):Bool :=
  (cond ((s74 n (⟨2, zas (zbc [(zac zaa), (zac to)])⟩ : (Sl Int))).2 == 0)
 (decide ((p74 n (⟨2,zas (zbc [(zac zaa),(zac to)])⟩:(Sl Int))=true)) &&
 (cond ((0:Int) != (0:Int))
 true
 (decide ((p75 (⟨(s74 n (⟨2,zas (zbc [(zac zaa),(zac to)])⟩:(Sl Int))).1.Net,((s74 n (⟨2,zas (zbc [(zac zaa),(zac to)])⟩:(Sl Int))).1.out)⟩:web) zaa=true)) &&
 (decide ((0≤to/\to < (40:Int))) &&
 (decide ((p76 (⟨(s74 n (⟨2,zas (zbc [(zac zaa),(zac to)])⟩:(Sl Int))).1.Net,((s74 n (⟨2,zas (zbc [(zac zaa),(zac to)])⟩:(Sl Int))).1.out)⟩:web) zaa=true)) &&
 (decide ((0≤to/\to < (40:Int))) &&
 true))))))
 (decide ((p74 n (⟨2,zas (zbc [(zac zaa),(zac to)])⟩:(Sl Int))=true)) &&
 (cond ((s74 n (⟨2, zas (zbc [(zac zaa), (zac to)])⟩ : (Sl Int))).2 != (0:Int))
 true
 false)))
end
theorem q30 (n:Net) (zaa:Int) (to:Int) (K:List PA->Prop) (hs:p30 n zaa to=true) (hk:K (e30 (s30 n zaa to))):vcFun Tryd.prog G30 zH7 30 [.agg (enc_24 n),.one (.int .i64 zaa),.one (.int .i64 to)] K :=
  za2 (by kernel_rfl) (zc hs hk (λ hs hk=>(zaM hs λ hc hs=>And.intro (And.intro (zE enc_40 4 n.Ties.get) (And.intro ((zdd []):IsE zac 1 1 (zbc [(zac zaa),(zac to)])) hc)) (zc hs hk (λ hs hk=>hk) (λ hs hk=>(zaM hs λ hc hs=>And.intro (And.intro (zE enc_40 4 ((s74 n (⟨2,zas (zbc [(zac zaa),(zac to)])⟩:(Sl Int))).1.Net.Ties.get)) (And.intro (rfl:((false,1,false,[none]):MQ)=(false,1,false,[none])) hc)) (zaM hs λ hc hs=>And.intro hc (zaM hs λ hc hs=>And.intro (And.intro (zE enc_40 4 ((s74 n (⟨2,zas (zbc [(zac zaa),(zac to)])⟩:(Sl Int))).1.Net.Ties.get)) (And.intro (rfl:((false,1,false,[none]):MQ)=(false,1,false,[none])) hc)) (zaM hs λ hc hs=>And.intro hc hk)))))))) (λ hs hk=>(zaM hs λ hc hs=>And.intro (And.intro (zE enc_40 4 n.Ties.get) (And.intro ((zdd []):IsE zac 1 1 (zbc [(zac zaa),(zac to)])) hc)) (zc hs hk (λ hs hk=>hk) (λ hs hk=>(absurd hs Bool.false_ne_true:False))))))
def zE4 : List PA → COut
  | [.agg [.int .i64 zaf,.sl zae zay zad],.one (.int .i64 a1),.one (.int .i64 a2)]=>.det (IsE enc_40 4 zay zad/\p30 (⟨zaf,(⟨zae,zan zad⟩:(Sl Tie))⟩:Net) a1 a2=true) [.agg [.int .i64 (((s30 (⟨zaf,(⟨zae,zan zad⟩:(Sl Tie))⟩:Net) a1 a2).1).Low),.int .i64 (((s30 (⟨zaf,(⟨zae,zan zad⟩:(Sl Tie))⟩:Net) a1 a2).1).High)],.one (.int .i64 ((s30 (⟨zaf,(⟨zae,zan zad⟩:(Sl Tie))⟩:Net) a1 a2).2))]
  | _=>.no
theorem zH8:zav Tryd.prog 30:=⟨_,rfl,rfl,by kernel_rfl⟩
theorem zMo:Ok Tryd.prog 30 zE4:=zbk zKz zH8 λ args K h=>by
  unfold zE4 at h
  split at h
  · rename_i zaf zae zay zad a1 a2
    obtain⟨⟨⟨rfl,zaq,rfl⟩,hs⟩,hk⟩:=h
    try rw[zal zaq] at hs
    try rw[zal zaq] at hk
    exact⟨(λ _ _=>[]),(λ _=>false),zH7,q30 (⟨zaf,(⟨zae,zaq⟩:(Sl Tie))⟩:Net) a1 a2 K hs hk⟩
  · exact h.elim
abbrev T77:Tabs:=Tabs.nil
theorem zKA:TabsOk Tryd.prog T77:=TabsOk.nil
abbrev G77:Ctrs:=csm T77 (λ _ _=>[]) (λ _=>false)
def zE5:Ann:=⟨50,[(0,zK [1] [1]),(1,zK [1,3] [1]),(2,zK [1,3,4] [1]),(3,zK [1,3,4,10] [1,32]),(4,zK [1,3,4] [1,32]),(5,zK [1,3,4,5] [1,5,32]),(6,zK [1,3,4,5,20] [1,5,32]),(7,zK [1,3,4,5] [1,5,32]),(8,zK [1,3,4,5,35] [1,5,32]),(9,zK [1,3,4] [1,32]),(10,zK [2] [32])],
 [(3,⟨[1,3,4],[1,32],[(3,32,121,λ _=>zcq default)],[],[],[],[]⟩)],
 [(8,⟨[1,3,4,5],[1,5,32],[(3,32,121,λ _=>zcq default)],[],[],[],[]⟩)],
 [],[]⟩
abbrev R77:=(Sl Step)
abbrev e77 (r:R77):List PA:=[.one (.sl r.len 5 (λ i=>zcq (r.get i)))]
@[irreducible] def z77:=ptF Tryd.prog G77 zE5 Tryd.f77
def zBH (n:Net) (iv0:Int) (zcU:(Sl Step)) (zfN:Nat->List PV):St:=⟨[(1,zp 1 0),(3,zv 32),(4,zI iv0)],[(1,.box 24 (zm (enc_24 n))),(32,.vec 121 5 40 zcU.len zfN)],[]⟩
abbrev zE6 (K:List PA->Prop) (n:Net) (X:St->Prop) (P:Int->(Sl Step)->Bool) (S:Int->(Sl Step)->(Sl Step)):Prop:=∀ ⦃iv0:Int⦄ ⦃zcU:(Sl Step)⦄ ⦃zfN:Nat->List PV⦄,P iv0 zcU=true->K (e77 (S iv0 zcU))->zfN=zg zcq zcU->X (zBH n iv0 zcU zfN)
section
variable {K:List PA->Prop}{n:Net}{iv0:Int}{zcU:(Sl Step)}{zfN:Nat->List PV}{X0:St->Prop}{P0:Int->(Sl Step)->Bool}{S0:Int->(Sl Step)->(Sl Step)}{iv1:Int}{znX:Int}{znY:Int}{zkB:Int}{zx0:Int}{zfO:(Sl Step)}{zx1:Nat->List PV}
def zmB (S0:Int->(Sl Step)->(Sl Step)) (n:Net) (iv1:Int) (znX:Int) (znY:Int) (zkB:Int) (zx0:Int) (zfO:(Sl Step)):(Sl Step) :=
  (cond (zkB != (-1000000000000:Int))
 (S0 (w64 (iv1+(1:Int))) (⟨(zfO.len+1),(zf2 zfO.len zfO.get (λ _=>(⟨znY,znX,(w64 (0 - zkB)),(⟨iv1,true⟩:Use)⟩:Step)))⟩:Sl Step))
 (S0 (w64 (iv1+(1:Int))) zfO))
def zmC (P0:Int->(Sl Step)->Bool) (n:Net) (iv1:Int) (znX:Int) (znY:Int) (zkB:Int) (zx0:Int) (zfO:(Sl Step)):Bool :=
  (cond (zkB != (-1000000000000:Int))
 (decide (((zfO.len+1) * 40≤140737488355328/\zfO.len+1≤9223372036854775807)) &&
 (P0 (w64 (iv1+(1:Int))) (⟨(zfO.len+1),(zf2 zfO.len zfO.get (λ _=>(⟨znY,znX,(w64 (0 - zkB)),(⟨iv1,true⟩:Use)⟩:Step)))⟩:Sl Step)))
 (P0 (w64 (iv1+(1:Int))) zfO))
theorem zx2 (hX0:zE6 K n X0 P0 S0) (hs:zmC P0 n iv1 znX znY zkB zx0 zfO=true) (hk:K (e77 (zmB S0 n iv1 znX znY zkB zx0 zfO))) (zE7:zx1=zg zcq zfO):z77 K [1,1,0,1,0,0,1,0,0,1,1] [X0] ⟨[(1,zp 1 0),(3,zv 32),(4,zI iv1),(5,zp 5 0)],[(1,.box 24 (zm (enc_24 n))),(5,.box 40 (zm (enc_40 (⟨znX,znY,zkB,zx0⟩:Tie)))),(32,.vec 121 5 40 zfO.len zx1)],[]⟩:=by subst zE7;exact za2 (by kernel_rfl) (zc hs hk (λ hs hk=>(zaM hs λ hc hs=>And.intro hc (hX0 hs hk (zit (enc:=zcq) (f:=zfO.get) (h:=(λ _=>(⟨znY,znX,(w64 (0 - zkB)),(⟨iv1,true⟩:Use)⟩:Step))) rfl rfl)))) (λ hs hk=>(hX0 hs hk rfl)))
def zh5 (n:Net) (S0:Int->(Sl Step)->(Sl Step)) (iv0:Int) (zcU:(Sl Step)):(Sl Step) :=
  (cond (decide (iv0 < (n.Ties.len : Int)))
 (cond ((n.Ties.get iv0.toNat).High != (1000000000000:Int))
 (zmB S0 n iv0 ((n.Ties.get iv0.toNat).From) ((n.Ties.get iv0.toNat).To) ((n.Ties.get iv0.toNat).Low) ((n.Ties.get iv0.toNat).High) (⟨(zcU.len+1),(zf2 zcU.len zcU.get (λ _=>(⟨(n.Ties.get iv0.toNat).From,(n.Ties.get iv0.toNat).To,(n.Ties.get iv0.toNat).High,(⟨iv0,false⟩:Use)⟩:Step)))⟩:Sl Step))
 (zmB S0 n iv0 ((n.Ties.get iv0.toNat).From) ((n.Ties.get iv0.toNat).To) ((n.Ties.get iv0.toNat).Low) ((n.Ties.get iv0.toNat).High) zcU))
 zcU)
def zh6 (n:Net) (P0:Int->(Sl Step)->Bool) (iv0:Int) (zcU:(Sl Step)):Bool :=
  (cond (decide (iv0 < (n.Ties.len : Int)))
 (decide ((0≤iv0/\iv0 < (n.Ties.len:Int))) &&
 (cond ((n.Ties.get iv0.toNat).High != (1000000000000:Int))
 (decide (((zcU.len+1) * 40≤140737488355328/\zcU.len+1≤9223372036854775807)) &&
 (zmC P0 n iv0 ((n.Ties.get iv0.toNat).From) ((n.Ties.get iv0.toNat).To) ((n.Ties.get iv0.toNat).Low) ((n.Ties.get iv0.toNat).High) (⟨(zcU.len+1),(zf2 zcU.len zcU.get (λ _=>(⟨(n.Ties.get iv0.toNat).From,(n.Ties.get iv0.toNat).To,(n.Ties.get iv0.toNat).High,(⟨iv0,false⟩:Use)⟩:Step)))⟩:Sl Step)))
 (zmC P0 n iv0 ((n.Ties.get iv0.toNat).From) ((n.Ties.get iv0.toNat).To) ((n.Ties.get iv0.toNat).Low) ((n.Ties.get iv0.toNat).High) zcU)))
 true)
def zdu (n:Net):Nat->Int->(Sl Step)->(Sl Step):=lpO (λ _ _=>default) (zh5 n)
def zdv (n:Net):Nat->Int->(Sl Step)->Bool:=lpO (λ _ _=>false) (zh6 n)
def zx3 (n:Net) (iv0:Int) (zcU:(Sl Step)):(Sl Step):=zdu n Fuel iv0 zcU
def zx4 (n:Net) (iv0:Int) (zcU:(Sl Step)):Bool:=zdv n Fuel iv0 zcU
theorem zE8 (hs:zx4 n iv0 zcU=true) (hk:K (e77 (zx3 n iv0 zcU))) (zpV:zfN=zg zcq zcU):z77 K [1,1,0,1,0] [] (zBH n iv0 zcU zfN) :=
  zl (λ X=>z77 K [1,1,0,1,0,0] [X]) (by kernel_rfl) λ X0 hX =>
  (show ∀ k, zE6 K n X0 (zdv n k) (zdu n k) from zeF _ _ (zh6 n) (zh5 n) (zE6 K n X0)
 (by intro _ _ _ hs;exact absurd hs Bool.false_ne_true)
 (by intro P0 S0 hX0 iv0 zcU zfN hs hk zpV;subst zpV;exact hX _ (za2 (by kernel_rfl) (zc hs hk (λ hs hk=>(zaM hs λ hc hs=>And.intro hc (zc hs hk (λ hs hk=>(zaM hs λ hc hs=>And.intro hc (zx2 hX0 hs hk (zit (enc:=zcq) (f:=zcU.get) (h:=(λ _=>(⟨(n.Ties.get iv0.toNat).From,(n.Ties.get iv0.toNat).To,(n.Ties.get iv0.toNat).High,(⟨iv0,false⟩:Use)⟩:Step))) rfl rfl)))) (λ hs hk=>(zx2 hX0 hs hk rfl))))) (λ hs hk=>hk))))) _ hs hk zpV
def s77 (n:Net):(Sl Step) :=
  (zx3 n (0:Int) (⟨0,(λ _=>default)⟩:Sl Step))
def p77 (n:Net):Bool :=
  (zx4 n (0:Int) (⟨0,(λ _=>default)⟩:Sl Step))
end
theorem q77 (n:Net) (K:List PA->Prop) (hs:p77 n=true) (hk:K (e77 (s77 n))):vcFun Tryd.prog G77 zE5 77 [.agg (enc_24 n)] K :=
  za2 (by kernel_rfl) (zE8 hs hk rfl)
def zAp : List PA → COut
  | [.agg [.int .i64 zaf,.sl zae zay zad]]=>.det (IsE enc_40 4 zay zad/\p77 (⟨zaf,(⟨zae,zan zad⟩:(Sl Tie))⟩:Net)=true) [.one (.sl ((s77 (⟨zaf,(⟨zae,zan zad⟩:(Sl Tie))⟩:Net)).len) 5 (λ i=>zcq ((s77 (⟨zaf,(⟨zae,zan zad⟩:(Sl Tie))⟩:Net)).get i)))]
  | _=>.no
theorem zH9:zav Tryd.prog 77:=⟨_,rfl,rfl,by kernel_rfl⟩
theorem zLk:Ok Tryd.prog 77 zAp:=zbk zKA zH9 λ args K h=>by
  unfold zAp at h
  split at h
  · rename_i zaf zae zay zad
    obtain⟨⟨⟨rfl,zaq,rfl⟩,hs⟩,hk⟩:=h
    try rw[zal zaq] at hs
    try rw[zal zaq] at hk
    exact⟨(λ _ _=>[]),(λ _=>false),zE5,q77 (⟨zaf,(⟨zae,zaq⟩:(Sl Tie))⟩:Net) K hs hk⟩
  · exact h.elim
abbrev T31:Tabs:=(Tabs.nil.addF 77 zAp)
theorem zKB:TabsOk Tryd.prog T31:=(TabsOk.nil.addF zLk)
abbrev G31:Ctrs:=csm T31 (λ _ _=>[]) (λ _=>false)
def zE9:Ann:=⟨67,[(0,zK [1] [1]),(1,zK [1,3] [1]),(2,zK [1,3,4] [1,14]),(3,zK [1,3,4,5] [1,14]),(4,zK [1,3,4,5,6] [1,14]),(5,zK [1,3,4,5,6,21] [1]),(6,zK [1,3,4,5,6] [1,25]),(7,zK [1,3,4,5,6] [1]),(8,zK [1,3,4,5,6,7] [1,25]),(9,zK [1,3,4,5,6,7,8] [1,25]),(10,zK [1,3,4,5,6,7,8,29] [1,25]),(11,zK [1,3,4,5,6,7,8] [1,25]),(12,zK [1,3,4,5,6,7,8,9] [1,25]),(13,zK [1,3,4,5,6,7,8,9,55] [1,25]),(14,zK [1,3,4,5,6,7,8] [1,25]),(15,zK [1,3,4,5,6] [1,25]),(16,zK [2] [])],
 [(5,⟨[1,3,4,5,6],[1],[],[],[],[],[(4,1,λ _=>zac default)]⟩),(10,zK [1,3,4,5,6,7,8] [1,25])],
 [(2,zK [1,3] [1])],
 [],[]⟩
abbrev R31:=Bool
abbrev e31 (r:R31):List PA:=[.one (.bool r)]
@[irreducible] def z31:=ptF Tryd.prog G31 zE9 Tryd.f31
def zBI (n:Net) (lv0:(Sl Step)) (zcl:(Sl Int)) (zaF:Bool) (rv1:Int) (zeo:Nat->List PV):St:=⟨[(1,zp 1 0),(3,zS zcq 5 lv0),(4,zP (.sl zcl.len 1 zeo)),(5,zB zaF),(6,zI rv1)],[(1,.box 24 (zm (enc_24 n)))],[]⟩
abbrev zFa (K:List PA->Prop) (n:Net) (lv0:(Sl Step)) (X:St->Prop) (P:(Sl Int)->Bool->Int->Bool) (S:(Sl Int)->Bool->Int->Bool):Prop:=∀ ⦃zcl:(Sl Int)⦄ ⦃zaF:Bool⦄ ⦃rv1:Int⦄ ⦃zeo:Nat->List PV⦄,P zcl zaF rv1=true->K (e31 (S zcl zaF rv1))->zeo=zg zac zcl->X (zBI n lv0 zcl zaF rv1 zeo)
def zBJ (n:Net) (lv0:(Sl Step)) (zbR:(Sl Int)) (zaw:Bool) (rv2:Int) (iv2:Int) (zcD:(Sl Int)) (zep:Nat->List PV) (zfP:Nat->List PV):St:=⟨[(1,zp 1 0),(3,zS zcq 5 lv0),(4,zP (.sl zbR.len 1 zep)),(5,zB zaw),(6,zI rv2),(7,zv 25),(8,zI iv2)],[(1,.box 24 (zm (enc_24 n))),(25,.vec 3 1 8 zcD.len zfP)],[]⟩
abbrev zIa (K:List PA->Prop) (n:Net) (lv0:(Sl Step)) (X:St->Prop) (P:(Sl Int)->Bool->Int->Int->(Sl Int)->Bool) (S:(Sl Int)->Bool->Int->Int->(Sl Int)->Bool):Prop:=∀ ⦃zbR:(Sl Int)⦄ ⦃zaw:Bool⦄ ⦃rv2:Int⦄ ⦃iv2:Int⦄ ⦃zcD:(Sl Int)⦄ ⦃zep:Nat->List PV⦄ ⦃zfP:Nat->List PV⦄,P zbR zaw rv2 iv2 zcD=true->K (e31 (S zbR zaw rv2 iv2 zcD))->zep=zg zac zbR->zfP=zg zac zcD->X (zBJ n lv0 zbR zaw rv2 iv2 zcD zep zfP)
section
variable {K:List PA->Prop}{n:Net}{lv0:(Sl Step)}{zx5:Nat->List PV}{zcl:(Sl Int)}{zaF:Bool}{rv1:Int}{zeo:Nat->List PV}{X1:St->Prop}{P1:(Sl Int)->Bool->Int->Bool}{S1:(Sl Int)->Bool->Int->Bool}{zbR:(Sl Int)}{zaw:Bool}{rv2:Int}{iv2:Int}{zcD:(Sl Int)}{zep:Nat->List PV}{zfP:Nat->List PV}{X2:St->Prop}{P2:(Sl Int)->Bool->Int->Int->(Sl Int)->Bool}{S2:(Sl Int)->Bool->Int->Int->(Sl Int)->Bool}
def zh7 (S1:(Sl Int)->Bool->Int->Bool) (n:Net) (lv0:(Sl Step)) (S2:(Sl Int)->Bool->Int->Int->(Sl Int)->Bool) (zbR:(Sl Int)) (zaw:Bool) (rv2:Int) (iv2:Int) (zcD:(Sl Int)):Bool :=
  (cond (decide (iv2 < (lv0.len : Int)))
 (cond (decide ((w64 ((zbR.get (((lv0.get iv2.toNat).From).toNat)) + (lv0.get iv2.toNat).Length)) < (zcD.get (((lv0.get iv2.toNat).To).toNat))))
 (S2 zbR true rv2 (w64 (iv2+(1:Int))) (⟨zcD.len,(setT (((lv0.get iv2.toNat).To).toNat) (w64 ((zbR.get (((lv0.get iv2.toNat).From).toNat))+(lv0.get iv2.toNat).Length)) zcD.get)⟩:Sl Int))
 (S2 zbR zaw rv2 (w64 (iv2+(1:Int))) zcD))
 (S1 zcD zaw (w64 (rv2+(1:Int)))))
def zh8 (P1:(Sl Int)->Bool->Int->Bool) (n:Net) (lv0:(Sl Step)) (P2:(Sl Int)->Bool->Int->Int->(Sl Int)->Bool) (zbR:(Sl Int)) (zaw:Bool) (rv2:Int) (iv2:Int) (zcD:(Sl Int)):Bool :=
  (cond (decide (iv2 < (lv0.len : Int)))
 (decide ((0≤iv2/\iv2 < (lv0.len:Int))) &&
 (decide ((0≤(lv0.get iv2.toNat).From/\(lv0.get iv2.toNat).From < (zbR.len:Int))) &&
 (decide ((0≤iv2/\iv2 < (lv0.len:Int))) &&
 (decide ((0≤iv2/\iv2 < (lv0.len:Int))) &&
 (decide ((0≤(lv0.get iv2.toNat).To/\(lv0.get iv2.toNat).To < (zcD.len:Int))) &&
 (decide ((((lv0.get iv2.toNat).To).toNat < zcD.len)) &&
 (cond (decide ((w64 ((zbR.get (((lv0.get iv2.toNat).From).toNat)) + (lv0.get iv2.toNat).Length)) < (zcD.get (((lv0.get iv2.toNat).To).toNat))))
 (decide ((0≤iv2/\iv2 < (lv0.len:Int))) &&
 (decide ((0≤(lv0.get iv2.toNat).To/\(lv0.get iv2.toNat).To < (zcD.len:Int))) &&
 (decide ((((lv0.get iv2.toNat).To).toNat < zcD.len)) &&
 (P2 zbR true rv2 (w64 (iv2+(1:Int))) (⟨zcD.len,(setT (((lv0.get iv2.toNat).To).toNat) (w64 ((zbR.get (((lv0.get iv2.toNat).From).toNat))+(lv0.get iv2.toNat).Length)) zcD.get)⟩:Sl Int)))))
 (P2 zbR zaw rv2 (w64 (iv2+(1:Int))) zcD))))))))
 (P1 zcD zaw (w64 (rv2+(1:Int)))))
def ze2 (S1:(Sl Int)->Bool->Int->Bool) (n:Net) (lv0:(Sl Step)):Nat->(Sl Int)->Bool->Int->Int->(Sl Int)->Bool:=lpO (λ _ _ _ _ _=>default) (zh7 S1 n lv0)
def ze3 (P1:(Sl Int)->Bool->Int->Bool) (n:Net) (lv0:(Sl Step)):Nat->(Sl Int)->Bool->Int->Int->(Sl Int)->Bool:=lpO (λ _ _ _ _ _=>false) (zh8 P1 n lv0)
def zx6 (S1:(Sl Int)->Bool->Int->Bool) (n:Net) (lv0:(Sl Step)) (zbR:(Sl Int)) (zaw:Bool) (rv2:Int) (iv2:Int) (zcD:(Sl Int)):Bool:=ze2 S1 n lv0 Fuel zbR zaw rv2 iv2 zcD
def zx7 (P1:(Sl Int)->Bool->Int->Bool) (n:Net) (lv0:(Sl Step)) (zbR:(Sl Int)) (zaw:Bool) (rv2:Int) (iv2:Int) (zcD:(Sl Int)):Bool:=ze3 P1 n lv0 Fuel zbR zaw rv2 iv2 zcD
theorem zFb (hX1:zFa K n lv0 X1 P1 S1) (hs:zx7 P1 n lv0 zbR zaw rv2 iv2 zcD=true) (hk:K (e31 (zx6 S1 n lv0 zbR zaw rv2 iv2 zcD))) (zmD:zep=zg zac zbR) (zpW:zfP=zg zac zcD):z31 K [1,1,1,1,0,1,0,0,1,0,0,1,1,0,1,0] [X1] (zBJ n lv0 zbR zaw rv2 iv2 zcD zep zfP) :=
  zl (λ X=>z31 K [1,1,1,1,0,1,0,0,1,0,0,1,1,0,1,0,0] [X1,X]) (by kernel_rfl) λ X2 hX =>
  (show ∀ k, zIa K n lv0 X2 (ze3 P1 n lv0 k) (ze2 S1 n lv0 k) from zeF _ _ (zh8 P1 n lv0) (zh7 S1 n lv0) (zIa K n lv0 X2)
 (by intro _ _ _ _ _ _ _ hs;exact absurd hs Bool.false_ne_true)
 (by intro P2 S2 hX2 zbR zaw rv2 iv2 zcD zep zfP hs hk zmD zpW;subst zmD;subst zpW;exact hX _ (za2 (by kernel_rfl) (zc hs hk (λ hs hk=>(zaM hs λ hc hs=>And.intro hc (zaM hs λ hc hs=>And.intro hc (zaM hs λ hc hs=>And.intro hc (zaM hs λ hc hs=>And.intro hc (zaM hs λ hc hs=>And.intro hc (zaM hs λ hc hs=>And.intro hc (zc hs hk (λ hs hk=>(zaM hs λ hc hs=>And.intro hc (zaM hs λ hc hs=>And.intro hc (zaM hs λ hc hs=>And.intro hc (hX2 hs hk rfl (ze9 (enc:=zac) (i:=((lv0.get iv2.toNat).To).toNat) (k:=0) (f:=zcD.get) (new:=(zac (w64 ((zbR.get (((lv0.get iv2.toNat).From).toNat))+(lv0.get iv2.toNat).Length)))) (v:=(w64 ((zbR.get (((lv0.get iv2.toNat).From).toNat))+(lv0.get iv2.toNat).Length))) rfl rfl)))))) (λ hs hk=>(hX2 hs hk rfl rfl)))))))))) (λ hs hk=>(hX1 hs hk rfl)))))) _ hs hk zmD zpW
def zfQ (n:Net) (lv0:(Sl Step)) (S1:(Sl Int)->Bool->Int->Bool) (zcl:(Sl Int)) (zaF:Bool) (rv1:Int):Bool :=
  (cond (decide (rv1 < n.Nodes))
 (cond zaF
 (zx6 S1 n lv0 zcl false rv1 (0:Int) zcl)
 (!zaF))
 (!zaF))
def zfR (n:Net) (lv0:(Sl Step)) (P1:(Sl Int)->Bool->Int->Bool) (zcl:(Sl Int)) (zaF:Bool) (rv1:Int):Bool :=
  (cond (decide (rv1 < n.Nodes))
 (cond zaF
 (decide ((zcl.len * 8≤140737488355328/\zcl.len≤9223372036854775807)) &&
 (zx7 P1 n lv0 zcl false rv1 (0:Int) zcl))
 true)
 true)
def zgG (n:Net) (lv0:(Sl Step)):Nat->(Sl Int)->Bool->Int->Bool:=lpO (λ _ _ _=>default) (zfQ n lv0)
def zgH (n:Net) (lv0:(Sl Step)):Nat->(Sl Int)->Bool->Int->Bool:=lpO (λ _ _ _=>false) (zfR n lv0)
def zx8 (n:Net) (lv0:(Sl Step)) (zcl:(Sl Int)) (zaF:Bool) (rv1:Int):Bool:=zgG n lv0 Fuel zcl zaF rv1
def zx9 (n:Net) (lv0:(Sl Step)) (zcl:(Sl Int)) (zaF:Bool) (rv1:Int):Bool:=zgH n lv0 Fuel zcl zaF rv1
theorem zFc (hs:zx9 n lv0 zcl zaF rv1=true) (hk:K (e31 (zx8 n lv0 zcl zaF rv1))) (zmE:zeo=zg zac zcl):z31 K [1,1,1,1,0,1,0] [] (zBI n lv0 zcl zaF rv1 zeo) :=
  zl (λ X=>z31 K [1,1,1,1,0,1,0,0] [X]) (by kernel_rfl) λ X1 hX =>
  (show ∀ k, zFa K n lv0 X1 (zgH n lv0 k) (zgG n lv0 k) from zeF _ _ (zfR n lv0) (zfQ n lv0) (zFa K n lv0 X1)
 (by intro _ _ _ _ hs;exact absurd hs Bool.false_ne_true)
 (by intro P1 S1 hX1 zcl zaF rv1 zeo hs hk zmE;subst zmE;exact hX _ (za2 (by kernel_rfl) (zc hs hk (λ hs hk=>(zc hs hk (λ hs hk=>(zaM hs λ hc hs=>And.intro hc (zFb hX1 hs hk rfl rfl))) (λ hs hk=>hk))) (λ hs hk=>hk))))) _ hs hk zmE
def zya (n:Net) (lv0:(Sl Step)):Bool :=
  (zx8 n lv0 (⟨n.Nodes.toNat,(λ _=>(0:Int))⟩:Sl Int) true (0:Int))
def zpX (n:Net) (lv0:(Sl Step)):Bool :=
  (decide ((0≤n.Nodes/\n.Nodes=n.Nodes/\n.Nodes≤1000000)) &&
 (zx9 n lv0 (⟨n.Nodes.toNat,(λ _=>(0:Int))⟩:Sl Int) true (0:Int)))
theorem zFd (hs:zpX n lv0=true) (hk:K (e31 (zya n lv0))) (zFe:zx5=zg zcq lv0):z31 K [1,1] [] ⟨[(1,zp 1 0),(3,zP (.sl lv0.len 5 zx5))],[(1,.box 24 (zm (enc_24 n)))],[]⟩:=by subst zFe;exact za2 (by kernel_rfl) (zaM hs λ hc hs=>And.intro hc (zFc hs hk rfl))
def s31 (n:Net):Bool :=
  (zya n (s77 n))
def p31 (n:Net):Bool :=
  (decide ((p77 n=true)) &&
 (zpX n (s77 n)))
end
theorem q31 (n:Net) (K:List PA->Prop) (hs:p31 n=true) (hk:K (e31 (s31 n))):vcFun Tryd.prog G31 zE9 31 [.agg (enc_24 n)] K :=
  za2 (by kernel_rfl) (zaM hs λ hc hs=>And.intro (And.intro (zE enc_40 4 n.Ties.get) hc) (zFd hs hk rfl))
def zFf : List PA → COut
  | [.agg [.int .i64 zaf,.sl zae zay zad]]=>.det (IsE enc_40 4 zay zad/\p31 (⟨zaf,(⟨zae,zan zad⟩:(Sl Tie))⟩:Net)=true) [.one (.bool (s31 (⟨zaf,(⟨zae,zan zad⟩:(Sl Tie))⟩:Net)))]
  | _=>.no
theorem zIb:zav Tryd.prog 31:=⟨_,rfl,rfl,by kernel_rfl⟩
theorem zMp:Ok Tryd.prog 31 zFf:=zbk zKB zIb λ args K h=>by
  unfold zFf at h
  split at h
  · rename_i zaf zae zay zad
    obtain⟨⟨⟨rfl,zaq,rfl⟩,hs⟩,hk⟩:=h
    try rw[zal zaq] at hs
    try rw[zal zaq] at hk
    exact⟨(λ _ _=>[]),(λ _=>false),zE9,q31 (⟨zaf,(⟨zae,zaq⟩:(Sl Tie))⟩:Net) K hs hk⟩
  · exact h.elim
abbrev T46:Tabs:=(Tabs.nil.addF 77 zAp)
theorem zKC:TabsOk Tryd.prog T46:=(TabsOk.nil.addF zLk)
abbrev G46:Ctrs:=csm T46 (λ _ _=>[]) (λ _=>false)
def zFg:Ann:=⟨79,[(0,zK [1,2] [2]),(1,zK [1,2,5] [2]),(2,zK [1,2,5,6] [2,15]),(3,zK [1,2,5,6,7] [2,15]),(4,zK [1,2,5,6,7,19] [2,15]),(5,zK [1,2,5,6,7] [2,15]),(6,zK [1,2,5,6,7] [2,15]),(7,zK [5,6] [15]),(8,zK [5,6,8] [15]),(9,zK [5,6,28] [15]),(10,zK [5,6,8] [15]),(11,zK [5,6,8,9] [15]),(12,zK [5,6,8,9,32] [15]),(13,zK [5,6,8,9] [15]),(14,zK [5,6,8,9,10] [15]),(15,zK [5,6,8,9,10,69] [15]),(16,zK [5,6,8,9] [15]),(17,zK [4] [15])],
 [(4,zK [1,2,5,6,7] [2,15]),(9,zK [5,6,8] [15]),(12,zK [5,6,8,9] [15])],
 [(2,zK [1,2,5] [2]),(7,zK [1,5,6] [15])],
 [],[]⟩
abbrev R46:=(Sl Int)
abbrev e46 (r:R46):List PA:=[.one (.sl r.len 1 (λ i=>zac (r.get i)))]
@[irreducible] def z46:=ptF Tryd.prog G46 zFg Tryd.f46
def zBK (n:Net) (zaa:Int) (lv0:(Sl Step)) (iv1:Int) (zbq:(Sl Int)) (zcr:Nat->List PV):St:=⟨[(1,zI zaa),(2,zp 2 0),(5,zS zcq 5 lv0),(6,zv 15),(7,zI iv1)],[(2,.box 24 (zm (enc_24 n))),(15,.vec 3 1 8 zbq.len zcr)],[]⟩
abbrev zIc (K:List PA->Prop) (n:Net) (zaa:Int) (lv0:(Sl Step)) (X:St->Prop) (P:Int->(Sl Int)->Bool) (S:Int->(Sl Int)->(Sl Int)):Prop:=∀ ⦃iv1:Int⦄ ⦃zbq:(Sl Int)⦄ ⦃zcr:Nat->List PV⦄,P iv1 zbq=true->K (e46 (S iv1 zbq))->zcr=zg zac zbq->X (zBK n zaa lv0 iv1 zbq zcr)
def zBL (lv0:(Sl Step)) (zao:Bool) (zbS:(Sl Int)) (zcs:Nat->List PV):St:=⟨[(5,zS zcq 5 lv0),(6,zv 15),(8,zB zao)],[(15,.vec 3 1 8 zbS.len zcs)],[]⟩
abbrev zFh (K:List PA->Prop) (lv0:(Sl Step)) (X:St->Prop) (P:Bool->(Sl Int)->Bool) (S:Bool->(Sl Int)->(Sl Int)):Prop:=∀ ⦃zao:Bool⦄ ⦃zbS:(Sl Int)⦄ ⦃zcs:Nat->List PV⦄,P zao zbS=true->K (e46 (S zao zbS))->zcs=zg zac zbS->X (zBL lv0 zao zbS zcs)
def zBM (lv0:(Sl Step)) (zbd:Bool) (iv4:Int) (zaK:(Sl Int)) (zcb:Nat->List PV):St:=⟨[(5,zS zcq 5 lv0),(6,zv 15),(8,zB zbd),(9,zI iv4)],[(15,.vec 3 1 8 zaK.len zcb)],[]⟩
abbrev zId (K:List PA->Prop) (lv0:(Sl Step)) (X:St->Prop) (P:Bool->Int->(Sl Int)->Bool) (S:Bool->Int->(Sl Int)->(Sl Int)):Prop:=∀ ⦃zbd:Bool⦄ ⦃iv4:Int⦄ ⦃zaK:(Sl Int)⦄ ⦃zcb:Nat->List PV⦄,P zbd iv4 zaK=true->K (e46 (S zbd iv4 zaK))->zcb=zg zac zaK->X (zBM lv0 zbd iv4 zaK zcb)
section
variable {K:List PA->Prop}{n:Net}{zaa:Int}{lv0:(Sl Step)}{zx5:Nat->List PV}{iv1:Int}{zbq:(Sl Int)}{zcr:Nat->List PV}{X1:St->Prop}{P1:Int->(Sl Int)->Bool}{S1:Int->(Sl Int)->(Sl Int)}{zcK:(Sl Int)}{zj5:Nat->List PV}{zao:Bool}{zbS:(Sl Int)}{zcs:Nat->List PV}{X3:St->Prop}{P3:Bool->(Sl Int)->Bool}{S3:Bool->(Sl Int)->(Sl Int)}{zbd:Bool}{iv4:Int}{zaK:(Sl Int)}{zcb:Nat->List PV}{X4:St->Prop}{P4:Bool->Int->(Sl Int)->Bool}{S4:Bool->Int->(Sl Int)->(Sl Int)}
def zh9 (S3:Bool->(Sl Int)->(Sl Int)) (lv0:(Sl Step)) (S4:Bool->Int->(Sl Int)->(Sl Int)) (zbd:Bool) (iv4:Int) (zaK:(Sl Int)):(Sl Int) :=
  (cond (decide (iv4 < (lv0.len : Int)))
 (cond ((zaK.get (((lv0.get iv4.toNat).From).toNat)) != (1000000000000:Int))
 (cond (decide ((w64 ((zaK.get (((lv0.get iv4.toNat).From).toNat)) + (lv0.get iv4.toNat).Length)) < (zaK.get (((lv0.get iv4.toNat).To).toNat))))
 (S4 true (w64 (iv4+(1:Int))) (⟨zaK.len,(setT (((lv0.get iv4.toNat).To).toNat) (w64 ((zaK.get (((lv0.get iv4.toNat).From).toNat))+(lv0.get iv4.toNat).Length)) zaK.get)⟩:Sl Int))
 (S4 zbd (w64 (iv4+(1:Int))) zaK))
 (S4 zbd (w64 (iv4+(1:Int))) zaK))
 (S3 zbd zaK))
def zia (P3:Bool->(Sl Int)->Bool) (lv0:(Sl Step)) (P4:Bool->Int->(Sl Int)->Bool) (zbd:Bool) (iv4:Int) (zaK:(Sl Int)):Bool :=
  (cond (decide (iv4 < (lv0.len : Int)))
 (decide ((0≤iv4/\iv4 < (lv0.len:Int))) &&
 (decide ((0≤(lv0.get iv4.toNat).From/\(lv0.get iv4.toNat).From < (zaK.len:Int))) &&
 (decide ((((lv0.get iv4.toNat).From).toNat < zaK.len)) &&
 (decide ((0≤iv4/\iv4 < (lv0.len:Int))) &&
 (decide ((0≤iv4/\iv4 < (lv0.len:Int))) &&
 (decide ((0≤(lv0.get iv4.toNat).From/\(lv0.get iv4.toNat).From < (zaK.len:Int))) &&
 (decide ((((lv0.get iv4.toNat).From).toNat < zaK.len)) &&
 (cond ((zaK.get (((lv0.get iv4.toNat).From).toNat)) != (1000000000000:Int))
 (decide ((0≤iv4/\iv4 < (lv0.len:Int))) &&
 (decide ((0≤(lv0.get iv4.toNat).To/\(lv0.get iv4.toNat).To < (zaK.len:Int))) &&
 (decide ((((lv0.get iv4.toNat).To).toNat < zaK.len)) &&
 (cond (decide ((w64 ((zaK.get (((lv0.get iv4.toNat).From).toNat)) + (lv0.get iv4.toNat).Length)) < (zaK.get (((lv0.get iv4.toNat).To).toNat))))
 (decide ((0≤iv4/\iv4 < (lv0.len:Int))) &&
 (decide ((0≤(lv0.get iv4.toNat).To/\(lv0.get iv4.toNat).To < (zaK.len:Int))) &&
 (decide ((((lv0.get iv4.toNat).To).toNat < zaK.len)) &&
 (P4 true (w64 (iv4+(1:Int))) (⟨zaK.len,(setT (((lv0.get iv4.toNat).To).toNat) (w64 ((zaK.get (((lv0.get iv4.toNat).From).toNat))+(lv0.get iv4.toNat).Length)) zaK.get)⟩:Sl Int)))))
 (P4 zbd (w64 (iv4+(1:Int))) zaK)))))
 (P4 zbd (w64 (iv4+(1:Int))) zaK)))))))))
 (P3 zbd zaK))
def zd0 (S3:Bool->(Sl Int)->(Sl Int)) (lv0:(Sl Step)):Nat->Bool->Int->(Sl Int)->(Sl Int):=lpO (λ _ _ _=>default) (zh9 S3 lv0)
def zd1 (P3:Bool->(Sl Int)->Bool) (lv0:(Sl Step)):Nat->Bool->Int->(Sl Int)->Bool:=lpO (λ _ _ _=>false) (zia P3 lv0)
def zpY (S3:Bool->(Sl Int)->(Sl Int)) (lv0:(Sl Step)) (zbd:Bool) (iv4:Int) (zaK:(Sl Int)):(Sl Int):=zd0 S3 lv0 Fuel zbd iv4 zaK
def zpZ (P3:Bool->(Sl Int)->Bool) (lv0:(Sl Step)) (zbd:Bool) (iv4:Int) (zaK:(Sl Int)):Bool:=zd1 P3 lv0 Fuel zbd iv4 zaK
theorem zFi (hX3:zFh K lv0 X3 P3 S3) (hs:zpZ P3 lv0 zbd iv4 zaK=true) (hk:K (e46 (zpY S3 lv0 zbd iv4 zaK))) (zeZ:zcb=zg zac zaK):z46 K [1,1,1,1,1,0,1,0,0,1,0,1,1,0] [X3] (zBM lv0 zbd iv4 zaK zcb) :=
  zl (λ X=>z46 K [1,1,1,1,1,0,1,0,0,1,0,1,1,0,0] [X3,X]) (by kernel_rfl) λ X4 hX =>
  (show ∀ k, zId K lv0 X4 (zd1 P3 lv0 k) (zd0 S3 lv0 k) from zeF _ _ (zia P3 lv0) (zh9 S3 lv0) (zId K lv0 X4)
 (by intro _ _ _ _ hs;exact absurd hs Bool.false_ne_true)
 (by intro P4 S4 hX4 zbd iv4 zaK zcb hs hk zeZ;subst zeZ;exact hX _ (za2 (by kernel_rfl) (zc hs hk (λ hs hk=>(zaM hs λ hc hs=>And.intro hc (zaM hs λ hc hs=>And.intro hc (zaM hs λ hc hs=>And.intro hc (zaM hs λ hc hs=>And.intro hc (zaM hs λ hc hs=>And.intro hc (zaM hs λ hc hs=>And.intro hc (zaM hs λ hc hs=>And.intro hc (zc hs hk (λ hs hk=>(zaM hs λ hc hs=>And.intro hc (zaM hs λ hc hs=>And.intro hc (zaM hs λ hc hs=>And.intro hc (zc hs hk (λ hs hk=>(zaM hs λ hc hs=>And.intro hc (zaM hs λ hc hs=>And.intro hc (zaM hs λ hc hs=>And.intro hc (hX4 hs hk (ze9 (enc:=zac) (i:=((lv0.get iv4.toNat).To).toNat) (k:=0) (f:=zaK.get) (new:=(zac (w64 ((zaK.get (((lv0.get iv4.toNat).From).toNat))+(lv0.get iv4.toNat).Length)))) (v:=(w64 ((zaK.get (((lv0.get iv4.toNat).From).toNat))+(lv0.get iv4.toNat).Length))) rfl rfl)))))) (λ hs hk=>(hX4 hs hk rfl))))))) (λ hs hk=>(hX4 hs hk rfl))))))))))) (λ hs hk=>(hX3 hs hk rfl)))))) _ hs hk zeZ
def zkk (lv0:(Sl Step)) (S3:Bool->(Sl Int)->(Sl Int)) (zao:Bool) (zbS:(Sl Int)):(Sl Int) :=
  (cond zao
 (zpY S3 lv0 false (0:Int) zbS)
 zbS)
def zkl (lv0:(Sl Step)) (P3:Bool->(Sl Int)->Bool) (zao:Bool) (zbS:(Sl Int)):Bool :=
  (cond zao
 (zpZ P3 lv0 false (0:Int) zbS)
 true)
def zcX (lv0:(Sl Step)):Nat->Bool->(Sl Int)->(Sl Int):=lpO (λ _ _=>default) (zkk lv0)
def zc9 (lv0:(Sl Step)):Nat->Bool->(Sl Int)->Bool:=lpO (λ _ _=>false) (zkl lv0)
def zyb (lv0:(Sl Step)) (zao:Bool) (zbS:(Sl Int)):(Sl Int):=zcX lv0 Fuel zao zbS
def zp0 (lv0:(Sl Step)) (zao:Bool) (zbS:(Sl Int)):Bool:=zc9 lv0 Fuel zao zbS
theorem zFj (hs:zp0 lv0 zao zbS=true) (hk:K (e46 (zyb lv0 zao zbS))) (zgD:zcs=zg zac zbS):z46 K [1,1,1,1,1,0,1,0] [] (zBL lv0 zao zbS zcs) :=
  zl (λ X=>z46 K [1,1,1,1,1,0,1,0,0] [X]) (by kernel_rfl) λ X3 hX =>
  (show ∀ k, zFh K lv0 X3 (zc9 lv0 k) (zcX lv0 k) from zeF _ _ (zkl lv0) (zkk lv0) (zFh K lv0 X3)
 (by intro _ _ _ hs;exact absurd hs Bool.false_ne_true)
 (by intro P3 S3 hX3 zao zbS zcs hs hk zgD;subst zgD;exact hX _ (za2 (by kernel_rfl) (zc hs hk (λ hs hk=>(zFi hX3 hs hk rfl)) (λ hs hk=>hk))))) _ hs hk zgD
def zp1 (zaa:Int) (lv0:(Sl Step)) (zcK:(Sl Int)):(Sl Int) :=
  (zyb lv0 true (⟨zcK.len,(setT zaa.toNat (0:Int) zcK.get)⟩:Sl Int))
def zmF (zaa:Int) (lv0:(Sl Step)) (zcK:(Sl Int)):Bool :=
  (decide ((0≤zaa/\zaa < (zcK.len:Int))) &&
 (decide ((zaa.toNat < zcK.len)) &&
 (zp0 lv0 true (⟨zcK.len,(setT zaa.toNat (0:Int) zcK.get)⟩:Sl Int))))
theorem zFk (hs:zmF zaa lv0 zcK=true) (hk:K (e46 (zp1 zaa lv0 zcK))) (zpp:zj5=zg zac zcK):z46 K [1,1,1,1] [] ⟨[(1,zI zaa),(5,zS zcq 5 lv0),(6,zv 15)],[(15,.vec 3 1 8 zcK.len zj5)],[]⟩:=by subst zpp;exact za2 (by kernel_rfl) (zaM hs λ hc hs=>And.intro hc (zaM hs λ hc hs=>And.intro hc (zFj hs hk (ze9 (enc:=zac) (i:=zaa.toNat) (k:=0) (f:=zcK.get) (new:=(zac (0:Int))) (v:=(0:Int)) rfl rfl))))
def zib (n:Net) (zaa:Int) (lv0:(Sl Step)) (S1:Int->(Sl Int)->(Sl Int)) (iv1:Int) (zbq:(Sl Int)):(Sl Int) :=
  (cond (decide (iv1 < n.Nodes))
 (S1 (w64 (iv1+(1:Int))) (⟨zbq.len,(setT iv1.toNat (1000000000000:Int) zbq.get)⟩:Sl Int))
 (zp1 zaa lv0 zbq))
def zic (n:Net) (zaa:Int) (lv0:(Sl Step)) (P1:Int->(Sl Int)->Bool) (iv1:Int) (zbq:(Sl Int)):Bool :=
  (cond (decide (iv1 < n.Nodes))
 (decide ((0≤iv1/\iv1 < (zbq.len:Int))) &&
 (decide ((iv1.toNat < zbq.len)) &&
 (P1 (w64 (iv1+(1:Int))) (⟨zbq.len,(setT iv1.toNat (1000000000000:Int) zbq.get)⟩:Sl Int))))
 (zmF zaa lv0 zbq))
def zid (n:Net) (zaa:Int) (lv0:(Sl Step)):Nat->Int->(Sl Int)->(Sl Int):=lpO (λ _ _=>default) (zib n zaa lv0)
def zie (n:Net) (zaa:Int) (lv0:(Sl Step)):Nat->Int->(Sl Int)->Bool:=lpO (λ _ _=>false) (zic n zaa lv0)
def zyc (n:Net) (zaa:Int) (lv0:(Sl Step)) (iv1:Int) (zbq:(Sl Int)):(Sl Int):=zid n zaa lv0 Fuel iv1 zbq
def zyd (n:Net) (zaa:Int) (lv0:(Sl Step)) (iv1:Int) (zbq:(Sl Int)):Bool:=zie n zaa lv0 Fuel iv1 zbq
theorem zFl (hs:zyd n zaa lv0 iv1 zbq=true) (hk:K (e46 (zyc n zaa lv0 iv1 zbq))) (zgE:zcr=zg zac zbq):z46 K [1,1,1,0,1,0] [] (zBK n zaa lv0 iv1 zbq zcr) :=
  zl (λ X=>z46 K [1,1,1,0,1,0,0] [X]) (by kernel_rfl) λ X1 hX =>
  (show ∀ k, zIc K n zaa lv0 X1 (zie n zaa lv0 k) (zid n zaa lv0 k) from zeF _ _ (zic n zaa lv0) (zib n zaa lv0) (zIc K n zaa lv0 X1)
 (by intro _ _ _ hs;exact absurd hs Bool.false_ne_true)
 (by intro P1 S1 hX1 iv1 zbq zcr hs hk zgE;subst zgE;exact hX _ (za2 (by kernel_rfl) (zc hs hk (λ hs hk=>(zaM hs λ hc hs=>And.intro hc (zaM hs λ hc hs=>And.intro hc (hX1 hs hk (ze9 (enc:=zac) (i:=iv1.toNat) (k:=0) (f:=zbq.get) (new:=(zac (1000000000000:Int))) (v:=(1000000000000:Int)) rfl rfl))))) (λ hs hk=>(zFk hs hk rfl)))))) _ hs hk zgE
def zye (n:Net) (zaa:Int) (lv0:(Sl Step)):(Sl Int) :=
  (zyc n zaa lv0 (0:Int) (⟨n.Nodes.toNat,(λ _=>(0:Int))⟩:Sl Int))
def zp2 (n:Net) (zaa:Int) (lv0:(Sl Step)):Bool :=
  (decide ((0≤n.Nodes/\n.Nodes=n.Nodes/\n.Nodes≤1000000)) &&
 (zyd n zaa lv0 (0:Int) (⟨n.Nodes.toNat,(λ _=>(0:Int))⟩:Sl Int)))
theorem zFm (hs:zp2 n zaa lv0=true) (hk:K (e46 (zye n zaa lv0))) (zFe:zx5=zg zcq lv0):z46 K [1,1] [] ⟨[(1,zI zaa),(2,zp 2 0),(5,zP (.sl lv0.len 5 zx5))],[(2,.box 24 (zm (enc_24 n)))],[]⟩:=by subst zFe;exact za2 (by kernel_rfl) (zaM hs λ hc hs=>And.intro hc (zFl hs hk rfl))
def s46 (n:Net) (zaa:Int):(Sl Int) :=
  (zye n zaa (s77 n))
def p46 (n:Net) (zaa:Int):Bool :=
  (decide ((p77 n=true)) &&
 (zp2 n zaa (s77 n)))
end
theorem q46 (n:Net) (zaa:Int) (K:List PA->Prop) (hs:p46 n zaa=true) (hk:K (e46 (s46 n zaa))):vcFun Tryd.prog G46 zFg 46 [.agg (enc_24 n),.one (.int .i64 zaa)] K :=
  za2 (by kernel_rfl) (zaM hs λ hc hs=>And.intro (And.intro (zE enc_40 4 n.Ties.get) hc) (zFm hs hk rfl))
def zFn : List PA → COut
  | [.agg [.int .i64 zaf,.sl zae zay zad],.one (.int .i64 a1)]=>.det (IsE enc_40 4 zay zad/\p46 (⟨zaf,(⟨zae,zan zad⟩:(Sl Tie))⟩:Net) a1=true) [.one (.sl ((s46 (⟨zaf,(⟨zae,zan zad⟩:(Sl Tie))⟩:Net) a1).len) 1 (λ i=>zac ((s46 (⟨zaf,(⟨zae,zan zad⟩:(Sl Tie))⟩:Net) a1).get i)))]
  | _=>.no
theorem zIe:zav Tryd.prog 46:=⟨_,rfl,rfl,by kernel_rfl⟩
theorem zMq:Ok Tryd.prog 46 zFn:=zbk zKC zIe λ args K h=>by
  unfold zFn at h
  split at h
  · rename_i zaf zae zay zad a1
    obtain⟨⟨⟨rfl,zaq,rfl⟩,hs⟩,hk⟩:=h
    try rw[zal zaq] at hs
    try rw[zal zaq] at hk
    exact⟨(λ _ _=>[]),(λ _=>false),zFg,q46 (⟨zaf,(⟨zae,zaq⟩:(Sl Tie))⟩:Net) a1 K hs hk⟩
  · exact h.elim
abbrev T34:Tabs:=(Tabs.nil.addF 46 zFn)
theorem zKD:TabsOk Tryd.prog T34:=(TabsOk.nil.addF zMq)
abbrev G34:Ctrs:=csm T34 (λ _ _=>[]) (λ _=>false)
def zIf:Ann:=⟨21,[(0,zK [1,2,3,6] [3,6]),(1,zK [6] [6])],
 [],
 [],
 [],[]⟩
abbrev R34:=Span
abbrev e34 (r:R34):List PA:=[.agg [.int .i64 r.Low,.int .i64 r.High]]
section
variable {K:List PA->Prop}{n:Net}{zaa:Int}{to:Int}
def s34 (n:Net) (zaa:Int) (to:Int):Span :=
  (⟨(w64 (0 - ((s46 n to).get zaa.toNat))),((s46 n zaa).get to.toNat)⟩:Span)
def p34 (n:Net) (zaa:Int) (to:Int):Bool :=
  (decide ((p46 n to=true)) &&
 (decide ((0≤zaa/\zaa < ((s46 n to).len:Int))) &&
 (decide ((p46 n zaa=true)) &&
 (decide ((0≤to/\to < ((s46 n zaa).len:Int))) &&
 true))))
end
theorem q34 (n:Net) (zaa:Int) (to:Int) (K:List PA->Prop) (hs:p34 n zaa to=true) (hk:K (e34 (s34 n zaa to))):vcFun Tryd.prog G34 zIf 34 [.agg (enc_24 n),.one (.int .i64 zaa),.one (.int .i64 to)] K :=
  za2 (by kernel_rfl) (zaM hs λ hc hs=>And.intro (And.intro (zE enc_40 4 n.Ties.get) hc) (zaM hs λ hc hs=>And.intro hc (zaM hs λ hc hs=>And.intro (And.intro (zE enc_40 4 n.Ties.get) hc) (zaM hs λ hc hs=>And.intro hc hk))))
def zAq : List PA → COut
  | [.agg [.int .i64 zaf,.sl zae zay zad],.one (.int .i64 a1),.one (.int .i64 a2)]=>.det (IsE enc_40 4 zay zad/\p34 (⟨zaf,(⟨zae,zan zad⟩:(Sl Tie))⟩:Net) a1 a2=true) [.agg [.int .i64 ((s34 (⟨zaf,(⟨zae,zan zad⟩:(Sl Tie))⟩:Net) a1 a2).Low),.int .i64 ((s34 (⟨zaf,(⟨zae,zan zad⟩:(Sl Tie))⟩:Net) a1 a2).High)]]
  | _=>.no
theorem zIg:zav Tryd.prog 34:=⟨_,rfl,rfl,by kernel_rfl⟩
theorem zLl:Ok Tryd.prog 34 zAq:=zbk zKD zIg λ args K h=>by
  unfold zAq at h
  split at h
  · rename_i zaf zae zay zad a1 a2
    obtain⟨⟨⟨rfl,zaq,rfl⟩,hs⟩,hk⟩:=h
    try rw[zal zaq] at hs
    try rw[zal zaq] at hk
    exact⟨(λ _ _=>[]),(λ _=>false),zIf,q34 (⟨zaf,(⟨zae,zaq⟩:(Sl Tie))⟩:Net) a1 a2 K hs hk⟩
  · exact h.elim
abbrev T33:Tabs:=(Tabs.nil.addF 34 zAq)
theorem zKE:TabsOk Tryd.prog T33:=(TabsOk.nil.addF zLl)
abbrev G33:Ctrs:=csm T33 (λ _ _=>[]) (λ _=>false)
def zFo:Ann:=⟨18,[(0,zK [1] [1]),(1,zK [1,3] [1]),(2,zK [1,3,4] [1]),(3,zK [1,3,4,8] [1,16]),(4,zK [1,3,4] [1,16]),(5,zK [1,3,4] [1,16]),(6,zK [2] [16])],
 [(3,⟨[1,3,4],[1,16],[(3,16,43,λ _=>zaT default)],[],[],[],[]⟩)],
 [],
 [],[]⟩
abbrev R33:=(Sl Span)
abbrev e33 (r:R33):List PA:=[.one (.sl r.len 2 (λ i=>zaT (r.get i)))]
@[irreducible] def z33:=ptF Tryd.prog G33 zFo Tryd.f33
def zBN (n:Net) (iv0:Int) (zc1:(Sl Span)) (zfS:Nat->List PV):St:=⟨[(1,zp 1 0),(3,zv 16),(4,zI iv0)],[(1,.box 24 (zm (enc_24 n))),(16,.vec 43 2 16 zc1.len zfS)],[]⟩
abbrev zIh (K:List PA->Prop) (n:Net) (X:St->Prop) (P:Int->(Sl Span)->Bool) (S:Int->(Sl Span)->(Sl Span)):Prop:=∀ ⦃iv0:Int⦄ ⦃zc1:(Sl Span)⦄ ⦃zfS:Nat->List PV⦄,P iv0 zc1=true->K (e33 (S iv0 zc1))->zfS=zg zaT zc1->X (zBN n iv0 zc1 zfS)
section
variable {K:List PA->Prop}{n:Net}{iv0:Int}{zc1:(Sl Span)}{zfS:Nat->List PV}{X0:St->Prop}{P0:Int->(Sl Span)->Bool}{S0:Int->(Sl Span)->(Sl Span)}
def zif (n:Net) (S0:Int->(Sl Span)->(Sl Span)) (iv0:Int) (zc1:(Sl Span)):(Sl Span) :=
  (cond (decide (iv0 < n.Nodes))
 (S0 (w64 (iv0+(1:Int))) (⟨(zc1.len+1),(zf2 zc1.len zc1.get (λ _=>(s34 n (0:Int) iv0)))⟩:Sl Span))
 zc1)
def zih (n:Net) (P0:Int->(Sl Span)->Bool) (iv0:Int) (zc1:(Sl Span)):Bool :=
  (cond (decide (iv0 < n.Nodes))
 (decide ((p34 n (0:Int) iv0=true)) &&
 (decide (((zc1.len+1) * 16≤140737488355328/\zc1.len+1≤9223372036854775807)) &&
 (P0 (w64 (iv0+(1:Int))) (⟨(zc1.len+1),(zf2 zc1.len zc1.get (λ _=>(s34 n (0:Int) iv0)))⟩:Sl Span))))
 true)
def zgI (n:Net):Nat->Int->(Sl Span)->(Sl Span):=lpO (λ _ _=>default) (zif n)
def zgJ (n:Net):Nat->Int->(Sl Span)->Bool:=lpO (λ _ _=>false) (zih n)
def zyf (n:Net) (iv0:Int) (zc1:(Sl Span)):(Sl Span):=zgI n Fuel iv0 zc1
def zyg (n:Net) (iv0:Int) (zc1:(Sl Span)):Bool:=zgJ n Fuel iv0 zc1
theorem zFp (hs:zyg n iv0 zc1=true) (hk:K (e33 (zyf n iv0 zc1))) (zp3:zfS=zg zaT zc1):z33 K [1,1,0,1,0] [] (zBN n iv0 zc1 zfS) :=
  zl (λ X=>z33 K [1,1,0,1,0,0] [X]) (by kernel_rfl) λ X0 hX =>
  (show ∀ k, zIh K n X0 (zgJ n k) (zgI n k) from zeF _ _ (zih n) (zif n) (zIh K n X0)
 (by intro _ _ _ hs;exact absurd hs Bool.false_ne_true)
 (by intro P0 S0 hX0 iv0 zc1 zfS hs hk zp3;subst zp3;exact hX _ (za2 (by kernel_rfl) (zc hs hk (λ hs hk=>(zaM hs λ hc hs=>And.intro (And.intro (zE enc_40 4 n.Ties.get) hc) (zaM hs λ hc hs=>And.intro hc (hX0 hs hk (zit (enc:=zaT) (f:=zc1.get) (h:=(λ _=>(s34 n (0:Int) iv0))) rfl rfl))))) (λ hs hk=>hk))))) _ hs hk zp3
def s33 (n:Net):(Sl Span) :=
  (zyf n (0:Int) (⟨0,(λ _=>default)⟩:Sl Span))
def p33 (n:Net):Bool :=
  (zyg n (0:Int) (⟨0,(λ _=>default)⟩:Sl Span))
end
theorem q33 (n:Net) (K:List PA->Prop) (hs:p33 n=true) (hk:K (e33 (s33 n))):vcFun Tryd.prog G33 zFo 33 [.agg (enc_24 n)] K :=
  za2 (by kernel_rfl) (zFp hs hk rfl)
def zFq : List PA → COut
  | [.agg [.int .i64 zaf,.sl zae zay zad]]=>.det (IsE enc_40 4 zay zad/\p33 (⟨zaf,(⟨zae,zan zad⟩:(Sl Tie))⟩:Net)=true) [.one (.sl ((s33 (⟨zaf,(⟨zae,zan zad⟩:(Sl Tie))⟩:Net)).len) 2 (λ i=>zaT ((s33 (⟨zaf,(⟨zae,zan zad⟩:(Sl Tie))⟩:Net)).get i)))]
  | _=>.no
theorem zIi:zav Tryd.prog 33:=⟨_,rfl,rfl,by kernel_rfl⟩
theorem zMr:Ok Tryd.prog 33 zFq:=zbk zKE zIi λ args K h=>by
  unfold zFq at h
  split at h
  · rename_i zaf zae zay zad
    obtain⟨⟨⟨rfl,zaq,rfl⟩,hs⟩,hk⟩:=h
    try rw[zal zaq] at hs
    try rw[zal zaq] at hk
    exact⟨(λ _ _=>[]),(λ _=>false),zFo,q33 (⟨zaf,(⟨zae,zaq⟩:(Sl Tie))⟩:Net) K hs hk⟩
  · exact h.elim
abbrev T6:Tabs:=(((((((((Tabs.nil.addF 20 zEU).addF 21 zET).addF 23 zE3).addF 26 zzW).addF 30 zE4).addF 31 zFf).addF 32 zzX).addF 33 zFq).addF 34 zAq)
theorem zMs:TabsOk Tryd.prog T6:=(((((((((TabsOk.nil.addF zMl).addF zMk).addF zMn).addF zK4).addF zMo).addF zMp).addF ok32).addF zMr).addF zLl)
abbrev G6:Ctrs:=csm T6 (λ _ _=>[]) (λ _=>false)
def zKF:Ann:=⟨132,[(0,zK [1,2,3] [3]),(1,zK [1,2,3,14] [3]),(2,zK [6] []),(3,zK [1,2,3,7,8] [3]),(4,zK [1,2,3,7,8,9,10] [3,9]),(5,zK [1,2,3,7,8,9,10,30] [3,9]),(6,zK [6] []),(7,zK [1,2,3,7,8,9,10,11] [3,9]),(8,zK [1,2,3,7,8,9,10,11,78] [3,9]),(9,zK [6] []),(10,zK [1,2,3,7,8,9,10,11,81] [3,9]),(11,zK [6] []),(12,zK [6] [])],
 [],
 [(2,zK [1,2,3,14] [3]),(3,zK [1,2,3] [3]),(4,zK [1,2,3,7,8] [3]),(5,zK [1,2,3,7,8,9,10] [3,9]),(6,zK [1,2,3,7,8,9,10,30] [3,9]),(7,zK [1,2,3,7,8,9,10] [3,9]),(10,zK [1,2,3,7,8,9,10,11] [3,9]),(11,zK [1,2,3,7,8,9,10,11,81] [3,9]),(12,zK [1,2,3,7,8,9,10,11] [3,9])],
 [],[]⟩
abbrev R6:=Bool
abbrev e6 (r:R6):List PA:=[.one (.bool r)]
@[irreducible] def z6:=ptF Tryd.prog G6 zKF Tryd.f6
section
variable {K:List PA->Prop}{n:Net}{zaa:Int}{to:Int}{zgA:Bool}{bv2:(Sl Span)}{ev2:Int}{zIj:Nat->List PV}{fv3:Int}{zbr:Int}{zbs:Int}{zp4:Bool}{zbK:Bool}{zp5:Bool}
def zr1 (n:Net) (zaa:Int) (to:Int) (bv2:(Sl Span)) (ev2:Int) (fv3:Int) (zbr:Int) (zbs:Int) (zbK:Bool):Bool :=
  (cond (ev2 == (0:Int))
 (cond (s32 bv2 (s33 n))
 (cond (!zbK)
 true
 (cond (fv3 == (0:Int))
 (cond (match (zbr == (s34 n zaa to).Low) with | true => (match (zbs == (s34 n zaa to).High) with | true => true | false => false) | false => false)
 true
 false)
 false))
 false)
 false)
def zr2 (n:Net) (zaa:Int) (to:Int) (bv2:(Sl Span)) (ev2:Int) (fv3:Int) (zbr:Int) (zbs:Int) (zbK:Bool):Bool :=
  (cond (ev2 == (0:Int))
 (decide ((p33 n=true)) &&
 (decide ((p32 bv2 (s33 n)=true)) &&
 (cond (s32 bv2 (s33 n))
 (cond (!zbK)
 true
 (cond (fv3 == (0:Int))
 (decide ((p34 n zaa to=true)) &&
 true)
 true))
 true)))
 true)
theorem zIk (hs:zr2 n zaa to bv2 ev2 fv3 zbr zbs zbK=true) (hk:K (e6 (zr1 n zaa to bv2 ev2 fv3 zbr zbs zbK))):z6 K [1,1,1,1,1,1,1,1] [] ⟨[(1,zI zaa),(2,zI to),(3,zp 3 0),(7,zS zaT 2 bv2),(8,zI ev2),(9,zp 9 0),(10,zI fv3),(11,zB zbK)],[(3,.box 24 (zm (enc_24 n))),(9,.box 43 (zm (zaT (⟨zbr,zbs⟩:Span))))],[]⟩:=za2 (by kernel_rfl) (zc hs hk (λ hs hk=>(zaM hs λ hc hs=>And.intro (And.intro (zE enc_40 4 n.Ties.get) hc) (zaM hs λ hc hs=>And.intro (And.intro (zE zaT 2 bv2.get) (And.intro (zE zaT 2 ((s33 n).get)) (zy (y:=s33 n) (P:=λ y=>p32 bv2 y=true) hc))) (zq (zf (s33 n) λ y=>(s32 bv2 y)) (zc hs hk (λ hs hk=>(zc hs hk (λ hs hk=>hk) (λ hs hk=>(zc hs hk (λ hs hk=>(zaM hs λ hc hs=>And.intro (And.intro (zE enc_40 4 n.Ties.get) hc) (zt hk (λ hk=>hk) (λ hk=>hk)))) (λ hs hk=>hk))))) (λ hs hk=>hk)))))) (λ hs hk=>hk))
def zr3 (n:Net) (zaa:Int) (to:Int) (bv2:(Sl Span)) (ev2:Int) (fv3:Int) (zbr:Int) (zbs:Int) (zbK:Bool) (zp5:Bool):Bool :=
  (cond zp5
 (cond (ev2 == (5:Int))
 (cond ((bv2.len : Int) == (0:Int))
 (cond (!zbK)
 true
 (cond (fv3 == (5:Int))
 (cond (match (zbr == (0:Int)) with | true => (match (zbs == (0:Int)) with | true => true | false => false) | false => false)
 true
 false)
 false))
 false)
 false)
 (zr1 n zaa to bv2 ev2 fv3 zbr zbs zbK))
def zr4 (n:Net) (zaa:Int) (to:Int) (bv2:(Sl Span)) (ev2:Int) (fv3:Int) (zbr:Int) (zbs:Int) (zbK:Bool) (zp5:Bool):Bool :=
  (cond zp5
 true
 (zr2 n zaa to bv2 ev2 fv3 zbr zbs zbK))
theorem zIl (hs:zr4 n zaa to bv2 ev2 fv3 zbr zbs zbK zp5=true) (hk:K (e6 (zr3 n zaa to bv2 ev2 fv3 zbr zbs zbK zp5))):z6 K [1,1,1,1,1,1,1,0,1] [] ⟨[(1,zI zaa),(2,zI to),(3,zp 3 0),(7,zS zaT 2 bv2),(8,zI ev2),(9,zp 9 0),(10,zI fv3),(11,zB zbK),(81,zB zp5)],[(3,.box 24 (zm (enc_24 n))),(9,.box 43 (zm (zaT (⟨zbr,zbs⟩:Span))))],[]⟩:=za2 (by kernel_rfl) (zc hs hk (λ hs hk=>(zt hk (λ hk=>(zt hk (λ hk=>(zt hk (λ hk=>hk) (λ hk=>(zt hk (λ hk=>(zt hk (λ hk=>hk) (λ hk=>hk))) (λ hk=>hk))))) (λ hk=>hk))) (λ hk=>hk))) (λ hs hk=>(zIk hs hk)))
def zfb (n:Net) (zaa:Int) (to:Int) (bv2:(Sl Span)) (ev2:Int) (fv3:Int) (zbr:Int) (zbs:Int) (zbK:Bool):Bool :=
  (zr3 n zaa to bv2 ev2 fv3 zbr zbs zbK (!(s31 n)))
def zfc (n:Net) (zaa:Int) (to:Int) (bv2:(Sl Span)) (ev2:Int) (fv3:Int) (zbr:Int) (zbs:Int) (zbK:Bool):Bool :=
  (decide ((p31 n=true)) &&
 (zr4 n zaa to bv2 ev2 fv3 zbr zbs zbK (!(s31 n))))
theorem znZ (hs:zfc n zaa to bv2 ev2 fv3 zbr zbs zbK=true) (hk:K (e6 (zfb n zaa to bv2 ev2 fv3 zbr zbs zbK))):z6 K [1,1,1,1,1,1,1] [] ⟨[(1,zI zaa),(2,zI to),(3,zp 3 0),(7,zS zaT 2 bv2),(8,zI ev2),(9,zp 9 0),(10,zI fv3),(11,zB zbK)],[(3,.box 24 (zm (enc_24 n))),(9,.box 43 (zm (zaT (⟨zbr,zbs⟩:Span))))],[]⟩:=za2 (by kernel_rfl) (zaM hs λ hc hs=>And.intro (And.intro (zE enc_40 4 n.Ties.get) hc) (zIl hs hk))
def zlc (n:Net) (zaa:Int) (to:Int) (bv2:(Sl Span)) (ev2:Int) (fv3:Int) (zbr:Int) (zbs:Int):Bool :=
  (cond (decide (zaa ≥ (0:Int)))
 (cond (decide (zaa < n.Nodes))
 (cond (decide (to ≥ (0:Int)))
 (cond (!(decide (to < n.Nodes)))
 (cond (fv3 != (2:Int))
 false
 (cond (!(match (zbr == (0:Int)) with | true => (match (zbs == (0:Int)) with | true => true | false => false) | false => false))
 false
 (zfb n zaa to bv2 ev2 fv3 zbr zbs (decide (to < n.Nodes)))))
 (zfb n zaa to bv2 ev2 fv3 zbr zbs (decide (to < n.Nodes))))
 (cond (fv3 != (2:Int))
 false
 (cond (!(match (zbr == (0:Int)) with | true => (match (zbs == (0:Int)) with | true => true | false => false) | false => false))
 false
 (zfb n zaa to bv2 ev2 fv3 zbr zbs false))))
 (cond (fv3 != (2:Int))
 false
 (cond (!(match (zbr == (0:Int)) with | true => (match (zbs == (0:Int)) with | true => true | false => false) | false => false))
 false
 (zfb n zaa to bv2 ev2 fv3 zbr zbs false))))
 (cond (fv3 != (2:Int))
 false
 (cond (!(match (zbr == (0:Int)) with | true => (match (zbs == (0:Int)) with | true => true | false => false) | false => false))
 false
 (zfb n zaa to bv2 ev2 fv3 zbr zbs false))))
def zld (n:Net) (zaa:Int) (to:Int) (bv2:(Sl Span)) (ev2:Int) (fv3:Int) (zbr:Int) (zbs:Int):Bool :=
  (cond (decide (zaa ≥ (0:Int)))
 (cond (decide (zaa < n.Nodes))
 (cond (decide (to ≥ (0:Int)))
 (cond (!(decide (to < n.Nodes)))
 (cond (fv3 != (2:Int))
 true
 (cond (!(match (zbr == (0:Int)) with | true => (match (zbs == (0:Int)) with | true => true | false => false) | false => false))
 true
 (zfc n zaa to bv2 ev2 fv3 zbr zbs (decide (to < n.Nodes)))))
 (zfc n zaa to bv2 ev2 fv3 zbr zbs (decide (to < n.Nodes))))
 (cond (fv3 != (2:Int))
 true
 (cond (!(match (zbr == (0:Int)) with | true => (match (zbs == (0:Int)) with | true => true | false => false) | false => false))
 true
 (zfc n zaa to bv2 ev2 fv3 zbr zbs false))))
 (cond (fv3 != (2:Int))
 true
 (cond (!(match (zbr == (0:Int)) with | true => (match (zbs == (0:Int)) with | true => true | false => false) | false => false))
 true
 (zfc n zaa to bv2 ev2 fv3 zbr zbs false))))
 (cond (fv3 != (2:Int))
 true
 (cond (!(match (zbr == (0:Int)) with | true => (match (zbs == (0:Int)) with | true => true | false => false) | false => false))
 true
 (zfc n zaa to bv2 ev2 fv3 zbr zbs false))))
theorem zIm (hs:zld n zaa to bv2 ev2 fv3 zbr zbs=true) (hk:K (e6 (zlc n zaa to bv2 ev2 fv3 zbr zbs))):z6 K [1,1,1,1,1] [] ⟨[(1,zI zaa),(2,zI to),(3,zp 3 0),(7,zS zaT 2 bv2),(8,zI ev2),(9,zp 9 0),(10,zI fv3)],[(3,.box 24 (zm (enc_24 n))),(9,.box 43 (zm (zaT (⟨zbr,zbs⟩:Span))))],[]⟩:=za2 (by kernel_rfl) (zc hs hk (λ hs hk=>(zc hs hk (λ hs hk=>(zc hs hk (λ hs hk=>(zc hs hk (λ hs hk=>(zc hs hk (λ hs hk=>hk) (λ hs hk=>(zc hs hk (λ hs hk=>hk) (λ hs hk=>(znZ hs hk)))))) (λ hs hk=>(znZ hs hk)))) (λ hs hk=>(zc hs hk (λ hs hk=>hk) (λ hs hk=>(zc hs hk (λ hs hk=>hk) (λ hs hk=>(znZ hs hk)))))))) (λ hs hk=>(zc hs hk (λ hs hk=>hk) (λ hs hk=>(zc hs hk (λ hs hk=>hk) (λ hs hk=>(znZ hs hk)))))))) (λ hs hk=>(zc hs hk (λ hs hk=>hk) (λ hs hk=>(zc hs hk (λ hs hk=>hk) (λ hs hk=>(znZ hs hk)))))))
def zle (n:Net) (zaa:Int) (to:Int) (bv2:(Sl Span)) (ev2:Int) (fv3:Int) (zbr:Int) (zbs:Int) (zp4:Bool):Bool :=
  (cond zp4
 (cond (ev2 == (2:Int))
 (cond (fv3 == (2:Int))
 (cond ((bv2.len : Int) == (0:Int))
 (cond (match (zbr == (0:Int)) with | true => (match (zbs == (0:Int)) with | true => true | false => false) | false => false)
 true
 false)
 false)
 false)
 false)
 (zlc n zaa to bv2 ev2 fv3 zbr zbs))
def zlf (n:Net) (zaa:Int) (to:Int) (bv2:(Sl Span)) (ev2:Int) (fv3:Int) (zbr:Int) (zbs:Int) (zp4:Bool):Bool :=
  (cond zp4
 true
 (zld n zaa to bv2 ev2 fv3 zbr zbs))
theorem zIn (hs:zlf n zaa to bv2 ev2 fv3 zbr zbs zp4=true) (hk:K (e6 (zle n zaa to bv2 ev2 fv3 zbr zbs zp4))):z6 K [1,1,1,1,0,1] [] ⟨[(1,zI zaa),(2,zI to),(3,zp 3 0),(7,zS zaT 2 bv2),(8,zI ev2),(9,zp 9 0),(10,zI fv3),(30,zB zp4)],[(3,.box 24 (zm (enc_24 n))),(9,.box 43 (zm (zaT (⟨zbr,zbs⟩:Span))))],[]⟩:=za2 (by kernel_rfl) (zc hs hk (λ hs hk=>(zt hk (λ hk=>(zt hk (λ hk=>(zt hk (λ hk=>(zt hk (λ hk=>hk) (λ hk=>hk))) (λ hk=>hk))) (λ hk=>hk))) (λ hk=>hk))) (λ hs hk=>(zIm hs hk)))
def zyh (n:Net) (zaa:Int) (to:Int) (bv2:(Sl Span)) (ev2:Int) (fv3:Int) (zbr:Int) (zbs:Int):Bool :=
  (zle n zaa to bv2 ev2 fv3 zbr zbs (!(s23 n)))
def zyi (n:Net) (zaa:Int) (to:Int) (bv2:(Sl Span)) (ev2:Int) (fv3:Int) (zbr:Int) (zbs:Int):Bool :=
  (decide ((p23 n=true)) &&
 (zlf n zaa to bv2 ev2 fv3 zbr zbs (!(s23 n))))
theorem zIo (hs:zyi n zaa to bv2 ev2 fv3 zbr zbs=true) (hk:K (e6 (zyh n zaa to bv2 ev2 fv3 zbr zbs))):z6 K [1,1,1,1] [] ⟨[(1,zI zaa),(2,zI to),(3,zp 3 0),(7,zS zaT 2 bv2),(8,zI ev2),(9,zp 9 0),(10,zI fv3)],[(3,.box 24 (zm (enc_24 n))),(9,.box 43 (zm (zaT (⟨zbr,zbs⟩:Span))))],[]⟩:=za2 (by kernel_rfl) (zaM hs λ hc hs=>And.intro (And.intro (zE enc_40 4 n.Ties.get) hc) (zIn hs hk))
def zyj (n:Net) (zaa:Int) (to:Int) (bv2:(Sl Span)) (ev2:Int):Bool :=
  (zyh n zaa to bv2 ev2 ((s30 n zaa to).2) (((s30 n zaa to).1).Low) (((s30 n zaa to).1).High))
def zyk (n:Net) (zaa:Int) (to:Int) (bv2:(Sl Span)) (ev2:Int):Bool :=
  (decide ((p30 n zaa to=true)) &&
 (zyi n zaa to bv2 ev2 ((s30 n zaa to).2) (((s30 n zaa to).1).Low) (((s30 n zaa to).1).High)))
theorem zIp (hs:zyk n zaa to bv2 ev2=true) (hk:K (e6 (zyj n zaa to bv2 ev2))) (zKG:zIj=zg zaT bv2):z6 K [1,1,1] [] ⟨[(1,zI zaa),(2,zI to),(3,zp 3 0),(7,zP (.sl bv2.len 2 zIj)),(8,zI ev2)],[(3,.box 24 (zm (enc_24 n)))],[]⟩:=by subst zKG;exact za2 (by kernel_rfl) (zaM hs λ hc hs=>And.intro (And.intro (zE enc_40 4 n.Ties.get) hc) (zIo hs hk))
def zr5 (n:Net) (zaa:Int) (to:Int):Bool :=
  (zyj n zaa to ((s26 n).1) ((s26 n).2))
def zr6 (n:Net) (zaa:Int) (to:Int):Bool :=
  (decide ((p26 n=true)) &&
 (zyk n zaa to ((s26 n).1) ((s26 n).2)))
theorem zIq (hs:zr6 n zaa to=true) (hk:K (e6 (zr5 n zaa to))):z6 K [1,1] [] ⟨[(1,zI zaa),(2,zI to),(3,zp 3 0)],[(3,.box 24 (zm (enc_24 n)))],[]⟩:=za2 (by kernel_rfl) (zaM hs λ hc hs=>And.intro (And.intro (zE enc_40 4 n.Ties.get) hc) (zIp hs hk rfl))
def zBO (n:Net) (zaa:Int) (to:Int) (zgA:Bool):Bool :=
  (cond zgA
 true
 (zr5 n zaa to))
def zBP (n:Net) (zaa:Int) (to:Int) (zgA:Bool):Bool :=
  (cond zgA
 true
 (zr6 n zaa to))
theorem zIr (hs:zBP n zaa to zgA=true) (hk:K (e6 (zBO n zaa to zgA))):z6 K [1,0,1] [] ⟨[(1,zI zaa),(2,zI to),(3,zp 3 0),(14,zB zgA)],[(3,.box 24 (zm (enc_24 n)))],[]⟩:=za2 (by kernel_rfl) (zc hs hk (λ hs hk=>hk) (λ hs hk=>(zIq hs hk)))
def s6 (n:Net) (zaa:Int) (to:Int):Bool :=
  (zBO n zaa to (!(s20 n (14:Int))))
def p6 (n:Net) (zaa:Int) (to:Int):Bool :=
  (zBP n zaa to (!(s20 n (14:Int))))
end
theorem q6 (n:Net) (zaa:Int) (to:Int) (K:List PA->Prop) (hs:p6 n zaa to=true) (hk:K (e6 (s6 n zaa to))):vcFun Tryd.prog G6 zKF 6 [.agg (enc_24 n),.one (.int .i64 zaa),.one (.int .i64 to)] K :=
  za2 (by kernel_rfl) (And.intro (zE enc_40 4 n.Ties.get) (zIr hs hk))
def zLm : List PA → COut
  | [.agg [.int .i64 zaf,.sl zae zay zad],.one (.int .i64 a1),.one (.int .i64 a2)]=>.det (IsE enc_40 4 zay zad/\p6 (⟨zaf,(⟨zae,zan zad⟩:(Sl Tie))⟩:Net) a1 a2=true) [.one (.bool (s6 (⟨zaf,(⟨zae,zan zad⟩:(Sl Tie))⟩:Net) a1 a2))]
  | _=>.no
theorem call6:zav Tryd.prog 6:=⟨_,rfl,rfl,by kernel_rfl⟩
theorem ok6:Ok Tryd.prog 6 zLm:=zbk zMs call6 λ args K h=>by
  unfold zLm at h
  split at h
  · rename_i zaf zae zay zad a1 a2
    obtain⟨⟨⟨rfl,zaq,rfl⟩,hs⟩,hk⟩:=h
    try rw[zal zaq] at hs
    try rw[zal zaq] at hk
    exact⟨(λ _ _=>[]),(λ _=>false),zKF,q6 (⟨zaf,(⟨zae,zaq⟩:(Sl Tie))⟩:Net) a1 a2 K hs hk⟩
  · exact h.elim
end Go.Proofs
namespace Go.Proofs.YtedhjaaikeakoaaDoor
open Go Go.Pm Go.ChangeShapes
set_option maxRecDepth 100000
abbrev laid1 : List (String × DataW Unit) := [("overburden/align.never", Rows.laid_overburden_align_never)]
theorem zBQ : Tryd.prog.globalNamed "overburden/align.never" = some 0 := by kernel_rfl
theorem zIs:(Tryd.prog.globals[0]?).map (·.type)=some 114:=by kernel_rfl
theorem zIt:Tryd.prog.cellsOf 114=2:=by kernel_rfl
theorem zLn:Tryd.prog.cellsOf 3=1:=by kernel_rfl
theorem door_met (os:Os) (args:Array Value):laidMetH Tryd.prog laid1 ((World.doorLaid Tryd.prog 400 os).forCall (λ _ _=>0) ⟨#[],args,[]⟩).memory :=
 laidMetH_of_parts3 (fuel:=8) (laidMet_of_run' 8 (by kernel_rfl) (by kernel_rfl)) (by kernel_rfl) (by kernel_rfl)
theorem gl_of {W:World}(h:laidMetH Tryd.prog laid1 W):zd4 (H0 W):=by
 rw[MakeChecks.laidMetH_plain _ _ _ (by kernel_rfl)] at h
 obtain⟨ps,⟨g0,t0,cs0,f0,p0,q0,hg0,ht0,hv0,hd0,_,_⟩,_,_⟩:=h
 obtain rfl:=Option.some.inj (zBQ.symm.trans hg0)
 obtain rfl:=Option.some.inj (zIs.symm.trans ht0)
 obtain⟨y0,y1,n,hx,hl,h0,h1⟩:=trod_struct2 Tryd.underlying114 hd0
 simp only[Prod.mk.injEq] at hx
 obtain⟨hx,-⟩:=hx
 simp only[Rows.laid_overburden_align_never,DataW.agg.injEq,List.cons.injEq,and_true] at hx
 obtain⟨k0,e0,d0,_⟩:=DataW.trod_int Tryd.underlying3 h0
 obtain⟨k1,e1,d1,_⟩:=DataW.trod_int Tryd.underlying3 h1
 rw[zIt] at hl
 have e0':cs0.toList.take 1=[.int .i64 k0]:=by
  have:=e0
  rw[show Tryd.prog.cellsOf _=1 from zLn] at this
  simpa using this
 have e1':(cs0.toList.drop 1).take 1=[.int .i64 k1]:=by
  have:=e1
  rw[show Tryd.prog.cellsOf _=1 from zLn] at this
  simpa using this
 have hk0:k0=1000000000000:=by have:=hx.1;rw[d0] at this;injection this with a;injection a with _ a;exact a.symm
 have hk1:k1=0:=by have:=hx.2;rw[d1] at this;injection this with a;injection a with _ a;exact a.symm
 have hC:cs0.toList=[.int .i64 1000000000000,.int .i64 0]:=by
  have h2:cs0.toList=cs0.toList.take 1 ++ (cs0.toList.drop 1).take 1:=by
   rw[← List.take_add,List.take_of_length_le (by omega)]
  rw[h2,e0',e1',hk0,hk1];rfl
 intro k l hk
 unfold World.var? at hv0
 rw[zBQ] at hv0
 simp only[Option.bind_some] at hv0
 cases k with
 | succ k=>cases hk
 | zero =>
  obtain rfl:[PV.int .i64 1000000000000,.int .i64 0]=l:=Option.some.inj hk
  cases eo:W.heap[0]? with
  | none=>rw[eo] at hv0;cases hv0
  | some o =>
   rw[eo] at hv0
   cases o with
   | cells C ty fr =>
    simp only[Option.some.injEq] at hv0
    subst hv0
    exact⟨_,ty,fr,by unfold H0;rw[eo];rfl,by rw[hC];exact⟨.int _ _,.int _ _,trivial⟩⟩
   | _=>cases hv0
end Go.Proofs.YtedhjaaikeakoaaDoor
namespace Go.Proofs.YtedhjaaikeakoaaDoor
set_option maxRecDepth 100000
def dc : Nat → Nat → List Char
  | 0,_=>[]
  | k+1,n=>Char.ofNat (n % 128) :: dc k (n / 128)
def ioR:List (List Char):=[dc 2 14945,dc 38 107265865644741724912243125268531249640326942553430557205577479631290979090791279,dc 38 108293077817484906734254386447616441263814988321737617043972465573863363972791151,dc 38 93370879016013017278412803021783510280543711028000410236402271261457424383048559,dc 38 107258694022858408970435192345127867927486736974969802526482043864463718682819439,dc 39 13746719959472648153406769131206406626558510298776447130317981093147086104311724911,dc 38 107266209769642888316488957616301258915172789321380384129051881327065490379078511,dc 39 13738338888634744287462113483281891133786406809494667074737303271467843731645365103,dc 38 107308724040215521434011850380931925905298338556088488294726402895071789331348335,dc 43 3689337697451499537899652006011379275272339788637320245734945509069109267079825879406836591,dc 38 106339254617564648824502995819756623291246721172574690728430612464564447869500271,dc 38 107330772524736890892060720350443696785457349727637599143704802418857719933533039,dc 38 107266380701743786104986999119182321999123657451770743386930499759721679104342895,dc 38 107308728471136676073553801914045189487148679029700448428114571309412341010496367,dc 37 837954515553292543489687687552621780150771894250034810644180755742461368302447,dc 38 107287017468262091873827311208814906259154281073825133055543027267698112966785903,dc 38 107374028509112486977837548216825331243033985081330090052312008930171490580134767,dc 38 107265533895345759970156929786145176805363222797160045994169685653949991330872175]
def ioN:List Char:=dc 748 14110378018767575964226655308004126793045208087310171201555892242252648960690434620806224759478349222793457564936136773140206884019406577404308477398112682127111429688458091804136369451876026010391452929509304596612007749348823331848074321521876163367611471766311661795807971626777430789606670518996161301806853738256348343737238826384171739901612950230839336053519876648582653265928992265003442337249315020340640568624042171724319570015876863120612063908539839480788963015814409324055605425425582212723687691771037045010066064867754736841809752569547023397197010564985861497252960727260554984899190782686002829257997185443421456271698218584945985148990383891392482548262956659989814614329905290488435125286744085629934720469444029598243369313538259143807170350259387234145666063103371643809341342441092158617040725699310351084585854817129011753246127748964030413854525633190715875548631480060648955255476518703717934493416584654287151545453027212072361023366870608725576042669368667333719675724995494706645777621137060304017521484702088503639607947747215026989263530504204523251982333933107210391579300884546305432560571086131943194743723205005815139772394062686780566686930384812217785365992657908782936586832589627342388339882126362151219006413773645814561079952905486963953952063552645778936398310246717058410743450648594152841163565946295251582585294350653230459132165827590128826417871324965536217148578987470925657879977171716100377657863588641203253643922875913460814715430695689192746980757875303892414899783421563436119681070640173712093473782554642421452415184974056
theorem ioS:Tryd.prog.initOrder=String.ofList ioN:=by kernel_rfl
theorem ioL:Tryd.prog.initOrder.toList=ioN:=(congrArg String.toList ioS).trans String.toList_ofList
theorem ioW:wordsSigns Tryd.prog.initOrder.toList=(dc 7 509754063237352) :: (dc 64 583581952082889979719035725534559484815115086455805852996510235646750355970935781905203483690318741732481452225105900421668580921071669) :: (dc 3 1915619) :: ioR:=(congrArg wordsSigns ioL).trans (by kernel_rfl)
theorem ioB:behindMainWord (wordsSigns Tryd.prog.initOrder.toList)=(dc 3 1915619) :: ioR:=(congrArg behindMainWord ioW).trans (by kernel_rfl)
theorem zn0 {P : Program} {l : List (List Char)} (h : behindMainWord (wordsSigns P.initOrder.toList) = l) : P.headLifts = (if (stripLifts liftWords l).2.head? == some "cut".toList then (stripLifts liftWords l).1 else []) := by subst h; rfl
theorem zFr {P:Program}{rest:List (List Char)}(h:behindMainWord (wordsSigns P.initOrder.toList)=(dc 3 1915619) :: rest):P.make=some .cut:=by unfold Program.make;rw[h];rfl
theorem zAr {P:Program}{rest:List (List Char)}(h:behindMainWord (wordsSigns P.initOrder.toList)=(dc 3 1915619) :: rest) (hl:P.headLifts=[]):P.liftsFinal=false:=by unfold Program.liftsFinal;rw[h,hl];rfl
theorem zFs {P : Program} {a b : List Char} {rest : List (List Char)} (h : wordsSigns P.initOrder.toList = a :: b :: rest) (hs : isSumSigns b = true) (ha : (a == "harness".toList) = true) : P.mainIs = some (true, b) := by unfold Program.mainIs; rw [h]; simp only [hs, ha]; rfl
theorem zAs {P : Program} {c : List Char} {rest : List (List Char)} (h : behindMainWord (wordsSigns P.initOrder.toList) = c :: rest) (hst : (stripLifts liftWords (c :: rest)).2.head? = some "cut".toList)
    (hs1:(stripLifts liftWords (c :: rest)).1=[]) (hlay:P.laysLater=false) (hb:P.bearsReflect=false) (hd:P.doorFits []=true):P.mayEnter=true:=by
  unfold Program.mayEnter
  rw[h]
  simp[hst,hs1,hlay,hb,hd]
theorem ioH:Tryd.prog.headLifts=[]:=(zn0 ioB).trans (by kernel_rfl)
theorem ioK:Tryd.prog.make=some .cut:=zFr ioB
theorem ioF:Tryd.prog.liftsFinal=false:=zAr ioB ioH
theorem ioM : Tryd.prog.mainIs = some (true, "5097d02014b7f9bdc457588f16a61179f96daee4a085c0a2c5462d863db43dbf".toList) := (zFs ioW (by kernel_rfl) (by kernel_rfl)).trans (by kernel_rfl)
theorem ioE:Tryd.prog.mayEnter=true:=zAs ioB (by kernel_rfl) (by kernel_rfl) (by kernel_rfl) (by kernel_rfl) (by kernel_rfl)
end Go.Proofs.YtedhjaaikeakoaaDoor
namespace Go.Pm
open Go

theorem zbZ {x:Int}(h1 : -9223372036854775808≤x) (h2:x≤9223372036854775807):w64 x=x:=by
 have hb:IntKind.i64.bits=64:=rfl
 have hs:IntKind.i64.signed=true:=rfl
 unfold w64 IntKind.wrap
 rw[hb,hs]
 simp only[Bool.true_and,decide_eq_true_eq]
 split <;> omega
theorem dqT {p:Prop} [Decidable p] (h:p):decide p=true:=decide_eq_true h
theorem dqF {p:Prop} [Decidable p] (h : ¬ p):decide p=false:=decide_eq_false h
def zLo (c : Nat → Bool) : Nat → Nat → Nat
  | 0,i=>i
  | m+1,i=>match c i with | true=>i | false=>zLo c m (i+1)
def fst (c:Nat->Bool) (n:Nat):Nat:=zLo c n 0
theorem zmG {good : Nat → Bool} {fin : Bool} {n : Nat} {lpS lpP : Nat → Int → Bool}
    (hS:∀ (k i:Nat),i < n->lpS (k+1) (i:Int)=cond (good i) (lpS k (w64 ((i:Int)+(1:Int)))) false)
    (hE:∀ k,lpS (k+1) (n:Int)=fin)
    (hP:∀ (k i:Nat),i < n->lpP (k+1) (i:Int)=cond (good i) (lpP k (w64 ((i:Int)+(1:Int)))) true)
    (hPE:∀ k,lpP (k+1) (n:Int)=true) (hn:n≤9223372036854775807) :
    lpP Fuel 0=true/\(lpS Fuel 0=true↔(∀ i,i < n->good i=true)/\fin=true):=by
  have key:∀ (m k i:Nat),i+m=n->m < k->lpP k (i:Int)=true/\(lpS k (i:Int)=true↔(∀ j,i≤j->j < n->good j=true)/\fin=true):=by
    intro m
    induction m with
    | zero =>
      intro k i hi hk
      obtain⟨k,rfl⟩:∃ k',k=k'+1:=⟨k - 1,by omega⟩
      have:i=n:=by omega
      subst this
      rw[hE,hPE]
      exact⟨rfl,⟨λ h=>⟨λ j h1 h2=>absurd h2 (by omega),h⟩,λ h=>h.2⟩⟩
    | succ m ih =>
      intro k i hi hk
      obtain⟨k,rfl⟩:∃ k',k=k'+1:=⟨k - 1,by omega⟩
      rw[hS k i (by omega),hP k i (by omega)]
      have e3:w64 ((i:Int)+1)=((i+1:Nat):Int):=by rw[zbZ (by omega) (by omega)];omega
      rw[e3]
      obtain⟨h1,h2⟩:=ih k (i+1) (by omega) (by omega)
      cases hg:good i
      · refine ⟨rfl, ⟨fun h => (by cases h), fun h => ?_⟩⟩
        have:=h.1 i (Nat.le_refl _) (by omega)
        rw[hg] at this;cases this
      · refine ⟨h1, h2.trans ⟨fun h => ⟨fun j hj1 hj2 => ?_, h.2⟩, fun h => ⟨fun j hj1 hj2 => h.1 j (by omega) hj2, h.2⟩⟩⟩
        by_cases hji:j=i
        · rw[hji];exact hg
        · exact h.1 j (by omega) hj2
  have:=key n Fuel 0 (by omega) (by simp only[Fuel];omega)
  simpa using this

end Go.Pm
namespace Go.Pm
open Go
theorem ziX {i n:Nat}(h:i < n) (hn:n≤9223372036854775807):w64 ((i:Int)+(1:Int))=((i+1:Nat):Int):=by
 rw[zbZ (by omega) (by omega)];omega
theorem zFt {β : Type} {good : Nat → Bool} {bad fin : β} {finP : Bool} {n : Nat} {lpS : Nat → Int → β} {lpP : Nat → Int → Bool}
    (hS:∀ (k i:Nat),i < n->lpS (k+1) (i:Int)=cond (good i) (lpS k (w64 ((i:Int)+(1:Int)))) bad)
    (hE:∀ k,lpS (k+1) (n:Int)=fin)
    (hP:∀ (k i:Nat),i < n->lpP (k+1) (i:Int)=cond (good i) (lpP k (w64 ((i:Int)+(1:Int)))) true)
    (hPE:∀ k,lpP (k+1) (n:Int)=finP) (hn:n≤9223372036854775807) :
    ((∀ i,i < n->good i=true)->lpP Fuel 0=finP/\lpS Fuel 0=fin)/\((¬ ∀ i,i < n->good i=true)->lpP Fuel 0=true/\lpS Fuel 0=bad):=by
  have key:∀ (m k i:Nat),i+m=n->m < k->((∀ j,i≤j->j < n->good j=true)->lpP k (i:Int)=finP/\lpS k (i:Int)=fin)/\((¬ ∀ j,i≤j->j < n->good j=true)->lpP k (i:Int)=true/\lpS k (i:Int)=bad):=by
    intro m
    induction m with
    | zero =>
      intro k i hi hk
      obtain⟨k,rfl⟩:∃ k',k=k'+1:=⟨k - 1,by omega⟩
      have:i=n:=by omega
      subst this
      rw[hE,hPE]
      exact⟨λ _=>⟨rfl,rfl⟩,λ h=>absurd (λ j h1 h2=>absurd h2 (by omega)) h⟩
    | succ m ih =>
      intro k i hi hk
      obtain⟨k,rfl⟩:∃ k',k=k'+1:=⟨k - 1,by omega⟩
      rw[hS k i (by omega),hP k i (by omega),ziX (n:=n) (by omega) hn]
      obtain⟨h1,h2⟩:=ih k (i+1) (by omega) (by omega)
      cases hg:good i
      · refine ⟨fun h => ?_, fun _ => ⟨rfl, rfl⟩⟩
        have:=h i (Nat.le_refl _) (by omega)
        rw[hg] at this;cases this
      · refine ⟨fun h => h1 fun j a b => h j (by omega) b, fun h => h2 fun h' => h fun j a b => ?_⟩
        by_cases hji:j=i
        · rw[hji];exact hg
        · exact h' j (by omega) b
  have:=key n Fuel 0 (by omega) (by simp only[Fuel];omega)
  simpa using this
def zkC {σ : Type} (step : Nat → σ → σ) : Nat → Nat → σ → σ
  | 0,_,s=>s
  | m+1,i,s=>zkC step m (i+1) (step i s)
theorem zn1 {σ β : Type} {step : Nat → σ → σ} {E : σ → β} {EP : σ → Bool} {Inv : Nat → σ → Prop} {a n : Nat} {lpS : Nat → σ → Int → β} {lpP : Nat → σ → Int → Bool}
    (hS:∀ (k i:Nat) (s:σ),a≤i->i < n->Inv i s->lpS (k+1) s (i:Int)=lpS k (step i s) (w64 ((i:Int)+(1:Int))))
    (hE:∀ k s,lpS (k+1) s (n:Int)=E s)
    (hP:∀ (k i:Nat) (s:σ),a≤i->i < n->Inv i s->lpP (k+1) s (i:Int)=lpP k (step i s) (w64 ((i:Int)+(1:Int))))
    (hPE:∀ k s,lpP (k+1) s (n:Int)=EP s)
    (hI:∀ i s,a≤i->i < n->Inv i s->Inv (i+1) (step i s)) (ha:a≤n) (hn:n≤9223372036854775807) (s:σ) (h0:Inv a s) :
    lpP Fuel s (a:Int)=EP (zkC step (n - a) a s)/\lpS Fuel s (a:Int)=E (zkC step (n - a) a s):=by
  have key:∀ (m k i:Nat) (s:σ),a≤i->i+m=n->m < k->Inv i s->lpP k s (i:Int)=EP (zkC step m i s)/\lpS k s (i:Int)=E (zkC step m i s):=by
    intro m
    induction m with
    | zero =>
      intro k i s h1 hi hk _
      obtain⟨k,rfl⟩:∃ k',k=k'+1:=⟨k - 1,by omega⟩
      have:i=n:=by omega
      subst this
      rw[hE,hPE]
      exact⟨rfl,rfl⟩
    | succ m ih =>
      intro k i s h1 hi hk hs
      obtain⟨k,rfl⟩:∃ k',k=k'+1:=⟨k - 1,by omega⟩
      rw[hS k i s h1 (by omega) hs,hP k i s h1 (by omega) hs,ziX (n:=n) (by omega) hn]
      exact ih k (i+1) (step i s) (by omega) (by omega) (by omega) (hI i s h1 (by omega) hs)
  exact key (n - a) Fuel a s (Nat.le_refl _) (by omega) (by simp only[Fuel];omega) h0
end Go.Pm
namespace Go.Proofs
open Go Go.Pm
set_option maxRecDepth 100000
set_option linter.unusedVariables false
attribute [local irreducible] Go.Pm.vcFun Go.Pm.vc Go.Pm.vcIter
end Go.Proofs
namespace Go.Proofs
open Go Go.Pm
set_option maxRecDepth 100000
theorem zn2 (n a b:Int):s81 n a b=decide (a≤n/\n≤b):=by
 unfold s81
 by_cases h:a≤n
 ·rw[dqT (show n ≥ a from h),cond_true];exact decide_eq_decide.2 ⟨λ k=>⟨h,k⟩,λ k=>k.2⟩
 ·rw[dqF (show ¬ n ≥ a from h),cond_false];exact (dqF (λ k=>h k.1)).symm
theorem zBR (n a b:Int):s72 n a b=decide (a≤n/\n≤b):=zn2 n a b
theorem zBS (n:Net) (hn:n.Ties.len≤9223372036854775807):p67 n=true/\(s67 n=true↔(∀ i,i < n.Ties.len->s78 (n.Ties.get i) n.Nodes=true)/\(1≤n.Nodes/\n.Nodes≤40)/\n.Ties.len≤200):=by
  have := zmG (good := fun i => s78 (n.Ties.get i) n.Nodes) (fin := cond (s81 n.Nodes (1:Int) (40:Int)) (decide ((n.Ties.len : Int) ≤ (200:Int))) false) (n := n.Ties.len) (lpS := zhC n) (lpP := zhD n)
    (λ k i hi=>by
      show zhA n (zhC n k) (i:Int)=_
      generalize zhC n k=S
      unfold zhA zoW
      rw[dqT (show (i:Int) < (n.Ties.len:Int) by omega),cond_true,Int.toNat_natCast]
      cases s78 (n.Ties.get i) n.Nodes <;> rfl)
    (λ k=>by
      show zhA n (zhC n k) (n.Ties.len:Int)=_
      unfold zhA
      rw[dqF (show ¬ (n.Ties.len:Int) < (n.Ties.len:Int) by omega),cond_false])
    (λ k i hi=>by
      show zhB n (zhD n k) (i:Int)=_
      generalize zhD n k=S
      unfold zhB zoX
      rw[dqT (show (i:Int) < (n.Ties.len:Int) by omega),cond_true,Int.toNat_natCast,dqT (show 0≤(i:Int)/\(i:Int) < (n.Ties.len:Int) by omega),Bool.true_and]
      cases s78 (n.Ties.get i) n.Nodes <;> rfl)
    (λ k=>by
      show zhB n (zhD n k) (n.Ties.len:Int)=_
      unfold zhB
      rw[dqF (show ¬ (n.Ties.len:Int) < (n.Ties.len:Int) by omega),cond_false])
    hn
  refine⟨this.1,this.2.trans ?_⟩
  rw[zn2]
  by_cases h:1≤n.Nodes/\n.Nodes≤40
  · rw[dqT h,cond_true,decide_eq_true_eq];exact⟨λ k=>⟨k.1,h,by omega⟩,λ k=>⟨k.1,by omega⟩⟩
  · rw[dqF h,cond_false];exact⟨λ k=>absurd k.2 (by decide),λ k=>absurd k.2.1 h⟩
end Go.Proofs
namespace Go.Proofs
open Go Go.Pm
set_option maxRecDepth 100000
set_option linter.unusedVariables false
attribute [local irreducible] Go.Pm.vcFun Go.Pm.vc Go.Pm.vcIter
section
variable {K:List PA->Prop}{t:Tie}{zsb:(Sl Int)}
end
section
variable {K:List PA->Prop}{n:Net}{zsb:(Sl Int)}{iv1:Int}{X1:St->Prop}{P1:Int->Bool}{S1:Int->Bool}{iv2:Int}{zKH:Bool}
end
section
variable {K:List PA->Prop}{n:Net}{zsb:(Sl Int)}{ziW:Bool}{iv2:Int}{X2:St->Prop}{P2:Int->Bool}{S2:Int->Bool}{iv3:Int}{zMt:Bool}
end
section
variable {K:List PA->Prop}{n:Net}{zsb:(Sl Int)}{zMu:Bool}{zKH:Int}{X2:St->Prop}{P2:Int->Bool}{S2:Int->Bool}{zMv:Int}{zMw:Bool}{zMx:Int}{X5:St->Prop}{P5:Int->Bool}{S5:Int->Bool}
end
section
variable {K:List PA->Prop}{n:Net}
end
end Go.Proofs
namespace Go.Proofs
open Go Go.Pm
set_option maxRecDepth 100000
set_option linter.unusedVariables false
theorem dgt (x y:Int):decide (x > y) = !decide (x≤y):=by
 by_cases h:x > y
 ·rw[dqT h,dqF (show ¬ x≤y by omega)];rfl
 ·rw[dqF h,dqT (show x≤y by omega)];rfl
theorem zBT (nodes:Int) (t:Tie):s36 nodes t=s78 t nodes:=by
 unfold s36 zh1 zpN s78 zj2 zj1
 simp only[zBR,zn2,bne,dgt]
 generalize decide (0≤t.From/\t.From≤w64 (nodes - (1:Int)))=a
 generalize decide (0≤t.To/\t.To≤w64 (nodes - (1:Int)))=b
 generalize (t.From == t.To)=c
 generalize (t.Low == (-1000000000000:Int))=d
 generalize (t.High == (1000000000000:Int))=e
 generalize decide (-1000000000≤t.Low/\t.Low≤1000000000)=f
 generalize decide (-1000000000≤t.High/\t.High≤1000000000)=g
 generalize decide (t.Low≤t.High)=h
 cases a <;> cases b <;> cases c <;> cases d <;> cases e <;> cases f <;> cases g <;> cases h <;> rfl
structure TieOk (t : Tie) (nodes : Int) : Prop where
  f0:0≤t.From
  f1:t.From < nodes
  t0:0≤t.To
  t1:t.To < nodes
  ne:t.From ≠ t.To
  lo:t.Low = -1000000000000∨(-1000000000≤t.Low/\t.Low≤1000000000)
  hi:t.High=1000000000000∨(-1000000000≤t.High/\t.High≤1000000000)
  le:t.Low≤t.High
theorem zyl (t:Tie) (nodes:Int) (h1:1≤nodes) (h2:nodes≤40):s78 t nodes=true↔TieOk t nodes:=by
 have e:s78 t nodes=(decide (0≤t.From/\t.From < nodes) && (decide (0≤t.To/\t.To < nodes) && (!(t.From == t.To) && (((t.Low == (-1000000000000:Int)) || decide (-1000000000≤t.Low/\t.Low≤1000000000)) && (((t.High == (1000000000000:Int)) || decide (-1000000000≤t.High/\t.High≤1000000000)) && decide (t.Low≤t.High)))))):=by
  unfold s78 zj2 zj1
  rw[zbZ (x:=nodes - 1) (by omega) (by omega)]
  simp only[zn2]
  rw[decide_eq_decide.2 (show (0≤t.From/\t.From≤nodes - 1)↔(0≤t.From/\t.From < nodes) by omega),decide_eq_decide.2 (show (0≤t.To/\t.To≤nodes - 1)↔(0≤t.To/\t.To < nodes) by omega)]
  simp only[bne]
  generalize decide (0≤t.From/\t.From < nodes)=a
  generalize decide (0≤t.To/\t.To < nodes)=b
  generalize (t.From == t.To)=c
  generalize (t.Low == (-1000000000000:Int))=d
  generalize (t.High == (1000000000000:Int))=e
  generalize decide (-1000000000≤t.Low/\t.Low≤1000000000)=f
  generalize decide (-1000000000≤t.High/\t.High≤1000000000)=g
  generalize decide (t.Low≤t.High)=h
  cases a <;> cases b <;> cases c <;> cases d <;> cases e <;> cases f <;> cases g <;> cases h <;> rfl
 rw[e]
 simp only[Bool.and_eq_true,Bool.or_eq_true,decide_eq_true_eq,Bool.not_eq_true',beq_eq_false_iff_ne,beq_iff_eq]
 constructor
 ·rintro⟨⟨a,b⟩,⟨c,d⟩,e,f,g,h⟩;exact⟨a,b,c,d,e,f,g,h⟩
 ·rintro⟨a,b,c,d,e,f,g,h⟩;exact⟨⟨a,b⟩,⟨c,d⟩,e,f,g,h⟩
structure NetOk (n : Net) : Prop where
  n1:1≤n.Nodes
  n40:n.Nodes≤40
  len:n.Ties.len≤200
  tie:∀ i,i < n.Ties.len->TieOk (n.Ties.get i) n.Nodes
theorem zym (n:Net) (hn:n.Ties.len≤9223372036854775807):p67 n=true/\(s67 n=true↔NetOk n):=by
 obtain⟨h1,h2⟩:=zBS n hn
 refine⟨h1,h2.trans ?_⟩
 constructor
 ·rintro⟨a,⟨b,c⟩,d⟩;exact⟨b,c,by omega,λ i hi=>(zyl _ _ b c).1 (a i hi)⟩
 ·rintro⟨b,c,d,a⟩;exact⟨λ i hi=>(zyl _ _ b c).2 (a i hi),⟨b,c⟩,by omega⟩
theorem zIu (n:Net) (hn:n.Ties.len≤9223372036854775807):p23 n=true/\s23 n=s67 n:=by
  have hl := zmG (good := fun i => s36 n.Nodes (n.Ties.get i)) (fin := true) (n := n.Ties.len) (lpS := zgF n) (lpP := zh4 n)
    (λ k i hi=>by
      show zh2 n (zgF n k) (i:Int)=_
      generalize zgF n k=S
      unfold zh2 zpP
      rw[dqT (show (i:Int) < (n.Ties.len:Int) by omega),cond_true,Int.toNat_natCast]
      cases s36 n.Nodes (n.Ties.get i) <;> rfl)
    (λ k=>by
      show zh2 n (zgF n k) (n.Ties.len:Int)=_
      unfold zh2
      rw[dqF (show ¬ (n.Ties.len:Int) < (n.Ties.len:Int) by omega),cond_false])
    (λ k i hi=>by
      show zh3 n (zh4 n k) (i:Int)=_
      generalize zh4 n k=S
      unfold zh3 zpQ
      rw[dqT (show (i:Int) < (n.Ties.len:Int) by omega),cond_true,Int.toNat_natCast,dqT (show 0≤(i:Int)/\(i:Int) < (n.Ties.len:Int) by omega),Bool.true_and]
      cases s36 n.Nodes (n.Ties.get i) <;> rfl)
    (λ k=>by
      show zh3 n (zh4 n k) (n.Ties.len:Int)=_
      unfold zh3
      rw[dqF (show ¬ (n.Ties.len:Int) < (n.Ties.len:Int) by omega),cond_false])
    hn
  obtain⟨h1,h2⟩:=zBS n hn
  unfold p23 s23 zmA zmz zpU zpT zpS zpR
  rw[hl.1,zBR,dgt]
  refine⟨by cases decide (1≤n.Nodes/\n.Nodes≤40) <;> cases decide ((n.Ties.len:Int)≤200) <;> rfl,?_⟩
  have h3:=hl.2
  have h4:zgF n Fuel 0=true↔∀ i,i < n.Ties.len->s78 (n.Ties.get i) n.Nodes=true:=h3.trans ⟨λ h i hi=>by rw[← zBT];exact h.1 i hi,λ h=>⟨λ i hi=>by rw[zBT];exact h i hi,rfl⟩⟩
  rw[Bool.eq_iff_iff,h2]
  by_cases a:1≤n.Nodes/\n.Nodes≤40
  · rw [dqT a]
    by_cases b:(n.Ties.len:Int)≤200
    · rw[dqT b];exact h4.trans ⟨λ h=>⟨h,a,by omega⟩,λ h=>h.1⟩
    · rw[dqF b];exact⟨λ h=>absurd h Bool.false_ne_true,λ h=>absurd h.2.2 (by omega)⟩
  · rw[dqF a];exact⟨λ h=>absurd h Bool.false_ne_true,λ h=>absurd h.2.1 a⟩
structure ValOk (n : Net) (v : Sl Int) : Prop where
  len:(v.len:Int)=n.Nodes
  zero:v.get 0=0
  b:∀ i,i < v.len->-1000000000000≤v.get i/\v.get i≤1000000000000
def Keep (t:Tie) (v:Sl Int):Prop:=(t.Low = -1000000000000∨t.Low≤v.get t.To.toNat - v.get t.From.toNat)/\(t.High=1000000000000∨v.get t.To.toNat - v.get t.From.toNat≤t.High)
structure AgOk (n : Net) (v : Sl Int) : Prop where
  val:ValOk n v
  keep:∀ i,i < n.Ties.len->Keep (n.Ties.get i) v
theorem zyn {n:Net}{t:Int}(h:s20 n t=true) (ht:t≤210):n.Ties.len≤210:=by
 unfold s20 at h
 by_cases h1:(n.Ties.len:Int)≤t
 ·omega
 ·by_cases h2 : (n.Ties.len : Int) ≤ 210
  ·omega
  ·rw [dqF h1, dqF h2] at h
   exact absurd h (by cases decide (n.Nodes≤7) <;> cases decide (n.Nodes > 40) <;> cases decide ((n.Ties.len:Int) > 200) <;> decide)
end Go.Proofs
namespace Go.Pm
structure Ed where
  u:Nat
  v:Nat
  w:Int
def wt : List Ed → Int
  | []=>0
  | e :: l=>e.w+wt l
theorem zhj (c d:List Ed):wt (c ++ d)=wt c+wt d:=by
 induction c with
 | nil=>show wt d=0+wt d;omega
 | cons e l ih=>show e.w+wt (l ++ d)=e.w+wt l+wt d;omega
theorem ziE (e:Ed):wt [e]=e.w:=Int.add_zero _
def zfT (E : List Ed) : Nat → List Ed → Nat → Prop
  | a,[],b=>a=b
  | a,e :: l,b=>e∈E/\e.u=a/\zfT E e.v l b
theorem zdh {E:List Ed}{c d:List Ed}{a b:Nat} : zfT E a (c ++ d) b↔∃ m,zfT E a c m/\zfT E m d b:=by
 induction c generalizing a with
 | nil=>exact⟨λ h=>⟨a,rfl,h⟩,λ ⟨m,h1,h2⟩=>by cases h1;exact h2⟩
 | cons e l ih =>
  constructor
  ·rintro ⟨h1, h2, h3⟩
   obtain⟨m,k1,k2⟩:=ih.1 h3
   exact⟨m,⟨h1,h2,k1⟩,k2⟩
  ·rintro ⟨m, ⟨h1, h2, h3⟩, h4⟩
   exact⟨h1,h2,ih.2 ⟨m,h3,h4⟩⟩
theorem zdH {E:List Ed}{e:Ed}(h:e∈E):zfT E e.u [e] e.v:=⟨h,rfl,rfl⟩
def zbw (E:List Ed):Prop:=∀ a c,zfT E a c a->0≤wt c
abbrev zbE:=Nat->Option Int
def zii (d:zbE) (v:Nat) (x:Int):zbE:=λ j=>if j=v then some x else d j
def ltO (x : Int) : Option Int → Bool
  | none=>true
  | some y=>decide (x < y)
def rlF (s:zbE×Bool) (e:Ed):zbE×Bool :=
 match s.1 e.u with
 | none=>s
 | some x=>cond (ltO (x+e.w) (s.1 e.v)) (zii s.1 e.v (x+e.w),true) s
def Sat (d:zbE) (e:Ed):Prop:=∀ x,d e.u=some x->∃ y,d e.v=some y/\y≤x+e.w
theorem zkm {x:Int}{o:Option Int}(h:ltO x o=false):∃ y,o=some y/\y≤x:=by
 cases o with
 | none=>cases h
 | some y=>exact⟨y,rfl,Int.not_lt.1 (of_decide_eq_false h)⟩
theorem zIv {x y:Int}(h:y≤x):ltO x (some y)=false:=dqF (Int.not_lt.2 h)
theorem zp6 {d:zbE}{c:Bool}{e:Ed}(h:Sat d e):rlF (d,c) e=(d,c):=by
 unfold rlF
 cases hu:d e.u with
 | none=>simp only[hu]
 | some x =>
  obtain⟨y,h1,h2⟩:=h x hu
  simp only[hu,h1,zIv h2,cond_false]
theorem zyo {d:zbE}{c:Bool}{e:Ed}(h : ¬ Sat d e):(rlF (d,c) e).2=true:=by
 unfold rlF
 cases hu:d e.u with
 | none=>exact absurd (λ x hx=>by rw[hu] at hx;cases hx) h
 | some x =>
  simp only[hu]
  cases hl:ltO (x+e.w) (d e.v)
  ·obtain ⟨y, h1, h2⟩ := zkm hl
   exact absurd (λ x' hx'=>⟨y,h1,by rw[hu] at hx';cases hx';exact h2⟩) h
  ·rfl
theorem zAt {s:zbE×Bool}{e:Ed}(h:s.2=true):(rlF s e).2=true:=by
 unfold rlF
 cases s.1 e.u with
 | none=>exact h
 | some x=>simp only[];cases ltO (x+e.w) (s.1 e.v) <;> first | exact h | rfl
theorem zyp {E:List Ed}{s:zbE×Bool}(h:s.2=true):(E.foldl rlF s).2=true:=by
 induction E generalizing s with
 | nil=>exact h
 | cons e l ih=>exact ih (zAt h)
theorem zhk {E:List Ed}{d:zbE}{c:Bool}(h:∀ e∈E,Sat d e):E.foldl rlF (d,c)=(d,c):=by
 induction E with
 | nil=>rfl
 | cons e l ih =>
  show l.foldl rlF (rlF (d,c) e)=_
  rw[zp6 (h e (List.mem_cons_self ..))]
  exact ih λ e he=>h e (List.mem_cons_of_mem _ he)
theorem zf9 {E:List Ed}{d:zbE}{c:Bool}(h:(E.foldl rlF (d,c)).2=false):∀ e∈E,Sat d e:=by
 induction E with
 | nil=>intro e he;cases he
 | cons e l ih =>
  have h':(l.foldl rlF (rlF (d,c) e)).2=false:=h
  have hs:Sat d e:=Classical.byContradiction λ hn=>by
   rw[zyp (zyo hn)] at h';cases h'
  rw[zp6 hs] at h'
  intro e' he'
  rcases List.mem_cons.1 he' with rfl | hm
  ·exact hs
  ·exact ih h' e' hm
def leO (a b:Option Int):Prop:=∀ y,b=some y->∃ x,a=some x/\x≤y
theorem zcH (a:Option Int):leO a a:=λ y h=>⟨y,h,Int.le_refl _⟩
theorem zch {a b c:Option Int}(h1:leO a b) (h2:leO b c):leO a c:=λ y h=>by
 obtain⟨x,hx,hxy⟩:=h2 y h
 obtain⟨z,hz,hzx⟩:=h1 x hx
 exact⟨z,hz,Int.le_trans hzx hxy⟩
theorem zyq (s:zbE×Bool) (e:Ed) (v:Nat):leO ((rlF s e).1 v) (s.1 v):=by
 unfold rlF
 cases hu:s.1 e.u with
 | none=>exact zcH _
 | some x =>
  simp only[]
  cases hl:ltO (x+e.w) (s.1 e.v)
  ·exact zcH _
  ·show leO (zii s.1 e.v (x + e.w) v) _
   unfold zii
   by_cases hv:v=e.v
   ·rw [if_pos hv]
    intro y hy
    refine⟨_,rfl,?_⟩
    rw[hv] at hy
    rw[hy] at hl
    exact Int.le_of_lt (of_decide_eq_true hl)
   ·rw[if_neg hv];exact zcH _
theorem zyr (E:List Ed) (s:zbE×Bool) (v:Nat):leO ((E.foldl rlF s).1 v) (s.1 v):=by
 induction E generalizing s with
 | nil=>exact zcH _
 | cons e l ih=>exact zch (ih (rlF s e)) (zyq s e v)
theorem zIw {s:zbE×Bool}{e:Ed}{x:Int}(h:s.1 e.u=some x):leO ((rlF s e).1 e.v) (some (x+e.w)):=by
 unfold rlF
 simp only[h]
 cases hl:ltO (x+e.w) (s.1 e.v)
 ·obtain ⟨y, h1, h2⟩ := zkm hl
  intro z hz;cases hz
  exact⟨y,h1,h2⟩
 ·intro z hz; cases hz
  exact⟨x+e.w,by show zii s.1 e.v (x+e.w) e.v=_;unfold zii;rw[if_pos rfl],Int.le_refl _⟩
theorem zAu {E:List Ed}{s:zbE×Bool}{e:Ed}{x:Int}(he:e∈E) (h:s.1 e.u=some x):leO ((E.foldl rlF s).1 e.v) (some (x+e.w)):=by
 induction E generalizing s x with
 | nil=>cases he
 | cons f l ih =>
  rcases List.mem_cons.1 he with rfl | hm
  ·exact zch (zyr l (rlF s e) e.v) (zIw h)
  ·obtain ⟨x', h1, h2⟩ := zyq s f e.u x h
   intro z hz;cases hz
   obtain⟨y,k1,k2⟩:=ih hm h1 _ rfl
   exact⟨y,k1,by omega⟩
def rnd (E:List Ed) (d:zbE):zbE:=(E.foldl rlF (d,false)).1
def rds (E : List Ed) : Nat → zbE → zbE
  | 0,d=>d
  | k+1,d=>rds E k (rnd E d)
theorem zn3 (E:List Ed) (k:Nat) (d:zbE) (v:Nat):leO (rds E k d v) (d v):=by
 induction k generalizing d with
 | zero=>exact zcH _
 | succ k ih=>exact zch (ih (rnd E d)) (zyr E (d,false) v)
theorem zIx {E:List Ed}{c:List Ed} : ∀ {a b k:Nat}{d:zbE}{y:Int},zfT E a c b->d a=some y->c.length≤k->leO (rds E k d b) (some (y+wt c)):=by
 induction c with
 | nil =>
  intro a b k d y h hd _
  cases h
  intro z hz;cases hz
  obtain⟨x,h1,h2⟩:=zn3 E k d a y hd
  exact⟨x,h1,by show x≤y+0;omega⟩
 | cons e l ih =>
  intro a b k d y h hd hk
  obtain⟨k,rfl⟩:∃ k',k=k'+1:=⟨k - 1,by simp only[List.length_cons] at hk;omega⟩
  obtain⟨h1,h2,h3⟩:=h
  subst h2
  obtain⟨x,k1,k2⟩:=zAu (s:=(d,false)) h1 hd _ rfl
  intro z hz;cases hz
  obtain⟨z,m1,m2⟩:=ih (k:=k) (d:=rnd E d) h3 k1 (by simp only[List.length_cons] at hk;omega) _ rfl
  exact⟨z,m1,by show z≤y+(e.w+wt l);omega⟩
def Fix (E:List Ed) (d:zbE):Prop:=∀ e∈E,Sat d e
theorem zgK {E:List Ed}{d:zbE}(h:Fix E d):rnd E d=d:=by unfold rnd;rw[zhk h]
theorem zp7 {E:List Ed}{d:zbE}(h:Fix E d) (k:Nat):rds E k d=d:=by
 induction k with
 | zero=>rfl
 | succ k ih=>show rds E k (rnd E d)=d;rw[zgK h,ih]
theorem zIy {E:List Ed}{d:zbE}(h:Fix E d){c:List Ed} : ∀ {a b:Nat}{x:Int},zfT E a c b->d a=some x->∃ y,d b=some y/\y≤x+wt c:=by
 induction c with
 | nil=>intro a b x hc hx;cases hc;exact⟨x,hx,by show x≤x+0;omega⟩
 | cons e l ih =>
  rintro a b x ⟨h1,h2,h3⟩ hx
  subst h2
  obtain⟨y,k1,k2⟩:=h e h1 x hx
  obtain⟨z,m1,m2⟩:=ih h3 k1
  exact⟨z,m1,by show z≤x+(e.w+wt l);omega⟩
theorem zkn (n:Nat):∀ {l:List Nat},l.Nodup->(∀ x∈l,x < n)->l.length≤n:=by
 induction n with
 | zero =>
  intro l _ h
  cases l with
  | nil=>exact Nat.le_refl _
  | cons x l=>exact absurd (h x (List.mem_cons_self ..)) (Nat.not_lt_zero _)
 | succ n ih =>
  intro l hd h
  have h1:=ih (l:=l.filter (λ x=>x != n)) (hd.filter _) (λ x hx=>by
   obtain⟨hx1,hx2⟩:=List.mem_filter.1 hx
   have:=h x hx1
   have:x ≠ n:=by simpa using hx2
   omega)
  have h2:l.length≤(l.filter (λ x=>x != n)).length+1:=by
   clear h1 ih h
   induction l with
   | nil=>exact Nat.zero_le _
   | cons x l ihl =>
    rw[List.nodup_cons] at hd
    by_cases hx:x=n
    ·subst hx
     have:l.filter (λ y=>y != x)=l:=List.filter_eq_self.2 λ y hy=>by
      have:y ≠ x:=λ e=>hd.1 (e ▸ hy)
      simpa using this
     rw[List.filter_cons_of_neg (by simp),this]
     exact Nat.le_refl _
    ·rw [List.filter_cons_of_pos (by simpa using hx)]
     have:=ihl hd.2
     simp only[List.length_cons];omega
  omega
def nodes (a:Nat) (c:List Ed):List Nat:=a :: c.map Ed.v
theorem zko (a:Nat) (c:List Ed):(nodes a c).length=c.length+1:=by simp[nodes]
theorem zAv {E:List Ed}{c:List Ed} : ∀ {a b m:Nat},zfT E a c b->m∈nodes a c->∃ c1 c2,c=c1 ++ c2/\zfT E a c1 m/\zfT E m c2 b:=by
 induction c with
 | nil =>
  intro a b m h hm
  have:m=a:=by simpa [nodes] using hm
  subst this
  exact⟨[],[],rfl,rfl,h⟩
 | cons e l ih =>
  intro a b m h hm
  rcases List.mem_cons.1 hm with rfl | hm'
  ·exact⟨[],e :: l,rfl,rfl,h⟩
  ·obtain ⟨h1, h2, h3⟩ := h
   obtain⟨c1,c2,k1,k2,k3⟩:=ih h3 (m:=m) (by simpa [nodes] using hm')
   exact⟨e :: c1,c2,by rw[k1];rfl,⟨h1,h2,k2⟩,k3⟩
structure Att (E : List Ed) (Src : Nat → Prop) (d : zbE) (v : Nat) (x : Int) (a : Nat) (c : List Ed) : Prop where
  src:Src a
  ch:zfT E a c v
  wt:x=wt c
  nd:(nodes a c).Nodup
  pre:∀ c1 c2 m,c=c1 ++ c2->zfT E a c1 m->leO (d m) (some (Go.Pm.wt c1))
def Inv (E:List Ed) (Src:Nat->Prop) (d:zbE):Prop:=∀ v x,d v=some x->∃ a c,Att E Src d v x a c
theorem zBU {d d':zbE}{E:List Ed}{Src:Nat->Prop}{v:Nat}{x:Int}{a:Nat}{c:List Ed}(h:Att E Src d v x a c) (hd:∀ m,leO (d' m) (d m)):Att E Src d' v x a c :=
 ⟨h.src,h.ch,h.wt,h.nd,λ c1 c2 m h1 h2=>zch (hd m) (h.pre c1 c2 m h1 h2)⟩
theorem ziY {d:zbE}{E:List Ed}{Src:Nat->Prop}(hn:zbw E){e:Ed}(he:e∈E){x:Int}{a:Nat}{c:List Ed}(h:Att E Src d e.u x a c) (hm:e.v∈nodes a c):leO (d e.v) (some (x+e.w)):=by
 obtain⟨c1,c2,k1,k2,k3⟩:=zAv h.ch hm
 have hc:=hn e.v (c2 ++ [e]) (zdh.2 ⟨e.u,k3,zdH he⟩)
 rw[zhj,ziE] at hc
 have hx:=h.wt
 rw[k1,zhj] at hx
 obtain⟨y,m1,m2⟩:=h.pre c1 c2 e.v k1 k2 _ rfl
 intro z hz;cases hz
 exact⟨y,m1,by omega⟩
theorem zr7 {E:List Ed}{c:List Ed} : ∀ {a b b':Nat},zfT E a c b->zfT E a c b'->b=b':=by
 induction c with
 | nil=>intro a b b' h1 h2;cases h1;cases h2;rfl
 | cons e l ih=>rintro a b b' ⟨_,_,h1⟩ ⟨_,_,h2⟩;exact ih h1 h2
theorem zhl {c c1 c2:List Ed}{e:Ed}(h:c ++ [e]=c1 ++ c2):c1=c ++ [e]∨∃ c3,c=c1 ++ c3:=by
 rcases List.append_eq_append_iff.1 h with ⟨a',h1,h2⟩ | ⟨c',h1,_⟩
 ·cases a' with
  | nil=>exact .inr ⟨[],by rw[h1];simp⟩
  | cons f a'' =>
   have:a''=[]/\c2=[]:=by
    cases a'' with
    | nil=>simp at h2;exact⟨rfl,h2.2⟩
    | cons g b=>simp at h2
   obtain⟨rfl,rfl⟩:=this
   simp at h2
   exact .inl (by rw[h1,h2])
 ·exact .inr ⟨c',h1⟩
theorem zij {E:List Ed}{Src:Nat->Prop}(hn:zbw E){s:zbE×Bool}{e:Ed}(he:e∈E) (h:Inv E Src s.1):Inv E Src (rlF s e).1:=by
 intro v x hx
 have hle:=zyq s e
 unfold rlF at hx hle ⊢
 cases hu:s.1 e.u with
 | none =>
  simp only[hu] at hx ⊢
  obtain⟨a,c,hc⟩:=h v x hx
  exact⟨a,c,hc⟩
 | some y =>
  simp only[hu] at hx hle ⊢
  cases hl:ltO (y+e.w) (s.1 e.v) with
  | false =>
   simp only[hl,cond_false] at hx ⊢
   exact h v x hx
  | true =>
   simp only[hl,cond_true] at hx hle ⊢
   by_cases hv:v=e.v
   ·subst hv
    have hx':y+e.w=x:=by
     unfold zii at hx;rw[if_pos rfl] at hx;exact Option.some.inj hx
    obtain⟨a,c,hc⟩:=h e.u y hu
    have hnot:e.v ∉ nodes a c:=λ hm=>by
     obtain⟨z,h1,h2⟩:=ziY hn he hc hm _ rfl
     rw[h1] at hl
     have:=of_decide_eq_true hl
     omega
    refine⟨a,c ++ [e],hc.src,zdh.2 ⟨e.u,hc.ch,zdH he⟩,by rw[zhj,ziE,← hc.wt];omega,?_,?_⟩
    ·show (a :: (c ++ [e]).map Ed.v).Nodup
     rw[List.map_append,← List.cons_append]
     refine List.nodup_append.2 ⟨hc.nd,by simp,λ p hp q hq=>?_⟩
     have:q=e.v:=by simpa using hq
     subst this
     exact λ e'=>hnot (e' ▸ hp)
    ·intro c1 c2 m h1 h2
     rcases zhl h1 with rfl | ⟨c3,h3⟩
     ·have : m = e.v := zr7 h2 (zdh.2 ⟨e.u, hc.ch, zdH he⟩)
      subst this
      intro z hz;cases hz
      refine⟨x,hx,?_⟩
      rw[zhj,ziE,← hc.wt];omega
     ·exact zch (hle m) (hc.pre c1 c3 m h3 h2)
   ·have hx':s.1 v=some x:=by
     unfold zii at hx;rw[if_neg hv] at hx;exact hx
    obtain⟨a,c,hc⟩:=h v x hx'
    exact⟨a,c,zBU hc hle⟩
theorem ziZ {E F:List Ed}{Src:Nat->Prop}(hn:zbw E) (hF:∀ e∈F,e∈E){s:zbE×Bool}(h:Inv E Src s.1):Inv E Src (F.foldl rlF s).1:=by
 induction F generalizing s with
 | nil=>exact h
 | cons e l ih=>exact ih (λ e he=>hF e (List.mem_cons_of_mem _ he)) (zij hn (hF e (List.mem_cons_self ..)) h)
theorem zp8 {E:List Ed}{Src:Nat->Prop}(hn:zbw E) (k:Nat){d:zbE}(h:Inv E Src d):Inv E Src (rds E k d):=by
 induction k generalizing d with
 | zero=>exact h
 | succ k ih=>exact ih (ziZ hn (λ _ h=>h) (s:=(d,false)) h)
structure Start (Src : Nat → Prop) (d : zbE) : Prop where
  only:∀ v x,d v=Option.some x->Src v/\x=0
  src:∀ v,Src v->d v=Option.some 0
theorem zd2 {E:List Ed}{Src:Nat->Prop}{d:zbE}(h:Start Src d):Inv E Src d:=λ v x hx=>by
 obtain⟨h1,h2⟩:=h.only v x hx
 refine⟨v,[],h1,rfl,h2,by simp[nodes],λ c1 c2 m e hc=>?_⟩
 have:c1=[]:=by
  cases c1 with
  | nil=>rfl
  | cons _ _=>cases e
 subst this
 cases hc
 rw[hx,h2]
 exact zcH _
theorem zmH {E:List Ed}{n:Nat}(hE:∀ e∈E,e.u < n/\e.v < n){c:List Ed} : ∀ {a b:Nat},a < n->zfT E a c b->∀ x∈nodes a c,x < n:=by
  induction c with
  | nil => intro a b ha _ x hx; have : x = a := by simpa [nodes] using hx
           omega
  | cons e l ih =>
    rintro a b ha ⟨h1,h2,h3⟩ x hx
    rcases List.mem_cons.1 hx with rfl | hm
    · exact ha
    · exact ih (hE e h1).2 h3 x (by simpa [nodes] using hm)
theorem zys {E:List Ed}{n:Nat}{Src:Nat->Prop}(hE:∀ e∈E,e.u < n/\e.v < n) (hS:∀ a,Src a->a < n){d:zbE}{v:Nat}{x:Int}{a:Nat}{c:List Ed}(h:Att E Src d v x a c):c.length+1≤n:=by
 have:=zkn n h.nd (zmH hE (hS a h.src) h.ch)
 rwa[zko] at this
theorem zyt {E:List Ed}{n:Nat}{Src:Nat->Prop}(hn:zbw E) (hE:∀ e∈E,e.u < n/\e.v < n) (hS:∀ a,Src a->a < n){d:zbE}(h0:Start Src d):Fix E (rds E (n - 1) d):=by
 intro e he x hx
 obtain⟨a,c,hc⟩:=zp8 hn (n - 1) (zd2 (E:=E) h0) e.u x hx
 by_cases hm:e.v∈nodes a c
 ·exact ziY hn he hc hm _ rfl
 ·have hlen:(c ++ [e]).length≤n - 1:=by
   have hnd:(nodes a (c ++ [e])).Nodup:=by
    show (a :: (c ++ [e]).map Ed.v).Nodup
    rw[List.map_append,← List.cons_append]
    refine List.nodup_append.2 ⟨hc.nd,by simp,λ p hp q hq=>?_⟩
    have:q=e.v:=by simpa using hq
    subst this
    exact λ e'=>hm (e' ▸ hp)
   have hch:zfT E a (c ++ [e]) e.v:=zdh.2 ⟨e.u,hc.ch,zdH he⟩
   have:=zkn n hnd (zmH hE (hS a hc.src) hch)
   rw[zko] at this
   omega
  have:=zIx (zdh.2 ⟨e.u,hc.ch,zdH he⟩) (h0.src a hc.src) hlen _ rfl
  rw[zhj,ziE,← hc.wt] at this
  obtain⟨z,h1,h2⟩:=this
  exact⟨z,h1,by omega⟩
theorem zIz {E:List Ed}{f:Nat->Int}(h:∀ e∈E,f e.v≤f e.u+e.w){c:List Ed} : ∀ {a b:Nat},zfT E a c b->f b≤f a+wt c:=by
 induction c with
 | nil=>intro a b hc;cases hc;show f a≤f a+0;omega
 | cons e l ih =>
  rintro a b ⟨h1,h2,h3⟩
  subst h2
  have:=ih h3
  have:=h e h1
  show f b≤f e.u+(e.w+wt l);omega
theorem zn4 {E:List Ed}{f:Nat->Int}(h:∀ e∈E,f e.v≤f e.u+e.w):zbw E:=λ a c hc=>by
 have:=zIz h hc;omega
end Go.Pm
namespace Go.Pm
theorem zBV {E:List Ed}{f:Ed->Ed}(hu:∀ e,(f e).u=e.u) (hv:∀ e,(f e).v=e.v){c:List Ed} : ∀ {a b:Nat},zfT (E.map f) a c b->∃ c0,c=c0.map f/\zfT E a c0 b:=by
 induction c with
 | nil=>intro a b h;exact⟨[],rfl,h⟩
 | cons e l ih =>
  rintro a b ⟨h1,h2,h3⟩
  obtain⟨e0,k1,rfl⟩:=List.mem_map.1 h1
  obtain⟨c0,k2,k3⟩:=ih h3
  exact⟨e0 :: c0,by rw[k2];rfl,k1,by rw[← hu];exact h2,by rw[← hv];exact k3⟩
def edM (e:Ed):Ed:=⟨e.u,e.v,e.w * 1048576+1⟩
def edR (e:Ed):Ed:=⟨e.v,e.u,e.w⟩
theorem zLp (c:List Ed):wt (c.map edM)=wt c * 1048576+c.length:=by
 induction c with
 | nil=>rfl
 | cons e l ih =>
  show e.w * 1048576+1+wt (l.map edM)=(e.w+wt l) * 1048576+((l.length+1:Nat):Int)
  omega
theorem zLq (c:List Ed):wt (c.reverse.map edR)=wt c:=by
 induction c with
 | nil=>rfl
 | cons e l ih =>
  rw[List.reverse_cons,List.map_append,zhj,ih]
  show wt l+wt [edR e]=e.w+wt l
  rw[ziE]
  show wt l+e.w=_
  omega
theorem zLr {E:List Ed}{c:List Ed} : ∀ {a b:Nat},zfT E a c b->zfT (E.map edR) b (c.reverse.map edR) a:=by
 induction c with
 | nil=>intro a b h;exact Eq.symm h
 | cons e l ih =>
  rintro a b ⟨h1,h2,h3⟩
  rw[List.reverse_cons,List.map_append]
  exact zdh.2 ⟨e.v,ih h3,List.mem_map_of_mem h1,rfl,h2⟩
theorem zIA (E:List Ed):(E.map edR).map edR=E:=by
 rw[List.map_map]
 exact (List.map_congr_left λ e _=>rfl).trans (List.map_id E)
theorem zIB {E:List Ed}{c:List Ed}{a b:Nat}(h:zfT (E.map edR) a c b):∃ c0,zfT E b c0 a/\wt c0=wt c/\c0.length=c.length:=by
 have:=zLr h
 rw[zIA] at this
 exact⟨_,this,zLq c,by simp⟩
theorem zmI {E:List Ed}(h:zbw E):zbw (E.map edR):=λ a c hc=>by
 obtain⟨c0,h1,h2,_⟩:=zIB hc
 rw[← h2];exact h a c0 h1
theorem zfU {E:List Ed}(h:zbw E):zbw (E.map edM):=λ a c hc=>by
 obtain⟨c0,rfl,h1⟩:=zBV (f:=edM) (λ _=>rfl) (λ _=>rfl) hc
 rw[zLp]
 have:=h a c0 h1
 omega
def zJb : Option Int → Int × Int
  | none=>((1000000000000:Int),(0:Int))
  | some x=>(x / 1048576,x % 1048576)
theorem zp9 {L U:Int}(h0:0≤U) (h1:U < 1048576):zJb (some (L * 1048576+U))=(L,U):=by
 show ((L * 1048576+U) / 1048576,(L * 1048576+U) % 1048576)=(L,U)
 rw[show (L * 1048576+U) / 1048576=L by omega,show (L * 1048576+U) % 1048576=U by omega]
def zn5 (s:Nat):zbE:=λ v=>if v=s then some 0 else none
theorem zda (s:Nat):Start (λ v=>v=s) (zn5 s) :=
 ⟨λ v x h=>(by
  unfold zn5 at h
  by_cases hv:v=s
  ·rw[if_pos hv] at h;cases h;exact⟨hv,rfl⟩
  ·rw[if_neg hv] at h;cases h),λ v h=>if_pos h⟩
structure EdOk (E : List Ed) (n : Nat) : Prop where
  lt:∀ e∈E,e.u < n/\e.v < n
  w:∀ e∈E,-1000000000≤e.w/\e.w≤1000000000
  n1:1≤n
  n40:n≤40
theorem EdOk.R {E:List Ed}{n:Nat}(h:EdOk E n):EdOk (E.map edR) n :=
  ⟨λ e he=>(by obtain⟨f,h1,rfl⟩:=List.mem_map.1 he;exact⟨(h.lt f h1).2,(h.lt f h1).1⟩),
   λ e he=>(by obtain⟨f,h1,rfl⟩:=List.mem_map.1 he;exact h.w f h1),h.n1,h.n40⟩
theorem EdOk.ltM {E:List Ed}{n:Nat}(h:EdOk E n):∀ e∈E.map edM,e.u < n/\e.v < n :=
 λ e he=>by obtain⟨f,h1,rfl⟩:=List.mem_map.1 he;exact h.lt f h1
theorem zi0 {E:List Ed}{n:Nat}(h:EdOk E n){c:List Ed} : ∀ {a b:Nat},zfT E a c b->-1000000000 * (c.length:Int)≤wt c/\wt c≤1000000000 * (c.length:Int):=by
 induction c with
 | nil=>intro a b _;exact⟨(by show _≤(0:Int);simp),(by show (0:Int)≤_;simp)⟩
 | cons e l ih =>
  rintro a b ⟨h1,_,h3⟩
  have:=ih h3
  have:=h.w e h1
  show _≤e.w+wt l/\e.w+wt l≤_
  simp only[List.length_cons]
  omega
structure Ent (E : List Ed) (n s v : Nat) (x L U : Int) (c : List Ed) : Prop where
  ch:zfT E s c v
  x:x=L * 1048576+U
  L:L=wt c
  U:U=c.length
  len:c.length < n
theorem zBW {E:List Ed}{n:Nat}(hE:EdOk E n){s:Nat}(hs:s < n){d:zbE}(hd:Inv (E.map edM) (λ v=>v=s) d){v:Nat}{x:Int}(hx:d v=some x):∃ c,Ent E n s v x (wt c) c.length c:=by
 obtain⟨a,c,hc⟩:=hd v x hx
 have hl:=zys hE.ltM (λ a ha=>Nat.lt_of_le_of_lt (Nat.le_of_eq ha) hs) hc
 obtain⟨c0,rfl,h1⟩:=zBV (f:=edM) (λ _=>rfl) (λ _=>rfl) hc.ch
 obtain rfl:a=s:=hc.src
 exact⟨c0,h1,by rw[hc.wt,zLp],rfl,rfl,by rw[List.length_map] at hl;omega⟩
def dst (E:List Ed) (n s:Nat):zbE:=rds (E.map edM) (n - 1) (zn5 s)
theorem zFu {E:List Ed}{n s:Nat}(hn:zbw E):Inv (E.map edM) (λ v=>v=s) (dst E n s):=zp8 (zfU hn) _ (zd2 (zda s))
theorem zqa {E:List Ed}{n s:Nat}(hE:EdOk E n) (hn:zbw E) (hs:s < n):Fix (E.map edM) (dst E n s):=zyt (zfU hn) hE.ltM (λ a ha=>Nat.lt_of_le_of_lt (Nat.le_of_eq ha) hs) (zda s)
theorem dst_at {E:List Ed}{n s v:Nat}(hE:EdOk E n) (hn:zbw E) (hs:s < n){x:Int}(hx:dst E n s v=some x):∃ c,Ent E n s v x (wt c) c.length c:=zBW hE hs (zFu hn) hx
theorem zAw {E:List Ed}{n s:Nat} : ∃ x,dst E n s s=some x:=by
 obtain⟨x,h,_⟩:=zn3 (E.map edM) (n - 1) (zn5 s) s 0 (if_pos rfl)
 exact⟨x,h⟩
theorem zyu {E:List Ed}{n s:Nat}(hE:EdOk E n) (hn:zbw E) (hs:s < n){c:List Ed} : ∀ {a v:Nat}{x:Int},dst E n s a=some x->zfT E a c v->∃ y,dst E n s v=some y/\y / 1048576≤x / 1048576+wt c:=by
 induction c with
 | nil=>intro a v x hx h;cases h;exact⟨x,hx,by show _≤_+(0:Int);omega⟩
 | cons e l ih =>
  rintro a v x hx ⟨h1,h2,h3⟩
  subst h2
  obtain⟨y,k1,k2⟩:=zqa hE hn hs (edM e) (List.mem_map_of_mem h1) x hx
  obtain⟨z,m1,m2⟩:=ih (a:=e.v) k1 h3
  obtain⟨c1,hc1⟩:=dst_at hE hn hs hx
  obtain⟨c2,hc2⟩:=dst_at hE hn hs (show dst E n s e.v=some y from k1)
  refine⟨z,m1,?_⟩
  have k2':y≤x+(e.w * 1048576+1):=k2
  have:=hE.n40
  have:=hc1.len
  have:=hc1.x
  have:=hc2.len
  have:=hc2.x
  show _≤_+(e.w+wt l)
  omega
theorem zFv {E:List Ed}{n s v:Nat}(hE:EdOk E n) (hn:zbw E) (hs:s < n){c:List Ed}(hc:zfT E s c v):∃ x,dst E n s v=some x/\x / 1048576≤wt c:=by
 obtain⟨x0,h1⟩:=zAw (E:=E) (n:=n) (s:=s)
 obtain⟨y,k1,k2⟩:=zyu hE hn hs h1 hc
 have h3:x0≤0:=by
  obtain⟨x',h1',h2'⟩:=zn3 (E.map edM) (n - 1) (zn5 s) s 0 (if_pos rfl)
  have:x'=x0:=Option.some.inj (h1'.symm.trans h1)
  omega
 exact⟨y,k1,by omega⟩
def zBX (o:Option Int):Int:=(zJb o).1
theorem zyv {E:List Ed}{n s v:Nat}(hE:EdOk E n) (hn:zbw E) (hs:s < n){x:Int}(hx:dst E n s v=some x):∃ c,zfT E s c v/\zBX (dst E n s v)=wt c/\c.length < n:=by
 obtain⟨c,hc⟩:=dst_at hE hn hs hx
 refine⟨c,hc.ch,?_,hc.len⟩
 rw[hx]
 show x / 1048576=_
 have:=hc.x;have:=hc.len;have:=hE.n40
 omega
theorem zmJ {E:List Ed}{n s v:Nat}(hE:EdOk E n) (hn:zbw E) (hs:s < n){c:List Ed}(hc:zfT E s c v):zBX (dst E n s v)≤wt c:=by
 obtain⟨x,h1,h2⟩:=zFv hE hn hs hc
 rw[h1];exact h2
theorem zdO {E:List Ed}{n s v:Nat}(hE:EdOk E n) (hn:zbw E) (hs:s < n):(dst E n s v=none/\zBX (dst E n s v)=1000000000000)∨∃ c,dst E n s v ≠ none/\zfT E s c v/\zBX (dst E n s v)=wt c/\c.length < n/\-40000000000≤wt c/\wt c≤40000000000:=by
 cases h:dst E n s v with
 | none=>exact .inl ⟨rfl,rfl⟩
 | some x =>
  obtain⟨c,h1,h2,h3⟩:=zyv hE hn hs h
  have:=zi0 hE h1
  have:=hE.n40
  rw[h] at h2
  exact .inr ⟨c,(by intro h;cases h),h1,h2,h3,by omega,by omega⟩
end Go.Pm
namespace Go.Pm
def zmK (E : List Ed) : Nat → zbE → Bool
  | 0,_=>true
  | k+1,d=>cond (E.foldl rlF (d,false)).2 (zmK E k (rnd E d)) false
theorem zqb {E:List Ed}{k:Nat} : ∀ {m:Nat}{d:zbE},Fix E (rds E k d)->k < m->zmK E m d=false:=by
 induction k with
 | zero =>
  intro m d h hm
  obtain⟨m,rfl⟩:∃ m',m=m'+1:=⟨m - 1,by omega⟩
  show cond (E.foldl rlF (d,false)).2 _ _=false
  rw[zhk (show ∀ e∈E,Sat d e from h)];rfl
 | succ k ih =>
  intro m d h hm
  obtain⟨m,rfl⟩:∃ m',m=m'+1:=⟨m - 1,by omega⟩
  show cond (E.foldl rlF (d,false)).2 (zmK E m (rnd E d)) false=false
  rw[ih (m:=m) (d:=rnd E d) h (by omega)]
  cases (E.foldl rlF (d,false)).2 <;> rfl
theorem zAx {E:List Ed}{m:Nat} : ∀ {d:zbE},zmK E m d=false->∃ k,Fix E (rds E k d):=by
 induction m with
 | zero=>intro d h;cases h
 | succ m ih =>
  intro d h
  have h':cond (E.foldl rlF (d,false)).2 (zmK E m (rnd E d)) false=false:=h
  cases hc:(E.foldl rlF (d,false)).2
  ·exact⟨0,zf9 hc⟩
  ·rw [hc] at h'
   obtain⟨k,hk⟩:=ih h'
   exact⟨k+1,hk⟩
def zmN (n:Nat):zbE:=λ v=>if v < n then some 0 else none
theorem zlg (n:Nat):Start (λ v=>v < n) (zmN n) :=
 ⟨λ v x h=>(by
  unfold zmN at h
  by_cases hv:v < n
  ·rw[if_pos hv] at h;cases h;exact⟨hv,rfl⟩
  ·rw[if_neg hv] at h;cases h),λ v h=>if_pos h⟩
theorem zAy {E:List Ed}{n:Nat}(hE:EdOk E n):zmK E n (zmN n)=false↔zbw E:=by
 constructor
 ·intro h
  obtain⟨k,hk⟩:=zAx h
  have hsome:∀ v,v < n->∃ x,rds E k (zmN n) v=some x:=λ v hv=>by
   obtain⟨x,hx,_⟩:=zn3 E k (zmN n) v 0 (if_pos hv)
   exact⟨x,hx⟩
  refine zn4 (f:=λ v=>(rds E k (zmN n) v).getD 0) λ e he=>?_
  obtain⟨x,hx⟩:=hsome e.u (hE.lt e he).1
  obtain⟨y,hy,hxy⟩:=hk e he x hx
  show (rds E k (zmN n) e.v).getD 0≤(rds E k (zmN n) e.u).getD 0+e.w
  rw[hx,hy];exact hxy
 ·intro h
  have:=hE.n1
  exact zqb (zyt h hE.lt (λ a ha=>ha) (zlg n)) (by omega)
end Go.Pm
namespace Go.Proofs
open Go Go.Pm
set_option maxRecDepth 100000
set_option linter.unusedVariables false
theorem zeE {n:Nat}{F:Tab}{k:Nat}(hk:k < n):tg n F k=F k:=by
 unfold tg zkD
 have h:(zm (zgO 0 n F))[k]? = some (.p (.int .i64 (F k))):=by
  rw[zm,List.getElem?_map,zfX n 0 F k hk,Nat.zero_add];rfl
 rw[h]
theorem zBY {n:Nat}{F:Tab}{k:Nat}{v:Int}{j:Nat}(hj:j < n):ts n F k [v] j=if j=k then v else F j:=by
 show (match Nat.beq j k with | true=>v | false=>tg n F j)=_
 by_cases h:j=k
 ·rw[if_pos h,show Nat.beq j k=true from by rw[h];exact Nat.beq_refl _]
 ·rw[if_neg h,show Nat.beq j k=false from Bool.eq_false_iff.2 λ e=>h (Nat.eq_of_beq_eq_true e)];exact zeE hj
theorem zdy {n:Nat}{F:Tab}{k:Nat}{v w:Int}{j:Nat}(hj:j < n):ts n F k [v,w] j=if j=k+1 then w else if j=k then v else F j:=by
 show (match Nat.beq j (k+1) with | true=>w | false=>(match Nat.beq j k with | true=>v | false=>tg n F j))=_
 by_cases h:j=k+1
 ·rw[if_pos h,show Nat.beq j (k+1)=true from by rw[h];exact Nat.beq_refl _]
 ·rw [if_neg h, show Nat.beq j (k + 1) = false from Bool.eq_false_iff.2 fun e => h (Nat.eq_of_beq_eq_true e)]
  by_cases h':j=k
  ·rw[if_pos h',show Nat.beq j k=true from by rw[h'];exact Nat.beq_refl _]
  ·rw[if_neg h',show Nat.beq j k=false from Bool.eq_false_iff.2 λ e=>h' (Nat.eq_of_beq_eq_true e)];exact zeE hj
def fwS (t:Tie) (i:Nat):step:=⟨⟨(i:Int),false⟩,t.From,t.To,t.High⟩
def bwS (t:Tie) (i:Nat):step:=⟨⟨(i:Int),true⟩,t.To,t.From,w64 (0 - t.Low)⟩
def zIC (a:web) (i:Nat):Bool:=(zsf (a.out.F [(i:Int)]) 0) != 0
def stK (a:web) (i:Nat):List step :=
 cond (zIC a i) [] ((cond ((a.Net.Ties.get i).High != (1000000000000:Int)) [fwS (a.Net.Ties.get i) i] []) ++ (cond ((a.Net.Ties.get i).Low != (-1000000000000:Int)) [bwS (a.Net.Ties.get i) i] []))
def stL (a : web) : Nat → Nat → List step
  | 0,_=>[]
  | m+1,i=>stK a i ++ stL a m (i+1)
theorem zqc (a:web) (hn:a.Net.Ties.len≤9223372036854775807):zsZ a=true/\zj3 a=stL a a.Net.Ties.len 0:=by
 have key:∀ (m k i:Nat),i+m=a.Net.Ties.len->m < k->zej a k (i:Int)=true/\zei a k (i:Int)=stL a m i:=by
  intro m
  induction m with
  | zero =>
   intro k i hi hk
   obtain⟨k,rfl⟩:∃ k',k=k'+1:=⟨k - 1,by omega⟩
   constructor
   ·show zeX a (zej a k) (i : Int) = true
    unfold zeX
    rw[dqF (show ¬ (i:Int) < (a.Net.Ties.len:Int) by omega),cond_false]
   ·show zeW a (zei a k) (i : Int) = []
    unfold zeW
    rw[dqF (show ¬ (i:Int) < (a.Net.Ties.len:Int) by omega),cond_false]
  | succ m ih =>
   intro k i hi hk
   obtain⟨k,rfl⟩:∃ k',k=k'+1:=⟨k - 1,by omega⟩
   obtain⟨h1,h2⟩:=ih k (i+1) (by omega) (by omega)
   constructor
   ·show zeX a (zej a k) (i : Int) = true
    unfold zeX
    rw[dqT (show (i:Int) < (a.Net.Ties.len:Int) by omega),cond_true,dqT (show 0≤(i:Int)/\(i:Int) < (a.Net.Ties.len:Int) by omega),Bool.true_and,ziX (n:=a.Net.Ties.len) (by omega) hn,h1]
    generalize (zsf (a.out.F [(i:Int)]) 0 != 0)=b1
    generalize (s94 (⟨(a.Net.Ties.get ((i:Int)).toNat),(i:Int)⟩:tie)).2=b2
    generalize (s95 (⟨(a.Net.Ties.get ((i:Int)).toNat),(i:Int)⟩:tie)).2=b3
    cases b1 <;> cases b2 <;> cases b3 <;> rfl
   ·show zeW a (zei a k) (i : Int) = stK a i ++ stL a m (i + 1)
    unfold zeW
    rw[dqT (show (i:Int) < (a.Net.Ties.len:Int) by omega),cond_true,Int.toNat_natCast,ziX (n:=a.Net.Ties.len) (by omega) hn,h2]
    unfold stK zIC s94 s95
    generalize (zsf (a.out.F [(i:Int)]) 0 != 0)=b1
    show cond b1 _ (cond ((a.Net.Ties.get i).High != (1000000000000:Int)) (_ :: cond ((a.Net.Ties.get i).Low != (-1000000000000:Int)) (_ :: _) _) (cond ((a.Net.Ties.get i).Low != (-1000000000000:Int)) (_ :: _) _))=_
    generalize ((a.Net.Ties.get i).High != (1000000000000:Int))=b2
    generalize ((a.Net.Ties.get i).Low != (-1000000000000:Int))=b3
    cases b1 <;> cases b2 <;> cases b3 <;> rfl
 exact key a.Net.Ties.len Fuel 0 (by omega) (by simp only[Fuel];omega)
theorem zFw {a:web}{y:step} : ∀ {m i:Nat},y∈stL a m i↔∃ j,i≤j/\j < i+m/\y∈stK a j:=by
 intro m
 induction m with
 | zero=>intro i;exact⟨λ h=>(by cases h),λ ⟨j,h1,h2,_⟩=>(by omega)⟩
 | succ m ih =>
  intro i
  show y∈stK a i ++ stL a m (i+1)↔_
  rw[List.mem_append,ih]
  constructor
  ·rintro (h | ⟨j, h1, h2, h3⟩)
   ·exact⟨i,Nat.le_refl _,by omega,h⟩
   ·exact⟨j,by omega,by omega,h3⟩
  ·rintro ⟨j, h1, h2, h3⟩
   by_cases h:j=i
   ·subst h;exact .inl h3
   ·exact .inr ⟨j,by omega,by omega,h3⟩
theorem zFx {a:web}{y:step}{j:Nat} : y∈stK a j↔zIC a j=false/\(((a.Net.Ties.get j).High ≠ 1000000000000/\y=fwS (a.Net.Ties.get j) j)∨((a.Net.Ties.get j).Low ≠ -1000000000000/\y=bwS (a.Net.Ties.get j) j)):=by
 unfold stK
 cases h:zIC a j
 ·rw [cond_false, List.mem_append]
  by_cases h1:(a.Net.Ties.get j).High=1000000000000
  ·rw [show ((a.Net.Ties.get j).High != (1000000000000:Int)) = false by rw [h1]; rfl, cond_false]
   by_cases h2:(a.Net.Ties.get j).Low = -1000000000000
   ·rw [show ((a.Net.Ties.get j).Low != (-1000000000000:Int)) = false by rw [h2]; rfl, cond_false]
    simp[h1,h2]
   ·rw [bne_iff_ne.2 h2, cond_true]
    simp[h1,h2]
  ·rw [bne_iff_ne.2 h1, cond_true]
   by_cases h2:(a.Net.Ties.get j).Low = -1000000000000
   ·rw [show ((a.Net.Ties.get j).Low != (-1000000000000:Int)) = false by rw [h2]; rfl, cond_false]
    simp[h1,h2]
   ·rw [bne_iff_ne.2 h2, cond_true]
    simp[h1,h2]
 ·rw[cond_true];simp
theorem zFy (a:web):∀ m i,(stL a m i).length≤2 * m:=by
 intro m
 induction m with
 | zero=>intro i;exact Nat.le_refl _
 | succ m ih =>
  intro i
  show (stK a i ++ stL a m (i+1)).length≤_
  rw[List.length_append]
  have:=ih (i+1)
  have:(stK a i).length≤2:=by
   unfold stK
   cases zIC a i <;> cases ((a.Net.Ties.get i).High != (1000000000000:Int)) <;> cases ((a.Net.Ties.get i).Low != (-1000000000000:Int)) <;> simp
  omega
def edS (y:step):Ed:=⟨y.from_.toNat,y.to.toNat,y.length⟩
structure StOk (y : step) (N : Nat) : Prop where
  f0:0≤y.from_
  f1:y.from_ < N
  t0:0≤y.to
  t1:y.to < N
  l0 : -1000000000≤y.length
  l1:y.length≤1000000000
abbrev Ws (a:web):List step:=stL a a.Net.Ties.len 0
def We (a:web):List Ed:=(Ws a).map edS
theorem zID {t:Tie}{N:Int}(h:TieOk t N) (h':t.Low ≠ -1000000000000):w64 (0 - t.Low) = -t.Low:=by
 have:=h.lo.resolve_left h'
 rw[zbZ (by omega) (by omega)];omega
theorem zFz {a:web}(hn:NetOk a.Net){y:step}(hy:y∈Ws a):StOk y a.Net.Nodes.toNat:=by
 obtain⟨j,_,h2,h3⟩:=zFw.1 hy
 have h:=hn.tie j (by omega)
 have:=h.f0;have:=h.f1;have:=h.t0;have:=h.t1
 rcases (zFx.1 h3).2 with ⟨h4,rfl⟩ | ⟨h4,rfl⟩
 ·have := h.hi.resolve_left h4
  exact⟨h.f0,by show (a.Net.Ties.get j).From < _;omega,h.t0,by show (a.Net.Ties.get j).To < _;omega,this.1,this.2⟩
 ·have := h.lo.resolve_left h4
  have e:=zID h h4
  exact⟨h.t0,by show (a.Net.Ties.get j).To < _;omega,h.f0,by show (a.Net.Ties.get j).From < _;omega,by show _≤w64 (0 - (a.Net.Ties.get j).Low);omega,by show w64 (0 - (a.Net.Ties.get j).Low)≤_;omega⟩
theorem zyw {a:web}(hn:NetOk a.Net):(Ws a).length≤400:=by
 have h1:=zFy a a.Net.Ties.len 0
 have h2:=hn.len
 show (stL a a.Net.Ties.len 0).length≤400
 omega
theorem zBZ {a:web}(hn:NetOk a.Net):EdOk (We a) a.Net.Nodes.toNat:=by
 have:=hn.n1;have:=hn.n40
 refine⟨λ e he=>?_,λ e he=>?_,by omega,by omega⟩
 ·obtain ⟨y, hy, rfl⟩ := List.mem_map.1 he
  have h:=zFz hn hy
  have:=h.f0;have:=h.f1;have:=h.t0;have:=h.t1
  exact⟨by show y.from_.toNat < _;omega,by show y.to.toNat < _;omega⟩
 ·obtain ⟨y, hy, rfl⟩ := List.mem_map.1 he
  have h:=zFz hn hy
  exact⟨h.l0,h.l1⟩
end Go.Proofs
namespace Go.Proofs
open Go Go.Pm
set_option maxRecDepth 100000
set_option linter.unusedVariables false
def Rt (N:Nat) (T:Tab) (d:zbE):Prop:=∀ v,v < N->d v=some (T v)
def Bd (B:Int) (T:Tab):Prop:=∀ v,v < 40->-B≤T v/\T v≤0
theorem zyx (a:web){N:Nat}(hN:N≤40) (S0:Int->Tab->Bool) (P0:Int->Tab->Bool):∀ (l:List step),(∀ y∈l,StOk y N)->∀ (t:Int) (c:Bool) (T:Tab) (d:zbE) (B:Int),Rt N T d->Bd B T->0≤B->B+l.length * 1000000000≤100000000000000000 ->
    ∃ T',zfu S0 a l t c T=zl3 S0 a t ((l.map edS).foldl rlF (d,c)).2 T'/\zfv P0 a l t c T=zl4 P0 a t ((l.map edS).foldl rlF (d,c)).2 T'/\Rt N T' ((l.map edS).foldl rlF (d,c)).1/\Bd (B+l.length * 1000000000) T':=by
  intro l
  induction l with
  | nil=>intro _ t c T d B h1 h2 _ _;exact⟨T,rfl,rfl,h1,by simpa using h2⟩
  | cons y l ih =>
    intro hl t c T d B h1 h2 h3 h4
    have hy:=hl y (List.mem_cons_self ..)
    have hl':∀ y∈l,StOk y N:=λ z hz=>hl z (List.mem_cons_of_mem _ hz)
    rw[List.length_cons] at h4
    have f0:=hy.f0;have f1:=hy.f1;have t0:=hy.t0;have t1:=hy.t1;have l0:=hy.l0;have l1:=hy.l1
    have hf:=h1 y.from_.toNat (by omega)
    have ht:=h1 y.to.toNat (by omega)
    have bf:=h2 y.from_.toNat (by omega)
    have bt:=h2 y.to.toNat (by omega)
    have e1:0+y.from_.toNat * 1+0=y.from_.toNat:=by omega
    have e2:0+y.to.toNat * 1+0=y.to.toNat:=by omega
    have hr:rlF (d,c) (edS y)=cond (decide (T y.from_.toNat+y.length < T y.to.toNat)) (zii d y.to.toNat (T y.from_.toNat+y.length),true) (d,c):=by
      unfold rlF edS
      simp only[hf,ht]
      rfl
    have hS:zfu S0 a (y :: l) t c T=cond (decide (T y.from_.toNat+y.length < T y.to.toNat)) (zfu S0 a l t true (ts 40 T y.to.toNat [T y.from_.toNat+y.length])) (zfu S0 a l t c T):=by
      show zl5 S0 a y (zfu S0 a l) t c T=_
      generalize zfu S0 a l=S
      unfold zl5
      rw[e1,e2,zeE (by omega),zeE (by omega),zbZ (by omega) (by omega)]
    have hP:zfv P0 a (y :: l) t c T=cond (decide (T y.from_.toNat+y.length < T y.to.toNat)) (zfv P0 a l t true (ts 40 T y.to.toNat [T y.from_.toNat+y.length])) (zfv P0 a l t c T):=by
      show zl6 P0 a y (zfv P0 a l) t c T=_
      generalize zfv P0 a l=S
      unfold zl6
      rw[e1,e2,zeE (by omega),zeE (by omega),zbZ (by omega) (by omega),dqT (show 0≤y.from_/\y.from_ < (40:Int) by omega),dqT (show 0≤y.to/\y.to < (40:Int) by omega)]
      cases decide (T y.from_.toNat+y.length < T y.to.toNat) <;> rfl
    show ∃ T',_=zl3 S0 a t ((l.map edS).foldl rlF (rlF (d,c) (edS y))).2 T'/\_=zl4 P0 a t ((l.map edS).foldl rlF (rlF (d,c) (edS y))).2 T'/\Rt N T' ((l.map edS).foldl rlF (rlF (d,c) (edS y))).1/\_
    rw[hS,hP,hr]
    by_cases hlt:T y.from_.toNat+y.length < T y.to.toNat
    · rw [dqT hlt, cond_true, cond_true, cond_true]
      obtain ⟨T', k1, k2, k3, k4⟩ := ih hl' t true (ts 40 T y.to.toNat [T y.from_.toNat + y.length]) (zii d y.to.toNat (T y.from_.toNat + y.length)) (B + 1000000000)
        (λ v hv=>by
          rw[zBY (by omega)]
          unfold zii
          by_cases h:v=y.to.toNat
          · rw[if_pos h,if_pos h]
          · rw[if_neg h,if_neg h];exact h1 v hv)
        (λ v hv=>by
          rw[zBY hv]
          by_cases h:v=y.to.toNat
          · rw[if_pos h];omega
          · rw[if_neg h];have:=h2 v hv;omega) (by omega) (by omega)
      refine⟨T',k1,k2,k3,?_⟩
      rw[List.length_cons,show B+((l.length+1:Nat):Int) * 1000000000=B+1000000000+(l.length:Int) * 1000000000 by omega]
      exact k4
    · rw [dqF hlt, cond_false, cond_false, cond_false]
      obtain⟨T',k1,k2,k3,k4⟩:=ih hl' t c T d B h1 h2 h3 (by omega)
      refine⟨T',k1,k2,k3,λ v hv=>?_⟩
      have:=k4 v hv
      rw[List.length_cons]
      omega
theorem zqd (a:web) (hn:NetOk a.Net):∀ (m k i:Nat) (T:Tab) (d:zbE) (B:Int),Rt a.Net.Nodes.toNat T d->Bd B T->0≤B->B+m * 400000000000≤100000000000000000->(i:Int)+m=a.Net.Nodes->m < k ->
  zhH a k (i:Int) T=true/\zhG a k (i:Int) T=zmK (We a) m d:=by
 have hn1:=hn.n1;have hn40:=hn.n40;have hlen:=hn.len
 obtain⟨q1,q2⟩:=zqc a (by omega)
 intro m
 induction m with
 | zero =>
  intro k i T d B _ _ _ _ hi hk
  obtain⟨k,rfl⟩:∃ k',k=k'+1:=⟨k - 1,by omega⟩
  constructor
  ·show zhF a (zhH a k) (i : Int) T = true
   unfold zhF
   rw[dqF (show ¬ (i:Int) < a.Net.Nodes by omega),cond_false]
  ·show zhE a (zhG a k) (i : Int) T = true
   unfold zhE
   rw[dqF (show ¬ (i:Int) < a.Net.Nodes by omega),cond_false]
 | succ m ih =>
  intro k i T d B h1 h2 h3 h4 hi hk
  obtain⟨k,rfl⟩:∃ k',k=k'+1:=⟨k - 1,by omega⟩
  have hwl:=zyw hn
  obtain⟨T',k1,k2,k3,k4⟩:=zyx a (N:=a.Net.Nodes.toNat) (by omega) (zhG a k) (zhH a k) (Ws a) (λ y hy=>zFz hn hy) (i:Int) false T d B h1 h2 h3 (by omega)
  have hB:Bd (B+400000000000) T':=λ v hv=>by have:=k4 v hv;omega
  have hw:w64 ((i:Int)+(1:Int))=((i+1:Nat):Int):=by rw[zbZ (by omega) (by omega)];omega
  obtain⟨r1,r2⟩:=ih k (i+1) T' (rnd (We a) d) (B+400000000000) k3 hB (by omega) (by omega) (by omega) (by omega)
  constructor
  ·show zhF a (zhH a k) (i : Int) T = true
   unfold zhF zoZ
   rw[dqT (show (i:Int) < a.Net.Nodes by omega),cond_true,q1,q2,k2]
   unfold zl4
   rw[hw,r1]
   cases ((Ws a).map edS |>.foldl rlF (d,false)).2 <;> rfl
  ·show zhE a (zhG a k) (i : Int) T = cond ((We a).foldl rlF (d, false)).2 (zmK (We a) m (rnd (We a) d)) false
   unfold zhE zoY
   rw[dqT (show (i:Int) < a.Net.Nodes by omega),cond_true,q2,k1]
   unfold zl3
   rw[hw,r2]
   show cond (!((We a).foldl rlF (d,false)).2) false _=_
   cases ((We a).foldl rlF (d,false)).2 <;> rfl
theorem zyy (a:web) (hn:NetOk a.Net):p88 a=true/\s88 a=zmK (We a) a.Net.Nodes.toNat (zmN a.Net.Nodes.toNat):=by
 have hn1:=hn.n1;have hn40:=hn.n40
 have:=zqd a hn a.Net.Nodes.toNat Fuel 0 (λ _=>(0:Int)) (zmN a.Net.Nodes.toNat) 0 (λ v hv=>if_pos hv) (λ v hv=>⟨by show -(0:Int)≤(0:Int);omega,Int.le_refl _⟩) (by omega) (by omega) (by omega) (by simp only[Fuel];omega)
 exact this
theorem zyz (a:web) (hn:NetOk a.Net):s88 a=false↔zbw (We a):=by
 rw[(zyy a hn).2];exact zAy (zBZ hn)
end Go.Proofs
namespace Go.Proofs
open Go Go.Pm
set_option maxRecDepth 100000
set_option linter.unusedVariables false
theorem zi1 (a b:far):zzV a ⟨1,λ _=>b⟩=true/\zcR a ⟨1,λ _=>b⟩=cond (zzS b a) b a:=by
 unfold zzV zcR zma zl9
 have key:∀ k,zf7 (⟨1,λ _=>b⟩:Sl far) (k+2) (0:Int) a.length a.uses=true/\zf6 (⟨1,λ _=>b⟩:Sl far) (k+2) (0:Int) a.length a.uses=cond (zzS b a) b a:=by
  intro k
  have hw:w64 ((0:Int)+(1:Int))=(1:Int):=by rw[zbZ (by omega) (by omega)];rfl
  have e1:∀ x y,zf6 (⟨1,λ _=>b⟩:Sl far) (k+1) (1:Int) x y=(⟨x,y⟩:far):=λ x y=>by
   show zf4 (⟨1,λ _=>b⟩:Sl far) (zf6 (⟨1,λ _=>b⟩:Sl far) k) (1:Int) x y=_
   unfold zf4
   rw[dqF (show ¬ (1:Int) < ((1:Nat):Int) by omega),cond_false]
  have e2:∀ x y,zf7 (⟨1,λ _=>b⟩:Sl far) (k+1) (1:Int) x y=true:=λ x y=>by
   show zf5 (⟨1,λ _=>b⟩:Sl far) (zf7 (⟨1,λ _=>b⟩:Sl far) k) (1:Int) x y=_
   unfold zf5
   rw[dqF (show ¬ (1:Int) < ((1:Nat):Int) by omega),cond_false]
  constructor
  ·show zf5 (⟨1, fun _ => b⟩ : Sl far) (zf7 (⟨1, fun _ => b⟩ : Sl far) (k + 1)) (0:Int) a.length a.uses = _
   unfold zf5 zl8
   rw[dqT (show (0:Int) < ((1:Nat):Int) by omega),cond_true,dqT (show 0≤(0:Int)/\(0:Int) < ((1:Nat):Int) by omega),Bool.true_and,hw,e2,e2]
   cases zzS b (⟨a.length,a.uses⟩:far) <;> rfl
  ·show zf4 (⟨1, fun _ => b⟩ : Sl far) (zf6 (⟨1, fun _ => b⟩ : Sl far) (k + 1)) (0:Int) a.length a.uses = _
   unfold zf4 zl7
   rw[dqT (show (0:Int) < ((1:Nat):Int) by omega),cond_true,hw,e1,e1]
 have:=key (Fuel - 2)
 rw[show Fuel - 2+2=Fuel by simp only[Fuel]] at this
 exact this
theorem zyA (a b:far):zzS a b=decide (a.length < b.length∨(a.length=b.length/\a.uses < b.uses)):=by
 unfold zzS
 by_cases h1:a.length < b.length
 ·rw[dqT h1,cond_true];exact (dqT (.inl h1)).symm
 ·rw [dqF h1, cond_false]
  by_cases h2:a.length=b.length
  ·rw [show (a.length == b.length) = true from beq_iff_eq.2 h2, cond_true]
   exact decide_eq_decide.2 ⟨λ h=>.inr ⟨h2,h⟩,λ h=>h.elim (λ h=>absurd h h1) (λ h=>h.2)⟩
  ·rw [show (a.length == b.length) = false from beq_eq_false_iff_ne.2 h2, cond_false]
   exact (dqF (λ h=>h.elim h1 (λ h=>h2 h.1))).symm
def Rp (N:Nat) (T:Tab) (d:zbE):Prop:=∀ v,v < N->(T (v * 2),T (v * 2+1))=zJb (d v)
def nv (x y:Int):Bool:=match (x == (1000000000000:Int)) with | true=>(match (y == (0:Int)) with | true=>true | false=>false) | false=>false
def sm (x y u v:Int):Bool:=match (x == u) with | true=>(match (y == v) with | true=>true | false=>false) | false=>false
theorem zr8 (x y:Int):nv x y=decide ((x,y)=((1000000000000:Int),(0:Int))):=by
 unfold nv
 by_cases h1:x=1000000000000
 ·rw [show (x == (1000000000000:Int)) = true from beq_iff_eq.2 h1]
  by_cases h2:y=0
  ·rw[show (y == (0:Int))=true from beq_iff_eq.2 h2];exact (dqT (by rw[h1,h2])).symm
  ·rw[show (y == (0:Int))=false from beq_eq_false_iff_ne.2 h2];exact (dqF (λ h=>h2 (Prod.mk.inj h).2)).symm
 ·rw [show (x == (1000000000000:Int)) = false from beq_eq_false_iff_ne.2 h1]
  exact (dqF (λ h=>h1 (Prod.mk.inj h).1)).symm
theorem same_eq (x y u v:Int):sm x y u v=decide ((x,y)=(u,v)):=by
 unfold sm
 by_cases h1:x=u
 ·rw [show (x == u) = true from beq_iff_eq.2 h1]
  by_cases h2:y=v
  ·rw[show (y == v)=true from beq_iff_eq.2 h2];exact (dqT (by rw[h1,h2])).symm
  ·rw[show (y == v)=false from beq_eq_false_iff_ne.2 h2];exact (dqF (λ h=>h2 (Prod.mk.inj h).2)).symm
 ·rw [show (x == u) = false from beq_eq_false_iff_ne.2 h1]
  exact (dqF (λ h=>h1 (Prod.mk.inj h).1)).symm
theorem zi2 {E : List Ed} {n s v : Nat} (hE : EdOk E n) (hs : s < n) {d : zbE} (hd : Inv (E.map edM) (fun v => v = s) d) {x : Int} (hx : d v = some x) :
  ∃ L U,zJb (d v)=(L,U)/\x=L * 1048576+U/\0≤U/\U < 40/\-40000000000≤L/\L≤40000000000:=by
 obtain⟨c,hc⟩:=zBW hE hs hd hx
 have h1:=zi0 hE hc.ch
 have h2:=hc.len
 have h3:=hE.n40
 refine⟨wt c,c.length,?_,hc.x,by omega,by omega,by omega,by omega⟩
 rw[hx,hc.x]
 exact zp9 (by omega) (by omega)
end Go.Proofs
namespace Go.Proofs
open Go Go.Pm
set_option maxRecDepth 100000
set_option linter.unusedVariables false
theorem zIE (a : web) {N s : Nat} (E : List Ed) (hE : EdOk E N) (hn : zbw E) (hs : s < N) (S2 : Bool → Tab → Tab → Tab) (P2 : Bool → Tab → Tab → Bool) (y : step) (hy : StOk y N) (hm : edS y ∈ E) (S3 : Bool → Tab → Tab → Tab) (P3 : Bool → Tab → Tab → Bool) (c : Bool) (T4 T : Tab) (d : zbE) (h1 : Rp N T d) (hi : Inv (E.map edM) (fun v => v = s) d) :
  ∃ T',zmj S2 a y S3 c T4 T=S3 (rlF (d,c) (edM (edS y))).2 T4 T'/\zmk P2 a y P3 c T4 T=P3 (rlF (d,c) (edM (edS y))).2 T4 T'/\Rp N T' (rlF (d,c) (edM (edS y))).1:=by
 have hN:=hE.n40
 have f0:=hy.f0;have f1:=hy.f1;have t0:=hy.t0;have t1:=hy.t1;have l0:=hy.l0;have l1:=hy.l1
 have hu:=h1 y.from_.toNat (by omega)
 have hv:=h1 y.to.toNat (by omega)
 have e1:0+y.from_.toNat * 2+0=y.from_.toNat * 2:=by omega
 have e2:0+y.to.toNat * 2+0=y.to.toNat * 2:=by omega
 have e3:0+y.from_.toNat * 2+1=y.from_.toNat * 2+1:=by omega
 have hin:=zij (Src:=λ v=>v=s) (zfU hn) (s:=(d,c)) (e:=edM (edS y)) (List.mem_map_of_mem hm) hi
 have hS:zmj S2 a y S3 c T4 T=cond (nv (tg 80 T (0+y.from_.toNat * 2+0)) (tg 80 T (0+y.from_.toNat * 2+0+1))) (S3 c T4 T) (cond c (S3 true T4 (ts 80 T (0+y.to.toNat * 2+0) [(zcR (⟨(tg 80 T (0+y.to.toNat * 2+0)),(tg 80 T (0+y.to.toNat * 2+0+1))⟩:far) (⟨1,λ _=>(⟨(w64 ((tg 80 T (0+y.from_.toNat * 2+0))+y.length)),(w64 ((tg 80 T (0+y.from_.toNat * 2+1))+(1:Int)))⟩:far)⟩:(Sl far))).length,(zcR (⟨(tg 80 T (0+y.to.toNat * 2+0)),(tg 80 T (0+y.to.toNat * 2+0+1))⟩:far) (⟨1,λ _=>(⟨(w64 ((tg 80 T (0+y.from_.toNat * 2+0))+y.length)),(w64 ((tg 80 T (0+y.from_.toNat * 2+1))+(1:Int)))⟩:far)⟩:(Sl far))).uses])) (S3 (!(sm (zcR (⟨(tg 80 T (0+y.to.toNat * 2+0)),(tg 80 T (0+y.to.toNat * 2+0+1))⟩:far) (⟨1,λ _=>(⟨(w64 ((tg 80 T (0+y.from_.toNat * 2+0))+y.length)),(w64 ((tg 80 T (0+y.from_.toNat * 2+1))+(1:Int)))⟩:far)⟩:(Sl far))).length (zcR (⟨(tg 80 T (0+y.to.toNat * 2+0)),(tg 80 T (0+y.to.toNat * 2+0+1))⟩:far) (⟨1,λ _=>(⟨(w64 ((tg 80 T (0+y.from_.toNat * 2+0))+y.length)),(w64 ((tg 80 T (0+y.from_.toNat * 2+1))+(1:Int)))⟩:far)⟩:(Sl far))).uses (tg 80 T (0+y.to.toNat * 2+0)) (tg 80 T (0+y.to.toNat * 2+0+1)))) T4 (ts 80 T (0+y.to.toNat * 2+0) [(zcR (⟨(tg 80 T (0+y.to.toNat * 2+0)),(tg 80 T (0+y.to.toNat * 2+0+1))⟩:far) (⟨1,λ _=>(⟨(w64 ((tg 80 T (0+y.from_.toNat * 2+0))+y.length)),(w64 ((tg 80 T (0+y.from_.toNat * 2+1))+(1:Int)))⟩:far)⟩:(Sl far))).length,(zcR (⟨(tg 80 T (0+y.to.toNat * 2+0)),(tg 80 T (0+y.to.toNat * 2+0+1))⟩:far) (⟨1,λ _=>(⟨(w64 ((tg 80 T (0+y.from_.toNat * 2+0))+y.length)),(w64 ((tg 80 T (0+y.from_.toNat * 2+1))+(1:Int)))⟩:far)⟩:(Sl far))).uses]))):=rfl
 have hP:zmk P2 a y P3 c T4 T=(decide (0≤y.from_/\y.from_ < (40:Int)) && cond (nv (tg 80 T (0+y.from_.toNat * 2+0)) (tg 80 T (0+y.from_.toNat * 2+0+1))) (P3 c T4 T) (decide (0≤y.to/\y.to < (40:Int)) && (decide (0≤y.from_/\y.from_ < (40:Int)) && (decide (0≤y.from_/\y.from_ < (40:Int)) && (decide (zzV (⟨(tg 80 T (0+y.to.toNat * 2+0)),(tg 80 T (0+y.to.toNat * 2+0+1))⟩:far) (⟨1,λ _=>(⟨(w64 ((tg 80 T (0+y.from_.toNat * 2+0))+y.length)),(w64 ((tg 80 T (0+y.from_.toNat * 2+1))+(1:Int)))⟩:far)⟩:(Sl far))=true) && cond c (decide (0≤y.to/\y.to < (40:Int)) && P3 true T4 (ts 80 T (0+y.to.toNat * 2+0) [(zcR (⟨(tg 80 T (0+y.to.toNat * 2+0)),(tg 80 T (0+y.to.toNat * 2+0+1))⟩:far) (⟨1,λ _=>(⟨(w64 ((tg 80 T (0+y.from_.toNat * 2+0))+y.length)),(w64 ((tg 80 T (0+y.from_.toNat * 2+1))+(1:Int)))⟩:far)⟩:(Sl far))).length,(zcR (⟨(tg 80 T (0+y.to.toNat * 2+0)),(tg 80 T (0+y.to.toNat * 2+0+1))⟩:far) (⟨1,λ _=>(⟨(w64 ((tg 80 T (0+y.from_.toNat * 2+0))+y.length)),(w64 ((tg 80 T (0+y.from_.toNat * 2+1))+(1:Int)))⟩:far)⟩:(Sl far))).uses])) (decide (0≤y.to/\y.to < (40:Int)) && (decide (0≤y.to/\y.to < (40:Int)) && P3 (!(sm (zcR (⟨(tg 80 T (0+y.to.toNat * 2+0)),(tg 80 T (0+y.to.toNat * 2+0+1))⟩:far) (⟨1,λ _=>(⟨(w64 ((tg 80 T (0+y.from_.toNat * 2+0))+y.length)),(w64 ((tg 80 T (0+y.from_.toNat * 2+1))+(1:Int)))⟩:far)⟩:(Sl far))).length (zcR (⟨(tg 80 T (0+y.to.toNat * 2+0)),(tg 80 T (0+y.to.toNat * 2+0+1))⟩:far) (⟨1,λ _=>(⟨(w64 ((tg 80 T (0+y.from_.toNat * 2+0))+y.length)),(w64 ((tg 80 T (0+y.from_.toNat * 2+1))+(1:Int)))⟩:far)⟩:(Sl far))).uses (tg 80 T (0+y.to.toNat * 2+0)) (tg 80 T (0+y.to.toNat * 2+0+1)))) T4 (ts 80 T (0+y.to.toNat * 2+0) [(zcR (⟨(tg 80 T (0+y.to.toNat * 2+0)),(tg 80 T (0+y.to.toNat * 2+0+1))⟩:far) (⟨1,λ _=>(⟨(w64 ((tg 80 T (0+y.from_.toNat * 2+0))+y.length)),(w64 ((tg 80 T (0+y.from_.toNat * 2+1))+(1:Int)))⟩:far)⟩:(Sl far))).length,(zcR (⟨(tg 80 T (0+y.to.toNat * 2+0)),(tg 80 T (0+y.to.toNat * 2+0+1))⟩:far) (⟨1,λ _=>(⟨(w64 ((tg 80 T (0+y.from_.toNat * 2+0))+y.length)),(w64 ((tg 80 T (0+y.from_.toNat * 2+1))+(1:Int)))⟩:far)⟩:(Sl far))).uses])))))))):=rfl
 rw[hS,hP]
 clear hS hP
 rw[e1,e2,e3,zeE (k:=y.from_.toNat * 2) (by omega),zeE (k:=y.from_.toNat * 2+1) (by omega),zeE (k:=y.to.toNat * 2) (by omega),zeE (k:=y.to.toNat * 2+1) (by omega)]
 rw[dqT (show 0≤y.from_/\y.from_ < (40:Int) by omega),dqT (show 0≤y.to/\y.to < (40:Int) by omega)]
 simp only[zr8,same_eq]
 cases hdu:d y.from_.toNat with
 | none =>
  rw[hdu] at hu
  have hr:rlF (d,c) (edM (edS y))=(d,c):=by
   unfold rlF edM edS
   simp only[hdu]
  rw[hr,dqT (show (T (y.from_.toNat * 2),T (y.from_.toNat * 2+1))=((1000000000000:Int),(0:Int)) from hu)]
  exact⟨T,rfl,rfl,h1⟩
 | some x =>
  obtain⟨L,U,k1,k2,k3,k4,k5,k6⟩:=zi2 hE hs hi hdu
  rw[hdu] at hu k1
  rw[k1] at hu
  have hL:T (y.from_.toNat * 2)=L:=(Prod.mk.inj hu).1
  have hU:T (y.from_.toNat * 2+1)=U:=(Prod.mk.inj hu).2
  rw[hL,hU,dqF (show ¬ (L,U)=((1000000000000:Int),(0:Int)) from λ h=>by have:=(Prod.mk.inj h).1;omega),zbZ (x:=L+y.length) (by omega) (by omega),zbZ (x:=U+(1:Int)) (by omega) (by omega)]
  rw[(zi1 _ _).1,(zi1 _ _).2,zyA]
  have hw:x+(edM (edS y)).w=(L+y.length) * 1048576+(U+1):=by
   show x+(y.length * 1048576+1)=_
   omega
  have hr:rlF (d,c) (edM (edS y))=cond (ltO ((L+y.length) * 1048576+(U+1)) (d y.to.toNat)) (zii d y.to.toNat ((L+y.length) * 1048576+(U+1)),true) (d,c):=by
   rw[← hw]
   unfold rlF edM edS
   simp only[hdu] <;> rfl
  have hlt:decide ((L+y.length < T (y.to.toNat * 2))∨(L+y.length=T (y.to.toNat * 2)/\U+1 < T (y.to.toNat * 2+1)))=ltO ((L+y.length) * 1048576+(U+1)) (d y.to.toNat):=by
   cases hdv:d y.to.toNat with
   | none =>
    rw[hdv] at hv
    have hv1:T (y.to.toNat * 2)=1000000000000:=(Prod.mk.inj hv).1
    rw[hv1]
    exact dqT (.inl (by omega))
   | some z =>
    obtain⟨L',U',m1,m2,m3,m4,m5,m6⟩:=zi2 hE hs hi hdv
    rw[hdv] at hv m1
    rw[m1] at hv
    rw[(Prod.mk.inj hv).1,(Prod.mk.inj hv).2,m2]
    exact decide_eq_decide.2 (by omega)
  simp only[hlt]
  rw[hr] at hin ⊢
  have hrw:∀ T'',Rp N T d->T''=ts 80 T (y.to.toNat * 2) [T (y.to.toNat * 2),T (y.to.toNat * 2+1)]->Rp N T'' d:=λ T'' h e v hv'=>by
   rw[e,zdy (by omega),zdy (by omega),← h v hv']
   by_cases hq:v=y.to.toNat
   ·subst hq
    rw[if_neg (by omega),if_pos rfl,if_pos rfl]
   ·rw[if_neg (by omega),if_neg (by omega),if_neg (by omega),if_neg (by omega)]
  cases hlo:ltO ((L+y.length) * 1048576+(U+1)) (d y.to.toNat) with
  | false =>
   refine⟨ts 80 T (y.to.toNat * 2) [T (y.to.toNat * 2),T (y.to.toNat * 2+1)],?_,?_,hrw _ h1 rfl⟩
   ·simp only [cond_false, decide_true]
    cases c <;> rfl
   ·simp only [cond_false, Bool.true_and, decide_true]
    cases c <;> rfl
  | true =>
   rw[hlo] at hin
   simp only[cond_true,cond_false,Bool.true_and,decide_true] at hin ⊢
   refine⟨ts 80 T (y.to.toNat * 2) [L+y.length,U+1],?_,?_,?_⟩
   ·cases c
    ·rw [dqF]
     ·rfl
     ·intro h
      rw[← hlt] at hlo
      have:=of_decide_eq_true hlo
      have h1':=(Prod.mk.inj h).1
      have h2':=(Prod.mk.inj h).2
      omega
    ·rfl
   ·cases c
    ·rw [dqF]
     ·rfl
     ·intro h
      rw[← hlt] at hlo
      have:=of_decide_eq_true hlo
      have h1':=(Prod.mk.inj h).1
      have h2':=(Prod.mk.inj h).2
      omega
    ·rfl
   ·intro v hv'
    rw[zdy (by omega),zdy (by omega)]
    unfold zii
    by_cases hq:v=y.to.toNat
    ·subst hq
     rw[if_neg (by omega),if_pos rfl,if_pos rfl,if_pos rfl]
     exact (zp9 (by omega) (by omega)).symm
    ·rw [if_neg (by omega), if_neg (by omega), if_neg (by omega), if_neg (by omega), if_neg hq]
     exact h1 v hv'
theorem zIF (a:web){N s:Nat}(E:List Ed) (hE:EdOk E N) (hn:zbw E) (hs:s < N) (S2:Bool->Tab->Tab->Tab) (P2:Bool->Tab->Tab->Bool):∀ (l:List step),(∀ y∈l,StOk y N/\edS y∈E)->∀ (c:Bool) (T4 T:Tab) (d:zbE),Rp N T d->Inv (E.map edM) (λ v=>v=s) d ->
  ∃ T',zml S2 a l c T4 T=S2 (((l.map edS).map edM).foldl rlF (d,c)).2 T4 T'/\zmm P2 a l c T4 T=P2 (((l.map edS).map edM).foldl rlF (d,c)).2 T4 T'/\Rp N T' (((l.map edS).map edM).foldl rlF (d,c)).1:=by
 intro l
 induction l with
 | nil=>intro _ c T4 T d h1 _;exact⟨T,rfl,rfl,h1⟩
 | cons y l ih =>
  intro hl c T4 T d h1 h2
  obtain⟨hy,hm⟩:=hl y (List.mem_cons_self ..)
  obtain⟨T',k1,k2,k3⟩:=zIE a E hE hn hs S2 P2 y hy hm (zml S2 a l) (zmm P2 a l) c T4 T d h1 h2
  have h3:=zij (Src:=λ v=>v=s) (zfU hn) (s:=(d,c)) (e:=edM (edS y)) (List.mem_map_of_mem hm) h2
  obtain⟨T'',m1,m2,m3⟩:=ih (λ z hz=>hl z (List.mem_cons_of_mem _ hz)) (rlF (d,c) (edM (edS y))).2 T4 T' (rlF (d,c) (edM (edS y))).1 k3 h3
  exact⟨T'',Eq.trans k1 m1,Eq.trans k2 m2,m3⟩
theorem zAz (a:web) (hnet:NetOk a.Net) (E:List Ed) (hEe:E=(Ws a).map edS){s:Nat}(hE:EdOk E a.Net.Nodes.toNat) (hn:zbw E) (hs:s < a.Net.Nodes.toNat):∀ (m k:Nat) (T4 T:Tab) (d:zbE),Rp a.Net.Nodes.toNat T d->Inv (E.map edM) (λ v=>v=s) d->Fix (E.map edM) (rds (E.map edM) m d)->m+1 < k ->
  ∃ T',zfz a k true T4 T=true/\zfy a k true T4 T=T'/\Rp a.Net.Nodes.toNat T' (rds (E.map edM) m d):=by
 have hlen:=hnet.len
 obtain⟨q1,q2⟩:=zqc a (by omega)
 have hst:∀ y∈Ws a,StOk y a.Net.Nodes.toNat/\edS y∈E:=λ y hy=>⟨zFz hnet hy,by rw[hEe];exact List.mem_map_of_mem hy⟩
 have one:∀ (k:Nat) (T4 T:Tab) (d:zbE),Rp a.Net.Nodes.toNat T d->Inv (E.map edM) (λ v=>v=s) d ->
   ∃ T',zfy a (k+1) true T4 T=zfy a k ((E.map edM).foldl rlF (d,false)).2 T4 T'/\zfz a (k+1) true T4 T=zfz a k ((E.map edM).foldl rlF (d,false)).2 T4 T'/\Rp a.Net.Nodes.toNat T' (rnd (E.map edM) d):=by
  intro k T4 T d h1 h2
  obtain⟨T',k1,k2,k3⟩:=zIF a E hE hn hs (zfy a k) (zfz a k) (Ws a) hst false T4 T d h1 h2
  rw[← hEe] at k1 k2 k3
  refine⟨T',?_,?_,k3⟩
  ·show zmn a (zfy a k) true T4 T = _
   unfold zmn zpi
   rw[cond_true,q2];exact k1
  ·show zmo a (zfz a k) true T4 T = _
   unfold zmo zpj
   rw[cond_true,q1,q2,dqT rfl,Bool.true_and];exact k2
 have stop:∀ (k:Nat) (T4 T:Tab),zfy a (k+1) false T4 T=T/\zfz a (k+1) false T4 T=true:=λ k T4 T=>⟨rfl,rfl⟩
 intro m
 induction m with
 | zero =>
  intro k T4 T d h1 h2 h3 hk
  obtain⟨k,rfl⟩:∃ k',k=k'+1+1:=⟨k - 2,by omega⟩
  obtain⟨T',k1,k2,k3⟩:=one (k+1) T4 T d h1 h2
  have h3':Fix (E.map edM) d:=h3
  rw[zhk h3'] at k1 k2
  rw[zgK h3'] at k3
  obtain⟨j1,j2⟩:=stop k T4 T'
  exact⟨T',k2.trans j2,k1.trans j1,k3⟩
 | succ m ih =>
  intro k T4 T d h1 h2 h3 hk
  obtain⟨k,rfl⟩:∃ k',k=k'+1+1:=⟨k - 2,by omega⟩
  obtain⟨T',k1,k2,k3⟩:=one (k+1) T4 T d h1 h2
  cases hf:((E.map edM).foldl rlF (d,false)).2 with
  | false =>
   rw[hf] at k1 k2
   have hx:Fix (E.map edM) d:=zf9 hf
   obtain⟨j1,j2⟩:=stop k T4 T'
   refine⟨T',k2.trans j2,k1.trans j1,?_⟩
   rw[zgK hx] at k3
   rw[zp7 hx];exact k3
  | true =>
   rw[hf] at k1 k2
   obtain⟨T'',m1,m2,m3⟩:=ih (k+1) T4 T' (rnd (E.map edM) d) k3 (ziZ (zfU hn) (λ _ h=>h) (s:=(d,false)) h2) h3 (by omega)
   exact⟨T'',k2.trans m1,k1.trans m2,m3⟩
theorem zFA (a:web) (node:Int):∀ (m k i:Nat) (T4 T:Tab),(∀ v,v < i->T (v * 2)=1000000000000/\T (v * 2+1)=0)->i+m=40->m < k ->
  ∃ T',zhS a node k (i:Int) T4 T=zmp a node T4 T'/\zhT a node k (i:Int) T4 T=zmq a node T4 T'/\∀ v,v < 40->T' (v * 2)=1000000000000/\T' (v * 2+1)=0:=by
 intro m
 induction m with
 | zero =>
  intro k i T4 T h hi hk
  obtain⟨k,rfl⟩:∃ k',k=k'+1:=⟨k - 1,by omega⟩
  refine⟨T,?_,?_,λ v hv=>h v (by omega)⟩
  ·show zhQ a node (zhS a node k) (i : Int) T4 T = _
   unfold zhQ
   rw[dqF (show ¬ (i:Int) < (40:Int) by omega),cond_false]
  ·show zhR a node (zhT a node k) (i : Int) T4 T = _
   unfold zhR
   rw[dqF (show ¬ (i:Int) < (40:Int) by omega),cond_false]
 | succ m ih =>
  intro k i T4 T h hi hk
  obtain⟨k,rfl⟩:∃ k',k=k'+1:=⟨k - 1,by omega⟩
  have hw:w64 ((i:Int)+(1:Int))=((i+1:Nat):Int):=by rw[zbZ (by omega) (by omega)];omega
  obtain⟨T',k1,k2,k3⟩:=ih k (i+1) T4 (ts 80 T (i * 2) [(1000000000000:Int),(0:Int)]) (λ v hv=>by
   rw[zdy (by omega),zdy (by omega)]
   by_cases hq:v=i
   ·subst hq
    rw[if_neg (by omega),if_pos rfl,if_pos rfl];exact⟨rfl,rfl⟩
   ·rw[if_neg (by omega),if_neg (by omega),if_neg (by omega),if_neg (by omega)];exact h v (by omega)) (by omega) (by omega)
  refine⟨T',?_,?_,k3⟩
  ·rw [← k1]
   show zhQ a node (zhS a node k) (i:Int) T4 T=_
   unfold zhQ
   rw[dqT (show (i:Int) < (40:Int) by omega),cond_true,hw,Int.toNat_natCast,show 0+i * 2+0=i * 2 by omega]
  ·rw [← k2]
   show zhR a node (zhT a node k) (i:Int) T4 T=_
   unfold zhR
   rw[dqT (show (i:Int) < (40:Int) by omega),cond_true,dqT (show 0≤(i:Int)/\(i:Int) < (40:Int) by omega),Bool.true_and,hw,Int.toNat_natCast,show 0+i * 2+0=i * 2 by omega]
theorem zIG (a : web) (hnet : NetOk a.Net) (hn : zbw (We a)) (node : Int) (h0 : 0 ≤ node) (h1 : node < a.Net.Nodes) :
  p76 a node=true/\Rp a.Net.Nodes.toNat (s76 a node) (dst (We a) a.Net.Nodes.toNat node.toNat):=by
 have hn40:=hnet.n40
 have hEe:We a=(Ws a).map edS:=rfl
 have hE:EdOk (We a) a.Net.Nodes.toNat:=zBZ hnet
 have hN:zbw (We a):=hn
 have hs:node.toNat < a.Net.Nodes.toNat:=by omega
 obtain⟨T1,a1,a2,a3⟩:=zFA a node 40 Fuel 0 (λ _=>(0:Int)) (λ _=>(0:Int)) (λ v hv=>absurd hv (Nat.not_lt_zero _)) rfl (by simp only[Fuel];omega)
 have hr:Rp a.Net.Nodes.toNat (ts 80 T1 (node.toNat * 2) [(0:Int),(0:Int)]) (zn5 node.toNat):=λ v hv=>by
  rw[zdy (by omega),zdy (by omega)]
  unfold zn5
  by_cases hq:v=node.toNat
  ·subst hq
   rw[if_neg (by omega),if_pos rfl,if_pos rfl,if_pos rfl];rfl
  ·rw[if_neg (by omega),if_neg (by omega),if_neg (by omega),if_neg (by omega),if_neg hq,(a3 v (by omega)).1,(a3 v (by omega)).2];rfl
 obtain⟨T2,b1,b2,b3⟩:=zAz a hnet (We a) hEe hE hN hs (a.Net.Nodes.toNat - 1) Fuel (λ _=>(0:Int)) (ts 80 T1 (node.toNat * 2) [(0:Int),(0:Int)]) (zn5 node.toNat) hr (zd2 (zda node.toNat)) (zqa hE hN hs) (by simp only[Fuel];omega)
 have e:0+node.toNat * 2+0=node.toNat * 2:=by omega
 constructor
 ·show zhT a node Fuel 0 (fun _ => (0:Int)) (fun _ => (0:Int)) = true
  refine Eq.trans a2 ?_
  unfold zmq zpl
  rw[dqT (show 0≤node/\node < (40:Int) by omega),Bool.true_and,e];exact b1
 ·have:s76 a node=T2:=by
   show zhS a node Fuel 0 (λ _=>(0:Int)) (λ _=>(0:Int))=T2
   refine Eq.trans a1 ?_
   unfold zmp zpk
   rw[e];exact b2
  rw[this];exact b3
end Go.Proofs
namespace Go.Proofs
open Go Go.Pm
set_option maxRecDepth 100000
set_option linter.unusedVariables false
def edQ (y:step):Ed:=⟨y.to.toNat,y.from_.toNat,y.length⟩
theorem zFB (l:List step):l.map edQ=(l.map edS).map edR:=by rw[List.map_map];rfl

theorem zIH (a : web) {N s : Nat} (E : List Ed) (hE : EdOk E N) (hn : zbw E) (hs : s < N) (S2 : Bool → Tab → Tab → Tab) (P2 : Bool → Tab → Tab → Bool) (y : step) (hy : StOk y N) (hm : edQ y ∈ E) (S3 : Bool → Tab → Tab → Tab) (P3 : Bool → Tab → Tab → Bool) (c : Bool) (T4 T : Tab) (d : zbE) (h1 : Rp N T d) (hi : Inv (E.map edM) (fun v => v = s) d) :
  ∃ T',zmb S2 a y S3 c T4 T=S3 (rlF (d,c) (edM (edQ y))).2 T4 T'/\zmc P2 a y P3 c T4 T=P3 (rlF (d,c) (edM (edQ y))).2 T4 T'/\Rp N T' (rlF (d,c) (edM (edQ y))).1:=by
 have hN:=hE.n40
 have f0:=hy.f0;have f1:=hy.f1;have t0:=hy.t0;have t1:=hy.t1;have l0:=hy.l0;have l1:=hy.l1
 have hu:=h1 y.to.toNat (by omega)
 have hv:=h1 y.from_.toNat (by omega)
 have e1:0+y.to.toNat * 2+0=y.to.toNat * 2:=by omega
 have e2:0+y.from_.toNat * 2+0=y.from_.toNat * 2:=by omega
 have e3:0+y.to.toNat * 2+1=y.to.toNat * 2+1:=by omega
 have hin:=zij (Src:=λ v=>v=s) (zfU hn) (s:=(d,c)) (e:=edM (edQ y)) (List.mem_map_of_mem hm) hi
 have hS:zmb S2 a y S3 c T4 T=cond (nv (tg 80 T (0+y.to.toNat * 2+0)) (tg 80 T (0+y.to.toNat * 2+0+1))) (S3 c T4 T) (cond c (S3 true T4 (ts 80 T (0+y.from_.toNat * 2+0) [(zcR (⟨(tg 80 T (0+y.from_.toNat * 2+0)),(tg 80 T (0+y.from_.toNat * 2+0+1))⟩:far) (⟨1,λ _=>(⟨(w64 ((tg 80 T (0+y.to.toNat * 2+0))+y.length)),(w64 ((tg 80 T (0+y.to.toNat * 2+1))+(1:Int)))⟩:far)⟩:(Sl far))).length,(zcR (⟨(tg 80 T (0+y.from_.toNat * 2+0)),(tg 80 T (0+y.from_.toNat * 2+0+1))⟩:far) (⟨1,λ _=>(⟨(w64 ((tg 80 T (0+y.to.toNat * 2+0))+y.length)),(w64 ((tg 80 T (0+y.to.toNat * 2+1))+(1:Int)))⟩:far)⟩:(Sl far))).uses])) (S3 (!(sm (zcR (⟨(tg 80 T (0+y.from_.toNat * 2+0)),(tg 80 T (0+y.from_.toNat * 2+0+1))⟩:far) (⟨1,λ _=>(⟨(w64 ((tg 80 T (0+y.to.toNat * 2+0))+y.length)),(w64 ((tg 80 T (0+y.to.toNat * 2+1))+(1:Int)))⟩:far)⟩:(Sl far))).length (zcR (⟨(tg 80 T (0+y.from_.toNat * 2+0)),(tg 80 T (0+y.from_.toNat * 2+0+1))⟩:far) (⟨1,λ _=>(⟨(w64 ((tg 80 T (0+y.to.toNat * 2+0))+y.length)),(w64 ((tg 80 T (0+y.to.toNat * 2+1))+(1:Int)))⟩:far)⟩:(Sl far))).uses (tg 80 T (0+y.from_.toNat * 2+0)) (tg 80 T (0+y.from_.toNat * 2+0+1)))) T4 (ts 80 T (0+y.from_.toNat * 2+0) [(zcR (⟨(tg 80 T (0+y.from_.toNat * 2+0)),(tg 80 T (0+y.from_.toNat * 2+0+1))⟩:far) (⟨1,λ _=>(⟨(w64 ((tg 80 T (0+y.to.toNat * 2+0))+y.length)),(w64 ((tg 80 T (0+y.to.toNat * 2+1))+(1:Int)))⟩:far)⟩:(Sl far))).length,(zcR (⟨(tg 80 T (0+y.from_.toNat * 2+0)),(tg 80 T (0+y.from_.toNat * 2+0+1))⟩:far) (⟨1,λ _=>(⟨(w64 ((tg 80 T (0+y.to.toNat * 2+0))+y.length)),(w64 ((tg 80 T (0+y.to.toNat * 2+1))+(1:Int)))⟩:far)⟩:(Sl far))).uses]))):=rfl
 have hP:zmc P2 a y P3 c T4 T=(decide (0≤y.to/\y.to < (40:Int)) && cond (nv (tg 80 T (0+y.to.toNat * 2+0)) (tg 80 T (0+y.to.toNat * 2+0+1))) (P3 c T4 T) (decide (0≤y.from_/\y.from_ < (40:Int)) && (decide (0≤y.to/\y.to < (40:Int)) && (decide (0≤y.to/\y.to < (40:Int)) && (decide (zzV (⟨(tg 80 T (0+y.from_.toNat * 2+0)),(tg 80 T (0+y.from_.toNat * 2+0+1))⟩:far) (⟨1,λ _=>(⟨(w64 ((tg 80 T (0+y.to.toNat * 2+0))+y.length)),(w64 ((tg 80 T (0+y.to.toNat * 2+1))+(1:Int)))⟩:far)⟩:(Sl far))=true) && cond c (decide (0≤y.from_/\y.from_ < (40:Int)) && P3 true T4 (ts 80 T (0+y.from_.toNat * 2+0) [(zcR (⟨(tg 80 T (0+y.from_.toNat * 2+0)),(tg 80 T (0+y.from_.toNat * 2+0+1))⟩:far) (⟨1,λ _=>(⟨(w64 ((tg 80 T (0+y.to.toNat * 2+0))+y.length)),(w64 ((tg 80 T (0+y.to.toNat * 2+1))+(1:Int)))⟩:far)⟩:(Sl far))).length,(zcR (⟨(tg 80 T (0+y.from_.toNat * 2+0)),(tg 80 T (0+y.from_.toNat * 2+0+1))⟩:far) (⟨1,λ _=>(⟨(w64 ((tg 80 T (0+y.to.toNat * 2+0))+y.length)),(w64 ((tg 80 T (0+y.to.toNat * 2+1))+(1:Int)))⟩:far)⟩:(Sl far))).uses])) (decide (0≤y.from_/\y.from_ < (40:Int)) && (decide (0≤y.from_/\y.from_ < (40:Int)) && P3 (!(sm (zcR (⟨(tg 80 T (0+y.from_.toNat * 2+0)),(tg 80 T (0+y.from_.toNat * 2+0+1))⟩:far) (⟨1,λ _=>(⟨(w64 ((tg 80 T (0+y.to.toNat * 2+0))+y.length)),(w64 ((tg 80 T (0+y.to.toNat * 2+1))+(1:Int)))⟩:far)⟩:(Sl far))).length (zcR (⟨(tg 80 T (0+y.from_.toNat * 2+0)),(tg 80 T (0+y.from_.toNat * 2+0+1))⟩:far) (⟨1,λ _=>(⟨(w64 ((tg 80 T (0+y.to.toNat * 2+0))+y.length)),(w64 ((tg 80 T (0+y.to.toNat * 2+1))+(1:Int)))⟩:far)⟩:(Sl far))).uses (tg 80 T (0+y.from_.toNat * 2+0)) (tg 80 T (0+y.from_.toNat * 2+0+1)))) T4 (ts 80 T (0+y.from_.toNat * 2+0) [(zcR (⟨(tg 80 T (0+y.from_.toNat * 2+0)),(tg 80 T (0+y.from_.toNat * 2+0+1))⟩:far) (⟨1,λ _=>(⟨(w64 ((tg 80 T (0+y.to.toNat * 2+0))+y.length)),(w64 ((tg 80 T (0+y.to.toNat * 2+1))+(1:Int)))⟩:far)⟩:(Sl far))).length,(zcR (⟨(tg 80 T (0+y.from_.toNat * 2+0)),(tg 80 T (0+y.from_.toNat * 2+0+1))⟩:far) (⟨1,λ _=>(⟨(w64 ((tg 80 T (0+y.to.toNat * 2+0))+y.length)),(w64 ((tg 80 T (0+y.to.toNat * 2+1))+(1:Int)))⟩:far)⟩:(Sl far))).uses])))))))):=rfl
 rw[hS,hP]
 clear hS hP
 rw[e1,e2,e3,zeE (k:=y.to.toNat * 2) (by omega),zeE (k:=y.to.toNat * 2+1) (by omega),zeE (k:=y.from_.toNat * 2) (by omega),zeE (k:=y.from_.toNat * 2+1) (by omega)]
 rw[dqT (show 0≤y.to/\y.to < (40:Int) by omega),dqT (show 0≤y.from_/\y.from_ < (40:Int) by omega)]
 simp only[zr8,same_eq]
 cases hdu:d y.to.toNat with
 | none =>
  rw[hdu] at hu
  have hr:rlF (d,c) (edM (edQ y))=(d,c):=by
   unfold rlF edM edQ
   simp only[hdu]
  rw[hr,dqT (show (T (y.to.toNat * 2),T (y.to.toNat * 2+1))=((1000000000000:Int),(0:Int)) from hu)]
  exact⟨T,rfl,rfl,h1⟩
 | some x =>
  obtain⟨L,U,k1,k2,k3,k4,k5,k6⟩:=zi2 hE hs hi hdu
  rw[hdu] at hu k1
  rw[k1] at hu
  have hL:T (y.to.toNat * 2)=L:=(Prod.mk.inj hu).1
  have hU:T (y.to.toNat * 2+1)=U:=(Prod.mk.inj hu).2
  rw[hL,hU,dqF (show ¬ (L,U)=((1000000000000:Int),(0:Int)) from λ h=>by have:=(Prod.mk.inj h).1;omega),zbZ (x:=L+y.length) (by omega) (by omega),zbZ (x:=U+(1:Int)) (by omega) (by omega)]
  rw[(zi1 _ _).1,(zi1 _ _).2,zyA]
  have hw:x+(edM (edQ y)).w=(L+y.length) * 1048576+(U+1):=by
   show x+(y.length * 1048576+1)=_
   omega
  have hr:rlF (d,c) (edM (edQ y))=cond (ltO ((L+y.length) * 1048576+(U+1)) (d y.from_.toNat)) (zii d y.from_.toNat ((L+y.length) * 1048576+(U+1)),true) (d,c):=by
   rw[← hw]
   unfold rlF edM edQ
   simp only[hdu] <;> rfl
  have hlt:decide ((L+y.length < T (y.from_.toNat * 2))∨(L+y.length=T (y.from_.toNat * 2)/\U+1 < T (y.from_.toNat * 2+1)))=ltO ((L+y.length) * 1048576+(U+1)) (d y.from_.toNat):=by
   cases hdv:d y.from_.toNat with
   | none =>
    rw[hdv] at hv
    have hv1:T (y.from_.toNat * 2)=1000000000000:=(Prod.mk.inj hv).1
    rw[hv1]
    exact dqT (.inl (by omega))
   | some z =>
    obtain⟨L',U',m1,m2,m3,m4,m5,m6⟩:=zi2 hE hs hi hdv
    rw[hdv] at hv m1
    rw[m1] at hv
    rw[(Prod.mk.inj hv).1,(Prod.mk.inj hv).2,m2]
    exact decide_eq_decide.2 (by omega)
  simp only[hlt]
  rw[hr] at hin ⊢
  have hrw:∀ T'',Rp N T d->T''=ts 80 T (y.from_.toNat * 2) [T (y.from_.toNat * 2),T (y.from_.toNat * 2+1)]->Rp N T'' d:=λ T'' h e v hv'=>by
   rw[e,zdy (by omega),zdy (by omega),← h v hv']
   by_cases hq:v=y.from_.toNat
   ·subst hq
    rw[if_neg (by omega),if_pos rfl,if_pos rfl]
   ·rw[if_neg (by omega),if_neg (by omega),if_neg (by omega),if_neg (by omega)]
  cases hlo:ltO ((L+y.length) * 1048576+(U+1)) (d y.from_.toNat) with
  | false =>
   refine⟨ts 80 T (y.from_.toNat * 2) [T (y.from_.toNat * 2),T (y.from_.toNat * 2+1)],?_,?_,hrw _ h1 rfl⟩
   ·simp only [cond_false, decide_true]
    cases c <;> rfl
   ·simp only [cond_false, Bool.true_and, decide_true]
    cases c <;> rfl
  | true =>
   rw[hlo] at hin
   simp only[cond_true,cond_false,Bool.true_and,decide_true] at hin ⊢
   refine⟨ts 80 T (y.from_.toNat * 2) [L+y.length,U+1],?_,?_,?_⟩
   ·cases c
    ·rw [dqF]
     ·rfl
     ·intro h
      rw[← hlt] at hlo
      have:=of_decide_eq_true hlo
      have h1':=(Prod.mk.inj h).1
      have h2':=(Prod.mk.inj h).2
      omega
    ·rfl
   ·cases c
    ·rw [dqF]
     ·rfl
     ·intro h
      rw[← hlt] at hlo
      have:=of_decide_eq_true hlo
      have h1':=(Prod.mk.inj h).1
      have h2':=(Prod.mk.inj h).2
      omega
    ·rfl
   ·intro v hv'
    rw[zdy (by omega),zdy (by omega)]
    unfold zii
    by_cases hq:v=y.from_.toNat
    ·subst hq
     rw[if_neg (by omega),if_pos rfl,if_pos rfl,if_pos rfl]
     exact (zp9 (by omega) (by omega)).symm
    ·rw [if_neg (by omega), if_neg (by omega), if_neg (by omega), if_neg (by omega), if_neg hq]
     exact h1 v hv'
theorem zII (a:web){N s:Nat}(E:List Ed) (hE:EdOk E N) (hn:zbw E) (hs:s < N) (S2:Bool->Tab->Tab->Tab) (P2:Bool->Tab->Tab->Bool):∀ (l:List step),(∀ y∈l,StOk y N/\edQ y∈E)->∀ (c:Bool) (T4 T:Tab) (d:zbE),Rp N T d->Inv (E.map edM) (λ v=>v=s) d ->
  ∃ T',zmd S2 a l c T4 T=S2 (((l.map edQ).map edM).foldl rlF (d,c)).2 T4 T'/\zme P2 a l c T4 T=P2 (((l.map edQ).map edM).foldl rlF (d,c)).2 T4 T'/\Rp N T' (((l.map edQ).map edM).foldl rlF (d,c)).1:=by
 intro l
 induction l with
 | nil=>intro _ c T4 T d h1 _;exact⟨T,rfl,rfl,h1⟩
 | cons y l ih =>
  intro hl c T4 T d h1 h2
  obtain⟨hy,hm⟩:=hl y (List.mem_cons_self ..)
  obtain⟨T',k1,k2,k3⟩:=zIH a E hE hn hs S2 P2 y hy hm (zmd S2 a l) (zme P2 a l) c T4 T d h1 h2
  have h3:=zij (Src:=λ v=>v=s) (zfU hn) (s:=(d,c)) (e:=edM (edQ y)) (List.mem_map_of_mem hm) h2
  obtain⟨T'',m1,m2,m3⟩:=ih (λ z hz=>hl z (List.mem_cons_of_mem _ hz)) (rlF (d,c) (edM (edQ y))).2 T4 T' (rlF (d,c) (edM (edQ y))).1 k3 h3
  exact⟨T'',Eq.trans k1 m1,Eq.trans k2 m2,m3⟩
theorem zAA (a:web) (hnet:NetOk a.Net) (E:List Ed) (hEe:E=(Ws a).map edQ){s:Nat}(hE:EdOk E a.Net.Nodes.toNat) (hn:zbw E) (hs:s < a.Net.Nodes.toNat):∀ (m k:Nat) (T4 T:Tab) (d:zbE),Rp a.Net.Nodes.toNat T d->Inv (E.map edM) (λ v=>v=s) d->Fix (E.map edM) (rds (E.map edM) m d)->m+1 < k ->
  ∃ T',zfx a k true T4 T=true/\zfw a k true T4 T=T'/\Rp a.Net.Nodes.toNat T' (rds (E.map edM) m d):=by
 have hlen:=hnet.len
 obtain⟨q1,q2⟩:=zqc a (by omega)
 have hst:∀ y∈Ws a,StOk y a.Net.Nodes.toNat/\edQ y∈E:=λ y hy=>⟨zFz hnet hy,by rw[hEe];exact List.mem_map_of_mem hy⟩
 have one:∀ (k:Nat) (T4 T:Tab) (d:zbE),Rp a.Net.Nodes.toNat T d->Inv (E.map edM) (λ v=>v=s) d ->
   ∃ T',zfw a (k+1) true T4 T=zfw a k ((E.map edM).foldl rlF (d,false)).2 T4 T'/\zfx a (k+1) true T4 T=zfx a k ((E.map edM).foldl rlF (d,false)).2 T4 T'/\Rp a.Net.Nodes.toNat T' (rnd (E.map edM) d):=by
  intro k T4 T d h1 h2
  obtain⟨T',k1,k2,k3⟩:=zII a E hE hn hs (zfw a k) (zfx a k) (Ws a) hst false T4 T d h1 h2
  rw[← hEe] at k1 k2 k3
  refine⟨T',?_,?_,k3⟩
  ·show zmf a (zfw a k) true T4 T = _
   unfold zmf zpe
   rw[cond_true,q2];exact k1
  ·show zmg a (zfx a k) true T4 T = _
   unfold zmg zpf
   rw[cond_true,q1,q2,dqT rfl,Bool.true_and];exact k2
 have stop:∀ (k:Nat) (T4 T:Tab),zfw a (k+1) false T4 T=T/\zfx a (k+1) false T4 T=true:=λ k T4 T=>⟨rfl,rfl⟩
 intro m
 induction m with
 | zero =>
  intro k T4 T d h1 h2 h3 hk
  obtain⟨k,rfl⟩:∃ k',k=k'+1+1:=⟨k - 2,by omega⟩
  obtain⟨T',k1,k2,k3⟩:=one (k+1) T4 T d h1 h2
  have h3':Fix (E.map edM) d:=h3
  rw[zhk h3'] at k1 k2
  rw[zgK h3'] at k3
  obtain⟨j1,j2⟩:=stop k T4 T'
  exact⟨T',k2.trans j2,k1.trans j1,k3⟩
 | succ m ih =>
  intro k T4 T d h1 h2 h3 hk
  obtain⟨k,rfl⟩:∃ k',k=k'+1+1:=⟨k - 2,by omega⟩
  obtain⟨T',k1,k2,k3⟩:=one (k+1) T4 T d h1 h2
  cases hf:((E.map edM).foldl rlF (d,false)).2 with
  | false =>
   rw[hf] at k1 k2
   have hx:Fix (E.map edM) d:=zf9 hf
   obtain⟨j1,j2⟩:=stop k T4 T'
   refine⟨T',k2.trans j2,k1.trans j1,?_⟩
   rw[zgK hx] at k3
   rw[zp7 hx];exact k3
  | true =>
   rw[hf] at k1 k2
   obtain⟨T'',m1,m2,m3⟩:=ih (k+1) T4 T' (rnd (E.map edM) d) k3 (ziZ (zfU hn) (λ _ h=>h) (s:=(d,false)) h2) h3 (by omega)
   exact⟨T'',k2.trans m1,k1.trans m2,m3⟩
theorem zFC (a:web) (node:Int):∀ (m k i:Nat) (T4 T:Tab),(∀ v,v < i->T (v * 2)=1000000000000/\T (v * 2+1)=0)->i+m=40->m < k ->
  ∃ T',zhO a node k (i:Int) T4 T=zmh a node T4 T'/\zhP a node k (i:Int) T4 T=zmi a node T4 T'/\∀ v,v < 40->T' (v * 2)=1000000000000/\T' (v * 2+1)=0:=by
 intro m
 induction m with
 | zero =>
  intro k i T4 T h hi hk
  obtain⟨k,rfl⟩:∃ k',k=k'+1:=⟨k - 1,by omega⟩
  refine⟨T,?_,?_,λ v hv=>h v (by omega)⟩
  ·show zhM a node (zhO a node k) (i : Int) T4 T = _
   unfold zhM
   rw[dqF (show ¬ (i:Int) < (40:Int) by omega),cond_false]
  ·show zhN a node (zhP a node k) (i : Int) T4 T = _
   unfold zhN
   rw[dqF (show ¬ (i:Int) < (40:Int) by omega),cond_false]
 | succ m ih =>
  intro k i T4 T h hi hk
  obtain⟨k,rfl⟩:∃ k',k=k'+1:=⟨k - 1,by omega⟩
  have hw:w64 ((i:Int)+(1:Int))=((i+1:Nat):Int):=by rw[zbZ (by omega) (by omega)];omega
  obtain⟨T',k1,k2,k3⟩:=ih k (i+1) T4 (ts 80 T (i * 2) [(1000000000000:Int),(0:Int)]) (λ v hv=>by
   rw[zdy (by omega),zdy (by omega)]
   by_cases hq:v=i
   ·subst hq
    rw[if_neg (by omega),if_pos rfl,if_pos rfl];exact⟨rfl,rfl⟩
   ·rw[if_neg (by omega),if_neg (by omega),if_neg (by omega),if_neg (by omega)];exact h v (by omega)) (by omega) (by omega)
  refine⟨T',?_,?_,k3⟩
  ·rw [← k1]
   show zhM a node (zhO a node k) (i:Int) T4 T=_
   unfold zhM
   rw[dqT (show (i:Int) < (40:Int) by omega),cond_true,hw,Int.toNat_natCast,show 0+i * 2+0=i * 2 by omega]
  ·rw [← k2]
   show zhN a node (zhP a node k) (i:Int) T4 T=_
   unfold zhN
   rw[dqT (show (i:Int) < (40:Int) by omega),cond_true,dqT (show 0≤(i:Int)/\(i:Int) < (40:Int) by omega),Bool.true_and,hw,Int.toNat_natCast,show 0+i * 2+0=i * 2 by omega]
theorem zIJ (a : web) (hnet : NetOk a.Net) (hn : zbw (We a)) (node : Int) (h0 : 0 ≤ node) (h1 : node < a.Net.Nodes) :
  p75 a node=true/\Rp a.Net.Nodes.toNat (s75 a node) (dst ((We a).map edR) a.Net.Nodes.toNat node.toNat):=by
 have hn40:=hnet.n40
 have hEe:((We a).map edR)=(Ws a).map edQ:=(zFB (Ws a)).symm
 have hE:EdOk ((We a).map edR) a.Net.Nodes.toNat:=(zBZ hnet).R
 have hN:zbw ((We a).map edR):=zmI hn
 have hs:node.toNat < a.Net.Nodes.toNat:=by omega
 obtain⟨T1,a1,a2,a3⟩:=zFC a node 40 Fuel 0 (λ _=>(0:Int)) (λ _=>(0:Int)) (λ v hv=>absurd hv (Nat.not_lt_zero _)) rfl (by simp only[Fuel];omega)
 have hr:Rp a.Net.Nodes.toNat (ts 80 T1 (node.toNat * 2) [(0:Int),(0:Int)]) (zn5 node.toNat):=λ v hv=>by
  rw[zdy (by omega),zdy (by omega)]
  unfold zn5
  by_cases hq:v=node.toNat
  ·subst hq
   rw[if_neg (by omega),if_pos rfl,if_pos rfl,if_pos rfl];rfl
  ·rw[if_neg (by omega),if_neg (by omega),if_neg (by omega),if_neg (by omega),if_neg hq,(a3 v (by omega)).1,(a3 v (by omega)).2];rfl
 obtain⟨T2,b1,b2,b3⟩:=zAA a hnet ((We a).map edR) hEe hE hN hs (a.Net.Nodes.toNat - 1) Fuel (λ _=>(0:Int)) (ts 80 T1 (node.toNat * 2) [(0:Int),(0:Int)]) (zn5 node.toNat) hr (zd2 (zda node.toNat)) (zqa hE hN hs) (by simp only[Fuel];omega)
 have e:0+node.toNat * 2+0=node.toNat * 2:=by omega
 constructor
 ·show zhP a node Fuel 0 (fun _ => (0:Int)) (fun _ => (0:Int)) = true
  refine Eq.trans a2 ?_
  unfold zmi zph
  rw[dqT (show 0≤node/\node < (40:Int) by omega),Bool.true_and,e];exact b1
 ·have:s75 a node=T2:=by
   show zhO a node Fuel 0 (λ _=>(0:Int)) (λ _=>(0:Int))=T2
   refine Eq.trans a1 ?_
   unfold zmh zpg
   rw[e];exact b2
  rw[this];exact b3
end Go.Proofs
namespace Go.Proofs
open Go Go.Pm
set_option maxRecDepth 100000
set_option linter.unusedVariables false
def W (n:Net):web:=⟨n,⟨0,λ _=>none⟩⟩
abbrev En (n:Net):List Ed:=We (W n)
def fr (n:Net) (i j:Nat):Int:=zBX (dst (En n) n.Nodes.toNat i j)
theorem zIK {E:List Ed}{n s v:Nat}(hE:EdOk E n) (hn:zbw E) (hs:s < n) (hv:v < n):zBX (dst (E.map edR) n s v)=zBX (dst E n v s):=by
 refine Int.le_antisymm ?_ ?_
 ·rcases zdO (v := s) hE hn hv with ⟨_, h⟩ | ⟨c, _, h1, h2, _⟩
  ·rw [h]
   rcases zdO (v:=v) hE.R (zmI hn) hs with ⟨_,h⟩ | ⟨c,_,_,h2,_,_,_⟩ <;> omega
  ·rw[h2,← zLq c];exact zmJ hE.R (zmI hn) hs (zLr h1)
 ·rcases zdO (v := v) hE.R (zmI hn) hs with ⟨_, h⟩ | ⟨c, _, h1, h2, _⟩
  ·rw [h]
   rcases zdO (v:=s) hE hn hv with ⟨_,h⟩ | ⟨c,_,_,h2,_,_,_⟩ <;> omega
  ·obtain ⟨c0, k1, k2, _⟩ := zIB h1
   rw[h2,← k2];exact zmJ hE hn hv k1
theorem zi3 {n:Net}(hn:NetOk n) (hN:zbw (En n)) {i j:Nat}(hi:i < n.Nodes.toNat) : -1000000000000≤fr n i j/\fr n i j≤1000000000000:=by
 have hE:EdOk (En n) n.Nodes.toNat:=zBZ (a:=W n) hn
 unfold fr
 rcases zdO (v:=j) hE hN hi with ⟨_,h⟩ | ⟨c,_,_,h2,_,h3,h4⟩
 ·rw[h];omega
 ·rw[h2];omega
theorem ze4 (n:Net) (nodes:Sl Int) (hl:nodes.len≤1000) (ht:n.Ties.len≤210):p74 n nodes=true /\
    (s67 n=false->s74 n nodes=(default,2)) /\
    (NetOk n->(¬ ∀ i,i < nodes.len->0≤nodes.get i/\nodes.get i < n.Nodes)->s74 n nodes=(default,2)) /\
    (NetOk n->(∀ i,i < nodes.len->0≤nodes.get i/\nodes.get i < n.Nodes)->¬ zbw (En n)->s74 n nodes=(default,5)) /\
    (NetOk n->(∀ i,i < nodes.len->0≤nodes.get i/\nodes.get i < n.Nodes)->zbw (En n)->s74 n nodes=(W n,0)):=by
  obtain⟨a1,a2⟩:=zym n (by omega)
  unfold p74 s74
  rw[a1,dqT (show true=true from rfl),Bool.true_and]
  by_cases hs:s67 n=true
  · have hn := a2.1 hs
    have hn1:=hn.n1;have hn40:=hn.n40
    obtain⟨t1,_⟩:=zyy (W n) hn
    rw[hs]
    have hg:∀ i,i < nodes.len->(s81 (nodes.get i) (0:Int) (w64 (n.Nodes - (1:Int)))=true↔0≤nodes.get i/\nodes.get i < n.Nodes):=λ i _=>by
      rw[zn2,decide_eq_true_eq,zbZ (by omega) (by omega)];omega
    have hloop := zFt (good := fun i => s81 (nodes.get i) (0:Int) (w64 (n.Nodes - (1:Int)))) (bad := ((default : web), (2:Int))) (fin := zo2 n (s88 (W n))) (finP := true) (n := nodes.len) (lpS := zhK n nodes) (lpP := zhL n nodes)
      (λ k i hi=>by
        show zhI n nodes (zhK n nodes k) (i:Int)=_
        generalize zhK n nodes k=S
        unfold zhI zo3
        rw[dqT (show (i:Int) < (nodes.len:Int) by omega),cond_true,Int.toNat_natCast]
        cases s81 (nodes.get i) (0:Int) (w64 (n.Nodes - (1:Int))) <;> rfl)
      (λ k=>by
        show zhI n nodes (zhK n nodes k) (nodes.len:Int)=_
        unfold zhI
        rw[dqF (show ¬ (nodes.len:Int) < (nodes.len:Int) by omega),cond_false];rfl)
      (λ k i hi=>by
        show zhJ n nodes (zhL n nodes k) (i:Int)=_
        generalize zhL n nodes k=S
        unfold zhJ zo4
        rw[dqT (show (i:Int) < (nodes.len:Int) by omega),cond_true,Int.toNat_natCast,dqT (show 0≤(i:Int)/\(i:Int) < (nodes.len:Int) by omega),Bool.true_and]
        cases s81 (nodes.get i) (0:Int) (w64 (n.Nodes - (1:Int))) <;> rfl)
      (λ k=>by
        show zhJ n nodes (zhL n nodes k) (nodes.len:Int)=_
        unfold zhJ
        rw[dqF (show ¬ (nodes.len:Int) < (nodes.len:Int) by omega),cond_false,show p88 (⟨n,(⟨0,(λ _=>none)⟩:Mp)⟩:web)=true from t1];rfl)
      (by omega)
    unfold zpa zo9 zo8 zo7 zo6 zo5
    by_cases hr:∀ i,i < nodes.len->0≤nodes.get i/\nodes.get i < n.Nodes
    · obtain ⟨l1, l2⟩ := hloop.1 (fun i hi => (hg i hi).2 (hr i hi))
      rw[l1,l2]
      refine⟨rfl,λ h=>(by cases h),λ _ h=>absurd hr h,λ _ _ h=>?_,λ _ _ h=>?_⟩
      · have:s88 (W n)=true:=by
          cases ht:s88 (W n)
          · exact absurd ((zyz (W n) hn).1 ht) h
          · rfl
        rw[this];rfl
      · rw[(zyz (W n) hn).2 h];rfl
    · obtain ⟨l1, l2⟩ := hloop.2 (fun h => hr fun i hi => (hg i hi).1 (h i hi))
      rw[l1,l2]
      exact⟨rfl,λ h=>(by cases h),λ _ _=>rfl,λ _ h=>absurd h hr,λ _ h=>absurd h hr⟩
  · rw [Bool.eq_false_iff.2 hs]
    have hno:NetOk n->False:=λ h=>hs (a2.2 h)
    exact⟨rfl,λ _=>rfl,λ h=>(hno h).elim,λ h=>(hno h).elim,λ h=>(hno h).elim⟩
theorem zsV {n:Net}(ht:n.Ties.len≤210) (h:s67 n=false):p26 n=true/\s26 n=((⟨0,λ _=>default⟩:Sl Span),(2:Int)):=by
 obtain⟨w0,w1,_⟩:=ze4 n (⟨0,λ _=>default⟩:Sl Int) (by decide) ht
 unfold p26 s26
 rw[w0,w1 h]
 exact⟨rfl,rfl⟩
theorem zqe {n:Net}(ht:n.Ties.len≤210) (hn:NetOk n) (h : ¬ zbw (En n)):p26 n=true/\s26 n=((⟨0,λ _=>default⟩:Sl Span),(5:Int)):=by
 obtain⟨w0,_,_,w3,_⟩:=ze4 n (⟨0,λ _=>default⟩:Sl Int) (by decide) ht
 unfold p26 s26
 rw[w0,w3 hn (λ i hi=>absurd hi (Nat.not_lt_zero _)) h]
 exact⟨rfl,rfl⟩
theorem zIL {n:Net}(hn:NetOk n) (hN:zbw (En n)) {i:Int}(h0:0≤i) (h1:i < n.Nodes){j:Nat}(hj:j < n.Nodes.toNat):p75 (W n) i=true/\s75 (W n) i (j * 2)=fr n j i.toNat:=by
 have h40:=hn.n40
 obtain⟨a,b⟩:=zIJ (W n) hn hN i h0 h1
 refine⟨a,?_⟩
 have:=(Prod.mk.inj (b j hj)).1
 rw[this]
 exact zIK (zBZ (a:=W n) hn) hN (show i.toNat < n.Nodes.toNat by omega) hj
theorem zyB {n:Net}(hn:NetOk n) (hN:zbw (En n)) {i:Int}(h0:0≤i) (h1:i < n.Nodes){j:Nat}(hj:j < n.Nodes.toNat):p76 (W n) i=true/\s76 (W n) i (j * 2)=fr n i.toNat j:=by
 obtain⟨a,b⟩:=zIG (W n) hn hN i h0 h1
 exact⟨a,(Prod.mk.inj (b j hj)).1⟩
theorem zik {α:Type}(i:Nat) (v:α) (g:Nat->α) (j:Nat):setT i v g j=if j=i then v else g j:=by
 show (match Nat.beq j i with | true=>v | false=>g j)=_
 by_cases h:j=i
 ·rw[if_pos h,show Nat.beq j i=true from by rw[h];exact Nat.beq_refl _]
 ·rw[if_neg h,show Nat.beq j i=false from Bool.eq_false_iff.2 λ e=>h (Nat.eq_of_beq_eq_true e)]
def zB0 (n:Net) (i:Nat) (v:Sl Span):Sl Span:=⟨v.len,setT i (⟨-fr n i 0,fr n 0 i⟩:Span) v.get⟩
theorem zFD (n:Net):∀ (m i:Nat) (v:Sl Span),(∀ j,j < i->v.get j=⟨-fr n j 0,fr n 0 j⟩)->(zkC (zB0 n) m i v).len=v.len/\∀ j,j < i+m->(zkC (zB0 n) m i v).get j=⟨-fr n j 0,fr n 0 j⟩:=by
 intro m
 induction m with
 | zero=>intro i v h;exact⟨rfl,λ j hj=>h j (by omega)⟩
 | succ m ih =>
  intro i v h
  obtain⟨k1,k2⟩:=ih (i+1) (zB0 n i v) (λ j hj=>by
   show setT i _ v.get j=_
   rw[zik]
   by_cases hji:j=i
   ·rw[if_pos hji,hji]
   ·rw[if_neg hji];exact h j (by omega))
  exact⟨k1,λ j hj=>k2 j (by omega)⟩
theorem zyC {n:Net}(ht:n.Ties.len≤210) (hn:NetOk n) (hN:zbw (En n)):p26 n=true/\∃ l,s26 n=(l,0)/\l.len=n.Nodes.toNat/\∀ i,i < n.Nodes.toNat->l.get i=⟨-fr n i 0,fr n 0 i⟩:=by
  have hn1:=hn.n1;have hn40:=hn.n40
  obtain⟨w0,_,_,_,w4⟩:=ze4 n (⟨0,λ _=>default⟩:Sl Int) (by decide) ht
  have w4':=w4 hn (λ i hi=>absurd hi (Nat.not_lt_zero _)) hN
  have hT:=λ (j:Nat) (hj:j < n.Nodes.toNat)=>zIL hn hN (i:=0) (Int.le_refl _) (by omega) hj
  have hF:=λ (j:Nat) (hj:j < n.Nodes.toNat)=>zyB hn hN (i:=0) (Int.le_refl _) (by omega) hj
  have p1:=(hT 0 (by omega)).1
  have p2:=(hF 0 (by omega)).1
  have hloop := zn1 (step := zB0 n) (E := fun v => (v, (0:Int))) (EP := fun _ => true) (Inv := fun _ v => v.len = n.Nodes.toNat) (a := 0) (n := n.Nodes.toNat) (lpS := fun k v i => zgB n k i v (s75 (W n) 0) (s76 (W n) 0)) (lpP := fun k v i => zgC n k i v (s75 (W n) 0) (s76 (W n) 0))
    (λ k i v _ hi hv=>by
      show zhU n (zgB n k) (i:Int) v (s75 (W n) 0) (s76 (W n) 0)=zgB n k (w64 ((i:Int)+(1:Int))) (zB0 n i v) (s75 (W n) 0) (s76 (W n) 0)
      generalize zgB n k=S
      unfold zhU zB0
      have hb:=zi3 hn hN (i:=i) (j:=0) hi
      rw[dqT (show (i:Int) < (n.Nodes.toNat:Int) by omega),cond_true,Int.toNat_natCast,show 0+i * 2+0=i * 2 by omega,zeE (by omega),zeE (by omega),(hT i hi).2,(hF i hi).2,show (0:Int).toNat=0 from rfl,zbZ (x:=0 - fr n i 0) (by omega) (by omega),show (0:Int) - fr n i 0 = -fr n i 0 by omega])
    (λ k v=>by
      show zhU n (zgB n k) (n.Nodes.toNat:Int) v (s75 (W n) 0) (s76 (W n) 0)=_
      unfold zhU
      rw[dqF (show ¬ (n.Nodes.toNat:Int) < (n.Nodes.toNat:Int) by omega),cond_false])
    (λ k i v _ hi hv=>by
      show zhV n (zgC n k) (i:Int) v (s75 (W n) 0) (s76 (W n) 0)=zgC n k (w64 ((i:Int)+(1:Int))) (zB0 n i v) (s75 (W n) 0) (s76 (W n) 0)
      generalize zgC n k=S
      unfold zhV zB0
      have hb:=zi3 hn hN (i:=i) (j:=0) hi
      have hv':v.len=n.Nodes.toNat:=hv
      rw[dqT (show (i:Int) < (n.Nodes.toNat:Int) by omega),cond_true,Int.toNat_natCast,show 0+i * 2+0=i * 2 by omega,zeE (by omega),zeE (by omega),(hT i hi).2,(hF i hi).2,show (0:Int).toNat=0 from rfl,zbZ (x:=0 - fr n i 0) (by omega) (by omega),show (0:Int) - fr n i 0 = -fr n i 0 by omega,
        dqT (show 0≤(i:Int)/\(i:Int) < (40:Int) by omega),dqT (show 0≤(i:Int)/\(i:Int) < (v.len:Int) by omega),dqT (show i < v.len by omega)]
      rfl)
    (λ k v=>by
      show zhV n (zgC n k) (n.Nodes.toNat:Int) v (s75 (W n) 0) (s76 (W n) 0)=_
      unfold zhV
      rw[dqF (show ¬ (n.Nodes.toNat:Int) < (n.Nodes.toNat:Int) by omega),cond_false])
    (λ i v _ _ h=>h) (Nat.zero_le _) (by omega) (⟨n.Nodes.toNat,(λ _=>(⟨(0:Int),(0:Int)⟩:Span))⟩:Sl Span) rfl
  obtain⟨l1,l2⟩:=hloop
  obtain⟨f1,f2⟩:=zFD n (n.Nodes.toNat - 0) 0 (⟨n.Nodes.toNat,(λ _=>(⟨(0:Int),(0:Int)⟩:Span))⟩:Sl Span) (λ j hj=>absurd hj (Nat.not_lt_zero _))
  constructor
  · unfold p26
    rw[w0,w4']
    show (cond ((0:Int) == 0) (decide (true=true) && cond ((0:Int) != (0:Int)) true (decide (p75 (W n) 0=true) && (decide (p76 (W n) 0=true) && (decide (0≤n.Nodes/\n.Nodes=n.Nodes/\n.Nodes≤1000000) && zpm n (0:Int) (⟨n.Nodes.toNat,(λ _=>(⟨(0:Int),(0:Int)⟩:Span))⟩:Sl Span) (s75 (W n) 0) (s76 (W n) 0))))) _)=true
    rw[p1,p2,dqT (show 0≤n.Nodes/\n.Nodes=n.Nodes/\n.Nodes≤1000000 from ⟨by omega,rfl,by omega⟩)]
    exact l1
  · refine ⟨_, ?_, f1, fun i hi => f2 i (by omega)⟩
    unfold s26
    rw[w4']
    exact l2
theorem zqf {n:Net}(ht:n.Ties.len≤210){i j:Int}(h:s67 n=false):p30 n i j=true/\s30 n i j=((⟨(0:Int),(0:Int)⟩:Span),(2:Int)):=by
 obtain⟨w0,w1,_⟩:=ze4 n (⟨2,zas (zbc [(zac i),(zac j)])⟩:Sl Int) (by show 2≤1000;omega) ht
 unfold p30 s30
 rw[w0,w1 h]
 exact⟨rfl,rfl⟩
theorem zkp {n:Net}(ht:n.Ties.len≤210) (hn:NetOk n){i j:Int}(h : ¬ ((0≤i/\i < n.Nodes)/\(0≤j/\j < n.Nodes))):p30 n i j=true/\s30 n i j=((⟨(0:Int),(0:Int)⟩:Span),(2:Int)):=by
 obtain⟨w0,_,w2,_⟩:=ze4 n (⟨2,zas (zbc [(zac i),(zac j)])⟩:Sl Int) (by show 2≤1000;omega) ht
 have w2':=w2 hn (λ hk=>h ⟨hk 0 (show 0 < 2 by decide),hk 1 (show 1 < 2 by decide)⟩)
 unfold p30 s30
 rw[w0,w2']
 exact⟨rfl,rfl⟩
theorem in2 {n:Net}{i j:Int}(hi:0≤i/\i < n.Nodes) (hj:0≤j/\j < n.Nodes):∀ k,k < (⟨2,zas (zbc [(zac i),(zac j)])⟩:Sl Int).len->0≤(⟨2,zas (zbc [(zac i),(zac j)])⟩:Sl Int).get k/\(⟨2,zas (zbc [(zac i),(zac j)])⟩:Sl Int).get k < n.Nodes:=by
 intro k hk
 match k,hk with
 | 0,_=>exact hi
 | 1,_=>exact hj
theorem zn6 {n:Net}(ht:n.Ties.len≤210) (hn:NetOk n){i j:Int}(hi:0≤i/\i < n.Nodes) (hj:0≤j/\j < n.Nodes) (h : ¬ zbw (En n)):p30 n i j=true/\s30 n i j=((⟨(0:Int),(0:Int)⟩:Span),(5:Int)):=by
 obtain⟨w0,_,_,w3,_⟩:=ze4 n (⟨2,zas (zbc [(zac i),(zac j)])⟩:Sl Int) (by show 2≤1000;omega) ht
 have w3':=w3 hn (in2 hi hj) h
 unfold p30 s30
 rw[w0,w3']
 exact⟨rfl,rfl⟩
theorem zsW {n:Net}(ht:n.Ties.len≤210) (hn:NetOk n){i j:Int}(hi:0≤i/\i < n.Nodes) (hj:0≤j/\j < n.Nodes) (hN:zbw (En n)):p30 n i j=true/\s30 n i j=((⟨-fr n j.toNat i.toNat,fr n i.toNat j.toNat⟩:Span),(0:Int)):=by
 have hn40:=hn.n40
 obtain⟨w0,_,_,_,w4⟩:=ze4 n (⟨2,zas (zbc [(zac i),(zac j)])⟩:Sl Int) (by show 2≤1000;omega) ht
 have w4':=w4 hn (in2 hi hj) hN
 obtain⟨p1,hT⟩:=zIL hn hN hi.1 hi.2 (j:=j.toNat) (by omega)
 obtain⟨p2,hF⟩:=zyB hn hN hi.1 hi.2 (j:=j.toNat) (by omega)
 have hb:=zi3 hn hN (i:=j.toNat) (j:=i.toNat) (by omega)
 unfold p30 s30
 rw[w0,w4']
 constructor
 ·show (cond ((0:Int) == 0) (decide (true = true) && cond ((0:Int) != (0:Int)) true (decide (p75 (W n) i = true) && (decide (0 ≤ j ∧ j < (40 : Int)) && (decide (p76 (W n) i = true) && (decide (0 ≤ j ∧ j < (40 : Int)) && true))))) _) = true
  rw[p1,p2,dqT (show 0≤j/\j < (40:Int) by omega)];rfl
 ·show ((⟨(w64 (0 - (tg 80 (s75 (W n) i) (0 + j.toNat * 2 + 0)))), (tg 80 (s76 (W n) i) (0 + j.toNat * 2 + 0))⟩ : Span), (0:Int)) = _
  rw[show 0+j.toNat * 2+0=j.toNat * 2 by omega,zeE (by omega),zeE (by omega),hT,hF,zbZ (by omega) (by omega),show (0:Int) - fr n j.toNat i.toNat = -fr n j.toNat i.toNat by omega]
end Go.Proofs
namespace Go.Proofs
open Go Go.Pm
set_option maxRecDepth 100000
set_option linter.unusedVariables false
attribute [local irreducible] Go.Pm.vcFun Go.Pm.vc Go.Pm.vcIter
section
variable {K:List PA->Prop}{n:Net}{iv0:Int}{zMy:(Sl Tie)}{zKI:Nat->List PV}{X0:St->Prop}{P0:Int->(Sl Tie)->Bool}{S0:Int->(Sl Tie)->Net}
end
end Go.Proofs
namespace Go.Proofs
open Go Go.Pm
set_option maxRecDepth 100000
set_option linter.unusedVariables false
theorem zyD {α:Type}(n:Nat) (g:Nat->α) (x:α) (j:Nat):zf2 n g (λ _=>x) j=if n≤j then x else g j:=by
 unfold zf2
 by_cases h:n≤j
 ·rw[if_pos h,show Nat.ble n j=true from Nat.ble_eq_true_of_le h]
 ·rw[if_neg h,show Nat.ble n j=false from Bool.eq_false_iff.2 λ k=>h (Nat.le_of_ble_eq_true k)]
def turn (t:Tie):Tie:=⟨t.From,t.To,w64 (0 - t.High),w64 (0 - t.Low)⟩
structure IsTurn (n m : Net) : Prop where
  nodes:m.Nodes=n.Nodes
  len:m.Ties.len=n.Ties.len
  tie:∀ j,j < n.Ties.len->m.Ties.get j=turn (n.Ties.get j)
end Go.Proofs
namespace Go.Proofs
open Go Go.Pm
set_option maxRecDepth 100000
set_option linter.unusedVariables false
attribute [local irreducible] Go.Pm.vcFun Go.Pm.vc Go.Pm.vcIter
section
variable {K:List PA->Prop}{n:Net}{zaa:Int}{zKN:(Sl Use)}{zMz:Bool}{zM6:Int}{zJc:Int}{zMA:Int}{X2:St->Prop}{P2:Int->Int->Int->Bool}{S2:Int->Int->Int->(Int×Int×Bool)}{zMB:Int}{zAB:Int}{zMC:Int}{zMD:Bool}{zME:Int}{zMF:Bool}{zMG:Int}{zAC:Int}{zMH:Int}{zMI:Int}{zMJ:Bool}{zM7:Int}{zJd:Int}{zM8:Bool}{zMK:Int}{zML:Int}{zMM:Bool}{zMN:Int}{zMO:Int}{zMP:Int}{zMQ:Int}{zMR:Int}{zMS:Int}{zMT:Bool}{zMU:Int}{zMV:Int}{zMW:Int}{zmr:Int}{zbF:Int}{zM9:Bool}{zMX:Int}{zMY:Int}{zMZ:Bool}{zM0:Int}{zM1:Int}{zM2:Int}
end
end Go.Proofs
namespace Go.Proofs
open Go Go.Pm
set_option maxRecDepth 100000
set_option linter.unusedVariables false
def zKJ (n:Net) (u:Use) (a:Int):Option (Int×Int) :=
  if 0≤u.Tie/\u.Tie < n.Ties.len then
    (cond u.Back
      (if (n.Ties.get u.Tie.toNat).Low ≠ -1000000000000/\(n.Ties.get u.Tie.toNat).To=a then some ((n.Ties.get u.Tie.toNat).From,w64 (0 - (n.Ties.get u.Tie.toNat).Low)) else none)
      (if (n.Ties.get u.Tie.toNat).High ≠ 1000000000000/\(n.Ties.get u.Tie.toNat).From=a then some ((n.Ties.get u.Tie.toNat).To,(n.Ties.get u.Tie.toNat).High) else none))
  else none
def pvR (n : Net) (c : Sl Use) : Nat → Nat → Int → Int → Int × Int × Bool
  | 0,_,a,l=>(a,l,true)
  | m+1,i,a,l=>match zKJ n (c.get i) a with
    | none=>(0,0,false)
    | some (b,w)=>pvR n c m (i+1) b (w64 (l+w))
def pv (n:Net) (a:Int) (c:Sl Use):Int×Int×Bool:=if (0≤a/\a < n.Nodes)/\c.len≤40 then pvR n c c.len 0 a 0 else (0,0,false)
end Go.Proofs
namespace Go.Proofs
open Go Go.Pm
set_option maxRecDepth 100000
set_option linter.unusedVariables false
attribute [local irreducible] Go.Pm.vcFun Go.Pm.vc Go.Pm.vcIter
section
variable {K:List PA->Prop}{n:Net}{zaa:Int}{zKN:(Sl Use)}{zM3:Bool}{lv2:(Sl Step)}{zM4:Nat->List PV}{zMB:Int}{zAB:Int}{iv3:Int}{X3:St->Prop}{P3:Int->Int->Int->Bool}{S3:Int->Int->Int->(Int×Int×Bool)}{zMG:Int}{zAC:Int}{iv4:Int}{zM5:Bool}{kv4:Int}{X4:St->Prop}{P4:Int->Int->Int->Bool->Int->Bool}{S4:Int->Int->Int->Bool->Int->(Int×Int×Bool)}
end
end Go.Proofs
