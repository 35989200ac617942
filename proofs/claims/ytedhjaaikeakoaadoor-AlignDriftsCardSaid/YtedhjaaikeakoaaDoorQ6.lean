/- Part 6 of what the proof rests on: a machine that runs functions of the program on pure values, proved sound; the functions that the law reaches, and what they compute. -/
import Derived.Test.YtedhjaaikeakoaaDoorQ5
import Derived.Test.YtedhjaaikeakoaaDoorTie
import Derived.ProofKit
import Derived.LaidMore
import Derived.OpenShut
import Derived.Stop.Joined
import Derived.Test.YtedhjaaikeakoaaDoorCards
import Derived.WalkKit
set_option linter.all false
namespace Go.Proofs
open Go Go.Pm
set_option maxRecDepth 100000
set_option linter.unusedVariables false
attribute [local irreducible] Go.Pm.vcFun Go.Pm.vc Go.Pm.vcIter
abbrev T32:Tabs:=Tabs.nil
theorem zOZ:TabsOk Tryd.prog T32:=TabsOk.nil
abbrev G32:Ctrs:=csm T32 (λ _ _=>[]) (λ _=>false)
def zIA:Ann:=⟨26,[(0,zK [0,1] []),(1,zK [0,1,10] []),(2,zK [4] []),(3,zK [0,1,5] []),(4,zK [0,1,5,14] []),(5,zK [0,1,5] []),(6,zK [0,1,5,25] []),(7,zK [4] []),(8,zK [4] [])],
 [(4,zK [0,1,5] [])],
 [(3,zK [0,1] [])],
 [],[]⟩
abbrev R32:=Bool
abbrev e32 (r:R32):List PA:=[.one (.bool r)]
@[irreducible] def z32:=ptF Tryd.prog G32 zIA Tryd.f32
def zFS (a:(Sl Span)) (b:(Sl Span)) (iv1:Int):St:=⟨[(0,zS zbc 2 a),(1,zS zbc 2 b),(5,zI iv1)],[],[]⟩
abbrev zML (K:List PA->Prop) (a:(Sl Span)) (b:(Sl Span)) (X:St->Prop) (P:Int->Bool) (S:Int->Bool):Prop:=∀ ⦃iv1:Int⦄,P iv1=true->K (e32 (S iv1))->X (zFS a b iv1)
section
variable {K:List PA->Prop}{a:(Sl Span)}{b:(Sl Span)}{iv1:Int}{X1:St->Prop}{P1:Int->Bool}{S1:Int->Bool}
def zAN (a:(Sl Span)) (b:(Sl Span)) (S1:Int->Bool) (iv1:Int):Bool :=
  (cond (decide (iv1 < (a.len : Int)))
 (cond (!(match ((a.get iv1.toNat).Low == (b.get iv1.toNat).Low) with | true => (match ((a.get iv1.toNat).High == (b.get iv1.toNat).High) with | true => true | false => false) | false => false))
 false
 (S1 (w64 (iv1+(1:Int)))))
 true)
def zAO (a:(Sl Span)) (b:(Sl Span)) (P1:Int->Bool) (iv1:Int):Bool :=
  (cond (decide (iv1 < (a.len : Int)))
 (decide ((0≤iv1/\iv1 < (a.len:Int))) &&
 (decide ((0≤iv1/\iv1 < (b.len:Int))) &&
 (cond (!(match ((a.get iv1.toNat).Low == (b.get iv1.toNat).Low) with | true => (match ((a.get iv1.toNat).High == (b.get iv1.toNat).High) with | true => true | false => false) | false => false))
 true
 (P1 (w64 (iv1+(1:Int)))))))
 true)
def zAP (a:(Sl Span)) (b:(Sl Span)):Nat->Int->Bool:=lpO (λ _=>default) (zAN a b)
def zAQ (a:(Sl Span)) (b:(Sl Span)):Nat->Int->Bool:=lpO (λ _=>false) (zAO a b)
def zAR (a:(Sl Span)) (b:(Sl Span)) (iv1:Int):Bool:=zAP a b Fuel iv1
def zAS (a:(Sl Span)) (b:(Sl Span)) (iv1:Int):Bool:=zAQ a b Fuel iv1
theorem zIB (hs:zAS a b iv1=true) (hk:K (e32 (zAR a b iv1))):z32 K [1,1,0,1,0] [] (zFS a b iv1) :=
  zl (λ X=>z32 K [1,1,0,1,0,0] [X]) (by kernel_rfl) λ X1 hX =>
  (show ∀ k, zML K a b X1 (zAQ a b k) (zAP a b k) from zdU _ _ (zAO a b) (zAN a b) (zML K a b X1)
 (by intro _ hs;exact absurd hs Bool.false_ne_true)
 (by intro P1 S1 hX1 iv1 hs hk;exact hX _ (zaR (by kernel_rfl) (zc hs hk (λ hs hk=>(zaL hs λ hc hs=>And.intro hc (zaL hs λ hc hs=>And.intro hc (zc hs hk (λ hs hk=>hk) (λ hs hk=>(hX1 hs hk)))))) (λ hs hk=>hk))))) _ hs hk
def zAT (a:(Sl Span)) (b:(Sl Span)):Bool :=
  (zAR a b (0:Int))
def zAU (a:(Sl Span)) (b:(Sl Span)):Bool :=
  (zAS a b (0:Int))
theorem zIC (hs:zAU a b=true) (hk:K (e32 (zAT a b))):z32 K [1,1] [] ⟨[(0,zS zbc 2 a),(1,zS zbc 2 b)],[],[]⟩:=zaR (by kernel_rfl) (zIB hs hk)
def s32 (a:(Sl Span)) (b:(Sl Span)):Bool :=
  (cond ((a.len : Int) != (b.len : Int))
 false
 (zAT a b))
def p32 (a:(Sl Span)) (b:(Sl Span)):Bool :=
  (cond ((a.len : Int) != (b.len : Int))
 true
 (zAU a b))
end
theorem q32 (a:(Sl Span)) (b:(Sl Span)) (K:List PA->Prop) (hs:p32 a b=true) (hk:K (e32 (s32 a b))):vcFun Tryd.prog G32 zIA 32 [.one (.sl a.len 2 (λ i=>zbc (a.get i))),.one (.sl b.len 2 (λ i=>zbc (b.get i)))] K :=
  zaR (by kernel_rfl) (zc hs hk (λ hs hk=>hk) (λ hs hk=>(zIC hs hk)))
def zID : List PA → COut
  | [.one (.sl zdl ziz zdm),.one (.sl zcz zfx zcw)]=>.det (IsE zbc 2 ziz zdm/\IsE zbc 2 zfx zcw/\p32 (⟨zdl,zgj zdm⟩:(Sl Span)) (⟨zcz,zgj zcw⟩:(Sl Span))=true) [.one (.bool (s32 (⟨zdl,zgj zdm⟩:(Sl Span)) (⟨zcz,zgj zcw⟩:(Sl Span))))]
  | _=>.no
theorem zMM:zaw Tryd.prog 32:=⟨_,rfl,rfl,by kernel_rfl⟩
theorem ok32:Ok Tryd.prog 32 zID:=zbv zOZ zMM λ args K h=>by
  unfold zID at h
  split at h
  · rename_i zdl ziz zdm zcz zfx zcw
    obtain⟨⟨⟨rfl,zfz,rfl⟩,⟨rfl,zdV,rfl⟩,hs⟩,hk⟩:=h
    try rw[zfu zfz] at hs
    try rw[zfu zfz] at hk
    try rw[zfu zdV] at hs
    try rw[zfu zdV] at hk
    exact⟨(λ _ _=>[]),(λ _=>false),zIA,q32 (⟨zdl,zfz⟩:(Sl Span)) (⟨zcz,zdV⟩:(Sl Span)) K hs hk⟩
  · exact h.elim
abbrev T83:Tabs:=((Tabs.nil.addF 75 zyZ).addF 76 zy4)
theorem zO0:TabsOk Tryd.prog T83:=((TabsOk.nil.addF zOy).addF zOA)
abbrev G83:Ctrs:=csm T83 (λ _ _=>[]) (λ _=>false)
def zIE:Ann:=⟨31,[(0,zK [0] []),(1,zK [0,3,4] [3,4]),(2,zK [3,4,14,15] [3,4]),(3,zK [3,4,14,15,16] [3,4]),(4,zK [3,4,5,14,15] [3,4]),(5,zK [3,4,14,15,29] [3,4]),(6,zK [2] []),(7,zK [3,4,14,15] [3,4]),(8,zK [2] [])],
 [(3,zK [3,4,14,15] [3,4])],
 [(2,zK [0,3,4] [3,4])],
 [],[]⟩
abbrev R83:=Bool
abbrev e83 (r:R83):List PA:=[.one (.bool r)]
@[irreducible] def z83:=ptF Tryd.prog G83 zIE Tryd.f83
def zFT (w:web) (zcT:Int) (tot1:Tab) (fromt1:Tab):St:=⟨[(3,zp 3 0),(4,zp 4 0),(14,zI w.Net.Nodes),(15,zI zcT)],[(3,.box 116 (zm (zau tot1))),(4,.box 116 (zm (zau fromt1)))],[]⟩
abbrev zMN (K:List PA->Prop) (w:web) (X:St->Prop) (P:Int->Tab->Tab->Bool) (S:Int->Tab->Tab->Bool):Prop:=∀ ⦃zcT:Int⦄ ⦃tot1:Tab⦄ ⦃fromt1:Tab⦄,P zcT tot1 fromt1=true->K (e83 (S zcT tot1 fromt1))->X (zFT w zcT tot1 fromt1)
section
variable {K:List PA->Prop}{w:web}{tot0:Tab}{fromt0:Tab}{zcT:Int}{tot1:Tab}{fromt1:Tab}{X1:St->Prop}{P1:Int->Tab->Tab->Bool}{S1:Int->Tab->Tab->Bool}
def zAV (w:web) (S1:Int->Tab->Tab->Bool) (zcT:Int) (tot1:Tab) (fromt1:Tab):Bool :=
  (cond (decide (zcT < w.Net.Nodes))
 (cond (match ((tg 80 tot1 (0 + zcT.toNat * 2 + 0)) == (1000000000000:Int)) with | true => (match ((tg 80 tot1 (0 + zcT.toNat * 2 + 0 + 1)) == (0:Int)) with | true => true | false => false) | false => false)
 false
 (cond (match ((tg 80 fromt1 (0 + zcT.toNat * 2 + 0)) == (1000000000000:Int)) with | true => (match ((tg 80 fromt1 (0 + zcT.toNat * 2 + 0 + 1)) == (0:Int)) with | true => true | false => false) | false => false)
 false
 (S1 (w64 (zcT+(1:Int))) tot1 fromt1)))
 true)
def zAW (w:web) (P1:Int->Tab->Tab->Bool) (zcT:Int) (tot1:Tab) (fromt1:Tab):Bool :=
  (cond (decide (zcT < w.Net.Nodes))
 (decide ((0≤zcT/\zcT < (40:Int))) &&
 (cond (match ((tg 80 tot1 (0 + zcT.toNat * 2 + 0)) == (1000000000000:Int)) with | true => (match ((tg 80 tot1 (0 + zcT.toNat * 2 + 0 + 1)) == (0:Int)) with | true => true | false => false) | false => false)
 true
 (decide ((0≤zcT/\zcT < (40:Int))) &&
 (cond (match ((tg 80 fromt1 (0 + zcT.toNat * 2 + 0)) == (1000000000000:Int)) with | true => (match ((tg 80 fromt1 (0 + zcT.toNat * 2 + 0 + 1)) == (0:Int)) with | true => true | false => false) | false => false)
 true
 (P1 (w64 (zcT+(1:Int))) tot1 fromt1)))))
 true)
def zAX (w:web):Nat->Int->Tab->Tab->Bool:=lpO (λ _ _ _=>default) (zAV w)
def zAY (w:web):Nat->Int->Tab->Tab->Bool:=lpO (λ _ _ _=>false) (zAW w)
def zAZ (w:web) (zcT:Int) (tot1:Tab) (fromt1:Tab):Bool:=zAX w Fuel zcT tot1 fromt1
def zA0 (w:web) (zcT:Int) (tot1:Tab) (fromt1:Tab):Bool:=zAY w Fuel zcT tot1 fromt1
theorem zIF (hs:zA0 w zcT tot1 fromt1=true) (hk:K (e83 (zAZ w zcT tot1 fromt1))):z83 K [1,1,0,1,0] [] (zFT w zcT tot1 fromt1) :=
  zl (λ X=>z83 K [1,1,0,1,0,0] [X]) (by kernel_rfl) λ X1 hX =>
  (show ∀ k, zMN K w X1 (zAY w k) (zAX w k) from zdU _ _ (zAW w) (zAV w) (zMN K w X1)
 (by intro _ _ _ hs;exact absurd hs Bool.false_ne_true)
 (by intro P1 S1 hX1 zcT tot1 fromt1 hs hk;exact hX _ (zaR (by kernel_rfl) (zc hs hk (λ hs hk=>(zaL hs λ hc hs=>And.intro hc (zc hs hk (λ hs hk=>hk) (λ hs hk=>(zaL hs λ hc hs=>And.intro hc (zc hs hk (λ hs hk=>hk) (λ hs hk=>(hX1 hs hk)))))))) (λ hs hk=>hk))))) _ hs hk
def zA1 (w:web) (tot0:Tab) (fromt0:Tab):Bool :=
  (zAZ w (0:Int) tot0 fromt0)
def zA2 (w:web) (tot0:Tab) (fromt0:Tab):Bool :=
  (zA0 w (0:Int) tot0 fromt0)
theorem zIG (hs:zA2 w tot0 fromt0=true) (hk:K (e83 (zA1 w tot0 fromt0))):z83 K [1,1] [] ⟨[(0,zP (.fp (zaF w) 0)),(3,zp 3 0),(4,zp 4 0)],[(3,.box 116 (zm (zau tot0))),(4,.box 116 (zm (zau fromt0)))],[]⟩:=zaR (by kernel_rfl) (zIF hs hk)
def s83 (w:web):Bool :=
  (zA1 w (s75 w (0:Int)) (s76 w (0:Int)))
def p83 (w:web):Bool :=
  (decide ((p75 w (0:Int)=true)) &&
 (decide ((p76 w (0:Int)=true)) &&
 (zA2 w (s75 w (0:Int)) (s76 w (0:Int)))))
end
theorem q83 (w:web) (K:List PA->Prop) (hs:p83 w=true) (hk:K (e83 (s83 w))):vcFun Tryd.prog G83 zIE 83 [.one (.fp (zaF w) 0)] K :=
  zaR (by kernel_rfl) (zaL hs λ hc hs=>And.intro (And.intro (zE zai 4 w.Net.Ties.get) (And.intro (rfl:((false,1,false,[none]):MQ)=(false,1,false,[none])) hc)) (zaL hs λ hc hs=>And.intro (And.intro (zE zai 4 w.Net.Ties.get) (And.intro (rfl:((false,1,false,[none]):MQ)=(false,1,false,[none])) hc)) (zIG hs hk)))
def zIH : List PA → COut
  | [.one (.fp [.int .i64 zas,.sl zam zaK zan,.fm zbw zaN zaO] 0)]=>.det (IsE zai 4 zaK zan/\zbw=(false,1,false,[none])/\p83 (⟨(⟨zas,(⟨zam,zaq zan⟩:(Sl Tie))⟩:Net),(⟨zaN,zaO⟩:Mp)⟩:web)=true) [.one (.bool (s83 (⟨(⟨zas,(⟨zam,zaq zan⟩:(Sl Tie))⟩:Net),(⟨zaN,zaO⟩:Mp)⟩:web)))]
  | _=>.no
theorem zMO:zaw Tryd.prog 83:=⟨_,rfl,rfl,by kernel_rfl⟩
theorem zQW:Ok Tryd.prog 83 zIH:=zbv zO0 zMO λ args K h=>by
  unfold zIH at h
  split at h
  · rename_i zas zam zaK zan zbw zaN zaO
    obtain⟨⟨⟨rfl,zaC,rfl⟩,rfl,hs⟩,hk⟩:=h
    try rw[zat zaC] at hs
    try rw[zat zaC] at hk
    exact⟨(λ _ _=>[]),(λ _=>false),zIE,q83 (⟨(⟨zas,(⟨zam,zaC⟩:(Sl Tie))⟩:Net),(⟨zaN,zaO⟩:Mp)⟩:web) K hs hk⟩
  · exact h.elim
abbrev T87:Tabs:=Tabs.nil
theorem zO1:TabsOk Tryd.prog T87:=TabsOk.nil
abbrev G87:Ctrs:=csm T87 (λ _ _=>[]) (λ _=>false)
def zMP:Ann:=⟨12,[(0,zK [0,1] []),(1,zK [3] [])],
 [],
 [],
 [],[]⟩
abbrev R87:=Int
abbrev e87 (r:R87):List PA:=[.one (.int .i64 r)]
section
variable {K:List PA->Prop}{c0:Tab}{i_a0:Int}
def s87 (c0:Tab) (i_a0:Int):Int :=
  (w64 ((tg 80 c0 (0+i_a0.toNat * 2+0)) - (tg 80 c0 (0+0 * 2+0))))
def p87 (c0:Tab) (i_a0:Int):Bool :=
  (decide ((0≤i_a0/\i_a0 < (40:Int))) &&
 (decide ((0≤(0:Int)/\(0:Int) < (40:Int))) &&
 true))
end
theorem q87 (c0:Tab) (i_a0:Int) (K:List PA->Prop) (hs:p87 c0 i_a0=true) (hk:K (e87 (s87 c0 i_a0))):vcFun Tryd.prog G87 zMP 87 [.one (.int .i64 i_a0),.one (.fp (zau c0) 0)] K :=
  zaR (by kernel_rfl) (zaL hs λ hc hs=>And.intro hc (zaL hs λ hc hs=>And.intro hc hk))
def zII : List PA → COut
  | [.one (.int .i64 a0),.one (.fp c0_t 0)]=>.det (c0_t=zau (zba c0_t)/\p87 (zba c0_t) a0=true) [.one (.int .i64 (s87 (zba c0_t) a0))]
  | _=>.no
theorem zMQ:zaw Tryd.prog 87:=⟨_,rfl,rfl,by kernel_rfl⟩
theorem zQX:Ok Tryd.prog 87 zII:=zbv zO1 zMQ λ args K h=>by
  unfold zII at h
  split at h
  · rename_i a0 c0_t
    obtain⟨⟨hT_c0,hs⟩,hk⟩:=h
    exact⟨(λ _ _=>[]),(λ _=>false),zMP,(by have hq:=q87 (zba c0_t) a0 K hs hk;rw[← hT_c0] at hq;exact hq)⟩
  · exact h.elim
abbrev T84:Tabs:=(Tabs.nil.addF 87 zII)
theorem zO2:TabsOk Tryd.prog T84:=(TabsOk.nil.addF zQX)
abbrev G84:Ctrs:=csm T84 (λ _ _=>[]) (λ _=>false)
def zIJ:Ann:=⟨26,[(0,zK [0,1] []),(1,zK [1,5] [12]),(2,zK [1,5,14,15] [12]),(3,zK [1,5,14,15,16] [12]),(4,zK [1,5,6,14,15] [12]),(5,zK [1,5,14,15] [12]),(6,zK [1,5,14,15] [12]),(7,zK [4] [12])],
 [(3,zK [1,5,14,15] [12])],
 [],
 [],[]⟩
abbrev R84:=(Sl Int)
abbrev e84 (r:R84):List PA:=[.one (.sl r.len 1 (λ i=>enc_3 (r.get i)))]
@[irreducible] def z84:=ptF Tryd.prog G84 zIJ Tryd.f84
def zFU (c0:Tab) (w:web) (zbj:Int) (zdI:(Sl Int)) (zgE:Nat->List PV):St:=⟨[(1,zP (.fn 87 [] [.fp (zau c0) 0])),(5,zv 12),(14,zI (w.Net.Nodes.toNat:Int)),(15,zI zbj)],[(12,.vec 3 1 8 zdI.len zgE)],[]⟩
abbrev zMR (K:List PA->Prop) (c0:Tab) (w:web) (X:St->Prop) (P:Int->(Sl Int)->Bool) (S:Int->(Sl Int)->(Sl Int)):Prop:=∀ ⦃zbj:Int⦄ ⦃zdI:(Sl Int)⦄ ⦃zgE:Nat->List PV⦄,P zbj zdI=true->K (e84 (S zbj zdI))->zgE=zg enc_3 zdI->X (zFU c0 w zbj zdI zgE)
section
variable {K:List PA->Prop}{c0:Tab}{w:web}{zbj:Int}{zdI:(Sl Int)}{zgE:Nat->List PV}{X0:St->Prop}{P0:Int->(Sl Int)->Bool}{S0:Int->(Sl Int)->(Sl Int)}
def zA3 (c0:Tab) (w:web) (S0:Int->(Sl Int)->(Sl Int)) (zbj:Int) (zdI:(Sl Int)):(Sl Int) :=
  (cond (decide (zbj < (w.Net.Nodes.toNat : Int)))
 (S0 (w64 (zbj+(1:Int))) (⟨zdI.len,(setT zbj.toNat (s87 (zba (zau c0)) zbj) zdI.get)⟩:Sl Int))
 zdI)
def zA4 (c0:Tab) (w:web) (P0:Int->(Sl Int)->Bool) (zbj:Int) (zdI:(Sl Int)):Bool :=
  (cond (decide (zbj < (w.Net.Nodes.toNat : Int)))
 (decide ((p87 (zba (zau c0)) zbj=true)) &&
 (decide ((0≤zbj/\zbj < (zdI.len:Int))) &&
 (decide ((zbj.toNat < zdI.len)) &&
 (P0 (w64 (zbj+(1:Int))) (⟨zdI.len,(setT zbj.toNat (s87 (zba (zau c0)) zbj) zdI.get)⟩:Sl Int)))))
 true)
def zA5 (c0:Tab) (w:web):Nat->Int->(Sl Int)->(Sl Int):=lpO (λ _ _=>default) (zA3 c0 w)
def zA6 (c0:Tab) (w:web):Nat->Int->(Sl Int)->Bool:=lpO (λ _ _=>false) (zA4 c0 w)
def zA7 (c0:Tab) (w:web) (zbj:Int) (zdI:(Sl Int)):(Sl Int):=zA5 c0 w Fuel zbj zdI
def zA8 (c0:Tab) (w:web) (zbj:Int) (zdI:(Sl Int)):Bool:=zA6 c0 w Fuel zbj zdI
theorem zIK (hs:zA8 c0 w zbj zdI=true) (hk:K (e84 (zA7 c0 w zbj zdI))) (zs3:zgE=zg enc_3 zdI):z84 K [1,1,0,1,0] [] (zFU c0 w zbj zdI zgE) :=
  zl (λ X=>z84 K [1,1,0,1,0,0] [X]) (by kernel_rfl) λ X0 hX =>
  (show ∀ k, zMR K c0 w X0 (zA6 c0 w k) (zA5 c0 w k) from zdU _ _ (zA4 c0 w) (zA3 c0 w) (zMR K c0 w X0)
 (by intro _ _ _ hs;exact absurd hs Bool.false_ne_true)
 (by intro P0 S0 hX0 zbj zdI zgE hs hk zs3;subst zs3;exact hX _ (zaR (by kernel_rfl) (zc hs hk (λ hs hk=>(zaL hs λ hc hs=>And.intro (And.intro (zof:zau c0=zau (zba (zau c0))) hc) (zaL hs λ hc hs=>And.intro hc (zaL hs λ hc hs=>And.intro hc (hX0 hs hk (zl1 (enc:=enc_3) (i:=zbj.toNat) (k:=0) (f:=zdI.get) (new:=(enc_3 (s87 (zba (zau c0)) zbj))) (v:=(s87 (zba (zau c0)) zbj)) rfl rfl)))))) (λ hs hk=>hk))))) _ hs hk zs3
def s84 (c0:Tab) (w:web):(Sl Int) :=
  (zA7 c0 w (0:Int) (⟨w.Net.Nodes.toNat,(λ _=>(0:Int))⟩:Sl Int))
def p84 (c0:Tab) (w:web):Bool :=
  (decide ((0≤w.Net.Nodes/\w.Net.Nodes=w.Net.Nodes/\w.Net.Nodes≤1000000)) &&
 (zA8 c0 w (0:Int) (⟨w.Net.Nodes.toNat,(λ _=>(0:Int))⟩:Sl Int)))
end
theorem q84 (c0:Tab) (w:web) (K:List PA->Prop) (hs:p84 c0 w=true) (hk:K (e84 (s84 c0 w))):vcFun Tryd.prog G84 zIJ 84 [.one (.fp (zaF w) 0),.one (.fn 87 [] [.fp (zau c0) 0])] K :=
  zaR (by kernel_rfl) (zaL hs λ hc hs=>And.intro hc (zIK hs hk rfl))
def zIL : List PA → COut
  | [.one (.fp [.int .i64 zas,.sl zam zaK zan,.fm zbw zaN zaO] 0),.one (.fn 87 [] [.fp c0_t 0])]=>.det (IsE zai 4 zaK zan/\zbw=(false,1,false,[none])/\c0_t=zau (zba c0_t)/\p84 (zba c0_t) (⟨(⟨zas,(⟨zam,zaq zan⟩:(Sl Tie))⟩:Net),(⟨zaN,zaO⟩:Mp)⟩:web)=true) [.one (.sl ((s84 (zba c0_t) (⟨(⟨zas,(⟨zam,zaq zan⟩:(Sl Tie))⟩:Net),(⟨zaN,zaO⟩:Mp)⟩:web)).len) 1 (λ i=>enc_3 ((s84 (zba c0_t) (⟨(⟨zas,(⟨zam,zaq zan⟩:(Sl Tie))⟩:Net),(⟨zaN,zaO⟩:Mp)⟩:web)).get i)))]
  | _=>.no
theorem zMS:zaw Tryd.prog 84:=⟨_,rfl,rfl,by kernel_rfl⟩
theorem zQY:Ok Tryd.prog 84 zIL:=zbv zO2 zMS λ args K h=>by
  unfold zIL at h
  split at h
  · rename_i zas zam zaK zan zbw zaN zaO c0_t
    obtain⟨⟨⟨rfl,zaC,rfl⟩,rfl,hT_c0,hs⟩,hk⟩:=h
    try rw[zat zaC] at hs
    try rw[zat zaC] at hk
    exact⟨(λ _ _=>[]),(λ _=>false),zIJ,(by have hq:=q84 (zba c0_t) (⟨(⟨zas,(⟨zam,zaC⟩:(Sl Tie))⟩:Net),(⟨zaN,zaO⟩:Mp)⟩:web) K hs hk;rw[← hT_c0] at hq;exact hq)⟩
  · exact h.elim
abbrev T45:Tabs:=((((Tabs.nil.addF 74 zyQ).addF 76 zy4).addF 83 zIH).addF 84 zIL)
theorem zO3:TabsOk Tryd.prog T45:=((((TabsOk.nil.addF zOv).addF zOA).addF zQW).addF zQY)
abbrev G45:Ctrs:=csm T45 (λ _ _=>[]) (λ _=>false)
def zMT:Ann:=⟨31,[(0,zK [1,2,3] [3]),(1,zK [1,8,9] []),(2,zK [1,8,9,20] []),(3,zK [6,7] []),(4,zK [1,8,24] []),(5,zK [6,7] []),(6,zK [8,10] [10]),(7,zK [6,7] [])],
 [],
 [],
 [],[]⟩
abbrev R45:=((Sl Int)×Int)
abbrev e45 (r:R45):List PA:=[.one (.sl r.1.len 1 (λ i=>enc_3 (r.1.get i))),.one (.int .i64 r.2)]
section
variable {K:List PA->Prop}{n:Net}{zah:Int}{to:Int}
def s45 (n:Net) (zah:Int) (to:Int):((Sl Int)×Int) :=
  (cond ((s74 n (⟨2, zar (zbE [(enc_3 zah), (enc_3 to)])⟩ : (Sl Int))).2 == 0)
 (cond ((0:Int) != (0:Int))
 ((⟨0,λ _=>default⟩:(Sl Int)),(0:Int))
 (cond (!(s83 (⟨(s74 n (⟨2, zar (zbE [(enc_3 zah), (enc_3 to)])⟩ : (Sl Int))).1.Net, ((s74 n (⟨2, zar (zbE [(enc_3 zah), (enc_3 to)])⟩ : (Sl Int))).1.out)⟩ : web)))
 ((⟨0,λ _=>default⟩:(Sl Int)),(6:Int))
 ((s84 (zba (zau (s76 (⟨(s74 n (⟨2,zar (zbE [(enc_3 zah),(enc_3 to)])⟩:(Sl Int))).1.Net,((s74 n (⟨2,zar (zbE [(enc_3 zah),(enc_3 to)])⟩:(Sl Int))).1.out)⟩:web) zah))) (⟨(s74 n (⟨2,zar (zbE [(enc_3 zah),(enc_3 to)])⟩:(Sl Int))).1.Net,((s74 n (⟨2,zar (zbE [(enc_3 zah),(enc_3 to)])⟩:(Sl Int))).1.out)⟩:web)),(0:Int))))
 (cond ((s74 n (⟨2, zar (zbE [(enc_3 zah), (enc_3 to)])⟩ : (Sl Int))).2 != (0:Int))
 ((⟨0,λ _=>default⟩:(Sl Int)),(s74 n (⟨2,zar (zbE [(enc_3 zah),(enc_3 to)])⟩:(Sl Int))).2)
 default))
def p45 (n:Net) (zah:Int) (to:Int):Bool :=
  (cond ((s74 n (⟨2, zar (zbE [(enc_3 zah), (enc_3 to)])⟩ : (Sl Int))).2 == 0)
 (decide ((p74 n (⟨2,zar (zbE [(enc_3 zah),(enc_3 to)])⟩:(Sl Int))=true)) &&
 (cond ((0:Int) != (0:Int))
 true
 (decide ((p83 (⟨(s74 n (⟨2,zar (zbE [(enc_3 zah),(enc_3 to)])⟩:(Sl Int))).1.Net,((s74 n (⟨2,zar (zbE [(enc_3 zah),(enc_3 to)])⟩:(Sl Int))).1.out)⟩:web)=true)) &&
 (cond (!(s83 (⟨(s74 n (⟨2, zar (zbE [(enc_3 zah), (enc_3 to)])⟩ : (Sl Int))).1.Net, ((s74 n (⟨2, zar (zbE [(enc_3 zah), (enc_3 to)])⟩ : (Sl Int))).1.out)⟩ : web)))
 true
 (decide ((p76 (⟨(s74 n (⟨2,zar (zbE [(enc_3 zah),(enc_3 to)])⟩:(Sl Int))).1.Net,((s74 n (⟨2,zar (zbE [(enc_3 zah),(enc_3 to)])⟩:(Sl Int))).1.out)⟩:web) zah=true)) &&
 (decide ((p84 (zba (zau (s76 (⟨(s74 n (⟨2,zar (zbE [(enc_3 zah),(enc_3 to)])⟩:(Sl Int))).1.Net,((s74 n (⟨2,zar (zbE [(enc_3 zah),(enc_3 to)])⟩:(Sl Int))).1.out)⟩:web) zah))) (⟨(s74 n (⟨2,zar (zbE [(enc_3 zah),(enc_3 to)])⟩:(Sl Int))).1.Net,((s74 n (⟨2,zar (zbE [(enc_3 zah),(enc_3 to)])⟩:(Sl Int))).1.out)⟩:web)=true)) &&
 true))))))
 (decide ((p74 n (⟨2,zar (zbE [(enc_3 zah),(enc_3 to)])⟩:(Sl Int))=true)) &&
 (cond ((s74 n (⟨2, zar (zbE [(enc_3 zah), (enc_3 to)])⟩ : (Sl Int))).2 != (0:Int))
 true
 false)))
end
theorem q45 (n:Net) (zah:Int) (to:Int) (K:List PA->Prop) (hs:p45 n zah to=true) (hk:K (e45 (s45 n zah to))):vcFun Tryd.prog G45 zMT 45 [.agg (enc_24 n),.one (.int .i64 zah),.one (.int .i64 to)] (Wk K) :=
  zaR (by kernel_rfl) (zc hs hk (λ hs hk=>(zaL hs λ hc hs=>And.intro (And.intro (zE zai 4 n.Ties.get) (And.intro ((zeG []):IsE enc_3 1 1 (zbE [(enc_3 zah),(enc_3 to)])) hc)) (zc hs hk (λ hs hk=>((wk hk (zb8 (.one (.nil _ _)) (zb8 (.one (.rfl _)) zes))):Wk K [.one (.nils),.one (.int .i64 (0:Int))])) (λ hs hk=>(zaL hs λ hc hs=>And.intro (And.intro (zE zai 4 ((s74 n (⟨2,zar (zbE [(enc_3 zah),(enc_3 to)])⟩:(Sl Int))).1.Net.Ties.get)) (And.intro (rfl:((false,1,false,[none]):MQ)=(false,1,false,[none])) hc)) (zc hs hk (λ hs hk=>((wk hk (zb8 (.one (.nil _ _)) (zb8 (.one (.rfl _)) zes))):Wk K [.one (.nils),.one (.int .i64 (6:Int))])) (λ hs hk=>(zaL hs λ hc hs=>And.intro (And.intro (zE zai 4 ((s74 n (⟨2,zar (zbE [(enc_3 zah),(enc_3 to)])⟩:(Sl Int))).1.Net.Ties.get)) (And.intro (rfl:((false,1,false,[none]):MQ)=(false,1,false,[none])) hc)) (zaL hs λ hc hs=>And.intro (And.intro (zE zai 4 ((s74 n (⟨2,zar (zbE [(enc_3 zah),(enc_3 to)])⟩:(Sl Int))).1.Net.Ties.get)) (And.intro (rfl:((false,1,false,[none]):MQ)=(false,1,false,[none])) (And.intro (zof:zau (s76 (⟨(s74 n (⟨2,zar (zbE [(enc_3 zah),(enc_3 to)])⟩:(Sl Int))).1.Net,((s74 n (⟨2,zar (zbE [(enc_3 zah),(enc_3 to)])⟩:(Sl Int))).1.out)⟩:web) zah)=zau (zba (zau (s76 (⟨(s74 n (⟨2,zar (zbE [(enc_3 zah),(enc_3 to)])⟩:(Sl Int))).1.Net,((s74 n (⟨2,zar (zbE [(enc_3 zah),(enc_3 to)])⟩:(Sl Int))).1.out)⟩:web) zah)))) hc))) ((zfX hk):Wk K [.one (.sl ((s84 (zba (zau (s76 (⟨(s74 n (⟨2,zar (zbE [(enc_3 zah),(enc_3 to)])⟩:(Sl Int))).1.Net,((s74 n (⟨2,zar (zbE [(enc_3 zah),(enc_3 to)])⟩:(Sl Int))).1.out)⟩:web) zah))) (⟨(s74 n (⟨2,zar (zbE [(enc_3 zah),(enc_3 to)])⟩:(Sl Int))).1.Net,((s74 n (⟨2,zar (zbE [(enc_3 zah),(enc_3 to)])⟩:(Sl Int))).1.out)⟩:web)).len) 1 (λ i=>enc_3 ((s84 (zba (zau (s76 (⟨(s74 n (⟨2,zar (zbE [(enc_3 zah),(enc_3 to)])⟩:(Sl Int))).1.Net,((s74 n (⟨2,zar (zbE [(enc_3 zah),(enc_3 to)])⟩:(Sl Int))).1.out)⟩:web) zah))) (⟨(s74 n (⟨2,zar (zbE [(enc_3 zah),(enc_3 to)])⟩:(Sl Int))).1.Net,((s74 n (⟨2,zar (zbE [(enc_3 zah),(enc_3 to)])⟩:(Sl Int))).1.out)⟩:web)).get i))),.one (.int .i64 (0:Int))])))))))))) (λ hs hk=>(zaL hs λ hc hs=>And.intro (And.intro (zE zai 4 n.Ties.get) (And.intro ((zeG []):IsE enc_3 1 1 (zbE [(enc_3 zah),(enc_3 to)])) hc)) (zc hs hk (λ hs hk=>((wk hk (zb8 (.one (.nil _ _)) (zb8 (.one (.rfl _)) zes))):Wk K [.one (.nils),.one (.int .i64 ((s74 n (⟨2,zar (zbE [(enc_3 zah),(enc_3 to)])⟩:(Sl Int))).2))])) (λ hs hk=>(absurd hs Bool.false_ne_true:False))))))
def zIM : List PA → COut
  | [.agg [.int .i64 zal,.sl zak zaI zaj],.one (.int .i64 a1),.one (.int .i64 a2)]=>.det (IsE zai 4 zaI zaj/\p45 (⟨zal,(⟨zak,zaq zaj⟩:(Sl Tie))⟩:Net) a1 a2=true) [.one (.sl (((s45 (⟨zal,(⟨zak,zaq zaj⟩:(Sl Tie))⟩:Net) a1 a2).1).len) 1 (λ i=>enc_3 (((s45 (⟨zal,(⟨zak,zaq zaj⟩:(Sl Tie))⟩:Net) a1 a2).1).get i))),.one (.int .i64 ((s45 (⟨zal,(⟨zak,zaq zaj⟩:(Sl Tie))⟩:Net) a1 a2).2))]
  | _=>.no
theorem zMU:zaw Tryd.prog 45:=⟨_,rfl,rfl,by kernel_rfl⟩
theorem zQZ:Ok Tryd.prog 45 zIM:=zgi zO3 zMU λ args K h=>by
  unfold zIM at h
  split at h
  · rename_i zal zak zaI zaj a1 a2
    obtain⟨⟨⟨rfl,zaB,rfl⟩,hs⟩,hk⟩:=h
    try rw[zat zaB] at hs
    try rw[zat zaB] at hk
    exact⟨_,zfd zfW _,(λ _ _=>[]),(λ _=>false),zMT,q45 (⟨zal,(⟨zak,zaB⟩:(Sl Tie))⟩:Net) a1 a2 K hs hk⟩
  · exact h.elim
abbrev T49:Tabs:=(((Tabs.nil.addF 67 zsg).addF 88 zyP).addF 89 zEb)
theorem zO4:TabsOk Tryd.prog T49:=(((TabsOk.nil.addF zLW).addF zOt).addF zP9)
abbrev G49:Ctrs:=csm T49 (λ _ _=>[]) (λ _=>false)
def zIN:Ann:=⟨31,[(0,zK [1] [1]),(1,zK [1,10] [1]),(2,zK [2,3] []),(3,zK [4] [13]),(4,zK [4,16] [13]),(5,zK [2,3] []),(6,zK [4,5] [13]),(7,zK [5,18,19,20] []),(8,zK [5,18,19,20,21] [28]),(9,zK [5,7,18,19,20] [7,28]),(10,zK [5,18,19,20] [28]),(11,zK [5,18,19,20] [28]),(12,zK [2,3] [28])],
 [(8,⟨[5,18,19,20],[28],[(5,28,75,λ _=>zaW default)],[],[],[],[]⟩)],
 [(2,zK [1,10] [1]),(3,zK [1] [1]),(5,zK [4,16] [13]),(6,zK [4] [13]),(8,zK [5,18,19,20] [])],
 [],[]⟩
abbrev R49:=((Sl Use)×Int)
abbrev e49 (r:R49):List PA:=[.one (.sl r.1.len 2 (λ i=>zaW (r.1.get i))),.one (.int .i64 r.2)]
@[irreducible] def z49:=ptF Tryd.prog G49 zIN Tryd.f49
def zFV (zcB:(Sl step)) (zcU:Int) (zdW:Int) (zda:(Sl Use)) (zgF:Nat->List PV):St:=⟨[(5,zv 28),(18,zS zaD 5 zcB),(19,zI zcU),(20,zI zdW)],[(28,.vec 75 2 16 zda.len zgF)],[]⟩
abbrev zMV (K:List PA->Prop) (zcB:(Sl step)) (zcU:Int) (X:St->Prop) (P:Int->(Sl Use)->Bool) (S:Int->(Sl Use)->((Sl Use)×Int)):Prop:=∀ ⦃zdW:Int⦄ ⦃zda:(Sl Use)⦄ ⦃zgF:Nat->List PV⦄,P zdW zda=true->K (e49 (S zdW zda))->zgF=zg zaW zda->X (zFV zcB zcU zdW zda zgF)
section
variable {K:List PA->Prop}{n:Net}{za7:Bool}{zs4:Bool}{zcB:(Sl step)}{zcU:Int}{zA9:Nat->List PV}{zdW:Int}{zda:(Sl Use)}{zgF:Nat->List PV}{X5:St->Prop}{P5:Int->(Sl Use)->Bool}{S5:Int->(Sl Use)->((Sl Use)×Int)}
def zBa (zcB:(Sl step)) (zcU:Int) (S5:Int->(Sl Use)->((Sl Use)×Int)) (zdW:Int) (zda:(Sl Use)):((Sl Use)×Int) :=
  (cond (decide (zdW < zcU))
 (S5 (w64 (zdW+(1:Int))) (⟨(zda.len+1),(zl0 zda.len zda.get (λ _=>(zcB.get zdW.toNat).Use))⟩:Sl Use))
 (zda,(0:Int)))
def zBb (zcB:(Sl step)) (zcU:Int) (P5:Int->(Sl Use)->Bool) (zdW:Int) (zda:(Sl Use)):Bool :=
  (cond (decide (zdW < zcU))
 (decide ((0≤zdW/\zdW < (zcB.len:Int))) &&
 (decide (((zda.len+1) * 16≤140737488355328/\zda.len+1≤9223372036854775807)) &&
 (P5 (w64 (zdW+(1:Int))) (⟨(zda.len+1),(zl0 zda.len zda.get (λ _=>(zcB.get zdW.toNat).Use))⟩:Sl Use))))
 true)
def zBc (zcB:(Sl step)) (zcU:Int):Nat->Int->(Sl Use)->((Sl Use)×Int):=lpO (λ _ _=>default) (zBa zcB zcU)
def zBd (zcB:(Sl step)) (zcU:Int):Nat->Int->(Sl Use)->Bool:=lpO (λ _ _=>false) (zBb zcB zcU)
def zBe (zcB:(Sl step)) (zcU:Int) (zdW:Int) (zda:(Sl Use)):((Sl Use)×Int):=zBc zcB zcU Fuel zdW zda
def zBf (zcB:(Sl step)) (zcU:Int) (zdW:Int) (zda:(Sl Use)):Bool:=zBd zcB zcU Fuel zdW zda
theorem zIO (hs:zBf zcB zcU zdW zda=true) (hk:K (e49 (zBe zcB zcU zdW zda))) (zs5:zgF=zg zaW zda):z49 (Wk K) [1,1,1,1,1,0,1,0] [] (zFV zcB zcU zdW zda zgF) :=
  zl (λ X=>z49 (Wk K) [1,1,1,1,1,0,1,0,0] [X]) (by kernel_rfl) λ X5 hX =>
  (show ∀ k, zMV K zcB zcU X5 (zBd zcB zcU k) (zBc zcB zcU k) from zdU _ _ (zBb zcB zcU) (zBa zcB zcU) (zMV K zcB zcU X5)
 (by intro _ _ _ hs;exact absurd hs Bool.false_ne_true)
 (by intro P5 S5 hX5 zdW zda zgF hs hk zs5;subst zs5;exact hX _ (zaR (by kernel_rfl) (zc hs hk (λ hs hk=>(zaL hs λ hc hs=>And.intro hc (zaL hs λ hc hs=>And.intro hc (hX5 hs hk (ziw (enc:=zaW) (f:=zda.get) (h:=(λ _=>(zcB.get zdW.toNat).Use)) rfl rfl))))) (λ hs hk=>((zfX hk):Wk K [.one (.sl zda.len 2 (λ i=>zaW (zda.get i))),.one (.int .i64 (0:Int))])))))) _ hs hk zs5
def zBg (zcB:(Sl step)) (zcU:Int):((Sl Use)×Int) :=
  (zBe zcB zcU (0:Int) (⟨0,(λ _=>default)⟩:Sl Use))
def zBh (zcB:(Sl step)) (zcU:Int):Bool :=
  (zBf zcB zcU (0:Int) (⟨0,(λ _=>default)⟩:Sl Use))
theorem zIP (hs:zBh zcB zcU=true) (hk:K (e49 (zBg zcB zcU))) (zIQ:zA9=zg zaD zcB):z49 (Wk K) [1,1,1,1,1,0,1] [] ⟨[(5,zP (.nils)),(18,zP (.sl zcB.len 5 zA9)),(19,zI zcU),(20,zI (0:Int))],[],[]⟩:=by subst zIQ;exact zaR (by kernel_rfl) (zIO hs hk rfl)
def zBi (n:Net):((Sl Use)×Int) :=
  (zBg (s89 (⟨n,(⟨0,(λ _=>none)⟩:Mp)⟩:web)) ((s89 (⟨n,(⟨0,(λ _=>none)⟩:Mp)⟩:web)).len:Int))
def zBj (n:Net):Bool :=
  (decide ((p89 (⟨n,(⟨0,(λ _=>none)⟩:Mp)⟩:web)=true)) &&
 (zBh (s89 (⟨n,(⟨0,(λ _=>none)⟩:Mp)⟩:web)) ((s89 (⟨n,(⟨0,(λ _=>none)⟩:Mp)⟩:web)).len:Int)))
theorem zIR (hs:zBj n=true) (hk:K (e49 (zBi n))):z49 (Wk K) [1,1,1,1] [] ⟨[(4,zp 13 0)],[(13,.box 105 (zm (zaF (⟨n,(⟨0,(λ _=>none)⟩:Mp)⟩:web))))],[]⟩:=zaR (by kernel_rfl) (zaL hs λ hc hs=>And.intro (And.intro ((λ _=>rfl):(∀ i,sc2 ((λ i=>zaD ((s89 (⟨n,(⟨0,(λ _=>none)⟩:Mp)⟩:web)).get i)) i)=true)) (And.intro (zE zai 4 n.Ties.get) (And.intro (rfl:((false,1,false,[none]):MQ)=(false,1,false,[none])) hc))) (zIP hs hk rfl))
def zBk (n:Net) (zs4:Bool):((Sl Use)×Int) :=
  (cond zs4
 ((⟨0,λ _=>default⟩:(Sl Use)),(6:Int))
 (zBi n))
def zBl (n:Net) (zs4:Bool):Bool :=
  (cond zs4
 true
 (zBj n))
theorem zIS (hs:zBl n zs4=true) (hk:K (e49 (zBk n zs4))):z49 (Wk K) [1,1,1,0,1] [] ⟨[(4,zp 13 0),(16,zB zs4)],[(13,.box 105 (zm (zaF (⟨n,(⟨0,(λ _=>none)⟩:Mp)⟩:web))))],[]⟩:=zaR (by kernel_rfl) (zc hs hk (λ hs hk=>((wk hk (zb8 (.one (.nil _ _)) (zb8 (.one (.rfl _)) zes))):Wk K [.one (.nils),.one (.int .i64 (6:Int))])) (λ hs hk=>(zIR hs hk)))
def zBm (n:Net):((Sl Use)×Int) :=
  (zBk n (!(s88 (⟨n,(⟨0,(λ _=>none)⟩:Mp)⟩:web))))
def zBn (n:Net):Bool :=
  (decide ((p88 (⟨n,(⟨0,(λ _=>none)⟩:Mp)⟩:web)=true)) &&
 (zBl n (!(s88 (⟨n,(⟨0,(λ _=>none)⟩:Mp)⟩:web)))))
theorem zIT (hs:zBn n=true) (hk:K (e49 (zBm n))):z49 (Wk K) [1,1] [] ⟨[(1,zp 1 0)],[(1,.box 24 (zm (enc_24 n)))],[]⟩:=zaR (by kernel_rfl) (zaL hs λ hc hs=>And.intro (And.intro (zE zai 4 n.Ties.get) (And.intro (rfl:((false,1,false,[none]):MQ)=(false,1,false,[none])) hc)) (zIS hs hk))
def zBo (n:Net) (za7:Bool):((Sl Use)×Int) :=
  (cond za7
 ((⟨0,λ _=>default⟩:(Sl Use)),(2:Int))
 (zBm n))
def zBp (n:Net) (za7:Bool):Bool :=
  (cond za7
 true
 (zBn n))
theorem zIU (hs:zBp n za7=true) (hk:K (e49 (zBo n za7))):z49 (Wk K) [1,0,1] [] ⟨[(1,zp 1 0),(10,zB za7)],[(1,.box 24 (zm (enc_24 n)))],[]⟩:=zaR (by kernel_rfl) (zc hs hk (λ hs hk=>((wk hk (zb8 (.one (.nil _ _)) (zb8 (.one (.rfl _)) zes))):Wk K [.one (.nils),.one (.int .i64 (2:Int))])) (λ hs hk=>(zIT hs hk)))
def s49 (n:Net):((Sl Use)×Int) :=
  (zBo n (!(s67 n)))
def p49 (n:Net):Bool :=
  (decide ((p67 n=true)) &&
 (zBp n (!(s67 n))))
end
theorem q49 (n:Net) (K:List PA->Prop) (hs:p49 n=true) (hk:K (e49 (s49 n))):vcFun Tryd.prog G49 zIN 49 [.agg (enc_24 n)] (Wk K) :=
  zaR (by kernel_rfl) (zaL hs λ hc hs=>And.intro (And.intro (zE zai 4 n.Ties.get) hc) (zIU hs hk))
def zIV : List PA → COut
  | [.agg [.int .i64 zal,.sl zak zaI zaj]]=>.det (IsE zai 4 zaI zaj/\p49 (⟨zal,(⟨zak,zaq zaj⟩:(Sl Tie))⟩:Net)=true) [.one (.sl (((s49 (⟨zal,(⟨zak,zaq zaj⟩:(Sl Tie))⟩:Net)).1).len) 2 (λ i=>zaW (((s49 (⟨zal,(⟨zak,zaq zaj⟩:(Sl Tie))⟩:Net)).1).get i))),.one (.int .i64 ((s49 (⟨zal,(⟨zak,zaq zaj⟩:(Sl Tie))⟩:Net)).2))]
  | _=>.no
theorem zMW:zaw Tryd.prog 49:=⟨_,rfl,rfl,by kernel_rfl⟩
theorem zQ0:Ok Tryd.prog 49 zIV:=zgi zO4 zMW λ args K h=>by
  unfold zIV at h
  split at h
  · rename_i zal zak zaI zaj
    obtain⟨⟨⟨rfl,zaB,rfl⟩,hs⟩,hk⟩:=h
    try rw[zat zaB] at hs
    try rw[zat zaB] at hk
    exact⟨_,zfd zfW _,(λ _ _=>[]),(λ _=>false),zIN,q49 (⟨zal,(⟨zak,zaB⟩:(Sl Tie))⟩:Net) K hs hk⟩
  · exact h.elim
abbrev T53:Tabs:=Tabs.nil
theorem zO5:TabsOk Tryd.prog T53:=TabsOk.nil
abbrev G53:Ctrs:=csm T53 (λ _ _=>[]) (λ _=>false)
def zIW:Ann:=⟨26,[(0,zK [0,1] []),(1,zK [0,1,10] []),(2,zK [4] []),(3,zK [0,1,5] []),(4,zK [0,1,5,14] []),(5,zK [0,1,5] []),(6,zK [0,1,5,25] []),(7,zK [4] []),(8,zK [4] [])],
 [(4,zK [0,1,5] [])],
 [(3,zK [0,1] [])],
 [],[]⟩
abbrev R53:=Bool
abbrev e53 (r:R53):List PA:=[.one (.bool r)]
@[irreducible] def z53:=ptF Tryd.prog G53 zIW Tryd.f53
def zFW (a:(Sl Use)) (b:(Sl Use)) (iv1:Int):St:=⟨[(0,zS zaW 2 a),(1,zS zaW 2 b),(5,zI iv1)],[],[]⟩
abbrev zMX (K:List PA->Prop) (a:(Sl Use)) (b:(Sl Use)) (X:St->Prop) (P:Int->Bool) (S:Int->Bool):Prop:=∀ ⦃iv1:Int⦄,P iv1=true->K (e53 (S iv1))->X (zFW a b iv1)
section
variable {K:List PA->Prop}{a:(Sl Use)}{b:(Sl Use)}{iv1:Int}{X1:St->Prop}{P1:Int->Bool}{S1:Int->Bool}
def zBq (a:(Sl Use)) (b:(Sl Use)) (S1:Int->Bool) (iv1:Int):Bool :=
  (cond (decide (iv1 < (a.len : Int)))
 (cond (!(match ((a.get iv1.toNat).Tie == (b.get iv1.toNat).Tie) with | true => (match ((a.get iv1.toNat).Back == (b.get iv1.toNat).Back) with | true => true | false => false) | false => false))
 false
 (S1 (w64 (iv1+(1:Int)))))
 true)
def zBr (a:(Sl Use)) (b:(Sl Use)) (P1:Int->Bool) (iv1:Int):Bool :=
  (cond (decide (iv1 < (a.len : Int)))
 (decide ((0≤iv1/\iv1 < (a.len:Int))) &&
 (decide ((0≤iv1/\iv1 < (b.len:Int))) &&
 (cond (!(match ((a.get iv1.toNat).Tie == (b.get iv1.toNat).Tie) with | true => (match ((a.get iv1.toNat).Back == (b.get iv1.toNat).Back) with | true => true | false => false) | false => false))
 true
 (P1 (w64 (iv1+(1:Int)))))))
 true)
def zBs (a:(Sl Use)) (b:(Sl Use)):Nat->Int->Bool:=lpO (λ _=>default) (zBq a b)
def zBt (a:(Sl Use)) (b:(Sl Use)):Nat->Int->Bool:=lpO (λ _=>false) (zBr a b)
def zBu (a:(Sl Use)) (b:(Sl Use)) (iv1:Int):Bool:=zBs a b Fuel iv1
def zBv (a:(Sl Use)) (b:(Sl Use)) (iv1:Int):Bool:=zBt a b Fuel iv1
theorem zIX (hs:zBv a b iv1=true) (hk:K (e53 (zBu a b iv1))):z53 K [1,1,0,1,0] [] (zFW a b iv1) :=
  zl (λ X=>z53 K [1,1,0,1,0,0] [X]) (by kernel_rfl) λ X1 hX =>
  (show ∀ k, zMX K a b X1 (zBt a b k) (zBs a b k) from zdU _ _ (zBr a b) (zBq a b) (zMX K a b X1)
 (by intro _ hs;exact absurd hs Bool.false_ne_true)
 (by intro P1 S1 hX1 iv1 hs hk;exact hX _ (zaR (by kernel_rfl) (zc hs hk (λ hs hk=>(zaL hs λ hc hs=>And.intro hc (zaL hs λ hc hs=>And.intro hc (zc hs hk (λ hs hk=>hk) (λ hs hk=>(hX1 hs hk)))))) (λ hs hk=>hk))))) _ hs hk
def zBw (a:(Sl Use)) (b:(Sl Use)):Bool :=
  (zBu a b (0:Int))
def zBx (a:(Sl Use)) (b:(Sl Use)):Bool :=
  (zBv a b (0:Int))
theorem zIY (hs:zBx a b=true) (hk:K (e53 (zBw a b))):z53 K [1,1] [] ⟨[(0,zS zaW 2 a),(1,zS zaW 2 b)],[],[]⟩:=zaR (by kernel_rfl) (zIX hs hk)
def s53 (a:(Sl Use)) (b:(Sl Use)):Bool :=
  (cond ((a.len : Int) != (b.len : Int))
 false
 (zBw a b))
def p53 (a:(Sl Use)) (b:(Sl Use)):Bool :=
  (cond ((a.len : Int) != (b.len : Int))
 true
 (zBx a b))
end
theorem q53 (a:(Sl Use)) (b:(Sl Use)) (K:List PA->Prop) (hs:p53 a b=true) (hk:K (e53 (s53 a b))):vcFun Tryd.prog G53 zIW 53 [.one (.sl a.len 2 (λ i=>zaW (a.get i))),.one (.sl b.len 2 (λ i=>zaW (b.get i)))] K :=
  zaR (by kernel_rfl) (zc hs hk (λ hs hk=>hk) (λ hs hk=>(zIY hs hk)))
def zIZ : List PA → COut
  | [.one (.sl zdl ziz zdm),.one (.sl zcz zfx zcw)]=>.det (IsE zaW 2 ziz zdm/\IsE zaW 2 zfx zcw/\p53 (⟨zdl,zdr zdm⟩:(Sl Use)) (⟨zcz,zdr zcw⟩:(Sl Use))=true) [.one (.bool (s53 (⟨zdl,zdr zdm⟩:(Sl Use)) (⟨zcz,zdr zcw⟩:(Sl Use))))]
  | _=>.no
theorem zMY:zaw Tryd.prog 53:=⟨_,rfl,rfl,by kernel_rfl⟩
theorem zQ1:Ok Tryd.prog 53 zIZ:=zbv zO5 zMY λ args K h=>by
  unfold zIZ at h
  split at h
  · rename_i zdl ziz zdm zcz zfx zcw
    obtain⟨⟨⟨rfl,zfz,rfl⟩,⟨rfl,zdV,rfl⟩,hs⟩,hk⟩:=h
    try rw[zds zfz] at hs
    try rw[zds zfz] at hk
    try rw[zds zdV] at hs
    try rw[zds zdV] at hk
    exact⟨(λ _ _=>[]),(λ _=>false),zIW,q53 (⟨zdl,zfz⟩:(Sl Use)) (⟨zcz,zdV⟩:(Sl Use)) K hs hk⟩
  · exact h.elim
abbrev T92:Tabs:=((Tabs.nil.addF 93 zqP).addI 110 zqR)
theorem zO6:TabsOk Tryd.prog T92:=((TabsOk.nil.addF zKX).addI zwM)
abbrev G92:Ctrs:=csm T92 (λ _ _=>[]) (λ _=>false)
def zkJ:Ann:=⟨49,[(0,zK [0,1,2,3,4] [0,1,2,3,4,4099]),(1,zK [0,1,2,3,4,7] [0,1,2,3,4,4099]),(2,zK [0,1,2,3,4,5,7] [0,1,2,3,4,5,4099]),(3,zK [0,1,2,3,4,5,7,41] [0,1,2,3,4,5,4099]),(4,zK [0,1,2,3,4,5] [0,1,2,3,4,5,4099]),(5,zK [0,1,2,3,4] [0,1,2,3,4,4099]),(6,zK [0,1,2,3,4] [0,1,2,3,4,4099]),(7,zK [0,1,2,3,4] [0,1,2,3,4,4099])],
 [(2,zK [0,1,2,3,4,7] [0,1,2,3,4,4099])],
 [],
 [],[]⟩
def zgG (w:web) (at_:Int) (d:Tab) (out:(Sl Use)):St:=⟨[(0,.one (.c (.ptr 0 0))),(1,.one (.c (.ptr 1 0))),(2,.one (.c (.ptr 2 0))),(3,.one (.c (.ptr 3 0))),(4,.one (.c (.ptr 4 0))),(7,.one (.c (.p (.fn 110 [] [.fp [.fp (zaF w) 0] 0]))))],[(0,.box 102 [.p (.fp (zaF w) 0)]),(1,.box 3 [.p (.int .i64 at_)]),(2,.box 116 (zm (zau d))),(3,.box 67 [.vec 4099]),(4,.box 4 [.p (.bool false)]),(4099,.vec 75 2 16 out.len (λ i=>zaW (out.get i)))],[]⟩
def zmg (K:List PA×List XA->Prop) (w:web) (at_:Int) (d:Tab) (out:(Sl Use)):Prop:=vc Tryd.prog G92 zkJ (cdF Tryd.f92 [1,0,1,0]) (zfT 0 (sqK Tryd.prog G92 zkJ (cdF Tryd.f92 [1,1]) (zmL Tryd.prog Tryd.f92 [.box 102 [.p (.fp (zaF w) 0)],.box 3 [.p (.int .i64 at_)],.box 116 (xcm (zau d)),.box 67 [.vec 75 2 16 out.len (λ i=>zaW (out.get i))]] (λ a b=>K (a,b))))) (zgG w at_ d out)
theorem zI0 (w : web) (at_ : Int) (d : Tab) (out : (Sl Use)) (K : List PA × List XA → Prop) :
  zlW Tryd.prog G92 zkJ 92 [.box 102 [.p (.fp (zaF w) 0)],.box 3 [.p (.int .i64 at_)],.box 116 (xcm (zau d)),.box 67 [.vec 75 2 16 out.len (λ i=>zaW (out.get i))]] (λ a b=>K (a,b)) =
  ((IsE zai 4 4 (λ i=>zai (w.Net.Ties.get i))/\((false,1,false,[none]):MQ)=(false,1,false,[none])) /\
 (zmg K w at_ d out)):=by kernel_rfl
def zq5 (K:List PA×List XA->Prop) (w:web) (at_:Int) (d:Tab) (out:(Sl Use)):Prop :=
  (K ([.one (.bool false)],[.box 102 [.p (.fp (zaF w) 0)],.box 3 [.p (.int .i64 at_)],.box 116 (xcm (zau d)),.box 67 [.vec 75 2 16 out.len (λ i=>zaW (out.get i))]]))
def zq6 (K:List PA×List XA->Prop) (X0:List (List PA)->St->Prop) (y0:step) (rest0:List (List PA)) (w:web) (at_:Int) (d:Tab) (out:(Sl Use)):Prop :=
  (zdR (y0.from_ == at_)
 (((0≤y0.to/\y0.to < (40:Int))) /\
 (zdR (!(match ((tg 80 d (0 + y0.to.toNat * 2 + 0)) == (1000000000000:Int)) with | true => (match ((tg 80 d (0 + y0.to.toNat * 2 + 0 + 1)) == (0:Int)) with | true => true | false => false) | false => false))
 (((0≤y0.to/\y0.to < (40:Int))) /\
 (((0≤y0.to/\y0.to < (40:Int))) /\
 (((0≤at_/\at_ < (40:Int))) /\
 (zdR (match ((w64 ((tg 80 d (0 + y0.to.toNat * 2 + 0)) + y0.length)) == (tg 80 d (0 + at_.toNat * 2 + 0))) with | true => (match ((w64 ((tg 80 d (0 + y0.to.toNat * 2 + 1)) + (1:Int))) == (tg 80 d (0 + at_.toNat * 2 + 0 + 1))) with | true => true | false => false) | false => false)
 ((((out.len+1) * 16≤140737488355328/\out.len+1≤9223372036854775807)) /\
 (K ([.one (.bool true)],[.box 102 [.p (.fp (zaF w) 0)],.box 3 [.p (.int .i64 y0.to)],.box 116 (xcm (zau d)),.box 67 [.vec 75 2 16 (out.len+1) (appG out.len (λ i=>zaW (out.get i)) (λ _=>(zaW y0.Use)))]])))
 (X0 rest0 (zgG w at_ d out))))))
 (X0 rest0 (zgG w at_ d out))))
 (X0 rest0 (zgG w at_ d out)))
theorem zs6 (K:List PA×List XA->Prop) (w:web) (at_:Int) (d:Tab) (out:(Sl Use)):(zfT 0 (sqK Tryd.prog G92 zkJ (cdF Tryd.f92 [1,1]) (zmL Tryd.prog Tryd.f92 [.box 102 [.p (.fp (zaF w) 0)],.box 3 [.p (.int .i64 at_)],.box 116 (xcm (zau d)),.box 67 [.vec 75 2 16 out.len (λ i=>zaW (out.get i))]] (λ a b=>K (a,b))))) .normal (zgG w at_ d out)=zq5 K w at_ d out:=by kernel_rfl
theorem zs7 (K : List PA × List XA → Prop) (X0 : List (List PA) → St → Prop) (y0 : step) (rest0 : List (List PA)) (w : web) (at_ : Int) (d : Tab) (out : (Sl Use)) :
  zOg Tryd.prog G92 zkJ 2 [8] (cd (cdF Tryd.f92 [1,0,1,0]) [0]) (cd (cdF Tryd.f92 [1,0,1,0]) [1]) X0 (zfT 0 (sqK Tryd.prog G92 zkJ (cdF Tryd.f92 [1,1]) (zmL Tryd.prog Tryd.f92 [.box 102 [.p (.fp (zaF w) 0)],.box 3 [.p (.int .i64 at_)],.box 116 (xcm (zau d)),.box 67 [.vec 75 2 16 out.len (λ i=>zaW (out.get i))]] (λ a b=>K (a,b))))) [.agg (zaD y0)] rest0 (zgG w at_ d out)=zq6 K X0 y0 rest0 w at_ d out:=by kernel_rfl
theorem zBy (K : List PA × List XA → Prop) (w : web) (at_ : Int) (d : Tab) (out : (Sl Use))
  (hsafe:IsE zai 4 4 (λ i=>zai (w.Net.Ties.get i))/\((false,1,false,[none]):MQ)=(false,1,false,[none])/\(zw0 w=true)) (h:∀ X0:List (List PA)->St->Prop,(∀ (_:Unit),zq5 K w at_ d out->X0 [] (zgG w at_ d out))->(∀ (y:step) (rest:List (List PA)) (_:Unit),zq6 K X0 y rest w at_ d out->X0 ([.agg (zaD y)] :: rest) (zgG w at_ d out))->X0 ((zl4 w).map λ y=>[.agg (zaD y)]) (zgG w at_ d out)) :
  zmg K w at_ d out:=by
  have e:zmg K w at_ d out=((IsE zai 4 4 (λ i=>zai (w.Net.Ties.get i))/\((false,1,false,[none]):MQ)=(false,1,false,[none])/\(zw0 w=true))/\∀ X:List (List PA)->St->Prop,(∀ s,(zfT 0 (sqK Tryd.prog G92 zkJ (cdF Tryd.f92 [1,1]) (zmL Tryd.prog Tryd.f92 [.box 102 [.p (.fp (zaF w) 0)],.box 3 [.p (.int .i64 at_)],.box 116 (xcm (zau d)),.box 67 [.vec 75 2 16 out.len (λ i=>zaW (out.get i))]] (λ a b=>K (a,b))))) .normal s->X [] s)->(∀ y rest s,zOg Tryd.prog G92 zkJ 2 [8] (cd (cdF Tryd.f92 [1,0,1,0]) [0]) (cd (cdF Tryd.f92 [1,0,1,0]) [1]) X (zfT 0 (sqK Tryd.prog G92 zkJ (cdF Tryd.f92 [1,1]) (zmL Tryd.prog Tryd.f92 [.box 102 [.p (.fp (zaF w) 0)],.box 3 [.p (.int .i64 at_)],.box 116 (xcm (zau d)),.box 67 [.vec 75 2 16 out.len (λ i=>zaW (out.get i))]] (λ a b=>K (a,b))))) y rest s->X (y :: rest) s)->X ((zl4 w).map λ y=>[.agg (zaD y)]) (zgG w at_ d out)):=by kernel_rfl
  refine zaR e ⟨hsafe,?_⟩
  intro X h0 h1
  refine h X (λ _ hs=>h0 _ ?_) (λ y rest _ hs=>h1 _ rest _ ?_)
  · rw[zs6 K w at_ d out];exact hs
  · have e2 := zs7 K X y rest w at_ d out
    rw[e2];exact hs
abbrev e92 (w:web) (d:Tab) (r:(Bool×Int×(Sl Use))):List PA×List XA:=([.one (.bool r.1)],[.box 102 [.p (.fp (zaF w) 0)],.box 3 [.p (.int .i64 r.2.1)],.box 116 (xcm (zau d)),.box 67 [.vec 75 2 16 r.2.2.len (λ i=>zaW (r.2.2.get i))]])
attribute [irreducible] zmg
def zs8 (w:web) (at_:Int) (d:Tab) (out:(Sl Use)):(Bool×Int×(Sl Use)) :=
  (false,at_,(⟨out.len,out.get⟩:(Sl Use)))
def zs9 (w:web) (at_:Int) (d:Tab) (out:(Sl Use)):Bool :=
  true
def zta (w:web) (at_:Int) (d:Tab) (out:(Sl Use)) (y0:step) (S0:(Bool×Int×(Sl Use))):(Bool×Int×(Sl Use)) :=
  (cond (y0.from_ == at_)
 (cond (!(match ((tg 80 d (0 + y0.to.toNat * 2 + 0)) == (1000000000000:Int)) with | true => (match ((tg 80 d (0 + y0.to.toNat * 2 + 0 + 1)) == (0:Int)) with | true => true | false => false) | false => false))
 (cond (match ((w64 ((tg 80 d (0 + y0.to.toNat * 2 + 0)) + y0.length)) == (tg 80 d (0 + at_.toNat * 2 + 0))) with | true => (match ((w64 ((tg 80 d (0 + y0.to.toNat * 2 + 1)) + (1:Int))) == (tg 80 d (0 + at_.toNat * 2 + 0 + 1))) with | true => true | false => false) | false => false)
 (true,y0.to,(⟨(out.len+1),(zl0 out.len out.get (λ _=>y0.Use))⟩:(Sl Use)))
 (S0))
 (S0))
 (S0))
def ztb (w:web) (at_:Int) (d:Tab) (out:(Sl Use)) (y0:step) (P0:Bool):Bool :=
  (cond (y0.from_ == at_)
 (decide ((0≤y0.to/\y0.to < (40:Int))) &&
 (cond (!(match ((tg 80 d (0 + y0.to.toNat * 2 + 0)) == (1000000000000:Int)) with | true => (match ((tg 80 d (0 + y0.to.toNat * 2 + 0 + 1)) == (0:Int)) with | true => true | false => false) | false => false))
 (decide ((0≤y0.to/\y0.to < (40:Int))) &&
 (decide ((0≤y0.to/\y0.to < (40:Int))) &&
 (decide ((0≤at_/\at_ < (40:Int))) &&
 (cond (match ((w64 ((tg 80 d (0 + y0.to.toNat * 2 + 0)) + y0.length)) == (tg 80 d (0 + at_.toNat * 2 + 0))) with | true => (match ((w64 ((tg 80 d (0 + y0.to.toNat * 2 + 1)) + (1:Int))) == (tg 80 d (0 + at_.toNat * 2 + 0 + 1))) with | true => true | false => false) | false => false)
 (decide (((out.len+1) * 16≤140737488355328/\out.len+1≤9223372036854775807)) &&
 true)
 (P0)))))
 (P0)))
 (P0))
def zmh (w : web) (at_ : Int) (d : Tab) (out : (Sl Use)) : List step → (Bool × Int × (Sl Use))
  | []=>zs8 w at_ d out
  | y :: r=>zta w at_ d out y (zmh w at_ d out r)
def zmi (w : web) (at_ : Int) (d : Tab) (out : (Sl Use)) : List step → Bool
  | []=>zs9 w at_ d out
  | y :: r=>ztb w at_ d out y (zmi w at_ d out r)
def zBz (w:web) (at_:Int) (d:Tab) (out:(Sl Use)):(Bool×Int×(Sl Use)):=zmh w at_ d out (zl4 w)
def ztc (w:web) (at_:Int) (d:Tab) (out:(Sl Use)):Bool:=decide ((zw0 w=true)) && zmi w at_ d out (zl4 w)
theorem zI1 (K:List PA×List XA->Prop) (w:web) (at_:Int) (d:Tab) (out:(Sl Use)) (hs:ztc w at_ d out=true) (hk:K (e92 w d (zBz w at_ d out))):zmg K w at_ d out:=by
  unfold ztc at hs
  rw[Bool.and_eq_true] at hs
  obtain⟨hsf,hs⟩:=hs
  have hc:=of_decide_eq_true hsf
  refine zBy K w at_ d out ⟨isE,rfl,hc⟩ ?_
  intro X0 hexit hstep
  have key:∀ (l:List step),zmi w at_ d out l=true->K (e92 w d (zmh w at_ d out l))->X0 (l.map λ y=>[.agg (zaD y)]) (zgG w at_ d out):=by
    intro l
    induction l with
    | nil =>
      intro hs hk
      refine hexit () ?_
      have hs:zs9 w at_ d out=true:=hs
      have hk:K (e92 w d (zs8 w at_ d out)):=hk
      unfold zs9 at hs
      unfold zs8 at hk
      exact hk
    | cons y0 l ih =>
      intro hs hk
      refine hstep y0 _ () ?_
      have hs:ztb w at_ d out y0 (zmi w at_ d out l)=true:=hs
      have hk:K (e92 w d (zta w at_ d out y0 (zmh w at_ d out l))):=hk
      unfold ztb at hs
      unfold zta at hk
      generalize zmh w at_ d out l=S0 at hk ih
      generalize zmi w at_ d out l=P0 at hs ih
      have hX0:=ih
      exact (zfs (K := λ r => K (e92 w d r))
 (λ hs hk => (zaL hs λ hc hs => ⟨hc, (zfs (K := λ r => K (e92 w d r))
 (λ hs hk => (zaL hs λ hc hs => ⟨hc, (zaL hs λ hc hs => ⟨hc, (zaL hs λ hc hs => ⟨hc, (zfs (K := λ r => K (e92 w d r))
 (λ hs hk=>(zaL hs λ hc hs=>⟨hc,(Eq.mpr (congrArg K (congrArg (λ (g_:Nat->List PV)=>(([.one (.bool true)],[.box 102 [.p (.fp (zaF w) 0)],.box 3 [.p (.int .i64 y0.to)],.box 116 (xcm (zau d)),.box 67 [.vec 75 2 16 (out.len+1) g_]]):List PA×List XA)) (ziw (enc:=zaW) (f:=out.get) (h:=(λ _=>y0.Use)) rfl rfl))) hk)⟩))
 (λ hs hk=>(hX0 hs hk)) hs hk)⟩)⟩)⟩))
 (λ hs hk=>(hX0 hs hk)) hs hk)⟩))
 (fun hs hk=>(hX0 hs hk)) hs hk)
  exact key _ hs hk
def s92 (w:web) (at_:Int) (d:Tab) (out:(Sl Use)):(Bool×Int×(Sl Use)) :=
  (zBz w at_ d out)
def p92 (w:web) (at_:Int) (d:Tab) (out:(Sl Use)):Bool :=
  (ztc w at_ d out)
theorem q92 (w:web) (at_:Int) (d:Tab) (out:(Sl Use)) (K:List PA×List XA->Prop) (hs:p92 w at_ d out=true) (hk:K (e92 w d (s92 w at_ d out))):zlW Tryd.prog G92 zkJ 92 [.box 102 [.p (.fp (zaF w) 0)],.box 3 [.p (.int .i64 at_)],.box 116 (xcm (zau d)),.box 67 [.vec 75 2 16 out.len (λ i=>zaW (out.get i))]] (λ a b=>K (a,b)):=by
  refine zaR (zI0 w at_ d out K) ?_
  unfold p92 at hs
  unfold s92 at hk
  exact⟨⟨isE,rfl⟩,(zI1 K w at_ d out hs hk)⟩
def zI2 : MK
  | [.box 102 [.p (.fp [.int .i64 zax,.sl zav zbG zao,.fm zdA zaT zaU] 0)],.box 3 [.p (.int .i64 b1)],.box 116 zmP,.box 67 [.vec 75 2 16 zI3 zI4]]=>some (IsE zai 4 zbG zao/\zdA=(false,1,false,[none])/\zmP=xcm (zau (zba (unX zmP)))/\IsE zaW 2 2 zI4/\p92 (⟨(⟨zax,(⟨zav,zaq zao⟩:(Sl Tie))⟩:Net),(⟨zaT,zaU⟩:Mp)⟩:web) b1 (zba (unX zmP)) (⟨zI3,zdr zI4⟩:(Sl Use))=true,[.one (.bool ((s92 (⟨(⟨zax,(⟨zav,zaq zao⟩:(Sl Tie))⟩:Net),(⟨zaT,zaU⟩:Mp)⟩:web) b1 (zba (unX zmP)) (⟨zI3,zdr zI4⟩:(Sl Use))).1))],[.box 102 [.p (.fp [.int .i64 zax,.sl zav zbG zao,.fm zdA zaT zaU] 0)],.box 3 [.p (.int .i64 ((s92 (⟨(⟨zax,(⟨zav,zaq zao⟩:(Sl Tie))⟩:Net),(⟨zaT,zaU⟩:Mp)⟩:web) b1 (zba (unX zmP)) (⟨zI3,zdr zI4⟩:(Sl Use))).2.1))],.box 116 zmP,.box 67 [.vec 75 2 16 (((s92 (⟨(⟨zax,(⟨zav,zaq zao⟩:(Sl Tie))⟩:Net),(⟨zaT,zaU⟩:Mp)⟩:web) b1 (zba (unX zmP)) (⟨zI3,zdr zI4⟩:(Sl Use))).2.2).len) (λ i=>zaW (((s92 (⟨(⟨zax,(⟨zav,zaq zao⟩:(Sl Tie))⟩:Net),(⟨zaT,zaU⟩:Mp)⟩:web) b1 (zba (unX zmP)) (⟨zI3,zdr zI4⟩:(Sl Use))).2.2).get i))]])
  | _=>none
theorem zMZ:zaw Tryd.prog 92:=⟨_,rfl,rfl,by kernel_rfl⟩
theorem zQ2:zkH Tryd.prog 92 zI2:=zG7 zO6 zMZ λ xs safe rs ys h hs K hk=>by
  unfold zI2 at h
  split at h
  · rename_i zax zav zbG zao zdA zaT zaU b1 zmP zI3 zI4
    simp only[Option.some.injEq,Prod.mk.injEq] at h
    obtain⟨rfl,rfl,rfl⟩:=h
    obtain⟨⟨rfl,zcq,rfl⟩,rfl,hT_b2,⟨_,zO7,rfl⟩,hs⟩:=hs
    try rw[zat zcq] at hs
    try rw[zat zcq] at hk
    try rw[zds zO7] at hs
    try rw[zds zO7] at hk
    refine⟨λ _ _=>[],λ _=>false,zkJ,?_⟩
    show zlW Tryd.prog G92 zkJ 92 _ K
    have hq:=q92 (⟨(⟨zax,(⟨zav,zcq⟩:(Sl Tie))⟩:Net),(⟨zaT,zaU⟩:Mp)⟩:web) b1 (zba (unX zmP)) (⟨zI3,zO7⟩:(Sl Use)) (λ x=>K x.1 x.2) hs
    dsimp only[e92] at hq
    rw[← hT_b2] at hq
    exact hq hk
  · cases h
abbrev T54:Tabs:=(((Tabs.nil.addF 74 zyQ).addF 75 zyZ).addM 92 zI2)
theorem zO8:TabsOk Tryd.prog T54:=(((TabsOk.nil.addF zOv).addF zOy).addM zQ2)
abbrev G54:Ctrs:=csm T54 (λ _ _=>[]) (λ _=>false)
def zI5:Ann:=⟨45,[(0,zK [1,2,3] [3]),(1,zK [1,2,8,9] [8]),(2,zK [1,2,8,9,23] [8]),(3,zK [6,7] []),(4,zK [1,8,10] [8,10]),(5,zK [1,8,10,32] [8,10]),(6,zK [6,7] []),(7,zK [1,8,10,11] [8,10,11]),(8,zK [8,10,11,12] [8,10,11,12]),(9,zK [10,11,12,13] [8,10,11,12]),(10,zK [10,11,12,13,43] [8,10,11,12,5000]),(11,zK [6,7] [5000])],
 [(10,⟨[10,11,12,13],[8,10,11,12,5000],[],[(11,0,5000,75,λ _=>zaW default)],[],[],[]⟩)],
 [],
 [],[]⟩
abbrev R54:=((Sl Use)×Int)
abbrev e54 (r:R54):List PA:=[.one (.sl r.1.len 2 (λ i=>zaW (r.1.get i))),.one (.int .i64 r.2)]
@[irreducible] def z54:=ptF Tryd.prog G54 zI5 Tryd.f54
def zFX (n:Net) (zah:Int) (to:Int) (zh5:Int) (za1:(Sl Use)) (dt0:Tab) (zdJ:Nat->List PV):St:=⟨[(10,zp 10 0),(11,zp 11 0),(12,zp 12 0),(13,.one (.c (.clo 92 [.b 8,.b 12,.b 10,.b 11])))],[(8,.box 102 [.p (.fp (zaF (⟨(s74 n (⟨2,zar (zbE [(enc_3 zah),(enc_3 to)])⟩:(Sl Int))).1.Net,((s74 n (⟨2,zar (zbE [(enc_3 zah),(enc_3 to)])⟩:(Sl Int))).1.out)⟩:web)) 0)]),(10,.box 116 (zm (zau dt0))),(11,.box 67 [.vec 5000]),(12,.box 3 [zi zh5]),(5000,.vec 75 2 16 za1.len zdJ)],[]⟩
abbrev zM0 (K:List PA->Prop) (n:Net) (zah:Int) (to:Int) (X:St->Prop) (P:Int->(Sl Use)->Tab->Bool) (S:Int->(Sl Use)->Tab->((Sl Use)×Int)):Prop:=∀ ⦃zh5:Int⦄ ⦃za1:(Sl Use)⦄ ⦃dt0:Tab⦄ ⦃zdJ:Nat->List PV⦄,P zh5 za1 dt0=true->K (e54 (S zh5 za1 dt0))->zdJ=zg zaW za1->X (zFX n zah to zh5 za1 dt0 zdJ)
section
variable {K:List PA->Prop}{n:Net}{zah:Int}{to:Int}{zh5:Int}{za1:(Sl Use)}{dt0:Tab}{zdJ:Nat->List PV}{X0:St->Prop}{P0:Int->(Sl Use)->Tab->Bool}{S0:Int->(Sl Use)->Tab->((Sl Use)×Int)}
def zBA (n:Net) (zah:Int) (to:Int) (S0:Int->(Sl Use)->Tab->((Sl Use)×Int)) (zh5:Int) (za1:(Sl Use)) (dt0:Tab):((Sl Use)×Int) :=
  (cond (decide ((tg 80 dt0 (0 + zh5.toNat * 2 + 1)) > (0:Int)))
 (cond ((s92 (⟨(s74 n (⟨2, zar (zbE [(enc_3 zah), (enc_3 to)])⟩ : (Sl Int))).1.Net, ((s74 n (⟨2, zar (zbE [(enc_3 zah), (enc_3 to)])⟩ : (Sl Int))).1.out)⟩ : web) zh5 (zba (unX (xcm (zau dt0)))) (⟨za1.len, za1.get⟩ : (Sl Use))).1)
 (S0 ((s92 (⟨(s74 n (⟨2,zar (zbE [(enc_3 zah),(enc_3 to)])⟩:(Sl Int))).1.Net,((s74 n (⟨2,zar (zbE [(enc_3 zah),(enc_3 to)])⟩:(Sl Int))).1.out)⟩:web) zh5 (zba (unX (xcm (zau dt0)))) (⟨za1.len,za1.get⟩:(Sl Use))).2.1) ((s92 (⟨(s74 n (⟨2,zar (zbE [(enc_3 zah),(enc_3 to)])⟩:(Sl Int))).1.Net,((s74 n (⟨2,zar (zbE [(enc_3 zah),(enc_3 to)])⟩:(Sl Int))).1.out)⟩:web) zh5 (zba (unX (xcm (zau dt0)))) (⟨za1.len,za1.get⟩:(Sl Use))).2.2) dt0)
 (((s92 (⟨(s74 n (⟨2,zar (zbE [(enc_3 zah),(enc_3 to)])⟩:(Sl Int))).1.Net,((s74 n (⟨2,zar (zbE [(enc_3 zah),(enc_3 to)])⟩:(Sl Int))).1.out)⟩:web) zh5 (zba (unX (xcm (zau dt0)))) (⟨za1.len,za1.get⟩:(Sl Use))).2.2),(0:Int)))
 (za1,(0:Int)))
def zBB (n:Net) (zah:Int) (to:Int) (P0:Int->(Sl Use)->Tab->Bool) (zh5:Int) (za1:(Sl Use)) (dt0:Tab):Bool :=
  (decide ((0≤zh5/\zh5 < (40:Int))) &&
 (cond (decide ((tg 80 dt0 (0 + zh5.toNat * 2 + 1)) > (0:Int)))
 (decide ((p92 (⟨(s74 n (⟨2,zar (zbE [(enc_3 zah),(enc_3 to)])⟩:(Sl Int))).1.Net,((s74 n (⟨2,zar (zbE [(enc_3 zah),(enc_3 to)])⟩:(Sl Int))).1.out)⟩:web) zh5 (zba (unX (xcm (zau dt0)))) (⟨za1.len,za1.get⟩:(Sl Use))=true)) &&
 (cond ((s92 (⟨(s74 n (⟨2, zar (zbE [(enc_3 zah), (enc_3 to)])⟩ : (Sl Int))).1.Net, ((s74 n (⟨2, zar (zbE [(enc_3 zah), (enc_3 to)])⟩ : (Sl Int))).1.out)⟩ : web) zh5 (zba (unX (xcm (zau dt0)))) (⟨za1.len, za1.get⟩ : (Sl Use))).1)
 (P0 ((s92 (⟨(s74 n (⟨2,zar (zbE [(enc_3 zah),(enc_3 to)])⟩:(Sl Int))).1.Net,((s74 n (⟨2,zar (zbE [(enc_3 zah),(enc_3 to)])⟩:(Sl Int))).1.out)⟩:web) zh5 (zba (unX (xcm (zau dt0)))) (⟨za1.len,za1.get⟩:(Sl Use))).2.1) ((s92 (⟨(s74 n (⟨2,zar (zbE [(enc_3 zah),(enc_3 to)])⟩:(Sl Int))).1.Net,((s74 n (⟨2,zar (zbE [(enc_3 zah),(enc_3 to)])⟩:(Sl Int))).1.out)⟩:web) zh5 (zba (unX (xcm (zau dt0)))) (⟨za1.len,za1.get⟩:(Sl Use))).2.2) dt0)
 true))
 true))
def zBC (n:Net) (zah:Int) (to:Int):Nat->Int->(Sl Use)->Tab->((Sl Use)×Int):=lpO (λ _ _ _=>default) (zBA n zah to)
def zBD (n:Net) (zah:Int) (to:Int):Nat->Int->(Sl Use)->Tab->Bool:=lpO (λ _ _ _=>false) (zBB n zah to)
def zBE (n:Net) (zah:Int) (to:Int) (zh5:Int) (za1:(Sl Use)) (dt0:Tab):((Sl Use)×Int):=zBC n zah to Fuel zh5 za1 dt0
def zBF (n:Net) (zah:Int) (to:Int) (zh5:Int) (za1:(Sl Use)) (dt0:Tab):Bool:=zBD n zah to Fuel zh5 za1 dt0
theorem zI6 (hs:zBF n zah to zh5 za1 dt0=true) (hk:K (e54 (zBE n zah to zh5 za1 dt0))) (zmj:zdJ=zg zaW za1):z54 (Wk K) [1,1,1,1,1,1,1,1,0,0] [] (zFX n zah to zh5 za1 dt0 zdJ) :=
  zl (λ X=>z54 (Wk K) [1,1,1,1,1,1,1,1,0,0,0] [X]) (by kernel_rfl) λ X0 hX =>
  (show ∀ k, zM0 K n zah to X0 (zBD n zah to k) (zBC n zah to k) from zdU _ _ (zBB n zah to) (zBA n zah to) (zM0 K n zah to X0)
 (by intro _ _ _ _ hs;exact absurd hs Bool.false_ne_true)
 (by intro P0 S0 hX0 zh5 za1 dt0 zdJ hs hk zmj;subst zmj;exact hX _ (zaR (by kernel_rfl) (zaL hs λ hc hs=>And.intro hc (zc hs hk (λ hs hk=>(zaL hs λ hc hs=>And.intro (And.intro (zE zai 4 ((s74 n (⟨2,zar (zbE [(enc_3 zah),(enc_3 to)])⟩:(Sl Int))).1.Net.Ties.get)) (And.intro (rfl:((false,1,false,[none]):MQ)=(false,1,false,[none])) (And.intro (zG8:xcm (zau dt0)=xcm (zau (zba (unX (xcm (zau dt0)))))) (And.intro (zE zaW 2 za1.get) hc)))) (zc hs hk (λ hs hk=>(hX0 hs hk rfl)) (λ hs hk=>((zfX hk):Wk K [.one (.sl (((s92 (⟨(s74 n (⟨2,zar (zbE [(enc_3 zah),(enc_3 to)])⟩:(Sl Int))).1.Net,((s74 n (⟨2,zar (zbE [(enc_3 zah),(enc_3 to)])⟩:(Sl Int))).1.out)⟩:web) zh5 (zba (unX (xcm (zau dt0)))) (⟨za1.len,za1.get⟩:(Sl Use))).2.2).len) 2 (λ i=>zaW (((s92 (⟨(s74 n (⟨2,zar (zbE [(enc_3 zah),(enc_3 to)])⟩:(Sl Int))).1.Net,((s74 n (⟨2,zar (zbE [(enc_3 zah),(enc_3 to)])⟩:(Sl Int))).1.out)⟩:web) zh5 (zba (unX (xcm (zau dt0)))) (⟨za1.len,za1.get⟩:(Sl Use))).2.2).get i))),.one (.int .i64 (0:Int))]))))) (λ hs hk=>((zfX hk):Wk K [.one (.sl za1.len 2 (λ i=>zaW (za1.get i))),.one (.int .i64 (0:Int))]))))))) _ hs hk zmj
def s54 (n:Net) (zah:Int) (to:Int):((Sl Use)×Int) :=
  (cond ((s74 n (⟨2, zar (zbE [(enc_3 zah), (enc_3 to)])⟩ : (Sl Int))).2 == 0)
 (cond ((0:Int) != (0:Int))
 ((⟨0,λ _=>default⟩:(Sl Use)),(0:Int))
 (cond (match ((tg 80 (s75 (⟨(s74 n (⟨2, zar (zbE [(enc_3 zah), (enc_3 to)])⟩ : (Sl Int))).1.Net, ((s74 n (⟨2, zar (zbE [(enc_3 zah), (enc_3 to)])⟩ : (Sl Int))).1.out)⟩ : web) to) (0 + zah.toNat * 2 + 0)) == (1000000000000:Int)) with | true => (match ((tg 80 (s75 (⟨(s74 n (⟨2, zar (zbE [(enc_3 zah), (enc_3 to)])⟩ : (Sl Int))).1.Net, ((s74 n (⟨2, zar (zbE [(enc_3 zah), (enc_3 to)])⟩ : (Sl Int))).1.out)⟩ : web) to) (0 + zah.toNat * 2 + 0 + 1)) == (0:Int)) with | true => true | false => false) | false => false)
 ((⟨0,λ _=>default⟩:(Sl Use)),(6:Int))
 (zBE n zah to zah (⟨0,(λ _=>default)⟩:Sl Use) (s75 (⟨(s74 n (⟨2,zar (zbE [(enc_3 zah),(enc_3 to)])⟩:(Sl Int))).1.Net,((s74 n (⟨2,zar (zbE [(enc_3 zah),(enc_3 to)])⟩:(Sl Int))).1.out)⟩:web) to))))
 (cond ((s74 n (⟨2, zar (zbE [(enc_3 zah), (enc_3 to)])⟩ : (Sl Int))).2 != (0:Int))
 ((⟨0,λ _=>default⟩:(Sl Use)),(s74 n (⟨2,zar (zbE [(enc_3 zah),(enc_3 to)])⟩:(Sl Int))).2)
 default))
def p54 (n:Net) (zah:Int) (to:Int):Bool :=
  (cond ((s74 n (⟨2, zar (zbE [(enc_3 zah), (enc_3 to)])⟩ : (Sl Int))).2 == 0)
 (decide ((p74 n (⟨2,zar (zbE [(enc_3 zah),(enc_3 to)])⟩:(Sl Int))=true)) &&
 (cond ((0:Int) != (0:Int))
 true
 (decide ((p75 (⟨(s74 n (⟨2,zar (zbE [(enc_3 zah),(enc_3 to)])⟩:(Sl Int))).1.Net,((s74 n (⟨2,zar (zbE [(enc_3 zah),(enc_3 to)])⟩:(Sl Int))).1.out)⟩:web) to=true)) &&
 (decide ((0≤zah/\zah < (40:Int))) &&
 (cond (match ((tg 80 (s75 (⟨(s74 n (⟨2, zar (zbE [(enc_3 zah), (enc_3 to)])⟩ : (Sl Int))).1.Net, ((s74 n (⟨2, zar (zbE [(enc_3 zah), (enc_3 to)])⟩ : (Sl Int))).1.out)⟩ : web) to) (0 + zah.toNat * 2 + 0)) == (1000000000000:Int)) with | true => (match ((tg 80 (s75 (⟨(s74 n (⟨2, zar (zbE [(enc_3 zah), (enc_3 to)])⟩ : (Sl Int))).1.Net, ((s74 n (⟨2, zar (zbE [(enc_3 zah), (enc_3 to)])⟩ : (Sl Int))).1.out)⟩ : web) to) (0 + zah.toNat * 2 + 0 + 1)) == (0:Int)) with | true => true | false => false) | false => false)
 true
 (zBF n zah to zah (⟨0,(λ _=>default)⟩:Sl Use) (s75 (⟨(s74 n (⟨2,zar (zbE [(enc_3 zah),(enc_3 to)])⟩:(Sl Int))).1.Net,((s74 n (⟨2,zar (zbE [(enc_3 zah),(enc_3 to)])⟩:(Sl Int))).1.out)⟩:web) to)))))))
 (decide ((p74 n (⟨2,zar (zbE [(enc_3 zah),(enc_3 to)])⟩:(Sl Int))=true)) &&
 (cond ((s74 n (⟨2, zar (zbE [(enc_3 zah), (enc_3 to)])⟩ : (Sl Int))).2 != (0:Int))
 true
 false)))
end
theorem q54 (n:Net) (zah:Int) (to:Int) (K:List PA->Prop) (hs:p54 n zah to=true) (hk:K (e54 (s54 n zah to))):vcFun Tryd.prog G54 zI5 54 [.agg (enc_24 n),.one (.int .i64 zah),.one (.int .i64 to)] (Wk K) :=
  zaR (by kernel_rfl) (zc hs hk (λ hs hk=>(zaL hs λ hc hs=>And.intro (And.intro (zE zai 4 n.Ties.get) (And.intro ((zeG []):IsE enc_3 1 1 (zbE [(enc_3 zah),(enc_3 to)])) hc)) (zc hs hk (λ hs hk=>((wk hk (zb8 (.one (.nil _ _)) (zb8 (.one (.rfl _)) zes))):Wk K [.one (.nils),.one (.int .i64 (0:Int))])) (λ hs hk=>(zaL hs λ hc hs=>And.intro (And.intro (zE zai 4 ((s74 n (⟨2,zar (zbE [(enc_3 zah),(enc_3 to)])⟩:(Sl Int))).1.Net.Ties.get)) (And.intro (rfl:((false,1,false,[none]):MQ)=(false,1,false,[none])) hc)) (zaL hs λ hc hs=>And.intro hc (zc hs hk (λ hs hk=>((wk hk (zb8 (.one (.nil _ _)) (zb8 (.one (.rfl _)) zes))):Wk K [.one (.nils),.one (.int .i64 (6:Int))])) (λ hs hk=>(zI6 hs hk rfl))))))))) (λ hs hk=>(zaL hs λ hc hs=>And.intro (And.intro (zE zai 4 n.Ties.get) (And.intro ((zeG []):IsE enc_3 1 1 (zbE [(enc_3 zah),(enc_3 to)])) hc)) (zc hs hk (λ hs hk=>((wk hk (zb8 (.one (.nil _ _)) (zb8 (.one (.rfl _)) zes))):Wk K [.one (.nils),.one (.int .i64 ((s74 n (⟨2,zar (zbE [(enc_3 zah),(enc_3 to)])⟩:(Sl Int))).2))])) (λ hs hk=>(absurd hs Bool.false_ne_true:False))))))
def zI7 : List PA → COut
  | [.agg [.int .i64 zal,.sl zak zaI zaj],.one (.int .i64 a1),.one (.int .i64 a2)]=>.det (IsE zai 4 zaI zaj/\p54 (⟨zal,(⟨zak,zaq zaj⟩:(Sl Tie))⟩:Net) a1 a2=true) [.one (.sl (((s54 (⟨zal,(⟨zak,zaq zaj⟩:(Sl Tie))⟩:Net) a1 a2).1).len) 2 (λ i=>zaW (((s54 (⟨zal,(⟨zak,zaq zaj⟩:(Sl Tie))⟩:Net) a1 a2).1).get i))),.one (.int .i64 ((s54 (⟨zal,(⟨zak,zaq zaj⟩:(Sl Tie))⟩:Net) a1 a2).2))]
  | _=>.no
theorem zM1:zaw Tryd.prog 54:=⟨_,rfl,rfl,by kernel_rfl⟩
theorem zQ3:Ok Tryd.prog 54 zI7:=zgi zO8 zM1 λ args K h=>by
  unfold zI7 at h
  split at h
  · rename_i zal zak zaI zaj a1 a2
    obtain⟨⟨⟨rfl,zaB,rfl⟩,hs⟩,hk⟩:=h
    try rw[zat zaB] at hs
    try rw[zat zaB] at hk
    exact⟨_,zfd zfW _,(λ _ _=>[]),(λ _=>false),zI5,q54 (⟨zal,(⟨zak,zaB⟩:(Sl Tie))⟩:Net) a1 a2 K hs hk⟩
  · exact h.elim
abbrev T66:Tabs:=Tabs.nil
theorem zO9:TabsOk Tryd.prog T66:=TabsOk.nil
abbrev G66:Ctrs:=csm T66 (λ _ _=>[]) (λ _=>false)
def zM2:Ann:=⟨6,[(0,zK [0] [0]),(1,zK [0] [0,4])],
 [],
 [],
 [],[]⟩
abbrev R66:=Net
abbrev e66 (r:R66):List PA:=[.agg [.int .i64 r.Nodes,.sl r.Ties.len 4 (λ i=>zai (r.Ties.get i))]]
section
variable {K:List PA->Prop}
def s66:Net :=
  (⟨(3:Int),(⟨3,(zrC (⟨(0:Int),(1:Int),(5:Int),(8:Int)⟩:Tie) [(⟨(0:Int),(1:Int),(5:Int),(8:Int)⟩:Tie),(⟨(1:Int),(2:Int),(-2:Int),(3:Int)⟩:Tie),(⟨(2:Int),(0:Int),(-9:Int),(1000000000000:Int)⟩:Tie)])⟩:(Sl Tie))⟩:Net)
end
theorem q66 (K:List PA->Prop) (hk:K (e66 (s66))):vcFun Tryd.prog G66 zM2 66 [] K :=
  zaR (by kernel_rfl) (Eq.mpr (congrArg K (congrArg (λ (g_:Nat->List PV)=>([.agg [.int .i64 (3:Int),.sl 3 4 g_]]:List PA)) (zuW (enc:=zai) (x:=(⟨(0:Int),(1:Int),(5:Int),(8:Int)⟩:Tie)) (y:=(⟨(1:Int),(2:Int),(-2:Int),(3:Int)⟩:Tie)) (r:=[(⟨(2:Int),(0:Int),(-9:Int),(1000000000000:Int)⟩:Tie)])))) hk)
def zI8 : List PA → COut
  | []=>.tot [.agg [.int .i64 ((s66).Nodes),.sl ((s66).Ties.len) 4 (λ i=>zai ((s66).Ties.get i))]]
  | _=>.no
theorem zM3:zaw Tryd.prog 66:=⟨_,rfl,rfl,by kernel_rfl⟩
theorem zQ4:Ok Tryd.prog 66 zI8:=zbv zO9 zM3 λ args K h=>by
  unfold zI8 at h
  split at h
  · have hk := h
    exact⟨(λ _ _=>[]),(λ _=>false),zM2,q66 K hk⟩
  · exact h.elim
abbrev T21:Tabs:=((((((((((Tabs.nil.addF 22 zIu).addF 25 zIy).addF 26 zDW).addF 29 zIz).addF 32 zID).addF 45 zIM).addF 49 zIV).addF 53 zIZ).addF 54 zI7).addF 66 zI8)
theorem zPa:TabsOk Tryd.prog T21:=((((((((((TabsOk.nil.addF zQT).addF zQU).addF zPZ).addF zQV).addF ok32).addF zQZ).addF zQ0).addF zQ1).addF zQ3).addF zQ4)
abbrev G21:Ctrs:=csm T21 (λ _ _=>[]) (λ _=>false)
def zI9:Ann:=⟨87,[(0,zK [] []),(1,zK [1,2] []),(2,zK [1,2,3,4] []),(3,zK [1,2,3,4,5,6] []),(4,zK [1,2,3,4,5,6,7] [7]),(5,zK [1,2,3,4,5,6,7,8,9] [7]),(6,zK [1,2,3,4,5,6,8,9,10,11] []),(7,zK [1,3,5,8,10,57] []),(8,zK [0] []),(9,zK [0] [])],
 [],
 [(2,zK [1,2] []),(3,zK [1,2,3,4] []),(4,zK [1,2,3,4,5,6] []),(5,zK [1,2,3,4,5,6,7] [7]),(6,zK [1,2,3,4,5,6,7,8,9] [7]),(7,zK [1,2,3,4,5,6,8,9,10,11] []),(9,zK [1,3,5,8,10] [])],
 [],[]⟩
abbrev R21:=Bool
abbrev e21 (r:R21):List PA:=[.one (.bool r)]
@[irreducible] def z21:=ptF Tryd.prog G21 zI9 Tryd.f21
section
variable {K:List PA->Prop}{bv0:(Sl Span)}{ev0:Int}{zM4:Nat->List PV}{cv1:(Sl Use)}{fv1:Int}{zM5:Nat->List PV}{vv2:(Sl Int)}{gv2:Int}{zM6:Nat->List PV}{zew:Int}{zdX:(Sl Tie)}{zBG:Nat->List PV}{xv4:(Sl Use)}{hv4:Int}{zM7:Nat->List PV}{lv5:(Sl Int)}{iv5:Int}{zM8:Nat->List PV}
def zBH (bv0:(Sl Span)) (cv1:(Sl Use)) (vv2:(Sl Int)) (xv4:(Sl Use)) (lv5:(Sl Int)):Bool :=
  (cond (s32 bv0 (⟨3, zgj (zbE [(zbc (⟨(0:Int), (0:Int)⟩ : Span)), (zbc (⟨(5:Int), (8:Int)⟩ : Span)), (zbc (⟨(3:Int), (9:Int)⟩ : Span))])⟩ : (Sl Span)))
 (cond (s53 cv1 (⟨1, λ _ => (⟨(2:Int), true⟩ : Use)⟩ : (Sl Use)))
 (cond (s25 vv2 (⟨3, zar (zbE [(enc_3 (0:Int)), (enc_3 (5:Int)), (enc_3 (8:Int))])⟩ : (Sl Int)))
 (cond (s53 xv4 (⟨2, zdr (zbE [(zaW (⟨(2:Int), true⟩ : Use)), (zaW (⟨(3:Int), true⟩ : Use))])⟩ : (Sl Use)))
 (s25 lv5 (⟨1,λ _=>(2:Int)⟩:(Sl Int)))
 false)
 false)
 false)
 false)
def zBI (bv0:(Sl Span)) (cv1:(Sl Use)) (vv2:(Sl Int)) (xv4:(Sl Use)) (lv5:(Sl Int)):Bool :=
  (decide ((p32 bv0 (⟨3,zgj (zbE [(zbc (⟨(0:Int),(0:Int)⟩:Span)),(zbc (⟨(5:Int),(8:Int)⟩:Span)),(zbc (⟨(3:Int),(9:Int)⟩:Span))])⟩:(Sl Span))=true)) &&
 (cond (s32 bv0 (⟨3, zgj (zbE [(zbc (⟨(0:Int), (0:Int)⟩ : Span)), (zbc (⟨(5:Int), (8:Int)⟩ : Span)), (zbc (⟨(3:Int), (9:Int)⟩ : Span))])⟩ : (Sl Span)))
 (decide ((p53 cv1 (⟨1,λ _=>(⟨(2:Int),true⟩:Use)⟩:(Sl Use))=true)) &&
 (cond (s53 cv1 (⟨1, λ _ => (⟨(2:Int), true⟩ : Use)⟩ : (Sl Use)))
 (decide ((p25 vv2 (⟨3,zar (zbE [(enc_3 (0:Int)),(enc_3 (5:Int)),(enc_3 (8:Int))])⟩:(Sl Int))=true)) &&
 (cond (s25 vv2 (⟨3, zar (zbE [(enc_3 (0:Int)), (enc_3 (5:Int)), (enc_3 (8:Int))])⟩ : (Sl Int)))
 (decide ((p53 xv4 (⟨2,zdr (zbE [(zaW (⟨(2:Int),true⟩:Use)),(zaW (⟨(3:Int),true⟩:Use))])⟩:(Sl Use))=true)) &&
 (cond (s53 xv4 (⟨2, zdr (zbE [(zaW (⟨(2:Int), true⟩ : Use)), (zaW (⟨(3:Int), true⟩ : Use))])⟩ : (Sl Use)))
 (decide ((p25 lv5 (⟨1,λ _=>(2:Int)⟩:(Sl Int))=true)) &&
 true)
 true))
 true))
 true))
 true))
theorem zJa (hs:zBI bv0 cv1 vv2 xv4 lv5=true) (hk:K (e21 (zBH bv0 cv1 vv2 xv4 lv5))):z21 K [1,1,1,1,1,1,1,1] [] ⟨[(1,zS zbc 2 bv0),(3,zS zaW 2 cv1),(5,zS enc_3 1 vv2),(8,zS zaW 2 xv4),(10,zS enc_3 1 lv5)],[],[]⟩:=zaR (by kernel_rfl) (zaL hs λ hc hs=>And.intro (And.intro (zE zbc 2 bv0.get) (And.intro ((zeG [(⟨(3:Int),(9:Int)⟩:Span)]):IsE zbc 2 2 (zbE [(zbc (⟨(0:Int),(0:Int)⟩:Span)),(zbc (⟨(5:Int),(8:Int)⟩:Span)),(zbc (⟨(3:Int),(9:Int)⟩:Span))])) hc)) (zc hs hk (λ hs hk=>(zaL hs λ hc hs=>And.intro (And.intro (zE zaW 2 cv1.get) (And.intro (zyz:IsE zaW 2 2 (λ _=>(zaW (⟨(2:Int),true⟩:Use)))) hc)) (zc hs hk (λ hs hk=>(zaL hs λ hc hs=>And.intro (And.intro (zE enc_3 1 vv2.get) (And.intro ((zeG [(8:Int)]):IsE enc_3 1 1 (zbE [(enc_3 (0:Int)),(enc_3 (5:Int)),(enc_3 (8:Int))])) hc)) (zc hs hk (λ hs hk=>(zaL hs λ hc hs=>And.intro (And.intro (zE zaW 2 xv4.get) (And.intro ((zeG []):IsE zaW 2 2 (zbE [(zaW (⟨(2:Int),true⟩:Use)),(zaW (⟨(3:Int),true⟩:Use))])) hc)) (zc hs hk (λ hs hk=>(zaL hs λ hc hs=>And.intro (And.intro (zE enc_3 1 lv5.get) (And.intro (zyz:IsE enc_3 1 1 (λ _=>(enc_3 (2:Int)))) hc)) hk)) (λ hs hk=>hk)))) (λ hs hk=>hk)))) (λ hs hk=>hk)))) (λ hs hk=>hk)))
def zBJ (bv0:(Sl Span)) (ev0:Int) (cv1:(Sl Use)) (fv1:Int) (vv2:(Sl Int)) (gv2:Int) (xv4:(Sl Use)) (hv4:Int) (lv5:(Sl Int)) (iv5:Int):Bool :=
  (cond (ev0 != (0:Int))
 false
 (cond (fv1 != (0:Int))
 false
 (cond (gv2 != (0:Int))
 false
 (cond (hv4 != (0:Int))
 false
 (cond (iv5 != (0:Int))
 false
 (zBH bv0 cv1 vv2 xv4 lv5))))))
def zBK (bv0:(Sl Span)) (ev0:Int) (cv1:(Sl Use)) (fv1:Int) (vv2:(Sl Int)) (gv2:Int) (xv4:(Sl Use)) (hv4:Int) (lv5:(Sl Int)) (iv5:Int):Bool :=
  (cond (ev0 != (0:Int))
 true
 (cond (fv1 != (0:Int))
 true
 (cond (gv2 != (0:Int))
 true
 (cond (hv4 != (0:Int))
 true
 (cond (iv5 != (0:Int))
 true
 (zBI bv0 cv1 vv2 xv4 lv5))))))
theorem zJb (hs:zBK bv0 ev0 cv1 fv1 vv2 gv2 xv4 hv4 lv5 iv5=true) (hk:K (e21 (zBJ bv0 ev0 cv1 fv1 vv2 gv2 xv4 hv4 lv5 iv5))) (zPb:zM8=zg enc_3 lv5):z21 K [1,1,1,1,1,1,1] [] ⟨[(1,zS zbc 2 bv0),(2,zI ev0),(3,zS zaW 2 cv1),(4,zI fv1),(5,zS enc_3 1 vv2),(6,zI gv2),(8,zS zaW 2 xv4),(9,zI hv4),(10,zP (.sl lv5.len 1 zM8)),(11,zI iv5)],[],[]⟩:=by subst zPb;exact zaR (by kernel_rfl) (zc hs hk (λ hs hk=>hk) (λ hs hk=>(zc hs hk (λ hs hk=>hk) (λ hs hk=>(zc hs hk (λ hs hk=>hk) (λ hs hk=>(zc hs hk (λ hs hk=>hk) (λ hs hk=>(zc hs hk (λ hs hk=>hk) (λ hs hk=>(zJa hs hk)))))))))))
def zBL (bv0:(Sl Span)) (ev0:Int) (cv1:(Sl Use)) (fv1:Int) (vv2:(Sl Int)) (gv2:Int) (zew:Int) (zdX:(Sl Tie)) (xv4:(Sl Use)) (hv4:Int):Bool :=
  (zBJ bv0 ev0 cv1 fv1 vv2 gv2 xv4 hv4 ((s22 (⟨zew,zdX⟩:Net)).1) ((s22 (⟨zew,zdX⟩:Net)).2))
def zBM (bv0:(Sl Span)) (ev0:Int) (cv1:(Sl Use)) (fv1:Int) (vv2:(Sl Int)) (gv2:Int) (zew:Int) (zdX:(Sl Tie)) (xv4:(Sl Use)) (hv4:Int):Bool :=
  (decide ((p22 (⟨zew,zdX⟩:Net)=true)) &&
 (zBK bv0 ev0 cv1 fv1 vv2 gv2 xv4 hv4 ((s22 (⟨zew,zdX⟩:Net)).1) ((s22 (⟨zew,zdX⟩:Net)).2)))
theorem zJc (hs:zBM bv0 ev0 cv1 fv1 vv2 gv2 zew zdX xv4 hv4=true) (hk:K (e21 (zBL bv0 ev0 cv1 fv1 vv2 gv2 zew zdX xv4 hv4))) (zPc:zM7=zg zaW xv4):z21 K [1,1,1,1,1,1] [] ⟨[(1,zS zbc 2 bv0),(2,zI ev0),(3,zS zaW 2 cv1),(4,zI fv1),(5,zS enc_3 1 vv2),(6,zI gv2),(7,zp 7 0),(8,zP (.sl xv4.len 2 zM7)),(9,zI hv4)],[(7,.box 24 (zm (enc_24 (⟨zew,zdX⟩:Net))))],[]⟩:=by subst zPc;exact zaR (by kernel_rfl) (zaL hs λ hc hs=>And.intro (And.intro (zE zai 4 zdX.get) hc) (zJb hs hk rfl))
def zBN (bv0:(Sl Span)) (ev0:Int) (cv1:(Sl Use)) (fv1:Int) (vv2:(Sl Int)) (gv2:Int) (zew:Int) (zdX:(Sl Tie)):Bool :=
  (zBL bv0 ev0 cv1 fv1 vv2 gv2 zew zdX ((s49 (⟨zew,zdX⟩:Net)).1) ((s49 (⟨zew,zdX⟩:Net)).2))
def zBO (bv0:(Sl Span)) (ev0:Int) (cv1:(Sl Use)) (fv1:Int) (vv2:(Sl Int)) (gv2:Int) (zew:Int) (zdX:(Sl Tie)):Bool :=
  (decide ((p49 (⟨zew,zdX⟩:Net)=true)) &&
 (zBM bv0 ev0 cv1 fv1 vv2 gv2 zew zdX ((s49 (⟨zew,zdX⟩:Net)).1) ((s49 (⟨zew,zdX⟩:Net)).2)))
theorem zJd (hs:zBO bv0 ev0 cv1 fv1 vv2 gv2 zew zdX=true) (hk:K (e21 (zBN bv0 ev0 cv1 fv1 vv2 gv2 zew zdX))) (zJe:zBG=zg zai zdX):z21 K [1,1,1,1,1] [] ⟨[(1,zS zbc 2 bv0),(2,zI ev0),(3,zS zaW 2 cv1),(4,zI fv1),(5,zS enc_3 1 vv2),(6,zI gv2),(7,zp 7 0)],[(7,.box 24 [zi zew,.p (.sl zdX.len 4 zBG)])],[]⟩:=by subst zJe;exact zaR (by kernel_rfl) (zaL hs λ hc hs=>And.intro (And.intro (zE zai 4 zdX.get) hc) (zJc hs hk rfl))
def zBP (bv0:(Sl Span)) (ev0:Int) (cv1:(Sl Use)) (fv1:Int) (vv2:(Sl Int)) (gv2:Int):Bool :=
  (zBN bv0 ev0 cv1 fv1 vv2 gv2 ((s29 s66 (⟨(0:Int),(2:Int),(10:Int),(12:Int)⟩:Tie)).Nodes) ((s29 s66 (⟨(0:Int),(2:Int),(10:Int),(12:Int)⟩:Tie)).Ties))
def zBQ (bv0:(Sl Span)) (ev0:Int) (cv1:(Sl Use)) (fv1:Int) (vv2:(Sl Int)) (gv2:Int):Bool :=
  (decide ((p29 s66 (⟨(0:Int),(2:Int),(10:Int),(12:Int)⟩:Tie)=true)) &&
 (zBO bv0 ev0 cv1 fv1 vv2 gv2 ((s29 s66 (⟨(0:Int),(2:Int),(10:Int),(12:Int)⟩:Tie)).Nodes) ((s29 s66 (⟨(0:Int),(2:Int),(10:Int),(12:Int)⟩:Tie)).Ties)))
theorem zJf (hs:zBQ bv0 ev0 cv1 fv1 vv2 gv2=true) (hk:K (e21 (zBP bv0 ev0 cv1 fv1 vv2 gv2))) (zPd:zM6=zg enc_3 vv2):z21 K [1,1,1,1] [] ⟨[(1,zS zbc 2 bv0),(2,zI ev0),(3,zS zaW 2 cv1),(4,zI fv1),(5,zP (.sl vv2.len 1 zM6)),(6,zI gv2)],[],[]⟩:=by subst zPd;exact zaR (by kernel_rfl) (zaL hs λ hc hs=>And.intro (And.intro (zE zai 4 s66.Ties.get) hc) (zJd hs hk rfl))
def zBR (bv0:(Sl Span)) (ev0:Int) (cv1:(Sl Use)) (fv1:Int):Bool :=
  (zBP bv0 ev0 cv1 fv1 ((s45 s66 (1:Int) (0:Int)).1) ((s45 s66 (1:Int) (0:Int)).2))
def zBS (bv0:(Sl Span)) (ev0:Int) (cv1:(Sl Use)) (fv1:Int):Bool :=
  (decide ((p45 s66 (1:Int) (0:Int)=true)) &&
 (zBQ bv0 ev0 cv1 fv1 ((s45 s66 (1:Int) (0:Int)).1) ((s45 s66 (1:Int) (0:Int)).2)))
theorem zJg (hs:zBS bv0 ev0 cv1 fv1=true) (hk:K (e21 (zBR bv0 ev0 cv1 fv1))) (zPe:zM5=zg zaW cv1):z21 K [1,1,1] [] ⟨[(1,zS zbc 2 bv0),(2,zI ev0),(3,zP (.sl cv1.len 2 zM5)),(4,zI fv1)],[],[]⟩:=by subst zPe;exact zaR (by kernel_rfl) (zaL hs λ hc hs=>And.intro (And.intro (zE zai 4 s66.Ties.get) hc) (zJf hs hk rfl))
def zBT (bv0:(Sl Span)) (ev0:Int):Bool :=
  (zBR bv0 ev0 ((s54 s66 (0:Int) (2:Int)).1) ((s54 s66 (0:Int) (2:Int)).2))
def zBU (bv0:(Sl Span)) (ev0:Int):Bool :=
  (decide ((p54 s66 (0:Int) (2:Int)=true)) &&
 (zBS bv0 ev0 ((s54 s66 (0:Int) (2:Int)).1) ((s54 s66 (0:Int) (2:Int)).2)))
theorem zJh (hs:zBU bv0 ev0=true) (hk:K (e21 (zBT bv0 ev0))) (zPf:zM4=zg zbc bv0):z21 K [1,1] [] ⟨[(1,zP (.sl bv0.len 2 zM4)),(2,zI ev0)],[],[]⟩:=by subst zPf;exact zaR (by kernel_rfl) (zaL hs λ hc hs=>And.intro (And.intro (zE zai 4 s66.Ties.get) hc) (zJg hs hk rfl))
def s21:Bool :=
  (zBT ((s26 s66).1) ((s26 s66).2))
def p21:Bool :=
  (decide ((p26 s66=true)) &&
 (zBU ((s26 s66).1) ((s26 s66).2)))
end
theorem q21 (K:List PA->Prop) (hs:p21=true) (hk:K (e21 (s21))):vcFun Tryd.prog G21 zI9 21 [] K :=
  zaR (by kernel_rfl) (zaL hs λ hc hs=>And.intro (And.intro (zE zai 4 s66.Ties.get) hc) (zJh hs hk rfl))
theorem zM9:p21=true:=by kernel_rfl
theorem zNa:s21=true:=by kernel_rfl
def zJi : List PA → COut
  | []=>.tot [.one (.bool true)]
  | _=>.no
theorem zNb:zaw Tryd.prog 21:=⟨_,rfl,rfl,by kernel_rfl⟩
theorem zQ5:Ok Tryd.prog 21 zJi:=zbv zPa zNb λ args K h=>by
  unfold zJi at h
  split at h
  · refine ⟨fun _ _ => [], fun _ => false, zI9, q21 K zM9 ?_⟩
    show K [.one (.bool s21)]
    rw[zNa];exact h
  · exact h.elim
abbrev T72:Tabs:=Tabs.nil
theorem zPg:TabsOk Tryd.prog T72:=TabsOk.nil
abbrev G72:Ctrs:=csm T72 (λ _ _=>[]) (λ _=>false)
def zNc:Ann:=⟨15,[(0,zK [0,1,2] []),(1,zK [6] [])],
 [],
 [],
 [],[]⟩
abbrev R72:=Bool
abbrev e72 (r:R72):List PA:=[.one (.bool r)]
section
variable {K:List PA->Prop}{x:Int}{low:Int}{high:Int}
def s72 (x:Int) (low:Int) (high:Int):Bool :=
  (cond (decide (x ≥ low))
 (decide (x≤high))
 false)
end
theorem q72 (x:Int) (low:Int) (high:Int) (K:List PA->Prop) (hk:K (e72 (s72 x low high))):vcFun Tryd.prog G72 zNc 72 [.one (.int .i64 x),.one (.int .i64 low),.one (.int .i64 high)] K :=
  zaR (by kernel_rfl) (zt hk (λ hk=>hk) (λ hk=>hk))
def zwR : List PA → COut
  | [.one (.int .i64 a0),.one (.int .i64 a1),.one (.int .i64 a2)]=>.tot [.one (.bool (s72 a0 a1 a2))]
  | _=>.no
theorem zNd:zaw Tryd.prog 72:=⟨_,rfl,rfl,by kernel_rfl⟩
theorem zN3:Ok Tryd.prog 72 zwR:=zbv zPg zNd λ args K h=>by
  unfold zwR at h
  split at h
  · rename_i a0 a1 a2
    have hk:=h
    exact⟨(λ _ _=>[]),(λ _=>false),zNc,q72 a0 a1 a2 K hk⟩
  · exact h.elim
abbrev T36:Tabs:=(Tabs.nil.addF 72 zwR)
theorem zPh:TabsOk Tryd.prog T36:=(TabsOk.nil.addF zN3)
abbrev G36:Ctrs:=csm T36 (λ _ _=>[]) (λ _=>false)
def zJj:Ann:=⟨51,[(0,zK [0,3] [3]),(1,zK [3,32] [3]),(2,zK [4] []),(3,zK [4] [])],
 [],
 [(2,zK [3,32] [3]),(3,zK [3] [3])],
 [],[]⟩
abbrev R36:=Bool
abbrev e36 (r:R36):List PA:=[.one (.bool r)]
@[irreducible] def z36:=ptF Tryd.prog G36 zJj Tryd.f36
section
variable {K:List PA->Prop}{nodes:Int}{t:Tie}{zEk:Bool}
def ztd (t:Tie):Bool :=
  (cond (t.Low == (-1000000000000:Int))
 (cond (t.High == (1000000000000:Int))
 true
 (s72 t.High (-1000000000:Int) (1000000000:Int)))
 (cond (s72 t.Low (-1000000000:Int) (1000000000:Int))
 (cond (t.High == (1000000000000:Int))
 true
 (s72 t.High (-1000000000:Int) (1000000000:Int)))
 false))
theorem zJk (hk:K (e36 (ztd t))):z36 K [1,1] [] ⟨[(3,zp 3 0)],[(3,.box 40 (zm (zai t)))],[]⟩:=zaR (by kernel_rfl) (zt hk (λ hk=>(zt hk (λ hk=>hk) (λ hk=>hk))) (λ hk=>(zt hk (λ hk=>(zt hk (λ hk=>hk) (λ hk=>hk))) (λ hk=>hk))))
def zjt (t:Tie) (zEk:Bool):Bool :=
  (cond zEk
 false
 (ztd t))
theorem zoL (hk:K (e36 (zjt t zEk))):z36 K [1,0,1] [] ⟨[(3,zp 3 0),(32,zB zEk)],[(3,.box 40 (zm (zai t)))],[]⟩:=zaR (by kernel_rfl) (zt hk (λ hk=>hk) (λ hk=>(zJk hk)))
def s36 (nodes:Int) (t:Tie):Bool :=
  (cond (!(s72 t.From (0:Int) (w64 (nodes - (1:Int)))))
 (zjt t true)
 (cond (!(s72 t.To (0:Int) (w64 (nodes - (1:Int)))))
 (zjt t true)
 (cond (t.From == t.To)
 (zjt t true)
 (zjt t (decide (t.Low > t.High))))))
end
theorem q36 (nodes:Int) (t:Tie) (K:List PA->Prop) (hk:K (e36 (s36 nodes t))):vcFun Tryd.prog G36 zJj 36 [.one (.int .i64 nodes),.agg (zai t)] K :=
  zaR (by kernel_rfl) (zt hk (λ hk=>(zoL hk)) (λ hk=>(zt hk (λ hk=>(zoL hk)) (λ hk=>(zt hk (λ hk=>(zoL hk)) (λ hk=>(zoL hk)))))))
def zJl : List PA → COut
  | [.one (.int .i64 a0),.agg [.int .i64 zeY,.int .i64 zmO,.int .i64 zhw,.int .i64 zeZ]]=>.tot [.one (.bool (s36 a0 (⟨zeY,zmO,zhw,zeZ⟩:Tie)))]
  | _=>.no
theorem zNe:zaw Tryd.prog 36:=⟨_,rfl,rfl,by kernel_rfl⟩
theorem zQ6:Ok Tryd.prog 36 zJl:=zbv zPh zNe λ args K h=>by
  unfold zJl at h
  split at h
  · rename_i a0 zeY zmO zhw zeZ
    have hk:=h
    exact⟨(λ _ _=>[]),(λ _=>false),zJj,q36 a0 (⟨zeY,zmO,zhw,zeZ⟩:Tie) K hk⟩
  · exact h.elim
abbrev T23:Tabs:=((Tabs.nil.addF 36 zJl).addF 72 zwR)
theorem zPi:TabsOk Tryd.prog T23:=((TabsOk.nil.addF zQ6).addF zN3)
abbrev G23:Ctrs:=csm T23 (λ _ _=>[]) (λ _=>false)
def zJm:Ann:=⟨30,[(0,zK [1] [1]),(1,zK [1,13] [1]),(2,zK [2] []),(3,zK [1,3] [1]),(4,zK [1,3,18] [1]),(5,zK [1,3] [1]),(6,zK [1,3,29] [1]),(7,zK [2] []),(8,zK [2] [])],
 [(4,zK [1,3] [1])],
 [(2,zK [1,13] [1]),(3,zK [1] [1]),(7,zK [1,3,29] [1])],
 [],[]⟩
abbrev R23:=Bool
abbrev e23 (r:R23):List PA:=[.one (.bool r)]
@[irreducible] def z23:=ptF Tryd.prog G23 zJm Tryd.f23
def zFY (n:Net) (iv2:Int):St:=⟨[(1,zp 1 0),(3,zI iv2)],[(1,.box 24 (zm (enc_24 n)))],[]⟩
abbrev zJn (K:List PA->Prop) (n:Net) (X:St->Prop) (P:Int->Bool) (S:Int->Bool):Prop:=∀ ⦃iv2:Int⦄,P iv2=true->K (e23 (S iv2))->X (zFY n iv2)
section
variable {K:List PA->Prop}{n:Net}{zb1:Bool}{iv2:Int}{X2:St->Prop}{P2:Int->Bool}{S2:Int->Bool}{iv3:Int}{zte:Bool}
def ztf (S2:Int->Bool) (n:Net) (iv3:Int) (zte:Bool):Bool :=
  (cond zte
 false
 (S2 (w64 (iv3+(1:Int)))))
def ztg (P2:Int->Bool) (n:Net) (iv3:Int) (zte:Bool):Bool :=
  (cond zte
 true
 (P2 (w64 (iv3+(1:Int)))))
theorem zJo (hX2:zJn K n X2 P2 S2) (hs:ztg P2 n iv3 zte=true) (hk:K (e23 (ztf S2 n iv3 zte))):z23 K [1,1,0,1,0,0,1,0,0,1] [X2] ⟨[(1,zp 1 0),(3,zI iv3),(29,zB zte)],[(1,.box 24 (zm (enc_24 n)))],[]⟩:=zaR (by kernel_rfl) (zc hs hk (λ hs hk=>hk) (λ hs hk=>(hX2 hs hk)))
def zju (n:Net) (S2:Int->Bool) (iv2:Int):Bool :=
  (cond (decide (iv2 < (n.Ties.len : Int)))
 (ztf S2 n iv2 (!(s36 n.Nodes (n.Ties.get iv2.toNat))))
 true)
def zjv (n:Net) (P2:Int->Bool) (iv2:Int):Bool :=
  (cond (decide (iv2 < (n.Ties.len : Int)))
 (decide ((0≤iv2/\iv2 < (n.Ties.len:Int))) &&
 (ztg P2 n iv2 (!(s36 n.Nodes (n.Ties.get iv2.toNat)))))
 true)
def zhO (n:Net):Nat->Int->Bool:=lpO (λ _=>default) (zju n)
def zjw (n:Net):Nat->Int->Bool:=lpO (λ _=>false) (zjv n)
def zth (n:Net) (iv2:Int):Bool:=zhO n Fuel iv2
def zti (n:Net) (iv2:Int):Bool:=zjw n Fuel iv2
theorem zJp (hs:zti n iv2=true) (hk:K (e23 (zth n iv2))):z23 K [1,1,0,1,0] [] (zFY n iv2) :=
  zl (λ X=>z23 K [1,1,0,1,0,0] [X]) (by kernel_rfl) λ X2 hX =>
  (show ∀ k, zJn K n X2 (zjw n k) (zhO n k) from zdU _ _ (zjv n) (zju n) (zJn K n X2)
 (by intro _ hs;exact absurd hs Bool.false_ne_true)
 (by intro P2 S2 hX2 iv2 hs hk;exact hX _ (zaR (by kernel_rfl) (zc hs hk (λ hs hk=>(zaL hs λ hc hs=>And.intro hc (zJo hX2 hs hk))) (λ hs hk=>hk))))) _ hs hk
def ztj (n:Net):Bool :=
  (zth n (0:Int))
def ztk (n:Net):Bool :=
  (zti n (0:Int))
theorem zJq (hs:ztk n=true) (hk:K (e23 (ztj n))):z23 K [1,1] [] ⟨[(1,zp 1 0)],[(1,.box 24 (zm (enc_24 n)))],[]⟩:=zaR (by kernel_rfl) (zJp hs hk)
def zoM (n:Net) (zb1:Bool):Bool :=
  (cond zb1
 false
 (ztj n))
def zoN (n:Net) (zb1:Bool):Bool :=
  (cond zb1
 true
 (ztk n))
theorem zBV (hs:zoN n zb1=true) (hk:K (e23 (zoM n zb1))):z23 K [1,0,1] [] ⟨[(1,zp 1 0),(13,zB zb1)],[(1,.box 24 (zm (enc_24 n)))],[]⟩:=zaR (by kernel_rfl) (zc hs hk (λ hs hk=>hk) (λ hs hk=>(zJq hs hk)))
def s23 (n:Net):Bool :=
  (cond (!(s72 n.Nodes (1:Int) (40:Int)))
 (zoM n true)
 (zoM n (decide ((n.Ties.len:Int) > (200:Int)))))
def p23 (n:Net):Bool :=
  (cond (!(s72 n.Nodes (1:Int) (40:Int)))
 (zoN n true)
 (zoN n (decide ((n.Ties.len:Int) > (200:Int)))))
end
theorem q23 (n:Net) (K:List PA->Prop) (hs:p23 n=true) (hk:K (e23 (s23 n))):vcFun Tryd.prog G23 zJm 23 [.agg (enc_24 n)] K :=
  zaR (by kernel_rfl) (zc hs hk (λ hs hk=>(zBV hs hk)) (λ hs hk=>(zBV hs hk)))
def zEl : List PA → COut
  | [.agg [.int .i64 zal,.sl zak zaI zaj]]=>.det (IsE zai 4 zaI zaj/\p23 (⟨zal,(⟨zak,zaq zaj⟩:(Sl Tie))⟩:Net)=true) [.one (.bool (s23 (⟨zal,(⟨zak,zaq zaj⟩:(Sl Tie))⟩:Net)))]
  | _=>.no
theorem zNf:zaw Tryd.prog 23:=⟨_,rfl,rfl,by kernel_rfl⟩
theorem zQa:Ok Tryd.prog 23 zEl:=zbv zPi zNf λ args K h=>by
  unfold zEl at h
  split at h
  · rename_i zal zak zaI zaj
    obtain⟨⟨⟨rfl,zaB,rfl⟩,hs⟩,hk⟩:=h
    try rw[zat zaB] at hs
    try rw[zat zaB] at hk
    exact⟨(λ _ _=>[]),(λ _=>false),zJm,q23 (⟨zal,(⟨zak,zaB⟩:(Sl Tie))⟩:Net) K hs hk⟩
  · exact h.elim
abbrev T39:Tabs:=Tabs.nil
theorem zPj:TabsOk Tryd.prog T39:=TabsOk.nil
abbrev G39:Ctrs:=csm T39 (λ _ _=>[]) (λ _=>false)
def zNg:Ann:=⟨37,[(0,zK [1,2] [2]),(1,zK [2,5] [2]),(2,zK [4] [])],
 [],
 [],
 [],[]⟩
abbrev R39:=Bool
abbrev e39 (r:R39):List PA:=[.one (.bool r)]
section
variable {K:List PA->Prop}{t:Tie}{zae:(Sl Int)}
def s39 (t:Tie) (zae:(Sl Int)):Bool :=
  (cond (t.Low == (-1000000000000:Int))
 (cond (t.High == (1000000000000:Int))
 true
 (decide ((w64 ((zae.get t.To.toNat) - (zae.get t.From.toNat)))≤t.High)))
 (cond (decide ((w64 ((zae.get t.To.toNat) - (zae.get t.From.toNat))) ≥ t.Low))
 (cond (t.High == (1000000000000:Int))
 true
 (decide ((w64 ((zae.get t.To.toNat) - (zae.get t.From.toNat)))≤t.High)))
 false))
def p39 (t:Tie) (zae:(Sl Int)):Bool :=
  (decide ((0≤t.To/\t.To < (zae.len:Int))) &&
 (decide ((0≤t.From/\t.From < (zae.len:Int))) &&
 true))
end
theorem q39 (t:Tie) (zae:(Sl Int)) (K:List PA->Prop) (hs:p39 t zae=true) (hk:K (e39 (s39 t zae))):vcFun Tryd.prog G39 zNg 39 [.agg (zai t),.one (.sl zae.len 1 (λ i=>enc_3 (zae.get i)))] K :=
  zaR (by kernel_rfl) (zaL hs λ hc hs=>And.intro hc (zaL hs λ hc hs=>And.intro hc (zt hk (λ hk=>(zt hk (λ hk=>hk) (λ hk=>hk))) (λ hk=>(zt hk (λ hk=>(zt hk (λ hk=>hk) (λ hk=>hk))) (λ hk=>hk))))))
def zJr : List PA → COut
  | [.agg [.int .i64 zgk,.int .i64 zqN,.int .i64 zkj,.int .i64 zgl],.one (.sl zcz zfx zcw)]=>.det (IsE enc_3 1 zfx zcw/\p39 (⟨zgk,zqN,zkj,zgl⟩:Tie) (⟨zcz,zar zcw⟩:(Sl Int))=true) [.one (.bool (s39 (⟨zgk,zqN,zkj,zgl⟩:Tie) (⟨zcz,zar zcw⟩:(Sl Int))))]
  | _=>.no
theorem zNh:zaw Tryd.prog 39:=⟨_,rfl,rfl,by kernel_rfl⟩
theorem zQ7:Ok Tryd.prog 39 zJr:=zbv zPj zNh λ args K h=>by
  unfold zJr at h
  split at h
  · rename_i zgk zqN zkj zgl zcz zfx zcw
    obtain⟨⟨⟨rfl,zdV,rfl⟩,hs⟩,hk⟩:=h
    try rw[zaV zdV] at hs
    try rw[zaV zdV] at hk
    exact⟨(λ _ _=>[]),(λ _=>false),zNg,q39 (⟨zgk,zqN,zkj,zgl⟩:Tie) (⟨zcz,zdV⟩:(Sl Int)) K hs hk⟩
  · exact h.elim
abbrev T80:Tabs:=(Tabs.nil.addF 72 zwR)
theorem zPk:TabsOk Tryd.prog T80:=(TabsOk.nil.addF zN3)
abbrev G80:Ctrs:=csm T80 (λ _ _=>[]) (λ _=>false)
def zJs:Ann:=⟨29,[(0,zK [1,2] [2]),(1,zK [1,16] []),(2,zK [4] []),(3,zK [1,5] []),(4,zK [1,5,20] []),(5,zK [1,5] []),(6,zK [1,5,28] []),(7,zK [4] []),(8,zK [4] [])],
 [(4,zK [1,5] [])],
 [(3,zK [1] []),(7,zK [1,5,28] [])],
 [],[]⟩
abbrev R80:=Bool
abbrev e80 (r:R80):List PA:=[.one (.bool r)]
@[irreducible] def z80:=ptF Tryd.prog G80 zJs Tryd.f80
def zFZ (zae:(Sl Int)) (iv1:Int):St:=⟨[(1,zS enc_3 1 zae),(5,zI iv1)],[],[]⟩
abbrev zJt (K:List PA->Prop) (zae:(Sl Int)) (X:St->Prop) (P:Int->Bool) (S:Int->Bool):Prop:=∀ ⦃iv1:Int⦄,P iv1=true->K (e80 (S iv1))->X (zFZ zae iv1)
section
variable {K:List PA->Prop}{n:Net}{zae:(Sl Int)}{iv1:Int}{X1:St->Prop}{P1:Int->Bool}{S1:Int->Bool}{iv2:Int}{zcV:Bool}
def ztl (S1:Int->Bool) (zae:(Sl Int)) (iv2:Int) (zcV:Bool):Bool :=
  (cond zcV
 false
 (S1 (w64 (iv2+(1:Int)))))
def ztm (P1:Int->Bool) (zae:(Sl Int)) (iv2:Int) (zcV:Bool):Bool :=
  (cond zcV
 true
 (P1 (w64 (iv2+(1:Int)))))
theorem zJu (hX1:zJt K zae X1 P1 S1) (hs:ztm P1 zae iv2 zcV=true) (hk:K (e80 (ztl S1 zae iv2 zcV))):z80 K [1,1,0,1,0,0,1,0,0,1] [X1] ⟨[(1,zS enc_3 1 zae),(5,zI iv2),(28,zB zcV)],[],[]⟩:=zaR (by kernel_rfl) (zc hs hk (λ hs hk=>hk) (λ hs hk=>(hX1 hs hk)))
def zjx (zae:(Sl Int)) (S1:Int->Bool) (iv1:Int):Bool :=
  (cond (decide (iv1 < (zae.len : Int)))
 (ztl S1 zae iv1 (!(s72 (zae.get iv1.toNat) (-1000000000000:Int) (1000000000000:Int))))
 true)
def zjy (zae:(Sl Int)) (P1:Int->Bool) (iv1:Int):Bool :=
  (cond (decide (iv1 < (zae.len : Int)))
 (decide ((0≤iv1/\iv1 < (zae.len:Int))) &&
 (ztm P1 zae iv1 (!(s72 (zae.get iv1.toNat) (-1000000000000:Int) (1000000000000:Int)))))
 true)
def zhP (zae:(Sl Int)):Nat->Int->Bool:=lpO (λ _=>default) (zjx zae)
def zjz (zae:(Sl Int)):Nat->Int->Bool:=lpO (λ _=>false) (zjy zae)
def ztn (zae:(Sl Int)) (iv1:Int):Bool:=zhP zae Fuel iv1
def zto (zae:(Sl Int)) (iv1:Int):Bool:=zjz zae Fuel iv1
theorem zJv (hs:zto zae iv1=true) (hk:K (e80 (ztn zae iv1))):z80 K [1,1,0,1,0] [] (zFZ zae iv1) :=
  zl (λ X=>z80 K [1,1,0,1,0,0] [X]) (by kernel_rfl) λ X1 hX =>
  (show ∀ k, zJt K zae X1 (zjz zae k) (zhP zae k) from zdU _ _ (zjy zae) (zjx zae) (zJt K zae X1)
 (by intro _ hs;exact absurd hs Bool.false_ne_true)
 (by intro P1 S1 hX1 iv1 hs hk;exact hX _ (zaR (by kernel_rfl) (zc hs hk (λ hs hk=>(zaL hs λ hc hs=>And.intro hc (zJu hX1 hs hk))) (λ hs hk=>hk))))) _ hs hk
def ztp (zae:(Sl Int)):Bool :=
  (ztn zae (0:Int))
def ztq (zae:(Sl Int)):Bool :=
  (zto zae (0:Int))
theorem zJw (hs:ztq zae=true) (hk:K (e80 (ztp zae))):z80 K [1,1] [] ⟨[(1,zS enc_3 1 zae)],[],[]⟩:=zaR (by kernel_rfl) (zJv hs hk)
def s80 (n:Net) (zae:(Sl Int)):Bool :=
  (cond ((zae.len : Int) != n.Nodes)
 false
 (cond ((zae.get 0) != (0:Int))
 false
 (ztp zae)))
def p80 (n:Net) (zae:(Sl Int)):Bool :=
  (cond ((zae.len : Int) != n.Nodes)
 true
 (decide ((0≤(0:Int)/\(0:Int) < (zae.len:Int))) &&
 (cond ((zae.get 0) != (0:Int))
 true
 (ztq zae))))
end
theorem q80 (n:Net) (zae:(Sl Int)) (K:List PA->Prop) (hs:p80 n zae=true) (hk:K (e80 (s80 n zae))):vcFun Tryd.prog G80 zJs 80 [.agg (enc_24 n),.one (.sl zae.len 1 (λ i=>enc_3 (zae.get i)))] K :=
  zaR (by kernel_rfl) (zc hs hk (λ hs hk=>hk) (λ hs hk=>(zaL hs λ hc hs=>And.intro hc (zc hs hk (λ hs hk=>hk) (λ hs hk=>(zJw hs hk))))))
def zJx : List PA → COut
  | [.agg [.int .i64 zal,.sl zak zaI zaj],.one (.sl zcz zfx zcw)]=>.det (IsE zai 4 zaI zaj/\IsE enc_3 1 zfx zcw/\p80 (⟨zal,(⟨zak,zaq zaj⟩:(Sl Tie))⟩:Net) (⟨zcz,zar zcw⟩:(Sl Int))=true) [.one (.bool (s80 (⟨zal,(⟨zak,zaq zaj⟩:(Sl Tie))⟩:Net) (⟨zcz,zar zcw⟩:(Sl Int))))]
  | _=>.no
theorem zNi:zaw Tryd.prog 80:=⟨_,rfl,rfl,by kernel_rfl⟩
theorem zQ8:Ok Tryd.prog 80 zJx:=zbv zPk zNi λ args K h=>by
  unfold zJx at h
  split at h
  · rename_i zal zak zaI zaj zcz zfx zcw
    obtain⟨⟨⟨rfl,zaB,rfl⟩,⟨rfl,zdV,rfl⟩,hs⟩,hk⟩:=h
    try rw[zat zaB] at hs
    try rw[zat zaB] at hk
    try rw[zaV zdV] at hs
    try rw[zaV zdV] at hk
    exact⟨(λ _ _=>[]),(λ _=>false),zJs,q80 (⟨zal,(⟨zak,zaB⟩:(Sl Tie))⟩:Net) (⟨zcz,zdV⟩:(Sl Int)) K hs hk⟩
  · exact h.elim
abbrev T38:Tabs:=((Tabs.nil.addF 39 zJr).addF 80 zJx)
theorem zPl:TabsOk Tryd.prog T38:=((TabsOk.nil.addF zQ7).addF zQ8)
abbrev G38:Ctrs:=csm T38 (λ _ _=>[]) (λ _=>false)
def zJy:Ann:=⟨25,[(0,zK [1,2] [2]),(1,zK [1,2,9] [2]),(2,zK [4] []),(3,zK [1,2,5] [2]),(4,zK [1,2,5,14] [2]),(5,zK [1,2,5] [2]),(6,zK [1,2,5,24] [2]),(7,zK [4] []),(8,zK [4] [])],
 [(4,zK [1,2,5] [2])],
 [(2,zK [1,2,9] [2]),(3,zK [1,2] [2]),(7,zK [1,2,5,24] [2])],
 [],[]⟩
abbrev R38:=Bool
abbrev e38 (r:R38):List PA:=[.one (.bool r)]
@[irreducible] def z38:=ptF Tryd.prog G38 zJy Tryd.f38
def zF0 (n:Net) (zae:(Sl Int)) (iv2:Int):St:=⟨[(1,zS enc_3 1 zae),(2,zp 2 0),(5,zI iv2)],[(2,.box 24 (zm (enc_24 n)))],[]⟩
abbrev zJz (K:List PA->Prop) (n:Net) (zae:(Sl Int)) (X:St->Prop) (P:Int->Bool) (S:Int->Bool):Prop:=∀ ⦃iv2:Int⦄,P iv2=true->K (e38 (S iv2))->X (zF0 n zae iv2)
section
variable {K:List PA->Prop}{n:Net}{zae:(Sl Int)}{zhN:Bool}{iv2:Int}{X2:St->Prop}{P2:Int->Bool}{S2:Int->Bool}{iv3:Int}{ztr:Bool}
def zts (S2:Int->Bool) (n:Net) (zae:(Sl Int)) (iv3:Int) (ztr:Bool):Bool :=
  (cond ztr
 false
 (S2 (w64 (iv3+(1:Int)))))
def ztt (P2:Int->Bool) (n:Net) (zae:(Sl Int)) (iv3:Int) (ztr:Bool):Bool :=
  (cond ztr
 true
 (P2 (w64 (iv3+(1:Int)))))
theorem zJA (hX2:zJz K n zae X2 P2 S2) (hs:ztt P2 n zae iv3 ztr=true) (hk:K (e38 (zts S2 n zae iv3 ztr))):z38 K [1,1,0,1,0,0,1,0,0,1] [X2] ⟨[(1,zS enc_3 1 zae),(2,zp 2 0),(5,zI iv3),(24,zB ztr)],[(2,.box 24 (zm (enc_24 n)))],[]⟩:=zaR (by kernel_rfl) (zc hs hk (λ hs hk=>hk) (λ hs hk=>(hX2 hs hk)))
def zjA (n:Net) (zae:(Sl Int)) (S2:Int->Bool) (iv2:Int):Bool :=
  (cond (decide (iv2 < (n.Ties.len : Int)))
 (zts S2 n zae iv2 (!(s39 (n.Ties.get iv2.toNat) zae)))
 true)
def zjB (n:Net) (zae:(Sl Int)) (P2:Int->Bool) (iv2:Int):Bool :=
  (cond (decide (iv2 < (n.Ties.len : Int)))
 (decide ((0≤iv2/\iv2 < (n.Ties.len:Int))) &&
 (decide ((p39 (n.Ties.get iv2.toNat) zae=true)) &&
 (ztt P2 n zae iv2 (!(s39 (n.Ties.get iv2.toNat) zae)))))
 true)
def zjC (n:Net) (zae:(Sl Int)):Nat->Int->Bool:=lpO (λ _=>default) (zjA n zae)
def zjD (n:Net) (zae:(Sl Int)):Nat->Int->Bool:=lpO (λ _=>false) (zjB n zae)
def ztu (n:Net) (zae:(Sl Int)) (iv2:Int):Bool:=zjC n zae Fuel iv2
def ztv (n:Net) (zae:(Sl Int)) (iv2:Int):Bool:=zjD n zae Fuel iv2
theorem zJB (hs:ztv n zae iv2=true) (hk:K (e38 (ztu n zae iv2))):z38 K [1,1,0,1,0] [] (zF0 n zae iv2) :=
  zl (λ X=>z38 K [1,1,0,1,0,0] [X]) (by kernel_rfl) λ X2 hX =>
  (show ∀ k, zJz K n zae X2 (zjD n zae k) (zjC n zae k) from zdU _ _ (zjB n zae) (zjA n zae) (zJz K n zae X2)
 (by intro _ hs;exact absurd hs Bool.false_ne_true)
 (by intro P2 S2 hX2 iv2 hs hk;exact hX _ (zaR (by kernel_rfl) (zc hs hk (λ hs hk=>(zaL hs λ hc hs=>And.intro hc (zaL hs λ hc hs=>And.intro (And.intro (zE enc_3 1 zae.get) hc) (zJA hX2 hs hk)))) (λ hs hk=>hk))))) _ hs hk
def ztw (n:Net) (zae:(Sl Int)):Bool :=
  (ztu n zae (0:Int))
def ztx (n:Net) (zae:(Sl Int)):Bool :=
  (ztv n zae (0:Int))
theorem zJC (hs:ztx n zae=true) (hk:K (e38 (ztw n zae))):z38 K [1,1] [] ⟨[(1,zS enc_3 1 zae),(2,zp 2 0)],[(2,.box 24 (zm (enc_24 n)))],[]⟩:=zaR (by kernel_rfl) (zJB hs hk)
def zty (n:Net) (zae:(Sl Int)) (zhN:Bool):Bool :=
  (cond zhN
 false
 (ztw n zae))
def ztz (n:Net) (zae:(Sl Int)) (zhN:Bool):Bool :=
  (cond zhN
 true
 (ztx n zae))
theorem zJD (hs:ztz n zae zhN=true) (hk:K (e38 (zty n zae zhN))):z38 K [1,0,1] [] ⟨[(1,zS enc_3 1 zae),(2,zp 2 0),(9,zB zhN)],[(2,.box 24 (zm (enc_24 n)))],[]⟩:=zaR (by kernel_rfl) (zc hs hk (λ hs hk=>hk) (λ hs hk=>(zJC hs hk)))
def s38 (n:Net) (zae:(Sl Int)):Bool :=
  (zty n zae (!(s80 n zae)))
def p38 (n:Net) (zae:(Sl Int)):Bool :=
  (decide ((p80 n zae=true)) &&
 (ztz n zae (!(s80 n zae))))
end
theorem q38 (n:Net) (zae:(Sl Int)) (K:List PA->Prop) (hs:p38 n zae=true) (hk:K (e38 (s38 n zae))):vcFun Tryd.prog G38 zJy 38 [.agg (enc_24 n),.one (.sl zae.len 1 (λ i=>enc_3 (zae.get i)))] K :=
  zaR (by kernel_rfl) (zaL hs λ hc hs=>And.intro (And.intro (zE zai 4 n.Ties.get) (And.intro (zE enc_3 1 zae.get) hc)) (zJD hs hk))
def zJE : List PA → COut
  | [.agg [.int .i64 zal,.sl zak zaI zaj],.one (.sl zcz zfx zcw)]=>.det (IsE zai 4 zaI zaj/\IsE enc_3 1 zfx zcw/\p38 (⟨zal,(⟨zak,zaq zaj⟩:(Sl Tie))⟩:Net) (⟨zcz,zar zcw⟩:(Sl Int))=true) [.one (.bool (s38 (⟨zal,(⟨zak,zaq zaj⟩:(Sl Tie))⟩:Net) (⟨zcz,zar zcw⟩:(Sl Int))))]
  | _=>.no
theorem zNj:zaw Tryd.prog 38:=⟨_,rfl,rfl,by kernel_rfl⟩
theorem zQ9:Ok Tryd.prog 38 zJE:=zbv zPl zNj λ args K h=>by
  unfold zJE at h
  split at h
  · rename_i zal zak zaI zaj zcz zfx zcw
    obtain⟨⟨⟨rfl,zaB,rfl⟩,⟨rfl,zdV,rfl⟩,hs⟩,hk⟩:=h
    try rw[zat zaB] at hs
    try rw[zat zaB] at hk
    try rw[zaV zdV] at hs
    try rw[zaV zdV] at hk
    exact⟨(λ _ _=>[]),(λ _=>false),zJy,q38 (⟨zal,(⟨zak,zaB⟩:(Sl Tie))⟩:Net) (⟨zcz,zdV⟩:(Sl Int)) K hs hk⟩
  · exact h.elim
abbrev T48:Tabs:=((Tabs.nil.addF 67 zsg).addF 81 zsd)
theorem zPm:TabsOk Tryd.prog T48:=((TabsOk.nil.addF zLW).addF zLT)
abbrev G48:Ctrs:=csm T48 (λ _ _=>[]) (λ _=>false)
def zJF:Ann:=⟨75,[(0,zK [1,2] [2]),(1,zK [1,2,25] [2]),(2,zK [4] []),(3,zK [1,2,26,27,28] [2]),(4,zK [1,2,26,27,28,29] [2]),(5,zK [1,2,6,26,27,28] [2]),(6,zK [1,2,26,27,28,34] [2]),(7,zK [4] []),(8,zK [1,2,26,27,28] [2]),(9,zK [1,37,38,39] []),(10,zK [1,37,38,39,40] []),(11,zK [1,8,37,38,39] [8]),(12,zK [1,8,9,37,38,39] [8]),(13,zK [1,37,38,39,73] []),(14,zK [4] []),(15,zK [1,37,38,39] []),(16,zK [4] [])],
 [(4,zK [1,2,26,27,28] [2]),(10,zK [1,37,38,39] [])],
 [(2,zK [1,2,25] [2]),(3,zK [1,2] [2]),(7,zK [1,2,26,27,28,34] [2]),(9,zK [1,2] [2])],
 [],[]⟩
abbrev R48:=Bool
abbrev e48 (r:R48):List PA:=[.one (.bool r)]
@[irreducible] def z48:=ptF Tryd.prog G48 zJF Tryd.f48
def zF1 (n:Net) (zae:(Sl Int)) (zcV:Int):St:=⟨[(1,zS enc_3 1 zae),(2,zp 2 0),(26,zS enc_3 1 zae),(27,zI (zae.len:Int)),(28,zI zcV)],[(2,.box 24 (zm (enc_24 n)))],[]⟩
abbrev zJG (K:List PA->Prop) (n:Net) (zae:(Sl Int)) (X:St->Prop) (P:Int->Bool) (S:Int->Bool):Prop:=∀ ⦃zcV:Int⦄,P zcV=true->K (e48 (S zcV))->X (zF1 n zae zcV)
def zF2 (n:Net) (zae:(Sl Int)) (zbC:Int):St:=⟨[(1,zS enc_3 1 zae),(37,zS zai 4 n.Ties),(38,zI (n.Ties.len:Int)),(39,zI zbC)],[],[]⟩
abbrev zNk (K:List PA->Prop) (n:Net) (zae:(Sl Int)) (X:St->Prop) (P:Int->Bool) (S:Int->Bool):Prop:=∀ ⦃zbC:Int⦄,P zbC=true->K (e48 (S zbC))->X (zF2 n zae zbC)
section
variable {K:List PA->Prop}{n:Net}{zae:(Sl Int)}{ztA:Bool}{zcV:Int}{X2:St->Prop}{P2:Int->Bool}{S2:Int->Bool}{ztB:Int}{ztC:Bool}{zbC:Int}{X5:St->Prop}{P5:Int->Bool}{S5:Int->Bool}
def zjE (n:Net) (zae:(Sl Int)) (S5:Int->Bool) (zbC:Int):Bool :=
  (cond (decide (zbC < (n.Ties.len : Int)))
 (cond ((n.Ties.get zbC.toNat).Low != (-1000000000000:Int))
 (cond (decide ((w64 ((zae.get (((n.Ties.get zbC.toNat).To).toNat)) - (zae.get (((n.Ties.get zbC.toNat).From).toNat)))) < (n.Ties.get zbC.toNat).Low))
 false
 (cond ((n.Ties.get zbC.toNat).High != (1000000000000:Int))
 (cond (decide ((w64 ((zae.get (((n.Ties.get zbC.toNat).To).toNat)) - (zae.get (((n.Ties.get zbC.toNat).From).toNat)))) > (n.Ties.get zbC.toNat).High))
 false
 (S5 (w64 (zbC+(1:Int)))))
 (S5 (w64 (zbC+(1:Int))))))
 (cond ((n.Ties.get zbC.toNat).High != (1000000000000:Int))
 (cond (decide ((w64 ((zae.get (((n.Ties.get zbC.toNat).To).toNat)) - (zae.get (((n.Ties.get zbC.toNat).From).toNat)))) > (n.Ties.get zbC.toNat).High))
 false
 (S5 (w64 (zbC+(1:Int)))))
 (S5 (w64 (zbC+(1:Int))))))
 true)
def zjF (n:Net) (zae:(Sl Int)) (P5:Int->Bool) (zbC:Int):Bool :=
  (cond (decide (zbC < (n.Ties.len : Int)))
 (decide ((0≤zbC/\zbC < (n.Ties.len:Int))) &&
 (decide ((0≤(n.Ties.get zbC.toNat).To/\(n.Ties.get zbC.toNat).To < (zae.len:Int))) &&
 (decide ((0≤(n.Ties.get zbC.toNat).From/\(n.Ties.get zbC.toNat).From < (zae.len:Int))) &&
 (cond ((n.Ties.get zbC.toNat).Low != (-1000000000000:Int))
 (cond (decide ((w64 ((zae.get (((n.Ties.get zbC.toNat).To).toNat)) - (zae.get (((n.Ties.get zbC.toNat).From).toNat)))) < (n.Ties.get zbC.toNat).Low))
 true
 (cond ((n.Ties.get zbC.toNat).High != (1000000000000:Int))
 (cond (decide ((w64 ((zae.get (((n.Ties.get zbC.toNat).To).toNat)) - (zae.get (((n.Ties.get zbC.toNat).From).toNat)))) > (n.Ties.get zbC.toNat).High))
 true
 (P5 (w64 (zbC+(1:Int)))))
 (P5 (w64 (zbC+(1:Int))))))
 (cond ((n.Ties.get zbC.toNat).High != (1000000000000:Int))
 (cond (decide ((w64 ((zae.get (((n.Ties.get zbC.toNat).To).toNat)) - (zae.get (((n.Ties.get zbC.toNat).From).toNat)))) > (n.Ties.get zbC.toNat).High))
 true
 (P5 (w64 (zbC+(1:Int)))))
 (P5 (w64 (zbC+(1:Int)))))))))
 true)
def zjG (n:Net) (zae:(Sl Int)):Nat->Int->Bool:=lpO (λ _=>default) (zjE n zae)
def zjH (n:Net) (zae:(Sl Int)):Nat->Int->Bool:=lpO (λ _=>false) (zjF n zae)
def zBW (n:Net) (zae:(Sl Int)) (zbC:Int):Bool:=zjG n zae Fuel zbC
def zBX (n:Net) (zae:(Sl Int)) (zbC:Int):Bool:=zjH n zae Fuel zbC
theorem zJH (hs:zBX n zae zbC=true) (hk:K (e48 (zBW n zae zbC))):z48 K [1,1,1,0,1,0] [] (zF2 n zae zbC) :=
  zl (λ X=>z48 K [1,1,1,0,1,0,0] [X]) (by kernel_rfl) λ X5 hX =>
  (show ∀ k, zNk K n zae X5 (zjH n zae k) (zjG n zae k) from zdU _ _ (zjF n zae) (zjE n zae) (zNk K n zae X5)
 (by intro _ hs;exact absurd hs Bool.false_ne_true)
 (by intro P5 S5 hX5 zbC hs hk;exact hX _ (zaR (by kernel_rfl) (zc hs hk (λ hs hk=>(zaL hs λ hc hs=>And.intro hc (zaL hs λ hc hs=>And.intro hc (zaL hs λ hc hs=>And.intro hc (zc hs hk (λ hs hk=>(zc hs hk (λ hs hk=>hk) (λ hs hk=>(zc hs hk (λ hs hk=>(zc hs hk (λ hs hk=>hk) (λ hs hk=>(hX5 hs hk)))) (λ hs hk=>(hX5 hs hk)))))) (λ hs hk=>(zc hs hk (λ hs hk=>(zc hs hk (λ hs hk=>hk) (λ hs hk=>(hX5 hs hk)))) (λ hs hk=>(hX5 hs hk))))))))) (λ hs hk=>hk))))) _ hs hk
def zmk (n:Net) (zae:(Sl Int)):Bool :=
  (zBW n zae (0:Int))
def zoO (n:Net) (zae:(Sl Int)):Bool :=
  (zBX n zae (0:Int))
theorem zJI (hs:zoO n zae=true) (hk:K (e48 (zmk n zae))):z48 K [1,1,1] [] ⟨[(1,zS enc_3 1 zae),(2,zp 2 0)],[(2,.box 24 (zm (enc_24 n)))],[]⟩:=zaR (by kernel_rfl) (zJH hs hk)
def zoP (S2:Int->Bool) (n:Net) (zae:(Sl Int)) (ztB:Int) (ztC:Bool):Bool :=
  (cond ztC
 false
 (S2 (w64 (ztB+(1:Int)))))
def zoQ (P2:Int->Bool) (n:Net) (zae:(Sl Int)) (ztB:Int) (ztC:Bool):Bool :=
  (cond ztC
 true
 (P2 (w64 (ztB+(1:Int)))))
theorem zJJ (hX2:zJG K n zae X2 P2 S2) (hs:zoQ P2 n zae ztB ztC=true) (hk:K (e48 (zoP S2 n zae ztB ztC))):z48 K [1,1,0,1,0,0,1,1,0,0,1,1] [X2] ⟨[(1,zS enc_3 1 zae),(2,zp 2 0),(26,zS enc_3 1 zae),(27,zI (zae.len:Int)),(28,zI ztB),(34,zB ztC)],[(2,.box 24 (zm (enc_24 n)))],[]⟩:=zaR (by kernel_rfl) (zc hs hk (λ hs hk=>hk) (λ hs hk=>(hX2 hs hk)))
def ze0 (n:Net) (zae:(Sl Int)) (S2:Int->Bool) (zcV:Int):Bool :=
  (cond (decide (zcV < (zae.len : Int)))
 (zoP S2 n zae zcV (!(s81 (zae.get zcV.toNat) (-1000000000000:Int) (1000000000000:Int))))
 (zmk n zae))
def ze1 (n:Net) (zae:(Sl Int)) (P2:Int->Bool) (zcV:Int):Bool :=
  (cond (decide (zcV < (zae.len : Int)))
 (decide ((0≤zcV/\zcV < (zae.len:Int))) &&
 (zoQ P2 n zae zcV (!(s81 (zae.get zcV.toNat) (-1000000000000:Int) (1000000000000:Int)))))
 (zoO n zae))
def ze2 (n:Net) (zae:(Sl Int)):Nat->Int->Bool:=lpO (λ _=>default) (ze0 n zae)
def ze3 (n:Net) (zae:(Sl Int)):Nat->Int->Bool:=lpO (λ _=>false) (ze1 n zae)
def zoR (n:Net) (zae:(Sl Int)) (zcV:Int):Bool:=ze2 n zae Fuel zcV
def zoS (n:Net) (zae:(Sl Int)) (zcV:Int):Bool:=ze3 n zae Fuel zcV
theorem zJK (hs:zoS n zae zcV=true) (hk:K (e48 (zoR n zae zcV))):z48 K [1,1,0,1,0] [] (zF1 n zae zcV) :=
  zl (λ X=>z48 K [1,1,0,1,0,0] [X]) (by kernel_rfl) λ X2 hX =>
  (show ∀ k, zJG K n zae X2 (ze3 n zae k) (ze2 n zae k) from zdU _ _ (ze1 n zae) (ze0 n zae) (zJG K n zae X2)
 (by intro _ hs;exact absurd hs Bool.false_ne_true)
 (by intro P2 S2 hX2 zcV hs hk;exact hX _ (zaR (by kernel_rfl) (zc hs hk (λ hs hk=>(zaL hs λ hc hs=>And.intro hc (zJJ hX2 hs hk))) (λ hs hk=>(zJI hs hk)))))) _ hs hk
def zoT (n:Net) (zae:(Sl Int)):Bool :=
  (zoR n zae (0:Int))
def zoU (n:Net) (zae:(Sl Int)):Bool :=
  (zoS n zae (0:Int))
theorem zJL (hs:zoU n zae=true) (hk:K (e48 (zoT n zae))):z48 K [1,1] [] ⟨[(1,zS enc_3 1 zae),(2,zp 2 0)],[(2,.box 24 (zm (enc_24 n)))],[]⟩:=zaR (by kernel_rfl) (zJK hs hk)
def zjI (n:Net) (zae:(Sl Int)) (ztA:Bool):Bool :=
  (cond ztA
 false
 (zoT n zae))
def zjJ (n:Net) (zae:(Sl Int)) (ztA:Bool):Bool :=
  (cond ztA
 true
 (zoU n zae))
theorem ztD (hs:zjJ n zae ztA=true) (hk:K (e48 (zjI n zae ztA))):z48 K [1,0,1] [] ⟨[(1,zS enc_3 1 zae),(2,zp 2 0),(25,zB ztA)],[(2,.box 24 (zm (enc_24 n)))],[]⟩:=zaR (by kernel_rfl) (zc hs hk (λ hs hk=>hk) (λ hs hk=>(zJL hs hk)))
def s48 (n:Net) (zae:(Sl Int)):Bool :=
  (cond (!(s67 n))
 (zjI n zae true)
 (cond ((zae.len : Int) != n.Nodes)
 (zjI n zae true)
 (zjI n zae ((zae.get 0) != (0:Int)))))
def p48 (n:Net) (zae:(Sl Int)):Bool :=
  (decide ((p67 n=true)) &&
 (cond (!(s67 n))
 (zjJ n zae true)
 (cond ((zae.len : Int) != n.Nodes)
 (zjJ n zae true)
 (decide ((0≤(0:Int)/\(0:Int) < (zae.len:Int))) &&
 (zjJ n zae ((zae.get 0) != (0:Int)))))))
end
theorem q48 (n:Net) (zae:(Sl Int)) (K:List PA->Prop) (hs:p48 n zae=true) (hk:K (e48 (s48 n zae))):vcFun Tryd.prog G48 zJF 48 [.agg (enc_24 n),.one (.sl zae.len 1 (λ i=>enc_3 (zae.get i)))] K :=
  zaR (by kernel_rfl) (zaL hs λ hc hs=>And.intro (And.intro (zE zai 4 n.Ties.get) hc) (zc hs hk (λ hs hk=>(ztD hs hk)) (λ hs hk=>(zc hs hk (λ hs hk=>(ztD hs hk)) (λ hs hk=>(zaL hs λ hc hs=>And.intro hc (ztD hs hk)))))))
def zJM : List PA → COut
  | [.agg [.int .i64 zal,.sl zak zaI zaj],.one (.sl zcz zfx zcw)]=>.det (IsE zai 4 zaI zaj/\IsE enc_3 1 zfx zcw/\p48 (⟨zal,(⟨zak,zaq zaj⟩:(Sl Tie))⟩:Net) (⟨zcz,zar zcw⟩:(Sl Int))=true) [.one (.bool (s48 (⟨zal,(⟨zak,zaq zaj⟩:(Sl Tie))⟩:Net) (⟨zcz,zar zcw⟩:(Sl Int))))]
  | _=>.no
theorem zNl:zaw Tryd.prog 48:=⟨_,rfl,rfl,by kernel_rfl⟩
theorem zRa:Ok Tryd.prog 48 zJM:=zbv zPm zNl λ args K h=>by
  unfold zJM at h
  split at h
  · rename_i zal zak zaI zaj zcz zfx zcw
    obtain⟨⟨⟨rfl,zaB,rfl⟩,⟨rfl,zdV,rfl⟩,hs⟩,hk⟩:=h
    try rw[zat zaB] at hs
    try rw[zat zaB] at hk
    try rw[zaV zdV] at hs
    try rw[zaV zdV] at hk
    exact⟨(λ _ _=>[]),(λ _=>false),zJF,q48 (⟨zal,(⟨zak,zaB⟩:(Sl Tie))⟩:Net) (⟨zcz,zdV⟩:(Sl Int)) K hs hk⟩
  · exact h.elim
abbrev T97:Tabs:=Tabs.nil
theorem zPn:TabsOk Tryd.prog T97:=TabsOk.nil
abbrev G97:Ctrs:=csm T97 (λ _ _=>[]) (λ _=>false)
def zNm:Ann:=⟨14,[(0,zK [0,1,2] []),(1,zK [0,1,2,7] []),(2,zK [5] []),(3,zK [5] [])],
 [],
 [],
 [],[]⟩
abbrev R97:=Int
abbrev e97 (r:R97):List PA:=[.one (.int .i64 r)]
section
variable {K:List PA->Prop}{c0:Int}{node:Int}{epoch:Int}
def s97 (c0:Int) (node:Int) (epoch:Int):Int :=
  (cond (node == (0:Int))
 (0:Int)
 (w64 ((w64 (epoch * (w64 (c0 - (1:Int)))))+node)))
end
theorem q97 (c0:Int) (node:Int) (epoch:Int) (K:List PA->Prop) (hk:K (e97 (s97 c0 node epoch))):vcFun Tryd.prog G97 zNm 97 [.one (.int .i64 node),.one (.int .i64 epoch),.one (.fp (enc_3 c0) 0)] K :=
  zaR (by kernel_rfl) (zt hk (λ hk=>hk) (λ hk=>hk))
def zJN : List PA → COut
  | [.one (.int .i64 a0),.one (.int .i64 a1),.one (.fp [.int .i64 c0] 0)]=>.tot [.one (.int .i64 (s97 c0 a0 a1))]
  | _=>.no
theorem zNn:zaw Tryd.prog 97:=⟨_,rfl,rfl,by kernel_rfl⟩
theorem zRb:Ok Tryd.prog 97 zJN:=zbv zPn zNn λ args K h=>by
  unfold zJN at h
  split at h
  · rename_i a0 a1 c0
    have hk:=h
    exact⟨(λ _ _=>[]),(λ _=>false),zNm,q97 c0 a0 a1 K hk⟩
  · exact h.elim
abbrev T61:Tabs:=(((Tabs.nil.addF 67 zsg).addF 81 zsd).addF 97 zJN)
theorem zPo:TabsOk Tryd.prog T61:=(((TabsOk.nil.addF zLW).addF zLT).addF zRb)
abbrev G61:Ctrs:=csm T61 (λ _ _=>[]) (λ _=>false)
def zJO:Ann:=⟨161,[(0,zK [0,1,4] [4]),(1,zK [0,1,4,21] [4]),(2,zK [4,5] [4]),(3,zK [0,1,4,25] [4]),(4,zK [4,5] [4]),(5,zK [0,1,4,6] [4,6]),(6,zK [0,1,4,6,31,32,33] [4,6]),(7,zK [0,1,4,6,31,32,33,34] [4,6]),(8,zK [0,1,4,6,8,31,32,33] [4,6,8]),(9,zK [0,1,4,6,31,32,33,45] [4,6]),(10,zK [4,5] [4]),(11,zK [0,1,4,6,31,32,33] [4,6]),(12,zK [0,1,4,6,57] [4,6]),(13,zK [4,5] [4]),(14,zK [0,1,4,6,59,60,61] [4,6]),(15,zK [0,1,4,6,59,60,61,62] [4,6]),(16,zK [0,1,4,6,10,59,60,61] [4,6]),(17,zK [0,1,4,6,59,60,61,67] [4,6]),(18,zK [4,5] [4]),(19,zK [0,1,4,6,59,60,61] [4,6]),(20,zK [0,1,4,6,11] [4,6]),(21,zK [0,1,4,6,11,12] [4,6,12]),(22,zK [0,1,4,6,11,12,78,79,80] [4,6,12]),(23,zK [0,1,4,6,11,12,78,79,80,81] [4,6,12,110]),(24,zK [0,1,4,6,11,12,13,14,78,79,80] [4,6,12,14,110]),(25,zK [0,1,4,6,11,12,13,78,79,80,86,87,88] [4,6,12,110]),(26,zK [0,1,4,6,11,12,13,78,79,80,86,87,88,89] [4,6,12,110]),(27,zK [0,1,4,6,11,12,13,16,78,79,80,86,87,88] [4,6,12,16,110]),(28,zK [0,1,4,6,11,12,13,78,79,80,86,87,88] [4,6,12,110]),(29,zK [0,1,4,6,11,12,13,78,79,80,86,87,88] [4,6,12,110]),(30,zK [0,1,4,6,11,12,78,79,80] [4,6,12,110]),(31,zK [1,4,6,11,12,116,117] [4,6,12,110]),(32,zK [1,4,6,11,12,116,117,118] [4,6,12,110]),(33,zK [1,4,6,11,12,17,116,117] [4,6,12,110]),(34,zK [1,4,6,11,12,17,18,116,117] [4,6,12,110]),(35,zK [1,4,6,11,12,17,18,116,117,122] [4,6,12,110]),(36,zK [1,4,6,11,12,17,18,116,117] [4,6,12,110]),(37,zK [1,4,6,11,12,17,18,116,117] [4,6,12,110]),(38,zK [1,4,6,11,12,116,117] [4,6,12,110]),(39,zK [4,12,158] [4,12,110]),(40,zK [4,5] [4]),(41,zK [4,5] [4,110])],
 [(7,zK [0,1,4,6,31,32,33] [4,6]),(15,zK [0,1,4,6,59,60,61] [4,6]),(23,⟨[0,1,4,6,11,12,78,79,80],[4,6,12,110],[],[(12,1,110,40,λ _=>zai default)],[],[],[]⟩),(26,⟨[0,1,4,6,11,12,13,78,79,80,86,87,88],[4,6,12,110],[],[(12,1,110,40,λ _=>zai default)],[],[],[]⟩),(32,zK [1,4,6,11,12,116,117] [4,6,12,110]),(35,zK [1,4,6,11,12,17,18,116,117] [4,6,12,110])],
 [(3,zK [0,1,4] [4]),(5,zK [0,1,4] [4]),(10,zK [0,1,4,6,31,32,33,45] [4,6]),(12,zK [0,1,4,6] [4,6]),(14,zK [0,1,4,6] [4,6]),(18,zK [0,1,4,6,59,60,61,67] [4,6]),(20,zK [0,1,4,6] [4,6]),(31,zK [0,1,4,6,11,12] [4,6,12,110]),(39,zK [4,12] [4,12,110])],
 [],[]⟩
abbrev R61:=(Net×Int)
abbrev e61 (r:R61):List PA:=[.agg [.int .i64 r.1.Nodes,.sl r.1.Ties.len 4 (λ i=>zai (r.1.Ties.get i))],.one (.int .i64 r.2)]
@[irreducible] def z61:=ptF Tryd.prog G61 zJO Tryd.f61
def zF3 (zaa:(Sl Net)) (zab:(Sl Int)) (zdb:Int):St:=⟨[(0,zS enc_24 2 zaa),(1,zS enc_3 1 zab),(4,zp 4 0),(6,zp 6 0),(31,zS enc_24 2 zaa),(32,zI (zaa.len:Int)),(33,zI zdb)],[(4,.box 24 [zi (0:Int),.p (.nils)]),(6,.box 3 [zi ((zaa.get 0).Nodes)])],[]⟩
abbrev zJP (K:List PA->Prop) (zaa:(Sl Net)) (zab:(Sl Int)) (X:St->Prop) (P:Int->Bool) (S:Int->(Net×Int)):Prop:=∀ ⦃zdb:Int⦄,P zdb=true->K (e61 (S zdb))->X (zF3 zaa zab zdb)
def zF4 (zaa:(Sl Net)) (zab:(Sl Int)) (zd9:Int):St:=⟨[(0,zS enc_24 2 zaa),(1,zS enc_3 1 zab),(4,zp 4 0),(6,zp 6 0),(59,zS enc_3 1 zab),(60,zI (zab.len:Int)),(61,zI zd9)],[(4,.box 24 [zi (0:Int),.p (.nils)]),(6,.box 3 [zi ((zaa.get 0).Nodes)])],[]⟩
abbrev zJQ (K:List PA->Prop) (zaa:(Sl Net)) (zab:(Sl Int)) (X:St->Prop) (P:Int->Bool) (S:Int->(Net×Int)):Prop:=∀ ⦃zd9:Int⦄,P zd9=true->K (e61 (S zd9))->X (zF4 zaa zab zd9)
def zF5 (zaa:(Sl Net)) (zab:(Sl Int)) (zdj:Int) (zcN:(Sl Tie)) (zeO:Nat->List PV):St:=⟨[(0,zS enc_24 2 zaa),(1,zS enc_3 1 zab),(4,zp 4 0),(6,zp 6 0),(11,zP (.fn 97 [] [.fp (enc_3 ((zaa.get 0).Nodes)) 0])),(12,zp 12 0),(78,zS enc_24 2 zaa),(79,zI (zaa.len:Int)),(80,zI zdj)],[(4,.box 24 [zi (0:Int),.p (.nils)]),(6,.fbox [.int .i64 ((zaa.get 0).Nodes)]),(12,.box 24 [zi (w64 ((1:Int)+(w64 ((zaa.len:Int) * (w64 ((zaa.get 0).Nodes - (1:Int))))))),.vec 110]),(110,.vec 40 4 32 zcN.len zeO)],[]⟩
abbrev zJR (K:List PA->Prop) (zaa:(Sl Net)) (zab:(Sl Int)) (X:St->Prop) (P:Int->(Sl Tie)->Bool) (S:Int->(Sl Tie)->(Net×Int)):Prop:=∀ ⦃zdj:Int⦄ ⦃zcN:(Sl Tie)⦄ ⦃zeO:Nat->List PV⦄,P zdj zcN=true->K (e61 (S zdj zcN))->zeO=zg zai zcN->X (zF5 zaa zab zdj zcN zeO)
def zBY (zaa:(Sl Net)) (zab:(Sl Int)) (zex:Int) (zc4:Int) (zbM:(Sl Tie)) (zc5:Int) (zbL:Int) (zbx:(Sl Tie)) (zeP:Nat->List PV) (zdK:Nat->List PV):St:=⟨[(0,zS enc_24 2 zaa),(1,zS enc_3 1 zab),(4,zp 4 0),(6,zp 6 0),(11,zP (.fn 97 [] [.fp (enc_3 ((zaa.get 0).Nodes)) 0])),(12,zp 12 0),(13,zI zex),(78,zS enc_24 2 zaa),(79,zI (zaa.len:Int)),(80,zI zc4),(86,zP (.sl zbM.len 4 zeP)),(87,zI zc5),(88,zI zbL)],[(4,.box 24 [zi (0:Int),.p (.nils)]),(6,.fbox [.int .i64 ((zaa.get 0).Nodes)]),(12,.box 24 [zi (w64 ((1:Int)+(w64 ((zaa.len:Int) * (w64 ((zaa.get 0).Nodes - (1:Int))))))),.vec 110]),(110,.vec 40 4 32 zbx.len zdK)],[]⟩
abbrev zF6 (K:List PA->Prop) (zaa:(Sl Net)) (zab:(Sl Int)) (X:St->Prop) (P:Int->Int->(Sl Tie)->Int->Int->(Sl Tie)->Bool) (S:Int->Int->(Sl Tie)->Int->Int->(Sl Tie)->(Net×Int)):Prop:=∀ ⦃zex:Int⦄ ⦃zc4:Int⦄ ⦃zbM:(Sl Tie)⦄ ⦃zc5:Int⦄ ⦃zbL:Int⦄ ⦃zbx:(Sl Tie)⦄ ⦃zeP:Nat->List PV⦄ ⦃zdK:Nat->List PV⦄,P zex zc4 zbM zc5 zbL zbx=true->K (e61 (S zex zc4 zbM zc5 zbL zbx))->zeP=zg zai zbM->zdK=zg zai zbx->X (zBY zaa zab zex zc4 zbM zc5 zbL zbx zeP zdK)
def zBZ (zaa:(Sl Net)) (zab:(Sl Int)) (zaA:Int) (zbV:Int) (zb4:(Sl Tie)) (zdL:Nat->List PV):St:=⟨[(1,zS enc_3 1 zab),(4,zp 4 0),(6,zp 6 0),(11,zP (.fn 97 [] [.fp (enc_3 ((zaa.get 0).Nodes)) 0])),(12,zp 12 0),(116,zI (w64 ((zaa.len:Int) - (1:Int)))),(117,zI zbV)],[(4,.box 24 [zi (0:Int),.p (.nils)]),(6,.fbox [.int .i64 ((zaa.get 0).Nodes)]),(12,.box 24 [zi zaA,.vec 110]),(110,.vec 40 4 32 zb4.len zdL)],[]⟩
abbrev zB0 (K:List PA->Prop) (zaa:(Sl Net)) (zab:(Sl Int)) (zaA:Int) (X:St->Prop) (P:Int->(Sl Tie)->Bool) (S:Int->(Sl Tie)->(Net×Int)):Prop:=∀ ⦃zbV:Int⦄ ⦃zb4:(Sl Tie)⦄ ⦃zdL:Nat->List PV⦄,P zbV zb4=true->K (e61 (S zbV zb4))->zdL=zg zai zb4->X (zBZ zaa zab zaA zbV zb4 zdL)
def zB1 (zaa:(Sl Net)) (zab:(Sl Int)) (zaA:Int) (zkY:Int) (zf6:Int) (zcc:Int) (zby:(Sl Tie)) (zdM:Nat->List PV):St:=⟨[(1,zS enc_3 1 zab),(4,zp 4 0),(6,zp 6 0),(11,zP (.fn 97 [] [.fp (enc_3 ((zaa.get 0).Nodes)) 0])),(12,zp 12 0),(17,zI zkY),(18,zI zf6),(116,zI (w64 ((zaa.len:Int) - (1:Int)))),(117,zI zcc)],[(4,.box 24 [zi (0:Int),.p (.nils)]),(6,.fbox [.int .i64 ((zaa.get 0).Nodes)]),(12,.box 24 [zi zaA,.vec 110]),(110,.vec 40 4 32 zby.len zdM)],[]⟩
abbrev zF7 (K:List PA->Prop) (zaa:(Sl Net)) (zab:(Sl Int)) (zaA:Int) (X:St->Prop) (P:Int->Int->Int->(Sl Tie)->Bool) (S:Int->Int->Int->(Sl Tie)->(Net×Int)):Prop:=∀ ⦃zkY:Int⦄ ⦃zf6:Int⦄ ⦃zcc:Int⦄ ⦃zby:(Sl Tie)⦄ ⦃zdM:Nat->List PV⦄,P zkY zf6 zcc zby=true->K (e61 (S zkY zf6 zcc zby))->zdM=zg zai zby->X (zB1 zaa zab zaA zkY zf6 zcc zby zdM)
section
variable {K:List PA->Prop}{zaa:(Sl Net)}{zab:(Sl Int)}{zdb:Int}{X2:St->Prop}{P2:Int->Bool}{S2:Int->(Net×Int)}{ztE:Int}{ztF:Bool}{zd9:Int}{X6:St->Prop}{P6:Int->Bool}{S6:Int->(Net×Int)}{ztG:Int}{ztH:Bool}{zdj:Int}{zcN:(Sl Tie)}{zeO:Nat->List PV}{X9:St->Prop}{P9:Int->(Sl Tie)->Bool}{S9:Int->(Sl Tie)->(Net×Int)}{zex:Int}{zc4:Int}{zbM:(Sl Tie)}{zc5:Int}{zbL:Int}{zbx:(Sl Tie)}{zeP:Nat->List PV}{zdK:Nat->List PV}{X10:St->Prop}{P10:Int->Int->(Sl Tie)->Int->Int->(Sl Tie)->Bool}{S10:Int->Int->(Sl Tie)->Int->Int->(Sl Tie)->(Net×Int)}{zaA:Int}{zgH:(Sl Tie)}{zq7:Nat->List PV}{zbV:Int}{zb4:(Sl Tie)}{zdL:Nat->List PV}{X12:St->Prop}{P12:Int->(Sl Tie)->Bool}{S12:Int->(Sl Tie)->(Net×Int)}{zkY:Int}{zf6:Int}{zcc:Int}{zby:(Sl Tie)}{zdM:Nat->List PV}{X13:St->Prop}{P13:Int->Int->Int->(Sl Tie)->Bool}{S13:Int->Int->Int->(Sl Tie)->(Net×Int)}{zgI:(Sl Tie)}{zq8:Nat->List PV}
def zoV (zaA:Int) (zgI:(Sl Tie)):(Net×Int) :=
  (cond (decide (zaA > (40:Int)))
 ((⟨(0:Int),(⟨0,λ _=>default⟩:(Sl Tie))⟩:Net),(3:Int))
 (cond (decide ((zgI.len : Int) > (200:Int)))
 ((⟨(0:Int),(⟨0,λ _=>default⟩:(Sl Tie))⟩:Net),(3:Int))
 ((⟨zaA,zgI⟩:Net),(0:Int))))
theorem zEm (hk:K (e61 (zoV zaA zgI))) (zB2:zq8=zg zai zgI):z61 (Wk K) [1,1,1,1,1,1,1,1,1,1,1] [] ⟨[(4,zp 4 0),(12,zp 12 0)],[(4,.box 24 [zi (0:Int),.p (.nils)]),(12,.box 24 [zi zaA,.vec 110]),(110,.vec 40 4 32 zgI.len zq8)],[]⟩:=by subst zB2;exact zaR (by kernel_rfl) (zt hk (λ hk=>((wk hk (zb8 (.agg (zb8 (.rfl _) (zb8 (.nil _ _) zes))) (zb8 (.one (.rfl _)) zes))):Wk K [.agg [.int .i64 (0:Int),.nils],.one (.int .i64 (3:Int))])) (λ hk=>(zt hk (λ hk=>((wk hk (zb8 (.agg (zb8 (.rfl _) (zb8 (.nil _ _) zes))) (zb8 (.one (.rfl _)) zes))):Wk K [.agg [.int .i64 (0:Int),.nils],.one (.int .i64 (3:Int))])) (λ hk=>((zfX hk):Wk K [.agg [.int .i64 zaA,.sl zgI.len 4 (λ i=>zai (zgI.get i))],.one (.int .i64 (0:Int))])))))
def zg3 (S12:Int->(Sl Tie)->(Net×Int)) (zaa:(Sl Net)) (zab:(Sl Int)) (zaA:Int) (S13:Int->Int->Int->(Sl Tie)->(Net×Int)) (zkY:Int) (zf6:Int) (zcc:Int) (zby:(Sl Tie)):(Net×Int) :=
  (cond (decide (zf6 < (zaa.get 0).Nodes))
 (S13 zkY (w64 (zf6+(1:Int))) zcc (⟨(zby.len+1),(zl0 zby.len zby.get (λ _=>(⟨(s97 ((zaa.get 0).Nodes) zf6 zkY),(s97 ((zaa.get 0).Nodes) zf6 (w64 (zkY+(1:Int)))),(w64 (0 - (zab.get zf6.toNat))),(zab.get zf6.toNat)⟩:Tie)))⟩:Sl Tie))
 (S12 (w64 (zcc+(1:Int))) zby))
def zg4 (P12:Int->(Sl Tie)->Bool) (zaa:(Sl Net)) (zab:(Sl Int)) (zaA:Int) (P13:Int->Int->Int->(Sl Tie)->Bool) (zkY:Int) (zf6:Int) (zcc:Int) (zby:(Sl Tie)):Bool :=
  (cond (decide (zf6 < (zaa.get 0).Nodes))
 (decide ((0≤zf6/\zf6 < (zab.len:Int))) &&
 (decide ((0≤zf6/\zf6 < (zab.len:Int))) &&
 (decide (((zby.len+1) * 32≤140737488355328/\zby.len+1≤9223372036854775807)) &&
 (P13 zkY (w64 (zf6+(1:Int))) zcc (⟨(zby.len+1),(zl0 zby.len zby.get (λ _=>(⟨(s97 ((zaa.get 0).Nodes) zf6 zkY),(s97 ((zaa.get 0).Nodes) zf6 (w64 (zkY+(1:Int)))),(w64 (0 - (zab.get zf6.toNat))),(zab.get zf6.toNat)⟩:Tie)))⟩:Sl Tie)))))
 (P12 (w64 (zcc+(1:Int))) zby))
def zfC (S12:Int->(Sl Tie)->(Net×Int)) (zaa:(Sl Net)) (zab:(Sl Int)) (zaA:Int):Nat->Int->Int->Int->(Sl Tie)->(Net×Int):=lpO (λ _ _ _ _=>default) (zg3 S12 zaa zab zaA)
def zfD (P12:Int->(Sl Tie)->Bool) (zaa:(Sl Net)) (zab:(Sl Int)) (zaA:Int):Nat->Int->Int->Int->(Sl Tie)->Bool:=lpO (λ _ _ _ _=>false) (zg4 P12 zaa zab zaA)
def zoW (S12:Int->(Sl Tie)->(Net×Int)) (zaa:(Sl Net)) (zab:(Sl Int)) (zaA:Int) (zkY:Int) (zf6:Int) (zcc:Int) (zby:(Sl Tie)):(Net×Int):=zfC S12 zaa zab zaA Fuel zkY zf6 zcc zby
def zoX (P12:Int->(Sl Tie)->Bool) (zaa:(Sl Net)) (zab:(Sl Int)) (zaA:Int) (zkY:Int) (zf6:Int) (zcc:Int) (zby:(Sl Tie)):Bool:=zfD P12 zaa zab zaA Fuel zkY zf6 zcc zby
theorem zEn (hX12:zB0 K zaa zab zaA X12 P12 S12) (hs:zoX P12 zaa zab zaA zkY zf6 zcc zby=true) (hk:K (e61 (zoW S12 zaa zab zaA zkY zf6 zcc zby))) (zml:zdM=zg zai zby):z61 (Wk K) [1,1,1,1,1,1,1,1,1,1,0,1,0,0,1,1,0,0,1,1,0] [X12] (zB1 zaa zab zaA zkY zf6 zcc zby zdM) :=
  zl (λ X=>z61 (Wk K) [1,1,1,1,1,1,1,1,1,1,0,1,0,0,1,1,0,0,1,1,0,0] [X12,X]) (by kernel_rfl) λ X13 hX =>
  (show ∀ k, zF7 K zaa zab zaA X13 (zfD P12 zaa zab zaA k) (zfC S12 zaa zab zaA k) from zdU _ _ (zg4 P12 zaa zab zaA) (zg3 S12 zaa zab zaA) (zF7 K zaa zab zaA X13)
 (by intro _ _ _ _ _ hs;exact absurd hs Bool.false_ne_true)
 (by intro P13 S13 hX13 zkY zf6 zcc zby zdM hs hk zml;subst zml;exact hX _ (zaR (by kernel_rfl) (zc hs hk (λ hs hk=>(zaL hs λ hc hs=>And.intro hc (zaL hs λ hc hs=>And.intro hc (zaL hs λ hc hs=>And.intro hc (hX13 hs hk (ziw (enc:=zai) (f:=zby.get) (h:=(λ _=>(⟨(s97 ((zaa.get 0).Nodes) zf6 zkY),(s97 ((zaa.get 0).Nodes) zf6 (w64 (zkY+(1:Int)))),(w64 (0 - (zab.get zf6.toNat))),(zab.get zf6.toNat)⟩:Tie))) rfl rfl)))))) (λ hs hk=>(hX12 hs hk rfl)))))) _ hs hk zml
def zg5 (zaa:(Sl Net)) (zab:(Sl Int)) (zaA:Int) (S12:Int->(Sl Tie)->(Net×Int)) (zbV:Int) (zb4:(Sl Tie)):(Net×Int) :=
  (cond (decide (zbV < (w64 ((zaa.len : Int) - (1:Int)))))
 (zoW S12 zaa zab zaA zbV (1:Int) zbV zb4)
 (zoV zaA zb4))
def zg6 (zaa:(Sl Net)) (zab:(Sl Int)) (zaA:Int) (P12:Int->(Sl Tie)->Bool) (zbV:Int) (zb4:(Sl Tie)):Bool :=
  (cond (decide (zbV < (w64 ((zaa.len : Int) - (1:Int)))))
 (zoX P12 zaa zab zaA zbV (1:Int) zbV zb4)
 true)
def zfE (zaa:(Sl Net)) (zab:(Sl Int)) (zaA:Int):Nat->Int->(Sl Tie)->(Net×Int):=lpO (λ _ _=>default) (zg5 zaa zab zaA)
def zfF (zaa:(Sl Net)) (zab:(Sl Int)) (zaA:Int):Nat->Int->(Sl Tie)->Bool:=lpO (λ _ _=>false) (zg6 zaa zab zaA)
def zvP (zaa:(Sl Net)) (zab:(Sl Int)) (zaA:Int) (zbV:Int) (zb4:(Sl Tie)):(Net×Int):=zfE zaa zab zaA Fuel zbV zb4
def zvQ (zaa:(Sl Net)) (zab:(Sl Int)) (zaA:Int) (zbV:Int) (zb4:(Sl Tie)):Bool:=zfF zaa zab zaA Fuel zbV zb4
theorem zEo (hs:zvQ zaa zab zaA zbV zb4=true) (hk:K (e61 (zvP zaa zab zaA zbV zb4))) (zmm:zdL=zg zai zb4):z61 (Wk K) [1,1,1,1,1,1,1,1,1,1,0,1,0] [] (zBZ zaa zab zaA zbV zb4 zdL) :=
  zl (λ X=>z61 (Wk K) [1,1,1,1,1,1,1,1,1,1,0,1,0,0] [X]) (by kernel_rfl) λ X12 hX =>
  (show ∀ k, zB0 K zaa zab zaA X12 (zfF zaa zab zaA k) (zfE zaa zab zaA k) from zdU _ _ (zg6 zaa zab zaA) (zg5 zaa zab zaA) (zB0 K zaa zab zaA X12)
 (by intro _ _ _ hs;exact absurd hs Bool.false_ne_true)
 (by intro P12 S12 hX12 zbV zb4 zdL hs hk zmm;subst zmm;exact hX _ (zaR (by kernel_rfl) (zc hs hk (λ hs hk=>(zEn hX12 hs hk rfl)) (λ hs hk=>(zEm hk rfl)))))) _ hs hk zmm
def zkZ (zaa:(Sl Net)) (zab:(Sl Int)) (zaA:Int) (zgH:(Sl Tie)):(Net×Int) :=
  (zvP zaa zab zaA (0:Int) zgH)
def zk0 (zaa:(Sl Net)) (zab:(Sl Int)) (zaA:Int) (zgH:(Sl Tie)):Bool :=
  (zvQ zaa zab zaA (0:Int) zgH)
theorem zEp (hs:zk0 zaa zab zaA zgH=true) (hk:K (e61 (zkZ zaa zab zaA zgH))) (zB3:zq7=zg zai zgH):z61 (Wk K) [1,1,1,1,1,1,1,1,1,1] [] ⟨[(0,zS enc_24 2 zaa),(1,zS enc_3 1 zab),(4,zp 4 0),(6,zp 6 0),(11,zP (.fn 97 [] [.fp (enc_3 ((zaa.get 0).Nodes)) 0])),(12,zp 12 0)],[(4,.box 24 [zi (0:Int),.p (.nils)]),(6,.fbox [.int .i64 ((zaa.get 0).Nodes)]),(12,.box 24 [zi zaA,.vec 110]),(110,.vec 40 4 32 zgH.len zq7)],[]⟩:=by subst zB3;exact zaR (by kernel_rfl) (zEo hs hk rfl)
def zg7 (S9:Int->(Sl Tie)->(Net×Int)) (zaa:(Sl Net)) (zab:(Sl Int)) (S10:Int->Int->(Sl Tie)->Int->Int->(Sl Tie)->(Net×Int)) (zex:Int) (zc4:Int) (zbM:(Sl Tie)) (zc5:Int) (zbL:Int) (zbx:(Sl Tie)):(Net×Int) :=
  (cond (decide (zbL < zc5))
 (S10 zex zc4 zbM zc5 (w64 (zbL+(1:Int))) (⟨(zbx.len+1),(zl0 zbx.len zbx.get (λ _=>(⟨(s97 ((zaa.get 0).Nodes) ((zbM.get zbL.toNat).From) zex),(s97 ((zaa.get 0).Nodes) ((zbM.get zbL.toNat).To) zex),(zbM.get zbL.toNat).Low,(zbM.get zbL.toNat).High⟩:Tie)))⟩:Sl Tie))
 (S9 (w64 (zc4+(1:Int))) zbx))
def zg8 (P9:Int->(Sl Tie)->Bool) (zaa:(Sl Net)) (zab:(Sl Int)) (P10:Int->Int->(Sl Tie)->Int->Int->(Sl Tie)->Bool) (zex:Int) (zc4:Int) (zbM:(Sl Tie)) (zc5:Int) (zbL:Int) (zbx:(Sl Tie)):Bool :=
  (cond (decide (zbL < zc5))
 (decide ((0≤zbL/\zbL < (zbM.len:Int))) &&
 (decide (((zbx.len+1) * 32≤140737488355328/\zbx.len+1≤9223372036854775807)) &&
 (P10 zex zc4 zbM zc5 (w64 (zbL+(1:Int))) (⟨(zbx.len+1),(zl0 zbx.len zbx.get (λ _=>(⟨(s97 ((zaa.get 0).Nodes) ((zbM.get zbL.toNat).From) zex),(s97 ((zaa.get 0).Nodes) ((zbM.get zbL.toNat).To) zex),(zbM.get zbL.toNat).Low,(zbM.get zbL.toNat).High⟩:Tie)))⟩:Sl Tie))))
 (P9 (w64 (zc4+(1:Int))) zbx))
def zfG (S9:Int->(Sl Tie)->(Net×Int)) (zaa:(Sl Net)) (zab:(Sl Int)):Nat->Int->Int->(Sl Tie)->Int->Int->(Sl Tie)->(Net×Int):=lpO (λ _ _ _ _ _ _=>default) (zg7 S9 zaa zab)
def zfH (P9:Int->(Sl Tie)->Bool) (zaa:(Sl Net)) (zab:(Sl Int)):Nat->Int->Int->(Sl Tie)->Int->Int->(Sl Tie)->Bool:=lpO (λ _ _ _ _ _ _=>false) (zg8 P9 zaa zab)
def zoY (S9:Int->(Sl Tie)->(Net×Int)) (zaa:(Sl Net)) (zab:(Sl Int)) (zex:Int) (zc4:Int) (zbM:(Sl Tie)) (zc5:Int) (zbL:Int) (zbx:(Sl Tie)):(Net×Int):=zfG S9 zaa zab Fuel zex zc4 zbM zc5 zbL zbx
def zoZ (P9:Int->(Sl Tie)->Bool) (zaa:(Sl Net)) (zab:(Sl Int)) (zex:Int) (zc4:Int) (zbM:(Sl Tie)) (zc5:Int) (zbL:Int) (zbx:(Sl Tie)):Bool:=zfH P9 zaa zab Fuel zex zc4 zbM zc5 zbL zbx
theorem zEq (hX9:zJR K zaa zab X9 P9 S9) (hs:zoZ P9 zaa zab zex zc4 zbM zc5 zbL zbx=true) (hk:K (e61 (zoY S9 zaa zab zex zc4 zbM zc5 zbL zbx))) (zo0:zeP=zg zai zbM) (zmn:zdK=zg zai zbx):z61 (Wk K) [1,1,1,1,1,1,1,1,1,0,1,0,0,1,1,0,0,1,1,0] [X9] (zBY zaa zab zex zc4 zbM zc5 zbL zbx zeP zdK) :=
  zl (λ X=>z61 (Wk K) [1,1,1,1,1,1,1,1,1,0,1,0,0,1,1,0,0,1,1,0,0] [X9,X]) (by kernel_rfl) λ X10 hX =>
  (show ∀ k, zF6 K zaa zab X10 (zfH P9 zaa zab k) (zfG S9 zaa zab k) from zdU _ _ (zg8 P9 zaa zab) (zg7 S9 zaa zab) (zF6 K zaa zab X10)
 (by intro _ _ _ _ _ _ _ _ hs;exact absurd hs Bool.false_ne_true)
 (by intro P10 S10 hX10 zex zc4 zbM zc5 zbL zbx zeP zdK hs hk zo0 zmn;subst zo0;subst zmn;exact hX _ (zaR (by kernel_rfl) (zc hs hk (λ hs hk=>(zaL hs λ hc hs=>And.intro hc (zaL hs λ hc hs=>And.intro hc (hX10 hs hk rfl (ziw (enc:=zai) (f:=zbx.get) (h:=(λ _=>(⟨(s97 ((zaa.get 0).Nodes) ((zbM.get zbL.toNat).From) zex),(s97 ((zaa.get 0).Nodes) ((zbM.get zbL.toNat).To) zex),(zbM.get zbL.toNat).Low,(zbM.get zbL.toNat).High⟩:Tie))) rfl rfl))))) (λ hs hk=>(hX9 hs hk rfl)))))) _ hs hk zo0 zmn
def zjK (zaa:(Sl Net)) (zab:(Sl Int)) (S9:Int->(Sl Tie)->(Net×Int)) (zdj:Int) (zcN:(Sl Tie)):(Net×Int) :=
  (cond (decide (zdj < (zaa.len : Int)))
 (zoY S9 zaa zab zdj zdj ((zaa.get zdj.toNat).Ties) ((zaa.get zdj.toNat).Ties.len:Int) (0:Int) zcN)
 (zkZ zaa zab (w64 ((1:Int)+(w64 ((zaa.len:Int) * (w64 ((zaa.get 0).Nodes - (1:Int))))))) zcN))
def zjL (zaa:(Sl Net)) (zab:(Sl Int)) (P9:Int->(Sl Tie)->Bool) (zdj:Int) (zcN:(Sl Tie)):Bool :=
  (cond (decide (zdj < (zaa.len : Int)))
 (decide ((0≤zdj/\zdj < (zaa.len:Int))) &&
 (zoZ P9 zaa zab zdj zdj ((zaa.get zdj.toNat).Ties) ((zaa.get zdj.toNat).Ties.len:Int) (0:Int) zcN))
 (zk0 zaa zab (w64 ((1:Int)+(w64 ((zaa.len:Int) * (w64 ((zaa.get 0).Nodes - (1:Int))))))) zcN))
def zhQ (zaa:(Sl Net)) (zab:(Sl Int)):Nat->Int->(Sl Tie)->(Net×Int):=lpO (λ _ _=>default) (zjK zaa zab)
def zhR (zaa:(Sl Net)) (zab:(Sl Int)):Nat->Int->(Sl Tie)->Bool:=lpO (λ _ _=>false) (zjL zaa zab)
def zB4 (zaa:(Sl Net)) (zab:(Sl Int)) (zdj:Int) (zcN:(Sl Tie)):(Net×Int):=zhQ zaa zab Fuel zdj zcN
def zB5 (zaa:(Sl Net)) (zab:(Sl Int)) (zdj:Int) (zcN:(Sl Tie)):Bool:=zhR zaa zab Fuel zdj zcN
theorem zJS (hs:zB5 zaa zab zdj zcN=true) (hk:K (e61 (zB4 zaa zab zdj zcN))) (zo1:zeO=zg zai zcN):z61 (Wk K) [1,1,1,1,1,1,1,1,1,0,1,0] [] (zF5 zaa zab zdj zcN zeO) :=
  zl (λ X=>z61 (Wk K) [1,1,1,1,1,1,1,1,1,0,1,0,0] [X]) (by kernel_rfl) λ X9 hX =>
  (show ∀ k, zJR K zaa zab X9 (zhR zaa zab k) (zhQ zaa zab k) from zdU _ _ (zjL zaa zab) (zjK zaa zab) (zJR K zaa zab X9)
 (by intro _ _ _ hs;exact absurd hs Bool.false_ne_true)
 (by intro P9 S9 hX9 zdj zcN zeO hs hk zo1;subst zo1;exact hX _ (zaR (by kernel_rfl) (zc hs hk (λ hs hk=>(zaL hs λ hc hs=>And.intro hc (zEq hX9 hs hk rfl rfl))) (λ hs hk=>(zEp hs hk rfl)))))) _ hs hk zo1
def zmo (zaa:(Sl Net)) (zab:(Sl Int)):(Net×Int) :=
  (zB4 zaa zab (0:Int) (⟨0,(λ _=>default)⟩:Sl Tie))
def zmp (zaa:(Sl Net)) (zab:(Sl Int)):Bool :=
  (zB5 zaa zab (0:Int) (⟨0,(λ _=>default)⟩:Sl Tie))
theorem zJT (hs:zmp zaa zab=true) (hk:K (e61 (zmo zaa zab))):z61 (Wk K) [1,1,1,1,1,1,1] [] ⟨[(0,zS enc_24 2 zaa),(1,zS enc_3 1 zab),(4,zp 4 0),(6,zp 6 0)],[(4,.box 24 [zi (0:Int),.p (.nils)]),(6,.box 3 [zi ((zaa.get 0).Nodes)])],[]⟩:=zaR (by kernel_rfl) (zJS hs hk rfl)
def ztI (S6:Int->(Net×Int)) (zaa:(Sl Net)) (zab:(Sl Int)) (ztG:Int) (ztH:Bool):(Net×Int) :=
  (cond ztH
 ((⟨(0:Int),(⟨0,λ _=>default⟩:(Sl Tie))⟩:Net),(2:Int))
 (S6 (w64 (ztG+(1:Int)))))
def ztJ (P6:Int->Bool) (zaa:(Sl Net)) (zab:(Sl Int)) (ztG:Int) (ztH:Bool):Bool :=
  (cond ztH
 true
 (P6 (w64 (ztG+(1:Int)))))
theorem zJU (hX6:zJQ K zaa zab X6 P6 S6) (hs:ztJ P6 zaa zab ztG ztH=true) (hk:K (e61 (ztI S6 zaa zab ztG ztH))):z61 (Wk K) [1,1,1,1,1,1,0,1,0,0,1,1,0,0,1,1] [X6] ⟨[(0,zS enc_24 2 zaa),(1,zS enc_3 1 zab),(4,zp 4 0),(6,zp 6 0),(59,zS enc_3 1 zab),(60,zI (zab.len:Int)),(61,zI ztG),(67,zB ztH)],[(4,.box 24 [zi (0:Int),.p (.nils)]),(6,.box 3 [zi ((zaa.get 0).Nodes)])],[]⟩:=zaR (by kernel_rfl) (zc hs hk (λ hs hk=>((wk hk (zb8 (.agg (zb8 (.rfl _) (zb8 (.nil _ _) zes))) (zb8 (.one (.rfl _)) zes))):Wk K [.agg [.int .i64 (0:Int),.nils],.one (.int .i64 (2:Int))])) (λ hs hk=>(hX6 hs hk)))
def zjM (zaa:(Sl Net)) (zab:(Sl Int)) (S6:Int->(Net×Int)) (zd9:Int):(Net×Int) :=
  (cond (decide (zd9 < (zab.len : Int)))
 (ztI S6 zaa zab zd9 (!(s81 (zab.get zd9.toNat) (0:Int) (1000000000:Int))))
 (zmo zaa zab))
def zjN (zaa:(Sl Net)) (zab:(Sl Int)) (P6:Int->Bool) (zd9:Int):Bool :=
  (cond (decide (zd9 < (zab.len : Int)))
 (decide ((0≤zd9/\zd9 < (zab.len:Int))) &&
 (ztJ P6 zaa zab zd9 (!(s81 (zab.get zd9.toNat) (0:Int) (1000000000:Int)))))
 (zmp zaa zab))
def zjO (zaa:(Sl Net)) (zab:(Sl Int)):Nat->Int->(Net×Int):=lpO (λ _=>default) (zjM zaa zab)
def zjP (zaa:(Sl Net)) (zab:(Sl Int)):Nat->Int->Bool:=lpO (λ _=>false) (zjN zaa zab)
def ztK (zaa:(Sl Net)) (zab:(Sl Int)) (zd9:Int):(Net×Int):=zjO zaa zab Fuel zd9
def ztL (zaa:(Sl Net)) (zab:(Sl Int)) (zd9:Int):Bool:=zjP zaa zab Fuel zd9
theorem zJV (hs:ztL zaa zab zd9=true) (hk:K (e61 (ztK zaa zab zd9))):z61 (Wk K) [1,1,1,1,1,1,0,1,0] [] (zF4 zaa zab zd9) :=
  zl (λ X=>z61 (Wk K) [1,1,1,1,1,1,0,1,0,0] [X]) (by kernel_rfl) λ X6 hX =>
  (show ∀ k, zJQ K zaa zab X6 (zjP zaa zab k) (zjO zaa zab k) from zdU _ _ (zjN zaa zab) (zjM zaa zab) (zJQ K zaa zab X6)
 (by intro _ hs;exact absurd hs Bool.false_ne_true)
 (by intro P6 S6 hX6 zd9 hs hk;exact hX _ (zaR (by kernel_rfl) (zc hs hk (λ hs hk=>(zaL hs λ hc hs=>And.intro hc (zJU hX6 hs hk))) (λ hs hk=>(zJT hs hk)))))) _ hs hk
def zmq (zaa:(Sl Net)) (zab:(Sl Int)):(Net×Int) :=
  (ztK zaa zab (0:Int))
def zo2 (zaa:(Sl Net)) (zab:(Sl Int)):Bool :=
  (ztL zaa zab (0:Int))
theorem zJW (hs:zo2 zaa zab=true) (hk:K (e61 (zmq zaa zab))):z61 (Wk K) [1,1,1,1,1,1] [] ⟨[(0,zS enc_24 2 zaa),(1,zS enc_3 1 zab),(4,zp 4 0),(6,zp 6 0)],[(4,.box 24 [zi (0:Int),.p (.nils)]),(6,.box 3 [zi ((zaa.get 0).Nodes)])],[]⟩:=zaR (by kernel_rfl) (zJV hs hk)
def zo3 (zaa:(Sl Net)) (zab:(Sl Int)):(Net×Int) :=
  (cond ((zab.len : Int) != (zaa.get 0).Nodes)
 ((⟨(0:Int),(⟨0,λ _=>default⟩:(Sl Tie))⟩:Net),(2:Int))
 (cond ((zab.get 0) != (0:Int))
 ((⟨(0:Int),(⟨0,λ _=>default⟩:(Sl Tie))⟩:Net),(2:Int))
 (zmq zaa zab)))
def zo4 (zaa:(Sl Net)) (zab:(Sl Int)):Bool :=
  (cond ((zab.len : Int) != (zaa.get 0).Nodes)
 true
 (decide ((0≤(0:Int)/\(0:Int) < (zab.len:Int))) &&
 (cond ((zab.get 0) != (0:Int))
 true
 (zo2 zaa zab))))
theorem zJX (hs:zo4 zaa zab=true) (hk:K (e61 (zo3 zaa zab))):z61 (Wk K) [1,1,1,1,1] [] ⟨[(0,zS enc_24 2 zaa),(1,zS enc_3 1 zab),(4,zp 4 0),(6,zp 6 0)],[(4,.box 24 [zi (0:Int),.p (.nils)]),(6,.box 3 [zi ((zaa.get 0).Nodes)])],[]⟩:=zaR (by kernel_rfl) (zc hs hk (λ hs hk=>((wk hk (zb8 (.agg (zb8 (.rfl _) (zb8 (.nil _ _) zes))) (zb8 (.one (.rfl _)) zes))):Wk K [.agg [.int .i64 (0:Int),.nils],.one (.int .i64 (2:Int))])) (λ hs hk=>(zaL hs λ hc hs=>And.intro hc (zc hs hk (λ hs hk=>((wk hk (zb8 (.agg (zb8 (.rfl _) (zb8 (.nil _ _) zes))) (zb8 (.one (.rfl _)) zes))):Wk K [.agg [.int .i64 (0:Int),.nils],.one (.int .i64 (2:Int))])) (λ hs hk=>(zJW hs hk))))))
def zo5 (S2:Int->(Net×Int)) (zaa:(Sl Net)) (zab:(Sl Int)) (ztE:Int) (ztF:Bool):(Net×Int) :=
  (cond ztF
 ((⟨(0:Int),(⟨0,λ _=>default⟩:(Sl Tie))⟩:Net),(2:Int))
 (S2 (w64 (ztE+(1:Int)))))
def zo6 (P2:Int->Bool) (zaa:(Sl Net)) (zab:(Sl Int)) (ztE:Int) (ztF:Bool):Bool :=
  (cond ztF
 true
 (P2 (w64 (ztE+(1:Int)))))
theorem zB6 (hX2:zJP K zaa zab X2 P2 S2) (hs:zo6 P2 zaa zab ztE ztF=true) (hk:K (e61 (zo5 S2 zaa zab ztE ztF))):z61 (Wk K) [1,1,1,1,0,1,0,0,1,1,0,0,1,1] [X2] ⟨[(0,zS enc_24 2 zaa),(1,zS enc_3 1 zab),(4,zp 4 0),(6,zp 6 0),(31,zS enc_24 2 zaa),(32,zI (zaa.len:Int)),(33,zI ztE),(45,zB ztF)],[(4,.box 24 [zi (0:Int),.p (.nils)]),(6,.box 3 [zi ((zaa.get 0).Nodes)])],[]⟩:=zaR (by kernel_rfl) (zc hs hk (λ hs hk=>((wk hk (zb8 (.agg (zb8 (.rfl _) (zb8 (.nil _ _) zes))) (zb8 (.one (.rfl _)) zes))):Wk K [.agg [.int .i64 (0:Int),.nils],.one (.int .i64 (2:Int))])) (λ hs hk=>(hX2 hs hk)))
def zjQ (zaa:(Sl Net)) (zab:(Sl Int)) (S2:Int->(Net×Int)) (zdb:Int):(Net×Int) :=
  (cond (decide (zdb < (zaa.len : Int)))
 (cond (!(s67 (zaa.get zdb.toNat)))
 (zo5 S2 zaa zab zdb true)
 (zo5 S2 zaa zab zdb ((zaa.get zdb.toNat).Nodes != (zaa.get 0).Nodes)))
 (zo3 zaa zab))
def zjR (zaa:(Sl Net)) (zab:(Sl Int)) (P2:Int->Bool) (zdb:Int):Bool :=
  (cond (decide (zdb < (zaa.len : Int)))
 (decide ((0≤zdb/\zdb < (zaa.len:Int))) &&
 (decide ((p67 (zaa.get zdb.toNat)=true)) &&
 (cond (!(s67 (zaa.get zdb.toNat)))
 (zo6 P2 zaa zab zdb true)
 (zo6 P2 zaa zab zdb ((zaa.get zdb.toNat).Nodes != (zaa.get 0).Nodes)))))
 (zo4 zaa zab))
def zjS (zaa:(Sl Net)) (zab:(Sl Int)):Nat->Int->(Net×Int):=lpO (λ _=>default) (zjQ zaa zab)
def zjT (zaa:(Sl Net)) (zab:(Sl Int)):Nat->Int->Bool:=lpO (λ _=>false) (zjR zaa zab)
def ztM (zaa:(Sl Net)) (zab:(Sl Int)) (zdb:Int):(Net×Int):=zjS zaa zab Fuel zdb
def ztN (zaa:(Sl Net)) (zab:(Sl Int)) (zdb:Int):Bool:=zjT zaa zab Fuel zdb
theorem zJY (hs:ztN zaa zab zdb=true) (hk:K (e61 (ztM zaa zab zdb))):z61 (Wk K) [1,1,1,1,0,1,0] [] (zF3 zaa zab zdb) :=
  zl (λ X=>z61 (Wk K) [1,1,1,1,0,1,0,0] [X]) (by kernel_rfl) λ X2 hX =>
  (show ∀ k, zJP K zaa zab X2 (zjT zaa zab k) (zjS zaa zab k) from zdU _ _ (zjR zaa zab) (zjQ zaa zab) (zJP K zaa zab X2)
 (by intro _ hs;exact absurd hs Bool.false_ne_true)
 (by intro P2 S2 hX2 zdb hs hk;exact hX _ (zaR (by kernel_rfl) (zc hs hk (λ hs hk=>(zaL hs λ hc hs=>And.intro hc (zaL hs λ hc hs=>And.intro (And.intro (zE zai 4 ((zaa.get zdb.toNat).Ties.get)) hc) (zc hs hk (λ hs hk=>(zB6 hX2 hs hk)) (λ hs hk=>(zB6 hX2 hs hk)))))) (λ hs hk=>(zJX hs hk)))))) _ hs hk
def ztO (zaa:(Sl Net)) (zab:(Sl Int)):(Net×Int) :=
  (ztM zaa zab (0:Int))
def ztP (zaa:(Sl Net)) (zab:(Sl Int)):Bool :=
  (decide ((0≤(0:Int)/\(0:Int) < (zaa.len:Int))) &&
 (ztN zaa zab (0:Int)))
theorem zJZ (hs:ztP zaa zab=true) (hk:K (e61 (ztO zaa zab))):z61 (Wk K) [1,1,1] [] ⟨[(0,zS enc_24 2 zaa),(1,zS enc_3 1 zab),(4,zp 4 0)],[(4,.box 24 [zi (0:Int),.p (.nils)])],[]⟩:=zaR (by kernel_rfl) (zaL hs λ hc hs=>And.intro hc (zJY hs hk))
def ztQ (zaa:(Sl Net)) (zab:(Sl Int)):(Net×Int) :=
  (cond ((zaa.len : Int) == (0:Int))
 ((⟨(0:Int),(⟨0,λ _=>default⟩:(Sl Tie))⟩:Net),(2:Int))
 (ztO zaa zab))
def ztR (zaa:(Sl Net)) (zab:(Sl Int)):Bool :=
  (cond ((zaa.len : Int) == (0:Int))
 true
 (ztP zaa zab))
theorem zJ0 (hs:ztR zaa zab=true) (hk:K (e61 (ztQ zaa zab))):z61 (Wk K) [1,1] [] ⟨[(0,zS enc_24 2 zaa),(1,zS enc_3 1 zab),(4,zp 4 0)],[(4,.box 24 [zi (0:Int),.p (.nils)])],[]⟩:=zaR (by kernel_rfl) (zc hs hk (λ hs hk=>((wk hk (zb8 (.agg (zb8 (.rfl _) (zb8 (.nil _ _) zes))) (zb8 (.one (.rfl _)) zes))):Wk K [.agg [.int .i64 (0:Int),.nils],.one (.int .i64 (2:Int))])) (λ hs hk=>(zJZ hs hk)))
def s61 (zaa:(Sl Net)) (zab:(Sl Int)):(Net×Int) :=
  (cond (decide ((zaa.len : Int) > (10:Int)))
 ((⟨(0:Int),(⟨0,λ _=>default⟩:(Sl Tie))⟩:Net),(3:Int))
 (ztQ zaa zab))
def p61 (zaa:(Sl Net)) (zab:(Sl Int)):Bool :=
  (cond (decide ((zaa.len : Int) > (10:Int)))
 true
 (ztR zaa zab))
end
theorem q61 (zaa:(Sl Net)) (zab:(Sl Int)) (K:List PA->Prop) (hs:p61 zaa zab=true) (hk:K (e61 (s61 zaa zab))):vcFun Tryd.prog G61 zJO 61 [.one (.sl zaa.len 2 (λ i=>enc_24 (zaa.get i))),.one (.sl zab.len 1 (λ i=>enc_3 (zab.get i)))] (Wk K) :=
  zaR (by kernel_rfl) (zc hs hk (λ hs hk=>((wk hk (zb8 (.agg (zb8 (.rfl _) (zb8 (.nil _ _) zes))) (zb8 (.one (.rfl _)) zes))):Wk K [.agg [.int .i64 (0:Int),.nils],.one (.int .i64 (3:Int))])) (λ hs hk=>(zJ0 hs hk)))
def zJ1 : List PA → COut
  | [.one (.sl zdl ziz zdm),.one (.sl zcz zfx zcw)]=>.det (IsE enc_24 2 ziz zdm/\IsE enc_3 1 zfx zcw/\p61 (⟨zdl,zdp zdm⟩:(Sl Net)) (⟨zcz,zar zcw⟩:(Sl Int))=true) [.agg [.int .i64 (((s61 (⟨zdl,zdp zdm⟩:(Sl Net)) (⟨zcz,zar zcw⟩:(Sl Int))).1).Nodes),.sl (((s61 (⟨zdl,zdp zdm⟩:(Sl Net)) (⟨zcz,zar zcw⟩:(Sl Int))).1).Ties.len) 4 (λ i=>zai (((s61 (⟨zdl,zdp zdm⟩:(Sl Net)) (⟨zcz,zar zcw⟩:(Sl Int))).1).Ties.get i))],.one (.int .i64 ((s61 (⟨zdl,zdp zdm⟩:(Sl Net)) (⟨zcz,zar zcw⟩:(Sl Int))).2))]
  | _=>.no
theorem zNo:zaw Tryd.prog 61:=⟨_,rfl,rfl,by kernel_rfl⟩
theorem zRc:Ok Tryd.prog 61 zJ1:=zgi zPo zNo λ args K h=>by
  unfold zJ1 at h
  split at h
  · rename_i zdl ziz zdm zcz zfx zcw
    obtain⟨⟨⟨rfl,zfz,rfl⟩,⟨rfl,zdV,rfl⟩,hs⟩,hk⟩:=h
    try rw[zdq zfz] at hs
    try rw[zdq zfz] at hk
    try rw[zaV zdV] at hs
    try rw[zaV zdV] at hk
    exact⟨_,zfd zfW _,(λ _ _=>[]),(λ _=>false),zJO,q61 (⟨zdl,zfz⟩:(Sl Net)) (⟨zcz,zdV⟩:(Sl Int)) K hs hk⟩
  · exact h.elim
abbrev T63:Tabs:=Tabs.nil
theorem zPp:TabsOk Tryd.prog T63:=TabsOk.nil
abbrev G63:Ctrs:=csm T63 (λ _ _=>[]) (λ _=>false)
def zNp:Ann:=⟨17,[(0,zK [0,1,2] []),(1,zK [0,1,2,8] []),(2,zK [6] []),(3,zK [6] [])],
 [],
 [],
 [],[]⟩
abbrev R63:=Int
abbrev e63 (r:R63):List PA:=[.one (.int .i64 r)]
section
variable {K:List PA->Prop}{nodes:Int}{epoch:Int}{i_a2:Int}
def s63 (nodes:Int) (epoch:Int) (i_a2:Int):Int :=
  (cond (i_a2 == (0:Int))
 (0:Int)
 (w64 ((w64 ((w64 ((1:Int)+(w64 (epoch * (w64 (nodes - (1:Int)))))))+i_a2)) - (1:Int))))
end
theorem q63 (nodes:Int) (epoch:Int) (i_a2:Int) (K:List PA->Prop) (hk:K (e63 (s63 nodes epoch i_a2))):vcFun Tryd.prog G63 zNp 63 [.one (.int .i64 nodes),.one (.int .i64 epoch),.one (.int .i64 i_a2)] K :=
  zaR (by kernel_rfl) (zt hk (λ hk=>hk) (λ hk=>hk))
def zEr : List PA → COut
  | [.one (.int .i64 a0),.one (.int .i64 a1),.one (.int .i64 a2)]=>.tot [.one (.int .i64 (s63 a0 a1 a2))]
  | _=>.no
theorem zNq:zaw Tryd.prog 63:=⟨_,rfl,rfl,by kernel_rfl⟩
theorem zQb:Ok Tryd.prog 63 zEr:=zbv zPp zNq λ args K h=>by
  unfold zEr at h
  split at h
  · rename_i a0 a1 a2
    have hk:=h
    exact⟨(λ _ _=>[]),(λ _=>false),zNp,q63 a0 a1 a2 K hk⟩
  · exact h.elim
abbrev T62:Tabs:=(((Tabs.nil.addF 23 zEl).addF 63 zEr).addF 72 zwR)
theorem zPq:TabsOk Tryd.prog T62:=(((TabsOk.nil.addF zQa).addF zQb).addF zN3)
abbrev G62:Ctrs:=csm T62 (λ _ _=>[]) (λ _=>false)
def zJ2:Ann:=⟨172,[(0,zK [0,1,4] [4]),(1,zK [0,1,4,16] [4]),(2,zK [4,5] [4]),(3,zK [0,1,4,42] [4]),(4,zK [4,5] [4]),(5,zK [0,1,4,6] [4]),(6,zK [0,1,4,6,7] [4]),(7,zK [0,1,4,6,7,50] [4]),(8,zK [0,1,4,6,7] [4]),(9,zK [0,1,4,6,7,58] [4]),(10,zK [4,5] [4]),(11,zK [0,1,4,6,8] [4,8]),(12,zK [0,1,4,6,8,9] [4,8]),(13,zK [0,1,4,6,8,9,70] [4,8,123]),(14,zK [0,1,4,6,8,9] [4,8,123]),(15,zK [0,1,4,6,8,9,87] [4,8,123]),(16,zK [4,5] [4]),(17,zK [0,1,4,6,8,9,10] [4,8,123]),(18,zK [0,1,4,6,8,9,10,96] [4,8,123]),(19,zK [0,1,4,6,8,9,10] [4,8,123]),(20,zK [0,1,4,6,8,9,10,11] [4,8,11,123]),(21,zK [0,1,4,6,8,9,10,11] [4,8,11,123]),(22,zK [0,1,4,6,8,9,10] [4,8,123]),(23,zK [0,1,4,6,8,12] [4,8,123]),(24,zK [0,1,4,6,8,12,129] [4,8,123]),(25,zK [0,1,4,6,8,12] [4,8,123]),(26,zK [0,1,4,6,8,12,13] [4,8,123]),(27,zK [0,1,4,6,8,12,13,134] [4,8,123]),(28,zK [0,1,4,6,8,12,13] [4,8,123]),(29,zK [0,1,4,6,8,12,13] [4,8,123]),(30,zK [4,8,169] [4,8,123]),(31,zK [4,5] [4]),(32,zK [4,5] [4,123])],
 [(7,zK [0,1,4,6,7] [4]),(13,⟨[0,1,4,6,8,9],[4,8,123],[],[(8,1,123,40,λ _=>zai default)],[],[],[]⟩),(24,⟨[0,1,4,6,8,12],[4,8,123],[],[(8,1,159,40,λ _=>zai default)],[],[],[]⟩),(18,⟨[0,1,4,6,8,9,10],[4,8,123],[],[(8,1,123,40,λ _=>zai default)],[],[],[]⟩),(27,⟨[0,1,4,6,8,12,13],[4,8,123],[],[(8,1,159,40,λ _=>zai default)],[],[],[]⟩)],
 [(3,zK [0,1,4] [4]),(4,zK [0,1,4,42] [4]),(5,zK [0,1,4] [4]),(10,zK [0,1,4,6,7,58] [4]),(11,zK [0,1,4,6] [4]),(16,zK [0,1,4,6,8,9,87] [4,8,123]),(23,zK [0,1,4,6,8] [4,8,123]),(17,zK [0,1,4,6,8,9] [4,8,123]),(30,zK [4,8] [4,8,123]),(22,zK [0,1,4,6,8,9,10,11] [4,8,11,123])],
 [],[]⟩
abbrev R62:=(Net×Int)
abbrev e62 (r:R62):List PA:=[.agg [.int .i64 r.1.Nodes,.sl r.1.Ties.len 4 (λ i=>zai (r.1.Ties.get i))],.one (.int .i64 r.2)]
@[irreducible] def z62:=ptF Tryd.prog G62 zJ2 Tryd.f62
def zF8 (zaa:(Sl Net)) (zab:(Sl Int)) (iv3:Int):St:=⟨[(0,zS enc_24 2 zaa),(1,zS enc_3 1 zab),(4,zp 4 0),(6,zI ((zaa.get 0).Nodes)),(7,zI iv3)],[(4,.box 24 [zi (0:Int),.p (.nils)])],[]⟩
abbrev zJ3 (K:List PA->Prop) (zaa:(Sl Net)) (zab:(Sl Int)) (X:St->Prop) (P:Int->Bool) (S:Int->(Net×Int)):Prop:=∀ ⦃iv3:Int⦄,P iv3=true->K (e62 (S iv3))->X (zF8 zaa zab iv3)
def zF9 (zaa:(Sl Net)) (zab:(Sl Int)) (jv6:Int) (zbW:Int) (zcA:(Sl Tie)) (zeQ:Nat->List PV):St:=⟨[(0,zS enc_24 2 zaa),(1,zS enc_3 1 zab),(4,zp 4 0),(6,zI ((zaa.get 0).Nodes)),(8,zp 8 0),(9,zI jv6)],[(4,.box 24 [zi (0:Int),.p (.nils)]),(8,.box 24 [zi zbW,.vec 123]),(123,.vec 40 4 32 zcA.len zeQ)],[]⟩
abbrev zwS (K:List PA->Prop) (zaa:(Sl Net)) (zab:(Sl Int)) (X:St->Prop) (P:Int->Int->(Sl Tie)->Bool) (S:Int->Int->(Sl Tie)->(Net×Int)):Prop:=∀ ⦃jv6:Int⦄ ⦃zbW:Int⦄ ⦃zcA:(Sl Tie)⦄ ⦃zeQ:Nat->List PV⦄,P jv6 zbW zcA=true->K (e62 (S jv6 zbW zcA))->zeQ=zg zai zcA->X (zF9 zaa zab jv6 zbW zcA zeQ)
def zB7 (zaa:(Sl Net)) (zab:(Sl Int)) (zaH:Int) (zex:Int) (zb5:(Sl Tie)) (zdN:Nat->List PV):St:=⟨[(0,zS enc_24 2 zaa),(1,zS enc_3 1 zab),(4,zp 4 0),(6,zI ((zaa.get 0).Nodes)),(8,zp 8 0),(12,zI zex)],[(4,.box 24 [zi (0:Int),.p (.nils)]),(8,.box 24 [zi zaH,.vec 123]),(123,.vec 40 4 32 zb5.len zdN)],[]⟩
abbrev zB8 (K:List PA->Prop) (zaa:(Sl Net)) (zab:(Sl Int)) (zaH:Int) (X:St->Prop) (P:Int->(Sl Tie)->Bool) (S:Int->(Sl Tie)->(Net×Int)):Prop:=∀ ⦃zex:Int⦄ ⦃zb5:(Sl Tie)⦄ ⦃zdN:Nat->List PV⦄,P zex zb5=true->K (e62 (S zex zb5))->zdN=zg zai zb5->X (zB7 zaa zab zaH zex zb5 zdN)
def zB9 (zaa:(Sl Net)) (zab:(Sl Int)) (zaS:Int) (zfI:Int) (zh6:Int) (zbX:(Sl Tie)) (zdO:Nat->List PV):St:=⟨[(0,zS enc_24 2 zaa),(1,zS enc_3 1 zab),(4,zp 4 0),(6,zI ((zaa.get 0).Nodes)),(8,zp 8 0),(9,zI zfI),(10,zI zh6)],[(4,.box 24 [zi (0:Int),.p (.nils)]),(8,.box 24 [zi zaS,.vec 123]),(123,.vec 40 4 32 zbX.len zdO)],[]⟩
abbrev zCa (K:List PA->Prop) (zaa:(Sl Net)) (zab:(Sl Int)) (zaS:Int) (X:St->Prop) (P:Int->Int->(Sl Tie)->Bool) (S:Int->Int->(Sl Tie)->(Net×Int)):Prop:=∀ ⦃zfI:Int⦄ ⦃zh6:Int⦄ ⦃zbX:(Sl Tie)⦄ ⦃zdO:Nat->List PV⦄,P zfI zh6 zbX=true->K (e62 (S zfI zh6 zbX))->zdO=zg zai zbX->X (zB9 zaa zab zaS zfI zh6 zbX zdO)
def zCb (zaa:(Sl Net)) (zab:(Sl Int)) (zaH:Int) (zkt:Int) (zf7:Int) (zbz:(Sl Tie)) (zdP:Nat->List PV):St:=⟨[(0,zS enc_24 2 zaa),(1,zS enc_3 1 zab),(4,zp 4 0),(6,zI ((zaa.get 0).Nodes)),(8,zp 8 0),(12,zI zkt),(13,zI zf7)],[(4,.box 24 [zi (0:Int),.p (.nils)]),(8,.box 24 [zi zaH,.vec 123]),(123,.vec 40 4 32 zbz.len zdP)],[]⟩
abbrev zGa (K:List PA->Prop) (zaa:(Sl Net)) (zab:(Sl Int)) (zaH:Int) (X:St->Prop) (P:Int->Int->(Sl Tie)->Bool) (S:Int->Int->(Sl Tie)->(Net×Int)):Prop:=∀ ⦃zkt:Int⦄ ⦃zf7:Int⦄ ⦃zbz:(Sl Tie)⦄ ⦃zdP:Nat->List PV⦄,P zkt zf7 zbz=true->K (e62 (S zkt zf7 zbz))->zdP=zg zai zbz->X (zCb zaa zab zaH zkt zf7 zbz zdP)
section
variable {K:List PA->Prop}{zaa:(Sl Net)}{zab:(Sl Int)}{ztS:Bool}{iv3:Int}{X3:St->Prop}{P3:Int->Bool}{S3:Int->(Net×Int)}{iv4:Int}{ztT:Bool}{jv6:Int}{zbW:Int}{zcA:(Sl Tie)}{zeQ:Nat->List PV}{X6:St->Prop}{P6:Int->Int->(Sl Tie)->Bool}{S6:Int->Int->(Sl Tie)->(Net×Int)}{jv7:Int}{ztU:Bool}{zaS:Int}{zku:(Sl Tie)}{zvR:Nat->List PV}{zaH:Int}{zkv:(Sl Tie)}{zvS:Nat->List PV}{jv9:Int}{zkw:(Sl Tie)}{zvT:Nat->List PV}{zex:Int}{zb5:(Sl Tie)}{zdN:Nat->List PV}{X10:St->Prop}{P10:Int->(Sl Tie)->Bool}{S10:Int->(Sl Tie)->(Net×Int)}{zfI:Int}{zh6:Int}{zbX:(Sl Tie)}{zdO:Nat->List PV}{X11:St->Prop}{P11:Int->Int->(Sl Tie)->Bool}{S11:Int->Int->(Sl Tie)->(Net×Int)}{zkt:Int}{zf7:Int}{zbz:(Sl Tie)}{zdP:Nat->List PV}{X12:St->Prop}{P12:Int->Int->(Sl Tie)->Bool}{S12:Int->Int->(Sl Tie)->(Net×Int)}{zgJ:(Sl Tie)}{zq9:Nat->List PV}{zJ4:Int}{zJ5:Int}{zkx:Int}{zky:Int}{zkz:Int}{zkA:Int}{zc0:(Sl Tie)}{zra:Nat->List PV}
def zo7 (S6:Int->Int->(Sl Tie)->(Net×Int)) (S11:Int->Int->(Sl Tie)->(Net×Int)) (zaa:(Sl Net)) (zab:(Sl Int)) (zaS:Int) (zJ4:Int) (zJ5:Int) (zkx:Int) (zky:Int) (zkz:Int) (zkA:Int) (zc0:(Sl Tie)):(Net×Int) :=
  (S11 zJ4 (w64 (zJ5+(1:Int))) (⟨(zc0.len+1),(zl0 zc0.len zc0.get (λ _=>(⟨zkx,zky,zkz,zkA⟩:Tie)))⟩:Sl Tie))
def zo8 (P6:Int->Int->(Sl Tie)->Bool) (P11:Int->Int->(Sl Tie)->Bool) (zaa:(Sl Net)) (zab:(Sl Int)) (zaS:Int) (zJ4:Int) (zJ5:Int) (zkx:Int) (zky:Int) (zkz:Int) (zkA:Int) (zc0:(Sl Tie)):Bool :=
  (decide (((zc0.len+1) * 32≤140737488355328/\zc0.len+1≤9223372036854775807)) &&
 (P11 zJ4 (w64 (zJ5+(1:Int))) (⟨(zc0.len+1),(zl0 zc0.len zc0.get (λ _=>(⟨zkx,zky,zkz,zkA⟩:Tie)))⟩:Sl Tie)))
theorem zEs (hX6:zwS K zaa zab X6 P6 S6) (hX11:zCa K zaa zab zaS X11 P11 S11) (hs:zo8 P6 P11 zaa zab zaS zJ4 zJ5 zkx zky zkz zkA zc0=true) (hk:K (e62 (zo7 S6 S11 zaa zab zaS zJ4 zJ5 zkx zky zkz zkA zc0))) (zCc:zra=zg zai zc0):z62 (Wk K) [1,1,1,1,1,1,0,1,0,0,1,0,0,1,1,0,0,1,0,0,1,1] [X6,X11] ⟨[(0,zS enc_24 2 zaa),(1,zS enc_3 1 zab),(4,zp 4 0),(6,zI ((zaa.get 0).Nodes)),(8,zp 8 0),(9,zI zJ4),(10,zI zJ5),(11,zp 11 0)],[(4,.box 24 [zi (0:Int),.p (.nils)]),(8,.box 24 [zi zaS,.vec 123]),(11,.box 40 (zm (zai (⟨zkx,zky,zkz,zkA⟩:Tie)))),(123,.vec 40 4 32 zc0.len zra)],[]⟩:=by subst zCc;exact zaR (by kernel_rfl) (zaL hs λ hc hs=>And.intro hc (hX11 hs hk (ziw (enc:=zai) (f:=zc0.get) (h:=(λ _=>(⟨zkx,zky,zkz,zkA⟩:Tie))) rfl rfl)))
def zo9 (zaH:Int) (zgJ:(Sl Tie)):(Net×Int) :=
  (cond (decide (zaH > (40:Int)))
 ((⟨(0:Int),(⟨0,λ _=>default⟩:(Sl Tie))⟩:Net),(3:Int))
 (cond (decide ((zgJ.len : Int) > (200:Int)))
 ((⟨(0:Int),(⟨0,λ _=>default⟩:(Sl Tie))⟩:Net),(3:Int))
 ((⟨zaH,zgJ⟩:Net),(0:Int))))
theorem zEt (hk:K (e62 (zo9 zaH zgJ))) (zCd:zq9=zg zai zgJ):z62 (Wk K) [1,1,1,1,1,1,1,1] [] ⟨[(4,zp 4 0),(8,zp 8 0)],[(4,.box 24 [zi (0:Int),.p (.nils)]),(8,.box 24 [zi zaH,.vec 123]),(123,.vec 40 4 32 zgJ.len zq9)],[]⟩:=by subst zCd;exact zaR (by kernel_rfl) (zt hk (λ hk=>((wk hk (zb8 (.agg (zb8 (.rfl _) (zb8 (.nil _ _) zes))) (zb8 (.one (.rfl _)) zes))):Wk K [.agg [.int .i64 (0:Int),.nils],.one (.int .i64 (3:Int))])) (λ hk=>(zt hk (λ hk=>((wk hk (zb8 (.agg (zb8 (.rfl _) (zb8 (.nil _ _) zes))) (zb8 (.one (.rfl _)) zes))):Wk K [.agg [.int .i64 (0:Int),.nils],.one (.int .i64 (3:Int))])) (λ hk=>((zfX hk):Wk K [.agg [.int .i64 zaH,.sl zgJ.len 4 (λ i=>zai (zgJ.get i))],.one (.int .i64 (0:Int))])))))
def zg9 (S10:Int->(Sl Tie)->(Net×Int)) (zaa:(Sl Net)) (zab:(Sl Int)) (zaH:Int) (S12:Int->Int->(Sl Tie)->(Net×Int)) (zkt:Int) (zf7:Int) (zbz:(Sl Tie)):(Net×Int) :=
  (cond (decide (zf7 < (zaa.get 0).Nodes))
 (S12 zkt (w64 (zf7+(1:Int))) (⟨(zbz.len+1),(zl0 zbz.len zbz.get (λ _=>(⟨(s63 ((zaa.get 0).Nodes) zkt zf7),(s63 ((zaa.get 0).Nodes) (w64 (zkt+(1:Int))) zf7),(w64 (0 - (zab.get zf7.toNat))),(zab.get zf7.toNat)⟩:Tie)))⟩:Sl Tie))
 (S10 (w64 (zkt+(1:Int))) zbz))
def zha (P10:Int->(Sl Tie)->Bool) (zaa:(Sl Net)) (zab:(Sl Int)) (zaH:Int) (P12:Int->Int->(Sl Tie)->Bool) (zkt:Int) (zf7:Int) (zbz:(Sl Tie)):Bool :=
  (cond (decide (zf7 < (zaa.get 0).Nodes))
 (decide ((0≤zf7/\zf7 < (zab.len:Int))) &&
 (decide ((0≤zf7/\zf7 < (zab.len:Int))) &&
 (decide (((zbz.len+1) * 32≤140737488355328/\zbz.len+1≤9223372036854775807)) &&
 (P12 zkt (w64 (zf7+(1:Int))) (⟨(zbz.len+1),(zl0 zbz.len zbz.get (λ _=>(⟨(s63 ((zaa.get 0).Nodes) zkt zf7),(s63 ((zaa.get 0).Nodes) (w64 (zkt+(1:Int))) zf7),(w64 (0 - (zab.get zf7.toNat))),(zab.get zf7.toNat)⟩:Tie)))⟩:Sl Tie)))))
 (P10 (w64 (zkt+(1:Int))) zbz))
def zfJ (S10:Int->(Sl Tie)->(Net×Int)) (zaa:(Sl Net)) (zab:(Sl Int)) (zaH:Int):Nat->Int->Int->(Sl Tie)->(Net×Int):=lpO (λ _ _ _=>default) (zg9 S10 zaa zab zaH)
def zfK (P10:Int->(Sl Tie)->Bool) (zaa:(Sl Net)) (zab:(Sl Int)) (zaH:Int):Nat->Int->Int->(Sl Tie)->Bool:=lpO (λ _ _ _=>false) (zha P10 zaa zab zaH)
def zpa (S10:Int->(Sl Tie)->(Net×Int)) (zaa:(Sl Net)) (zab:(Sl Int)) (zaH:Int) (zkt:Int) (zf7:Int) (zbz:(Sl Tie)):(Net×Int):=zfJ S10 zaa zab zaH Fuel zkt zf7 zbz
def zpb (P10:Int->(Sl Tie)->Bool) (zaa:(Sl Net)) (zab:(Sl Int)) (zaH:Int) (zkt:Int) (zf7:Int) (zbz:(Sl Tie)):Bool:=zfK P10 zaa zab zaH Fuel zkt zf7 zbz
theorem zEu (hX10:zB8 K zaa zab zaH X10 P10 S10) (hs:zpb P10 zaa zab zaH zkt zf7 zbz=true) (hk:K (e62 (zpa S10 zaa zab zaH zkt zf7 zbz))) (zmr:zdP=zg zai zbz):z62 (Wk K) [1,1,1,1,1,1,1,0,1,0,0,1,0,0,1,0] [X10] (zCb zaa zab zaH zkt zf7 zbz zdP) :=
  zl (λ X=>z62 (Wk K) [1,1,1,1,1,1,1,0,1,0,0,1,0,0,1,0,0] [X10,X]) (by kernel_rfl) λ X12 hX =>
  (show ∀ k, zGa K zaa zab zaH X12 (zfK P10 zaa zab zaH k) (zfJ S10 zaa zab zaH k) from zdU _ _ (zha P10 zaa zab zaH) (zg9 S10 zaa zab zaH) (zGa K zaa zab zaH X12)
 (by intro _ _ _ _ hs;exact absurd hs Bool.false_ne_true)
 (by intro P12 S12 hX12 zkt zf7 zbz zdP hs hk zmr;subst zmr;exact hX _ (zaR (by kernel_rfl) (zc hs hk (λ hs hk=>(zaL hs λ hc hs=>And.intro hc (zaL hs λ hc hs=>And.intro hc (zaL hs λ hc hs=>And.intro hc (hX12 hs hk (ziw (enc:=zai) (f:=zbz.get) (h:=(λ _=>(⟨(s63 ((zaa.get 0).Nodes) zkt zf7),(s63 ((zaa.get 0).Nodes) (w64 (zkt+(1:Int))) zf7),(w64 (0 - (zab.get zf7.toNat))),(zab.get zf7.toNat)⟩:Tie))) rfl rfl)))))) (λ hs hk=>(hX10 hs hk rfl)))))) _ hs hk zmr
def zhb (S6:Int->Int->(Sl Tie)->(Net×Int)) (zaa:(Sl Net)) (zab:(Sl Int)) (zaS:Int) (S11:Int->Int->(Sl Tie)->(Net×Int)) (zfI:Int) (zh6:Int) (zbX:(Sl Tie)):(Net×Int) :=
  (cond (decide (zh6 < ((zaa.get zfI.toNat).Ties.len : Int)))
 (zo7 S6 S11 zaa zab zaS zfI zh6 (s63 ((zaa.get 0).Nodes) zfI (((zaa.get zfI.toNat).Ties.get zh6.toNat).From)) (s63 ((zaa.get 0).Nodes) zfI (((zaa.get zfI.toNat).Ties.get zh6.toNat).To)) (((zaa.get zfI.toNat).Ties.get zh6.toNat).Low) (((zaa.get zfI.toNat).Ties.get zh6.toNat).High) zbX)
 (S6 (w64 (zfI+(1:Int))) zaS zbX))
def zhc (P6:Int->Int->(Sl Tie)->Bool) (zaa:(Sl Net)) (zab:(Sl Int)) (zaS:Int) (P11:Int->Int->(Sl Tie)->Bool) (zfI:Int) (zh6:Int) (zbX:(Sl Tie)):Bool :=
  (decide ((0≤zfI/\zfI < (zaa.len:Int))) &&
 (cond (decide (zh6 < ((zaa.get zfI.toNat).Ties.len : Int)))
 (decide ((0≤zfI/\zfI < (zaa.len:Int))) &&
 (decide ((0≤zh6/\zh6 < ((zaa.get zfI.toNat).Ties.len:Int))) &&
 (zo8 P6 P11 zaa zab zaS zfI zh6 (s63 ((zaa.get 0).Nodes) zfI (((zaa.get zfI.toNat).Ties.get zh6.toNat).From)) (s63 ((zaa.get 0).Nodes) zfI (((zaa.get zfI.toNat).Ties.get zh6.toNat).To)) (((zaa.get zfI.toNat).Ties.get zh6.toNat).Low) (((zaa.get zfI.toNat).Ties.get zh6.toNat).High) zbX)))
 (P6 (w64 (zfI+(1:Int))) zaS zbX)))
def zfL (S6:Int->Int->(Sl Tie)->(Net×Int)) (zaa:(Sl Net)) (zab:(Sl Int)) (zaS:Int):Nat->Int->Int->(Sl Tie)->(Net×Int):=lpO (λ _ _ _=>default) (zhb S6 zaa zab zaS)
def zfM (P6:Int->Int->(Sl Tie)->Bool) (zaa:(Sl Net)) (zab:(Sl Int)) (zaS:Int):Nat->Int->Int->(Sl Tie)->Bool:=lpO (λ _ _ _=>false) (zhc P6 zaa zab zaS)
def zvU (S6:Int->Int->(Sl Tie)->(Net×Int)) (zaa:(Sl Net)) (zab:(Sl Int)) (zaS:Int) (zfI:Int) (zh6:Int) (zbX:(Sl Tie)):(Net×Int):=zfL S6 zaa zab zaS Fuel zfI zh6 zbX
def zvV (P6:Int->Int->(Sl Tie)->Bool) (zaa:(Sl Net)) (zab:(Sl Int)) (zaS:Int) (zfI:Int) (zh6:Int) (zbX:(Sl Tie)):Bool:=zfM P6 zaa zab zaS Fuel zfI zh6 zbX
theorem zEv (hX6:zwS K zaa zab X6 P6 S6) (hs:zvV P6 zaa zab zaS zfI zh6 zbX=true) (hk:K (e62 (zvU S6 zaa zab zaS zfI zh6 zbX))) (zms:zdO=zg zai zbX):z62 (Wk K) [1,1,1,1,1,1,0,1,0,0,1,0,0,1,1,0] [X6] (zB9 zaa zab zaS zfI zh6 zbX zdO) :=
  zl (λ X=>z62 (Wk K) [1,1,1,1,1,1,0,1,0,0,1,0,0,1,1,0,0] [X6,X]) (by kernel_rfl) λ X11 hX =>
  (show ∀ k, zCa K zaa zab zaS X11 (zfM P6 zaa zab zaS k) (zfL S6 zaa zab zaS k) from zdU _ _ (zhc P6 zaa zab zaS) (zhb S6 zaa zab zaS) (zCa K zaa zab zaS X11)
 (by intro _ _ _ _ hs;exact absurd hs Bool.false_ne_true)
 (by intro P11 S11 hX11 zfI zh6 zbX zdO hs hk zms;subst zms;exact hX _ (zaR (by kernel_rfl) (zaL hs λ hc hs=>And.intro hc (zc hs hk (λ hs hk=>(zaL hs λ hc hs=>And.intro hc (zaL hs λ hc hs=>And.intro hc (zEs hX6 hX11 hs hk rfl)))) (λ hs hk=>(hX6 hs hk rfl))))))) _ hs hk zms
def zhd (zaa:(Sl Net)) (zab:(Sl Int)) (zaH:Int) (S10:Int->(Sl Tie)->(Net×Int)) (zex:Int) (zb5:(Sl Tie)):(Net×Int) :=
  (cond (decide ((w64 (zex + (1:Int))) < (zaa.len : Int)))
 (zpa S10 zaa zab zaH zex (1:Int) zb5)
 (zo9 zaH zb5))
def zhe (zaa:(Sl Net)) (zab:(Sl Int)) (zaH:Int) (P10:Int->(Sl Tie)->Bool) (zex:Int) (zb5:(Sl Tie)):Bool :=
  (cond (decide ((w64 (zex + (1:Int))) < (zaa.len : Int)))
 (zpb P10 zaa zab zaH zex (1:Int) zb5)
 true)
def zfN (zaa:(Sl Net)) (zab:(Sl Int)) (zaH:Int):Nat->Int->(Sl Tie)->(Net×Int):=lpO (λ _ _=>default) (zhd zaa zab zaH)
def zfO (zaa:(Sl Net)) (zab:(Sl Int)) (zaH:Int):Nat->Int->(Sl Tie)->Bool:=lpO (λ _ _=>false) (zhe zaa zab zaH)
def zvW (zaa:(Sl Net)) (zab:(Sl Int)) (zaH:Int) (zex:Int) (zb5:(Sl Tie)):(Net×Int):=zfN zaa zab zaH Fuel zex zb5
def zvX (zaa:(Sl Net)) (zab:(Sl Int)) (zaH:Int) (zex:Int) (zb5:(Sl Tie)):Bool:=zfO zaa zab zaH Fuel zex zb5
theorem zEw (hs:zvX zaa zab zaH zex zb5=true) (hk:K (e62 (zvW zaa zab zaH zex zb5))) (zmt:zdN=zg zai zb5):z62 (Wk K) [1,1,1,1,1,1,1,0,1,0] [] (zB7 zaa zab zaH zex zb5 zdN) :=
  zl (λ X=>z62 (Wk K) [1,1,1,1,1,1,1,0,1,0,0] [X]) (by kernel_rfl) λ X10 hX =>
  (show ∀ k, zB8 K zaa zab zaH X10 (zfO zaa zab zaH k) (zfN zaa zab zaH k) from zdU _ _ (zhe zaa zab zaH) (zhd zaa zab zaH) (zB8 K zaa zab zaH X10)
 (by intro _ _ _ hs;exact absurd hs Bool.false_ne_true)
 (by intro P10 S10 hX10 zex zb5 zdN hs hk zmt;subst zmt;exact hX _ (zaR (by kernel_rfl) (zc hs hk (λ hs hk=>(zEu hX10 hs hk rfl)) (λ hs hk=>(zEt hk rfl)))))) _ hs hk zmt
def zpc (S6:Int->Int->(Sl Tie)->(Net×Int)) (zaa:(Sl Net)) (zab:(Sl Int)) (zaS:Int) (jv9:Int) (zkw:(Sl Tie)):(Net×Int) :=
  (zvU S6 zaa zab zaS jv9 (0:Int) zkw)
def zpd (P6:Int->Int->(Sl Tie)->Bool) (zaa:(Sl Net)) (zab:(Sl Int)) (zaS:Int) (jv9:Int) (zkw:(Sl Tie)):Bool :=
  (zvV P6 zaa zab zaS jv9 (0:Int) zkw)
theorem zJ6 (hX6:zwS K zaa zab X6 P6 S6) (hs:zpd P6 zaa zab zaS jv9 zkw=true) (hk:K (e62 (zpc S6 zaa zab zaS jv9 zkw))) (zEx:zvT=zg zai zkw):z62 (Wk K) [1,1,1,1,1,1,0,1,0,0,1,0,0,1] [X6] ⟨[(0,zS enc_24 2 zaa),(1,zS enc_3 1 zab),(4,zp 4 0),(6,zI ((zaa.get 0).Nodes)),(8,zp 8 0),(9,zI jv9)],[(4,.box 24 [zi (0:Int),.p (.nils)]),(8,.box 24 [zi zaS,.vec 123]),(123,.vec 40 4 32 zkw.len zvT)],[]⟩:=by subst zEx;exact zaR (by kernel_rfl) (zEv hX6 hs hk rfl)
def zpe (zaa:(Sl Net)) (zab:(Sl Int)) (zaH:Int) (zkv:(Sl Tie)):(Net×Int) :=
  (zvW zaa zab zaH (0:Int) zkv)
def zpf (zaa:(Sl Net)) (zab:(Sl Int)) (zaH:Int) (zkv:(Sl Tie)):Bool :=
  (zvX zaa zab zaH (0:Int) zkv)
theorem zJ7 (hs:zpf zaa zab zaH zkv=true) (hk:K (e62 (zpe zaa zab zaH zkv))) (zEy:zvS=zg zai zkv):z62 (Wk K) [1,1,1,1,1,1,1] [] ⟨[(0,zS enc_24 2 zaa),(1,zS enc_3 1 zab),(4,zp 4 0),(6,zI ((zaa.get 0).Nodes)),(8,zp 8 0)],[(4,.box 24 [zi (0:Int),.p (.nils)]),(8,.box 24 [zi zaH,.vec 123]),(123,.vec 40 4 32 zkv.len zvS)],[]⟩:=by subst zEy;exact zaR (by kernel_rfl) (zEw hs hk rfl)
def zpg (S6:Int->Int->(Sl Tie)->(Net×Int)) (zaa:(Sl Net)) (zab:(Sl Int)) (jv7:Int) (ztU:Bool) (zaS:Int) (zku:(Sl Tie)):(Net×Int) :=
  (cond ztU
 ((⟨(0:Int),(⟨0,λ _=>default⟩:(Sl Tie))⟩:Net),(2:Int))
 (zpc S6 zaa zab zaS jv7 zku))
def zph (P6:Int->Int->(Sl Tie)->Bool) (zaa:(Sl Net)) (zab:(Sl Int)) (jv7:Int) (ztU:Bool) (zaS:Int) (zku:(Sl Tie)):Bool :=
  (cond ztU
 true
 (zpd P6 zaa zab zaS jv7 zku))
theorem zCe (hX6:zwS K zaa zab X6 P6 S6) (hs:zph P6 zaa zab jv7 ztU zaS zku=true) (hk:K (e62 (zpg S6 zaa zab jv7 ztU zaS zku))) (zEz:zvR=zg zai zku):z62 (Wk K) [1,1,1,1,1,1,0,1,0,0,1,0,0,0,1] [X6] ⟨[(0,zS enc_24 2 zaa),(1,zS enc_3 1 zab),(4,zp 4 0),(6,zI ((zaa.get 0).Nodes)),(8,zp 8 0),(9,zI jv7),(87,zB ztU)],[(4,.box 24 [zi (0:Int),.p (.nils)]),(8,.box 24 [zi zaS,.vec 123]),(123,.vec 40 4 32 zku.len zvR)],[]⟩:=by subst zEz;exact zaR (by kernel_rfl) (zc hs hk (λ hs hk=>((wk hk (zb8 (.agg (zb8 (.rfl _) (zb8 (.nil _ _) zes))) (zb8 (.one (.rfl _)) zes))):Wk K [.agg [.int .i64 (0:Int),.nils],.one (.int .i64 (2:Int))])) (λ hs hk=>(zJ6 hX6 hs hk rfl)))
def zjU (zaa:(Sl Net)) (zab:(Sl Int)) (S6:Int->Int->(Sl Tie)->(Net×Int)) (jv6:Int) (zbW:Int) (zcA:(Sl Tie)):(Net×Int) :=
  (cond (decide (jv6 < (zaa.len : Int)))
 (cond (!(s23 (zaa.get jv6.toNat)))
 (zpg S6 zaa zab jv6 true zbW zcA)
 (zpg S6 zaa zab jv6 ((zaa.get jv6.toNat).Nodes != (zaa.get 0).Nodes) zbW zcA))
 (zpe zaa zab zbW zcA))
def zjV (zaa:(Sl Net)) (zab:(Sl Int)) (P6:Int->Int->(Sl Tie)->Bool) (jv6:Int) (zbW:Int) (zcA:(Sl Tie)):Bool :=
  (cond (decide (jv6 < (zaa.len : Int)))
 (decide ((0≤jv6/\jv6 < (zaa.len:Int))) &&
 (decide ((p23 (zaa.get jv6.toNat)=true)) &&
 (cond (!(s23 (zaa.get jv6.toNat)))
 (zph P6 zaa zab jv6 true zbW zcA)
 (decide ((0≤jv6/\jv6 < (zaa.len:Int))) &&
 (zph P6 zaa zab jv6 ((zaa.get jv6.toNat).Nodes != (zaa.get 0).Nodes) zbW zcA)))))
 (zpf zaa zab zbW zcA))
def zhS (zaa:(Sl Net)) (zab:(Sl Int)):Nat->Int->Int->(Sl Tie)->(Net×Int):=lpO (λ _ _ _=>default) (zjU zaa zab)
def zhT (zaa:(Sl Net)) (zab:(Sl Int)):Nat->Int->Int->(Sl Tie)->Bool:=lpO (λ _ _ _=>false) (zjV zaa zab)
def ztV (zaa:(Sl Net)) (zab:(Sl Int)) (jv6:Int) (zbW:Int) (zcA:(Sl Tie)):(Net×Int):=zhS zaa zab Fuel jv6 zbW zcA
def ztW (zaa:(Sl Net)) (zab:(Sl Int)) (jv6:Int) (zbW:Int) (zcA:(Sl Tie)):Bool:=zhT zaa zab Fuel jv6 zbW zcA
theorem zJ8 (hs:ztW zaa zab jv6 zbW zcA=true) (hk:K (e62 (ztV zaa zab jv6 zbW zcA))) (zpi:zeQ=zg zai zcA):z62 (Wk K) [1,1,1,1,1,1,0,1,0] [] (zF9 zaa zab jv6 zbW zcA zeQ) :=
  zl (λ X=>z62 (Wk K) [1,1,1,1,1,1,0,1,0,0] [X]) (by kernel_rfl) λ X6 hX =>
  (show ∀ k, zwS K zaa zab X6 (zhT zaa zab k) (zhS zaa zab k) from zdU _ _ (zjV zaa zab) (zjU zaa zab) (zwS K zaa zab X6)
 (by intro _ _ _ _ hs;exact absurd hs Bool.false_ne_true)
 (by intro P6 S6 hX6 jv6 zbW zcA zeQ hs hk zpi;subst zpi;exact hX _ (zaR (by kernel_rfl) (zc hs hk (λ hs hk=>(zaL hs λ hc hs=>And.intro hc (zaL hs λ hc hs=>And.intro (And.intro (zE zai 4 ((zaa.get jv6.toNat).Ties.get)) hc) (zc hs hk (λ hs hk=>(zCe hX6 hs hk rfl)) (λ hs hk=>(zaL hs λ hc hs=>And.intro hc (zCe hX6 hs hk rfl))))))) (λ hs hk=>(zJ7 hs hk rfl)))))) _ hs hk zpi
def zhU (zaa:(Sl Net)) (zab:(Sl Int)):(Net×Int) :=
  (ztV zaa zab (0:Int) (w64 ((1:Int)+(w64 ((zaa.len:Int) * (w64 ((zaa.get 0).Nodes - (1:Int))))))) (⟨0,(λ _=>default)⟩:Sl Tie))
def zhV (zaa:(Sl Net)) (zab:(Sl Int)):Bool :=
  (ztW zaa zab (0:Int) (w64 ((1:Int)+(w64 ((zaa.len:Int) * (w64 ((zaa.get 0).Nodes - (1:Int))))))) (⟨0,(λ _=>default)⟩:Sl Tie))
theorem zJ9 (hs:zhV zaa zab=true) (hk:K (e62 (zhU zaa zab))):z62 (Wk K) [1,1,1,1,1] [] ⟨[(0,zS enc_24 2 zaa),(1,zS enc_3 1 zab),(4,zp 4 0),(6,zI ((zaa.get 0).Nodes))],[(4,.box 24 [zi (0:Int),.p (.nils)])],[]⟩:=zaR (by kernel_rfl) (zJ8 hs hk rfl)
def ztX (S3:Int->(Net×Int)) (zaa:(Sl Net)) (zab:(Sl Int)) (iv4:Int) (ztT:Bool):(Net×Int) :=
  (cond ztT
 ((⟨(0:Int),(⟨0,λ _=>default⟩:(Sl Tie))⟩:Net),(2:Int))
 (S3 (w64 (iv4+(1:Int)))))
def ztY (P3:Int->Bool) (zaa:(Sl Net)) (zab:(Sl Int)) (iv4:Int) (ztT:Bool):Bool :=
  (cond ztT
 true
 (P3 (w64 (iv4+(1:Int)))))
theorem zKa (hX3:zJ3 K zaa zab X3 P3 S3) (hs:ztY P3 zaa zab iv4 ztT=true) (hk:K (e62 (ztX S3 zaa zab iv4 ztT))):z62 (Wk K) [1,1,1,1,0,1,0,0,1,0,0,1] [X3] ⟨[(0,zS enc_24 2 zaa),(1,zS enc_3 1 zab),(4,zp 4 0),(6,zI ((zaa.get 0).Nodes)),(7,zI iv4),(58,zB ztT)],[(4,.box 24 [zi (0:Int),.p (.nils)])],[]⟩:=zaR (by kernel_rfl) (zc hs hk (λ hs hk=>((wk hk (zb8 (.agg (zb8 (.rfl _) (zb8 (.nil _ _) zes))) (zb8 (.one (.rfl _)) zes))):Wk K [.agg [.int .i64 (0:Int),.nils],.one (.int .i64 (2:Int))])) (λ hs hk=>(hX3 hs hk)))
def zjW (zaa:(Sl Net)) (zab:(Sl Int)) (S3:Int->(Net×Int)) (iv3:Int):(Net×Int) :=
  (cond (decide (iv3 < (zaa.get 0).Nodes))
 (ztX S3 zaa zab iv3 (!(s72 (zab.get iv3.toNat) (0:Int) (1000000000:Int))))
 (zhU zaa zab))
def zjX (zaa:(Sl Net)) (zab:(Sl Int)) (P3:Int->Bool) (iv3:Int):Bool :=
  (cond (decide (iv3 < (zaa.get 0).Nodes))
 (decide ((0≤iv3/\iv3 < (zab.len:Int))) &&
 (ztY P3 zaa zab iv3 (!(s72 (zab.get iv3.toNat) (0:Int) (1000000000:Int)))))
 (zhV zaa zab))
def zjY (zaa:(Sl Net)) (zab:(Sl Int)):Nat->Int->(Net×Int):=lpO (λ _=>default) (zjW zaa zab)
def zjZ (zaa:(Sl Net)) (zab:(Sl Int)):Nat->Int->Bool:=lpO (λ _=>false) (zjX zaa zab)
def ztZ (zaa:(Sl Net)) (zab:(Sl Int)) (iv3:Int):(Net×Int):=zjY zaa zab Fuel iv3
def zt0 (zaa:(Sl Net)) (zab:(Sl Int)) (iv3:Int):Bool:=zjZ zaa zab Fuel iv3
theorem zKb (hs:zt0 zaa zab iv3=true) (hk:K (e62 (ztZ zaa zab iv3))):z62 (Wk K) [1,1,1,1,0,1,0] [] (zF8 zaa zab iv3) :=
  zl (λ X=>z62 (Wk K) [1,1,1,1,0,1,0,0] [X]) (by kernel_rfl) λ X3 hX =>
  (show ∀ k, zJ3 K zaa zab X3 (zjZ zaa zab k) (zjY zaa zab k) from zdU _ _ (zjX zaa zab) (zjW zaa zab) (zJ3 K zaa zab X3)
 (by intro _ hs;exact absurd hs Bool.false_ne_true)
 (by intro P3 S3 hX3 iv3 hs hk;exact hX _ (zaR (by kernel_rfl) (zc hs hk (λ hs hk=>(zaL hs λ hc hs=>And.intro hc (zKa hX3 hs hk))) (λ hs hk=>(zJ9 hs hk)))))) _ hs hk
def zmu (zaa:(Sl Net)) (zab:(Sl Int)):(Net×Int) :=
  (ztZ zaa zab (0:Int))
def zpj (zaa:(Sl Net)) (zab:(Sl Int)):Bool :=
  (decide ((0≤(0:Int)/\(0:Int) < (zaa.len:Int))) &&
 (zt0 zaa zab (0:Int)))
theorem zKc (hs:zpj zaa zab=true) (hk:K (e62 (zmu zaa zab))):z62 (Wk K) [1,1,1] [] ⟨[(0,zS enc_24 2 zaa),(1,zS enc_3 1 zab),(4,zp 4 0)],[(4,.box 24 [zi (0:Int),.p (.nils)])],[]⟩:=zaR (by kernel_rfl) (zaL hs λ hc hs=>And.intro hc (zKb hs hk))
def zhW (zaa:(Sl Net)) (zab:(Sl Int)) (ztS:Bool):(Net×Int) :=
  (cond ztS
 ((⟨(0:Int),(⟨0,λ _=>default⟩:(Sl Tie))⟩:Net),(2:Int))
 (zmu zaa zab))
def zhX (zaa:(Sl Net)) (zab:(Sl Int)) (ztS:Bool):Bool :=
  (cond ztS
 true
 (zpj zaa zab))
theorem zpk (hs:zhX zaa zab ztS=true) (hk:K (e62 (zhW zaa zab ztS))):z62 (Wk K) [1,1,0,1] [] ⟨[(0,zS enc_24 2 zaa),(1,zS enc_3 1 zab),(4,zp 4 0),(42,zB ztS)],[(4,.box 24 [zi (0:Int),.p (.nils)])],[]⟩:=zaR (by kernel_rfl) (zc hs hk (λ hs hk=>((wk hk (zb8 (.agg (zb8 (.rfl _) (zb8 (.nil _ _) zes))) (zb8 (.one (.rfl _)) zes))):Wk K [.agg [.int .i64 (0:Int),.nils],.one (.int .i64 (2:Int))])) (λ hs hk=>(zKc hs hk)))
def zt1 (zaa:(Sl Net)) (zab:(Sl Int)):(Net×Int) :=
  (cond ((zaa.len : Int) == (0:Int))
 (zhW zaa zab true)
 (cond (!(s23 (zaa.get 0)))
 (zhW zaa zab true)
 (cond ((zab.len : Int) != (zaa.get 0).Nodes)
 (zhW zaa zab true)
 (zhW zaa zab ((zab.get 0) != (0:Int))))))
def zt2 (zaa:(Sl Net)) (zab:(Sl Int)):Bool :=
  (cond ((zaa.len : Int) == (0:Int))
 (zhX zaa zab true)
 (decide ((0≤(0:Int)/\(0:Int) < (zaa.len:Int))) &&
 (decide ((p23 (zaa.get 0)=true)) &&
 (cond (!(s23 (zaa.get 0)))
 (zhX zaa zab true)
 (decide ((0≤(0:Int)/\(0:Int) < (zaa.len:Int))) &&
 (cond ((zab.len : Int) != (zaa.get 0).Nodes)
 (zhX zaa zab true)
 (decide ((0≤(0:Int)/\(0:Int) < (zab.len:Int))) &&
 (zhX zaa zab ((zab.get 0) != (0:Int))))))))))
theorem zKd (hs:zt2 zaa zab=true) (hk:K (e62 (zt1 zaa zab))):z62 (Wk K) [1,1] [] ⟨[(0,zS enc_24 2 zaa),(1,zS enc_3 1 zab),(4,zp 4 0)],[(4,.box 24 [zi (0:Int),.p (.nils)])],[]⟩:=zaR (by kernel_rfl) (zc hs hk (λ hs hk=>(zpk hs hk)) (λ hs hk=>(zaL hs λ hc hs=>And.intro hc (zaL hs λ hc hs=>And.intro (And.intro (zE zai 4 ((zaa.get 0).Ties.get)) hc) (zc hs hk (λ hs hk=>(zpk hs hk)) (λ hs hk=>(zaL hs λ hc hs=>And.intro hc (zc hs hk (λ hs hk=>(zpk hs hk)) (λ hs hk=>(zaL hs λ hc hs=>And.intro hc (zpk hs hk)))))))))))
def s62 (zaa:(Sl Net)) (zab:(Sl Int)):(Net×Int) :=
  (cond (decide ((zaa.len : Int) > (10:Int)))
 ((⟨(0:Int),(⟨0,λ _=>default⟩:(Sl Tie))⟩:Net),(3:Int))
 (zt1 zaa zab))
def p62 (zaa:(Sl Net)) (zab:(Sl Int)):Bool :=
  (cond (decide ((zaa.len : Int) > (10:Int)))
 true
 (zt2 zaa zab))
end
theorem q62 (zaa:(Sl Net)) (zab:(Sl Int)) (K:List PA->Prop) (hs:p62 zaa zab=true) (hk:K (e62 (s62 zaa zab))):vcFun Tryd.prog G62 zJ2 62 [.one (.sl zaa.len 2 (λ i=>enc_24 (zaa.get i))),.one (.sl zab.len 1 (λ i=>enc_3 (zab.get i)))] (Wk K) :=
  zaR (by kernel_rfl) (zc hs hk (λ hs hk=>((wk hk (zb8 (.agg (zb8 (.rfl _) (zb8 (.nil _ _) zes))) (zb8 (.one (.rfl _)) zes))):Wk K [.agg [.int .i64 (0:Int),.nils],.one (.int .i64 (3:Int))])) (λ hs hk=>(zKd hs hk)))
def zKe : List PA → COut
  | [.one (.sl zdl ziz zdm),.one (.sl zcz zfx zcw)]=>.det (IsE enc_24 2 ziz zdm/\IsE enc_3 1 zfx zcw/\p62 (⟨zdl,zdp zdm⟩:(Sl Net)) (⟨zcz,zar zcw⟩:(Sl Int))=true) [.agg [.int .i64 (((s62 (⟨zdl,zdp zdm⟩:(Sl Net)) (⟨zcz,zar zcw⟩:(Sl Int))).1).Nodes),.sl (((s62 (⟨zdl,zdp zdm⟩:(Sl Net)) (⟨zcz,zar zcw⟩:(Sl Int))).1).Ties.len) 4 (λ i=>zai (((s62 (⟨zdl,zdp zdm⟩:(Sl Net)) (⟨zcz,zar zcw⟩:(Sl Int))).1).Ties.get i))],.one (.int .i64 ((s62 (⟨zdl,zdp zdm⟩:(Sl Net)) (⟨zcz,zar zcw⟩:(Sl Int))).2))]
  | _=>.no
theorem zNr:zaw Tryd.prog 62:=⟨_,rfl,rfl,by kernel_rfl⟩
theorem zRd:Ok Tryd.prog 62 zKe:=zgi zPq zNr λ args K h=>by
  unfold zKe at h
  split at h
  · rename_i zdl ziz zdm zcz zfx zcw
    obtain⟨⟨⟨rfl,zfz,rfl⟩,⟨rfl,zdV,rfl⟩,hs⟩,hk⟩:=h
    try rw[zdq zfz] at hs
    try rw[zdq zfz] at hk
    try rw[zaV zdV] at hs
    try rw[zaV zdV] at hk
    exact⟨_,zfd zfW _,(λ _ _=>[]),(λ _=>false),zJ2,q62 (⟨zdl,zfz⟩:(Sl Net)) (⟨zcz,zdV⟩:(Sl Int)) K hs hk⟩
  · exact h.elim
abbrev T18:Tabs:=((((((((Tabs.nil.addF 21 zJi).addF 23 zEl).addF 26 zDW).addF 38 zJE).addF 48 zJM).addF 61 zJ1).addF 62 zKe).addF 63 zEr)
theorem zPr:TabsOk Tryd.prog T18:=((((((((TabsOk.nil.addF zQ5).addF zQa).addF zPZ).addF zQ9).addF zRa).addF zRc).addF zRd).addF zQb)
abbrev G18:Ctrs:=csm T18 (λ _ _=>[]) (λ _=>false)
def zKf:Ann:=⟨288,[(0,zK [0,1,2] []),(1,zK [0,1,2,42] []),(2,zK [6] []),(3,zK [0,1,2,7] []),(4,zK [0,1,2,7,47] []),(5,zK [0,1,2,7] []),(6,zK [0,1,2,7,92] []),(7,zK [6] []),(8,zK [0,1,2,8,9] [8]),(9,zK [0,1,2,8,101] [8]),(10,zK [6] []),(11,zK [0,1,2,8,10] [8]),(12,zK [0,1,2,10,11] [109]),(13,zK [0,1,2,10,11,12] [109]),(14,zK [0,1,2,10,11,12,113] [109]),(15,zK [0,1,2,10,11,12] [109]),(16,zK [0,1,2,10,11,12,13] [109]),(17,zK [0,1,2,10,11,12,13,118] [109]),(18,zK [0,1,2,10,11,12,13] [109]),(19,zK [0,1,2,10,11,12,13] [109]),(20,zK [0,1,2,10,11,12,13,181] [109]),(21,zK [6] []),(22,zK [0,2,10,11,14,15] [14,109]),(23,zK [0,2,10,11,14,196] [14,109]),(24,zK [6] []),(25,zK [0,2,10,11,16,17] [109]),(26,zK [0,2,10,16,210] []),(27,zK [6] []),(28,zK [0,2,10,16,18] []),(29,zK [0,2,10,16,18,214] []),(30,zK [0,2,10,16,18] []),(31,zK [0,2,10,16,18,19,20] []),(32,zK [0,2,10,16,18,19,232] []),(33,zK [6] []),(34,zK [0,2,10,16,18,19,21] []),(35,zK [0,2,10,16,18,19,21,235] []),(36,zK [0,2,10,16,18,19,21] []),(37,zK [0,2,10,16,18,19,21,22] [22]),(38,zK [0,2,10,16,18,19,21,286] []),(39,zK [6] []),(40,zK [6] [])],
 [(4,zK [0,1,2,7] []),(14,zK [0,1,2,10,11,12] [109]),(17,zK [0,1,2,10,11,12,13] [109]),(29,zK [0,2,10,16,18] []),(35,zK [0,2,10,16,18,19,21] [])],
 [(3,zK [0,1,2] []),(7,zK [0,1,2,7,92] []),(8,zK [0,1,2] []),(9,zK [0,1,2,8,9] [8]),(11,zK [0,1,2,8] [8]),(22,zK [0,1,2,10,11] [109]),(20,zK [0,1,2,10,11,12,13] [109]),(23,zK [0,2,10,11,14,15] [14,109]),(24,zK [0,2,10,11,14,196] [14,109]),(25,zK [0,2,10,11,14] [14,109]),(26,zK [0,2,10,11,16,17] [109]),(28,zK [0,2,10,16] []),(32,zK [0,2,10,16,18,19,20] []),(34,zK [0,2,10,16,18,19] []),(38,zK [0,2,10,16,18,19,21,22] [22])],
 [],[]⟩
abbrev R18:=Bool
abbrev e18 (r:R18):List PA:=[.one (.bool r)]
@[irreducible] def z18:=ptF Tryd.prog G18 zKf Tryd.f18
def zGb (zaa:(Sl Net)) (zab:(Sl Int)) (zac:(Sl (Sl Int))) (jv1:Int):St:=⟨[(0,zS enc_24 2 zaa),(1,zS enc_3 1 zab),(2,zS enc_27 1 zac),(7,zI jv1)],[],[]⟩
abbrev zKg (K:List PA->Prop) (zaa:(Sl Net)) (zab:(Sl Int)) (zac:(Sl (Sl Int))) (X:St->Prop) (P:Int->Bool) (S:Int->Bool):Prop:=∀ ⦃jv1:Int⦄,P jv1=true->K (e18 (S jv1))->X (zGb zaa zab zac jv1)
def zGc (zaa:(Sl Net)) (zab:(Sl Int)) (zac:(Sl (Sl Int))) (jv6:Int) (zcO:(Sl Int)) (zeR:Nat->List PV):St:=⟨[(0,zS enc_24 2 zaa),(1,zS enc_3 1 zab),(2,zS enc_27 1 zac),(10,zI ((zaa.get 0).Nodes)),(11,zv 109),(12,zI jv6)],[(109,.vec 3 1 8 zcO.len zeR)],[]⟩
abbrev zEA (K:List PA->Prop) (zaa:(Sl Net)) (zab:(Sl Int)) (zac:(Sl (Sl Int))) (X:St->Prop) (P:Int->(Sl Int)->Bool) (S:Int->(Sl Int)->Bool):Prop:=∀ ⦃jv6:Int⦄ ⦃zcO:(Sl Int)⦄ ⦃zeR:Nat->List PV⦄,P jv6 zcO=true->K (e18 (S jv6 zcO))->zeR=zg enc_3 zcO->X (zGc zaa zab zac jv6 zcO zeR)
def zGd (zaa:(Sl Net)) (zab:(Sl Int)) (zac:(Sl (Sl Int))) (jv7:Int) (iv7:Int) (zcd:(Sl Int)) (zeS:Nat->List PV):St:=⟨[(0,zS enc_24 2 zaa),(1,zS enc_3 1 zab),(2,zS enc_27 1 zac),(10,zI ((zaa.get 0).Nodes)),(11,zv 109),(12,zI jv7),(13,zI iv7)],[(109,.vec 3 1 8 zcd.len zeS)],[]⟩
abbrev zKh (K:List PA->Prop) (zaa:(Sl Net)) (zab:(Sl Int)) (zac:(Sl (Sl Int))) (X:St->Prop) (P:Int->Int->(Sl Int)->Bool) (S:Int->Int->(Sl Int)->Bool):Prop:=∀ ⦃jv7:Int⦄ ⦃iv7:Int⦄ ⦃zcd:(Sl Int)⦄ ⦃zeS:Nat->List PV⦄,P jv7 iv7 zcd=true->K (e18 (S jv7 iv7 zcd))->zeS=zg enc_3 zcd->X (zGd zaa zab zac jv7 iv7 zcd zeS)
def zCf (zaa:(Sl Net)) (zac:(Sl (Sl Int))) (zbQ:(Sl Span)) (ziS:Int):St:=⟨[(0,zS enc_24 2 zaa),(2,zS enc_27 1 zac),(10,zI ((zaa.get 0).Nodes)),(16,zS zbc 2 zbQ),(18,zI ziS)],[],[]⟩
abbrev znp (K:List PA->Prop) (zaa:(Sl Net)) (zac:(Sl (Sl Int))) (zbQ:(Sl Span)) (X:St->Prop) (P:Int->Bool) (S:Int->Bool):Prop:=∀ ⦃ziS:Int⦄,P ziS=true->K (e18 (S ziS))->X (zCf zaa zac zbQ ziS)
def zCg (zaa:(Sl Net)) (zac:(Sl (Sl Int))) (zbQ:(Sl Span)) (za4:(Sl Span)) (zkB:Int) (zkC:Int):St:=⟨[(0,zS enc_24 2 zaa),(2,zS enc_27 1 zac),(10,zI ((zaa.get 0).Nodes)),(16,zS zbc 2 zbQ),(18,zI zkB),(19,zS zbc 2 za4),(21,zI zkC)],[],[]⟩
abbrev zCh (K:List PA->Prop) (zaa:(Sl Net)) (zac:(Sl (Sl Int))) (zbQ:(Sl Span)) (za4:(Sl Span)) (X:St->Prop) (P:Int->Int->Bool) (S:Int->Int->Bool):Prop:=∀ ⦃zkB:Int⦄ ⦃zkC:Int⦄,P zkB zkC=true->K (e18 (S zkB zkC))->X (zCg zaa zac zbQ za4 zkB zkC)
section
variable {K:List PA->Prop}{zaa:(Sl Net)}{zab:(Sl Int)}{zac:(Sl (Sl Int))}{jv1:Int}{X1:St->Prop}{P1:Int->Bool}{S1:Int->Bool}{jv2:Int}{zt3:Bool}{fv4:Int}{zbT:Int}{zcK:(Sl Tie)}{znq:Nat->List PV}{jv6:Int}{zcO:(Sl Int)}{zeR:Nat->List PV}{X6:St->Prop}{P6:Int->(Sl Int)->Bool}{S6:Int->(Sl Int)->Bool}{jv7:Int}{iv7:Int}{zcd:(Sl Int)}{zeS:Nat->List PV}{X7:St->Prop}{P7:Int->Int->(Sl Int)->Bool}{S7:Int->Int->(Sl Int)->Bool}{zkD:(Sl Int)}{zvY:Nat->List PV}{jv9:Int}{iv9:Int}{zhx:(Sl Int)}{zvZ:Nat->List PV}{zKi:Int}{zb3:Int}{zbO:(Sl Tie)}{zdf:(Sl Int)}{zv0:Nat->List PV}{zrb:Nat->List PV}{zhY:Bool}{zgK:(Sl Int)}{zrd:Nat->List PV}{zgL:(Sl Int)}{zre:Nat->List PV}{zbQ:(Sl Span)}{zKj:Int}{zgM:(Sl Int)}{zGe:Nat->List PV}{zrf:Nat->List PV}{ziS:Int}{X15:St->Prop}{P15:Int->Bool}{S15:Int->Bool}{zKk:Int}{za4:(Sl Span)}{zKl:Int}{zv1:Nat->List PV}{zKm:Int}{zkB:Int}{zkC:Int}{X18:St->Prop}{P18:Int->Int->Bool}{S18:Int->Int->Bool}{zrg:Int}{zmv:Int}{ziH:Int}{ziI:Int}
def zpl (S15:Int->Bool) (S18:Int->Int->Bool) (zaa:(Sl Net)) (zac:(Sl (Sl Int))) (zbQ:(Sl Span)) (za4:(Sl Span)) (zrg:Int) (zmv:Int) (ziH:Int) (ziI:Int):Bool :=
  (cond (decide (ziH < (za4.get zmv.toNat).Low))
 false
 (cond (decide (ziI > (za4.get zmv.toNat).High))
 false
 (cond (decide (((zac.get zrg.toNat).get zmv.toNat) < ziH))
 false
 (cond (decide (((zac.get zrg.toNat).get zmv.toNat) > ziI))
 false
 (S18 zrg (w64 (zmv+(1:Int))))))))
def zpm (P15:Int->Bool) (P18:Int->Int->Bool) (zaa:(Sl Net)) (zac:(Sl (Sl Int))) (zbQ:(Sl Span)) (za4:(Sl Span)) (zrg:Int) (zmv:Int) (ziH:Int) (ziI:Int):Bool :=
  (decide ((0≤zmv/\zmv < (za4.len:Int))) &&
 (cond (decide (ziH < (za4.get zmv.toNat).Low))
 true
 (decide ((0≤zmv/\zmv < (za4.len:Int))) &&
 (cond (decide (ziI > (za4.get zmv.toNat).High))
 true
 (decide ((0≤zrg/\zrg < (zac.len:Int))) &&
 (decide ((0≤zmv/\zmv < ((zac.get zrg.toNat).len:Int))) &&
 (cond (decide (((zac.get zrg.toNat).get zmv.toNat) < ziH))
 true
 (decide ((0≤zrg/\zrg < (zac.len:Int))) &&
 (decide ((0≤zmv/\zmv < ((zac.get zrg.toNat).len:Int))) &&
 (cond (decide (((zac.get zrg.toNat).get zmv.toNat) > ziI))
 true
 (P18 zrg (w64 (zmv+(1:Int))))))))))))))
theorem zEB (hX15:znp K zaa zac zbQ X15 P15 S15) (hX18:zCh K zaa zac zbQ za4 X18 P18 S18) (hs:zpm P15 P18 zaa zac zbQ za4 zrg zmv ziH ziI=true) (hk:K (e18 (zpl S15 S18 zaa zac zbQ za4 zrg zmv ziH ziI))):z18 K [1,1,1,1,1,1,1,1,1,1,1,1,0,1,0,0,1,0,0,1,1,1,0,0,1,0,0,1] [X15,X18] ⟨[(0,zS enc_24 2 zaa),(2,zS enc_27 1 zac),(10,zI ((zaa.get 0).Nodes)),(16,zS zbc 2 zbQ),(18,zI zrg),(19,zS zbc 2 za4),(21,zI zmv),(22,zp 22 0)],[(22,.box 43 (zm (zbc (⟨ziH,ziI⟩:Span))))],[]⟩:=zaR (by kernel_rfl) (zaL hs λ hc hs=>And.intro hc (zc hs hk (λ hs hk=>hk) (λ hs hk=>(zaL hs λ hc hs=>And.intro hc (zc hs hk (λ hs hk=>hk) (λ hs hk=>(zaL hs λ hc hs=>And.intro hc (zaL hs λ hc hs=>And.intro hc (zc hs hk (λ hs hk=>hk) (λ hs hk=>(zaL hs λ hc hs=>And.intro hc (zaL hs λ hc hs=>And.intro hc (zc hs hk (λ hs hk=>hk) (λ hs hk=>(hX18 hs hk)))))))))))))))
def zhf (S15:Int->Bool) (zaa:(Sl Net)) (zac:(Sl (Sl Int))) (zbQ:(Sl Span)) (za4:(Sl Span)) (S18:Int->Int->Bool) (zkB:Int) (zkC:Int):Bool :=
  (cond (decide (zkC < (zaa.get 0).Nodes))
 (zpl S15 S18 zaa zac zbQ za4 zkB zkC ((zbQ.get ((s63 ((zaa.get 0).Nodes) zkB zkC).toNat)).Low) ((zbQ.get ((s63 ((zaa.get 0).Nodes) zkB zkC).toNat)).High))
 (S15 (w64 (zkB+(1:Int)))))
def zhg (P15:Int->Bool) (zaa:(Sl Net)) (zac:(Sl (Sl Int))) (zbQ:(Sl Span)) (za4:(Sl Span)) (P18:Int->Int->Bool) (zkB:Int) (zkC:Int):Bool :=
  (cond (decide (zkC < (zaa.get 0).Nodes))
 (decide ((0≤(s63 ((zaa.get 0).Nodes) zkB zkC)/\(s63 ((zaa.get 0).Nodes) zkB zkC) < (zbQ.len:Int))) &&
 (zpm P15 P18 zaa zac zbQ za4 zkB zkC ((zbQ.get ((s63 ((zaa.get 0).Nodes) zkB zkC).toNat)).Low) ((zbQ.get ((s63 ((zaa.get 0).Nodes) zkB zkC).toNat)).High)))
 (P15 (w64 (zkB+(1:Int)))))
def zfP (S15:Int->Bool) (zaa:(Sl Net)) (zac:(Sl (Sl Int))) (zbQ:(Sl Span)) (za4:(Sl Span)):Nat->Int->Int->Bool:=lpO (λ _ _=>default) (zhf S15 zaa zac zbQ za4)
def zfQ (P15:Int->Bool) (zaa:(Sl Net)) (zac:(Sl (Sl Int))) (zbQ:(Sl Span)) (za4:(Sl Span)):Nat->Int->Int->Bool:=lpO (λ _ _=>false) (zhg P15 zaa zac zbQ za4)
def zpn (S15:Int->Bool) (zaa:(Sl Net)) (zac:(Sl (Sl Int))) (zbQ:(Sl Span)) (za4:(Sl Span)) (zkB:Int) (zkC:Int):Bool:=zfP S15 zaa zac zbQ za4 Fuel zkB zkC
def zpo (P15:Int->Bool) (zaa:(Sl Net)) (zac:(Sl (Sl Int))) (zbQ:(Sl Span)) (za4:(Sl Span)) (zkB:Int) (zkC:Int):Bool:=zfQ P15 zaa zac zbQ za4 Fuel zkB zkC
theorem zEC (hX15:znp K zaa zac zbQ X15 P15 S15) (hs:zpo P15 zaa zac zbQ za4 zkB zkC=true) (hk:K (e18 (zpn S15 zaa zac zbQ za4 zkB zkC))):z18 K [1,1,1,1,1,1,1,1,1,1,1,1,0,1,0,0,1,0,0,1,1,1,0] [X15] (zCg zaa zac zbQ za4 zkB zkC) :=
  zl (λ X=>z18 K [1,1,1,1,1,1,1,1,1,1,1,1,0,1,0,0,1,0,0,1,1,1,0,0] [X15,X]) (by kernel_rfl) λ X18 hX =>
  (show ∀ k, zCh K zaa zac zbQ za4 X18 (zfQ P15 zaa zac zbQ za4 k) (zfP S15 zaa zac zbQ za4 k) from zdU _ _ (zhg P15 zaa zac zbQ za4) (zhf S15 zaa zac zbQ za4) (zCh K zaa zac zbQ za4 X18)
 (by intro _ _ hs;exact absurd hs Bool.false_ne_true)
 (by intro P18 S18 hX18 zkB zkC hs hk;exact hX _ (zaR (by kernel_rfl) (zc hs hk (λ hs hk=>(zaL hs λ hc hs=>And.intro hc (zEB hX15 hX18 hs hk))) (λ hs hk=>(hX15 hs hk)))))) _ hs hk
def zpp (S15:Int->Bool) (zaa:(Sl Net)) (zac:(Sl (Sl Int))) (zbQ:(Sl Span)) (za4:(Sl Span)) (zKm:Int):Bool :=
  (zpn S15 zaa zac zbQ za4 zKm (0:Int))
def zpq (P15:Int->Bool) (zaa:(Sl Net)) (zac:(Sl (Sl Int))) (zbQ:(Sl Span)) (za4:(Sl Span)) (zKm:Int):Bool :=
  (zpo P15 zaa zac zbQ za4 zKm (0:Int))
theorem zED (hX15:znp K zaa zac zbQ X15 P15 S15) (hs:zpq P15 zaa zac zbQ za4 zKm=true) (hk:K (e18 (zpp S15 zaa zac zbQ za4 zKm))):z18 K [1,1,1,1,1,1,1,1,1,1,1,1,0,1,0,0,1,0,0,1,1] [X15] ⟨[(0,zS enc_24 2 zaa),(2,zS enc_27 1 zac),(10,zI ((zaa.get 0).Nodes)),(16,zS zbc 2 zbQ),(18,zI zKm),(19,zS zbc 2 za4)],[],[]⟩:=zaR (by kernel_rfl) (zEC hX15 hs hk)
def zpr (S15:Int->Bool) (zaa:(Sl Net)) (zac:(Sl (Sl Int))) (zbQ:(Sl Span)) (zKk:Int) (za4:(Sl Span)) (zKl:Int):Bool :=
  (cond (zKl != (0:Int))
 false
 (cond ((za4.len : Int) != (zaa.get 0).Nodes)
 false
 (zpp S15 zaa zac zbQ za4 zKk)))
def zps (P15:Int->Bool) (zaa:(Sl Net)) (zac:(Sl (Sl Int))) (zbQ:(Sl Span)) (zKk:Int) (za4:(Sl Span)) (zKl:Int):Bool :=
  (cond (zKl != (0:Int))
 true
 (cond ((za4.len : Int) != (zaa.get 0).Nodes)
 true
 (zpq P15 zaa zac zbQ za4 zKk)))
theorem zEE (hX15:znp K zaa zac zbQ X15 P15 S15) (hs:zps P15 zaa zac zbQ zKk za4 zKl=true) (hk:K (e18 (zpr S15 zaa zac zbQ zKk za4 zKl))) (zEF:zv1=zg zbc za4):z18 K [1,1,1,1,1,1,1,1,1,1,1,1,0,1,0,0,1,0,0,1] [X15] ⟨[(0,zS enc_24 2 zaa),(2,zS enc_27 1 zac),(10,zI ((zaa.get 0).Nodes)),(16,zS zbc 2 zbQ),(18,zI zKk),(19,zP (.sl za4.len 2 zv1)),(20,zI zKl)],[],[]⟩:=by subst zEF;exact zaR (by kernel_rfl) (zc hs hk (λ hs hk=>hk) (λ hs hk=>(zc hs hk (λ hs hk=>hk) (λ hs hk=>(zED hX15 hs hk)))))
def zhh (zaa:(Sl Net)) (zac:(Sl (Sl Int))) (zbQ:(Sl Span)) (S15:Int->Bool) (ziS:Int):Bool :=
  (cond (decide (ziS < (zaa.len : Int)))
 (zpr S15 zaa zac zbQ ziS ((s26 (zaa.get ziS.toNat)).1) ((s26 (zaa.get ziS.toNat)).2))
 true)
def zhi (zaa:(Sl Net)) (zac:(Sl (Sl Int))) (zbQ:(Sl Span)) (P15:Int->Bool) (ziS:Int):Bool :=
  (cond (decide (ziS < (zaa.len : Int)))
 (decide ((0≤ziS/\ziS < (zaa.len:Int))) &&
 (decide ((p26 (zaa.get ziS.toNat)=true)) &&
 (zps P15 zaa zac zbQ ziS ((s26 (zaa.get ziS.toNat)).1) ((s26 (zaa.get ziS.toNat)).2))))
 true)
def ziJ (zaa:(Sl Net)) (zac:(Sl (Sl Int))) (zbQ:(Sl Span)):Nat->Int->Bool:=lpO (λ _=>default) (zhh zaa zac zbQ)
def ziK (zaa:(Sl Net)) (zac:(Sl (Sl Int))) (zbQ:(Sl Span)):Nat->Int->Bool:=lpO (λ _=>false) (zhi zaa zac zbQ)
def zpt (zaa:(Sl Net)) (zac:(Sl (Sl Int))) (zbQ:(Sl Span)) (ziS:Int):Bool:=ziJ zaa zac zbQ Fuel ziS
def zpu (zaa:(Sl Net)) (zac:(Sl (Sl Int))) (zbQ:(Sl Span)) (ziS:Int):Bool:=ziK zaa zac zbQ Fuel ziS
theorem zEG (hs:zpu zaa zac zbQ ziS=true) (hk:K (e18 (zpt zaa zac zbQ ziS))):z18 K [1,1,1,1,1,1,1,1,1,1,1,1,0,1,0] [] (zCf zaa zac zbQ ziS) :=
  zl (λ X=>z18 K [1,1,1,1,1,1,1,1,1,1,1,1,0,1,0,0] [X]) (by kernel_rfl) λ X15 hX =>
  (show ∀ k, znp K zaa zac zbQ X15 (ziK zaa zac zbQ k) (ziJ zaa zac zbQ k) from zdU _ _ (zhi zaa zac zbQ) (zhh zaa zac zbQ) (znp K zaa zac zbQ X15)
 (by intro _ hs;exact absurd hs Bool.false_ne_true)
 (by intro P15 S15 hX15 ziS hs hk;exact hX _ (zaR (by kernel_rfl) (zc hs hk (λ hs hk=>(zaL hs λ hc hs=>And.intro hc (zaL hs λ hc hs=>And.intro (And.intro (zE zai 4 ((zaa.get ziS.toNat).Ties.get)) hc) (zEE hX15 hs hk rfl)))) (λ hs hk=>hk))))) _ hs hk
def zpv (zaa:(Sl Net)) (zac:(Sl (Sl Int))) (zbQ:(Sl Span)):Bool :=
  (zpt zaa zac zbQ (0:Int))
def zpw (zaa:(Sl Net)) (zac:(Sl (Sl Int))) (zbQ:(Sl Span)):Bool :=
  (zpu zaa zac zbQ (0:Int))
theorem zEH (hs:zpw zaa zac zbQ=true) (hk:K (e18 (zpv zaa zac zbQ))):z18 K [1,1,1,1,1,1,1,1,1,1,1,1] [] ⟨[(0,zS enc_24 2 zaa),(2,zS enc_27 1 zac),(10,zI ((zaa.get 0).Nodes)),(16,zS zbc 2 zbQ)],[],[]⟩:=zaR (by kernel_rfl) (zEG hs hk)
def zpx (zaa:(Sl Net)) (zac:(Sl (Sl Int))) (zbQ:(Sl Span)) (zKj:Int) (zgM:(Sl Int)):Bool :=
  (cond (zKj != (0:Int))
 false
 (cond ((zbQ.len : Int) != (zgM.len : Int))
 false
 (zpv zaa zac zbQ)))
def zpy (zaa:(Sl Net)) (zac:(Sl (Sl Int))) (zbQ:(Sl Span)) (zKj:Int) (zgM:(Sl Int)):Bool :=
  (cond (zKj != (0:Int))
 true
 (cond ((zbQ.len : Int) != (zgM.len : Int))
 true
 (zpw zaa zac zbQ)))
theorem zEI (hs:zpy zaa zac zbQ zKj zgM=true) (hk:K (e18 (zpx zaa zac zbQ zKj zgM))) (zNs:zGe=zg zbc zbQ) (zCi:zrf=zg enc_3 zgM):z18 K [1,1,1,1,1,1,1,1,1,1,1] [] ⟨[(0,zS enc_24 2 zaa),(2,zS enc_27 1 zac),(10,zI ((zaa.get 0).Nodes)),(11,zv 109),(16,zP (.sl zbQ.len 2 zGe)),(17,zI zKj)],[(109,.vec 3 1 8 zgM.len zrf)],[]⟩:=by subst zNs;subst zCi;exact zaR (by kernel_rfl) (zc hs hk (λ hs hk=>hk) (λ hs hk=>(zc hs hk (λ hs hk=>hk) (λ hs hk=>(zEH hs hk)))))
def zpz (zaa:(Sl Net)) (zac:(Sl (Sl Int))) (zb3:Int) (zbO:(Sl Tie)) (zgL:(Sl Int)):Bool :=
  (zpx zaa zac ((s26 (⟨zb3,zbO⟩:Net)).1) ((s26 (⟨zb3,zbO⟩:Net)).2) zgL)
def zpA (zaa:(Sl Net)) (zac:(Sl (Sl Int))) (zb3:Int) (zbO:(Sl Tie)) (zgL:(Sl Int)):Bool :=
  (decide ((p26 (⟨zb3,zbO⟩:Net)=true)) &&
 (zpy zaa zac ((s26 (⟨zb3,zbO⟩:Net)).1) ((s26 (⟨zb3,zbO⟩:Net)).2) zgL))
theorem zEJ (hs:zpA zaa zac zb3 zbO zgL=true) (hk:K (e18 (zpz zaa zac zb3 zbO zgL))) (zCj:zre=zg enc_3 zgL):z18 K [1,1,1,1,1,1,1,1,1,1] [] ⟨[(0,zS enc_24 2 zaa),(2,zS enc_27 1 zac),(10,zI ((zaa.get 0).Nodes)),(11,zv 109),(14,zp 14 0)],[(14,.box 24 (zm (enc_24 (⟨zb3,zbO⟩:Net)))),(109,.vec 3 1 8 zgL.len zre)],[]⟩:=by subst zCj;exact zaR (by kernel_rfl) (zaL hs λ hc hs=>And.intro (And.intro (zE zai 4 zbO.get) hc) (zEI hs hk rfl rfl))
def ziL (zaa:(Sl Net)) (zac:(Sl (Sl Int))) (zb3:Int) (zbO:(Sl Tie)) (zhY:Bool) (zgK:(Sl Int)):Bool :=
  (cond zhY
 false
 (zpz zaa zac zb3 zbO zgK))
def ziM (zaa:(Sl Net)) (zac:(Sl (Sl Int))) (zb3:Int) (zbO:(Sl Tie)) (zhY:Bool) (zgK:(Sl Int)):Bool :=
  (cond zhY
 true
 (zpA zaa zac zb3 zbO zgK))
theorem zv2 (hs:ziM zaa zac zb3 zbO zhY zgK=true) (hk:K (e18 (ziL zaa zac zb3 zbO zhY zgK))) (zCk:zrd=zg enc_3 zgK):z18 K [1,1,1,1,1,1,1,1,1,0,1] [] ⟨[(0,zS enc_24 2 zaa),(2,zS enc_27 1 zac),(10,zI ((zaa.get 0).Nodes)),(11,zv 109),(14,zp 14 0),(196,zB zhY)],[(14,.box 24 (zm (enc_24 (⟨zb3,zbO⟩:Net)))),(109,.vec 3 1 8 zgK.len zrd)],[]⟩:=by subst zCk;exact zaR (by kernel_rfl) (zc hs hk (λ hs hk=>hk) (λ hs hk=>(zEJ hs hk rfl)))
def zpB (zaa:(Sl Net)) (zac:(Sl (Sl Int))) (zKi:Int) (zb3:Int) (zbO:(Sl Tie)) (zdf:(Sl Int)):Bool :=
  (cond (zKi != (0:Int))
 (ziL zaa zac zb3 zbO true zdf)
 (ziL zaa zac zb3 zbO (!(s48 (⟨zb3,zbO⟩:Net) zdf)) zdf))
def zpC (zaa:(Sl Net)) (zac:(Sl (Sl Int))) (zKi:Int) (zb3:Int) (zbO:(Sl Tie)) (zdf:(Sl Int)):Bool :=
  (cond (zKi != (0:Int))
 (ziM zaa zac zb3 zbO true zdf)
 (decide ((p48 (⟨zb3,zbO⟩:Net) zdf=true)) &&
 (ziM zaa zac zb3 zbO (!(s48 (⟨zb3,zbO⟩:Net) zdf)) zdf)))
theorem zEK (hs:zpC zaa zac zKi zb3 zbO zdf=true) (hk:K (e18 (zpB zaa zac zKi zb3 zbO zdf))) (zEL:zv0=zg zai zbO) (zCl:zrb=zg enc_3 zdf):z18 K [1,1,1,1,1,1,1,1,1] [] ⟨[(0,zS enc_24 2 zaa),(2,zS enc_27 1 zac),(10,zI ((zaa.get 0).Nodes)),(11,zv 109),(14,zp 14 0),(15,zI zKi)],[(14,.box 24 [zi zb3,.p (.sl zbO.len 4 zv0)]),(109,.vec 3 1 8 zdf.len zrb)],[]⟩:=by subst zEL;subst zCl;exact zaR (by kernel_rfl) (zc hs hk (λ hs hk=>(zv2 hs hk rfl)) (λ hs hk=>(zaL hs λ hc hs=>And.intro (And.intro (zE zai 4 zbO.get) (And.intro (zE enc_3 1 zdf.get) hc)) (zv2 hs hk rfl))))
def zt4 (S6:Int->(Sl Int)->Bool) (S7:Int->Int->(Sl Int)->Bool) (zaa:(Sl Net)) (zab:(Sl Int)) (zac:(Sl (Sl Int))) (jv9:Int) (iv9:Int) (zhx:(Sl Int)):Bool :=
  (cond (decide (jv9 > (0:Int)))
 (cond (decide ((w64 (((zac.get jv9.toNat).get iv9.toNat) - ((zac.get ((w64 (jv9 - (1:Int))).toNat)).get iv9.toNat))) > (zab.get iv9.toNat)))
 true
 (cond (decide ((w64 (((zac.get ((w64 (jv9 - (1:Int))).toNat)).get iv9.toNat) - ((zac.get jv9.toNat).get iv9.toNat))) > (zab.get iv9.toNat)))
 true
 (S7 jv9 (w64 (iv9+(1:Int))) zhx)))
 (S7 jv9 (w64 (iv9+(1:Int))) zhx))
def zt5 (P6:Int->(Sl Int)->Bool) (P7:Int->Int->(Sl Int)->Bool) (zaa:(Sl Net)) (zab:(Sl Int)) (zac:(Sl (Sl Int))) (jv9:Int) (iv9:Int) (zhx:(Sl Int)):Bool :=
  (cond (decide (jv9 > (0:Int)))
 (decide ((0≤jv9/\jv9 < (zac.len:Int))) &&
 (decide ((0≤iv9/\iv9 < ((zac.get jv9.toNat).len:Int))) &&
 (decide ((0≤(w64 (jv9 - (1:Int)))/\(w64 (jv9 - (1:Int))) < (zac.len:Int))) &&
 (decide ((0≤iv9/\iv9 < ((zac.get ((w64 (jv9 - (1:Int))).toNat)).len:Int))) &&
 (decide ((0≤iv9/\iv9 < (zab.len:Int))) &&
 (cond (decide ((w64 (((zac.get jv9.toNat).get iv9.toNat) - ((zac.get ((w64 (jv9 - (1:Int))).toNat)).get iv9.toNat))) > (zab.get iv9.toNat)))
 true
 (decide ((0≤(w64 (jv9 - (1:Int)))/\(w64 (jv9 - (1:Int))) < (zac.len:Int))) &&
 (decide ((0≤iv9/\iv9 < ((zac.get ((w64 (jv9 - (1:Int))).toNat)).len:Int))) &&
 (decide ((0≤jv9/\jv9 < (zac.len:Int))) &&
 (decide ((0≤iv9/\iv9 < ((zac.get jv9.toNat).len:Int))) &&
 (decide ((0≤iv9/\iv9 < (zab.len:Int))) &&
 (cond (decide ((w64 (((zac.get ((w64 (jv9 - (1:Int))).toNat)).get iv9.toNat) - ((zac.get jv9.toNat).get iv9.toNat))) > (zab.get iv9.toNat)))
 true
 (P7 jv9 (w64 (iv9+(1:Int))) zhx)))))))))))))
 (P7 jv9 (w64 (iv9+(1:Int))) zhx))
theorem zKn (hX6:zEA K zaa zab zac X6 P6 S6) (hX7:zKh K zaa zab zac X7 P7 S7) (hs:zt5 P6 P7 zaa zab zac jv9 iv9 zhx=true) (hk:K (e18 (zt4 S6 S7 zaa zab zac jv9 iv9 zhx))) (zEM:zvZ=zg enc_3 zhx):z18 K [1,1,1,1,1,1,1,0,1,0,0,1,0,0,1,0,0,1,0,0,1] [X6,X7] ⟨[(0,zS enc_24 2 zaa),(1,zS enc_3 1 zab),(2,zS enc_27 1 zac),(10,zI ((zaa.get 0).Nodes)),(11,zv 109),(12,zI jv9),(13,zI iv9)],[(109,.vec 3 1 8 zhx.len zvZ)],[]⟩:=by subst zEM;exact zaR (by kernel_rfl) (zc hs hk (λ hs hk=>(zaL hs λ hc hs=>And.intro hc (zaL hs λ hc hs=>And.intro hc (zaL hs λ hc hs=>And.intro hc (zaL hs λ hc hs=>And.intro hc (zaL hs λ hc hs=>And.intro hc (zc hs hk (λ hs hk=>hk) (λ hs hk=>(zaL hs λ hc hs=>And.intro hc (zaL hs λ hc hs=>And.intro hc (zaL hs λ hc hs=>And.intro hc (zaL hs λ hc hs=>And.intro hc (zaL hs λ hc hs=>And.intro hc (zc hs hk (λ hs hk=>hk) (λ hs hk=>(hX7 hs hk rfl)))))))))))))))) (λ hs hk=>(hX7 hs hk rfl)))
def zmw (zaa:(Sl Net)) (zab:(Sl Int)) (zac:(Sl (Sl Int))) (zkD:(Sl Int)):Bool :=
  (zpB zaa zac ((s61 zaa zab).2) (((s61 zaa zab).1).Nodes) (((s61 zaa zab).1).Ties) zkD)
def zmx (zaa:(Sl Net)) (zab:(Sl Int)) (zac:(Sl (Sl Int))) (zkD:(Sl Int)):Bool :=
  (decide ((p61 zaa zab=true)) &&
 (zpC zaa zac ((s61 zaa zab).2) (((s61 zaa zab).1).Nodes) (((s61 zaa zab).1).Ties) zkD))
theorem zKo (hs:zmx zaa zab zac zkD=true) (hk:K (e18 (zmw zaa zab zac zkD))) (zEN:zvY=zg enc_3 zkD):z18 K [1,1,1,1,1,1,1,1] [] ⟨[(0,zS enc_24 2 zaa),(1,zS enc_3 1 zab),(2,zS enc_27 1 zac),(10,zI ((zaa.get 0).Nodes)),(11,zv 109)],[(109,.vec 3 1 8 zkD.len zvY)],[]⟩:=by subst zEN;exact zaR (by kernel_rfl) (zaL hs λ hc hs=>And.intro (And.intro (zE enc_24 2 zaa.get) (And.intro (zE enc_3 1 zab.get) hc)) (zEK hs hk rfl rfl))
def zj0 (S6:Int->(Sl Int)->Bool) (zaa:(Sl Net)) (zab:(Sl Int)) (zac:(Sl (Sl Int))) (S7:Int->Int->(Sl Int)->Bool) (jv7:Int) (iv7:Int) (zcd:(Sl Int)):Bool :=
  (cond (decide (iv7 < (zaa.get 0).Nodes))
 (zt4 S6 S7 zaa zab zac jv7 iv7 (⟨zcd.len,(setT ((s63 ((zaa.get 0).Nodes) jv7 iv7).toNat) ((zac.get jv7.toNat).get iv7.toNat) zcd.get)⟩:Sl Int))
 (S6 (w64 (jv7+(1:Int))) zcd))
def zj1 (P6:Int->(Sl Int)->Bool) (zaa:(Sl Net)) (zab:(Sl Int)) (zac:(Sl (Sl Int))) (P7:Int->Int->(Sl Int)->Bool) (jv7:Int) (iv7:Int) (zcd:(Sl Int)):Bool :=
  (cond (decide (iv7 < (zaa.get 0).Nodes))
 (decide ((0≤jv7/\jv7 < (zac.len:Int))) &&
 (decide ((0≤iv7/\iv7 < ((zac.get jv7.toNat).len:Int))) &&
 (decide ((0≤(s63 ((zaa.get 0).Nodes) jv7 iv7)/\(s63 ((zaa.get 0).Nodes) jv7 iv7) < (zcd.len:Int))) &&
 (decide (((s63 ((zaa.get 0).Nodes) jv7 iv7).toNat < zcd.len)) &&
 (zt5 P6 P7 zaa zab zac jv7 iv7 (⟨zcd.len,(setT ((s63 ((zaa.get 0).Nodes) jv7 iv7).toNat) ((zac.get jv7.toNat).get iv7.toNat) zcd.get)⟩:Sl Int))))))
 (P6 (w64 (jv7+(1:Int))) zcd))
def zhZ (S6:Int->(Sl Int)->Bool) (zaa:(Sl Net)) (zab:(Sl Int)) (zac:(Sl (Sl Int))):Nat->Int->Int->(Sl Int)->Bool:=lpO (λ _ _ _=>default) (zj0 S6 zaa zab zac)
def zh0 (P6:Int->(Sl Int)->Bool) (zaa:(Sl Net)) (zab:(Sl Int)) (zac:(Sl (Sl Int))):Nat->Int->Int->(Sl Int)->Bool:=lpO (λ _ _ _=>false) (zj1 P6 zaa zab zac)
def zpD (S6:Int->(Sl Int)->Bool) (zaa:(Sl Net)) (zab:(Sl Int)) (zac:(Sl (Sl Int))) (jv7:Int) (iv7:Int) (zcd:(Sl Int)):Bool:=zhZ S6 zaa zab zac Fuel jv7 iv7 zcd
def zpE (P6:Int->(Sl Int)->Bool) (zaa:(Sl Net)) (zab:(Sl Int)) (zac:(Sl (Sl Int))) (jv7:Int) (iv7:Int) (zcd:(Sl Int)):Bool:=zh0 P6 zaa zab zac Fuel jv7 iv7 zcd
theorem zKp (hX6:zEA K zaa zab zac X6 P6 S6) (hs:zpE P6 zaa zab zac jv7 iv7 zcd=true) (hk:K (e18 (zpD S6 zaa zab zac jv7 iv7 zcd))) (zpF:zeS=zg enc_3 zcd):z18 K [1,1,1,1,1,1,1,0,1,0,0,1,0,0,1,0] [X6] (zGd zaa zab zac jv7 iv7 zcd zeS) :=
  zl (λ X=>z18 K [1,1,1,1,1,1,1,0,1,0,0,1,0,0,1,0,0] [X6,X]) (by kernel_rfl) λ X7 hX =>
  (show ∀ k, zKh K zaa zab zac X7 (zh0 P6 zaa zab zac k) (zhZ S6 zaa zab zac k) from zdU _ _ (zj1 P6 zaa zab zac) (zj0 S6 zaa zab zac) (zKh K zaa zab zac X7)
 (by intro _ _ _ _ hs;exact absurd hs Bool.false_ne_true)
 (by intro P7 S7 hX7 jv7 iv7 zcd zeS hs hk zpF;subst zpF;exact hX _ (zaR (by kernel_rfl) (zc hs hk (λ hs hk=>(zaL hs λ hc hs=>And.intro hc (zaL hs λ hc hs=>And.intro hc (zaL hs λ hc hs=>And.intro hc (zaL hs λ hc hs=>And.intro hc (zKn hX6 hX7 hs hk (zl1 (enc:=enc_3) (i:=(s63 ((zaa.get 0).Nodes) jv7 iv7).toNat) (k:=0) (f:=zcd.get) (new:=(enc_3 ((zac.get jv7.toNat).get iv7.toNat))) (v:=((zac.get jv7.toNat).get iv7.toNat)) rfl rfl))))))) (λ hs hk=>(hX6 hs hk rfl)))))) _ hs hk zpF
def zj2 (zaa:(Sl Net)) (zab:(Sl Int)) (zac:(Sl (Sl Int))) (S6:Int->(Sl Int)->Bool) (jv6:Int) (zcO:(Sl Int)):Bool :=
  (cond (decide (jv6 < (zaa.len : Int)))
 (zpD S6 zaa zab zac jv6 (0:Int) zcO)
 (zmw zaa zab zac zcO))
def zj3 (zaa:(Sl Net)) (zab:(Sl Int)) (zac:(Sl (Sl Int))) (P6:Int->(Sl Int)->Bool) (jv6:Int) (zcO:(Sl Int)):Bool :=
  (cond (decide (jv6 < (zaa.len : Int)))
 (zpE P6 zaa zab zac jv6 (0:Int) zcO)
 (zmx zaa zab zac zcO))
def zh1 (zaa:(Sl Net)) (zab:(Sl Int)) (zac:(Sl (Sl Int))):Nat->Int->(Sl Int)->Bool:=lpO (λ _ _=>default) (zj2 zaa zab zac)
def zh2 (zaa:(Sl Net)) (zab:(Sl Int)) (zac:(Sl (Sl Int))):Nat->Int->(Sl Int)->Bool:=lpO (λ _ _=>false) (zj3 zaa zab zac)
def zpG (zaa:(Sl Net)) (zab:(Sl Int)) (zac:(Sl (Sl Int))) (jv6:Int) (zcO:(Sl Int)):Bool:=zh1 zaa zab zac Fuel jv6 zcO
def zpH (zaa:(Sl Net)) (zab:(Sl Int)) (zac:(Sl (Sl Int))) (jv6:Int) (zcO:(Sl Int)):Bool:=zh2 zaa zab zac Fuel jv6 zcO
theorem zKq (hs:zpH zaa zab zac jv6 zcO=true) (hk:K (e18 (zpG zaa zab zac jv6 zcO))) (zpI:zeR=zg enc_3 zcO):z18 K [1,1,1,1,1,1,1,0,1,0] [] (zGc zaa zab zac jv6 zcO zeR) :=
  zl (λ X=>z18 K [1,1,1,1,1,1,1,0,1,0,0] [X]) (by kernel_rfl) λ X6 hX =>
  (show ∀ k, zEA K zaa zab zac X6 (zh2 zaa zab zac k) (zh1 zaa zab zac k) from zdU _ _ (zj3 zaa zab zac) (zj2 zaa zab zac) (zEA K zaa zab zac X6)
 (by intro _ _ _ hs;exact absurd hs Bool.false_ne_true)
 (by intro P6 S6 hX6 jv6 zcO zeR hs hk zpI;subst zpI;exact hX _ (zaR (by kernel_rfl) (zc hs hk (λ hs hk=>(zKp hX6 hs hk rfl)) (λ hs hk=>(zKo hs hk rfl)))))) _ hs hk zpI
def zt6 (zaa:(Sl Net)) (zab:(Sl Int)) (zac:(Sl (Sl Int))) (zbT:Int) (zcK:(Sl Tie)):Bool :=
  (zpG zaa zab zac (0:Int) (⟨zbT.toNat,(λ _=>(0:Int))⟩:Sl Int))
def zt7 (zaa:(Sl Net)) (zab:(Sl Int)) (zac:(Sl (Sl Int))) (zbT:Int) (zcK:(Sl Tie)):Bool :=
  (decide ((0≤(0:Int)/\(0:Int) < (zaa.len:Int))) &&
 (decide ((0≤zbT/\zbT=zbT/\zbT≤1000000)) &&
 (zpH zaa zab zac (0:Int) (⟨zbT.toNat,(λ _=>(0:Int))⟩:Sl Int))))
theorem zKr (hs:zt7 zaa zab zac zbT zcK=true) (hk:K (e18 (zt6 zaa zab zac zbT zcK))):z18 K [1,1,1,1,1] [] ⟨[(0,zS enc_24 2 zaa),(1,zS enc_3 1 zab),(2,zS enc_27 1 zac),(8,zp 8 0)],[(8,.box 24 (zm (enc_24 (⟨zbT,zcK⟩:Net))))],[]⟩:=zaR (by kernel_rfl) (zaL hs λ hc hs=>And.intro hc (zaL hs λ hc hs=>And.intro hc (zKq hs hk rfl)))
def zt8 (zaa:(Sl Net)) (zab:(Sl Int)) (zac:(Sl (Sl Int))) (fv4:Int) (zbT:Int) (zcK:(Sl Tie)):Bool :=
  (cond (fv4 != (0:Int))
 true
 (zt6 zaa zab zac zbT zcK))
def zt9 (zaa:(Sl Net)) (zab:(Sl Int)) (zac:(Sl (Sl Int))) (fv4:Int) (zbT:Int) (zcK:(Sl Tie)):Bool :=
  (cond (fv4 != (0:Int))
 true
 (zt7 zaa zab zac zbT zcK))
theorem zKs (hs:zt9 zaa zab zac fv4 zbT zcK=true) (hk:K (e18 (zt8 zaa zab zac fv4 zbT zcK))) (zwT:znq=zg zai zcK):z18 K [1,1,1,1] [] ⟨[(0,zS enc_24 2 zaa),(1,zS enc_3 1 zab),(2,zS enc_27 1 zac),(8,zp 8 0),(9,zI fv4)],[(8,.box 24 [zi zbT,.p (.sl zcK.len 4 znq)])],[]⟩:=by subst zwT;exact zaR (by kernel_rfl) (zc hs hk (λ hs hk=>hk) (λ hs hk=>(zKr hs hk)))
def zmy (zaa:(Sl Net)) (zab:(Sl Int)) (zac:(Sl (Sl Int))):Bool :=
  (zt8 zaa zab zac ((s62 zaa zab).2) (((s62 zaa zab).1).Nodes) (((s62 zaa zab).1).Ties))
def zmz (zaa:(Sl Net)) (zab:(Sl Int)) (zac:(Sl (Sl Int))):Bool :=
  (decide ((p62 zaa zab=true)) &&
 (zt9 zaa zab zac ((s62 zaa zab).2) (((s62 zaa zab).1).Nodes) (((s62 zaa zab).1).Ties)))
theorem zKt (hs:zmz zaa zab zac=true) (hk:K (e18 (zmy zaa zab zac))):z18 K [1,1,1] [] ⟨[(0,zS enc_24 2 zaa),(1,zS enc_3 1 zab),(2,zS enc_27 1 zac)],[],[]⟩:=zaR (by kernel_rfl) (zaL hs λ hc hs=>And.intro (And.intro (zE enc_24 2 zaa.get) (And.intro (zE enc_3 1 zab.get) hc)) (zKs hs hk rfl))
def zh3 (S1:Int->Bool) (zaa:(Sl Net)) (zab:(Sl Int)) (zac:(Sl (Sl Int))) (jv2:Int) (zt3:Bool):Bool :=
  (cond zt3
 true
 (S1 (w64 (jv2+(1:Int)))))
def zh4 (P1:Int->Bool) (zaa:(Sl Net)) (zab:(Sl Int)) (zac:(Sl (Sl Int))) (jv2:Int) (zt3:Bool):Bool :=
  (cond zt3
 true
 (P1 (w64 (jv2+(1:Int)))))
theorem zmA (hX1:zKg K zaa zab zac X1 P1 S1) (hs:zh4 P1 zaa zab zac jv2 zt3=true) (hk:K (e18 (zh3 S1 zaa zab zac jv2 zt3))):z18 K [1,1,0,1,0,0,1,0,0,1] [X1] ⟨[(0,zS enc_24 2 zaa),(1,zS enc_3 1 zab),(2,zS enc_27 1 zac),(7,zI jv2),(92,zB zt3)],[],[]⟩:=zaR (by kernel_rfl) (zc hs hk (λ hs hk=>hk) (λ hs hk=>(hX1 hs hk)))
def zj4 (zaa:(Sl Net)) (zab:(Sl Int)) (zac:(Sl (Sl Int))) (S1:Int->Bool) (jv1:Int):Bool :=
  (cond (decide (jv1 < (zaa.len : Int)))
 (cond (decide ((zaa.get jv1.toNat).Nodes > (4:Int)))
 (zh3 S1 zaa zab zac jv1 true)
 (cond (decide (((zaa.get jv1.toNat).Ties.len : Int) > (8:Int)))
 (zh3 S1 zaa zab zac jv1 true)
 (cond (decide (((zac.get jv1.toNat).len : Int) > (4:Int)))
 (zh3 S1 zaa zab zac jv1 true)
 (cond (!(s23 (zaa.get jv1.toNat)))
 (zh3 S1 zaa zab zac jv1 true)
 (zh3 S1 zaa zab zac jv1 (!(s38 (zaa.get jv1.toNat) (zac.get jv1.toNat))))))))
 (zmy zaa zab zac))
def zj5 (zaa:(Sl Net)) (zab:(Sl Int)) (zac:(Sl (Sl Int))) (P1:Int->Bool) (jv1:Int):Bool :=
  (cond (decide (jv1 < (zaa.len : Int)))
 (decide ((0≤jv1/\jv1 < (zaa.len:Int))) &&
 (cond (decide ((zaa.get jv1.toNat).Nodes > (4:Int)))
 (zh4 P1 zaa zab zac jv1 true)
 (decide ((0≤jv1/\jv1 < (zaa.len:Int))) &&
 (cond (decide (((zaa.get jv1.toNat).Ties.len : Int) > (8:Int)))
 (zh4 P1 zaa zab zac jv1 true)
 (decide ((0≤jv1/\jv1 < (zac.len:Int))) &&
 (cond (decide (((zac.get jv1.toNat).len : Int) > (4:Int)))
 (zh4 P1 zaa zab zac jv1 true)
 (decide ((0≤jv1/\jv1 < (zaa.len:Int))) &&
 (decide ((p23 (zaa.get jv1.toNat)=true)) &&
 (cond (!(s23 (zaa.get jv1.toNat)))
 (zh4 P1 zaa zab zac jv1 true)
 (decide ((0≤jv1/\jv1 < (zaa.len:Int))) &&
 (decide ((0≤jv1/\jv1 < (zac.len:Int))) &&
 (decide ((p38 (zaa.get jv1.toNat) (zac.get jv1.toNat)=true)) &&
 (zh4 P1 zaa zab zac jv1 (!(s38 (zaa.get jv1.toNat) (zac.get jv1.toNat))))))))))))))))
 (zmz zaa zab zac))
def zj6 (zaa:(Sl Net)) (zab:(Sl Int)) (zac:(Sl (Sl Int))):Nat->Int->Bool:=lpO (λ _=>default) (zj4 zaa zab zac)
def zj7 (zaa:(Sl Net)) (zab:(Sl Int)) (zac:(Sl (Sl Int))):Nat->Int->Bool:=lpO (λ _=>false) (zj5 zaa zab zac)
def zua (zaa:(Sl Net)) (zab:(Sl Int)) (zac:(Sl (Sl Int))) (jv1:Int):Bool:=zj6 zaa zab zac Fuel jv1
def zue (zaa:(Sl Net)) (zab:(Sl Int)) (zac:(Sl (Sl Int))) (jv1:Int):Bool:=zj7 zaa zab zac Fuel jv1
theorem zKu (hs:zue zaa zab zac jv1=true) (hk:K (e18 (zua zaa zab zac jv1))):z18 K [1,1,0,1,0] [] (zGb zaa zab zac jv1) :=
  zl (λ X=>z18 K [1,1,0,1,0,0] [X]) (by kernel_rfl) λ X1 hX =>
  (show ∀ k, zKg K zaa zab zac X1 (zj7 zaa zab zac k) (zj6 zaa zab zac k) from zdU _ _ (zj5 zaa zab zac) (zj4 zaa zab zac) (zKg K zaa zab zac X1)
 (by intro _ hs;exact absurd hs Bool.false_ne_true)
 (by intro P1 S1 hX1 jv1 hs hk;exact hX _ (zaR (by kernel_rfl) (zc hs hk (λ hs hk=>(zaL hs λ hc hs=>And.intro hc (zc hs hk (λ hs hk=>(zmA hX1 hs hk)) (λ hs hk=>(zaL hs λ hc hs=>And.intro hc (zc hs hk (λ hs hk=>(zmA hX1 hs hk)) (λ hs hk=>(zaL hs λ hc hs=>And.intro hc (zc hs hk (λ hs hk=>(zmA hX1 hs hk)) (λ hs hk=>(zaL hs λ hc hs=>And.intro hc (zaL hs λ hc hs=>And.intro (And.intro (zE zai 4 ((zaa.get jv1.toNat).Ties.get)) hc) (zc hs hk (λ hs hk=>(zmA hX1 hs hk)) (λ hs hk=>(zaL hs λ hc hs=>And.intro hc (zaL hs λ hc hs=>And.intro hc (zaL hs λ hc hs=>And.intro (And.intro (zE zai 4 ((zaa.get jv1.toNat).Ties.get)) (And.intro (zE enc_3 1 ((zac.get jv1.toNat).get)) hc)) (zmA hX1 hs hk)))))))))))))))))) (λ hs hk=>(zKt hs hk)))))) _ hs hk
def zpJ (zaa:(Sl Net)) (zab:(Sl Int)) (zac:(Sl (Sl Int))):Bool :=
  (zua zaa zab zac (0:Int))
def zpK (zaa:(Sl Net)) (zab:(Sl Int)) (zac:(Sl (Sl Int))):Bool :=
  (zue zaa zab zac (0:Int))
theorem zKv (hs:zpK zaa zab zac=true) (hk:K (e18 (zpJ zaa zab zac))):z18 K [1,1] [] ⟨[(0,zS enc_24 2 zaa),(1,zS enc_3 1 zab),(2,zS enc_27 1 zac)],[],[]⟩:=zaR (by kernel_rfl) (zKu hs hk)
def s18 (zaa:(Sl Net)) (zab:(Sl Int)) (zac:(Sl (Sl Int))):Bool :=
  (cond (decide ((zaa.len : Int) < (1:Int)))
 true
 (cond (decide ((zaa.len : Int) > (4:Int)))
 true
 (cond ((zac.len : Int) != (zaa.len : Int))
 true
 (cond (decide ((zab.len : Int) > (4:Int)))
 true
 (zpJ zaa zab zac)))))
def p18 (zaa:(Sl Net)) (zab:(Sl Int)) (zac:(Sl (Sl Int))):Bool :=
  (cond (decide ((zaa.len : Int) < (1:Int)))
 true
 (cond (decide ((zaa.len : Int) > (4:Int)))
 true
 (cond ((zac.len : Int) != (zaa.len : Int))
 true
 (cond (decide ((zab.len : Int) > (4:Int)))
 true
 (zpK zaa zab zac)))))
end
theorem q18 (zaa:(Sl Net)) (zab:(Sl Int)) (zac:(Sl (Sl Int))) (K:List PA->Prop) (hs:p18 zaa zab zac=true) (hk:K (e18 (s18 zaa zab zac))):vcFun Tryd.prog G18 zKf 18 [.one (.sl zaa.len 2 (λ i=>enc_24 (zaa.get i))),.one (.sl zab.len 1 (λ i=>enc_3 (zab.get i))),.one (.sl zac.len 1 (λ i=>enc_27 (zac.get i)))] K :=
  zaR (by kernel_rfl) (zc hs hk (λ hs hk=>hk) (λ hs hk=>(zc hs hk (λ hs hk=>hk) (λ hs hk=>(zc hs hk (λ hs hk=>hk) (λ hs hk=>(zc hs hk (λ hs hk=>hk) (λ hs hk=>(zKv hs hk)))))))))
def zNt : List PA → COut
  | [.one (.sl zdl ziz zdm),.one (.sl zcz zfx zcw),.one (.sl zCL zL9 zCM)]=>.det (IsE enc_24 2 ziz zdm/\IsE enc_3 1 zfx zcw/\IsE enc_27 1 zL9 zCM/\p18 (⟨zdl,zdp zdm⟩:(Sl Net)) (⟨zcz,zar zcw⟩:(Sl Int)) (⟨zCL,zi5 zCM⟩:(Sl (Sl Int)))=true) [.one (.bool (s18 (⟨zdl,zdp zdm⟩:(Sl Net)) (⟨zcz,zar zcw⟩:(Sl Int)) (⟨zCL,zi5 zCM⟩:(Sl (Sl Int)))))]
  | _=>.no
theorem zNu:zaw Tryd.prog 18:=⟨_,rfl,rfl,by kernel_rfl⟩
theorem ok18:Ok Tryd.prog 18 zNt:=zbv zPr zNu λ args K h=>by
  unfold zNt at h
  split at h
  · rename_i zdl ziz zdm zcz zfx zcw zCL zL9 zCM
    obtain⟨⟨⟨rfl,zfz,rfl⟩,⟨rfl,zdV,rfl⟩,⟨rfl,zHz,rfl⟩,hs⟩,hk⟩:=h
    try rw[zdq zfz] at hs
    try rw[zdq zfz] at hk
    try rw[zaV zdV] at hs
    try rw[zaV zdV] at hk
    try rw[zft zHz] at hs
    try rw[zft zHz] at hk
    exact⟨(λ _ _=>[]),(λ _=>false),zKf,q18 (⟨zdl,zfz⟩:(Sl Net)) (⟨zcz,zdV⟩:(Sl Int)) (⟨zCL,zHz⟩:(Sl (Sl Int))) K hs hk⟩
  · exact h.elim
end Go.Proofs
namespace Go.Proofs.YtedhjaaikeakoaaDoor
open Go Go.Pm Go.ChangeShapes
set_option maxRecDepth 100000
abbrev laid1 : List (String × DataW Unit) := [("overburden/align.never", Rows.laid_overburden_align_never)]
theorem zGf : Tryd.prog.globalNamed "overburden/align.never" = some 0 := by kernel_rfl
theorem zNv:(Tryd.prog.globals[0]?).map (·.type)=some 114:=by kernel_rfl
theorem zNw:Tryd.prog.cellsOf 114=2:=by kernel_rfl
theorem zQc:Tryd.prog.cellsOf 3=1:=by kernel_rfl
theorem door_met (os:Os) (args:Array Value):laidMetH Tryd.prog laid1 ((World.doorLaid Tryd.prog 400 os).forCall (λ _ _=>0) ⟨#[],args,[]⟩).memory :=
 laidMetH_of_parts3 (fuel:=8) (laidMet_of_run' 8 (by kernel_rfl) (by kernel_rfl)) (by kernel_rfl) (by kernel_rfl)
theorem gl_of {W:World}(h:laidMetH Tryd.prog laid1 W):zer (H0 W):=by
 rw[MakeChecks.laidMetH_plain _ _ _ (by kernel_rfl)] at h
 obtain⟨ps,⟨g0,t0,cs0,f0,p0,q0,hg0,ht0,hv0,hd0,_,_⟩,_,_⟩:=h
 obtain rfl:=Option.some.inj (zGf.symm.trans hg0)
 obtain rfl:=Option.some.inj (zNv.symm.trans ht0)
 obtain⟨y0,y1,n,hx,hl,h0,h1⟩:=trod_struct2 Tryd.underlying114 hd0
 simp only[Prod.mk.injEq] at hx
 obtain⟨hx,-⟩:=hx
 simp only[Rows.laid_overburden_align_never,DataW.agg.injEq,List.cons.injEq,and_true] at hx
 obtain⟨k0,e0,d0,_⟩:=DataW.trod_int Tryd.underlying3 h0
 obtain⟨k1,e1,d1,_⟩:=DataW.trod_int Tryd.underlying3 h1
 rw[zNw] at hl
 have e0':cs0.toList.take 1=[.int .i64 k0]:=by
  have:=e0
  rw[show Tryd.prog.cellsOf _=1 from zQc] at this
  simpa using this
 have e1':(cs0.toList.drop 1).take 1=[.int .i64 k1]:=by
  have:=e1
  rw[show Tryd.prog.cellsOf _=1 from zQc] at this
  simpa using this
 have hk0:k0=1000000000000:=by have:=hx.1;rw[d0] at this;injection this with a;injection a with _ a;exact a.symm
 have hk1:k1=0:=by have:=hx.2;rw[d1] at this;injection this with a;injection a with _ a;exact a.symm
 have hC:cs0.toList=[.int .i64 1000000000000,.int .i64 0]:=by
  have h2:cs0.toList=cs0.toList.take 1 ++ (cs0.toList.drop 1).take 1:=by
   rw[← List.take_add,List.take_of_length_le (by omega)]
  rw[h2,e0',e1',hk0,hk1];rfl
 intro k l hk
 unfold World.var? at hv0
 rw[zGf] at hv0
 simp only[Option.bind_some] at hv0
 cases k with
 | succ k=>cases hk
 | zero =>
  obtain rfl:[PV.int .i64 1000000000000,.int .i64 0]=l:=Option.some.inj hk
  cases eo:W.heap[0]? with
  | none=>rw[eo] at hv0;cases hv0
  | some o =>
   rw[eo] at hv0
   cases o with
   | cells C ty fr =>
    simp only[Option.some.injEq] at hv0
    subst hv0
    exact⟨_,ty,fr,by unfold H0;rw[eo];rfl,by rw[hC];exact⟨.int _ _,.int _ _,trivial⟩⟩
   | _=>cases hv0
end Go.Proofs.YtedhjaaikeakoaaDoor
namespace Go.Proofs.YtedhjaaikeakoaaDoor
set_option maxRecDepth 100000
def dc : Nat → Nat → List Char
  | 0,_=>[]
  | k+1,n=>Char.ofNat (n % 128) :: dc k (n / 128)
def ioR:List (List Char):=[dc 2 14945,dc 38 107265865644741724912243125268531249640326942553430557205577479631290979090791279,dc 38 108293077817484906734254386447616441263814988321737617043972465573863363972791151,dc 38 93370879016013017278412803021783510280543711028000410236402271261457424383048559,dc 38 107258694022858408970435192345127867927486736974969802526482043864463718682819439,dc 39 13746719959472648153406769131206406626558510298776447130317981093147086104311724911,dc 38 107266209769642888316488957616301258915172789321380384129051881327065490379078511,dc 39 13738338888634744287462113483281891133786406809494667074737303271467843731645365103,dc 38 107308724040215521434011850380931925905298338556088488294726402895071789331348335,dc 43 3689337697451499537899652006011379275272339788637320245734945509069109267079825879406836591,dc 38 106339254617564648824502995819756623291246721172574690728430612464564447869500271,dc 38 107330772524736890892060720350443696785457349727637599143704802418857719933533039,dc 38 107266380701743786104986999119182321999123657451770743386930499759721679104342895,dc 38 107308728471136676073553801914045189487148679029700448428114571309412341010496367,dc 37 837954515553292543489687687552621780150771894250034810644180755742461368302447,dc 38 107287017468262091873827311208814906259154281073825133055543027267698112966785903,dc 38 107374028509112486977837548216825331243033985081330090052312008930171490580134767,dc 38 107265533895345759970156929786145176805363222797160045994169685653949991330872175]
def ioN:List Char:=dc 748 14110378018767575964226655308004126793045208087310171201555892242252648960690434620806224759478349222793457564936136773140206884019406577404308477398112682127111429688458091804136369451876026010391452929509304596612007749348823331848074321521876163367611471766311661795807971626777430789606670518996161301806853738256348343737238826384171739901612950230839336053519876648582653265928992265003442337249315020340640568624042171724319570015876863120612063908539839480788963015814409324055605425425582212723687691771037045010066064867754736841809752569547023397197010564985861497252960727260554984899190782686002829257997185443421456271698218584945985148990383891392482548262956659989814614329905290488435125286744085629934720469444029598243369313538259143807170350259387234145666063103371643809341342441092158617040725699310351084585854817129011753246127748964030413854525633190715875548631480060648955255476518703717934493416584654287151545453027212072361023366870608725576042669368667333719675724995494706645777621137060304017521484702088503639607947747215026989263530504204523251982333933107210391579300884546305432560571086131943194743723205005815139772394062686780566686930384812217785365992657908782936586832589627342388339882126362151219006413773645814561079952905486963953952063552645778936398310246717058410743450648594152841163565946295251582585294350653230459132165827590128826417871324965536217148578987470925657879977171716100377657863588641203253643922875913460814715430695689192746980757875303892414899783421563436119681070640173712093473782554642421452415184974056
theorem ioS:Tryd.prog.initOrder=String.ofList ioN:=by kernel_rfl
theorem ioL:Tryd.prog.initOrder.toList=ioN:=(congrArg String.toList ioS).trans String.toList_ofList
theorem ioW:wordsSigns Tryd.prog.initOrder.toList=(dc 7 509754063237352) :: (dc 64 583581952082889979719035725534559484815115086455805852996510235646750355970935781905203483690318741732481452225105900421668580921071669) :: (dc 3 1915619) :: ioR:=(congrArg wordsSigns ioL).trans (by kernel_rfl)
theorem ioB:behindMainWord (wordsSigns Tryd.prog.initOrder.toList)=(dc 3 1915619) :: ioR:=(congrArg behindMainWord ioW).trans (by kernel_rfl)
theorem zrh {P : Program} {l : List (List Char)} (h : behindMainWord (wordsSigns P.initOrder.toList) = l) : P.headLifts = (if (stripLifts liftWords l).2.head? == some "cut".toList then (stripLifts liftWords l).1 else []) := by subst h; rfl
theorem zKw {P:Program}{rest:List (List Char)}(h:behindMainWord (wordsSigns P.initOrder.toList)=(dc 3 1915619) :: rest):P.make=some .cut:=by unfold Program.make;rw[h];rfl
theorem zEO {P:Program}{rest:List (List Char)}(h:behindMainWord (wordsSigns P.initOrder.toList)=(dc 3 1915619) :: rest) (hl:P.headLifts=[]):P.liftsFinal=false:=by unfold Program.liftsFinal;rw[h,hl];rfl
theorem zKx {P : Program} {a b : List Char} {rest : List (List Char)} (h : wordsSigns P.initOrder.toList = a :: b :: rest) (hs : isSumSigns b = true) (ha : (a == "harness".toList) = true) : P.mainIs = some (true, b) := by unfold Program.mainIs; rw [h]; simp only [hs, ha]; rfl
theorem zEP {P : Program} {c : List Char} {rest : List (List Char)} (h : behindMainWord (wordsSigns P.initOrder.toList) = c :: rest) (hst : (stripLifts liftWords (c :: rest)).2.head? = some "cut".toList)
    (hs1:(stripLifts liftWords (c :: rest)).1=[]) (hlay:P.laysLater=false) (hb:P.bearsReflect=false) (hd:P.doorFits []=true):P.mayEnter=true:=by
  unfold Program.mayEnter
  rw[h]
  simp[hst,hs1,hlay,hb,hd]
theorem ioH:Tryd.prog.headLifts=[]:=(zrh ioB).trans (by kernel_rfl)
theorem ioK:Tryd.prog.make=some .cut:=zKw ioB
theorem ioF:Tryd.prog.liftsFinal=false:=zEO ioB ioH
theorem ioM : Tryd.prog.mainIs = some (true, "5097d02014b7f9bdc457588f16a61179f96daee4a085c0a2c5462d863db43dbf".toList) := (zKx ioW (by kernel_rfl) (by kernel_rfl)).trans (by kernel_rfl)
theorem ioE:Tryd.prog.mayEnter=true:=zEP ioB (by kernel_rfl) (by kernel_rfl) (by kernel_rfl) (by kernel_rfl) (by kernel_rfl)
end Go.Proofs.YtedhjaaikeakoaaDoor
namespace Go.Pm
open Go

theorem za6 {x:Int}(h1 : -9223372036854775808≤x) (h2:x≤9223372036854775807):w64 x=x:=by
 have hb:IntKind.i64.bits=64:=rfl
 have hs:IntKind.i64.signed=true:=rfl
 unfold w64 IntKind.wrap
 rw[hb,hs]
 simp only[Bool.true_and,decide_eq_true_eq]
 split <;> omega
theorem dqT {p:Prop} [Decidable p] (h:p):decide p=true:=decide_eq_true h
theorem dqF {p:Prop} [Decidable p] (h : ¬ p):decide p=false:=decide_eq_false h
theorem dqA {α:Type}(a b:α):cond true a b=a:=rfl
theorem dqB {α:Type}(a b:α):cond false a b=b:=rfl
theorem dqN (n:Nat):((n:Nat):Int).toNat=n:=Int.toNat_natCast n
theorem dqP {c:Prop}{h:Decidable c}(hc:c){α:Type}{t e:α} : ite c t e=t:=if_pos hc
theorem dqG {c:Prop}{h:Decidable c}(hc : ¬ c){α:Type}{t e:α} : ite c t e=e:=if_neg hc
def zQd (c : Nat → Bool) : Nat → Nat → Nat
  | 0,i=>i
  | m+1,i=>match c i with | true=>i | false=>zQd c m (i+1)
def fst (c:Nat->Bool) (n:Nat):Nat:=zQd c n 0
theorem zhj {good : Nat → Bool} {fin : Bool} {n : Nat} {lpS lpP : Nat → Int → Bool}
    (hS:∀ (k i:Nat),i < n->lpS (k+1) (i:Int)=cond (good i) (lpS k (w64 ((i:Int)+(1:Int)))) false)
    (hE:∀ k,lpS (k+1) (n:Int)=fin)
    (hP:∀ (k i:Nat),i < n->lpP (k+1) (i:Int)=cond (good i) (lpP k (w64 ((i:Int)+(1:Int)))) true)
    (hPE:∀ k,lpP (k+1) (n:Int)=true) (hn:n≤9223372036854775807) :
    lpP Fuel 0=true/\(lpS Fuel 0=true↔(∀ i,i < n->good i=true)/\fin=true):=by
  have key:∀ (m k i:Nat),i+m=n->m < k->lpP k (i:Int)=true/\(lpS k (i:Int)=true↔(∀ j,i≤j->j < n->good j=true)/\fin=true):=by
    intro m
    induction m with
    | zero =>
      intro k i hi hk
      obtain⟨k,rfl⟩:∃ k',k=k'+1:=⟨k - 1,by omega⟩
      have:i=n:=by omega
      subst this
      rw[hE,hPE]
      exact⟨rfl,⟨λ h=>⟨λ j h1 h2=>absurd h2 (by omega),h⟩,λ h=>h.2⟩⟩
    | succ m ih =>
      intro k i hi hk
      obtain⟨k,rfl⟩:∃ k',k=k'+1:=⟨k - 1,by omega⟩
      rw[hS k i (by omega),hP k i (by omega)]
      have e3:w64 ((i:Int)+1)=((i+1:Nat):Int):=by rw[za6 (by omega) (by omega)];omega
      rw[e3]
      obtain⟨h1,h2⟩:=ih k (i+1) (by omega) (by omega)
      cases hg:good i
      · refine ⟨rfl, ⟨fun h => (by cases h), fun h => ?_⟩⟩
        have:=h.1 i (Nat.le_refl _) (by omega)
        rw[hg] at this;cases this
      · refine ⟨h1, h2.trans ⟨fun h => ⟨fun j hj1 hj2 => ?_, h.2⟩, fun h => ⟨fun j hj1 hj2 => h.1 j (by omega) hj2, h.2⟩⟩⟩
        by_cases hji:j=i
        · rw[hji];exact hg
        · exact h.1 j (by omega) hj2
  have:=key n Fuel 0 (by omega) (by simp only[Fuel];omega)
  simpa using this

end Go.Pm
namespace Go.Pm
open Go
theorem ziN {i n:Nat}(h:i < n) (hn:n≤9223372036854775807):w64 ((i:Int)+(1:Int))=((i+1:Nat):Int):=by
 rw[za6 (by omega) (by omega)];omega
theorem zgN {β : Type} {good : Nat → Bool} {bad fin : β} {finP : Bool} {n : Nat} {lpS : Nat → Int → β} {lpP : Nat → Int → Bool}
    (hS:∀ (k i:Nat),i < n->lpS (k+1) (i:Int)=cond (good i) (lpS k (w64 ((i:Int)+(1:Int)))) bad)
    (hE:∀ k,lpS (k+1) (n:Int)=fin)
    (hP:∀ (k i:Nat),i < n->lpP (k+1) (i:Int)=cond (good i) (lpP k (w64 ((i:Int)+(1:Int)))) true)
    (hPE:∀ k,lpP (k+1) (n:Int)=finP) (hn:n≤9223372036854775807) :
    ((∀ i,i < n->good i=true)->lpP Fuel 0=finP/\lpS Fuel 0=fin)/\((¬ ∀ i,i < n->good i=true)->lpP Fuel 0=true/\lpS Fuel 0=bad):=by
  have key:∀ (m k i:Nat),i+m=n->m < k->((∀ j,i≤j->j < n->good j=true)->lpP k (i:Int)=finP/\lpS k (i:Int)=fin)/\((¬ ∀ j,i≤j->j < n->good j=true)->lpP k (i:Int)=true/\lpS k (i:Int)=bad):=by
    intro m
    induction m with
    | zero =>
      intro k i hi hk
      obtain⟨k,rfl⟩:∃ k',k=k'+1:=⟨k - 1,by omega⟩
      have:i=n:=by omega
      subst this
      rw[hE,hPE]
      exact⟨λ _=>⟨rfl,rfl⟩,λ h=>absurd (λ j h1 h2=>absurd h2 (by omega)) h⟩
    | succ m ih =>
      intro k i hi hk
      obtain⟨k,rfl⟩:∃ k',k=k'+1:=⟨k - 1,by omega⟩
      rw[hS k i (by omega),hP k i (by omega),ziN (n:=n) (by omega) hn]
      obtain⟨h1,h2⟩:=ih k (i+1) (by omega) (by omega)
      cases hg:good i
      · refine ⟨fun h => ?_, fun _ => ⟨rfl, rfl⟩⟩
        have:=h i (Nat.le_refl _) (by omega)
        rw[hg] at this;cases this
      · refine ⟨fun h => h1 fun j a b => h j (by omega) b, fun h => h2 fun h' => h fun j a b => ?_⟩
        by_cases hji:j=i
        · rw[hji];exact hg
        · exact h' j (by omega) b
  have:=key n Fuel 0 (by omega) (by simp only[Fuel];omega)
  simpa using this
def zdg {σ : Type} (step : Nat → σ → σ) : Nat → Nat → σ → σ
  | 0,_,s=>s
  | m+1,i,s=>zdg step m (i+1) (step i s)
theorem zdQ {σ β : Type} {step : Nat → σ → σ} {E : σ → β} {EP : σ → Bool} {Inv : Nat → σ → Prop} {a n : Nat} {lpS : Nat → σ → Int → β} {lpP : Nat → σ → Int → Bool}
    (hS:∀ (k i:Nat) (s:σ),a≤i->i < n->Inv i s->lpS (k+1) s (i:Int)=lpS k (step i s) (w64 ((i:Int)+(1:Int))))
    (hE:∀ k s,lpS (k+1) s (n:Int)=E s)
    (hP:∀ (k i:Nat) (s:σ),a≤i->i < n->Inv i s->lpP (k+1) s (i:Int)=lpP k (step i s) (w64 ((i:Int)+(1:Int))))
    (hPE:∀ k s,lpP (k+1) s (n:Int)=EP s)
    (hI:∀ i s,a≤i->i < n->Inv i s->Inv (i+1) (step i s)) (ha:a≤n) (hn:n≤9223372036854775807) (s:σ) (h0:Inv a s) :
    lpP Fuel s (a:Int)=EP (zdg step (n - a) a s)/\lpS Fuel s (a:Int)=E (zdg step (n - a) a s):=by
  have key:∀ (m k i:Nat) (s:σ),a≤i->i+m=n->m < k->Inv i s->lpP k s (i:Int)=EP (zdg step m i s)/\lpS k s (i:Int)=E (zdg step m i s):=by
    intro m
    induction m with
    | zero =>
      intro k i s h1 hi hk _
      obtain⟨k,rfl⟩:∃ k',k=k'+1:=⟨k - 1,by omega⟩
      have:i=n:=by omega
      subst this
      rw[hE,hPE]
      exact⟨rfl,rfl⟩
    | succ m ih =>
      intro k i s h1 hi hk hs
      obtain⟨k,rfl⟩:∃ k',k=k'+1:=⟨k - 1,by omega⟩
      rw[hS k i s h1 (by omega) hs,hP k i s h1 (by omega) hs,ziN (n:=n) (by omega) hn]
      exact ih k (i+1) (step i s) (by omega) (by omega) (by omega) (hI i s h1 (by omega) hs)
  exact key (n - a) Fuel a s (Nat.le_refl _) (by omega) (by simp only[Fuel];omega) h0
end Go.Pm
namespace Go.Proofs
open Go Go.Pm
set_option maxRecDepth 100000
set_option linter.unusedVariables false
attribute [local irreducible] Go.Pm.vcFun Go.Pm.vc Go.Pm.vcIter
section
variable {K:List PA->Prop}{a:Net}{b:Net}{iv1:Int}{X1:St->Prop}{P1:Int->Bool}{S1:Int->Bool}
end
end Go.Proofs
namespace Go.Proofs
open Go Go.Pm
set_option maxRecDepth 100000
theorem ziO (n a b:Int):s81 n a b=decide (a≤n/\n≤b):=by
 unfold s81
 by_cases h:a≤n
 ·rw[dqT (show n ≥ a from h),dqA];exact decide_eq_decide.2 ⟨λ k=>⟨h,k⟩,λ k=>k.2⟩
 ·rw[dqF (show ¬ n ≥ a from h),dqB];exact (dqF (λ k=>h k.1)).symm
theorem znr (n a b:Int):s72 n a b=decide (a≤n/\n≤b):=ziO n a b
theorem zv3 (n:Net) (hn:n.Ties.len≤9223372036854775807):p67 n=true/\(s67 n=true↔(∀ i,i < n.Ties.len->s78 (n.Ties.get i) n.Nodes=true)/\(1≤n.Nodes/\n.Nodes≤40)/\n.Ties.len≤200):=by
  have := zhj (good := fun i => s78 (n.Ties.get i) n.Nodes) (fin := cond (s81 n.Nodes (1:Int) (40:Int)) (decide ((n.Ties.len : Int) ≤ (200:Int))) false) (n := n.Ties.len) (lpS := zi8 n) (lpP := zi9 n)
    (λ k i hi=>by
      show zi6 n (zi8 n k) (i:Int)=_
      generalize zi8 n k=S
      unfold zi6 zse
      rw[dqT (show (i:Int) < (n.Ties.len:Int) by omega),dqA,dqN]
      cases s78 (n.Ties.get i) n.Nodes <;> rfl)
    (λ k=>by
      show zi6 n (zi8 n k) (n.Ties.len:Int)=_
      unfold zi6
      rw[dqF (show ¬ (n.Ties.len:Int) < (n.Ties.len:Int) by omega),dqB])
    (λ k i hi=>by
      show zi7 n (zi9 n k) (i:Int)=_
      generalize zi9 n k=S
      unfold zi7 zsf
      rw[dqT (show (i:Int) < (n.Ties.len:Int) by omega),dqA,dqN,dqT (show 0≤(i:Int)/\(i:Int) < (n.Ties.len:Int) by omega),Bool.true_and]
      cases s78 (n.Ties.get i) n.Nodes <;> rfl)
    (λ k=>by
      show zi7 n (zi9 n k) (n.Ties.len:Int)=_
      unfold zi7
      rw[dqF (show ¬ (n.Ties.len:Int) < (n.Ties.len:Int) by omega),dqB])
    hn
  refine⟨this.1,this.2.trans ?_⟩
  rw[ziO]
  by_cases h:1≤n.Nodes/\n.Nodes≤40
  · rw[dqT h,dqA,decide_eq_true_eq];exact⟨λ k=>⟨k.1,h,by omega⟩,λ k=>⟨k.1,by omega⟩⟩
  · rw[dqF h,dqB];exact⟨λ k=>absurd k.2 (by decide),λ k=>absurd k.2.1 h⟩
end Go.Proofs
namespace Go.Proofs
open Go Go.Pm
set_option maxRecDepth 100000
set_option linter.unusedVariables false
attribute [local irreducible] Go.Pm.vcFun Go.Pm.vc Go.Pm.vcIter
section
variable {K:List PA->Prop}{n:Net}
end
section
variable {K:List PA->Prop}{n:Net}{ties:Int}
end
end Go.Proofs
namespace Go.Proofs
open Go Go.Pm
set_option maxRecDepth 100000
set_option linter.unusedVariables false
theorem dlt (x y:Int):decide (x < y) = !decide (x ≥ y):=by
 by_cases h:x < y
 ·rw[dqT h,dqF (show ¬ x ≥ y by omega)];rfl
 ·rw[dqF h,dqT (show x ≥ y by omega)];rfl
theorem dgt (x y:Int):decide (x > y) = !decide (x≤y):=by
 by_cases h:x > y
 ·rw[dqT h,dqF (show ¬ x≤y by omega)];rfl
 ·rw[dqF h,dqT (show x≤y by omega)];rfl
theorem zGg (nodes:Int) (t:Tie):s36 nodes t=s78 t nodes:=by
 unfold s36 zjt ztd s78 zl3 zl2
 simp only[znr,ziO,bne,dgt]
 generalize decide (0≤t.From/\t.From≤w64 (nodes - (1:Int)))=a
 generalize decide (0≤t.To/\t.To≤w64 (nodes - (1:Int)))=b
 generalize (t.From == t.To)=c
 generalize (t.Low == (-1000000000000:Int))=d
 generalize (t.High == (1000000000000:Int))=e
 generalize decide (-1000000000≤t.Low/\t.Low≤1000000000)=f
 generalize decide (-1000000000≤t.High/\t.High≤1000000000)=g
 generalize decide (t.Low≤t.High)=h
 cases a <;> cases b <;> cases c <;> cases d <;> cases e <;> cases f <;> cases g <;> cases h <;> rfl
structure TieOk (t : Tie) (nodes : Int) : Prop where
  f0:0≤t.From
  f1:t.From < nodes
  t0:0≤t.To
  t1:t.To < nodes
  ne:t.From ≠ t.To
  lo:t.Low = -1000000000000∨(-1000000000≤t.Low/\t.Low≤1000000000)
  hi:t.High=1000000000000∨(-1000000000≤t.High/\t.High≤1000000000)
  le:t.Low≤t.High
theorem zCm (t:Tie) (nodes:Int) (h1:1≤nodes) (h2:nodes≤40):s78 t nodes=true↔TieOk t nodes:=by
 have e:s78 t nodes=(decide (0≤t.From/\t.From < nodes) && (decide (0≤t.To/\t.To < nodes) && (!(t.From == t.To) && (((t.Low == (-1000000000000:Int)) || decide (-1000000000≤t.Low/\t.Low≤1000000000)) && (((t.High == (1000000000000:Int)) || decide (-1000000000≤t.High/\t.High≤1000000000)) && decide (t.Low≤t.High)))))):=by
  unfold s78 zl3 zl2
  rw[za6 (x:=nodes - 1) (by omega) (by omega)]
  simp only[ziO]
  rw[decide_eq_decide.2 (show (0≤t.From/\t.From≤nodes - 1)↔(0≤t.From/\t.From < nodes) by omega),decide_eq_decide.2 (show (0≤t.To/\t.To≤nodes - 1)↔(0≤t.To/\t.To < nodes) by omega)]
  simp only[bne]
  generalize decide (0≤t.From/\t.From < nodes)=a
  generalize decide (0≤t.To/\t.To < nodes)=b
  generalize (t.From == t.To)=c
  generalize (t.Low == (-1000000000000:Int))=d
  generalize (t.High == (1000000000000:Int))=e
  generalize decide (-1000000000≤t.Low/\t.Low≤1000000000)=f
  generalize decide (-1000000000≤t.High/\t.High≤1000000000)=g
  generalize decide (t.Low≤t.High)=h
  cases a <;> cases b <;> cases c <;> cases d <;> cases e <;> cases f <;> cases g <;> cases h <;> rfl
 rw[e]
 simp only[Bool.and_eq_true,Bool.or_eq_true,decide_eq_true_eq,Bool.not_eq_true',beq_eq_false_iff_ne,beq_iff_eq]
 constructor
 ·rintro⟨⟨a,b⟩,⟨c,d⟩,e,f,g,h⟩;exact⟨a,b,c,d,e,f,g,h⟩
 ·rintro⟨a,b,c,d,e,f,g,h⟩;exact⟨⟨a,b⟩,⟨c,d⟩,e,f,g,h⟩
structure NetOk (n : Net) : Prop where
  n1:1≤n.Nodes
  n40:n.Nodes≤40
  len:n.Ties.len≤200
  tie:∀ i,i < n.Ties.len->TieOk (n.Ties.get i) n.Nodes
theorem zj8 (n:Net) (hn:n.Ties.len≤9223372036854775807):p67 n=true/\(s67 n=true↔NetOk n):=by
 obtain⟨h1,h2⟩:=zv3 n hn
 refine⟨h1,h2.trans ?_⟩
 constructor
 ·rintro⟨a,⟨b,c⟩,d⟩;exact⟨b,c,by omega,λ i hi=>(zCm _ _ b c).1 (a i hi)⟩
 ·rintro⟨b,c,d,a⟩;exact⟨λ i hi=>(zCm _ _ b c).2 (a i hi),⟨b,c⟩,by omega⟩
theorem zns (n:Net) (hn:n.Ties.len≤9223372036854775807):p23 n=true/\s23 n=s67 n:=by
  have hl := zhj (good := fun i => s36 n.Nodes (n.Ties.get i)) (fin := true) (n := n.Ties.len) (lpS := zhO n) (lpP := zjw n)
    (λ k i hi=>by
      show zju n (zhO n k) (i:Int)=_
      generalize zhO n k=S
      unfold zju ztf
      rw[dqT (show (i:Int) < (n.Ties.len:Int) by omega),dqA,dqN]
      cases s36 n.Nodes (n.Ties.get i) <;> rfl)
    (λ k=>by
      show zju n (zhO n k) (n.Ties.len:Int)=_
      unfold zju
      rw[dqF (show ¬ (n.Ties.len:Int) < (n.Ties.len:Int) by omega),dqB])
    (λ k i hi=>by
      show zjv n (zjw n k) (i:Int)=_
      generalize zjw n k=S
      unfold zjv ztg
      rw[dqT (show (i:Int) < (n.Ties.len:Int) by omega),dqA,dqN,dqT (show 0≤(i:Int)/\(i:Int) < (n.Ties.len:Int) by omega),Bool.true_and]
      cases s36 n.Nodes (n.Ties.get i) <;> rfl)
    (λ k=>by
      show zjv n (zjw n k) (n.Ties.len:Int)=_
      unfold zjv
      rw[dqF (show ¬ (n.Ties.len:Int) < (n.Ties.len:Int) by omega),dqB])
    hn
  obtain⟨h1,h2⟩:=zv3 n hn
  unfold p23 s23 zoN zoM ztk ztj zti zth
  rw[hl.1,znr,dgt]
  refine⟨by cases decide (1≤n.Nodes/\n.Nodes≤40) <;> cases decide ((n.Ties.len:Int)≤200) <;> rfl,?_⟩
  have h3:=hl.2
  have h4:zhO n Fuel 0=true↔∀ i,i < n.Ties.len->s78 (n.Ties.get i) n.Nodes=true:=h3.trans ⟨λ h i hi=>by rw[← zGg];exact h.1 i hi,λ h=>⟨λ i hi=>by rw[zGg];exact h i hi,rfl⟩⟩
  rw[Bool.eq_iff_iff,h2]
  by_cases a:1≤n.Nodes/\n.Nodes≤40
  · rw [dqT a]
    by_cases b:(n.Ties.len:Int)≤200
    · rw[dqT b];exact h4.trans ⟨λ h=>⟨h,a,by omega⟩,λ h=>h.1⟩
    · rw[dqF b];exact⟨λ h=>absurd h Bool.false_ne_true,λ h=>absurd h.2.2 (by omega)⟩
  · rw[dqF a];exact⟨λ h=>absurd h Bool.false_ne_true,λ h=>absurd h.2.1 a⟩
structure ValOk (n : Net) (v : Sl Int) : Prop where
  len:(v.len:Int)=n.Nodes
  zero:v.get 0=0
  b:∀ i,i < v.len->-1000000000000≤v.get i/\v.get i≤1000000000000
def Keep (t:Tie) (v:Sl Int):Prop:=(t.Low = -1000000000000∨t.Low≤v.get t.To.toNat - v.get t.From.toNat)/\(t.High=1000000000000∨v.get t.To.toNat - v.get t.From.toNat≤t.High)
structure AgOk (n : Net) (v : Sl Int) : Prop where
  val:ValOk n v
  keep:∀ i,i < n.Ties.len->Keep (n.Ties.get i) v
theorem zKz (n:Net) (h1:1≤n.Nodes) (v:Sl Int) (hv:v.len≤9223372036854775807):p80 n v=true/\(s80 n v=true↔ValOk n v):=by
  have hl := zhj (good := fun i => s72 (v.get i) (-1000000000000:Int) (1000000000000:Int)) (fin := true) (n := v.len) (lpS := zhP v) (lpP := zjz v)
    (λ k i hi=>by
      show zjx v (zhP v k) (i:Int)=_
      generalize zhP v k=S
      unfold zjx ztl
      rw[dqT (show (i:Int) < (v.len:Int) by omega),dqA,dqN]
      cases s72 (v.get i) (-1000000000000:Int) (1000000000000:Int) <;> rfl)
    (λ k=>by
      show zjx v (zhP v k) (v.len:Int)=_
      unfold zjx
      rw[dqF (show ¬ (v.len:Int) < (v.len:Int) by omega),dqB])
    (λ k i hi=>by
      show zjy v (zjz v k) (i:Int)=_
      generalize zjz v k=S
      unfold zjy ztm
      rw[dqT (show (i:Int) < (v.len:Int) by omega),dqA,dqN,dqT (show 0≤(i:Int)/\(i:Int) < (v.len:Int) by omega),Bool.true_and]
      cases s72 (v.get i) (-1000000000000:Int) (1000000000000:Int) <;> rfl)
    (λ k=>by
      show zjy v (zjz v k) (v.len:Int)=_
      unfold zjy
      rw[dqF (show ¬ (v.len:Int) < (v.len:Int) by omega),dqB])
    hv
  have h3:zhP v Fuel 0=true↔∀ i,i < v.len->-1000000000000≤v.get i/\v.get i≤1000000000000:=hl.2.trans ⟨λ h i hi=>by have:=h.1 i hi;rw[znr] at this;exact of_decide_eq_true this,λ h=>⟨λ i hi=>by rw[znr];exact dqT (h i hi),rfl⟩⟩
  unfold p80 s80 ztq ztp zto ztn
  rw[hl.1]
  by_cases a:(v.len:Int)=n.Nodes
  · rw [show ((v.len : Int) != n.Nodes) = false by rw [a]; exact bne_self_eq_false _, dqB, dqB]
    by_cases b:v.get 0=0
    · rw [show (v.get 0 != (0:Int)) = false by rw [b]; rfl, dqB, dqB]
      exact⟨by rw[dqT (show 0≤(0:Int)/\(0:Int) < (v.len:Int) by omega)];rfl,h3.trans ⟨λ h=>⟨a,b,h⟩,λ h=>h.b⟩⟩
    · rw [show (v.get 0 != (0:Int)) = true from bne_iff_ne.2 b, dqA, dqA]
      exact⟨by rw[dqT (show 0≤(0:Int)/\(0:Int) < (v.len:Int) by omega)];rfl,λ h=>absurd h Bool.false_ne_true,λ h=>absurd h.zero b⟩
  · rw [show ((v.len : Int) != n.Nodes) = true from bne_iff_ne.2 a, dqA, dqA]
    exact⟨rfl,λ h=>absurd h Bool.false_ne_true,λ h=>absurd h.len a⟩
theorem zmB (t:Tie) (n:Net) (v:Sl Int) (ht:TieOk t n.Nodes) (hv:ValOk n v):p39 t v=true/\(s39 t v=true↔Keep t v):=by
 have h1:=hv.b t.To.toNat (by have:=ht.t0;have:=ht.t1;have:=hv.len;omega)
 have h2:=hv.b t.From.toNat (by have:=ht.f0;have:=ht.f1;have:=hv.len;omega)
 have:=ht.f0;have:=ht.f1;have:=ht.t0;have:=ht.t1;have:=hv.len
 constructor
 ·unfold p39
  rw[dqT (show 0≤t.To/\t.To < (v.len:Int) by omega),dqT (show 0≤t.From/\t.From < (v.len:Int) by omega)];rfl
 ·unfold s39 Keep
  rw[za6 (by omega) (by omega)]
  by_cases a:t.Low = -1000000000000
  ·rw [show (t.Low == (-1000000000000:Int)) = true from beq_iff_eq.2 a, dqA]
   by_cases b:t.High=1000000000000
   ·rw[show (t.High == (1000000000000:Int))=true from beq_iff_eq.2 b,dqA];exact⟨λ _=>⟨.inl a,.inl b⟩,λ _=>rfl⟩
   ·rw[show (t.High == (1000000000000:Int))=false from beq_eq_false_iff_ne.2 b,dqB,decide_eq_true_eq];exact⟨λ h=>⟨.inl a,.inr h⟩,λ h=>h.2.resolve_left b⟩
  ·rw [show (t.Low == (-1000000000000:Int)) = false from beq_eq_false_iff_ne.2 a, dqB]
   by_cases c:t.Low≤v.get t.To.toNat - v.get t.From.toNat
   ·rw [dqT (show v.get t.To.toNat - v.get t.From.toNat ≥ t.Low from c), dqA]
    by_cases b:t.High=1000000000000
    ·rw[show (t.High == (1000000000000:Int))=true from beq_iff_eq.2 b,dqA];exact⟨λ _=>⟨.inr c,.inl b⟩,λ _=>rfl⟩
    ·rw[show (t.High == (1000000000000:Int))=false from beq_eq_false_iff_ne.2 b,dqB,decide_eq_true_eq];exact⟨λ h=>⟨.inr c,.inr h⟩,λ h=>h.2.resolve_left b⟩
   ·rw [dqF (show ¬ v.get t.To.toNat - v.get t.From.toNat ≥ t.Low from c), dqB]
    exact⟨λ h=>absurd h Bool.false_ne_true,λ h=>absurd (h.1.resolve_left a) c⟩
theorem zCn (n:Net) (v:Sl Int) (hn:NetOk n) (hv:v.len≤9223372036854775807):p38 n v=true/\(s38 n v=true↔AgOk n v):=by
  obtain⟨h1,h2⟩:=zKz n hn.n1 v hv
  unfold p38 s38
  rw[h1]
  by_cases hV:s80 n v=true
  · have hV' := h2.1 hV
    have hlen:=hn.len
    have hl := zhj (good := fun i => s39 (n.Ties.get i) v) (fin := true) (n := n.Ties.len) (lpS := zjC n v) (lpP := zjD n v)
      (λ k i hi=>by
        show zjA n v (zjC n v k) (i:Int)=_
        generalize zjC n v k=S
        unfold zjA zts
        rw[dqT (show (i:Int) < (n.Ties.len:Int) by omega),dqA,dqN]
        cases s39 (n.Ties.get i) v <;> rfl)
      (λ k=>by
        show zjA n v (zjC n v k) (n.Ties.len:Int)=_
        unfold zjA
        rw[dqF (show ¬ (n.Ties.len:Int) < (n.Ties.len:Int) by omega),dqB])
      (λ k i hi=>by
        show zjB n v (zjD n v k) (i:Int)=_
        generalize zjD n v k=S
        unfold zjB ztt
        rw[dqT (show (i:Int) < (n.Ties.len:Int) by omega),dqA,dqN,dqT (show 0≤(i:Int)/\(i:Int) < (n.Ties.len:Int) by omega),Bool.true_and,dqT (zmB _ n v (hn.tie i hi) hV').1,Bool.true_and]
        cases s39 (n.Ties.get i) v <;> rfl)
      (λ k=>by
        show zjB n v (zjD n v k) (n.Ties.len:Int)=_
        unfold zjB
        rw[dqF (show ¬ (n.Ties.len:Int) < (n.Ties.len:Int) by omega),dqB])
      (by omega)
    rw[hV]
    unfold ztz zty ztx ztw ztv ztu
    refine⟨by rw[hl.1];rfl,Iff.trans (Iff.trans (by rfl) hl.2) ?_⟩
    exact⟨λ h=>⟨hV',λ i hi=>(zmB _ n v (hn.tie i hi) hV').2.1 (h.1 i hi)⟩,λ h=>⟨λ i hi=>(zmB _ n v (hn.tie i hi) hV').2.2 (h.keep i hi),rfl⟩⟩
  · have hV0 : s80 n v = false := Bool.eq_false_iff.2 hV
    rw[hV0]
    exact⟨rfl,λ h=>absurd h Bool.false_ne_true,λ h=>absurd (h2.2 h.val) hV⟩
theorem zKA (n:Net) (v:Sl Int) (hn:NetOk n) (hg:s67 n=true) (hv:v.len≤9223372036854775807):p48 n v=true/\(s48 n v=true↔AgOk n v):=by
  have hlen:=hn.len
  have h1:=hn.n1
  unfold p48 s48
  rw[hg,(zv3 n (by omega)).1]
  by_cases a:(v.len:Int)=n.Nodes
  · rw [show ((v.len : Int) != n.Nodes) = false by rw [a]; exact bne_self_eq_false _]
    by_cases b:v.get 0=0
    · rw [show (v.get 0 != (0:Int)) = false by rw [b]; rfl, dqT (show 0 ≤ (0:Int) ∧ (0:Int) < (v.len : Int) by omega)]
      have key:(∀ i,i < v.len->-1000000000000≤v.get i/\v.get i≤1000000000000)->zoO n v=true/\(zmk n v=true↔∀ i,i < n.Ties.len->Keep (n.Ties.get i) v):=λ hb=>by
        have hV:ValOk n v:=⟨a,b,hb⟩
        have hl := zhj (good := fun i => s39 (n.Ties.get i) v) (fin := true) (n := n.Ties.len) (lpS := zjG n v) (lpP := zjH n v)
          (λ k i hi=>by
            show zjE n v (zjG n v k) (i:Int)=_
            generalize zjG n v k=S
            unfold zjE s39
            rw[dqT (show (i:Int) < (n.Ties.len:Int) by omega),dqA,dqN]
            simp only[bne,dlt,dgt];cases (n.Ties.get i).Low == (-1000000000000:Int) <;> cases (n.Ties.get i).High == (1000000000000:Int) <;> cases decide (w64 (v.get (n.Ties.get i).To.toNat - v.get (n.Ties.get i).From.toNat) ≥ (n.Ties.get i).Low) <;> cases decide (w64 (v.get (n.Ties.get i).To.toNat - v.get (n.Ties.get i).From.toNat)≤(n.Ties.get i).High) <;> rfl)
          (λ k=>by
            show zjE n v (zjG n v k) (n.Ties.len:Int)=_
            unfold zjE
            rw[dqF (show ¬ (n.Ties.len:Int) < (n.Ties.len:Int) by omega),dqB])
          (λ k i hi=>by
            show zjF n v (zjH n v k) (i:Int)=_
            generalize zjH n v k=S
            unfold zjF s39
            rw[dqT (show (i:Int) < (n.Ties.len:Int) by omega),dqA,dqN,dqT (show 0≤(i:Int)/\(i:Int) < (n.Ties.len:Int) by omega),Bool.true_and,dqT (show 0≤(n.Ties.get i).To/\(n.Ties.get i).To < (v.len:Int) from ⟨(hn.tie i hi).t0,by rw[a];exact (hn.tie i hi).t1⟩),dqT (show 0≤(n.Ties.get i).From/\(n.Ties.get i).From < (v.len:Int) from ⟨(hn.tie i hi).f0,by rw[a];exact (hn.tie i hi).f1⟩),Bool.true_and,Bool.true_and]
            simp only[bne,dlt,dgt];cases (n.Ties.get i).Low == (-1000000000000:Int) <;> cases (n.Ties.get i).High == (1000000000000:Int) <;> cases decide (w64 (v.get (n.Ties.get i).To.toNat - v.get (n.Ties.get i).From.toNat) ≥ (n.Ties.get i).Low) <;> cases decide (w64 (v.get (n.Ties.get i).To.toNat - v.get (n.Ties.get i).From.toNat)≤(n.Ties.get i).High) <;> rfl)
          (λ k=>by
            show zjF n v (zjH n v k) (n.Ties.len:Int)=_
            unfold zjF
            rw[dqF (show ¬ (n.Ties.len:Int) < (n.Ties.len:Int) by omega),dqB])
          (by omega)
        exact⟨hl.1,hl.2.trans ⟨λ h i hi=>(zmB _ n v (hn.tie i hi) hV).2.1 (h.1 i hi),λ h=>⟨λ i hi=>(zmB _ n v (hn.tie i hi) hV).2.2 (h i hi),rfl⟩⟩⟩
      by_cases hb:∀ i,i < v.len->-1000000000000≤v.get i/\v.get i≤1000000000000
      · obtain ⟨k1, k2⟩ := key hb
        have hl := zhj (good := fun i => s81 (v.get i) (-1000000000000:Int) (1000000000000:Int)) (fin := zmk n v) (n := v.len) (lpS := ze2 n v) (lpP := ze3 n v)
          (λ k i hi=>by
            show ze0 n v (ze2 n v k) (i:Int)=_
            generalize ze2 n v k=S
            unfold ze0 zoP
            rw[dqT (show (i:Int) < (v.len:Int) by omega),dqA,dqN]
            cases s81 (v.get i) (-1000000000000:Int) (1000000000000:Int) <;> rfl)
          (λ k=>by
            show ze0 n v (ze2 n v k) (v.len:Int)=_
            unfold ze0
            rw[dqF (show ¬ (v.len:Int) < (v.len:Int) by omega),dqB])
          (λ k i hi=>by
            show ze1 n v (ze3 n v k) (i:Int)=_
            generalize ze3 n v k=S
            unfold ze1 zoQ
            rw[dqT (show (i:Int) < (v.len:Int) by omega),dqA,dqN,dqT (show 0≤(i:Int)/\(i:Int) < (v.len:Int) by omega),Bool.true_and]
            cases s81 (v.get i) (-1000000000000:Int) (1000000000000:Int) <;> rfl)
          (λ k=>by
            show ze1 n v (ze3 n v k) (v.len:Int)=_
            unfold ze1
            rw[dqF (show ¬ (v.len:Int) < (v.len:Int) by omega),dqB];exact k1)
          hv
        refine⟨by unfold zjJ zoU zoS;rw[hl.1];rfl,?_⟩
        unfold zjI zoT zoR
        refine Iff.trans (Iff.trans (by rfl) hl.2) ?_
        rw[k2]
        exact⟨λ h=>⟨⟨a,b,hb⟩,h.2⟩,λ h=>⟨λ i hi=>by rw[ziO];exact dqT (hb i hi),h.keep⟩⟩
      · have hb' : ¬ ∀ i, i < v.len → s81 (v.get i) (-1000000000000:Int) (1000000000000:Int) = true := fun h => hb fun i hi => by have := h i hi; rw [ziO] at this; exact of_decide_eq_true this
        have hl := zgN (good := fun i => s81 (v.get i) (-1000000000000:Int) (1000000000000:Int)) (bad := false) (fin := zmk n v) (finP := zoO n v) (n := v.len) (lpS := ze2 n v) (lpP := ze3 n v)
          (λ k i hi=>by
            show ze0 n v (ze2 n v k) (i:Int)=_
            generalize ze2 n v k=S
            unfold ze0 zoP
            rw[dqT (show (i:Int) < (v.len:Int) by omega),dqA,dqN]
            cases s81 (v.get i) (-1000000000000:Int) (1000000000000:Int) <;> rfl)
          (λ k=>by
            show ze0 n v (ze2 n v k) (v.len:Int)=_
            unfold ze0
            rw[dqF (show ¬ (v.len:Int) < (v.len:Int) by omega),dqB])
          (λ k i hi=>by
            show ze1 n v (ze3 n v k) (i:Int)=_
            generalize ze3 n v k=S
            unfold ze1 zoQ
            rw[dqT (show (i:Int) < (v.len:Int) by omega),dqA,dqN,dqT (show 0≤(i:Int)/\(i:Int) < (v.len:Int) by omega),Bool.true_and]
            cases s81 (v.get i) (-1000000000000:Int) (1000000000000:Int) <;> rfl)
          (λ k=>by
            show ze1 n v (ze3 n v k) (v.len:Int)=_
            unfold ze1
            rw[dqF (show ¬ (v.len:Int) < (v.len:Int) by omega),dqB])
          hv
        obtain⟨k1,k2⟩:=hl.2 hb'
        refine⟨by unfold zjJ zoU zoS;rw[k1];rfl,?_⟩
        unfold zjI zoT zoR
        rw[k2]
        exact⟨λ h=>absurd h Bool.false_ne_true,λ h=>absurd h.val.b hb⟩
    · rw [show (v.get 0 != (0:Int)) = true from bne_iff_ne.2 b, dqT (show 0 ≤ (0:Int) ∧ (0:Int) < (v.len : Int) by omega)]
      exact⟨rfl,λ h=>absurd h Bool.false_ne_true,λ h=>absurd h.val.zero b⟩
  · rw [show ((v.len : Int) != n.Nodes) = true from bne_iff_ne.2 a]
    exact⟨rfl,λ h=>absurd h Bool.false_ne_true,λ h=>absurd h.val.len a⟩
end Go.Proofs
namespace Go.Pm
structure Ed where
  u:Nat
  v:Nat
  w:Int
def wt : List Ed → Int
  | []=>0
  | e :: l=>e.w+wt l
theorem znt (c d:List Ed):wt (c ++ d)=wt c+wt d:=by
 induction c with
 | nil=>show wt d=0+wt d;omega
 | cons e l ih=>show e.w+wt (l ++ d)=e.w+wt l+wt d;omega
theorem zrj (e:Ed):wt [e]=e.w:=Int.add_zero _
def zhy (E : List Ed) : Nat → List Ed → Nat → Prop
  | a,[],b=>a=b
  | a,e :: l,b=>e∈E/\e.u=a/\zhy E e.v l b
theorem zhk {E:List Ed}{c d:List Ed}{a b:Nat} : zhy E a (c ++ d) b↔∃ m,zhy E a c m/\zhy E m d b:=by
 induction c generalizing a with
 | nil=>exact⟨λ h=>⟨a,rfl,h⟩,λ ⟨m,h1,h2⟩=>by cases h1;exact h2⟩
 | cons e l ih =>
  constructor
  ·rintro ⟨h1, h2, h3⟩
   obtain⟨m,k1,k2⟩:=ih.1 h3
   exact⟨m,⟨h1,h2,k1⟩,k2⟩
  ·rintro ⟨m, ⟨h1, h2, h3⟩, h4⟩
   exact⟨h1,h2,ih.2 ⟨m,h3,h4⟩⟩
theorem ziP {E:List Ed}{e:Ed}(h:e∈E):zhy E e.u [e] e.v:=⟨h,rfl,rfl⟩
def zce (E:List Ed):Prop:=∀ a c,zhy E a c a->0≤wt c
abbrev zdu:=Nat->Option Int
def zv4 (d:zdu) (v:Nat) (x:Int):zdu:=λ j=>if j=v then some x else d j
def ltO (x : Int) : Option Int → Bool
  | none=>true
  | some y=>decide (x < y)
def rlF (s:zdu×Bool) (e:Ed):zdu×Bool :=
 match s.1 e.u with
 | none=>s
 | some x=>cond (ltO (x+e.w) (s.1 e.v)) (zv4 s.1 e.v (x+e.w),true) s
def Sat (d:zdu) (e:Ed):Prop:=∀ x,d e.u=some x->∃ y,d e.v=some y/\y≤x+e.w
theorem zrk {x:Int}{o:Option Int}(h:ltO x o=false):∃ y,o=some y/\y≤x:=by
 cases o with
 | none=>cases h
 | some y=>exact⟨y,rfl,Int.not_lt.1 (of_decide_eq_false h)⟩
theorem zNx {x y:Int}(h:y≤x):ltO x (some y)=false:=dqF (Int.not_lt.2 h)
theorem zCo {d:zdu}{c:Bool}{e:Ed}(h:Sat d e):rlF (d,c) e=(d,c):=by
 unfold rlF
 cases hu:d e.u with
 | none=>simp only[hu]
 | some x =>
  obtain⟨y,h1,h2⟩:=h x hu
  simp only[hu,h1,zNx h2,dqB]
theorem zKB {d:zdu}{c:Bool}{e:Ed}(h : ¬ Sat d e):(rlF (d,c) e).2=true:=by
 unfold rlF
 cases hu:d e.u with
 | none=>exact absurd (λ x hx=>by rw[hu] at hx;cases hx) h
 | some x =>
  simp only[hu]
  cases hl:ltO (x+e.w) (d e.v)
  ·obtain ⟨y, h1, h2⟩ := zrk hl
   exact absurd (λ x' hx'=>⟨y,h1,by rw[hu] at hx';cases hx';exact h2⟩) h
  ·rfl
theorem zEQ {s:zdu×Bool}{e:Ed}(h:s.2=true):(rlF s e).2=true:=by
 unfold rlF
 cases s.1 e.u with
 | none=>exact h
 | some x=>simp only[];cases ltO (x+e.w) (s.1 e.v) <;> first | exact h | rfl
theorem zCp {E:List Ed}{s:zdu×Bool}(h:s.2=true):(E.foldl rlF s).2=true:=by
 induction E generalizing s with
 | nil=>exact h
 | cons e l ih=>exact ih (zEQ h)
theorem zk1 {E:List Ed}{d:zdu}{c:Bool}(h:∀ e∈E,Sat d e):E.foldl rlF (d,c)=(d,c):=by
 induction E with
 | nil=>rfl
 | cons e l ih =>
  show l.foldl rlF (rlF (d,c) e)=_
  rw[zCo (h e (List.mem_cons_self ..))]
  exact ih λ e he=>h e (List.mem_cons_of_mem _ he)
theorem zj9 {E:List Ed}{d:zdu}{c:Bool}(h:(E.foldl rlF (d,c)).2=false):∀ e∈E,Sat d e:=by
 induction E with
 | nil=>intro e he;cases he
 | cons e l ih =>
  have h':(l.foldl rlF (rlF (d,c) e)).2=false:=h
  have hs:Sat d e:=Classical.byContradiction λ hn=>by
   rw[zCp (zKB hn)] at h';cases h'
  rw[zCo hs] at h'
  intro e' he'
  rcases List.mem_cons.1 he' with rfl | hm
  ·exact hs
  ·exact ih h' e' hm
def leO (a b:Option Int):Prop:=∀ y,b=some y->∃ x,a=some x/\x≤y
theorem zhl (a:Option Int):leO a a:=λ y h=>⟨y,h,Int.le_refl _⟩
theorem zgO {a b c:Option Int}(h1:leO a b) (h2:leO b c):leO a c:=λ y h=>by
 obtain⟨x,hx,hxy⟩:=h2 y h
 obtain⟨z,hz,hzx⟩:=h1 x hx
 exact⟨z,hz,Int.le_trans hzx hxy⟩
theorem zCq (s:zdu×Bool) (e:Ed) (v:Nat):leO ((rlF s e).1 v) (s.1 v):=by
 unfold rlF
 cases hu:s.1 e.u with
 | none=>exact zhl _
 | some x =>
  simp only[]
  cases hl:ltO (x+e.w) (s.1 e.v)
  ·exact zhl _
  ·show leO (zv4 s.1 e.v (x + e.w) v) _
   unfold zv4
   by_cases hv:v=e.v
   ·rw [dqP hv]
    intro y hy
    refine⟨_,rfl,?_⟩
    rw[hv] at hy
    rw[hy] at hl
    exact Int.le_of_lt (of_decide_eq_true hl)
   ·rw[dqG hv];exact zhl _
theorem zCr (E:List Ed) (s:zdu×Bool) (v:Nat):leO ((E.foldl rlF s).1 v) (s.1 v):=by
 induction E generalizing s with
 | nil=>exact zhl _
 | cons e l ih=>exact zgO (ih (rlF s e)) (zCq s e v)
theorem zNy {s:zdu×Bool}{e:Ed}{x:Int}(h:s.1 e.u=some x):leO ((rlF s e).1 e.v) (some (x+e.w)):=by
 unfold rlF
 simp only[h]
 cases hl:ltO (x+e.w) (s.1 e.v)
 ·obtain ⟨y, h1, h2⟩ := zrk hl
  intro z hz;cases hz
  exact⟨y,h1,h2⟩
 ·intro z hz; cases hz
  exact⟨x+e.w,by show zv4 s.1 e.v (x+e.w) e.v=_;unfold zv4;rw[dqP rfl],Int.le_refl _⟩
theorem zER {E:List Ed}{s:zdu×Bool}{e:Ed}{x:Int}(he:e∈E) (h:s.1 e.u=some x):leO ((E.foldl rlF s).1 e.v) (some (x+e.w)):=by
 induction E generalizing s x with
 | nil=>cases he
 | cons f l ih =>
  rcases List.mem_cons.1 he with rfl | hm
  ·exact zgO (zCr l (rlF s e) e.v) (zNy h)
  ·obtain ⟨x', h1, h2⟩ := zCq s f e.u x h
   intro z hz;cases hz
   obtain⟨y,k1,k2⟩:=ih hm h1 _ rfl
   exact⟨y,k1,by omega⟩
def rnd (E:List Ed) (d:zdu):zdu:=(E.foldl rlF (d,false)).1
def rds (E : List Ed) : Nat → zdu → zdu
  | 0,d=>d
  | k+1,d=>rds E k (rnd E d)
theorem zv5 (E:List Ed) (k:Nat) (d:zdu) (v:Nat):leO (rds E k d v) (d v):=by
 induction k generalizing d with
 | zero=>exact zhl _
 | succ k ih=>exact zgO (ih (rnd E d)) (zCr E (d,false) v)
theorem zNz {E:List Ed}{c:List Ed} : ∀ {a b k:Nat}{d:zdu}{y:Int},zhy E a c b->d a=some y->c.length≤k->leO (rds E k d b) (some (y+wt c)):=by
 induction c with
 | nil =>
  intro a b k d y h hd _
  cases h
  intro z hz;cases hz
  obtain⟨x,h1,h2⟩:=zv5 E k d a y hd
  exact⟨x,h1,by show x≤y+0;omega⟩
 | cons e l ih =>
  intro a b k d y h hd hk
  obtain⟨k,rfl⟩:∃ k',k=k'+1:=⟨k - 1,by simp only[List.length_cons] at hk;omega⟩
  obtain⟨h1,h2,h3⟩:=h
  subst h2
  obtain⟨x,k1,k2⟩:=zER (s:=(d,false)) h1 hd _ rfl
  intro z hz;cases hz
  obtain⟨z,m1,m2⟩:=ih (k:=k) (d:=rnd E d) h3 k1 (by simp only[List.length_cons] at hk;omega) _ rfl
  exact⟨z,m1,by show z≤y+(e.w+wt l);omega⟩
def Fix (E:List Ed) (d:zdu):Prop:=∀ e∈E,Sat d e
theorem zmC {E:List Ed}{d:zdu}(h:Fix E d):rnd E d=d:=by unfold rnd;rw[zk1 h]
theorem zCs {E:List Ed}{d:zdu}(h:Fix E d) (k:Nat):rds E k d=d:=by
 induction k with
 | zero=>rfl
 | succ k ih=>show rds E k (rnd E d)=d;rw[zmC h,ih]
theorem zrl (n:Nat):∀ {l:List Nat},l.Nodup->(∀ x∈l,x < n)->l.length≤n:=by
 induction n with
 | zero =>
  intro l _ h
  cases l with
  | nil=>exact Nat.le_refl _
  | cons x l=>exact absurd (h x (List.mem_cons_self ..)) (Nat.not_lt_zero _)
 | succ n ih =>
  intro l hd h
  have h1:=ih (l:=l.filter (λ x=>x != n)) (hd.filter _) (λ x hx=>by
   obtain⟨hx1,hx2⟩:=List.mem_filter.1 hx
   have:=h x hx1
   have:x ≠ n:=by simpa using hx2
   omega)
  have h2:l.length≤(l.filter (λ x=>x != n)).length+1:=by
   clear h1 ih h
   induction l with
   | nil=>exact Nat.zero_le _
   | cons x l ihl =>
    rw[List.nodup_cons] at hd
    by_cases hx:x=n
    ·subst hx
     have:l.filter (λ y=>y != x)=l:=List.filter_eq_self.2 λ y hy=>by
      have:y ≠ x:=λ e=>hd.1 (e ▸ hy)
      simpa using this
     rw[List.filter_cons_of_neg (by simp),this]
     exact Nat.le_refl _
    ·rw [List.filter_cons_of_pos (by simpa using hx)]
     have:=ihl hd.2
     simp only[List.length_cons];omega
  omega
def nodes (a:Nat) (c:List Ed):List Nat:=a :: c.map Ed.v
theorem zrm (a:Nat) (c:List Ed):(nodes a c).length=c.length+1:=by simp[nodes]
theorem zES {E:List Ed}{c:List Ed} : ∀ {a b m:Nat},zhy E a c b->m∈nodes a c->∃ c1 c2,c=c1 ++ c2/\zhy E a c1 m/\zhy E m c2 b:=by
 induction c with
 | nil =>
  intro a b m h hm
  have:m=a:=by simpa [nodes] using hm
  subst this
  exact⟨[],[],rfl,rfl,h⟩
 | cons e l ih =>
  intro a b m h hm
  rcases List.mem_cons.1 hm with rfl | hm'
  ·exact⟨[],e :: l,rfl,rfl,h⟩
  ·obtain ⟨h1, h2, h3⟩ := h
   obtain⟨c1,c2,k1,k2,k3⟩:=ih h3 (m:=m) (by simpa [nodes] using hm')
   exact⟨e :: c1,c2,by rw[k1];rfl,⟨h1,h2,k2⟩,k3⟩
structure Att (E : List Ed) (Src : Nat → Prop) (d : zdu) (v : Nat) (x : Int) (a : Nat) (c : List Ed) : Prop where
  src:Src a
  ch:zhy E a c v
  wt:x=wt c
  nd:(nodes a c).Nodup
  pre:∀ c1 c2 m,c=c1 ++ c2->zhy E a c1 m->leO (d m) (some (Go.Pm.wt c1))
def Inv (E:List Ed) (Src:Nat->Prop) (d:zdu):Prop:=∀ v x,d v=some x->∃ a c,Att E Src d v x a c
theorem zNA {d d':zdu}{E:List Ed}{Src:Nat->Prop}{v:Nat}{x:Int}{a:Nat}{c:List Ed}(h:Att E Src d v x a c) (hd:∀ m,leO (d' m) (d m)):Att E Src d' v x a c :=
 ⟨h.src,h.ch,h.wt,h.nd,λ c1 c2 m h1 h2=>zgO (hd m) (h.pre c1 c2 m h1 h2)⟩
theorem zv6 {d:zdu}{E:List Ed}{Src:Nat->Prop}(hn:zce E){e:Ed}(he:e∈E){x:Int}{a:Nat}{c:List Ed}(h:Att E Src d e.u x a c) (hm:e.v∈nodes a c):leO (d e.v) (some (x+e.w)):=by
 obtain⟨c1,c2,k1,k2,k3⟩:=zES h.ch hm
 have hc:=hn e.v (c2 ++ [e]) (zhk.2 ⟨e.u,k3,ziP he⟩)
 rw[znt,zrj] at hc
 have hx:=h.wt
 rw[k1,znt] at hx
 obtain⟨y,m1,m2⟩:=h.pre c1 c2 e.v k1 k2 _ rfl
 intro z hz;cases hz
 exact⟨y,m1,by omega⟩
theorem zET {E:List Ed}{c:List Ed} : ∀ {a b b':Nat},zhy E a c b->zhy E a c b'->b=b':=by
 induction c with
 | nil=>intro a b b' h1 h2;cases h1;cases h2;rfl
 | cons e l ih=>rintro a b b' ⟨_,_,h1⟩ ⟨_,_,h2⟩;exact ih h1 h2
theorem zpL {c c1 c2:List Ed}{e:Ed}(h:c ++ [e]=c1 ++ c2):c1=c ++ [e]∨∃ c3,c=c1 ++ c3:=by
 rcases List.append_eq_append_iff.1 h with ⟨a',h1,h2⟩ | ⟨c',h1,_⟩
 ·cases a' with
  | nil=>exact .inr ⟨[],by rw[h1];simp⟩
  | cons f a'' =>
   have:a''=[]/\c2=[]:=by
    cases a'' with
    | nil=>simp at h2;exact⟨rfl,h2.2⟩
    | cons g b=>simp at h2
   obtain⟨rfl,rfl⟩:=this
   simp at h2
   exact .inl (by rw[h1,h2])
 ·exact .inr ⟨c',h1⟩
theorem zmD {E:List Ed}{Src:Nat->Prop}(hn:zce E){s:zdu×Bool}{e:Ed}(he:e∈E) (h:Inv E Src s.1):Inv E Src (rlF s e).1:=by
 intro v x hx
 have hle:=zCq s e
 unfold rlF at hx hle ⊢
 cases hu:s.1 e.u with
 | none =>
  simp only[hu] at hx ⊢
  obtain⟨a,c,hc⟩:=h v x hx
  exact⟨a,c,hc⟩
 | some y =>
  simp only[hu] at hx hle ⊢
  cases hl:ltO (y+e.w) (s.1 e.v) with
  | false =>
   simp only[hl,dqB] at hx ⊢
   exact h v x hx
  | true =>
   simp only[hl,dqA] at hx hle ⊢
   by_cases hv:v=e.v
   ·subst hv
    have hx':y+e.w=x:=by
     unfold zv4 at hx;rw[dqP rfl] at hx;exact Option.some.inj hx
    obtain⟨a,c,hc⟩:=h e.u y hu
    have hnot:e.v ∉ nodes a c:=λ hm=>by
     obtain⟨z,h1,h2⟩:=zv6 hn he hc hm _ rfl
     rw[h1] at hl
     have:=of_decide_eq_true hl
     omega
    refine⟨a,c ++ [e],hc.src,zhk.2 ⟨e.u,hc.ch,ziP he⟩,by rw[znt,zrj,← hc.wt];omega,?_,?_⟩
    ·show (a :: (c ++ [e]).map Ed.v).Nodup
     rw[List.map_append,← List.cons_append]
     refine List.nodup_append.2 ⟨hc.nd,by simp,λ p hp q hq=>?_⟩
     have:q=e.v:=by simpa using hq
     subst this
     exact λ e'=>hnot (e' ▸ hp)
    ·intro c1 c2 m h1 h2
     rcases zpL h1 with rfl | ⟨c3,h3⟩
     ·have : m = e.v := zET h2 (zhk.2 ⟨e.u, hc.ch, ziP he⟩)
      subst this
      intro z hz;cases hz
      refine⟨x,hx,?_⟩
      rw[znt,zrj,← hc.wt];omega
     ·exact zgO (hle m) (hc.pre c1 c3 m h3 h2)
   ·have hx':s.1 v=some x:=by
     unfold zv4 at hx;rw[dqG hv] at hx;exact hx
    obtain⟨a,c,hc⟩:=h v x hx'
    exact⟨a,c,zNA hc hle⟩
theorem zpM {E F:List Ed}{Src:Nat->Prop}(hn:zce E) (hF:∀ e∈F,e∈E){s:zdu×Bool}(h:Inv E Src s.1):Inv E Src (F.foldl rlF s).1:=by
 induction F generalizing s with
 | nil=>exact h
 | cons e l ih=>exact ih (λ e he=>hF e (List.mem_cons_of_mem _ he)) (zmD hn (hF e (List.mem_cons_self ..)) h)
theorem zCt {E:List Ed}{Src:Nat->Prop}(hn:zce E) (k:Nat){d:zdu}(h:Inv E Src d):Inv E Src (rds E k d):=by
 induction k generalizing d with
 | zero=>exact h
 | succ k ih=>exact ih (zpM hn (λ _ h=>h) (s:=(d,false)) h)
structure Start (Src : Nat → Prop) (d : zdu) : Prop where
  only:∀ v x,d v=Option.some x->Src v/\x=0
  src:∀ v,Src v->d v=Option.some 0
theorem ziQ {E:List Ed}{Src:Nat->Prop}{d:zdu}(h:Start Src d):Inv E Src d:=λ v x hx=>by
 obtain⟨h1,h2⟩:=h.only v x hx
 refine⟨v,[],h1,rfl,h2,by simp[nodes],λ c1 c2 m e hc=>?_⟩
 have:c1=[]:=by
  cases c1 with
  | nil=>rfl
  | cons _ _=>cases e
 subst this
 cases hc
 rw[hx,h2]
 exact zhl _
theorem zv7 {E:List Ed}{n:Nat}(hE:∀ e∈E,e.u < n/\e.v < n){c:List Ed} : ∀ {a b:Nat},a < n->zhy E a c b->∀ x∈nodes a c,x < n:=by
  induction c with
  | nil => intro a b ha _ x hx; have : x = a := by simpa [nodes] using hx
           omega
  | cons e l ih =>
    rintro a b ha ⟨h1,h2,h3⟩ x hx
    rcases List.mem_cons.1 hx with rfl | hm
    · exact ha
    · exact ih (hE e h1).2 h3 x (by simpa [nodes] using hm)
theorem zKC {E:List Ed}{n:Nat}{Src:Nat->Prop}(hE:∀ e∈E,e.u < n/\e.v < n) (hS:∀ a,Src a->a < n){d:zdu}{v:Nat}{x:Int}{a:Nat}{c:List Ed}(h:Att E Src d v x a c):c.length+1≤n:=by
 have:=zrl n h.nd (zv7 hE (hS a h.src) h.ch)
 rwa[zrm] at this
theorem zGh {E:List Ed}{n:Nat}{Src:Nat->Prop}(hn:zce E) (hE:∀ e∈E,e.u < n/\e.v < n) (hS:∀ a,Src a->a < n){d:zdu}(h0:Start Src d):Fix E (rds E (n - 1) d):=by
 intro e he x hx
 obtain⟨a,c,hc⟩:=zCt hn (n - 1) (ziQ (E:=E) h0) e.u x hx
 by_cases hm:e.v∈nodes a c
 ·exact zv6 hn he hc hm _ rfl
 ·have hlen:(c ++ [e]).length≤n - 1:=by
   have hnd:(nodes a (c ++ [e])).Nodup:=by
    show (a :: (c ++ [e]).map Ed.v).Nodup
    rw[List.map_append,← List.cons_append]
    refine List.nodup_append.2 ⟨hc.nd,by simp,λ p hp q hq=>?_⟩
    have:q=e.v:=by simpa using hq
    subst this
    exact λ e'=>hm (e' ▸ hp)
   have hch:zhy E a (c ++ [e]) e.v:=zhk.2 ⟨e.u,hc.ch,ziP he⟩
   have:=zrl n hnd (zv7 hE (hS a hc.src) hch)
   rw[zrm] at this
   omega
  have:=zNz (zhk.2 ⟨e.u,hc.ch,ziP he⟩) (h0.src a hc.src) hlen _ rfl
  rw[znt,zrj,← hc.wt] at this
  obtain⟨z,h1,h2⟩:=this
  exact⟨z,h1,by omega⟩
theorem zGi {E:List Ed}{f:Nat->Int}(h:∀ e∈E,f e.v≤f e.u+e.w){c:List Ed} : ∀ {a b:Nat},zhy E a c b->f b≤f a+wt c:=by
 induction c with
 | nil=>intro a b hc;cases hc;show f a≤f a+0;omega
 | cons e l ih =>
  rintro a b ⟨h1,h2,h3⟩
  subst h2
  have:=ih h3
  have:=h e h1
  show f b≤f e.u+(e.w+wt l);omega
theorem zrn {E:List Ed}{f:Nat->Int}(h:∀ e∈E,f e.v≤f e.u+e.w):zce E:=λ a c hc=>by
 have:=zGi h hc;omega
end Go.Pm
namespace Go.Pm
theorem zGj {E:List Ed}{f:Ed->Ed}(hu:∀ e,(f e).u=e.u) (hv:∀ e,(f e).v=e.v){c:List Ed} : ∀ {a b:Nat},zhy (E.map f) a c b->∃ c0,c=c0.map f/\zhy E a c0 b:=by
 induction c with
 | nil=>intro a b h;exact⟨[],rfl,h⟩
 | cons e l ih =>
  rintro a b ⟨h1,h2,h3⟩
  obtain⟨e0,k1,rfl⟩:=List.mem_map.1 h1
  obtain⟨c0,k2,k3⟩:=ih h3
  exact⟨e0 :: c0,by rw[k2];rfl,k1,by rw[← hu];exact h2,by rw[← hv];exact k3⟩
def edM (e:Ed):Ed:=⟨e.u,e.v,e.w * 1048576+1⟩
def edR (e:Ed):Ed:=⟨e.v,e.u,e.w⟩
theorem zQe (c:List Ed):wt (c.map edM)=wt c * 1048576+c.length:=by
 induction c with
 | nil=>rfl
 | cons e l ih =>
  show e.w * 1048576+1+wt (l.map edM)=(e.w+wt l) * 1048576+((l.length+1:Nat):Int)
  omega
theorem zQf (c:List Ed):wt (c.reverse.map edR)=wt c:=by
 induction c with
 | nil=>rfl
 | cons e l ih =>
  rw[List.reverse_cons,List.map_append,znt,ih]
  show wt l+wt [edR e]=e.w+wt l
  rw[zrj]
  show wt l+e.w=_
  omega
theorem zQg {E:List Ed}{c:List Ed} : ∀ {a b:Nat},zhy E a c b->zhy (E.map edR) b (c.reverse.map edR) a:=by
 induction c with
 | nil=>intro a b h;exact Eq.symm h
 | cons e l ih =>
  rintro a b ⟨h1,h2,h3⟩
  rw[List.reverse_cons,List.map_append]
  exact zhk.2 ⟨e.v,ih h3,List.mem_map_of_mem h1,rfl,h2⟩
theorem zNB (E:List Ed):(E.map edR).map edR=E:=by
 rw[List.map_map]
 exact (List.map_congr_left λ e _=>rfl).trans (List.map_id E)
theorem zNC {E:List Ed}{c:List Ed}{a b:Nat}(h:zhy (E.map edR) a c b):∃ c0,zhy E b c0 a/\wt c0=wt c/\c0.length=c.length:=by
 have:=zQg h
 rw[zNB] at this
 exact⟨_,this,zQf c,by simp⟩
theorem zpN {E:List Ed}(h:zce E):zce (E.map edR):=λ a c hc=>by
 obtain⟨c0,h1,h2,_⟩:=zNC hc
 rw[← h2];exact h a c0 h1
theorem zgP {E:List Ed}(h:zce E):zce (E.map edM):=λ a c hc=>by
 obtain⟨c0,rfl,h1⟩:=zGj (f:=edM) (λ _=>rfl) (λ _=>rfl) hc
 rw[zQe]
 have:=h a c0 h1
 omega
def zN4 : Option Int → Int × Int
  | none=>((1000000000000:Int),(0:Int))
  | some x=>(x / 1048576,x % 1048576)
theorem zuf {L U:Int}(h0:0≤U) (h1:U < 1048576):zN4 (some (L * 1048576+U))=(L,U):=by
 show ((L * 1048576+U) / 1048576,(L * 1048576+U) % 1048576)=(L,U)
 rw[show (L * 1048576+U) / 1048576=L by omega,show (L * 1048576+U) % 1048576=U by omega]
def zCu (s:Nat):zdu:=λ v=>if v=s then some 0 else none
theorem zhm (s:Nat):Start (λ v=>v=s) (zCu s) :=
 ⟨λ v x h=>(by
  unfold zCu at h
  by_cases hv:v=s
  ·rw[dqP hv] at h;cases h;exact⟨hv,rfl⟩
  ·rw[dqG hv] at h;cases h),λ v h=>dqP h⟩
structure EdOk (E : List Ed) (n : Nat) : Prop where
  lt:∀ e∈E,e.u < n/\e.v < n
  w:∀ e∈E,-1000000000≤e.w/\e.w≤1000000000
  n1:1≤n
  n40:n≤40
theorem EdOk.R {E:List Ed}{n:Nat}(h:EdOk E n):EdOk (E.map edR) n :=
  ⟨λ e he=>(by obtain⟨f,h1,rfl⟩:=List.mem_map.1 he;exact⟨(h.lt f h1).2,(h.lt f h1).1⟩),
   λ e he=>(by obtain⟨f,h1,rfl⟩:=List.mem_map.1 he;exact h.w f h1),h.n1,h.n40⟩
theorem EdOk.ltM {E:List Ed}{n:Nat}(h:EdOk E n):∀ e∈E.map edM,e.u < n/\e.v < n :=
 λ e he=>by obtain⟨f,h1,rfl⟩:=List.mem_map.1 he;exact h.lt f h1
theorem zv8 {E:List Ed}{n:Nat}(h:EdOk E n){c:List Ed} : ∀ {a b:Nat},zhy E a c b->-1000000000 * (c.length:Int)≤wt c/\wt c≤1000000000 * (c.length:Int):=by
 induction c with
 | nil=>intro a b _;exact⟨(by show _≤(0:Int);simp),(by show (0:Int)≤_;simp)⟩
 | cons e l ih =>
  rintro a b ⟨h1,_,h3⟩
  have:=ih h3
  have:=h.w e h1
  show _≤e.w+wt l/\e.w+wt l≤_
  simp only[List.length_cons]
  omega
structure Ent (E : List Ed) (n s v : Nat) (x L U : Int) (c : List Ed) : Prop where
  ch:zhy E s c v
  x:x=L * 1048576+U
  L:L=wt c
  U:U=c.length
  len:c.length < n
theorem zGk {E:List Ed}{n:Nat}(hE:EdOk E n){s:Nat}(hs:s < n){d:zdu}(hd:Inv (E.map edM) (λ v=>v=s) d){v:Nat}{x:Int}(hx:d v=some x):∃ c,Ent E n s v x (wt c) c.length c:=by
 obtain⟨a,c,hc⟩:=hd v x hx
 have hl:=zKC hE.ltM (λ a ha=>Nat.lt_of_le_of_lt (Nat.le_of_eq ha) hs) hc
 obtain⟨c0,rfl,h1⟩:=zGj (f:=edM) (λ _=>rfl) (λ _=>rfl) hc.ch
 obtain rfl:a=s:=hc.src
 exact⟨c0,h1,by rw[hc.wt,zQe],rfl,rfl,by rw[List.length_map] at hl;omega⟩
def dst (E:List Ed) (n s:Nat):zdu:=rds (E.map edM) (n - 1) (zCu s)
theorem zKD {E:List Ed}{n s:Nat}(hn:zce E):Inv (E.map edM) (λ v=>v=s) (dst E n s):=zCt (zgP hn) _ (ziQ (zhm s))
theorem zug {E:List Ed}{n s:Nat}(hE:EdOk E n) (hn:zce E) (hs:s < n):Fix (E.map edM) (dst E n s):=zGh (zgP hn) hE.ltM (λ a ha=>Nat.lt_of_le_of_lt (Nat.le_of_eq ha) hs) (zhm s)
theorem dst_at {E:List Ed}{n s v:Nat}(hE:EdOk E n) (hn:zce E) (hs:s < n){x:Int}(hx:dst E n s v=some x):∃ c,Ent E n s v x (wt c) c.length c:=zGk hE hs (zKD hn) hx
theorem zEU {E:List Ed}{n s:Nat} : ∃ x,dst E n s s=some x:=by
 obtain⟨x,h,_⟩:=zv5 (E.map edM) (n - 1) (zCu s) s 0 (dqP rfl)
 exact⟨x,h⟩
theorem zCv {E:List Ed}{n s:Nat}(hE:EdOk E n) (hn:zce E) (hs:s < n){c:List Ed} : ∀ {a v:Nat}{x:Int},dst E n s a=some x->zhy E a c v->∃ y,dst E n s v=some y/\y / 1048576≤x / 1048576+wt c:=by
 induction c with
 | nil=>intro a v x hx h;cases h;exact⟨x,hx,by show _≤_+(0:Int);omega⟩
 | cons e l ih =>
  rintro a v x hx ⟨h1,h2,h3⟩
  subst h2
  obtain⟨y,k1,k2⟩:=zug hE hn hs (edM e) (List.mem_map_of_mem h1) x hx
  obtain⟨z,m1,m2⟩:=ih (a:=e.v) k1 h3
  obtain⟨c1,hc1⟩:=dst_at hE hn hs hx
  obtain⟨c2,hc2⟩:=dst_at hE hn hs (show dst E n s e.v=some y from k1)
  refine⟨z,m1,?_⟩
  have k2':y≤x+(e.w * 1048576+1):=k2
  have:=hE.n40
  have:=hc1.len
  have:=hc1.x
  have:=hc2.len
  have:=hc2.x
  show _≤_+(e.w+wt l)
  omega
theorem zKE {E:List Ed}{n s v:Nat}(hE:EdOk E n) (hn:zce E) (hs:s < n){c:List Ed}(hc:zhy E s c v):∃ x,dst E n s v=some x/\x / 1048576≤wt c:=by
 obtain⟨x0,h1⟩:=zEU (E:=E) (n:=n) (s:=s)
 obtain⟨y,k1,k2⟩:=zCv hE hn hs h1 hc
 have h3:x0≤0:=by
  obtain⟨x',h1',h2'⟩:=zv5 (E.map edM) (n - 1) (zCu s) s 0 (dqP rfl)
  have:x'=x0:=Option.some.inj (h1'.symm.trans h1)
  omega
 exact⟨y,k1,by omega⟩
def zGl (o:Option Int):Int:=(zN4 o).1
theorem zCw {E:List Ed}{n s v:Nat}(hE:EdOk E n) (hn:zce E) (hs:s < n){x:Int}(hx:dst E n s v=some x):∃ c,zhy E s c v/\zGl (dst E n s v)=wt c/\c.length < n:=by
 obtain⟨c,hc⟩:=dst_at hE hn hs hx
 refine⟨c,hc.ch,?_,hc.len⟩
 rw[hx]
 show x / 1048576=_
 have:=hc.x;have:=hc.len;have:=hE.n40
 omega
theorem zuh {E:List Ed}{n s v:Nat}(hE:EdOk E n) (hn:zce E) (hs:s < n){c:List Ed}(hc:zhy E s c v):zGl (dst E n s v)≤wt c:=by
 obtain⟨x,h1,h2⟩:=zKE hE hn hs hc
 rw[h1];exact h2
theorem zdv {E:List Ed}{n s v:Nat}(hE:EdOk E n) (hn:zce E) (hs:s < n):(dst E n s v=none/\zGl (dst E n s v)=1000000000000)∨∃ c,dst E n s v ≠ none/\zhy E s c v/\zGl (dst E n s v)=wt c/\c.length < n/\-40000000000≤wt c/\wt c≤40000000000:=by
 cases h:dst E n s v with
 | none=>exact .inl ⟨rfl,rfl⟩
 | some x =>
  obtain⟨c,h1,h2,h3⟩:=zCw hE hn hs h
  have:=zv8 hE h1
  have:=hE.n40
  rw[h] at h2
  exact .inr ⟨c,(by intro h;cases h),h1,h2,h3,by omega,by omega⟩
theorem zEV {E:List Ed}{n s v:Nat}(hE:EdOk E n) (hn:zce E) (hs:s < n){f:Nat->Int}(hf:∀ e∈E,f e.v≤f e.u+e.w) (hd:dst E n s v ≠ none):f v≤f s+zGl (dst E n s v):=by
 rcases zdv (v:=v) hE hn hs with ⟨h,_⟩ | ⟨c,_,h1,h2,_⟩
 ·exact absurd h hd
 ·rw[h2];exact zGi hf h1
end Go.Pm
namespace Go.Pm
def zpO (E : List Ed) : Nat → zdu → Bool
  | 0,_=>true
  | k+1,d=>cond (E.foldl rlF (d,false)).2 (zpO E k (rnd E d)) false
theorem zui {E:List Ed}{k:Nat} : ∀ {m:Nat}{d:zdu},Fix E (rds E k d)->k < m->zpO E m d=false:=by
 induction k with
 | zero =>
  intro m d h hm
  obtain⟨m,rfl⟩:∃ m',m=m'+1:=⟨m - 1,by omega⟩
  show cond (E.foldl rlF (d,false)).2 _ _=false
  rw[zk1 (show ∀ e∈E,Sat d e from h)];rfl
 | succ k ih =>
  intro m d h hm
  obtain⟨m,rfl⟩:∃ m',m=m'+1:=⟨m - 1,by omega⟩
  show cond (E.foldl rlF (d,false)).2 (zpO E m (rnd E d)) false=false
  rw[ih (m:=m) (d:=rnd E d) h (by omega)]
  cases (E.foldl rlF (d,false)).2 <;> rfl
theorem zEW {E:List Ed}{m:Nat} : ∀ {d:zdu},zpO E m d=false->∃ k,Fix E (rds E k d):=by
 induction m with
 | zero=>intro d h;cases h
 | succ m ih =>
  intro d h
  have h':cond (E.foldl rlF (d,false)).2 (zpO E m (rnd E d)) false=false:=h
  cases hc:(E.foldl rlF (d,false)).2
  ·exact⟨0,zj9 hc⟩
  ·rw [hc] at h'
   obtain⟨k,hk⟩:=ih h'
   exact⟨k+1,hk⟩
def zCQ (n:Nat):zdu:=λ v=>if v < n then some 0 else none
theorem zwU (n:Nat):Start (λ v=>v < n) (zCQ n) :=
 ⟨λ v x h=>(by
  unfold zCQ at h
  by_cases hv:v < n
  ·rw[dqP hv] at h;cases h;exact⟨hv,rfl⟩
  ·rw[dqG hv] at h;cases h),λ v h=>dqP h⟩
theorem zEX {E:List Ed}{n:Nat}(hE:EdOk E n):zpO E n (zCQ n)=false↔zce E:=by
 constructor
 ·intro h
  obtain⟨k,hk⟩:=zEW h
  have hsome:∀ v,v < n->∃ x,rds E k (zCQ n) v=some x:=λ v hv=>by
   obtain⟨x,hx,_⟩:=zv5 E k (zCQ n) v 0 (dqP hv)
   exact⟨x,hx⟩
  refine zrn (f:=λ v=>(rds E k (zCQ n) v).getD 0) λ e he=>?_
  obtain⟨x,hx⟩:=hsome e.u (hE.lt e he).1
  obtain⟨y,hy,hxy⟩:=hk e he x hx
  show (rds E k (zCQ n) e.v).getD 0≤(rds E k (zCQ n) e.u).getD 0+e.w
  rw[hx,hy];exact hxy
 ·intro h
  have:=hE.n1
  exact zui (zGh h hE.lt (λ a ha=>ha) (zwU n)) (by omega)
end Go.Pm
