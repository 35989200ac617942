/- Part 6 of what the proof rests on: a machine that runs functions of the program on pure values, proved sound; the functions that the law reaches, and what they compute. -/
import Derived.Test.YtedhjaaikeakoaaDoorQ5
import Derived.Test.YtedhjaaikeakoaaDoorTie
import Derived.ProofKit
import Derived.LaidMore
import Derived.OpenShut
import Derived.Stop.Joined
import Derived.Test.YtedhjaaikeakoaaDoorCards
import Derived.WalkKit
set_option linter.all false
namespace Go.Proofs
open Go Go.Pm
set_option maxRecDepth 100000
set_option linter.unusedVariables false
attribute [local irreducible] Go.Pm.vcFun Go.Pm.vc Go.Pm.vcIter
abbrev T26:Tabs:=(((Tabs.nil.addF 74 zwj).addF 75 zwo).addF 76 zwu)
theorem zJN:TabsOk Tryd.prog T26:=(((TabsOk.nil.addF zJI).addF zJK).addF zJM)
abbrev G26:Ctrs:=csm T26 (λ _ _=>[]) (λ _=>false)
def zDY:Ann:=⟨45,[(0,zK [1] [1]),(1,zK [1,4,5] [1]),(2,zK [1,4,5,16] [1]),(3,zK [2,3] []),(4,zK [1,6,7] [1,6,7]),(5,zK [6,7,8] [6,7,24]),(6,zK [6,7,8,26,27] [6,7,24]),(7,zK [6,7,8,26,27,28] [6,7,24]),(8,zK [6,7,8,9,26,27] [6,7,24]),(9,zK [6,7,8,26,27] [6,7,24]),(10,zK [6,7,8,26,27] [6,7,24]),(11,zK [2,3] [24])],
 [(7,zK [6,7,8,26,27] [6,7,24])],
 [],
 [],[]⟩
abbrev R26:=((Sl Span)×Int)
abbrev e26 (r:R26):List PA:=[.one (.sl r.1.len 2 (λ i=>zbw (r.1.get i))),.one (.int .i64 r.2)]
@[irreducible] def z26:=ptF Tryd.prog G26 zDY Tryd.f26
def zBs (n:Net) (zb9:Int) (zcR:(Sl Span)) (tot0:Tab) (fromt0:Tab) (zfH:Nat->List PV):St:=⟨[(6,zp 6 0),(7,zp 7 0),(8,zv 24),(26,zI (n.Nodes.toNat:Int)),(27,zI zb9)],[(6,.box 116 (zm (zak tot0))),(7,.box 116 (zm (zak fromt0))),(24,.vec 43 2 16 zcR.len zfH)],[]⟩
abbrev zHi (K:List PA->Prop) (n:Net) (X:St->Prop) (P:Int->(Sl Span)->Tab->Tab->Bool) (S:Int->(Sl Span)->Tab->Tab->((Sl Span)×Int)):Prop:=∀ ⦃zb9:Int⦄ ⦃zcR:(Sl Span)⦄ ⦃tot0:Tab⦄ ⦃fromt0:Tab⦄ ⦃zfH:Nat->List PV⦄,P zb9 zcR tot0 fromt0=true->K (e26 (S zb9 zcR tot0 fromt0))->zfH=zg zbw zcR->X (zBs n zb9 zcR tot0 fromt0 zfH)
section
variable {K:List PA->Prop}{n:Net}{zb9:Int}{zcR:(Sl Span)}{tot0:Tab}{fromt0:Tab}{zfH:Nat->List PV}{X0:St->Prop}{P0:Int->(Sl Span)->Tab->Tab->Bool}{S0:Int->(Sl Span)->Tab->Tab->((Sl Span)×Int)}
def zil (n:Net) (S0:Int->(Sl Span)->Tab->Tab->((Sl Span)×Int)) (zb9:Int) (zcR:(Sl Span)) (tot0:Tab) (fromt0:Tab):((Sl Span)×Int) :=
  (cond (decide (zb9 < (n.Nodes.toNat : Int)))
 (S0 (w64 (zb9+(1:Int))) (⟨zcR.len,(setT zb9.toNat (⟨(w64 (0 - (tg 80 tot0 (0+zb9.toNat * 2+0)))),(tg 80 fromt0 (0+zb9.toNat * 2+0))⟩:Span) zcR.get)⟩:Sl Span) tot0 fromt0)
 (zcR,(0:Int)))
def zim (n:Net) (P0:Int->(Sl Span)->Tab->Tab->Bool) (zb9:Int) (zcR:(Sl Span)) (tot0:Tab) (fromt0:Tab):Bool :=
  (cond (decide (zb9 < (n.Nodes.toNat : Int)))
 (decide ((0<=zb9/\zb9 < (40:Int))) &&
 (decide ((0<=zb9/\zb9 < (40:Int))) &&
 (decide ((0<=zb9/\zb9 < (zcR.len:Int))) &&
 (decide ((zb9.toNat < zcR.len)) &&
 (P0 (w64 (zb9+(1:Int))) (⟨zcR.len,(setT zb9.toNat (⟨(w64 (0 - (tg 80 tot0 (0+zb9.toNat * 2+0)))),(tg 80 fromt0 (0+zb9.toNat * 2+0))⟩:Span) zcR.get)⟩:Sl Span) tot0 fromt0)))))
 true)
def zgH (n:Net):Nat->Int->(Sl Span)->Tab->Tab->((Sl Span)×Int):=lpO (λ _ _ _ _=>default) (zil n)
def zgI (n:Net):Nat->Int->(Sl Span)->Tab->Tab->Bool:=lpO (λ _ _ _ _=>false) (zim n)
def zwv (n:Net) (zb9:Int) (zcR:(Sl Span)) (tot0:Tab) (fromt0:Tab):((Sl Span)×Int):=zgH n Fuel zb9 zcR tot0 fromt0
def zqw (n:Net) (zb9:Int) (zcR:(Sl Span)) (tot0:Tab) (fromt0:Tab):Bool:=zgI n Fuel zb9 zcR tot0 fromt0
theorem zDZ (hs:zqw n zb9 zcR tot0 fromt0=true) (hk:K (e26 (zwv n zb9 zcR tot0 fromt0))) (zqx:zfH=zg zbw zcR):z26 (Wk K) [1,1,1,1,1,0,1,0] [] (zBs n zb9 zcR tot0 fromt0 zfH) :=
  zl (λ X=>z26 (Wk K) [1,1,1,1,1,0,1,0,0] [X]) (by kernel_rfl) λ X0 hX =>
  (show ∀ k, zHi K n X0 (zgI n k) (zgH n k) from zfc _ _ (zim n) (zil n) (zHi K n X0)
 (by intro _ _ _ _ _ hs;exact absurd hs dqk)
 (by intro P0 S0 hX0 zb9 zcR tot0 fromt0 zfH hs hk zqx;subst zqx;exact hX _ (za4 (by kernel_rfl) (zc hs hk (λ hs hk=>(zaR hs λ hc hs=>And.intro hc (zaR hs λ hc hs=>And.intro hc (zaR hs λ hc hs=>And.intro hc (zaR hs λ hc hs=>And.intro hc (hX0 hs hk (ziJ (enc:=zbw) (i:=zb9.toNat) (k:=0) (f:=zcR.get) (new:=(zbw (⟨(w64 (0 - (tg 80 tot0 (0+zb9.toNat * 2+0)))),(tg 80 fromt0 (0+zb9.toNat * 2+0))⟩:Span))) (v:=(⟨(w64 (0 - (tg 80 tot0 (0+zb9.toNat * 2+0)))),(tg 80 fromt0 (0+zb9.toNat * 2+0))⟩:Span)) rfl rfl))))))) (λ hs hk=>((zgm hk):Wk K [.one (.sl zcR.len 2 (λ i=>zbw (zcR.get i))),.one (.int .i64 (0:Int))])))))) _ hs hk zqx
def s26 (n:Net):((Sl Span)×Int) :=
  (cond ((s74 n (⟨0, λ _ => default⟩ : (Sl Int))).2 == 0)
 (cond ((0:Int) != (0:Int))
 ((⟨0,λ _=>default⟩:(Sl Span)),(0:Int))
 (zwv n (0:Int) (⟨n.Nodes.toNat,(λ _=>(⟨(0:Int),(0:Int)⟩:Span))⟩:Sl Span) (s75 (⟨(s74 n (⟨0,λ _=>default⟩:(Sl Int))).1.Net,((s74 n (⟨0,λ _=>default⟩:(Sl Int))).1.out)⟩:web) (0:Int)) (s76 (⟨(s74 n (⟨0,λ _=>default⟩:(Sl Int))).1.Net,((s74 n (⟨0,λ _=>default⟩:(Sl Int))).1.out)⟩:web) (0:Int))))
 (cond ((s74 n (⟨0, λ _ => default⟩ : (Sl Int))).2 != (0:Int))
 ((⟨0,λ _=>default⟩:(Sl Span)),(s74 n (⟨0,λ _=>default⟩:(Sl Int))).2)
 default))
def p26 (n:Net):Bool :=
  (cond ((s74 n (⟨0, λ _ => default⟩ : (Sl Int))).2 == 0)
 (decide ((p74 n (⟨0,λ _=>default⟩:(Sl Int))=true)) &&
 (cond ((0:Int) != (0:Int))
 true
 (decide ((p75 (⟨(s74 n (⟨0,λ _=>default⟩:(Sl Int))).1.Net,((s74 n (⟨0,λ _=>default⟩:(Sl Int))).1.out)⟩:web) (0:Int)=true)) &&
 (decide ((p76 (⟨(s74 n (⟨0,λ _=>default⟩:(Sl Int))).1.Net,((s74 n (⟨0,λ _=>default⟩:(Sl Int))).1.out)⟩:web) (0:Int)=true)) &&
 (decide ((0<=n.Nodes/\n.Nodes=n.Nodes/\n.Nodes<=1000000)) &&
 (zqw n (0:Int) (⟨n.Nodes.toNat,(λ _=>(⟨(0:Int),(0:Int)⟩:Span))⟩:Sl Span) (s75 (⟨(s74 n (⟨0,λ _=>default⟩:(Sl Int))).1.Net,((s74 n (⟨0,λ _=>default⟩:(Sl Int))).1.out)⟩:web) (0:Int)) (s76 (⟨(s74 n (⟨0,λ _=>default⟩:(Sl Int))).1.Net,((s74 n (⟨0,λ _=>default⟩:(Sl Int))).1.out)⟩:web) (0:Int))))))))
 (decide ((p74 n (⟨0,λ _=>default⟩:(Sl Int))=true)) &&
 (cond ((s74 n (⟨0, λ _ => default⟩ : (Sl Int))).2 != (0:Int))
 true
 false)))
end
theorem q26 (n:Net) (K:List PA->Prop) (hs:p26 n=true) (hk:K (e26 (s26 n))):vcFun Tryd.prog G26 zDY 26 [.agg (enc_24 n)] (Wk K) :=
  za4 (by kernel_rfl) (zc hs hk (λ hs hk=>(zaR hs λ hc hs=>And.intro (And.intro (zE enc_40 4 n.Ties.get) hc) (zc hs hk (λ hs hk=>((wk hk (zgM (.one (.nil _ _)) (zgM (.one (.rfl _)) znq))):Wk K [.one (.nils),.one (.int .i64 (0:Int))])) (λ hs hk=>(zaR hs λ hc hs=>And.intro (And.intro (zE enc_40 4 ((s74 n (⟨0,λ _=>default⟩:(Sl Int))).1.Net.Ties.get)) (And.intro (rfl:((false,1,false,[none]):MQ)=(false,1,false,[none])) hc)) (zaR hs λ hc hs=>And.intro (And.intro (zE enc_40 4 ((s74 n (⟨0,λ _=>default⟩:(Sl Int))).1.Net.Ties.get)) (And.intro (rfl:((false,1,false,[none]):MQ)=(false,1,false,[none])) hc)) (zaR hs λ hc hs=>And.intro hc (zDZ hs hk rfl)))))))) (λ hs hk=>(zaR hs λ hc hs=>And.intro (And.intro (zE enc_40 4 n.Ties.get) hc) (zc hs hk (λ hs hk=>((wk hk (zgM (.one (.nil _ _)) (zgM (.one (.rfl _)) znq))):Wk K [.one (.nils),.one (.int .i64 ((s74 n (⟨0,λ _=>default⟩:(Sl Int))).2))])) (λ hs hk=>(absurd hs dqk:False))))))
def zAh : List PA → COut
  | [.agg [.int .i64 zal,.sl zai zaH zah]]=>.det (IsE enc_40 4 zaH zah/\p26 (⟨zal,(⟨zai,zam zah⟩:(Sl Tie))⟩:Net)=true) [.one (.sl (((s26 (⟨zal,(⟨zai,zam zah⟩:(Sl Tie))⟩:Net)).1).len) 2 (λ i=>zbw (((s26 (⟨zal,(⟨zai,zam zah⟩:(Sl Tie))⟩:Net)).1).get i))),.one (.int .i64 ((s26 (⟨zal,(⟨zai,zam zah⟩:(Sl Tie))⟩:Net)).2))]
  | _=>.no
theorem zHj:zas Tryd.prog 26:=⟨_,rfl,rfl,by kernel_rfl⟩
theorem zKS:Ok Tryd.prog 26 zAh:=zhB zJN zHj λ args K h=>by
  unfold zAh at h
  split at h
  · rename_i zal zai zaH zah
    obtain⟨⟨⟨rfl,zax,rfl⟩,hs⟩,hk⟩:=h
    try rw[zan zax] at hs
    try rw[zan zax] at hk
    exact⟨_,zfo zgl _,(λ _ _=>[]),(λ _=>false),zDY,q26 (⟨zal,(⟨zai,zax⟩:(Sl Tie))⟩:Net) K hs hk⟩
  · exact h.elim
abbrev T25:Tabs:=Tabs.nil
theorem zJO:TabsOk Tryd.prog T25:=TabsOk.nil
abbrev G25:Ctrs:=csm T25 (λ _ _=>[]) (λ _=>false)
def zD0:Ann:=⟨26,[(0,zK [0,1] []),(1,zK [0,1,10] []),(2,zK [4] []),(3,zK [0,1,5] []),(4,zK [0,1,5,14] []),(5,zK [0,1,5] []),(6,zK [0,1,5,25] []),(7,zK [4] []),(8,zK [4] [])],
 [(4,zK [0,1,5] [])],
 [(3,zK [0,1] [])],
 [],[]⟩
abbrev R25:=Bool
abbrev e25 (r:R25):List PA:=[.one (.bool r)]
@[irreducible] def z25:=ptF Tryd.prog G25 zD0 Tryd.f25
def zBt (a:(Sl Int)) (b:(Sl Int)) (iv1:Int):St:=⟨[(0,zS zab 1 a),(1,zS zab 1 b),(5,zI iv1)],[],[]⟩
abbrev zHk (K:List PA->Prop) (a:(Sl Int)) (b:(Sl Int)) (X:St->Prop) (P:Int->Bool) (S:Int->Bool):Prop:=∀ ⦃iv1:Int⦄,P iv1=true->K (e25 (S iv1))->X (zBt a b iv1)
section
variable {K:List PA->Prop}{a:(Sl Int)}{b:(Sl Int)}{iv1:Int}{X1:St->Prop}{P1:Int->Bool}{S1:Int->Bool}
def zww (a:(Sl Int)) (b:(Sl Int)) (S1:Int->Bool) (iv1:Int):Bool :=
  (cond (decide (iv1 < (a.len : Int)))
 (cond ((a.get iv1.toNat) != (b.get iv1.toNat))
 false
 (S1 (w64 (iv1+(1:Int)))))
 true)
def zwx (a:(Sl Int)) (b:(Sl Int)) (P1:Int->Bool) (iv1:Int):Bool :=
  (cond (decide (iv1 < (a.len : Int)))
 (decide ((0<=iv1/\iv1 < (a.len:Int))) &&
 (decide ((0<=iv1/\iv1 < (b.len:Int))) &&
 (cond ((a.get iv1.toNat) != (b.get iv1.toNat))
 true
 (P1 (w64 (iv1+(1:Int)))))))
 true)
def zwy (a:(Sl Int)) (b:(Sl Int)):Nat->Int->Bool:=lpO (λ _=>default) (zww a b)
def zwz (a:(Sl Int)) (b:(Sl Int)):Nat->Int->Bool:=lpO (λ _=>false) (zwx a b)
def zwA (a:(Sl Int)) (b:(Sl Int)) (iv1:Int):Bool:=zwy a b Fuel iv1
def zwB (a:(Sl Int)) (b:(Sl Int)) (iv1:Int):Bool:=zwz a b Fuel iv1
theorem zD1 (hs:zwB a b iv1=true) (hk:K (e25 (zwA a b iv1))):z25 K [1,1,0,1,0] [] (zBt a b iv1) :=
  zl (λ X=>z25 K [1,1,0,1,0,0] [X]) (by kernel_rfl) λ X1 hX =>
  (show ∀ k, zHk K a b X1 (zwz a b k) (zwy a b k) from zfc _ _ (zwx a b) (zww a b) (zHk K a b X1)
 (by intro _ hs;exact absurd hs dqk)
 (by intro P1 S1 hX1 iv1 hs hk;exact hX _ (za4 (by kernel_rfl) (zc hs hk (λ hs hk=>(zaR hs λ hc hs=>And.intro hc (zaR hs λ hc hs=>And.intro hc (zc hs hk (λ hs hk=>hk) (λ hs hk=>(hX1 hs hk)))))) (λ hs hk=>hk))))) _ hs hk
def zwC (a:(Sl Int)) (b:(Sl Int)):Bool :=
  (zwA a b (0:Int))
def zwD (a:(Sl Int)) (b:(Sl Int)):Bool :=
  (zwB a b (0:Int))
theorem zD2 (hs:zwD a b=true) (hk:K (e25 (zwC a b))):z25 K [1,1] [] ⟨[(0,zS zab 1 a),(1,zS zab 1 b)],[],[]⟩:=za4 (by kernel_rfl) (zD1 hs hk)
def s25 (a:(Sl Int)) (b:(Sl Int)):Bool :=
  (cond ((a.len : Int) != (b.len : Int))
 false
 (zwC a b))
def p25 (a:(Sl Int)) (b:(Sl Int)):Bool :=
  (cond ((a.len : Int) != (b.len : Int))
 true
 (zwD a b))
end
theorem q25 (a:(Sl Int)) (b:(Sl Int)) (K:List PA->Prop) (hs:p25 a b=true) (hk:K (e25 (s25 a b))):vcFun Tryd.prog G25 zD0 25 [.one (.sl a.len 1 (λ i=>zab (a.get i))),.one (.sl b.len 1 (λ i=>zab (b.get i)))] K :=
  za4 (by kernel_rfl) (zc hs hk (λ hs hk=>hk) (λ hs hk=>(zD2 hs hk)))
def zD3 : List PA → COut
  | [.one (.sl zeC zkp zeD),.one (.sl zeE zk2 zeA)]=>.det (IsE zab 1 zkp zeD/\IsE zab 1 zk2 zeA/\p25 (⟨zeC,zau zeD⟩:(Sl Int)) (⟨zeE,zau zeA⟩:(Sl Int))=true) [.one (.bool (s25 (⟨zeC,zau zeD⟩:(Sl Int)) (⟨zeE,zau zeA⟩:(Sl Int))))]
  | _=>.no
theorem zHl:zas Tryd.prog 25:=⟨_,rfl,rfl,by kernel_rfl⟩
theorem zLM:Ok Tryd.prog 25 zD3:=zbs zJO zHl λ args K h=>by
  unfold zD3 at h
  split at h
  · rename_i zeC zkp zeD zeE zk2 zeA
    obtain⟨⟨⟨rfl,zgB,rfl⟩,⟨rfl,zhK,rfl⟩,hs⟩,hk⟩:=h
    try rw[zbp zgB] at hs
    try rw[zbp zgB] at hk
    try rw[zbp zhK] at hs
    try rw[zbp zhK] at hk
    exact⟨(λ _ _=>[]),(λ _=>false),zD0,q25 (⟨zeC,zgB⟩:(Sl Int)) (⟨zeE,zhK⟩:(Sl Int)) K hs hk⟩
  · exact h.elim
abbrev T29:Tabs:=Tabs.nil
theorem zJP:TabsOk Tryd.prog T29:=TabsOk.nil
abbrev G29:Ctrs:=csm T29 (λ _ _=>[]) (λ _=>false)
def zHm:Ann:=⟨13,[(0,zK [2,3,4] [2,3,4]),(1,zK [2,4] [2,4,7]),(2,zK [4] [4,7])],
 [],
 [],
 [],[]⟩
abbrev R29:=Net
abbrev e29 (r:R29):List PA:=[.agg [.int .i64 r.Nodes,.sl r.Ties.len 4 (λ i=>enc_40 (r.Ties.get i))]]
section
variable {K:List PA->Prop}{n:Net}{t:Tie}
def s29 (n:Net) (t:Tie):Net :=
  (⟨n.Nodes,(⟨(n.Ties.len+1),(zfn n.Ties.len n.Ties.get (λ _=>t))⟩:(Sl Tie))⟩:Net)
def p29 (n:Net) (t:Tie):Bool :=
  (decide ((n.Ties.len * 32<=140737488355328/\n.Ties.len<=9223372036854775807)) &&
 (decide (((n.Ties.len+1) * 32<=140737488355328/\n.Ties.len+1<=9223372036854775807)) &&
 true))
end
theorem q29 (n:Net) (t:Tie) (K:List PA->Prop) (hs:p29 n t=true) (hk:K (e29 (s29 n t))):vcFun Tryd.prog G29 zHm 29 [.agg (enc_24 n),.agg (enc_40 t)] K :=
  za4 (by kernel_rfl) (zaR hs λ hc hs=>And.intro hc (zaR hs λ hc hs=>And.intro hc (Eq.mpr (congrArg K (congrArg (λ (g_:Nat->List PV)=>([.agg [.int .i64 n.Nodes,.sl (n.Ties.len+1) 4 g_]]:List PA)) (zkj (enc:=enc_40) (f:=n.Ties.get) (h:=(λ _=>t)) rfl rfl))) hk)))
def zD4 : List PA → COut
  | [.agg [.int .i64 zal,.sl zai zaH zah],.agg [.int .i64 zen,.int .i64 zk6,.int .i64 zgo,.int .i64 zeo]]=>.det (IsE enc_40 4 zaH zah/\p29 (⟨zal,(⟨zai,zam zah⟩:(Sl Tie))⟩:Net) (⟨zen,zk6,zgo,zeo⟩:Tie)=true) [.agg [.int .i64 ((s29 (⟨zal,(⟨zai,zam zah⟩:(Sl Tie))⟩:Net) (⟨zen,zk6,zgo,zeo⟩:Tie)).Nodes),.sl ((s29 (⟨zal,(⟨zai,zam zah⟩:(Sl Tie))⟩:Net) (⟨zen,zk6,zgo,zeo⟩:Tie)).Ties.len) 4 (λ i=>enc_40 ((s29 (⟨zal,(⟨zai,zam zah⟩:(Sl Tie))⟩:Net) (⟨zen,zk6,zgo,zeo⟩:Tie)).Ties.get i))]]
  | _=>.no
theorem zHn:zas Tryd.prog 29:=⟨_,rfl,rfl,by kernel_rfl⟩
theorem zLN:Ok Tryd.prog 29 zD4:=zbs zJP zHn λ args K h=>by
  unfold zD4 at h
  split at h
  · rename_i zal zai zaH zah zen zk6 zgo zeo
    obtain⟨⟨⟨rfl,zax,rfl⟩,hs⟩,hk⟩:=h
    try rw[zan zax] at hs
    try rw[zan zax] at hk
    exact⟨(λ _ _=>[]),(λ _=>false),zHm,q29 (⟨zal,(⟨zai,zax⟩:(Sl Tie))⟩:Net) (⟨zen,zk6,zgo,zeo⟩:Tie) K hs hk⟩
  · exact h.elim
abbrev T32:Tabs:=Tabs.nil
theorem zJQ:TabsOk Tryd.prog T32:=TabsOk.nil
abbrev G32:Ctrs:=csm T32 (λ _ _=>[]) (λ _=>false)
def zD5:Ann:=⟨26,[(0,zK [0,1] []),(1,zK [0,1,10] []),(2,zK [4] []),(3,zK [0,1,5] []),(4,zK [0,1,5,14] []),(5,zK [0,1,5] []),(6,zK [0,1,5,25] []),(7,zK [4] []),(8,zK [4] [])],
 [(4,zK [0,1,5] [])],
 [(3,zK [0,1] [])],
 [],[]⟩
abbrev R32:=Bool
abbrev e32 (r:R32):List PA:=[.one (.bool r)]
@[irreducible] def z32:=ptF Tryd.prog G32 zD5 Tryd.f32
def zBu (a:(Sl Span)) (b:(Sl Span)) (iv1:Int):St:=⟨[(0,zS zbw 2 a),(1,zS zbw 2 b),(5,zI iv1)],[],[]⟩
abbrev zHo (K:List PA->Prop) (a:(Sl Span)) (b:(Sl Span)) (X:St->Prop) (P:Int->Bool) (S:Int->Bool):Prop:=∀ ⦃iv1:Int⦄,P iv1=true->K (e32 (S iv1))->X (zBu a b iv1)
section
variable {K:List PA->Prop}{a:(Sl Span)}{b:(Sl Span)}{iv1:Int}{X1:St->Prop}{P1:Int->Bool}{S1:Int->Bool}
def zwE (a:(Sl Span)) (b:(Sl Span)) (S1:Int->Bool) (iv1:Int):Bool :=
  (cond (decide (iv1 < (a.len : Int)))
 (cond (!(match ((a.get iv1.toNat).Low == (b.get iv1.toNat).Low) with | true => (match ((a.get iv1.toNat).High == (b.get iv1.toNat).High) with | true => true | false => false) | false => false))
 false
 (S1 (w64 (iv1+(1:Int)))))
 true)
def zwF (a:(Sl Span)) (b:(Sl Span)) (P1:Int->Bool) (iv1:Int):Bool :=
  (cond (decide (iv1 < (a.len : Int)))
 (decide ((0<=iv1/\iv1 < (a.len:Int))) &&
 (decide ((0<=iv1/\iv1 < (b.len:Int))) &&
 (cond (!(match ((a.get iv1.toNat).Low == (b.get iv1.toNat).Low) with | true => (match ((a.get iv1.toNat).High == (b.get iv1.toNat).High) with | true => true | false => false) | false => false))
 true
 (P1 (w64 (iv1+(1:Int)))))))
 true)
def zwG (a:(Sl Span)) (b:(Sl Span)):Nat->Int->Bool:=lpO (λ _=>default) (zwE a b)
def zwH (a:(Sl Span)) (b:(Sl Span)):Nat->Int->Bool:=lpO (λ _=>false) (zwF a b)
def zwI (a:(Sl Span)) (b:(Sl Span)) (iv1:Int):Bool:=zwG a b Fuel iv1
def zwJ (a:(Sl Span)) (b:(Sl Span)) (iv1:Int):Bool:=zwH a b Fuel iv1
theorem zD6 (hs:zwJ a b iv1=true) (hk:K (e32 (zwI a b iv1))):z32 K [1,1,0,1,0] [] (zBu a b iv1) :=
  zl (λ X=>z32 K [1,1,0,1,0,0] [X]) (by kernel_rfl) λ X1 hX =>
  (show ∀ k, zHo K a b X1 (zwH a b k) (zwG a b k) from zfc _ _ (zwF a b) (zwE a b) (zHo K a b X1)
 (by intro _ hs;exact absurd hs dqk)
 (by intro P1 S1 hX1 iv1 hs hk;exact hX _ (za4 (by kernel_rfl) (zc hs hk (λ hs hk=>(zaR hs λ hc hs=>And.intro hc (zaR hs λ hc hs=>And.intro hc (zc hs hk (λ hs hk=>hk) (λ hs hk=>(hX1 hs hk)))))) (λ hs hk=>hk))))) _ hs hk
def zwK (a:(Sl Span)) (b:(Sl Span)):Bool :=
  (zwI a b (0:Int))
def zwL (a:(Sl Span)) (b:(Sl Span)):Bool :=
  (zwJ a b (0:Int))
theorem zD7 (hs:zwL a b=true) (hk:K (e32 (zwK a b))):z32 K [1,1] [] ⟨[(0,zS zbw 2 a),(1,zS zbw 2 b)],[],[]⟩:=za4 (by kernel_rfl) (zD6 hs hk)
def s32 (a:(Sl Span)) (b:(Sl Span)):Bool :=
  (cond ((a.len : Int) != (b.len : Int))
 false
 (zwK a b))
def p32 (a:(Sl Span)) (b:(Sl Span)):Bool :=
  (cond ((a.len : Int) != (b.len : Int))
 true
 (zwL a b))
end
theorem q32 (a:(Sl Span)) (b:(Sl Span)) (K:List PA->Prop) (hs:p32 a b=true) (hk:K (e32 (s32 a b))):vcFun Tryd.prog G32 zD5 32 [.one (.sl a.len 2 (λ i=>zbw (a.get i))),.one (.sl b.len 2 (λ i=>zbw (b.get i)))] K :=
  za4 (by kernel_rfl) (zc hs hk (λ hs hk=>hk) (λ hs hk=>(zD7 hs hk)))
def zD8 : List PA → COut
  | [.one (.sl zeC zkp zeD),.one (.sl zeE zk2 zeA)]=>.det (IsE zbw 2 zkp zeD/\IsE zbw 2 zk2 zeA/\p32 (⟨zeC,zfp zeD⟩:(Sl Span)) (⟨zeE,zfp zeA⟩:(Sl Span))=true) [.one (.bool (s32 (⟨zeC,zfp zeD⟩:(Sl Span)) (⟨zeE,zfp zeA⟩:(Sl Span))))]
  | _=>.no
theorem zHp:zas Tryd.prog 32:=⟨_,rfl,rfl,by kernel_rfl⟩
theorem ok32:Ok Tryd.prog 32 zD8:=zbs zJQ zHp λ args K h=>by
  unfold zD8 at h
  split at h
  · rename_i zeC zkp zeD zeE zk2 zeA
    obtain⟨⟨⟨rfl,zgB,rfl⟩,⟨rfl,zhK,rfl⟩,hs⟩,hk⟩:=h
    try rw[zeV zgB] at hs
    try rw[zeV zgB] at hk
    try rw[zeV zhK] at hs
    try rw[zeV zhK] at hk
    exact⟨(λ _ _=>[]),(λ _=>false),zD5,q32 (⟨zeC,zgB⟩:(Sl Span)) (⟨zeE,zhK⟩:(Sl Span)) K hs hk⟩
  · exact h.elim
abbrev T83:Tabs:=((Tabs.nil.addF 75 zwo).addF 76 zwu)
theorem zJR:TabsOk Tryd.prog T83:=((TabsOk.nil.addF zJK).addF zJM)
abbrev G83:Ctrs:=csm T83 (λ _ _=>[]) (λ _=>false)
def zD9:Ann:=⟨31,[(0,zK [0] []),(1,zK [0,3,4] [3,4]),(2,zK [3,4,14,15] [3,4]),(3,zK [3,4,14,15,16] [3,4]),(4,zK [3,4,5,14,15] [3,4]),(5,zK [3,4,14,15,29] [3,4]),(6,zK [2] []),(7,zK [3,4,14,15] [3,4]),(8,zK [2] [])],
 [(3,zK [3,4,14,15] [3,4])],
 [(2,zK [0,3,4] [3,4])],
 [],[]⟩
abbrev R83:=Bool
abbrev e83 (r:R83):List PA:=[.one (.bool r)]
@[irreducible] def z83:=ptF Tryd.prog G83 zD9 Tryd.f83
def zBv (w:web) (zcy:Int) (tot1:Tab) (fromt1:Tab):St:=⟨[(3,zp 3 0),(4,zp 4 0),(14,zI w.Net.Nodes),(15,zI zcy)],[(3,.box 116 (zm (zak tot1))),(4,.box 116 (zm (zak fromt1)))],[]⟩
abbrev zHq (K:List PA->Prop) (w:web) (X:St->Prop) (P:Int->Tab->Tab->Bool) (S:Int->Tab->Tab->Bool):Prop:=∀ ⦃zcy:Int⦄ ⦃tot1:Tab⦄ ⦃fromt1:Tab⦄,P zcy tot1 fromt1=true->K (e83 (S zcy tot1 fromt1))->X (zBv w zcy tot1 fromt1)
section
variable {K:List PA->Prop}{w:web}{tot0:Tab}{fromt0:Tab}{zcy:Int}{tot1:Tab}{fromt1:Tab}{X1:St->Prop}{P1:Int->Tab->Tab->Bool}{S1:Int->Tab->Tab->Bool}
def zwM (w:web) (S1:Int->Tab->Tab->Bool) (zcy:Int) (tot1:Tab) (fromt1:Tab):Bool :=
  (cond (decide (zcy < w.Net.Nodes))
 (cond (match ((tg 80 tot1 (0 + zcy.toNat * 2 + 0)) == (1000000000000:Int)) with | true => (match ((tg 80 tot1 (0 + zcy.toNat * 2 + 0 + 1)) == (0:Int)) with | true => true | false => false) | false => false)
 false
 (cond (match ((tg 80 fromt1 (0 + zcy.toNat * 2 + 0)) == (1000000000000:Int)) with | true => (match ((tg 80 fromt1 (0 + zcy.toNat * 2 + 0 + 1)) == (0:Int)) with | true => true | false => false) | false => false)
 false
 (S1 (w64 (zcy+(1:Int))) tot1 fromt1)))
 true)
def zwN (w:web) (P1:Int->Tab->Tab->Bool) (zcy:Int) (tot1:Tab) (fromt1:Tab):Bool :=
  (cond (decide (zcy < w.Net.Nodes))
 (decide ((0<=zcy/\zcy < (40:Int))) &&
 (cond (match ((tg 80 tot1 (0 + zcy.toNat * 2 + 0)) == (1000000000000:Int)) with | true => (match ((tg 80 tot1 (0 + zcy.toNat * 2 + 0 + 1)) == (0:Int)) with | true => true | false => false) | false => false)
 true
 (decide ((0<=zcy/\zcy < (40:Int))) &&
 (cond (match ((tg 80 fromt1 (0 + zcy.toNat * 2 + 0)) == (1000000000000:Int)) with | true => (match ((tg 80 fromt1 (0 + zcy.toNat * 2 + 0 + 1)) == (0:Int)) with | true => true | false => false) | false => false)
 true
 (P1 (w64 (zcy+(1:Int))) tot1 fromt1)))))
 true)
def zwO (w:web):Nat->Int->Tab->Tab->Bool:=lpO (λ _ _ _=>default) (zwM w)
def zwP (w:web):Nat->Int->Tab->Tab->Bool:=lpO (λ _ _ _=>false) (zwN w)
def zwQ (w:web) (zcy:Int) (tot1:Tab) (fromt1:Tab):Bool:=zwO w Fuel zcy tot1 fromt1
def zwR (w:web) (zcy:Int) (tot1:Tab) (fromt1:Tab):Bool:=zwP w Fuel zcy tot1 fromt1
theorem zEa (hs:zwR w zcy tot1 fromt1=true) (hk:K (e83 (zwQ w zcy tot1 fromt1))):z83 K [1,1,0,1,0] [] (zBv w zcy tot1 fromt1) :=
  zl (λ X=>z83 K [1,1,0,1,0,0] [X]) (by kernel_rfl) λ X1 hX =>
  (show ∀ k, zHq K w X1 (zwP w k) (zwO w k) from zfc _ _ (zwN w) (zwM w) (zHq K w X1)
 (by intro _ _ _ hs;exact absurd hs dqk)
 (by intro P1 S1 hX1 zcy tot1 fromt1 hs hk;exact hX _ (za4 (by kernel_rfl) (zc hs hk (λ hs hk=>(zaR hs λ hc hs=>And.intro hc (zc hs hk (λ hs hk=>hk) (λ hs hk=>(zaR hs λ hc hs=>And.intro hc (zc hs hk (λ hs hk=>hk) (λ hs hk=>(hX1 hs hk)))))))) (λ hs hk=>hk))))) _ hs hk
def zwS (w:web) (tot0:Tab) (fromt0:Tab):Bool :=
  (zwQ w (0:Int) tot0 fromt0)
def zwT (w:web) (tot0:Tab) (fromt0:Tab):Bool :=
  (zwR w (0:Int) tot0 fromt0)
theorem zEb (hs:zwT w tot0 fromt0=true) (hk:K (e83 (zwS w tot0 fromt0))):z83 K [1,1] [] ⟨[(0,zP (.fp (zaz w) 0)),(3,zp 3 0),(4,zp 4 0)],[(3,.box 116 (zm (zak tot0))),(4,.box 116 (zm (zak fromt0)))],[]⟩:=za4 (by kernel_rfl) (zEa hs hk)
def s83 (w:web):Bool :=
  (zwS w (s75 w (0:Int)) (s76 w (0:Int)))
def p83 (w:web):Bool :=
  (decide ((p75 w (0:Int)=true)) &&
 (decide ((p76 w (0:Int)=true)) &&
 (zwT w (s75 w (0:Int)) (s76 w (0:Int)))))
end
theorem q83 (w:web) (K:List PA->Prop) (hs:p83 w=true) (hk:K (e83 (s83 w))):vcFun Tryd.prog G83 zD9 83 [.one (.fp (zaz w) 0)] K :=
  za4 (by kernel_rfl) (zaR hs λ hc hs=>And.intro (And.intro (zE enc_40 4 w.Net.Ties.get) (And.intro (rfl:((false,1,false,[none]):MQ)=(false,1,false,[none])) hc)) (zaR hs λ hc hs=>And.intro (And.intro (zE enc_40 4 w.Net.Ties.get) (And.intro (rfl:((false,1,false,[none]):MQ)=(false,1,false,[none])) hc)) (zEb hs hk)))
def zEc : List PA → COut
  | [.one (.fp [.int .i64 zaj,.sl zae zay zaf,.fm za6 zaE zaF] 0)]=>.det (IsE enc_40 4 zay zaf/\za6=(false,1,false,[none])/\p83 (⟨(⟨zaj,(⟨zae,zam zaf⟩:(Sl Tie))⟩:Net),(⟨zaE,zaF⟩:Mp)⟩:web)=true) [.one (.bool (s83 (⟨(⟨zaj,(⟨zae,zam zaf⟩:(Sl Tie))⟩:Net),(⟨zaE,zaF⟩:Mp)⟩:web)))]
  | _=>.no
theorem zHr:zas Tryd.prog 83:=⟨_,rfl,rfl,by kernel_rfl⟩
theorem zLO:Ok Tryd.prog 83 zEc:=zbs zJR zHr λ args K h=>by
  unfold zEc at h
  split at h
  · rename_i zaj zae zay zaf za6 zaE zaF
    obtain⟨⟨⟨rfl,zaq,rfl⟩,rfl,hs⟩,hk⟩:=h
    try rw[zan zaq] at hs
    try rw[zan zaq] at hk
    exact⟨(λ _ _=>[]),(λ _=>false),zD9,q83 (⟨(⟨zaj,(⟨zae,zaq⟩:(Sl Tie))⟩:Net),(⟨zaE,zaF⟩:Mp)⟩:web) K hs hk⟩
  · exact h.elim
abbrev T85:Tabs:=Tabs.nil
theorem zJS:TabsOk Tryd.prog T85:=TabsOk.nil
abbrev G85:Ctrs:=csm T85 (λ _ _=>[]) (λ _=>false)
def zHs:Ann:=⟨8,[(0,zK [0,1] []),(1,zK [3] [])],
 [],
 [],
 [],[]⟩
abbrev R85:=Int
abbrev e85 (r:R85):List PA:=[.one (.int .i64 r)]
section
variable {K:List PA->Prop}{c0:Tab}{i_a0:Int}
def s85 (c0:Tab) (i_a0:Int):Int :=
  (tg 80 c0 (0+i_a0.toNat * 2+0))
def p85 (c0:Tab) (i_a0:Int):Bool :=
  (decide ((0<=i_a0/\i_a0 < (40:Int))) &&
 true)
end
theorem q85 (c0:Tab) (i_a0:Int) (K:List PA->Prop) (hs:p85 c0 i_a0=true) (hk:K (e85 (s85 c0 i_a0))):vcFun Tryd.prog G85 zHs 85 [.one (.int .i64 i_a0),.one (.fp (zak c0) 0)] K :=
  za4 (by kernel_rfl) (zaR hs λ hc hs=>And.intro hc hk)
def zEd : List PA → COut
  | [.one (.int .i64 a0),.one (.fp c0_t 0)]=>.det (c0_t=zak (zaD c0_t)/\p85 (zaD c0_t) a0=true) [.one (.int .i64 (s85 (zaD c0_t) a0))]
  | _=>.no
theorem zHt:zas Tryd.prog 85:=⟨_,rfl,rfl,by kernel_rfl⟩
theorem zLP:Ok Tryd.prog 85 zEd:=zbs zJS zHt λ args K h=>by
  unfold zEd at h
  split at h
  · rename_i a0 c0_t
    obtain⟨⟨hT_c0,hs⟩,hk⟩:=h
    exact⟨(λ _ _=>[]),(λ _=>false),zHs,(by have hq:=q85 (zaD c0_t) a0 K hs hk;rw[<- hT_c0] at hq;exact hq)⟩
  · exact h.elim
abbrev T86:Tabs:=Tabs.nil
theorem zJT:TabsOk Tryd.prog T86:=TabsOk.nil
abbrev G86:Ctrs:=csm T86 (λ _ _=>[]) (λ _=>false)
def zHu:Ann:=⟨9,[(0,zK [0,1] []),(1,zK [3] [])],
 [],
 [],
 [],[]⟩
abbrev R86:=Int
abbrev e86 (r:R86):List PA:=[.one (.int .i64 r)]
section
variable {K:List PA->Prop}{c0:Tab}{i_a0:Int}
def s86 (c0:Tab) (i_a0:Int):Int :=
  (w64 (0 - (tg 80 c0 (0+i_a0.toNat * 2+0))))
def p86 (c0:Tab) (i_a0:Int):Bool :=
  (decide ((0<=i_a0/\i_a0 < (40:Int))) &&
 true)
end
theorem q86 (c0:Tab) (i_a0:Int) (K:List PA->Prop) (hs:p86 c0 i_a0=true) (hk:K (e86 (s86 c0 i_a0))):vcFun Tryd.prog G86 zHu 86 [.one (.int .i64 i_a0),.one (.fp (zak c0) 0)] K :=
  za4 (by kernel_rfl) (zaR hs λ hc hs=>And.intro hc hk)
def zEe : List PA → COut
  | [.one (.int .i64 a0),.one (.fp c0_t 0)]=>.det (c0_t=zak (zaD c0_t)/\p86 (zaD c0_t) a0=true) [.one (.int .i64 (s86 (zaD c0_t) a0))]
  | _=>.no
theorem zHv:zas Tryd.prog 86:=⟨_,rfl,rfl,by kernel_rfl⟩
theorem zLQ:Ok Tryd.prog 86 zEe:=zbs zJT zHv λ args K h=>by
  unfold zEe at h
  split at h
  · rename_i a0 c0_t
    obtain⟨⟨hT_c0,hs⟩,hk⟩:=h
    exact⟨(λ _ _=>[]),(λ _=>false),zHu,(by have hq:=q86 (zaD c0_t) a0 K hs hk;rw[<- hT_c0] at hq;exact hq)⟩
  · exact h.elim
abbrev T87:Tabs:=Tabs.nil
theorem zJU:TabsOk Tryd.prog T87:=TabsOk.nil
abbrev G87:Ctrs:=csm T87 (λ _ _=>[]) (λ _=>false)
def zHw:Ann:=⟨12,[(0,zK [0,1] []),(1,zK [3] [])],
 [],
 [],
 [],[]⟩
abbrev R87:=Int
abbrev e87 (r:R87):List PA:=[.one (.int .i64 r)]
section
variable {K:List PA->Prop}{c0:Tab}{i_a0:Int}
def s87 (c0:Tab) (i_a0:Int):Int :=
  (w64 ((tg 80 c0 (0+i_a0.toNat * 2+0)) - (tg 80 c0 (0+0 * 2+0))))
def p87 (c0:Tab) (i_a0:Int):Bool :=
  (decide ((0<=i_a0/\i_a0 < (40:Int))) &&
 (decide ((0<=(0:Int)/\(0:Int) < (40:Int))) &&
 true))
end
theorem q87 (c0:Tab) (i_a0:Int) (K:List PA->Prop) (hs:p87 c0 i_a0=true) (hk:K (e87 (s87 c0 i_a0))):vcFun Tryd.prog G87 zHw 87 [.one (.int .i64 i_a0),.one (.fp (zak c0) 0)] K :=
  za4 (by kernel_rfl) (zaR hs λ hc hs=>And.intro hc (zaR hs λ hc hs=>And.intro hc hk))
def zEf : List PA → COut
  | [.one (.int .i64 a0),.one (.fp c0_t 0)]=>.det (c0_t=zak (zaD c0_t)/\p87 (zaD c0_t) a0=true) [.one (.int .i64 (s87 (zaD c0_t) a0))]
  | _=>.no
theorem zHx:zas Tryd.prog 87:=⟨_,rfl,rfl,by kernel_rfl⟩
theorem zLR:Ok Tryd.prog 87 zEf:=zbs zJU zHx λ args K h=>by
  unfold zEf at h
  split at h
  · rename_i a0 c0_t
    obtain⟨⟨hT_c0,hs⟩,hk⟩:=h
    exact⟨(λ _ _=>[]),(λ _=>false),zHw,(by have hq:=q87 (zaD c0_t) a0 K hs hk;rw[<- hT_c0] at hq;exact hq)⟩
  · exact h.elim
abbrev T84:Tabs:=(((Tabs.nil.addF 85 zEd).addF 86 zEe).addF 87 zEf)
theorem zJV:TabsOk Tryd.prog T84:=(((TabsOk.nil.addF zLP).addF zLQ).addF zLR)
abbrev G84:Ctrs:=csm T84 (λ _ _=>[]) (λ _=>false)
def zEg:Ann:=⟨26,[(0,zK [0,1] []),(1,zK [1,5] [12]),(2,zK [1,5,14,15] [12]),(3,zK [1,5,14,15,16] [12]),(4,zK [1,5,6,14,15] [12]),(5,zK [1,5,14,15] [12]),(6,zK [1,5,14,15] [12]),(7,zK [4] [12])],
 [(3,zK [1,5,14,15] [12])],
 [],
 [],[]⟩
abbrev R84:=(Sl Int)
abbrev e84 (r:R84):List PA:=[.one (.sl r.len 1 (λ i=>zab (r.get i)))]
@[irreducible] def z84:=ptF Tryd.prog G84 zEg Tryd.f84
def zBw (c0:Tab) (w:web) (zaG:Int) (za0:(Sl Int)) (zbA:Nat->List PV):St:=⟨[(1,zP (.fn 87 [] [.fp (zak c0) 0])),(5,zv 12),(14,zI (w.Net.Nodes.toNat:Int)),(15,zI zaG)],[(12,.vec 3 1 8 za0.len zbA)],[]⟩
abbrev zHy (K:List PA->Prop) (c0:Tab) (w:web) (X:St->Prop) (P:Int->(Sl Int)->Bool) (S:Int->(Sl Int)->(Sl Int)):Prop:=∀ ⦃zaG:Int⦄ ⦃za0:(Sl Int)⦄ ⦃zbA:Nat->List PV⦄,P zaG za0=true->K (e84 (S zaG za0))->zbA=zg zab za0->X (zBw c0 w zaG za0 zbA)
section
variable {K:List PA->Prop}{c0:Tab}{w:web}{zaG:Int}{za0:(Sl Int)}{zbA:Nat->List PV}{X0:St->Prop}{P0:Int->(Sl Int)->Bool}{S0:Int->(Sl Int)->(Sl Int)}
def zwU (c0:Tab) (w:web) (S0:Int->(Sl Int)->(Sl Int)) (zaG:Int) (za0:(Sl Int)):(Sl Int) :=
  (cond (decide (zaG < (w.Net.Nodes.toNat : Int)))
 (S0 (w64 (zaG+(1:Int))) (⟨za0.len,(setT zaG.toNat (s87 (zaD (zak c0)) zaG) za0.get)⟩:Sl Int))
 za0)
def zwV (c0:Tab) (w:web) (P0:Int->(Sl Int)->Bool) (zaG:Int) (za0:(Sl Int)):Bool :=
  (cond (decide (zaG < (w.Net.Nodes.toNat : Int)))
 (decide ((p87 (zaD (zak c0)) zaG=true)) &&
 (decide ((0<=zaG/\zaG < (za0.len:Int))) &&
 (decide ((zaG.toNat < za0.len)) &&
 (P0 (w64 (zaG+(1:Int))) (⟨za0.len,(setT zaG.toNat (s87 (zaD (zak c0)) zaG) za0.get)⟩:Sl Int)))))
 true)
def zwW (c0:Tab) (w:web):Nat->Int->(Sl Int)->(Sl Int):=lpO (λ _ _=>default) (zwU c0 w)
def zwX (c0:Tab) (w:web):Nat->Int->(Sl Int)->Bool:=lpO (λ _ _=>false) (zwV c0 w)
def zwY (c0:Tab) (w:web) (zaG:Int) (za0:(Sl Int)):(Sl Int):=zwW c0 w Fuel zaG za0
def zwZ (c0:Tab) (w:web) (zaG:Int) (za0:(Sl Int)):Bool:=zwX c0 w Fuel zaG za0
theorem zEh (hs:zwZ c0 w zaG za0=true) (hk:K (e84 (zwY c0 w zaG za0))) (zdR:zbA=zg zab za0):z84 K [1,1,0,1,0] [] (zBw c0 w zaG za0 zbA) :=
  zl (λ X=>z84 K [1,1,0,1,0,0] [X]) (by kernel_rfl) λ X0 hX =>
  (show ∀ k, zHy K c0 w X0 (zwX c0 w k) (zwW c0 w k) from zfc _ _ (zwV c0 w) (zwU c0 w) (zHy K c0 w X0)
 (by intro _ _ _ hs;exact absurd hs dqk)
 (by intro P0 S0 hX0 zaG za0 zbA hs hk zdR;subst zdR;exact hX _ (za4 (by kernel_rfl) (zc hs hk (λ hs hk=>(zaR hs λ hc hs=>And.intro (And.intro (zhb:zak c0=zak (zaD (zak c0))) hc) (zaR hs λ hc hs=>And.intro hc (zaR hs λ hc hs=>And.intro hc (hX0 hs hk (ziJ (enc:=zab) (i:=zaG.toNat) (k:=0) (f:=za0.get) (new:=(zab (s87 (zaD (zak c0)) zaG))) (v:=(s87 (zaD (zak c0)) zaG)) rfl rfl)))))) (λ hs hk=>hk))))) _ hs hk zdR
def s84 (c0:Tab) (w:web):(Sl Int) :=
  (zwY c0 w (0:Int) (⟨w.Net.Nodes.toNat,(λ _=>(0:Int))⟩:Sl Int))
def p84 (c0:Tab) (w:web):Bool :=
  (decide ((0<=w.Net.Nodes/\w.Net.Nodes=w.Net.Nodes/\w.Net.Nodes<=1000000)) &&
 (zwZ c0 w (0:Int) (⟨w.Net.Nodes.toNat,(λ _=>(0:Int))⟩:Sl Int)))
end
theorem q84 (c0:Tab) (w:web) (K:List PA->Prop) (hs:p84 c0 w=true) (hk:K (e84 (s84 c0 w))):vcFun Tryd.prog G84 zEg 84 [.one (.fp (zaz w) 0),.one (.fn 87 [] [.fp (zak c0) 0])] K :=
  za4 (by kernel_rfl) (zaR hs λ hc hs=>And.intro hc (zEh hs hk rfl))
abbrev zKT:Ctrs:=csm T84 (λ _ _=>[]) (λ _=>false)
def zw0:Ann:=⟨26,[(0,zK [0,1] []),(1,zK [1,5] [12]),(2,zK [1,5,14,15] [12]),(3,zK [1,5,14,15,16] [12]),(4,zK [1,5,6,14,15] [12]),(5,zK [1,5,14,15] [12]),(6,zK [1,5,14,15] [12]),(7,zK [4] [12])],
 [(3,zK [1,5,14,15] [12])],
 [],
 [],[]⟩
abbrev zLS:=(Sl Int)
abbrev zJW (r:zLS):List PA:=[.one (.sl r.len 1 (λ i=>zab (r.get i)))]
@[irreducible] def z84a:=ptF Tryd.prog zKT zw0 Tryd.f84
def zw1 (c0:Tab) (w:web) (zaG:Int) (za0:(Sl Int)) (zbA:Nat->List PV):St:=⟨[(1,zP (.fn 85 [] [.fp (zak c0) 0])),(5,zv 12),(14,zI (w.Net.Nodes.toNat:Int)),(15,zI zaG)],[(12,.vec 3 1 8 za0.len zbA)],[]⟩
abbrev zBx (K:List PA->Prop) (c0:Tab) (w:web) (X:St->Prop) (P:Int->(Sl Int)->Bool) (S:Int->(Sl Int)->(Sl Int)):Prop:=∀ ⦃zaG:Int⦄ ⦃za0:(Sl Int)⦄ ⦃zbA:Nat->List PV⦄,P zaG za0=true->K (zJW (S zaG za0))->zbA=zg zab za0->X (zw1 c0 w zaG za0 zbA)
section
variable {K:List PA->Prop}{c0:Tab}{w:web}{zaG:Int}{za0:(Sl Int)}{zbA:Nat->List PV}{X0:St->Prop}{P0:Int->(Sl Int)->Bool}{S0:Int->(Sl Int)->(Sl Int)}
def zr9 (c0:Tab) (w:web) (S0:Int->(Sl Int)->(Sl Int)) (zaG:Int) (za0:(Sl Int)):(Sl Int) :=
  (cond (decide (zaG < (w.Net.Nodes.toNat : Int)))
 (S0 (w64 (zaG+(1:Int))) (⟨za0.len,(setT zaG.toNat (s85 (zaD (zak c0)) zaG) za0.get)⟩:Sl Int))
 za0)
def zsa (c0:Tab) (w:web) (P0:Int->(Sl Int)->Bool) (zaG:Int) (za0:(Sl Int)):Bool :=
  (cond (decide (zaG < (w.Net.Nodes.toNat : Int)))
 (decide ((p85 (zaD (zak c0)) zaG=true)) &&
 (decide ((0<=zaG/\zaG < (za0.len:Int))) &&
 (decide ((zaG.toNat < za0.len)) &&
 (P0 (w64 (zaG+(1:Int))) (⟨za0.len,(setT zaG.toNat (s85 (zaD (zak c0)) zaG) za0.get)⟩:Sl Int)))))
 true)
def zsb (c0:Tab) (w:web):Nat->Int->(Sl Int)->(Sl Int):=lpO (λ _ _=>default) (zr9 c0 w)
def zsc (c0:Tab) (w:web):Nat->Int->(Sl Int)->Bool:=lpO (λ _ _=>false) (zsa c0 w)
def zsd (c0:Tab) (w:web) (zaG:Int) (za0:(Sl Int)):(Sl Int):=zsb c0 w Fuel zaG za0
def zse (c0:Tab) (w:web) (zaG:Int) (za0:(Sl Int)):Bool:=zsc c0 w Fuel zaG za0
theorem zAi (hs:zse c0 w zaG za0=true) (hk:K (zJW (zsd c0 w zaG za0))) (zdR:zbA=zg zab za0):z84a K [1,1,0,1,0] [] (zw1 c0 w zaG za0 zbA) :=
  zl (λ X=>z84a K [1,1,0,1,0,0] [X]) (by kernel_rfl) λ X0 hX =>
  (show ∀ k, zBx K c0 w X0 (zsc c0 w k) (zsb c0 w k) from zfc _ _ (zsa c0 w) (zr9 c0 w) (zBx K c0 w X0)
 (by intro _ _ _ hs;exact absurd hs dqk)
 (by intro P0 S0 hX0 zaG za0 zbA hs hk zdR;subst zdR;exact hX _ (za4 (by kernel_rfl) (zc hs hk (λ hs hk=>(zaR hs λ hc hs=>And.intro (And.intro (zhb:zak c0=zak (zaD (zak c0))) hc) (zaR hs λ hc hs=>And.intro hc (zaR hs λ hc hs=>And.intro hc (hX0 hs hk (ziJ (enc:=zab) (i:=zaG.toNat) (k:=0) (f:=za0.get) (new:=(zab (s85 (zaD (zak c0)) zaG))) (v:=(s85 (zaD (zak c0)) zaG)) rfl rfl)))))) (λ hs hk=>hk))))) _ hs hk zdR
def zJX (c0:Tab) (w:web):(Sl Int) :=
  (zsd c0 w (0:Int) (⟨w.Net.Nodes.toNat,(λ _=>(0:Int))⟩:Sl Int))
def zKU (c0:Tab) (w:web):Bool :=
  (decide ((0<=w.Net.Nodes/\w.Net.Nodes=w.Net.Nodes/\w.Net.Nodes<=1000000)) &&
 (zse c0 w (0:Int) (⟨w.Net.Nodes.toNat,(λ _=>(0:Int))⟩:Sl Int)))
end
theorem zLT (c0:Tab) (w:web) (K:List PA->Prop) (hs:zKU c0 w=true) (hk:K (zJW (zJX c0 w))):vcFun Tryd.prog zKT zw0 84 [.one (.fp (zaz w) 0),.one (.fn 85 [] [.fp (zak c0) 0])] K :=
  za4 (by kernel_rfl) (zaR hs λ hc hs=>And.intro hc (zAi hs hk rfl))
abbrev zKV:Ctrs:=csm T84 (λ _ _=>[]) (λ _=>false)
def zw2:Ann:=⟨26,[(0,zK [0,1] []),(1,zK [1,5] [12]),(2,zK [1,5,14,15] [12]),(3,zK [1,5,14,15,16] [12]),(4,zK [1,5,6,14,15] [12]),(5,zK [1,5,14,15] [12]),(6,zK [1,5,14,15] [12]),(7,zK [4] [12])],
 [(3,zK [1,5,14,15] [12])],
 [],
 [],[]⟩
abbrev zLU:=(Sl Int)
abbrev zJY (r:zLU):List PA:=[.one (.sl r.len 1 (λ i=>zab (r.get i)))]
@[irreducible] def z84b:=ptF Tryd.prog zKV zw2 Tryd.f84
def zw3 (c0:Tab) (w:web) (zaG:Int) (za0:(Sl Int)) (zbA:Nat->List PV):St:=⟨[(1,zP (.fn 86 [] [.fp (zak c0) 0])),(5,zv 12),(14,zI (w.Net.Nodes.toNat:Int)),(15,zI zaG)],[(12,.vec 3 1 8 za0.len zbA)],[]⟩
abbrev zBy (K:List PA->Prop) (c0:Tab) (w:web) (X:St->Prop) (P:Int->(Sl Int)->Bool) (S:Int->(Sl Int)->(Sl Int)):Prop:=∀ ⦃zaG:Int⦄ ⦃za0:(Sl Int)⦄ ⦃zbA:Nat->List PV⦄,P zaG za0=true->K (zJY (S zaG za0))->zbA=zg zab za0->X (zw3 c0 w zaG za0 zbA)
section
variable {K:List PA->Prop}{c0:Tab}{w:web}{zaG:Int}{za0:(Sl Int)}{zbA:Nat->List PV}{X0:St->Prop}{P0:Int->(Sl Int)->Bool}{S0:Int->(Sl Int)->(Sl Int)}
def zsf (c0:Tab) (w:web) (S0:Int->(Sl Int)->(Sl Int)) (zaG:Int) (za0:(Sl Int)):(Sl Int) :=
  (cond (decide (zaG < (w.Net.Nodes.toNat : Int)))
 (S0 (w64 (zaG+(1:Int))) (⟨za0.len,(setT zaG.toNat (s86 (zaD (zak c0)) zaG) za0.get)⟩:Sl Int))
 za0)
def zsg (c0:Tab) (w:web) (P0:Int->(Sl Int)->Bool) (zaG:Int) (za0:(Sl Int)):Bool :=
  (cond (decide (zaG < (w.Net.Nodes.toNat : Int)))
 (decide ((p86 (zaD (zak c0)) zaG=true)) &&
 (decide ((0<=zaG/\zaG < (za0.len:Int))) &&
 (decide ((zaG.toNat < za0.len)) &&
 (P0 (w64 (zaG+(1:Int))) (⟨za0.len,(setT zaG.toNat (s86 (zaD (zak c0)) zaG) za0.get)⟩:Sl Int)))))
 true)
def zsh (c0:Tab) (w:web):Nat->Int->(Sl Int)->(Sl Int):=lpO (λ _ _=>default) (zsf c0 w)
def zsi (c0:Tab) (w:web):Nat->Int->(Sl Int)->Bool:=lpO (λ _ _=>false) (zsg c0 w)
def zsj (c0:Tab) (w:web) (zaG:Int) (za0:(Sl Int)):(Sl Int):=zsh c0 w Fuel zaG za0
def zsk (c0:Tab) (w:web) (zaG:Int) (za0:(Sl Int)):Bool:=zsi c0 w Fuel zaG za0
theorem zAj (hs:zsk c0 w zaG za0=true) (hk:K (zJY (zsj c0 w zaG za0))) (zdR:zbA=zg zab za0):z84b K [1,1,0,1,0] [] (zw3 c0 w zaG za0 zbA) :=
  zl (λ X=>z84b K [1,1,0,1,0,0] [X]) (by kernel_rfl) λ X0 hX =>
  (show ∀ k, zBy K c0 w X0 (zsi c0 w k) (zsh c0 w k) from zfc _ _ (zsg c0 w) (zsf c0 w) (zBy K c0 w X0)
 (by intro _ _ _ hs;exact absurd hs dqk)
 (by intro P0 S0 hX0 zaG za0 zbA hs hk zdR;subst zdR;exact hX _ (za4 (by kernel_rfl) (zc hs hk (λ hs hk=>(zaR hs λ hc hs=>And.intro (And.intro (zhb:zak c0=zak (zaD (zak c0))) hc) (zaR hs λ hc hs=>And.intro hc (zaR hs λ hc hs=>And.intro hc (hX0 hs hk (ziJ (enc:=zab) (i:=zaG.toNat) (k:=0) (f:=za0.get) (new:=(zab (s86 (zaD (zak c0)) zaG))) (v:=(s86 (zaD (zak c0)) zaG)) rfl rfl)))))) (λ hs hk=>hk))))) _ hs hk zdR
def zJZ (c0:Tab) (w:web):(Sl Int) :=
  (zsj c0 w (0:Int) (⟨w.Net.Nodes.toNat,(λ _=>(0:Int))⟩:Sl Int))
def zKW (c0:Tab) (w:web):Bool :=
  (decide ((0<=w.Net.Nodes/\w.Net.Nodes=w.Net.Nodes/\w.Net.Nodes<=1000000)) &&
 (zsk c0 w (0:Int) (⟨w.Net.Nodes.toNat,(λ _=>(0:Int))⟩:Sl Int)))
end
theorem zLV (c0:Tab) (w:web) (K:List PA->Prop) (hs:zKW c0 w=true) (hk:K (zJY (zJZ c0 w))):vcFun Tryd.prog zKV zw2 84 [.one (.fp (zaz w) 0),.one (.fn 86 [] [.fp (zak c0) 0])] K :=
  za4 (by kernel_rfl) (zaR hs λ hc hs=>And.intro hc (zAj hs hk rfl))
def zEi : List PA → COut
  | [.one (.fp [.int .i64 zaj,.sl zae zay zaf,.fm za6 zaE zaF] 0),.one (.fn 87 [] [.fp c0_t 0])]=>.det (IsE enc_40 4 zay zaf/\za6=(false,1,false,[none])/\c0_t=zak (zaD c0_t)/\p84 (zaD c0_t) (⟨(⟨zaj,(⟨zae,zam zaf⟩:(Sl Tie))⟩:Net),(⟨zaE,zaF⟩:Mp)⟩:web)=true) [.one (.sl ((s84 (zaD c0_t) (⟨(⟨zaj,(⟨zae,zam zaf⟩:(Sl Tie))⟩:Net),(⟨zaE,zaF⟩:Mp)⟩:web)).len) 1 (λ i=>zab ((s84 (zaD c0_t) (⟨(⟨zaj,(⟨zae,zam zaf⟩:(Sl Tie))⟩:Net),(⟨zaE,zaF⟩:Mp)⟩:web)).get i)))]
  | [.one (.fp [.int .i64 zaj,.sl zae zay zaf,.fm za6 zaE zaF] 0),.one (.fn 85 [] [.fp c0_t 0])]=>.det (IsE enc_40 4 zay zaf/\za6=(false,1,false,[none])/\c0_t=zak (zaD c0_t)/\zKU (zaD c0_t) (⟨(⟨zaj,(⟨zae,zam zaf⟩:(Sl Tie))⟩:Net),(⟨zaE,zaF⟩:Mp)⟩:web)=true) [.one (.sl ((zJX (zaD c0_t) (⟨(⟨zaj,(⟨zae,zam zaf⟩:(Sl Tie))⟩:Net),(⟨zaE,zaF⟩:Mp)⟩:web)).len) 1 (λ i=>zab ((zJX (zaD c0_t) (⟨(⟨zaj,(⟨zae,zam zaf⟩:(Sl Tie))⟩:Net),(⟨zaE,zaF⟩:Mp)⟩:web)).get i)))]
  | [.one (.fp [.int .i64 zaj,.sl zae zay zaf,.fm za6 zaE zaF] 0),.one (.fn 86 [] [.fp c0_t 0])]=>.det (IsE enc_40 4 zay zaf/\za6=(false,1,false,[none])/\c0_t=zak (zaD c0_t)/\zKW (zaD c0_t) (⟨(⟨zaj,(⟨zae,zam zaf⟩:(Sl Tie))⟩:Net),(⟨zaE,zaF⟩:Mp)⟩:web)=true) [.one (.sl ((zJZ (zaD c0_t) (⟨(⟨zaj,(⟨zae,zam zaf⟩:(Sl Tie))⟩:Net),(⟨zaE,zaF⟩:Mp)⟩:web)).len) 1 (λ i=>zab ((zJZ (zaD c0_t) (⟨(⟨zaj,(⟨zae,zam zaf⟩:(Sl Tie))⟩:Net),(⟨zaE,zaF⟩:Mp)⟩:web)).get i)))]
  | _=>.no
theorem zHz:zas Tryd.prog 84:=⟨_,rfl,rfl,by kernel_rfl⟩
theorem zLW:Ok Tryd.prog 84 zEi:=zbs zJV zHz λ args K h=>by
  unfold zEi at h
  split at h
  · rename_i zaj zae zay zaf za6 zaE zaF c0_t
    obtain⟨⟨⟨rfl,zaq,rfl⟩,rfl,hT_c0,hs⟩,hk⟩:=h
    try rw[zan zaq] at hs
    try rw[zan zaq] at hk
    exact⟨(λ _ _=>[]),(λ _=>false),zEg,(by have hq:=q84 (zaD c0_t) (⟨(⟨zaj,(⟨zae,zaq⟩:(Sl Tie))⟩:Net),(⟨zaE,zaF⟩:Mp)⟩:web) K hs hk;rw[<- hT_c0] at hq;exact hq)⟩
  · rename_i zaj zae zay zaf za6 zaE zaF c0_t
    obtain⟨⟨⟨rfl,zaq,rfl⟩,rfl,hT_c0,hs⟩,hk⟩:=h
    try rw[zan zaq] at hs
    try rw[zan zaq] at hk
    exact⟨(λ _ _=>[]),(λ _=>false),zw0,(by have hq:=zLT (zaD c0_t) (⟨(⟨zaj,(⟨zae,zaq⟩:(Sl Tie))⟩:Net),(⟨zaE,zaF⟩:Mp)⟩:web) K hs hk;rw[<- hT_c0] at hq;exact hq)⟩
  · rename_i zaj zae zay zaf za6 zaE zaF c0_t
    obtain⟨⟨⟨rfl,zaq,rfl⟩,rfl,hT_c0,hs⟩,hk⟩:=h
    try rw[zan zaq] at hs
    try rw[zan zaq] at hk
    exact⟨(λ _ _=>[]),(λ _=>false),zw2,(by have hq:=zLV (zaD c0_t) (⟨(⟨zaj,(⟨zae,zaq⟩:(Sl Tie))⟩:Net),(⟨zaE,zaF⟩:Mp)⟩:web) K hs hk;rw[<- hT_c0] at hq;exact hq)⟩
  · exact h.elim
abbrev T45:Tabs:=((((Tabs.nil.addF 74 zwj).addF 76 zwu).addF 83 zEc).addF 84 zEi)
theorem zJ0:TabsOk Tryd.prog T45:=((((TabsOk.nil.addF zJI).addF zJM).addF zLO).addF zLW)
abbrev G45:Ctrs:=csm T45 (λ _ _=>[]) (λ _=>false)
def zHA:Ann:=⟨31,[(0,zK [1,2,3] [3]),(1,zK [1,8,9] []),(2,zK [1,8,9,20] []),(3,zK [6,7] []),(4,zK [1,8,24] []),(5,zK [6,7] []),(6,zK [8,10] [10]),(7,zK [6,7] [])],
 [],
 [],
 [],[]⟩
abbrev R45:=((Sl Int)×Int)
abbrev e45 (r:R45):List PA:=[.one (.sl r.1.len 1 (λ i=>zab (r.1.get i))),.one (.int .i64 r.2)]
section
variable {K:List PA->Prop}{n:Net}{zad:Int}{to:Int}
def s45 (n:Net) (zad:Int) (to:Int):((Sl Int)×Int) :=
  (cond ((s74 n (⟨2, zau (zbv [(zab zad), (zab to)])⟩ : (Sl Int))).2 == 0)
 (cond ((0:Int) != (0:Int))
 ((⟨0,λ _=>default⟩:(Sl Int)),(0:Int))
 (cond (!(s83 (⟨(s74 n (⟨2, zau (zbv [(zab zad), (zab to)])⟩ : (Sl Int))).1.Net, ((s74 n (⟨2, zau (zbv [(zab zad), (zab to)])⟩ : (Sl Int))).1.out)⟩ : web)))
 ((⟨0,λ _=>default⟩:(Sl Int)),(6:Int))
 ((s84 (zaD (zak (s76 (⟨(s74 n (⟨2,zau (zbv [(zab zad),(zab to)])⟩:(Sl Int))).1.Net,((s74 n (⟨2,zau (zbv [(zab zad),(zab to)])⟩:(Sl Int))).1.out)⟩:web) zad))) (⟨(s74 n (⟨2,zau (zbv [(zab zad),(zab to)])⟩:(Sl Int))).1.Net,((s74 n (⟨2,zau (zbv [(zab zad),(zab to)])⟩:(Sl Int))).1.out)⟩:web)),(0:Int))))
 (cond ((s74 n (⟨2, zau (zbv [(zab zad), (zab to)])⟩ : (Sl Int))).2 != (0:Int))
 ((⟨0,λ _=>default⟩:(Sl Int)),(s74 n (⟨2,zau (zbv [(zab zad),(zab to)])⟩:(Sl Int))).2)
 default))
def p45 (n:Net) (zad:Int) (to:Int):Bool :=
  (cond ((s74 n (⟨2, zau (zbv [(zab zad), (zab to)])⟩ : (Sl Int))).2 == 0)
 (decide ((p74 n (⟨2,zau (zbv [(zab zad),(zab to)])⟩:(Sl Int))=true)) &&
 (cond ((0:Int) != (0:Int))
 true
 (decide ((p83 (⟨(s74 n (⟨2,zau (zbv [(zab zad),(zab to)])⟩:(Sl Int))).1.Net,((s74 n (⟨2,zau (zbv [(zab zad),(zab to)])⟩:(Sl Int))).1.out)⟩:web)=true)) &&
 (cond (!(s83 (⟨(s74 n (⟨2, zau (zbv [(zab zad), (zab to)])⟩ : (Sl Int))).1.Net, ((s74 n (⟨2, zau (zbv [(zab zad), (zab to)])⟩ : (Sl Int))).1.out)⟩ : web)))
 true
 (decide ((p76 (⟨(s74 n (⟨2,zau (zbv [(zab zad),(zab to)])⟩:(Sl Int))).1.Net,((s74 n (⟨2,zau (zbv [(zab zad),(zab to)])⟩:(Sl Int))).1.out)⟩:web) zad=true)) &&
 (decide ((p84 (zaD (zak (s76 (⟨(s74 n (⟨2,zau (zbv [(zab zad),(zab to)])⟩:(Sl Int))).1.Net,((s74 n (⟨2,zau (zbv [(zab zad),(zab to)])⟩:(Sl Int))).1.out)⟩:web) zad))) (⟨(s74 n (⟨2,zau (zbv [(zab zad),(zab to)])⟩:(Sl Int))).1.Net,((s74 n (⟨2,zau (zbv [(zab zad),(zab to)])⟩:(Sl Int))).1.out)⟩:web)=true)) &&
 true))))))
 (decide ((p74 n (⟨2,zau (zbv [(zab zad),(zab to)])⟩:(Sl Int))=true)) &&
 (cond ((s74 n (⟨2, zau (zbv [(zab zad), (zab to)])⟩ : (Sl Int))).2 != (0:Int))
 true
 false)))
end
theorem q45 (n:Net) (zad:Int) (to:Int) (K:List PA->Prop) (hs:p45 n zad to=true) (hk:K (e45 (s45 n zad to))):vcFun Tryd.prog G45 zHA 45 [.agg (enc_24 n),.one (.int .i64 zad),.one (.int .i64 to)] (Wk K) :=
  za4 (by kernel_rfl) (zc hs hk (λ hs hk=>(zaR hs λ hc hs=>And.intro (And.intro (zE enc_40 4 n.Ties.get) (And.intro ((zd6 []):IsE zab 1 1 (zbv [(zab zad),(zab to)])) hc)) (zc hs hk (λ hs hk=>((wk hk (zgM (.one (.nil _ _)) (zgM (.one (.rfl _)) znq))):Wk K [.one (.nils),.one (.int .i64 (0:Int))])) (λ hs hk=>(zaR hs λ hc hs=>And.intro (And.intro (zE enc_40 4 ((s74 n (⟨2,zau (zbv [(zab zad),(zab to)])⟩:(Sl Int))).1.Net.Ties.get)) (And.intro (rfl:((false,1,false,[none]):MQ)=(false,1,false,[none])) hc)) (zc hs hk (λ hs hk=>((wk hk (zgM (.one (.nil _ _)) (zgM (.one (.rfl _)) znq))):Wk K [.one (.nils),.one (.int .i64 (6:Int))])) (λ hs hk=>(zaR hs λ hc hs=>And.intro (And.intro (zE enc_40 4 ((s74 n (⟨2,zau (zbv [(zab zad),(zab to)])⟩:(Sl Int))).1.Net.Ties.get)) (And.intro (rfl:((false,1,false,[none]):MQ)=(false,1,false,[none])) hc)) (zaR hs λ hc hs=>And.intro (And.intro (zE enc_40 4 ((s74 n (⟨2,zau (zbv [(zab zad),(zab to)])⟩:(Sl Int))).1.Net.Ties.get)) (And.intro (rfl:((false,1,false,[none]):MQ)=(false,1,false,[none])) (And.intro (zhb:zak (s76 (⟨(s74 n (⟨2,zau (zbv [(zab zad),(zab to)])⟩:(Sl Int))).1.Net,((s74 n (⟨2,zau (zbv [(zab zad),(zab to)])⟩:(Sl Int))).1.out)⟩:web) zad)=zak (zaD (zak (s76 (⟨(s74 n (⟨2,zau (zbv [(zab zad),(zab to)])⟩:(Sl Int))).1.Net,((s74 n (⟨2,zau (zbv [(zab zad),(zab to)])⟩:(Sl Int))).1.out)⟩:web) zad)))) hc))) ((zgm hk):Wk K [.one (.sl ((s84 (zaD (zak (s76 (⟨(s74 n (⟨2,zau (zbv [(zab zad),(zab to)])⟩:(Sl Int))).1.Net,((s74 n (⟨2,zau (zbv [(zab zad),(zab to)])⟩:(Sl Int))).1.out)⟩:web) zad))) (⟨(s74 n (⟨2,zau (zbv [(zab zad),(zab to)])⟩:(Sl Int))).1.Net,((s74 n (⟨2,zau (zbv [(zab zad),(zab to)])⟩:(Sl Int))).1.out)⟩:web)).len) 1 (λ i=>zab ((s84 (zaD (zak (s76 (⟨(s74 n (⟨2,zau (zbv [(zab zad),(zab to)])⟩:(Sl Int))).1.Net,((s74 n (⟨2,zau (zbv [(zab zad),(zab to)])⟩:(Sl Int))).1.out)⟩:web) zad))) (⟨(s74 n (⟨2,zau (zbv [(zab zad),(zab to)])⟩:(Sl Int))).1.Net,((s74 n (⟨2,zau (zbv [(zab zad),(zab to)])⟩:(Sl Int))).1.out)⟩:web)).get i))),.one (.int .i64 (0:Int))])))))))))) (λ hs hk=>(zaR hs λ hc hs=>And.intro (And.intro (zE enc_40 4 n.Ties.get) (And.intro ((zd6 []):IsE zab 1 1 (zbv [(zab zad),(zab to)])) hc)) (zc hs hk (λ hs hk=>((wk hk (zgM (.one (.nil _ _)) (zgM (.one (.rfl _)) znq))):Wk K [.one (.nils),.one (.int .i64 ((s74 n (⟨2,zau (zbv [(zab zad),(zab to)])⟩:(Sl Int))).2))])) (λ hs hk=>(absurd hs dqk:False))))))
def zEj : List PA → COut
  | [.agg [.int .i64 zal,.sl zai zaH zah],.one (.int .i64 a1),.one (.int .i64 a2)]=>.det (IsE enc_40 4 zaH zah/\p45 (⟨zal,(⟨zai,zam zah⟩:(Sl Tie))⟩:Net) a1 a2=true) [.one (.sl (((s45 (⟨zal,(⟨zai,zam zah⟩:(Sl Tie))⟩:Net) a1 a2).1).len) 1 (λ i=>zab (((s45 (⟨zal,(⟨zai,zam zah⟩:(Sl Tie))⟩:Net) a1 a2).1).get i))),.one (.int .i64 ((s45 (⟨zal,(⟨zai,zam zah⟩:(Sl Tie))⟩:Net) a1 a2).2))]
  | _=>.no
theorem zHB:zas Tryd.prog 45:=⟨_,rfl,rfl,by kernel_rfl⟩
theorem zLX:Ok Tryd.prog 45 zEj:=zhB zJ0 zHB λ args K h=>by
  unfold zEj at h
  split at h
  · rename_i zal zai zaH zah a1 a2
    obtain⟨⟨⟨rfl,zax,rfl⟩,hs⟩,hk⟩:=h
    try rw[zan zax] at hs
    try rw[zan zax] at hk
    exact⟨_,zfo zgl _,(λ _ _=>[]),(λ _=>false),zHA,q45 (⟨zal,(⟨zai,zax⟩:(Sl Tie))⟩:Net) a1 a2 K hs hk⟩
  · exact h.elim
abbrev T49:Tabs:=(((Tabs.nil.addF 67 zvm).addF 88 zvr).addF 89 zz6)
theorem zJ1:TabsOk Tryd.prog T49:=(((TabsOk.nil.addF zJf).addF zJk).addF zKP)
abbrev G49:Ctrs:=csm T49 (λ _ _=>[]) (λ _=>false)
def zEk:Ann:=⟨31,[(0,zK [1] [1]),(1,zK [1,10] [1]),(2,zK [2,3] []),(3,zK [4] [13]),(4,zK [4,16] [13]),(5,zK [2,3] []),(6,zK [4,5] [13]),(7,zK [5,18,19,20] []),(8,zK [5,18,19,20,21] [28]),(9,zK [5,7,18,19,20] [7,28]),(10,zK [5,18,19,20] [28]),(11,zK [5,18,19,20] [28]),(12,zK [2,3] [28])],
 [(8,⟨[5,18,19,20],[28],[(5,28,75,λ _=>zaP default)],[],[],[],[]⟩)],
 [(2,zK [1,10] [1]),(3,zK [1] [1]),(5,zK [4,16] [13]),(6,zK [4] [13]),(8,zK [5,18,19,20] [])],
 [],[]⟩
abbrev R49:=((Sl Use)×Int)
abbrev e49 (r:R49):List PA:=[.one (.sl r.1.len 2 (λ i=>zaP (r.1.get i))),.one (.int .i64 r.2)]
@[irreducible] def z49:=ptF Tryd.prog G49 zEk Tryd.f49
def zBz (zcm:(Sl step)) (zcz:Int) (zdo:Int) (zcK:(Sl Use)) (zfI:Nat->List PV):St:=⟨[(5,zv 28),(18,zS zaB 5 zcm),(19,zI zcz),(20,zI zdo)],[(28,.vec 75 2 16 zcK.len zfI)],[]⟩
abbrev zHC (K:List PA->Prop) (zcm:(Sl step)) (zcz:Int) (X:St->Prop) (P:Int->(Sl Use)->Bool) (S:Int->(Sl Use)->((Sl Use)×Int)):Prop:=∀ ⦃zdo:Int⦄ ⦃zcK:(Sl Use)⦄ ⦃zfI:Nat->List PV⦄,P zdo zcK=true->K (e49 (S zdo zcK))->zfI=zg zaP zcK->X (zBz zcm zcz zdo zcK zfI)
section
variable {K:List PA->Prop}{n:Net}{za1:Bool}{zqy:Bool}{zcm:(Sl step)}{zcz:Int}{zw4:Nat->List PV}{zdo:Int}{zcK:(Sl Use)}{zfI:Nat->List PV}{X5:St->Prop}{P5:Int->(Sl Use)->Bool}{S5:Int->(Sl Use)->((Sl Use)×Int)}
def zw5 (zcm:(Sl step)) (zcz:Int) (S5:Int->(Sl Use)->((Sl Use)×Int)) (zdo:Int) (zcK:(Sl Use)):((Sl Use)×Int) :=
  (cond (decide (zdo < zcz))
 (S5 (w64 (zdo+(1:Int))) (⟨(zcK.len+1),(zfn zcK.len zcK.get (λ _=>(zcm.get zdo.toNat).Use))⟩:Sl Use))
 (zcK,(0:Int)))
def zw6 (zcm:(Sl step)) (zcz:Int) (P5:Int->(Sl Use)->Bool) (zdo:Int) (zcK:(Sl Use)):Bool :=
  (cond (decide (zdo < zcz))
 (decide ((0<=zdo/\zdo < (zcm.len:Int))) &&
 (decide (((zcK.len+1) * 16<=140737488355328/\zcK.len+1<=9223372036854775807)) &&
 (P5 (w64 (zdo+(1:Int))) (⟨(zcK.len+1),(zfn zcK.len zcK.get (λ _=>(zcm.get zdo.toNat).Use))⟩:Sl Use))))
 true)
def zw7 (zcm:(Sl step)) (zcz:Int):Nat->Int->(Sl Use)->((Sl Use)×Int):=lpO (λ _ _=>default) (zw5 zcm zcz)
def zw8 (zcm:(Sl step)) (zcz:Int):Nat->Int->(Sl Use)->Bool:=lpO (λ _ _=>false) (zw6 zcm zcz)
def zw9 (zcm:(Sl step)) (zcz:Int) (zdo:Int) (zcK:(Sl Use)):((Sl Use)×Int):=zw7 zcm zcz Fuel zdo zcK
def zxa (zcm:(Sl step)) (zcz:Int) (zdo:Int) (zcK:(Sl Use)):Bool:=zw8 zcm zcz Fuel zdo zcK
theorem zEl (hs:zxa zcm zcz zdo zcK=true) (hk:K (e49 (zw9 zcm zcz zdo zcK))) (zqz:zfI=zg zaP zcK):z49 (Wk K) [1,1,1,1,1,0,1,0] [] (zBz zcm zcz zdo zcK zfI) :=
  zl (λ X=>z49 (Wk K) [1,1,1,1,1,0,1,0,0] [X]) (by kernel_rfl) λ X5 hX =>
  (show ∀ k, zHC K zcm zcz X5 (zw8 zcm zcz k) (zw7 zcm zcz k) from zfc _ _ (zw6 zcm zcz) (zw5 zcm zcz) (zHC K zcm zcz X5)
 (by intro _ _ _ hs;exact absurd hs dqk)
 (by intro P5 S5 hX5 zdo zcK zfI hs hk zqz;subst zqz;exact hX _ (za4 (by kernel_rfl) (zc hs hk (λ hs hk=>(zaR hs λ hc hs=>And.intro hc (zaR hs λ hc hs=>And.intro hc (hX5 hs hk (zkj (enc:=zaP) (f:=zcK.get) (h:=(λ _=>(zcm.get zdo.toNat).Use)) rfl rfl))))) (λ hs hk=>((zgm hk):Wk K [.one (.sl zcK.len 2 (λ i=>zaP (zcK.get i))),.one (.int .i64 (0:Int))])))))) _ hs hk zqz
def zxb (zcm:(Sl step)) (zcz:Int):((Sl Use)×Int) :=
  (zw9 zcm zcz (0:Int) (⟨0,(λ _=>default)⟩:Sl Use))
def zxc (zcm:(Sl step)) (zcz:Int):Bool :=
  (zxa zcm zcz (0:Int) (⟨0,(λ _=>default)⟩:Sl Use))
theorem zEm (hs:zxc zcm zcz=true) (hk:K (e49 (zxb zcm zcz))) (zEn:zw4=zg zaB zcm):z49 (Wk K) [1,1,1,1,1,0,1] [] ⟨[(5,zP (.nils)),(18,zP (.sl zcm.len 5 zw4)),(19,zI zcz),(20,zI (0:Int))],[],[]⟩:=by subst zEn;exact za4 (by kernel_rfl) (zEl hs hk rfl)
def zxd (n:Net):((Sl Use)×Int) :=
  (zxb (s89 (⟨n,(⟨0,(λ _=>none)⟩:Mp)⟩:web)) ((s89 (⟨n,(⟨0,(λ _=>none)⟩:Mp)⟩:web)).len:Int))
def zxe (n:Net):Bool :=
  (decide ((p89 (⟨n,(⟨0,(λ _=>none)⟩:Mp)⟩:web)=true)) &&
 (zxc (s89 (⟨n,(⟨0,(λ _=>none)⟩:Mp)⟩:web)) ((s89 (⟨n,(⟨0,(λ _=>none)⟩:Mp)⟩:web)).len:Int)))
theorem zEo (hs:zxe n=true) (hk:K (e49 (zxd n))):z49 (Wk K) [1,1,1,1] [] ⟨[(4,zp 13 0)],[(13,.box 105 (zm (zaz (⟨n,(⟨0,(λ _=>none)⟩:Mp)⟩:web))))],[]⟩:=za4 (by kernel_rfl) (zaR hs λ hc hs=>And.intro (And.intro ((λ _=>rfl):(∀ i,sc2 ((λ i=>zaB ((s89 (⟨n,(⟨0,(λ _=>none)⟩:Mp)⟩:web)).get i)) i)=true)) (And.intro (zE enc_40 4 n.Ties.get) (And.intro (rfl:((false,1,false,[none]):MQ)=(false,1,false,[none])) hc))) (zEm hs hk rfl))
def zxf (n:Net) (zqy:Bool):((Sl Use)×Int) :=
  (cond zqy
 ((⟨0,λ _=>default⟩:(Sl Use)),(6:Int))
 (zxd n))
def zxg (n:Net) (zqy:Bool):Bool :=
  (cond zqy
 true
 (zxe n))
theorem zEp (hs:zxg n zqy=true) (hk:K (e49 (zxf n zqy))):z49 (Wk K) [1,1,1,0,1] [] ⟨[(4,zp 13 0),(16,zB zqy)],[(13,.box 105 (zm (zaz (⟨n,(⟨0,(λ _=>none)⟩:Mp)⟩:web))))],[]⟩:=za4 (by kernel_rfl) (zc hs hk (λ hs hk=>((wk hk (zgM (.one (.nil _ _)) (zgM (.one (.rfl _)) znq))):Wk K [.one (.nils),.one (.int .i64 (6:Int))])) (λ hs hk=>(zEo hs hk)))
def zxh (n:Net):((Sl Use)×Int) :=
  (zxf n (!(s88 (⟨n,(⟨0,(λ _=>none)⟩:Mp)⟩:web))))
def zxi (n:Net):Bool :=
  (decide ((p88 (⟨n,(⟨0,(λ _=>none)⟩:Mp)⟩:web)=true)) &&
 (zxg n (!(s88 (⟨n,(⟨0,(λ _=>none)⟩:Mp)⟩:web)))))
theorem zEq (hs:zxi n=true) (hk:K (e49 (zxh n))):z49 (Wk K) [1,1] [] ⟨[(1,zp 1 0)],[(1,.box 24 (zm (enc_24 n)))],[]⟩:=za4 (by kernel_rfl) (zaR hs λ hc hs=>And.intro (And.intro (zE enc_40 4 n.Ties.get) (And.intro (rfl:((false,1,false,[none]):MQ)=(false,1,false,[none])) hc)) (zEp hs hk))
def zxj (n:Net) (za1:Bool):((Sl Use)×Int) :=
  (cond za1
 ((⟨0,λ _=>default⟩:(Sl Use)),(2:Int))
 (zxh n))
def zxk (n:Net) (za1:Bool):Bool :=
  (cond za1
 true
 (zxi n))
theorem zEr (hs:zxk n za1=true) (hk:K (e49 (zxj n za1))):z49 (Wk K) [1,0,1] [] ⟨[(1,zp 1 0),(10,zB za1)],[(1,.box 24 (zm (enc_24 n)))],[]⟩:=za4 (by kernel_rfl) (zc hs hk (λ hs hk=>((wk hk (zgM (.one (.nil _ _)) (zgM (.one (.rfl _)) znq))):Wk K [.one (.nils),.one (.int .i64 (2:Int))])) (λ hs hk=>(zEq hs hk)))
def s49 (n:Net):((Sl Use)×Int) :=
  (zxj n (!(s67 n)))
def p49 (n:Net):Bool :=
  (decide ((p67 n=true)) &&
 (zxk n (!(s67 n))))
end
theorem q49 (n:Net) (K:List PA->Prop) (hs:p49 n=true) (hk:K (e49 (s49 n))):vcFun Tryd.prog G49 zEk 49 [.agg (enc_24 n)] (Wk K) :=
  za4 (by kernel_rfl) (zaR hs λ hc hs=>And.intro (And.intro (zE enc_40 4 n.Ties.get) hc) (zEr hs hk))
def zEs : List PA → COut
  | [.agg [.int .i64 zal,.sl zai zaH zah]]=>.det (IsE enc_40 4 zaH zah/\p49 (⟨zal,(⟨zai,zam zah⟩:(Sl Tie))⟩:Net)=true) [.one (.sl (((s49 (⟨zal,(⟨zai,zam zah⟩:(Sl Tie))⟩:Net)).1).len) 2 (λ i=>zaP (((s49 (⟨zal,(⟨zai,zam zah⟩:(Sl Tie))⟩:Net)).1).get i))),.one (.int .i64 ((s49 (⟨zal,(⟨zai,zam zah⟩:(Sl Tie))⟩:Net)).2))]
  | _=>.no
theorem zHD:zas Tryd.prog 49:=⟨_,rfl,rfl,by kernel_rfl⟩
theorem zLY:Ok Tryd.prog 49 zEs:=zhB zJ1 zHD λ args K h=>by
  unfold zEs at h
  split at h
  · rename_i zal zai zaH zah
    obtain⟨⟨⟨rfl,zax,rfl⟩,hs⟩,hk⟩:=h
    try rw[zan zax] at hs
    try rw[zan zax] at hk
    exact⟨_,zfo zgl _,(λ _ _=>[]),(λ _=>false),zEk,q49 (⟨zal,(⟨zai,zax⟩:(Sl Tie))⟩:Net) K hs hk⟩
  · exact h.elim
abbrev T53:Tabs:=Tabs.nil
theorem zJ2:TabsOk Tryd.prog T53:=TabsOk.nil
abbrev G53:Ctrs:=csm T53 (λ _ _=>[]) (λ _=>false)
def zEt:Ann:=⟨26,[(0,zK [0,1] []),(1,zK [0,1,10] []),(2,zK [4] []),(3,zK [0,1,5] []),(4,zK [0,1,5,14] []),(5,zK [0,1,5] []),(6,zK [0,1,5,25] []),(7,zK [4] []),(8,zK [4] [])],
 [(4,zK [0,1,5] [])],
 [(3,zK [0,1] [])],
 [],[]⟩
abbrev R53:=Bool
abbrev e53 (r:R53):List PA:=[.one (.bool r)]
@[irreducible] def z53:=ptF Tryd.prog G53 zEt Tryd.f53
def zBA (a:(Sl Use)) (b:(Sl Use)) (iv1:Int):St:=⟨[(0,zS zaP 2 a),(1,zS zaP 2 b),(5,zI iv1)],[],[]⟩
abbrev zHE (K:List PA->Prop) (a:(Sl Use)) (b:(Sl Use)) (X:St->Prop) (P:Int->Bool) (S:Int->Bool):Prop:=∀ ⦃iv1:Int⦄,P iv1=true->K (e53 (S iv1))->X (zBA a b iv1)
section
variable {K:List PA->Prop}{a:(Sl Use)}{b:(Sl Use)}{iv1:Int}{X1:St->Prop}{P1:Int->Bool}{S1:Int->Bool}
def zxl (a:(Sl Use)) (b:(Sl Use)) (S1:Int->Bool) (iv1:Int):Bool :=
  (cond (decide (iv1 < (a.len : Int)))
 (cond (!(match ((a.get iv1.toNat).Tie == (b.get iv1.toNat).Tie) with | true => (match ((a.get iv1.toNat).Back == (b.get iv1.toNat).Back) with | true => true | false => false) | false => false))
 false
 (S1 (w64 (iv1+(1:Int)))))
 true)
def zxm (a:(Sl Use)) (b:(Sl Use)) (P1:Int->Bool) (iv1:Int):Bool :=
  (cond (decide (iv1 < (a.len : Int)))
 (decide ((0<=iv1/\iv1 < (a.len:Int))) &&
 (decide ((0<=iv1/\iv1 < (b.len:Int))) &&
 (cond (!(match ((a.get iv1.toNat).Tie == (b.get iv1.toNat).Tie) with | true => (match ((a.get iv1.toNat).Back == (b.get iv1.toNat).Back) with | true => true | false => false) | false => false))
 true
 (P1 (w64 (iv1+(1:Int)))))))
 true)
def zxn (a:(Sl Use)) (b:(Sl Use)):Nat->Int->Bool:=lpO (λ _=>default) (zxl a b)
def zxo (a:(Sl Use)) (b:(Sl Use)):Nat->Int->Bool:=lpO (λ _=>false) (zxm a b)
def zxp (a:(Sl Use)) (b:(Sl Use)) (iv1:Int):Bool:=zxn a b Fuel iv1
def zxq (a:(Sl Use)) (b:(Sl Use)) (iv1:Int):Bool:=zxo a b Fuel iv1
theorem zEu (hs:zxq a b iv1=true) (hk:K (e53 (zxp a b iv1))):z53 K [1,1,0,1,0] [] (zBA a b iv1) :=
  zl (λ X=>z53 K [1,1,0,1,0,0] [X]) (by kernel_rfl) λ X1 hX =>
  (show ∀ k, zHE K a b X1 (zxo a b k) (zxn a b k) from zfc _ _ (zxm a b) (zxl a b) (zHE K a b X1)
 (by intro _ hs;exact absurd hs dqk)
 (by intro P1 S1 hX1 iv1 hs hk;exact hX _ (za4 (by kernel_rfl) (zc hs hk (λ hs hk=>(zaR hs λ hc hs=>And.intro hc (zaR hs λ hc hs=>And.intro hc (zc hs hk (λ hs hk=>hk) (λ hs hk=>(hX1 hs hk)))))) (λ hs hk=>hk))))) _ hs hk
def zxr (a:(Sl Use)) (b:(Sl Use)):Bool :=
  (zxp a b (0:Int))
def zxs (a:(Sl Use)) (b:(Sl Use)):Bool :=
  (zxq a b (0:Int))
theorem zEv (hs:zxs a b=true) (hk:K (e53 (zxr a b))):z53 K [1,1] [] ⟨[(0,zS zaP 2 a),(1,zS zaP 2 b)],[],[]⟩:=za4 (by kernel_rfl) (zEu hs hk)
def s53 (a:(Sl Use)) (b:(Sl Use)):Bool :=
  (cond ((a.len : Int) != (b.len : Int))
 false
 (zxr a b))
def p53 (a:(Sl Use)) (b:(Sl Use)):Bool :=
  (cond ((a.len : Int) != (b.len : Int))
 true
 (zxs a b))
end
theorem q53 (a:(Sl Use)) (b:(Sl Use)) (K:List PA->Prop) (hs:p53 a b=true) (hk:K (e53 (s53 a b))):vcFun Tryd.prog G53 zEt 53 [.one (.sl a.len 2 (λ i=>zaP (a.get i))),.one (.sl b.len 2 (λ i=>zaP (b.get i)))] K :=
  za4 (by kernel_rfl) (zc hs hk (λ hs hk=>hk) (λ hs hk=>(zEv hs hk)))
def zEw : List PA → COut
  | [.one (.sl zeC zkp zeD),.one (.sl zeE zk2 zeA)]=>.det (IsE zaP 2 zkp zeD/\IsE zaP 2 zk2 zeA/\p53 (⟨zeC,zcV zeD⟩:(Sl Use)) (⟨zeE,zcV zeA⟩:(Sl Use))=true) [.one (.bool (s53 (⟨zeC,zcV zeD⟩:(Sl Use)) (⟨zeE,zcV zeA⟩:(Sl Use))))]
  | _=>.no
theorem zHF:zas Tryd.prog 53:=⟨_,rfl,rfl,by kernel_rfl⟩
theorem zLZ:Ok Tryd.prog 53 zEw:=zbs zJ2 zHF λ args K h=>by
  unfold zEw at h
  split at h
  · rename_i zeC zkp zeD zeE zk2 zeA
    obtain⟨⟨⟨rfl,zgB,rfl⟩,⟨rfl,zhK,rfl⟩,hs⟩,hk⟩:=h
    try rw[zcW zgB] at hs
    try rw[zcW zgB] at hk
    try rw[zcW zhK] at hs
    try rw[zcW zhK] at hk
    exact⟨(λ _ _=>[]),(λ _=>false),zEt,q53 (⟨zeC,zgB⟩:(Sl Use)) (⟨zeE,zhK⟩:(Sl Use)) K hs hk⟩
  · exact h.elim
abbrev T92:Tabs:=((Tabs.nil.addF 93 zok).addI 110 zom)
theorem zJ3:TabsOk Tryd.prog T92:=((TabsOk.nil.addF zFD).addI ztj)
abbrev G92:Ctrs:=csm T92 (λ _ _=>[]) (λ _=>false)
def ziY:Ann:=⟨49,[(0,zK [0,1,2,3,4] [0,1,2,3,4,4099]),(1,zK [0,1,2,3,4,7] [0,1,2,3,4,4099]),(2,zK [0,1,2,3,4,5,7] [0,1,2,3,4,5,4099]),(3,zK [0,1,2,3,4,5,7,41] [0,1,2,3,4,5,4099]),(4,zK [0,1,2,3,4,5] [0,1,2,3,4,5,4099]),(5,zK [0,1,2,3,4] [0,1,2,3,4,4099]),(6,zK [0,1,2,3,4] [0,1,2,3,4,4099]),(7,zK [0,1,2,3,4] [0,1,2,3,4,4099])],
 [(2,zK [0,1,2,3,4,7] [0,1,2,3,4,4099])],
 [],
 [],[]⟩
def zfJ (w:web) (at_:Int) (d:Tab) (out:(Sl Use)):St:=⟨[(0,.one (.c (.ptr 0 0))),(1,.one (.c (.ptr 1 0))),(2,.one (.c (.ptr 2 0))),(3,.one (.c (.ptr 3 0))),(4,.one (.c (.ptr 4 0))),(7,.one (.c (.p (.fn 110 [] [.fp [.fp (zaz w) 0] 0]))))],[(0,.box 102 [.p (.fp (zaz w) 0)]),(1,.box 3 [.p (.int .i64 at_)]),(2,.box 116 (zm (zak d))),(3,.box 67 [.vec 4099]),(4,.box 4 [.p (.bool false)]),(4099,.vec 75 2 16 out.len (λ i=>zaP (out.get i)))],[]⟩
def zkC (K:List PA×List XA->Prop) (w:web) (at_:Int) (d:Tab) (out:(Sl Use)):Prop:=vc Tryd.prog G92 ziY (cdF Tryd.f92 [1,0,1,0]) (ze4 0 (sqK Tryd.prog G92 ziY (cdF Tryd.f92 [1,1]) (zk1 Tryd.prog Tryd.f92 [.box 102 [.p (.fp (zaz w) 0)],.box 3 [.p (.int .i64 at_)],.box 116 (xcm (zak d)),.box 67 [.vec 75 2 16 out.len (λ i=>zaP (out.get i))]] (λ a b=>K (a,b))))) (zfJ w at_ d out)
theorem zEx (w : web) (at_ : Int) (d : Tab) (out : (Sl Use)) (K : List PA × List XA → Prop) :
  zkf Tryd.prog G92 ziY 92 [.box 102 [.p (.fp (zaz w) 0)],.box 3 [.p (.int .i64 at_)],.box 116 (xcm (zak d)),.box 67 [.vec 75 2 16 out.len (λ i=>zaP (out.get i))]] (λ a b=>K (a,b)) =
  ((IsE enc_40 4 4 (λ i=>enc_40 (w.Net.Ties.get i))/\((false,1,false,[none]):MQ)=(false,1,false,[none])) /\
 (zkC K w at_ d out)):=by kernel_rfl
def zoC (K:List PA×List XA->Prop) (w:web) (at_:Int) (d:Tab) (out:(Sl Use)):Prop :=
  (K ([.one (.bool false)],[.box 102 [.p (.fp (zaz w) 0)],.box 3 [.p (.int .i64 at_)],.box 116 (xcm (zak d)),.box 67 [.vec 75 2 16 out.len (λ i=>zaP (out.get i))]]))
def zoD (K:List PA×List XA->Prop) (X0:List (List PA)->St->Prop) (y0:step) (rest0:List (List PA)) (w:web) (at_:Int) (d:Tab) (out:(Sl Use)):Prop :=
  (zdl (y0.from_ == at_)
 (((0<=y0.to/\y0.to < (40:Int))) /\
 (zdl (!(match ((tg 80 d (0 + y0.to.toNat * 2 + 0)) == (1000000000000:Int)) with | true => (match ((tg 80 d (0 + y0.to.toNat * 2 + 0 + 1)) == (0:Int)) with | true => true | false => false) | false => false))
 (((0<=y0.to/\y0.to < (40:Int))) /\
 (((0<=y0.to/\y0.to < (40:Int))) /\
 (((0<=at_/\at_ < (40:Int))) /\
 (zdl (match ((w64 ((tg 80 d (0 + y0.to.toNat * 2 + 0)) + y0.length)) == (tg 80 d (0 + at_.toNat * 2 + 0))) with | true => (match ((w64 ((tg 80 d (0 + y0.to.toNat * 2 + 1)) + (1:Int))) == (tg 80 d (0 + at_.toNat * 2 + 0 + 1))) with | true => true | false => false) | false => false)
 ((((out.len+1) * 16<=140737488355328/\out.len+1<=9223372036854775807)) /\
 (K ([.one (.bool true)],[.box 102 [.p (.fp (zaz w) 0)],.box 3 [.p (.int .i64 y0.to)],.box 116 (xcm (zak d)),.box 67 [.vec 75 2 16 (out.len+1) (appG out.len (λ i=>zaP (out.get i)) (λ _=>(zaP y0.Use)))]])))
 (X0 rest0 (zfJ w at_ d out))))))
 (X0 rest0 (zfJ w at_ d out))))
 (X0 rest0 (zfJ w at_ d out)))
theorem zqA (K:List PA×List XA->Prop) (w:web) (at_:Int) (d:Tab) (out:(Sl Use)):(ze4 0 (sqK Tryd.prog G92 ziY (cdF Tryd.f92 [1,1]) (zk1 Tryd.prog Tryd.f92 [.box 102 [.p (.fp (zaz w) 0)],.box 3 [.p (.int .i64 at_)],.box 116 (xcm (zak d)),.box 67 [.vec 75 2 16 out.len (λ i=>zaP (out.get i))]] (λ a b=>K (a,b))))) .normal (zfJ w at_ d out)=zoC K w at_ d out:=by kernel_rfl
theorem zqB (K : List PA × List XA → Prop) (X0 : List (List PA) → St → Prop) (y0 : step) (rest0 : List (List PA)) (w : web) (at_ : Int) (d : Tab) (out : (Sl Use)) :
  zI6 Tryd.prog G92 ziY 2 [8] (cd (cdF Tryd.f92 [1,0,1,0]) [0]) (cd (cdF Tryd.f92 [1,0,1,0]) [1]) X0 (ze4 0 (sqK Tryd.prog G92 ziY (cdF Tryd.f92 [1,1]) (zk1 Tryd.prog Tryd.f92 [.box 102 [.p (.fp (zaz w) 0)],.box 3 [.p (.int .i64 at_)],.box 116 (xcm (zak d)),.box 67 [.vec 75 2 16 out.len (λ i=>zaP (out.get i))]] (λ a b=>K (a,b))))) [.agg (zaB y0)] rest0 (zfJ w at_ d out)=zoD K X0 y0 rest0 w at_ d out:=by kernel_rfl
theorem zxt (K : List PA × List XA → Prop) (w : web) (at_ : Int) (d : Tab) (out : (Sl Use))
  (hsafe:IsE enc_40 4 4 (λ i=>enc_40 (w.Net.Ties.get i))/\((false,1,false,[none]):MQ)=(false,1,false,[none])/\(ztt w=true)) (h:∀ X0:List (List PA)->St->Prop,(∀ (_:Unit),zoC K w at_ d out->X0 [] (zfJ w at_ d out))->(∀ (y:step) (rest:List (List PA)) (_:Unit),zoD K X0 y rest w at_ d out->X0 ([.agg (zaB y)] :: rest) (zfJ w at_ d out))->X0 ((zkn w).map λ y=>[.agg (zaB y)]) (zfJ w at_ d out)) :
  zkC K w at_ d out:=by
  have e:zkC K w at_ d out=((IsE enc_40 4 4 (λ i=>enc_40 (w.Net.Ties.get i))/\((false,1,false,[none]):MQ)=(false,1,false,[none])/\(ztt w=true))/\∀ X:List (List PA)->St->Prop,(∀ s,(ze4 0 (sqK Tryd.prog G92 ziY (cdF Tryd.f92 [1,1]) (zk1 Tryd.prog Tryd.f92 [.box 102 [.p (.fp (zaz w) 0)],.box 3 [.p (.int .i64 at_)],.box 116 (xcm (zak d)),.box 67 [.vec 75 2 16 out.len (λ i=>zaP (out.get i))]] (λ a b=>K (a,b))))) .normal s->X [] s)->(∀ y rest s,zI6 Tryd.prog G92 ziY 2 [8] (cd (cdF Tryd.f92 [1,0,1,0]) [0]) (cd (cdF Tryd.f92 [1,0,1,0]) [1]) X (ze4 0 (sqK Tryd.prog G92 ziY (cdF Tryd.f92 [1,1]) (zk1 Tryd.prog Tryd.f92 [.box 102 [.p (.fp (zaz w) 0)],.box 3 [.p (.int .i64 at_)],.box 116 (xcm (zak d)),.box 67 [.vec 75 2 16 out.len (λ i=>zaP (out.get i))]] (λ a b=>K (a,b))))) y rest s->X (y :: rest) s)->X ((zkn w).map λ y=>[.agg (zaB y)]) (zfJ w at_ d out)):=by kernel_rfl
  refine za4 e ⟨hsafe,?_⟩
  intro X h0 h1
  refine h X (λ _ hs=>h0 _ ?_) (λ y rest _ hs=>h1 _ rest _ ?_)
  · rw[zqA K w at_ d out];exact hs
  · have e2 := zqB K X y rest w at_ d out
    rw[e2];exact hs
abbrev e92 (w:web) (d:Tab) (r:(Bool×Int×(Sl Use))):List PA×List XA:=([.one (.bool r.1)],[.box 102 [.p (.fp (zaz w) 0)],.box 3 [.p (.int .i64 r.2.1)],.box 116 (xcm (zak d)),.box 67 [.vec 75 2 16 r.2.2.len (λ i=>zaP (r.2.2.get i))]])
attribute [irreducible] zkC
def zqC (w:web) (at_:Int) (d:Tab) (out:(Sl Use)):(Bool×Int×(Sl Use)) :=
  (false,at_,(⟨out.len,out.get⟩:(Sl Use)))
def zqD (w:web) (at_:Int) (d:Tab) (out:(Sl Use)):Bool :=
  true
def zqE (w:web) (at_:Int) (d:Tab) (out:(Sl Use)) (y0:step) (S0:(Bool×Int×(Sl Use))):(Bool×Int×(Sl Use)) :=
  (cond (y0.from_ == at_)
 (cond (!(match ((tg 80 d (0 + y0.to.toNat * 2 + 0)) == (1000000000000:Int)) with | true => (match ((tg 80 d (0 + y0.to.toNat * 2 + 0 + 1)) == (0:Int)) with | true => true | false => false) | false => false))
 (cond (match ((w64 ((tg 80 d (0 + y0.to.toNat * 2 + 0)) + y0.length)) == (tg 80 d (0 + at_.toNat * 2 + 0))) with | true => (match ((w64 ((tg 80 d (0 + y0.to.toNat * 2 + 1)) + (1:Int))) == (tg 80 d (0 + at_.toNat * 2 + 0 + 1))) with | true => true | false => false) | false => false)
 (true,y0.to,(⟨(out.len+1),(zfn out.len out.get (λ _=>y0.Use))⟩:(Sl Use)))
 (S0))
 (S0))
 (S0))
def zqF (w:web) (at_:Int) (d:Tab) (out:(Sl Use)) (y0:step) (P0:Bool):Bool :=
  (cond (y0.from_ == at_)
 (decide ((0<=y0.to/\y0.to < (40:Int))) &&
 (cond (!(match ((tg 80 d (0 + y0.to.toNat * 2 + 0)) == (1000000000000:Int)) with | true => (match ((tg 80 d (0 + y0.to.toNat * 2 + 0 + 1)) == (0:Int)) with | true => true | false => false) | false => false))
 (decide ((0<=y0.to/\y0.to < (40:Int))) &&
 (decide ((0<=y0.to/\y0.to < (40:Int))) &&
 (decide ((0<=at_/\at_ < (40:Int))) &&
 (cond (match ((w64 ((tg 80 d (0 + y0.to.toNat * 2 + 0)) + y0.length)) == (tg 80 d (0 + at_.toNat * 2 + 0))) with | true => (match ((w64 ((tg 80 d (0 + y0.to.toNat * 2 + 1)) + (1:Int))) == (tg 80 d (0 + at_.toNat * 2 + 0 + 1))) with | true => true | false => false) | false => false)
 (decide (((out.len+1) * 16<=140737488355328/\out.len+1<=9223372036854775807)) &&
 true)
 (P0)))))
 (P0)))
 (P0))
def zkD (w : web) (at_ : Int) (d : Tab) (out : (Sl Use)) : List step → (Bool × Int × (Sl Use))
  | []=>zqC w at_ d out
  | y :: r=>zqE w at_ d out y (zkD w at_ d out r)
def zkE (w : web) (at_ : Int) (d : Tab) (out : (Sl Use)) : List step → Bool
  | []=>zqD w at_ d out
  | y :: r=>zqF w at_ d out y (zkE w at_ d out r)
def zxu (w:web) (at_:Int) (d:Tab) (out:(Sl Use)):(Bool×Int×(Sl Use)):=zkD w at_ d out (zkn w)
def zqG (w:web) (at_:Int) (d:Tab) (out:(Sl Use)):Bool:=decide ((ztt w=true)) && zkE w at_ d out (zkn w)
theorem zEy (K:List PA×List XA->Prop) (w:web) (at_:Int) (d:Tab) (out:(Sl Use)) (hs:zqG w at_ d out=true) (hk:K (e92 w d (zxu w at_ d out))):zkC K w at_ d out:=by
  unfold zqG at hs
  rw[dqm] at hs
  obtain⟨hsf,hs⟩:=hs
  have hc:=of_decide_eq_true hsf
  refine zxt K w at_ d out ⟨isE,rfl,hc⟩ ?_
  intro X0 hexit hstep
  have key:∀ (l:List step),zkE w at_ d out l=true->K (e92 w d (zkD w at_ d out l))->X0 (l.map λ y=>[.agg (zaB y)]) (zfJ w at_ d out):=by
    intro l
    induction l with
    | nil =>
      intro hs hk
      refine hexit () ?_
      have hs:zqD w at_ d out=true:=hs
      have hk:K (e92 w d (zqC w at_ d out)):=hk
      unfold zqD at hs
      unfold zqC at hk
      exact hk
    | cons y0 l ih =>
      intro hs hk
      refine hstep y0 _ () ?_
      have hs:zqF w at_ d out y0 (zkE w at_ d out l)=true:=hs
      have hk:K (e92 w d (zqE w at_ d out y0 (zkD w at_ d out l))):=hk
      unfold zqF at hs
      unfold zqE at hk
      generalize zkD w at_ d out l=S0 at hk ih
      generalize zkE w at_ d out l=P0 at hs ih
      have hX0:=ih
      exact (zeU (K := λ r => K (e92 w d r))
 (λ hs hk => (zaR hs λ hc hs => ⟨hc, (zeU (K := λ r => K (e92 w d r))
 (λ hs hk => (zaR hs λ hc hs => ⟨hc, (zaR hs λ hc hs => ⟨hc, (zaR hs λ hc hs => ⟨hc, (zeU (K := λ r => K (e92 w d r))
 (λ hs hk=>(zaR hs λ hc hs=>⟨hc,(Eq.mpr (congrArg K (congrArg (λ (g_:Nat->List PV)=>(([.one (.bool true)],[.box 102 [.p (.fp (zaz w) 0)],.box 3 [.p (.int .i64 y0.to)],.box 116 (xcm (zak d)),.box 67 [.vec 75 2 16 (out.len+1) g_]]):List PA×List XA)) (zkj (enc:=zaP) (f:=out.get) (h:=(λ _=>y0.Use)) rfl rfl))) hk)⟩))
 (λ hs hk=>(hX0 hs hk)) hs hk)⟩)⟩)⟩))
 (λ hs hk=>(hX0 hs hk)) hs hk)⟩))
 (fun hs hk=>(hX0 hs hk)) hs hk)
  exact key _ hs hk
def s92 (w:web) (at_:Int) (d:Tab) (out:(Sl Use)):(Bool×Int×(Sl Use)) :=
  (zxu w at_ d out)
def p92 (w:web) (at_:Int) (d:Tab) (out:(Sl Use)):Bool :=
  (zqG w at_ d out)
theorem q92 (w:web) (at_:Int) (d:Tab) (out:(Sl Use)) (K:List PA×List XA->Prop) (hs:p92 w at_ d out=true) (hk:K (e92 w d (s92 w at_ d out))):zkf Tryd.prog G92 ziY 92 [.box 102 [.p (.fp (zaz w) 0)],.box 3 [.p (.int .i64 at_)],.box 116 (xcm (zak d)),.box 67 [.vec 75 2 16 out.len (λ i=>zaP (out.get i))]] (λ a b=>K (a,b)):=by
  refine za4 (zEx w at_ d out K) ?_
  unfold p92 at hs
  unfold s92 at hk
  exact⟨⟨isE,rfl⟩,(zEy K w at_ d out hs hk)⟩
def zEz : MK
  | [.box 102 [.p (.fp [.int .i64 zav,.sl zar zbx zao,.fm zc8 zaM zaN] 0)],.box 3 [.p (.int .i64 b1)],.box 116 zk7,.box 67 [.vec 75 2 16 zEA zEB]]=>some (IsE enc_40 4 zbx zao/\zc8=(false,1,false,[none])/\zk7=xcm (zak (zaD (unX zk7)))/\IsE zaP 2 2 zEB/\p92 (⟨(⟨zav,(⟨zar,zam zao⟩:(Sl Tie))⟩:Net),(⟨zaM,zaN⟩:Mp)⟩:web) b1 (zaD (unX zk7)) (⟨zEA,zcV zEB⟩:(Sl Use))=true,[.one (.bool ((s92 (⟨(⟨zav,(⟨zar,zam zao⟩:(Sl Tie))⟩:Net),(⟨zaM,zaN⟩:Mp)⟩:web) b1 (zaD (unX zk7)) (⟨zEA,zcV zEB⟩:(Sl Use))).1))],[.box 102 [.p (.fp [.int .i64 zav,.sl zar zbx zao,.fm zc8 zaM zaN] 0)],.box 3 [.p (.int .i64 ((s92 (⟨(⟨zav,(⟨zar,zam zao⟩:(Sl Tie))⟩:Net),(⟨zaM,zaN⟩:Mp)⟩:web) b1 (zaD (unX zk7)) (⟨zEA,zcV zEB⟩:(Sl Use))).2.1))],.box 116 zk7,.box 67 [.vec 75 2 16 (((s92 (⟨(⟨zav,(⟨zar,zam zao⟩:(Sl Tie))⟩:Net),(⟨zaM,zaN⟩:Mp)⟩:web) b1 (zaD (unX zk7)) (⟨zEA,zcV zEB⟩:(Sl Use))).2.2).len) (λ i=>zaP (((s92 (⟨(⟨zav,(⟨zar,zam zao⟩:(Sl Tie))⟩:Net),(⟨zaM,zaN⟩:Mp)⟩:web) b1 (zaD (unX zk7)) (⟨zEA,zcV zEB⟩:(Sl Use))).2.2).get i))]])
  | _=>none
theorem zHG:zas Tryd.prog 92:=⟨_,rfl,rfl,by kernel_rfl⟩
theorem zL0:ziW Tryd.prog 92 zEz:=zCB zJ3 zHG λ xs safe rs ys h hs K hk=>by
  unfold zEz at h
  split at h
  · rename_i zav zar zbx zao zc8 zaM zaN b1 zk7 zEA zEB
    simp only[dqa,dqh] at h
    obtain⟨rfl,rfl,rfl⟩:=h
    obtain⟨⟨rfl,zb5,rfl⟩,rfl,hT_b2,⟨_,zJ4,rfl⟩,hs⟩:=hs
    try rw[zan zb5] at hs
    try rw[zan zb5] at hk
    try rw[zcW zJ4] at hs
    try rw[zcW zJ4] at hk
    refine⟨λ _ _=>[],λ _=>false,ziY,?_⟩
    show zkf Tryd.prog G92 ziY 92 _ K
    have hq:=q92 (⟨(⟨zav,(⟨zar,zb5⟩:(Sl Tie))⟩:Net),(⟨zaM,zaN⟩:Mp)⟩:web) b1 (zaD (unX zk7)) (⟨zEA,zJ4⟩:(Sl Use)) (λ x=>K x.1 x.2) hs
    dsimp only[e92] at hq
    rw[<- hT_b2] at hq
    exact hq hk
  · cases h
abbrev T54:Tabs:=(((Tabs.nil.addF 74 zwj).addF 75 zwo).addM 92 zEz)
theorem zJ5:TabsOk Tryd.prog T54:=(((TabsOk.nil.addF zJI).addF zJK).addM zL0)
abbrev G54:Ctrs:=csm T54 (λ _ _=>[]) (λ _=>false)
def zEC:Ann:=⟨45,[(0,zK [1,2,3] [3]),(1,zK [1,2,8,9] [8]),(2,zK [1,2,8,9,23] [8]),(3,zK [6,7] []),(4,zK [1,8,10] [8,10]),(5,zK [1,8,10,32] [8,10]),(6,zK [6,7] []),(7,zK [1,8,10,11] [8,10,11]),(8,zK [8,10,11,12] [8,10,11,12]),(9,zK [10,11,12,13] [8,10,11,12]),(10,zK [10,11,12,13,43] [8,10,11,12,5000]),(11,zK [6,7] [5000])],
 [(10,⟨[10,11,12,13],[8,10,11,12,5000],[],[(11,0,5000,75,λ _=>zaP default)],[],[],[]⟩)],
 [],
 [],[]⟩
abbrev R54:=((Sl Use)×Int)
abbrev e54 (r:R54):List PA:=[.one (.sl r.1.len 2 (λ i=>zaP (r.1.get i))),.one (.int .i64 r.2)]
@[irreducible] def z54:=ptF Tryd.prog G54 zEC Tryd.f54
def zBB (n:Net) (zad:Int) (to:Int) (zgN:Int) (zaV:(Sl Use)) (dt0:Tab) (zdj:Nat->List PV):St:=⟨[(10,zp 10 0),(11,zp 11 0),(12,zp 12 0),(13,.one (.c (.clo 92 [.b 8,.b 12,.b 10,.b 11])))],[(8,.box 102 [.p (.fp (zaz (⟨(s74 n (⟨2,zau (zbv [(zab zad),(zab to)])⟩:(Sl Int))).1.Net,((s74 n (⟨2,zau (zbv [(zab zad),(zab to)])⟩:(Sl Int))).1.out)⟩:web)) 0)]),(10,.box 116 (zm (zak dt0))),(11,.box 67 [.vec 5000]),(12,.box 3 [zi zgN]),(5000,.vec 75 2 16 zaV.len zdj)],[]⟩
abbrev zHH (K:List PA->Prop) (n:Net) (zad:Int) (to:Int) (X:St->Prop) (P:Int->(Sl Use)->Tab->Bool) (S:Int->(Sl Use)->Tab->((Sl Use)×Int)):Prop:=∀ ⦃zgN:Int⦄ ⦃zaV:(Sl Use)⦄ ⦃dt0:Tab⦄ ⦃zdj:Nat->List PV⦄,P zgN zaV dt0=true->K (e54 (S zgN zaV dt0))->zdj=zg zaP zaV->X (zBB n zad to zgN zaV dt0 zdj)
section
variable {K:List PA->Prop}{n:Net}{zad:Int}{to:Int}{zgN:Int}{zaV:(Sl Use)}{dt0:Tab}{zdj:Nat->List PV}{X0:St->Prop}{P0:Int->(Sl Use)->Tab->Bool}{S0:Int->(Sl Use)->Tab->((Sl Use)×Int)}
def zxv (n:Net) (zad:Int) (to:Int) (S0:Int->(Sl Use)->Tab->((Sl Use)×Int)) (zgN:Int) (zaV:(Sl Use)) (dt0:Tab):((Sl Use)×Int) :=
  (cond (decide ((tg 80 dt0 (0 + zgN.toNat * 2 + 1)) > (0:Int)))
 (cond ((s92 (⟨(s74 n (⟨2, zau (zbv [(zab zad), (zab to)])⟩ : (Sl Int))).1.Net, ((s74 n (⟨2, zau (zbv [(zab zad), (zab to)])⟩ : (Sl Int))).1.out)⟩ : web) zgN (zaD (unX (xcm (zak dt0)))) (⟨zaV.len, zaV.get⟩ : (Sl Use))).1)
 (S0 ((s92 (⟨(s74 n (⟨2,zau (zbv [(zab zad),(zab to)])⟩:(Sl Int))).1.Net,((s74 n (⟨2,zau (zbv [(zab zad),(zab to)])⟩:(Sl Int))).1.out)⟩:web) zgN (zaD (unX (xcm (zak dt0)))) (⟨zaV.len,zaV.get⟩:(Sl Use))).2.1) ((s92 (⟨(s74 n (⟨2,zau (zbv [(zab zad),(zab to)])⟩:(Sl Int))).1.Net,((s74 n (⟨2,zau (zbv [(zab zad),(zab to)])⟩:(Sl Int))).1.out)⟩:web) zgN (zaD (unX (xcm (zak dt0)))) (⟨zaV.len,zaV.get⟩:(Sl Use))).2.2) dt0)
 (((s92 (⟨(s74 n (⟨2,zau (zbv [(zab zad),(zab to)])⟩:(Sl Int))).1.Net,((s74 n (⟨2,zau (zbv [(zab zad),(zab to)])⟩:(Sl Int))).1.out)⟩:web) zgN (zaD (unX (xcm (zak dt0)))) (⟨zaV.len,zaV.get⟩:(Sl Use))).2.2),(0:Int)))
 (zaV,(0:Int)))
def zxw (n:Net) (zad:Int) (to:Int) (P0:Int->(Sl Use)->Tab->Bool) (zgN:Int) (zaV:(Sl Use)) (dt0:Tab):Bool :=
  (decide ((0<=zgN/\zgN < (40:Int))) &&
 (cond (decide ((tg 80 dt0 (0 + zgN.toNat * 2 + 1)) > (0:Int)))
 (decide ((p92 (⟨(s74 n (⟨2,zau (zbv [(zab zad),(zab to)])⟩:(Sl Int))).1.Net,((s74 n (⟨2,zau (zbv [(zab zad),(zab to)])⟩:(Sl Int))).1.out)⟩:web) zgN (zaD (unX (xcm (zak dt0)))) (⟨zaV.len,zaV.get⟩:(Sl Use))=true)) &&
 (cond ((s92 (⟨(s74 n (⟨2, zau (zbv [(zab zad), (zab to)])⟩ : (Sl Int))).1.Net, ((s74 n (⟨2, zau (zbv [(zab zad), (zab to)])⟩ : (Sl Int))).1.out)⟩ : web) zgN (zaD (unX (xcm (zak dt0)))) (⟨zaV.len, zaV.get⟩ : (Sl Use))).1)
 (P0 ((s92 (⟨(s74 n (⟨2,zau (zbv [(zab zad),(zab to)])⟩:(Sl Int))).1.Net,((s74 n (⟨2,zau (zbv [(zab zad),(zab to)])⟩:(Sl Int))).1.out)⟩:web) zgN (zaD (unX (xcm (zak dt0)))) (⟨zaV.len,zaV.get⟩:(Sl Use))).2.1) ((s92 (⟨(s74 n (⟨2,zau (zbv [(zab zad),(zab to)])⟩:(Sl Int))).1.Net,((s74 n (⟨2,zau (zbv [(zab zad),(zab to)])⟩:(Sl Int))).1.out)⟩:web) zgN (zaD (unX (xcm (zak dt0)))) (⟨zaV.len,zaV.get⟩:(Sl Use))).2.2) dt0)
 true))
 true))
def zxx (n:Net) (zad:Int) (to:Int):Nat->Int->(Sl Use)->Tab->((Sl Use)×Int):=lpO (λ _ _ _=>default) (zxv n zad to)
def zxy (n:Net) (zad:Int) (to:Int):Nat->Int->(Sl Use)->Tab->Bool:=lpO (λ _ _ _=>false) (zxw n zad to)
def zxz (n:Net) (zad:Int) (to:Int) (zgN:Int) (zaV:(Sl Use)) (dt0:Tab):((Sl Use)×Int):=zxx n zad to Fuel zgN zaV dt0
def zxA (n:Net) (zad:Int) (to:Int) (zgN:Int) (zaV:(Sl Use)) (dt0:Tab):Bool:=zxy n zad to Fuel zgN zaV dt0
theorem zED (hs:zxA n zad to zgN zaV dt0=true) (hk:K (e54 (zxz n zad to zgN zaV dt0))) (zkF:zdj=zg zaP zaV):z54 (Wk K) [1,1,1,1,1,1,1,1,0,0] [] (zBB n zad to zgN zaV dt0 zdj) :=
  zl (λ X=>z54 (Wk K) [1,1,1,1,1,1,1,1,0,0,0] [X]) (by kernel_rfl) λ X0 hX =>
  (show ∀ k, zHH K n zad to X0 (zxy n zad to k) (zxx n zad to k) from zfc _ _ (zxw n zad to) (zxv n zad to) (zHH K n zad to X0)
 (by intro _ _ _ _ hs;exact absurd hs dqk)
 (by intro P0 S0 hX0 zgN zaV dt0 zdj hs hk zkF;subst zkF;exact hX _ (za4 (by kernel_rfl) (zaR hs λ hc hs=>And.intro hc (zc hs hk (λ hs hk=>(zaR hs λ hc hs=>And.intro (And.intro (zE enc_40 4 ((s74 n (⟨2,zau (zbv [(zab zad),(zab to)])⟩:(Sl Int))).1.Net.Ties.get)) (And.intro (rfl:((false,1,false,[none]):MQ)=(false,1,false,[none])) (And.intro (zCC:xcm (zak dt0)=xcm (zak (zaD (unX (xcm (zak dt0)))))) (And.intro (zE zaP 2 zaV.get) hc)))) (zc hs hk (λ hs hk=>(hX0 hs hk rfl)) (λ hs hk=>((zgm hk):Wk K [.one (.sl (((s92 (⟨(s74 n (⟨2,zau (zbv [(zab zad),(zab to)])⟩:(Sl Int))).1.Net,((s74 n (⟨2,zau (zbv [(zab zad),(zab to)])⟩:(Sl Int))).1.out)⟩:web) zgN (zaD (unX (xcm (zak dt0)))) (⟨zaV.len,zaV.get⟩:(Sl Use))).2.2).len) 2 (λ i=>zaP (((s92 (⟨(s74 n (⟨2,zau (zbv [(zab zad),(zab to)])⟩:(Sl Int))).1.Net,((s74 n (⟨2,zau (zbv [(zab zad),(zab to)])⟩:(Sl Int))).1.out)⟩:web) zgN (zaD (unX (xcm (zak dt0)))) (⟨zaV.len,zaV.get⟩:(Sl Use))).2.2).get i))),.one (.int .i64 (0:Int))]))))) (λ hs hk=>((zgm hk):Wk K [.one (.sl zaV.len 2 (λ i=>zaP (zaV.get i))),.one (.int .i64 (0:Int))]))))))) _ hs hk zkF
def s54 (n:Net) (zad:Int) (to:Int):((Sl Use)×Int) :=
  (cond ((s74 n (⟨2, zau (zbv [(zab zad), (zab to)])⟩ : (Sl Int))).2 == 0)
 (cond ((0:Int) != (0:Int))
 ((⟨0,λ _=>default⟩:(Sl Use)),(0:Int))
 (cond (match ((tg 80 (s75 (⟨(s74 n (⟨2, zau (zbv [(zab zad), (zab to)])⟩ : (Sl Int))).1.Net, ((s74 n (⟨2, zau (zbv [(zab zad), (zab to)])⟩ : (Sl Int))).1.out)⟩ : web) to) (0 + zad.toNat * 2 + 0)) == (1000000000000:Int)) with | true => (match ((tg 80 (s75 (⟨(s74 n (⟨2, zau (zbv [(zab zad), (zab to)])⟩ : (Sl Int))).1.Net, ((s74 n (⟨2, zau (zbv [(zab zad), (zab to)])⟩ : (Sl Int))).1.out)⟩ : web) to) (0 + zad.toNat * 2 + 0 + 1)) == (0:Int)) with | true => true | false => false) | false => false)
 ((⟨0,λ _=>default⟩:(Sl Use)),(6:Int))
 (zxz n zad to zad (⟨0,(λ _=>default)⟩:Sl Use) (s75 (⟨(s74 n (⟨2,zau (zbv [(zab zad),(zab to)])⟩:(Sl Int))).1.Net,((s74 n (⟨2,zau (zbv [(zab zad),(zab to)])⟩:(Sl Int))).1.out)⟩:web) to))))
 (cond ((s74 n (⟨2, zau (zbv [(zab zad), (zab to)])⟩ : (Sl Int))).2 != (0:Int))
 ((⟨0,λ _=>default⟩:(Sl Use)),(s74 n (⟨2,zau (zbv [(zab zad),(zab to)])⟩:(Sl Int))).2)
 default))
def p54 (n:Net) (zad:Int) (to:Int):Bool :=
  (cond ((s74 n (⟨2, zau (zbv [(zab zad), (zab to)])⟩ : (Sl Int))).2 == 0)
 (decide ((p74 n (⟨2,zau (zbv [(zab zad),(zab to)])⟩:(Sl Int))=true)) &&
 (cond ((0:Int) != (0:Int))
 true
 (decide ((p75 (⟨(s74 n (⟨2,zau (zbv [(zab zad),(zab to)])⟩:(Sl Int))).1.Net,((s74 n (⟨2,zau (zbv [(zab zad),(zab to)])⟩:(Sl Int))).1.out)⟩:web) to=true)) &&
 (decide ((0<=zad/\zad < (40:Int))) &&
 (cond (match ((tg 80 (s75 (⟨(s74 n (⟨2, zau (zbv [(zab zad), (zab to)])⟩ : (Sl Int))).1.Net, ((s74 n (⟨2, zau (zbv [(zab zad), (zab to)])⟩ : (Sl Int))).1.out)⟩ : web) to) (0 + zad.toNat * 2 + 0)) == (1000000000000:Int)) with | true => (match ((tg 80 (s75 (⟨(s74 n (⟨2, zau (zbv [(zab zad), (zab to)])⟩ : (Sl Int))).1.Net, ((s74 n (⟨2, zau (zbv [(zab zad), (zab to)])⟩ : (Sl Int))).1.out)⟩ : web) to) (0 + zad.toNat * 2 + 0 + 1)) == (0:Int)) with | true => true | false => false) | false => false)
 true
 (zxA n zad to zad (⟨0,(λ _=>default)⟩:Sl Use) (s75 (⟨(s74 n (⟨2,zau (zbv [(zab zad),(zab to)])⟩:(Sl Int))).1.Net,((s74 n (⟨2,zau (zbv [(zab zad),(zab to)])⟩:(Sl Int))).1.out)⟩:web) to)))))))
 (decide ((p74 n (⟨2,zau (zbv [(zab zad),(zab to)])⟩:(Sl Int))=true)) &&
 (cond ((s74 n (⟨2, zau (zbv [(zab zad), (zab to)])⟩ : (Sl Int))).2 != (0:Int))
 true
 false)))
end
theorem q54 (n:Net) (zad:Int) (to:Int) (K:List PA->Prop) (hs:p54 n zad to=true) (hk:K (e54 (s54 n zad to))):vcFun Tryd.prog G54 zEC 54 [.agg (enc_24 n),.one (.int .i64 zad),.one (.int .i64 to)] (Wk K) :=
  za4 (by kernel_rfl) (zc hs hk (λ hs hk=>(zaR hs λ hc hs=>And.intro (And.intro (zE enc_40 4 n.Ties.get) (And.intro ((zd6 []):IsE zab 1 1 (zbv [(zab zad),(zab to)])) hc)) (zc hs hk (λ hs hk=>((wk hk (zgM (.one (.nil _ _)) (zgM (.one (.rfl _)) znq))):Wk K [.one (.nils),.one (.int .i64 (0:Int))])) (λ hs hk=>(zaR hs λ hc hs=>And.intro (And.intro (zE enc_40 4 ((s74 n (⟨2,zau (zbv [(zab zad),(zab to)])⟩:(Sl Int))).1.Net.Ties.get)) (And.intro (rfl:((false,1,false,[none]):MQ)=(false,1,false,[none])) hc)) (zaR hs λ hc hs=>And.intro hc (zc hs hk (λ hs hk=>((wk hk (zgM (.one (.nil _ _)) (zgM (.one (.rfl _)) znq))):Wk K [.one (.nils),.one (.int .i64 (6:Int))])) (λ hs hk=>(zED hs hk rfl))))))))) (λ hs hk=>(zaR hs λ hc hs=>And.intro (And.intro (zE enc_40 4 n.Ties.get) (And.intro ((zd6 []):IsE zab 1 1 (zbv [(zab zad),(zab to)])) hc)) (zc hs hk (λ hs hk=>((wk hk (zgM (.one (.nil _ _)) (zgM (.one (.rfl _)) znq))):Wk K [.one (.nils),.one (.int .i64 ((s74 n (⟨2,zau (zbv [(zab zad),(zab to)])⟩:(Sl Int))).2))])) (λ hs hk=>(absurd hs dqk:False))))))
def zEE : List PA → COut
  | [.agg [.int .i64 zal,.sl zai zaH zah],.one (.int .i64 a1),.one (.int .i64 a2)]=>.det (IsE enc_40 4 zaH zah/\p54 (⟨zal,(⟨zai,zam zah⟩:(Sl Tie))⟩:Net) a1 a2=true) [.one (.sl (((s54 (⟨zal,(⟨zai,zam zah⟩:(Sl Tie))⟩:Net) a1 a2).1).len) 2 (λ i=>zaP (((s54 (⟨zal,(⟨zai,zam zah⟩:(Sl Tie))⟩:Net) a1 a2).1).get i))),.one (.int .i64 ((s54 (⟨zal,(⟨zai,zam zah⟩:(Sl Tie))⟩:Net) a1 a2).2))]
  | _=>.no
theorem zHI:zas Tryd.prog 54:=⟨_,rfl,rfl,by kernel_rfl⟩
theorem zL1:Ok Tryd.prog 54 zEE:=zhB zJ5 zHI λ args K h=>by
  unfold zEE at h
  split at h
  · rename_i zal zai zaH zah a1 a2
    obtain⟨⟨⟨rfl,zax,rfl⟩,hs⟩,hk⟩:=h
    try rw[zan zax] at hs
    try rw[zan zax] at hk
    exact⟨_,zfo zgl _,(λ _ _=>[]),(λ _=>false),zEC,q54 (⟨zal,(⟨zai,zax⟩:(Sl Tie))⟩:Net) a1 a2 K hs hk⟩
  · exact h.elim
abbrev T66:Tabs:=Tabs.nil
theorem zJ6:TabsOk Tryd.prog T66:=TabsOk.nil
abbrev G66:Ctrs:=csm T66 (λ _ _=>[]) (λ _=>false)
def zHJ:Ann:=⟨6,[(0,zK [0] [0]),(1,zK [0] [0,4])],
 [],
 [],
 [],[]⟩
abbrev R66:=Net
abbrev e66 (r:R66):List PA:=[.agg [.int .i64 r.Nodes,.sl r.Ties.len 4 (λ i=>enc_40 (r.Ties.get i))]]
section
variable {K:List PA->Prop}
def s66:Net :=
  (⟨(3:Int),(⟨3,(zoY (⟨(0:Int),(1:Int),(5:Int),(8:Int)⟩:Tie) [(⟨(0:Int),(1:Int),(5:Int),(8:Int)⟩:Tie),(⟨(1:Int),(2:Int),(-2:Int),(3:Int)⟩:Tie),(⟨(2:Int),(0:Int),(-9:Int),(1000000000000:Int)⟩:Tie)])⟩:(Sl Tie))⟩:Net)
end
theorem q66 (K:List PA->Prop) (hk:K (e66 (s66))):vcFun Tryd.prog G66 zHJ 66 [] K :=
  za4 (by kernel_rfl) (Eq.mpr (congrArg K (congrArg (λ (g_:Nat->List PV)=>([.agg [.int .i64 (3:Int),.sl 3 4 g_]]:List PA)) (zrL (enc:=enc_40) (x:=(⟨(0:Int),(1:Int),(5:Int),(8:Int)⟩:Tie)) (y:=(⟨(1:Int),(2:Int),(-2:Int),(3:Int)⟩:Tie)) (r:=[(⟨(2:Int),(0:Int),(-9:Int),(1000000000000:Int)⟩:Tie)])))) hk)
def zEF : List PA → COut
  | []=>.tot [.agg [.int .i64 ((s66).Nodes),.sl ((s66).Ties.len) 4 (λ i=>enc_40 ((s66).Ties.get i))]]
  | _=>.no
theorem zHK:zas Tryd.prog 66:=⟨_,rfl,rfl,by kernel_rfl⟩
theorem zL2:Ok Tryd.prog 66 zEF:=zbs zJ6 zHK λ args K h=>by
  unfold zEF at h
  split at h
  · have hk := h
    exact⟨(λ _ _=>[]),(λ _=>false),zHJ,q66 K hk⟩
  · exact h.elim
abbrev T21:Tabs:=((((((((((Tabs.nil.addF 22 zAe).addF 25 zD3).addF 26 zAh).addF 29 zD4).addF 32 zD8).addF 45 zEj).addF 49 zEs).addF 53 zEw).addF 54 zEE).addF 66 zEF)
theorem zJ7:TabsOk Tryd.prog T21:=((((((((((TabsOk.nil.addF zKR).addF zLM).addF zKS).addF zLN).addF ok32).addF zLX).addF zLY).addF zLZ).addF zL1).addF zL2)
abbrev G21:Ctrs:=csm T21 (λ _ _=>[]) (λ _=>false)
def zEG:Ann:=⟨87,[(0,zK [] []),(1,zK [1,2] []),(2,zK [1,2,3,4] []),(3,zK [1,2,3,4,5,6] []),(4,zK [1,2,3,4,5,6,7] [7]),(5,zK [1,2,3,4,5,6,7,8,9] [7]),(6,zK [1,2,3,4,5,6,8,9,10,11] []),(7,zK [1,3,5,8,10,57] []),(8,zK [0] []),(9,zK [0] [])],
 [],
 [(2,zK [1,2] []),(3,zK [1,2,3,4] []),(4,zK [1,2,3,4,5,6] []),(5,zK [1,2,3,4,5,6,7] [7]),(6,zK [1,2,3,4,5,6,7,8,9] [7]),(7,zK [1,2,3,4,5,6,8,9,10,11] []),(9,zK [1,3,5,8,10] [])],
 [],[]⟩
abbrev R21:=Bool
abbrev e21 (r:R21):List PA:=[.one (.bool r)]
@[irreducible] def z21:=ptF Tryd.prog G21 zEG Tryd.f21
section
variable {K:List PA->Prop}{bv0:(Sl Span)}{ev0:Int}{zHL:Nat->List PV}{cv1:(Sl Use)}{fv1:Int}{zHM:Nat->List PV}{vv2:(Sl Int)}{gv2:Int}{zHN:Nat->List PV}{zdY:Int}{zdp:(Sl Tie)}{zxB:Nat->List PV}{xv4:(Sl Use)}{hv4:Int}{zHO:Nat->List PV}{lv5:(Sl Int)}{iv5:Int}{zHP:Nat->List PV}
def zxC (bv0:(Sl Span)) (cv1:(Sl Use)) (vv2:(Sl Int)) (xv4:(Sl Use)) (lv5:(Sl Int)):Bool :=
  (cond (s32 bv0 (⟨3, zfp (zbv [(zbw (⟨(0:Int), (0:Int)⟩ : Span)), (zbw (⟨(5:Int), (8:Int)⟩ : Span)), (zbw (⟨(3:Int), (9:Int)⟩ : Span))])⟩ : (Sl Span)))
 (cond (s53 cv1 (⟨1, λ _ => (⟨(2:Int), true⟩ : Use)⟩ : (Sl Use)))
 (cond (s25 vv2 (⟨3, zau (zbv [(zab (0:Int)), (zab (5:Int)), (zab (8:Int))])⟩ : (Sl Int)))
 (cond (s53 xv4 (⟨2, zcV (zbv [(zaP (⟨(2:Int), true⟩ : Use)), (zaP (⟨(3:Int), true⟩ : Use))])⟩ : (Sl Use)))
 (s25 lv5 (⟨1,λ _=>(2:Int)⟩:(Sl Int)))
 false)
 false)
 false)
 false)
def zxD (bv0:(Sl Span)) (cv1:(Sl Use)) (vv2:(Sl Int)) (xv4:(Sl Use)) (lv5:(Sl Int)):Bool :=
  (decide ((p32 bv0 (⟨3,zfp (zbv [(zbw (⟨(0:Int),(0:Int)⟩:Span)),(zbw (⟨(5:Int),(8:Int)⟩:Span)),(zbw (⟨(3:Int),(9:Int)⟩:Span))])⟩:(Sl Span))=true)) &&
 (cond (s32 bv0 (⟨3, zfp (zbv [(zbw (⟨(0:Int), (0:Int)⟩ : Span)), (zbw (⟨(5:Int), (8:Int)⟩ : Span)), (zbw (⟨(3:Int), (9:Int)⟩ : Span))])⟩ : (Sl Span)))
 (decide ((p53 cv1 (⟨1,λ _=>(⟨(2:Int),true⟩:Use)⟩:(Sl Use))=true)) &&
 (cond (s53 cv1 (⟨1, λ _ => (⟨(2:Int), true⟩ : Use)⟩ : (Sl Use)))
 (decide ((p25 vv2 (⟨3,zau (zbv [(zab (0:Int)),(zab (5:Int)),(zab (8:Int))])⟩:(Sl Int))=true)) &&
 (cond (s25 vv2 (⟨3, zau (zbv [(zab (0:Int)), (zab (5:Int)), (zab (8:Int))])⟩ : (Sl Int)))
 (decide ((p53 xv4 (⟨2,zcV (zbv [(zaP (⟨(2:Int),true⟩:Use)),(zaP (⟨(3:Int),true⟩:Use))])⟩:(Sl Use))=true)) &&
 (cond (s53 xv4 (⟨2, zcV (zbv [(zaP (⟨(2:Int), true⟩ : Use)), (zaP (⟨(3:Int), true⟩ : Use))])⟩ : (Sl Use)))
 (decide ((p25 lv5 (⟨1,λ _=>(2:Int)⟩:(Sl Int))=true)) &&
 true)
 true))
 true))
 true))
 true))
theorem zEH (hs:zxD bv0 cv1 vv2 xv4 lv5=true) (hk:K (e21 (zxC bv0 cv1 vv2 xv4 lv5))):z21 K [1,1,1,1,1,1,1,1] [] ⟨[(1,zS zbw 2 bv0),(3,zS zaP 2 cv1),(5,zS zab 1 vv2),(8,zS zaP 2 xv4),(10,zS zab 1 lv5)],[],[]⟩:=za4 (by kernel_rfl) (zaR hs λ hc hs=>And.intro (And.intro (zE zbw 2 bv0.get) (And.intro ((zd6 [(⟨(3:Int),(9:Int)⟩:Span)]):IsE zbw 2 2 (zbv [(zbw (⟨(0:Int),(0:Int)⟩:Span)),(zbw (⟨(5:Int),(8:Int)⟩:Span)),(zbw (⟨(3:Int),(9:Int)⟩:Span))])) hc)) (zc hs hk (λ hs hk=>(zaR hs λ hc hs=>And.intro (And.intro (zE zaP 2 cv1.get) (And.intro (zu8:IsE zaP 2 2 (λ _=>(zaP (⟨(2:Int),true⟩:Use)))) hc)) (zc hs hk (λ hs hk=>(zaR hs λ hc hs=>And.intro (And.intro (zE zab 1 vv2.get) (And.intro ((zd6 [(8:Int)]):IsE zab 1 1 (zbv [(zab (0:Int)),(zab (5:Int)),(zab (8:Int))])) hc)) (zc hs hk (λ hs hk=>(zaR hs λ hc hs=>And.intro (And.intro (zE zaP 2 xv4.get) (And.intro ((zd6 []):IsE zaP 2 2 (zbv [(zaP (⟨(2:Int),true⟩:Use)),(zaP (⟨(3:Int),true⟩:Use))])) hc)) (zc hs hk (λ hs hk=>(zaR hs λ hc hs=>And.intro (And.intro (zE zab 1 lv5.get) (And.intro (zu8:IsE zab 1 1 (λ _=>(zab (2:Int)))) hc)) hk)) (λ hs hk=>hk)))) (λ hs hk=>hk)))) (λ hs hk=>hk)))) (λ hs hk=>hk)))
def zxE (bv0:(Sl Span)) (ev0:Int) (cv1:(Sl Use)) (fv1:Int) (vv2:(Sl Int)) (gv2:Int) (xv4:(Sl Use)) (hv4:Int) (lv5:(Sl Int)) (iv5:Int):Bool :=
  (cond (ev0 != (0:Int))
 false
 (cond (fv1 != (0:Int))
 false
 (cond (gv2 != (0:Int))
 false
 (cond (hv4 != (0:Int))
 false
 (cond (iv5 != (0:Int))
 false
 (zxC bv0 cv1 vv2 xv4 lv5))))))
def zxF (bv0:(Sl Span)) (ev0:Int) (cv1:(Sl Use)) (fv1:Int) (vv2:(Sl Int)) (gv2:Int) (xv4:(Sl Use)) (hv4:Int) (lv5:(Sl Int)) (iv5:Int):Bool :=
  (cond (ev0 != (0:Int))
 true
 (cond (fv1 != (0:Int))
 true
 (cond (gv2 != (0:Int))
 true
 (cond (hv4 != (0:Int))
 true
 (cond (iv5 != (0:Int))
 true
 (zxD bv0 cv1 vv2 xv4 lv5))))))
theorem zEI (hs:zxF bv0 ev0 cv1 fv1 vv2 gv2 xv4 hv4 lv5 iv5=true) (hk:K (e21 (zxE bv0 ev0 cv1 fv1 vv2 gv2 xv4 hv4 lv5 iv5))) (zJ8:zHP=zg zab lv5):z21 K [1,1,1,1,1,1,1] [] ⟨[(1,zS zbw 2 bv0),(2,zI ev0),(3,zS zaP 2 cv1),(4,zI fv1),(5,zS zab 1 vv2),(6,zI gv2),(8,zS zaP 2 xv4),(9,zI hv4),(10,zP (.sl lv5.len 1 zHP)),(11,zI iv5)],[],[]⟩:=by subst zJ8;exact za4 (by kernel_rfl) (zc hs hk (λ hs hk=>hk) (λ hs hk=>(zc hs hk (λ hs hk=>hk) (λ hs hk=>(zc hs hk (λ hs hk=>hk) (λ hs hk=>(zc hs hk (λ hs hk=>hk) (λ hs hk=>(zc hs hk (λ hs hk=>hk) (λ hs hk=>(zEH hs hk)))))))))))
def zxG (bv0:(Sl Span)) (ev0:Int) (cv1:(Sl Use)) (fv1:Int) (vv2:(Sl Int)) (gv2:Int) (zdY:Int) (zdp:(Sl Tie)) (xv4:(Sl Use)) (hv4:Int):Bool :=
  (zxE bv0 ev0 cv1 fv1 vv2 gv2 xv4 hv4 ((s22 (⟨zdY,zdp⟩:Net)).1) ((s22 (⟨zdY,zdp⟩:Net)).2))
def zxH (bv0:(Sl Span)) (ev0:Int) (cv1:(Sl Use)) (fv1:Int) (vv2:(Sl Int)) (gv2:Int) (zdY:Int) (zdp:(Sl Tie)) (xv4:(Sl Use)) (hv4:Int):Bool :=
  (decide ((p22 (⟨zdY,zdp⟩:Net)=true)) &&
 (zxF bv0 ev0 cv1 fv1 vv2 gv2 xv4 hv4 ((s22 (⟨zdY,zdp⟩:Net)).1) ((s22 (⟨zdY,zdp⟩:Net)).2)))
theorem zEJ (hs:zxH bv0 ev0 cv1 fv1 vv2 gv2 zdY zdp xv4 hv4=true) (hk:K (e21 (zxG bv0 ev0 cv1 fv1 vv2 gv2 zdY zdp xv4 hv4))) (zJ9:zHO=zg zaP xv4):z21 K [1,1,1,1,1,1] [] ⟨[(1,zS zbw 2 bv0),(2,zI ev0),(3,zS zaP 2 cv1),(4,zI fv1),(5,zS zab 1 vv2),(6,zI gv2),(7,zp 7 0),(8,zP (.sl xv4.len 2 zHO)),(9,zI hv4)],[(7,.box 24 (zm (enc_24 (⟨zdY,zdp⟩:Net))))],[]⟩:=by subst zJ9;exact za4 (by kernel_rfl) (zaR hs λ hc hs=>And.intro (And.intro (zE enc_40 4 zdp.get) hc) (zEI hs hk rfl))
def zxI (bv0:(Sl Span)) (ev0:Int) (cv1:(Sl Use)) (fv1:Int) (vv2:(Sl Int)) (gv2:Int) (zdY:Int) (zdp:(Sl Tie)):Bool :=
  (zxG bv0 ev0 cv1 fv1 vv2 gv2 zdY zdp ((s49 (⟨zdY,zdp⟩:Net)).1) ((s49 (⟨zdY,zdp⟩:Net)).2))
def zxJ (bv0:(Sl Span)) (ev0:Int) (cv1:(Sl Use)) (fv1:Int) (vv2:(Sl Int)) (gv2:Int) (zdY:Int) (zdp:(Sl Tie)):Bool :=
  (decide ((p49 (⟨zdY,zdp⟩:Net)=true)) &&
 (zxH bv0 ev0 cv1 fv1 vv2 gv2 zdY zdp ((s49 (⟨zdY,zdp⟩:Net)).1) ((s49 (⟨zdY,zdp⟩:Net)).2)))
theorem zEK (hs:zxJ bv0 ev0 cv1 fv1 vv2 gv2 zdY zdp=true) (hk:K (e21 (zxI bv0 ev0 cv1 fv1 vv2 gv2 zdY zdp))) (zEL:zxB=zg enc_40 zdp):z21 K [1,1,1,1,1] [] ⟨[(1,zS zbw 2 bv0),(2,zI ev0),(3,zS zaP 2 cv1),(4,zI fv1),(5,zS zab 1 vv2),(6,zI gv2),(7,zp 7 0)],[(7,.box 24 [zi zdY,.p (.sl zdp.len 4 zxB)])],[]⟩:=by subst zEL;exact za4 (by kernel_rfl) (zaR hs λ hc hs=>And.intro (And.intro (zE enc_40 4 zdp.get) hc) (zEJ hs hk rfl))
def zxK (bv0:(Sl Span)) (ev0:Int) (cv1:(Sl Use)) (fv1:Int) (vv2:(Sl Int)) (gv2:Int):Bool :=
  (zxI bv0 ev0 cv1 fv1 vv2 gv2 ((s29 s66 (⟨(0:Int),(2:Int),(10:Int),(12:Int)⟩:Tie)).Nodes) ((s29 s66 (⟨(0:Int),(2:Int),(10:Int),(12:Int)⟩:Tie)).Ties))
def zxL (bv0:(Sl Span)) (ev0:Int) (cv1:(Sl Use)) (fv1:Int) (vv2:(Sl Int)) (gv2:Int):Bool :=
  (decide ((p29 s66 (⟨(0:Int),(2:Int),(10:Int),(12:Int)⟩:Tie)=true)) &&
 (zxJ bv0 ev0 cv1 fv1 vv2 gv2 ((s29 s66 (⟨(0:Int),(2:Int),(10:Int),(12:Int)⟩:Tie)).Nodes) ((s29 s66 (⟨(0:Int),(2:Int),(10:Int),(12:Int)⟩:Tie)).Ties)))
theorem zEM (hs:zxL bv0 ev0 cv1 fv1 vv2 gv2=true) (hk:K (e21 (zxK bv0 ev0 cv1 fv1 vv2 gv2))) (zKa:zHN=zg zab vv2):z21 K [1,1,1,1] [] ⟨[(1,zS zbw 2 bv0),(2,zI ev0),(3,zS zaP 2 cv1),(4,zI fv1),(5,zP (.sl vv2.len 1 zHN)),(6,zI gv2)],[],[]⟩:=by subst zKa;exact za4 (by kernel_rfl) (zaR hs λ hc hs=>And.intro (And.intro (zE enc_40 4 s66.Ties.get) hc) (zEK hs hk rfl))
def zxM (bv0:(Sl Span)) (ev0:Int) (cv1:(Sl Use)) (fv1:Int):Bool :=
  (zxK bv0 ev0 cv1 fv1 ((s45 s66 (1:Int) (0:Int)).1) ((s45 s66 (1:Int) (0:Int)).2))
def zxN (bv0:(Sl Span)) (ev0:Int) (cv1:(Sl Use)) (fv1:Int):Bool :=
  (decide ((p45 s66 (1:Int) (0:Int)=true)) &&
 (zxL bv0 ev0 cv1 fv1 ((s45 s66 (1:Int) (0:Int)).1) ((s45 s66 (1:Int) (0:Int)).2)))
theorem zEN (hs:zxN bv0 ev0 cv1 fv1=true) (hk:K (e21 (zxM bv0 ev0 cv1 fv1))) (zKb:zHM=zg zaP cv1):z21 K [1,1,1] [] ⟨[(1,zS zbw 2 bv0),(2,zI ev0),(3,zP (.sl cv1.len 2 zHM)),(4,zI fv1)],[],[]⟩:=by subst zKb;exact za4 (by kernel_rfl) (zaR hs λ hc hs=>And.intro (And.intro (zE enc_40 4 s66.Ties.get) hc) (zEM hs hk rfl))
def zxO (bv0:(Sl Span)) (ev0:Int):Bool :=
  (zxM bv0 ev0 ((s54 s66 (0:Int) (2:Int)).1) ((s54 s66 (0:Int) (2:Int)).2))
def zxP (bv0:(Sl Span)) (ev0:Int):Bool :=
  (decide ((p54 s66 (0:Int) (2:Int)=true)) &&
 (zxN bv0 ev0 ((s54 s66 (0:Int) (2:Int)).1) ((s54 s66 (0:Int) (2:Int)).2)))
theorem zEO (hs:zxP bv0 ev0=true) (hk:K (e21 (zxO bv0 ev0))) (zKc:zHL=zg zbw bv0):z21 K [1,1] [] ⟨[(1,zP (.sl bv0.len 2 zHL)),(2,zI ev0)],[],[]⟩:=by subst zKc;exact za4 (by kernel_rfl) (zaR hs λ hc hs=>And.intro (And.intro (zE enc_40 4 s66.Ties.get) hc) (zEN hs hk rfl))
def s21:Bool :=
  (zxO ((s26 s66).1) ((s26 s66).2))
def p21:Bool :=
  (decide ((p26 s66=true)) &&
 (zxP ((s26 s66).1) ((s26 s66).2)))
end
theorem q21 (K:List PA->Prop) (hs:p21=true) (hk:K (e21 (s21))):vcFun Tryd.prog G21 zEG 21 [] K :=
  za4 (by kernel_rfl) (zaR hs λ hc hs=>And.intro (And.intro (zE enc_40 4 s66.Ties.get) hc) (zEO hs hk rfl))
theorem zHQ:p21=true:=by kernel_rfl
theorem zHR:s21=true:=by kernel_rfl
def zEP : List PA → COut
  | []=>.tot [.one (.bool true)]
  | _=>.no
theorem zHS:zas Tryd.prog 21:=⟨_,rfl,rfl,by kernel_rfl⟩
theorem zL3:Ok Tryd.prog 21 zEP:=zbs zJ7 zHS λ args K h=>by
  unfold zEP at h
  split at h
  · refine ⟨fun _ _ => [], fun _ => false, zEG, q21 K zHQ ?_⟩
    show K [.one (.bool s21)]
    rw[zHR];exact h
  · exact h.elim
abbrev T20:Tabs:=Tabs.nil
theorem zKd:TabsOk Tryd.prog T20:=TabsOk.nil
abbrev G20:Ctrs:=csm T20 (λ _ _=>[]) (λ _=>false)
def zHT:Ann:=⟨32,[(0,zK [1,2] [2]),(1,zK [4] [])],
 [],
 [],
 [],[]⟩
abbrev R20:=Bool
abbrev e20 (r:R20):List PA:=[.one (.bool r)]
section
variable {K:List PA->Prop}{n:Net}{ties:Int}
def s20 (n:Net) (ties:Int):Bool :=
  (cond (decide (n.Nodes <= (7:Int)))
 (cond (decide ((n.Ties.len : Int) <= ties))
 true
 (cond (decide ((n.Ties.len : Int) > (200:Int)))
 (decide ((n.Ties.len:Int)<=(210:Int)))
 false))
 (cond (decide (n.Nodes > (40:Int)))
 (cond (decide ((n.Ties.len : Int) <= ties))
 true
 (cond (decide ((n.Ties.len : Int) > (200:Int)))
 (decide ((n.Ties.len:Int)<=(210:Int)))
 false))
 false))
end
theorem q20 (n:Net) (ties:Int) (K:List PA->Prop) (hk:K (e20 (s20 n ties))):vcFun Tryd.prog G20 zHT 20 [.agg (enc_24 n),.one (.int .i64 ties)] K :=
  za4 (by kernel_rfl) (zt hk (λ hk=>(zt hk (λ hk=>hk) (λ hk=>(zt hk (λ hk=>hk) (λ hk=>hk))))) (λ hk=>(zt hk (λ hk=>(zt hk (λ hk=>hk) (λ hk=>(zt hk (λ hk=>hk) (λ hk=>hk))))) (λ hk=>hk))))
def zEQ : List PA → COut
  | [.agg [.int .i64 zal,.sl zai zaH zah],.one (.int .i64 a1)]=>.det (IsE enc_40 4 zaH zah) [.one (.bool (s20 (⟨zal,(⟨zai,zam zah⟩:(Sl Tie))⟩:Net) a1))]
  | _=>.no
theorem zHU:zas Tryd.prog 20:=⟨_,rfl,rfl,by kernel_rfl⟩
theorem zL4:Ok Tryd.prog 20 zEQ:=zbs zKd zHU λ args K h=>by
  unfold zEQ at h
  split at h
  · rename_i zal zai zaH zah a1
    obtain⟨⟨rfl,zax,rfl⟩,hk⟩:=h
    try rw[zan zax] at hk
    exact⟨(λ _ _=>[]),(λ _=>false),zHT,q20 (⟨zal,(⟨zai,zax⟩:(Sl Tie))⟩:Net) a1 K hk⟩
  · exact h.elim
abbrev T72:Tabs:=Tabs.nil
theorem zKe:TabsOk Tryd.prog T72:=TabsOk.nil
abbrev G72:Ctrs:=csm T72 (λ _ _=>[]) (λ _=>false)
def zHV:Ann:=⟨15,[(0,zK [0,1,2] []),(1,zK [6] [])],
 [],
 [],
 [],[]⟩
abbrev R72:=Bool
abbrev e72 (r:R72):List PA:=[.one (.bool r)]
section
variable {K:List PA->Prop}{x:Int}{low:Int}{high:Int}
def s72 (x:Int) (low:Int) (high:Int):Bool :=
  (cond (decide (x >= low))
 (decide (x<=high))
 false)
end
theorem q72 (x:Int) (low:Int) (high:Int) (K:List PA->Prop) (hk:K (e72 (s72 x low high))):vcFun Tryd.prog G72 zHV 72 [.one (.int .i64 x),.one (.int .i64 low),.one (.int .i64 high)] K :=
  za4 (by kernel_rfl) (zt hk (λ hk=>hk) (λ hk=>hk))
def zAk : List PA → COut
  | [.one (.int .i64 a0),.one (.int .i64 a1),.one (.int .i64 a2)]=>.tot [.one (.bool (s72 a0 a1 a2))]
  | _=>.no
theorem zHW:zas Tryd.prog 72:=⟨_,rfl,rfl,by kernel_rfl⟩
theorem zKX:Ok Tryd.prog 72 zAk:=zbs zKe zHW λ args K h=>by
  unfold zAk at h
  split at h
  · rename_i a0 a1 a2
    have hk:=h
    exact⟨(λ _ _=>[]),(λ _=>false),zHV,q72 a0 a1 a2 K hk⟩
  · exact h.elim
abbrev T36:Tabs:=(Tabs.nil.addF 72 zAk)
theorem zKf:TabsOk Tryd.prog T36:=(TabsOk.nil.addF zKX)
abbrev G36:Ctrs:=csm T36 (λ _ _=>[]) (λ _=>false)
def zER:Ann:=⟨51,[(0,zK [0,3] [3]),(1,zK [3,32] [3]),(2,zK [4] []),(3,zK [4] [])],
 [],
 [(2,zK [3,32] [3]),(3,zK [3] [3])],
 [],[]⟩
abbrev R36:=Bool
abbrev e36 (r:R36):List PA:=[.one (.bool r)]
@[irreducible] def z36:=ptF Tryd.prog G36 zER Tryd.f36
section
variable {K:List PA->Prop}{nodes:Int}{t:Tie}{zAl:Bool}
def zqH (t:Tie):Bool :=
  (cond (t.Low == (-1000000000000:Int))
 (cond (t.High == (1000000000000:Int))
 true
 (s72 t.High (-1000000000:Int) (1000000000:Int)))
 (cond (s72 t.Low (-1000000000:Int) (1000000000:Int))
 (cond (t.High == (1000000000000:Int))
 true
 (s72 t.High (-1000000000:Int) (1000000000:Int)))
 false))
theorem zES (hk:K (e36 (zqH t))):z36 K [1,1] [] ⟨[(3,zp 3 0)],[(3,.box 40 (zm (enc_40 t)))],[]⟩:=za4 (by kernel_rfl) (zt hk (λ hk=>(zt hk (λ hk=>hk) (λ hk=>hk))) (λ hk=>(zt hk (λ hk=>(zt hk (λ hk=>hk) (λ hk=>hk))) (λ hk=>hk))))
def zin (t:Tie) (zAl:Bool):Bool :=
  (cond zAl
 false
 (zqH t))
theorem zng (hk:K (e36 (zin t zAl))):z36 K [1,0,1] [] ⟨[(3,zp 3 0),(32,zB zAl)],[(3,.box 40 (zm (enc_40 t)))],[]⟩:=za4 (by kernel_rfl) (zt hk (λ hk=>hk) (λ hk=>(zES hk)))
def s36 (nodes:Int) (t:Tie):Bool :=
  (cond (!(s72 t.From (0:Int) (w64 (nodes - (1:Int)))))
 (zin t true)
 (cond (!(s72 t.To (0:Int) (w64 (nodes - (1:Int)))))
 (zin t true)
 (cond (t.From == t.To)
 (zin t true)
 (zin t (decide (t.Low > t.High))))))
end
theorem q36 (nodes:Int) (t:Tie) (K:List PA->Prop) (hk:K (e36 (s36 nodes t))):vcFun Tryd.prog G36 zER 36 [.one (.int .i64 nodes),.agg (enc_40 t)] K :=
  za4 (by kernel_rfl) (zt hk (λ hk=>(zng hk)) (λ hk=>(zt hk (λ hk=>(zng hk)) (λ hk=>(zt hk (λ hk=>(zng hk)) (λ hk=>(zng hk)))))))
def zET : List PA → COut
  | [.one (.int .i64 a0),.agg [.int .i64 zen,.int .i64 zk6,.int .i64 zgo,.int .i64 zeo]]=>.tot [.one (.bool (s36 a0 (⟨zen,zk6,zgo,zeo⟩:Tie)))]
  | _=>.no
theorem zHX:zas Tryd.prog 36:=⟨_,rfl,rfl,by kernel_rfl⟩
theorem zL5:Ok Tryd.prog 36 zET:=zbs zKf zHX λ args K h=>by
  unfold zET at h
  split at h
  · rename_i a0 zen zk6 zgo zeo
    have hk:=h
    exact⟨(λ _ _=>[]),(λ _=>false),zER,q36 a0 (⟨zen,zk6,zgo,zeo⟩:Tie) K hk⟩
  · exact h.elim
abbrev T23:Tabs:=((Tabs.nil.addF 36 zET).addF 72 zAk)
theorem zKg:TabsOk Tryd.prog T23:=((TabsOk.nil.addF zL5).addF zKX)
abbrev G23:Ctrs:=csm T23 (λ _ _=>[]) (λ _=>false)
def zEU:Ann:=⟨30,[(0,zK [1] [1]),(1,zK [1,13] [1]),(2,zK [2] []),(3,zK [1,3] [1]),(4,zK [1,3,18] [1]),(5,zK [1,3] [1]),(6,zK [1,3,29] [1]),(7,zK [2] []),(8,zK [2] [])],
 [(4,zK [1,3] [1])],
 [(2,zK [1,13] [1]),(3,zK [1] [1]),(7,zK [1,3,29] [1])],
 [],[]⟩
abbrev R23:=Bool
abbrev e23 (r:R23):List PA:=[.one (.bool r)]
@[irreducible] def z23:=ptF Tryd.prog G23 zEU Tryd.f23
def zBC (n:Net) (iv2:Int):St:=⟨[(1,zp 1 0),(3,zI iv2)],[(1,.box 24 (zm (enc_24 n)))],[]⟩
abbrev zEV (K:List PA->Prop) (n:Net) (X:St->Prop) (P:Int->Bool) (S:Int->Bool):Prop:=∀ ⦃iv2:Int⦄,P iv2=true->K (e23 (S iv2))->X (zBC n iv2)
section
variable {K:List PA->Prop}{n:Net}{zbN:Bool}{iv2:Int}{X2:St->Prop}{P2:Int->Bool}{S2:Int->Bool}{iv3:Int}{zqI:Bool}
def zqJ (S2:Int->Bool) (n:Net) (iv3:Int) (zqI:Bool):Bool :=
  (cond zqI
 false
 (S2 (w64 (iv3+(1:Int)))))
def zqK (P2:Int->Bool) (n:Net) (iv3:Int) (zqI:Bool):Bool :=
  (cond zqI
 true
 (P2 (w64 (iv3+(1:Int)))))
theorem zEW (hX2:zEV K n X2 P2 S2) (hs:zqK P2 n iv3 zqI=true) (hk:K (e23 (zqJ S2 n iv3 zqI))):z23 K [1,1,0,1,0,0,1,0,0,1] [X2] ⟨[(1,zp 1 0),(3,zI iv3),(29,zB zqI)],[(1,.box 24 (zm (enc_24 n)))],[]⟩:=za4 (by kernel_rfl) (zc hs hk (λ hs hk=>hk) (λ hs hk=>(hX2 hs hk)))
def zio (n:Net) (S2:Int->Bool) (iv2:Int):Bool :=
  (cond (decide (iv2 < (n.Ties.len : Int)))
 (zqJ S2 n iv2 (!(s36 n.Nodes (n.Ties.get iv2.toNat))))
 true)
def ziq (n:Net) (P2:Int->Bool) (iv2:Int):Bool :=
  (cond (decide (iv2 < (n.Ties.len : Int)))
 (decide ((0<=iv2/\iv2 < (n.Ties.len:Int))) &&
 (zqK P2 n iv2 (!(s36 n.Nodes (n.Ties.get iv2.toNat)))))
 true)
def zgJ (n:Net):Nat->Int->Bool:=lpO (λ _=>default) (zio n)
def zir (n:Net):Nat->Int->Bool:=lpO (λ _=>false) (ziq n)
def zqL (n:Net) (iv2:Int):Bool:=zgJ n Fuel iv2
def zqM (n:Net) (iv2:Int):Bool:=zir n Fuel iv2
theorem zEX (hs:zqM n iv2=true) (hk:K (e23 (zqL n iv2))):z23 K [1,1,0,1,0] [] (zBC n iv2) :=
  zl (λ X=>z23 K [1,1,0,1,0,0] [X]) (by kernel_rfl) λ X2 hX =>
  (show ∀ k, zEV K n X2 (zir n k) (zgJ n k) from zfc _ _ (ziq n) (zio n) (zEV K n X2)
 (by intro _ hs;exact absurd hs dqk)
 (by intro P2 S2 hX2 iv2 hs hk;exact hX _ (za4 (by kernel_rfl) (zc hs hk (λ hs hk=>(zaR hs λ hc hs=>And.intro hc (zEW hX2 hs hk))) (λ hs hk=>hk))))) _ hs hk
def zqN (n:Net):Bool :=
  (zqL n (0:Int))
def zqO (n:Net):Bool :=
  (zqM n (0:Int))
theorem zEY (hs:zqO n=true) (hk:K (e23 (zqN n))):z23 K [1,1] [] ⟨[(1,zp 1 0)],[(1,.box 24 (zm (enc_24 n)))],[]⟩:=za4 (by kernel_rfl) (zEX hs hk)
def znh (n:Net) (zbN:Bool):Bool :=
  (cond zbN
 false
 (zqN n))
def zni (n:Net) (zbN:Bool):Bool :=
  (cond zbN
 true
 (zqO n))
theorem zxQ (hs:zni n zbN=true) (hk:K (e23 (znh n zbN))):z23 K [1,0,1] [] ⟨[(1,zp 1 0),(13,zB zbN)],[(1,.box 24 (zm (enc_24 n)))],[]⟩:=za4 (by kernel_rfl) (zc hs hk (λ hs hk=>hk) (λ hs hk=>(zEY hs hk)))
def s23 (n:Net):Bool :=
  (cond (!(s72 n.Nodes (1:Int) (40:Int)))
 (znh n true)
 (znh n (decide ((n.Ties.len:Int) > (200:Int)))))
def p23 (n:Net):Bool :=
  (cond (!(s72 n.Nodes (1:Int) (40:Int)))
 (zni n true)
 (zni n (decide ((n.Ties.len:Int) > (200:Int)))))
end
theorem q23 (n:Net) (K:List PA->Prop) (hs:p23 n=true) (hk:K (e23 (s23 n))):vcFun Tryd.prog G23 zEU 23 [.agg (enc_24 n)] K :=
  za4 (by kernel_rfl) (zc hs hk (λ hs hk=>(zxQ hs hk)) (λ hs hk=>(zxQ hs hk)))
def zEZ : List PA → COut
  | [.agg [.int .i64 zal,.sl zai zaH zah]]=>.det (IsE enc_40 4 zaH zah/\p23 (⟨zal,(⟨zai,zam zah⟩:(Sl Tie))⟩:Net)=true) [.one (.bool (s23 (⟨zal,(⟨zai,zam zah⟩:(Sl Tie))⟩:Net)))]
  | _=>.no
theorem zHY:zas Tryd.prog 23:=⟨_,rfl,rfl,by kernel_rfl⟩
theorem zL6:Ok Tryd.prog 23 zEZ:=zbs zKg zHY λ args K h=>by
  unfold zEZ at h
  split at h
  · rename_i zal zai zaH zah
    obtain⟨⟨⟨rfl,zax,rfl⟩,hs⟩,hk⟩:=h
    try rw[zan zax] at hs
    try rw[zan zax] at hk
    exact⟨(λ _ _=>[]),(λ _=>false),zEU,q23 (⟨zal,(⟨zai,zax⟩:(Sl Tie))⟩:Net) K hs hk⟩
  · exact h.elim
abbrev T60:Tabs:=Tabs.nil
theorem zKh:TabsOk Tryd.prog T60:=TabsOk.nil
abbrev G60:Ctrs:=csm T60 (λ _ _=>[]) (λ _=>false)
def zE0:Ann:=⟨18,[(0,zK [0,1] []),(1,zK [0,1,5] []),(2,zK [0,1,5,9] []),(3,zK [0,1,5] []),(4,zK [0,1,5,17] []),(5,zK [4] []),(6,zK [4] [])],
 [(2,zK [0,1,5] [])],
 [],
 [],[]⟩
abbrev R60:=Bool
abbrev e60 (r:R60):List PA:=[.one (.bool r)]
@[irreducible] def z60:=ptF Tryd.prog G60 zE0 Tryd.f60
def zBD (l_a0:(Sl Int)) (x:Int) (iv0:Int):St:=⟨[(0,zS zab 1 l_a0),(1,zI x),(5,zI iv0)],[],[]⟩
abbrev zHZ (K:List PA->Prop) (l_a0:(Sl Int)) (x:Int) (X:St->Prop) (P:Int->Bool) (S:Int->Bool):Prop:=∀ ⦃iv0:Int⦄,P iv0=true->K (e60 (S iv0))->X (zBD l_a0 x iv0)
section
variable {K:List PA->Prop}{l_a0:(Sl Int)}{x:Int}{iv0:Int}{X0:St->Prop}{P0:Int->Bool}{S0:Int->Bool}
def zis (l_a0:(Sl Int)) (x:Int) (S0:Int->Bool) (iv0:Int):Bool :=
  (cond (decide (iv0 < (l_a0.len : Int)))
 (cond ((l_a0.get iv0.toNat) == x)
 true
 (S0 (w64 (iv0+(1:Int)))))
 false)
def zit (l_a0:(Sl Int)) (x:Int) (P0:Int->Bool) (iv0:Int):Bool :=
  (cond (decide (iv0 < (l_a0.len : Int)))
 (decide ((0<=iv0/\iv0 < (l_a0.len:Int))) &&
 (cond ((l_a0.get iv0.toNat) == x)
 true
 (P0 (w64 (iv0+(1:Int))))))
 true)
def ziu (l_a0:(Sl Int)) (x:Int):Nat->Int->Bool:=lpO (λ _=>default) (zis l_a0 x)
def ziv (l_a0:(Sl Int)) (x:Int):Nat->Int->Bool:=lpO (λ _=>false) (zit l_a0 x)
def zxR (l_a0:(Sl Int)) (x:Int) (iv0:Int):Bool:=ziu l_a0 x Fuel iv0
def zxS (l_a0:(Sl Int)) (x:Int) (iv0:Int):Bool:=ziv l_a0 x Fuel iv0
theorem zE1 (hs:zxS l_a0 x iv0=true) (hk:K (e60 (zxR l_a0 x iv0))):z60 K [1,0,1,0] [] (zBD l_a0 x iv0) :=
  zl (λ X=>z60 K [1,0,1,0,0] [X]) (by kernel_rfl) λ X0 hX =>
  (show ∀ k, zHZ K l_a0 x X0 (ziv l_a0 x k) (ziu l_a0 x k) from zfc _ _ (zit l_a0 x) (zis l_a0 x) (zHZ K l_a0 x X0)
 (by intro _ hs;exact absurd hs dqk)
 (by intro P0 S0 hX0 iv0 hs hk;exact hX _ (za4 (by kernel_rfl) (zc hs hk (λ hs hk=>(zaR hs λ hc hs=>And.intro hc (zc hs hk (λ hs hk=>hk) (λ hs hk=>(hX0 hs hk))))) (λ hs hk=>hk))))) _ hs hk
def s60 (l_a0:(Sl Int)) (x:Int):Bool :=
  (zxR l_a0 x (0:Int))
def p60 (l_a0:(Sl Int)) (x:Int):Bool :=
  (zxS l_a0 x (0:Int))
end
theorem q60 (l_a0:(Sl Int)) (x:Int) (K:List PA->Prop) (hs:p60 l_a0 x=true) (hk:K (e60 (s60 l_a0 x))):vcFun Tryd.prog G60 zE0 60 [.one (.sl l_a0.len 1 (λ i=>zab (l_a0.get i))),.one (.int .i64 x)] K :=
  za4 (by kernel_rfl) (zE1 hs hk)
def zE2 : List PA → COut
  | [.one (.sl zeC zkp zeD),.one (.int .i64 a1)]=>.det (IsE zab 1 zkp zeD/\p60 (⟨zeC,zau zeD⟩:(Sl Int)) a1=true) [.one (.bool (s60 (⟨zeC,zau zeD⟩:(Sl Int)) a1))]
  | _=>.no
theorem zH0:zas Tryd.prog 60:=⟨_,rfl,rfl,by kernel_rfl⟩
theorem zL7:Ok Tryd.prog 60 zE2:=zbs zKh zH0 λ args K h=>by
  unfold zE2 at h
  split at h
  · rename_i zeC zkp zeD a1
    obtain⟨⟨⟨rfl,zgB,rfl⟩,hs⟩,hk⟩:=h
    try rw[zbp zgB] at hs
    try rw[zbp zgB] at hk
    exact⟨(λ _ _=>[]),(λ _=>false),zE0,q60 (⟨zeC,zgB⟩:(Sl Int)) a1 K hs hk⟩
  · exact h.elim
theorem zyN {y:Net}{P:Net->Prop}(h:P y):P ⟨y.Nodes,⟨y.Ties.len,y.Ties.get⟩⟩:=h
abbrev T27:Tabs:=(Tabs.nil.addF 60 zE2)
theorem zKi:TabsOk Tryd.prog T27:=(TabsOk.nil.addF zL7)
abbrev G27:Ctrs:=csm T27 (λ _ _=>[]) (λ _=>false)
def zE3:Ann:=⟨32,[(0,zK [1,2,4] [2,4]),(1,zK [1,2,4,5] [2,4,5]),(2,zK [1,2,4,5,6] [2,4,5]),(3,zK [1,2,4,5,6,14] [2,4,5,29]),(4,zK [1,2,4,5,6] [2,4,5,29]),(5,zK [1,2,4,5,6,20] [2,4,5,29]),(6,zK [1,2,4,5,6] [2,4,5,29]),(7,zK [4] [4,29])],
 [(3,⟨[1,2,4,5,6],[2,4,5,29],[],[(5,1,29,40,λ _=>enc_40 default)],[],[],[]⟩)],
 [(6,zK [1,2,4,5,6,20] [2,4,5,29])],
 [],[]⟩
abbrev R27:=Net
abbrev e27 (r:R27):List PA:=[.agg [.int .i64 r.Nodes,.sl r.Ties.len 4 (λ i=>enc_40 (r.Ties.get i))]]
@[irreducible] def z27:=ptF Tryd.prog G27 zE3 Tryd.f27
def zBE (n:Net) (l_a1:(Sl Int)) (iv0:Int) (zep:(Sl Tie)) (zfK:Nat->List PV):St:=⟨[(1,zS zab 1 l_a1),(2,zp 2 0),(4,zp 4 0),(5,zp 5 0),(6,zI iv0)],[(2,.box 24 (zm (enc_24 n))),(4,.box 24 [zi (0:Int),.p (.nils)]),(5,.box 24 [zi n.Nodes,.vec 29]),(29,.vec 40 4 32 zep.len zfK)],[]⟩
abbrev zE4 (K:List PA->Prop) (n:Net) (l_a1:(Sl Int)) (X:St->Prop) (P:Int->(Sl Tie)->Bool) (S:Int->(Sl Tie)->Net):Prop:=∀ ⦃iv0:Int⦄ ⦃zep:(Sl Tie)⦄ ⦃zfK:Nat->List PV⦄,P iv0 zep=true->K (e27 (S iv0 zep))->zfK=zg enc_40 zep->X (zBE n l_a1 iv0 zep zfK)
section
variable {K:List PA->Prop}{n:Net}{l_a1:(Sl Int)}{iv0:Int}{zep:(Sl Tie)}{zfK:Nat->List PV}{X0:St->Prop}{P0:Int->(Sl Tie)->Bool}{S0:Int->(Sl Tie)->Net}{iv1:Int}{zqP:Bool}{zfL:(Sl Tie)}{zxT:Nat->List PV}
def zqQ (S0:Int->(Sl Tie)->Net) (n:Net) (l_a1:(Sl Int)) (iv1:Int) (zqP:Bool) (zfL:(Sl Tie)):Net :=
  (cond zqP
 (S0 (w64 (iv1+(1:Int))) (⟨(zfL.len+1),(zfn zfL.len zfL.get (λ _=>(n.Ties.get iv1.toNat)))⟩:Sl Tie))
 (S0 (w64 (iv1+(1:Int))) zfL))
def zqR (P0:Int->(Sl Tie)->Bool) (n:Net) (l_a1:(Sl Int)) (iv1:Int) (zqP:Bool) (zfL:(Sl Tie)):Bool :=
  (cond zqP
 (decide ((0<=iv1/\iv1 < (n.Ties.len:Int))) &&
 (decide (((zfL.len+1) * 32<=140737488355328/\zfL.len+1<=9223372036854775807)) &&
 (P0 (w64 (iv1+(1:Int))) (⟨(zfL.len+1),(zfn zfL.len zfL.get (λ _=>(n.Ties.get iv1.toNat)))⟩:Sl Tie))))
 (P0 (w64 (iv1+(1:Int))) zfL))
theorem zE5 (hX0:zE4 K n l_a1 X0 P0 S0) (hs:zqR P0 n l_a1 iv1 zqP zfL=true) (hk:K (e27 (zqQ S0 n l_a1 iv1 zqP zfL))) (zE6:zxT=zg enc_40 zfL):z27 K [1,1,0,1,0,0,1,0,0,1] [X0] ⟨[(1,zS zab 1 l_a1),(2,zp 2 0),(4,zp 4 0),(5,zp 5 0),(6,zI iv1),(20,zB zqP)],[(2,.box 24 (zm (enc_24 n))),(4,.box 24 [zi (0:Int),.p (.nils)]),(5,.box 24 [zi n.Nodes,.vec 29]),(29,.vec 40 4 32 zfL.len zxT)],[]⟩:=by subst zE6;exact za4 (by kernel_rfl) (zc hs hk (λ hs hk=>(zaR hs λ hc hs=>And.intro hc (zaR hs λ hc hs=>And.intro hc (hX0 hs hk (zkj (enc:=enc_40) (f:=zfL.get) (h:=(λ _=>(n.Ties.get iv1.toNat))) rfl rfl))))) (λ hs hk=>(hX0 hs hk rfl)))
def ziw (n:Net) (l_a1:(Sl Int)) (S0:Int->(Sl Tie)->Net) (iv0:Int) (zep:(Sl Tie)):Net :=
  (cond (decide (iv0 < (n.Ties.len : Int)))
 (zqQ S0 n l_a1 iv0 (!(s60 l_a1 iv0)) zep)
 (⟨n.Nodes,zep⟩:Net))
def zix (n:Net) (l_a1:(Sl Int)) (P0:Int->(Sl Tie)->Bool) (iv0:Int) (zep:(Sl Tie)):Bool :=
  (cond (decide (iv0 < (n.Ties.len : Int)))
 (decide ((p60 l_a1 iv0=true)) &&
 (zqR P0 n l_a1 iv0 (!(s60 l_a1 iv0)) zep))
 true)
def zgK (n:Net) (l_a1:(Sl Int)):Nat->Int->(Sl Tie)->Net:=lpO (λ _ _=>default) (ziw n l_a1)
def zgL (n:Net) (l_a1:(Sl Int)):Nat->Int->(Sl Tie)->Bool:=lpO (λ _ _=>false) (zix n l_a1)
def zxU (n:Net) (l_a1:(Sl Int)) (iv0:Int) (zep:(Sl Tie)):Net:=zgK n l_a1 Fuel iv0 zep
def zxV (n:Net) (l_a1:(Sl Int)) (iv0:Int) (zep:(Sl Tie)):Bool:=zgL n l_a1 Fuel iv0 zep
theorem zE7 (hs:zxV n l_a1 iv0 zep=true) (hk:K (e27 (zxU n l_a1 iv0 zep))) (zqS:zfK=zg enc_40 zep):z27 K [1,1,0,1,0] [] (zBE n l_a1 iv0 zep zfK) :=
  zl (λ X=>z27 K [1,1,0,1,0,0] [X]) (by kernel_rfl) λ X0 hX =>
  (show ∀ k, zE4 K n l_a1 X0 (zgL n l_a1 k) (zgK n l_a1 k) from zfc _ _ (zix n l_a1) (ziw n l_a1) (zE4 K n l_a1 X0)
 (by intro _ _ _ hs;exact absurd hs dqk)
 (by intro P0 S0 hX0 iv0 zep zfK hs hk zqS;subst zqS;exact hX _ (za4 (by kernel_rfl) (zc hs hk (λ hs hk=>(zaR hs λ hc hs=>And.intro (And.intro (zE zab 1 l_a1.get) hc) (zE5 hX0 hs hk rfl))) (λ hs hk=>hk))))) _ hs hk zqS
def s27 (n:Net) (l_a1:(Sl Int)):Net :=
  (zxU n l_a1 (0:Int) (⟨0,(λ _=>default)⟩:Sl Tie))
def p27 (n:Net) (l_a1:(Sl Int)):Bool :=
  (zxV n l_a1 (0:Int) (⟨0,(λ _=>default)⟩:Sl Tie))
end
theorem q27 (n:Net) (l_a1:(Sl Int)) (K:List PA->Prop) (hs:p27 n l_a1=true) (hk:K (e27 (s27 n l_a1))):vcFun Tryd.prog G27 zE3 27 [.agg (enc_24 n),.one (.sl l_a1.len 1 (λ i=>zab (l_a1.get i)))] K :=
  za4 (by kernel_rfl) (zE7 hs hk rfl)
def zE8 : List PA → COut
  | [.agg [.int .i64 zal,.sl zai zaH zah],.one (.sl zeE zk2 zeA)]=>.det (IsE enc_40 4 zaH zah/\IsE zab 1 zk2 zeA/\p27 (⟨zal,(⟨zai,zam zah⟩:(Sl Tie))⟩:Net) (⟨zeE,zau zeA⟩:(Sl Int))=true) [.agg [.int .i64 ((s27 (⟨zal,(⟨zai,zam zah⟩:(Sl Tie))⟩:Net) (⟨zeE,zau zeA⟩:(Sl Int))).Nodes),.sl ((s27 (⟨zal,(⟨zai,zam zah⟩:(Sl Tie))⟩:Net) (⟨zeE,zau zeA⟩:(Sl Int))).Ties.len) 4 (λ i=>enc_40 ((s27 (⟨zal,(⟨zai,zam zah⟩:(Sl Tie))⟩:Net) (⟨zeE,zau zeA⟩:(Sl Int))).Ties.get i))]]
  | _=>.no
theorem zH1:zas Tryd.prog 27:=⟨_,rfl,rfl,by kernel_rfl⟩
theorem zL8:Ok Tryd.prog 27 zE8:=zbs zKi zH1 λ args K h=>by
  unfold zE8 at h
  split at h
  · rename_i zal zai zaH zah zeE zk2 zeA
    obtain⟨⟨⟨rfl,zax,rfl⟩,⟨rfl,zhK,rfl⟩,hs⟩,hk⟩:=h
    try rw[zan zax] at hs
    try rw[zan zax] at hk
    try rw[zbp zhK] at hs
    try rw[zbp zhK] at hk
    exact⟨(λ _ _=>[]),(λ _=>false),zE3,q27 (⟨zal,(⟨zai,zax⟩:(Sl Tie))⟩:Net) (⟨zeE,zhK⟩:(Sl Int)) K hs hk⟩
  · exact h.elim
abbrev T4:Tabs:=((((((Tabs.nil.addF 20 zEQ).addF 21 zEP).addF 22 zAe).addF 23 zEZ).addF 26 zAh).addF 27 zE8)
theorem zL9:TabsOk Tryd.prog T4:=((((((TabsOk.nil.addF zL4).addF zL3).addF zKR).addF zL6).addF zKS).addF zL8)
abbrev G4:Ctrs:=csm T4 (λ _ _=>[]) (λ _=>false)
def zKj:Ann:=⟨142,[(0,zK [1,2] [2]),(1,zK [1,2,33] [2]),(2,zK [4] []),(3,zK [1,2,5,6] [2]),(4,zK [1,2,5,6,7] [2]),(5,zK [1,2,5,6,7,8] [2]),(6,zK [1,2,5,6,7,8,44] [2,55]),(7,zK [1,2,5,6,7,8] [2,55]),(8,zK [1,2,5,6,7,8,51] [2,55]),(9,zK [1,2,5,6,7,8] [2,55]),(10,zK [2,5,6,7,10] [2,55]),(11,zK [2,5,6,7,10,64] [2,55]),(12,zK [4] []),(13,zK [2,5,7,10,81] [2,55]),(14,zK [4] []),(15,zK [2,5,7,10,11] [2,55]),(16,zK [2,5,7,10,11,85] [2,55]),(17,zK [2,5,7,10,11] [2,55]),(18,zK [2,5,7,10,11,118] [2,55]),(19,zK [4] []),(20,zK [5,7,10,13] [55]),(21,zK [4] [])],
 [(6,⟨[1,2,5,6,7,8],[2,55],[(7,55,3,λ _=>zab default)],[],[],[],[]⟩),(16,zK [2,5,7,10,11] [2,55])],
 [(2,zK [1,2,33] [2]),(3,zK [1,2] [2]),(4,zK [1,2,5,6] [2]),(10,zK [2,5,6,7] [2,55]),(11,zK [2,5,6,7,10] [2,55]),(13,zK [2,5,6,7,10] [2,55]),(15,zK [2,5,7,10] [2,55]),(20,zK [2,5,7,10] [2,55]),(21,zK [5,7,10,13] [55])],
 [],[]⟩
abbrev R4:=Bool
abbrev e4 (r:R4):List PA:=[.one (.bool r)]
@[irreducible] def z4:=ptF Tryd.prog G4 zKj Tryd.f4
def zH2 (n:Net) (bits:Int) (lv2:(Sl Int)) (ev2:Int) (iv3:Int) (zcF:(Sl Int)) (zfM:Nat->List PV):St:=⟨[(1,zI bits),(2,zp 2 0),(5,zS zab 1 lv2),(6,zI ev2),(7,zv 55),(8,zI iv3)],[(2,.box 24 (zm (enc_24 n))),(55,.vec 3 1 8 zcF.len zfM)],[]⟩
abbrev zKY (K:List PA->Prop) (n:Net) (bits:Int) (lv2:(Sl Int)) (ev2:Int) (X:St->Prop) (P:Int->(Sl Int)->Bool) (S:Int->(Sl Int)->Bool):Prop:=∀ ⦃iv3:Int⦄ ⦃zcF:(Sl Int)⦄ ⦃zfM:Nat->List PV⦄,P iv3 zcF=true->K (e4 (S iv3 zcF))->zfM=zg zab zcF->X (zH2 n bits lv2 ev2 iv3 zcF zfM)
def zH3 (n:Net) (lv2:(Sl Int)) (zaW:(Sl Int)) (fv5:Int) (iv8:Int):St:=⟨[(2,zp 2 0),(5,zS zab 1 lv2),(7,zv 55),(10,zI fv5),(11,zI iv8)],[(2,.box 24 (zm (enc_24 n))),(55,.fvec 1 zaW.len (λ i=>zab (zaW.get i)))],[]⟩
abbrev zKZ (K:List PA->Prop) (n:Net) (lv2:(Sl Int)) (zaW:(Sl Int)) (fv5:Int) (X:St->Prop) (P:Int->Bool) (S:Int->Bool):Prop:=∀ ⦃iv8:Int⦄,P iv8=true->K (e4 (S iv8))->X (zH3 n lv2 zaW fv5 iv8)
section
variable {K:List PA->Prop}{n:Net}{bits:Int}{zqT:Bool}{lv2:(Sl Int)}{ev2:Int}{zH4:Nat->List PV}{iv3:Int}{zcF:(Sl Int)}{zfM:Nat->List PV}{X3:St->Prop}{P3:Int->(Sl Int)->Bool}{S3:Int->(Sl Int)->Bool}{zaW:(Sl Int)}{zxW:Nat->List PV}{fv5:Int}{iv8:Int}{X8:St->Prop}{P8:Int->Bool}{S8:Int->Bool}{zIU:Int}
def zqU (lv2:(Sl Int)) (zaW:(Sl Int)) (fv5:Int) (zIU:Int):Bool :=
  (cond (zIU == (0:Int))
 (cond (fv5 != (0:Int))
 true
 (cond (decide ((zaW.len : Int) >= (lv2.len : Int)))
 true
 false))
 false)
theorem zE9 (hk:K (e4 (zqU lv2 zaW fv5 zIU))):z4 K [1,1,1,1,1,1,1,1,1,1] [] ⟨[(5,zS zab 1 lv2),(7,zv 55),(10,zI fv5),(13,zI zIU)],[(55,.fvec 1 zaW.len (λ i=>zab (zaW.get i)))],[]⟩:=za4 (by kernel_rfl) (zt hk (λ hk=>(zt hk (λ hk=>hk) (λ hk=>(zt hk (λ hk=>hk) (λ hk=>hk))))) (λ hk=>hk))
def zxX (n:Net) (lv2:(Sl Int)) (zaW:(Sl Int)) (fv5:Int):Bool :=
  (zqU lv2 zaW fv5 ((s26 (s27 n lv2)).2))
def zxY (n:Net) (lv2:(Sl Int)) (zaW:(Sl Int)) (fv5:Int):Bool :=
  (decide ((p27 n lv2=true)) &&
 (decide ((p26 (s27 n lv2)=true)) &&
 true))
theorem zH5 (hs:zxY n lv2 zaW fv5=true) (hk:K (e4 (zxX n lv2 zaW fv5))):z4 K [1,1,1,1,1,1,1,1,1] [] ⟨[(2,zp 2 0),(5,zS zab 1 lv2),(7,zv 55),(10,zI fv5)],[(2,.box 24 (zm (enc_24 n))),(55,.fvec 1 zaW.len (λ i=>zab (zaW.get i)))],[]⟩:=za4 (by kernel_rfl) (zaR hs λ hc hs=>And.intro (And.intro (zE enc_40 4 n.Ties.get) (And.intro (zE zab 1 lv2.get) hc)) (zaR hs λ hc hs=>And.intro (And.intro (zE enc_40 4 ((s27 n lv2).Ties.get)) (zyN (y:=s27 n lv2) (P:=λ y=>p26 y=true) hc)) (zyN (y:=s27 n lv2) (P:=λ y=>z4 K [1,1,1,1,1,1,1,1,1,1] [] ⟨[(5,zS zab 1 lv2),(7,zv 55),(10,zI fv5),(13,zI ((s26 y).2))],[(55,.fvec 1 zaW.len (λ i=>zab (zaW.get i)))],[]⟩) (zE9 hk))))
def zlG (n:Net) (lv2:(Sl Int)) (zaW:(Sl Int)) (fv5:Int) (S8:Int->Bool) (iv8:Int):Bool :=
  (cond (decide (iv8 < (lv2.len : Int)))
 (cond (decide ((lv2.get iv8.toNat) < (0:Int)))
 false
 (cond (decide ((lv2.get iv8.toNat) >= (n.Ties.len : Int)))
 false
 (cond (decide (iv8 > (0:Int)))
 (cond (decide ((lv2.get iv8.toNat) <= (lv2.get ((w64 (iv8 - (1:Int))).toNat))))
 false
 (S8 (w64 (iv8+(1:Int)))))
 (S8 (w64 (iv8+(1:Int)))))))
 (zxX n lv2 zaW fv5))
def zlH (n:Net) (lv2:(Sl Int)) (zaW:(Sl Int)) (fv5:Int) (P8:Int->Bool) (iv8:Int):Bool :=
  (cond (decide (iv8 < (lv2.len : Int)))
 (decide ((0<=iv8/\iv8 < (lv2.len:Int))) &&
 (cond (decide ((lv2.get iv8.toNat) < (0:Int)))
 true
 (decide ((0<=iv8/\iv8 < (lv2.len:Int))) &&
 (cond (decide ((lv2.get iv8.toNat) >= (n.Ties.len : Int)))
 true
 (cond (decide (iv8 > (0:Int)))
 (decide ((0<=iv8/\iv8 < (lv2.len:Int))) &&
 (decide ((0<=(w64 (iv8 - (1:Int)))/\(w64 (iv8 - (1:Int))) < (lv2.len:Int))) &&
 (cond (decide ((lv2.get iv8.toNat) <= (lv2.get ((w64 (iv8 - (1:Int))).toNat))))
 true
 (P8 (w64 (iv8+(1:Int)))))))
 (P8 (w64 (iv8+(1:Int)))))))))
 (zxY n lv2 zaW fv5))
def zsl (n:Net) (lv2:(Sl Int)) (zaW:(Sl Int)) (fv5:Int):Nat->Int->Bool:=lpO (λ _=>default) (zlG n lv2 zaW fv5)
def zsm (n:Net) (lv2:(Sl Int)) (zaW:(Sl Int)) (fv5:Int):Nat->Int->Bool:=lpO (λ _=>false) (zlH n lv2 zaW fv5)
def zxZ (n:Net) (lv2:(Sl Int)) (zaW:(Sl Int)) (fv5:Int) (iv8:Int):Bool:=zsl n lv2 zaW fv5 Fuel iv8
def zx0 (n:Net) (lv2:(Sl Int)) (zaW:(Sl Int)) (fv5:Int) (iv8:Int):Bool:=zsm n lv2 zaW fv5 Fuel iv8
theorem zH6 (hs:zx0 n lv2 zaW fv5 iv8=true) (hk:K (e4 (zxZ n lv2 zaW fv5 iv8))):z4 K [1,1,1,1,1,1,1,1,0,1,0] [] (zH3 n lv2 zaW fv5 iv8) :=
  zl (λ X=>z4 K [1,1,1,1,1,1,1,1,0,1,0,0] [X]) (by kernel_rfl) λ X8 hX =>
  (show ∀ k, zKZ K n lv2 zaW fv5 X8 (zsm n lv2 zaW fv5 k) (zsl n lv2 zaW fv5 k) from zfc _ _ (zlH n lv2 zaW fv5) (zlG n lv2 zaW fv5) (zKZ K n lv2 zaW fv5 X8)
 (by intro _ hs;exact absurd hs dqk)
 (by intro P8 S8 hX8 iv8 hs hk;exact hX _ (za4 (by kernel_rfl) (zc hs hk (λ hs hk=>(zaR hs λ hc hs=>And.intro hc (zc hs hk (λ hs hk=>hk) (λ hs hk=>(zaR hs λ hc hs=>And.intro hc (zc hs hk (λ hs hk=>hk) (λ hs hk=>(zc hs hk (λ hs hk=>(zaR hs λ hc hs=>And.intro hc (zaR hs λ hc hs=>And.intro hc (zc hs hk (λ hs hk=>hk) (λ hs hk=>(hX8 hs hk)))))) (λ hs hk=>(hX8 hs hk)))))))))) (λ hs hk=>(zH5 hs hk)))))) _ hs hk
def zx1 (n:Net) (lv2:(Sl Int)) (zaW:(Sl Int)) (fv5:Int):Bool :=
  (zxZ n lv2 zaW fv5 (0:Int))
def zx2 (n:Net) (lv2:(Sl Int)) (zaW:(Sl Int)) (fv5:Int):Bool :=
  (zx0 n lv2 zaW fv5 (0:Int))
theorem zH7 (hs:zx2 n lv2 zaW fv5=true) (hk:K (e4 (zx1 n lv2 zaW fv5))):z4 K [1,1,1,1,1,1,1,1] [] ⟨[(2,zp 2 0),(5,zS zab 1 lv2),(7,zv 55),(10,zI fv5)],[(2,.box 24 (zm (enc_24 n))),(55,.fvec 1 zaW.len (λ i=>zab (zaW.get i)))],[]⟩:=za4 (by kernel_rfl) (zH6 hs hk)
def zx3 (n:Net) (lv2:(Sl Int)) (ev2:Int) (zaW:(Sl Int)) (fv5:Int):Bool :=
  (cond (ev2 != (0:Int))
 false
 (cond (decide ((lv2.len : Int) > (3:Int)))
 false
 (zx1 n lv2 zaW fv5)))
def zx4 (n:Net) (lv2:(Sl Int)) (ev2:Int) (zaW:(Sl Int)) (fv5:Int):Bool :=
  (cond (ev2 != (0:Int))
 true
 (cond (decide ((lv2.len : Int) > (3:Int)))
 true
 (zx2 n lv2 zaW fv5)))
theorem zH8 (hs:zx4 n lv2 ev2 zaW fv5=true) (hk:K (e4 (zx3 n lv2 ev2 zaW fv5))):z4 K [1,1,1,1,1,1,1] [] ⟨[(2,zp 2 0),(5,zS zab 1 lv2),(6,zI ev2),(7,zv 55),(10,zI fv5)],[(2,.box 24 (zm (enc_24 n))),(55,.fvec 1 zaW.len (λ i=>zab (zaW.get i)))],[]⟩:=za4 (by kernel_rfl) (zc hs hk (λ hs hk=>hk) (λ hs hk=>(zc hs hk (λ hs hk=>hk) (λ hs hk=>(zH7 hs hk)))))
def zx5 (n:Net) (lv2:(Sl Int)) (ev2:Int) (zaW:(Sl Int)) (fv5:Int):Bool :=
  (cond (ev2 == (8:Int))
 (cond (fv5 == (5:Int))
 true
 (cond (decide ((zaW.len : Int) > (3:Int)))
 true
 false))
 (zx3 n lv2 ev2 zaW fv5))
def zx6 (n:Net) (lv2:(Sl Int)) (ev2:Int) (zaW:(Sl Int)) (fv5:Int):Bool :=
  (cond (ev2 == (8:Int))
 true
 (zx4 n lv2 ev2 zaW fv5))
theorem zH9 (hs:zx6 n lv2 ev2 zaW fv5=true) (hk:K (e4 (zx5 n lv2 ev2 zaW fv5))):z4 K [1,1,1,1,1,1] [] ⟨[(2,zp 2 0),(5,zS zab 1 lv2),(6,zI ev2),(7,zv 55),(10,zI fv5)],[(2,.box 24 (zm (enc_24 n))),(55,.fvec 1 zaW.len (λ i=>zab (zaW.get i)))],[]⟩:=za4 (by kernel_rfl) (zc hs hk (λ hs hk=>(zt hk (λ hk=>hk) (λ hk=>(zt hk (λ hk=>hk) (λ hk=>hk))))) (λ hs hk=>(zH8 hs hk)))
def zsn (n:Net) (lv2:(Sl Int)) (ev2:Int) (zaW:(Sl Int)):Bool :=
  (zx5 n lv2 ev2 zaW ((s26 (s27 n zaW)).2))
def zso (n:Net) (lv2:(Sl Int)) (ev2:Int) (zaW:(Sl Int)):Bool :=
  (decide ((p27 n zaW=true)) &&
 (decide ((p26 (s27 n zaW)=true)) &&
 (zx6 n lv2 ev2 zaW ((s26 (s27 n zaW)).2))))
theorem zIa (hs:zso n lv2 ev2 zaW=true) (hk:K (e4 (zsn n lv2 ev2 zaW))) (zFa:zxW=zg zab zaW):z4 K [1,1,1,1,1] [] ⟨[(2,zp 2 0),(5,zS zab 1 lv2),(6,zI ev2),(7,zv 55)],[(2,.box 24 (zm (enc_24 n))),(55,.vec 3 1 8 zaW.len zxW)],[]⟩:=by subst zFa;exact za4 (by kernel_rfl) (zaR hs λ hc hs=>And.intro (And.intro (zE enc_40 4 n.Ties.get) (And.intro (zE zab 1 zaW.get) hc)) (zaR hs λ hc hs=>And.intro (And.intro (zE enc_40 4 ((s27 n zaW).Ties.get)) (zyN (y:=s27 n zaW) (P:=λ y=>p26 y=true) hc)) (zyN (y:=s27 n zaW) (P:=λ y=>z4 K [1,1,1,1,1,1] [] ⟨[(2,zp 2 0),(5,zS zab 1 lv2),(6,zI ev2),(7,zv 55),(10,zI ((s26 y).2))],[(2,.box 24 (zm (enc_24 n))),(55,.fvec 1 zaW.len (λ i=>zab (zaW.get i)))],[]⟩) (zH9 hs hk))))
def zlI (n:Net) (bits:Int) (lv2:(Sl Int)) (ev2:Int) (S3:Int->(Sl Int)->Bool) (iv3:Int) (zcF:(Sl Int)):Bool :=
  (cond (decide (iv3 < (n.Ties.len : Int)))
 (cond ((ztx .i64 (ztw .i64 bits iv3) (1:Int)) == (1:Int))
 (S3 (w64 (iv3+(1:Int))) (⟨(zcF.len+1),(zfn zcF.len zcF.get (λ _=>iv3))⟩:Sl Int))
 (S3 (w64 (iv3+(1:Int))) zcF))
 (zsn n lv2 ev2 zcF))
def zlJ (n:Net) (bits:Int) (lv2:(Sl Int)) (ev2:Int) (P3:Int->(Sl Int)->Bool) (iv3:Int) (zcF:(Sl Int)):Bool :=
  (cond (decide (iv3 < (n.Ties.len : Int)))
 (decide ((0<=iv3)) &&
 (cond ((ztx .i64 (ztw .i64 bits iv3) (1:Int)) == (1:Int))
 (decide (((zcF.len+1) * 8<=140737488355328/\zcF.len+1<=9223372036854775807)) &&
 (P3 (w64 (iv3+(1:Int))) (⟨(zcF.len+1),(zfn zcF.len zcF.get (λ _=>iv3))⟩:Sl Int)))
 (P3 (w64 (iv3+(1:Int))) zcF)))
 (zso n lv2 ev2 zcF))
def zkG (n:Net) (bits:Int) (lv2:(Sl Int)) (ev2:Int):Nat->Int->(Sl Int)->Bool:=lpO (λ _ _=>default) (zlI n bits lv2 ev2)
def zkH (n:Net) (bits:Int) (lv2:(Sl Int)) (ev2:Int):Nat->Int->(Sl Int)->Bool:=lpO (λ _ _=>false) (zlJ n bits lv2 ev2)
def zx7 (n:Net) (bits:Int) (lv2:(Sl Int)) (ev2:Int) (iv3:Int) (zcF:(Sl Int)):Bool:=zkG n bits lv2 ev2 Fuel iv3 zcF
def zx8 (n:Net) (bits:Int) (lv2:(Sl Int)) (ev2:Int) (iv3:Int) (zcF:(Sl Int)):Bool:=zkH n bits lv2 ev2 Fuel iv3 zcF
theorem zIb (hs:zx8 n bits lv2 ev2 iv3 zcF=true) (hk:K (e4 (zx7 n bits lv2 ev2 iv3 zcF))) (zqV:zfM=zg zab zcF):z4 K [1,1,1,1,0,1,0] [] (zH2 n bits lv2 ev2 iv3 zcF zfM) :=
  zl (λ X=>z4 K [1,1,1,1,0,1,0,0] [X]) (by kernel_rfl) λ X3 hX =>
  (show ∀ k, zKY K n bits lv2 ev2 X3 (zkH n bits lv2 ev2 k) (zkG n bits lv2 ev2 k) from zfc _ _ (zlJ n bits lv2 ev2) (zlI n bits lv2 ev2) (zKY K n bits lv2 ev2 X3)
 (by intro _ _ _ hs;exact absurd hs dqk)
 (by intro P3 S3 hX3 iv3 zcF zfM hs hk zqV;subst zqV;exact hX _ (za4 (by kernel_rfl) (zc hs hk (λ hs hk=>(zaR hs λ hc hs=>And.intro hc (zc hs hk (λ hs hk=>(zaR hs λ hc hs=>And.intro hc (hX3 hs hk (zkj (enc:=zab) (f:=zcF.get) (h:=(λ _=>iv3)) rfl rfl)))) (λ hs hk=>(hX3 hs hk rfl))))) (λ hs hk=>(zIa hs hk rfl)))))) _ hs hk zqV
def zx9 (n:Net) (bits:Int) (lv2:(Sl Int)) (ev2:Int):Bool :=
  (zx7 n bits lv2 ev2 (0:Int) (⟨0,(λ _=>default)⟩:Sl Int))
def zya (n:Net) (bits:Int) (lv2:(Sl Int)) (ev2:Int):Bool :=
  (zx8 n bits lv2 ev2 (0:Int) (⟨0,(λ _=>default)⟩:Sl Int))
theorem zIc (hs:zya n bits lv2 ev2=true) (hk:K (e4 (zx9 n bits lv2 ev2))) (zKk:zH4=zg zab lv2):z4 K [1,1,1] [] ⟨[(1,zI bits),(2,zp 2 0),(5,zP (.sl lv2.len 1 zH4)),(6,zI ev2)],[(2,.box 24 (zm (enc_24 n)))],[]⟩:=by subst zKk;exact za4 (by kernel_rfl) (zIb hs hk rfl)
def zsp (n:Net) (bits:Int):Bool :=
  (zx9 n bits ((s22 n).1) ((s22 n).2))
def zsq (n:Net) (bits:Int):Bool :=
  (decide ((p22 n=true)) &&
 (zya n bits ((s22 n).1) ((s22 n).2)))
theorem zId (hs:zsq n bits=true) (hk:K (e4 (zsp n bits))):z4 K [1,1] [] ⟨[(1,zI bits),(2,zp 2 0)],[(2,.box 24 (zm (enc_24 n)))],[]⟩:=za4 (by kernel_rfl) (zaR hs λ hc hs=>And.intro (And.intro (zE enc_40 4 n.Ties.get) hc) (zIc hs hk rfl))
def zkI (n:Net) (bits:Int) (zqT:Bool):Bool :=
  (cond zqT
 true
 (zsp n bits))
def zkJ (n:Net) (bits:Int) (zqT:Bool):Bool :=
  (cond zqT
 true
 (zsq n bits))
theorem zsr (hs:zkJ n bits zqT=true) (hk:K (e4 (zkI n bits zqT))):z4 K [1,0,1] [] ⟨[(1,zI bits),(2,zp 2 0),(33,zB zqT)],[(2,.box 24 (zm (enc_24 n)))],[]⟩:=za4 (by kernel_rfl) (zc hs hk (λ hs hk=>hk) (λ hs hk=>(zId hs hk)))
def s4 (n:Net) (bits:Int):Bool :=
  (cond (!(s20 n (14:Int)))
 (zkI n bits true)
 (cond (!(s23 n))
 (zkI n bits true)
 (cond (decide (bits < (0:Int)))
 (zkI n bits true)
 (zkI n bits (decide (bits >= (zFJ .i64 (1:Int) (n.Ties.len:Int))))))))
def p4 (n:Net) (bits:Int):Bool :=
  (cond (!(s20 n (14:Int)))
 (zkJ n bits true)
 (decide ((p23 n=true)) &&
 (cond (!(s23 n))
 (zkJ n bits true)
 (cond (decide (bits < (0:Int)))
 (zkJ n bits true)
 (decide ((0<=(n.Ties.len:Int))) &&
 (zkJ n bits (decide (bits >= (zFJ .i64 (1:Int) (n.Ties.len:Int))))))))))
end
theorem q4 (n:Net) (bits:Int) (K:List PA->Prop) (hs:p4 n bits=true) (hk:K (e4 (s4 n bits))):vcFun Tryd.prog G4 zKj 4 [.agg (enc_24 n),.one (.int .i64 bits)] K :=
  za4 (by kernel_rfl) (And.intro (zE enc_40 4 n.Ties.get) (zc hs hk (λ hs hk=>(zsr hs hk)) (λ hs hk=>(zaR hs λ hc hs=>And.intro (And.intro (zE enc_40 4 n.Ties.get) hc) (zc hs hk (λ hs hk=>(zsr hs hk)) (λ hs hk=>(zc hs hk (λ hs hk=>(zsr hs hk)) (λ hs hk=>(zaR hs λ hc hs=>And.intro hc (zsr hs hk))))))))))
def zK1 : List PA → COut
  | [.agg [.int .i64 zal,.sl zai zaH zah],.one (.int .i64 a1)]=>.det (IsE enc_40 4 zaH zah/\p4 (⟨zal,(⟨zai,zam zah⟩:(Sl Tie))⟩:Net) a1=true) [.one (.bool (s4 (⟨zal,(⟨zai,zam zah⟩:(Sl Tie))⟩:Net) a1))]
  | _=>.no
theorem call4:zas Tryd.prog 4:=⟨_,rfl,rfl,by kernel_rfl⟩
theorem ok4:Ok Tryd.prog 4 zK1:=zbs zL9 call4 λ args K h=>by
  unfold zK1 at h
  split at h
  · rename_i zal zai zaH zah a1
    obtain⟨⟨⟨rfl,zax,rfl⟩,hs⟩,hk⟩:=h
    try rw[zan zax] at hs
    try rw[zan zax] at hk
    exact⟨(λ _ _=>[]),(λ _=>false),zKj,q4 (⟨zal,(⟨zai,zax⟩:(Sl Tie))⟩:Net) a1 K hs hk⟩
  · exact h.elim
end Go.Proofs
namespace Go.Proofs.YtedhjaaikeakoaaDoor
open Go Go.Pm Go.ChangeShapes
set_option maxRecDepth 100000
abbrev laid1 : List (String × DataW Unit) := [("overburden/align.never", Rows.laid_overburden_align_never)]
theorem zBF : Tryd.prog.globalNamed "overburden/align.never" = some 0 := by kernel_rfl
theorem zIe:(Tryd.prog.globals[0]?).map (·.type)=some 114:=by kernel_rfl
theorem zIf:Tryd.prog.cellsOf 114=2:=by kernel_rfl
theorem zK2:Tryd.prog.cellsOf 3=1:=by kernel_rfl
theorem door_met (os:Os) (args:Array Value):laidMetH Tryd.prog laid1 ((World.doorLaid Tryd.prog 400 os).forCall (λ _ _=>0) ⟨#[],args,[]⟩).memory :=
 laidMetH_of_parts3 (fuel:=8) (laidMet_of_run' 8 (by kernel_rfl) (by kernel_rfl)) (by kernel_rfl) (by kernel_rfl)
theorem gl_of {W:World}(h:laidMetH Tryd.prog laid1 W):zdI (H0 W):=by
 rw[MakeChecks.laidMetH_plain _ _ _ (by kernel_rfl)] at h
 obtain⟨ps,⟨g0,t0,cs0,f0,p0,q0,hg0,ht0,hv0,hd0,_,_⟩,_,_⟩:=h
 obtain rfl:=Option.some.inj (zBF.symm.trans hg0)
 obtain rfl:=Option.some.inj (zIe.symm.trans ht0)
 obtain⟨y0,y1,n,hx,hl,h0,h1⟩:=trod_struct2 Tryd.underlying114 hd0
 simp only[dqh] at hx
 obtain⟨hx,-⟩:=hx
 simp only[Rows.laid_overburden_align_never,DataW.agg.injEq,dqy,and_true] at hx
 obtain⟨k0,e0,d0,_⟩:=DataW.trod_int Tryd.underlying3 h0
 obtain⟨k1,e1,d1,_⟩:=DataW.trod_int Tryd.underlying3 h1
 rw[zIf] at hl
 have e0':cs0.toList.take 1=[.int .i64 k0]:=by
  have:=e0
  rw[show Tryd.prog.cellsOf _=1 from zK2] at this
  simpa using this
 have e1':(cs0.toList.drop 1).take 1=[.int .i64 k1]:=by
  have:=e1
  rw[show Tryd.prog.cellsOf _=1 from zK2] at this
  simpa using this
 have hk0:k0=1000000000000:=by have:=hx.1;rw[d0] at this;injection this with a;injection a with _ a;exact a.symm
 have hk1:k1=0:=by have:=hx.2;rw[d1] at this;injection this with a;injection a with _ a;exact a.symm
 have hC:cs0.toList=[.int .i64 1000000000000,.int .i64 0]:=by
  have h2:cs0.toList=cs0.toList.take 1 ++ (cs0.toList.drop 1).take 1:=by
   rw[<- List.take_add,List.take_of_length_le (by omega)]
  rw[h2,e0',e1',hk0,hk1];rfl
 intro k l hk
 unfold World.var? at hv0
 rw[zBF] at hv0
 simp only[Option.bind_some] at hv0
 cases k with
 | succ k=>cases hk
 | zero =>
  obtain rfl:[PV.int .i64 1000000000000,.int .i64 0]=l:=Option.some.inj hk
  cases eo:W.heap[0]? with
  | none=>rw[eo] at hv0;cases hv0
  | some o =>
   rw[eo] at hv0
   cases o with
   | cells C ty fr =>
    simp only[dqa] at hv0
    subst hv0
    exact⟨_,ty,fr,by unfold H0;rw[eo];rfl,by rw[hC];exact⟨.int _ _,.int _ _,trivial⟩⟩
   | _=>cases hv0
end Go.Proofs.YtedhjaaikeakoaaDoor
namespace Go.Proofs.YtedhjaaikeakoaaDoor
set_option maxRecDepth 100000
def dc : Nat → Nat → List Char
  | 0,_=>[]
  | k+1,n=>Char.ofNat (n % 128) :: dc k (n / 128)
def ioR:List (List Char):=[dc 2 14945,dc 38 107265865644741724912243125268531249640326942553430557205577479631290979090791279,dc 38 108293077817484906734254386447616441263814988321737617043972465573863363972791151,dc 38 93370879016013017278412803021783510280543711028000410236402271261457424383048559,dc 38 107258694022858408970435192345127867927486736974969802526482043864463718682819439,dc 39 13746719959472648153406769131206406626558510298776447130317981093147086104311724911,dc 38 107266209769642888316488957616301258915172789321380384129051881327065490379078511,dc 39 13738338888634744287462113483281891133786406809494667074737303271467843731645365103,dc 38 107308724040215521434011850380931925905298338556088488294726402895071789331348335,dc 43 3689337697451499537899652006011379275272339788637320245734945509069109267079825879406836591,dc 38 106339254617564648824502995819756623291246721172574690728430612464564447869500271,dc 38 107330772524736890892060720350443696785457349727637599143704802418857719933533039,dc 38 107266380701743786104986999119182321999123657451770743386930499759721679104342895,dc 38 107308728471136676073553801914045189487148679029700448428114571309412341010496367,dc 37 837954515553292543489687687552621780150771894250034810644180755742461368302447,dc 38 107287017468262091873827311208814906259154281073825133055543027267698112966785903,dc 38 107374028509112486977837548216825331243033985081330090052312008930171490580134767,dc 38 107265533895345759970156929786145176805363222797160045994169685653949991330872175]
def ioN:List Char:=dc 748 14110378018767575964226655308004126793045208087310171201555892242252648960690434620806224759478349222793457564936136773140206884019406577404308477398112682127111429688458091804136369451876026010391452929509304596612007749348823331848074321521876163367611471766311661795807971626777430789606670518996161301806853738256348343737238826384171739901612950230839336053519876648582653265928992265003442337249315020340640568624042171724319570015876863120612063908539839480788963015814409324055605425425582212723687691771037045010066064867754736841809752569547023397197010564985861497252960727260554984899190782686002829257997185443421456271698218584945985148990383891392482548262956659989814614329905290488435125286744085629934720469444029598243369313538259143807170350259387234145666063103371643809341342441092158617040725699310351084585854817129011753246127748964030413854525633190715875548631480060648955255476518703717934493416584654287151545453027212072361023366870608725576042669368667333719675724995494706645777621137060304017521484702088503639607947747215026989263530504204523251982333933107210391579300884546305432560571086131943194743723205005815139772394062686780566686930384812217785365992657908782936586832589627342388339882126362151219006413773645814561079952905486963953952063552645778936398310246717058410743450648594152841163565946295251582585294350653230459132165827590128826417871324965536217148578987470925657879977171716100377657863588641203253643922875913460814715430695689192746980757875303892414899783421563436119681070640173712093473782554642421452415184974056
theorem ioS:Tryd.prog.initOrder=String.ofList ioN:=by kernel_rfl
theorem ioL:Tryd.prog.initOrder.toList=ioN:=(congrArg String.toList ioS).trans String.toList_ofList
theorem ioW:wordsSigns Tryd.prog.initOrder.toList=(dc 7 509754063237352) :: (dc 64 583581952082889979719035725534559484815115086455805852996510235646750355970935781905203483690318741732481452225105900421668580921071669) :: (dc 3 1915619) :: ioR:=(congrArg wordsSigns ioL).trans (by kernel_rfl)
theorem ioB:behindMainWord (wordsSigns Tryd.prog.initOrder.toList)=(dc 3 1915619) :: ioR:=(congrArg behindMainWord ioW).trans (by kernel_rfl)
theorem zoE {P : Program} {l : List (List Char)} (h : behindMainWord (wordsSigns P.initOrder.toList) = l) : P.headLifts = (if (stripLifts liftWords l).2.head? == some "cut".toList then (stripLifts liftWords l).1 else []) := by subst h; rfl
theorem zFb {P:Program}{rest:List (List Char)}(h:behindMainWord (wordsSigns P.initOrder.toList)=(dc 3 1915619) :: rest):P.make=some .cut:=by unfold Program.make;rw[h];rfl
theorem zAm {P:Program}{rest:List (List Char)}(h:behindMainWord (wordsSigns P.initOrder.toList)=(dc 3 1915619) :: rest) (hl:P.headLifts=[]):P.liftsFinal=false:=by unfold Program.liftsFinal;rw[h,hl];rfl
theorem zFc {P : Program} {a b : List Char} {rest : List (List Char)} (h : wordsSigns P.initOrder.toList = a :: b :: rest) (hs : isSumSigns b = true) (ha : (a == "harness".toList) = true) : P.mainIs = some (true, b) := by unfold Program.mainIs; rw [h]; simp only [hs, ha]; rfl
theorem zAn {P : Program} {c : List Char} {rest : List (List Char)} (h : behindMainWord (wordsSigns P.initOrder.toList) = c :: rest) (hst : (stripLifts liftWords (c :: rest)).2.head? = some "cut".toList)
    (hs1:(stripLifts liftWords (c :: rest)).1=[]) (hlay:P.laysLater=false) (hb:P.bearsReflect=false) (hd:P.doorFits []=true):P.mayEnter=true:=by
  unfold Program.mayEnter
  rw[h]
  simp[hst,hs1,hlay,hb,hd]
theorem ioH:Tryd.prog.headLifts=[]:=(zoE ioB).trans (by kernel_rfl)
theorem ioK:Tryd.prog.make=some .cut:=zFb ioB
theorem ioF:Tryd.prog.liftsFinal=false:=zAm ioB ioH
theorem ioM : Tryd.prog.mainIs = some (true, "5097d02014b7f9bdc457588f16a61179f96daee4a085c0a2c5462d863db43dbf".toList) := (zFc ioW (by kernel_rfl) (by kernel_rfl)).trans (by kernel_rfl)
theorem ioE:Tryd.prog.mayEnter=true:=zAn ioB (by kernel_rfl) (by kernel_rfl) (by kernel_rfl) (by kernel_rfl) (by kernel_rfl)
end Go.Proofs.YtedhjaaikeakoaaDoor
namespace Go.Pm
open Go

theorem zbt {x:Int}(h1 : -9223372036854775808<=x) (h2:x<=9223372036854775807):w64 x=x:=by
 have hb:IntKind.i64.bits=64:=rfl
 have hs:IntKind.i64.signed=true:=rfl
 unfold w64 IntKind.wrap
 rw[hb,hs]
 simp only[Bool.true_and,decide_eq_true_eq]
 split <;> omega
theorem dqT {p:Prop} [Decidable p] (h:p):decide p=true:=decide_eq_true h
theorem dqF {p:Prop} [Decidable p] (h : ¬ p):decide p=false:=decide_eq_false h
theorem dqA {α:Type}(a b:α):cond true a b=a:=rfl
theorem dqB {α:Type}(a b:α):cond false a b=b:=rfl
theorem dqN (n:Nat):((n:Nat):Int).toNat=n:=Int.toNat_natCast n
theorem dqP {c:Prop}{h:Decidable c}(hc:c){α:Type}{t e:α} : ite c t e=t:=if_pos hc
theorem dqG {c:Prop}{h:Decidable c}(hc : ¬ c){α:Type}{t e:α} : ite c t e=e:=if_neg hc
def zK3 (c : Nat → Bool) : Nat → Nat → Nat
  | 0,i=>i
  | m+1,i=>match c i with | true=>i | false=>zK3 c m (i+1)
def fst (c:Nat->Bool) (n:Nat):Nat:=zK3 c n 0
theorem zss {good : Nat → Bool} {fin : Bool} {n : Nat} {lpS lpP : Nat → Int → Bool}
    (hS:∀ (k i:Nat),i < n->lpS (k+1) (i:Int)=cond (good i) (lpS k (w64 ((i:Int)+(1:Int)))) false)
    (hE:∀ k,lpS (k+1) (n:Int)=fin)
    (hP:∀ (k i:Nat),i < n->lpP (k+1) (i:Int)=cond (good i) (lpP k (w64 ((i:Int)+(1:Int)))) true)
    (hPE:∀ k,lpP (k+1) (n:Int)=true) (hn:n<=9223372036854775807) :
    lpP Fuel 0=true/\(lpS Fuel 0=true↔(∀ i,i < n->good i=true)/\fin=true):=by
  have key:∀ (m k i:Nat),i+m=n->m < k->lpP k (i:Int)=true/\(lpS k (i:Int)=true↔(∀ j,i<=j->j < n->good j=true)/\fin=true):=by
    intro m
    induction m with
    | zero =>
      intro k i hi hk
      obtain⟨k,rfl⟩:∃ k',k=k'+1:=⟨k - 1,by omega⟩
      have:i=n:=by omega
      subst this
      rw[hE,hPE]
      exact⟨rfl,⟨λ h=>⟨λ j h1 h2=>absurd h2 (by omega),h⟩,λ h=>h.2⟩⟩
    | succ m ih =>
      intro k i hi hk
      obtain⟨k,rfl⟩:∃ k',k=k'+1:=⟨k - 1,by omega⟩
      rw[hS k i (by omega),hP k i (by omega)]
      have e3:w64 ((i:Int)+1)=((i+1:Nat):Int):=by rw[zbt (by omega) (by omega)];omega
      rw[e3]
      obtain⟨h1,h2⟩:=ih k (i+1) (by omega) (by omega)
      cases hg:good i
      · refine ⟨rfl, ⟨fun h => (by cases h), fun h => ?_⟩⟩
        have:=h.1 i (dqt _) (by omega)
        rw[hg] at this;cases this
      · refine ⟨h1, h2.trans ⟨fun h => ⟨fun j hj1 hj2 => ?_, h.2⟩, fun h => ⟨fun j hj1 hj2 => h.1 j (by omega) hj2, h.2⟩⟩⟩
        by_cases hji:j=i
        · rw[hji];exact hg
        · exact h.1 j (by omega) hj2
  have:=key n Fuel 0 (by omega) (by simp only[Fuel];omega)
  simpa using this

end Go.Pm
namespace Go.Pm
open Go
theorem zga {i n:Nat}(h:i < n) (hn:n<=9223372036854775807):w64 ((i:Int)+(1:Int))=((i+1:Nat):Int):=by
 rw[zbt (by omega) (by omega)];omega
theorem zyb {β : Type} {good : Nat → Bool} {bad fin : β} {zBG : Bool} {n : Nat} {lpS : Nat → Int → β} {lpP : Nat → Int → Bool}
    (hS:∀ (k i:Nat),i < n->lpS (k+1) (i:Int)=cond (good i) (lpS k (w64 ((i:Int)+(1:Int)))) bad)
    (hE:∀ k,lpS (k+1) (n:Int)=fin)
    (hP:∀ (k i:Nat),i < n->lpP (k+1) (i:Int)=cond (good i) (lpP k (w64 ((i:Int)+(1:Int)))) true)
    (hPE:∀ k,lpP (k+1) (n:Int)=zBG) (hn:n<=9223372036854775807) :
    ((∀ i,i < n->good i=true)->lpP Fuel 0=zBG/\lpS Fuel 0=fin)/\((¬ ∀ i,i < n->good i=true)->lpP Fuel 0=true/\lpS Fuel 0=bad):=by
  have key:∀ (m k i:Nat),i+m=n->m < k->((∀ j,i<=j->j < n->good j=true)->lpP k (i:Int)=zBG/\lpS k (i:Int)=fin)/\((¬ ∀ j,i<=j->j < n->good j=true)->lpP k (i:Int)=true/\lpS k (i:Int)=bad):=by
    intro m
    induction m with
    | zero =>
      intro k i hi hk
      obtain⟨k,rfl⟩:∃ k',k=k'+1:=⟨k - 1,by omega⟩
      have:i=n:=by omega
      subst this
      rw[hE,hPE]
      exact⟨λ _=>⟨rfl,rfl⟩,λ h=>absurd (λ j h1 h2=>absurd h2 (by omega)) h⟩
    | succ m ih =>
      intro k i hi hk
      obtain⟨k,rfl⟩:∃ k',k=k'+1:=⟨k - 1,by omega⟩
      rw[hS k i (by omega),hP k i (by omega),zga (n:=n) (by omega) hn]
      obtain⟨h1,h2⟩:=ih k (i+1) (by omega) (by omega)
      cases hg:good i
      · refine ⟨fun h => ?_, fun _ => ⟨rfl, rfl⟩⟩
        have:=h i (dqt _) (by omega)
        rw[hg] at this;cases this
      · refine ⟨fun h => h1 fun j a b => h j (by omega) b, fun h => h2 fun h' => h fun j a b => ?_⟩
        by_cases hji:j=i
        · rw[hji];exact hg
        · exact h' j (by omega) b
  have:=key n Fuel 0 (by omega) (by simp only[Fuel];omega)
  simpa using this
def ziZ {σ : Type} (step : Nat → σ → σ) : Nat → Nat → σ → σ
  | 0,_,s=>s
  | m+1,i,s=>ziZ step m (i+1) (step i s)
theorem zkK {σ β : Type} {step : Nat → σ → σ} {E : σ → β} {EP : σ → Bool} {Inv : Nat → σ → Prop} {a n : Nat} {lpS : Nat → σ → Int → β} {lpP : Nat → σ → Int → Bool}
    (hS:∀ (k i:Nat) (s:σ),a<=i->i < n->Inv i s->lpS (k+1) s (i:Int)=lpS k (step i s) (w64 ((i:Int)+(1:Int))))
    (hE:∀ k s,lpS (k+1) s (n:Int)=E s)
    (hP:∀ (k i:Nat) (s:σ),a<=i->i < n->Inv i s->lpP (k+1) s (i:Int)=lpP k (step i s) (w64 ((i:Int)+(1:Int))))
    (hPE:∀ k s,lpP (k+1) s (n:Int)=EP s)
    (hI:∀ i s,a<=i->i < n->Inv i s->Inv (i+1) (step i s)) (ha:a<=n) (hn:n<=9223372036854775807) (s:σ) (h0:Inv a s) :
    lpP Fuel s (a:Int)=EP (ziZ step (n - a) a s)/\lpS Fuel s (a:Int)=E (ziZ step (n - a) a s):=by
  have key:∀ (m k i:Nat) (s:σ),a<=i->i+m=n->m < k->Inv i s->lpP k s (i:Int)=EP (ziZ step m i s)/\lpS k s (i:Int)=E (ziZ step m i s):=by
    intro m
    induction m with
    | zero =>
      intro k i s h1 hi hk _
      obtain⟨k,rfl⟩:∃ k',k=k'+1:=⟨k - 1,by omega⟩
      have:i=n:=by omega
      subst this
      rw[hE,hPE]
      exact⟨rfl,rfl⟩
    | succ m ih =>
      intro k i s h1 hi hk hs
      obtain⟨k,rfl⟩:∃ k',k=k'+1:=⟨k - 1,by omega⟩
      rw[hS k i s h1 (by omega) hs,hP k i s h1 (by omega) hs,zga (n:=n) (by omega) hn]
      exact ih k (i+1) (step i s) (by omega) (by omega) (by omega) (hI i s h1 (by omega) hs)
  exact key (n - a) Fuel a s (dqt _) (by omega) (by simp only[Fuel];omega) h0
end Go.Pm
namespace Go.Proofs
open Go Go.Pm
set_option maxRecDepth 100000
set_option linter.unusedVariables false
section sets
def ltL : List Nat → List Nat → Prop
  | a :: A,b :: B=>a < b\/a=b/\ltL A B
  | _,_=>False
theorem zkL : ∀ {A B : List Nat}, ltL A B → ¬ ltL B A
  | a :: A,b :: B,h,h'=>by
    simp only[ltL] at h h'
    rcases h with h | ⟨rfl,h⟩
    · rcases h' with h' | ⟨h',_⟩ <;> omega
    · rcases h' with h' | ⟨_, h'⟩
      · omega
      · exact zkL h h'
  | [],_,h,_=>by simp[ltL] at h
  | _ :: _,[],h,_=>by simp[ltL] at h
end sets
section search
variable (N:Nat)
def keysB (g:Nat->Bool):List Nat:=(List.range N).filter g
def zyL (g:Nat->Bool) (k:Nat):Nat->Bool:=λ j=>j == k || g j
variable {N}
theorem zoF {g X:Nat->Bool}(h:∀ j,j < N->g j=true->X j=true):(keysB N g).Sublist (keysB N X):=by
 unfold keysB
 have:(List.range N).filter g=((List.range N).filter X).filter g:=by
  rw[List.filter_filter]
  refine List.filter_congr λ j hj=>?_
  have:=h j (List.mem_range.1 hj)
  cases hg:g j <;> simp[hg] at this ⊢
  exact this
 rw[this]
 exact List.filter_sublist
theorem ziy (g:Nat->Bool):(keysB N g).Pairwise (· < ·):=List.Pairwise.filter _ List.pairwise_lt_range
theorem zfN {g:Nat->Bool}{j:Nat} : j∈keysB N g↔j < N/\g j=true:=by simp[keysB]
theorem zoG {g:Nat->Bool}{k:Nat}(hk:k < N) (hg:g k=false):(keysB N (zyL g k)).length=(keysB N g).length+1:=by
 unfold keysB
 rw[<- List.countP_eq_length_filter,<- List.countP_eq_length_filter]
 have key:∀ (m:Nat),(List.range m).countP (zyL g k)=(List.range m).countP g+(if k < m then 1 else 0):=by
  intro m
  induction m with
  | zero=>simp
  | succ m ih =>
   rw[List.range_succ,List.countP_append,List.countP_append,ih,List.countP_singleton,List.countP_singleton]
   by_cases e:m=k
   ·subst e
    simp[zyL,hg]
   ·have h1 : zyL g k m = g m := by simp [zyL, e]
    rw[h1]
    by_cases h2:k < m
    ·have h3 : k < m + 1 := by omega
     simp only[h2,h3,if_true];omega
    ·have h3 : ¬ k < m + 1 := by omega
     simp only[h2,h3,if_false];omega
 rw[key,dqP hk]
theorem zAo {L:List Nat}(hp:L.Pairwise (· < ·)) (hL:∀ x∈L,x < N):keysB N (λ j=>decide (j∈L))=L:=by
 refine List.Perm.eq_of_pairwise (le:=(· < ·)) (λ a b _ _ h1 h2=>absurd h1 (Nat.lt_asymm h2)) (ziy _) hp ?_
 refine (List.perm_ext_iff_of_nodup ((ziy (N:=N) _).imp λ h=>Nat.ne_of_lt h) (hp.imp λ h=>Nat.ne_of_lt h)).2 λ a=>?_
 rw[zfN]
 exact⟨λ h=>of_decide_eq_true h.2,λ h=>⟨hL a h,dqT h⟩⟩
end search
end Go.Proofs
namespace Go.Proofs
open Go Go.Pm
set_option maxRecDepth 100000
set_option linter.unusedVariables false
attribute [local irreducible] Go.Pm.vcFun Go.Pm.vc Go.Pm.vcIter
end Go.Proofs
namespace Go.Proofs
open Go Go.Pm
set_option maxRecDepth 100000
theorem zoH (n a b:Int):s81 n a b=decide (a<=n/\n<=b):=by
 unfold s81
 by_cases h:a<=n
 ·rw[dqT (show n >= a from h),dqA];exact decide_eq_decide.2 ⟨λ k=>⟨h,k⟩,λ k=>k.2⟩
 ·rw[dqF (show ¬ n >= a from h),dqB];exact (dqF (λ k=>h k.1)).symm
theorem zBH (n a b:Int):s72 n a b=decide (a<=n/\n<=b):=zoH n a b
theorem zBI (n:Net) (hn:n.Ties.len<=9223372036854775807):p67 n=true/\(s67 n=true↔(∀ i,i < n.Ties.len->s78 (n.Ties.get i) n.Nodes=true)/\(1<=n.Nodes/\n.Nodes<=40)/\n.Ties.len<=200):=by
  have := zss (good := fun i => s78 (n.Ties.get i) n.Nodes) (fin := cond (s81 n.Nodes (1:Int) (40:Int)) (decide ((n.Ties.len : Int) ≤ (200:Int))) false) (n := n.Ties.len) (lpS := zhE n) (lpP := zhF n)
    (λ k i hi=>by
      show zhC n (zhE n k) (i:Int)=_
      generalize zhE n k=S
      unfold zhC zpC
      rw[dqT (show (i:Int) < (n.Ties.len:Int) by omega),dqA,dqN]
      cases s78 (n.Ties.get i) n.Nodes <;> rfl)
    (λ k=>by
      show zhC n (zhE n k) (n.Ties.len:Int)=_
      unfold zhC
      rw[dqF (show ¬ (n.Ties.len:Int) < (n.Ties.len:Int) by omega),dqB])
    (λ k i hi=>by
      show zhD n (zhF n k) (i:Int)=_
      generalize zhF n k=S
      unfold zhD zpD
      rw[dqT (show (i:Int) < (n.Ties.len:Int) by omega),dqA,dqN,dqT (show 0<=(i:Int)/\(i:Int) < (n.Ties.len:Int) by omega),Bool.true_and]
      cases s78 (n.Ties.get i) n.Nodes <;> rfl)
    (λ k=>by
      show zhD n (zhF n k) (n.Ties.len:Int)=_
      unfold zhD
      rw[dqF (show ¬ (n.Ties.len:Int) < (n.Ties.len:Int) by omega),dqB])
    hn
  refine⟨this.1,this.2.trans ?_⟩
  rw[zoH]
  by_cases h:1<=n.Nodes/\n.Nodes<=40
  · rw[dqT h,dqA,decide_eq_true_eq];exact⟨λ k=>⟨k.1,h,by omega⟩,λ k=>⟨k.1,by omega⟩⟩
  · rw[dqF h,dqB];exact⟨λ k=>absurd k.2 (by decide),λ k=>absurd k.2.1 h⟩
end Go.Proofs
namespace Go.Proofs
open Go Go.Pm
set_option maxRecDepth 100000
set_option linter.unusedVariables false
attribute [local irreducible] Go.Pm.vcFun Go.Pm.vc Go.Pm.vcIter
end Go.Proofs
namespace Go.Proofs
open Go Go.Pm
set_option maxRecDepth 100000
set_option linter.unusedVariables false
theorem dgt (x y:Int):decide (x > y) = !decide (x<=y):=by
 by_cases h:x > y
 ·rw[dqT h,dqF (show ¬ x<=y by omega)];rfl
 ·rw[dqF h,dqT (show x<=y by omega)];rfl
theorem zBJ (nodes:Int) (t:Tie):s36 nodes t=s78 t nodes:=by
 unfold s36 zin zqH s78 zkm zkl
 simp only[zBH,zoH,bne,dgt]
 generalize decide (0<=t.From/\t.From<=w64 (nodes - (1:Int)))=a
 generalize decide (0<=t.To/\t.To<=w64 (nodes - (1:Int)))=b
 generalize (t.From == t.To)=c
 generalize (t.Low == (-1000000000000:Int))=d
 generalize (t.High == (1000000000000:Int))=e
 generalize decide (-1000000000<=t.Low/\t.Low<=1000000000)=f
 generalize decide (-1000000000<=t.High/\t.High<=1000000000)=g
 generalize decide (t.Low<=t.High)=h
 cases a <;> cases b <;> cases c <;> cases d <;> cases e <;> cases f <;> cases g <;> cases h <;> rfl
structure TieOk (t : Tie) (nodes : Int) : Prop where
  f0:0<=t.From
  f1:t.From < nodes
  t0:0<=t.To
  t1:t.To < nodes
  ne:t.From ≠ t.To
  lo:t.Low = -1000000000000\/(-1000000000<=t.Low/\t.Low<=1000000000)
  hi:t.High=1000000000000\/(-1000000000<=t.High/\t.High<=1000000000)
  le:t.Low<=t.High
theorem zyc (t:Tie) (nodes:Int) (h1:1<=nodes) (h2:nodes<=40):s78 t nodes=true↔TieOk t nodes:=by
 have e:s78 t nodes=(decide (0<=t.From/\t.From < nodes) && (decide (0<=t.To/\t.To < nodes) && (!(t.From == t.To) && (((t.Low == (-1000000000000:Int)) || decide (-1000000000<=t.Low/\t.Low<=1000000000)) && (((t.High == (1000000000000:Int)) || decide (-1000000000<=t.High/\t.High<=1000000000)) && decide (t.Low<=t.High)))))):=by
  unfold s78 zkm zkl
  rw[zbt (x:=nodes - 1) (by omega) (by omega)]
  simp only[zoH]
  rw[decide_eq_decide.2 (show (0<=t.From/\t.From<=nodes - 1)↔(0<=t.From/\t.From < nodes) by omega),decide_eq_decide.2 (show (0<=t.To/\t.To<=nodes - 1)↔(0<=t.To/\t.To < nodes) by omega)]
  simp only[bne]
  generalize decide (0<=t.From/\t.From < nodes)=a
  generalize decide (0<=t.To/\t.To < nodes)=b
  generalize (t.From == t.To)=c
  generalize (t.Low == (-1000000000000:Int))=d
  generalize (t.High == (1000000000000:Int))=e
  generalize decide (-1000000000<=t.Low/\t.Low<=1000000000)=f
  generalize decide (-1000000000<=t.High/\t.High<=1000000000)=g
  generalize decide (t.Low<=t.High)=h
  cases a <;> cases b <;> cases c <;> cases d <;> cases e <;> cases f <;> cases g <;> cases h <;> rfl
 rw[e]
 simp only[dqm,Bool.or_eq_true,decide_eq_true_eq,Bool.not_eq_true',dqU,beq_iff_eq]
 constructor
 ·rintro⟨⟨a,b⟩,⟨c,d⟩,e,f,g,h⟩;exact⟨a,b,c,d,e,f,g,h⟩
 ·rintro⟨a,b,c,d,e,f,g,h⟩;exact⟨⟨a,b⟩,⟨c,d⟩,e,f,g,h⟩
structure NetOk (n : Net) : Prop where
  n1:1<=n.Nodes
  n40:n.Nodes<=40
  len:n.Ties.len<=200
  tie:∀ i,i < n.Ties.len->TieOk (n.Ties.get i) n.Nodes
theorem zqW (n:Net) (hn:n.Ties.len<=9223372036854775807):p67 n=true/\(s67 n=true↔NetOk n):=by
 obtain⟨h1,h2⟩:=zBI n hn
 refine⟨h1,h2.trans ?_⟩
 constructor
 ·rintro⟨a,⟨b,c⟩,d⟩;exact⟨b,c,by omega,λ i hi=>(zyc _ _ b c).1 (a i hi)⟩
 ·rintro⟨b,c,d,a⟩;exact⟨λ i hi=>(zyc _ _ b c).2 (a i hi),⟨b,c⟩,by omega⟩
theorem zIg (n:Net) (hn:n.Ties.len<=9223372036854775807):p23 n=true/\s23 n=s67 n:=by
  have hl := zss (good := fun i => s36 n.Nodes (n.Ties.get i)) (fin := true) (n := n.Ties.len) (lpS := zgJ n) (lpP := zir n)
    (λ k i hi=>by
      show zio n (zgJ n k) (i:Int)=_
      generalize zgJ n k=S
      unfold zio zqJ
      rw[dqT (show (i:Int) < (n.Ties.len:Int) by omega),dqA,dqN]
      cases s36 n.Nodes (n.Ties.get i) <;> rfl)
    (λ k=>by
      show zio n (zgJ n k) (n.Ties.len:Int)=_
      unfold zio
      rw[dqF (show ¬ (n.Ties.len:Int) < (n.Ties.len:Int) by omega),dqB])
    (λ k i hi=>by
      show ziq n (zir n k) (i:Int)=_
      generalize zir n k=S
      unfold ziq zqK
      rw[dqT (show (i:Int) < (n.Ties.len:Int) by omega),dqA,dqN,dqT (show 0<=(i:Int)/\(i:Int) < (n.Ties.len:Int) by omega),Bool.true_and]
      cases s36 n.Nodes (n.Ties.get i) <;> rfl)
    (λ k=>by
      show ziq n (zir n k) (n.Ties.len:Int)=_
      unfold ziq
      rw[dqF (show ¬ (n.Ties.len:Int) < (n.Ties.len:Int) by omega),dqB])
    hn
  obtain⟨h1,h2⟩:=zBI n hn
  unfold p23 s23 zni znh zqO zqN zqM zqL
  rw[hl.1,zBH,dgt]
  refine⟨by cases decide (1<=n.Nodes/\n.Nodes<=40) <;> cases decide ((n.Ties.len:Int)<=200) <;> rfl,?_⟩
  have h3:=hl.2
  have h4:zgJ n Fuel 0=true↔∀ i,i < n.Ties.len->s78 (n.Ties.get i) n.Nodes=true:=h3.trans ⟨λ h i hi=>by rw[<- zBJ];exact h.1 i hi,λ h=>⟨λ i hi=>by rw[zBJ];exact h i hi,rfl⟩⟩
  rw[Bool.eq_iff_iff,h2]
  by_cases a:1<=n.Nodes/\n.Nodes<=40
  · rw [dqT a]
    by_cases b:(n.Ties.len:Int)<=200
    · rw[dqT b];exact h4.trans ⟨λ h=>⟨h,a,by omega⟩,λ h=>h.1⟩
    · rw[dqF b];exact⟨λ h=>absurd h dqk,λ h=>absurd h.2.2 (by omega)⟩
  · rw[dqF a];exact⟨λ h=>absurd h dqk,λ h=>absurd h.2.1 a⟩
structure ValOk (n : Net) (v : Sl Int) : Prop where
  len:(v.len:Int)=n.Nodes
  zero:v.get 0=0
  b:∀ i,i < v.len->-1000000000000<=v.get i/\v.get i<=1000000000000
def Keep (t:Tie) (v:Sl Int):Prop:=(t.Low = -1000000000000\/t.Low<=v.get t.To.toNat - v.get t.From.toNat)/\(t.High=1000000000000\/v.get t.To.toNat - v.get t.From.toNat<=t.High)
structure AgOk (n : Net) (v : Sl Int) : Prop where
  val:ValOk n v
  keep:∀ i,i < n.Ties.len->Keep (n.Ties.get i) v
theorem zyd {n:Net}{t:Int}(h:s20 n t=true) (ht:t<=210):n.Ties.len<=210:=by
 unfold s20 at h
 by_cases h1:(n.Ties.len:Int)<=t
 ·omega
 ·by_cases h2 : (n.Ties.len : Int) ≤ 210
  ·omega
  ·rw [dqF h1, dqF h2] at h
   exact absurd h (by cases decide (n.Nodes<=7) <;> cases decide (n.Nodes > 40) <;> cases decide ((n.Ties.len:Int) > 200) <;> decide)
end Go.Proofs
namespace Go.Pm
structure Ed where
  u:Nat
  v:Nat
  w:Int
def wt : List Ed → Int
  | []=>0
  | e :: l=>e.w+wt l
theorem zeB (c d:List Ed):wt (c ++ d)=wt c+wt d:=by
 induction c with
 | nil=>show wt d=0+wt d;omega
 | cons e l ih=>show e.w+wt (l ++ d)=e.w+wt l+wt d;omega
theorem zkM (e:Ed):wt [e]=e.w:=Int.add_zero _
def zeq (E : List Ed) : Nat → List Ed → Nat → Prop
  | a,[],b=>a=b
  | a,e :: l,b=>e∈E/\e.u=a/\zeq E e.v l b
theorem zcA {E:List Ed}{c d:List Ed}{a b:Nat} : zeq E a (c ++ d) b↔∃ m,zeq E a c m/\zeq E m d b:=by
 induction c generalizing a with
 | nil=>exact⟨λ h=>⟨a,rfl,h⟩,λ ⟨m,h1,h2⟩=>by cases h1;exact h2⟩
 | cons e l ih =>
  constructor
  ·rintro ⟨h1, h2, h3⟩
   obtain⟨m,k1,k2⟩:=ih.1 h3
   exact⟨m,⟨h1,h2,k1⟩,k2⟩
  ·rintro ⟨m, ⟨h1, h2, h3⟩, h4⟩
   exact⟨h1,h2,ih.2 ⟨m,h3,h4⟩⟩
theorem zhn {E:List Ed}{e:Ed}(h:e∈E):zeq E e.u [e] e.v:=⟨h,rfl,rfl⟩
def zbu (E:List Ed):Prop:=∀ a c,zeq E a c a->0<=wt c
abbrev zbX:=Nat->Option Int
def zkV (d:zbX) (v:Nat) (x:Int):zbX:=λ j=>if j=v then some x else d j
def ltO (x : Int) : Option Int → Bool
  | none=>true
  | some y=>decide (x < y)
def rlF (s:zbX×Bool) (e:Ed):zbX×Bool :=
 match s.1 e.u with
 | none=>s
 | some x=>cond (ltO (x+e.w) (s.1 e.v)) (zkV s.1 e.v (x+e.w),true) s
def Sat (d:zbX) (e:Ed):Prop:=∀ x,d e.u=some x->∃ y,d e.v=some y/\y<=x+e.w
theorem zkN {x:Int}{o:Option Int}(h:ltO x o=false):∃ y,o=some y/\y<=x:=by
 cases o with
 | none=>cases h
 | some y=>exact⟨y,rfl,Int.not_lt.1 (of_decide_eq_false h)⟩
theorem zIh {x y:Int}(h:y<=x):ltO x (some y)=false:=dqF (Int.not_lt.2 h)
theorem zye {d:zbX}{c:Bool}{e:Ed}(h:Sat d e):rlF (d,c) e=(d,c):=by
 unfold rlF
 cases hu:d e.u with
 | none=>simp only[hu]
 | some x =>
  obtain⟨y,h1,h2⟩:=h x hu
  simp only[hu,h1,zIh h2,dqB]
theorem zFd {d:zbX}{c:Bool}{e:Ed}(h : ¬ Sat d e):(rlF (d,c) e).2=true:=by
 unfold rlF
 cases hu:d e.u with
 | none=>exact absurd (λ x hx=>by rw[hu] at hx;cases hx) h
 | some x =>
  simp only[hu]
  cases hl:ltO (x+e.w) (d e.v)
  ·obtain ⟨y, h1, h2⟩ := zkN hl
   exact absurd (λ x' hx'=>⟨y,h1,by rw[hu] at hx';cases hx';exact h2⟩) h
  ·rfl
theorem zAp {s:zbX×Bool}{e:Ed}(h:s.2=true):(rlF s e).2=true:=by
 unfold rlF
 cases s.1 e.u with
 | none=>exact h
 | some x=>simp only[];cases ltO (x+e.w) (s.1 e.v) <;> first | exact h | rfl
theorem zyf {E:List Ed}{s:zbX×Bool}(h:s.2=true):(E.foldl rlF s).2=true:=by
 induction E generalizing s with
 | nil=>exact h
 | cons e l ih=>exact ih (zAp h)
theorem zji {E:List Ed}{d:zbX}{c:Bool}(h:∀ e∈E,Sat d e):E.foldl rlF (d,c)=(d,c):=by
 induction E with
 | nil=>rfl
 | cons e l ih =>
  show l.foldl rlF (rlF (d,c) e)=_
  rw[zye (h e (dqj ..))]
  exact ih λ e he=>h e (dqf _ he)
theorem ziz {E:List Ed}{d:zbX}{c:Bool}(h:(E.foldl rlF (d,c)).2=false):∀ e∈E,Sat d e:=by
 induction E with
 | nil=>intro e he;cases he
 | cons e l ih =>
  have h':(l.foldl rlF (rlF (d,c) e)).2=false:=h
  have hs:Sat d e:=Classical.byContradiction λ hn=>by
   rw[zyf (zFd hn)] at h';cases h'
  rw[zye hs] at h'
  intro e' he'
  rcases dqq.1 he' with rfl | hm
  ·exact hs
  ·exact ih h' e' hm
def leO (a b:Option Int):Prop:=∀ y,b=some y->∃ x,a=some x/\x<=y
theorem zda (a:Option Int):leO a a:=λ y h=>⟨y,h,Int.le_refl _⟩
theorem zdS {a b c:Option Int}(h1:leO a b) (h2:leO b c):leO a c:=λ y h=>by
 obtain⟨x,hx,hxy⟩:=h2 y h
 obtain⟨z,hz,hzx⟩:=h1 x hx
 exact⟨z,hz,Int.le_trans hzx hxy⟩
theorem zyg (s:zbX×Bool) (e:Ed) (v:Nat):leO ((rlF s e).1 v) (s.1 v):=by
 unfold rlF
 cases hu:s.1 e.u with
 | none=>exact zda _
 | some x =>
  simp only[]
  cases hl:ltO (x+e.w) (s.1 e.v)
  ·exact zda _
  ·show leO (zkV s.1 e.v (x + e.w) v) _
   unfold zkV
   by_cases hv:v=e.v
   ·rw [dqP hv]
    intro y hy
    refine⟨_,rfl,?_⟩
    rw[hv] at hy
    rw[hy] at hl
    exact Int.le_of_lt (of_decide_eq_true hl)
   ·rw[dqG hv];exact zda _
theorem zyh (E:List Ed) (s:zbX×Bool) (v:Nat):leO ((E.foldl rlF s).1 v) (s.1 v):=by
 induction E generalizing s with
 | nil=>exact zda _
 | cons e l ih=>exact zdS (ih (rlF s e)) (zyg s e v)
theorem zIi {s:zbX×Bool}{e:Ed}{x:Int}(h:s.1 e.u=some x):leO ((rlF s e).1 e.v) (some (x+e.w)):=by
 unfold rlF
 simp only[h]
 cases hl:ltO (x+e.w) (s.1 e.v)
 ·obtain ⟨y, h1, h2⟩ := zkN hl
  intro z hz;cases hz
  exact⟨y,h1,h2⟩
 ·intro z hz; cases hz
  exact⟨x+e.w,by show zkV s.1 e.v (x+e.w) e.v=_;unfold zkV;rw[dqP rfl],Int.le_refl _⟩
theorem zAq {E:List Ed}{s:zbX×Bool}{e:Ed}{x:Int}(he:e∈E) (h:s.1 e.u=some x):leO ((E.foldl rlF s).1 e.v) (some (x+e.w)):=by
 induction E generalizing s x with
 | nil=>cases he
 | cons f l ih =>
  rcases dqq.1 he with rfl | hm
  ·exact zdS (zyh l (rlF s e) e.v) (zIi h)
  ·obtain ⟨x', h1, h2⟩ := zyg s f e.u x h
   intro z hz;cases hz
   obtain⟨y,k1,k2⟩:=ih hm h1 _ rfl
   exact⟨y,k1,by omega⟩
def rnd (E:List Ed) (d:zbX):zbX:=(E.foldl rlF (d,false)).1
def rds (E : List Ed) : Nat → zbX → zbX
  | 0,d=>d
  | k+1,d=>rds E k (rnd E d)
theorem zst (E:List Ed) (k:Nat) (d:zbX) (v:Nat):leO (rds E k d v) (d v):=by
 induction k generalizing d with
 | zero=>exact zda _
 | succ k ih=>exact zdS (ih (rnd E d)) (zyh E (d,false) v)
theorem zIj {E:List Ed}{c:List Ed} : ∀ {a b k:Nat}{d:zbX}{y:Int},zeq E a c b->d a=some y->c.length<=k->leO (rds E k d b) (some (y+wt c)):=by
 induction c with
 | nil =>
  intro a b k d y h hd _
  cases h
  intro z hz;cases hz
  obtain⟨x,h1,h2⟩:=zst E k d a y hd
  exact⟨x,h1,by show x<=y+0;omega⟩
 | cons e l ih =>
  intro a b k d y h hd hk
  obtain⟨k,rfl⟩:∃ k',k=k'+1:=⟨k - 1,by simp only[dqr] at hk;omega⟩
  obtain⟨h1,h2,h3⟩:=h
  subst h2
  obtain⟨x,k1,k2⟩:=zAq (s:=(d,false)) h1 hd _ rfl
  intro z hz;cases hz
  obtain⟨z,m1,m2⟩:=ih (k:=k) (d:=rnd E d) h3 k1 (by simp only[dqr] at hk;omega) _ rfl
  exact⟨z,m1,by show z<=y+(e.w+wt l);omega⟩
def Fix (E:List Ed) (d:zbX):Prop:=∀ e∈E,Sat d e
theorem zkO {E:List Ed}{d:zbX}(h:Fix E d):rnd E d=d:=by unfold rnd;rw[zji h]
theorem zyi {E:List Ed}{d:zbX}(h:Fix E d) (k:Nat):rds E k d=d:=by
 induction k with
 | zero=>rfl
 | succ k ih=>show rds E k (rnd E d)=d;rw[zkO h,ih]
theorem zkP (n:Nat):∀ {l:List Nat},l.Nodup->(∀ x∈l,x < n)->l.length<=n:=by
 induction n with
 | zero =>
  intro l _ h
  cases l with
  | nil=>exact dqt _
  | cons x l=>exact absurd (h x (dqj ..)) (dqW _)
 | succ n ih =>
  intro l hd h
  have h1:=ih (l:=l.filter (λ x=>x != n)) (hd.filter _) (λ x hx=>by
   obtain⟨hx1,hx2⟩:=List.mem_filter.1 hx
   have:=h x hx1
   have:x ≠ n:=by simpa using hx2
   omega)
  have h2:l.length<=(l.filter (λ x=>x != n)).length+1:=by
   clear h1 ih h
   induction l with
   | nil=>exact Nat.zero_le _
   | cons x l ihl =>
    rw[List.nodup_cons] at hd
    by_cases hx:x=n
    ·subst hx
     have:l.filter (λ y=>y != x)=l:=List.filter_eq_self.2 λ y hy=>by
      have:y ≠ x:=λ e=>hd.1 (e ▸ hy)
      simpa using this
     rw[List.filter_cons_of_neg (by simp),this]
     exact dqt _
    ·rw [List.filter_cons_of_pos (by simpa using hx)]
     have:=ihl hd.2
     simp only[dqr];omega
  omega
def nodes (a:Nat) (c:List Ed):List Nat:=a :: c.map Ed.v
theorem zoI (a:Nat) (c:List Ed):(nodes a c).length=c.length+1:=by simp[nodes]
theorem zsu {E:List Ed}{c:List Ed} : ∀ {a b m:Nat},zeq E a c b->m∈nodes a c->∃ c1 c2,c=c1 ++ c2/\zeq E a c1 m/\zeq E m c2 b:=by
 induction c with
 | nil =>
  intro a b m h hm
  have:m=a:=by simpa [nodes] using hm
  subst this
  exact⟨[],[],rfl,rfl,h⟩
 | cons e l ih =>
  intro a b m h hm
  rcases dqq.1 hm with rfl | hm'
  ·exact⟨[],e :: l,rfl,rfl,h⟩
  ·obtain ⟨h1, h2, h3⟩ := h
   obtain⟨c1,c2,k1,k2,k3⟩:=ih h3 (m:=m) (by simpa [nodes] using hm')
   exact⟨e :: c1,c2,by rw[k1];rfl,⟨h1,h2,k2⟩,k3⟩
structure Att (E : List Ed) (Src : Nat → Prop) (d : zbX) (v : Nat) (x : Int) (a : Nat) (c : List Ed) : Prop where
  src:Src a
  ch:zeq E a c v
  wt:x=wt c
  nd:(nodes a c).Nodup
  pre:∀ c1 c2 m,c=c1 ++ c2->zeq E a c1 m->leO (d m) (some (Go.Pm.wt c1))
def Inv (E:List Ed) (Src:Nat->Prop) (d:zbX):Prop:=∀ v x,d v=some x->∃ a c,Att E Src d v x a c
theorem zIk {d d':zbX}{E:List Ed}{Src:Nat->Prop}{v:Nat}{x:Int}{a:Nat}{c:List Ed}(h:Att E Src d v x a c) (hd:∀ m,leO (d' m) (d m)):Att E Src d' v x a c :=
 ⟨h.src,h.ch,h.wt,h.nd,λ c1 c2 m h1 h2=>zdS (hd m) (h.pre c1 c2 m h1 h2)⟩
theorem zsv {d:zbX}{E:List Ed}{Src:Nat->Prop}(hn:zbu E){e:Ed}(he:e∈E){x:Int}{a:Nat}{c:List Ed}(h:Att E Src d e.u x a c) (hm:e.v∈nodes a c):leO (d e.v) (some (x+e.w)):=by
 obtain⟨c1,c2,k1,k2,k3⟩:=zsu h.ch hm
 have hc:=hn e.v (c2 ++ [e]) (zcA.2 ⟨e.u,k3,zhn he⟩)
 rw[zeB,zkM] at hc
 have hx:=h.wt
 rw[k1,zeB] at hx
 obtain⟨y,m1,m2⟩:=h.pre c1 c2 e.v k1 k2 _ rfl
 intro z hz;cases hz
 exact⟨y,m1,by omega⟩
theorem zAr {E:List Ed}{c:List Ed} : ∀ {a b b':Nat},zeq E a c b->zeq E a c b'->b=b':=by
 induction c with
 | nil=>intro a b b' h1 h2;cases h1;cases h2;rfl
 | cons e l ih=>rintro a b b' ⟨_,_,h1⟩ ⟨_,_,h2⟩;exact ih h1 h2
theorem znj {c c1 c2:List Ed}{e:Ed}(h:c ++ [e]=c1 ++ c2):c1=c ++ [e]\/∃ c3,c=c1 ++ c3:=by
 rcases List.append_eq_append_iff.1 h with ⟨a',h1,h2⟩ | ⟨c',h1,_⟩
 ·cases a' with
  | nil=>exact .inr ⟨[],by rw[h1];simp⟩
  | cons f a'' =>
   have:a''=[]/\c2=[]:=by
    cases a'' with
    | nil=>simp at h2;exact⟨rfl,h2.2⟩
    | cons g b=>simp at h2
   obtain⟨rfl,rfl⟩:=this
   simp at h2
   exact .inl (by rw[h1,h2])
 ·exact .inr ⟨c',h1⟩
theorem zkQ {E:List Ed}{Src:Nat->Prop}(hn:zbu E){s:zbX×Bool}{e:Ed}(he:e∈E) (h:Inv E Src s.1):Inv E Src (rlF s e).1:=by
 intro v x hx
 have hle:=zyg s e
 unfold rlF at hx hle ⊢
 cases hu:s.1 e.u with
 | none =>
  simp only[hu] at hx ⊢
  obtain⟨a,c,hc⟩:=h v x hx
  exact⟨a,c,hc⟩
 | some y =>
  simp only[hu] at hx hle ⊢
  cases hl:ltO (y+e.w) (s.1 e.v) with
  | false =>
   simp only[hl,dqB] at hx ⊢
   exact h v x hx
  | true =>
   simp only[hl,dqA] at hx hle ⊢
   by_cases hv:v=e.v
   ·subst hv
    have hx':y+e.w=x:=by
     unfold zkV at hx;rw[dqP rfl] at hx;exact Option.some.inj hx
    obtain⟨a,c,hc⟩:=h e.u y hu
    have hnot:e.v ∉ nodes a c:=λ hm=>by
     obtain⟨z,h1,h2⟩:=zsv hn he hc hm _ rfl
     rw[h1] at hl
     have:=of_decide_eq_true hl
     omega
    refine⟨a,c ++ [e],hc.src,zcA.2 ⟨e.u,hc.ch,zhn he⟩,by rw[zeB,zkM,<- hc.wt];omega,?_,?_⟩
    ·show (a :: (c ++ [e]).map Ed.v).Nodup
     rw[List.map_append,<- List.cons_append]
     refine List.nodup_append.2 ⟨hc.nd,by simp,λ p hp q hq=>?_⟩
     have:q=e.v:=by simpa using hq
     subst this
     exact λ e'=>hnot (e' ▸ hp)
    ·intro c1 c2 m h1 h2
     rcases znj h1 with rfl | ⟨c3,h3⟩
     ·have : m = e.v := zAr h2 (zcA.2 ⟨e.u, hc.ch, zhn he⟩)
      subst this
      intro z hz;cases hz
      refine⟨x,hx,?_⟩
      rw[zeB,zkM,<- hc.wt];omega
     ·exact zdS (hle m) (hc.pre c1 c3 m h3 h2)
   ·have hx':s.1 v=some x:=by
     unfold zkV at hx;rw[dqG hv] at hx;exact hx
    obtain⟨a,c,hc⟩:=h v x hx'
    exact⟨a,c,zIk hc hle⟩
theorem znk {E F:List Ed}{Src:Nat->Prop}(hn:zbu E) (hF:∀ e∈F,e∈E){s:zbX×Bool}(h:Inv E Src s.1):Inv E Src (F.foldl rlF s).1:=by
 induction F generalizing s with
 | nil=>exact h
 | cons e l ih=>exact ih (λ e he=>hF e (dqf _ he)) (zkQ hn (hF e (dqj ..)) h)
theorem zyj {E:List Ed}{Src:Nat->Prop}(hn:zbu E) (k:Nat){d:zbX}(h:Inv E Src d):Inv E Src (rds E k d):=by
 induction k generalizing d with
 | zero=>exact h
 | succ k ih=>exact ih (znk hn (λ _ h=>h) (s:=(d,false)) h)
structure Start (Src : Nat → Prop) (d : zbX) : Prop where
  only:∀ v x,d v=Option.some x->Src v/\x=0
  src:∀ v,Src v->d v=Option.some 0
theorem zho {E:List Ed}{Src:Nat->Prop}{d:zbX}(h:Start Src d):Inv E Src d:=λ v x hx=>by
 obtain⟨h1,h2⟩:=h.only v x hx
 refine⟨v,[],h1,rfl,h2,by simp[nodes],λ c1 c2 m e hc=>?_⟩
 have:c1=[]:=by
  cases c1 with
  | nil=>rfl
  | cons _ _=>cases e
 subst this
 cases hc
 rw[hx,h2]
 exact zda _
theorem zjj {E:List Ed}{n:Nat}(hE:∀ e∈E,e.u < n/\e.v < n){c:List Ed} : ∀ {a b:Nat},a < n->zeq E a c b->∀ x∈nodes a c,x < n:=by
  induction c with
  | nil => intro a b ha _ x hx; have : x = a := by simpa [nodes] using hx
           omega
  | cons e l ih =>
    rintro a b ha ⟨h1,h2,h3⟩ x hx
    rcases dqq.1 hx with rfl | hm
    · exact ha
    · exact ih (hE e h1).2 h3 x (by simpa [nodes] using hm)
theorem zFe {E:List Ed}{n:Nat}{Src:Nat->Prop}(hE:∀ e∈E,e.u < n/\e.v < n) (hS:∀ a,Src a->a < n){d:zbX}{v:Nat}{x:Int}{a:Nat}{c:List Ed}(h:Att E Src d v x a c):c.length+1<=n:=by
 have:=zkP n h.nd (zjj hE (hS a h.src) h.ch)
 rwa[zoI] at this
theorem zBK {E:List Ed}{n:Nat}{Src:Nat->Prop}(hn:zbu E) (hE:∀ e∈E,e.u < n/\e.v < n) (hS:∀ a,Src a->a < n){d:zbX}(h0:Start Src d):Fix E (rds E (n - 1) d):=by
 intro e he x hx
 obtain⟨a,c,hc⟩:=zyj hn (n - 1) (zho (E:=E) h0) e.u x hx
 by_cases hm:e.v∈nodes a c
 ·exact zsv hn he hc hm _ rfl
 ·have hlen:(c ++ [e]).length<=n - 1:=by
   have hnd:(nodes a (c ++ [e])).Nodup:=by
    show (a :: (c ++ [e]).map Ed.v).Nodup
    rw[List.map_append,<- List.cons_append]
    refine List.nodup_append.2 ⟨hc.nd,by simp,λ p hp q hq=>?_⟩
    have:q=e.v:=by simpa using hq
    subst this
    exact λ e'=>hm (e' ▸ hp)
   have hch:zeq E a (c ++ [e]) e.v:=zcA.2 ⟨e.u,hc.ch,zhn he⟩
   have:=zkP n hnd (zjj hE (hS a hc.src) hch)
   rw[zoI] at this
   omega
  have:=zIj (zcA.2 ⟨e.u,hc.ch,zhn he⟩) (h0.src a hc.src) hlen _ rfl
  rw[zeB,zkM,<- hc.wt] at this
  obtain⟨z,h1,h2⟩:=this
  exact⟨z,h1,by omega⟩
theorem zIl {E:List Ed}{f:Nat->Int}(h:∀ e∈E,f e.v<=f e.u+e.w){c:List Ed} : ∀ {a b:Nat},zeq E a c b->f b<=f a+wt c:=by
 induction c with
 | nil=>intro a b hc;cases hc;show f a<=f a+0;omega
 | cons e l ih =>
  rintro a b ⟨h1,h2,h3⟩
  subst h2
  have:=ih h3
  have:=h e h1
  show f b<=f e.u+(e.w+wt l);omega
theorem zyk {E:List Ed}{f:Nat->Int}(h:∀ e∈E,f e.v<=f e.u+e.w):zbu E:=λ a c hc=>by
 have:=zIl h hc;omega
end Go.Pm
namespace Go.Pm
theorem zBL {E:List Ed}{f:Ed->Ed}(hu:∀ e,(f e).u=e.u) (hv:∀ e,(f e).v=e.v){c:List Ed} : ∀ {a b:Nat},zeq (E.map f) a c b->∃ c0,c=c0.map f/\zeq E a c0 b:=by
 induction c with
 | nil=>intro a b h;exact⟨[],rfl,h⟩
 | cons e l ih =>
  rintro a b ⟨h1,h2,h3⟩
  obtain⟨e0,k1,rfl⟩:=dqz.1 h1
  obtain⟨c0,k2,k3⟩:=ih h3
  exact⟨e0 :: c0,by rw[k2];rfl,k1,by rw[<- hu];exact h2,by rw[<- hv];exact k3⟩
def edM (e:Ed):Ed:=⟨e.u,e.v,e.w * 1048576+1⟩
def edR (e:Ed):Ed:=⟨e.v,e.u,e.w⟩
theorem zK4 (c:List Ed):wt (c.map edM)=wt c * 1048576+c.length:=by
 induction c with
 | nil=>rfl
 | cons e l ih =>
  show e.w * 1048576+1+wt (l.map edM)=(e.w+wt l) * 1048576+((l.length+1:Nat):Int)
  omega
theorem zK5 (c:List Ed):wt (c.reverse.map edR)=wt c:=by
 induction c with
 | nil=>rfl
 | cons e l ih =>
  rw[List.reverse_cons,List.map_append,zeB,ih]
  show wt l+wt [edR e]=e.w+wt l
  rw[zkM]
  show wt l+e.w=_
  omega
theorem zK6 {E:List Ed}{c:List Ed} : ∀ {a b:Nat},zeq E a c b->zeq (E.map edR) b (c.reverse.map edR) a:=by
 induction c with
 | nil=>intro a b h;exact Eq.symm h
 | cons e l ih =>
  rintro a b ⟨h1,h2,h3⟩
  rw[List.reverse_cons,List.map_append]
  exact zcA.2 ⟨e.v,ih h3,List.mem_map_of_mem h1,rfl,h2⟩
theorem zIm (E:List Ed):(E.map edR).map edR=E:=by
 rw[List.map_map]
 exact (List.map_congr_left λ e _=>rfl).trans (List.map_id E)
theorem zFf {E:List Ed}{c:List Ed}{a b:Nat}(h:zeq (E.map edR) a c b):∃ c0,zeq E b c0 a/\wt c0=wt c/\c0.length=c.length:=by
 have:=zK6 h
 rw[zIm] at this
 exact⟨_,this,zK5 c,by simp⟩
theorem znl {E:List Ed}(h:zbu E):zbu (E.map edR):=λ a c hc=>by
 obtain⟨c0,h1,h2,_⟩:=zFf hc
 rw[<- h2];exact h a c0 h1
theorem zfO {E:List Ed}(h:zbu E):zbu (E.map edM):=λ a c hc=>by
 obtain⟨c0,rfl,h1⟩:=zBL (f:=edM) (λ _=>rfl) (λ _=>rfl) hc
 rw[zK4]
 have:=h a c0 h1
 omega
theorem zBM {E F:List Ed}(h:∀ e∈E,e∈F){c:List Ed} : ∀ {a b:Nat},zeq E a c b->zeq F a c b:=by
 induction c with
 | nil=>intro a b h;exact h
 | cons e l ih=>rintro a b ⟨h1,h2,h3⟩;exact⟨h e h1,h2,ih h3⟩
theorem zdT {E F:List Ed}(h:∀ e∈E,e∈F) (hF:zbu F):zbu E:=λ a c hc=>hF a c (zBM h hc)
def zIV : Option Int → Int × Int
  | none=>((1000000000000:Int),(0:Int))
  | some x=>(x / 1048576,x % 1048576)
theorem zqX {L U:Int}(h0:0<=U) (h1:U < 1048576):zIV (some (L * 1048576+U))=(L,U):=by
 show ((L * 1048576+U) / 1048576,(L * 1048576+U) % 1048576)=(L,U)
 rw[show (L * 1048576+U) / 1048576=L by omega,show (L * 1048576+U) % 1048576=U by omega]
def zoQ (s:Nat):zbX:=λ v=>if v=s then some 0 else none
theorem zgb (s:Nat):Start (λ v=>v=s) (zoQ s) :=
 ⟨λ v x h=>(by
  unfold zoQ at h
  by_cases hv:v=s
  ·rw[dqP hv] at h;cases h;exact⟨hv,rfl⟩
  ·rw[dqG hv] at h;cases h),λ v h=>dqP h⟩
structure EdOk (E : List Ed) (n : Nat) : Prop where
  lt:∀ e∈E,e.u < n/\e.v < n
  w:∀ e∈E,-1000000000<=e.w/\e.w<=1000000000
  n1:1<=n
  n40:n<=40
theorem EdOk.R {E:List Ed}{n:Nat}(h:EdOk E n):EdOk (E.map edR) n :=
  ⟨λ e he=>(by obtain⟨f,h1,rfl⟩:=dqz.1 he;exact⟨(h.lt f h1).2,(h.lt f h1).1⟩),
   λ e he=>(by obtain⟨f,h1,rfl⟩:=dqz.1 he;exact h.w f h1),h.n1,h.n40⟩
theorem EdOk.ltM {E:List Ed}{n:Nat}(h:EdOk E n):∀ e∈E.map edM,e.u < n/\e.v < n :=
 λ e he=>by obtain⟨f,h1,rfl⟩:=dqz.1 he;exact h.lt f h1
theorem zsw {E:List Ed}{n:Nat}(h:EdOk E n){c:List Ed} : ∀ {a b:Nat},zeq E a c b->-1000000000 * (c.length:Int)<=wt c/\wt c<=1000000000 * (c.length:Int):=by
 induction c with
 | nil=>intro a b _;exact⟨(by show _<=(0:Int);simp),(by show (0:Int)<=_;simp)⟩
 | cons e l ih =>
  rintro a b ⟨h1,_,h3⟩
  have:=ih h3
  have:=h.w e h1
  show _<=e.w+wt l/\e.w+wt l<=_
  simp only[dqr]
  omega
structure Ent (E : List Ed) (n s v : Nat) (x L U : Int) (c : List Ed) : Prop where
  ch:zeq E s c v
  x:x=L * 1048576+U
  L:L=wt c
  U:U=c.length
  len:c.length < n
theorem zBN {E:List Ed}{n:Nat}(hE:EdOk E n){s:Nat}(hs:s < n){d:zbX}(hd:Inv (E.map edM) (λ v=>v=s) d){v:Nat}{x:Int}(hx:d v=some x):∃ c,Ent E n s v x (wt c) c.length c:=by
 obtain⟨a,c,hc⟩:=hd v x hx
 have hl:=zFe hE.ltM (λ a ha=>Nat.lt_of_le_of_lt (Nat.le_of_eq ha) hs) hc
 obtain⟨c0,rfl,h1⟩:=zBL (f:=edM) (λ _=>rfl) (λ _=>rfl) hc.ch
 obtain rfl:a=s:=hc.src
 exact⟨c0,h1,by rw[hc.wt,zK4],rfl,rfl,by rw[List.length_map] at hl;omega⟩
def dst (E:List Ed) (n s:Nat):zbX:=rds (E.map edM) (n - 1) (zoQ s)
theorem zFg {E:List Ed}{n s:Nat}(hn:zbu E):Inv (E.map edM) (λ v=>v=s) (dst E n s):=zyj (zfO hn) _ (zho (zgb s))
theorem zqY {E:List Ed}{n s:Nat}(hE:EdOk E n) (hn:zbu E) (hs:s < n):Fix (E.map edM) (dst E n s):=zBK (zfO hn) hE.ltM (λ a ha=>Nat.lt_of_le_of_lt (Nat.le_of_eq ha) hs) (zgb s)
theorem dst_at {E:List Ed}{n s v:Nat}(hE:EdOk E n) (hn:zbu E) (hs:s < n){x:Int}(hx:dst E n s v=some x):∃ c,Ent E n s v x (wt c) c.length c:=zBN hE hs (zFg hn) hx
theorem zAs {E:List Ed}{n s:Nat} : ∃ x,dst E n s s=some x:=by
 obtain⟨x,h,_⟩:=zst (E.map edM) (n - 1) (zoQ s) s 0 (dqP rfl)
 exact⟨x,h⟩
theorem zyl {E:List Ed}{n s:Nat}(hE:EdOk E n) (hn:zbu E) (hs:s < n){c:List Ed} : ∀ {a v:Nat}{x:Int},dst E n s a=some x->zeq E a c v->∃ y,dst E n s v=some y/\y / 1048576<=x / 1048576+wt c:=by
 induction c with
 | nil=>intro a v x hx h;cases h;exact⟨x,hx,by show _<=_+(0:Int);omega⟩
 | cons e l ih =>
  rintro a v x hx ⟨h1,h2,h3⟩
  subst h2
  obtain⟨y,k1,k2⟩:=zqY hE hn hs (edM e) (List.mem_map_of_mem h1) x hx
  obtain⟨z,m1,m2⟩:=ih (a:=e.v) k1 h3
  obtain⟨c1,hc1⟩:=dst_at hE hn hs hx
  obtain⟨c2,hc2⟩:=dst_at hE hn hs (show dst E n s e.v=some y from k1)
  refine⟨z,m1,?_⟩
  have k2':y<=x+(e.w * 1048576+1):=k2
  have:=hE.n40
  have:=hc1.len
  have:=hc1.x
  have:=hc2.len
  have:=hc2.x
  show _<=_+(e.w+wt l)
  omega
theorem zFh {E:List Ed}{n s v:Nat}(hE:EdOk E n) (hn:zbu E) (hs:s < n){c:List Ed}(hc:zeq E s c v):∃ x,dst E n s v=some x/\x / 1048576<=wt c:=by
 obtain⟨x0,h1⟩:=zAs (E:=E) (n:=n) (s:=s)
 obtain⟨y,k1,k2⟩:=zyl hE hn hs h1 hc
 have h3:x0<=0:=by
  obtain⟨x',h1',h2'⟩:=zst (E.map edM) (n - 1) (zoQ s) s 0 (dqP rfl)
  have:x'=x0:=Option.some.inj (h1'.symm.trans h1)
  omega
 exact⟨y,k1,by omega⟩
def zsx (o:Option Int):Int:=(zIV o).1
theorem zym {E:List Ed}{n s v:Nat}(hE:EdOk E n) (hn:zbu E) (hs:s < n){x:Int}(hx:dst E n s v=some x):∃ c,zeq E s c v/\zsx (dst E n s v)=wt c/\c.length < n:=by
 obtain⟨c,hc⟩:=dst_at hE hn hs hx
 refine⟨c,hc.ch,?_,hc.len⟩
 rw[hx]
 show x / 1048576=_
 have:=hc.x;have:=hc.len;have:=hE.n40
 omega
theorem zqZ {E:List Ed}{n s v:Nat}(hE:EdOk E n) (hn:zbu E) (hs:s < n){c:List Ed}(hc:zeq E s c v):zsx (dst E n s v)<=wt c:=by
 obtain⟨x,h1,h2⟩:=zFh hE hn hs hc
 rw[h1];exact h2
theorem zc0 {E:List Ed}{n s v:Nat}(hE:EdOk E n) (hn:zbu E) (hs:s < n):(dst E n s v=none/\zsx (dst E n s v)=1000000000000)\/∃ c,dst E n s v ≠ none/\zeq E s c v/\zsx (dst E n s v)=wt c/\c.length < n/\-40000000000<=wt c/\wt c<=40000000000:=by
 cases h:dst E n s v with
 | none=>exact .inl ⟨rfl,rfl⟩
 | some x =>
  obtain⟨c,h1,h2,h3⟩:=zym hE hn hs h
  have:=zsw hE h1
  have:=hE.n40
  rw[h] at h2
  exact .inr ⟨c,(by intro h;cases h),h1,h2,h3,by omega,by omega⟩
theorem zoJ {E F:List Ed}{n s v:Nat}(hE:EdOk E n) (hF:EdOk F n) (hn:zbu F) (hs:s < n) (h:∀ e∈E,e∈F):zsx (dst F n s v)<=zsx (dst E n s v):=by
 rcases zc0 (v:=v) hE (zdT h hn) hs with ⟨_,h2⟩ | ⟨c,_,h1,h2,_⟩
 ·rw [h2]
  rcases zc0 (v:=v) hF hn hs with ⟨_,h2⟩ | ⟨c,_,_,h2,_,_,_⟩ <;> omega
 ·rw[h2];exact zqZ hF hn hs (zBM h h1)
theorem zyn {E F:List Ed}{n s v:Nat}(hE:EdOk E n) (hF:EdOk F n) (hn:zbu F) (hs:s < n) (h:∀ e∈E,e∈F) (h':∀ e∈F,e∈E):zsx (dst F n s v)=zsx (dst E n s v) :=
 Int.le_antisymm (zoJ hE hF hn hs h) (zoJ hF hE (zdT h hn) hs h')
end Go.Pm
namespace Go.Pm
def znm (E : List Ed) : Nat → zbX → Bool
  | 0,_=>true
  | k+1,d=>cond (E.foldl rlF (d,false)).2 (znm E k (rnd E d)) false
theorem zq0 {E:List Ed}{k:Nat} : ∀ {m:Nat}{d:zbX},Fix E (rds E k d)->k < m->znm E m d=false:=by
 induction k with
 | zero =>
  intro m d h hm
  obtain⟨m,rfl⟩:∃ m',m=m'+1:=⟨m - 1,by omega⟩
  show cond (E.foldl rlF (d,false)).2 _ _=false
  rw[zji (show ∀ e∈E,Sat d e from h)];rfl
 | succ k ih =>
  intro m d h hm
  obtain⟨m,rfl⟩:∃ m',m=m'+1:=⟨m - 1,by omega⟩
  show cond (E.foldl rlF (d,false)).2 (znm E m (rnd E d)) false=false
  rw[ih (m:=m) (d:=rnd E d) h (by omega)]
  cases (E.foldl rlF (d,false)).2 <;> rfl
theorem zAt {E:List Ed}{m:Nat} : ∀ {d:zbX},znm E m d=false->∃ k,Fix E (rds E k d):=by
 induction m with
 | zero=>intro d h;cases h
 | succ m ih =>
  intro d h
  have h':cond (E.foldl rlF (d,false)).2 (znm E m (rnd E d)) false=false:=h
  cases hc:(E.foldl rlF (d,false)).2
  ·exact⟨0,ziz hc⟩
  ·rw [hc] at h'
   obtain⟨k,hk⟩:=ih h'
   exact⟨k+1,hk⟩
def zyM (n:Nat):zbX:=λ v=>if v < n then some 0 else none
theorem zto (n:Nat):Start (λ v=>v < n) (zyM n) :=
 ⟨λ v x h=>(by
  unfold zyM at h
  by_cases hv:v < n
  ·rw[dqP hv] at h;cases h;exact⟨hv,rfl⟩
  ·rw[dqG hv] at h;cases h),λ v h=>dqP h⟩
theorem zAu {E:List Ed}{n:Nat}(hE:EdOk E n):znm E n (zyM n)=false↔zbu E:=by
 constructor
 ·intro h
  obtain⟨k,hk⟩:=zAt h
  have hsome:∀ v,v < n->∃ x,rds E k (zyM n) v=some x:=λ v hv=>by
   obtain⟨x,hx,_⟩:=zst E k (zyM n) v 0 (dqP hv)
   exact⟨x,hx⟩
  refine zyk (f:=λ v=>(rds E k (zyM n) v).getD 0) λ e he=>?_
  obtain⟨x,hx⟩:=hsome e.u (hE.lt e he).1
  obtain⟨y,hy,hxy⟩:=hk e he x hx
  show (rds E k (zyM n) e.v).getD 0<=(rds E k (zyM n) e.u).getD 0+e.w
  rw[hx,hy];exact hxy
 ·intro h
  have:=hE.n1
  exact zq0 (zBK h hE.lt (λ a ha=>ha) (zto n)) (by omega)
theorem zkR {c:List Ed}(h : ¬ (c.map Ed.v).Nodup):∃ c1 e c2 f c3,c=c1 ++ e :: (c2 ++ f :: c3)/\e.v=f.v:=by
 induction c with
 | nil=>exact absurd (by simp) h
 | cons e l ih =>
  by_cases hm:e.v∈l.map Ed.v
  ·obtain ⟨f, h1, h2⟩ := dqz.1 hm
   obtain⟨c2,c3,h3⟩:=List.append_of_mem h1
   exact⟨[],e,c2,f,c3,by rw[h3];rfl,h2.symm⟩
  ·have : ¬ (l.map Ed.v).Nodup := fun hl => h (by rw [dqK, List.nodup_cons]; exact ⟨hm, hl⟩)
   obtain⟨c1,e',c2,f,c3,h1,h2⟩:=ih this
   exact⟨e :: c1,e',c2,f,c3,by rw[h1];rfl,h2⟩
theorem ztp {E:List Ed}(m:Nat):∀ {a:Nat}{c:List Ed},c.length<=m->zeq E a c a->wt c < 0->∃ b d,zeq E b d b/\wt d < 0/\(d.map Ed.v).Nodup:=by
 induction m with
 | zero =>
  intro a c hl _ hw
  have:c=[]:=List.length_eq_zero_iff.1 (by omega)
  subst this
  exact absurd hw (by show ¬ (0:Int) < 0;omega)
 | succ m ih =>
  intro a c hl hc hw
  by_cases hn:(c.map Ed.v).Nodup
  ·exact⟨a,c,hc,hw,hn⟩
  ·obtain ⟨c1, e, c2, f, c3, rfl, hef⟩ := zkR hn
   obtain⟨p,h1,h2,h3,h4⟩:=zcA.1 hc
   obtain⟨q,h5,h6,h7,h8⟩:=zcA.1 h4
   simp only[dqu,dqr] at hl
   have hcy:zeq E e.v (c2 ++ [f]) e.v:=zcA.2 ⟨q,h5,h6,h7,hef.symm⟩
   have hre:zeq E a (c1 ++ e :: c3) a:=zcA.2 ⟨p,h1,h2,h3,by rw[hef];exact h8⟩
   rw[zeB] at hw
   have hw':wt c1+(e.w+wt (c2 ++ f :: c3)) < 0:=hw
   rw[zeB] at hw'
   have hw'':wt c1+(e.w+(wt c2+(f.w+wt c3))) < 0:=hw'
   by_cases h:wt (c2 ++ [f]) < 0
   ·exact ih (by simp only[dqu,dqr,dqL];omega) hcy h
   ·refine ih (c := c1 ++ e :: c3) (by simp only [dqu, dqr]; omega) hre ?_
    rw[zeB,zkM] at h
    rw[zeB]
    show wt c1+(e.w+wt c3) < 0
    omega
theorem exists_least {l:List Nat}(h:l ≠ []):∃ m∈l,∀ x∈l,m<=x:=by
 induction l with
 | nil=>exact absurd rfl h
 | cons a l ih =>
  by_cases hl:l=[]
  ·subst hl;exact⟨a,by simp,by simp⟩
  ·obtain ⟨m, h1, h2⟩ := ih hl
   by_cases hm:m<=a
   ·exact⟨m,dqf _ h1,λ x hx=>by
     rcases dqq.1 hx with rfl | hx
     ·exact hm
     ·exact h2 x hx⟩
   ·exact⟨a,dqj ..,λ x hx=>by
     rcases dqq.1 hx with rfl | hx
     ·exact dqt _
     ·have:=h2 x hx;omega⟩
theorem zyo {E:List Ed}{n:Nat}(hE:∀ e∈E,e.u < n/\e.v < n) (h : ¬ zbu E):∃ a c,a < n/\zeq E a c a/\wt c < 0/\c.length<=n/\∀ e∈c,a<=e.u/\a<=e.v:=by
 obtain⟨a,h⟩:=Classical.not_forall.1 h
 obtain⟨c,h⟩:=Classical.not_forall.1 h
 obtain⟨hc,hw⟩:=Classical.not_imp.1 h
 obtain⟨b,d,h1,h2,h3⟩:=ztp c.length (dqt _) hc (by omega)
 have hd:d ≠ []:=λ e=>by subst e;exact absurd h2 (by show ¬ (0:Int) < 0;omega)
 have hb:b < n:=by
  cases d with
  | nil=>exact absurd rfl hd
  | cons e l=>obtain⟨k1,k2,_⟩:=h1;have:=(hE e k1).1;omega
 have hlen:d.length<=n:=by
  have:=zkP n h3 (λ x hx=>zjj hE hb h1 x (dqf _ hx))
  rwa[List.length_map] at this
 obtain⟨m,m1,m2⟩:=exists_least (l:=nodes b d) (by simp[nodes])
 obtain⟨c1,c2,k1,k2,k3⟩:=zsu h1 m1
 have hcl:zeq E m (c2 ++ c1) m:=zcA.2 ⟨b,k3,k2⟩
 refine⟨m,c2 ++ c1,zjj hE hb h1 m m1,hcl,?_,?_,?_⟩
 ·rw[k1,zeB] at h2;rw[zeB];omega
 ·rw[k1,dqu] at hlen;rw[dqu];omega
 ·have hu:∀ {c:List Ed} {a b:Nat},zeq E a c b->∀ e∈c,e.u∈nodes a c/\e.v∈nodes a c:=by
   intro c
   induction c with
   | nil=>intro a b _ e he;cases he
   | cons f l ih =>
    rintro a b ⟨j1,j2,j3⟩ e he
    rcases dqq.1 he with rfl | hm
    ·exact⟨by rw[j2];exact dqj ..,by simp[nodes]⟩
    ·obtain ⟨i1, i2⟩ := ih j3 e hm
     have hsub:∀ x,x∈nodes f.v l->x∈nodes a (f :: l):=λ x hx=>dqf _ (by simpa [nodes] using hx)
     exact⟨hsub _ i1,hsub _ i2⟩
  intro e he
  have he':e∈d:=by
   rw[k1]
   rcases dqg.1 he with h | h
   ·exact dqg.2 (.inr h)
   ·exact dqg.2 (.inl h)
  obtain⟨i1,i2⟩:=hu h1 e he'
  exact⟨m2 _ i1,m2 _ i2⟩
end Go.Pm
namespace Go.Proofs
open Go Go.Pm
set_option maxRecDepth 100000
set_option linter.unusedVariables false
theorem zdk {n:Nat}{F:Tab}{k:Nat}(hk:k < n):tg n F k=F k:=by
 unfold tg zk8
 have h:(zm (zgR 0 n F))[k]? = some (.p (.int .i64 (F k))):=by
  rw[zm,dqH,zfR n 0 F k hk,Nat.zero_add];rfl
 rw[h]
theorem zBO {n:Nat}{F:Tab}{k:Nat}{v:Int}{j:Nat}(hj:j < n):ts n F k [v] j=if j=k then v else F j:=by
 show (match Nat.beq j k with | true=>v | false=>tg n F j)=_
 by_cases h:j=k
 ·rw[dqP h,show Nat.beq j k=true from by rw[h];exact Nat.beq_refl _]
 ·rw[dqG h,show Nat.beq j k=false from Bool.eq_false_iff.2 λ e=>h (dqc e)];exact zdk hj
theorem zcd {n:Nat}{F:Tab}{k:Nat}{v w:Int}{j:Nat}(hj:j < n):ts n F k [v,w] j=if j=k+1 then w else if j=k then v else F j:=by
 show (match Nat.beq j (k+1) with | true=>w | false=>(match Nat.beq j k with | true=>v | false=>tg n F j))=_
 by_cases h:j=k+1
 ·rw[dqP h,show Nat.beq j (k+1)=true from by rw[h];exact Nat.beq_refl _]
 ·rw [dqG h, show Nat.beq j (k + 1) = false from Bool.eq_false_iff.2 fun e => h (dqc e)]
  by_cases h':j=k
  ·rw[dqP h',show Nat.beq j k=true from by rw[h'];exact Nat.beq_refl _]
  ·rw[dqG h',show Nat.beq j k=false from Bool.eq_false_iff.2 λ e=>h' (dqc e)];exact zdk hj
def fwS (t:Tie) (i:Nat):step:=⟨⟨(i:Int),false⟩,t.From,t.To,t.High⟩
def bwS (t:Tie) (i:Nat):step:=⟨⟨(i:Int),true⟩,t.To,t.From,w64 (0 - t.Low)⟩
def zns (a:web) (i:Nat):Bool:=(zoW (a.out.F [(i:Int)]) 0) != 0
def stK (a:web) (i:Nat):List step :=
 cond (zns a i) [] ((cond ((a.Net.Ties.get i).High != (1000000000000:Int)) [fwS (a.Net.Ties.get i) i] []) ++ (cond ((a.Net.Ties.get i).Low != (-1000000000000:Int)) [bwS (a.Net.Ties.get i) i] []))
def stL (a : web) : Nat → Nat → List step
  | 0,_=>[]
  | m+1,i=>stK a i ++ stL a m (i+1)
theorem zkS (a:web) (hn:a.Net.Ties.len<=9223372036854775807):ztt a=true/\zkn a=stL a a.Net.Ties.len 0:=by
 have key:∀ (m k i:Nat),i+m=a.Net.Ties.len->m < k->zd9 a k (i:Int)=true/\zd8 a k (i:Int)=stL a m i:=by
  intro m
  induction m with
  | zero =>
   intro k i hi hk
   obtain⟨k,rfl⟩:∃ k',k=k'+1:=⟨k - 1,by omega⟩
   constructor
   ·show zeX a (zd9 a k) (i : Int) = true
    unfold zeX
    rw[dqF (show ¬ (i:Int) < (a.Net.Ties.len:Int) by omega),dqB]
   ·show zeW a (zd8 a k) (i : Int) = []
    unfold zeW
    rw[dqF (show ¬ (i:Int) < (a.Net.Ties.len:Int) by omega),dqB]
  | succ m ih =>
   intro k i hi hk
   obtain⟨k,rfl⟩:∃ k',k=k'+1:=⟨k - 1,by omega⟩
   obtain⟨h1,h2⟩:=ih k (i+1) (by omega) (by omega)
   constructor
   ·show zeX a (zd9 a k) (i : Int) = true
    unfold zeX
    rw[dqT (show (i:Int) < (a.Net.Ties.len:Int) by omega),dqA,dqT (show 0<=(i:Int)/\(i:Int) < (a.Net.Ties.len:Int) by omega),Bool.true_and,zga (n:=a.Net.Ties.len) (by omega) hn,h1]
    generalize (zoW (a.out.F [(i:Int)]) 0 != 0)=b1
    generalize (s94 (⟨(a.Net.Ties.get ((i:Int)).toNat),(i:Int)⟩:tie)).2=b2
    generalize (s95 (⟨(a.Net.Ties.get ((i:Int)).toNat),(i:Int)⟩:tie)).2=b3
    cases b1 <;> cases b2 <;> cases b3 <;> rfl
   ·show zeW a (zd8 a k) (i : Int) = stK a i ++ stL a m (i + 1)
    unfold zeW
    rw[dqT (show (i:Int) < (a.Net.Ties.len:Int) by omega),dqA,dqN,zga (n:=a.Net.Ties.len) (by omega) hn,h2]
    unfold stK zns s94 s95
    generalize (zoW (a.out.F [(i:Int)]) 0 != 0)=b1
    show cond b1 _ (cond ((a.Net.Ties.get i).High != (1000000000000:Int)) (_ :: cond ((a.Net.Ties.get i).Low != (-1000000000000:Int)) (_ :: _) _) (cond ((a.Net.Ties.get i).Low != (-1000000000000:Int)) (_ :: _) _))=_
    generalize ((a.Net.Ties.get i).High != (1000000000000:Int))=b2
    generalize ((a.Net.Ties.get i).Low != (-1000000000000:Int))=b3
    cases b1 <;> cases b2 <;> cases b3 <;> rfl
 exact key a.Net.Ties.len Fuel 0 (by omega) (by simp only[Fuel];omega)
theorem ziA {a:web}{y:step} : ∀ {m i:Nat},y∈stL a m i↔∃ j,i<=j/\j < i+m/\y∈stK a j:=by
 intro m
 induction m with
 | zero=>intro i;exact⟨λ h=>(by cases h),λ ⟨j,h1,h2,_⟩=>(by omega)⟩
 | succ m ih =>
  intro i
  show y∈stK a i ++ stL a m (i+1)↔_
  rw[dqg,ih]
  constructor
  ·rintro (h | ⟨j, h1, h2, h3⟩)
   ·exact⟨i,dqt _,by omega,h⟩
   ·exact⟨j,by omega,by omega,h3⟩
  ·rintro ⟨j, h1, h2, h3⟩
   by_cases h:j=i
   ·subst h;exact .inl h3
   ·exact .inr ⟨j,by omega,by omega,h3⟩
theorem ziB {a:web}{y:step}{j:Nat} : y∈stK a j↔zns a j=false/\(((a.Net.Ties.get j).High ≠ 1000000000000/\y=fwS (a.Net.Ties.get j) j)\/((a.Net.Ties.get j).Low ≠ -1000000000000/\y=bwS (a.Net.Ties.get j) j)):=by
 unfold stK
 cases h:zns a j
 ·rw [dqB, dqg]
  by_cases h1:(a.Net.Ties.get j).High=1000000000000
  ·rw [show ((a.Net.Ties.get j).High != (1000000000000:Int)) = false by rw [h1]; rfl, dqB]
   by_cases h2:(a.Net.Ties.get j).Low = -1000000000000
   ·rw [show ((a.Net.Ties.get j).Low != (-1000000000000:Int)) = false by rw [h2]; rfl, dqB]
    simp[h1,h2]
   ·rw [bne_iff_ne.2 h2, dqA]
    simp[h1,h2]
  ·rw [bne_iff_ne.2 h1, dqA]
   by_cases h2:(a.Net.Ties.get j).Low = -1000000000000
   ·rw [show ((a.Net.Ties.get j).Low != (-1000000000000:Int)) = false by rw [h2]; rfl, dqB]
    simp[h1,h2]
   ·rw [bne_iff_ne.2 h2, dqA]
    simp[h1,h2]
 ·rw[dqA];simp
theorem zFi (a:web):∀ m i,(stL a m i).length<=2 * m:=by
 intro m
 induction m with
 | zero=>intro i;exact dqt _
 | succ m ih =>
  intro i
  show (stK a i ++ stL a m (i+1)).length<=_
  rw[dqu]
  have:=ih (i+1)
  have:(stK a i).length<=2:=by
   unfold stK
   cases zns a i <;> cases ((a.Net.Ties.get i).High != (1000000000000:Int)) <;> cases ((a.Net.Ties.get i).Low != (-1000000000000:Int)) <;> simp
  omega
def edS (y:step):Ed:=⟨y.from_.toNat,y.to.toNat,y.length⟩
structure StOk (y : step) (N : Nat) : Prop where
  f0:0<=y.from_
  f1:y.from_ < N
  t0:0<=y.to
  t1:y.to < N
  l0 : -1000000000<=y.length
  l1:y.length<=1000000000
abbrev Ws (a:web):List step:=stL a a.Net.Ties.len 0
def We (a:web):List Ed:=(Ws a).map edS
theorem zyp {t:Tie}{N:Int}(h:TieOk t N) (h':t.Low ≠ -1000000000000):w64 (0 - t.Low) = -t.Low:=by
 have:=h.lo.resolve_left h'
 rw[zbt (by omega) (by omega)];omega
theorem zyO {a:web}(hn:NetOk a.Net){y:step}(hy:y∈Ws a):StOk y a.Net.Nodes.toNat:=by
 obtain⟨j,_,h2,h3⟩:=ziA.1 hy
 have h:=hn.tie j (by omega)
 have:=h.f0;have:=h.f1;have:=h.t0;have:=h.t1
 rcases (ziB.1 h3).2 with ⟨h4,rfl⟩ | ⟨h4,rfl⟩
 ·have := h.hi.resolve_left h4
  exact⟨h.f0,by show (a.Net.Ties.get j).From < _;omega,h.t0,by show (a.Net.Ties.get j).To < _;omega,this.1,this.2⟩
 ·have := h.lo.resolve_left h4
  have e:=zyp h h4
  exact⟨h.t0,by show (a.Net.Ties.get j).To < _;omega,h.f0,by show (a.Net.Ties.get j).From < _;omega,by show _<=w64 (0 - (a.Net.Ties.get j).Low);omega,by show w64 (0 - (a.Net.Ties.get j).Low)<=_;omega⟩
theorem zIn {a:web}(hn:NetOk a.Net):(Ws a).length<=400:=by
 have h1:=zFi a a.Net.Ties.len 0
 have h2:=hn.len
 show (stL a a.Net.Ties.len 0).length<=400
 omega
theorem zBP {a:web}(hn:NetOk a.Net):EdOk (We a) a.Net.Nodes.toNat:=by
 have:=hn.n1;have:=hn.n40
 refine⟨λ e he=>?_,λ e he=>?_,by omega,by omega⟩
 ·obtain ⟨y, hy, rfl⟩ := dqz.1 he
  have h:=zyO hn hy
  have:=h.f0;have:=h.f1;have:=h.t0;have:=h.t1
  exact⟨by show y.from_.toNat < _;omega,by show y.to.toNat < _;omega⟩
 ·obtain ⟨y, hy, rfl⟩ := dqz.1 he
  have h:=zyO hn hy
  exact⟨h.l0,h.l1⟩
theorem zsy {a:web}(hn:NetOk a.Net){e:Ed} : e∈We a↔∃ j,j < a.Net.Ties.len/\zns a j=false/\(((a.Net.Ties.get j).High ≠ 1000000000000/\e=⟨(a.Net.Ties.get j).From.toNat,(a.Net.Ties.get j).To.toNat,(a.Net.Ties.get j).High⟩)\/((a.Net.Ties.get j).Low ≠ -1000000000000/\e=⟨(a.Net.Ties.get j).To.toNat,(a.Net.Ties.get j).From.toNat,-(a.Net.Ties.get j).Low⟩)):=by
 constructor
 ·intro he
  obtain⟨y,hy,rfl⟩:=dqz.1 he
  obtain⟨j,_,h2,h3⟩:=ziA.1 hy
  obtain⟨h4,h5⟩:=ziB.1 h3
  refine⟨j,by omega,h4,?_⟩
  rcases h5 with ⟨h6,rfl⟩ | ⟨h6,rfl⟩
  ·exact .inl ⟨h6,rfl⟩
  ·refine .inr ⟨h6, ?_⟩
   rw[<- zyp (hn.tie j (by omega)) h6];rfl
 ·rintro ⟨j, h1, h2, h3⟩
  rcases h3 with ⟨h6,rfl⟩ | ⟨h6,rfl⟩
  ·exact dqz.2 ⟨fwS (a.Net.Ties.get j) j,ziA.2 ⟨j,by omega,by omega,ziB.2 ⟨h2,.inl ⟨h6,rfl⟩⟩⟩,rfl⟩
  ·exact dqz.2 ⟨bwS (a.Net.Ties.get j) j,ziA.2 ⟨j,by omega,by omega,ziB.2 ⟨h2,.inr ⟨h6,rfl⟩⟩⟩,by rw[<- zyp (hn.tie j h1) h6];rfl⟩
end Go.Proofs
namespace Go.Proofs
open Go Go.Pm
set_option maxRecDepth 100000
set_option linter.unusedVariables false
def Rt (N:Nat) (T:Tab) (d:zbX):Prop:=∀ v,v < N->d v=some (T v)
def Bd (B:Int) (T:Tab):Prop:=∀ v,v < 40->-B<=T v/\T v<=0
theorem zyq (a:web){N:Nat}(hN:N<=40) (S0:Int->Tab->Bool) (P0:Int->Tab->Bool):∀ (l:List step),(∀ y∈l,StOk y N)->∀ (t:Int) (c:Bool) (T:Tab) (d:zbX) (B:Int),Rt N T d->Bd B T->0<=B->B+l.length * 1000000000<=100000000000000000 ->
    ∃ T',zfq S0 a l t c T=zmB S0 a t ((l.map edS).foldl rlF (d,c)).2 T'/\zfr P0 a l t c T=zmC P0 a t ((l.map edS).foldl rlF (d,c)).2 T'/\Rt N T' ((l.map edS).foldl rlF (d,c)).1/\Bd (B+l.length * 1000000000) T':=by
  intro l
  induction l with
  | nil=>intro _ t c T d B h1 h2 _ _;exact⟨T,rfl,rfl,h1,by simpa using h2⟩
  | cons y l ih =>
    intro hl t c T d B h1 h2 h3 h4
    have hy:=hl y (dqj ..)
    have hl':∀ y∈l,StOk y N:=λ z hz=>hl z (dqf _ hz)
    rw[dqr] at h4
    have f0:=hy.f0;have f1:=hy.f1;have t0:=hy.t0;have t1:=hy.t1;have l0:=hy.l0;have l1:=hy.l1
    have hf:=h1 y.from_.toNat (by omega)
    have ht:=h1 y.to.toNat (by omega)
    have bf:=h2 y.from_.toNat (by omega)
    have bt:=h2 y.to.toNat (by omega)
    have e1:0+y.from_.toNat * 1+0=y.from_.toNat:=by omega
    have e2:0+y.to.toNat * 1+0=y.to.toNat:=by omega
    have hr:rlF (d,c) (edS y)=cond (decide (T y.from_.toNat+y.length < T y.to.toNat)) (zkV d y.to.toNat (T y.from_.toNat+y.length),true) (d,c):=by
      unfold rlF edS
      simp only[hf,ht]
      rfl
    have hS:zfq S0 a (y :: l) t c T=cond (decide (T y.from_.toNat+y.length < T y.to.toNat)) (zfq S0 a l t true (ts 40 T y.to.toNat [T y.from_.toNat+y.length])) (zfq S0 a l t c T):=by
      show zmD S0 a y (zfq S0 a l) t c T=_
      generalize zfq S0 a l=S
      unfold zmD
      rw[e1,e2,zdk (by omega),zdk (by omega),zbt (by omega) (by omega)]
    have hP:zfr P0 a (y :: l) t c T=cond (decide (T y.from_.toNat+y.length < T y.to.toNat)) (zfr P0 a l t true (ts 40 T y.to.toNat [T y.from_.toNat+y.length])) (zfr P0 a l t c T):=by
      show zmE P0 a y (zfr P0 a l) t c T=_
      generalize zfr P0 a l=S
      unfold zmE
      rw[e1,e2,zdk (by omega),zdk (by omega),zbt (by omega) (by omega),dqT (show 0<=y.from_/\y.from_ < (40:Int) by omega),dqT (show 0<=y.to/\y.to < (40:Int) by omega)]
      cases decide (T y.from_.toNat+y.length < T y.to.toNat) <;> rfl
    show ∃ T',_=zmB S0 a t ((l.map edS).foldl rlF (rlF (d,c) (edS y))).2 T'/\_=zmC P0 a t ((l.map edS).foldl rlF (rlF (d,c) (edS y))).2 T'/\Rt N T' ((l.map edS).foldl rlF (rlF (d,c) (edS y))).1/\_
    rw[hS,hP,hr]
    by_cases hlt:T y.from_.toNat+y.length < T y.to.toNat
    · rw [dqT hlt, dqA, dqA, dqA]
      obtain ⟨T', k1, k2, k3, k4⟩ := ih hl' t true (ts 40 T y.to.toNat [T y.from_.toNat + y.length]) (zkV d y.to.toNat (T y.from_.toNat + y.length)) (B + 1000000000)
        (λ v hv=>by
          rw[zBO (by omega)]
          unfold zkV
          by_cases h:v=y.to.toNat
          · rw[dqP h,dqP h]
          · rw[dqG h,dqG h];exact h1 v hv)
        (λ v hv=>by
          rw[zBO hv]
          by_cases h:v=y.to.toNat
          · rw[dqP h];omega
          · rw[dqG h];have:=h2 v hv;omega) (by omega) (by omega)
      refine⟨T',k1,k2,k3,?_⟩
      rw[dqr,show B+((l.length+1:Nat):Int) * 1000000000=B+1000000000+(l.length:Int) * 1000000000 by omega]
      exact k4
    · rw [dqF hlt, dqB, dqB, dqB]
      obtain⟨T',k1,k2,k3,k4⟩:=ih hl' t c T d B h1 h2 h3 (by omega)
      refine⟨T',k1,k2,k3,λ v hv=>?_⟩
      have:=k4 v hv
      rw[dqr]
      omega
theorem zq1 (a:web) (hn:NetOk a.Net):∀ (m k i:Nat) (T:Tab) (d:zbX) (B:Int),Rt a.Net.Nodes.toNat T d->Bd B T->0<=B->B+m * 400000000000<=100000000000000000->(i:Int)+m=a.Net.Nodes->m < k ->
  zhJ a k (i:Int) T=true/\zhI a k (i:Int) T=znm (We a) m d:=by
 have hn1:=hn.n1;have hn40:=hn.n40;have hlen:=hn.len
 obtain⟨q1,q2⟩:=zkS a (by omega)
 intro m
 induction m with
 | zero =>
  intro k i T d B _ _ _ _ hi hk
  obtain⟨k,rfl⟩:∃ k',k=k'+1:=⟨k - 1,by omega⟩
  constructor
  ·show zhH a (zhJ a k) (i : Int) T = true
   unfold zhH
   rw[dqF (show ¬ (i:Int) < a.Net.Nodes by omega),dqB]
  ·show zhG a (zhI a k) (i : Int) T = true
   unfold zhG
   rw[dqF (show ¬ (i:Int) < a.Net.Nodes by omega),dqB]
 | succ m ih =>
  intro k i T d B h1 h2 h3 h4 hi hk
  obtain⟨k,rfl⟩:∃ k',k=k'+1:=⟨k - 1,by omega⟩
  have hwl:=zIn hn
  obtain⟨T',k1,k2,k3,k4⟩:=zyq a (N:=a.Net.Nodes.toNat) (by omega) (zhI a k) (zhJ a k) (Ws a) (λ y hy=>zyO hn hy) (i:Int) false T d B h1 h2 h3 (by omega)
  have hB:Bd (B+400000000000) T':=λ v hv=>by have:=k4 v hv;omega
  have hw:w64 ((i:Int)+(1:Int))=((i+1:Nat):Int):=by rw[zbt (by omega) (by omega)];omega
  obtain⟨r1,r2⟩:=ih k (i+1) T' (rnd (We a) d) (B+400000000000) k3 hB (by omega) (by omega) (by omega) (by omega)
  constructor
  ·show zhH a (zhJ a k) (i : Int) T = true
   unfold zhH zpF
   rw[dqT (show (i:Int) < a.Net.Nodes by omega),dqA,q1,q2,k2]
   unfold zmC
   rw[hw,r1]
   cases ((Ws a).map edS |>.foldl rlF (d,false)).2 <;> rfl
  ·show zhG a (zhI a k) (i : Int) T = cond ((We a).foldl rlF (d, false)).2 (znm (We a) m (rnd (We a) d)) false
   unfold zhG zpE
   rw[dqT (show (i:Int) < a.Net.Nodes by omega),dqA,q2,k1]
   unfold zmB
   rw[hw,r2]
   show cond (!((We a).foldl rlF (d,false)).2) false _=_
   cases ((We a).foldl rlF (d,false)).2 <;> rfl
theorem zq2 (a:web) (hn:NetOk a.Net):p88 a=true/\s88 a=znm (We a) a.Net.Nodes.toNat (zyM a.Net.Nodes.toNat):=by
 have hn1:=hn.n1;have hn40:=hn.n40
 have:=zq1 a hn a.Net.Nodes.toNat Fuel 0 (λ _=>(0:Int)) (zyM a.Net.Nodes.toNat) 0 (λ v hv=>dqP hv) (λ v hv=>⟨by show -(0:Int)<=(0:Int);omega,Int.le_refl _⟩) (by omega) (by omega) (by omega) (by simp only[Fuel];omega)
 exact this
theorem znn (a:web) (hn:NetOk a.Net):s88 a=false↔zbu (We a):=by
 rw[(zq2 a hn).2];exact zAu (zBP hn)
end Go.Proofs
namespace Go.Proofs
open Go Go.Pm
set_option maxRecDepth 100000
set_option linter.unusedVariables false
theorem zgc (a b:far):zyJ a ⟨1,λ _=>b⟩=true/\zcw a ⟨1,λ _=>b⟩=cond (zzO b a) b a:=by
 unfold zyJ zcw zmI zmH
 have key:∀ k,zfY (⟨1,λ _=>b⟩:Sl far) (k+2) (0:Int) a.length a.uses=true/\zfX (⟨1,λ _=>b⟩:Sl far) (k+2) (0:Int) a.length a.uses=cond (zzO b a) b a:=by
  intro k
  have hw:w64 ((0:Int)+(1:Int))=(1:Int):=by rw[zbt (by omega) (by omega)];rfl
  have e1:∀ x y,zfX (⟨1,λ _=>b⟩:Sl far) (k+1) (1:Int) x y=(⟨x,y⟩:far):=λ x y=>by
   show zfV (⟨1,λ _=>b⟩:Sl far) (zfX (⟨1,λ _=>b⟩:Sl far) k) (1:Int) x y=_
   unfold zfV
   rw[dqF (show ¬ (1:Int) < ((1:Nat):Int) by omega),dqB]
  have e2:∀ x y,zfY (⟨1,λ _=>b⟩:Sl far) (k+1) (1:Int) x y=true:=λ x y=>by
   show zfW (⟨1,λ _=>b⟩:Sl far) (zfY (⟨1,λ _=>b⟩:Sl far) k) (1:Int) x y=_
   unfold zfW
   rw[dqF (show ¬ (1:Int) < ((1:Nat):Int) by omega),dqB]
  constructor
  ·show zfW (⟨1, fun _ => b⟩ : Sl far) (zfY (⟨1, fun _ => b⟩ : Sl far) (k + 1)) (0:Int) a.length a.uses = _
   unfold zfW zmG
   rw[dqT (show (0:Int) < ((1:Nat):Int) by omega),dqA,dqT (show 0<=(0:Int)/\(0:Int) < ((1:Nat):Int) by omega),Bool.true_and,hw,e2,e2]
   cases zzO b (⟨a.length,a.uses⟩:far) <;> rfl
  ·show zfV (⟨1, fun _ => b⟩ : Sl far) (zfX (⟨1, fun _ => b⟩ : Sl far) (k + 1)) (0:Int) a.length a.uses = _
   unfold zfV zmF
   rw[dqT (show (0:Int) < ((1:Nat):Int) by omega),dqA,hw,e1,e1]
 have:=key (Fuel - 2)
 rw[show Fuel - 2+2=Fuel by simp only[Fuel]] at this
 exact this
theorem zq3 (a b:far):zzO a b=decide (a.length < b.length\/(a.length=b.length/\a.uses < b.uses)):=by
 unfold zzO
 by_cases h1:a.length < b.length
 ·rw[dqT h1,dqA];exact (dqT (.inl h1)).symm
 ·rw [dqF h1, dqB]
  by_cases h2:a.length=b.length
  ·rw [show (a.length == b.length) = true from beq_iff_eq.2 h2, dqA]
   exact decide_eq_decide.2 ⟨λ h=>.inr ⟨h2,h⟩,λ h=>h.elim (λ h=>absurd h h1) (λ h=>h.2)⟩
  ·rw [show (a.length == b.length) = false from dqU.2 h2, dqB]
   exact (dqF (λ h=>h.elim h1 (λ h=>h2 h.1))).symm
def Rp (N:Nat) (T:Tab) (d:zbX):Prop:=∀ v,v < N->(T (v * 2),T (v * 2+1))=zIV (d v)
def nv (x y:Int):Bool:=match (x == (1000000000000:Int)) with | true=>(match (y == (0:Int)) with | true=>true | false=>false) | false=>false
def sm (x y u v:Int):Bool:=match (x == u) with | true=>(match (y == v) with | true=>true | false=>false) | false=>false
theorem zno (x y:Int):nv x y=decide ((x,y)=((1000000000000:Int),(0:Int))):=by
 unfold nv
 by_cases h1:x=1000000000000
 ·rw [show (x == (1000000000000:Int)) = true from beq_iff_eq.2 h1]
  by_cases h2:y=0
  ·rw[show (y == (0:Int))=true from beq_iff_eq.2 h2];exact (dqT (by rw[h1,h2])).symm
  ·rw[show (y == (0:Int))=false from dqU.2 h2];exact (dqF (λ h=>h2 (Prod.mk.inj h).2)).symm
 ·rw [show (x == (1000000000000:Int)) = false from dqU.2 h1]
  exact (dqF (λ h=>h1 (Prod.mk.inj h).1)).symm
theorem same_eq (x y u v:Int):sm x y u v=decide ((x,y)=(u,v)):=by
 unfold sm
 by_cases h1:x=u
 ·rw [show (x == u) = true from beq_iff_eq.2 h1]
  by_cases h2:y=v
  ·rw[show (y == v)=true from beq_iff_eq.2 h2];exact (dqT (by rw[h1,h2])).symm
  ·rw[show (y == v)=false from dqU.2 h2];exact (dqF (λ h=>h2 (Prod.mk.inj h).2)).symm
 ·rw [show (x == u) = false from dqU.2 h1]
  exact (dqF (λ h=>h1 (Prod.mk.inj h).1)).symm
theorem zjk {E : List Ed} {n s v : Nat} (hE : EdOk E n) (hs : s < n) {d : zbX} (hd : Inv (E.map edM) (fun v => v = s) d) {x : Int} (hx : d v = some x) :
  ∃ L U,zIV (d v)=(L,U)/\x=L * 1048576+U/\0<=U/\U < 40/\-40000000000<=L/\L<=40000000000:=by
 obtain⟨c,hc⟩:=zBN hE hs hd hx
 have h1:=zsw hE hc.ch
 have h2:=hc.len
 have h3:=hE.n40
 refine⟨wt c,c.length,?_,hc.x,by omega,by omega,by omega,by omega⟩
 rw[hx,hc.x]
 exact zqX (by omega) (by omega)
end Go.Proofs
namespace Go.Proofs
open Go Go.Pm
set_option maxRecDepth 100000
set_option linter.unusedVariables false
theorem zIo (a : web) {N s : Nat} (E : List Ed) (hE : EdOk E N) (hn : zbu E) (hs : s < N) (S2 : Bool → Tab → Tab → Tab) (P2 : Bool → Tab → Tab → Bool) (y : step) (hy : StOk y N) (hm : edS y ∈ E) (S3 : Bool → Tab → Tab → Tab) (P3 : Bool → Tab → Tab → Bool) (c : Bool) (T4 T : Tab) (d : zbX) (h1 : Rp N T d) (hi : Inv (E.map edM) (fun v => v = s) d) :
  ∃ T',zm8 S2 a y S3 c T4 T=S3 (rlF (d,c) (edM (edS y))).2 T4 T'/\zm9 P2 a y P3 c T4 T=P3 (rlF (d,c) (edM (edS y))).2 T4 T'/\Rp N T' (rlF (d,c) (edM (edS y))).1:=by
 have hN:=hE.n40
 have f0:=hy.f0;have f1:=hy.f1;have t0:=hy.t0;have t1:=hy.t1;have l0:=hy.l0;have l1:=hy.l1
 have hu:=h1 y.from_.toNat (by omega)
 have hv:=h1 y.to.toNat (by omega)
 have e1:0+y.from_.toNat * 2+0=y.from_.toNat * 2:=by omega
 have e2:0+y.to.toNat * 2+0=y.to.toNat * 2:=by omega
 have e3:0+y.from_.toNat * 2+1=y.from_.toNat * 2+1:=by omega
 have hin:=zkQ (Src:=λ v=>v=s) (zfO hn) (s:=(d,c)) (e:=edM (edS y)) (List.mem_map_of_mem hm) hi
 have hS:zm8 S2 a y S3 c T4 T=cond (nv (tg 80 T (0+y.from_.toNat * 2+0)) (tg 80 T (0+y.from_.toNat * 2+0+1))) (S3 c T4 T) (cond c (S3 true T4 (ts 80 T (0+y.to.toNat * 2+0) [(zcw (⟨(tg 80 T (0+y.to.toNat * 2+0)),(tg 80 T (0+y.to.toNat * 2+0+1))⟩:far) (⟨1,λ _=>(⟨(w64 ((tg 80 T (0+y.from_.toNat * 2+0))+y.length)),(w64 ((tg 80 T (0+y.from_.toNat * 2+1))+(1:Int)))⟩:far)⟩:(Sl far))).length,(zcw (⟨(tg 80 T (0+y.to.toNat * 2+0)),(tg 80 T (0+y.to.toNat * 2+0+1))⟩:far) (⟨1,λ _=>(⟨(w64 ((tg 80 T (0+y.from_.toNat * 2+0))+y.length)),(w64 ((tg 80 T (0+y.from_.toNat * 2+1))+(1:Int)))⟩:far)⟩:(Sl far))).uses])) (S3 (!(sm (zcw (⟨(tg 80 T (0+y.to.toNat * 2+0)),(tg 80 T (0+y.to.toNat * 2+0+1))⟩:far) (⟨1,λ _=>(⟨(w64 ((tg 80 T (0+y.from_.toNat * 2+0))+y.length)),(w64 ((tg 80 T (0+y.from_.toNat * 2+1))+(1:Int)))⟩:far)⟩:(Sl far))).length (zcw (⟨(tg 80 T (0+y.to.toNat * 2+0)),(tg 80 T (0+y.to.toNat * 2+0+1))⟩:far) (⟨1,λ _=>(⟨(w64 ((tg 80 T (0+y.from_.toNat * 2+0))+y.length)),(w64 ((tg 80 T (0+y.from_.toNat * 2+1))+(1:Int)))⟩:far)⟩:(Sl far))).uses (tg 80 T (0+y.to.toNat * 2+0)) (tg 80 T (0+y.to.toNat * 2+0+1)))) T4 (ts 80 T (0+y.to.toNat * 2+0) [(zcw (⟨(tg 80 T (0+y.to.toNat * 2+0)),(tg 80 T (0+y.to.toNat * 2+0+1))⟩:far) (⟨1,λ _=>(⟨(w64 ((tg 80 T (0+y.from_.toNat * 2+0))+y.length)),(w64 ((tg 80 T (0+y.from_.toNat * 2+1))+(1:Int)))⟩:far)⟩:(Sl far))).length,(zcw (⟨(tg 80 T (0+y.to.toNat * 2+0)),(tg 80 T (0+y.to.toNat * 2+0+1))⟩:far) (⟨1,λ _=>(⟨(w64 ((tg 80 T (0+y.from_.toNat * 2+0))+y.length)),(w64 ((tg 80 T (0+y.from_.toNat * 2+1))+(1:Int)))⟩:far)⟩:(Sl far))).uses]))):=rfl
 have hP:zm9 P2 a y P3 c T4 T=(decide (0<=y.from_/\y.from_ < (40:Int)) && cond (nv (tg 80 T (0+y.from_.toNat * 2+0)) (tg 80 T (0+y.from_.toNat * 2+0+1))) (P3 c T4 T) (decide (0<=y.to/\y.to < (40:Int)) && (decide (0<=y.from_/\y.from_ < (40:Int)) && (decide (0<=y.from_/\y.from_ < (40:Int)) && (decide (zyJ (⟨(tg 80 T (0+y.to.toNat * 2+0)),(tg 80 T (0+y.to.toNat * 2+0+1))⟩:far) (⟨1,λ _=>(⟨(w64 ((tg 80 T (0+y.from_.toNat * 2+0))+y.length)),(w64 ((tg 80 T (0+y.from_.toNat * 2+1))+(1:Int)))⟩:far)⟩:(Sl far))=true) && cond c (decide (0<=y.to/\y.to < (40:Int)) && P3 true T4 (ts 80 T (0+y.to.toNat * 2+0) [(zcw (⟨(tg 80 T (0+y.to.toNat * 2+0)),(tg 80 T (0+y.to.toNat * 2+0+1))⟩:far) (⟨1,λ _=>(⟨(w64 ((tg 80 T (0+y.from_.toNat * 2+0))+y.length)),(w64 ((tg 80 T (0+y.from_.toNat * 2+1))+(1:Int)))⟩:far)⟩:(Sl far))).length,(zcw (⟨(tg 80 T (0+y.to.toNat * 2+0)),(tg 80 T (0+y.to.toNat * 2+0+1))⟩:far) (⟨1,λ _=>(⟨(w64 ((tg 80 T (0+y.from_.toNat * 2+0))+y.length)),(w64 ((tg 80 T (0+y.from_.toNat * 2+1))+(1:Int)))⟩:far)⟩:(Sl far))).uses])) (decide (0<=y.to/\y.to < (40:Int)) && (decide (0<=y.to/\y.to < (40:Int)) && P3 (!(sm (zcw (⟨(tg 80 T (0+y.to.toNat * 2+0)),(tg 80 T (0+y.to.toNat * 2+0+1))⟩:far) (⟨1,λ _=>(⟨(w64 ((tg 80 T (0+y.from_.toNat * 2+0))+y.length)),(w64 ((tg 80 T (0+y.from_.toNat * 2+1))+(1:Int)))⟩:far)⟩:(Sl far))).length (zcw (⟨(tg 80 T (0+y.to.toNat * 2+0)),(tg 80 T (0+y.to.toNat * 2+0+1))⟩:far) (⟨1,λ _=>(⟨(w64 ((tg 80 T (0+y.from_.toNat * 2+0))+y.length)),(w64 ((tg 80 T (0+y.from_.toNat * 2+1))+(1:Int)))⟩:far)⟩:(Sl far))).uses (tg 80 T (0+y.to.toNat * 2+0)) (tg 80 T (0+y.to.toNat * 2+0+1)))) T4 (ts 80 T (0+y.to.toNat * 2+0) [(zcw (⟨(tg 80 T (0+y.to.toNat * 2+0)),(tg 80 T (0+y.to.toNat * 2+0+1))⟩:far) (⟨1,λ _=>(⟨(w64 ((tg 80 T (0+y.from_.toNat * 2+0))+y.length)),(w64 ((tg 80 T (0+y.from_.toNat * 2+1))+(1:Int)))⟩:far)⟩:(Sl far))).length,(zcw (⟨(tg 80 T (0+y.to.toNat * 2+0)),(tg 80 T (0+y.to.toNat * 2+0+1))⟩:far) (⟨1,λ _=>(⟨(w64 ((tg 80 T (0+y.from_.toNat * 2+0))+y.length)),(w64 ((tg 80 T (0+y.from_.toNat * 2+1))+(1:Int)))⟩:far)⟩:(Sl far))).uses])))))))):=rfl
 rw[hS,hP]
 clear hS hP
 rw[e1,e2,e3,zdk (k:=y.from_.toNat * 2) (by omega),zdk (k:=y.from_.toNat * 2+1) (by omega),zdk (k:=y.to.toNat * 2) (by omega),zdk (k:=y.to.toNat * 2+1) (by omega)]
 rw[dqT (show 0<=y.from_/\y.from_ < (40:Int) by omega),dqT (show 0<=y.to/\y.to < (40:Int) by omega)]
 simp only[zno,same_eq]
 cases hdu:d y.from_.toNat with
 | none =>
  rw[hdu] at hu
  have hr:rlF (d,c) (edM (edS y))=(d,c):=by
   unfold rlF edM edS
   simp only[hdu]
  rw[hr,dqT (show (T (y.from_.toNat * 2),T (y.from_.toNat * 2+1))=((1000000000000:Int),(0:Int)) from hu)]
  exact⟨T,rfl,rfl,h1⟩
 | some x =>
  obtain⟨L,U,k1,k2,k3,k4,k5,k6⟩:=zjk hE hs hi hdu
  rw[hdu] at hu k1
  rw[k1] at hu
  have hL:T (y.from_.toNat * 2)=L:=(Prod.mk.inj hu).1
  have hU:T (y.from_.toNat * 2+1)=U:=(Prod.mk.inj hu).2
  rw[hL,hU,dqF (show ¬ (L,U)=((1000000000000:Int),(0:Int)) from λ h=>by have:=(Prod.mk.inj h).1;omega),zbt (x:=L+y.length) (by omega) (by omega),zbt (x:=U+(1:Int)) (by omega) (by omega)]
  rw[(zgc _ _).1,(zgc _ _).2,zq3]
  have hw:x+(edM (edS y)).w=(L+y.length) * 1048576+(U+1):=by
   show x+(y.length * 1048576+1)=_
   omega
  have hr:rlF (d,c) (edM (edS y))=cond (ltO ((L+y.length) * 1048576+(U+1)) (d y.to.toNat)) (zkV d y.to.toNat ((L+y.length) * 1048576+(U+1)),true) (d,c):=by
   rw[<- hw]
   unfold rlF edM edS
   simp only[hdu] <;> rfl
  have hlt:decide ((L+y.length < T (y.to.toNat * 2))\/(L+y.length=T (y.to.toNat * 2)/\U+1 < T (y.to.toNat * 2+1)))=ltO ((L+y.length) * 1048576+(U+1)) (d y.to.toNat):=by
   cases hdv:d y.to.toNat with
   | none =>
    rw[hdv] at hv
    have hv1:T (y.to.toNat * 2)=1000000000000:=(Prod.mk.inj hv).1
    rw[hv1]
    exact dqT (.inl (by omega))
   | some z =>
    obtain⟨L',U',m1,m2,m3,m4,m5,m6⟩:=zjk hE hs hi hdv
    rw[hdv] at hv m1
    rw[m1] at hv
    rw[(Prod.mk.inj hv).1,(Prod.mk.inj hv).2,m2]
    exact decide_eq_decide.2 (by omega)
  simp only[hlt]
  rw[hr] at hin ⊢
  have hrw:∀ T'',Rp N T d->T''=ts 80 T (y.to.toNat * 2) [T (y.to.toNat * 2),T (y.to.toNat * 2+1)]->Rp N T'' d:=λ T'' h e v hv'=>by
   rw[e,zcd (by omega),zcd (by omega),<- h v hv']
   by_cases hq:v=y.to.toNat
   ·subst hq
    rw[dqG (by omega),dqP rfl,dqP rfl]
   ·rw[dqG (by omega),dqG (by omega),dqG (by omega),dqG (by omega)]
  cases hlo:ltO ((L+y.length) * 1048576+(U+1)) (d y.to.toNat) with
  | false =>
   refine⟨ts 80 T (y.to.toNat * 2) [T (y.to.toNat * 2),T (y.to.toNat * 2+1)],?_,?_,hrw _ h1 rfl⟩
   ·simp only [dqB, decide_true]
    cases c <;> rfl
   ·simp only [dqB, Bool.true_and, decide_true]
    cases c <;> rfl
  | true =>
   rw[hlo] at hin
   simp only[dqA,dqB,Bool.true_and,decide_true] at hin ⊢
   refine⟨ts 80 T (y.to.toNat * 2) [L+y.length,U+1],?_,?_,?_⟩
   ·cases c
    ·rw [dqF]
     ·rfl
     ·intro h
      rw[<- hlt] at hlo
      have:=of_decide_eq_true hlo
      have h1':=(Prod.mk.inj h).1
      have h2':=(Prod.mk.inj h).2
      omega
    ·rfl
   ·cases c
    ·rw [dqF]
     ·rfl
     ·intro h
      rw[<- hlt] at hlo
      have:=of_decide_eq_true hlo
      have h1':=(Prod.mk.inj h).1
      have h2':=(Prod.mk.inj h).2
      omega
    ·rfl
   ·intro v hv'
    rw[zcd (by omega),zcd (by omega)]
    unfold zkV
    by_cases hq:v=y.to.toNat
    ·subst hq
     rw[dqG (by omega),dqP rfl,dqP rfl,dqP rfl]
     exact (zqX (by omega) (by omega)).symm
    ·rw [dqG (by omega), dqG (by omega), dqG (by omega), dqG (by omega), dqG hq]
     exact h1 v hv'
theorem zIp (a:web){N s:Nat}(E:List Ed) (hE:EdOk E N) (hn:zbu E) (hs:s < N) (S2:Bool->Tab->Tab->Tab) (P2:Bool->Tab->Tab->Bool):∀ (l:List step),(∀ y∈l,StOk y N/\edS y∈E)->∀ (c:Bool) (T4 T:Tab) (d:zbX),Rp N T d->Inv (E.map edM) (λ v=>v=s) d ->
  ∃ T',zna S2 a l c T4 T=S2 (((l.map edS).map edM).foldl rlF (d,c)).2 T4 T'/\znb P2 a l c T4 T=P2 (((l.map edS).map edM).foldl rlF (d,c)).2 T4 T'/\Rp N T' (((l.map edS).map edM).foldl rlF (d,c)).1:=by
 intro l
 induction l with
 | nil=>intro _ c T4 T d h1 _;exact⟨T,rfl,rfl,h1⟩
 | cons y l ih =>
  intro hl c T4 T d h1 h2
  obtain⟨hy,hm⟩:=hl y (dqj ..)
  obtain⟨T',k1,k2,k3⟩:=zIo a E hE hn hs S2 P2 y hy hm (zna S2 a l) (znb P2 a l) c T4 T d h1 h2
  have h3:=zkQ (Src:=λ v=>v=s) (zfO hn) (s:=(d,c)) (e:=edM (edS y)) (List.mem_map_of_mem hm) h2
  obtain⟨T'',m1,m2,m3⟩:=ih (λ z hz=>hl z (dqf _ hz)) (rlF (d,c) (edM (edS y))).2 T4 T' (rlF (d,c) (edM (edS y))).1 k3 h3
  exact⟨T'',Eq.trans k1 m1,Eq.trans k2 m2,m3⟩
theorem zAv (a:web) (hnet:NetOk a.Net) (E:List Ed) (hEe:E=(Ws a).map edS){s:Nat}(hE:EdOk E a.Net.Nodes.toNat) (hn:zbu E) (hs:s < a.Net.Nodes.toNat):∀ (m k:Nat) (T4 T:Tab) (d:zbX),Rp a.Net.Nodes.toNat T d->Inv (E.map edM) (λ v=>v=s) d->Fix (E.map edM) (rds (E.map edM) m d)->m+1 < k ->
  ∃ T',zfG a k true T4 T=true/\zfF a k true T4 T=T'/\Rp a.Net.Nodes.toNat T' (rds (E.map edM) m d):=by
 have hlen:=hnet.len
 obtain⟨q1,q2⟩:=zkS a (by omega)
 have hst:∀ y∈Ws a,StOk y a.Net.Nodes.toNat/\edS y∈E:=λ y hy=>⟨zyO hnet hy,by rw[hEe];exact List.mem_map_of_mem hy⟩
 have one:∀ (k:Nat) (T4 T:Tab) (d:zbX),Rp a.Net.Nodes.toNat T d->Inv (E.map edM) (λ v=>v=s) d ->
   ∃ T',zfF a (k+1) true T4 T=zfF a k ((E.map edM).foldl rlF (d,false)).2 T4 T'/\zfG a (k+1) true T4 T=zfG a k ((E.map edM).foldl rlF (d,false)).2 T4 T'/\Rp a.Net.Nodes.toNat T' (rnd (E.map edM) d):=by
  intro k T4 T d h1 h2
  obtain⟨T',k1,k2,k3⟩:=zIp a E hE hn hs (zfF a k) (zfG a k) (Ws a) hst false T4 T d h1 h2
  rw[<- hEe] at k1 k2 k3
  refine⟨T',?_,?_,k3⟩
  ·show znc a (zfF a k) true T4 T = _
   unfold znc zqr
   rw[dqA,q2];exact k1
  ·show znd a (zfG a k) true T4 T = _
   unfold znd zqs
   rw[dqA,q1,q2,dqT rfl,Bool.true_and];exact k2
 have stop:∀ (k:Nat) (T4 T:Tab),zfF a (k+1) false T4 T=T/\zfG a (k+1) false T4 T=true:=λ k T4 T=>⟨rfl,rfl⟩
 intro m
 induction m with
 | zero =>
  intro k T4 T d h1 h2 h3 hk
  obtain⟨k,rfl⟩:∃ k',k=k'+1+1:=⟨k - 2,by omega⟩
  obtain⟨T',k1,k2,k3⟩:=one (k+1) T4 T d h1 h2
  have h3':Fix (E.map edM) d:=h3
  rw[zji h3'] at k1 k2
  rw[zkO h3'] at k3
  obtain⟨j1,j2⟩:=stop k T4 T'
  exact⟨T',k2.trans j2,k1.trans j1,k3⟩
 | succ m ih =>
  intro k T4 T d h1 h2 h3 hk
  obtain⟨k,rfl⟩:∃ k',k=k'+1+1:=⟨k - 2,by omega⟩
  obtain⟨T',k1,k2,k3⟩:=one (k+1) T4 T d h1 h2
  cases hf:((E.map edM).foldl rlF (d,false)).2 with
  | false =>
   rw[hf] at k1 k2
   have hx:Fix (E.map edM) d:=ziz hf
   obtain⟨j1,j2⟩:=stop k T4 T'
   refine⟨T',k2.trans j2,k1.trans j1,?_⟩
   rw[zkO hx] at k3
   rw[zyi hx];exact k3
  | true =>
   rw[hf] at k1 k2
   obtain⟨T'',m1,m2,m3⟩:=ih (k+1) T4 T' (rnd (E.map edM) d) k3 (znk (zfO hn) (λ _ h=>h) (s:=(d,false)) h2) h3 (by omega)
   exact⟨T'',k2.trans m1,k1.trans m2,m3⟩
theorem zFj (a:web) (node:Int):∀ (m k i:Nat) (T4 T:Tab),(∀ v,v < i->T (v * 2)=1000000000000/\T (v * 2+1)=0)->i+m=40->m < k ->
  ∃ T',zij a node k (i:Int) T4 T=zne a node T4 T'/\zik a node k (i:Int) T4 T=znf a node T4 T'/\∀ v,v < 40->T' (v * 2)=1000000000000/\T' (v * 2+1)=0:=by
 intro m
 induction m with
 | zero =>
  intro k i T4 T h hi hk
  obtain⟨k,rfl⟩:∃ k',k=k'+1:=⟨k - 1,by omega⟩
  refine⟨T,?_,?_,λ v hv=>h v (by omega)⟩
  ·show zih a node (zij a node k) (i : Int) T4 T = _
   unfold zih
   rw[dqF (show ¬ (i:Int) < (40:Int) by omega),dqB]
  ·show zii a node (zik a node k) (i : Int) T4 T = _
   unfold zii
   rw[dqF (show ¬ (i:Int) < (40:Int) by omega),dqB]
 | succ m ih =>
  intro k i T4 T h hi hk
  obtain⟨k,rfl⟩:∃ k',k=k'+1:=⟨k - 1,by omega⟩
  have hw:w64 ((i:Int)+(1:Int))=((i+1:Nat):Int):=by rw[zbt (by omega) (by omega)];omega
  obtain⟨T',k1,k2,k3⟩:=ih k (i+1) T4 (ts 80 T (i * 2) [(1000000000000:Int),(0:Int)]) (λ v hv=>by
   rw[zcd (by omega),zcd (by omega)]
   by_cases hq:v=i
   ·subst hq
    rw[dqG (by omega),dqP rfl,dqP rfl];exact⟨rfl,rfl⟩
   ·rw[dqG (by omega),dqG (by omega),dqG (by omega),dqG (by omega)];exact h v (by omega)) (by omega) (by omega)
  refine⟨T',?_,?_,k3⟩
  ·rw [← k1]
   show zih a node (zij a node k) (i:Int) T4 T=_
   unfold zih
   rw[dqT (show (i:Int) < (40:Int) by omega),dqA,hw,dqN,show 0+i * 2+0=i * 2 by omega]
  ·rw [← k2]
   show zii a node (zik a node k) (i:Int) T4 T=_
   unfold zii
   rw[dqT (show (i:Int) < (40:Int) by omega),dqA,dqT (show 0<=(i:Int)/\(i:Int) < (40:Int) by omega),Bool.true_and,hw,dqN,show 0+i * 2+0=i * 2 by omega]
theorem zIq (a : web) (hnet : NetOk a.Net) (hn : zbu (We a)) (node : Int) (h0 : 0 ≤ node) (h1 : node < a.Net.Nodes) :
  p76 a node=true/\Rp a.Net.Nodes.toNat (s76 a node) (dst (We a) a.Net.Nodes.toNat node.toNat):=by
 have hn40:=hnet.n40
 have hEe:We a=(Ws a).map edS:=rfl
 have hE:EdOk (We a) a.Net.Nodes.toNat:=zBP hnet
 have hN:zbu (We a):=hn
 have hs:node.toNat < a.Net.Nodes.toNat:=by omega
 obtain⟨T1,a1,a2,a3⟩:=zFj a node 40 Fuel 0 (λ _=>(0:Int)) (λ _=>(0:Int)) (λ v hv=>absurd hv (dqW _)) rfl (by simp only[Fuel];omega)
 have hr:Rp a.Net.Nodes.toNat (ts 80 T1 (node.toNat * 2) [(0:Int),(0:Int)]) (zoQ node.toNat):=λ v hv=>by
  rw[zcd (by omega),zcd (by omega)]
  unfold zoQ
  by_cases hq:v=node.toNat
  ·subst hq
   rw[dqG (by omega),dqP rfl,dqP rfl,dqP rfl];rfl
  ·rw[dqG (by omega),dqG (by omega),dqG (by omega),dqG (by omega),dqG hq,(a3 v (by omega)).1,(a3 v (by omega)).2];rfl
 obtain⟨T2,b1,b2,b3⟩:=zAv a hnet (We a) hEe hE hN hs (a.Net.Nodes.toNat - 1) Fuel (λ _=>(0:Int)) (ts 80 T1 (node.toNat * 2) [(0:Int),(0:Int)]) (zoQ node.toNat) hr (zho (zgb node.toNat)) (zqY hE hN hs) (by simp only[Fuel];omega)
 have e:0+node.toNat * 2+0=node.toNat * 2:=by omega
 constructor
 ·show zik a node Fuel 0 (fun _ => (0:Int)) (fun _ => (0:Int)) = true
  refine Eq.trans a2 ?_
  unfold znf zqv
  rw[dqT (show 0<=node/\node < (40:Int) by omega),Bool.true_and,e];exact b1
 ·have:s76 a node=T2:=by
   show zij a node Fuel 0 (λ _=>(0:Int)) (λ _=>(0:Int))=T2
   refine Eq.trans a1 ?_
   unfold zne zqu
   rw[e];exact b2
  rw[this];exact b3
end Go.Proofs
namespace Go.Proofs
open Go Go.Pm
set_option maxRecDepth 100000
set_option linter.unusedVariables false
def edQ (y:step):Ed:=⟨y.to.toNat,y.from_.toNat,y.length⟩
theorem zFk (l:List step):l.map edQ=(l.map edS).map edR:=by rw[List.map_map];rfl

theorem zIr (a : web) {N s : Nat} (E : List Ed) (hE : EdOk E N) (hn : zbu E) (hs : s < N) (S2 : Bool → Tab → Tab → Tab) (P2 : Bool → Tab → Tab → Bool) (y : step) (hy : StOk y N) (hm : edQ y ∈ E) (S3 : Bool → Tab → Tab → Tab) (P3 : Bool → Tab → Tab → Bool) (c : Bool) (T4 T : Tab) (d : zbX) (h1 : Rp N T d) (hi : Inv (E.map edM) (fun v => v = s) d) :
  ∃ T',zm0 S2 a y S3 c T4 T=S3 (rlF (d,c) (edM (edQ y))).2 T4 T'/\zm1 P2 a y P3 c T4 T=P3 (rlF (d,c) (edM (edQ y))).2 T4 T'/\Rp N T' (rlF (d,c) (edM (edQ y))).1:=by
 have hN:=hE.n40
 have f0:=hy.f0;have f1:=hy.f1;have t0:=hy.t0;have t1:=hy.t1;have l0:=hy.l0;have l1:=hy.l1
 have hu:=h1 y.to.toNat (by omega)
 have hv:=h1 y.from_.toNat (by omega)
 have e1:0+y.to.toNat * 2+0=y.to.toNat * 2:=by omega
 have e2:0+y.from_.toNat * 2+0=y.from_.toNat * 2:=by omega
 have e3:0+y.to.toNat * 2+1=y.to.toNat * 2+1:=by omega
 have hin:=zkQ (Src:=λ v=>v=s) (zfO hn) (s:=(d,c)) (e:=edM (edQ y)) (List.mem_map_of_mem hm) hi
 have hS:zm0 S2 a y S3 c T4 T=cond (nv (tg 80 T (0+y.to.toNat * 2+0)) (tg 80 T (0+y.to.toNat * 2+0+1))) (S3 c T4 T) (cond c (S3 true T4 (ts 80 T (0+y.from_.toNat * 2+0) [(zcw (⟨(tg 80 T (0+y.from_.toNat * 2+0)),(tg 80 T (0+y.from_.toNat * 2+0+1))⟩:far) (⟨1,λ _=>(⟨(w64 ((tg 80 T (0+y.to.toNat * 2+0))+y.length)),(w64 ((tg 80 T (0+y.to.toNat * 2+1))+(1:Int)))⟩:far)⟩:(Sl far))).length,(zcw (⟨(tg 80 T (0+y.from_.toNat * 2+0)),(tg 80 T (0+y.from_.toNat * 2+0+1))⟩:far) (⟨1,λ _=>(⟨(w64 ((tg 80 T (0+y.to.toNat * 2+0))+y.length)),(w64 ((tg 80 T (0+y.to.toNat * 2+1))+(1:Int)))⟩:far)⟩:(Sl far))).uses])) (S3 (!(sm (zcw (⟨(tg 80 T (0+y.from_.toNat * 2+0)),(tg 80 T (0+y.from_.toNat * 2+0+1))⟩:far) (⟨1,λ _=>(⟨(w64 ((tg 80 T (0+y.to.toNat * 2+0))+y.length)),(w64 ((tg 80 T (0+y.to.toNat * 2+1))+(1:Int)))⟩:far)⟩:(Sl far))).length (zcw (⟨(tg 80 T (0+y.from_.toNat * 2+0)),(tg 80 T (0+y.from_.toNat * 2+0+1))⟩:far) (⟨1,λ _=>(⟨(w64 ((tg 80 T (0+y.to.toNat * 2+0))+y.length)),(w64 ((tg 80 T (0+y.to.toNat * 2+1))+(1:Int)))⟩:far)⟩:(Sl far))).uses (tg 80 T (0+y.from_.toNat * 2+0)) (tg 80 T (0+y.from_.toNat * 2+0+1)))) T4 (ts 80 T (0+y.from_.toNat * 2+0) [(zcw (⟨(tg 80 T (0+y.from_.toNat * 2+0)),(tg 80 T (0+y.from_.toNat * 2+0+1))⟩:far) (⟨1,λ _=>(⟨(w64 ((tg 80 T (0+y.to.toNat * 2+0))+y.length)),(w64 ((tg 80 T (0+y.to.toNat * 2+1))+(1:Int)))⟩:far)⟩:(Sl far))).length,(zcw (⟨(tg 80 T (0+y.from_.toNat * 2+0)),(tg 80 T (0+y.from_.toNat * 2+0+1))⟩:far) (⟨1,λ _=>(⟨(w64 ((tg 80 T (0+y.to.toNat * 2+0))+y.length)),(w64 ((tg 80 T (0+y.to.toNat * 2+1))+(1:Int)))⟩:far)⟩:(Sl far))).uses]))):=rfl
 have hP:zm1 P2 a y P3 c T4 T=(decide (0<=y.to/\y.to < (40:Int)) && cond (nv (tg 80 T (0+y.to.toNat * 2+0)) (tg 80 T (0+y.to.toNat * 2+0+1))) (P3 c T4 T) (decide (0<=y.from_/\y.from_ < (40:Int)) && (decide (0<=y.to/\y.to < (40:Int)) && (decide (0<=y.to/\y.to < (40:Int)) && (decide (zyJ (⟨(tg 80 T (0+y.from_.toNat * 2+0)),(tg 80 T (0+y.from_.toNat * 2+0+1))⟩:far) (⟨1,λ _=>(⟨(w64 ((tg 80 T (0+y.to.toNat * 2+0))+y.length)),(w64 ((tg 80 T (0+y.to.toNat * 2+1))+(1:Int)))⟩:far)⟩:(Sl far))=true) && cond c (decide (0<=y.from_/\y.from_ < (40:Int)) && P3 true T4 (ts 80 T (0+y.from_.toNat * 2+0) [(zcw (⟨(tg 80 T (0+y.from_.toNat * 2+0)),(tg 80 T (0+y.from_.toNat * 2+0+1))⟩:far) (⟨1,λ _=>(⟨(w64 ((tg 80 T (0+y.to.toNat * 2+0))+y.length)),(w64 ((tg 80 T (0+y.to.toNat * 2+1))+(1:Int)))⟩:far)⟩:(Sl far))).length,(zcw (⟨(tg 80 T (0+y.from_.toNat * 2+0)),(tg 80 T (0+y.from_.toNat * 2+0+1))⟩:far) (⟨1,λ _=>(⟨(w64 ((tg 80 T (0+y.to.toNat * 2+0))+y.length)),(w64 ((tg 80 T (0+y.to.toNat * 2+1))+(1:Int)))⟩:far)⟩:(Sl far))).uses])) (decide (0<=y.from_/\y.from_ < (40:Int)) && (decide (0<=y.from_/\y.from_ < (40:Int)) && P3 (!(sm (zcw (⟨(tg 80 T (0+y.from_.toNat * 2+0)),(tg 80 T (0+y.from_.toNat * 2+0+1))⟩:far) (⟨1,λ _=>(⟨(w64 ((tg 80 T (0+y.to.toNat * 2+0))+y.length)),(w64 ((tg 80 T (0+y.to.toNat * 2+1))+(1:Int)))⟩:far)⟩:(Sl far))).length (zcw (⟨(tg 80 T (0+y.from_.toNat * 2+0)),(tg 80 T (0+y.from_.toNat * 2+0+1))⟩:far) (⟨1,λ _=>(⟨(w64 ((tg 80 T (0+y.to.toNat * 2+0))+y.length)),(w64 ((tg 80 T (0+y.to.toNat * 2+1))+(1:Int)))⟩:far)⟩:(Sl far))).uses (tg 80 T (0+y.from_.toNat * 2+0)) (tg 80 T (0+y.from_.toNat * 2+0+1)))) T4 (ts 80 T (0+y.from_.toNat * 2+0) [(zcw (⟨(tg 80 T (0+y.from_.toNat * 2+0)),(tg 80 T (0+y.from_.toNat * 2+0+1))⟩:far) (⟨1,λ _=>(⟨(w64 ((tg 80 T (0+y.to.toNat * 2+0))+y.length)),(w64 ((tg 80 T (0+y.to.toNat * 2+1))+(1:Int)))⟩:far)⟩:(Sl far))).length,(zcw (⟨(tg 80 T (0+y.from_.toNat * 2+0)),(tg 80 T (0+y.from_.toNat * 2+0+1))⟩:far) (⟨1,λ _=>(⟨(w64 ((tg 80 T (0+y.to.toNat * 2+0))+y.length)),(w64 ((tg 80 T (0+y.to.toNat * 2+1))+(1:Int)))⟩:far)⟩:(Sl far))).uses])))))))):=rfl
 rw[hS,hP]
 clear hS hP
 rw[e1,e2,e3,zdk (k:=y.to.toNat * 2) (by omega),zdk (k:=y.to.toNat * 2+1) (by omega),zdk (k:=y.from_.toNat * 2) (by omega),zdk (k:=y.from_.toNat * 2+1) (by omega)]
 rw[dqT (show 0<=y.to/\y.to < (40:Int) by omega),dqT (show 0<=y.from_/\y.from_ < (40:Int) by omega)]
 simp only[zno,same_eq]
 cases hdu:d y.to.toNat with
 | none =>
  rw[hdu] at hu
  have hr:rlF (d,c) (edM (edQ y))=(d,c):=by
   unfold rlF edM edQ
   simp only[hdu]
  rw[hr,dqT (show (T (y.to.toNat * 2),T (y.to.toNat * 2+1))=((1000000000000:Int),(0:Int)) from hu)]
  exact⟨T,rfl,rfl,h1⟩
 | some x =>
  obtain⟨L,U,k1,k2,k3,k4,k5,k6⟩:=zjk hE hs hi hdu
  rw[hdu] at hu k1
  rw[k1] at hu
  have hL:T (y.to.toNat * 2)=L:=(Prod.mk.inj hu).1
  have hU:T (y.to.toNat * 2+1)=U:=(Prod.mk.inj hu).2
  rw[hL,hU,dqF (show ¬ (L,U)=((1000000000000:Int),(0:Int)) from λ h=>by have:=(Prod.mk.inj h).1;omega),zbt (x:=L+y.length) (by omega) (by omega),zbt (x:=U+(1:Int)) (by omega) (by omega)]
  rw[(zgc _ _).1,(zgc _ _).2,zq3]
  have hw:x+(edM (edQ y)).w=(L+y.length) * 1048576+(U+1):=by
   show x+(y.length * 1048576+1)=_
   omega
  have hr:rlF (d,c) (edM (edQ y))=cond (ltO ((L+y.length) * 1048576+(U+1)) (d y.from_.toNat)) (zkV d y.from_.toNat ((L+y.length) * 1048576+(U+1)),true) (d,c):=by
   rw[<- hw]
   unfold rlF edM edQ
   simp only[hdu] <;> rfl
  have hlt:decide ((L+y.length < T (y.from_.toNat * 2))\/(L+y.length=T (y.from_.toNat * 2)/\U+1 < T (y.from_.toNat * 2+1)))=ltO ((L+y.length) * 1048576+(U+1)) (d y.from_.toNat):=by
   cases hdv:d y.from_.toNat with
   | none =>
    rw[hdv] at hv
    have hv1:T (y.from_.toNat * 2)=1000000000000:=(Prod.mk.inj hv).1
    rw[hv1]
    exact dqT (.inl (by omega))
   | some z =>
    obtain⟨L',U',m1,m2,m3,m4,m5,m6⟩:=zjk hE hs hi hdv
    rw[hdv] at hv m1
    rw[m1] at hv
    rw[(Prod.mk.inj hv).1,(Prod.mk.inj hv).2,m2]
    exact decide_eq_decide.2 (by omega)
  simp only[hlt]
  rw[hr] at hin ⊢
  have hrw:∀ T'',Rp N T d->T''=ts 80 T (y.from_.toNat * 2) [T (y.from_.toNat * 2),T (y.from_.toNat * 2+1)]->Rp N T'' d:=λ T'' h e v hv'=>by
   rw[e,zcd (by omega),zcd (by omega),<- h v hv']
   by_cases hq:v=y.from_.toNat
   ·subst hq
    rw[dqG (by omega),dqP rfl,dqP rfl]
   ·rw[dqG (by omega),dqG (by omega),dqG (by omega),dqG (by omega)]
  cases hlo:ltO ((L+y.length) * 1048576+(U+1)) (d y.from_.toNat) with
  | false =>
   refine⟨ts 80 T (y.from_.toNat * 2) [T (y.from_.toNat * 2),T (y.from_.toNat * 2+1)],?_,?_,hrw _ h1 rfl⟩
   ·simp only [dqB, decide_true]
    cases c <;> rfl
   ·simp only [dqB, Bool.true_and, decide_true]
    cases c <;> rfl
  | true =>
   rw[hlo] at hin
   simp only[dqA,dqB,Bool.true_and,decide_true] at hin ⊢
   refine⟨ts 80 T (y.from_.toNat * 2) [L+y.length,U+1],?_,?_,?_⟩
   ·cases c
    ·rw [dqF]
     ·rfl
     ·intro h
      rw[<- hlt] at hlo
      have:=of_decide_eq_true hlo
      have h1':=(Prod.mk.inj h).1
      have h2':=(Prod.mk.inj h).2
      omega
    ·rfl
   ·cases c
    ·rw [dqF]
     ·rfl
     ·intro h
      rw[<- hlt] at hlo
      have:=of_decide_eq_true hlo
      have h1':=(Prod.mk.inj h).1
      have h2':=(Prod.mk.inj h).2
      omega
    ·rfl
   ·intro v hv'
    rw[zcd (by omega),zcd (by omega)]
    unfold zkV
    by_cases hq:v=y.from_.toNat
    ·subst hq
     rw[dqG (by omega),dqP rfl,dqP rfl,dqP rfl]
     exact (zqX (by omega) (by omega)).symm
    ·rw [dqG (by omega), dqG (by omega), dqG (by omega), dqG (by omega), dqG hq]
     exact h1 v hv'
theorem zIs (a:web){N s:Nat}(E:List Ed) (hE:EdOk E N) (hn:zbu E) (hs:s < N) (S2:Bool->Tab->Tab->Tab) (P2:Bool->Tab->Tab->Bool):∀ (l:List step),(∀ y∈l,StOk y N/\edQ y∈E)->∀ (c:Bool) (T4 T:Tab) (d:zbX),Rp N T d->Inv (E.map edM) (λ v=>v=s) d ->
  ∃ T',zm2 S2 a l c T4 T=S2 (((l.map edQ).map edM).foldl rlF (d,c)).2 T4 T'/\zm3 P2 a l c T4 T=P2 (((l.map edQ).map edM).foldl rlF (d,c)).2 T4 T'/\Rp N T' (((l.map edQ).map edM).foldl rlF (d,c)).1:=by
 intro l
 induction l with
 | nil=>intro _ c T4 T d h1 _;exact⟨T,rfl,rfl,h1⟩
 | cons y l ih =>
  intro hl c T4 T d h1 h2
  obtain⟨hy,hm⟩:=hl y (dqj ..)
  obtain⟨T',k1,k2,k3⟩:=zIr a E hE hn hs S2 P2 y hy hm (zm2 S2 a l) (zm3 P2 a l) c T4 T d h1 h2
  have h3:=zkQ (Src:=λ v=>v=s) (zfO hn) (s:=(d,c)) (e:=edM (edQ y)) (List.mem_map_of_mem hm) h2
  obtain⟨T'',m1,m2,m3⟩:=ih (λ z hz=>hl z (dqf _ hz)) (rlF (d,c) (edM (edQ y))).2 T4 T' (rlF (d,c) (edM (edQ y))).1 k3 h3
  exact⟨T'',Eq.trans k1 m1,Eq.trans k2 m2,m3⟩
theorem zAw (a:web) (hnet:NetOk a.Net) (E:List Ed) (hEe:E=(Ws a).map edQ){s:Nat}(hE:EdOk E a.Net.Nodes.toNat) (hn:zbu E) (hs:s < a.Net.Nodes.toNat):∀ (m k:Nat) (T4 T:Tab) (d:zbX),Rp a.Net.Nodes.toNat T d->Inv (E.map edM) (λ v=>v=s) d->Fix (E.map edM) (rds (E.map edM) m d)->m+1 < k ->
  ∃ T',zfE a k true T4 T=true/\zfD a k true T4 T=T'/\Rp a.Net.Nodes.toNat T' (rds (E.map edM) m d):=by
 have hlen:=hnet.len
 obtain⟨q1,q2⟩:=zkS a (by omega)
 have hst:∀ y∈Ws a,StOk y a.Net.Nodes.toNat/\edQ y∈E:=λ y hy=>⟨zyO hnet hy,by rw[hEe];exact List.mem_map_of_mem hy⟩
 have one:∀ (k:Nat) (T4 T:Tab) (d:zbX),Rp a.Net.Nodes.toNat T d->Inv (E.map edM) (λ v=>v=s) d ->
   ∃ T',zfD a (k+1) true T4 T=zfD a k ((E.map edM).foldl rlF (d,false)).2 T4 T'/\zfE a (k+1) true T4 T=zfE a k ((E.map edM).foldl rlF (d,false)).2 T4 T'/\Rp a.Net.Nodes.toNat T' (rnd (E.map edM) d):=by
  intro k T4 T d h1 h2
  obtain⟨T',k1,k2,k3⟩:=zIs a E hE hn hs (zfD a k) (zfE a k) (Ws a) hst false T4 T d h1 h2
  rw[<- hEe] at k1 k2 k3
  refine⟨T',?_,?_,k3⟩
  ·show zm4 a (zfD a k) true T4 T = _
   unfold zm4 zqn
   rw[dqA,q2];exact k1
  ·show zm5 a (zfE a k) true T4 T = _
   unfold zm5 zqo
   rw[dqA,q1,q2,dqT rfl,Bool.true_and];exact k2
 have stop:∀ (k:Nat) (T4 T:Tab),zfD a (k+1) false T4 T=T/\zfE a (k+1) false T4 T=true:=λ k T4 T=>⟨rfl,rfl⟩
 intro m
 induction m with
 | zero =>
  intro k T4 T d h1 h2 h3 hk
  obtain⟨k,rfl⟩:∃ k',k=k'+1+1:=⟨k - 2,by omega⟩
  obtain⟨T',k1,k2,k3⟩:=one (k+1) T4 T d h1 h2
  have h3':Fix (E.map edM) d:=h3
  rw[zji h3'] at k1 k2
  rw[zkO h3'] at k3
  obtain⟨j1,j2⟩:=stop k T4 T'
  exact⟨T',k2.trans j2,k1.trans j1,k3⟩
 | succ m ih =>
  intro k T4 T d h1 h2 h3 hk
  obtain⟨k,rfl⟩:∃ k',k=k'+1+1:=⟨k - 2,by omega⟩
  obtain⟨T',k1,k2,k3⟩:=one (k+1) T4 T d h1 h2
  cases hf:((E.map edM).foldl rlF (d,false)).2 with
  | false =>
   rw[hf] at k1 k2
   have hx:Fix (E.map edM) d:=ziz hf
   obtain⟨j1,j2⟩:=stop k T4 T'
   refine⟨T',k2.trans j2,k1.trans j1,?_⟩
   rw[zkO hx] at k3
   rw[zyi hx];exact k3
  | true =>
   rw[hf] at k1 k2
   obtain⟨T'',m1,m2,m3⟩:=ih (k+1) T4 T' (rnd (E.map edM) d) k3 (znk (zfO hn) (λ _ h=>h) (s:=(d,false)) h2) h3 (by omega)
   exact⟨T'',k2.trans m1,k1.trans m2,m3⟩
theorem zFl (a:web) (node:Int):∀ (m k i:Nat) (T4 T:Tab),(∀ v,v < i->T (v * 2)=1000000000000/\T (v * 2+1)=0)->i+m=40->m < k ->
  ∃ T',zie a node k (i:Int) T4 T=zm6 a node T4 T'/\zif a node k (i:Int) T4 T=zm7 a node T4 T'/\∀ v,v < 40->T' (v * 2)=1000000000000/\T' (v * 2+1)=0:=by
 intro m
 induction m with
 | zero =>
  intro k i T4 T h hi hk
  obtain⟨k,rfl⟩:∃ k',k=k'+1:=⟨k - 1,by omega⟩
  refine⟨T,?_,?_,λ v hv=>h v (by omega)⟩
  ·show zic a node (zie a node k) (i : Int) T4 T = _
   unfold zic
   rw[dqF (show ¬ (i:Int) < (40:Int) by omega),dqB]
  ·show zid a node (zif a node k) (i : Int) T4 T = _
   unfold zid
   rw[dqF (show ¬ (i:Int) < (40:Int) by omega),dqB]
 | succ m ih =>
  intro k i T4 T h hi hk
  obtain⟨k,rfl⟩:∃ k',k=k'+1:=⟨k - 1,by omega⟩
  have hw:w64 ((i:Int)+(1:Int))=((i+1:Nat):Int):=by rw[zbt (by omega) (by omega)];omega
  obtain⟨T',k1,k2,k3⟩:=ih k (i+1) T4 (ts 80 T (i * 2) [(1000000000000:Int),(0:Int)]) (λ v hv=>by
   rw[zcd (by omega),zcd (by omega)]
   by_cases hq:v=i
   ·subst hq
    rw[dqG (by omega),dqP rfl,dqP rfl];exact⟨rfl,rfl⟩
   ·rw[dqG (by omega),dqG (by omega),dqG (by omega),dqG (by omega)];exact h v (by omega)) (by omega) (by omega)
  refine⟨T',?_,?_,k3⟩
  ·rw [← k1]
   show zic a node (zie a node k) (i:Int) T4 T=_
   unfold zic
   rw[dqT (show (i:Int) < (40:Int) by omega),dqA,hw,dqN,show 0+i * 2+0=i * 2 by omega]
  ·rw [← k2]
   show zid a node (zif a node k) (i:Int) T4 T=_
   unfold zid
   rw[dqT (show (i:Int) < (40:Int) by omega),dqA,dqT (show 0<=(i:Int)/\(i:Int) < (40:Int) by omega),Bool.true_and,hw,dqN,show 0+i * 2+0=i * 2 by omega]
theorem zIt (a : web) (hnet : NetOk a.Net) (hn : zbu (We a)) (node : Int) (h0 : 0 ≤ node) (h1 : node < a.Net.Nodes) :
  p75 a node=true/\Rp a.Net.Nodes.toNat (s75 a node) (dst ((We a).map edR) a.Net.Nodes.toNat node.toNat):=by
 have hn40:=hnet.n40
 have hEe:((We a).map edR)=(Ws a).map edQ:=(zFk (Ws a)).symm
 have hE:EdOk ((We a).map edR) a.Net.Nodes.toNat:=(zBP hnet).R
 have hN:zbu ((We a).map edR):=znl hn
 have hs:node.toNat < a.Net.Nodes.toNat:=by omega
 obtain⟨T1,a1,a2,a3⟩:=zFl a node 40 Fuel 0 (λ _=>(0:Int)) (λ _=>(0:Int)) (λ v hv=>absurd hv (dqW _)) rfl (by simp only[Fuel];omega)
 have hr:Rp a.Net.Nodes.toNat (ts 80 T1 (node.toNat * 2) [(0:Int),(0:Int)]) (zoQ node.toNat):=λ v hv=>by
  rw[zcd (by omega),zcd (by omega)]
  unfold zoQ
  by_cases hq:v=node.toNat
  ·subst hq
   rw[dqG (by omega),dqP rfl,dqP rfl,dqP rfl];rfl
  ·rw[dqG (by omega),dqG (by omega),dqG (by omega),dqG (by omega),dqG hq,(a3 v (by omega)).1,(a3 v (by omega)).2];rfl
 obtain⟨T2,b1,b2,b3⟩:=zAw a hnet ((We a).map edR) hEe hE hN hs (a.Net.Nodes.toNat - 1) Fuel (λ _=>(0:Int)) (ts 80 T1 (node.toNat * 2) [(0:Int),(0:Int)]) (zoQ node.toNat) hr (zho (zgb node.toNat)) (zqY hE hN hs) (by simp only[Fuel];omega)
 have e:0+node.toNat * 2+0=node.toNat * 2:=by omega
 constructor
 ·show zif a node Fuel 0 (fun _ => (0:Int)) (fun _ => (0:Int)) = true
  refine Eq.trans a2 ?_
  unfold zm7 zqq
  rw[dqT (show 0<=node/\node < (40:Int) by omega),Bool.true_and,e];exact b1
 ·have:s75 a node=T2:=by
   show zie a node Fuel 0 (λ _=>(0:Int)) (λ _=>(0:Int))=T2
   refine Eq.trans a1 ?_
   unfold zm6 zqp
   rw[e];exact b2
  rw[this];exact b3
end Go.Proofs
namespace Go.Proofs
open Go Go.Pm
set_option maxRecDepth 100000
set_option linter.unusedVariables false
attribute [local irreducible] Go.Pm.vcFun Go.Pm.vc Go.Pm.vcIter
end Go.Proofs
namespace Go.Proofs
open Go Go.Pm
set_option maxRecDepth 100000
set_option linter.unusedVariables false
def W (n:Net):web:=⟨n,⟨0,λ _=>none⟩⟩
abbrev En (n:Net):List Ed:=We (W n)
def fr (n:Net) (i j:Nat):Int:=zsx (dst (En n) n.Nodes.toNat i j)
theorem zIu {E:List Ed}{n s v:Nat}(hE:EdOk E n) (hn:zbu E) (hs:s < n) (hv:v < n):zsx (dst (E.map edR) n s v)=zsx (dst E n v s):=by
 refine Int.le_antisymm ?_ ?_
 ·rcases zc0 (v := s) hE hn hv with ⟨_, h⟩ | ⟨c, _, h1, h2, _⟩
  ·rw [h]
   rcases zc0 (v:=v) hE.R (znl hn) hs with ⟨_,h⟩ | ⟨c,_,_,h2,_,_,_⟩ <;> omega
  ·rw[h2,<- zK5 c];exact zqZ hE.R (znl hn) hs (zK6 h1)
 ·rcases zc0 (v := v) hE.R (znl hn) hs with ⟨_, h⟩ | ⟨c, _, h1, h2, _⟩
  ·rw [h]
   rcases zc0 (v:=s) hE hn hv with ⟨_,h⟩ | ⟨c,_,_,h2,_,_,_⟩ <;> omega
  ·obtain ⟨c0, k1, k2, _⟩ := zFf h1
   rw[h2,<- k2];exact zqZ hE hn hv k1
theorem zsz {n:Net}(hn:NetOk n) (hN:zbu (En n)) {i j:Nat}(hi:i < n.Nodes.toNat) : -1000000000000<=fr n i j/\fr n i j<=1000000000000:=by
 have hE:EdOk (En n) n.Nodes.toNat:=zBP (a:=W n) hn
 unfold fr
 rcases zc0 (v:=j) hE hN hi with ⟨_,h⟩ | ⟨c,_,_,h2,_,h3,h4⟩
 ·rw[h];omega
 ·rw[h2];omega
theorem zsA (n:Net) (nodes:Sl Int) (hl:nodes.len<=1000) (ht:n.Ties.len<=210):p74 n nodes=true /\
    (s67 n=false->s74 n nodes=(default,2)) /\
    (NetOk n->(¬ ∀ i,i < nodes.len->0<=nodes.get i/\nodes.get i < n.Nodes)->s74 n nodes=(default,2)) /\
    (NetOk n->(∀ i,i < nodes.len->0<=nodes.get i/\nodes.get i < n.Nodes)->¬ zbu (En n)->s74 n nodes=(default,5)) /\
    (NetOk n->(∀ i,i < nodes.len->0<=nodes.get i/\nodes.get i < n.Nodes)->zbu (En n)->s74 n nodes=(W n,0)):=by
  obtain⟨a1,a2⟩:=zqW n (by omega)
  unfold p74 s74
  rw[a1,dqT (show true=true from rfl),Bool.true_and]
  by_cases hs:s67 n=true
  · have hn := a2.1 hs
    have hn1:=hn.n1;have hn40:=hn.n40
    obtain⟨t1,_⟩:=zq2 (W n) hn
    rw[hs]
    have hg:∀ i,i < nodes.len->(s81 (nodes.get i) (0:Int) (w64 (n.Nodes - (1:Int)))=true↔0<=nodes.get i/\nodes.get i < n.Nodes):=λ i _=>by
      rw[zoH,decide_eq_true_eq,zbt (by omega) (by omega)];omega
    have hloop := zyb (good := fun i => s81 (nodes.get i) (0:Int) (w64 (n.Nodes - (1:Int)))) (bad := ((default : web), (2:Int))) (fin := zqe n (s88 (W n))) (zBG := true) (n := nodes.len) (lpS := zia n nodes) (lpP := zib n nodes)
      (λ k i hi=>by
        show zh8 n nodes (zia n nodes k) (i:Int)=_
        generalize zia n nodes k=S
        unfold zh8 zqf
        rw[dqT (show (i:Int) < (nodes.len:Int) by omega),dqA,dqN]
        cases s81 (nodes.get i) (0:Int) (w64 (n.Nodes - (1:Int))) <;> rfl)
      (λ k=>by
        show zh8 n nodes (zia n nodes k) (nodes.len:Int)=_
        unfold zh8
        rw[dqF (show ¬ (nodes.len:Int) < (nodes.len:Int) by omega),dqB];rfl)
      (λ k i hi=>by
        show zh9 n nodes (zib n nodes k) (i:Int)=_
        generalize zib n nodes k=S
        unfold zh9 zqg
        rw[dqT (show (i:Int) < (nodes.len:Int) by omega),dqA,dqN,dqT (show 0<=(i:Int)/\(i:Int) < (nodes.len:Int) by omega),Bool.true_and]
        cases s81 (nodes.get i) (0:Int) (w64 (n.Nodes - (1:Int))) <;> rfl)
      (λ k=>by
        show zh9 n nodes (zib n nodes k) (nodes.len:Int)=_
        unfold zh9
        rw[dqF (show ¬ (nodes.len:Int) < (nodes.len:Int) by omega),dqB,show p88 (⟨n,(⟨0,(λ _=>none)⟩:Mp)⟩:web)=true from t1];rfl)
      (by omega)
    unfold zqm zql zqk zqj zqi zqh
    by_cases hr:∀ i,i < nodes.len->0<=nodes.get i/\nodes.get i < n.Nodes
    · obtain ⟨l1, l2⟩ := hloop.1 (fun i hi => (hg i hi).2 (hr i hi))
      rw[l1,l2]
      refine⟨rfl,λ h=>(by cases h),λ _ h=>absurd hr h,λ _ _ h=>?_,λ _ _ h=>?_⟩
      · have:s88 (W n)=true:=by
          cases ht:s88 (W n)
          · exact absurd ((znn (W n) hn).1 ht) h
          · rfl
        rw[this];rfl
      · rw[(znn (W n) hn).2 h];rfl
    · obtain ⟨l1, l2⟩ := hloop.2 (fun h => hr fun i hi => (hg i hi).1 (h i hi))
      rw[l1,l2]
      exact⟨rfl,λ h=>(by cases h),λ _ _=>rfl,λ _ h=>absurd h hr,λ _ h=>absurd h hr⟩
  · rw [Bool.eq_false_iff.2 hs]
    have hno:NetOk n->False:=λ h=>hs (a2.2 h)
    exact⟨rfl,λ _=>rfl,λ h=>(hno h).elim,λ h=>(hno h).elim,λ h=>(hno h).elim⟩
theorem zq4 {n:Net}(ht:n.Ties.len<=210) (hn:NetOk n) (h : ¬ zbu (En n)):p26 n=true/\s26 n=((⟨0,λ _=>default⟩:Sl Span),(5:Int)):=by
 obtain⟨w0,_,_,w3,_⟩:=zsA n (⟨0,λ _=>default⟩:Sl Int) (by decide) ht
 unfold p26 s26
 rw[w0,w3 hn (λ i hi=>absurd hi (dqW _)) h]
 exact⟨rfl,rfl⟩
theorem zKl {n:Net}(hn:NetOk n) (hN:zbu (En n)) {i:Int}(h0:0<=i) (h1:i < n.Nodes){j:Nat}(hj:j < n.Nodes.toNat):p75 (W n) i=true/\s75 (W n) i (j * 2)=fr n j i.toNat:=by
 have h40:=hn.n40
 obtain⟨a,b⟩:=zIt (W n) hn hN i h0 h1
 refine⟨a,?_⟩
 have:=(Prod.mk.inj (b j hj)).1
 rw[this]
 exact zIu (zBP (a:=W n) hn) hN (show i.toNat < n.Nodes.toNat by omega) hj
theorem zFm {n:Net}(hn:NetOk n) (hN:zbu (En n)) {i:Int}(h0:0<=i) (h1:i < n.Nodes){j:Nat}(hj:j < n.Nodes.toNat):p76 (W n) i=true/\s76 (W n) i (j * 2)=fr n i.toNat j:=by
 obtain⟨a,b⟩:=zIq (W n) hn hN i h0 h1
 exact⟨a,(Prod.mk.inj (b j hj)).1⟩
theorem zfP {α:Type}(i:Nat) (v:α) (g:Nat->α) (j:Nat):setT i v g j=if j=i then v else g j:=by
 show (match Nat.beq j i with | true=>v | false=>g j)=_
 by_cases h:j=i
 ·rw[dqP h,show Nat.beq j i=true from by rw[h];exact Nat.beq_refl _]
 ·rw[dqG h,show Nat.beq j i=false from Bool.eq_false_iff.2 λ e=>h (dqc e)]
def zBQ (n:Net) (i:Nat) (v:Sl Span):Sl Span:=⟨v.len,setT i (⟨-fr n i 0,fr n 0 i⟩:Span) v.get⟩
theorem zFn (n:Net):∀ (m i:Nat) (v:Sl Span),(∀ j,j < i->v.get j=⟨-fr n j 0,fr n 0 j⟩)->(ziZ (zBQ n) m i v).len=v.len/\∀ j,j < i+m->(ziZ (zBQ n) m i v).get j=⟨-fr n j 0,fr n 0 j⟩:=by
 intro m
 induction m with
 | zero=>intro i v h;exact⟨rfl,λ j hj=>h j (by omega)⟩
 | succ m ih =>
  intro i v h
  obtain⟨k1,k2⟩:=ih (i+1) (zBQ n i v) (λ j hj=>by
   show setT i _ v.get j=_
   rw[zfP]
   by_cases hji:j=i
   ·rw[dqP hji,hji]
   ·rw[dqG hji];exact h j (by omega))
  exact⟨k1,λ j hj=>k2 j (by omega)⟩
theorem zyr {n:Net}(ht:n.Ties.len<=210) (hn:NetOk n) (hN:zbu (En n)):p26 n=true/\∃ l,s26 n=(l,0)/\l.len=n.Nodes.toNat/\∀ i,i < n.Nodes.toNat->l.get i=⟨-fr n i 0,fr n 0 i⟩:=by
  have hn1:=hn.n1;have hn40:=hn.n40
  obtain⟨w0,_,_,_,w4⟩:=zsA n (⟨0,λ _=>default⟩:Sl Int) (by decide) ht
  have w4':=w4 hn (λ i hi=>absurd hi (dqW _)) hN
  have hT:=λ (j:Nat) (hj:j < n.Nodes.toNat)=>zKl hn hN (i:=0) (Int.le_refl _) (by omega) hj
  have hF:=λ (j:Nat) (hj:j < n.Nodes.toNat)=>zFm hn hN (i:=0) (Int.le_refl _) (by omega) hj
  have p1:=(hT 0 (by omega)).1
  have p2:=(hF 0 (by omega)).1
  have hloop := zkK (step := zBQ n) (E := fun v => (v, (0:Int))) (EP := fun _ => true) (Inv := fun _ v => v.len = n.Nodes.toNat) (a := 0) (n := n.Nodes.toNat) (lpS := fun k v i => zgH n k i v (s75 (W n) 0) (s76 (W n) 0)) (lpP := fun k v i => zgI n k i v (s75 (W n) 0) (s76 (W n) 0))
    (λ k i v _ hi hv=>by
      show zil n (zgH n k) (i:Int) v (s75 (W n) 0) (s76 (W n) 0)=zgH n k (w64 ((i:Int)+(1:Int))) (zBQ n i v) (s75 (W n) 0) (s76 (W n) 0)
      generalize zgH n k=S
      unfold zil zBQ
      have hb:=zsz hn hN (i:=i) (j:=0) hi
      rw[dqT (show (i:Int) < (n.Nodes.toNat:Int) by omega),dqA,dqN,show 0+i * 2+0=i * 2 by omega,zdk (by omega),zdk (by omega),(hT i hi).2,(hF i hi).2,show (0:Int).toNat=0 from rfl,zbt (x:=0 - fr n i 0) (by omega) (by omega),show (0:Int) - fr n i 0 = -fr n i 0 by omega])
    (λ k v=>by
      show zil n (zgH n k) (n.Nodes.toNat:Int) v (s75 (W n) 0) (s76 (W n) 0)=_
      unfold zil
      rw[dqF (show ¬ (n.Nodes.toNat:Int) < (n.Nodes.toNat:Int) by omega),dqB])
    (λ k i v _ hi hv=>by
      show zim n (zgI n k) (i:Int) v (s75 (W n) 0) (s76 (W n) 0)=zgI n k (w64 ((i:Int)+(1:Int))) (zBQ n i v) (s75 (W n) 0) (s76 (W n) 0)
      generalize zgI n k=S
      unfold zim zBQ
      have hb:=zsz hn hN (i:=i) (j:=0) hi
      have hv':v.len=n.Nodes.toNat:=hv
      rw[dqT (show (i:Int) < (n.Nodes.toNat:Int) by omega),dqA,dqN,show 0+i * 2+0=i * 2 by omega,zdk (by omega),zdk (by omega),(hT i hi).2,(hF i hi).2,show (0:Int).toNat=0 from rfl,zbt (x:=0 - fr n i 0) (by omega) (by omega),show (0:Int) - fr n i 0 = -fr n i 0 by omega,
        dqT (show 0<=(i:Int)/\(i:Int) < (40:Int) by omega),dqT (show 0<=(i:Int)/\(i:Int) < (v.len:Int) by omega),dqT (show i < v.len by omega)]
      rfl)
    (λ k v=>by
      show zim n (zgI n k) (n.Nodes.toNat:Int) v (s75 (W n) 0) (s76 (W n) 0)=_
      unfold zim
      rw[dqF (show ¬ (n.Nodes.toNat:Int) < (n.Nodes.toNat:Int) by omega),dqB])
    (λ i v _ _ h=>h) (Nat.zero_le _) (by omega) (⟨n.Nodes.toNat,(λ _=>(⟨(0:Int),(0:Int)⟩:Span))⟩:Sl Span) rfl
  obtain⟨l1,l2⟩:=hloop
  obtain⟨f1,f2⟩:=zFn n (n.Nodes.toNat - 0) 0 (⟨n.Nodes.toNat,(λ _=>(⟨(0:Int),(0:Int)⟩:Span))⟩:Sl Span) (λ j hj=>absurd hj (dqW _))
  constructor
  · unfold p26
    rw[w0,w4']
    show (cond ((0:Int) == 0) (decide (true=true) && cond ((0:Int) != (0:Int)) true (decide (p75 (W n) 0=true) && (decide (p76 (W n) 0=true) && (decide (0<=n.Nodes/\n.Nodes=n.Nodes/\n.Nodes<=1000000) && zqw n (0:Int) (⟨n.Nodes.toNat,(λ _=>(⟨(0:Int),(0:Int)⟩:Span))⟩:Sl Span) (s75 (W n) 0) (s76 (W n) 0))))) _)=true
    rw[p1,p2,dqT (show 0<=n.Nodes/\n.Nodes=n.Nodes/\n.Nodes<=1000000 from ⟨by omega,rfl,by omega⟩)]
    exact l1
  · refine ⟨_, ?_, f1, fun i hi => f2 i (by omega)⟩
    unfold s26
    rw[w4']
    exact l2
end Go.Proofs
namespace Go.Pm
def jr (o:zbX) (s:zbX×Bool) (e:Ed):zbX×Bool :=
 match o e.u with
 | none=>s
 | some x=>cond (ltO (x+e.w) (s.1 e.v)) (zkV s.1 e.v (x+e.w),true) s
theorem zKm (o:zbX) (s:zbX×Bool) (e:Ed) (v:Nat):leO ((jr o s e).1 v) (s.1 v):=by
 unfold jr
 cases hu:o e.u with
 | none=>exact zda _
 | some x =>
  simp only[]
  cases hl:ltO (x+e.w) (s.1 e.v)
  ·exact zda _
  ·show leO (zkV s.1 e.v (x + e.w) v) _
   unfold zkV
   by_cases hv:v=e.v
   ·rw [dqP hv]
    intro y hy
    refine⟨_,rfl,?_⟩
    rw[hv] at hy
    rw[hy] at hl
    exact Int.le_of_lt (of_decide_eq_true hl)
   ·rw[dqG hv];exact zda _
theorem zKn (o:zbX) (E:List Ed) (s:zbX×Bool) (v:Nat):leO ((E.foldl (jr o) s).1 v) (s.1 v):=by
 induction E generalizing s with
 | nil=>exact zda _
 | cons e l ih=>exact zdS (ih (jr o s e)) (zKm o s e v)
theorem zKo {o:zbX}{s:zbX×Bool}{e:Ed}{x:Int}(h:o e.u=some x):leO ((jr o s e).1 e.v) (some (x+e.w)):=by
 unfold jr
 simp only[h]
 cases hl:ltO (x+e.w) (s.1 e.v)
 ·obtain ⟨y, h1, h2⟩ := zkN hl
  intro z hz;cases hz
  exact⟨y,h1,h2⟩
 ·intro z hz; cases hz
  exact⟨x+e.w,by show zkV s.1 e.v (x+e.w) e.v=_;unfold zkV;rw[dqP rfl],Int.le_refl _⟩
theorem zKp {o:zbX}{E:List Ed}{s:zbX×Bool}{e:Ed}{x:Int}(he:e∈E) (h:o e.u=some x):leO ((E.foldl (jr o) s).1 e.v) (some (x+e.w)):=by
 induction E generalizing s with
 | nil=>cases he
 | cons f l ih =>
  rcases dqq.1 he with rfl | hm
  ·exact zdS (zKn o l (jr o s e) e.v) (zKo h)
  ·exact ih hm
def zAx : Option Int → Int
  | none=>1000000000000
  | some x=>x
end Go.Pm
namespace Go.Pm
def zys:zbX:=λ _=>none
def hop (F:List Ed) (o:zbX):zbX:=(F.foldl (jr o) (zys,false)).1
def hops (F : List Ed) (s : Nat) : Nat → zbX
  | 0=>zoQ s
  | k+1=>hop F (hops F s k)
theorem zIv {F:List Ed}{o:zbX}{v:Nat}{x:Int}(h:hop F o v=some x):∃ e∈F,e.v=v/\∃ y,o e.u=some y/\x=y+e.w:=by
 have key:∀ (l:List Ed) (s:zbX×Bool),(∀ e∈l,e∈F)->(∀ v x,s.1 v=some x->∃ e∈F,e.v=v/\∃ y,o e.u=some y/\x=y+e.w)->∀ v x,(l.foldl (jr o) s).1 v=some x->∃ e∈F,e.v=v/\∃ y,o e.u=some y/\x=y+e.w:=by
  intro l
  induction l with
  | nil=>intro s _ h;exact h
  | cons e l ih =>
   intro s hl h
   refine ih (jr o s e) (λ e he=>hl e (dqf _ he)) ?_
   intro v x hx
   unfold jr at hx
   cases hu:o e.u with
   | none=>simp only[hu] at hx;exact h v x hx
   | some y =>
    simp only[hu] at hx
    cases hlt:ltO (y+e.w) (s.1 e.v) with
    | false=>simp only[hlt,dqB] at hx;exact h v x hx
    | true =>
     simp only[hlt,dqA] at hx
     unfold zkV at hx
     by_cases hv:v=e.v
     ·rw [dqP hv] at hx
      exact⟨e,hl e (dqj ..),hv.symm,y,hu,(Option.some.inj hx).symm⟩
     ·rw[dqG hv] at hx;exact h v x hx
 exact key F (zys,false) (λ _ h=>h) (λ v x h=>by cases h) v x h
theorem zFo {F:List Ed}{s:Nat} : ∀ {k v:Nat}{c:List Ed},zeq F s c v->c.length=k->∃ x,hops F s k v=some x/\x<=wt c:=by
 intro k
 induction k with
 | zero =>
  intro v c h hl
  have:c=[]:=List.length_eq_zero_iff.1 hl
  subst this
  cases h
  exact⟨0,dqP rfl,Int.le_refl _⟩
 | succ k ih =>
  intro v c h hl
  obtain⟨c',e,rfl⟩:∃ c' e,c=c' ++ [e]:=⟨c.dropLast,c.getLast (λ e=>by rw[e] at hl;cases hl),(List.dropLast_concat_getLast _).symm⟩
  obtain⟨m,h1,h2,h3,h4⟩:=zcA.1 h
  subst h3
  obtain⟨x,k1,k2⟩:=ih h1 (by simpa using hl)
  obtain⟨y,m1,m2⟩:=zKp (o:=hops F s k) (s:=(zys,false)) h2 k1 _ rfl
  have h4':e.v=v:=h4
  rw[h4'] at m1
  exact⟨y,m1,by rw[zeB,zkM];omega⟩
end Go.Pm
