/- Part 7 of what the proof rests on: a machine that runs functions of the program on pure values, proved sound; the functions that the law reaches, and what they compute. -/
import Derived.Test.YtedhjaaikeakoaaDoorQ6
import Derived.Test.YtedhjaaikeakoaaDoorTie
import Derived.ProofKit
import Derived.LaidMore
import Derived.OpenShut
import Derived.Stop.Joined
import Derived.Test.YtedhjaaikeakoaaDoorCards
import Derived.WalkKit
set_option linter.all false
namespace Go.Proofs
open Go Go.Pm
set_option maxRecDepth 100000
set_option linter.unusedVariables false
attribute [local irreducible] Go.Pm.vcFun Go.Pm.vc Go.Pm.vcIter
abbrev T46:Tabs:=(Tabs.nil.addF 77 zCh)
theorem zL8:TabsOk Tryd.prog T46:=(TabsOk.nil.addF zMN)
abbrev G46:Ctrs:=csm T46 (λ _ _=>[]) (λ _=>false)
def zGR:Ann:=⟨79,[(0,zK [1,2] [2]),(1,zK [1,2,5] [2]),(2,zK [1,2,5,6] [2,15]),(3,zK [1,2,5,6,7] [2,15]),(4,zK [1,2,5,6,7,19] [2,15]),(5,zK [1,2,5,6,7] [2,15]),(6,zK [1,2,5,6,7] [2,15]),(7,zK [5,6] [15]),(8,zK [5,6,8] [15]),(9,zK [5,6,28] [15]),(10,zK [5,6,8] [15]),(11,zK [5,6,8,9] [15]),(12,zK [5,6,8,9,32] [15]),(13,zK [5,6,8,9] [15]),(14,zK [5,6,8,9,10] [15]),(15,zK [5,6,8,9,10,69] [15]),(16,zK [5,6,8,9] [15]),(17,zK [4] [15])],
 [(4,zK [1,2,5,6,7] [2,15]),(9,zK [5,6,8] [15]),(12,zK [5,6,8,9] [15])],
 [(2,zK [1,2,5] [2]),(7,zK [1,5,6] [15])],
 [],[]⟩
abbrev R46:=(Sl Int)
abbrev e46 (r:R46):List PA:=[.one (.sl r.len 1 (λ i=>zad (r.get i)))]
@[irreducible] def z46:=ptF Tryd.prog G46 zGR Tryd.f46
def zDq (n:Net) (from_a1:Int) (lv0:(Sl Step)) (iv1:Int) (za6:(Sl Int)) (zbW:Nat->List PV):St:=⟨[(1,zI from_a1),(2,zp 2 0),(5,zS zcY 5 lv0),(6,zv 15),(7,zI iv1)],[(2,.box 24 (zm (enc_24 n))),(15,.vec 3 1 8 za6.len zbW)],[]⟩
abbrev zJM (K:List PA->Prop) (n:Net) (from_a1:Int) (lv0:(Sl Step)) (X:St->Prop) (P:Int->(Sl Int)->Bool) (S:Int->(Sl Int)->(Sl Int)):Prop:=∀ ⦃iv1:Int⦄ ⦃za6:(Sl Int)⦄ ⦃zbW:Nat->List PV⦄,P iv1 za6=true->K (e46 (S iv1 za6))->zbW=zg zad za6->X (zDq n from_a1 lv0 iv1 za6 zbW)
def zDr (lv0:(Sl Step)) (zaa:Bool) (zbw:(Sl Int)) (zbL:Nat->List PV):St:=⟨[(5,zS zcY 5 lv0),(6,zv 15),(8,zB zaa)],[(15,.vec 3 1 8 zbw.len zbL)],[]⟩
abbrev zGS (K:List PA->Prop) (lv0:(Sl Step)) (X:St->Prop) (P:Bool->(Sl Int)->Bool) (S:Bool->(Sl Int)->(Sl Int)):Prop:=∀ ⦃zaa:Bool⦄ ⦃zbw:(Sl Int)⦄ ⦃zbL:Nat->List PV⦄,P zaa zbw=true->K (e46 (S zaa zbw))->zbL=zg zad zbw->X (zDr lv0 zaa zbw zbL)
def zDs (lv0:(Sl Step)) (zbA:Bool) (iv4:Int) (zau:(Sl Int)) (zbX:Nat->List PV):St:=⟨[(5,zS zcY 5 lv0),(6,zv 15),(8,zB zbA),(9,zI iv4)],[(15,.vec 3 1 8 zau.len zbX)],[]⟩
abbrev zJN (K:List PA->Prop) (lv0:(Sl Step)) (X:St->Prop) (P:Bool->Int->(Sl Int)->Bool) (S:Bool->Int->(Sl Int)->(Sl Int)):Prop:=∀ ⦃zbA:Bool⦄ ⦃iv4:Int⦄ ⦃zau:(Sl Int)⦄ ⦃zbX:Nat->List PV⦄,P zbA iv4 zau=true->K (e46 (S zbA iv4 zau))->zbX=zg zad zau->X (zDs lv0 zbA iv4 zau zbX)
section
variable {K:List PA->Prop}{n:Net}{from_a1:Int}{lv0:(Sl Step)}{zzZ:Nat->List PV}{iv1:Int}{za6:(Sl Int)}{zbW:Nat->List PV}{X1:St->Prop}{P1:Int->(Sl Int)->Bool}{S1:Int->(Sl Int)->(Sl Int)}{zci:(Sl Int)}{zfy:Nat->List PV}{zaa:Bool}{zbw:(Sl Int)}{zbL:Nat->List PV}{X3:St->Prop}{P3:Bool->(Sl Int)->Bool}{S3:Bool->(Sl Int)->(Sl Int)}{zbA:Bool}{iv4:Int}{zau:(Sl Int)}{zbX:Nat->List PV}{X4:St->Prop}{P4:Bool->Int->(Sl Int)->Bool}{S4:Bool->Int->(Sl Int)->(Sl Int)}
def zjd (S3:Bool->(Sl Int)->(Sl Int)) (lv0:(Sl Step)) (S4:Bool->Int->(Sl Int)->(Sl Int)) (zbA:Bool) (iv4:Int) (zau:(Sl Int)):(Sl Int) :=
  (cond (decide (iv4 < (lv0.len : Int)))
 (cond ((zau.get (((lv0.get iv4.toNat).From).toNat)) != (1000000000000:Int))
 (cond (decide ((w64 ((zau.get (((lv0.get iv4.toNat).From).toNat)) + (lv0.get iv4.toNat).Length)) < (zau.get (((lv0.get iv4.toNat).To).toNat))))
 (S4 true (w64 (iv4+(1:Int))) (⟨zau.len,(setT (((lv0.get iv4.toNat).To).toNat) (w64 ((zau.get (((lv0.get iv4.toNat).From).toNat))+(lv0.get iv4.toNat).Length)) zau.get)⟩:Sl Int))
 (S4 zbA (w64 (iv4+(1:Int))) zau))
 (S4 zbA (w64 (iv4+(1:Int))) zau))
 (S3 zbA zau))
def zje (P3:Bool->(Sl Int)->Bool) (lv0:(Sl Step)) (P4:Bool->Int->(Sl Int)->Bool) (zbA:Bool) (iv4:Int) (zau:(Sl Int)):Bool :=
  (cond (decide (iv4 < (lv0.len : Int)))
 (decide ((0≤iv4/\iv4 < (lv0.len:Int))) &&
 (decide ((0≤(lv0.get iv4.toNat).From/\(lv0.get iv4.toNat).From < (zau.len:Int))) &&
 (decide ((((lv0.get iv4.toNat).From).toNat < zau.len)) &&
 (decide ((0≤iv4/\iv4 < (lv0.len:Int))) &&
 (decide ((0≤iv4/\iv4 < (lv0.len:Int))) &&
 (decide ((0≤(lv0.get iv4.toNat).From/\(lv0.get iv4.toNat).From < (zau.len:Int))) &&
 (decide ((((lv0.get iv4.toNat).From).toNat < zau.len)) &&
 (cond ((zau.get (((lv0.get iv4.toNat).From).toNat)) != (1000000000000:Int))
 (decide ((0≤iv4/\iv4 < (lv0.len:Int))) &&
 (decide ((0≤(lv0.get iv4.toNat).To/\(lv0.get iv4.toNat).To < (zau.len:Int))) &&
 (decide ((((lv0.get iv4.toNat).To).toNat < zau.len)) &&
 (cond (decide ((w64 ((zau.get (((lv0.get iv4.toNat).From).toNat)) + (lv0.get iv4.toNat).Length)) < (zau.get (((lv0.get iv4.toNat).To).toNat))))
 (decide ((0≤iv4/\iv4 < (lv0.len:Int))) &&
 (decide ((0≤(lv0.get iv4.toNat).To/\(lv0.get iv4.toNat).To < (zau.len:Int))) &&
 (decide ((((lv0.get iv4.toNat).To).toNat < zau.len)) &&
 (P4 true (w64 (iv4+(1:Int))) (⟨zau.len,(setT (((lv0.get iv4.toNat).To).toNat) (w64 ((zau.get (((lv0.get iv4.toNat).From).toNat))+(lv0.get iv4.toNat).Length)) zau.get)⟩:Sl Int)))))
 (P4 zbA (w64 (iv4+(1:Int))) zau)))))
 (P4 zbA (w64 (iv4+(1:Int))) zau)))))))))
 (P3 zbA zau))
def zer (S3:Bool->(Sl Int)->(Sl Int)) (lv0:(Sl Step)):Nat->Bool->Int->(Sl Int)->(Sl Int):=lpO (λ _ _ _=>default) (zjd S3 lv0)
def zes (P3:Bool->(Sl Int)->Bool) (lv0:(Sl Step)):Nat->Bool->Int->(Sl Int)->Bool:=lpO (λ _ _ _=>false) (zje P3 lv0)
def zsI (S3:Bool->(Sl Int)->(Sl Int)) (lv0:(Sl Step)) (zbA:Bool) (iv4:Int) (zau:(Sl Int)):(Sl Int):=zer S3 lv0 Fuel zbA iv4 zau
def zsJ (P3:Bool->(Sl Int)->Bool) (lv0:(Sl Step)) (zbA:Bool) (iv4:Int) (zau:(Sl Int)):Bool:=zes P3 lv0 Fuel zbA iv4 zau
theorem zGT (hX3:zGS K lv0 X3 P3 S3) (hs:zsJ P3 lv0 zbA iv4 zau=true) (hk:K (e46 (zsI S3 lv0 zbA iv4 zau))) (zeU:zbX=zg zad zau):z46 K [1,1,1,1,1,0,1,0,0,1,0,1,1,0] [X3] (zDs lv0 zbA iv4 zau zbX) :=
  zl (λ X=>z46 K [1,1,1,1,1,0,1,0,0,1,0,1,1,0,0] [X3,X]) (by kernel_rfl) λ X4 hX =>
  (show ∀ k, zJN K lv0 X4 (zes P3 lv0 k) (zer S3 lv0 k) from ziH _ _ (zje P3 lv0) (zjd S3 lv0) (zJN K lv0 X4)
 (by intro _ _ _ _ hs;exact absurd hs Bool.false_ne_true)
 (by intro P4 S4 hX4 zbA iv4 zau zbX hs hk zeU;subst zeU;exact hX _ (zbk (by kernel_rfl) (zc hs hk (λ hs hk=>(zaX hs λ hc hs=>And.intro hc (zaX hs λ hc hs=>And.intro hc (zaX hs λ hc hs=>And.intro hc (zaX hs λ hc hs=>And.intro hc (zaX hs λ hc hs=>And.intro hc (zaX hs λ hc hs=>And.intro hc (zaX hs λ hc hs=>And.intro hc (zc hs hk (λ hs hk=>(zaX hs λ hc hs=>And.intro hc (zaX hs λ hc hs=>And.intro hc (zaX hs λ hc hs=>And.intro hc (zc hs hk (λ hs hk=>(zaX hs λ hc hs=>And.intro hc (zaX hs λ hc hs=>And.intro hc (zaX hs λ hc hs=>And.intro hc (hX4 hs hk (zfH (enc:=zad) (i:=((lv0.get iv4.toNat).To).toNat) (k:=0) (f:=zau.get) (new:=(zad (w64 ((zau.get (((lv0.get iv4.toNat).From).toNat))+(lv0.get iv4.toNat).Length)))) (v:=(w64 ((zau.get (((lv0.get iv4.toNat).From).toNat))+(lv0.get iv4.toNat).Length))) rfl rfl)))))) (λ hs hk=>(hX4 hs hk rfl))))))) (λ hs hk=>(hX4 hs hk rfl))))))))))) (λ hs hk=>(hX3 hs hk rfl)))))) _ hs hk zeU
def zl7 (lv0:(Sl Step)) (S3:Bool->(Sl Int)->(Sl Int)) (zaa:Bool) (zbw:(Sl Int)):(Sl Int) :=
  (cond zaa
 (zsI S3 lv0 false (0:Int) zbw)
 zbw)
def zl8 (lv0:(Sl Step)) (P3:Bool->(Sl Int)->Bool) (zaa:Bool) (zbw:(Sl Int)):Bool :=
  (cond zaa
 (zsJ P3 lv0 false (0:Int) zbw)
 true)
def zdk (lv0:(Sl Step)):Nat->Bool->(Sl Int)->(Sl Int):=lpO (λ _ _=>default) (zl7 lv0)
def zdt (lv0:(Sl Step)):Nat->Bool->(Sl Int)->Bool:=lpO (λ _ _=>false) (zl8 lv0)
def zz5 (lv0:(Sl Step)) (zaa:Bool) (zbw:(Sl Int)):(Sl Int):=zdk lv0 Fuel zaa zbw
def zsK (lv0:(Sl Step)) (zaa:Bool) (zbw:(Sl Int)):Bool:=zdt lv0 Fuel zaa zbw
theorem zGU (hs:zsK lv0 zaa zbw=true) (hk:K (e46 (zz5 lv0 zaa zbw))) (zeT:zbL=zg zad zbw):z46 K [1,1,1,1,1,0,1,0] [] (zDr lv0 zaa zbw zbL) :=
  zl (λ X=>z46 K [1,1,1,1,1,0,1,0,0] [X]) (by kernel_rfl) λ X3 hX =>
  (show ∀ k, zGS K lv0 X3 (zdt lv0 k) (zdk lv0 k) from ziH _ _ (zl8 lv0) (zl7 lv0) (zGS K lv0 X3)
 (by intro _ _ _ hs;exact absurd hs Bool.false_ne_true)
 (by intro P3 S3 hX3 zaa zbw zbL hs hk zeT;subst zeT;exact hX _ (zbk (by kernel_rfl) (zc hs hk (λ hs hk=>(zGT hX3 hs hk rfl)) (λ hs hk=>hk))))) _ hs hk zeT
def zsL (from_a1:Int) (lv0:(Sl Step)) (zci:(Sl Int)):(Sl Int) :=
  (zz5 lv0 true (⟨zci.len,(setT from_a1.toNat (0:Int) zci.get)⟩:Sl Int))
def zov (from_a1:Int) (lv0:(Sl Step)) (zci:(Sl Int)):Bool :=
  (decide ((0≤from_a1/\from_a1 < (zci.len:Int))) &&
 (decide ((from_a1.toNat < zci.len)) &&
 (zsK lv0 true (⟨zci.len,(setT from_a1.toNat (0:Int) zci.get)⟩:Sl Int))))
theorem zGV (hs:zov from_a1 lv0 zci=true) (hk:K (e46 (zsL from_a1 lv0 zci))) (zrQ:zfy=zg zad zci):z46 K [1,1,1,1] [] ⟨[(1,zI from_a1),(5,zS zcY 5 lv0),(6,zv 15)],[(15,.vec 3 1 8 zci.len zfy)],[]⟩:=by subst zrQ;exact zbk (by kernel_rfl) (zaX hs λ hc hs=>And.intro hc (zaX hs λ hc hs=>And.intro hc (zGU hs hk (zfH (enc:=zad) (i:=from_a1.toNat) (k:=0) (f:=zci.get) (new:=(zad (0:Int))) (v:=(0:Int)) rfl rfl))))
def zjf (n:Net) (from_a1:Int) (lv0:(Sl Step)) (S1:Int->(Sl Int)->(Sl Int)) (iv1:Int) (za6:(Sl Int)):(Sl Int) :=
  (cond (decide (iv1 < n.Nodes))
 (S1 (w64 (iv1+(1:Int))) (⟨za6.len,(setT iv1.toNat (1000000000000:Int) za6.get)⟩:Sl Int))
 (zsL from_a1 lv0 za6))
def zjg (n:Net) (from_a1:Int) (lv0:(Sl Step)) (P1:Int->(Sl Int)->Bool) (iv1:Int) (za6:(Sl Int)):Bool :=
  (cond (decide (iv1 < n.Nodes))
 (decide ((0≤iv1/\iv1 < (za6.len:Int))) &&
 (decide ((iv1.toNat < za6.len)) &&
 (P1 (w64 (iv1+(1:Int))) (⟨za6.len,(setT iv1.toNat (1000000000000:Int) za6.get)⟩:Sl Int))))
 (zov from_a1 lv0 za6))
def zjh (n:Net) (from_a1:Int) (lv0:(Sl Step)):Nat->Int->(Sl Int)->(Sl Int):=lpO (λ _ _=>default) (zjf n from_a1 lv0)
def zji (n:Net) (from_a1:Int) (lv0:(Sl Step)):Nat->Int->(Sl Int)->Bool:=lpO (λ _ _=>false) (zjg n from_a1 lv0)
def zz6 (n:Net) (from_a1:Int) (lv0:(Sl Step)) (iv1:Int) (za6:(Sl Int)):(Sl Int):=zjh n from_a1 lv0 Fuel iv1 za6
def zz7 (n:Net) (from_a1:Int) (lv0:(Sl Step)) (iv1:Int) (za6:(Sl Int)):Bool:=zji n from_a1 lv0 Fuel iv1 za6
theorem zGW (hs:zz7 n from_a1 lv0 iv1 za6=true) (hk:K (e46 (zz6 n from_a1 lv0 iv1 za6))) (zfz:zbW=zg zad za6):z46 K [1,1,1,0,1,0] [] (zDq n from_a1 lv0 iv1 za6 zbW) :=
  zl (λ X=>z46 K [1,1,1,0,1,0,0] [X]) (by kernel_rfl) λ X1 hX =>
  (show ∀ k, zJM K n from_a1 lv0 X1 (zji n from_a1 lv0 k) (zjh n from_a1 lv0 k) from ziH _ _ (zjg n from_a1 lv0) (zjf n from_a1 lv0) (zJM K n from_a1 lv0 X1)
 (by intro _ _ _ hs;exact absurd hs Bool.false_ne_true)
 (by intro P1 S1 hX1 iv1 za6 zbW hs hk zfz;subst zfz;exact hX _ (zbk (by kernel_rfl) (zc hs hk (λ hs hk=>(zaX hs λ hc hs=>And.intro hc (zaX hs λ hc hs=>And.intro hc (hX1 hs hk (zfH (enc:=zad) (i:=iv1.toNat) (k:=0) (f:=za6.get) (new:=(zad (1000000000000:Int))) (v:=(1000000000000:Int)) rfl rfl))))) (λ hs hk=>(zGV hs hk rfl)))))) _ hs hk zfz
def zz8 (n:Net) (from_a1:Int) (lv0:(Sl Step)):(Sl Int) :=
  (zz6 n from_a1 lv0 (0:Int) (⟨n.Nodes.toNat,(λ _=>(0:Int))⟩:Sl Int))
def zsM (n:Net) (from_a1:Int) (lv0:(Sl Step)):Bool :=
  (decide ((0≤n.Nodes/\n.Nodes=n.Nodes/\n.Nodes≤1000000)) &&
 (zz7 n from_a1 lv0 (0:Int) (⟨n.Nodes.toNat,(λ _=>(0:Int))⟩:Sl Int)))
theorem zGX (hs:zsM n from_a1 lv0=true) (hk:K (e46 (zz8 n from_a1 lv0))) (zGP:zzZ=zg zcY lv0):z46 K [1,1] [] ⟨[(1,zI from_a1),(2,zp 2 0),(5,zP (.sl lv0.len 5 zzZ))],[(2,.box 24 (zm (enc_24 n)))],[]⟩:=by subst zGP;exact zbk (by kernel_rfl) (zaX hs λ hc hs=>And.intro hc (zGW hs hk rfl))
def s46 (n:Net) (from_a1:Int):(Sl Int) :=
  (zz8 n from_a1 (s77 n))
def p46 (n:Net) (from_a1:Int):Bool :=
  (decide ((p77 n=true)) &&
 (zsM n from_a1 (s77 n)))
end
theorem q46 (n:Net) (from_a1:Int) (K:List PA->Prop) (hs:p46 n from_a1=true) (hk:K (e46 (s46 n from_a1))):vcFun Tryd.prog G46 zGR 46 [.agg (enc_24 n),.one (.int .i64 from_a1)] K :=
  zbk (by kernel_rfl) (zaX hs λ hc hs=>And.intro (And.intro (zE enc_40 4 n.Ties.get) hc) (zGX hs hk rfl))
def zGY : List PA -> COut
  | [.agg [.int .i64 zaj,.sl zaf zaB zae],.one (.int .i64 a1)]=>.det (IsE enc_40 4 zaB zae/\p46 (⟨zaj,(⟨zaf,zar zae⟩:(Sl Tie))⟩:Net) a1=true) [.one (.sl ((s46 (⟨zaj,(⟨zaf,zar zae⟩:(Sl Tie))⟩:Net) a1).len) 1 (λ i=>zad ((s46 (⟨zaj,(⟨zaf,zar zae⟩:(Sl Tie))⟩:Net) a1).get i)))]
  | _=>.no
theorem zJO:zaA Tryd.prog 46:=⟨_,rfl,rfl,by kernel_rfl⟩
theorem zNT:Ok Tryd.prog 46 zGY:=zbH zL8 zJO λ args K h=>by
  unfold zGY at h
  split at h
  · rename_i zaj zaf zaB zae a1
    obtain⟨⟨⟨rfl,zat,rfl⟩,hs⟩,hk⟩:=h
    try rw[zao zat] at hs
    try rw[zao zat] at hk
    exact⟨(λ _ _=>[]),(λ _=>false),zGR,q46 (⟨zaj,(⟨zaf,zat⟩:(Sl Tie))⟩:Net) a1 K hs hk⟩
  · exact h.elim
abbrev T34:Tabs:=(Tabs.nil.addF 46 zGY)
theorem zL9:TabsOk Tryd.prog T34:=(TabsOk.nil.addF zNT)
abbrev G34:Ctrs:=csm T34 (λ _ _=>[]) (λ _=>false)
def zJP:Ann:=⟨21,[(0,zK [1,2,3,6] [3,6]),(1,zK [6] [6])],
 [],
 [],
 [],[]⟩
abbrev R34:=Span
abbrev e34 (r:R34):List PA:=[.agg [.int .i64 r.Low,.int .i64 r.High]]
section
variable {K:List PA->Prop}{n:Net}{from_a1:Int}{to:Int}
def s34 (n:Net) (from_a1:Int) (to:Int):Span :=
  (⟨(w64 (0 - ((s46 n to).get from_a1.toNat))),((s46 n from_a1).get to.toNat)⟩:Span)
def p34 (n:Net) (from_a1:Int) (to:Int):Bool :=
  (decide ((p46 n to=true)) &&
 (decide ((0≤from_a1/\from_a1 < ((s46 n to).len:Int))) &&
 (decide ((p46 n from_a1=true)) &&
 (decide ((0≤to/\to < ((s46 n from_a1).len:Int))) &&
 true))))
end
theorem q34 (n:Net) (from_a1:Int) (to:Int) (K:List PA->Prop) (hs:p34 n from_a1 to=true) (hk:K (e34 (s34 n from_a1 to))):vcFun Tryd.prog G34 zJP 34 [.agg (enc_24 n),.one (.int .i64 from_a1),.one (.int .i64 to)] K :=
  zbk (by kernel_rfl) (zaX hs λ hc hs=>And.intro (And.intro (zE enc_40 4 n.Ties.get) hc) (zaX hs λ hc hs=>And.intro hc (zaX hs λ hc hs=>And.intro (And.intro (zE enc_40 4 n.Ties.get) hc) (zaX hs λ hc hs=>And.intro hc hk))))
def zCi : List PA -> COut
  | [.agg [.int .i64 zaj,.sl zaf zaB zae],.one (.int .i64 a1),.one (.int .i64 a2)]=>.det (IsE enc_40 4 zaB zae/\p34 (⟨zaj,(⟨zaf,zar zae⟩:(Sl Tie))⟩:Net) a1 a2=true) [.agg [.int .i64 ((s34 (⟨zaj,(⟨zaf,zar zae⟩:(Sl Tie))⟩:Net) a1 a2).Low),.int .i64 ((s34 (⟨zaj,(⟨zaf,zar zae⟩:(Sl Tie))⟩:Net) a1 a2).High)]]
  | _=>.no
theorem zJQ:zaA Tryd.prog 34:=⟨_,rfl,rfl,by kernel_rfl⟩
theorem zMO:Ok Tryd.prog 34 zCi:=zbH zL9 zJQ λ args K h=>by
  unfold zCi at h
  split at h
  · rename_i zaj zaf zaB zae a1 a2
    obtain⟨⟨⟨rfl,zat,rfl⟩,hs⟩,hk⟩:=h
    try rw[zao zat] at hs
    try rw[zao zat] at hk
    exact⟨(λ _ _=>[]),(λ _=>false),zJP,q34 (⟨zaj,(⟨zaf,zat⟩:(Sl Tie))⟩:Net) a1 a2 K hs hk⟩
  · exact h.elim
abbrev T33:Tabs:=(Tabs.nil.addF 34 zCi)
theorem zMa:TabsOk Tryd.prog T33:=(TabsOk.nil.addF zMO)
abbrev G33:Ctrs:=csm T33 (λ _ _=>[]) (λ _=>false)
def zGZ:Ann:=⟨18,[(0,zK [1] [1]),(1,zK [1,3] [1]),(2,zK [1,3,4] [1]),(3,zK [1,3,4,8] [1,16]),(4,zK [1,3,4] [1,16]),(5,zK [1,3,4] [1,16]),(6,zK [2] [16])],
 [(3,⟨[1,3,4],[1,16],[(3,16,43,λ _=>za7 default)],[],[],[],[]⟩)],
 [],
 [],[]⟩
abbrev R33:=(Sl Span)
abbrev e33 (r:R33):List PA:=[.one (.sl r.len 2 (λ i=>za7 (r.get i)))]
@[irreducible] def z33:=ptF Tryd.prog G33 zGZ Tryd.f33
def zDt (n:Net) (iv0:Int) (zdn:(Sl Span)) (zgy:Nat->List PV):St:=⟨[(1,zp 1 0),(3,zv 16),(4,zI iv0)],[(1,.box 24 (zm (enc_24 n))),(16,.vec 43 2 16 zdn.len zgy)],[]⟩
abbrev zJR (K:List PA->Prop) (n:Net) (X:St->Prop) (P:Int->(Sl Span)->Bool) (S:Int->(Sl Span)->(Sl Span)):Prop:=∀ ⦃iv0:Int⦄ ⦃zdn:(Sl Span)⦄ ⦃zgy:Nat->List PV⦄,P iv0 zdn=true->K (e33 (S iv0 zdn))->zgy=zg za7 zdn->X (zDt n iv0 zdn zgy)
section
variable {K:List PA->Prop}{n:Net}{iv0:Int}{zdn:(Sl Span)}{zgy:Nat->List PV}{X0:St->Prop}{P0:Int->(Sl Span)->Bool}{S0:Int->(Sl Span)->(Sl Span)}
def zjj (n:Net) (S0:Int->(Sl Span)->(Sl Span)) (iv0:Int) (zdn:(Sl Span)):(Sl Span) :=
  (cond (decide (iv0 < n.Nodes))
 (S0 (w64 (iv0+(1:Int))) (⟨(zdn.len+1),(zf4 zdn.len zdn.get (λ _=>(s34 n (0:Int) iv0)))⟩:Sl Span))
 zdn)
def zjk (n:Net) (P0:Int->(Sl Span)->Bool) (iv0:Int) (zdn:(Sl Span)):Bool :=
  (cond (decide (iv0 < n.Nodes))
 (decide ((p34 n (0:Int) iv0=true)) &&
 (decide (((zdn.len+1) * 16≤140737488355328/\zdn.len+1≤9223372036854775807)) &&
 (P0 (w64 (iv0+(1:Int))) (⟨(zdn.len+1),(zf4 zdn.len zdn.get (λ _=>(s34 n (0:Int) iv0)))⟩:Sl Span))))
 true)
def zhC (n:Net):Nat->Int->(Sl Span)->(Sl Span):=lpO (λ _ _=>default) (zjj n)
def zhD (n:Net):Nat->Int->(Sl Span)->Bool:=lpO (λ _ _=>false) (zjk n)
def zz9 (n:Net) (iv0:Int) (zdn:(Sl Span)):(Sl Span):=zhC n Fuel iv0 zdn
def zAa (n:Net) (iv0:Int) (zdn:(Sl Span)):Bool:=zhD n Fuel iv0 zdn
theorem zG0 (hs:zAa n iv0 zdn=true) (hk:K (e33 (zz9 n iv0 zdn))) (zsN:zgy=zg za7 zdn):z33 K [1,1,0,1,0] [] (zDt n iv0 zdn zgy) :=
  zl (λ X=>z33 K [1,1,0,1,0,0] [X]) (by kernel_rfl) λ X0 hX =>
  (show ∀ k, zJR K n X0 (zhD n k) (zhC n k) from ziH _ _ (zjk n) (zjj n) (zJR K n X0)
 (by intro _ _ _ hs;exact absurd hs Bool.false_ne_true)
 (by intro P0 S0 hX0 iv0 zdn zgy hs hk zsN;subst zsN;exact hX _ (zbk (by kernel_rfl) (zc hs hk (λ hs hk=>(zaX hs λ hc hs=>And.intro (And.intro (zE enc_40 4 n.Ties.get) hc) (zaX hs λ hc hs=>And.intro hc (hX0 hs hk (zjw (enc:=za7) (f:=zdn.get) (h:=(λ _=>(s34 n (0:Int) iv0))) rfl rfl))))) (λ hs hk=>hk))))) _ hs hk zsN
def s33 (n:Net):(Sl Span) :=
  (zz9 n (0:Int) (⟨0,(λ _=>default)⟩:Sl Span))
def p33 (n:Net):Bool :=
  (zAa n (0:Int) (⟨0,(λ _=>default)⟩:Sl Span))
end
theorem q33 (n:Net) (K:List PA->Prop) (hs:p33 n=true) (hk:K (e33 (s33 n))):vcFun Tryd.prog G33 zGZ 33 [.agg (enc_24 n)] K :=
  zbk (by kernel_rfl) (zG0 hs hk rfl)
def zG1 : List PA -> COut
  | [.agg [.int .i64 zaj,.sl zaf zaB zae]]=>.det (IsE enc_40 4 zaB zae/\p33 (⟨zaj,(⟨zaf,zar zae⟩:(Sl Tie))⟩:Net)=true) [.one (.sl ((s33 (⟨zaj,(⟨zaf,zar zae⟩:(Sl Tie))⟩:Net)).len) 2 (λ i=>za7 ((s33 (⟨zaj,(⟨zaf,zar zae⟩:(Sl Tie))⟩:Net)).get i)))]
  | _=>.no
theorem zJS:zaA Tryd.prog 33:=⟨_,rfl,rfl,by kernel_rfl⟩
theorem zNU:Ok Tryd.prog 33 zG1:=zbH zMa zJS λ args K h=>by
  unfold zG1 at h
  split at h
  · rename_i zaj zaf zaB zae
    obtain⟨⟨⟨rfl,zat,rfl⟩,hs⟩,hk⟩:=h
    try rw[zao zat] at hs
    try rw[zao zat] at hk
    exact⟨(λ _ _=>[]),(λ _=>false),zGZ,q33 (⟨zaj,(⟨zaf,zat⟩:(Sl Tie))⟩:Net) K hs hk⟩
  · exact h.elim
abbrev T6:Tabs:=(((((((((Tabs.nil.addF 20 zGv).addF 21 zGu).addF 23 zGE).addF 26 zBO).addF 30 zGF).addF 31 zGQ).addF 32 zBP).addF 33 zG1).addF 34 zCi)
theorem zNV:TabsOk Tryd.prog T6:=(((((((((TabsOk.nil.addF zNO).addF zNN).addF zNQ).addF zMx).addF zNR).addF zNS).addF ok32).addF zNU).addF zMO)
abbrev G6:Ctrs:=csm T6 (λ _ _=>[]) (λ _=>false)
def zMb:Ann:=⟨132,[(0,zK [1,2,3] [3]),(1,zK [1,2,3,14] [3]),(2,zK [6] []),(3,zK [1,2,3,7,8] [3]),(4,zK [1,2,3,7,8,9,10] [3,9]),(5,zK [1,2,3,7,8,9,10,30] [3,9]),(6,zK [6] []),(7,zK [1,2,3,7,8,9,10,11] [3,9]),(8,zK [1,2,3,7,8,9,10,11,78] [3,9]),(9,zK [6] []),(10,zK [1,2,3,7,8,9,10,11,81] [3,9]),(11,zK [6] []),(12,zK [6] [])],
 [],
 [(2,zK [1,2,3,14] [3]),(3,zK [1,2,3] [3]),(4,zK [1,2,3,7,8] [3]),(5,zK [1,2,3,7,8,9,10] [3,9]),(6,zK [1,2,3,7,8,9,10,30] [3,9]),(7,zK [1,2,3,7,8,9,10] [3,9]),(10,zK [1,2,3,7,8,9,10,11] [3,9]),(11,zK [1,2,3,7,8,9,10,11,81] [3,9]),(12,zK [1,2,3,7,8,9,10,11] [3,9])],
 [],[]⟩
abbrev R6:=Bool
abbrev e6 (r:R6):List PA:=[.one (.bool r)]
@[irreducible] def z6:=ptF Tryd.prog G6 zMb Tryd.f6
section
variable {K:List PA->Prop}{n:Net}{from_a1:Int}{to:Int}{zhn:Bool}{bv2:(Sl Span)}{ev2:Int}{zJT:Nat->List PV}{fv3:Int}{zbO:Int}{zbP:Int}{zsO:Bool}{zcj:Bool}{zsP:Bool}
def zus (n:Net) (from_a1:Int) (to:Int) (bv2:(Sl Span)) (ev2:Int) (fv3:Int) (zbO:Int) (zbP:Int) (zcj:Bool):Bool :=
  (cond (ev2 == (0:Int))
 (cond (s32 bv2 (s33 n))
 (cond (!zcj)
 true
 (cond (fv3 == (0:Int))
 (cond (match (zbO == (s34 n from_a1 to).Low) with | true => (match (zbP == (s34 n from_a1 to).High) with | true => true | false => false) | false => false)
 true
 false)
 false))
 false)
 false)
def zut (n:Net) (from_a1:Int) (to:Int) (bv2:(Sl Span)) (ev2:Int) (fv3:Int) (zbO:Int) (zbP:Int) (zcj:Bool):Bool :=
  (cond (ev2 == (0:Int))
 (decide ((p33 n=true)) &&
 (decide ((p32 bv2 (s33 n)=true)) &&
 (cond (s32 bv2 (s33 n))
 (cond (!zcj)
 true
 (cond (fv3 == (0:Int))
 (decide ((p34 n from_a1 to=true)) &&
 true)
 true))
 true)))
 true)
theorem zJU (hs:zut n from_a1 to bv2 ev2 fv3 zbO zbP zcj=true) (hk:K (e6 (zus n from_a1 to bv2 ev2 fv3 zbO zbP zcj))):z6 K [1,1,1,1,1,1,1,1] [] ⟨[(1,zI from_a1),(2,zI to),(3,zp 3 0),(7,zS za7 2 bv2),(8,zI ev2),(9,zp 9 0),(10,zI fv3),(11,zB zcj)],[(3,.box 24 (zm (enc_24 n))),(9,.box 43 (zm (za7 (⟨zbO,zbP⟩:Span))))],[]⟩:=zbk (by kernel_rfl) (zc hs hk (λ hs hk=>(zaX hs λ hc hs=>And.intro (And.intro (zE enc_40 4 n.Ties.get) hc) (zaX hs λ hc hs=>And.intro (And.intro (zE za7 2 bv2.get) (And.intro (zE za7 2 ((s33 n).get)) (zy (y:=s33 n) (P:=λ y=>p32 bv2 y=true) hc))) (zq (zf (s33 n) λ y=>(s32 bv2 y)) (zc hs hk (λ hs hk=>(zc hs hk (λ hs hk=>hk) (λ hs hk=>(zc hs hk (λ hs hk=>(zaX hs λ hc hs=>And.intro (And.intro (zE enc_40 4 n.Ties.get) hc) (zt hk (λ hk=>hk) (λ hk=>hk)))) (λ hs hk=>hk))))) (λ hs hk=>hk)))))) (λ hs hk=>hk))
def zuu (n:Net) (from_a1:Int) (to:Int) (bv2:(Sl Span)) (ev2:Int) (fv3:Int) (zbO:Int) (zbP:Int) (zcj:Bool) (zsP:Bool):Bool :=
  (cond zsP
 (cond (ev2 == (5:Int))
 (cond ((bv2.len : Int) == (0:Int))
 (cond (!zcj)
 true
 (cond (fv3 == (5:Int))
 (cond (match (zbO == (0:Int)) with | true => (match (zbP == (0:Int)) with | true => true | false => false) | false => false)
 true
 false)
 false))
 false)
 false)
 (zus n from_a1 to bv2 ev2 fv3 zbO zbP zcj))
def zuv (n:Net) (from_a1:Int) (to:Int) (bv2:(Sl Span)) (ev2:Int) (fv3:Int) (zbO:Int) (zbP:Int) (zcj:Bool) (zsP:Bool):Bool :=
  (cond zsP
 true
 (zut n from_a1 to bv2 ev2 fv3 zbO zbP zcj))
theorem zJV (hs:zuv n from_a1 to bv2 ev2 fv3 zbO zbP zcj zsP=true) (hk:K (e6 (zuu n from_a1 to bv2 ev2 fv3 zbO zbP zcj zsP))):z6 K [1,1,1,1,1,1,1,0,1] [] ⟨[(1,zI from_a1),(2,zI to),(3,zp 3 0),(7,zS za7 2 bv2),(8,zI ev2),(9,zp 9 0),(10,zI fv3),(11,zB zcj),(81,zB zsP)],[(3,.box 24 (zm (enc_24 n))),(9,.box 43 (zm (za7 (⟨zbO,zbP⟩:Span))))],[]⟩:=zbk (by kernel_rfl) (zc hs hk (λ hs hk=>(zt hk (λ hk=>(zt hk (λ hk=>(zt hk (λ hk=>hk) (λ hk=>(zt hk (λ hk=>(zt hk (λ hk=>hk) (λ hk=>hk))) (λ hk=>hk))))) (λ hk=>hk))) (λ hk=>hk))) (λ hs hk=>(zJU hs hk)))
def zfL (n:Net) (from_a1:Int) (to:Int) (bv2:(Sl Span)) (ev2:Int) (fv3:Int) (zbO:Int) (zbP:Int) (zcj:Bool):Bool :=
  (zuu n from_a1 to bv2 ev2 fv3 zbO zbP zcj (!(s31 n)))
def zfM (n:Net) (from_a1:Int) (to:Int) (bv2:(Sl Span)) (ev2:Int) (fv3:Int) (zbO:Int) (zbP:Int) (zcj:Bool):Bool :=
  (decide ((p31 n=true)) &&
 (zuv n from_a1 to bv2 ev2 fv3 zbO zbP zcj (!(s31 n))))
theorem zqc (hs:zfM n from_a1 to bv2 ev2 fv3 zbO zbP zcj=true) (hk:K (e6 (zfL n from_a1 to bv2 ev2 fv3 zbO zbP zcj))):z6 K [1,1,1,1,1,1,1] [] ⟨[(1,zI from_a1),(2,zI to),(3,zp 3 0),(7,zS za7 2 bv2),(8,zI ev2),(9,zp 9 0),(10,zI fv3),(11,zB zcj)],[(3,.box 24 (zm (enc_24 n))),(9,.box 43 (zm (za7 (⟨zbO,zbP⟩:Span))))],[]⟩:=zbk (by kernel_rfl) (zaX hs λ hc hs=>And.intro (And.intro (zE enc_40 4 n.Ties.get) hc) (zJV hs hk))
def zm2 (n:Net) (from_a1:Int) (to:Int) (bv2:(Sl Span)) (ev2:Int) (fv3:Int) (zbO:Int) (zbP:Int):Bool :=
  (cond (decide (from_a1 ≥ (0:Int)))
 (cond (decide (from_a1 < n.Nodes))
 (cond (decide (to ≥ (0:Int)))
 (cond (!(decide (to < n.Nodes)))
 (cond (fv3 != (2:Int))
 false
 (cond (!(match (zbO == (0:Int)) with | true => (match (zbP == (0:Int)) with | true => true | false => false) | false => false))
 false
 (zfL n from_a1 to bv2 ev2 fv3 zbO zbP (decide (to < n.Nodes)))))
 (zfL n from_a1 to bv2 ev2 fv3 zbO zbP (decide (to < n.Nodes))))
 (cond (fv3 != (2:Int))
 false
 (cond (!(match (zbO == (0:Int)) with | true => (match (zbP == (0:Int)) with | true => true | false => false) | false => false))
 false
 (zfL n from_a1 to bv2 ev2 fv3 zbO zbP false))))
 (cond (fv3 != (2:Int))
 false
 (cond (!(match (zbO == (0:Int)) with | true => (match (zbP == (0:Int)) with | true => true | false => false) | false => false))
 false
 (zfL n from_a1 to bv2 ev2 fv3 zbO zbP false))))
 (cond (fv3 != (2:Int))
 false
 (cond (!(match (zbO == (0:Int)) with | true => (match (zbP == (0:Int)) with | true => true | false => false) | false => false))
 false
 (zfL n from_a1 to bv2 ev2 fv3 zbO zbP false))))
def zm3 (n:Net) (from_a1:Int) (to:Int) (bv2:(Sl Span)) (ev2:Int) (fv3:Int) (zbO:Int) (zbP:Int):Bool :=
  (cond (decide (from_a1 ≥ (0:Int)))
 (cond (decide (from_a1 < n.Nodes))
 (cond (decide (to ≥ (0:Int)))
 (cond (!(decide (to < n.Nodes)))
 (cond (fv3 != (2:Int))
 true
 (cond (!(match (zbO == (0:Int)) with | true => (match (zbP == (0:Int)) with | true => true | false => false) | false => false))
 true
 (zfM n from_a1 to bv2 ev2 fv3 zbO zbP (decide (to < n.Nodes)))))
 (zfM n from_a1 to bv2 ev2 fv3 zbO zbP (decide (to < n.Nodes))))
 (cond (fv3 != (2:Int))
 true
 (cond (!(match (zbO == (0:Int)) with | true => (match (zbP == (0:Int)) with | true => true | false => false) | false => false))
 true
 (zfM n from_a1 to bv2 ev2 fv3 zbO zbP false))))
 (cond (fv3 != (2:Int))
 true
 (cond (!(match (zbO == (0:Int)) with | true => (match (zbP == (0:Int)) with | true => true | false => false) | false => false))
 true
 (zfM n from_a1 to bv2 ev2 fv3 zbO zbP false))))
 (cond (fv3 != (2:Int))
 true
 (cond (!(match (zbO == (0:Int)) with | true => (match (zbP == (0:Int)) with | true => true | false => false) | false => false))
 true
 (zfM n from_a1 to bv2 ev2 fv3 zbO zbP false))))
theorem zJW (hs:zm3 n from_a1 to bv2 ev2 fv3 zbO zbP=true) (hk:K (e6 (zm2 n from_a1 to bv2 ev2 fv3 zbO zbP))):z6 K [1,1,1,1,1] [] ⟨[(1,zI from_a1),(2,zI to),(3,zp 3 0),(7,zS za7 2 bv2),(8,zI ev2),(9,zp 9 0),(10,zI fv3)],[(3,.box 24 (zm (enc_24 n))),(9,.box 43 (zm (za7 (⟨zbO,zbP⟩:Span))))],[]⟩:=zbk (by kernel_rfl) (zc hs hk (λ hs hk=>(zc hs hk (λ hs hk=>(zc hs hk (λ hs hk=>(zc hs hk (λ hs hk=>(zc hs hk (λ hs hk=>hk) (λ hs hk=>(zc hs hk (λ hs hk=>hk) (λ hs hk=>(zqc hs hk)))))) (λ hs hk=>(zqc hs hk)))) (λ hs hk=>(zc hs hk (λ hs hk=>hk) (λ hs hk=>(zc hs hk (λ hs hk=>hk) (λ hs hk=>(zqc hs hk)))))))) (λ hs hk=>(zc hs hk (λ hs hk=>hk) (λ hs hk=>(zc hs hk (λ hs hk=>hk) (λ hs hk=>(zqc hs hk)))))))) (λ hs hk=>(zc hs hk (λ hs hk=>hk) (λ hs hk=>(zc hs hk (λ hs hk=>hk) (λ hs hk=>(zqc hs hk)))))))
def zm4 (n:Net) (from_a1:Int) (to:Int) (bv2:(Sl Span)) (ev2:Int) (fv3:Int) (zbO:Int) (zbP:Int) (zsO:Bool):Bool :=
  (cond zsO
 (cond (ev2 == (2:Int))
 (cond (fv3 == (2:Int))
 (cond ((bv2.len : Int) == (0:Int))
 (cond (match (zbO == (0:Int)) with | true => (match (zbP == (0:Int)) with | true => true | false => false) | false => false)
 true
 false)
 false)
 false)
 false)
 (zm2 n from_a1 to bv2 ev2 fv3 zbO zbP))
def zm5 (n:Net) (from_a1:Int) (to:Int) (bv2:(Sl Span)) (ev2:Int) (fv3:Int) (zbO:Int) (zbP:Int) (zsO:Bool):Bool :=
  (cond zsO
 true
 (zm3 n from_a1 to bv2 ev2 fv3 zbO zbP))
theorem zJX (hs:zm5 n from_a1 to bv2 ev2 fv3 zbO zbP zsO=true) (hk:K (e6 (zm4 n from_a1 to bv2 ev2 fv3 zbO zbP zsO))):z6 K [1,1,1,1,0,1] [] ⟨[(1,zI from_a1),(2,zI to),(3,zp 3 0),(7,zS za7 2 bv2),(8,zI ev2),(9,zp 9 0),(10,zI fv3),(30,zB zsO)],[(3,.box 24 (zm (enc_24 n))),(9,.box 43 (zm (za7 (⟨zbO,zbP⟩:Span))))],[]⟩:=zbk (by kernel_rfl) (zc hs hk (λ hs hk=>(zt hk (λ hk=>(zt hk (λ hk=>(zt hk (λ hk=>(zt hk (λ hk=>hk) (λ hk=>hk))) (λ hk=>hk))) (λ hk=>hk))) (λ hk=>hk))) (λ hs hk=>(zJW hs hk)))
def zAb (n:Net) (from_a1:Int) (to:Int) (bv2:(Sl Span)) (ev2:Int) (fv3:Int) (zbO:Int) (zbP:Int):Bool :=
  (zm4 n from_a1 to bv2 ev2 fv3 zbO zbP (!(s23 n)))
def zAc (n:Net) (from_a1:Int) (to:Int) (bv2:(Sl Span)) (ev2:Int) (fv3:Int) (zbO:Int) (zbP:Int):Bool :=
  (decide ((p23 n=true)) &&
 (zm5 n from_a1 to bv2 ev2 fv3 zbO zbP (!(s23 n))))
theorem zJY (hs:zAc n from_a1 to bv2 ev2 fv3 zbO zbP=true) (hk:K (e6 (zAb n from_a1 to bv2 ev2 fv3 zbO zbP))):z6 K [1,1,1,1] [] ⟨[(1,zI from_a1),(2,zI to),(3,zp 3 0),(7,zS za7 2 bv2),(8,zI ev2),(9,zp 9 0),(10,zI fv3)],[(3,.box 24 (zm (enc_24 n))),(9,.box 43 (zm (za7 (⟨zbO,zbP⟩:Span))))],[]⟩:=zbk (by kernel_rfl) (zaX hs λ hc hs=>And.intro (And.intro (zE enc_40 4 n.Ties.get) hc) (zJX hs hk))
def zAd (n:Net) (from_a1:Int) (to:Int) (bv2:(Sl Span)) (ev2:Int):Bool :=
  (zAb n from_a1 to bv2 ev2 ((s30 n from_a1 to).2) (((s30 n from_a1 to).1).Low) (((s30 n from_a1 to).1).High))
def zAe (n:Net) (from_a1:Int) (to:Int) (bv2:(Sl Span)) (ev2:Int):Bool :=
  (decide ((p30 n from_a1 to=true)) &&
 (zAc n from_a1 to bv2 ev2 ((s30 n from_a1 to).2) (((s30 n from_a1 to).1).Low) (((s30 n from_a1 to).1).High)))
theorem zJZ (hs:zAe n from_a1 to bv2 ev2=true) (hk:K (e6 (zAd n from_a1 to bv2 ev2))) (zMc:zJT=zg za7 bv2):z6 K [1,1,1] [] ⟨[(1,zI from_a1),(2,zI to),(3,zp 3 0),(7,zP (.sl bv2.len 2 zJT)),(8,zI ev2)],[(3,.box 24 (zm (enc_24 n)))],[]⟩:=by subst zMc;exact zbk (by kernel_rfl) (zaX hs λ hc hs=>And.intro (And.intro (zE enc_40 4 n.Ties.get) hc) (zJY hs hk))
def zuw (n:Net) (from_a1:Int) (to:Int):Bool :=
  (zAd n from_a1 to ((s26 n).1) ((s26 n).2))
def zux (n:Net) (from_a1:Int) (to:Int):Bool :=
  (decide ((p26 n=true)) &&
 (zAe n from_a1 to ((s26 n).1) ((s26 n).2)))
theorem zJ0 (hs:zux n from_a1 to=true) (hk:K (e6 (zuw n from_a1 to))):z6 K [1,1] [] ⟨[(1,zI from_a1),(2,zI to),(3,zp 3 0)],[(3,.box 24 (zm (enc_24 n)))],[]⟩:=zbk (by kernel_rfl) (zaX hs λ hc hs=>And.intro (And.intro (zE enc_40 4 n.Ties.get) hc) (zJZ hs hk rfl))
def zDu (n:Net) (from_a1:Int) (to:Int) (zhn:Bool):Bool :=
  (cond zhn
 true
 (zuw n from_a1 to))
def zDv (n:Net) (from_a1:Int) (to:Int) (zhn:Bool):Bool :=
  (cond zhn
 true
 (zux n from_a1 to))
theorem zJ1 (hs:zDv n from_a1 to zhn=true) (hk:K (e6 (zDu n from_a1 to zhn))):z6 K [1,0,1] [] ⟨[(1,zI from_a1),(2,zI to),(3,zp 3 0),(14,zB zhn)],[(3,.box 24 (zm (enc_24 n)))],[]⟩:=zbk (by kernel_rfl) (zc hs hk (λ hs hk=>hk) (λ hs hk=>(zJ0 hs hk)))
def s6 (n:Net) (from_a1:Int) (to:Int):Bool :=
  (zDu n from_a1 to (!(s20 n (14:Int))))
def p6 (n:Net) (from_a1:Int) (to:Int):Bool :=
  (zDv n from_a1 to (!(s20 n (14:Int))))
end
theorem q6 (n:Net) (from_a1:Int) (to:Int) (K:List PA->Prop) (hs:p6 n from_a1 to=true) (hk:K (e6 (s6 n from_a1 to))):vcFun Tryd.prog G6 zMb 6 [.agg (enc_24 n),.one (.int .i64 from_a1),.one (.int .i64 to)] K :=
  zbk (by kernel_rfl) (And.intro (zE enc_40 4 n.Ties.get) (zJ1 hs hk))
def zMP : List PA -> COut
  | [.agg [.int .i64 zaj,.sl zaf zaB zae],.one (.int .i64 a1),.one (.int .i64 a2)]=>.det (IsE enc_40 4 zaB zae/\p6 (⟨zaj,(⟨zaf,zar zae⟩:(Sl Tie))⟩:Net) a1 a2=true) [.one (.bool (s6 (⟨zaj,(⟨zaf,zar zae⟩:(Sl Tie))⟩:Net) a1 a2))]
  | _=>.no
theorem call6:zaA Tryd.prog 6:=⟨_,rfl,rfl,by kernel_rfl⟩
theorem ok6:Ok Tryd.prog 6 zMP:=zbH zNV call6 λ args K h=>by
  unfold zMP at h
  split at h
  · rename_i zaj zaf zaB zae a1 a2
    obtain⟨⟨⟨rfl,zat,rfl⟩,hs⟩,hk⟩:=h
    try rw[zao zat] at hs
    try rw[zao zat] at hk
    exact⟨(λ _ _=>[]),(λ _=>false),zMb,q6 (⟨zaj,(⟨zaf,zat⟩:(Sl Tie))⟩:Net) a1 a2 K hs hk⟩
  · exact h.elim
end Go.Proofs
namespace Go.Proofs.YtedhjaaikeakoaaDoor
open Go Go.Pm Go.ChangeShapes
set_option maxRecDepth 100000
abbrev laid1 : List (String × DataW Unit) := [("overburden/align.never", Rows.laid_overburden_align_never)]
theorem zDw : Tryd.prog.globalNamed "overburden/align.never" = some 0 := by kernel_rfl
theorem zJ2:(Tryd.prog.globals[0]?).map (·.type)=some 114:=by kernel_rfl
theorem zJ3:Tryd.prog.cellsOf 114=2:=by kernel_rfl
theorem zMQ:Tryd.prog.cellsOf 3=1:=by kernel_rfl
theorem door_met (os:Os) (args:Array Value):laidMetH Tryd.prog laid1 ((World.doorLaid Tryd.prog 400 os).forCall (λ _ _=>0) ⟨#[],args,[]⟩).memory :=
 laidMetH_of_parts3 (fuel:=8) (laidMet_of_run' 8 (by kernel_rfl) (by kernel_rfl)) (by kernel_rfl) (by kernel_rfl)
theorem gl_of {W:World}(h:laidMetH Tryd.prog laid1 W):zev (H0 W):=by
 rw[MakeChecks.laidMetH_plain _ _ _ (by kernel_rfl)] at h
 obtain⟨ps,⟨g0,t0,cs0,f0,p0,q0,hg0,ht0,hv0,hd0,_,_⟩,_,_⟩:=h
 obtain rfl:=Option.some.inj (zDw.symm.trans hg0)
 obtain rfl:=Option.some.inj (zJ2.symm.trans ht0)
 obtain⟨y0,y1,n,hx,hl,h0,h1⟩:=trod_struct2 Tryd.underlying114 hd0
 simp only[Prod.mk.injEq] at hx
 obtain⟨hx,-⟩:=hx
 simp only[Rows.laid_overburden_align_never,DataW.agg.injEq,List.cons.injEq,and_true] at hx
 obtain⟨k0,e0,d0,_⟩:=DataW.trod_int Tryd.underlying3 h0
 obtain⟨k1,e1,d1,_⟩:=DataW.trod_int Tryd.underlying3 h1
 rw[zJ3] at hl
 have e0':cs0.toList.take 1=[.int .i64 k0]:=by
  have:=e0
  rw[show Tryd.prog.cellsOf _=1 from zMQ] at this
  simpa using this
 have e1':(cs0.toList.drop 1).take 1=[.int .i64 k1]:=by
  have:=e1
  rw[show Tryd.prog.cellsOf _=1 from zMQ] at this
  simpa using this
 have hk0:k0=1000000000000:=by have:=hx.1;rw[d0] at this;injection this with a;injection a with _ a;exact a.symm
 have hk1:k1=0:=by have:=hx.2;rw[d1] at this;injection this with a;injection a with _ a;exact a.symm
 have hC:cs0.toList=[.int .i64 1000000000000,.int .i64 0]:=by
  have h2:cs0.toList=cs0.toList.take 1 ++ (cs0.toList.drop 1).take 1:=by
   rw[← List.take_add,List.take_of_length_le (by omega)]
  rw[h2,e0',e1',hk0,hk1];rfl
 intro k l hk
 unfold World.var? at hv0
 rw[zDw] at hv0
 simp only[Option.bind_some] at hv0
 cases k with
 | succ k=>cases hk
 | zero =>
  obtain rfl:[PV.int .i64 1000000000000,.int .i64 0]=l:=Option.some.inj hk
  cases eo:W.heap[0]? with
  | none=>rw[eo] at hv0;cases hv0
  | some o =>
   rw[eo] at hv0
   cases o with
   | cells C ty fr =>
    simp only[Option.some.injEq] at hv0
    subst hv0
    exact⟨_,ty,fr,by unfold H0;rw[eo];rfl,by rw[hC];exact⟨.int _ _,.int _ _,trivial⟩⟩
   | _=>cases hv0
end Go.Proofs.YtedhjaaikeakoaaDoor
namespace Go.Proofs.YtedhjaaikeakoaaDoor
set_option maxRecDepth 100000
def dc : Nat -> Nat -> List Char
  | 0,_=>[]
  | k+1,n=>Char.ofNat (n % 128) :: dc k (n / 128)
def ioR:List (List Char):=[dc 2 14945,dc 38 107265865644741724912243125268531249640326942553430557205577479631290979090791279,dc 38 108293077817484906734254386447616441263814988321737617043972465573863363972791151,dc 38 93370879016013017278412803021783510280543711028000410236402271261457424383048559,dc 38 107258694022858408970435192345127867927486736974969802526482043864463718682819439,dc 39 13746719959472648153406769131206406626558510298776447130317981093147086104311724911,dc 38 107266209769642888316488957616301258915172789321380384129051881327065490379078511,dc 39 13738338888634744287462113483281891133786406809494667074737303271467843731645365103,dc 38 107308724040215521434011850380931925905298338556088488294726402895071789331348335,dc 43 3689337697451499537899652006011379275272339788637320245734945509069109267079825879406836591,dc 38 106339254617564648824502995819756623291246721172574690728430612464564447869500271,dc 38 107330772524736890892060720350443696785457349727637599143704802418857719933533039,dc 38 107266380701743786104986999119182321999123657451770743386930499759721679104342895,dc 38 107308728471136676073553801914045189487148679029700448428114571309412341010496367,dc 37 837954515553292543489687687552621780150771894250034810644180755742461368302447,dc 38 107287017468262091873827311208814906259154281073825133055543027267698112966785903,dc 38 107374028509112486977837548216825331243033985081330090052312008930171490580134767,dc 38 107265533895345759970156929786145176805363222797160045994169685653949991330872175]
def ioN:List Char:=dc 748 14110378018767575964226655308004126793045208087310171201555892242252648960690434620806224759478349222793457564936136773140206884019406577404308477398112682127111429688458091804136369451876026010391452929509304596612007749348823331848074321521876163367611471766311661795807971626777430789606670518996161301806853738256348343737238826384171739901612950230839336053519876648582653265928992265003442337249315020340640568624042171724319570015876863120612063908539839480788963015814409324055605425425582212723687691771037045010066064867754736841809752569547023397197010564985861497252960727260554984899190782686002829257997185443421456271698218584945985148990383891392482548262956659989814614329905290488435125286744085629934720469444029598243369313538259143807170350259387234145666063103371643809341342441092158617040725699310351084585854817129011753246127748964030413854525633190715875548631480060648955255476518703717934493416584654287151545453027212072361023366870608725576042669368667333719675724995494706645777621137060304017521484702088503639607947747215026989263530504204523251982333933107210391579300884546305432560571086131943194743723205005815139772394062686780566686930384812217785365992657908782936586832589627342388339882126362151219006413773645814561079952905486963953952063552645778936398310246717058410743450648594152841163565946295251582585294350653230459132165827590128826417871324965536217148578987470925657879977171716100377657863588641203253643922875913460814715430695689192746980757875303892414899783421563436119681070640173712093473782554642421452415184974056
theorem ioS:Tryd.prog.initOrder=String.ofList ioN:=by kernel_rfl
theorem ioL:Tryd.prog.initOrder.toList=ioN:=(congrArg String.toList ioS).trans String.toList_ofList
theorem ioW:wordsSigns Tryd.prog.initOrder.toList=(dc 7 509754063237352) :: (dc 64 583581952082889979719035725534559484815115086455805852996510235646750355970935781905203483690318741732481452225105900421668580921071669) :: (dc 3 1915619) :: ioR:=(congrArg wordsSigns ioL).trans (by kernel_rfl)
theorem ioB:behindMainWord (wordsSigns Tryd.prog.initOrder.toList)=(dc 3 1915619) :: ioR:=(congrArg behindMainWord ioW).trans (by kernel_rfl)
theorem zqd {P : Program} {l : List (List Char)} (h : behindMainWord (wordsSigns P.initOrder.toList) = l) : P.headLifts = (if (stripLifts liftWords l).2.head? == some "cut".toList then (stripLifts liftWords l).1 else []) := by subst h; rfl
theorem zG2 {P:Program}{rest:List (List Char)}(h:behindMainWord (wordsSigns P.initOrder.toList)=(dc 3 1915619) :: rest):P.make=some .cut:=by unfold Program.make;rw[h];rfl
theorem zCj {P:Program}{rest:List (List Char)}(h:behindMainWord (wordsSigns P.initOrder.toList)=(dc 3 1915619) :: rest) (hl:P.headLifts=[]):P.liftsFinal=false:=by unfold Program.liftsFinal;rw[h,hl];rfl
theorem zG3 {P : Program} {a b : List Char} {rest : List (List Char)} (h : wordsSigns P.initOrder.toList = a :: b :: rest) (hs : isSumSigns b = true) (ha : (a == "harness".toList) = true) : P.mainIs = some (true, b) := by unfold Program.mainIs; rw [h]; simp only [hs, ha]; rfl
theorem zCk {P : Program} {c : List Char} {rest : List (List Char)} (h : behindMainWord (wordsSigns P.initOrder.toList) = c :: rest) (hst : (stripLifts liftWords (c :: rest)).2.head? = some "cut".toList)
    (hs1:(stripLifts liftWords (c :: rest)).1=[]) (hlay:P.laysLater=false) (hb:P.bearsReflect=false) (hd:P.doorFits []=true):P.mayEnter=true:=by
  unfold Program.mayEnter
  rw[h]
  simp[hst,hs1,hlay,hb,hd]
theorem ioH:Tryd.prog.headLifts=[]:=(zqd ioB).trans (by kernel_rfl)
theorem ioK:Tryd.prog.make=some .cut:=zG2 ioB
theorem ioF:Tryd.prog.liftsFinal=false:=zCj ioB ioH
theorem ioM : Tryd.prog.mainIs = some (true, "5097d02014b7f9bdc457588f16a61179f96daee4a085c0a2c5462d863db43dbf".toList) := (zG3 ioW (by kernel_rfl) (by kernel_rfl)).trans (by kernel_rfl)
theorem ioE:Tryd.prog.mayEnter=true:=zCk ioB (by kernel_rfl) (by kernel_rfl) (by kernel_rfl) (by kernel_rfl) (by kernel_rfl)
end Go.Proofs.YtedhjaaikeakoaaDoor
namespace Go.Pm
open Go

theorem zcw {x:Int}(h1 : -9223372036854775808≤x) (h2:x≤9223372036854775807):w64 x=x:=by
 have hb:IntKind.i64.bits=64:=rfl
 have hs:IntKind.i64.signed=true:=rfl
 unfold w64 IntKind.wrap
 rw[hb,hs]
 simp only[Bool.true_and,decide_eq_true_eq]
 split <;> omega
def zMR (c : Nat -> Bool) : Nat -> Nat -> Nat
  | 0,i=>i
  | m+1,i=>match c i with | true=>i | false=>zMR c m (i+1)
def fst (c:Nat->Bool) (n:Nat):Nat:=zMR c n 0
theorem zow {good : Nat -> Bool}{fin : Bool}{n : Nat}{lpS lpP : Nat -> Int -> Bool}
    (hS:∀ (k i:Nat),i < n->lpS (k+1) (i:Int)=cond (good i) (lpS k (w64 ((i:Int)+(1:Int)))) false)
    (hE:∀ k,lpS (k+1) (n:Int)=fin)
    (hP:∀ (k i:Nat),i < n->lpP (k+1) (i:Int)=cond (good i) (lpP k (w64 ((i:Int)+(1:Int)))) true)
    (hPE:∀ k,lpP (k+1) (n:Int)=true) (hn:n≤9223372036854775807) :
    lpP Fuel 0=true/\(lpS Fuel 0=true↔(∀ i,i < n->good i=true)/\fin=true):=by
  have key:∀ (m k i:Nat),i+m=n->m < k->lpP k (i:Int)=true/\(lpS k (i:Int)=true↔(∀ j,i≤j->j < n->good j=true)/\fin=true):=by
    intro m
    induction m with
    | zero =>
      intro k i hi hk
      obtain⟨k,rfl⟩:∃ k',k=k'+1:=⟨k - 1,by omega⟩
      have:i=n:=by omega
      subst this
      rw[hE,hPE]
      exact⟨rfl,⟨λ h=>⟨λ j h1 h2=>absurd h2 (by omega),h⟩,λ h=>h.2⟩⟩
    | succ m ih =>
      intro k i hi hk
      obtain⟨k,rfl⟩:∃ k',k=k'+1:=⟨k - 1,by omega⟩
      rw[hS k i (by omega),hP k i (by omega)]
      have e3:w64 ((i:Int)+1)=((i+1:Nat):Int):=by rw[zcw (by omega) (by omega)];omega
      rw[e3]
      obtain⟨h1,h2⟩:=ih k (i+1) (by omega) (by omega)
      cases hg:good i
      · refine⟨rfl, ⟨λ h => (by cases h), λ h => ?_⟩⟩
        have:=h.1 i (Nat.le_refl _) (by omega)
        rw[hg] at this;cases this
      · refine⟨h1, h2.trans ⟨λ h => ⟨λ j hj1 hj2 => ?_, h.2⟩, λ h => ⟨λ j hj1 hj2 => h.1 j (by omega) hj2, h.2⟩⟩⟩
        by_cases hji:j=i
        · rw[hji];exact hg
        · exact h.1 j (by omega) hj2
  have:=key n Fuel 0 (by omega) (by simp only[Fuel];omega)
  simpa using this

end Go.Pm
namespace Go.Pm
open Go
theorem zj4 {i n:Nat}(h:i < n) (hn:n≤9223372036854775807):w64 ((i:Int)+(1:Int))=((i+1:Nat):Int):=by
 rw[zcw (by omega) (by omega)];omega
theorem zG4 {β : Type}{good : Nat -> Bool}{bad fin : β}{finP : Bool}{n : Nat}{lpS : Nat -> Int -> β}{lpP : Nat -> Int -> Bool}
    (hS:∀ (k i:Nat),i < n->lpS (k+1) (i:Int)=cond (good i) (lpS k (w64 ((i:Int)+(1:Int)))) bad)
    (hE:∀ k,lpS (k+1) (n:Int)=fin)
    (hP:∀ (k i:Nat),i < n->lpP (k+1) (i:Int)=cond (good i) (lpP k (w64 ((i:Int)+(1:Int)))) true)
    (hPE:∀ k,lpP (k+1) (n:Int)=finP) (hn:n≤9223372036854775807) :
    ((∀ i,i < n->good i=true)->lpP Fuel 0=finP/\lpS Fuel 0=fin)/\((¬ ∀ i,i < n->good i=true)->lpP Fuel 0=true/\lpS Fuel 0=bad):=by
  have key:∀ (m k i:Nat),i+m=n->m < k->((∀ j,i≤j->j < n->good j=true)->lpP k (i:Int)=finP/\lpS k (i:Int)=fin)/\((¬ ∀ j,i≤j->j < n->good j=true)->lpP k (i:Int)=true/\lpS k (i:Int)=bad):=by
    intro m
    induction m with
    | zero =>
      intro k i hi hk
      obtain⟨k,rfl⟩:∃ k',k=k'+1:=⟨k - 1,by omega⟩
      have:i=n:=by omega
      subst this
      rw[hE,hPE]
      exact⟨λ _=>⟨rfl,rfl⟩,λ h=>absurd (λ j h1 h2=>absurd h2 (by omega)) h⟩
    | succ m ih =>
      intro k i hi hk
      obtain⟨k,rfl⟩:∃ k',k=k'+1:=⟨k - 1,by omega⟩
      rw[hS k i (by omega),hP k i (by omega),zj4 (n:=n) (by omega) hn]
      obtain⟨h1,h2⟩:=ih k (i+1) (by omega) (by omega)
      cases hg:good i
      · refine⟨λ h => ?_, λ _ => ⟨rfl, rfl⟩⟩
        have:=h i (Nat.le_refl _) (by omega)
        rw[hg] at this;cases this
      · refine⟨λ h => h1 λ j a b => h j (by omega) b, λ h => h2 λ h' => h λ j a b => ?_⟩
        by_cases hji:j=i
        · rw[hji];exact hg
        · exact h' j (by omega) b
  have:=key n Fuel 0 (by omega) (by simp only[Fuel];omega)
  simpa using this
def zmm {σ : Type}(step : Nat -> σ -> σ) : Nat -> Nat -> σ -> σ
  | 0,_,s=>s
  | m+1,i,s=>zmm step m (i+1) (step i s)
theorem zqe {σ β : Type}{step : Nat -> σ -> σ}{E : σ -> β}{EP : σ -> Bool}{Inv : Nat -> σ -> Prop}{a n : Nat}{lpS : Nat -> σ -> Int -> β}{lpP : Nat -> σ -> Int -> Bool}
    (hS:∀ (k i:Nat) (s:σ),a≤i->i < n->Inv i s->lpS (k+1) s (i:Int)=lpS k (step i s) (w64 ((i:Int)+(1:Int))))
    (hE:∀ k s,lpS (k+1) s (n:Int)=E s)
    (hP:∀ (k i:Nat) (s:σ),a≤i->i < n->Inv i s->lpP (k+1) s (i:Int)=lpP k (step i s) (w64 ((i:Int)+(1:Int))))
    (hPE:∀ k s,lpP (k+1) s (n:Int)=EP s)
    (hI:∀ i s,a≤i->i < n->Inv i s->Inv (i+1) (step i s)) (ha:a≤n) (hn:n≤9223372036854775807) (s:σ) (h0:Inv a s) :
    lpP Fuel s (a:Int)=EP (zmm step (n - a) a s)/\lpS Fuel s (a:Int)=E (zmm step (n - a) a s):=by
  have key:∀ (m k i:Nat) (s:σ),a≤i->i+m=n->m < k->Inv i s->lpP k s (i:Int)=EP (zmm step m i s)/\lpS k s (i:Int)=E (zmm step m i s):=by
    intro m
    induction m with
    | zero =>
      intro k i s h1 hi hk _
      obtain⟨k,rfl⟩:∃ k',k=k'+1:=⟨k - 1,by omega⟩
      have:i=n:=by omega
      subst this
      rw[hE,hPE]
      exact⟨rfl,rfl⟩
    | succ m ih =>
      intro k i s h1 hi hk hs
      obtain⟨k,rfl⟩:∃ k',k=k'+1:=⟨k - 1,by omega⟩
      rw[hS k i s h1 (by omega) hs,hP k i s h1 (by omega) hs,zj4 (n:=n) (by omega) hn]
      exact ih k (i+1) (step i s) (by omega) (by omega) (by omega) (hI i s h1 (by omega) hs)
  exact key (n - a) Fuel a s (Nat.le_refl _) (by omega) (by simp only[Fuel];omega) h0
end Go.Pm
namespace Go.Proofs
open Go Go.Pm
set_option maxRecDepth 100000
set_option linter.unusedVariables false
attribute [local irreducible] Go.Pm.vcFun Go.Pm.vc Go.Pm.vcIter
end Go.Proofs
namespace Go.Proofs
open Go Go.Pm
set_option maxRecDepth 100000
theorem zqf (n a b:Int):s81 n a b=decide (a≤n/\n≤b):=by
 unfold s81
 by_cases h:a≤n
 ·rw[decide_eq_true (show n ≥ a from h),cond_true];exact decide_eq_decide.2 ⟨λ k=>⟨h,k⟩,λ k=>k.2⟩
 ·rw[decide_eq_false (show ¬ n ≥ a from h),cond_false];exact (decide_eq_false (λ k=>h k.1)).symm
theorem zDx (n a b:Int):s72 n a b=decide (a≤n/\n≤b):=zqf n a b
theorem zDy (n:Net) (hn:n.Ties.len≤9223372036854775807):p67 n=true/\(s67 n=true↔(∀ i,i < n.Ties.len->s78 (n.Ties.get i) n.Nodes=true)/\(1≤n.Nodes/\n.Nodes≤40)/\n.Ties.len≤200):=by
  have := zow (good := λ i => s78 (n.Ties.get i) n.Nodes) (fin := cond (s81 n.Nodes (1:Int) (40:Int)) (decide ((n.Ties.len : Int) ≤ (200:Int))) false) (n := n.Ties.len) (lpS := ziK n) (lpP := ziL n)
    (λ k i hi=>by
      show ziI n (ziK n k) (i:Int)=_
      generalize ziK n k=S
      unfold ziI zq8
      rw[decide_eq_true (show (i:Int) < (n.Ties.len:Int) by omega),cond_true,Int.toNat_natCast]
      cases s78 (n.Ties.get i) n.Nodes <;> rfl)
    (λ k=>by
      show ziI n (ziK n k) (n.Ties.len:Int)=_
      unfold ziI
      rw[decide_eq_false (show ¬ (n.Ties.len:Int) < (n.Ties.len:Int) by omega),cond_false])
    (λ k i hi=>by
      show ziJ n (ziL n k) (i:Int)=_
      generalize ziL n k=S
      unfold ziJ zq9
      rw[decide_eq_true (show (i:Int) < (n.Ties.len:Int) by omega),cond_true,Int.toNat_natCast,decide_eq_true (show 0≤(i:Int)/\(i:Int) < (n.Ties.len:Int) by omega),Bool.true_and]
      cases s78 (n.Ties.get i) n.Nodes <;> rfl)
    (λ k=>by
      show ziJ n (ziL n k) (n.Ties.len:Int)=_
      unfold ziJ
      rw[decide_eq_false (show ¬ (n.Ties.len:Int) < (n.Ties.len:Int) by omega),cond_false])
    hn
  refine⟨this.1,this.2.trans ?_⟩
  rw[zqf]
  by_cases h:1≤n.Nodes/\n.Nodes≤40
  · rw[decide_eq_true h,cond_true,decide_eq_true_eq];exact⟨λ k=>⟨k.1,h,by omega⟩,λ k=>⟨k.1,by omega⟩⟩
  · rw[decide_eq_false h,cond_false];exact⟨λ k=>absurd k.2 (by decide),λ k=>absurd k.2.1 h⟩
end Go.Proofs
namespace Go.Proofs
open Go Go.Pm
set_option maxRecDepth 100000
set_option linter.unusedVariables false
attribute [local irreducible] Go.Pm.vcFun Go.Pm.vc Go.Pm.vcIter
section
variable {K:List PA->Prop}{t:Tie}{values:(Sl Int)}
end
section
variable {K:List PA->Prop}{n:Net}{values:(Sl Int)}{iv1:Int}{X1:St->Prop}{P1:Int->Bool}{S1:Int->Bool}{iv2:Int}{zMd:Bool}
end
section
variable {K:List PA->Prop}{n:Net}{values:(Sl Int)}{zj3:Bool}{iv2:Int}{X2:St->Prop}{P2:Int->Bool}{S2:Int->Bool}{iv3:Int}{zNW:Bool}
end
section
variable {K:List PA->Prop}{n:Net}{values:(Sl Int)}{zNX:Bool}{zMd:Int}{X2:St->Prop}{P2:Int->Bool}{S2:Int->Bool}{zNY:Int}{zNZ:Bool}{zN0:Int}{X5:St->Prop}{P5:Int->Bool}{S5:Int->Bool}
end
section
variable {K:List PA->Prop}{n:Net}
end
end Go.Proofs
namespace Go.Proofs
open Go Go.Pm
set_option maxRecDepth 100000
set_option linter.unusedVariables false
theorem dgt (x y:Int):decide (x > y) = !decide (x≤y):=by
 by_cases h:x > y
 ·rw[decide_eq_true h,decide_eq_false (show ¬ x≤y by omega)];rfl
 ·rw[decide_eq_false h,decide_eq_true (show x≤y by omega)];rfl
theorem zDz (nodes:Int) (t:Tie):s36 nodes t=s78 t nodes:=by
 unfold s36 zi5 zsx s78 zk8 zk7
 simp only[zDx,zqf,bne,dgt]
 generalize decide (0≤t.From/\t.From≤w64 (nodes - (1:Int)))=a
 generalize decide (0≤t.To/\t.To≤w64 (nodes - (1:Int)))=b
 generalize (t.From == t.To)=c
 generalize (t.Low == (-1000000000000:Int))=d
 generalize (t.High == (1000000000000:Int))=e
 generalize decide (-1000000000≤t.Low/\t.Low≤1000000000)=f
 generalize decide (-1000000000≤t.High/\t.High≤1000000000)=g
 generalize decide (t.Low≤t.High)=h
 cases a <;> cases b <;> cases c <;> cases d <;> cases e <;> cases f <;> cases g <;> cases h <;> rfl
structure TieOk (t : Tie) (nodes : Int) : Prop where
  f0:0≤t.From
  f1:t.From < nodes
  t0:0≤t.To
  t1:t.To < nodes
  ne:t.From ≠ t.To
  lo:t.Low = -1000000000000∨(-1000000000≤t.Low/\t.Low≤1000000000)
  hi:t.High=1000000000000∨(-1000000000≤t.High/\t.High≤1000000000)
  le:t.Low≤t.High
theorem zAf (t:Tie) (nodes:Int) (h1:1≤nodes) (h2:nodes≤40):s78 t nodes=true↔TieOk t nodes:=by
 have e:s78 t nodes=(decide (0≤t.From/\t.From < nodes) && (decide (0≤t.To/\t.To < nodes) && (!(t.From == t.To) && (((t.Low == (-1000000000000:Int)) || decide (-1000000000≤t.Low/\t.Low≤1000000000)) && (((t.High == (1000000000000:Int)) || decide (-1000000000≤t.High/\t.High≤1000000000)) && decide (t.Low≤t.High)))))):=by
  unfold s78 zk8 zk7
  rw[zcw (x:=nodes - 1) (by omega) (by omega)]
  simp only[zqf]
  rw[decide_eq_decide.2 (show (0≤t.From/\t.From≤nodes - 1)↔(0≤t.From/\t.From < nodes) by omega),decide_eq_decide.2 (show (0≤t.To/\t.To≤nodes - 1)↔(0≤t.To/\t.To < nodes) by omega)]
  simp only[bne]
  generalize decide (0≤t.From/\t.From < nodes)=a
  generalize decide (0≤t.To/\t.To < nodes)=b
  generalize (t.From == t.To)=c
  generalize (t.Low == (-1000000000000:Int))=d
  generalize (t.High == (1000000000000:Int))=e
  generalize decide (-1000000000≤t.Low/\t.Low≤1000000000)=f
  generalize decide (-1000000000≤t.High/\t.High≤1000000000)=g
  generalize decide (t.Low≤t.High)=h
  cases a <;> cases b <;> cases c <;> cases d <;> cases e <;> cases f <;> cases g <;> cases h <;> rfl
 rw[e]
 simp only[Bool.and_eq_true,Bool.or_eq_true,decide_eq_true_eq,Bool.not_eq_true',beq_eq_false_iff_ne,beq_iff_eq]
 constructor
 ·rintro⟨⟨a,b⟩,⟨c,d⟩,e,f,g,h⟩;exact⟨a,b,c,d,e,f,g,h⟩
 ·rintro⟨a,b,c,d,e,f,g,h⟩;exact⟨⟨a,b⟩,⟨c,d⟩,e,f,g,h⟩
structure NetOk (n : Net) : Prop where
  n1:1≤n.Nodes
  n40:n.Nodes≤40
  len:n.Ties.len≤200
  tie:∀ i,i < n.Ties.len->TieOk (n.Ties.get i) n.Nodes
theorem zAg (n:Net) (hn:n.Ties.len≤9223372036854775807):p67 n=true/\(s67 n=true↔NetOk n):=by
 obtain⟨h1,h2⟩:=zDy n hn
 refine⟨h1,h2.trans ?_⟩
 constructor
 ·rintro⟨a,⟨b,c⟩,d⟩;exact⟨b,c,by omega,λ i hi=>(zAf _ _ b c).1 (a i hi)⟩
 ·rintro⟨b,c,d,a⟩;exact⟨λ i hi=>(zAf _ _ b c).2 (a i hi),⟨b,c⟩,by omega⟩
theorem zJ4 (n:Net) (hn:n.Ties.len≤9223372036854775807):p23 n=true/\s23 n=s67 n:=by
  have hl := zow (good := λ i => s36 n.Nodes (n.Ties.get i)) (fin := true) (n := n.Ties.len) (lpS := zhz n) (lpP := zi8 n)
    (λ k i hi=>by
      show zi6 n (zhz n k) (i:Int)=_
      generalize zhz n k=S
      unfold zi6 zsz
      rw[decide_eq_true (show (i:Int) < (n.Ties.len:Int) by omega),cond_true,Int.toNat_natCast]
      cases s36 n.Nodes (n.Ties.get i) <;> rfl)
    (λ k=>by
      show zi6 n (zhz n k) (n.Ties.len:Int)=_
      unfold zi6
      rw[decide_eq_false (show ¬ (n.Ties.len:Int) < (n.Ties.len:Int) by omega),cond_false])
    (λ k i hi=>by
      show zi7 n (zi8 n k) (i:Int)=_
      generalize zi8 n k=S
      unfold zi7 zsA
      rw[decide_eq_true (show (i:Int) < (n.Ties.len:Int) by omega),cond_true,Int.toNat_natCast,decide_eq_true (show 0≤(i:Int)/\(i:Int) < (n.Ties.len:Int) by omega),Bool.true_and]
      cases s36 n.Nodes (n.Ties.get i) <;> rfl)
    (λ k=>by
      show zi7 n (zi8 n k) (n.Ties.len:Int)=_
      unfold zi7
      rw[decide_eq_false (show ¬ (n.Ties.len:Int) < (n.Ties.len:Int) by omega),cond_false])
    hn
  obtain⟨h1,h2⟩:=zDy n hn
  unfold p23 s23 zoq zop zsE zsD zsC zsB
  rw[hl.1,zDx,dgt]
  refine⟨by cases decide (1≤n.Nodes/\n.Nodes≤40) <;> cases decide ((n.Ties.len:Int)≤200) <;> rfl,?_⟩
  have h3:=hl.2
  have h4:zhz n Fuel 0=true↔∀ i,i < n.Ties.len->s78 (n.Ties.get i) n.Nodes=true:=h3.trans ⟨λ h i hi=>by rw[← zDz];exact h.1 i hi,λ h=>⟨λ i hi=>by rw[zDz];exact h i hi,rfl⟩⟩
  rw[Bool.eq_iff_iff,h2]
  by_cases a:1≤n.Nodes/\n.Nodes≤40
  · rw[decide_eq_true a]
    by_cases b:(n.Ties.len:Int)≤200
    · rw[decide_eq_true b];exact h4.trans ⟨λ h=>⟨h,a,by omega⟩,λ h=>h.1⟩
    · rw[decide_eq_false b];exact⟨λ h=>absurd h Bool.false_ne_true,λ h=>absurd h.2.2 (by omega)⟩
  · rw[decide_eq_false a];exact⟨λ h=>absurd h Bool.false_ne_true,λ h=>absurd h.2.1 a⟩
structure ValOk (n : Net) (v : Sl Int) : Prop where
  len:(v.len:Int)=n.Nodes
  zero:v.get 0=0
  b:∀ i,i < v.len->-1000000000000≤v.get i/\v.get i≤1000000000000
def Keep (t:Tie) (v:Sl Int):Prop:=(t.Low = -1000000000000∨t.Low≤v.get t.To.toNat - v.get t.From.toNat)/\(t.High=1000000000000∨v.get t.To.toNat - v.get t.From.toNat≤t.High)
structure AgOk (n : Net) (v : Sl Int) : Prop where
  val:ValOk n v
  keep:∀ i,i < n.Ties.len->Keep (n.Ties.get i) v
theorem zAh {n:Net}{t:Int}(h:s20 n t=true) (ht:t≤210):n.Ties.len≤210:=by
 unfold s20 at h
 by_cases h1:(n.Ties.len:Int)≤t
 ·omega
 ·by_cases h2 : (n.Ties.len : Int) ≤ 210
  ·omega
  ·rw[decide_eq_false h1, decide_eq_false h2] at h
   exact absurd h (by cases decide (n.Nodes≤7) <;> cases decide (n.Nodes > 40) <;> cases decide ((n.Ties.len:Int) > 200) <;> decide)
end Go.Proofs
namespace Go.Pm
structure Ed where
  u:Nat
  v:Nat
  w:Int
def wt : List Ed -> Int
  | []=>0
  | e :: l=>e.w+wt l
theorem zio (c d:List Ed):wt (c ++ d)=wt c+wt d:=by
 induction c with
 | nil=>show wt d=0+wt d;omega
 | cons e l ih=>show e.w+wt (l ++ d)=e.w+wt l+wt d;omega
theorem zjJ (e:Ed):wt [e]=e.w:=Int.add_zero _
def zgz (E : List Ed) : Nat -> List Ed -> Nat -> Prop
  | a,[],b=>a=b
  | a,e :: l,b=>e∈E/\e.u=a/\zgz E e.v l b
theorem zdy {E:List Ed}{c d:List Ed}{a b:Nat} : zgz E a (c ++ d) b↔∃ m,zgz E a c m/\zgz E m d b:=by
 induction c generalizing a with
 | nil=>exact⟨λ h=>⟨a,rfl,h⟩,λ ⟨m,h1,h2⟩=>by cases h1;exact h2⟩
 | cons e l ih =>
  constructor
  ·rintro⟨h1, h2, h3⟩
   obtain⟨m,k1,k2⟩:=ih.1 h3
   exact⟨m,⟨h1,h2,k1⟩,k2⟩
  ·rintro⟨m, ⟨h1, h2, h3⟩, h4⟩
   exact⟨h1,h2,ih.2 ⟨m,h3,h4⟩⟩
theorem zd0 {E:List Ed}{e:Ed}(h:e∈E):zgz E e.u [e] e.v:=⟨h,rfl,rfl⟩
def zbZ (E:List Ed):Prop:=∀ a c,zgz E a c a->0≤wt c
abbrev zcb:=Nat->Option Int
def zjl (d:zcb) (v:Nat) (x:Int):zcb:=λ j=>if j=v then some x else d j
def ltO (x : Int) : Option Int -> Bool
  | none=>true
  | some y=>decide (x < y)
def rlF (s:zcb×Bool) (e:Ed):zcb×Bool :=
 match s.1 e.u with
 | none=>s
 | some x=>cond (ltO (x+e.w) (s.1 e.v)) (zjl s.1 e.v (x+e.w),true) s
def Sat (d:zcb) (e:Ed):Prop:=∀ x,d e.u=some x->∃ y,d e.v=some y/\y≤x+e.w
theorem zl9 {x:Int}{o:Option Int}(h:ltO x o=false):∃ y,o=some y/\y≤x:=by
 cases o with
 | none=>cases h
 | some y=>exact⟨y,rfl,Int.not_lt.1 (of_decide_eq_false h)⟩
theorem zJ5 {x y:Int}(h:y≤x):ltO x (some y)=false:=decide_eq_false (Int.not_lt.2 h)
theorem zsQ {d:zcb}{c:Bool}{e:Ed}(h:Sat d e):rlF (d,c) e=(d,c):=by
 unfold rlF
 cases hu:d e.u with
 | none=>simp only[hu]
 | some x =>
  obtain⟨y,h1,h2⟩:=h x hu
  simp only[hu,h1,zJ5 h2,cond_false]
theorem zAi {d:zcb}{c:Bool}{e:Ed}(h : ¬ Sat d e):(rlF (d,c) e).2=true:=by
 unfold rlF
 cases hu:d e.u with
 | none=>exact absurd (λ x hx=>by rw[hu] at hx;cases hx) h
 | some x =>
  simp only[hu]
  cases hl:ltO (x+e.w) (d e.v)
  ·obtain⟨y, h1, h2⟩ := zl9 hl
   exact absurd (λ x' hx'=>⟨y,h1,by rw[hu] at hx';cases hx';exact h2⟩) h
  ·rfl
theorem zCl {s:zcb×Bool}{e:Ed}(h:s.2=true):(rlF s e).2=true:=by
 unfold rlF
 cases s.1 e.u with
 | none=>exact h
 | some x=>simp only[];cases ltO (x+e.w) (s.1 e.v) <;> first | exact h | rfl
theorem zAj {E:List Ed}{s:zcb×Bool}(h:s.2=true):(E.foldl rlF s).2=true:=by
 induction E generalizing s with
 | nil=>exact h
 | cons e l ih=>exact ih (zCl h)
theorem ziq {E:List Ed}{d:zcb}{c:Bool}(h:∀ e∈E,Sat d e):E.foldl rlF (d,c)=(d,c):=by
 induction E with
 | nil=>rfl
 | cons e l ih =>
  show l.foldl rlF (rlF (d,c) e)=_
  rw[zsQ (h e (List.mem_cons_self ..))]
  exact ih λ e he=>h e (List.mem_cons_of_mem _ he)
theorem zgU {E:List Ed}{d:zcb}{c:Bool}(h:(E.foldl rlF (d,c)).2=false):∀ e∈E,Sat d e:=by
 induction E with
 | nil=>intro e he;cases he
 | cons e l ih =>
  have h':(l.foldl rlF (rlF (d,c) e)).2=false:=h
  have hs:Sat d e:=Classical.byContradiction λ hn=>by
   rw[zAj (zAi hn)] at h';cases h'
  rw[zsQ hs] at h'
  intro e' he'
  rcases List.mem_cons.1 he' with rfl | hm
  ·exact hs
  ·exact ih h' e' hm
def leO (a b:Option Int):Prop:=∀ y,b=some y->∃ x,a=some x/\x≤y
theorem zc9 (a:Option Int):leO a a:=λ y h=>⟨y,h,Int.le_refl _⟩
theorem zcM {a b c:Option Int}(h1:leO a b) (h2:leO b c):leO a c:=λ y h=>by
 obtain⟨x,hx,hxy⟩:=h2 y h
 obtain⟨z,hz,hzx⟩:=h1 x hx
 exact⟨z,hz,Int.le_trans hzx hxy⟩
theorem zAk (s:zcb×Bool) (e:Ed) (v:Nat):leO ((rlF s e).1 v) (s.1 v):=by
 unfold rlF
 cases hu:s.1 e.u with
 | none=>exact zc9 _
 | some x =>
  simp only[]
  cases hl:ltO (x+e.w) (s.1 e.v)
  ·exact zc9 _
  ·show leO (zjl s.1 e.v (x + e.w) v) _
   unfold zjl
   by_cases hv:v=e.v
   ·rw[if_pos hv]
    intro y hy
    refine⟨_,rfl,?_⟩
    rw[hv] at hy
    rw[hy] at hl
    exact Int.le_of_lt (of_decide_eq_true hl)
   ·rw[if_neg hv];exact zc9 _
theorem zAl (E:List Ed) (s:zcb×Bool) (v:Nat):leO ((E.foldl rlF s).1 v) (s.1 v):=by
 induction E generalizing s with
 | nil=>exact zc9 _
 | cons e l ih=>exact zcM (ih (rlF s e)) (zAk s e v)
theorem zJ6 {s:zcb×Bool}{e:Ed}{x:Int}(h:s.1 e.u=some x):leO ((rlF s e).1 e.v) (some (x+e.w)):=by
 unfold rlF
 simp only[h]
 cases hl:ltO (x+e.w) (s.1 e.v)
 ·obtain⟨y, h1, h2⟩ := zl9 hl
  intro z hz;cases hz
  exact⟨y,h1,h2⟩
 ·intro z hz; cases hz
  exact⟨x+e.w,by show zjl s.1 e.v (x+e.w) e.v=_;unfold zjl;rw[if_pos rfl],Int.le_refl _⟩
theorem zCm {E:List Ed}{s:zcb×Bool}{e:Ed}{x:Int}(he:e∈E) (h:s.1 e.u=some x):leO ((E.foldl rlF s).1 e.v) (some (x+e.w)):=by
 induction E generalizing s x with
 | nil=>cases he
 | cons f l ih =>
  rcases List.mem_cons.1 he with rfl | hm
  ·exact zcM (zAl l (rlF s e) e.v) (zJ6 h)
  ·obtain⟨x', h1, h2⟩ := zAk s f e.u x h
   intro z hz;cases hz
   obtain⟨y,k1,k2⟩:=ih hm h1 _ rfl
   exact⟨y,k1,by omega⟩
def rnd (E:List Ed) (d:zcb):zcb:=(E.foldl rlF (d,false)).1
def rds (E : List Ed) : Nat -> zcb -> zcb
  | 0,d=>d
  | k+1,d=>rds E k (rnd E d)
theorem zqg (E:List Ed) (k:Nat) (d:zcb) (v:Nat):leO (rds E k d v) (d v):=by
 induction k generalizing d with
 | zero=>exact zc9 _
 | succ k ih=>exact zcM (ih (rnd E d)) (zAl E (d,false) v)
theorem zJ7 {E:List Ed}{c:List Ed} : ∀ {a b k:Nat}{d:zcb}{y:Int},zgz E a c b->d a=some y->c.length≤k->leO (rds E k d b) (some (y+wt c)):=by
 induction c with
 | nil =>
  intro a b k d y h hd _
  cases h
  intro z hz;cases hz
  obtain⟨x,h1,h2⟩:=zqg E k d a y hd
  exact⟨x,h1,by show x≤y+0;omega⟩
 | cons e l ih =>
  intro a b k d y h hd hk
  obtain⟨k,rfl⟩:∃ k',k=k'+1:=⟨k - 1,by simp only[List.length_cons] at hk;omega⟩
  obtain⟨h1,h2,h3⟩:=h
  subst h2
  obtain⟨x,k1,k2⟩:=zCm (s:=(d,false)) h1 hd _ rfl
  intro z hz;cases hz
  obtain⟨z,m1,m2⟩:=ih (k:=k) (d:=rnd E d) h3 k1 (by simp only[List.length_cons] at hk;omega) _ rfl
  exact⟨z,m1,by show z≤y+(e.w+wt l);omega⟩
def Fix (E:List Ed) (d:zcb):Prop:=∀ e∈E,Sat d e
theorem zhE {E:List Ed}{d:zcb}(h:Fix E d):rnd E d=d:=by unfold rnd;rw[ziq h]
theorem zsR {E:List Ed}{d:zcb}(h:Fix E d) (k:Nat):rds E k d=d:=by
 induction k with
 | zero=>rfl
 | succ k ih=>show rds E k (rnd E d)=d;rw[zhE h,ih]
theorem zJ8 {E:List Ed}{d:zcb}(h:Fix E d){c:List Ed} : ∀ {a b:Nat}{x:Int},zgz E a c b->d a=some x->∃ y,d b=some y/\y≤x+wt c:=by
 induction c with
 | nil=>intro a b x hc hx;cases hc;exact⟨x,hx,by show x≤x+0;omega⟩
 | cons e l ih =>
  rintro a b x ⟨h1,h2,h3⟩ hx
  subst h2
  obtain⟨y,k1,k2⟩:=h e h1 x hx
  obtain⟨z,m1,m2⟩:=ih h3 k1
  exact⟨z,m1,by show z≤x+(e.w+wt l);omega⟩
theorem zma (n:Nat):∀ {l:List Nat},l.Nodup->(∀ x∈l,x < n)->l.length≤n:=by
 induction n with
 | zero =>
  intro l _ h
  cases l with
  | nil=>exact Nat.le_refl _
  | cons x l=>exact absurd (h x (List.mem_cons_self ..)) (Nat.not_lt_zero _)
 | succ n ih =>
  intro l hd h
  have h1:=ih (l:=l.filter (λ x=>x != n)) (hd.filter _) (λ x hx=>by
   obtain⟨hx1,hx2⟩:=List.mem_filter.1 hx
   have:=h x hx1
   have:x ≠ n:=by simpa using hx2
   omega)
  have h2:l.length≤(l.filter (λ x=>x != n)).length+1:=by
   clear h1 ih h
   induction l with
   | nil=>exact Nat.zero_le _
   | cons x l ihl =>
    rw[List.nodup_cons] at hd
    by_cases hx:x=n
    ·subst hx
     have:l.filter (λ y=>y != x)=l:=List.filter_eq_self.2 λ y hy=>by
      have:y ≠ x:=λ e=>hd.1 (e ▸ hy)
      simpa using this
     rw[List.filter_cons_of_neg (by simp),this]
     exact Nat.le_refl _
    ·rw[List.filter_cons_of_pos (by simpa using hx)]
     have:=ihl hd.2
     simp only[List.length_cons];omega
  omega
def nodes (a:Nat) (c:List Ed):List Nat:=a :: c.map Ed.v
theorem zmb (a:Nat) (c:List Ed):(nodes a c).length=c.length+1:=by simp[nodes]
theorem zCn {E:List Ed}{c:List Ed} : ∀ {a b m:Nat},zgz E a c b->m∈nodes a c->∃ c1 c2,c=c1 ++ c2/\zgz E a c1 m/\zgz E m c2 b:=by
 induction c with
 | nil =>
  intro a b m h hm
  have:m=a:=by simpa [nodes] using hm
  subst this
  exact⟨[],[],rfl,rfl,h⟩
 | cons e l ih =>
  intro a b m h hm
  rcases List.mem_cons.1 hm with rfl | hm'
  ·exact⟨[],e :: l,rfl,rfl,h⟩
  ·obtain⟨h1, h2, h3⟩ := h
   obtain⟨c1,c2,k1,k2,k3⟩:=ih h3 (m:=m) (by simpa [nodes] using hm')
   exact⟨e :: c1,c2,by rw[k1];rfl,⟨h1,h2,k2⟩,k3⟩
structure Att (E : List Ed) (Src : Nat -> Prop) (d : zcb) (v : Nat) (x : Int) (a : Nat) (c : List Ed) : Prop where
  src:Src a
  ch:zgz E a c v
  wt:x=wt c
  nd:(nodes a c).Nodup
  pre:∀ c1 c2 m,c=c1 ++ c2->zgz E a c1 m->leO (d m) (some (Go.Pm.wt c1))
def Inv (E:List Ed) (Src:Nat->Prop) (d:zcb):Prop:=∀ v x,d v=some x->∃ a c,Att E Src d v x a c
theorem zDA {d d':zcb}{E:List Ed}{Src:Nat->Prop}{v:Nat}{x:Int}{a:Nat}{c:List Ed}(h:Att E Src d v x a c) (hd:∀ m,leO (d' m) (d m)):Att E Src d' v x a c :=
 ⟨h.src,h.ch,h.wt,h.nd,λ c1 c2 m h1 h2=>zcM (hd m) (h.pre c1 c2 m h1 h2)⟩
theorem zj5 {d:zcb}{E:List Ed}{Src:Nat->Prop}(hn:zbZ E){e:Ed}(he:e∈E){x:Int}{a:Nat}{c:List Ed}(h:Att E Src d e.u x a c) (hm:e.v∈nodes a c):leO (d e.v) (some (x+e.w)):=by
 obtain⟨c1,c2,k1,k2,k3⟩:=zCn h.ch hm
 have hc:=hn e.v (c2 ++ [e]) (zdy.2 ⟨e.u,k3,zd0 he⟩)
 rw[zio,zjJ] at hc
 have hx:=h.wt
 rw[k1,zio] at hx
 obtain⟨y,m1,m2⟩:=h.pre c1 c2 e.v k1 k2 _ rfl
 intro z hz;cases hz
 exact⟨y,m1,by omega⟩
theorem zuy {E:List Ed}{c:List Ed} : ∀ {a b b':Nat},zgz E a c b->zgz E a c b'->b=b':=by
 induction c with
 | nil=>intro a b b' h1 h2;cases h1;cases h2;rfl
 | cons e l ih=>rintro a b b' ⟨_,_,h1⟩ ⟨_,_,h2⟩;exact ih h1 h2
theorem zir {c c1 c2:List Ed}{e:Ed}(h:c ++ [e]=c1 ++ c2):c1=c ++ [e]∨∃ c3,c=c1 ++ c3:=by
 rcases List.append_eq_append_iff.1 h with ⟨a',h1,h2⟩ | ⟨c',h1,_⟩
 ·cases a' with
  | nil=>exact .inr ⟨[],by rw[h1];simp⟩
  | cons f a'' =>
   have:a''=[]/\c2=[]:=by
    cases a'' with
    | nil=>simp at h2;exact⟨rfl,h2.2⟩
    | cons g b=>simp at h2
   obtain⟨rfl,rfl⟩:=this
   simp at h2
   exact .inl (by rw[h1,h2])
 ·exact .inr ⟨c',h1⟩
theorem zjm {E:List Ed}{Src:Nat->Prop}(hn:zbZ E){s:zcb×Bool}{e:Ed}(he:e∈E) (h:Inv E Src s.1):Inv E Src (rlF s e).1:=by
 intro v x hx
 have hle:=zAk s e
 unfold rlF at hx hle ⊢
 cases hu:s.1 e.u with
 | none =>
  simp only[hu] at hx ⊢
  obtain⟨a,c,hc⟩:=h v x hx
  exact⟨a,c,hc⟩
 | some y =>
  simp only[hu] at hx hle ⊢
  cases hl:ltO (y+e.w) (s.1 e.v) with
  | false =>
   simp only[hl,cond_false] at hx ⊢
   exact h v x hx
  | true =>
   simp only[hl,cond_true] at hx hle ⊢
   by_cases hv:v=e.v
   ·subst hv
    have hx':y+e.w=x:=by
     unfold zjl at hx;rw[if_pos rfl] at hx;exact Option.some.inj hx
    obtain⟨a,c,hc⟩:=h e.u y hu
    have hnot:e.v ∉ nodes a c:=λ hm=>by
     obtain⟨z,h1,h2⟩:=zj5 hn he hc hm _ rfl
     rw[h1] at hl
     have:=of_decide_eq_true hl
     omega
    refine⟨a,c ++ [e],hc.src,zdy.2 ⟨e.u,hc.ch,zd0 he⟩,by rw[zio,zjJ,← hc.wt];omega,?_,?_⟩
    ·show (a :: (c ++ [e]).map Ed.v).Nodup
     rw[List.map_append,← List.cons_append]
     refine List.nodup_append.2 ⟨hc.nd,by simp,λ p hp q hq=>?_⟩
     have:q=e.v:=by simpa using hq
     subst this
     exact λ e'=>hnot (e' ▸ hp)
    ·intro c1 c2 m h1 h2
     rcases zir h1 with rfl | ⟨c3,h3⟩
     ·have : m = e.v := zuy h2 (zdy.2 ⟨e.u, hc.ch, zd0 he⟩)
      subst this
      intro z hz;cases hz
      refine⟨x,hx,?_⟩
      rw[zio,zjJ,← hc.wt];omega
     ·exact zcM (hle m) (hc.pre c1 c3 m h3 h2)
   ·have hx':s.1 v=some x:=by
     unfold zjl at hx;rw[if_neg hv] at hx;exact hx
    obtain⟨a,c,hc⟩:=h v x hx'
    exact⟨a,c,zDA hc hle⟩
theorem zj6 {E F:List Ed}{Src:Nat->Prop}(hn:zbZ E) (hF:∀ e∈F,e∈E){s:zcb×Bool}(h:Inv E Src s.1):Inv E Src (F.foldl rlF s).1:=by
 induction F generalizing s with
 | nil=>exact h
 | cons e l ih=>exact ih (λ e he=>hF e (List.mem_cons_of_mem _ he)) (zjm hn (hF e (List.mem_cons_self ..)) h)
theorem zsS {E:List Ed}{Src:Nat->Prop}(hn:zbZ E) (k:Nat){d:zcb}(h:Inv E Src d):Inv E Src (rds E k d):=by
 induction k generalizing d with
 | zero=>exact h
 | succ k ih=>exact ih (zj6 hn (λ _ h=>h) (s:=(d,false)) h)
structure Start (Src : Nat -> Prop) (d : zcb) : Prop where
  only:∀ v x,d v=Option.some x->Src v/\x=0
  src:∀ v,Src v->d v=Option.some 0
theorem zet {E:List Ed}{Src:Nat->Prop}{d:zcb}(h:Start Src d):Inv E Src d:=λ v x hx=>by
 obtain⟨h1,h2⟩:=h.only v x hx
 refine⟨v,[],h1,rfl,h2,by simp[nodes],λ c1 c2 m e hc=>?_⟩
 have:c1=[]:=by
  cases c1 with
  | nil=>rfl
  | cons _ _=>cases e
 subst this
 cases hc
 rw[hx,h2]
 exact zc9 _
theorem zox {E:List Ed}{n:Nat}(hE:∀ e∈E,e.u < n/\e.v < n){c:List Ed} : ∀ {a b:Nat},a < n->zgz E a c b->∀ x∈nodes a c,x < n:=by
  induction c with
  | nil => intro a b ha _ x hx; have : x = a := by simpa [nodes] using hx
           omega
  | cons e l ih =>
    rintro a b ha ⟨h1,h2,h3⟩ x hx
    rcases List.mem_cons.1 hx with rfl | hm
    · exact ha
    · exact ih (hE e h1).2 h3 x (by simpa [nodes] using hm)
theorem zAm {E:List Ed}{n:Nat}{Src:Nat->Prop}(hE:∀ e∈E,e.u < n/\e.v < n) (hS:∀ a,Src a->a < n){d:zcb}{v:Nat}{x:Int}{a:Nat}{c:List Ed}(h:Att E Src d v x a c):c.length+1≤n:=by
 have:=zma n h.nd (zox hE (hS a h.src) h.ch)
 rwa[zmb] at this
theorem zAn {E:List Ed}{n:Nat}{Src:Nat->Prop}(hn:zbZ E) (hE:∀ e∈E,e.u < n/\e.v < n) (hS:∀ a,Src a->a < n){d:zcb}(h0:Start Src d):Fix E (rds E (n - 1) d):=by
 intro e he x hx
 obtain⟨a,c,hc⟩:=zsS hn (n - 1) (zet (E:=E) h0) e.u x hx
 by_cases hm:e.v∈nodes a c
 ·exact zj5 hn he hc hm _ rfl
 ·have hlen:(c ++ [e]).length≤n - 1:=by
   have hnd:(nodes a (c ++ [e])).Nodup:=by
    show (a :: (c ++ [e]).map Ed.v).Nodup
    rw[List.map_append,← List.cons_append]
    refine List.nodup_append.2 ⟨hc.nd,by simp,λ p hp q hq=>?_⟩
    have:q=e.v:=by simpa using hq
    subst this
    exact λ e'=>hm (e' ▸ hp)
   have hch:zgz E a (c ++ [e]) e.v:=zdy.2 ⟨e.u,hc.ch,zd0 he⟩
   have:=zma n hnd (zox hE (hS a hc.src) hch)
   rw[zmb] at this
   omega
  have:=zJ7 (zdy.2 ⟨e.u,hc.ch,zd0 he⟩) (h0.src a hc.src) hlen _ rfl
  rw[zio,zjJ,← hc.wt] at this
  obtain⟨z,h1,h2⟩:=this
  exact⟨z,h1,by omega⟩
theorem zJ9 {E:List Ed}{f:Nat->Int}(h:∀ e∈E,f e.v≤f e.u+e.w){c:List Ed} : ∀ {a b:Nat},zgz E a c b->f b≤f a+wt c:=by
 induction c with
 | nil=>intro a b hc;cases hc;show f a≤f a+0;omega
 | cons e l ih =>
  rintro a b ⟨h1,h2,h3⟩
  subst h2
  have:=ih h3
  have:=h e h1
  show f b≤f e.u+(e.w+wt l);omega
theorem zqh {E:List Ed}{f:Nat->Int}(h:∀ e∈E,f e.v≤f e.u+e.w):zbZ E:=λ a c hc=>by
 have:=zJ9 h hc;omega
end Go.Pm
namespace Go.Pm
theorem zDB {E:List Ed}{f:Ed->Ed}(hu:∀ e,(f e).u=e.u) (hv:∀ e,(f e).v=e.v){c:List Ed} : ∀ {a b:Nat},zgz (E.map f) a c b->∃ c0,c=c0.map f/\zgz E a c0 b:=by
 induction c with
 | nil=>intro a b h;exact⟨[],rfl,h⟩
 | cons e l ih =>
  rintro a b ⟨h1,h2,h3⟩
  obtain⟨e0,k1,rfl⟩:=List.mem_map.1 h1
  obtain⟨c0,k2,k3⟩:=ih h3
  exact⟨e0 :: c0,by rw[k2];rfl,k1,by rw[← hu];exact h2,by rw[← hv];exact k3⟩
def edM (e:Ed):Ed:=⟨e.u,e.v,e.w * 1048576+1⟩
def edR (e:Ed):Ed:=⟨e.v,e.u,e.w⟩
theorem zMS (c:List Ed):wt (c.map edM)=wt c * 1048576+c.length:=by
 induction c with
 | nil=>rfl
 | cons e l ih =>
  show e.w * 1048576+1+wt (l.map edM)=(e.w+wt l) * 1048576+((l.length+1:Nat):Int)
  omega
theorem zMT (c:List Ed):wt (c.reverse.map edR)=wt c:=by
 induction c with
 | nil=>rfl
 | cons e l ih =>
  rw[List.reverse_cons,List.map_append,zio,ih]
  show wt l+wt [edR e]=e.w+wt l
  rw[zjJ]
  show wt l+e.w=_
  omega
theorem zMU {E:List Ed}{c:List Ed} : ∀ {a b:Nat},zgz E a c b->zgz (E.map edR) b (c.reverse.map edR) a:=by
 induction c with
 | nil=>intro a b h;exact Eq.symm h
 | cons e l ih =>
  rintro a b ⟨h1,h2,h3⟩
  rw[List.reverse_cons,List.map_append]
  exact zdy.2 ⟨e.v,ih h3,List.mem_map_of_mem h1,rfl,h2⟩
theorem zKa (E:List Ed):(E.map edR).map edR=E:=by
 rw[List.map_map]
 exact (List.map_congr_left λ e _=>rfl).trans (List.map_id E)
theorem zKb {E:List Ed}{c:List Ed}{a b:Nat}(h:zgz (E.map edR) a c b):∃ c0,zgz E b c0 a/\wt c0=wt c/\c0.length=c.length:=by
 have:=zMU h
 rw[zKa] at this
 exact⟨_,this,zMT c,by simp⟩
theorem zoy {E:List Ed}(h:zbZ E):zbZ (E.map edR):=λ a c hc=>by
 obtain⟨c0,h1,h2,_⟩:=zKb hc
 rw[← h2];exact h a c0 h1
theorem zgA {E:List Ed}(h:zbZ E):zbZ (E.map edM):=λ a c hc=>by
 obtain⟨c0,rfl,h1⟩:=zDB (f:=edM) (λ _=>rfl) (λ _=>rfl) hc
 rw[zMS]
 have:=h a c0 h1
 omega
def zKL : Option Int -> Int × Int
  | none=>((1000000000000:Int),(0:Int))
  | some x=>(x / 1048576,x % 1048576)
theorem zsU {L U:Int}(h0:0≤U) (h1:U < 1048576):zKL (some (L * 1048576+U))=(L,U):=by
 show ((L * 1048576+U) / 1048576,(L * 1048576+U) % 1048576)=(L,U)
 rw[show (L * 1048576+U) / 1048576=L by omega,show (L * 1048576+U) % 1048576=U by omega]
def zqi (s:Nat):zcb:=λ v=>if v=s then some 0 else none
theorem zdu (s:Nat):Start (λ v=>v=s) (zqi s) :=
 ⟨λ v x h=>(by
  unfold zqi at h
  by_cases hv:v=s
  ·rw[if_pos hv] at h;cases h;exact⟨hv,rfl⟩
  ·rw[if_neg hv] at h;cases h),λ v h=>if_pos h⟩
structure EdOk (E : List Ed) (n : Nat) : Prop where
  lt:∀ e∈E,e.u < n/\e.v < n
  w:∀ e∈E,-1000000000≤e.w/\e.w≤1000000000
  n1:1≤n
  n40:n≤40
theorem EdOk.R {E:List Ed}{n:Nat}(h:EdOk E n):EdOk (E.map edR) n :=
  ⟨λ e he=>(by obtain⟨f,h1,rfl⟩:=List.mem_map.1 he;exact⟨(h.lt f h1).2,(h.lt f h1).1⟩),
   λ e he=>(by obtain⟨f,h1,rfl⟩:=List.mem_map.1 he;exact h.w f h1),h.n1,h.n40⟩
theorem EdOk.ltM {E:List Ed}{n:Nat}(h:EdOk E n):∀ e∈E.map edM,e.u < n/\e.v < n :=
 λ e he=>by obtain⟨f,h1,rfl⟩:=List.mem_map.1 he;exact h.lt f h1
theorem zj7 {E:List Ed}{n:Nat}(h:EdOk E n){c:List Ed} : ∀ {a b:Nat},zgz E a c b->-1000000000 * (c.length:Int)≤wt c/\wt c≤1000000000 * (c.length:Int):=by
 induction c with
 | nil=>intro a b _;exact⟨(by show _≤(0:Int);simp),(by show (0:Int)≤_;simp)⟩
 | cons e l ih =>
  rintro a b ⟨h1,_,h3⟩
  have:=ih h3
  have:=h.w e h1
  show _≤e.w+wt l/\e.w+wt l≤_
  simp only[List.length_cons]
  omega
structure Ent (E : List Ed) (n s v : Nat) (x L U : Int) (c : List Ed) : Prop where
  ch:zgz E s c v
  x:x=L * 1048576+U
  L:L=wt c
  U:U=c.length
  len:c.length < n
theorem zDC {E:List Ed}{n:Nat}(hE:EdOk E n){s:Nat}(hs:s < n){d:zcb}(hd:Inv (E.map edM) (λ v=>v=s) d){v:Nat}{x:Int}(hx:d v=some x):∃ c,Ent E n s v x (wt c) c.length c:=by
 obtain⟨a,c,hc⟩:=hd v x hx
 have hl:=zAm hE.ltM (λ a ha=>Nat.lt_of_le_of_lt (Nat.le_of_eq ha) hs) hc
 obtain⟨c0,rfl,h1⟩:=zDB (f:=edM) (λ _=>rfl) (λ _=>rfl) hc.ch
 obtain rfl:a=s:=hc.src
 exact⟨c0,h1,by rw[hc.wt,zMS],rfl,rfl,by rw[List.length_map] at hl;omega⟩
def dst (E:List Ed) (n s:Nat):zcb:=rds (E.map edM) (n - 1) (zqi s)
theorem zG5 {E:List Ed}{n s:Nat}(hn:zbZ E):Inv (E.map edM) (λ v=>v=s) (dst E n s):=zsS (zgA hn) _ (zet (zdu s))
theorem zsV {E:List Ed}{n s:Nat}(hE:EdOk E n) (hn:zbZ E) (hs:s < n):Fix (E.map edM) (dst E n s):=zAn (zgA hn) hE.ltM (λ a ha=>Nat.lt_of_le_of_lt (Nat.le_of_eq ha) hs) (zdu s)
theorem dst_at {E:List Ed}{n s v:Nat}(hE:EdOk E n) (hn:zbZ E) (hs:s < n){x:Int}(hx:dst E n s v=some x):∃ c,Ent E n s v x (wt c) c.length c:=zDC hE hs (zG5 hn) hx
theorem zCo {E:List Ed}{n s:Nat} : ∃ x,dst E n s s=some x:=by
 obtain⟨x,h,_⟩:=zqg (E.map edM) (n - 1) (zqi s) s 0 (if_pos rfl)
 exact⟨x,h⟩
theorem zAo {E:List Ed}{n s:Nat}(hE:EdOk E n) (hn:zbZ E) (hs:s < n){c:List Ed} : ∀ {a v:Nat}{x:Int},dst E n s a=some x->zgz E a c v->∃ y,dst E n s v=some y/\y / 1048576≤x / 1048576+wt c:=by
 induction c with
 | nil=>intro a v x hx h;cases h;exact⟨x,hx,by show _≤_+(0:Int);omega⟩
 | cons e l ih =>
  rintro a v x hx ⟨h1,h2,h3⟩
  subst h2
  obtain⟨y,k1,k2⟩:=zsV hE hn hs (edM e) (List.mem_map_of_mem h1) x hx
  obtain⟨z,m1,m2⟩:=ih (a:=e.v) k1 h3
  obtain⟨c1,hc1⟩:=dst_at hE hn hs hx
  obtain⟨c2,hc2⟩:=dst_at hE hn hs (show dst E n s e.v=some y from k1)
  refine⟨z,m1,?_⟩
  have k2':y≤x+(e.w * 1048576+1):=k2
  have:=hE.n40
  have:=hc1.len
  have:=hc1.x
  have:=hc2.len
  have:=hc2.x
  show _≤_+(e.w+wt l)
  omega
theorem zG6 {E:List Ed}{n s v:Nat}(hE:EdOk E n) (hn:zbZ E) (hs:s < n){c:List Ed}(hc:zgz E s c v):∃ x,dst E n s v=some x/\x / 1048576≤wt c:=by
 obtain⟨x0,h1⟩:=zCo (E:=E) (n:=n) (s:=s)
 obtain⟨y,k1,k2⟩:=zAo hE hn hs h1 hc
 have h3:x0≤0:=by
  obtain⟨x',h1',h2'⟩:=zqg (E.map edM) (n - 1) (zqi s) s 0 (if_pos rfl)
  have:x'=x0:=Option.some.inj (h1'.symm.trans h1)
  omega
 exact⟨y,k1,by omega⟩
def zDD (o:Option Int):Int:=(zKL o).1
theorem zAp {E:List Ed}{n s v:Nat}(hE:EdOk E n) (hn:zbZ E) (hs:s < n){x:Int}(hx:dst E n s v=some x):∃ c,zgz E s c v/\zDD (dst E n s v)=wt c/\c.length < n:=by
 obtain⟨c,hc⟩:=dst_at hE hn hs hx
 refine⟨c,hc.ch,?_,hc.len⟩
 rw[hx]
 show x / 1048576=_
 have:=hc.x;have:=hc.len;have:=hE.n40
 omega
theorem zoz {E:List Ed}{n s v:Nat}(hE:EdOk E n) (hn:zbZ E) (hs:s < n){c:List Ed}(hc:zgz E s c v):zDD (dst E n s v)≤wt c:=by
 obtain⟨x,h1,h2⟩:=zG6 hE hn hs hc
 rw[h1];exact h2
theorem zd7 {E:List Ed}{n s v:Nat}(hE:EdOk E n) (hn:zbZ E) (hs:s < n):(dst E n s v=none/\zDD (dst E n s v)=1000000000000)∨∃ c,dst E n s v ≠ none/\zgz E s c v/\zDD (dst E n s v)=wt c/\c.length < n/\-40000000000≤wt c/\wt c≤40000000000:=by
 cases h:dst E n s v with
 | none=>exact .inl ⟨rfl,rfl⟩
 | some x =>
  obtain⟨c,h1,h2,h3⟩:=zAp hE hn hs h
  have:=zj7 hE h1
  have:=hE.n40
  rw[h] at h2
  exact .inr ⟨c,(by intro h;cases h),h1,h2,h3,by omega,by omega⟩
end Go.Pm
namespace Go.Pm
def zoA (E : List Ed) : Nat -> zcb -> Bool
  | 0,_=>true
  | k+1,d=>cond (E.foldl rlF (d,false)).2 (zoA E k (rnd E d)) false
theorem zsW {E:List Ed}{k:Nat} : ∀ {m:Nat}{d:zcb},Fix E (rds E k d)->k < m->zoA E m d=false:=by
 induction k with
 | zero =>
  intro m d h hm
  obtain⟨m,rfl⟩:∃ m',m=m'+1:=⟨m - 1,by omega⟩
  show cond (E.foldl rlF (d,false)).2 _ _=false
  rw[ziq (show ∀ e∈E,Sat d e from h)];rfl
 | succ k ih =>
  intro m d h hm
  obtain⟨m,rfl⟩:∃ m',m=m'+1:=⟨m - 1,by omega⟩
  show cond (E.foldl rlF (d,false)).2 (zoA E m (rnd E d)) false=false
  rw[ih (m:=m) (d:=rnd E d) h (by omega)]
  cases (E.foldl rlF (d,false)).2 <;> rfl
theorem zCp {E:List Ed}{m:Nat} : ∀ {d:zcb},zoA E m d=false->∃ k,Fix E (rds E k d):=by
 induction m with
 | zero=>intro d h;cases h
 | succ m ih =>
  intro d h
  have h':cond (E.foldl rlF (d,false)).2 (zoA E m (rnd E d)) false=false:=h
  cases hc:(E.foldl rlF (d,false)).2
  ·exact⟨0,zgU hc⟩
  ·rw[hc] at h'
   obtain⟨k,hk⟩:=ih h'
   exact⟨k+1,hk⟩
def zoD (n:Nat):zcb:=λ v=>if v < n then some 0 else none
theorem zm6 (n:Nat):Start (λ v=>v < n) (zoD n) :=
 ⟨λ v x h=>(by
  unfold zoD at h
  by_cases hv:v < n
  ·rw[if_pos hv] at h;cases h;exact⟨hv,rfl⟩
  ·rw[if_neg hv] at h;cases h),λ v h=>if_pos h⟩
theorem zCq {E:List Ed}{n:Nat}(hE:EdOk E n):zoA E n (zoD n)=false↔zbZ E:=by
 constructor
 ·intro h
  obtain⟨k,hk⟩:=zCp h
  have hsome:∀ v,v < n->∃ x,rds E k (zoD n) v=some x:=λ v hv=>by
   obtain⟨x,hx,_⟩:=zqg E k (zoD n) v 0 (if_pos hv)
   exact⟨x,hx⟩
  refine zqh (f:=λ v=>(rds E k (zoD n) v).getD 0) λ e he=>?_
  obtain⟨x,hx⟩:=hsome e.u (hE.lt e he).1
  obtain⟨y,hy,hxy⟩:=hk e he x hx
  show (rds E k (zoD n) e.v).getD 0≤(rds E k (zoD n) e.u).getD 0+e.w
  rw[hx,hy];exact hxy
 ·intro h
  have:=hE.n1
  exact zsW (zAn h hE.lt (λ a ha=>ha) (zm6 n)) (by omega)
end Go.Pm
namespace Go.Proofs
open Go Go.Pm
set_option maxRecDepth 100000
set_option linter.unusedVariables false
theorem ze9 {n:Nat}{F:Tab}{k:Nat}(hk:k < n):tg n F k=F k:=by
 unfold tg zmn
 have h:(zm (zhI 0 n F))[k]? = some (.p (.int .i64 (F k))):=by
  rw[zm,List.getElem?_map,zgD n 0 F k hk,Nat.zero_add];rfl
 rw[h]
theorem zDE {n:Nat}{F:Tab}{k:Nat}{v:Int}{j:Nat}(hj:j < n):ts n F k [v] j=if j=k then v else F j:=by
 show (match Nat.beq j k with | true=>v | false=>tg n F j)=_
 by_cases h:j=k
 ·rw[if_pos h,show Nat.beq j k=true from by rw[h];exact Nat.beq_refl _]
 ·rw[if_neg h,show Nat.beq j k=false from Bool.eq_false_iff.2 λ e=>h (Nat.eq_of_beq_eq_true e)];exact ze9 hj
theorem zdS {n:Nat}{F:Tab}{k:Nat}{v w:Int}{j:Nat}(hj:j < n):ts n F k [v,w] j=if j=k+1 then w else if j=k then v else F j:=by
 show (match Nat.beq j (k+1) with | true=>w | false=>(match Nat.beq j k with | true=>v | false=>tg n F j))=_
 by_cases h:j=k+1
 ·rw[if_pos h,show Nat.beq j (k+1)=true from by rw[h];exact Nat.beq_refl _]
 ·rw[if_neg h, show Nat.beq j (k + 1) = false from Bool.eq_false_iff.2 λ e => h (Nat.eq_of_beq_eq_true e)]
  by_cases h':j=k
  ·rw[if_pos h',show Nat.beq j k=true from by rw[h'];exact Nat.beq_refl _]
  ·rw[if_neg h',show Nat.beq j k=false from Bool.eq_false_iff.2 λ e=>h' (Nat.eq_of_beq_eq_true e)];exact ze9 hj
def fwS (t:Tie) (i:Nat):step:=⟨⟨(i:Int),false⟩,t.From,t.To,t.High⟩
def bwS (t:Tie) (i:Nat):step:=⟨⟨(i:Int),true⟩,t.To,t.From,w64 (0 - t.Low)⟩
def zKc (a:web) (i:Nat):Bool:=(zuF (a.out.F [(i:Int)]) 0) != 0
def stK (a:web) (i:Nat):List step :=
 cond (zKc a i) [] ((cond ((a.Net.Ties.get i).High != (1000000000000:Int)) [fwS (a.Net.Ties.get i) i] []) ++ (cond ((a.Net.Ties.get i).Low != (-1000000000000:Int)) [bwS (a.Net.Ties.get i) i] []))
def stL (a : web) : Nat -> Nat -> List step
  | 0,_=>[]
  | m+1,i=>stK a i ++ stL a m (i+1)
theorem zsX (a:web) (hn:a.Net.Ties.len≤9223372036854775807):zme a=true/\zit a=stL a a.Net.Ties.len 0:=by
 have key:∀ (m k i:Nat),i+m=a.Net.Ties.len->m < k->zeI a k (i:Int)=true/\zeH a k (i:Int)=stL a m i:=by
  intro m
  induction m with
  | zero =>
   intro k i hi hk
   obtain⟨k,rfl⟩:∃ k',k=k'+1:=⟨k - 1,by omega⟩
   constructor
   ·show zfq a (zeI a k) (i : Int) = true
    unfold zfq
    rw[decide_eq_false (show ¬ (i:Int) < (a.Net.Ties.len:Int) by omega),cond_false]
   ·show zfp a (zeH a k) (i : Int) = []
    unfold zfp
    rw[decide_eq_false (show ¬ (i:Int) < (a.Net.Ties.len:Int) by omega),cond_false]
  | succ m ih =>
   intro k i hi hk
   obtain⟨k,rfl⟩:∃ k',k=k'+1:=⟨k - 1,by omega⟩
   obtain⟨h1,h2⟩:=ih k (i+1) (by omega) (by omega)
   constructor
   ·show zfq a (zeI a k) (i : Int) = true
    unfold zfq
    rw[decide_eq_true (show (i:Int) < (a.Net.Ties.len:Int) by omega),cond_true,decide_eq_true (show 0≤(i:Int)/\(i:Int) < (a.Net.Ties.len:Int) by omega),Bool.true_and,zj4 (n:=a.Net.Ties.len) (by omega) hn,h1]
    generalize (zuF (a.out.F [(i:Int)]) 0 != 0)=b1
    generalize (s94 (⟨(a.Net.Ties.get ((i:Int)).toNat),(i:Int)⟩:tie)).2=b2
    generalize (s95 (⟨(a.Net.Ties.get ((i:Int)).toNat),(i:Int)⟩:tie)).2=b3
    cases b1 <;> cases b2 <;> cases b3 <;> rfl
   ·show zfp a (zeH a k) (i : Int) = stK a i ++ stL a m (i + 1)
    unfold zfp
    rw[decide_eq_true (show (i:Int) < (a.Net.Ties.len:Int) by omega),cond_true,Int.toNat_natCast,zj4 (n:=a.Net.Ties.len) (by omega) hn,h2]
    unfold stK zKc s94 s95
    generalize (zuF (a.out.F [(i:Int)]) 0 != 0)=b1
    show cond b1 _ (cond ((a.Net.Ties.get i).High != (1000000000000:Int)) (_ :: cond ((a.Net.Ties.get i).Low != (-1000000000000:Int)) (_ :: _) _) (cond ((a.Net.Ties.get i).Low != (-1000000000000:Int)) (_ :: _) _))=_
    generalize ((a.Net.Ties.get i).High != (1000000000000:Int))=b2
    generalize ((a.Net.Ties.get i).Low != (-1000000000000:Int))=b3
    cases b1 <;> cases b2 <;> cases b3 <;> rfl
 exact key a.Net.Ties.len Fuel 0 (by omega) (by simp only[Fuel];omega)
theorem zG7 {a:web}{y:step} : ∀ {m i:Nat},y∈stL a m i↔∃ j,i≤j/\j < i+m/\y∈stK a j:=by
 intro m
 induction m with
 | zero=>intro i;exact⟨λ h=>(by cases h),λ ⟨j,h1,h2,_⟩=>(by omega)⟩
 | succ m ih =>
  intro i
  show y∈stK a i ++ stL a m (i+1)↔_
  rw[List.mem_append,ih]
  constructor
  ·rintro (h | ⟨j, h1, h2, h3⟩)
   ·exact⟨i,Nat.le_refl _,by omega,h⟩
   ·exact⟨j,by omega,by omega,h3⟩
  ·rintro⟨j, h1, h2, h3⟩
   by_cases h:j=i
   ·subst h;exact .inl h3
   ·exact .inr ⟨j,by omega,by omega,h3⟩
theorem zG8 {a:web}{y:step}{j:Nat} : y∈stK a j↔zKc a j=false/\(((a.Net.Ties.get j).High ≠ 1000000000000/\y=fwS (a.Net.Ties.get j) j)∨((a.Net.Ties.get j).Low ≠ -1000000000000/\y=bwS (a.Net.Ties.get j) j)):=by
 unfold stK
 cases h:zKc a j
 ·rw[cond_false, List.mem_append]
  by_cases h1:(a.Net.Ties.get j).High=1000000000000
  ·rw[show ((a.Net.Ties.get j).High != (1000000000000:Int)) = false by rw[h1]; rfl, cond_false]
   by_cases h2:(a.Net.Ties.get j).Low = -1000000000000
   ·rw[show ((a.Net.Ties.get j).Low != (-1000000000000:Int)) = false by rw[h2]; rfl, cond_false]
    simp[h1,h2]
   ·rw[bne_iff_ne.2 h2, cond_true]
    simp[h1,h2]
  ·rw[bne_iff_ne.2 h1, cond_true]
   by_cases h2:(a.Net.Ties.get j).Low = -1000000000000
   ·rw[show ((a.Net.Ties.get j).Low != (-1000000000000:Int)) = false by rw[h2]; rfl, cond_false]
    simp[h1,h2]
   ·rw[bne_iff_ne.2 h2, cond_true]
    simp[h1,h2]
 ·rw[cond_true];simp
theorem zG9 (a:web):∀ m i,(stL a m i).length≤2 * m:=by
 intro m
 induction m with
 | zero=>intro i;exact Nat.le_refl _
 | succ m ih =>
  intro i
  show (stK a i ++ stL a m (i+1)).length≤_
  rw[List.length_append]
  have:=ih (i+1)
  have:(stK a i).length≤2:=by
   unfold stK
   cases zKc a i <;> cases ((a.Net.Ties.get i).High != (1000000000000:Int)) <;> cases ((a.Net.Ties.get i).Low != (-1000000000000:Int)) <;> simp
  omega
def edS (y:step):Ed:=⟨y.from_.toNat,y.to.toNat,y.length⟩
structure StOk (y : step) (N : Nat) : Prop where
  f0:0≤y.from_
  f1:y.from_ < N
  t0:0≤y.to
  t1:y.to < N
  l0 : -1000000000≤y.length
  l1:y.length≤1000000000
abbrev Ws (a:web):List step:=stL a a.Net.Ties.len 0
def We (a:web):List Ed:=(Ws a).map edS
theorem zKd {t:Tie}{N:Int}(h:TieOk t N) (h':t.Low ≠ -1000000000000):w64 (0 - t.Low) = -t.Low:=by
 have:=h.lo.resolve_left h'
 rw[zcw (by omega) (by omega)];omega
theorem zHa {a:web}(hn:NetOk a.Net){y:step}(hy:y∈Ws a):StOk y a.Net.Nodes.toNat:=by
 obtain⟨j,_,h2,h3⟩:=zG7.1 hy
 have h:=hn.tie j (by omega)
 have:=h.f0;have:=h.f1;have:=h.t0;have:=h.t1
 rcases (zG8.1 h3).2 with ⟨h4,rfl⟩ | ⟨h4,rfl⟩
 ·have := h.hi.resolve_left h4
  exact⟨h.f0,by show (a.Net.Ties.get j).From < _;omega,h.t0,by show (a.Net.Ties.get j).To < _;omega,this.1,this.2⟩
 ·have := h.lo.resolve_left h4
  have e:=zKd h h4
  exact⟨h.t0,by show (a.Net.Ties.get j).To < _;omega,h.f0,by show (a.Net.Ties.get j).From < _;omega,by show _≤w64 (0 - (a.Net.Ties.get j).Low);omega,by show w64 (0 - (a.Net.Ties.get j).Low)≤_;omega⟩
theorem zAq {a:web}(hn:NetOk a.Net):(Ws a).length≤400:=by
 have h1:=zG9 a a.Net.Ties.len 0
 have h2:=hn.len
 show (stL a a.Net.Ties.len 0).length≤400
 omega
theorem zDF {a:web}(hn:NetOk a.Net):EdOk (We a) a.Net.Nodes.toNat:=by
 have:=hn.n1;have:=hn.n40
 refine⟨λ e he=>?_,λ e he=>?_,by omega,by omega⟩
 ·obtain⟨y, hy, rfl⟩ := List.mem_map.1 he
  have h:=zHa hn hy
  have:=h.f0;have:=h.f1;have:=h.t0;have:=h.t1
  exact⟨by show y.from_.toNat < _;omega,by show y.to.toNat < _;omega⟩
 ·obtain⟨y, hy, rfl⟩ := List.mem_map.1 he
  have h:=zHa hn hy
  exact⟨h.l0,h.l1⟩
end Go.Proofs
namespace Go.Proofs
open Go Go.Pm
set_option maxRecDepth 100000
set_option linter.unusedVariables false
def Rt (N:Nat) (T:Tab) (d:zcb):Prop:=∀ v,v < N->d v=some (T v)
def Bd (B:Int) (T:Tab):Prop:=∀ v,v < 40->-B≤T v/\T v≤0
theorem zAr (a:web){N:Nat}(hN:N≤40) (S0:Int->Tab->Bool) (P0:Int->Tab->Bool):∀ (l:List step),(∀ y∈l,StOk y N)->∀ (t:Int) (c:Bool) (T:Tab) (d:zcb) (B:Int),Rt N T d->Bd B T->0≤B->B+l.length * 1000000000≤100000000000000000 ->
    ∃ T',zef S0 a l t c T=ziM S0 a t ((l.map edS).foldl rlF (d,c)).2 T'/\zeg P0 a l t c T=ziN P0 a t ((l.map edS).foldl rlF (d,c)).2 T'/\Rt N T' ((l.map edS).foldl rlF (d,c)).1/\Bd (B+l.length * 1000000000) T':=by
  intro l
  induction l with
  | nil=>intro _ t c T d B h1 h2 _ _;exact⟨T,rfl,rfl,h1,by simpa using h2⟩
  | cons y l ih =>
    intro hl t c T d B h1 h2 h3 h4
    have hy:=hl y (List.mem_cons_self ..)
    have hl':∀ y∈l,StOk y N:=λ z hz=>hl z (List.mem_cons_of_mem _ hz)
    rw[List.length_cons] at h4
    have f0:=hy.f0;have f1:=hy.f1;have t0:=hy.t0;have t1:=hy.t1;have l0:=hy.l0;have l1:=hy.l1
    have hf:=h1 y.from_.toNat (by omega)
    have ht:=h1 y.to.toNat (by omega)
    have bf:=h2 y.from_.toNat (by omega)
    have bt:=h2 y.to.toNat (by omega)
    have e1:0+y.from_.toNat * 1+0=y.from_.toNat:=by omega
    have e2:0+y.to.toNat * 1+0=y.to.toNat:=by omega
    have hr:rlF (d,c) (edS y)=cond (decide (T y.from_.toNat+y.length < T y.to.toNat)) (zjl d y.to.toNat (T y.from_.toNat+y.length),true) (d,c):=by
      unfold rlF edS
      simp only[hf,ht]
      rfl
    have hS:zef S0 a (y :: l) t c T=cond (decide (T y.from_.toNat+y.length < T y.to.toNat)) (zef S0 a l t true (ts 40 T y.to.toNat [T y.from_.toNat+y.length])) (zef S0 a l t c T):=by
      show zlb S0 a y (zef S0 a l) t c T=_
      generalize zef S0 a l=S
      unfold zlb
      rw[e1,e2,ze9 (by omega),ze9 (by omega),zcw (by omega) (by omega)]
    have hP:zeg P0 a (y :: l) t c T=cond (decide (T y.from_.toNat+y.length < T y.to.toNat)) (zeg P0 a l t true (ts 40 T y.to.toNat [T y.from_.toNat+y.length])) (zeg P0 a l t c T):=by
      show zlc P0 a y (zeg P0 a l) t c T=_
      generalize zeg P0 a l=S
      unfold zlc
      rw[e1,e2,ze9 (by omega),ze9 (by omega),zcw (by omega) (by omega),decide_eq_true (show 0≤y.from_/\y.from_ < (40:Int) by omega),decide_eq_true (show 0≤y.to/\y.to < (40:Int) by omega)]
      cases decide (T y.from_.toNat+y.length < T y.to.toNat) <;> rfl
    show ∃ T',_=ziM S0 a t ((l.map edS).foldl rlF (rlF (d,c) (edS y))).2 T'/\_=ziN P0 a t ((l.map edS).foldl rlF (rlF (d,c) (edS y))).2 T'/\Rt N T' ((l.map edS).foldl rlF (rlF (d,c) (edS y))).1/\_
    rw[hS,hP,hr]
    by_cases hlt:T y.from_.toNat+y.length < T y.to.toNat
    · rw[decide_eq_true hlt, cond_true, cond_true, cond_true]
      obtain⟨T', k1, k2, k3, k4⟩ := ih hl' t true (ts 40 T y.to.toNat [T y.from_.toNat + y.length]) (zjl d y.to.toNat (T y.from_.toNat + y.length)) (B + 1000000000)
        (λ v hv=>by
          rw[zDE (by omega)]
          unfold zjl
          by_cases h:v=y.to.toNat
          · rw[if_pos h,if_pos h]
          · rw[if_neg h,if_neg h];exact h1 v hv)
        (λ v hv=>by
          rw[zDE hv]
          by_cases h:v=y.to.toNat
          · rw[if_pos h];omega
          · rw[if_neg h];have:=h2 v hv;omega) (by omega) (by omega)
      refine⟨T',k1,k2,k3,?_⟩
      rw[List.length_cons,show B+((l.length+1:Nat):Int) * 1000000000=B+1000000000+(l.length:Int) * 1000000000 by omega]
      exact k4
    · rw[decide_eq_false hlt, cond_false, cond_false, cond_false]
      obtain⟨T',k1,k2,k3,k4⟩:=ih hl' t c T d B h1 h2 h3 (by omega)
      refine⟨T',k1,k2,k3,λ v hv=>?_⟩
      have:=k4 v hv
      rw[List.length_cons]
      omega
theorem zsY (a:web) (hn:NetOk a.Net):∀ (m k i:Nat) (T:Tab) (d:zcb) (B:Int),Rt a.Net.Nodes.toNat T d->Bd B T->0≤B->B+m * 400000000000≤100000000000000000->(i:Int)+m=a.Net.Nodes->m < k ->
  zfs a k (i:Int) T=true/\zfr a k (i:Int) T=zoA (We a) m d:=by
 have hn1:=hn.n1;have hn40:=hn.n40;have hlen:=hn.len
 obtain⟨q1,q2⟩:=zsX a (by omega)
 intro m
 induction m with
 | zero =>
  intro k i T d B _ _ _ _ hi hk
  obtain⟨k,rfl⟩:∃ k',k=k'+1:=⟨k - 1,by omega⟩
  constructor
  ·show zhm a (zfs a k) (i : Int) T = true
   unfold zhm
   rw[decide_eq_false (show ¬ (i:Int) < a.Net.Nodes by omega),cond_false]
  ·show zhl a (zfr a k) (i : Int) T = true
   unfold zhl
   rw[decide_eq_false (show ¬ (i:Int) < a.Net.Nodes by omega),cond_false]
 | succ m ih =>
  intro k i T d B h1 h2 h3 h4 hi hk
  obtain⟨k,rfl⟩:∃ k',k=k'+1:=⟨k - 1,by omega⟩
  have hwl:=zAq hn
  obtain⟨T',k1,k2,k3,k4⟩:=zAr a (N:=a.Net.Nodes.toNat) (by omega) (zfr a k) (zfs a k) (Ws a) (λ y hy=>zHa hn hy) (i:Int) false T d B h1 h2 h3 (by omega)
  have hB:Bd (B+400000000000) T':=λ v hv=>by have:=k4 v hv;omega
  have hw:w64 ((i:Int)+(1:Int))=((i+1:Nat):Int):=by rw[zcw (by omega) (by omega)];omega
  obtain⟨r1,r2⟩:=ih k (i+1) T' (rnd (We a) d) (B+400000000000) k3 hB (by omega) (by omega) (by omega) (by omega)
  constructor
  ·show zhm a (zfs a k) (i : Int) T = true
   unfold zhm znT
   rw[decide_eq_true (show (i:Int) < a.Net.Nodes by omega),cond_true,q1,q2,k2]
   unfold ziN
   rw[hw,r1]
   cases ((Ws a).map edS |>.foldl rlF (d,false)).2 <;> rfl
  ·show zhl a (zfr a k) (i : Int) T = cond ((We a).foldl rlF (d, false)).2 (zoA (We a) m (rnd (We a) d)) false
   unfold zhl zre
   rw[decide_eq_true (show (i:Int) < a.Net.Nodes by omega),cond_true,q2,k1]
   unfold ziM
   rw[hw,r2]
   show cond (!((We a).foldl rlF (d,false)).2) false _=_
   cases ((We a).foldl rlF (d,false)).2 <;> rfl
theorem zAs (a:web) (hn:NetOk a.Net):p88 a=true/\s88 a=zoA (We a) a.Net.Nodes.toNat (zoD a.Net.Nodes.toNat):=by
 have hn1:=hn.n1;have hn40:=hn.n40
 have:=zsY a hn a.Net.Nodes.toNat Fuel 0 (λ _=>(0:Int)) (zoD a.Net.Nodes.toNat) 0 (λ v hv=>if_pos hv) (λ v hv=>⟨by show -(0:Int)≤(0:Int);omega,Int.le_refl _⟩) (by omega) (by omega) (by omega) (by simp only[Fuel];omega)
 exact this
theorem zAt (a:web) (hn:NetOk a.Net):s88 a=false↔zbZ (We a):=by
 rw[(zAs a hn).2];exact zCq (zDF hn)
end Go.Proofs
namespace Go.Proofs
open Go Go.Pm
set_option maxRecDepth 100000
set_option linter.unusedVariables false
theorem zj8 (a b:far):zvv a ⟨1,λ _=>b⟩=true/\zch a ⟨1,λ _=>b⟩=cond (zBL b a) b a:=by
 unfold zvv zch znX znW
 have key:∀ k,zgM (⟨1,λ _=>b⟩:Sl far) (k+2) (0:Int) a.length a.uses=true/\zgL (⟨1,λ _=>b⟩:Sl far) (k+2) (0:Int) a.length a.uses=cond (zBL b a) b a:=by
  intro k
  have hw:w64 ((0:Int)+(1:Int))=(1:Int):=by rw[zcw (by omega) (by omega)];rfl
  have e1:∀ x y,zgL (⟨1,λ _=>b⟩:Sl far) (k+1) (1:Int) x y=(⟨x,y⟩:far):=λ x y=>by
   show zgJ (⟨1,λ _=>b⟩:Sl far) (zgL (⟨1,λ _=>b⟩:Sl far) k) (1:Int) x y=_
   unfold zgJ
   rw[decide_eq_false (show ¬ (1:Int) < ((1:Nat):Int) by omega),cond_false]
  have e2:∀ x y,zgM (⟨1,λ _=>b⟩:Sl far) (k+1) (1:Int) x y=true:=λ x y=>by
   show zgK (⟨1,λ _=>b⟩:Sl far) (zgM (⟨1,λ _=>b⟩:Sl far) k) (1:Int) x y=_
   unfold zgK
   rw[decide_eq_false (show ¬ (1:Int) < ((1:Nat):Int) by omega),cond_false]
  constructor
  ·show zgK (⟨1, λ _ => b⟩ : Sl far) (zgM (⟨1, λ _ => b⟩ : Sl far) (k + 1)) (0:Int) a.length a.uses = _
   unfold zgK znV
   rw[decide_eq_true (show (0:Int) < ((1:Nat):Int) by omega),cond_true,decide_eq_true (show 0≤(0:Int)/\(0:Int) < ((1:Nat):Int) by omega),Bool.true_and,hw,e2,e2]
   cases zBL b (⟨a.length,a.uses⟩:far) <;> rfl
  ·show zgJ (⟨1, λ _ => b⟩ : Sl far) (zgL (⟨1, λ _ => b⟩ : Sl far) (k + 1)) (0:Int) a.length a.uses = _
   unfold zgJ znU
   rw[decide_eq_true (show (0:Int) < ((1:Nat):Int) by omega),cond_true,hw,e1,e1]
 have:=key (Fuel - 2)
 rw[show Fuel - 2+2=Fuel by simp only[Fuel]] at this
 exact this
theorem zAu (a b:far):zBL a b=decide (a.length < b.length∨(a.length=b.length/\a.uses < b.uses)):=by
 unfold zBL
 by_cases h1:a.length < b.length
 ·rw[decide_eq_true h1,cond_true];exact (decide_eq_true (.inl h1)).symm
 ·rw[decide_eq_false h1, cond_false]
  by_cases h2:a.length=b.length
  ·rw[show (a.length == b.length) = true from beq_iff_eq.2 h2, cond_true]
   exact decide_eq_decide.2 ⟨λ h=>.inr ⟨h2,h⟩,λ h=>h.elim (λ h=>absurd h h1) (λ h=>h.2)⟩
  ·rw[show (a.length == b.length) = false from beq_eq_false_iff_ne.2 h2, cond_false]
   exact (decide_eq_false (λ h=>h.elim h1 (λ h=>h2 h.1))).symm
def Rp (N:Nat) (T:Tab) (d:zcb):Prop:=∀ v,v < N->(T (v * 2),T (v * 2+1))=zKL (d v)
def nv (x y:Int):Bool:=match (x == (1000000000000:Int)) with | true=>(match (y == (0:Int)) with | true=>true | false=>false) | false=>false
def sm (x y u v:Int):Bool:=match (x == u) with | true=>(match (y == v) with | true=>true | false=>false) | false=>false
theorem zuz (x y:Int):nv x y=decide ((x,y)=((1000000000000:Int),(0:Int))):=by
 unfold nv
 by_cases h1:x=1000000000000
 ·rw[show (x == (1000000000000:Int)) = true from beq_iff_eq.2 h1]
  by_cases h2:y=0
  ·rw[show (y == (0:Int))=true from beq_iff_eq.2 h2];exact (decide_eq_true (by rw[h1,h2])).symm
  ·rw[show (y == (0:Int))=false from beq_eq_false_iff_ne.2 h2];exact (decide_eq_false (λ h=>h2 (Prod.mk.inj h).2)).symm
 ·rw[show (x == (1000000000000:Int)) = false from beq_eq_false_iff_ne.2 h1]
  exact (decide_eq_false (λ h=>h1 (Prod.mk.inj h).1)).symm
theorem same_eq (x y u v:Int):sm x y u v=decide ((x,y)=(u,v)):=by
 unfold sm
 by_cases h1:x=u
 ·rw[show (x == u) = true from beq_iff_eq.2 h1]
  by_cases h2:y=v
  ·rw[show (y == v)=true from beq_iff_eq.2 h2];exact (decide_eq_true (by rw[h1,h2])).symm
  ·rw[show (y == v)=false from beq_eq_false_iff_ne.2 h2];exact (decide_eq_false (λ h=>h2 (Prod.mk.inj h).2)).symm
 ·rw[show (x == u) = false from beq_eq_false_iff_ne.2 h1]
  exact (decide_eq_false (λ h=>h1 (Prod.mk.inj h).1)).symm
theorem zj9 {E : List Ed}{n s v : Nat}(hE : EdOk E n) (hs : s < n){d : zcb}(hd : Inv (E.map edM) (λ v => v = s) d){x : Int}(hx : d v = some x) :
  ∃ L U,zKL (d v)=(L,U)/\x=L * 1048576+U/\0≤U/\U < 40/\-40000000000≤L/\L≤40000000000:=by
 obtain⟨c,hc⟩:=zDC hE hs hd hx
 have h1:=zj7 hE hc.ch
 have h2:=hc.len
 have h3:=hE.n40
 refine⟨wt c,c.length,?_,hc.x,by omega,by omega,by omega,by omega⟩
 rw[hx,hc.x]
 exact zsU (by omega) (by omega)
end Go.Proofs
namespace Go.Proofs
open Go Go.Pm
set_option maxRecDepth 100000
set_option linter.unusedVariables false
theorem zKe (a : web){N s : Nat}(E : List Ed) (hE : EdOk E N) (hn : zbZ E) (hs : s < N) (S2 : Bool -> Tab -> Tab -> Tab) (P2 : Bool -> Tab -> Tab -> Bool) (y : step) (hy : StOk y N) (hm : edS y ∈ E) (S3 : Bool -> Tab -> Tab -> Tab) (P3 : Bool -> Tab -> Tab -> Bool) (c : Bool) (T4 T : Tab) (d : zcb) (h1 : Rp N T d) (hi : Inv (E.map edM) (λ v => v = s) d) :
  ∃ T',zls S2 a y S3 c T4 T=S3 (rlF (d,c) (edM (edS y))).2 T4 T'/\zlt P2 a y P3 c T4 T=P3 (rlF (d,c) (edM (edS y))).2 T4 T'/\Rp N T' (rlF (d,c) (edM (edS y))).1:=by
 have hN:=hE.n40
 have f0:=hy.f0;have f1:=hy.f1;have t0:=hy.t0;have t1:=hy.t1;have l0:=hy.l0;have l1:=hy.l1
 have hu:=h1 y.from_.toNat (by omega)
 have hv:=h1 y.to.toNat (by omega)
 have e1:0+y.from_.toNat * 2+0=y.from_.toNat * 2:=by omega
 have e2:0+y.to.toNat * 2+0=y.to.toNat * 2:=by omega
 have e3:0+y.from_.toNat * 2+1=y.from_.toNat * 2+1:=by omega
 have hin:=zjm (Src:=λ v=>v=s) (zgA hn) (s:=(d,c)) (e:=edM (edS y)) (List.mem_map_of_mem hm) hi
 have hS:zls S2 a y S3 c T4 T=cond (nv (tg 80 T (0+y.from_.toNat * 2+0)) (tg 80 T (0+y.from_.toNat * 2+0+1))) (S3 c T4 T) (cond c (S3 true T4 (ts 80 T (0+y.to.toNat * 2+0) [(zch (⟨(tg 80 T (0+y.to.toNat * 2+0)),(tg 80 T (0+y.to.toNat * 2+0+1))⟩:far) (⟨1,λ _=>(⟨(w64 ((tg 80 T (0+y.from_.toNat * 2+0))+y.length)),(w64 ((tg 80 T (0+y.from_.toNat * 2+1))+(1:Int)))⟩:far)⟩:(Sl far))).length,(zch (⟨(tg 80 T (0+y.to.toNat * 2+0)),(tg 80 T (0+y.to.toNat * 2+0+1))⟩:far) (⟨1,λ _=>(⟨(w64 ((tg 80 T (0+y.from_.toNat * 2+0))+y.length)),(w64 ((tg 80 T (0+y.from_.toNat * 2+1))+(1:Int)))⟩:far)⟩:(Sl far))).uses])) (S3 (!(sm (zch (⟨(tg 80 T (0+y.to.toNat * 2+0)),(tg 80 T (0+y.to.toNat * 2+0+1))⟩:far) (⟨1,λ _=>(⟨(w64 ((tg 80 T (0+y.from_.toNat * 2+0))+y.length)),(w64 ((tg 80 T (0+y.from_.toNat * 2+1))+(1:Int)))⟩:far)⟩:(Sl far))).length (zch (⟨(tg 80 T (0+y.to.toNat * 2+0)),(tg 80 T (0+y.to.toNat * 2+0+1))⟩:far) (⟨1,λ _=>(⟨(w64 ((tg 80 T (0+y.from_.toNat * 2+0))+y.length)),(w64 ((tg 80 T (0+y.from_.toNat * 2+1))+(1:Int)))⟩:far)⟩:(Sl far))).uses (tg 80 T (0+y.to.toNat * 2+0)) (tg 80 T (0+y.to.toNat * 2+0+1)))) T4 (ts 80 T (0+y.to.toNat * 2+0) [(zch (⟨(tg 80 T (0+y.to.toNat * 2+0)),(tg 80 T (0+y.to.toNat * 2+0+1))⟩:far) (⟨1,λ _=>(⟨(w64 ((tg 80 T (0+y.from_.toNat * 2+0))+y.length)),(w64 ((tg 80 T (0+y.from_.toNat * 2+1))+(1:Int)))⟩:far)⟩:(Sl far))).length,(zch (⟨(tg 80 T (0+y.to.toNat * 2+0)),(tg 80 T (0+y.to.toNat * 2+0+1))⟩:far) (⟨1,λ _=>(⟨(w64 ((tg 80 T (0+y.from_.toNat * 2+0))+y.length)),(w64 ((tg 80 T (0+y.from_.toNat * 2+1))+(1:Int)))⟩:far)⟩:(Sl far))).uses]))):=rfl
 have hP:zlt P2 a y P3 c T4 T=(decide (0≤y.from_/\y.from_ < (40:Int)) && cond (nv (tg 80 T (0+y.from_.toNat * 2+0)) (tg 80 T (0+y.from_.toNat * 2+0+1))) (P3 c T4 T) (decide (0≤y.to/\y.to < (40:Int)) && (decide (0≤y.from_/\y.from_ < (40:Int)) && (decide (0≤y.from_/\y.from_ < (40:Int)) && (decide (zvv (⟨(tg 80 T (0+y.to.toNat * 2+0)),(tg 80 T (0+y.to.toNat * 2+0+1))⟩:far) (⟨1,λ _=>(⟨(w64 ((tg 80 T (0+y.from_.toNat * 2+0))+y.length)),(w64 ((tg 80 T (0+y.from_.toNat * 2+1))+(1:Int)))⟩:far)⟩:(Sl far))=true) && cond c (decide (0≤y.to/\y.to < (40:Int)) && P3 true T4 (ts 80 T (0+y.to.toNat * 2+0) [(zch (⟨(tg 80 T (0+y.to.toNat * 2+0)),(tg 80 T (0+y.to.toNat * 2+0+1))⟩:far) (⟨1,λ _=>(⟨(w64 ((tg 80 T (0+y.from_.toNat * 2+0))+y.length)),(w64 ((tg 80 T (0+y.from_.toNat * 2+1))+(1:Int)))⟩:far)⟩:(Sl far))).length,(zch (⟨(tg 80 T (0+y.to.toNat * 2+0)),(tg 80 T (0+y.to.toNat * 2+0+1))⟩:far) (⟨1,λ _=>(⟨(w64 ((tg 80 T (0+y.from_.toNat * 2+0))+y.length)),(w64 ((tg 80 T (0+y.from_.toNat * 2+1))+(1:Int)))⟩:far)⟩:(Sl far))).uses])) (decide (0≤y.to/\y.to < (40:Int)) && (decide (0≤y.to/\y.to < (40:Int)) && P3 (!(sm (zch (⟨(tg 80 T (0+y.to.toNat * 2+0)),(tg 80 T (0+y.to.toNat * 2+0+1))⟩:far) (⟨1,λ _=>(⟨(w64 ((tg 80 T (0+y.from_.toNat * 2+0))+y.length)),(w64 ((tg 80 T (0+y.from_.toNat * 2+1))+(1:Int)))⟩:far)⟩:(Sl far))).length (zch (⟨(tg 80 T (0+y.to.toNat * 2+0)),(tg 80 T (0+y.to.toNat * 2+0+1))⟩:far) (⟨1,λ _=>(⟨(w64 ((tg 80 T (0+y.from_.toNat * 2+0))+y.length)),(w64 ((tg 80 T (0+y.from_.toNat * 2+1))+(1:Int)))⟩:far)⟩:(Sl far))).uses (tg 80 T (0+y.to.toNat * 2+0)) (tg 80 T (0+y.to.toNat * 2+0+1)))) T4 (ts 80 T (0+y.to.toNat * 2+0) [(zch (⟨(tg 80 T (0+y.to.toNat * 2+0)),(tg 80 T (0+y.to.toNat * 2+0+1))⟩:far) (⟨1,λ _=>(⟨(w64 ((tg 80 T (0+y.from_.toNat * 2+0))+y.length)),(w64 ((tg 80 T (0+y.from_.toNat * 2+1))+(1:Int)))⟩:far)⟩:(Sl far))).length,(zch (⟨(tg 80 T (0+y.to.toNat * 2+0)),(tg 80 T (0+y.to.toNat * 2+0+1))⟩:far) (⟨1,λ _=>(⟨(w64 ((tg 80 T (0+y.from_.toNat * 2+0))+y.length)),(w64 ((tg 80 T (0+y.from_.toNat * 2+1))+(1:Int)))⟩:far)⟩:(Sl far))).uses])))))))):=rfl
 rw[hS,hP]
 clear hS hP
 rw[e1,e2,e3,ze9 (k:=y.from_.toNat * 2) (by omega),ze9 (k:=y.from_.toNat * 2+1) (by omega),ze9 (k:=y.to.toNat * 2) (by omega),ze9 (k:=y.to.toNat * 2+1) (by omega)]
 rw[decide_eq_true (show 0≤y.from_/\y.from_ < (40:Int) by omega),decide_eq_true (show 0≤y.to/\y.to < (40:Int) by omega)]
 simp only[zuz,same_eq]
 cases hdu:d y.from_.toNat with
 | none =>
  rw[hdu] at hu
  have hr:rlF (d,c) (edM (edS y))=(d,c):=by
   unfold rlF edM edS
   simp only[hdu]
  rw[hr,decide_eq_true (show (T (y.from_.toNat * 2),T (y.from_.toNat * 2+1))=((1000000000000:Int),(0:Int)) from hu)]
  exact⟨T,rfl,rfl,h1⟩
 | some x =>
  obtain⟨L,U,k1,k2,k3,k4,k5,k6⟩:=zj9 hE hs hi hdu
  rw[hdu] at hu k1
  rw[k1] at hu
  have hL:T (y.from_.toNat * 2)=L:=(Prod.mk.inj hu).1
  have hU:T (y.from_.toNat * 2+1)=U:=(Prod.mk.inj hu).2
  rw[hL,hU,decide_eq_false (show ¬ (L,U)=((1000000000000:Int),(0:Int)) from λ h=>by have:=(Prod.mk.inj h).1;omega),zcw (x:=L+y.length) (by omega) (by omega),zcw (x:=U+(1:Int)) (by omega) (by omega)]
  rw[(zj8 _ _).1,(zj8 _ _).2,zAu]
  have hw:x+(edM (edS y)).w=(L+y.length) * 1048576+(U+1):=by
   show x+(y.length * 1048576+1)=_
   omega
  have hr:rlF (d,c) (edM (edS y))=cond (ltO ((L+y.length) * 1048576+(U+1)) (d y.to.toNat)) (zjl d y.to.toNat ((L+y.length) * 1048576+(U+1)),true) (d,c):=by
   rw[← hw]
   unfold rlF edM edS
   simp only[hdu] <;> rfl
  have hlt:decide ((L+y.length < T (y.to.toNat * 2))∨(L+y.length=T (y.to.toNat * 2)/\U+1 < T (y.to.toNat * 2+1)))=ltO ((L+y.length) * 1048576+(U+1)) (d y.to.toNat):=by
   cases hdv:d y.to.toNat with
   | none =>
    rw[hdv] at hv
    have hv1:T (y.to.toNat * 2)=1000000000000:=(Prod.mk.inj hv).1
    rw[hv1]
    exact decide_eq_true (.inl (by omega))
   | some z =>
    obtain⟨L',U',m1,m2,m3,m4,m5,m6⟩:=zj9 hE hs hi hdv
    rw[hdv] at hv m1
    rw[m1] at hv
    rw[(Prod.mk.inj hv).1,(Prod.mk.inj hv).2,m2]
    exact decide_eq_decide.2 (by omega)
  simp only[hlt]
  rw[hr] at hin ⊢
  have hrw:∀ T'',Rp N T d->T''=ts 80 T (y.to.toNat * 2) [T (y.to.toNat * 2),T (y.to.toNat * 2+1)]->Rp N T'' d:=λ T'' h e v hv'=>by
   rw[e,zdS (by omega),zdS (by omega),← h v hv']
   by_cases hq:v=y.to.toNat
   ·subst hq
    rw[if_neg (by omega),if_pos rfl,if_pos rfl]
   ·rw[if_neg (by omega),if_neg (by omega),if_neg (by omega),if_neg (by omega)]
  cases hlo:ltO ((L+y.length) * 1048576+(U+1)) (d y.to.toNat) with
  | false =>
   refine⟨ts 80 T (y.to.toNat * 2) [T (y.to.toNat * 2),T (y.to.toNat * 2+1)],?_,?_,hrw _ h1 rfl⟩
   ·simp only[cond_false, decide_true]
    cases c <;> rfl
   ·simp only[cond_false, Bool.true_and, decide_true]
    cases c <;> rfl
  | true =>
   rw[hlo] at hin
   simp only[cond_true,cond_false,Bool.true_and,decide_true] at hin ⊢
   refine⟨ts 80 T (y.to.toNat * 2) [L+y.length,U+1],?_,?_,?_⟩
   ·cases c
    ·rw[decide_eq_false]
     ·rfl
     ·intro h
      rw[← hlt] at hlo
      have:=of_decide_eq_true hlo
      have h1':=(Prod.mk.inj h).1
      have h2':=(Prod.mk.inj h).2
      omega
    ·rfl
   ·cases c
    ·rw[decide_eq_false]
     ·rfl
     ·intro h
      rw[← hlt] at hlo
      have:=of_decide_eq_true hlo
      have h1':=(Prod.mk.inj h).1
      have h2':=(Prod.mk.inj h).2
      omega
    ·rfl
   ·intro v hv'
    rw[zdS (by omega),zdS (by omega)]
    unfold zjl
    by_cases hq:v=y.to.toNat
    ·subst hq
     rw[if_neg (by omega),if_pos rfl,if_pos rfl,if_pos rfl]
     exact (zsU (by omega) (by omega)).symm
    ·rw[if_neg (by omega), if_neg (by omega), if_neg (by omega), if_neg (by omega), if_neg hq]
     exact h1 v hv'
theorem zKf (a:web){N s:Nat}(E:List Ed) (hE:EdOk E N) (hn:zbZ E) (hs:s < N) (S2:Bool->Tab->Tab->Tab) (P2:Bool->Tab->Tab->Bool):∀ (l:List step),(∀ y∈l,StOk y N/\edS y∈E)->∀ (c:Bool) (T4 T:Tab) (d:zcb),Rp N T d->Inv (E.map edM) (λ v=>v=s) d ->
  ∃ T',zhs S2 a l c T4 T=S2 (((l.map edS).map edM).foldl rlF (d,c)).2 T4 T'/\zht P2 a l c T4 T=P2 (((l.map edS).map edM).foldl rlF (d,c)).2 T4 T'/\Rp N T' (((l.map edS).map edM).foldl rlF (d,c)).1:=by
 intro l
 induction l with
 | nil=>intro _ c T4 T d h1 _;exact⟨T,rfl,rfl,h1⟩
 | cons y l ih =>
  intro hl c T4 T d h1 h2
  obtain⟨hy,hm⟩:=hl y (List.mem_cons_self ..)
  obtain⟨T',k1,k2,k3⟩:=zKe a E hE hn hs S2 P2 y hy hm (zhs S2 a l) (zht P2 a l) c T4 T d h1 h2
  have h3:=zjm (Src:=λ v=>v=s) (zgA hn) (s:=(d,c)) (e:=edM (edS y)) (List.mem_map_of_mem hm) h2
  obtain⟨T'',m1,m2,m3⟩:=ih (λ z hz=>hl z (List.mem_cons_of_mem _ hz)) (rlF (d,c) (edM (edS y))).2 T4 T' (rlF (d,c) (edM (edS y))).1 k3 h3
  exact⟨T'',Eq.trans k1 m1,Eq.trans k2 m2,m3⟩
theorem zCr (a:web) (hnet:NetOk a.Net) (E:List Ed) (hEe:E=(Ws a).map edS){s:Nat}(hE:EdOk E a.Net.Nodes.toNat) (hn:zbZ E) (hs:s < a.Net.Nodes.toNat):∀ (m k:Nat) (T4 T:Tab) (d:zcb),Rp a.Net.Nodes.toNat T d->Inv (E.map edM) (λ v=>v=s) d->Fix (E.map edM) (rds (E.map edM) m d)->m+1 < k ->
  ∃ T',zem a k true T4 T=true/\zel a k true T4 T=T'/\Rp a.Net.Nodes.toNat T' (rds (E.map edM) m d):=by
 have hlen:=hnet.len
 obtain⟨q1,q2⟩:=zsX a (by omega)
 have hst:∀ y∈Ws a,StOk y a.Net.Nodes.toNat/\edS y∈E:=λ y hy=>⟨zHa hnet hy,by rw[hEe];exact List.mem_map_of_mem hy⟩
 have one:∀ (k:Nat) (T4 T:Tab) (d:zcb),Rp a.Net.Nodes.toNat T d->Inv (E.map edM) (λ v=>v=s) d ->
   ∃ T',zel a (k+1) true T4 T=zel a k ((E.map edM).foldl rlF (d,false)).2 T4 T'/\zem a (k+1) true T4 T=zem a k ((E.map edM).foldl rlF (d,false)).2 T4 T'/\Rp a.Net.Nodes.toNat T' (rnd (E.map edM) d):=by
  intro k T4 T d h1 h2
  obtain⟨T',k1,k2,k3⟩:=zKf a E hE hn hs (zel a k) (zem a k) (Ws a) hst false T4 T d h1 h2
  rw[← hEe] at k1 k2 k3
  refine⟨T',?_,?_,k3⟩
  ·show zlu a (zel a k) true T4 T = _
   unfold zlu zrK
   rw[cond_true,q2];exact k1
  ·show zlv a (zem a k) true T4 T = _
   unfold zlv zn1
   rw[cond_true,q1,q2,decide_eq_true rfl,Bool.true_and];exact k2
 have stop:∀ (k:Nat) (T4 T:Tab),zel a (k+1) false T4 T=T/\zem a (k+1) false T4 T=true:=λ k T4 T=>⟨rfl,rfl⟩
 intro m
 induction m with
 | zero =>
  intro k T4 T d h1 h2 h3 hk
  obtain⟨k,rfl⟩:∃ k',k=k'+1+1:=⟨k - 2,by omega⟩
  obtain⟨T',k1,k2,k3⟩:=one (k+1) T4 T d h1 h2
  have h3':Fix (E.map edM) d:=h3
  rw[ziq h3'] at k1 k2
  rw[zhE h3'] at k3
  obtain⟨j1,j2⟩:=stop k T4 T'
  exact⟨T',k2.trans j2,k1.trans j1,k3⟩
 | succ m ih =>
  intro k T4 T d h1 h2 h3 hk
  obtain⟨k,rfl⟩:∃ k',k=k'+1+1:=⟨k - 2,by omega⟩
  obtain⟨T',k1,k2,k3⟩:=one (k+1) T4 T d h1 h2
  cases hf:((E.map edM).foldl rlF (d,false)).2 with
  | false =>
   rw[hf] at k1 k2
   have hx:Fix (E.map edM) d:=zgU hf
   obtain⟨j1,j2⟩:=stop k T4 T'
   refine⟨T',k2.trans j2,k1.trans j1,?_⟩
   rw[zhE hx] at k3
   rw[zsR hx];exact k3
  | true =>
   rw[hf] at k1 k2
   obtain⟨T'',m1,m2,m3⟩:=ih (k+1) T4 T' (rnd (E.map edM) d) k3 (zj6 (zgA hn) (λ _ h=>h) (s:=(d,false)) h2) h3 (by omega)
   exact⟨T'',k2.trans m1,k1.trans m2,m3⟩
theorem zHb (a:web) (node:Int):∀ (m k i:Nat) (T4 T:Tab),(∀ v,v < i->T (v * 2)=1000000000000/\T (v * 2+1)=0)->i+m=40->m < k ->
  ∃ T',zfw a node k (i:Int) T4 T=zlw a node T4 T'/\zfx a node k (i:Int) T4 T=zlx a node T4 T'/\∀ v,v < 40->T' (v * 2)=1000000000000/\T' (v * 2+1)=0:=by
 intro m
 induction m with
 | zero =>
  intro k i T4 T h hi hk
  obtain⟨k,rfl⟩:∃ k',k=k'+1:=⟨k - 1,by omega⟩
  refine⟨T,?_,?_,λ v hv=>h v (by omega)⟩
  ·show zhu a node (zfw a node k) (i : Int) T4 T = _
   unfold zhu
   rw[decide_eq_false (show ¬ (i:Int) < (40:Int) by omega),cond_false]
  ·show zhv a node (zfx a node k) (i : Int) T4 T = _
   unfold zhv
   rw[decide_eq_false (show ¬ (i:Int) < (40:Int) by omega),cond_false]
 | succ m ih =>
  intro k i T4 T h hi hk
  obtain⟨k,rfl⟩:∃ k',k=k'+1:=⟨k - 1,by omega⟩
  have hw:w64 ((i:Int)+(1:Int))=((i+1:Nat):Int):=by rw[zcw (by omega) (by omega)];omega
  obtain⟨T',k1,k2,k3⟩:=ih k (i+1) T4 (ts 80 T (i * 2) [(1000000000000:Int),(0:Int)]) (λ v hv=>by
   rw[zdS (by omega),zdS (by omega)]
   by_cases hq:v=i
   ·subst hq
    rw[if_neg (by omega),if_pos rfl,if_pos rfl];exact⟨rfl,rfl⟩
   ·rw[if_neg (by omega),if_neg (by omega),if_neg (by omega),if_neg (by omega)];exact h v (by omega)) (by omega) (by omega)
  refine⟨T',?_,?_,k3⟩
  ·rw[← k1]
   show zhu a node (zfw a node k) (i:Int) T4 T=_
   unfold zhu
   rw[decide_eq_true (show (i:Int) < (40:Int) by omega),cond_true,hw,Int.toNat_natCast,show 0+i * 2+0=i * 2 by omega]
  ·rw[← k2]
   show zhv a node (zfx a node k) (i:Int) T4 T=_
   unfold zhv
   rw[decide_eq_true (show (i:Int) < (40:Int) by omega),cond_true,decide_eq_true (show 0≤(i:Int)/\(i:Int) < (40:Int) by omega),Bool.true_and,hw,Int.toNat_natCast,show 0+i * 2+0=i * 2 by omega]
theorem zKg (a : web) (hnet : NetOk a.Net) (hn : zbZ (We a)) (node : Int) (h0 : 0 ≤ node) (h1 : node < a.Net.Nodes) :
  p76 a node=true/\Rp a.Net.Nodes.toNat (s76 a node) (dst (We a) a.Net.Nodes.toNat node.toNat):=by
 have hn40:=hnet.n40
 have hEe:We a=(Ws a).map edS:=rfl
 have hE:EdOk (We a) a.Net.Nodes.toNat:=zDF hnet
 have hN:zbZ (We a):=hn
 have hs:node.toNat < a.Net.Nodes.toNat:=by omega
 obtain⟨T1,a1,a2,a3⟩:=zHb a node 40 Fuel 0 (λ _=>(0:Int)) (λ _=>(0:Int)) (λ v hv=>absurd hv (Nat.not_lt_zero _)) rfl (by simp only[Fuel];omega)
 have hr:Rp a.Net.Nodes.toNat (ts 80 T1 (node.toNat * 2) [(0:Int),(0:Int)]) (zqi node.toNat):=λ v hv=>by
  rw[zdS (by omega),zdS (by omega)]
  unfold zqi
  by_cases hq:v=node.toNat
  ·subst hq
   rw[if_neg (by omega),if_pos rfl,if_pos rfl,if_pos rfl];rfl
  ·rw[if_neg (by omega),if_neg (by omega),if_neg (by omega),if_neg (by omega),if_neg hq,(a3 v (by omega)).1,(a3 v (by omega)).2];rfl
 obtain⟨T2,b1,b2,b3⟩:=zCr a hnet (We a) hEe hE hN hs (a.Net.Nodes.toNat - 1) Fuel (λ _=>(0:Int)) (ts 80 T1 (node.toNat * 2) [(0:Int),(0:Int)]) (zqi node.toNat) hr (zet (zdu node.toNat)) (zsV hE hN hs) (by simp only[Fuel];omega)
 have e:0+node.toNat * 2+0=node.toNat * 2:=by omega
 constructor
 ·show zfx a node Fuel 0 (λ _ => (0:Int)) (λ _ => (0:Int)) = true
  refine Eq.trans a2 ?_
  unfold zlx zrM
  rw[decide_eq_true (show 0≤node/\node < (40:Int) by omega),Bool.true_and,e];exact b1
 ·have:s76 a node=T2:=by
   show zfw a node Fuel 0 (λ _=>(0:Int)) (λ _=>(0:Int))=T2
   refine Eq.trans a1 ?_
   unfold zlw zrL
   rw[e];exact b2
  rw[this];exact b3
end Go.Proofs
namespace Go.Proofs
open Go Go.Pm
set_option maxRecDepth 100000
set_option linter.unusedVariables false
def edQ (y:step):Ed:=⟨y.to.toNat,y.from_.toNat,y.length⟩
theorem zHc (l:List step):l.map edQ=(l.map edS).map edR:=by rw[List.map_map];rfl

theorem zKh (a : web){N s : Nat}(E : List Ed) (hE : EdOk E N) (hn : zbZ E) (hs : s < N) (S2 : Bool -> Tab -> Tab -> Tab) (P2 : Bool -> Tab -> Tab -> Bool) (y : step) (hy : StOk y N) (hm : edQ y ∈ E) (S3 : Bool -> Tab -> Tab -> Tab) (P3 : Bool -> Tab -> Tab -> Bool) (c : Bool) (T4 T : Tab) (d : zcb) (h1 : Rp N T d) (hi : Inv (E.map edM) (λ v => v = s) d) :
  ∃ T',zli S2 a y S3 c T4 T=S3 (rlF (d,c) (edM (edQ y))).2 T4 T'/\zlj P2 a y P3 c T4 T=P3 (rlF (d,c) (edM (edQ y))).2 T4 T'/\Rp N T' (rlF (d,c) (edM (edQ y))).1:=by
 have hN:=hE.n40
 have f0:=hy.f0;have f1:=hy.f1;have t0:=hy.t0;have t1:=hy.t1;have l0:=hy.l0;have l1:=hy.l1
 have hu:=h1 y.to.toNat (by omega)
 have hv:=h1 y.from_.toNat (by omega)
 have e1:0+y.to.toNat * 2+0=y.to.toNat * 2:=by omega
 have e2:0+y.from_.toNat * 2+0=y.from_.toNat * 2:=by omega
 have e3:0+y.to.toNat * 2+1=y.to.toNat * 2+1:=by omega
 have hin:=zjm (Src:=λ v=>v=s) (zgA hn) (s:=(d,c)) (e:=edM (edQ y)) (List.mem_map_of_mem hm) hi
 have hS:zli S2 a y S3 c T4 T=cond (nv (tg 80 T (0+y.to.toNat * 2+0)) (tg 80 T (0+y.to.toNat * 2+0+1))) (S3 c T4 T) (cond c (S3 true T4 (ts 80 T (0+y.from_.toNat * 2+0) [(zch (⟨(tg 80 T (0+y.from_.toNat * 2+0)),(tg 80 T (0+y.from_.toNat * 2+0+1))⟩:far) (⟨1,λ _=>(⟨(w64 ((tg 80 T (0+y.to.toNat * 2+0))+y.length)),(w64 ((tg 80 T (0+y.to.toNat * 2+1))+(1:Int)))⟩:far)⟩:(Sl far))).length,(zch (⟨(tg 80 T (0+y.from_.toNat * 2+0)),(tg 80 T (0+y.from_.toNat * 2+0+1))⟩:far) (⟨1,λ _=>(⟨(w64 ((tg 80 T (0+y.to.toNat * 2+0))+y.length)),(w64 ((tg 80 T (0+y.to.toNat * 2+1))+(1:Int)))⟩:far)⟩:(Sl far))).uses])) (S3 (!(sm (zch (⟨(tg 80 T (0+y.from_.toNat * 2+0)),(tg 80 T (0+y.from_.toNat * 2+0+1))⟩:far) (⟨1,λ _=>(⟨(w64 ((tg 80 T (0+y.to.toNat * 2+0))+y.length)),(w64 ((tg 80 T (0+y.to.toNat * 2+1))+(1:Int)))⟩:far)⟩:(Sl far))).length (zch (⟨(tg 80 T (0+y.from_.toNat * 2+0)),(tg 80 T (0+y.from_.toNat * 2+0+1))⟩:far) (⟨1,λ _=>(⟨(w64 ((tg 80 T (0+y.to.toNat * 2+0))+y.length)),(w64 ((tg 80 T (0+y.to.toNat * 2+1))+(1:Int)))⟩:far)⟩:(Sl far))).uses (tg 80 T (0+y.from_.toNat * 2+0)) (tg 80 T (0+y.from_.toNat * 2+0+1)))) T4 (ts 80 T (0+y.from_.toNat * 2+0) [(zch (⟨(tg 80 T (0+y.from_.toNat * 2+0)),(tg 80 T (0+y.from_.toNat * 2+0+1))⟩:far) (⟨1,λ _=>(⟨(w64 ((tg 80 T (0+y.to.toNat * 2+0))+y.length)),(w64 ((tg 80 T (0+y.to.toNat * 2+1))+(1:Int)))⟩:far)⟩:(Sl far))).length,(zch (⟨(tg 80 T (0+y.from_.toNat * 2+0)),(tg 80 T (0+y.from_.toNat * 2+0+1))⟩:far) (⟨1,λ _=>(⟨(w64 ((tg 80 T (0+y.to.toNat * 2+0))+y.length)),(w64 ((tg 80 T (0+y.to.toNat * 2+1))+(1:Int)))⟩:far)⟩:(Sl far))).uses]))):=rfl
 have hP:zlj P2 a y P3 c T4 T=(decide (0≤y.to/\y.to < (40:Int)) && cond (nv (tg 80 T (0+y.to.toNat * 2+0)) (tg 80 T (0+y.to.toNat * 2+0+1))) (P3 c T4 T) (decide (0≤y.from_/\y.from_ < (40:Int)) && (decide (0≤y.to/\y.to < (40:Int)) && (decide (0≤y.to/\y.to < (40:Int)) && (decide (zvv (⟨(tg 80 T (0+y.from_.toNat * 2+0)),(tg 80 T (0+y.from_.toNat * 2+0+1))⟩:far) (⟨1,λ _=>(⟨(w64 ((tg 80 T (0+y.to.toNat * 2+0))+y.length)),(w64 ((tg 80 T (0+y.to.toNat * 2+1))+(1:Int)))⟩:far)⟩:(Sl far))=true) && cond c (decide (0≤y.from_/\y.from_ < (40:Int)) && P3 true T4 (ts 80 T (0+y.from_.toNat * 2+0) [(zch (⟨(tg 80 T (0+y.from_.toNat * 2+0)),(tg 80 T (0+y.from_.toNat * 2+0+1))⟩:far) (⟨1,λ _=>(⟨(w64 ((tg 80 T (0+y.to.toNat * 2+0))+y.length)),(w64 ((tg 80 T (0+y.to.toNat * 2+1))+(1:Int)))⟩:far)⟩:(Sl far))).length,(zch (⟨(tg 80 T (0+y.from_.toNat * 2+0)),(tg 80 T (0+y.from_.toNat * 2+0+1))⟩:far) (⟨1,λ _=>(⟨(w64 ((tg 80 T (0+y.to.toNat * 2+0))+y.length)),(w64 ((tg 80 T (0+y.to.toNat * 2+1))+(1:Int)))⟩:far)⟩:(Sl far))).uses])) (decide (0≤y.from_/\y.from_ < (40:Int)) && (decide (0≤y.from_/\y.from_ < (40:Int)) && P3 (!(sm (zch (⟨(tg 80 T (0+y.from_.toNat * 2+0)),(tg 80 T (0+y.from_.toNat * 2+0+1))⟩:far) (⟨1,λ _=>(⟨(w64 ((tg 80 T (0+y.to.toNat * 2+0))+y.length)),(w64 ((tg 80 T (0+y.to.toNat * 2+1))+(1:Int)))⟩:far)⟩:(Sl far))).length (zch (⟨(tg 80 T (0+y.from_.toNat * 2+0)),(tg 80 T (0+y.from_.toNat * 2+0+1))⟩:far) (⟨1,λ _=>(⟨(w64 ((tg 80 T (0+y.to.toNat * 2+0))+y.length)),(w64 ((tg 80 T (0+y.to.toNat * 2+1))+(1:Int)))⟩:far)⟩:(Sl far))).uses (tg 80 T (0+y.from_.toNat * 2+0)) (tg 80 T (0+y.from_.toNat * 2+0+1)))) T4 (ts 80 T (0+y.from_.toNat * 2+0) [(zch (⟨(tg 80 T (0+y.from_.toNat * 2+0)),(tg 80 T (0+y.from_.toNat * 2+0+1))⟩:far) (⟨1,λ _=>(⟨(w64 ((tg 80 T (0+y.to.toNat * 2+0))+y.length)),(w64 ((tg 80 T (0+y.to.toNat * 2+1))+(1:Int)))⟩:far)⟩:(Sl far))).length,(zch (⟨(tg 80 T (0+y.from_.toNat * 2+0)),(tg 80 T (0+y.from_.toNat * 2+0+1))⟩:far) (⟨1,λ _=>(⟨(w64 ((tg 80 T (0+y.to.toNat * 2+0))+y.length)),(w64 ((tg 80 T (0+y.to.toNat * 2+1))+(1:Int)))⟩:far)⟩:(Sl far))).uses])))))))):=rfl
 rw[hS,hP]
 clear hS hP
 rw[e1,e2,e3,ze9 (k:=y.to.toNat * 2) (by omega),ze9 (k:=y.to.toNat * 2+1) (by omega),ze9 (k:=y.from_.toNat * 2) (by omega),ze9 (k:=y.from_.toNat * 2+1) (by omega)]
 rw[decide_eq_true (show 0≤y.to/\y.to < (40:Int) by omega),decide_eq_true (show 0≤y.from_/\y.from_ < (40:Int) by omega)]
 simp only[zuz,same_eq]
 cases hdu:d y.to.toNat with
 | none =>
  rw[hdu] at hu
  have hr:rlF (d,c) (edM (edQ y))=(d,c):=by
   unfold rlF edM edQ
   simp only[hdu]
  rw[hr,decide_eq_true (show (T (y.to.toNat * 2),T (y.to.toNat * 2+1))=((1000000000000:Int),(0:Int)) from hu)]
  exact⟨T,rfl,rfl,h1⟩
 | some x =>
  obtain⟨L,U,k1,k2,k3,k4,k5,k6⟩:=zj9 hE hs hi hdu
  rw[hdu] at hu k1
  rw[k1] at hu
  have hL:T (y.to.toNat * 2)=L:=(Prod.mk.inj hu).1
  have hU:T (y.to.toNat * 2+1)=U:=(Prod.mk.inj hu).2
  rw[hL,hU,decide_eq_false (show ¬ (L,U)=((1000000000000:Int),(0:Int)) from λ h=>by have:=(Prod.mk.inj h).1;omega),zcw (x:=L+y.length) (by omega) (by omega),zcw (x:=U+(1:Int)) (by omega) (by omega)]
  rw[(zj8 _ _).1,(zj8 _ _).2,zAu]
  have hw:x+(edM (edQ y)).w=(L+y.length) * 1048576+(U+1):=by
   show x+(y.length * 1048576+1)=_
   omega
  have hr:rlF (d,c) (edM (edQ y))=cond (ltO ((L+y.length) * 1048576+(U+1)) (d y.from_.toNat)) (zjl d y.from_.toNat ((L+y.length) * 1048576+(U+1)),true) (d,c):=by
   rw[← hw]
   unfold rlF edM edQ
   simp only[hdu] <;> rfl
  have hlt:decide ((L+y.length < T (y.from_.toNat * 2))∨(L+y.length=T (y.from_.toNat * 2)/\U+1 < T (y.from_.toNat * 2+1)))=ltO ((L+y.length) * 1048576+(U+1)) (d y.from_.toNat):=by
   cases hdv:d y.from_.toNat with
   | none =>
    rw[hdv] at hv
    have hv1:T (y.from_.toNat * 2)=1000000000000:=(Prod.mk.inj hv).1
    rw[hv1]
    exact decide_eq_true (.inl (by omega))
   | some z =>
    obtain⟨L',U',m1,m2,m3,m4,m5,m6⟩:=zj9 hE hs hi hdv
    rw[hdv] at hv m1
    rw[m1] at hv
    rw[(Prod.mk.inj hv).1,(Prod.mk.inj hv).2,m2]
    exact decide_eq_decide.2 (by omega)
  simp only[hlt]
  rw[hr] at hin ⊢
  have hrw:∀ T'',Rp N T d->T''=ts 80 T (y.from_.toNat * 2) [T (y.from_.toNat * 2),T (y.from_.toNat * 2+1)]->Rp N T'' d:=λ T'' h e v hv'=>by
   rw[e,zdS (by omega),zdS (by omega),← h v hv']
   by_cases hq:v=y.from_.toNat
   ·subst hq
    rw[if_neg (by omega),if_pos rfl,if_pos rfl]
   ·rw[if_neg (by omega),if_neg (by omega),if_neg (by omega),if_neg (by omega)]
  cases hlo:ltO ((L+y.length) * 1048576+(U+1)) (d y.from_.toNat) with
  | false =>
   refine⟨ts 80 T (y.from_.toNat * 2) [T (y.from_.toNat * 2),T (y.from_.toNat * 2+1)],?_,?_,hrw _ h1 rfl⟩
   ·simp only[cond_false, decide_true]
    cases c <;> rfl
   ·simp only[cond_false, Bool.true_and, decide_true]
    cases c <;> rfl
  | true =>
   rw[hlo] at hin
   simp only[cond_true,cond_false,Bool.true_and,decide_true] at hin ⊢
   refine⟨ts 80 T (y.from_.toNat * 2) [L+y.length,U+1],?_,?_,?_⟩
   ·cases c
    ·rw[decide_eq_false]
     ·rfl
     ·intro h
      rw[← hlt] at hlo
      have:=of_decide_eq_true hlo
      have h1':=(Prod.mk.inj h).1
      have h2':=(Prod.mk.inj h).2
      omega
    ·rfl
   ·cases c
    ·rw[decide_eq_false]
     ·rfl
     ·intro h
      rw[← hlt] at hlo
      have:=of_decide_eq_true hlo
      have h1':=(Prod.mk.inj h).1
      have h2':=(Prod.mk.inj h).2
      omega
    ·rfl
   ·intro v hv'
    rw[zdS (by omega),zdS (by omega)]
    unfold zjl
    by_cases hq:v=y.from_.toNat
    ·subst hq
     rw[if_neg (by omega),if_pos rfl,if_pos rfl,if_pos rfl]
     exact (zsU (by omega) (by omega)).symm
    ·rw[if_neg (by omega), if_neg (by omega), if_neg (by omega), if_neg (by omega), if_neg hq]
     exact h1 v hv'
theorem zKi (a:web){N s:Nat}(E:List Ed) (hE:EdOk E N) (hn:zbZ E) (hs:s < N) (S2:Bool->Tab->Tab->Tab) (P2:Bool->Tab->Tab->Bool):∀ (l:List step),(∀ y∈l,StOk y N/\edQ y∈E)->∀ (c:Bool) (T4 T:Tab) (d:zcb),Rp N T d->Inv (E.map edM) (λ v=>v=s) d ->
  ∃ T',zho S2 a l c T4 T=S2 (((l.map edQ).map edM).foldl rlF (d,c)).2 T4 T'/\zhp P2 a l c T4 T=P2 (((l.map edQ).map edM).foldl rlF (d,c)).2 T4 T'/\Rp N T' (((l.map edQ).map edM).foldl rlF (d,c)).1:=by
 intro l
 induction l with
 | nil=>intro _ c T4 T d h1 _;exact⟨T,rfl,rfl,h1⟩
 | cons y l ih =>
  intro hl c T4 T d h1 h2
  obtain⟨hy,hm⟩:=hl y (List.mem_cons_self ..)
  obtain⟨T',k1,k2,k3⟩:=zKh a E hE hn hs S2 P2 y hy hm (zho S2 a l) (zhp P2 a l) c T4 T d h1 h2
  have h3:=zjm (Src:=λ v=>v=s) (zgA hn) (s:=(d,c)) (e:=edM (edQ y)) (List.mem_map_of_mem hm) h2
  obtain⟨T'',m1,m2,m3⟩:=ih (λ z hz=>hl z (List.mem_cons_of_mem _ hz)) (rlF (d,c) (edM (edQ y))).2 T4 T' (rlF (d,c) (edM (edQ y))).1 k3 h3
  exact⟨T'',Eq.trans k1 m1,Eq.trans k2 m2,m3⟩
theorem zCs (a:web) (hnet:NetOk a.Net) (E:List Ed) (hEe:E=(Ws a).map edQ){s:Nat}(hE:EdOk E a.Net.Nodes.toNat) (hn:zbZ E) (hs:s < a.Net.Nodes.toNat):∀ (m k:Nat) (T4 T:Tab) (d:zcb),Rp a.Net.Nodes.toNat T d->Inv (E.map edM) (λ v=>v=s) d->Fix (E.map edM) (rds (E.map edM) m d)->m+1 < k ->
  ∃ T',zek a k true T4 T=true/\zej a k true T4 T=T'/\Rp a.Net.Nodes.toNat T' (rds (E.map edM) m d):=by
 have hlen:=hnet.len
 obtain⟨q1,q2⟩:=zsX a (by omega)
 have hst:∀ y∈Ws a,StOk y a.Net.Nodes.toNat/\edQ y∈E:=λ y hy=>⟨zHa hnet hy,by rw[hEe];exact List.mem_map_of_mem hy⟩
 have one:∀ (k:Nat) (T4 T:Tab) (d:zcb),Rp a.Net.Nodes.toNat T d->Inv (E.map edM) (λ v=>v=s) d ->
   ∃ T',zej a (k+1) true T4 T=zej a k ((E.map edM).foldl rlF (d,false)).2 T4 T'/\zek a (k+1) true T4 T=zek a k ((E.map edM).foldl rlF (d,false)).2 T4 T'/\Rp a.Net.Nodes.toNat T' (rnd (E.map edM) d):=by
  intro k T4 T d h1 h2
  obtain⟨T',k1,k2,k3⟩:=zKi a E hE hn hs (zej a k) (zek a k) (Ws a) hst false T4 T d h1 h2
  rw[← hEe] at k1 k2 k3
  refine⟨T',?_,?_,k3⟩
  ·show zlk a (zej a k) true T4 T = _
   unfold zlk zrB
   rw[cond_true,q2];exact k1
  ·show zll a (zek a k) true T4 T = _
   unfold zll znZ
   rw[cond_true,q1,q2,decide_eq_true rfl,Bool.true_and];exact k2
 have stop:∀ (k:Nat) (T4 T:Tab),zej a (k+1) false T4 T=T/\zek a (k+1) false T4 T=true:=λ k T4 T=>⟨rfl,rfl⟩
 intro m
 induction m with
 | zero =>
  intro k T4 T d h1 h2 h3 hk
  obtain⟨k,rfl⟩:∃ k',k=k'+1+1:=⟨k - 2,by omega⟩
  obtain⟨T',k1,k2,k3⟩:=one (k+1) T4 T d h1 h2
  have h3':Fix (E.map edM) d:=h3
  rw[ziq h3'] at k1 k2
  rw[zhE h3'] at k3
  obtain⟨j1,j2⟩:=stop k T4 T'
  exact⟨T',k2.trans j2,k1.trans j1,k3⟩
 | succ m ih =>
  intro k T4 T d h1 h2 h3 hk
  obtain⟨k,rfl⟩:∃ k',k=k'+1+1:=⟨k - 2,by omega⟩
  obtain⟨T',k1,k2,k3⟩:=one (k+1) T4 T d h1 h2
  cases hf:((E.map edM).foldl rlF (d,false)).2 with
  | false =>
   rw[hf] at k1 k2
   have hx:Fix (E.map edM) d:=zgU hf
   obtain⟨j1,j2⟩:=stop k T4 T'
   refine⟨T',k2.trans j2,k1.trans j1,?_⟩
   rw[zhE hx] at k3
   rw[zsR hx];exact k3
  | true =>
   rw[hf] at k1 k2
   obtain⟨T'',m1,m2,m3⟩:=ih (k+1) T4 T' (rnd (E.map edM) d) k3 (zj6 (zgA hn) (λ _ h=>h) (s:=(d,false)) h2) h3 (by omega)
   exact⟨T'',k2.trans m1,k1.trans m2,m3⟩
theorem zHd (a:web) (node:Int):∀ (m k i:Nat) (T4 T:Tab),(∀ v,v < i->T (v * 2)=1000000000000/\T (v * 2+1)=0)->i+m=40->m < k ->
  ∃ T',zfu a node k (i:Int) T4 T=zlm a node T4 T'/\zfv a node k (i:Int) T4 T=zln a node T4 T'/\∀ v,v < 40->T' (v * 2)=1000000000000/\T' (v * 2+1)=0:=by
 intro m
 induction m with
 | zero =>
  intro k i T4 T h hi hk
  obtain⟨k,rfl⟩:∃ k',k=k'+1:=⟨k - 1,by omega⟩
  refine⟨T,?_,?_,λ v hv=>h v (by omega)⟩
  ·show zhq a node (zfu a node k) (i : Int) T4 T = _
   unfold zhq
   rw[decide_eq_false (show ¬ (i:Int) < (40:Int) by omega),cond_false]
  ·show zhr a node (zfv a node k) (i : Int) T4 T = _
   unfold zhr
   rw[decide_eq_false (show ¬ (i:Int) < (40:Int) by omega),cond_false]
 | succ m ih =>
  intro k i T4 T h hi hk
  obtain⟨k,rfl⟩:∃ k',k=k'+1:=⟨k - 1,by omega⟩
  have hw:w64 ((i:Int)+(1:Int))=((i+1:Nat):Int):=by rw[zcw (by omega) (by omega)];omega
  obtain⟨T',k1,k2,k3⟩:=ih k (i+1) T4 (ts 80 T (i * 2) [(1000000000000:Int),(0:Int)]) (λ v hv=>by
   rw[zdS (by omega),zdS (by omega)]
   by_cases hq:v=i
   ·subst hq
    rw[if_neg (by omega),if_pos rfl,if_pos rfl];exact⟨rfl,rfl⟩
   ·rw[if_neg (by omega),if_neg (by omega),if_neg (by omega),if_neg (by omega)];exact h v (by omega)) (by omega) (by omega)
  refine⟨T',?_,?_,k3⟩
  ·rw[← k1]
   show zhq a node (zfu a node k) (i:Int) T4 T=_
   unfold zhq
   rw[decide_eq_true (show (i:Int) < (40:Int) by omega),cond_true,hw,Int.toNat_natCast,show 0+i * 2+0=i * 2 by omega]
  ·rw[← k2]
   show zhr a node (zfv a node k) (i:Int) T4 T=_
   unfold zhr
   rw[decide_eq_true (show (i:Int) < (40:Int) by omega),cond_true,decide_eq_true (show 0≤(i:Int)/\(i:Int) < (40:Int) by omega),Bool.true_and,hw,Int.toNat_natCast,show 0+i * 2+0=i * 2 by omega]
theorem zKj (a : web) (hnet : NetOk a.Net) (hn : zbZ (We a)) (node : Int) (h0 : 0 ≤ node) (h1 : node < a.Net.Nodes) :
  p75 a node=true/\Rp a.Net.Nodes.toNat (s75 a node) (dst ((We a).map edR) a.Net.Nodes.toNat node.toNat):=by
 have hn40:=hnet.n40
 have hEe:((We a).map edR)=(Ws a).map edQ:=(zHc (Ws a)).symm
 have hE:EdOk ((We a).map edR) a.Net.Nodes.toNat:=(zDF hnet).R
 have hN:zbZ ((We a).map edR):=zoy hn
 have hs:node.toNat < a.Net.Nodes.toNat:=by omega
 obtain⟨T1,a1,a2,a3⟩:=zHd a node 40 Fuel 0 (λ _=>(0:Int)) (λ _=>(0:Int)) (λ v hv=>absurd hv (Nat.not_lt_zero _)) rfl (by simp only[Fuel];omega)
 have hr:Rp a.Net.Nodes.toNat (ts 80 T1 (node.toNat * 2) [(0:Int),(0:Int)]) (zqi node.toNat):=λ v hv=>by
  rw[zdS (by omega),zdS (by omega)]
  unfold zqi
  by_cases hq:v=node.toNat
  ·subst hq
   rw[if_neg (by omega),if_pos rfl,if_pos rfl,if_pos rfl];rfl
  ·rw[if_neg (by omega),if_neg (by omega),if_neg (by omega),if_neg (by omega),if_neg hq,(a3 v (by omega)).1,(a3 v (by omega)).2];rfl
 obtain⟨T2,b1,b2,b3⟩:=zCs a hnet ((We a).map edR) hEe hE hN hs (a.Net.Nodes.toNat - 1) Fuel (λ _=>(0:Int)) (ts 80 T1 (node.toNat * 2) [(0:Int),(0:Int)]) (zqi node.toNat) hr (zet (zdu node.toNat)) (zsV hE hN hs) (by simp only[Fuel];omega)
 have e:0+node.toNat * 2+0=node.toNat * 2:=by omega
 constructor
 ·show zfv a node Fuel 0 (λ _ => (0:Int)) (λ _ => (0:Int)) = true
  refine Eq.trans a2 ?_
  unfold zln zrD
  rw[decide_eq_true (show 0≤node/\node < (40:Int) by omega),Bool.true_and,e];exact b1
 ·have:s75 a node=T2:=by
   show zfu a node Fuel 0 (λ _=>(0:Int)) (λ _=>(0:Int))=T2
   refine Eq.trans a1 ?_
   unfold zlm zrC
   rw[e];exact b2
  rw[this];exact b3
end Go.Proofs
namespace Go.Proofs
open Go Go.Pm
set_option maxRecDepth 100000
set_option linter.unusedVariables false
def W (n:Net):web:=⟨n,⟨0,λ _=>none⟩⟩
abbrev En (n:Net):List Ed:=We (W n)
def fr (n:Net) (i j:Nat):Int:=zDD (dst (En n) n.Nodes.toNat i j)
theorem zKk {E:List Ed}{n s v:Nat}(hE:EdOk E n) (hn:zbZ E) (hs:s < n) (hv:v < n):zDD (dst (E.map edR) n s v)=zDD (dst E n v s):=by
 refine Int.le_antisymm ?_ ?_
 ·rcases zd7 (v := s) hE hn hv with ⟨_, h⟩ | ⟨c, _, h1, h2, _⟩
  ·rw[h]
   rcases zd7 (v:=v) hE.R (zoy hn) hs with ⟨_,h⟩ | ⟨c,_,_,h2,_,_,_⟩ <;> omega
  ·rw[h2,← zMT c];exact zoz hE.R (zoy hn) hs (zMU h1)
 ·rcases zd7 (v := v) hE.R (zoy hn) hs with ⟨_, h⟩ | ⟨c, _, h1, h2, _⟩
  ·rw[h]
   rcases zd7 (v:=s) hE hn hv with ⟨_,h⟩ | ⟨c,_,_,h2,_,_,_⟩ <;> omega
  ·obtain⟨c0, k1, k2, _⟩ := zKb h1
   rw[h2,← k2];exact zoz hE hn hv k1
theorem zka {n:Net}(hn:NetOk n) (hN:zbZ (En n)) {i j:Nat}(hi:i < n.Nodes.toNat) : -1000000000000≤fr n i j/\fr n i j≤1000000000000:=by
 have hE:EdOk (En n) n.Nodes.toNat:=zDF (a:=W n) hn
 unfold fr
 rcases zd7 (v:=j) hE hN hi with ⟨_,h⟩ | ⟨c,_,_,h2,_,h3,h4⟩
 ·rw[h];omega
 ·rw[h2];omega
theorem zfD (n:Net) (nodes:Sl Int) (hl:nodes.len≤1000) (ht:n.Ties.len≤210):p74 n nodes=true /\
    (s67 n=false->s74 n nodes=(default,2)) /\
    (NetOk n->(¬ ∀ i,i < nodes.len->0≤nodes.get i/\nodes.get i < n.Nodes)->s74 n nodes=(default,2)) /\
    (NetOk n->(∀ i,i < nodes.len->0≤nodes.get i/\nodes.get i < n.Nodes)->¬ zbZ (En n)->s74 n nodes=(default,5)) /\
    (NetOk n->(∀ i,i < nodes.len->0≤nodes.get i/\nodes.get i < n.Nodes)->zbZ (En n)->s74 n nodes=(W n,0)):=by
  obtain⟨a1,a2⟩:=zAg n (by omega)
  unfold p74 s74
  rw[a1,decide_eq_true (show true=true from rfl),Bool.true_and]
  by_cases hs:s67 n=true
  · have hn := a2.1 hs
    have hn1:=hn.n1;have hn40:=hn.n40
    obtain⟨t1,_⟩:=zAs (W n) hn
    rw[hs]
    have hg:∀ i,i < nodes.len->(s81 (nodes.get i) (0:Int) (w64 (n.Nodes - (1:Int)))=true↔0≤nodes.get i/\nodes.get i < n.Nodes):=λ i _=>by
      rw[zqf,decide_eq_true_eq,zcw (by omega) (by omega)];omega
    have hloop := zG4 (good := λ i => s81 (nodes.get i) (0:Int) (w64 (n.Nodes - (1:Int)))) (bad := ((default : web), (2:Int))) (fin := zrh n (s88 (W n))) (finP := true) (n := nodes.len) (lpS := ziQ n nodes) (lpP := ziR n nodes)
      (λ k i hi=>by
        show ziO n nodes (ziQ n nodes k) (i:Int)=_
        generalize ziQ n nodes k=S
        unfold ziO zri
        rw[decide_eq_true (show (i:Int) < (nodes.len:Int) by omega),cond_true,Int.toNat_natCast]
        cases s81 (nodes.get i) (0:Int) (w64 (n.Nodes - (1:Int))) <;> rfl)
      (λ k=>by
        show ziO n nodes (ziQ n nodes k) (nodes.len:Int)=_
        unfold ziO
        rw[decide_eq_false (show ¬ (nodes.len:Int) < (nodes.len:Int) by omega),cond_false];rfl)
      (λ k i hi=>by
        show ziP n nodes (ziR n nodes k) (i:Int)=_
        generalize ziR n nodes k=S
        unfold ziP zrj
        rw[decide_eq_true (show (i:Int) < (nodes.len:Int) by omega),cond_true,Int.toNat_natCast,decide_eq_true (show 0≤(i:Int)/\(i:Int) < (nodes.len:Int) by omega),Bool.true_and]
        cases s81 (nodes.get i) (0:Int) (w64 (n.Nodes - (1:Int))) <;> rfl)
      (λ k=>by
        show ziP n nodes (ziR n nodes k) (nodes.len:Int)=_
        unfold ziP
        rw[decide_eq_false (show ¬ (nodes.len:Int) < (nodes.len:Int) by omega),cond_false,show p88 (⟨n,(⟨0,(λ _=>none)⟩:Mp)⟩:web)=true from t1];rfl)
      (by omega)
    unfold zrp zro zrn zrm zrl zrk
    by_cases hr:∀ i,i < nodes.len->0≤nodes.get i/\nodes.get i < n.Nodes
    · obtain⟨l1, l2⟩ := hloop.1 (λ i hi => (hg i hi).2 (hr i hi))
      rw[l1,l2]
      refine⟨rfl,λ h=>(by cases h),λ _ h=>absurd hr h,λ _ _ h=>?_,λ _ _ h=>?_⟩
      · have:s88 (W n)=true:=by
          cases ht:s88 (W n)
          · exact absurd ((zAt (W n) hn).1 ht) h
          · rfl
        rw[this];rfl
      · rw[(zAt (W n) hn).2 h];rfl
    · obtain⟨l1, l2⟩ := hloop.2 (λ h => hr λ i hi => (hg i hi).1 (h i hi))
      rw[l1,l2]
      exact⟨rfl,λ h=>(by cases h),λ _ _=>rfl,λ _ h=>absurd h hr,λ _ h=>absurd h hr⟩
  · rw[Bool.eq_false_iff.2 hs]
    have hno:NetOk n->False:=λ h=>hs (a2.2 h)
    exact⟨rfl,λ _=>rfl,λ h=>(hno h).elim,λ h=>(hno h).elim,λ h=>(hno h).elim⟩
theorem zvq {n:Net}(ht:n.Ties.len≤210) (h:s67 n=false):p26 n=true/\s26 n=((⟨0,λ _=>default⟩:Sl Span),(2:Int)):=by
 obtain⟨w0,w1,_⟩:=zfD n (⟨0,λ _=>default⟩:Sl Int) (by decide) ht
 unfold p26 s26
 rw[w0,w1 h]
 exact⟨rfl,rfl⟩
theorem zsZ {n:Net}(ht:n.Ties.len≤210) (hn:NetOk n) (h : ¬ zbZ (En n)):p26 n=true/\s26 n=((⟨0,λ _=>default⟩:Sl Span),(5:Int)):=by
 obtain⟨w0,_,_,w3,_⟩:=zfD n (⟨0,λ _=>default⟩:Sl Int) (by decide) ht
 unfold p26 s26
 rw[w0,w3 hn (λ i hi=>absurd hi (Nat.not_lt_zero _)) h]
 exact⟨rfl,rfl⟩
theorem zKl {n:Net}(hn:NetOk n) (hN:zbZ (En n)) {i:Int}(h0:0≤i) (h1:i < n.Nodes){j:Nat}(hj:j < n.Nodes.toNat):p75 (W n) i=true/\s75 (W n) i (j * 2)=fr n j i.toNat:=by
 have h40:=hn.n40
 obtain⟨a,b⟩:=zKj (W n) hn hN i h0 h1
 refine⟨a,?_⟩
 have:=(Prod.mk.inj (b j hj)).1
 rw[this]
 exact zKk (zDF (a:=W n) hn) hN (show i.toNat < n.Nodes.toNat by omega) hj
theorem zAv {n:Net}(hn:NetOk n) (hN:zbZ (En n)) {i:Int}(h0:0≤i) (h1:i < n.Nodes){j:Nat}(hj:j < n.Nodes.toNat):p76 (W n) i=true/\s76 (W n) i (j * 2)=fr n i.toNat j:=by
 obtain⟨a,b⟩:=zKg (W n) hn hN i h0 h1
 exact⟨a,(Prod.mk.inj (b j hj)).1⟩
theorem zjn {α:Type}(i:Nat) (v:α) (g:Nat->α) (j:Nat):setT i v g j=if j=i then v else g j:=by
 show (match Nat.beq j i with | true=>v | false=>g j)=_
 by_cases h:j=i
 ·rw[if_pos h,show Nat.beq j i=true from by rw[h];exact Nat.beq_refl _]
 ·rw[if_neg h,show Nat.beq j i=false from Bool.eq_false_iff.2 λ e=>h (Nat.eq_of_beq_eq_true e)]
def zDG (n:Net) (i:Nat) (v:Sl Span):Sl Span:=⟨v.len,setT i (⟨-fr n i 0,fr n 0 i⟩:Span) v.get⟩
theorem zHe (n:Net):∀ (m i:Nat) (v:Sl Span),(∀ j,j < i->v.get j=⟨-fr n j 0,fr n 0 j⟩)->(zmm (zDG n) m i v).len=v.len/\∀ j,j < i+m->(zmm (zDG n) m i v).get j=⟨-fr n j 0,fr n 0 j⟩:=by
 intro m
 induction m with
 | zero=>intro i v h;exact⟨rfl,λ j hj=>h j (by omega)⟩
 | succ m ih =>
  intro i v h
  obtain⟨k1,k2⟩:=ih (i+1) (zDG n i v) (λ j hj=>by
   show setT i _ v.get j=_
   rw[zjn]
   by_cases hji:j=i
   ·rw[if_pos hji,hji]
   ·rw[if_neg hji];exact h j (by omega))
  exact⟨k1,λ j hj=>k2 j (by omega)⟩
theorem zAw {n:Net}(ht:n.Ties.len≤210) (hn:NetOk n) (hN:zbZ (En n)):p26 n=true/\∃ l,s26 n=(l,0)/\l.len=n.Nodes.toNat/\∀ i,i < n.Nodes.toNat->l.get i=⟨-fr n i 0,fr n 0 i⟩:=by
  have hn1:=hn.n1;have hn40:=hn.n40
  obtain⟨w0,_,_,_,w4⟩:=zfD n (⟨0,λ _=>default⟩:Sl Int) (by decide) ht
  have w4':=w4 hn (λ i hi=>absurd hi (Nat.not_lt_zero _)) hN
  have hT:=λ (j:Nat) (hj:j < n.Nodes.toNat)=>zKl hn hN (i:=0) (Int.le_refl _) (by omega) hj
  have hF:=λ (j:Nat) (hj:j < n.Nodes.toNat)=>zAv hn hN (i:=0) (Int.le_refl _) (by omega) hj
  have p1:=(hT 0 (by omega)).1
  have p2:=(hF 0 (by omega)).1
  have hloop := zqe (step := zDG n) (E := λ v => (v, (0:Int))) (EP := λ _ => true) (Inv := λ _ v => v.len = n.Nodes.toNat) (a := 0) (n := n.Nodes.toNat) (lpS := λ k v i => zhw n k i v (s75 (W n) 0) (s76 (W n) 0)) (lpP := λ k v i => zhx n k i v (s75 (W n) 0) (s76 (W n) 0))
    (λ k i v _ hi hv=>by
      show ziS n (zhw n k) (i:Int) v (s75 (W n) 0) (s76 (W n) 0)=zhw n k (w64 ((i:Int)+(1:Int))) (zDG n i v) (s75 (W n) 0) (s76 (W n) 0)
      generalize zhw n k=S
      unfold ziS zDG
      have hb:=zka hn hN (i:=i) (j:=0) hi
      rw[decide_eq_true (show (i:Int) < (n.Nodes.toNat:Int) by omega),cond_true,Int.toNat_natCast,show 0+i * 2+0=i * 2 by omega,ze9 (by omega),ze9 (by omega),(hT i hi).2,(hF i hi).2,show (0:Int).toNat=0 from rfl,zcw (x:=0 - fr n i 0) (by omega) (by omega),show (0:Int) - fr n i 0 = -fr n i 0 by omega])
    (λ k v=>by
      show ziS n (zhw n k) (n.Nodes.toNat:Int) v (s75 (W n) 0) (s76 (W n) 0)=_
      unfold ziS
      rw[decide_eq_false (show ¬ (n.Nodes.toNat:Int) < (n.Nodes.toNat:Int) by omega),cond_false])
    (λ k i v _ hi hv=>by
      show ziT n (zhx n k) (i:Int) v (s75 (W n) 0) (s76 (W n) 0)=zhx n k (w64 ((i:Int)+(1:Int))) (zDG n i v) (s75 (W n) 0) (s76 (W n) 0)
      generalize zhx n k=S
      unfold ziT zDG
      have hb:=zka hn hN (i:=i) (j:=0) hi
      have hv':v.len=n.Nodes.toNat:=hv
      rw[decide_eq_true (show (i:Int) < (n.Nodes.toNat:Int) by omega),cond_true,Int.toNat_natCast,show 0+i * 2+0=i * 2 by omega,ze9 (by omega),ze9 (by omega),(hT i hi).2,(hF i hi).2,show (0:Int).toNat=0 from rfl,zcw (x:=0 - fr n i 0) (by omega) (by omega),show (0:Int) - fr n i 0 = -fr n i 0 by omega,
        decide_eq_true (show 0≤(i:Int)/\(i:Int) < (40:Int) by omega),decide_eq_true (show 0≤(i:Int)/\(i:Int) < (v.len:Int) by omega),decide_eq_true (show i < v.len by omega)]
      rfl)
    (λ k v=>by
      show ziT n (zhx n k) (n.Nodes.toNat:Int) v (s75 (W n) 0) (s76 (W n) 0)=_
      unfold ziT
      rw[decide_eq_false (show ¬ (n.Nodes.toNat:Int) < (n.Nodes.toNat:Int) by omega),cond_false])
    (λ i v _ _ h=>h) (Nat.zero_le _) (by omega) (⟨n.Nodes.toNat,(λ _=>(⟨(0:Int),(0:Int)⟩:Span))⟩:Sl Span) rfl
  obtain⟨l1,l2⟩:=hloop
  obtain⟨f1,f2⟩:=zHe n (n.Nodes.toNat - 0) 0 (⟨n.Nodes.toNat,(λ _=>(⟨(0:Int),(0:Int)⟩:Span))⟩:Sl Span) (λ j hj=>absurd hj (Nat.not_lt_zero _))
  constructor
  · unfold p26
    rw[w0,w4']
    show (cond ((0:Int) == 0) (decide (true=true) && cond ((0:Int) != (0:Int)) true (decide (p75 (W n) 0=true) && (decide (p76 (W n) 0=true) && (decide (0≤n.Nodes/\n.Nodes=n.Nodes/\n.Nodes≤1000000) && zrN n (0:Int) (⟨n.Nodes.toNat,(λ _=>(⟨(0:Int),(0:Int)⟩:Span))⟩:Sl Span) (s75 (W n) 0) (s76 (W n) 0))))) _)=true
    rw[p1,p2,decide_eq_true (show 0≤n.Nodes/\n.Nodes=n.Nodes/\n.Nodes≤1000000 from ⟨by omega,rfl,by omega⟩)]
    exact l1
  · refine⟨_, ?_, f1, λ i hi => f2 i (by omega)⟩
    unfold s26
    rw[w4']
    exact l2
theorem zs3 {n:Net}(ht:n.Ties.len≤210){i j:Int}(h:s67 n=false):p30 n i j=true/\s30 n i j=((⟨(0:Int),(0:Int)⟩:Span),(2:Int)):=by
 obtain⟨w0,w1,_⟩:=zfD n (⟨2,zax (zbz [(zad i),(zad j)])⟩:Sl Int) (by show 2≤1000;omega) ht
 unfold p30 s30
 rw[w0,w1 h]
 exact⟨rfl,rfl⟩
theorem zmc {n:Net}(ht:n.Ties.len≤210) (hn:NetOk n){i j:Int}(h : ¬ ((0≤i/\i < n.Nodes)/\(0≤j/\j < n.Nodes))):p30 n i j=true/\s30 n i j=((⟨(0:Int),(0:Int)⟩:Span),(2:Int)):=by
 obtain⟨w0,_,w2,_⟩:=zfD n (⟨2,zax (zbz [(zad i),(zad j)])⟩:Sl Int) (by show 2≤1000;omega) ht
 have w2':=w2 hn (λ hk=>h ⟨hk 0 (show 0 < 2 by decide),hk 1 (show 1 < 2 by decide)⟩)
 unfold p30 s30
 rw[w0,w2']
 exact⟨rfl,rfl⟩
theorem in2 {n:Net}{i j:Int}(hi:0≤i/\i < n.Nodes) (hj:0≤j/\j < n.Nodes):∀ k,k < (⟨2,zax (zbz [(zad i),(zad j)])⟩:Sl Int).len->0≤(⟨2,zax (zbz [(zad i),(zad j)])⟩:Sl Int).get k/\(⟨2,zax (zbz [(zad i),(zad j)])⟩:Sl Int).get k < n.Nodes:=by
 intro k hk
 match k,hk with
 | 0,_=>exact hi
 | 1,_=>exact hj
theorem zqj {n:Net}(ht:n.Ties.len≤210) (hn:NetOk n){i j:Int}(hi:0≤i/\i < n.Nodes) (hj:0≤j/\j < n.Nodes) (h : ¬ zbZ (En n)):p30 n i j=true/\s30 n i j=((⟨(0:Int),(0:Int)⟩:Span),(5:Int)):=by
 obtain⟨w0,_,_,w3,_⟩:=zfD n (⟨2,zax (zbz [(zad i),(zad j)])⟩:Sl Int) (by show 2≤1000;omega) ht
 have w3':=w3 hn (in2 hi hj) h
 unfold p30 s30
 rw[w0,w3']
 exact⟨rfl,rfl⟩
theorem zvr {n:Net}(ht:n.Ties.len≤210) (hn:NetOk n){i j:Int}(hi:0≤i/\i < n.Nodes) (hj:0≤j/\j < n.Nodes) (hN:zbZ (En n)):p30 n i j=true/\s30 n i j=((⟨-fr n j.toNat i.toNat,fr n i.toNat j.toNat⟩:Span),(0:Int)):=by
 have hn40:=hn.n40
 obtain⟨w0,_,_,_,w4⟩:=zfD n (⟨2,zax (zbz [(zad i),(zad j)])⟩:Sl Int) (by show 2≤1000;omega) ht
 have w4':=w4 hn (in2 hi hj) hN
 obtain⟨p1,hT⟩:=zKl hn hN hi.1 hi.2 (j:=j.toNat) (by omega)
 obtain⟨p2,hF⟩:=zAv hn hN hi.1 hi.2 (j:=j.toNat) (by omega)
 have hb:=zka hn hN (i:=j.toNat) (j:=i.toNat) (by omega)
 unfold p30 s30
 rw[w0,w4']
 constructor
 ·show (cond ((0:Int) == 0) (decide (true = true) && cond ((0:Int) != (0:Int)) true (decide (p75 (W n) i = true) && (decide (0 ≤ j /\ j < (40 : Int)) && (decide (p76 (W n) i = true) && (decide (0 ≤ j /\ j < (40 : Int)) && true))))) _) = true
  rw[p1,p2,decide_eq_true (show 0≤j/\j < (40:Int) by omega)];rfl
 ·show ((⟨(w64 (0 - (tg 80 (s75 (W n) i) (0 + j.toNat * 2 + 0)))), (tg 80 (s76 (W n) i) (0 + j.toNat * 2 + 0))⟩ : Span), (0:Int)) = _
  rw[show 0+j.toNat * 2+0=j.toNat * 2 by omega,ze9 (by omega),ze9 (by omega),hT,hF,zcw (by omega) (by omega),show (0:Int) - fr n j.toNat i.toNat = -fr n j.toNat i.toNat by omega]
end Go.Proofs
namespace Go.Proofs
open Go Go.Pm
set_option maxRecDepth 100000
set_option linter.unusedVariables false
attribute [local irreducible] Go.Pm.vcFun Go.Pm.vc Go.Pm.vcIter
section
variable {K:List PA->Prop}{n:Net}{iv0:Int}{zN1:(Sl Tie)}{zMe:Nat->List PV}{X0:St->Prop}{P0:Int->(Sl Tie)->Bool}{S0:Int->(Sl Tie)->Net}
end
end Go.Proofs
namespace Go.Proofs
open Go Go.Pm
set_option maxRecDepth 100000
set_option linter.unusedVariables false
theorem zAx {α:Type}(n:Nat) (g:Nat->α) (x:α) (j:Nat):zf4 n g (λ _=>x) j=if n≤j then x else g j:=by
 unfold zf4
 by_cases h:n≤j
 ·rw[if_pos h,show Nat.ble n j=true from Nat.ble_eq_true_of_le h]
 ·rw[if_neg h,show Nat.ble n j=false from Bool.eq_false_iff.2 λ k=>h (Nat.le_of_ble_eq_true k)]
def turn (t:Tie):Tie:=⟨t.From,t.To,w64 (0 - t.High),w64 (0 - t.Low)⟩
structure IsTurn (n m : Net) : Prop where
  nodes:m.Nodes=n.Nodes
  len:m.Ties.len=n.Ties.len
  tie:∀ j,j < n.Ties.len->m.Ties.get j=turn (n.Ties.get j)
end Go.Proofs
namespace Go.Proofs
open Go Go.Pm
set_option maxRecDepth 100000
set_option linter.unusedVariables false
attribute [local irreducible] Go.Pm.vcFun Go.Pm.vc Go.Pm.vcIter
section
variable {K:List PA->Prop}{n:Net}{from_a1:Int}{chain:(Sl Use)}{zN2:Bool}{zOz:Int}{zKM:Int}{zN3:Int}{X2:St->Prop}{P2:Int->Int->Int->Bool}{S2:Int->Int->Int->(Int×Int×Bool)}{zN4:Int}{zCt:Int}{zN5:Int}{zN6:Bool}{zN7:Int}{zN8:Bool}{zN9:Int}{zCu:Int}{zOa:Int}{zOb:Int}{zOc:Bool}{zOA:Int}{zKN:Int}{zOB:Bool}{zOd:Int}{zOe:Int}{zOf:Bool}{zOg:Int}{zOh:Int}{zOi:Int}{zOj:Int}{zOk:Int}{zOl:Int}{zOm:Bool}{zOn:Int}{zOo:Int}{zOp:Int}{zeo:Int}{zaT:Int}{zOC:Bool}{zOq:Int}{zOr:Int}{zOs:Bool}{zOt:Int}{zOu:Int}{zOv:Int}
end
end Go.Proofs
namespace Go.Proofs
open Go Go.Pm
set_option maxRecDepth 100000
set_option linter.unusedVariables false
def zMf (n:Net) (u:Use) (a:Int):Option (Int×Int) :=
  if 0≤u.Tie/\u.Tie < n.Ties.len then
    (cond u.Back
      (if (n.Ties.get u.Tie.toNat).Low ≠ -1000000000000/\(n.Ties.get u.Tie.toNat).To=a then some ((n.Ties.get u.Tie.toNat).From,w64 (0 - (n.Ties.get u.Tie.toNat).Low)) else none)
      (if (n.Ties.get u.Tie.toNat).High ≠ 1000000000000/\(n.Ties.get u.Tie.toNat).From=a then some ((n.Ties.get u.Tie.toNat).To,(n.Ties.get u.Tie.toNat).High) else none))
  else none
def pvR (n : Net) (c : Sl Use) : Nat -> Nat -> Int -> Int -> Int × Int × Bool
  | 0,_,a,l=>(a,l,true)
  | m+1,i,a,l=>match zMf n (c.get i) a with
    | none=>(0,0,false)
    | some (b,w)=>pvR n c m (i+1) b (w64 (l+w))
def pv (n:Net) (a:Int) (c:Sl Use):Int×Int×Bool:=if (0≤a/\a < n.Nodes)/\c.len≤40 then pvR n c c.len 0 a 0 else (0,0,false)
end Go.Proofs
namespace Go.Proofs
open Go Go.Pm
set_option maxRecDepth 100000
set_option linter.unusedVariables false
attribute [local irreducible] Go.Pm.vcFun Go.Pm.vc Go.Pm.vcIter
section
variable {K:List PA->Prop}{n:Net}{from_a1:Int}{chain:(Sl Use)}{zOw:Bool}{lv2:(Sl Step)}{zOx:Nat->List PV}{zN4:Int}{zCt:Int}{iv3:Int}{X3:St->Prop}{P3:Int->Int->Int->Bool}{S3:Int->Int->Int->(Int×Int×Bool)}{zN9:Int}{zCu:Int}{iv4:Int}{zOy:Bool}{kv4:Int}{X4:St->Prop}{P4:Int->Int->Int->Bool->Int->Bool}{S4:Int->Int->Int->Bool->Int->(Int×Int×Bool)}
end
end Go.Proofs
namespace Go.Proofs
open Go Go.Pm
set_option maxRecDepth 100000
set_option linter.unusedVariables false
def zgB (y:step):Step:=⟨y.from_,y.to,y.length,y.Use⟩
def IsL (v:Sl Step) (L:List step):Prop:=v.len=L.length/\∀ k (h:k < L.length),v.get k=zgB L[k]
theorem zs4 {v:Sl Step}{L:List step}(h:IsL v L) (y:step):IsL ⟨v.len+1,zf4 v.len v.get (λ _=>zgB y)⟩ (L ++ [y]):=by
 refine⟨by show v.len+1=_;rw[List.length_append,h.1];rfl,λ k hk=>?_⟩
 show zf4 v.len v.get (λ _=>zgB y) k=_
 rw[zAx]
 rw[List.length_append] at hk
 have h1:=h.1
 by_cases hv:v.len≤k
 ·rw[if_pos hv]
  have:k=L.length:=by simp only[List.length_cons,List.length_nil] at hk;omega
  subst this
  simp
 ·rw[if_neg hv, h.2 k (by omega)]
  rw[List.getElem_append_left (by omega)]
theorem zKm (n:Net) (hn:n.Ties.len≤210):∀ (m k i:Nat) (v:Sl Step) (L:List step),i+m=n.Ties.len->m < k->IsL v L->L.length≤2 * i->zdM n k (i:Int) v=true/\IsL (zdL n k (i:Int) v) (L ++ stL (W n) m i):=by
  intro m
  induction m with
  | zero =>
    intro k i v L hi hk hv hL
    obtain⟨k,rfl⟩:∃ k',k=k'+1:=⟨k - 1,by omega⟩
    have e1:zdM n (k+1) (i:Int) v=true:=by
      show zja n (zdM n k) (i:Int) v=true
      unfold zja
      rw[decide_eq_false (show ¬ (i:Int) < (n.Ties.len:Int) by omega),cond_false]
    have e2:zdL n (k+1) (i:Int) v=v:=by
      show zi9 n (zdL n k) (i:Int) v=v
      unfold zi9
      rw[decide_eq_false (show ¬ (i:Int) < (n.Ties.len:Int) by omega),cond_false]
    refine⟨e1,?_⟩
    rw[e2]
    show IsL v (L ++ [])
    rw[List.append_nil];exact hv
  | succ m ih =>
    intro k i v L hi hk hv hL
    obtain⟨k,rfl⟩:∃ k',k=k'+1:=⟨k - 1,by omega⟩
    have hw:w64 ((i:Int)+(1:Int))=((i+1:Nat):Int):=by rw[zcw (by omega) (by omega)];omega
    have hvl:=hv.1
    have hS : zdL n (k + 1) (i : Int) v = cond ((n.Ties.get i).High != (1000000000000:Int))
        (cond ((n.Ties.get i).Low != (-1000000000000:Int))
          (zdL n k ((i+1:Nat):Int) (⟨v.len+1+1,zf4 (v.len+1) (zf4 v.len v.get (λ _=>zgB (fwS (n.Ties.get i) i))) (λ _=>zgB (bwS (n.Ties.get i) i))⟩:Sl Step))
          (zdL n k ((i+1:Nat):Int) (⟨v.len+1,zf4 v.len v.get (λ _=>zgB (fwS (n.Ties.get i) i))⟩:Sl Step)))
        (cond ((n.Ties.get i).Low != (-1000000000000:Int))
          (zdL n k ((i+1:Nat):Int) (⟨v.len+1,zf4 v.len v.get (λ _=>zgB (bwS (n.Ties.get i) i))⟩:Sl Step))
          (zdL n k ((i+1:Nat):Int) v)):=by
      rw[← hw]
      show zi9 n (zdL n k) (i:Int) v=_
      generalize zdL n k=S
      unfold zi9 zor
      rw[decide_eq_true (show (i:Int) < (n.Ties.len:Int) by omega),cond_true,Int.toNat_natCast]
      rfl
    have hP : zdM n (k + 1) (i : Int) v = cond ((n.Ties.get i).High != (1000000000000:Int))
        (cond ((n.Ties.get i).Low != (-1000000000000:Int))
          (zdM n k ((i+1:Nat):Int) (⟨v.len+1+1,zf4 (v.len+1) (zf4 v.len v.get (λ _=>zgB (fwS (n.Ties.get i) i))) (λ _=>zgB (bwS (n.Ties.get i) i))⟩:Sl Step))
          (zdM n k ((i+1:Nat):Int) (⟨v.len+1,zf4 v.len v.get (λ _=>zgB (fwS (n.Ties.get i) i))⟩:Sl Step)))
        (cond ((n.Ties.get i).Low != (-1000000000000:Int))
          (zdM n k ((i+1:Nat):Int) (⟨v.len+1,zf4 v.len v.get (λ _=>zgB (bwS (n.Ties.get i) i))⟩:Sl Step))
          (zdM n k ((i+1:Nat):Int) v)):=by
      rw[← hw]
      show zja n (zdM n k) (i:Int) v=_
      generalize zdM n k=S
      unfold zja zos
      rw[decide_eq_true (show (i:Int) < (n.Ties.len:Int) by omega),cond_true,Int.toNat_natCast,decide_eq_true (show 0≤(i:Int)/\(i:Int) < (n.Ties.len:Int) by omega),decide_eq_true (show (v.len+1) * 40≤140737488355328/\v.len+1≤9223372036854775807 by omega),decide_eq_true (show ((⟨v.len+1,zf4 v.len v.get (λ _=>(⟨(n.Ties.get i).From,(n.Ties.get i).To,(n.Ties.get i).High,(⟨(i:Int),false⟩:Use)⟩:Step))⟩:Sl Step).len+1) * 40≤140737488355328/\(⟨v.len+1,zf4 v.len v.get (λ _=>(⟨(n.Ties.get i).From,(n.Ties.get i).To,(n.Ties.get i).High,(⟨(i:Int),false⟩:Use)⟩:Step))⟩:Sl Step).len+1≤9223372036854775807 from by show (v.len+1+1) * 40≤_/\v.len+1+1≤_;omega)]
      rfl
    rw[hS,hP]
    have hK:stL (W n) (m+1) i=((cond ((n.Ties.get i).High != (1000000000000:Int)) [fwS (n.Ties.get i) i] []) ++ (cond ((n.Ties.get i).Low != (-1000000000000:Int)) [bwS (n.Ties.get i) i] [])) ++ stL (W n) m (i+1):=rfl
    rw[hK]
    have hF:=zs4 hv (fwS (n.Ties.get i) i)
    have hB:=zs4 hv (bwS (n.Ties.get i) i)
    have hFB:=zs4 hF (bwS (n.Ties.get i) i)
    cases ((n.Ties.get i).High != (1000000000000:Int)) <;> cases ((n.Ties.get i).Low != (-1000000000000:Int))
    · have := ih k (i + 1) v L (by omega) (by omega) hv (by omega)
      simpa using this
    · have := ih k (i + 1) _ _ (by omega) (by omega) hB (by simp only[List.length_append, List.length_cons, List.length_nil]; omega)
      simpa [List.append_assoc] using this
    · have := ih k (i + 1) _ _ (by omega) (by omega) hF (by simp only[List.length_append, List.length_cons, List.length_nil]; omega)
      simpa [List.append_assoc] using this
    · have := ih k (i + 1) _ _ (by omega) (by omega) hFB (by simp only[List.length_append, List.length_cons, List.length_nil]; omega)
      simpa [List.append_assoc] using this
theorem zuA (n:Net) (hn:n.Ties.len≤210):p77 n=true/\IsL (s77 n) (Ws (W n)):=by
 have:=zKm n hn n.Ties.len Fuel 0 (⟨0,(λ _=>default)⟩:Sl Step) [] (by omega) (by simp only[Fuel];omega) ⟨rfl,λ k h=>absurd h (Nat.not_lt_zero _)⟩ (Nat.zero_le _)
 exact this
def sb (x:Use) (y:Use):Bool:=match (x.Tie == y.Tie) with | true=>(match (x.Back == y.Back) with | true=>true | false=>false) | false=>false
end Go.Proofs
namespace Go.Pm
def jr (o:zcb) (s:zcb×Bool) (e:Ed):zcb×Bool :=
 match o e.u with
 | none=>s
 | some x=>cond (ltO (x+e.w) (s.1 e.v)) (zjl s.1 e.v (x+e.w),true) s
theorem zHf (o:zcb) (s:zcb×Bool) (e:Ed) (v:Nat):leO ((jr o s e).1 v) (s.1 v):=by
 unfold jr
 cases hu:o e.u with
 | none=>exact zc9 _
 | some x =>
  simp only[]
  cases hl:ltO (x+e.w) (s.1 e.v)
  ·exact zc9 _
  ·show leO (zjl s.1 e.v (x + e.w) v) _
   unfold zjl
   by_cases hv:v=e.v
   ·rw[if_pos hv]
    intro y hy
    refine⟨_,rfl,?_⟩
    rw[hv] at hy
    rw[hy] at hl
    exact Int.le_of_lt (of_decide_eq_true hl)
   ·rw[if_neg hv];exact zc9 _
theorem zKn (o:zcb) (E:List Ed) (s:zcb×Bool) (v:Nat):leO ((E.foldl (jr o) s).1 v) (s.1 v):=by
 induction E generalizing s with
 | nil=>exact zc9 _
 | cons e l ih=>exact zcM (ih (jr o s e)) (zHf o s e v)
theorem zMg {o:zcb}{s:zcb×Bool}{e:Ed}{x:Int}(h:o e.u=some x):leO ((jr o s e).1 e.v) (some (x+e.w)):=by
 unfold jr
 simp only[h]
 cases hl:ltO (x+e.w) (s.1 e.v)
 ·obtain⟨y, h1, h2⟩ := zl9 hl
  intro z hz;cases hz
  exact⟨y,h1,h2⟩
 ·intro z hz; cases hz
  exact⟨x+e.w,by show zjl s.1 e.v (x+e.w) e.v=_;unfold zjl;rw[if_pos rfl],Int.le_refl _⟩
theorem zMh {o:zcb}{E:List Ed}{s:zcb×Bool}{e:Ed}{x:Int}(he:e∈E) (h:o e.u=some x):leO ((E.foldl (jr o) s).1 e.v) (some (x+e.w)):=by
 induction E generalizing s with
 | nil=>cases he
 | cons f l ih =>
  rcases List.mem_cons.1 he with rfl | hm
  ·exact zcM (zKn o l (jr o s e) e.v) (zMg h)
  ·exact ih hm
theorem zHg {o:zcb}{s:zcb×Bool}{e:Ed}(h:s.2=true):(jr o s e).2=true:=by
 unfold jr
 cases o e.u with
 | none=>exact h
 | some x=>simp only[];cases ltO (x+e.w) (s.1 e.v) <;> first | exact h | rfl
theorem zHh {o:zcb}{E:List Ed}{s:zcb×Bool}(h:s.2=true):(E.foldl (jr o) s).2=true:=by
 induction E generalizing s with
 | nil=>exact h
 | cons e l ih=>exact ih (zHg h)
theorem zDH {d:zcb}{c:Bool}{e:Ed}(h:Sat d e):jr d (d,c) e=(d,c):=zsQ h
theorem zKo {E:List Ed}{d:zcb}{c:Bool}(h:∀ e∈E,Sat d e):E.foldl (jr d) (d,c)=(d,c):=by
 induction E with
 | nil=>rfl
 | cons e l ih =>
  show l.foldl (jr d) (jr d (d,c) e)=_
  rw[zDH (h e (List.mem_cons_self ..))]
  exact ih λ e he=>h e (List.mem_cons_of_mem _ he)
theorem zCv {E:List Ed}{d:zcb}{c:Bool}(h:(E.foldl (jr d) (d,c)).2=false):∀ e∈E,Sat d e:=by
 induction E with
 | nil=>intro e he;cases he
 | cons e l ih =>
  have h':(l.foldl (jr d) (jr d (d,c) e)).2=false:=h
  have hs:Sat d e:=Classical.byContradiction λ hn=>by
   have:(jr d (d,c) e).2=true:=zAi hn
   rw[zHh this] at h';cases h'
  rw[zDH hs] at h'
  intro e' he'
  rcases List.mem_cons.1 he' with rfl | hm
  ·exact hs
  ·exact ih h' e' hm
def zDI (E:List Ed) (d:zcb):zcb:=(E.foldl (jr d) (d,false)).1
def zAy (E : List Ed) : Nat -> zcb -> zcb
  | 0,d=>d
  | k+1,d=>zAy E k (zDI E d)
theorem zAz (E:List Ed) (k:Nat) (d:zcb) (v:Nat):leO (zAy E k d v) (d v):=by
 induction k generalizing d with
 | zero=>exact zc9 _
 | succ k ih=>exact zcM (ih (zDI E d)) (zKn d E (d,false) v)
theorem zHi {E:List Ed}{c:List Ed} : ∀ {a b k:Nat}{d:zcb}{y:Int},zgz E a c b->d a=some y->c.length≤k->leO (zAy E k d b) (some (y+wt c)):=by
 induction c with
 | nil =>
  intro a b k d y h hd _
  cases h
  intro z hz;cases hz
  obtain⟨x,h1,h2⟩:=zAz E k d a y hd
  exact⟨x,h1,by show x≤y+0;omega⟩
 | cons e l ih =>
  intro a b k d y h hd hk
  obtain⟨k,rfl⟩:∃ k',k=k'+1:=⟨k - 1,by simp only[List.length_cons] at hk;omega⟩
  obtain⟨h1,h2,h3⟩:=h
  subst h2
  obtain⟨x,k1,k2⟩:=zMh (o:=d) (s:=(d,false)) h1 hd _ rfl
  intro z hz;cases hz
  obtain⟨z,m1,m2⟩:=ih (k:=k) (d:=zDI E d) h3 k1 (by simp only[List.length_cons] at hk;omega) _ rfl
  exact⟨z,m1,by show z≤y+(e.w+wt l);omega⟩
theorem zKp {E:List Ed}{Src:Nat->Prop}(hn:zbZ E){o:zcb}(ho:Inv E Src o){s:zcb×Bool}{e:Ed}(he:e∈E) (hs:∀ m,leO (s.1 m) (o m)) (h:Inv E Src s.1):Inv E Src (jr o s e).1:=by
 intro v x hx
 have hle:=zHf o s e
 unfold jr at hx hle ⊢
 cases hu:o e.u with
 | none =>
  simp only[hu] at hx ⊢
  obtain⟨a,c,hc⟩:=h v x hx
  exact⟨a,c,hc⟩
 | some y =>
  simp only[hu] at hx hle ⊢
  cases hl:ltO (y+e.w) (s.1 e.v) with
  | false =>
   simp only[hl,cond_false] at hx ⊢
   exact h v x hx
  | true =>
   simp only[hl,cond_true] at hx hle ⊢
   by_cases hv:v=e.v
   ·subst hv
    have hx':y+e.w=x:=by
     unfold zjl at hx;rw[if_pos rfl] at hx;exact Option.some.inj hx
    obtain⟨a,c,hc⟩:=ho e.u y hu
    have hnot:e.v ∉ nodes a c:=λ hm=>by
     obtain⟨z,h1,h2⟩:=zcM (hs e.v) (zj5 hn he hc hm) _ rfl
     rw[h1] at hl
     have:=of_decide_eq_true hl
     omega
    refine⟨a,c ++ [e],hc.src,zdy.2 ⟨e.u,hc.ch,zd0 he⟩,by rw[zio,zjJ,← hc.wt];omega,?_,?_⟩
    ·show (a :: (c ++ [e]).map Ed.v).Nodup
     rw[List.map_append,← List.cons_append]
     refine List.nodup_append.2 ⟨hc.nd,by simp,λ p hp q hq=>?_⟩
     have:q=e.v:=by simpa using hq
     subst this
     exact λ e'=>hnot (e' ▸ hp)
    ·intro c1 c2 m h1 h2
     rcases zir h1 with rfl | ⟨c3,h3⟩
     ·have : m = e.v := zuy h2 (zdy.2 ⟨e.u, hc.ch, zd0 he⟩)
      subst this
      intro z hz;cases hz
      refine⟨x,hx,?_⟩
      rw[zio,zjJ,← hc.wt];omega
     ·exact zcM (zcM (hle m) (hs m)) (hc.pre c1 c3 m h3 h2)
   ·have hx':s.1 v=some x:=by
     unfold zjl at hx;rw[if_neg hv] at hx;exact hx
    obtain⟨a,c,hc⟩:=h v x hx'
    exact⟨a,c,zDA hc hle⟩
theorem zKq {E F:List Ed}{Src:Nat->Prop}(hn:zbZ E) (hF:∀ e∈F,e∈E){o:zcb}(ho:Inv E Src o){s:zcb×Bool}(hs:∀ m,leO (s.1 m) (o m)) (h:Inv E Src s.1):Inv E Src (F.foldl (jr o) s).1:=by
 induction F generalizing s with
 | nil=>exact h
 | cons e l ih=>exact ih (λ e he=>hF e (List.mem_cons_of_mem _ he)) (λ m=>zcM (zHf o s e m) (hs m)) (zKp hn ho (hF e (List.mem_cons_self ..)) hs h)
theorem zCw {E:List Ed}{Src:Nat->Prop}(hn:zbZ E) (k:Nat){d:zcb}(h:Inv E Src d):Inv E Src (zAy E k d):=by
 induction k generalizing d with
 | zero=>exact h
 | succ k ih=>exact ih (zKq hn (λ _ h=>h) h (s:=(d,false)) (λ _=>zc9 _) h)
theorem zKr {E:List Ed}{n:Nat}{Src:Nat->Prop}(hn:zbZ E) (hE:∀ e∈E,e.u < n/\e.v < n) (hS:∀ a,Src a->a < n){d:zcb}(h0:Start Src d):Fix E (zAy E (n - 1) d):=by
 intro e he x hx
 obtain⟨a,c,hc⟩:=zCw hn (n - 1) (zet (E:=E) h0) e.u x hx
 by_cases hm:e.v∈nodes a c
 ·exact zj5 hn he hc hm _ rfl
 ·have hlen:(c ++ [e]).length≤n - 1:=by
   have hnd:(nodes a (c ++ [e])).Nodup:=by
    show (a :: (c ++ [e]).map Ed.v).Nodup
    rw[List.map_append,← List.cons_append]
    refine List.nodup_append.2 ⟨hc.nd,by simp,λ p hp q hq=>?_⟩
    have:q=e.v:=by simpa using hq
    subst this
    exact λ e'=>hm (e' ▸ hp)
   have hch:zgz E a (c ++ [e]) e.v:=zdy.2 ⟨e.u,hc.ch,zd0 he⟩
   have:=zma n hnd (zox hE (hS a hc.src) hch)
   rw[zmb] at this
   omega
  have:=zHi (zdy.2 ⟨e.u,hc.ch,zd0 he⟩) (h0.src a hc.src) hlen _ rfl
  rw[zio,zjJ,← hc.wt] at this
  obtain⟨z,h1,h2⟩:=this
  exact⟨z,h1,by omega⟩
def zg8 (E : List Ed) : Nat -> Bool -> zcb -> Bool
  | 0,c,_=>!c
  | m+1,c,d=>cond c (zg8 E m (E.foldl (jr d) (d,false)).2 (zDI E d)) (!c)
theorem zuB (E:List Ed) (m:Nat) (d:zcb):zg8 E m false d=true:=by cases m <;> rfl
theorem zqk {E:List Ed}{k:Nat} : ∀ {m:Nat}{d:zcb},Fix E (zAy E k d)->k < m->zg8 E m true d=true:=by
 induction k with
 | zero =>
  intro m d h hm
  obtain⟨m,rfl⟩:∃ m',m=m'+1:=⟨m - 1,by omega⟩
  show zg8 E m (E.foldl (jr d) (d,false)).2 (zDI E d)=true
  rw[zKo (show ∀ e∈E,Sat d e from h)]
  exact zuB E m _
 | succ k ih =>
  intro m d h hm
  obtain⟨m,rfl⟩:∃ m',m=m'+1:=⟨m - 1,by omega⟩
  show zg8 E m (E.foldl (jr d) (d,false)).2 (zDI E d)=true
  cases (E.foldl (jr d) (d,false)).2
  ·exact zuB E m _
  ·exact ih (m:=m) (d:=zDI E d) h (by omega)
theorem zAA {E:List Ed}{m:Nat} : ∀ {d:zcb},zg8 E m true d=true->∃ k,Fix E (zAy E k d):=by
 induction m with
 | zero=>intro d h;cases h
 | succ m ih =>
  intro d h
  have h':zg8 E m (E.foldl (jr d) (d,false)).2 (zDI E d)=true:=h
  cases hc:(E.foldl (jr d) (d,false)).2
  ·exact⟨0,zCv hc⟩
  ·rw[hc] at h'
   obtain⟨k,hk⟩:=ih h'
   exact⟨k+1,hk⟩
theorem zAB {E:List Ed}{n:Nat}(hE:EdOk E n):zg8 E n true (zoD n)=true↔zbZ E:=by
 constructor
 ·intro h
  obtain⟨k,hk⟩:=zAA h
  have hsome:∀ v,v < n->∃ x,zAy E k (zoD n) v=some x:=λ v hv=>by
   obtain⟨x,hx,_⟩:=zAz E k (zoD n) v 0 (if_pos hv)
   exact⟨x,hx⟩
  refine zqh (f:=λ v=>(zAy E k (zoD n) v).getD 0) λ e he=>?_
  obtain⟨x,hx⟩:=hsome e.u (hE.lt e he).1
  obtain⟨y,hy,hxy⟩:=hk e he x hx
  show (zAy E k (zoD n) e.v).getD 0≤(zAy E k (zoD n) e.u).getD 0+e.w
  rw[hx,hy];exact hxy
 ·intro h
  have:=hE.n1
  exact zqk (zKr h hE.lt (λ a ha=>ha) (zm6 n)) (by omega)
def dsP (E:List Ed) (n s:Nat):zcb:=rds E (n - 1) (zqi s)
def zKO : Option Int -> Int
  | none=>1000000000000
  | some x=>x
theorem zAC {E:List Ed}{n s:Nat}(hn:zbZ E):Inv E (λ v=>v=s) (dsP E n s):=zsS hn _ (zet (zdu s))
theorem zAD {E:List Ed}{n s:Nat}(hE:EdOk E n) (hn:zbZ E) (hs:s < n):Fix E (dsP E n s):=zAn hn hE.lt (λ a ha=>Nat.lt_of_le_of_lt (Nat.le_of_eq ha) hs) (zdu s)
theorem zMi {E:List Ed}{n:Nat}(hE:EdOk E n){s:Nat}(hs:s < n){d:zcb}(hd:Inv E (λ v=>v=s) d){v:Nat}{x:Int}(hx:d v=some x):∃ c,zgz E s c v/\x=wt c/\c.length < n:=by
 obtain⟨a,c,hc⟩:=hd v x hx
 have hl:=zAm hE.lt (λ a ha=>Nat.lt_of_le_of_lt (Nat.le_of_eq ha) hs) hc
 obtain rfl:a=s:=hc.src
 exact⟨c,hc.ch,hc.wt,by omega⟩
theorem zDJ {E:List Ed}{n:Nat}(hE:EdOk E n){s:Nat}(hs:s < n){d:zcb}(hd:Inv E (λ v=>v=s) d){v:Nat}{x:Int}(hx:d v=some x) : -40000000000≤x/\x≤40000000000:=by
 obtain⟨c,h1,h2,h3⟩:=zMi hE hs hd hx
 have:=zj7 hE h1
 have:=hE.n40
 omega
theorem zHj {E:List Ed}{n s v:Nat}(hE:EdOk E n) (hn:zbZ E) (hs:s < n):zKO (dsP E n s v)=zDD (dst E n s v):=by
 obtain⟨y0,k1,k2⟩:=zqg E (n - 1) (zqi s) s 0 (if_pos rfl)
 have up:∀ c,zgz E s c v->∃ y,dsP E n s v=some y/\y≤wt c:=λ c hc=>by
  obtain⟨y,m1,m2⟩:=zJ8 (zAD hE hn hs) hc k1
  exact⟨y,m1,by omega⟩
 rcases zd7 (v:=v) hE hn hs with ⟨_,h2⟩ | ⟨c,_,h1,h2,_⟩
 ·rw[h2]
  cases hd:dsP E n s v with
  | none=>rfl
  | some x =>
   obtain⟨c,m1,m2,m3⟩:=zMi hE hs (zAC hn) hd
   have:=zoz hE hn hs m1
   have:=zj7 hE m1
   have:=hE.n40
   omega
 ·obtain⟨y, m1, m2⟩ := up c h1
  obtain⟨c',q1,q2,_⟩:=zMi hE hs (zAC hn) m1
  have:=zoz hE hn hs q1
  rw[m1,h2]
  show y=wt c
  omega
end Go.Pm
namespace Go.Proofs
open Go Go.Pm
set_option maxRecDepth 100000
set_option linter.unusedVariables false
theorem zAE {l:Sl Step}{L:List step}(hl:IsL l L){q:Nat}(hq:q < L.length){N:Nat}(hL:∀ y∈L,StOk y N):(l.get q).From=L[q].from_/\(l.get q).To=L[q].to/\(l.get q).Length=L[q].length/\StOk L[q] N:=by
 rw[hl.2 q hq];exact⟨rfl,rfl,rfl,hL _ (List.getElem_mem hq)⟩
structure Rv (N : Nat) (v : Sl Int) (d : zcb) (B : Int) : Prop where
  len:v.len=N
  at_:∀ i,i < N->d i=some (v.get i)
  b:∀ i,i < N->-B≤v.get i/\v.get i≤0
theorem zCx (n : Net) (l : Sl Step) (L : List step) (hl : IsL l L){N : Nat}(hLN : ∀ y ∈ L, StOk y N) (hL : L.length ≤ 1000) (S1 : Sl Int -> Bool -> Int -> Bool) (P1 : Sl Int -> Bool -> Int -> Bool) (best : Sl Int) (o : zcb) (B : Int) (hB : 0 ≤ B /\ B ≤ 100000000000000) (ho : Rv N best o B) (r : Int) :
  ∀ (m k q:Nat) (c:Bool) (v:Sl Int) (d:zcb),q+m=L.length->m < k->Rv N v d (B+1000000000) ->
  ∃ v',zfB S1 n l k best c r (q:Int) v=S1 v' (((L.drop q).map edS).foldl (jr o) (d,c)).2 (w64 (r+(1:Int)))/\zfC P1 n l k best c r (q:Int) v=P1 v' (((L.drop q).map edS).foldl (jr o) (d,c)).2 (w64 (r+(1:Int)))/\Rv N v' (((L.drop q).map edS).foldl (jr o) (d,c)).1 (B+1000000000):=by
 have hll:=hl.1
 intro m
 induction m with
 | zero =>
  intro k q c v d hq hk hv
  obtain⟨k,rfl⟩:∃ k',k=k'+1:=⟨k - 1,by omega⟩
  rw[List.drop_eq_nil_of_le (by omega)]
  refine⟨v,?_,?_,hv⟩
  ·show zjb S1 n l (zfB S1 n l k) best c r (q : Int) v = _
   unfold zjb
   rw[decide_eq_false (show ¬ (q:Int) < (l.len:Int) by omega),cond_false];rfl
  ·show zjc P1 n l (zfC P1 n l k) best c r (q : Int) v = _
   unfold zjc
   rw[decide_eq_false (show ¬ (q:Int) < (l.len:Int) by omega),cond_false];rfl
 | succ m ih =>
  intro k q c v d hq hk hv
  obtain⟨k,rfl⟩:∃ k',k=k'+1:=⟨k - 1,by omega⟩
  have hw:w64 ((q:Int)+(1:Int))=((q+1:Nat):Int):=by rw[zcw (by omega) (by omega)];omega
  obtain⟨e1,e2,e3,hy⟩:=zAE hl (show q < L.length by omega) hLN
  rw[List.drop_eq_getElem_cons (by omega:q < L.length)]
  generalize L[q]=y at *
  have f0:=hy.f0;have f1:=hy.f1;have t0:=hy.t0;have t1:=hy.t1;have l0:=hy.l0;have l1:=hy.l1
  have hbl:=ho.len;have hvl:=hv.len
  have bf:=ho.b y.from_.toNat (by omega)
  have af:=ho.at_ y.from_.toNat (by omega)
  have at_:=hv.at_ y.to.toNat (by omega)
  have hr:jr o (d,c) (edS y)=cond (decide (best.get y.from_.toNat+y.length < v.get y.to.toNat)) (zjl d y.to.toNat (best.get y.from_.toNat+y.length),true) (d,c):=by
   unfold jr edS
   simp only[af,at_] <;> rfl
  have hS:zfB S1 n l (k+1) best c r (q:Int) v=cond (decide (best.get y.from_.toNat+y.length < v.get y.to.toNat)) (zfB S1 n l k best true r ((q+1:Nat):Int) (⟨v.len,setT y.to.toNat (best.get y.from_.toNat+y.length) v.get⟩:Sl Int)) (zfB S1 n l k best c r ((q+1:Nat):Int) v):=by
   rw[← hw]
   show zjb S1 n l (zfB S1 n l k) best c r (q:Int) v=_
   generalize zfB S1 n l k=S
   unfold zjb
   rw[decide_eq_true (show (q:Int) < (l.len:Int) by omega),cond_true,Int.toNat_natCast,e1,e2,e3,zcw (x:=best.get y.from_.toNat+y.length) (by omega) (by omega)]
  have hP:zfC P1 n l (k+1) best c r (q:Int) v=cond (decide (best.get y.from_.toNat+y.length < v.get y.to.toNat)) (zfC P1 n l k best true r ((q+1:Nat):Int) (⟨v.len,setT y.to.toNat (best.get y.from_.toNat+y.length) v.get⟩:Sl Int)) (zfC P1 n l k best c r ((q+1:Nat):Int) v):=by
   rw[← hw]
   show zjc P1 n l (zfC P1 n l k) best c r (q:Int) v=_
   generalize zfC P1 n l k=S
   unfold zjc
   simp only[Int.toNat_natCast,e1,e2,e3]
   rw[decide_eq_true (show (q:Int) < (l.len:Int) by omega),cond_true,zcw (x:=best.get y.from_.toNat+y.length) (by omega) (by omega),decide_eq_true (show 0≤(q:Int)/\(q:Int) < (l.len:Int) by omega),decide_eq_true (show 0≤y.from_/\y.from_ < (best.len:Int) by omega),decide_eq_true (show 0≤y.to/\y.to < (v.len:Int) by omega),decide_eq_true (show y.to.toNat < v.len by omega)]
   cases decide (best.get y.from_.toNat+y.length < v.get y.to.toNat) <;> rfl
  rw[hS,hP]
  show ∃ v',_=S1 v' (((L.drop (q+1)).map edS).foldl (jr o) (jr o (d,c) (edS y))).2 _/\_=P1 v' (((L.drop (q+1)).map edS).foldl (jr o) (jr o (d,c) (edS y))).2 _/\Rv N v' (((L.drop (q+1)).map edS).foldl (jr o) (jr o (d,c) (edS y))).1 _
  rw[hr]
  by_cases hlt:best.get y.from_.toNat+y.length < v.get y.to.toNat
  ·rw[decide_eq_true hlt]
   simp only[cond_true]
   have vb:=hv.b y.to.toNat (by omega)
   refine ih k (q+1) true _ _ (by omega) (by omega) ⟨hvl,λ i hi=>?_,λ i hi=>?_⟩
   ·show zjl d y.to.toNat (best.get y.from_.toNat + y.length) i = some (setT y.to.toNat (best.get y.from_.toNat + y.length) v.get i)
    rw[zjn]
    unfold zjl
    by_cases h:i=y.to.toNat
    ·rw[if_pos h,if_pos h]
    ·rw[if_neg h,if_neg h];exact hv.at_ i hi
   ·show -(B + 1000000000) ≤ setT y.to.toNat (best.get y.from_.toNat + y.length) v.get i /\ setT y.to.toNat (best.get y.from_.toNat + y.length) v.get i ≤ 0
    rw[zjn]
    by_cases h:i=y.to.toNat
    ·rw[if_pos h];omega
    ·rw[if_neg h];exact hv.b i hi
  ·rw[decide_eq_false hlt]
   simp only[cond_false]
   exact ih k (q+1) c v d (by omega) (by omega) hv
theorem zql (n:Net) (hn:NetOk n):∀ (m k r:Nat) (c:Bool) (v:Sl Int) (d:zcb) (B:Int),(r:Int)+m=n.Nodes->m < k->Rv n.Nodes.toNat v d B->0≤B->B+m * 1000000000≤100000000000000 ->
  zhB n (s77 n) k v c (r:Int)=true/\zhA n (s77 n) k v c (r:Int)=zg8 (En n) m c d:=by
 have hlen:=hn.len;have hn40:=hn.n40
 obtain⟨_,hl⟩:=zuA n (by omega)
 have hL:(Ws (W n)).length≤400:=zAq (a:=W n) hn
 intro m
 induction m with
 | zero =>
  intro k r c v d B hr hk _ _ _
  obtain⟨k,rfl⟩:∃ k',k=k'+1:=⟨k - 1,by omega⟩
  constructor
  ·show zgx n (s77 n) (zhB n (s77 n) k) v c (r : Int) = true
   unfold zgx
   rw[decide_eq_false (show ¬ (r:Int) < n.Nodes by omega),cond_false]
  ·show zgw n (s77 n) (zhA n (s77 n) k) v c (r : Int) = _
   unfold zgw
   rw[decide_eq_false (show ¬ (r:Int) < n.Nodes by omega),cond_false];rfl
 | succ m ih =>
  intro k r c v d B hr hk hv hB0 hB1
  obtain⟨k,rfl⟩:∃ k',k=k'+1:=⟨k - 1,by omega⟩
  cases c with
  | false =>
   constructor
   ·show zgx n (s77 n) (zhB n (s77 n) k) v false (r : Int) = true
    unfold zgx
    cases decide ((r:Int) < n.Nodes) <;> rfl
   ·show zgw n (s77 n) (zhA n (s77 n) k) v false (r : Int) = _
    unfold zgw
    cases decide ((r:Int) < n.Nodes) <;> rfl
  | true =>
   have hw:w64 ((r:Int)+(1:Int))=((r+1:Nat):Int):=by rw[zcw (by omega) (by omega)];omega
   obtain⟨v',k1,k2,k3⟩:=zCx n (s77 n) (Ws (W n)) hl (λ y hy=>zHa (a:=W n) hn hy) (by omega) (zhA n (s77 n) k) (zhB n (s77 n) k) v d B ⟨hB0,by omega⟩ hv (r:Int) (Ws (W n)).length Fuel 0 false v d (by omega) (by simp only[Fuel];omega) ⟨hv.len,hv.at_,λ i hi=>by have:=hv.b i hi;omega⟩
   rw[List.drop_zero,hw] at k1 k2
   rw[List.drop_zero] at k3
   obtain⟨i1,i2⟩:=ih k (r+1) (((Ws (W n)).map edS).foldl (jr d) (d,false)).2 v' _ (B+1000000000) (by omega) (by omega) k3 (by omega) (by omega)
   constructor
   ·refine Eq.trans ?_ i1
    refine Eq.trans ?_ k2
    show zgx n (s77 n) (zhB n (s77 n) k) v true (r:Int)=_
    unfold zgx
    have hvl:=hv.len
    rw[decide_eq_true (show (r:Int) < n.Nodes by omega)]
    first
     | rfl
     | (simp only[cond_true];rw[decide_eq_true (show v.len * 8≤140737488355328/\v.len≤9223372036854775807 by omega)];rfl)
   ·refine Eq.trans ?_ i2
    refine Eq.trans ?_ k1
    show zgw n (s77 n) (zhA n (s77 n) k) v true (r:Int)=_
    unfold zgw
    rw[decide_eq_true (show (r:Int) < n.Nodes by omega)];rfl
theorem zKs (n:Net) (hn:NetOk n):p31 n=true/\(s31 n=true↔zbZ (En n)):=by
 have hlen:=hn.len;have hn1:=hn.n1;have hn40:=hn.n40
 obtain⟨a,b⟩:=zql n hn n.Nodes.toNat Fuel 0 true (⟨n.Nodes.toNat,(λ _=>(0:Int))⟩:Sl Int) (zoD n.Nodes.toNat) 0 (by omega) (by simp only[Fuel];omega) ⟨rfl,λ i hi=>if_pos hi,λ i hi=>⟨by show -(0:Int)≤(0:Int);omega,Int.le_refl _⟩⟩ (by omega) (by omega)
 have hq:=(zuA n (by omega)).1
 constructor
 ·unfold p31 zsH
  rw[hq]
  first
   | exact a
   | (rw[decide_eq_true (show 0≤n.Nodes/\n.Nodes=n.Nodes/\n.Nodes≤1000000 from ⟨by omega,rfl,by omega⟩)];exact a)
 ·have : s31 n = zg8 (En n) n.Nodes.toNat true (zoD n.Nodes.toNat) := b
  rw[this]
  exact zAB (zDF (a:=W n) hn)
end Go.Proofs
namespace Go.Proofs
open Go Go.Pm
set_option maxRecDepth 100000
set_option linter.unusedVariables false
structure Rq (N : Nat) (v : Sl Int) (d : zcb) : Prop where
  len:v.len=N
  at_:∀ i,i < N->v.get i=zKO (d i)
theorem zHk (n : Net){E : List Ed}{N s : Nat}(hE : EdOk E N) (hn : zbZ E) (hs : s < N) (l : Sl Step) (L : List step) (hl : IsL l L) (hLN : ∀ y ∈ L, StOk y N /\ edS y ∈ E) (hL : L.length ≤ 1000) (S3 : Bool -> Sl Int -> Sl Int) (P3 : Bool -> Sl Int -> Bool) :
  ∀ (m k q:Nat) (c:Bool) (v:Sl Int) (d:zcb),q+m=L.length->m < k->Rq N v d->Inv E (λ v=>v=s) d ->
  ∃ v',zer S3 l k c (q:Int) v=S3 (((L.drop q).map edS).foldl rlF (d,c)).2 v'/\zes P3 l k c (q:Int) v=P3 (((L.drop q).map edS).foldl rlF (d,c)).2 v'/\Rq N v' (((L.drop q).map edS).foldl rlF (d,c)).1:=by
 have hll:=hl.1
 have hN40:=hE.n40
 intro m
 induction m with
 | zero =>
  intro k q c v d hq hk hv _
  obtain⟨k,rfl⟩:∃ k',k=k'+1:=⟨k - 1,by omega⟩
  rw[List.drop_eq_nil_of_le (by omega)]
  refine⟨v,?_,?_,hv⟩
  ·show zjd S3 l (zer S3 l k) c (q : Int) v = _
   unfold zjd
   rw[decide_eq_false (show ¬ (q:Int) < (l.len:Int) by omega),cond_false];rfl
  ·show zje P3 l (zes P3 l k) c (q : Int) v = _
   unfold zje
   rw[decide_eq_false (show ¬ (q:Int) < (l.len:Int) by omega),cond_false];rfl
 | succ m ih =>
  intro k q c v d hq hk hv hi
  obtain⟨k,rfl⟩:∃ k',k=k'+1:=⟨k - 1,by omega⟩
  have hw:w64 ((q:Int)+(1:Int))=((q+1:Nat):Int):=by rw[zcw (by omega) (by omega)];omega
  obtain⟨e1,e2,e3,hy⟩:=zAE hl (show q < L.length by omega) (λ y hy=>(hLN y hy).1)
  have hmE:=(hLN L[q] (List.getElem_mem (by omega))).2
  rw[List.drop_eq_getElem_cons (by omega:q < L.length)]
  generalize L[q]=y at *
  have f0:=hy.f0;have f1:=hy.f1;have t0:=hy.t0;have t1:=hy.t1;have l0:=hy.l0;have l1:=hy.l1
  have hvl:=hv.len
  have af:=hv.at_ y.from_.toNat (by omega)
  have at_:=hv.at_ y.to.toNat (by omega)
  have hin:=zjm (Src:=λ v=>v=s) hn (s:=(d,c)) (e:=edS y) hmE hi
  have hbT:∀ x,d y.to.toNat=some x->-40000000000≤x/\x≤40000000000:=λ x hx=>zDJ hE hs hi hx
  have hS:zer S3 l (k+1) c (q:Int) v=cond (v.get y.from_.toNat != (1000000000000:Int)) (cond (decide (w64 (v.get y.from_.toNat+y.length) < v.get y.to.toNat)) (zer S3 l k true ((q+1:Nat):Int) (⟨v.len,setT y.to.toNat (w64 (v.get y.from_.toNat+y.length)) v.get⟩:Sl Int)) (zer S3 l k c ((q+1:Nat):Int) v)) (zer S3 l k c ((q+1:Nat):Int) v):=by
   rw[← hw]
   show zjd S3 l (zer S3 l k) c (q:Int) v=_
   generalize zer S3 l k=S
   unfold zjd
   rw[decide_eq_true (show (q:Int) < (l.len:Int) by omega),cond_true,Int.toNat_natCast,e1,e2,e3]
  have hP:zes P3 l (k+1) c (q:Int) v=cond (v.get y.from_.toNat != (1000000000000:Int)) (cond (decide (w64 (v.get y.from_.toNat+y.length) < v.get y.to.toNat)) (zes P3 l k true ((q+1:Nat):Int) (⟨v.len,setT y.to.toNat (w64 (v.get y.from_.toNat+y.length)) v.get⟩:Sl Int)) (zes P3 l k c ((q+1:Nat):Int) v)) (zes P3 l k c ((q+1:Nat):Int) v):=by
   rw[← hw]
   show zje P3 l (zes P3 l k) c (q:Int) v=_
   generalize zes P3 l k=S
   unfold zje
   simp only[Int.toNat_natCast,e1,e2,e3]
   rw[decide_eq_true (show (q:Int) < (l.len:Int) by omega),cond_true,decide_eq_true (show 0≤(q:Int)/\(q:Int) < (l.len:Int) by omega),decide_eq_true (show 0≤y.from_/\y.from_ < (v.len:Int) by omega),decide_eq_true (show y.from_.toNat < v.len by omega),decide_eq_true (show 0≤y.to/\y.to < (v.len:Int) by omega),decide_eq_true (show y.to.toNat < v.len by omega)]
   cases (v.get y.from_.toNat != (1000000000000:Int)) <;> cases decide (w64 (v.get y.from_.toNat+y.length) < v.get y.to.toNat) <;> rfl
  rw[hS,hP]
  show ∃ v',_=S3 (((L.drop (q+1)).map edS).foldl rlF (rlF (d,c) (edS y))).2 v'/\_=P3 (((L.drop (q+1)).map edS).foldl rlF (rlF (d,c) (edS y))).2 v'/\Rq N v' (((L.drop (q+1)).map edS).foldl rlF (rlF (d,c) (edS y))).1
  cases hdu:d y.from_.toNat with
  | none =>
   rw[hdu] at af
   have hr:rlF (d,c) (edS y)=(d,c):=by
    unfold rlF edS
    simp only[hdu]
   rw[hr,show (v.get y.from_.toNat != (1000000000000:Int))=false by rw[af];rfl]
   simp only[cond_false]
   exact ih k (q+1) c v d (by omega) (by omega) hv hi
  | some x =>
   have hbx:=zDJ hE hs hi hdu
   rw[hdu] at af
   have af':v.get y.from_.toNat=x:=af
   have hne:x ≠ 1000000000000:=by omega
   have hr:rlF (d,c) (edS y)=cond (ltO (x+y.length) (d y.to.toNat)) (zjl d y.to.toNat (x+y.length),true) (d,c):=by
    unfold rlF edS
    simp only[hdu] <;> rfl
   have hlt:decide (x+y.length < v.get y.to.toNat)=ltO (x+y.length) (d y.to.toNat):=by
    rw[at_]
    cases hdv:d y.to.toNat with
    | none=>exact decide_eq_true (show x+y.length < 1000000000000 by omega)
    | some z=>rfl
   rw[af',bne_iff_ne.2 hne,zcw (x:=x+y.length) (by omega) (by omega),hlt]
   simp only[cond_true]
   rw[hr] at hin ⊢
   cases hlo:ltO (x+y.length) (d y.to.toNat) with
   | false =>
    simp only[cond_false]
    exact ih k (q+1) c v d (by omega) (by omega) hv hi
   | true =>
    rw[hlo] at hin
    simp only[cond_true] at hin ⊢
    refine ih k (q+1) true _ _ (by omega) (by omega) ⟨hvl,λ i hi'=>?_⟩ hin
    show setT y.to.toNat (x+y.length) v.get i=zKO (zjl d y.to.toNat (x+y.length) i)
    rw[zjn]
    unfold zjl
    by_cases h:i=y.to.toNat
    ·rw[if_pos h,if_pos h];rfl
    ·rw[if_neg h,if_neg h];exact hv.at_ i hi'
end Go.Proofs
namespace Go.Proofs
open Go Go.Pm
set_option maxRecDepth 100000
set_option linter.unusedVariables false
theorem zs5 (n:Net) (l:Sl Step) (hl:IsL l (Ws (W n))) (hnet:NetOk n) (hn:zbZ (En n)) {s:Nat}(hs:s < n.Nodes.toNat):∀ (m k:Nat) (v:Sl Int) (d:zcb),Rq n.Nodes.toNat v d->Inv (En n) (λ v=>v=s) d->Fix (En n) (rds (En n) m d)->m+1 < k ->
  zdt l k true v=true/\Rq n.Nodes.toNat (zdk l k true v) (rds (En n) m d):=by
 have hlen:=hnet.len
 have hE:EdOk (En n) n.Nodes.toNat:=zDF (a:=W n) hnet
 have hL:(Ws (W n)).length≤400:=zAq (a:=W n) hnet
 have one:∀ (k:Nat) (v:Sl Int) (d:zcb),Rq n.Nodes.toNat v d->Inv (En n) (λ v=>v=s) d ->
   ∃ v',zdk l (k+1) true v=zdk l k ((En n).foldl rlF (d,false)).2 v'/\zdt l (k+1) true v=zdt l k ((En n).foldl rlF (d,false)).2 v'/\Rq n.Nodes.toNat v' (rnd (En n) d):=by
  intro k v d h1 h2
  obtain⟨v',k1,k2,k3⟩:=zHk n hE hn hs l (Ws (W n)) hl (λ y hy=>⟨zHa (a:=W n) hnet hy,List.mem_map_of_mem hy⟩) (by omega) (zdk l k) (zdt l k) (Ws (W n)).length Fuel 0 false v d (by omega) (by simp only[Fuel];omega) h1 h2
  rw[List.drop_zero] at k1 k2 k3
  have e1:zdk l (k+1) true v=zer (zdk l k) l Fuel false ((0:Nat):Int) v:=by
   show zl7 l (zdk l k) true v=_
   generalize zdk l k=S
   unfold zl7 zsI
   rw[cond_true];rfl
  have e2:zdt l (k+1) true v=zes (zdt l k) l Fuel false ((0:Nat):Int) v:=by
   show zl8 l (zdt l k) true v=_
   generalize zdt l k=S
   unfold zl8 zsJ
   rw[cond_true];rfl
  exact⟨v',e1.trans k1,e2.trans k2,k3⟩
 have stop:∀ (k:Nat) (v:Sl Int),zdk l (k+1) false v=v/\zdt l (k+1) false v=true:=λ k v=>by
  constructor
  ·show zl7 l (zdk l k) false v = v
   generalize zdk l k=S
   rfl
  ·show zl8 l (zdt l k) false v = true
   generalize zdt l k=S
   rfl
 intro m
 induction m with
 | zero =>
  intro k v d h1 h2 h3 hk
  obtain⟨k,rfl⟩:∃ k',k=k'+1+1:=⟨k - 2,by omega⟩
  obtain⟨v',k1,k2,k3⟩:=one (k+1) v d h1 h2
  have h3':Fix (En n) d:=h3
  rw[ziq h3'] at k1 k2
  rw[zhE h3'] at k3
  obtain⟨j1,j2⟩:=stop k v'
  refine⟨k2.trans j2,?_⟩
  rw[k1.trans j1];exact k3
 | succ m ih =>
  intro k v d h1 h2 h3 hk
  obtain⟨k,rfl⟩:∃ k',k=k'+1+1:=⟨k - 2,by omega⟩
  obtain⟨v',k1,k2,k3⟩:=one (k+1) v d h1 h2
  cases hf:((En n).foldl rlF (d,false)).2 with
  | false =>
   rw[hf] at k1 k2
   have hx:Fix (En n) d:=zgU hf
   obtain⟨j1,j2⟩:=stop k v'
   refine⟨k2.trans j2,?_⟩
   rw[k1.trans j1,zsR hx]
   rw[zhE hx] at k3;exact k3
  | true =>
   rw[hf] at k1 k2
   obtain⟨m1,m2⟩:=ih (k+1) v' (rnd (En n) d) k3 (zj6 hn (λ _ h=>h) (s:=(d,false)) h2) h3 (by omega)
   refine⟨k2.trans m1,?_⟩
   rw[k1];exact m2
theorem zAF (n:Net) (a:Int) (l:Sl Step):∀ (m k i:Nat) (v:Sl Int),(v.len:Int)=n.Nodes->n.Nodes≤40->(∀ j,j < i->v.get j=1000000000000)->(i:Int)+m=n.Nodes->m < k ->
  ∃ v',zjh n a l k (i:Int) v=zsL a l v'/\zji n a l k (i:Int) v=zov a l v'/\v'.len=v.len/\∀ j,j < v.len->v'.get j=1000000000000:=by
 intro m
 induction m with
 | zero =>
  intro k i v hv h40 h hi hk
  obtain⟨k,rfl⟩:∃ k',k=k'+1:=⟨k - 1,by omega⟩
  refine⟨v,?_,?_,rfl,λ j hj=>h j (by omega)⟩
  ·show zjf n a l (zjh n a l k) (i : Int) v = _
   unfold zjf
   rw[decide_eq_false (show ¬ (i:Int) < n.Nodes by omega),cond_false]
  ·show zjg n a l (zji n a l k) (i : Int) v = _
   unfold zjg
   rw[decide_eq_false (show ¬ (i:Int) < n.Nodes by omega),cond_false]
 | succ m ih =>
  intro k i v hv h40 h hi hk
  obtain⟨k,rfl⟩:∃ k',k=k'+1:=⟨k - 1,by omega⟩
  have hw:w64 ((i:Int)+(1:Int))=((i+1:Nat):Int):=by rw[zcw (by omega) (by omega)];omega
  obtain⟨v',k1,k2,k3,k4⟩:=ih k (i+1) (⟨v.len,setT i (1000000000000:Int) v.get⟩:Sl Int) hv h40 (λ j hj=>by
   show setT i (1000000000000:Int) v.get j=_
   rw[zjn]
   by_cases hq:j=i
   ·rw[if_pos hq]
   ·rw[if_neg hq];exact h j (by omega)) (by omega) (by omega)
  refine⟨v',?_,?_,k3,k4⟩
  ·rw[← k1]
   show zjf n a l (zjh n a l k) (i:Int) v=_
   unfold zjf
   rw[decide_eq_true (show (i:Int) < n.Nodes by omega),cond_true,Int.toNat_natCast,hw]
  ·rw[← k2]
   show zjg n a l (zji n a l k) (i:Int) v=_
   unfold zjg
   rw[decide_eq_true (show (i:Int) < n.Nodes by omega),cond_true,Int.toNat_natCast,hw,decide_eq_true (show 0≤(i:Int)/\(i:Int) < (v.len:Int) by omega),decide_eq_true (show i < v.len by omega)];rfl
theorem zDK {n:Net}(hn:NetOk n) (hN:zbZ (En n)) {a:Int}(h0:0≤a) (h1:a < n.Nodes):p46 n a=true/\(s46 n a).len=n.Nodes.toNat/\∀ j,j < n.Nodes.toNat->(s46 n a).get j=fr n a.toNat j:=by
 have hlen:=hn.len;have hn1:=hn.n1;have hn40:=hn.n40
 have hE:EdOk (En n) n.Nodes.toNat:=zDF (a:=W n) hn
 have hs:a.toNat < n.Nodes.toNat:=by omega
 have hq:=(zuA n (by omega)).1
 obtain⟨v1,a1,a2,a3,a4⟩:=zAF n a (s77 n) n.Nodes.toNat Fuel 0 (⟨n.Nodes.toNat,(λ _=>(0:Int))⟩:Sl Int) (by show ((n.Nodes.toNat:Nat):Int)=_;omega) hn40 (λ j hj=>absurd hj (Nat.not_lt_zero _)) (by omega) (by simp only[Fuel];omega)
 have a3':v1.len=n.Nodes.toNat:=a3
 have hr:Rq n.Nodes.toNat (⟨v1.len,setT a.toNat (0:Int) v1.get⟩:Sl Int) (zqi a.toNat):=⟨a3',λ i hi=>by
  show setT a.toNat (0:Int) v1.get i=zKO (zqi a.toNat i)
  rw[zjn]
  unfold zqi
  by_cases h:i=a.toNat
  ·rw[if_pos h,if_pos h];rfl
  ·rw[if_neg h,if_neg h];exact a4 i hi⟩
 obtain⟨b1,b2⟩:=zs5 n (s77 n) (zuA n (by omega)).2 hn hN hs (n.Nodes.toNat - 1) Fuel (⟨v1.len,setT a.toNat (0:Int) v1.get⟩:Sl Int) (zqi a.toNat) hr (zet (zdu a.toNat)) (zAD hE hN hs) (by simp only[Fuel];omega)
 have e:s46 n a=zdk (s77 n) Fuel true (⟨v1.len,setT a.toNat (0:Int) v1.get⟩:Sl Int):=by
  show zjh n a (s77 n) Fuel 0 (⟨n.Nodes.toNat,(λ _=>(0:Int))⟩:Sl Int)=_
  exact Eq.trans a1 rfl
 refine⟨?_,?_,λ j hj=>?_⟩
 ·unfold p46 zsM
  rw[hq,decide_eq_true (show 0≤n.Nodes/\n.Nodes=n.Nodes/\n.Nodes≤1000000 from ⟨by omega,rfl,by omega⟩)]
  show zji n a (s77 n) Fuel 0 (⟨n.Nodes.toNat,(λ _=>(0:Int))⟩:Sl Int)=true
  refine Eq.trans a2 ?_
  unfold zov zsK
  rw[decide_eq_true (show 0≤a/\a < (v1.len:Int) by omega),decide_eq_true (show a.toNat < v1.len by omega),Bool.true_and,Bool.true_and]
  exact b1
 ·rw[e];exact b2.len
 ·rw[e, b2.at_ j hj]
  exact zHj hE hN hs
theorem zDL {n:Net}(hn:NetOk n) (hN:zbZ (En n)) {i j:Int}(hi:0≤i/\i < n.Nodes) (hj:0≤j/\j < n.Nodes):p34 n i j=true/\s34 n i j=⟨-fr n j.toNat i.toNat,fr n i.toNat j.toNat⟩:=by
 obtain⟨a1,a2,a3⟩:=zDK hn hN hj.1 hj.2
 obtain⟨b1,b2,b3⟩:=zDK hn hN hi.1 hi.2
 have hb:=zka hn hN (i:=j.toNat) (j:=i.toNat) (by omega)
 unfold p34 s34
 rw[a1,b1,a2,b2,a3 i.toNat (by omega),b3 j.toNat (by omega),zcw (by omega) (by omega)]
 constructor
 ·rw[decide_eq_true (show 0≤i/\i < (n.Nodes.toNat:Int) by omega),decide_eq_true (show 0≤j/\j < (n.Nodes.toNat:Int) by omega)];rfl
 ·rw[show (0:Int) - fr n j.toNat i.toNat = -fr n j.toNat i.toNat by omega]
end Go.Proofs
namespace Go.Proofs
open Go Go.Pm
set_option maxRecDepth 100000
set_option linter.unusedVariables false
def apL {α:Type}(l:Nat->α) (i:Nat) (v:Sl α):Sl α:=⟨v.len+1,zf4 v.len v.get (λ _=>l i)⟩
theorem zKt {α:Type}(l:Nat->α):∀ (m i:Nat) (v:Sl α),v.len=i->(∀ j,j < i->v.get j=l j)->(zmm (apL l) m i v).len=i+m/\∀ j,j < i+m->(zmm (apL l) m i v).get j=l j:=by
 intro m
 induction m with
 | zero=>intro i v h1 h2;exact⟨h1,λ j hj=>h2 j (by omega)⟩
 | succ m ih =>
  intro i v h1 h2
  obtain⟨k1,k2⟩:=ih (i+1) (apL l i v) (by show v.len+1=i+1;omega) (λ j hj=>by
   show zf4 v.len v.get (λ _=>l i) j=_
   rw[zAx]
   by_cases h:v.len≤j
   ·rw[if_pos h,show j=i by omega]
   ·rw[if_neg h];exact h2 j (by omega))
  exact⟨k1.trans (by omega),λ j hj=>k2 j (by omega)⟩
end Go.Proofs
namespace Go.Proofs
open Go Go.Pm
set_option maxRecDepth 100000
set_option linter.unusedVariables false
theorem zKu {n:Net}(hn:NetOk n) (hN:zbZ (En n)):p33 n=true/\(s33 n).len=n.Nodes.toNat/\∀ i,i < n.Nodes.toNat->(s33 n).get i=⟨-fr n i 0,fr n 0 i⟩:=by
  have hn1:=hn.n1;have hn40:=hn.n40
  have hs:=λ (i:Nat) (hi:i < n.Nodes.toNat)=>zDL hn hN (i:=0) (j:=(i:Int)) ⟨Int.le_refl _,by omega⟩ ⟨by omega,by omega⟩
  have hl := zqe (step := (apL λ i => (⟨-fr n i 0, fr n 0 i⟩ : Span))) (E := λ v => v) (EP := λ _ => true) (Inv := λ i (v : Sl Span) => v.len = i) (a := 0) (n := n.Nodes.toNat) (lpS := λ k v i => zhC n k i v) (lpP := λ k v i => zhD n k i v)
    (λ k i v hai hi hv=>by
      show zjj n (zhC n k) (i:Int) v=zhC n k (w64 ((i:Int)+(1:Int))) ((apL λ i=>(⟨-fr n i 0,fr n 0 i⟩:Span)) i v)
      generalize zhC n k=S
      have hv':v.len=i:=hv
      unfold zjj
      rw[decide_eq_true (show (i:Int) < n.Nodes by omega),cond_true,(hs i hi).2]
      rfl)
    (λ k v=>by
      show zjj n (zhC n k) ((n.Nodes.toNat:Nat):Int) v=_
      unfold zjj
      rw[decide_eq_false (show ¬ ((n.Nodes.toNat:Nat):Int) < n.Nodes by omega),cond_false]
      )
    (λ k i v hai hi hv=>by
      show zjk n (zhD n k) (i:Int) v=zhD n k (w64 ((i:Int)+(1:Int))) ((apL λ i=>(⟨-fr n i 0,fr n 0 i⟩:Span)) i v)
      generalize zhD n k=S
      have hv':v.len=i:=hv
      unfold zjk
      rw[decide_eq_true (show (i:Int) < n.Nodes by omega),cond_true,(hs i hi).1,(hs i hi).2,decide_eq_true (show (v.len+1) * 16≤140737488355328/\v.len+1≤9223372036854775807 by omega)]
      rfl)
    (λ k v=>by
      show zjk n (zhD n k) ((n.Nodes.toNat:Nat):Int) v=_
      unfold zjk
      rw[decide_eq_false (show ¬ ((n.Nodes.toNat:Nat):Int) < n.Nodes by omega),cond_false]
      )
    (λ i v _ _ hh=>by show v.len+1=i+1;have hh':v.len=i:=hh;omega) (Nat.zero_le _) (by omega) (⟨0,(λ _=>default)⟩:Sl Span) rfl
  obtain⟨k1,k2⟩:=zKt (λ i=>(⟨-fr n i 0,fr n 0 i⟩:Span)) (n.Nodes.toNat - 0) 0 (⟨0,(λ _=>default)⟩:Sl Span) rfl (λ j hj=>absurd hj (Nat.not_lt_zero _))
  refine⟨hl.1,?_⟩
  have e:s33 n=zmm (apL λ i=>(⟨-fr n i 0,fr n 0 i⟩:Span)) (n.Nodes.toNat - 0) 0 (⟨0,(λ _=>default)⟩:Sl Span):=hl.2
  rw[e]
  exact⟨k1.trans (by omega),λ i hi=>k2 i (by omega)⟩
theorem zCy (a b:Sl Span) (h1:a.len=b.len) (hl:a.len≤1000) (h2:∀ i,i < a.len->a.get i=b.get i):p32 a b=true/\s32 a b=true:=by
  have hl := zow (good := λ _ => true) (fin := true) (n := a.len) (lpS := ziW a b) (lpP := ziX a b)
    (λ k i hi=>by
      show ziU a b (ziW a b k) (i:Int)=_
      generalize ziW a b k=S
      unfold ziU
      rw[decide_eq_true (show (i:Int) < (a.len:Int) by omega),cond_true,Int.toNat_natCast,h2 i hi,beq_self_eq_true,beq_self_eq_true]
      rfl)
    (λ k=>by
      show ziU a b (ziW a b k) (a.len:Int)=_
      unfold ziU
      rw[decide_eq_false (show ¬ (a.len:Int) < (a.len:Int) by omega),cond_false])
    (λ k i hi=>by
      show ziV a b (ziX a b k) (i:Int)=_
      generalize ziX a b k=S
      unfold ziV
      rw[decide_eq_true (show (i:Int) < (a.len:Int) by omega),cond_true,Int.toNat_natCast,decide_eq_true (show 0≤(i:Int)/\(i:Int) < (a.len:Int) by omega),Bool.true_and,h2 i hi,beq_self_eq_true,beq_self_eq_true,decide_eq_true (show 0≤(i:Int)/\(i:Int) < (b.len:Int) by omega)]
      rfl)
    (λ k=>by
      show ziV a b (ziX a b k) (a.len:Int)=_
      unfold ziV
      rw[decide_eq_false (show ¬ (a.len:Int) < (a.len:Int) by omega),cond_false])
    (by omega)
  unfold p32 s32
  rw[h1,bne_self_eq_false,cond_false,cond_false]
  exact⟨hl.1,hl.2.2 ⟨λ _ _=>rfl,rfl⟩⟩
end Go.Proofs
namespace Go.Proofs
open Go Go.Pm
set_option maxRecDepth 100000
set_option linter.unusedVariables false
theorem zKv {n:Net}{i j:Int}(hi:0≤i/\i < n.Nodes) (hj:0≤j/\j < n.Nodes) (b:Sl Span) (e f x y:Int):zm3 n i j b e f x y=zfM n i j b e f x y true/\zm2 n i j b e f x y=zfL n i j b e f x y true:=by
 unfold zm3 zm2
 rw[decide_eq_true (show i ≥ 0 from hi.1),decide_eq_true hi.2,decide_eq_true (show j ≥ 0 from hj.1),decide_eq_true hj.2]
 exact⟨rfl,rfl⟩
theorem zDM {n:Net}{i j:Int}(h : ¬ ((0≤i/\i < n.Nodes)/\(0≤j/\j < n.Nodes))) (b:Sl Span) (e:Int):zm3 n i j b e 2 0 0=zfM n i j b e 2 0 0 false/\zm2 n i j b e 2 0 0=zfL n i j b e 2 0 0 false:=by
 unfold zm3 zm2
 by_cases h1:0≤i
 ·rw[decide_eq_true (show i ≥ 0 from h1)]
  by_cases h2:i < n.Nodes
  ·rw[decide_eq_true h2]
   by_cases h3:0≤j
   ·rw[decide_eq_true (show j ≥ 0 from h3)]
    have h4 : ¬ j < n.Nodes:=λ h4=>h ⟨⟨h1,h2⟩,h3,h4⟩
    rw[decide_eq_false h4];exact⟨rfl,rfl⟩
   ·rw[decide_eq_false (show ¬ j ≥ 0 from h3)];exact⟨rfl,rfl⟩
  ·rw[decide_eq_false h2];exact⟨rfl,rfl⟩
 ·rw[decide_eq_false (show ¬ i ≥ 0 from h1)];exact⟨rfl,rfl⟩
theorem zs6 (n:Net) (i j:Int) (ht:n.Ties.len≤210):zux n i j=true/\zuw n i j=true:=by
 obtain⟨a1,a2⟩:=zAg n (by omega)
 obtain⟨b1,b2⟩:=zJ4 n (by omega)
 unfold zux zuw zAe zAd zAc zAb
 rw[b1,b2]
 cases hs:s67 n
 ·obtain⟨c1, c2⟩ := zvq ht hs
  obtain⟨d1,d2⟩:=zs3 (i:=i) (j:=j) ht hs
  rw[c1,c2,d1,d2]
  exact⟨rfl,rfl⟩
 have hn:=a2.1 hs
 have hn40:=hn.n40
 obtain⟨g1,g2⟩:=zKs n hn
 by_cases hN:zbZ (En n)
 ·obtain⟨c1, b, c2, c3, c4⟩ := zAw ht hn hN
  obtain⟨r1,r2,r3⟩:=zKu hn hN
  obtain⟨m1,m2⟩:=zCy b (s33 n) (by rw[c3,r2]) (by omega) (λ q hq=>by rw[c4 q (by omega),r3 q (by omega)])
  have hso:=g2.2 hN
  rw[c1,c2]
  by_cases hr:(0≤i/\i < n.Nodes)/\(0≤j/\j < n.Nodes)
  ·obtain⟨d1, d2⟩ := zvr ht hn hr.1 hr.2 hN
   obtain⟨q1,q2⟩:=zDL hn hN hr.1 hr.2
   rw[d1,d2]
   unfold zm5 zm4
   simp only[decide_true,Bool.true_and,Bool.not_true,cond_false]
   obtain⟨v1,v2⟩:=zKv hr.1 hr.2 b 0 0 (-fr n j.toNat i.toNat) (fr n i.toNat j.toNat)
   rw[v1,v2]
   unfold zfM zfL
   rw[g1,hso]
   unfold zuv zuu zut zus
   simp only[decide_true,Bool.true_and,Bool.not_true,cond_false,beq_self_eq_true,cond_true,m1,m2,r1,q1,q2,Bool.and_self]
   exact⟨trivial,trivial⟩
  ·obtain⟨d1, d2⟩ := zmc ht hn hr
   rw[d1,d2]
   unfold zm5 zm4
   simp only[decide_true,Bool.true_and,Bool.not_true,cond_false]
   obtain⟨v1,v2⟩:=zDM hr b 0
   rw[v1,v2]
   unfold zfM zfL
   rw[g1,hso]
   unfold zuv zuu zut zus
   simp only[decide_true,Bool.true_and,Bool.not_true,Bool.not_false,cond_false,beq_self_eq_true,cond_true,m1,m2,r1,Bool.and_self]
   exact⟨trivial,trivial⟩
 ·obtain⟨c1, c2⟩ := zsZ ht hn hN
  have hso:s31 n=false:=Bool.eq_false_iff.2 λ h=>hN (g2.1 h)
  rw[c1,c2]
  by_cases hr:(0≤i/\i < n.Nodes)/\(0≤j/\j < n.Nodes)
  ·obtain⟨d1, d2⟩ := zqj ht hn hr.1 hr.2 hN
   rw[d1,d2]
   unfold zm5 zm4
   simp only[decide_true,Bool.true_and,Bool.not_true,cond_false]
   obtain⟨v1,v2⟩:=zKv hr.1 hr.2 (⟨0,λ _=>default⟩:Sl Span) 5 5 0 0
   rw[v1,v2]
   unfold zfM zfL
   rw[g1,hso]
   exact⟨rfl,rfl⟩
  ·obtain⟨d1, d2⟩ := zmc ht hn hr
   rw[d1,d2]
   unfold zm5 zm4
   simp only[decide_true,Bool.true_and,Bool.not_true,cond_false]
   obtain⟨v1,v2⟩:=zDM hr (⟨0,λ _=>default⟩:Sl Span) 5
   rw[v1,v2]
   unfold zfM zfL
   rw[g1,hso]
   exact⟨rfl,rfl⟩
theorem bounds_true (n:Net) (i j:Int):p6 n i j=true/\s6 n i j=true:=by
 unfold p6 s6
 by_cases h:s20 n 14=true
 ·rw[h];exact zs6 n i j (zAh h (by omega))
 ·rw[Bool.eq_false_iff.2 h];exact⟨rfl,rfl⟩
end Go.Proofs
