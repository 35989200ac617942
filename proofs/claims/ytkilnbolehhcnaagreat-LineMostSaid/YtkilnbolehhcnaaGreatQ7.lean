/- Part 7 of what the proof rests on: a machine that runs functions of the program on pure values, proved sound; the functions that the law reaches, and what they compute. -/
import Derived.Test.YtkilnbolehhcnaaGreatQ6
set_option linter.all false
namespace Go.Proofs
open Go Go.Pm
set_option maxRecDepth 100000
set_option linter.unusedVariables false
attribute [local irreducible] Go.Pm.vcFun Go.Pm.vc Go.Pm.vcIter
abbrev T62:Tabs:=((Tabs.nil.addF 15 zLb).addF 81 zLc)
theorem zSc:TabsOk Tryz.prog T62:=((TabsOk.nil.addF zT3).addF zT4)
abbrev G62:Ctrs:=csm T62 (λ _ _=>[]) (λ _=>false)
def zLd:Ann:=⟨67,[(0,zK [0] []),(1,zK [0,3] []),(2,zK [0,3,4] []),(3,zK [0,3,4,10] [65]),(4,zK [0,3,4] [65]),(5,zK [0,3,4,5] [65]),(6,zK [0,3,4,5,18] [65]),(7,zK [0,3,4,5] [65]),(8,zK [0,3,4,5,6] [65]),(9,zK [0,3,4,5,6,35] [65]),(10,zK [0,3,4,5,6] [65]),(11,zK [0,3,4,5,6] [65]),(12,zK [2] [65])],
 [(3,⟨[0,3,4],[65],[(3,65,42,λ _=>zbr default)],[],[],[],[]⟩),(6,⟨[0,3,4,5],[65],[(3,65,42,λ _=>zbr default)],[],[],[],[]⟩),(9,⟨[0,3,4,5,6],[65],[(3,65,42,λ _=>zbr default)],[],[],[],[]⟩)],
 [],
 [],[]⟩
abbrev R62:=(Sl Line)
abbrev e62 (r:R62):List PA:=[.one (.sl r.len 4 (λ i=>zbr (r.get i)))]
@[irreducible] def z62:=ptF Tryz.prog G62 zLd Tryz.f62
def zGL (zaa:(Sl Gate)) (iv0:Int) (zfB:(Sl Line)) (zhn:Nat->List PV):St:=⟨[(0,zS enc_48 3 zaa),(3,zv 65),(4,zI iv0)],[(65,.vec 42 4 32 zfB.len zhn)],[]⟩
abbrev zFe (K:List PA->Prop) (zaa:(Sl Gate)) (X:St->Prop) (P:Int->(Sl Line)->Bool) (S:Int->(Sl Line)->(Sl Line)):Prop:=∀ ⦃iv0:Int⦄ ⦃zfB:(Sl Line)⦄ ⦃zhn:Nat->List PV⦄,P iv0 zfB=true->K (e62 (S iv0 zfB))->zhn=zg zbr zfB->X (zGL zaa iv0 zfB zhn)
def zGM (zaa:(Sl Gate)) (iv1:Int) (kv1:Int) (zff:(Sl Line)) (zho:Nat->List PV):St:=⟨[(0,zS enc_48 3 zaa),(3,zv 65),(4,zI iv1),(5,zI kv1)],[(65,.vec 42 4 32 zff.len zho)],[]⟩
abbrev zLe (K:List PA->Prop) (zaa:(Sl Gate)) (X:St->Prop) (P:Int->Int->(Sl Line)->Bool) (S:Int->Int->(Sl Line)->(Sl Line)):Prop:=∀ ⦃iv1:Int⦄ ⦃kv1:Int⦄ ⦃zff:(Sl Line)⦄ ⦃zho:Nat->List PV⦄,P iv1 kv1 zff=true->K (e62 (S iv1 kv1 zff))->zho=zg zbr zff->X (zGM zaa iv1 kv1 zff zho)
def zGN (zaa:(Sl Gate)) (iv2:Int) (kv2:Int) (ev2:Int) (zdy:(Sl Line)) (zhp:Nat->List PV):St:=⟨[(0,zS enc_48 3 zaa),(3,zv 65),(4,zI iv2),(5,zI kv2),(6,zI ev2)],[(65,.vec 42 4 32 zdy.len zhp)],[]⟩
abbrev zPu (K:List PA->Prop) (zaa:(Sl Gate)) (X:St->Prop) (P:Int->Int->Int->(Sl Line)->Bool) (S:Int->Int->Int->(Sl Line)->(Sl Line)):Prop:=∀ ⦃iv2:Int⦄ ⦃kv2:Int⦄ ⦃ev2:Int⦄ ⦃zdy:(Sl Line)⦄ ⦃zhp:Nat->List PV⦄,P iv2 kv2 ev2 zdy=true->K (e62 (S iv2 kv2 ev2 zdy))->zhp=zg zbr zdy->X (zGN zaa iv2 kv2 ev2 zdy zhp)
section
variable {K:List PA->Prop}{zaa:(Sl Gate)}{iv0:Int}{zfB:(Sl Line)}{zhn:Nat->List PV}{X0:St->Prop}{P0:Int->(Sl Line)->Bool}{S0:Int->(Sl Line)->(Sl Line)}{iv1:Int}{kv1:Int}{zff:(Sl Line)}{zho:Nat->List PV}{X1:St->Prop}{P1:Int->Int->(Sl Line)->Bool}{S1:Int->Int->(Sl Line)->(Sl Line)}{iv2:Int}{kv2:Int}{ev2:Int}{zdy:(Sl Line)}{zhp:Nat->List PV}{X2:St->Prop}{P2:Int->Int->Int->(Sl Line)->Bool}{S2:Int->Int->Int->(Sl Line)->(Sl Line)}
def zhq (S0:Int->(Sl Line)->(Sl Line)) (S1:Int->Int->(Sl Line)->(Sl Line)) (zaa:(Sl Gate)) (S2:Int->Int->Int->(Sl Line)->(Sl Line)) (iv2:Int) (kv2:Int) (ev2:Int) (zdy:(Sl Line)):(Sl Line) :=
  (cond (decide (ev2 < (4:Int)))
 (cond ((zaa.get iv2.toNat).Z != (zaa.get kv2.toNat).Z)
 (S2 iv2 kv2 (w64 (ev2+(1:Int))) (⟨(zdy.len+1),(zfe zdy.len zdy.get (λ _=>(s15 ((zaa.get iv2.toNat).Z) (s81 (zaa.get iv2.toNat) (w64 (ev2.tdiv (2:Int)))) ((zaa.get kv2.toNat).Z) (s81 (zaa.get kv2.toNat) (ev2.tmod (2:Int))))))⟩:Sl Line))
 (S1 iv2 (w64 (kv2+(1:Int))) zdy))
 (S1 iv2 (w64 (kv2+(1:Int))) zdy))
def zhr (P0:Int->(Sl Line)->Bool) (P1:Int->Int->(Sl Line)->Bool) (zaa:(Sl Gate)) (P2:Int->Int->Int->(Sl Line)->Bool) (iv2:Int) (kv2:Int) (ev2:Int) (zdy:(Sl Line)):Bool :=
  (cond (decide (ev2 < (4:Int)))
 (decide ((0<=iv2/\iv2 < (zaa.len:Int))) &&
 (decide ((0<=kv2/\kv2 < (zaa.len:Int))) &&
 (cond ((zaa.get iv2.toNat).Z != (zaa.get kv2.toNat).Z)
 (decide ((0<=iv2/\iv2 < (zaa.len:Int))) &&
 (decide ((0<=iv2/\iv2 < (zaa.len:Int))) &&
 (decide (((2:Int) ≠ 0)) &&
 (decide ((0<=kv2/\kv2 < (zaa.len:Int))) &&
 (decide ((0<=kv2/\kv2 < (zaa.len:Int))) &&
 (decide (((2:Int) ≠ 0)) &&
 (decide ((p15 ((zaa.get iv2.toNat).Z) (s81 (zaa.get iv2.toNat) (w64 (ev2.tdiv (2:Int)))) ((zaa.get kv2.toNat).Z) (s81 (zaa.get kv2.toNat) (ev2.tmod (2:Int)))=true)) &&
 (decide (((zdy.len+1) * 32<=140737488355328/\zdy.len+1<=9223372036854775807)) &&
 (P2 iv2 kv2 (w64 (ev2+(1:Int))) (⟨(zdy.len+1),(zfe zdy.len zdy.get (λ _=>(s15 ((zaa.get iv2.toNat).Z) (s81 (zaa.get iv2.toNat) (w64 (ev2.tdiv (2:Int)))) ((zaa.get kv2.toNat).Z) (s81 (zaa.get kv2.toNat) (ev2.tmod (2:Int))))))⟩:Sl Line))))))))))
 (P1 iv2 (w64 (kv2+(1:Int))) zdy))))
 (P1 iv2 (w64 (kv2+(1:Int))) zdy))
def zeB (S0:Int->(Sl Line)->(Sl Line)) (S1:Int->Int->(Sl Line)->(Sl Line)) (zaa:(Sl Gate)):Nat->Int->Int->Int->(Sl Line)->(Sl Line):=lpO (λ _ _ _ _=>default) (zhq S0 S1 zaa)
def zeC (P0:Int->(Sl Line)->Bool) (P1:Int->Int->(Sl Line)->Bool) (zaa:(Sl Gate)):Nat->Int->Int->Int->(Sl Line)->Bool:=lpO (λ _ _ _ _=>false) (zhr P0 P1 zaa)
def ztF (S0:Int->(Sl Line)->(Sl Line)) (S1:Int->Int->(Sl Line)->(Sl Line)) (zaa:(Sl Gate)) (iv2:Int) (kv2:Int) (ev2:Int) (zdy:(Sl Line)):(Sl Line):=zeB S0 S1 zaa Fuel iv2 kv2 ev2 zdy
def ztG (P0:Int->(Sl Line)->Bool) (P1:Int->Int->(Sl Line)->Bool) (zaa:(Sl Gate)) (iv2:Int) (kv2:Int) (ev2:Int) (zdy:(Sl Line)):Bool:=zeC P0 P1 zaa Fuel iv2 kv2 ev2 zdy
theorem zLf (hX0:zFe K zaa X0 P0 S0) (hX1:zLe K zaa X1 P1 S1) (hs:ztG P0 P1 zaa iv2 kv2 ev2 zdy=true) (hk:K (e62 (ztF S0 S1 zaa iv2 kv2 ev2 zdy))) (ztH:zhp=zg zbr zdy):z62 K [1,1,0,1,0,0,1,0,0,1,0,0,1,0,0,1,0] [X0,X1] (zGN zaa iv2 kv2 ev2 zdy zhp) :=
  zl (λ X=>z62 K [1,1,0,1,0,0,1,0,0,1,0,0,1,0,0,1,0,0] [X0,X1,X]) (by kernel_rfl) λ X2 hX =>
  (show ∀ k, zPu K zaa X2 (zeC P0 P1 zaa k) (zeB S0 S1 zaa k) from zfo _ _ (zhr P0 P1 zaa) (zhq S0 S1 zaa) (zPu K zaa X2)
 (by intro _ _ _ _ _ hs;exact absurd hs dqk)
 (by intro P2 S2 hX2 iv2 kv2 ev2 zdy zhp hs hk ztH;subst ztH;exact hX _ (zaM (by kernel_rfl) (zc hs hk (λ hs hk=>(zaI hs λ hc hs=>And.intro hc (zaI hs λ hc hs=>And.intro hc (zc hs hk (λ hs hk=>(zaI hs λ hc hs=>And.intro hc (zaI hs λ hc hs=>And.intro hc (zaI hs λ hc hs=>And.intro hc (zaI hs λ hc hs=>And.intro hc (zaI hs λ hc hs=>And.intro hc (zaI hs λ hc hs=>And.intro hc (zaI hs λ hc hs=>And.intro hc (zaI hs λ hc hs=>And.intro hc (hX2 hs hk (zfm (enc:=zbr) (f:=zdy.get) (h:=(λ _=>(s15 ((zaa.get iv2.toNat).Z) (s81 (zaa.get iv2.toNat) (w64 (ev2.tdiv (2:Int)))) ((zaa.get kv2.toNat).Z) (s81 (zaa.get kv2.toNat) (ev2.tmod (2:Int)))))) rfl rfl))))))))))) (λ hs hk=>(hX1 hs hk rfl)))))) (λ hs hk=>(hX1 hs hk rfl)))))) _ hs hk ztH
def zj1 (S0:Int->(Sl Line)->(Sl Line)) (zaa:(Sl Gate)) (S1:Int->Int->(Sl Line)->(Sl Line)) (iv1:Int) (kv1:Int) (zff:(Sl Line)):(Sl Line) :=
  (cond (decide (kv1 < (zaa.len : Int)))
 (ztF S0 S1 zaa iv1 kv1 (0:Int) zff)
 (S0 (w64 (iv1+(1:Int))) zff))
def zj2 (P0:Int->(Sl Line)->Bool) (zaa:(Sl Gate)) (P1:Int->Int->(Sl Line)->Bool) (iv1:Int) (kv1:Int) (zff:(Sl Line)):Bool :=
  (cond (decide (kv1 < (zaa.len : Int)))
 (ztG P0 P1 zaa iv1 kv1 (0:Int) zff)
 (P0 (w64 (iv1+(1:Int))) zff))
def ziB (S0:Int->(Sl Line)->(Sl Line)) (zaa:(Sl Gate)):Nat->Int->Int->(Sl Line)->(Sl Line):=lpO (λ _ _ _=>default) (zj1 S0 zaa)
def ziC (P0:Int->(Sl Line)->Bool) (zaa:(Sl Gate)):Nat->Int->Int->(Sl Line)->Bool:=lpO (λ _ _ _=>false) (zj2 P0 zaa)
def ztI (S0:Int->(Sl Line)->(Sl Line)) (zaa:(Sl Gate)) (iv1:Int) (kv1:Int) (zff:(Sl Line)):(Sl Line):=ziB S0 zaa Fuel iv1 kv1 zff
def ztJ (P0:Int->(Sl Line)->Bool) (zaa:(Sl Gate)) (iv1:Int) (kv1:Int) (zff:(Sl Line)):Bool:=ziC P0 zaa Fuel iv1 kv1 zff
theorem zLg (hX0:zFe K zaa X0 P0 S0) (hs:ztJ P0 zaa iv1 kv1 zff=true) (hk:K (e62 (ztI S0 zaa iv1 kv1 zff))) (ztK:zho=zg zbr zff):z62 K [1,1,0,1,0,0,1,0,0,1,0] [X0] (zGM zaa iv1 kv1 zff zho) :=
  zl (λ X=>z62 K [1,1,0,1,0,0,1,0,0,1,0,0] [X0,X]) (by kernel_rfl) λ X1 hX =>
  (show ∀ k, zLe K zaa X1 (ziC P0 zaa k) (ziB S0 zaa k) from zfo _ _ (zj2 P0 zaa) (zj1 S0 zaa) (zLe K zaa X1)
 (by intro _ _ _ _ hs;exact absurd hs dqk)
 (by intro P1 S1 hX1 iv1 kv1 zff zho hs hk ztK;subst ztK;exact hX _ (zaM (by kernel_rfl) (zc hs hk (λ hs hk=>(zLf hX0 hX1 hs hk rfl)) (λ hs hk=>(hX0 hs hk rfl)))))) _ hs hk ztK
def zj3 (zaa:(Sl Gate)) (S0:Int->(Sl Line)->(Sl Line)) (iv0:Int) (zfB:(Sl Line)):(Sl Line) :=
  (cond (decide (iv0 < (zaa.len : Int)))
 (ztI S0 zaa iv0 (w64 (iv0+(1:Int))) zfB)
 zfB)
def zj4 (zaa:(Sl Gate)) (P0:Int->(Sl Line)->Bool) (iv0:Int) (zfB:(Sl Line)):Bool :=
  (cond (decide (iv0 < (zaa.len : Int)))
 (ztJ P0 zaa iv0 (w64 (iv0+(1:Int))) zfB)
 true)
def zj5 (zaa:(Sl Gate)):Nat->Int->(Sl Line)->(Sl Line):=lpO (λ _ _=>default) (zj3 zaa)
def zj6 (zaa:(Sl Gate)):Nat->Int->(Sl Line)->Bool:=lpO (λ _ _=>false) (zj4 zaa)
def zCP (zaa:(Sl Gate)) (iv0:Int) (zfB:(Sl Line)):(Sl Line):=zj5 zaa Fuel iv0 zfB
def zCQ (zaa:(Sl Gate)) (iv0:Int) (zfB:(Sl Line)):Bool:=zj6 zaa Fuel iv0 zfB
theorem zLh (hs:zCQ zaa iv0 zfB=true) (hk:K (e62 (zCP zaa iv0 zfB))) (ztL:zhn=zg zbr zfB):z62 K [1,1,0,1,0] [] (zGL zaa iv0 zfB zhn) :=
  zl (λ X=>z62 K [1,1,0,1,0,0] [X]) (by kernel_rfl) λ X0 hX =>
  (show ∀ k, zFe K zaa X0 (zj6 zaa k) (zj5 zaa k) from zfo _ _ (zj4 zaa) (zj3 zaa) (zFe K zaa X0)
 (by intro _ _ _ hs;exact absurd hs dqk)
 (by intro P0 S0 hX0 iv0 zfB zhn hs hk ztL;subst ztL;exact hX _ (zaM (by kernel_rfl) (zc hs hk (λ hs hk=>(zLg hX0 hs hk rfl)) (λ hs hk=>hk))))) _ hs hk ztL
def s62 (zaa:(Sl Gate)):(Sl Line) :=
  (zCP zaa (0:Int) (⟨0,(λ _=>default)⟩:Sl Line))
def p62 (zaa:(Sl Gate)):Bool :=
  (zCQ zaa (0:Int) (⟨0,(λ _=>default)⟩:Sl Line))
end
theorem q62 (zaa:(Sl Gate)) (K:List PA->Prop) (hs:p62 zaa=true) (hk:K (e62 (s62 zaa))):vcFun Tryz.prog G62 zLd 62 [.one (.sl zaa.len 3 (λ i=>enc_48 (zaa.get i)))] K :=
  zaM (by kernel_rfl) (zLh hs hk rfl)
def zLi : List PA → COut
  | [.one (.sl zaK zbW zaL)]=>.det (IsE enc_48 3 zbW zaL/\p62 (⟨zaK,zaf zaL⟩:(Sl Gate))=true) [.one (.sl ((s62 (⟨zaK,zaf zaL⟩:(Sl Gate))).len) 4 (λ i=>zbr ((s62 (⟨zaK,zaf zaL⟩:(Sl Gate))).get i)))]
  | _=>.no
theorem zPv:zah Tryz.prog 62:=⟨_,rfl,rfl,by kernel_rfl⟩
theorem zT5:Ok Tryz.prog 62 zLi:=zaV zSc zPv λ args K h=>by
  unfold zLi at h
  split at h
  · rename_i zaK zbW zaL
    obtain⟨⟨⟨rfl,zbn,rfl⟩,hs⟩,hk⟩:=h
    try rw[zae zbn] at hs
    try rw[zae zbn] at hk
    exact⟨(λ _ _=>[]),(λ _=>false),zLd,q62 (⟨zaK,zbn⟩:(Sl Gate)) K hs hk⟩
  · exact h.elim
abbrev T36:Tabs:=((((Tabs.nil.addF 14 zK6).addF 26 zB2).addF 61 zK9).addF 62 zLi)
theorem zSd:TabsOk Tryz.prog T36:=((((TabsOk.nil.addF zT1).addF zRG).addF zT2).addF zT5)
abbrev G36:Ctrs:=csm T36 (λ _ _=>[]) (λ _=>false)
def zLj:Ann:=⟨47,[(0,zK [0] []),(1,zK [0,3] []),(2,zK [0,3,8] []),(3,zK [0,3,4] []),(4,zK [0,3,4,12] [27]),(5,zK [0,3,4] [27]),(6,zK [0,3,4] [27]),(7,zK [2] [27]),(8,zK [0,3,5] []),(9,zK [0,3,5,6] []),(10,zK [0,3,5,6,34] [45]),(11,zK [0,3,5,6] [45]),(12,zK [0,3,5,6] [45]),(13,zK [2] [45])],
 [(4,⟨[0,3,4],[27],[(3,27,24,λ _=>zar default)],[],[],[],[]⟩),(10,⟨[0,3,5,6],[45],[(3,45,24,λ _=>zar default)],[],[],[],[]⟩)],
 [(3,zK [0,3,8] []),(8,zK [0,3] []),(9,zK [0,3,5] [])],
 [],[]⟩
abbrev R36:=(Sl (Sl Int))
abbrev e36 (r:R36):List PA:=[.one (.sl r.len 1 (λ i=>zar (r.get i)))]
@[irreducible] def z36:=ptF Tryz.prog G36 zLj Tryz.f36
def zGO (zaa:(Sl Gate)) (iv1:Int) (zd3:(Sl (Sl Int))) (zhs:Nat->List PV):St:=⟨[(0,zS enc_48 3 zaa),(3,zv 27),(4,zI iv1)],[(27,.vec 24 1 24 zd3.len zhs)],[]⟩
abbrev zPw (K:List PA->Prop) (zaa:(Sl Gate)) (X:St->Prop) (P:Int->(Sl (Sl Int))->Bool) (S:Int->(Sl (Sl Int))->(Sl (Sl Int))):Prop:=∀ ⦃iv1:Int⦄ ⦃zd3:(Sl (Sl Int))⦄ ⦃zhs:Nat->List PV⦄,P iv1 zd3=true->K (e36 (S iv1 zd3))->zhs=zg zar zd3->X (zGO zaa iv1 zd3 zhs)
def zGP (zaa:(Sl Gate)) (lv3:(Sl Line)) (iv4:Int) (zd4:(Sl (Sl Int))) (zht:Nat->List PV):St:=⟨[(0,zS enc_48 3 zaa),(3,zv 45),(5,zS zbr 4 lv3),(6,zI iv4)],[(45,.vec 24 1 24 zd4.len zht)],[]⟩
abbrev zPx (K:List PA->Prop) (zaa:(Sl Gate)) (lv3:(Sl Line)) (X:St->Prop) (P:Int->(Sl (Sl Int))->Bool) (S:Int->(Sl (Sl Int))->(Sl (Sl Int))):Prop:=∀ ⦃iv4:Int⦄ ⦃zd4:(Sl (Sl Int))⦄ ⦃zht:Nat->List PV⦄,P iv4 zd4=true->K (e36 (S iv4 zd4))->zht=zg zar zd4->X (zGP zaa lv3 iv4 zd4 zht)
section
variable {K:List PA->Prop}{zaa:(Sl Gate)}{zcF:Bool}{iv1:Int}{zd3:(Sl (Sl Int))}{zhs:Nat->List PV}{X1:St->Prop}{P1:Int->(Sl (Sl Int))->Bool}{S1:Int->(Sl (Sl Int))->(Sl (Sl Int))}{lv3:(Sl Line)}{zPy:Nat->List PV}{iv4:Int}{zd4:(Sl (Sl Int))}{zht:Nat->List PV}{X4:St->Prop}{P4:Int->(Sl (Sl Int))->Bool}{S4:Int->(Sl (Sl Int))->(Sl (Sl Int))}
def zj7 (zaa:(Sl Gate)) (lv3:(Sl Line)) (S4:Int->(Sl (Sl Int))->(Sl (Sl Int))) (iv4:Int) (zd4:(Sl (Sl Int))):(Sl (Sl Int)) :=
  (cond (decide (iv4 < (lv3.len : Int)))
 (S4 (w64 (iv4+(1:Int))) (⟨(zd4.len+1),(zfe zd4.len zd4.get (λ _=>(s14 (lv3.get iv4.toNat) zaa)))⟩:Sl (Sl Int)))
 zd4)
def zj8 (zaa:(Sl Gate)) (lv3:(Sl Line)) (P4:Int->(Sl (Sl Int))->Bool) (iv4:Int) (zd4:(Sl (Sl Int))):Bool :=
  (cond (decide (iv4 < (lv3.len : Int)))
 (decide ((0<=iv4/\iv4 < (lv3.len:Int))) &&
 (decide ((p14 (lv3.get iv4.toNat) zaa=true)) &&
 (decide (((zd4.len+1) * 24<=140737488355328/\zd4.len+1<=9223372036854775807)) &&
 (P4 (w64 (iv4+(1:Int))) (⟨(zd4.len+1),(zfe zd4.len zd4.get (λ _=>(s14 (lv3.get iv4.toNat) zaa)))⟩:Sl (Sl Int))))))
 true)
def ziD (zaa:(Sl Gate)) (lv3:(Sl Line)):Nat->Int->(Sl (Sl Int))->(Sl (Sl Int)):=lpO (λ _ _=>default) (zj7 zaa lv3)
def ziE (zaa:(Sl Gate)) (lv3:(Sl Line)):Nat->Int->(Sl (Sl Int))->Bool:=lpO (λ _ _=>false) (zj8 zaa lv3)
def zCR (zaa:(Sl Gate)) (lv3:(Sl Line)) (iv4:Int) (zd4:(Sl (Sl Int))):(Sl (Sl Int)):=ziD zaa lv3 Fuel iv4 zd4
def zCS (zaa:(Sl Gate)) (lv3:(Sl Line)) (iv4:Int) (zd4:(Sl (Sl Int))):Bool:=ziE zaa lv3 Fuel iv4 zd4
theorem zLk (hs:zCS zaa lv3 iv4 zd4=true) (hk:K (e36 (zCR zaa lv3 iv4 zd4))) (ztM:zht=zg zar zd4):z36 K [1,1,1,1,0,1,0] [] (zGP zaa lv3 iv4 zd4 zht) :=
  zl (λ X=>z36 K [1,1,1,1,0,1,0,0] [X]) (by kernel_rfl) λ X4 hX =>
  (show ∀ k, zPx K zaa lv3 X4 (ziE zaa lv3 k) (ziD zaa lv3 k) from zfo _ _ (zj8 zaa lv3) (zj7 zaa lv3) (zPx K zaa lv3 X4)
 (by intro _ _ _ hs;exact absurd hs dqk)
 (by intro P4 S4 hX4 iv4 zd4 zht hs hk ztM;subst ztM;exact hX _ (zaM (by kernel_rfl) (zc hs hk (λ hs hk=>(zaI hs λ hc hs=>And.intro hc (zaI hs λ hc hs=>And.intro (And.intro (zE enc_48 3 zaa.get) hc) (zaI hs λ hc hs=>And.intro hc (hX4 hs hk (zfm (enc:=zar) (f:=zd4.get) (h:=(λ _=>(s14 (lv3.get iv4.toNat) zaa))) rfl rfl)))))) (λ hs hk=>hk))))) _ hs hk ztM
def zCT (zaa:(Sl Gate)) (lv3:(Sl Line)):(Sl (Sl Int)) :=
  (zCR zaa lv3 (0:Int) (⟨0,(λ _=>default)⟩:Sl (Sl Int)))
def zCU (zaa:(Sl Gate)) (lv3:(Sl Line)):Bool :=
  (zCS zaa lv3 (0:Int) (⟨0,(λ _=>default)⟩:Sl (Sl Int)))
theorem zLl (hs:zCU zaa lv3=true) (hk:K (e36 (zCT zaa lv3))) (zSe:zPy=zg zbr lv3):z36 K [1,1,1,1] [] ⟨[(0,zS enc_48 3 zaa),(3,zP (.nils)),(5,zP (.sl lv3.len 4 zPy))],[],[]⟩:=by subst zSe;exact zaM (by kernel_rfl) (zLk hs hk rfl)
def ztN (zaa:(Sl Gate)):(Sl (Sl Int)) :=
  (zCT zaa (s62 zaa))
def ztO (zaa:(Sl Gate)):Bool :=
  (decide ((p62 zaa=true)) &&
 (zCU zaa (s62 zaa)))
theorem zLm (hs:ztO zaa=true) (hk:K (e36 (ztN zaa))):z36 K [1,1,1] [] ⟨[(0,zS enc_48 3 zaa),(3,zP (.nils))],[],[]⟩:=zaM (by kernel_rfl) (zaI hs λ hc hs=>And.intro (And.intro (zE enc_48 3 zaa.get) hc) (zLl hs hk rfl))
def zj9 (zaa:(Sl Gate)) (S1:Int->(Sl (Sl Int))->(Sl (Sl Int))) (iv1:Int) (zd3:(Sl (Sl Int))):(Sl (Sl Int)) :=
  (cond (decide (iv1 < (zaa.len : Int)))
 (S1 (w64 (iv1+(1:Int))) (⟨(zd3.len+1),(zfe zd3.len zd3.get (λ _=>(s14 (⟨(s26 (0:Int) (1:Int)),(s26 ((zaa.get iv1.toNat).Low) (1:Int))⟩:Line) zaa)))⟩:Sl (Sl Int)))
 zd3)
def zka (zaa:(Sl Gate)) (P1:Int->(Sl (Sl Int))->Bool) (iv1:Int) (zd3:(Sl (Sl Int))):Bool :=
  (cond (decide (iv1 < (zaa.len : Int)))
 (decide ((p26 (0:Int) (1:Int)=true)) &&
 (decide ((0<=iv1/\iv1 < (zaa.len:Int))) &&
 (decide ((p26 ((zaa.get iv1.toNat).Low) (1:Int)=true)) &&
 (decide ((p14 (⟨(s26 (0:Int) (1:Int)),(s26 ((zaa.get iv1.toNat).Low) (1:Int))⟩:Line) zaa=true)) &&
 (decide (((zd3.len+1) * 24<=140737488355328/\zd3.len+1<=9223372036854775807)) &&
 (P1 (w64 (iv1+(1:Int))) (⟨(zd3.len+1),(zfe zd3.len zd3.get (λ _=>(s14 (⟨(s26 (0:Int) (1:Int)),(s26 ((zaa.get iv1.toNat).Low) (1:Int))⟩:Line) zaa)))⟩:Sl (Sl Int))))))))
 true)
def ziF (zaa:(Sl Gate)):Nat->Int->(Sl (Sl Int))->(Sl (Sl Int)):=lpO (λ _ _=>default) (zj9 zaa)
def ziG (zaa:(Sl Gate)):Nat->Int->(Sl (Sl Int))->Bool:=lpO (λ _ _=>false) (zka zaa)
def zCV (zaa:(Sl Gate)) (iv1:Int) (zd3:(Sl (Sl Int))):(Sl (Sl Int)):=ziF zaa Fuel iv1 zd3
def zCW (zaa:(Sl Gate)) (iv1:Int) (zd3:(Sl (Sl Int))):Bool:=ziG zaa Fuel iv1 zd3
theorem zLn (hs:zCW zaa iv1 zd3=true) (hk:K (e36 (zCV zaa iv1 zd3))) (ztP:zhs=zg zar zd3):z36 K [1,1,0,1,0,0,1,0] [] (zGO zaa iv1 zd3 zhs) :=
  zl (λ X=>z36 K [1,1,0,1,0,0,1,0,0] [X]) (by kernel_rfl) λ X1 hX =>
  (show ∀ k, zPw K zaa X1 (ziG zaa k) (ziF zaa k) from zfo _ _ (zka zaa) (zj9 zaa) (zPw K zaa X1)
 (by intro _ _ _ hs;exact absurd hs dqk)
 (by intro P1 S1 hX1 iv1 zd3 zhs hs hk ztP;subst ztP;exact hX _ (zaM (by kernel_rfl) (zc hs hk (λ hs hk=>(zaI hs λ hc hs=>And.intro hc (zaI hs λ hc hs=>And.intro hc (zaI hs λ hc hs=>And.intro hc (zaI hs λ hc hs=>And.intro (And.intro (zE enc_48 3 zaa.get) hc) (zaI hs λ hc hs=>And.intro hc (hX1 hs hk (zfm (enc:=zar) (f:=zd3.get) (h:=(λ _=>(s14 (⟨(s26 (0:Int) (1:Int)),(s26 ((zaa.get iv1.toNat).Low) (1:Int))⟩:Line) zaa))) rfl rfl)))))))) (λ hs hk=>hk))))) _ hs hk ztP
def ztQ (zaa:(Sl Gate)) (zcF:Bool):(Sl (Sl Int)) :=
  (cond zcF
 (zCV zaa (0:Int) (⟨0,(λ _=>default)⟩:Sl (Sl Int)))
 (ztN zaa))
def ztR (zaa:(Sl Gate)) (zcF:Bool):Bool :=
  (cond zcF
 (zCW zaa (0:Int) (⟨0,(λ _=>default)⟩:Sl (Sl Int)))
 (ztO zaa))
theorem zLo (hs:ztR zaa zcF=true) (hk:K (e36 (ztQ zaa zcF))):z36 K [1,1,0,1] [] ⟨[(0,zS enc_48 3 zaa),(3,zP (.nils)),(8,zB zcF)],[],[]⟩:=zaM (by kernel_rfl) (zc hs hk (λ hs hk=>(zLn hs hk rfl)) (λ hs hk=>(zLm hs hk)))
def s36 (zaa:(Sl Gate)):(Sl (Sl Int)) :=
  (ztQ zaa (s61 zaa))
def p36 (zaa:(Sl Gate)):Bool :=
  (decide ((p61 zaa=true)) &&
 (ztR zaa (s61 zaa)))
end
theorem q36 (zaa:(Sl Gate)) (K:List PA->Prop) (hs:p36 zaa=true) (hk:K (e36 (s36 zaa))):vcFun Tryz.prog G36 zLj 36 [.one (.sl zaa.len 3 (λ i=>enc_48 (zaa.get i)))] K :=
  zaM (by kernel_rfl) (zaI hs λ hc hs=>And.intro (And.intro (zE enc_48 3 zaa.get) hc) (zLo hs hk))
def zFf : List PA → COut
  | [.one (.sl zaK zbW zaL)]=>.det (IsE enc_48 3 zbW zaL/\p36 (⟨zaK,zaf zaL⟩:(Sl Gate))=true) [.one (.sl ((s36 (⟨zaK,zaf zaL⟩:(Sl Gate))).len) 1 (λ i=>zar ((s36 (⟨zaK,zaf zaL⟩:(Sl Gate))).get i)))]
  | _=>.no
theorem zPz:zah Tryz.prog 36:=⟨_,rfl,rfl,by kernel_rfl⟩
theorem zST:Ok Tryz.prog 36 zFf:=zaV zSd zPz λ args K h=>by
  unfold zFf at h
  split at h
  · rename_i zaK zbW zaL
    obtain⟨⟨⟨rfl,zbn,rfl⟩,hs⟩,hk⟩:=h
    try rw[zae zbn] at hs
    try rw[zae zbn] at hk
    exact⟨(λ _ _=>[]),(λ _=>false),zLj,q36 (⟨zaK,zbn⟩:(Sl Gate)) K hs hk⟩
  · exact h.elim
abbrev T10:Tabs:=((Tabs.nil.addF 9 zHT).addF 36 zFf)
theorem zSf:TabsOk Tryz.prog T10:=((TabsOk.nil.addF ok9).addF zST)
abbrev G10:Ctrs:=csm T10 (λ _ _=>[]) (λ _=>false)
def zLp:Ann:=⟨49,[(0,zK [0] []),(1,zK [3] []),(2,zK [3,4] []),(3,zK [3,4,5] []),(4,zK [3,4,5,14] []),(5,zK [3,4,5] []),(6,zK [3,4,5,43] []),(7,zK [3,4,5] []),(8,zK [2] [])],
 [(4,zK [3,4,5] [])],
 [(2,zK [3] []),(7,zK [3,4,5,43] [])],
 [],[]⟩
abbrev R10:=(Sl Int)
abbrev e10 (r:R10):List PA:=[.one (.sl r.len 1 (λ i=>zam (r.get i)))]
@[irreducible] def z10:=ptF Tryz.prog G10 zLp Tryz.f10
def zGQ (lv0:(Sl (Sl Int))) (zcg:(Sl Int)) (iv1:Int) (zfs:Nat->List PV):St:=⟨[(3,zS zar 1 lv0),(4,zP (.sl zcg.len 1 zfs)),(5,zI iv1)],[],[]⟩
abbrev zLq (K:List PA->Prop) (lv0:(Sl (Sl Int))) (X:St->Prop) (P:(Sl Int)->Int->Bool) (S:(Sl Int)->Int->(Sl Int)):Prop:=∀ ⦃zcg:(Sl Int)⦄ ⦃iv1:Int⦄ ⦃zfs:Nat->List PV⦄,P zcg iv1=true->K (e10 (S zcg iv1))->zfs=zg zam zcg->X (zGQ lv0 zcg iv1 zfs)
section
variable {K:List PA->Prop}{zaa:(Sl Gate)}{lv0:(Sl (Sl Int))}{zCX:Nat->List PV}{zcg:(Sl Int)}{iv1:Int}{zfs:Nat->List PV}{X1:St->Prop}{P1:(Sl Int)->Int->Bool}{S1:(Sl Int)->Int->(Sl Int)}{zkN:(Sl Int)}{iv2:Int}{ztS:Bool}{zvA:Nat->List PV}
def zm6 (S1:(Sl Int)->Int->(Sl Int)) (lv0:(Sl (Sl Int))) (zkN:(Sl Int)) (iv2:Int) (ztS:Bool):(Sl Int) :=
  (cond ztS
 (S1 (lv0.get iv2.toNat) (w64 (iv2+(1:Int))))
 (S1 zkN (w64 (iv2+(1:Int)))))
def zm7 (P1:(Sl Int)->Int->Bool) (lv0:(Sl (Sl Int))) (zkN:(Sl Int)) (iv2:Int) (ztS:Bool):Bool :=
  (cond ztS
 (decide ((0<=iv2/\iv2 < (lv0.len:Int))) &&
 (P1 (lv0.get iv2.toNat) (w64 (iv2+(1:Int)))))
 (P1 zkN (w64 (iv2+(1:Int)))))
theorem ztT (hX1:zLq K lv0 X1 P1 S1) (hs:zm7 P1 lv0 zkN iv2 ztS=true) (hk:K (e10 (zm6 S1 lv0 zkN iv2 ztS))) (zFg:zvA=zg zam zkN):z10 K [1,1,1,0,1,0,0,1,0,0,1] [X1] ⟨[(3,zS zar 1 lv0),(4,zP (.sl zkN.len 1 zvA)),(5,zI iv2),(43,zB ztS)],[],[]⟩:=by subst zFg;exact zaM (by kernel_rfl) (zc hs hk (λ hs hk=>(zaI hs λ hc hs=>And.intro hc (hX1 hs hk rfl))) (λ hs hk=>(hX1 hs hk rfl)))
def zkb (lv0:(Sl (Sl Int))) (S1:(Sl Int)->Int->(Sl Int)) (zcg:(Sl Int)) (iv1:Int):(Sl Int) :=
  (cond (decide (iv1 < (lv0.len : Int)))
 (cond (decide (((lv0.get iv1.toNat).len : Int) > (zcg.len : Int)))
 (zm6 S1 lv0 zcg iv1 true)
 (cond (((lv0.get iv1.toNat).len : Int) == (zcg.len : Int))
 (zm6 S1 lv0 zcg iv1 (decide ((s9 (lv0.get iv1.toNat) zcg) < (0:Int))))
 (zm6 S1 lv0 zcg iv1 false)))
 zcg)
def zkc (lv0:(Sl (Sl Int))) (P1:(Sl Int)->Int->Bool) (zcg:(Sl Int)) (iv1:Int):Bool :=
  (cond (decide (iv1 < (lv0.len : Int)))
 (decide ((0<=iv1/\iv1 < (lv0.len:Int))) &&
 (cond (decide (((lv0.get iv1.toNat).len : Int) > (zcg.len : Int)))
 (zm7 P1 lv0 zcg iv1 true)
 (decide ((0<=iv1/\iv1 < (lv0.len:Int))) &&
 (cond (((lv0.get iv1.toNat).len : Int) == (zcg.len : Int))
 (decide ((0<=iv1/\iv1 < (lv0.len:Int))) &&
 (decide ((p9 (lv0.get iv1.toNat) zcg=true)) &&
 (zm7 P1 lv0 zcg iv1 (decide ((s9 (lv0.get iv1.toNat) zcg) < (0:Int))))))
 (zm7 P1 lv0 zcg iv1 false)))))
 true)
def zhu (lv0:(Sl (Sl Int))):Nat->(Sl Int)->Int->(Sl Int):=lpO (λ _ _=>default) (zkb lv0)
def zhv (lv0:(Sl (Sl Int))):Nat->(Sl Int)->Int->Bool:=lpO (λ _ _=>false) (zkc lv0)
def zCY (lv0:(Sl (Sl Int))) (zcg:(Sl Int)) (iv1:Int):(Sl Int):=zhu lv0 Fuel zcg iv1
def zCZ (lv0:(Sl (Sl Int))) (zcg:(Sl Int)) (iv1:Int):Bool:=zhv lv0 Fuel zcg iv1
theorem zLr (hs:zCZ lv0 zcg iv1=true) (hk:K (e10 (zCY lv0 zcg iv1))) (zpx:zfs=zg zam zcg):z10 K [1,1,1,0,1,0] [] (zGQ lv0 zcg iv1 zfs) :=
  zl (λ X=>z10 K [1,1,1,0,1,0,0] [X]) (by kernel_rfl) λ X1 hX =>
  (show ∀ k, zLq K lv0 X1 (zhv lv0 k) (zhu lv0 k) from zfo _ _ (zkc lv0) (zkb lv0) (zLq K lv0 X1)
 (by intro _ _ _ hs;exact absurd hs dqk)
 (by intro P1 S1 hX1 zcg iv1 zfs hs hk zpx;subst zpx;exact hX _ (zaM (by kernel_rfl) (zc hs hk (λ hs hk=>(zaI hs λ hc hs=>And.intro hc (zc hs hk (λ hs hk=>(ztT hX1 hs hk rfl)) (λ hs hk=>(zaI hs λ hc hs=>And.intro hc (zc hs hk (λ hs hk=>(zaI hs λ hc hs=>And.intro hc (zaI hs λ hc hs=>And.intro (And.intro (zE zam 1 ((lv0.get iv1.toNat).get)) (And.intro (zE zam 1 zcg.get) hc)) (ztT hX1 hs hk rfl)))) (λ hs hk=>(ztT hX1 hs hk rfl)))))))) (λ hs hk=>hk))))) _ hs hk zpx
def zm8 (lv0:(Sl (Sl Int))):(Sl Int) :=
  (zCY lv0 (lv0.get 0) (1:Int))
def zm9 (lv0:(Sl (Sl Int))):Bool :=
  (decide ((0<=(0:Int)/\(0:Int) < (lv0.len:Int))) &&
 (zCZ lv0 (lv0.get 0) (1:Int)))
theorem zLs (hs:zm9 lv0=true) (hk:K (e10 (zm8 lv0))) (zLt:zCX=zg zar lv0):z10 K [1,1] [] ⟨[(3,zP (.sl lv0.len 1 zCX))],[],[]⟩:=by subst zLt;exact zaM (by kernel_rfl) (zaI hs λ hc hs=>And.intro hc (zLr hs hk rfl))
def s10 (zaa:(Sl Gate)):(Sl Int) :=
  (zm8 (s36 zaa))
def p10 (zaa:(Sl Gate)):Bool :=
  (decide ((p36 zaa=true)) &&
 (zm9 (s36 zaa)))
end
theorem q10 (zaa:(Sl Gate)) (K:List PA->Prop) (hs:p10 zaa=true) (hk:K (e10 (s10 zaa))):vcFun Tryz.prog G10 zLp 10 [.one (.sl zaa.len 3 (λ i=>enc_48 (zaa.get i)))] K :=
  zaM (by kernel_rfl) (zaI hs λ hc hs=>And.intro (And.intro (zE enc_48 3 zaa.get) hc) (zLs hs hk rfl))
def zLu : List PA → COut
  | [.one (.sl zaK zbW zaL)]=>.det (IsE enc_48 3 zbW zaL/\p10 (⟨zaK,zaf zaL⟩:(Sl Gate))=true) [.one (.sl ((s10 (⟨zaK,zaf zaL⟩:(Sl Gate))).len) 1 (λ i=>zam ((s10 (⟨zaK,zaf zaL⟩:(Sl Gate))).get i)))]
  | _=>.no
theorem call10:zah Tryz.prog 10:=⟨_,rfl,rfl,by kernel_rfl⟩
theorem zT6:Ok Tryz.prog 10 zLu:=zaV zSf call10 λ args K h=>by
  unfold zLu at h
  split at h
  · rename_i zaK zbW zaL
    obtain⟨⟨⟨rfl,zbn,rfl⟩,hs⟩,hk⟩:=h
    try rw[zae zbn] at hs
    try rw[zae zbn] at hk
    exact⟨(λ _ _=>[]),(λ _=>false),zLp,q10 (⟨zaK,zbn⟩:(Sl Gate)) K hs hk⟩
  · exact h.elim
abbrev T11:Tabs:=(Tabs.nil.addF 9 zHT)
theorem zSg:TabsOk Tryz.prog T11:=(TabsOk.nil.addF ok9)
abbrev G11:Ctrs:=csm T11 (λ _ _=>[]) (λ _=>false)
def zLv:Ann:=⟨27,[(0,zK [0,1] []),(1,zK [0,1,10] []),(2,zK [4] []),(3,zK [0,1,5] []),(4,zK [0,1,5,14] []),(5,zK [0,1,5] []),(6,zK [0,1,5,26] []),(7,zK [4] []),(8,zK [4] [])],
 [(4,zK [0,1,5] [])],
 [(3,zK [0,1] []),(7,zK [0,1,5,26] [])],
 [],[]⟩
abbrev R11:=Bool
abbrev e11 (r:R11):List PA:=[.one (.bool r)]
@[irreducible] def z11:=ptF Tryz.prog G11 zLv Tryz.f11
def zGR (a:(Sl (Sl Int))) (b:(Sl (Sl Int))) (iv1:Int):St:=⟨[(0,zS zar 1 a),(1,zS zar 1 b),(5,zI iv1)],[],[]⟩
abbrev zLw (K:List PA->Prop) (a:(Sl (Sl Int))) (b:(Sl (Sl Int))) (X:St->Prop) (P:Int->Bool) (S:Int->Bool):Prop:=∀ ⦃iv1:Int⦄,P iv1=true->K (e11 (S iv1))->X (zGR a b iv1)
section
variable {K:List PA->Prop}{a:(Sl (Sl Int))}{b:(Sl (Sl Int))}{iv1:Int}{X1:St->Prop}{P1:Int->Bool}{S1:Int->Bool}{iv2:Int}{zbR:Bool}
def ztU (S1:Int->Bool) (a:(Sl (Sl Int))) (b:(Sl (Sl Int))) (iv2:Int) (zbR:Bool):Bool :=
  (cond zbR
 false
 (S1 (w64 (iv2+(1:Int)))))
def ztV (P1:Int->Bool) (a:(Sl (Sl Int))) (b:(Sl (Sl Int))) (iv2:Int) (zbR:Bool):Bool :=
  (cond zbR
 true
 (P1 (w64 (iv2+(1:Int)))))
theorem zLx (hX1:zLw K a b X1 P1 S1) (hs:ztV P1 a b iv2 zbR=true) (hk:K (e11 (ztU S1 a b iv2 zbR))):z11 K [1,1,0,1,0,0,1,0,0,1] [X1] ⟨[(0,zS zar 1 a),(1,zS zar 1 b),(5,zI iv2),(26,zB zbR)],[],[]⟩:=zaM (by kernel_rfl) (zc hs hk (λ hs hk=>hk) (λ hs hk=>(hX1 hs hk)))
def zkd (a:(Sl (Sl Int))) (b:(Sl (Sl Int))) (S1:Int->Bool) (iv1:Int):Bool :=
  (cond (decide (iv1 < (a.len : Int)))
 (ztU S1 a b iv1 ((s9 (a.get iv1.toNat) (b.get iv1.toNat)) != (0:Int)))
 true)
def zke (a:(Sl (Sl Int))) (b:(Sl (Sl Int))) (P1:Int->Bool) (iv1:Int):Bool :=
  (cond (decide (iv1 < (a.len : Int)))
 (decide ((0<=iv1/\iv1 < (a.len:Int))) &&
 (decide ((0<=iv1/\iv1 < (b.len:Int))) &&
 (decide ((p9 (a.get iv1.toNat) (b.get iv1.toNat)=true)) &&
 (ztV P1 a b iv1 ((s9 (a.get iv1.toNat) (b.get iv1.toNat)) != (0:Int))))))
 true)
def zkf (a:(Sl (Sl Int))) (b:(Sl (Sl Int))):Nat->Int->Bool:=lpO (λ _=>default) (zkd a b)
def zkg (a:(Sl (Sl Int))) (b:(Sl (Sl Int))):Nat->Int->Bool:=lpO (λ _=>false) (zke a b)
def zC0 (a:(Sl (Sl Int))) (b:(Sl (Sl Int))) (iv1:Int):Bool:=zkf a b Fuel iv1
def zC1 (a:(Sl (Sl Int))) (b:(Sl (Sl Int))) (iv1:Int):Bool:=zkg a b Fuel iv1
theorem zLy (hs:zC1 a b iv1=true) (hk:K (e11 (zC0 a b iv1))):z11 K [1,1,0,1,0] [] (zGR a b iv1) :=
  zl (λ X=>z11 K [1,1,0,1,0,0] [X]) (by kernel_rfl) λ X1 hX =>
  (show ∀ k, zLw K a b X1 (zkg a b k) (zkf a b k) from zfo _ _ (zke a b) (zkd a b) (zLw K a b X1)
 (by intro _ hs;exact absurd hs dqk)
 (by intro P1 S1 hX1 iv1 hs hk;exact hX _ (zaM (by kernel_rfl) (zc hs hk (λ hs hk=>(zaI hs λ hc hs=>And.intro hc (zaI hs λ hc hs=>And.intro hc (zaI hs λ hc hs=>And.intro (And.intro (zE zam 1 ((a.get iv1.toNat).get)) (And.intro (zE zam 1 ((b.get iv1.toNat).get)) hc)) (zLx hX1 hs hk))))) (λ hs hk=>hk))))) _ hs hk
def zC2 (a:(Sl (Sl Int))) (b:(Sl (Sl Int))):Bool :=
  (zC0 a b (0:Int))
def zC3 (a:(Sl (Sl Int))) (b:(Sl (Sl Int))):Bool :=
  (zC1 a b (0:Int))
theorem zLz (hs:zC3 a b=true) (hk:K (e11 (zC2 a b))):z11 K [1,1] [] ⟨[(0,zS zar 1 a),(1,zS zar 1 b)],[],[]⟩:=zaM (by kernel_rfl) (zLy hs hk)
def s11 (a:(Sl (Sl Int))) (b:(Sl (Sl Int))):Bool :=
  (cond ((a.len : Int) != (b.len : Int))
 false
 (zC2 a b))
def p11 (a:(Sl (Sl Int))) (b:(Sl (Sl Int))):Bool :=
  (cond ((a.len : Int) != (b.len : Int))
 true
 (zC3 a b))
end
theorem q11 (a:(Sl (Sl Int))) (b:(Sl (Sl Int))) (K:List PA->Prop) (hs:p11 a b=true) (hk:K (e11 (s11 a b))):vcFun Tryz.prog G11 zLv 11 [.one (.sl a.len 1 (λ i=>zar (a.get i))),.one (.sl b.len 1 (λ i=>zar (b.get i)))] K :=
  zaM (by kernel_rfl) (zc hs hk (λ hs hk=>hk) (λ hs hk=>(zLz hs hk)))
def zLA : List PA → COut
  | [.one (.sl zaK zbW zaL),.one (.sl zd9 zi9 zea)]=>.det (IsE zar 1 zbW zaL/\IsE zar 1 zi9 zea/\p11 (⟨zaK,zew zaL⟩:(Sl (Sl Int))) (⟨zd9,zew zea⟩:(Sl (Sl Int)))=true) [.one (.bool (s11 (⟨zaK,zew zaL⟩:(Sl (Sl Int))) (⟨zd9,zew zea⟩:(Sl (Sl Int)))))]
  | _=>.no
theorem call11:zah Tryz.prog 11:=⟨_,rfl,rfl,by kernel_rfl⟩
theorem zT7:Ok Tryz.prog 11 zLA:=zaV zSg call11 λ args K h=>by
  unfold zLA at h
  split at h
  · rename_i zaK zbW zaL zd9 zi9 zea
    obtain⟨⟨⟨rfl,zbn,rfl⟩,⟨rfl,zgy,rfl⟩,hs⟩,hk⟩:=h
    try rw[zdh zbn] at hs
    try rw[zdh zbn] at hk
    try rw[zdh zgy] at hs
    try rw[zdh zgy] at hk
    exact⟨(λ _ _=>[]),(λ _=>false),zLv,q11 (⟨zaK,zbn⟩:(Sl (Sl Int))) (⟨zd9,zgy⟩:(Sl (Sl Int))) K hs hk⟩
  · exact h.elim
abbrev T16:Tabs:=Tabs.nil
theorem zSh:TabsOk Tryz.prog T16:=TabsOk.nil
abbrev G16:Ctrs:=csm T16 (λ _ _=>[]) (λ _=>false)
def zLB:Ann:=⟨45,[(0,zK [0,1] []),(1,zK [0,1,5] []),(2,zK [0,1,5,6] []),(3,zK [0,1,5,6,10] []),(4,zK [0,1,5,6] []),(5,zK [0,1,5,6,27] []),(6,zK [0,1,5,6] []),(7,zK [0,1,5,6,44] []),(8,zK [4] []),(9,zK [4] [])],
 [(3,zK [0,1,5,6] []),(5,zK [0,1,5,6] [])],
 [(7,zK [0,1,5,6] [])],
 [],[]⟩
abbrev R16:=Bool
abbrev e16 (r:R16):List PA:=[.one (.bool r)]
@[irreducible] def z16:=ptF Tryz.prog G16 zLB Tryz.f16
def zGS (a:(Sl Int)) (b:(Sl Int)) (kv0:Int) (iv0:Int):St:=⟨[(0,zS zam 1 a),(1,zS zam 1 b),(5,zI kv0),(6,zI iv0)],[],[]⟩
abbrev zFh (K:List PA->Prop) (a:(Sl Int)) (b:(Sl Int)) (X:St->Prop) (P:Int->Int->Bool) (S:Int->Int->Bool):Prop:=∀ ⦃kv0:Int⦄ ⦃iv0:Int⦄,P kv0 iv0=true->K (e16 (S kv0 iv0))->X (zGS a b kv0 iv0)
def zGT (a:(Sl Int)) (b:(Sl Int)) (kv1:Int) (iv1:Int):St:=⟨[(0,zS zam 1 a),(1,zS zam 1 b),(5,zI kv1),(6,zI iv1)],[],[]⟩
abbrev zPA (K:List PA->Prop) (a:(Sl Int)) (b:(Sl Int)) (X:St->Prop) (P:Int->Int->Bool) (S:Int->Int->Bool):Prop:=∀ ⦃kv1:Int⦄ ⦃iv1:Int⦄,P kv1 iv1=true->K (e16 (S kv1 iv1))->X (zGT a b kv1 iv1)
section
variable {K:List PA->Prop}{a:(Sl Int)}{b:(Sl Int)}{kv0:Int}{iv0:Int}{X0:St->Prop}{P0:Int->Int->Bool}{S0:Int->Int->Bool}{kv1:Int}{iv1:Int}{X1:St->Prop}{P1:Int->Int->Bool}{S1:Int->Int->Bool}{kv2:Int}{iv2:Int}
def zkh (S0:Int->Int->Bool) (a:(Sl Int)) (b:(Sl Int)) (kv2:Int) (iv2:Int):Bool :=
  (cond (kv2 == (b.len : Int))
 false
 (cond ((b.get kv2.toNat) != (a.get iv2.toNat))
 false
 (S0 kv2 (w64 (iv2+(1:Int))))))
def zki (P0:Int->Int->Bool) (a:(Sl Int)) (b:(Sl Int)) (kv2:Int) (iv2:Int):Bool :=
  (cond (kv2 == (b.len : Int))
 true
 (decide ((0<=kv2/\kv2 < (b.len:Int))) &&
 (decide ((0<=iv2/\iv2 < (a.len:Int))) &&
 (cond ((b.get kv2.toNat) != (a.get iv2.toNat))
 true
 (P0 kv2 (w64 (iv2+(1:Int))))))))
theorem zC4 (hX0:zFh K a b X0 P0 S0) (hs:zki P0 a b kv2 iv2=true) (hk:K (e16 (zkh S0 a b kv2 iv2))):z16 K [1,1,0,1,0,0,1,0,0,1] [X0] ⟨[(0,zS zam 1 a),(1,zS zam 1 b),(5,zI kv2),(6,zI iv2)],[],[]⟩:=zaM (by kernel_rfl) (zc hs hk (λ hs hk=>hk) (λ hs hk=>(zaI hs λ hc hs=>And.intro hc (zaI hs λ hc hs=>And.intro hc (zc hs hk (λ hs hk=>hk) (λ hs hk=>(hX0 hs hk)))))))
def zfC (S0:Int->Int->Bool) (a:(Sl Int)) (b:(Sl Int)) (S1:Int->Int->Bool) (kv1:Int) (iv1:Int):Bool :=
  (cond (decide (kv1 < (b.len : Int)))
 (cond (decide ((b.get kv1.toNat) < (a.get iv1.toNat)))
 (S1 (w64 (kv1+(1:Int))) iv1)
 (zkh S0 a b kv1 iv1))
 (zkh S0 a b kv1 iv1))
def zfD (P0:Int->Int->Bool) (a:(Sl Int)) (b:(Sl Int)) (P1:Int->Int->Bool) (kv1:Int) (iv1:Int):Bool :=
  (cond (decide (kv1 < (b.len : Int)))
 (decide ((0<=kv1/\kv1 < (b.len:Int))) &&
 (decide ((0<=iv1/\iv1 < (a.len:Int))) &&
 (cond (decide ((b.get kv1.toNat) < (a.get iv1.toNat)))
 (P1 (w64 (kv1+(1:Int))) iv1)
 (zki P0 a b kv1 iv1))))
 (zki P0 a b kv1 iv1))
def zdz (S0:Int->Int->Bool) (a:(Sl Int)) (b:(Sl Int)):Nat->Int->Int->Bool:=lpO (λ _ _=>default) (zfC S0 a b)
def zdA (P0:Int->Int->Bool) (a:(Sl Int)) (b:(Sl Int)):Nat->Int->Int->Bool:=lpO (λ _ _=>false) (zfD P0 a b)
def zC5 (S0:Int->Int->Bool) (a:(Sl Int)) (b:(Sl Int)) (kv1:Int) (iv1:Int):Bool:=zdz S0 a b Fuel kv1 iv1
def zC6 (P0:Int->Int->Bool) (a:(Sl Int)) (b:(Sl Int)) (kv1:Int) (iv1:Int):Bool:=zdA P0 a b Fuel kv1 iv1
theorem zLC (hX0:zFh K a b X0 P0 S0) (hs:zC6 P0 a b kv1 iv1=true) (hk:K (e16 (zC5 S0 a b kv1 iv1))):z16 K [1,1,0,1,0,0,1,0,0,0,0] [X0] (zGT a b kv1 iv1) :=
  zl (λ X=>z16 K [1,1,0,1,0,0,1,0,0,0,0,0] [X0,X]) (by kernel_rfl) λ X1 hX =>
  (show ∀ k, zPA K a b X1 (zdA P0 a b k) (zdz S0 a b k) from zfo _ _ (zfD P0 a b) (zfC S0 a b) (zPA K a b X1)
 (by intro _ _ hs;exact absurd hs dqk)
 (by intro P1 S1 hX1 kv1 iv1 hs hk;exact hX _ (zaM (by kernel_rfl) (zc hs hk (λ hs hk=>(zaI hs λ hc hs=>And.intro hc (zaI hs λ hc hs=>And.intro hc (zc hs hk (λ hs hk=>(hX1 hs hk)) (λ hs hk=>(zC4 hX0 hs hk)))))) (λ hs hk=>(zC4 hX0 hs hk)))))) _ hs hk
def ziH (a:(Sl Int)) (b:(Sl Int)) (S0:Int->Int->Bool) (kv0:Int) (iv0:Int):Bool :=
  (cond (decide (iv0 < (a.len : Int)))
 (zC5 S0 a b kv0 iv0)
 true)
def ziI (a:(Sl Int)) (b:(Sl Int)) (P0:Int->Int->Bool) (kv0:Int) (iv0:Int):Bool :=
  (cond (decide (iv0 < (a.len : Int)))
 (zC6 P0 a b kv0 iv0)
 true)
def zgp (a:(Sl Int)) (b:(Sl Int)):Nat->Int->Int->Bool:=lpO (λ _ _=>default) (ziH a b)
def zgq (a:(Sl Int)) (b:(Sl Int)):Nat->Int->Int->Bool:=lpO (λ _ _=>false) (ziI a b)
def zC7 (a:(Sl Int)) (b:(Sl Int)) (kv0:Int) (iv0:Int):Bool:=zgp a b Fuel kv0 iv0
def zC8 (a:(Sl Int)) (b:(Sl Int)) (kv0:Int) (iv0:Int):Bool:=zgq a b Fuel kv0 iv0
theorem zLD (hs:zC8 a b kv0 iv0=true) (hk:K (e16 (zC7 a b kv0 iv0))):z16 K [1,1,0,1,0] [] (zGS a b kv0 iv0) :=
  zl (λ X=>z16 K [1,1,0,1,0,0] [X]) (by kernel_rfl) λ X0 hX =>
  (show ∀ k, zFh K a b X0 (zgq a b k) (zgp a b k) from zfo _ _ (ziI a b) (ziH a b) (zFh K a b X0)
 (by intro _ _ hs;exact absurd hs dqk)
 (by intro P0 S0 hX0 kv0 iv0 hs hk;exact hX _ (zaM (by kernel_rfl) (zc hs hk (λ hs hk=>(zLC hX0 hs hk)) (λ hs hk=>hk))))) _ hs hk
def s16 (a:(Sl Int)) (b:(Sl Int)):Bool :=
  (zC7 a b (0:Int) (0:Int))
def p16 (a:(Sl Int)) (b:(Sl Int)):Bool :=
  (zC8 a b (0:Int) (0:Int))
end
theorem q16 (a:(Sl Int)) (b:(Sl Int)) (K:List PA->Prop) (hs:p16 a b=true) (hk:K (e16 (s16 a b))):vcFun Tryz.prog G16 zLB 16 [.one (.sl a.len 1 (λ i=>zam (a.get i))),.one (.sl b.len 1 (λ i=>zam (b.get i)))] K :=
  zaM (by kernel_rfl) (zLD hs hk)
def zLE : List PA → COut
  | [.one (.sl zaK zbW zaL),.one (.sl zd9 zi9 zea)]=>.det (IsE zam 1 zbW zaL/\IsE zam 1 zi9 zea/\p16 (⟨zaK,zcf zaL⟩:(Sl Int)) (⟨zd9,zcf zea⟩:(Sl Int))=true) [.one (.bool (s16 (⟨zaK,zcf zaL⟩:(Sl Int)) (⟨zd9,zcf zea⟩:(Sl Int))))]
  | _=>.no
theorem call16:zah Tryz.prog 16:=⟨_,rfl,rfl,by kernel_rfl⟩
theorem ok16:Ok Tryz.prog 16 zLE:=zaV zSh call16 λ args K h=>by
  unfold zLE at h
  split at h
  · rename_i zaK zbW zaL zd9 zi9 zea
    obtain⟨⟨⟨rfl,zbn,rfl⟩,⟨rfl,zgy,rfl⟩,hs⟩,hk⟩:=h
    try rw[zbA zbn] at hs
    try rw[zbA zbn] at hk
    try rw[zbA zgy] at hs
    try rw[zbA zgy] at hk
    exact⟨(λ _ _=>[]),(λ _=>false),zLB,q16 (⟨zaK,zbn⟩:(Sl Int)) (⟨zd9,zgy⟩:(Sl Int)) K hs hk⟩
  · exact h.elim
abbrev T37:Tabs:=(Tabs.nil.addF 9 zHT)
theorem zSi:TabsOk Tryz.prog T37:=(TabsOk.nil.addF ok9)
abbrev G37:Ctrs:=csm T37 (λ _ _=>[]) (λ _=>false)
def zLF:Ann:=⟨46,[(0,zK [0,1] []),(1,zK [0,1,5] []),(2,zK [0,1,5,18] []),(3,zK [0,1,5] []),(4,zK [0,1,5,33] []),(5,zK [4] []),(6,zK [4] [38])],
 [(2,zK [0,1,5] [])],
 [(4,zK [0,1,5] []),(5,zK [0,1,5,33] []),(6,zK [0,1,5] [])],
 [],[]⟩
abbrev R37:=(Sl (Sl Int))
abbrev e37 (r:R37):List PA:=[.one (.sl r.len 1 (λ i=>zar (r.get i)))]
@[irreducible] def z37:=ptF Tryz.prog G37 zLF Tryz.f37
def zGU (l_a0:(Sl (Sl Int))) (s:(Sl Int)) (ziM:Int):St:=⟨[(0,zS zar 1 l_a0),(1,zS zam 1 s),(5,zI ziM)],[],[]⟩
abbrev zPB (K:List PA->Prop) (l_a0:(Sl (Sl Int))) (s:(Sl Int)) (X:St->Prop) (P:Int->Bool) (S:Int->(Sl (Sl Int))):Prop:=∀ ⦃ziM:Int⦄,P ziM=true->K (e37 (S ziM))->X (zGU l_a0 s ziM)
section
variable {K:List PA->Prop}{l_a0:(Sl (Sl Int))}{s:(Sl Int)}{ziM:Int}{X0:St->Prop}{P0:Int->Bool}{S0:Int->(Sl (Sl Int))}{sv1:(Sl Int)}{zq2:Int}{zmh:Nat->List PV}{sv2:(Sl Int)}{zLG:Int}{ztW:Bool}{zCb:Nat->List PV}{sv3:(Sl Int)}{zkO:Int}{zCc:Nat->List PV}
def zna (l_a0:(Sl (Sl Int))) (sv3:(Sl Int)) (zkO:Int):(Sl (Sl Int)) :=
  (⟨(((zkO - (0:Int)).toNat+1)+((l_a0.len:Int) - zkO).toNat),(zfe ((zkO - (0:Int)).toNat+1) (zfe ((zkO - (0:Int)).toNat) (λ i=>l_a0.get (i+((0:Int).toNat))) (λ _=>sv3)) (λ i=>l_a0.get (i+zkO.toNat)))⟩:(Sl (Sl Int)))
def znb (l_a0:(Sl (Sl Int))) (sv3:(Sl Int)) (zkO:Int):Bool :=
  (decide ((0<=(0:Int)/\(0:Int)<=zkO/\zkO<=(l_a0.len:Int))) &&
 (decide (((zkO - (0:Int)).toNat * 24<=140737488355328/\(zkO - (0:Int)).toNat<=9223372036854775807)) &&
 (decide ((((zkO - (0:Int)).toNat+1) * 24<=140737488355328/\(zkO - (0:Int)).toNat+1<=9223372036854775807)) &&
 (decide ((0<=zkO/\zkO<=(l_a0.len:Int)/\(l_a0.len:Int)<=(l_a0.len:Int))) &&
 (decide (((((zkO - (0:Int)).toNat+1)+((l_a0.len:Int) - zkO).toNat) * 24<=140737488355328/\((zkO - (0:Int)).toNat+1)+((l_a0.len:Int) - zkO).toNat<=9223372036854775807)) &&
 true)))))
theorem zLH (hs:znb l_a0 sv3 zkO=true) (hk:K (e37 (zna l_a0 sv3 zkO))) (zKo:zCc=zg zam sv3):z37 K [1,1,1,1] [] ⟨[(0,zS zar 1 l_a0),(1,zP (.sl sv3.len 1 zCc)),(5,zI zkO)],[],[]⟩:=by subst zKo;exact zaM (by kernel_rfl) (zaI hs λ hc hs=>And.intro hc (zaI hs λ hc hs=>And.intro hc (zaI hs λ hc hs=>And.intro hc (zaI hs λ hc hs=>And.intro hc (zaI hs λ hc hs=>And.intro hc (Eq.mpr (congrArg K (congrArg (λ (g_:Nat->List PV)=>([.one (.sl (((zkO - (0:Int)).toNat+1)+((l_a0.len:Int) - zkO).toNat) 1 g_)]:List PA)) (zfm (enc:=zar) (f:=(zfe ((zkO - (0:Int)).toNat) (λ i=>l_a0.get (i+((0:Int).toNat))) (λ _=>sv3))) (h:=(λ i=>l_a0.get (i+zkO.toNat))) (zfm (enc:=zar) (f:=(λ i=>l_a0.get (i+((0:Int).toNat)))) (h:=(λ _=>sv3)) rfl rfl) rfl))) hk))))))
def zkj (l_a0:(Sl (Sl Int))) (sv2:(Sl Int)) (zLG:Int) (ztW:Bool):(Sl (Sl Int)) :=
  (cond ztW
 l_a0
 (zna l_a0 sv2 zLG))
def zkk (l_a0:(Sl (Sl Int))) (sv2:(Sl Int)) (zLG:Int) (ztW:Bool):Bool :=
  (cond ztW
 true
 (znb l_a0 sv2 zLG))
theorem zC9 (hs:zkk l_a0 sv2 zLG ztW=true) (hk:K (e37 (zkj l_a0 sv2 zLG ztW))) (zKp:zCb=zg zam sv2):z37 K [1,1,1,0,1] [] ⟨[(0,zS zar 1 l_a0),(1,zP (.sl sv2.len 1 zCb)),(5,zI zLG),(33,zB ztW)],[],[]⟩:=by subst zKp;exact zaM (by kernel_rfl) (zc hs hk (λ hs hk=>hk) (λ hs hk=>(zLH hs hk rfl)))
def znc (l_a0:(Sl (Sl Int))) (sv1:(Sl Int)) (zq2:Int):(Sl (Sl Int)) :=
  (cond (decide (zq2 < (l_a0.len : Int)))
 (zkj l_a0 sv1 zq2 ((s9 (l_a0.get zq2.toNat) sv1) == (0:Int)))
 (zkj l_a0 sv1 zq2 false))
def znd (l_a0:(Sl (Sl Int))) (sv1:(Sl Int)) (zq2:Int):Bool :=
  (cond (decide (zq2 < (l_a0.len : Int)))
 (decide ((0<=zq2/\zq2 < (l_a0.len:Int))) &&
 (decide ((p9 (l_a0.get zq2.toNat) sv1=true)) &&
 (zkk l_a0 sv1 zq2 ((s9 (l_a0.get zq2.toNat) sv1) == (0:Int)))))
 (zkk l_a0 sv1 zq2 false))
theorem zDa (hs:znd l_a0 sv1 zq2=true) (hk:K (e37 (znc l_a0 sv1 zq2))) (zsd:zmh=zg zam sv1):z37 K [1,1,1] [] ⟨[(0,zS zar 1 l_a0),(1,zP (.sl sv1.len 1 zmh)),(5,zI zq2)],[],[]⟩:=by subst zsd;exact zaM (by kernel_rfl) (zc hs hk (λ hs hk=>(zaI hs λ hc hs=>And.intro hc (zaI hs λ hc hs=>And.intro (And.intro (zE zam 1 ((l_a0.get zq2.toNat).get)) (And.intro (zE zam 1 sv1.get) hc)) (zC9 hs hk rfl)))) (λ hs hk=>(zC9 hs hk rfl)))
def zhw (l_a0:(Sl (Sl Int))) (s:(Sl Int)) (S0:Int->(Sl (Sl Int))) (ziM:Int):(Sl (Sl Int)) :=
  (cond (decide (ziM < (l_a0.len : Int)))
 (cond (decide ((s9 (l_a0.get ziM.toNat) s) < (0:Int)))
 (S0 (w64 (ziM+(1:Int))))
 (znc l_a0 s ziM))
 (znc l_a0 s ziM))
def zhx (l_a0:(Sl (Sl Int))) (s:(Sl Int)) (P0:Int->Bool) (ziM:Int):Bool :=
  (cond (decide (ziM < (l_a0.len : Int)))
 (decide ((0<=ziM/\ziM < (l_a0.len:Int))) &&
 (decide ((p9 (l_a0.get ziM.toNat) s=true)) &&
 (cond (decide ((s9 (l_a0.get ziM.toNat) s) < (0:Int)))
 (P0 (w64 (ziM+(1:Int))))
 (znd l_a0 s ziM))))
 (znd l_a0 s ziM))
def zeb (l_a0:(Sl (Sl Int))) (s:(Sl Int)):Nat->Int->(Sl (Sl Int)):=lpO (λ _=>default) (zhw l_a0 s)
def zec (l_a0:(Sl (Sl Int))) (s:(Sl Int)):Nat->Int->Bool:=lpO (λ _=>false) (zhx l_a0 s)
def zDb (l_a0:(Sl (Sl Int))) (s:(Sl Int)) (ziM:Int):(Sl (Sl Int)):=zeb l_a0 s Fuel ziM
def zDc (l_a0:(Sl (Sl Int))) (s:(Sl Int)) (ziM:Int):Bool:=zec l_a0 s Fuel ziM
theorem zLI (hs:zDc l_a0 s ziM=true) (hk:K (e37 (zDb l_a0 s ziM))):z37 K [1,1,0,0] [] (zGU l_a0 s ziM) :=
  zl (λ X=>z37 K [1,1,0,0,0] [X]) (by kernel_rfl) λ X0 hX =>
  (show ∀ k, zPB K l_a0 s X0 (zec l_a0 s k) (zeb l_a0 s k) from zfo _ _ (zhx l_a0 s) (zhw l_a0 s) (zPB K l_a0 s X0)
 (by intro _ hs;exact absurd hs dqk)
 (by intro P0 S0 hX0 ziM hs hk;exact hX _ (zaM (by kernel_rfl) (zc hs hk (λ hs hk=>(zaI hs λ hc hs=>And.intro hc (zaI hs λ hc hs=>And.intro (And.intro (zE zam 1 ((l_a0.get ziM.toNat).get)) (And.intro (zE zam 1 s.get) hc)) (zc hs hk (λ hs hk=>(hX0 hs hk)) (λ hs hk=>(zDa hs hk rfl)))))) (λ hs hk=>(zDa hs hk rfl)))))) _ hs hk
def s37 (l_a0:(Sl (Sl Int))) (s:(Sl Int)):(Sl (Sl Int)) :=
  (zDb l_a0 s (0:Int))
def p37 (l_a0:(Sl (Sl Int))) (s:(Sl Int)):Bool :=
  (zDc l_a0 s (0:Int))
end
theorem q37 (l_a0:(Sl (Sl Int))) (s:(Sl Int)) (K:List PA->Prop) (hs:p37 l_a0 s=true) (hk:K (e37 (s37 l_a0 s))):vcFun Tryz.prog G37 zLF 37 [.one (.sl l_a0.len 1 (λ i=>zar (l_a0.get i))),.one (.sl s.len 1 (λ i=>zam (s.get i)))] K :=
  zaM (by kernel_rfl) (zLI hs hk)
def zLJ : List PA → COut
  | [.one (.sl zaK zbW zaL),.one (.sl zd9 zi9 zea)]=>.det (IsE zar 1 zbW zaL/\IsE zam 1 zi9 zea/\p37 (⟨zaK,zew zaL⟩:(Sl (Sl Int))) (⟨zd9,zcf zea⟩:(Sl Int))=true) [.one (.sl ((s37 (⟨zaK,zew zaL⟩:(Sl (Sl Int))) (⟨zd9,zcf zea⟩:(Sl Int))).len) 1 (λ i=>zar ((s37 (⟨zaK,zew zaL⟩:(Sl (Sl Int))) (⟨zd9,zcf zea⟩:(Sl Int))).get i)))]
  | _=>.no
theorem zPC:zah Tryz.prog 37:=⟨_,rfl,rfl,by kernel_rfl⟩
theorem zT8:Ok Tryz.prog 37 zLJ:=zaV zSi zPC λ args K h=>by
  unfold zLJ at h
  split at h
  · rename_i zaK zbW zaL zd9 zi9 zea
    obtain⟨⟨⟨rfl,zbn,rfl⟩,⟨rfl,zgy,rfl⟩,hs⟩,hk⟩:=h
    try rw[zdh zbn] at hs
    try rw[zdh zbn] at hk
    try rw[zbA zgy] at hs
    try rw[zbA zgy] at hk
    exact⟨(λ _ _=>[]),(λ _=>false),zLF,q37 (⟨zaK,zbn⟩:(Sl (Sl Int))) (⟨zd9,zgy⟩:(Sl Int)) K hs hk⟩
  · exact h.elim
abbrev T12:Tabs:=(((Tabs.nil.addF 16 zLE).addF 36 zFf).addF 37 zLJ)
theorem zSj:TabsOk Tryz.prog T12:=(((TabsOk.nil.addF ok16).addF zST).addF zT8)
abbrev G12:Ctrs:=csm T12 (λ _ _=>[]) (λ _=>false)
def zLK:Ann:=⟨74,[(0,zK [0,1] []),(1,zK [0,1,5] []),(2,zK [1,5,6] []),(3,zK [1,5,6,7] []),(4,zK [1,5,6,7,17] []),(5,zK [1,5,6,7] []),(6,zK [1,5,6,7] []),(7,zK [1,5,8] []),(8,zK [1,5,8,9] []),(9,zK [1,5,8,9,29] [72]),(10,zK [1,5,8,9] [72]),(11,zK [1,5,8,9,10] [72]),(12,zK [1,5,8,9,10,11] [72]),(13,zK [1,5,8,9,10,11,35] [72]),(14,zK [1,5,8,9,10,11] [72]),(15,zK [1,5,8,9,10,11] [72]),(16,zK [1,5,8,9,65] [72]),(17,zK [1,5,8,9] [72]),(18,zK [4] [72])],
 [(4,⟨[1,5,6,7],[],[],[],[],[],[(5,1,λ _=>zar default)]⟩),(9,⟨[1,5,8,9],[72],[(8,72,24,λ _=>zar default)],[],[],[],[]⟩),(13,zK [1,5,8,9,10,11] [72])],
 [(3,zK [1,5,6] []),(7,zK [1,5] []),(16,zK [1,5,8,9,10] [72])],
 [],[]⟩
abbrev R12:=(Sl (Sl Int))
abbrev e12 (r:R12):List PA:=[.one (.sl r.len 1 (λ i=>zar (r.get i)))]
@[irreducible] def z12:=ptF Tryz.prog G12 zLK Tryz.f12
def zGV (least:Int) (lv0:(Sl (Sl Int))) (zeM:(Sl (Sl Int))) (iv1:Int) (zhy:Nat->List PV):St:=⟨[(1,zI least),(5,zP (.sl zeM.len 1 zhy)),(6,zS zar 1 lv0),(7,zI iv1)],[],[]⟩
abbrev zPD (K:List PA->Prop) (least:Int) (lv0:(Sl (Sl Int))) (X:St->Prop) (P:(Sl (Sl Int))->Int->Bool) (S:(Sl (Sl Int))->Int->(Sl (Sl Int))):Prop:=∀ ⦃zeM:(Sl (Sl Int))⦄ ⦃iv1:Int⦄ ⦃zhy:Nat->List PV⦄,P zeM iv1=true->K (e12 (S zeM iv1))->zhy=zg zar zeM->X (zGV least lv0 zeM iv1 zhy)
def zGW (least:Int) (zbi:(Sl (Sl Int))) (iv3:Int) (zfE:(Sl (Sl Int))) (zhz:Nat->List PV) (zhA:Nat->List PV):St:=⟨[(1,zI least),(5,zP (.sl zbi.len 1 zhz)),(8,zv 72),(9,zI iv3)],[(72,.vec 24 1 24 zfE.len zhA)],[]⟩
abbrev zFi (K:List PA->Prop) (least:Int) (X:St->Prop) (P:(Sl (Sl Int))->Int->(Sl (Sl Int))->Bool) (S:(Sl (Sl Int))->Int->(Sl (Sl Int))->(Sl (Sl Int))):Prop:=∀ ⦃zbi:(Sl (Sl Int))⦄ ⦃iv3:Int⦄ ⦃zfE:(Sl (Sl Int))⦄ ⦃zhz:Nat->List PV⦄ ⦃zhA:Nat->List PV⦄,P zbi iv3 zfE=true->K (e12 (S zbi iv3 zfE))->zhz=zg zar zbi->zhA=zg zar zfE->X (zGW least zbi iv3 zfE zhz zhA)
def zGX (least:Int) (zbi:(Sl (Sl Int))) (iv4:Int) (zdD:Bool) (kv4:Int) (zer:(Sl (Sl Int))) (zhB:Nat->List PV):St:=⟨[(1,zI least),(5,zS zar 1 zbi),(8,zv 72),(9,zI iv4),(10,zB zdD),(11,zI kv4)],[(72,.vec 24 1 24 zer.len zhB)],[]⟩
abbrev zPE (K:List PA->Prop) (least:Int) (zbi:(Sl (Sl Int))) (X:St->Prop) (P:Int->Bool->Int->(Sl (Sl Int))->Bool) (S:Int->Bool->Int->(Sl (Sl Int))->(Sl (Sl Int))):Prop:=∀ ⦃iv4:Int⦄ ⦃zdD:Bool⦄ ⦃kv4:Int⦄ ⦃zer:(Sl (Sl Int))⦄ ⦃zhB:Nat->List PV⦄,P iv4 zdD kv4 zer=true->K (e12 (S iv4 zdD kv4 zer))->zhB=zg zar zer->X (zGX least zbi iv4 zdD kv4 zer zhB)
section
variable {K:List PA->Prop}{zaa:(Sl Gate)}{least:Int}{lv0:(Sl (Sl Int))}{zCX:Nat->List PV}{zeM:(Sl (Sl Int))}{iv1:Int}{zhy:Nat->List PV}{X1:St->Prop}{P1:(Sl (Sl Int))->Int->Bool}{S1:(Sl (Sl Int))->Int->(Sl (Sl Int))}{zq3:(Sl (Sl Int))}{zDd:Nat->List PV}{zbi:(Sl (Sl Int))}{iv3:Int}{zfE:(Sl (Sl Int))}{zhz:Nat->List PV}{zhA:Nat->List PV}{X3:St->Prop}{P3:(Sl (Sl Int))->Int->(Sl (Sl Int))->Bool}{S3:(Sl (Sl Int))->Int->(Sl (Sl Int))->(Sl (Sl Int))}{iv4:Int}{zdD:Bool}{kv4:Int}{zer:(Sl (Sl Int))}{zhB:Nat->List PV}{X4:St->Prop}{P4:Int->Bool->Int->(Sl (Sl Int))->Bool}{S4:Int->Bool->Int->(Sl (Sl Int))->(Sl (Sl Int))}{iv5:Int}{zne:Bool}{zgr:(Sl (Sl Int))}{zDe:Nat->List PV}
def znf (S3:(Sl (Sl Int))->Int->(Sl (Sl Int))->(Sl (Sl Int))) (least:Int) (zbi:(Sl (Sl Int))) (iv5:Int) (zne:Bool) (zgr:(Sl (Sl Int))):(Sl (Sl Int)) :=
  (cond zne
 (cond (decide (((zbi.get iv5.toNat).len : Int) >= least))
 (S3 zbi (w64 (iv5+(1:Int))) (⟨(zgr.len+1),(zfe zgr.len zgr.get (λ _=>(zbi.get iv5.toNat)))⟩:Sl (Sl Int)))
 (S3 zbi (w64 (iv5+(1:Int))) zgr))
 (S3 zbi (w64 (iv5+(1:Int))) zgr))
def zng (P3:(Sl (Sl Int))->Int->(Sl (Sl Int))->Bool) (least:Int) (zbi:(Sl (Sl Int))) (iv5:Int) (zne:Bool) (zgr:(Sl (Sl Int))):Bool :=
  (cond zne
 (decide ((0<=iv5/\iv5 < (zbi.len:Int))) &&
 (cond (decide (((zbi.get iv5.toNat).len : Int) >= least))
 (decide ((0<=iv5/\iv5 < (zbi.len:Int))) &&
 (decide (((zgr.len+1) * 24<=140737488355328/\zgr.len+1<=9223372036854775807)) &&
 (P3 zbi (w64 (iv5+(1:Int))) (⟨(zgr.len+1),(zfe zgr.len zgr.get (λ _=>(zbi.get iv5.toNat)))⟩:Sl (Sl Int)))))
 (P3 zbi (w64 (iv5+(1:Int))) zgr)))
 (P3 zbi (w64 (iv5+(1:Int))) zgr))
theorem zLL (hX3:zFi K least X3 P3 S3) (hs:zng P3 least zbi iv5 zne zgr=true) (hk:K (e12 (znf S3 least zbi iv5 zne zgr))) (zLM:zDe=zg zar zgr):z12 K [1,1,1,1,1,0,1,0,0,1,0,0,1,1] [X3] ⟨[(1,zI least),(5,zS zar 1 zbi),(8,zv 72),(9,zI iv5),(10,zB zne)],[(72,.vec 24 1 24 zgr.len zDe)],[]⟩:=by subst zLM;exact zaM (by kernel_rfl) (zc hs hk (λ hs hk=>(zaI hs λ hc hs=>And.intro hc (zc hs hk (λ hs hk=>(zaI hs λ hc hs=>And.intro hc (zaI hs λ hc hs=>And.intro hc (hX3 hs hk rfl (zfm (enc:=zar) (f:=zgr.get) (h:=(λ _=>(zbi.get iv5.toNat))) rfl rfl))))) (λ hs hk=>(hX3 hs hk rfl rfl))))) (λ hs hk=>(hX3 hs hk rfl rfl)))
def zkl (S3:(Sl (Sl Int))->Int->(Sl (Sl Int))->(Sl (Sl Int))) (least:Int) (zbi:(Sl (Sl Int))) (S4:Int->Bool->Int->(Sl (Sl Int))->(Sl (Sl Int))) (iv4:Int) (zdD:Bool) (kv4:Int) (zer:(Sl (Sl Int))):(Sl (Sl Int)) :=
  (cond (decide (kv4 < (zbi.len : Int)))
 (cond zdD
 (cond (iv4 == kv4)
 (S4 iv4 true (w64 (kv4+(1:Int))) zer)
 (S4 iv4 (!(s16 (zbi.get iv4.toNat) (zbi.get kv4.toNat))) (w64 (kv4+(1:Int))) zer))
 (S4 iv4 false (w64 (kv4+(1:Int))) zer))
 (znf S3 least zbi iv4 zdD zer))
def zkm (P3:(Sl (Sl Int))->Int->(Sl (Sl Int))->Bool) (least:Int) (zbi:(Sl (Sl Int))) (P4:Int->Bool->Int->(Sl (Sl Int))->Bool) (iv4:Int) (zdD:Bool) (kv4:Int) (zer:(Sl (Sl Int))):Bool :=
  (cond (decide (kv4 < (zbi.len : Int)))
 (cond zdD
 (cond (iv4 == kv4)
 (P4 iv4 true (w64 (kv4+(1:Int))) zer)
 (decide ((0<=iv4/\iv4 < (zbi.len:Int))) &&
 (decide ((0<=kv4/\kv4 < (zbi.len:Int))) &&
 (decide ((p16 (zbi.get iv4.toNat) (zbi.get kv4.toNat)=true)) &&
 (P4 iv4 (!(s16 (zbi.get iv4.toNat) (zbi.get kv4.toNat))) (w64 (kv4+(1:Int))) zer)))))
 (P4 iv4 false (w64 (kv4+(1:Int))) zer))
 (zng P3 least zbi iv4 zdD zer))
def zgs (S3:(Sl (Sl Int))->Int->(Sl (Sl Int))->(Sl (Sl Int))) (least:Int) (zbi:(Sl (Sl Int))):Nat->Int->Bool->Int->(Sl (Sl Int))->(Sl (Sl Int)):=lpO (λ _ _ _ _=>default) (zkl S3 least zbi)
def zgt (P3:(Sl (Sl Int))->Int->(Sl (Sl Int))->Bool) (least:Int) (zbi:(Sl (Sl Int))):Nat->Int->Bool->Int->(Sl (Sl Int))->Bool:=lpO (λ _ _ _ _=>false) (zkm P3 least zbi)
def zDf (S3:(Sl (Sl Int))->Int->(Sl (Sl Int))->(Sl (Sl Int))) (least:Int) (zbi:(Sl (Sl Int))) (iv4:Int) (zdD:Bool) (kv4:Int) (zer:(Sl (Sl Int))):(Sl (Sl Int)):=zgs S3 least zbi Fuel iv4 zdD kv4 zer
def zDg (P3:(Sl (Sl Int))->Int->(Sl (Sl Int))->Bool) (least:Int) (zbi:(Sl (Sl Int))) (iv4:Int) (zdD:Bool) (kv4:Int) (zer:(Sl (Sl Int))):Bool:=zgt P3 least zbi Fuel iv4 zdD kv4 zer
theorem zLN (hX3:zFi K least X3 P3 S3) (hs:zDg P3 least zbi iv4 zdD kv4 zer=true) (hk:K (e12 (zDf S3 least zbi iv4 zdD kv4 zer))) (ztX:zhB=zg zar zer):z12 K [1,1,1,1,1,0,1,0,0,1,0,0,1,0,1,0] [X3] (zGX least zbi iv4 zdD kv4 zer zhB) :=
  zl (λ X=>z12 K [1,1,1,1,1,0,1,0,0,1,0,0,1,0,1,0,0] [X3,X]) (by kernel_rfl) λ X4 hX =>
  (show ∀ k, zPE K least zbi X4 (zgt P3 least zbi k) (zgs S3 least zbi k) from zfo _ _ (zkm P3 least zbi) (zkl S3 least zbi) (zPE K least zbi X4)
 (by intro _ _ _ _ _ hs;exact absurd hs dqk)
 (by intro P4 S4 hX4 iv4 zdD kv4 zer zhB hs hk ztX;subst ztX;exact hX _ (zaM (by kernel_rfl) (zc hs hk (λ hs hk=>(zc hs hk (λ hs hk=>(zc hs hk (λ hs hk=>(hX4 hs hk rfl)) (λ hs hk=>(zaI hs λ hc hs=>And.intro hc (zaI hs λ hc hs=>And.intro hc (zaI hs λ hc hs=>And.intro (And.intro (zE zam 1 ((zbi.get iv4.toNat).get)) (And.intro (zE zam 1 ((zbi.get kv4.toNat).get)) hc)) (hX4 hs hk rfl))))))) (λ hs hk=>(hX4 hs hk rfl)))) (λ hs hk=>(zLL hX3 hs hk rfl)))))) _ hs hk ztX
def zkn (least:Int) (S3:(Sl (Sl Int))->Int->(Sl (Sl Int))->(Sl (Sl Int))) (zbi:(Sl (Sl Int))) (iv3:Int) (zfE:(Sl (Sl Int))):(Sl (Sl Int)) :=
  (cond (decide (iv3 < (zbi.len : Int)))
 (zDf S3 least zbi iv3 true (0:Int) zfE)
 zfE)
def zko (least:Int) (P3:(Sl (Sl Int))->Int->(Sl (Sl Int))->Bool) (zbi:(Sl (Sl Int))) (iv3:Int) (zfE:(Sl (Sl Int))):Bool :=
  (cond (decide (iv3 < (zbi.len : Int)))
 (zDg P3 least zbi iv3 true (0:Int) zfE)
 true)
def zdV (least:Int):Nat->(Sl (Sl Int))->Int->(Sl (Sl Int))->(Sl (Sl Int)):=lpO (λ _ _ _=>default) (zkn least)
def zdW (least:Int):Nat->(Sl (Sl Int))->Int->(Sl (Sl Int))->Bool:=lpO (λ _ _ _=>false) (zko least)
def zDh (least:Int) (zbi:(Sl (Sl Int))) (iv3:Int) (zfE:(Sl (Sl Int))):(Sl (Sl Int)):=zdV least Fuel zbi iv3 zfE
def zDi (least:Int) (zbi:(Sl (Sl Int))) (iv3:Int) (zfE:(Sl (Sl Int))):Bool:=zdW least Fuel zbi iv3 zfE
theorem zLO (hs:zDi least zbi iv3 zfE=true) (hk:K (e12 (zDh least zbi iv3 zfE))) (ztY:zhz=zg zar zbi) (ztZ:zhA=zg zar zfE):z12 K [1,1,1,1,1,0,1,0] [] (zGW least zbi iv3 zfE zhz zhA) :=
  zl (λ X=>z12 K [1,1,1,1,1,0,1,0,0] [X]) (by kernel_rfl) λ X3 hX =>
  (show ∀ k, zFi K least X3 (zdW least k) (zdV least k) from zfo _ _ (zko least) (zkn least) (zFi K least X3)
 (by intro _ _ _ _ _ hs;exact absurd hs dqk)
 (by intro P3 S3 hX3 zbi iv3 zfE zhz zhA hs hk ztY ztZ;subst ztY;subst ztZ;exact hX _ (zaM (by kernel_rfl) (zc hs hk (λ hs hk=>(zLN hX3 hs hk rfl)) (λ hs hk=>hk))))) _ hs hk ztY ztZ
def zpy (least:Int) (zq3:(Sl (Sl Int))):(Sl (Sl Int)) :=
  (zDh least zq3 (0:Int) (⟨0,(λ _=>default)⟩:Sl (Sl Int)))
def zpz (least:Int) (zq3:(Sl (Sl Int))):Bool :=
  (zDi least zq3 (0:Int) (⟨0,(λ _=>default)⟩:Sl (Sl Int)))
theorem zLP (hs:zpz least zq3=true) (hk:K (e12 (zpy least zq3))) (zLQ:zDd=zg zar zq3):z12 K [1,1,1,1] [] ⟨[(1,zI least),(5,zP (.sl zq3.len 1 zDd))],[],[]⟩:=by subst zLQ;exact zaM (by kernel_rfl) (zLO hs hk rfl rfl)
def zkp (least:Int) (lv0:(Sl (Sl Int))) (S1:(Sl (Sl Int))->Int->(Sl (Sl Int))) (zeM:(Sl (Sl Int))) (iv1:Int):(Sl (Sl Int)) :=
  (cond (decide (iv1 < (lv0.len : Int)))
 (S1 (s37 zeM (lv0.get iv1.toNat)) (w64 (iv1+(1:Int))))
 (zpy least zeM))
def zkq (least:Int) (lv0:(Sl (Sl Int))) (P1:(Sl (Sl Int))->Int->Bool) (zeM:(Sl (Sl Int))) (iv1:Int):Bool :=
  (cond (decide (iv1 < (lv0.len : Int)))
 (decide ((0<=iv1/\iv1 < (lv0.len:Int))) &&
 (decide ((p37 zeM (lv0.get iv1.toNat)=true)) &&
 (P1 (s37 zeM (lv0.get iv1.toNat)) (w64 (iv1+(1:Int))))))
 (zpz least zeM))
def ziJ (least:Int) (lv0:(Sl (Sl Int))):Nat->(Sl (Sl Int))->Int->(Sl (Sl Int)):=lpO (λ _ _=>default) (zkp least lv0)
def ziK (least:Int) (lv0:(Sl (Sl Int))):Nat->(Sl (Sl Int))->Int->Bool:=lpO (λ _ _=>false) (zkq least lv0)
def zDj (least:Int) (lv0:(Sl (Sl Int))) (zeM:(Sl (Sl Int))) (iv1:Int):(Sl (Sl Int)):=ziJ least lv0 Fuel zeM iv1
def zDk (least:Int) (lv0:(Sl (Sl Int))) (zeM:(Sl (Sl Int))) (iv1:Int):Bool:=ziK least lv0 Fuel zeM iv1
theorem zLR (hs:zDk least lv0 zeM iv1=true) (hk:K (e12 (zDj least lv0 zeM iv1))) (zt0:zhy=zg zar zeM):z12 K [1,1,1,0,1,0] [] (zGV least lv0 zeM iv1 zhy) :=
  zl (λ X=>z12 K [1,1,1,0,1,0,0] [X]) (by kernel_rfl) λ X1 hX =>
  (show ∀ k, zPD K least lv0 X1 (ziK least lv0 k) (ziJ least lv0 k) from zfo _ _ (zkq least lv0) (zkp least lv0) (zPD K least lv0 X1)
 (by intro _ _ _ hs;exact absurd hs dqk)
 (by intro P1 S1 hX1 zeM iv1 zhy hs hk zt0;subst zt0;exact hX _ (zaM (by kernel_rfl) (zc hs hk (λ hs hk=>(zaI hs λ hc hs=>And.intro hc (zaI hs λ hc hs=>And.intro (And.intro (zE zar 1 zeM.get) (And.intro (zE zam 1 ((lv0.get iv1.toNat).get)) hc)) (hX1 hs hk rfl)))) (λ hs hk=>(zLP hs hk rfl)))))) _ hs hk zt0
def znh (least:Int) (lv0:(Sl (Sl Int))):(Sl (Sl Int)) :=
  (zDj least lv0 (⟨0,(λ _=>default)⟩:Sl (Sl Int)) (0:Int))
def zni (least:Int) (lv0:(Sl (Sl Int))):Bool :=
  (zDk least lv0 (⟨0,(λ _=>default)⟩:Sl (Sl Int)) (0:Int))
theorem zLS (hs:zni least lv0=true) (hk:K (e12 (znh least lv0))) (zLt:zCX=zg zar lv0):z12 K [1,1,1] [] ⟨[(1,zI least),(5,zP (.nils)),(6,zP (.sl lv0.len 1 zCX))],[],[]⟩:=by subst zLt;exact zaM (by kernel_rfl) (zLR hs hk rfl)
def s12 (zaa:(Sl Gate)) (least:Int):(Sl (Sl Int)) :=
  (znh least (s36 zaa))
def p12 (zaa:(Sl Gate)) (least:Int):Bool :=
  (decide ((p36 zaa=true)) &&
 (zni least (s36 zaa)))
end
theorem q12 (zaa:(Sl Gate)) (least:Int) (K:List PA->Prop) (hs:p12 zaa least=true) (hk:K (e12 (s12 zaa least))):vcFun Tryz.prog G12 zLK 12 [.one (.sl zaa.len 3 (λ i=>enc_48 (zaa.get i))),.one (.int .i64 least)] K :=
  zaM (by kernel_rfl) (zaI hs λ hc hs=>And.intro (And.intro (zE enc_48 3 zaa.get) hc) (zLS hs hk rfl))
def zLT : List PA → COut
  | [.one (.sl zaK zbW zaL),.one (.int .i64 a1)]=>.det (IsE enc_48 3 zbW zaL/\p12 (⟨zaK,zaf zaL⟩:(Sl Gate)) a1=true) [.one (.sl ((s12 (⟨zaK,zaf zaL⟩:(Sl Gate)) a1).len) 1 (λ i=>zar ((s12 (⟨zaK,zaf zaL⟩:(Sl Gate)) a1).get i)))]
  | _=>.no
theorem call12:zah Tryz.prog 12:=⟨_,rfl,rfl,by kernel_rfl⟩
theorem zT9:Ok Tryz.prog 12 zLT:=zaV zSj call12 λ args K h=>by
  unfold zLT at h
  split at h
  · rename_i zaK zbW zaL a1
    obtain⟨⟨⟨rfl,zbn,rfl⟩,hs⟩,hk⟩:=h
    try rw[zae zbn] at hs
    try rw[zae zbn] at hk
    exact⟨(λ _ _=>[]),(λ _=>false),zLK,q12 (⟨zaK,zbn⟩:(Sl Gate)) a1 K hs hk⟩
  · exact h.elim
def zPF (x:Sl Int):Sl Int:=⟨x.len,zcf (λ i=>zam (x.get i))⟩
theorem zLU (x:Sl Int):zPF x=x:=rfl
def zFj (x:Sl (Sl Int)):Sl (Sl Int):=⟨x.len,zew (λ i=>zar (x.get i))⟩
theorem zFk (x:Sl (Sl Int)):zFj x=x:=rfl
abbrev T3:Tabs:=((((((((Tabs.nil.addF 5 zRQ).addF 6 zRW).addF 7 zR0).addF 8 zR5).addF 9 zHT).addF 10 zLu).addF 11 zLA).addF 12 zLT)
theorem zUa:TabsOk Tryz.prog T3:=((((((((TabsOk.nil.addF ok5).addF ok6).addF ok7).addF ok8).addF ok9).addF zT6).addF zT7).addF zT9)
abbrev G3:Ctrs:=csm T3 (λ _ _=>[]) (λ _=>false)
def zSk:Ann:=⟨77,[(0,zK [0,1] []),(1,zK [0,1,21] []),(2,zK [4] []),(3,zK [0,1,5,6] []),(4,zK [0,1,5,6,7,8] []),(5,zK [0,1,5,6,7,8,36] []),(6,zK [4] []),(7,zK [4] [])],
 [],
 [(3,zK [0,1] []),(4,zK [0,1,5,6] []),(5,zK [0,1,5,6,7,8] []),(6,zK [0,1,5,6,7,8,36] []),(7,zK [0,1,5,6,7,8] [])],
 [],[]⟩
abbrev R3:=Bool
abbrev e3 (r:R3):List PA:=[.one (.bool r)]
@[irreducible] def z3:=ptF Tryz.prog G3 zSk Tryz.f3
section
variable {K:List PA->Prop}{zaa:(Sl Gate)}{least:Int}{mv1:(Sl Int)}{ev1:Int}{zPG:Nat->List PV}{lv2:(Sl (Sl Int))}{fv2:Int}{zPH:Nat->List PV}{zt1:Bool}
def zDl (zaa:(Sl Gate)) (least:Int) (mv1:(Sl Int)) (ev1:Int) (lv2:(Sl (Sl Int))) (fv2:Int):Bool :=
  (cond (ev1 == (0:Int))
 (cond (fv2 == (0:Int))
 (cond ((s9 mv1 (zPF (s10 zaa))) == (0:Int))
 (cond (s11 lv2 (zFj (s12 zaa least)))
 true
 false)
 false)
 false)
 false)
def zDm (zaa:(Sl Gate)) (least:Int) (mv1:(Sl Int)) (ev1:Int) (lv2:(Sl (Sl Int))) (fv2:Int):Bool :=
  (cond (ev1 == (0:Int))
 (cond (fv2 == (0:Int))
 (decide ((p10 zaa=true)) &&
 (decide ((p9 mv1 (zPF (s10 zaa))=true)) &&
 (cond ((s9 mv1 (zPF (s10 zaa))) == (0:Int))
 (decide ((p12 zaa least=true)) &&
 (decide ((p11 lv2 (zFj (s12 zaa least))=true)) &&
 true))
 true)))
 true)
 true)
theorem zPI (hs:zDm zaa least mv1 ev1 lv2 fv2=true) (hk:K (e3 (zDl zaa least mv1 ev1 lv2 fv2))):z3 K [1,1,1,1,1] [] ⟨[(0,zS enc_48 3 zaa),(1,zI least),(5,zS zam 1 mv1),(6,zI ev1),(7,zS zar 1 lv2),(8,zI fv2)],[],[]⟩:=zaM (by kernel_rfl) (zc hs hk (λ hs hk=>(zc hs hk (λ hs hk=>(zaI hs λ hc hs=>And.intro (And.intro (zE enc_48 3 zaa.get) hc) (zaI hs λ hc hs=>And.intro (And.intro (zE zam 1 mv1.get) (And.intro (zE zam 1 ((s10 zaa).get)) hc)) (zc hs hk (λ hs hk=>(zaI hs λ hc hs=>And.intro (And.intro (zE enc_48 3 zaa.get) hc) (zaI hs λ hc hs=>And.intro (And.intro (zE zar 1 lv2.get) (And.intro (zE zar 1 ((s12 zaa least).get)) hc)) (zt hk (λ hk=>hk) (λ hk=>hk))))) (λ hs hk=>hk))))) (λ hs hk=>hk))) (λ hs hk=>hk))
def zvB (zaa:(Sl Gate)) (least:Int) (mv1:(Sl Int)) (ev1:Int) (lv2:(Sl (Sl Int))) (fv2:Int) (zt1:Bool):Bool :=
  (cond zt1
 (cond (ev1 == (2:Int))
 (cond (fv2 == (2:Int))
 (cond ((w64 ((mv1.len : Int) + (lv2.len : Int))) == (0:Int))
 true
 false)
 false)
 false)
 (zDl zaa least mv1 ev1 lv2 fv2))
def zvC (zaa:(Sl Gate)) (least:Int) (mv1:(Sl Int)) (ev1:Int) (lv2:(Sl (Sl Int))) (fv2:Int) (zt1:Bool):Bool :=
  (cond zt1
 true
 (zDm zaa least mv1 ev1 lv2 fv2))
theorem zPJ (hs:zvC zaa least mv1 ev1 lv2 fv2 zt1=true) (hk:K (e3 (zvB zaa least mv1 ev1 lv2 fv2 zt1))):z3 K [1,1,1,1,0,1] [] ⟨[(0,zS enc_48 3 zaa),(1,zI least),(5,zS zam 1 mv1),(6,zI ev1),(7,zS zar 1 lv2),(8,zI fv2),(36,zB zt1)],[],[]⟩:=zaM (by kernel_rfl) (zc hs hk (λ hs hk=>(zt hk (λ hk=>(zt hk (λ hk=>(zt hk (λ hk=>hk) (λ hk=>hk))) (λ hk=>hk))) (λ hk=>hk))) (λ hs hk=>(zPI hs hk)))
def zvD (zaa:(Sl Gate)) (least:Int) (mv1:(Sl Int)) (ev1:Int) (lv2:(Sl (Sl Int))) (fv2:Int):Bool :=
  (zvB zaa least mv1 ev1 lv2 fv2 (!(s8 zaa)))
def zvE (zaa:(Sl Gate)) (least:Int) (mv1:(Sl Int)) (ev1:Int) (lv2:(Sl (Sl Int))) (fv2:Int):Bool :=
  (decide ((p8 zaa=true)) &&
 (zvC zaa least mv1 ev1 lv2 fv2 (!(s8 zaa))))
theorem zPK (hs:zvE zaa least mv1 ev1 lv2 fv2=true) (hk:K (e3 (zvD zaa least mv1 ev1 lv2 fv2))) (zSl:zPH=zg zar lv2):z3 K [1,1,1,1] [] ⟨[(0,zS enc_48 3 zaa),(1,zI least),(5,zS zam 1 mv1),(6,zI ev1),(7,zP (.sl lv2.len 1 zPH)),(8,zI fv2)],[],[]⟩:=by subst zSl;exact zaM (by kernel_rfl) (zaI hs λ hc hs=>And.intro (And.intro (zE enc_48 3 zaa.get) hc) (zPJ hs hk))
def zvF (zaa:(Sl Gate)) (least:Int) (mv1:(Sl Int)) (ev1:Int):Bool :=
  (zvD zaa least mv1 ev1 ((s7 zaa least).1) ((s7 zaa least).2))
def zvG (zaa:(Sl Gate)) (least:Int) (mv1:(Sl Int)) (ev1:Int):Bool :=
  (decide ((p7 zaa least=true)) &&
 (zvE zaa least mv1 ev1 ((s7 zaa least).1) ((s7 zaa least).2)))
theorem zPL (hs:zvG zaa least mv1 ev1=true) (hk:K (e3 (zvF zaa least mv1 ev1))) (zSm:zPG=zg zam mv1):z3 K [1,1,1] [] ⟨[(0,zS enc_48 3 zaa),(1,zI least),(5,zP (.sl mv1.len 1 zPG)),(6,zI ev1)],[],[]⟩:=by subst zSm;exact zaM (by kernel_rfl) (zaI hs λ hc hs=>And.intro (And.intro (zE enc_48 3 zaa.get) hc) (zPK hs hk rfl))
def zn7 (zaa:(Sl Gate)) (least:Int):Bool :=
  (zvF zaa least ((s6 zaa).1) ((s6 zaa).2))
def zn8 (zaa:(Sl Gate)) (least:Int):Bool :=
  (decide ((p6 zaa=true)) &&
 (zvG zaa least ((s6 zaa).1) ((s6 zaa).2)))
theorem zGY (hs:zn8 zaa least=true) (hk:K (e3 (zn7 zaa least))):z3 K [1,1] [] ⟨[(0,zS enc_48 3 zaa),(1,zI least)],[],[]⟩:=zaM (by kernel_rfl) (zaI hs λ hc hs=>And.intro (And.intro (zE enc_48 3 zaa.get) hc) (zPL hs hk rfl))
def s3 (zaa:(Sl Gate)) (least:Int):Bool :=
  (cond (decide ((zaa.len : Int) > (12:Int)))
 (cond (decide ((zaa.len : Int) <= (24:Int)))
 true
 (cond (decide ((zaa.len : Int) > (40:Int)))
 true
 (zn7 zaa least)))
 (cond (decide ((zaa.len : Int) > (40:Int)))
 true
 (zn7 zaa least)))
def p3 (zaa:(Sl Gate)) (least:Int):Bool :=
  (cond (decide ((zaa.len : Int) > (12:Int)))
 (cond (decide ((zaa.len : Int) <= (24:Int)))
 true
 (cond (decide ((zaa.len : Int) > (40:Int)))
 true
 (zn8 zaa least)))
 (cond (decide ((zaa.len : Int) > (40:Int)))
 true
 (zn8 zaa least)))
end
theorem q3 (zaa:(Sl Gate)) (least:Int) (K:List PA->Prop) (hs:p3 zaa least=true) (hk:K (e3 (s3 zaa least))):vcFun Tryz.prog G3 zSk 3 [.one (.sl zaa.len 3 (λ i=>enc_48 (zaa.get i))),.one (.int .i64 least)] K :=
  zaM (by kernel_rfl) (zc hs hk (λ hs hk=>(zc hs hk (λ hs hk=>hk) (λ hs hk=>(zc hs hk (λ hs hk=>hk) (λ hs hk=>(zGY hs hk)))))) (λ hs hk=>(zc hs hk (λ hs hk=>hk) (λ hs hk=>(zGY hs hk)))))
def zSU : List PA → COut
  | [.one (.sl zaK zbW zaL),.one (.int .i64 a1)]=>.det (IsE enc_48 3 zbW zaL/\p3 (⟨zaK,zaf zaL⟩:(Sl Gate)) a1=true) [.one (.bool (s3 (⟨zaK,zaf zaL⟩:(Sl Gate)) a1))]
  | _=>.no
theorem zSn:zah Tryz.prog 3:=⟨_,rfl,rfl,by kernel_rfl⟩
theorem ok3:Ok Tryz.prog 3 zSU:=zaV zUa zSn λ args K h=>by
  unfold zSU at h
  split at h
  · rename_i zaK zbW zaL a1
    obtain⟨⟨⟨rfl,zbn,rfl⟩,hs⟩,hk⟩:=h
    try rw[zae zbn] at hs
    try rw[zae zbn] at hk
    exact⟨(λ _ _=>[]),(λ _=>false),zSk,q3 (⟨zaK,zbn⟩:(Sl Gate)) a1 K hs hk⟩
  · exact h.elim
end Go.Proofs
namespace Go.Pm
open Go

theorem zb7 {x:Int}(h1 : -9223372036854775808<=x) (h2:x<=9223372036854775807):w64 x=x:=by
 have hb:IntKind.i64.bits=64:=rfl
 have hs:IntKind.i64.signed=true:=rfl
 unfold w64 IntKind.wrap
 rw[hb,hs]
 simp only[Bool.true_and,decide_eq_true_eq]
 split <;> omega
theorem dqT {p:Prop} [Decidable p] (h:p):decide p=true:=decide_eq_true h
theorem dqF {p:Prop} [Decidable p] (h : ¬ p):decide p=false:=decide_eq_false h
theorem dqA {α:Type}(a b:α):cond true a b=a:=rfl
theorem dqB {α:Type}(a b:α):cond false a b=b:=rfl
theorem dqN (n:Nat):((n:Nat):Int).toNat=n:=Int.toNat_natCast n
theorem dqP {c:Prop}{h:Decidable c}(hc:c){α:Type}{t e:α} : ite c t e=t:=if_pos hc
theorem dqG {c:Prop}{h:Decidable c}(hc : ¬ c){α:Type}{t e:α} : ite c t e=e:=if_neg hc
def zq4 (c : Nat → Bool) : Nat → Nat → Nat
  | 0,i=>i
  | m+1,i=>match c i with | true=>i | false=>zq4 c m (i+1)
theorem zGZ {c:Nat->Bool}{m i:Nat}(h:c i=true):zq4 c (m+1) i=i:=by simp only[zq4,h]
theorem zG0 {c:Nat->Bool}{m i:Nat}(h:c i=false):zq4 c (m+1) i=zq4 c m (i+1):=by simp only[zq4,h]
theorem zq5 (c:Nat->Bool) (m i:Nat):i<=zq4 c m i/\zq4 c m i<=i+m/\(∀ j,i<=j->j < zq4 c m i->c j=false)/\(zq4 c m i < i+m->c (zq4 c m i)=true):=by
 induction m generalizing i with
 | zero=>exact⟨dqt _,dqt _,λ j h1 h2=>absurd h2 (by simp only[zq4];omega),λ h=>absurd h (by simp only[zq4];omega)⟩
 | succ m ih =>
  cases e:c i
  ·rw [zG0 e]
   obtain⟨h1,h2,h3,h4⟩:=ih (i+1)
   refine⟨by omega,by omega,λ j hj1 hj2=>?_,λ h=>h4 (by omega)⟩
   by_cases hji:j=i
   ·rw[hji];exact e
   ·exact h3 j (by omega) hj2
  ·rw [zGZ e]
   exact⟨dqt _,by omega,λ j h1 h2=>absurd h2 (by omega),λ _=>e⟩
def fst (c:Nat->Bool) (n:Nat):Nat:=zq4 c n 0
theorem zPM {c:Nat->Bool}{n j:Nat}(h:j < fst c n):c j=false:=(zq5 c n 0).2.2.1 j (Nat.zero_le _) h
theorem zPN {c:Nat->Bool}{n:Nat}(h:fst c n < n):c (fst c n)=true:=(zq5 c n 0).2.2.2 (by simpa [fst] using h)
theorem zFl {α : Type} {c : α → Bool} {lpS : Nat → Sl α → Int → Int → Int} {lpP : Nat → Sl α → Int → Int → Bool}
    (hS:∀ k s t i,lpS (k+1) s t i=cond (decide (i < t)) (cond (c (s.get i.toNat)) i (lpS k s t (w64 (i+(1:Int))))) (-1:Int))
    (hP:∀ k s t i,lpP (k+1) s t i=cond (decide (i < t)) (decide (0<=i/\i < (s.len:Int)) && cond (c (s.get i.toNat)) true (lpP k s t (w64 (i+(1:Int))))) true)
    (s:Sl α) (hn:s.len<=9223372036854775807):lpP Fuel s (s.len:Int) 0=true/\lpS Fuel s (s.len:Int) 0=if fst (λ i=>c (s.get i)) s.len < s.len then ((fst (λ i=>c (s.get i)) s.len:Nat):Int) else -1:=by
  have key:∀ (m k i:Nat),i+m=s.len->m < k->lpP k s (s.len:Int) (i:Int)=true /\
      lpS k s (s.len:Int) (i:Int)=if zq4 (λ i=>c (s.get i)) m i < s.len then ((zq4 (λ i=>c (s.get i)) m i:Nat):Int) else -1:=by
    intro m
    induction m with
    | zero =>
      intro k i hi hk
      obtain⟨k,rfl⟩:∃ k',k=k'+1:=⟨k - 1,by omega⟩
      rw[hS,hP]
      have e:decide ((i:Int) < (s.len:Int))=false:=decide_eq_false (by omega)
      rw[e]
      have e5 : ¬ zq4 (λ i=>c (s.get i)) 0 i < s.len:=by show ¬ i < s.len;omega
      rw[if_neg e5]
      exact⟨rfl,rfl⟩
    | succ m ih =>
      intro k i hi hk
      obtain⟨k,rfl⟩:∃ k',k=k'+1:=⟨k - 1,by omega⟩
      rw[hS,hP]
      have e:decide ((i:Int) < (s.len:Int))=true:=decide_eq_true (by omega)
      have e2:decide (0<=(i:Int)/\(i:Int) < (s.len:Int))=true:=decide_eq_true (by omega)
      have e3:w64 ((i:Int)+1)=((i+1:Nat):Int):=by rw[zb7 (by omega) (by omega)];omega
      have e4:(i:Int).toNat=i:=by omega
      rw[e,e2,e3,e4]
      cases hc:c (s.get i)
      · rw [zG0 (c := fun i => c (s.get i)) hc]
        exact ih k (i+1) (by omega) (by omega)
      · rw [zGZ (c := fun i => c (s.get i)) hc, if_pos (by omega)]
        exact⟨rfl,rfl⟩
  exact key s.len Fuel 0 (by omega) (by simp only[Fuel];omega)

theorem zvH {good : Nat → Bool} {fin : Bool} {n : Nat} {lpS lpP : Nat → Int → Bool}
    (hS:∀ (k i:Nat),i < n->lpS (k+1) (i:Int)=cond (good i) (lpS k (w64 ((i:Int)+(1:Int)))) false)
    (hE:∀ k,lpS (k+1) (n:Int)=fin)
    (hP:∀ (k i:Nat),i < n->lpP (k+1) (i:Int)=cond (good i) (lpP k (w64 ((i:Int)+(1:Int)))) true)
    (hPE:∀ k,lpP (k+1) (n:Int)=true) (hn:n<=9223372036854775807) :
    lpP Fuel 0=true/\(lpS Fuel 0=true↔(∀ i,i < n->good i=true)/\fin=true):=by
  have key:∀ (m k i:Nat),i+m=n->m < k->lpP k (i:Int)=true/\(lpS k (i:Int)=true↔(∀ j,i<=j->j < n->good j=true)/\fin=true):=by
    intro m
    induction m with
    | zero =>
      intro k i hi hk
      obtain⟨k,rfl⟩:∃ k',k=k'+1:=⟨k - 1,by omega⟩
      have:i=n:=by omega
      subst this
      rw[hE,hPE]
      exact⟨rfl,⟨λ h=>⟨λ j h1 h2=>absurd h2 (by omega),h⟩,λ h=>h.2⟩⟩
    | succ m ih =>
      intro k i hi hk
      obtain⟨k,rfl⟩:∃ k',k=k'+1:=⟨k - 1,by omega⟩
      rw[hS k i (by omega),hP k i (by omega)]
      have e3:w64 ((i:Int)+1)=((i+1:Nat):Int):=by rw[zb7 (by omega) (by omega)];omega
      rw[e3]
      obtain⟨h1,h2⟩:=ih k (i+1) (by omega) (by omega)
      cases hg:good i
      · refine ⟨rfl, ⟨fun h => (by cases h), fun h => ?_⟩⟩
        have:=h.1 i (dqt _) (by omega)
        rw[hg] at this;cases this
      · refine ⟨h1, h2.trans ⟨fun h => ⟨fun j hj1 hj2 => ?_, h.2⟩, fun h => ⟨fun j hj1 hj2 => h.1 j (by omega) hj2, h.2⟩⟩⟩
        by_cases hji:j=i
        · rw[hji];exact hg
        · exact h.1 j (by omega) hj2
  have:=key n Fuel 0 (by omega) (by simp only[Fuel];omega)
  simpa using this

end Go.Pm
namespace Go.Pm
open Go
theorem zbk {i n:Nat}(h:i < n) (hn:n<=9223372036854775807):w64 ((i:Int)+(1:Int))=((i+1:Nat):Int):=by
 rw[zb7 (by omega) (by omega)];omega
def zt2 {σ : Type} (step : Nat → σ → σ) : Nat → Nat → σ → σ
  | 0,_,s=>s
  | m+1,i,s=>zt2 step m (i+1) (step i s)
theorem zDn {σ β : Type} {step : Nat → σ → σ} {E : σ → β} {EP : σ → Bool} {Inv : Nat → σ → Prop} {a n : Nat} {lpS : Nat → σ → Int → β} {lpP : Nat → σ → Int → Bool}
    (hS:∀ (k i:Nat) (s:σ),a<=i->i < n->Inv i s->lpS (k+1) s (i:Int)=lpS k (step i s) (w64 ((i:Int)+(1:Int))))
    (hE:∀ k s,lpS (k+1) s (n:Int)=E s)
    (hP:∀ (k i:Nat) (s:σ),a<=i->i < n->Inv i s->lpP (k+1) s (i:Int)=lpP k (step i s) (w64 ((i:Int)+(1:Int))))
    (hPE:∀ k s,lpP (k+1) s (n:Int)=EP s)
    (hI:∀ i s,a<=i->i < n->Inv i s->Inv (i+1) (step i s)) (ha:a<=n) (hn:n<=9223372036854775807) (s:σ) (h0:Inv a s) :
    lpP Fuel s (a:Int)=EP (zt2 step (n - a) a s)/\lpS Fuel s (a:Int)=E (zt2 step (n - a) a s):=by
  have key:∀ (m k i:Nat) (s:σ),a<=i->i+m=n->m < k->Inv i s->lpP k s (i:Int)=EP (zt2 step m i s)/\lpS k s (i:Int)=E (zt2 step m i s):=by
    intro m
    induction m with
    | zero =>
      intro k i s h1 hi hk _
      obtain⟨k,rfl⟩:∃ k',k=k'+1:=⟨k - 1,by omega⟩
      have:i=n:=by omega
      subst this
      rw[hE,hPE]
      exact⟨rfl,rfl⟩
    | succ m ih =>
      intro k i s h1 hi hk hs
      obtain⟨k,rfl⟩:∃ k',k=k'+1:=⟨k - 1,by omega⟩
      rw[hS k i s h1 (by omega) hs,hP k i s h1 (by omega) hs,zbk (n:=n) (by omega) hn]
      exact ih k (i+1) (step i s) (by omega) (by omega) (by omega) (hI i s h1 (by omega) hs)
  exact key (n - a) Fuel a s (dqt _) (by omega) (by simp only[Fuel];omega) h0
end Go.Pm
namespace Go.Proofs
open Go Go.Pm
set_option linter.unusedVariables false
def zes (f : Nat → Bool) : Nat → Nat
  | 0=>0
  | n+1=>if f n=true then zes f n ||| 2 ^ n else zes f n
theorem zeh (f : Nat → Bool) (i : Nat) : ∀ n, (zes f n).testBit i = (decide (i < n) && f i)
  | 0=>by simp[zes]
  | n+1=>by
    unfold zes
    have ih:=zeh f i n
    by_cases hf:f n=true
    · rw [dqP hf, Nat.testBit_or, ih, Nat.testBit_two_pow]
      by_cases e:n=i
      · subst e;simp[hf]
      · have : decide (i < n + 1) = decide (i < n) := decide_eq_decide.2 (by omega)
        simp[e,this]
    · rw [dqG hf, ih]
      by_cases e:n=i
      · subst e;simp[hf]
      · have : decide (i < n + 1) = decide (i < n) := decide_eq_decide.2 (by omega)
        rw[this]
theorem zt3 (f : Nat → Bool) : ∀ n, zes f n < 2 ^ n
  | 0=>by simp[zes]
  | n+1=>by
    have ih:=zt3 f n
    have h1:zes f n < 2 ^ (n+1):=by rw[Nat.pow_succ];omega
    unfold zes
    split
    · exact Nat.or_lt_two_pow h1 (by rw[Nat.pow_succ];have:=Nat.two_pow_pos n;omega)
    · exact h1
theorem zt4 {f g:Nat->Bool}{n:Nat} : zes f n=zes g n↔∀ i,i < n->f i=g i:=by
 constructor
 ·intro h i hi
  have h1:=zeh f i n
  have h2:=zeh g i n
  rw[h] at h1
  rw[h1] at h2
  simpa [hi] using h2
 ·intro h
  refine Nat.eq_of_testBit_eq λ i=>?_
  rw[zeh,zeh]
  by_cases hi:i < n
  ·rw[h i hi]
  ·simp[hi]
theorem zvI {f g:Nat->Bool}{n:Nat} : (zes g n &&& zes f n)=zes f n↔∀ i,i < n->f i=true->g i=true:=by
 constructor
 ·intro h i hi hf
  have h1:=Nat.testBit_and (zes g n) (zes f n) i
  rw[h,zeh,zeh,hf] at h1
  simpa [hi] using h1.symm
 ·intro h
  refine Nat.eq_of_testBit_eq λ i=>?_
  rw[Nat.testBit_and,zeh,zeh]
  by_cases hi:i < n
  ·have := h i hi
   cases hf:f i
   ·simp
   ·rw[this hf];simp
  ·simp[hi]
-- the machine's operations
theorem zt5 {x:Nat}(h:x < 2 ^ 63):IntKind.i64.wrap (x:Int)=(x:Int):=by
 have h:x < 9223372036854775808:=h
 exact zb7 (by omega) (by omega)
theorem zjj {x:Nat}(h:x < 2 ^ 63):(BitVec.ofInt 64 (x:Int)).toNat=x:=by
 have h:x < 9223372036854775808:=h
 rw[BitVec.toNat_ofInt]
 have:((x:Int) % ((2 ^ 64:Nat):Int))=(x:Int):=Int.emod_eq_of_lt (by omega) (by show (x:Int) < 18446744073709551616;omega)
 rw[this,dqN]
theorem zLV {a b:Nat}(ha:a < 2 ^ 63) (hb:b < 2 ^ 63):orW .i64 (a:Int) (b:Int)=((a ||| b:Nat):Int):=by
 unfold orW
 have e:(BitVec.ofInt IntKind.i64.bits (a:Int) ||| BitVec.ofInt IntKind.i64.bits (b:Int)).toNat=a ||| b:=by
  show (BitVec.ofInt 64 (a:Int) ||| BitVec.ofInt 64 (b:Int)).toNat=a ||| b
  rw[BitVec.toNat_or,zjj ha,zjj hb]
 rw[e,zt5 (Nat.or_lt_two_pow ha hb)]
theorem zvJ {a b:Nat}(ha:a < 2 ^ 63) (hb:b < 2 ^ 63):zpI .i64 (a:Int) (b:Int)=((a &&& b:Nat):Int):=by
 unfold zpI
 have e:(BitVec.ofInt IntKind.i64.bits (a:Int) &&& BitVec.ofInt IntKind.i64.bits (b:Int)).toNat=a &&& b:=by
  show (BitVec.ofInt 64 (a:Int) &&& BitVec.ofInt 64 (b:Int)).toNat=a &&& b
  rw[BitVec.toNat_and,zjj ha,zjj hb]
 rw[e,zt5 (Nat.and_lt_two_pow a hb)]
theorem zFm {i:Nat}(h:i < 40):zv6 .i64 (1:Int) (i:Int)=((2 ^ i:Nat):Int):=by
 unfold zv6
 have e:min (i:Int).toNat IntKind.i64.bits=i:=by show min (i:Int).toNat 64=i;omega
 have hp:(2:Nat) ^ i < 2 ^ 63:=Nat.pow_lt_pow_right (by omega) (by omega)
 rw[e,Int.one_mul,<- zt5 hp]
 congr 1
theorem zPO {b i:Nat}(hb:b < 2 ^ 40) (h:i < 40):(zpI .i64 (zwT .i64 (b:Int) (i:Int)) (1:Int) == (1:Int))=b.testBit i:=by
 have e:min (i:Int).toNat IntKind.i64.bits=i:=by show min (i:Int).toNat 64=i;omega
 have e1:zwT .i64 (b:Int) (i:Int)=((b / 2 ^ i:Nat):Int):=by
  unfold zwT
  rw[e,Int.fdiv_eq_ediv_of_nonneg _ (Int.le_of_lt (Int.pow_pos (by decide)))]
  simp
 have h2:b / 2 ^ i < 2 ^ 63:=Nat.lt_of_le_of_lt (Nat.div_le_self _ _) (Nat.lt_trans hb (Nat.pow_lt_pow_right (by omega) (by omega)))
 have e2:=zvJ (a:=b / 2 ^ i) (b:=1) h2 (by decide)
 have e3:zpI .i64 (zwT .i64 (b:Int) (i:Int)) (1:Int)=((b / 2 ^ i &&& 1:Nat):Int):=by rw[e1];exact e2
 rw[e3,Nat.and_one_is_mod,Nat.testBit_eq_decide_div_mod_eq,Bool.eq_iff_iff,beq_iff_eq,decide_eq_true_eq]
 omega
theorem zDo {f:Nat->Bool}{n:Nat}(hn:n < 40) (hf:f n=true):orW .i64 (zes f n:Int) (zv6 .i64 (1:Int) (n:Int))=(zes f (n+1):Int):=by
 have h1:zes f n < 2 ^ 63:=Nat.lt_trans (zt3 f n) (Nat.pow_lt_pow_right (by omega) (by omega))
 rw[zFm hn,zLV h1 (Nat.pow_lt_pow_right (by omega) (by omega))]
 show _=((if f n=true then zes f n ||| 2 ^ n else zes f n:Nat):Int)
 rw[dqP hf]
theorem zDp {f:Nat->Bool}{n:Nat}(hf:f n=false):zes f (n+1)=zes f n:=by
 show (if f n=true then zes f n ||| 2 ^ n else zes f n)=_
 rw[dqG (by rw[hf];exact dqk)]
end Go.Proofs
namespace Go.Proofs
open Go Go.Pm
set_option linter.unusedVariables false
def cmpL : List Nat → List Nat → Int
  | [],[]=>0
  | [],_ :: _=>-1
  | _ :: _,[]=>1
  | a :: A,b :: B=>if a < b then -1 else if b < a then 1 else cmpL A B
theorem zfR : ∀ A, cmpL A A = 0
  | []=>rfl
  | a :: A=>by simp[cmpL,zfR A]
theorem zjk : ∀ {A B : List Nat}, cmpL A B = 0 → A = B
  | [],[],_=>rfl
  | [],_ :: _,h=>by simp[cmpL] at h
  | _ :: _,[],h=>by simp[cmpL] at h
  | a :: A,b :: B,h=>by
    unfold cmpL at h
    by_cases h1:a < b
    · rw[dqP h1] at h;omega
    · by_cases h2 : b < a
      · rw[dqG h1,dqP h2] at h;omega
      · rw [dqG h1, dqG h2] at h
        rw[zjk h,show a=b by omega]
theorem zpA : ∀ (A B : List Nat), cmpL B A = - cmpL A B
  | [],[]=>rfl
  | [],_ :: _=>rfl
  | _ :: _,[]=>rfl
  | a :: A,b :: B=>by
    unfold cmpL
    by_cases h1:a < b
    · rw[dqP h1,dqG (by omega),dqP h1];rfl
    · by_cases h2 : b < a
      · rw[dqP h2,dqG h1,dqP h2]
      · rw[dqG h2,dqG h1,dqG h1,dqG h2];exact zpA A B
theorem zed : ∀ {A B C : List Nat}, cmpL A B < 0 → cmpL B C < 0 → cmpL A C < 0
  | [],[],_,h,_=>by simp[cmpL] at h
  | _ :: _,[],_,h,_=>by simp[cmpL] at h
  | [],_ :: _,[],_,h=>by simp[cmpL] at h
  | [],_ :: _,_ :: _,_,_=>by simp[cmpL]
  | _ :: _,_ :: _,[],_,h=>by simp[cmpL] at h
  | a :: A,b :: B,c :: C,h,k=>by
    unfold cmpL at h k ⊢
    by_cases h1:a < b
    · by_cases k1 : b < c
      · rw[dqP (by omega)];omega
      · by_cases k2 : c < b
        · rw[dqG k1,dqP k2] at k;omega
        · rw[dqP (by omega)];omega
    · by_cases h2 : b < a
      · rw[dqG h1,dqP h2] at h;omega
      · rw [dqG h1, dqG h2] at h
        by_cases k1:b < c
        · rw[dqP (by omega)];omega
        · by_cases k2 : c < b
          · rw[dqG k1,dqP k2] at k;omega
          · rw [dqG k1, dqG k2] at k
            rw[dqG (by omega),dqG (by omega)]
            exact zed h k
abbrev ltS (A B:List Nat):Prop:=cmpL A B < 0
theorem zfc {A:List Nat}(h:ltS A A):False:=by rw[ltS,zfR] at h;omega
theorem znj {A B:List Nat}(h:A ≠ B):ltS A B\/ltS B A:=by
 have h1:=zpA A B
 have h2:cmpL A B ≠ 0:=λ e=>h (zjk e)
 unfold ltS
 omega
theorem zq6 : ∀ {X Y : List (List Nat)}, X.Pairwise ltS → Y.Pairwise ltS → (∀ A, A ∈ X ↔ A ∈ Y) → X = Y
  | [],[],_,_,_=>rfl
  | [],y :: Y,_,_,h=>by have:=(h y).2 dqj;cases this
  | x :: X,[],_,_,h=>by have:=(h x).1 dqj;cases this
  | x :: X,y :: Y,hX,hY,h=>by
    obtain⟨x1,x2⟩:=List.pairwise_cons.1 hX
    obtain⟨y1,y2⟩:=List.pairwise_cons.1 hY
    have e:x=y:=by
      rcases dqq.1 ((h x).1 dqj) with e | hx
      · exact e
      · rcases dqq.1 ((h y).2 dqj) with e | hy
        · exact e.symm
        · exact (zfc (zed (x1 y hy) (y1 x hx))).elim
    subst e
    rw[zq6 x2 y2 λ A=>?_]
    constructor
    · intro hA
      rcases dqq.1 ((h A).1 (dqf _ hA)) with e | hy
      · subst e;exact (zfc (x1 A hA)).elim
      · exact hy
    · intro hA
      rcases dqq.1 ((h A).2 (dqf _ hA)) with e | hy
      · subst e;exact (zfc (y1 A hA)).elim
      · exact hy
def IsN (v:Sl Int) (L:List Nat):Prop:=v.len=L.length/\∀ k (h:k < L.length),v.get k=(L[k]:Int)
def zeN (v:Sl (Sl Int)) (M:List (List Nat)):Prop:=v.len=M.length/\∀ k (h:k < M.length),IsN (v.get k) M[k]
def tlN (v:Sl Int):List Nat:=(List.range v.len).map λ k=>(v.get k).toNat
theorem zq7 {v:Sl Int}{L:List Nat}(h:IsN v L):tlN v=L:=by
 obtain⟨h1,h2⟩:=h
 refine List.ext_getElem (by simp[tlN,h1]) λ k hk hk'=>?_
 simp only[tlN,List.getElem_map,List.getElem_range,h2 k hk']
 omega
theorem IsN.at {v:Sl Int}{L:List Nat}(h:IsN v L){k:Nat}(hk:k < v.len):∃ hk':k < L.length,v.get k=(L[k]:Int):=⟨by rw[<- h.1];exact hk,h.2 k (by rw[<- h.1];exact hk)⟩
theorem zDq {g:Nat->Int} : IsN ⟨0,g⟩ []:=⟨rfl,λ k h=>absurd h (dqW _)⟩
theorem zvK {v:Sl Int}{L:List Nat}(h:IsN v L) (x:Nat):IsN ⟨v.len+1,zfe v.len v.get (λ _=>(x:Int))⟩ (L ++ [x]):=by
 obtain⟨h1,h2⟩:=h
 refine⟨by show v.len+1=_;rw[dqu,List.length_singleton,h1],λ k hk=>?_⟩
 show (match Nat.ble v.len k with | true=>(x:Int) | false=>v.get k)=_
 rw[dqu,List.length_singleton] at hk
 by_cases hq:k < L.length
 ·have e : Nat.ble v.len k = false := Bool.eq_false_iff.2 fun e => by have := Nat.le_of_ble_eq_true e; omega
  rw[e]
  simp only[List.getElem_append_left hq]
  exact h2 k hq
 ·have e : Nat.ble v.len k = true := Nat.ble_eq_true_of_le (by omega)
  rw[e]
  simp only[List.getElem_append_right (show L.length<=k by omega),List.getElem_singleton]
theorem zlj {g:Nat->Sl Int} : zeN ⟨0,g⟩ []:=⟨rfl,λ k h=>absurd h (dqW _)⟩
theorem znk {v:Sl (Sl Int)}{M:List (List Nat)}(h:zeN v M){x:Sl Int}{L:List Nat}(hx:IsN x L):zeN ⟨v.len+1,zfe v.len v.get (λ _=>x)⟩ (M ++ [L]):=by
 obtain⟨h1,h2⟩:=h
 refine⟨by show v.len+1=_;rw[dqu,List.length_singleton,h1],λ k hk=>?_⟩
 show IsN (match Nat.ble v.len k with | true=>x | false=>v.get k) _
 rw[dqu,List.length_singleton] at hk
 by_cases hq:k < M.length
 ·have e : Nat.ble v.len k = false := Bool.eq_false_iff.2 fun e => by have := Nat.le_of_ble_eq_true e; omega
  rw[e]
  simp only[List.getElem_append_left hq]
  exact h2 k hq
 ·have e : Nat.ble v.len k = true := Nat.ble_eq_true_of_le (by omega)
  rw[e]
  simp only[List.getElem_append_right (show M.length<=k by omega),List.getElem_singleton]
  exact hx
def ixs (f:Nat->Bool) (n:Nat):List Nat:=(List.range n).filter f
theorem zhC {f:Nat->Bool}{n i:Nat} : i∈ixs f n↔i < n/\f i=true:=by simp[ixs]
theorem zPP {f:Nat->Bool}{n:Nat} : (ixs f n).Pairwise (· < ·):=List.Pairwise.filter _ List.pairwise_lt_range
theorem zt6 {f:Nat->Bool}{n:Nat} : (ixs f n).length<=n:=by
 have:=List.length_filter_le f (List.range n)
 rw[List.length_range] at this
 exact this
theorem zvL {f:Nat->Bool}{n:Nat} : ixs f (n+1)=ixs f n ++ (if f n=true then [n] else []):=by
 unfold ixs
 rw[List.range_succ,List.filter_append,List.filter_cons,List.filter_nil]
theorem zq8 {f g:Nat->Bool}{n:Nat}(h:∀ i,i < n->f i=g i):ixs f n=ixs g n:=List.filter_congr λ i hi=>h i (List.mem_range.1 hi)
theorem zt7 {f g:Nat->Bool}{n:Nat}(h:ixs f n=ixs g n):∀ i,i < n->f i=g i:=λ i hi=>by
 have a:=zhC (f:=f) (n:=n) (i:=i)
 have b:=zhC (f:=g) (n:=n) (i:=i)
 rw[h] at a
 rw[Bool.eq_iff_iff]
 exact⟨λ h=>(b.1 (a.2 ⟨hi,h⟩)).2,λ h=>(a.1 (b.2 ⟨hi,h⟩)).2⟩
end Go.Proofs
namespace Go.Proofs
open Go Go.Pm
set_option maxRecDepth 100000
set_option linter.unusedVariables false
theorem drop_at {A:List Nat}{i:Nat}(h:i < A.length):A.drop i=A[i] :: A.drop (i+1):=dqR h
theorem zG1 {a b:Sl Int}{A B:List Nat}(ha:IsN a A) (hb:IsN b B) (hn:A.length<=1000000):∀ (m k i:Nat),i+m=A.length->i<=B.length->m < k ->
  zkA a b k (i:Int)=true/\zkz a b k (i:Int)=cmpL (A.drop i) (B.drop i)
 | _,0,_,_,_,h=>absurd h (dqW _)
 | 0,k+1,i,hi,hiB,_=>by
  show zme a b (zkA a b k) (i:Int)=_/\zmd a b (zkz a b k) (i:Int)=_
  generalize zkA a b k=P
  generalize zkz a b k=S
  have e:A.drop i=[]:=dqO (by omega)
  unfold zme zmd zqy
  rw[ha.1,hb.1,dqF (show ¬ (i:Int) < (A.length:Int) by omega),dqB,dqB,e]
  refine⟨rfl,?_⟩
  by_cases hq:i < B.length
  ·rw[dqT (show (A.length:Int) < (B.length:Int) by omega),dqA,drop_at hq];rfl
  ·rw[dqF (show ¬ (A.length:Int) < (B.length:Int) by omega),dqF (show ¬ (A.length:Int) > (B.length:Int) by omega),dqB,dqB,dqO (show B.length<=i by omega)];rfl
 | m+1,k+1,i,hi,hiB,hk=>by
  have hil:i < A.length:=by omega
  show zme a b (zkA a b k) (i:Int)=_/\zmd a b (zkz a b k) (i:Int)=_
  by_cases hq:i < B.length
  ·obtain ⟨i1, i2⟩ := zG1 ha hb hn m k (i + 1) (by omega) (by omega) (by omega)
   generalize zkA a b k=P at i1 ⊢
   generalize zkz a b k=S at i2 ⊢
   unfold zme zmd
   rw[ha.1,hb.1,dqT (show (i:Int) < (A.length:Int) by omega),dqT (show (i:Int) < (B.length:Int) by omega),dqT (show 0<=(i:Int)/\(i:Int) < (A.length:Int) by omega),dqT (show 0<=(i:Int)/\(i:Int) < (B.length:Int) by omega),dqN,ha.2 i hil,hb.2 i hq,zbk (n:=A.length) hil (by omega),i1,i2,drop_at hil,drop_at hq]
   generalize A[i]=x
   generalize B[i]=y
   simp only[dqA,Bool.true_and]
   show _/\_=(if x < y then -1 else if y < x then 1 else cmpL (A.drop (i+1)) (B.drop (i+1)))
   by_cases h1:x < y
   ·rw[dqT (show (x:Int) < (y:Int) by omega),dqP h1];exact⟨rfl,rfl⟩
   ·rw [dqF (show ¬ (x : Int) < (y : Int) by omega), dqG h1]
    by_cases h2:y < x
    ·rw[dqT (show (x:Int) > (y:Int) by omega),dqP h2];exact⟨rfl,rfl⟩
    ·rw[dqF (show ¬ (x:Int) > (y:Int) by omega),dqG h2];exact⟨rfl,rfl⟩
  ·generalize zkA a b k = P
   generalize zkz a b k=S
   unfold zme zmd zqy
   rw[ha.1,hb.1,dqT (show (i:Int) < (A.length:Int) by omega),dqF (show ¬ (i:Int) < (B.length:Int) by omega),dqF (show ¬ (A.length:Int) < (B.length:Int) by omega),dqT (show (A.length:Int) > (B.length:Int) by omega),drop_at hil,dqO (show B.length<=i by omega)]
   exact⟨rfl,rfl⟩
theorem zFn {a b:Sl Int}{A B:List Nat}(ha:IsN a A) (hb:IsN b B) (hn:A.length<=1000000):p9 a b=true/\s9 a b=cmpL A B:=by
 have h:=zG1 ha hb hn A.length Fuel 0 (by omega) (by omega) (by simp only[Fuel];omega)
 exact h
theorem zPQ (x y:Int):s76 x y=if x < y then -1 else if x > y then 1 else 0:=by
 unfold s76 s90
 rw[bne_self_eq_false,bne_self_eq_false,dqB,dqB]
 by_cases h:x < y
 ·rw[dqT h,dqP h];rfl
 ·rw [dqF h, dqG h]
  by_cases h2:x > y
  ·rw[dqT h2,dqP h2];rfl
  ·rw[dqF h2,dqG h2];rfl
theorem zDr {a b:Sl Int}{A B:List Nat}(ha:IsN a A) (hb:IsN b B) (hn:A.length<=1000000):∀ (m k i:Nat),i+m=A.length->i<=B.length->m < k ->
  zhc k a b a (A.length:Int) (i:Int)=true/\zhb k a b a (A.length:Int) (i:Int)=cmpL (A.drop i) (B.drop i)
 | _,0,_,_,_,h=>absurd h (dqW _)
 | 0,k+1,i,hi,hiB,_=>by
  show zit (zhc k) a b a (A.length:Int) (i:Int)=_/\zis (zhb k) a b a (A.length:Int) (i:Int)=_
  generalize zhc k=P
  generalize zhb k=S
  have e:A.drop i=[]:=dqO (by omega)
  unfold zit zis
  rw[ha.1,hb.1,dqF (show ¬ (i:Int) < (A.length:Int) by omega),dqB,dqB,e]
  refine⟨rfl,?_⟩
  by_cases hq:i < B.length
  ·rw[dqT (show (A.length:Int) < (B.length:Int) by omega),dqA,drop_at hq];rfl
  ·rw[dqF (show ¬ (A.length:Int) < (B.length:Int) by omega),dqB,dqO (show B.length<=i by omega)];rfl
 | m+1,k+1,i,hi,hiB,hk=>by
  have hil:i < A.length:=by omega
  show zit (zhc k) a b a (A.length:Int) (i:Int)=_/\zis (zhb k) a b a (A.length:Int) (i:Int)=_
  by_cases hq:i < B.length
  ·obtain ⟨i1, i2⟩ := zDr ha hb hn m k (i + 1) (by omega) (by omega) (by omega)
   generalize zhc k=P at i1 ⊢
   generalize zhb k=S at i2 ⊢
   unfold zit zis ztd ztc ztb zta
   rw[ha.1,hb.1,dqT (show (i:Int) < (A.length:Int) by omega),dqF (show ¬ (i:Int) >= (B.length:Int) by omega),dqT (show 0<=(i:Int)/\(i:Int) < (A.length:Int) by omega),dqT (show 0<=(i:Int)/\(i:Int) < (B.length:Int) by omega),dqN,ha.2 i hil,hb.2 i hq,zbk (n:=A.length) hil (by omega),i1,i2,drop_at hil,drop_at hq,zPQ]
   generalize A[i]=x
   generalize B[i]=y
   simp only[dqA,dqB,Bool.true_and]
   show _/\_=(if x < y then -1 else if y < x then 1 else cmpL (A.drop (i+1)) (B.drop (i+1)))
   by_cases h1:x < y
   ·rw[dqP (show (x:Int) < (y:Int) by omega),dqP h1];exact⟨rfl,rfl⟩
   ·rw [dqG (show ¬ (x : Int) < (y : Int) by omega), dqG h1]
    by_cases h2:y < x
    ·rw[dqP (show (x:Int) > (y:Int) by omega),dqP h2];exact⟨rfl,rfl⟩
    ·rw[dqG (show ¬ (x:Int) > (y:Int) by omega),dqG h2];exact⟨rfl,rfl⟩
  ·generalize zhc k = P
   generalize zhb k=S
   unfold zit zis
   rw[ha.1,hb.1,dqT (show (i:Int) < (A.length:Int) by omega),dqT (show (i:Int) >= (B.length:Int) by omega),dqT (show 0<=(i:Int)/\(i:Int) < (A.length:Int) by omega),drop_at hil,dqO (show B.length<=i by omega)]
   exact⟨rfl,rfl⟩
theorem zG2 {a b:Sl Int}{A B:List Nat}(ha:IsN a A) (hb:IsN b B) (hn:A.length<=1000000):p59 a b=true/\s59 a b=cmpL A B:=by
 have h:=zDr ha hb hn A.length Fuel 0 (by omega) (by omega) (by simp only[Fuel];omega)
 rw[<- ha.1] at h
 exact h
end Go.Proofs
namespace Go.Proofs
open Go Go.Pm
set_option maxRecDepth 100000
set_option linter.unusedVariables false
/-! keys below a bound -/
def zMe (M:Nat):List (List Int):=(List.range M).map λ (a:Nat)=>[(a:Int)]
def zDs (M:Nat) (F:List Int->Option (List Int)):List (List Int):=(zMe M).filter λ y=>(F y).isSome
theorem zvM {M:Nat}{y:List Int} : y∈zMe M↔∃ a:Nat,a < M/\y=[(a:Int)]:=by
 simp only[zMe,dqz,List.mem_range]
 exact⟨λ ⟨a,h,e⟩=>⟨a,h,e.symm⟩,λ ⟨a,h,e⟩=>⟨a,h,e.symm⟩⟩
theorem zn9 (M:Nat):(zMe M).Nodup:=by
 unfold List.Nodup zMe
 rw[List.pairwise_map]
 exact List.pairwise_lt_range.imp fun {b c} h e=>by simp only[dqy,and_true] at e;omega
theorem znl (x v:List Int) (F:List Int->Option (List Int)) (y:List Int):zhO x v F y=if y=x then some v else F y:=by
 unfold zhO
 by_cases e:y=x
 ·rw[dqT e,dqP e]
 ·rw[dqF e,dqG e]
theorem zq9 {F : List Int → Option (List Int)} {x v : List Int} (hF : F x = none) : ∀ {P : List (List Int)}, P.Nodup → x ∈ P → (P.filter fun y => (zhO x v F y).isSome).length = (P.filter fun y => (F y).isSome).length + 1
  | y :: P,hnd,hx=>by
    obtain⟨hy,hnd⟩:=List.nodup_cons.1 hnd
    rw[List.filter_cons,List.filter_cons]
    by_cases e:y=x
    · subst e
      have h1:(P.filter λ z=>(zhO y v F z).isSome)=P.filter λ z=>(F z).isSome:=List.filter_congr λ z hz=>by
        rw[znl,dqG (λ e=>hy (by rw[<- e];exact hz))]
      rw[h1,znl,dqP rfl,hF]
      simp
    · have ih := zq9 (v := v) hF hnd ((dqq.1 hx).resolve_left (Ne.symm e))
      rw[znl,dqG e]
      cases hy:(F y).isSome
      · rw[dqG (by simp),dqG (by simp)];exact ih
      · rw[dqP rfl,dqP rfl,dqr,dqr,ih]
structure MpOk (M K : Nat) (Q : Nat → Prop) (N : Nat) (F : List Int → Option (List Int)) : Prop where
  val:∀ b:Nat,(F [(b:Int)]).isSome=true↔Q b
  num:N=(zDs M F).length
  few:N<=K
  low:∀ b,Q b->b < M
theorem zvN (M:Nat):MpOk M 0 (λ _=>False) 0 (λ _=>none) :=
 ⟨λ b=>by simp,by unfold zDs;rw[List.filter_eq_nil_iff.2 (λ y _=>by simp)];rfl,dqt _,λ _ h=>h.elim⟩
theorem zDt {M K : Nat} {Q : Nat → Prop} {N : Nat} {F : List Int → Option (List Int)} (h : MpOk M K Q N F) {b : Nat} (hb : b < M) :
  MpOk M (K+1) (λ c=>Q c\/c=b) (addN (F [(b:Int)]) N) (zhO [(b:Int)] [1] F):=by
 refine⟨λ c=>?_,?_,?_,λ c hc=>?_⟩
 ·rw [znl]
  by_cases e:c=b
  ·subst e;rw[dqP rfl];simp
  ·rw [dqG (fun e' => e (by simp only [dqy, and_true] at e'; omega)), h.val]
   exact⟨.inl,λ h=>h.resolve_right e⟩
 ·have hm : [(b : Int)] ∈ zMe M := zvM.2 ⟨b, hb, rfl⟩
  cases hF:F [(b:Int)] with
  | none =>
   show N+1=_
   unfold zDs
   rw[zq9 hF (zn9 M) hm,h.num];rfl
  | some l =>
   show N=_
   rw[h.num]
   unfold zDs
   congr 1
   refine List.filter_congr λ y _=>?_
   rw[znl]
   by_cases e:y=[(b:Int)]
   ·rw[dqP e,e,hF];rfl
   ·rw[dqG e]
 ·have := h.few
  cases F [(b:Int)] with
  | none=>show N+1<=K+1;omega
  | some l=>show N<=K+1;omega
 ·rcases hc with hc | rfl
  ·exact h.low c hc
  ·exact hb
theorem MpOk.congr {M K:Nat}{Q Q':Nat->Prop}{N:Nat}{F:List Int->Option (List Int)}(h:MpOk M K Q N F) (e:∀ b,Q b↔Q' b):MpOk M K Q' N F :=
 ⟨λ b=>(h.val b).trans (e b),h.num,h.few,λ b hb=>h.low b ((e b).2 hb)⟩
section
variable {M K:Nat}{Q:Nat->Prop}{N:Nat}{F:List Int->Option (List Int)}(hM:MpOk M K Q N F)
include hM
theorem zjl {y:List Int} : y∈zDs M F↔∃ b:Nat,Q b/\y=[(b:Int)]:=by
 unfold zDs
 rw[List.mem_filter,zvM]
 constructor
 ·rintro⟨⟨a,ha,rfl⟩,h⟩;exact⟨a,(hM.val a).1 h,rfl⟩
 ·rintro⟨a,ha,rfl⟩;exact⟨⟨a,hM.low a ha,rfl⟩,(hM.val a).2 ha⟩
theorem zoa:(zDs M F).Nodup:=(zn9 M).sublist List.filter_sublist
theorem zFo:keysB 1 N F (zDs M F)=true:=by
 unfold keysB
 rw[dqm,dqm,List.all_eq_true]
 refine⟨⟨by rw[<- hM.num];exact Nat.beq_refl _,λ y hy=>?_⟩,zjF.2 (zoa hM)⟩
 obtain⟨b,_,e⟩:=(zjl hM).1 hy
 unfold zDs at hy
 rw[List.mem_filter] at hy
 rw[hy.2,e];rfl
end
/-! the bits of one set -/
theorem zDu {f:Nat->Bool}{n:Nat}(hn:n < 40):zes f n < 1099511627776:=dqS (zt3 f n) (show 2 ^ n<=2 ^ 40 from Nat.pow_le_pow_right (by omega) (by omega))
theorem zDv (g : Sl Gate) (hg : g.len < 40) (y : straight) (f : Nat → Bool) (hf : ∀ i, i < g.len → s57 y (g.get i) = f i) (P : Nat → (List Int → Option (List Int)) → Bool) (S : Nat → (List Int → Option (List Int)) → Sl (Sl Int)) (N : Nat) (F : List Int → Option (List Int)) :
  ∀ (m k i:Nat),i+m=g.len->m < k ->
  zfz P g y k (zes f i:Int) (i:Int) N F=P (addN (F [(zes f g.len:Int)]) N) (zhO [(zes f g.len:Int)] [1] F) /\
  zfy S g y k (zes f i:Int) (i:Int) N F=S (addN (F [(zes f g.len:Int)]) N) (zhO [(zes f g.len:Int)] [1] F)
 | _,0,_,_,h=>absurd h (dqW _)
 | 0,k+1,i,hi,_=>by
  show ziw P g y (zfz P g y k) _ _ _ _=_/\ziv S g y (zfy S g y k) _ _ _ _=_
  generalize zfz P g y k=p
  generalize zfy S g y k=s
  have e:i=g.len:=by omega
  subst e
  unfold ziw ziv
  rw[dqF (show ¬ (g.len:Int) < (g.len:Int) by omega),dqB,dqB]
  exact⟨rfl,rfl⟩
 | m+1,k+1,i,hi,hk=>by
  have hil:i < g.len:=by omega
  obtain⟨i1,i2⟩:=zDv g hg y f hf P S N F m k (i+1) (by omega) (by omega)
  show ziw P g y (zfz P g y k) _ _ _ _=_/\ziv S g y (zfy S g y k) _ _ _ _=_
  generalize zfz P g y k=p at i1 ⊢
  generalize zfy S g y k=s at i2 ⊢
  unfold ziw ziv
  rw[dqT (show (i:Int) < (g.len:Int) by omega),dqT (show 0<=(i:Int)/\(i:Int) < (g.len:Int) by omega),dqT (show 0<=(i:Int) by omega),dqN,hf i hil,zbk (n:=g.len) hil (by omega),dqA,dqA,Bool.true_and,Bool.true_and]
  cases hb:f i
  ·rw[dqB,dqB,<- zDp hb];exact⟨i1,i2⟩
  ·rw[dqA,dqA,zDo (by omega) hb];exact⟨i1,i2⟩
theorem zDw (g : Sl Gate) (hg : g.len < 40) (a0 a1 a2 t : Int) (f : Nat → Bool) (hf : ∀ i, i < g.len → s44 a1 (g.get i).Low (g.get i).High = f i) (P : Int → Nat → (List Int → Option (List Int)) → Bool) (S : Int → Nat → (List Int → Option (List Int)) → Sl (Sl Int)) (N : Nat) (F : List Int → Option (List Int)) :
  ∀ (m k i:Nat),i+m=g.len->m < k ->
  zfb P g k (zes f i:Int) t (i:Int) a0 a1 a2 N F=P (w64 (t+(1:Int))) (addN (F [(zes f g.len:Int)]) N) (zhO [(zes f g.len:Int)] [1] F) /\
  zfa S g k (zes f i:Int) t (i:Int) a0 a1 a2 N F=S (w64 (t+(1:Int))) (addN (F [(zes f g.len:Int)]) N) (zhO [(zes f g.len:Int)] [1] F)
 | _,0,_,_,h=>absurd h (dqW _)
 | 0,k+1,i,hi,_=>by
  show ziy P g (zfb P g k) _ _ _ _ _ _ _ _=_/\zix S g (zfa S g k) _ _ _ _ _ _ _ _=_
  generalize zfb P g k=p
  generalize zfa S g k=s
  have e:i=g.len:=by omega
  subst e
  unfold ziy zix
  rw[dqF (show ¬ (g.len:Int) < (g.len:Int) by omega),dqB,dqB]
  exact⟨rfl,rfl⟩
 | m+1,k+1,i,hi,hk=>by
  have hil:i < g.len:=by omega
  obtain⟨i1,i2⟩:=zDw g hg a0 a1 a2 t f hf P S N F m k (i+1) (by omega) (by omega)
  show ziy P g (zfb P g k) _ _ _ _ _ _ _ _=_/\zix S g (zfa S g k) _ _ _ _ _ _ _ _=_
  generalize zfb P g k=p at i1 ⊢
  generalize zfa S g k=s at i2 ⊢
  unfold ziy zix
  rw[dqT (show (i:Int) < (g.len:Int) by omega),dqT (show 0<=(i:Int)/\(i:Int) < (g.len:Int) by omega),dqT (show 0<=(i:Int) by omega),dqN,hf i hil,zbk (n:=g.len) hil (by omega),dqA,dqA,Bool.true_and,Bool.true_and]
  cases hb:f i
  ·rw[dqB,dqB,<- zDp hb];exact⟨i1,i2⟩
  ·rw[dqA,dqA,zDo (by omega) hb];exact⟨i1,i2⟩
theorem zDx (g:Sl Gate) (hg:g.len < 40){b:Nat}(hb:b < 2 ^ 40):∀ (m k i:Nat) (o:Sl Int),i+m=g.len->m < k->IsN o (ixs b.testBit i) ->
  ∃ x,zkX g (b:Int) k (i:Int) o=some x/\IsN x (ixs b.testBit g.len)
 | _,0,_,_,_,h,_=>absurd h (dqW _)
 | 0,k+1,i,o,hi,_,ho=>by
  have e:i=g.len:=by omega
  subst e
  refine⟨o,?_,ho⟩
  unfold zkX
  rw[dqF (show ¬ (g.len:Int) < (g.len:Int) by omega),dqB]
 | m+1,k+1,i,o,hi,hk,ho=>by
  have hil:i < g.len:=by omega
  have hol:=zt6 (f:=b.testBit) (n:=i)
  rw[<- ho.1] at hol
  unfold zkX
  rw[dqT (show (i:Int) < (g.len:Int) by omega),dqT (show 0<=(i:Int) by omega),zPO hb (by omega),dqT (show (o.len+1) * 8<=140737488355328/\o.len+1<=9223372036854775807 by omega),zbk (n:=g.len) hil (by omega)]
  have hx:=zvL (f:=b.testBit) (n:=i)
  cases hq:b.testBit i
  ·rw [hq, dqG (by simp), List.append_nil] at hx
   rw[<- hx] at ho
   exact zDx g hg hb m k (i+1) o (by omega) (by omega) ho
  ·rw [hq, dqP rfl] at hx
   have ho2:=zvK ho i
   rw[<- hx] at ho2
   exact zDx g hg hb m k (i+1) _ (by omega) (by omega) ho2
theorem zG3 (g:Sl Gate) (hg:g.len < 40){b:Nat}(hb:b < 2 ^ 40):∃ x,zhd g (b:Int)=some x/\IsN x (ixs b.testBit g.len) :=
 zDx g hg hb g.len Fuel 0 ⟨0,λ _=>default⟩ (by omega) (by simp only[Fuel];omega) zDq
end Go.Proofs
namespace Go.Proofs
open Go Go.Pm
set_option maxRecDepth 100000
set_option linter.unusedVariables false
theorem zhL (F:List Int->Option (List Int)):zcT F=zDs 1099511627776 F:=rfl
def zPR (C:(Nat->Bool)->Prop) (n:Nat) (h:Nat->Bool):Prop:=∀ h',C h'->(∀ i,i < n->h i=true->h' i=true)->∀ i,i < n->h' i=true->h i=true
attribute [local irreducible] zcT zDs
section
variable {K:Nat}{Q:Nat->Prop}{N:Nat}{F:List Int->Option (List Int)}(hM:MpOk 1099511627776 K Q N F)
include hM
theorem zDy {b:Nat}(hb:b < 2 ^ 40):zc3 F [(b:Int)]=true↔∀ c,Q c->c ≠ b->¬ (c &&& b)=b:=by
 unfold zc3
 rw[zhL,Bool.not_eq_true',Bool.eq_false_iff,ne_eq,List.any_eq_true]
 have key:∀ c:Nat,c < 2 ^ 40->(zwM (([(b:Int)]:List Int).getD 0 0) [(c:Int)]=true↔c ≠ b/\(c &&& b)=b):=λ c hc=>by
  have h1:c < 2 ^ 63:=Nat.lt_trans hc (by decide)
  have h2:b < 2 ^ 63:=Nat.lt_trans hb (by decide)
  show ((((c:Int) != (b:Int)) && (zpI .i64 (c:Int) (b:Int) == (b:Int)))=true)↔_
  rw[zvJ h1 h2,dqm,bne_iff_ne,beq_iff_eq]
  constructor
  ·rintro⟨a,b⟩;exact⟨λ e=>a (by rw[e]),by omega⟩
  ·rintro⟨a,b⟩;exact⟨λ e=>a (by omega),by rw[b]⟩
 constructor
 ·intro h c hc hne e
  exact h ⟨[(c:Int)],(zjl hM).2 ⟨c,hc,rfl⟩,(key c (hM.low c hc)).2 ⟨hne,e⟩⟩
 ·rintro h ⟨y, hy, hb⟩
  obtain⟨c,hc,rfl⟩:=(zjl hM).1 hy
  obtain⟨h1,h2⟩:=(key c (hM.low c hc)).1 hb
  exact h c hc h1 h2
end
theorem zlk (h:Nat->Bool) (n:Nat):ixs (zes h n).testBit n=ixs h n:=zq8 λ i hi=>by rw[zeh,dqT hi,Bool.true_and]
theorem zDz {W:List (Sl Int)}{n:Nat}(hn:n<=1000000) (hW:∀ x∈W,IsN x (tlN x)/\(tlN x).length<=n) (hd:W.Pairwise λ x y=>tlN x ≠ tlN y):SoL s59 (λ x y=>decide (p59 x y=true)) W:=by
 have c:∀ x∈W,∀ y∈W,p59 x y=true/\s59 x y=cmpL (tlN x) (tlN y):=λ x hx y hy=>zG2 (hW x hx).1 (hW y hy).1 (dqE (hW x hx).2 hn)
 refine⟨λ x hx=>?_,?_,λ x hx y hy z hz h1 h2=>?_,λ x hx y hy=>dqT (c x hx y hy).1⟩
 ·rw[(c x hx x hx).2,zfR];omega
 ·refine List.Pairwise.imp_of_mem (fun {x y} hx hy hne => ?_) hd
  have h1:=zpA (tlN x) (tlN y)
  have h2:cmpL (tlN x) (tlN y) ≠ 0:=λ e=>hne (zjk e)
  unfold SyL
  rw[(c x hx y hy).2,(c y hy x hx).2]
  omega
 ·rw [(c x hx y hy).2] at h1
  rw[(c y hy z hz).2] at h2
  rw[(c x hx z hz).2]
  exact zed h1 h2
theorem zt8 {m : Nat} {g : Nat → Sl Int} {W : List (Sl Int)} {n : Nat} (hn : n ≤ 1000000) (hg : IsL m g W) (hW : ∀ x ∈ W, IsN x (tlN x) ∧ (tlN x).length ≤ n) (hd : W.Pairwise fun x y => tlN x ≠ tlN y) :
  ∃ M,zeN ⟨m,zgz m (λ i j=>s59 (g i) (g j)) g⟩ M/\M.Pairwise ltS/\∀ A,A∈M↔∃ x∈W,tlN x=A:=by
 have hso:=zDz hn hW hd
 have hp:=(zlh hg hso).1
 have hw:=(zlh hg hso).2
 have l1:(zfu m (λ i j=>s59 (g i) (g j))).length=m:=by rw[(zeQ m).length_eq,List.length_range]
 refine⟨((zfu m (λ i j=>s59 (g i) (g j))).map g).map tlN,?_,?_,λ A=>?_⟩
 ·refine ⟨by show m = _; rw [List.length_map, List.length_map, l1], fun k hk => ?_⟩
  rw[List.length_map,List.length_map] at hk
  have e:zgz m (λ i j=>s59 (g i) (g j)) g k=((zfu m (λ i j=>s59 (g i) (g j))).map g)[k]'(by rw[List.length_map];exact hk):=by
   show g ((zfu m (λ i j=>s59 (g i) (g j))).getD k _)=_
   rw[List.getElem_map,List.getD_eq_getElem?_getD,dqD hk];rfl
  show IsN (zgz m (λ i j=>s59 (g i) (g j)) g k) _
  rw[e]
  have hz:=(hW (g ((zfu m (λ i j=>s59 (g i) (g j)))[k])) (hp.mem_iff.1 (dqz.2 ⟨_,List.getElem_mem _,rfl⟩))).1
  simp only[List.getElem_map]
  exact hz
 ·rw [List.pairwise_map]
  have hd':((zfu m (λ i j=>s59 (g i) (g j))).map g).Pairwise λ x y=>tlN x ≠ tlN y:=(hp.pairwise_iff (λ h=>Ne.symm h)).2 hd
  refine List.Pairwise.imp_of_mem (fun {x y} hx hy h=>?_) (hw.and hd')
  have hx:=hp.mem_iff.1 hx
  have hy:=hp.mem_iff.1 hy
  obtain⟨h1,h2⟩:=h
  rw[(zG2 (hW y hy).1 (hW x hx).1 (dqE (hW y hy).2 hn)).2] at h1
  rcases znj h2 with h | h
  ·exact h
  ·exact absurd h h1
 ·rw [dqz]
  exact⟨λ ⟨x,hx,e⟩=>⟨x,hp.mem_iff.1 hx,e⟩,λ ⟨x,hx,e⟩=>⟨x,hp.mem_iff.2 hx,e⟩⟩
theorem zvO {g : Sl Gate} (hg : g.len < 40) {K : Nat} (hK : K ≤ 1000000) {C : (Nat → Bool) → Prop} {Q : Nat → Prop} {N : Nat} {F : List Int → Option (List Int)} (hM : MpOk 1099511627776 K Q N F)
    (hQ:∀ b,Q b↔∃ h,C h/\b=zes h g.len):zhi g N F=true/\∃ M,zeN (zhh g N F) M/\M.Pairwise ltS/\∀ A,A∈M↔∃ h,C h/\A=ixs h g.len/\zPR C g.len h:=by
  have hlow:=hM.low
  have hset:∀ y∈zcT F,∃ b:Nat,Q b/\y=[(b:Int)]/\∃ x,zhd g (y.getD 0 0)=some x/\IsN x (ixs b.testBit g.len):=λ y hy=>by
    rw[zhL] at hy
    obtain⟨b,hb,rfl⟩:=(zjl hM).1 hy
    obtain⟨x,h1,h2⟩:=zG3 g hg (hlow b hb)
    exact⟨b,hb,rfl,x,h1,h2⟩
  have hkeys:keysB 1 N F (zcT F)=true:=by rw[zhL];exact zFo hM
  have hgd:∀ y∈zcT F,zMd g N F y:=λ y hy=>by
    obtain⟨b,hb,e,x,h1,h2⟩:=hset y hy
    exact⟨hkeys,λ _=>by rw[h1];rfl⟩
  have hkl:(zcT F).length<=K:=by rw[zhL,<- hM.num];exact hM.few
  have hfl:((zcT F).filter (zc3 F)).length<=K:=dqE (List.length_filter_le _ _) hkl
  have hi:=ztq g F (zcT F) ⟨0,λ _=>default⟩ [] ⟨rfl,λ k hk=>absurd hk (dqW _)⟩
  rw[List.nil_append] at hi
  have hal:=zhK g F (zcT F) ⟨0,λ _=>default⟩
  have hal:(zli g F (zcT F) ⟨0,λ _=>default⟩).len<=1000000:=by rw[hal];show 0+_<=_;omega
  have hWm:∀ x∈((zcT F).filter (zc3 F)).map (λ y=>(zhd g (y.getD 0 0)).getD default),∃ b,Q b/\zc3 F [(b:Int)]=true/\IsN x (ixs b.testBit g.len):=λ x hx=>by
    obtain⟨y,hy,rfl⟩:=dqz.1 hx
    obtain⟨hy,hk⟩:=List.mem_filter.1 hy
    obtain⟨b,hb,rfl,x,h1,h2⟩:=hset y hy
    exact⟨b,hb,hk,by rw[h1];exact h2⟩
  have hW:∀ x∈((zcT F).filter (zc3 F)).map (λ y=>(zhd g (y.getD 0 0)).getD default),IsN x (tlN x)/\(tlN x).length<=g.len:=λ x hx=>by
    obtain⟨b,_,_,h⟩:=hWm x hx
    rw[zq7 h];exact⟨h,zt6⟩
  have hd:(((zcT F).filter (zc3 F)).map (λ y=>(zhd g (y.getD 0 0)).getD default)).Pairwise λ x y=>tlN x ≠ tlN y:=by
    rw[List.pairwise_map]
    have hnd:((zcT F).filter (zc3 F)).Nodup:=by rw[zhL];exact (zoa hM).sublist List.filter_sublist
    refine List.Pairwise.imp_of_mem (fun {y z} hy hz hne=>?_) hnd
    obtain⟨b,hb,rfl,x,h1,h2⟩:=hset y (List.mem_filter.1 hy).1
    obtain⟨c,hc,rfl,w,k1,k2⟩:=hset z (List.mem_filter.1 hz).1
    rw[h1,k1]
    show tlN x ≠ tlN w
    rw[zq7 h2,zq7 k2]
    intro e
    apply hne
    obtain⟨h,_,rfl⟩:=(hQ b).1 hb
    obtain⟨h',_,rfl⟩:=(hQ c).1 hc
    rw[zlk,zlk] at e
    rw[zt4.2 (zt7 e)]
  obtain⟨M,m1,m2,m3⟩:=zt8 (n:=g.len) (by omega) hi hW hd
  have hso:=zDz (n:=g.len) (by omega) hW hd
  have hmem:∀ A,A∈M↔∃ h,C h/\A=ixs h g.len/\zPR C g.len h:=λ A=>by
    rw[m3]
    constructor
    · rintro ⟨x, hx, rfl⟩
      obtain⟨b,hb,hk,h⟩:=hWm x hx
      obtain⟨f,hf,rfl⟩:=(hQ b).1 hb
      rw[zq7 h,zlk]
      refine⟨f,hf,rfl,λ f' hf' hle i hi hfi=>?_⟩
      have hk:=(zDy hM (hlow _ hb)).1 hk (zes f' g.len) ((hQ _).2 ⟨f',hf',rfl⟩)
      have e:zes f' g.len=zes f g.len:=Classical.byContradiction λ hne=>hk hne (zvI.2 hle)
      rw[<- zt4.1 e i hi];exact hfi
    · rintro ⟨f, hf, rfl, hmax⟩
      have hb:Q (zes f g.len):=(hQ _).2 ⟨f,hf,rfl⟩
      have hk:zc3 F [(zes f g.len:Int)]=true:=(zDy hM (hlow _ hb)).2 λ c hc hne e=>by
        obtain⟨f',hf',rfl⟩:=(hQ c).1 hc
        have hle:=zvI.1 e
        exact hne (zt4.2 λ i hi=>by
          rw[Bool.eq_iff_iff];exact⟨hmax f' hf' hle i hi,hle i hi⟩)
      have hy:[(zes f g.len:Int)]∈zcT F:=by rw[zhL];exact (zjl hM).2 ⟨_,hb,rfl⟩
      obtain⟨x,h1,h2⟩:=zG3 g hg (hlow _ hb)
      refine⟨_,dqz.2 ⟨_,List.mem_filter.2 ⟨hy,hk⟩,rfl⟩,?_⟩
      show tlN ((zhd g (zes f g.len:Int)).getD default)=_
      rw[h1]
      show tlN x=_
      rw[zq7 h2,zlk]
  have bw:=zQn g N F (zcT F) ⟨0,λ _=>default⟩ hgd (λ _=>by omega)
  have e4p:zhi g N F=(keysB 1 N F (zcT F) && zhg g N F (zcT F) && zcK g N F (zcT F) ⟨0,λ _=>default⟩):=rfl
  have e4s:zhh g N F=zdp g N F (zcT F) ⟨0,λ _=>default⟩:=rfl
  have eI:zhg g N F (zcT F)=true:=rfl
  rw[e4p,e4s,hkeys,eI,Bool.true_and,Bool.true_and]
  clear e4p e4s eI hgd
  generalize zli g F (zcT F) ⟨0,λ _=>default⟩=v at hi hal bw m1 ⊢
  have hex:zgm g N F v=true:=by
    unfold zgm
    rw[Bool.and_true]
    exact dqT ⟨by omega,zvx hi hso⟩
  obtain⟨b1,b2⟩:=bw hex
  rw[b2]
  refine⟨b1,M,?_,m2,hmem⟩
  have es:zhf g N F v=⟨v.len,zgz v.len (λ i j=>s59 (v.get i) (v.get j)) v.get⟩:=rfl
  rw[es];exact m1
end Go.Proofs
namespace Go.Proofs
open Go Go.Pm
set_option maxRecDepth 100000
theorem zvP (n a b:Int):s35 n a b=decide (a<=n/\n<=b):=by
 unfold s35;by_cases h:n >= a
 ·rw[dqT h,dqA];exact decide_eq_decide.2 ⟨λ k=>⟨h,k⟩,λ k=>k.2⟩
 ·rw[dqF h,dqB];exact (dqF λ k=>h k.1).symm
theorem zvQ (n a b:Int):s44 n a b=decide (a<=n/\n<=b):=zvP n a b
def zjm (g:Gate):Prop:=(0<=g.Z/\g.Z<=100000)/\-1000000<=g.Low/\g.Low<=g.High/\g.High<=1000000
def zcr (l:Sl Gate):Prop:=(∀ i,i < l.len->zjm (l.get i))/\1<=l.len/\l.len<=24
theorem zhM (a b:Bool):cond a b false=(a && b):=by cases a <;> rfl
theorem zG4 (g:Gate):s55 g=true↔zjm g:=by
 unfold s55 zjm
 rw[zvQ,zhM,zhM,zhM,dqm,dqm,dqm,decide_eq_true_eq,decide_eq_true_eq,decide_eq_true_eq,decide_eq_true_eq]
theorem zG5 (g:Gate):s34 g=true↔zjm g:=by
 unfold s34 zjm
 rw[zvP,zvP,zhM,zhM,dqm,dqm,decide_eq_true_eq,decide_eq_true_eq,decide_eq_true_eq]
 omega
theorem zDA (l:Sl Gate) (hn:l.len<=9223372036854775807):p28 l=true/\(s28 l=true↔zcr l):=by
  have := zvH (good := fun i => s55 (l.get i)) (fin := s44 (l.len : Int) 1 24) (n := l.len) (lpS := zjJ l) (lpP := zjK l)
    (λ k i hi=>by
      show zjH l (zjJ l k) (i:Int)=_
      generalize zjJ l k=S
      unfold zjH zr9
      rw[dqT (show (i:Int) < (l.len:Int) by omega),dqA,dqN]
      cases s55 (l.get i) <;> rfl)
    (λ k=>by
      show zjH l (zjJ l k) (l.len:Int)=_
      unfold zjH
      rw[dqF (show ¬ (l.len:Int) < (l.len:Int) by omega),dqB])
    (λ k i hi=>by
      show zjI l (zjK l k) (i:Int)=_
      generalize zjK l k=S
      unfold zjI zsa
      rw[dqT (show (i:Int) < (l.len:Int) by omega),dqA,dqN,dqT (show 0<=(i:Int)/\(i:Int) < (l.len:Int) by omega),Bool.true_and]
      cases s55 (l.get i) <;> rfl)
    (λ k=>by
      show zjI l (zjK l k) (l.len:Int)=_
      unfold zjI
      rw[dqF (show ¬ (l.len:Int) < (l.len:Int) by omega),dqB])
    hn
  refine⟨this.1,this.2.trans ?_⟩
  rw[zvQ,decide_eq_true_eq]
  exact⟨λ k=>⟨λ i hi=>(zG4 _).1 (k.1 i hi),by omega,by omega⟩,λ k=>⟨λ i hi=>(zG4 _).2 (k.1 i hi),by have:=k.2;omega⟩⟩
theorem zPS (l:Sl Gate) (hn:l.len<=9223372036854775807):p8 l=true/\(s8 l=true↔zcr l):=by
  have := zvH (good := fun i => s34 (l.get i)) (fin := s35 (l.len : Int) 1 24) (n := l.len) (lpS := zn5 l) (lpP := zn6 l)
    (λ k i hi=>by
      show zn3 l (zn5 l k) (i:Int)=_
      generalize zn5 l k=S
      unfold zn3 zCH
      rw[dqT (show (i:Int) < (l.len:Int) by omega),dqA,dqN]
      cases s34 (l.get i) <;> rfl)
    (λ k=>by
      show zn3 l (zn5 l k) (l.len:Int)=_
      unfold zn3
      rw[dqF (show ¬ (l.len:Int) < (l.len:Int) by omega),dqB])
    (λ k i hi=>by
      show zn4 l (zn6 l k) (i:Int)=_
      generalize zn6 l k=S
      unfold zn4 zCI
      rw[dqT (show (i:Int) < (l.len:Int) by omega),dqA,dqN,dqT (show 0<=(i:Int)/\(i:Int) < (l.len:Int) by omega),Bool.true_and]
      cases s34 (l.get i) <;> rfl)
    (λ k=>by
      show zn4 l (zn6 l k) (l.len:Int)=_
      unfold zn4
      rw[dqF (show ¬ (l.len:Int) < (l.len:Int) by omega),dqB])
    hn
  refine⟨this.1,this.2.trans ?_⟩
  rw[zvP,decide_eq_true_eq]
  exact⟨λ k=>⟨λ i hi=>(zG5 _).1 (k.1 i hi),by omega,by omega⟩,λ k=>⟨λ i hi=>(zG5 _).2 (k.1 i hi),by have:=k.2;omega⟩⟩
theorem zLW:∀ (k:Nat) (a b:Int),0<=a->0<=b->b < (k:Int) ->
  (zo3 k a b=true/\zo2 k a b=(Int.gcd a b:Int))/\(zpr k a b=true/\zpq k a b=(Int.gcd a b:Int)):=by
 intro k
 induction k with
 | zero=>intro a b _ h1 h2;omega
 | succ k ih =>
  intro a b ha hb hk
  show (zo1 (zo3 k) a b=true/\zo0 (zo2 k) a b=_)/\(zpp (zpr k) a b=true/\zpo (zpq k) a b=_)
  unfold zo1 zo0 zpp zpo
  by_cases h0:b=0
  ·subst h0
   simp[Int.natAbs_of_nonneg ha]
  ·have hb0 : b > 0 := by omega
   have e1:(b != (0:Int))=true:=by simpa using h0
   have m0:0<=a.tmod b:=Int.tmod_nonneg b ha
   have m1:a.tmod b < b:=Int.tmod_lt_of_pos a hb0
   have g:Int.gcd b (a.tmod b)=Int.gcd a b:=by
    obtain⟨m,rfl⟩:=Int.eq_ofNat_of_zero_le ha
    obtain⟨n,rfl⟩:=Int.eq_ofNat_of_zero_le hb
    show Nat.gcd n (m % n)=Nat.gcd m n
    rw[Nat.gcd_comm m n,Nat.gcd_rec n m,Nat.gcd_comm]
   obtain⟨⟨i1,i2⟩,i3,i4⟩:=ih b (a.tmod b) hb m0 (by omega)
   rw[dqT hb0,e1,dqT (show b ≠ 0 from h0),dqA,dqA,dqA,dqA,Bool.true_and,Bool.true_and,i1,i2,i3,i4,g]
   exact⟨⟨rfl,rfl⟩,rfl,rfl⟩
theorem zPT (a b:Int) (ha:0<=a) (hb:0<=b) (hk:b<=9223372036854775807):p54 a b=true/\s54 a b=(Int.gcd a b:Int) :=
 (zLW Fuel a b ha hb (by simp only[Fuel];omega)).2
-- the order of equal lists
end Go.Proofs
namespace Go.Proofs
open Go Go.Pm
set_option maxRecDepth 100000
def red (num den:Int):Frac:=⟨num.tdiv (Int.gcd num den:Int),den.tdiv (Int.gcd num den:Int)⟩
theorem zPU (num:Int):(if -num > num then -num else num)=(num.natAbs:Int):=by split <;> omega
theorem zLX (num den:Int):Int.gcd (num.natAbs:Int) den=Int.gcd num den:=by
 unfold Int.gcd;rw[Int.natAbs_natCast]
theorem zhD {num den:Int}(hd:0 < den):0 < (Int.gcd num den:Int):=by
 have:Int.gcd num den ≠ 0:=λ h=>by have:=(Int.gcd_eq_zero_iff.1 h).2;omega
 omega
theorem zUb (num den:Int):∃ a,num=(Int.gcd num den:Int) * a:=Int.gcd_dvd_left num den
theorem zUc (num den:Int):∃ a,den=(Int.gcd num den:Int) * a:=Int.gcd_dvd_right num den
theorem zt9 {num den:Int}(hd:0 < den):(Int.gcd num den:Int) * (red num den).Num=num:=by
 have hg:=zhD (num:=num) hd
 obtain⟨a,ha⟩:=zUb num den
 show (Int.gcd num den:Int) * num.tdiv (Int.gcd num den:Int)=num
 generalize (Int.gcd num den:Int)=g at ha hg ⊢
 rw[ha,Int.mul_tdiv_cancel_left _ (by omega)]
theorem zpB {num den:Int}(hd:0 < den):(Int.gcd num den:Int) * (red num den).Den=den:=by
 have hg:=zhD (num:=num) hd
 obtain⟨a,ha⟩:=zUc num den
 show (Int.gcd num den:Int) * den.tdiv (Int.gcd num den:Int)=den
 generalize (Int.gcd num den:Int)=g at ha hg ⊢
 rw[ha,Int.mul_tdiv_cancel_left _ (by omega)]
theorem zpC {num den:Int}(hd:0 < den):0 < (red num den).Den:=by
 have h1:=zpB (num:=num) hd
 have hg:=zhD (num:=num) hd
 rcases Int.lt_or_le 0 (red num den).Den with h | h
 ·exact h
 ·have := Int.mul_le_mul_of_nonneg_left h (Int.le_of_lt hg)
  rw[h1,Int.mul_zero] at this
  omega
theorem zDB {num den:Int}(hd:0 < den):(red num den).Den<=den:=by
 have h1:=zpB (num:=num) hd
 have hg:=zhD (num:=num) hd
 have:=Int.mul_le_mul_of_nonneg_right (show (1:Int)<=(Int.gcd num den:Int) by omega) (Int.le_of_lt (zpC (num:=num) hd))
 omega
theorem zua {num den:Int}(hd:0 < den) : -(num.natAbs:Int)<=(red num den).Num/\(red num den).Num<=(num.natAbs:Int):=by
 have h1:=zt9 (num:=num) hd
 have hg:=zhD (num:=num) hd
 have h2:num.natAbs=(Int.gcd num den) * (red num den).Num.natAbs:=by
  have:=congrArg Int.natAbs h1
  rw[Int.natAbs_mul] at this
  simpa using this.symm
 have h3:(red num den).Num.natAbs<=num.natAbs:=by
  rw[h2];exact Nat.le_mul_of_pos_left _ (by omega)
 omega
theorem zob {num den:Int}(h1 : -4611686018427387904<=num) (h2:num<=4611686018427387904) (hd:0 < den) (hd2:den<=4611686018427387904):p26 num den=true/\s26 num den=red num den:=by
 have e:w64 (0 - num) = -num:=by rw[zb7 (by omega) (by omega)];omega
 obtain⟨g1,g2⟩:=zPT (num.natAbs:Int) den (by omega) (by omega) (by omega)
 have hg:=zhD (num:=num) hd
 have r1:=zua (num:=num) hd
 have r2:=zDB (num:=num) hd
 have r3:=zpC (num:=num) hd
 unfold p26 s26
 rw[e,zPU,g1,g2,zLX]
 have w1:w64 (num.tdiv (Int.gcd num den:Int))=(red num den).Num:=zb7 (by show _<=(red num den).Num;omega) (by show (red num den).Num<=_;omega)
 have w2:w64 (den.tdiv (Int.gcd num den:Int))=(red num den).Den:=zb7 (by show _<=(red num den).Den;omega) (by show (red num den).Den<=_;omega)
 rw[w1,w2,dqT (show (Int.gcd num den:Int) ≠ 0 by omega)]
 exact⟨by simp only[decide_true,Bool.and_self],by cases red num den;simp only⟩
end Go.Proofs
namespace Go.Proofs
open Go Go.Pm
set_option maxRecDepth 100000
theorem zue {x y X Y:Int}(h1 : -X<=x) (h2:x<=X) (h3:0<=y) (h4:y<=Y) : -(X * Y)<=x * y/\x * y<=X * Y:=by
 have hX:0<=X:=by omega
 have a:=Int.mul_le_mul_of_nonneg_right h2 h3
 have b:=Int.mul_le_mul_of_nonneg_left h4 hX
 have c:=Int.mul_le_mul_of_nonneg_right h1 h3
 rw[Int.neg_mul] at c
 omega
def thr (z p y q:Int):straight:=if z > y then ⟨p - q,q * z - p * y,z - y⟩ else ⟨q - p,p * y - q * z,y - z⟩
def toL (s:straight):Line:=⟨red s.slope s.den,red s.start s.den⟩
theorem zpD {z p y q:Int}(hz:0<=z/\z<=100000) (hy:0<=y/\y<=100000) (hp : -1000000<=p/\p<=1000000) (hq : -1000000<=q/\q<=1000000):s78 z p y q=thr z p y q:=by
 have b1:=zue hp.1 hp.2 hy.1 hy.2
 have b2:=zue hq.1 hq.2 hz.1 hz.2
 unfold s78 zo8 thr
 rw[zb7 (x:=p * y) (by omega) (by omega),zb7 (x:=q * z) (by omega) (by omega)]
 by_cases h:z > y
 ·rw[dqT h,dqA,dqP h,zb7 (by omega) (by omega),zb7 (by omega) (by omega),zb7 (by omega) (by omega)]
 ·rw[dqF h,dqB,dqG h,zb7 (by omega) (by omega),zb7 (by omega) (by omega),zb7 (by omega) (by omega)]
theorem zPV {z p y q:Int}(hz:0<=z/\z<=100000) (hy:0<=y/\y<=100000) (hp : -1000000<=p/\p<=1000000) (hq : -1000000<=q/\q<=1000000) (hn:z ≠ y):p15 z p y q=true/\s15 z p y q=toL (thr z p y q):=by
 have b1:=zue hp.1 hp.2 hy.1 hy.2
 have b2:=zue hq.1 hq.2 hz.1 hz.2
 unfold p15 s15 zpw zpv thr toL
 rw[zb7 (x:=p * y) (by omega) (by omega),zb7 (x:=q * z) (by omega) (by omega)]
 by_cases h:z > y
 ·rw [dqT (show y < z from h), dqA, dqA, dqP h, zb7 (x := p - q) (by omega) (by omega), zb7 (x := z - y) (by omega) (by omega), zb7 (x := q * z - p * y) (by omega) (by omega)]
  obtain⟨c1,c2⟩:=zob (num:=p - q) (den:=z - y) (by omega) (by omega) (by omega) (by omega)
  obtain⟨d1,d2⟩:=zob (num:=q * z - p * y) (den:=z - y) (by omega) (by omega) (by omega) (by omega)
  rw[c1,c2,d1,d2]
  exact⟨by simp only[decide_true,Bool.and_self],rfl⟩
 ·rw [dqF (show ¬ y < z from h), dqB, dqB, dqG h, zb7 (x := q - p) (by omega) (by omega), zb7 (x := y - z) (by omega) (by omega), zb7 (x := p * y - q * z) (by omega) (by omega)]
  obtain⟨c1,c2⟩:=zob (num:=q - p) (den:=y - z) (by omega) (by omega) (by omega) (by omega)
  obtain⟨d1,d2⟩:=zob (num:=p * y - q * z) (den:=y - z) (by omega) (by omega) (by omega) (by omega)
  rw[c1,c2,d1,d2]
  exact⟨by simp only[decide_true,Bool.and_self],rfl⟩
def zra (a b:Gate):List straight:=if a.Z=b.Z then [] else [thr a.Z a.Low b.Z b.Low,thr a.Z a.Low b.Z b.High,thr a.Z a.High b.Z b.Low,thr a.Z a.High b.Z b.High]
def zrb (g : Sl Gate) (i : Nat) : Nat → Nat → List straight
  | 0,_=>[]
  | m+1,k=>zra (g.get i) (g.get k) ++ zrb g i m (k+1)
def zDR (g : Sl Gate) : Nat → Nat → List straight
  | 0,_=>[]
  | m+1,i=>zrb g i (g.len - (i+1)) (i+1) ++ zDR g m (i+1)
def cst (g:Sl Gate):List straight:=zDR g g.len 0
theorem ziL {g:Gate}(h:zjm g) : -1000000<=g.Low/\g.Low<=1000000:=⟨h.2.1,by have:=h.2;omega⟩
theorem zjn {g:Gate}(h:zjm g) : -1000000<=g.High/\g.High<=1000000:=⟨by have:=h.2;omega,h.2.2.2⟩
theorem zSo (g : Sl Gate) (G : zcr g) (i : Nat) (hi : i < g.len) (sl : Sl Gate) (hs : sl.len = g.len - (i + 1)) (hg : ∀ x, sl.get x = g.get (x + (i + 1)))
    (S0:Int->List straight) (P0:Int->Bool):∀ (m k j:Nat),j+m=sl.len->m < k ->
    zgc P0 ⟨g⟩ k (i:Int) sl (sl.len:Int) (j:Int) (g.get i).Z (g.get i).Low (g.get i).High=P0 ((i+1:Nat):Int) /\
    zgb S0 ⟨g⟩ k (i:Int) sl (sl.len:Int) (j:Int) (g.get i).Z (g.get i).Low (g.get i).High=zrb g i m (j+(i+1)) ++ S0 ((i+1:Nat):Int):=by
  have hl:=G.2.2
  intro m
  induction m with
  | zero =>
    intro k j hj hk
    obtain⟨k,rfl⟩:∃ k',k=k'+1:=⟨k - 1,by omega⟩
    show zie P0 ⟨g⟩ (zgc P0 ⟨g⟩ k) _ _ _ _ _ _ _=_/\zid S0 ⟨g⟩ (zgb S0 ⟨g⟩ k) _ _ _ _ _ _ _=_
    unfold zie zid
    rw[dqF (show ¬ (j:Int) < (sl.len:Int) by omega),dqB,dqB,zbk (n:=g.len) hi (by omega)]
    exact⟨rfl,rfl⟩
  | succ m ih =>
    intro k j hj hk
    obtain⟨k,rfl⟩:∃ k',k=k'+1:=⟨k - 1,by omega⟩
    obtain⟨i1,i2⟩:=ih k (j+1) (by omega) (by omega)
    show zie P0 ⟨g⟩ (zgc P0 ⟨g⟩ k) _ _ _ _ _ _ _=_/\zid S0 ⟨g⟩ (zgb S0 ⟨g⟩ k) _ _ _ _ _ _ _=zrb g i (m+1) (j+(i+1)) ++ _
    generalize zgc P0 ⟨g⟩ k=P at i1
    generalize zgb S0 ⟨g⟩ k=S at i2
    unfold zie zid
    have gi:=G.1 i hi
    have gk:=G.1 (j+(i+1)) (by omega)
    rw[dqT (show (j:Int) < (sl.len:Int) by omega),dqT (show 0<=(j:Int)/\(j:Int) < (sl.len:Int) by omega),dqA,dqA,Bool.true_and,dqN,hg,
      zbk (n:=sl.len) (by omega) (by omega),i1,i2,zpD gi.1 gk.1 (ziL gi) (ziL gk),zpD gi.1 gk.1 (ziL gi) (zjn gk),zpD gi.1 gk.1 (zjn gi) (ziL gk),zpD gi.1 gk.1 (zjn gi) (zjn gk)]
    show _/\_=(zra (g.get i) (g.get (j+(i+1))) ++ zrb g i m (j+(i+1)+1)) ++ _
    rw[show j+1+(i+1)=j+(i+1)+1 by omega]
    unfold zra
    by_cases hz:(g.get i).Z=(g.get (j+(i+1))).Z
    · rw [dqP hz, show ((g.get i).Z == (g.get (j + (i + 1))).Z) = true by simpa using hz]
      exact⟨rfl,rfl⟩
    · rw [dqG hz, show ((g.get i).Z == (g.get (j + (i + 1))).Z) = false by simpa using hz]
      exact⟨rfl,rfl⟩
theorem zLY (g:Sl Gate) (G:zcr g):p77 ⟨g⟩=true/\s77 ⟨g⟩=cst g:=by
 have hl:=G.2.2
 have key:∀ (m k i:Nat),i+m=g.len->m < k->zge ⟨g⟩ k (i:Int)=true/\zgd ⟨g⟩ k (i:Int)=zDR g m i:=by
  intro m
  induction m with
  | zero =>
   intro k i hi hk
   obtain⟨k,rfl⟩:∃ k',k=k'+1:=⟨k - 1,by omega⟩
   show zih ⟨g⟩ (zge ⟨g⟩ k) _=_/\zif ⟨g⟩ (zgd ⟨g⟩ k) _=_
   unfold zih zif
   rw[dqF (show ¬ (i:Int) < (g.len:Int) by omega),dqB,dqB]
   exact⟨rfl,rfl⟩
  | succ m ih =>
   intro k i hi hk
   obtain⟨k,rfl⟩:∃ k',k=k'+1:=⟨k - 1,by omega⟩
   obtain⟨i1,i2⟩:=ih k (i+1) (by omega) (by omega)
   show zih ⟨g⟩ (zge ⟨g⟩ k) _=_/\zif ⟨g⟩ (zgd ⟨g⟩ k) _=zrb g i (g.len - (i+1)) (i+1) ++ zDR g m (i+1)
   generalize zge ⟨g⟩ k=P at i1
   generalize zgd ⟨g⟩ k=S at i2
   unfold zih zif zsh zsg
   rw[zbk (n:=g.len) (by omega) (by omega)]
   rw[dqT (show (i:Int) < (g.len:Int) by omega),dqT (show 0<=(i:Int)/\(i:Int) < (g.len:Int) by omega),dqT (show 0<=((i+1:Nat):Int)/\((i+1:Nat):Int)<=(g.len:Int)/\(g.len:Int)<=(g.len:Int) by omega),
    dqA,dqA,Bool.true_and,Bool.true_and,dqN,dqN]
   have hs:((g.len:Int) - ((i+1:Nat):Int)).toNat=g.len - (i+1):=by omega
   have:=zSo g G i (by omega) (⟨((g.len:Int) - ((i+1:Nat):Int)).toNat,λ x=>g.get (x+(i+1))⟩:Sl Gate) hs (λ _=>rfl) S P (g.len - (i+1)) Fuel 0 (by show 0+(g.len - (i+1))=((g.len:Int) - ((i+1:Nat):Int)).toNat;omega) (by simp only[Fuel];omega)
   rw[i1,i2,Nat.zero_add] at this
   exact this
 exact key g.len Fuel 0 (by omega) (by simp only[Fuel];omega)
end Go.Proofs
namespace Go.Proofs
open Go Go.Pm
set_option maxRecDepth 100000
def apL {α:Type}(v:Sl α) (x:α):Sl α:=⟨v.len+1,zfe v.len v.get (λ _=>x)⟩
theorem zpE (g:Gate):s81 g 0=g.Low:=rfl
theorem zpF (g:Gate):s81 g 1=g.High:=rfl
theorem zSp (g : Sl Gate) (G : zcr g) (i k : Nat) (hi : i < g.len) (hk : k < g.len) (S0 : Int → Sl Line → Sl Line) (S1 : Int → Int → Sl Line → Sl Line) (P0 : Int → Sl Line → Bool) (P1 : Int → Int → Sl Line → Bool) (v : Sl Line) (hv : v.len ≤ 100000) (F : Nat) (hF : 5 ≤ F) :
  zeC P0 P1 g F (i:Int) (k:Int) 0 v=P1 (i:Int) ((k+1:Nat):Int) (((zra (g.get i) (g.get k)).map toL).foldl apL v) /\
  zeB S0 S1 g F (i:Int) (k:Int) 0 v=S1 (i:Int) ((k+1:Nat):Int) (((zra (g.get i) (g.get k)).map toL).foldl apL v):=by
 have hl:=G.2.2
 obtain⟨f,rfl⟩:∃ f,F=f+5:=⟨F - 5,by omega⟩
 have gi:=G.1 i hi
 have gk:=G.1 k hk
 have ei:decide (0<=(i:Int)/\(i:Int) < (g.len:Int))=true:=dqT (by omega)
 have ek:decide (0<=(k:Int)/\(k:Int) < (g.len:Int))=true:=dqT (by omega)
 have e2:decide ((2:Int) ≠ 0)=true:=by decide
 have sk:w64 ((k:Int)+(1:Int))=((k+1:Nat):Int):=zbk (n:=g.len) hk (by omega)
 -- one round
 have step:∀ (m:Nat) (e:Int) (v:Sl Line) (p q:Int),(0<=e/\e < 4)->v.len<=200000->s81 (g.get i) (w64 (e.tdiv (2:Int)))=p->s81 (g.get k) (e.tmod (2:Int))=q ->
   (-1000000<=p/\p<=1000000)->(-1000000<=q/\q<=1000000)->(g.get i).Z ≠ (g.get k).Z ->
   zeC P0 P1 g (m+1) (i:Int) (k:Int) e v=zeC P0 P1 g m (i:Int) (k:Int) (e+1) (apL v (toL (thr (g.get i).Z p (g.get k).Z q))) /\
   zeB S0 S1 g (m+1) (i:Int) (k:Int) e v=zeB S0 S1 g m (i:Int) (k:Int) (e+1) (apL v (toL (thr (g.get i).Z p (g.get k).Z q))):=by
  intro m e v p q he hv hp hq bp bq hz
  show zhr P0 P1 g (zeC P0 P1 g m) _ _ _ _=_/\zhq S0 S1 g (zeB S0 S1 g m) _ _ _ _=_
  generalize zeC P0 P1 g m=P
  generalize zeB S0 S1 g m=S
  obtain⟨t1,t2⟩:=zPV gi.1 gk.1 bp bq hz
  unfold zhr zhq
  rw[dqN,dqN,hp,hq,t1,t2,dqT (show e < 4 from he.2),ei,ek,e2,zb7 (x:=e+1) (by omega) (by omega),
   show ((g.get i).Z != (g.get k).Z)=true by simpa using hz,dqT (show (v.len+1) * 32<=140737488355328/\v.len+1<=9223372036854775807 by omega)]
  exact⟨rfl,rfl⟩
 unfold zra
 by_cases hz:(g.get i).Z=(g.get k).Z
 ·rw [dqP hz]
  show zhr P0 P1 g (zeC P0 P1 g (f+4)) _ _ _ _=_/\zhq S0 S1 g (zeB S0 S1 g (f+4)) _ _ _ _=_
  generalize zeC P0 P1 g (f+4)=P
  generalize zeB S0 S1 g (f+4)=S
  unfold zhr zhq
  rw[dqN,dqN,ei,ek,sk,dqT (show (0:Int) < 4 by omega),show ((g.get i).Z != (g.get k).Z)=false by simpa using hz]
  exact⟨rfl,rfl⟩
 ·rw [dqG hz]
  have a0:=step (f+4) 0 v _ _ (by omega) (by omega) (zpE _) (zpE _) (ziL gi) (ziL gk) hz
  generalize hv1:apL v (toL (thr (g.get i).Z (g.get i).Low (g.get k).Z (g.get k).Low))=v1 at a0
  have l1:v1.len=v.len+1:=by rw[<- hv1];rfl
  have a1:=step (f+3) 1 v1 _ _ (by omega) (by omega) (zpE _) (zpF _) (ziL gi) (zjn gk) hz
  generalize hv2:apL v1 (toL (thr (g.get i).Z (g.get i).Low (g.get k).Z (g.get k).High))=v2 at a1
  have l2:v2.len=v1.len+1:=by rw[<- hv2];rfl
  have a2:=step (f+2) 2 v2 _ _ (by omega) (by omega) (zpF _) (zpE _) (zjn gi) (ziL gk) hz
  generalize hv3:apL v2 (toL (thr (g.get i).Z (g.get i).High (g.get k).Z (g.get k).Low))=v3 at a2
  have l3:v3.len=v2.len+1:=by rw[<- hv3];rfl
  have a3:=step (f+1) 3 v3 _ _ (by omega) (by omega) (zpF _) (zpF _) (zjn gi) (zjn gk) hz
  generalize hv4:apL v3 (toL (thr (g.get i).Z (g.get i).High (g.get k).Z (g.get k).High))=v4 at a3
  have b4:zeC P0 P1 g (f+1) (i:Int) (k:Int) 4 v4=P1 (i:Int) ((k+1:Nat):Int) v4/\zeB S0 S1 g (f+1) (i:Int) (k:Int) 4 v4=S1 (i:Int) ((k+1:Nat):Int) v4:=by
   show zhr P0 P1 g (zeC P0 P1 g f) _ _ _ _=_/\zhq S0 S1 g (zeB S0 S1 g f) _ _ _ _=_
   generalize zeC P0 P1 g f=P
   generalize zeB S0 S1 g f=S
   unfold zhr zhq
   rw[sk,dqF (show ¬ (4:Int) < 4 by omega)]
   exact⟨rfl,rfl⟩
  have fin:(([thr (g.get i).Z (g.get i).Low (g.get k).Z (g.get k).Low,thr (g.get i).Z (g.get i).Low (g.get k).Z (g.get k).High,thr (g.get i).Z (g.get i).High (g.get k).Z (g.get k).Low,thr (g.get i).Z (g.get i).High (g.get k).Z (g.get k).High]:List straight).map toL).foldl apL v=v4:=by
   simp only[dqK,List.map_nil,List.foldl_cons,List.foldl_nil,hv1,hv2,hv3,hv4]
  rw[fin]
  exact⟨(a0.1.trans (a1.1.trans (a2.1.trans a3.1))).trans b4.1,(a0.2.trans (a1.2.trans (a2.2.trans a3.2))).trans b4.2⟩
theorem zjo {α:Type}(l:List α):∀ v:Sl α,(l.foldl apL v).len=v.len+l.length:=by
 induction l with
 | nil=>intro v;rfl
 | cons x l ih=>intro v;rw[List.foldl_cons,ih];show v.len+1+l.length=v.len+(l.length+1);omega
theorem zvR (a b:Gate):(zra a b).length<=4:=by unfold zra;split <;> simp
theorem zvS (g:Sl Gate) (i m k:Nat):(zrb g i m k).length<=4 * m:=by
 induction m generalizing k with
 | zero=>exact dqt _
 | succ m ih=>show (zra _ _ ++ zrb g i m (k+1)).length<=_;rw[dqu];have:=ih (k+1);have:=zvR (g.get i) (g.get k);omega
theorem zUd (g:Sl Gate) (G:zcr g) (i:Nat) (hi:i < g.len) (S0:Int->Sl Line->Sl Line) (P0:Int->Sl Line->Bool):∀ (m F k:Nat) (v:Sl Line),k+m=g.len->m < F->v.len+4 * m<=100000 ->
  ziC P0 g F (i:Int) (k:Int) v=P0 ((i+1:Nat):Int) (((zrb g i m k).map toL).foldl apL v) /\
  ziB S0 g F (i:Int) (k:Int) v=S0 ((i+1:Nat):Int) (((zrb g i m k).map toL).foldl apL v):=by
 have hl:=G.2.2
 intro m
 induction m with
 | zero =>
  intro F k v hk hF hv
  obtain⟨f,rfl⟩:∃ f,F=f+1:=⟨F - 1,by omega⟩
  show zj2 P0 g (ziC P0 g f) _ _ _=_/\zj1 S0 g (ziB S0 g f) _ _ _=_
  generalize ziC P0 g f=P
  generalize ziB S0 g f=S
  unfold zj2 zj1
  rw[dqF (show ¬ (k:Int) < (g.len:Int) by omega),dqB,dqB,zbk (n:=g.len) hi (by omega)]
  exact⟨rfl,rfl⟩
 | succ m ih =>
  intro F k v hk hF hv
  obtain⟨f,rfl⟩:∃ f,F=f+1:=⟨F - 1,by omega⟩
  have ih:=λ v h=>ih f (k+1) v (by omega) (by omega) h
  show zj2 P0 g (ziC P0 g f) _ _ _=_/\zj1 S0 g (ziB S0 g f) _ _ _=_
  generalize ziC P0 g f=P at ih
  generalize ziB S0 g f=S at ih
  unfold zj2 zj1 ztG ztF
  rw[dqT (show (k:Int) < (g.len:Int) by omega),dqA,dqA]
  obtain⟨b1,b2⟩:=zSp g G i k hi (by omega) S0 S P0 P v (by omega) Fuel (by simp only[Fuel];omega)
  rw[b1,b2]
  have q4:=zvR (g.get i) (g.get k)
  have:=ih (((zra (g.get i) (g.get k)).map toL).foldl apL v) (by rw[zjo,List.length_map];omega)
  rw[<- List.foldl_append,<- List.map_append] at this
  exact this
theorem zPW (g:Sl Gate) (G:zcr g):p62 g=true/\s62 g=((cst g).map toL).foldl apL ⟨0,λ _=>default⟩:=by
 have hl:=G.2.2
 have key:∀ (m F i:Nat) (v:Sl Line),i+m=g.len->m < F->v.len+100 * m<=50000->zj6 g F (i:Int) v=true/\zj5 g F (i:Int) v=((zDR g m i).map toL).foldl apL v:=by
  intro m
  induction m with
  | zero =>
   intro F i v hi hF hv
   obtain⟨f,rfl⟩:∃ f,F=f+1:=⟨F - 1,by omega⟩
   show zj4 g (zj6 g f) _ _=_/\zj3 g (zj5 g f) _ _=_
   unfold zj4 zj3
   rw[dqF (show ¬ (i:Int) < (g.len:Int) by omega),dqB,dqB]
   exact⟨rfl,rfl⟩
  | succ m ih =>
   intro F i v hi hF hv
   obtain⟨f,rfl⟩:∃ f,F=f+1:=⟨F - 1,by omega⟩
   have ih:=λ v h=>ih f (i+1) v (by omega) (by omega) h
   show zj4 g (zj6 g f) _ _=_/\zj3 g (zj5 g f) _ _=_
   generalize zj6 g f=P at ih
   generalize zj5 g f=S at ih
   unfold zj4 zj3 ztJ ztI
   rw[dqT (show (i:Int) < (g.len:Int) by omega),dqA,dqA,zbk (n:=g.len) (by omega) (by omega)]
   obtain⟨b1,b2⟩:=zUd g G i (by omega) S P (g.len - (i+1)) Fuel (i+1) v (by omega) (by simp only[Fuel];omega) (by omega)
   rw[b1,b2]
   have c4:=zvS g i (g.len - (i+1)) (i+1)
   have:=ih (((zrb g i (g.len - (i+1)) (i+1)).map toL).foldl apL v) (by rw[zjo,List.length_map];omega)
   rw[<- List.foldl_append,<- List.map_append] at this
   exact this
 exact key g.len Fuel 0 _ (by omega) (by simp only[Fuel];omega) (by show 0+_<=_;omega)
end Go.Proofs
namespace Go.Proofs
open Go Go.Pm
set_option maxRecDepth 100000
def SOK (s:straight):Prop:=(-2000000<=s.slope/\s.slope<=2000000)/\(-200000000000<=s.start/\s.start<=200000000000)/\1<=s.den/\s.den<=100000
theorem zPX {z p y q:Int}(hz:0<=z/\z<=100000) (hy:0<=y/\y<=100000) (hp : -1000000<=p/\p<=1000000) (hq : -1000000<=q/\q<=1000000) (hn:z ≠ y):SOK (thr z p y q):=by
 have b1:=zue hp.1 hp.2 hy.1 hy.2
 have b2:=zue hq.1 hq.2 hz.1 hz.2
 unfold thr SOK
 by_cases h:z > y
 ·rw[dqP h];exact⟨⟨by show _<=p - q;omega,by show p - q<=_;omega⟩,⟨by show _<=q * z - p * y;omega,by show q * z - p * y<=_;omega⟩,by show _<=z - y;omega,by show z - y<=_;omega⟩
 ·rw[dqG h];exact⟨⟨by show _<=q - p;omega,by show q - p<=_;omega⟩,⟨by show _<=p * y - q * z;omega,by show p * y - q * z<=_;omega⟩,by show _<=y - z;omega,by show y - z<=_;omega⟩
theorem zFp {a b:Gate}{s:straight}(h:s∈zra a b):a.Z ≠ b.Z/\∃ p q,(p=a.Low\/p=a.High)/\(q=b.Low\/q=b.High)/\s=thr a.Z p b.Z q:=by
 unfold zra at h
 by_cases hz:a.Z=b.Z
 ·rw[dqP hz] at h;cases h
 ·rw [dqG hz] at h
  refine⟨hz,?_⟩
  simp only[dqq,List.not_mem_nil,or_false] at h
  rcases h with h | h | h | h
  ·exact⟨_,_,.inl rfl,.inl rfl,h⟩
  ·exact⟨_,_,.inl rfl,.inr rfl,h⟩
  ·exact⟨_,_,.inr rfl,.inl rfl,h⟩
  ·exact⟨_,_,.inr rfl,.inr rfl,h⟩
theorem zvT {g : Sl Gate} {i : Nat} {s : straight} : ∀ {m k : Nat}, s ∈ zrb g i m k → ∃ j, k ≤ j ∧ j < k + m ∧ s ∈ zra (g.get i) (g.get j)
  | 0,_,h=>by cases h
  | m+1,k,h=>by
    rcases dqg.1 h with h | h
    · exact⟨k,dqt _,by omega,h⟩
    · obtain ⟨j, a, b, c⟩ := zvT h
      exact⟨j,by omega,by omega,c⟩
theorem zvU {g : Sl Gate} {s : straight} : ∀ {m i : Nat}, s ∈ zDR g m i → ∃ a b, i ≤ a ∧ a < i + m ∧ a < b ∧ b < g.len ∧ s ∈ zra (g.get a) (g.get b)
  | 0,_,h=>by cases h
  | m+1,i,h=>by
    rcases dqg.1 h with h | h
    · obtain ⟨j, a, b, c⟩ := zvT h
      exact⟨i,j,dqt _,by omega,by omega,by omega,c⟩
    · obtain ⟨a, b, h1, h2, h3, h4, h5⟩ := zvU h
      exact⟨a,b,by omega,by omega,h3,h4,h5⟩
theorem zDC {g:Sl Gate}{s:straight}(h:s∈cst g):∃ a b,a < b/\b < g.len/\(g.get a).Z ≠ (g.get b).Z/\∃ p q,(p=(g.get a).Low\/p=(g.get a).High)/\(q=(g.get b).Low\/q=(g.get b).High)/\s=thr (g.get a).Z p (g.get b).Z q:=by
 obtain⟨a,b,_,_,h3,h4,h5⟩:=zvU h
 obtain⟨hz,r⟩:=zFp h5
 exact⟨a,b,h3,h4,hz,r⟩
theorem zG6 {g:Sl Gate}(G:zcr g){s:straight}(h:s∈cst g):SOK s:=by
 obtain⟨a,b,h1,h2,hz,p,q,hp,hq,rfl⟩:=zDC h
 have ga:=G.1 a (by omega)
 have gb:=G.1 b h2
 refine zPX ga.1 gb.1 ?_ ?_ hz
 ·rcases hp with rfl | rfl;exact ziL ga;exact zjn ga
 ·rcases hq with rfl | rfl;exact ziL gb;exact zjn gb
def plc (s:straight) (z:Int):Int:=s.start+s.slope * z
def zuf (s:straight) (g:Gate):Bool:=decide (g.Low * s.den<=plc s g.Z/\plc s g.Z<=g.High * s.den)
theorem zDD {s:straight}(S:SOK s){g:Gate}(G:zjm g):s57 s g=zuf s g:=by
 obtain⟨S1,S2,S3⟩:=S
 have b1:=zue S1.1 S1.2 G.1.1 G.1.2
 have b2:=zue (ziL G).1 (ziL G).2 (show 0<=s.den by omega) S3.2
 have b3:=zue (zjn G).1 (zjn G).2 (show 0<=s.den by omega) S3.2
 unfold s57 zuf plc
 rw[zvQ,zb7 (x:=s.slope * g.Z) (by omega) (by omega),zb7 (x:=s.start+s.slope * g.Z) (by omega) (by omega),zb7 (x:=g.Low * s.den) (by omega) (by omega),zb7 (x:=g.High * s.den) (by omega) (by omega)]
theorem zll {a x y:Int}(h:0 < a):a * x<=a * y↔x<=y:=⟨λ k=>Int.le_of_mul_le_mul_left k h,λ k=>Int.mul_le_mul_of_nonneg_left k (Int.le_of_lt h)⟩
theorem zLZ {s:straight}(S:SOK s){z:Int}(hz:0<=z/\z<=100000):∃ n d k,s63 (toL s) z=(n,d)/\0 < k/\k * n=s.den * plc s z/\k * d=s.den * s.den/\0 < d/\d<=10000000000:=by
  obtain⟨S1,S2,S3⟩:=S
  have hd:0 < s.den:=by omega
  have g1:=zhD (num:=s.slope) hd
  have g2:=zhD (num:=s.start) hd
  have r1:=zua (num:=s.slope) hd
  have r2:=zua (num:=s.start) hd
  have e1:=zt9 (num:=s.slope) hd
  have e2:=zpB (num:=s.slope) hd
  have e3:=zt9 (num:=s.start) hd
  have e4:=zpB (num:=s.start) hd
  have p1:=zpC (num:=s.slope) hd
  have p2:=zpC (num:=s.start) hd
  have q1:=zDB (num:=s.slope) hd
  have q2:=zDB (num:=s.start) hd
  unfold s63 toL
  simp only
  generalize (red s.slope s.den).Num=a at *
  generalize (red s.slope s.den).Den=b at *
  generalize (red s.start s.den).Num=c at *
  generalize (red s.start s.den).Den=d at *
  generalize (Int.gcd s.slope s.den:Int)=G1 at *
  generalize (Int.gcd s.start s.den:Int)=G2 at *
  have m1:=zue (x:=c) (X:=200000000000) (y:=b) (Y:=100000) (by omega) (by omega) (by omega) (by omega)
  have m2:=zue (x:=a) (X:=2000000) (y:=z) (Y:=100000) (by omega) (by omega) hz.1 hz.2
  have m3:=zue (x:=a * z) (X:=2000000 * 100000) (y:=d) (Y:=100000) (by omega) (by omega) (by omega) (by omega)
  have m4:=zue (x:=d) (X:=100000) (y:=b) (Y:=100000) (by omega) (by omega) (by omega) (by omega)
  have m5:=Int.mul_pos p2 p1
  rw[zb7 (x:=c * b) (by omega) (by omega),zb7 (x:=a * z) (by omega) (by omega),zb7 (x:=a * z * d) (by omega) (by omega),zb7 (x:=c * b+a * z * d) (by omega) (by omega),zb7 (x:=d * b) (by omega) (by omega)]
  refine⟨_,_,G1 * G2,rfl,Int.mul_pos g1 g2,?_,?_,m5,by omega⟩
  · unfold plc
    have t1:G1 * G2 * (c * b)=s.den * s.start:=by
      calc G1 * G2 * (c * b) = (G1 * b) * (G2 * c) := by ac_rfl
        _=_:=by rw[e2,e3]
    have t2:G1 * G2 * (a * z * d)=s.den * (s.slope * z):=by
      calc G1 * G2 * (a * z * d) = (G2 * d) * ((G1 * a) * z) := by ac_rfl
        _=_:=by rw[e4,e1]
    rw[Int.mul_add,t1,t2,Int.mul_add]
  · calc G1 * G2 * (d * b) = (G1 * b) * (G2 * d) := by ac_rfl
      _=_:=by rw[e2,e4]
theorem zG7 {s:straight}(S:SOK s){g:Gate}(G:zjm g):s38 (toL s) g=zuf s g:=by
  obtain⟨n,d,k,e,hk,kn,kd,d1,d2⟩:=zLZ S G.1
  have hd:0 < s.den:=by have:=S.2.2;omega
  have b2:=zue (ziL G).1 (ziL G).2 (show 0<=d by omega) d2
  have b3:=zue (zjn G).1 (zjn G).2 (show 0<=d by omega) d2
  have key:∀ x:Int,k * (x * d)=s.den * (x * s.den):=λ x=>by
    calc k * (x * d) = x * (k * d) := by ac_rfl
      _=s.den * (x * s.den):=by rw[kd];ac_rfl
  unfold s38 zuf
  rw[e,zhM]
  simp only
  rw[zb7 (x:=g.Low * d) (by omega) (by omega),zb7 (x:=g.High * d) (by omega) (by omega),Bool.decide_and]
  congr 1
  · refine decide_eq_decide.2 ?_
    rw[<- zll hk,key,kn,zll hd]
  · refine decide_eq_decide.2 ?_
    rw[<- zll hk,key,kn,zll hd]
end Go.Proofs
namespace Go.Proofs
open Go Go.Pm
set_option maxRecDepth 100000
theorem zG8 {c:Nat->Bool}{n:Nat} : fst c n < n↔∃ i,i < n/\c i=true:=by
 refine⟨λ h=>⟨_,h,zPN h⟩,λ ⟨i,hi,hc⟩=>?_⟩
 rcases Nat.lt_or_ge (fst c n) n with h | h
 ·exact h
 ·have := zPM (c := c) (n := n) (j := i) (by omega)
  rw[hc] at this;cases this
def znx (g:Sl Gate):Prop:=∀ i,i < g.len->(g.get i).Z=(g.get 0).Z
theorem zPY (g:Sl Gate) (G:zcr g):p49 ⟨g⟩=true/\(s49 ⟨g⟩=true↔znx g):=by
  have hl:=G.2.2
  have hl1:=G.2.1
  have p75:∀ x,p75 ⟨g⟩ x=true:=λ x=>by
    unfold p75
    rw[dqT (show 0<=(0:Int)/\(0:Int) < ((⟨g⟩:list).Gates.len:Int) from ⟨by omega,by show (0:Int) < (g.len:Int);omega⟩)];rfl
  have := zFl (c := s75 ⟨g⟩) (lpS := zo6 ⟨g⟩) (lpP := zo7 ⟨g⟩)
    (λ k s t i=>by
      show zo4 ⟨g⟩ (zo6 ⟨g⟩ k) s t i=_
      unfold zo4 zsb;rfl)
    (λ k s t i=>by
      show zo5 ⟨g⟩ (zo7 ⟨g⟩ k) s t i=_
      unfold zo5 zsc
      rw[p75]
      simp only[decide_true,Bool.true_and])
    g (by omega)
  obtain⟨a,b⟩:=this
  have e:p89 ⟨g⟩ g=true:=a
  have f:s89 ⟨g⟩ g=_:=b
  unfold p49 s49 p74 s74
  show (decide ((decide (p89 ⟨g⟩ g=true) && true)=true) && true)=true/\((!decide (s89 ⟨g⟩ g >= 0))=true↔_)
  rw[e,f]
  refine⟨by simp,?_⟩
  rw[Bool.not_eq_true',decide_eq_false_iff_not]
  by_cases h:fst (λ i=>s75 ⟨g⟩ (g.get i)) g.len < g.len
  · rw [dqP h]
    obtain⟨i,hi,hc⟩:=zG8.1 h
    refine⟨λ k=>absurd (show ((fst (λ i=>s75 ⟨g⟩ (g.get i)) g.len:Nat):Int) >= 0 by omega) k,λ k=>?_⟩
    have hc:((g.get i).Z != (g.get 0).Z)=true:=hc
    rw[k i hi] at hc
    simp at hc
  · rw [dqG h]
    refine⟨λ _ i hi=>?_,λ _=>by omega⟩
    have:=mt zG8.2 h
    have hc : ¬ ((g.get i).Z != (g.get 0).Z)=true:=λ hc=>this ⟨i,hi,hc⟩
    simpa using hc
theorem zPZ (g:Sl Gate) (G:zcr g):p61 g=true/\(s61 g=true↔znx g):=by
 have hl:=G.2.2
 have hl1:=G.2.1
 have key:∀ (m k i:Nat),i+m=g.len->m < k->zj0 g k (i:Int)=true/\(zjZ g k (i:Int)=true↔∀ j,i<=j->j < g.len->(g.get j).Z=(g.get 0).Z):=by
  intro m
  induction m with
  | zero =>
   intro k i hi hk
   obtain⟨k,rfl⟩:∃ k',k=k'+1:=⟨k - 1,by omega⟩
   show zjY g (zj0 g k) _=_/\(zjX g (zjZ g k) _=_↔_)
   unfold zjY zjX
   rw[dqF (show ¬ (i:Int) < (g.len:Int) by omega),dqB,dqB]
   exact⟨rfl,⟨λ _ j a b=>absurd b (by omega),λ _=>rfl⟩⟩
  | succ m ih =>
   intro k i hi hk
   obtain⟨k,rfl⟩:∃ k',k=k'+1:=⟨k - 1,by omega⟩
   obtain⟨i1,i2⟩:=ih k (i+1) (by omega) (by omega)
   show zjY g (zj0 g k) _=_/\(zjX g (zjZ g k) _=_↔_)
   generalize zj0 g k=P at i1
   generalize zjZ g k=S at i2
   unfold zjY zjX
   rw[dqT (show (i:Int) < (g.len:Int) by omega),dqT (show 0<=(i:Int)/\(i:Int) < (g.len:Int) by omega),dqT (show 0<=(0:Int)/\(0:Int) < (g.len:Int) by omega),dqA,dqA,dqN,zbk (n:=g.len) (by omega) (by omega),i1]
   by_cases hz:(g.get i).Z=(g.get 0).Z
   ·rw [show ((g.get i).Z != (g.get 0).Z) = false by simpa using hz, dqB, dqB]
    refine⟨by simp,i2.trans ⟨λ h j a b=>?_,λ h j a b=>h j (by omega) b⟩⟩
    by_cases hj:j=i
    ·rw[hj];exact hz
    ·exact h j (by omega) b
   ·rw [show ((g.get i).Z != (g.get 0).Z) = true by simpa using hz, dqA, dqA]
    exact⟨by simp,⟨λ h=>(by cases h),λ h=>absurd (h i (dqt _) (by omega)) hz⟩⟩
 obtain⟨a,b⟩:=key (g.len - 1) Fuel 1 (by omega) (by simp only[Fuel];omega)
 refine⟨a,Iff.trans b ⟨λ h i hi=>?_,λ h j _ hj=>h j hj⟩⟩
 by_cases h0:i=0
 ·rw[h0]
 ·exact h i (by omega) hi
end Go.Proofs
namespace Go.Proofs
open Go Go.Pm
set_option maxRecDepth 100000
theorem zpG {g:Sl Gate}(h:znx g):cst g=[]:=by
 rcases List.eq_nil_or_concat (cst g) with e | ⟨l,x,e⟩
 ·exact e
 ·have : x ∈ cst g := by rw [e]; simp
  obtain⟨a,b,h1,h2,hz,_⟩:=zDC this
  exact absurd ((h a (by omega)).trans (h b h2).symm) hz
theorem zFq (g:Sl Gate):∀ m i,(zDR g m i).length<=4 * g.len * m:=by
 intro m
 induction m with
 | zero=>intro i;exact dqt _
 | succ m ih =>
  intro i
  show (zrb g i (g.len - (i+1)) (i+1) ++ zDR g m (i+1)).length<=_
  rw[dqu,Nat.mul_succ]
  have:=ih (i+1)
  have:=zvS g i (g.len - (i+1)) (i+1)
  omega
theorem zug {g:Sl Gate}(G:zcr g):(cst g).length<=2304:=by
 have h1:=zFq g g.len 0
 have hl:=G.2.2
 have:4 * g.len * g.len<=4 * 24 * 24:=Nat.mul_le_mul (by omega) hl
 exact dqE h1 this
end Go.Proofs
namespace Go.Proofs
open Go Go.Pm
set_option maxRecDepth 100000
set_option linter.unusedVariables false
def zDS (g:Sl Gate) (s:straight) (i:Nat):Bool:=zuf s (g.get i)
def zvV (g:Sl Gate) (a i:Nat):Bool:=decide ((g.get i).Low<=(g.get a).Low/\(g.get a).Low<=(g.get i).High)
def Cnd (g:Sl Gate) (h:Nat->Bool):Prop:=(znx g/\∃ a,a < g.len/\h=zvV g a)\/∃ s,s∈cst g/\h=zDS g s
theorem zG9 {g:Sl Gate}(G:zcr g):∀ (l:List straight) (K:Nat) (Q:Nat->Prop) (N:Nat) (F:List Int->Option (List Int)),(∀ s∈l,SOK s)->MpOk 1099511627776 K Q N F ->
  ∃ N' F',MpOk 1099511627776 (K+l.length) (λ b=>Q b\/∃ s,s∈l/\b=zes (zDS g s) g.len) N' F'/\zgo g l N F=zhi g N' F'/\zgn g l N F=zhh g N' F'
 | [],K,Q,N,F,_,hM=>⟨N,F,hM.congr λ b=>⟨.inl,λ h=>h.resolve_right (by rintro⟨s,hs,_⟩;cases hs)⟩,rfl,rfl⟩
 | y :: r,K,Q,N,F,hS,hM=>by
  have hl:=G.2.2
  obtain⟨N',F',h1,h2,h3⟩:=zG9 G r (K+1) _ _ _ (λ s hs=>hS s (dqf _ hs)) (zDt hM (zDu (f:=zDS g y) (n:=g.len) (by omega)))
  refine⟨N',F',?_,?_,?_⟩
  ·rw [show K + (y :: r).length = K + 1 + r.length by rw [dqr]; omega]
   refine h1.congr λ b=>?_
   constructor
   ·rintro ((h | h) | ⟨s, hs, e⟩)
    ·exact .inl h
    ·exact .inr ⟨y,dqj,h⟩
    ·exact .inr ⟨s,dqf _ hs,e⟩
   ·rintro (h | ⟨s, hs, e⟩)
    ·exact .inl (.inl h)
    ·rcases dqq.1 hs with rfl | hs
     ·exact .inl (.inr e)
     ·exact .inr ⟨s,hs,e⟩
  ·rw [← h2]
   exact (zDv g (by omega) y (zDS g y) (λ i hi=>zDD (hS y dqj) (G.1 i hi)) (zgo g r) (zgn g r) N F g.len Fuel 0 (by omega) (by simp only[Fuel];omega)).1
  ·rw [← h3]
   exact (zDv g (by omega) y (zDS g y) (λ i hi=>zDD (hS y dqj) (G.1 i hi)) (zgo g r) (zgn g r) N F g.len Fuel 0 (by omega) (by simp only[Fuel];omega)).2
theorem zHa {g : Sl Gate} (G : zcr g) {K : Nat} {Q : Nat → Prop} {N : Nat} {F : List Int → Option (List Int)} (hM : MpOk 1099511627776 K Q N F) :
  ∃ N' F',MpOk 1099511627776 (K+2304) (λ b=>Q b\/∃ s,s∈cst g/\b=zes (zDS g s) g.len) N' F'/\zhk g N F=zhi g N' F'/\zhj g N F=zhh g N' F':=by
 obtain⟨N',F',h1,h2,h3⟩:=zG9 G (cst g) K Q N F (λ s hs=>zG6 G hs) hM
 obtain⟨e1,e2⟩:=zLY g G
 have hl:=zug G
 refine⟨N',F',⟨h1.val,h1.num,by have:=h1.few;omega,h1.low⟩,?_,?_⟩
 ·rw [← h2]
  have e:zhk g N F=(decide (p77 (⟨g⟩:list)=true) && zgo g (s77 (⟨g⟩:list)) N F):=rfl
  rw[e,e1,e2];rfl
 ·rw [← h3]
  have e:zhj g N F=zgn g (s77 (⟨g⟩:list)) N F:=rfl
  rw[e,e2]
theorem zHb {g:Sl Gate}(G:zcr g):∀ (m k i K:Nat) (Q:Nat->Prop) (N:Nat) (F:List Int->Option (List Int)),i+m=g.len->m < k->MpOk 1099511627776 K Q N F ->
  ∃ N' F',MpOk 1099511627776 (K+m) (λ b=>Q b\/∃ a,i<=a/\a < g.len/\b=zes (zvV g a) g.len) N' F'/\zeA g k (i:Int) N F=zhk g N' F'/\zez g k (i:Int) N F=zhj g N' F'
 | _,0,_,_,_,_,_,_,h,_=>absurd h (dqW _)
 | 0,k+1,i,K,Q,N,F,hi,_,hM=>by
  refine⟨N,F,hM.congr λ b=>⟨.inl,λ h=>h.resolve_right (by rintro⟨a,h1,h2,_⟩;omega)⟩,?_,?_⟩
  ·show ziA g (zeA g k) (i : Int) N F = _
   generalize zeA g k=P
   unfold ziA
   rw[dqF (show ¬ (i:Int) < (g.len:Int) by omega),dqB]
  ·show ziz g (zez g k) (i : Int) N F = _
   generalize zez g k=S
   unfold ziz
   rw[dqF (show ¬ (i:Int) < (g.len:Int) by omega),dqB]
 | m+1,k+1,i,K,Q,N,F,hi,hk,hM=>by
  have hl:=G.2.2
  have hil:i < g.len:=by omega
  obtain⟨N',F',h1,h2,h3⟩:=zHb G m k (i+1) (K+1) _ _ _ (by omega) (by omega) (zDt hM (zDu (f:=zvV g i) (n:=g.len) (by omega)))
  have h44:∀ j,j < g.len->s44 (g.get i).Low (g.get j).Low (g.get j).High=zvV g i j:=λ j _=>zvQ _ _ _
  refine⟨N',F',?_,?_,?_⟩
  ·rw [show K + (m + 1) = K + 1 + m by omega]
   refine h1.congr λ b=>?_
   constructor
   ·rintro ((h | h) | ⟨a, ha, hb, e⟩)
    ·exact .inl h
    ·exact .inr ⟨i,dqt _,hil,h⟩
    ·exact .inr ⟨a,by omega,hb,e⟩
   ·rintro (h | ⟨a, ha, hb, e⟩)
    ·exact .inl (.inl h)
    ·by_cases e' : a = i
     ·subst e';exact .inl (.inr e)
     ·exact .inr ⟨a,by omega,hb,e⟩
  ·rw [← h2]
   show ziA g (zeA g k) (i:Int) N F=_
   have:=(zDw g (by omega) (g.get i).Z (g.get i).Low (g.get i).High (i:Int) (zvV g i) h44 (zeA g k) (zez g k) N F g.len Fuel 0 (by omega) (by simp only[Fuel];omega)).1
   rw[zbk (n:=g.len) hil (by omega)] at this
   generalize zeA g k=P at this ⊢
   have e:ziA g P (i:Int) N F=cond (decide ((i:Int) < (g.len:Int))) (decide (0<=(i:Int)/\(i:Int) < (g.len:Int)) && zfb P g Fuel (zes (zvV g i) 0:Int) (i:Int) 0 (g.get (i:Int).toNat).Z (g.get (i:Int).toNat).Low (g.get (i:Int).toNat).High N F) (zhk g N F):=rfl
   rw[e,dqT (show (i:Int) < (g.len:Int) by omega),dqT (show 0<=(i:Int)/\(i:Int) < (g.len:Int) by omega),dqN,dqA,Bool.true_and]
   exact this
  ·rw [← h3]
   show ziz g (zez g k) (i:Int) N F=_
   have:=(zDw g (by omega) (g.get i).Z (g.get i).Low (g.get i).High (i:Int) (zvV g i) h44 (zeA g k) (zez g k) N F g.len Fuel 0 (by omega) (by simp only[Fuel];omega)).2
   rw[zbk (n:=g.len) hil (by omega)] at this
   generalize zez g k=S at this ⊢
   have e:ziz g S (i:Int) N F=cond (decide ((i:Int) < (g.len:Int))) (zfa S g Fuel (zes (zvV g i) 0:Int) (i:Int) 0 (g.get (i:Int).toNat).Z (g.get (i:Int).toNat).Low (g.get (i:Int).toNat).High N F) (zhj g N F):=rfl
   rw[e,dqT (show (i:Int) < (g.len:Int) by omega),dqN,dqA]
   exact this
theorem zHc (g:Sl Gate) (G:zcr g):p30 g=true/\∃ M,zeN (s30 g) M/\M.Pairwise ltS/\∀ A,A∈M↔∃ h,Cnd g h/\A=ixs h g.len/\zPR (Cnd g) g.len h:=by
 have hl:=G.2.2
 obtain⟨f1,f2⟩:=zPY g G
 unfold p30 s30
 rw[f1]
 cases hf:s49 (⟨g⟩:list)
 ·simp only [decide_true, Bool.true_and, dqB]
  have nf : ¬ znx g:=λ h=>by rw[f2.2 h] at hf;cases hf
  obtain⟨N,F,hM,e1,e2⟩:=zHa G (zvN 1099511627776)
  rw[e1,e2]
  refine zvO (C:=Cnd g) (by omega) (by omega) hM λ b=>?_
  constructor
  ·rintro (h | ⟨s, hs, e⟩)
   ·exact h.elim
   ·exact⟨_,.inr ⟨s,hs,rfl⟩,e⟩
  ·rintro ⟨h, (⟨h1, _⟩ | ⟨s, hs, rfl⟩), e⟩
   ·exact absurd h1 nf
   ·exact .inr ⟨s,hs,e⟩
 ·simp only [decide_true, Bool.true_and, dqA]
  have fl:znx g:=f2.1 hf
  obtain⟨N1,F1,hM1,e1,e2⟩:=zHb G g.len Fuel 0 0 _ _ _ (by omega) (by simp only[Fuel];omega) (zvN 1099511627776)
  obtain⟨N,F,hM,e3,e4⟩:=zHa G hM1
  have a1:ztz g (0:Int) 0 (λ _=>none)=zhi g N F:=e1.trans e3
  have a2:zty g (0:Int) 0 (λ _=>none)=zhh g N F:=e2.trans e4
  rw[a1,a2]
  refine zvO (C:=Cnd g) (by omega) (by omega) hM λ b=>?_
  rw[zpG fl]
  constructor
  ·rintro ((h | ⟨a, _, ha, e⟩) | ⟨s, hs, e⟩)
   ·exact h.elim
   ·exact⟨_,.inl ⟨fl,a,ha,rfl⟩,e⟩
   ·cases hs
  ·rintro ⟨h, (⟨_, a, ha, rfl⟩ | ⟨s, hs, rfl⟩), e⟩
   ·exact .inl (.inr ⟨a,Nat.zero_le _,ha,e⟩)
   ·rw[zpG fl] at hs;cases hs
end Go.Proofs
namespace Go.Proofs
open Go Go.Pm
set_option maxRecDepth 100000
set_option linter.unusedVariables false
theorem zvW {n m:Nat}{g h:Nat->Sl Int}{M M2:List (List Nat)}(h1:zeN ⟨n,g⟩ M) (h2:zeN ⟨m,h⟩ M2):zeN ⟨n+m,zfe n g h⟩ (M ++ M2):=by
 obtain⟨a1,a2⟩:=h1
 obtain⟨b1,b2⟩:=h2
 have a1:n=M.length:=a1
 have b1:m=M2.length:=b1
 subst a1 b1
 refine⟨by show M.length+M2.length=_;rw[dqu],λ k hk=>?_⟩
 show IsN (match Nat.ble M.length k with | true=>h (k - M.length) | false=>g k) _
 rw[dqu] at hk
 by_cases hq:k < M.length
 ·have e : Nat.ble M.length k = false := Bool.eq_false_iff.2 fun e => by have := Nat.le_of_ble_eq_true e; omega
  rw[e]
  simp only[List.getElem_append_left hq]
  exact a2 k hq
 ·have e : Nat.ble M.length k = true := Nat.ble_eq_true_of_le (by omega)
  rw[e]
  simp only[List.getElem_append_right (show M.length<=k by omega)]
  exact b2 (k - M.length) (by omega)
theorem zDE {l:Sl (Sl Int)}{M:List (List Nat)}(h:zeN l M){n:Nat}(hn:n<=M.length):zeN ⟨n,λ i=>l.get (i+0)⟩ (M.take n):=by
 refine⟨by show n=_;rw[List.length_take];omega,λ k hk=>?_⟩
 rw[List.length_take] at hk
 simp only[List.getElem_take]
 exact h.2 k (by omega)
theorem zDF {l:Sl (Sl Int)}{M:List (List Nat)}(h:zeN l M){n:Nat}(hn:n<=M.length):zeN ⟨M.length - n,λ i=>l.get (i+n)⟩ (M.drop n):=by
 refine⟨by show M.length - n=_;rw[List.length_drop],λ k hk=>?_⟩
 rw[List.length_drop] at hk
 simp only[List.getElem_drop]
 have:=h.2 (k+n) (by omega)
 rw[show M[n+k]=M[k+n]'(by omega) by congr 1;omega]
 exact this
theorem zFr {x:Sl Int}{A:List Nat}(h:IsN x A):zeN ⟨1,λ _=>x⟩ [A]:=⟨rfl,λ k hk=>by
 have:k=0:=by rw[List.length_singleton] at hk;omega
 subst this;exact h⟩
section
variable {l:Sl (Sl Int)}{M:List (List Nat)}{s:Sl Int}{A:List Nat}(hl:zeN l M) (hs:IsN s A) (hM:M.Pairwise ltS) (hlM:M.length<=100000) (hel:∀ B∈M,B.length<=1000)
include hl hs hM hlM hel
theorem zP0:∀ (m k i:Nat),i+m=M.length->m < k->(∀ B∈M.take i,ltS B A) ->
  zec l s k (i:Int)=true/\∃ M',zeN (zeb l s k (i:Int)) M'/\M'.Pairwise ltS/\(∀ B,B∈M'↔B∈M\/B=A)/\M'.length<=M.length+1:=by
 -- where the set goes in
 have ins:∀ i,i<=M.length->(∀ B∈M.take i,ltS B A)->(∀ h:i < M.length,ltS A M[i])->znb l s (i:Int)=true/\∃ M',zeN (zna l s (i:Int)) M'/\M'.Pairwise ltS/\(∀ B,B∈M'↔B∈M\/B=A)/\M'.length<=M.length+1:=by
  intro i hi hb ha
  have e0:((i:Int) - (0:Int)).toNat=i:=by omega
  have e1:((M.length:Int) - (i:Int)).toNat=M.length - i:=by omega
  have hd:∀ B∈M.drop i,ltS A B:=λ B hB=>by
   by_cases hq:i < M.length
   ·have hA := ha hq
    rw[dqR hq] at hB
    rcases dqq.1 hB with rfl | hB
    ·exact hA
    ·obtain ⟨j, hj, rfl⟩ := List.getElem_of_mem hB
     rw[List.getElem_drop]
     rw[List.length_drop] at hj
     exact zed hA (List.pairwise_iff_getElem.1 hM i (i+1+j) hq (by omega) (by omega))
   ·rw[dqO (by omega)] at hB;cases hB
  refine⟨?_,M.take i ++ [A] ++ M.drop i,?_,?_,λ B=>?_,?_⟩
  ·unfold znb
   rw[hl.1,e0,e1]
   simp only[Bool.and_true,dqm,decide_eq_true_eq]
   refine⟨⟨by omega,by omega,by omega⟩,⟨by omega,by omega⟩,⟨by omega,by omega⟩,⟨by omega,by omega,by omega⟩,by omega,by omega⟩
  ·unfold zna
   rw[hl.1,e0,e1,dqN]
   exact zvW (zvW (zDE hl hi) (zFr hs)) (zDF hl hi)
  ·rw [List.pairwise_append, List.pairwise_append]
   refine⟨⟨hM.sublist (List.take_sublist _ _),List.pairwise_singleton _ _,λ x hx y hy=>by rw[dqi] at hy;subst hy;exact hb x hx⟩,hM.sublist (List.drop_sublist _ _),λ x hx y hy=>?_⟩
   rcases dqg.1 hx with hx | hx
   ·exact zed (hb x hx) (hd y hy)
   ·rw[dqi] at hx;subst hx;exact hd y hy
  ·have e := List.take_append_drop i M
   have hm:B∈M↔B∈M.take i\/B∈M.drop i:=by rw[<- dqg,e]
   rw[dqg,dqg,dqi,hm]
   constructor
   ·rintro ((h | h) | h)
    ·exact .inl (.inl h)
    ·exact .inr h
    ·exact .inl (.inr h)
   ·rintro ((h | h) | h)
    ·exact .inl (.inl h)
    ·exact .inr h
    ·exact .inl (.inr h)
  ·rw[dqu,dqu,List.length_take,List.length_drop,List.length_singleton];omega
 intro m
 induction m with
 | zero =>
  intro k i hi hk hb
  obtain⟨k,rfl⟩:∃ k',k=k'+1:=⟨k - 1,by omega⟩
  obtain⟨i1,i2⟩:=ins i (by omega) hb (λ h=>by omega)
  have e1:zec l s (k+1) (i:Int)=znb l s (i:Int):=by
   show zhx l s (zec l s k) _=_
   generalize zec l s k=P
   unfold zhx znd zkk
   rw[hl.1,dqF (show ¬ (i:Int) < (M.length:Int) by omega),dqB,dqB,dqB]
  have e2:zeb l s (k+1) (i:Int)=zna l s (i:Int):=by
   show zhw l s (zeb l s k) _=_
   generalize zeb l s k=S
   unfold zhw znc zkj
   rw[hl.1,dqF (show ¬ (i:Int) < (M.length:Int) by omega),dqB,dqB,dqB]
  rw[e1,e2];exact⟨i1,i2⟩
 | succ m ih =>
  intro k i hi hk hb
  obtain⟨k,rfl⟩:∃ k',k=k'+1:=⟨k - 1,by omega⟩
  have hil:i < M.length:=by omega
  obtain⟨c1,c2⟩:=zFn (hl.2 i hil) hs (by have:=hel M[i] (List.getElem_mem _);omega)
  have d1:decide ((i:Int) < (M.length:Int))=true:=dqT (by omega)
  have d2:decide (0<=(i:Int)/\(i:Int) < (M.length:Int))=true:=dqT (by omega)
  by_cases h1:ltS M[i] A
  ·have hb2:∀ B∈M.take (i+1),ltS B A:=λ B hB=>by
    rw[List.take_succ_eq_append_getElem hil,dqg,dqi] at hB
    rcases hB with hB | rfl
    ·exact hb B hB
    ·exact h1
   have:=ih k (i+1) (by omega) (by omega) hb2
   have e1:zec l s (k+1) (i:Int)=zec l s k ((i+1:Nat):Int):=by
    show zhx l s (zec l s k) _=_
    generalize zec l s k=P
    unfold zhx
    rw[hl.1,d1,d2,dqN,c1,c2,dqT (show cmpL M[i] A < 0 from h1),zbk (n:=M.length) hil (by omega)];rfl
   have e2:zeb l s (k+1) (i:Int)=zeb l s k ((i+1:Nat):Int):=by
    show zhw l s (zeb l s k) _=_
    generalize zeb l s k=S
    unfold zhw
    rw[hl.1,d1,dqN,c2,dqT (show cmpL M[i] A < 0 from h1),zbk (n:=M.length) hil (by omega)];rfl
   rw[e1,e2];exact this
  ·have e1:zec l s (k+1) (i:Int)=zkk l s (i:Int) (cmpL M[i] A == (0:Int)):=by
    show zhx l s (zec l s k) _=_
    generalize zec l s k=P
    unfold zhx znd
    rw[hl.1,d1,d2,dqN,c1,c2,dqF (show ¬ cmpL M[i] A < 0 from h1)];rfl
   have e2:zeb l s (k+1) (i:Int)=zkj l s (i:Int) (cmpL M[i] A == (0:Int)):=by
    show zhw l s (zeb l s k) _=_
    generalize zeb l s k=S
    unfold zhw znc
    rw[hl.1,d1,dqN,c2,dqF (show ¬ cmpL M[i] A < 0 from h1)];rfl
   rw[e1,e2]
   unfold zkk zkj
   by_cases h2:M[i]=A
   ·have e : (cmpL M[i] A == (0:Int)) = true := by rw [h2, zfR]; rfl
    rw[e,dqA,dqA]
    exact⟨rfl,M,hl,hM,λ B=>⟨.inl,λ h=>h.elim id λ e=>by rw[e,<- h2];exact List.getElem_mem _⟩,by omega⟩
   ·have e : (cmpL M[i] A == (0:Int)) = false := dqU.2 fun e => h2 (zjk e)
    rw[e,dqB,dqB]
    exact ins i (by omega) hb λ _=>(znj h2).resolve_left h1
theorem zP1:p37 l s=true/\∃ M',zeN (s37 l s) M'/\M'.Pairwise ltS/\(∀ B,B∈M'↔B∈M\/B=A)/\M'.length<=M.length+1 :=
 zP0 hl hs hM hlM hel M.length Fuel 0 (by omega) (by simp only[Fuel];omega) (λ B hB=>by rw[List.take_zero] at hB;cases hB)
end
end Go.Proofs
namespace Go.Proofs
open Go Go.Pm
set_option maxRecDepth 100000
set_option linter.unusedVariables false
def zQo (A B:List Nat) (k i:Nat):Prop:=∀ x∈B.take k,∀ y∈A.drop i,x < y
theorem zDG {L:List Nat}(h:L.Pairwise (· < ·)) {i j:Nat}(hi:i < L.length) (hj:j < L.length) (hij:i < j):L[i] < L[j]:=List.pairwise_iff_getElem.1 h i j hi hj hij
section
variable {a b:Sl Int}{A B:List Nat}(ha:IsN a A) (hb:IsN b B) (hA:A.Pairwise (· < ·)) (hB:B.Pairwise (· < ·)) (hlA:A.length<=1000000) (hlB:B.length<=1000000)
include ha hb hA hB hlA hlB
theorem zSV (P0:Int->Int->Bool) (S0:Int->Int->Bool) (i:Nat) (hi:i < A.length):∀ (m f k:Nat),k+m=B.length->m < f->zQo A B k i ->
  (A[i]∈B/\∃ k',k' < B.length/\zQo A B k' (i+1)/\zdA P0 a b f (k:Int) (i:Int)=P0 (k':Int) ((i+1:Nat):Int)/\zdz S0 a b f (k:Int) (i:Int)=S0 (k':Int) ((i+1:Nat):Int)) \/
  (A[i] ∉ B/\zdA P0 a b f (k:Int) (i:Int)=true/\zdz S0 a b f (k:Int) (i:Int)=false)
 | _,0,_,_,h,_=>absurd h (dqW _)
 | 0,f+1,k,hk,_,hbef=>by
  have e:k=B.length:=by omega
  subst e
  refine .inr ⟨λ hm=>?_,?_,?_⟩
  ·have := hbef A[i] (by rw [List.take_length]; exact hm) A[i] (by rw [drop_at hi]; exact dqj)
   omega
  ·show zfD P0 a b (zdA P0 a b f) _ _ = _
   generalize zdA P0 a b f=P
   unfold zfD zki
   rw[hb.1,dqF (show ¬ (B.length:Int) < (B.length:Int) by omega),dqB,beq_self_eq_true,dqA]
  ·show zfC S0 a b (zdz S0 a b f) _ _ = _
   generalize zdz S0 a b f=S
   unfold zfC zkh
   rw[hb.1,dqF (show ¬ (B.length:Int) < (B.length:Int) by omega),dqB,beq_self_eq_true,dqA]
 | m+1,f+1,k,hk,hf,hbef=>by
  have hkl:k < B.length:=by omega
  have d1:decide ((k:Int) < (B.length:Int))=true:=dqT (by omega)
  have d2:decide (0<=(k:Int)/\(k:Int) < (B.length:Int))=true:=dqT (by omega)
  have d3:decide (0<=(i:Int)/\(i:Int) < (A.length:Int))=true:=dqT (by omega)
  have d4:((k:Int) == (B.length:Int))=false:=dqU.2 (by omega)
  by_cases hlt:B[k] < A[i]
  ·have hb2:zQo A B (k+1) i:=λ x hx y hy=>by
    rw[List.take_succ_eq_append_getElem hkl,dqg,dqi] at hx
    rcases hx with hx | rfl
    ·exact hbef x hx y hy
    ·rw [drop_at hi] at hy
     rcases dqq.1 hy with rfl | hy
     ·exact hlt
     ·obtain ⟨j, hj, rfl⟩ := List.getElem_of_mem hy
      rw[List.getElem_drop]
      rw[List.length_drop] at hj
      have:=zDG hA hi (j:=i+1+j) (by omega) (by omega)
      omega
   have e1:zdA P0 a b (f+1) (k:Int) (i:Int)=zdA P0 a b f ((k+1:Nat):Int) (i:Int):=by
    show zfD P0 a b (zdA P0 a b f) _ _=_
    generalize zdA P0 a b f=P
    unfold zfD
    rw[hb.1,ha.1,d1,d2,d3,dqN,dqN,hb.2 k hkl,ha.2 i hi,dqT (show (B[k]:Int) < (A[i]:Int) by omega),zbk (n:=B.length) hkl (by omega)];rfl
   have e2:zdz S0 a b (f+1) (k:Int) (i:Int)=zdz S0 a b f ((k+1:Nat):Int) (i:Int):=by
    show zfC S0 a b (zdz S0 a b f) _ _=_
    generalize zdz S0 a b f=S
    unfold zfC
    rw[hb.1,d1,dqN,dqN,hb.2 k hkl,ha.2 i hi,dqT (show (B[k]:Int) < (A[i]:Int) by omega),zbk (n:=B.length) hkl (by omega)];rfl
   rw[e1,e2]
   exact zSV P0 S0 i hi m f (k+1) (by omega) (by omega) hb2
  ·by_cases heq : B[k] = A[i]
   ·refine .inl ⟨by rw [← heq]; exact List.getElem_mem _, k, hkl, fun x hx y hy => hbef x hx y ?_, ?_, ?_⟩
    ·rw[drop_at hi];exact dqf _ hy
    ·show zfD P0 a b (zdA P0 a b f) _ _ = _
     generalize zdA P0 a b f=P
     unfold zfD zki
     rw[hb.1,ha.1,d1,d2,d3,d4,dqN,dqN,hb.2 k hkl,ha.2 i hi,dqF (show ¬ (B[k]:Int) < (A[i]:Int) by omega),heq,bne_self_eq_false,zbk (n:=A.length) hi (by omega)];rfl
    ·show zfC S0 a b (zdz S0 a b f) _ _ = _
     generalize zdz S0 a b f=S
     unfold zfC zkh
     rw[hb.1,d1,d4,dqN,dqN,hb.2 k hkl,ha.2 i hi,dqF (show ¬ (B[k]:Int) < (A[i]:Int) by omega),heq,bne_self_eq_false,zbk (n:=A.length) hi (by omega)];rfl
   ·have hne : ((B[k] : Int) != (A[i] : Int)) = true := bne_iff_ne.2 (by omega)
    refine .inr ⟨λ hm=>?_,?_,?_⟩
    ·obtain ⟨j, hj, e⟩ := List.getElem_of_mem hm
     by_cases hjk:j < k
     ·have := hbef B[j] (List.mem_iff_getElem.2 ⟨j, by rw [List.length_take]; omega, by rw [List.getElem_take]⟩) A[i] (by rw [drop_at hi]; exact dqj)
      omega
     ·by_cases hj2 : j = k
      ·subst hj2;exact heq e
      ·have := zDG hB hkl hj (by omega)
       omega
    ·show zfD P0 a b (zdA P0 a b f) _ _ = _
     generalize zdA P0 a b f=P
     unfold zfD zki
     rw[hb.1,ha.1,d1,d2,d3,d4,dqN,dqN,hb.2 k hkl,ha.2 i hi,dqF (show ¬ (B[k]:Int) < (A[i]:Int) by omega),hne];rfl
    ·show zfC S0 a b (zdz S0 a b f) _ _ = _
     generalize zdz S0 a b f=S
     unfold zfC zkh
     rw[hb.1,d1,d4,dqN,dqN,hb.2 k hkl,ha.2 i hi,dqF (show ¬ (B[k]:Int) < (A[i]:Int) by omega),hne];rfl
theorem zP2:∀ (m f i k:Nat),i+m=A.length->m < f->k<=B.length->zQo A B k i ->
  zgq a b f (k:Int) (i:Int)=true/\(zgp a b f (k:Int) (i:Int)=true↔∀ x∈A.drop i,x∈B)
 | _,0,_,_,_,h,_,_=>absurd h (dqW _)
 | 0,f+1,i,k,hi,_,_,_=>by
  show ziI a b (zgq a b f) _ _=_/\(ziH a b (zgp a b f) _ _=_↔_)
  generalize zgq a b f=P
  generalize zgp a b f=S
  unfold ziI ziH
  rw[ha.1,dqF (show ¬ (i:Int) < (A.length:Int) by omega),dqB,dqB,dqO (show A.length<=i by omega)]
  exact⟨rfl,λ _ x hx=>(by cases hx),λ _=>rfl⟩
 | m+1,f+1,i,k,hi,hf,hk,hbef=>by
  have hil:i < A.length:=by omega
  have h:=zSV ha hb hA hB hlA hlB (zgq a b f) (zgp a b f) i hil (B.length - k) Fuel k (by omega) (by simp only[Fuel];omega) hbef
  show ziI a b (zgq a b f) _ _=_/\(ziH a b (zgp a b f) _ _=_↔_)
  have e1:ziI a b (zgq a b f) (k:Int) (i:Int)=zdA (zgq a b f) a b Fuel (k:Int) (i:Int):=by
   unfold ziI
   rw[ha.1,dqT (show (i:Int) < (A.length:Int) by omega),dqA];rfl
  have e2:ziH a b (zgp a b f) (k:Int) (i:Int)=zdz (zgp a b f) a b Fuel (k:Int) (i:Int):=by
   unfold ziH
   rw[ha.1,dqT (show (i:Int) < (A.length:Int) by omega),dqA];rfl
  rw[e1,e2,drop_at hil]
  rcases h with ⟨hm,k',hk',hb',h1,h2⟩ | ⟨hm,h1,h2⟩
  ·obtain ⟨i1, i2⟩ := zP2 m f (i + 1) k' (by omega) (by omega) (by omega) hb'
   rw[h1,h2,i1,i2]
   refine⟨rfl,λ h x hx=>?_,λ h x hx=>h x (dqf _ hx)⟩
   rcases dqq.1 hx with rfl | hx
   ·exact hm
   ·exact h x hx
  ·rw [h1, h2]
   exact⟨rfl,λ h=>(by cases h),λ h=>absurd (h _ dqj) hm⟩
theorem zP3:p16 a b=true/\(s16 a b=true↔∀ x∈A,x∈B):=by
 have h:=zP2 ha hb hA hB hlA hlB A.length Fuel 0 0 (by omega) (by simp only[Fuel];omega) (Nat.zero_le _) (λ x hx=>by rw[List.take_zero] at hx;cases hx)
 rw[List.drop_zero] at h
 exact h
end
end Go.Proofs
namespace Go.Proofs
open Go Go.Pm
set_option maxRecDepth 100000
set_option linter.unusedVariables false
def zjq (M:List (List Nat)) (A:List Nat):Prop:=∀ B∈M,B ≠ A->¬ ∀ x∈A,x∈B
def zrd (M:List (List Nat)):Prop:=∀ A∈M,A.Pairwise (· < ·)/\A.length<=1000
section
variable {lv:Sl (Sl Int)}{AG:List (List Nat)}(hlv:zeN lv AG) (hAl:AG.length<=10000) (hAG:zrd AG) (least:Int)
include hlv hAl hAG
theorem zP4:∀ (m k i:Nat) (al:Sl (Sl Int)) (M:List (List Nat)),i+m=AG.length->m < k->zeN al M->M.Pairwise ltS->(∀ B,B∈M↔B∈AG.take i)->M.length<=i ->
  ∃ al' M',zeN al' M'/\M'.Pairwise ltS/\(∀ B,B∈M'↔B∈AG)/\M'.length<=AG.length/\ziK least lv k al (i:Int)=zpz least al'/\ziJ least lv k al (i:Int)=zpy least al'
 | _,0,_,_,_,_,h,_,_,_,_=>absurd h (dqW _)
 | 0,k+1,i,al,M,hi,_,h1,h2,h3,h4=>by
  refine⟨al,M,h1,h2,λ B=>?_,by omega,?_,?_⟩
  ·rw[h3,List.take_of_length_le (by omega)]
  ·show zkq least lv (ziK least lv k) _ _ = _
   generalize ziK least lv k=P
   unfold zkq
   rw[hlv.1,dqF (show ¬ (i:Int) < (AG.length:Int) by omega),dqB]
  ·show zkp least lv (ziJ least lv k) _ _ = _
   generalize ziJ least lv k=S
   unfold zkp
   rw[hlv.1,dqF (show ¬ (i:Int) < (AG.length:Int) by omega),dqB]
 | m+1,k+1,i,al,M,hi,hk,h1,h2,h3,h4=>by
  have hil:i < AG.length:=by omega
  obtain⟨c1,M',g1,g2,g3,g4⟩:=zP1 h1 (hlv.2 i hil) h2 (by omega) (λ B hB=>(hAG B (List.mem_of_mem_take ((h3 B).1 hB))).2)
  obtain⟨al',M2,r1,r2,r3,r4,r5,r6⟩:=zP4 m k (i+1) (s37 al (lv.get i)) M' (by omega) (by omega) g1 g2 (λ B=>by
   rw[g3,h3,List.take_succ_eq_append_getElem hil,dqg,dqi]) (by omega)
  refine⟨al',M2,r1,r2,r3,r4,?_,?_⟩
  ·rw [← r5]
   show zkq least lv (ziK least lv k) _ _=_
   generalize ziK least lv k=P
   unfold zkq
   rw[hlv.1,dqT (show (i:Int) < (AG.length:Int) by omega),dqT (show 0<=(i:Int)/\(i:Int) < (AG.length:Int) by omega),dqN,c1,zbk (n:=AG.length) hil (by omega)];rfl
  ·rw [← r6]
   show zkp least lv (ziJ least lv k) _ _=_
   generalize ziJ least lv k=S
   unfold zkp
   rw[hlv.1,dqT (show (i:Int) < (AG.length:Int) by omega),dqN,zbk (n:=AG.length) hil (by omega)];rfl
end
section
variable {al:Sl (Sl Int)}{M:List (List Nat)}(hal:zeN al M) (hMl:M.length<=10000) (hGM:zrd M) (least:Int)
include hal hMl hGM
theorem zHd (P3:Sl (Sl Int)->Int->Sl (Sl Int)->Bool) (S3:Sl (Sl Int)->Int->Sl (Sl Int)->Sl (Sl Int)) (v:Sl (Sl Int)) (i:Nat) (hi:i < M.length):∀ (m f k:Nat) (b:Bool),k+m=M.length->m < f ->
  ∃ b':Bool,(b'=true↔b=true/\∀ j (hj:j < M.length),k<=j->j ≠ i->¬ ∀ x∈M[i],x∈M[j]) /\
   zgt P3 least al f (i:Int) b (k:Int) v=zng P3 least al (i:Int) b' v/\zgs S3 least al f (i:Int) b (k:Int) v=znf S3 least al (i:Int) b' v
 | _,0,_,_,_,h=>absurd h (dqW _)
 | 0,f+1,k,b,hk,_=>by
  refine⟨b,⟨λ h=>⟨h,λ j hj h1=>by omega⟩,λ h=>h.1⟩,?_,?_⟩
  ·show zkm P3 least al (zgt P3 least al f) _ _ _ _ = _
   generalize zgt P3 least al f=P
   unfold zkm
   rw[hal.1,dqF (show ¬ (k:Int) < (M.length:Int) by omega),dqB]
  ·show zkl S3 least al (zgs S3 least al f) _ _ _ _ = _
   generalize zgs S3 least al f=S
   unfold zkl
   rw[hal.1,dqF (show ¬ (k:Int) < (M.length:Int) by omega),dqB]
 | m+1,f+1,k,b,hk,hf=>by
  have hkl:k < M.length:=by omega
  have gi:=hGM M[i] (List.getElem_mem _)
  have gk:=hGM M[k] (List.getElem_mem _)
  obtain⟨c1,c2⟩:=zP3 (hal.2 i hi) (hal.2 k hkl) gi.1 gk.1 (by omega) (by omega)
  -- what the next round begins with
  have key:∃ b1:Bool,(b1=true↔b=true/\(k ≠ i->¬ ∀ x∈M[i],x∈M[k]))/\zgt P3 least al (f+1) (i:Int) b (k:Int) v=zgt P3 least al f (i:Int) b1 ((k+1:Nat):Int) v/\zgs S3 least al (f+1) (i:Int) b (k:Int) v=zgs S3 least al f (i:Int) b1 ((k+1:Nat):Int) v:=by
   show ∃ b1:Bool,_/\zkm P3 least al (zgt P3 least al f) _ _ _ _=_/\zkl S3 least al (zgs S3 least al f) _ _ _ _=_
   generalize zgt P3 least al f=P
   generalize zgs S3 least al f=S
   unfold zkm zkl
   rw[hal.1,dqT (show (k:Int) < (M.length:Int) by omega),dqT (show 0<=(i:Int)/\(i:Int) < (M.length:Int) by omega),dqT (show 0<=(k:Int)/\(k:Int) < (M.length:Int) by omega),dqN,dqN,c1,zbk (n:=M.length) hkl (by omega)]
   cases b
   ·exact⟨false,⟨λ h=>(by cases h),λ h=>(by cases h.1)⟩,rfl,rfl⟩
   ·by_cases e : k = i
    ·subst e
     rw[beq_self_eq_true]
     exact⟨true,⟨λ _=>⟨rfl,λ h=>absurd rfl h⟩,λ _=>rfl⟩,rfl,rfl⟩
    ·have e2 : ((i : Int) == (k : Int)) = false := dqU.2 (by omega)
     rw[e2]
     refine⟨!s16 (al.get i) (al.get k),⟨λ h=>⟨rfl,λ _ h2=>?_⟩,λ h=>?_⟩,rfl,rfl⟩
     ·rw[c2.2 h2] at h;cases h
     ·rw [Bool.not_eq_true', Bool.eq_false_iff]
      exact λ h2=>h.2 e (c2.1 h2)
  obtain⟨b1,k1,k2,k3⟩:=key
  obtain⟨b',r1,r2,r3⟩:=zHd P3 S3 v i hi m f (k+1) b1 (by omega) (by omega)
  refine⟨b',?_,by rw[k2,r2],by rw[k3,r3]⟩
  rw[r1,k1]
  constructor
  ·rintro ⟨⟨h1, h2⟩, h3⟩
   refine⟨h1,λ j hj hkj hji=>?_⟩
   by_cases e:j=k
   ·subst e;exact h2 hji
   ·exact h3 j hj (by omega) hji
  ·rintro ⟨h1, h2⟩
   exact⟨⟨h1,λ h=>h2 k hkl (dqt _) h⟩,λ j hj hkj hji=>h2 j hj (by omega) hji⟩
theorem zP5 (hM:M.Pairwise ltS):∀ (m f i:Nat) (v:Sl (Sl Int)) (L:List (List Nat)),i+m=M.length->m < f->zeN v L->L.Pairwise ltS->(∀ A,A∈L↔A∈M.take i/\zjq M A/\least<=(A.length:Int))->L.length<=i ->
  zdW least f al (i:Int) v=true/\∃ L',zeN (zdV least f al (i:Int) v) L'/\L'.Pairwise ltS/\∀ A,A∈L'↔A∈M/\zjq M A/\least<=(A.length:Int)
 | _,0,_,_,_,_,h,_,_,_,_=>absurd h (dqW _)
 | 0,f+1,i,v,L,hi,_,h1,h2,h3,h4=>by
  show zko least (zdW least f) _ _ _=_/\∃ L',zeN (zkn least (zdV least f) _ _ _) L'/\_
  generalize zdW least f=P
  generalize zdV least f=S
  unfold zko zkn
  rw[hal.1,dqF (show ¬ (i:Int) < (M.length:Int) by omega),dqB,dqB]
  refine⟨rfl,L,h1,h2,λ A=>?_⟩
  rw[h3,List.take_of_length_le (by omega)]
 | m+1,f+1,i,v,L,hi,hf,h1,h2,h3,h4=>by
  have hil:i < M.length:=by omega
  obtain⟨b',b1,b2,b3⟩:=zHd hal hMl hGM least (zdW least f) (zdV least f) v i hil M.length Fuel 0 true (by omega) (by simp only[Fuel];omega)
  have hmost:b'=true↔zjq M M[i]:=by
   rw[b1]
   constructor
   ·rintro ⟨_, h⟩ B hB hne hsub
    obtain⟨j,hj,rfl⟩:=List.getElem_of_mem hB
    exact h j hj (Nat.zero_le _) (λ e=>hne (by subst e;rfl)) hsub
   ·intro h
    refine⟨rfl,λ j hj _ hji hsub=>h M[j] (List.getElem_mem _) (λ e=>?_) hsub⟩
    have pw:=List.pairwise_iff_getElem.1 hM
    rcases Nat.lt_or_gt_of_ne hji with hl | hl
    ·have:=pw j i hj hil hl;rw[e] at this;exact zfc this
    ·have:=pw i j hil hj hl;rw[e] at this;exact zfc this
  have step:∀ (v':Sl (Sl Int)) (L':List (List Nat)),zeN v' L'->L'.Pairwise ltS->(∀ A,A∈L'↔A∈M.take (i+1)/\zjq M A/\least<=(A.length:Int))->L'.length<=i+1 ->
    zdW least f al ((i+1:Nat):Int) v'=true/\∃ L',zeN (zdV least f al ((i+1:Nat):Int) v') L'/\L'.Pairwise ltS/\∀ A,A∈L'↔A∈M/\zjq M A/\least<=(A.length:Int) :=
   λ v' L' a1 a2 a3 a4=>zP5 hM m f (i+1) v' L' (by omega) (by omega) a1 a2 a3 a4
  have stay : ¬ (zjq M M[i]/\least<=(M[i].length:Int))->zdW least f al ((i+1:Nat):Int) v=true/\∃ L',zeN (zdV least f al ((i+1:Nat):Int) v) L'/\L'.Pairwise ltS/\∀ A,A∈L'↔A∈M/\zjq M A/\least<=(A.length:Int) :=
   λ hn=>step v L h1 h2 (λ A=>by
    rw[h3,List.take_succ_eq_append_getElem hil,dqg,dqi]
    constructor
    ·rintro⟨a,b⟩;exact⟨.inl a,b⟩
    ·rintro ⟨a | a, b⟩
     ·exact⟨a,b⟩
     ·subst a;exact absurd b hn) (by omega)
  have grow:zjq M M[i]/\least<=(M[i].length:Int)->zdW least f al ((i+1:Nat):Int) ⟨v.len+1,zfe v.len v.get (λ _=>al.get i)⟩=true/\∃ L',zeN (zdV least f al ((i+1:Nat):Int) ⟨v.len+1,zfe v.len v.get (λ _=>al.get i)⟩) L'/\L'.Pairwise ltS/\∀ A,A∈L'↔A∈M/\zjq M A/\least<=(A.length:Int) :=
   λ hy=>step _ (L ++ [M[i]]) (znk h1 (hal.2 i hil)) (by
    rw[List.pairwise_append]
    refine⟨h2,List.pairwise_singleton _ _,λ x hx y hy=>?_⟩
    rw[dqi] at hy;subst hy
    obtain⟨j,hj,rfl⟩:=List.getElem_of_mem ((h3 x).1 hx).1
    rw[List.length_take] at hj
    rw[List.getElem_take]
    exact List.pairwise_iff_getElem.1 hM j i (by omega) hil (by omega)) (λ A=>by
    rw[dqg,dqi,h3,List.take_succ_eq_append_getElem hil,dqg,dqi]
    constructor
    ·rintro (⟨a, b⟩ | a)
     ·exact⟨.inl a,b⟩
     ·subst a;exact⟨.inr rfl,hy⟩
    ·rintro ⟨a | a, b⟩
     ·exact .inl ⟨a,b⟩
     ·exact .inr a) (by rw[dqu,List.length_singleton];omega)
  have e1:zdW least (f+1) al (i:Int) v=zng (zdW least f) least al (i:Int) b' v:=by
   rw[<- b2]
   show zko least (zdW least f) _ _ _=_
   generalize zdW least f=P
   unfold zko
   rw[hal.1,dqT (show (i:Int) < (M.length:Int) by omega),dqA];rfl
  have e2:zdV least (f+1) al (i:Int) v=znf (zdV least f) least al (i:Int) b' v:=by
   rw[<- b3]
   show zkn least (zdV least f) _ _ _=_
   generalize zdV least f=S
   unfold zkn
   rw[hal.1,dqT (show (i:Int) < (M.length:Int) by omega),dqA];rfl
  rw[e1,e2]
  clear e1 e2 b2 b3 step
  generalize zdW least f=P at stay grow ⊢
  generalize zdV least f=S at stay grow ⊢
  have hvl:v.len<=i:=by rw[h1.1];exact h4
  unfold zng znf
  rw[hal.1,dqT (show 0<=(i:Int)/\(i:Int) < (M.length:Int) by omega),dqN,(hal.2 i hil).1,zbk (n:=M.length) hil (by omega),dqT (show (v.len+1) * 24<=140737488355328/\v.len+1<=9223372036854775807 by omega)]
  cases hb:b'
  ·exact stay λ h=>by rw[hmost.2 h.1] at hb;cases hb
  ·by_cases hle : (M[i].length : Int) ≥ least
   ·rw[dqT hle];exact grow ⟨hmost.1 hb,hle⟩
   ·rw[dqF hle];exact stay λ h=>hle h.2
end
theorem zP6 {lv : Sl (Sl Int)} {AG : List (List Nat)} (hlv : zeN lv AG) (hAl : AG.length ≤ 10000) (hAG : zrd AG) (least : Int) :
  zni least lv=true/\∃ L,zeN (znh least lv) L/\L.Pairwise ltS/\∀ A,A∈L↔A∈AG/\zjq AG A/\least<=(A.length:Int):=by
 obtain⟨al,M,r1,r2,r3,r4,r5,r6⟩:=zP4 hlv hAl hAG least AG.length Fuel 0 ⟨0,λ _=>default⟩ [] (by omega) (by simp only[Fuel];omega) zlj List.Pairwise.nil (λ B=>by rw[List.take_zero]) (Nat.zero_le _)
 have e1:zni least lv=zpz least al:=r5
 have e2:znh least lv=zpy least al:=r6
 obtain⟨o1,L,o2,o3,o4⟩:=zP5 r1 (by omega) (λ A hA=>hAG A ((r3 A).1 hA)) least r2 M.length Fuel 0 ⟨0,λ _=>default⟩ [] (by omega) (by simp only[Fuel];omega) zlj List.Pairwise.nil (λ A=>by rw[List.take_zero];simp) (Nat.zero_le _)
 rw[e1,e2]
 refine⟨o1,L,o2,o3,λ A=>?_⟩
 rw[o4,r3]
 have:zjq M A↔zjq AG A:=⟨λ h B hB=>h B ((r3 B).2 hB),λ h B hB=>h B ((r3 B).1 hB)⟩
 rw[this]
end Go.Proofs
namespace Go.Proofs
open Go Go.Pm
set_option maxRecDepth 100000
theorem zDH {σ : Type} {step : Nat → σ → σ} {Inv : Nat → σ → Prop} {n : Nat} (hI : ∀ i s, i < n → Inv i s → Inv (i + 1) (step i s)) :
    ∀ (m i:Nat) (s:σ),i+m=n->Inv i s->Inv n (zt2 step m i s):=by
  intro m
  induction m with
  | zero => intro i s h hs; have : i = n := by omega
            subst this;exact hs
  | succ m ih=>intro i s h hs;exact ih (i+1) (step i s) (by omega) (hI i s (by omega) hs)
def addI (l:Line) (zaa:Sl Gate) (i:Nat) (v:Sl Int):Sl Int:=cond (s38 l (zaa.get i)) (⟨v.len+1,zfe v.len v.get (λ _=>(i:Int))⟩:Sl Int) v
def zUe (l:Line) (zaa:Sl Gate):Sl Int:=zt2 (addI l zaa) zaa.len 0 (⟨0,λ _=>default⟩:Sl Int)
theorem zFs (l:Line) (zaa:Sl Gate) (i:Nat) (v:Sl Int) (h:v.len<=i):(addI l zaa i v).len<=i+1:=by
 unfold addI;cases s38 l (zaa.get i)
 ·exact Nat.le_succ_of_le h
 ·exact Nat.succ_le_succ h
theorem zP7 (l:Line) (zaa:Sl Gate) (hn:zaa.len<=40):p14 l zaa=true/\s14 l zaa=zUe l zaa:=by
  have := zDn (σ := Sl Int) (step := addI l zaa) (E := id) (EP := fun _ => true) (Inv := fun i v => v.len ≤ i) (a := 0) (n := zaa.len) (lpS := fun k v i => zjV l zaa k i v) (lpP := fun k v i => zjW l zaa k i v)
    (λ k i v _ hi _=>by
      show zjT l zaa (zjV l zaa k) (i:Int) v=_
      generalize zjV l zaa k=S
      unfold zjT ztC addI
      rw[dqT (show (i:Int) < (zaa.len:Int) by omega),dqA,dqN]
      cases s38 l (zaa.get i) <;> rfl)
    (λ k v=>by
      show zjT l zaa (zjV l zaa k) (zaa.len:Int) v=_
      unfold zjT
      rw[dqF (show ¬ (zaa.len:Int) < (zaa.len:Int) by omega),dqB];rfl)
    (λ k i v _ hi hv=>by
      show zjU l zaa (zjW l zaa k) (i:Int) v=_
      generalize zjW l zaa k=S
      unfold zjU ztD addI
      rw[dqT (show (i:Int) < (zaa.len:Int) by omega),dqA,dqN,dqT (show 0<=(i:Int)/\(i:Int) < (zaa.len:Int) by omega),dqT (show (v.len+1) * 8<=140737488355328/\v.len+1<=9223372036854775807 by omega)]
      cases s38 l (zaa.get i) <;> rfl)
    (λ k v=>by
      show zjU l zaa (zjW l zaa k) (zaa.len:Int) v=_
      unfold zjU
      rw[dqF (show ¬ (zaa.len:Int) < (zaa.len:Int) by omega),dqB])
    (λ i v _ _ h=>zFs l zaa i v h) (Nat.zero_le _) (by omega) (⟨0,λ _=>default⟩:Sl Int) (dqt _)
  exact this
end Go.Proofs
namespace Go.Proofs
open Go Go.Pm
set_option maxRecDepth 100000
set_option linter.unusedVariables false
theorem zFt {α:Type}{v:Sl α}{L:List α}(h:IsL v.len v.get L) (x:α):IsL (apL v x).len (apL v x).get (L ++ [x]):=by
 obtain⟨h1,h2⟩:=h
 refine⟨by show v.len+1=_;rw[dqu,List.length_singleton,h1],λ k hk=>?_⟩
 show (match Nat.ble v.len k with | true=>x | false=>v.get k)=_
 rw[dqu,List.length_singleton] at hk
 by_cases hq:k < L.length
 ·have e : Nat.ble v.len k = false := Bool.eq_false_iff.2 fun e => by have := Nat.le_of_ble_eq_true e; omega
  rw[e,List.getElem_append_left hq]
  exact h2 k hq
 ·have e : Nat.ble v.len k = true := Nat.ble_eq_true_of_le (by omega)
  rw[e,List.getElem_append_right (by omega)]
  simp
theorem zre {α : Type} : ∀ (l : List α) (v : Sl α) (L : List α), IsL v.len v.get L → IsL (l.foldl apL v).len (l.foldl apL v).get (L ++ l)
  | [],v,L,h=>by rw[List.append_nil];exact h
  | x :: l,v,L,h=>by
    rw[List.append_cons]
    exact zre l (apL v x) (L ++ [x]) (zFt h x)
theorem zDI {l:Line}{g:Sl Gate}(hg:g.len<=40){f:Nat->Bool}(hf:∀ i,i < g.len->s38 l (g.get i)=f i):p14 l g=true/\IsN (s14 l g) (ixs f g.len):=by
 obtain⟨a,b⟩:=zP7 l g hg
 refine⟨a,?_⟩
 rw[b]
 exact zDH (Inv:=λ i v=>IsN v (ixs f i)) (n:=g.len) (λ i v hi hv=>by
  unfold addI
  rw[hf i hi,zvL]
  cases hq:f i
  ·rw[dqG (by simp),List.append_nil];exact hv
  ·rw[dqP rfl];exact zvK hv i) g.len 0 _ (by omega) zDq
noncomputable def AG (g:Sl Gate):List (List Nat) :=
 open Classical in if znx g then (List.range g.len).map (λ a=>ixs (zvV g a) g.len) else (cst g).map (λ s=>ixs (zDS g s) g.len)
theorem zhZ {g:Sl Gate}{A:List Nat} : A∈AG g↔∃ h,Cnd g h/\A=ixs h g.len:=by
 unfold AG
 by_cases f:znx g
 ·rw [dqP f, dqz]
  constructor
  ·rintro⟨a,ha,rfl⟩;exact⟨_,.inl ⟨f,a,List.mem_range.1 ha,rfl⟩,rfl⟩
  ·rintro ⟨h, (⟨_, a, ha, rfl⟩ | ⟨s, hs, rfl⟩), rfl⟩
   ·exact⟨a,List.mem_range.2 ha,rfl⟩
   ·rw[zpG f] at hs;cases hs
 ·rw [dqG f, dqz]
  constructor
  ·rintro⟨s,hs,rfl⟩;exact⟨_,.inr ⟨s,hs,rfl⟩,rfl⟩
  ·rintro ⟨h, (⟨f', _⟩ | ⟨s, hs, rfl⟩), rfl⟩
   ·exact absurd f' f
   ·exact⟨s,hs,rfl⟩
theorem zrf {g:Sl Gate}(G:zcr g):(AG g).length<=2304:=by
 unfold AG
 have:=zug G
 have:=G.2.2
 split
 ·rw[List.length_map,List.length_range];omega
 ·rw[List.length_map];omega
theorem zkr {g:Sl Gate}(G:zcr g):zrd (AG g):=λ A hA=>by
 obtain⟨h,_,rfl⟩:=zhZ.1 hA
 exact⟨zPP,by have:=zt6 (f:=h) (n:=g.len);have:=G.2.2;omega⟩
theorem zHe {g:Sl Gate}(G:zcr g){lv:Sl Line}{C:List straight}(hlv:IsL lv.len lv.get (C.map toL)) (hC:∀ s∈C,SOK s) (hCl:C.length<=10000):∀ (m k i:Nat) (v:Sl (Sl Int)),i+m=C.length->m < k->zeN v ((C.take i).map λ s=>ixs (zDS g s) g.len) ->
  ziE g lv k (i:Int) v=true/\zeN (ziD g lv k (i:Int) v) (C.map λ s=>ixs (zDS g s) g.len)
 | _,0,_,_,_,h,_=>absurd h (dqW _)
 | 0,k+1,i,v,hi,_,hv=>by
  have hlen:lv.len=C.length:=by rw[hlv.1,List.length_map]
  show zj8 g lv (ziE g lv k) _ _=_/\zeN (zj7 g lv (ziD g lv k) _ _) _
  generalize ziE g lv k=P
  generalize ziD g lv k=S
  unfold zj8 zj7
  rw[hlen,dqF (show ¬ (i:Int) < (C.length:Int) by omega),dqB,dqB]
  rw[List.take_of_length_le (by omega)] at hv
  exact⟨rfl,hv⟩
 | m+1,k+1,i,v,hi,hk,hv=>by
  have hlen:lv.len=C.length:=by rw[hlv.1,List.length_map]
  have hil:i < C.length:=by omega
  have hg:=G.2.2
  have hS:=hC C[i] (List.getElem_mem _)
  have e:lv.get i=toL C[i]:=by rw[hlv.2 i (by rw[List.length_map];exact hil),List.getElem_map]
  obtain⟨c1,c2⟩:=zDI (l:=toL C[i]) (g:=g) (by omega) (f:=zDS g C[i]) (λ j hj=>zG7 hS (G.1 j hj))
  have hvl:v.len=i:=by rw[hv.1,List.length_map,List.length_take];omega
  obtain⟨i1,i2⟩:=zHe G hlv hC hCl m k (i+1) ⟨v.len+1,zfe v.len v.get (λ _=>s14 (toL C[i]) g)⟩ (by omega) (by omega) (by
   rw[List.take_succ_eq_append_getElem hil,List.map_append]
   exact znk hv c2)
  show zj8 g lv (ziE g lv k) _ _=_/\zeN (zj7 g lv (ziD g lv k) _ _) _
  generalize ziE g lv k=P at i1 ⊢
  generalize ziD g lv k=S at i2 ⊢
  unfold zj8 zj7
  rw[hlen,dqT (show (i:Int) < (C.length:Int) by omega),dqT (show 0<=(i:Int)/\(i:Int) < (C.length:Int) by omega),dqN,e,c1,dqT (show (v.len+1) * 24<=140737488355328/\v.len+1<=9223372036854775807 by omega),zbk (n:=C.length) hil (by omega)]
  exact⟨i1,i2⟩
def stl (x:Int):straight:=⟨0,x,1⟩
theorem zP8 {x:Int}(h : -1000000<=x/\x<=1000000):SOK (stl x):=⟨by show -2000000<=(0:Int)/\(0:Int)<=2000000;omega,by show -200000000000<=x/\x<=200000000000;omega,by show (1:Int)<=1;omega,by show (1:Int)<=100000;omega⟩
theorem zFu {g:Sl Gate}{a i:Nat} : zuf (stl (g.get a).Low) (g.get i)=zvV g a i:=by
 unfold zuf zvV plc stl
 refine decide_eq_decide.2 ?_
 show (g.get i).Low * 1<=(g.get a).Low+0 * (g.get i).Z/\(g.get a).Low+0 * (g.get i).Z<=(g.get i).High * 1↔_
 rw[Int.zero_mul,Int.add_zero,Int.mul_one,Int.mul_one]
theorem zHf {g:Sl Gate}(G:zcr g):∀ (m k i:Nat) (v:Sl (Sl Int)),i+m=g.len->m < k->zeN v ((List.range i).map λ a=>ixs (zvV g a) g.len) ->
  ziG g k (i:Int) v=true/\zeN (ziF g k (i:Int) v) ((List.range g.len).map λ a=>ixs (zvV g a) g.len)
 | _,0,_,_,_,h,_=>absurd h (dqW _)
 | 0,k+1,i,v,hi,_,hv=>by
  show zka g (ziG g k) _ _=_/\zeN (zj9 g (ziF g k) _ _) _
  generalize ziG g k=P
  generalize ziF g k=S
  unfold zka zj9
  rw[dqF (show ¬ (i:Int) < (g.len:Int) by omega),dqB,dqB]
  have e:i=g.len:=by omega
  subst e
  exact⟨rfl,hv⟩
 | m+1,k+1,i,v,hi,hk,hv=>by
  have hil:i < g.len:=by omega
  have hg:=G.2.2
  have hlo:=ziL (G.1 i hil)
  have hS:=zP8 hlo
  obtain⟨a1,a2⟩:=zob (num:=0) (den:=1) (by omega) (by omega) (by omega) (by omega)
  obtain⟨b1,b2⟩:=zob (num:=(g.get i).Low) (den:=1) (by omega) (by omega) (by omega) (by omega)
  have eL:(⟨s26 (0:Int) (1:Int),s26 (g.get i).Low (1:Int)⟩:Line)=toL (stl (g.get i).Low):=by rw[a2,b2];rfl
  obtain⟨c1,c2⟩:=zDI (l:=toL (stl (g.get i).Low)) (g:=g) (by omega) (f:=zvV g i) (λ j hj=>(zG7 hS (G.1 j hj)).trans zFu)
  have hvl:v.len=i:=by rw[hv.1,List.length_map,List.length_range]
  obtain⟨i1,i2⟩:=zHf G m k (i+1) ⟨v.len+1,zfe v.len v.get (λ _=>s14 (toL (stl (g.get i).Low)) g)⟩ (by omega) (by omega) (by
   rw[List.range_succ,List.map_append]
   exact znk hv c2)
  show zka g (ziG g k) _ _=_/\zeN (zj9 g (ziF g k) _ _) _
  generalize ziG g k=P at i1 ⊢
  generalize ziF g k=S at i2 ⊢
  unfold zka zj9
  rw[dqN,eL,a1,b1,c1,dqT (show (i:Int) < (g.len:Int) by omega),dqT (show 0<=(i:Int)/\(i:Int) < (g.len:Int) by omega),dqT (show (v.len+1) * 24<=140737488355328/\v.len+1<=9223372036854775807 by omega),zbk (n:=g.len) hil (by omega)]
  exact⟨i1,i2⟩
theorem zDJ (g:Sl Gate) (G:zcr g):p36 g=true/\zeN (s36 g) (AG g):=by
 have hl:=G.2.2
 obtain⟨f1,f2⟩:=zPZ g G
 unfold p36 s36 ztR ztQ
 rw[f1]
 cases hf:s61 g
 ·have nf : ¬ znx g := fun h => by rw [f2.2 h] at hf; cases hf
  obtain⟨c1,c2⟩:=zPW g G
  unfold ztO ztN
  simp only[decide_true,Bool.true_and,dqB]
  have hlv:=zre ((cst g).map toL) ⟨0,λ _=>default⟩ [] ⟨rfl,λ k hk=>absurd hk (dqW _)⟩
  rw[<- c2,List.nil_append] at hlv
  have hcl:=zug G
  have h:=zHe G hlv (λ s hs=>zG6 G hs) (by omega) (cst g).length Fuel 0 ⟨0,λ _=>default⟩ (by omega) (by simp only[Fuel];omega) (by rw[List.take_zero];exact zlj)
  unfold AG
  rw[c1,dqG nf]
  exact h
 ·have fl : znx g := f2.1 hf
  simp only[decide_true,Bool.true_and,dqA]
  have h:=zHf G g.len Fuel 0 ⟨0,λ _=>default⟩ (by omega) (by simp only[Fuel];omega) zlj
  unfold AG
  rw[dqP fl]
  exact h
end Go.Proofs
namespace Go.Proofs
open Go Go.Pm
set_option maxRecDepth 100000
theorem zoc {g : Sl Gate} {i b : Nat} {x : straight} (hx : x ∈ zra (g.get i) (g.get b)) : ∀ m k, k ≤ b → b < k + m → x ∈ zrb g i m k
  | 0,k,h1,h2=>by omega
  | m+1,k,h1,h2=>by
    show x∈zra (g.get i) (g.get k) ++ zrb g i m (k+1)
    by_cases h:k=b
    · rw[h];exact List.mem_append_left _ hx
    · exact List.mem_append_right _ (zoc hx m (k+1) (by omega) (by omega))
theorem zod {g : Sl Gate} {a : Nat} {x : straight} (hx : x ∈ zrb g a (g.len - (a + 1)) (a + 1)) : ∀ m i, i ≤ a → a < i + m → x ∈ zDR g m i
  | 0,i,h1,h2=>by omega
  | m+1,i,h1,h2=>by
    show x∈zrb g i (g.len - (i+1)) (i+1) ++ zDR g m (i+1)
    by_cases h:i=a
    · rw[h];exact List.mem_append_left _ hx
    · exact List.mem_append_right _ (zod hx m (i+1) (by omega) (by omega))
theorem zFv {z p y q:Int}(h:z ≠ y):thr z p y q=thr y q z p:=by
 unfold thr
 by_cases h1:z > y
 ·rw[dqP h1,dqG (show ¬ y > z by omega)]
 ·rw[dqG h1,dqP (show y > z by omega)]
theorem zUf {g:Sl Gate}{a b:Nat}(ha:a < g.len) (hb:b < g.len) (hz:(g.get a).Z ≠ (g.get b).Z){p q:Int}(hp:p=(g.get a).Low\/p=(g.get a).High) (hq:q=(g.get b).Low\/q=(g.get b).High):thr (g.get a).Z p (g.get b).Z q∈cst g:=by
 have key:∀ {a b:Nat} {p q:Int},a < b->b < g.len->(g.get a).Z ≠ (g.get b).Z->(p=(g.get a).Low\/p=(g.get a).High)->(q=(g.get b).Low\/q=(g.get b).High)->thr (g.get a).Z p (g.get b).Z q∈cst g:=fun {a b p q} h1 h2 hz hp hq=>by
  refine zod (zoc ?_ _ _ h1 (by omega)) _ 0 (Nat.zero_le _) (by omega)
  unfold zra
  rw[dqG hz]
  rcases hp with rfl | rfl <;> rcases hq with rfl | rfl <;> simp
 rcases Nat.lt_or_ge a b with h | h
 ·exact key h hb hz hp hq
 ·have : a ≠ b := fun e => hz (by rw [e])
  rw[zFv hz]
  exact key (by omega) ha (Ne.symm hz) hq hp
end Go.Proofs
namespace Go.Proofs
open Go Go.Pm
set_option maxRecDepth 100000
set_option linter.unusedVariables false
def zjr (M:List (List Nat)) (X:List Nat):Prop:=X∈M/\∀ B∈M,B.length < X.length\/(B.length=X.length/\¬ ltS B X)
theorem zrg {M:List (List Nat)}{X B:List Nat}(h:zjr M X):(B.length < X.length\/(B.length=X.length/\¬ ltS B X)->zjr (M ++ [B]) X)/\(X.length < B.length\/(B.length=X.length/\ltS B X)->zjr (M ++ [B]) B):=by
 obtain⟨h1,h2⟩:=h
 refine⟨λ h=>⟨List.mem_append_left _ h1,λ C hC=>?_⟩,λ h=>⟨by simp,λ C hC=>?_⟩⟩
 ·rcases dqg.1 hC with hC | hC
  ·exact h2 C hC
  ·rw[dqi] at hC;subst hC;exact h
 ·rcases dqg.1 hC with hC | hC
  ·rcases h with h | ⟨h, k⟩
   ·rcases h2 C hC with a | ⟨a,b⟩ <;> exact .inl (by omega)
   ·rcases h2 C hC with a | ⟨a, b⟩
    ·exact .inl (by omega)
    ·exact .inr ⟨by omega,λ hl=>b (zed hl k)⟩
  ·rw[dqi] at hC;subst hC;exact .inr ⟨rfl,λ h=>zfc h⟩
theorem zrh {M N:List (List Nat)}{X Y:List Nat}(hX:zjr M X) (hY:zjr N Y) (h1:X∈N) (h2:Y∈M):X=Y:=by
 have a:=hX.2 Y h2
 have b:=hY.2 X h1
 refine Classical.byContradiction λ hne=>?_
 rcases a with a | ⟨a,a2⟩
 ·rcases b with b | ⟨b,_⟩ <;> omega
 ·rcases b with b | ⟨b, b2⟩
  ·omega
  ·exact (znj hne).elim b2 a2
theorem zDK {lv:Sl (Sl Int)}{M:List (List Nat)}(hlv:zeN lv M) (hMl:M.length<=10000) (hG:zrd M):∀ (m k i:Nat) (b:Sl Int) (X:List Nat),i+m=M.length->m < k->IsN b X->zjr (M.take i) X ->
  zhv lv k b (i:Int)=true/\∃ Y,IsN (zhu lv k b (i:Int)) Y/\zjr M Y
 | _,0,_,_,_,_,h,_,_=>absurd h (dqW _)
 | 0,k+1,i,b,X,hi,_,hb,hX=>by
  show zkc lv (zhv lv k) _ _=_/\∃ Y,IsN (zkb lv (zhu lv k) _ _) Y/\_
  generalize zhv lv k=P
  generalize zhu lv k=S
  unfold zkc zkb
  rw[hlv.1,dqF (show ¬ (i:Int) < (M.length:Int) by omega),dqB,dqB]
  rw[List.take_of_length_le (by omega)] at hX
  exact⟨rfl,X,hb,hX⟩
 | m+1,k+1,i,b,X,hi,hk,hb,hX=>by
  have hil:i < M.length:=by omega
  have gi:=hG M[i] (List.getElem_mem _)
  obtain⟨c1,c2⟩:=zFn (hlv.2 i hil) hb (by omega)
  have hst:=zrg (B:=M[i]) hX
  rw[<- List.take_succ_eq_append_getElem hil] at hst
  have keep:=λ h=>zDK hlv hMl hG m k (i+1) b X (by omega) (by omega) hb (hst.1 h)
  have take:=λ h=>zDK hlv hMl hG m k (i+1) (lv.get i) M[i] (by omega) (by omega) (hlv.2 i hil) (hst.2 h)
  show zkc lv (zhv lv k) _ _=_/\∃ Y,IsN (zkb lv (zhu lv k) _ _) Y/\_
  generalize zhv lv k=P at keep take ⊢
  generalize zhu lv k=S at keep take ⊢
  unfold zkc zkb zm7 zm6
  rw[hlv.1,dqT (show (i:Int) < (M.length:Int) by omega),dqT (show 0<=(i:Int)/\(i:Int) < (M.length:Int) by omega),dqN,c1,c2,(hlv.2 i hil).1,hb.1,zbk (n:=M.length) hil (by omega)]
  by_cases h1:(M[i].length:Int) > (X.length:Int)
  ·rw[dqT h1];exact take (.inl (by omega))
  ·rw [dqF h1]
   by_cases h2:M[i].length=X.length
   ·have e : ((M[i].length : Int) == (X.length : Int)) = true := beq_iff_eq.2 (by omega)
    rw[e]
    by_cases h3:cmpL M[i] X < 0
    ·rw[dqT h3];exact take (.inr ⟨h2,h3⟩)
    ·rw[dqF h3];exact keep (.inr ⟨h2,h3⟩)
   ·have e : ((M[i].length : Int) == (X.length : Int)) = false := dqU.2 (by omega)
    rw[e];exact keep (.inl (by omega))
theorem zvX (M:List (List Nat)) (h:0 < M.length):zjr (M.take 1) M[0]:=by
 obtain⟨x,l,rfl⟩:=List.exists_cons_of_length_pos h
 exact⟨by simp,λ B hB=>by
  rw[List.take_succ_cons,List.take_zero,dqi] at hB
  subst hB;exact .inr ⟨rfl,λ h=>zfc h⟩⟩
theorem zpH {lv:Sl (Sl Int)}{M:List (List Nat)}(hlv:zeN lv M) (hMl:M.length<=10000) (hG:zrd M) (h0:0 < M.length):zm9 lv=true/\∃ Y,IsN (zm8 lv) Y/\zjr M Y:=by
 obtain⟨a,b⟩:=zDK hlv hMl hG (M.length - 1) Fuel 1 (lv.get 0) M[0] (by omega) (by simp only[Fuel];omega) (hlv.2 0 h0) (zvX M h0)
 have e1:zm9 lv=(decide (0<=(0:Int)/\(0:Int) < (lv.len:Int)) && zhv lv Fuel (lv.get 0) ((1:Nat):Int)):=rfl
 have e2:zm8 lv=zhu lv Fuel (lv.get 0) ((1:Nat):Int):=rfl
 rw[e1,e2,a,hlv.1,dqT (show 0<=(0:Int)/\(0:Int) < (M.length:Int) by omega)]
 exact⟨rfl,b⟩
theorem zL0 {l:Sl (Sl Int)}{M:List (List Nat)}(hl:zeN l M) (hM:M.Pairwise ltS) (hMl:M.length<=10000) (t:Sl (Sl Int)) (ht:t.len=M.length - 1) (htg:∀ i,t.get i=l.get (i+1)) (h0:0 < M.length):∀ (m k i:Nat) (b:Sl Int) (X:List Nat),i+1+m=M.length->m < k->IsN b X->zjr (M.take (i+1)) X ->
  zha l k b t (i:Int)=true/\∃ Y,IsN (zg9 l k b t (i:Int)) Y/\zjr M Y
 | _,0,_,_,_,_,h,_,_=>absurd h (dqW _)
 | 0,k+1,i,b,X,hi,_,hb,hX=>by
  show zjQ l (zha l k) _ _ _=_/\∃ Y,IsN (zjP l (zg9 l k) _ _ _) Y/\_
  generalize zha l k=P
  generalize zg9 l k=S
  unfold zjQ zjP
  rw[hl.1,dqF (show ¬ (i:Int) < (((M.length:Int) - (1:Int)).toNat:Int) by omega),dqB,dqB]
  rw[List.take_of_length_le (by omega)] at hX
  exact⟨rfl,X,hb,hX⟩
 | m+1,k+1,i,b,X,hi,hk,hb,hX=>by
  have hil:i+1 < M.length:=by omega
  have hst:=zrg (B:=M[i+1]) hX
  rw[<- List.take_succ_eq_append_getElem hil] at hst
  have hXm:X∈M.take (i+1):=hX.1
  have hlt:ltS X M[i+1]:=by
   obtain⟨j,hj,rfl⟩:=List.getElem_of_mem hXm
   rw[List.length_take] at hj
   rw[List.getElem_take]
   exact List.pairwise_iff_getElem.1 hM j (i+1) (by omega) hil (by omega)
  have hnl : ¬ ltS M[i+1] X:=λ h=>zfc (zed hlt h)
  have hg:IsN (l.get (i+1)) M[i+1]:=hl.2 (i+1) hil
  have keep:=λ h=>zL0 hl hM hMl t ht htg h0 m k (i+1) b X (by omega) (by omega) hb (hst.1 h)
  have take:=λ h=>zL0 hl hM hMl t ht htg h0 m k (i+1) (l.get (i+1)) M[i+1] (by omega) (by omega) hg (hst.2 h)
  show zjQ l (zha l k) _ _ _=_/\∃ Y,IsN (zjP l (zg9 l k) _ _ _) Y/\_
  generalize zha l k=P at keep take ⊢
  generalize zg9 l k=S at keep take ⊢
  unfold zjQ zjP zs5 zs4 s31
  rw[hl.1,ht,dqN,htg i,hg.1,hb.1,dqT (show (i:Int) < (((M.length:Int) - (1:Int)).toNat:Int) by omega),dqT (show 0<=(i:Int)/\(i:Int) < ((M.length - 1:Nat):Int) by omega),zbk (n:=M.length) (by omega) (by omega)]
  by_cases h1:(M[i+1].length:Int) > (X.length:Int)
  ·rw[dqT h1];exact take (.inl (by omega))
  ·rw [dqF h1]
   by_cases h2:M[i+1].length=X.length
   ·exact keep (.inr ⟨h2,hnl⟩)
   ·exact keep (.inl (by omega))
theorem zFw {l:Sl (Sl Int)}{M:List (List Nat)}(hl:zeN l M) (hM:M.Pairwise ltS) (hMl:M.length<=10000) (h0:0 < M.length):p29 l=true/\∃ Y,IsN (s29 l) Y/\zjr M Y:=by
 obtain⟨a,b⟩:=zL0 hl hM hMl ⟨((l.len:Int) - (1:Int)).toNat,λ i=>l.get (i+1)⟩ (by show ((l.len:Int) - (1:Int)).toNat=_;rw[hl.1];omega) (λ _=>rfl) h0 (M.length - 1) Fuel 0 (l.get 0) M[0] (by omega) (by simp only[Fuel];omega) (hl.2 0 h0) (zvX M h0)
 have e1:p29 l=(decide (0<=(0:Int)/\(0:Int) < (l.len:Int)) && (decide (0<=(1:Int)/\(1:Int)<=(l.len:Int)/\(l.len:Int)<=(l.len:Int)) && zha l Fuel (l.get 0) ⟨((l.len:Int) - (1:Int)).toNat,λ i=>l.get (i+1)⟩ ((0:Nat):Int))):=rfl
 have e2:s29 l=zg9 l Fuel (l.get 0) ⟨((l.len:Int) - (1:Int)).toNat,λ i=>l.get (i+1)⟩ ((0:Nat):Int):=rfl
 rw[e1,e2,a]
 refine⟨?_,b⟩
 rw[hl.1,dqT (show 0<=(0:Int)/\(0:Int) < (M.length:Int) by omega),dqT (show 0<=(1:Int)/\(1:Int)<=(M.length:Int)/\(M.length:Int)<=(M.length:Int) by omega)];rfl
theorem zFx {a b:Sl (Sl Int)}{M:List (List Nat)}(ha:zeN a M) (hb:zeN b M) (hMl:M.length<=10000) (hG:zrd M):p11 a b=true/\s11 a b=true:=by
 have key:∀ (m k i:Nat),i+m=M.length->m < k->zkg a b k (i:Int)=true/\zkf a b k (i:Int)=true:=by
  intro m
  induction m with
  | zero =>
   intro k i hi hk
   obtain⟨k,rfl⟩:∃ k',k=k'+1:=⟨k - 1,by omega⟩
   show zke a b (zkg a b k) _=_/\zkd a b (zkf a b k) _=_
   unfold zke zkd
   rw[ha.1,dqF (show ¬ (i:Int) < (M.length:Int) by omega),dqB,dqB]
   exact⟨rfl,rfl⟩
  | succ m ih =>
   intro k i hi hk
   obtain⟨k,rfl⟩:∃ k',k=k'+1:=⟨k - 1,by omega⟩
   have hil:i < M.length:=by omega
   obtain⟨c1,c2⟩:=zFn (ha.2 i hil) (hb.2 i hil) (by have:=(hG M[i] (List.getElem_mem _)).2;omega)
   obtain⟨i1,i2⟩:=ih k (i+1) (by omega) (by omega)
   show zke a b (zkg a b k) _=_/\zkd a b (zkf a b k) _=_
   generalize zkg a b k=P at i1 ⊢
   generalize zkf a b k=S at i2 ⊢
   unfold zke zkd ztV ztU
   rw[ha.1,hb.1,dqT (show (i:Int) < (M.length:Int) by omega),dqT (show 0<=(i:Int)/\(i:Int) < (M.length:Int) by omega),dqN,c1,c2,zfR,zbk (n:=M.length) hil (by omega),bne_self_eq_false]
   exact⟨i1,i2⟩
 have h:=key M.length Fuel 0 (by omega) (by simp only[Fuel];omega)
 unfold p11 s11
 rw[ha.1,hb.1,bne_self_eq_false,dqB,dqB]
 exact h
theorem zFy {v:Sl (Sl Int)}{M:List (List Nat)}(hv:zeN v M) (hM:M.Pairwise ltS) (least:Int):∃ L,zeN ⟨delN v.len (λ i=>decide (((v.get i).len:Int) < least)),zwR v.len (λ i=>decide (((v.get i).len:Int) < least)) v.get⟩ L/\L.Pairwise ltS/\∀ A,A∈L↔A∈M/\least<=(A.length:Int):=by
 have hI:∀ i∈(List.range v.len).filter (λ i=>!decide (((v.get i).len:Int) < least)),i < M.length:=λ i hi=>by
  have:=List.mem_range.1 (List.mem_filter.1 hi).1
  rw[hv.1] at this;exact this
 refine⟨((List.range v.len).filter (λ i=>!decide (((v.get i).len:Int) < least))).map λ i=>M.getD i [],?_,?_,λ A=>?_⟩
 ·refine ⟨by show delN _ _ = _; rw [List.length_map]; rfl, fun k hk => ?_⟩
  rw[List.length_map] at hk
  have hm:=hI _ (List.getElem_mem hk)
  have e:zwR v.len (λ i=>decide (((v.get i).len:Int) < least)) v.get k=v.get (((List.range v.len).filter (λ i=>!decide (((v.get i).len:Int) < least)))[k]):=by
   unfold zwR
   rw[List.getD_eq_getElem?_getD,dqD hk];rfl
  show IsN (zwR v.len (λ i=>decide (((v.get i).len:Int) < least)) v.get k) _
  rw[e,List.getElem_map,List.getD_eq_getElem?_getD,dqD hm]
  exact hv.2 _ hm
 ·rw [List.pairwise_map]
  refine List.Pairwise.imp_of_mem (fun {i j} hi hj hij=>?_) (List.Pairwise.filter _ List.pairwise_lt_range)
  have h1:=hI i hi
  have h2:=hI j hj
  rw[List.getD_eq_getElem?_getD,dqD h1,List.getD_eq_getElem?_getD,dqD h2]
  exact List.pairwise_iff_getElem.1 hM i j h1 h2 hij
 ·rw [dqz]
  constructor
  ·rintro ⟨i, hi, rfl⟩
   have h1:=hI i hi
   have h2:=(List.mem_filter.1 hi).2
   rw[(hv.2 i h1).1] at h2
   rw[List.getD_eq_getElem?_getD,dqD h1]
   refine⟨List.getElem_mem _,?_⟩
   rw[Bool.not_eq_true',decide_eq_false_iff_not] at h2
   show least<=(M[i].length:Int)
   omega
  ·rintro ⟨hA, hl⟩
   obtain⟨i,hi,rfl⟩:=List.getElem_of_mem hA
   refine⟨i,List.mem_filter.2 ⟨List.mem_range.2 (by rw[hv.1];exact hi),?_⟩,?_⟩
   ·rw[(hv.2 i hi).1,Bool.not_eq_true',decide_eq_false_iff_not];omega
   ·rw[List.getD_eq_getElem?_getD,dqD hi];rfl
theorem zL1 {f g:Nat->Bool}{n:Nat}(h:∀ i,i < n->f i=true->g i=true):(ixs f n).Sublist (ixs g n):=by
 have e:ixs f n=(ixs g n).filter f:=by
  unfold ixs
  rw[List.filter_filter]
  refine List.filter_congr λ i hi=>?_
  have:=h i (List.mem_range.1 hi)
  cases hf:f i
  ·simp
  ·rw[this hf];rfl
 rw[e]
 exact List.filter_sublist
theorem zHg {f g:Nat->Bool}{n:Nat} : (∀ x∈ixs f n,x∈ixs g n)↔∀ i,i < n->f i=true->g i=true :=
 ⟨λ h i hi hf=>(zhC.1 (h i (zhC.2 ⟨hi,hf⟩))).2,λ h x hx=>zhC.2 ⟨(zhC.1 hx).1,h x (zhC.1 hx).1 (zhC.1 hx).2⟩⟩
theorem zvY {g:Sl Gate}{h:Nat->Bool} : zjq (AG g) (ixs h g.len)↔zPR (Cnd g) g.len h:=by
 constructor
 ·intro hm h' hc hle i hi hf
  refine Classical.byContradiction λ hn=>hm (ixs h' g.len) (zhZ.2 ⟨h',hc,rfl⟩) (λ e=>hn ?_) (zHg.2 hle)
  rw[<- zt7 e i hi];exact hf
 ·intro hm B hB hne hsub
  obtain⟨h',hc,rfl⟩:=zhZ.1 hB
  have hle:=zHg.1 hsub
  exact hne (zq8 λ i hi=>by rw[Bool.eq_iff_iff];exact⟨hm h' hc hle i hi,hle i hi⟩)
theorem zvZ {g:Sl Gate}{h:Nat->Bool}(hb:zjr (AG g) (ixs h g.len)):zPR (Cnd g) g.len h:=λ h' hc hle i hi hf=>by
 have hs:=zL1 hle
 have h2:=hb.2 (ixs h' g.len) (zhZ.2 ⟨h',hc,rfl⟩)
 have h3:=hs.length_le
 have e:=hs.eq_of_length (by rcases h2 with h2 | h2 <;> omega)
 rw[zt7 e i hi];exact hf
theorem zDL {g:Sl Gate}(G:zcr g):0 < (AG g).length:=by
 unfold AG
 split
 ·rw[List.length_map,List.length_range];exact G.2.1
 ·rename_i nf
  obtain⟨i,hi⟩:=Classical.not_forall.1 nf
  rw[Classical.not_imp] at hi
  rw[List.length_map]
  have:∃ s,s∈cst g:=by
   refine Classical.byContradiction λ hn=>?_
   have h0:∀ m k:Nat,True:=λ _ _=>trivial
   exact hn ⟨_,zUf (a:=i) (b:=0) hi.1 (by omega) hi.2 (.inl rfl) (.inl rfl)⟩
  obtain⟨s,hs⟩:=this
  exact List.length_pos_of_mem hs
end Go.Proofs
namespace Go.Proofs
open Go Go.Pm
set_option maxRecDepth 100000
set_option linter.unusedVariables false
theorem zSq (g:Sl Gate) (G:zcr g):p6 g=true/\(s6 g).2=0/\∃ X,IsN (s6 g).1 X/\zjr (AG g) X:=by
 have hl:=G.2.2
 obtain⟨c1,c2⟩:=zDA g (by omega)
 have c3:=c2.2 G
 obtain⟨d1,M,d2,d3,d4⟩:=zHc g G
 obtain⟨a1,a2⟩:=zDJ g G
 obtain⟨b1,Y,b2,b3⟩:=zpH a2 (by have:=zrf G;omega) (zkr G) (zDL G)
 -- the greatest set is maximal
 obtain⟨h,hc,rfl⟩:=zhZ.1 b3.1
 have hM:ixs h g.len∈M:=(d4 _).2 ⟨h,hc,rfl,zvZ b3⟩
 have hsub:∀ A∈M,A∈AG g:=λ A hA=>by
  obtain⟨h,hc,e,_⟩:=(d4 A).1 hA
  exact zhZ.2 ⟨h,hc,e⟩
 have hMl:M.length<=2304:=dqE (List.Nodup.length_le_of_subset (d3.imp fun {a b} h e=>by subst e;exact zfc h) hsub) (zrf G)
 obtain⟨e1,X,e2,e3⟩:=zFw d2 d3 (by omega) (List.length_pos_of_mem hM)
 have eX:X=ixs h g.len:=zrh e3 b3 (hsub X e3.1) hM
 have ep:p6 g=(decide (p28 g=true) && cond (!(s28 g)) true (decide (p30 g=true) && (decide (p29 (s30 g)=true) && true))):=rfl
 have es:s6 g=cond (!(s28 g)) ((⟨0,λ _=>default⟩:(Sl Int)),(2:Int)) ((s29 (s30 g)),(0:Int)):=rfl
 rw[ep,es,c1,c3,d1,e1,Bool.not_true,dqB,dqB]
 refine⟨rfl,rfl,X,e2,?_⟩
 rw[eX];exact b3
theorem zSr (g:Sl Gate) (G:zcr g) (least:Int):p7 g least=true/\(s7 g least).2=0/\∃ L,zeN (s7 g least).1 L/\L.Pairwise ltS/\∀ A,A∈L↔A∈AG g/\zjq (AG g) A/\least<=(A.length:Int):=by
 have hl:=G.2.2
 obtain⟨c1,c2⟩:=zDA g (by omega)
 have c3:=c2.2 G
 obtain⟨d1,M,d2,d3,d4⟩:=zHc g G
 obtain⟨a1,a2⟩:=zDJ g G
 obtain⟨b1,Y,b2,b3⟩:=zpH a2 (by have:=zrf G;omega) (zkr G) (zDL G)
 obtain⟨h,hc,rfl⟩:=zhZ.1 b3.1
 have hM:ixs h g.len∈M:=(d4 _).2 ⟨h,hc,rfl,zvZ b3⟩
 have hsub:∀ A∈M,A∈AG g:=λ A hA=>by
  obtain⟨h,hc,e,_⟩:=(d4 A).1 hA
  exact zhZ.2 ⟨h,hc,e⟩
 have hMl:M.length<=2304:=dqE (List.Nodup.length_le_of_subset (d3.imp fun {a b} h e=>by subst e;exact zfc h) hsub) (zrf G)
 have hMp:=List.length_pos_of_mem hM
 obtain⟨L,l1,l2,l3⟩:=zFy d2 d3 least
 have ep:p7 g least=(decide (p28 g=true) && cond (!(s28 g)) true (decide (p30 g=true) && (decide ((s30 g).len<=4611686018427387/\0 < (s30 g).len) && true))):=rfl
 have es:s7 g least=cond (!(s28 g)) ((⟨0,λ _=>default⟩:(Sl (Sl Int))),(2:Int)) ((⟨delN (s30 g).len (λ i=>decide ((((s30 g).get i).len:Int) < least)),zwR (s30 g).len (λ i=>decide ((((s30 g).get i).len:Int) < least)) (s30 g).get⟩:(Sl (Sl Int))),(0:Int)):=rfl
 rw[ep,es,c1,c3,d1,d2.1,dqT (show M.length<=4611686018427387/\0 < M.length by omega),Bool.not_true,dqB,dqB,<- d2.1]
 refine⟨rfl,rfl,L,l1,l2,λ A=>?_⟩
 rw[l3,d4]
 constructor
 ·rintro⟨⟨h,hc,rfl,hm⟩,hl⟩;exact⟨zhZ.2 ⟨h,hc,rfl⟩,zvY.2 hm,hl⟩
 ·rintro ⟨hA, hm, hl⟩
  obtain⟨h,hc,rfl⟩:=zhZ.1 hA
  exact⟨⟨h,hc,rfl,zvY.1 hm⟩,hl⟩
theorem zDM (g:Sl Gate) (hn:g.len<=9223372036854775807) (least:Int):zn8 g least=true/\zn7 g least=true:=by
 obtain⟨c1,c2⟩:=zDA g hn
 obtain⟨f1,f2⟩:=zPS g hn
 by_cases G:zcr g
 ·obtain ⟨m1, m2, X, m3, m4⟩ := zSq g G
  obtain⟨k1,k2,L,k3,k4,k5⟩:=zSr g G least
  obtain⟨a1,a2⟩:=zDJ g G
  have hAl:=zrf G
  obtain⟨b1,Y,b2,b3⟩:=zpH a2 (by omega) (zkr G) (zDL G)
  have eXY:X=Y:=zrh m4 b3 m4.1 b3.1
  subst eXY
  obtain⟨o1,L2,o2,o3,o4⟩:=zP6 a2 (by omega) (zkr G) least
  have eL:L=L2:=zq6 k4 o3 λ A=>by rw[k5,o4]
  subst eL
  have hX:=zkr G X m4.1
  have hLg:zrd L:=λ A hA=>zkr G A ((k5 A).1 hA).1
  have hLl:L.length<=2304:=dqE (List.Nodup.length_le_of_subset (k4.imp fun {a b} h e=>by subst e;exact zfc h) (λ A hA=>((k5 A).1 hA).1)) hAl
  have e10:s10 g=zm8 (s36 g):=rfl
  have q10:p10 g=(decide (p36 g=true) && zm9 (s36 g)):=rfl
  have e12:s12 g least=znh least (s36 g):=rfl
  have q12:p12 g least=(decide (p36 g=true) && zni least (s36 g)):=rfl
  rw[a1,b1] at q10
  rw[a1,o1] at q12
  rw[<- e10] at b2
  rw[<- e12] at o2
  obtain⟨r1,r2⟩:=zFn m3 b2 (by omega)
  obtain⟨t1,t2⟩:=zFx k3 o2 (by omega) hLg
  rw[zfR] at r2
  have w3:zPF (s10 g)=s10 g:=zLU _
  have w24:zFj (s12 g least)=s12 g least:=zFk _
  unfold zn8 zn7 zvG zvF zvE zvD zvC zvB zDm zDl
  rw[m1,m2,k1,k2,f1,f2.2 G,w3,w24,q10,q12,r1,r2,t1,t2]
  exact⟨rfl,rfl⟩
 ·have h28 : s28 g = false := Bool.eq_false_iff.2 fun h => G (c2.1 h)
  have h8:s8 g=false:=Bool.eq_false_iff.2 λ h=>G (f2.1 h)
  have e6:s6 g=((⟨0,λ _=>default⟩:(Sl Int)),(2:Int)):=by unfold s6;rw[h28];rfl
  have e7:s7 g least=((⟨0,λ _=>default⟩:(Sl (Sl Int))),(2:Int)):=by unfold s7;rw[h28];rfl
  have q6:p6 g=true:=by unfold p6;rw[c1,h28];rfl
  have q7:p7 g least=true:=by unfold p7;rw[c1,h28];rfl
  unfold zn8 zn7 zvG zvF zvE zvD zvC zvB
  rw[e6,e7,q6,q7,f1,h8]
  exact⟨rfl,rfl⟩
theorem most_true (g:Sl Gate) (least:Int) (w:wf_22 g):p3 g least=true/\s3 g least=true:=by
 obtain⟨h1,h2⟩:=zDM g w.1 least
 unfold p3 s3
 rw[h1,h2]
 cases decide ((g.len:Int) > (12:Int)) <;> cases decide ((g.len:Int)<=(24:Int)) <;> cases decide ((g.len:Int) > (40:Int)) <;> exact⟨rfl,rfl⟩
end Go.Proofs
