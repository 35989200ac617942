/- Part 5: framework, functions, plain laws. -/
import Derived.Test.YtjkijdhdbhooiaaGreatQ4
set_option linter.all false
noncomputable section
namespace Go.Proofs
open Go Go.Pm
set_option maxRecDepth 100000
section
variable{H:Type}{en:TypeId×Value->H}{w:World}{sp:Nat->Bool}{held:Bool}
theorem zMt:Rd H en Tryz.prog w sp held 3 Int:=zvN Tryz.underlying3
end
structure E59 where
 N:Nat
 zrl:Unit->ae bI
 Yb:au×bI×(Sl bu)->ae (Int ⊕ ((Pt aH)×Int))
 Yc:Int->ae Bool
 i173:(Pt Int)×(Pt (Pt aH))×(Pt Int)->ae (List (Int×Int))
abbrev G59(E:E59):bM:=jc (((((Tabs.nil.addF 108 (ae.un E.zrl)).addF 78 (ae.unA E.Yb)).addF 96 (ae.un E.Yc)).addF 121 (aF aJ E.N (jc Tabs.nil []) (bZ aJ 121 [] {}) 121)).addI 173 (ae.unI E.i173)) []
def A59:dI:=bZ aJ 59 [] {cut:=[7]}
def F59(E:E59):au×(Sl bu)×Int×Int->ae (Int×Int):=ae.ty (aF aJ E.N (G59 E) A59 59)
section
variable(E:E59){A:Type}(k:(Int×Int)->Option A)
def zbA(E:E59)(a2 a3:Int)(fA:Pt aH)(nX:Sl Int){A:Type}(k:(Int×Int)->Option A):Option A:=kC aJ (G59 E) E.N A59 59 [1,1,1,1,1] [] (kz k) ⟨[(2,.int a2),(3,.int a3),(10,.cl (.ptr 10 0)),(12,.cl (.ptr 12 0))],[(10,eB 143 fA),(12,.box 39 [.vec 43]),(43,eV 3 1 8 nX)],[]⟩
def PY(E:E59)(l:List (Int×Int))(a3:Int)(PZ:Pt Int)(uA:(Pt (Pt aH)))(P5:Pt Int)(fA:Pt aH)(nX:Sl Int){A:Type}(k:(Int×Int)->Option A):Option A:=kC aJ (G59 E) E.N A59 59 [1,1,1,1,1,0,1,0] [.y (l.map dm.enc)] (kz k) ⟨[(3,.int a3),(10,.cl (.ptr 10 0)),(12,.cl (.ptr 12 0)),(46,.p (.fn 173 [] [.fp [.int .i64 PZ.v] 0,.fp [.fp [.sl uA.v.v.au.ak.len 15 (λi=>bn.enc (uA.v.v.au.ak.get i)),.sl uA.v.v.hits.len 6 (λi=>bn.enc (uA.v.v.hits.get i)),.sl uA.v.v.iT.len 1 (λi=>bn.enc (uA.v.v.iT.get i)),.int .i64 uA.v.v.rules.ve,.int .i64 uA.v.v.rules.xA] 0] 0,.fp [.int .i64 P5.v] 0]))],[(10,eB 143 fA),(12,.box 39 [.vec 43]),(43,eV 3 1 8 nX)],[]⟩
def zbB(E:E59)(n:Nat)(a3 v69 v70:Int)(Dk nX:Sl Int){A:Type}(k:(Int×Int)->Option A):Option A:=kC aJ (G59 E) E.N A59 59 [1,1,1,1,1,1,1,1,0,1,0] [.n n] (kz k) ⟨[(3,.int a3),(12,.cl (.ptr 12 0)),(14,.cl (.vec 65)),(68,.cl (.vec 43)),(69,.int v69),(70,.int v70)],[(12,.box 39 [.vec 43]),(65,eV 3 1 8 Dk),(43,eV 3 1 8 nX)],[]⟩
def zbC(E:E59)(n0 n:Nat)(a3 OH v17 v69 v70:Int)(Dk nX:Sl Int){A:Type}(k:(Int×Int)->Option A):Option A:=kC aJ (G59 E) E.N A59 59 [1,1,1,1,1,1,1,1,0,1,0,0,1,1,0,0,1,1,0] [.n n0,.n n] (kz k) ⟨[(3,.int a3),(12,.cl (.ptr 12 0)),(14,.cl (.vec 65)),(16,.int OH),(17,.int v17),(68,.cl (.vec 43)),(69,.int v69),(70,.int v70)],[(12,.box 39 [.vec 43]),(65,eV 3 1 8 Dk),(43,eV 3 1 8 nX)],[]⟩
def VJ(E:E59)(n:Nat)(xh Ik:Int)(Dk:Sl Int){A:Type}(k:(Int×Int)->Option A):Option A:=kC aJ (G59 E) E.N A59 59 [1,1,1,1,1,1,1,1,1,1,0,1,0] [.n n] (kz k) ⟨[(14,.cl (.vec 65)),(18,.int xh),(19,.int Ik)],[(65,eV 3 1 8 Dk)],[]⟩
theorem e59(a0:au)(a1:Sl bu)(a2 a3:Int):(F59 E (a0,a1,a2,a3)).T k=(E.zrl ()).T λr1=>(E.Yb (a0,r1,a1)).T λr2=>VG r2 (λr2=>cond (r2==0) ((E.Yc a2).T λr3=>cond (!r3) (k (0,2)) (cond (r2 != 0) (k (0,r2)) (none))) (cond (r2 != 0) (k (0,r2)) (none))) (λr2=>cond (r2.2==0) ((E.Yc a2).T λr4=>cond (!r4) (k (0,2)) (cond (r2.2 != 0) (k (0,r2.2)) (aV (decide ((0:Int)<=(r2.1.v.au.ak.len:Int)/\((r2.1.v.au.ak.len:Int):Int)=(r2.1.v.au.ak.len:Int)/\(r2.1.v.au.ak.len:Int)<=1000000)) (zbA E a2 a3 r2.1 (⟨(r2.1.v.au.ak.len:Int).toNat,(λ_=>0)⟩:(Sl Int)) k)))) (cond (r2.2 != 0) (k (0,r2.2)) (aV (decide ((0:Int)<=(r2.1.v.au.ak.len:Int)/\((r2.1.v.au.ak.len:Int):Int)=(r2.1.v.au.ak.len:Int)/\(r2.1.v.au.ak.len:Int)<=1000000)) (zbA E a2 a3 r2.1 (⟨(r2.1.v.au.ak.len:Int).toNat,(λ_=>0)⟩:(Sl Int)) k)))):=eX
theorem zDF(a2 a3:Int)(fA:Pt aH)(nX:Sl Int):zbA E a2 a3 fA nX k=(E.i173 ((⟨0⟩:(Pt Int)),(⟨fA⟩:(Pt (Pt aH))),(⟨a2⟩:(Pt Int)))).T λr1=>PY E r1 a3 (⟨0⟩:(Pt Int)) (⟨fA⟩:(Pt (Pt aH))) (⟨a2⟩:(Pt Int)) fA nX k:=krY
theorem zvS(a3:Int)(PZ:Pt Int)(uA:(Pt (Pt aH)))(P5:Pt Int)(fA:Pt aH)(nX:Sl Int):PY E [] a3 PZ uA P5 fA nX k=aV (decide ((0:Int)<=(aQ ((nX.len:Int)+1))/\((aQ ((nX.len:Int)+1)):Int)=(aQ ((nX.len:Int)+1))/\(aQ ((nX.len:Int)+1))<=1000000)) (aV (decide ((0:Int)<=0/\0<((aQ ((nX.len:Int)+1)).toNat:Int))) (aV (decide (0<(aQ ((nX.len:Int)+1)).toNat)) (zbB E E.N a3 (nX.len:Int) 0 (⟨(aQ ((nX.len:Int)+1)).toNat,(seG 0 (λ_=>0) 1)⟩:(Sl Int)) nX k))):=krY
theorem zDG(y:Int×Int)(l0:List (Int×Int))(a3:Int)(PZ:Pt Int)(uA:(Pt (Pt aH)))(P5:Pt Int)(fA:Pt aH)(nX:Sl Int):PY E (y::l0) a3 PZ uA P5 fA nX k=aV (decide (0<=y.1/\y.1<(fA.v.hits.len:Int))) (aV (decide (0<=(fA.v.hits.get y.1.toNat).aj/\(fA.v.hits.get y.1.toNat).aj<(nX.len:Int))) (aV (decide ((fA.v.hits.get y.1.toNat).aj.toNat<nX.len)) (aV (decide (0<=(fA.v.hits.get y.1.toNat).aj/\(fA.v.hits.get y.1.toNat).aj<(nX.len:Int))) (aV (decide ((fA.v.hits.get y.1.toNat).aj.toNat<nX.len)) (PY E l0 a3 PZ uA P5 fA (⟨nX.len,(seG (fA.v.hits.get y.1.toNat).aj.toNat nX.get (aQ (nX.get (fA.v.hits.get y.1.toNat).aj.toNat+1)))⟩:(Sl Int)) k))))):=krY
theorem zsI(n0:Nat)(a3 v69 v70:Int)(Dk nX:Sl Int):zbB E (n0+1) a3 v69 v70 Dk nX k=cond (decide (v70<v69)) (aV (decide (0<=v70/\v70<(nX.len:Int))) (aV (decide (v70.toNat<nX.len)) (zbC E n0 E.N a3 (nX.get v70.toNat) (nX.len:Int) v69 v70 Dk nX k))) (VJ E E.N 0 (if a3>1 then a3 else 1) Dk k):=krY
theorem zsJ(n0 n1:Nat)(a3 OH v17 v69 v70:Int)(Dk nX:Sl Int):zbC E n0 (n1+1) a3 OH v17 v69 v70 Dk nX k=cond (decide (v17>0)) (aV (decide (0<=v17/\v17<(Dk.len:Int))) (aV (decide (v17.toNat<Dk.len)) (aV (decide (0<=(aQ (v17-1))/\(aQ (v17-1))<(Dk.len:Int))) (aV (decide ((aQ (v17-1)).toNat<Dk.len)) (aV (decide (0<=v17/\v17<(Dk.len:Int))) (aV (decide (v17.toNat<Dk.len)) (zbC E n0 n1 a3 OH (aQ (v17-1)) v69 v70 (⟨Dk.len,(seG v17.toNat Dk.get (aQ (Dk.get v17.toNat+(aQ (Dk.get (aQ (v17-1)).toNat*OH)))))⟩:(Sl Int)) nX k))))))) (zbB E n0 a3 v69 (aQ (v70+1)) Dk nX k):=krY
theorem zsK(n0:Nat)(xh Ik:Int)(Dk:Sl Int):VJ E (n0+1) xh Ik Dk k=cond (decide (Ik<(Dk.len:Int))) (aV (decide (0<=Ik/\Ik<(Dk.len:Int))) (aV (decide (Ik.toNat<Dk.len)) (VJ E n0 (aQ (xh+Dk.get Ik.toNat)) (aQ (Ik+1)) Dk k))) (k (xh,0)):=krY
end
theorem o59 [aG](E:E59)(zvT:Ok aJ 108 (ae.un E.zrl))(P6:Ok aJ 78 (ae.unA E.Yb))(h96:Ok aJ 96 (ae.un E.Yc))(zvU:xO aJ 173 (ae.unI E.i173)):Ok aJ 59 (ae.un (F59 E)):=eY (((((aB.nil.addF zvT).addF P6).addF h96).addF (sU aB.nil (dC krY))).addI zvU)
structure E60 where
 N:Nat
 zrp:au->ae Int
 Gv:Int×Int×Int->ae Bool
def F60(E:E60):au×bI->ae Int:=jS E.N ((Tabs.nil.addF 122 (ae.un E.zrp)).addF 123 (ae.un E.Gv)) 60
theorem e60(E:E60){A:Type}(k:Int→Option A)(a0:au)(a1:bI):(F60 E (a0,a1)).T k=(E.zrp a0).T λr1=>cond (r1 != 0) (k 2) ((E.Gv (a1.ve,1,16)).T λr2=>cond (!r2) (k 2) ((E.Gv (a1.xA,0,16)).T λr3=>cond (!r3) (k 2) (k 0))):=eX
theorem o60 [aG](E:E60)(zAa:Ok aJ 122 (ae.un E.zrp))(VK:Ok aJ 123 (ae.un E.Gv)):Ok aJ 60 (ae.un (F60 E)):=eY ((aB.nil.addF zAa).addF VK)
structure znC where
 N:Nat
def znD(E:znC):Unit->ae bI:=jS E.N Tabs.nil 108
theorem e108(E:znC){A:Type}(k:bI→Option A):(znD E ()).T k=k (⟨1,0⟩:bI):=eX
theorem zMu [aG](E:znC):Ok aJ 108 (ae.un (znD E)):=eY aB.nil
structure E78 where
 N:Nat
 c60:au×bI->ae Int
 c138:au×bu->ae Int
 c139:au×bu->ae ((Sl aC)×Int)
abbrev G78(E:E78):bM:=jc (((Tabs.nil.addF 60 (ae.un E.c60)).addF 138 (ae.un E.c138)).addF 139 (ae.un E.c139)) []
def A78:dI:=bZ aJ 78 [] {ks:=[(1,7,⟨[],[],[(24,2,55,96)],[],[],[],[]⟩)],cut:=[14]}
def F78(E:E78):au×bI×(Sl bu)->ae (Int ⊕ ((Pt aH)×Int)):=ae.tyA (aF aJ E.N (G78 E) A78 78)
section
variable(E:E78){A:Type}(k:(Int ⊕ ((Pt aH)×Int))->Option A)
def VL(E:E78)(n:Nat)(a0:au)(a1:bI)(a2:Sl bu)(zM:Int)(w55:Sl (Sl aC)){A:Type}(k:(Int ⊕ ((Pt aH)×Int))->Option A):Option A:=kC aJ (G78 E) E.N A78 78 [1,1,1,1,0,1,0] [.n n] (zhE k) ⟨[(3,.cl (.ptr 3 0)),(8,.cl (.ptr 24 0)),(25,eP a2),(26,.int (a2.len:Int)),(27,.int zM)],[(3,eB 24 a0),(24,.box 208 [.p (.sl a0.ak.len 15 (λi=>bn.enc (a0.ak.get i))),.p (.sl a2.len 6 (λi=>bn.enc (a2.get i))),.vec 55,.p (.int .i64 a1.ve),.p (.int .i64 a1.xA)]),(55,eV 96 1 24 w55)],[]⟩
def VM(E:E78)(n0:Nat)(a0:au)(a1:bI)(a2:Sl bu)(v11:Sl aC)(zM:Int)(w55:Sl (Sl aC)){A:Type}(k:(Int ⊕ ((Pt aH)×Int))->Option A):Option A:=kC aJ (G78 E) E.N A78 78 [1,1,1,1,0,1,0,0,1,1,0,0,1,1,1,1] [.n n0] (zhE k) ⟨[(3,.cl (.ptr 3 0)),(8,.cl (.ptr 24 0)),(11,eP v11),(25,eP a2),(26,.int (a2.len:Int)),(27,.int zM)],[(3,eB 24 a0),(24,.box 208 [.p (.sl a0.ak.len 15 (λi=>bn.enc (a0.ak.get i))),.p (.sl a2.len 6 (λi=>bn.enc (a2.get i))),.vec 55,.p (.int .i64 a1.ve),.p (.int .i64 a1.xA)]),(55,eV 96 1 24 w55)],[]⟩
theorem e78(a0:au)(a1:bI)(a2:Sl bu):(F78 E (a0,a1,a2)).T k=cond (decide ((a2.len:Int)>24)) (k (.inl 3)) ((E.c60 (a0,a1)).T λr1=>cond (r1 != 0) (k (.inl 2)) (VL E E.N a0 a1 a2 0 (⟨0,(λ_=>(⟨0,(λ_=>(⟨0,0,0⟩:aC))⟩:(Sl aC)))⟩:(Sl (Sl aC))) k)):=zsz.trans krY
theorem zsL(n0:Nat)(a0:au)(a1:bI)(a2:Sl bu)(zM:Int)(w55:Sl (Sl aC)):VL E (n0+1) a0 a1 a2 zM w55 k=cond (decide (zM<(a2.len:Int))) (aV (decide (0<=zM/\zM<(a2.len:Int))) ((E.c138 (a0,(a2.get zM.toNat))).T λr1=>cond (r1 != 0) (k (.inl 2)) ((E.c139 (a0,(a2.get zM.toNat))).T λr2=>cond (r2.2 != 0) (cond (r2.2 != 5) (k (.inl r2.2)) (VM E n0 a0 a1 a2 r2.1 zM w55 k)) (VM E n0 a0 a1 a2 r2.1 zM w55 k)))) (k (.inr ((⟨(⟨a0,a2,w55,a1⟩:aH)⟩:(Pt aH)),0))):=krY
theorem zDH(n0:Nat)(a0:au)(a1:bI)(a2:Sl bu)(v11:Sl aC)(zM:Int)(w55:Sl (Sl aC)):VM E n0 a0 a1 a2 v11 zM w55 k=aV (room (w55.len+1) 24) (VL E n0 a0 a1 a2 (aQ (zM+1)) (⟨(w55.len+1),(lm w55.len w55.get (λ_=>v11))⟩:(Sl (Sl aC))) k):=krY
end
theorem o78 [aG](E:E78)(h60:Ok aJ 60 (ae.un E.c60))(zvW:Ok aJ 138 (ae.un E.c138))(zvX:Ok aJ 139 (ae.un E.c139)):Ok aJ 78 (ae.unA (F78 E)):=zhF (sU (((aB.nil.addF h60).addF zvW).addF zvX) (dC krY))
structure E79 where
 N:Nat
 Gv:Int×Int×Int->ae Bool
 IL:(Pt aH)×Int->ae Int
 Yc:Int->ae Bool
abbrev G79(E:E79):bM:=jc (((Tabs.nil.addF 123 (ae.un E.Gv)).addF 140 (ae.un E.IL)).addF 96 (ae.un E.Yc)) [8]
def A79:dI:=bZ aJ 79 [] {cut:=[7]}
def F79(E:E79):(Pt aH)×af->ae Bool:=ae.ty (aF aJ E.N (G79 E) A79 79)
section
variable(E:E79){A:Type}(k:Bool->Option A)
def P7(E:E79)(n:Nat)(a0:Pt aH)(a1:af)(v12:Int)(mn8:Nat)(mf8:List Int->Option (List Int)){A:Type}(k:Bool->Option A):Option A:=kC aJ (G79 E) E.N A79 79 [1,1,0,1,0] [.n n] (kz k) ⟨[(0,eP a0),(3,.cl (.ptr 3 0)),(5,.cl (.mo 8)),(10,eP a1.Hits),(11,.int (a1.Hits.len:Int)),(12,.int v12)],[(3,eB 43 a1),(8,.mo 3 4 (.one,1,false,[none]) mn8 mf8)],[]⟩
def VN(E:E79)(n0:Nat)(a0:Pt aH)(a1:af)(v7 v12:Int)(mn8:Nat)(mf8:List Int->Option (List Int)){A:Type}(k:Bool->Option A):Option A:=kC aJ (G79 E) E.N A79 79 [1,1,0,1,0,0,1,1,0,0,1,1] [.n n0] (kz k) ⟨[(0,eP a0),(3,.cl (.ptr 3 0)),(5,.cl (.mo 8)),(7,.int v7),(10,eP a1.Hits),(11,.int (a1.Hits.len:Int)),(12,.int v12)],[(3,eB 43 a1),(8,.mo 3 4 (.one,1,false,[none]) mn8 mf8)],[]⟩
theorem e79(a0:Pt aH)(a1:af):(F79 E (a0,a1)).T k=P7 E E.N a0 a1 0 0 (λ_=>none) k:=eX
theorem zsM(n0:Nat)(a0:Pt aH)(a1:af)(v12:Int)(mn8:Nat)(mf8:List Int→Option (List Int)):P7 E (n0+1) a0 a1 v12 mn8 mf8 k=cond (decide (v12<(a1.Hits.len:Int))) (aV (decide (0<=v12/\v12<(a1.Hits.len:Int))) ((E.Gv (a1.Hits.get v12.toNat,0,(aQ ((a0.v.hits.len:Int)-1)))).T λr1=>cond (!r1) (k false) (cond (decide (v12>0)) (aV (decide (0<=(aQ (v12-1))/\(aQ (v12-1))<(a1.Hits.len:Int))) (cond (decide (a1.Hits.get v12.toNat<=a1.Hits.get (aQ (v12-1)).toNat)) (k false) ((E.IL (a0,a1.Hits.get v12.toNat)).T λr2=>cond (r2 != a1.View) (k false) (aV (decide (0<=a1.Hits.get v12.toNat/\a1.Hits.get v12.toNat<(a0.v.hits.len:Int))) (cond (sD (mf8 [(a0.v.hits.get (a1.Hits.get v12.toNat).toNat).aj]) 0 != 0) (k false) (cond (decide (v12>=(a1.aX.len:Int))) (k false) (aV (decide (0<=v12/\v12<(a1.aX.len:Int))) (aV (decide (0<=a1.Hits.get v12.toNat/\a1.Hits.get v12.toNat<(a0.v.iT.len:Int))) ((E.Gv (a1.aX.get v12.toNat,0,(aQ (((a0.v.iT.get (a1.Hits.get v12.toNat).toNat).len:Int)-1)))).T λr3=>cond (!r3) (k false) (VN E n0 a0 a1 (a1.Hits.get v12.toNat) v12 mn8 mf8 k)))))))))) ((E.IL (a0,a1.Hits.get v12.toNat)).T λr4=>cond (r4 != a1.View) (k false) (aV (decide (0<=a1.Hits.get v12.toNat/\a1.Hits.get v12.toNat<(a0.v.hits.len:Int))) (cond (sD (mf8 [(a0.v.hits.get (a1.Hits.get v12.toNat).toNat).aj]) 0 != 0) (k false) (cond (decide (v12>=(a1.aX.len:Int))) (k false) (aV (decide (0<=v12/\v12<(a1.aX.len:Int))) (aV (decide (0<=a1.Hits.get v12.toNat/\a1.Hits.get v12.toNat<(a0.v.iT.len:Int))) ((E.Gv (a1.aX.get v12.toNat,0,(aQ (((a0.v.iT.get (a1.Hits.get v12.toNat).toNat).len:Int)-1)))).T λr5=>cond (!r5) (k false) (VN E n0 a0 a1 (a1.Hits.get v12.toNat) v12 mn8 mf8 k))))))))))) ((E.Yc a1.View).T λr6=>cond r6 (cond (decide ((a1.Hits.len:Int)>0)) (k ((a1.aX.len:Int)==(a1.Hits.len:Int))) (k false)) (k false)):=krY
theorem zDI(n0:Nat)(a0:Pt aH)(a1:af)(v7 v12:Int)(mn8:Nat)(mf8:List Int→Option (List Int)):VN E n0 a0 a1 v7 v12 mn8 mf8 k=aV (decide (0<=v7/\v7<(a0.v.hits.len:Int))) (P7 E n0 a0 a1 (aQ (v12+1)) (addN (mf8 [(a0.v.hits.get v7.toNat).aj]) mn8) (lT [(a0.v.hits.get v7.toNat).aj] [1] mf8) k):=krY
end
theorem o79 [aG](E:E79)(VK:Ok aJ 123 (ae.un E.Gv))(Zl:Ok aJ 140 (ae.un E.IL))(h96:Ok aJ 96 (ae.un E.Yc)):Ok aJ 79 (ae.un (F79 E)):=eY (((aB.nil.addF VK).addF Zl).addF h96)
structure E96 where
 N:Nat
def F96(E:E96):Int->ae Bool:=jS E.N Tabs.nil 96
theorem e96(E:E96){A:Type}(k:Bool→Option A)(a0:Int):(F96 E (a0)).T k=cond (a0==1) (k true) (k (a0==2)):=eX
theorem o96 [aG](E:E96):Ok aJ 96 (ae.un (F96 E)):=eY aB.nil
structure zdR where
 N:Nat
abbrev zDJ(E:zdR):bM:=jc Tabs.nil []
def zDK:dI:=bZ aJ 105 [] {ks:=[(1,3,⟨[],[(5,32,101)],[],[],[],[],[]⟩)]}
def znE(E:zdR):(Pt aH)×af->ae ((Sl aC)):=ae.ty (aF aJ E.N (zDJ E) zDK 105)
section
variable(E:zdR){A:Type}(k:(Sl aC)->Option A)
def RF(E:zdR)(n:Nat)(a0:Pt aH)(a1:af)(v11:Int)(w32:Sl aC){A:Type}(k:(Sl aC)->Option A):Option A:=kC aJ (zDJ E) E.N zDK 105 [1,1,0,1,0] [.n n] (kz k) ⟨[(0,eP a0),(3,.cl (.ptr 3 0)),(5,.cl (.vec 32)),(9,eP a1.Hits),(10,.int (a1.Hits.len:Int)),(11,.int v11)],[(3,eB 43 a1),(32,eV 101 3 24 w32)],[]⟩
theorem zMz(a0:Pt aH)(a1:af):(znE E (a0,a1)).T k=RF E E.N a0 a1 0 (⟨0,(λ_=>(⟨0,0,0⟩:aC))⟩:(Sl aC)) k:=eX
theorem zh5(n0:Nat)(a0:Pt aH)(a1:af)(v11:Int)(w32:Sl aC):RF E (n0+1) a0 a1 v11 w32 k=cond (decide (v11<(a1.Hits.len:Int))) (aV (decide (0<=v11/\v11<(a1.Hits.len:Int))) (aV (decide (0<=a1.Hits.get v11.toNat/\a1.Hits.get v11.toNat<(a0.v.iT.len:Int))) (aV (decide (0<=v11/\v11<(a1.aX.len:Int))) (aV (decide (0<=a1.aX.get v11.toNat/\a1.aX.get v11.toNat<((a0.v.iT.get (a1.Hits.get v11.toNat).toNat).len:Int))) (aV (room (w32.len+1) 24) (RF E n0 a0 a1 (aQ (v11+1)) (⟨(w32.len+1),(lm w32.len w32.get (λ_=>((a0.v.iT.get (a1.Hits.get v11.toNat).toNat).get (a1.aX.get v11.toNat).toNat)))⟩:(Sl aC)) k)))))) (k w32):=krY
end
theorem zMA [aG](E:zdR):Ok aJ 105 (ae.un (znE E)):=eY aB.nil
structure VO where
 N:Nat
 IL:(Pt aH)×Int->ae Int
abbrev zvZ(E:VO):bM:=jc (Tabs.nil.addF 140 (ae.un E.IL)) []
def zv0:dI:=bZ aJ 173 [0] {yl:=[7]}
def zDL(E:VO)(c:List PA):YO:=aI aJ (zvZ E) E.N zv0 173 c
def zv1(E:VO):(Pt Int)×(Pt (Pt aH))×(Pt Int)->ae (List (Int×Int)):=ae.tyI λc=>.opt (zDL E c)
section
variable(E:VO)
def LW(E:VO)(n:Nat)(a2:(Pt (Pt aH)))(a3:Pt Int)(v5:Int):YO:=ptY aJ (zvZ E) E.N zv0 173 [1,0] [n] ⟨[(0,.cl (.vec 4095)),(2,eP a2),(3,eP a3),(5,.int v5)],[(4095,.gone)],[]⟩
def LX(E:VO)(n0 n:Nat)(a2:(Pt (Pt aH)))(a3:Pt Int)(v5 v29 v30:Int):YO:=ptY aJ (zvZ E) E.N zv0 173 [1,0,0,1,0,0,1,1,0] [n0,n] ⟨[(0,.cl (.vec 4095)),(2,eP a2),(3,eP a3),(5,.int v5),(29,.int v29),(30,.int v30)],[(4095,.gone)],[]⟩
theorem zMB(a1:Pt Int)(a2:(Pt (Pt aH)))(a3:Pt Int):zDL E (dm.enc ((a1,a2,a3):(Pt Int)×(Pt (Pt aH))×(Pt Int)))=LW E E.N a2 a3 a1.v:=krY
theorem zh6(n0:Nat)(a2:(Pt (Pt aH)))(a3:Pt Int)(v5:Int):LW E (n0+1) a2 a3 v5=cond (decide (v5<(a2.v.v.hits.len:Int))) ((E.IL (a2.v,v5)).T λr1=>cond (r1 != a3.v) (LW E n0 a2 a3 (aQ (v5+1))) (aV (decide (0≤v5∧v5<(a2.v.v.iT.len:Int))) (LX E n0 E.N a2 a3 v5 ((a2.v.v.iT.get v5.toNat).len:Int) 0))) (some []):=krY
theorem zh7(n0 n1:Nat)(a2:(Pt (Pt aH)))(a3:Pt Int)(v5 v29 v30:Int):LX E n0 (n1+1) a2 a3 v5 v29 v30=cond (decide (v30<v29)) (yT (dm.enc ((v5,v30):Int×Int)) (some []) (LX E n0 n1 a2 a3 v5 v29 (aQ (v30+1)))) (LW E n0 a2 a3 (aQ (v5+1))):=krY
end
theorem zMC(E:VO)(Zl:Ok aJ 140 (ae.un E.IL)):xO aJ 173 (ae.unI (zv1 E)):=Rw (LQ (aB.nil.addF Zl) (dC krY))
structure znF where
 N:Nat
def znG(E:znF):(Pt aH)×Int->ae Int:=jS E.N Tabs.nil 140
theorem zMD(E:znF){A:Type}(k:Int→Option A)(a0:Pt aH)(a1:Int):(znG E (a0,a1)).T k=aV (decide (0<=a1/\a1<(a0.v.hits.len:Int))) (aV (decide (0<=(a0.v.hits.get a1.toNat).aj/\(a0.v.hits.get a1.toNat).aj<(a0.v.au.ak.len:Int))) (k (a0.v.au.ak.get (a0.v.hits.get a1.toNat).aj.toNat).View)):=eX
theorem zME [aG](E:znF):Ok aJ 140 (ae.un (znG E)):=eY aB.nil
structure znH where
 N:Nat
 c160:au->ae Bool
def znI(E:znH):au->ae Int:=jS E.N (Tabs.nil.addF 160 (ae.un E.c160)) 122
theorem zMF(E:znH){A:Type}(k:Int→Option A)(a0:au):(znI E (a0)).T k=(E.c160 a0).T λr1=>cond (!r1) (k 2) (k 0):=eX
theorem zMG [aG](E:znH)(AZ:Ok aJ 160 (ae.un E.c160)):Ok aJ 122 (ae.un (znI E)):=eY (aB.nil.addF AZ)
structure znJ where
 N:Nat
def znK(E:znJ):Int×Int×Int->ae Bool:=jS E.N Tabs.nil 123
theorem zMH(E:znJ){A:Type}(k:Bool→Option A)(a0 a1 a2:Int):(znK E (a0,a1,a2)).T k=cond (decide (a0>=a1)) (k (decide (a0<=a2))) (k false):=eX
theorem zMI [aG](E:znJ):Ok aJ 123 (ae.un (znK E)):=eY aB.nil
structure znL where
 N:Nat
 TI:au×bu->ae Bool
def znM(E:znL):au×bu->ae Int:=jS E.N (Tabs.nil.addF 188 (ae.un E.TI)) 138
theorem e138(E:znL){A:Type}(k:Int→Option A)(a0:au)(a1:bu):(znM E (a0,a1)).T k=(E.TI (a0,a1)).T λr1=>cond (!r1) (k 2) (k 0):=eX
theorem zMJ [aG](E:znL)(Zm:Ok aJ 188 (ae.un E.TI)):Ok aJ 138 (ae.un (znM E)):=eY (aB.nil.addF Zm)
structure znN where
 N:Nat
 TI:au×bu->ae Bool
 tH:au×bu->ae (placed×Bool)
 zrz:placed×bu->ae ((Sl aC))
def znO(E:znN):au×bu->ae ((Sl aC)×Int):=jS E.N (((Tabs.nil.addF 188 (ae.un E.TI)).addF 112 (ae.un E.tH)).addF 189 (ae.un E.zrz)) 139
theorem zMK(E:znN){A:Type}(k:((Sl aC)×Int)→Option A)(a0:au)(a1:bu):(znO E (a0,a1)).T k=(E.TI (a0,a1)).T λr1=>cond (!r1) (k ((⟨0,λ_=>default⟩:(Sl aC)),2)) ((E.tH (a0,a1)).T λr2=>(E.zrz (r2.1,a1)).T λr3=>cond ((r3.len:Int)==0) (k ((⟨0,λ_=>default⟩:(Sl aC)),5)) (k (r3,0))):=eX
theorem zML [aG](E:znN)(Zm:Ok aJ 188 (ae.un E.TI))(zL:Ok aJ 112 (ae.un E.tH))(zv3:Ok aJ 189 (ae.un E.zrz)):Ok aJ 139 (ae.un (znO E)):=eY (((aB.nil.addF Zm).addF zL).addF zv3)
structure zdS where
 N:Nat
 gJ:Int×Int×Int->ae Bool
abbrev zDM(E:zdS):bM:=jc (Tabs.nil.addF 161 (ae.un E.gJ)) []
def zDN:dI:=bZ aJ 112 [] {}
def znP(E:zdS):au×bu->ae (placed×Bool):=ae.ty (aF aJ E.N (zDM E) zDN 112)
section
variable(E:zdS){A:Type}(k:(placed×Bool)->Option A)
def RG(E:zdS)(n:Nat)(a0:au)(a1:bu)(v67:Int){A:Type}(k:(placed×Bool)->Option A):Option A:=kC aJ (zDM E) E.N zDN 112 [1,1,1,1,0,1,0] [.n n] (kz k) ⟨[(3,.cl (.ptr 3 0)),(4,.cl (.ptr 4 0)),(6,.cl (.ptr 6 0)),(65,eP (a0.ak.get a1.aj.toNat).Dead),(66,.int ((a0.ak.get a1.aj.toNat).Dead.len:Int)),(67,.int v67)],[(3,eB 92 a1),(4,.box 185 [.p (.int .i64 0),.p (.int .i64 0),.p (.int .i64 0),.p (.int .i64 0),.p (.int .i64 0),.p (.int .i64 0),.p (.int .i64 0),.p (.int .i64 0),.p (.int .i64 0),.p (.int .i64 0),.p (.int .i64 0),.p (.int .i64 0),.p (.int .i64 0),.p (.nils),.p (.nils),.p (.int .i64 0)]),(6,.box 185 [.p (.int .i64 (a0.ak.get a1.aj.toNat).Kind),.p (.int .i64 (a0.ak.get a1.aj.toNat).View),.p (.int .i64 (a0.ak.get a1.aj.toNat).Z),.p (.int .i64 (a0.ak.get a1.aj.toNat).First),.p (.int .i64 (a0.ak.get a1.aj.toNat).aT),.p (.int .i64 (a0.ak.get a1.aj.toNat).bW),.p (.int .i64 (a0.ak.get a1.aj.toNat).dZ),.p (.int .i64 (a0.ak.get a1.aj.toNat).bH.Low),.p (.int .i64 (a0.ak.get a1.aj.toNat).bH.High),.p (.int .i64 (a0.ak.get a1.aj.toNat).Clock.Low),.p (.int .i64 (a0.ak.get a1.aj.toNat).Clock.High),.p (.int .i64 (a0.ak.get a1.aj.toNat).dX),.p (.int .i64 (a0.ak.get a1.aj.toNat).Least),.p (.sl (a0.ak.get a1.aj.toNat).aW.len 3 (λi=>bn.enc ((a0.ak.get a1.aj.toNat).aW.get i))),.p (.sl (a0.ak.get a1.aj.toNat).Dead.len 1 (λi=>bn.enc ((a0.ak.get a1.aj.toNat).Dead.get i))),.p (.int .i64 a1.aj)])],[]⟩
theorem zMM(a0:au)(a1:bu):(znP E (a0,a1)).T k=(E.gJ (a1.aj,0,(aQ ((a0.ak.len:Int)-1)))).T λr1=>cond (!r1) (k ((⟨(⟨0,0,0,0,0,0,0,(⟨0,0⟩:bC),(⟨0,0⟩:bC),0,0,(⟨0,λ_=>default⟩:(Sl aW)),(⟨0,λ_=>default⟩:(Sl Int))⟩:aj),0⟩:placed),false)) (aV (decide (0<=a1.aj/\a1.aj<(a0.ak.len:Int))) ((E.gJ (a1.Channel,0,(aQ ((a0.ak.get a1.aj.toNat).bW-1)))).T λr2=>cond (!r2) (k ((⟨(a0.ak.get a1.aj.toNat),a1.aj⟩:placed),false)) ((E.gJ (a1.qm,1,(aQ ((a0.ak.get a1.aj.toNat).bW-a1.Channel)))).T λr3=>cond (!r3) (k ((⟨(a0.ak.get a1.aj.toNat),a1.aj⟩:placed),false)) ((E.gJ (a1.TG,(a0.ak.get a1.aj.toNat).Least,1000000)).T λr4=>cond (!r4) (k ((⟨(a0.ak.get a1.aj.toNat),a1.aj⟩:placed),false)) ((E.gJ (a1.Time,(-1000000000),1000000000)).T λr5=>cond (!r5) (k ((⟨(a0.ak.get a1.aj.toNat),a1.aj⟩:placed),false)) (RG E E.N a0 a1 0 k)))))):=eX
theorem zh8(n0:Nat)(a0:au)(a1:bu)(v67:Int):RG E (n0+1) a0 a1 v67 k=cond (decide (v67<((a0.ak.get a1.aj.toNat).Dead.len:Int))) (aV (decide (0<=v67/\v67<((a0.ak.get a1.aj.toNat).Dead.len:Int))) ((E.gJ ((a0.ak.get a1.aj.toNat).Dead.get v67.toNat,a1.Channel,(aQ ((aQ (a1.Channel+a1.qm))-1)))).T λr1=>cond r1 (k ((⟨(a0.ak.get a1.aj.toNat),a1.aj⟩:placed),false)) (RG E n0 a0 a1 (aQ (v67+1)) k))) (cond ((a0.ak.get a1.aj.toNat).Kind==2) (cond (a1.qm==1) ((E.gJ (a1.aW,0,1000000)).T λr2=>k ((⟨(a0.ak.get a1.aj.toNat),a1.aj⟩:placed),r2)) (k ((⟨(a0.ak.get a1.aj.toNat),a1.aj⟩:placed),false))) (cond (a1.aW==0) (cond ((a0.ak.get a1.aj.toNat).Kind != 3) (k ((⟨(a0.ak.get a1.aj.toNat),a1.aj⟩:placed),true)) (k ((⟨(a0.ak.get a1.aj.toNat),a1.aj⟩:placed),(a1.Time==0)))) (k ((⟨(a0.ak.get a1.aj.toNat),a1.aj⟩:placed),false)))):=krY
end
theorem zMN [aG](E:zdS)(lG:Ok aJ 161 (ae.un E.gJ)):Ok aJ 112 (ae.un (znP E)):=eY (aB.nil.addF lG)
structure znQ where
 N:Nat
def znR(E:znQ):Int×Int×Int->ae Bool:=jS E.N Tabs.nil 161
theorem e161(E:znQ){A:Type}(k:Bool→Option A)(a0 a1 a2:Int):(znR E (a0,a1,a2)).T k=cond (decide (a0>=a1)) (k (decide (a0<=a2))) (k false):=eX
theorem zMO [aG](E:znQ):Ok aJ 161 (ae.un (znR E)):=eY aB.nil
structure zdT where
 N:Nat
 c201:placed->ae Bool
 gJ:Int×Int×Int->ae Bool
abbrev zDO(E:zdT):bM:=jc ((Tabs.nil.addF 201 (ae.un E.c201)).addF 161 (ae.un E.gJ)) []
def zDP:dI:=bZ aJ 160 [] {}
def znS(E:zdT):au->ae Bool:=ae.ty (aF aJ E.N (zDO E) zDP 160)
section
variable(E:zdT){A:Type}(k:Bool->Option A)
def FX(E:zdT)(n:Nat)(a0:au)(v9:Int){A:Type}(k:Bool->Option A):Option A:=kC aJ (zDO E) E.N zDP 160 [1,0,1,0] [.n n] (kz k) ⟨[(1,.cl (.ptr 1 0)),(7,eP a0.ak),(8,.int (a0.ak.len:Int)),(9,.int v9)],[(1,eB 24 a0)],[]⟩
theorem e160(a0:au):(znS E (a0)).T k=FX E E.N a0 0 k:=eX
theorem zh9(n0:Nat)(a0:au)(v9:Int):FX E (n0+1) a0 v9 k=cond (decide (v9<(a0.ak.len:Int))) (aV (decide (0<=v9/\v9<(a0.ak.len:Int))) ((E.c201 (⟨(a0.ak.get v9.toNat),v9⟩:placed)).T λr1=>cond (!r1) (k false) (cond (decide (v9>0)) (aV (decide (0<=(aQ (v9-1))/\(aQ (v9-1))<(a0.ak.len:Int))) (cond (decide ((a0.ak.get v9.toNat).Z<=(a0.ak.get (aQ (v9-1)).toNat).Z)) (k false) (FX E n0 a0 (aQ (v9+1)) k))) (FX E n0 a0 (aQ (v9+1)) k)))) ((E.gJ ((a0.ak.len:Int),1,16)).T λr2=>k r2):=krY
end
theorem zMP [aG](E:zdT)(zv4:Ok aJ 201 (ae.un E.c201))(lG:Ok aJ 161 (ae.un E.gJ)):Ok aJ 160 (ae.un (znS E)):=eY ((aB.nil.addF zv4).addF lG)
structure znT where
 N:Nat
 gJ:Int×Int×Int->ae Bool
def znU(E:znT):bC×Int->ae Bool:=jS E.N (Tabs.nil.addF 161 (ae.un E.gJ)) 164
theorem zMQ(E:znT){A:Type}(k:Bool→Option A)(a0:bC)(a1:Int):(znU E (a0,a1)).T k=(E.gJ (a0.Low,(aQ (0-a1)),a0.High)).T λr1=>cond r1 (k (decide (a0.High<=a1))) (k false):=eX
theorem zMR [aG](E:znT)(lG:Ok aJ 161 (ae.un E.gJ)):Ok aJ 164 (ae.un (znU E)):=eY (aB.nil.addF lG)
structure Zn where
 N:Nat
 gJ:Int×Int×Int->ae Bool
 zfd:placed->ae Bool
 c232:placed->ae Bool
 c233:placed->ae Bool
 c234:placed->ae Bool
abbrev zv5(E:Zn):bM:=jc (((((Tabs.nil.addF 161 (ae.un E.gJ)).addF 235 (ae.un E.zfd)).addF 232 (ae.un E.c232)).addF 233 (ae.un E.c233)).addF 234 (ae.un E.c234)) []
def zv6:dI:=bZ aJ 201 [] {}
def znV(E:Zn):placed->ae Bool:=ae.ty (aF aJ E.N (zv5 E) zv6 201)
abbrev Zo(n:Int)(a:placed):placed:={a with aj:={a.aj with Kind:=n}}
section
variable(E:Zn){A:Type}(k:Bool->Option A)
def LY(E:Zn)(a0:placed)(OH:Bool){A:Type}(k:Bool->Option A):Option A:=kC aJ (zv5 E) E.N zv6 201 [1,1,0,0] [.o 4] (kz k) ⟨[(16,.bool OH),(15,.int a0.aj.Kind),(14,.cl (.ptr 1 0)),(13,.cl (.ptr 1 0)),(1,.cl (.ptr 1 0)),(3,.cl (.ptr 3 0))],[(1,eB 185 a0),(3,.box 301 [.p (.nilf),.p (.fna 232 (bn.enc a0)),.p (.fna 233 (bn.enc a0)),.p (.fna 234 (bn.enc a0))])],[(2,1,0)]⟩
def vV(E:Zn)(n:Nat)(a0:placed)(v36:Int){A:Type}(k:Bool->Option A):Option A:=kC aJ (zv5 E) E.N zv6 201 [1,1,1,0,1,0] [.n n] (kz k) ⟨[(1,.cl (.ptr 1 0)),(34,eP a0.aj.Dead),(35,.int (a0.aj.Dead.len:Int)),(36,.int v36)],[(1,eB 185 a0)],[]⟩
theorem zMS(a0:placed):(znV E (a0)).T k=(E.gJ (a0.aj.Kind,1,3)).T λr1=>LY E a0 r1 k:=eX
theorem znW(a0:placed):LY E a0 false k=k false:=krY
theorem znX(a0:placed):LY E (Zo 1 a0) true k=(E.zfd (Zo 1 a0)).T λr1=>cond (!r1) (k false) ((E.c232 (Zo 1 a0)).T λr2=>cond (!r2) (k false) (vV E E.N (Zo 1 a0) 0 k)):=krY
theorem znY(a0:placed):LY E (Zo 2 a0) true k=(E.zfd (Zo 2 a0)).T λr1=>cond (!r1) (k false) ((E.c233 (Zo 2 a0)).T λr2=>cond (!r2) (k false) (vV E E.N (Zo 2 a0) 0 k)):=krY
theorem znZ(a0:placed):LY E (Zo 3 a0) true k=(E.zfd (Zo 3 a0)).T λr1=>cond (!r1) (k false) ((E.c234 (Zo 3 a0)).T λr2=>cond (!r2) (k false) (vV E E.N (Zo 3 a0) 0 k)):=krY
theorem zia(n0:Nat)(a0:placed)(v36:Int):vV E (n0+1) a0 v36 k=cond (decide (v36<(a0.aj.Dead.len:Int))) (aV (decide (0<=v36/\v36<(a0.aj.Dead.len:Int))) ((E.gJ (a0.aj.Dead.get v36.toNat,0,(aQ (a0.aj.bW-1)))).T λr1=>cond (!r1) (k false) (cond (decide (v36>0)) (aV (decide (0<=(aQ (v36-1))/\(aQ (v36-1))<(a0.aj.Dead.len:Int))) (cond (decide (a0.aj.Dead.get v36.toNat<=a0.aj.Dead.get (aQ (v36-1)).toNat)) (k false) (vV E n0 a0 (aQ (v36+1)) k))) (vV E n0 a0 (aQ (v36+1)) k)))) (k (decide ((a0.aj.Dead.len:Int)<=100))):=krY
end
theorem zMT [aG](E:Zn)(lG:Ok aJ 161 (ae.un E.gJ))(zib:Ok aJ 235 (ae.un E.zfd))(zv7:Ok aJ 232 (ae.un E.c232))(zv8:Ok aJ 233 (ae.un E.c233))(zv9:Ok aJ 234 (ae.un E.c234)):Ok aJ 201 (ae.un (znV E)):=eY (((((aB.nil.addF lG).addF zib).addF zv7).addF zv8).addF zv9)
structure zn0 where
 N:Nat
def zn1(E:zn0):placed->ae Bool:=jS E.N Tabs.nil 232
theorem e232(E:zn0){A:Type}(k:Bool→Option A)(a0:placed):(zn1 E (a0)).T k=k ((a0.aj.aW.len:Int)==0):=eX
theorem zMU [aG](E:zn0):Ok aJ 232 (ae.un (zn1 E)):=eY aB.nil
structure zdU where
 N:Nat
 gJ:Int×Int×Int->ae Bool
abbrev zDQ(E:zdU):bM:=jc (Tabs.nil.addF 161 (ae.un E.gJ)) []
def zDR:dI:=bZ aJ 233 [] {}
def zn2(E:zdU):placed->ae Bool:=ae.ty (aF aJ E.N (zDQ E) zDR 233)
section
variable(E:zdU){A:Type}(k:Bool->Option A)
def FY(E:zdU)(n:Nat)(a0:placed)(v9:Int){A:Type}(k:Bool->Option A):Option A:=kC aJ (zDQ E) E.N zDR 233 [1,0,1,0] [.n n] (kz k) ⟨[(1,.cl (.ptr 1 0)),(7,eP a0.aj.aW),(8,.int (a0.aj.aW.len:Int)),(9,.int v9)],[(1,eB 185 a0)],[]⟩
theorem e233(a0:placed):(zn2 E (a0)).T k=FY E E.N a0 0 k:=eX
theorem zic(n0:Nat)(a0:placed)(v9:Int):FY E (n0+1) a0 v9 k=cond (decide (v9<(a0.aj.aW.len:Int))) (aV (decide (0<=v9/\v9<(a0.aj.aW.len:Int))) ((E.gJ ((a0.aj.aW.get v9.toNat).Time,0,1000000)).T λr1=>cond (!r1) (k false) ((E.gJ ((a0.aj.aW.get v9.toNat).fB.Low,0,(a0.aj.aW.get v9.toNat).fB.High)).T λr2=>cond (!r2) (k false) (cond (decide ((a0.aj.aW.get v9.toNat).fB.High>(aQ (a0.aj.aT.tdiv 2)))) (k false) (cond (decide (v9>0)) (aV (decide (0<=(aQ (v9-1))/\(aQ (v9-1))<(a0.aj.aW.len:Int))) (cond (decide ((a0.aj.aW.get v9.toNat).Time<=(a0.aj.aW.get (aQ (v9-1)).toNat).Time)) (k false) (aV (decide (0<=(aQ (v9-1))/\(aQ (v9-1))<(a0.aj.aW.len:Int))) (cond (decide ((a0.aj.aW.get v9.toNat).fB.Low<(a0.aj.aW.get (aQ (v9-1)).toNat).fB.Low)) (k false) (aV (decide (0<=(aQ (v9-1))/\(aQ (v9-1))<(a0.aj.aW.len:Int))) (cond (decide ((a0.aj.aW.get v9.toNat).fB.High<(a0.aj.aW.get (aQ (v9-1)).toNat).fB.High)) (k false) (FY E n0 a0 (aQ (v9+1)) k))))))) (FY E n0 a0 (aQ (v9+1)) k)))))) ((E.gJ ((a0.aj.aW.len:Int),1,50)).T λr3=>k r3):=krY
end
theorem zMV [aG](E:zdU)(lG:Ok aJ 161 (ae.un E.gJ)):Ok aJ 233 (ae.un (zn2 E)):=eY (aB.nil.addF lG)
structure zn3 where
 N:Nat
def zn4(E:zn3):placed->ae Bool:=jS E.N Tabs.nil 234
theorem e234(E:zn3){A:Type}(k:Bool→Option A)(a0:placed):(zn4 E (a0)).T k=k ((a0.aj.aW.len:Int)==0):=eX
theorem zMW [aG](E:zn3):Ok aJ 234 (ae.un (zn4 E)):=eY aB.nil
structure zn5 where
 N:Nat
 gJ:Int×Int×Int->ae Bool
 c164:bC×Int->ae Bool
def zn6(E:zn5):placed->ae Bool:=jS E.N ((Tabs.nil.addF 161 (ae.un E.gJ)).addF 164 (ae.un E.c164)) 235
theorem zMX(E:zn5){A:Type}(k:Bool→Option A)(a0:placed):(zn6 E (a0)).T k=(E.gJ (a0.aj.View,1,2)).T λr1=>cond (!r1) (k false) ((E.gJ (a0.aj.Z,0,100000)).T λr2=>cond (!r2) (k false) ((E.gJ (a0.aj.First,(-1000000),1000000)).T λr3=>cond (!r3) (k false) ((E.gJ (a0.aj.aT,2,100000)).T λr4=>cond (!r4) (k false) ((E.gJ (a0.aj.bW,1,2000)).T λr5=>cond (!r5) (k false) ((E.gJ (a0.aj.dZ,0,100000)).T λr6=>cond (!r6) (k false) ((E.c164 (a0.aj.bH,1000000)).T λr7=>cond (!r7) (k false) ((E.c164 (a0.aj.Clock,1000000000)).T λr8=>cond (!r8) (k false) ((E.gJ (a0.aj.dX,0,1000000)).T λr9=>cond (!r9) (k false) ((E.gJ (a0.aj.Least,0,1000000)).T λr10=>cond (!r10) (k false) (cond (decide ((aQ ((aQ ((aQ (a0.aj.First-a0.aj.aT))-a0.aj.dZ))+a0.aj.bH.Low))>=(-1000000))) (k (decide ((aQ ((aQ ((aQ (a0.aj.First+(aQ ((aQ (a0.aj.bW+1))*a0.aj.aT))))+a0.aj.dZ))+a0.aj.bH.High))<=1000000))) (k false))))))))))):=eX
theorem zMY [aG](E:zn5)(lG:Ok aJ 161 (ae.un E.gJ))(VP:Ok aJ 164 (ae.un E.c164)):Ok aJ 235 (ae.un (zn6 E)):=eY ((aB.nil.addF lG).addF VP)
structure zn7 where
 N:Nat
 c160:au->ae Bool
 tH:au×bu->ae (placed×Bool)
def zn8(E:zn7):au×bu->ae Bool:=jS E.N ((Tabs.nil.addF 160 (ae.un E.c160)).addF 112 (ae.un E.tH)) 188
theorem zMZ(E:zn7){A:Type}(k:Bool→Option A)(a0:au)(a1:bu):(zn8 E (a0,a1)).T k=(E.c160 a0).T λr1=>cond (!r1) (k false) ((E.tH (a0,a1)).T λr2=>k r2.2):=eX
theorem zM0 [aG](E:zn7)(AZ:Ok aJ 160 (ae.un E.c160))(zL:Ok aJ 112 (ae.un E.tH)):Ok aJ 188 (ae.un (zn8 E)):=eY ((aB.nil.addF AZ).addF zL)
structure zn9 where
 N:Nat
 zfc:placed×Int×Int->ae aC
 zrH:placed×Int->ae (Int×Int)
def zoa(E:zn9):placed×bu->ae ((Sl aC)):=jS E.N ((Tabs.nil.addF 223 (ae.un E.zfc)).addF 224 (ae.un E.zrH)) 189
theorem e189(E:zn9){A:Type}(k:(Sl aC)→Option A)(a0:placed)(a1:bu):(zoa E (a0,a1)).T k=cond (a0.aj.Kind != 2) (cond (decide ((aQ ((aQ (a0.aj.First+(aQ ((aQ ((aQ (a1.Channel+a1.qm))-1))*a0.aj.aT))))-a0.aj.dZ))>(aQ ((aQ (a0.aj.First+(aQ ((aQ (a1.Channel+1))*a0.aj.aT))))+a0.aj.dZ)))) (k (⟨0,λ_=>default⟩:(Sl aC))) ((E.zfc (a0,(aQ ((aQ (a0.aj.First+(aQ ((aQ ((aQ (a1.Channel+a1.qm))-1))*a0.aj.aT))))-a0.aj.dZ)),(aQ ((aQ (a0.aj.First+(aQ ((aQ (a1.Channel+1))*a0.aj.aT))))+a0.aj.dZ)))).T λr1=>k (⟨1,(fun _=>r1)⟩:(Sl aC)))) ((E.zrH (a0,a1.aW)).T λr2=>(E.zfc (a0,(aQ ((aQ (a0.aj.First+(aQ (a1.Channel*a0.aj.aT))))-r2.2)),(aQ ((aQ (a0.aj.First+(aQ (a1.Channel*a0.aj.aT))))-r2.1)))).T λr3=>(E.zfc (a0,(aQ ((aQ (a0.aj.First+(aQ (a1.Channel*a0.aj.aT))))+r2.1)),(aQ ((aQ (a0.aj.First+(aQ (a1.Channel*a0.aj.aT))))+r2.2)))).T λr4=>cond (decide (r3.High>=r4.Low)) (k (⟨1,(λ_=>(⟨a0.aj.Z,r3.Low,r4.High⟩:aC))⟩:(Sl aC))) (k (⟨2,(kW [r3,r4])⟩:(Sl aC)))):=eX
theorem zM1 [aG](E:zn9)(zwa:Ok aJ 223 (ae.un E.zfc))(zwb:Ok aJ 224 (ae.un E.zrH)):Ok aJ 189 (ae.un (zoa E)):=eY ((aB.nil.addF zwa).addF zwb)
structure zob where
 N:Nat
def zoc(E:zob):placed×Int×Int->ae aC:=jS E.N Tabs.nil 223
theorem e223(E:zob){A:Type}(k:aC→Option A)(a0:placed)(a1 a2:Int):(zoc E (a0,a1,a2)).T k=k (⟨a0.aj.Z,(aQ (a1+a0.aj.bH.Low)),(aQ (a2+a0.aj.bH.High))⟩:aC):=eX
theorem zM2 [aG](E:zob):Ok aJ 223 (ae.un (zoc E)):=eY aB.nil
structure Zp where
 N:Nat
 zrM:(Pt (Sl aW))->ae (List (Int×aW))
abbrev zwc(E:Zp):bM:=jc ((Tabs.nil.addF 246 (aF aJ E.N (jc Tabs.nil []) (bZ aJ 246 [] {}) 246)).addI 251 (ae.unI E.zrM)) []
def zwd:dI:=bZ aJ 224 [] {}
def zod(E:Zp):placed×Int->ae (Int×Int):=ae.ty (aF aJ E.N (zwc E) zwd 224)
section
variable(E:Zp){A:Type}(k:(Int×Int)->Option A)
def LZ(E:Zp)(n:Nat)(a0:placed)(a1 v6 v20 Dl:Int){A:Type}(k:(Int×Int)->Option A):Option A:=kC aJ (zwc E) E.N zwd 224 [1,1,0,1,0] [.n n] (kz k) ⟨[(2,.cl (.ptr 2 0)),(3,.cl (.ptr 3 0)),(6,.int v6),(7,.cl (.ptr 7 0)),(18,eP a0.aj.aW),(19,.int (a0.aj.aW.len:Int)),(20,.int v20)],[(2,eB 185 a0),(3,eB 3 a1),(7,eB 3 Dl)],[]⟩
def FZ(E:Zp)(l:List (Int×aW))(a0:placed)(a1 v6 Dl:Int){A:Type}(k:(Int×Int)->Option A):Option A:=kC aJ (zwc E) E.N zwd 224 [1,1,1,0,1,0] [.y (l.map dm.enc)] (kz k) ⟨[(2,.cl (.ptr 2 0)),(3,.cl (.ptr 3 0)),(6,.int v6),(7,.cl (.ptr 7 0)),(39,.p (.fn 251 [] [.fp [.sl a0.aj.aW.len 3 (λi=>bn.enc (a0.aj.aW.get i))] 0]))],[(2,eB 185 a0),(3,eB 3 a1),(7,eB 3 Dl)],[]⟩
theorem e224(a0:placed)(a1:Int):(zod E (a0,a1)).T k=LZ E E.N a0 a1 0 0 (aQ (a0.aj.aT.tdiv 2)) k:=eX
theorem zid(n0:Nat)(a0:placed)(a1 v6 v20 Dl:Int):LZ E (n0+1) a0 a1 v6 v20 Dl k=cond (decide (v20<(a0.aj.aW.len:Int))) (aV (decide (0<=v20/\v20<(a0.aj.aW.len:Int))) (cond (decide ((a0.aj.aW.get v20.toNat).Time<=(aQ (a1-a0.aj.dX)))) (LZ E n0 a0 a1 (a0.aj.aW.get v20.toNat).fB.Low (aQ (v20+1)) Dl k) (LZ E n0 a0 a1 v6 (aQ (v20+1)) Dl k))) ((E.zrM (⟨a0.aj.aW⟩:(Pt (Sl aW)))).T λr1=>FZ E r1 a0 a1 v6 Dl k):=krY
theorem zoe(a0:placed)(a1 v6 Dl:Int):FZ E [] a0 a1 v6 Dl k=k (v6,Dl):=krY
theorem zwe(y:Int×aW)(l0:List (Int×aW))(a0:placed)(a1 v6 Dl:Int):FZ E (y::l0) a0 a1 v6 Dl k=cond (decide (y.2.Time>=(aQ (a1+a0.aj.dX)))) (FZ E l0 a0 a1 v6 y.2.fB.High k) (FZ E l0 a0 a1 v6 Dl k):=krY
end
theorem zM3 [aG](E:Zp)(zM4:xO aJ 251 (ae.unI E.zrM)):Ok aJ 224 (ae.un (zod E)):=eY ((aB.nil.addF (sU aB.nil (dC krY))).addI zM4)
structure Zq where
 N:Nat
abbrev zDS(E:Zq):bM:=jc Tabs.nil []
def zDT:dI:=bZ aJ 251 [0] {yl:=[3]}
def zDU(E:Zq)(c:List PA):YO:=aI aJ (zDS E) E.N zDT 251 c
def zwf(E:Zq):(Pt (Sl aW))->ae (List (Int×aW)):=ae.tyI λc=>.opt (zDU E c)
section
variable(E:Zq)
def RH(E:Zq)(n:Nat)(a1:(Pt (Sl aW)))(v3:Int):YO:=ptY aJ (zDS E) E.N zDT 251 [1,0] [n] ⟨[(0,.cl (.vec 4095)),(1,eP a1),(3,.int v3)],[(4095,.gone)],[]⟩
theorem e251(a1:(Pt (Sl aW))):zDU E (dm.enc ((a1):(Pt (Sl aW))))=RH E E.N a1 (aQ ((a1.v.len:Int)-1)):=krY
theorem zie(n0:Nat)(a1:(Pt (Sl aW)))(v3:Int):RH E (n0+1) a1 v3=cond (decide (v3>=0)) (aV (decide (0<=v3/\v3<(a1.v.len:Int))) (yT (dm.enc ((v3,(a1.v.get v3.toNat)):Int×aW)) (some []) (RH E n0 a1 (aQ (v3-1))))) (some []):=krY
end
theorem zM5(E:Zq):xO aJ 251 (ae.unI (zwf E)):=Rw (LQ aB.nil (dC krY))
theorem aZ{x:Int}(h1 : -9223372036854775808<=x)(h2:x<=9223372036854775807):aQ x=x:=by
 have hb:IntKind.i64.bits=64:=rfl;have hs:IntKind.i64.signed=true:=rfl;unfold aQ IntKind.wrap;rw[hb,hs];simp only[qdq,oO];split<;>omega
theorem bJ{i:Nat}(h:i<4611686018427387904):aQ ((i:Int)+1)=((i+1:Nat):Int):=by rw[aZ omY omY];omega
theorem A7{i:Nat}(h:i<4611686018427387904):aQ ((i:Int)-1)=(i:Int)-1:=aZ omY omY
section
variable{A ρ:Type}
theorem bf{r:ρ}{k:ρ->Option A}:(ae.ok r).T k=k r:=rfl
theorem bF{p:Prop}[Decidable p]{x:Option A}(h:p):aV (decide p) x=x:=by rw[dK h];rfl
theorem zDV{p:Prop}[Decidable p]{x y:Option A}(h:p):cond (decide p) x y=x:=by rw[dK h];rfl
theorem zDW{p:Prop}[Decidable p]{x y:Option A}(h:¬p):cond (decide p) x y=y:=by rw[dV h];rfl
theorem kc{τ:Type}(f:τ->Option A)(b:Bool)(x y:τ):cond b (f x) (f y)=f (cond b x y):=by cases b<;>rfl
theorem two(Y s:Option A):∃f:Bool->Option A,f true=Y/\f false=s:=⟨λb=>cond b Y s,rfl,rfl⟩
theorem zof(k:Bool->Option A)(a b:Bool):cond a (k b) (k false)=k (a&&b):=by cases a<;>rfl
end
theorem dD{p:Nat->Bool}{n:Nat}:iL p n=true↔∀i,i<n->p i=true:=by
 refine⟨λh i hi=>QA h i hi,λh=>?_⟩
 induction n with|zero=>rfl|succ n ih=>simp only[iL,ih λi hi=>h i omY,h n omY,qj3]
section
variable{A:Type}
theorem zsN{L:Nat→Int→Option A}{p:Nat→Bool}{m:Nat}{fin stop:Option A}(hm:m<4611686018427387904)
    (hL:∀n i,i<m->(∀j,j<i->p j=true)->L (n+1) (i:Int)=cond (p i) (L n (aQ ((i:Int)+1))) stop) (hE:∀n,(∀j,j<m->p j=true)->L (n+1) (m:Int)=fin) :
    ∀n,m<n->L n 0=cond (iL p m) fin stop:=by
  have key:∀(d i n:Nat),i+d=m->d<n->(∀j,j<i->p j=true)->L n (i:Int)=cond (iL p m) fin stop:=by
    intro d
    induction d with
    | zero =>
      intro i n hi hn hp;obtain⟨n,rfl⟩:∃n',n=n'+1:=⟨n-1,omY⟩;have e:i=m:=by omega
      subst e;rw[hE n hp,dD.2 hp];rfl
    | succ d ih =>
      intro i n hi hn hp;obtain⟨n,rfl⟩:∃n',n=n'+1:=⟨n-1,omY⟩;rw[hL n i omY hp];cases mV:p i with
      | true =>
        rw[dU,bJ omY];exact ih (i+1) n omY omY λj hj=>by
          by_cases e:j=i;rw[e];exact mV;exact hp j omY
      | false =>
        have:iL p m=false:=by
          cases e:iL p m with|false=>rfl|true=>rw[dD.1 e i omY]at mV;cases mV
        rw[this];rfl
  intro n hn;exact key m 0 n omY hn λj hj=>absurd hj omY
theorem loopA{L:Nat→Int→Option A}{p:Nat→Bool}{m:Nat}{fin stop:Option A}(hm:m<4611686018427387904)
    (hL:∀n i,i<m->L (n+1) (i:Int)=cond (p i) (L n (aQ ((i:Int)+1))) stop) (hE:∀n,L (n+1) (m:Int)=fin) :
    ∀n,m<n->L n 0=cond (iL p m) fin stop:=zsN hm (λn i hi _=>hL n i hi) λn _=>hE n
end
theorem A8{p q:Nat->Bool}{n:Nat}(h:∀i,i<n->p i=q i):iL p n=iL q n:=by
 rw[qdA,dD,dD];exact⟨λg i hi=>by rw[<- h i hi];exact g i hi,λg i hi=>by rw[h i hi];exact g i hi⟩
def inB(x a b:Int):Bool:=decide (a<=x/\x<=b)
abbrev RI(C:Int×Int×Int->ae Bool):Prop:=∀x a b,C (x,a,b)=.ok (inB x a b)
theorem zM6{E:znJ}:RI (znK E):=λx a b=>ae.ext λk=>by rw[zMH,kc k,bf];congr 1;simp only[inB];grind
theorem zM7{E:znQ}:RI (znR E):=λx a b=>ae.ext λk=>by rw[e161,kc k,bf];congr 1;simp only[inB];grind
abbrev Big(N:Nat):Prop:=20000000<N
def stB(l:Sl aW)(zif:Int)(i:Nat):Bool :=
  inB (l.get i).Time 0 1000000&&inB (l.get i).fB.Low 0 (l.get i).fB.High&&decide ((l.get i).fB.High≤aQ (zif.tdiv 2)) &&
    (decide (i=0)||decide ((l.get (i-1)).Time<(l.get i).Time)&&decide ((l.get (i-1)).fB.Low<=(l.get i).fB.Low)&&decide ((l.get (i-1)).fB.High<=(l.get i).fB.High))
def vW(l:Sl aW)(zif:Int):Bool:=iL (stB l zif) l.len&&inB l.len 1 50
theorem zog{i n:Nat}(h:i<n)(hn:n<4611686018427387904)(h0:(i:Int)>0):(0<=aQ ((i:Int)-1)/\aQ ((i:Int)-1)<(n:Int))/\(aQ ((i:Int)-1)).toNat=i-1:=by
 rw[A7 omY];omega
def lfP(p:aj):Int:=aQ (aQ (aQ (p.First-p.aT)-p.dZ)+p.bH.Low)
def rtP(p:aj):Int:=aQ (aQ (aQ (p.First+aQ (aQ (p.bW+1)*p.aT))+p.dZ)+p.bH.High)
def VQ(p:aj):Prop:=(1<=p.Kind/\p.Kind<=3)/\(1<=p.View/\p.View<=2)/\(0<=p.Z/\p.Z<=100000)/\(-1000000<=p.First/\p.First<=1000000)/\(2<=p.aT/\p.aT<=100000)/\(1<=p.bW/\p.bW<=2000)/\(0<=p.dZ/\p.dZ<=100000) /\
 (-1000000<=p.bH.Low/\p.bH.Low<=p.bH.High/\p.bH.High<=1000000)/\(-1000000000<=p.Clock.Low/\p.Clock.Low<=p.Clock.High/\p.Clock.High<=1000000000)/\(0<=p.dX/\p.dX<=1000000)/\(0<=p.Least/\p.Least<=1000000)/\-1000000<=lfP p/\rtP p<=1000000
instance(p:aj):Decidable (VQ p):=by unfold VQ;infer_instance
theorem vX{a b:Int}(ha:0<=a/\a<=10000)(hb:0<=b/\b<=100000):0<=a*b/\a*b<=1000000000 :=
 ⟨qdX ha.1 hb.1,by have:=Int.mul_le_mul ha.2 hb.2 hb.1 omY;omega⟩
theorem zM8{p:aj}(h1 : -1000000≤p.First∧p.First≤1000000)(h2:2≤p.aT∧p.aT≤100000)(h3:1≤p.bW∧p.bW≤2000)(h4:0≤p.dZ∧p.dZ≤100000)
    (h5 : -1000000<=p.bH.Low/\p.bH.Low<=p.bH.High/\p.bH.High<=1000000) :
    lfP p=p.First-p.aT-p.dZ+p.bH.Low/\rtP p=p.First+(p.bW+1)*p.aT+p.dZ+p.bH.High/\lfP p<rtP p:=by
  obtain⟨q1,q2⟩:=vX (a:=p.bW+1) (b:=p.aT) omY omY;have e1:lfP p=p.First-p.aT-p.dZ+p.bH.Low:=by
    unfold lfP;rw[aZ (x:=p.First-p.aT) omY omY,aZ (x:=p.First-p.aT-p.dZ) omY omY,aZ omY omY]
  have e2:rtP p=p.First+(p.bW+1)*p.aT+p.dZ+p.bH.High:=by
    unfold rtP;rw[aZ (x:=p.bW+1) omY omY,aZ (x:=(p.bW+1)*p.aT) omY omY,aZ (x:=p.First+(p.bW+1)*p.aT) omY omY,aZ (x:=p.First+(p.bW+1)*p.aT+p.dZ) omY omY,aZ omY omY]
  exact⟨e1,e2,omY⟩
def dB(p:aj)(i:Nat):Bool:=inB (p.Dead.get i) 0 (aQ (p.bW-1))&&(decide (i=0)||decide (p.Dead.get (i-1)<p.Dead.get i))
def plB(p:aj):Bool:=decide (VQ p)&&cond (p.Kind==2) (vW p.aW p.aT) (decide (p.aW.len=0))&&decide (p.Dead.len<=100)&&iL (dB p) p.Dead.len
def Few(p:aj):Prop:=p.aW.len<=60/\p.Dead.len<=110
def qO(s:au):Prop:=s.ak.len<=20/\∀i,i<s.ak.len->Few (s.ak.get i)
def seB(s:au)(i:Nat):Bool:=plB (s.ak.get i)&&(decide (i=0)||decide ((s.ak.get (i-1)).Z<(s.ak.get i).Z))
def fF(s:au):Bool:=inB s.ak.len 1 16&&iL (seB s) s.ak.len
abbrev QSe(C:au->ae Bool):Prop:=∀s,qO s->C s=.ok (fF s)
/-! The program. -/
abbrev zoh(C:bC×Int->ae Bool):Prop:=∀x m,0<=m/\m<=1000000000->C (x,m)=.ok (decide (-m<=x.Low/\x.Low<=x.High/\x.High<=m))
theorem zM9{E:znT}(lG:RI E.gJ):zoh (znU E):=λx m h=>ae.ext λk=>by
 rw[zMQ];simp only[lG,bf,aZ (x:=0-m) omY omY,kc k];congr 1;simp only[inB];grind
def shB(p:aj):Bool:=decide ((1<=p.View/\p.View<=2)/\(0<=p.Z/\p.Z<=100000)/\(-1000000<=p.First/\p.First<=1000000)/\(2<=p.aT/\p.aT<=100000)/\(1<=p.bW/\p.bW<=2000)/\(0<=p.dZ/\p.dZ<=100000) /\
 (-1000000<=p.bH.Low/\p.bH.Low<=p.bH.High/\p.bH.High<=1000000)/\(-1000000000<=p.Clock.Low/\p.Clock.Low<=p.Clock.High/\p.Clock.High<=1000000000)/\(0<=p.dX/\p.dX<=1000000)/\(0<=p.Least/\p.Least<=1000000)/\-1000000<=lfP p/\rtP p<=1000000)
abbrev zwg(C:placed->ae Bool):Prop:=∀p,C p=.ok (shB p.aj)
theorem zNa{E:zn5}(lG:RI E.gJ)(VP:zoh E.c164):zwg (zn6 E):=λp=>ae.ext λk=>by
 rw[zMX];simp only[lG,VP _ _ (show(0:Int)<=1000000/\(1000000:Int)<=1000000000 by omega),VP _ _ (show(0:Int)<=1000000000/\(1000000000:Int)<=1000000000 by omega),bf,kc k];congr 1;have e1:aQ (aQ (aQ (p.aj.First-p.aj.aT)-p.aj.dZ)+p.aj.bH.Low)=lfP p.aj:=rfl;have e2:aQ (aQ (aQ (p.aj.First+aQ (aQ (p.aj.bW+1)*p.aj.aT))+p.aj.dZ)+p.aj.bH.High)=rtP p.aj:=rfl;simp only[e1,e2,shB,inB]
 grind (splits:=60)
abbrev zdW(C:placed->ae Bool):Prop:=∀p,C p=.ok (decide (p.aj.aW.len=0))
theorem zNb{E:zn0}:zdW (zn1 E):=λp=>ae.ext λk=>by
 rw[e232,bf];congr 1;grind
theorem zNc{E:zn3}:zdW (zn4 E):=λp=>ae.ext λk=>by
 rw[e234,bf];congr 1;grind
abbrev zwh(C:placed->ae Bool):Prop:=∀q,Few q.aj->C q=.ok (vW q.aj.aW q.aj.aT)
theorem zNd{E:zdU}(N:Big E.N)(lG:RI E.gJ):zwh (zn2 E):=λq h=>ae.ext λk=>by
 rw[e233];have h':=h.1;refine(loopA (L:=λn v=>FY E n q v k) (p:=stB q.aj.aW q.aj.aT) (m:=q.aj.aW.len) (fin:=k (inB q.aj.aW.len 1 50)) (stop:=k false) omY (λn i hi=>?_) (λn=>?_) _ omY).trans ?_;obtain⟨f,h1,h2⟩:=two (FY E n q (aQ ((i:Int)+1)) k) (k false);rw[zic,bF omY,<- h1,<- h2];simp only[lG,bf,fQ];by_cases h0:(i:Int)>0;obtain⟨p1,p2⟩:=zog hi omY h0;simp only[bF p1,p2,kc f];congr 1;simp only[stB,inB];grind;simp only [dV h0,dQ,kc f];congr 1;simp only[stB,inB];grind;rw[zic];simp only[lG,bf,qdT,qdK,dQ];exact zof k _ _
abbrev zwi(C:placed->ae Bool):Prop:=∀q,Few q.aj->C q=.ok (plB q.aj)
theorem zNe{E:Zn}(N:Big E.N)(lG:RI E.gJ)(zib:zwg E.zfd)(zv7:zdW E.c232)(zv8:zwh E.c233)(zv9:zdW E.c234):zwi (znV E):=λq h=>ae.ext λk=>by
 have lp:∀q:placed,Few q.aj->vV E E.N q 0 k=k (decide (q.aj.Dead.len<=100)&&iL (dB q.aj) q.aj.Dead.len):=by
  intro q h;have h':=h.2;refine(loopA (L:=λn v=>vV E n q v k) (p:=dB q.aj) (m:=q.aj.Dead.len) (fin:=k (decide (q.aj.Dead.len<=100))) (stop:=k false) omY (λn i hi=>?_) (λn=>?_) _ omY).trans ?_;obtain⟨f,h1,h2⟩:=two (vV E n q (aQ ((i:Int)+1)) k) (k false);rw[zia,bF omY,<- h1,<- h2];simp only[lG,bf,fQ];by_cases h0:(i:Int)>0;obtain⟨p1,p2⟩:=zog hi omY h0;simp only[bF p1,p2,kc f];congr 1;simp only[dB];grind;simp only [dV h0,dQ,kc f];congr 1;simp only[dB];grind;rw[zia];simp only[qdT,qdK,dQ];congr 1;grind;rw[zof,jqD]
 rw[zMS];simp only[lG,bf];have fin:plB q.aj=(inB q.aj.Kind 1 3&&shB q.aj&&cond (q.aj.Kind==2) (vW q.aj.aW q.aj.aT) (decide (q.aj.aW.len=0))&&(decide (q.aj.Dead.len<=100)&&iL (dB q.aj) q.aj.Dead.len)):=by
  simp only[plB,VQ,shB,inB];generalize vW q.aj.aW q.aj.aT=A;generalize iL (dB q.aj) q.aj.Dead.len=B
  grind (splits:=60)
 rw[fin];cases hk:inB q.aj.Kind 1 3 with
 | false=>exact znW _ _ _
 | true =>
  simp only[inB,oO]at hk;have hc:q.aj.Kind=1\/q.aj.Kind=2\/q.aj.Kind=3:=by omega
  obtain⟨⟨kd,vw,z,fi,pi,st,sp,of,cl,ji,le,dr,de⟩,ix⟩:=q;rcases hc with e|e|e<;>simp only at e<;>subst e
  refine(znX E k ⟨⟨1,vw,z,fi,pi,st,sp,of,cl,ji,le,dr,de⟩,ix⟩).trans ?_;simp only[zib _,zv7 _,bf,lp ⟨⟨1,vw,z,fi,pi,st,sp,of,cl,ji,le,dr,de⟩,ix⟩ h,kc k,Zo];congr 1;grind;refine(znY E k ⟨⟨2,vw,z,fi,pi,st,sp,of,cl,ji,le,dr,de⟩,ix⟩).trans ?_;simp only[zib _,zv8 ⟨⟨2,vw,z,fi,pi,st,sp,of,cl,ji,le,dr,de⟩,ix⟩ h,bf,lp ⟨⟨2,vw,z,fi,pi,st,sp,of,cl,ji,le,dr,de⟩,ix⟩ h,kc k,Zo];congr 1;grind;refine(znZ E k ⟨⟨3,vw,z,fi,pi,st,sp,of,cl,ji,le,dr,de⟩,ix⟩).trans ?_;simp only[zib _,zv9 _,bf,lp ⟨⟨3,vw,z,fi,pi,st,sp,of,cl,ji,le,dr,de⟩,ix⟩ h,kc k,Zo];congr 1;grind
theorem zNf{E:zdT}(N:Big E.N)(zv4:zwi E.c201)(lG:RI E.gJ):QSe (znS E):=λs h=>ae.ext λk=>by
 rw[e160];have h':=h.1;refine(loopA (L:=λn v=>FX E n s v k) (p:=seB s) (m:=s.ak.len) (fin:=k (inB s.ak.len 1 16)) (stop:=k false) omY (λn i hi=>?_) (λn=>?_) _ omY).trans ?_;obtain⟨f,h1,h2⟩:=two (FX E n s (aQ ((i:Int)+1)) k) (k false);rw[zh9,bF omY,<- h1,<- h2];simp only[fQ,zv4 ⟨s.ak.get i,(i:Int)⟩ (h.2 i hi),bf];by_cases h0:(i:Int)>0;obtain⟨p1,p2⟩:=zog hi omY h0;simp only[bF p1,p2,kc f];congr 1;simp only[seB];grind;simp only [dV h0,dQ,kc f];congr 1;simp only[seB];grind;rw[zh9];simp only[lG,bf,qdT,qdK,dQ];rw[zof,jqD];rfl
abbrev zwj(C:au->ae Int):Prop:=∀s,qO s->C s=.ok (cond (fF s) 0 2)
theorem zNg{E:znH}(AZ:QSe E.c160):zwj (znI E):=λs h=>ae.ext λk=>by
 rw[zMF];simp only[AZ s h,bf,kc k];congr 1;cases fF s<;>rfl
theorem pK{A:Type}{X:Nat->Nat->Option A}{m:Nat}{fin:Option A}(hL:∀n i,i<m->X (n+1) i=X n (i+1))(hE:∀n,X (n+1) m=fin):∀n,m<n->X n 0=fin:=by
 have key:∀d i n,i+d=m->d<n->X n i=fin:=by
  intro d
  induction d with
  | zero =>
   intro i n hi hn;obtain⟨n,rfl⟩:∃n',n=n'+1:=⟨n-1,omY⟩;have e:i=m:=by omega
   subst e;exact hE n
  | succ d ih =>
   intro i n hi hn;obtain⟨n,rfl⟩:∃n',n=n'+1:=⟨n-1,omY⟩;rw[hL n i omY];exact ih (i+1) n omY omY
 intro n hn;exact key m 0 n omY hn
theorem zf{s:au}(h:fF s=true):1<=s.ak.len/\s.ak.len<=16:=by
 simp only[fF,inB,fH,oO]at h;omega
theorem L6{s:au}(h:fF s=true){i:Nat}(hi:i<s.ak.len):plB (s.ak.get i)=true:=by
 simp only[fF,fH,dD]at h;have:=h.2 i hi;simp only[seB,fH]at this;exact this.1
theorem zDX{p:aj}(h:plB p=true):VQ p:=by
 simp only[plB,fH,oO]at h;exact h.1.1.1
theorem zg{s:au}(h:fF s=true){i:Nat}(hi:i<s.ak.len):VQ (s.ak.get i):=zDX (L6 h hi)
def knB(p:aj)(h:bu):Bool:=cond (p.Kind==2) (decide (h.qm=1)&&inB h.aW 0 1000000) (cond (p.Kind==3) (decide (h.aW=0)&&decide (h.Time=0)) (decide (h.aW=0)))
def lvB(p:aj)(h:bu):Bool:=iL (λj=>!inB (p.Dead.get j) h.Channel (h.Channel+h.qm-1)) p.Dead.len
def hpB(p:aj)(h:bu):Bool:=inB h.Channel 0 (p.bW-1)&&inB h.qm 1 (p.bW-h.Channel)&&inB h.TG p.Least 1000000&&inB h.Time (-1000000000) 1000000000&&lvB p h&&knB p h
def o5(s:au)(h:bu):Bool:=decide (0<=h.aj/\h.aj<s.ak.len)&&hpB (s.ak.get h.aj.toNat) h
def ofP(s:au)(h:bu):placed:=cond (decide (0<=h.aj/\h.aj<s.ak.len)) ⟨s.ak.get h.aj.toNat,h.aj⟩ ⟨⟨0,0,0,0,0,0,0,⟨0,0⟩,⟨0,0⟩,0,0,⟨0,λ_=>default⟩,⟨0,λ_=>default⟩⟩,0⟩
abbrev zdX(C:au×bu->ae (placed×Bool)):Prop:=∀s h,qO s->fF s=true->C (s,h)=.ok (ofP s h,o5 s h)
theorem zNh{E:zdS}(N:Big E.N)(lG:RI E.gJ):zdX (znP E):=λs h hs hb=>ae.ext λk=>by
 rw[zMM,bf];have hl:=zf hb;simp only[lG,bf,aZ (x:=(s.ak.len:Int)-1) omY omY];by_cases hp:0<=h.aj/\h.aj<s.ak.len
 ·have hn := zg hb (i := h.aj.toNat) omY;have hf:=hs.2 h.aj.toNat omY;have e1:inB h.aj 0 (s.ak.len - 1)=true:=by simp only[inB,oO];omega
  simp only[e1,qds,dQ,bF hp,o5,dK hp,qdq,ofP,dU];obtain⟨_,_,_,_,_,IQ,_⟩:=hn;have hd:=hf.2;simp only[aZ (x:=(s.ak.get h.aj.toNat).bW-1) omY omY,hpB];cases c1:inB h.Channel 0 ((s.ak.get h.aj.toNat).bW-1)with
  | false=>rfl
  | true =>
  simp only[inB,oO]at c1;simp only[qds,dQ,qdq,aZ (x:=(s.ak.get h.aj.toNat).bW-h.Channel) omY omY];cases c2:inB h.qm 1 ((s.ak.get h.aj.toNat).bW-h.Channel)with
  | false=>rfl
  | true =>
  simp only[inB,oO]at c2;simp only[qds,dQ,qdq];cases inB h.TG (s.ak.get h.aj.toNat).Least 1000000 with
  | false=>rfl
  | true =>
  cases c3:inB h.Time (-1000000000) 1000000000 with
  | false=>rfl
  | true =>
  simp only[qds,dQ,qdq];refine(loopA (L:=λn v=>RG E n s h v k) (p:=λj=>!inB ((s.ak.get h.aj.toNat).Dead.get j) h.Channel (h.Channel+h.qm-1)) (m:=(s.ak.get h.aj.toNat).Dead.len) (fin:=k (⟨s.ak.get h.aj.toNat,h.aj⟩,knB (s.ak.get h.aj.toNat) h)) (stop:=k (⟨s.ak.get h.aj.toNat,h.aj⟩,false)) omY (λn i hi=>?_) (λn=>?_) _ omY).trans ?_;rw [zh8,dK (show(i:Int)<_ by omega),dU,bF omY,lG,bf,aZ (x:=h.Channel+h.qm) omY omY,aZ (x:=h.Channel+h.qm-1) omY omY,fQ];cases inB ((s.ak.get h.aj.toNat).Dead.get i) h.Channel (h.Channel+h.qm-1)<;>rfl;rw [zh8];simp only [qdT,qdK,dQ,lG,bf,kc k];congr 1;simp only[knB,inB]
  grind
  simp only [lvB];cases iL (λj=>!inB ((s.ak.get h.aj.toNat).Dead.get j) h.Channel (h.Channel+h.qm-1)) (s.ak.get h.aj.toNat).Dead.len<;>rfl
 have e1:inB h.aj 0 (s.ak.len-1)=false:=by simp only [inB,qdk];omega
 simp only[e1,qjG,dU,o5,dV hp,qd1,ofP,dQ]
abbrev zoi(C:au×bu->ae Bool):Prop:=∀s h,qO s->C (s,h)=.ok (fF s&&o5 s h)
theorem zNi{E:zn7}(AZ:QSe E.c160)(zL:zdX E.tH):zoi (zn8 E):=λs h hs=>ae.ext λk=>by
 rw[zMZ,AZ s hs,bf,bf];cases hb:fF s with|false=>rfl|true=>simp only[qds,dQ,zL s h hs hb,bf,qdq]
abbrev zwk(C:au×bu->ae Int):Prop:=∀s h,qO s->C (s,h)=.ok (cond (fF s&&o5 s h) 0 2)
theorem zNj{E:znL}(Zm:zoi E.TI):zwk (znM E):=λs h hs=>ae.ext λk=>by
 rw[e138,Zm s h hs,bf,bf];cases fF s&&o5 s h<;>rfl
def Aa(l:Sl aW)(t:Int):Nat→Int|0=>0|n+1=>cond (decide ((l.get n).Time<=t)) (l.get n).fB.Low (Aa l t n)
def Dn(l:Sl aW)(t z:Int):Nat→Int|0=>z|d+1=>cond (decide ((l.get (l.len-1-d)).Time>=t)) (l.get (l.len-1-d)).fB.High (Dn l t z d)
def uC(p:aj)(t:Int):Int×Int:=(Aa p.aW (aQ (t-p.dX)) p.aW.len,Dn p.aW (aQ (t+p.dX)) (aQ (p.aT.tdiv 2)) p.aW.len)
def bk(l:Sl aW):Nat→List (Int×aW)|0=>[]|n+1=>((n:Int),l.get n)::bk l n
theorem Dp{δ ε:Type}[dm δ][dm ε]{R:List PA→YO}{x:δ}{l:List ε}(h:R (dm.enc x)=some (l.map dm.enc))(hc:∀y:ε,dm.ck (α:=ε) (dm.enc y)=true)(hd:∀y:ε,dm.dec (dm.enc y)=y) :
  (ae.tyI (λc=>.opt (R c)) x:ae (List ε))=.ok l:=by
 refine ae.ext λk=>?_;show(ae.opt (R (dm.enc x))).T _=_;rw[h];show(ae.chk ((l.map dm.enc).all (dm.ck (α:=ε))) (ae.ok ((l.map dm.enc).map dm.dec))).T k=k l;rw[show(l.map dm.enc).all (dm.ck (α:=ε))=true by simp[hc],show(l.map dm.enc).map dm.dec=l by rw[qdS];exact(dqU λy _=>hd y).trans (qjs l)];rfl
abbrev zwl(I:Pt (Sl aW)->ae (List (Int×aW))):Prop:=∀l,l.v.len<=60->I l=.ok (bk l.v l.v.len)
theorem zNk{E:Zq}(N:Big E.N):zwl (zwf E):=λl h=>by
 refine Dp ?_ (λ_=>rfl) (λ_=>rfl);rw[e251];have key:∀d n,d<=l.v.len->d<n->RH E n l ((d:Int)-1)=some ((bk l.v d).map dm.enc):=by
  intro d
  induction d with
  | zero =>
   intro n _ hn;obtain⟨n,rfl⟩:∃n',n=n'+1:=⟨n-1,omY⟩;rw[zie,dV omY];rfl
  | succ d ih =>
   intro n hd hn;obtain⟨n,rfl⟩:∃n',n=n'+1:=⟨n-1,omY⟩;rw[zie,dK omY,dU,bF omY,show((d+1:Nat):Int)-1=(d:Int)by omega,A7 omY,ih n omY omY,fQ];rfl
 rw[A7 omY];exact key _ _ (jy _) omY
abbrev zwm(C:placed×Int->ae (Int×Int)):Prop:=∀q t,Few q.aj->C (q,t)=.ok (uC q.aj t)
theorem zNl{E:Zp}(N:Big E.N)(zNm:zwl E.zrM):zwm (zod E):=λq t h=>ae.ext λk=>by
 have hd:=h.1;rw[e224,bf];refine pK (X:=λn i=>LZ E n q t (Aa q.aj.aW (aQ (t-q.aj.dX)) i) (i:Int) (aQ (q.aj.aT.tdiv 2)) k) (m:=q.aj.aW.len) (λn i hi=>?_) (λn=>?_) _ omY;rw [zid,dK (show(i:Int)<_ by omega),dU,bF omY,bJ omY,fQ];simp only[Aa];cases decide ((q.aj.aW.get i).Time<=aQ (t-q.aj.dX))<;>rfl;rw [zid];simp only [qdT,qdK,dQ];rw[zNm _ hd,bf];have key:∀d,d<=q.aj.aW.len->FZ E (bk q.aj.aW d) q t (Aa q.aj.aW (aQ (t-q.aj.dX)) q.aj.aW.len) (Dn q.aj.aW (aQ (t+q.aj.dX)) (aQ (q.aj.aT.tdiv 2)) (q.aj.aW.len-d)) k=k (uC q.aj t):=by
  intro d
  induction d with
  | zero=>intro _;rw[bk,zoe];rfl
  | succ d ih =>
   intro hi;rw[bk,zwe];have e:q.aj.aW.len-d=(q.aj.aW.len-(d+1))+1:=by omega
   have ih:=ih omY;rw[e]at ih;simp only[Dn,show q.aj.aW.len-1-(q.aj.aW.len-(d+1))=d by omega]at ih;revert ih;cases decide ((q.aj.aW.get d).Time>=aQ (t+q.aj.dX))<;>exact id
 have:=key q.aj.aW.len (jy _);rwa[Nat.sub_self]at this
def gate(p:aj)(a b:Int):aC:=⟨p.Z,aQ (a+p.bH.Low),aQ (b+p.bH.High)⟩
def gaP(p:aj)(h:bu):Sl aC :=
  cond (p.Kind != 2)
    (cond (decide (aQ (aQ (p.First + aQ (aQ (aQ (h.Channel + h.qm) - 1) * p.aT)) - p.dZ) > aQ (aQ (p.First + aQ (aQ (h.Channel + 1) * p.aT)) + p.dZ))) ⟨0, fun _ => default⟩
      ⟨1,λ_=>gate p (aQ (aQ (p.First+aQ (aQ (aQ (h.Channel+h.qm)-1)*p.aT))-p.dZ)) (aQ (aQ (p.First+aQ (aQ (h.Channel+1)*p.aT))+p.dZ))⟩)
    (cond (decide ((gate p (aQ (aQ (p.First+aQ (h.Channel*p.aT))-(uC p h.aW).2)) (aQ (aQ (p.First+aQ (h.Channel*p.aT))-(uC p h.aW).1))).High≥(gate p (aQ (aQ (p.First+aQ (h.Channel*p.aT))+(uC p h.aW).1)) (aQ (aQ (p.First+aQ (h.Channel*p.aT))+(uC p h.aW).2))).Low))
      ⟨1,λ_=>⟨p.Z,(gate p (aQ (aQ (p.First+aQ (h.Channel*p.aT))-(uC p h.aW).2)) (aQ (aQ (p.First+aQ (h.Channel*p.aT))-(uC p h.aW).1))).Low,(gate p (aQ (aQ (p.First+aQ (h.Channel*p.aT))+(uC p h.aW).1)) (aQ (aQ (p.First+aQ (h.Channel*p.aT))+(uC p h.aW).2))).High⟩⟩
      ⟨2,kW [gate p (aQ (aQ (p.First+aQ (h.Channel*p.aT))-(uC p h.aW).2)) (aQ (aQ (p.First+aQ (h.Channel*p.aT))-(uC p h.aW).1)),gate p (aQ (aQ (p.First+aQ (h.Channel*p.aT))+(uC p h.aW).1)) (aQ (aQ (p.First+aQ (h.Channel*p.aT))+(uC p h.aW).2))]⟩)
theorem zbE(p:aj)(h:bu):(gaP p h).len<=2:=by
 have key:∀(a b c:Bool)(x y z w:Sl aC),x.len<=2->y.len<=2->z.len<=2->w.len<=2->(cond a (cond b x y) (cond c z w)).len<=2:=by
  intro a b c x y z w h1 h2 h3 h4;cases a<;>cases b<;>cases c<;>assumption
 exact key _ _ _ _ _ _ _ (xn _) (by simp) (by simp) (by simp)
abbrev zwn(C:placed×Int×Int->ae aC):Prop:=∀q a b,C (q,a,b)=.ok (gate q.aj a b)
theorem zNn{E:zob}:zwn (zoc E):=λq a b=>ae.ext λk=>e223 E k q a b
abbrev zwo(C:placed×bu->ae (Sl aC)):Prop:=∀q h,Few q.aj->C (q,h)=.ok (gaP q.aj h)
theorem zNo{E:zn9}(zwa:zwn E.zfc)(zwb:zwm E.zrH):zwo (zoa E):=λq h hf=>ae.ext λk=>by
 rw[e189,bf];simp only[zwa,zwb _ _ hf,bf,kc k];rfl
def Ac(s:au)(h:bu):Sl aC:=gaP (s.ak.get h.aj.toNat) h
theorem RJ{s:au}{h:bu}(hh:o5 s h=true):0<=h.aj/\h.aj<s.ak.len:=by
 simp only[o5,fH,oO]at hh;exact hh.1
theorem zih{s:au}{h:bu}(hh:o5 s h=true):ofP s h=⟨s.ak.get h.aj.toNat,h.aj⟩:=by
 unfold ofP;rw[dK (RJ hh)];rfl
abbrev zwp(C:au×bu->ae (Sl aC×Int)):Prop:=∀s h,qO s->C (s,h)=.ok (cond (fF s&&o5 s h) (cond (((Ac s h).len:Int)==0) (⟨0,λ_=>default⟩,5) (Ac s h,0)) (⟨0,λ_=>default⟩,2))
theorem zNp{E:znN}(Zm:zoi E.TI)(zL:zdX E.tH)(zv3:zwo E.zrz):zwp (znO E):=λs h hs=>ae.ext λk=>by
 rw[zMK,Zm s h hs,bf,bf];cases hb:fF s&&o5 s h with
 | false=>rfl
 | true =>
  rw[fH]at hb;have hp:=RJ hb.2;simp only[qds,dQ,zL s h hs hb.1,bf,zih hb.2,zv3 ⟨s.ak.get h.aj.toNat,h.aj⟩ h (hs.2 _ omY),kc k];rfl
def vY(r:bI):Bool:=inB r.ve 1 16&&inB r.xA 0 16
def RN(x:Int):Bool:=decide (x=1\/x=2)
abbrev QVw(C:Int->ae Bool):Prop:=∀x,C x=.ok (RN x)
theorem s96{E:E96}:QVw (F96 E):=λx=>ae.ext λk=>by rw[e96,kc k,bf];congr 1;simp only[RN];grind
abbrev Q60(C:au×bI->ae Int):Prop:=∀s r,qO s->C (s,r)=.ok (cond (fF s&&vY r) 0 2)
theorem s60{E:E60}(zAa:zwj E.zrp)(VK:RI E.Gv):Q60 (F60 E):=λs r h=>ae.ext λk=>by
 rw[e60];simp only[zAa s h,VK,bf,kc k,vY];congr 1;cases fF s<;>cases inB r.ve 1 16<;>cases inB r.xA 0 16<;>rfl
def Hy(s:au)(l:Sl bu):Bool:=iL (λi=>o5 s (l.get i)) l.len
def gw{α:Type}[bn α](z f:Nat→α):Nat→Sl α|0=>⟨0,z⟩|n+1=>⟨n+1,lm n (gw z f n).get λ_=>f n⟩
theorem o6{α:Type}[bn α](z f:Nat->α)(n:Nat):(gw z f n).len=n:=by cases n<;>rfl
theorem yC{α:Type}[bn α][rq α]{z f:Nat→α}:∀{n i:Nat},i<n→(gw z f n).get i=f i
  | n+1,i,h=>by
    show lm n (gw z f n).get (λ_=>f n) i=f i;rw[jD];by_cases hi:n<=i;rw[dH hi,show i=n by omega];rw[dM hi];exact yC omY
theorem zok{n b:Nat}(hn:n<=1000000)(hb:b<=1000):room n b=true:=by
 refine dK ⟨?_,omY⟩;have:=qjF hn hb;omega
theorem lV{A:Type}{n b:Nat}{x:Option A}(hn:n<=1000000)(hb:b<=1000):aV (room n b) x=x:=by rw[zok hn hb];rfl
theorem zol{p:aj}{h:bu}:(gaP p h).len=0->gaP p h=⟨0,λ_=>default⟩:=by
 have key:∀(a b c:Bool)(y z w:Sl aC),0<y.len->0<z.len->0<w.len->(cond a (cond b (⟨0,λ_=>default⟩:Sl aC) y) (cond c z w)).len=0->cond a (cond b (⟨0,λ_=>default⟩:Sl aC) y) (cond c z w)=⟨0,λ_=>default⟩:=by
  intro a b c y z w h2 h3 h4 h;cases a<;>cases b<;>cases c<;>simp only[dU,dQ]at h ⊢ <;> omega
 exact key _ _ _ _ _ _ (by simp) (by simp) (by simp)
def z0:Nat->aC:=λ_=>⟨0,0,0⟩
def evG(s:au)(l:Sl bu):Sl (Sl aC):=gw (λ_=>⟨0,z0⟩) (λi=>Ac s (l.get i)) l.len
theorem RP(s:au)(l:Sl bu):(evG s l).len=l.len:=o6 _ _ _
theorem Jj{s:au}{l:Sl bu}{i:Nat}(h:i<l.len):(evG s l).get i=Ac s (l.get i):=yC h
def fM(s:au)(r:bI)(l:Sl bu):Pt aH:=⟨⟨s,l,evG s l,r⟩⟩
def jT(s:au)(r:bI)(l:Sl bu):Int:=cond (decide (l.len>24)) 3 (cond (fF s&&vY r&&Hy s l) 0 2)
def opn(s:au)(r:bI)(l:Sl bu):Int ⊕ (Pt aH×Int):=cond (jT s r l==0) (.inr (fM s r l,0)) (.inl (jT s r l))
abbrev Q78(C:au×bI×Sl bu->ae (Int ⊕ (Pt aH×Int))):Prop:=∀s r l,qO s->l.len<=40->C (s,r,l)=.ok (opn s r l)
theorem s78{E:E78}(N:Big E.N)(h60:Q60 E.c60)(zvW:zwk E.c138)(zvX:zwp E.c139):Q78 (F78 E):=λs r l hs hl=>ae.ext λk=>by
 rw[e78,bf];by_cases h24:(l.len:Int)>24;rw [dK h24];have:jT s r l=3:=by unfold jT;rw[dK (show l.len>24 by omega)];rfl
 simp only[opn,this];rfl
 ·rw [dV h24, dQ, h60 s r hs, bf];have e1:jT s r l=cond (fF s && vY r && Hy s l) 0 2:=by unfold jT;rw[dV (show ¬ l.len > 24 by omega)];rfl
  cases hb:fF s&&vY r with
  | false =>
   have:jT s r l=2:=by rw[e1,hb];rfl
   simp only[opn,this];rfl
  | true =>
   have hsb:=(fH _ _▸hb).1;refine(loopA (L:=λn v=>VL E n s r l v (gw (λ_=>⟨0,z0⟩) (λi=>Ac s (l.get i)) v.toNat) k) (p:=λi=>o5 s (l.get i)) (m:=l.len) (fin:=k (.inr (fM s r l,0))) (stop:=k (.inl 2)) omY (λn i hi=>?_) (λn=>?_) _ omY).trans ?_
   ·rw [zsL,dK (show(i:Int)<_ by omega),dU,bF omY,fQ,zvW _ _ hs,bf,hsb,qdq];cases hh:o5 s (l.get i)with
    | false=>rfl
    | true =>
     rw[zvX _ _ hs,bf,hsb,hh];have e2:VM E n s r l (Ac s (l.get i)) (i:Int) (gw (λ_=>⟨0,z0⟩) (λi=>Ac s (l.get i)) i) k=VL E n s r l (aQ ((i:Int)+1)) (gw (λ_=>⟨0,z0⟩) (λi=>Ac s (l.get i)) (aQ ((i:Int)+1)).toNat) k:=by
      rw[zDH,o6,lV omY omY,bJ omY,fQ];rfl
     by_cases h0:(Ac s (l.get i)).len=0;have e3:((Ac s (l.get i)).len:Int)==0:=by rw [h0];rfl
     simp only[e3,qj3,dU];show VM E n s r l ⟨0,λ_=>default⟩ _ _ k=_;rw[<- zol (p:=s.ak.get (l.get i).aj.toNat) (h:=l.get i) h0];exact e2;have e3:(((Ac s (l.get i)).len:Int)==0)=false:=by rw [qjt];omega
     simp only[e3,qj3,dU,dQ];exact e2
   rw[zsL];simp only[qdT,qdK,dQ,fQ];rfl;have:jT s r l=cond (Hy s l) 0 2:=by rw [e1,hb];rfl
   simp only[opn,this,Hy];cases iL (λi=>o5 s (l.get i)) l.len<;>rfl
def usB(l:Sl bu)(w:Sl Int)(n:Nat)(p:Int):Bool:=iL (λj=>!decide ((l.get (w.get j).toNat).aj=p)) n
def hiA(l:Sl bu)(t:af)(i:Nat):bu:=l.get (t.Hits.get i).toNat
def Ya(s:au)(l:Sl bu)(t:af)(i:Nat):Bool :=
 inB (t.Hits.get i) 0 ((l.len:Int)-1)&&(decide (i=0)||decide (t.Hits.get (i-1)<t.Hits.get i))&&decide ((s.ak.get (hiA l t i).aj.toNat).View=t.View)&&inB (t.aX.get i) 0 (((Ac s (hiA l t i)).len:Int)-1)&&usB l t.Hits i (hiA l t i).aj
def F5(s:au)(l:Sl bu)(t:af):Bool:=RN t.View&&decide (0<t.Hits.len)&&decide (t.aX.len=t.Hits.len)&&iL (Ya s l t) t.Hits.len
structure Evt (s : au) (l : Sl bu) : Prop where
  sh:qO s
  se:fF s=true
  hi:Hy s l=true
  le:l.len<=40
theorem Evt.pl{s:au}{l:Sl bu}(h:Evt s l){i:Nat}(hi:i<l.len):0<=(l.get i).aj/\(l.get i).aj<s.ak.len:=RJ (dD.1 h.hi i hi)
theorem Zr{s:au}{l:Sl bu}{t:af}{i:Nat}(h:Ya s l t i=true):0<=t.Hits.get i/\t.Hits.get i<l.len:=by
 simp only[Ya,fH,inB,oO]at h;omega
theorem zii{s:au}{l:Sl bu}{t:af}{i:Nat}(h:Ya s l t i=true):0<=t.aX.get i/\t.aX.get i<(Ac s (hiA l t i)).len:=by
 simp only[Ya,fH,inB,oO]at h;omega
/-! The program. -/
abbrev zom(C:Pt aH×Int->ae Int):Prop:=∀s l r i,Evt s l->0<=i/\i<(l.len:Int)->C (fM s r l,i)=.ok (s.ak.get (l.get i.toNat).aj.toNat).View
theorem zNr{E:znF}:zom (znG E):=λs l r i he hi=>ae.ext λk=>by
 have hp:=he.pl (i:=i.toNat) omY;exact(zMD E k _ _).trans ((bF (p:=0<=i/\i<(l.len:Int)) hi).trans (bF (p:=0<=(l.get i.toNat).aj/\(l.get i.toNat).aj<(s.ak.len:Int)) hp))
def mfS(l:Sl bu)(t:af):Nat→List Int→Option (List Int)|0=>λ_=>none|i+1=>lT [(hiA l t i).aj] [1] (mfS l t i)
def mnS(l:Sl bu)(t:af):Nat→Nat|0=>0|i+1=>addN (mfS l t i [(hiA l t i).aj]) (mnS l t i)
theorem zij{l:Sl bu}{t:af}{p:Int}:∀i,(sD (mfS l t i [p]) 0 != 0) = !usB l t.Hits i p
  | 0=>rfl
  | i+1=>by
    simp only[mfS,lT,usB,iL];by_cases h:(hiA l t i).aj=p;rw[dK (show [p]=[(hiA l t i).aj]by rw[h]),dK (show(l.get (t.Hits.get i).toNat).aj=p from h)];simp[sD];rw [dV (show ¬ [p]=[(hiA l t i).aj]by intro e;cases e;exact h rfl),dV (show ¬(l.get (t.Hits.get i).toNat).aj=p from h)];have:=zij (l:=l) (t:=t) (p:=p) i;simp only[usB]at this;simp only[this,qjG,qjp]
abbrev Q79(C:Pt aH×af->ae Bool):Prop:=∀s l r t,Evt s l->t.Hits.len<=30->t.aX.len<=30->C (fM s r l,t)=.ok (F5 s l t)
theorem s79{E:E79}(N:Big E.N)(VK:RI E.Gv)(Zl:zom E.IL)(h96:QVw E.Yc):Q79 (F79 E):=λs l r t he ht hs=>ae.ext λk=>by
  have hle:=he.le;rw[e79,bf];refine(zsN (L:=λn v=>P7 E n (fM s r l) t v (mnS l t v.toNat) (mfS l t v.toNat) k) (p:=λi=>Ya s l t i&&decide (i<t.aX.len)) (m:=t.Hits.len) (fin:=k (RN t.View&&decide (0<t.Hits.len)&&decide (t.aX.len=t.Hits.len))) (stop:=k false) omY (λn i hi hp=>?_) (λn _=>?_) _ omY).trans ?_
  · rw [zsM,dK (show(i:Int)<_ by omega),dU,bF omY,fQ,show(fM s r l).v.hits=l from rfl,A7 omY,VK,bf];cases c1:inB (t.Hits.get i) 0 ((l.len:Int)-1)with
    | false=>simp only[Ya,c1,qd1];rfl
    | true =>
    have c1':0<=t.Hits.get i/\t.Hits.get i<(l.len:Int):=by simp only[inB,oO]at c1;omega
    have TY:=he.pl (i:=(t.Hits.get i).toNat) omY;have hg:=zbE (s.ak.get (hiA l t i).aj.toNat) (hiA l t i);have hgg:(fM s r l).v.iT.get (t.Hits.get i).toNat=Ac s (hiA l t i):=Jj omY;have hgl:((fM s r l).v.iT.len:Int)=l.len:=by show((evG s l).len:Int)=l.len;rw[RP]
    have e2:VN E n (fM s r l) t (t.Hits.get i) (i:Int) (mnS l t i) (mfS l t i) k=P7 E n (fM s r l) t (aQ ((i:Int)+1)) (mnS l t (aQ ((i:Int)+1)).toNat) (mfS l t (aQ ((i:Int)+1)).toNat) k:=by
      rw[zDI,bF (by exact c1'),bJ omY,fQ];rfl
    have c2 : ∀ X : Option _, (E.IL (fM s r l, t.Hits.get i)).T (fun r2 => cond (r2 != t.View) X (aV (decide (0 ≤ t.Hits.get i ∧ t.Hits.get i < (l.len : Int))) (cond (sD (mfS l t i [(l.get (t.Hits.get i).toNat).aj]) 0 != 0) X
        (cond (decide ((i:Int)≥(t.aX.len:Int))) X (aV (decide (0≤(i:Int)∧(i:Int)<(t.aX.len:Int))) (aV (decide (0≤t.Hits.get i∧t.Hits.get i<((fM s r l).v.iT.len:Int)))
          ((E.Gv (t.aX.get i,0,aQ ((((fM s r l).v.iT.get (t.Hits.get i).toNat).len:Int)-1))).T λr3=>cond (!r3) X (VN E n (fM s r l) t (t.Hits.get i) (i:Int) (mnS l t i) (mfS l t i) k))))))))
        = cond (decide ((s.ak.get (hiA l t i).aj.toNat).View=t.View)&&usB l t.Hits i (hiA l t i).aj&&decide (i<t.aX.len)&&inB (t.aX.get i) 0 (((Ac s (hiA l t i)).len:Int)-1)) (P7 E n (fM s r l) t (aQ ((i:Int)+1)) (mnS l t (aQ ((i:Int)+1)).toNat) (mfS l t (aQ ((i:Int)+1)).toNat) k) X:=by
      intro X;rw[Zl s l r _ he c1',bf,bF c1',zij,hgg,hgl,bF c1',VK,bf,e2,A7 (by simp only[Ac];omega)];by_cases hS:i<t.aX.len;rw [dV (show ¬(i:Int)≥(t.aX.len:Int)by omega),bF omY,dK hS];by_cases v:(s.ak.get (hiA l t i).aj.toNat).View=t.View;rw [show((s.ak.get (l.get (t.Hits.get i).toNat).aj.toNat).View != t.View)=false from bne_eq_false_iff_eq.2 v,dK v];show cond (!usB l t.Hits i (hiA l t i).aj) _ _=_;cases usB l t.Hits i (hiA l t i).aj<;>cases inB (t.aX.get i) 0 (((Ac s (hiA l t i)).len:Int)-1)<;>rfl;rw[show((s.ak.get (l.get (t.Hits.get i).toNat).aj.toNat).View != t.View)=true from bne_iff_ne.2 v,dV v];rfl;rw [dK (show(i:Int)≥(t.aX.len:Int)by omega),dV hS];simp only[qdW,qd1,dU,dQ];cases(s.ak.get (l.get (t.Hits.get i).toNat).aj.toNat).View != t.View<;>cases usB l t.Hits i (l.get (t.Hits.get i).toNat).aj<;>rfl
    simp only[qds,dQ];by_cases h0:(i:Int)>0;obtain⟨p1,p2⟩:=zog (n:=t.Hits.len) hi omY h0;rw[dK h0,dU,bF p1,p2];by_cases d:t.Hits.get i<=t.Hits.get (i-1);rw [dK d];have:Ya s l t i=false:=by simp only[Ya,dV (show ¬i=0 by omega),dV (show ¬t.Hits.get (i-1)<t.Hits.get i by omega),Bool.or_self,qdW,qd1]
    rw[this];rfl;rw [dV d,dQ];refine(c2 _).trans ?_;congr 1;simp only[Ya,c1,dK (show t.Hits.get (i-1)<t.Hits.get i by omega),Bool.or_true,qdq]
    ac_rfl
    rw [dV h0,dQ];refine(c2 _).trans ?_;congr 1;simp only[Ya,c1,dK (show i=0 by omega),Bool.true_or,qdq]
    ac_rfl
  rw [zsM];simp only [qdT,qdK,dQ,h96,bf];rw[kc k,kc k];congr 1;cases RN t.View<;>simp<;>grind;rw [zof];congr 1;simp only[F5];by_cases h3:t.aX.len=t.Hits.len;have:iL (fun i=>Ya s l t i&&decide (i<t.aX.len)) t.Hits.len=iL (Ya s l t) t.Hits.len:=A8 fun i hi=>by rw [dK omY,qjp]
  rw[this,jqD];simp only[h3,qdK,qdW,qd1]
theorem L8{α:Type}[bn α]{z f g:Nat→α}:∀{n:Nat},(∀i,i<n→f i=g i)→gw z f n=gw z g n|0,_=>rfl|n+1,h=>by simp only[gw,L8 (n:=n) λi hi=>h i omY,h n omY]
def gtS(s:au)(l:Sl bu)(t:af):Sl aC:=gw z0 (λi=>(Ac s (hiA l t i)).get (t.aX.get i).toNat) t.Hits.len
theorem zik{s:au}{l:Sl bu}{t:af}(h:F5 s l t=true):t.aX.len=t.Hits.len/\∀i,i<t.Hits.len->Ya s l t i=true:=by
 simp only[F5,fH,oO,dD]at h;exact⟨h.1.2,h.2⟩
abbrev zil(C:Pt aH×af->ae (Sl aC)):Prop:=∀s l r t,Evt s l->t.Hits.len<=2100->F5 s l t=true->C (fM s r l,t)=.ok (gtS s l t)
theorem zNs{E:zdR}(N:Big E.N):zil (znE E):=λs l r t he ht hc=>ae.ext λk=>by
 obtain⟨h1,h2⟩:=zik hc;have e:gtS s l t=gw z0 (λi=>((evG s l).get (t.Hits.get i).toNat).get (t.aX.get i).toNat) t.Hits.len:=L8 λi hi=>by
  have a1:=Zr (h2 i hi);rw[Jj omY];rfl
 rw[zMz,bf,e];refine pK (X:=λn i=>RF E n (fM s r l) t (i:Int) (gw z0 (λi=>((evG s l).get (t.Hits.get i).toNat).get (t.aX.get i).toNat) i) k) (m:=t.Hits.len) (λn i hi=>?_) (λn=>?_) _ omY;have a1:=Zr (h2 i hi);have a2:=zii (h2 i hi);have a3:0<=t.Hits.get i/\t.Hits.get i<((fM s r l).v.iT.len:Int):=by show _/\t.Hits.get i<((evG s l).len:Int);rw[RP];omega
 have a4:0<=t.aX.get i/\t.aX.get i<(((fM s r l).v.iT.get (t.Hits.get i).toNat).len:Int):=by
  show _/\t.aX.get i<(((evG s l).get (t.Hits.get i).toNat).len:Int);rw[Jj omY];exact a2
 rw[zh5,dK (show(i:Int)<_ by omega),dU,bF omY,fQ,bF a3,bF omY,bF a4,o6,lV omY omY,bJ omY];rfl;rw[zh5];simp only[qdT,qdK,dQ]
abbrev zwr(C:Unit->ae bI):Prop:=C ()=.ok ⟨1,0⟩
theorem zNt{E:znC}:zwr (znD E):=ae.ext λk=>e108 E k
theorem rO{s:au}{r:bI}{l:Sl bu}(hs:qO s)(h:jT s r l=0):Evt s l/\vY r=true/\l.len<=24:=by
 unfold jT at h;by_cases h24:l.len>24;rw[dK h24]at h;cases h
 ·rw [dV h24,dQ]at h;cases e:fF s&&vY r&&Hy s l with
  | false=>rw[e]at h;cases h
  | true =>
   simp only[fH]at e;exact⟨⟨hs,e.1.1,e.2,omY⟩,e.1.2,omY⟩
def qc(s:au)(l:Sl bu)(i:Nat):Nat:=(Ac s (l.get i)).len
theorem Jk(s:au)(l:Sl bu)(i:Nat):qc s l i<=2:=zbE _ _
def EM(s:au)(l:Sl bu)(i:Nat):Int:=(s.ak.get (l.get i).aj.toNat).View
def Ba(s:au)(l:Sl bu)(x p:Int):Nat→Int|0=>0|i+1=>Ba s l x p i+cond ((l.get i).aj==p&&EM s l i==x) (qc s l i:Int) 0
def cf(n:Nat→Int):Nat→Nat→Int|0,j=>cond (j==0) 1 0|p+1,0=>cf n p 0|p+1,j+1=>aQ (cf n p (j+1)+aQ (n p*cf n p j))
def tlS(g:Nat→Int):Nat→Int→Nat→Int|0,a,_=>a|d+1,a,v=>tlS g d (aQ (a+g v)) (v+1)
def uD(a:Int):Int:=if a>1 then a else 1
theorem zon(a:Int):1<=uD a:=by unfold uD;split<;>omega
def chN(s:au)(l:Sl bu)(x a:Int):Int:=tlS (cf (λp=>Ba s l x (p:Int) l.len) s.ak.len) (s.ak.len+1-(uD a).toNat) 0 (uD a).toNat
theorem zwt{A:Type}{L:Nat→Int→Int→Option A}{k:Int→Option A}{g:Nat→Int}{m:Nat}(hm:m≤1000)
    (hL:∀n a v,v<m->L (n+1) a (v:Int)=L n (aQ (a+g v)) ((v+1:Nat):Int)) (hE:∀n a (v:Int),(m:Int)<=v->L (n+1) a v=k a) :
    ∀d n (v:Int) a,0<=v->d=m-v.toNat->d<n->L n a v=k (tlS g d a v.toNat):=by
  intro d
  induction d with
  | zero =>
    intro n v a hv hd hn;obtain⟨n,rfl⟩:∃n',n=n'+1:=⟨n-1,omY⟩;exact hE n a v omY
  | succ d ih =>
    intro n v a hv hd hn;obtain⟨n,rfl⟩:∃n',n=n'+1:=⟨n-1,omY⟩;obtain⟨u,rfl⟩:∃u:Nat,v=u:=⟨v.toNat,omY⟩;rw[fQ]at hd ⊢;rw[hL n a u omY,ih n _ _ omY (by rw[fQ];omega) omY,fQ];rfl
def sdK(i:Int):Nat→Nat→List (Int×Int)|0,_=>[]|d+1,k=>(i,(k:Int))::sdK i d (k+1)
def IA(s:au)(l:Sl bu)(x:Int):Nat→Nat→List (Int×Int)|0,_=>[]|d+1,i=>cond (EM s l i==x) (sdK i (qc s l i) 0) []++IA s l x d (i+1)
abbrev zoo(I:Pt Int×Pt (Pt aH)×Pt Int->ae (List (Int×Int))):Prop:=∀s l r x (fr:Nat),Evt s l->fr<=l.len->I (⟨fr⟩,⟨fM s r l⟩,⟨x⟩)=.ok (IA s l x (l.len-fr) fr)
theorem zNu{E:VO}(N:Big E.N)(Zl:zom E.IL):zoo (zv1 E):=λs l r x fr he hfr=>by
 refine Dp ?_ (λ_=>rfl) (λ_=>rfl);refine(zMB E _ _ _).trans ?_;have hl:=he.le;have key:∀d n (i:Nat),i+d=l.len->d<n->LW E n ⟨fM s r l⟩ ⟨x⟩ (i:Int)=some ((IA s l x d i).map dm.enc):=by
  intro d
  induction d with
  | zero =>
   intro n i hi hn;obtain⟨n,rfl⟩:∃n',n=n'+1:=⟨n-1,omY⟩;exact(zh6 E n _ _ _).trans (zDW (p:=(i:Int)<(l.len:Int)) omY)
  | succ d ih =>
   intro n i hi hn;obtain⟨n,rfl⟩:∃n',n=n'+1:=⟨n-1,omY⟩;have nx:=ih n (i+1) omY omY;refine(zh6 E n _ _ _).trans ((zDV (p:=(i:Int)<(l.len:Int)) omY).trans ?_);rw[bJ omY,nx];show(E.IL (fM s r l,(i:Int))).T _=_;rw[Zl s l r _ he omY,bf,fQ];show cond (EM s l i != x) _ _=_;rw[IA];cases hv:EM s l i==x with
   | false=>rw[show(EM s l i != x)=true by rw[bne,hv];rfl];rfl
   | true =>
    rw[show(EM s l i != x)=false by rw[bne,hv];rfl,dQ,dU];have hg:((fM s r l).v.iT.get i)=Ac s (l.get i):=Jj omY;have hgl:(fM s r l).v.iT.len=l.len:=RP s l;have inn:∀e m (k:Nat),k+e=qc s l i->e<m->LX E n m ⟨fM s r l⟩ ⟨x⟩ (i:Int) (qc s l i:Int) (k:Int)=some ((sdK i e k++IA s l x d (i+1)).map dm.enc):=by
     have hg2:=Jk s l i;intro e
     induction e with
     | zero =>
      intro m k hk hm;obtain⟨m,rfl⟩:∃n',m=n'+1:=⟨m-1,omY⟩;rw[zh7,dV omY,dQ,bJ omY,nx];rfl
     | succ e ih2 =>
      intro m k hk hm;obtain⟨m,rfl⟩:∃n',m=n'+1:=⟨m-1,omY⟩;rw[zh7,dK omY,dU,bJ omY,ih2 m (k+1) omY omY];rfl
    have hg2:=Jk s l i;rw[bF (by rw[hgl];omega)];show LX E n E.N ⟨fM s r l⟩ ⟨x⟩ (i:Int) (((fM s r l).v.iT.get (i:Int).toNat).len:Int) ((0:Nat):Int)=_;rw[fQ,hg];exact inn _ _ _ omY omY
 exact key _ _ _ omY omY
def ctL(l:Sl bu)(p:Int):List (Int×Int)→Int|[]=>0|y::r=>cond ((l.get y.1.toNat).aj==p) 1 0+ctL l p r
theorem zbG(l:Sl bu)(p:Int):∀a b,ctL l p (a++b)=ctL l p a+ctL l p b|[],b=>by simp[ctL]|y::a,b=>by simp only[qdB,ctL,zbG l p a b];omega
theorem zsS(l:Sl bu)(p:Int)(i:Nat):∀d k,ctL l p (sdK i d k)=cond ((l.get i).aj==p) (d:Int) 0
  | 0,_=>by cases(l.get i).aj==p<;>rfl
  | d+1,k=>by
    simp only[sdK,ctL,zsS l p i d,fQ];cases(l.get i).aj==p<;>simp only[dU,dQ]<;>omega
theorem zsU(s:au)(l:Sl bu)(x p:Int):∀d i,Ba s l x p i+ctL l p (IA s l x d i)=Ba s l x p (i+d)
  | 0,i=>by simp[IA,ctL]
  | d+1,i=>by
    rw[IA,zbG,show i+(d+1)=(i+1)+d by omega,<- zsU s l x p d (i+1)];simp only[Ba];cases EM s l i==x;simp[ctL];simp only[dU,zsS,qjp];omega
theorem zsV{i:Int}{y:Int×Int}:∀{d k},y∈sdK i d k→y.1=i
  | d+1,k,h=>by
    rcases jW.1 h with rfl|h
    rfl;exact zsV h
theorem zsW{s:au}{l:Sl bu}{x:Int}{y:Int×Int}:∀{d i},y∈IA s l x d i→0≤y.1∧y.1<((i+d:Nat):Int)
  | d+1,i,h=>by
    rw[IA]at h;rcases dG.1 h with h|h
    revert h;cases EM s l i==x;intro h;cases h;intro h;have:=zsV h;omega;have:=zsW h;omega
def wyG(g:Nat->Int)(n:Int)(len:Nat)(v:Nat)(j:Nat):Int:=if v<j/\j<len then aQ (g j+aQ (g (j-1)*n))else g j
abbrev Q59(C:au×Sl bu×Int×Int->ae (Int×Int)):Prop:=∀s l x a,qO s->l.len<=40->C (s,l,x,a)=.ok (cond (jT s ⟨1,0⟩ l==0) (cond (RN x) (chN s l x a,0) (0,2)) (0,jT s ⟨1,0⟩ l))
theorem s59{E:E59}(N:Big E.N)(zvT:zwr E.zrl)(P6:Q78 E.Yb)(h96:QVw E.Yc)(zNw:zoo E.i173):Q59 (F59 E):=λs l x a hs hl=>ae.ext λk=>by
 rw[e59,zvT,bf,P6 s _ l hs hl,bf,bf,opn];cases e:jT s ⟨1,0⟩ l==0 with
 | false =>
  show cond (jT s ⟨1,0⟩ l==0) _ (cond (jT s ⟨1,0⟩ l != 0) _ _)=_;rw[e,show(jT s ⟨1,0⟩ l != 0)=true by rw[bne,e];rfl];rfl
 | true =>
  obtain⟨he,_,_⟩:=rO hs (eq_of_beq e);show(E.Yc x).T _=_;rw[h96,bf];cases RN x with
  | false=>rfl
  | true =>
   have hp:=zf he.se;show aV (decide ((0:Int)<=(s.ak.len:Int)/\((s.ak.len:Int):Int)=(s.ak.len:Int)/\(s.ak.len:Int)<=1000000)) (zbA E x a (fM s ⟨1,0⟩ l) ⟨(s.ak.len:Int).toNat,λ_=>0⟩ k)=k (chN s l x a,0);rw[bF omY,fQ,zDF,show(E.i173 ((⟨0⟩:Pt Int),(⟨fM s ⟨1,0⟩ l⟩:Pt (Pt aH)),(⟨x⟩:Pt Int)))=_ from zNw s l ⟨1,0⟩ x 0 he omY,bf]
   have run:∀(ys:List (Int×Int))(w:Sl Int),w.len=s.ak.len->(∀y∈ys,0<=y.1/\y.1<(l.len:Int))->(∀p:Nat,0<=w.get p/\w.get p+ys.length<=1000) ->
     ∃w':Sl Int,w'.len=s.ak.len/\(∀p:Nat,p<s.ak.len->w'.get p=w.get p+ctL l (p:Int) ys) /\
      PY E ys a ⟨0⟩ ⟨fM s ⟨1,0⟩ l⟩ ⟨x⟩ (fM s ⟨1,0⟩ l) w k=PY E [] a ⟨0⟩ ⟨fM s ⟨1,0⟩ l⟩ ⟨x⟩ (fM s ⟨1,0⟩ l) w' k:=by
    intro ys
    induction ys with
    | nil=>intro w hw _ _;exact⟨w,hw,λp _=>by simp[ctL],rfl⟩
    | cons y ys ih =>
     intro w hw hy hb;have hy1:=hy y jM;have TY:=he.pl (i:=y.1.toNat) omY;obtain⟨w',h1,h2,h3⟩:=ih ⟨w.len,seG (l.get y.1.toNat).aj.toNat w.get (aQ (w.get (l.get y.1.toNat).aj.toNat+1))⟩ hw (λz hz=>hy z (jB _ hz)) (λp=>by
      have hbp:=hb p;simp only[xm]at hbp;show 0<=seG _ w.get _ p/\seG _ w.get _ p+(ys.length:Int)<=1000;rw[Rx];by_cases hh:p=(l.get y.1.toNat).aj.toNat;rw[dH hh,<- hh,aZ omY omY];omega;rw[dM hh];omega)
     refine⟨w',h1,λp OC=>?_,?_⟩;rw [h2 p OC];show seG _ w.get _ p+_=_;have hbp:=hb p;simp only[xm]at hbp;rw[Rx,ctL];by_cases hh:p=(l.get y.1.toNat).aj.toNat;rw[dH hh,<- hh,aZ omY omY,show((l.get y.1.toNat).aj==(p:Int))=true from qd8.2 omY];simp only[dU];omega;rw[dM hh,show((l.get y.1.toNat).aj==(p:Int))=false from qjt.2 omY];simp only[dQ];omega;rw [← h3];refine(zDG E k y ys _ _ _ _ _ w).trans ?_;refine(bF (p:=0<=y.1/\y.1<(l.len:Int)) hy1).trans ?_;refine(bF (p:=0<=(l.get y.1.toNat).aj/\(l.get y.1.toNat).aj<(w.len:Int)) (by rw[hw];exact TY)).trans ?_;refine(bF (p:=(l.get y.1.toNat).aj.toNat<w.len) (by rw[hw];omega)).trans ?_;refine(bF (p:=0<=(l.get y.1.toNat).aj/\(l.get y.1.toNat).aj<(w.len:Int)) (by rw[hw];exact TY)).trans ?_;exact bF (p:=(l.get y.1.toNat).aj.toNat<w.len) (by rw[hw];omega)
   have zD0:∀(i:Int) d m,(sdK i d m).length=d:=by
    intro i d
    induction d with|zero=>intro _;rfl|succ d ih=>intro m;simp only[sdK,xm,ih]
   have zD1:∀d i,(IA s l x d i).length<=2*d:=by
    intro d
    induction d with
    | zero=>intro _;exact jy _
    | succ d ih =>
     intro i;have h1:=ih (i+1);have h2:=Jk s l i;rw[IA,BG];cases EM s l i==x;simp only[dQ,X6];omega;simp only[dU,zD0];omega
   obtain⟨w,h1,h2,h3⟩:=run (IA s l x (l.len-0) 0) ⟨s.ak.len,λ_=>0⟩ rfl (λy hy=>by have:=zsW hy;omega) (λp=>⟨qju _,by have:=zD1 (l.len-0) 0;show(0:Int)+_<=1000;omega⟩);rw[h3,zvS,h1,bJ omY,fQ,bF omY,bF omY,bF omY];have h2:∀p:Nat,p<s.ak.len->w.get p=Ba s l x (p:Int) l.len:=λp OC=>by
    rw[h2 p OC];have:=zsU s l x p (l.len-0) 0;simp only[Ba]at this;rw[show(0:Nat)+(l.len-0)=l.len by omega]at this;exact this
   have out:∀d n (p:Nat) (g:Nat->Int),p+d=s.ak.len->d<n->(∀j,j<=s.ak.len->g j=cf (λp=>Ba s l x (p:Int) l.len) p j) ->
     zbB E n a (s.ak.len:Int) (p:Int) ⟨s.ak.len+1,g⟩ w k=k (chN s l x a,0):=by
    intro d
    induction d with
    | zero =>
     intro n p g OC hn hg;obtain⟨n,rfl⟩:∃n',n=n'+1:=⟨n-1,omY⟩;rw[zsI,dV omY,dQ];refine(zwt (L:=λn b v=>VJ E n b v ⟨s.ak.len+1,g⟩ k) (k:=λb=>k (b,0)) (g:=cf (λp=>Ba s l x (p:Int) l.len) s.ak.len) (m:=s.ak.len+1) omY (λn b v hv=>?_) (λn b v hv=>?_) _ _ _ _ (show 0<=uD a by have:=zon a;omega) rfl omY).trans rfl;rw [zsK,dK (show(v:Int)<((s.ak.len+1:Nat):Int)by omega),dU,bF (p:=0≤(v:Int)∧(v:Int)<((s.ak.len+1:Nat):Int)) omY,bF (p:=(v:Int).toNat<s.ak.len+1) omY,bJ omY];show VJ E n (aQ (b+g (v:Int).toNat)) _ _ k=_;rw[fQ,hg v omY,show p=s.ak.len by omega];rw[zsK,dV (show ¬v<((s.ak.len+1:Nat):Int)by omega),dQ]
    | succ d ih =>
     intro n p g OC hn hg;obtain⟨n,rfl⟩:∃n',n=n'+1:=⟨n-1,omY⟩;rw[zsI,dK omY,dU,bF omY,bF omY,fQ,h1,h2 p omY]
     have inn:∀v m (g':Nat->Int),v<=s.ak.len->v<m->(∀j,j<=s.ak.len->g' j=wyG g (Ba s l x (p:Int) l.len) (s.ak.len+1) v j) ->
       zbC E n m a (Ba s l x (p:Int) l.len) (v:Int) (s.ak.len:Int) (p:Int) ⟨s.ak.len+1,g'⟩ w k=k (chN s l x a,0):=by
      intro v
      induction v with
      | zero =>
       intro m g' hv hm hg';obtain⟨m,rfl⟩:∃n',m=n'+1:=⟨m-1,omY⟩;rw[zsJ,dV omY,dQ,bJ omY];refine ih n (p+1) g' omY omY λj hj=>?_;rw[hg' j hj,wyG];cases j with|zero=>rw[dM omY,hg 0 omY];rfl|succ j=>rw[dH omY,qja,hg (j+1) hj,hg j omY,Int.mul_comm];rfl
      | succ v ih2 =>
       intro m g' hv hm hg';obtain⟨m,rfl⟩:∃n',m=n'+1:=⟨m-1,omY⟩;have e1:aQ (((v+1:Nat):Int)-1)=(v:Int):=by rw[A7 omY];omega
       rw[zsJ,dK omY,dU,e1];show aV (decide (0<=((v+1:Nat):Int)/\((v+1:Nat):Int)<((s.ak.len+1:Nat):Int))) _=_;rw[bF omY];show aV (decide (((v+1:Nat):Int).toNat<s.ak.len+1)) _=_;rw[bF omY];show aV (decide (0<=(v:Int)/\(v:Int)<((s.ak.len+1:Nat):Int))) _=_;rw[bF omY];show aV (decide ((v:Int).toNat<s.ak.len+1)) _=_;rw[bF omY];show aV (decide (0<=((v+1:Nat):Int)/\((v+1:Nat):Int)<((s.ak.len+1:Nat):Int))) _=_;rw[bF omY];show aV (decide (((v+1:Nat):Int).toNat<s.ak.len+1)) _=_;rw[bF omY,fQ,fQ];refine ih2 m _ omY omY λj hj=>?_;rw[Rx,wyG];by_cases hj2:j=v+1;subst hj2;rw[dH rfl,dH omY,qja];show aQ (g' (v+1)+aQ (g' v*_))=_;rw[hg' (v+1) hj,hg' v omY,wyG,wyG,dM omY,dM omY];rw [dM hj2];show g' j=_;rw[hg' j hj,wyG];by_cases h4:v+1<j/\j<s.ak.len+1;rw[dH h4,dH omY];rw[dM h4,dM omY]
     exact inn s.ak.len E.N g (jy _) omY λj hj=>by rw[wyG,dM omY]
   refine out s.ak.len E.N 0 (seG 0 (λ_=>0) 1) omY omY λj _=>?_;rw[Rx];cases j<;>rfl
abbrev Q19(C:Unit->ae Bool):Prop:=C ()=.ok true
structure E20 where
 N:Nat
 c72:au×bI×(Sl bu)×(Sl Bool)->ae (Int ⊕ ((Pt found)×Int))
def F20(E:E20):au×bI×(Sl bu)->ae ((Sl af)×Int):=jS E.N (Tabs.nil.addF 72 (ae.unA E.c72)) 20
theorem e20(E:E20){A:Type}(k:((Sl af)×Int)→Option A)(a0:au)(a1:bI)(a2:Sl bu):(F20 E (a0,a1,a2)).T k=(E.c72 (a0,a1,a2,(⟨0,λ_=>default⟩:(Sl Bool)))).T λr1=>VG r1 (λr1=>cond (r1 != 0) (k ((⟨0,λ_=>default⟩:(Sl af)),r1)) (none)) (λr1=>cond (r1.2 != 0) (k ((⟨0,λ_=>default⟩:(Sl af)),r1.2)) (k (r1.1.v.ax,0))):=eX
theorem o20 [aG](E:E20)(OE:Ok aJ 72 (ae.unA E.c72)):Ok aJ 20 (ae.un (F20 E)):=eY (aB.nil.addF OE)
structure E38 where
 N:Nat
abbrev G38(E:E38):bM:=jc Tabs.nil []
def A38:dI:=bZ aJ 38 [] {cut:=[8,10]}
def F38(E:E38):(Sl Int)×(Sl Int)->ae Int:=ae.ty (aF aJ E.N (G38 E) A38 38)
section
variable(E:E38){A:Type}(k:Int->Option A)
def zbH(E:E38)(n:Nat)(a0 a1:Sl Int)(v5:Int){A:Type}(k:Int->Option A):Option A:=kC aJ (G38 E) E.N A38 38 [1,0,1,0] [.n n] (kz k) ⟨[(0,eP a0),(1,eP a1),(5,.int v5)],[],[]⟩
def zim(E:E38)(a0 a1:Sl Int){A:Type}(k:Int->Option A):Option A:=kC aJ (G38 E) E.N A38 38 [1,1] [] (kz k) ⟨[(0,eP a0),(1,eP a1)],[],[]⟩
def zsY(E:E38)(a0 a1:Sl Int){A:Type}(k:Int->Option A):Option A:=kC aJ (G38 E) E.N A38 38 [1,1,1] [] (kz k) ⟨[(0,eP a0),(1,eP a1)],[],[]⟩
theorem e38(a0 a1:Sl Int):(F38 E (a0,a1)).T k=zbH E E.N a0 a1 0 k:=eX
theorem zsZ(n0:Nat)(a0 a1:Sl Int)(v5:Int):zbH E (n0+1) a0 a1 v5 k=cond (decide (v5<(a0.len:Int))) (cond (decide (v5<(a1.len:Int))) (aV (decide (0<=v5/\v5<(a0.len:Int))) (aV (decide (0<=v5/\v5<(a1.len:Int))) (cond (decide (a0.get v5.toNat<a1.get v5.toNat)) (k (-1)) (aV (decide (0<=v5/\v5<(a0.len:Int))) (aV (decide (0<=v5/\v5<(a1.len:Int))) (cond (decide (a0.get v5.toNat>a1.get v5.toNat)) (k 1) (zbH E n0 a0 a1 (aQ (v5+1)) k))))))) (zim E a0 a1 k)) (zim E a0 a1 k):=krY
theorem zs3(a0 a1:Sl Int):zim E a0 a1 k=cond (decide ((a0.len:Int)<(a1.len:Int))) (k (-1)) (zsY E a0 a1 k):=krY
theorem zs4(a0 a1:Sl Int):zsY E a0 a1 k=cond (decide ((a0.len:Int)>(a1.len:Int))) (k 1) (k 0):=krY
end
theorem o38 [aG](E:E38):Ok aJ 38 (ae.un (F38 E)):=eY aB.nil
structure E50 where
 N:Nat
 zrm:au×(Sl bu)->ae Int
 tH:au×bu->ae (placed×Bool)
 Z9:placed×bu->ae bC
abbrev G50(E:E50):bM:=jc (((Tabs.nil.addF 111 (ae.un E.zrm)).addF 112 (ae.un E.tH)).addF 113 (ae.un E.Z9)) []
def A50:dI:=bZ aJ 50 [] {}
def F50(E:E50):au×(Sl bu)->ae (bC×Int):=ae.ty (aF aJ E.N (G50 E) A50 50)
section
variable(E:E50){A:Type}(k:(bC×Int)->Option A)
def zbI(E:E50)(n:Nat)(a0:au)(a1:Sl bu)(v42:Int)(x9:bC){A:Type}(k:(bC×Int)->Option A):Option A:=kC aJ (G50 E) E.N A50 50 [1,1,1,1,1,0,1,0] [.n n] (kz k) ⟨[(2,.cl (.ptr 2 0)),(4,.cl (.ptr 4 0)),(9,.cl (.ptr 9 0)),(40,.cl (.p (.sl (((a1.len:Int):Int)-1).toNat 6 (λi=>bn.enc ((LU a1.get 1) i))))),(41,.int ((((a1.len:Int):Int)-1).toNat:Int)),(42,.int v42)],[(2,eB 24 a0),(4,.box 105 [.p (.int .i64 0),.p (.int .i64 0)]),(9,eB 105 x9)],[]⟩
theorem e50(a0:au)(a1:Sl bu):(F50 E (a0,a1)).T k=(E.zrm (a0,a1)).T λr1=>cond (r1 != 0) (k ((⟨0,0⟩:bC),r1)) (cond ((a1.len:Int)==0) (k ((⟨0,0⟩:bC),2)) (aV (decide ((0:Int)<=0/\0<(a1.len:Int))) ((E.tH (a0,(a1.get 0))).T λr2=>aV (decide ((0:Int)<=0/\0<(a1.len:Int))) ((E.Z9 (r2.1,(a1.get 0))).T λr3=>aV (decide ((0:Int)<=1/\(1:Int)<=(a1.len:Int)/\(a1.len:Int)<=(a1.len:Int))) (zbI E E.N a0 a1 0 r3 k))))):=eX
theorem zs5(n0:Nat)(a0:au)(a1:Sl bu)(v42:Int)(x9:bC):zbI E (n0+1) a0 a1 v42 x9 k=cond (decide (v42<((((a1.len:Int):Int)-1).toNat:Int))) (aV (decide (0<=v42/\v42<((((a1.len:Int):Int)-1).toNat:Int))) ((E.tH (a0,((LU a1.get 1) v42.toNat))).T λr1=>(E.Z9 (r1.1,((LU a1.get 1) v42.toNat))).T λr2=>zbI E n0 a0 a1 (aQ (v42+1)) (⟨(if r2.Low>x9.Low then r2.Low else x9.Low),(if r2.High<x9.High then r2.High else x9.High)⟩:bC) k)) (cond (decide (x9.Low>x9.High)) (k ((⟨0,0⟩:bC),5)) (k (x9,0))):=krY
end
theorem o50 [aG](E:E50)(zwv:Ok aJ 111 (ae.un E.zrm))(zL:Ok aJ 112 (ae.un E.tH))(zop:Ok aJ 113 (ae.un E.Z9)):Ok aJ 50 (ae.un (F50 E)):=eY (((aB.nil.addF zwv).addF zL).addF zop)
structure E52 where
 N:Nat
 c38:(Sl Int)×(Sl Int)->ae Int
def F52(E:E52):af×af->ae Bool:=jS E.N (Tabs.nil.addF 38 (ae.un E.c38)) 52
theorem e52(E:E52){A:Type}(k:Bool→Option A)(a0 a1:af):(F52 E (a0,a1)).T k=cond (a0.View==a1.View) ((E.c38 (a0.Hits,a1.Hits)).T λr1=>cond (r1==0) ((E.c38 (a0.aX,a1.aX)).T λr2=>k (r2==0)) (k false)) (k false):=eX
theorem o52 [aG](E:E52)(h38:Ok aJ 38 (ae.un E.c38)):Ok aJ 52 (ae.un (F52 E)):=eY (aB.nil.addF h38)
structure E72 where
 N:Nat
 Yb:au×bI×(Sl bu)->ae (Int ⊕ ((Pt aH)×Int))
 Ox:(Sl Bool)×Bool->ae Bool
 c127:(Pt aH)×Int->ae ((Sl af)×Bool)
 EG:(Sl af)×((dF 129 (Pt aH) Unit) ⊕ (dF 130 Unit (Pt (Pt found))))->ae (Sl af×Unit)
 TK:af×af->ae Int
abbrev G72(E:E72):bM:=jc (((((((Tabs.nil.addN [130]).addO 128 (.mkv 43 3 56 (ae.unV E.EG))).addO 133 (.sort 43 3 56)).addC 134 (ae.un E.TK)).addF 78 (ae.unA E.Yb)).addF 126 (ae.un E.Ox)).addF 127 (ae.un E.c127)) []
def A72:dI:=bZ aJ 72 [] {ks:=[(0,6,⟨[],[],[(35,2,5001,43)],[],[],[],[]⟩),(2,15,⟨[],[],[],[],[57,5001],[],[]⟩)],cut:=[15,16],unr:=[(8,3)],clo:=[130]}
def F72(E:E72):au×bI×(Sl bu)×(Sl Bool)->ae (Int ⊕ ((Pt found)×Int)):=ae.tyA (aF aJ E.N (G72 E) A72 72)
section
variable(E:E72){A:Type}(k:(Int ⊕ ((Pt found)×Int))->Option A)
def zbJ(E:E72)(yD:Pt aH)(w57 w67:Sl af){A:Type}(k:(Int ⊕ ((Pt found)×Int))->Option A):Option A:=kC aJ (G72 E) E.N A72 72 [1,1,1,1,1,1,1] [] (zhE k) ⟨[(12,.cl (.ptr 12 0))],[(12,.box 140 [.ptr 35 0]),(35,.box 145 [.p (.fp [.sl yD.v.au.ak.len 15 (λi=>bn.enc (yD.v.au.ak.get i)),.sl yD.v.hits.len 6 (λi=>bn.enc (yD.v.hits.get i)),.sl yD.v.iT.len 1 (λi=>bn.enc (yD.v.iT.get i)),.int .i64 yD.v.rules.ve,.int .i64 yD.v.rules.xA] 0),.vec 57,.vec 67]),(57,.fvec 3 w57.len (λi=>bn.enc (w57.get i))),(67,eV 43 3 56 w67)],[]⟩
theorem e72(a0:au)(a1:bI)(a2:Sl bu)(a3:Sl Bool):(F72 E (a0,a1,a2,a3)).T k=(E.Yb (a0,a1,a2)).T λr1=>VG r1 (λr1=>cond (r1==0) ((E.Ox (a3,false)).T λr2=>cond r2 (k (.inl 2)) (cond (r1 != 0) (k (.inl r1)) (none))) (cond (r1 != 0) (k (.inl r1)) (none))) (λr1=>cond (r1.2==0) ((E.Ox (a3,false)).T λr3=>cond r3 (k (.inl 2)) (cond (r1.2 != 0) (k (.inl r1.2)) ((E.c127 (r1.1,1)).T λr4=>cond (!r4.2) (k (.inl 8)) ((E.EG (r4.1,(Sum.inl (⟨r1.1,()⟩:(dF 129 (Pt aH) Unit))))).T λr5=>aV (room r5.1.len 56) ((E.c127 (r1.1,2)).T λr6=>cond (!r6.2) (k (.inl 8)) ((E.EG (r6.1,(Sum.inl (⟨r1.1,()⟩:(dF 129 (Pt aH) Unit))))).T λr7=>aV (room (r5.1.len+r7.1.len) 56) ((E.EG ((⟨(r5.1.len+r7.1.len),(lm r5.1.len r5.1.get r7.1.get)⟩:(Sl af)),(Sum.inr (⟨(),(⟨(⟨(⟨r1.1,(⟨(r5.1.len+r7.1.len),(lm r5.1.len r5.1.get r7.1.get)⟩:(Sl af)),(⟨0,(λ_=>(⟨0,(⟨0,(λ_=>0)⟩:(Sl Int)),(⟨0,(λ_=>0)⟩:(Sl Int))⟩:af))⟩:(Sl af))⟩:found)⟩:(Pt found))⟩:(Pt (Pt found)))⟩:(dF 130 Unit (Pt (Pt found))))))).T λr8=>zbJ E r1.1 (⟨(r5.1.len+r7.1.len),(lm r5.1.len r5.1.get r7.1.get)⟩:(Sl af)) r8.1 k))))))) (cond (r1.2 != 0) (k (.inl r1.2)) ((E.c127 (r1.1,1)).T λr9=>cond (!r9.2) (k (.inl 8)) ((E.EG (r9.1,(Sum.inl (⟨r1.1,()⟩:(dF 129 (Pt aH) Unit))))).T λr10=>aV (room r10.1.len 56) ((E.c127 (r1.1,2)).T λr11=>cond (!r11.2) (k (.inl 8)) ((E.EG (r11.1,(Sum.inl (⟨r1.1,()⟩:(dF 129 (Pt aH) Unit))))).T λr12=>aV (room (r10.1.len+r12.1.len) 56) ((E.EG ((⟨(r10.1.len+r12.1.len),(lm r10.1.len r10.1.get r12.1.get)⟩:(Sl af)),(Sum.inr (⟨(),(⟨(⟨(⟨r1.1,(⟨(r10.1.len+r12.1.len),(lm r10.1.len r10.1.get r12.1.get)⟩:(Sl af)),(⟨0,(λ_=>(⟨0,(⟨0,(λ_=>0)⟩:(Sl Int)),(⟨0,(λ_=>0)⟩:(Sl Int))⟩:af))⟩:(Sl af))⟩:found)⟩:(Pt found))⟩:(Pt (Pt found)))⟩:(dF 130 Unit (Pt (Pt found))))))).T λr13=>zbJ E r1.1 (⟨(r10.1.len+r12.1.len),(lm r10.1.len r10.1.get r12.1.get)⟩:(Sl af)) r13.1 k))))))):=zsz.trans krY
theorem zD5(yD:Pt aH)(w57 w67:Sl af):zbJ E yD w57 w67 k=aV (soP (ae.un E.TK) [] true w67) (k (.inr ((⟨(⟨yD,w57,(⟨w67.len,(soG (ae.un E.TK) [] true w67)⟩:(Sl af))⟩:found)⟩:(Pt found)),0))):=krY
end
theorem o72 [aG](E:E72)(P6:Ok aJ 78 (ae.unA E.Yb))(VS:Ok aJ 126 (ae.un E.Ox))(XY:Ok aJ 127 (ae.un E.c127))(zNx:jh aJ 128 (.mkv 43 3 56 (ae.unV E.EG)))(zNy:jh aJ 133 (.sort 43 3 56))(zNz : @Ok ⟨1⟩ aJ 134 (ae.un E.TK)):Ok aJ 72 (ae.unA (F72 E)):=zhF (sU (((((((aB.nil.addN).addO zNx).addO zNy).addC zNz).addF P6).addF VS).addF XY) (dC krY))
structure E92 where
 N:Nat
 c152:(Sl Int)×Int->ae Int
abbrev G92(E:E92):bM:=jc (Tabs.nil.addF 152 (ae.un E.c152)) []
def A92:dI:=bZ aJ 92 [] {}
def F92(E:E92):af×af->ae Bool:=ae.ty (aF aJ E.N (G92 E) A92 92)
section
variable(E:E92){A:Type}(k:Bool->Option A)
def zbK(E:E92)(n:Nat)(a0 a1:af)(v11:Int){A:Type}(k:Bool->Option A):Option A:=kC aJ (G92 E) E.N A92 92 [1,0,1,0] [.n n] (kz k) ⟨[(2,.cl (.ptr 2 0)),(3,.cl (.ptr 3 0)),(9,eP a1.Hits),(10,.int (a1.Hits.len:Int)),(11,.int v11)],[(2,eB 43 a0),(3,eB 43 a1)],[]⟩
theorem e92(a0 a1:af):(F92 E (a0,a1)).T k=zbK E E.N a0 a1 0 k:=eX
theorem zs6(n0:Nat)(a0 a1:af)(v11:Int):zbK E (n0+1) a0 a1 v11 k=cond (decide (v11<(a1.Hits.len:Int))) (aV (decide (0<=v11/\v11<(a1.Hits.len:Int))) ((E.c152 (a0.Hits,a1.Hits.get v11.toNat)).T λr1=>cond (decide (r1<0)) (k false) (aV (decide (0<=r1/\r1<(a0.aX.len:Int))) (aV (decide (0<=v11/\v11<(a1.aX.len:Int))) (cond (a0.aX.get r1.toNat != a1.aX.get v11.toNat) (k false) (zbK E n0 a0 a1 (aQ (v11+1)) k)))))) (k (a0.View==a1.View)):=krY
end
theorem o92 [aG](E:E92)(zwx:Ok aJ 152 (ae.un E.c152)):Ok aJ 92 (ae.un (F92 E)):=eY (aB.nil.addF zwx)
structure E93 where
 N:Nat
 c50:au×(Sl bu)->ae (bC×Int)
abbrev G93(E:E93):bM:=jc (Tabs.nil.addF 50 (ae.un E.c50)) []
def A93:dI:=bZ aJ 93 [] {ks:=[(1,3,⟨[],[(6,27,92)],[],[],[],[],[]⟩)]}
def F93(E:E93):(Pt aH)×af->ae (bC×Bool):=ae.ty (aF aJ E.N (G93 E) A93 93)
section
variable(E:E93){A:Type}(k:(bC×Bool)->Option A)
def zbL(E:E93)(n:Nat)(a0:Pt aH)(a1:af)(kw:Int)(w27:Sl bu){A:Type}(k:(bC×Bool)->Option A):Option A:=kC aJ (G93 E) E.N A93 93 [1,1,0,1,0] [.n n] (kz k) ⟨[(0,eP a0),(4,.cl (.ptr 4 0)),(6,.cl (.vec 27)),(12,eP a1.Hits),(13,.int (a1.Hits.len:Int)),(14,.int kw)],[(4,.box 105 [.p (.int .i64 0),.p (.int .i64 0)]),(27,eV 92 6 48 w27)],[]⟩
theorem e93(a0:Pt aH)(a1:af):(F93 E (a0,a1)).T k=zbL E E.N a0 a1 0 (⟨0,(λ_=>(⟨0,0,0,0,0,0⟩:bu))⟩:(Sl bu)) k:=eX
theorem zs8(n0:Nat)(a0:Pt aH)(a1:af)(kw:Int)(w27:Sl bu):zbL E (n0+1) a0 a1 kw w27 k=cond (decide (kw<(a1.Hits.len:Int))) (aV (decide (0<=kw/\kw<(a1.Hits.len:Int))) (aV (decide (0<=a1.Hits.get kw.toNat/\a1.Hits.get kw.toNat<(a0.v.hits.len:Int))) (aV (room (w27.len+1) 48) (zbL E n0 a0 a1 (aQ (kw+1)) (⟨(w27.len+1),(lm w27.len w27.get (λ_=>(a0.v.hits.get (a1.Hits.get kw.toNat).toNat)))⟩:(Sl bu)) k)))) ((E.c50 (a0.v.au,w27)).T λr1=>k (r1.1,(r1.2==0))):=krY
end
theorem o93 [aG](E:E93)(h50:Ok aJ 50 (ae.un E.c50)):Ok aJ 93 (ae.un (F93 E)):=eY (aB.nil.addF h50)
structure zh where
 N:Nat
 zrr:af×(Pt af)->ae Bool
abbrev zbM(E:zh):bM:=jc (Tabs.nil.addF 132 (ae.un E.zrr)) []
def zbN:dI:=bZ aJ 97 [] {}
def Jl(E:zh):(Sl af)×(dF 132 Unit (Pt af))->ae Int:=ae.ty (aF aJ E.N (zbM E) zbN 97)
section
variable(E:zh){A:Type}(k:Int->Option A)
def zi(E:zh)(n:Nat)(a0:Sl af)(a1:(dF 132 Unit (Pt af)))(v8:Int){A:Type}(k:Int->Option A):Option A:=kC aJ (zbM E) E.N zbN 97 [1,0,1,0] [.n n] (kz k) ⟨[(0,eP a0),(1,eP a1),(7,.int (a0.len:Int)),(8,.int v8)],[],[]⟩
theorem zoq(a0:Sl af)(a1:(dF 132 Unit (Pt af))):(Jl E (a0,a1)).T k=zi E E.N a0 a1 0 k:=eX
theorem P8(n0:Nat)(a0:Sl af)(a1:(dF 132 Unit (Pt af)))(v8:Int):zi E (n0+1) a0 a1 v8 k=cond (decide (v8<(a0.len:Int))) (aV (decide (0<=v8/\v8<(a0.len:Int))) ((E.zrr ((a0.get v8.toNat),a1.v)).T λr1=>cond r1 (k v8) (zi E n0 a0 a1 (aQ (v8+1)) k))) (k (-1)):=krY
end
theorem zor [aG](E:zh)(zwy:Ok aJ 132 (ae.un E.zrr)):Ok aJ 97 (ae.un (Jl E)):=eY (aB.nil.addF zwy)
structure F6 where
 N:Nat
 c98:af×(Pt Int)->ae Bool
abbrev zin(E:F6):bM:=jc (Tabs.nil.addF 98 (ae.un E.c98)) []
def zio:dI:=bZ aJ 97 [] {}
def RQ(E:F6):(Sl af)×(dF 98 Unit (Pt Int))->ae Int:=ae.ty (aF aJ E.N (zin E) zio 97)
section
variable(E:F6){A:Type}(k:Int->Option A)
def Dq(E:F6)(n:Nat)(a0:Sl af)(a1:(dF 98 Unit (Pt Int)))(v8:Int){A:Type}(k:Int->Option A):Option A:=kC aJ (zin E) E.N zio 97 [1,0,1,0] [.n n] (kz k) ⟨[(0,eP a0),(1,eP a1),(7,.int (a0.len:Int)),(8,.int v8)],[],[]⟩
theorem zwz(a0:Sl af)(a1:(dF 98 Unit (Pt Int))):(RQ E (a0,a1)).T k=Dq E E.N a0 a1 0 k:=eX
theorem VT(n0:Nat)(a0:Sl af)(a1:(dF 98 Unit (Pt Int)))(v8:Int):Dq E (n0+1) a0 a1 v8 k=cond (decide (v8<(a0.len:Int))) (aV (decide (0<=v8/\v8<(a0.len:Int))) ((E.c98 ((a0.get v8.toNat),a1.v)).T λr1=>cond r1 (k v8) (Dq E n0 a0 a1 (aQ (v8+1)) k))) (k (-1)):=krY
end
theorem zwA [aG](E:F6)(h98:Ok aJ 98 (ae.un E.c98)):Ok aJ 97 (ae.un (RQ E)):=eY (aB.nil.addF h98)
structure E99 where
 N:Nat
abbrev G99(E:E99):bM:=jc Tabs.nil []
def A99:dI:=bZ aJ 99 [] {}
def F99(E:E99):af->ae Int:=ae.ty (aF aJ E.N (G99 E) A99 99)
section
variable(E:E99){A:Type}(k:Int->Option A)
def zbO(E:E99)(n:Nat)(a0:af)(v3 v9:Int){A:Type}(k:Int->Option A):Option A:=kC aJ (G99 E) E.N A99 99 [1,1,0,1,0] [.n n] (kz k) ⟨[(3,.int v3),(7,eP a0.Hits),(8,.int (a0.Hits.len:Int)),(9,.int v9)],[],[]⟩
theorem e99(a0:af):(F99 E (a0)).T k=zbO E E.N a0 0 0 k:=eX
theorem zs9(n0:Nat)(a0:af)(v3 v9:Int):zbO E (n0+1) a0 v3 v9 k=cond (decide (v9<(a0.Hits.len:Int))) (aV (decide (0<=v9/\v9<(a0.Hits.len:Int))) (aV (decide (0<=a0.Hits.get v9.toNat)) (zbO E n0 a0 (orW .i64 v3 (Qw .i64 1 (a0.Hits.get v9.toNat))) (aQ (v9+1)) k))) (k v3):=krY
end
theorem o99 [aG](E:E99):Ok aJ 99 (ae.un (F99 E)):=eY aB.nil
structure zdY where
 N:Nat
 c156:aC->ae Bool
 c157:Int×Int×Int->ae Bool
abbrev zD6(E:zdY):bM:=jc ((Tabs.nil.addF 156 (ae.un E.c156)).addF 157 (ae.un E.c157)) []
def zD7:dI:=bZ aJ 109 [] {}
def zos(E:zdY):(Sl aC)->ae Bool:=ae.ty (aF aJ E.N (zD6 E) zD7 109)
section
variable(E:zdY){A:Type}(k:Bool->Option A)
def RU(E:zdY)(n:Nat)(a0:Sl aC)(v7:Int){A:Type}(k:Bool->Option A):Option A:=kC aJ (zD6 E) E.N zD7 109 [1,0,1,0] [.n n] (kz k) ⟨[(0,eP a0),(5,eP a0),(6,.int (a0.len:Int)),(7,.int v7)],[],[]⟩
theorem e109(a0:Sl aC):(zos E (a0)).T k=RU E E.N a0 0 k:=eX
theorem ziq(n0:Nat)(a0:Sl aC)(v7:Int):RU E (n0+1) a0 v7 k=cond (decide (v7<(a0.len:Int))) (aV (decide (0<=v7/\v7<(a0.len:Int))) ((E.c156 (a0.get v7.toNat)).T λr1=>cond (!r1) (k false) (RU E n0 a0 (aQ (v7+1)) k))) ((E.c157 ((a0.len:Int),1,24)).T λr2=>k r2):=krY
end
theorem zNB [aG](E:zdY)(zwB:Ok aJ 156 (ae.un E.c156))(Bd:Ok aJ 157 (ae.un E.c157)):Ok aJ 109 (ae.un (zos E)):=eY ((aB.nil.addF zwB).addF Bd)
structure zdZ where
 N:Nat
 c160:au->ae Bool
 tH:au×bu->ae (placed×Bool)
abbrev zD8(E:zdZ):bM:=jc ((Tabs.nil.addF 160 (ae.un E.c160)).addF 112 (ae.un E.tH)) []
def zD9:dI:=bZ aJ 111 [] {}
def zot(E:zdZ):au×(Sl bu)->ae Int:=ae.ty (aF aJ E.N (zD8 E) zD9 111)
section
variable(E:zdZ){A:Type}(k:Int->Option A)
def RV(E:zdZ)(n:Nat)(a0:au)(a1:Sl bu)(v17:Int){A:Type}(k:Int->Option A):Option A:=kC aJ (zD8 E) E.N zD9 111 [1,1,1,0,1,0] [.n n] (kz k) ⟨[(2,.cl (.ptr 2 0)),(15,eP a1),(16,.int (a1.len:Int)),(17,.int v17)],[(2,eB 24 a0)],[]⟩
theorem zNC(a0:au)(a1:Sl bu):(zot E (a0,a1)).T k=cond (decide ((a1.len:Int)>2000)) (k 3) ((E.c160 a0).T λr1=>cond (!r1) (k 2) (RV E E.N a0 a1 0 k)):=eX
theorem zir(n0:Nat)(a0:au)(a1:Sl bu)(v17:Int):RV E (n0+1) a0 a1 v17 k=cond (decide (v17<(a1.len:Int))) (aV (decide (0<=v17/\v17<(a1.len:Int))) ((E.tH (a0,(a1.get v17.toNat))).T λr1=>cond (!r1.2) (k 2) (RV E n0 a0 a1 (aQ (v17+1)) k))) (k 0):=krY
end
theorem o111 [aG](E:zdZ)(AZ:Ok aJ 160 (ae.un E.c160))(zL:Ok aJ 112 (ae.un E.tH)):Ok aJ 111 (ae.un (zot E)):=eY ((aB.nil.addF AZ).addF zL)
structure zou where
 N:Nat
def zov(E:zou):placed×bu->ae bC:=jS E.N Tabs.nil 113
theorem zND(E:zou){A:Type}(k:bC→Option A)(a0:placed)(a1:bu):(zov E (a0,a1)).T k=cond (a0.aj.Kind==3) (k a0.aj.Clock) (k (⟨(aQ ((aQ (a1.Time-a0.aj.Clock.High))-a0.aj.dX)),(aQ ((aQ (a1.Time-a0.aj.Clock.Low))+a0.aj.dX))⟩:bC)):=eX
theorem zNE [aG](E:zou):Ok aJ 113 (ae.un (zov E)):=eY aB.nil
structure zow where
 N:Nat
 c157:Int×Int×Int->ae Bool
 c117:(Sl aC)×((dF 118 Unit Unit) ⊕ (dF 162 Unit (Pt Int)))->ae (set×Int)
 zfb:set×Int->ae (aP×aP)
def zox(E:zow):(Sl aC)×Int->ae (aP×aP×Int):=jS E.N (((Tabs.nil.addF 157 (ae.un E.c157)).addF 117 (ae.un E.c117)).addF 163 (ae.un E.zfb)) 114
theorem zNF(E:zow){A:Type}(k:(aP×aP×Int)→Option A)(a0:Sl aC)(a1:Int):(zox E (a0,a1)).T k=(E.c157 (a1,(-100000),200000)).T λr1=>cond (!r1) (k ((⟨0,0⟩:aP),(⟨0,0⟩:aP),2)) ((E.c117 (a0,(Sum.inr (⟨(),(⟨a1⟩:(Pt Int))⟩:(dF 162 Unit (Pt Int)))))).T λr2=>cond (r2.2 != 0) (k ((⟨0,0⟩:aP),(⟨0,0⟩:aP),r2.2)) ((E.zfb (r2.1,a1)).T λr3=>k (r3.1,r3.2,0))):=eX
theorem zNG [aG](E:zow)(Bd:Ok aJ 157 (ae.un E.c157))(Zt:Ok aJ 117 (ae.un E.c117))(zwC:Ok aJ 163 (ae.un E.zfb)):Ok aJ 114 (ae.un (zox E)):=eY (((aB.nil.addF Bd).addF Zt).addF zwC)
structure Zu where
 N:Nat
 c160:au->ae Bool
 gJ:Int×Int×Int->ae Bool
 c164:bC×Int->ae Bool
 zff:(Pt placed)->ae (List (Int×bC))
abbrev zwD(E:Zu):bM:=jc (((((Tabs.nil.addF 160 (ae.un E.c160)).addF 161 (ae.un E.gJ)).addF 164 (ae.un E.c164)).addF 165 (aF aJ E.N (jc Tabs.nil []) (bZ aJ 165 [] {}) 165)).addI 204 (ae.unI E.zff)) []
def zwE:dI:=bZ aJ 115 [] {cut:=[10]}
def zoy(E:Zu):au×Int×bC->ae (Bool×Bool×Int):=ae.ty (aF aJ E.N (zwD E) zwE 115)
section
variable(E:Zu){A:Type}(k:(Bool×Bool×Int)->Option A)
def tq(E:Zu)(l:List (Int×bC))(a0:au)(a1 fA oH:Int)(rP:Bool)(oI:Int){A:Type}(k:(Bool×Bool×Int)->Option A):Option A:=kC aJ (zwD E) E.N zwE 115 [1,1,1,1,1,1,0,1,0] [.y (l.map dm.enc)] (kz k) ⟨[(9,.cl (.ptr 9 0)),(10,.cl (.ptr 10 0)),(11,.cl (.ptr 11 0)),(12,.cl (.ptr 12 0)),(13,.cl (.ptr 13 0)),(56,.p (.fn 204 [] [.fp [.int .i64 (a0.ak.get a1.toNat).Kind,.int .i64 (a0.ak.get a1.toNat).View,.int .i64 (a0.ak.get a1.toNat).Z,.int .i64 (a0.ak.get a1.toNat).First,.int .i64 (a0.ak.get a1.toNat).aT,.int .i64 (a0.ak.get a1.toNat).bW,.int .i64 (a0.ak.get a1.toNat).dZ,.int .i64 (a0.ak.get a1.toNat).bH.Low,.int .i64 (a0.ak.get a1.toNat).bH.High,.int .i64 (a0.ak.get a1.toNat).Clock.Low,.int .i64 (a0.ak.get a1.toNat).Clock.High,.int .i64 (a0.ak.get a1.toNat).dX,.int .i64 (a0.ak.get a1.toNat).Least,.sl (a0.ak.get a1.toNat).aW.len 3 (λi=>bn.enc ((a0.ak.get a1.toNat).aW.get i)),.sl (a0.ak.get a1.toNat).Dead.len 1 (λi=>bn.enc ((a0.ak.get a1.toNat).Dead.get i)),.int .i64 a1] 0]))],[(9,.box 185 [.p (.int .i64 (a0.ak.get a1.toNat).Kind),.p (.int .i64 (a0.ak.get a1.toNat).View),.p (.int .i64 (a0.ak.get a1.toNat).Z),.p (.int .i64 (a0.ak.get a1.toNat).First),.p (.int .i64 (a0.ak.get a1.toNat).aT),.p (.int .i64 (a0.ak.get a1.toNat).bW),.p (.int .i64 (a0.ak.get a1.toNat).dZ),.p (.int .i64 (a0.ak.get a1.toNat).bH.Low),.p (.int .i64 (a0.ak.get a1.toNat).bH.High),.p (.int .i64 (a0.ak.get a1.toNat).Clock.Low),.p (.int .i64 (a0.ak.get a1.toNat).Clock.High),.p (.int .i64 (a0.ak.get a1.toNat).dX),.p (.int .i64 (a0.ak.get a1.toNat).Least),.p (.sl (a0.ak.get a1.toNat).aW.len 3 (λi=>bn.enc ((a0.ak.get a1.toNat).aW.get i))),.p (.sl (a0.ak.get a1.toNat).Dead.len 1 (λi=>bn.enc ((a0.ak.get a1.toNat).Dead.get i))),.p (.int .i64 a1)]),(10,eB 3 fA),(11,eB 3 oH),(12,eB 4 rP),(13,eB 3 oI)],[]⟩
def L9(E:Zu)(l0:List (Int×bC))(a0:au)(a1 fA oH:Int)(rP:Bool)(oI:Int)(x15:bC){A:Type}(k:(Bool×Bool×Int)->Option A):Option A:=kC aJ (zwD E) E.N zwE 115 [1,1,1,1,1,1,0,1,0,0,0,1] [.y (l0.map dm.enc)] (kz k) ⟨[(9,.cl (.ptr 9 0)),(10,.cl (.ptr 10 0)),(11,.cl (.ptr 11 0)),(12,.cl (.ptr 12 0)),(13,.cl (.ptr 13 0)),(15,.cl (.ptr 15 0)),(56,.p (.fn 204 [] [.fp [.int .i64 (a0.ak.get a1.toNat).Kind,.int .i64 (a0.ak.get a1.toNat).View,.int .i64 (a0.ak.get a1.toNat).Z,.int .i64 (a0.ak.get a1.toNat).First,.int .i64 (a0.ak.get a1.toNat).aT,.int .i64 (a0.ak.get a1.toNat).bW,.int .i64 (a0.ak.get a1.toNat).dZ,.int .i64 (a0.ak.get a1.toNat).bH.Low,.int .i64 (a0.ak.get a1.toNat).bH.High,.int .i64 (a0.ak.get a1.toNat).Clock.Low,.int .i64 (a0.ak.get a1.toNat).Clock.High,.int .i64 (a0.ak.get a1.toNat).dX,.int .i64 (a0.ak.get a1.toNat).Least,.sl (a0.ak.get a1.toNat).aW.len 3 (λi=>bn.enc ((a0.ak.get a1.toNat).aW.get i)),.sl (a0.ak.get a1.toNat).Dead.len 1 (λi=>bn.enc ((a0.ak.get a1.toNat).Dead.get i)),.int .i64 a1] 0]))],[(9,.box 185 [.p (.int .i64 (a0.ak.get a1.toNat).Kind),.p (.int .i64 (a0.ak.get a1.toNat).View),.p (.int .i64 (a0.ak.get a1.toNat).Z),.p (.int .i64 (a0.ak.get a1.toNat).First),.p (.int .i64 (a0.ak.get a1.toNat).aT),.p (.int .i64 (a0.ak.get a1.toNat).bW),.p (.int .i64 (a0.ak.get a1.toNat).dZ),.p (.int .i64 (a0.ak.get a1.toNat).bH.Low),.p (.int .i64 (a0.ak.get a1.toNat).bH.High),.p (.int .i64 (a0.ak.get a1.toNat).Clock.Low),.p (.int .i64 (a0.ak.get a1.toNat).Clock.High),.p (.int .i64 (a0.ak.get a1.toNat).dX),.p (.int .i64 (a0.ak.get a1.toNat).Least),.p (.sl (a0.ak.get a1.toNat).aW.len 3 (λi=>bn.enc ((a0.ak.get a1.toNat).aW.get i))),.p (.sl (a0.ak.get a1.toNat).Dead.len 1 (λi=>bn.enc ((a0.ak.get a1.toNat).Dead.get i))),.p (.int .i64 a1)]),(10,eB 3 fA),(11,eB 3 oH),(12,eB 4 rP),(13,eB 3 oI),(15,eB 105 x15)],[]⟩
theorem e115(a0:au)(a1:Int)(a2:bC):(zoy E (a0,a1,a2)).T k=(E.c160 a0).T λr1=>cond (!r1) (k (false,false,2)) ((E.gJ (a1,0,(aQ ((a0.ak.len:Int)-1)))).T λr2=>cond (!r2) (k (false,false,2)) ((E.c164 (a2,1000000)).T λr3=>cond (!r3) (k (false,false,2)) (aV (decide (0<=a1/\a1<(a0.ak.len:Int))) ((E.zff (⟨(⟨(a0.ak.get a1.toNat),a1⟩:placed)⟩:(Pt placed))).T λr4=>tq E r4 a0 a1 (aQ (a2.Low-(a0.ak.get a1.toNat).bH.High)) (aQ (a2.High-(a0.ak.get a1.toNat).bH.Low)) false (aQ (a2.Low-(a0.ak.get a1.toNat).bH.High)) k)))):=eX
theorem zoz(a0:au)(a1 fA oH:Int)(rP:Bool)(oI:Int):tq E [] a0 a1 fA oH rP oI k=k (decide (oI>oH),rP,0):=krY
theorem Zv(y:Int×bC)(l0:List (Int×bC))(a0:au)(a1 fA oH:Int)(rP:Bool)(oI:Int):tq E (y::l0) a0 a1 fA oH rP oI k=cond rP (L9 E l0 a0 a1 fA oH true oI y.2 k) (cond (decide ((aQ (y.2.Low-(a0.ak.get a1.toNat).dZ))<=oH)) (L9 E l0 a0 a1 fA oH (decide ((aQ (y.2.High+(a0.ak.get a1.toNat).dZ))>=fA)) oI y.2 k) (L9 E l0 a0 a1 fA oH false oI y.2 k)):=krY
theorem zwF(l0:List (Int×bC))(a0:au)(a1 fA oH:Int)(rP:Bool)(oI:Int)(x15:bC):L9 E l0 a0 a1 fA oH rP oI x15 k=cond (decide (x15.Low<=oI)) (cond (decide (oI<=x15.High)) (tq E l0 a0 a1 fA oH rP (aQ (x15.High+1)) k) (tq E l0 a0 a1 fA oH rP oI k)) (tq E l0 a0 a1 fA oH rP oI k):=krY
end
theorem zNH [aG](E:Zu)(AZ:Ok aJ 160 (ae.un E.c160))(lG:Ok aJ 161 (ae.un E.gJ))(VP:Ok aJ 164 (ae.un E.c164))(zNI:xO aJ 204 (ae.unI E.zff)):Ok aJ 115 (ae.un (zoy E)):=eY (((((aB.nil.addF AZ).addF lG).addF VP).addF (sU aB.nil (dC krY))).addI zNI)
structure Dt where
 N:Nat
 c109:(Sl aC)->ae Bool
 Bz:(Sl aC)->ae set
 c159:set->ae Bool
 c167:list->ae Bool
 zrn:list->ae Bool
def Du(E:Dt):(Sl aC)×(dF 118 Unit Unit)->ae (set×Int):=jS E.N (((((Tabs.nil.addF 109 (ae.un E.c109)).addF 158 (ae.un E.Bz)).addF 159 (ae.un E.c159)).addF 167 (ae.un E.c167)).addF 118 (ae.un E.zrn)) 117
theorem zis(E:Dt){A:Type}(k:(set×Int)→Option A)(a0:Sl aC)(a1:(dF 118 Unit Unit)):(Du E (a0,a1)).T k=(E.c109 a0).T λr1=>cond (!r1) (k ((⟨(⟨(⟨0,λ_=>default⟩:(Sl aC))⟩:list),(⟨0,λ_=>default⟩:(Sl straight))⟩:set),2)) ((E.Bz a0).T λr2=>(E.c159 r2).T λr3=>cond (!r3) (k ((⟨(⟨(⟨0,λ_=>default⟩:(Sl aC))⟩:list),(⟨0,λ_=>default⟩:(Sl straight))⟩:set),5)) ((E.c167 r2.list).T λr4=>cond r4 ((E.zrn r2.list).T λr5=>cond (!r5) (k ((⟨(⟨(⟨0,λ_=>default⟩:(Sl aC))⟩:list),(⟨0,λ_=>default⟩:(Sl straight))⟩:set),6)) (k (r2,0))) (k (r2,0)))):=eX
theorem zit [aG](E:Dt)(Mc:Ok aJ 109 (ae.un E.c109))(Md:Ok aJ 158 (ae.un E.Bz))(Me:Ok aJ 159 (ae.un E.c159))(vZ:Ok aJ 167 (ae.un E.c167))(zwG:Ok aJ 118 (ae.un E.zrn)):Ok aJ 117 (ae.un (Du E)):=eY (((((aB.nil.addF Mc).addF Md).addF Me).addF vZ).addF zwG)
structure Dv where
 N:Nat
 c109:(Sl aC)->ae Bool
 Bz:(Sl aC)->ae set
 c159:set->ae Bool
 c167:list->ae Bool
 c162:list×(Pt Int)->ae Bool
def Dw(E:Dv):(Sl aC)×(dF 162 Unit (Pt Int))->ae (set×Int):=jS E.N (((((Tabs.nil.addF 109 (ae.un E.c109)).addF 158 (ae.un E.Bz)).addF 159 (ae.un E.c159)).addF 167 (ae.un E.c167)).addF 162 (ae.un E.c162)) 117
theorem ziu(E:Dv){A:Type}(k:(set×Int)→Option A)(a0:Sl aC)(a1:(dF 162 Unit (Pt Int))):(Dw E (a0,a1)).T k=(E.c109 a0).T λr1=>cond (!r1) (k ((⟨(⟨(⟨0,λ_=>default⟩:(Sl aC))⟩:list),(⟨0,λ_=>default⟩:(Sl straight))⟩:set),2)) ((E.Bz a0).T λr2=>(E.c159 r2).T λr3=>cond (!r3) (k ((⟨(⟨(⟨0,λ_=>default⟩:(Sl aC))⟩:list),(⟨0,λ_=>default⟩:(Sl straight))⟩:set),5)) ((E.c167 r2.list).T λr4=>cond r4 ((E.c162 (r2.list,a1.v)).T λr5=>cond (!r5) (k ((⟨(⟨(⟨0,λ_=>default⟩:(Sl aC))⟩:list),(⟨0,λ_=>default⟩:(Sl straight))⟩:set),6)) (k (r2,0))) (k (r2,0)))):=eX
theorem ziv [aG](E:Dv)(Mc:Ok aJ 109 (ae.un E.c109))(Md:Ok aJ 158 (ae.un E.Bz))(Me:Ok aJ 159 (ae.un E.c159))(vZ:Ok aJ 167 (ae.un E.c167))(zwH:Ok aJ 162 (ae.un E.c162)):Ok aJ 117 (ae.un (Dw E)):=eY (((((aB.nil.addF Mc).addF Md).addF Me).addF vZ).addF zwH)
structure zoA where
 N:Nat
def zoB(E:zoA):list->ae Bool:=jS E.N Tabs.nil 118
theorem e118(E:zoA){A:Type}(k:Bool→Option A)(a0:list):(zoB E (a0)).T k=k false:=eX
theorem zNJ [aG](E:zoA):Ok aJ 118 (ae.un (zoB E)):=eY aB.nil
structure uF where
 N:Nat
 zrC:straight×(Pt Int)->ae aP
 c168:(Sl aP)×((dF 169 Unit Unit) ⊕ (dF 171 Unit Unit))->ae aP
 ku:Int×Int->ae aP
abbrev VU(E:uF):bM:=jc (((Tabs.nil.addF 202 (ae.un E.zrC)).addF 168 (ae.un E.c168)).addF 172 (ae.un E.ku)) []
def VV:dI:=bZ aJ 119 [] {ks:=[(1,3,⟨[],[(6,23,85)],[],[],[],[],[]⟩)]}
def Dx(E:uF):set×(dF 202 Unit (Pt Int))->ae (aP×aP):=ae.ty (aF aJ E.N (VU E) VV 119)
section
variable(E:uF){A:Type}(k:(aP×aP)->Option A)
def wo(E:uF)(n:Nat)(a0:set)(a1:(dF 202 Unit (Pt Int)))(kw:Int)(RX:Sl aP){A:Type}(k:(aP×aP)->Option A):Option A:=kC aJ (VU E) E.N VV 119 [1,1,0,1,0] [.n n] (kz k) ⟨[(1,eP a1),(4,.cl (.ptr 4 0)),(5,.cl (.ptr 5 0)),(6,.cl (.vec 23)),(12,eP a0.bU),(13,.int (a0.bU.len:Int)),(14,.int kw)],[(4,.box 85 [.p (.int .i64 0),.p (.int .i64 0)]),(5,.box 85 [.p (.int .i64 0),.p (.int .i64 0)]),(23,eV 85 2 16 RX)],[]⟩
theorem ziw(a0:set)(a1:(dF 202 Unit (Pt Int))):(Dx E (a0,a1)).T k=wo E E.N a0 a1 0 (⟨0,(λ_=>(⟨0,0⟩:aP))⟩:(Sl aP)) k:=eX
theorem MC(n0:Nat)(a0:set)(a1:(dF 202 Unit (Pt Int)))(kw:Int)(RX:Sl aP):wo E (n0+1) a0 a1 kw RX k=cond (decide (kw<(a0.bU.len:Int))) (aV (decide (0<=kw/\kw<(a0.bU.len:Int))) ((E.zrC ((a0.bU.get kw.toNat),a1.v)).T λr1=>aV (room (RX.len+1) 16) (wo E n0 a0 a1 (aQ (kw+1)) (⟨(RX.len+1),(lm RX.len RX.get (fun _=>r1))⟩:(Sl aP)) k))) ((E.c168 (RX,(Sum.inl (⟨(),()⟩:(dF 169 Unit Unit))))).T λr2=>(E.c168 (RX,(Sum.inr (⟨(),()⟩:(dF 171 Unit Unit))))).T λr3=>(E.ku (r2.Num,r2.bV)).T λr4=>(E.ku (r3.Num,r3.bV)).T λr5=>k (r4,r5)):=krY
end
theorem zix [aG](E:uF)(zwI:Ok aJ 202 (ae.un E.zrC))(RY:Ok aJ 168 (ae.un E.c168))(qg:Ok aJ 172 (ae.un E.ku)):Ok aJ 119 (ae.un (Dx E)):=eY (((aB.nil.addF zwI).addF RY).addF qg)
structure uG where
 N:Nat
 zro:straight->ae aP
 c168:(Sl aP)×((dF 169 Unit Unit) ⊕ (dF 171 Unit Unit))->ae aP
 ku:Int×Int->ae aP
abbrev VW(E:uG):bM:=jc (((Tabs.nil.addF 120 (ae.un E.zro)).addF 168 (ae.un E.c168)).addF 172 (ae.un E.ku)) []
def VX:dI:=bZ aJ 119 [] {ks:=[(1,3,⟨[],[(6,23,85)],[],[],[],[],[]⟩)]}
def Dy(E:uG):set×(dF 120 Unit Unit)->ae (aP×aP):=ae.ty (aF aJ E.N (VW E) VX 119)
section
variable(E:uG){A:Type}(k:(aP×aP)->Option A)
def wu(E:uG)(n:Nat)(a0:set)(kw:Int)(RX:Sl aP){A:Type}(k:(aP×aP)->Option A):Option A:=kC aJ (VW E) E.N VX 119 [1,1,0,1,0] [.n n] (kz k) ⟨[(1,.p (.fn 120 [] [])),(4,.cl (.ptr 4 0)),(5,.cl (.ptr 5 0)),(6,.cl (.vec 23)),(12,eP a0.bU),(13,.int (a0.bU.len:Int)),(14,.int kw)],[(4,.box 85 [.p (.int .i64 0),.p (.int .i64 0)]),(5,.box 85 [.p (.int .i64 0),.p (.int .i64 0)]),(23,eV 85 2 16 RX)],[]⟩
theorem ziy(a0:set)(a1:(dF 120 Unit Unit)):(Dy E (a0,a1)).T k=wu E E.N a0 0 (⟨0,(λ_=>(⟨0,0⟩:aP))⟩:(Sl aP)) k:=eX
theorem MF(n0:Nat)(a0:set)(kw:Int)(RX:Sl aP):wu E (n0+1) a0 kw RX k=cond (decide (kw<(a0.bU.len:Int))) (aV (decide (0<=kw/\kw<(a0.bU.len:Int))) ((E.zro (a0.bU.get kw.toNat)).T λr1=>aV (room (RX.len+1) 16) (wu E n0 a0 (aQ (kw+1)) (⟨(RX.len+1),(lm RX.len RX.get (fun _=>r1))⟩:(Sl aP)) k))) ((E.c168 (RX,(Sum.inl (⟨(),()⟩:(dF 169 Unit Unit))))).T λr2=>(E.c168 (RX,(Sum.inr (⟨(),()⟩:(dF 171 Unit Unit))))).T λr3=>(E.ku (r2.Num,r2.bV)).T λr4=>(E.ku (r3.Num,r3.bV)).T λr5=>k (r4,r5)):=krY
end
theorem ziz [aG](E:uG)(zwJ:Ok aJ 120 (ae.un E.zro))(RY:Ok aJ 168 (ae.un E.c168))(qg:Ok aJ 172 (ae.un E.ku)):Ok aJ 119 (ae.un (Dy E)):=eY (((aB.nil.addF zwJ).addF RY).addF qg)
structure zoC where
 N:Nat
def zoD(E:zoC):straight->ae aP:=jS E.N Tabs.nil 120
theorem e120(E:zoC){A:Type}(k:aP→Option A)(a0:straight):(zoD E (a0)).T k=k (⟨a0.bg,a0.den⟩:aP):=eX
theorem zNK [aG](E:zoC):Ok aJ 120 (ae.un (zoD E)):=eY aB.nil
structure zoE where
 N:Nat
 zrv:(Sl Bool)×Bool->ae Int
def zoF(E:zoE):(Sl Bool)×Bool->ae Bool:=jS E.N (Tabs.nil.addF 176 (ae.un E.zrv)) 126
theorem e126(E:zoE){A:Type}(k:Bool→Option A)(a0:Sl Bool)(a1:Bool):(zoF E (a0,a1)).T k=(E.zrv (a0,a1)).T λr1=>k (decide (r1>=0)):=eX
theorem zNL [aG](E:zoE)(zwK:Ok aJ 176 (ae.un E.zrv)):Ok aJ 126 (ae.un (zoF E)):=eY (aB.nil.addF zwK)
structure ziA where
 N:Nat
 IM:af×Int×Bc 143 (Pt aH)×Bc 38 Int×Bw 30 43 3 56 af×Bs 255 178 2 4×Unit->ae ((Bool×Int)×(Unit×Unit×(Pt aH)×Int×Sl af×Unit×Unit))
abbrev zNM(E:ziA):bM:=jc (Tabs.nil.addM 178 (ae.unP 254 E.IM)) []
def zNN:dI:=bZ aJ 127 [] {ks:=[(0,3,⟨[],[],[(4,0,5000,43)],[],[],[],[]⟩)],pan:=[4]}
def zoG(E:ziA):(Pt aH)×Int->ae ((Sl af)×Bool):=ae.ty (aD aJ (zNM E) E.N zby 177 zNN 127)
theorem e127(E:ziA){A:Type}(k:((Sl af)×Bool)→Option A)(a0:Pt aH)(a1:Int):(zoG E (a0,a1)).T k=(E.IM ((⟨0,(⟨0,λ_=>default⟩:(Sl Int)),(⟨0,λ_=>default⟩:(Sl Int))⟩:af),0,(⟨a0⟩:Bc 143 (Pt aH)),(⟨a1⟩:Bc 38 Int),(⟨(⟨0,(λ_=>(⟨0,(⟨0,(λ_=>0)⟩:(Sl Int)),(⟨0,(λ_=>0)⟩:(Sl Int))⟩:af))⟩:(Sl af))⟩:Bw 30 43 3 56 af),({}:Bs 255 178 2 4),())).T λr1=>cond r1.1.1 (k ((⟨0,λ_=>default⟩:(Sl af)),false)) (k (r1.2.2.2.2.2.1,true)):=zDd.trans krY
theorem zNO [aG](E:ziA)(zwL:iM aJ 178 (ae.unP 254 E.IM)):Ok aJ 127 (ae.un (zoG E)):=zsw (zhT (aB.nil.addM zwL) (dC krY) zhV)
structure uH where
 N:Nat
 zrq:(Pt aH)×af->ae Bool
abbrev VY(E:uH):bM:=jc (Tabs.nil.addF 129 (ae.un E.zrq)) []
def VZ:dI:=bZ aJ 128 [] {ks:=[(1,3,⟨[],[(5,20,43)],[],[],[],[],[]⟩)]}
def Dz(E:uH):(Sl af)×(dF 129 (Pt aH) Unit)->ae (Sl af×Unit):=ae.tyV (aK aJ E.N (VY E) VZ 128 43 3 56)
section
variable(E:uH){A:Type}(k:(Sl af×Unit)->Option A)
def qP(E:uH)(n:Nat)(a0:Sl af)(a1:(dF 129 (Pt aH) Unit))(v10:Int)(EN:Sl af){A:Type}(k:(Sl af×Unit)->Option A):Option A:=ptG aJ (VY E) E.N VZ 128 [1,1,0,1,0] [.n n] (zvE 43 3 56) (zvD k) ⟨[(1,.p (.fn 129 [.fp [.sl a1.a.v.au.ak.len 15 (λi=>bn.enc (a1.a.v.au.ak.get i)),.sl a1.a.v.hits.len 6 (λi=>bn.enc (a1.a.v.hits.get i)),.sl a1.a.v.iT.len 1 (λi=>bn.enc (a1.a.v.iT.get i)),.int .i64 a1.a.v.rules.ve,.int .i64 a1.a.v.rules.xA] 0] [])),(5,.cl (.vec 20)),(8,eP a0),(9,.int (a0.len:Int)),(10,.int v10)],[(20,eV 43 3 56 EN)],[]⟩
theorem ziB(a0:Sl af)(a1:(dF 129 (Pt aH) Unit)):(Dz E (a0,a1)).T k=qP E E.N a0 a1 0 (⟨0,(λ_=>(⟨0,(⟨0,(λ_=>0)⟩:(Sl Int)),(⟨0,(λ_=>0)⟩:(Sl Int))⟩:af))⟩:(Sl af)) k:=zsB.trans krY
theorem MG(n0:Nat)(a0:Sl af)(a1:(dF 129 (Pt aH) Unit))(v10:Int)(EN:Sl af):qP E (n0+1) a0 a1 v10 EN k=cond (decide (v10<(a0.len:Int))) (aV (decide (0<=v10/\v10<(a0.len:Int))) ((E.zrq (a1.a,(a0.get v10.toNat))).T λr1=>cond r1 (aV (room (EN.len+1) 56) (qP E n0 a0 a1 (aQ (v10+1)) (⟨(EN.len+1),(lm EN.len EN.get (λ_=>(a0.get v10.toNat)))⟩:(Sl af)) k)) (qP E n0 a0 a1 (aQ (v10+1)) EN k))) (k (EN,())):=krY
end
theorem ziC [aG](E:uH)(zwM:Ok aJ 129 (ae.un E.zrq)):jh aJ 128 (.mkv 43 3 56 (ae.unV (Dz E))):=zhJ (Zd (aB.nil.addF zwM) (dC krY))
structure uI where
 N:Nat
 c130:af×(Pt (Pt found))->ae Bool
abbrev V3(E:uI):bM:=jc (Tabs.nil.addF 130 (ae.un E.c130)) []
def V4:dI:=bZ aJ 128 [] {ks:=[(1,3,⟨[],[(5,20,43)],[],[],[],[],[]⟩)]}
def DD(E:uI):(Sl af)×(dF 130 Unit (Pt (Pt found)))->ae (Sl af×Unit):=ae.tyV (aK aJ E.N (V3 E) V4 128 43 3 56)
section
variable(E:uI){A:Type}(k:(Sl af×Unit)->Option A)
def qQ(E:uI)(n:Nat)(a0:Sl af)(a1:(dF 130 Unit (Pt (Pt found))))(v10:Int)(EN:Sl af){A:Type}(k:(Sl af×Unit)->Option A):Option A:=ptG aJ (V3 E) E.N V4 128 [1,1,0,1,0] [.n n] (zvE 43 3 56) (zvD k) ⟨[(1,eP a1),(5,.cl (.vec 20)),(8,eP a0),(9,.int (a0.len:Int)),(10,.int v10)],[(20,eV 43 3 56 EN)],[]⟩
theorem ziD(a0:Sl af)(a1:(dF 130 Unit (Pt (Pt found)))):(DD E (a0,a1)).T k=qQ E E.N a0 a1 0 (⟨0,(λ_=>(⟨0,(⟨0,(λ_=>0)⟩:(Sl Int)),(⟨0,(λ_=>0)⟩:(Sl Int))⟩:af))⟩:(Sl af)) k:=zsB.trans krY
theorem MH(n0:Nat)(a0:Sl af)(a1:(dF 130 Unit (Pt (Pt found))))(v10:Int)(EN:Sl af):qQ E (n0+1) a0 a1 v10 EN k=cond (decide (v10<(a0.len:Int))) (aV (decide (0<=v10/\v10<(a0.len:Int))) ((E.c130 ((a0.get v10.toNat),a1.v)).T λr1=>cond r1 (aV (room (EN.len+1) 56) (qQ E n0 a0 a1 (aQ (v10+1)) (⟨(EN.len+1),(lm EN.len EN.get (λ_=>(a0.get v10.toNat)))⟩:(Sl af)) k)) (qQ E n0 a0 a1 (aQ (v10+1)) EN k))) (k (EN,())):=krY
end
theorem ziE [aG](E:uI)(zwN:Ok aJ 130 (ae.un E.c130)):jh aJ 128 (.mkv 43 3 56 (ae.unV (DD E))):=zhJ (Zd (aB.nil.addF zwN) (dC krY))
structure zoH where
 N:Nat
 c141:(Pt aH)×af->ae ((Sl Int))
def zoI(E:zoH):(Pt aH)×af->ae Bool:=jS E.N (Tabs.nil.addF 141 (ae.un E.c141)) 129
theorem e129(E:zoH){A:Type}(k:Bool→Option A)(a0:Pt aH)(a1:af):(zoI E (a0,a1)).T k=cond (decide ((a1.Hits.len:Int)>=a0.v.rules.ve)) ((E.c141 (a0,a1)).T λr1=>k (decide ((r1.len:Int)≤a0.v.rules.xA))) (k false):=eX
theorem zNP [aG](E:zoH)(Zw:Ok aJ 141 (ae.un E.c141)):Ok aJ 129 (ae.un (zoI E)):=eY (aB.nil.addF Zw)
structure zoJ where
 N:Nat
 c131:(Sl af)×(dF 132 Unit (Pt af))->ae Bool
def zoK(E:zoJ):af×(Pt (Pt found))->ae Bool:=jS E.N (Tabs.nil.addF 131 (ae.un E.c131)) 130
theorem zNQ(E:zoJ){A:Type}(k:Bool→Option A)(a0:af)(a1:(Pt (Pt found))):(zoK E (a0,a1)).T k=(E.c131 (a1.v.v.fits,(⟨(),(⟨a0⟩:(Pt af))⟩:(dF 132 Unit (Pt af))))).T λr1=>k (!r1):=eX
theorem zNR [aG](E:zoJ)(zwO:Ok aJ 131 (ae.un E.c131)):Ok aJ 130 (ae.un (zoK E)):=eY (aB.nil.addF zwO)
structure zoL where
 N:Nat
 c97:(Sl af)×((dF 132 Unit (Pt af)) ⊕ (dF 98 Unit (Pt Int)))->ae Int
def zoM(E:zoL):(Sl af)×(dF 132 Unit (Pt af))->ae Bool:=jS E.N (Tabs.nil.addF 97 (ae.un E.c97)) 131
theorem zNS(E:zoL){A:Type}(k:Bool→Option A)(a0:Sl af)(a1:(dF 132 Unit (Pt af))):(zoM E (a0,a1)).T k=(E.c97 (a0,(Sum.inl a1))).T λr1=>k (decide (r1>=0)):=eX
theorem zNT [aG](E:zoL)(h97:Ok aJ 97 (ae.un E.c97)):Ok aJ 131 (ae.un (zoM E)):=eY (aB.nil.addF h97)
structure zoN where
 N:Nat
 c92:af×af->ae Bool
def zoO(E:zoN):af×(Pt af)->ae Bool:=jS E.N (Tabs.nil.addF 92 (ae.un E.c92)) 132
theorem zNU(E:zoN){A:Type}(k:Bool→Option A)(a0:af)(a1:Pt af):(zoO E (a0,a1)).T k=cond (decide ((a0.Hits.len:Int)>(a1.v.Hits.len:Int))) ((E.c92 (a0,a1.v)).T λr1=>k r1) (k false):=eX
theorem zNV [aG](E:zoN)(h92:Ok aJ 92 (ae.un E.c92)):Ok aJ 132 (ae.un (zoO E)):=eY (aB.nil.addF h92)
structure zoP where
 N:Nat
 zry:Int×Int->ae Int
 zk9:(Sl Int)×(Sl Int)->ae Int
 zrx:(Sl Int)->ae Int
def zoQ(E:zoP):af×af->ae Int:=jS E.N (((Tabs.nil.addF 186 (ae.un E.zry)).addF 187 (ae.un E.zk9)).addF 185 (ae.un E.zrx)) 134
theorem zNW(E:zoP){A:Type}(k:Int→Option A)(a0 a1:af):(zoQ E (a0,a1)).T k=(E.zry (a0.View,a1.View)).T λr1=>(E.zk9 (a0.Hits,a1.Hits)).T λr2=>(E.zk9 (a0.aX,a1.aX)).T λr3=>(E.zrx (⟨3,(kW [r1,r2,r3])⟩:(Sl Int))).T λr4=>k r4:=eX
theorem zNX [aG](E:zoP)(zwP:Ok aJ 186 (ae.un E.zry))(zoR:Ok aJ 187 (ae.un E.zk9))(zwQ:Ok aJ 185 (ae.un E.zrx)):Ok aJ 134 (ae.un (zoQ E)):=eY (((aB.nil.addF zwP).addF zoR).addF zwQ)
structure zd1 where
 N:Nat
 c105:(Pt aH)×af->ae ((Sl aC))
 NI:(Sl Int)×((dF 180 Unit ((Pt (Pt aH))×(Pt Int))) ⊕ (dF 190 Unit ((Pt (Pt aH))×(Pt Int))))->ae Bool
 zk6:(Sl aC)×Int->ae (aP×aP×Int)
 Oy:aP->ae Int
 zrA:aP->ae Int
 zk7:au×Int×bC->ae (Bool×Bool×Int)
abbrev zEa(E:zd1):bM:=jc (((((((Tabs.nil.addN [190]).addF 105 (ae.un E.c105)).addF 179 (ae.un E.NI)).addF 114 (ae.un E.zk6)).addF 191 (ae.un E.Oy)).addF 192 (ae.un E.zrA)).addF 115 (ae.un E.zk7)) []
def zEb:dI:=bZ aJ 141 [] {ks:=[(1,4,⟨[],[(5,83,3)],[],[],[],[],[]⟩)],clo:=[190]}
def zoS(E:zd1):(Pt aH)×af->ae ((Sl Int)):=ae.ty (aF aJ E.N (zEa E) zEb 141)
section
variable(E:zd1){A:Type}(k:(Sl Int)->Option A)
def mO(E:zd1)(n:Nat)(a0:Pt aH)(a1:af)(v6:Sl aC)(v26:Int)(Zx:Sl Int){A:Type}(k:(Sl Int)->Option A):Option A:=kC aJ (zEa E) E.N zEb 141 [1,1,1,0,1,0] [.n n] (kz k) ⟨[(2,.cl (.ptr 2 0)),(3,.cl (.ptr 3 0)),(5,.cl (.vec 83)),(6,eP v6),(24,eP a0.v.au.ak),(25,.int (a0.v.au.ak.len:Int)),(26,.int v26)],[(2,eB 143 a0),(3,eB 43 a1),(83,eV 3 1 8 Zx)],[]⟩
theorem zNY(a0:Pt aH)(a1:af):(zoS E (a0,a1)).T k=(E.c105 (a0,a1)).T λr1=>mO E E.N a0 a1 r1 0 (⟨0,(λ_=>0)⟩:(Sl Int)) k:=eX
theorem ziF(n0:Nat)(a0:Pt aH)(a1:af)(v6:Sl aC)(v26:Int)(Zx:Sl Int):mO E (n0+1) a0 a1 v6 v26 Zx k=cond (decide (v26<(a0.v.au.ak.len:Int))) (aV (decide (0<=v26/\v26<(a0.v.au.ak.len:Int))) (cond ((a0.v.au.ak.get v26.toNat).View != a1.View) (mO E n0 a0 a1 v6 (aQ (v26+1)) Zx k) ((E.NI (a1.Hits,(Sum.inr (⟨(),((⟨a0⟩:(Pt (Pt aH))),(⟨v26⟩:(Pt Int)))⟩:(dF 190 Unit ((Pt (Pt aH))×(Pt Int))))))).T λr1=>cond r1 (mO E n0 a0 a1 v6 (aQ (v26+1)) Zx k) ((E.zk6 (v6,(a0.v.au.ak.get v26.toNat).Z)).T λr2=>cond (r2.2.2 != 0) (mO E n0 a0 a1 v6 (aQ (v26+1)) Zx k) ((E.Oy r2.1).T λr3=>(E.zrA r2.2.1).T λr4=>cond (decide (r3<(-1000000))) (mO E n0 a0 a1 v6 (aQ (v26+1)) Zx k) (cond (decide (r4>1000000)) (mO E n0 a0 a1 v6 (aQ (v26+1)) Zx k) ((E.zk7 (a0.v.au,v26,(⟨r3,r4⟩:bC))).T λr5=>cond (r5.2.2==0) (cond r5.1 (aV (room (Zx.len+1) 8) (mO E n0 a0 a1 v6 (aQ (v26+1)) (⟨(Zx.len+1),(lm Zx.len Zx.get (λ_=>v26))⟩:(Sl Int)) k)) (mO E n0 a0 a1 v6 (aQ (v26+1)) Zx k)) (mO E n0 a0 a1 v6 (aQ (v26+1)) Zx k)))))))) (k Zx):=krY
end
theorem zNZ [aG](E:zd1)(MI:Ok aJ 105 (ae.un E.c105))(Zy:Ok aJ 179 (ae.un E.NI))(zwR:Ok aJ 114 (ae.un E.zk6))(Zz:Ok aJ 191 (ae.un E.Oy))(zwS:Ok aJ 192 (ae.un E.zrA))(zwT:Ok aJ 115 (ae.un E.zk7)):Ok aJ 141 (ae.un (zoS E)):=eY (((((((aB.nil.addN).addF MI).addF Zy).addF zwR).addF Zz).addF zwS).addF zwT)
structure zd2 where
 N:Nat
abbrev zEc(E:zd2):bM:=jc Tabs.nil []
def zEd:dI:=bZ aJ 152 [] {}
def zoT(E:zd2):(Sl Int)×Int->ae Int:=ae.ty (aF aJ E.N (zEc E) zEd 152)
section
variable(E:zd2){A:Type}(k:Int->Option A)
def RZ(E:zd2)(n:Nat)(a0:Sl Int)(a1 v8:Int){A:Type}(k:Int->Option A):Option A:=kC aJ (zEc E) E.N zEd 152 [1,0,1,0] [.n n] (kz k) ⟨[(0,eP a0),(1,.int a1),(7,.int (a0.len:Int)),(8,.int v8)],[],[]⟩
theorem e152(a0:Sl Int)(a1:Int):(zoT E (a0,a1)).T k=RZ E E.N a0 a1 0 k:=eX
theorem ziG(n0:Nat)(a0:Sl Int)(a1 v8:Int):RZ E (n0+1) a0 a1 v8 k=cond (decide (v8<(a0.len:Int))) (aV (decide (0<=v8/\v8<(a0.len:Int))) (cond (a1==a0.get v8.toNat) (k v8) (RZ E n0 a0 a1 (aQ (v8+1)) k))) (k (-1)):=krY
end
theorem zN0 [aG](E:zd2):Ok aJ 152 (ae.un (zoT E)):=eY aB.nil
structure zoU where
 N:Nat
 c157:Int×Int×Int->ae Bool
def zoV(E:zoU):aC->ae Bool:=jS E.N (Tabs.nil.addF 157 (ae.un E.c157)) 156
theorem zN1(E:zoU){A:Type}(k:Bool→Option A)(a0:aC):(zoV E (a0)).T k=(E.c157 (a0.Z,0,100000)).T λr1=>cond r1 (cond (decide (a0.Low>=(-1000000))) (cond (decide (a0.Low<=a0.High)) (k (decide (a0.High<=1000000))) (k false)) (k false)) (k false):=eX
theorem zN2 [aG](E:zoU)(Bd:Ok aJ 157 (ae.un E.c157)):Ok aJ 156 (ae.un (zoV E)):=eY (aB.nil.addF Bd)
structure zoW where
 N:Nat
def zoX(E:zoW):Int×Int×Int->ae Bool:=jS E.N Tabs.nil 157
theorem zN3(E:zoW){A:Type}(k:Bool→Option A)(a0 a1 a2:Int):(zoX E (a0,a1,a2)).T k=cond (decide (a0>=a1)) (k (decide (a0<=a2))) (k false):=eX
theorem zN4 [aG](E:zoW):Ok aJ 157 (ae.un (zoX E)):=eY aB.nil
structure zd3 where
 N:Nat
 c167:list->ae Bool
 c198:straight->ae Line
 zrB:set×straight->ae Bool
 i228:(Pt list)->ae (List (straight))
abbrev zEe(E:zd3):bM:=jc (((((Tabs.nil.addF 167 (ae.un E.c167)).addF 198 (ae.un E.c198)).addF 199 (ae.un E.zrB)).addF 197 (aF aJ E.N (jc Tabs.nil []) (bZ aJ 197 [] {}) 197)).addI 228 (ae.unI E.i228)) [14]
def zEf:dI:=bZ aJ 158 [] {ks:=[(1,6,⟨[],[],[(3,1,36,204)],[],[],[],[]⟩)]}
def zoY(E:zd3):(Sl aC)->ae set:=ae.ty (aF aJ E.N (zEe E) zEf 158)
section
variable(E:zd3){A:Type}(k:set->Option A)
def o7(E:zd3)(l:List (straight))(a0:Sl aC)(w36:Sl straight)(V5:Nat)(Om:List Int->Option (List Int)){A:Type}(k:set->Option A):Option A:=kC aJ (zEe E) E.N zEf 158 [1,1,1,1,0,1,0] [.y (l.map dm.enc)] (kz k) ⟨[(2,.cl (.ptr 2 0)),(3,.cl (.ptr 3 0)),(4,.cl (.ptr 4 0)),(17,.p (.fn 228 [] [.fp [.sl a0.len 3 (λi=>bn.enc (a0.get i))] 0]))],[(2,.box 197 [.p (.nils),.p (.nils)]),(3,.box 197 [.p (.sl a0.len 3 (λi=>bn.enc (a0.get i))),.vec 36]),(4,.box 271 [.mo 14]),(36,eV 204 3 24 w36),(14,.mo 114 4 (.ints,4,false,[none]) V5 Om)],[]⟩
theorem zN5(a0:Sl aC):(zoY E (a0)).T k=(E.c167 (⟨a0⟩:list)).T λr1=>cond r1 (k (⟨(⟨a0⟩:list),(⟨0,λ_=>default⟩:(Sl straight))⟩:set)) ((E.i228 (⟨(⟨a0⟩:list)⟩:(Pt list))).T λr2=>o7 E r2 a0 (⟨0,(λ_=>(⟨0,0,0⟩:straight))⟩:(Sl straight)) 0 (λ_=>none) k):=eX
theorem zoZ(a0:Sl aC)(w36:Sl straight)(V5:Nat)(Om:List Int→Option (List Int)):o7 E [] a0 w36 V5 Om k=k (⟨(⟨a0⟩:list),w36⟩:set):=krY
theorem zwU(y:straight)(l0:List (straight))(a0:Sl aC)(w36:Sl straight)(V5:Nat)(Om:List Int→Option (List Int)):o7 E (y::l0) a0 w36 V5 Om k=(E.c198 y).T λr1=>cond (!(sD (Om [r1.pO.Num,r1.pO.bV,r1.Start.Num,r1.Start.bV]) 0 != 0)) ((E.zrB ((⟨(⟨a0⟩:list),w36⟩:set),y)).T λr2=>cond r2 (aV (room (w36.len+1) 24) (o7 E l0 a0 (⟨(w36.len+1),(lm w36.len w36.get (λ_=>y))⟩:(Sl straight)) (addN (Om [r1.pO.Num,r1.pO.bV,r1.Start.Num,r1.Start.bV]) V5) (lT [r1.pO.Num,r1.pO.bV,r1.Start.Num,r1.Start.bV] [1] Om) k)) (o7 E l0 a0 w36 V5 Om k)) (o7 E l0 a0 w36 V5 Om k):=krY
end
theorem zN6 [aG](E:zd3)(vZ:Ok aJ 167 (ae.un E.c167))(ZA:Ok aJ 198 (ae.un E.c198))(zwV:Ok aJ 199 (ae.un E.zrB))(zN7:xO aJ 228 (ae.unI E.i228)):Ok aJ 158 (ae.un (zoY E)):=eY (((((aB.nil.addF vZ).addF ZA).addF zwV).addF (sU aB.nil (dC krY))).addI zN7)
structure zo0 where
 N:Nat
 TJ:list->ae bC
 c167:list->ae Bool
def zo1(E:zo0):set->ae Bool:=jS E.N ((Tabs.nil.addF 200 (ae.un E.TJ)).addF 167 (ae.un E.c167)) 159
theorem zN8(E:zo0){A:Type}(k:Bool→Option A)(a0:set):(zo1 E (a0)).T k=(E.TJ a0.list).T λr1=>(E.c167 a0.list).T λr2=>cond r2 (k (decide (r1.Low<=r1.High))) (k (decide ((a0.bU.len:Int)>0))):=eX
theorem zN9 [aG](E:zo0)(ZB:Ok aJ 200 (ae.un E.TJ))(vZ:Ok aJ 167 (ae.un E.c167)):Ok aJ 159 (ae.un (zo1 E)):=eY ((aB.nil.addF ZB).addF vZ)
structure zo2 where
 N:Nat
def zo3(E:zo2):list×(Pt Int)->ae Bool:=jS E.N Tabs.nil 162
theorem e162(E:zo2){A:Type}(k:Bool→Option A)(a0:list)(a1:Pt Int):(zo3 E (a0,a1)).T k=aV (decide ((0:Int)<=0/\0<(a0.bz.len:Int))) (k ((a0.bz.get 0).Z==a1.v)):=eX
theorem zOa [aG](E:zo2):Ok aJ 162 (ae.un (zo3 E)):=eY aB.nil
structure zo4 where
 N:Nat
 c167:list->ae Bool
 TJ:list->ae bC
 ku:Int×Int->ae aP
 c119:set×((dF 202 Unit (Pt Int)) ⊕ (dF 120 Unit Unit))->ae (aP×aP)
def zo5(E:zo4):set×Int->ae (aP×aP):=jS E.N ((((Tabs.nil.addF 167 (ae.un E.c167)).addF 200 (ae.un E.TJ)).addF 172 (ae.un E.ku)).addF 119 (ae.un E.c119)) 163
theorem zOb(E:zo4){A:Type}(k:(aP×aP)→Option A)(a0:set)(a1:Int):(zo5 E (a0,a1)).T k=(E.c167 a0.list).T λr1=>cond r1 ((E.TJ a0.list).T λr2=>(E.ku (r2.Low,1)).T λr3=>(E.ku (r2.High,1)).T λr4=>k (r3,r4)) ((E.c119 (a0,(Sum.inl (⟨(),(⟨a1⟩:(Pt Int))⟩:(dF 202 Unit (Pt Int)))))).T λr5=>k (r5.1,r5.2)):=eX
theorem zOc [aG](E:zo4)(vZ:Ok aJ 167 (ae.un E.c167))(ZB:Ok aJ 200 (ae.un E.TJ))(qg:Ok aJ 172 (ae.un E.ku))(zAz:Ok aJ 119 (ae.un E.c119)):Ok aJ 163 (ae.un (zo5 E)):=eY ((((aB.nil.addF vZ).addF ZB).addF qg).addF zAz)
structure zo6 where
 N:Nat
 c206:(Sl aC)×((dF 207 Unit (Pt list)) ⊕ (dF 230 Unit (Pt straight)) ⊕ (dF 257 Unit (Pt straight)))->ae Bool
def zo7(E:zo6):list->ae Bool:=jS E.N (Tabs.nil.addF 206 (ae.un E.c206)) 167
theorem e167(E:zo6){A:Type}(k:Bool→Option A)(a0:list):(zo7 E (a0)).T k=(E.c206 (a0.bz,(Sum.inl (⟨(),(⟨a0⟩:(Pt list))⟩:(dF 207 Unit (Pt list)))))).T λr1=>k (!r1):=eX
theorem zOd [aG](E:zo6)(MJ:Ok aJ 206 (ae.un E.c206)):Ok aJ 167 (ae.un (zo7 E)):=eY (aB.nil.addF MJ)
structure uJ where
 N:Nat
 zru:aP×aP->ae Bool
abbrev V6(E:uJ):bM:=jc (Tabs.nil.addF 169 (ae.un E.zru)) []
def V7:dI:=bZ aJ 168 [] {}
def DF(E:uJ):(Sl aP)×(dF 169 Unit Unit)->ae aP:=ae.ty (aF aJ E.N (V6 E) V7 168)
section
variable(E:uJ){A:Type}(k:aP->Option A)
def nO(E:uJ)(n:Nat)(a0:Sl aP)(kw:Int)(x5:aP){A:Type}(k:aP->Option A):Option A:=kC aJ (V6 E) E.N V7 168 [1,1,0,1,0] [.n n] (kz k) ⟨[(1,.p (.fn 169 [] [])),(4,.cl (.ptr 4 0)),(5,.cl (.ptr 5 0)),(12,.cl (.p (.sl (((a0.len:Int):Int)-1).toNat 2 (λi=>bn.enc ((LU a0.get 1) i))))),(13,.int ((((a0.len:Int):Int)-1).toNat:Int)),(14,.int kw)],[(4,.box 85 [.p (.int .i64 0),.p (.int .i64 0)]),(5,eB 85 x5)],[]⟩
theorem ziH(a0:Sl aP)(a1:(dF 169 Unit Unit)):(DF E (a0,a1)).T k=aV (decide ((0:Int)<=0/\0<(a0.len:Int))) (aV (decide ((0:Int)<=1/\(1:Int)<=(a0.len:Int)/\(a0.len:Int)<=(a0.len:Int))) (nO E E.N a0 0 (a0.get 0) k)):=eX
theorem ML(n0:Nat)(a0:Sl aP)(kw:Int)(x5:aP):nO E (n0+1) a0 kw x5 k=cond (decide (kw<((((a0.len:Int):Int)-1).toNat:Int))) (aV (decide (0<=kw/\kw<((((a0.len:Int):Int)-1).toNat:Int))) ((E.zru (((LU a0.get 1) kw.toNat),x5)).T λr1=>cond r1 (nO E n0 a0 (aQ (kw+1)) ((LU a0.get 1) kw.toNat) k) (nO E n0 a0 (aQ (kw+1)) x5 k))) (k x5):=krY
end
theorem ziI [aG](E:uJ)(zwW:Ok aJ 169 (ae.un E.zru)):Ok aJ 168 (ae.un (DF E)):=eY (aB.nil.addF zwW)
structure uK where
 N:Nat
 c171:aP×aP->ae Bool
abbrev V8(E:uK):bM:=jc (Tabs.nil.addF 171 (ae.un E.c171)) []
def V9:dI:=bZ aJ 168 [] {}
def DI(E:uK):(Sl aP)×(dF 171 Unit Unit)->ae aP:=ae.ty (aF aJ E.N (V8 E) V9 168)
section
variable(E:uK){A:Type}(k:aP->Option A)
def nP(E:uK)(n:Nat)(a0:Sl aP)(kw:Int)(x5:aP){A:Type}(k:aP->Option A):Option A:=kC aJ (V8 E) E.N V9 168 [1,1,0,1,0] [.n n] (kz k) ⟨[(1,.p (.fn 171 [] [])),(4,.cl (.ptr 4 0)),(5,.cl (.ptr 5 0)),(12,.cl (.p (.sl (((a0.len:Int):Int)-1).toNat 2 (λi=>bn.enc ((LU a0.get 1) i))))),(13,.int ((((a0.len:Int):Int)-1).toNat:Int)),(14,.int kw)],[(4,.box 85 [.p (.int .i64 0),.p (.int .i64 0)]),(5,eB 85 x5)],[]⟩
theorem ziJ(a0:Sl aP)(a1:(dF 171 Unit Unit)):(DI E (a0,a1)).T k=aV (decide ((0:Int)<=0/\0<(a0.len:Int))) (aV (decide ((0:Int)<=1/\(1:Int)<=(a0.len:Int)/\(a0.len:Int)<=(a0.len:Int))) (nP E E.N a0 0 (a0.get 0) k)):=eX
theorem MM(n0:Nat)(a0:Sl aP)(kw:Int)(x5:aP):nP E (n0+1) a0 kw x5 k=cond (decide (kw<((((a0.len:Int):Int)-1).toNat:Int))) (aV (decide (0<=kw/\kw<((((a0.len:Int):Int)-1).toNat:Int))) ((E.c171 (((LU a0.get 1) kw.toNat),x5)).T λr1=>cond r1 (nP E n0 a0 (aQ (kw+1)) ((LU a0.get 1) kw.toNat) k) (nP E n0 a0 (aQ (kw+1)) x5 k))) (k x5):=krY
end
theorem ziK [aG](E:uK)(zwX:Ok aJ 171 (ae.un E.c171)):Ok aJ 168 (ae.un (DI E)):=eY (aB.nil.addF zwX)
structure zo8 where
 N:Nat
 EE:aP×aP->ae Int
def zo9(E:zo8):aP×aP->ae Bool:=jS E.N (Tabs.nil.addF 170 (ae.un E.EE)) 169
theorem e169(E:zo8){A:Type}(k:Bool→Option A)(a0 a1:aP):(zo9 E (a0,a1)).T k=(E.EE (a0,a1)).T λr1=>k (decide (r1<0)):=eX
theorem zOe [aG](E:zo8)(MN:Ok aJ 170 (ae.un E.EE)):Ok aJ 169 (ae.un (zo9 E)):=eY (aB.nil.addF MN)
structure zpa where
 N:Nat
 c208:Int×Int->ae Int
def zpb(E:zpa):aP×aP->ae Int:=jS E.N (Tabs.nil.addF 208 (ae.un E.c208)) 170
theorem e170(E:zpa){A:Type}(k:Int→Option A)(a0 a1:aP):(zpb E (a0,a1)).T k=(E.c208 ((aQ (a0.Num*a1.bV)),(aQ (a1.Num*a0.bV)))).T λr1=>k r1:=eX
theorem zOf [aG](E:zpa)(ZC:Ok aJ 208 (ae.un E.c208)):Ok aJ 170 (ae.un (zpb E)):=eY (aB.nil.addF ZC)
structure zpc where
 N:Nat
 EE:aP×aP->ae Int
def zpd(E:zpc):aP×aP->ae Bool:=jS E.N (Tabs.nil.addF 170 (ae.un E.EE)) 171
theorem zOg(E:zpc){A:Type}(k:Bool→Option A)(a0 a1:aP):(zpd E (a0,a1)).T k=(E.EE (a0,a1)).T λr1=>k (decide (r1>0)):=eX
theorem zOh [aG](E:zpc)(MN:Ok aJ 170 (ae.un E.EE)):Ok aJ 171 (ae.un (zpd E)):=eY (aB.nil.addF MN)
structure zpe where
 N:Nat
 zrF:Int×Int->ae Int
def zpf(E:zpe):Int×Int->ae aP:=jS E.N (Tabs.nil.addF 209 (ae.un E.zrF)) 172
theorem zOi(E:zpe){A:Type}(k:aP→Option A)(a0 a1:Int):(zpf E (a0,a1)).T k=(E.zrF ((if(aQ (0-a0))>a0 then(aQ (0-a0))else a0),a1)).T λr1=>aV (decide (r1≠0)) (aV (decide (r1≠0)) (k (⟨(aQ (a0.tdiv r1)),(aQ (a1.tdiv r1))⟩:aP))):=eX
theorem zOj [aG](E:zpe)(zwY:Ok aJ 209 (ae.un E.zrF)):Ok aJ 172 (ae.un (zpf E)):=eY (aB.nil.addF zwY)
structure zd5 where
 N:Nat
abbrev zEg(E:zd5):bM:=jc Tabs.nil []
def zEh:dI:=bZ aJ 176 [] {}
def zpg(E:zd5):(Sl Bool)×Bool->ae Int:=ae.ty (aF aJ E.N (zEg E) zEh 176)
section
variable(E:zd5){A:Type}(k:Int->Option A)
def Si(E:zd5)(n:Nat)(a0:Sl Bool)(a1:Bool)(v8:Int){A:Type}(k:Int->Option A):Option A:=kC aJ (zEg E) E.N zEh 176 [1,0,1,0] [.n n] (kz k) ⟨[(0,eP a0),(1,.bool a1),(7,.int (a0.len:Int)),(8,.int v8)],[],[]⟩
theorem zOk(a0:Sl Bool)(a1:Bool):(zpg E (a0,a1)).T k=Si E E.N a0 a1 0 k:=eX
theorem ziL(n0:Nat)(a0:Sl Bool)(a1:Bool)(v8:Int):Si E (n0+1) a0 a1 v8 k=cond (decide (v8<(a0.len:Int))) (aV (decide (0<=v8/\v8<(a0.len:Int))) (cond (a1==(a0.get v8.toNat)) (k v8) (Si E n0 a0 a1 (aQ (v8+1)) k))) (k (-1)):=krY
end
theorem zOl [aG](E:zd5):Ok aJ 176 (ae.un (zpg E)):=eY aB.nil
structure zd6 where
 N:Nat
 NI:(Sl Int)×((dF 180 Unit ((Pt (Pt aH))×(Pt Int))) ⊕ (dF 190 Unit ((Pt (Pt aH))×(Pt Int))))->ae Bool
 c182:(Pt aH)×af->ae Bool
 i173:(Pt Int)×(Pt (Pt aH))×(Pt Int)->ae (List (Int×Int))
 IM:af×Int×Bc 143 (Pt aH)×Bc 38 Int×Bw 30 43 3 56 af×Bs 255 178 2 4×Unit->ae ((Bool×Int)×(Unit×Unit×(Pt aH)×Int×Sl af×Unit×Unit))
abbrev zwZ(E:zd6):bM:=jc (((((((Tabs.nil.addN [180]).addO 181 (.clone 3 1 8)).addM 178 (ae.unP 254 E.IM)).addF 179 (ae.un E.NI)).addF 182 (ae.un E.c182)).addF 121 (aF aJ E.N (jc Tabs.nil []) (bZ aJ 121 [] {}) 121)).addI 173 (ae.unI E.i173)) []
def zph:dI:=bZ aJ 178 [2,3,4,5] {clo:=[180],pan:=[9,10]}
def zpi(E:zd6):af×Int×Bc 143 (Pt aH)×Bc 38 Int×Bw 30 43 3 56 af×Bs 255 178 2 4×Unit->ae ((Bool×Int)×(Unit×Unit×(Pt aH)×Int×Sl af×Unit×Unit)):=ae.tyP 254 λxs=>aM aJ E.N (zwZ E) zph 178 xs
section
variable(E:zd6){A:Type}(k:((Bool×Int)×(Unit×Unit×(Pt aH)×Int×Sl af×Unit×Unit))->Option A)
def o8(E:zd6)(l:List (Int×Int))(a0:af)(a1:Int)(a2:Pt aH)(a3:Int)(a4:Sl af)(IB:Pt aH)(Be:Int)(pM:Sl af){A:Type}(k:((Bool×Int)×(Unit×Unit×(Pt aH)×Int×Sl af×Unit×Unit))->Option A):Option A:=ptM aJ (zwZ E) E.N zph 178 [1,1,0] [.y (l.map dm.enc)] (zhz aJ (kP.enc ((a0,a1,⟨a2⟩,⟨a3⟩,⟨a4⟩,{},()):af×Int×Bc 143 (Pt aH)×Bc 38 Int×Bw 30 43 3 56 af×Bs 255 178 2 4×Unit))) (znt 254 ((a0,a1,⟨a2⟩,⟨a3⟩,⟨a4⟩,{},()):af×Int×Bc 143 (Pt aH)×Bc 38 Int×Bw 30 43 3 56 af×Bs 255 178 2 4×Unit) k) ⟨[(2,.cl (.ptr 2 0)),(3,.cl (.ptr 3 0)),(4,.cl (.ptr 4 0)),(5,.cl (.ptr 5 0)),(6,.cl (.ptr 6 0)),(14,.p (.fn 173 [] [.fp [.int .i64 a1] 0,.fp [.fp [.sl a2.v.au.ak.len 15 (λi=>bn.enc (a2.v.au.ak.get i)),.sl a2.v.hits.len 6 (λi=>bn.enc (a2.v.hits.get i)),.sl a2.v.iT.len 1 (λi=>bn.enc (a2.v.iT.get i)),.int .i64 a2.v.rules.ve,.int .i64 a2.v.rules.xA] 0] 0,.fp [.int .i64 a3] 0]))],[(2,eB 143 IB),(3,eB 38 Be),(4,.box 30 [.vec 4100]),(5,.box 255 [.clo 178 [.b 2,.b 3,.b 4,.b 5]]),(6,eB 43 a0),(4100,eV 43 3 56 pM)],[]⟩
theorem zOm(a0:af)(a1:Int)(a2:Pt aH)(a3:Int)(a4:Sl af):(zpi E (a0,a1,⟨a2⟩,⟨a3⟩,⟨a4⟩,{},())).T k=(E.i173 ((⟨a1⟩:(Pt Int)),(⟨a2⟩:(Pt (Pt aH))),(⟨a3⟩:(Pt Int)))).T λr1=>o8 E r1 a0 a1 a2 a3 a4 a2 a3 a4 k:=zC8.trans krY
theorem zpj(a0:af)(a1:Int)(a2:Pt aH)(a3:Int)(a4:Sl af)(IB:Pt aH)(Be:Int)(pM:Sl af):o8 E [] a0 a1 a2 a3 a4 IB Be pM k=k ((false,0),(),(),IB,Be,pM,(),()):=krY
theorem ziM(y:Int×Int)(l0:List (Int×Int))(a0:af)(a1:Int)(a2:Pt aH)(a3:Int)(a4:Sl af)(IB:Pt aH)(Be:Int)(pM:Sl af):o8 E (y::l0) a0 a1 a2 a3 a4 IB Be pM k=(E.NI (a0.Hits,(Sum.inl (⟨(),((⟨IB⟩:(Pt (Pt aH))),(⟨y.1⟩:(Pt Int)))⟩:(dF 180 Unit ((Pt (Pt aH))×(Pt Int))))))).T λr1=>cond r1 (o8 E l0 a0 a1 a2 a3 a4 IB Be pM k) (aV (room a0.Hits.len 8) (aV (room (a0.Hits.len+1) 8) (aV (room a0.aX.len 8) (aV (room (a0.aX.len+1) 8) ((E.c182 (IB,(⟨Be,(⟨(a0.Hits.len+1),(lm a0.Hits.len a0.Hits.get (λ_=>y.1))⟩:(Sl Int)),(⟨(a0.aX.len+1),(lm a0.aX.len a0.aX.get (λ_=>y.2))⟩:(Sl Int))⟩:af))).T λr2=>cond (!r2) (o8 E l0 a0 a1 a2 a3 a4 IB Be pM k) (aV (room (pM.len+1) 56) (cond (decide (((pM.len+1):Int)>2000)) (k ((true,Be),(),(),IB,Be,(⟨(pM.len+1),(lm pM.len pM.get (λ_=>(⟨Be,(⟨(a0.Hits.len+1),(lm a0.Hits.len a0.Hits.get (λ_=>y.1))⟩:(Sl Int)),(⟨(a0.aX.len+1),(lm a0.aX.len a0.aX.get (λ_=>y.2))⟩:(Sl Int))⟩:af)))⟩:(Sl af)),(),())) ((E.IM ((⟨Be,(⟨(a0.Hits.len+1),(lm a0.Hits.len a0.Hits.get (λ_=>y.1))⟩:(Sl Int)),(⟨(a0.aX.len+1),(lm a0.aX.len a0.aX.get (λ_=>y.2))⟩:(Sl Int))⟩:af),(aQ (y.1+1)),(⟨IB⟩:Bc 143 (Pt aH)),(⟨Be⟩:Bc 38 Int),(⟨(⟨(pM.len+1),(lm pM.len pM.get (λ_=>(⟨Be,(⟨(a0.Hits.len+1),(lm a0.Hits.len a0.Hits.get (λ_=>y.1))⟩:(Sl Int)),(⟨(a0.aX.len+1),(lm a0.aX.len a0.aX.get (λ_=>y.2))⟩:(Sl Int))⟩:af)))⟩:(Sl af))⟩:Bw 30 43 3 56 af),({}:Bs 255 178 2 4),())).T λr3=>cond r3.1.1 (k ((true,r3.1.2),(),(),r3.2.2.2.1,r3.2.2.2.2.1,r3.2.2.2.2.2.1,(),())) (o8 E l0 a0 a1 a2 a3 a4 r3.2.2.2.1 r3.2.2.2.2.1 r3.2.2.2.2.2.1 k))))))))):=krY
end
theorem zOn(E:zd6)(Zy:Ok aJ 179 (ae.un E.NI))(zw0:Ok aJ 182 (ae.un E.c182))(zvU:xO aJ 173 (ae.unI E.i173))(zw1:jh aJ 181 (.clone 3 1 8))(zwL:iM aJ 178 (ae.unP 254 E.IM)):iM aJ 178 (ae.unP 254 (zpi E)):=by
  have h:iM aJ 178 (λxs=>aM aJ E.N (zwZ E) zph 178 xs):=LP (aO:=λ_=>zph) (((((((aB.nil.addN).addO zw1).addM zwL).addF Zy).addF zw0).addF (sU aB.nil (dC krY))).addI zvU) (dC krY);exact(zvG h:iM aJ 178 (ae.unP 254 (ae.tyP 254 _:af×Int×Bc 143 (Pt aH)×Bc 38 Int×Bw 30 43 3 56 af×Bs 255 178 2 4×Unit->ae ((Bool×Int)×(Unit×Unit×(Pt aH)×Int×Sl af×Unit×Unit)))))
structure DJ where
 N:Nat
 c210:(Sl Int)×((dF 180 Unit ((Pt (Pt aH))×(Pt Int))) ⊕ (dF 190 Unit ((Pt (Pt aH))×(Pt Int))))->ae Int
def DK(E:DJ):(Sl Int)×(dF 180 Unit ((Pt (Pt aH))×(Pt Int)))->ae Bool:=jS E.N (Tabs.nil.addF 210 (ae.un E.c210)) 179
theorem ziN(E:DJ){A:Type}(k:Bool→Option A)(a0:Sl Int)(a1:(dF 180 Unit ((Pt (Pt aH))×(Pt Int)))):(DK E (a0,a1)).T k=(E.c210 (a0,(Sum.inl a1))).T λr1=>k (decide (r1>=0)):=eX
theorem ziO [aG](E:DJ)(ZE:Ok aJ 210 (ae.un E.c210)):Ok aJ 179 (ae.un (DK E)):=eY (aB.nil.addF ZE)
structure DL where
 N:Nat
 c210:(Sl Int)×((dF 180 Unit ((Pt (Pt aH))×(Pt Int))) ⊕ (dF 190 Unit ((Pt (Pt aH))×(Pt Int))))->ae Int
def DN(E:DL):(Sl Int)×(dF 190 Unit ((Pt (Pt aH))×(Pt Int)))->ae Bool:=jS E.N (Tabs.nil.addF 210 (ae.un E.c210)) 179
theorem ziP(E:DL){A:Type}(k:Bool→Option A)(a0:Sl Int)(a1:(dF 190 Unit ((Pt (Pt aH))×(Pt Int)))):(DN E (a0,a1)).T k=(E.c210 (a0,(Sum.inr a1))).T λr1=>k (decide (r1>=0)):=eX
theorem ziQ [aG](E:DL)(ZE:Ok aJ 210 (ae.un E.c210)):Ok aJ 179 (ae.un (DN E)):=eY (aB.nil.addF ZE)
structure zpk where
 N:Nat
def zpl(E:zpk):Int×(Pt (Pt aH))×(Pt Int)->ae Bool:=jS E.N Tabs.nil 180
theorem zOo(E:zpk){A:Type}(k:Bool→Option A)(a0:Int)(a1:(Pt (Pt aH)))(a2:Pt Int):(zpl E (a0,a1,a2)).T k=aV (decide (0<=a0/\a0<(a1.v.v.hits.len:Int))) (aV (decide (0<=a2.v/\a2.v<(a1.v.v.hits.len:Int))) (k ((a1.v.v.hits.get a0.toNat).aj==(a1.v.v.hits.get a2.v.toNat).aj))):=eX
theorem zOp [aG](E:zpk):Ok aJ 180 (ae.un (zpl E)):=eY aB.nil
structure zpm where
 N:Nat
 c93:(Pt aH)×af->ae (bC×Bool)
 c105:(Pt aH)×af->ae ((Sl aC))
 zrG:(Sl aC)->ae (Line×Int)
def zpn(E:zpm):(Pt aH)×af->ae Bool:=jS E.N (((Tabs.nil.addF 93 (ae.un E.c93)).addF 105 (ae.un E.c105)).addF 211 (ae.un E.zrG)) 182
theorem zOq(E:zpm){A:Type}(k:Bool→Option A)(a0:Pt aH)(a1:af):(zpn E (a0,a1)).T k=(E.c93 (a0,a1)).T λr1=>cond (!r1.2) (k false) ((E.c105 (a0,a1)).T λr2=>(E.zrG r2).T λr3=>k (r3.2 != 5)):=eX
theorem zOr [aG](E:zpm)(h93:Ok aJ 93 (ae.un E.c93))(MI:Ok aJ 105 (ae.un E.c105))(zw2:Ok aJ 211 (ae.un E.zrG)):Ok aJ 182 (ae.un (zpn E)):=eY (((aB.nil.addF h93).addF MI).addF zw2)
structure zd7 where
 N:Nat
abbrev zEi(E:zd7):bM:=jc Tabs.nil []
def zEj:dI:=bZ aJ 185 [] {}
def zpp(E:zd7):(Sl Int)->ae Int:=ae.ty (aF aJ E.N (zEi E) zEj 185)
section
variable(E:zd7){A:Type}(k:Int->Option A)
def F7(E:zd7)(n:Nat)(a0:Sl Int)(v8:Int){A:Type}(k:Int->Option A):Option A:=kC aJ (zEi E) E.N zEj 185 [1,1,0,1,0] [.n n] (kz k) ⟨[(3,.int 0),(6,eP a0),(7,.int (a0.len:Int)),(8,.int v8)],[],[]⟩
theorem e185(a0:Sl Int):(zpp E (a0)).T k=F7 E E.N a0 0 k:=eX
theorem ziR(n0:Nat)(a0:Sl Int)(v8:Int):F7 E (n0+1) a0 v8 k=cond (decide (v8<(a0.len:Int))) (aV (decide (0<=v8/\v8<(a0.len:Int))) (cond (a0.get v8.toNat != 0) (k (a0.get v8.toNat)) (F7 E n0 a0 (aQ (v8+1)) k))) (k 0):=krY
end
theorem zOs [aG](E:zd7):Ok aJ 185 (ae.un (zpp E)):=eY aB.nil
structure zpq where
 N:Nat
 c222:Int->ae Bool
def zpr(E:zpq):Int×Int->ae Int:=jS E.N (Tabs.nil.addF 222 (ae.un E.c222)) 186
theorem zOt(E:zpq){A:Type}(k:Int→Option A)(a0 a1:Int):(zpr E (a0,a1)).T k=(E.c222 a0).T λr1=>(E.c222 a1).T λr2=>cond r1 (cond r2 (k 0) (k (-1))) (cond r2 (k 1) (cond (decide (a0<a1)) (k (-1)) (cond (decide (a0>a1)) (k 1) (k 0)))):=eX
theorem zOu [aG](E:zpq)(zps:Ok aJ 222 (ae.un E.c222)):Ok aJ 186 (ae.un (zpr E)):=eY (aB.nil.addF zps)
structure zd8 where
 N:Nat
 c208:Int×Int->ae Int
abbrev zEk(E:zd8):bM:=jc (Tabs.nil.addF 208 (ae.un E.c208)) []
def zEl:dI:=bZ aJ 187 [] {}
def zpt(E:zd8):(Sl Int)×(Sl Int)->ae Int:=ae.ty (aF aJ E.N (zEk E) zEl 187)
section
variable(E:zd8){A:Type}(k:Int->Option A)
def Sj(E:zd8)(n:Nat)(a0 a1:Sl Int)(v11:Int){A:Type}(k:Int->Option A):Option A:=kC aJ (zEk E) E.N zEl 187 [1,0,1,0] [.n n] (kz k) ⟨[(0,eP a0),(1,eP a1),(9,eP a0),(10,.int (a0.len:Int)),(11,.int v11)],[],[]⟩
theorem e187(a0 a1:Sl Int):(zpt E (a0,a1)).T k=Sj E E.N a0 a1 0 k:=eX
theorem ziS(n0:Nat)(a0 a1:Sl Int)(v11:Int):Sj E (n0+1) a0 a1 v11 k=cond (decide (v11<(a0.len:Int))) (aV (decide (0<=v11/\v11<(a0.len:Int))) (cond (decide (v11>=(a1.len:Int))) (k 1) (aV (decide (0<=v11/\v11<(a1.len:Int))) ((E.c208 (a0.get v11.toNat,a1.get v11.toNat)).T λr1=>cond (r1 != 0) (k r1) (Sj E n0 a0 a1 (aQ (v11+1)) k))))) (cond (decide ((a0.len:Int)<(a1.len:Int))) (k (-1)) (k 0)):=krY
end
theorem zOv [aG](E:zd8)(ZC:Ok aJ 208 (ae.un E.c208)):Ok aJ 187 (ae.un (zpt E)):=eY (aB.nil.addF ZC)
structure zpu where
 N:Nat
def zpv(E:zpu):Int×(Pt (Pt aH))×(Pt Int)->ae Bool:=jS E.N Tabs.nil 190
theorem e190(E:zpu){A:Type}(k:Bool→Option A)(a0:Int)(a1:(Pt (Pt aH)))(a2:Pt Int):(zpv E (a0,a1,a2)).T k=aV (decide (0<=a0/\a0<(a1.v.v.hits.len:Int))) (k ((a1.v.v.hits.get a0.toNat).aj==a2.v)):=eX
theorem zOw [aG](E:zpu):Ok aJ 190 (ae.un (zpv E)):=eY aB.nil
structure zpw where
 N:Nat
def zpx(E:zpw):aP->ae Int:=jS E.N Tabs.nil 191
theorem zOx(E:zpw){A:Type}(k:Int→Option A)(a0:aP):(zpx E (a0)).T k=cond (decide (a0.Num<0)) (aV (decide (a0.bV≠0)) (k (aQ (0-(aQ ((aQ ((aQ ((aQ (0-a0.Num))+a0.bV))-1)).tdiv a0.bV)))))) (aV (decide (a0.bV≠0)) (k (aQ (a0.Num.tdiv a0.bV)))):=eX
theorem zOy [aG](E:zpw):Ok aJ 191 (ae.un (zpx E)):=eY aB.nil
structure zpy where
 N:Nat
 Oy:aP->ae Int
def zpz(E:zpy):aP->ae Int:=jS E.N (Tabs.nil.addF 191 (ae.un E.Oy)) 192
theorem zOz(E:zpy){A:Type}(k:Int→Option A)(a0:aP):(zpz E (a0)).T k=(E.Oy (⟨(aQ (0-a0.Num)),a0.bV⟩:aP)).T λr1=>k (aQ (0-r1)):=eX
theorem zOA [aG](E:zpy)(Zz:Ok aJ 191 (ae.un E.Oy)):Ok aJ 192 (ae.un (zpz E)):=eY (aB.nil.addF Zz)
structure zpA where
 N:Nat
 ku:Int×Int->ae aP
def zpB(E:zpA):straight->ae Line:=jS E.N (Tabs.nil.addF 172 (ae.un E.ku)) 198
theorem zOB(E:zpA){A:Type}(k:Line→Option A)(a0:straight):(zpB E (a0)).T k=(E.ku (a0.bg,a0.den)).T λr1=>(E.ku (a0.start,a0.den)).T λr2=>k (⟨r1,r2⟩:Line):=eX
theorem zOC [aG](E:zpA)(qg:Ok aJ 172 (ae.un E.ku)):Ok aJ 198 (ae.un (zpB E)):=eY (aB.nil.addF qg)
structure zpC where
 N:Nat
 c206:(Sl aC)×((dF 207 Unit (Pt list)) ⊕ (dF 230 Unit (Pt straight)) ⊕ (dF 257 Unit (Pt straight)))->ae Bool
def zpD(E:zpC):set×straight->ae Bool:=jS E.N (Tabs.nil.addF 206 (ae.un E.c206)) 199
theorem e199(E:zpC){A:Type}(k:Bool→Option A)(a0:set)(a1:straight):(zpD E (a0,a1)).T k=(E.c206 (a0.list.bz,(Sum.inr (Sum.inl (⟨(),(⟨a1⟩:(Pt straight))⟩:(dF 230 Unit (Pt straight))))))).T λr1=>k (!r1):=eX
theorem zOD [aG](E:zpC)(MJ:Ok aJ 206 (ae.un E.c206)):Ok aJ 199 (ae.un (zpD E)):=eY (aB.nil.addF MJ)
structure zd9 where
 N:Nat
abbrev zEm(E:zd9):bM:=jc Tabs.nil []
def zEn:dI:=bZ aJ 200 [] {}
def zpE(E:zd9):list->ae bC:=ae.ty (aF aJ E.N (zEm E) zEn 200)
section
variable(E:zd9){A:Type}(k:bC->Option A)
def Su(E:zd9)(n:Nat)(a0:list)(v20:Int)(x3:bC){A:Type}(k:bC->Option A):Option A:=kC aJ (zEm E) E.N zEn 200 [1,1,0,1,0] [.n n] (kz k) ⟨[(2,.cl (.ptr 2 0)),(3,.cl (.ptr 3 0)),(18,eP a0.bz),(19,.int (a0.bz.len:Int)),(20,.int v20)],[(2,.box 105 [.p (.int .i64 0),.p (.int .i64 0)]),(3,eB 105 x3)],[]⟩
theorem zOE(a0:list):(zpE E (a0)).T k=aV (decide ((0:Int)<=0/\0<(a0.bz.len:Int))) (aV (decide ((0:Int)<=0/\0<(a0.bz.len:Int))) (Su E E.N a0 0 (⟨(a0.bz.get 0).Low,(a0.bz.get 0).High⟩:bC) k)):=eX
theorem ziT(n0:Nat)(a0:list)(v20:Int)(x3:bC):Su E (n0+1) a0 v20 x3 k=cond (decide (v20<(a0.bz.len:Int))) (aV (decide (0<=v20/\v20<(a0.bz.len:Int))) (Su E n0 a0 (aQ (v20+1)) (⟨(if(a0.bz.get v20.toNat).Low>x3.Low then(a0.bz.get v20.toNat).Low else x3.Low),(if(a0.bz.get v20.toNat).High<x3.High then(a0.bz.get v20.toNat).High else x3.High)⟩:bC) k)) (k x3):=krY
end
theorem zOF [aG](E:zd9):Ok aJ 200 (ae.un (zpE E)):=eY aB.nil
structure zpF where
 N:Nat
 c203:straight×Int->ae aP
def zpG(E:zpF):straight×(Pt Int)->ae aP:=jS E.N (Tabs.nil.addF 203 (ae.un E.c203)) 202
theorem zOG(E:zpF){A:Type}(k:aP→Option A)(a0:straight)(a1:Pt Int):(zpG E (a0,a1)).T k=(E.c203 (a0,a1.v)).T λr1=>k r1:=eX
theorem zOH [aG](E:zpF)(zw3:Ok aJ 203 (ae.un E.c203)):Ok aJ 202 (ae.un (zpG E)):=eY (aB.nil.addF zw3)
structure zpH where
 N:Nat
def zpI(E:zpH):straight×Int->ae aP:=jS E.N Tabs.nil 203
theorem e203(E:zpH){A:Type}(k:aP→Option A)(a0:straight)(a1:Int):(zpI E (a0,a1)).T k=k (⟨(aQ (a0.start+(aQ (a0.bg*a1)))),a0.den⟩:aP):=eX
theorem zOI [aG](E:zpH):Ok aJ 203 (ae.un (zpI E)):=eY aB.nil
structure ZF where
 N:Nat
 zrD:(Sl Int)×Int->ae (Int×Bool)
abbrev zEo(E:ZF):bM:=jc (Tabs.nil.addF 205 (ae.un E.zrD)) []
def zEp:dI:=bZ aJ 204 [0] {yl:=[9]}
def zEq(E:ZF)(c:List PA):YO:=aI aJ (zEo E) E.N zEp 204 c
def zw4(E:ZF):(Pt placed)->ae (List (Int×bC)):=ae.tyI λc=>.opt (zEq E c)
section
variable(E:ZF)
def F8(E:ZF)(n:Nat)(a1:Pt placed)(v3 Ik:Int):YO:=ptY aJ (zEo E) E.N zEp 204 [1,1,1,0] [n] ⟨[(0,.cl (.vec 4095)),(1,eP a1),(3,.int v3),(18,.int a1.v.aj.bW),(19,.int Ik)],[(4095,.gone)],[]⟩
theorem e204(a1:Pt placed):zEq E (dm.enc ((a1):(Pt placed)))=cond (a1.v.aj.Kind==2) (F8 E E.N a1 (aQ (a1.v.aj.aT.tdiv 2)) 0) (F8 E E.N a1 0 0):=krY
theorem ziU(n0:Nat)(a1:Pt placed)(v3 Ik:Int):F8 E (n0+1) a1 v3 Ik=cond (decide (Ik<a1.v.aj.bW)) ((E.zrD (a1.v.aj.Dead,Ik)).T λr1=>cond r1.2 (F8 E n0 a1 v3 (aQ (Ik+1))) (yT (dm.enc ((Ik,(⟨(aQ ((aQ (a1.v.aj.First+(aQ (Ik*a1.v.aj.aT))))-v3)),(aQ ((aQ ((aQ ((aQ (a1.v.aj.First+(aQ (Ik*a1.v.aj.aT))))-v3))+a1.v.aj.aT))-1))⟩:bC)):Int×bC)) (some []) (F8 E n0 a1 v3 (aQ (Ik+1))))) (some []):=krY
end
theorem zOJ(E:ZF)(zw5:Ok aJ 205 (ae.un E.zrD)):xO aJ 204 (ae.unI (zw4 E)):=Rw (LQ (aB.nil.addF zw5) (dC krY))
structure zea where
 N:Nat
 c236:Int×Int->ae Bool
 zlb:Int->ae Bool
abbrev zEr(E:zea):bM:=jc ((Tabs.nil.addF 236 (ae.un E.c236)).addF 237 (ae.un E.zlb)) []
def zEs:dI:=bZ aJ 205 [] {}
def zpJ(E:zea):(Sl Int)×Int->ae (Int×Bool):=ae.ty (aF aJ E.N (zEr E) zEs 205)
section
variable(E:zea){A:Type}(k:(Int×Bool)->Option A)
def yE(E:zea)(n:Nat)(a0:Sl Int)(a1 v7 v8:Int){A:Type}(k:(Int×Bool)->Option A):Option A:=kC aJ (zEr E) E.N zEs 205 [1,1,1,0,0] [.n n] (kz k) ⟨[(0,eP a0),(1,.int a1),(6,.int (a0.len:Int)),(7,.int v7),(8,.int v8)],[],[]⟩
theorem zOK(a0:Sl Int)(a1:Int):(zpJ E (a0,a1)).T k=yE E E.N a0 a1 0 (a0.len:Int) k:=eX
theorem Sv(n0:Nat)(a0:Sl Int)(a1 v7 v8:Int):yE E (n0+1) a0 a1 v7 v8 k=cond (decide (v7<v8)) (aV (decide (0<=(aQ (Ip .u64 (IntKind.u64.wrap (aQ (v7+v8))) 1))/\(aQ (Ip .u64 (IntKind.u64.wrap (aQ (v7+v8))) 1))<(a0.len:Int))) ((E.c236 (a0.get (aQ (Ip .u64 (IntKind.u64.wrap (aQ (v7+v8))) 1)).toNat,a1)).T λr1=>cond r1 (yE E n0 a0 a1 (aQ ((aQ (Ip .u64 (IntKind.u64.wrap (aQ (v7+v8))) 1))+1)) v8 k) (yE E n0 a0 a1 v7 (aQ (Ip .u64 (IntKind.u64.wrap (aQ (v7+v8))) 1)) k))) (cond (decide (v7<(a0.len:Int))) (aV (decide (0<=v7/\v7<(a0.len:Int))) (cond (a0.get v7.toNat==a1) (k (v7,true)) (aV (decide (0<=v7/\v7<(a0.len:Int))) ((E.zlb (a0.get v7.toNat)).T λr2=>cond r2 ((E.zlb a1).T λr3=>k (v7,r3)) (k (v7,false)))))) (k (v7,false))):=krY
end
theorem zOL [aG](E:zea)(zw6:Ok aJ 236 (ae.un E.c236))(zw7:Ok aJ 237 (ae.un E.zlb)):Ok aJ 205 (ae.un (zpJ E)):=eY ((aB.nil.addF zw6).addF zw7)
structure DR where
 N:Nat
 EF:(Sl aC)×((dF 207 Unit (Pt list)) ⊕ (dF 230 Unit (Pt straight)) ⊕ (dF 257 Unit (Pt straight)))->ae Int
def DT(E:DR):(Sl aC)×(dF 207 Unit (Pt list))->ae Bool:=jS E.N (Tabs.nil.addF 238 (ae.un E.EF)) 206
theorem ziV(E:DR){A:Type}(k:Bool→Option A)(a0:Sl aC)(a1:(dF 207 Unit (Pt list))):(DT E (a0,a1)).T k=(E.EF (a0,(Sum.inl a1))).T λr1=>k (decide (r1>=0)):=eX
theorem ziW [aG](E:DR)(MO:Ok aJ 238 (ae.un E.EF)):Ok aJ 206 (ae.un (DT E)):=eY (aB.nil.addF MO)
structure DU where
 N:Nat
 EF:(Sl aC)×((dF 207 Unit (Pt list)) ⊕ (dF 230 Unit (Pt straight)) ⊕ (dF 257 Unit (Pt straight)))->ae Int
def DW(E:DU):(Sl aC)×(dF 230 Unit (Pt straight))->ae Bool:=jS E.N (Tabs.nil.addF 238 (ae.un E.EF)) 206
theorem ziX(E:DU){A:Type}(k:Bool→Option A)(a0:Sl aC)(a1:(dF 230 Unit (Pt straight))):(DW E (a0,a1)).T k=(E.EF (a0,(Sum.inr (Sum.inl a1)))).T λr1=>k (decide (r1>=0)):=eX
theorem ziY [aG](E:DU)(MO:Ok aJ 238 (ae.un E.EF)):Ok aJ 206 (ae.un (DW E)):=eY (aB.nil.addF MO)
structure DX where
 N:Nat
 EF:(Sl aC)×((dF 207 Unit (Pt list)) ⊕ (dF 230 Unit (Pt straight)) ⊕ (dF 257 Unit (Pt straight)))->ae Int
def DY(E:DX):(Sl aC)×(dF 257 Unit (Pt straight))->ae Bool:=jS E.N (Tabs.nil.addF 238 (ae.un E.EF)) 206
theorem ziZ(E:DX){A:Type}(k:Bool→Option A)(a0:Sl aC)(a1:(dF 257 Unit (Pt straight))):(DY E (a0,a1)).T k=(E.EF (a0,(Sum.inr (Sum.inr a1)))).T λr1=>k (decide (r1>=0)):=eX
theorem zi0 [aG](E:DX)(MO:Ok aJ 238 (ae.un E.EF)):Ok aJ 206 (ae.un (DY E)):=eY (aB.nil.addF MO)
structure zpK where
 N:Nat
def zpL(E:zpK):aC×(Pt list)->ae Bool:=jS E.N Tabs.nil 207
theorem e207(E:zpK){A:Type}(k:Bool→Option A)(a0:aC)(a1:Pt list):(zpL E (a0,a1)).T k=aV (decide ((0:Int)<=0/\0<(a1.v.bz.len:Int))) (k (a0.Z != (a1.v.bz.get 0).Z)):=eX
theorem zOM [aG](E:zpK):Ok aJ 207 (ae.un (zpL E)):=eY aB.nil
structure zpM where
 N:Nat
 NJ:Int->ae Bool
def zpN(E:zpM):Int×Int->ae Int:=jS E.N (Tabs.nil.addF 239 (ae.un E.NJ)) 208
theorem e208(E:zpM){A:Type}(k:Int→Option A)(a0 a1:Int):(zpN E (a0,a1)).T k=(E.NJ a0).T λr1=>(E.NJ a1).T λr2=>cond r1 (cond r2 (k 0) (k (-1))) (cond r2 (k 1) (cond (decide (a0<a1)) (k (-1)) (cond (decide (a0>a1)) (k 1) (k 0)))):=eX
theorem zON [aG](E:zpM)(We:Ok aJ 239 (ae.un E.NJ)):Ok aJ 208 (ae.un (zpN E)):=eY (aB.nil.addF We)
structure zeb where
 N:Nat
abbrev zEt(E:zeb):bM:=jc Tabs.nil []
def zEu:dI:=bZ aJ 209 [] {}
def zpO(E:zeb):Int×Int->ae Int:=ae.ty (aF aJ E.N (zEt E) zEu 209)
section
variable(E:zeb){A:Type}(k:Int->Option A)
def Sz(E:zeb)(n:Nat)(v0 v1:Int){A:Type}(k:Int->Option A):Option A:=kC aJ (zEt E) E.N zEu 209 [1,0,0] [.n n] (kz k) ⟨[(0,.int v0),(1,.int v1)],[],[]⟩
theorem e209(a0 a1:Int):(zpO E (a0,a1)).T k=Sz E E.N a0 a1 k:=eX
theorem zw8(n0:Nat)(v0 v1:Int):Sz E (n0+1) v0 v1 k=cond (decide (v1>0)) (aV (decide (v1≠0)) (Sz E n0 v1 (v0.tmod v1) k)) (k v0):=krY
end
theorem zOO [aG](E:zeb):Ok aJ 209 (ae.un (zpO E)):=eY aB.nil
structure uM where
 N:Nat
 zk8:Int×(Pt (Pt aH))×(Pt Int)->ae Bool
abbrev Wi(E:uM):bM:=jc (Tabs.nil.addF 180 (ae.un E.zk8)) []
def Wj:dI:=bZ aJ 210 [] {}
def DZ(E:uM):(Sl Int)×(dF 180 Unit ((Pt (Pt aH))×(Pt Int)))->ae Int:=ae.ty (aF aJ E.N (Wi E) Wj 210)
section
variable(E:uM){A:Type}(k:Int->Option A)
def ww(E:uM)(n:Nat)(a0:Sl Int)(a1:(dF 180 Unit ((Pt (Pt aH))×(Pt Int))))(v8:Int){A:Type}(k:Int->Option A):Option A:=kC aJ (Wi E) E.N Wj 210 [1,0,1,0] [.n n] (kz k) ⟨[(0,eP a0),(1,eP a1),(7,.int (a0.len:Int)),(8,.int v8)],[],[]⟩
theorem zi1(a0:Sl Int)(a1:(dF 180 Unit ((Pt (Pt aH))×(Pt Int)))):(DZ E (a0,a1)).T k=ww E E.N a0 a1 0 k:=eX
theorem MP(n0:Nat)(a0:Sl Int)(a1:(dF 180 Unit ((Pt (Pt aH))×(Pt Int))))(v8:Int):ww E (n0+1) a0 a1 v8 k=cond (decide (v8<(a0.len:Int))) (aV (decide (0<=v8/\v8<(a0.len:Int))) ((E.zk8 (a0.get v8.toNat,a1.v.1,a1.v.2)).T λr1=>cond r1 (k v8) (ww E n0 a0 a1 (aQ (v8+1)) k))) (k (-1)):=krY
end
theorem zi2 [aG](E:uM)(zw9:Ok aJ 180 (ae.un E.zk8)):Ok aJ 210 (ae.un (DZ E)):=eY (aB.nil.addF zw9)
structure uN where
 N:Nat
 zla:Int×(Pt (Pt aH))×(Pt Int)->ae Bool
abbrev Wl(E:uN):bM:=jc (Tabs.nil.addF 190 (ae.un E.zla)) []
def Wn:dI:=bZ aJ 210 [] {}
def D5(E:uN):(Sl Int)×(dF 190 Unit ((Pt (Pt aH))×(Pt Int)))->ae Int:=ae.ty (aF aJ E.N (Wl E) Wn 210)
section
variable(E:uN){A:Type}(k:Int->Option A)
def wz(E:uN)(n:Nat)(a0:Sl Int)(a1:(dF 190 Unit ((Pt (Pt aH))×(Pt Int))))(v8:Int){A:Type}(k:Int->Option A):Option A:=kC aJ (Wl E) E.N Wn 210 [1,0,1,0] [.n n] (kz k) ⟨[(0,eP a0),(1,eP a1),(7,.int (a0.len:Int)),(8,.int v8)],[],[]⟩
theorem zi3(a0:Sl Int)(a1:(dF 190 Unit ((Pt (Pt aH))×(Pt Int)))):(D5 E (a0,a1)).T k=wz E E.N a0 a1 0 k:=eX
theorem MR(n0:Nat)(a0:Sl Int)(a1:(dF 190 Unit ((Pt (Pt aH))×(Pt Int))))(v8:Int):wz E (n0+1) a0 a1 v8 k=cond (decide (v8<(a0.len:Int))) (aV (decide (0<=v8/\v8<(a0.len:Int))) ((E.zla (a0.get v8.toNat,a1.v.1,a1.v.2)).T λr1=>cond r1 (k v8) (wz E n0 a0 a1 (aQ (v8+1)) k))) (k (-1)):=krY
end
theorem zi4 [aG](E:uN)(zxa:Ok aJ 190 (ae.un E.zla)):Ok aJ 210 (ae.un (D5 E)):=eY (aB.nil.addF zxa)
structure zpP where
 N:Nat
 zrK:(Sl aC)->ae ((Sl Line)×Int)
def zpQ(E:zpP):(Sl aC)->ae (Line×Int):=jS E.N (Tabs.nil.addF 240 (ae.un E.zrK)) 211
theorem e211(E:zpP){A:Type}(k:(Line×Int)→Option A)(a0:Sl aC):(zpQ E (a0)).T k=(E.zrK a0).T λr1=>cond (r1.2 != 0) (k ((⟨(⟨0,0⟩:aP),(⟨0,0⟩:aP)⟩:Line),r1.2)) (aV (decide ((0:Int)<=0/\0<(r1.1.len:Int))) (k ((r1.1.get 0),0))):=eX
theorem zOP [aG](E:zpP)(zxb:Ok aJ 240 (ae.un E.zrK)):Ok aJ 211 (ae.un (zpQ E)):=eY (aB.nil.addF zxb)
structure zpR where
 N:Nat
def zpS(E:zpR):Int->ae Bool:=jS E.N Tabs.nil 222
theorem e222(E:zpR){A:Type}(k:Bool→Option A)(a0:Int):(zpS E (a0)).T k=k (a0 != a0):=eX
theorem zOQ [aG](E:zpR):Ok aJ 222 (ae.un (zpS E)):=eY aB.nil
structure Wp where
 N:Nat
 c229:Int×Int×Int×Int->ae straight
abbrev zxc(E:Wp):bM:=jc (Tabs.nil.addF 229 (ae.un E.c229)) []
def zxd:dI:=bZ aJ 228 [0] {ks:=[(1,4,⟨[],[],[],[],[4],[],[]⟩)],unr:=[(8,3),(11,3)],yl:=[13]}
def zEv(E:Wp)(c:List PA):YO:=aI aJ (zxc E) E.N zxd 228 c
def zxe(E:Wp):(Pt list)->ae (List (straight)):=ae.tyI λc=>.opt (zEv E c)
section
variable(E:Wp)
def MS(E:Wp)(n:Nat)(a1:Pt list)(kw:Int):YO:=ptY aJ (zxc E) E.N zxd 228 [1,0] [n] ⟨[(0,.cl (.vec 4095)),(1,eP a1),(12,eP a1.v.bz),(13,.int (a1.v.bz.len:Int)),(14,.int kw)],[(4095,.gone)],[]⟩
def MV(E:Wp)(n0 n:Nat)(a1:Pt list)(kw:Int)(v23:Sl aC)(v24 v25:Int)(x4:aC):YO:=ptY aJ (zxc E) E.N zxd 228 [1,0,0,1,1,0,0,1,1,0] [n0,n] ⟨[(0,.cl (.vec 4095)),(1,eP a1),(4,.cl (.ptr 4 0)),(12,eP a1.v.bz),(13,.int (a1.v.bz.len:Int)),(14,.int kw),(23,eP v23),(24,.int v24),(25,.int v25)],[(4095,.gone),(4,.fbox (bn.enc x4))],[]⟩
theorem e228(a1:Pt list):zEv E (dm.enc ((a1):(Pt list)))=MS E E.N a1 0:=krY
theorem zi5(n0:Nat)(a1:Pt list)(kw:Int):MS E (n0+1) a1 kw=cond (decide (kw<(a1.v.bz.len:Int))) (aV (decide (0<=kw/\kw<(a1.v.bz.len:Int))) (aV (decide ((0:Int)<=(aQ (kw+1))/\((aQ (kw+1)):Int)<=(a1.v.bz.len:Int)/\(a1.v.bz.len:Int)<=(a1.v.bz.len:Int))) (MV E n0 E.N a1 kw (⟨(((a1.v.bz.len:Int):Int)-(aQ (kw+1))).toNat,(LU a1.v.bz.get (aQ (kw+1)).toNat)⟩:(Sl aC)) ((((a1.v.bz.len:Int):Int)-(aQ (kw+1))).toNat:Int) 0 (a1.v.bz.get kw.toNat)))) (some []):=krY
theorem zi6(n0 n1:Nat)(a1:Pt list)(kw:Int)(v23:Sl aC)(v24 v25:Int)(x4:aC):MV E n0 (n1+1) a1 kw v23 v24 v25 x4=cond (decide (v25<v24)) (aV (decide (0<=v25/\v25<(v23.len:Int))) (cond (x4.Z==(v23.get v25.toNat).Z) (MV E n0 n1 a1 kw v23 v24 (aQ (v25+1)) x4) ((E.c229 (x4.Z,x4.Low,(v23.get v25.toNat).Z,(v23.get v25.toNat).Low)).T λr1=>yT (dm.enc (r1:straight)) (some []) ((E.c229 (x4.Z,x4.Low,(v23.get v25.toNat).Z,(v23.get v25.toNat).High)).T λr2=>yT (dm.enc (r2:straight)) (some []) ((E.c229 (x4.Z,x4.High,(v23.get v25.toNat).Z,(v23.get v25.toNat).Low)).T λr3=>yT (dm.enc (r3:straight)) (some []) ((E.c229 (x4.Z,x4.High,(v23.get v25.toNat).Z,(v23.get v25.toNat).High)).T λr4=>yT (dm.enc (r4:straight)) (some []) (MV E n0 n1 a1 kw v23 v24 (aQ (v25+1)) x4))))))) (MS E n0 a1 (aQ (kw+1))):=krY
end
theorem zOR(E:Wp)(zec:Ok aJ 229 (ae.un E.c229)):xO aJ 228 (ae.unI (zxe E)):=Rw (LQ (aB.nil.addF zec) (dC krY))
structure zpT where
 N:Nat
def zpU(E:zpT):Int×Int×Int×Int->ae straight:=jS E.N Tabs.nil 229
theorem e229(E:zpT){A:Type}(k:straight→Option A)(a0 a1 a2 a3:Int):(zpU E (a0,a1,a2,a3)).T k=cond (decide (a0>a2)) (k (⟨(aQ (a1-a3)),(aQ ((aQ (a3*a0))-(aQ (a1*a2)))),(aQ (a0-a2))⟩:straight)) (k (⟨(aQ (a3-a1)),(aQ ((aQ (a1*a2))-(aQ (a3*a0)))),(aQ (a2-a0))⟩:straight)):=eX
theorem zOS [aG](E:zpT):Ok aJ 229 (ae.un (zpU E)):=eY aB.nil
structure zpV where
 N:Nat
 zrJ:straight×aC->ae Bool
def zpW(E:zpV):aC×(Pt straight)->ae Bool:=jS E.N (Tabs.nil.addF 231 (ae.un E.zrJ)) 230
theorem e230(E:zpV){A:Type}(k:Bool→Option A)(a0:aC)(a1:Pt straight):(zpW E (a0,a1)).T k=(E.zrJ (a1.v,a0)).T λr1=>k (!r1):=eX
theorem zOT [aG](E:zpV)(zxf:Ok aJ 231 (ae.un E.zrJ)):Ok aJ 230 (ae.un (zpW E)):=eY (aB.nil.addF zxf)
structure zpX where
 N:Nat
 c157:Int×Int×Int->ae Bool
def zpY(E:zpX):straight×aC->ae Bool:=jS E.N (Tabs.nil.addF 157 (ae.un E.c157)) 231
theorem e231(E:zpX){A:Type}(k:Bool→Option A)(a0:straight)(a1:aC):(zpY E (a0,a1)).T k=(E.c157 ((aQ (a0.start+(aQ (a0.bg*a1.Z)))),(aQ (a1.Low*a0.den)),(aQ (a1.High*a0.den)))).T λr1=>k r1:=eX
theorem zOU [aG](E:zpX)(Bd:Ok aJ 157 (ae.un E.c157)):Ok aJ 231 (ae.un (zpY E)):=eY (aB.nil.addF Bd)
structure zpZ where
 N:Nat
 NJ:Int->ae Bool
def zp0(E:zpZ):Int×Int->ae Bool:=jS E.N (Tabs.nil.addF 239 (ae.un E.NJ)) 236
theorem zOV(E:zpZ){A:Type}(k:Bool→Option A)(a0 a1:Int):(zp0 E (a0,a1)).T k=(E.NJ a0).T λr1=>cond r1 ((E.NJ a1).T λr2=>cond (!r2) (k true) (k (decide (a0<a1)))) (k (decide (a0<a1))):=eX
theorem zOW [aG](E:zpZ)(We:Ok aJ 239 (ae.un E.NJ)):Ok aJ 236 (ae.un (zp0 E)):=eY (aB.nil.addF We)
structure zp1 where
 N:Nat
def zp2(E:zp1):Int->ae Bool:=jS E.N Tabs.nil 237
theorem e237(E:zp1){A:Type}(k:Bool→Option A)(a0:Int):(zp2 E (a0)).T k=k (a0 != a0):=eX
theorem zOX [aG](E:zp1):Ok aJ 237 (ae.un (zp2 E)):=eY aB.nil
structure uO where
 N:Nat
 zrE:aC×(Pt list)->ae Bool
abbrev Wq(E:uO):bM:=jc (Tabs.nil.addF 207 (ae.un E.zrE)) []
def Ws:dI:=bZ aJ 238 [] {}
def D6(E:uO):(Sl aC)×(dF 207 Unit (Pt list))->ae Int:=ae.ty (aF aJ E.N (Wq E) Ws 238)
section
variable(E:uO){A:Type}(k:Int->Option A)
def wB(E:uO)(n:Nat)(a0:Sl aC)(a1:(dF 207 Unit (Pt list)))(v8:Int){A:Type}(k:Int->Option A):Option A:=kC aJ (Wq E) E.N Ws 238 [1,0,1,0] [.n n] (kz k) ⟨[(0,eP a0),(1,.p (.fn 207 [] [.fp [.sl a1.v.v.bz.len 3 (λi=>bn.enc (a1.v.v.bz.get i))] 0])),(7,.int (a0.len:Int)),(8,.int v8)],[],[]⟩
theorem zi7(a0:Sl aC)(a1:(dF 207 Unit (Pt list))):(D6 E (a0,a1)).T k=wB E E.N a0 a1 0 k:=eX
theorem MW(n0:Nat)(a0:Sl aC)(a1:(dF 207 Unit (Pt list)))(v8:Int):wB E (n0+1) a0 a1 v8 k=cond (decide (v8<(a0.len:Int))) (aV (decide (0<=v8/\v8<(a0.len:Int))) ((E.zrE ((a0.get v8.toNat),a1.v)).T λr1=>cond r1 (k v8) (wB E n0 a0 a1 (aQ (v8+1)) k))) (k (-1)):=krY
end
theorem zi8 [aG](E:uO)(zxg:Ok aJ 207 (ae.un E.zrE)):Ok aJ 238 (ae.un (D6 E)):=eY (aB.nil.addF zxg)
structure uP where
 N:Nat
 zrI:aC×(Pt straight)->ae Bool
abbrev Wu(E:uP):bM:=jc (Tabs.nil.addF 230 (ae.un E.zrI)) []
def Wv:dI:=bZ aJ 238 [] {}
def D7(E:uP):(Sl aC)×(dF 230 Unit (Pt straight))->ae Int:=ae.ty (aF aJ E.N (Wu E) Wv 238)
section
variable(E:uP){A:Type}(k:Int->Option A)
def wC(E:uP)(n:Nat)(a0:Sl aC)(a1:(dF 230 Unit (Pt straight)))(v8:Int){A:Type}(k:Int->Option A):Option A:=kC aJ (Wu E) E.N Wv 238 [1,0,1,0] [.n n] (kz k) ⟨[(0,eP a0),(1,eP a1),(7,.int (a0.len:Int)),(8,.int v8)],[],[]⟩
theorem zi9(a0:Sl aC)(a1:(dF 230 Unit (Pt straight))):(D7 E (a0,a1)).T k=wC E E.N a0 a1 0 k:=eX
theorem MX(n0:Nat)(a0:Sl aC)(a1:(dF 230 Unit (Pt straight)))(v8:Int):wC E (n0+1) a0 a1 v8 k=cond (decide (v8<(a0.len:Int))) (aV (decide (0<=v8/\v8<(a0.len:Int))) ((E.zrI ((a0.get v8.toNat),a1.v)).T λr1=>cond r1 (k v8) (wC E n0 a0 a1 (aQ (v8+1)) k))) (k (-1)):=krY
end
theorem zja [aG](E:uP)(zxh:Ok aJ 230 (ae.un E.zrI)):Ok aJ 238 (ae.un (D7 E)):=eY (aB.nil.addF zxh)
structure uQ where
 N:Nat
 zrL:aC×(Pt straight)->ae Bool
abbrev Wx(E:uQ):bM:=jc (Tabs.nil.addF 257 (ae.un E.zrL)) []
def Wy:dI:=bZ aJ 238 [] {}
def D8(E:uQ):(Sl aC)×(dF 257 Unit (Pt straight))->ae Int:=ae.ty (aF aJ E.N (Wx E) Wy 238)
section
variable(E:uQ){A:Type}(k:Int->Option A)
def wE(E:uQ)(n:Nat)(a0:Sl aC)(a1:(dF 257 Unit (Pt straight)))(v8:Int){A:Type}(k:Int->Option A):Option A:=kC aJ (Wx E) E.N Wy 238 [1,0,1,0] [.n n] (kz k) ⟨[(0,eP a0),(1,eP a1),(7,.int (a0.len:Int)),(8,.int v8)],[],[]⟩
theorem zjb(a0:Sl aC)(a1:(dF 257 Unit (Pt straight))):(D8 E (a0,a1)).T k=wE E E.N a0 a1 0 k:=eX
theorem MZ(n0:Nat)(a0:Sl aC)(a1:(dF 257 Unit (Pt straight)))(v8:Int):wE E (n0+1) a0 a1 v8 k=cond (decide (v8<(a0.len:Int))) (aV (decide (0<=v8/\v8<(a0.len:Int))) ((E.zrL ((a0.get v8.toNat),a1.v)).T λr1=>cond r1 (k v8) (wE E n0 a0 a1 (aQ (v8+1)) k))) (k (-1)):=krY
end
theorem zjc [aG](E:uQ)(zxi:Ok aJ 257 (ae.un E.zrL)):Ok aJ 238 (ae.un (D8 E)):=eY (aB.nil.addF zxi)
structure zp3 where
 N:Nat
def zp4(E:zp3):Int->ae Bool:=jS E.N Tabs.nil 239
theorem zOY(E:zp3){A:Type}(k:Bool→Option A)(a0:Int):(zp4 E (a0)).T k=k (a0 != a0):=eX
theorem zOZ [aG](E:zp3):Ok aJ 239 (ae.un (zp4 E)):=eY aB.nil
structure zed where
 N:Nat
 c117:(Sl aC)×((dF 118 Unit Unit) ⊕ (dF 162 Unit (Pt Int)))->ae (set×Int)
 zlc:set->ae ((Sl straight))
 c198:straight->ae Line
abbrev zEw(E:zed):bM:=jc (((Tabs.nil.addF 117 (ae.un E.c117)).addF 249 (ae.un E.zlc)).addF 198 (ae.un E.c198)) []
def zEx:dI:=bZ aJ 240 [] {ks:=[(1,6,⟨[],[(6,28,114)],[],[],[],[],[]⟩)]}
def zjd(E:zed):(Sl aC)->ae ((Sl Line)×Int):=ae.ty (aF aJ E.N (zEw E) zEx 240)
section
variable(E:zed){A:Type}(k:((Sl Line)×Int)->Option A)
def F9(E:zed)(n:Nat)(xh:Sl straight)(Ik v20:Int)(w28:Sl Line){A:Type}(k:((Sl Line)×Int)->Option A):Option A:=kC aJ (zEw E) E.N zEx 240 [1,1,1,1,0,1,0] [.n n] (kz k) ⟨[(6,.cl (.vec 28)),(18,eP xh),(19,.int Ik),(20,.int v20)],[(28,eV 114 4 32 w28)],[]⟩
theorem e240(a0:Sl aC):(zjd E (a0)).T k=(E.c117 (a0,(Sum.inl (⟨(),()⟩:(dF 118 Unit Unit))))).T λr1=>cond (r1.2 != 0) (k ((⟨0,λ_=>default⟩:(Sl Line)),r1.2)) ((E.zlc r1.1).T λr2=>F9 E E.N r2 (r2.len:Int) 0 (⟨0,(λ_=>(⟨(⟨0,0⟩:aP),(⟨0,0⟩:aP)⟩:Line))⟩:(Sl Line)) k):=eX
theorem zje(n0:Nat)(xh:Sl straight)(Ik v20:Int)(w28:Sl Line):F9 E (n0+1) xh Ik v20 w28 k=cond (decide (v20<Ik)) (aV (decide (0<=v20/\v20<(xh.len:Int))) ((E.c198 (xh.get v20.toNat)).T λr1=>aV (room (w28.len+1) 32) (F9 E n0 xh Ik (aQ (v20+1)) (⟨(w28.len+1),(lm w28.len w28.get (fun _=>r1))⟩:(Sl Line)) k))) (k (w28,0)):=krY
end
theorem zO0 [aG](E:zed)(Zt:Ok aJ 117 (ae.un E.c117))(zxj:Ok aJ 249 (ae.un E.zlc))(ZA:Ok aJ 198 (ae.un E.c198)):Ok aJ 240 (ae.un (zjd E)):=eY (((aB.nil.addF Zt).addF zxj).addF ZA)
structure zp5 where
 N:Nat
 XU:straight×straight×(Pt set)->ae Int
def zp6(E:zp5):set->ae ((Sl straight)):=jS E.N (((Tabs.nil.addO 252 (.clone 204 3 24)).addO 253 (.sort 204 3 24)).addC 254 (ae.un E.XU)) 249
theorem e249(E:zp5){A:Type}(k:(Sl straight)→Option A)(a0:set):(zp6 E (a0)).T k=aV (room a0.bU.len 24) (aV (soP (ae.un E.XU) (bn.enc (⟨a0⟩:(Pt set))) true a0.bU) (k (⟨a0.bU.len,(soG (ae.un E.XU) (bn.enc (⟨a0⟩:(Pt set))) true a0.bU)⟩:(Sl straight)))):=eX
theorem zO1 [aG](E:zp5)(zO2:jh aJ 252 (.clone 204 3 24))(zO3:jh aJ 253 (.sort 204 3 24))(zO4 : @Ok ⟨1⟩ aJ 254 (ae.un E.XU)):Ok aJ 249 (ae.un (zp6 E)):=eY (((aB.nil.addO zO2).addO zO3).addC zO4)
structure zp7 where
 N:Nat
 zld:set×straight->ae Bool
 ku:Int×Int->ae aP
 EE:aP×aP->ae Int
def zp8(E:zp7):straight×straight×(Pt set)->ae Int:=jS E.N (((Tabs.nil.addF 255 (ae.un E.zld)).addF 172 (ae.un E.ku)).addF 170 (ae.un E.EE)) 254
theorem e254(E:zp7){A:Type}(k:Int→Option A)(a0 a1:straight)(a2:Pt set):(zp8 E (a0,a1,a2)).T k=(E.zld (a2.v,a0)).T λr1=>(E.zld (a2.v,a1)).T λr2=>(E.ku (a0.bg,a0.den)).T λr3=>(E.ku (a1.bg,a1.den)).T λr4=>(E.EE (r3,r4)).T λr5=>cond r1 (cond r2 (k r5) (cond r1 (k (-1)) (cond r2 (k 1) (k (aQ (0-r5)))))) (cond r1 (k (-1)) (cond r2 (k 1) (k (aQ (0-r5))))):=eX
theorem zO5 [aG](E:zp7)(zp9:Ok aJ 255 (ae.un E.zld))(qg:Ok aJ 172 (ae.un E.ku))(MN:Ok aJ 170 (ae.un E.EE)):Ok aJ 254 (ae.un (zp8 E)):=eY (((aB.nil.addF zp9).addF qg).addF MN)
structure zqa where
 N:Nat
 c206:(Sl aC)×((dF 207 Unit (Pt list)) ⊕ (dF 230 Unit (Pt straight)) ⊕ (dF 257 Unit (Pt straight)))->ae Bool
def zqb(E:zqa):set×straight->ae Bool:=jS E.N (Tabs.nil.addF 206 (ae.un E.c206)) 255
theorem zO6(E:zqa){A:Type}(k:Bool→Option A)(a0:set)(a1:straight):(zqb E (a0,a1)).T k=(E.c206 (a0.list.bz,(Sum.inr (Sum.inr (⟨(),(⟨a1⟩:(Pt straight))⟩:(dF 257 Unit (Pt straight))))))).T λr1=>k r1:=eX
theorem zO7 [aG](E:zqa)(MJ:Ok aJ 206 (ae.un E.c206)):Ok aJ 255 (ae.un (zqb E)):=eY (aB.nil.addF MJ)
structure zqc where
 N:Nat
def zqd(E:zqc):aC×(Pt straight)->ae Bool:=jS E.N Tabs.nil 257
theorem e257(E:zqc){A:Type}(k:Bool→Option A)(a0:aC)(a1:Pt straight):(zqd E (a0,a1)).T k=k ((aQ (a1.v.start+(aQ (a1.v.bg*a0.Z))))==(aQ (a0.Low*a1.v.den))):=eX
theorem zO8 [aG](E:zqc):Ok aJ 257 (ae.un (zqd E)):=eY aB.nil
theorem SA{x y X Y:Int}(h1 : -X<=x)(h2:x<=X)(h3:0<=y)(h4:y<=Y) : -(X*Y)<=x*y/\x*y<=X*Y:=by
 have hX:0<=X:=by omega
 have a:=Uc h2 h3;have b:=qdd h4 hX;have c:=Uc h1 h3;rw[jqh]at c;omega
def red(num den:Int):aP:=⟨num.tdiv (Int.gcd num den:Int),den.tdiv (Int.gcd num den:Int)⟩
theorem zxk(num:Int):(if -num>num then -num else num)=(num.natAbs:Int):=by split<;>omega
theorem zqe(num den:Int):Int.gcd (num.natAbs:Int) den=Int.gcd num den:=by
 unfold Int.gcd;rw[Int.natAbs_natCast]
theorem mP{num den:Int}(hd:0<den):0<(Int.gcd num den:Int):=by
 have:Int.gcd num den≠0:=λh=>by have:=(Int.gcd_eq_zero_iff.1 h).2;omega
 omega
theorem zO9(num den:Int):∃a,num=(Int.gcd num den:Int)*a:=Int.gcd_dvd_left num den
theorem zPa(num den:Int):∃a,den=(Int.gcd num den:Int)*a:=Int.gcd_dvd_right num den
theorem qh{num den:Int}(hd:0<den):(Int.gcd num den:Int)*(red num den).Num=num:=by
 have hg:=mP (num:=num) hd;obtain⟨a,ha⟩:=zO9 num den;show(Int.gcd num den:Int)*num.tdiv (Int.gcd num den:Int)=num;generalize (Int.gcd num den:Int)=g at ha hg ⊢;rw[ha,jqA _ omY]
theorem nY{num den:Int}(hd:0<den):(Int.gcd num den:Int)*(red num den).bV=den:=by
 have hg:=mP (num:=num) hd;obtain⟨a,ha⟩:=zPa num den;show(Int.gcd num den:Int)*den.tdiv (Int.gcd num den:Int)=den;generalize (Int.gcd num den:Int)=g at ha hg ⊢;rw[ha,jqA _ omY]
theorem kF{num den:Int}(hd:0<den):0<(red num den).bV:=by
 have h1:=nY (num:=num) hd;have hg:=mP (num:=num) hd;rcases qj9 0 (red num den).bV with h|h
 exact h;have:=qdd h (Il hg);rw[h1,Int.mul_zero]at this;omega
theorem Na{num den:Int}(hd:0<den):(red num den).bV<=den:=by
 have h1:=nY (num:=num) hd;have hg:=mP (num:=num) hd;have:=Uc (show(1:Int)<=(Int.gcd num den:Int)by omega) (Il (kF (num:=num) hd));omega
theorem D9{num den:Int}(hd:0<den) : -(num.natAbs:Int)<=(red num den).Num/\(red num den).Num<=(num.natAbs:Int):=by
 have h1:=qh (num:=num) hd;have hg:=mP (num:=num) hd;have h2:num.natAbs=(Int.gcd num den)*(red num den).Num.natAbs:=by
  have:=jF Int.natAbs h1;rw[jqx]at this;simpa using this.symm
 have h3:(red num den).Num.natAbs<=num.natAbs:=by
  rw[h2];exact Nat.le_mul_of_pos_left _ omY
 omega
theorem zbP{num den:Int}(hd:0<den):Int.gcd (red num den).Num (red num den).bV=1:=by
 have h1:=qh (num:=num) hd;have h2:=nY (num:=num) hd;have hg:=mP (num:=num) hd;have h3:Int.gcd ((Int.gcd num den:Int)*(red num den).Num) ((Int.gcd num den:Int)*(red num den).bV)=Int.gcd num den*Int.gcd (red num den).Num (red num den).bV:=by
  rw[Int.gcd_mul_left];simp
 rw[h1,h2]at h3;have h4:Int.gcd num den*1=Int.gcd num den*Int.gcd (red num den).Num (red num den).bV:=by rw[qjW];exact h3
 exact(Nat.eq_of_mul_eq_mul_left omY h4).symm
theorem zjf{a b c d:Int}(hb:0<b)(hd:0<d):red a b=red c d↔a*d=c*b:=by
 have a1:=qh (num:=a) hb;have a2:=nY (num:=a) hb;have c1:=qh (num:=c) hd;have c2:=nY (num:=c) hd;constructor;intro h;rw[h]at a1 a2;generalize hG:(Int.gcd a b:Int)=G at a1 a2;generalize hK:(Int.gcd c d:Int)=K at c1 c2;generalize (red c d).Num=x at a1 c1;generalize (red c d).bV=y at a2 c2;subst a1;subst a2;subst c1;subst c2
 ac_rfl
 ·intro h;have ga:=zbP (num:=a) hb;have gc:=zbP (num:=c) hd;have pa:=kF (num:=a) hb;have pc:=kF (num:=c) hd;have hG:=mP (num:=a) hb;have hK:=mP (num:=c) hd
  -- Qn products of the lowest forms
  have hx:(red a b).Num*(red c d).bV=(red c d).Num*(red a b).bV:=by
   have e:((Int.gcd a b:Int)*(Int.gcd c d:Int))*((red a b).Num*(red c d).bV)=((Int.gcd a b:Int)*(Int.gcd c d:Int))*((red c d).Num*(red a b).bV):=by
    have l1:((Int.gcd a b:Int)*(Int.gcd c d:Int))*((red a b).Num*(red c d).bV)=((Int.gcd a b:Int)*(red a b).Num)*((Int.gcd c d:Int)*(red c d).bV):=by
     generalize (Int.gcd a b:Int)=G;generalize (Int.gcd c d:Int)=K
     ac_rfl
    have l2:((Int.gcd a b:Int)*(Int.gcd c d:Int))*((red c d).Num*(red a b).bV)=((Int.gcd c d:Int)*(red c d).Num)*((Int.gcd a b:Int)*(red a b).bV):=by
     generalize (Int.gcd a b:Int)=G;generalize (Int.gcd c d:Int)=K
     ac_rfl
    rw[l1,l2,a1,a2,c1,c2];exact h
   exact Int.eq_of_mul_eq_mul_left (by have:=jqi hG hK;omega) e
  have xH:=jF Int.natAbs hx;rw[jqx,jqx]at xH;have ga':Nat.Coprime (red a b).bV.natAbs (red a b).Num.natAbs:=(jqa _ _).trans ga;have gc':Nat.Coprime (red c d).bV.natAbs (red c d).Num.natAbs:=(jqa _ _).trans gc;have d1:(red a b).bV∣(red c d).bV:=jqQ.1 (ga'.dvd_of_dvd_mul_left ⟨(red c d).Num.natAbs,by rw[xH,qdz]⟩);have d2:(red c d).bV∣(red a b).bV:=jqQ.1 (gc'.dvd_of_dvd_mul_left ⟨(red a b).Num.natAbs,by rw[<- xH,qdz]⟩);have zrQ:(red a b).bV=(red c d).bV:=Int.le_antisymm (Int.le_of_dvd pc d1) (Int.le_of_dvd pa d2);rw[<- zrQ]at hx;have zAx:=jqo omY hx;cases h1:red a b;cases h2:red c d;rw[h1,h2]at zrQ zAx;simp only at zrQ zAx;rw[zrQ,zAx]
def IC(z p y q:Int):straight:=if z>y then⟨p-q,q*z-p*y,z-y⟩else⟨q-p,p*y-q*z,y-z⟩
def nZ(s:straight):Line:=⟨red s.bg s.den,red s.start s.den⟩
theorem WA{a b:Int}(ha:0<=a)(hb:0<b):0<=a.tmod b/\a.tmod b<b/\Int.gcd b (a.tmod b)=Int.gcd a b:=by
 refine⟨Int.tmod_nonneg b ha,Int.tmod_lt_of_pos a hb,?_⟩;obtain⟨m,rfl⟩:=jqE ha;obtain⟨n,rfl⟩:=jqE (Il hb);show Nat.gcd n (m%n)=Nat.gcd m n;rw[jqa m n,Nat.gcd_rec n m,jqa]
theorem zjg{A:Type}{X:Nat→Int→Int→Option A}{k:Int→Option A}(hX:∀n a b,0≤a→0≤b→X (n+1) a b=if b=0 then k a else X n b (a.tmod b)) :
  ∀(m n:Nat)(a b:Int),0<=a->0<=b->b<2^m->2*m<n->X n a b=k (Int.gcd a b:Int):=by
 have zero:∀a:Int,0<=a->(Int.gcd a 0:Int)=a:=λa ha=>by rw[Int.gcd_zero_right];omega
 intro m
 induction m with
 | zero =>
  intro n a b ha hb hm hn;obtain⟨n,rfl⟩:∃n',n=n'+1:=⟨n-1,omY⟩;have:b=0:=by simp at hm;omega
  subst this;rw[hX n a 0 ha hb,dH rfl,zero a ha]
 | succ m ih =>
  intro n a b ha hb hm hn;obtain⟨n,rfl⟩:∃n',n=n'+1+1:=⟨n-2,omY⟩;rw[hX _ a b ha hb];by_cases h0:b=0;subst h0;rw[dH rfl,zero a ha];rw[dM h0];obtain⟨r0,r1,g1⟩:=WA ha (show 0<b by omega);rw[hX _ b _ hb r0];by_cases h1:a.tmod b=0;rw[dH h1,<- g1,h1,zero b hb];rw[dM h1];obtain⟨q0,q1,g2⟩:=WA hb (show 0<a.tmod b by omega);rw[ih n _ _ r0 q0 ?_ omY,g2,g1];have e:=Int.tmod_add_mul_tdiv b (a.tmod b);have hq:1<=b.tdiv (a.tmod b):=by
   rcases qj9 0 (b.tdiv (a.tmod b))with h|h
   omega;have:=qdd h r0;rw[Int.mul_zero]at this;omega
  have:=qdd hq r0;rw[qjM]at this;have h2:(2:Int)^(m+1)=2^m*2:=Int.pow_succ 2 m;omega
abbrev zxl(C:Int×Int->ae Int):Prop:=∀a b,0<=a->0<=b->b<=1152921504606846976->C (a,b)=.ok (Int.gcd a b:Int)
theorem zPb{E:zeb}(N:Big E.N):zxl (zpO E):=λa b ha hb hk=>ae.ext λk=>by
 rw[e209,bf];refine zjg (X:=λn a b=>Sz E n a b k) (λn a b h1 h2=>?_) 61 _ a b ha hb omY (by have:=N;omega);rw[zw8];by_cases h:b=0;subst h;rfl;rw[dK (show b>0 by omega),dU,bF h,dM h]
abbrev ZG(C:Int×Int->ae aP):Prop:=∀a b,-1000000000000000000<=a->a<=1000000000000000000->0<b->b<=1000000000000000000->C (a,b)=.ok (red a b)
theorem zEy{num den:Int}(h1 : -1000000000000000000≤num)(h2:num≤1000000000000000000)(hd:0<den)(hd2:den≤1000000000000000000){A:Type}(k:aP→Option A) :
  aV (decide ((Int.gcd num den:Int)≠0)) (aV (decide ((Int.gcd num den:Int)≠0)) (k ⟨aQ (num.tdiv (Int.gcd num den:Int)),aQ (den.tdiv (Int.gcd num den:Int))⟩))=k (red num den):=by
 have hg:=mP (num:=num) hd;have r1:=D9 (num:=num) hd;have r2:=Na (num:=num) hd;have r3:=kF (num:=num) hd;have w1:aQ (num.tdiv (Int.gcd num den:Int))=(red num den).Num:=aZ (by show _<=(red num den).Num;omega) (by show(red num den).Num<=_;omega);have w2:aQ (den.tdiv (Int.gcd num den:Int))=(red num den).bV:=aZ (by show _<=(red num den).bV;omega) (by show(red num den).bV<=_;omega);rw[w1,w2,bF omY,bF omY]
theorem zPc{E:zpe}(zwY:zxl E.zrF):ZG (zpf E):=λa b h1 h2 hd hd2=>ae.ext λk=>by
 rw[zOi,show aQ (0-a) = -a by rw[aZ omY omY];omega,zxk,zwY _ _ omY omY omY,zqe,bf,bf];exact zEy h1 h2 hd hd2 k
theorem zPd{E:zoW}:RI (zoX E):=λx a b=>ae.ext λk=>by rw[zN3,kc k,bf];congr 1;simp only[inB];grind
def Hz(g:aC):Bool:=inB g.Z 0 100000&&(decide (g.Low >= -1000000)&&(decide (g.Low<=g.High)&&decide (g.High<=1000000)))
def gK(g:aC):Prop:=(0<=g.Z/\g.Z<=100000)/\-1000000<=g.Low/\g.Low<=g.High/\g.High<=1000000
def bY(l:Sl aC):Prop:=(∀i,i<l.len->gK (l.get i))/\1<=l.len/\l.len<=24
theorem zjh{g:aC}:Hz g=true↔gK g:=by
 simp only[Hz,inB,fH,oO,gK,ge_iff_le]
def Gf(a b:aC):List straight:=if a.Z=b.Z then []else [IC a.Z a.Low b.Z b.Low,IC a.Z a.Low b.Z b.High,IC a.Z a.High b.Z b.Low,IC a.Z a.High b.Z b.High]
def Gg(g:Sl aC)(i:Nat):Nat→Nat→List straight|0,_=>[]|m+1,k=>Gf (g.get i) (g.get k)++Gg g i m (k+1)
def SB(g:Sl aC):Nat→Nat→List straight|0,_=>[]|m+1,i=>Gg g i (g.len-(i+1)) (i+1)++SB g m (i+1)
def cst(g:Sl aC):List straight:=SB g g.len 0
theorem Ad{g:aC}(h:gK g) : -1000000<=g.Low/\g.Low<=1000000:=⟨h.2.1,by have:=h.2;omega⟩
theorem Ea{g:aC}(h:gK g) : -1000000<=g.High/\g.High<=1000000:=⟨by have:=h.2;omega,h.2.2.2⟩
abbrev zxm(C:Int×Int×Int×Int->ae straight):Prop:=∀z p y q,(0<=z/\z<=100000)->(0<=y/\y<=100000)->(-1000000<=p/\p<=1000000)->(-1000000<=q/\q<=1000000)->C (z,p,y,q)=.ok (IC z p y q)
theorem zPe{E:zpT}:zxm (zpU E):=λz p y q hz hy hp hq=>ae.ext λk=>by
 have b1:=SA hp.1 hp.2 hy.1 hy.2;have b2:=SA hq.1 hq.2 hz.1 hz.2;rw[e229,bf,aZ (x:=p*y) omY omY,aZ (x:=q*z) omY omY];unfold IC;by_cases h:z>y;rw[dK h,dU,dH h,aZ (x:=p-q) omY omY,aZ (x:=z-y) omY omY,aZ (x:=q*z-p*y) omY omY];rw[dV h,dQ,dM h,aZ (x:=q-p) omY omY,aZ (x:=y-z) omY omY,aZ (x:=p*y-q*z) omY omY]
abbrev zxn(I:Pt list->ae (List straight)):Prop:=∀l:Pt list,bY l.v.bz->I l=.ok (cst l.v.bz)
theorem zPf{E:Wp}(N:Big E.N)(zec:zxm E.c229):zxn (zxe E):=λl G=>by
 have hl:=G.2.2;refine Dp ?_ (λ_=>rfl) (λ_=>rfl);rw[e228]
 have inn:∀(n i:Nat)(R:List (List PA))(sl:Sl aC),i<l.v.bz.len->sl.len=l.v.bz.len-(i+1)->(∀x,sl.get x=l.v.bz.get (x+(i+1)))->MS E n l (aQ ((i:Int)+1))=some R ->
   ∀(m j n1:Nat),j+m=sl.len->m<n1->MV E n n1 l (i:Int) sl (sl.len:Int) (j:Int) (l.v.bz.get i)=some ((Gg l.v.bz i m (j+(i+1))).map dm.enc++R):=by
  intro n i R sl hi hs hg hR m
  induction m with
  | zero =>
   intro j n1 hj hn;obtain⟨n1,rfl⟩:∃n',n1=n'+1:=⟨n1-1,omY⟩;rw[zi6,dV omY,dQ,hR];rfl
  | succ m ih =>
   intro j n1 hj hn;obtain⟨n1,rfl⟩:∃n',n1=n'+1:=⟨n1-1,omY⟩;have gi:=G.1 i hi;have gk:=G.1 (j+(i+1)) omY;have i1:=ih (j+1) n1 omY omY;rw[zi6,dK omY,dU,bF omY,bJ omY,i1,fQ,hg];show _=some (List.map dm.enc (Gf (l.v.bz.get i) (l.v.bz.get (j+(i+1)))++Gg l.v.bz i m (j+(i+1)+1))++R);unfold Gf;by_cases hz:(l.v.bz.get i).Z=(l.v.bz.get (j+(i+1))).Z;rw[dH hz,show((l.v.bz.get i).Z==(l.v.bz.get (j+(i+1))).Z)=true by simpa using hz,dU,show j+1+(i+1)=j+(i+1)+1 by omega];rfl
   rw[dM hz,show((l.v.bz.get i).Z==(l.v.bz.get (j+(i+1))).Z)=false by simpa using hz,dQ,zec _ _ _ _ gi.1 gk.1 (Ad gi) (Ad gk),zec _ _ _ _ gi.1 gk.1 (Ad gi) (Ea gk),zec _ _ _ _ gi.1 gk.1 (Ea gi) (Ad gk),zec _ _ _ _ gi.1 gk.1 (Ea gi) (Ea gk),bf,bf,bf,bf,
    show j+1+(i+1)=j+(i+1)+1 by omega];rfl
 have key:∀(m i n:Nat),i+m=l.v.bz.len->m<n->MS E n l (i:Int)=some ((SB l.v.bz m i).map dm.enc):=by
  intro m
  induction m with
  | zero =>
   intro i n hi hn;obtain⟨n,rfl⟩:∃n',n=n'+1:=⟨n-1,omY⟩;rw[zi5,dV omY];rfl
  | succ m ih =>
   intro i n hi hn;obtain⟨n,rfl⟩:∃n',n=n'+1:=⟨n-1,omY⟩;have i1:=ih (i+1) n omY omY;rw[zi5,dK omY,dU,bF omY,bJ omY,bF omY,fQ];have hs:((l.v.bz.len:Int)-((i+1:Nat):Int)).toNat=l.v.bz.len-(i+1):=by omega
   have:=inn n i _ ⟨((l.v.bz.len:Int)-((i+1:Nat):Int)).toNat,LU l.v.bz.get (((i+1:Nat):Int)).toNat⟩ omY hs (λx=>by show l.v.bz.get (x+(((i+1:Nat):Int)).toNat)=_;rw[fQ]) (by rw[bJ omY];exact i1) (l.v.bz.len-(i+1)) 0 E.N (by show 0+(l.v.bz.len-(i+1))=((l.v.bz.len:Int)-((i+1:Nat):Int)).toNat;omega) (by have:=N;omega);rw[NR]at this;refine this.trans ?_;show _=some (((Gg l.v.bz i (l.v.bz.len-(i+1)) (i+1))++SB l.v.bz m (i+1)).map dm.enc);rw[TR]
 exact key l.v.bz.len 0 E.N omY (by have:=N;omega)
abbrev zxo(C:aC->ae Bool):Prop:=∀g,C g=.ok (Hz g)
theorem zPg{E:zoU}(Bd:RI E.c157):zxo (zoV E):=λg=>ae.ext λk=>by
 rw[zN1,Bd,bf,bf];unfold Hz;cases inB g.Z 0 100000<;>cases decide (g.Low >= -1000000)<;>cases decide (g.Low<=g.High)<;>rfl
def wF(l:Sl aC):Bool:=iL (λi=>Hz (l.get i)) l.len&&inB (l.len:Int) 1 24
theorem lN{l:Sl aC}:wF l=true↔bY l:=by
 simp only[wF,fH,dD,inB,oO,zjh,bY];exact and_congr Ue omY
abbrev zji(C:Sl aC->ae Bool):Prop:=∀l:Sl aC,l.len<=1000->C l=.ok (wF l)
theorem zPh{E:zdY}(N:Big E.N)(zwB:zxo E.c156)(Bd:RI E.c157):zji (zos E):=λl hl=>ae.ext λk=>by
 rw[e109,bf,loopA (L:=λn i=>RU E n l i k) (p:=λi=>Hz (l.get i)) (m:=l.len) (fin:=k (inB (l.len:Int) 1 24)) (stop:=k false) omY (λn i hi=>?_) (λn=>?_) _ (by have:=N;omega)];unfold wF;cases iL (λi=>Hz (l.get i)) l.len<;>rfl;rw [ziq,dK omY,dU,bF omY,zwB,bf,fQ];cases Hz (l.get i)<;>rfl;rw[ziq,dV omY,dQ,Bd,bf]
/-! The first one of a list that is as wanted. -/
def fst(p:Nat→Bool):Nat→Nat→Int|0,_=>-1|m+1,i=>cond (p i) (i:Int) (fst p m (i+1))
theorem zbQ(p:Nat->Bool):∀m i,(0<=fst p m i↔∃j,i<=j/\j<i+m/\p j=true):=by
 intro m
 induction m with
 | zero=>intro i;exact⟨λh=>by simp[fst]at h,λ⟨j,h1,h2,_⟩=>by omega⟩
 | succ m ih =>
  intro i;simp only[fst];cases h:p i with
  | true=>exact⟨λ_=>⟨i,jy _,omY,h⟩,λ_=>by simp⟩
  | false =>
   rw[dQ,ih];exact⟨λ⟨j,h1,h2,h3⟩=>⟨j,omY,omY,h3⟩,λ⟨j,h1,h2,h3⟩=>⟨j,by
    have:j≠i:=λe=>by rw[e,h]at h3;cases h3
    omega,omY,h3⟩⟩
theorem wG(p:Nat->Bool)(m:Nat):decide (fst p m 0>=0) = !iL (λi=>!p i) m:=by
 rw[qdA];simp only[oO,ge_iff_le,zbQ,NQ,<- qjl,dD];constructor;rintro⟨j,_,h2,h3⟩ h;have:=h j omY;rw[h3]at this;exact absurd rfl this;intro h;apply qdx;intro hc;exact h λi hi hp=>hc ⟨i,xn _,omY,hp⟩
theorem Eb{A:Type}{L:Nat→Int→Option A}{p:Nat→Bool}{m:Nat}{k:Int→Option A}(hm:m<4611686018427387904)
    (hL:∀n i,i<m->L (n+1) (i:Int)=cond (p i) (k (i:Int)) (L n (aQ ((i:Int)+1)))) (hE:∀n,L (n+1) (m:Int)=k (-1)):∀n,m<n->L n 0=k (fst p m 0):=by
  have key:∀(d i n:Nat),i+d=m->d<n->L n (i:Int)=k (fst p d i):=by
    intro d
    induction d with
    | zero =>
      intro i n hi hn;obtain⟨n,rfl⟩:∃n',n=n'+1:=⟨n-1,omY⟩;have e:i=m:=by omega
      subst e;exact hE n
    | succ d ih =>
      intro i n hi hn;obtain⟨n,rfl⟩:∃n',n=n'+1:=⟨n-1,omY⟩;rw[hL n i omY,bJ omY,ih (i+1) n omY omY];simp only[fst];cases p i<;>rfl
  intro n hn;exact key m 0 n omY hn
def P9(x:straight)(g:aC):Bool:=inB (aQ (x.start+aQ (x.bg*g.Z))) (aQ (g.Low*x.den)) (aQ (g.High*x.den))
abbrev zxp(C:straight×aC->ae Bool):Prop:=∀x g,C (x,g)=.ok (P9 x g)
theorem zPi{E:zpX}(Bd:RI E.c157):zxp (zpY E):=λx g=>ae.ext λk=>by rw[e231,Bd,bf,bf];rfl
abbrev zxq(C:aC×Pt straight->ae Bool):Prop:=∀g (x:Pt straight),C (g,x)=.ok (!P9 x.v g)
theorem zPj{E:zpV}(zxf:zxp E.zrJ):zxq (zpW E):=λg x=>ae.ext λk=>by rw[e230,zxf,bf,bf]
def WB(x:straight)(g:aC):Bool:=aQ (x.start+aQ (x.bg*g.Z))==aQ (g.Low*x.den)
abbrev zxr(C:aC×Pt straight->ae Bool):Prop:=∀g (x:Pt straight),C (g,x)=.ok (WB x.v g)
theorem zPk{E:zqc}:zxr (zqd E):=λg x=>ae.ext λk=>by rw[e257,bf];rfl
abbrev zxs(C:aC×Pt list->ae Bool):Prop:=∀g (x:Pt list),0<x.v.bz.len->C (g,x)=.ok (g.Z != (x.v.bz.get 0).Z)
theorem zPl{E:zpK}:zxs (zpL E):=λg x h=>ae.ext λk=>by rw[e207,bf,bF omY]
abbrev zee:=dF 207 Unit (Pt list) ⊕ dF 230 Unit (Pt straight) ⊕ dF 257 Unit (Pt straight)
def zjj:zee→aC→Bool|.inl c,g=>g.Z != (c.v.v.bz.get 0).Z|.inr (.inl c),g=>!P9 c.v.v g|.inr (.inr c),g=>WB c.v.v g
def okG:zee→Prop|.inl c=>0<c.v.v.bz.len|_=>True
abbrev QIx{γ:Type}(i:γ->zee)(C:Sl aC×γ->ae Int):Prop:=∀(l:Sl aC)(c:γ),l.len<=1000->okG (i c)->C (l,c)=.ok (fst (λj=>zjj (i c) (l.get j)) l.len 0)
abbrev Oo{γ:Type}(i:γ->zee)(C:Sl aC×γ->ae Bool):Prop:=∀(l:Sl aC)(c:γ),l.len<=1000->okG (i c)->C (l,c)=.ok (!iL (λj=>!zjj (i c) (l.get j)) l.len)
abbrev zjk(C:Sl aC×zee->ae Int):Prop:=QIx id C
abbrev WC(C:Sl aC×zee->ae Bool):Prop:=Oo id C
theorem zjl{E:uO}(N:Big E.N)(zxg:zxs E.zrE):QIx .inl (D6 E):=λl c hl ho=>ae.ext λk=>by
 rw[zi7,bf];refine Eb (L:=λn i=>wB E n l c i k) (p:=λj=>zjj (.inl c) (l.get j)) (m:=l.len) (k:=k) omY (λn i hi=>?_) (λn=>?_) _ (by have:=N;omega);rw[MW,dK omY,dU,bF omY,zxg _ _ ho,bf,fQ];rfl;rw[MW,dV omY];rfl
theorem zjm{E:uP}(N:Big E.N)(zxh:zxq E.zrI):QIx (λc=>.inr (.inl c)) (D7 E):=λl c hl ho=>ae.ext λk=>by
 rw[zi9,bf];refine Eb (L:=λn i=>wC E n l c i k) (p:=λj=>zjj (.inr (.inl c)) (l.get j)) (m:=l.len) (k:=k) omY (λn i hi=>?_) (λn=>?_) _ (by have:=N;omega);rw[MX,dK omY,dU,bF omY,zxh,bf,fQ];rfl;rw[MX,dV omY];rfl
theorem zjn{E:uQ}(N:Big E.N)(zxi:zxr E.zrL):QIx (λc=>.inr (.inr c)) (D8 E):=λl c hl ho=>ae.ext λk=>by
 rw[zjb,bf];refine Eb (L:=λn i=>wE E n l c i k) (p:=λj=>zjj (.inr (.inr c)) (l.get j)) (m:=l.len) (k:=k) omY (λn i hi=>?_) (λn=>?_) _ (by have:=N;omega);rw[MZ,dK omY,dU,bF omY,zxi,bf,fQ];rfl;rw[MZ,dV omY];rfl
theorem zPm{f:Sl aC×dF 207 Unit (Pt list)->ae Int}{g:Sl aC×dF 230 Unit (Pt straight)->ae Int}{h:Sl aC×dF 257 Unit (Pt straight)->ae Int}(a:QIx .inl f)(b:QIx (λc=>.inr (.inl c)) g)(d:QIx (λc=>.inr (.inr c)) h):zjk (ae.two f (ae.two g h)):=λl c hl ho=>by
 rcases c with c|c|c
 exact a l c hl ho;exact b l c hl ho;exact d l c hl ho
theorem zjo{E:DR}(MO:zjk E.EF):Oo .inl (DT E):=λl c hl ho=>ae.ext λk=>by rw[ziV,MO l (.inl c) hl ho,bf,bf,wG];rfl
theorem zjq{E:DU}(MO:zjk E.EF):Oo (λc=>.inr (.inl c)) (DW E):=λl c hl ho=>ae.ext λk=>by rw[ziX,MO l (.inr (.inl c)) hl ho,bf,bf,wG];rfl
theorem zjr{E:DX}(MO:zjk E.EF):Oo (λc=>.inr (.inr c)) (DY E):=λl c hl ho=>ae.ext λk=>by rw[ziZ,MO l (.inr (.inr c)) hl ho,bf,bf,wG];rfl
theorem zPn{f:Sl aC×dF 207 Unit (Pt list)->ae Bool}{g:Sl aC×dF 230 Unit (Pt straight)->ae Bool}{h:Sl aC×dF 257 Unit (Pt straight)->ae Bool}(a:Oo .inl f)(b:Oo (λc=>.inr (.inl c)) g)(d:Oo (λc=>.inr (.inr c)) h):WC (ae.two f (ae.two g h)):=λl c hl ho=>by
 rcases c with c|c|c
 exact a l c hl ho;exact b l c hl ho;exact d l c hl ho
def gW(l:Sl aC):Bool:=iL (λj=>(l.get j).Z==(l.get 0).Z) l.len
theorem zqf{a b:Int}:(!(a != b))=(a==b):=by cases h:a==b<;>simp[bne,h]
abbrev ZH(C:list->ae Bool):Prop:=∀x:list,0<x.bz.len->x.bz.len<=1000->C x=.ok (gW x.bz)
theorem zPo{E:zo6}(MJ:WC E.c206):ZH (zo7 E):=λx h0 h1=>ae.ext λk=>by
 rw[e167,MJ x.bz (.inl ⟨(),⟨x⟩⟩) h1 h0,bf,bf,jqR];congr 1;exact A8 λi _=>zqf
def allB(l:Sl aC)(x:straight):Bool:=iL (λj=>P9 x (l.get j)) l.len
abbrev zxt(C:set×straight->ae Bool):Prop:=∀(s:set) x,s.list.bz.len<=1000->C (s,x)=.ok (allB s.list.bz x)
theorem zPp{E:zpC}(MJ:WC E.c206):zxt (zpD E):=λs x h1=>ae.ext λk=>by
 rw[e199,MJ s.list.bz (.inr (.inl ⟨(),⟨x⟩⟩)) h1 trivial,bf,bf,jqR];congr 1;exact A8 λi _=>jqR _
abbrev zxu(C:set×straight->ae Bool):Prop:=∀(s:set) x,s.list.bz.len<=1000->C (s,x)=.ok (!iL (λj=>!WB x (s.list.bz.get j)) s.list.bz.len)
theorem zPq{E:zqa}(MJ:WC E.c206):zxu (zqb E):=λs x h1=>ae.ext λk=>by
 rw[zO6,MJ s.list.bz (.inr (.inr ⟨(),⟨x⟩⟩)) h1 trivial,bf,bf];rfl
def ik(l:Sl aC):Nat→bC
  | 0=>⟨(l.get 0).Low,(l.get 0).High⟩
  | n+1=>⟨if(l.get n).Low>(ik l n).Low then(l.get n).Low else(ik l n).Low,if(l.get n).High<(ik l n).High then(l.get n).High else(ik l n).High⟩
abbrev zqg(C:list->ae bC):Prop:=∀x:list,0<x.bz.len->x.bz.len<=1000->C x=.ok (ik x.bz x.bz.len)
theorem zPr{E:zd9}(N:Big E.N):zqg (zpE E):=λx h0 h1=>ae.ext λk=>by
 rw[zOE,bF omY,bF omY,bf];refine pK (X:=λn i=>Su E n x (i:Int) (ik x.bz i) k) (m:=x.bz.len) (λn i hi=>?_) (λn=>?_) _ (by have:=N;omega);rw[ziT,dK omY,dU,bF omY,bJ omY,fQ];rfl;rw[ziT,dV omY];rfl
def Ae(s:straight):Prop:=(-2000000<=s.bg/\s.bg<=2000000)/\(-200000000000<=s.start/\s.start<=200000000000)/\1<=s.den/\s.den<=100000
theorem zxv{z p y q:Int}(hz:0<=z/\z<=100000)(hy:0<=y/\y<=100000)(hp : -1000000<=p/\p<=1000000)(hq : -1000000<=q/\q<=1000000)(hn:z≠y):Ae (IC z p y q):=by
 have b1:=SA hp.1 hp.2 hy.1 hy.2;have b2:=SA hq.1 hq.2 hz.1 hz.2;unfold IC Ae;by_cases h:z>y;rw[dH h];exact⟨⟨by show _<=p-q;omega,by show p-q<=_;omega⟩,⟨by show _<=q*z-p*y;omega,by show q*z-p*y<=_;omega⟩,by show _<=z-y;omega,by show z-y<=_;omega⟩;rw[dM h];exact⟨⟨by show _<=q-p;omega,by show q-p<=_;omega⟩,⟨by show _<=p*y-q*z;omega,by show p*y-q*z<=_;omega⟩,by show _<=y-z;omega,by show y-z<=_;omega⟩
theorem zjs{a b:aC}{s:straight}(h:s∈Gf a b):a.Z≠b.Z/\∃p q,(p=a.Low\/p=a.High)/\(q=b.Low\/q=b.High)/\s=IC a.Z p b.Z q:=by
 unfold Gf at h;by_cases hz:a.Z=b.Z;rw[dH hz]at h;cases h;rw [dM hz]at h;refine⟨hz,?_⟩;simp only[jW,qjk,jqC]at h;rcases h with h|h|h|h
 exact⟨_,_,.inl rfl,.inl rfl,h⟩;exact⟨_,_,.inl rfl,.inr rfl,h⟩;exact⟨_,_,.inr rfl,.inl rfl,h⟩;exact⟨_,_,.inr rfl,.inr rfl,h⟩
theorem WE{g:Sl aC}{i:Nat}{s:straight}:∀{m k:Nat},s∈Gg g i m k→∃j,k≤j∧j<k+m∧s∈Gf (g.get i) (g.get j)
  | 0,_,h=>by cases h
  | m+1,k,h=>by
    rcases dG.1 h with h|h
    exact⟨k,jy _,omY,h⟩;obtain⟨j,a,b,c⟩:=WE h;exact⟨j,omY,omY,c⟩
theorem WF{g:Sl aC}{s:straight}:∀{m i:Nat},s∈SB g m i→∃a b,i≤a∧a<i+m∧a<b∧b<g.len∧s∈Gf (g.get a) (g.get b)
  | 0,_,h=>by cases h
  | m+1,i,h=>by
    rcases dG.1 h with h|h
    obtain⟨j,a,b,c⟩:=WE h;exact⟨i,j,jy _,omY,omY,omY,c⟩;obtain⟨a,b,h1,h2,h3,h4,h5⟩:=WF h;exact⟨a,b,omY,omY,h3,h4,h5⟩
theorem zbR{g:Sl aC}{s:straight}(h:s∈cst g):∃a b,a<b/\b<g.len/\(g.get a).Z≠(g.get b).Z/\∃p q,(p=(g.get a).Low\/p=(g.get a).High)/\(q=(g.get b).Low\/q=(g.get b).High)/\s=IC (g.get a).Z p (g.get b).Z q:=by
 obtain⟨a,b,_,_,h3,h4,h5⟩:=WF h;obtain⟨hz,r⟩:=zjs h5;exact⟨a,b,h3,h4,hz,r⟩
theorem Bf{g:Sl aC}(G:bY g){s:straight}(h:s∈cst g):Ae s:=by
 obtain⟨a,b,h1,h2,hz,p,q,hp,hq,rfl⟩:=zbR h;have ga:=G.1 a omY;have gb:=G.1 b h2;refine zxv ga.1 gb.1 ?_ ?_ hz;rcases hp with rfl|rfl;exact Ad ga;exact Ea ga
 rcases hq with rfl|rfl;exact Ad gb;exact Ea gb
def rQ(l:Line):List Int:=[l.pO.Num,l.pO.bV,l.Start.Num,l.Start.bV]
theorem zef{a b:Line}(h:rQ a=rQ b):a=b:=by
 unfold rQ at h;simp only[ES,qj1]at h;obtain⟨h1,h2,h3,h4⟩:=h;obtain⟨⟨a1,a2⟩,a3,a4⟩:=a;obtain⟨⟨b1,b2⟩,b3,b4⟩:=b;simp only at h1 h2 h3 h4;rw[h1,h2,h3,h4]
theorem zjt(a b:aC):(Gf a b).length<=4:=by unfold Gf;split<;>simp
theorem zju(g:Sl aC)(i m k:Nat):(Gg g i m k).length<=4*m:=by
 induction m generalizing k with|zero=>exact jy _|succ m ih=>show(Gf _ _++Gg g i m (k+1)).length<=_;rw[BG];have:=ih (k+1);have:=zjt (g.get i) (g.get k);omega
theorem zjv(g:Sl aC):∀m i,(SB g m i).length<=4*g.len*m:=by
 intro m
 induction m with
 | zero=>intro i;exact jy _
 | succ m ih =>
  intro i;show(Gg g i (g.len-(i+1)) (i+1)++SB g m (i+1)).length<=_;rw[BG,Nat.mul_succ];have:=ih (i+1);have:=zju g i (g.len-(i+1)) (i+1);omega
theorem zbS{g:Sl aC}(G:bY g):(cst g).length<=2304:=by
 have h1:=zjv g g.len 0;have hl:=G.2.2;have:4*g.len*g.len<=4*24*24:=qjF omY hl;exact BH h1 this
def mX{α:Type}[bn α](v:Sl α)(x:α):Sl α:=⟨v.len+1,lm v.len v.get (λ_=>x)⟩
theorem Af{α:Type}[bn α](l:List α):∀v:Sl α,(l.foldl mX v).len=v.len+l.length:=by
 induction l with|nil=>intro v;rfl|cons x l ih=>intro v;rw[qdy,ih];show v.len+1+l.length=v.len+(l.length+1);omega
theorem SC{α:Type}[bn α][rq α](l:List α):∀(v:Sl α)(i:Nat),i<v.len->(l.foldl mX v).get i=v.get i:=by
 induction l with
 | nil=>intro v i _;rfl
 | cons x l ih =>
  intro v i hi;rw[qdy,ih _ _ (show i<v.len+1 by omega)];show lm v.len v.get (λ_=>x) i=_;rw[jD,dM omY]
theorem Oq{α:Type}[bn α][rq α](l:List α):∀(v:Sl α)(i:Nat)(x:α),l[i]? = some x->(l.foldl mX v).get (v.len+i)=x:=by
 induction l with
 | nil=>intro v i x h;simp at h
 | cons y l ih =>
  intro v i x h;rw[qdy];cases i with
  | zero =>
   simp only[qdp,bG]at h;subst h;rw[SC l _ _ (show v.len+0<v.len+1 by omega)];show lm v.len v.get (λ_=>y) (v.len+0)=_;rw[jD,dH omY]
  | succ i =>
   have:=ih (mX v y) i x (by simpa using h);rw[<- this];congr 1;show v.len+(i+1)=v.len+1+i;omega
abbrev zqh(C:straight->ae Line):Prop:=∀x,Ae x->C x=.ok (nZ x)
theorem zPs{E:zpA}(qg:ZG E.ku):zqh (zpB E):=λx h=>ae.ext λk=>by
 obtain⟨h1,h2,h3⟩:=h;rw[zOB,qg _ _ omY omY omY omY,qg _ _ omY omY omY omY,bf,bf,bf];rfl
def Gi(g:Sl aC):List straight→List straight→(List Int→Option (List Int))→List straight|[],acc,_=>acc|y::r,acc,F=>cond (!(sD (F (rQ (nZ y))) 0 != 0)) (cond (allB g y) (Gi g r (acc++[y]) (lT (rQ (nZ y)) [1] F)) (Gi g r acc F)) (Gi g r acc F)
def jq(g:Sl aC):List straight:=cond (gW g) [] (Gi g (cst g) [] λ_=>none)
abbrev HY{α:Type}[Inhabited α]:Sl α:=⟨0,λ_=>default⟩
abbrev zjw(C:Sl aC->ae set):Prop:=∀g,bY g->C g=.ok ⟨⟨g⟩,(jq g).foldl mX HY⟩
theorem zPt{E:zd3}(vZ:ZH E.c167)(i228:zxn E.i228)(ZA:zqh E.c198)(zwV:zxt E.zrB):zjw (zoY E):=λg G=>ae.ext λk=>by
 have hl:=G.2;rw[zN5,vZ ⟨g⟩ (by show 0<g.len;omega) (by show g.len<=1000;omega),bf,bf];unfold jq;cases gW g with
 | true=>rfl
 | false =>
  rw[dQ,dQ,i228 ⟨⟨g⟩⟩ G,bf];have key:∀(r acc:List straight)(n:Nat)(F:List Int->Option (List Int)),(∀s∈r,Ae s)->acc.length+r.length<=10000->o7 E r g (acc.foldl mX HY) n F k=k ⟨⟨g⟩,(Gi g r acc F).foldl mX HY⟩:=by
   intro r
   induction r with
   | nil=>intro acc n F _ _;exact zoZ ..
   | cons y r ih =>
    intro acc n F hs hn;have qZ:∀s∈r,Ae s:=λs h=>hs s (jB _ h);rw[xm]at hn;rw[zwU,ZA y (hs y jM),bf,zwV ⟨⟨g⟩,_⟩ y (by show g.len<=1000;omega),bf];have e1:∀m F,o7 E r g (acc.foldl mX HY) m F k=_:=λm F=>ih acc m F qZ omY;have e2:∀m F,o7 E r g ((acc++[y]).foldl mX HY) m F k=_:=λm F=>ih (acc++[y]) m F qZ (by rw[BG];simp only[xm,X6];omega);have hlen:(acc.foldl mX HY).len=acc.length:=by rw[Af];simp
    have EL:room ((acc.foldl mX HY).len+1) 24=true:=dK (by rw[hlen];omega);have hf:(⟨(acc.foldl mX HY).len+1,lm (acc.foldl mX HY).len (acc.foldl mX HY).get (λ_=>y)⟩:Sl straight)=(acc++[y]).foldl mX HY:=by rw[List.foldl_append];rfl
    rw[EL,hf];show cond (!(sD (F (rQ (nZ y))) 0 != 0)) (cond (allB g y) (o7 E r g ((acc++[y]).foldl mX HY) _ (lT (rQ (nZ y)) [1] F) k) (o7 E r g (acc.foldl mX HY) n F k)) (o7 E r g (acc.foldl mX HY) n F k)=_;rw[e1,e2];simp only[Gi];cases(sD (F (rQ (nZ y))) 0 != 0)<;>cases allB g y<;>rfl
  exact key (cst g) [] 0 _ (λs h=>Bf G h) (by have:=zbS G;simp only[X6];omega)
theorem zqi(g:Sl aC):∀(r acc:List straight)(F:List Int->Option (List Int)),(∀c,(sD (F c) 0 != 0)=true↔∃x∈acc,rQ (nZ x)=c)->acc.Pairwise (λx y=>nZ x≠nZ y) ->
    (∀s∈Gi g r acc F,s∈acc\/(s∈r/\allB g s=true))/\(∀s∈acc,s∈Gi g r acc F)/\(∀s∈r,allB g s=true->∃x∈Gi g r acc F,nZ x=nZ s)/\(Gi g r acc F).Pairwise (λx y=>nZ x≠nZ y):=by
  intro r
  induction r with
  | nil=>intro acc F _ hp;exact⟨λs h=>.inl h,λs h=>h,(λs h=>by cases h),hp⟩
  | cons y r ih =>
    intro acc F hF hp;have skip:=ih acc F hF hp;simp only[Gi];cases h1:(sD (F (rQ (nZ y))) 0 != 0)with
    | true =>
      obtain⟨c3,c4,c5,c6⟩:=skip;simp only[qds,dQ];refine⟨λs h=>(c3 s h).imp id λk=>⟨jB _ k.1,k.2⟩,c4,λs h ha=>?_,c6⟩;rcases jW.1 h with rfl|h
      obtain⟨x,hx,hc⟩:=(hF _).1 h1;exact⟨x,c4 x hx,zef hc⟩;exact c5 s h ha
    | false =>
      cases h2:allB g y with
      | true =>
        simp only[qjG,dU]
        obtain⟨c3,c4,c5,c6⟩:=ih (acc++[y]) (lT (rQ (nZ y)) [1] F)
          (λc=>by
            unfold lT;by_cases hc:c=rQ (nZ y);rw [dK hc];exact⟨λ_=>⟨y,by simp,hc.symm⟩,λ_=>rfl⟩;rw [dV hc];refine(hF c).trans ⟨λ⟨x,hx,e⟩=>⟨x,dG.2 (.inl hx),e⟩,λ⟨x,hx,e⟩=>?_⟩;rcases dG.1 hx with hx|hx
            exact⟨x,hx,e⟩;rw[kK.1 hx]at e;exact absurd e.symm hc)
          (by
            rw[qdE];refine⟨hp,jqF _ _,λa ha b hb=>?_⟩;rw[kK.1 hb];exact λe=>by rw[(hF _).2 ⟨a,ha,by rw[e]⟩]at h1;cases h1)
        have hy:=c4 y (by simp);refine⟨λs h=>?_,λs h=>c4 s (dG.2 (.inl h)),λs h ha=>?_,c6⟩;rcases c3 s h with h|h
        rcases dG.1 h with h|h
        exact .inl h;rw[kK.1 h];exact .inr ⟨jM,h2⟩;exact .inr ⟨jB _ h.1,h.2⟩;rcases jW.1 h with rfl|h
        exact⟨s,hy,rfl⟩;exact c5 s h ha
      | false =>
        obtain⟨c3,c4,c5,c6⟩:=skip;simp only[qjG,dU,dQ];refine⟨λs h=>(c3 s h).imp id λk=>⟨jB _ k.1,k.2⟩,c4,λs h ha=>?_,c6⟩;rcases jW.1 h with rfl|h
        rw[h2]at ha;cases ha;exact c5 s h ha
theorem SE{g:Sl aC}(hf:gW g=false):(∀s∈jq g,s∈cst g/\allB g s=true)/\(∀s∈cst g,allB g s=true->∃x∈jq g,nZ x=nZ s)/\(jq g).Pairwise (λx y=>nZ x≠nZ y):=by
 unfold jq;rw[hf,dQ];obtain⟨c3,_,c5,c6⟩:=zqi g (cst g) [] (λ_=>none) (λc=>⟨λh=>by simp[sD]at h,λ⟨x,hx,_⟩=>by cases hx⟩) List.Pairwise.nil;refine⟨λs h=>?_,c5,c6⟩;rcases c3 s h with h|h
 cases h;exact h
def gp(g:Sl aC):Bool:=cond (gW g) (decide ((ik g g.len).Low<=(ik g g.len).High)) (decide (((jq g).length:Int)>0))
def iI(g:Sl aC):set:=⟨⟨g⟩,(jq g).foldl mX HY⟩
theorem Ec(g:Sl aC):(iI g).bU.len=(jq g).length:=by show((jq g).foldl mX HY).len=_;rw[Af];simp
abbrev zjx(C:set->ae Bool):Prop:=∀g,bY g->C (iI g)=.ok (gp g)
theorem zPu{E:zo0}(ZB:zqg E.TJ)(vZ:ZH E.c167):zjx (zo1 E):=λg G=>ae.ext λk=>by
 have hl:=G.2;rw[zN8,ZB _ (by show 0<g.len;omega) (by show g.len<=1000;omega),bf,vZ _ (by show 0<g.len;omega) (by show g.len<=1000;omega),bf,bf,Ec,kc k];rfl
def Gj(g:Sl aC)(b:Bool):set×Int:=cond (wF g) (cond (gp g) (cond (gW g && !b) (⟨⟨HY⟩,HY⟩,6) (iI g,0)) (⟨⟨HY⟩,HY⟩,5)) (⟨⟨HY⟩,HY⟩,2)
abbrev zxw(C:list->ae Bool):Prop:=∀l,C l=.ok false
theorem zPv{E:zoA}:zxw (zoB E):=λl=>ae.ext λk=>by rw[e118,bf]
abbrev zxx(C:list×Pt Int->ae Bool):Prop:=∀(l:list)(z:Pt Int),0<l.bz.len->C (l,z)=.ok ((l.bz.get 0).Z==z.v)
theorem zPw{E:zo2}:zxx (zo3 E):=λl z h=>ae.ext λk=>by rw[e162,bf,bF omY]
abbrev zxy:=dF 118 Unit Unit ⊕ dF 162 Unit (Pt Int)
def zPx(g:Sl aC):zxy→Bool|.inl _=>false|.inr c=>(g.get 0).Z==c.v.v
abbrev QOp{γ:Type}(i:γ->zxy)(C:Sl aC×γ->ae (set×Int)):Prop:=∀(g:Sl aC)(c:γ),g.len<=1000->C (g,c)=.ok (Gj g (zPx g (i c)))
abbrev zqj(C:Sl aC×zxy->ae (set×Int)):Prop:=QOp id C
theorem zjy{E:Dt}(Mc:zji E.c109)(Md:zjw E.Bz)(Me:zjx E.c159)(vZ:ZH E.c167)(zwG:zxw E.zrn):QOp .inl (Du E):=λg c hl=>ae.ext λk=>by
 rw[zis,Mc g hl,bf,bf];unfold Gj;cases hg:wF g with
 | false=>rfl
 | true =>
  have G:=lN.1 hg;have G2:=G.2;rw[Md g G,bf,show(⟨⟨g⟩,(jq g).foldl mX HY⟩:set)=iI g from rfl,Me g G,bf,vZ _ (by show 0<g.len;omega) (by show g.len<=1000;omega),bf,zwG,bf];show cond (!true) _ (cond (!gp g) _ (cond (gW g) _ _))=_;cases gp g<;>cases gW g<;>rfl
theorem zjz{E:Dv}(Mc:zji E.c109)(Md:zjw E.Bz)(Me:zjx E.c159)(vZ:ZH E.c167)(zwH:zxx E.c162):QOp .inr (Dw E):=λg c hl=>ae.ext λk=>by
 rw[ziu,Mc g hl,bf,bf];unfold Gj;cases hg:wF g with
 | false=>rfl
 | true =>
  have G:=lN.1 hg;have G2:=G.2;rw[Md g G,bf,show(⟨⟨g⟩,(jq g).foldl mX HY⟩:set)=iI g from rfl,Me g G,bf,vZ _ (by show 0<g.len;omega) (by show g.len<=1000;omega),bf,zwH _ _ (by show 0<g.len;omega),bf];show cond (!true) _ (cond (!gp g) _ (cond (gW g) (cond (!((g.get 0).Z==c.v.v)) _ _) _))=k (cond true (cond (gp g) (cond (gW g && !((g.get 0).Z==c.v.v)) _ _) _) _);cases gp g<;>cases gW g<;>cases((g.get 0).Z==c.v.v)<;>rfl
theorem zPy{f:Sl aC×dF 118 Unit Unit->ae (set×Int)}{h:Sl aC×dF 162 Unit (Pt Int)->ae (set×Int)}(a:QOp .inl f)(b:QOp .inr h):zqj (ae.two f h):=λg c hl=>by
 rcases c with c|c
 exact a g c hl;exact b g c hl
def iG(s:straight)(z:Int):Int:=s.start+s.bg*z
def iq(s:straight)(g:aC):Bool:=decide (g.Low*s.den<=iG s g.Z/\iG s g.Z<=g.High*s.den)
def zxA(s:straight)(g:aC):Bool:=decide (iG s g.Z=g.Low*s.den)
theorem zbT{s:straight}(S:Ae s){z:Int}(hz : -200000<=z/\z<=200000):aQ (s.start+aQ (s.bg*z))=iG s z/\(-600000000000<=iG s z/\iG s z<=600000000000):=by
 have b : -400000000000<=s.bg*z/\s.bg*z<=400000000000:=by
  rcases qj9 z 0 with h|h
  have:=SA (x:=s.bg) (y := -z) (X:=2000000) (Y:=200000) (by have:=S.1;omega) (by have:=S.1;omega) omY omY;rw[Int.mul_neg]at this;omega;exact SA (X:=2000000) (Y:=200000) (by have:=S.1;omega) (by have:=S.1;omega) h omY
 have:=S.2.1;unfold iG;rw[aZ (x:=s.bg*z) omY omY,aZ omY omY];omega
theorem zjA{s:straight}(S:Ae s){p:Int}(hp : -1000000<=p/\p<=1000000):aQ (p*s.den)=p*s.den:=by
 have:=SA hp.1 hp.2 (show 0<=s.den by have:=S.2.2;omega) S.2.2.2;exact aZ omY omY
theorem WG{s:straight}(S:Ae s){g:aC}(h:gK g):P9 s g=iq s g:=by
 unfold P9 iq inB;rw[(zbT S (z:=g.Z) (by have:=h.1;omega)).1,zjA S (Ad h),zjA S (Ea h)]
theorem zbU{s:straight}(S:Ae s){g:aC}(h:gK g):WB s g=zxA s g:=by
 unfold WB zxA;rw[(zbT S (z:=g.Z) (by have:=h.1;omega)).1,zjA S (Ad h)];rw[qdA];simp
def Bg(g:Sl aC)(s:straight):Prop:=∀i,i<g.len->iq s (g.get i)=true
def nR(g:Sl aC)(s:straight):Prop:=∃i,i<g.len/\zxA s (g.get i)=true
theorem Ed{g:Sl aC}(G:bY g){s:straight}(S:Ae s):allB g s=true↔Bg g s:=by
 unfold allB;rw[dD];exact⟨λh i hi=>by rw[<- WG S (G.1 i hi)];exact h i hi,λh i hi=>by rw[WG S (G.1 i hi)];exact h i hi⟩
theorem WH{g:Sl aC}(G:bY g){s:straight}(S:Ae s):(!iL (λj=>!WB s (g.get j)) g.len)=true↔nR g s:=by
 rw[NQ,<- qjl,dD];constructor
 ·intro h;apply qdx;intro hc;refine h λi hi=>?_;cases e:WB s (g.get i)with|false=>rfl|true=>rw[zbU S (G.1 i hi)]at e;exact(hc ⟨i,hi,e⟩).elim
 rintro⟨i,hi,e⟩ h;have:=h i hi;rw[zbU S (G.1 i hi),e]at this;cases this
def Ag(g:Sl aC)(s:straight):Prop:=s∈cst g/\Bg g s
theorem qR{g:Sl aC}(G:bY g){s:straight}(h:Ag g s):Ae s:=Bf G h.1
def zF(a b:aP):Prop:=a.Num*b.bV<b.Num*a.bV
def Nb(s:straight):aP:=⟨s.bg,s.den⟩
theorem ZI{z p y q:Int}(h:z≠y):iG (IC z p y q) z=p*(IC z p y q).den/\iG (IC z p y q) y=q*(IC z p y q).den:=by
 unfold IC iG;split;constructor;show q*z-p*y+(p-q)*z=p*(z-y);rw[jqj,jqk];omega;show q*z-p*y+(p-q)*y=q*(z-y);rw[jqj,jqk];omega;constructor;show p*y-q*z+(q-p)*z=p*(y-z);rw[jqj,jqk];omega;show p*y-q*z+(q-p)*y=q*(y-z);rw[jqj,jqk];omega
def zbV(g:Sl aC)(s:straight):Prop:=∃i,i<g.len/\iG s (g.get i).Z=(g.get i).High*s.den
theorem zeg{g:Sl aC}{s:straight}(h:s∈cst g):nR g s\/zbV g s:=by
 obtain⟨a,b,h1,h2,hz,p,q,hp,hq,rfl⟩:=zbR h;have e:=(ZI (p:=p) (q:=q) hz).1;rcases hp with rfl|rfl
 exact .inl ⟨a,omY,dK e⟩;exact .inr ⟨a,omY,e⟩
theorem par{s t:straight}(h:s.bg*t.den=t.bg*s.den)(z:Int):iG s z*t.den-iG t z*s.den=s.start*t.den-t.start*s.den:=by
  unfold iG;rw[qjN,qjN];have e:s.bg*z*t.den=t.bg*z*s.den:=by
    calc s.bg * z * t.den = s.bg * t.den * z := by ac_rfl
      _=t.bg*z*s.den:=by rw[h];ac_rfl
  omega
theorem wH{g:Sl aC}{s:straight}(h:Bg g s){i:Nat}(hi:i<g.len):(g.get i).Low*s.den<=iG s (g.get i).Z/\iG s (g.get i).Z<=(g.get i).High*s.den:=qde (h i hi)
theorem zxB{g:Sl aC}(G:bY g){s t:straight}(hs:Ag g s)(ht:Ag g t)(h:s.bg*t.den=t.bg*s.den)(hl:s.start*t.den<t.start*s.den):¬nR g t/\¬zbV g s:=by
 have ps:0<s.den:=by have:=(qR G hs).2.2;omega
 have pt:0<t.den:=by have:=(qR G ht).2.2;omega
 constructor;intro⟨i,hi,e⟩;have e:iG t (g.get i).Z=(g.get i).Low*t.den:=qde e;have a:=(wH hs.2 hi).1;have p:=par h (g.get i).Z;have a2:=Uc a (Il pt);have:(g.get i).Low*s.den*t.den=iG t (g.get i).Z*s.den:=by rw[e];ac_rfl
 omega;intro⟨i,hi,e⟩;have a:=(wH ht.2 hi).2;have p:=par h (g.get i).Z;have a2:=Uc a (Il ps);have:(g.get i).High*t.den*s.den=iG s (g.get i).Z*t.den:=by rw[e];ac_rfl
 omega
theorem WI{g:Sl aC}(G:bY g){s t:straight}(hs:Ag g s)(ht:Ag g t)(hf:nR g s↔nR g t)(h1:¬zF (Nb s) (Nb t))(h2:¬zF (Nb t) (Nb s)):nZ s=nZ t:=by
 have ps:0<s.den:=by have:=(qR G hs).2.2;omega
 have pt:0<t.den:=by have:=(qR G ht).2.2;omega
 have h:s.bg*t.den=t.bg*s.den:=by
  have a:¬s.bg*t.den<t.bg*s.den:=h1;have b:¬t.bg*s.den<s.bg*t.den:=h2;omega
 have key:∀{s t:straight},Ag g s->Ag g t->(nR g s↔nR g t)->s.bg*t.den=t.bg*s.den->¬s.start*t.den<t.start*s.den:=fun {s t} hs ht hf h hl=>by
  obtain⟨a,b⟩:=zxB G hs ht h hl;rcases zeg hs.1 with c|c
  exact a (hf.1 c);exact b c
 have e:s.start*t.den=t.start*s.den:=by
  have a:=key hs ht hf h;have b:=key ht hs hf.symm h.symm;omega
 unfold nZ;rw[(zjf ps pt).2 h,(zjf ps pt).2 e]
def Nc(g:Sl aC)(s t:straight):Prop:=(nR g s/\(nR g t->zF (Nb s) (Nb t)))\/(¬nR g s/\¬nR g t/\zF (Nb t) (Nb s))
theorem SG{a:aP}:¬zF a a:=by unfold zF;omega
theorem zbW{a b:aP}(h:zF a b):¬zF b a:=by unfold zF at *;omega
theorem zbX{a b c:aP}(ha:0<a.bV)(hb:0<b.bV)(hc:0<c.bV)(h1:zF a b)(h2:zF b c):zF a c:=by
 unfold zF at *;have y1:=qjv h1 hc;have y2:=qjv h2 ha;have z1:b.Num*a.bV*c.bV=b.Num*c.bV*a.bV:=by ac_rfl
 have z2:c.Num*b.bV*a.bV=c.Num*a.bV*b.bV:=by ac_rfl
 have z3:a.Num*b.bV*c.bV=a.Num*c.bV*b.bV:=by ac_rfl
 have:a.Num*c.bV*b.bV<c.Num*a.bV*b.bV:=by omega
 exact jqp this (Il hb)
theorem zqk{g:Sl aC}{s:straight}:¬Nc g s s:=λh=>by
 rcases h with⟨a,b⟩|⟨_,_,c⟩
 exact SG (b a);exact SG c
theorem zjB{g:Sl aC}{s t:straight}(h:Nc g s t):¬Nc g t s:=λk=>by
 rcases h with⟨a,b⟩|⟨a,b,c⟩<;>rcases k with⟨x,y⟩|⟨x,y,z⟩
 exact zbW (b x) (y a);exact y a;exact b x;exact zbW c z
theorem zeh{g:Sl aC}(G:bY g){s t u:straight}(hs:Ag g s)(ht:Ag g t)(hu:Ag g u)(h:Nc g s t)(k:Nc g t u):Nc g s u:=by
 have ps:0<(Nb s).bV:=by have:=(qR G hs).2.2;show 0<s.den;omega
 have pt:0<(Nb t).bV:=by have:=(qR G ht).2.2;show 0<t.den;omega
 have pu:0<(Nb u).bV:=by have:=(qR G hu).2.2;show 0<u.den;omega
 rcases h with⟨a,b⟩|⟨a,b,c⟩<;>rcases k with⟨x,y⟩|⟨x,y,z⟩
 exact .inl ⟨a,λw=>zbX ps pt pu (b x) (y w)⟩;exact .inl ⟨a,λw=>absurd w y⟩;exact absurd x b;exact .inr ⟨a,y,zbX pu pt ps z c⟩
theorem zql{g:Sl aC}(G:bY g){s t:straight}(hs:Ag g s)(ht:Ag g t)(hn:nZ s≠nZ t):Nc g s t\/Nc g t s:=by
 by_cases a:nR g s<;>by_cases b:nR g t;by_cases c:zF (Nb s) (Nb t);exact .inl (.inl ⟨a,λ_=>c⟩);by_cases d:zF (Nb t) (Nb s);exact .inr (.inl ⟨b,λ_=>d⟩);exact absurd (WI G hs ht ⟨λ_=>b,λ_=>a⟩ c d) hn;exact .inl (.inl ⟨a,λw=>absurd w b⟩);exact .inr (.inl ⟨b,λw=>absurd w a⟩);by_cases c:zF (Nb s) (Nb t);exact .inr (.inr ⟨b,a,c⟩);by_cases d:zF (Nb t) (Nb s);exact .inl (.inr ⟨a,b,d⟩);exact absurd (WI G hs ht ⟨λw=>absurd w a,λw=>absurd w b⟩ c d) hn
abbrev zqm(C:Int->ae Bool):Prop:=∀x,C x=.ok false
theorem zPz{E:zp3}:zqm (zp4 E):=λx=>ae.ext λk=>by rw[zOY,bf,show(x != x)=false by simp]
def qi(a b:Int):Int:=cond (decide (a<b)) (-1) (cond (decide (a>b)) 1 0)
abbrev ZJ(C:Int×Int->ae Int):Prop:=∀a b,C (a,b)=.ok (qi a b)
theorem zPA{E:zpM}(We:zqm E.NJ):ZJ (zpN E):=λa b=>ae.ext λk=>by
 rw[e208,We,bf,We,bf,bf];unfold qi;cases decide (a<b)<;>cases decide (a>b)<;>rfl
def FOK(f:aP):Prop:=(-1000000000<=f.Num/\f.Num<=1000000000)/\0<f.bV/\f.bV<=1000000000
def cmF(a b:aP):Int:=qi (a.Num*b.bV) (b.Num*a.bV)
theorem zEz{a b:aP}(h1:FOK a)(h2:FOK b):aQ (a.Num*b.bV)=a.Num*b.bV:=by
 have:=SA h1.1.1 h1.1.2 (Il h2.2.1) h2.2.2;exact aZ omY omY
abbrev zjC(C:aP×aP->ae Int):Prop:=∀a b:aP,aQ (a.Num*b.bV)=a.Num*b.bV->aQ (b.Num*a.bV)=b.Num*a.bV->C (a,b)=.ok (cmF a b)
theorem zPC{E:zpa}(ZC:ZJ E.c208):zjC (zpb E):=λa b h1 h2=>ae.ext λk=>by
 rw[e170,ZC,bf,bf,h1,h2];rfl
theorem zjD{a b:aP}:cmF a b<0↔zF a b:=by
 unfold cmF qi zF;by_cases h:a.Num*b.bV<b.Num*a.bV;rw[dK h];simp[h];rw [dV h];cases decide (a.Num*b.bV>b.Num*a.bV)<;>simp[h]
theorem zjE{a b:aP}:0-cmF a b<0↔zF b a:=by
 unfold cmF qi zF;by_cases h:a.Num*b.bV<b.Num*a.bV;rw[dK h];simp;omega;rw [dV h];by_cases h2:a.Num*b.bV>b.Num*a.bV;rw[dK h2];simp;omega;rw[dV h2];simp;omega
theorem zEA(a b:aP) : -1<=cmF a b/\cmF a b<=1:=by
 unfold cmF qi;cases decide (a.Num*b.bV<b.Num*a.bV)<;>cases decide (a.Num*b.bV>b.Num*a.bV)<;>simp
theorem zjF{a b c d:Int}(hb:0<b)(hd:0<d):zF (red a b) (red c d)↔a*d<c*b:=by
 have a1:=qh (num:=a) hb;have a2:=nY (num:=a) hb;have c1:=qh (num:=c) hd;have c2:=nY (num:=c) hd;have hG:=mP (num:=a) hb;have hK:=mP (num:=c) hd;unfold zF;generalize (Int.gcd a b:Int)=G at a1 a2 hG;generalize (Int.gcd c d:Int)=K at c1 c2 hK;generalize (red a b).Num=p at a1 ⊢;generalize (red a b).bV=q at a2 ⊢;generalize (red c d).Num=u at c1 ⊢;generalize (red c d).bV=v at c2 ⊢;subst a1 a2 c1 c2;have e1:G*p*(K*v)=p*v*(G*K):=by ac_rfl
 have e2:K*u*(G*q)=u*q*(G*K):=by ac_rfl
 rw[e1,e2];have hp:=jqi hG hK;exact⟨λh=>qjv h hp,λh=>jqp h (Il hp)⟩
theorem Jm{a b:Int}(h1 : -1000000000<=a)(h2:a<=1000000000)(hb:0<b)(Ub:b<=1000000000):FOK (red a b):=by
 have r1:=D9 (num:=a) hb;have r2:=Na (num:=a) hb;have r3:=kF (num:=a) hb;exact⟨omY,omY,omY⟩
def xx(g:Sl aC)(s:straight):Bool:=!iL (λj=>!WB s (g.get j)) g.len
def zjG(g:Sl aC)(s t:straight):Int:=cond (xx g s) (cond (xx g t) (cmF (red s.bg s.den) (red t.bg t.den)) (-1)) (cond (xx g t) 1 (aQ (0-cmF (red s.bg s.den) (red t.bg t.den))))
abbrev zxC(C:straight×straight×Pt set->ae Int):Prop:=∀s t (P:Pt set),Ae s->Ae t->P.v.list.bz.len<=1000->C (s,t,P)=.ok (zjG P.v.list.bz s t)
theorem zPD{E:zp7}(zp9:zxu E.zld)(qg:ZG E.ku)(MN:zjC E.EE):zxC (zp8 E):=λs t P S T hl=>ae.ext λk=>by
 have s1:=S.1;have s3:=S.2.2;have t1:=T.1;have t3:=T.2.2
 rw[e254,zp9 _ _ hl,bf,zp9 _ _ hl,bf,qg _ _ omY omY omY omY,bf,qg _ _ omY omY omY omY,bf,
  MN _ _ (zEz (Jm omY omY omY omY) (Jm omY omY omY omY)) (zEz (Jm omY omY omY omY) (Jm omY omY omY omY)),bf,bf]
 unfold zjG;show cond (xx P.v.list.bz s) (cond (xx P.v.list.bz t) _ (cond (xx P.v.list.bz s) _ (cond (xx P.v.list.bz t) _ _))) (cond (xx P.v.list.bz s) _ (cond (xx P.v.list.bz t) _ _))=_;cases xx P.v.list.bz s<;>cases xx P.v.list.bz t<;>rfl
theorem zqn{g:Sl aC}(G:bY g){s t:straight}(hs:Ag g s)(ht:Ag g t):zjG g s t<0↔Nc g s t:=by
 have S:=qR G hs;have T:=qR G ht;have a:=WH G S;have b:=WH G T;have ps:0<s.den:=by have:=S.2.2;omega
 have pt:0<t.den:=by have:=T.2.2;omega
 have e1:=(zjD (a:=red s.bg s.den) (b:=red t.bg t.den)).trans (zjF ps pt);have e2:=(zjE (a:=red s.bg s.den) (b:=red t.bg t.den)).trans (zjF pt ps);have bb:=zEA (red s.bg s.den) (red t.bg t.den);have e3:zF (Nb s) (Nb t)↔s.bg*t.den<t.bg*s.den:=Ue;have e4:zF (Nb t) (Nb s)↔t.bg*s.den<s.bg*t.den:=Ue;unfold zjG Nc;rw[<- a,<- b,e3,e4,<- e1,<- e2,aZ omY omY];show cond (xx g s) _ _<0↔(xx g s=true/\(xx g t=true->_))\/(¬xx g s=true/\¬xx g t=true/\_);cases xx g s<;>cases xx g t<;>simp
theorem ztb{α:Type}[bn α][rq α]{C:List PA→ae (List PA)}{caps:List PV}{ag:Bool}{w:Sl α}{cmp:α→α→Int}{R:α→α→Prop}(hn:w.len≤1000000)
    (hc:∀i j,i<w.len->j<w.len->JG C caps ag (sW w) i j=some (cmp (w.get i) (w.get j))) (hR:∀i j,i<w.len->j<w.len->(cmp (w.get i) (w.get j)<0↔R (w.get i) (w.get j)))
    (irr:∀i,i<w.len->¬R (w.get i) (w.get i)) (tot:∀i j,i<w.len->j<w.len->i≠j->R (w.get i) (w.get j)\/R (w.get j) (w.get i)) (asym:∀i j,i<w.len->j<w.len->R (w.get i) (w.get j)->¬R (w.get j) (w.get i))
    (tr:∀i j k,i<w.len->j<w.len->k<w.len->R (w.get i) (w.get j)->R (w.get j) (w.get k)->R (w.get i) (w.get k)) :
    soP C caps ag w=true/\∃l:List Nat,l.Perm (List.range w.len)/\l.Pairwise (λi j=>R (w.get i) (w.get j))/\∀i (h:i<l.length),soG C caps ag w i=w.get l[i]:=by
  have hv:∀i j,i<w.len->j<w.len->(nH C caps ag (sW w) i j<0↔R (w.get i) (w.get j)):=λi j hi hj=>by
    unfold nH;rw[hc i j hi hj];exact hR i j hi hj
  have S1:zf2 w.len (λi j=>(JG C caps ag (sW w) i j).isSome) (nH C caps ag (sW w))=true:=by
    simp only[zf2,Aj,Ak,fH,qdj,oO,NQ,jqJ,qdk];intro i hi;refine⟨by have:¬nH C caps ag (sW w) i i<0:=λh=>irr i hi ((hv i i hi hi).1 h);omega,λj hj=>?_⟩;refine⟨⟨by rw[hc i j hi hj];rfl,?_⟩,λk hk=>?_⟩;by_cases IR:i=j;exact .inl (.inl (by rw[IR];exact Nat.beq_refl j));rcases tot i j hi hj IR with h|h
    have:¬nH C caps ag (sW w) j i<0:=fun k=>asym i j hi hj h ((hv j i hj hi).1 k);exact .inl (.inr ⟨(hv i j hi hj).2 h,omY⟩);have:¬nH C caps ag (sW w) i j<0:=fun k=>asym j i hj hi h ((hv i j hi hj).1 k);exact .inr ⟨(hv j i hj hi).2 h,omY⟩;by_cases h1:nH C caps ag (sW w) i j<0;by_cases h2:nH C caps ag (sW w) j k<0;exact .inr ((hv i k hi hk).2 (tr i j k hi hj hk ((hv i j hi hj).1 h1) ((hv j k hj hk).1 h2)));exact .inl (.inr h2);exact .inl (.inl h1)
  have hb:(zuO w.len (λi j=>(JG C caps ag (sW w) i j).isSome) (nH C caps ag (sW w))).b=true:=by
    show(Nat.ble w.len 4611686018427387&&zf2 w.len _ _)=true;rw[S1,qjQ omY];rfl
  have T:STO w.len (nH C caps ag (sW w)):=(CP.h _ hb).2.2;have pm:=AY (c:=nH C caps ag (sW w)) w.len;refine⟨hb,xJ w.len (nH C caps ag (sW w)),pm,?_,λi h=>?_⟩;have nd:(xJ w.len (nH C caps ag (sW w))).Nodup:=pm.nodup_iff.2 List.nodup_range;refine(List.Pairwise.and (VH T) nd).imp_of_mem ?_;intro a b ha hb hab;have ha:=Ak.1 (pm.mem_iff.1 ha);have hb:=Ak.1 (pm.mem_iff.1 hb);rcases tot a b ha hb hab.2 with h|h
  exact h;exact absurd ((hv b a hb ha).2 h) hab.1;show(bn.dec (bn.enc (w.get ((xJ w.len (nH C caps ag (sW w))).getD i ((xJ w.len (nH C caps ag (sW w))).getD 0 0))))).1=_;rw[rq.de,jqq,Ai h];rfl
theorem uS(g:Sl aC){i:Nat}(h:i<(jq g).length):(iI g).bU.get i=(jq g)[i]:=by
 have:=Oq (jq g) HY i (jq g)[i] (Ai h);rw[show(HY:Sl straight).len+i=i by show 0+i=i;omega]at this;exact this
theorem zjH(g:Sl aC):∀(r acc:List straight)(F:List Int->Option (List Int)),(Gi g r acc F).length<=acc.length+r.length:=by
 intro r
 induction r with
 | nil=>intro acc F;exact jy _
 | cons y r ih =>
  intro acc F;have a:=ih (acc++[y]) (lT (rQ (nZ y)) [1] F);have b:=ih acc F;rw[BG]at a;simp only[xm,X6]at a ⊢;simp only[Gi];cases(sD (F (rQ (nZ y))) 0 != 0)<;>cases allB g y<;>simp only[qds,qjG,dU,dQ]<;>omega
theorem Jn{g:Sl aC}(G:bY g):(jq g).length<=2304:=by
 unfold jq;cases gW g with
 | true=>exact xn _
 | false =>
  have a:=zjH g (cst g) [] λ_=>none;have b:=zbS G;rw[dQ];simp only[X6,NR]at a;omega
theorem Jo{g:Sl aC}(G:bY g){s:straight}(h:s∈jq g):Ag g s:=by
 cases hf:gW g with
 | true=>unfold jq at h;rw[hf]at h;cases h
 | false =>
  obtain⟨a,b⟩:=(SE hf).1 s h;exact⟨a,(Ed G (Bf G a)).1 b⟩
abbrev zxD(C:set->ae (Sl straight)):Prop:=∀g,bY g->∃D:Sl straight,C (iI g)=.ok D/\D.len=(jq g).length/\∀i,i<D.len->Ae (D.get i)
theorem zPE{E:zp5}(zPF:zxC E.XU):zxD (zp6 E):=λg G=>by
  have hl:=Jn G;have hG:=G.2.2;have len:=Ec g;have cr:∀i,i<(iI g).bU.len->Ag g ((iI g).bU.get i):=λi hi=>by
    rw[uS g omY];exact Jo G (qdb _)
  have ne:∀i j,i<(iI g).bU.len->j<(iI g).bU.len->i≠j->nZ ((iI g).bU.get i)≠nZ ((iI g).bU.get j):=λi j hi hj IR e=>by
    rw[uS g omY,uS g omY]at e;cases hf:gW g with
    | true =>
      have:jq g=[]:=by unfold jq;rw[hf];rfl
      rw[this]at len;simp at len;omega
    | false =>
      have P:=(SE hf).2.2;rw[qdg]at P;rcases qd7 i j with h|h
      exact P i j omY omY h e;exact P j i omY omY omY e.symm
  obtain⟨hp,l,h1,_,h3⟩:=ztb (C:=ae.un E.XU) (caps:=bn.enc (⟨iI g⟩:Pt set)) (ag:=true) (w:=(iI g).bU) (cmp:=zjG g) (R:=Nc g) omY
    (λi j hi hj=>by
      show(E.XU ((iI g).bU.get i,(iI g).bU.get j,(⟨iI g⟩:Pt set))).T _=_;rw[zPF _ _ _ (qR G (cr i hi)) (qR G (cr j hj)) (by show g.len<=1000;omega)];rfl)
    (λi j hi hj=>zqn G (cr i hi) (cr j hj)) (λi hi=>zqk) (λi j hi hj IR=>zql G (cr i hi) (cr j hj) (ne i j hi hj IR)) (λi j _ _ h=>zjB h)
    (λi j k hi hj hk a b=>zeh G (cr i hi) (cr j hj) (cr k hk) a b)
  have ll:l.length=(iI g).bU.len:=by rw[h1.length_eq,qje]
  refine⟨⟨(iI g).bU.len,soG (ae.un E.XU) (bn.enc (⟨iI g⟩:Pt set)) true (iI g).bU⟩,ae.ext λk=>?_,len,λi hi=>?_⟩;rw[e249,hp,bf,show room (iI g).bU.len 24=true from dK omY];rfl;have hi:i<(iI g).bU.len:=hi;show Ae (soG _ _ _ _ i);rw[h3 i omY];exact qR G (cr _ (Ak.1 (h1.mem_iff.1 (qdb _))))
def SH(g:Sl aC):Int:=(Gj g false).2
abbrev zxE(C:Sl aC->ae (Sl Line×Int)):Prop:=∀g:Sl aC,g.len<=1000->∃L,C g=.ok (L,SH g)/\(SH g=0->0<L.len)
theorem zPG{E:zed}(N:Big E.N)(Zt:zqj E.c117)(zxj:zxD E.zlc)(ZA:zqh E.c198):zxE (zjd E):=λg hl=>by
 have e:∀(A:Type)(k:Sl Line×Int->Option A),(zjd E g).T k=cond ((Gj g false).2 != 0) (k (⟨0,λ_=>default⟩,(Gj g false).2)) ((E.zlc (Gj g false).1).T λr2=>F9 E E.N r2 (r2.len:Int) 0 ⟨0,λ_=>⟨⟨0,0⟩,⟨0,0⟩⟩⟩ k):=λA k=>by
  rw[e240,Zt g (.inl ⟨(),()⟩) hl,bf];rfl
 unfold SH;by_cases h0:(Gj g false).2=0;have:wF g=true/\gp g=true/\gW g=false:=by
  unfold Gj at h0;revert h0;cases wF g<;>cases gp g<;>cases gW g<;>simp
 obtain⟨hg,hs,hf⟩:=this;have G:=lN.1 hg;have e1:(Gj g false).1=iI g:=by unfold Gj;rw[hg,hs,hf];rfl
 obtain⟨D,d1,d2,d3⟩:=zxj g G;have dl:D.len<=2304:=by rw[d2];exact Jn G
 have key:∃L:Sl Line,L.len=D.len/\∀(A:Type)(k:Sl Line×Int->Option A),F9 E E.N D (D.len:Int) 0 ⟨0,λ_=>⟨⟨0,0⟩,⟨0,0⟩⟩⟩ k=k (L,0):=by
  let acc:Nat->Sl Line:=λn=>Nat.rec ⟨0,λ_=>⟨⟨0,0⟩,⟨0,0⟩⟩⟩ (λi v=>mX v (nZ (D.get i))) n;have al:∀n,(acc n).len=n:=λn=>by
   induction n with|zero=>rfl|succ n ih=>show(acc n).len+1=n+1;rw[ih]
  refine⟨acc D.len,al _,λA k=>?_⟩;refine pK (X:=λn i=>F9 E n D (D.len:Int) (i:Int) (acc i) k) (m:=D.len) (λn i hi=>?_) (λn=>?_) _ (by have:=N;omega);rw[zje,dK omY,dU,bF omY,fQ,ZA _ (d3 i hi),bf,bJ omY,show room ((acc i).len+1) 32=true from dK (by rw[al];omega)];rfl;rw[zje,dV omY];rfl
 obtain⟨L,l1,l2⟩:=key;refine⟨L,ae.ext λk=>?_,λ_=>?_⟩;rw[e,h0,e1,d1,bf,l2];rfl;rw [l1,d2];unfold gp at hs;rw[hf,dQ,oO]at hs;omega;exact⟨_,ae.ext λk=>by rw[e,show((Gj g false).2 != 0)=true by simpa using h0];rfl,λh=>absurd h h0⟩
abbrev zxF(C:Sl aC->ae (Line×Int)):Prop:=∀g:Sl aC,g.len<=1000->∃l,C g=.ok (l,SH g)
theorem zPH{E:zpP}(zxb:zxE E.zrK):zxF (zpQ E):=λg hl=>by
 obtain⟨L,h1,h2⟩:=zxb g hl;by_cases h0:SH g=0;exact⟨_,ae.ext λk=>by rw[e211,h1,bf,h0];show aV (decide ((0:Int)<=0/\0<(L.len:Int))) _=_;rw[bF ⟨qju 0,by have:=h2 h0;omega⟩];rfl⟩;exact⟨_,ae.ext λk=>by rw[e211,h1,bf];show cond (SH g != 0) _ _=_;rw[show(SH g != 0)=true by simpa using h0];rfl⟩
theorem zxG{g:Sl aC}(G:bY g):(SH g != 5)=gp g:=by
 unfold SH Gj;rw[lN.2 G];cases gp g<;>cases gW g<;>rfl
theorem zxH(g:Sl aC):ik g 1=⟨(g.get 0).Low,(g.get 0).High⟩:=by
 show(⟨_,_⟩:bC)=_;simp only[ik,gt_iff_lt,qdT,qd2]
def plN(l:Line)(z:Int):Int:=l.Start.Num*l.pO.bV+l.pO.Num*z*l.Start.bV
def plD(l:Line):Int:=l.Start.bV*l.pO.bV
theorem zEC{s:straight}(S:Ae s):(-2000000<=(nZ s).pO.Num/\(nZ s).pO.Num<=2000000)/\(-200000000000<=(nZ s).Start.Num/\(nZ s).Start.Num<=200000000000)/\(0<(nZ s).pO.bV/\(nZ s).pO.bV<=100000)/\0<(nZ s).Start.bV/\(nZ s).Start.bV<=100000:=by
 have h1:=S.1;have h2:=S.2.1;have h3:=S.2.2;have p:0<s.den:=by omega
 have a1:=D9 (num:=s.bg) p;have a2:=Na (num:=s.bg) p;have a3:=kF (num:=s.bg) p;have b1:=D9 (num:=s.start) p;have b2:=Na (num:=s.start) p;have b3:=kF (num:=s.start) p;show(_<=(red s.bg s.den).Num/\(red s.bg s.den).Num<=_)/\(_<=(red s.start s.den).Num/\(red s.start s.den).Num<=_)/\(_<(red s.bg s.den).bV/\(red s.bg s.den).bV<=_)/\_<(red s.start s.den).bV/\(red s.start s.den).bV<=_;omega
theorem WJ{s:straight}(S:Ae s)(z:Int):iG s z*plD (nZ s)=plN (nZ s) z*s.den:=by
  have p:0<s.den:=by have:=S.2.2;omega
  have a1:=qh (num:=s.bg) p;have a2:=nY (num:=s.bg) p;have b1:=qh (num:=s.start) p;have b2:=nY (num:=s.start) p;unfold iG plD plN;show(s.start+s.bg*z)*((red s.start s.den).bV*(red s.bg s.den).bV)=((red s.start s.den).Num*(red s.bg s.den).bV+(red s.bg s.den).Num*z*(red s.start s.den).bV)*s.den;generalize (Int.gcd s.bg s.den:Int)=G at a1 a2;generalize (Int.gcd s.start s.den:Int)=K at b1 b2;generalize (red s.bg s.den).Num=x at a1 ⊢;generalize (red s.bg s.den).bV=q at a2 ⊢;generalize (red s.start s.den).Num=u at b1 ⊢;generalize (red s.start s.den).bV=v at b2 ⊢;rw[qjN,qjN];have e1:s.start*(v*q)=u*q*s.den:=by
    calc s.start * (v * q) = K * u * (v * q) := by rw [b1]
      _=u*q*(K*v):=by ac_rfl
      _=u*q*s.den:=by rw[b2]
  have e2:s.bg*z*(v*q)=x*z*v*s.den:=by
    calc s.bg * z * (v * q) = G * x * z * (v * q) := by rw [a1]
      _=x*z*v*(G*q):=by ac_rfl
      _=x*z*v*s.den:=by rw[a2]
  rw[e1,e2]
theorem zqp{s:straight}(S:Ae s):0<plD (nZ s):=by
 have:=zEC S;exact jqi this.2.2.2.1 this.2.2.1.1
theorem zbY{α:Type}[bn α][rq α](a b:α):kW [a,b] 0=a:=by
 show(bn.dec (Io (shp 8) (bn.enc a) (bn.enc a))).1=a;rw[kD (oU 8) (bn.sm _ _),rq.de]
theorem zbZ{α:Type}[bn α][rq α](a b:α):kW [a,b] 1=b:=by
 show(bn.dec (Io (shp 8) (bn.enc a) (bn.enc b))).1=b;rw[kD (oU 8) (bn.sm _ _),rq.de]
theorem WL{l:Sl aW}{p:Int}(h:vW l p=true){i:Nat}(hi:i<l.len):(0<=(l.get i).fB.Low/\(l.get i).fB.Low<=(l.get i).fB.High/\(l.get i).fB.High<=aQ (p.tdiv 2)) /\
  (i=0\/((l.get (i-1)).Time<(l.get i).Time/\(l.get (i-1)).fB.Low<=(l.get i).fB.Low)):=by
 simp only[vW,fH,dD]at h;have:=h.1 i hi;simp only[stB,inB,fH,qdj,oO]at this;exact⟨⟨this.1.1.2.1,this.1.1.2.2,this.1.2⟩,this.2.imp id λx=>⟨x.1.1,x.1.2⟩⟩
theorem SI{l:Sl aW}{p:Int}(h:vW l p=true):∀{j:Nat},j<l.len→∀{i:Nat},i<j→(l.get i).Time<(l.get j).Time∧(l.get i).fB.Low≤(l.get j).fB.Low
  | 0,_,_,hi=>absurd hi omY
  | j+1,hj,i,hi=>by
    have:=(WL h hj).2;rw[qja]at this;rcases this with h0|⟨a,b⟩
    omega;by_cases e:i=j;rw[e];exact⟨a,b⟩;obtain⟨c,d⟩:=SI h (j:=j) omY (i:=i) omY;omega
theorem WM(l:Sl aW)(t:Int):∀n,Aa l t n=0∨∃i,i<n∧(l.get i).Time≤t∧Aa l t n=(l.get i).fB.Low
  | 0=>.inl rfl
  | n+1=>by
    simp only[Aa];by_cases h:(l.get n).Time<=t;rw[dK h];exact .inr ⟨n,omY,h,rfl⟩;rw [dV h];rcases WM l t n with e|⟨i,a,b,c⟩
    exact .inl e;exact .inr ⟨i,omY,b,c⟩
theorem WN(l:Sl aW)(t z:Int):∀d,d≤l.len→Dn l t z d=z∨∃j,j<l.len∧t≤(l.get j).Time∧Dn l t z d=(l.get j).fB.High
  | 0,_=>.inl rfl
  | d+1,hd=>by
    simp only[Dn];by_cases h:(l.get (l.len-1-d)).Time>=t;rw[dK h];exact .inr ⟨l.len-1-d,omY,h,rfl⟩;rw [dV h];exact WN l t z d omY
theorem zqq{p:aj}(hp:VQ p)(h:vW p.aW p.aT=true){t:Int}(ht:0<=t/\t<=1000000):0<=(uC p t).1/\(uC p t).1<=(uC p t).2/\(uC p t).2<=p.aT:=by
 obtain⟨_,_,_,_,hpi,_,_,_,_,hj,_⟩:=hp;have e1:aQ (t-p.dX)=t-p.dX:=aZ omY omY;have e2:aQ (t+p.dX)=t+p.dX:=aZ omY omY;have e4:0<=p.aT.tdiv 2/\p.aT.tdiv 2<=p.aT:=by
  rw[qd0 omY];omega
 have e3:aQ (p.aT.tdiv 2)=p.aT.tdiv 2:=aZ omY omY;have a:=WM p.aW (t-p.dX) p.aW.len;have b:=WN p.aW (t+p.dX) (p.aT.tdiv 2) p.aW.len (jy _);unfold uC;rw[e1,e2,e3];show 0<=Aa _ _ _/\Aa _ _ _<=Dn _ _ _ _/\Dn _ _ _ _<=_;rcases a with a|⟨i,a1,a2,a3⟩<;>rcases b with b|⟨j,b1,b2,b3⟩
 rw[a,b];omega;rw[a,b3];have:=(WL h b1).1;rw[e3]at this;omega;rw[a3,b];have:=(WL h a1).1;rw[e3]at this;omega;rw [a3,b3];have x:=(WL h a1).1;have y:=(WL h b1).1;rw[e3]at x y;by_cases e:i=j;subst e;omega;have IR:i<j:=by
  rcases qd7 i j with h1|h1
  exact h1;have:=(SI h a1 (i:=j) omY).1;omega
 have:=(SI h b1 IR).2;omega
theorem SK{p:aj}(hp:VQ p){a b:Int}(h1:a<=b)(h2:p.First-p.aT-p.dZ<=a)(h3:b<=p.First+(p.bW+1)*p.aT+p.dZ):gK (gate p a b):=by
 obtain⟨_,_,hz,hf,hpi,IQ,hsp,ho,_,_,_,hl,hr⟩:=hp;obtain⟨e1,e2,e3⟩:=zM8 hf hpi IQ hsp ho;obtain⟨q1,q2⟩:=vX (a:=p.bW+1) (b:=p.aT) omY omY;refine⟨hz,?_⟩;show _<=aQ (a+p.bH.Low)/\aQ (a+p.bH.Low)<=aQ (b+p.bH.High)/\aQ (b+p.bH.High)<=_;rw[aZ (x:=a+p.bH.Low) omY omY,aZ (x:=b+p.bH.High) omY omY];omega
theorem zjI{p:aj}{a b c d:Int}(h1:gK (gate p a b))(h2:gK (gate p c d))(h:(gate p a b).Low<=(gate p c d).High):gK ⟨p.Z,(gate p a b).Low,(gate p c d).High⟩ :=
 ⟨h1.1,h1.2.1,h,h2.2.2.2⟩
theorem zED{b:Bool}{x y:Sl aC}(h1:∀i,i<x.len->gK (x.get i))(h2:∀i,i<y.len->gK (y.get i)){i:Nat}(hi:i<(cond b x y).len):gK ((cond b x y).get i):=by
 cases b;exact h2 i hi;exact h1 i hi
theorem zxI{p:aj}(hp:VQ p)(hb:plB p=true){h:bu}(hh:hpB p h=true){i:Nat}(hi:i<(gaP p h).len):gK ((gaP p h).get i):=by
 simp only[hpB,inB,fH,oO]at hh;obtain⟨⟨⟨⟨⟨hc,hm⟩,_⟩,_⟩,_⟩,hk⟩:=hh;obtain⟨hki,_,hz,hf,hpi,IQ,hsp,ho,_,hj,_,hl,hr⟩:=hp;have OC:VQ p:=zDX hb;have q0:=vX (a:=h.Channel) (b:=p.aT) omY omY;have q1:=vX (a:=h.Channel+1) (b:=p.aT) omY omY;have q2:=vX (a:=h.Channel+h.qm-1) (b:=p.aT) omY omY;have q3:=vX (a:=p.bW+1) (b:=p.aT) omY omY;have m0:h.Channel*p.aT+p.aT<=(p.bW+1)*p.aT:=by
  have:=Uc (show h.Channel+1<=p.bW+1 by omega) (show 0<=p.aT by omega);rw[qjN,Int.one_mul]at this;omega
 have m1:(h.Channel+1)*p.aT<=(p.bW+1)*p.aT:=Uc omY omY;revert hi;unfold gaP;cases hk2:p.Kind != 2 with
 | true =>
  simp only[dU]
  rw[aZ (x:=h.Channel+h.qm) omY omY,aZ (x:=h.Channel+h.qm-1) omY omY,aZ (x:=(h.Channel+h.qm-1)*p.aT) omY omY,aZ (x:=p.First+(h.Channel+h.qm-1)*p.aT) omY omY,aZ (x:=p.First+(h.Channel+h.qm-1)*p.aT-p.dZ) omY omY,
   aZ (x:=h.Channel+1) omY omY,aZ (x:=(h.Channel+1)*p.aT) omY omY,aZ (x:=p.First+(h.Channel+1)*p.aT) omY omY,aZ (x:=p.First+(h.Channel+1)*p.aT+p.dZ) omY omY]
  by_cases c:p.First+(h.Channel+h.qm-1)*p.aT-p.dZ>p.First+(h.Channel+1)*p.aT+p.dZ;rw[dK c];intro hi;exact absurd hi (dq8 _);rw [dV c];intro hi;exact SK OC omY omY omY
 | false =>
  have hk3:p.Kind=2:=by simpa using hk2
  have hd:0<=h.aW/\h.aW<=1000000:=by
   simp only[knB,hk3,qji,dU,inB,fH,oO]at hk;exact hk.2
  have hs:vW p.aW p.aT=true:=by
   simp only[plB,fH,hk3,qji,dU]at hb;exact hb.1.1.2
  obtain⟨r1,r2,r3⟩:=zqq OC hs hd;simp only[dQ];generalize uC p h.aW=R at r1 r2 r3 ⊢;rw[aZ (x:=h.Channel*p.aT) omY omY,aZ (x:=p.First+h.Channel*p.aT) omY omY,aZ (x:=p.First+h.Channel*p.aT-R.2) omY omY,aZ (x:=p.First+h.Channel*p.aT-R.1) omY omY,aZ (x:=p.First+h.Channel*p.aT+R.1) omY omY,aZ (x:=p.First+h.Channel*p.aT+R.2) omY omY];have g1:gK (gate p (p.First+h.Channel*p.aT-R.2) (p.First+h.Channel*p.aT-R.1)):=SK OC omY omY omY;have g2:gK (gate p (p.First+h.Channel*p.aT+R.1) (p.First+h.Channel*p.aT+R.2)):=SK OC omY omY omY;have g3:(gate p (p.First+h.Channel*p.aT-R.2) (p.First+h.Channel*p.aT-R.1)).Low<=(gate p (p.First+h.Channel*p.aT+R.1) (p.First+h.Channel*p.aT+R.2)).High:=by
   show aQ _<=aQ _;rw[aZ omY omY,aZ omY omY];omega
  intro hi;refine zED (λ_ _=>zjI g1 g2 g3) (λi hi=>?_) hi;have hi:i<2:=hi;rcases(show i=0\/i=1 by omega)with e|e<;>subst e
  show gK (kW _ 0);rw[zbY];exact g1;show gK (kW _ 1);rw[zbZ];exact g2
theorem zxJ{s:au}(hs:fF s=true){h:bu}(hh:o5 s h=true){i:Nat}(hi:i<(Ac s h).len):gK ((Ac s h).get i):=by
 have hp:=RJ hh;have h1:h.aj.toNat<s.ak.len:=by omega
 simp only[o5,fH,oO]at hh;exact zxI (zg hs h1) (L6 hs h1) hh.2 hi
abbrev iJ:=List (Int×Int)
section
variable(ag:iJ->Bool)(us:iJ->Int->Bool)(sd:Nat->iJ)
def gr:Nat→iJ→Nat→List iJ
  | 0,_,_=>[]
  | f+1,c,i=>(sd i).flatMap λp=>cond (us c p.1 || !ag (c++[p])) [] ((c++[p])::gr f (c++[p]) (p.1.toNat+1))
def grC:Nat→List iJ→iJ→Nat→List iJ
  | 0,out,_,_=>out
  | f+1,out,c,i=>(sd i).foldl (λout p=>cond (us c p.1||(decide (2000<out.length) || !ag (c++[p]))) out (grC f (out++[c++[p]]) (c++[p]) (p.1.toNat+1))) out
inductive Ch:iJ→Nat→Prop
  | nil:Ch [] 0
  | snoc {c:iJ} {i:Nat} {p:Int×Int}:Ch c i->p∈sd i->us c p.1=false->ag (c++[p])=true->Ch (c++[p]) (p.1.toNat+1)
end
section
variable{ag:iJ->Bool}{us:iJ->Int->Bool}{sd:Nat->iJ}
theorem SL:∀{f c i x},x∈gr ag us sd f c i→∃p e,p∈sd i∧x=c++p::e
  | f+1,c,i,x,h=>by
    simp only[gr,jJ]at h;obtain⟨p,hp,h⟩:=h;cases hc:us c p.1 || !ag (c++[p])with
    | true=>rw[hc]at h;cases h
    | false =>
      rw[hc]at h;rcases jW.1 h with h|h
      exact⟨p,[],hp,h⟩;obtain⟨q,e,_,h⟩:=SL h;exact⟨p,q::e,hp,by rw[h];simp⟩
theorem ztc:∀{f c i x},Ch ag us sd c i→x∈gr ag us sd f c i→∃j,Ch ag us sd x j
  | f+1,c,i,x,hc,h=>by
    simp only[gr,jJ]at h;obtain⟨p,hp,h⟩:=h;cases hu:us c p.1 || !ag (c++[p])with
    | true=>rw[hu]at h;cases h
    | false =>
      rw[hu]at h;simp only[jqW,Bool.not_eq_false']at hu;have hn:=Ch.snoc hc hp hu.1 hu.2;rcases jW.1 h with h|h
      exact⟨_,h▸hn⟩;exact ztc hn h
theorem ztd{f:Nat}:∀{c j},Ch ag us sd c j->c.length<=f->(c=[]\/c∈gr ag us sd f [] 0)/\∀x∈gr ag us sd (f-c.length) c j,x∈gr ag us sd f [] 0:=by
 intro c j h
 induction h with
 | nil=>intro _;exact⟨.inl rfl,λx hx=>hx⟩
 | @snoc c i p hc hp hu ha ih =>
  intro hl;rw[BG]at hl ⊢;simp only[xm,X6]at hl ⊢;obtain⟨_,ih⟩:=ih omY;have e:gr ag us sd (f-c.length) c i=(sd i).flatMap λp=>cond (us c p.1 || !ag (c++[p])) [] ((c++[p])::gr ag us sd (f-(c.length+1)) (c++[p]) (p.1.toNat+1)):=by
   rw[show f-c.length=(f-(c.length+1))+1 by omega,gr]
  have Ye:∀y∈(c++[p])::gr ag us sd (f-(c.length+1)) (c++[p]) (p.1.toNat+1),y∈gr ag us sd (f-c.length) c i:=λy hy=>by
   rw[e,jJ];exact⟨p,hp,by rw[hu,ha];exact hy⟩
  exact⟨.inr (ih _ (Ye _ jM)),λx hx=>ih _ (Ye _ (jB _ hx))⟩
theorem Nh(hs:∀i,(sd i).Nodup):∀f c i,(gr ag us sd f c i).Nodup
  | 0,_,_=>List.Pairwise.nil
  | f+1,c,i=>by
    rw[gr];unfold List.Nodup;rw[List.pairwise_flatMap];have pre:∀p,∀x∈cond (us c p.1 || !ag (c++[p])) [] ((c++[p])::gr ag us sd f (c++[p]) (p.1.toNat+1)),∃e,x=c++p::e:=λp x hx=>by
      cases hu:us c p.1 || !ag (c++[p])with
      | true=>rw[hu]at hx;cases hx
      | false =>
        rw[hu]at hx;rcases jW.1 hx with h|h
        exact⟨[],h⟩;obtain⟨q,e,_,h⟩:=SL h;exact⟨q::e,by rw[h];simp⟩
    refine⟨λp _=>?_,(hs i).imp_of_mem fun {p q} _ _ hpq x hx y hy e=>?_⟩
    · cases us c p.1 || !ag (c++[p])with
      | true=>exact List.Pairwise.nil
      | false =>
        refine List.Pairwise.cons (λy hy e=>?_) (Nh hs f _ _);obtain⟨q,r,_,h⟩:=SL hy;rw[<- e]at h;have:=jF List.length h;simp at this
    obtain⟨a,ha⟩:=pre p x hx;obtain⟨b,hb⟩:=pre q y hy;rw[ha,hb]at e;have:=List.append_cancel_left e;rw[ES]at this;exact hpq this.1
theorem zjK:∀{f out c i},(out.length≤(grC ag us sd f out c i).length)∧((grC ag us sd f out c i).length≤2000→grC ag us sd f out c i=out++gr ag us sd f c i)
  | 0,out,c,i=>⟨jy _,λ_=>by simp[grC,gr]⟩
  | f+1,out,c,i=>by
    simp only[grC,gr];generalize sd i=l
    induction l generalizing out with
    | nil=>exact⟨jy _,λ_=>by simp⟩
    | cons p l ih =>
      rw[qdy,lX];cases hu:us c p.1 || !ag (c++[p])with
      | true =>
        have:(us c p.1||(decide (2000<out.length) || !ag (c++[p])))=true:=by
          revert hu;cases us c p.1<;>cases ag (c++[p])<;>simp
        rw[this];exact ih out
      | false =>
        have:(us c p.1||(decide (2000<out.length) || !ag (c++[p])))=decide (2000<out.length):=by
          revert hu;cases us c p.1<;>cases ag (c++[p])<;>simp
        rw[this,dQ];by_cases h:2000<out.length;rw [dK h];obtain⟨a,_⟩:=ih out;exact⟨a,λh2=>by have:_<=2000:=h2;rw[dU]at this;omega⟩;rw [dV h,dQ];obtain⟨a,b⟩:=zjK (f:=f) (out:=out++[c++[p]]) (c:=c++[p]) (i:=p.1.toNat+1);obtain⟨a2,b2⟩:=ih (grC ag us sd f (out++[c++[p]]) (c++[p]) (p.1.toNat+1));rw[BG]at a;refine⟨omY,λh2=>?_⟩;rw[b2 h2,b omY];simp
end
theorem zxK{α:Type}{F:List α}(len:α→Nat)(sub:α→α→Prop)(refl:∀a,sub a a)(tr:∀a b c,sub a b→sub b c→sub a c)(B:Nat)(hB:∀a∈F,len a≤B) :
  ∀a∈F,∃m∈F,sub a m/\∀x∈F,¬(len m<len x/\sub m x):=by
 have key:∀d a,a∈F->B-len a<=d->∃m∈F,sub a m/\∀x∈F,¬(len m<len x/\sub m x):=by
  intro d
  induction d with
  | zero =>
   intro a ha hd;exact⟨a,ha,refl a,λx hx h=>by have:=hB x hx;omega⟩
  | succ d ih =>
   intro a ha hd;by_cases h:∃x∈F,len a<len x/\sub a x;obtain⟨x,hx,h1,h2⟩:=h;have:=hB x hx;obtain⟨m,hm,h3,h4⟩:=ih x hx omY;exact⟨m,hm,tr _ _ _ h2 h3,h4⟩;exact⟨a,ha,refl a,λx hx h2=>h ⟨x,hx,h2⟩⟩
 exact λa ha=>key _ a ha (jy _)
def eu(t:af):iJ:=(List.range t.Hits.len).map λi=>(t.Hits.get i,t.aX.get i)
theorem iw(t:af):(eu t).length=t.Hits.len:=by simp[eu]
theorem zk{t:af}{i:Nat}(h:i<t.Hits.len):(eu t)[i]? = some (t.Hits.get i,t.aX.get i):=by
 simp[eu,qjr h]
def WO(x:Int)(t:af):Prop:=t.View=x/\t.aX.len=t.Hits.len
def Gl(l:Sl bu)(c:iJ)(i:Int):Bool:=c.any λq=>(l.get q.1.toNat).aj==(l.get i.toNat).aj
def Nj(s:au)(l:Sl bu)(x:Int)(i:Nat):iJ:=IA s l x (l.len-i) i
theorem Ee{i:Int}{y:Int×Int}:∀{d k},y∈sdK i d k↔y.1=i∧(k:Int)≤y.2∧y.2<((k+d:Nat):Int)
  | 0,k=>by
    refine⟨λh=>(by cases h),λh=>?_⟩;omega
  | d+1,k=>by
    rw[sdK,jW,Ee];constructor;rintro(h|h);rw[h];show i=i/\(k:Int)<=(k:Int)/\(k:Int)<_;omega;omega;intro h;by_cases e:y.2=(k:Int);exact .inl (Prod.ext h.1 e);exact .inr omY
theorem SN{s:au}{l:Sl bu}{x:Int}{y:Int×Int}:∀{d i},y∈IA s l x d i↔((i:Int)≤y.1∧y.1<((i+d:Nat):Int))∧EM s l y.1.toNat=x∧0≤y.2∧y.2<(qc s l y.1.toNat:Int)
  | 0,i=>⟨λh=>(by cases h),λh=>by omega⟩
  | d+1,i=>by
    rw[IA,dG,SN];constructor;rintro(h|h)
    · cases hv:EM s l i==x with
      | false=>rw[hv]at h;cases h
      | true =>
        rw[hv,dU,Ee]at h;rw[h.1,fQ];exact⟨omY,eq_of_beq hv,omY,omY⟩
    exact⟨omY,h.2⟩;rintro⟨h1,h2,h3,h4⟩;by_cases e:y.1=(i:Int);refine .inl ?_;rw[e,fQ]at h2 h4;rw[qd8.2 h2,dU,Ee];exact⟨e,omY,omY⟩;exact .inr ⟨omY,h2,h3,h4⟩
theorem Jp{s:au}{l:Sl bu}{x:Int}{y:Int×Int}{i:Nat}(hi:i<=l.len):y∈Nj s l x i↔((i:Int)<=y.1/\y.1<(l.len:Int))/\EM s l y.1.toNat=x/\0<=y.2/\y.2<(qc s l y.1.toNat:Int):=by
 unfold Nj;rw[SN,show i+(l.len-i)=l.len by omega]
theorem WP{s:au}{l:Sl bu}{x:Int}{y:Int×Int}{i:Nat}(h:y∈Nj s l x i):i<l.len/\((i:Int)<=y.1/\y.1<(l.len:Int))/\EM s l y.1.toNat=x/\0<=y.2/\y.2<(qc s l y.1.toNat:Int):=by
 by_cases hi:i<=l.len;have:=(Jp hi).1 h;exact⟨omY,this⟩;unfold Nj at h;rw[show l.len-i=0 by omega]at h;cases h
theorem Qa(i:Int):∀d k,(sdK i d k).Nodup
  | 0,_=>List.Pairwise.nil
  | d+1,k=>by
    rw[sdK];refine List.Pairwise.cons (λy hy e=>?_) (Qa i d (k+1));have:=Ee.1 hy;rw[<- e]at this;have:=this.2.1;simp only at this;omega
theorem Qb(s:au)(l:Sl bu)(x:Int):∀d i,(IA s l x d i).Nodup
  | 0,_=>List.Pairwise.nil
  | d+1,i=>by
    rw[IA];unfold List.Nodup;rw[qdE];refine⟨?_,Qb s l x d (i+1),λa ha b hb e=>?_⟩;cases EM s l i==x;exact List.Pairwise.nil;exact Qa _ _ _;have h1:a.1=(i:Int):=by
      cases hv:EM s l i==x with|false=>rw[hv]at ha;cases ha|true=>rw[hv,dU]at ha;exact(Ee.1 ha).1
    have:=(SN.1 hb).1;rw[<- e]at this;omega
structure Val (s : au) (l : Sl bu) (x : Int) (c : iJ) (j : Nat) : Prop where
  le:c.length<=j/\j<=l.len
  mem:∀p∈c,(0<=p.1/\p.1<(j:Int))/\EM s l p.1.toNat=x/\0<=p.2/\p.2<(qc s l p.1.toNat:Int)
  pw:c.Pairwise λp q=>p.1<q.1/\(l.get p.1.toNat).aj≠(l.get q.1.toNat).aj
theorem Val.snoc{s:au}{l:Sl bu}{x:Int}{c:iJ}{j:Nat}{p:Int×Int}(h:Val s l x c j)(hp:p∈Nj s l x j)(hu:Gl l c p.1=false):Val s l x (c++[p]) (p.1.toNat+1):=by
 obtain⟨h1,h2,h3,h4⟩:=WP hp;have hle:=h.le;refine⟨by rw[BG];simp only[xm,X6];omega,λq hq=>?_,?_⟩;rcases dG.1 hq with hq|hq
 have:=h.mem q hq;exact⟨omY,this.2⟩;rw[kK.1 hq];exact⟨omY,h3,h4⟩;rw [qdE];refine⟨h.pw,jqF _ _,λa ha b hb=>?_⟩;rw[kK.1 hb];have:=(h.mem a ha).1;refine⟨omY,λe=>?_⟩;unfold Gl at hu;rw[qdP]at hu;exact hu a ha (by simpa using e)
theorem Nk{ag:iJ->Bool}{s:au}{l:Sl bu}{x:Int}{c:iJ}{j:Nat}(h:Ch ag (Gl l) (Nj s l x) c j):Val s l x c j:=by
 induction h with|nil=>exact⟨⟨jy _,xn _⟩,(λp h=>by cases h),List.Pairwise.nil⟩|snoc _ hp hu _ ih=>exact ih.snoc hp hu
theorem Ef{t:af}{c:iJ}(hc:eu t=c){i:Nat}(hi:i<t.Hits.len):c[i]? = some (t.Hits.get i,t.aX.get i):=by rw[<- hc];exact zk hi
theorem SQ{s:au}{l:Sl bu}{x:Int}{t:af}{c:iJ}{j:Nat}(hx:RN x=true)(ht:WO x t)(hc:eu t=c)(h:Val s l x c j)(hn:c≠[]):F5 s l t=true:=by
 have hlen:c.length=t.Hits.len:=by rw[<- hc,iw]
 have hle:=h.le;have pw:=qdg.1 h.pw;have ge:∀i (hi:i<t.Hits.len) (mV:i<c.length),c[i]=(t.Hits.get i,t.aX.get i):=λi hi mV=>by
  have:=Ef hc hi;rw[Ai mV]at this;exact dq9 this
 simp only[F5,fH,oO,dD];refine⟨⟨⟨by rw[ht.1];exact hx,?_⟩,ht.2⟩,λi hi=>?_⟩;rcases qjy t.Hits.len with h0|h0
 rw[h0]at hlen;exact absurd (qdF.1 hlen) hn;exact h0;have mV:i<c.length:=by omega
 have m:=h.mem c[i] (qdb _);rw[ge i hi mV]at m;simp only[Ya,fH,qdj,oO,inB,usB,dD,NQ,qdk];refine⟨⟨⟨⟨by simp only at m;omega,?_⟩,by rw[ht.1];exact m.2.1⟩,?_⟩,λk hk=>?_⟩;rcases qjy i with h0|h0
 exact .inl h0;refine .inr ?_;have:=(pw (i-1) i omY mV omY).1;rw[ge i hi mV,ge (i-1) omY omY]at this;exact this;have:=m.2.2;show 0<=t.aX.get i/\t.aX.get i<=((qc s l (t.Hits.get i).toNat:Nat):Int)-1;simp only at this;omega;have:=(pw k i omY mV hk).2;rw[ge i hi mV,ge k omY omY]at this;exact this
def BD(s:au)(l:Sl bu)(c:iJ):Sl aC:=gw z0 (λi=>(Ac s (l.get ((c[i]?).getD (0,0)).1.toNat)).get ((c[i]?).getD (0,0)).2.toNat) c.length
theorem SS{s:au}{l:Sl bu}{t:af}{c:iJ}(hc:eu t=c):gtS s l t=BD s l c:=by
 unfold gtS BD;rw[<- hc,iw];exact L8 λi hi=>by rw[zk hi];rfl
theorem Gn{s:au}{l:Sl bu}{x:Int}{c:iJ}{j:Nat}(he:Evt s l)(hl:l.len<=24)(h:Val s l x c j)(hn:c≠[]):bY (BD s l c):=by
 have e:(BD s l c).len=c.length:=o6 _ _ _;have hle:=h.le;refine⟨λi hi=>?_,by
  rw[e];rcases qjy c.length with h0|h0
  exact absurd (qdF.1 h0) hn;exact h0,omY⟩
 rw[e]at hi;show gK ((gw z0 _ c.length).get i);rw[yC hi,Ai hi];have m:=h.mem c[i] (qdb _);have m2:=m.2.2;show gK ((Ac s (l.get (c[i]).1.toNat)).get (c[i]).2.toNat);refine zxJ he.se (dD.1 he.hi _ omY) ?_;show _<qc s l (c[i]).1.toNat;omega
def WQ(g:Sl aC):Prop:=∀k,k<g.len->(g.get k).Z=(g.get 0).Z
theorem Gp{g:Sl aC}:gW g=true↔WQ g:=by
 unfold gW WQ;rw[dD];exact⟨λh k hk=>eq_of_beq (h k hk),λh k hk=>qd8.2 (h k hk)⟩
theorem Nl{g:Sl aC}{i b:Nat}{x:straight}(hx:x∈Gf (g.get i) (g.get b)):∀m k,k≤b→b<k+m→x∈Gg g i m k
  | 0,k,h1,h2=>by omega
  | m+1,k,h1,h2=>by
    show x∈Gf (g.get i) (g.get k)++Gg g i m (k+1);by_cases h:k=b;rw[h];exact qdN _ hx;exact qjg _ (Nl hx m (k+1) omY omY)
theorem Np{g:Sl aC}{a:Nat}{x:straight}(hx:x∈Gg g a (g.len-(a+1)) (a+1)):∀m i,i≤a→a<i+m→x∈SB g m i
  | 0,i,h1,h2=>by omega
  | m+1,i,h1,h2=>by
    show x∈Gg g i (g.len-(i+1)) (i+1)++SB g m (i+1);by_cases h:i=a;rw[h];exact qdN _ hx;exact qjg _ (Np hx m (i+1) omY omY)
theorem zjL{z p y q:Int}(h:z≠y):IC z p y q=IC y q z p:=by
 unfold IC;by_cases h1:z>y;rw[dH h1,dM (show ¬y>z by omega)];rw[dM h1,dH (show y>z by omega)]
theorem zEE{g:Sl aC}{a b:Nat}(ha:a<g.len)(hb:b<g.len)(hz:(g.get a).Z≠(g.get b).Z){p q:Int}(hp:p=(g.get a).Low\/p=(g.get a).High)(hq:q=(g.get b).Low\/q=(g.get b).High):IC (g.get a).Z p (g.get b).Z q∈cst g:=by
 have key:∀{a b:Nat}{p q:Int},a<b->b<g.len->(g.get a).Z≠(g.get b).Z->(p=(g.get a).Low\/p=(g.get a).High)->(q=(g.get b).Low\/q=(g.get b).High)->IC (g.get a).Z p (g.get b).Z q∈cst g:=fun {a b p q} h1 h2 hz hp hq=>by
  refine Np (Nl ?_ _ _ h1 omY) _ 0 (xn _) omY;unfold Gf;rw[dM hz];rcases hp with rfl|rfl<;>rcases hq with rfl|rfl<;>simp
 rcases qd7 a b with h|h
 exact key h hb hz hp hq;have:a≠b:=fun e=>hz (by rw [e]);rw[zjL hz];exact key omY ha (qjL hz) hq hp
theorem Eg{Q:Nat→Prop}{le:Nat→Nat→Prop}(tot:∀i j,Q i→Q j→le i j∨le j i)(tr:∀i j k,Q i→Q j→Q k→le i j→le j k→le i k):∀n,(∃k,k<n∧Q k)→∃k,k<n∧Q k∧∀j,j<n→Q j→le j k
  | 0,⟨k,h,_⟩=>absurd h (dq8 k)
  | n+1,hex=>by
    by_cases h:∃k,k<n/\Q k;obtain⟨k,hk,qk,hm⟩:=Eg tot tr n h;by_cases qn:Q n;rcases tot n k qn qk with h1|h1
    exact⟨k,omY,qk,λj hj qj=>by
      by_cases e:j=n;rw[e];exact h1;exact hm j omY qj⟩
    exact⟨n,omY,qn,λj hj qj=>by
      by_cases e:j=n;rw[e];rcases tot n n qn qn with h2|h2<;>exact h2
      exact tr j k n qj qk qn (hm j omY qj) h1⟩
    exact⟨k,omY,qk,λj hj qj=>hm j (by
      have:j≠n:=λe=>qn (e▸qj);omega) qj⟩
    obtain⟨k,hk,qk⟩:=hex;have e:k=n:=by
      rcases qd7 k n with h1|h1
      exact absurd ⟨k,h1,qk⟩ h;omega
    subst e;exact⟨k,omY,qk,λj hj qj=>by
      by_cases e:j=k;rw[e];rcases tot k k qk qk with h2|h2<;>exact h2
      exact absurd ⟨j,omY,qj⟩ h⟩
def WR(a b:straight):Prop:=a.bg*b.den<=b.bg*a.den
theorem SV{a b c:straight}(ha:0<a.den)(hb:0<b.den)(hc:0<c.den)(h1:WR a b)(h2:WR b c):WR a c:=by
 unfold WR at *;have y1:=Uc h1 (Il hc);have y2:=Uc h2 (Il ha);refine qdl (a:=b.den) ?_ hb
 grind
def lcS(g:Sl aC)(i:Nat)(p:Int)(k:Nat):straight:=IC (g.get i).Z p (g.get k).Z (if(g.get k).Z>(g.get i).Z then(g.get k).Low else(g.get k).High)
def ucS(g:Sl aC)(i:Nat)(p:Int)(k:Nat):straight:=IC (g.get i).Z p (g.get k).Z (if(g.get k).Z>(g.get i).Z then(g.get k).High else(g.get k).Low)
theorem Nq{g:Sl aC}{i k:Nat}{p:Int}{c:straight}(he:iG c (g.get i).Z=p*c.den)(hz:(g.get k).Z≠(g.get i).Z):iq c (g.get k)=true↔WR (lcS g i p k) c/\WR c (ucS g i p k):=by
 unfold iq WR lcS ucS IC;rw[oO];unfold iG at *;by_cases h:(g.get k).Z>(g.get i).Z;simp only [dH h,dM (show ¬(g.get i).Z>(g.get k).Z by omega)];constructor;intro⟨h1,h2⟩;constructor<;>grind;intro⟨h1,h2⟩;constructor<;>grind;simp only [dM h,dH (show(g.get i).Z>(g.get k).Z by omega)];constructor;intro⟨h1,h2⟩;constructor<;>grind;intro⟨h1,h2⟩;constructor<;>grind
theorem zb0{z p y q:Int}(h:z≠y):0<(IC z p y q).den:=by
 unfold IC;by_cases h1:z>y;rw[dH h1];show 0<z-y;omega;rw[dM h1];show 0<y-z;omega
theorem Qc{g:Sl aC}{i k:Nat}{p:Int}{s c:straight}(ps:0<s.den)(pc:0<c.den)(he:iG s (g.get i).Z=p*s.den)(hc:iG c (g.get i).Z=p*c.den)(hz:(g.get k).Z=(g.get i).Z)(h:iq s (g.get k)=true):iq c (g.get k)=true:=by
 unfold iq at *;rw[oO]at *;rw[hz,he]at h;rw[hz,hc];exact⟨Uc (qdl h.1 ps) (Il pc),Uc (qdl h.2 ps) (Il pc)⟩
theorem rot{g:Sl aC}{s:straight}(hd:0<s.den)(ha:Bg g s){i:Nat}(hi:i<g.len){p:Int}(hp:p=(g.get i).Low∨p=(g.get i).High)(he:iG s (g.get i).Z=p*s.den)(hn:∃k,k<g.len∧(g.get k).Z≠(g.get i).Z) :
  (∃c,Ag g c/\0<c.den/\iG c (g.get i).Z=p*c.den/\WR c s)/\∃c,Ag g c/\0<c.den/\iG c (g.get i).Z=p*c.den/\WR s c:=by
 have ld:∀k,(g.get k).Z≠(g.get i).Z->0<(lcS g i p k).den:=λk h=>zb0 (qjL h);have ud:∀k,(g.get k).Z≠(g.get i).Z->0<(ucS g i p k).den:=λk h=>zb0 (qjL h);have le1:∀k,(g.get k).Z≠(g.get i).Z->iG (lcS g i p k) (g.get i).Z=p*(lcS g i p k).den:=λk h=>(ZI (qjL h)).1;have ue1:∀k,(g.get k).Z≠(g.get i).Z->iG (ucS g i p k) (g.get i).Z=p*(ucS g i p k).den:=λk h=>(ZI (qjL h)).1;have sp:∀k,k<g.len->(g.get k).Z≠(g.get i).Z->WR (lcS g i p k) s/\WR s (ucS g i p k):=λk hk hz=>(Nq he hz).1 (ha k hk);constructor;obtain⟨k,hk,qk,hm⟩:=Eg (Q:=fun k=>(g.get k).Z≠(g.get i).Z) (le:=fun a b=>WR (lcS g i p a) (lcS g i p b)) (fun a b _ _=>qjz _ _) (fun a b c ha hb hc h1 h2=>SV (ld a ha) (ld b hb) (ld c hc) h1 h2) g.len hn;refine⟨lcS g i p k,⟨zEE hi hk (qjL qk) hp (by split<;>simp),λj hj=>?_⟩,ld k qk,le1 k qk,(sp k hk qk).1⟩;by_cases hz:(g.get j).Z=(g.get i).Z;exact Qc hd (ld k qk) he (le1 k qk) hz (ha j hj);exact(Nq (le1 k qk) hz).2 ⟨hm j hj hz,SV (ld k qk) hd (ud j hz) (sp k hk qk).1 (sp j hj hz).2⟩;obtain⟨k,hk,qk,hm⟩:=Eg (Q:=fun k=>(g.get k).Z≠(g.get i).Z) (le:=fun a b=>WR (ucS g i p b) (ucS g i p a)) (fun a b _ _=>qjz _ _) (fun a b c ha hb hc h1 h2=>SV (ud c hc) (ud b hb) (ud a ha) h2 h1) g.len hn;refine⟨ucS g i p k,⟨zEE hi hk (qjL qk) hp (by split<;>simp),λj hj=>?_⟩,ud k qk,ue1 k qk,(sp k hk qk).2⟩;by_cases hz:(g.get j).Z=(g.get i).Z;exact Qc hd (ud k qk) he (ue1 k qk) hz (ha j hj);exact(Nq (ue1 k qk) hz).2 ⟨SV (ld j hz) hd (ud k qk) (sp j hj hz).1 (sp k hk qk).2,hm j hj hz⟩
theorem zxL{g:Sl aC}(hl:1<=g.len){s:straight}(ha:Bg g s):∃d,0<=d/\Bg g ⟨s.bg,s.start-d,s.den⟩/\∃i,i<g.len/\iG ⟨s.bg,s.start-d,s.den⟩ (g.get i).Z=(g.get i).Low*s.den:=by
 obtain⟨k,hk,_,hm⟩:=Eg (Q:=λ_=>True) (le:=λa b=>iG s (g.get b).Z-(g.get b).Low*s.den<=iG s (g.get a).Z-(g.get a).Low*s.den) (λa b _ _=>qjz _ _) (λa b c _ _ _ h1 h2=>jqb h2 h1) g.len ⟨0,hl,trivial⟩;have hk2:=wH ha hk;refine⟨iG s (g.get k).Z-(g.get k).Low*s.den,omY,λj hj=>dK ?_,k,hk,by unfold iG;simp only;omega⟩;have h1:=hm j hj trivial;have h2:=wH ha hj;unfold iG at *;simp only;omega
theorem zxM{g:Sl aC}(hl:1<=g.len){s:straight}(ha:Bg g s):∃d,0<=d/\Bg g ⟨s.bg,s.start+d,s.den⟩/\∃i,i<g.len/\iG ⟨s.bg,s.start+d,s.den⟩ (g.get i).Z=(g.get i).High*s.den:=by
 obtain⟨k,hk,_,hm⟩:=Eg (Q:=λ_=>True) (le:=λa b=>(g.get b).High*s.den-iG s (g.get b).Z<=(g.get a).High*s.den-iG s (g.get a).Z) (λa b _ _=>qjz _ _) (λa b c _ _ _ h1 h2=>jqb h2 h1) g.len ⟨0,hl,trivial⟩;have hk2:=wH ha hk;refine⟨(g.get k).High*s.den-iG s (g.get k).Z,omY,λj hj=>dK ?_,k,hk,by unfold iG;simp only;omega⟩;have h1:=hm j hj trivial;have h2:=wH ha hj;unfold iG at *;simp only;omega
theorem WS{g:Sl aC}(nf:¬WQ g)(i:Nat)(hi:i<g.len):∃k,k<g.len/\(g.get k).Z≠(g.get i).Z:=by
 by_cases h:∃k,k<g.len/\(g.get k).Z≠(g.get i).Z;exact h;have all:∀k,k<g.len→(g.get k).Z=(g.get i).Z:=fun k hk=>qdx fun e=>h ⟨k,hk,e⟩;exact absurd (λk hk=>(all k hk).trans (all 0 omY).symm) nf
theorem zb1{a b:straight}{z p h:Int}(ha:iG a z=p*a.den)(hb:iG b z=p*b.den)(hs:WR a b)(hh:z<=h):iG a h*b.den<=iG b h*a.den:=by
 have y:=Uc hs (show 0<=h-z by omega);unfold iG at *;have e1:a.start=p*a.den-a.bg*z:=by omega
 have e2:b.start=p*b.den-b.bg*z:=by omega
 rw[e1,e2];clear ha hb hs e1 e2
 grind
theorem zb2{a b:straight}{z p h:Int}(ha:iG a z=p*a.den)(hb:iG b z=p*b.den)(hs:WR a b)(hh:h<=z):iG b h*a.den<=iG a h*b.den:=by
 have y:=Uc hs (show 0<=z-h by omega);unfold iG at *;have e1:a.start=p*a.den-a.bg*z:=by omega
 have e2:b.start=p*b.den-b.bg*z:=by omega
 rw[e1,e2];clear ha hb hs e1 e2
 grind
theorem lp{g:Sl aC}(hl:1≤g.len)(nf:¬WQ g){s:straight}(hd:0<s.den)(ha:Bg g s) :
  (∀h,(∃c,Ag g c/\iG c h*s.den<=iG s h*c.den)/\∃c,Ag g c/\iG s h*c.den<=iG c h*s.den)/\(∃c,Ag g c/\WR c s)/\∃c,Ag g c/\WR s c:=by
 obtain⟨d,d0,da,i,hi,di⟩:=zxL hl ha;obtain⟨e,e0,ea,j,hj,ej⟩:=zxM hl ha;obtain⟨⟨c1,c1c,c1d,c1p,c1s⟩,⟨c2,c2c,c2d,c2p,c2s⟩⟩:=rot (s:=⟨s.bg,s.start-d,s.den⟩) hd da hi (.inl rfl) di (WS nf i hi);obtain⟨⟨f1,f1c,f1d,f1p,f1s⟩,⟨f2,f2c,f2d,f2p,f2s⟩⟩:=rot (s:=⟨s.bg,s.start+e,s.den⟩) hd ea hj (.inr rfl) ej (WS nf j hj);have lo:∀{c:straight}{h:Int},0<c.den->iG c h*s.den<=iG ⟨s.bg,s.start-d,s.den⟩ h*c.den->iG c h*s.den<=iG s h*c.den:=fun {c h} pc k=>by
  have:=qdX d0 (Il pc);unfold iG at *;simp only at k
  grind
 have mV:∀{c:straight}{h:Int},0<c.den->iG ⟨s.bg,s.start+e,s.den⟩ h*c.den<=iG c h*s.den->iG s h*c.den<=iG c h*s.den:=fun {c h} pc k=>by
  have:=qdX e0 (Il pc);unfold iG at *;simp only at k
  grind
 refine⟨λh=>⟨?_,?_⟩,⟨c1,c1c,c1s⟩,⟨c2,c2c,c2s⟩⟩;rcases qjz (g.get i).Z h with k|k
 exact⟨c1,c1c,lo c1d (zb1 (b:=⟨s.bg,s.start-d,s.den⟩) c1p di c1s k)⟩;exact⟨c2,c2c,lo c2d (zb2 (a:=⟨s.bg,s.start-d,s.den⟩) di c2p c2s k)⟩;rcases qjz (g.get j).Z h with k|k
 exact⟨f2,f2c,mV f2d (zb1 (a:=⟨s.bg,s.start+e,s.den⟩) ej f2p f2s k)⟩;exact⟨f1,f1c,mV f1d (zb2 (b:=⟨s.bg,s.start+e,s.den⟩) f1p ej f1s k)⟩
def rC(lt:aP→aP→Bool)(f:Nat→aP):Nat→aP|0=>f 0|n+1=>cond (lt (f n) (rC lt f n)) (f n) (rC lt f n)
theorem ZK{lt:aP→aP→Bool}{Q:aP→Prop}{f:Nat→aP}(irr:∀a,Q a→lt a a=false)(tr:∀a b c,Q a→Q b→Q c→lt a b=true→lt b c=true→lt a c=true) :
  ∀n,(∀i,i<n+1->Q (f i))->(∃i,i<n+1/\rC lt f (n+1)=f i)/\∀j,j<n+1->lt (f j) (rC lt f (n+1))=false
 | 0,hq=>by
  have e:rC lt f 1=f 0:=by simp only[rC];cases lt (f 0) (f 0)<;>rfl
  rw[e];exact⟨⟨0,omY,rfl⟩,λj hj=>by rw[show j=0 by omega];exact irr _ (hq 0 omY)⟩
 | n+1,hq=>by
  obtain⟨⟨i,hi,e⟩,h⟩:=ZK irr tr n λi hi=>hq i omY;have qe:Q (rC lt f (n+1)):=by rw[e];exact hq i omY
  rw[rC];cases hl:lt (f (n+1)) (rC lt f (n+1))with
  | true =>
   rw[dU];refine⟨⟨n+1,omY,rfl⟩,λj hj=>?_⟩;by_cases ej:j=n+1;rw[ej];exact irr _ (hq _ omY)
   ·cases hx:lt (f j) (f (n+1))with|false=>rfl|true=>rw[<- h j omY,tr _ _ _ (hq j omY) (hq (n+1) omY) qe hx hl]
  | false =>
   rw[dQ];refine⟨⟨i,omY,e⟩,λj hj=>?_⟩;by_cases ej:j=n+1;rw[ej];exact hl;exact h j omY
def ltB(a b:aP):Bool:=decide (cmF a b<0)
def gtB(a b:aP):Bool:=decide (cmF a b>0)
theorem Eh{a b:aP}:gtB a b=true↔zF b a:=by
 unfold gtB;rw[oO,<- zjE];omega
theorem Ei{a b:aP}:ltB a b=true↔zF a b:=by
 unfold ltB;rw[oO,zjD]
def Jq(z:Int)(s:straight):aP:=⟨iG s z,s.den⟩
def zEF(s:straight):aP:=⟨s.bg,s.den⟩
def loG(g:Sl aC)(F:straight->aP):aP:=rC ltB (λi=>F ((iI g).bU.get i)) (jq g).length
def hiG(g:Sl aC)(F:straight->aP):aP:=rC gtB (λi=>F ((iI g).bU.get i)) (jq g).length
abbrev loF(g:Sl aC)(z:Int):aP:=loG g (Jq z)
abbrev hiF(g:Sl aC)(z:Int):aP:=hiG g (Jq z)
theorem yF{g:Sl aC}(G:bY g){i:Nat}(h:i<(jq g).length):Ag g ((iI g).bU.get i):=by
 rw[uS g h];exact Jo G (qdb _)
theorem zxP{g:Sl aC}(G:bY g)(F:straight->aP)(hF:∀s,Ag g s->0<(F s).bV)(h:0<(jq g).length):(∃s,Ag g s/\loG g F=F s)/\∀s∈jq g,¬zF (F s) (loG g F):=by
  obtain⟨n,hn⟩:∃n,(jq g).length=n+1:=⟨(jq g).length-1,omY⟩
  have := ZK (lt := ltB) (Q := fun a => 0 < a.bV) (f := fun i => F ((iI g).bU.get i)) (fun a _ => by cases e : ltB a a with | false => rfl | true => exact absurd (Ei.1 e) SG)
    (λa b c ha hb hc h1 h2=>Ei.2 (zbX ha hb hc (Ei.1 h1) (Ei.1 h2))) n λi hi=>hF _ (yF G (i:=i) omY)
  unfold loG;rw[hn];obtain⟨⟨i,hi,e⟩,h2⟩:=this;refine⟨⟨_,yF G (i:=i) omY,e⟩,λs hs hl=>?_⟩;obtain⟨j,hj,rfl⟩:=qd5 hs;have:=h2 j omY;rw[uS g hj]at this;rw[Ei.2 hl]at this;cases this
theorem zxQ{g:Sl aC}(G:bY g)(F:straight->aP)(hF:∀s,Ag g s->0<(F s).bV)(h:0<(jq g).length):(∃s,Ag g s/\hiG g F=F s)/\∀s∈jq g,¬zF (hiG g F) (F s):=by
  obtain⟨n,hn⟩:∃n,(jq g).length=n+1:=⟨(jq g).length-1,omY⟩
  have := ZK (lt := gtB) (Q := fun a => 0 < a.bV) (f := fun i => F ((iI g).bU.get i)) (fun a _ => by cases e : gtB a a with | false => rfl | true => exact absurd (Eh.1 e) SG)
    (λa b c ha hb hc h1 h2=>Eh.2 (zbX hc hb ha (Eh.1 h2) (Eh.1 h1))) n λi hi=>hF _ (yF G (i:=i) omY)
  unfold hiG;rw[hn];obtain⟨⟨i,hi,e⟩,h2⟩:=this;refine⟨⟨_,yF G (i:=i) omY,e⟩,λs hs hl=>?_⟩;obtain⟨j,hj,rfl⟩:=qd5 hs;have:=h2 j omY;rw[uS g hj]at this;rw[Eh.2 hl]at this;cases this
theorem zb3{g:Sl aC}(G:bY g)(z:Int)(s:straight)(h:Ag g s):0<(Jq z s).bV:=by have:=(qR G h).2.2;show 0<s.den;omega
theorem zjO{g:Sl aC}(G:bY g)(z:Int)(h:0<(jq g).length):(∃s,Ag g s/\loF g z=Jq z s)/\∀s∈jq g,¬zF (Jq z s) (loF g z):=zxP G _ (zb3 G z) h
theorem zjP{g:Sl aC}(G:bY g)(z:Int)(h:0<(jq g).length):(∃s,Ag g s/\hiF g z=Jq z s)/\∀s∈jq g,¬zF (hiF g z) (Jq z s):=zxQ G _ (zb3 G z) h
def cmpL:List Int→List Int→Int|[],[]=>0|[],_::_=>-1|_::_,[]=>1|a::x,b::y=>cond (qi a b != 0) (qi a b) (cmpL x y)
theorem Bh{a b:Int}:qi a b=0↔a=b:=by
 unfold qi;by_cases h:a<b;rw[dK h];simp;omega;rw [dV h];by_cases k:a>b;rw[dK k];simp;omega;rw[dV k];simp;omega
theorem zb4{a b:Int}:qi a b<0↔a<b:=by
 unfold qi;by_cases h:a<b;rw[dK h];simp[h];rw [dV h];cases decide (a>b)<;>simp[h]
theorem wI:∀{x y:List Int},cmpL x y<0↔(∃b y',x=[]∧y=b::y')∨∃a x' b y',x=a::x'∧y=b::y'∧(a<b∨a=b∧cmpL x' y'<0)
  | [],[]=>by simp[cmpL]
  | [],b::y=>by simp[cmpL]
  | a::x,[]=>by simp[cmpL]
  | a::x,b::y=>by
    simp only[cmpL];have e:((∃b' y',a::x=[]/\b::y=b'::y')\/∃a' x' b' y',a::x=a'::x'/\b::y=b'::y'/\(a'<b'\/a'=b'/\cmpL x' y'<0))↔(a<b\/a=b/\cmpL x y<0):=by
      constructor;rintro(⟨b',y',h,_⟩|⟨a',x',b',y',h1,h2,h⟩);cases h;cases h1;cases h2;exact h;intro h;exact .inr ⟨a,x,b,y,rfl,rfl,h⟩
    rw[e];by_cases h:a=b;subst h;rw[show(qi a a != 0)=false by rw[Bh.2 rfl];rfl];simp;rw [show(qi a b != 0)=true by simpa [Bh]using h,dU,zb4];simp[h]
theorem Bi:∀{x y:List Int},cmpL x y=0↔x=y
  | [],[]=>by simp[cmpL]
  | [],b::y=>by simp[cmpL]
  | a::x,[]=>by simp[cmpL]
  | a::x,b::y=>by
    simp only[cmpL];by_cases h:a=b;subst h;rw[show(qi a a != 0)=false by rw[Bh.2 rfl];rfl,dQ,Bi];simp;rw[show(qi a b != 0)=true by simpa [Bh]using h,dU,Bh];simp[h]
theorem uT(x:List Int):¬cmpL x x<0:=by rw[Bi.2 rfl];omega
theorem Ej:∀{x y z:List Int},cmpL x y<0→cmpL y z<0→cmpL x z<0
  | x,y,z,h1,h2=>by
    rw[wI]at h1 h2;rcases h1 with⟨b,y',rfl,rfl⟩|⟨a,x',b,y',rfl,rfl,h1⟩
    rcases h2 with⟨c,z',h,_⟩|⟨b',y'',c,z',h,rfl,h2⟩
    cases h;exact wI.2 (.inl ⟨c,z',rfl,rfl⟩);rcases h2 with⟨c,z',h,_⟩|⟨b',y'',c,z',h,rfl,h2⟩
    cases h;cases h;refine wI.2 (.inr ⟨a,x',c,z',rfl,rfl,?_⟩);rcases h1 with h1|⟨rfl,h1⟩<;>rcases h2 with h2|⟨rfl,h2⟩
    exact .inl omY;exact .inl h1;exact .inl h2;exact .inr ⟨rfl,Ej h1 h2⟩
theorem Nr:∀{x y:List Int},x≠y→cmpL x y<0∨cmpL y x<0
  | [],[],h=>absurd rfl h
  | [],b::y,_=>.inl (by simp[cmpL])
  | a::x,[],_=>.inr (by simp[cmpL])
  | a::x,b::y,h=>by
    rcases qj7 a b with k|k|k
    exact .inl (wI.2 (.inr ⟨a,x,b,y,rfl,rfl,.inl k⟩));subst k;have:x≠y:=λe=>h (by rw[e]);rcases Nr this with k|k
    exact .inl (wI.2 (.inr ⟨a,x,a,y,rfl,rfl,.inr ⟨rfl,k⟩⟩));exact .inr (wI.2 (.inr ⟨a,y,a,x,rfl,rfl,.inr ⟨rfl,k⟩⟩));exact .inr (wI.2 (.inr ⟨b,y,a,x,rfl,rfl,.inl k⟩))
def kG(w:Sl Int):List Int:=(List.range w.len).map w.get
theorem Em(w:Sl Int):(kG w).length=w.len:=by simp[kG]
def zqu(a b:af):Int:=cond (qi a.View b.View != 0) (qi a.View b.View) (cond (cmpL (kG a.Hits) (kG b.Hits) != 0) (cmpL (kG a.Hits) (kG b.Hits)) (cmpL (kG a.aX) (kG b.aX)))
def ZL(a b:af):Prop:=a.View<b.View\/a.View=b.View/\(cmpL (kG a.Hits) (kG b.Hits)<0\/kG a.Hits=kG b.Hits/\cmpL (kG a.aX) (kG b.aX)<0)
theorem zqv{a b:af}:zqu a b<0↔ZL a b:=by
 unfold zqu ZL;by_cases h:a.View=b.View;rw [show(qi a.View b.View != 0)=false by rw [Bh.2 h];rfl,dQ];by_cases k:kG a.Hits=kG b.Hits;rw [show(cmpL (kG a.Hits) (kG b.Hits) != 0)=false by rw [Bi.2 k];rfl,dQ,Bi.2 k];simp[h,k];rw [show(cmpL (kG a.Hits) (kG b.Hits) != 0)=true by simpa [Bi]using k,dU];simp[h,k];rw [show(qi a.View b.View != 0)=true by simpa [Bh]using h,dU,zb4];simp[h]
theorem zb5(a:af):¬ZL a a:=λh=>by
 rcases h with h|⟨_,h|⟨_,h⟩⟩
 omega;exact uT _ h;exact uT _ h
theorem zjQ{a b c:af}(h:ZL a b)(k:ZL b c):ZL a c:=by
 rcases h with h|⟨h,h2⟩<;>rcases k with k|⟨k,k2⟩
 exact .inl omY;exact .inl omY;exact .inl omY;refine .inr ⟨omY,?_⟩;rcases h2 with h2|⟨h2,h3⟩<;>rcases k2 with k2|⟨k2,k3⟩
 exact .inl (Ej h2 k2);exact .inl (k2▸h2);exact .inl (h2▸k2);exact .inr ⟨h2.trans k2,Ej h3 k3⟩
theorem zjR{a b:af}(h:ZL a b):¬ZL b a:=λk=>zb5 a (zjQ h k)
theorem zqw{a b:af}(h:¬(a.View=b.View/\kG a.Hits=kG b.Hits/\kG a.aX=kG b.aX)):ZL a b\/ZL b a:=by
 rcases qj7 a.View b.View with k|k|k
 exact .inl (.inl k);by_cases h1:kG a.Hits=kG b.Hits;have:kG a.aX≠kG b.aX:=fun e=>h ⟨k,h1,e⟩;rcases Nr this with h2|h2
 exact .inl (.inr ⟨k,.inr ⟨h1,h2⟩⟩);exact .inr (.inr ⟨k.symm,.inr ⟨h1.symm,h2⟩⟩);rcases Nr h1 with h2|h2
 exact .inl (.inr ⟨k,.inl h2⟩);exact .inr (.inr ⟨k.symm,.inl h2⟩);exact .inr (.inl k)
theorem zxR{a b:af}(h1:kG a.Hits=kG b.Hits)(h2:kG a.aX=kG b.aX)(ha:a.aX.len=a.Hits.len)(hb:b.aX.len=b.Hits.len):eu a=eu b:=by
 have l1:a.Hits.len=b.Hits.len:=by rw[<- Em,<- Em,h1]
 have key:∀t:af,t.aX.len=t.Hits.len->eu t=(kG t.Hits).zip (kG t.aX):=λt ht=>by
  unfold eu kG;rw[ht,List.zip_map']
 rw[key a ha,key b hb,h1,h2]
def wJ(a b:af):Bool:=(eu b).all (λp=>(eu a).contains p)&&(b.View==a.View)
theorem uU{a b:af}:wJ a b=true↔(∀p∈eu b,p∈eu a)/\b.View=a.View:=by
 unfold wJ;simp[Aj]
theorem zjS{t u:af}{p:Int×Int}(h1:u.Hits.len=t.Hits.len+1)(h2:∀j,j<t.Hits.len->u.Hits.get j=t.Hits.get j/\u.aX.get j=t.aX.get j)(h3:u.Hits.get t.Hits.len=p.1/\u.aX.get t.Hits.len=p.2):eu u=eu t++[p]:=by
 unfold eu;rw[h1,qjw,TR];congr 1;exact dqU λi hi=>by
  have:=h2 i (Ak.1 hi);rw[this.1,this.2]
 show [(u.Hits.get t.Hits.len,u.aX.get t.Hits.len)]=[p];rw[h3.1,h3.2]
def zmo(v:Sl Line)(l:List straight):Sl Line:=(l.map nZ).foldl mX v
def leB(a b:aP):Bool:=decide (aQ (a.Num*b.bV)<aQ (b.Num*a.bV))
theorem Qd{g:Sl aC}(G:bY g)(hf:gW g=false):gp g=true↔∃s∈cst g,Bg g s:=by
 unfold gp;rw[hf,dQ,oO];obtain⟨c1,c2,_⟩:=SE hf;constructor;intro h;obtain⟨a,b⟩:=c1 _ (qdb (l:=jq g) (n:=0) omY);exact⟨_,a,(Ed G (Bf G a)).1 b⟩;rintro⟨s,hs,ha⟩;obtain⟨x,hx,_⟩:=c2 s hs ((Ed G (Bf G hs)).2 ha);have:=jqH hx;omega
def WT(z:Int):Prop:=-100000<=z/\z<=200000
abbrev zxS(C:straight×Int->ae aP):Prop:=∀s z,Ae s->WT z->C (s,z)=.ok (Jq z s)
theorem zPJ{E:zpH}:zxS (zpI E):=λs z S hz=>ae.ext λk=>by
 rw[e203,bf,(zbT S (z:=z) ⟨by have:=hz.1;omega,hz.2⟩).1];rfl
abbrev zxT(C:straight×Pt Int->ae aP):Prop:=∀s (z:Pt Int),Ae s->WT z.v->C (s,z)=.ok (Jq z.v s)
theorem zPK{E:zpF}(zw3:zxS E.c203):zxT (zpG E):=λs z S hz=>ae.ext λk=>by rw[zOG,zw3 _ _ S hz]
theorem ZM{s:straight}(S:Ae s){z:Int}(hz:WT z):(-600000000000<=(Jq z s).Num/\(Jq z s).Num<=600000000000)/\0<(Jq z s).bV/\(Jq z s).bV<=100000:=by
 have:=(zbT S (z:=z) ⟨by have:=hz.1;omega,hz.2⟩).2;have:=S.2.2;exact⟨‹_›,by show 0<s.den;omega,by show s.den<=_;omega⟩
def WU(f:aP):Prop:=(-600000000000<=f.Num/\f.Num<=600000000000)/\0<f.bV/\f.bV<=100000
theorem zb6{a b:aP}(h1:WU a)(h2:WU b):aQ (a.Num*b.bV)=a.Num*b.bV:=by
 have:=SA h1.1.1 h1.1.2 (Il h2.2.1) h2.2.2;exact aZ omY omY
abbrev zxU(C:aP×aP->ae Bool):Prop:=∀a b,WU a->WU b->C (a,b)=.ok (ltB a b)
theorem zPL{E:zo8}(MN:zjC E.EE):zxU (zo9 E):=λa b h1 h2=>ae.ext λk=>by rw[e169,MN _ _ (zb6 h1 h2) (zb6 h2 h1),bf,bf];rfl
abbrev zxV(C:aP×aP->ae Bool):Prop:=∀a b,WU a->WU b->C (a,b)=.ok (gtB a b)
theorem zPM{E:zpc}(MN:zjC E.EE):zxV (zpd E):=λa b h1 h2=>ae.ext λk=>by rw[zOg,MN _ _ (zb6 h1 h2) (zb6 h2 h1),bf,bf];rfl
abbrev zxW:=dF 169 Unit Unit ⊕ dF 171 Unit Unit
def mQ:zxW→aP→aP→Bool|.inl _=>ltB|.inr _=>gtB
abbrev QEx{γ:Type}(i:γ->zxW)(C:Sl aP×γ->ae aP):Prop:=∀(l:Sl aP)(c:γ),0<l.len->l.len<=10000->(∀i,i<l.len->WU (l.get i))->C (l,c)=.ok (rC (mQ (i c)) l.get l.len)
abbrev zqx(C:Sl aP×zxW->ae aP):Prop:=QEx id C
theorem WV{lt:aP->aP->Bool}{f:Nat->aP}:rC lt f 1=f 0:=by simp only[rC];cases lt (f 0) (f 0)<;>rfl
theorem WW{lt:aP->aP->Bool}{f:Nat->aP}{n:Nat}:rC lt f (n+1)=cond (lt (f n) (rC lt f n)) (f n) (rC lt f n):=rfl
theorem En{lt:aP→aP→Bool}{f:Nat→aP}:∀n,∃i,i<n+1∧rC lt f (n+1)=f i
  | 0=>⟨0,omY,WV⟩
  | n+1=>by
    obtain⟨i,hi,e⟩:=En (lt:=lt) (f:=f) n;rw[WW];cases lt (f (n+1)) (rC lt f (n+1))with|true=>exact⟨n+1,omY,rfl⟩|false=>exact⟨i,omY,e⟩
theorem zjT{E:uJ}(N:Big E.N)(zwW:zxU E.zru):QEx .inl (DF E):=λl c h0 hl hp=>ae.ext λk=>by
 rw[ziH,bf,bF omY,bF omY,<- WV (lt:=mQ (.inl c)) (f:=l.get)];have hm:(((l.len:Int)-1).toNat:Int)=((l.len-1:Nat):Int):=by omega
 refine(pK (X:=λn i=>nO E n l (i:Int) (rC (mQ (.inl c)) l.get (i+1)) k) (m:=l.len-1) (fin:=k (rC (mQ (.inl c)) l.get l.len)) (λn i hi=>?_) (λn=>?_) E.N (by have:=N;omega));obtain⟨j,hj,e⟩:=En (lt:=mQ (.inl c)) (f:=l.get) i;have hq:WU (rC (mQ (.inl c)) l.get (i+1)):=by rw[e];exact hp j omY
 rw[ML,hm,dK omY,dU,bF omY,fQ,show LU l.get 1 i=l.get (i+1)from rfl,zwW _ _ (hp (i+1) omY) hq,bf,bJ omY,WW (n:=i+1)];show cond (ltB (l.get (i+1)) (rC (mQ (.inl c)) l.get (i+1))) _ _=nO E n l _ (cond (ltB (l.get (i+1)) (rC (mQ (.inl c)) l.get (i+1))) _ _) k;cases ltB (l.get (i+1)) (rC (mQ (.inl c)) l.get (i+1))<;>rfl;rw[ML,hm,dV omY,show l.len-1+1=l.len by omega];rfl
theorem zjU{E:uK}(N:Big E.N)(zwX:zxV E.c171):QEx .inr (DI E):=λl c h0 hl hp=>ae.ext λk=>by
 rw[ziJ,bf,bF omY,bF omY,<- WV (lt:=mQ (.inr c)) (f:=l.get)];have hm:(((l.len:Int)-1).toNat:Int)=((l.len-1:Nat):Int):=by omega
 refine(pK (X:=λn i=>nP E n l (i:Int) (rC (mQ (.inr c)) l.get (i+1)) k) (m:=l.len-1) (fin:=k (rC (mQ (.inr c)) l.get l.len)) (λn i hi=>?_) (λn=>?_) E.N (by have:=N;omega));obtain⟨j,hj,e⟩:=En (lt:=mQ (.inr c)) (f:=l.get) i;have hq:WU (rC (mQ (.inr c)) l.get (i+1)):=by rw[e];exact hp j omY
 rw[MM,hm,dK omY,dU,bF omY,fQ,show LU l.get 1 i=l.get (i+1)from rfl,zwX _ _ (hp (i+1) omY) hq,bf,bJ omY,WW (n:=i+1)];show cond (gtB (l.get (i+1)) (rC (mQ (.inr c)) l.get (i+1))) _ _=nP E n l _ (cond (gtB (l.get (i+1)) (rC (mQ (.inr c)) l.get (i+1))) _ _) k;cases gtB (l.get (i+1)) (rC (mQ (.inr c)) l.get (i+1))<;>rfl;rw[MM,hm,dV omY,show l.len-1+1=l.len by omega];rfl
theorem zPN{f:Sl aP×dF 169 Unit Unit->ae aP}{g:Sl aP×dF 171 Unit Unit->ae aP}(a:QEx .inl f)(b:QEx .inr g):zqx (ae.two f g):=λl c h0 hl hp=>by
 rcases c with c|c
 exact a l c h0 hl hp;exact b l c h0 hl hp
abbrev zxY(C:straight->ae aP):Prop:=∀s,C s=.ok (zEF s)
theorem zPO{E:zoC}:zxY (zoD E):=λs=>ae.ext λk=>by rw[e120,bf];rfl
abbrev zei:=dF 202 Unit (Pt Int) ⊕ dF 120 Unit Unit
def iD:zei→straight→aP|.inl c=>Jq c.v.v|.inr _=>zEF
def okB:zei→Prop|.inl c=>WT c.v.v|.inr _=>True
theorem SX{g:Sl aC}(G:bY g){c:zei}(hc:okB c){s:straight}(h:Ag g s):WU (iD c s):=by
 have S:=qR G h;rcases c with c|c
 exact ZM S hc;have:=S.1;have:=S.2.2;exact⟨by show -600000000000<=s.bg/\s.bg<=600000000000;omega,by show 0<s.den;omega,by show s.den<=100000;omega⟩
def xG(g:Sl aC)(F:straight→aP):Nat→Sl aP|0=>⟨0,λ_=>⟨0,0⟩⟩|i+1=>mX (xG g F i) (F ((iI g).bU.get i))
theorem iy(g:Sl aC)(F:straight→aP):∀n,(xG g F n).len=n|0=>rfl|n+1=>by show(xG g F n).len+1=n+1;rw[iy g F n]
theorem wK(g:Sl aC)(F:straight→aP):∀n i,i<n→(xG g F n).get i=F ((iI g).bU.get i)
  | n+1,i,h=>by
    show lm (xG g F n).len (xG g F n).get (λ_=>F ((iI g).bU.get n)) i=_;rw[jD,iy];by_cases e:i=n;rw[dH omY,e];rw[dM omY,wK g F n i omY]
theorem uV{lt:aP→aP→Bool}{f g:Nat→aP}:∀n,(∀i,i<n+1→f i=g i)→rC lt f (n+1)=rC lt g (n+1)|0,h=>by rw[WV,WV,h 0 omY]|n+1,h=>by rw[WW,WW (f:=g) (n:=n+1),uV n λi hi=>h i omY,h (n+1) omY]
theorem zte{g:Sl aC}(G:bY g){c:zei}(hc:okB c)(h0:0<(jq g).length):WU (loG g (iD c))/\WU (hiG g (iD c)):=by
 obtain⟨n,hn⟩:∃n,(jq g).length=n+1:=⟨(jq g).length-1,omY⟩;have pok:∀i,i<n+1->WU (iD c ((iI g).bU.get i)):=λi hi=>SX G hc (yF G omY);unfold loG hiG;rw[hn];obtain⟨i,i2,i3⟩:=En (lt:=ltB) (f:=λi=>iD c ((iI g).bU.get i)) n;obtain⟨j,j2,j3⟩:=En (lt:=gtB) (f:=λi=>iD c ((iI g).bU.get i)) n;exact⟨by rw[i3];exact pok i i2,by rw[j3];exact pok j j2⟩
abbrev QBd{γ:Type}(i:γ->zei)(C:set×γ->ae (aP×aP)):Prop:=∀g (c:γ),bY g->okB (i c)->0<(jq g).length->C (iI g,c)=.ok (red (loG g (iD (i c))).Num (loG g (iD (i c))).bV,red (hiG g (iD (i c))).Num (hiG g (iD (i c))).bV)
abbrev zx0(C:set×zei->ae (aP×aP)):Prop:=QBd id C
theorem zjV{E:uF}(N:Big E.N)(zwI:zxT E.zrC)(RY:zqx E.c168)(qg:ZG E.ku):QBd .inl (Dx E):=λg c G hz h0=>ae.ext λk=>by
 have hl:=Jn G;have hs:=Ec g;have pok:∀i,i<(jq g).length->WU (iD (.inl c) ((iI g).bU.get i)):=λi hi=>SX G hz (yF G hi);obtain⟨pl,ph⟩:=zte G hz h0;rw[ziw,bf];refine pK (X:=λn i=>wo E n (iI g) c (i:Int) (xG g (iD (.inl c)) i) k) (m:=(jq g).length) (λn i hi=>?_) (λm=>?_) _ (by have:=N;omega);rw[MC,hs,dK omY,dU,bF omY,fQ,zwI _ _ (qR G (yF G hi)) hz,bf,lV (by rw[iy];omega) omY,bJ omY];rfl;obtain⟨n,hn⟩:∃n,(jq g).length=n+1:=⟨(jq g).length-1,by omega⟩;have hp:∀i,i<(xG g (iD (.inl c)) (jq g).length).len->WU ((xG g (iD (.inl c)) (jq g).length).get i):=λi hi=>by
  rw[iy]at hi;rw[wK _ _ _ _ hi];exact pok i hi
 rw[MC,hs,dV omY,dQ,RY _ _ (by rw[iy];omega) (by rw[iy];omega) hp,bf,RY _ _ (by rw[iy];omega) (by rw[iy];omega) hp,bf];have e1:rC (mQ (.inl ⟨(),()⟩)) (xG g (iD (.inl c)) (jq g).length).get (xG g (iD (.inl c)) (jq g).length).len=loG g (iD (.inl c)):=by
  rw[iy];unfold loG;rw[hn];exact uV n λi hi=>wK _ _ _ _ hi
 have e2:rC (mQ (.inr ⟨(),()⟩)) (xG g (iD (.inl c)) (jq g).length).get (xG g (iD (.inl c)) (jq g).length).len=hiG g (iD (.inl c)):=by
  rw[iy];unfold hiG;rw[hn];exact uV n λi hi=>wK _ _ _ _ hi
 show(E.ku ((rC (mQ (.inl ⟨(),()⟩)) (xG g (iD (.inl c)) (jq g).length).get (xG g (iD (.inl c)) (jq g).length).len).Num,(rC (mQ (.inl ⟨(),()⟩)) (xG g (iD (.inl c)) (jq g).length).get (xG g (iD (.inl c)) (jq g).length).len).bV)).T (λr4=>(E.ku ((rC (mQ (.inr ⟨(),()⟩)) (xG g (iD (.inl c)) (jq g).length).get (xG g (iD (.inl c)) (jq g).length).len).Num,(rC (mQ (.inr ⟨(),()⟩)) (xG g (iD (.inl c)) (jq g).length).get (xG g (iD (.inl c)) (jq g).length).len).bV)).T λr5=>k (r4,r5))=_;rw[e1,e2,qg _ _ (by have:=pl.1;omega) (by have:=pl.1;omega) pl.2.1 (by have:=pl.2.2;omega),bf,qg _ _ (by have:=ph.1;omega) (by have:=ph.1;omega) ph.2.1 (by have:=ph.2.2;omega),bf]
theorem zjW{E:uG}(N:Big E.N)(zwJ:zxY E.zro)(RY:zqx E.c168)(qg:ZG E.ku):QBd .inr (Dy E):=λg c G hz h0=>ae.ext λk=>by
 have hl:=Jn G;have hs:=Ec g;have pok:∀i,i<(jq g).length->WU (iD (.inr c) ((iI g).bU.get i)):=λi hi=>SX G hz (yF G hi);obtain⟨pl,ph⟩:=zte G hz h0;rw[ziy,bf];refine pK (X:=λn i=>wu E n (iI g) (i:Int) (xG g (iD (.inr c)) i) k) (m:=(jq g).length) (λn i hi=>?_) (λm=>?_) _ (by have:=N;omega);rw[MF,hs,dK omY,dU,bF omY,fQ,zwJ,bf,lV (by rw[iy];omega) omY,bJ omY];rfl;obtain⟨n,hn⟩:∃n,(jq g).length=n+1:=⟨(jq g).length-1,by omega⟩;have hp:∀i,i<(xG g (iD (.inr c)) (jq g).length).len->WU ((xG g (iD (.inr c)) (jq g).length).get i):=λi hi=>by
  rw[iy]at hi;rw[wK _ _ _ _ hi];exact pok i hi
 rw[MF,hs,dV omY,dQ,RY _ _ (by rw[iy];omega) (by rw[iy];omega) hp,bf,RY _ _ (by rw[iy];omega) (by rw[iy];omega) hp,bf];have e1:rC (mQ (.inl ⟨(),()⟩)) (xG g (iD (.inr c)) (jq g).length).get (xG g (iD (.inr c)) (jq g).length).len=loG g (iD (.inr c)):=by
  rw[iy];unfold loG;rw[hn];exact uV n λi hi=>wK _ _ _ _ hi
 have e2:rC (mQ (.inr ⟨(),()⟩)) (xG g (iD (.inr c)) (jq g).length).get (xG g (iD (.inr c)) (jq g).length).len=hiG g (iD (.inr c)):=by
  rw[iy];unfold hiG;rw[hn];exact uV n λi hi=>wK _ _ _ _ hi
 show(E.ku ((rC (mQ (.inl ⟨(),()⟩)) (xG g (iD (.inr c)) (jq g).length).get (xG g (iD (.inr c)) (jq g).length).len).Num,(rC (mQ (.inl ⟨(),()⟩)) (xG g (iD (.inr c)) (jq g).length).get (xG g (iD (.inr c)) (jq g).length).len).bV)).T (λr4=>(E.ku ((rC (mQ (.inr ⟨(),()⟩)) (xG g (iD (.inr c)) (jq g).length).get (xG g (iD (.inr c)) (jq g).length).len).Num,(rC (mQ (.inr ⟨(),()⟩)) (xG g (iD (.inr c)) (jq g).length).get (xG g (iD (.inr c)) (jq g).length).len).bV)).T λr5=>k (r4,r5))=_;rw[e1,e2,qg _ _ (by have:=pl.1;omega) (by have:=pl.1;omega) pl.2.1 (by have:=pl.2.2;omega),bf,qg _ _ (by have:=ph.1;omega) (by have:=ph.1;omega) ph.2.1 (by have:=ph.2.2;omega),bf]
theorem zPP{f:set×dF 202 Unit (Pt Int)->ae (aP×aP)}{g:set×dF 120 Unit Unit->ae (aP×aP)}(a:QBd .inl f)(b:QBd .inr g):zx0 (ae.two f g):=λw c G hz h0=>by
 rcases c with c|c
 exact a w c G hz h0;exact b w c G hz h0
def BF(g:Sl aC)(z:Int):aP×aP:=cond (gW g) (red (ik g g.len).Low 1,red (ik g g.len).High 1) (red (loF g z).Num (loF g z).bV,red (hiF g z).Num (hiF g z).bV)
theorem SY{g:Sl aC}(G:∀i,i<g.len→gK (g.get i))(h0:0<g.len):∀n,n≤g.len→(-1000000≤(ik g n).Low∧(ik g n).Low≤1000000) ∧ -1000000≤(ik g n).High∧(ik g n).High≤1000000
  | 0,_=>⟨Ad (G 0 h0),Ea (G 0 h0)⟩
  | n+1,h=>by
    obtain⟨a,b⟩:=SY G h0 n omY;have c:=Ad (G n omY);have d:=Ea (G n omY);simp only[ik];constructor;split<;>assumption;split<;>assumption
abbrev zx1(C:set×Int->ae (aP×aP)):Prop:=∀g z,bY g->WT z->(gW g=false->0<(jq g).length)->C (iI g,z)=.ok (BF g z)
theorem zPQ{E:zo4}(vZ:ZH E.c167)(ZB:zqg E.TJ)(qg:ZG E.ku)(zAz:zx0 E.c119):zx1 (zo5 E):=λg z G hz hc=>ae.ext λk=>by
 have hg:=G.2;rw[zOb,vZ (iI g).list (by show 0<g.len;omega) (by show g.len<=1000;omega),bf,bf];show cond (gW g) _ _=_;unfold BF;cases hf:gW g with
 | true =>
  obtain⟨a,b⟩:=SY G.1 omY g.len (jy _);rw[dU,ZB _ (by show 0<g.len;omega) (by show g.len<=1000;omega),bf];show(E.ku ((ik g g.len).Low,1)).T (λr3=>(E.ku ((ik g g.len).High,1)).T λr4=>k (r3,r4))=_;rw[qg _ _ omY omY omY omY,bf,qg _ _ omY omY omY omY,bf];rfl
 | false=>rw[dQ,zAz g (.inl ⟨(),⟨z⟩⟩) G hz (hc hf),bf];rfl
abbrev zx2(C:Sl aC×Int->ae (aP×aP×Int)):Prop:=∀g z,bY g->WT z->C (g,z)=.ok (cond ((Gj g ((g.get 0).Z==z)).2 != 0) (⟨0,0⟩,⟨0,0⟩,(Gj g ((g.get 0).Z==z)).2) ((BF g z).1,(BF g z).2,0))
theorem zPR{E:zow}(Bd:RI E.c157)(Zt:zqj E.c117)(zwC:zx1 E.zfb):zx2 (zox E):=λg z G hz=>ae.ext λk=>by
 have hg:=G.2;rw[zNF,Bd,bf,bf,show inB z (-100000) 200000=true from dK hz,Zt g _ omY,bf];show cond ((Gj g ((g.get 0).Z==z)).2 != 0) (k (⟨0,0⟩,⟨0,0⟩,(Gj g ((g.get 0).Z==z)).2)) ((E.zfb ((Gj g ((g.get 0).Z==z)).1,z)).T λr3=>k (r3.1,r3.2,0))=_;unfold Gj;rw[lN.2 G];cases hs:gp g with
 | false=>rfl
 | true =>
  cases hf:gW g && !((g.get 0).Z==z)with
  | true=>rfl
  | false =>
   show(E.zfb (iI g,z)).T _=_;rw[zwC g z G hz λhf=>by unfold gp at hs;rw[hf,dQ,oO]at hs;omega,bf];rfl
def zjX(p:aj)(h:bu):bC:=cond (p.Kind==3) p.Clock ⟨aQ (aQ (h.Time-p.Clock.High)-p.dX),aQ (aQ (h.Time-p.Clock.Low)+p.dX)⟩
def gq(s:au)(h:bu):bC:=zjX (s.ak.get h.aj.toNat) h
abbrev zx3(C:placed×bu->ae bC):Prop:=∀q h,C (q,h)=.ok (zjX q.aj h)
theorem zPS{E:zou}:zx3 (zov E):=λq h=>ae.ext λk=>by rw[zND,bf,kc k];rfl
def tmG(s:au)(l:Sl bu):Sl aC:=⟨l.len,λi=>⟨0,(gq s (l.get i)).Low,(gq s (l.get i)).High⟩⟩
theorem Ns{g h:Sl aC}{m:Nat}(h0:0<m)(e:∀i,i<m→g.get i=h.get i):∀n,n≤m→ik g n=ik h n|0,_=>by simp only[ik,e 0 h0]|n+1,hn=>by simp only[ik,Ns h0 e n omY,e n omY]
abbrev zx4(C:au×Sl bu->ae Int):Prop:=∀s (l:Sl bu),qO s->fF s=true->l.len<=1000->(∀i,i<l.len->o5 s (l.get i)=true)->C (s,l)=.ok 0
theorem zPT{E:zdZ}(N:Big E.N)(AZ:QSe E.c160)(zL:zdX E.tH):zx4 (zot E):=λs l hs hb hl hh=>ae.ext λk=>by
 rw[zNC,dV omY,dQ,AZ s hs,bf,hb,bf];refine pK (X:=λn i=>RV E n s l (i:Int) k) (m:=l.len) (λn i hi=>?_) (λn=>?_) _ (by have:=N;omega);rw [zir,dK omY,dU,bF omY,fQ,zL _ _ hs hb,bf,bJ omY];show cond (!o5 s (l.get i)) _ _=_;rw[hh i hi];rfl;rw[zir,dV omY];rfl
def cmS(x:bC):bC×Int:=cond (decide (x.Low>x.High)) (⟨0,0⟩,5) (x,0)
abbrev Q50(C:au×Sl bu->ae (bC×Int)):Prop:=∀s (l:Sl bu),qO s->fF s=true->0<l.len->l.len<=1000->(∀i,i<l.len->o5 s (l.get i)=true)->C (s,l)=.ok (cmS (ik (tmG s l) l.len))
theorem s50{E:E50}(N:Big E.N)(zwv:zx4 E.zrm)(zL:zdX E.tH)(zop:zx3 E.Z9):Q50 (F50 E):=λs l hs hb h0 hl hh=>ae.ext λk=>by
 have hm:(((l.len:Int)-1).toNat:Int)=((l.len-1:Nat):Int):=by omega
 have tm:∀i,i<l.len->zjX (ofP s (l.get i)).aj (l.get i)=gq s (l.get i):=λi hi=>by rw[zih (hh i hi)];rfl
 have:=pK (X:=λn i=>zbI E n s l (i:Int) (ik (tmG s l) (i+1)) k) (m:=l.len-1) (fin:=k (cmS (ik (tmG s l) l.len))) (λn i hi=>by
  rw[zs5,hm,dK omY,dU,bF omY,fQ];show(E.tH (s,l.get (i+1))).T _=_;rw[zL _ _ hs hb,bf];show(E.Z9 (ofP s (l.get (i+1)),l.get (i+1))).T _=_;rw[zop,bf,tm (i+1) omY,bJ omY];rfl) (λn=>by
  rw[zs5,hm,show l.len-1+1=l.len by omega,dV omY,dQ,kc k];rfl) E.N (by have:=N;omega)
 rw[show(0+1:Nat)=1 from rfl,zxH]at this;rw[e50,zwv s l hs hb hl hh,bf,show((0:Int) != 0)=false from rfl,dQ,show((l.len:Int)==0)=false by rw[qjt];omega,dQ,bF omY,zL _ _ hs hb,bf,bF omY];show(E.Z9 (ofP s (l.get 0),l.get 0)).T _=_;rw[zop,bf,bF omY,tm 0 h0,bf];exact this
def hiW(l:Sl bu)(w:Sl Int):Nat→Sl bu|0=>⟨0,λ_=>⟨0,0,0,0,0,0⟩⟩|i+1=>mX (hiW l w i) (l.get (w.get i).toNat)
theorem wL(l:Sl bu)(w:Sl Int):∀n,(hiW l w n).len=n|0=>rfl|n+1=>by show(hiW l w n).len+1=n+1;rw[wL l w n]
theorem Tc(l:Sl bu)(w:Sl Int):∀n i,i<n→(hiW l w n).get i=l.get (w.get i).toNat
  | n+1,i,h=>by
    show lm (hiW l w n).len (hiW l w n).get (λ_=>l.get (w.get n).toNat) i=_;rw[jD,wL];by_cases e:i=n;rw[dH omY,e];rw[dM omY,Tc l w n i omY]
def InH(l:Sl bu)(w:Sl Int):Prop:=∀i,i<w.len->0<=w.get i/\w.get i<(l.len:Int)
theorem zx5{s:au}{l:Sl bu}(he:Evt s l){w:Sl Int}(h:InH l w):∀i,i<(hiW l w w.len).len->o5 s ((hiW l w w.len).get i)=true:=λi hi=>by
 rw[wL]at hi;rw[Tc _ _ _ _ hi];have:=h i hi;exact dD.1 he.hi _ omY
def zG(s:au)(l:Sl bu)(c:iJ):bC:=ik ⟨c.length,λi=>⟨0,(gq s (l.get ((c[i]?).getD (0,0)).1.toNat)).Low,(gq s (l.get ((c[i]?).getD (0,0)).1.toNat)).High⟩⟩ c.length
theorem zqy{s:au}{l:Sl bu}{t:af}{c:iJ}(hc:eu t=c)(h0:0<t.Hits.len):ik (tmG s (hiW l t.Hits t.Hits.len)) (hiW l t.Hits t.Hits.len).len=zG s l c:=by
 unfold zG;rw[wL,<- hc,iw];refine Ns h0 (λi hi=>?_) _ (jy _);show(⟨0,(gq s ((hiW l t.Hits t.Hits.len).get i)).Low,(gq s ((hiW l t.Hits t.Hits.len).get i)).High⟩:aC)=⟨0,(gq s (l.get (((eu t)[i]?).getD (0,0)).1.toNat)).Low,(gq s (l.get (((eu t)[i]?).getD (0,0)).1.toNat)).High⟩;rw[Tc _ _ _ _ hi,zk hi];rfl
def Nu(s:au)(l:Sl bu)(c:iJ):Bool:=decide ((zG s l c).Low<=(zG s l c).High)
abbrev Q93(C:Pt aH×af->ae (bC×Bool)):Prop:=∀s l r t c,Evt s l->InH l t.Hits->0<t.Hits.len->t.Hits.len<=100->eu t=c->C (fM s r l,t)=.ok ((cmS (zG s l c)).1,Nu s l c)
theorem s93{E:E93}(N:Big E.N)(h50:Q50 E.c50):Q93 (F93 E):=λs l r t c he hi h0 h1 hc=>ae.ext λk=>by
 rw[e93,bf];refine pK (X:=λn i=>zbL E n (fM s r l) t (i:Int) (hiW l t.Hits i) k) (m:=t.Hits.len) (λn i mV=>?_) (λn=>?_) _ (by have:=N;omega);have a:=hi i mV;rw[zs8,dK omY,dU,bF omY,fQ,bF (show 0<=t.Hits.get i/\t.Hits.get i<((fM s r l).v.hits.len:Int)from a),lV (by rw[wL];omega) omY,bJ omY];rfl;rw [zs8,dV omY,dQ];show(E.c50 (s,hiW l t.Hits t.Hits.len)).T _=_;rw[h50 _ _ he.sh he.se (by rw[wL];omega) (by rw[wL];omega) (zx5 he hi),bf,zqy hc h0];have:((cmS (zG s l c)).2==0)=Nu s l c:=by
  unfold cmS Nu;by_cases h:(zG s l c).Low>(zG s l c).High;rw[dK h,dV omY];rfl;rw[dV h,dK omY];rfl
 rw[this]
def Bj(s:au)(l:Sl bu)(c:iJ):Bool:=Nu s l c&&gp (BD s l c)
theorem Td{s:au}{l:Sl bu}{x:Int}{t:af}{c:iJ}{j:Nat}(hc:eu t=c)(h:Val s l x c j):InH l t.Hits:=λi hi=>by
 have:=Ef hc hi;have m:=(h.mem _ (Jy this)).1;have:=h.le;simp only at m;omega
theorem Tf{t:af}{c:iJ}(hc:eu t=c)(hn:c≠[]):0<t.Hits.len:=by
 rw[<- iw,hc];exact qjY.2 hn
theorem rU{s:au}{l:Sl bu}{x:Int}{t:af}{c:iJ}{j:Nat}(hc:eu t=c)(h:Val s l x c j):t.Hits.len<=l.len:=by
 rw[<- iw,hc];have:=h.le;omega
structure Ev (s : au) (l : Sl bu) (x : Int) : Prop extends Evt s l where
  l24:l.len<=24
  vw:RN x=true
abbrev zx6(C:Pt aH×af->ae Bool):Prop:=∀s l r x t c j,Ev s l x->WO x t->eu t=c->Val s l x c j->c≠[]->C (fM s r l,t)=.ok (Bj s l c)
theorem zPU{E:zpm}(h93:Q93 E.c93)(MI:zil E.c105)(zw2:zxF E.zrG):zx6 (zpn E):=λs l r x t c j he ht hc hv hn=>ae.ext λk=>by
 have hl:=rU hc hv;have h24:=he.l24;have G:=Gn he.toEvt he.l24 hv hn;obtain⟨y,hy⟩:=zw2 (BD s l c) (by have:=G.2;omega);rw[zOq,h93 s l r t c he.toEvt (Td hc hv) (Tf hc hn) omY hc,bf,bf];unfold Bj;cases Nu s l c with
 | false=>rfl
 | true =>
  show(E.c105 (fM s r l,t)).T _=_;rw[MI s l r t he.toEvt omY (SQ he.vw ht hc hv hn),bf,SS hc,hy,bf,<- zxG G];rfl
end Go.Proofs
