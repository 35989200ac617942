/- Part 5: framework, functions, plain laws. -/
import Derived.Test.YtjkijdhdbhooiaaGreatQ4
set_option linter.all false
noncomputable section
namespace Go.Proofs
open Go Go.Pm
set_option maxRecDepth 100000
theorem Uj:Tryz.prog.cellsOf 3=1:=krY
theorem zTG:Tryz.prog.cellsOf 22=1:=krY
theorem zTH:Tryz.prog.cellsOf 24=1:=krY
theorem zTI:Tryz.prog.cellsOf 26=2:=krY
theorem zTJ:Tryz.prog.cellsOf 38=1:=krY
theorem zTK:Tryz.prog.cellsOf 39=1:=krY
theorem zIg:Tryz.prog.cellsOf 92=6:=krY
theorem zdF:Tryz.prog.cellsOf 105=2:=krY
theorem zIh:Tryz.prog.cellsOf 121=1:=krY
theorem zIi:Tryz.prog.cellsOf 122=1:=krY
theorem zwc:Tryz.prog.cellsOf 124=15:=krY
theorem zwd:Tryz.prog.cellsOf 264=3:=krY
section
variable{H:Type}{en:TypeId×Value->H}{w:World}{sp:Nat->Bool}{held:Bool}
theorem zzs:Rd H en Tryz.prog w sp held 121 Int:=zbk Tryz.underlying121
theorem zwe:Rd H en Tryz.prog w sp held 38 Int:=zbk Tryz.underlying38
theorem wQ:Rd H en Tryz.prog w sp held 3 Int:=zbk Tryz.underlying3
instance:vC bW:=⟨λx=>vC.wf x.Low/\vC.wf x.High⟩
theorem zbo:Rd H en Tryz.prog w sp held 105 bW:=by
 intro fuel cs x h;obtain⟨hl,hf⟩:=rO Tryz.underlying105 h;rw[zdF]at hl;obtain⟨n0,y0,g0⟩:=hf 0 _ rfl;have g0:DataW.trod en Tryz.prog w 0 sp held n0 3 ((cs.drop 0).take (Tryz.prog.cellsOf 3))=some y0:=g0;rw[Uj]at g0;obtain⟨a0,r0,w0⟩:=wQ _ _ _ g0;obtain⟨n1,y1,g1⟩:=hf 1 _ rfl;have g1:DataW.trod en Tryz.prog w 0 sp held n1 3 ((cs.drop 1).take (Tryz.prog.cellsOf 3))=some y1:=g1;rw[Uj]at g1;obtain⟨a1,r1,w1⟩:=wQ _ _ _ g1;rw[dqQ (l:=cs.drop 1) (by rw[VO];omega)]at r1;have R:=(r0.append r1);rw[<- (show cs.drop 0=(cs.drop 0).take 1++cs.drop 1 from dN cs 0 1)]at R;exact⟨⟨a0,a1⟩,R,⟨w0,w1⟩⟩
instance:vC aS:=⟨λx=>vC.wf x.Time/\vC.wf x.dQ⟩
theorem zzt:Rd H en Tryz.prog w sp held 264 aS:=by
 intro fuel cs x h;obtain⟨hl,hf⟩:=rO Tryz.underlying264 h;rw[zwd]at hl;obtain⟨n0,y0,g0⟩:=hf 0 _ rfl;have g0:DataW.trod en Tryz.prog w 0 sp held n0 3 ((cs.drop 0).take (Tryz.prog.cellsOf 3))=some y0:=g0;rw[Uj]at g0;obtain⟨a0,r0,w0⟩:=wQ _ _ _ g0;obtain⟨n1,y1,g1⟩:=hf 1 _ rfl;have g1:DataW.trod en Tryz.prog w 0 sp held n1 105 ((cs.drop 1).take (Tryz.prog.cellsOf 105))=some y1:=g1;rw[zdF]at g1;obtain⟨a1,r1,w1⟩:=zbo _ _ _ g1;rw[dqQ (l:=cs.drop 1) (by rw[VO];omega)]at r1;have R:=(r0.append r1);rw[<- (show cs.drop 0=(cs.drop 0).take 1++cs.drop 1 from dN cs 0 1)]at R;exact⟨⟨a0,a1⟩,R,⟨w0,w1⟩⟩
theorem zzu:Rd H en Tryz.prog w sp held 122 (Sl aS):=Es Tryz.underlying122 zwd rfl (by decide) zzt
theorem zIj:Rd H en Tryz.prog w sp held 39 (Sl Int):=Es Tryz.underlying39 Uj rfl (by decide) wQ
instance:vC aj:=⟨λx=>vC.wf x.Kind/\vC.wf x.View/\vC.wf x.Z/\vC.wf x.First/\vC.wf x.aO/\vC.wf x.bC/\vC.wf x.dJ/\vC.wf x.aZ/\vC.wf x.Clock/\vC.wf x.dO/\vC.wf x.Least/\vC.wf x.aS/\vC.wf x.Dead⟩
theorem zzv:Rd H en Tryz.prog w sp held 124 aj:=by
 intro fuel cs x h;obtain⟨hl,hf⟩:=rO Tryz.underlying124 h;rw[zwc]at hl;obtain⟨n0,y0,g0⟩:=hf 0 _ rfl;have g0:DataW.trod en Tryz.prog w 0 sp held n0 121 ((cs.drop 0).take (Tryz.prog.cellsOf 121))=some y0:=g0;rw[zIh]at g0;obtain⟨a0,r0,w0⟩:=zzs _ _ _ g0;obtain⟨n1,y1,g1⟩:=hf 1 _ rfl;have g1:DataW.trod en Tryz.prog w 0 sp held n1 38 ((cs.drop 1).take (Tryz.prog.cellsOf 38))=some y1:=g1;rw[zTJ]at g1;obtain⟨a1,r1,w1⟩:=zwe _ _ _ g1;obtain⟨n2,y2,g2⟩:=hf 2 _ rfl;have g2:DataW.trod en Tryz.prog w 0 sp held n2 3 ((cs.drop 2).take (Tryz.prog.cellsOf 3))=some y2:=g2;rw[Uj]at g2;obtain⟨a2,r2,w2⟩:=wQ _ _ _ g2;obtain⟨n3,y3,g3⟩:=hf 3 _ rfl;have g3:DataW.trod en Tryz.prog w 0 sp held n3 3 ((cs.drop 3).take (Tryz.prog.cellsOf 3))=some y3:=g3;rw[Uj]at g3;obtain⟨a3,r3,w3⟩:=wQ _ _ _ g3;obtain⟨n4,y4,g4⟩:=hf 4 _ rfl;have g4:DataW.trod en Tryz.prog w 0 sp held n4 3 ((cs.drop 4).take (Tryz.prog.cellsOf 3))=some y4:=g4;rw[Uj]at g4;obtain⟨a4,r4,w4⟩:=wQ _ _ _ g4;obtain⟨n5,y5,g5⟩:=hf 5 _ rfl;have g5:DataW.trod en Tryz.prog w 0 sp held n5 3 ((cs.drop 5).take (Tryz.prog.cellsOf 3))=some y5:=g5;rw[Uj]at g5;obtain⟨a5,r5,w5⟩:=wQ _ _ _ g5;obtain⟨n6,y6,g6⟩:=hf 6 _ rfl;have g6:DataW.trod en Tryz.prog w 0 sp held n6 3 ((cs.drop 6).take (Tryz.prog.cellsOf 3))=some y6:=g6;rw[Uj]at g6;obtain⟨a6,r6,w6⟩:=wQ _ _ _ g6;obtain⟨n7,y7,g7⟩:=hf 7 _ rfl;have g7:DataW.trod en Tryz.prog w 0 sp held n7 105 ((cs.drop 7).take (Tryz.prog.cellsOf 105))=some y7:=g7;rw[zdF]at g7;obtain⟨a7,r7,w7⟩:=zbo _ _ _ g7;obtain⟨n8,y8,g8⟩:=hf 8 _ rfl;have g8:DataW.trod en Tryz.prog w 0 sp held n8 105 ((cs.drop 9).take (Tryz.prog.cellsOf 105))=some y8:=g8;rw[zdF]at g8;obtain⟨a8,r8,w8⟩:=zbo _ _ _ g8;obtain⟨n9,y9,g9⟩:=hf 9 _ rfl;have g9:DataW.trod en Tryz.prog w 0 sp held n9 3 ((cs.drop 11).take (Tryz.prog.cellsOf 3))=some y9:=g9;rw[Uj]at g9;obtain⟨a9,r9,w9⟩:=wQ _ _ _ g9;obtain⟨n10,y10,g10⟩:=hf 10 _ rfl;have g10:DataW.trod en Tryz.prog w 0 sp held n10 3 ((cs.drop 12).take (Tryz.prog.cellsOf 3))=some y10:=g10;rw[Uj]at g10;obtain⟨a10,V5,w10⟩:=wQ _ _ _ g10;obtain⟨n11,y11,g11⟩:=hf 11 _ rfl;have g11:DataW.trod en Tryz.prog w 0 sp held n11 122 ((cs.drop 13).take (Tryz.prog.cellsOf 122))=some y11:=g11;rw[zIi]at g11;obtain⟨a11,r11,w11⟩:=zzu _ _ _ g11;obtain⟨n12,y12,g12⟩:=hf 12 _ rfl;have g12:DataW.trod en Tryz.prog w 0 sp held n12 39 ((cs.drop 14).take (Tryz.prog.cellsOf 39))=some y12:=g12;rw[zTK]at g12;obtain⟨a12,r12,w12⟩:=zIj _ _ _ g12;rw[dqQ (l:=cs.drop 14) (by rw[VO];omega)]at r12;have R:=(r0.append (r1.append (r2.append (r3.append (r4.append (r5.append (r6.append (r7.append (r8.append (r9.append (V5.append (r11.append r12))))))))))));rw[<- (show cs.drop 13=(cs.drop 13).take 1++cs.drop 14 from dN cs 13 1)]at R;rw[<- (show cs.drop 12=(cs.drop 12).take 1++cs.drop 13 from dN cs 12 1)]at R;rw[<- (show cs.drop 11=(cs.drop 11).take 1++cs.drop 12 from dN cs 11 1)]at R;rw[<- (show cs.drop 9=(cs.drop 9).take 2++cs.drop 11 from dN cs 9 2)]at R;rw[<- (show cs.drop 7=(cs.drop 7).take 2++cs.drop 9 from dN cs 7 2)]at R;rw[<- (show cs.drop 6=(cs.drop 6).take 1++cs.drop 7 from dN cs 6 1)]at R;rw[<- (show cs.drop 5=(cs.drop 5).take 1++cs.drop 6 from dN cs 5 1)]at R;rw[<- (show cs.drop 4=(cs.drop 4).take 1++cs.drop 5 from dN cs 4 1)]at R;rw[<- (show cs.drop 3=(cs.drop 3).take 1++cs.drop 4 from dN cs 3 1)]at R;rw[<- (show cs.drop 2=(cs.drop 2).take 1++cs.drop 3 from dN cs 2 1)]at R;rw[<- (show cs.drop 1=(cs.drop 1).take 1++cs.drop 2 from dN cs 1 1)]at R;rw[<- (show cs.drop 0=(cs.drop 0).take 1++cs.drop 1 from dN cs 0 1)]at R;exact⟨⟨a0,a1,a2,a3,a4,a5,a6,a7,a8,a9,a10,a11,a12⟩,R,⟨w0,w1,w2,w3,w4,w5,w6,w7,w8,w9,w10,w11,w12⟩⟩
theorem zIk:Rd H en Tryz.prog w sp held 22 (Sl aj):=Es Tryz.underlying22 zwc rfl (by decide) zzv
instance:vC ak:=⟨λx=>vC.wf x.ai⟩
theorem zIl:Rd H en Tryz.prog w sp held 24 ak:=by
 intro fuel cs x h;obtain⟨hl,hf⟩:=rO Tryz.underlying24 h;rw[zTH]at hl;obtain⟨n0,y0,g0⟩:=hf 0 _ rfl;have g0:DataW.trod en Tryz.prog w 0 sp held n0 22 ((cs.drop 0).take (Tryz.prog.cellsOf 22))=some y0:=g0;rw[zTG]at g0;obtain⟨a0,r0,w0⟩:=zIk _ _ _ g0;rw[dqQ (l:=cs.drop 0) (by rw[VO];omega)]at r0;have R:=r0;exact⟨⟨a0⟩,R,w0⟩
instance:vC bQ:=⟨λx=>vC.wf x.yI/\vC.wf x.Dj⟩
theorem zIm:Rd H en Tryz.prog w sp held 26 bQ:=by
 intro fuel cs x h;obtain⟨hl,hf⟩:=rO Tryz.underlying26 h;rw[zTI]at hl;obtain⟨n0,y0,g0⟩:=hf 0 _ rfl;have g0:DataW.trod en Tryz.prog w 0 sp held n0 3 ((cs.drop 0).take (Tryz.prog.cellsOf 3))=some y0:=g0;rw[Uj]at g0;obtain⟨a0,r0,w0⟩:=wQ _ _ _ g0;obtain⟨n1,y1,g1⟩:=hf 1 _ rfl;have g1:DataW.trod en Tryz.prog w 0 sp held n1 3 ((cs.drop 1).take (Tryz.prog.cellsOf 3))=some y1:=g1;rw[Uj]at g1;obtain⟨a1,r1,w1⟩:=wQ _ _ _ g1;rw[dqQ (l:=cs.drop 1) (by rw[VO];omega)]at r1;have R:=(r0.append r1);rw[<- (show cs.drop 0=(cs.drop 0).take 1++cs.drop 1 from dN cs 0 1)]at R;exact⟨⟨a0,a1⟩,R,⟨w0,w1⟩⟩
instance:vC bz:=⟨λx=>vC.wf x.aj/\vC.wf x.Channel/\vC.wf x.kz/\vC.wf x.aS/\vC.wf x.Di/\vC.wf x.Time⟩
theorem zIn:Rd H en Tryz.prog w sp held 92 bz:=by
 intro fuel cs x h;obtain⟨hl,hf⟩:=rO Tryz.underlying92 h;rw[zIg]at hl;obtain⟨n0,y0,g0⟩:=hf 0 _ rfl;have g0:DataW.trod en Tryz.prog w 0 sp held n0 3 ((cs.drop 0).take (Tryz.prog.cellsOf 3))=some y0:=g0;rw[Uj]at g0;obtain⟨a0,r0,w0⟩:=wQ _ _ _ g0;obtain⟨n1,y1,g1⟩:=hf 1 _ rfl;have g1:DataW.trod en Tryz.prog w 0 sp held n1 3 ((cs.drop 1).take (Tryz.prog.cellsOf 3))=some y1:=g1;rw[Uj]at g1;obtain⟨a1,r1,w1⟩:=wQ _ _ _ g1;obtain⟨n2,y2,g2⟩:=hf 2 _ rfl;have g2:DataW.trod en Tryz.prog w 0 sp held n2 3 ((cs.drop 2).take (Tryz.prog.cellsOf 3))=some y2:=g2;rw[Uj]at g2;obtain⟨a2,r2,w2⟩:=wQ _ _ _ g2;obtain⟨n3,y3,g3⟩:=hf 3 _ rfl;have g3:DataW.trod en Tryz.prog w 0 sp held n3 3 ((cs.drop 3).take (Tryz.prog.cellsOf 3))=some y3:=g3;rw[Uj]at g3;obtain⟨a3,r3,w3⟩:=wQ _ _ _ g3;obtain⟨n4,y4,g4⟩:=hf 4 _ rfl;have g4:DataW.trod en Tryz.prog w 0 sp held n4 3 ((cs.drop 4).take (Tryz.prog.cellsOf 3))=some y4:=g4;rw[Uj]at g4;obtain⟨a4,r4,w4⟩:=wQ _ _ _ g4;obtain⟨n5,y5,g5⟩:=hf 5 _ rfl;have g5:DataW.trod en Tryz.prog w 0 sp held n5 3 ((cs.drop 5).take (Tryz.prog.cellsOf 3))=some y5:=g5;rw[Uj]at g5;obtain⟨a5,r5,w5⟩:=wQ _ _ _ g5;rw[dqQ (l:=cs.drop 5) (by rw[VO];omega)]at r5;have R:=(r0.append (r1.append (r2.append (r3.append (r4.append r5)))));rw[<- (show cs.drop 4=(cs.drop 4).take 1++cs.drop 5 from dN cs 4 1)]at R;rw[<- (show cs.drop 3=(cs.drop 3).take 1++cs.drop 4 from dN cs 3 1)]at R;rw[<- (show cs.drop 2=(cs.drop 2).take 1++cs.drop 3 from dN cs 2 1)]at R;rw[<- (show cs.drop 1=(cs.drop 1).take 1++cs.drop 2 from dN cs 1 1)]at R;rw[<- (show cs.drop 0=(cs.drop 0).take 1++cs.drop 1 from dN cs 0 1)]at R;exact⟨⟨a0,a1,a2,a3,a4,a5⟩,R,⟨w0,w1,w2,w3,w4,w5⟩⟩
theorem zIo:Rd H en Tryz.prog w sp held 27 (Sl bz):=Es Tryz.underlying27 zIg rfl (by decide) zIn
end
structure E23 where
 N:Nat
abbrev G23(E:E23):bI:=gQ Tabs.nil []
def A23:dG:=bP aB 23 [] {}
def F23(E:E23):ak×(Sl bz)×Int->ae Bool:=ae.ty (aF aB E.N (G23 E) A23 23)
section
variable(E:E23){A:Type}(k:Bool->Option A)
def NS(E:E23)(n:Nat)(a0:ak)(v7:Int){A:Type}(k:Bool->Option A):Option A:=iK aB (G23 E) E.N A23 23 [1,1,0,1,0] [.n n] (iJ k) ⟨[(3,.cl (.ptr 3 0)),(7,.int v7)],[(3,eB 24 a0)],[]⟩
theorem e23(a0:ak)(a1:Sl bz)(a2:Int):(F23 E (a0,a1,a2)).T k=cond (decide ((a0.ai.len:Int)>20)) (k false) (cond (decide ((a1.len:Int)>a2)) (cond (decide ((a1.len:Int)<=24)) (k false) (cond (decide ((a1.len:Int)>40)) (k false) (NS E E.N a0 0 k))) (cond (decide ((a1.len:Int)>40)) (k false) (NS E E.N a0 0 k))):=dU
theorem zwf(n0:Nat)(a0:ak)(v7:Int):NS E (n0+1) a0 v7 k=cond (decide (v7<(a0.ai.len:Int))) (aU (decide (0<=v7/\v7<(a0.ai.len:Int))) (cond (decide (((a0.ai.get v7.toNat).aS.len:Int)>60)) (k false) (aU (decide (0<=v7/\v7<(a0.ai.len:Int))) (cond (decide (((a0.ai.get v7.toNat).Dead.len:Int)>110)) (k false) (NS E n0 a0 (aJ (v7+1)) k))))) (k true):=krY
end
theorem o23 [aH](E:E23):Ok aB 23 (ae.un (F23 E)):=dV au.nil
structure E26 where
 N:Nat
 c61:ak->ae Bool
 c62:bQ->ae Bool
 c85:ak×(Sl bz)->ae Bool
def F26(E:E26):ak×bQ×(Sl bz)->ae Int:=iW E.N (((Tabs.nil.addF 61 (ae.un E.c61)).addF 62 (ae.un E.c62)).addF 85 (ae.un E.c85)) 26
theorem e26(E:E26){A:Type}(k:Int→Option A)(a0:ak)(a1:bQ)(a2:Sl bz):(F26 E (a0,a1,a2)).T k=cond (decide ((a2.len:Int)>24)) (k 3) ((E.c61 a0).T λr1=>cond (!r1) (k 2) ((E.c62 a1).T λr2=>cond (!r2) (k 2) ((E.c85 (a0,a2)).T λr3=>cond (!r3) (k 2) (k 0)))):=dU
theorem o26 [aH](E:E26)(h61:Ok aB 61 (ae.un E.c61))(h62:Ok aB 62 (ae.un E.c62))(h85:Ok aB 85 (ae.un E.c85)):Ok aB 26 (ae.un (F26 E)):=dV (((au.nil.addF h61).addF h62).addF h85)
structure E34 where
 N:Nat
def F34(E:E34):Int->ae Bool:=iW E.N Tabs.nil 34
theorem e34(E:E34){A:Type}(k:Bool→Option A)(a0:Int):(F34 E (a0)).T k=cond (a0==1) (k true) (k (a0==2)):=dU
theorem o34 [aH](E:E34):Ok aB 34 (ae.un (F34 E)):=dV au.nil
structure E60 where
 N:Nat
 zuN:ak->ae Int
 znN:Int×Int×Int->ae Bool
def F60(E:E60):ak×bQ->ae Int:=iW E.N ((Tabs.nil.addF 122 (ae.un E.zuN)).addF 123 (ae.un E.znN)) 60
theorem e60(E:E60){A:Type}(k:Int→Option A)(a0:ak)(a1:bQ):(F60 E (a0,a1)).T k=(E.zuN a0).T λr1=>cond (r1 != 0) (k 2) ((E.znN (a1.yI,1,16)).T λr2=>cond (!r2) (k 2) ((E.znN (a1.Dj,0,16)).T λr3=>cond (!r3) (k 2) (k 0))):=dU
theorem o60 [aH](E:E60)(zEt:Ok aB 122 (ae.un E.zuN))(zzw:Ok aB 123 (ae.un E.znN)):Ok aB 60 (ae.un (F60 E)):=dV ((au.nil.addF zEt).addF zzw)
structure E61 where
 N:Nat
 vF:Int×Int×Int->ae Bool
 c124:aj->ae Bool
abbrev G61(E:E61):bI:=gQ ((Tabs.nil.addF 73 (ae.un E.vF)).addF 124 (ae.un E.c124)) []
def A61:dG:=bP aB 61 [] {}
def F61(E:E61):ak->ae Bool:=ae.ty (aF aB E.N (G61 E) A61 61)
section
variable(E:E61){A:Type}(k:Bool->Option A)
def NT(E:E61)(n:Nat)(a0:ak)(v3:Int){A:Type}(k:Bool->Option A):Option A:=iK aB (G61 E) E.N A61 61 [1,1,0,1,0] [.n n] (iJ k) ⟨[(1,.cl (.ptr 1 0)),(3,.int v3)],[(1,eB 24 a0)],[]⟩
theorem e61(a0:ak):(F61 E (a0)).T k=(E.vF ((a0.ai.len:Int),1,16)).T λr1=>cond (!r1) (k false) (NT E E.N a0 0 k):=dU
theorem zwg(n0:Nat)(a0:ak)(v3:Int):NT E (n0+1) a0 v3 k=cond (decide (v3<(a0.ai.len:Int))) (aU (decide (0<=v3/\v3<(a0.ai.len:Int))) ((E.c124 (a0.ai.get v3.toNat)).T λr1=>cond (!r1) (k false) (cond (decide (v3>0)) (aU (decide (0<=v3/\v3<(a0.ai.len:Int))) (aU (decide (0<=(aJ (v3-1))/\(aJ (v3-1))<(a0.ai.len:Int))) (cond (decide ((a0.ai.get v3.toNat).Z<=(a0.ai.get (aJ (v3-1)).toNat).Z)) (k false) (NT E n0 a0 (aJ (v3+1)) k)))) (NT E n0 a0 (aJ (v3+1)) k)))) (k true):=krY
end
theorem o61 [aH](E:E61)(PD:Ok aB 73 (ae.un E.vF))(zzx:Ok aB 124 (ae.un E.c124)):Ok aB 61 (ae.un (F61 E)):=dV ((au.nil.addF PD).addF zzx)
structure E62 where
 N:Nat
 c86:Int×Int×Int->ae Bool
def F62(E:E62):bQ->ae Bool:=iW E.N (Tabs.nil.addF 86 (ae.un E.c86)) 62
theorem e62(E:E62){A:Type}(k:Bool→Option A)(a0:bQ):(F62 E (a0)).T k=(E.c86 (a0.yI,1,16)).T λr1=>cond r1 ((E.c86 (a0.Dj,0,16)).T λr2=>k r2) (k false):=dU
theorem o62 [aH](E:E62)(h86:Ok aB 86 (ae.un E.c86)):Ok aB 62 (ae.un (F62 E)):=dV (au.nil.addF h86)
structure E65 where
 N:Nat
 c75:ak×bz->ae ((Sl ay))
abbrev G65(E:E65):bI:=gQ (Tabs.nil.addF 75 (ae.un E.c75)) []
def A65:dG:=bP aB 65 [] {ks:=[(1,3,⟨[],[(7,35,101)],[],[],[],[],[]⟩)]}
def F65(E:E65):ak×(Sl bz)×af->ae ((Sl ay)):=ae.ty (aF aB E.N (G65 E) A65 65)
section
variable(E:E65){A:Type}(k:(Sl ay)->Option A)
def zdG(E:E65)(n:Nat)(a0:ak)(a1:Sl bz)(a2:af)(v8:Int)(w35:Sl ay){A:Type}(k:(Sl ay)->Option A):Option A:=iK aB (G65 E) E.N A65 65 [1,1,0,1,0] [.n n] (iJ k) ⟨[(1,eP a1),(3,.cl (.ptr 3 0)),(5,.cl (.ptr 5 0)),(7,.cl (.vec 35)),(8,.int v8)],[(3,eB 24 a0),(5,eB 43 a2),(35,eV 101 3 24 w35)],[]⟩
theorem e65(a0:ak)(a1:Sl bz)(a2:af):(F65 E (a0,a1,a2)).T k=zdG E E.N a0 a1 a2 0 (⟨0,(λ_=>(⟨0,0,0⟩:ay))⟩:(Sl ay)) k:=dU
theorem zwj(n0:Nat)(a0:ak)(a1:Sl bz)(a2:af)(v8:Int)(w35:Sl ay):zdG E (n0+1) a0 a1 a2 v8 w35 k=cond (decide (v8<(a2.Hits.len:Int))) (aU (decide (0<=v8/\v8<(a2.Hits.len:Int))) (aU (decide (0<=a2.Hits.get v8.toNat/\a2.Hits.get v8.toNat<(a1.len:Int))) ((E.c75 (a0,(a1.get (a2.Hits.get v8.toNat).toNat))).T λr1=>aU (decide (0≤v8∧v8<(a2.bu.len:Int))) (aU (decide (0≤a2.bu.get v8.toNat∧a2.bu.get v8.toNat<(r1.len:Int))) (aU (room (w35.len+1) 24) (zdG E n0 a0 a1 a2 (aJ (v8+1)) (⟨(w35.len+1),(iR w35.len w35.get (fun _=>(r1.get (a2.bu.get v8.toNat).toNat)))⟩:(Sl ay)) k)))))) (k w35):=krY
end
theorem o65 [aH](E:E65)(h75:Ok aB 75 (ae.un E.c75)):Ok aB 65 (ae.un (F65 E)):=dV (au.nil.addF h75)
structure E73 where
 N:Nat
def F73(E:E73):Int×Int×Int->ae Bool:=iW E.N Tabs.nil 73
theorem e73(E:E73){A:Type}(k:Bool→Option A)(a0 a1 a2:Int):(F73 E (a0,a1,a2)).T k=cond (decide (a0>=a1)) (k (decide (a0<=a2))) (k false):=dU
theorem o73 [aH](E:E73):Ok aB 73 (ae.un (F73 E)):=dV au.nil
structure E75 where
 N:Nat
 zuQ:aj×Int->ae (Int×Int)
def F75(E:E75):ak×bz->ae ((Sl ay)):=iW E.N (Tabs.nil.addF 135 (ae.un E.zuQ)) 75
theorem e75(E:E75){A:Type}(k:(Sl ay)→Option A)(a0:ak)(a1:bz):(F75 E (a0,a1)).T k=aU (decide (0<=a1.aj/\a1.aj<(a0.ai.len:Int))) (cond ((a0.ai.get a1.aj.toNat).Kind != 2) (cond (decide ((aJ ((aJ ((a0.ai.get a1.aj.toNat).First+(aJ ((aJ ((aJ (a1.Channel+a1.kz))-1))*(a0.ai.get a1.aj.toNat).aO))))-(a0.ai.get a1.aj.toNat).dJ))>(aJ ((aJ ((a0.ai.get a1.aj.toNat).First+(aJ ((aJ (a1.Channel+1))*(a0.ai.get a1.aj.toNat).aO))))+(a0.ai.get a1.aj.toNat).dJ)))) (k (⟨0,λ_=>default⟩:(Sl ay))) (k (⟨1,(λ_=>(⟨(a0.ai.get a1.aj.toNat).Z,(aJ ((aJ ((aJ ((a0.ai.get a1.aj.toNat).First+(aJ ((aJ ((aJ (a1.Channel+a1.kz))-1))*(a0.ai.get a1.aj.toNat).aO))))-(a0.ai.get a1.aj.toNat).dJ))+(a0.ai.get a1.aj.toNat).aZ.Low)),(aJ ((aJ ((aJ ((a0.ai.get a1.aj.toNat).First+(aJ ((aJ (a1.Channel+1))*(a0.ai.get a1.aj.toNat).aO))))+(a0.ai.get a1.aj.toNat).dJ))+(a0.ai.get a1.aj.toNat).aZ.High))⟩:ay))⟩:(Sl ay)))) ((E.zuQ ((a0.ai.get a1.aj.toNat),a1.aS)).T λr1=>cond (decide ((aJ ((aJ ((aJ ((a0.ai.get a1.aj.toNat).First+(aJ (a1.Channel*(a0.ai.get a1.aj.toNat).aO))))-r1.1))+(a0.ai.get a1.aj.toNat).aZ.High))>=(aJ ((aJ ((aJ ((a0.ai.get a1.aj.toNat).First+(aJ (a1.Channel*(a0.ai.get a1.aj.toNat).aO))))+r1.1))+(a0.ai.get a1.aj.toNat).aZ.Low)))) (k (⟨1,(λ_=>(⟨(a0.ai.get a1.aj.toNat).Z,(aJ ((aJ ((aJ ((a0.ai.get a1.aj.toNat).First+(aJ (a1.Channel*(a0.ai.get a1.aj.toNat).aO))))-r1.2))+(a0.ai.get a1.aj.toNat).aZ.Low)),(aJ ((aJ ((aJ ((a0.ai.get a1.aj.toNat).First+(aJ (a1.Channel*(a0.ai.get a1.aj.toNat).aO))))+r1.2))+(a0.ai.get a1.aj.toNat).aZ.High))⟩:ay))⟩:(Sl ay))) (k (⟨2,(X5 [(⟨(a0.ai.get a1.aj.toNat).Z,(aJ ((aJ ((aJ ((a0.ai.get a1.aj.toNat).First+(aJ (a1.Channel*(a0.ai.get a1.aj.toNat).aO))))-r1.2))+(a0.ai.get a1.aj.toNat).aZ.Low)),(aJ ((aJ ((aJ ((a0.ai.get a1.aj.toNat).First+(aJ (a1.Channel*(a0.ai.get a1.aj.toNat).aO))))-r1.1))+(a0.ai.get a1.aj.toNat).aZ.High))⟩:ay),(⟨(a0.ai.get a1.aj.toNat).Z,(aJ ((aJ ((aJ ((a0.ai.get a1.aj.toNat).First+(aJ (a1.Channel*(a0.ai.get a1.aj.toNat).aO))))+r1.1))+(a0.ai.get a1.aj.toNat).aZ.Low)),(aJ ((aJ ((aJ ((a0.ai.get a1.aj.toNat).First+(aJ (a1.Channel*(a0.ai.get a1.aj.toNat).aO))))+r1.2))+(a0.ai.get a1.aj.toNat).aZ.High))⟩:ay)])⟩:(Sl ay))))):=dU
theorem o75 [aH](E:E75)(zzz:Ok aB 135 (ae.un E.zuQ)):Ok aB 75 (ae.un (F75 E)):=dV (au.nil.addF zzz)
structure E85 where
 N:Nat
 c143:ak×bz->ae Bool
abbrev G85(E:E85):bI:=gQ (Tabs.nil.addF 143 (ae.un E.c143)) []
def A85:dG:=bP aB 85 [] {}
def F85(E:E85):ak×(Sl bz)->ae Bool:=ae.ty (aF aB E.N (G85 E) A85 85)
section
variable(E:E85){A:Type}(k:Bool->Option A)
def zdH(E:E85)(n:Nat)(a0:ak)(a1:Sl bz)(v5:Int){A:Type}(k:Bool->Option A):Option A:=iK aB (G85 E) E.N A85 85 [1,0,1,0] [.n n] (iJ k) ⟨[(1,eP a1),(2,.cl (.ptr 2 0)),(5,.int v5)],[(2,eB 24 a0)],[]⟩
theorem e85(a0:ak)(a1:Sl bz):(F85 E (a0,a1)).T k=zdH E E.N a0 a1 0 k:=dU
theorem zwk(n0:Nat)(a0:ak)(a1:Sl bz)(v5:Int):zdH E (n0+1) a0 a1 v5 k=cond (decide (v5<(a1.len:Int))) (aU (decide (0<=v5/\v5<(a1.len:Int))) ((E.c143 (a0,(a1.get v5.toNat))).T λr1=>cond (!r1) (k false) (zdH E n0 a0 a1 (aJ (v5+1)) k))) (k true):=krY
end
theorem o85 [aH](E:E85)(zzA:Ok aB 143 (ae.un E.c143)):Ok aB 85 (ae.un (F85 E)):=dV (au.nil.addF zzA)
structure E86 where
 N:Nat
def F86(E:E86):Int×Int×Int->ae Bool:=iW E.N Tabs.nil 86
theorem e86(E:E86){A:Type}(k:Bool→Option A)(a0 a1 a2:Int):(F86 E (a0,a1,a2)).T k=cond (decide (a0>=a1)) (k (decide (a0<=a2))) (k false):=dU
theorem o86 [aH](E:E86):Ok aB 86 (ae.un (F86 E)):=dV au.nil
structure E87 where
 N:Nat
abbrev G87(E:E87):bI:=gQ Tabs.nil []
def A87:dG:=bP aB 87 [] {}
def F87(E:E87):(Sl bz)×(Sl Int)×Int->ae Bool:=ae.ty (aF aB E.N (G87 E) A87 87)
section
variable(E:E87){A:Type}(k:Bool->Option A)
def zdI(E:E87)(n:Nat)(a0:Sl bz)(a1:Sl Int)(a2 v7:Int){A:Type}(k:Bool->Option A):Option A:=iK aB (G87 E) E.N A87 87 [1,0,1,0] [.n n] (iJ k) ⟨[(0,eP a0),(1,eP a1),(2,.int a2),(7,.int v7)],[],[]⟩
theorem e87(a0:Sl bz)(a1:Sl Int)(a2:Int):(F87 E (a0,a1,a2)).T k=zdI E E.N a0 a1 a2 0 k:=dU
theorem zwl(n0:Nat)(a0:Sl bz)(a1:Sl Int)(a2 v7:Int):zdI E (n0+1) a0 a1 a2 v7 k=cond (decide (v7<(a1.len:Int))) (aU (decide (0<=v7/\v7<(a1.len:Int))) (aU (decide (0<=a1.get v7.toNat/\a1.get v7.toNat<(a0.len:Int))) (cond ((a0.get (a1.get v7.toNat).toNat).aj==a2) (k true) (zdI E n0 a0 a1 a2 (aJ (v7+1)) k)))) (k false):=krY
end
theorem o87 [aH](E:E87):Ok aB 87 (ae.un (F87 E)):=dV au.nil
structure Uk where
 N:Nat
 vF:Int×Int×Int->ae Bool
 VB:Int->ae Bool
 c175:(Sl aS)×Int->ae Bool
abbrev zkg(E:Uk):bI:=gQ (((Tabs.nil.addF 73 (ae.un E.vF)).addF 174 (ae.un E.VB)).addF 175 (ae.un E.c175)) []
def zkh:dG:=bP aB 124 [] {cut:=[3,5,7]}
def zp9(E:Uk):aj->ae Bool:=ae.ty (aF aB E.N (zkg E) zkh 124)
section
variable(E:Uk){A:Type}(k:Bool->Option A)
def zbp(E:Uk)(a0:aj){A:Type}(k:Bool->Option A):Option A:=iK aB (zkg E) E.N zkh 124 [1,1] [] (iJ k) ⟨[(1,.cl (.ptr 1 0))],[(1,eB 124 a0)],[]⟩
def zki(E:Uk)(a0:aj){A:Type}(k:Bool->Option A):Option A:=iK aB (zkg E) E.N zkh 124 [1,1,1] [] (iJ k) ⟨[(1,.cl (.ptr 1 0))],[(1,eB 124 a0)],[]⟩
def zkj(E:Uk)(a0:aj){A:Type}(k:Bool->Option A):Option A:=iK aB (zkg E) E.N zkh 124 [1,1,1,1] [] (iJ k) ⟨[(1,.cl (.ptr 1 0))],[(1,eB 124 a0)],[]⟩
def uT(E:Uk)(n:Nat)(a0:aj)(v3:Int){A:Type}(k:Bool->Option A):Option A:=iK aB (zkg E) E.N zkh 124 [1,1,1,1,1,0,1,0] [.n n] (iJ k) ⟨[(1,.cl (.ptr 1 0)),(3,.int v3)],[(1,eB 124 a0)],[]⟩
theorem zTO(a0:aj):(zp9 E (a0)).T k=cond (decide (a0.Kind<1)) (k false) (cond (decide (a0.Kind>3)) (k false) (cond (a0.View != 1) (cond (a0.View != 2) (k false) ((E.vF (a0.Z,0,100000)).T λr1=>cond (!r1) (k false) ((E.VB a0.First).T λr2=>cond (!r2) (k false) ((E.vF (a0.aO,2,100000)).T λr3=>cond (!r3) (k false) ((E.vF (a0.bC,1,2000)).T λr4=>cond (!r4) (k false) ((E.vF (a0.dJ,0,100000)).T λr5=>cond (!r5) (k false) (zbp E a0 k))))))) ((E.vF (a0.Z,0,100000)).T λr6=>cond (!r6) (k false) ((E.VB a0.First).T λr7=>cond (!r7) (k false) ((E.vF (a0.aO,2,100000)).T λr8=>cond (!r8) (k false) ((E.vF (a0.bC,1,2000)).T λr9=>cond (!r9) (k false) ((E.vF (a0.dJ,0,100000)).T λV5=>cond (!V5) (k false) (zbp E a0 k)))))))):=dU
theorem zzB(a0:aj):zbp E a0 k=(E.VB a0.aZ.Low).T λr1=>cond (!r1) (k false) ((E.VB a0.aZ.High).T λr2=>cond (!r2) (k false) (cond (decide (a0.aZ.Low>a0.aZ.High)) (k false) ((E.vF (a0.Clock.Low,(-1000000000),1000000000)).T λr3=>cond (!r3) (k false) ((E.vF (a0.Clock.High,(-1000000000),1000000000)).T λr4=>cond (!r4) (k false) (cond (decide (a0.Clock.Low>a0.Clock.High)) (k false) (zki E a0 k)))))):=krY
theorem zzC(a0:aj):zki E a0 k=(E.vF (a0.dO,0,1000000)).T λr1=>cond (!r1) (k false) ((E.vF (a0.Least,0,1000000)).T λr2=>cond (!r2) (k false) ((E.VB (aJ ((aJ ((aJ (a0.First-a0.aO))-a0.dJ))+a0.aZ.Low))).T λr3=>cond (!r3) (k false) ((E.VB (aJ ((aJ ((aJ (a0.First+(aJ ((aJ (a0.bC+1))*a0.aO))))+a0.dJ))+a0.aZ.High))).T λr4=>cond (!r4) (k false) (zkj E a0 k)))):=krY
theorem zzD(a0:aj):zkj E a0 k=cond (a0.Kind==2) ((E.c175 (a0.aS,a0.aO)).T λr1=>cond (!r1) (k false) (cond (a0.Kind != 2) (cond (decide ((a0.aS.len:Int)>0)) (k false) (cond (decide ((a0.Dead.len:Int)>100)) (k false) (uT E E.N a0 0 k))) (cond (decide ((a0.Dead.len:Int)>100)) (k false) (uT E E.N a0 0 k)))) (cond (a0.Kind != 2) (cond (decide ((a0.aS.len:Int)>0)) (k false) (cond (decide ((a0.Dead.len:Int)>100)) (k false) (uT E E.N a0 0 k))) (cond (decide ((a0.Dead.len:Int)>100)) (k false) (uT E E.N a0 0 k))):=krY
theorem zkk(n0:Nat)(a0:aj)(v3:Int):uT E (n0+1) a0 v3 k=cond (decide (v3<(a0.Dead.len:Int))) (aU (decide (0<=v3/\v3<(a0.Dead.len:Int))) ((E.vF (a0.Dead.get v3.toNat,0,(aJ (a0.bC-1)))).T λr1=>cond (!r1) (k false) (cond (decide (v3>0)) (aU (decide (0<=v3/\v3<(a0.Dead.len:Int))) (aU (decide (0<=(aJ (v3-1))/\(aJ (v3-1))<(a0.Dead.len:Int))) (cond (decide (a0.Dead.get v3.toNat<=a0.Dead.get (aJ (v3-1)).toNat)) (k false) (uT E n0 a0 (aJ (v3+1)) k)))) (uT E n0 a0 (aJ (v3+1)) k)))) (k true):=krY
end
theorem zTP [aH](E:Uk)(PD:Ok aB 73 (ae.un E.vF))(zzE:Ok aB 174 (ae.un E.VB))(zzF:Ok aB 175 (ae.un E.c175)):Ok aB 124 (ae.un (zp9 E)):=dV (((au.nil.addF PD).addF zzE).addF zzF)
structure zbq where
 N:Nat
abbrev zzG(E:zbq):bI:=gQ Tabs.nil []
def zzH:dG:=bP aB 135 [] {}
def zqa(E:zbq):aj×Int->ae (Int×Int):=ae.ty (aF aB E.N (zzG E) zzH 135)
section
variable(E:zbq){A:Type}(k:(Int×Int)->Option A)
def NU(E:zbq)(n:Nat)(a0:aj)(a1 v6 v7 v8:Int){A:Type}(k:(Int×Int)->Option A):Option A:=iK aB (zzG E) E.N zzH 135 [1,1,0,1,0] [.n n] (iJ k) ⟨[(1,.int a1),(2,.cl (.ptr 2 0)),(6,.int v6),(7,.int v7),(8,.int v8)],[(2,eB 124 a0)],[]⟩
def NV(E:zbq)(n:Nat)(a0:aj)(a1 v6 v7 v9:Int){A:Type}(k:(Int×Int)->Option A):Option A:=iK aB (zzG E) E.N zzH 135 [1,1,1,0,1,0] [.n n] (iJ k) ⟨[(1,.int a1),(2,.cl (.ptr 2 0)),(6,.int v6),(7,.int v7),(9,.int v9)],[(2,eB 124 a0)],[]⟩
theorem zTQ(a0:aj)(a1:Int):(zqa E (a0,a1)).T k=NU E E.N a0 a1 0 (aJ (a0.aO.tdiv 2)) 0 k:=dU
theorem zkl(n0:Nat)(a0:aj)(a1 v6 v7 v8:Int):NU E (n0+1) a0 a1 v6 v7 v8 k=cond (decide (v8<(a0.aS.len:Int))) (aU (decide (0<=v8/\v8<(a0.aS.len:Int))) (cond (decide ((a0.aS.get v8.toNat).Time<=(aJ (a1-a0.dO)))) (aU (decide (0<=v8/\v8<(a0.aS.len:Int))) (NU E n0 a0 a1 (a0.aS.get v8.toNat).dQ.Low v7 (aJ (v8+1)) k)) (NU E n0 a0 a1 v6 v7 (aJ (v8+1)) k))) (NV E E.N a0 a1 v6 v7 (aJ ((a0.aS.len:Int)-1)) k):=krY
theorem zkm(n0:Nat)(a0:aj)(a1 v6 v7 v9:Int):NV E (n0+1) a0 a1 v6 v7 v9 k=cond (decide (v9>=0)) (aU (decide (0<=v9/\v9<(a0.aS.len:Int))) (cond (decide ((a0.aS.get v9.toNat).Time>=(aJ (a1+a0.dO)))) (aU (decide (0<=v9/\v9<(a0.aS.len:Int))) (NV E n0 a0 a1 v6 (a0.aS.get v9.toNat).dQ.High (aJ (v9-1)) k)) (NV E n0 a0 a1 v6 v7 (aJ (v9-1)) k))) (k (v6,v7)):=krY
end
theorem zTR [aH](E:zbq):Ok aB 135 (ae.un (zqa E)):=dV au.nil
structure zfU where
 N:Nat
abbrev zIp(E:zfU):bI:=gQ Tabs.nil []
def zIq:dG:=bP aB 137 [] {}
def zqb(E:zfU):aj×Int->ae Bool:=ae.ty (aF aB E.N (zIp E) zIq 137)
section
variable(E:zfU){A:Type}(k:Bool->Option A)
def NW(E:zfU)(n:Nat)(a0:aj)(a1 v5:Int){A:Type}(k:Bool->Option A):Option A:=iK aB (zIp E) E.N zIq 137 [1,0,1,0] [.n n] (iJ k) ⟨[(1,.int a1),(2,.cl (.ptr 2 0)),(5,.int v5)],[(2,eB 124 a0)],[]⟩
theorem e137(a0:aj)(a1:Int):(zqb E (a0,a1)).T k=NW E E.N a0 a1 0 k:=dU
theorem zkn(n0:Nat)(a0:aj)(a1 v5:Int):NW E (n0+1) a0 a1 v5 k=cond (decide (v5<(a0.Dead.len:Int))) (aU (decide (0<=v5/\v5<(a0.Dead.len:Int))) (cond (a0.Dead.get v5.toNat==a1) (k true) (NW E n0 a0 a1 (aJ (v5+1)) k))) (k false):=krY
end
theorem zTS [aH](E:zfU):Ok aB 137 (ae.un (zqb E)):=dV au.nil
structure zfV where
 N:Nat
 vF:Int×Int×Int->ae Bool
 Qc:aj×Int->ae Bool
abbrev zIr(E:zfV):bI:=gQ ((Tabs.nil.addF 73 (ae.un E.vF)).addF 137 (ae.un E.Qc)) []
def zIs:dG:=bP aB 143 [] {}
def zqc(E:zfV):ak×bz->ae Bool:=ae.ty (aF aB E.N (zIr E) zIs 143)
section
variable(E:zfV){A:Type}(k:Bool->Option A)
def Ul(E:zfV)(n:Nat)(a0:ak)(a1:bz)(v6:Int){A:Type}(k:Bool->Option A):Option A:=iK aB (zIr E) E.N zIs 143 [1,1,1,1,0,1,0] [.n n] (iJ k) ⟨[(3,.cl (.ptr 3 0)),(5,.cl (.ptr 5 0)),(6,.int v6)],[(3,eB 92 a1),(5,eB 124 (a0.ai.get a1.aj.toNat))],[]⟩
theorem e143(a0:ak)(a1:bz):(zqc E (a0,a1)).T k=(E.vF (a1.aj,0,(aJ ((a0.ai.len:Int)-1)))).T λr1=>cond (!r1) (k false) (aU (decide (0<=a1.aj/\a1.aj<(a0.ai.len:Int))) ((E.vF (a1.Channel,0,(aJ ((a0.ai.get a1.aj.toNat).bC-1)))).T λr2=>cond (!r2) (k false) ((E.vF (a1.kz,1,(aJ ((a0.ai.get a1.aj.toNat).bC-a1.Channel)))).T λr3=>cond (!r3) (k false) ((E.vF (a1.Di,(a0.ai.get a1.aj.toNat).Least,1000000)).T λr4=>cond (!r4) (k false) ((E.vF (a1.Time,(-1000000000),1000000000)).T λr5=>cond (!r5) (k false) (Ul E E.N a0 a1 0 k)))))):=dU
theorem zko(n0:Nat)(a0:ak)(a1:bz)(v6:Int):Ul E (n0+1) a0 a1 v6 k=cond (decide (v6<a1.kz)) ((E.Qc ((a0.ai.get a1.aj.toNat),(aJ (a1.Channel+v6)))).T λr1=>cond r1 (k false) (Ul E n0 a0 a1 (aJ (v6+1)) k)) (cond ((a0.ai.get a1.aj.toNat).Kind==2) (cond (a1.kz==1) ((E.vF (a1.aS,0,1000000)).T λr2=>k r2) (k false)) (cond ((a0.ai.get a1.aj.toNat).Kind==3) (cond (a1.aS==0) (k (a1.Time==0)) (k false)) (k (a1.aS==0)))):=krY
end
theorem zTT [aH](E:zfV)(PD:Ok aB 73 (ae.un E.vF))(zbr:Ok aB 137 (ae.un E.Qc)):Ok aB 143 (ae.un (zqc E)):=dV ((au.nil.addF PD).addF zbr)
structure zqd where
 N:Nat
 vF:Int×Int×Int->ae Bool
def zqe(E:zqd):Int->ae Bool:=iW E.N (Tabs.nil.addF 73 (ae.un E.vF)) 174
theorem zTU(E:zqd){A:Type}(k:Bool→Option A)(a0:Int):(zqe E (a0)).T k=(E.vF (a0,(-1000000),1000000)).T λr1=>k r1:=dU
theorem zTV [aH](E:zqd)(PD:Ok aB 73 (ae.un E.vF)):Ok aB 174 (ae.un (zqe E)):=dV (au.nil.addF PD)
structure zfW where
 N:Nat
 vF:Int×Int×Int->ae Bool
abbrev zIt(E:zfW):bI:=gQ (Tabs.nil.addF 73 (ae.un E.vF)) []
def zIu:dG:=bP aB 175 [] {}
def zqf(E:zfW):(Sl aS)×Int->ae Bool:=ae.ty (aF aB E.N (zIt E) zIu 175)
section
variable(E:zfW){A:Type}(k:Bool->Option A)
def Hu(E:zfW)(n:Nat)(a0:Sl aS)(a1 v5:Int){A:Type}(k:Bool->Option A):Option A:=iK aB (zIt E) E.N zIu 175 [1,0,1,0] [.n n] (iJ k) ⟨[(0,eP a0),(1,.int a1),(5,.int v5)],[],[]⟩
theorem zTW(a0:Sl aS)(a1:Int):(zqf E (a0,a1)).T k=Hu E E.N a0 a1 0 k:=dU
theorem zkp(n0:Nat)(a0:Sl aS)(a1 v5:Int):Hu E (n0+1) a0 a1 v5 k=cond (decide (v5<(a0.len:Int))) (aU (decide (0<=v5/\v5<(a0.len:Int))) ((E.vF ((a0.get v5.toNat).Time,0,1000000)).T λr1=>cond (!r1) (k false) (cond (decide ((a0.get v5.toNat).dQ.Low<0)) (k false) (cond (decide ((a0.get v5.toNat).dQ.Low>(a0.get v5.toNat).dQ.High)) (k false) (cond (decide ((a0.get v5.toNat).dQ.High>(aJ (a1.tdiv 2)))) (k false) (cond (decide (v5>0)) (aU (decide (0<=(aJ (v5-1))/\(aJ (v5-1))<(a0.len:Int))) (cond (decide ((a0.get v5.toNat).Time<=(a0.get (aJ (v5-1)).toNat).Time)) (k false) (aU (decide (0<=(aJ (v5-1))/\(aJ (v5-1))<(a0.len:Int))) (cond (decide ((a0.get v5.toNat).dQ.Low<(a0.get (aJ (v5-1)).toNat).dQ.Low)) (k false) (aU (decide (0<=(aJ (v5-1))/\(aJ (v5-1))<(a0.len:Int))) (cond (decide ((a0.get v5.toNat).dQ.High<(a0.get (aJ (v5-1)).toNat).dQ.High)) (k false) (Hu E n0 a0 a1 (aJ (v5+1)) k))))))) (Hu E n0 a0 a1 (aJ (v5+1)) k))))))) ((E.vF ((a0.len:Int),1,50)).T λr2=>k r2):=krY
end
theorem zTX [aH](E:zfW)(PD:Ok aB 73 (ae.un E.vF)):Ok aB 175 (ae.un (zqf E)):=dV (au.nil.addF PD)
structure E78 where
 N:Nat
 c60:ak×bQ->ae Int
 c138:ak×bz->ae Int
 c139:ak×bz->ae ((Sl ay)×Int)
abbrev G78(E:E78):bI:=gQ (((Tabs.nil.addF 60 (ae.un E.c60)).addF 138 (ae.un E.c138)).addF 139 (ae.un E.c139)) []
def A78:dG:=bP aB 78 [] {ks:=[(1,7,⟨[],[],[(24,2,55,96)],[],[],[],[]⟩)],cut:=[14]}
def F78(E:E78):ak×bQ×(Sl bz)->ae (Int ⊕ ((Pt aW)×Int)):=ae.tyA (aF aB E.N (G78 E) A78 78)
section
variable(E:E78){A:Type}(k:(Int ⊕ ((Pt aW)×Int))->Option A)
def X7(E:E78)(n:Nat)(a0:ak)(a1:bQ)(a2:Sl bz)(PI:Int)(w55:Sl (Sl ay)){A:Type}(k:(Int ⊕ ((Pt aW)×Int))->Option A):Option A:=iK aB (G78 E) E.N A78 78 [1,1,1,1,0,1,0] [.n n] (zjM k) ⟨[(3,.cl (.ptr 3 0)),(8,.cl (.ptr 24 0)),(25,eP a2),(26,.int (a2.len:Int)),(27,.int PI)],[(3,eB 24 a0),(24,.box 208 [.p (.sl a0.ai.len 15 (λi=>bD.enc (a0.ai.get i))),.p (.sl a2.len 6 (λi=>bD.enc (a2.get i))),.vec 55,.p (.int .i64 a1.yI),.p (.int .i64 a1.Dj)]),(55,eV 96 1 24 w55)],[]⟩
def X8(E:E78)(n0:Nat)(a0:ak)(a1:bQ)(a2:Sl bz)(v11:Sl ay)(PI:Int)(w55:Sl (Sl ay)){A:Type}(k:(Int ⊕ ((Pt aW)×Int))->Option A):Option A:=iK aB (G78 E) E.N A78 78 [1,1,1,1,0,1,0,0,1,1,0,0,1,1,1,1] [.n n0] (zjM k) ⟨[(3,.cl (.ptr 3 0)),(8,.cl (.ptr 24 0)),(11,eP v11),(25,eP a2),(26,.int (a2.len:Int)),(27,.int PI)],[(3,eB 24 a0),(24,.box 208 [.p (.sl a0.ai.len 15 (λi=>bD.enc (a0.ai.get i))),.p (.sl a2.len 6 (λi=>bD.enc (a2.get i))),.vec 55,.p (.int .i64 a1.yI),.p (.int .i64 a1.Dj)]),(55,eV 96 1 24 w55)],[]⟩
theorem e78(a0:ak)(a1:bQ)(a2:Sl bz):(F78 E (a0,a1,a2)).T k=cond (decide ((a2.len:Int)>24)) (k (.inl 3)) ((E.c60 (a0,a1)).T λr1=>cond (r1 != 0) (k (.inl 2)) (X7 E E.N a0 a1 a2 0 (⟨0,(λ_=>(⟨0,(λ_=>(⟨0,0,0⟩:ay))⟩:(Sl ay)))⟩:(Sl (Sl ay))) k)):=zv3.trans krY
theorem zwm(n0:Nat)(a0:ak)(a1:bQ)(a2:Sl bz)(PI:Int)(w55:Sl (Sl ay)):X7 E (n0+1) a0 a1 a2 PI w55 k=cond (decide (PI<(a2.len:Int))) (aU (decide (0<=PI/\PI<(a2.len:Int))) ((E.c138 (a0,(a2.get PI.toNat))).T λr1=>cond (r1 != 0) (k (.inl 2)) ((E.c139 (a0,(a2.get PI.toNat))).T λr2=>cond (r2.2 != 0) (cond (r2.2 != 5) (k (.inl r2.2)) (X8 E n0 a0 a1 a2 r2.1 PI w55 k)) (X8 E n0 a0 a1 a2 r2.1 PI w55 k)))) (k (.inr ((⟨(⟨a0,a2,w55,a1⟩:aW)⟩:(Pt aW)),0))):=krY
theorem zIv(n0:Nat)(a0:ak)(a1:bQ)(a2:Sl bz)(v11:Sl ay)(PI:Int)(w55:Sl (Sl ay)):X8 E n0 a0 a1 a2 v11 PI w55 k=aU (room (w55.len+1) 24) (X7 E n0 a0 a1 a2 (aJ (PI+1)) (⟨(w55.len+1),(iR w55.len w55.get (λ_=>v11))⟩:(Sl (Sl ay))) k):=krY
end
theorem o78 [aH](E:E78)(h60:Ok aB 60 (ae.un E.c60))(zzJ:Ok aB 138 (ae.un E.c138))(zzK:Ok aB 139 (ae.un E.c139)):Ok aB 78 (ae.unA (F78 E)):=zjN (xw (((au.nil.addF h60).addF zzJ).addF zzK) (dE krY))
structure E96 where
 N:Nat
def F96(E:E96):Int->ae Bool:=iW E.N Tabs.nil 96
theorem e96(E:E96){A:Type}(k:Bool→Option A)(a0:Int):(F96 E (a0)).T k=cond (a0==1) (k true) (k (a0==2)):=dU
theorem o96 [aH](E:E96):Ok aB 96 (ae.un (F96 E)):=dV au.nil
structure zfX where
 N:Nat
abbrev zIw(E:zfX):bI:=gQ Tabs.nil []
def zIx:dG:=bP aB 105 [] {ks:=[(1,3,⟨[],[(5,32,101)],[],[],[],[],[]⟩)]}
def zqg(E:zfX):(Pt aW)×af->ae ((Sl ay)):=ae.ty (aF aB E.N (zIw E) zIx 105)
section
variable(E:zfX){A:Type}(k:(Sl ay)->Option A)
def Um(E:zfX)(n:Nat)(a0:Pt aW)(a1:af)(v11:Int)(w32:Sl ay){A:Type}(k:(Sl ay)->Option A):Option A:=iK aB (zIw E) E.N zIx 105 [1,1,0,1,0] [.n n] (iJ k) ⟨[(0,eP a0),(3,.cl (.ptr 3 0)),(5,.cl (.vec 32)),(9,eP a1.Hits),(10,.int (a1.Hits.len:Int)),(11,.int v11)],[(3,eB 43 a1),(32,eV 101 3 24 w32)],[]⟩
theorem zT0(a0:Pt aW)(a1:af):(zqg E (a0,a1)).T k=Um E E.N a0 a1 0 (⟨0,(λ_=>(⟨0,0,0⟩:ay))⟩:(Sl ay)) k:=dU
theorem zkq(n0:Nat)(a0:Pt aW)(a1:af)(v11:Int)(w32:Sl ay):Um E (n0+1) a0 a1 v11 w32 k=cond (decide (v11<(a1.Hits.len:Int))) (aU (decide (0<=v11/\v11<(a1.Hits.len:Int))) (aU (decide (0<=a1.Hits.get v11.toNat/\a1.Hits.get v11.toNat<(a0.v.oq.len:Int))) (aU (decide (0<=v11/\v11<(a1.bu.len:Int))) (aU (decide (0<=a1.bu.get v11.toNat/\a1.bu.get v11.toNat<((a0.v.oq.get (a1.Hits.get v11.toNat).toNat).len:Int))) (aU (room (w32.len+1) 24) (Um E n0 a0 a1 (aJ (v11+1)) (⟨(w32.len+1),(iR w32.len w32.get (λ_=>((a0.v.oq.get (a1.Hits.get v11.toNat).toNat).get (a1.bu.get v11.toNat).toNat)))⟩:(Sl ay)) k)))))) (k w32):=krY
end
theorem zT1 [aH](E:zfX):Ok aB 105 (ae.un (zqg E)):=dV au.nil
structure X9 where
 N:Nat
 znO:(Pt aW)×Int->ae Int
abbrev zzL(E:X9):bI:=gQ (Tabs.nil.addF 140 (ae.un E.znO)) []
def zzM:dG:=bP aB 173 [0] {yl:=[7]}
def zIy(E:X9)(c:List PA):YO:=aI aB (zzL E) E.N zzM 173 c
def zzN(E:X9):(Pt Int)×(Pt (Pt aW))×(Pt Int)->ae (List (Int×Int)):=ae.tyI λc=>.opt (zIy E c)
section
variable(E:X9)
def NY(E:X9)(n:Nat)(a2:(Pt (Pt aW)))(a3:Pt Int)(v5:Int):YO:=ptY aB (zzL E) E.N zzM 173 [1,0] [n] ⟨[(0,.cl (.vec 4095)),(2,eP a2),(3,eP a3),(5,.int v5)],[(4095,.gone)],[]⟩
def NZ(E:X9)(n0 n:Nat)(a2:(Pt (Pt aW)))(a3:Pt Int)(v5 v29 v30:Int):YO:=ptY aB (zzL E) E.N zzM 173 [1,0,0,1,0,0,1,1,0] [n0,n] ⟨[(0,.cl (.vec 4095)),(2,eP a2),(3,eP a3),(5,.int v5),(29,.int v29),(30,.int v30)],[(4095,.gone)],[]⟩
theorem zT2(a1:Pt Int)(a2:(Pt (Pt aW)))(a3:Pt Int):zIy E (dA.enc ((a1,a2,a3):(Pt Int)×(Pt (Pt aW))×(Pt Int)))=NY E E.N a2 a3 a1.v:=krY
theorem zkr(n0:Nat)(a2:(Pt (Pt aW)))(a3:Pt Int)(v5:Int):NY E (n0+1) a2 a3 v5=cond (decide (v5<(a2.v.v.hits.len:Int))) ((E.znO (a2.v,v5)).T λr1=>cond (r1 != a3.v) (NY E n0 a2 a3 (aJ (v5+1))) (aU (decide (0≤v5∧v5<(a2.v.v.oq.len:Int))) (NZ E n0 E.N a2 a3 v5 ((a2.v.v.oq.get v5.toNat).len:Int) 0))) (some []):=krY
theorem zks(n0 n1:Nat)(a2:(Pt (Pt aW)))(a3:Pt Int)(v5 v29 v30:Int):NZ E n0 (n1+1) a2 a3 v5 v29 v30=cond (decide (v30<v29)) (yT (dA.enc ((v5,v30):Int×Int)) (some []) (NZ E n0 n1 a2 a3 v5 v29 (aJ (v30+1)))) (NY E n0 a2 a3 (aJ (v5+1))):=krY
end
theorem zT3(E:X9)(zzO:Ok aB 140 (ae.un E.znO)):Bf aB 173 (ae.unI (zzN E)):=Ud (NM (au.nil.addF zzO) (dE krY))
structure zqh where
 N:Nat
def zqi(E:zqh):(Pt aW)×Int->ae Int:=iW E.N Tabs.nil 140
theorem zT4(E:zqh){A:Type}(k:Int→Option A)(a0:Pt aW)(a1:Int):(zqi E (a0,a1)).T k=aU (decide (0<=a1/\a1<(a0.v.hits.len:Int))) (aU (decide (0<=(a0.v.hits.get a1.toNat).aj/\(a0.v.hits.get a1.toNat).aj<(a0.v.ak.ai.len:Int))) (k (a0.v.ak.ai.get (a0.v.hits.get a1.toNat).aj.toNat).View)):=dU
theorem zT5 [aH](E:zqh):Ok aB 140 (ae.un (zqi E)):=dV au.nil
structure zqj where
 N:Nat
 c160:ak->ae Bool
def zqk(E:zqj):ak->ae Int:=iW E.N (Tabs.nil.addF 160 (ae.un E.c160)) 122
theorem zT6(E:zqj){A:Type}(k:Int→Option A)(a0:ak):(zqk E (a0)).T k=(E.c160 a0).T λr1=>cond (!r1) (k 2) (k 0):=dU
theorem zT7 [aH](E:zqj)(CS:Ok aB 160 (ae.un E.c160)):Ok aB 122 (ae.un (zqk E)):=dV (au.nil.addF CS)
structure zql where
 N:Nat
def zqm(E:zql):Int×Int×Int->ae Bool:=iW E.N Tabs.nil 123
theorem zT8(E:zql){A:Type}(k:Bool→Option A)(a0 a1 a2:Int):(zqm E (a0,a1,a2)).T k=cond (decide (a0>=a1)) (k (decide (a0<=a2))) (k false):=dU
theorem zT9 [aH](E:zql):Ok aB 123 (ae.un (zqm E)):=dV au.nil
structure zqn where
 N:Nat
 VC:ak×bz->ae Bool
def zqo(E:zqn):ak×bz->ae Int:=iW E.N (Tabs.nil.addF 188 (ae.un E.VC)) 138
theorem e138(E:zqn){A:Type}(k:Int→Option A)(a0:ak)(a1:bz):(zqo E (a0,a1)).T k=(E.VC (a0,a1)).T λr1=>cond (!r1) (k 2) (k 0):=dU
theorem zUa [aH](E:zqn)(zbs:Ok aB 188 (ae.un E.VC)):Ok aB 138 (ae.un (zqo E)):=dV (au.nil.addF zbs)
structure zqp where
 N:Nat
 VC:ak×bz->ae Bool
 uZ:ak×bz->ae (placed×Bool)
 zuZ:placed×bz->ae ((Sl ay))
def zqq(E:zqp):ak×bz->ae ((Sl ay)×Int):=iW E.N (((Tabs.nil.addF 188 (ae.un E.VC)).addF 112 (ae.un E.uZ)).addF 189 (ae.un E.zuZ)) 139
theorem zUb(E:zqp){A:Type}(k:((Sl ay)×Int)→Option A)(a0:ak)(a1:bz):(zqq E (a0,a1)).T k=(E.VC (a0,a1)).T λr1=>cond (!r1) (k ((⟨0,λ_=>default⟩:(Sl ay)),2)) ((E.uZ (a0,a1)).T λr2=>(E.zuZ (r2.1,a1)).T λr3=>cond ((r3.len:Int)==0) (k ((⟨0,λ_=>default⟩:(Sl ay)),5)) (k (r3,0))):=dU
theorem zUc [aH](E:zqp)(zbs:Ok aB 188 (ae.un E.VC))(Bq:Ok aB 112 (ae.un E.uZ))(zzQ:Ok aB 189 (ae.un E.zuZ)):Ok aB 139 (ae.un (zqq E)):=dV (((au.nil.addF zbs).addF Bq).addF zzQ)
structure zfY where
 N:Nat
 iD:Int×Int×Int->ae Bool
abbrev zIz(E:zfY):bI:=gQ (Tabs.nil.addF 161 (ae.un E.iD)) []
def zIA:dG:=bP aB 112 [] {}
def zqr(E:zfY):ak×bz->ae (placed×Bool):=ae.ty (aF aB E.N (zIz E) zIA 112)
section
variable(E:zfY){A:Type}(k:(placed×Bool)->Option A)
def Un(E:zfY)(n:Nat)(a0:ak)(a1:bz)(v67:Int){A:Type}(k:(placed×Bool)->Option A):Option A:=iK aB (zIz E) E.N zIA 112 [1,1,1,1,0,1,0] [.n n] (iJ k) ⟨[(3,.cl (.ptr 3 0)),(4,.cl (.ptr 4 0)),(6,.cl (.ptr 6 0)),(65,eP (a0.ai.get a1.aj.toNat).Dead),(66,.int ((a0.ai.get a1.aj.toNat).Dead.len:Int)),(67,.int v67)],[(3,eB 92 a1),(4,.box 185 [.p (.int .i64 0),.p (.int .i64 0),.p (.int .i64 0),.p (.int .i64 0),.p (.int .i64 0),.p (.int .i64 0),.p (.int .i64 0),.p (.int .i64 0),.p (.int .i64 0),.p (.int .i64 0),.p (.int .i64 0),.p (.int .i64 0),.p (.int .i64 0),.p (.nils),.p (.nils),.p (.int .i64 0)]),(6,.box 185 [.p (.int .i64 (a0.ai.get a1.aj.toNat).Kind),.p (.int .i64 (a0.ai.get a1.aj.toNat).View),.p (.int .i64 (a0.ai.get a1.aj.toNat).Z),.p (.int .i64 (a0.ai.get a1.aj.toNat).First),.p (.int .i64 (a0.ai.get a1.aj.toNat).aO),.p (.int .i64 (a0.ai.get a1.aj.toNat).bC),.p (.int .i64 (a0.ai.get a1.aj.toNat).dJ),.p (.int .i64 (a0.ai.get a1.aj.toNat).aZ.Low),.p (.int .i64 (a0.ai.get a1.aj.toNat).aZ.High),.p (.int .i64 (a0.ai.get a1.aj.toNat).Clock.Low),.p (.int .i64 (a0.ai.get a1.aj.toNat).Clock.High),.p (.int .i64 (a0.ai.get a1.aj.toNat).dO),.p (.int .i64 (a0.ai.get a1.aj.toNat).Least),.p (.sl (a0.ai.get a1.aj.toNat).aS.len 3 (λi=>bD.enc ((a0.ai.get a1.aj.toNat).aS.get i))),.p (.sl (a0.ai.get a1.aj.toNat).Dead.len 1 (λi=>bD.enc ((a0.ai.get a1.aj.toNat).Dead.get i))),.p (.int .i64 a1.aj)])],[]⟩
theorem zUd(a0:ak)(a1:bz):(zqr E (a0,a1)).T k=(E.iD (a1.aj,0,(aJ ((a0.ai.len:Int)-1)))).T λr1=>cond (!r1) (k ((⟨(⟨0,0,0,0,0,0,0,(⟨0,0⟩:bW),(⟨0,0⟩:bW),0,0,(⟨0,λ_=>default⟩:(Sl aS)),(⟨0,λ_=>default⟩:(Sl Int))⟩:aj),0⟩:placed),false)) (aU (decide (0<=a1.aj/\a1.aj<(a0.ai.len:Int))) ((E.iD (a1.Channel,0,(aJ ((a0.ai.get a1.aj.toNat).bC-1)))).T λr2=>cond (!r2) (k ((⟨(a0.ai.get a1.aj.toNat),a1.aj⟩:placed),false)) ((E.iD (a1.kz,1,(aJ ((a0.ai.get a1.aj.toNat).bC-a1.Channel)))).T λr3=>cond (!r3) (k ((⟨(a0.ai.get a1.aj.toNat),a1.aj⟩:placed),false)) ((E.iD (a1.Di,(a0.ai.get a1.aj.toNat).Least,1000000)).T λr4=>cond (!r4) (k ((⟨(a0.ai.get a1.aj.toNat),a1.aj⟩:placed),false)) ((E.iD (a1.Time,(-1000000000),1000000000)).T λr5=>cond (!r5) (k ((⟨(a0.ai.get a1.aj.toNat),a1.aj⟩:placed),false)) (Un E E.N a0 a1 0 k)))))):=dU
theorem zkt(n0:Nat)(a0:ak)(a1:bz)(v67:Int):Un E (n0+1) a0 a1 v67 k=cond (decide (v67<((a0.ai.get a1.aj.toNat).Dead.len:Int))) (aU (decide (0<=v67/\v67<((a0.ai.get a1.aj.toNat).Dead.len:Int))) ((E.iD ((a0.ai.get a1.aj.toNat).Dead.get v67.toNat,a1.Channel,(aJ ((aJ (a1.Channel+a1.kz))-1)))).T λr1=>cond r1 (k ((⟨(a0.ai.get a1.aj.toNat),a1.aj⟩:placed),false)) (Un E n0 a0 a1 (aJ (v67+1)) k))) (cond ((a0.ai.get a1.aj.toNat).Kind==2) (cond (a1.kz==1) ((E.iD (a1.aS,0,1000000)).T λr2=>k ((⟨(a0.ai.get a1.aj.toNat),a1.aj⟩:placed),r2)) (k ((⟨(a0.ai.get a1.aj.toNat),a1.aj⟩:placed),false))) (cond (a1.aS==0) (cond ((a0.ai.get a1.aj.toNat).Kind != 3) (k ((⟨(a0.ai.get a1.aj.toNat),a1.aj⟩:placed),true)) (k ((⟨(a0.ai.get a1.aj.toNat),a1.aj⟩:placed),(a1.Time==0)))) (k ((⟨(a0.ai.get a1.aj.toNat),a1.aj⟩:placed),false)))):=krY
end
theorem zUe [aH](E:zfY)(lX:Ok aB 161 (ae.un E.iD)):Ok aB 112 (ae.un (zqr E)):=dV (au.nil.addF lX)
structure zqs where
 N:Nat
def zqu(E:zqs):Int×Int×Int->ae Bool:=iW E.N Tabs.nil 161
theorem e161(E:zqs){A:Type}(k:Bool→Option A)(a0 a1 a2:Int):(zqu E (a0,a1,a2)).T k=cond (decide (a0>=a1)) (k (decide (a0<=a2))) (k false):=dU
theorem zUf [aH](E:zqs):Ok aB 161 (ae.un (zqu E)):=dV au.nil
structure zfZ where
 N:Nat
 c201:placed->ae Bool
 iD:Int×Int×Int->ae Bool
abbrev zIB(E:zfZ):bI:=gQ ((Tabs.nil.addF 201 (ae.un E.c201)).addF 161 (ae.un E.iD)) []
def zIC:dG:=bP aB 160 [] {}
def zqv(E:zfZ):ak->ae Bool:=ae.ty (aF aB E.N (zIB E) zIC 160)
section
variable(E:zfZ){A:Type}(k:Bool->Option A)
def Hy(E:zfZ)(n:Nat)(a0:ak)(v9:Int){A:Type}(k:Bool->Option A):Option A:=iK aB (zIB E) E.N zIC 160 [1,0,1,0] [.n n] (iJ k) ⟨[(1,.cl (.ptr 1 0)),(7,eP a0.ai),(8,.int (a0.ai.len:Int)),(9,.int v9)],[(1,eB 24 a0)],[]⟩
theorem e160(a0:ak):(zqv E (a0)).T k=Hy E E.N a0 0 k:=dU
theorem zku(n0:Nat)(a0:ak)(v9:Int):Hy E (n0+1) a0 v9 k=cond (decide (v9<(a0.ai.len:Int))) (aU (decide (0<=v9/\v9<(a0.ai.len:Int))) ((E.c201 (⟨(a0.ai.get v9.toNat),v9⟩:placed)).T λr1=>cond (!r1) (k false) (cond (decide (v9>0)) (aU (decide (0<=(aJ (v9-1))/\(aJ (v9-1))<(a0.ai.len:Int))) (cond (decide ((a0.ai.get v9.toNat).Z<=(a0.ai.get (aJ (v9-1)).toNat).Z)) (k false) (Hy E n0 a0 (aJ (v9+1)) k))) (Hy E n0 a0 (aJ (v9+1)) k)))) ((E.iD ((a0.ai.len:Int),1,16)).T λr2=>k r2):=krY
end
theorem zUg [aH](E:zfZ)(zzR:Ok aB 201 (ae.un E.c201))(lX:Ok aB 161 (ae.un E.iD)):Ok aB 160 (ae.un (zqv E)):=dV ((au.nil.addF zzR).addF lX)
structure zqw where
 N:Nat
 iD:Int×Int×Int->ae Bool
def zqx(E:zqw):bW×Int->ae Bool:=iW E.N (Tabs.nil.addF 161 (ae.un E.iD)) 164
theorem zUh(E:zqw){A:Type}(k:Bool→Option A)(a0:bW)(a1:Int):(zqx E (a0,a1)).T k=(E.iD (a0.Low,(aJ (0-a1)),a0.High)).T λr1=>cond r1 (k (decide (a0.High<=a1))) (k false):=dU
theorem zUi [aH](E:zqw)(lX:Ok aB 161 (ae.un E.iD)):Ok aB 164 (ae.un (zqx E)):=dV (au.nil.addF lX)
structure zbt where
 N:Nat
 iD:Int×Int×Int->ae Bool
 zhl:placed->ae Bool
 c232:placed->ae Bool
 c233:placed->ae Bool
 c234:placed->ae Bool
abbrev zzS(E:zbt):bI:=gQ (((((Tabs.nil.addF 161 (ae.un E.iD)).addF 235 (ae.un E.zhl)).addF 232 (ae.un E.c232)).addF 233 (ae.un E.c233)).addF 234 (ae.un E.c234)) []
def zzT:dG:=bP aB 201 [] {}
def zqy(E:zbt):placed->ae Bool:=ae.ty (aF aB E.N (zzS E) zzT 201)
abbrev knd(n:Int)(a:placed):placed:={a with aj:={a.aj with Kind:=n}}
section
variable(E:zbt){A:Type}(k:Bool->Option A)
def N7(E:zbt)(a0:placed)(Gf:Bool){A:Type}(k:Bool->Option A):Option A:=iK aB (zzS E) E.N zzT 201 [1,1,0,0] [.o 4] (iJ k) ⟨[(16,.bool Gf),(15,.int a0.aj.Kind),(14,.cl (.ptr 1 0)),(13,.cl (.ptr 1 0)),(1,.cl (.ptr 1 0)),(3,.cl (.ptr 3 0))],[(1,eB 185 a0),(3,.box 301 [.p (.nilf),.p (.fna 232 (bD.enc a0)),.p (.fna 233 (bD.enc a0)),.p (.fna 234 (bD.enc a0))])],[(2,1,0)]⟩
def xx(E:zbt)(n:Nat)(a0:placed)(v36:Int){A:Type}(k:Bool->Option A):Option A:=iK aB (zzS E) E.N zzT 201 [1,1,1,0,1,0] [.n n] (iJ k) ⟨[(1,.cl (.ptr 1 0)),(34,eP a0.aj.Dead),(35,.int (a0.aj.Dead.len:Int)),(36,.int v36)],[(1,eB 185 a0)],[]⟩
theorem zUj(a0:placed):(zqy E (a0)).T k=(E.iD (a0.aj.Kind,1,3)).T λr1=>N7 E a0 r1 k:=dU
theorem zqz(a0:placed):N7 E a0 false k=k false:=krY
theorem zqA(a0:placed):N7 E (knd 1 a0) true k=(E.zhl (knd 1 a0)).T λr1=>cond (!r1) (k false) ((E.c232 (knd 1 a0)).T λr2=>cond (!r2) (k false) (xx E E.N (knd 1 a0) 0 k)):=krY
theorem zqB(a0:placed):N7 E (knd 2 a0) true k=(E.zhl (knd 2 a0)).T λr1=>cond (!r1) (k false) ((E.c233 (knd 2 a0)).T λr2=>cond (!r2) (k false) (xx E E.N (knd 2 a0) 0 k)):=krY
theorem zqC(a0:placed):N7 E (knd 3 a0) true k=(E.zhl (knd 3 a0)).T λr1=>cond (!r1) (k false) ((E.c234 (knd 3 a0)).T λr2=>cond (!r2) (k false) (xx E E.N (knd 3 a0) 0 k)):=krY
theorem zkv(n0:Nat)(a0:placed)(v36:Int):xx E (n0+1) a0 v36 k=cond (decide (v36<(a0.aj.Dead.len:Int))) (aU (decide (0<=v36/\v36<(a0.aj.Dead.len:Int))) ((E.iD (a0.aj.Dead.get v36.toNat,0,(aJ (a0.aj.bC-1)))).T λr1=>cond (!r1) (k false) (cond (decide (v36>0)) (aU (decide (0<=(aJ (v36-1))/\(aJ (v36-1))<(a0.aj.Dead.len:Int))) (cond (decide (a0.aj.Dead.get v36.toNat<=a0.aj.Dead.get (aJ (v36-1)).toNat)) (k false) (xx E n0 a0 (aJ (v36+1)) k))) (xx E n0 a0 (aJ (v36+1)) k)))) (k (decide ((a0.aj.Dead.len:Int)<=100))):=krY
end
theorem zUk [aH](E:zbt)(lX:Ok aB 161 (ae.un E.iD))(zkw:Ok aB 235 (ae.un E.zhl))(zzU:Ok aB 232 (ae.un E.c232))(zzV:Ok aB 233 (ae.un E.c233))(zzW:Ok aB 234 (ae.un E.c234)):Ok aB 201 (ae.un (zqy E)):=dV (((((au.nil.addF lX).addF zkw).addF zzU).addF zzV).addF zzW)
structure zqD where
 N:Nat
def zqE(E:zqD):placed->ae Bool:=iW E.N Tabs.nil 232
theorem e232(E:zqD){A:Type}(k:Bool→Option A)(a0:placed):(zqE E (a0)).T k=k ((a0.aj.aS.len:Int)==0):=dU
theorem zUl [aH](E:zqD):Ok aB 232 (ae.un (zqE E)):=dV au.nil
structure zf0 where
 N:Nat
 iD:Int×Int×Int->ae Bool
abbrev zID(E:zf0):bI:=gQ (Tabs.nil.addF 161 (ae.un E.iD)) []
def zIE:dG:=bP aB 233 [] {}
def zqF(E:zf0):placed->ae Bool:=ae.ty (aF aB E.N (zID E) zIE 233)
section
variable(E:zf0){A:Type}(k:Bool->Option A)
def Hz(E:zf0)(n:Nat)(a0:placed)(v9:Int){A:Type}(k:Bool->Option A):Option A:=iK aB (zID E) E.N zIE 233 [1,0,1,0] [.n n] (iJ k) ⟨[(1,.cl (.ptr 1 0)),(7,eP a0.aj.aS),(8,.int (a0.aj.aS.len:Int)),(9,.int v9)],[(1,eB 185 a0)],[]⟩
theorem e233(a0:placed):(zqF E (a0)).T k=Hz E E.N a0 0 k:=dU
theorem zkx(n0:Nat)(a0:placed)(v9:Int):Hz E (n0+1) a0 v9 k=cond (decide (v9<(a0.aj.aS.len:Int))) (aU (decide (0<=v9/\v9<(a0.aj.aS.len:Int))) ((E.iD ((a0.aj.aS.get v9.toNat).Time,0,1000000)).T λr1=>cond (!r1) (k false) ((E.iD ((a0.aj.aS.get v9.toNat).dQ.Low,0,(a0.aj.aS.get v9.toNat).dQ.High)).T λr2=>cond (!r2) (k false) (cond (decide ((a0.aj.aS.get v9.toNat).dQ.High>(aJ (a0.aj.aO.tdiv 2)))) (k false) (cond (decide (v9>0)) (aU (decide (0<=(aJ (v9-1))/\(aJ (v9-1))<(a0.aj.aS.len:Int))) (cond (decide ((a0.aj.aS.get v9.toNat).Time<=(a0.aj.aS.get (aJ (v9-1)).toNat).Time)) (k false) (aU (decide (0<=(aJ (v9-1))/\(aJ (v9-1))<(a0.aj.aS.len:Int))) (cond (decide ((a0.aj.aS.get v9.toNat).dQ.Low<(a0.aj.aS.get (aJ (v9-1)).toNat).dQ.Low)) (k false) (aU (decide (0<=(aJ (v9-1))/\(aJ (v9-1))<(a0.aj.aS.len:Int))) (cond (decide ((a0.aj.aS.get v9.toNat).dQ.High<(a0.aj.aS.get (aJ (v9-1)).toNat).dQ.High)) (k false) (Hz E n0 a0 (aJ (v9+1)) k))))))) (Hz E n0 a0 (aJ (v9+1)) k)))))) ((E.iD ((a0.aj.aS.len:Int),1,50)).T λr3=>k r3):=krY
end
theorem zUm [aH](E:zf0)(lX:Ok aB 161 (ae.un E.iD)):Ok aB 233 (ae.un (zqF E)):=dV (au.nil.addF lX)
structure zqG where
 N:Nat
def zqH(E:zqG):placed->ae Bool:=iW E.N Tabs.nil 234
theorem e234(E:zqG){A:Type}(k:Bool→Option A)(a0:placed):(zqH E (a0)).T k=k ((a0.aj.aS.len:Int)==0):=dU
theorem zUn [aH](E:zqG):Ok aB 234 (ae.un (zqH E)):=dV au.nil
structure zqI where
 N:Nat
 iD:Int×Int×Int->ae Bool
 c164:bW×Int->ae Bool
def zqJ(E:zqI):placed->ae Bool:=iW E.N ((Tabs.nil.addF 161 (ae.un E.iD)).addF 164 (ae.un E.c164)) 235
theorem zUo(E:zqI){A:Type}(k:Bool→Option A)(a0:placed):(zqJ E (a0)).T k=(E.iD (a0.aj.View,1,2)).T λr1=>cond (!r1) (k false) ((E.iD (a0.aj.Z,0,100000)).T λr2=>cond (!r2) (k false) ((E.iD (a0.aj.First,(-1000000),1000000)).T λr3=>cond (!r3) (k false) ((E.iD (a0.aj.aO,2,100000)).T λr4=>cond (!r4) (k false) ((E.iD (a0.aj.bC,1,2000)).T λr5=>cond (!r5) (k false) ((E.iD (a0.aj.dJ,0,100000)).T λr6=>cond (!r6) (k false) ((E.c164 (a0.aj.aZ,1000000)).T λr7=>cond (!r7) (k false) ((E.c164 (a0.aj.Clock,1000000000)).T λr8=>cond (!r8) (k false) ((E.iD (a0.aj.dO,0,1000000)).T λr9=>cond (!r9) (k false) ((E.iD (a0.aj.Least,0,1000000)).T λV5=>cond (!V5) (k false) (cond (decide ((aJ ((aJ ((aJ (a0.aj.First-a0.aj.aO))-a0.aj.dJ))+a0.aj.aZ.Low))>=(-1000000))) (k (decide ((aJ ((aJ ((aJ (a0.aj.First+(aJ ((aJ (a0.aj.bC+1))*a0.aj.aO))))+a0.aj.dJ))+a0.aj.aZ.High))<=1000000))) (k false))))))))))):=dU
theorem zUp [aH](E:zqI)(lX:Ok aB 161 (ae.un E.iD))(Ya:Ok aB 164 (ae.un E.c164)):Ok aB 235 (ae.un (zqJ E)):=dV ((au.nil.addF lX).addF Ya)
structure zqK where
 N:Nat
 c160:ak->ae Bool
 uZ:ak×bz->ae (placed×Bool)
def zqL(E:zqK):ak×bz->ae Bool:=iW E.N ((Tabs.nil.addF 160 (ae.un E.c160)).addF 112 (ae.un E.uZ)) 188
theorem zUq(E:zqK){A:Type}(k:Bool→Option A)(a0:ak)(a1:bz):(zqL E (a0,a1)).T k=(E.c160 a0).T λr1=>cond (!r1) (k false) ((E.uZ (a0,a1)).T λr2=>k r2.2):=dU
theorem zUr [aH](E:zqK)(CS:Ok aB 160 (ae.un E.c160))(Bq:Ok aB 112 (ae.un E.uZ)):Ok aB 188 (ae.un (zqL E)):=dV ((au.nil.addF CS).addF Bq)
structure zqM where
 N:Nat
 zhk:placed×Int×Int->ae ay
 zu8:placed×Int->ae (Int×Int)
def zqN(E:zqM):placed×bz->ae ((Sl ay)):=iW E.N ((Tabs.nil.addF 223 (ae.un E.zhk)).addF 224 (ae.un E.zu8)) 189
theorem e189(E:zqM){A:Type}(k:(Sl ay)→Option A)(a0:placed)(a1:bz):(zqN E (a0,a1)).T k=cond (a0.aj.Kind != 2) (cond (decide ((aJ ((aJ (a0.aj.First+(aJ ((aJ ((aJ (a1.Channel+a1.kz))-1))*a0.aj.aO))))-a0.aj.dJ))>(aJ ((aJ (a0.aj.First+(aJ ((aJ (a1.Channel+1))*a0.aj.aO))))+a0.aj.dJ)))) (k (⟨0,λ_=>default⟩:(Sl ay))) ((E.zhk (a0,(aJ ((aJ (a0.aj.First+(aJ ((aJ ((aJ (a1.Channel+a1.kz))-1))*a0.aj.aO))))-a0.aj.dJ)),(aJ ((aJ (a0.aj.First+(aJ ((aJ (a1.Channel+1))*a0.aj.aO))))+a0.aj.dJ)))).T λr1=>k (⟨1,(fun _=>r1)⟩:(Sl ay)))) ((E.zu8 (a0,a1.aS)).T λr2=>(E.zhk (a0,(aJ ((aJ (a0.aj.First+(aJ (a1.Channel*a0.aj.aO))))-r2.2)),(aJ ((aJ (a0.aj.First+(aJ (a1.Channel*a0.aj.aO))))-r2.1)))).T λr3=>(E.zhk (a0,(aJ ((aJ (a0.aj.First+(aJ (a1.Channel*a0.aj.aO))))+r2.1)),(aJ ((aJ (a0.aj.First+(aJ (a1.Channel*a0.aj.aO))))+r2.2)))).T λr4=>cond (decide (r3.High>=r4.Low)) (k (⟨1,(λ_=>(⟨a0.aj.Z,r3.Low,r4.High⟩:ay))⟩:(Sl ay))) (k (⟨2,(X5 [r3,r4])⟩:(Sl ay)))):=dU
theorem zUs [aH](E:zqM)(zzX:Ok aB 223 (ae.un E.zhk))(zzY:Ok aB 224 (ae.un E.zu8)):Ok aB 189 (ae.un (zqN E)):=dV ((au.nil.addF zzX).addF zzY)
structure zqO where
 N:Nat
def zqP(E:zqO):placed×Int×Int->ae ay:=iW E.N Tabs.nil 223
theorem e223(E:zqO){A:Type}(k:ay→Option A)(a0:placed)(a1 a2:Int):(zqP E (a0,a1,a2)).T k=k (⟨a0.aj.Z,(aJ (a1+a0.aj.aZ.Low)),(aJ (a2+a0.aj.aZ.High))⟩:ay):=dU
theorem zUt [aH](E:zqO):Ok aB 223 (ae.un (zqP E)):=dV au.nil
structure zbv where
 N:Nat
 zvf:(Pt (Sl aS))->ae (List (Int×aS))
abbrev zzZ(E:zbv):bI:=gQ ((Tabs.nil.addF 246 (aF aB E.N (gQ Tabs.nil []) (bP aB 246 [] {}) 246)).addI 251 (ae.unI E.zvf)) []
def zz0:dG:=bP aB 224 [] {}
def zqQ(E:zbv):placed×Int->ae (Int×Int):=ae.ty (aF aB E.N (zzZ E) zz0 224)
section
variable(E:zbv){A:Type}(k:(Int×Int)->Option A)
def N8(E:zbv)(n:Nat)(a0:placed)(a1 v6 v20 Et:Int){A:Type}(k:(Int×Int)->Option A):Option A:=iK aB (zzZ E) E.N zz0 224 [1,1,0,1,0] [.n n] (iJ k) ⟨[(2,.cl (.ptr 2 0)),(3,.cl (.ptr 3 0)),(6,.int v6),(7,.cl (.ptr 7 0)),(18,eP a0.aj.aS),(19,.int (a0.aj.aS.len:Int)),(20,.int v20)],[(2,eB 185 a0),(3,eB 3 a1),(7,eB 3 Et)],[]⟩
def HY(E:zbv)(l:List (Int×aS))(a0:placed)(a1 v6 Et:Int){A:Type}(k:(Int×Int)->Option A):Option A:=iK aB (zzZ E) E.N zz0 224 [1,1,1,0,1,0] [.y (l.map dA.enc)] (iJ k) ⟨[(2,.cl (.ptr 2 0)),(3,.cl (.ptr 3 0)),(6,.int v6),(7,.cl (.ptr 7 0)),(39,.p (.fn 251 [] [.fp [.sl a0.aj.aS.len 3 (λi=>bD.enc (a0.aj.aS.get i))] 0]))],[(2,eB 185 a0),(3,eB 3 a1),(7,eB 3 Et)],[]⟩
theorem e224(a0:placed)(a1:Int):(zqQ E (a0,a1)).T k=N8 E E.N a0 a1 0 0 (aJ (a0.aj.aO.tdiv 2)) k:=dU
theorem zky(n0:Nat)(a0:placed)(a1 v6 v20 Et:Int):N8 E (n0+1) a0 a1 v6 v20 Et k=cond (decide (v20<(a0.aj.aS.len:Int))) (aU (decide (0<=v20/\v20<(a0.aj.aS.len:Int))) (cond (decide ((a0.aj.aS.get v20.toNat).Time<=(aJ (a1-a0.aj.dO)))) (N8 E n0 a0 a1 (a0.aj.aS.get v20.toNat).dQ.Low (aJ (v20+1)) Et k) (N8 E n0 a0 a1 v6 (aJ (v20+1)) Et k))) ((E.zvf (⟨a0.aj.aS⟩:(Pt (Sl aS)))).T λr1=>HY E r1 a0 a1 v6 Et k):=krY
theorem zqR(a0:placed)(a1 v6 Et:Int):HY E [] a0 a1 v6 Et k=k (v6,Et):=krY
theorem zz1(y:Int×aS)(l0:List (Int×aS))(a0:placed)(a1 v6 Et:Int):HY E (y::l0) a0 a1 v6 Et k=cond (decide (y.2.Time>=(aJ (a1+a0.aj.dO)))) (HY E l0 a0 a1 v6 y.2.dQ.High k) (HY E l0 a0 a1 v6 Et k):=krY
end
theorem zUu [aH](E:zbv)(zUv:Bf aB 251 (ae.unI E.zvf)):Ok aB 224 (ae.un (zqQ E)):=dV ((au.nil.addF (xw au.nil (dE krY))).addI zUv)
structure zbw where
 N:Nat
abbrev zIF(E:zbw):bI:=gQ Tabs.nil []
def zIG:dG:=bP aB 251 [0] {yl:=[3]}
def zIH(E:zbw)(c:List PA):YO:=aI aB (zIF E) E.N zIG 251 c
def zz2(E:zbw):(Pt (Sl aS))->ae (List (Int×aS)):=ae.tyI λc=>.opt (zIH E c)
section
variable(E:zbw)
def Uo(E:zbw)(n:Nat)(a1:(Pt (Sl aS)))(v3:Int):YO:=ptY aB (zIF E) E.N zIG 251 [1,0] [n] ⟨[(0,.cl (.vec 4095)),(1,eP a1),(3,.int v3)],[(4095,.gone)],[]⟩
theorem e251(a1:(Pt (Sl aS))):zIH E (dA.enc ((a1):(Pt (Sl aS))))=Uo E E.N a1 (aJ ((a1.v.len:Int)-1)):=krY
theorem zkz(n0:Nat)(a1:(Pt (Sl aS)))(v3:Int):Uo E (n0+1) a1 v3=cond (decide (v3>=0)) (aU (decide (0<=v3/\v3<(a1.v.len:Int))) (yT (dA.enc ((v3,(a1.v.get v3.toNat)):Int×aS)) (some []) (Uo E n0 a1 (aJ (v3-1))))) (some []):=krY
end
theorem zUw(E:zbw):Bf aB 251 (ae.unI (zz2 E)):=Ud (NM au.nil (dE krY))
theorem aT{x:Int}(h1 : -9223372036854775808<=x)(h2:x<=9223372036854775807):aJ x=x:=by
 have hb:IntKind.i64.bits=64:=rfl;have hs:IntKind.i64.signed=true:=rfl;unfold aJ IntKind.wrap;rw[hb,hs];simp only[Jv,oD];split<;>omega
theorem bF{i:Nat}(h:i<4611686018427387904):aJ ((i:Int)+1)=((i+1:Nat):Int):=by rw[aT omY omY];omega
theorem Eu{i:Nat}(h:i<4611686018427387904):aJ ((i:Int)-1)=(i:Int)-1:=aT omY omY
section
variable{A ρ:Type}
theorem aX{r:ρ}{k:ρ->Option A}:(ae.ok r).T k=k r:=rfl
theorem bf{p:Prop}[Decidable p]{x:Option A}(h:p):aU (decide p) x=x:=by rw[dP h];rfl
theorem zII{p:Prop}[Decidable p]{x y:Option A}(h:p):cond (decide p) x y=x:=by rw[dP h];rfl
theorem zIJ{p:Prop}[Decidable p]{x y:Option A}(h:¬p):cond (decide p) x y=y:=by rw[dY h];rfl
theorem kc{τ:Type}(f:τ->Option A)(b:Bool)(x y:τ):cond b (f x) (f y)=f (cond b x y):=by cases b<;>rfl
theorem two(Y s:Option A):∃f:Bool->Option A,f true=Y/\f false=s:=⟨λb=>cond b Y s,rfl,rfl⟩
theorem zkA(k:Bool->Option A)(a b:Bool):cond a (k b) (k false)=k (a&&b):=by cases a<;>rfl
end
theorem cZ{p:Nat->Bool}{n:Nat}:dX p n=true↔∀i,i<n->p i=true:=by
 refine⟨λh i hi=>SQ h i hi,λh=>?_⟩
 induction n with|zero=>rfl|succ n ih=>simp only[dX,ih λi hi=>h i omY,h n omY,qjU]
section
variable{A:Type}
theorem zIK{L:Nat→Int→Option A}{p:Nat→Bool}{m:Nat}{fin stop:Option A}(hm:m<4611686018427387904)
    (hL:∀n i,i<m->(∀j,j<i->p j=true)->L (n+1) (i:Int)=cond (p i) (L n (aJ ((i:Int)+1))) stop) (hE:∀n,(∀j,j<m->p j=true)->L (n+1) (m:Int)=fin) :
    ∀n,m<n->L n 0=cond (dX p m) fin stop:=by
  have key:∀(d i n:Nat),i+d=m->d<n->(∀j,j<i->p j=true)->L n (i:Int)=cond (dX p m) fin stop:=by
    intro d
    induction d with
    | zero =>
      intro i n hi hn hp;obtain⟨n,rfl⟩:∃n',n=n'+1:=⟨n-1,omY⟩;have e:i=m:=by omega
      subst e;rw[hE n hp,cZ.2 hp];rfl
    | succ d ih =>
      intro i n hi hn hp;obtain⟨n,rfl⟩:∃n',n=n'+1:=⟨n-1,omY⟩;rw[hL n i omY hp];cases jY:p i with
      | true =>
        rw[dF,bF omY];exact ih (i+1) n omY omY λj hj=>by
          by_cases e:j=i;rw[e];exact jY;exact hp j omY
      | false =>
        have:dX p m=false:=by
          cases e:dX p m with|false=>rfl|true=>rw[cZ.1 e i omY]at jY;cases jY
        rw[this];rfl
  intro n hn;exact key m 0 n omY hn λj hj=>absurd hj omY
theorem loopA{L:Nat→Int→Option A}{p:Nat→Bool}{m:Nat}{fin stop:Option A}(hm:m<4611686018427387904)
    (hL:∀n i,i<m->L (n+1) (i:Int)=cond (p i) (L n (aJ ((i:Int)+1))) stop) (hE:∀n,L (n+1) (m:Int)=fin) :
    ∀n,m<n->L n 0=cond (dX p m) fin stop:=zIK hm (λn i hi _=>hL n i hi) λn _=>hE n
end
theorem N9{p q:Nat->Bool}{n:Nat}(h:∀i,i<n->p i=q i):dX p n=dX q n:=by
 rw[PN,cZ,cZ];exact⟨λg i hi=>by rw[<- h i hi];exact g i hi,λg i hi=>by rw[h i hi];exact g i hi⟩
def inB(x a b:Int):Bool:=decide (a<=x/\x<=b)
abbrev Ew(C:Int×Int×Int->ae Bool):Prop:=∀x a b,C (x,a,b)=.ok (inB x a b)
theorem s73{E:E73}:Ew (F73 E):=λx a b=>ae.ext λk=>by rw[e73,kc k,aX];congr 1;simp only[inB];grind
theorem s86{E:E86}:Ew (F86 E):=λx a b=>ae.ext λk=>by rw[e86,kc k,aX];congr 1;simp only[inB];grind
theorem zUx{E:zql}:Ew (zqm E):=λx a b=>ae.ext λk=>by rw[zT8,kc k,aX];congr 1;simp only[inB];grind
theorem zUy{E:zqs}:Ew (zqu E):=λx a b=>ae.ext λk=>by rw[e161,kc k,aX];congr 1;simp only[inB];grind
abbrev zz3(C:Int->ae Bool):Prop:=∀x,C x=.ok (inB x (-1000000) 1000000)
theorem zUz{E:zqd}(PD:Ew E.vF):zz3 (zqe E):=λx=>ae.ext λk=>by rw[zTU];simp only[PD,aX]
abbrev Big(N:Nat):Prop:=20000000<N
def stB(l:Sl aS)(zkB:Int)(i:Nat):Bool :=
  inB (l.get i).Time 0 1000000&&inB (l.get i).dQ.Low 0 (l.get i).dQ.High&&decide ((l.get i).dQ.High≤aJ (zkB.tdiv 2)) &&
    (decide (i=0)||decide ((l.get (i-1)).Time<(l.get i).Time)&&decide ((l.get (i-1)).dQ.Low<=(l.get i).dQ.Low)&&decide ((l.get (i-1)).dQ.High<=(l.get i).dQ.High))
def sF(l:Sl aS)(zkB:Int):Bool:=dX (stB l zkB) l.len&&inB l.len 1 50
theorem zf1{i n:Nat}(h:i<n)(hn:n<4611686018427387904)(h0:(i:Int)>0):(0<=aJ ((i:Int)-1)/\aJ ((i:Int)-1)<(n:Int))/\(aJ ((i:Int)-1)).toNat=i-1:=by
 rw[Eu omY];omega
abbrev zz4(C:Sl aS×Int->ae Bool):Prop:=∀l p,l.len<=60->C (l,p)=.ok (sF l p)
theorem zUA{E:zfW}(N:Big E.N)(PD:Ew E.vF):zz4 (zqf E):=λl p h=>ae.ext λk=>by
 rw[zTW];refine(loopA (L:=λn v=>Hu E n l p v k) (p:=stB l p) (m:=l.len) (fin:=k (inB l.len 1 50)) (stop:=k false) omY (λn i hi=>?_) (λn=>?_) _ omY).trans ?_;obtain⟨f,h1,h2⟩:=two (Hu E n l p (aJ ((i:Int)+1)) k) (k false);rw[zkp,bf omY,<- h1,<- h2];simp only[PD,aX,fO];by_cases h0:(i:Int)>0;obtain⟨p1,p2⟩:=zf1 hi omY h0;simp only[bf p1,p2,kc f];congr 1;simp only[stB,inB];grind;simp only [dY h0,dL,kc f];congr 1;simp only[stB,inB];grind;rw[zkp];simp only[PD,aX,Wn,VS,dL];exact zkA k _ _
def lfP(p:aj):Int:=aJ (aJ (aJ (p.First-p.aO)-p.dJ)+p.aZ.Low)
def rtP(p:aj):Int:=aJ (aJ (aJ (p.First+aJ (aJ (p.bC+1)*p.aO))+p.dJ)+p.aZ.High)
def VW(p:aj):Prop:=(1<=p.Kind/\p.Kind<=3)/\(1<=p.View/\p.View<=2)/\(0<=p.Z/\p.Z<=100000)/\(-1000000<=p.First/\p.First<=1000000)/\(2<=p.aO/\p.aO<=100000)/\(1<=p.bC/\p.bC<=2000)/\(0<=p.dJ/\p.dJ<=100000) /\
 (-1000000<=p.aZ.Low/\p.aZ.Low<=p.aZ.High/\p.aZ.High<=1000000)/\(-1000000000<=p.Clock.Low/\p.Clock.Low<=p.Clock.High/\p.Clock.High<=1000000000)/\(0<=p.dO/\p.dO<=1000000)/\(0<=p.Least/\p.Least<=1000000)/\-1000000<=lfP p/\rtP p<=1000000
instance(p:aj):Decidable (VW p):=by unfold VW;infer_instance
theorem xy{a b:Int}(ha:0<=a/\a<=10000)(hb:0<=b/\b<=100000):0<=a*b/\a*b<=1000000000 :=
 ⟨qj9 ha.1 hb.1,by have:=Int.mul_le_mul ha.2 hb.2 hb.1 omY;omega⟩
theorem zIL{p:aj}(h1 : -1000000≤p.First∧p.First≤1000000)(h2:2≤p.aO∧p.aO≤100000)(h3:1≤p.bC∧p.bC≤2000)(h4:0≤p.dJ∧p.dJ≤100000)
    (h5 : -1000000<=p.aZ.Low/\p.aZ.Low<=p.aZ.High/\p.aZ.High<=1000000) :
    lfP p=p.First-p.aO-p.dJ+p.aZ.Low/\rtP p=p.First+(p.bC+1)*p.aO+p.dJ+p.aZ.High/\lfP p<rtP p:=by
  obtain⟨q1,q2⟩:=xy (a:=p.bC+1) (b:=p.aO) omY omY;have e1:lfP p=p.First-p.aO-p.dJ+p.aZ.Low:=by
    unfold lfP;rw[aT (x:=p.First-p.aO) omY omY,aT (x:=p.First-p.aO-p.dJ) omY omY,aT omY omY]
  have e2:rtP p=p.First+(p.bC+1)*p.aO+p.dJ+p.aZ.High:=by
    unfold rtP;rw[aT (x:=p.bC+1) omY omY,aT (x:=(p.bC+1)*p.aO) omY omY,aT (x:=p.First+(p.bC+1)*p.aO) omY omY,aT (x:=p.First+(p.bC+1)*p.aO+p.dJ) omY omY,aT omY omY]
  exact⟨e1,e2,omY⟩
def dB(p:aj)(i:Nat):Bool:=inB (p.Dead.get i) 0 (aJ (p.bC-1))&&(decide (i=0)||decide (p.Dead.get (i-1)<p.Dead.get i))
def plB(p:aj):Bool:=decide (VW p)&&cond (p.Kind==2) (sF p.aS p.aO) (decide (p.aS.len=0))&&decide (p.Dead.len<=100)&&dX (dB p) p.Dead.len
def Few(p:aj):Prop:=p.aS.len<=60/\p.Dead.len<=110
abbrev zz5(C:aj->ae Bool):Prop:=∀p,Few p->C p=.ok (plB p)
theorem zUB{E:Uk}(N:Big E.N)(PD:Ew E.vF)(zzE:zz3 E.VB)(zzF:zz4 E.c175):zz5 (zp9 E):=λp h=>ae.ext λk=>by
 have hl:=h.1;have hd:=h.2;have lp:uT E E.N p 0 k=k (dX (dB p) p.Dead.len):=by
  refine(loopA (L:=λn v=>uT E n p v k) (p:=dB p) (m:=p.Dead.len) (fin:=k true) (stop:=k false) omY (λn i hi=>?_) (λn=>?_) _ omY).trans ?_;obtain⟨f,h1,h2⟩:=two (uT E n p (aJ ((i:Int)+1)) k) (k false);rw[zkk,bf omY,<- h1,<- h2];simp only[PD,aX,fO];by_cases h0:(i:Int)>0;obtain⟨p1,p2⟩:=zf1 hi omY h0;simp only[bf p1,bf (show 0<=(i:Int)/\(i:Int)<(p.Dead.len:Int)by omega),p2,kc f];congr 1;simp only[dB];grind;simp only [dY h0,dL,kc f];congr 1;simp only[dB];grind;rw[zkk];simp only[Wn,VS,dL];rw[kc k];congr 1;cases dX (dB p) p.Dead.len<;>rfl
 rw[zTO];simp only[zzB,zzC,zzD,PD,zzE,zzF _ _ hl,aX,lp,kc k];congr 1;have lr:=@zIL p;have e1:aJ (aJ (aJ (p.First-p.aO)-p.dJ)+p.aZ.Low)=lfP p:=rfl;have e2:aJ (aJ (aJ (p.First+aJ (aJ (p.bC+1)*p.aO))+p.dJ)+p.aZ.High)=rtP p:=rfl;simp only[e1,e2,plB,VW,inB];generalize sF p.aS p.aO=A;generalize dX (dB p) p.Dead.len=B
 grind (splits:=60)
def ug(s:ak):Prop:=s.ai.len<=20/\∀i,i<s.ai.len->Few (s.ai.get i)
def seB(s:ak)(i:Nat):Bool:=plB (s.ai.get i)&&(decide (i=0)||decide ((s.ai.get (i-1)).Z<(s.ai.get i).Z))
def fD(s:ak):Bool:=inB s.ai.len 1 16&&dX (seB s) s.ai.len
abbrev QSe(C:ak->ae Bool):Prop:=∀s,ug s->C s=.ok (fD s)
theorem s61{E:E61}(N:Big E.N)(PD:Ew E.vF)(zzx:zz5 E.c124):QSe (F61 E):=λs h=>ae.ext λk=>by
 have hl:=h.1;rw[e61];have lp:NT E E.N s 0 k=k (dX (seB s) s.ai.len):=by
  refine(loopA (L:=λn v=>NT E n s v k) (p:=seB s) (m:=s.ai.len) (fin:=k true) (stop:=k false) omY (λn i hi=>?_) (λn=>?_) _ omY).trans ?_;obtain⟨f,h1,h2⟩:=two (NT E n s (aJ ((i:Int)+1)) k) (k false);rw[zwg,bf omY,<- h1,<- h2];simp only[fO,zzx _ (h.2 i hi),aX];by_cases h0:(i:Int)>0;obtain⟨p1,p2⟩:=zf1 hi omY h0;simp only[bf p1,bf (show 0<=(i:Int)/\(i:Int)<(s.ai.len:Int)by omega),p2,kc f];congr 1;simp only[seB];grind;simp only [dY h0,dL,kc f];congr 1;simp only[seB];grind;rw[zwg];simp only[Wn,VS,dL];rw[kc k];congr 1;cases dX (seB s) s.ai.len<;>rfl
 simp only[PD,aX,lp,kc k];congr 1;simp only[fD];cases inB s.ai.len 1 16<;>rfl
/-! The program. -/
abbrev zqT(C:bW×Int->ae Bool):Prop:=∀x m,0<=m/\m<=1000000000->C (x,m)=.ok (decide (-m<=x.Low/\x.Low<=x.High/\x.High<=m))
theorem zUC{E:zqw}(lX:Ew E.iD):zqT (zqx E):=λx m h=>ae.ext λk=>by
 rw[zUh];simp only[lX,aX,aT (x:=0-m) omY omY,kc k];congr 1;simp only[inB];grind
def shB(p:aj):Bool:=decide ((1<=p.View/\p.View<=2)/\(0<=p.Z/\p.Z<=100000)/\(-1000000<=p.First/\p.First<=1000000)/\(2<=p.aO/\p.aO<=100000)/\(1<=p.bC/\p.bC<=2000)/\(0<=p.dJ/\p.dJ<=100000) /\
 (-1000000<=p.aZ.Low/\p.aZ.Low<=p.aZ.High/\p.aZ.High<=1000000)/\(-1000000000<=p.Clock.Low/\p.Clock.Low<=p.Clock.High/\p.Clock.High<=1000000000)/\(0<=p.dO/\p.dO<=1000000)/\(0<=p.Least/\p.Least<=1000000)/\-1000000<=lfP p/\rtP p<=1000000)
abbrev zz6(C:placed->ae Bool):Prop:=∀p,C p=.ok (shB p.aj)
theorem zUD{E:zqI}(lX:Ew E.iD)(Ya:zqT E.c164):zz6 (zqJ E):=λp=>ae.ext λk=>by
 rw[zUo];simp only[lX,Ya _ _ (show(0:Int)<=1000000/\(1000000:Int)<=1000000000 by omega),Ya _ _ (show(0:Int)<=1000000000/\(1000000000:Int)<=1000000000 by omega),aX,kc k];congr 1;have e1:aJ (aJ (aJ (p.aj.First-p.aj.aO)-p.aj.dJ)+p.aj.aZ.Low)=lfP p.aj:=rfl;have e2:aJ (aJ (aJ (p.aj.First+aJ (aJ (p.aj.bC+1)*p.aj.aO))+p.aj.dJ)+p.aj.aZ.High)=rtP p.aj:=rfl;simp only[e1,e2,shB,inB]
 grind (splits:=60)
abbrev zf3(C:placed->ae Bool):Prop:=∀p,C p=.ok (decide (p.aj.aS.len=0))
theorem zUE{E:zqD}:zf3 (zqE E):=λp=>ae.ext λk=>by
 rw[e232,aX];congr 1;grind
theorem zUF{E:zqG}:zf3 (zqH E):=λp=>ae.ext λk=>by
 rw[e234,aX];congr 1;grind
abbrev zz7(C:placed->ae Bool):Prop:=∀q,Few q.aj->C q=.ok (sF q.aj.aS q.aj.aO)
theorem zUG{E:zf0}(N:Big E.N)(lX:Ew E.iD):zz7 (zqF E):=λq h=>ae.ext λk=>by
 rw[e233];have h':=h.1;refine(loopA (L:=λn v=>Hz E n q v k) (p:=stB q.aj.aS q.aj.aO) (m:=q.aj.aS.len) (fin:=k (inB q.aj.aS.len 1 50)) (stop:=k false) omY (λn i hi=>?_) (λn=>?_) _ omY).trans ?_;obtain⟨f,h1,h2⟩:=two (Hz E n q (aJ ((i:Int)+1)) k) (k false);rw[zkx,bf omY,<- h1,<- h2];simp only[lX,aX,fO];by_cases h0:(i:Int)>0;obtain⟨p1,p2⟩:=zf1 hi omY h0;simp only[bf p1,p2,kc f];congr 1;simp only[stB,inB];grind;simp only [dY h0,dL,kc f];congr 1;simp only[stB,inB];grind;rw[zkx];simp only[lX,aX,Wn,VS,dL];exact zkA k _ _
abbrev zz8(C:placed->ae Bool):Prop:=∀q,Few q.aj->C q=.ok (plB q.aj)
theorem zUH{E:zbt}(N:Big E.N)(lX:Ew E.iD)(zkw:zz6 E.zhl)(zzU:zf3 E.c232)(zzV:zz7 E.c233)(zzW:zf3 E.c234):zz8 (zqy E):=λq h=>ae.ext λk=>by
 have lp:∀q:placed,Few q.aj->xx E E.N q 0 k=k (decide (q.aj.Dead.len<=100)&&dX (dB q.aj) q.aj.Dead.len):=by
  intro q h;have h':=h.2;refine(loopA (L:=λn v=>xx E n q v k) (p:=dB q.aj) (m:=q.aj.Dead.len) (fin:=k (decide (q.aj.Dead.len<=100))) (stop:=k false) omY (λn i hi=>?_) (λn=>?_) _ omY).trans ?_;obtain⟨f,h1,h2⟩:=two (xx E n q (aJ ((i:Int)+1)) k) (k false);rw[zkv,bf omY,<- h1,<- h2];simp only[lX,aX,fO];by_cases h0:(i:Int)>0;obtain⟨p1,p2⟩:=zf1 hi omY h0;simp only[bf p1,p2,kc f];congr 1;simp only[dB];grind;simp only [dY h0,dL,kc f];congr 1;simp only[dB];grind;rw[zkv];simp only[Wn,VS,dL];congr 1;grind;rw[zkA,Bool.and_comm]
 rw[zUj];simp only[lX,aX];have fin:plB q.aj=(inB q.aj.Kind 1 3&&shB q.aj&&cond (q.aj.Kind==2) (sF q.aj.aS q.aj.aO) (decide (q.aj.aS.len=0))&&(decide (q.aj.Dead.len<=100)&&dX (dB q.aj) q.aj.Dead.len)):=by
  simp only[plB,VW,shB,inB];generalize sF q.aj.aS q.aj.aO=A;generalize dX (dB q.aj) q.aj.Dead.len=B
  grind (splits:=60)
 rw[fin];cases hk:inB q.aj.Kind 1 3 with
 | false=>exact zqz _ _ _
 | true =>
  simp only[inB,oD]at hk;have hc:q.aj.Kind=1\/q.aj.Kind=2\/q.aj.Kind=3:=by omega
  obtain⟨⟨kd,vw,z,fi,pi,st,sp,of,cl,ji,le,dr,de⟩,ix⟩:=q;rcases hc with e|e|e<;>simp only at e<;>subst e
  refine(zqA E k ⟨⟨1,vw,z,fi,pi,st,sp,of,cl,ji,le,dr,de⟩,ix⟩).trans ?_;simp only[zkw _,zzU _,aX,lp ⟨⟨1,vw,z,fi,pi,st,sp,of,cl,ji,le,dr,de⟩,ix⟩ h,kc k,knd];congr 1;grind;refine(zqB E k ⟨⟨2,vw,z,fi,pi,st,sp,of,cl,ji,le,dr,de⟩,ix⟩).trans ?_;simp only[zkw _,zzV ⟨⟨2,vw,z,fi,pi,st,sp,of,cl,ji,le,dr,de⟩,ix⟩ h,aX,lp ⟨⟨2,vw,z,fi,pi,st,sp,of,cl,ji,le,dr,de⟩,ix⟩ h,kc k,knd];congr 1;grind;refine(zqC E k ⟨⟨3,vw,z,fi,pi,st,sp,of,cl,ji,le,dr,de⟩,ix⟩).trans ?_;simp only[zkw _,zzW _,aX,lp ⟨⟨3,vw,z,fi,pi,st,sp,of,cl,ji,le,dr,de⟩,ix⟩ h,kc k,knd];congr 1;grind
theorem zUI{E:zfZ}(N:Big E.N)(zzR:zz8 E.c201)(lX:Ew E.iD):QSe (zqv E):=λs h=>ae.ext λk=>by
 rw[e160];have h':=h.1;refine(loopA (L:=λn v=>Hy E n s v k) (p:=seB s) (m:=s.ai.len) (fin:=k (inB s.ai.len 1 16)) (stop:=k false) omY (λn i hi=>?_) (λn=>?_) _ omY).trans ?_;obtain⟨f,h1,h2⟩:=two (Hy E n s (aJ ((i:Int)+1)) k) (k false);rw[zku,bf omY,<- h1,<- h2];simp only[fO,zzR ⟨s.ai.get i,(i:Int)⟩ (h.2 i hi),aX];by_cases h0:(i:Int)>0;obtain⟨p1,p2⟩:=zf1 hi omY h0;simp only[bf p1,p2,kc f];congr 1;simp only[seB];grind;simp only [dY h0,dL,kc f];congr 1;simp only[seB];grind;rw[zku];simp only[lX,aX,Wn,VS,dL];rw[zkA,Bool.and_comm];rfl
abbrev zz9(C:ak->ae Int):Prop:=∀s,ug s->C s=.ok (cond (fD s) 0 2)
theorem zUJ{E:zqj}(CS:QSe E.c160):zz9 (zqk E):=λs h=>ae.ext λk=>by
 rw[zT6];simp only[CS s h,aX,kc k];congr 1;cases fD s<;>rfl
theorem lq{A:Type}{X:Nat->Nat->Option A}{m:Nat}{fin:Option A}(hL:∀n i,i<m->X (n+1) i=X n (i+1))(hE:∀n,X (n+1) m=fin):∀n,m<n->X n 0=fin:=by
 have key:∀d i n,i+d=m->d<n->X n i=fin:=by
  intro d
  induction d with
  | zero =>
   intro i n hi hn;obtain⟨n,rfl⟩:∃n',n=n'+1:=⟨n-1,omY⟩;have e:i=m:=by omega
   subst e;exact hE n
  | succ d ih =>
   intro i n hi hn;obtain⟨n,rfl⟩:∃n',n=n'+1:=⟨n-1,omY⟩;rw[hL n i omY];exact ih (i+1) n omY omY
 intro n hn;exact key m 0 n omY hn
theorem vX{s:ak}(h:fD s=true):1<=s.ai.len/\s.ai.len<=16:=by
 simp only[fD,inB,fQ,oD]at h;omega
theorem Oa{s:ak}(h:fD s=true){i:Nat}(hi:i<s.ai.len):plB (s.ai.get i)=true:=by
 simp only[fD,fQ,cZ]at h;have:=h.2 i hi;simp only[seB,fQ]at this;exact this.1
theorem zIM{p:aj}(h:plB p=true):VW p:=by
 simp only[plB,fQ,oD]at h;exact h.1.1.1
theorem Aw{s:ak}(h:fD s=true){i:Nat}(hi:i<s.ai.len):VW (s.ai.get i):=zIM (Oa h hi)
def knB(p:aj)(h:bz):Bool:=cond (p.Kind==2) (decide (h.kz=1)&&inB h.aS 0 1000000) (cond (p.Kind==3) (decide (h.aS=0)&&decide (h.Time=0)) (decide (h.aS=0)))
def lvB(p:aj)(h:bz):Bool:=dX (λj=>!inB (p.Dead.get j) h.Channel (h.Channel+h.kz-1)) p.Dead.len
def hpB(p:aj)(h:bz):Bool:=inB h.Channel 0 (p.bC-1)&&inB h.kz 1 (p.bC-h.Channel)&&inB h.Di p.Least 1000000&&inB h.Time (-1000000000) 1000000000&&lvB p h&&knB p h
def nG(s:ak)(h:bz):Bool:=decide (0<=h.aj/\h.aj<s.ai.len)&&hpB (s.ai.get h.aj.toNat) h
abbrev zqU(C:aj×Int->ae Bool):Prop:=∀p c,Few p->C (p,c)=.ok (!dX (λj=>!decide (p.Dead.get j=c)) p.Dead.len)
theorem zUK{E:zfU}(N:Big E.N):zqU (zqb E):=λp c h=>ae.ext λk=>by
 have hd:=h.2;rw[e137];refine(loopA (L:=λn v=>NW E n p c v k) (p:=λj=>!decide (p.Dead.get j=c)) (m:=p.Dead.len) (fin:=k false) (stop:=k true) omY (λn i hi=>?_) (λn=>?_) _ omY).trans ?_;obtain⟨f,h1,h2⟩:=two (NW E n p c (aJ ((i:Int)+1)) k) (k true);rw[zkn,bf omY,<- h1,<- h2];simp only[fO,kc f];congr 1;grind;rw[zkn];simp only[Wn,VS,dL];cases dX (λj=>!decide (p.Dead.get j=c)) p.Dead.len<;>rfl
theorem zIO{p:aj}{h:bz}(hm:0<=h.kz):dX (λi=>dX (λj=>!decide (p.Dead.get j=h.Channel+(i:Int))) p.Dead.len) h.kz.toNat=lvB p h:=by
 rw[PN];simp only[lvB,cZ,JS,dqM,inB];constructor;intro h1 j hj h2;have:=h1 (p.Dead.get j-h.Channel).toNat omY j hj;omega;intro h1 i hi j hj h2;exact h1 j hj omY
abbrev zAa(C:ak×bz->ae Bool):Prop:=∀s h,ug s->fD s=true->C (s,h)=.ok (nG s h)
theorem zUL{E:zfV}(N:Big E.N)(PD:Ew E.vF)(zbr:zqU E.Qc):zAa (zqc E):=λs h hs hb=>ae.ext λk=>by
 rw[e143,aX];have hl:=vX hb;simp only[PD,aX,aT (x:=(s.ai.len:Int)-1) omY omY];by_cases hp:0<=h.aj/\h.aj<s.ai.len
 ·have hn := Aw hb (i := h.aj.toNat) omY;have hf:=hs.2 h.aj.toNat omY;have e1:inB h.aj 0 (s.ai.len - 1)=true:=by simp only[inB,oD];omega
  simp only[e1,Qo,dL,bf hp,nG,dP hp,Jv];obtain⟨_,_,_,_,_,Gn,_⟩:=hn;simp only[aT (x:=(s.ai.get h.aj.toNat).bC-1) omY omY,hpB];cases c1:inB h.Channel 0 ((s.ai.get h.aj.toNat).bC-1)with
  | false=>rfl
  | true =>
  simp only[inB,oD]at c1;simp only[Qo,dL,Jv,aT (x:=(s.ai.get h.aj.toNat).bC-h.Channel) omY omY];cases c2:inB h.kz 1 ((s.ai.get h.aj.toNat).bC-h.Channel)with
  | false=>rfl
  | true =>
  simp only[inB,oD]at c2;simp only[Qo,dL,Jv];cases inB h.Di (s.ai.get h.aj.toNat).Least 1000000 with
  | false=>rfl
  | true =>
  cases inB h.Time (-1000000000) 1000000000 with
  | false=>rfl
  | true =>
  simp only[Qo,dL,Jv];refine(loopA (L:=λn v=>Ul E n s h v k) (p:=λi=>dX (λj=>!decide ((s.ai.get h.aj.toNat).Dead.get j=h.Channel+(i:Int))) (s.ai.get h.aj.toNat).Dead.len) (m:=h.kz.toNat) (fin:=k (knB (s.ai.get h.aj.toNat) h)) (stop:=k false) omY (λn i hi=>?_) (λn=>?_) _ omY).trans ?_;rw [zko,dP (show(i:Int)<h.kz by omega),dF,aT (x:=h.Channel+i) omY omY,zbr _ _ hf,aX];cases dX (λj=>!decide ((s.ai.get h.aj.toNat).Dead.get j=h.Channel+(i:Int))) (s.ai.get h.aj.toNat).Dead.len<;>rfl;rw [zko,dY (show ¬((h.kz.toNat:Int)<h.kz)by omega),dL];simp only[PD,aX,kc k];congr 1;simp only[knB,inB];grind;rw[zkA,zIO omY]
 have e1:inB h.aj 0 (s.ai.len-1)=false:=by simp only [inB,dqM];omega
 simp only[e1,qdQ,dF,nG,dY hp,qjs]
def ofP(s:ak)(h:bz):placed:=cond (decide (0<=h.aj/\h.aj<s.ai.len)) ⟨s.ai.get h.aj.toNat,h.aj⟩ ⟨⟨0,0,0,0,0,0,0,⟨0,0⟩,⟨0,0⟩,0,0,⟨0,λ_=>default⟩,⟨0,λ_=>default⟩⟩,0⟩
abbrev zf4(C:ak×bz->ae (placed×Bool)):Prop:=∀s h,ug s->fD s=true->C (s,h)=.ok (ofP s h,nG s h)
theorem zUM{E:zfY}(N:Big E.N)(lX:Ew E.iD):zf4 (zqr E):=λs h hs hb=>ae.ext λk=>by
 rw[zUd,aX];have hl:=vX hb;simp only[lX,aX,aT (x:=(s.ai.len:Int)-1) omY omY];by_cases hp:0<=h.aj/\h.aj<s.ai.len
 ·have hn := Aw hb (i := h.aj.toNat) omY;have hf:=hs.2 h.aj.toNat omY;have e1:inB h.aj 0 (s.ai.len - 1)=true:=by simp only[inB,oD];omega
  simp only[e1,Qo,dL,bf hp,nG,dP hp,Jv,ofP,dF];obtain⟨_,_,_,_,_,Gn,_⟩:=hn;have hd:=hf.2;simp only[aT (x:=(s.ai.get h.aj.toNat).bC-1) omY omY,hpB];cases c1:inB h.Channel 0 ((s.ai.get h.aj.toNat).bC-1)with
  | false=>rfl
  | true =>
  simp only[inB,oD]at c1;simp only[Qo,dL,Jv,aT (x:=(s.ai.get h.aj.toNat).bC-h.Channel) omY omY];cases c2:inB h.kz 1 ((s.ai.get h.aj.toNat).bC-h.Channel)with
  | false=>rfl
  | true =>
  simp only[inB,oD]at c2;simp only[Qo,dL,Jv];cases inB h.Di (s.ai.get h.aj.toNat).Least 1000000 with
  | false=>rfl
  | true =>
  cases c3:inB h.Time (-1000000000) 1000000000 with
  | false=>rfl
  | true =>
  simp only[Qo,dL,Jv];refine(loopA (L:=λn v=>Un E n s h v k) (p:=λj=>!inB ((s.ai.get h.aj.toNat).Dead.get j) h.Channel (h.Channel+h.kz-1)) (m:=(s.ai.get h.aj.toNat).Dead.len) (fin:=k (⟨s.ai.get h.aj.toNat,h.aj⟩,knB (s.ai.get h.aj.toNat) h)) (stop:=k (⟨s.ai.get h.aj.toNat,h.aj⟩,false)) omY (λn i hi=>?_) (λn=>?_) _ omY).trans ?_;rw [zkt,dP (show(i:Int)<_ by omega),dF,bf omY,lX,aX,aT (x:=h.Channel+h.kz) omY omY,aT (x:=h.Channel+h.kz-1) omY omY,fO];cases inB ((s.ai.get h.aj.toNat).Dead.get i) h.Channel (h.Channel+h.kz-1)<;>rfl;rw [zkt];simp only [Wn,VS,dL,lX,aX,kc k];congr 1;simp only[knB,inB]
  grind
  simp only [lvB];cases dX (λj=>!inB ((s.ai.get h.aj.toNat).Dead.get j) h.Channel (h.Channel+h.kz-1)) (s.ai.get h.aj.toNat).Dead.len<;>rfl
 have e1:inB h.aj 0 (s.ai.len-1)=false:=by simp only [inB,dqM];omega
 simp only[e1,qdQ,dF,nG,dY hp,qjs,ofP,dL]
abbrev zqV(C:ak×bz->ae Bool):Prop:=∀s h,ug s->C (s,h)=.ok (fD s&&nG s h)
theorem zUN{E:zqK}(CS:QSe E.c160)(Bq:zf4 E.uZ):zqV (zqL E):=λs h hs=>ae.ext λk=>by
 rw[zUq,CS s hs,aX,aX];cases hb:fD s with|false=>rfl|true=>simp only[Qo,dL,Bq s h hs hb,aX,Jv]
abbrev zAb(C:ak×bz->ae Int):Prop:=∀s h,ug s->C (s,h)=.ok (cond (fD s&&nG s h) 0 2)
theorem zUO{E:zqn}(zbs:zqV E.VC):zAb (zqo E):=λs h hs=>ae.ext λk=>by
 rw[e138,zbs s h hs,aX,aX];cases fD s&&nG s h<;>rfl
def vY(l:Sl aS)(t:Int):Nat→Int|0=>0|n+1=>cond (decide ((l.get n).Time<=t)) (l.get n).dQ.Low (vY l t n)
def zH(l:Sl aS)(t z:Int):Nat→Int|0=>z|d+1=>cond (decide ((l.get (l.len-1-d)).Time>=t)) (l.get (l.len-1-d)).dQ.High (zH l t z d)
def uU(p:aj)(t:Int):Int×Int:=(vY p.aS (aJ (t-p.dO)) p.aS.len,zH p.aS (aJ (t+p.dO)) (aJ (p.aO.tdiv 2)) p.aS.len)
abbrev zAc(C:aj×Int->ae (Int×Int)):Prop:=∀p t,Few p->C (p,t)=.ok (uU p t)
theorem zUP{E:zbq}(N:Big E.N):zAc (zqa E):=λp t h=>ae.ext λk=>by
 have hd:=h.1;rw[zTQ,aX];refine lq (X:=λn i=>NU E n p t (vY p.aS (aJ (t-p.dO)) i) (aJ (p.aO.tdiv 2)) (i:Int) k) (m:=p.aS.len) (λn i hi=>?_) (λn=>?_) _ omY;rw [zkl,dP (show(i:Int)<_ by omega),dF,bf omY,bf omY,bF omY,fO];simp only[vY];cases decide ((p.aS.get i).Time<=aJ (t-p.dO))<;>rfl;rw [zkl];simp only [Wn,VS,dL];rw[show aJ ((p.aS.len:Int)-1)=aJ ((p.aS.len:Int)-1)-((0:Nat):Int)by simp];refine lq (X:=λn i=>NV E n p t (vY p.aS (aJ (t-p.dO)) p.aS.len) (zH p.aS (aJ (t+p.dO)) (aJ (p.aO.tdiv 2)) i) (aJ ((p.aS.len:Int)-1)-(i:Int)) k) (m:=p.aS.len) (λn i hi=>?_) (λn=>?_) _ omY;rw [Eu omY,zkm,dP (show(p.aS.len:Int)-1-i≥0 by omega),dF,bf omY,bf omY,aT (x:=(p.aS.len:Int)-1-i-1) omY omY,show((p.aS.len:Int)-1-i).toNat=p.aS.len-1-i by omega];simp only[zH];cases decide ((p.aS.get (p.aS.len-1-i)).Time>=aJ (t+p.dO))<;>simp only[dF,dL]<;>congr 1<;>omega;rw[Eu omY,zkm,dY omY,dL];rfl
def bk(l:Sl aS):Nat→List (Int×aS)|0=>[]|n+1=>((n:Int),l.get n)::bk l n
theorem Ey{δ ε:Type}[dA δ][dA ε]{R:List PA→YO}{x:δ}{l:List ε}(h:R (dA.enc x)=some (l.map dA.enc))(hc:∀y:ε,dA.ck (α:=ε) (dA.enc y)=true)(hd:∀y:ε,dA.dec (dA.enc y)=y) :
  (ae.tyI (λc=>.opt (R c)) x:ae (List ε))=.ok l:=by
 refine ae.ext λk=>?_;show(ae.opt (R (dA.enc x))).T _=_;rw[h];show(ae.chk ((l.map dA.enc).all (dA.ck (α:=ε))) (ae.ok ((l.map dA.enc).map dA.dec))).T k=k l;rw[show(l.map dA.enc).all (dA.ck (α:=ε))=true by simp[hc],show(l.map dA.enc).map dA.dec=l by rw[qdF];exact(qdo λy _=>hd y).trans (qjC l)];rfl
abbrev zAd(I:Pt (Sl aS)->ae (List (Int×aS))):Prop:=∀l,l.v.len<=60->I l=.ok (bk l.v l.v.len)
theorem zUQ{E:zbw}(N:Big E.N):zAd (zz2 E):=λl h=>by
 refine Ey ?_ (λ_=>rfl) (λ_=>rfl);rw[e251];have key:∀d n,d<=l.v.len->d<n->Uo E n l ((d:Int)-1)=some ((bk l.v d).map dA.enc):=by
  intro d
  induction d with
  | zero =>
   intro n _ hn;obtain⟨n,rfl⟩:∃n',n=n'+1:=⟨n-1,omY⟩;rw[zkz,dY omY];rfl
  | succ d ih =>
   intro n hd hn;obtain⟨n,rfl⟩:∃n',n=n'+1:=⟨n-1,omY⟩;rw[zkz,dP omY,dF,bf omY,show((d+1:Nat):Int)-1=(d:Int)by omega,Eu omY,ih n omY omY,fO];rfl
 rw[Eu omY];exact key _ _ (jP _) omY
abbrev zAe(C:placed×Int->ae (Int×Int)):Prop:=∀q t,Few q.aj->C (q,t)=.ok (uU q.aj t)
theorem zUR{E:zbv}(N:Big E.N)(zUS:zAd E.zvf):zAe (zqQ E):=λq t h=>ae.ext λk=>by
 have hd:=h.1;rw[e224,aX];refine lq (X:=λn i=>N8 E n q t (vY q.aj.aS (aJ (t-q.aj.dO)) i) (i:Int) (aJ (q.aj.aO.tdiv 2)) k) (m:=q.aj.aS.len) (λn i hi=>?_) (λn=>?_) _ omY;rw [zky,dP (show(i:Int)<_ by omega),dF,bf omY,bF omY,fO];simp only[vY];cases decide ((q.aj.aS.get i).Time<=aJ (t-q.aj.dO))<;>rfl;rw [zky];simp only [Wn,VS,dL];rw[zUS _ hd,aX];have key:∀d,d<=q.aj.aS.len->HY E (bk q.aj.aS d) q t (vY q.aj.aS (aJ (t-q.aj.dO)) q.aj.aS.len) (zH q.aj.aS (aJ (t+q.aj.dO)) (aJ (q.aj.aO.tdiv 2)) (q.aj.aS.len-d)) k=k (uU q.aj t):=by
  intro d
  induction d with
  | zero=>intro _;rw[bk,zqR];rfl
  | succ d ih =>
   intro hi;rw[bk,zz1];have e:q.aj.aS.len-d=(q.aj.aS.len-(d+1))+1:=by omega
   have ih:=ih omY;rw[e]at ih;simp only[zH,show q.aj.aS.len-1-(q.aj.aS.len-(d+1))=d by omega]at ih;revert ih;cases decide ((q.aj.aS.get d).Time>=aJ (t+q.aj.dO))<;>exact id
 have:=key q.aj.aS.len (jP _);rwa[Nat.sub_self]at this
def gate(p:aj)(a b:Int):ay:=⟨p.Z,aJ (a+p.aZ.Low),aJ (b+p.aZ.High)⟩
def gaP(p:aj)(h:bz):Sl ay :=
  cond (p.Kind != 2)
    (cond (decide (aJ (aJ (p.First + aJ (aJ (aJ (h.Channel + h.kz) - 1) * p.aO)) - p.dJ) > aJ (aJ (p.First + aJ (aJ (h.Channel + 1) * p.aO)) + p.dJ))) ⟨0, fun _ => default⟩
      ⟨1,λ_=>gate p (aJ (aJ (p.First+aJ (aJ (aJ (h.Channel+h.kz)-1)*p.aO))-p.dJ)) (aJ (aJ (p.First+aJ (aJ (h.Channel+1)*p.aO))+p.dJ))⟩)
    (cond (decide ((gate p (aJ (aJ (p.First+aJ (h.Channel*p.aO))-(uU p h.aS).2)) (aJ (aJ (p.First+aJ (h.Channel*p.aO))-(uU p h.aS).1))).High≥(gate p (aJ (aJ (p.First+aJ (h.Channel*p.aO))+(uU p h.aS).1)) (aJ (aJ (p.First+aJ (h.Channel*p.aO))+(uU p h.aS).2))).Low))
      ⟨1,λ_=>⟨p.Z,(gate p (aJ (aJ (p.First+aJ (h.Channel*p.aO))-(uU p h.aS).2)) (aJ (aJ (p.First+aJ (h.Channel*p.aO))-(uU p h.aS).1))).Low,(gate p (aJ (aJ (p.First+aJ (h.Channel*p.aO))+(uU p h.aS).1)) (aJ (aJ (p.First+aJ (h.Channel*p.aO))+(uU p h.aS).2))).High⟩⟩
      ⟨2,X5 [gate p (aJ (aJ (p.First+aJ (h.Channel*p.aO))-(uU p h.aS).2)) (aJ (aJ (p.First+aJ (h.Channel*p.aO))-(uU p h.aS).1)),gate p (aJ (aJ (p.First+aJ (h.Channel*p.aO))+(uU p h.aS).1)) (aJ (aJ (p.First+aJ (h.Channel*p.aO))+(uU p h.aS).2))]⟩)
theorem zqW(p:aj)(h:bz):(gaP p h).len<=2:=by
 have key:∀(a b c:Bool)(x y z w:Sl ay),x.len<=2->y.len<=2->z.len<=2->w.len<=2->(cond a (cond b x y) (cond c z w)).len<=2:=by
  intro a b c x y z w h1 h2 h3 h4;cases a<;>cases b<;>cases c<;>assumption
 exact key _ _ _ _ _ _ _ (Ad _) (by simp) (by simp) (by simp)
abbrev zAf(C:placed×Int×Int->ae ay):Prop:=∀q a b,C (q,a,b)=.ok (gate q.aj a b)
theorem zUT{E:zqO}:zAf (zqP E):=λq a b=>ae.ext λk=>e223 E k q a b
abbrev zAg(C:placed×bz->ae (Sl ay)):Prop:=∀q h,Few q.aj->C (q,h)=.ok (gaP q.aj h)
theorem zUU{E:zqM}(zzX:zAf E.zhk)(zzY:zAe E.zu8):zAg (zqN E):=λq h hf=>ae.ext λk=>by
 rw[e189,aX];simp only[zzX,zzY _ _ hf,aX,kc k];rfl
def Bh(s:ak)(h:bz):Sl ay:=gaP (s.ai.get h.aj.toNat) h
abbrev Q75(C:ak×bz->ae (Sl ay)):Prop:=∀s h,ug s->0<=h.aj/\h.aj<(s.ai.len:Int)->C (s,h)=.ok (Bh s h)
theorem s75{E:E75}(zzz:zAc E.zuQ):Q75 (F75 E):=λs h hs hp=>ae.ext λk=>by
 rw[e75,aX,bf hp];simp only[zzz _ _ (hs.2 h.aj.toNat omY),aX,kc k];rfl
theorem Ob{s:ak}{h:bz}(hh:nG s h=true):0<=h.aj/\h.aj<s.ai.len:=by
 simp only[nG,fQ,oD]at hh;exact hh.1
theorem zkE{s:ak}{h:bz}(hh:nG s h=true):ofP s h=⟨s.ai.get h.aj.toNat,h.aj⟩:=by
 unfold ofP;rw[dP (Ob hh)];rfl
abbrev zAh(C:ak×bz->ae (Sl ay×Int)):Prop:=∀s h,ug s->C (s,h)=.ok (cond (fD s&&nG s h) (cond (((Bh s h).len:Int)==0) (⟨0,λ_=>default⟩,5) (Bh s h,0)) (⟨0,λ_=>default⟩,2))
theorem zUV{E:zqp}(zbs:zqV E.VC)(Bq:zf4 E.uZ)(zzQ:zAg E.zuZ):zAh (zqq E):=λs h hs=>ae.ext λk=>by
 rw[zUb,zbs s h hs,aX,aX];cases hb:fD s&&nG s h with
 | false=>rfl
 | true =>
  rw[fQ]at hb;have hp:=Ob hb.2;simp only[Qo,dL,Bq s h hs hb.1,aX,zkE hb.2,zzQ ⟨s.ai.get h.aj.toNat,h.aj⟩ h (hs.2 _ omY),kc k];rfl
def uV(r:bQ):Bool:=inB r.yI 1 16&&inB r.Dj 0 16
abbrev Q62(C:bQ->ae Bool):Prop:=∀r,C r=.ok (uV r)
theorem s62{E:E62}(h86:Ew E.c86):Q62 (F62 E):=λr=>ae.ext λk=>by
 rw[e62];simp only[h86,aX,kc k];congr 1;simp only[uV];cases inB r.yI 1 16<;>rfl
def VN(x:Int):Bool:=decide (x=1\/x=2)
abbrev QVw(C:Int->ae Bool):Prop:=∀x,C x=.ok (VN x)
theorem s34{E:E34}:QVw (F34 E):=λx=>ae.ext λk=>by rw[e34,kc k,aX];congr 1;simp only[VN];grind
theorem s96{E:E96}:QVw (F96 E):=λx=>ae.ext λk=>by rw[e96,kc k,aX];congr 1;simp only[VN];grind
abbrev Q60(C:ak×bQ->ae Int):Prop:=∀s r,ug s->C (s,r)=.ok (cond (fD s&&uV r) 0 2)
theorem s60{E:E60}(zEt:zz9 E.zuN)(zzw:Ew E.znN):Q60 (F60 E):=λs r h=>ae.ext λk=>by
 rw[e60];simp only[zEt s h,zzw,aX,kc k,uV];congr 1;cases fD s<;>cases inB r.yI 1 16<;>cases inB r.Dj 0 16<;>rfl
def Ez(s:ak)(l:Sl bz):Bool:=dX (λi=>nG s (l.get i)) l.len
abbrev Q85(C:ak×Sl bz->ae Bool):Prop:=∀s l,ug s->fD s=true->l.len<=40->C (s,l)=.ok (Ez s l)
theorem s85{E:E85}(N:Big E.N)(zzA:zAa E.c143):Q85 (F85 E):=λs l hs hb hl=>ae.ext λk=>by
 rw[e85];refine(loopA (L:=λn v=>zdH E n s l v k) (p:=λi=>nG s (l.get i)) (m:=l.len) (fin:=k true) (stop:=k false) omY (λn i hi=>?_) (λn=>?_) _ omY).trans ?_;rw [zwk,dP (show(i:Int)<_ by omega),dF,bf omY,fO,zzA _ _ hs hb,aX];cases nG s (l.get i)<;>rfl;rw[zwk];simp only[Wn,VS,dL];rw[aX];simp only[Ez];cases dX (λi=>nG s (l.get i)) l.len<;>rfl
def gw{α:Type}[bD α](z f:Nat→α):Nat→Sl α|0=>⟨0,z⟩|n+1=>⟨n+1,iR n (gw z f n).get λ_=>f n⟩
theorem Oc{α:Type}[bD α](z f:Nat->α)(n:Nat):(gw z f n).len=n:=by cases n<;>rfl
theorem Ur{α:Type}[bD α][tZ α]{z f:Nat→α}:∀{n i:Nat},i<n→(gw z f n).get i=f i
  | n+1,i,h=>by
    show iR n (gw z f n).get (λ_=>f n) i=f i;rw[jA];by_cases hi:n<=i;rw[eU hi,show i=n by omega];rw[eY hi];exact Ur omY
theorem zqX{n b:Nat}(hn:n<=1000000)(hb:b<=1000):room n b=true:=by
 refine dP ⟨?_,omY⟩;have:=jqJ hn hb;omega
theorem ja{A:Type}{n b:Nat}{x:Option A}(hn:n<=1000000)(hb:b<=1000):aU (room n b) x=x:=by rw[zqX hn hb];rfl
theorem zqY{p:aj}{h:bz}:(gaP p h).len=0->gaP p h=⟨0,λ_=>default⟩:=by
 have key:∀(a b c:Bool)(y z w:Sl ay),0<y.len->0<z.len->0<w.len->(cond a (cond b (⟨0,λ_=>default⟩:Sl ay) y) (cond c z w)).len=0->cond a (cond b (⟨0,λ_=>default⟩:Sl ay) y) (cond c z w)=⟨0,λ_=>default⟩:=by
  intro a b c y z w h2 h3 h4 h;cases a<;>cases b<;>cases c<;>simp only[dF,dL]at h ⊢ <;> omega
 exact key _ _ _ _ _ _ (by simp) (by simp) (by simp)
def z0:Nat->ay:=λ_=>⟨0,0,0⟩
def evG(s:ak)(l:Sl bz):Sl (Sl ay):=gw (λ_=>⟨0,z0⟩) (λi=>Bh s (l.get i)) l.len
theorem zdK(s:ak)(l:Sl bz):(evG s l).len=l.len:=Oc _ _ _
theorem Us{s:ak}{l:Sl bz}{i:Nat}(h:i<l.len):(evG s l).get i=Bh s (l.get i):=Ur h
def jf(s:ak)(r:bQ)(l:Sl bz):Pt aW:=⟨⟨s,l,evG s l,r⟩⟩
def lJ(s:ak)(r:bQ)(l:Sl bz):Int:=cond (decide (l.len>24)) 3 (cond (fD s&&uV r&&Ez s l) 0 2)
def opn(s:ak)(r:bQ)(l:Sl bz):Int ⊕ (Pt aW×Int):=cond (lJ s r l==0) (.inr (jf s r l,0)) (.inl (lJ s r l))
abbrev Q78(C:ak×bQ×Sl bz->ae (Int ⊕ (Pt aW×Int))):Prop:=∀s r l,ug s->l.len<=40->C (s,r,l)=.ok (opn s r l)
theorem s78{E:E78}(N:Big E.N)(h60:Q60 E.c60)(zzJ:zAb E.c138)(zzK:zAh E.c139):Q78 (F78 E):=λs r l hs hl=>ae.ext λk=>by
 rw[e78,aX];by_cases vz:(l.len:Int)>24;rw [dP vz];have:lJ s r l=3:=by unfold lJ;rw[dP (show l.len>24 by omega)];rfl
 simp only[opn,this];rfl
 ·rw [dY vz, dL, h60 s r hs, aX];have e1:lJ s r l=cond (fD s && uV r && Ez s l) 0 2:=by unfold lJ;rw[dY (show ¬ l.len > 24 by omega)];rfl
  cases hb:fD s&&uV r with
  | false =>
   have:lJ s r l=2:=by rw[e1,hb];rfl
   simp only[opn,this];rfl
  | true =>
   have hsb:=(fQ _ _▸hb).1;refine(loopA (L:=λn v=>X7 E n s r l v (gw (λ_=>⟨0,z0⟩) (λi=>Bh s (l.get i)) v.toNat) k) (p:=λi=>nG s (l.get i)) (m:=l.len) (fin:=k (.inr (jf s r l,0))) (stop:=k (.inl 2)) omY (λn i hi=>?_) (λn=>?_) _ omY).trans ?_
   ·rw [zwm,dP (show(i:Int)<_ by omega),dF,bf omY,fO,zzJ _ _ hs,aX,hsb,Jv];cases hh:nG s (l.get i)with
    | false=>rfl
    | true =>
     rw[zzK _ _ hs,aX,hsb,hh];have e2:X8 E n s r l (Bh s (l.get i)) (i:Int) (gw (λ_=>⟨0,z0⟩) (λi=>Bh s (l.get i)) i) k=X7 E n s r l (aJ ((i:Int)+1)) (gw (λ_=>⟨0,z0⟩) (λi=>Bh s (l.get i)) (aJ ((i:Int)+1)).toNat) k:=by
      rw[zIv,Oc,ja omY omY,bF omY,fO];rfl
     by_cases h0:(Bh s (l.get i)).len=0;have e3:((Bh s (l.get i)).len:Int)==0:=by rw [h0];rfl
     simp only[e3,qjU,dF];show X8 E n s r l ⟨0,λ_=>default⟩ _ _ k=_;rw[<- zqY (p:=s.ai.get (l.get i).aj.toNat) (h:=l.get i) h0];exact e2;have e3:(((Bh s (l.get i)).len:Int)==0)=false:=by rw [qdU];omega
     simp only[e3,qjU,dF,dL];exact e2
   rw[zwm];simp only[Wn,VS,dL,fO];rfl;have:lJ s r l=cond (Ez s l) 0 2:=by rw [e1,hb];rfl
   simp only[opn,this,Ez];cases dX (λi=>nG s (l.get i)) l.len<;>rfl
def usB(l:Sl bz)(w:Sl Int)(n:Nat)(p:Int):Bool:=dX (λj=>!decide ((l.get (w.get j).toNat).aj=p)) n
abbrev Q87(C:Sl bz×Sl Int×Int->ae Bool):Prop:=∀l w p,w.len<=100->(∀j,j<w.len->0<=w.get j/\w.get j<l.len)->C (l,w,p)=.ok (!usB l w w.len p)
theorem s87{E:E87}(N:Big E.N):Q87 (F87 E):=λl w p hw hv=>ae.ext λk=>by
 rw[e87,aX];refine(loopA (L:=λn v=>zdI E n l w p v k) (p:=λj=>!decide ((l.get (w.get j).toNat).aj=p)) (m:=w.len) (fin:=k false) (stop:=k true) omY (λn i hi=>?_) (λn=>?_) _ omY).trans ?_;have:=hv i hi;rw[zwl,dP (show(i:Int)<_ by omega),dF,bf omY,fO,bf omY];show cond ((l.get (w.get i).toNat).aj==p) _ _=cond (!((l.get (w.get i).toNat).aj==p)) _ _;cases(l.get (w.get i).toNat).aj==p<;>rfl;rw[zwl];simp only[Wn,VS,dL];simp only[usB];cases dX (λj=>!decide ((l.get (w.get j).toNat).aj=p)) w.len<;>rfl
def hiA(l:Sl bz)(t:af)(i:Nat):bz:=l.get (t.Hits.get i).toNat
def chP(s:ak)(l:Sl bz)(t:af)(i:Nat):Bool :=
 inB (t.Hits.get i) 0 ((l.len:Int)-1)&&(decide (i=0)||decide (t.Hits.get (i-1)<t.Hits.get i))&&decide ((s.ai.get (hiA l t i).aj.toNat).View=t.View)&&inB (t.bu.get i) 0 (((Bh s (hiA l t i)).len:Int)-1)&&usB l t.Hits i (hiA l t i).aj
def zf5(s:ak)(l:Sl bz)(t:af):Bool:=VN t.View&&decide (0<t.Hits.len)&&decide (t.bu.len=t.Hits.len)&&dX (chP s l t) t.Hits.len
structure Evt (s : ak) (l : Sl bz) : Prop where
  sh:ug s
  se:fD s=true
  hi:Ez s l=true
  le:l.len<=40
theorem Evt.pl{s:ak}{l:Sl bz}(h:Evt s l){i:Nat}(hi:i<l.len):0<=(l.get i).aj/\(l.get i).aj<s.ai.len:=Ob (cZ.1 h.hi i hi)
theorem zbx{s:ak}{l:Sl bz}{t:af}{i:Nat}(h:chP s l t i=true):0<=t.Hits.get i/\t.Hits.get i<l.len:=by
 simp only[chP,fQ,inB,oD]at h;omega
theorem Yb{s:ak}{l:Sl bz}{t:af}{i:Nat}(h:chP s l t i=true):0<=t.bu.get i/\t.bu.get i<(Bh s (hiA l t i)).len:=by
 simp only[chP,fQ,inB,oD]at h;omega
/-! The program. -/
abbrev zAk(C:Pt aW×Int->ae Int):Prop:=∀s l r i,Evt s l->0<=i/\i<(l.len:Int)->C (jf s r l,i)=.ok (s.ai.get (l.get i.toNat).aj.toNat).View
theorem zUZ{E:zqh}:zAk (zqi E):=λs l r i he hi=>ae.ext λk=>by
 have hp:=he.pl (i:=i.toNat) omY;exact(zT4 E k _ _).trans ((bf (p:=0<=i/\i<(l.len:Int)) hi).trans (bf (p:=0<=(l.get i.toNat).aj/\(l.get i.toNat).aj<(s.ai.len:Int)) hp))
theorem Oe{α:Type}[bD α]{z f g:Nat→α}:∀{n:Nat},(∀i,i<n→f i=g i)→gw z f n=gw z g n|0,_=>rfl|n+1,h=>by simp only[gw,Oe (n:=n) λi hi=>h i omY,h n omY]
def gtS(s:ak)(l:Sl bz)(t:af):Sl ay:=gw z0 (λi=>(Bh s (hiA l t i)).get (t.bu.get i).toNat) t.Hits.len
theorem zkF{s:ak}{l:Sl bz}{t:af}(h:zf5 s l t=true):t.bu.len=t.Hits.len/\∀i,i<t.Hits.len->chP s l t i=true:=by
 simp only[zf5,fQ,oD,cZ]at h;exact⟨h.1.2,h.2⟩
abbrev Q65(C:ak×Sl bz×af->ae (Sl ay)):Prop:=∀s l t,Evt s l->t.Hits.len<=30->zf5 s l t=true->C (s,l,t)=.ok (gtS s l t)
theorem s65{E:E65}(N:Big E.N)(h75:Q75 E.c75):Q65 (F65 E):=λs l t he ht hc=>ae.ext λk=>by
 obtain⟨h1,h2⟩:=zkF hc;rw[e65,aX];refine lq (X:=λn i=>zdG E n s l t (i:Int) (gw z0 (λi=>(Bh s (hiA l t i)).get (t.bu.get i).toNat) i) k) (m:=t.Hits.len) (λn i hi=>?_) (λn=>?_) _ omY;have a1:=zbx (h2 i hi);have a2:0<=t.bu.get i/\t.bu.get i<((Bh s (l.get (t.Hits.get i).toNat)).len:Int):=Yb (h2 i hi);have VG:=he.pl (i:=(t.Hits.get i).toNat) omY;rw[zwj,dP (show(i:Int)<_ by omega),dF,bf omY,fO,bf omY,h75 _ _ he.sh VG,aX,bf omY,bf a2,Oc,ja omY omY,bF omY];rfl;rw[zwj];simp only[Wn,VS,dL];rfl
abbrev zqZ(C:Pt aW×af->ae (Sl ay)):Prop:=∀s l r t,Evt s l->t.Hits.len<=2100->zf5 s l t=true->C (jf s r l,t)=.ok (gtS s l t)
theorem zU0{E:zfX}(N:Big E.N):zqZ (zqg E):=λs l r t he ht hc=>ae.ext λk=>by
 obtain⟨h1,h2⟩:=zkF hc;have e:gtS s l t=gw z0 (λi=>((evG s l).get (t.Hits.get i).toNat).get (t.bu.get i).toNat) t.Hits.len:=Oe λi hi=>by
  have a1:=zbx (h2 i hi);rw[Us omY];rfl
 rw[zT0,aX,e];refine lq (X:=λn i=>Um E n (jf s r l) t (i:Int) (gw z0 (λi=>((evG s l).get (t.Hits.get i).toNat).get (t.bu.get i).toNat) i) k) (m:=t.Hits.len) (λn i hi=>?_) (λn=>?_) _ omY;have a1:=zbx (h2 i hi);have a2:=Yb (h2 i hi);have a3:0<=t.Hits.get i/\t.Hits.get i<((jf s r l).v.oq.len:Int):=by show _/\t.Hits.get i<((evG s l).len:Int);rw[zdK];omega
 have a4:0<=t.bu.get i/\t.bu.get i<(((jf s r l).v.oq.get (t.Hits.get i).toNat).len:Int):=by
  show _/\t.bu.get i<(((evG s l).get (t.Hits.get i).toNat).len:Int);rw[Us omY];exact a2
 rw[zkq,dP (show(i:Int)<_ by omega),dF,bf omY,fO,bf a3,bf omY,bf a4,Oc,ja omY omY,bF omY];rfl;rw[zkq];simp only[Wn,VS,dL]
abbrev Q26(C:ak×bQ×Sl bz->ae Int):Prop:=∀s r l,ug s->l.len<=40->C (s,r,l)=.ok (lJ s r l)
theorem s26{E:E26}(h61:QSe E.c61)(h62:Q62 E.c62)(h85:Q85 E.c85):Q26 (F26 E):=λs r l hs hl=>ae.ext λk=>by
 rw[e26,aX];by_cases vz:(l.len:Int)>24;rw[dP vz];simp only[lJ,dP (show l.len>24 by omega),dF]
 ·rw [dY vz,dL,h61 s hs,aX];simp only[lJ,dY (show ¬l.len>24 by omega),dL,h62,aX];cases hb:fD s with
  | false=>rfl
  | true =>
   cases uV r with
   | false=>rfl
   | true =>
    simp only[h85 s l hs hb hl,aX];cases Ez s l<;>rfl
theorem Iz{s:ak}{r:bQ}{l:Sl bz}(hs:ug s)(h:lJ s r l=0):Evt s l/\uV r=true/\l.len<=24:=by
 unfold lJ at h;by_cases vz:l.len>24;rw[dP vz]at h;cases h
 ·rw [dY vz,dL]at h;cases e:fD s&&uV r&&Ez s l with
  | false=>rw[e]at h;cases h
  | true =>
   simp only[fQ]at e;exact⟨⟨hs,e.1.1,e.2,omY⟩,e.1.2,omY⟩
def zf6(s:ak)(l:Sl bz)(m:Int):Bool:=decide (s.ai.len<=20)&&(decide ((l.len:Int)<=m)||decide (l.len>24))&&decide (l.len<=40)&&dX (λi=>decide ((s.ai.get i).aS.len<=60/\(s.ai.get i).Dead.len<=110)) s.ai.len
abbrev Q23(C:ak×Sl bz×Int->ae Bool):Prop:=∀s l m,C (s,l,m)=.ok (zf6 s l m)
theorem s23{E:E23}(N:Big E.N):Q23 (F23 E):=λs l m=>ae.ext λk=>by
 rw[e23,aX];by_cases h20:(s.ai.len:Int)>20;rw[dP h20];simp only[zf6,dY (show ¬s.ai.len<=20 by omega),qjs,dF];have lp:NS E E.N s 0 k=k (dX (λi=>decide ((s.ai.get i).aS.len<=60/\(s.ai.get i).Dead.len<=110)) s.ai.len):=by
  refine(loopA (L:=λn v=>NS E n s v k) (p:=λi=>decide ((s.ai.get i).aS.len<=60/\(s.ai.get i).Dead.len<=110)) (m:=s.ai.len) (fin:=k true) (stop:=k false) omY (λn i hi=>?_) (λn=>?_) _ omY).trans ?_;rw [zwf,dP (show(i:Int)<_ by omega),dF,bf omY,bf omY,fO];obtain⟨f,h1,h2⟩:=two (NS E n s (aJ ((i:Int)+1)) k) (k false);rw[<- h1,<- h2,kc f,kc f,kc f];congr 1;grind;rw[zwf];simp only[Wn,VS,dL];cases dX (λi=>decide ((s.ai.get i).aS.len<=60/\(s.ai.get i).Dead.len<=110)) s.ai.len<;>rfl
 rw[dY h20,dL,lp];simp only[kc k,zf6];congr 1;generalize dX (λi=>decide ((s.ai.get i).aS.len<=60/\(s.ai.get i).Dead.len<=110)) s.ai.len=B
 grind
theorem zAl{s:ak}{l:Sl bz}{m:Int}(h:zf6 s l m=true):ug s/\l.len<=40/\((l.len:Int)<=m\/24<l.len):=by
 simp only[zf6,fQ,oD,V8,cZ]at h;exact⟨⟨h.1.1.1,λi hi=>h.2 i hi⟩,h.1.2,h.1.1.2⟩
def Bi(s:ak)(l:Sl bz)(i:Nat):Nat:=(Bh s (l.get i)).len
theorem Kv(s:ak)(l:Sl bz)(i:Nat):Bi s l i<=2:=zqW _ _
def VX(s:ak)(l:Sl bz)(i:Nat):Int:=(s.ai.get (l.get i).aj.toNat).View
def sdK(i:Int):Nat→Nat→List (Int×Int)|0,_=>[]|d+1,k=>(i,(k:Int))::sdK i d (k+1)
def sdL(s:ak)(l:Sl bz)(x:Int):Nat→Nat→List (Int×Int)|0,_=>[]|d+1,i=>cond (VX s l i==x) (sdK i (Bi s l i) 0) []++sdL s l x d (i+1)
abbrev zAm(I:Pt Int×Pt (Pt aW)×Pt Int->ae (List (Int×Int))):Prop:=∀s l r x (fr:Nat),Evt s l->fr<=l.len->I (⟨fr⟩,⟨jf s r l⟩,⟨x⟩)=.ok (sdL s l x (l.len-fr) fr)
theorem zU3{E:X9}(N:Big E.N)(zzO:zAk E.znO):zAm (zzN E):=λs l r x fr he hfr=>by
 refine Ey ?_ (λ_=>rfl) (λ_=>rfl);refine(zT2 E _ _ _).trans ?_;have hl:=he.le;have key:∀d n (i:Nat),i+d=l.len->d<n->NY E n ⟨jf s r l⟩ ⟨x⟩ (i:Int)=some ((sdL s l x d i).map dA.enc):=by
  intro d
  induction d with
  | zero =>
   intro n i hi hn;obtain⟨n,rfl⟩:∃n',n=n'+1:=⟨n-1,omY⟩;exact(zkr E n _ _ _).trans (zIJ (p:=(i:Int)<(l.len:Int)) omY)
  | succ d ih =>
   intro n i hi hn;obtain⟨n,rfl⟩:∃n',n=n'+1:=⟨n-1,omY⟩;have nx:=ih n (i+1) omY omY;refine(zkr E n _ _ _).trans ((zII (p:=(i:Int)<(l.len:Int)) omY).trans ?_);rw[bF omY,nx];show(E.znO (jf s r l,(i:Int))).T _=_;rw[zzO s l r _ he omY,aX,fO];show cond (VX s l i != x) _ _=_;rw[sdL];cases hv:VX s l i==x with
   | false=>rw[show(VX s l i != x)=true by rw[bne,hv];rfl];rfl
   | true =>
    rw[show(VX s l i != x)=false by rw[bne,hv];rfl,dL,dF];have hg:((jf s r l).v.oq.get i)=Bh s (l.get i):=Us omY;have hgl:(jf s r l).v.oq.len=l.len:=zdK s l;have inn:∀e m (k:Nat),k+e=Bi s l i->e<m->NZ E n m ⟨jf s r l⟩ ⟨x⟩ (i:Int) (Bi s l i:Int) (k:Int)=some ((sdK i e k++sdL s l x d (i+1)).map dA.enc):=by
     have hg2:=Kv s l i;intro e
     induction e with
     | zero =>
      intro m k hk hm;obtain⟨m,rfl⟩:∃n',m=n'+1:=⟨m-1,omY⟩;rw[zks,dY omY,dL,bF omY,nx];rfl
     | succ e ih2 =>
      intro m k hk hm;obtain⟨m,rfl⟩:∃n',m=n'+1:=⟨m-1,omY⟩;rw[zks,dP omY,dF,bF omY,ih2 m (k+1) omY omY];rfl
    have hg2:=Kv s l i;rw[bf (by rw[hgl];omega)];show NZ E n E.N ⟨jf s r l⟩ ⟨x⟩ (i:Int) (((jf s r l).v.oq.get (i:Int).toNat).len:Int) ((0:Nat):Int)=_;rw[fO,hg];exact inn _ _ _ omY omY
 exact key _ _ _ omY omY
abbrev Q19(C:Unit->ae Bool):Prop:=C ()=.ok true
structure E28 where
 N:Nat
 v88:ak×bQ×(Sl bz)×Int->ae (Sl af×Bool)
def F28(E:E28):ak×bQ×(Sl bz)->ae ((Sl af)×Bool):=iW E.N (Tabs.nil.addO 88 (.mkv 43 3 56 (ae.unV E.v88))) 28
theorem e28(E:E28){A:Type}(k:((Sl af)×Bool)→Option A)(a0:ak)(a1:bQ)(a2:Sl bz):(F28 E (a0,a1,a2)).T k=(E.v88 (a0,a1,a2,1)).T λr1=>(E.v88 (a0,a1,a2,2)).T λr2=>aU (room (r1.1.len+r2.1.len) 56) (cond r1.2 (k ((⟨(r1.1.len+r2.1.len),(iR r1.1.len r1.1.get r2.1.get)⟩:(Sl af)),r2.2)) (k ((⟨(r1.1.len+r2.1.len),(iR r1.1.len r1.1.get r2.1.get)⟩:(Sl af)),false))):=dU
theorem o28 [aH](E:E28)(x88:gI aB 88 (.mkv 43 3 56 (ae.unV E.v88))):Ok aB 28 (ae.un (F28 E)):=dV (au.nil.addO x88)
structure E35 where
 N:Nat
abbrev G35(E:E35):bI:=gQ Tabs.nil []
def A35:dG:=bP aB 35 [] {ks:=[(1,3,⟨[],[(5,23,3)],[],[],[],[],[]⟩)]}
def F35(E:E35):(Sl af)×Int->ae ((Sl Int)):=ae.ty (aF aB E.N (G35 E) A35 35)
section
variable(E:E35){A:Type}(k:(Sl Int)->Option A)
def Jh(E:E35)(n:Nat)(a0:Sl af)(a1 v6:Int)(EC:Sl Int){A:Type}(k:(Sl Int)->Option A):Option A:=iK aB (G35 E) E.N A35 35 [1,1,0,1,0] [.n n] (iJ k) ⟨[(0,eP a0),(1,.int a1),(5,.cl (.vec 23)),(6,.int v6)],[(23,eV 3 1 8 EC)],[]⟩
theorem e35(a0:Sl af)(a1:Int):(F35 E (a0,a1)).T k=Jh E E.N a0 a1 0 (⟨0,(λ_=>0)⟩:(Sl Int)) k:=dU
theorem zwq(n0:Nat)(a0:Sl af)(a1 v6:Int)(EC:Sl Int):Jh E (n0+1) a0 a1 v6 EC k=cond (decide (v6<(a0.len:Int))) (aU (decide (0<=v6/\v6<(a0.len:Int))) (cond ((a0.get v6.toNat).View==a1) (aU (room (EC.len+1) 8) (Jh E n0 a0 a1 (aJ (v6+1)) (⟨(EC.len+1),(iR EC.len EC.get (λ_=>v6))⟩:(Sl Int)) k)) (Jh E n0 a0 a1 (aJ (v6+1)) EC k))) (k EC):=krY
end
theorem o35 [aH](E:E35):Ok aB 35 (ae.un (F35 E)):=dV au.nil
structure E38 where
 N:Nat
abbrev G38(E:E38):bI:=gQ Tabs.nil []
def A38:dG:=bP aB 38 [] {cut:=[8,10]}
def F38(E:E38):(Sl Int)×(Sl Int)->ae Int:=ae.ty (aF aB E.N (G38 E) A38 38)
section
variable(E:E38){A:Type}(k:Int->Option A)
def zdM(E:E38)(n:Nat)(a0 a1:Sl Int)(v5:Int){A:Type}(k:Int->Option A):Option A:=iK aB (G38 E) E.N A38 38 [1,0,1,0] [.n n] (iJ k) ⟨[(0,eP a0),(1,eP a1),(5,.int v5)],[],[]⟩
def zkG(E:E38)(a0 a1:Sl Int){A:Type}(k:Int->Option A):Option A:=iK aB (G38 E) E.N A38 38 [1,1] [] (iJ k) ⟨[(0,eP a0),(1,eP a1)],[],[]⟩
def zwt(E:E38)(a0 a1:Sl Int){A:Type}(k:Int->Option A):Option A:=iK aB (G38 E) E.N A38 38 [1,1,1] [] (iJ k) ⟨[(0,eP a0),(1,eP a1)],[],[]⟩
theorem e38(a0 a1:Sl Int):(F38 E (a0,a1)).T k=zdM E E.N a0 a1 0 k:=dU
theorem zwu(n0:Nat)(a0 a1:Sl Int)(v5:Int):zdM E (n0+1) a0 a1 v5 k=cond (decide (v5<(a0.len:Int))) (cond (decide (v5<(a1.len:Int))) (aU (decide (0<=v5/\v5<(a0.len:Int))) (aU (decide (0<=v5/\v5<(a1.len:Int))) (cond (decide (a0.get v5.toNat<a1.get v5.toNat)) (k (-1)) (aU (decide (0<=v5/\v5<(a0.len:Int))) (aU (decide (0<=v5/\v5<(a1.len:Int))) (cond (decide (a0.get v5.toNat>a1.get v5.toNat)) (k 1) (zdM E n0 a0 a1 (aJ (v5+1)) k))))))) (zkG E a0 a1 k)) (zkG E a0 a1 k):=krY
theorem zwv(a0 a1:Sl Int):zkG E a0 a1 k=cond (decide ((a0.len:Int)<(a1.len:Int))) (k (-1)) (zwt E a0 a1 k):=krY
theorem zww(a0 a1:Sl Int):zwt E a0 a1 k=cond (decide ((a0.len:Int)>(a1.len:Int))) (k 1) (k 0):=krY
end
theorem o38 [aH](E:E38):Ok aB 38 (ae.un (F38 E)):=dV au.nil
structure E48 where
 N:Nat
abbrev G48(E:E48):bI:=gQ Tabs.nil []
def A48:dG:=bP aB 48 [] {}
def F48(E:E48):(Sl Int)×Int->ae Bool:=ae.ty (aF aB E.N (G48 E) A48 48)
section
variable(E:E48){A:Type}(k:Bool->Option A)
def zdN(E:E48)(n:Nat)(a0:Sl Int)(a1 v5:Int){A:Type}(k:Bool->Option A):Option A:=iK aB (G48 E) E.N A48 48 [1,0,1,0] [.n n] (iJ k) ⟨[(0,eP a0),(1,.int a1),(5,.int v5)],[],[]⟩
theorem e48(a0:Sl Int)(a1:Int):(F48 E (a0,a1)).T k=zdN E E.N a0 a1 0 k:=dU
theorem zwx(n0:Nat)(a0:Sl Int)(a1 v5:Int):zdN E (n0+1) a0 a1 v5 k=cond (decide (v5<(a0.len:Int))) (aU (decide (0<=v5/\v5<(a0.len:Int))) (cond (a0.get v5.toNat==a1) (k true) (zdN E n0 a0 a1 (aJ (v5+1)) k))) (k false):=krY
end
theorem o48 [aH](E:E48):Ok aB 48 (ae.un (F48 E)):=dV au.nil
structure E50 where
 N:Nat
 zuK:ak×(Sl bz)->ae Int
 uZ:ak×bz->ae (placed×Bool)
 zcl:placed×bz->ae bW
abbrev G50(E:E50):bI:=gQ (((Tabs.nil.addF 111 (ae.un E.zuK)).addF 112 (ae.un E.uZ)).addF 113 (ae.un E.zcl)) []
def A50:dG:=bP aB 50 [] {}
def F50(E:E50):ak×(Sl bz)->ae (bW×Int):=ae.ty (aF aB E.N (G50 E) A50 50)
section
variable(E:E50){A:Type}(k:(bW×Int)->Option A)
def zdO(E:E50)(n:Nat)(a0:ak)(a1:Sl bz)(v42:Int)(x9:bW){A:Type}(k:(bW×Int)->Option A):Option A:=iK aB (G50 E) E.N A50 50 [1,1,1,1,1,0,1,0] [.n n] (iJ k) ⟨[(2,.cl (.ptr 2 0)),(4,.cl (.ptr 4 0)),(9,.cl (.ptr 9 0)),(40,.cl (.p (.sl (((a1.len:Int):Int)-1).toNat 6 (λi=>bD.enc ((xZ a1.get 1) i))))),(41,.int ((((a1.len:Int):Int)-1).toNat:Int)),(42,.int v42)],[(2,eB 24 a0),(4,.box 105 [.p (.int .i64 0),.p (.int .i64 0)]),(9,eB 105 x9)],[]⟩
theorem e50(a0:ak)(a1:Sl bz):(F50 E (a0,a1)).T k=(E.zuK (a0,a1)).T λr1=>cond (r1 != 0) (k ((⟨0,0⟩:bW),r1)) (cond ((a1.len:Int)==0) (k ((⟨0,0⟩:bW),2)) (aU (decide ((0:Int)<=0/\0<(a1.len:Int))) ((E.uZ (a0,(a1.get 0))).T λr2=>aU (decide ((0:Int)<=0/\0<(a1.len:Int))) ((E.zcl (r2.1,(a1.get 0))).T λr3=>aU (decide ((0:Int)<=1/\(1:Int)<=(a1.len:Int)/\(a1.len:Int)<=(a1.len:Int))) (zdO E E.N a0 a1 0 r3 k))))):=dU
theorem zwy(n0:Nat)(a0:ak)(a1:Sl bz)(v42:Int)(x9:bW):zdO E (n0+1) a0 a1 v42 x9 k=cond (decide (v42<((((a1.len:Int):Int)-1).toNat:Int))) (aU (decide (0<=v42/\v42<((((a1.len:Int):Int)-1).toNat:Int))) ((E.uZ (a0,((xZ a1.get 1) v42.toNat))).T λr1=>(E.zcl (r1.1,((xZ a1.get 1) v42.toNat))).T λr2=>zdO E n0 a0 a1 (aJ (v42+1)) (⟨(if r2.Low>x9.Low then r2.Low else x9.Low),(if r2.High<x9.High then r2.High else x9.High)⟩:bW) k)) (cond (decide (x9.Low>x9.High)) (k ((⟨0,0⟩:bW),5)) (k (x9,0))):=krY
end
theorem o50 [aH](E:E50)(zAn:Ok aB 111 (ae.un E.zuK))(Bq:Ok aB 112 (ae.un E.uZ))(zq0:Ok aB 113 (ae.un E.zcl)):Ok aB 50 (ae.un (F50 E)):=dV (((au.nil.addF zAn).addF Bq).addF zq0)
structure E53 where
 N:Nat
abbrev G53(E:E53):bI:=gQ Tabs.nil []
def A53:dG:=bP aB 53 [] {cut:=[7]}
def F53(E:E53):af×af->ae Bool:=ae.ty (aF aB E.N (G53 E) A53 53)
section
variable(E:E53){A:Type}(k:Bool->Option A)
def zdP(E:E53)(n:Nat)(a0 a1:af)(v5 v6:Int){A:Type}(k:Bool->Option A):Option A:=iK aB (G53 E) E.N A53 53 [1,1,0,1,0] [.n n] (iJ k) ⟨[(2,.cl (.ptr 2 0)),(3,.cl (.ptr 3 0)),(5,.int v5),(6,.int v6)],[(2,eB 43 a0),(3,eB 43 a1)],[]⟩
def Rz(E:E53)(n0 n:Nat)(a0 a1:af)(v5 v6:Int){A:Type}(k:Bool->Option A):Option A:=iK aB (G53 E) E.N A53 53 [1,1,0,1,0,0,1,0,0,0,0] [.n n0,.n n] (iJ k) ⟨[(2,.cl (.ptr 2 0)),(3,.cl (.ptr 3 0)),(5,.int v5),(6,.int v6)],[(2,eB 43 a0),(3,eB 43 a1)],[]⟩
def Yc(E:E53)(n0:Nat)(a0 a1:af)(v5 v6:Int){A:Type}(k:Bool->Option A):Option A:=iK aB (G53 E) E.N A53 53 [1,1,0,1,0,0,1,0,0,1] [.n n0] (iJ k) ⟨[(2,.cl (.ptr 2 0)),(3,.cl (.ptr 3 0)),(5,.int v5),(6,.int v6)],[(2,eB 43 a0),(3,eB 43 a1)],[]⟩
theorem e53(a0 a1:af):(F53 E (a0,a1)).T k=zdP E E.N a0 a1 0 0 k:=dU
theorem zwA(n0:Nat)(a0 a1:af)(v5 v6:Int):zdP E (n0+1) a0 a1 v5 v6 k=cond (decide (v6<(a1.Hits.len:Int))) (Rz E n0 E.N a0 a1 v5 v6 k) (k (a0.View==a1.View)):=krY
theorem zwB(n0 n1:Nat)(a0 a1:af)(v5 v6:Int):Rz E n0 (n1+1) a0 a1 v5 v6 k=cond (decide (v5<(a0.Hits.len:Int))) (aU (decide (0<=v5/\v5<(a0.Hits.len:Int))) (aU (decide (0<=v6/\v6<(a1.Hits.len:Int))) (cond (decide (a0.Hits.get v5.toNat<a1.Hits.get v6.toNat)) (Rz E n0 n1 a0 a1 (aJ (v5+1)) v6 k) (Yc E n0 a0 a1 v5 v6 k)))) (Yc E n0 a0 a1 v5 v6 k):=krY
theorem zIR(n0:Nat)(a0 a1:af)(v5 v6:Int):Yc E n0 a0 a1 v5 v6 k=cond (v5==(a0.Hits.len:Int)) (k false) (aU (decide (0<=v5/\v5<(a0.Hits.len:Int))) (aU (decide (0<=v6/\v6<(a1.Hits.len:Int))) (cond (a0.Hits.get v5.toNat != a1.Hits.get v6.toNat) (k false) (aU (decide (0<=v5/\v5<(a0.bu.len:Int))) (aU (decide (0<=v6/\v6<(a1.bu.len:Int))) (cond (a0.bu.get v5.toNat != a1.bu.get v6.toNat) (k false) (zdP E n0 a0 a1 v5 (aJ (v6+1)) k))))))):=krY
end
theorem o53 [aH](E:E53):Ok aB 53 (ae.un (F53 E)):=dV au.nil
structure E55 where
 N:Nat
 c71:Int×Int->ae aP
abbrev G55(E:E55):bI:=gQ (Tabs.nil.addF 71 (ae.un E.c71)) []
def A55:dG:=bP aB 55 [] {cut:=[3]}
def F55(E:E55):Int×Int×Int×Int->ae Line:=ae.ty (aF aB E.N (G55 E) A55 55)
section
variable(E:E55){A:Type}(k:Line->Option A)
def zkH(E:E55)(v0 v1 v2 v3:Int){A:Type}(k:Line->Option A):Option A:=iK aB (G55 E) E.N A55 55 [1,1] [] (iJ k) ⟨[(0,.int v0),(1,.int v1),(2,.int v2),(3,.int v3),(8,.cl (.ptr 8 0))],[(8,.box 114 [.p (.int .i64 0),.p (.int .i64 0),.p (.int .i64 0),.p (.int .i64 0)])],[]⟩
theorem e55(a0 a1 a2 a3:Int):(F55 E (a0,a1,a2,a3)).T k=cond (decide (a2<a0)) (zkH E a2 a3 a0 a1 k) (zkH E a0 a1 a2 a3 k):=dU
theorem zwC(v0 v1 v2 v3:Int):zkH E v0 v1 v2 v3 k=(E.c71 ((aJ (v3-v1)),(aJ (v2-v0)))).T λr1=>(E.c71 ((aJ ((aJ (v1*v2))-(aJ (v3*v0)))),(aJ (v2-v0)))).T λr2=>k (⟨r1,r2⟩:Line):=krY
end
theorem o55 [aH](E:E55)(h71:Ok aB 71 (ae.un E.c71)):Ok aB 55 (ae.un (F55 E)):=dV (au.nil.addF h71)
structure E56 where
 N:Nat
def F56(E:E56):aP×aP->ae Bool:=iW E.N Tabs.nil 56
theorem e56(E:E56){A:Type}(k:Bool→Option A)(a0 a1:aP):(F56 E (a0,a1)).T k=k (decide ((aJ (a0.Num*a1.bK))<(aJ (a1.Num*a0.bK)))):=dU
theorem o56 [aH](E:E56):Ok aB 56 (ae.un (F56 E)):=dV au.nil
structure E57 where
 N:Nat
 c116:Line×ay->ae Bool
abbrev G57(E:E57):bI:=gQ (Tabs.nil.addF 116 (ae.un E.c116)) []
def A57:dG:=bP aB 57 [] {ks:=[(1,3,⟨[],[(5,22,3)],[],[],[],[],[]⟩)]}
def F57(E:E57):Line×(Sl ay)->ae ((Sl Int)):=ae.ty (aF aB E.N (G57 E) A57 57)
section
variable(E:E57){A:Type}(k:(Sl Int)->Option A)
def Yd(E:E57)(n:Nat)(a0:Line)(a1:Sl ay)(v6:Int)(VY:Sl Int){A:Type}(k:(Sl Int)->Option A):Option A:=iK aB (G57 E) E.N A57 57 [1,1,0,1,0] [.n n] (iJ k) ⟨[(1,eP a1),(2,.cl (.ptr 2 0)),(5,.cl (.vec 22)),(6,.int v6)],[(2,eB 114 a0),(22,eV 3 1 8 VY)],[]⟩
theorem e57(a0:Line)(a1:Sl ay):(F57 E (a0,a1)).T k=Yd E E.N a0 a1 0 (⟨0,(λ_=>0)⟩:(Sl Int)) k:=dU
theorem zwD(n0:Nat)(a0:Line)(a1:Sl ay)(v6:Int)(VY:Sl Int):Yd E (n0+1) a0 a1 v6 VY k=cond (decide (v6<(a1.len:Int))) (aU (decide (0<=v6/\v6<(a1.len:Int))) ((E.c116 (a0,(a1.get v6.toNat))).T λr1=>cond r1 (aU (room (VY.len+1) 8) (Yd E n0 a0 a1 (aJ (v6+1)) (⟨(VY.len+1),(iR VY.len VY.get (λ_=>v6))⟩:(Sl Int)) k)) (Yd E n0 a0 a1 (aJ (v6+1)) VY k))) (k VY):=krY
end
theorem o57 [aH](E:E57)(zEL:Ok aB 116 (ae.un E.c116)):Ok aB 57 (ae.un (F57 E)):=dV (au.nil.addF zEL)
structure E71 where
 N:Nat
 Vy:Int×Int->ae Int
def F71(E:E71):Int×Int->ae aP:=iW E.N (Tabs.nil.addF 125 (ae.un E.Vy)) 71
theorem e71(E:E71){A:Type}(k:aP→Option A)(a0 a1:Int):(F71 E (a0,a1)).T k=(E.Vy ((if(aJ (0-a0))>a0 then(aJ (0-a0))else a0),a1)).T λr1=>aU (decide (r1≠0)) (aU (decide (r1≠0)) (k (⟨(aJ (a0.tdiv r1)),(aJ (a1.tdiv r1))⟩:aP))):=dU
theorem o71 [aH](E:E71)(zby:Ok aB 125 (ae.un E.Vy)):Ok aB 71 (ae.un (F71 E)):=dV (au.nil.addF zby)
structure E72 where
 N:Nat
 c78:ak×bQ×(Sl bz)->ae (Int ⊕ ((Pt aW)×Int))
 Qb:(Sl Bool)×Bool->ae Bool
 c127:(Pt aW)×Int->ae ((Sl af)×Bool)
 FZ:(Sl af)×((dM 129 (Pt aW) Unit) ⊕ (dM 130 Unit (Pt (Pt found))))->ae (Sl af×Unit)
 VF:af×af->ae Int
abbrev G72(E:E72):bI:=gQ (((((((Tabs.nil.addN [130]).addO 128 (.mkv 43 3 56 (ae.unV E.FZ))).addO 133 (.sort 43 3 56)).addC 134 (ae.un E.VF)).addF 78 (ae.unA E.c78)).addF 126 (ae.un E.Qb)).addF 127 (ae.un E.c127)) []
def A72:dG:=bP aB 72 [] {ks:=[(0,6,⟨[],[],[(35,2,5001,43)],[],[],[],[]⟩),(2,15,⟨[],[],[],[],[57,5001],[],[]⟩)],cut:=[15,16],unr:=[(8,3)],clo:=[130]}
def F72(E:E72):ak×bQ×(Sl bz)×(Sl Bool)->ae (Int ⊕ ((Pt found)×Int)):=ae.tyA (aF aB E.N (G72 E) A72 72)
section
variable(E:E72){A:Type}(k:(Int ⊕ ((Pt found)×Int))->Option A)
def zdQ(E:E72)(zI:Pt aW)(w57 w67:Sl af){A:Type}(k:(Int ⊕ ((Pt found)×Int))->Option A):Option A:=iK aB (G72 E) E.N A72 72 [1,1,1,1,1,1,1] [] (zjM k) ⟨[(12,.cl (.ptr 12 0))],[(12,.box 140 [.ptr 35 0]),(35,.box 145 [.p (.fp [.sl zI.v.ak.ai.len 15 (λi=>bD.enc (zI.v.ak.ai.get i)),.sl zI.v.hits.len 6 (λi=>bD.enc (zI.v.hits.get i)),.sl zI.v.oq.len 1 (λi=>bD.enc (zI.v.oq.get i)),.int .i64 zI.v.rules.yI,.int .i64 zI.v.rules.Dj] 0),.vec 57,.vec 67]),(57,.fvec 3 w57.len (λi=>bD.enc (w57.get i))),(67,eV 43 3 56 w67)],[]⟩
theorem e72(a0:ak)(a1:bQ)(a2:Sl bz)(a3:Sl Bool):(F72 E (a0,a1,a2,a3)).T k=(E.c78 (a0,a1,a2)).T λr1=>zzb r1 (λr1=>cond (r1==0) ((E.Qb (a3,false)).T λr2=>cond r2 (k (.inl 2)) (cond (r1 != 0) (k (.inl r1)) (none))) (cond (r1 != 0) (k (.inl r1)) (none))) (λr1=>cond (r1.2==0) ((E.Qb (a3,false)).T λr3=>cond r3 (k (.inl 2)) (cond (r1.2 != 0) (k (.inl r1.2)) ((E.c127 (r1.1,1)).T λr4=>cond (!r4.2) (k (.inl 8)) ((E.FZ (r4.1,(Sum.inl (⟨r1.1,()⟩:(dM 129 (Pt aW) Unit))))).T λr5=>aU (room r5.1.len 56) ((E.c127 (r1.1,2)).T λr6=>cond (!r6.2) (k (.inl 8)) ((E.FZ (r6.1,(Sum.inl (⟨r1.1,()⟩:(dM 129 (Pt aW) Unit))))).T λr7=>aU (room (r5.1.len+r7.1.len) 56) ((E.FZ ((⟨(r5.1.len+r7.1.len),(iR r5.1.len r5.1.get r7.1.get)⟩:(Sl af)),(Sum.inr (⟨(),(⟨(⟨(⟨r1.1,(⟨(r5.1.len+r7.1.len),(iR r5.1.len r5.1.get r7.1.get)⟩:(Sl af)),(⟨0,(λ_=>(⟨0,(⟨0,(λ_=>0)⟩:(Sl Int)),(⟨0,(λ_=>0)⟩:(Sl Int))⟩:af))⟩:(Sl af))⟩:found)⟩:(Pt found))⟩:(Pt (Pt found)))⟩:(dM 130 Unit (Pt (Pt found))))))).T λr8=>zdQ E r1.1 (⟨(r5.1.len+r7.1.len),(iR r5.1.len r5.1.get r7.1.get)⟩:(Sl af)) r8.1 k))))))) (cond (r1.2 != 0) (k (.inl r1.2)) ((E.c127 (r1.1,1)).T λr9=>cond (!r9.2) (k (.inl 8)) ((E.FZ (r9.1,(Sum.inl (⟨r1.1,()⟩:(dM 129 (Pt aW) Unit))))).T λV5=>aU (room V5.1.len 56) ((E.c127 (r1.1,2)).T λr11=>cond (!r11.2) (k (.inl 8)) ((E.FZ (r11.1,(Sum.inl (⟨r1.1,()⟩:(dM 129 (Pt aW) Unit))))).T λr12=>aU (room (V5.1.len+r12.1.len) 56) ((E.FZ ((⟨(V5.1.len+r12.1.len),(iR V5.1.len V5.1.get r12.1.get)⟩:(Sl af)),(Sum.inr (⟨(),(⟨(⟨(⟨r1.1,(⟨(V5.1.len+r12.1.len),(iR V5.1.len V5.1.get r12.1.get)⟩:(Sl af)),(⟨0,(λ_=>(⟨0,(⟨0,(λ_=>0)⟩:(Sl Int)),(⟨0,(λ_=>0)⟩:(Sl Int))⟩:af))⟩:(Sl af))⟩:found)⟩:(Pt found))⟩:(Pt (Pt found)))⟩:(dM 130 Unit (Pt (Pt found))))))).T λr13=>zdQ E r1.1 (⟨(V5.1.len+r12.1.len),(iR V5.1.len V5.1.get r12.1.get)⟩:(Sl af)) r13.1 k))))))):=zv3.trans krY
theorem zIV(zI:Pt aW)(w57 w67:Sl af):zdQ E zI w57 w67 k=aU (soP (ae.un E.VF) [] true w67) (k (.inr ((⟨(⟨zI,w57,(⟨w67.len,(soG (ae.un E.VF) [] true w67)⟩:(Sl af))⟩:found)⟩:(Pt found)),0))):=krY
end
theorem o72 [aH](E:E72)(h78:Ok aB 78 (ae.unA E.c78))(Ye:Ok aB 126 (ae.un E.Qb))(Z5:Ok aB 127 (ae.un E.c127))(zU4:gI aB 128 (.mkv 43 3 56 (ae.unV E.FZ)))(zU5:gI aB 133 (.sort 43 3 56))(zU6 : @Ok ⟨1⟩ aB 134 (ae.un E.VF)):Ok aB 72 (ae.unA (F72 E)):=zjN (xw (((((((au.nil.addN).addO zU4).addO zU5).addC zU6).addF h78).addF Ye).addF Z5) (dE krY))
structure E74 where
 N:Nat
def F74(E:E74):ak×bz->ae bW:=iW E.N Tabs.nil 74
theorem e74(E:E74){A:Type}(k:bW→Option A)(a0:ak)(a1:bz):(F74 E (a0,a1)).T k=aU (decide (0<=a1.aj/\a1.aj<(a0.ai.len:Int))) (cond ((a0.ai.get a1.aj.toNat).Kind==3) (k (a0.ai.get a1.aj.toNat).Clock) (k (⟨(aJ ((aJ (a1.Time-(a0.ai.get a1.aj.toNat).Clock.High))-(a0.ai.get a1.aj.toNat).dO)),(aJ ((aJ (a1.Time-(a0.ai.get a1.aj.toNat).Clock.Low))+(a0.ai.get a1.aj.toNat).dO))⟩:bW))):=dU
theorem o74 [aH](E:E74):Ok aB 74 (ae.un (F74 E)):=dV au.nil
structure E76 where
 N:Nat
 Vy:Int×Int->ae Int
 c71:Int×Int->ae aP
def F76(E:E76):Line×Int->ae aP:=iW E.N ((Tabs.nil.addF 125 (ae.un E.Vy)).addF 71 (ae.un E.c71)) 76
theorem e76(E:E76){A:Type}(k:aP→Option A)(a0:Line)(a1:Int):(F76 E (a0,a1)).T k=(E.Vy (a0.Start.bK,a0.dI.bK)).T λr1=>aU (decide (r1≠0)) (aU (decide (a0.Start.bK≠0)) (aU (decide (a0.dI.bK≠0)) ((E.c71 ((aJ ((aJ (a0.Start.Num*(aJ ((aJ ((aJ (a0.Start.bK.tdiv r1))*a0.dI.bK)).tdiv a0.Start.bK))))+(aJ ((aJ (a0.dI.Num*(aJ ((aJ ((aJ (a0.Start.bK.tdiv r1))*a0.dI.bK)).tdiv a0.dI.bK))))*a1)))),(aJ ((aJ (a0.Start.bK.tdiv r1))*a0.dI.bK)))).T λr2=>k r2))):=dU
theorem o76 [aH](E:E76)(zby:Ok aB 125 (ae.un E.Vy))(h71:Ok aB 71 (ae.un E.c71)):Ok aB 76 (ae.un (F76 E)):=dV ((au.nil.addF zby).addF h71)
structure E77 where
 N:Nat
 zhi:aj×Int->ae (Int×Int)
 Qc:aj×Int->ae Bool
abbrev G77(E:E77):bI:=gQ ((Tabs.nil.addF 136 (ae.un E.zhi)).addF 137 (ae.un E.Qc)) []
def A77:dG:=bP aB 77 [] {}
def F77(E:E77):aj×bW->ae (Bool×Bool):=ae.ty (aF aB E.N (G77 E) A77 77)
section
variable(E:E77){A:Type}(k:(Bool×Bool)->Option A)
def nH(E:E77)(n:Nat)(a0:aj)(v6 v7:Int)(v12 iM:Bool)(gK:Int){A:Type}(k:(Bool×Bool)->Option A):Option A:=iK aB (G77 E) E.N A77 77 [1,1,1,1,1,0,1,0] [.n n] (iJ k) ⟨[(2,.cl (.ptr 2 0)),(6,.int v6),(7,.int v7),(12,.bool v12),(13,.bool iM),(14,.int gK)],[(2,eB 124 a0)],[]⟩
theorem e77(a0:aj)(a1:bW):(F77 E (a0,a1)).T k=(E.zhi (a0,0)).T λr1=>(E.zhi (a0,(aJ (a0.bC-1)))).T λr2=>cond (decide ((aJ (a1.Low-a0.aZ.High))>=r1.1)) (nH E E.N a0 (aJ (a1.Low-a0.aZ.High)) (aJ (a1.High-a0.aZ.Low)) (decide ((aJ (a1.High-a0.aZ.Low))<=r2.2)) false 0 k) (nH E E.N a0 (aJ (a1.Low-a0.aZ.High)) (aJ (a1.High-a0.aZ.Low)) false false 0 k):=dU
theorem zwE(n0:Nat)(a0:aj)(v6 v7:Int)(v12 iM:Bool)(gK:Int):nH E (n0+1) a0 v6 v7 v12 iM gK k=cond (decide (gK<a0.bC)) ((E.zhi (a0,gK)).T λr1=>(E.Qc (a0,gK)).T λr2=>cond r2 (cond (decide (r1.1<=v7)) (cond (decide (r1.2>=v6)) (nH E n0 a0 v6 v7 false iM (aJ (gK+1)) k) (nH E n0 a0 v6 v7 v12 iM (aJ (gK+1)) k)) (nH E n0 a0 v6 v7 v12 iM (aJ (gK+1)) k)) (cond (decide ((aJ (r1.1-a0.dJ))<=v7)) (cond (decide ((aJ (r1.2+a0.dJ))>=v6)) (nH E n0 a0 v6 v7 v12 true (aJ (gK+1)) k) (nH E n0 a0 v6 v7 v12 iM (aJ (gK+1)) k)) (nH E n0 a0 v6 v7 v12 iM (aJ (gK+1)) k))) (k (v12,iM)):=krY
end
theorem o77 [aH](E:E77)(zkI:Ok aB 136 (ae.un E.zhi))(zbr:Ok aB 137 (ae.un E.Qc)):Ok aB 77 (ae.un (F77 E)):=dV ((au.nil.addF zkI).addF zbr)
structure E88 where
 N:Nat
 c94:ak×bQ×(Sl bz)×Int->ae ((Sl af)×Bool)
 c53:af×af->ae Bool
 zuR:af×af->ae Bool
abbrev G88(E:E88):bI:=gQ (((Tabs.nil.addF 94 (ae.un E.c94)).addF 53 (ae.un E.c53)).addF 144 (ae.un E.zuR)) []
def A88:dG:=bP aB 88 [] {ks:=[(0,3,⟨[],[(8,5000,43)],[],[],[],[],[]⟩),(1,6,⟨[],[(12,79,43)],[],[],[],[],[]⟩),(1,15,⟨[],[],[],[],[],[12],[]⟩)],cut:=[17]}
def F88(E:E88):ak×bQ×(Sl bz)×Int->ae (Sl af×Bool):=ae.tyV (aK aB E.N (G88 E) A88 88 43 3 56)
section
variable(E:E88){A:Type}(k:(Sl af×Bool)->Option A)
def ED(E:E88)(n:Nat)(v10:Sl af)(iM:Int)(w79:Sl af){A:Type}(k:(Sl af×Bool)->Option A):Option A:=ptG aB (G88 E) E.N A88 88 [1,1,1,1,0,1,0] [.n n] (zbh 43 3 56) (zbg k) ⟨[(10,eP v10),(12,.cl (.vec 79)),(13,.int iM)],[(79,eV 43 3 56 w79)],[]⟩
def RD(E:E88)(n0 n:Nat)(v10:Sl af)(iM:Int)(gK:Bool)(V6:Int)(w79:Sl af){A:Type}(k:(Sl af×Bool)->Option A):Option A:=ptG aB (G88 E) E.N A88 88 [1,1,1,1,0,1,0,0,1,0,0,1,0,1,0] [.n n0,.n n] (zbh 43 3 56) (zbg k) ⟨[(10,eP v10),(12,.cl (.vec 79)),(13,.int iM),(14,.bool gK),(15,.int V6)],[(79,eV 43 3 56 w79)],[]⟩
def Ji(E:E88)(n0 n:Nat)(v10 v12:Sl af)(iM Gf:Int){A:Type}(k:(Sl af×Bool)->Option A):Option A:=ptG aB (G88 E) E.N A88 88 [1,1,1,1,0,1,0,0,1,0,0,1,1,1,1,0,0] [.n n0,.n n] (zbh 43 3 56) (zbg k) ⟨[(10,eP v10),(12,eP v12),(13,.int iM),(16,.int Gf)],[],[]⟩
def RF(E:E88)(n0:Nat)(v10 v12:Sl af)(iM Gf:Int){A:Type}(k:(Sl af×Bool)->Option A):Option A:=ptG aB (G88 E) E.N A88 88 [1,1,1,1,0,1,0,0,1,0,0,1,1,1,1,1] [.n n0] (zbh 43 3 56) (zbg k) ⟨[(10,eP v10),(12,eP v12),(13,.int iM),(16,.int Gf)],[],[]⟩
theorem e88(a0:ak)(a1:bQ)(a2:Sl bz)(a3:Int):(F88 E (a0,a1,a2,a3)).T k=(E.c94 (a0,a1,a2,a3)).T λr1=>cond (!r1.2) (k ((⟨0,(λ_=>(⟨0,(⟨0,(λ_=>0)⟩:(Sl Int)),(⟨0,(λ_=>0)⟩:(Sl Int))⟩:af))⟩:(Sl af)),false)) (ED E E.N r1.1 0 (⟨0,(λ_=>(⟨0,(⟨0,(λ_=>0)⟩:(Sl Int)),(⟨0,(λ_=>0)⟩:(Sl Int))⟩:af))⟩:(Sl af)) k):=zjP.trans krY
theorem zwF(n0:Nat)(v10:Sl af)(iM:Int)(w79:Sl af):ED E (n0+1) v10 iM w79 k=cond (decide (iM<(v10.len:Int))) (RD E n0 E.N v10 iM true 0 w79 k) (k (w79,true)):=krY
theorem zwG(n0 n1:Nat)(v10:Sl af)(iM:Int)(gK:Bool)(V6:Int)(w79:Sl af):RD E n0 (n1+1) v10 iM gK V6 w79 k=cond (decide (V6<(v10.len:Int))) (cond gK (cond (iM==V6) (RD E n0 n1 v10 iM true (aJ (V6+1)) w79 k) (aU (decide (0<=V6/\V6<(v10.len:Int))) (aU (decide (0<=iM/\iM<(v10.len:Int))) ((E.c53 ((v10.get V6.toNat),(v10.get iM.toNat))).T λr1=>RD E n0 n1 v10 iM (!r1) (aJ (V6+1)) w79 k)))) (RD E n0 n1 v10 iM false (aJ (V6+1)) w79 k)) (cond (!gK) (ED E n0 v10 (aJ (iM+1)) w79 k) (Ji E n0 E.N v10 w79 iM 0 k)):=krY
theorem zwH(n0 n1:Nat)(v10 v12:Sl af)(iM Gf:Int):Ji E n0 (n1+1) v10 v12 iM Gf k=cond (decide (Gf<(v12.len:Int))) (aU (decide (0<=Gf/\Gf<(v12.len:Int))) (aU (decide (0<=iM/\iM<(v10.len:Int))) ((E.zuR ((v12.get Gf.toNat),(v10.get iM.toNat))).T λr1=>cond r1 (Ji E n0 n1 v10 v12 iM (aJ (Gf+1)) k) (RF E n0 v10 v12 iM Gf k)))) (RF E n0 v10 v12 iM Gf k):=krY
theorem zIY(n0:Nat)(v10 v12:Sl af)(iM Gf:Int):RF E n0 v10 v12 iM Gf k=aU (decide ((0:Int)<=0/\(0:Int)<=Gf/\Gf<=(v12.len:Int))) (aU (room ((Gf:Int)-0).toNat 56) (aU (decide (0<=iM/\iM<(v10.len:Int))) (aU (room (((Gf:Int)-0).toNat+1) 56) (aU (decide ((0:Int)<=Gf/\(Gf:Int)<=(v12.len:Int)/\(v12.len:Int)<=(v12.len:Int))) (aU (room ((((Gf:Int)-0).toNat+1)+(((v12.len:Int):Int)-Gf).toNat) 56) (ED E n0 v10 (aJ (iM+1)) (⟨((((Gf:Int)-0).toNat+1)+(((v12.len:Int):Int)-Gf).toNat),(iR (((Gf:Int)-0).toNat+1) (iR ((Gf:Int)-0).toNat (xZ v12.get 0) (λ_=>(v10.get iM.toNat))) (xZ v12.get Gf.toNat))⟩:(Sl af)) k)))))):=krY
end
theorem o88 [aH](E:E88)(h94:Ok aB 94 (ae.un E.c94))(h53:Ok aB 53 (ae.un E.c53))(zAp:Ok aB 144 (ae.un E.zuR)):gI aB 88 (.mkv 43 3 56 (ae.unV (F88 E))):=zbf (Uc (((au.nil.addF h94).addF h53).addF zAp) (dE krY))
structure E90 where
 N:Nat
 c148:(Sl bz)×(Sl Int)->ae ((Sl bz))
 zuS:ak×(Sl bz)->ae (bW×Bool)
def F90(E:E90):ak×(Sl bz)×(Sl Int)->ae Bool:=iW E.N ((Tabs.nil.addF 148 (ae.un E.c148)).addF 147 (ae.un E.zuS)) 90
theorem e90(E:E90){A:Type}(k:Bool→Option A)(a0:ak)(a1:Sl bz)(a2:Sl Int):(F90 E (a0,a1,a2)).T k=(E.c148 (a1,a2)).T λr1=>(E.zuS (a0,r1)).T λr2=>k r2.2:=dU
theorem o90 [aH](E:E90)(zAq:Ok aB 148 (ae.un E.c148))(zAr:Ok aB 147 (ae.un E.zuS)):Ok aB 90 (ae.un (F90 E)):=dV ((au.nil.addF zAq).addF zAr)
structure E91 where
 N:Nat
 c65:ak×(Sl bz)×af->ae ((Sl ay))
 c87:(Sl bz)×(Sl Int)×Int->ae Bool
 FW:(Sl ay)->ae Bool
 zuT:(Sl ay)×Int->ae (aP×aP)
 ZU:aP->ae Int
 c86:Int×Int×Int->ae Bool
 c77:aj×bW->ae (Bool×Bool)
abbrev G91(E:E91):bI:=gQ (((((((Tabs.nil.addF 65 (ae.un E.c65)).addF 87 (ae.un E.c87)).addF 149 (ae.un E.FW)).addF 150 (ae.un E.zuT)).addF 151 (ae.un E.ZU)).addF 86 (ae.un E.c86)).addF 77 (ae.un E.c77)) []
def A91:dG:=bP aB 91 [] {ks:=[(1,4,⟨[],[(7,92,3)],[],[],[],[],[]⟩)]}
def F91(E:E91):ak×(Sl bz)×af->ae ((Sl Int)):=ae.ty (aF aB E.N (G91 E) A91 91)
section
variable(E:E91){A:Type}(k:(Sl Int)->Option A)
def qc(E:E91)(n:Nat)(a0:ak)(a1:Sl bz)(a2:af)(v8:Sl ay)(v9:Int)(w92:Sl Int){A:Type}(k:(Sl Int)->Option A):Option A:=iK aB (G91 E) E.N A91 91 [1,1,1,0,1,0] [.n n] (iJ k) ⟨[(1,eP a1),(3,.cl (.ptr 3 0)),(5,.cl (.ptr 5 0)),(7,.cl (.vec 92)),(8,eP v8),(9,.int v9)],[(3,eB 24 a0),(5,eB 43 a2),(92,eV 3 1 8 w92)],[]⟩
theorem e91(a0:ak)(a1:Sl bz)(a2:af):(F91 E (a0,a1,a2)).T k=(E.c65 (a0,a1,a2)).T λr1=>qc E E.N a0 a1 a2 r1 0 (⟨0,(λ_=>0)⟩:(Sl Int)) k:=dU
theorem zwI(n0:Nat)(a0:ak)(a1:Sl bz)(a2:af)(v8:Sl ay)(v9:Int)(w92:Sl Int):qc E (n0+1) a0 a1 a2 v8 v9 w92 k=cond (decide (v9<(a0.ai.len:Int))) (aU (decide (0<=v9/\v9<(a0.ai.len:Int))) (cond ((a0.ai.get v9.toNat).View != a2.View) (qc E n0 a0 a1 a2 v8 (aJ (v9+1)) w92 k) ((E.c87 (a1,a2.Hits,v9)).T λr1=>cond r1 (qc E n0 a0 a1 a2 v8 (aJ (v9+1)) w92 k) ((E.FW v8).T λr2=>cond r2 (qc E n0 a0 a1 a2 v8 (aJ (v9+1)) w92 k) (aU (decide (0<=v9/\v9<(a0.ai.len:Int))) ((E.zuT (v8,(a0.ai.get v9.toNat).Z)).T λr3=>(E.ZU r3.1).T λr4=>(E.ZU (⟨(aJ (0-r3.2.Num)),r3.2.bK⟩:aP)).T λr5=>(E.c86 (r4,(-1000000),1000000)).T λr6=>cond (!r6) (qc E n0 a0 a1 a2 v8 (aJ (v9+1)) w92 k) ((E.c86 ((aJ (0-r5)),(-1000000),1000000)).T λr7=>cond (!r7) (qc E n0 a0 a1 a2 v8 (aJ (v9+1)) w92 k) (aU (decide (0<=v9/\v9<(a0.ai.len:Int))) ((E.c77 ((a0.ai.get v9.toNat),(⟨r4,(aJ (0-r5))⟩:bW))).T λr8=>cond r8.1 (aU (room (w92.len+1) 8) (qc E n0 a0 a1 a2 v8 (aJ (v9+1)) (⟨(w92.len+1),(iR w92.len w92.get (λ_=>v9))⟩:(Sl Int)) k)) (qc E n0 a0 a1 a2 v8 (aJ (v9+1)) w92 k)))))))))) (k w92):=krY
end
theorem o91 [aH](E:E91)(h65:Ok aB 65 (ae.un E.c65))(h87:Ok aB 87 (ae.un E.c87))(Og:Ok aB 149 (ae.un E.FW))(zAs:Ok aB 150 (ae.un E.zuT))(zq3:Ok aB 151 (ae.un E.ZU))(h86:Ok aB 86 (ae.un E.c86))(h77:Ok aB 77 (ae.un E.c77)):Ok aB 91 (ae.un (F91 E)):=dV (((((((au.nil.addF h65).addF h87).addF Og).addF zAs).addF zq3).addF h86).addF h77)
structure E92 where
 N:Nat
 c152:(Sl Int)×Int->ae Int
abbrev G92(E:E92):bI:=gQ (Tabs.nil.addF 152 (ae.un E.c152)) []
def A92:dG:=bP aB 92 [] {}
def F92(E:E92):af×af->ae Bool:=ae.ty (aF aB E.N (G92 E) A92 92)
section
variable(E:E92){A:Type}(k:Bool->Option A)
def zdT(E:E92)(n:Nat)(a0 a1:af)(v11:Int){A:Type}(k:Bool->Option A):Option A:=iK aB (G92 E) E.N A92 92 [1,0,1,0] [.n n] (iJ k) ⟨[(2,.cl (.ptr 2 0)),(3,.cl (.ptr 3 0)),(9,eP a1.Hits),(10,.int (a1.Hits.len:Int)),(11,.int v11)],[(2,eB 43 a0),(3,eB 43 a1)],[]⟩
theorem e92(a0 a1:af):(F92 E (a0,a1)).T k=zdT E E.N a0 a1 0 k:=dU
theorem zwJ(n0:Nat)(a0 a1:af)(v11:Int):zdT E (n0+1) a0 a1 v11 k=cond (decide (v11<(a1.Hits.len:Int))) (aU (decide (0<=v11/\v11<(a1.Hits.len:Int))) ((E.c152 (a0.Hits,a1.Hits.get v11.toNat)).T λr1=>cond (decide (r1<0)) (k false) (aU (decide (0<=r1/\r1<(a0.bu.len:Int))) (aU (decide (0<=v11/\v11<(a1.bu.len:Int))) (cond (a0.bu.get r1.toNat != a1.bu.get v11.toNat) (k false) (zdT E n0 a0 a1 (aJ (v11+1)) k)))))) (k (a0.View==a1.View)):=krY
end
theorem o92 [aH](E:E92)(zAt:Ok aB 152 (ae.un E.c152)):Ok aB 92 (ae.un (F92 E)):=dV (au.nil.addF zAt)
structure E93 where
 N:Nat
 c50:ak×(Sl bz)->ae (bW×Int)
abbrev G93(E:E93):bI:=gQ (Tabs.nil.addF 50 (ae.un E.c50)) []
def A93:dG:=bP aB 93 [] {ks:=[(1,3,⟨[],[(6,27,92)],[],[],[],[],[]⟩)]}
def F93(E:E93):(Pt aW)×af->ae (bW×Bool):=ae.ty (aF aB E.N (G93 E) A93 93)
section
variable(E:E93){A:Type}(k:(bW×Bool)->Option A)
def zdU(E:E93)(n:Nat)(a0:Pt aW)(a1:af)(gK:Int)(w27:Sl bz){A:Type}(k:(bW×Bool)->Option A):Option A:=iK aB (G93 E) E.N A93 93 [1,1,0,1,0] [.n n] (iJ k) ⟨[(0,eP a0),(4,.cl (.ptr 4 0)),(6,.cl (.vec 27)),(12,eP a1.Hits),(13,.int (a1.Hits.len:Int)),(14,.int gK)],[(4,.box 105 [.p (.int .i64 0),.p (.int .i64 0)]),(27,eV 92 6 48 w27)],[]⟩
theorem e93(a0:Pt aW)(a1:af):(F93 E (a0,a1)).T k=zdU E E.N a0 a1 0 (⟨0,(λ_=>(⟨0,0,0,0,0,0⟩:bz))⟩:(Sl bz)) k:=dU
theorem zwL(n0:Nat)(a0:Pt aW)(a1:af)(gK:Int)(w27:Sl bz):zdU E (n0+1) a0 a1 gK w27 k=cond (decide (gK<(a1.Hits.len:Int))) (aU (decide (0<=gK/\gK<(a1.Hits.len:Int))) (aU (decide (0<=a1.Hits.get gK.toNat/\a1.Hits.get gK.toNat<(a0.v.hits.len:Int))) (aU (room (w27.len+1) 48) (zdU E n0 a0 a1 (aJ (gK+1)) (⟨(w27.len+1),(iR w27.len w27.get (λ_=>(a0.v.hits.get (a1.Hits.get gK.toNat).toNat)))⟩:(Sl bz)) k)))) ((E.c50 (a0.v.ak,w27)).T λr1=>k (r1.1,(r1.2==0))):=krY
end
theorem o93 [aH](E:E93)(h50:Ok aB 50 (ae.un E.c50)):Ok aB 93 (ae.un (F93 E)):=dV (au.nil.addF h50)
structure E94 where
 N:Nat
 zuU:ak×(Sl bz)×Int->ae ((Sl af)×Bool)
 c154:ak×bQ×(Sl bz)×af->ae Bool
abbrev G94(E:E94):bI:=gQ ((Tabs.nil.addF 153 (ae.un E.zuU)).addF 154 (ae.un E.c154)) []
def A94:dG:=bP aB 94 [] {ks:=[(1,6,⟨[],[(12,43,43)],[],[],[],[],[]⟩)]}
def F94(E:E94):ak×bQ×(Sl bz)×Int->ae ((Sl af)×Bool):=ae.ty (aF aB E.N (G94 E) A94 94)
section
variable(E:E94){A:Type}(k:((Sl af)×Bool)->Option A)
def Jj(E:E94)(n:Nat)(a0:ak)(a1:bQ)(a2:Sl bz)(v10:Sl af)(iM:Int)(w43:Sl af){A:Type}(k:((Sl af)×Bool)->Option A):Option A:=iK aB (G94 E) E.N A94 94 [1,1,1,1,0,1,0] [.n n] (iJ k) ⟨[(2,eP a2),(4,.cl (.ptr 4 0)),(5,.cl (.ptr 5 0)),(10,eP v10),(12,.cl (.vec 43)),(13,.int iM)],[(4,eB 24 a0),(5,eB 26 a1),(43,eV 43 3 56 w43)],[]⟩
theorem e94(a0:ak)(a1:bQ)(a2:Sl bz)(a3:Int):(F94 E (a0,a1,a2,a3)).T k=(E.zuU (a0,a2,a3)).T λr1=>cond (!r1.2) (k ((⟨0,λ_=>default⟩:(Sl af)),false)) (Jj E E.N a0 a1 a2 r1.1 0 (⟨0,(λ_=>(⟨0,(⟨0,(λ_=>0)⟩:(Sl Int)),(⟨0,(λ_=>0)⟩:(Sl Int))⟩:af))⟩:(Sl af)) k):=dU
theorem zwM(n0:Nat)(a0:ak)(a1:bQ)(a2:Sl bz)(v10:Sl af)(iM:Int)(w43:Sl af):Jj E (n0+1) a0 a1 a2 v10 iM w43 k=cond (decide (iM<(v10.len:Int))) (aU (decide (0<=iM/\iM<(v10.len:Int))) ((E.c154 (a0,a1,a2,(v10.get iM.toNat))).T λr1=>cond r1 (aU (decide (0<=iM/\iM<(v10.len:Int))) (aU (room (w43.len+1) 56) (Jj E n0 a0 a1 a2 v10 (aJ (iM+1)) (⟨(w43.len+1),(iR w43.len w43.get (λ_=>(v10.get iM.toNat)))⟩:(Sl af)) k))) (Jj E n0 a0 a1 a2 v10 (aJ (iM+1)) w43 k))) (k (w43,true)):=krY
end
theorem o94 [aH](E:E94)(zAu:Ok aB 153 (ae.un E.zuU))(zAv:Ok aB 154 (ae.un E.c154)):Ok aB 94 (ae.un (F94 E)):=dV ((au.nil.addF zAu).addF zAv)
structure Az where
 N:Nat
 zuP:af×(Pt af)->ae Bool
abbrev zdV(E:Az):bI:=gQ (Tabs.nil.addF 132 (ae.un E.zuP)) []
def zdW:dG:=bP aB 97 [] {}
def Kw(E:Az):(Sl af)×(dM 132 Unit (Pt af))->ae Int:=ae.ty (aF aB E.N (zdV E) zdW 97)
section
variable(E:Az){A:Type}(k:Int->Option A)
def AA(E:Az)(n:Nat)(a0:Sl af)(a1:(dM 132 Unit (Pt af)))(v8:Int){A:Type}(k:Int->Option A):Option A:=iK aB (zdV E) E.N zdW 97 [1,0,1,0] [.n n] (iJ k) ⟨[(0,eP a0),(1,eP a1),(7,.int (a0.len:Int)),(8,.int v8)],[],[]⟩
theorem zq5(a0:Sl af)(a1:(dM 132 Unit (Pt af))):(Kw E (a0,a1)).T k=AA E E.N a0 a1 0 k:=dU
theorem RG(n0:Nat)(a0:Sl af)(a1:(dM 132 Unit (Pt af)))(v8:Int):AA E (n0+1) a0 a1 v8 k=cond (decide (v8<(a0.len:Int))) (aU (decide (0<=v8/\v8<(a0.len:Int))) ((E.zuP ((a0.get v8.toNat),a1.v)).T λr1=>cond r1 (k v8) (AA E n0 a0 a1 (aJ (v8+1)) k))) (k (-1)):=krY
end
theorem zq6 [aH](E:Az)(zAw:Ok aB 132 (ae.un E.zuP)):Ok aB 97 (ae.un (Kw E)):=dV (au.nil.addF zAw)
structure H5 where
 N:Nat
 c98:af×(Pt Int)->ae Bool
abbrev zkJ(E:H5):bI:=gQ (Tabs.nil.addF 98 (ae.un E.c98)) []
def zkK:dG:=bP aB 97 [] {}
def Ut(E:H5):(Sl af)×(dM 98 Unit (Pt Int))->ae Int:=ae.ty (aF aB E.N (zkJ E) zkK 97)
section
variable(E:H5){A:Type}(k:Int->Option A)
def EE(E:H5)(n:Nat)(a0:Sl af)(a1:(dM 98 Unit (Pt Int)))(v8:Int){A:Type}(k:Int->Option A):Option A:=iK aB (zkJ E) E.N zkK 97 [1,0,1,0] [.n n] (iJ k) ⟨[(0,eP a0),(1,eP a1),(7,.int (a0.len:Int)),(8,.int v8)],[],[]⟩
theorem zAx(a0:Sl af)(a1:(dM 98 Unit (Pt Int))):(Ut E (a0,a1)).T k=EE E E.N a0 a1 0 k:=dU
theorem Yf(n0:Nat)(a0:Sl af)(a1:(dM 98 Unit (Pt Int)))(v8:Int):EE E (n0+1) a0 a1 v8 k=cond (decide (v8<(a0.len:Int))) (aU (decide (0<=v8/\v8<(a0.len:Int))) ((E.c98 ((a0.get v8.toNat),a1.v)).T λr1=>cond r1 (k v8) (EE E n0 a0 a1 (aJ (v8+1)) k))) (k (-1)):=krY
end
theorem zAy [aH](E:H5)(h98:Ok aB 98 (ae.un E.c98)):Ok aB 97 (ae.un (Ut E)):=dV (au.nil.addF h98)
structure E99 where
 N:Nat
abbrev G99(E:E99):bI:=gQ Tabs.nil []
def A99:dG:=bP aB 99 [] {}
def F99(E:E99):af->ae Int:=ae.ty (aF aB E.N (G99 E) A99 99)
section
variable(E:E99){A:Type}(k:Int->Option A)
def zdX(E:E99)(n:Nat)(a0:af)(v3 v9:Int){A:Type}(k:Int->Option A):Option A:=iK aB (G99 E) E.N A99 99 [1,1,0,1,0] [.n n] (iJ k) ⟨[(3,.int v3),(7,eP a0.Hits),(8,.int (a0.Hits.len:Int)),(9,.int v9)],[],[]⟩
theorem e99(a0:af):(F99 E (a0)).T k=zdX E E.N a0 0 0 k:=dU
theorem zwN(n0:Nat)(a0:af)(v3 v9:Int):zdX E (n0+1) a0 v3 v9 k=cond (decide (v9<(a0.Hits.len:Int))) (aU (decide (0<=v9/\v9<(a0.Hits.len:Int))) (aU (decide (0<=a0.Hits.get v9.toNat)) (zdX E n0 a0 (orW .i64 v3 (zaq .i64 1 (a0.Hits.get v9.toNat))) (aJ (v9+1)) k))) (k v3):=krY
end
theorem o99 [aH](E:E99):Ok aB 99 (ae.un (F99 E)):=dV au.nil
structure zf7 where
 N:Nat
 c156:ay->ae Bool
 c157:Int×Int×Int->ae Bool
abbrev zIZ(E:zf7):bI:=gQ ((Tabs.nil.addF 156 (ae.un E.c156)).addF 157 (ae.un E.c157)) []
def zI0:dG:=bP aB 109 [] {}
def zq7(E:zf7):(Sl ay)->ae Bool:=ae.ty (aF aB E.N (zIZ E) zI0 109)
section
variable(E:zf7){A:Type}(k:Bool->Option A)
def Uu(E:zf7)(n:Nat)(a0:Sl ay)(v7:Int){A:Type}(k:Bool->Option A):Option A:=iK aB (zIZ E) E.N zI0 109 [1,0,1,0] [.n n] (iJ k) ⟨[(0,eP a0),(5,eP a0),(6,.int (a0.len:Int)),(7,.int v7)],[],[]⟩
theorem e109(a0:Sl ay):(zq7 E (a0)).T k=Uu E E.N a0 0 k:=dU
theorem zkL(n0:Nat)(a0:Sl ay)(v7:Int):Uu E (n0+1) a0 v7 k=cond (decide (v7<(a0.len:Int))) (aU (decide (0<=v7/\v7<(a0.len:Int))) ((E.c156 (a0.get v7.toNat)).T λr1=>cond (!r1) (k false) (Uu E n0 a0 (aJ (v7+1)) k))) ((E.c157 ((a0.len:Int),1,24)).T λr2=>k r2):=krY
end
theorem zVb [aH](E:zf7)(zAz:Ok aB 156 (ae.un E.c156))(CU:Ok aB 157 (ae.un E.c157)):Ok aB 109 (ae.un (zq7 E)):=dV ((au.nil.addF zAz).addF CU)
structure zf8 where
 N:Nat
 c160:ak->ae Bool
 uZ:ak×bz->ae (placed×Bool)
abbrev zI1(E:zf8):bI:=gQ ((Tabs.nil.addF 160 (ae.un E.c160)).addF 112 (ae.un E.uZ)) []
def zI2:dG:=bP aB 111 [] {}
def zq8(E:zf8):ak×(Sl bz)->ae Int:=ae.ty (aF aB E.N (zI1 E) zI2 111)
section
variable(E:zf8){A:Type}(k:Int->Option A)
def Uw(E:zf8)(n:Nat)(a0:ak)(a1:Sl bz)(v17:Int){A:Type}(k:Int->Option A):Option A:=iK aB (zI1 E) E.N zI2 111 [1,1,1,0,1,0] [.n n] (iJ k) ⟨[(2,.cl (.ptr 2 0)),(15,eP a1),(16,.int (a1.len:Int)),(17,.int v17)],[(2,eB 24 a0)],[]⟩
theorem zVc(a0:ak)(a1:Sl bz):(zq8 E (a0,a1)).T k=cond (decide ((a1.len:Int)>2000)) (k 3) ((E.c160 a0).T λr1=>cond (!r1) (k 2) (Uw E E.N a0 a1 0 k)):=dU
theorem zkM(n0:Nat)(a0:ak)(a1:Sl bz)(v17:Int):Uw E (n0+1) a0 a1 v17 k=cond (decide (v17<(a1.len:Int))) (aU (decide (0<=v17/\v17<(a1.len:Int))) ((E.uZ (a0,(a1.get v17.toNat))).T λr1=>cond (!r1.2) (k 2) (Uw E n0 a0 a1 (aJ (v17+1)) k))) (k 0):=krY
end
theorem o111 [aH](E:zf8)(CS:Ok aB 160 (ae.un E.c160))(Bq:Ok aB 112 (ae.un E.uZ)):Ok aB 111 (ae.un (zq8 E)):=dV ((au.nil.addF CS).addF Bq)
structure zq9 where
 N:Nat
def zra(E:zq9):placed×bz->ae bW:=iW E.N Tabs.nil 113
theorem zVd(E:zq9){A:Type}(k:bW→Option A)(a0:placed)(a1:bz):(zra E (a0,a1)).T k=cond (a0.aj.Kind==3) (k a0.aj.Clock) (k (⟨(aJ ((aJ (a1.Time-a0.aj.Clock.High))-a0.aj.dO)),(aJ ((aJ (a1.Time-a0.aj.Clock.Low))+a0.aj.dO))⟩:bW)):=dU
theorem zVe [aH](E:zq9):Ok aB 113 (ae.un (zra E)):=dV au.nil
structure zrb where
 N:Nat
 c157:Int×Int×Int->ae Bool
 c117:(Sl ay)×((dM 118 Unit Unit) ⊕ (dM 162 Unit (Pt Int)))->ae (set×Int)
 zhj:set×Int->ae (aP×aP)
def zrd(E:zrb):(Sl ay)×Int->ae (aP×aP×Int):=iW E.N (((Tabs.nil.addF 157 (ae.un E.c157)).addF 117 (ae.un E.c117)).addF 163 (ae.un E.zhj)) 114
theorem zVf(E:zrb){A:Type}(k:(aP×aP×Int)→Option A)(a0:Sl ay)(a1:Int):(zrd E (a0,a1)).T k=(E.c157 (a1,(-100000),200000)).T λr1=>cond (!r1) (k ((⟨0,0⟩:aP),(⟨0,0⟩:aP),2)) ((E.c117 (a0,(Sum.inr (⟨(),(⟨a1⟩:(Pt Int))⟩:(dM 162 Unit (Pt Int)))))).T λr2=>cond (r2.2 != 0) (k ((⟨0,0⟩:aP),(⟨0,0⟩:aP),r2.2)) ((E.zhj (r2.1,a1)).T λr3=>k (r3.1,r3.2,0))):=dU
theorem zVg [aH](E:zrb)(CU:Ok aB 157 (ae.un E.c157))(zbz:Ok aB 117 (ae.un E.c117))(zAA:Ok aB 163 (ae.un E.zhj)):Ok aB 114 (ae.un (zrd E)):=dV (((au.nil.addF CU).addF zbz).addF zAA)
structure zbA where
 N:Nat
 c160:ak->ae Bool
 iD:Int×Int×Int->ae Bool
 c164:bW×Int->ae Bool
 zhn:(Pt placed)->ae (List (Int×bW))
abbrev zAB(E:zbA):bI:=gQ (((((Tabs.nil.addF 160 (ae.un E.c160)).addF 161 (ae.un E.iD)).addF 164 (ae.un E.c164)).addF 165 (aF aB E.N (gQ Tabs.nil []) (bP aB 165 [] {}) 165)).addI 204 (ae.unI E.zhn)) []
def zAC:dG:=bP aB 115 [] {cut:=[10]}
def zre(E:zbA):ak×Int×bW->ae (Bool×Bool×Int):=ae.ty (aF aB E.N (zAB E) zAC 115)
section
variable(E:zbA){A:Type}(k:(Bool×Bool×Int)->Option A)
def uX(E:zbA)(l:List (Int×bW))(a0:ak)(a1 qN qg:Int)(uh:Bool)(qh:Int){A:Type}(k:(Bool×Bool×Int)->Option A):Option A:=iK aB (zAB E) E.N zAC 115 [1,1,1,1,1,1,0,1,0] [.y (l.map dA.enc)] (iJ k) ⟨[(9,.cl (.ptr 9 0)),(10,.cl (.ptr 10 0)),(11,.cl (.ptr 11 0)),(12,.cl (.ptr 12 0)),(13,.cl (.ptr 13 0)),(56,.p (.fn 204 [] [.fp [.int .i64 (a0.ai.get a1.toNat).Kind,.int .i64 (a0.ai.get a1.toNat).View,.int .i64 (a0.ai.get a1.toNat).Z,.int .i64 (a0.ai.get a1.toNat).First,.int .i64 (a0.ai.get a1.toNat).aO,.int .i64 (a0.ai.get a1.toNat).bC,.int .i64 (a0.ai.get a1.toNat).dJ,.int .i64 (a0.ai.get a1.toNat).aZ.Low,.int .i64 (a0.ai.get a1.toNat).aZ.High,.int .i64 (a0.ai.get a1.toNat).Clock.Low,.int .i64 (a0.ai.get a1.toNat).Clock.High,.int .i64 (a0.ai.get a1.toNat).dO,.int .i64 (a0.ai.get a1.toNat).Least,.sl (a0.ai.get a1.toNat).aS.len 3 (λi=>bD.enc ((a0.ai.get a1.toNat).aS.get i)),.sl (a0.ai.get a1.toNat).Dead.len 1 (λi=>bD.enc ((a0.ai.get a1.toNat).Dead.get i)),.int .i64 a1] 0]))],[(9,.box 185 [.p (.int .i64 (a0.ai.get a1.toNat).Kind),.p (.int .i64 (a0.ai.get a1.toNat).View),.p (.int .i64 (a0.ai.get a1.toNat).Z),.p (.int .i64 (a0.ai.get a1.toNat).First),.p (.int .i64 (a0.ai.get a1.toNat).aO),.p (.int .i64 (a0.ai.get a1.toNat).bC),.p (.int .i64 (a0.ai.get a1.toNat).dJ),.p (.int .i64 (a0.ai.get a1.toNat).aZ.Low),.p (.int .i64 (a0.ai.get a1.toNat).aZ.High),.p (.int .i64 (a0.ai.get a1.toNat).Clock.Low),.p (.int .i64 (a0.ai.get a1.toNat).Clock.High),.p (.int .i64 (a0.ai.get a1.toNat).dO),.p (.int .i64 (a0.ai.get a1.toNat).Least),.p (.sl (a0.ai.get a1.toNat).aS.len 3 (λi=>bD.enc ((a0.ai.get a1.toNat).aS.get i))),.p (.sl (a0.ai.get a1.toNat).Dead.len 1 (λi=>bD.enc ((a0.ai.get a1.toNat).Dead.get i))),.p (.int .i64 a1)]),(10,eB 3 qN),(11,eB 3 qg),(12,eB 4 uh),(13,eB 3 qh)],[]⟩
def Oh(E:zbA)(l0:List (Int×bW))(a0:ak)(a1 qN qg:Int)(uh:Bool)(qh:Int)(x15:bW){A:Type}(k:(Bool×Bool×Int)->Option A):Option A:=iK aB (zAB E) E.N zAC 115 [1,1,1,1,1,1,0,1,0,0,0,1] [.y (l0.map dA.enc)] (iJ k) ⟨[(9,.cl (.ptr 9 0)),(10,.cl (.ptr 10 0)),(11,.cl (.ptr 11 0)),(12,.cl (.ptr 12 0)),(13,.cl (.ptr 13 0)),(15,.cl (.ptr 15 0)),(56,.p (.fn 204 [] [.fp [.int .i64 (a0.ai.get a1.toNat).Kind,.int .i64 (a0.ai.get a1.toNat).View,.int .i64 (a0.ai.get a1.toNat).Z,.int .i64 (a0.ai.get a1.toNat).First,.int .i64 (a0.ai.get a1.toNat).aO,.int .i64 (a0.ai.get a1.toNat).bC,.int .i64 (a0.ai.get a1.toNat).dJ,.int .i64 (a0.ai.get a1.toNat).aZ.Low,.int .i64 (a0.ai.get a1.toNat).aZ.High,.int .i64 (a0.ai.get a1.toNat).Clock.Low,.int .i64 (a0.ai.get a1.toNat).Clock.High,.int .i64 (a0.ai.get a1.toNat).dO,.int .i64 (a0.ai.get a1.toNat).Least,.sl (a0.ai.get a1.toNat).aS.len 3 (λi=>bD.enc ((a0.ai.get a1.toNat).aS.get i)),.sl (a0.ai.get a1.toNat).Dead.len 1 (λi=>bD.enc ((a0.ai.get a1.toNat).Dead.get i)),.int .i64 a1] 0]))],[(9,.box 185 [.p (.int .i64 (a0.ai.get a1.toNat).Kind),.p (.int .i64 (a0.ai.get a1.toNat).View),.p (.int .i64 (a0.ai.get a1.toNat).Z),.p (.int .i64 (a0.ai.get a1.toNat).First),.p (.int .i64 (a0.ai.get a1.toNat).aO),.p (.int .i64 (a0.ai.get a1.toNat).bC),.p (.int .i64 (a0.ai.get a1.toNat).dJ),.p (.int .i64 (a0.ai.get a1.toNat).aZ.Low),.p (.int .i64 (a0.ai.get a1.toNat).aZ.High),.p (.int .i64 (a0.ai.get a1.toNat).Clock.Low),.p (.int .i64 (a0.ai.get a1.toNat).Clock.High),.p (.int .i64 (a0.ai.get a1.toNat).dO),.p (.int .i64 (a0.ai.get a1.toNat).Least),.p (.sl (a0.ai.get a1.toNat).aS.len 3 (λi=>bD.enc ((a0.ai.get a1.toNat).aS.get i))),.p (.sl (a0.ai.get a1.toNat).Dead.len 1 (λi=>bD.enc ((a0.ai.get a1.toNat).Dead.get i))),.p (.int .i64 a1)]),(10,eB 3 qN),(11,eB 3 qg),(12,eB 4 uh),(13,eB 3 qh),(15,eB 105 x15)],[]⟩
theorem e115(a0:ak)(a1:Int)(a2:bW):(zre E (a0,a1,a2)).T k=(E.c160 a0).T λr1=>cond (!r1) (k (false,false,2)) ((E.iD (a1,0,(aJ ((a0.ai.len:Int)-1)))).T λr2=>cond (!r2) (k (false,false,2)) ((E.c164 (a2,1000000)).T λr3=>cond (!r3) (k (false,false,2)) (aU (decide (0<=a1/\a1<(a0.ai.len:Int))) ((E.zhn (⟨(⟨(a0.ai.get a1.toNat),a1⟩:placed)⟩:(Pt placed))).T λr4=>uX E r4 a0 a1 (aJ (a2.Low-(a0.ai.get a1.toNat).aZ.High)) (aJ (a2.High-(a0.ai.get a1.toNat).aZ.Low)) false (aJ (a2.Low-(a0.ai.get a1.toNat).aZ.High)) k)))):=dU
theorem zrf(a0:ak)(a1 qN qg:Int)(uh:Bool)(qh:Int):uX E [] a0 a1 qN qg uh qh k=k (decide (qh>qg),uh,0):=krY
theorem zbB(y:Int×bW)(l0:List (Int×bW))(a0:ak)(a1 qN qg:Int)(uh:Bool)(qh:Int):uX E (y::l0) a0 a1 qN qg uh qh k=cond uh (Oh E l0 a0 a1 qN qg true qh y.2 k) (cond (decide ((aJ (y.2.Low-(a0.ai.get a1.toNat).dJ))<=qg)) (Oh E l0 a0 a1 qN qg (decide ((aJ (y.2.High+(a0.ai.get a1.toNat).dJ))>=qN)) qh y.2 k) (Oh E l0 a0 a1 qN qg false qh y.2 k)):=krY
theorem zAD(l0:List (Int×bW))(a0:ak)(a1 qN qg:Int)(uh:Bool)(qh:Int)(x15:bW):Oh E l0 a0 a1 qN qg uh qh x15 k=cond (decide (x15.Low<=qh)) (cond (decide (qh<=x15.High)) (uX E l0 a0 a1 qN qg uh (aJ (x15.High+1)) k) (uX E l0 a0 a1 qN qg uh qh k)) (uX E l0 a0 a1 qN qg uh qh k):=krY
end
theorem zVh [aH](E:zbA)(CS:Ok aB 160 (ae.un E.c160))(lX:Ok aB 161 (ae.un E.iD))(Ya:Ok aB 164 (ae.un E.c164))(zVi:Bf aB 204 (ae.unI E.zhn)):Ok aB 115 (ae.un (zre E)):=dV (((((au.nil.addF CS).addF lX).addF Ya).addF (xw au.nil (dE krY))).addI zVi)
structure zrg where
 N:Nat
 VA:Line×Int->ae (Int×Int)
def zrh(E:zrg):Line×ay->ae Bool:=iW E.N (Tabs.nil.addF 166 (ae.un E.VA)) 116
theorem e116(E:zrg){A:Type}(k:Bool→Option A)(a0:Line)(a1:ay):(zrh E (a0,a1)).T k=(E.VA (a0,a1.Z)).T λr1=>cond (decide ((aJ (a1.Low*r1.2))<=r1.1)) (k (decide (r1.1<=(aJ (a1.High*r1.2))))) (k false):=dU
theorem zVj [aH](E:zrg)(zbC:Ok aB 166 (ae.un E.VA)):Ok aB 116 (ae.un (zrh E)):=dV (au.nil.addF zbC)
structure EF where
 N:Nat
 c109:(Sl ay)->ae Bool
 Vz:(Sl ay)->ae set
 c159:set->ae Bool
 c167:list->ae Bool
 zuL:list->ae Bool
def EG(E:EF):(Sl ay)×(dM 118 Unit Unit)->ae (set×Int):=iW E.N (((((Tabs.nil.addF 109 (ae.un E.c109)).addF 158 (ae.un E.Vz)).addF 159 (ae.un E.c159)).addF 167 (ae.un E.c167)).addF 118 (ae.un E.zuL)) 117
theorem zkN(E:EF){A:Type}(k:(set×Int)→Option A)(a0:Sl ay)(a1:(dM 118 Unit Unit)):(EG E (a0,a1)).T k=(E.c109 a0).T λr1=>cond (!r1) (k ((⟨(⟨(⟨0,λ_=>default⟩:(Sl ay))⟩:list),(⟨0,λ_=>default⟩:(Sl straight))⟩:set),2)) ((E.Vz a0).T λr2=>(E.c159 r2).T λr3=>cond (!r3) (k ((⟨(⟨(⟨0,λ_=>default⟩:(Sl ay))⟩:list),(⟨0,λ_=>default⟩:(Sl straight))⟩:set),5)) ((E.c167 r2.list).T λr4=>cond r4 ((E.zuL r2.list).T λr5=>cond (!r5) (k ((⟨(⟨(⟨0,λ_=>default⟩:(Sl ay))⟩:list),(⟨0,λ_=>default⟩:(Sl straight))⟩:set),6)) (k (r2,0))) (k (r2,0)))):=dU
theorem zkO [aH](E:EF)(zbD:Ok aB 109 (ae.un E.c109))(zbE:Ok aB 158 (ae.un E.Vz))(zbF:Ok aB 159 (ae.un E.c159))(xA:Ok aB 167 (ae.un E.c167))(zAE:Ok aB 118 (ae.un E.zuL)):Ok aB 117 (ae.un (EG E)):=dV (((((au.nil.addF zbD).addF zbE).addF zbF).addF xA).addF zAE)
structure EH where
 N:Nat
 c109:(Sl ay)->ae Bool
 Vz:(Sl ay)->ae set
 c159:set->ae Bool
 c167:list->ae Bool
 c162:list×(Pt Int)->ae Bool
def EI(E:EH):(Sl ay)×(dM 162 Unit (Pt Int))->ae (set×Int):=iW E.N (((((Tabs.nil.addF 109 (ae.un E.c109)).addF 158 (ae.un E.Vz)).addF 159 (ae.un E.c159)).addF 167 (ae.un E.c167)).addF 162 (ae.un E.c162)) 117
theorem zkP(E:EH){A:Type}(k:(set×Int)→Option A)(a0:Sl ay)(a1:(dM 162 Unit (Pt Int))):(EI E (a0,a1)).T k=(E.c109 a0).T λr1=>cond (!r1) (k ((⟨(⟨(⟨0,λ_=>default⟩:(Sl ay))⟩:list),(⟨0,λ_=>default⟩:(Sl straight))⟩:set),2)) ((E.Vz a0).T λr2=>(E.c159 r2).T λr3=>cond (!r3) (k ((⟨(⟨(⟨0,λ_=>default⟩:(Sl ay))⟩:list),(⟨0,λ_=>default⟩:(Sl straight))⟩:set),5)) ((E.c167 r2.list).T λr4=>cond r4 ((E.c162 (r2.list,a1.v)).T λr5=>cond (!r5) (k ((⟨(⟨(⟨0,λ_=>default⟩:(Sl ay))⟩:list),(⟨0,λ_=>default⟩:(Sl straight))⟩:set),6)) (k (r2,0))) (k (r2,0)))):=dU
theorem zkQ [aH](E:EH)(zbD:Ok aB 109 (ae.un E.c109))(zbE:Ok aB 158 (ae.un E.Vz))(zbF:Ok aB 159 (ae.un E.c159))(xA:Ok aB 167 (ae.un E.c167))(zAF:Ok aB 162 (ae.un E.c162)):Ok aB 117 (ae.un (EI E)):=dV (((((au.nil.addF zbD).addF zbE).addF zbF).addF xA).addF zAF)
structure zri where
 N:Nat
def zrj(E:zri):list->ae Bool:=iW E.N Tabs.nil 118
theorem e118(E:zri){A:Type}(k:Bool→Option A)(a0:list):(zrj E (a0)).T k=k false:=dU
theorem zVk [aH](E:zri):Ok aB 118 (ae.un (zrj E)):=dV au.nil
structure vZ where
 N:Nat
 zu3:straight×(Pt Int)->ae aP
 c168:(Sl aP)×((dM 169 Unit Unit) ⊕ (dM 171 Unit Unit))->ae aP
 kQ:Int×Int->ae aP
abbrev Yg(E:vZ):bI:=gQ (((Tabs.nil.addF 202 (ae.un E.zu3)).addF 168 (ae.un E.c168)).addF 172 (ae.un E.kQ)) []
def Yh:dG:=bP aB 119 [] {ks:=[(1,3,⟨[],[(6,23,85)],[],[],[],[],[]⟩)]}
def EJ(E:vZ):set×(dM 202 Unit (Pt Int))->ae (aP×aP):=ae.ty (aF aB E.N (Yg E) Yh 119)
section
variable(E:vZ){A:Type}(k:(aP×aP)->Option A)
def xB(E:vZ)(n:Nat)(a0:set)(a1:(dM 202 Unit (Pt Int)))(gK:Int)(EC:Sl aP){A:Type}(k:(aP×aP)->Option A):Option A:=iK aB (Yg E) E.N Yh 119 [1,1,0,1,0] [.n n] (iJ k) ⟨[(1,eP a1),(4,.cl (.ptr 4 0)),(5,.cl (.ptr 5 0)),(6,.cl (.vec 23)),(12,eP a0.cO),(13,.int (a0.cO.len:Int)),(14,.int gK)],[(4,.box 85 [.p (.int .i64 0),.p (.int .i64 0)]),(5,.box 85 [.p (.int .i64 0),.p (.int .i64 0)]),(23,eV 85 2 16 EC)],[]⟩
theorem zkR(a0:set)(a1:(dM 202 Unit (Pt Int))):(EJ E (a0,a1)).T k=xB E E.N a0 a1 0 (⟨0,(λ_=>(⟨0,0⟩:aP))⟩:(Sl aP)) k:=dU
theorem Oi(n0:Nat)(a0:set)(a1:(dM 202 Unit (Pt Int)))(gK:Int)(EC:Sl aP):xB E (n0+1) a0 a1 gK EC k=cond (decide (gK<(a0.cO.len:Int))) (aU (decide (0<=gK/\gK<(a0.cO.len:Int))) ((E.zu3 ((a0.cO.get gK.toNat),a1.v)).T λr1=>aU (room (EC.len+1) 16) (xB E n0 a0 a1 (aJ (gK+1)) (⟨(EC.len+1),(iR EC.len EC.get (fun _=>r1))⟩:(Sl aP)) k))) ((E.c168 (EC,(Sum.inl (⟨(),()⟩:(dM 169 Unit Unit))))).T λr2=>(E.c168 (EC,(Sum.inr (⟨(),()⟩:(dM 171 Unit Unit))))).T λr3=>(E.kQ (r2.Num,r2.bK)).T λr4=>(E.kQ (r3.Num,r3.bK)).T λr5=>k (r4,r5)):=krY
end
theorem zkS [aH](E:vZ)(zAG:Ok aB 202 (ae.un E.zu3))(Ux:Ok aB 168 (ae.un E.c168))(rq:Ok aB 172 (ae.un E.kQ)):Ok aB 119 (ae.un (EJ E)):=dV (((au.nil.addF zAG).addF Ux).addF rq)
structure wo where
 N:Nat
 zuM:straight->ae aP
 c168:(Sl aP)×((dM 169 Unit Unit) ⊕ (dM 171 Unit Unit))->ae aP
 kQ:Int×Int->ae aP
abbrev Yi(E:wo):bI:=gQ (((Tabs.nil.addF 120 (ae.un E.zuM)).addF 168 (ae.un E.c168)).addF 172 (ae.un E.kQ)) []
def Yj:dG:=bP aB 119 [] {ks:=[(1,3,⟨[],[(6,23,85)],[],[],[],[],[]⟩)]}
def EL(E:wo):set×(dM 120 Unit Unit)->ae (aP×aP):=ae.ty (aF aB E.N (Yi E) Yj 119)
section
variable(E:wo){A:Type}(k:(aP×aP)->Option A)
def xC(E:wo)(n:Nat)(a0:set)(gK:Int)(EC:Sl aP){A:Type}(k:(aP×aP)->Option A):Option A:=iK aB (Yi E) E.N Yj 119 [1,1,0,1,0] [.n n] (iJ k) ⟨[(1,.p (.fn 120 [] [])),(4,.cl (.ptr 4 0)),(5,.cl (.ptr 5 0)),(6,.cl (.vec 23)),(12,eP a0.cO),(13,.int (a0.cO.len:Int)),(14,.int gK)],[(4,.box 85 [.p (.int .i64 0),.p (.int .i64 0)]),(5,.box 85 [.p (.int .i64 0),.p (.int .i64 0)]),(23,eV 85 2 16 EC)],[]⟩
theorem zkT(a0:set)(a1:(dM 120 Unit Unit)):(EL E (a0,a1)).T k=xC E E.N a0 0 (⟨0,(λ_=>(⟨0,0⟩:aP))⟩:(Sl aP)) k:=dU
theorem Oj(n0:Nat)(a0:set)(gK:Int)(EC:Sl aP):xC E (n0+1) a0 gK EC k=cond (decide (gK<(a0.cO.len:Int))) (aU (decide (0<=gK/\gK<(a0.cO.len:Int))) ((E.zuM (a0.cO.get gK.toNat)).T λr1=>aU (room (EC.len+1) 16) (xC E n0 a0 (aJ (gK+1)) (⟨(EC.len+1),(iR EC.len EC.get (fun _=>r1))⟩:(Sl aP)) k))) ((E.c168 (EC,(Sum.inl (⟨(),()⟩:(dM 169 Unit Unit))))).T λr2=>(E.c168 (EC,(Sum.inr (⟨(),()⟩:(dM 171 Unit Unit))))).T λr3=>(E.kQ (r2.Num,r2.bK)).T λr4=>(E.kQ (r3.Num,r3.bK)).T λr5=>k (r4,r5)):=krY
end
theorem zkU [aH](E:wo)(zAH:Ok aB 120 (ae.un E.zuM))(Ux:Ok aB 168 (ae.un E.c168))(rq:Ok aB 172 (ae.un E.kQ)):Ok aB 119 (ae.un (EL E)):=dV (((au.nil.addF zAH).addF Ux).addF rq)
structure zrk where
 N:Nat
def zrl(E:zrk):straight->ae aP:=iW E.N Tabs.nil 120
theorem e120(E:zrk){A:Type}(k:aP→Option A)(a0:straight):(zrl E (a0)).T k=k (⟨a0.bT,a0.den⟩:aP):=dU
theorem zVm [aH](E:zrk):Ok aB 120 (ae.un (zrl E)):=dV au.nil
structure zf9 where
 N:Nat
abbrev zI3(E:zf9):bI:=gQ Tabs.nil []
def zI4:dG:=bP aB 125 [] {}
def zrm(E:zf9):Int×Int->ae Int:=ae.ty (aF aB E.N (zI3 E) zI4 125)
section
variable(E:zf9){A:Type}(k:Int->Option A)
def Uy(E:zf9)(n:Nat)(v0 v1:Int){A:Type}(k:Int->Option A):Option A:=iK aB (zI3 E) E.N zI4 125 [1,0,0] [.n n] (iJ k) ⟨[(0,.int v0),(1,.int v1)],[],[]⟩
theorem e125(a0 a1:Int):(zrm E (a0,a1)).T k=Uy E E.N a0 a1 k:=dU
theorem zAI(n0:Nat)(v0 v1:Int):Uy E (n0+1) v0 v1 k=cond (v1 != 0) (aU (decide (v1≠0)) (Uy E n0 v1 (v0.tmod v1) k)) (k v0):=krY
end
theorem zVn [aH](E:zf9):Ok aB 125 (ae.un (zrm E)):=dV au.nil
structure zrn where
 N:Nat
 zuW:(Sl Bool)×Bool->ae Int
def zro(E:zrn):(Sl Bool)×Bool->ae Bool:=iW E.N (Tabs.nil.addF 176 (ae.un E.zuW)) 126
theorem e126(E:zrn){A:Type}(k:Bool→Option A)(a0:Sl Bool)(a1:Bool):(zro E (a0,a1)).T k=(E.zuW (a0,a1)).T λr1=>k (decide (r1>=0)):=dU
theorem zVo [aH](E:zrn)(zAJ:Ok aB 176 (ae.un E.zuW)):Ok aB 126 (ae.un (zro E)):=dV (au.nil.addF zAJ)
structure zkV where
 N:Nat
 JO:af×Int×Bc 143 (Pt aW)×Bc 38 Int×Bw 30 43 3 56 af×Bs 255 178 2 4×Unit->ae ((Bool×Int)×(Unit×Unit×(Pt aW)×Int×Sl af×Unit×Unit))
abbrev zVp(E:zkV):bI:=gQ (Tabs.nil.addM 178 (ae.unP 254 E.JO)) []
def zVq:dG:=bP aB 127 [] {ks:=[(0,3,⟨[],[],[(4,0,5000,43)],[],[],[],[]⟩)],pan:=[4]}
def zrp(E:zkV):(Pt aW)×Int->ae ((Sl af)×Bool):=ae.ty (aD aB (zVp E) E.N zdD 177 zVq 127)
theorem e127(E:zkV){A:Type}(k:((Sl af)×Bool)→Option A)(a0:Pt aW)(a1:Int):(zrp E (a0,a1)).T k=(E.JO ((⟨0,(⟨0,λ_=>default⟩:(Sl Int)),(⟨0,λ_=>default⟩:(Sl Int))⟩:af),0,(⟨a0⟩:Bc 143 (Pt aW)),(⟨a1⟩:Bc 38 Int),(⟨(⟨0,(λ_=>(⟨0,(⟨0,(λ_=>0)⟩:(Sl Int)),(⟨0,(λ_=>0)⟩:(Sl Int))⟩:af))⟩:(Sl af))⟩:Bw 30 43 3 56 af),({}:Bs 255 178 2 4),())).T λr1=>cond r1.1.1 (k ((⟨0,λ_=>default⟩:(Sl af)),false)) (k (r1.2.2.2.2.2.1,true)):=zHM.trans krY
theorem zVr [aH](E:zkV)(zAK:jc aB 178 (ae.unP 254 E.JO)):Ok aB 127 (ae.un (zrp E)):=zvZ (zjZ (au.nil.addM zAK) (dE krY) zj3)
structure wu where
 N:Nat
 zuO:(Pt aW)×af->ae Bool
abbrev Yk(E:wu):bI:=gQ (Tabs.nil.addF 129 (ae.un E.zuO)) []
def Yl:dG:=bP aB 128 [] {ks:=[(1,3,⟨[],[(5,20,43)],[],[],[],[],[]⟩)]}
def EM(E:wu):(Sl af)×(dM 129 (Pt aW) Unit)->ae (Sl af×Unit):=ae.tyV (aK aB E.N (Yk E) Yl 128 43 3 56)
section
variable(E:wu){A:Type}(k:(Sl af×Unit)->Option A)
def sG(E:wu)(n:Nat)(a0:Sl af)(a1:(dM 129 (Pt aW) Unit))(v10:Int)(Uz:Sl af){A:Type}(k:(Sl af×Unit)->Option A):Option A:=ptG aB (Yk E) E.N Yl 128 [1,1,0,1,0] [.n n] (zbh 43 3 56) (zbg k) ⟨[(1,.p (.fn 129 [.fp [.sl a1.a.v.ak.ai.len 15 (λi=>bD.enc (a1.a.v.ak.ai.get i)),.sl a1.a.v.hits.len 6 (λi=>bD.enc (a1.a.v.hits.get i)),.sl a1.a.v.oq.len 1 (λi=>bD.enc (a1.a.v.oq.get i)),.int .i64 a1.a.v.rules.yI,.int .i64 a1.a.v.rules.Dj] 0] [])),(5,.cl (.vec 20)),(8,eP a0),(9,.int (a0.len:Int)),(10,.int v10)],[(20,eV 43 3 56 Uz)],[]⟩
theorem zkW(a0:Sl af)(a1:(dM 129 (Pt aW) Unit)):(EM E (a0,a1)).T k=sG E E.N a0 a1 0 (⟨0,(λ_=>(⟨0,(⟨0,(λ_=>0)⟩:(Sl Int)),(⟨0,(λ_=>0)⟩:(Sl Int))⟩:af))⟩:(Sl af)) k:=zjP.trans krY
theorem Ol(n0:Nat)(a0:Sl af)(a1:(dM 129 (Pt aW) Unit))(v10:Int)(Uz:Sl af):sG E (n0+1) a0 a1 v10 Uz k=cond (decide (v10<(a0.len:Int))) (aU (decide (0<=v10/\v10<(a0.len:Int))) ((E.zuO (a1.a,(a0.get v10.toNat))).T λr1=>cond r1 (aU (room (Uz.len+1) 56) (sG E n0 a0 a1 (aJ (v10+1)) (⟨(Uz.len+1),(iR Uz.len Uz.get (λ_=>(a0.get v10.toNat)))⟩:(Sl af)) k)) (sG E n0 a0 a1 (aJ (v10+1)) Uz k))) (k (Uz,())):=krY
end
theorem zkX [aH](E:wu)(zAL:Ok aB 129 (ae.un E.zuO)):gI aB 128 (.mkv 43 3 56 (ae.unV (EM E))):=zbf (Uc (au.nil.addF zAL) (dE krY))
structure ww where
 N:Nat
 c130:af×(Pt (Pt found))->ae Bool
abbrev Ym(E:ww):bI:=gQ (Tabs.nil.addF 130 (ae.un E.c130)) []
def Yn:dG:=bP aB 128 [] {ks:=[(1,3,⟨[],[(5,20,43)],[],[],[],[],[]⟩)]}
def EN(E:ww):(Sl af)×(dM 130 Unit (Pt (Pt found)))->ae (Sl af×Unit):=ae.tyV (aK aB E.N (Ym E) Yn 128 43 3 56)
section
variable(E:ww){A:Type}(k:(Sl af×Unit)->Option A)
def sH(E:ww)(n:Nat)(a0:Sl af)(a1:(dM 130 Unit (Pt (Pt found))))(v10:Int)(Uz:Sl af){A:Type}(k:(Sl af×Unit)->Option A):Option A:=ptG aB (Ym E) E.N Yn 128 [1,1,0,1,0] [.n n] (zbh 43 3 56) (zbg k) ⟨[(1,eP a1),(5,.cl (.vec 20)),(8,eP a0),(9,.int (a0.len:Int)),(10,.int v10)],[(20,eV 43 3 56 Uz)],[]⟩
theorem zkY(a0:Sl af)(a1:(dM 130 Unit (Pt (Pt found)))):(EN E (a0,a1)).T k=sH E E.N a0 a1 0 (⟨0,(λ_=>(⟨0,(⟨0,(λ_=>0)⟩:(Sl Int)),(⟨0,(λ_=>0)⟩:(Sl Int))⟩:af))⟩:(Sl af)) k:=zjP.trans krY
theorem Om(n0:Nat)(a0:Sl af)(a1:(dM 130 Unit (Pt (Pt found))))(v10:Int)(Uz:Sl af):sH E (n0+1) a0 a1 v10 Uz k=cond (decide (v10<(a0.len:Int))) (aU (decide (0<=v10/\v10<(a0.len:Int))) ((E.c130 ((a0.get v10.toNat),a1.v)).T λr1=>cond r1 (aU (room (Uz.len+1) 56) (sH E n0 a0 a1 (aJ (v10+1)) (⟨(Uz.len+1),(iR Uz.len Uz.get (λ_=>(a0.get v10.toNat)))⟩:(Sl af)) k)) (sH E n0 a0 a1 (aJ (v10+1)) Uz k))) (k (Uz,())):=krY
end
theorem zkZ [aH](E:ww)(zAM:Ok aB 130 (ae.un E.c130)):gI aB 128 (.mkv 43 3 56 (ae.unV (EN E))):=zbf (Uc (au.nil.addF zAM) (dE krY))
structure zrq where
 N:Nat
 c141:(Pt aW)×af->ae ((Sl Int))
def zrr(E:zrq):(Pt aW)×af->ae Bool:=iW E.N (Tabs.nil.addF 141 (ae.un E.c141)) 129
theorem e129(E:zrq){A:Type}(k:Bool→Option A)(a0:Pt aW)(a1:af):(zrr E (a0,a1)).T k=cond (decide ((a1.Hits.len:Int)>=a0.v.rules.yI)) ((E.c141 (a0,a1)).T λr1=>k (decide ((r1.len:Int)≤a0.v.rules.Dj))) (k false):=dU
theorem zVs [aH](E:zrq)(zAN:Ok aB 141 (ae.un E.c141)):Ok aB 129 (ae.un (zrr E)):=dV (au.nil.addF zAN)
structure zrt where
 N:Nat
 c131:(Sl af)×(dM 132 Unit (Pt af))->ae Bool
def zru(E:zrt):af×(Pt (Pt found))->ae Bool:=iW E.N (Tabs.nil.addF 131 (ae.un E.c131)) 130
theorem zVt(E:zrt){A:Type}(k:Bool→Option A)(a0:af)(a1:(Pt (Pt found))):(zru E (a0,a1)).T k=(E.c131 (a1.v.v.fits,(⟨(),(⟨a0⟩:(Pt af))⟩:(dM 132 Unit (Pt af))))).T λr1=>k (!r1):=dU
theorem zVu [aH](E:zrt)(zAO:Ok aB 131 (ae.un E.c131)):Ok aB 130 (ae.un (zru E)):=dV (au.nil.addF zAO)
structure zrv where
 N:Nat
 c97:(Sl af)×((dM 132 Unit (Pt af)) ⊕ (dM 98 Unit (Pt Int)))->ae Int
def zrx(E:zrv):(Sl af)×(dM 132 Unit (Pt af))->ae Bool:=iW E.N (Tabs.nil.addF 97 (ae.un E.c97)) 131
theorem zVv(E:zrv){A:Type}(k:Bool→Option A)(a0:Sl af)(a1:(dM 132 Unit (Pt af))):(zrx E (a0,a1)).T k=(E.c97 (a0,(Sum.inl a1))).T λr1=>k (decide (r1>=0)):=dU
theorem zVw [aH](E:zrv)(h97:Ok aB 97 (ae.un E.c97)):Ok aB 131 (ae.un (zrx E)):=dV (au.nil.addF h97)
structure zry where
 N:Nat
 c92:af×af->ae Bool
def zrz(E:zry):af×(Pt af)->ae Bool:=iW E.N (Tabs.nil.addF 92 (ae.un E.c92)) 132
theorem zVx(E:zry){A:Type}(k:Bool→Option A)(a0:af)(a1:Pt af):(zrz E (a0,a1)).T k=cond (decide ((a0.Hits.len:Int)>(a1.v.Hits.len:Int))) ((E.c92 (a0,a1.v)).T λr1=>k r1) (k false):=dU
theorem zVy [aH](E:zry)(h92:Ok aB 92 (ae.un E.c92)):Ok aB 132 (ae.un (zrz E)):=dV (au.nil.addF h92)
structure zrA where
 N:Nat
 zuY:Int×Int->ae Int
 znQ:(Sl Int)×(Sl Int)->ae Int
 zuX:(Sl Int)->ae Int
def zrB(E:zrA):af×af->ae Int:=iW E.N (((Tabs.nil.addF 186 (ae.un E.zuY)).addF 187 (ae.un E.znQ)).addF 185 (ae.un E.zuX)) 134
theorem zVA(E:zrA){A:Type}(k:Int→Option A)(a0 a1:af):(zrB E (a0,a1)).T k=(E.zuY (a0.View,a1.View)).T λr1=>(E.znQ (a0.Hits,a1.Hits)).T λr2=>(E.znQ (a0.bu,a1.bu)).T λr3=>(E.zuX (⟨3,(X5 [r1,r2,r3])⟩:(Sl Int))).T λr4=>k r4:=dU
theorem zVB [aH](E:zrA)(zAP:Ok aB 186 (ae.un E.zuY))(zrC:Ok aB 187 (ae.un E.znQ))(zAQ:Ok aB 185 (ae.un E.zuX)):Ok aB 134 (ae.un (zrB E)):=dV (((au.nil.addF zAP).addF zrC).addF zAQ)
structure zrD where
 N:Nat
def zrE(E:zrD):aj×Int->ae (Int×Int):=iW E.N Tabs.nil 136
theorem zVC(E:zrD){A:Type}(k:(Int×Int)→Option A)(a0:aj)(a1:Int):(zrE E (a0,a1)).T k=cond (a0.Kind==2) (k ((aJ ((aJ (a0.First+(aJ (a1*a0.aO))))-(aJ (a0.aO.tdiv 2)))),(aJ ((aJ ((aJ ((aJ (a0.First+(aJ (a1*a0.aO))))-(aJ (a0.aO.tdiv 2))))+a0.aO))-1)))) (k ((aJ ((aJ (a0.First+(aJ (a1*a0.aO))))-0)),(aJ ((aJ ((aJ ((aJ (a0.First+(aJ (a1*a0.aO))))-0))+a0.aO))-1)))):=dU
theorem zVD [aH](E:zrD):Ok aB 136 (ae.un (zrE E)):=dV au.nil
structure zga where
 N:Nat
 c105:(Pt aW)×af->ae ((Sl ay))
 Pi:(Sl Int)×((dM 180 Unit ((Pt (Pt aW))×(Pt Int))) ⊕ (dM 190 Unit ((Pt (Pt aW))×(Pt Int))))->ae Bool
 znL:(Sl ay)×Int->ae (aP×aP×Int)
 Qd:aP->ae Int
 zu0:aP->ae Int
 znM:ak×Int×bW->ae (Bool×Bool×Int)
abbrev zI5(E:zga):bI:=gQ (((((((Tabs.nil.addN [190]).addF 105 (ae.un E.c105)).addF 179 (ae.un E.Pi)).addF 114 (ae.un E.znL)).addF 191 (ae.un E.Qd)).addF 192 (ae.un E.zu0)).addF 115 (ae.un E.znM)) []
def zI6:dG:=bP aB 141 [] {ks:=[(1,4,⟨[],[(5,83,3)],[],[],[],[],[]⟩)],clo:=[190]}
def zrF(E:zga):(Pt aW)×af->ae ((Sl Int)):=ae.ty (aF aB E.N (zI5 E) zI6 141)
section
variable(E:zga){A:Type}(k:(Sl Int)->Option A)
def nI(E:zga)(n:Nat)(a0:Pt aW)(a1:af)(v6:Sl ay)(v26:Int)(w83:Sl Int){A:Type}(k:(Sl Int)->Option A):Option A:=iK aB (zI5 E) E.N zI6 141 [1,1,1,0,1,0] [.n n] (iJ k) ⟨[(2,.cl (.ptr 2 0)),(3,.cl (.ptr 3 0)),(5,.cl (.vec 83)),(6,eP v6),(24,eP a0.v.ak.ai),(25,.int (a0.v.ak.ai.len:Int)),(26,.int v26)],[(2,eB 143 a0),(3,eB 43 a1),(83,eV 3 1 8 w83)],[]⟩
theorem zVE(a0:Pt aW)(a1:af):(zrF E (a0,a1)).T k=(E.c105 (a0,a1)).T λr1=>nI E E.N a0 a1 r1 0 (⟨0,(λ_=>0)⟩:(Sl Int)) k:=dU
theorem zk0(n0:Nat)(a0:Pt aW)(a1:af)(v6:Sl ay)(v26:Int)(w83:Sl Int):nI E (n0+1) a0 a1 v6 v26 w83 k=cond (decide (v26<(a0.v.ak.ai.len:Int))) (aU (decide (0<=v26/\v26<(a0.v.ak.ai.len:Int))) (cond ((a0.v.ak.ai.get v26.toNat).View != a1.View) (nI E n0 a0 a1 v6 (aJ (v26+1)) w83 k) ((E.Pi (a1.Hits,(Sum.inr (⟨(),((⟨a0⟩:(Pt (Pt aW))),(⟨v26⟩:(Pt Int)))⟩:(dM 190 Unit ((Pt (Pt aW))×(Pt Int))))))).T λr1=>cond r1 (nI E n0 a0 a1 v6 (aJ (v26+1)) w83 k) ((E.znL (v6,(a0.v.ak.ai.get v26.toNat).Z)).T λr2=>cond (r2.2.2 != 0) (nI E n0 a0 a1 v6 (aJ (v26+1)) w83 k) ((E.Qd r2.1).T λr3=>(E.zu0 r2.2.1).T λr4=>cond (decide (r3<(-1000000))) (nI E n0 a0 a1 v6 (aJ (v26+1)) w83 k) (cond (decide (r4>1000000)) (nI E n0 a0 a1 v6 (aJ (v26+1)) w83 k) ((E.znM (a0.v.ak,v26,(⟨r3,r4⟩:bW))).T λr5=>cond (r5.2.2==0) (cond r5.1 (aU (room (w83.len+1) 8) (nI E n0 a0 a1 v6 (aJ (v26+1)) (⟨(w83.len+1),(iR w83.len w83.get (λ_=>v26))⟩:(Sl Int)) k)) (nI E n0 a0 a1 v6 (aJ (v26+1)) w83 k)) (nI E n0 a0 a1 v6 (aJ (v26+1)) w83 k)))))))) (k w83):=krY
end
theorem zVF [aH](E:zga)(zbH:Ok aB 105 (ae.un E.c105))(zbI:Ok aB 179 (ae.un E.Pi))(zAR:Ok aB 114 (ae.un E.znL))(zbJ:Ok aB 191 (ae.un E.Qd))(zAS:Ok aB 192 (ae.un E.zu0))(zAT:Ok aB 115 (ae.un E.znM)):Ok aB 141 (ae.un (zrF E)):=dV (((((((au.nil.addN).addF zbH).addF zbI).addF zAR).addF zbJ).addF zAS).addF zAT)
structure zrG where
 N:Nat
 c38:(Sl Int)×(Sl Int)->ae Int
def zrH(E:zrG):af×af->ae Bool:=iW E.N (Tabs.nil.addF 38 (ae.un E.c38)) 144
theorem zVG(E:zrG){A:Type}(k:Bool→Option A)(a0 a1:af):(zrH E (a0,a1)).T k=cond (a0.View != a1.View) (k (decide (a0.View<a1.View))) ((E.c38 (a0.Hits,a1.Hits)).T λr1=>cond (r1 != 0) (k (decide (r1<0))) ((E.c38 (a0.bu,a1.bu)).T λr2=>k (decide (r2<0)))):=dU
theorem zVH [aH](E:zrG)(h38:Ok aB 38 (ae.un E.c38)):Ok aB 144 (ae.un (zrH E)):=dV (au.nil.addF h38)
structure zrI where
 N:Nat
 FW:(Sl ay)->ae Bool
 c193:(Sl ay)->ae (Int×Int×Bool)
 c194:(Sl ay)->ae ((Sl Line))
def zrJ(E:zrI):(Sl ay)->ae Bool:=iW E.N (((Tabs.nil.addF 149 (ae.un E.FW)).addF 193 (ae.un E.c193)).addF 194 (ae.un E.c194)) 145
theorem zVI(E:zrI){A:Type}(k:Bool→Option A)(a0:Sl ay):(zrJ E (a0)).T k=(E.FW a0).T λr1=>cond r1 ((E.c193 a0).T λr2=>k r2.2.2) ((E.c194 a0).T λr3=>k (decide ((r3.len:Int)>0))):=dU
theorem zVJ [aH](E:zrI)(Og:Ok aB 149 (ae.un E.FW))(zk1:Ok aB 193 (ae.un E.c193))(zbK:Ok aB 194 (ae.un E.c194)):Ok aB 145 (ae.un (zrJ E)):=dV (((au.nil.addF Og).addF zk1).addF zbK)
structure zgb where
 N:Nat
 c74:ak×bz->ae bW
abbrev zI7(E:zgb):bI:=gQ (Tabs.nil.addF 74 (ae.un E.c74)) []
def zI8:dG:=bP aB 147 [] {}
def zrK(E:zgb):ak×(Sl bz)->ae (bW×Bool):=ae.ty (aF aB E.N (zI7 E) zI8 147)
section
variable(E:zgb){A:Type}(k:(bW×Bool)->Option A)
def UA(E:zgb)(n:Nat)(a0:ak)(a1:Sl bz)(v7:Int)(x6:bW){A:Type}(k:(bW×Bool)->Option A):Option A:=iK aB (zI7 E) E.N zI8 147 [1,1,0,1,0] [.n n] (iJ k) ⟨[(1,eP a1),(2,.cl (.ptr 2 0)),(4,.cl (.ptr 4 0)),(6,.cl (.ptr 6 0)),(7,.int v7)],[(2,eB 24 a0),(4,.box 105 [.p (.int .i64 0),.p (.int .i64 0)]),(6,eB 105 x6)],[]⟩
theorem zVK(a0:ak)(a1:Sl bz):(zrK E (a0,a1)).T k=aU (decide ((0:Int)<=0/\0<(a1.len:Int))) ((E.c74 (a0,(a1.get 0))).T λr1=>UA E E.N a0 a1 1 r1 k):=dU
theorem zk2(n0:Nat)(a0:ak)(a1:Sl bz)(v7:Int)(x6:bW):UA E (n0+1) a0 a1 v7 x6 k=cond (decide (v7<(a1.len:Int))) (aU (decide (0<=v7/\v7<(a1.len:Int))) ((E.c74 (a0,(a1.get v7.toNat))).T λr1=>UA E n0 a0 a1 (aJ (v7+1)) (⟨(if r1.Low>x6.Low then r1.Low else x6.Low),(if r1.High<x6.High then r1.High else x6.High)⟩:bW) k)) (k (x6,decide (x6.Low<=x6.High))):=krY
end
theorem zVL [aH](E:zgb)(h74:Ok aB 74 (ae.un E.c74)):Ok aB 147 (ae.un (zrK E)):=dV (au.nil.addF h74)
structure zgc where
 N:Nat
abbrev zI9(E:zgc):bI:=gQ Tabs.nil []
def zJa:dG:=bP aB 148 [] {ks:=[(1,3,⟨[],[(5,22,92)],[],[],[],[],[]⟩)]}
def zrL(E:zgc):(Sl bz)×(Sl Int)->ae ((Sl bz)):=ae.ty (aF aB E.N (zI9 E) zJa 148)
section
variable(E:zgc){A:Type}(k:(Sl bz)->Option A)
def UB(E:zgc)(n:Nat)(a0:Sl bz)(a1:Sl Int)(v6:Int)(VY:Sl bz){A:Type}(k:(Sl bz)->Option A):Option A:=iK aB (zI9 E) E.N zJa 148 [1,1,0,1,0] [.n n] (iJ k) ⟨[(0,eP a0),(1,eP a1),(5,.cl (.vec 22)),(6,.int v6)],[(22,eV 92 6 48 VY)],[]⟩
theorem zVM(a0:Sl bz)(a1:Sl Int):(zrL E (a0,a1)).T k=UB E E.N a0 a1 0 (⟨0,(λ_=>(⟨0,0,0,0,0,0⟩:bz))⟩:(Sl bz)) k:=dU
theorem zk3(n0:Nat)(a0:Sl bz)(a1:Sl Int)(v6:Int)(VY:Sl bz):UB E (n0+1) a0 a1 v6 VY k=cond (decide (v6<(a1.len:Int))) (aU (decide (0<=v6/\v6<(a1.len:Int))) (aU (decide (0<=a1.get v6.toNat/\a1.get v6.toNat<(a0.len:Int))) (aU (room (VY.len+1) 48) (UB E n0 a0 a1 (aJ (v6+1)) (⟨(VY.len+1),(iR VY.len VY.get (λ_=>(a0.get (a1.get v6.toNat).toNat)))⟩:(Sl bz)) k)))) (k VY):=krY
end
theorem zVN [aH](E:zgc):Ok aB 148 (ae.un (zrL E)):=dV au.nil
structure zgd where
 N:Nat
abbrev zJb(E:zgd):bI:=gQ Tabs.nil []
def zJc:dG:=bP aB 149 [] {}
def zrM(E:zgd):(Sl ay)->ae Bool:=ae.ty (aF aB E.N (zJb E) zJc 149)
section
variable(E:zgd){A:Type}(k:Bool->Option A)
def CV(E:zgd)(n:Nat)(a0:Sl ay)(v3:Int){A:Type}(k:Bool->Option A):Option A:=iK aB (zJb E) E.N zJc 149 [1,0,1,0] [.n n] (iJ k) ⟨[(0,eP a0),(3,.int v3)],[],[]⟩
theorem zVO(a0:Sl ay):(zrM E (a0)).T k=CV E E.N a0 1 k:=dU
theorem zk4(n0:Nat)(a0:Sl ay)(v3:Int):CV E (n0+1) a0 v3 k=cond (decide (v3<(a0.len:Int))) (aU (decide (0<=v3/\v3<(a0.len:Int))) (aU (decide ((0:Int)<=0/\0<(a0.len:Int))) (cond ((a0.get v3.toNat).Z != (a0.get 0).Z) (k false) (CV E n0 a0 (aJ (v3+1)) k)))) (k true):=krY
end
theorem zVP [aH](E:zgd):Ok aB 149 (ae.un (zrM E)):=dV au.nil
structure zbL where
 N:Nat
 FW:(Sl ay)->ae Bool
 c193:(Sl ay)->ae (Int×Int×Bool)
 c71:Int×Int->ae aP
 c194:(Sl ay)->ae ((Sl Line))
 c76:Line×Int->ae aP
 c56:aP×aP->ae Bool
abbrev zAU(E:zbL):bI:=gQ ((((((Tabs.nil.addF 149 (ae.un E.FW)).addF 193 (ae.un E.c193)).addF 71 (ae.un E.c71)).addF 194 (ae.un E.c194)).addF 76 (ae.un E.c76)).addF 56 (ae.un E.c56)) []
def zAV:dG:=bP aB 150 [] {cut:=[12]}
def zrN(E:zbL):(Sl ay)×Int->ae (aP×aP):=ae.ty (aF aB E.N (zAU E) zAV 150)
section
variable(E:zbL){A:Type}(k:(aP×aP)->Option A)
def CW(E:zbL)(n:Nat)(a1:Int)(v9:Sl Line)(v12:Int)(x10 x11:aP){A:Type}(k:(aP×aP)->Option A):Option A:=iK aB (zAU E) E.N zAV 150 [1,1,1,1,0,1,0] [.n n] (iJ k) ⟨[(1,.int a1),(4,.cl (.ptr 4 0)),(5,.cl (.ptr 5 0)),(9,eP v9),(10,.cl (.ptr 10 0)),(11,.cl (.ptr 11 0)),(12,.int v12)],[(4,.box 85 [.p (.int .i64 0),.p (.int .i64 0)]),(5,.box 85 [.p (.int .i64 0),.p (.int .i64 0)]),(10,eB 85 x10),(11,eB 85 x11)],[]⟩
def zbM(E:zbL)(n0:Nat)(a1:Int)(v9:Sl Line)(v12:Int)(x10 x11 x13:aP){A:Type}(k:(aP×aP)->Option A):Option A:=iK aB (zAU E) E.N zAV 150 [1,1,1,1,0,1,0,0,1,0,0,1,1] [.n n0] (iJ k) ⟨[(1,.int a1),(4,.cl (.ptr 4 0)),(5,.cl (.ptr 5 0)),(9,eP v9),(10,.cl (.ptr 10 0)),(11,.cl (.ptr 11 0)),(12,.int v12),(13,.cl (.ptr 13 0))],[(4,.box 85 [.p (.int .i64 0),.p (.int .i64 0)]),(5,.box 85 [.p (.int .i64 0),.p (.int .i64 0)]),(10,eB 85 x10),(11,eB 85 x11),(13,eB 85 x13)],[]⟩
theorem zVQ(a0:Sl ay)(a1:Int):(zrN E (a0,a1)).T k=(E.FW a0).T λr1=>cond r1 ((E.c193 a0).T λr2=>(E.c71 (r2.1,1)).T λr3=>(E.c71 (r2.2.1,1)).T λr4=>k (r3,r4)) ((E.c194 a0).T λr5=>aU (decide ((0:Int)<=0/\0<(r5.len:Int))) ((E.c76 ((r5.get 0),a1)).T λr6=>aU (decide ((0:Int)<=0/\0<(r5.len:Int))) ((E.c76 ((r5.get 0),a1)).T λr7=>CW E E.N a1 r5 1 r6 r7 k))):=dU
theorem zk5(n0:Nat)(a1:Int)(v9:Sl Line)(v12:Int)(x10 x11:aP):CW E (n0+1) a1 v9 v12 x10 x11 k=cond (decide (v12<(v9.len:Int))) (aU (decide (0<=v12/\v12<(v9.len:Int))) ((E.c76 ((v9.get v12.toNat),a1)).T λr1=>(E.c56 (r1,x10)).T λr2=>cond r2 (zbM E n0 a1 v9 v12 r1 x11 r1 k) (zbM E n0 a1 v9 v12 x10 x11 r1 k))) (k (x10,x11)):=krY
theorem zAW(n0:Nat)(a1:Int)(v9:Sl Line)(v12:Int)(x10 x11 x13:aP):zbM E n0 a1 v9 v12 x10 x11 x13 k=(E.c56 (x11,x13)).T λr1=>cond r1 (CW E n0 a1 v9 (aJ (v12+1)) x10 x13 k) (CW E n0 a1 v9 (aJ (v12+1)) x10 x11 k):=krY
end
theorem zVR [aH](E:zbL)(Og:Ok aB 149 (ae.un E.FW))(zk1:Ok aB 193 (ae.un E.c193))(h71:Ok aB 71 (ae.un E.c71))(zbK:Ok aB 194 (ae.un E.c194))(h76:Ok aB 76 (ae.un E.c76))(h56:Ok aB 56 (ae.un E.c56)):Ok aB 150 (ae.un (zrN E)):=dV ((((((au.nil.addF Og).addF zk1).addF h71).addF zbK).addF h76).addF h56)
structure zrP where
 N:Nat
def zrQ(E:zrP):aP->ae Int:=iW E.N Tabs.nil 151
theorem zVS(E:zrP){A:Type}(k:Int→Option A)(a0:aP):(zrQ E (a0)).T k=aU (decide (a0.bK≠0)) (cond (decide ((aJ ((aJ (a0.Num.tdiv a0.bK))*a0.bK))>a0.Num)) (k (aJ ((aJ (a0.Num.tdiv a0.bK))-1))) (k (aJ (a0.Num.tdiv a0.bK)))):=dU
theorem zVT [aH](E:zrP):Ok aB 151 (ae.un (zrQ E)):=dV au.nil
structure zge where
 N:Nat
abbrev zJe(E:zge):bI:=gQ Tabs.nil []
def zJf:dG:=bP aB 152 [] {}
def zrR(E:zge):(Sl Int)×Int->ae Int:=ae.ty (aF aB E.N (zJe E) zJf 152)
section
variable(E:zge){A:Type}(k:Int->Option A)
def UC(E:zge)(n:Nat)(a0:Sl Int)(a1 v8:Int){A:Type}(k:Int->Option A):Option A:=iK aB (zJe E) E.N zJf 152 [1,0,1,0] [.n n] (iJ k) ⟨[(0,eP a0),(1,.int a1),(7,.int (a0.len:Int)),(8,.int v8)],[],[]⟩
theorem e152(a0:Sl Int)(a1:Int):(zrR E (a0,a1)).T k=UC E E.N a0 a1 0 k:=dU
theorem zk6(n0:Nat)(a0:Sl Int)(a1 v8:Int):UC E (n0+1) a0 a1 v8 k=cond (decide (v8<(a0.len:Int))) (aU (decide (0<=v8/\v8<(a0.len:Int))) (cond (a1==a0.get v8.toNat) (k v8) (UC E n0 a0 a1 (aJ (v8+1)) k))) (k (-1)):=krY
end
theorem zVU [aH](E:zge):Ok aB 152 (ae.un (zrR E)):=dV au.nil
structure zrS where
 N:Nat
 Pn:(ak×(Sl bz)×af×Int)×Sl af->ae (Sl af)
def zrT(E:zrS):ak×(Sl bz)×Int->ae ((Sl af)×Bool):=iW E.N (Tabs.nil.addO 195 (.grow 43 3 56 (ae.unW E.Pn))) 153
theorem e153(E:zrS){A:Type}(k:((Sl af)×Bool)→Option A)(a0:ak)(a1:Sl bz)(a2:Int):(zrT E (a0,a1,a2)).T k=(E.Pn ((a0,a1,(⟨a2,(⟨0,λ_=>default⟩:(Sl Int)),(⟨0,λ_=>default⟩:(Sl Int))⟩:af),0),(⟨0,(λ_=>(⟨0,(⟨0,λ_=>default⟩:(Sl Int)),(⟨0,λ_=>default⟩:(Sl Int))⟩:af))⟩:(Sl af)))).T λr1=>k (r1,decide ((r1.len:Int)<=2000)):=dU
theorem zVV [aH](E:zrS)(zAX:gI aB 195 (.grow 43 3 56 (ae.unW E.Pn))):Ok aB 153 (ae.un (zrT E)):=dV (au.nil.addO zAX)
structure zrU where
 N:Nat
 c196:ak×(Sl bz)×af->ae Bool
 c91:ak×(Sl bz)×af->ae ((Sl Int))
def zrV(E:zrU):ak×bQ×(Sl bz)×af->ae Bool:=iW E.N ((Tabs.nil.addF 196 (ae.un E.c196)).addF 91 (ae.un E.c91)) 154
theorem e154(E:zrU){A:Type}(k:Bool→Option A)(a0:ak)(a1:bQ)(a2:Sl bz)(a3:af):(zrV E (a0,a1,a2,a3)).T k=(E.c196 (a0,a2,a3)).T λr1=>cond r1 (cond (decide ((a3.Hits.len:Int)>=a1.yI)) ((E.c91 (a0,a2,a3)).T λr2=>k (decide ((r2.len:Int)<=a1.Dj))) (k false)) (k false):=dU
theorem zVW [aH](E:zrU)(zbN:Ok aB 196 (ae.un E.c196))(h91:Ok aB 91 (ae.un E.c91)):Ok aB 154 (ae.un (zrV E)):=dV ((au.nil.addF zbN).addF h91)
structure zrW where
 N:Nat
 c157:Int×Int×Int->ae Bool
def zrX(E:zrW):ay->ae Bool:=iW E.N (Tabs.nil.addF 157 (ae.un E.c157)) 156
theorem zVY(E:zrW){A:Type}(k:Bool→Option A)(a0:ay):(zrX E (a0)).T k=(E.c157 (a0.Z,0,100000)).T λr1=>cond r1 (cond (decide (a0.Low>=(-1000000))) (cond (decide (a0.Low<=a0.High)) (k (decide (a0.High<=1000000))) (k false)) (k false)) (k false):=dU
theorem zVZ [aH](E:zrW)(CU:Ok aB 157 (ae.un E.c157)):Ok aB 156 (ae.un (zrX E)):=dV (au.nil.addF CU)
structure zrY where
 N:Nat
def zrZ(E:zrY):Int×Int×Int->ae Bool:=iW E.N Tabs.nil 157
theorem zV1(E:zrY){A:Type}(k:Bool→Option A)(a0 a1 a2:Int):(zrZ E (a0,a1,a2)).T k=cond (decide (a0>=a1)) (k (decide (a0<=a2))) (k false):=dU
theorem zV2 [aH](E:zrY):Ok aB 157 (ae.un (zrZ E)):=dV au.nil
structure zgf where
 N:Nat
 c167:list->ae Bool
 c198:straight->ae Line
 zu1:set×straight->ae Bool
 i228:(Pt list)->ae (List (straight))
abbrev zJg(E:zgf):bI:=gQ (((((Tabs.nil.addF 167 (ae.un E.c167)).addF 198 (ae.un E.c198)).addF 199 (ae.un E.zu1)).addF 197 (aF aB E.N (gQ Tabs.nil []) (bP aB 197 [] {}) 197)).addI 228 (ae.unI E.i228)) [14]
def zJh:dG:=bP aB 158 [] {ks:=[(1,6,⟨[],[],[(3,1,36,204)],[],[],[],[]⟩)]}
def zr0(E:zgf):(Sl ay)->ae set:=ae.ty (aF aB E.N (zJg E) zJh 158)
section
variable(E:zgf){A:Type}(k:set->Option A)
def qE(E:zgf)(l:List (straight))(a0:Sl ay)(w36:Sl straight)(Yo:Nat)(P6:List Int->Option (List Int)){A:Type}(k:set->Option A):Option A:=iK aB (zJg E) E.N zJh 158 [1,1,1,1,0,1,0] [.y (l.map dA.enc)] (iJ k) ⟨[(2,.cl (.ptr 2 0)),(3,.cl (.ptr 3 0)),(4,.cl (.ptr 4 0)),(17,.p (.fn 228 [] [.fp [.sl a0.len 3 (λi=>bD.enc (a0.get i))] 0]))],[(2,.box 197 [.p (.nils),.p (.nils)]),(3,.box 197 [.p (.sl a0.len 3 (λi=>bD.enc (a0.get i))),.vec 36]),(4,.box 271 [.mo 14]),(36,eV 204 3 24 w36),(14,.mo 114 4 (.ints,4,false,[none]) Yo P6)],[]⟩
theorem zV3(a0:Sl ay):(zr0 E (a0)).T k=(E.c167 (⟨a0⟩:list)).T λr1=>cond r1 (k (⟨(⟨a0⟩:list),(⟨0,λ_=>default⟩:(Sl straight))⟩:set)) ((E.i228 (⟨(⟨a0⟩:list)⟩:(Pt list))).T λr2=>qE E r2 a0 (⟨0,(λ_=>(⟨0,0,0⟩:straight))⟩:(Sl straight)) 0 (λ_=>none) k):=dU
theorem zr1(a0:Sl ay)(w36:Sl straight)(Yo:Nat)(P6:List Int→Option (List Int)):qE E [] a0 w36 Yo P6 k=k (⟨(⟨a0⟩:list),w36⟩:set):=krY
theorem zAY(y:straight)(l0:List (straight))(a0:Sl ay)(w36:Sl straight)(Yo:Nat)(P6:List Int→Option (List Int)):qE E (y::l0) a0 w36 Yo P6 k=(E.c198 y).T λr1=>cond (!(AZ (P6 [r1.dI.Num,r1.dI.bK,r1.Start.Num,r1.Start.bK]) 0 != 0)) ((E.zu1 ((⟨(⟨a0⟩:list),w36⟩:set),y)).T λr2=>cond r2 (aU (room (w36.len+1) 24) (qE E l0 a0 (⟨(w36.len+1),(iR w36.len w36.get (λ_=>y))⟩:(Sl straight)) (addN (P6 [r1.dI.Num,r1.dI.bK,r1.Start.Num,r1.Start.bK]) Yo) (oI [r1.dI.Num,r1.dI.bK,r1.Start.Num,r1.Start.bK] [1] P6) k)) (qE E l0 a0 w36 Yo P6 k)) (qE E l0 a0 w36 Yo P6 k):=krY
end
theorem zV4 [aH](E:zgf)(xA:Ok aB 167 (ae.un E.c167))(zbO:Ok aB 198 (ae.un E.c198))(zAZ:Ok aB 199 (ae.un E.zu1))(zV5:Bf aB 228 (ae.unI E.i228)):Ok aB 158 (ae.un (zr0 E)):=dV (((((au.nil.addF xA).addF zbO).addF zAZ).addF (xw au.nil (dE krY))).addI zV5)
structure zr2 where
 N:Nat
 VD:list->ae bW
 c167:list->ae Bool
def zr3(E:zr2):set->ae Bool:=iW E.N ((Tabs.nil.addF 200 (ae.un E.VD)).addF 167 (ae.un E.c167)) 159
theorem zV6(E:zr2){A:Type}(k:Bool→Option A)(a0:set):(zr3 E (a0)).T k=(E.VD a0.list).T λr1=>(E.c167 a0.list).T λr2=>cond r2 (k (decide (r1.Low<=r1.High))) (k (decide ((a0.cO.len:Int)>0))):=dU
theorem zV7 [aH](E:zr2)(zbP:Ok aB 200 (ae.un E.VD))(xA:Ok aB 167 (ae.un E.c167)):Ok aB 159 (ae.un (zr3 E)):=dV ((au.nil.addF zbP).addF xA)
structure zr4 where
 N:Nat
def zr5(E:zr4):list×(Pt Int)->ae Bool:=iW E.N Tabs.nil 162
theorem e162(E:zr4){A:Type}(k:Bool→Option A)(a0:list)(a1:Pt Int):(zr5 E (a0,a1)).T k=aU (decide ((0:Int)<=0/\0<(a0.bJ.len:Int))) (k ((a0.bJ.get 0).Z==a1.v)):=dU
theorem zV8 [aH](E:zr4):Ok aB 162 (ae.un (zr5 E)):=dV au.nil
structure zr6 where
 N:Nat
 c167:list->ae Bool
 VD:list->ae bW
 kQ:Int×Int->ae aP
 c119:set×((dM 202 Unit (Pt Int)) ⊕ (dM 120 Unit Unit))->ae (aP×aP)
def zr7(E:zr6):set×Int->ae (aP×aP):=iW E.N ((((Tabs.nil.addF 167 (ae.un E.c167)).addF 200 (ae.un E.VD)).addF 172 (ae.un E.kQ)).addF 119 (ae.un E.c119)) 163
theorem zV9(E:zr6){A:Type}(k:(aP×aP)→Option A)(a0:set)(a1:Int):(zr7 E (a0,a1)).T k=(E.c167 a0.list).T λr1=>cond r1 ((E.VD a0.list).T λr2=>(E.kQ (r2.Low,1)).T λr3=>(E.kQ (r2.High,1)).T λr4=>k (r3,r4)) ((E.c119 (a0,(Sum.inl (⟨(),(⟨a1⟩:(Pt Int))⟩:(dM 202 Unit (Pt Int)))))).T λr5=>k (r5.1,r5.2)):=dU
theorem zWa [aH](E:zr6)(xA:Ok aB 167 (ae.un E.c167))(zbP:Ok aB 200 (ae.un E.VD))(rq:Ok aB 172 (ae.un E.kQ))(zEU:Ok aB 119 (ae.un E.c119)):Ok aB 163 (ae.un (zr7 E)):=dV ((((au.nil.addF xA).addF zbP).addF rq).addF zEU)
structure zr8 where
 N:Nat
def zr9(E:zr8):Line×Int->ae (Int×Int):=iW E.N Tabs.nil 166
theorem e166(E:zr8){A:Type}(k:(Int×Int)→Option A)(a0:Line)(a1:Int):(zr9 E (a0,a1)).T k=k ((aJ ((aJ (a0.Start.Num*a0.dI.bK))+(aJ ((aJ (a0.dI.Num*a1))*a0.Start.bK)))),(aJ (a0.Start.bK*a0.dI.bK))):=dU
theorem zWb [aH](E:zr8):Ok aB 166 (ae.un (zr9 E)):=dV au.nil
structure zsa where
 N:Nat
 c206:(Sl ay)×((dM 207 Unit (Pt list)) ⊕ (dM 230 Unit (Pt straight)) ⊕ (dM 257 Unit (Pt straight)))->ae Bool
def zsb(E:zsa):list->ae Bool:=iW E.N (Tabs.nil.addF 206 (ae.un E.c206)) 167
theorem e167(E:zsa){A:Type}(k:Bool→Option A)(a0:list):(zsb E (a0)).T k=(E.c206 (a0.bJ,(Sum.inl (⟨(),(⟨a0⟩:(Pt list))⟩:(dM 207 Unit (Pt list)))))).T λr1=>k (!r1):=dU
theorem zWc [aH](E:zsa)(Oo:Ok aB 206 (ae.un E.c206)):Ok aB 167 (ae.un (zsb E)):=dV (au.nil.addF Oo)
structure wz where
 N:Nat
 zuV:aP×aP->ae Bool
abbrev Yp(E:wz):bI:=gQ (Tabs.nil.addF 169 (ae.un E.zuV)) []
def Yq:dG:=bP aB 168 [] {}
def EO(E:wz):(Sl aP)×(dM 169 Unit Unit)->ae aP:=ae.ty (aF aB E.N (Yp E) Yq 168)
section
variable(E:wz){A:Type}(k:aP->Option A)
def oU(E:wz)(n:Nat)(a0:Sl aP)(gK:Int)(x5:aP){A:Type}(k:aP->Option A):Option A:=iK aB (Yp E) E.N Yq 168 [1,1,0,1,0] [.n n] (iJ k) ⟨[(1,.p (.fn 169 [] [])),(4,.cl (.ptr 4 0)),(5,.cl (.ptr 5 0)),(12,.cl (.p (.sl (((a0.len:Int):Int)-1).toNat 2 (λi=>bD.enc ((xZ a0.get 1) i))))),(13,.int ((((a0.len:Int):Int)-1).toNat:Int)),(14,.int gK)],[(4,.box 85 [.p (.int .i64 0),.p (.int .i64 0)]),(5,eB 85 x5)],[]⟩
theorem zk7(a0:Sl aP)(a1:(dM 169 Unit Unit)):(EO E (a0,a1)).T k=aU (decide ((0:Int)<=0/\0<(a0.len:Int))) (aU (decide ((0:Int)<=1/\(1:Int)<=(a0.len:Int)/\(a0.len:Int)<=(a0.len:Int))) (oU E E.N a0 0 (a0.get 0) k)):=dU
theorem Oq(n0:Nat)(a0:Sl aP)(gK:Int)(x5:aP):oU E (n0+1) a0 gK x5 k=cond (decide (gK<((((a0.len:Int):Int)-1).toNat:Int))) (aU (decide (0<=gK/\gK<((((a0.len:Int):Int)-1).toNat:Int))) ((E.zuV (((xZ a0.get 1) gK.toNat),x5)).T λr1=>cond r1 (oU E n0 a0 (aJ (gK+1)) ((xZ a0.get 1) gK.toNat) k) (oU E n0 a0 (aJ (gK+1)) x5 k))) (k x5):=krY
end
theorem zk8 [aH](E:wz)(zA1:Ok aB 169 (ae.un E.zuV)):Ok aB 168 (ae.un (EO E)):=dV (au.nil.addF zA1)
structure wB where
 N:Nat
 c171:aP×aP->ae Bool
abbrev Yr(E:wB):bI:=gQ (Tabs.nil.addF 171 (ae.un E.c171)) []
def Yt:dG:=bP aB 168 [] {}
def EP(E:wB):(Sl aP)×(dM 171 Unit Unit)->ae aP:=ae.ty (aF aB E.N (Yr E) Yt 168)
section
variable(E:wB){A:Type}(k:aP->Option A)
def oV(E:wB)(n:Nat)(a0:Sl aP)(gK:Int)(x5:aP){A:Type}(k:aP->Option A):Option A:=iK aB (Yr E) E.N Yt 168 [1,1,0,1,0] [.n n] (iJ k) ⟨[(1,.p (.fn 171 [] [])),(4,.cl (.ptr 4 0)),(5,.cl (.ptr 5 0)),(12,.cl (.p (.sl (((a0.len:Int):Int)-1).toNat 2 (λi=>bD.enc ((xZ a0.get 1) i))))),(13,.int ((((a0.len:Int):Int)-1).toNat:Int)),(14,.int gK)],[(4,.box 85 [.p (.int .i64 0),.p (.int .i64 0)]),(5,eB 85 x5)],[]⟩
theorem zk9(a0:Sl aP)(a1:(dM 171 Unit Unit)):(EP E (a0,a1)).T k=aU (decide ((0:Int)<=0/\0<(a0.len:Int))) (aU (decide ((0:Int)<=1/\(1:Int)<=(a0.len:Int)/\(a0.len:Int)<=(a0.len:Int))) (oV E E.N a0 0 (a0.get 0) k)):=dU
theorem Ot(n0:Nat)(a0:Sl aP)(gK:Int)(x5:aP):oV E (n0+1) a0 gK x5 k=cond (decide (gK<((((a0.len:Int):Int)-1).toNat:Int))) (aU (decide (0<=gK/\gK<((((a0.len:Int):Int)-1).toNat:Int))) ((E.c171 (((xZ a0.get 1) gK.toNat),x5)).T λr1=>cond r1 (oV E n0 a0 (aJ (gK+1)) ((xZ a0.get 1) gK.toNat) k) (oV E n0 a0 (aJ (gK+1)) x5 k))) (k x5):=krY
end
theorem zla [aH](E:wB)(zA2:Ok aB 171 (ae.un E.c171)):Ok aB 168 (ae.un (EP E)):=dV (au.nil.addF zA2)
structure zsc where
 N:Nat
 FX:aP×aP->ae Int
def zsd(E:zsc):aP×aP->ae Bool:=iW E.N (Tabs.nil.addF 170 (ae.un E.FX)) 169
theorem e169(E:zsc){A:Type}(k:Bool→Option A)(a0 a1:aP):(zsd E (a0,a1)).T k=(E.FX (a0,a1)).T λr1=>k (decide (r1<0)):=dU
theorem zWd [aH](E:zsc)(Ou:Ok aB 170 (ae.un E.FX)):Ok aB 169 (ae.un (zsd E)):=dV (au.nil.addF Ou)
structure zse where
 N:Nat
 c208:Int×Int->ae Int
def zsf(E:zse):aP×aP->ae Int:=iW E.N (Tabs.nil.addF 208 (ae.un E.c208)) 170
theorem e170(E:zse){A:Type}(k:Int→Option A)(a0 a1:aP):(zsf E (a0,a1)).T k=(E.c208 ((aJ (a0.Num*a1.bK)),(aJ (a1.Num*a0.bK)))).T λr1=>k r1:=dU
theorem zWe [aH](E:zse)(zbQ:Ok aB 208 (ae.un E.c208)):Ok aB 170 (ae.un (zsf E)):=dV (au.nil.addF zbQ)
structure zsg where
 N:Nat
 FX:aP×aP->ae Int
def zsh(E:zsg):aP×aP->ae Bool:=iW E.N (Tabs.nil.addF 170 (ae.un E.FX)) 171
theorem zWf(E:zsg){A:Type}(k:Bool→Option A)(a0 a1:aP):(zsh E (a0,a1)).T k=(E.FX (a0,a1)).T λr1=>k (decide (r1>0)):=dU
theorem zWg [aH](E:zsg)(Ou:Ok aB 170 (ae.un E.FX)):Ok aB 171 (ae.un (zsh E)):=dV (au.nil.addF Ou)
structure zsi where
 N:Nat
 zu6:Int×Int->ae Int
def zsj(E:zsi):Int×Int->ae aP:=iW E.N (Tabs.nil.addF 209 (ae.un E.zu6)) 172
theorem zWh(E:zsi){A:Type}(k:aP→Option A)(a0 a1:Int):(zsj E (a0,a1)).T k=(E.zu6 ((if(aJ (0-a0))>a0 then(aJ (0-a0))else a0),a1)).T λr1=>aU (decide (r1≠0)) (aU (decide (r1≠0)) (k (⟨(aJ (a0.tdiv r1)),(aJ (a1.tdiv r1))⟩:aP))):=dU
theorem zWi [aH](E:zsi)(zA3:Ok aB 209 (ae.un E.zu6)):Ok aB 172 (ae.un (zsj E)):=dV (au.nil.addF zA3)
structure zgh where
 N:Nat
abbrev zJi(E:zgh):bI:=gQ Tabs.nil []
def zJj:dG:=bP aB 176 [] {}
def zsk(E:zgh):(Sl Bool)×Bool->ae Int:=ae.ty (aF aB E.N (zJi E) zJj 176)
section
variable(E:zgh){A:Type}(k:Int->Option A)
def UD(E:zgh)(n:Nat)(a0:Sl Bool)(a1:Bool)(v8:Int){A:Type}(k:Int->Option A):Option A:=iK aB (zJi E) E.N zJj 176 [1,0,1,0] [.n n] (iJ k) ⟨[(0,eP a0),(1,.bool a1),(7,.int (a0.len:Int)),(8,.int v8)],[],[]⟩
theorem zWj(a0:Sl Bool)(a1:Bool):(zsk E (a0,a1)).T k=UD E E.N a0 a1 0 k:=dU
theorem zlb(n0:Nat)(a0:Sl Bool)(a1:Bool)(v8:Int):UD E (n0+1) a0 a1 v8 k=cond (decide (v8<(a0.len:Int))) (aU (decide (0<=v8/\v8<(a0.len:Int))) (cond (a1==(a0.get v8.toNat)) (k v8) (UD E n0 a0 a1 (aJ (v8+1)) k))) (k (-1)):=krY
end
theorem zWk [aH](E:zgh):Ok aB 176 (ae.un (zsk E)):=dV au.nil
structure zgi where
 N:Nat
 Pi:(Sl Int)×((dM 180 Unit ((Pt (Pt aW))×(Pt Int))) ⊕ (dM 190 Unit ((Pt (Pt aW))×(Pt Int))))->ae Bool
 c182:(Pt aW)×af->ae Bool
 i173:(Pt Int)×(Pt (Pt aW))×(Pt Int)->ae (List (Int×Int))
 JO:af×Int×Bc 143 (Pt aW)×Bc 38 Int×Bw 30 43 3 56 af×Bs 255 178 2 4×Unit->ae ((Bool×Int)×(Unit×Unit×(Pt aW)×Int×Sl af×Unit×Unit))
abbrev zA4(E:zgi):bI:=gQ (((((((Tabs.nil.addN [180]).addO 181 (.clone 3 1 8)).addM 178 (ae.unP 254 E.JO)).addF 179 (ae.un E.Pi)).addF 182 (ae.un E.c182)).addF 121 (aF aB E.N (gQ Tabs.nil []) (bP aB 121 [] {}) 121)).addI 173 (ae.unI E.i173)) []
def zsl:dG:=bP aB 178 [2,3,4,5] {clo:=[180],pan:=[9,10]}
def zsm(E:zgi):af×Int×Bc 143 (Pt aW)×Bc 38 Int×Bw 30 43 3 56 af×Bs 255 178 2 4×Unit->ae ((Bool×Int)×(Unit×Unit×(Pt aW)×Int×Sl af×Unit×Unit)):=ae.tyP 254 λxs=>aM aB E.N (zA4 E) zsl 178 xs
section
variable(E:zgi){A:Type}(k:((Bool×Int)×(Unit×Unit×(Pt aW)×Int×Sl af×Unit×Unit))->Option A)
def qF(E:zgi)(l:List (Int×Int))(a0:af)(a1:Int)(a2:Pt aW)(a3:Int)(a4:Sl af)(JE:Pt aW)(CX:Int)(qO:Sl af){A:Type}(k:((Bool×Int)×(Unit×Unit×(Pt aW)×Int×Sl af×Unit×Unit))->Option A):Option A:=ptM aB (zA4 E) E.N zsl 178 [1,1,0] [.y (l.map dA.enc)] (zjH aB (lC.enc ((a0,a1,⟨a2⟩,⟨a3⟩,⟨a4⟩,{},()):af×Int×Bc 143 (Pt aW)×Bc 38 Int×Bw 30 43 3 56 af×Bs 255 178 2 4×Unit))) (zpZ 254 ((a0,a1,⟨a2⟩,⟨a3⟩,⟨a4⟩,{},()):af×Int×Bc 143 (Pt aW)×Bc 38 Int×Bw 30 43 3 56 af×Bs 255 178 2 4×Unit) k) ⟨[(2,.cl (.ptr 2 0)),(3,.cl (.ptr 3 0)),(4,.cl (.ptr 4 0)),(5,.cl (.ptr 5 0)),(6,.cl (.ptr 6 0)),(14,.p (.fn 173 [] [.fp [.int .i64 a1] 0,.fp [.fp [.sl a2.v.ak.ai.len 15 (λi=>bD.enc (a2.v.ak.ai.get i)),.sl a2.v.hits.len 6 (λi=>bD.enc (a2.v.hits.get i)),.sl a2.v.oq.len 1 (λi=>bD.enc (a2.v.oq.get i)),.int .i64 a2.v.rules.yI,.int .i64 a2.v.rules.Dj] 0] 0,.fp [.int .i64 a3] 0]))],[(2,eB 143 JE),(3,eB 38 CX),(4,.box 30 [.vec 4100]),(5,.box 255 [.clo 178 [.b 2,.b 3,.b 4,.b 5]]),(6,eB 43 a0),(4100,eV 43 3 56 qO)],[]⟩
theorem zWl(a0:af)(a1:Int)(a2:Pt aW)(a3:Int)(a4:Sl af):(zsm E (a0,a1,⟨a2⟩,⟨a3⟩,⟨a4⟩,{},())).T k=(E.i173 ((⟨a1⟩:(Pt Int)),(⟨a2⟩:(Pt (Pt aW))),(⟨a3⟩:(Pt Int)))).T λr1=>qF E r1 a0 a1 a2 a3 a4 a2 a3 a4 k:=zHG.trans krY
theorem zsn(a0:af)(a1:Int)(a2:Pt aW)(a3:Int)(a4:Sl af)(JE:Pt aW)(CX:Int)(qO:Sl af):qF E [] a0 a1 a2 a3 a4 JE CX qO k=k ((false,0),(),(),JE,CX,qO,(),()):=krY
theorem zlc(y:Int×Int)(l0:List (Int×Int))(a0:af)(a1:Int)(a2:Pt aW)(a3:Int)(a4:Sl af)(JE:Pt aW)(CX:Int)(qO:Sl af):qF E (y::l0) a0 a1 a2 a3 a4 JE CX qO k=(E.Pi (a0.Hits,(Sum.inl (⟨(),((⟨JE⟩:(Pt (Pt aW))),(⟨y.1⟩:(Pt Int)))⟩:(dM 180 Unit ((Pt (Pt aW))×(Pt Int))))))).T λr1=>cond r1 (qF E l0 a0 a1 a2 a3 a4 JE CX qO k) (aU (room a0.Hits.len 8) (aU (room (a0.Hits.len+1) 8) (aU (room a0.bu.len 8) (aU (room (a0.bu.len+1) 8) ((E.c182 (JE,(⟨CX,(⟨(a0.Hits.len+1),(iR a0.Hits.len a0.Hits.get (λ_=>y.1))⟩:(Sl Int)),(⟨(a0.bu.len+1),(iR a0.bu.len a0.bu.get (λ_=>y.2))⟩:(Sl Int))⟩:af))).T λr2=>cond (!r2) (qF E l0 a0 a1 a2 a3 a4 JE CX qO k) (aU (room (qO.len+1) 56) (cond (decide (((qO.len+1):Int)>2000)) (k ((true,CX),(),(),JE,CX,(⟨(qO.len+1),(iR qO.len qO.get (λ_=>(⟨CX,(⟨(a0.Hits.len+1),(iR a0.Hits.len a0.Hits.get (λ_=>y.1))⟩:(Sl Int)),(⟨(a0.bu.len+1),(iR a0.bu.len a0.bu.get (λ_=>y.2))⟩:(Sl Int))⟩:af)))⟩:(Sl af)),(),())) ((E.JO ((⟨CX,(⟨(a0.Hits.len+1),(iR a0.Hits.len a0.Hits.get (λ_=>y.1))⟩:(Sl Int)),(⟨(a0.bu.len+1),(iR a0.bu.len a0.bu.get (λ_=>y.2))⟩:(Sl Int))⟩:af),(aJ (y.1+1)),(⟨JE⟩:Bc 143 (Pt aW)),(⟨CX⟩:Bc 38 Int),(⟨(⟨(qO.len+1),(iR qO.len qO.get (λ_=>(⟨CX,(⟨(a0.Hits.len+1),(iR a0.Hits.len a0.Hits.get (λ_=>y.1))⟩:(Sl Int)),(⟨(a0.bu.len+1),(iR a0.bu.len a0.bu.get (λ_=>y.2))⟩:(Sl Int))⟩:af)))⟩:(Sl af))⟩:Bw 30 43 3 56 af),({}:Bs 255 178 2 4),())).T λr3=>cond r3.1.1 (k ((true,r3.1.2),(),(),r3.2.2.2.1,r3.2.2.2.2.1,r3.2.2.2.2.2.1,(),())) (qF E l0 a0 a1 a2 a3 a4 r3.2.2.2.1 r3.2.2.2.2.1 r3.2.2.2.2.2.1 k))))))))):=krY
end
theorem zWm(E:zgi)(zbI:Ok aB 179 (ae.un E.Pi))(zA5:Ok aB 182 (ae.un E.c182))(zWn:Bf aB 173 (ae.unI E.i173))(zWo:gI aB 181 (.clone 3 1 8))(zAK:jc aB 178 (ae.unP 254 E.JO)):jc aB 178 (ae.unP 254 (zsm E)):=by
  have h:jc aB 178 (λxs=>aM aB E.N (zA4 E) zsl 178 xs):=NL (aQ:=λ_=>zsl) (((((((au.nil.addN).addO zWo).addM zAK).addF zbI).addF zA5).addF (xw au.nil (dE krY))).addI zWn) (dE krY);exact(zzf h:jc aB 178 (ae.unP 254 (ae.tyP 254 _:af×Int×Bc 143 (Pt aW)×Bc 38 Int×Bw 30 43 3 56 af×Bs 255 178 2 4×Unit->ae ((Bool×Int)×(Unit×Unit×(Pt aW)×Int×Sl af×Unit×Unit)))))
structure EQ where
 N:Nat
 c210:(Sl Int)×((dM 180 Unit ((Pt (Pt aW))×(Pt Int))) ⊕ (dM 190 Unit ((Pt (Pt aW))×(Pt Int))))->ae Int
def ER(E:EQ):(Sl Int)×(dM 180 Unit ((Pt (Pt aW))×(Pt Int)))->ae Bool:=iW E.N (Tabs.nil.addF 210 (ae.un E.c210)) 179
theorem zld(E:EQ){A:Type}(k:Bool→Option A)(a0:Sl Int)(a1:(dM 180 Unit ((Pt (Pt aW))×(Pt Int)))):(ER E (a0,a1)).T k=(E.c210 (a0,(Sum.inl a1))).T λr1=>k (decide (r1>=0)):=dU
theorem zle [aH](E:EQ)(zbR:Ok aB 210 (ae.un E.c210)):Ok aB 179 (ae.un (ER E)):=dV (au.nil.addF zbR)
structure ES where
 N:Nat
 c210:(Sl Int)×((dM 180 Unit ((Pt (Pt aW))×(Pt Int))) ⊕ (dM 190 Unit ((Pt (Pt aW))×(Pt Int))))->ae Int
def ET(E:ES):(Sl Int)×(dM 190 Unit ((Pt (Pt aW))×(Pt Int)))->ae Bool:=iW E.N (Tabs.nil.addF 210 (ae.un E.c210)) 179
theorem zlf(E:ES){A:Type}(k:Bool→Option A)(a0:Sl Int)(a1:(dM 190 Unit ((Pt (Pt aW))×(Pt Int)))):(ET E (a0,a1)).T k=(E.c210 (a0,(Sum.inr a1))).T λr1=>k (decide (r1>=0)):=dU
theorem zlg [aH](E:ES)(zbR:Ok aB 210 (ae.un E.c210)):Ok aB 179 (ae.un (ET E)):=dV (au.nil.addF zbR)
structure zso where
 N:Nat
def zsp(E:zso):Int×(Pt (Pt aW))×(Pt Int)->ae Bool:=iW E.N Tabs.nil 180
theorem zWp(E:zso){A:Type}(k:Bool→Option A)(a0:Int)(a1:(Pt (Pt aW)))(a2:Pt Int):(zsp E (a0,a1,a2)).T k=aU (decide (0<=a0/\a0<(a1.v.v.hits.len:Int))) (aU (decide (0<=a2.v/\a2.v<(a1.v.v.hits.len:Int))) (k ((a1.v.v.hits.get a0.toNat).aj==(a1.v.v.hits.get a2.v.toNat).aj))):=dU
theorem zWq [aH](E:zso):Ok aB 180 (ae.un (zsp E)):=dV au.nil
structure zsq where
 N:Nat
 c93:(Pt aW)×af->ae (bW×Bool)
 c105:(Pt aW)×af->ae ((Sl ay))
 zu7:(Sl ay)->ae (Line×Int)
def zsr(E:zsq):(Pt aW)×af->ae Bool:=iW E.N (((Tabs.nil.addF 93 (ae.un E.c93)).addF 105 (ae.un E.c105)).addF 211 (ae.un E.zu7)) 182
theorem zWr(E:zsq){A:Type}(k:Bool→Option A)(a0:Pt aW)(a1:af):(zsr E (a0,a1)).T k=(E.c93 (a0,a1)).T λr1=>cond (!r1.2) (k false) ((E.c105 (a0,a1)).T λr2=>(E.zu7 r2).T λr3=>k (r3.2 != 5)):=dU
theorem zWs [aH](E:zsq)(h93:Ok aB 93 (ae.un E.c93))(zbH:Ok aB 105 (ae.un E.c105))(zA6:Ok aB 211 (ae.un E.zu7)):Ok aB 182 (ae.un (zsr E)):=dV (((au.nil.addF h93).addF zbH).addF zA6)
structure zgj where
 N:Nat
abbrev zJk(E:zgj):bI:=gQ Tabs.nil []
def zJl:dG:=bP aB 185 [] {}
def zss(E:zgj):(Sl Int)->ae Int:=ae.ty (aF aB E.N (zJk E) zJl 185)
section
variable(E:zgj){A:Type}(k:Int->Option A)
def H6(E:zgj)(n:Nat)(a0:Sl Int)(v8:Int){A:Type}(k:Int->Option A):Option A:=iK aB (zJk E) E.N zJl 185 [1,1,0,1,0] [.n n] (iJ k) ⟨[(3,.int 0),(6,eP a0),(7,.int (a0.len:Int)),(8,.int v8)],[],[]⟩
theorem e185(a0:Sl Int):(zss E (a0)).T k=H6 E E.N a0 0 k:=dU
theorem zlh(n0:Nat)(a0:Sl Int)(v8:Int):H6 E (n0+1) a0 v8 k=cond (decide (v8<(a0.len:Int))) (aU (decide (0<=v8/\v8<(a0.len:Int))) (cond (a0.get v8.toNat != 0) (k (a0.get v8.toNat)) (H6 E n0 a0 (aJ (v8+1)) k))) (k 0):=krY
end
theorem zWu [aH](E:zgj):Ok aB 185 (ae.un (zss E)):=dV au.nil
structure zst where
 N:Nat
 c222:Int->ae Bool
def zsu(E:zst):Int×Int->ae Int:=iW E.N (Tabs.nil.addF 222 (ae.un E.c222)) 186
theorem zWv(E:zst){A:Type}(k:Int→Option A)(a0 a1:Int):(zsu E (a0,a1)).T k=(E.c222 a0).T λr1=>(E.c222 a1).T λr2=>cond r1 (cond r2 (k 0) (k (-1))) (cond r2 (k 1) (cond (decide (a0<a1)) (k (-1)) (cond (decide (a0>a1)) (k 1) (k 0)))):=dU
theorem zWw [aH](E:zst)(zsv:Ok aB 222 (ae.un E.c222)):Ok aB 186 (ae.un (zsu E)):=dV (au.nil.addF zsv)
structure zgk where
 N:Nat
 c208:Int×Int->ae Int
abbrev zJm(E:zgk):bI:=gQ (Tabs.nil.addF 208 (ae.un E.c208)) []
def zJn:dG:=bP aB 187 [] {}
def zsw(E:zgk):(Sl Int)×(Sl Int)->ae Int:=ae.ty (aF aB E.N (zJm E) zJn 187)
section
variable(E:zgk){A:Type}(k:Int->Option A)
def UE(E:zgk)(n:Nat)(a0 a1:Sl Int)(v11:Int){A:Type}(k:Int->Option A):Option A:=iK aB (zJm E) E.N zJn 187 [1,0,1,0] [.n n] (iJ k) ⟨[(0,eP a0),(1,eP a1),(9,eP a0),(10,.int (a0.len:Int)),(11,.int v11)],[],[]⟩
theorem e187(a0 a1:Sl Int):(zsw E (a0,a1)).T k=UE E E.N a0 a1 0 k:=dU
theorem zli(n0:Nat)(a0 a1:Sl Int)(v11:Int):UE E (n0+1) a0 a1 v11 k=cond (decide (v11<(a0.len:Int))) (aU (decide (0<=v11/\v11<(a0.len:Int))) (cond (decide (v11>=(a1.len:Int))) (k 1) (aU (decide (0<=v11/\v11<(a1.len:Int))) ((E.c208 (a0.get v11.toNat,a1.get v11.toNat)).T λr1=>cond (r1 != 0) (k r1) (UE E n0 a0 a1 (aJ (v11+1)) k))))) (cond (decide ((a0.len:Int)<(a1.len:Int))) (k (-1)) (k 0)):=krY
end
theorem zWx [aH](E:zgk)(zbQ:Ok aB 208 (ae.un E.c208)):Ok aB 187 (ae.un (zsw E)):=dV (au.nil.addF zbQ)
structure zsx where
 N:Nat
def zsy(E:zsx):Int×(Pt (Pt aW))×(Pt Int)->ae Bool:=iW E.N Tabs.nil 190
theorem e190(E:zsx){A:Type}(k:Bool→Option A)(a0:Int)(a1:(Pt (Pt aW)))(a2:Pt Int):(zsy E (a0,a1,a2)).T k=aU (decide (0<=a0/\a0<(a1.v.v.hits.len:Int))) (k ((a1.v.v.hits.get a0.toNat).aj==a2.v)):=dU
theorem zWy [aH](E:zsx):Ok aB 190 (ae.un (zsy E)):=dV au.nil
structure zsz where
 N:Nat
def zsA(E:zsz):aP->ae Int:=iW E.N Tabs.nil 191
theorem zWz(E:zsz){A:Type}(k:Int→Option A)(a0:aP):(zsA E (a0)).T k=cond (decide (a0.Num<0)) (aU (decide (a0.bK≠0)) (k (aJ (0-(aJ ((aJ ((aJ ((aJ (0-a0.Num))+a0.bK))-1)).tdiv a0.bK)))))) (aU (decide (a0.bK≠0)) (k (aJ (a0.Num.tdiv a0.bK)))):=dU
theorem zWA [aH](E:zsz):Ok aB 191 (ae.un (zsA E)):=dV au.nil
structure zsB where
 N:Nat
 Qd:aP->ae Int
def zsC(E:zsB):aP->ae Int:=iW E.N (Tabs.nil.addF 191 (ae.un E.Qd)) 192
theorem zWB(E:zsB){A:Type}(k:Int→Option A)(a0:aP):(zsC E (a0)).T k=(E.Qd (⟨(aJ (0-a0.Num)),a0.bK⟩:aP)).T λr1=>k (aJ (0-r1)):=dU
theorem zWC [aH](E:zsB)(zbJ:Ok aB 191 (ae.un E.Qd)):Ok aB 192 (ae.un (zsC E)):=dV (au.nil.addF zbJ)
structure zgl where
 N:Nat
abbrev zJo(E:zgl):bI:=gQ Tabs.nil []
def zJp:dG:=bP aB 193 [] {}
def zsD(E:zgl):(Sl ay)->ae (Int×Int×Bool):=ae.ty (aF aB E.N (zJo E) zJp 193)
section
variable(E:zgl){A:Type}(k:(Int×Int×Bool)->Option A)
def UF(E:zgl)(n:Nat)(a0:Sl ay)(v5 v6 v7:Int){A:Type}(k:(Int×Int×Bool)->Option A):Option A:=iK aB (zJo E) E.N zJp 193 [1,1,0,1,0] [.n n] (iJ k) ⟨[(0,eP a0),(5,.int v5),(6,.int v6),(7,.int v7)],[],[]⟩
theorem zWD(a0:Sl ay):(zsD E (a0)).T k=aU (decide ((0:Int)<=0/\0<(a0.len:Int))) (aU (decide ((0:Int)<=0/\0<(a0.len:Int))) (UF E E.N a0 (a0.get 0).Low (a0.get 0).High 1 k)):=dU
theorem zlj(n0:Nat)(a0:Sl ay)(v5 v6 v7:Int):UF E (n0+1) a0 v5 v6 v7 k=cond (decide (v7<(a0.len:Int))) (aU (decide (0<=v7/\v7<(a0.len:Int))) (aU (decide (0<=v7/\v7<(a0.len:Int))) (UF E n0 a0 (if(a0.get v7.toNat).Low>v5 then(a0.get v7.toNat).Low else v5) (if(a0.get v7.toNat).High<v6 then(a0.get v7.toNat).High else v6) (aJ (v7+1)) k))) (k (v5,v6,decide (v5<=v6))):=krY
end
theorem zWE [aH](E:zgl):Ok aB 193 (ae.un (zsD E)):=dV au.nil
structure P7 where
 N:Nat
 znS:(Sl ay)->ae ((Sl Line))
 c57:Line×(Sl ay)->ae ((Sl Int))
 c226:Line×Line×(Sl ay)->ae Bool
abbrev zlk(E:P7):bI:=gQ (((Tabs.nil.addF 225 (ae.un E.znS)).addF 57 (ae.un E.c57)).addF 226 (ae.un E.c226)) []
def zll:dG:=bP aB 194 [] {ks:=[(0,1,⟨[],[(3,5000,114)],[],[],[],[],[]⟩),(1,4,⟨[],[],[],[],[],[3],[]⟩)],cut:=[10,11]}
def zlm(E:P7):(Sl ay)->ae ((Sl Line)):=ae.ty (aF aB E.N (zlk E) zll 194)
section
variable(E:P7){A:Type}(k:(Sl Line)->Option A)
def jU(E:P7)(n:Nat)(a0:Sl ay)(v3 v4:Sl Line)(v5:Int){A:Type}(k:(Sl Line)->Option A):Option A:=iK aB (zlk E) E.N zll 194 [1,1,1,0,1,0] [.n n] (iJ k) ⟨[(0,eP a0),(3,eP v3),(4,eP v4),(5,.int v5)],[],[]⟩
def oZ(E:P7)(n0 n:Nat)(a0:Sl ay)(v3 v4:Sl Line)(v5 v6:Int){A:Type}(k:(Sl Line)->Option A):Option A:=iK aB (zlk E) E.N zll 194 [1,1,1,0,1,0,0,1,0,0,1,1,0,0] [.n n0,.n n] (iJ k) ⟨[(0,eP a0),(3,eP v3),(4,eP v4),(5,.int v5),(6,.int v6)],[],[]⟩
def lY(E:P7)(n0:Nat)(a0:Sl ay)(v3 v4:Sl Line)(v5 v6:Int){A:Type}(k:(Sl Line)->Option A):Option A:=iK aB (zlk E) E.N zll 194 [1,1,1,0,1,0,0,1,0,0,1,1,1] [.n n0] (iJ k) ⟨[(0,eP a0),(3,eP v3),(4,eP v4),(5,.int v5),(6,.int v6)],[],[]⟩
def CY(E:P7)(n0:Nat)(a0:Sl ay)(v3 v4:Sl Line)(v5 v6:Int){A:Type}(k:(Sl Line)->Option A):Option A:=iK aB (zlk E) E.N zll 194 [1,1,1,0,1,0,0,1,0,0,1,1,1,1] [.n n0] (iJ k) ⟨[(0,eP a0),(3,eP v3),(4,eP v4),(5,.int v5),(6,.int v6)],[],[]⟩
theorem zJq(a0:Sl ay):(zlm E (a0)).T k=(E.znS a0).T λr1=>jU E E.N a0 (⟨0,(λ_=>(⟨(⟨0,0⟩:aP),(⟨0,0⟩:aP)⟩:Line))⟩:(Sl Line)) r1 0 k:=dU
theorem UG(n0:Nat)(a0:Sl ay)(v3 v4:Sl Line)(v5:Int):jU E (n0+1) a0 v3 v4 v5 k=cond (decide (v5<(v4.len:Int))) (aU (decide (0<=v5/\v5<(v4.len:Int))) ((E.c57 ((v4.get v5.toNat),a0)).T λr1=>cond (decide ((r1.len:Int)<(a0.len:Int))) (jU E n0 a0 v3 v4 (aJ (v5+1)) k) (oZ E n0 E.N a0 v3 v4 v5 0 k))) (k v3):=krY
theorem UH(n0 n1:Nat)(a0:Sl ay)(v3 v4:Sl Line)(v5 v6:Int):oZ E n0 (n1+1) a0 v3 v4 v5 v6 k=cond (decide (v6<(v3.len:Int))) (aU (decide (0<=v6/\v6<(v3.len:Int))) (aU (decide (0<=v5/\v5<(v4.len:Int))) ((E.c226 ((v3.get v6.toNat),(v4.get v5.toNat),a0)).T λr1=>cond r1 (oZ E n0 n1 a0 v3 v4 v5 (aJ (v6+1)) k) (lY E n0 a0 v3 v4 v5 v6 k)))) (lY E n0 a0 v3 v4 v5 v6 k):=krY
theorem UI(n0:Nat)(a0:Sl ay)(v3 v4:Sl Line)(v5 v6:Int):lY E n0 a0 v3 v4 v5 v6 k=cond (decide (v6<(v3.len:Int))) (aU (decide (0<=v6/\v6<(v3.len:Int))) (aU (decide (0<=v5/\v5<(v4.len:Int))) (cond (cond (cond ((v3.get v6.toNat).dI.Num==(v4.get v5.toNat).dI.Num) (cond ((v3.get v6.toNat).dI.bK==(v4.get v5.toNat).dI.bK) true false) false) (cond (cond ((v3.get v6.toNat).Start.Num==(v4.get v5.toNat).Start.Num) (cond ((v3.get v6.toNat).Start.bK==(v4.get v5.toNat).Start.bK) true false) false) true false) false) (jU E n0 a0 v3 v4 (aJ (v5+1)) k) (CY E n0 a0 v3 v4 v5 v6 k)))) (CY E n0 a0 v3 v4 v5 v6 k):=krY
theorem zln(n0:Nat)(a0:Sl ay)(v3 v4:Sl Line)(v5 v6:Int):CY E n0 a0 v3 v4 v5 v6 k=aU (decide ((0:Int)<=0/\(0:Int)<=v6/\v6<=(v3.len:Int))) (aU (room ((v6:Int)-0).toNat 32) (aU (decide (0<=v5/\v5<(v4.len:Int))) (aU (room (((v6:Int)-0).toNat+1) 32) (aU (decide ((0:Int)<=v6/\(v6:Int)<=(v3.len:Int)/\(v3.len:Int)<=(v3.len:Int))) (aU (room ((((v6:Int)-0).toNat+1)+(((v3.len:Int):Int)-v6).toNat) 32) (jU E n0 a0 (⟨((((v6:Int)-0).toNat+1)+(((v3.len:Int):Int)-v6).toNat),(iR (((v6:Int)-0).toNat+1) (iR ((v6:Int)-0).toNat (xZ v3.get 0) (λ_=>(v4.get v5.toNat))) (xZ v3.get v6.toNat))⟩:(Sl Line)) v4 (aJ (v5+1)) k)))))):=krY
end
theorem zWF [aH](E:P7)(zlo:Ok aB 225 (ae.un E.znS))(h57:Ok aB 57 (ae.un E.c57))(zlp:Ok aB 226 (ae.un E.c226)):Ok aB 194 (ae.un (zlm E)):=dV (((au.nil.addF zlo).addF h57).addF zlp)
structure zbS where
 N:Nat
 c87:(Sl bz)×(Sl Int)×Int->ae Bool
 c75:ak×bz->ae ((Sl ay))
 c227:af×Int×Int->ae af
 c196:ak×(Sl bz)×af->ae Bool
 Pn:(ak×(Sl bz)×af×Int)×Sl af->ae (Sl af)
abbrev zA7(E:zbS):bI:=gQ (((((Tabs.nil.addO 195 (.grow 43 3 56 (ae.unW E.Pn))).addF 87 (ae.un E.c87)).addF 75 (ae.un E.c75)).addF 227 (ae.un E.c227)).addF 196 (ae.un E.c196)) []
def zA8:dG:=bP aB 195 [] {}
def zsE(E:zbS):(ak×(Sl bz)×af×Int)×Sl af->ae (Sl af):=ae.tyW (aG aB E.N (zA7 E) zA8 195 43 3 56)
section
variable(E:zbS){A:Type}(k:(Sl af)->Option A)
def sK(E:zbS)(n:Nat)(a0:ak)(a1:Sl bz)(a2:af)(v11:Int)(nJ:Sl af){A:Type}(k:(Sl af)->Option A):Option A:=ptG aB (zA7 E) E.N zA8 195 [1,0,1,0] [.n n] (NQ 43 3 56) (zzn k) ⟨[(1,eP a1),(4,.cl (.vec 4095)),(5,.cl (.ptr 5 0)),(7,.cl (.ptr 7 0)),(11,.int v11)],[(4095,eV 43 3 56 nJ),(5,eB 24 a0),(7,eB 43 a2)],[]⟩
def xE(E:zbS)(n0 n:Nat)(a0:ak)(a1:Sl bz)(a2:af)(v11:Int)(iM:Sl ay)(gK:Int)(nJ:Sl af){A:Type}(k:(Sl af)->Option A):Option A:=ptG aB (zA7 E) E.N zA8 195 [1,0,1,0,0,1,0,0,1,1,1,1,0] [.n n0,.n n] (NQ 43 3 56) (zzn k) ⟨[(1,eP a1),(4,.cl (.vec 4095)),(5,.cl (.ptr 5 0)),(7,.cl (.ptr 7 0)),(11,.int v11),(13,eP iM),(14,.int gK)],[(4095,eV 43 3 56 nJ),(5,eB 24 a0),(7,eB 43 a2)],[]⟩
theorem e195(a0:ak)(a1:Sl bz)(a2:af)(a3:Int)(a4:Sl af):(zsE E ((a0,a1,a2,a3),a4)).T k=sK E E.N a0 a1 a2 a3 a4 k:=zHO.trans krY
theorem zlq(n0:Nat)(a0:ak)(a1:Sl bz)(a2:af)(v11:Int)(nJ:Sl af):sK E (n0+1) a0 a1 a2 v11 nJ k=cond (decide (v11<(a1.len:Int))) (aU (decide (0<=v11/\v11<(a1.len:Int))) (aU (decide (0<=(a1.get v11.toNat).aj/\(a1.get v11.toNat).aj<(a0.ai.len:Int))) (cond ((a0.ai.get (a1.get v11.toNat).aj.toNat).View != a2.View) (sK E n0 a0 a1 a2 (aJ (v11+1)) nJ k) ((E.c87 (a1,a2.Hits,(a1.get v11.toNat).aj)).T λr1=>cond r1 (sK E n0 a0 a1 a2 (aJ (v11+1)) nJ k) ((E.c75 (a0,(a1.get v11.toNat))).T λr2=>xE E n0 E.N a0 a1 a2 v11 r2 0 nJ k))))) (k nJ):=krY
theorem zbT(n0 n1:Nat)(a0:ak)(a1:Sl bz)(a2:af)(v11:Int)(iM:Sl ay)(gK:Int)(nJ:Sl af):xE E n0 (n1+1) a0 a1 a2 v11 iM gK nJ k=cond (decide (gK<(iM.len:Int))) (cond (decide ((nJ.len:Int)<=2000)) ((E.c227 (a2,v11,gK)).T λr1=>(E.c196 (a0,a1,r1)).T λr2=>cond r2 (aU (room (nJ.len+1) 56) ((E.Pn ((a0,a1,r1,(aJ (v11+1))),(⟨(nJ.len+1),(iR nJ.len nJ.get (λ_=>r1))⟩:(Sl af)))).T λr3=>xE E n0 n1 a0 a1 a2 v11 iM (aJ (gK+1)) r3 k)) (xE E n0 n1 a0 a1 a2 v11 iM (aJ (gK+1)) nJ k)) (sK E n0 a0 a1 a2 (aJ (v11+1)) nJ k)) (sK E n0 a0 a1 a2 (aJ (v11+1)) nJ k):=krY
end
theorem zWG [aH](E:zbS)(h87:Ok aB 87 (ae.un E.c87))(h75:Ok aB 75 (ae.un E.c75))(zA9:Ok aB 227 (ae.un E.c227))(zbN:Ok aB 196 (ae.un E.c196))(zAX:gI aB 195 (.grow 43 3 56 (ae.unW E.Pn))):gI aB 195 (.grow 43 3 56 (ae.unW (zsE E))):=zzm (zzl (((((au.nil.addO zAX).addF h87).addF h75).addF zA9).addF zbN) (dE krY))
structure zsF where
 N:Nat
 c65:ak×(Sl bz)×af->ae ((Sl ay))
 c145:(Sl ay)->ae Bool
 c90:ak×(Sl bz)×(Sl Int)->ae Bool
def zsG(E:zsF):ak×(Sl bz)×af->ae Bool:=iW E.N (((Tabs.nil.addF 65 (ae.un E.c65)).addF 145 (ae.un E.c145)).addF 90 (ae.un E.c90)) 196
theorem zWH(E:zsF){A:Type}(k:Bool→Option A)(a0:ak)(a1:Sl bz)(a2:af):(zsG E (a0,a1,a2)).T k=(E.c65 (a0,a1,a2)).T λr1=>(E.c145 r1).T λr2=>cond r2 ((E.c90 (a0,a1,a2.Hits)).T λr3=>k r3) (k false):=dU
theorem zWI [aH](E:zsF)(h65:Ok aB 65 (ae.un E.c65))(zBa:Ok aB 145 (ae.un E.c145))(h90:Ok aB 90 (ae.un E.c90)):Ok aB 196 (ae.un (zsG E)):=dV (((au.nil.addF h65).addF zBa).addF h90)
structure zsH where
 N:Nat
 kQ:Int×Int->ae aP
def zsI(E:zsH):straight->ae Line:=iW E.N (Tabs.nil.addF 172 (ae.un E.kQ)) 198
theorem zWK(E:zsH){A:Type}(k:Line→Option A)(a0:straight):(zsI E (a0)).T k=(E.kQ (a0.bT,a0.den)).T λr1=>(E.kQ (a0.start,a0.den)).T λr2=>k (⟨r1,r2⟩:Line):=dU
theorem zWL [aH](E:zsH)(rq:Ok aB 172 (ae.un E.kQ)):Ok aB 198 (ae.un (zsI E)):=dV (au.nil.addF rq)
structure zsJ where
 N:Nat
 c206:(Sl ay)×((dM 207 Unit (Pt list)) ⊕ (dM 230 Unit (Pt straight)) ⊕ (dM 257 Unit (Pt straight)))->ae Bool
def zsK(E:zsJ):set×straight->ae Bool:=iW E.N (Tabs.nil.addF 206 (ae.un E.c206)) 199
theorem e199(E:zsJ){A:Type}(k:Bool→Option A)(a0:set)(a1:straight):(zsK E (a0,a1)).T k=(E.c206 (a0.list.bJ,(Sum.inr (Sum.inl (⟨(),(⟨a1⟩:(Pt straight))⟩:(dM 230 Unit (Pt straight))))))).T λr1=>k (!r1):=dU
theorem zWM [aH](E:zsJ)(Oo:Ok aB 206 (ae.un E.c206)):Ok aB 199 (ae.un (zsK E)):=dV (au.nil.addF Oo)
structure zgm where
 N:Nat
abbrev zJr(E:zgm):bI:=gQ Tabs.nil []
def zJs:dG:=bP aB 200 [] {}
def zsL(E:zgm):list->ae bW:=ae.ty (aF aB E.N (zJr E) zJs 200)
section
variable(E:zgm){A:Type}(k:bW->Option A)
def UJ(E:zgm)(n:Nat)(a0:list)(v20:Int)(x3:bW){A:Type}(k:bW->Option A):Option A:=iK aB (zJr E) E.N zJs 200 [1,1,0,1,0] [.n n] (iJ k) ⟨[(2,.cl (.ptr 2 0)),(3,.cl (.ptr 3 0)),(18,eP a0.bJ),(19,.int (a0.bJ.len:Int)),(20,.int v20)],[(2,.box 105 [.p (.int .i64 0),.p (.int .i64 0)]),(3,eB 105 x3)],[]⟩
theorem zWN(a0:list):(zsL E (a0)).T k=aU (decide ((0:Int)<=0/\0<(a0.bJ.len:Int))) (aU (decide ((0:Int)<=0/\0<(a0.bJ.len:Int))) (UJ E E.N a0 0 (⟨(a0.bJ.get 0).Low,(a0.bJ.get 0).High⟩:bW) k)):=dU
theorem zlr(n0:Nat)(a0:list)(v20:Int)(x3:bW):UJ E (n0+1) a0 v20 x3 k=cond (decide (v20<(a0.bJ.len:Int))) (aU (decide (0<=v20/\v20<(a0.bJ.len:Int))) (UJ E n0 a0 (aJ (v20+1)) (⟨(if(a0.bJ.get v20.toNat).Low>x3.Low then(a0.bJ.get v20.toNat).Low else x3.Low),(if(a0.bJ.get v20.toNat).High<x3.High then(a0.bJ.get v20.toNat).High else x3.High)⟩:bW) k)) (k x3):=krY
end
theorem zWO [aH](E:zgm):Ok aB 200 (ae.un (zsL E)):=dV au.nil
structure zsM where
 N:Nat
 c203:straight×Int->ae aP
def zsN(E:zsM):straight×(Pt Int)->ae aP:=iW E.N (Tabs.nil.addF 203 (ae.un E.c203)) 202
theorem zWP(E:zsM){A:Type}(k:aP→Option A)(a0:straight)(a1:Pt Int):(zsN E (a0,a1)).T k=(E.c203 (a0,a1.v)).T λr1=>k r1:=dU
theorem zWQ [aH](E:zsM)(zBb:Ok aB 203 (ae.un E.c203)):Ok aB 202 (ae.un (zsN E)):=dV (au.nil.addF zBb)
structure zsO where
 N:Nat
def zsP(E:zsO):straight×Int->ae aP:=iW E.N Tabs.nil 203
theorem e203(E:zsO){A:Type}(k:aP→Option A)(a0:straight)(a1:Int):(zsP E (a0,a1)).T k=k (⟨(aJ (a0.start+(aJ (a0.bT*a1)))),a0.den⟩:aP):=dU
theorem zWR [aH](E:zsO):Ok aB 203 (ae.un (zsP E)):=dV au.nil
structure zbU where
 N:Nat
 zu4:(Sl Int)×Int->ae (Int×Bool)
abbrev zJt(E:zbU):bI:=gQ (Tabs.nil.addF 205 (ae.un E.zu4)) []
def zJu:dG:=bP aB 204 [0] {yl:=[9]}
def zJv(E:zbU)(c:List PA):YO:=aI aB (zJt E) E.N zJu 204 c
def zBc(E:zbU):(Pt placed)->ae (List (Int×bW)):=ae.tyI λc=>.opt (zJv E c)
section
variable(E:zbU)
def H7(E:zbU)(n:Nat)(a1:Pt placed)(v3 v19:Int):YO:=ptY aB (zJt E) E.N zJu 204 [1,1,1,0] [n] ⟨[(0,.cl (.vec 4095)),(1,eP a1),(3,.int v3),(18,.int a1.v.aj.bC),(19,.int v19)],[(4095,.gone)],[]⟩
theorem e204(a1:Pt placed):zJv E (dA.enc ((a1):(Pt placed)))=cond (a1.v.aj.Kind==2) (H7 E E.N a1 (aJ (a1.v.aj.aO.tdiv 2)) 0) (H7 E E.N a1 0 0):=krY
theorem zls(n0:Nat)(a1:Pt placed)(v3 v19:Int):H7 E (n0+1) a1 v3 v19=cond (decide (v19<a1.v.aj.bC)) ((E.zu4 (a1.v.aj.Dead,v19)).T λr1=>cond r1.2 (H7 E n0 a1 v3 (aJ (v19+1))) (yT (dA.enc ((v19,(⟨(aJ ((aJ (a1.v.aj.First+(aJ (v19*a1.v.aj.aO))))-v3)),(aJ ((aJ ((aJ ((aJ (a1.v.aj.First+(aJ (v19*a1.v.aj.aO))))-v3))+a1.v.aj.aO))-1))⟩:bW)):Int×bW)) (some []) (H7 E n0 a1 v3 (aJ (v19+1))))) (some []):=krY
end
theorem zWS(E:zbU)(zBd:Ok aB 205 (ae.un E.zu4)):Bf aB 204 (ae.unI (zBc E)):=Ud (NM (au.nil.addF zBd) (dE krY))
structure zgn where
 N:Nat
 c236:Int×Int->ae Bool
 znT:Int->ae Bool
abbrev zJw(E:zgn):bI:=gQ ((Tabs.nil.addF 236 (ae.un E.c236)).addF 237 (ae.un E.znT)) []
def zJx:dG:=bP aB 205 [] {}
def zsQ(E:zgn):(Sl Int)×Int->ae (Int×Bool):=ae.ty (aF aB E.N (zJw E) zJx 205)
section
variable(E:zgn){A:Type}(k:(Int×Bool)->Option A)
def zJ(E:zgn)(n:Nat)(a0:Sl Int)(a1 v7 v8:Int){A:Type}(k:(Int×Bool)->Option A):Option A:=iK aB (zJw E) E.N zJx 205 [1,1,1,0,0] [.n n] (iJ k) ⟨[(0,eP a0),(1,.int a1),(6,.int (a0.len:Int)),(7,.int v7),(8,.int v8)],[],[]⟩
theorem zWT(a0:Sl Int)(a1:Int):(zsQ E (a0,a1)).T k=zJ E E.N a0 a1 0 (a0.len:Int) k:=dU
theorem UK(n0:Nat)(a0:Sl Int)(a1 v7 v8:Int):zJ E (n0+1) a0 a1 v7 v8 k=cond (decide (v7<v8)) (aU (decide (0<=(aJ (Gs .u64 (IntKind.u64.wrap (aJ (v7+v8))) 1))/\(aJ (Gs .u64 (IntKind.u64.wrap (aJ (v7+v8))) 1))<(a0.len:Int))) ((E.c236 (a0.get (aJ (Gs .u64 (IntKind.u64.wrap (aJ (v7+v8))) 1)).toNat,a1)).T λr1=>cond r1 (zJ E n0 a0 a1 (aJ ((aJ (Gs .u64 (IntKind.u64.wrap (aJ (v7+v8))) 1))+1)) v8 k) (zJ E n0 a0 a1 v7 (aJ (Gs .u64 (IntKind.u64.wrap (aJ (v7+v8))) 1)) k))) (cond (decide (v7<(a0.len:Int))) (aU (decide (0<=v7/\v7<(a0.len:Int))) (cond (a0.get v7.toNat==a1) (k (v7,true)) (aU (decide (0<=v7/\v7<(a0.len:Int))) ((E.znT (a0.get v7.toNat)).T λr2=>cond r2 ((E.znT a1).T λr3=>k (v7,r3)) (k (v7,false)))))) (k (v7,false))):=krY
end
theorem zWU [aH](E:zgn)(zBe:Ok aB 236 (ae.un E.c236))(zBf:Ok aB 237 (ae.un E.znT)):Ok aB 205 (ae.un (zsQ E)):=dV ((au.nil.addF zBe).addF zBf)
structure EU where
 N:Nat
 FY:(Sl ay)×((dM 207 Unit (Pt list)) ⊕ (dM 230 Unit (Pt straight)) ⊕ (dM 257 Unit (Pt straight)))->ae Int
def EW(E:EU):(Sl ay)×(dM 207 Unit (Pt list))->ae Bool:=iW E.N (Tabs.nil.addF 238 (ae.un E.FY)) 206
theorem zlt(E:EU){A:Type}(k:Bool→Option A)(a0:Sl ay)(a1:(dM 207 Unit (Pt list))):(EW E (a0,a1)).T k=(E.FY (a0,(Sum.inl a1))).T λr1=>k (decide (r1>=0)):=dU
theorem zlu [aH](E:EU)(Ov:Ok aB 238 (ae.un E.FY)):Ok aB 206 (ae.un (EW E)):=dV (au.nil.addF Ov)
structure EX where
 N:Nat
 FY:(Sl ay)×((dM 207 Unit (Pt list)) ⊕ (dM 230 Unit (Pt straight)) ⊕ (dM 257 Unit (Pt straight)))->ae Int
def EY(E:EX):(Sl ay)×(dM 230 Unit (Pt straight))->ae Bool:=iW E.N (Tabs.nil.addF 238 (ae.un E.FY)) 206
theorem zlv(E:EX){A:Type}(k:Bool→Option A)(a0:Sl ay)(a1:(dM 230 Unit (Pt straight))):(EY E (a0,a1)).T k=(E.FY (a0,(Sum.inr (Sum.inl a1)))).T λr1=>k (decide (r1>=0)):=dU
theorem zlw [aH](E:EX)(Ov:Ok aB 238 (ae.un E.FY)):Ok aB 206 (ae.un (EY E)):=dV (au.nil.addF Ov)
structure EZ where
 N:Nat
 FY:(Sl ay)×((dM 207 Unit (Pt list)) ⊕ (dM 230 Unit (Pt straight)) ⊕ (dM 257 Unit (Pt straight)))->ae Int
def E5(E:EZ):(Sl ay)×(dM 257 Unit (Pt straight))->ae Bool:=iW E.N (Tabs.nil.addF 238 (ae.un E.FY)) 206
theorem zlx(E:EZ){A:Type}(k:Bool→Option A)(a0:Sl ay)(a1:(dM 257 Unit (Pt straight))):(E5 E (a0,a1)).T k=(E.FY (a0,(Sum.inr (Sum.inr a1)))).T λr1=>k (decide (r1>=0)):=dU
theorem zly [aH](E:EZ)(Ov:Ok aB 238 (ae.un E.FY)):Ok aB 206 (ae.un (E5 E)):=dV (au.nil.addF Ov)
structure zsR where
 N:Nat
def zsS(E:zsR):ay×(Pt list)->ae Bool:=iW E.N Tabs.nil 207
theorem e207(E:zsR){A:Type}(k:Bool→Option A)(a0:ay)(a1:Pt list):(zsS E (a0,a1)).T k=aU (decide ((0:Int)<=0/\0<(a1.v.bJ.len:Int))) (k (a0.Z != (a1.v.bJ.get 0).Z)):=dU
theorem zWV [aH](E:zsR):Ok aB 207 (ae.un (zsS E)):=dV au.nil
structure zsU where
 N:Nat
 Pj:Int->ae Bool
def zsV(E:zsU):Int×Int->ae Int:=iW E.N (Tabs.nil.addF 239 (ae.un E.Pj)) 208
theorem e208(E:zsU){A:Type}(k:Int→Option A)(a0 a1:Int):(zsV E (a0,a1)).T k=(E.Pj a0).T λr1=>(E.Pj a1).T λr2=>cond r1 (cond r2 (k 0) (k (-1))) (cond r2 (k 1) (cond (decide (a0<a1)) (k (-1)) (cond (decide (a0>a1)) (k 1) (k 0)))):=dU
theorem zWW [aH](E:zsU)(Yu:Ok aB 239 (ae.un E.Pj)):Ok aB 208 (ae.un (zsV E)):=dV (au.nil.addF Yu)
structure zgo where
 N:Nat
abbrev zJy(E:zgo):bI:=gQ Tabs.nil []
def zJz:dG:=bP aB 209 [] {}
def zsW(E:zgo):Int×Int->ae Int:=ae.ty (aF aB E.N (zJy E) zJz 209)
section
variable(E:zgo){A:Type}(k:Int->Option A)
def UL(E:zgo)(n:Nat)(v0 v1:Int){A:Type}(k:Int->Option A):Option A:=iK aB (zJy E) E.N zJz 209 [1,0,0] [.n n] (iJ k) ⟨[(0,.int v0),(1,.int v1)],[],[]⟩
theorem e209(a0 a1:Int):(zsW E (a0,a1)).T k=UL E E.N a0 a1 k:=dU
theorem zBg(n0:Nat)(v0 v1:Int):UL E (n0+1) v0 v1 k=cond (decide (v1>0)) (aU (decide (v1≠0)) (UL E n0 v1 (v0.tmod v1) k)) (k v0):=krY
end
theorem zWX [aH](E:zgo):Ok aB 209 (ae.un (zsW E)):=dV au.nil
structure wC where
 N:Nat
 znP:Int×(Pt (Pt aW))×(Pt Int)->ae Bool
abbrev Yv(E:wC):bI:=gQ (Tabs.nil.addF 180 (ae.un E.znP)) []
def Yw:dG:=bP aB 210 [] {}
def Fa(E:wC):(Sl Int)×(dM 180 Unit ((Pt (Pt aW))×(Pt Int)))->ae Int:=ae.ty (aF aB E.N (Yv E) Yw 210)
section
variable(E:wC){A:Type}(k:Int->Option A)
def xG(E:wC)(n:Nat)(a0:Sl Int)(a1:(dM 180 Unit ((Pt (Pt aW))×(Pt Int))))(v8:Int){A:Type}(k:Int->Option A):Option A:=iK aB (Yv E) E.N Yw 210 [1,0,1,0] [.n n] (iJ k) ⟨[(0,eP a0),(1,eP a1),(7,.int (a0.len:Int)),(8,.int v8)],[],[]⟩
theorem zlz(a0:Sl Int)(a1:(dM 180 Unit ((Pt (Pt aW))×(Pt Int)))):(Fa E (a0,a1)).T k=xG E E.N a0 a1 0 k:=dU
theorem Ox(n0:Nat)(a0:Sl Int)(a1:(dM 180 Unit ((Pt (Pt aW))×(Pt Int))))(v8:Int):xG E (n0+1) a0 a1 v8 k=cond (decide (v8<(a0.len:Int))) (aU (decide (0<=v8/\v8<(a0.len:Int))) ((E.znP (a0.get v8.toNat,a1.v.1,a1.v.2)).T λr1=>cond r1 (k v8) (xG E n0 a0 a1 (aJ (v8+1)) k))) (k (-1)):=krY
end
theorem zlA [aH](E:wC)(zBh:Ok aB 180 (ae.un E.znP)):Ok aB 210 (ae.un (Fa E)):=dV (au.nil.addF zBh)
structure wE where
 N:Nat
 znR:Int×(Pt (Pt aW))×(Pt Int)->ae Bool
abbrev Yx(E:wE):bI:=gQ (Tabs.nil.addF 190 (ae.un E.znR)) []
def Yy:dG:=bP aB 210 [] {}
def Fb(E:wE):(Sl Int)×(dM 190 Unit ((Pt (Pt aW))×(Pt Int)))->ae Int:=ae.ty (aF aB E.N (Yx E) Yy 210)
section
variable(E:wE){A:Type}(k:Int->Option A)
def xH(E:wE)(n:Nat)(a0:Sl Int)(a1:(dM 190 Unit ((Pt (Pt aW))×(Pt Int))))(v8:Int){A:Type}(k:Int->Option A):Option A:=iK aB (Yx E) E.N Yy 210 [1,0,1,0] [.n n] (iJ k) ⟨[(0,eP a0),(1,eP a1),(7,.int (a0.len:Int)),(8,.int v8)],[],[]⟩
theorem zlB(a0:Sl Int)(a1:(dM 190 Unit ((Pt (Pt aW))×(Pt Int)))):(Fb E (a0,a1)).T k=xH E E.N a0 a1 0 k:=dU
theorem Oy(n0:Nat)(a0:Sl Int)(a1:(dM 190 Unit ((Pt (Pt aW))×(Pt Int))))(v8:Int):xH E (n0+1) a0 a1 v8 k=cond (decide (v8<(a0.len:Int))) (aU (decide (0<=v8/\v8<(a0.len:Int))) ((E.znR (a0.get v8.toNat,a1.v.1,a1.v.2)).T λr1=>cond r1 (k v8) (xH E n0 a0 a1 (aJ (v8+1)) k))) (k (-1)):=krY
end
theorem zlC [aH](E:wE)(zBi:Ok aB 190 (ae.un E.znR)):Ok aB 210 (ae.un (Fb E)):=dV (au.nil.addF zBi)
structure zsX where
 N:Nat
 zvb:(Sl ay)->ae ((Sl Line)×Int)
def zsY(E:zsX):(Sl ay)->ae (Line×Int):=iW E.N (Tabs.nil.addF 240 (ae.un E.zvb)) 211
theorem e211(E:zsX){A:Type}(k:(Line×Int)→Option A)(a0:Sl ay):(zsY E (a0)).T k=(E.zvb a0).T λr1=>cond (r1.2 != 0) (k ((⟨(⟨0,0⟩:aP),(⟨0,0⟩:aP)⟩:Line),r1.2)) (aU (decide ((0:Int)<=0/\0<(r1.1.len:Int))) (k ((r1.1.get 0),0))):=dU
theorem zWY [aH](E:zsX)(zBj:Ok aB 240 (ae.un E.zvb)):Ok aB 211 (ae.un (zsY E)):=dV (au.nil.addF zBj)
structure zsZ where
 N:Nat
def zs3(E:zsZ):Int->ae Bool:=iW E.N Tabs.nil 222
theorem e222(E:zsZ){A:Type}(k:Bool→Option A)(a0:Int):(zs3 E (a0)).T k=k (a0 != a0):=dU
theorem zWZ [aH](E:zsZ):Ok aB 222 (ae.un (zs3 E)):=dV au.nil
structure Yz where
 N:Nat
 znU:ay×Int->ae Int
 c55:Int×Int×Int×Int->ae Line
abbrev zs4(E:Yz):bI:=gQ ((Tabs.nil.addF 247 (ae.un E.znU)).addF 55 (ae.un E.c55)) []
def zs5:dG:=bP aB 225 [] {ks:=[(1,3,⟨[],[(3,65,114)],[],[],[],[],[]⟩),(1,6,⟨[],[(3,65,114)],[],[],[],[],[]⟩),(1,9,⟨[],[(3,65,114)],[],[],[],[],[]⟩)]}
def zs6(E:Yz):(Sl ay)->ae ((Sl Line)):=ae.ty (aF aB E.N (zs4 E) zs5 225)
section
variable(E:Yz){A:Type}(k:(Sl Line)->Option A)
def Oz(E:Yz)(n:Nat)(a0:Sl ay)(v4:Int)(P8:Sl Line){A:Type}(k:(Sl Line)->Option A):Option A:=iK aB (zs4 E) E.N zs5 225 [1,1,0,1,0] [.n n] (iJ k) ⟨[(0,eP a0),(3,.cl (.vec 65)),(4,.int v4)],[(65,eV 114 4 32 P8)],[]⟩
def H8(E:Yz)(n0 n:Nat)(a0:Sl ay)(v4 v5:Int)(P8:Sl Line){A:Type}(k:(Sl Line)->Option A):Option A:=iK aB (zs4 E) E.N zs5 225 [1,1,0,1,0,0,1,0,0,1,0] [.n n0,.n n] (iJ k) ⟨[(0,eP a0),(3,.cl (.vec 65)),(4,.int v4),(5,.int v5)],[(65,eV 114 4 32 P8)],[]⟩
def H9(E:Yz)(n0 n1 n:Nat)(a0:Sl ay)(v4 v5 v6:Int)(P8:Sl Line){A:Type}(k:(Sl Line)->Option A):Option A:=iK aB (zs4 E) E.N zs5 225 [1,1,0,1,0,0,1,0,0,1,0,0,1,0,0,1,0] [.n n0,.n n1,.n n] (iJ k) ⟨[(0,eP a0),(3,.cl (.vec 65)),(4,.int v4),(5,.int v5),(6,.int v6)],[(65,eV 114 4 32 P8)],[]⟩
theorem zW0(a0:Sl ay):(zs6 E (a0)).T k=Oz E E.N a0 0 (⟨0,(λ_=>(⟨(⟨0,0⟩:aP),(⟨0,0⟩:aP)⟩:Line))⟩:(Sl Line)) k:=dU
theorem zlD(n0:Nat)(a0:Sl ay)(v4:Int)(P8:Sl Line):Oz E (n0+1) a0 v4 P8 k=cond (decide (v4<(a0.len:Int))) (H8 E n0 E.N a0 v4 (aJ (v4+1)) P8 k) (k P8):=krY
theorem zlE(n0 n1:Nat)(a0:Sl ay)(v4 v5:Int)(P8:Sl Line):H8 E n0 (n1+1) a0 v4 v5 P8 k=cond (decide (v5<(a0.len:Int))) (H9 E n0 n1 E.N a0 v4 v5 0 P8 k) (Oz E n0 a0 (aJ (v4+1)) P8 k):=krY
theorem zbV(n0 n1 n2:Nat)(a0:Sl ay)(v4 v5 v6:Int)(P8:Sl Line):H9 E n0 n1 (n2+1) a0 v4 v5 v6 P8 k=cond (decide (v6<4)) (aU (decide (0<=v4/\v4<(a0.len:Int))) (aU (decide (0<=v5/\v5<(a0.len:Int))) (cond ((a0.get v4.toNat).Z != (a0.get v5.toNat).Z) (aU (decide (0<=v4/\v4<(a0.len:Int))) (aU (decide (0<=v4/\v4<(a0.len:Int))) ((E.znU ((a0.get v4.toNat),(aJ (v6.tdiv 2)))).T λr1=>aU (decide (0<=v5/\v5<(a0.len:Int))) (aU (decide (0<=v5/\v5<(a0.len:Int))) ((E.znU ((a0.get v5.toNat),(v6.tmod 2))).T λr2=>(E.c55 ((a0.get v4.toNat).Z,r1,(a0.get v5.toNat).Z,r2)).T λr3=>aU (room (P8.len+1) 32) (H9 E n0 n1 n2 a0 v4 v5 (aJ (v6+1)) (⟨(P8.len+1),(iR P8.len P8.get (λ_=>r3))⟩:(Sl Line)) k)))))) (H8 E n0 n1 a0 v4 (aJ (v5+1)) P8 k)))) (H8 E n0 n1 a0 v4 (aJ (v5+1)) P8 k):=krY
end
theorem zW1 [aH](E:Yz)(zs7:Ok aB 247 (ae.un E.znU))(h55:Ok aB 55 (ae.un E.c55)):Ok aB 225 (ae.un (zs6 E)):=dV ((au.nil.addF zs7).addF h55)
structure zs8 where
 N:Nat
 zcm:Line×(Sl ay)->ae Bool
 c56:aP×aP->ae Bool
def zs9(E:zs8):Line×Line×(Sl ay)->ae Bool:=iW E.N ((Tabs.nil.addF 248 (ae.un E.zcm)).addF 56 (ae.un E.c56)) 226
theorem e226(E:zs8){A:Type}(k:Bool→Option A)(a0 a1:Line)(a2:Sl ay):(zs9 E (a0,a1,a2)).T k=(E.zcm (a0,a2)).T λr1=>(E.zcm (a1,a2)).T λr2=>cond (r1 != r2) ((E.zcm (a0,a2)).T λr3=>k r3) ((E.zcm (a0,a2)).T λr4=>cond r4 ((E.c56 (a0.dI,a1.dI)).T λr5=>k r5) ((E.c56 (a1.dI,a0.dI)).T λr6=>k r6)):=dU
theorem zW3 [aH](E:zs8)(zta:Ok aB 248 (ae.un E.zcm))(h56:Ok aB 56 (ae.un E.c56)):Ok aB 226 (ae.un (zs9 E)):=dV ((au.nil.addF zta).addF h56)
structure ztb where
 N:Nat
def ztc(E:ztb):af×Int×Int->ae af:=iW E.N Tabs.nil 227
theorem e227(E:ztb){A:Type}(k:af→Option A)(a0:af)(a1 a2:Int):(ztc E (a0,a1,a2)).T k=aU (room a0.Hits.len 8) (aU (room (a0.Hits.len+1) 8) (aU (room a0.bu.len 8) (aU (room (a0.bu.len+1) 8) (k (⟨a0.View,(⟨(a0.Hits.len+1),(iR a0.Hits.len a0.Hits.get (λ_=>a1))⟩:(Sl Int)),(⟨(a0.bu.len+1),(iR a0.bu.len a0.bu.get (λ_=>a2))⟩:(Sl Int))⟩:af))))):=dU
theorem zW4 [aH](E:ztb):Ok aB 227 (ae.un (ztc E)):=dV au.nil
structure YA where
 N:Nat
 c229:Int×Int×Int×Int->ae straight
abbrev zBk(E:YA):bI:=gQ (Tabs.nil.addF 229 (ae.un E.c229)) []
def zBl:dG:=bP aB 228 [0] {ks:=[(1,4,⟨[],[],[],[],[4],[],[]⟩)],unr:=[(8,3),(11,3)],yl:=[13]}
def zJA(E:YA)(c:List PA):YO:=aI aB (zBk E) E.N zBl 228 c
def zBm(E:YA):(Pt list)->ae (List (straight)):=ae.tyI λc=>.opt (zJA E c)
section
variable(E:YA)
def OA(E:YA)(n:Nat)(a1:Pt list)(gK:Int):YO:=ptY aB (zBk E) E.N zBl 228 [1,0] [n] ⟨[(0,.cl (.vec 4095)),(1,eP a1),(12,eP a1.v.bJ),(13,.int (a1.v.bJ.len:Int)),(14,.int gK)],[(4095,.gone)],[]⟩
def OB(E:YA)(n0 n:Nat)(a1:Pt list)(gK:Int)(v23:Sl ay)(v24 v25:Int)(x4:ay):YO:=ptY aB (zBk E) E.N zBl 228 [1,0,0,1,1,0,0,1,1,0] [n0,n] ⟨[(0,.cl (.vec 4095)),(1,eP a1),(4,.cl (.ptr 4 0)),(12,eP a1.v.bJ),(13,.int (a1.v.bJ.len:Int)),(14,.int gK),(23,eP v23),(24,.int v24),(25,.int v25)],[(4095,.gone),(4,.fbox (bD.enc x4))],[]⟩
theorem e228(a1:Pt list):zJA E (dA.enc ((a1):(Pt list)))=OA E E.N a1 0:=krY
theorem zlF(n0:Nat)(a1:Pt list)(gK:Int):OA E (n0+1) a1 gK=cond (decide (gK<(a1.v.bJ.len:Int))) (aU (decide (0<=gK/\gK<(a1.v.bJ.len:Int))) (aU (decide ((0:Int)<=(aJ (gK+1))/\((aJ (gK+1)):Int)<=(a1.v.bJ.len:Int)/\(a1.v.bJ.len:Int)<=(a1.v.bJ.len:Int))) (OB E n0 E.N a1 gK (⟨(((a1.v.bJ.len:Int):Int)-(aJ (gK+1))).toNat,(xZ a1.v.bJ.get (aJ (gK+1)).toNat)⟩:(Sl ay)) ((((a1.v.bJ.len:Int):Int)-(aJ (gK+1))).toNat:Int) 0 (a1.v.bJ.get gK.toNat)))) (some []):=krY
theorem zlG(n0 n1:Nat)(a1:Pt list)(gK:Int)(v23:Sl ay)(v24 v25:Int)(x4:ay):OB E n0 (n1+1) a1 gK v23 v24 v25 x4=cond (decide (v25<v24)) (aU (decide (0<=v25/\v25<(v23.len:Int))) (cond (x4.Z==(v23.get v25.toNat).Z) (OB E n0 n1 a1 gK v23 v24 (aJ (v25+1)) x4) ((E.c229 (x4.Z,x4.Low,(v23.get v25.toNat).Z,(v23.get v25.toNat).Low)).T λr1=>yT (dA.enc (r1:straight)) (some []) ((E.c229 (x4.Z,x4.Low,(v23.get v25.toNat).Z,(v23.get v25.toNat).High)).T λr2=>yT (dA.enc (r2:straight)) (some []) ((E.c229 (x4.Z,x4.High,(v23.get v25.toNat).Z,(v23.get v25.toNat).Low)).T λr3=>yT (dA.enc (r3:straight)) (some []) ((E.c229 (x4.Z,x4.High,(v23.get v25.toNat).Z,(v23.get v25.toNat).High)).T λr4=>yT (dA.enc (r4:straight)) (some []) (OB E n0 n1 a1 gK v23 v24 (aJ (v25+1)) x4))))))) (OA E n0 a1 (aJ (gK+1))):=krY
end
theorem zW5(E:YA)(zgp:Ok aB 229 (ae.un E.c229)):Bf aB 228 (ae.unI (zBm E)):=Ud (NM (au.nil.addF zgp) (dE krY))
structure ztd where
 N:Nat
def zte(E:ztd):Int×Int×Int×Int->ae straight:=iW E.N Tabs.nil 229
theorem e229(E:ztd){A:Type}(k:straight→Option A)(a0 a1 a2 a3:Int):(zte E (a0,a1,a2,a3)).T k=cond (decide (a0>a2)) (k (⟨(aJ (a1-a3)),(aJ ((aJ (a3*a0))-(aJ (a1*a2)))),(aJ (a0-a2))⟩:straight)) (k (⟨(aJ (a3-a1)),(aJ ((aJ (a1*a2))-(aJ (a3*a0)))),(aJ (a2-a0))⟩:straight)):=dU
theorem zW6 [aH](E:ztd):Ok aB 229 (ae.un (zte E)):=dV au.nil
structure ztf where
 N:Nat
 zva:straight×ay->ae Bool
def ztg(E:ztf):ay×(Pt straight)->ae Bool:=iW E.N (Tabs.nil.addF 231 (ae.un E.zva)) 230
theorem e230(E:ztf){A:Type}(k:Bool→Option A)(a0:ay)(a1:Pt straight):(ztg E (a0,a1)).T k=(E.zva (a1.v,a0)).T λr1=>k (!r1):=dU
theorem zW7 [aH](E:ztf)(zBn:Ok aB 231 (ae.un E.zva)):Ok aB 230 (ae.un (ztg E)):=dV (au.nil.addF zBn)
structure zth where
 N:Nat
 c157:Int×Int×Int->ae Bool
def zti(E:zth):straight×ay->ae Bool:=iW E.N (Tabs.nil.addF 157 (ae.un E.c157)) 231
theorem e231(E:zth){A:Type}(k:Bool→Option A)(a0:straight)(a1:ay):(zti E (a0,a1)).T k=(E.c157 ((aJ (a0.start+(aJ (a0.bT*a1.Z)))),(aJ (a1.Low*a0.den)),(aJ (a1.High*a0.den)))).T λr1=>k r1:=dU
theorem zW8 [aH](E:zth)(CU:Ok aB 157 (ae.un E.c157)):Ok aB 231 (ae.un (zti E)):=dV (au.nil.addF CU)
structure ztj where
 N:Nat
 Pj:Int->ae Bool
def ztk(E:ztj):Int×Int->ae Bool:=iW E.N (Tabs.nil.addF 239 (ae.un E.Pj)) 236
theorem zW9(E:ztj){A:Type}(k:Bool→Option A)(a0 a1:Int):(ztk E (a0,a1)).T k=(E.Pj a0).T λr1=>cond r1 ((E.Pj a1).T λr2=>cond (!r2) (k true) (k (decide (a0<a1)))) (k (decide (a0<a1))):=dU
theorem zXa [aH](E:ztj)(Yu:Ok aB 239 (ae.un E.Pj)):Ok aB 236 (ae.un (ztk E)):=dV (au.nil.addF Yu)
structure ztl where
 N:Nat
def ztm(E:ztl):Int->ae Bool:=iW E.N Tabs.nil 237
theorem e237(E:ztl){A:Type}(k:Bool→Option A)(a0:Int):(ztm E (a0)).T k=k (a0 != a0):=dU
theorem zXb [aH](E:ztl):Ok aB 237 (ae.un (ztm E)):=dV au.nil
structure wF where
 N:Nat
 zu5:ay×(Pt list)->ae Bool
abbrev YB(E:wF):bI:=gQ (Tabs.nil.addF 207 (ae.un E.zu5)) []
def YC:dG:=bP aB 238 [] {}
def Fe(E:wF):(Sl ay)×(dM 207 Unit (Pt list))->ae Int:=ae.ty (aF aB E.N (YB E) YC 238)
section
variable(E:wF){A:Type}(k:Int->Option A)
def xI(E:wF)(n:Nat)(a0:Sl ay)(a1:(dM 207 Unit (Pt list)))(v8:Int){A:Type}(k:Int->Option A):Option A:=iK aB (YB E) E.N YC 238 [1,0,1,0] [.n n] (iJ k) ⟨[(0,eP a0),(1,.p (.fn 207 [] [.fp [.sl a1.v.v.bJ.len 3 (λi=>bD.enc (a1.v.v.bJ.get i))] 0])),(7,.int (a0.len:Int)),(8,.int v8)],[],[]⟩
theorem zlH(a0:Sl ay)(a1:(dM 207 Unit (Pt list))):(Fe E (a0,a1)).T k=xI E E.N a0 a1 0 k:=dU
theorem OC(n0:Nat)(a0:Sl ay)(a1:(dM 207 Unit (Pt list)))(v8:Int):xI E (n0+1) a0 a1 v8 k=cond (decide (v8<(a0.len:Int))) (aU (decide (0<=v8/\v8<(a0.len:Int))) ((E.zu5 ((a0.get v8.toNat),a1.v)).T λr1=>cond r1 (k v8) (xI E n0 a0 a1 (aJ (v8+1)) k))) (k (-1)):=krY
end
theorem zlI [aH](E:wF)(zBo:Ok aB 207 (ae.un E.zu5)):Ok aB 238 (ae.un (Fe E)):=dV (au.nil.addF zBo)
structure wG where
 N:Nat
 zu9:ay×(Pt straight)->ae Bool
abbrev YD(E:wG):bI:=gQ (Tabs.nil.addF 230 (ae.un E.zu9)) []
def YE:dG:=bP aB 238 [] {}
def Ff(E:wG):(Sl ay)×(dM 230 Unit (Pt straight))->ae Int:=ae.ty (aF aB E.N (YD E) YE 238)
section
variable(E:wG){A:Type}(k:Int->Option A)
def xJ(E:wG)(n:Nat)(a0:Sl ay)(a1:(dM 230 Unit (Pt straight)))(v8:Int){A:Type}(k:Int->Option A):Option A:=iK aB (YD E) E.N YE 238 [1,0,1,0] [.n n] (iJ k) ⟨[(0,eP a0),(1,eP a1),(7,.int (a0.len:Int)),(8,.int v8)],[],[]⟩
theorem zlJ(a0:Sl ay)(a1:(dM 230 Unit (Pt straight))):(Ff E (a0,a1)).T k=xJ E E.N a0 a1 0 k:=dU
theorem OD(n0:Nat)(a0:Sl ay)(a1:(dM 230 Unit (Pt straight)))(v8:Int):xJ E (n0+1) a0 a1 v8 k=cond (decide (v8<(a0.len:Int))) (aU (decide (0<=v8/\v8<(a0.len:Int))) ((E.zu9 ((a0.get v8.toNat),a1.v)).T λr1=>cond r1 (k v8) (xJ E n0 a0 a1 (aJ (v8+1)) k))) (k (-1)):=krY
end
theorem zlK [aH](E:wG)(zBp:Ok aB 230 (ae.un E.zu9)):Ok aB 238 (ae.un (Ff E)):=dV (au.nil.addF zBp)
structure wH where
 N:Nat
 zvc:ay×(Pt straight)->ae Bool
abbrev YF(E:wH):bI:=gQ (Tabs.nil.addF 257 (ae.un E.zvc)) []
def YG:dG:=bP aB 238 [] {}
def Fg(E:wH):(Sl ay)×(dM 257 Unit (Pt straight))->ae Int:=ae.ty (aF aB E.N (YF E) YG 238)
section
variable(E:wH){A:Type}(k:Int->Option A)
def xK(E:wH)(n:Nat)(a0:Sl ay)(a1:(dM 257 Unit (Pt straight)))(v8:Int){A:Type}(k:Int->Option A):Option A:=iK aB (YF E) E.N YG 238 [1,0,1,0] [.n n] (iJ k) ⟨[(0,eP a0),(1,eP a1),(7,.int (a0.len:Int)),(8,.int v8)],[],[]⟩
theorem zlL(a0:Sl ay)(a1:(dM 257 Unit (Pt straight))):(Fg E (a0,a1)).T k=xK E E.N a0 a1 0 k:=dU
theorem OE(n0:Nat)(a0:Sl ay)(a1:(dM 257 Unit (Pt straight)))(v8:Int):xK E (n0+1) a0 a1 v8 k=cond (decide (v8<(a0.len:Int))) (aU (decide (0<=v8/\v8<(a0.len:Int))) ((E.zvc ((a0.get v8.toNat),a1.v)).T λr1=>cond r1 (k v8) (xK E n0 a0 a1 (aJ (v8+1)) k))) (k (-1)):=krY
end
theorem zlM [aH](E:wH)(zBq:Ok aB 257 (ae.un E.zvc)):Ok aB 238 (ae.un (Fg E)):=dV (au.nil.addF zBq)
structure ztn where
 N:Nat
def zto(E:ztn):Int->ae Bool:=iW E.N Tabs.nil 239
theorem zXc(E:ztn){A:Type}(k:Bool→Option A)(a0:Int):(zto E (a0)).T k=k (a0 != a0):=dU
theorem zXd [aH](E:ztn):Ok aB 239 (ae.un (zto E)):=dV au.nil
structure zgq where
 N:Nat
 c117:(Sl ay)×((dM 118 Unit Unit) ⊕ (dM 162 Unit (Pt Int)))->ae (set×Int)
 znV:set->ae ((Sl straight))
 c198:straight->ae Line
abbrev zJB(E:zgq):bI:=gQ (((Tabs.nil.addF 117 (ae.un E.c117)).addF 249 (ae.un E.znV)).addF 198 (ae.un E.c198)) []
def zJC:dG:=bP aB 240 [] {ks:=[(1,6,⟨[],[(6,28,114)],[],[],[],[],[]⟩)]}
def zlN(E:zgq):(Sl ay)->ae ((Sl Line)×Int):=ae.ty (aF aB E.N (zJB E) zJC 240)
section
variable(E:zgq){A:Type}(k:((Sl Line)×Int)->Option A)
def Ia(E:zgq)(n:Nat)(v18:Sl straight)(v19 v20:Int)(w28:Sl Line){A:Type}(k:((Sl Line)×Int)->Option A):Option A:=iK aB (zJB E) E.N zJC 240 [1,1,1,1,0,1,0] [.n n] (iJ k) ⟨[(6,.cl (.vec 28)),(18,eP v18),(19,.int v19),(20,.int v20)],[(28,eV 114 4 32 w28)],[]⟩
theorem e240(a0:Sl ay):(zlN E (a0)).T k=(E.c117 (a0,(Sum.inl (⟨(),()⟩:(dM 118 Unit Unit))))).T λr1=>cond (r1.2 != 0) (k ((⟨0,λ_=>default⟩:(Sl Line)),r1.2)) ((E.znV r1.1).T λr2=>Ia E E.N r2 (r2.len:Int) 0 (⟨0,(λ_=>(⟨(⟨0,0⟩:aP),(⟨0,0⟩:aP)⟩:Line))⟩:(Sl Line)) k):=dU
theorem zlO(n0:Nat)(v18:Sl straight)(v19 v20:Int)(w28:Sl Line):Ia E (n0+1) v18 v19 v20 w28 k=cond (decide (v20<v19)) (aU (decide (0<=v20/\v20<(v18.len:Int))) ((E.c198 (v18.get v20.toNat)).T λr1=>aU (room (w28.len+1) 32) (Ia E n0 v18 v19 (aJ (v20+1)) (⟨(w28.len+1),(iR w28.len w28.get (fun _=>r1))⟩:(Sl Line)) k))) (k (w28,0)):=krY
end
theorem zXe [aH](E:zgq)(zbz:Ok aB 117 (ae.un E.c117))(zBr:Ok aB 249 (ae.un E.znV))(zbO:Ok aB 198 (ae.un E.c198)):Ok aB 240 (ae.un (zlN E)):=dV (((au.nil.addF zbz).addF zBr).addF zbO)
structure ztp where
 N:Nat
def ztq(E:ztp):ay×Int->ae Int:=iW E.N Tabs.nil 247
theorem e247(E:ztp){A:Type}(k:Int→Option A)(a0:ay)(a1:Int):(ztq E (a0,a1)).T k=cond (a1==0) (k a0.Low) (k a0.High):=dU
theorem zXf [aH](E:ztp):Ok aB 247 (ae.un (ztq E)):=dV au.nil
structure zgr where
 N:Nat
 VA:Line×Int->ae (Int×Int)
abbrev zJD(E:zgr):bI:=gQ (Tabs.nil.addF 166 (ae.un E.VA)) []
def zJE:dG:=bP aB 248 [] {}
def ztr(E:zgr):Line×(Sl ay)->ae Bool:=ae.ty (aF aB E.N (zJD E) zJE 248)
section
variable(E:zgr){A:Type}(k:Bool->Option A)
def UM(E:zgr)(n:Nat)(a0:Line)(a1:Sl ay)(v5:Int){A:Type}(k:Bool->Option A):Option A:=iK aB (zJD E) E.N zJE 248 [1,0,1,0] [.n n] (iJ k) ⟨[(1,eP a1),(2,.cl (.ptr 2 0)),(5,.int v5)],[(2,eB 114 a0)],[]⟩
theorem e248(a0:Line)(a1:Sl ay):(ztr E (a0,a1)).T k=UM E E.N a0 a1 0 k:=dU
theorem zlP(n0:Nat)(a0:Line)(a1:Sl ay)(v5:Int):UM E (n0+1) a0 a1 v5 k=cond (decide (v5<(a1.len:Int))) (aU (decide (0<=v5/\v5<(a1.len:Int))) ((E.VA (a0,(a1.get v5.toNat).Z)).T λr1=>aU (decide (0<=v5/\v5<(a1.len:Int))) (cond (r1.1==(aJ ((a1.get v5.toNat).Low*r1.2))) (k true) (UM E n0 a0 a1 (aJ (v5+1)) k)))) (k false):=krY
end
theorem zXg [aH](E:zgr)(zbC:Ok aB 166 (ae.un E.VA)):Ok aB 248 (ae.un (ztr E)):=dV (au.nil.addF zbC)
structure zts where
 N:Nat
 ZV:straight×straight×(Pt set)->ae Int
def ztt(E:zts):set->ae ((Sl straight)):=iW E.N (((Tabs.nil.addO 252 (.clone 204 3 24)).addO 253 (.sort 204 3 24)).addC 254 (ae.un E.ZV)) 249
theorem e249(E:zts){A:Type}(k:(Sl straight)→Option A)(a0:set):(ztt E (a0)).T k=aU (room a0.cO.len 24) (aU (soP (ae.un E.ZV) (bD.enc (⟨a0⟩:(Pt set))) true a0.cO) (k (⟨a0.cO.len,(soG (ae.un E.ZV) (bD.enc (⟨a0⟩:(Pt set))) true a0.cO)⟩:(Sl straight)))):=dU
theorem zXh [aH](E:zts)(zXi:gI aB 252 (.clone 204 3 24))(zXj:gI aB 253 (.sort 204 3 24))(zXk : @Ok ⟨1⟩ aB 254 (ae.un E.ZV)):Ok aB 249 (ae.un (ztt E)):=dV (((au.nil.addO zXi).addO zXj).addC zXk)
structure ztu where
 N:Nat
 znW:set×straight->ae Bool
 kQ:Int×Int->ae aP
 FX:aP×aP->ae Int
def ztv(E:ztu):straight×straight×(Pt set)->ae Int:=iW E.N (((Tabs.nil.addF 255 (ae.un E.znW)).addF 172 (ae.un E.kQ)).addF 170 (ae.un E.FX)) 254
theorem e254(E:ztu){A:Type}(k:Int→Option A)(a0 a1:straight)(a2:Pt set):(ztv E (a0,a1,a2)).T k=(E.znW (a2.v,a0)).T λr1=>(E.znW (a2.v,a1)).T λr2=>(E.kQ (a0.bT,a0.den)).T λr3=>(E.kQ (a1.bT,a1.den)).T λr4=>(E.FX (r3,r4)).T λr5=>cond r1 (cond r2 (k r5) (cond r1 (k (-1)) (cond r2 (k 1) (k (aJ (0-r5)))))) (cond r1 (k (-1)) (cond r2 (k 1) (k (aJ (0-r5))))):=dU
theorem zXl [aH](E:ztu)(ztw:Ok aB 255 (ae.un E.znW))(rq:Ok aB 172 (ae.un E.kQ))(Ou:Ok aB 170 (ae.un E.FX)):Ok aB 254 (ae.un (ztv E)):=dV (((au.nil.addF ztw).addF rq).addF Ou)
structure ztx where
 N:Nat
 c206:(Sl ay)×((dM 207 Unit (Pt list)) ⊕ (dM 230 Unit (Pt straight)) ⊕ (dM 257 Unit (Pt straight)))->ae Bool
def zty(E:ztx):set×straight->ae Bool:=iW E.N (Tabs.nil.addF 206 (ae.un E.c206)) 255
theorem zXm(E:ztx){A:Type}(k:Bool→Option A)(a0:set)(a1:straight):(zty E (a0,a1)).T k=(E.c206 (a0.list.bJ,(Sum.inr (Sum.inr (⟨(),(⟨a1⟩:(Pt straight))⟩:(dM 257 Unit (Pt straight))))))).T λr1=>k r1:=dU
theorem zXn [aH](E:ztx)(Oo:Ok aB 206 (ae.un E.c206)):Ok aB 255 (ae.un (zty E)):=dV (au.nil.addF Oo)
structure ztz where
 N:Nat
def ztA(E:ztz):ay×(Pt straight)->ae Bool:=iW E.N Tabs.nil 257
theorem e257(E:ztz){A:Type}(k:Bool→Option A)(a0:ay)(a1:Pt straight):(ztA E (a0,a1)).T k=k ((aJ (a1.v.start+(aJ (a1.v.bT*a0.Z))))==(aJ (a0.Low*a1.v.den))):=dU
theorem zXo [aH](E:ztz):Ok aB 257 (ae.un (ztA E)):=dV au.nil
theorem ru{x y X Y:Int}(h1 : -X<=x)(h2:x<=X)(h3:0<=y)(h4:y<=Y) : -(X*Y)<=x*y/\x*y<=X*Y:=by
 have hX:0<=X:=by omega
 have a:=KO h2 h3;have b:=qds h4 hX;have c:=KO h1 h3;rw[jqb]at c;omega
def red(num den:Int):aP:=⟨num.tdiv (Int.gcd num den:Int),den.tdiv (Int.gcd num den:Int)⟩
theorem zlQ(num:Int):(if -num>num then -num else num)=(num.natAbs:Int):=by split<;>omega
theorem zdY(num den:Int):Int.gcd (num.natAbs:Int) den=Int.gcd num den:=by
 unfold Int.gcd;rw[Int.natAbs_natCast]
theorem lK{num den:Int}(hd:0<den):0<(Int.gcd num den:Int):=by
 have:Int.gcd num den≠0:=λh=>by have:=(Int.gcd_eq_zero_iff.1 h).2;omega
 omega
theorem zJF(num den:Int):∃a,num=(Int.gcd num den:Int)*a:=Int.gcd_dvd_left num den
theorem zJG(num den:Int):∃a,den=(Int.gcd num den:Int)*a:=Int.gcd_dvd_right num den
theorem pF{num den:Int}(hd:0<den):(Int.gcd num den:Int)*(red num den).Num=num:=by
 have hg:=lK (num:=num) hd;obtain⟨a,ha⟩:=zJF num den;show(Int.gcd num den:Int)*num.tdiv (Int.gcd num den:Int)=num;generalize (Int.gcd num den:Int)=g at ha hg ⊢;rw[ha,qd2 _ omY]
theorem nK{num den:Int}(hd:0<den):(Int.gcd num den:Int)*(red num den).bK=den:=by
 have hg:=lK (num:=num) hd;obtain⟨a,ha⟩:=zJG num den;show(Int.gcd num den:Int)*den.tdiv (Int.gcd num den:Int)=den;generalize (Int.gcd num den:Int)=g at ha hg ⊢;rw[ha,qd2 _ omY]
theorem jC{num den:Int}(hd:0<den):0<(red num den).bK:=by
 have h1:=nK (num:=num) hd;have hg:=lK (num:=num) hd;rcases qd0 0 (red num den).bK with h|h
 exact h;have:=qds h (xY hg);rw[h1,jqp]at this;omega
theorem Ib{num den:Int}(hd:0<den):(red num den).bK<=den:=by
 have h1:=nK (num:=num) hd;have hg:=lK (num:=num) hd;have:=KO (show(1:Int)<=(Int.gcd num den:Int)by omega) (xY (jC (num:=num) hd));omega
theorem AB{num den:Int}(hd:0<den) : -(num.natAbs:Int)<=(red num den).Num/\(red num den).Num<=(num.natAbs:Int):=by
 have h1:=pF (num:=num) hd;have hg:=lK (num:=num) hd;have h2:num.natAbs=(Int.gcd num den)*(red num den).Num.natAbs:=by
  have:=jZ Int.natAbs h1;rw[jqK]at this;simpa using this.symm
 have h3:(red num den).Num.natAbs<=num.natAbs:=by
  rw[h2];exact Nat.le_mul_of_pos_left _ omY
 omega
theorem zdZ{num den:Int}(hd:0<den):Int.gcd (red num den).Num (red num den).bK=1:=by
 have h1:=pF (num:=num) hd;have h2:=nK (num:=num) hd;have hg:=lK (num:=num) hd;have h3:Int.gcd ((Int.gcd num den:Int)*(red num den).Num) ((Int.gcd num den:Int)*(red num den).bK)=Int.gcd num den*Int.gcd (red num den).Num (red num den).bK:=by
  rw[Int.gcd_mul_left];simp
 rw[h1,h2]at h3;have h4:Int.gcd num den*1=Int.gcd num den*Int.gcd (red num den).Num (red num den).bK:=by rw[Nat.mul_one];exact h3
 exact(Nat.eq_of_mul_eq_mul_left omY h4).symm
theorem zbW{a b c d:Int}(hb:0<b)(hd:0<d):red a b=red c d↔a*d=c*b:=by
 have a1:=pF (num:=a) hb;have a2:=nK (num:=a) hb;have c1:=pF (num:=c) hd;have c2:=nK (num:=c) hd;constructor;intro h;rw[h]at a1 a2;generalize hG:(Int.gcd a b:Int)=G at a1 a2;generalize hK:(Int.gcd c d:Int)=K at c1 c2;generalize (red c d).Num=x at a1 c1;generalize (red c d).bK=y at a2 c2;subst a1;subst a2;subst c1;subst c2
 ac_rfl
 ·intro h;have ga:=zdZ (num:=a) hb;have gc:=zdZ (num:=c) hd;have pa:=jC (num:=a) hb;have pc:=jC (num:=c) hd;have hG:=lK (num:=a) hb;have hK:=lK (num:=c) hd
  -- SA products of the lowest forms
  have hx:(red a b).Num*(red c d).bK=(red c d).Num*(red a b).bK:=by
   have e:((Int.gcd a b:Int)*(Int.gcd c d:Int))*((red a b).Num*(red c d).bK)=((Int.gcd a b:Int)*(Int.gcd c d:Int))*((red c d).Num*(red a b).bK):=by
    have l1:((Int.gcd a b:Int)*(Int.gcd c d:Int))*((red a b).Num*(red c d).bK)=((Int.gcd a b:Int)*(red a b).Num)*((Int.gcd c d:Int)*(red c d).bK):=by
     generalize (Int.gcd a b:Int)=G;generalize (Int.gcd c d:Int)=K
     ac_rfl
    have l2:((Int.gcd a b:Int)*(Int.gcd c d:Int))*((red c d).Num*(red a b).bK)=((Int.gcd c d:Int)*(red c d).Num)*((Int.gcd a b:Int)*(red a b).bK):=by
     generalize (Int.gcd a b:Int)=G;generalize (Int.gcd c d:Int)=K
     ac_rfl
    rw[l1,l2,a1,a2,c1,c2];exact h
   exact Int.eq_of_mul_eq_mul_left (by have:=jqz hG hK;omega) e
  have yP:=jZ Int.natAbs hx;rw[jqK,jqK]at yP;have ga':Nat.Coprime (red a b).bK.natAbs (red a b).Num.natAbs:=(jqq _ _).trans ga;have gc':Nat.Coprime (red c d).bK.natAbs (red c d).Num.natAbs:=(jqq _ _).trans gc;have d1:(red a b).bK∣(red c d).bK:=jq0.1 (ga'.dvd_of_dvd_mul_left ⟨(red c d).Num.natAbs,by rw[yP,qdN]⟩);have d2:(red c d).bK∣(red a b).bK:=jq0.1 (gc'.dvd_of_dvd_mul_left ⟨(red a b).Num.natAbs,by rw[<- yP,qdN]⟩);have zvi:(red a b).bK=(red c d).bK:=jqA (Int.le_of_dvd pc d1) (Int.le_of_dvd pa d2);rw[<- zvi]at hx;have zER:=jqE omY hx;cases h1:red a b;cases h2:red c d;rw[h1,h2]at zvi zER;simp only at zvi zER;rw[zvi,zER]
def Gl(z p y q:Int):straight:=if z>y then⟨p-q,q*z-p*y,z-y⟩else⟨q-p,p*y-q*z,y-z⟩
def fA(s:straight):Line:=⟨red s.bT s.den,red s.start s.den⟩
theorem YJ{a b:Int}(ha:0<=a)(hb:0<b):0<=a.tmod b/\a.tmod b<b/\Int.gcd b (a.tmod b)=Int.gcd a b:=by
 refine⟨Int.tmod_nonneg b ha,Int.tmod_lt_of_pos a hb,?_⟩;obtain⟨m,rfl⟩:=jqP ha;obtain⟨n,rfl⟩:=jqP (xY hb);show Nat.gcd n (m%n)=Nat.gcd m n;rw[jqq m n,Nat.gcd_rec n m,jqq]
theorem YL{A:Type}{X:Nat→Int→Int→Option A}{k:Int→Option A}(hX:∀n a b,0≤a→0≤b→X (n+1) a b=if b=0 then k a else X n b (a.tmod b)) :
  ∀(m n:Nat)(a b:Int),0<=a->0<=b->b<2^m->2*m<n->X n a b=k (Int.gcd a b:Int):=by
 have zero:∀a:Int,0<=a->(Int.gcd a 0:Int)=a:=λa ha=>by rw[Int.gcd_zero_right];omega
 intro m
 induction m with
 | zero =>
  intro n a b ha hb hm hn;obtain⟨n,rfl⟩:∃n',n=n'+1:=⟨n-1,omY⟩;have:b=0:=by simp at hm;omega
  subst this;rw[hX n a 0 ha hb,eU rfl,zero a ha]
 | succ m ih =>
  intro n a b ha hb hm hn;obtain⟨n,rfl⟩:∃n',n=n'+1+1:=⟨n-2,omY⟩;rw[hX _ a b ha hb];by_cases h0:b=0;subst h0;rw[eU rfl,zero a ha];rw[eY h0];obtain⟨r0,r1,g1⟩:=YJ ha (show 0<b by omega);rw[hX _ b _ hb r0];by_cases h1:a.tmod b=0;rw[eU h1,<- g1,h1,zero b hb];rw[eY h1];obtain⟨q0,q1,g2⟩:=YJ hb (show 0<a.tmod b by omega);rw[ih n _ _ r0 q0 ?_ omY,g2,g1];have e:=Int.tmod_add_mul_tdiv b (a.tmod b);have hq:1<=b.tdiv (a.tmod b):=by
   rcases qd0 0 (b.tdiv (a.tmod b))with h|h
   omega;have:=qds h r0;rw[jqp]at this;omega
  have:=qds hq r0;rw[Int.mul_one]at this;have h2:(2:Int)^(m+1)=2^m*2:=Int.pow_succ 2 m;omega
abbrev zbX(C:Int×Int->ae Int):Prop:=∀a b,0<=a->0<=b->b<=1152921504606846976->C (a,b)=.ok (Int.gcd a b:Int)
theorem zXp{E:zgo}(N:Big E.N):zbX (zsW E):=λa b ha hb hk=>ae.ext λk=>by
 rw[e209,aX];refine YL (X:=λn a b=>UL E n a b k) (λn a b h1 h2=>?_) 61 _ a b ha hb omY (by have:=N;omega);rw[zBg];by_cases h:b=0;subst h;rfl;rw[dP (show b>0 by omega),dF,bf h,eY h]
theorem zXq{E:zf9}(N:Big E.N):zbX (zrm E):=λa b ha hb hk=>ae.ext λk=>by
 rw[e125,aX];refine YL (X:=λn a b=>Uy E n a b k) (λn a b h1 h2=>?_) 61 _ a b ha hb omY (by have:=N;omega);rw[zAI];by_cases h:b=0;subst h;rfl;rw[show(b != 0)=true by simpa using h,dF,bf h,eY h]
abbrev OG(C:Int×Int->ae aP):Prop:=∀a b,-1000000000000000000<=a->a<=1000000000000000000->0<b->b<=1000000000000000000->C (a,b)=.ok (red a b)
theorem zwP{num den:Int}(h1 : -1000000000000000000≤num)(h2:num≤1000000000000000000)(hd:0<den)(hd2:den≤1000000000000000000){A:Type}(k:aP→Option A) :
  aU (decide ((Int.gcd num den:Int)≠0)) (aU (decide ((Int.gcd num den:Int)≠0)) (k ⟨aJ (num.tdiv (Int.gcd num den:Int)),aJ (den.tdiv (Int.gcd num den:Int))⟩))=k (red num den):=by
 have hg:=lK (num:=num) hd;have r1:=AB (num:=num) hd;have r2:=Ib (num:=num) hd;have r3:=jC (num:=num) hd;have w1:aJ (num.tdiv (Int.gcd num den:Int))=(red num den).Num:=aT (by show _<=(red num den).Num;omega) (by show(red num den).Num<=_;omega);have w2:aJ (den.tdiv (Int.gcd num den:Int))=(red num den).bK:=aT (by show _<=(red num den).bK;omega) (by show(red num den).bK<=_;omega);rw[w1,w2,bf omY,bf omY]
theorem zXr{E:zsi}(zA3:zbX E.zu6):OG (zsj E):=λa b h1 h2 hd hd2=>ae.ext λk=>by
 rw[zWh,show aJ (0-a) = -a by rw[aT omY omY];omega,zlQ,zA3 _ _ omY omY omY,zdY,aX,aX];exact zwP h1 h2 hd hd2 k
theorem s71{E:E71}(zby:zbX E.Vy):OG (F71 E):=λa b h1 h2 hd hd2=>ae.ext λk=>by
 rw[e71,show aJ (0-a) = -a by rw[aT omY omY];omega,zlQ,zby _ _ omY omY omY,zdY,aX,aX];exact zwP h1 h2 hd hd2 k
theorem zXs{E:zrY}:Ew (zrZ E):=λx a b=>ae.ext λk=>by rw[zV1,kc k,aX];congr 1;simp only[inB];grind
def Jk(g:ay):Bool:=inB g.Z 0 100000&&(decide (g.Low >= -1000000)&&(decide (g.Low<=g.High)&&decide (g.High<=1000000)))
def ig(g:ay):Prop:=(0<=g.Z/\g.Z<=100000)/\-1000000<=g.Low/\g.Low<=g.High/\g.High<=1000000
def dh(l:Sl ay):Prop:=(∀i,i<l.len->ig (l.get i))/\1<=l.len/\l.len<=24
theorem zlR{g:ay}:Jk g=true↔ig g:=by
 simp only[Jk,inB,fQ,oD,ig,ge_iff_le]
def CZ(a b:ay):List straight:=if a.Z=b.Z then []else [Gl a.Z a.Low b.Z b.Low,Gl a.Z a.Low b.Z b.High,Gl a.Z a.High b.Z b.Low,Gl a.Z a.High b.Z b.High]
def Fh(g:Sl ay)(i:Nat):Nat→Nat→List straight|0,_=>[]|m+1,k=>CZ (g.get i) (g.get k)++Fh g i m (k+1)
def P9(g:Sl ay):Nat→Nat→List straight|0,_=>[]|m+1,i=>Fh g i (g.len-(i+1)) (i+1)++P9 g m (i+1)
def cst(g:Sl ay):List straight:=P9 g g.len 0
theorem qP{g:ay}(h:ig g) : -1000000<=g.Low/\g.Low<=1000000:=⟨h.2.1,by have:=h.2;omega⟩
theorem sN{g:ay}(h:ig g) : -1000000<=g.High/\g.High<=1000000:=⟨by have:=h.2;omega,h.2.2.2⟩
abbrev zBs(C:Int×Int×Int×Int->ae straight):Prop:=∀z p y q,(0<=z/\z<=100000)->(0<=y/\y<=100000)->(-1000000<=p/\p<=1000000)->(-1000000<=q/\q<=1000000)->C (z,p,y,q)=.ok (Gl z p y q)
theorem zXt{E:ztd}:zBs (zte E):=λz p y q hz hy hp hq=>ae.ext λk=>by
 have b1:=ru hp.1 hp.2 hy.1 hy.2;have b2:=ru hq.1 hq.2 hz.1 hz.2;rw[e229,aX,aT (x:=p*y) omY omY,aT (x:=q*z) omY omY];unfold Gl;by_cases h:z>y;rw[dP h,dF,eU h,aT (x:=p-q) omY omY,aT (x:=z-y) omY omY,aT (x:=q*z-p*y) omY omY];rw[dY h,dL,eY h,aT (x:=q-p) omY omY,aT (x:=y-z) omY omY,aT (x:=p*y-q*z) omY omY]
abbrev zBt(I:Pt list->ae (List straight)):Prop:=∀l:Pt list,dh l.v.bJ->I l=.ok (cst l.v.bJ)
theorem zXu{E:YA}(N:Big E.N)(zgp:zBs E.c229):zBt (zBm E):=λl G=>by
 have hl:=G.2.2;refine Ey ?_ (λ_=>rfl) (λ_=>rfl);rw[e228]
 have inn:∀(n i:Nat)(R:List (List PA))(sl:Sl ay),i<l.v.bJ.len->sl.len=l.v.bJ.len-(i+1)->(∀x,sl.get x=l.v.bJ.get (x+(i+1)))->OA E n l (aJ ((i:Int)+1))=some R ->
   ∀(m j n1:Nat),j+m=sl.len->m<n1->OB E n n1 l (i:Int) sl (sl.len:Int) (j:Int) (l.v.bJ.get i)=some ((Fh l.v.bJ i m (j+(i+1))).map dA.enc++R):=by
  intro n i R sl hi hs hg hR m
  induction m with
  | zero =>
   intro j n1 hj hn;obtain⟨n1,rfl⟩:∃n',n1=n'+1:=⟨n1-1,omY⟩;rw[zlG,dY omY,dL,hR];rfl
  | succ m ih =>
   intro j n1 hj hn;obtain⟨n1,rfl⟩:∃n',n1=n'+1:=⟨n1-1,omY⟩;have gi:=G.1 i hi;have gk:=G.1 (j+(i+1)) omY;have i1:=ih (j+1) n1 omY omY;rw[zlG,dP omY,dF,bf omY,bF omY,i1,fO,hg];show _=some (List.map dA.enc (CZ (l.v.bJ.get i) (l.v.bJ.get (j+(i+1)))++Fh l.v.bJ i m (j+(i+1)+1))++R);unfold CZ;by_cases hz:(l.v.bJ.get i).Z=(l.v.bJ.get (j+(i+1))).Z;rw[eU hz,show((l.v.bJ.get i).Z==(l.v.bJ.get (j+(i+1))).Z)=true by simpa using hz,dF,show j+1+(i+1)=j+(i+1)+1 by omega];rfl
   rw[eY hz,show((l.v.bJ.get i).Z==(l.v.bJ.get (j+(i+1))).Z)=false by simpa using hz,dL,zgp _ _ _ _ gi.1 gk.1 (qP gi) (qP gk),zgp _ _ _ _ gi.1 gk.1 (qP gi) (sN gk),zgp _ _ _ _ gi.1 gk.1 (sN gi) (qP gk),zgp _ _ _ _ gi.1 gk.1 (sN gi) (sN gk),aX,aX,aX,aX,
    show j+1+(i+1)=j+(i+1)+1 by omega];rfl
 have key:∀(m i n:Nat),i+m=l.v.bJ.len->m<n->OA E n l (i:Int)=some ((P9 l.v.bJ m i).map dA.enc):=by
  intro m
  induction m with
  | zero =>
   intro i n hi hn;obtain⟨n,rfl⟩:∃n',n=n'+1:=⟨n-1,omY⟩;rw[zlF,dY omY];rfl
  | succ m ih =>
   intro i n hi hn;obtain⟨n,rfl⟩:∃n',n=n'+1:=⟨n-1,omY⟩;have i1:=ih (i+1) n omY omY;rw[zlF,dP omY,dF,bf omY,bF omY,bf omY,fO];have hs:((l.v.bJ.len:Int)-((i+1:Nat):Int)).toNat=l.v.bJ.len-(i+1):=by omega
   have:=inn n i _ ⟨((l.v.bJ.len:Int)-((i+1:Nat):Int)).toNat,xZ l.v.bJ.get (((i+1:Nat):Int)).toNat⟩ omY hs (λx=>by show l.v.bJ.get (x+(((i+1:Nat):Int)).toNat)=_;rw[fO]) (by rw[bF omY];exact i1) (l.v.bJ.len-(i+1)) 0 E.N (by show 0+(l.v.bJ.len-(i+1))=((l.v.bJ.len:Int)-((i+1:Nat):Int)).toNat;omega) (by have:=N;omega);rw[PK]at this;refine this.trans ?_;show _=some (((Fh l.v.bJ i (l.v.bJ.len-(i+1)) (i+1))++P9 l.v.bJ m (i+1)).map dA.enc);rw[Qn]
 exact key l.v.bJ.len 0 E.N omY (by have:=N;omega)
abbrev zBu(C:ay->ae Bool):Prop:=∀g,C g=.ok (Jk g)
theorem zXv{E:zrW}(CU:Ew E.c157):zBu (zrX E):=λg=>ae.ext λk=>by
 rw[zVY,CU,aX,aX];unfold Jk;cases inB g.Z 0 100000<;>cases decide (g.Low >= -1000000)<;>cases decide (g.Low<=g.High)<;>rfl
def xM(l:Sl ay):Bool:=dX (λi=>Jk (l.get i)) l.len&&inB (l.len:Int) 1 24
theorem kS{l:Sl ay}:xM l=true↔dh l:=by
 simp only[xM,fQ,cZ,inB,oD,zlR,dh];exact and_congr Wp omY
abbrev ztB(C:Sl ay->ae Bool):Prop:=∀l:Sl ay,l.len<=1000->C l=.ok (xM l)
theorem zXw{E:zf7}(N:Big E.N)(zAz:zBu E.c156)(CU:Ew E.c157):ztB (zq7 E):=λl hl=>ae.ext λk=>by
 rw[e109,aX,loopA (L:=λn i=>Uu E n l i k) (p:=λi=>Jk (l.get i)) (m:=l.len) (fin:=k (inB (l.len:Int) 1 24)) (stop:=k false) omY (λn i hi=>?_) (λn=>?_) _ (by have:=N;omega)];unfold xM;cases dX (λi=>Jk (l.get i)) l.len<;>rfl;rw [zkL,dP omY,dF,bf omY,zAz,aX,fO];cases Jk (l.get i)<;>rfl;rw[zkL,dY omY,dL,CU,aX]
/-! The first one of a list that is as wanted. -/
def fst(p:Nat→Bool):Nat→Nat→Int|0,_=>-1|m+1,i=>cond (p i) (i:Int) (fst p m (i+1))
theorem zd0(p:Nat->Bool):∀m i,(0<=fst p m i↔∃j,i<=j/\j<i+m/\p j=true):=by
 intro m
 induction m with
 | zero=>intro i;exact⟨λh=>by simp[fst]at h,λ⟨j,h1,h2,_⟩=>by omega⟩
 | succ m ih =>
  intro i;simp only[fst];cases h:p i with
  | true=>exact⟨λ_=>⟨i,jP _,omY,h⟩,λ_=>by simp⟩
  | false =>
   rw[dL,ih];exact⟨λ⟨j,h1,h2,h3⟩=>⟨j,omY,omY,h3⟩,λ⟨j,h1,h2,h3⟩=>⟨j,by
    have:j≠i:=λe=>by rw[e,h]at h3;cases h3
    omega,omY,h3⟩⟩
theorem xN(p:Nat->Bool)(m:Nat):decide (fst p m 0>=0) = !dX (λi=>!p i) m:=by
 rw[PN];simp only[oD,ge_iff_le,zd0,JS,<- qjw,cZ];constructor;rintro⟨j,_,h2,h3⟩ h;have:=h j omY;rw[h3]at this;exact absurd rfl this;intro h;apply qdM;intro hc;exact h λi hi hp=>hc ⟨i,Ad _,omY,hp⟩
theorem Fj{A:Type}{L:Nat→Int→Option A}{p:Nat→Bool}{m:Nat}{k:Int→Option A}(hm:m<4611686018427387904)
    (hL:∀n i,i<m->L (n+1) (i:Int)=cond (p i) (k (i:Int)) (L n (aJ ((i:Int)+1)))) (hE:∀n,L (n+1) (m:Int)=k (-1)):∀n,m<n->L n 0=k (fst p m 0):=by
  have key:∀(d i n:Nat),i+d=m->d<n->L n (i:Int)=k (fst p d i):=by
    intro d
    induction d with
    | zero =>
      intro i n hi hn;obtain⟨n,rfl⟩:∃n',n=n'+1:=⟨n-1,omY⟩;have e:i=m:=by omega
      subst e;exact hE n
    | succ d ih =>
      intro i n hi hn;obtain⟨n,rfl⟩:∃n',n=n'+1:=⟨n-1,omY⟩;rw[hL n i omY,bF omY,ih (i+1) n omY omY];simp only[fst];cases p i<;>rfl
  intro n hn;exact key m 0 n omY hn
def RH(x:straight)(g:ay):Bool:=inB (aJ (x.start+aJ (x.bT*g.Z))) (aJ (g.Low*x.den)) (aJ (g.High*x.den))
abbrev zBv(C:straight×ay->ae Bool):Prop:=∀x g,C (x,g)=.ok (RH x g)
theorem zXx{E:zth}(CU:Ew E.c157):zBv (zti E):=λx g=>ae.ext λk=>by rw[e231,CU,aX,aX];rfl
abbrev zBw(C:ay×Pt straight->ae Bool):Prop:=∀g (x:Pt straight),C (g,x)=.ok (!RH x.v g)
theorem zXy{E:ztf}(zBn:zBv E.zva):zBw (ztg E):=λg x=>ae.ext λk=>by rw[e230,zBn,aX,aX]
def YM(x:straight)(g:ay):Bool:=aJ (x.start+aJ (x.bT*g.Z))==aJ (g.Low*x.den)
abbrev zBx(C:ay×Pt straight->ae Bool):Prop:=∀g (x:Pt straight),C (g,x)=.ok (YM x.v g)
theorem zXz{E:ztz}:zBx (ztA E):=λg x=>ae.ext λk=>by rw[e257,aX];rfl
abbrev zBy(C:ay×Pt list->ae Bool):Prop:=∀g (x:Pt list),0<x.v.bJ.len->C (g,x)=.ok (g.Z != (x.v.bJ.get 0).Z)
theorem zXA{E:zsR}:zBy (zsS E):=λg x h=>ae.ext λk=>by rw[e207,aX,bf omY]
abbrev zgs:=dM 207 Unit (Pt list) ⊕ dM 230 Unit (Pt straight) ⊕ dM 257 Unit (Pt straight)
def zlS:zgs→ay→Bool|.inl c,g=>g.Z != (c.v.v.bJ.get 0).Z|.inr (.inl c),g=>!RH c.v.v g|.inr (.inr c),g=>YM c.v.v g
def okG:zgs→Prop|.inl c=>0<c.v.v.bJ.len|_=>True
abbrev QIx{γ:Type}(i:γ->zgs)(C:Sl ay×γ->ae Int):Prop:=∀(l:Sl ay)(c:γ),l.len<=1000->okG (i c)->C (l,c)=.ok (fst (λj=>zlS (i c) (l.get j)) l.len 0)
abbrev Qa{γ:Type}(i:γ->zgs)(C:Sl ay×γ->ae Bool):Prop:=∀(l:Sl ay)(c:γ),l.len<=1000->okG (i c)->C (l,c)=.ok (!dX (λj=>!zlS (i c) (l.get j)) l.len)
abbrev zlT(C:Sl ay×zgs->ae Int):Prop:=QIx id C
abbrev YN(C:Sl ay×zgs->ae Bool):Prop:=Qa id C
theorem zlU{E:wF}(N:Big E.N)(zBo:zBy E.zu5):QIx .inl (Fe E):=λl c hl ho=>ae.ext λk=>by
 rw[zlH,aX];refine Fj (L:=λn i=>xI E n l c i k) (p:=λj=>zlS (.inl c) (l.get j)) (m:=l.len) (k:=k) omY (λn i hi=>?_) (λn=>?_) _ (by have:=N;omega);rw[OC,dP omY,dF,bf omY,zBo _ _ ho,aX,fO];rfl;rw[OC,dY omY];rfl
theorem zlV{E:wG}(N:Big E.N)(zBp:zBw E.zu9):QIx (λc=>.inr (.inl c)) (Ff E):=λl c hl ho=>ae.ext λk=>by
 rw[zlJ,aX];refine Fj (L:=λn i=>xJ E n l c i k) (p:=λj=>zlS (.inr (.inl c)) (l.get j)) (m:=l.len) (k:=k) omY (λn i hi=>?_) (λn=>?_) _ (by have:=N;omega);rw[OD,dP omY,dF,bf omY,zBp,aX,fO];rfl;rw[OD,dY omY];rfl
theorem zlW{E:wH}(N:Big E.N)(zBq:zBx E.zvc):QIx (λc=>.inr (.inr c)) (Fg E):=λl c hl ho=>ae.ext λk=>by
 rw[zlL,aX];refine Fj (L:=λn i=>xK E n l c i k) (p:=λj=>zlS (.inr (.inr c)) (l.get j)) (m:=l.len) (k:=k) omY (λn i hi=>?_) (λn=>?_) _ (by have:=N;omega);rw[OE,dP omY,dF,bf omY,zBq,aX,fO];rfl;rw[OE,dY omY];rfl
theorem zXB{f:Sl ay×dM 207 Unit (Pt list)->ae Int}{g:Sl ay×dM 230 Unit (Pt straight)->ae Int}{h:Sl ay×dM 257 Unit (Pt straight)->ae Int}(a:QIx .inl f)(b:QIx (λc=>.inr (.inl c)) g)(d:QIx (λc=>.inr (.inr c)) h):zlT (ae.two f (ae.two g h)):=λl c hl ho=>by
 rcases c with c|c|c
 exact a l c hl ho;exact b l c hl ho;exact d l c hl ho
theorem zlX{E:EU}(Ov:zlT E.FY):Qa .inl (EW E):=λl c hl ho=>ae.ext λk=>by rw[zlt,Ov l (.inl c) hl ho,aX,aX,xN];rfl
theorem zlY{E:EX}(Ov:zlT E.FY):Qa (λc=>.inr (.inl c)) (EY E):=λl c hl ho=>ae.ext λk=>by rw[zlv,Ov l (.inr (.inl c)) hl ho,aX,aX,xN];rfl
theorem zlZ{E:EZ}(Ov:zlT E.FY):Qa (λc=>.inr (.inr c)) (E5 E):=λl c hl ho=>ae.ext λk=>by rw[zlx,Ov l (.inr (.inr c)) hl ho,aX,aX,xN];rfl
theorem zXC{f:Sl ay×dM 207 Unit (Pt list)->ae Bool}{g:Sl ay×dM 230 Unit (Pt straight)->ae Bool}{h:Sl ay×dM 257 Unit (Pt straight)->ae Bool}(a:Qa .inl f)(b:Qa (λc=>.inr (.inl c)) g)(d:Qa (λc=>.inr (.inr c)) h):YN (ae.two f (ae.two g h)):=λl c hl ho=>by
 rcases c with c|c|c
 exact a l c hl ho;exact b l c hl ho;exact d l c hl ho
def gy(l:Sl ay):Bool:=dX (λj=>(l.get j).Z==(l.get 0).Z) l.len
theorem ztC{a b:Int}:(!(a != b))=(a==b):=by cases h:a==b<;>simp[bne,h]
abbrev zbY(C:list->ae Bool):Prop:=∀x:list,0<x.bJ.len->x.bJ.len<=1000->C x=.ok (gy x.bJ)
theorem zXD{E:zsa}(Oo:YN E.c206):zbY (zsb E):=λx h0 h1=>ae.ext λk=>by
 rw[e167,Oo x.bJ (.inl ⟨(),⟨x⟩⟩) h1 h0,aX,aX,jq1];congr 1;exact N9 λi _=>ztC
def allB(l:Sl ay)(x:straight):Bool:=dX (λj=>RH x (l.get j)) l.len
abbrev zBz(C:set×straight->ae Bool):Prop:=∀(s:set) x,s.list.bJ.len<=1000->C (s,x)=.ok (allB s.list.bJ x)
theorem zXE{E:zsJ}(Oo:YN E.c206):zBz (zsK E):=λs x h1=>ae.ext λk=>by
 rw[e199,Oo s.list.bJ (.inr (.inl ⟨(),⟨x⟩⟩)) h1 trivial,aX,aX,jq1];congr 1;exact N9 λi _=>jq1 _
abbrev zBA(C:set×straight->ae Bool):Prop:=∀(s:set) x,s.list.bJ.len<=1000->C (s,x)=.ok (!dX (λj=>!YM x (s.list.bJ.get j)) s.list.bJ.len)
theorem zXF{E:ztx}(Oo:YN E.c206):zBA (zty E):=λs x h1=>ae.ext λk=>by
 rw[zXm,Oo s.list.bJ (.inr (.inr ⟨(),⟨x⟩⟩)) h1 trivial,aX,aX];rfl
def gz(l:Sl ay):Nat→bW
  | 0=>⟨(l.get 0).Low,(l.get 0).High⟩
  | n+1=>⟨if(l.get n).Low>(gz l n).Low then(l.get n).Low else(gz l n).Low,if(l.get n).High<(gz l n).High then(l.get n).High else(gz l n).High⟩
abbrev ztD(C:list->ae bW):Prop:=∀x:list,0<x.bJ.len->x.bJ.len<=1000->C x=.ok (gz x.bJ x.bJ.len)
theorem zXG{E:zgm}(N:Big E.N):ztD (zsL E):=λx h0 h1=>ae.ext λk=>by
 rw[zWN,bf omY,bf omY,aX];refine lq (X:=λn i=>UJ E n x (i:Int) (gz x.bJ i) k) (m:=x.bJ.len) (λn i hi=>?_) (λn=>?_) _ (by have:=N;omega);rw[zlr,dP omY,dF,bf omY,bF omY,fO];rfl;rw[zlr,dY omY];rfl
def yN(s:straight):Prop:=(-2000000<=s.bT/\s.bT<=2000000)/\(-200000000000<=s.start/\s.start<=200000000000)/\1<=s.den/\s.den<=100000
theorem zBB{z p y q:Int}(hz:0<=z/\z<=100000)(hy:0<=y/\y<=100000)(hp : -1000000<=p/\p<=1000000)(hq : -1000000<=q/\q<=1000000)(hn:z≠y):yN (Gl z p y q):=by
 have b1:=ru hp.1 hp.2 hy.1 hy.2;have b2:=ru hq.1 hq.2 hz.1 hz.2;unfold Gl yN;by_cases h:z>y;rw[eU h];exact⟨⟨by show _<=p-q;omega,by show p-q<=_;omega⟩,⟨by show _<=q*z-p*y;omega,by show q*z-p*y<=_;omega⟩,by show _<=z-y;omega,by show z-y<=_;omega⟩;rw[eY h];exact⟨⟨by show _<=q-p;omega,by show q-p<=_;omega⟩,⟨by show _<=p*y-q*z;omega,by show p*y-q*z<=_;omega⟩,by show _<=y-z;omega,by show y-z<=_;omega⟩
theorem zl0{a b:ay}{s:straight}(h:s∈CZ a b):a.Z≠b.Z/\∃p q,(p=a.Low\/p=a.High)/\(q=b.Low\/q=b.High)/\s=Gl a.Z p b.Z q:=by
 unfold CZ at h;by_cases hz:a.Z=b.Z;rw[eU hz]at h;cases h;rw [eY hz]at h;refine⟨hz,?_⟩;simp only[jV,qjv,jqO]at h;rcases h with h|h|h|h
 exact⟨_,_,.inl rfl,.inl rfl,h⟩;exact⟨_,_,.inl rfl,.inr rfl,h⟩;exact⟨_,_,.inr rfl,.inl rfl,h⟩;exact⟨_,_,.inr rfl,.inr rfl,h⟩
theorem YP{g:Sl ay}{i:Nat}{s:straight}:∀{m k:Nat},s∈Fh g i m k→∃j,k≤j∧j<k+m∧s∈CZ (g.get i) (g.get j)
  | 0,_,h=>by cases h
  | m+1,k,h=>by
    rcases dR.1 h with h|h
    exact⟨k,jP _,omY,h⟩;obtain⟨j,a,b,c⟩:=YP h;exact⟨j,omY,omY,c⟩
theorem YQ{g:Sl ay}{s:straight}:∀{m i:Nat},s∈P9 g m i→∃a b,i≤a∧a<i+m∧a<b∧b<g.len∧s∈CZ (g.get a) (g.get b)
  | 0,_,h=>by cases h
  | m+1,i,h=>by
    rcases dR.1 h with h|h
    obtain⟨j,a,b,c⟩:=YP h;exact⟨i,j,jP _,omY,omY,omY,c⟩;obtain⟨a,b,h1,h2,h3,h4,h5⟩:=YQ h;exact⟨a,b,omY,omY,h3,h4,h5⟩
theorem zd1{g:Sl ay}{s:straight}(h:s∈cst g):∃a b,a<b/\b<g.len/\(g.get a).Z≠(g.get b).Z/\∃p q,(p=(g.get a).Low\/p=(g.get a).High)/\(q=(g.get b).Low\/q=(g.get b).High)/\s=Gl (g.get a).Z p (g.get b).Z q:=by
 obtain⟨a,b,_,_,h3,h4,h5⟩:=YQ h;obtain⟨hz,r⟩:=zl0 h5;exact⟨a,b,h3,h4,hz,r⟩
theorem sO{g:Sl ay}(G:dh g){s:straight}(h:s∈cst g):yN s:=by
 obtain⟨a,b,h1,h2,hz,p,q,hp,hq,rfl⟩:=zd1 h;have ga:=G.1 a omY;have gb:=G.1 b h2;refine zBB ga.1 gb.1 ?_ ?_ hz;rcases hp with rfl|rfl;exact qP ga;exact sN ga
 rcases hq with rfl|rfl;exact qP gb;exact sN gb
def ui(l:Line):List Int:=[l.dI.Num,l.dI.bK,l.Start.Num,l.Start.bK]
theorem zgt{a b:Line}(h:ui a=ui b):a=b:=by
 unfold ui at h;simp only[Du,jqf]at h;obtain⟨h1,h2,h3,h4⟩:=h;obtain⟨⟨a1,a2⟩,a3,a4⟩:=a;obtain⟨⟨b1,b2⟩,b3,b4⟩:=b;simp only at h1 h2 h3 h4;rw[h1,h2,h3,h4]
theorem YR(a b:ay):(CZ a b).length<=4:=by unfold CZ;split<;>simp
theorem YS(g:Sl ay)(i m k:Nat):(Fh g i m k).length<=4*m:=by
 induction m generalizing k with|zero=>exact jP _|succ m ih=>show(CZ _ _++Fh g i m (k+1)).length<=_;rw[Py];have:=ih (k+1);have:=YR (g.get i) (g.get k);omega
theorem zl1(g:Sl ay):∀m i,(P9 g m i).length<=4*g.len*m:=by
 intro m
 induction m with
 | zero=>intro i;exact jP _
 | succ m ih =>
  intro i;show(Fh g i (g.len-(i+1)) (i+1)++P9 g m (i+1)).length<=_;rw[Py,Nat.mul_succ];have:=ih (i+1);have:=YS g i (g.len-(i+1)) (i+1);omega
theorem Ky{g:Sl ay}(G:dh g):(cst g).length<=2304:=by
 have h1:=zl1 g g.len 0;have hl:=G.2.2;have:4*g.len*g.len<=4*24*24:=jqJ omY hl;exact Gj h1 this
def mM{α:Type}[bD α](v:Sl α)(x:α):Sl α:=⟨v.len+1,iR v.len v.get (λ_=>x)⟩
theorem uY{α:Type}[bD α](l:List α):∀v:Sl α,(l.foldl mM v).len=v.len+l.length:=by
 induction l with|nil=>intro v;rfl|cons x l ih=>intro v;rw[Wl,ih];show v.len+1+l.length=v.len+(l.length+1);omega
theorem UN{α:Type}[bD α][tZ α](l:List α):∀(v:Sl α)(i:Nat),i<v.len->(l.foldl mM v).get i=v.get i:=by
 induction l with
 | nil=>intro v i _;rfl
 | cons x l ih =>
  intro v i hi;rw[Wl,ih _ _ (show i<v.len+1 by omega)];show iR v.len v.get (λ_=>x) i=_;rw[jA,eY omY]
theorem BJ{α:Type}[bD α][tZ α](l:List α):∀(v:Sl α)(i:Nat)(x:α),l[i]? = some x->(l.foldl mM v).get (v.len+i)=x:=by
 induction l with
 | nil=>intro v i x h;simp at h
 | cons y l ih =>
  intro v i x h;rw[Wl];cases i with
  | zero =>
   simp only[qdG,bM]at h;subst h;rw[UN l _ _ (show v.len+0<v.len+1 by omega)];show iR v.len v.get (λ_=>y) (v.len+0)=_;rw[jA,eU omY]
  | succ i =>
   have:=ih (mM v y) i x (by simpa using h);rw[<- this];congr 1;show v.len+(i+1)=v.len+1+i;omega
abbrev ztE(C:straight->ae Line):Prop:=∀x,yN x->C x=.ok (fA x)
theorem zXH{E:zsH}(rq:OG E.kQ):ztE (zsI E):=λx h=>ae.ext λk=>by
 obtain⟨h1,h2,h3⟩:=h;rw[zWK,rq _ _ omY omY omY omY,rq _ _ omY omY omY omY,aX,aX,aX];rfl
def Ic(g:Sl ay):List straight→List straight→(List Int→Option (List Int))→List straight|[],acc,_=>acc|y::r,acc,F=>cond (!(AZ (F (ui (fA y))) 0 != 0)) (cond (allB g y) (Ic g r (acc++[y]) (oI (ui (fA y)) [1] F)) (Ic g r acc F)) (Ic g r acc F)
def jD(g:Sl ay):List straight:=cond (gy g) [] (Ic g (cst g) [] λ_=>none)
abbrev Jl{α:Type}[Inhabited α]:Sl α:=⟨0,λ_=>default⟩
abbrev ztF(C:Sl ay->ae set):Prop:=∀g,dh g->C g=.ok ⟨⟨g⟩,(jD g).foldl mM Jl⟩
theorem zXI{E:zgf}(xA:zbY E.c167)(i228:zBt E.i228)(zbO:ztE E.c198)(zAZ:zBz E.zu1):ztF (zr0 E):=λg G=>ae.ext λk=>by
 have hl:=G.2;rw[zV3,xA ⟨g⟩ (by show 0<g.len;omega) (by show g.len<=1000;omega),aX,aX];unfold jD;cases gy g with
 | true=>rfl
 | false =>
  rw[dL,dL,i228 ⟨⟨g⟩⟩ G,aX];have key:∀(r acc:List straight)(n:Nat)(F:List Int->Option (List Int)),(∀s∈r,yN s)->acc.length+r.length<=10000->qE E r g (acc.foldl mM Jl) n F k=k ⟨⟨g⟩,(Ic g r acc F).foldl mM Jl⟩:=by
   intro r
   induction r with
   | nil=>intro acc n F _ _;exact zr1 ..
   | cons y r ih =>
    intro acc n F hs hn;have pM:∀s∈r,yN s:=λs h=>hs s (jM _ h);rw[qp]at hn;rw[zAY,zbO y (hs y kH),aX,zAZ ⟨⟨g⟩,_⟩ y (by show g.len<=1000;omega),aX];have e1:∀m F,qE E r g (acc.foldl mM Jl) m F k=_:=λm F=>ih acc m F pM omY;have e2:∀m F,qE E r g ((acc++[y]).foldl mM Jl) m F k=_:=λm F=>ih (acc++[y]) m F pM (by rw[Py];simp only[qp,Wj];omega);have hlen:(acc.foldl mM Jl).len=acc.length:=by rw[uY];simp
    have Gi:room ((acc.foldl mM Jl).len+1) 24=true:=dP (by rw[hlen];omega);have hf:(⟨(acc.foldl mM Jl).len+1,iR (acc.foldl mM Jl).len (acc.foldl mM Jl).get (λ_=>y)⟩:Sl straight)=(acc++[y]).foldl mM Jl:=by rw[jql];rfl
    rw[Gi,hf];show cond (!(AZ (F (ui (fA y))) 0 != 0)) (cond (allB g y) (qE E r g ((acc++[y]).foldl mM Jl) _ (oI (ui (fA y)) [1] F) k) (qE E r g (acc.foldl mM Jl) n F k)) (qE E r g (acc.foldl mM Jl) n F k)=_;rw[e1,e2];simp only[Ic];cases(AZ (F (ui (fA y))) 0 != 0)<;>cases allB g y<;>rfl
  exact key (cst g) [] 0 _ (λs h=>sO G h) (by have:=Ky G;simp only[Wj];omega)
theorem ztG(g:Sl ay):∀(r acc:List straight)(F:List Int->Option (List Int)),(∀c,(AZ (F c) 0 != 0)=true↔∃x∈acc,ui (fA x)=c)->acc.Pairwise (λx y=>fA x≠fA y) ->
    (∀s∈Ic g r acc F,s∈acc\/(s∈r/\allB g s=true))/\(∀s∈acc,s∈Ic g r acc F)/\(∀s∈r,allB g s=true->∃x∈Ic g r acc F,fA x=fA s)/\(Ic g r acc F).Pairwise (λx y=>fA x≠fA y):=by
  intro r
  induction r with
  | nil=>intro acc F _ hp;exact⟨λs h=>.inl h,λs h=>h,(λs h=>by cases h),hp⟩
  | cons y r ih =>
    intro acc F hF hp;have skip:=ih acc F hF hp;simp only[Ic];cases h1:(AZ (F (ui (fA y))) 0 != 0)with
    | true =>
      obtain⟨c3,c4,c5,c6⟩:=skip;simp only[Qo,dL];refine⟨λs h=>(c3 s h).imp id λk=>⟨jM _ k.1,k.2⟩,c4,λs h ha=>?_,c6⟩;rcases jV.1 h with rfl|h
      obtain⟨x,hx,hc⟩:=(hF _).1 h1;exact⟨x,c4 x hx,zgt hc⟩;exact c5 s h ha
    | false =>
      cases h2:allB g y with
      | true =>
        simp only[qdQ,dF]
        obtain⟨c3,c4,c5,c6⟩:=ih (acc++[y]) (oI (ui (fA y)) [1] F)
          (λc=>by
            unfold oI;by_cases hc:c=ui (fA y);rw [dP hc];exact⟨λ_=>⟨y,by simp,hc.symm⟩,λ_=>rfl⟩;rw [dY hc];refine(hF c).trans ⟨λ⟨x,hx,e⟩=>⟨x,dR.2 (.inl hx),e⟩,λ⟨x,hx,e⟩=>?_⟩;rcases dR.1 hx with hx|hx
            exact⟨x,hx,e⟩;rw[mf.1 hx]at e;exact absurd e.symm hc)
          (by
            rw[qdy];refine⟨hp,jqQ _ _,λa ha b hb=>?_⟩;rw[mf.1 hb];exact λe=>by rw[(hF _).2 ⟨a,ha,by rw[e]⟩]at h1;cases h1)
        have hy:=c4 y (by simp);refine⟨λs h=>?_,λs h=>c4 s (dR.2 (.inl h)),λs h ha=>?_,c6⟩;rcases c3 s h with h|h
        rcases dR.1 h with h|h
        exact .inl h;rw[mf.1 h];exact .inr ⟨kH,h2⟩;exact .inr ⟨jM _ h.1,h.2⟩;rcases jV.1 h with rfl|h
        exact⟨s,hy,rfl⟩;exact c5 s h ha
      | false =>
        obtain⟨c3,c4,c5,c6⟩:=skip;simp only[qdQ,dF,dL];refine⟨λs h=>(c3 s h).imp id λk=>⟨jM _ k.1,k.2⟩,c4,λs h ha=>?_,c6⟩;rcases jV.1 h with rfl|h
        rw[h2]at ha;cases ha;exact c5 s h ha
theorem UO{g:Sl ay}(hf:gy g=false):(∀s∈jD g,s∈cst g/\allB g s=true)/\(∀s∈cst g,allB g s=true->∃x∈jD g,fA x=fA s)/\(jD g).Pairwise (λx y=>fA x≠fA y):=by
 unfold jD;rw[hf,dL];obtain⟨c3,_,c5,c6⟩:=ztG g (cst g) [] (λ_=>none) (λc=>⟨λh=>by simp[AZ]at h,λ⟨x,hx,_⟩=>by cases hx⟩) List.Pairwise.nil;refine⟨λs h=>?_,c5,c6⟩;rcases c3 s h with h|h
 cases h;exact h
def jy(g:Sl ay):Bool:=cond (gy g) (decide ((gz g g.len).Low<=(gz g g.len).High)) (decide (((jD g).length:Int)>0))
def jg(g:Sl ay):set:=⟨⟨g⟩,(jD g).foldl mM Jl⟩
theorem Fp(g:Sl ay):(jg g).cO.len=(jD g).length:=by show((jD g).foldl mM Jl).len=_;rw[uY];simp
abbrev ztH(C:set->ae Bool):Prop:=∀g,dh g->C (jg g)=.ok (jy g)
theorem zXJ{E:zr2}(zbP:ztD E.VD)(xA:zbY E.c167):ztH (zr3 E):=λg G=>ae.ext λk=>by
 have hl:=G.2;rw[zV6,zbP _ (by show 0<g.len;omega) (by show g.len<=1000;omega),aX,xA _ (by show 0<g.len;omega) (by show g.len<=1000;omega),aX,aX,Fp,kc k];rfl
def Dq(g:Sl ay)(b:Bool):set×Int:=cond (xM g) (cond (jy g) (cond (gy g && !b) (⟨⟨Jl⟩,Jl⟩,6) (jg g,0)) (⟨⟨Jl⟩,Jl⟩,5)) (⟨⟨Jl⟩,Jl⟩,2)
abbrev zBC(C:list->ae Bool):Prop:=∀l,C l=.ok false
theorem zXK{E:zri}:zBC (zrj E):=λl=>ae.ext λk=>by rw[e118,aX]
abbrev zBD(C:list×Pt Int->ae Bool):Prop:=∀(l:list)(z:Pt Int),0<l.bJ.len->C (l,z)=.ok ((l.bJ.get 0).Z==z.v)
theorem zXL{E:zr4}:zBD (zr5 E):=λl z h=>ae.ext λk=>by rw[e162,aX,bf omY]
abbrev zBE:=dM 118 Unit Unit ⊕ dM 162 Unit (Pt Int)
def zXM(g:Sl ay):zBE→Bool|.inl _=>false|.inr c=>(g.get 0).Z==c.v.v
abbrev QOp{γ:Type}(i:γ->zBE)(C:Sl ay×γ->ae (set×Int)):Prop:=∀(g:Sl ay)(c:γ),g.len<=1000->C (g,c)=.ok (Dq g (zXM g (i c)))
abbrev ztI(C:Sl ay×zBE->ae (set×Int)):Prop:=QOp id C
theorem zl2{E:EF}(zbD:ztB E.c109)(zbE:ztF E.Vz)(zbF:ztH E.c159)(xA:zbY E.c167)(zAE:zBC E.zuL):QOp .inl (EG E):=λg c hl=>ae.ext λk=>by
 rw[zkN,zbD g hl,aX,aX];unfold Dq;cases hg:xM g with
 | false=>rfl
 | true =>
  have G:=kS.1 hg;have G2:=G.2;rw[zbE g G,aX,show(⟨⟨g⟩,(jD g).foldl mM Jl⟩:set)=jg g from rfl,zbF g G,aX,xA _ (by show 0<g.len;omega) (by show g.len<=1000;omega),aX,zAE,aX];show cond (!true) _ (cond (!jy g) _ (cond (gy g) _ _))=_;cases jy g<;>cases gy g<;>rfl
theorem zl3{E:EH}(zbD:ztB E.c109)(zbE:ztF E.Vz)(zbF:ztH E.c159)(xA:zbY E.c167)(zAF:zBD E.c162):QOp .inr (EI E):=λg c hl=>ae.ext λk=>by
 rw[zkP,zbD g hl,aX,aX];unfold Dq;cases hg:xM g with
 | false=>rfl
 | true =>
  have G:=kS.1 hg;have G2:=G.2;rw[zbE g G,aX,show(⟨⟨g⟩,(jD g).foldl mM Jl⟩:set)=jg g from rfl,zbF g G,aX,xA _ (by show 0<g.len;omega) (by show g.len<=1000;omega),aX,zAF _ _ (by show 0<g.len;omega),aX];show cond (!true) _ (cond (!jy g) _ (cond (gy g) (cond (!((g.get 0).Z==c.v.v)) _ _) _))=k (cond true (cond (jy g) (cond (gy g && !((g.get 0).Z==c.v.v)) _ _) _) _);cases jy g<;>cases gy g<;>cases((g.get 0).Z==c.v.v)<;>rfl
theorem zXN{f:Sl ay×dM 118 Unit Unit->ae (set×Int)}{h:Sl ay×dM 162 Unit (Pt Int)->ae (set×Int)}(a:QOp .inl f)(b:QOp .inr h):ztI (ae.two f h):=λg c hl=>by
 rcases c with c|c
 exact a g c hl;exact b g c hl
def ik(s:straight)(z:Int):Int:=s.start+s.bT*z
def qQ(s:straight)(g:ay):Bool:=decide (g.Low*s.den<=ik s g.Z/\ik s g.Z<=g.High*s.den)
def zBG(s:straight)(g:ay):Bool:=decide (ik s g.Z=g.Low*s.den)
theorem zd2{s:straight}(S:yN s){z:Int}(hz : -200000<=z/\z<=200000):aJ (s.start+aJ (s.bT*z))=ik s z/\(-600000000000<=ik s z/\ik s z<=600000000000):=by
 have b : -400000000000<=s.bT*z/\s.bT*z<=400000000000:=by
  rcases qd0 z 0 with h|h
  have:=ru (x:=s.bT) (y := -z) (X:=2000000) (Y:=200000) (by have:=S.1;omega) (by have:=S.1;omega) omY omY;rw[qjq]at this;omega;exact ru (X:=2000000) (Y:=200000) (by have:=S.1;omega) (by have:=S.1;omega) h omY
 have:=S.2.1;unfold ik;rw[aT (x:=s.bT*z) omY omY,aT omY omY];omega
theorem zl4{s:straight}(S:yN s){p:Int}(hp : -1000000<=p/\p<=1000000):aJ (p*s.den)=p*s.den:=by
 have:=ru hp.1 hp.2 (show 0<=s.den by have:=S.2.2;omega) S.2.2.2;exact aT omY omY
theorem YT{s:straight}(S:yN s){g:ay}(h:ig g):RH s g=qQ s g:=by
 unfold RH qQ inB;rw[(zd2 S (z:=g.Z) (by have:=h.1;omega)).1,zl4 S (qP h),zl4 S (sN h)]
theorem zd3{s:straight}(S:yN s){g:ay}(h:ig g):YM s g=zBG s g:=by
 unfold YM zBG;rw[(zd2 S (z:=g.Z) (by have:=h.1;omega)).1,zl4 S (qP h)];rw[PN];simp
def zK(g:Sl ay)(s:straight):Prop:=∀i,i<g.len->qQ s (g.get i)=true
def o5(g:Sl ay)(s:straight):Prop:=∃i,i<g.len/\zBG s (g.get i)=true
theorem Fq{g:Sl ay}(G:dh g){s:straight}(S:yN s):allB g s=true↔zK g s:=by
 unfold allB;rw[cZ];exact⟨λh i hi=>by rw[<- YT S (G.1 i hi)];exact h i hi,λh i hi=>by rw[YT S (G.1 i hi)];exact h i hi⟩
theorem YU{g:Sl ay}(G:dh g){s:straight}(S:yN s):(!dX (λj=>!YM s (g.get j)) g.len)=true↔o5 g s:=by
 rw[JS,<- qjw,cZ];constructor
 ·intro h;apply qdM;intro hc;refine h λi hi=>?_;cases e:YM s (g.get i)with|false=>rfl|true=>rw[zd3 S (G.1 i hi)]at e;exact(hc ⟨i,hi,e⟩).elim
 rintro⟨i,hi,e⟩ h;have:=h i hi;rw[zd3 S (G.1 i hi),e]at this;cases this
def uj(g:Sl ay)(s:straight):Prop:=s∈cst g/\zK g s
theorem kP{g:Sl ay}(G:dh g){s:straight}(h:uj g s):yN s:=sO G h.1
def AC(a b:aP):Prop:=a.Num*b.bK<b.Num*a.bK
def OH(s:straight):aP:=⟨s.bT,s.den⟩
theorem zbZ{z p y q:Int}(h:z≠y):ik (Gl z p y q) z=p*(Gl z p y q).den/\ik (Gl z p y q) y=q*(Gl z p y q).den:=by
 unfold Gl ik;split;constructor;show q*z-p*y+(p-q)*z=p*(z-y);rw[jqc,qjW];omega;show q*z-p*y+(p-q)*y=q*(z-y);rw[jqc,qjW];omega;constructor;show p*y-q*z+(q-p)*z=p*(y-z);rw[jqc,qjW];omega;show p*y-q*z+(q-p)*y=q*(y-z);rw[jqc,qjW];omega
def zd4(g:Sl ay)(s:straight):Prop:=∃i,i<g.len/\ik s (g.get i).Z=(g.get i).High*s.den
theorem zgu{g:Sl ay}{s:straight}(h:s∈cst g):o5 g s\/zd4 g s:=by
 obtain⟨a,b,h1,h2,hz,p,q,hp,hq,rfl⟩:=zd1 h;have e:=(zbZ (p:=p) (q:=q) hz).1;rcases hp with rfl|rfl
 exact .inl ⟨a,omY,dP e⟩;exact .inr ⟨a,omY,e⟩
theorem par{s t:straight}(h:s.bT*t.den=t.bT*s.den)(z:Int):ik s z*t.den-ik t z*s.den=s.start*t.den-t.start*s.den:=by
  unfold ik;rw[qjj,qjj];have e:s.bT*z*t.den=t.bT*z*s.den:=by
    calc s.bT * z * t.den = s.bT * t.den * z := by ac_rfl
      _=t.bT*z*s.den:=by rw[h];ac_rfl
  omega
theorem xO{g:Sl ay}{s:straight}(h:zK g s){i:Nat}(hi:i<g.len):(g.get i).Low*s.den<=ik s (g.get i).Z/\ik s (g.get i).Z<=(g.get i).High*s.den:=qdE (h i hi)
theorem zBH{g:Sl ay}(G:dh g){s t:straight}(hs:uj g s)(ht:uj g t)(h:s.bT*t.den=t.bT*s.den)(hl:s.start*t.den<t.start*s.den):¬o5 g t/\¬zd4 g s:=by
 have ps:0<s.den:=by have:=(kP G hs).2.2;omega
 have pt:0<t.den:=by have:=(kP G ht).2.2;omega
 constructor;intro⟨i,hi,e⟩;have e:ik t (g.get i).Z=(g.get i).Low*t.den:=qdE e;have a:=(xO hs.2 hi).1;have p:=par h (g.get i).Z;have a2:=KO a (xY pt);have:(g.get i).Low*s.den*t.den=ik t (g.get i).Z*s.den:=by rw[e];ac_rfl
 omega;intro⟨i,hi,e⟩;have a:=(xO ht.2 hi).2;have p:=par h (g.get i).Z;have a2:=KO a (xY ps);have:(g.get i).High*t.den*s.den=ik s (g.get i).Z*t.den:=by rw[e];ac_rfl
 omega
theorem YV{g:Sl ay}(G:dh g){s t:straight}(hs:uj g s)(ht:uj g t)(hf:o5 g s↔o5 g t)(h1:¬AC (OH s) (OH t))(h2:¬AC (OH t) (OH s)):fA s=fA t:=by
 have ps:0<s.den:=by have:=(kP G hs).2.2;omega
 have pt:0<t.den:=by have:=(kP G ht).2.2;omega
 have h:s.bT*t.den=t.bT*s.den:=by
  have a:¬s.bT*t.den<t.bT*s.den:=h1;have b:¬t.bT*s.den<s.bT*t.den:=h2;omega
 have key:∀{s t:straight},uj g s->uj g t->(o5 g s↔o5 g t)->s.bT*t.den=t.bT*s.den->¬s.start*t.den<t.start*s.den:=fun {s t} hs ht hf h hl=>by
  obtain⟨a,b⟩:=zBH G hs ht h hl;rcases zgu hs.1 with c|c
  exact a (hf.1 c);exact b c
 have e:s.start*t.den=t.start*s.den:=by
  have a:=key hs ht hf h;have b:=key ht hs hf.symm h.symm;omega
 unfold fA;rw[(zbW ps pt).2 h,(zbW ps pt).2 e]
def OI(g:Sl ay)(s t:straight):Prop:=(o5 g s/\(o5 g t->AC (OH s) (OH t)))\/(¬o5 g s/\¬o5 g t/\AC (OH t) (OH s))
theorem UQ{a:aP}:¬AC a a:=by unfold AC;omega
theorem zd5{a b:aP}(h:AC a b):¬AC b a:=by unfold AC at *;omega
theorem zd6{a b c:aP}(ha:0<a.bK)(hb:0<b.bK)(hc:0<c.bK)(h1:AC a b)(h2:AC b c):AC a c:=by
 unfold AC at *;have y1:=qjD h1 hc;have y2:=qjD h2 ha;have z1:b.Num*a.bK*c.bK=b.Num*c.bK*a.bK:=by ac_rfl
 have z2:c.Num*b.bK*a.bK=c.Num*a.bK*b.bK:=by ac_rfl
 have z3:a.Num*b.bK*c.bK=a.Num*c.bK*b.bK:=by ac_rfl
 have:a.Num*c.bK*b.bK<c.Num*a.bK*b.bK:=by omega
 exact jqF this (xY hb)
theorem ztJ{g:Sl ay}{s:straight}:¬OI g s s:=λh=>by
 rcases h with⟨a,b⟩|⟨_,_,c⟩
 exact UQ (b a);exact UQ c
theorem zl5{g:Sl ay}{s t:straight}(h:OI g s t):¬OI g t s:=λk=>by
 rcases h with⟨a,b⟩|⟨a,b,c⟩<;>rcases k with⟨x,y⟩|⟨x,y,z⟩
 exact zd5 (b x) (y a);exact y a;exact b x;exact zd5 c z
theorem zgv{g:Sl ay}(G:dh g){s t u:straight}(hs:uj g s)(ht:uj g t)(hu:uj g u)(h:OI g s t)(k:OI g t u):OI g s u:=by
 have ps:0<(OH s).bK:=by have:=(kP G hs).2.2;show 0<s.den;omega
 have pt:0<(OH t).bK:=by have:=(kP G ht).2.2;show 0<t.den;omega
 have pu:0<(OH u).bK:=by have:=(kP G hu).2.2;show 0<u.den;omega
 rcases h with⟨a,b⟩|⟨a,b,c⟩<;>rcases k with⟨x,y⟩|⟨x,y,z⟩
 exact .inl ⟨a,λw=>zd6 ps pt pu (b x) (y w)⟩;exact .inl ⟨a,λw=>absurd w y⟩;exact absurd x b;exact .inr ⟨a,y,zd6 pu pt ps z c⟩
theorem ztK{g:Sl ay}(G:dh g){s t:straight}(hs:uj g s)(ht:uj g t)(hn:fA s≠fA t):OI g s t\/OI g t s:=by
 by_cases a:o5 g s<;>by_cases b:o5 g t;by_cases c:AC (OH s) (OH t);exact .inl (.inl ⟨a,λ_=>c⟩);by_cases d:AC (OH t) (OH s);exact .inr (.inl ⟨b,λ_=>d⟩);exact absurd (YV G hs ht ⟨λ_=>b,λ_=>a⟩ c d) hn;exact .inl (.inl ⟨a,λw=>absurd w b⟩);exact .inr (.inl ⟨b,λw=>absurd w a⟩);by_cases c:AC (OH s) (OH t);exact .inr (.inr ⟨b,a,c⟩);by_cases d:AC (OH t) (OH s);exact .inl (.inr ⟨a,b,d⟩);exact absurd (YV G hs ht ⟨λw=>absurd w a,λw=>absurd w b⟩ c d) hn
abbrev ztL(C:Int->ae Bool):Prop:=∀x,C x=.ok false
theorem zXO{E:ztn}:ztL (zto E):=λx=>ae.ext λk=>by rw[zXc,aX,show(x != x)=false by simp]
def qi(a b:Int):Int:=cond (decide (a<b)) (-1) (cond (decide (a>b)) 1 0)
abbrev zb0(C:Int×Int->ae Int):Prop:=∀a b,C (a,b)=.ok (qi a b)
theorem zXP{E:zsU}(Yu:ztL E.Pj):zb0 (zsV E):=λa b=>ae.ext λk=>by
 rw[e208,Yu,aX,Yu,aX,aX];unfold qi;cases decide (a<b)<;>cases decide (a>b)<;>rfl
def FOK(f:aP):Prop:=(-1000000000<=f.Num/\f.Num<=1000000000)/\0<f.bK/\f.bK<=1000000000
def cmF(a b:aP):Int:=qi (a.Num*b.bK) (b.Num*a.bK)
theorem zJH{a b:aP}(h1:FOK a)(h2:FOK b):aJ (a.Num*b.bK)=a.Num*b.bK:=by
 have:=ru h1.1.1 h1.1.2 (xY h2.2.1) h2.2.2;exact aT omY omY
abbrev zl6(C:aP×aP->ae Int):Prop:=∀a b:aP,aJ (a.Num*b.bK)=a.Num*b.bK->aJ (b.Num*a.bK)=b.Num*a.bK->C (a,b)=.ok (cmF a b)
theorem zXR{E:zse}(zbQ:zb0 E.c208):zl6 (zsf E):=λa b h1 h2=>ae.ext λk=>by
 rw[e170,zbQ,aX,aX,h1,h2];rfl
theorem zl7{a b:aP}:cmF a b<0↔AC a b:=by
 unfold cmF qi AC;by_cases h:a.Num*b.bK<b.Num*a.bK;rw[dP h];simp[h];rw [dY h];cases decide (a.Num*b.bK>b.Num*a.bK)<;>simp[h]
theorem zl8{a b:aP}:0-cmF a b<0↔AC b a:=by
 unfold cmF qi AC;by_cases h:a.Num*b.bK<b.Num*a.bK;rw[dP h];simp;omega;rw [dY h];by_cases h2:a.Num*b.bK>b.Num*a.bK;rw[dP h2];simp;omega;rw[dY h2];simp;omega
theorem zJI(a b:aP) : -1<=cmF a b/\cmF a b<=1:=by
 unfold cmF qi;cases decide (a.Num*b.bK<b.Num*a.bK)<;>cases decide (a.Num*b.bK>b.Num*a.bK)<;>simp
theorem zl9{a b c d:Int}(hb:0<b)(hd:0<d):AC (red a b) (red c d)↔a*d<c*b:=by
 have a1:=pF (num:=a) hb;have a2:=nK (num:=a) hb;have c1:=pF (num:=c) hd;have c2:=nK (num:=c) hd;have hG:=lK (num:=a) hb;have hK:=lK (num:=c) hd;unfold AC;generalize (Int.gcd a b:Int)=G at a1 a2 hG;generalize (Int.gcd c d:Int)=K at c1 c2 hK;generalize (red a b).Num=p at a1 ⊢;generalize (red a b).bK=q at a2 ⊢;generalize (red c d).Num=u at c1 ⊢;generalize (red c d).bK=v at c2 ⊢;subst a1 a2 c1 c2;have e1:G*p*(K*v)=p*v*(G*K):=by ac_rfl
 have e2:K*u*(G*q)=u*q*(G*K):=by ac_rfl
 rw[e1,e2];have hp:=jqz hG hK;exact⟨λh=>qjD h hp,λh=>jqF h (xY hp)⟩
theorem Kz{a b:Int}(h1 : -1000000000<=a)(h2:a<=1000000000)(hb:0<b)(V7:b<=1000000000):FOK (red a b):=by
 have r1:=AB (num:=a) hb;have r2:=Ib (num:=a) hb;have r3:=jC (num:=a) hb;exact⟨omY,omY,omY⟩
def yG(g:Sl ay)(s:straight):Bool:=!dX (λj=>!YM s (g.get j)) g.len
def zma(g:Sl ay)(s t:straight):Int:=cond (yG g s) (cond (yG g t) (cmF (red s.bT s.den) (red t.bT t.den)) (-1)) (cond (yG g t) 1 (aJ (0-cmF (red s.bT s.den) (red t.bT t.den))))
abbrev zBI(C:straight×straight×Pt set->ae Int):Prop:=∀s t (P:Pt set),yN s->yN t->P.v.list.bJ.len<=1000->C (s,t,P)=.ok (zma P.v.list.bJ s t)
theorem zXS{E:ztu}(ztw:zBA E.znW)(rq:OG E.kQ)(Ou:zl6 E.FX):zBI (ztv E):=λs t P S T hl=>ae.ext λk=>by
 have s1:=S.1;have s3:=S.2.2;have t1:=T.1;have t3:=T.2.2
 rw[e254,ztw _ _ hl,aX,ztw _ _ hl,aX,rq _ _ omY omY omY omY,aX,rq _ _ omY omY omY omY,aX,
  Ou _ _ (zJH (Kz omY omY omY omY) (Kz omY omY omY omY)) (zJH (Kz omY omY omY omY) (Kz omY omY omY omY)),aX,aX]
 unfold zma;show cond (yG P.v.list.bJ s) (cond (yG P.v.list.bJ t) _ (cond (yG P.v.list.bJ s) _ (cond (yG P.v.list.bJ t) _ _))) (cond (yG P.v.list.bJ s) _ (cond (yG P.v.list.bJ t) _ _))=_;cases yG P.v.list.bJ s<;>cases yG P.v.list.bJ t<;>rfl
theorem ztM{g:Sl ay}(G:dh g){s t:straight}(hs:uj g s)(ht:uj g t):zma g s t<0↔OI g s t:=by
 have S:=kP G hs;have T:=kP G ht;have a:=YU G S;have b:=YU G T;have ps:0<s.den:=by have:=S.2.2;omega
 have pt:0<t.den:=by have:=T.2.2;omega
 have e1:=(zl7 (a:=red s.bT s.den) (b:=red t.bT t.den)).trans (zl9 ps pt);have e2:=(zl8 (a:=red s.bT s.den) (b:=red t.bT t.den)).trans (zl9 pt ps);have bb:=zJI (red s.bT s.den) (red t.bT t.den);have e3:AC (OH s) (OH t)↔s.bT*t.den<t.bT*s.den:=Wp;have e4:AC (OH t) (OH s)↔t.bT*s.den<s.bT*t.den:=Wp;unfold zma OI;rw[<- a,<- b,e3,e4,<- e1,<- e2,aT omY omY];show cond (yG g s) _ _<0↔(yG g s=true/\(yG g t=true->_))\/(¬yG g s=true/\¬yG g t=true/\_);cases yG g s<;>cases yG g t<;>simp
theorem zwQ{α:Type}[bD α][tZ α]{C:List PA→ae (List PA)}{caps:List PV}{ag:Bool}{w:Sl α}{cmp:α→α→Int}{R:α→α→Prop}(hn:w.len≤1000000)
    (hc:∀i j,i<w.len->j<w.len->Lc C caps ag (uQ w) i j=some (cmp (w.get i) (w.get j))) (hR:∀i j,i<w.len->j<w.len->(cmp (w.get i) (w.get j)<0↔R (w.get i) (w.get j)))
    (irr:∀i,i<w.len->¬R (w.get i) (w.get i)) (tot:∀i j,i<w.len->j<w.len->i≠j->R (w.get i) (w.get j)\/R (w.get j) (w.get i)) (asym:∀i j,i<w.len->j<w.len->R (w.get i) (w.get j)->¬R (w.get j) (w.get i))
    (tr:∀i j k,i<w.len->j<w.len->k<w.len->R (w.get i) (w.get j)->R (w.get j) (w.get k)->R (w.get i) (w.get k)) :
    soP C caps ag w=true/\∃l:List Nat,l.Perm (List.range w.len)/\l.Pairwise (λi j=>R (w.get i) (w.get j))/\∀i (h:i<l.length),soG C caps ag w i=w.get l[i]:=by
  have hv:∀i j,i<w.len->j<w.len->(oJ C caps ag (uQ w) i j<0↔R (w.get i) (w.get j)):=λi j hi hj=>by
    unfold oJ;rw[hc i j hi hj];exact hR i j hi hj
  have S1:zid w.len (λi j=>(Lc C caps ag (uQ w) i j).isSome) (oJ C caps ag (uQ w))=true:=by
    simp only[zid,yL,KQ,fQ,V8,oD,JS,jqU,dqM];intro i hi;refine⟨by have:¬oJ C caps ag (uQ w) i i<0:=λh=>irr i hi ((hv i i hi hi).1 h);omega,λj hj=>?_⟩;refine⟨⟨by rw[hc i j hi hj];rfl,?_⟩,λk hk=>?_⟩;by_cases Ju:i=j;exact .inl (.inl (by rw[Ju];exact Nat.beq_refl j));rcases tot i j hi hj Ju with h|h
    have:¬oJ C caps ag (uQ w) j i<0:=fun k=>asym i j hi hj h ((hv j i hj hi).1 k);exact .inl (.inr ⟨(hv i j hi hj).2 h,omY⟩);have:¬oJ C caps ag (uQ w) i j<0:=fun k=>asym j i hj hi h ((hv i j hi hj).1 k);exact .inr ⟨(hv j i hj hi).2 h,omY⟩;by_cases h1:oJ C caps ag (uQ w) i j<0;by_cases h2:oJ C caps ag (uQ w) j k<0;exact .inr ((hv i k hi hk).2 (tr i j k hi hj hk ((hv i j hi hj).1 h1) ((hv j k hj hk).1 h2)));exact .inl (.inr h2);exact .inl (.inl h1)
  have hb:(zyt w.len (λi j=>(Lc C caps ag (uQ w) i j).isSome) (oJ C caps ag (uQ w))).b=true:=by
    show(Nat.ble w.len 4611686018427387&&zid w.len _ _)=true;rw[S1,qj0 omY];rfl
  have T:STO w.len (oJ C caps ag (uQ w)):=(CP.h _ hb).2.2;have pm:=CQ (c:=oJ C caps ag (uQ w)) w.len;refine⟨hb,yR w.len (oJ C caps ag (uQ w)),pm,?_,λi h=>?_⟩;have nd:(yR w.len (oJ C caps ag (uQ w))).Nodup:=pm.nodup_iff.2 List.nodup_range;refine(List.Pairwise.and (X6 T) nd).imp_of_mem ?_;intro a b ha hb hab;have ha:=KQ.1 (pm.mem_iff.1 ha);have hb:=KQ.1 (pm.mem_iff.1 hb);rcases tot a b ha hb hab.2 with h|h
  exact h;exact absurd ((hv b a hb ha).2 h) hab.1;show(bD.dec (bD.enc (w.get ((yR w.len (oJ C caps ag (uQ w))).getD i ((yR w.len (oJ C caps ag (uQ w))).getD 0 0))))).1=_;rw[tZ.de,jqG,yC h];rfl
end Go.Proofs
